import Derived.Test.YtgkliaalfiginaaDoorMonV3
import Derived.Test.YtgkliaalfiginaaDoorMonQ8
namespace Go.Proofs.YtgkliaalfiginaaDoor
open Go.RowKit Go.Lib
open Go.Proofs.YtgkliaalfiginaaDoor.PMoneyShares
open Go.Proofs.YtgkliaalfiginaaDoorW.PrintWords
set_option linter.unusedVariables false
set_option linter.unusedSimpArgs false

namespace Mo
theorem rd_getElem (l : List Int) (i : Nat) (h : i < l.length) : rd l (i : Int) = l[i] := by
  unfold rd
  simp [List.getD_eq_getElem?_getD, h]
theorem l0_bad (T : Int) (xs : List Int) (hn : xs.length ≤ 4096) : ∀ c i s : Nat, xs.length - i = c → i ≤ xs.length → (∀ j (h : j < xs.length), j < i → okW xs[j] = true) → s ≤ i * 1000000000000000 → xs.all okW = false →
    lexpriorref02_Share.l0 (c + 1) T xs (s : Int) (i : Int) = some (([] : List Int), 4) := by
  intro c
  induction c with
  | zero =>
    intro i s h1 h2 hg hs hb
    exfalso
    have : xs.all okW = true := by
      rw [List.all_eq_true]
      intro x hx
      obtain ⟨j, hj, rfl⟩ := List.getElem_of_mem hx
      exact hg j hj (by omega)
    rw [this] at hb
    cases hb
  | succ c ih =>
    intro i s h1 h2 hg hs hb
    have hi : i < xs.length := by omega
    have hs2 : i * 1000000000000000 ≤ 4096 * 1000000000000000 := Nat.mul_le_mul_right _ (by omega)
    rw [lexpriorref02_Share.l0, if_pos (by omega), if_pos (by omega), rd_getElem xs i hi]
    by_cases c1 : xs[i] < 0
    · rw [if_pos c1]
    · rw [if_neg c1]
      by_cases c2 : xs[i] > 1000000000000000
      · rw [if_pos c2]
      · rw [if_neg c2]
        have hok : okW xs[i] = true := by unfold okW; simp; omega
        have hg' : ∀ j (h : j < xs.length), j < i + 1 → okW xs[j] = true := fun j h hj => by
          rcases Nat.lt_or_ge j i with h3 | h3
          · exact hg j h h3
          · have : j = i := by omega
            subst this; exact hok
        have ih' := ih (i + 1) (s + xs[i].toNat) (by omega) (by omega) hg'
        generalize xs[i] = x at *
        rw [vwrap ((s : Int) + x) (by omega), vwrap ((i : Int) + 1) (by omega)]
        have := ih' (by omega) hb
        rw [← this]
        congr 1
        omega
theorem rshare_bad (total : Int) (xs : List Int) (he : shareErr total xs ≠ 0) : ∃ k, lexpriorref02_Share.f k total xs = some (([] : List Int), shareErr total xs) := by
  have hff : ¬ (false = true) := by decide
  unfold shareErr at he ⊢
  by_cases c1 : total < 0
  · refine ⟨1, ?_⟩
    rw [if_pos c1]
    unfold lexpriorref02_Share.f
    rw [if_pos c1, lexpriorref02_Share.j0, if_pos rfl]
  rw [if_neg c1] at he ⊢
  by_cases c2 : chk total ≠ 0
  · refine ⟨1, ?_⟩
    rw [if_pos c2]
    unfold lexpriorref02_Share.f
    rw [if_neg c1, vmay_f, decide_eq_false c2, Option.bind_some]
    show lexpriorref02_Share.j0 (0 + 1) total xs true = _
    rw [lexpriorref02_Share.j0, if_pos rfl]
  rw [if_neg c2] at he ⊢
  have hk : chk total = 0 := by omega
  have F : ∀ k, lexpriorref02_Share.f (k + 1) total xs = (if (xs.length : Int) = 0 then (lexpriorref02_Share.j1 k total xs true) else (lexpriorref02_Share.j1 k total xs (decide ((xs.length : Int) > 4096)))) := fun k => by
    unfold lexpriorref02_Share.f
    rw [if_neg c1, vmay_f, decide_eq_true hk, Option.bind_some]
    show lexpriorref02_Share.j0 (k + 1) total xs false = _
    rw [lexpriorref02_Share.j0, if_neg hff]
  by_cases c3 : xs.length = 0
  · refine ⟨0 + 1 + 1, ?_⟩
    rw [if_pos c3, F, if_pos (by omega), lexpriorref02_Share.j1, if_pos rfl]
  rw [if_neg c3] at he ⊢
  by_cases c4 : 4096 < xs.length
  · refine ⟨0 + 1 + 1, ?_⟩
    rw [if_pos c4, F, if_neg (by omega), decide_eq_true (by omega), lexpriorref02_Share.j1, if_pos rfl]
  rw [if_neg c4] at he ⊢
  have F2 : ∀ k, lexpriorref02_Share.f (k + 1 + 1) total xs = lexpriorref02_Share.l0 k total xs 0 0 := fun k => by
    rw [F, if_neg (by omega), decide_eq_false (by omega), lexpriorref02_Share.j1, if_neg hff]
  by_cases c5 : xs.all okW = false
  · refine ⟨xs.length + 1 + 1 + 1, ?_⟩
    rw [if_pos c5, F2]
    exact l0_bad total xs (by omega) xs.length 0 0 (by omega) (by omega) (fun j _ hj => by omega) (by omega) c5
  rw [if_neg c5] at he ⊢
  have c5' : xs.all okW = true := by simpa using c5
  by_cases c6 : Sh.pre (wOf xs) xs.length = 0
  · refine ⟨0 + xs.length + 1 + 1 + 1, ?_⟩
    rw [if_pos c6, F2]
    refine l0_law xs.length total xs (wOf xs) (by omega) rfl (fun i hi => ?_) (fun i hi => (wOf_at xs i c5' hi).2) _ 0 ?_ xs.length 0 (by omega) (by omega)
    · have := (wOf_at xs i c5' hi).1
      unfold rd
      rw [Int.toNat_natCast, List.getD_eq_getElem?_getD, this]
      rfl
    · rw [lexpriorref02_Share.l0, if_neg (by omega), c6, if_pos (by omega)]
  rw [if_neg c6] at he
  exact absurd rfl he
end Mo
end Go.Proofs.YtgkliaalfiginaaDoor
