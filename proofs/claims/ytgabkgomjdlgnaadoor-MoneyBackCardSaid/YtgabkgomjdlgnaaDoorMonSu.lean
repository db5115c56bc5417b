/- the library's insertion sort, of keys -/
import Derived.Sort.WalkA
import Derived.Test.YtgabkgomjdlgnaaDoorMonSt
namespace Go.Proofs.YtgabkgomjdlgnaaDoor
namespace St
open Go.Sort Go.Proofs
variable {α : Type} [Inhabited α] (val : α → Nat)
/-- an array, read as places -/
def fn (d : Array α) : Nat → Nat := fun i => val d[i]!
theorem fn_swp (d : Array α) (i j : Nat) (hi : i < d.size) (hj : j < d.size) (x : Nat) : fn val (swp d i j) x = if x = i then fn val d j else if x = j then fn val d i else fn val d x := by
  unfold fn
  by_cases h1 : x = i
  · rw [if_pos h1, h1]
    by_cases h : i = j
    · rw [← h, swp_right d i i hi]
    · rw [swp_left d i j hi h]
  · rw [if_neg h1]
    by_cases h2 : x = j
    · rw [if_pos h2, h2, swp_right d i j hj]
    · rw [if_neg h2, swp_other d i j x h1 h2]
theorem swp_sub (d : Array α) (i j a b : Nat) (hi : i < d.size) (hj : j < d.size) (i1 : a ≤ i) (i2 : i < b) (j1 : a ≤ j) (j2 : j < b) : Sub (fn val d) (fn val (swp d i j)) a b := by
  refine ⟨fun x x1 x2 => ?_, fun x hx => ?_⟩
  · rw [fn_swp val d i j hi hj]
    by_cases h1 : x = i
    · exact ⟨j, j1, j2, by rw [if_pos h1]⟩
    · by_cases h2 : x = j
      · exact ⟨i, i1, i2, by rw [if_neg h1, if_pos h2]⟩
      · exact ⟨x, x1, x2, by rw [if_neg h1, if_neg h2]⟩
  · rw [fn_swp val d i j hi hj, if_neg (by omega), if_neg (by omega)]
theorem ins_in (R : Nat → Nat) (lt : α → α → Bool) (hlt : ∀ x y, lt x y = decide (R (val y) < R (val x))) (a t : Nat) : ∀ (j : Nat) (d : Array α), a ≤ j → j ≤ t → t < d.size →
    (∀ x y, a ≤ x → x < y → y ≤ t → x ≠ j → y ≠ j → Lt R (fn val d x) (fn val d y)) → (∀ k, j < k → k ≤ t → Lt R (fn val d j) (fn val d k)) → (∀ k, a ≤ k → k < j → R (fn val d k) = R (fn val d j) → fn val d k < fn val d j) →
    (insInner lt a j d).size = d.size ∧ Srt R (fn val (insInner lt a j d)) a (t + 1) ∧ Sub (fn val d) (fn val (insInner lt a j d)) a (t + 1) := by
  intro j
  induction j with
  | zero =>
    intro d h1 h2 h3 p1 p2 p3
    rw [insInner_stop lt a 0 d (.inl (by omega))]
    refine ⟨rfl, fun x y k1 k2 k3 => ?_, Sub.refl _ _ _⟩
    by_cases h : x = 0
    · subst h; exact p2 y k2 (by omega)
    · exact p1 x y k1 k2 (by omega) h (by omega)
  | succ j ih =>
    intro d h1 h2 h3 p1 p2 p3
    by_cases hja : j + 1 ≤ a
    · rw [insInner_stop lt a (j + 1) d (.inl hja)]
      refine ⟨rfl, fun x y k1 k2 k3 => ?_, Sub.refl _ _ _⟩
      by_cases h : x = j + 1
      · subst h; exact p2 y k2 (by omega)
      · exact p1 x y k1 k2 (by omega) h (by omega)
    · cases hl : lt d[j + 1]! d[j + 1 - 1]! with
      | false =>
        rw [insInner_stop lt a (j + 1) d (.inr hl)]
        rw [hlt] at hl
        have hl2 : ¬ R (fn val d j) < R (fn val d (j + 1)) := of_decide_eq_false hl
        have hlast : Lt R (fn val d j) (fn val d (j + 1)) := by
          have := p3 j (by omega) (by omega)
          unfold Lt; omega
        refine ⟨rfl, fun x y k1 k2 k3 => ?_, Sub.refl _ _ _⟩
        by_cases h : x = j + 1
        · subst h; exact p2 y k2 (by omega)
        · by_cases h' : y = j + 1
          · subst h'
            by_cases h'' : x = j
            · subst h''; exact hlast
            · exact (p1 x j k1 (by omega) (by omega) h (by omega)).trans hlast
          · exact p1 x y k1 k2 (by omega) h h'
      | true =>
        rw [insInner_go lt a (j + 1) d (by omega) hl]
        rw [hlt] at hl
        have hl2 : R (fn val d j) < R (fn val d (j + 1)) := of_decide_eq_true hl
        have e := fn_swp val d (j + 1) j (by omega) (by omega)
        have hs := swp_sub val d (j + 1) j a (t + 1) (by omega) (by omega) (by omega) (by omega) (by omega) (by omega)
        simp only [Nat.add_sub_cancel]
        have P1 : ∀ x y, a ≤ x → x < y → y ≤ t → x ≠ j → y ≠ j → Lt R (fn val (swp d (j + 1) j) x) (fn val (swp d (j + 1) j) y) := by
          intro x y k1 k2 k3 k4 k5
          rw [e x, e y]
          by_cases c1 : x = j + 1
          · rw [if_pos c1, if_neg (by omega), if_neg (by omega)]
            exact p1 j y (by omega) (by omega) k3 (by omega) (by omega)
          · rw [if_neg c1, if_neg k4]
            by_cases c2 : y = j + 1
            · rw [if_pos c2]
              exact p1 x j k1 (by omega) (by omega) c1 (by omega)
            · rw [if_neg c2, if_neg k5]
              exact p1 x y k1 k2 k3 c1 c2
        have P2 : ∀ k, j < k → k ≤ t → Lt R (fn val (swp d (j + 1) j) j) (fn val (swp d (j + 1) j) k) := by
          intro k k1 k2
          rw [e j, e k, if_neg (by omega), if_pos rfl]
          by_cases c1 : k = j + 1
          · rw [if_pos c1]; exact .inl hl2
          · rw [if_neg c1, if_neg (by omega)]
            exact p2 k (by omega) k2
        have P3 : ∀ k, a ≤ k → k < j → R (fn val (swp d (j + 1) j) k) = R (fn val (swp d (j + 1) j) j) → fn val (swp d (j + 1) j) k < fn val (swp d (j + 1) j) j := by
          intro k k1 k2
          rw [e j, e k, if_neg (show ¬ j = j + 1 by omega), if_pos rfl, if_neg (show ¬ k = j + 1 by omega), if_neg (show ¬ k = j by omega)]
          exact p3 k k1 (by omega)
        obtain ⟨q1, q2, q3⟩ := ih (swp d (j + 1) j) (by omega) (by omega) (by rw [size_swp]; exact h3) P1 P2 P3
        exact ⟨q1.trans (size_swp d _ _), q2, hs.trans q3⟩
theorem ins_out (R : Nat → Nat) (lt : α → α → Bool) (hlt : ∀ x y, lt x y = decide (R (val y) < R (val x))) (a b : Nat) : ∀ (n i : Nat) (d : Array α), n = b - i → a < i → b ≤ d.size →
    Srt R (fn val d) a i → Stb R (fn val d) a b →
    (insOuter lt a b i d).size = d.size ∧ Srt R (fn val (insOuter lt a b i d)) a b ∧ Sub (fn val d) (fn val (insOuter lt a b i d)) a b := by
  intro n
  induction n with
  | zero =>
    intro i d hn hi hb h1 h2
    rw [insOuter_stop lt a b i d (by omega)]
    exact ⟨rfl, h1.mono (Nat.le_refl _) (by omega), Sub.refl _ _ _⟩
  | succ n ih =>
    intro i d hn hi hb h1 h2
    rw [insOuter_go lt a b i d (by omega)]
    obtain ⟨q1, q2, q3⟩ := ins_in val R lt hlt a i i d (by omega) (Nat.le_refl _) (by omega) (fun x y k1 k2 k3 k4 k5 => h1 x y k1 k2 (by omega)) (fun k k1 k2 => by omega) (fun k k1 k2 => h2 k i k1 k2 (by omega))
    have hst : Stb R (fn val (insInner lt a i d)) a b := by
      intro x y k1 k2 k3
      by_cases c : y < i + 1
      · exact q2.stb x y k1 k2 c
      · rw [q3.off y (.inr (by omega))]
        by_cases c2 : x < i + 1
        · obtain ⟨x', x1, x2, ex⟩ := q3.sub x k1 c2
          rw [ex]
          exact h2 x' y x1 (by omega) k3
        · rw [q3.off x (.inr (by omega))]
          exact h2 x y k1 k2 k3
    obtain ⟨r1, r2, r3⟩ := ih (i + 1) (insInner lt a i d) (by omega) (by omega) (by omega) q2 hst
    exact ⟨r1.trans q1, r2, (q3.mono (Nat.le_refl _) (by omega)).trans r3⟩
theorem ins (R : Nat → Nat) (lt : α → α → Bool) (hlt : ∀ x y, lt x y = decide (R (val y) < R (val x))) (a b : Nat) (d : Array α) (hb : b ≤ d.size) (h2 : Stb R (fn val d) a b) :
    (insertionSort lt d a b).size = d.size ∧ Srt R (fn val (insertionSort lt d a b)) a b ∧ Sub (fn val d) (fn val (insertionSort lt d a b)) a b :=
  ins_out val R lt hlt a b _ (a + 1) d rfl (by omega) hb (fun x y k1 k2 k3 => by omega) h2
end St
end Go.Proofs.YtgabkgomjdlgnaaDoor
