import Derived.Test.YtgkliaalfiginaaDoorMonV1
namespace Go.Proofs.YtgkliaalfiginaaDoor
open Go.RowKit Go.Lib
open Go.Proofs.YtgkliaalfiginaaDoor.PMoneyShares
open Go.Proofs.YtgkliaalfiginaaDoorW.PrintWords
set_option linter.unusedVariables false
set_option linter.unusedSimpArgs false

namespace Mo
/-- what maps n numbers into n numbers, no two to one, meets all -/
theorem surj_of : ∀ (n : Nat) (f : Nat → Nat), (∀ i, i < n → f i < n) → (∀ i j, i < j → j < n → f i ≠ f j) → ∀ y, y < n → ∃ t, t < n ∧ f t = y := by
  intro n
  induction n with
  | zero => intro f _ _ y hy; omega
  | succ n ih =>
    intro f hf hi y hy
    have hz := hf n (by omega)
    have hg1 : ∀ i, i < n → (if f i = n then f n else f i) < n := fun i h => by
      have h1 := hf i (by omega)
      have h2 := hi i n h (by omega)
      split <;> omega
    have hg2 : ∀ i j, i < j → j < n → (if f i = n then f n else f i) ≠ (if f j = n then f n else f j) := fun i j h1 h2 => by
      have a1 := hi i j h1 (by omega)
      have a2 := hi i n (by omega) (by omega)
      have a3 := hi j n (by omega) (by omega)
      split <;> split <;> omega
    have hs := ih (fun i => if f i = n then f n else f i) hg1 hg2
    by_cases h1 : y = f n
    · exact ⟨n, by omega, h1.symm⟩
    · by_cases h2 : y = n
      · obtain ⟨t, ht, he⟩ := hs (f n) (by omega)
        have a := hi t n ht (by omega)
        have he' : (if f t = n then f n else f t) = f n := he
        split at he'
        · exact ⟨t, by omega, by omega⟩
        · exact absurd he' a
      · obtain ⟨t, ht, he⟩ := hs y (by omega)
        have he' : (if f t = n then f n else f t) = y := he
        split at he'
        · exact absurd he'.symm h1
        · exact ⟨t, by omega, he'⟩
/-- the rests behind j picks -/
def G (R f : Nat → Nat) : Nat → Nat → Int
  | 0 => fun i => (R i : Int)
  | j + 1 => fun i => if i = f j then -1 else G R f j i
theorem G_picked (R f : Nat → Nat) : ∀ j t, t < j → G R f j (f t) = -1 := by
  intro j
  induction j with
  | zero => intro t h; omega
  | succ j ih =>
    intro t h
    show (if f t = f j then (-1 : Int) else G R f j (f t)) = -1
    by_cases e : f t = f j
    · rw [if_pos e]
    · rw [if_neg e]
      refine ih t ?_
      rcases Nat.lt_or_ge t j with h2 | h2
      · exact h2
      · have : t = j := by omega
        subst this
        exact absurd rfl e
theorem G_left (R f : Nat → Nat) : ∀ j i, (∀ t, t < j → f t ≠ i) → G R f j i = (R i : Int) := by
  intro j
  induction j with
  | zero => intro i _; rfl
  | succ j ih =>
    intro i h
    show (if i = f j then (-1 : Int) else G R f j i) = _
    rw [if_neg (fun e => h j (by omega) e.symm)]
    exact ih i (fun t ht => h t (by omega))
/-- the one that is picked is the first of the greatest -/
theorem G_best (R f : Nat → Nat) (n : Nat) (hs : St.Srt R f 0 n) (hf : ∀ i, i < n → f i < n) (j : Nat) (hj : j < n) :
    (∀ i, i < n → G R f j i ≤ G R f j (f j)) ∧ (∀ i, i < f j → G R f j i < G R f j (f j)) := by
  have inj : ∀ a b, a < b → b < n → f a ≠ f b := fun a b h1 h2 e => by
    have := hs a b (by omega) h1 h2
    rw [e] at this
    unfold St.Lt at this
    omega
  have hsur := surj_of n f hf inj
  have hme : G R f j (f j) = (R (f j) : Int) := G_left R f j (f j) (fun t ht => inj t j ht hj)
  have each : ∀ i, i < n → G R f j i = -1 ∨ i = f j ∨ (G R f j i = (R i : Int) ∧ St.Lt R (f j) i) := fun i hi => by
    obtain ⟨t, ht, rfl⟩ := hsur i hi
    rcases Nat.lt_trichotomy t j with h | h | h
    · left; exact G_picked R f j t h
    · right; left; rw [h]
    · right; right
      refine ⟨G_left R f j (f t) (fun s hs2 => inj s t (by omega) ht), hs j t (by omega) h ht⟩
  constructor
  · intro i hi
    rw [hme]
    rcases each i hi with h | h | ⟨h1, h2⟩
    · rw [h]; omega
    · rw [h, hme]; omega
    · rw [h1]; unfold St.Lt at h2; omega
  · intro i hi
    have hfj := hf j hj
    rw [hme]
    rcases each i (by omega) with h | h | ⟨h1, h2⟩
    · rw [h]; omega
    · omega
    · rw [h1]; unfold St.Lt at h2; omega
theorem pick_l (x8 x9 : List Int) (x10 : Int) (m : Nat) (r : List Int × Int) (K : Nat) (hlen : x8.length = x9.length) (hl : x9.length ≤ 4096) (hm : m < x9.length)
    (h1 : ∀ i : Nat, i < x9.length → rd x9 (i : Int) ≤ rd x9 (m : Int)) (h2 : ∀ i : Nat, i < m → rd x9 (i : Int) < rd x9 (m : Int))
    (H : lexpriorref02_Share.l2 K (x8.set m (wrap64 (rd x8 (m : Int) + 1))) (x9.set m (-1)) (wrap64 (x10 - 1)) = some r) :
    ∀ k i b : Nat, x9.length - i = k → i ≤ x9.length → b < i → (m < i → b = m) → lexpriorref02_Share.l3 (K + k + 1) x8 x9 x10 (b : Int) (i : Int) = some r := by
  intro k
  induction k with
  | zero =>
    intro i b e hi hb hbm
    obtain rfl := hbm (by omega)
    show lexpriorref02_Share.l3 (K + 1) x8 x9 x10 _ _ = _
    rw [lexpriorref02_Share.l3, if_neg (by omega), if_pos (by omega), if_pos (by omega), if_pos (by omega), Int.toNat_natCast]
    exact H
  | succ k ih =>
    intro i b e hi hb hbm
    rw [show K + (k + 1) + 1 = (K + k + 1) + 1 by omega]
    rw [lexpriorref02_Share.l3, if_pos (by omega), if_pos (by omega), if_pos (by omega), if_pos (by omega), vwrap ((i : Int) + 1) (by omega)]
    by_cases c : rd x9 (i : Int) > rd x9 (b : Int)
    · rw [if_pos c]
      refine ih (i + 1) i (by omega) (by omega) (by omega) (fun h => ?_)
      rcases Nat.lt_or_ge m i with h3 | h3
      · have := hbm h3
        subst this
        have := h1 i (by omega)
        omega
      · omega
    · rw [if_neg c]
      refine ih (i + 1) b (by omega) (by omega) (by omega) (fun h => ?_)
      rcases Nat.lt_or_ge m i with h3 | h3
      · exact hbm h3
      · have : m = i := by omega
        subst this
        have := h2 b hb
        omega
end Mo
end Go.Proofs.YtgkliaalfiginaaDoor
