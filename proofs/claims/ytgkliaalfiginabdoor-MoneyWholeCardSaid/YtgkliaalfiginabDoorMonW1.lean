import Derived.Test.YtgkliaalfiginabDoorMonQ5
/- the plain law of MoneyWhole: what Share makes of a total -/
namespace Go.Proofs.YtgkliaalfiginabDoor
set_option linter.unusedVariables false
set_option linter.unusedSimpArgs false
namespace Wh
open St (Lt Srt)
/-- what maps n numbers into n numbers, no two to one, meets all -/
theorem surj_of : ∀ (n : Nat) (f : Nat → Nat), (∀ i, i < n → f i < n) → (∀ i j, i < j → j < n → f i ≠ f j) → ∀ y, y < n → ∃ t, t < n ∧ f t = y := by
  intro n
  induction n with
  | zero => intro f _ _ y hy; omega
  | succ n ih =>
    intro f hf hi y hy
    have hz := hf n (by omega)
    have hg1 : ∀ i, i < n → (if f i = n then f n else f i) < n := fun i h => by
      have h1 := hf i (by omega)
      have h2 := hi i n h (by omega)
      split <;> omega
    have hg2 : ∀ i j, i < j → j < n → (if f i = n then f n else f i) ≠ (if f j = n then f n else f j) := fun i j h1 h2 => by
      have a1 := hi i j h1 (by omega)
      have a2 := hi i n (by omega) (by omega)
      have a3 := hi j n (by omega) (by omega)
      split <;> split <;> omega
    have hs := ih (fun i => if f i = n then f n else f i) hg1 hg2
    by_cases h1 : y = f n
    · exact ⟨n, by omega, h1.symm⟩
    · by_cases h2 : y = n
      · obtain ⟨t, ht, he⟩ := hs (f n) (by omega)
        have a := hi t n ht (by omega)
        have he' : (if f t = n then f n else f t) = f n := he
        split at he'
        · exact ⟨t, by omega, by omega⟩
        · exact absurd he' a
      · obtain ⟨t, ht, he⟩ := hs y (by omega)
        have he' : (if f t = n then f n else f t) = y := he
        split at he'
        · exact absurd he'.symm h1
        · exact ⟨t, by omega, he'⟩
/-- i is among the first j -/
def hit (f : Nat → Nat) (j i : Nat) : Prop := ∃ t, t < j ∧ f t = i
theorem bump_eq (Q f : Nat → Nat) (n : Nat) (inj : ∀ a b, a < b → b < n → f a ≠ f b) : ∀ j, j ≤ n → ∀ i, (hit f j i → Sh.bump Q f j i = Q i + 1) ∧ (¬ hit f j i → Sh.bump Q f j i = Q i) := by
  intro j
  induction j with
  | zero => intro _ i; exact ⟨fun ⟨t, h, _⟩ => absurd h (by omega), fun _ => rfl⟩
  | succ j ih =>
    intro hj i
    obtain ⟨h1, h2⟩ := ih (by omega) i
    have hb : Sh.bump Q f (j + 1) i = if i = f j then Sh.bump Q f j i + 1 else Sh.bump Q f j i := rfl
    rw [hb]
    by_cases c : i = f j
    · have hno : ¬ hit f j i := fun ⟨t, ht, he⟩ => inj t j ht (by omega) (he.trans c)
      rw [if_pos c, h2 hno]
      exact ⟨fun _ => rfl, fun h => absurd ⟨j, by omega, c.symm⟩ h⟩
    · rw [if_neg c]
      refine ⟨fun ⟨t, ht, he⟩ => h1 ⟨t, ?_, he⟩, fun h => h2 (fun ⟨t, ht, he⟩ => h ⟨t, by omega, he⟩)⟩
      have : t ≠ j := fun e => c (by rw [← he, e])
      omega
theorem pre_add1 (g : Nat → Nat) (k : Nat) : ∀ n, Sh.pre (fun i => if i = k then g i + 1 else g i) n = Sh.pre g n + (if k < n then 1 else 0) := by
  intro n
  induction n with
  | zero => rfl
  | succ n ih =>
    rw [Sh.pre_succ, ih, Sh.pre_succ]
    by_cases c : n = k
    · rw [if_pos c, if_neg (by omega), if_pos (by omega)]; omega
    · rw [if_neg c]
      by_cases d : k < n
      · rw [if_pos d, if_pos (by omega)]; omega
      · rw [if_neg d, if_neg (by omega)]; omega
theorem pre_bump (Q f : Nat → Nat) (n : Nat) (hf : ∀ i, i < n → f i < n) : ∀ j, j ≤ n → Sh.pre (Sh.bump Q f j) n = Sh.pre Q n + j := by
  intro j
  induction j with
  | zero => intro _; rfl
  | succ j ih =>
    intro hj
    rw [Sh.bump_succ, pre_add1, ih (by omega), if_pos (hf j (by omega))]
    omega
/-- the rests behind j picks -/
def res (R f : Nat → Nat) : Nat → Nat → Nat
  | 0 => R
  | j + 1 => fun i => if i = f j then 0 else res R f j i
theorem res_hit (R f : Nat → Nat) (i : Nat) : ∀ j, hit f j i → res R f j i = 0 := by
  intro j
  induction j with
  | zero => exact fun ⟨t, h, _⟩ => absurd h (by omega)
  | succ j ih =>
    rintro ⟨t, ht, he⟩
    have hb : res R f (j + 1) i = if i = f j then 0 else res R f j i := rfl
    rw [hb]
    by_cases c : i = f j
    · rw [if_pos c]
    · rw [if_neg c]
      have : t ≠ j := fun e => c (by rw [← he, e])
      exact ih ⟨t, by omega, he⟩
theorem res_le (R f : Nat → Nat) (i : Nat) : ∀ j, res R f j i ≤ R i := by
  intro j
  induction j with
  | zero => exact Nat.le_refl _
  | succ j ih =>
    have hb : res R f (j + 1) i = if i = f j then 0 else res R f j i := rfl
    rw [hb]
    split
    · omega
    · exact ih
theorem pre_drop (g : Nat → Nat) (k : Nat) : ∀ n, Sh.pre g n ≤ Sh.pre (fun i => if i = k then 0 else g i) n + g k := by
  intro n
  induction n with
  | zero => exact Nat.zero_le _
  | succ n ih =>
    rw [Sh.pre_succ, Sh.pre_succ]
    by_cases c : n = k
    · have e : Sh.pre (fun i => if i = k then 0 else g i) n = Sh.pre g n := Sh.pre_congr _ _ _ (fun i hi => if_neg (by omega))
      rw [if_pos c, e, c]
      omega
    · rw [if_neg c]; omega
theorem pre_res (R f : Nat → Nat) (n M : Nat) (hM : ∀ i, R i ≤ M) : ∀ j, Sh.pre R n ≤ Sh.pre (res R f j) n + j * M := by
  intro j
  induction j with
  | zero => rw [Nat.zero_mul]; exact Nat.le_refl _
  | succ j ih =>
    have h1 := pre_drop (res R f j) (f j) n
    have h2 := res_le R f (f j) j
    have h3 := hM (f j)
    have e : res R f (j + 1) = fun i => if i = f j then 0 else res R f j i := rfl
    rw [e, Nat.succ_mul]
    omega
theorem pos_of_hit (R f : Nat → Nat) (n A L : Nat) (hs : Srt R f 0 n) (hf : ∀ i, i < n → f i < n) (inj : ∀ a b, a < b → b < n → f a ≠ f b) (ha : 0 < A) (hR : ∀ i, R i < A) (hL : L * A = Sh.pre R n) (hLn : L ≤ n) (t : Nat) (ht : t < L) : 0 < R (f t) := by
  rcases Nat.eq_zero_or_pos (R (f t)) with h0 | h0
  · exfalso
    have hz : ∀ i, i < n → res R f t i ≤ 0 := by
      intro i hi
      obtain ⟨s, hsn, rfl⟩ := surj_of n f hf inj i hi
      rcases Nat.lt_or_ge s t with c | c
      · rw [res_hit R f _ t ⟨s, c, rfl⟩]; exact Nat.le_refl _
      · have hle := res_le R f (f s) t
        rcases Nat.eq_or_lt_of_le c with c2 | c2
        · subst c2; omega
        · have hl := hs t s (Nat.zero_le _) c2 hsn
          unfold Lt at hl
          omega
    have h1 := Sh.pre_le _ 0 n hz
    have h2 := pre_res R f n (A - 1) (fun i => by have := hR i; omega) t
    have h3 : t * (A - 1) ≤ t * A := Nat.mul_le_mul_left _ (by omega)
    have h4 : (t + 1) * A ≤ L * A := Nat.mul_le_mul_right _ (by omega)
    rw [Nat.succ_mul] at h4
    omega
  · exact h0
/-- what the stage's theorem says of parts -/
structure Ok (n T : Nat) (W B : Nat → Nat) : Prop where
  sum : Sh.pre B n = T
  zero : ∀ i, i < n → W i = 0 → B i = 0
  up : ∀ i k, i < n → k < n → W k < W i → B k ≤ B i
  same : ∀ i k, k < i → i < n → W i = W k → B i ≤ B k ∧ B k ≤ B i + 1
theorem law (T n A L : Nat) (W Q R f : Nat → Nat) (hA : Sh.pre W n = A) (ha : 0 < A) (h1 : 0 < n) (hQ : Sh.q T A W = Q) (hR : Sh.r T A W = R) (hL : T - Sh.pre Q n = L) (hs : Srt R f 0 n) (hf : ∀ i, i < n → f i < n) :
    Ok n T W (Sh.bump Q f L) := by
  have hl : Sh.pre Q n ≤ T ∧ L * A = Sh.pre R n ∧ L < n := by subst hA hQ hR hL; exact Sh.left T n W ha h1
  have inj : ∀ a b, a < b → b < n → f a ≠ f b := fun a b hab hb e => Lt.irrefl (R := R) (x := f b) (by have h := hs a b (Nat.zero_le _) hab hb; rw [e] at h; exact h)
  have hqr : ∀ i, Q i * A + R i = T * W i := fun i => by subst hQ hR; exact Sh.qr T A W i
  have hRA : ∀ i, R i < A := fun i => by subst hR; exact Nat.mod_lt _ ha
  have hB := bump_eq Q f n inj L (by omega)
  have hlo : ∀ i, Q i ≤ Sh.bump Q f L i := fun i => by
    by_cases c : hit f L i
    · rw [(hB i).1 c]; omega
    · rw [(hB i).2 c]; exact Nat.le_refl _
  have hhi : ∀ i, Sh.bump Q f L i ≤ Q i + 1 := fun i => by
    by_cases c : hit f L i
    · rw [(hB i).1 c]; exact Nat.le_refl _
    · rw [(hB i).2 c]; omega
  have hord : ∀ i k, i < n → R k < R i ∨ (R i = R k ∧ i < k) → hit f L k → hit f L i := by
    rintro i k hi hlt ⟨t, ht, rfl⟩
    obtain ⟨s, hsn, rfl⟩ := surj_of n f hf inj i hi
    rcases Nat.lt_or_ge s L with c | c
    · exact ⟨s, c, rfl⟩
    · have h := hs t s (Nat.zero_le _) (by omega) hsn
      unfold Lt at h
      omega
  have hmono : ∀ i k, Q i = Q k → (hit f L k → hit f L i) → Sh.bump Q f L k ≤ Sh.bump Q f L i := fun i k hq hh => by
    by_cases c : hit f L k
    · rw [(hB k).1 c, (hB i).1 (hh c), hq]; exact Nat.le_refl _
    · rw [(hB k).2 c, ← hq]; exact hlo i
  refine ⟨?_, ?_, ?_, ?_⟩
  · rw [pre_bump Q f n hf L (by omega)]; omega
  · intro i hi hw
    have h2 := hqr i
    rw [hw, Nat.mul_zero] at h2
    have hr0 : R i = 0 := by omega
    have hq0 : Q i = 0 := by
      rcases Nat.eq_zero_or_pos (Q i) with h | h
      · exact h
      · have := Nat.mul_pos h ha; omega
    rw [(hB i).2, hq0]
    rintro ⟨t, ht, rfl⟩
    have := pos_of_hit R f n A L hs hf inj ha hRA hl.2.1 (by omega) t ht
    omega
  · intro i k hi hk hw
    have h2 := hqr i
    have h3 := hqr k
    have h4 : T * W k ≤ T * W i := Nat.mul_le_mul_left _ (by omega)
    have h5 := hRA i
    rcases Nat.lt_trichotomy (Q k) (Q i) with c | c | c
    · exact Nat.le_trans (hhi k) (Nat.le_trans c (hlo i))
    · rw [c] at h3
      refine hmono i k c.symm ?_
      rcases Nat.lt_or_ge (R k) (R i) with d | d
      · exact hord i k hi (Or.inl d)
      · have e : T * W k = T * W i := by omega
        have t0 : T = 0 := by
          rcases Nat.eq_zero_or_pos T with h | h
          · exact h
          · have := Nat.eq_of_mul_eq_mul_left h e; omega
        rintro ⟨t, ht, _⟩
        omega
    · have : (Q i + 1) * A ≤ Q k * A := Nat.mul_le_mul_right _ c
      rw [Nat.succ_mul] at this
      omega
  · intro i k hki hi hw
    have hq : Q i = Q k := by subst hQ; show T * W i / A = T * W k / A; rw [hw]
    have hr : R i = R k := by subst hR; show T * W i % A = T * W k % A; rw [hw]
    refine ⟨hmono k i hq.symm (hord k i (by omega) (Or.inr ⟨hr.symm, hki⟩)), ?_⟩
    have a := hhi k
    have b := hlo i
    omega
end Wh
end Go.Proofs.YtgkliaalfiginabDoor
