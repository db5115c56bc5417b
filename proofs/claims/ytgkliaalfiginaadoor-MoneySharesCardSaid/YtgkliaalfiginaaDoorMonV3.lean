import Derived.Test.YtgkliaalfiginaaDoorMonV2
namespace Go.Proofs.YtgkliaalfiginaaDoor
open Go.RowKit Go.Lib
open Go.Proofs.YtgkliaalfiginaaDoor.PMoneyShares
open Go.Proofs.YtgkliaalfiginaaDoorW.PrintWords
set_option linter.unusedVariables false
set_option linter.unusedSimpArgs false

namespace Mo
def Gl (n : Nat) (g : Nat → Int) : List Int := (List.range n).map g
theorem Gl_len (n : Nat) (g : Nat → Int) : (Gl n g).length = n := by simp [Gl]
theorem Gl_get (n : Nat) (g : Nat → Int) (i : Nat) (h : i < n) : rd (Gl n g) (i : Int) = g i := by
  unfold rd Gl
  simp [List.getD_eq_getElem?_getD, h]
theorem Gl_set (n : Nat) (g : Nat → Int) (m : Nat) (v : Int) : (Gl n g).set m v = Gl n (fun i => if i = m then v else g i) := by
  unfold Gl
  apply List.ext_getElem
  · simp
  · intro i h1 h2
    rw [List.getElem_set]
    simp
    by_cases e : m = i
    · rw [if_pos e, if_pos e.symm]
    · rw [if_neg e, if_neg (fun h => e h.symm)]
theorem Gl_succ (n : Nat) (g : Nat → Int) : Gl n g ++ [g n] = Gl (n + 1) g := by
  unfold Gl
  rw [List.range_succ, List.map_append]
  rfl
theorem Gl_congr (n : Nat) (g h : Nat → Int) (e : ∀ i, g i = h i) : Gl n g = Gl n h := by rw [show g = h from funext e]
theorem l2_law (n L : Nat) (Q R f : Nat → Nat) (hs : St.Srt R f 0 n) (hf : ∀ i, i < n → f i < n) (hn : n ≤ 4096) (hL : L < n) (hQ : ∀ i, i < n → Q i ≤ 1000000000000000) :
    ∀ c j, L - j = c → j ≤ L → ∃ K, ∀ e, lexpriorref02_Share.l2 (K + e) (Gl n (fun i => (Sh.bump Q f j i : Int))) (Gl n (G R f j)) ((L - j : Nat) : Int) = some (Gl n (fun i => (Sh.bump Q f L i : Int)), 0) := by
  intro c
  induction c with
  | zero =>
    intro j h1 h2
    obtain rfl : j = L := by omega
    refine ⟨1, fun e => ?_⟩
    rw [show 1 + e = e + 1 by omega, lexpriorref02_Share.l2, if_neg (by omega)]
  | succ c ih =>
    intro j h1 h2
    obtain ⟨K, hK⟩ := ih (j + 1) (by omega) (by omega)
    have hjn : j < n := by omega
    have hfj := hf j hjn
    obtain ⟨b1, b2⟩ := G_best R f n hs hf j hjn
    refine ⟨K + (n - 1) + 1 + 1, fun e => ?_⟩
    have hbj := Sh.bump_le Q f j (f j)
    have hqj := hQ (f j) hfj
    have H : lexpriorref02_Share.l2 (K + e) ((Gl n (fun i => (Sh.bump Q f j i : Int))).set (f j) (wrap64 (rd (Gl n (fun i => (Sh.bump Q f j i : Int))) (f j : Int) + 1))) ((Gl n (G R f j)).set (f j) (-1)) (wrap64 (((L - j : Nat) : Int) - 1)) = some (Gl n (fun i => (Sh.bump Q f L i : Int)), 0) := by
      rw [Gl_set, Gl_set, Gl_get n _ _ hfj, vwrap ((Sh.bump Q f j (f j) : Int) + 1) (by omega), vwrap (((L - j : Nat) : Int) - 1) (by omega)]
      rw [Gl_congr n (fun i => if i = f j then (Sh.bump Q f j (f j) : Int) + 1 else (Sh.bump Q f j i : Int)) (fun i => (Sh.bump Q f (j + 1) i : Int)) (fun i => by
        rw [Sh.bump_succ]
        by_cases h : i = f j
        · subst h; simp
        · simp [h])]
      rw [show ((L - j : Nat) : Int) - 1 = ((L - (j + 1) : Nat) : Int) by omega]
      exact hK e
    have P := pick_l (Gl n (fun i => (Sh.bump Q f j i : Int))) (Gl n (G R f j)) ((L - j : Nat) : Int) (f j) _ (K + e) (by rw [Gl_len, Gl_len]) (by rw [Gl_len]; exact hn) (by rw [Gl_len]; exact hfj)
      (fun i hi => by rw [Gl_len] at hi; rw [Gl_get n _ i hi, Gl_get n _ _ hfj]; exact b1 i hi)
      (fun i hi => by rw [Gl_get n _ i (by omega), Gl_get n _ _ hfj]; exact b2 i hi) H (n - 1) 1 0 (by rw [Gl_len]) (by rw [Gl_len]; omega) (by omega) (fun h => by omega)
    rw [show K + (n - 1) + 1 + 1 + e = (K + e + (n - 1) + 1) + 1 by omega, lexpriorref02_Share.l2, if_pos (by omega)]
    exact P
theorem part_more (T W A : Nat) (hT : T ≤ 1000000000000000) (hW : W ≤ A) (hA : 0 < A) (hA2 : A ≤ 4096000000000000000) : ∀ k, lexpriorref02_part.f (103 + k) (T : Int) (W : Int) (A : Int) = some (((T * W / A : Nat) : Int), ((T * W % A : Nat) : Int)) := by
  intro k
  induction k with
  | zero => exact part_f T W A hT hW hA hA2
  | succ k ih => exact lexpriorref02_part.mono _ _ _ _ _ ih
theorem l1_law (n T A L : Nat) (xs : List Int) (W Q R f : Nat → Nat) (hn : n ≤ 4096) (hxn : xs.length = n) (hx : ∀ i, i < n → rd xs (i : Int) = (W i : Int)) (hT : T ≤ 1000000000000000) (hA : 0 < A) (hA2 : A ≤ 4096000000000000000)
    (hW : ∀ i, i < n → W i ≤ A) (hq : ∀ i, Q i = T * W i / A) (hr : ∀ i, R i = T * W i % A) (hp : ∀ j, j ≤ n → Sh.pre Q j ≤ T) (hLe : T - Sh.pre Q n = L) (K : Nat) (res : List Int × Int)
    (H : ∀ e, lexpriorref02_Share.l2 (K + e) (Gl n (fun i => (Q i : Int))) (Gl n (fun i => (R i : Int))) (L : Int) = some res) :
    ∀ c i, n - i = c → i ≤ n → ∀ e, lexpriorref02_Share.l1 (K + 103 + e + c + 1) (T : Int) xs (A : Int) (Gl i (fun i => (Q i : Int))) (Gl i (fun i => (R i : Int))) ((T - Sh.pre Q i : Nat) : Int) (i : Int) = some res := by
  intro c
  induction c with
  | zero =>
    intro i h1 h2 e
    obtain rfl : i = n := by omega
    rw [show K + 103 + e + 0 + 1 = (K + (103 + e)) + 1 by omega, lexpriorref02_Share.l1, if_neg (by omega), hLe]
    exact H (103 + e)
  | succ c ih =>
    intro i h1 h2 e
    have hi : i < n := by omega
    have hpi := hp (i + 1) (by omega)
    rw [Sh.pre_succ] at hpi
    rw [show K + 103 + e + (c + 1) + 1 = (K + 103 + e + c + 1) + 1 by omega, lexpriorref02_Share.l1, if_pos (by omega), if_pos (by omega), hx i hi]
    rw [show K + 103 + e + c + 1 = 103 + (K + e + c + 1) by omega, part_more T (W i) A hT (hW i hi) hA hA2, Option.bind_some, ← hq i, ← hr i, Gl_len, Gl_len, if_pos (by omega), if_pos (by omega)]
    rw [show (103 + (K + e + c + 1)) = K + 103 + e + c + 1 by omega]
    have hs := ih (i + 1) (by omega) (by omega) e
    rw [← Gl_succ, ← Gl_succ] at hs
    rw [vwrap (((T - Sh.pre Q i : Nat) : Int) - (Q i : Int)) (by omega), vwrap ((i : Int) + 1) (by omega)]
    rw [show ((T - Sh.pre Q i : Nat) : Int) - (Q i : Int) = ((T - Sh.pre Q (i + 1) : Nat) : Int) by rw [Sh.pre_succ]; omega]
    exact hs
theorem vmay_f (m : Int) : lexpriorref02_May.f m = some (decide (chk m = 0)) := by
  unfold lexpriorref02_May.f chk
  by_cases h1 : m ≥ -1000000000000000
  · rw [if_pos h1]
    by_cases h2 : m ≤ 1000000000000000
    · rw [if_neg (by omega), decide_eq_true h2]; rfl
    · rw [if_pos (by omega), decide_eq_false h2]; rfl
  · rw [if_neg h1, if_pos (by omega)]; rfl
theorem l0_law (n : Nat) (T : Int) (xs : List Int) (W : Nat → Nat) (hn : n ≤ 4096) (hxn : xs.length = n) (hx : ∀ i, i < n → rd xs (i : Int) = (W i : Int)) (hw : ∀ i, i < n → W i ≤ 1000000000000000) (res : List Int × Int) (F : Nat)
    (H : lexpriorref02_Share.l0 (F + 1) T xs (Sh.pre W n : Int) (n : Int) = some res) :
    ∀ c i, n - i = c → i ≤ n → lexpriorref02_Share.l0 (F + c + 1) T xs (Sh.pre W i : Int) (i : Int) = some res := by
  intro c
  induction c with
  | zero =>
    intro i h1 h2
    obtain rfl : i = n := by omega
    exact H
  | succ c ih =>
    intro i h1 h2
    have hi : i < n := by omega
    have hwi := hw i hi
    have hpre := Sh.pre_le W 1000000000000000 i (fun j hj => hw j (by omega))
    have hpre2 : i * 1000000000000000 ≤ 4096 * 1000000000000000 := Nat.mul_le_mul_right _ (by omega)
    rw [show F + (c + 1) + 1 = (F + c + 1) + 1 by omega, lexpriorref02_Share.l0, if_pos (by omega), if_pos (by omega), hx i hi, if_neg (by omega), if_neg (by omega), vwrap ((Sh.pre W i : Int) + (W i : Int)) (by omega), vwrap ((i : Int) + 1) (by omega)]
    have := ih (i + 1) (by omega) (by omega)
    rw [Sh.pre_succ, Int.natCast_add] at this
    exact this
theorem rshare_good (n T A L : Nat) (xs : List Int) (W Q R f : Nat → Nat) (hn1 : 1 ≤ n) (hn : n ≤ 4096) (hxn : xs.length = n) (hx : ∀ i, i < n → rd xs (i : Int) = (W i : Int)) (hw : ∀ i, i < n → W i ≤ 1000000000000000) (hT : T ≤ 1000000000000000)
    (hA : Sh.pre W n = A) (ha : 0 < A) (hQ : Sh.q T A W = Q) (hR : Sh.r T A W = R) (hLe : T - Sh.pre Q n = L) (hs : St.Srt R f 0 n) (hf : ∀ i, i < n → f i < n) :
    ∃ k, lexpriorref02_Share.f k (T : Int) xs = some (Gl n (fun i => (Sh.bump Q f L i : Int)), 0) := by
  have hq : ∀ i, Q i = T * W i / A := fun i => by rw [← hQ]; rfl
  have hr : ∀ i, R i = T * W i % A := fun i => by rw [← hR]; rfl
  have hleft := Sh.left T n W (by rw [hA]; exact ha) hn1
  have hA2 : A ≤ 4096000000000000000 := by
    rw [← hA]
    refine Nat.le_trans (Sh.pre_le W 1000000000000000 n hw) ?_
    have : n * 1000000000000000 ≤ 4096 * 1000000000000000 := Nat.mul_le_mul_right _ hn
    omega
  have hWA : ∀ i, i < n → W i ≤ A := fun i hi => by rw [← hA]; exact Sh.le_pre W i n hi
  have hLn : L < n := by subst hA hQ hLe; exact hleft.2.2
  have hpq : ∀ j, j ≤ n → Sh.pre Q j ≤ T := by subst hA hQ; exact fun j hj => Sh.q_le T n W ha hn1 j hj
  have hQ1 : ∀ i, i < n → Q i ≤ 1000000000000000 := fun i hi => by
    have := Sh.q_le_total T A W i (hWA i hi) ha
    rw [hQ] at this
    omega
  obtain ⟨K, hK⟩ := l2_law n L Q R f hs hf hn hLn hQ1 L 0 (by omega) (by omega)
  have h1 := l1_law n T A L xs W Q R f hn hxn hx hT ha hA2 hWA hq hr hpq hLe K _ (fun e => hK e) n 0 (by omega) (by omega) 0
  have h0 := l0_law n (T : Int) xs W hn hxn hx hw _ (K + 103 + 0 + n + 1) (by
    rw [lexpriorref02_Share.l0, if_neg (by omega), hA, if_neg (by omega)]
    exact h1) n 0 (by omega) (by omega)
  refine ⟨(K + 103 + 0 + n + 1) + n + 1 + 1 + 1, ?_⟩
  generalize (K + 103 + 0 + n + 1) + n + 1 = Z at *
  have hk : chk (T : Int) = 0 := by unfold chk; rw [if_neg (by omega)]
  have ht : (!(true : Bool)) = false := rfl
  have hff : ¬ (false = true) := by decide
  unfold lexpriorref02_Share.f
  rw [if_neg (by omega), vmay_f, decide_eq_true hk, Option.bind_some, ht]
  rw [lexpriorref02_Share.j0, if_neg hff, if_neg (by omega), decide_eq_false (by omega), lexpriorref02_Share.j1, if_neg hff]
  exact h0
end Mo
end Go.Proofs.YtgkliaalfiginaaDoor
