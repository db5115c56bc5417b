import Derived.Test.YtpcmhlbhepickaaGreatMonC
import Derived.Test.YtpcmhlbhepickaaGreatAmtPs
import Derived.Laws.BitsLemmas
import Derived.ArgAppend
namespace Go.Proofs.YtpcmhlbhepickaaGreat
open Go.RowKit Go.Lib
open Go.Proofs.YtpcmhlbhepickaaGreat.PAmountsCuts
open Go.Proofs.YtpcmhlbhepickaaGreatW.PrintWords
set_option linter.unusedVariables false
set_option linter.unusedSimpArgs false

namespace Mo
theorem vwrap (n : Int) (h : -9223372036854775808 ≤ n ∧ n ≤ 9223372036854775807) : wrap64 n = n := by unfold wrap64; omega
theorem divmod_of {N A q r : Nat} (h : q * A + r = N) (hr : r < A) : N / A = q ∧ N % A = r := by
  have hA : 0 < A := by omega
  rw [← h]
  constructor
  · rw [Nat.add_comm, Nat.add_mul_div_right _ _ hA, Nat.div_eq_of_lt hr, Nat.zero_add]
  · rw [Nat.add_comm, Nat.add_mul_mod_self_right, Nat.mod_eq_of_lt hr]
theorem and_bit (T j : Nat) (hT : T < 9223372036854775808) (hj : j ≤ 50) : Go.bits .and .i64 (T : Int) ((2 ^ j : Nat) : Int) = 0 ↔ T / 2 ^ j % 2 = 0 := by
  have hp : 2 ^ j ≤ 2 ^ 50 := Nat.pow_le_pow_right (by omega) hj
  have h50 : (2 : Nat) ^ 50 = 1125899906842624 := by decide
  have hb := (bits_nat .i64 63 (by decide) (fun n h0 h1 => by rw [IntKind.wrap_i64]; omega) T (2 ^ j) (by omega) (by omega)).1
  rw [hb]
  have key : (T &&& 2 ^ j) = 0 ↔ T.testBit j = false := by
    constructor
    · intro h
      have h2 : (T &&& 2 ^ j).testBit j = T.testBit j := by rw [Nat.testBit_and, Nat.testBit_two_pow_self, Bool.and_true]
      rw [← h2, h, Nat.zero_testBit]
    · intro h
      apply Nat.eq_of_testBit_eq
      intro i
      rw [Nat.testBit_and, Nat.zero_testBit, Nat.testBit_two_pow]
      by_cases e : j = i
      · subst e; rw [h]; rfl
      · rw [decide_eq_false e, Bool.and_false]
  rw [Nat.testBit_eq_decide_div_mod_eq] at key
  have e0 : ((T &&& 2 ^ j : Nat) : Int) = 0 ↔ (T &&& 2 ^ j) = 0 := by omega
  rw [e0, key, decide_eq_false_iff_not]
  omega
theorem part_l (T W A : Nat) (hT : T ≤ 1000000000000000) (hW : W ≤ A) (hA : 0 < A) (hA2 : A ≤ 4096000000000000000) : ∀ j : Nat, j ≤ 51 → ∀ q r : Nat, q * A + r = T / 2 ^ j * W → r < A →
    lexpriorref02_part.l0 (2 * j + 1) (T : Int) (W : Int) (A : Int) (q : Int) (r : Int) ((2 ^ j / 2 : Nat) : Int) = some (((T * W / A : Nat) : Int), ((T * W % A : Nat) : Int)) := by
  intro j
  induction j with
  | zero =>
    intro _ q r h hr
    rw [Nat.pow_zero, Nat.div_one] at h
    obtain ⟨h1, h2⟩ := divmod_of h hr
    rw [h1, h2]
    rw [lexpriorref02_part.l0, if_neg (by decide)]
  | succ j ih =>
    intro hj q r h hr
    have hqT : q ≤ T := by
      have h1 : q * A ≤ T * A := by
        refine Nat.le_trans (Nat.le_add_right _ r) ?_
        rw [h]
        exact Nat.mul_le_mul (Nat.div_le_self _ _) hW
      exact Nat.le_of_mul_le_mul_right h1 hA
    have hpj : (2 ^ (j + 1) / 2 : Nat) = 2 ^ j := by rw [Nat.pow_succ, Nat.mul_div_cancel _ (by decide)]
    have hpos : 0 < 2 ^ j := Nat.pow_pos (by decide)
    have hdd : T / 2 ^ (j + 1) = T / 2 ^ j / 2 := by rw [Nat.pow_succ, Nat.div_div_eq_div_mul]
    have hb := and_bit T j (by omega) (by omega)
    have hnext : Int.tdiv ((2 ^ j : Nat) : Int) 2 = ((2 ^ j / 2 : Nat) : Int) := by rw [Int.tdiv_eq_ediv_of_nonneg (by omega)]; omega
    have hp50 : 2 ^ j ≤ 2 ^ 50 := Nat.pow_le_pow_right (by omega) (by omega)
    have h50 : (2 : Nat) ^ 50 = 1125899906842624 := by decide
    rw [hdd] at h
    have ih' := ih (by omega)
    rw [hpj]
    generalize T / 2 ^ j = t at *
    generalize 2 ^ j = p at *
    have hbit : t = 2 * (t / 2) + t % 2 := by omega
    have hbw : t * W = 2 * (t / 2 * W) + t % 2 * W := by
      conv => lhs; rw [hbit]
      rw [Nat.add_mul, Nat.mul_assoc]
    -- the doubling
    obtain ⟨q2, r2, e2, hr2, hq2, step⟩ : ∃ q2 r2 : Nat, q2 * A + r2 = 2 * (t / 2 * W) ∧ r2 < A ∧ q2 ≤ 2 * q + 1 ∧
        lexpriorref02_part.l0 (2 * j + 1 + 1 + 1) (T : Int) (W : Int) (A : Int) (q : Int) (r : Int) (p : Int) = lexpriorref02_part.j1 (2 * j + 1 + 1) (T : Int) (W : Int) (A : Int) (q2 : Int) (r2 : Int) (p : Int) := by
      by_cases c : A ≤ 2 * r
      · refine ⟨2 * q + 1, 2 * r - A, ?_, by omega, by omega, ?_⟩
        · rw [Nat.add_mul, Nat.mul_assoc]; omega
        · rw [lexpriorref02_part.l0, if_pos (by omega), vwrap (2 * (r : Int)) (by omega), if_pos (by omega), vwrap (2 * (q : Int)) (by omega), vwrap (2 * (q : Int) + 1) (by omega), vwrap (2 * (r : Int) - (A : Int)) (by omega)]
          congr 1 <;> omega
      · refine ⟨2 * q, 2 * r, ?_, by omega, by omega, ?_⟩
        · rw [Nat.mul_assoc]; omega
        · rw [lexpriorref02_part.l0, if_pos (by omega), vwrap (2 * (r : Int)) (by omega), if_neg (by omega), vwrap (2 * (q : Int)) (by omega)]
          congr 1 <;> omega
    rw [show 2 * (j + 1) + 1 = 2 * j + 1 + 1 + 1 by omega, step]
    rw [lexpriorref02_part.j1]
    have hnw : wrap64 (Int.tdiv (p : Int) 2) = ((p / 2 : Nat) : Int) := by rw [hnext]; exact vwrap _ (by omega)
    by_cases cb : t % 2 = 0
    · rw [if_pos (hb.2 cb), hnw]
      exact ih' q2 r2 (by rw [hbw, cb, Nat.zero_mul]; omega) hr2
    · rw [if_neg (fun h => cb (hb.1 h))]
      have cb1 : t % 2 = 1 := by omega
      rw [cb1, Nat.one_mul] at hbw
      rw [vwrap ((r2 : Int) + (W : Int)) (by omega)]
      by_cases c2 : A ≤ r2 + W
      · rw [if_pos (by omega), vwrap ((q2 : Int) + 1) (by omega), vwrap ((r2 : Int) + (W : Int) - (A : Int)) (by omega), hnw]
        have := ih' (q2 + 1) (r2 + W - A) (by rw [hbw, Nat.add_mul]; omega) (by omega)
        rw [← this]
        congr 1 <;> omega
      · rw [if_neg (by omega), hnw]
        have := ih' q2 (r2 + W) (by rw [hbw]; omega) (by omega)
        rw [← this]
        congr 1
theorem part_f (T W A : Nat) (hT : T ≤ 1000000000000000) (hW : W ≤ A) (hA : 0 < A) (hA2 : A ≤ 4096000000000000000) : lexpriorref02_part.f 103 (T : Int) (W : Int) (A : Int) = some (((T * W / A : Nat) : Int), ((T * W % A : Nat) : Int)) := by
  have h51 : (2 : Nat) ^ 51 = 2251799813685248 := by decide
  have h0 : T / 2 ^ 51 = 0 := Nat.div_eq_of_lt (by omega)
  exact part_l T W A hT hW hA hA2 51 (by omega) 0 0 (by rw [h0]; simp) hA
end Mo
end Go.Proofs.YtpcmhlbhepickaaGreat
namespace Go.Proofs.YtpcmhlbhepickaaGreat
open Go.RowKit Go.Lib
open Go.Proofs.YtpcmhlbhepickaaGreat.PAmountsCuts
open Go.Proofs.YtpcmhlbhepickaaGreatW.PrintWords
set_option linter.unusedVariables false
set_option linter.unusedSimpArgs false

namespace Mo
/-- what maps n numbers into n numbers, no two to one, meets all -/
theorem surj_of : ∀ (n : Nat) (f : Nat → Nat), (∀ i, i < n → f i < n) → (∀ i j, i < j → j < n → f i ≠ f j) → ∀ y, y < n → ∃ t, t < n ∧ f t = y := by
  intro n
  induction n with
  | zero => intro f _ _ y hy; omega
  | succ n ih =>
    intro f hf hi y hy
    have hz := hf n (by omega)
    have hg1 : ∀ i, i < n → (if f i = n then f n else f i) < n := fun i h => by
      have h1 := hf i (by omega)
      have h2 := hi i n h (by omega)
      split <;> omega
    have hg2 : ∀ i j, i < j → j < n → (if f i = n then f n else f i) ≠ (if f j = n then f n else f j) := fun i j h1 h2 => by
      have a1 := hi i j h1 (by omega)
      have a2 := hi i n (by omega) (by omega)
      have a3 := hi j n (by omega) (by omega)
      split <;> split <;> omega
    have hs := ih (fun i => if f i = n then f n else f i) hg1 hg2
    by_cases h1 : y = f n
    · exact ⟨n, by omega, h1.symm⟩
    · by_cases h2 : y = n
      · obtain ⟨t, ht, he⟩ := hs (f n) (by omega)
        have a := hi t n ht (by omega)
        have he' : (if f t = n then f n else f t) = f n := he
        split at he'
        · exact ⟨t, by omega, by omega⟩
        · exact absurd he' a
      · obtain ⟨t, ht, he⟩ := hs y (by omega)
        have he' : (if f t = n then f n else f t) = y := he
        split at he'
        · exact absurd he'.symm h1
        · exact ⟨t, by omega, he'⟩
/-- the rests behind j picks -/
def G (R f : Nat → Nat) : Nat → Nat → Int
  | 0 => fun i => (R i : Int)
  | j + 1 => fun i => if i = f j then -1 else G R f j i
theorem G_picked (R f : Nat → Nat) : ∀ j t, t < j → G R f j (f t) = -1 := by
  intro j
  induction j with
  | zero => intro t h; omega
  | succ j ih =>
    intro t h
    show (if f t = f j then (-1 : Int) else G R f j (f t)) = -1
    by_cases e : f t = f j
    · rw [if_pos e]
    · rw [if_neg e]
      refine ih t ?_
      rcases Nat.lt_or_ge t j with h2 | h2
      · exact h2
      · have : t = j := by omega
        subst this
        exact absurd rfl e
theorem G_left (R f : Nat → Nat) : ∀ j i, (∀ t, t < j → f t ≠ i) → G R f j i = (R i : Int) := by
  intro j
  induction j with
  | zero => intro i _; rfl
  | succ j ih =>
    intro i h
    show (if i = f j then (-1 : Int) else G R f j i) = _
    rw [if_neg (fun e => h j (by omega) e.symm)]
    exact ih i (fun t ht => h t (by omega))
/-- the one that is picked is the first of the greatest -/
theorem G_best (R f : Nat → Nat) (n : Nat) (hs : St.Srt R f 0 n) (hf : ∀ i, i < n → f i < n) (j : Nat) (hj : j < n) :
    (∀ i, i < n → G R f j i ≤ G R f j (f j)) ∧ (∀ i, i < f j → G R f j i < G R f j (f j)) := by
  have inj : ∀ a b, a < b → b < n → f a ≠ f b := fun a b h1 h2 e => by
    have := hs a b (by omega) h1 h2
    rw [e] at this
    unfold St.Lt at this
    omega
  have hsur := surj_of n f hf inj
  have hme : G R f j (f j) = (R (f j) : Int) := G_left R f j (f j) (fun t ht => inj t j ht hj)
  have each : ∀ i, i < n → G R f j i = -1 ∨ i = f j ∨ (G R f j i = (R i : Int) ∧ St.Lt R (f j) i) := fun i hi => by
    obtain ⟨t, ht, rfl⟩ := hsur i hi
    rcases Nat.lt_trichotomy t j with h | h | h
    · left; exact G_picked R f j t h
    · right; left; rw [h]
    · right; right
      refine ⟨G_left R f j (f t) (fun s hs2 => inj s t (by omega) ht), hs j t (by omega) h ht⟩
  constructor
  · intro i hi
    rw [hme]
    rcases each i hi with h | h | ⟨h1, h2⟩
    · rw [h]; omega
    · rw [h, hme]; omega
    · rw [h1]; unfold St.Lt at h2; omega
  · intro i hi
    have hfj := hf j hj
    rw [hme]
    rcases each i (by omega) with h | h | ⟨h1, h2⟩
    · rw [h]; omega
    · omega
    · rw [h1]; unfold St.Lt at h2; omega
theorem pick_l (x8 x9 : List Int) (x10 : Int) (m : Nat) (r : List Int × Int) (K : Nat) (hlen : x8.length = x9.length) (hl : x9.length ≤ 4096) (hm : m < x9.length)
    (h1 : ∀ i : Nat, i < x9.length → rd x9 (i : Int) ≤ rd x9 (m : Int)) (h2 : ∀ i : Nat, i < m → rd x9 (i : Int) < rd x9 (m : Int))
    (H : lexpriorref02_Share.l2 K (x8.set m (wrap64 (rd x8 (m : Int) + 1))) (x9.set m (-1)) (wrap64 (x10 - 1)) = some r) :
    ∀ k i b : Nat, x9.length - i = k → i ≤ x9.length → b < i → (m < i → b = m) → lexpriorref02_Share.l3 (K + k + 1) x8 x9 x10 (b : Int) (i : Int) = some r := by
  intro k
  induction k with
  | zero =>
    intro i b e hi hb hbm
    obtain rfl := hbm (by omega)
    show lexpriorref02_Share.l3 (K + 1) x8 x9 x10 _ _ = _
    rw [lexpriorref02_Share.l3, if_neg (by omega), if_pos (by omega), if_pos (by omega), if_pos (by omega), Int.toNat_natCast]
    exact H
  | succ k ih =>
    intro i b e hi hb hbm
    rw [show K + (k + 1) + 1 = (K + k + 1) + 1 by omega]
    rw [lexpriorref02_Share.l3, if_pos (by omega), if_pos (by omega), if_pos (by omega), if_pos (by omega), vwrap ((i : Int) + 1) (by omega)]
    by_cases c : rd x9 (i : Int) > rd x9 (b : Int)
    · rw [if_pos c]
      refine ih (i + 1) i (by omega) (by omega) (by omega) (fun h => ?_)
      rcases Nat.lt_or_ge m i with h3 | h3
      · have := hbm h3
        subst this
        have := h1 i (by omega)
        omega
      · omega
    · rw [if_neg c]
      refine ih (i + 1) b (by omega) (by omega) (by omega) (fun h => ?_)
      rcases Nat.lt_or_ge m i with h3 | h3
      · exact hbm h3
      · have : m = i := by omega
        subst this
        have := h2 b hb
        omega
end Mo
end Go.Proofs.YtpcmhlbhepickaaGreat
namespace Go.Proofs.YtpcmhlbhepickaaGreat
open Go.RowKit Go.Lib
open Go.Proofs.YtpcmhlbhepickaaGreat.PAmountsCuts
open Go.Proofs.YtpcmhlbhepickaaGreatW.PrintWords
set_option linter.unusedVariables false
set_option linter.unusedSimpArgs false

namespace Mo
def Gl (n : Nat) (g : Nat → Int) : List Int := (List.range n).map g
theorem Gl_len (n : Nat) (g : Nat → Int) : (Gl n g).length = n := by simp [Gl]
theorem Gl_get (n : Nat) (g : Nat → Int) (i : Nat) (h : i < n) : rd (Gl n g) (i : Int) = g i := by
  unfold rd Gl
  simp [List.getD_eq_getElem?_getD, h]
theorem Gl_set (n : Nat) (g : Nat → Int) (m : Nat) (v : Int) : (Gl n g).set m v = Gl n (fun i => if i = m then v else g i) := by
  unfold Gl
  apply List.ext_getElem
  · simp
  · intro i h1 h2
    rw [List.getElem_set]
    simp
    by_cases e : m = i
    · rw [if_pos e, if_pos e.symm]
    · rw [if_neg e, if_neg (fun h => e h.symm)]
theorem Gl_succ (n : Nat) (g : Nat → Int) : Gl n g ++ [g n] = Gl (n + 1) g := by
  unfold Gl
  rw [List.range_succ, List.map_append]
  rfl
theorem Gl_congr (n : Nat) (g h : Nat → Int) (e : ∀ i, g i = h i) : Gl n g = Gl n h := by rw [show g = h from funext e]
theorem l2_law (n L : Nat) (Q R f : Nat → Nat) (hs : St.Srt R f 0 n) (hf : ∀ i, i < n → f i < n) (hn : n ≤ 4096) (hL : L < n) (hQ : ∀ i, i < n → Q i ≤ 1000000000000000) :
    ∀ c j, L - j = c → j ≤ L → ∃ K, ∀ e, lexpriorref02_Share.l2 (K + e) (Gl n (fun i => (Sh.bump Q f j i : Int))) (Gl n (G R f j)) ((L - j : Nat) : Int) = some (Gl n (fun i => (Sh.bump Q f L i : Int)), 0) := by
  intro c
  induction c with
  | zero =>
    intro j h1 h2
    obtain rfl : j = L := by omega
    refine ⟨1, fun e => ?_⟩
    rw [show 1 + e = e + 1 by omega, lexpriorref02_Share.l2, if_neg (by omega)]
  | succ c ih =>
    intro j h1 h2
    obtain ⟨K, hK⟩ := ih (j + 1) (by omega) (by omega)
    have hjn : j < n := by omega
    have hfj := hf j hjn
    obtain ⟨b1, b2⟩ := G_best R f n hs hf j hjn
    refine ⟨K + (n - 1) + 1 + 1, fun e => ?_⟩
    have hbj := Sh.bump_le Q f j (f j)
    have hqj := hQ (f j) hfj
    have H : lexpriorref02_Share.l2 (K + e) ((Gl n (fun i => (Sh.bump Q f j i : Int))).set (f j) (wrap64 (rd (Gl n (fun i => (Sh.bump Q f j i : Int))) (f j : Int) + 1))) ((Gl n (G R f j)).set (f j) (-1)) (wrap64 (((L - j : Nat) : Int) - 1)) = some (Gl n (fun i => (Sh.bump Q f L i : Int)), 0) := by
      rw [Gl_set, Gl_set, Gl_get n _ _ hfj, vwrap ((Sh.bump Q f j (f j) : Int) + 1) (by omega), vwrap (((L - j : Nat) : Int) - 1) (by omega)]
      rw [Gl_congr n (fun i => if i = f j then (Sh.bump Q f j (f j) : Int) + 1 else (Sh.bump Q f j i : Int)) (fun i => (Sh.bump Q f (j + 1) i : Int)) (fun i => by
        rw [Sh.bump_succ]
        by_cases h : i = f j
        · subst h; simp
        · simp [h])]
      rw [show ((L - j : Nat) : Int) - 1 = ((L - (j + 1) : Nat) : Int) by omega]
      exact hK e
    have P := pick_l (Gl n (fun i => (Sh.bump Q f j i : Int))) (Gl n (G R f j)) ((L - j : Nat) : Int) (f j) _ (K + e) (by rw [Gl_len, Gl_len]) (by rw [Gl_len]; exact hn) (by rw [Gl_len]; exact hfj)
      (fun i hi => by rw [Gl_len] at hi; rw [Gl_get n _ i hi, Gl_get n _ _ hfj]; exact b1 i hi)
      (fun i hi => by rw [Gl_get n _ i (by omega), Gl_get n _ _ hfj]; exact b2 i hi) H (n - 1) 1 0 (by rw [Gl_len]) (by rw [Gl_len]; omega) (by omega) (fun h => by omega)
    rw [show K + (n - 1) + 1 + 1 + e = (K + e + (n - 1) + 1) + 1 by omega, lexpriorref02_Share.l2, if_pos (by omega)]
    exact P
theorem part_more (T W A : Nat) (hT : T ≤ 1000000000000000) (hW : W ≤ A) (hA : 0 < A) (hA2 : A ≤ 4096000000000000000) : ∀ k, lexpriorref02_part.f (103 + k) (T : Int) (W : Int) (A : Int) = some (((T * W / A : Nat) : Int), ((T * W % A : Nat) : Int)) := by
  intro k
  induction k with
  | zero => exact part_f T W A hT hW hA hA2
  | succ k ih => exact lexpriorref02_part.mono _ _ _ _ _ ih
theorem l1_law (n T A L : Nat) (xs : List Int) (W Q R f : Nat → Nat) (hn : n ≤ 4096) (hxn : xs.length = n) (hx : ∀ i, i < n → rd xs (i : Int) = (W i : Int)) (hT : T ≤ 1000000000000000) (hA : 0 < A) (hA2 : A ≤ 4096000000000000000)
    (hW : ∀ i, i < n → W i ≤ A) (hq : ∀ i, Q i = T * W i / A) (hr : ∀ i, R i = T * W i % A) (hp : ∀ j, j ≤ n → Sh.pre Q j ≤ T) (hLe : T - Sh.pre Q n = L) (K : Nat) (res : List Int × Int)
    (H : ∀ e, lexpriorref02_Share.l2 (K + e) (Gl n (fun i => (Q i : Int))) (Gl n (fun i => (R i : Int))) (L : Int) = some res) :
    ∀ c i, n - i = c → i ≤ n → ∀ e, lexpriorref02_Share.l1 (K + 103 + e + c + 1) (T : Int) xs (A : Int) (Gl i (fun i => (Q i : Int))) (Gl i (fun i => (R i : Int))) ((T - Sh.pre Q i : Nat) : Int) (i : Int) = some res := by
  intro c
  induction c with
  | zero =>
    intro i h1 h2 e
    obtain rfl : i = n := by omega
    rw [show K + 103 + e + 0 + 1 = (K + (103 + e)) + 1 by omega, lexpriorref02_Share.l1, if_neg (by omega), hLe]
    exact H (103 + e)
  | succ c ih =>
    intro i h1 h2 e
    have hi : i < n := by omega
    have hpi := hp (i + 1) (by omega)
    rw [Sh.pre_succ] at hpi
    rw [show K + 103 + e + (c + 1) + 1 = (K + 103 + e + c + 1) + 1 by omega, lexpriorref02_Share.l1, if_pos (by omega), if_pos (by omega), hx i hi]
    rw [show K + 103 + e + c + 1 = 103 + (K + e + c + 1) by omega, part_more T (W i) A hT (hW i hi) hA hA2, Option.bind_some, ← hq i, ← hr i, Gl_len, Gl_len, if_pos (by omega), if_pos (by omega)]
    rw [show (103 + (K + e + c + 1)) = K + 103 + e + c + 1 by omega]
    have hs := ih (i + 1) (by omega) (by omega) e
    rw [← Gl_succ, ← Gl_succ] at hs
    rw [vwrap (((T - Sh.pre Q i : Nat) : Int) - (Q i : Int)) (by omega), vwrap ((i : Int) + 1) (by omega)]
    rw [show ((T - Sh.pre Q i : Nat) : Int) - (Q i : Int) = ((T - Sh.pre Q (i + 1) : Nat) : Int) by rw [Sh.pre_succ]; omega]
    exact hs
theorem vmay_f (m : Int) : lexpriorref02_May.f m = some (decide (chk m = 0)) := by
  unfold lexpriorref02_May.f chk
  by_cases h1 : m ≥ -1000000000000000
  · rw [if_pos h1]
    by_cases h2 : m ≤ 1000000000000000
    · rw [if_neg (by omega), decide_eq_true h2]; rfl
    · rw [if_pos (by omega), decide_eq_false h2]; rfl
  · rw [if_neg h1, if_pos (by omega)]; rfl
theorem l0_law (n : Nat) (T : Int) (xs : List Int) (W : Nat → Nat) (hn : n ≤ 4096) (hxn : xs.length = n) (hx : ∀ i, i < n → rd xs (i : Int) = (W i : Int)) (hw : ∀ i, i < n → W i ≤ 1000000000000000) (res : List Int × Int) (F : Nat)
    (H : lexpriorref02_Share.l0 (F + 1) T xs (Sh.pre W n : Int) (n : Int) = some res) :
    ∀ c i, n - i = c → i ≤ n → lexpriorref02_Share.l0 (F + c + 1) T xs (Sh.pre W i : Int) (i : Int) = some res := by
  intro c
  induction c with
  | zero =>
    intro i h1 h2
    obtain rfl : i = n := by omega
    exact H
  | succ c ih =>
    intro i h1 h2
    have hi : i < n := by omega
    have hwi := hw i hi
    have hpre := Sh.pre_le W 1000000000000000 i (fun j hj => hw j (by omega))
    have hpre2 : i * 1000000000000000 ≤ 4096 * 1000000000000000 := Nat.mul_le_mul_right _ (by omega)
    rw [show F + (c + 1) + 1 = (F + c + 1) + 1 by omega, lexpriorref02_Share.l0, if_pos (by omega), if_pos (by omega), hx i hi, if_neg (by omega), if_neg (by omega), vwrap ((Sh.pre W i : Int) + (W i : Int)) (by omega), vwrap ((i : Int) + 1) (by omega)]
    have := ih (i + 1) (by omega) (by omega)
    rw [Sh.pre_succ, Int.natCast_add] at this
    exact this
theorem rshare_good (n T A L : Nat) (xs : List Int) (W Q R f : Nat → Nat) (hn1 : 1 ≤ n) (hn : n ≤ 4096) (hxn : xs.length = n) (hx : ∀ i, i < n → rd xs (i : Int) = (W i : Int)) (hw : ∀ i, i < n → W i ≤ 1000000000000000) (hT : T ≤ 1000000000000000)
    (hA : Sh.pre W n = A) (ha : 0 < A) (hQ : Sh.q T A W = Q) (hR : Sh.r T A W = R) (hLe : T - Sh.pre Q n = L) (hs : St.Srt R f 0 n) (hf : ∀ i, i < n → f i < n) :
    ∃ k, lexpriorref02_Share.f k (T : Int) xs = some (Gl n (fun i => (Sh.bump Q f L i : Int)), 0) := by
  have hq : ∀ i, Q i = T * W i / A := fun i => by rw [← hQ]; rfl
  have hr : ∀ i, R i = T * W i % A := fun i => by rw [← hR]; rfl
  have hleft := Sh.left T n W (by rw [hA]; exact ha) hn1
  have hA2 : A ≤ 4096000000000000000 := by
    rw [← hA]
    refine Nat.le_trans (Sh.pre_le W 1000000000000000 n hw) ?_
    have : n * 1000000000000000 ≤ 4096 * 1000000000000000 := Nat.mul_le_mul_right _ hn
    omega
  have hWA : ∀ i, i < n → W i ≤ A := fun i hi => by rw [← hA]; exact Sh.le_pre W i n hi
  have hLn : L < n := by subst hA hQ hLe; exact hleft.2.2
  have hpq : ∀ j, j ≤ n → Sh.pre Q j ≤ T := by subst hA hQ; exact fun j hj => Sh.q_le T n W ha hn1 j hj
  have hQ1 : ∀ i, i < n → Q i ≤ 1000000000000000 := fun i hi => by
    have := Sh.q_le_total T A W i (hWA i hi) ha
    rw [hQ] at this
    omega
  obtain ⟨K, hK⟩ := l2_law n L Q R f hs hf hn hLn hQ1 L 0 (by omega) (by omega)
  have h1 := l1_law n T A L xs W Q R f hn hxn hx hT ha hA2 hWA hq hr hpq hLe K _ (fun e => hK e) n 0 (by omega) (by omega) 0
  have h0 := l0_law n (T : Int) xs W hn hxn hx hw _ (K + 103 + 0 + n + 1) (by
    rw [lexpriorref02_Share.l0, if_neg (by omega), hA, if_neg (by omega)]
    exact h1) n 0 (by omega) (by omega)
  refine ⟨(K + 103 + 0 + n + 1) + n + 1 + 1 + 1, ?_⟩
  generalize (K + 103 + 0 + n + 1) + n + 1 = Z at *
  have hk : chk (T : Int) = 0 := by unfold chk; rw [if_neg (by omega)]
  have ht : (!(true : Bool)) = false := rfl
  have hff : ¬ (false = true) := by decide
  unfold lexpriorref02_Share.f
  rw [if_neg (by omega), vmay_f, decide_eq_true hk, Option.bind_some, ht]
  rw [lexpriorref02_Share.j0, if_neg hff, if_neg (by omega), decide_eq_false (by omega), lexpriorref02_Share.j1, if_neg hff]
  exact h0
end Mo
end Go.Proofs.YtpcmhlbhepickaaGreat
namespace Go.Proofs.YtpcmhlbhepickaaGreat
open Go.RowKit Go.Lib
open Go.Proofs.YtpcmhlbhepickaaGreat.PAmountsCuts
open Go.Proofs.YtpcmhlbhepickaaGreatW.PrintWords
set_option linter.unusedVariables false
set_option linter.unusedSimpArgs false

namespace Mo
theorem rd_getElem (l : List Int) (i : Nat) (h : i < l.length) : rd l (i : Int) = l[i] := by
  unfold rd
  simp [List.getD_eq_getElem?_getD, h]
theorem l0_bad (T : Int) (xs : List Int) (hn : xs.length ≤ 4096) : ∀ c i s : Nat, xs.length - i = c → i ≤ xs.length → (∀ j (h : j < xs.length), j < i → okW xs[j] = true) → s ≤ i * 1000000000000000 → xs.all okW = false →
    lexpriorref02_Share.l0 (c + 1) T xs (s : Int) (i : Int) = some (([] : List Int), 4) := by
  intro c
  induction c with
  | zero =>
    intro i s h1 h2 hg hs hb
    exfalso
    have : xs.all okW = true := by
      rw [List.all_eq_true]
      intro x hx
      obtain ⟨j, hj, rfl⟩ := List.getElem_of_mem hx
      exact hg j hj (by omega)
    rw [this] at hb
    cases hb
  | succ c ih =>
    intro i s h1 h2 hg hs hb
    have hi : i < xs.length := by omega
    have hs2 : i * 1000000000000000 ≤ 4096 * 1000000000000000 := Nat.mul_le_mul_right _ (by omega)
    rw [lexpriorref02_Share.l0, if_pos (by omega), if_pos (by omega), rd_getElem xs i hi]
    by_cases c1 : xs[i] < 0
    · rw [if_pos c1]
    · rw [if_neg c1]
      by_cases c2 : xs[i] > 1000000000000000
      · rw [if_pos c2]
      · rw [if_neg c2]
        have hok : okW xs[i] = true := by unfold okW; simp; omega
        have hg' : ∀ j (h : j < xs.length), j < i + 1 → okW xs[j] = true := fun j h hj => by
          rcases Nat.lt_or_ge j i with h3 | h3
          · exact hg j h h3
          · have : j = i := by omega
            subst this; exact hok
        have ih' := ih (i + 1) (s + xs[i].toNat) (by omega) (by omega) hg'
        generalize xs[i] = x at *
        rw [vwrap ((s : Int) + x) (by omega), vwrap ((i : Int) + 1) (by omega)]
        have := ih' (by omega) hb
        rw [← this]
        congr 1
        omega
theorem rshare_bad (total : Int) (xs : List Int) (he : shareErr total xs ≠ 0) : ∃ k, lexpriorref02_Share.f k total xs = some (([] : List Int), shareErr total xs) := by
  have hff : ¬ (false = true) := by decide
  unfold shareErr at he ⊢
  by_cases c1 : total < 0
  · refine ⟨1, ?_⟩
    rw [if_pos c1]
    unfold lexpriorref02_Share.f
    rw [if_pos c1, lexpriorref02_Share.j0, if_pos rfl]
  rw [if_neg c1] at he ⊢
  by_cases c2 : chk total ≠ 0
  · refine ⟨1, ?_⟩
    rw [if_pos c2]
    unfold lexpriorref02_Share.f
    rw [if_neg c1, vmay_f, decide_eq_false c2, Option.bind_some]
    show lexpriorref02_Share.j0 (0 + 1) total xs true = _
    rw [lexpriorref02_Share.j0, if_pos rfl]
  rw [if_neg c2] at he ⊢
  have hk : chk total = 0 := by omega
  have F : ∀ k, lexpriorref02_Share.f (k + 1) total xs = (if (xs.length : Int) = 0 then (lexpriorref02_Share.j1 k total xs true) else (lexpriorref02_Share.j1 k total xs (decide ((xs.length : Int) > 4096)))) := fun k => by
    unfold lexpriorref02_Share.f
    rw [if_neg c1, vmay_f, decide_eq_true hk, Option.bind_some]
    show lexpriorref02_Share.j0 (k + 1) total xs false = _
    rw [lexpriorref02_Share.j0, if_neg hff]
  by_cases c3 : xs.length = 0
  · refine ⟨0 + 1 + 1, ?_⟩
    rw [if_pos c3, F, if_pos (by omega), lexpriorref02_Share.j1, if_pos rfl]
  rw [if_neg c3] at he ⊢
  by_cases c4 : 4096 < xs.length
  · refine ⟨0 + 1 + 1, ?_⟩
    rw [if_pos c4, F, if_neg (by omega), decide_eq_true (by omega), lexpriorref02_Share.j1, if_pos rfl]
  rw [if_neg c4] at he ⊢
  have F2 : ∀ k, lexpriorref02_Share.f (k + 1 + 1) total xs = lexpriorref02_Share.l0 k total xs 0 0 := fun k => by
    rw [F, if_neg (by omega), decide_eq_false (by omega), lexpriorref02_Share.j1, if_neg hff]
  by_cases c5 : xs.all okW = false
  · refine ⟨xs.length + 1 + 1 + 1, ?_⟩
    rw [if_pos c5, F2]
    exact l0_bad total xs (by omega) xs.length 0 0 (by omega) (by omega) (fun j _ hj => by omega) (by omega) c5
  rw [if_neg c5] at he ⊢
  have c5' : xs.all okW = true := by simpa using c5
  by_cases c6 : Sh.pre (wOf xs) xs.length = 0
  · refine ⟨0 + xs.length + 1 + 1 + 1, ?_⟩
    rw [if_pos c6, F2]
    refine l0_law xs.length total xs (wOf xs) (by omega) rfl (fun i hi => ?_) (fun i hi => (wOf_at xs i c5' hi).2) _ 0 ?_ xs.length 0 (by omega) (by omega)
    · have := (wOf_at xs i c5' hi).1
      unfold rd
      rw [Int.toNat_natCast, List.getD_eq_getElem?_getD, this]
      rfl
    · rw [lexpriorref02_Share.l0, if_neg (by omega), c6, if_pos (by omega)]
  rw [if_neg c6] at he
  exact absurd rfl he
end Mo
end Go.Proofs.YtpcmhlbhepickaaGreat
/- MoneyShares: Share and its reference answer alike (share_ref) -/
namespace Go.Proofs.YtpcmhlbhepickaaGreat
open Go.RowKit Go.Lib
open Go.Proofs.YtpcmhlbhepickaaGreat.PAmountsCuts
open Go.Proofs.YtpcmhlbhepickaaGreatW.PrintWords
set_option linter.unusedVariables false
set_option linter.unusedSimpArgs false
theorem info64 : ∃ i, Tryz.prog.info? 2 = some i ∧ i.zero = some (.int .i64 0) ∧ i.size = 1 ∧ i.bytes = 8 := by
  have h : (Tryz.prog.info? 2).map (fun i => (i.zero, i.size, i.bytes)) = some (some (.int .i64 0), 1, 8) := by kernel_rfl
  cases hi : Tryz.prog.info? 2 with
  | none => rw [hi] at h; cases h
  | some i =>
    rw [hi] at h
    have h' : (i.zero, i.size, i.bytes) = (some (.int .i64 0), 1, 8) := Option.some.inj h
    exact ⟨i, rfl, congrArg Prod.fst h', congrArg (fun p => p.2.1) h', congrArg (fun p => p.2.2) h'⟩
namespace Mo
end Mo
theorem rdI_of {w : World} {A : Option Addr} {c : Nat} {xs : List Int} (h : Kd.C (Kd.int .i64) w A xs.length xs) : RdI w (.slice A xs.length c) xs := by
  obtain ⟨_, h1, h2⟩ := h
  refine ⟨A, c, rfl, h1, fun hn => ?_⟩
  obtain ⟨a, rfl, hc⟩ := h2 hn
  refine ⟨a, rfl, fun j x hj => ?_⟩
  obtain ⟨cs, _, hk, hcell⟩ := hc j x hj
  have hk' : cs = [Value.int .i64 x] := hk
  subst hk'
  have h3 := hcell 0 _ rfl
  have e : j * (Kd.int IntKind.i64).sz + 0 = j := by show j * 1 + 0 = j; omega
  rw [e] at h3
  exact h3
theorem kdC_of {w : World} {A : Option Addr} {c : Nat} {xs : List Int} (h : RdI w (.slice A xs.length c) xs) : Kd.C (Kd.int .i64) w A xs.length xs := by
  obtain ⟨A', c', he, h1, h2⟩ := h
  injection he with e1 e2 e3
  subst e1
  refine ⟨rfl, h1, fun hn => ?_⟩
  obtain ⟨a, rfl, hc⟩ := h2 hn
  refine ⟨a, rfl, fun j x hj => ⟨[Value.int .i64 x], rfl, rfl, ?_⟩⟩
  intro i u hu
  have h0 : i = 0 ∧ u = Value.int .i64 x := by
    match i, hu with
    | 0, hu => exact ⟨rfl, by simpa using hu.symm⟩
    | i + 1, hu => simp at hu
  obtain ⟨rfl, rfl⟩ := h0
  have e : j * (Kd.int IntKind.i64).sz + 0 = j := by show j * 1 + 0 = j; omega
  rw [e]
  exact hc j x hj
theorem rdI_own {w : World} {base : Nat} {e : TypeId} {v : Value} {xs : List Int} (h : w.ownsRow base e 1 v xs.length (xs.map (Value.int .i64))) (hl : xs.length ≤ 9223372036854775807) : RdI w v xs := by
  rcases h.2 with ⟨rfl, h0⟩ | ⟨g, cap, cur, rfl, _, hh, h1, h2, h3, h4⟩
  · exact ⟨none, 0, by rw [h0], hl, fun hp => absurd hp (by omega)⟩
  · exact ⟨_, cap, rfl, hl, fun _ => ⟨_, rfl, fun j x hj => h.cells (g := g) rfl j (.int .i64 x) (by simp [hj])⟩⟩
/-- Share, and what its reference answers -/
theorem share_ref (T : Int) (l : List Int) (v : Value) (w : World) (hv : RdI w v l) : Calls Tryz.prog 18 #[.int .i64 T, v] w fun e w2 => Below w.heap.size w w2 ∧
    ∃ (Aa : Option Addr) (ca : Nat) (res : List Int), e = .returned (.tuple #[.slice Aa res.length ca, .int .i64 (Mo.shareErr T l)]) ∧ Kd.C (Kd.int .i64) w2 Aa res.length res ∧ res.length ≤ ca ∧ res.length ≤ 4096 ∧ ∃ k, lexpriorref02_Share.f k T l = some (res, Mo.shareErr T l) := by
  by_cases he : Mo.shareErr T l = 0
  · obtain ⟨t, n, A, L, W, Q, R, rfl, hn, hT, h1, h2, hx, hw, hA, ha, hQ, hR, hL⟩ := share_ok T l he
    refine (share_good t n A L l W Q R v w hv hn hT h1 h2 hx hw hA ha hQ hR hL).mono ?_
    rintro e w2 ⟨gp, f, rfl, hge, b2, hs, hf, hcell, -⟩
    have hlen := Mo.Gl_len n (fun i => (Sh.bump Q f L i : Int))
    have hrd : RdI w2 (.slice (some ⟨gp, 0, none⟩) (Mo.Gl n (fun i => (Sh.bump Q f L i : Int))).length n) (Mo.Gl n (fun i => (Sh.bump Q f L i : Int))) := by
      refine ⟨_, n, rfl, by omega, fun _ => ⟨_, rfl, fun j x hj => ?_⟩⟩
      have hjn : j < n := by
        rcases Nat.lt_or_ge j n with c | c
        · exact c
        · rw [List.getElem?_eq_none (by omega)] at hj; cases hj
      have hx : x = (Sh.bump Q f L j : Int) := by
        unfold Mo.Gl at hj
        simp [hjn] at hj
        exact hj.symm
      rw [hx]
      have e : (⟨gp, 0, none⟩ : Addr).add j = ⟨gp, j, none⟩ := by rw [Addr.add_lit, Nat.zero_add]
      rw [e]
      exact hcell j hjn
    refine ⟨b2, some ⟨gp, 0, none⟩, n, Mo.Gl n (fun i => (Sh.bump Q f L i : Int)), by rw [he, hlen], kdC_of hrd, by omega, by omega, ?_⟩
    rw [he]
    exact Mo.rshare_good n t A L l W Q R f h1 h2 hn (fun i hi => by
      rw [Mo.rd_getElem l i (by omega)]
      have := hx i hi
      rw [List.getElem?_eq_getElem (by omega)] at this
      exact Option.some.inj this) hw hT hA ha hQ hR hL hs hf
  · refine (share_bad T l v w hv he).mono ?_
    rintro e w2 ⟨rfl, rfl⟩
    exact ⟨Below.refl _ _, none, 0, [], rfl, ⟨rfl, by simp, fun h => absurd h (by simp)⟩, by simp, by simp, Mo.rshare_bad T l he⟩
end Go.Proofs.YtpcmhlbhepickaaGreat
namespace Go.Proofs.YtpcmhlbhepickaaGreat
open Go.RowKit Go.Lib
open Go.Proofs.YtpcmhlbhepickaaGreat.PAmountsCuts
open Go.Proofs.YtpcmhlbhepickaaGreatW.PrintWords
set_option linter.unusedVariables false
set_option linter.unusedSimpArgs false

namespace Mo
theorem swrap_in (n : Int) (h : -9223372036854775808 ≤ n ∧ n ≤ 9223372036854775807) : wrap64 n = n := by unfold wrap64; omega
theorem rd_at (l : List Int) (i : Nat) (h : i < l.length) : rd l (i : Int) = l[i] := by
  unfold rd
  simp [List.getD_eq_getElem?_getD, h]
theorem smay_f (m : Int) : lexpriorref02_May.f m = some (okI m) := by
  have h := okI_iff m
  unfold lexpriorref02_May.f
  by_cases h1 : m ≥ -1000000000000000
  · rw [if_pos h1]
    congr 1
    rw [Bool.eq_iff_iff, h, decide_eq_true_iff]
    omega
  · rw [if_neg h1]
    congr 1
    symm
    rw [Bool.eq_false_iff, ne_eq, h]
    omega
theorem chk_okI (m : Int) : chk m = 0 ↔ okI m = true := by unfold okI; simp
theorem rsum_l (l : List Int) (hl : l.length ≤ 1048576) : ∀ n i (x4 x5 : Int), l.length - i = n → i ≤ l.length → (∀ j (h : j < l.length), j < i → okI l[j] = true) → x4 * 1000000000 + x5 = (l.take i).sum →
    -((i : Int) * 1000000) ≤ x4 ∧ x4 ≤ (i : Int) * 1000000 → -((i : Int) * 1000000000) ≤ x5 ∧ x5 ≤ (i : Int) * 1000000000 →
    lexpriorref02_Sum.l0 (n + 1) l x4 x5 (i : Int) = some (sumE l) := by
  intro n
  induction n with
  | zero =>
    intro i x4 x5 h1 h2 hg hs h4 h5
    have hall : l.all okI = true := by
      rw [List.all_eq_true]
      intro x hx
      obtain ⟨j, hj, rfl⟩ := List.getElem_of_mem hx
      exact hg j hj (by omega)
    rw [List.take_of_length_le (by omega)] at hs
    have hse : sumE l = if chk l.sum = 0 then (l.sum, 0) else (0, 22) := by unfold sumE; rw [if_pos hall]
    rw [hse, ← hs]
    clear hse hs hall hg
    rw [lexpriorref02_Sum.l0, if_neg (by omega)]
    have hdm : Int.tdiv x5 1000000000 * 1000000000 + Int.tmod x5 1000000000 = x5 := Int.tdiv_mul_add_tmod x5 1000000000
    have hm1 : -1000000000 < Int.tmod x5 1000000000 ∧ Int.tmod x5 1000000000 < 1000000000 := by
      have a1 := Int.tmod_lt_of_pos x5 (show (0 : Int) < 1000000000 by decide)
      have a2 : -1000000000 < Int.tmod x5 1000000000 := by
        have := Int.tmod_lt_of_pos (-x5) (show (0 : Int) < 1000000000 by decide)
        rw [Int.neg_tmod] at this
        omega
      exact ⟨a2, a1⟩
    generalize Int.tdiv x5 1000000000 = q at *
    generalize Int.tmod x5 1000000000 = r at *
    have hi : (i : Int) ≤ 1048576 := by omega
    have hq : -1048577 ≤ q ∧ q ≤ 1048577 := by omega
    rw [swrap_in q (by omega), swrap_in (x4 + q) (by omega)]
    have hT : x4 * 1000000000 + x5 = (x4 + q) * 1000000000 + r := by omega
    rw [hT]
    generalize x4 + q = H at *
    by_cases c1 : H > 2000000
    · rw [if_pos c1, if_neg (by rw [chk_okI, okI_iff]; omega)]
    · rw [if_neg c1]
      by_cases c2 : H < -2000000
      · rw [if_pos c2, if_neg (by rw [chk_okI, okI_iff]; omega)]
      · rw [if_neg c2, swrap_in (H * 1000000000) (by omega), swrap_in (H * 1000000000 + r) (by omega), smay_f, Option.bind_some]
        by_cases c3 : okI (H * 1000000000 + r) = true
        · rw [if_pos c3, if_pos ((chk_okI _).2 c3)]
        · rw [if_neg c3, if_neg (fun h => c3 ((chk_okI _).1 h))]
  | succ n ih =>
    intro i x4 x5 h1 h2 hg hs h4 h5
    have hi : i < l.length := by omega
    rw [lexpriorref02_Sum.l0, if_pos (by omega), if_pos (by omega), rd_at l i hi, smay_f, Option.bind_some]
    by_cases c : okI l[i] = true
    · rw [if_pos c]
      have hx := (okI_iff _).1 c
      have hss := sum_take_succ l i hi
      have hg' : ∀ j (h : j < l.length), j < i + 1 → okI l[j] = true := fun j h hj => by
        rcases Nat.lt_or_ge j i with h3 | h3
        · exact hg j h h3
        · have : j = i := by omega
          subst this; exact c
      have ih' := ih (i + 1)
      generalize l[i] = x at *
      have hdm : Int.tdiv x 1000000000 * 1000000000 + Int.tmod x 1000000000 = x := Int.tdiv_mul_add_tmod x 1000000000
      have hm1 : -1000000000 < Int.tmod x 1000000000 ∧ Int.tmod x 1000000000 < 1000000000 := by
        have a1 := Int.tmod_lt_of_pos x (show (0 : Int) < 1000000000 by decide)
        have a2 : -1000000000 < Int.tmod x 1000000000 := by
          have := Int.tmod_lt_of_pos (-x) (show (0 : Int) < 1000000000 by decide)
          rw [Int.neg_tmod] at this
          omega
        exact ⟨a2, a1⟩
      generalize Int.tdiv x 1000000000 = q at *
      generalize Int.tmod x 1000000000 = r at *
      have hii : (i : Int) ≤ 1048576 := by omega
      have hq : -1000000 ≤ q ∧ q ≤ 1000000 := by omega
      rw [swrap_in q (by omega), swrap_in (x4 + q) (by omega), swrap_in (x5 + r) (by omega), swrap_in ((i : Int) + 1) (by omega)]
      exact ih' (x4 + q) (x5 + r) (by omega) (by omega) hg' (by rw [hss]; omega) (by push_cast; omega) (by push_cast; omega)
    · rw [if_neg c]
      unfold sumE
      rw [if_neg]
      intro h
      rw [List.all_eq_true] at h
      exact c (h _ (List.getElem_mem hi))
theorem rsum_f (l : List Int) (hl : l.length ≤ 1048576) : lexpriorref02_Sum.f (l.length + 1) l = some (sumE l) :=
  rsum_l l hl l.length 0 0 0 (by omega) (by omega) (fun j _ hj => by omega) (by simp) (by omega) (by omega)
end Mo
end Go.Proofs.YtpcmhlbhepickaaGreat
