/- the plain law of shares: what is left over, and how it is shared out -/
import Derived.Test.YtgabkgomjdlgnaaDoorMonSt
namespace Go.Proofs.YtgabkgomjdlgnaaDoor
namespace Sh
/-- the sum of the first k -/
def pre (f : Nat → Nat) : Nat → Nat
  | 0 => 0
  | k + 1 => pre f k + f k
theorem pre_succ (f : Nat → Nat) (k : Nat) : pre f (k + 1) = pre f k + f k := rfl
theorem pre_mono (f : Nat → Nat) {a b : Nat} (h : a ≤ b) : pre f a ≤ pre f b := by
  induction b with
  | zero => obtain rfl : a = 0 := by omega
            exact Nat.le_refl _
  | succ b ih =>
    by_cases c : a ≤ b
    · have := ih c; rw [pre_succ]; omega
    · obtain rfl : a = b + 1 := by omega
      exact Nat.le_refl _
theorem pre_le (f : Nat → Nat) (M k : Nat) (h : ∀ i, i < k → f i ≤ M) : pre f k ≤ k * M := by
  induction k with
  | zero => rw [Nat.zero_mul]; exact Nat.le_refl _
  | succ k ih =>
    have := ih (fun i hi => h i (by omega))
    have := h k (by omega)
    rw [pre_succ, Nat.succ_mul]; omega
theorem pre_congr (f g : Nat → Nat) (k : Nat) (h : ∀ i, i < k → f i = g i) : pre f k = pre g k := by
  induction k with
  | zero => rfl
  | succ k ih => rw [pre_succ, pre_succ, ih (fun i hi => h i (by omega)), h k (by omega)]
theorem pre_le_pre (f g : Nat → Nat) (k : Nat) (h : ∀ i, i < k → f i ≤ g i) : pre f k ≤ pre g k := by
  induction k with
  | zero => exact Nat.le_refl _
  | succ k ih => rw [pre_succ, pre_succ]; have := ih (fun i hi => h i (by omega)); have := h k (by omega); omega
theorem pre_add (f g : Nat → Nat) (k : Nat) : pre (fun i => f i + g i) k = pre f k + pre g k := by
  induction k with
  | zero => rfl
  | succ k ih => rw [pre_succ, pre_succ, pre_succ, ih]; omega
theorem pre_pos (f : Nat → Nat) (k : Nat) (h : 0 < pre f k) : ∃ i, i < k ∧ 0 < f i := by
  induction k with
  | zero => exact absurd h (Nat.lt_irrefl _)
  | succ k ih =>
    rw [pre_succ] at h
    by_cases c : 0 < pre f k
    · obtain ⟨i, h1, h2⟩ := ih c; exact ⟨i, by omega, h2⟩
    · exact ⟨k, by omega, by omega⟩
/-- a part, rounded down; what is left of it -/
def q (T all : Nat) (W : Nat → Nat) (i : Nat) : Nat := T * W i / all
def r (T all : Nat) (W : Nat → Nat) (i : Nat) : Nat := T * W i % all
theorem qr (T all : Nat) (W : Nat → Nat) (i : Nat) : q T all W i * all + r T all W i = T * W i := by
  unfold q r; rw [Nat.mul_comm]; exact Nat.div_add_mod _ _
theorem pre_qr (T all : Nat) (W : Nat → Nat) (k : Nat) : pre (q T all W) k * all + pre (r T all W) k = T * pre W k := by
  induction k with
  | zero => rw [show pre (q T all W) 0 = 0 from rfl, show pre (r T all W) 0 = 0 from rfl, show pre W 0 = 0 from rfl, Nat.zero_mul, Nat.mul_zero]
  | succ k ih =>
    have h := qr T all W k
    rw [pre_succ, pre_succ, pre_succ, Nat.add_mul, Nat.mul_add]
    omega
/-- how many cents are left -/
theorem left (T n : Nat) (W : Nat → Nat) (h0 : 0 < pre W n) (hn : 0 < n) : pre (q T (pre W n) W) n ≤ T ∧ (T - pre (q T (pre W n) W) n) * pre W n = pre (r T (pre W n) W) n ∧ T - pre (q T (pre W n) W) n < n := by
  have h := pre_qr T (pre W n) W n
  have hr := pre_le (r T (pre W n) W) (pre W n - 1) n (fun i _ => by have := Nat.mod_lt (T * W i) h0; unfold r; omega)
  generalize pre W n = all at *
  generalize pre (q T all W) n = Q at *
  generalize pre (r T all W) n = Rs at *
  have h1 : Q ≤ T := by
    rcases Nat.lt_or_ge T Q with c | c
    · have := Nat.mul_le_mul_right all (show T + 1 ≤ Q from c)
      rw [Nat.add_mul, Nat.one_mul] at this
      omega
    · exact c
  have h2 : (T - Q) * all = Rs := by rw [Nat.sub_mul]; omega
  refine ⟨h1, h2, ?_⟩
  rcases Nat.lt_or_ge (T - Q) n with c | c
  · exact c
  · have h3 := Nat.mul_le_mul_right all c
    have h4 : n * (all - 1) < n * all := Nat.mul_lt_mul_of_pos_left (by omega) hn
    omega
theorem q_le (T n : Nat) (W : Nat → Nat) (h0 : 0 < pre W n) (hn : 0 < n) (k : Nat) (hk : k ≤ n) : pre (q T (pre W n) W) k ≤ T := Nat.le_trans (pre_mono _ hk) (left T n W h0 hn).1
/-- a cent more to each of f's first j -/
def bump (p f : Nat → Nat) : Nat → Nat → Nat
  | 0 => p
  | j + 1 => fun i => if i = f j then bump p f j i + 1 else bump p f j i
theorem bump_succ (p f : Nat → Nat) (j : Nat) : bump p f (j + 1) = fun i => if i = f j then bump p f j i + 1 else bump p f j i := rfl
theorem bump_le (p f : Nat → Nat) (j i : Nat) : bump p f j i ≤ p i + j := by
  induction j with
  | zero => exact Nat.le_refl _
  | succ j ih => rw [bump_succ]; simp only []; split <;> omega
theorem q_le_total (T all : Nat) (W : Nat → Nat) (i : Nat) (h : W i ≤ all) (h0 : 0 < all) : q T all W i ≤ T := by
  unfold q
  rw [Nat.div_le_iff_le_mul_add_pred h0]
  have := Nat.mul_le_mul_left T h
  rw [Nat.mul_comm all]
  omega
theorem le_pre (W : Nat → Nat) (i n : Nat) (h : i < n) : W i ≤ pre W n := by
  have := pre_mono W (show i + 1 ≤ n from h)
  rw [pre_succ] at this
  omega
end Sh
end Go.Proofs.YtgabkgomjdlgnaaDoor
