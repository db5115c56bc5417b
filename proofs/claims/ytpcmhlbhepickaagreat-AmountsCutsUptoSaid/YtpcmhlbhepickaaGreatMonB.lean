import Derived.Below
import Derived.Sort.WalkA
/- the plain law of a stable sort by keys: what SymMerge, its rotations, its blocks do to a row of numbers -/
namespace Go.Proofs.YtpcmhlbhepickaaGreat
namespace St
/-- the order of numbers by their keys, the greater keys first; of keys that are the same, by the number -/
def Lt (R : Nat → Nat) (x y : Nat) : Prop := R y < R x ∨ (R x = R y ∧ x < y)
theorem Lt.trans {R : Nat → Nat} {x y z : Nat} (h : Lt R x y) (k : Lt R y z) : Lt R x z := by unfold Lt at *; omega
theorem Lt.irrefl {R : Nat → Nat} {x : Nat} (h : Lt R x x) : False := by unfold Lt at h; omega
/-- the places from a below b stand in that order -/
def Srt (R : Nat → Nat) (f : Nat → Nat) (a b : Nat) : Prop := ∀ i j, a ≤ i → i < j → j < b → Lt R (f i) (f j)
/-- of keys that are the same the smaller number stands ahead -/
def Stb (R : Nat → Nat) (f : Nat → Nat) (a b : Nat) : Prop := ∀ i j, a ≤ i → i < j → j < b → R (f i) = R (f j) → f i < f j
/-- what f' holds from a below b is what f held there; else it is f -/
structure Sub (f f' : Nat → Nat) (a b : Nat) : Prop where
  sub : ∀ i, a ≤ i → i < b → ∃ j, a ≤ j ∧ j < b ∧ f' i = f j
  off : ∀ i, i < a ∨ b ≤ i → f' i = f i
theorem Sub.refl (f : Nat → Nat) (a b : Nat) : Sub f f a b := ⟨fun i h k => ⟨i, h, k, rfl⟩, fun _ _ => rfl⟩
theorem Sub.trans {f g h : Nat → Nat} {a b : Nat} (p : Sub f g a b) (q : Sub g h a b) : Sub f h a b :=
  ⟨fun i h1 h2 => by obtain ⟨j, j1, j2, e⟩ := q.sub i h1 h2; obtain ⟨k, k1, k2, e2⟩ := p.sub j j1 j2; exact ⟨k, k1, k2, e.trans e2⟩, fun i hi => (q.off i hi).trans (p.off i hi)⟩
theorem Sub.mono {f g : Nat → Nat} {a b c d : Nat} (p : Sub f g a b) (h1 : c ≤ a) (h2 : b ≤ d) : Sub f g c d :=
  ⟨fun i i1 i2 => by
    by_cases h : a ≤ i ∧ i < b
    · obtain ⟨j, j1, j2, e⟩ := p.sub i h.1 h.2; exact ⟨j, by omega, by omega, e⟩
    · exact ⟨i, i1, i2, p.off i (by omega)⟩, fun i hi => p.off i (by omega)⟩
theorem Srt.stb {R f : Nat → Nat} {a b : Nat} (h : Srt R f a b) : Stb R f a b := fun i j h1 h2 h3 e => by
  have := h i j h1 h2 h3; unfold Lt at this; omega
theorem Srt.mono {R f : Nat → Nat} {a b c d : Nat} (h : Srt R f a b) (h1 : a ≤ c) (h2 : d ≤ b) : Srt R f c d := fun i j k1 k2 k3 => h i j (by omega) k2 (by omega)
theorem Stb.mono {R f : Nat → Nat} {a b c d : Nat} (h : Stb R f a b) (h1 : a ≤ c) (h2 : d ≤ b) : Stb R f c d := fun i j k1 k2 k3 => h i j (by omega) k2 (by omega)
theorem Srt.congr {R f g : Nat → Nat} {a b : Nat} (h : Srt R f a b) (e : ∀ i, a ≤ i → i < b → g i = f i) : Srt R g a b := fun i j k1 k2 k3 => by
  rw [e i k1 (by omega), e j (by omega) k3]; exact h i j k1 k2 k3
/-- the test of two places, the later one's number against the earlier one's -/
theorem Stb.no {R f : Nat → Nat} {a b : Nat} (h : Stb R f a b) {i j : Nat} (h1 : a ≤ i) (h2 : i < j) (h3 : j < b) (hn : ¬ R (f i) < R (f j)) : Lt R (f i) (f j) := by
  have := h i j h1 h2 h3
  unfold Lt; omega
theorem Lt.of {R : Nat → Nat} {x y : Nat} (h : R y < R x) : Lt R x y := .inl h
/-- two parts, sorted each, all of the one ahead of all of the other -/
theorem Srt.join {R f : Nat → Nat} {a m b : Nat} (h1 : Srt R f a m) (h2 : Srt R f m b) (hx : ∀ i j, a ≤ i → i < m → m ≤ j → j < b → Lt R (f i) (f j)) : Srt R f a b := fun i j k1 k2 k3 => by
  by_cases q1 : j < m
  · exact h1 i j k1 k2 q1
  · by_cases q2 : m ≤ i
    · exact h2 i j q2 k2 k3
    · exact hx i j k1 (by omega) (by omega) k3

/-- one number goes from place a up to place c, those between go down by one -/
def shl (f : Nat → Nat) (a c : Nat) : Nat → Nat := fun x => if x < a then f x else if x < c then f (x + 1) else if x = c then f a else f x
/-- one number goes from place m down to place i, those between go up by one -/
def shr (f : Nat → Nat) (i m : Nat) : Nat → Nat := fun x => if x < i then f x else if x = i then f m else if x ≤ m then f (x - 1) else f x

theorem shl_sub (f : Nat → Nat) (a c b : Nat) (h1 : a ≤ c) (h2 : c < b) : Sub f (shl f a c) a b := by
  refine ⟨fun i i1 i2 => ?_, fun i hi => ?_⟩
  · unfold shl
    by_cases q1 : i < c
    · exact ⟨i + 1, by omega, by omega, by rw [if_neg (by omega), if_pos q1]⟩
    · by_cases q2 : i = c
      · exact ⟨a, by omega, by omega, by rw [if_neg (by omega), if_neg q1, if_pos q2]⟩
      · exact ⟨i, by omega, by omega, by rw [if_neg (by omega), if_neg q1, if_neg q2]⟩
  · unfold shl
    by_cases q1 : i < a
    · rw [if_pos q1]
    · rw [if_neg q1, if_neg (by omega), if_neg (by omega)]
theorem shr_sub (f : Nat → Nat) (a i m b : Nat) (h0 : a ≤ i) (h1 : i ≤ m) (h2 : m < b) : Sub f (shr f i m) a b := by
  refine ⟨fun x i1 i2 => ?_, fun x hi => ?_⟩
  · unfold shr
    by_cases q1 : x < i
    · exact ⟨x, by omega, by omega, by rw [if_pos q1]⟩
    · by_cases q2 : x = i
      · exact ⟨m, by omega, by omega, by rw [if_neg q1, if_pos q2]⟩
      · by_cases q3 : x ≤ m
        · exact ⟨x - 1, by omega, by omega, by rw [if_neg q1, if_neg q2, if_pos q3]⟩
        · exact ⟨x, by omega, by omega, by rw [if_neg q1, if_neg q2, if_neg q3]⟩
  · unfold shr
    by_cases q1 : x < i
    · rw [if_pos q1]
    · rw [if_neg q1, if_neg (by omega), if_neg (by omega)]
/-- symMerge, the left part one number -/
theorem one_left {R f : Nat → Nat} {a i b : Nat} (h2 : Srt R f (a + 1) b) (i1 : a + 1 ≤ i) (i2 : i ≤ b)
    (lo : ∀ h, a + 1 ≤ h → h < i → Lt R (f h) (f a)) (hi : ∀ h, i ≤ h → h < b → Lt R (f a) (f h)) : Srt R (shl f a (i - 1)) a b := by
  intro x y k1 k2 k3
  unfold shl
  rw [if_neg (by omega), if_neg (show ¬ y < a by omega)]
  by_cases q1 : y < i - 1
  · rw [if_pos (by omega), if_pos q1]
    exact h2 _ _ (by omega) (by omega) (by omega)
  · rw [if_neg q1]
    by_cases q2 : y = i - 1
    · rw [if_pos q2, if_pos (by omega)]
      exact lo _ (by omega) (by omega)
    · rw [if_neg q2]
      by_cases q3 : x < i - 1
      · rw [if_pos q3]
        exact h2 _ _ (by omega) (by omega) (by omega)
      · rw [if_neg q3]
        by_cases q4 : x = i - 1
        · rw [if_pos q4]
          exact hi _ (by omega) (by omega)
        · rw [if_neg q4]
          exact h2 _ _ (by omega) k2 k3
/-- symMerge, the right part one number -/
theorem one_right {R f : Nat → Nat} {a i m : Nat} (h1 : Srt R f a m) (i1 : a ≤ i) (i2 : i ≤ m)
    (lo : ∀ h, a ≤ h → h < i → Lt R (f h) (f m)) (hi : ∀ h, i ≤ h → h < m → Lt R (f m) (f h)) : Srt R (shr f i m) a (m + 1) := by
  intro x y k1 k2 k3
  unfold shr
  by_cases q1 : y < i
  · rw [if_pos (by omega), if_pos q1]
    exact h1 _ _ k1 k2 (by omega)
  · rw [if_neg q1]
    by_cases q2 : y = i
    · rw [if_pos q2, if_pos (by omega)]
      exact lo _ k1 (by omega)
    · rw [if_neg q2, if_pos (show y ≤ m by omega)]
      by_cases q3 : x < i
      · rw [if_pos q3]
        exact h1 _ _ k1 (by omega) (by omega)
      · rw [if_neg q3]
        by_cases q4 : x = i
        · rw [if_pos q4]
          exact hi _ (by omega) (by omega)
        · rw [if_neg q4, if_pos (by omega)]
          exact h1 _ _ (by omega) (by omega) (by omega)

/-- the places from s below m and those from m below e, exchanged as blocks -/
def rot (f : Nat → Nat) (s m e : Nat) : Nat → Nat := fun x => if x < s then f x else if x < s + (e - m) then f (x + (m - s)) else if x < e then f (x - (e - m)) else f x
theorem rot_sub (f : Nat → Nat) (a s m e b : Nat) (h0 : a ≤ s) (h1 : s ≤ m) (h2 : m ≤ e) (h3 : e ≤ b) : Sub f (rot f s m e) a b := by
  refine ⟨fun x i1 i2 => ?_, fun x hi => ?_⟩
  · unfold rot
    by_cases q1 : x < s
    · exact ⟨x, i1, i2, by rw [if_pos q1]⟩
    · rw [if_neg q1]
      by_cases q2 : x < s + (e - m)
      · exact ⟨x + (m - s), by omega, by omega, by rw [if_pos q2]⟩
      · rw [if_neg q2]
        by_cases q3 : x < e
        · exact ⟨x - (e - m), by omega, by omega, by rw [if_pos q3]⟩
        · exact ⟨x, i1, i2, by rw [if_neg q3]⟩
  · unfold rot
    by_cases q1 : x < s
    · rw [if_pos q1]
    · rw [if_neg q1, if_neg (by omega), if_neg (by omega)]
theorem rot_lo (f : Nat → Nat) (s m e x : Nat) (h : x < s) : rot f s m e x = f x := by unfold rot; rw [if_pos h]
theorem rot_l (f : Nat → Nat) (s m e x : Nat) (h : s ≤ x) (k : x < s + (e - m)) : rot f s m e x = f (x + (m - s)) := by unfold rot; rw [if_neg (by omega), if_pos k]
theorem rot_r (f : Nat → Nat) (s m e x : Nat) (h : s + (e - m) ≤ x) (k : x < e) : rot f s m e x = f (x - (e - m)) := by unfold rot; rw [if_neg (by omega), if_neg (by omega), if_pos k]
theorem rot_hi (f : Nat → Nat) (s m e x : Nat) (h0 : s ≤ m) (h1 : m ≤ e) (h : e ≤ x) : rot f s m e x = f x := by unfold rot; rw [if_neg (by omega), if_neg (by omega), if_neg (by omega)]
/-- nothing to exchange -/
theorem rot_nil (f : Nat → Nat) (s m e : Nat) (h1 : s ≤ m) (h2 : m ≤ e) (h : s = m ∨ m = e) : rot f s m e = f := by
  funext x
  unfold rot
  rcases h with rfl | rfl
  · by_cases q1 : x < s
    · rw [if_pos q1]
    · rw [if_neg q1]
      by_cases q2 : x < e
      · rw [if_pos (by omega)]; congr 1; omega
      · rw [if_neg (by omega), if_neg q2]
  · by_cases q1 : x < s
    · rw [if_pos q1]
    · rw [if_neg q1, if_neg (by omega)]
      by_cases q2 : x < m
      · rw [if_pos q2]; congr 1; omega
      · rw [if_neg q2]

/-- what stands behind the exchange: four parts, sorted each; of the halves each in order of the same keys; all of the left half ahead of all of the right -/
structure Halves (R f g : Nat → Nat) (a s mid e b : Nat) : Prop where
  p1 : Srt R g a s
  p2 : Srt R g s mid
  p3 : Srt R g mid e
  p4 : Srt R g e b
  q1 : Stb R g a mid
  q2 : Stb R g mid b
  x : ∀ i j, a ≤ i → i < mid → mid ≤ j → j < b → Lt R (g i) (g j)
  s : Sub f g a b
theorem halves {R f : Nat → Nat} {a s m e b mid : Nat} (hs : Stb R f a b) (h1 : Srt R f a m) (h2 : Srt R f m b) (a1 : a ≤ s) (a2 : s ≤ m) (a3 : m ≤ e) (a4 : e ≤ b) (hm : mid + m = s + e)
    (c1 : s < m → m < e → Lt R (f (e - 1)) (f s)) (c2 : a < s → e < b → Lt R (f (s - 1)) (f e)) : Halves R f (rot f s m e) a s mid e b := by
  -- where a number of the left half, of the right half comes from
  have hl : ∀ i, a ≤ i → i < mid → (i < s ∧ rot f s m e i = f i) ∨ (s ≤ i ∧ rot f s m e i = f (i + (m - s))) := fun i i1 i2 => by
    by_cases q : i < s
    · exact .inl ⟨q, rot_lo f s m e i q⟩
    · exact .inr ⟨by omega, rot_l f s m e i (by omega) (by omega)⟩
  have hr : ∀ i, mid ≤ i → i < b → (i < e ∧ rot f s m e i = f (i - (e - m))) ∨ (e ≤ i ∧ rot f s m e i = f i) := fun i i1 i2 => by
    by_cases q : i < e
    · exact .inl ⟨q, rot_r f s m e i (by omega) q⟩
    · exact .inr ⟨by omega, rot_hi f s m e i a2 a3 (by omega)⟩
  refine ⟨?_, ?_, ?_, ?_, ?_, ?_, ?_, rot_sub f a s m e b a1 a2 a3 a4⟩
  · exact (h1.mono (Nat.le_refl _) a2).congr (fun i i1 i2 => rot_lo f s m e i i2)
  · intro i j k1 k2 k3
    rw [rot_l f s m e i k1 (by omega), rot_l f s m e j (by omega) (by omega)]
    exact h2 _ _ (by omega) (by omega) (by omega)
  · intro i j k1 k2 k3
    rw [rot_r f s m e i (by omega) (by omega), rot_r f s m e j (by omega) (by omega)]
    exact h1 _ _ (by omega) (by omega) (by omega)
  · exact (h2.mono a3 (Nat.le_refl _)).congr (fun i i1 i2 => rot_hi f s m e i a2 a3 i1)
  · intro i j k1 k2 k3 he
    rcases hl i k1 (by omega) with ⟨p, ei⟩ | ⟨p, ei⟩ <;> rcases hl j (by omega) k3 with ⟨q, ej⟩ | ⟨q, ej⟩ <;> rw [ei, ej] at he ⊢ <;> exact hs _ _ (by omega) (by omega) (by omega) he
  · intro i j k1 k2 k3 he
    rcases hr i k1 (by omega) with ⟨p, ei⟩ | ⟨p, ei⟩ <;> rcases hr j (by omega) k3 with ⟨q, ej⟩ | ⟨q, ej⟩ <;> rw [ei, ej] at he ⊢ <;> exact hs _ _ (by omega) (by omega) (by omega) he
  · intro i j k1 k2 k3 k4
    rcases hl i k1 k2 with ⟨p, ei⟩ | ⟨p, ei⟩ <;> rcases hr j k3 k4 with ⟨q, ej⟩ | ⟨q, ej⟩ <;> rw [ei, ej]
    · exact h1 _ _ k1 (by omega) (by omega)
    · -- old[a,s) ahead of old[e,b)
      have hc := c2 (by omega) (by omega)
      have l1 : Lt R (f i) (f (s - 1)) ∨ i = s - 1 := by
        by_cases h : i = s - 1
        · exact .inr h
        · exact .inl (h1 _ _ k1 (by omega) (by omega))
      have l2 : Lt R (f e) (f j) ∨ j = e := by
        by_cases h : j = e
        · exact .inr h
        · exact .inl (h2 _ _ (by omega) (by omega) k4)
      rcases l1 with l1 | rfl <;> rcases l2 with l2 | rfl
      · exact (l1.trans hc).trans l2
      · exact l1.trans hc
      · exact hc.trans l2
      · exact hc
    · -- old[m,e) ahead of old[s,m)
      have hc := c1 (by omega) (by omega)
      have l1 : Lt R (f (i + (m - s))) (f (e - 1)) ∨ i + (m - s) = e - 1 := by
        by_cases h : i + (m - s) = e - 1
        · exact .inr h
        · exact .inl (h2 _ _ (by omega) (by omega) (by omega))
      have l2 : Lt R (f s) (f (j - (e - m))) ∨ j - (e - m) = s := by
        by_cases h : j - (e - m) = s
        · exact .inr h
        · exact .inl (h1 _ _ (by omega) (by omega) (by omega))
      rcases l1 with l1 | l1 <;> rcases l2 with l2 | l2
      · exact (l1.trans hc).trans l2
      · rw [l2]; exact l1.trans hc
      · rw [l1]; exact hc.trans l2
      · rw [l1, l2]; exact hc
    · exact h2 _ _ (by omega) (by omega) k4
/-- both halves merged -/
theorem merged {R f g g1 g2 : Nat → Nat} {a s mid e b : Nat} (H : Halves R f g a s mid e b) (a1 : a ≤ mid) (a2 : mid ≤ b) (r1 : Srt R g1 a mid) (u1 : Sub g g1 a mid) (r2 : Srt R g2 mid b) (u2 : Sub g1 g2 mid b) :
    Srt R g2 a b ∧ Sub f g2 a b := by
  refine ⟨Srt.join (m := mid) (r1.congr (fun i i1 i2 => u2.off i (.inl i2))) r2 (fun i j k1 k2 k3 k4 => ?_), H.s.trans ((u1.mono (Nat.le_refl _) a2).trans (u2.mono a1 (Nat.le_refl _)))⟩
  rw [u2.off i (.inl k2)]
  obtain ⟨i', i1, i2, ei⟩ := u1.sub i k1 k2
  obtain ⟨j', j1, j2, ej⟩ := u2.sub j k3 k4
  rw [ei, ej, u1.off j' (.inr j1)]
  exact H.x i' j' i1 i2 j1 j2

/-- the places from p, n of them, and those from q exchanged -/
def swpR (f : Nat → Nat) (p q n : Nat) : Nat → Nat := fun x => if p ≤ x ∧ x < p + n then f (x - p + q) else if q ≤ x ∧ x < q + n then f (x - q + p) else f x
/-- rotate's round, the left part the longer -/
theorem rot_big (f : Nat → Nat) (m i j : Nat) (h1 : j < i) (h2 : i ≤ m) : rot (swpR f (m - i) m j) (m - (i - j)) m (m + j) = rot f (m - i) m (m + j) := by
  funext x
  unfold rot swpR
  by_cases q1 : x < m - i
  · rw [if_pos (by omega), if_pos q1, if_neg (by omega), if_neg (by omega)]
  · rw [if_neg q1]
    by_cases q2 : x < m - i + j
    · rw [if_pos (show x < m - (i - j) by omega), if_pos (by omega), if_pos (show x < m - i + (m + j - m) by omega)]; congr 1; omega
    · rw [if_neg (show ¬ x < m - (i - j) by omega), if_neg (show ¬ x < m - i + (m + j - m) by omega)]
      by_cases q3 : x < m - (i - j) + j
      · rw [if_pos (show x < m - (i - j) + (m + j - m) by omega), if_pos (show x < m + j by omega)]
        rw [if_neg (by omega), if_pos (by omega)]; congr 1; omega
      · rw [if_neg (show ¬ x < m - (i - j) + (m + j - m) by omega)]
        by_cases q4 : x < m + j
        · rw [if_pos q4, if_pos q4, if_neg (by omega), if_neg (by omega)]
        · rw [if_neg q4, if_neg q4, if_neg (by omega), if_neg (by omega)]
/-- rotate's round, the right part the longer -/
theorem rot_small (f : Nat → Nat) (m i j : Nat) (h1 : i < j) (h2 : i ≤ m) : rot (swpR f (m - i) (m + j - i) i) (m - i) m (m + (j - i)) = rot f (m - i) m (m + j) := by
  funext x
  unfold rot swpR
  by_cases q1 : x < m - i
  · rw [if_pos q1, if_pos q1, if_neg (by omega), if_neg (by omega)]
  · rw [if_neg q1, if_neg q1]
    by_cases q2 : x < m - i + (j - i)
    · rw [if_pos (show x < m - i + (m + (j - i) - m) by omega), if_pos (show x < m - i + (m + j - m) by omega)]
      rw [if_neg (by omega), if_neg (by omega)]
    · rw [if_neg (show ¬ x < m - i + (m + (j - i) - m) by omega)]
      by_cases q3 : x < m + (j - i)
      · rw [if_pos q3, if_pos (show x < m - i + (m + j - m) by omega), if_pos (by omega)]; congr 1; omega
      · rw [if_neg q3]
        by_cases q4 : x < m + j
        · rw [if_neg (show ¬ x < m - i + (m + j - m) by omega), if_pos q4, if_neg (by omega), if_pos (by omega)]; congr 1; omega
        · rw [if_neg (show ¬ x < m - i + (m + j - m) by omega), if_neg q4, if_neg (by omega), if_neg (by omega)]
/-- rotate's end: parts of one length -/
theorem rot_same (f : Nat → Nat) (m i : Nat) (h2 : i ≤ m) : swpR f (m - i) m i = rot f (m - i) m (m + i) := by
  funext x
  unfold rot swpR
  by_cases q1 : x < m - i
  · rw [if_pos q1, if_neg (by omega), if_neg (by omega)]
  · rw [if_neg q1]
    by_cases q2 : x < m
    · rw [if_pos (by omega), if_pos (by omega)]; congr 1; omega
    · rw [if_neg (show ¬ (m - i ≤ x ∧ x < m - i + i) by omega), if_neg (show ¬ x < m - i + (m + i - m) by omega)]
      by_cases q3 : x < m + i
      · rw [if_pos (by omega), if_pos q3]; congr 1; omega
      · rw [if_neg (by omega), if_neg q3]
end St

namespace St
theorem stb_step {R f g : Nat → Nat} {a b n : Nat} (h : Stb R f 0 n) (u : Sub f g a b) (s : Srt R g a b) (hb : b ≤ n) : Stb R g 0 n := by
  intro x y k1 k2 k3 he
  by_cases cx : a ≤ x ∧ x < b
  · by_cases cy : y < b
    · exact s.stb x y cx.1 k2 cy he
    · obtain ⟨x', x1, x2, ex⟩ := u.sub x cx.1 cx.2
      rw [ex, u.off y (.inr (by omega))] at he ⊢
      exact h x' y (by omega) (by omega) k3 he
  · rw [u.off x (by omega)] at he ⊢
    by_cases cy : a ≤ y ∧ y < b
    · obtain ⟨y', y1, y2, ey⟩ := u.sub y cy.1 cy.2
      rw [ey] at he ⊢
      exact h x y' k1 (by omega) (by omega) he
    · rw [u.off y (by omega)] at he ⊢
      exact h x y k1 k2 k3 he
theorem Srt.keep {R f g : Nat → Nat} {a b c d : Nat} (h : Srt R f c d) (u : Sub f g a b) (k : d ≤ a ∨ b ≤ c) : Srt R g c d :=
  h.congr (fun i i1 i2 => u.off i (by omega))
theorem lt_mul {s t : Nat} (bs : Nat) (h : s < t) : s * bs + bs ≤ t * bs := by
  have := Nat.mul_le_mul_right bs (show s + 1 ≤ t from h)
  rwa [Nat.succ_mul] at this
/-- all blocks of a size are sorted, that are ahead of n -/
def Bl (R f : Nat → Nat) (bs n : Nat) : Prop := ∀ s, Srt R f (s * bs) (min (s * bs + bs) n)
/-- what holds all the time: of the same keys the smaller numbers ahead; what is held is what was -/
structure Kp (R f0 f : Nat → Nat) (n : Nat) : Prop where
  stb : Stb R f 0 n
  sub : Sub f0 f 0 n
theorem Kp.step {R f0 f g : Nat → Nat} {a b n : Nat} (h : Kp R f0 f n) (u : Sub f g a b) (s : Srt R g a b) (hb : b ≤ n) : Kp R f0 g n :=
  ⟨stb_step h.stb u s hb, h.sub.trans (u.mono (Nat.zero_le _) hb)⟩
/-- t blocks are sorted -/
structure Ph1 (R f0 f : Nat → Nat) (n bs t : Nat) : Prop extends Kp R f0 f n where
  bl : ∀ s, s < t → Srt R f (s * bs) (s * bs + bs)
theorem Ph1.start {R f0 : Nat → Nat} {n bs : Nat} (h : Stb R f0 0 n) : Ph1 R f0 f0 n bs 0 := ⟨⟨h, Sub.refl _ _ _⟩, fun s hs => by omega⟩
theorem Ph1.step {R f0 f g : Nat → Nat} {n bs t : Nat} (h : Ph1 R f0 f n bs t) (u : Sub f g (t * bs) (t * bs + bs)) (s : Srt R g (t * bs) (t * bs + bs)) (hb : t * bs + bs ≤ n) : Ph1 R f0 g n bs (t + 1) :=
  ⟨h.toKp.step u s hb, fun q hq => by
    by_cases c : q < t
    · exact (h.bl q c).keep u (.inl (lt_mul bs c))
    · obtain rfl : q = t := by omega
      exact s⟩
theorem Ph1.fin {R f0 f g : Nat → Nat} {n bs t : Nat} (h : Ph1 R f0 f n bs t) (u : Sub f g (t * bs) n) (s : Srt R g (t * bs) n) (hb : n < t * bs + bs) : Kp R f0 g n ∧ Bl R g bs n :=
  ⟨h.toKp.step u s (Nat.le_refl _), fun q => by
    rcases Nat.lt_trichotomy q t with c | c | c
    · have := lt_mul bs c
      exact ((h.bl q c).keep u (.inl this)).mono (Nat.le_refl _) (by omega)
    · subst c; exact s.mono (Nat.le_refl _) (by omega)
    · have := lt_mul bs c
      intro i j h1 h2 h3; omega⟩
/-- t blocks of twice the size are sorted, behind them the smaller ones -/
structure Ph2 (R f0 f : Nat → Nat) (n bs t : Nat) : Prop extends Kp R f0 f n where
  big : ∀ s, s < t → Srt R f (s * (2 * bs)) (s * (2 * bs) + 2 * bs)
  small : ∀ s, 2 * t ≤ s → Srt R f (s * bs) (min (s * bs + bs) n)
theorem two_mul' (s bs : Nat) : s * (2 * bs) = 2 * (s * bs) := by rw [Nat.mul_left_comm]
theorem mul_two' (s bs : Nat) : (2 * s) * bs = 2 * (s * bs) := by rw [Nat.mul_assoc]
theorem Ph2.start {R f0 f : Nat → Nat} {n bs : Nat} (h : Kp R f0 f n) (b : Bl R f bs n) : Ph2 R f0 f n bs 0 := ⟨h, fun s hs => by omega, fun s _ => b s⟩
/-- the two parts that are merged next -/
theorem Ph2.parts {R f0 f : Nat → Nat} {n bs t : Nat} (h : Ph2 R f0 f n bs t) (a b : Nat) (ha : a = t * (2 * bs)) (hm : a + bs ≤ n) (hb1 : b ≤ a + 2 * bs) (hb : b ≤ n) : Srt R f a (a + bs) ∧ Srt R f (a + bs) b ∧ Stb R f a b := by
  have e1 := two_mul' t bs
  have e2 := mul_two' t bs
  have e3 : (2 * t + 1) * bs = (2 * t) * bs + bs := by rw [Nat.succ_mul]
  have s1 := h.small (2 * t) (Nat.le_refl _)
  have s2 := h.small (2 * t + 1) (by omega)
  refine ⟨s1.mono (by omega) (by omega), s2.mono (by omega) (by omega), h.stb.mono (by omega) hb⟩
theorem Ph2.step {R f0 f g : Nat → Nat} {n bs t : Nat} (h : Ph2 R f0 f n bs t) (a : Nat) (ha : a = t * (2 * bs)) (u : Sub f g a (a + 2 * bs)) (s : Srt R g a (a + 2 * bs)) (hb : a + 2 * bs ≤ n) : Ph2 R f0 g n bs (t + 1) := by
  subst ha
  refine ⟨h.toKp.step u s hb, fun q hq => ?_, fun q hq => ?_⟩
  · by_cases c : q < t
    · exact (h.big q c).keep u (.inl (lt_mul _ c))
    · obtain rfl : q = t := by omega
      exact s
  · have e1 := two_mul' t bs
    have e2 := mul_two' t bs
    have e3 : (2 * t + 2) * bs = (2 * t) * bs + 2 * bs := Nat.add_mul _ _ _
    have e4 := Nat.mul_le_mul_right bs (show 2 * t + 2 ≤ q by omega)
    exact (h.small q (by omega)).keep u (.inr (by omega))
theorem Ph2.fin {R f0 f g : Nat → Nat} {n bs t : Nat} (h : Ph2 R f0 f n bs t) (a : Nat) (ha : a = t * (2 * bs)) (u : Sub f g a n) (s : Srt R g a n) (hb : n < a + 2 * bs) : Kp R f0 g n ∧ Bl R g (2 * bs) n := by
  subst ha
  refine ⟨h.toKp.step u s (Nat.le_refl _), fun q => ?_⟩
  rcases Nat.lt_trichotomy q t with c | c | c
  · have := lt_mul (2 * bs) c
    exact ((h.big q c).keep u (.inl this)).mono (Nat.le_refl _) (by omega)
  · subst c; exact s.mono (Nat.le_refl _) (by omega)
  · have := lt_mul (2 * bs) c
    intro i j h1 h2 h3; omega
/-- nothing to merge at the end -/
theorem Ph2.fin0 {R f0 f : Nat → Nat} {n bs t : Nat} (h : Ph2 R f0 f n bs t) (a : Nat) (ha : a = t * (2 * bs)) (h0 : 0 < bs) (hb : n ≤ a + bs) : Kp R f0 f n ∧ Bl R f (2 * bs) n := by
  have e1 := two_mul' t bs
  have e2 := mul_two' t bs
  refine h.fin a ha (Sub.refl _ _ _) ((h.small (2 * t) (Nat.le_refl _)).mono (by omega) (by omega)) (by omega)
theorem Bl.all {R f : Nat → Nat} {bs n : Nat} (h : Bl R f bs n) (hb : n ≤ bs) : Srt R f 0 n := (h 0).mono (by omega) (by omega)
end St
end Go.Proofs.YtpcmhlbhepickaaGreat
/- the library's insertion sort, of keys -/
namespace Go.Proofs.YtpcmhlbhepickaaGreat
namespace St
open Go.Sort Go.Proofs
variable {α : Type} [Inhabited α] (val : α → Nat)
/-- an array, read as places -/
def fn (d : Array α) : Nat → Nat := fun i => val d[i]!
theorem fn_swp (d : Array α) (i j : Nat) (hi : i < d.size) (hj : j < d.size) (x : Nat) : fn val (swp d i j) x = if x = i then fn val d j else if x = j then fn val d i else fn val d x := by
  unfold fn
  by_cases h1 : x = i
  · rw [if_pos h1, h1]
    by_cases h : i = j
    · rw [← h, swp_right d i i hi]
    · rw [swp_left d i j hi h]
  · rw [if_neg h1]
    by_cases h2 : x = j
    · rw [if_pos h2, h2, swp_right d i j hj]
    · rw [if_neg h2, swp_other d i j x h1 h2]
theorem swp_sub (d : Array α) (i j a b : Nat) (hi : i < d.size) (hj : j < d.size) (i1 : a ≤ i) (i2 : i < b) (j1 : a ≤ j) (j2 : j < b) : Sub (fn val d) (fn val (swp d i j)) a b := by
  refine ⟨fun x x1 x2 => ?_, fun x hx => ?_⟩
  · rw [fn_swp val d i j hi hj]
    by_cases h1 : x = i
    · exact ⟨j, j1, j2, by rw [if_pos h1]⟩
    · by_cases h2 : x = j
      · exact ⟨i, i1, i2, by rw [if_neg h1, if_pos h2]⟩
      · exact ⟨x, x1, x2, by rw [if_neg h1, if_neg h2]⟩
  · rw [fn_swp val d i j hi hj, if_neg (by omega), if_neg (by omega)]
theorem ins_in (R : Nat → Nat) (lt : α → α → Bool) (hlt : ∀ x y, lt x y = decide (R (val y) < R (val x))) (a t : Nat) : ∀ (j : Nat) (d : Array α), a ≤ j → j ≤ t → t < d.size →
    (∀ x y, a ≤ x → x < y → y ≤ t → x ≠ j → y ≠ j → Lt R (fn val d x) (fn val d y)) → (∀ k, j < k → k ≤ t → Lt R (fn val d j) (fn val d k)) → (∀ k, a ≤ k → k < j → R (fn val d k) = R (fn val d j) → fn val d k < fn val d j) →
    (insInner lt a j d).size = d.size ∧ Srt R (fn val (insInner lt a j d)) a (t + 1) ∧ Sub (fn val d) (fn val (insInner lt a j d)) a (t + 1) := by
  intro j
  induction j with
  | zero =>
    intro d h1 h2 h3 p1 p2 p3
    rw [insInner_stop lt a 0 d (.inl (by omega))]
    refine ⟨rfl, fun x y k1 k2 k3 => ?_, Sub.refl _ _ _⟩
    by_cases h : x = 0
    · subst h; exact p2 y k2 (by omega)
    · exact p1 x y k1 k2 (by omega) h (by omega)
  | succ j ih =>
    intro d h1 h2 h3 p1 p2 p3
    by_cases hja : j + 1 ≤ a
    · rw [insInner_stop lt a (j + 1) d (.inl hja)]
      refine ⟨rfl, fun x y k1 k2 k3 => ?_, Sub.refl _ _ _⟩
      by_cases h : x = j + 1
      · subst h; exact p2 y k2 (by omega)
      · exact p1 x y k1 k2 (by omega) h (by omega)
    · cases hl : lt d[j + 1]! d[j + 1 - 1]! with
      | false =>
        rw [insInner_stop lt a (j + 1) d (.inr hl)]
        rw [hlt] at hl
        have hl2 : ¬ R (fn val d j) < R (fn val d (j + 1)) := of_decide_eq_false hl
        have hlast : Lt R (fn val d j) (fn val d (j + 1)) := by
          have := p3 j (by omega) (by omega)
          unfold Lt; omega
        refine ⟨rfl, fun x y k1 k2 k3 => ?_, Sub.refl _ _ _⟩
        by_cases h : x = j + 1
        · subst h; exact p2 y k2 (by omega)
        · by_cases h' : y = j + 1
          · subst h'
            by_cases h'' : x = j
            · subst h''; exact hlast
            · exact (p1 x j k1 (by omega) (by omega) h (by omega)).trans hlast
          · exact p1 x y k1 k2 (by omega) h h'
      | true =>
        rw [insInner_go lt a (j + 1) d (by omega) hl]
        rw [hlt] at hl
        have hl2 : R (fn val d j) < R (fn val d (j + 1)) := of_decide_eq_true hl
        have e := fn_swp val d (j + 1) j (by omega) (by omega)
        have hs := swp_sub val d (j + 1) j a (t + 1) (by omega) (by omega) (by omega) (by omega) (by omega) (by omega)
        simp only [Nat.add_sub_cancel]
        have P1 : ∀ x y, a ≤ x → x < y → y ≤ t → x ≠ j → y ≠ j → Lt R (fn val (swp d (j + 1) j) x) (fn val (swp d (j + 1) j) y) := by
          intro x y k1 k2 k3 k4 k5
          rw [e x, e y]
          by_cases c1 : x = j + 1
          · rw [if_pos c1, if_neg (by omega), if_neg (by omega)]
            exact p1 j y (by omega) (by omega) k3 (by omega) (by omega)
          · rw [if_neg c1, if_neg k4]
            by_cases c2 : y = j + 1
            · rw [if_pos c2]
              exact p1 x j k1 (by omega) (by omega) c1 (by omega)
            · rw [if_neg c2, if_neg k5]
              exact p1 x y k1 k2 k3 c1 c2
        have P2 : ∀ k, j < k → k ≤ t → Lt R (fn val (swp d (j + 1) j) j) (fn val (swp d (j + 1) j) k) := by
          intro k k1 k2
          rw [e j, e k, if_neg (by omega), if_pos rfl]
          by_cases c1 : k = j + 1
          · rw [if_pos c1]; exact .inl hl2
          · rw [if_neg c1, if_neg (by omega)]
            exact p2 k (by omega) k2
        have P3 : ∀ k, a ≤ k → k < j → R (fn val (swp d (j + 1) j) k) = R (fn val (swp d (j + 1) j) j) → fn val (swp d (j + 1) j) k < fn val (swp d (j + 1) j) j := by
          intro k k1 k2
          rw [e j, e k, if_neg (show ¬ j = j + 1 by omega), if_pos rfl, if_neg (show ¬ k = j + 1 by omega), if_neg (show ¬ k = j by omega)]
          exact p3 k k1 (by omega)
        obtain ⟨q1, q2, q3⟩ := ih (swp d (j + 1) j) (by omega) (by omega) (by rw [size_swp]; exact h3) P1 P2 P3
        exact ⟨q1.trans (size_swp d _ _), q2, hs.trans q3⟩
theorem ins_out (R : Nat → Nat) (lt : α → α → Bool) (hlt : ∀ x y, lt x y = decide (R (val y) < R (val x))) (a b : Nat) : ∀ (n i : Nat) (d : Array α), n = b - i → a < i → b ≤ d.size →
    Srt R (fn val d) a i → Stb R (fn val d) a b →
    (insOuter lt a b i d).size = d.size ∧ Srt R (fn val (insOuter lt a b i d)) a b ∧ Sub (fn val d) (fn val (insOuter lt a b i d)) a b := by
  intro n
  induction n with
  | zero =>
    intro i d hn hi hb h1 h2
    rw [insOuter_stop lt a b i d (by omega)]
    exact ⟨rfl, h1.mono (Nat.le_refl _) (by omega), Sub.refl _ _ _⟩
  | succ n ih =>
    intro i d hn hi hb h1 h2
    rw [insOuter_go lt a b i d (by omega)]
    obtain ⟨q1, q2, q3⟩ := ins_in val R lt hlt a i i d (by omega) (Nat.le_refl _) (by omega) (fun x y k1 k2 k3 k4 k5 => h1 x y k1 k2 (by omega)) (fun k k1 k2 => by omega) (fun k k1 k2 => h2 k i k1 k2 (by omega))
    have hst : Stb R (fn val (insInner lt a i d)) a b := by
      intro x y k1 k2 k3
      by_cases c : y < i + 1
      · exact q2.stb x y k1 k2 c
      · rw [q3.off y (.inr (by omega))]
        by_cases c2 : x < i + 1
        · obtain ⟨x', x1, x2, ex⟩ := q3.sub x k1 c2
          rw [ex]
          exact h2 x' y x1 (by omega) k3
        · rw [q3.off x (.inr (by omega))]
          exact h2 x y k1 k2 k3
    obtain ⟨r1, r2, r3⟩ := ih (i + 1) (insInner lt a i d) (by omega) (by omega) (by omega) q2 hst
    exact ⟨r1.trans q1, r2, (q3.mono (Nat.le_refl _) (by omega)).trans r3⟩
theorem ins (R : Nat → Nat) (lt : α → α → Bool) (hlt : ∀ x y, lt x y = decide (R (val y) < R (val x))) (a b : Nat) (d : Array α) (hb : b ≤ d.size) (h2 : Stb R (fn val d) a b) :
    (insertionSort lt d a b).size = d.size ∧ Srt R (fn val (insertionSort lt d a b)) a b ∧ Sub (fn val d) (fn val (insertionSort lt d a b)) a b :=
  ins_out val R lt hlt a b _ (a + 1) d rfl (by omega) hb (fun x y k1 k2 k3 => by omega) h2
end St
end Go.Proofs.YtpcmhlbhepickaaGreat
/- the plain law of shares: what is left over, and how it is shared out -/
namespace Go.Proofs.YtpcmhlbhepickaaGreat
namespace Sh
/-- the sum of the first k -/
def pre (f : Nat → Nat) : Nat → Nat
  | 0 => 0
  | k + 1 => pre f k + f k
theorem pre_succ (f : Nat → Nat) (k : Nat) : pre f (k + 1) = pre f k + f k := rfl
theorem pre_mono (f : Nat → Nat) {a b : Nat} (h : a ≤ b) : pre f a ≤ pre f b := by
  induction b with
  | zero => obtain rfl : a = 0 := by omega
            exact Nat.le_refl _
  | succ b ih =>
    by_cases c : a ≤ b
    · have := ih c; rw [pre_succ]; omega
    · obtain rfl : a = b + 1 := by omega
      exact Nat.le_refl _
theorem pre_le (f : Nat → Nat) (M k : Nat) (h : ∀ i, i < k → f i ≤ M) : pre f k ≤ k * M := by
  induction k with
  | zero => rw [Nat.zero_mul]; exact Nat.le_refl _
  | succ k ih =>
    have := ih (fun i hi => h i (by omega))
    have := h k (by omega)
    rw [pre_succ, Nat.succ_mul]; omega
theorem pre_congr (f g : Nat → Nat) (k : Nat) (h : ∀ i, i < k → f i = g i) : pre f k = pre g k := by
  induction k with
  | zero => rfl
  | succ k ih => rw [pre_succ, pre_succ, ih (fun i hi => h i (by omega)), h k (by omega)]
/-- a part, rounded down; what is left of it -/
def q (T all : Nat) (W : Nat → Nat) (i : Nat) : Nat := T * W i / all
def r (T all : Nat) (W : Nat → Nat) (i : Nat) : Nat := T * W i % all
theorem qr (T all : Nat) (W : Nat → Nat) (i : Nat) : q T all W i * all + r T all W i = T * W i := by
  unfold q r; rw [Nat.mul_comm]; exact Nat.div_add_mod _ _
theorem pre_qr (T all : Nat) (W : Nat → Nat) (k : Nat) : pre (q T all W) k * all + pre (r T all W) k = T * pre W k := by
  induction k with
  | zero => rw [show pre (q T all W) 0 = 0 from rfl, show pre (r T all W) 0 = 0 from rfl, show pre W 0 = 0 from rfl, Nat.zero_mul, Nat.mul_zero]
  | succ k ih =>
    have h := qr T all W k
    rw [pre_succ, pre_succ, pre_succ, Nat.add_mul, Nat.mul_add]
    omega
/-- how many cents are left -/
theorem left (T n : Nat) (W : Nat → Nat) (h0 : 0 < pre W n) (hn : 0 < n) : pre (q T (pre W n) W) n ≤ T ∧ (T - pre (q T (pre W n) W) n) * pre W n = pre (r T (pre W n) W) n ∧ T - pre (q T (pre W n) W) n < n := by
  have h := pre_qr T (pre W n) W n
  have hr := pre_le (r T (pre W n) W) (pre W n - 1) n (fun i _ => by have := Nat.mod_lt (T * W i) h0; unfold r; omega)
  generalize pre W n = all at *
  generalize pre (q T all W) n = Q at *
  generalize pre (r T all W) n = Rs at *
  have h1 : Q ≤ T := by
    rcases Nat.lt_or_ge T Q with c | c
    · have := Nat.mul_le_mul_right all (show T + 1 ≤ Q from c)
      rw [Nat.add_mul, Nat.one_mul] at this
      omega
    · exact c
  have h2 : (T - Q) * all = Rs := by rw [Nat.sub_mul]; omega
  refine ⟨h1, h2, ?_⟩
  rcases Nat.lt_or_ge (T - Q) n with c | c
  · exact c
  · have h3 := Nat.mul_le_mul_right all c
    have h4 : n * (all - 1) < n * all := Nat.mul_lt_mul_of_pos_left (by omega) hn
    omega
theorem q_le (T n : Nat) (W : Nat → Nat) (h0 : 0 < pre W n) (hn : 0 < n) (k : Nat) (hk : k ≤ n) : pre (q T (pre W n) W) k ≤ T := Nat.le_trans (pre_mono _ hk) (left T n W h0 hn).1
/-- a cent more to each of f's first j -/
def bump (p f : Nat → Nat) : Nat → Nat → Nat
  | 0 => p
  | j + 1 => fun i => if i = f j then bump p f j i + 1 else bump p f j i
theorem bump_succ (p f : Nat → Nat) (j : Nat) : bump p f (j + 1) = fun i => if i = f j then bump p f j i + 1 else bump p f j i := rfl
theorem bump_le (p f : Nat → Nat) (j i : Nat) : bump p f j i ≤ p i + j := by
  induction j with
  | zero => exact Nat.le_refl _
  | succ j ih => rw [bump_succ]; simp only []; split <;> omega
theorem q_le_total (T all : Nat) (W : Nat → Nat) (i : Nat) (h : W i ≤ all) (h0 : 0 < all) : q T all W i ≤ T := by
  unfold q
  rw [Nat.div_le_iff_le_mul_add_pred h0]
  have := Nat.mul_le_mul_left T h
  rw [Nat.mul_comm all]
  omega
theorem le_pre (W : Nat → Nat) (i n : Nat) (h : i < n) : W i ≤ pre W n := by
  have := pre_mono W (show i + 1 ≤ n from h)
  rw [pre_succ] at this
  omega
end Sh
end Go.Proofs.YtpcmhlbhepickaaGreat
/- the plain law of MoneyWhole: what Share makes of a total -/
namespace Go.Proofs.YtpcmhlbhepickaaGreat
set_option linter.unusedVariables false
set_option linter.unusedSimpArgs false
namespace Wh
open St (Lt Srt)
/-- what maps n numbers into n numbers, no two to one, meets all -/
theorem surj_of : ∀ (n : Nat) (f : Nat → Nat), (∀ i, i < n → f i < n) → (∀ i j, i < j → j < n → f i ≠ f j) → ∀ y, y < n → ∃ t, t < n ∧ f t = y := by
  intro n
  induction n with
  | zero => intro f _ _ y hy; omega
  | succ n ih =>
    intro f hf hi y hy
    have hz := hf n (by omega)
    have hg1 : ∀ i, i < n → (if f i = n then f n else f i) < n := fun i h => by
      have h1 := hf i (by omega)
      have h2 := hi i n h (by omega)
      split <;> omega
    have hg2 : ∀ i j, i < j → j < n → (if f i = n then f n else f i) ≠ (if f j = n then f n else f j) := fun i j h1 h2 => by
      have a1 := hi i j h1 (by omega)
      have a2 := hi i n (by omega) (by omega)
      have a3 := hi j n (by omega) (by omega)
      split <;> split <;> omega
    have hs := ih (fun i => if f i = n then f n else f i) hg1 hg2
    by_cases h1 : y = f n
    · exact ⟨n, by omega, h1.symm⟩
    · by_cases h2 : y = n
      · obtain ⟨t, ht, he⟩ := hs (f n) (by omega)
        have a := hi t n ht (by omega)
        have he' : (if f t = n then f n else f t) = f n := he
        split at he'
        · exact ⟨t, by omega, by omega⟩
        · exact absurd he' a
      · obtain ⟨t, ht, he⟩ := hs y (by omega)
        have he' : (if f t = n then f n else f t) = y := he
        split at he'
        · exact absurd he'.symm h1
        · exact ⟨t, by omega, he'⟩
/-- i is among the first j -/
def hit (f : Nat → Nat) (j i : Nat) : Prop := ∃ t, t < j ∧ f t = i
theorem bump_eq (Q f : Nat → Nat) (n : Nat) (inj : ∀ a b, a < b → b < n → f a ≠ f b) : ∀ j, j ≤ n → ∀ i, (hit f j i → Sh.bump Q f j i = Q i + 1) ∧ (¬ hit f j i → Sh.bump Q f j i = Q i) := by
  intro j
  induction j with
  | zero => intro _ i; exact ⟨fun ⟨t, h, _⟩ => absurd h (by omega), fun _ => rfl⟩
  | succ j ih =>
    intro hj i
    obtain ⟨h1, h2⟩ := ih (by omega) i
    have hb : Sh.bump Q f (j + 1) i = if i = f j then Sh.bump Q f j i + 1 else Sh.bump Q f j i := rfl
    rw [hb]
    by_cases c : i = f j
    · have hno : ¬ hit f j i := fun ⟨t, ht, he⟩ => inj t j ht (by omega) (he.trans c)
      rw [if_pos c, h2 hno]
      exact ⟨fun _ => rfl, fun h => absurd ⟨j, by omega, c.symm⟩ h⟩
    · rw [if_neg c]
      refine ⟨fun ⟨t, ht, he⟩ => h1 ⟨t, ?_, he⟩, fun h => h2 (fun ⟨t, ht, he⟩ => h ⟨t, by omega, he⟩)⟩
      have : t ≠ j := fun e => c (by rw [← he, e])
      omega
theorem pre_add1 (g : Nat → Nat) (k : Nat) : ∀ n, Sh.pre (fun i => if i = k then g i + 1 else g i) n = Sh.pre g n + (if k < n then 1 else 0) := by
  intro n
  induction n with
  | zero => rfl
  | succ n ih =>
    rw [Sh.pre_succ, ih, Sh.pre_succ]
    by_cases c : n = k
    · rw [if_pos c, if_neg (by omega), if_pos (by omega)]; omega
    · rw [if_neg c]
      by_cases d : k < n
      · rw [if_pos d, if_pos (by omega)]; omega
      · rw [if_neg d, if_neg (by omega)]; omega
theorem pre_bump (Q f : Nat → Nat) (n : Nat) (hf : ∀ i, i < n → f i < n) : ∀ j, j ≤ n → Sh.pre (Sh.bump Q f j) n = Sh.pre Q n + j := by
  intro j
  induction j with
  | zero => intro _; rfl
  | succ j ih =>
    intro hj
    rw [Sh.bump_succ, pre_add1, ih (by omega), if_pos (hf j (by omega))]
    omega
/-- the rests behind j picks -/
def res (R f : Nat → Nat) : Nat → Nat → Nat
  | 0 => R
  | j + 1 => fun i => if i = f j then 0 else res R f j i
theorem res_hit (R f : Nat → Nat) (i : Nat) : ∀ j, hit f j i → res R f j i = 0 := by
  intro j
  induction j with
  | zero => exact fun ⟨t, h, _⟩ => absurd h (by omega)
  | succ j ih =>
    rintro ⟨t, ht, he⟩
    have hb : res R f (j + 1) i = if i = f j then 0 else res R f j i := rfl
    rw [hb]
    by_cases c : i = f j
    · rw [if_pos c]
    · rw [if_neg c]
      have : t ≠ j := fun e => c (by rw [← he, e])
      exact ih ⟨t, by omega, he⟩
theorem res_le (R f : Nat → Nat) (i : Nat) : ∀ j, res R f j i ≤ R i := by
  intro j
  induction j with
  | zero => exact Nat.le_refl _
  | succ j ih =>
    have hb : res R f (j + 1) i = if i = f j then 0 else res R f j i := rfl
    rw [hb]
    split
    · omega
    · exact ih
theorem pre_drop (g : Nat → Nat) (k : Nat) : ∀ n, Sh.pre g n ≤ Sh.pre (fun i => if i = k then 0 else g i) n + g k := by
  intro n
  induction n with
  | zero => exact Nat.zero_le _
  | succ n ih =>
    rw [Sh.pre_succ, Sh.pre_succ]
    by_cases c : n = k
    · have e : Sh.pre (fun i => if i = k then 0 else g i) n = Sh.pre g n := Sh.pre_congr _ _ _ (fun i hi => if_neg (by omega))
      rw [if_pos c, e, c]
      omega
    · rw [if_neg c]; omega
theorem pre_res (R f : Nat → Nat) (n M : Nat) (hM : ∀ i, R i ≤ M) : ∀ j, Sh.pre R n ≤ Sh.pre (res R f j) n + j * M := by
  intro j
  induction j with
  | zero => rw [Nat.zero_mul]; exact Nat.le_refl _
  | succ j ih =>
    have h1 := pre_drop (res R f j) (f j) n
    have h2 := res_le R f (f j) j
    have h3 := hM (f j)
    have e : res R f (j + 1) = fun i => if i = f j then 0 else res R f j i := rfl
    rw [e, Nat.succ_mul]
    omega
theorem pos_of_hit (R f : Nat → Nat) (n A L : Nat) (hs : Srt R f 0 n) (hf : ∀ i, i < n → f i < n) (inj : ∀ a b, a < b → b < n → f a ≠ f b) (ha : 0 < A) (hR : ∀ i, R i < A) (hL : L * A = Sh.pre R n) (hLn : L ≤ n) (t : Nat) (ht : t < L) : 0 < R (f t) := by
  rcases Nat.eq_zero_or_pos (R (f t)) with h0 | h0
  · exfalso
    have hz : ∀ i, i < n → res R f t i ≤ 0 := by
      intro i hi
      obtain ⟨s, hsn, rfl⟩ := surj_of n f hf inj i hi
      rcases Nat.lt_or_ge s t with c | c
      · rw [res_hit R f _ t ⟨s, c, rfl⟩]; exact Nat.le_refl _
      · have hle := res_le R f (f s) t
        rcases Nat.eq_or_lt_of_le c with c2 | c2
        · subst c2; omega
        · have hl := hs t s (Nat.zero_le _) c2 hsn
          unfold Lt at hl
          omega
    have h1 := Sh.pre_le _ 0 n hz
    have h2 := pre_res R f n (A - 1) (fun i => by have := hR i; omega) t
    have h3 : t * (A - 1) ≤ t * A := Nat.mul_le_mul_left _ (by omega)
    have h4 : (t + 1) * A ≤ L * A := Nat.mul_le_mul_right _ (by omega)
    rw [Nat.succ_mul] at h4
    omega
  · exact h0
/-- what the stage's theorem says of parts -/
structure Ok (n T : Nat) (W B : Nat → Nat) : Prop where
  sum : Sh.pre B n = T
  zero : ∀ i, i < n → W i = 0 → B i = 0
  up : ∀ i k, i < n → k < n → W k < W i → B k ≤ B i
  same : ∀ i k, k < i → i < n → W i = W k → B i ≤ B k ∧ B k ≤ B i + 1
theorem law (T n A L : Nat) (W Q R f : Nat → Nat) (hA : Sh.pre W n = A) (ha : 0 < A) (h1 : 0 < n) (hQ : Sh.q T A W = Q) (hR : Sh.r T A W = R) (hL : T - Sh.pre Q n = L) (hs : Srt R f 0 n) (hf : ∀ i, i < n → f i < n) :
    Ok n T W (Sh.bump Q f L) := by
  have hl : Sh.pre Q n ≤ T ∧ L * A = Sh.pre R n ∧ L < n := by subst hA hQ hR hL; exact Sh.left T n W ha h1
  have inj : ∀ a b, a < b → b < n → f a ≠ f b := fun a b hab hb e => Lt.irrefl (R := R) (x := f b) (by have h := hs a b (Nat.zero_le _) hab hb; rw [e] at h; exact h)
  have hqr : ∀ i, Q i * A + R i = T * W i := fun i => by subst hQ hR; exact Sh.qr T A W i
  have hRA : ∀ i, R i < A := fun i => by subst hR; exact Nat.mod_lt _ ha
  have hB := bump_eq Q f n inj L (by omega)
  have hlo : ∀ i, Q i ≤ Sh.bump Q f L i := fun i => by
    by_cases c : hit f L i
    · rw [(hB i).1 c]; omega
    · rw [(hB i).2 c]; exact Nat.le_refl _
  have hhi : ∀ i, Sh.bump Q f L i ≤ Q i + 1 := fun i => by
    by_cases c : hit f L i
    · rw [(hB i).1 c]; exact Nat.le_refl _
    · rw [(hB i).2 c]; omega
  have hord : ∀ i k, i < n → R k < R i ∨ (R i = R k ∧ i < k) → hit f L k → hit f L i := by
    rintro i k hi hlt ⟨t, ht, rfl⟩
    obtain ⟨s, hsn, rfl⟩ := surj_of n f hf inj i hi
    rcases Nat.lt_or_ge s L with c | c
    · exact ⟨s, c, rfl⟩
    · have h := hs t s (Nat.zero_le _) (by omega) hsn
      unfold Lt at h
      omega
  have hmono : ∀ i k, Q i = Q k → (hit f L k → hit f L i) → Sh.bump Q f L k ≤ Sh.bump Q f L i := fun i k hq hh => by
    by_cases c : hit f L k
    · rw [(hB k).1 c, (hB i).1 (hh c), hq]; exact Nat.le_refl _
    · rw [(hB k).2 c, ← hq]; exact hlo i
  refine ⟨?_, ?_, ?_, ?_⟩
  · rw [pre_bump Q f n hf L (by omega)]; omega
  · intro i hi hw
    have h2 := hqr i
    rw [hw, Nat.mul_zero] at h2
    have hr0 : R i = 0 := by omega
    have hq0 : Q i = 0 := by
      rcases Nat.eq_zero_or_pos (Q i) with h | h
      · exact h
      · have := Nat.mul_pos h ha; omega
    rw [(hB i).2, hq0]
    rintro ⟨t, ht, rfl⟩
    have := pos_of_hit R f n A L hs hf inj ha hRA hl.2.1 (by omega) t ht
    omega
  · intro i k hi hk hw
    have h2 := hqr i
    have h3 := hqr k
    have h4 : T * W k ≤ T * W i := Nat.mul_le_mul_left _ (by omega)
    have h5 := hRA i
    rcases Nat.lt_trichotomy (Q k) (Q i) with c | c | c
    · exact Nat.le_trans (hhi k) (Nat.le_trans c (hlo i))
    · rw [c] at h3
      refine hmono i k c.symm ?_
      rcases Nat.lt_or_ge (R k) (R i) with d | d
      · exact hord i k hi (Or.inl d)
      · have e : T * W k = T * W i := by omega
        have t0 : T = 0 := by
          rcases Nat.eq_zero_or_pos T with h | h
          · exact h
          · have := Nat.eq_of_mul_eq_mul_left h e; omega
        rintro ⟨t, ht, _⟩
        omega
    · have : (Q i + 1) * A ≤ Q k * A := Nat.mul_le_mul_right _ c
      rw [Nat.succ_mul] at this
      omega
  · intro i k hki hi hw
    have hq : Q i = Q k := by subst hQ; show T * W i / A = T * W k / A; rw [hw]
    have hr : R i = R k := by subst hR; show T * W i % A = T * W k % A; rw [hw]
    refine ⟨hmono k i hq.symm (hord k i (by omega) (Or.inr ⟨hr.symm, hki⟩)), ?_⟩
    have a := hhi k
    have b := hlo i
    omega
end Wh
end Go.Proofs.YtpcmhlbhepickaaGreat
