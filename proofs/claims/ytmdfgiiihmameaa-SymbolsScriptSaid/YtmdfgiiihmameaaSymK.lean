import Derived.Test.YtmdfgiiihmameaaSymA
namespace Go.Proofs.Ytmdfgiiihmameaa
open Go.Shelf Go.RowKit Go.Lib
namespace Sy
def okN (c : Nat) : Bool := smallN c || restN c
def okV (c : Nat) : Bool := smallN c || bigN c || restN c
/-- is every byte from i on such a one? -/
def allFrom (f : Nat → Bool) (s : ByteArray) (i : Nat) : Prop := ∀ j (h : j < s.size), i ≤ j → f s[j].toNat = true

theorem decode_low (s : ByteArray) (pos : Nat) (h : pos < s.size) (hb : s[pos].toNat < 128) : Utf8.decode s pos = (s[pos].toNat, 1) := by
  have e : s.get! (pos + 0) = s[pos] := by
    rw [Nat.add_zero]
    simp [ByteArray.get!, getElem!_pos, h, ByteArray.getElem_eq_getElem_data]
  unfold Utf8.decode
  simp only [e]
  rw [if_pos hb]
theorem decode_high (s : ByteArray) (pos : Nat) (h : pos < s.size) (hb : ¬ s[pos].toNat < 128) : 128 ≤ (Utf8.decode s pos).1 ∧ 1 ≤ (Utf8.decode s pos).2 := by
  have e : s.get! (pos + 0) = s[pos] := by
    rw [Nat.add_zero]
    simp [ByteArray.get!, getElem!_pos, h, ByteArray.getElem_eq_getElem_data]
  unfold Utf8.decode
  simp only [e]
  rw [if_neg hb]
  unfold Utf8.runeError
  split
  · split
    · exact ⟨by simp only; omega, by simp⟩
    · exact ⟨by simp, by simp⟩
  · split
    · split
      · rename_i h2 h3
        simp only [Bool.and_eq_true, decide_eq_true_eq] at h3
        exact ⟨by simp only; omega, by simp⟩
      · exact ⟨by simp, by simp⟩
    · split
      · split
        · rename_i h2 h3
          simp only [Bool.and_eq_true, decide_eq_true_eq] at h3
          exact ⟨by simp only; omega, by simp⟩
        · exact ⟨by simp, by simp⟩
      · exact ⟨by simp, by simp⟩

theorem idx_all (p ok : Nat → Bool) (hp1 : ∀ r, 128 ≤ r → p r = true) (hp2 : ∀ r, r < 128 → p r = !(ok r)) (hok : ∀ r, 128 ≤ r → ok r = false) (s : ByteArray) :
    ∀ f pos, s.size ≤ pos + f → (Lib.idxFuncFrom p true s f pos < 0 ↔ allFrom ok s pos)
  | 0, pos, h => by
    unfold Lib.idxFuncFrom
    exact ⟨fun _ j hj hp => by omega, fun _ => by decide⟩
  | f + 1, pos, h => by
    unfold Lib.idxFuncFrom
    by_cases hps : pos < s.size
    · rw [if_pos hps]
      by_cases hb : s[pos].toNat < 128
      · rw [decode_low s pos hps hb]
        simp only
        rw [hp2 _ hb]
        by_cases hk : ok s[pos].toNat = true
        · rw [hk, if_neg (by simp), idx_all p ok hp1 hp2 hok s f (pos + 1) (by omega)]
          constructor
          · intro g j hj hp
            by_cases e : j = pos
            · subst e; exact hk
            · exact g j hj (by omega)
          · intro g j hj hp
            exact g j hj (by omega)
        · rw [Bool.not_eq_true] at hk
          rw [hk, if_pos (by simp)]
          constructor
          · intro g; omega
          · intro g
            have := g pos hps (Nat.le_refl _)
            rw [hk] at this; cases this
      · obtain ⟨d1, d2⟩ := decode_high s pos hps hb
        rw [hp1 _ d1, if_pos rfl]
        constructor
        · intro g; omega
        · intro g
          have := g pos hps (Nat.le_refl _)
          rw [hok _ (by omega)] at this; cases this
    · rw [if_neg hps]
      exact ⟨fun _ j hj hp => by omega, fun _ => by decide⟩

theorem okN_high (r : Nat) (h : 128 ≤ r) : okN r = false := by
  unfold okN smallN restN
  have h1 : ¬ r ≤ 122 := by omega
  have h2 : ¬ r ≤ 57 := by omega
  have h3 : ¬ r = 95 := by omega
  simp [h1, h2, h3]
theorem okV_high (r : Nat) (h : 128 ≤ r) : okV r = false := by
  unfold okV smallN bigN restN
  have h1 : ¬ r ≤ 122 := by omega
  have h2 : ¬ r ≤ 57 := by omega
  have h3 : ¬ r = 95 := by omega
  have h4 : ¬ r ≤ 90 := by omega
  simp [h1, h2, h3, h4]
theorem nameP_low (r : Nat) (h : r < 128) : nameP r = !(okN r) := by
  have hm : r % 256 = r := by omega
  unfold nameP okN
  rw [hm]
  by_cases h1 : 122 < r
  · unfold smallN restN
    have h1' : ¬ r ≤ 122 := by omega
    have h2 : ¬ r ≤ 57 := by omega
    have h3 : ¬ r = 95 := by omega
    simp [h1, h1', h2, h3]
  · simp [h1]
theorem varP_low (r : Nat) (h : r < 128) : varP r = !(okV r) := by
  have hm : r % 256 = r := by omega
  unfold varP okV
  rw [hm]
  by_cases h1 : 122 < r
  · unfold smallN bigN restN
    have h1' : ¬ r ≤ 122 := by omega
    have h2 : ¬ r ≤ 57 := by omega
    have h3 : ¬ r = 95 := by omega
    have h4 : ¬ r ≤ 90 := by omega
    simp [h1, h1', h2, h3, h4]
  · simp [h1, Bool.and_assoc]
theorem nameP_high (r : Nat) (h : 128 ≤ r) : nameP r = true := by unfold nameP; simp [show 122 < r by omega]
theorem varP_high (r : Nat) (h : 128 ≤ r) : varP r = true := by unfold varP; simp [show 122 < r by omega]

open Classical in
noncomputable def allB (ok : Nat → Bool) (s : ByteArray) : Bool := decide (allFrom ok s 1)
theorem allB_yes {ok : Nat → Bool} {s : ByteArray} (h : allFrom ok s 1) : allB ok s = true := by unfold allB; simp [h]
theorem allB_no {ok : Nat → Bool} {s : ByteArray} (h : ¬ allFrom ok s 1) : allB ok s = false := by unfold allB; simp [h]
/-- the reference's answer: head, length, and all behind the head -/
noncomputable def refB (hd ok : Nat → Bool) (s : ByteArray) : Bool := headB hd s && decide (s.size ≤ 32) && allB ok s
theorem ref_of (hd ok p : Nat → Bool) (hp1 : ∀ r, 128 ≤ r → p r = true) (hp2 : ∀ r, r < 128 → p r = !(ok r)) (hok : ∀ r, 128 ≤ r → ok r = false) (hhd : ∀ r, hd r = true → ok r = true) (s : ByteArray) :
    (headB hd s && decide (s.size ≤ 32) && decide (Lib.idxFunc p true s < 0)) = refB hd ok s := by
  unfold refB
  cases hh : headB hd s with
  | false => simp
  | true =>
    congr 1
    suffices hh : (Lib.idxFunc p true s < 0 ↔ allFrom ok s 1) by
      by_cases e : allFrom ok s 1
      · rw [allB_yes e]; exact decide_eq_true (hh.2 e)
      · rw [allB_no e]; exact decide_eq_false (fun x => e (hh.1 x))
    unfold Lib.idxFunc
    rw [idx_all p ok hp1 hp2 hok s s.size 0 (by omega)]
    constructor
    · intro g j hj h1; exact g j hj (by omega)
    · intro g j hj h1
      by_cases e : j = 0
      · subst e
        unfold headB at hh
        rw [dif_pos hj] at hh
        exact hhd _ hh
      · exact g j hj (by omega)
theorem nameB_ref (s : ByteArray) : nameB s = refB smallN okN s := ref_of smallN okN nameP nameP_high nameP_low okN_high (fun r h => by simp [okN, h]) s
theorem varB_ref (s : ByteArray) : varB s = refB bigN okV s := ref_of bigN okV varP varP_high varP_low okV_high (fun r h => by simp [okV, h]) s
end Sy
end Go.Proofs.Ytmdfgiiihmameaa
