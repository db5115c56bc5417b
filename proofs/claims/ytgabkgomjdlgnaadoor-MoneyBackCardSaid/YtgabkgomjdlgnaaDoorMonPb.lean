/- the plain law of an amount's one form: there and back -/
import Derived.Test.YtgabkgomjdlgnaaDoorMonE
namespace Go.Proofs.YtgabkgomjdlgnaaDoor
open Go.Lib
namespace Mo
theorem val_snoc (l : List UInt8) (c : UInt8) : ∀ acc, val acc (l ++ [c]) = val acc l * 10 + dg c := by
  induction l with
  | nil => intro acc; rw [List.nil_append, val_cons, val_nil, val_nil]
  | cons a r ih => intro acc; rw [List.cons_append, val_cons, val_cons, ih]
/-- digits, without a 0 ahead -/
def Canon (l : List UInt8) : Prop := digB l = true ∧ (1 < l.length → l[0]? ≠ some 48)
theorem dc_dg (c : UInt8) (h : 48 ≤ c.toNat ∧ c.toNat ≤ 57) : UInt8.ofNat (48 + dg c) = c := by
  apply UInt8.toNat_inj.1
  rw [UInt8.toNat_ofNat', dg_eq]
  have e : 48 + (c.toNat - 48) = c.toNat := by omega
  rw [e]
  exact Nat.mod_eq_of_lt (Nat.lt_of_le_of_lt h.2 (by decide))
theorem dg_lt (c : UInt8) (h : 48 ≤ c.toNat ∧ c.toNat ≤ 57) : dg c < 10 := by rw [dg_eq]; omega
theorem digB_iff (l : List UInt8) : digB l = true ↔ l ≠ [] ∧ ∀ x ∈ l, 48 ≤ x.toNat ∧ x.toNat ≤ 57 := by
  unfold digB
  rw [Bool.and_eq_true, List.all_eq_true]
  constructor
  · rintro ⟨h1, h2⟩
    exact ⟨by rintro rfl; simp at h1, fun x hx => (tens_iff x).1 (h2 x hx)⟩
  · rintro ⟨h1, h2⟩
    exact ⟨by cases l with
      | nil => exact absurd rfl h1
      | cons a r => simp, fun x hx => (tens_iff x).2 (h2 x hx)⟩
theorem canon_pos (l : List UInt8) (h : digB l = true) (h0 : l[0]? ≠ some 48) : 1 ≤ val 0 l := by
  obtain ⟨h1, h2⟩ := (digB_iff l).1 h
  match l, h1, h2, h0 with
  | c :: r, _, h2, h0 =>
    have hc := h2 c (by simp)
    have hne : ¬ c.toNat = 48 := fun e => h0 (by
      have : c = 48 := UInt8.toNat_inj.1 e
      rw [this]; rfl)
    have hd := dg_eq c
    have hg := val_ge r (0 * 10 + dg c)
    rw [val_cons]
    omega
theorem dd_val : ∀ (n : Nat) (l : List UInt8), l.length = n → Canon l → decDigits (val 0 l) = l := by
  intro n
  induction n with
  | zero =>
    intro l hl hc
    have := (digB_iff l).1 hc.1
    exact absurd (List.eq_nil_of_length_eq_zero hl) this.1
  | succ n ih =>
    intro l hl hc
    obtain ⟨h1, h2⟩ := (digB_iff l).1 hc.1
    rcases List.eq_nil_or_concat l with rfl | ⟨a, c, rfl⟩
    · exact absurd rfl h1
    · rw [List.concat_eq_append] at *
      have hcd := h2 c (by simp)
      rw [val_snoc]
      have hlt := dg_lt c hcd
      by_cases ha : a = []
      · subst ha
        rw [val_nil]
        rw [decDigits_one (by omega), show 48 + (0 * 10 + dg c) = 48 + dg c by omega, dc_dg c hcd]
        rfl
      · have hal : 0 < a.length := List.length_pos_iff.2 ha
        have hda : digB a = true := (digB_iff a).2 ⟨ha, fun x hx => h2 x (by simp [hx])⟩
        have hh : a[0]? ≠ some 48 := by
          have := hc.2 (by simp; omega)
          rwa [List.getElem?_append_left hal] at this
        have hp := canon_pos a hda hh
        have ih2 := ih a (by simp at hl; omega) ⟨hda, fun _ => hh⟩
        generalize val 0 a = v at *
        rw [decDigits, dif_neg (by omega), show (v * 10 + dg c) / 10 = v by omega, show (v * 10 + dg c) % 10 = dg c by omega, ih2, dc_dg c hcd]
theorem dg_of (n : Nat) (h : n < 10) : dg (UInt8.ofNat (48 + n)) = n ∧ (48 ≤ (UInt8.ofNat (48 + n)).toNat ∧ (UInt8.ofNat (48 + n)).toNat ≤ 57) := by
  have e : (UInt8.ofNat (48 + n)).toNat = 48 + n := by
    rw [UInt8.toNat_ofNat']
    exact Nat.mod_eq_of_lt (Nat.lt_of_lt_of_le (Nat.add_lt_add_left h 48) (by decide))
  rw [dg_eq, e]
  omega
theorem dd_canon : ∀ (n u : Nat), u ≤ n → val 0 (decDigits u) = u ∧ Canon (decDigits u) ∧ (1 ≤ u → (decDigits u)[0]? ≠ some 48) := by
  intro n
  induction n with
  | zero =>
    intro u hu
    obtain rfl : u = 0 := by omega
    rw [decDigits_one (by omega)]
    have h := dg_of 0 (by omega)
    refine ⟨?_, ⟨(digB_iff _).2 ⟨by simp, fun x hx => ?_⟩, fun h => by simp at h⟩, fun h => by omega⟩
    · rw [val_cons, val_nil, h.1]
    · simp only [List.mem_singleton] at hx; rw [hx]; exact h.2
  | succ n ih =>
    intro u hu
    by_cases h10 : u < 10
    · rw [decDigits_one h10]
      have h := dg_of u h10
      refine ⟨?_, ⟨(digB_iff _).2 ⟨by simp, fun x hx => ?_⟩, fun h => by simp at h⟩, fun h1 e => ?_⟩
      · rw [val_cons, val_nil, h.1]; omega
      · simp only [List.mem_singleton] at hx; rw [hx]; exact h.2
      · have e2 := Option.some.inj e
        have e3 := h.1
        rw [e2] at e3
        rw [dg_eq] at e3
        have : (48 : UInt8).toNat = 48 := rfl
        omega
    · have hd : decDigits u = decDigits (u / 10) ++ [UInt8.ofNat (48 + u % 10)] := by rw [decDigits, dif_neg h10]
      obtain ⟨i1, i2, i3⟩ := ih (u / 10) (by omega)
      have h := dg_of (u % 10) (by omega)
      have i4 := i3 (by omega)
      obtain ⟨j1, j2⟩ := (digB_iff _).1 i2.1
      rw [hd]
      have hl : 0 < (decDigits (u / 10)).length := List.length_pos_iff.2 j1
      have h0 : (decDigits (u / 10) ++ [UInt8.ofNat (48 + u % 10)])[0]? ≠ some 48 := by rw [List.getElem?_append_left hl]; exact i4
      refine ⟨?_, ⟨(digB_iff _).2 ⟨by simp, fun x hx => ?_⟩, fun _ => h0⟩, fun _ => h0⟩
      · rw [val_snoc, i1, h.1]; omega
      · rcases List.mem_append.1 hx with hx | hx
        · exact j2 x hx
        · simp only [List.mem_singleton] at hx; rw [hx]; exact h.2
theorem dd_len : ∀ (k u : Nat), u < 10 ^ (k + 1) → (decDigits u).length ≤ k + 1 := by
  intro k
  induction k with
  | zero => intro u hu; rw [decDigits_one (by simpa using hu)]; simp
  | succ k ih =>
    intro u hu
    by_cases h10 : u < 10
    · rw [decDigits_one h10]; simp
    · rw [decDigits, dif_neg h10, List.length_append]
      have := ih (u / 10) (by rw [Nat.div_lt_iff_lt_mul (by omega), ← Nat.pow_succ]; exact hu)
      simp; omega
/-! ### the first point -/
theorem index_none (l : List UInt8) (h : ∀ x ∈ l, x ≠ 46) : indexByte l 46 = -1 := by
  induction l with
  | nil => rfl
  | cons b l ih =>
    have h1 := h b (by simp)
    have h2 := ih (fun x hx => h x (by simp [hx]))
    unfold indexByte
    rw [if_neg (by simpa using h1), h2, if_pos (by decide)]
theorem index_at (l r : List UInt8) (h : ∀ x ∈ l, x ≠ 46) : indexByte (l ++ 46 :: r) 46 = l.length := by
  induction l with
  | nil => rfl
  | cons b l ih =>
    have h1 := h b (by simp)
    have h2 := ih (fun x hx => h x (by simp [hx]))
    rw [List.cons_append]
    unfold indexByte
    rw [if_neg (by simpa using h1), h2, if_neg (by simp), List.length_cons]
    omega
theorem cutDot_none (l : List UInt8) (h : ∀ x ∈ l, x ≠ 46) : cutDot l = (l, [], false) := by
  unfold cutDot
  rw [index_none l h, if_pos (by omega)]
theorem cutDot_at (l r : List UInt8) (h : ∀ x ∈ l, x ≠ 46) : cutDot (l ++ 46 :: r) = (l, r, true) := by
  unfold cutDot
  rw [index_at l r h, if_neg (by omega), Int.toNat_natCast]
  simp
theorem index_cases (l : List UInt8) : (indexByte l 46 = -1 ∧ ∀ x ∈ l, x ≠ 46) ∨ ∃ a r, l = a ++ 46 :: r ∧ (∀ x ∈ a, x ≠ 46) := by
  induction l with
  | nil => exact .inl ⟨rfl, fun x hx => by simp at hx⟩
  | cons b l ih =>
    by_cases hb : b = 46
    · exact .inr ⟨[], l, by rw [hb]; rfl, fun x hx => by simp at hx⟩
    · rcases ih with ⟨_, h2⟩ | ⟨a, r, h1, h2⟩
      · have h3 : ∀ x ∈ b :: l, x ≠ 46 := fun x hx => by
          rcases List.mem_cons.1 hx with rfl | hx
          · exact hb
          · exact h2 x hx
        exact .inl ⟨index_none _ h3, h3⟩
      · exact .inr ⟨b :: a, r, by rw [h1]; rfl, fun x hx => by
          rcases List.mem_cons.1 hx with rfl | hx
          · exact hb
          · exact h2 x hx⟩
/-- the text out of its cut -/
theorem cutDot_back (l : List UInt8) : l = (cutDot l).1 ++ (if (cutDot l).2.2 = true then 46 :: (cutDot l).2.1 else []) ∧ (∀ x ∈ (cutDot l).1, x ≠ 46) ∧ ((cutDot l).2.2 = false → (cutDot l).2.1 = []) := by
  rcases index_cases l with ⟨_, h2⟩ | ⟨a, r, rfl, h2⟩
  · rw [cutDot_none l h2]; exact ⟨by simp, h2, fun _ => rfl⟩
  · rw [cutDot_at a r h2]; exact ⟨by simp, h2, fun h => by cases h⟩
theorem prefix_back (l : List UInt8) : l = (if hasPrefix l [45] = true then [45] else []) ++ trimPrefix l [45] := by
  unfold trimPrefix hasPrefix
  by_cases h : [45].isPrefixOf l = true
  · rw [if_pos h, if_pos h]
    obtain ⟨t, rfl⟩ := List.isPrefixOf_iff_prefix.1 h
    simp
  · rw [if_neg h, if_neg h]; rfl
theorem prefix_yes (l : List UInt8) : hasPrefix (45 :: l) [45] = true ∧ trimPrefix (45 :: l) [45] = l := by
  have h : hasPrefix (45 :: l) [45] = true := by unfold hasPrefix; simp
  exact ⟨h, by unfold trimPrefix; rw [if_pos h]; rfl⟩
theorem prefix_no (l : List UInt8) (h : l[0]? ≠ some 45) : hasPrefix l [45] = false ∧ trimPrefix l [45] = l := by
  have h2 : hasPrefix l [45] = false := by
    unfold hasPrefix
    cases l with
    | nil => rfl
    | cons a r =>
      have : a ≠ 45 := fun e => h (by rw [e]; rfl)
      simp only [List.isPrefixOf, Bool.and_true, beq_eq_false_iff_ne]
      exact fun e => this e.symm
  exact ⟨h2, by unfold trimPrefix; rw [h2]; rfl⟩
end Mo
end Go.Proofs.YtgabkgomjdlgnaaDoor
