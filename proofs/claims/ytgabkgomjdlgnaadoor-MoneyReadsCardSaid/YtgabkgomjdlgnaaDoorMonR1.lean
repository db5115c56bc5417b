import Derived.Test.YtgabkgomjdlgnaaDoorMonLc
namespace Go.Proofs.YtgabkgomjdlgnaaDoor
open Go.RowKit Go.Lib
set_option linter.unusedVariables false
set_option linter.unusedSimpArgs false

namespace Mo
def isd (x : UInt8) : Bool := decide (48 ≤ x.toNat) && decide (x.toNat ≤ 57)
theorem isd_iff (x : UInt8) : isd x = true ↔ 48 ≤ x.toNat ∧ x.toNat ≤ 57 := by unfold isd; simp
def bad : List UInt8 → Bool
  | [] => false
  | [a, x, y] => !(a == 46 && isd x && isd y) || (x == 48 && y == 48)
  | _ => true
theorem bad_other (l : List UInt8) (h0 : l ≠ []) (h3 : l.length ≠ 3) : bad l = true := by
  match l with
  | [] => exact absurd rfl h0
  | [_] => rfl
  | [_, _] => rfl
  | [_, _, _] => exact absurd rfl h3
  | _ :: _ :: _ :: _ :: _ => rfl
def cz : List UInt8 → Nat
  | [_, x, y] => dg x * 10 + dg y
  | _ => 0
/-- how the reference answers -/
def rp (neg : Bool) (ds rest : List UInt8) : Int × Int :=
  if c1 ds = true then (0, 21) else if bad rest = true then (0, 21) else if (neg && (ds ++ rest == [48])) = true then (0, 21) else if 15 < ds.length then (0, 22)
  else if val 0 ds * 100 + cz rest > 1000000000000000 then (0, 22) else (if neg = true then -((val 0 ds * 100 + cz rest : Nat) : Int) else ((val 0 ds * 100 + cz rest : Nat) : Int), 0)
theorem split_ds (l : List UInt8) : ∃ ds rest, l = ds ++ rest ∧ (∀ x ∈ ds, isd x = true) ∧ (∀ x, rest[0]? = some x → isd x = false) := by
  induction l with
  | nil => exact ⟨[], [], rfl, by simp, by simp⟩
  | cons a l ih =>
    obtain ⟨ds, rest, h1, h2, h3⟩ := ih
    by_cases h : isd a = true
    · exact ⟨a :: ds, rest, by rw [h1]; rfl, by simp [h]; exact h2, h3⟩
    · exact ⟨[], a :: l, rfl, by simp, by simpa using h⟩
theorem digB_isd (l : List UInt8) : digB l = true ↔ l ≠ [] ∧ ∀ x ∈ l, isd x = true := by
  rw [digB_iff]
  simp only [isd_iff]
theorem ds46 (ds : List UInt8) (h : ∀ x ∈ ds, isd x = true) : ∀ x ∈ ds, x ≠ 46 := fun x hx e => by
  have := (isd_iff x).1 (h x hx)
  rw [e] at this
  exact absurd this.1 (by decide)
theorem split_uniq : ∀ (a b c d : List UInt8), a ++ b = c ++ d → (∀ x ∈ a, isd x = true) → (∀ x ∈ c, isd x = true) → (∀ x, b[0]? = some x → isd x = false) → (∀ x, d[0]? = some x → isd x = false) → b = d := by
  intro a
  induction a with
  | nil =>
    intro b c d e ha hc hb hd
    cases c with
    | nil => simpa using e
    | cons x c =>
      have e' : b = x :: (c ++ d) := by simpa using e
      have := hb x (by rw [e']; rfl)
      rw [hc x (by simp)] at this
      cases this
  | cons y a ih =>
    intro b c d e ha hc hb hd
    cases c with
    | nil =>
      have e' : d = y :: (a ++ b) := by simpa using e.symm
      have := hd y (by rw [e']; rfl)
      rw [ha y (by simp)] at this
      cases this
    | cons x c =>
      have e' : y = x ∧ a ++ b = c ++ d := by simpa using e
      exact ih b c d e'.2 (fun z hz => ha z (by simp [hz])) (fun z hz => hc z (by simp [hz])) hb hd
theorem big15 (ds : List UInt8) (h : Canon ds) (hl : 14 < ds.length) : 100000000000000 ≤ val 0 ds := by
  rcases Nat.lt_or_ge (val 0 ds) 100000000000000 with h2 | h2
  · have h3 := dd_len 13 (val 0 ds) (by have : (10 : Nat) ^ (13 + 1) = 100000000000000 := by decide
                                        omega)
    rw [dd_val _ ds rfl h] at h3
    omega
  · exact h2
theorem chk_iff (n : Nat) (neg : Bool) : chk (if neg = true then -(n : Int) else (n : Int)) = 0 ↔ n ≤ 1000000000000000 := by
  unfold chk
  cases neg with
  | true => simp; omega
  | false => simp; omega
theorem rp_end (neg : Bool) (ds rest ce : List UInt8) (ha : Bool) (h1 : c1 ds = false) (h2 : c2 ha ce = bad rest) (h3 : bad rest = false → c3 neg ds ha = (neg && (ds ++ rest == [48]))) (h4 : bad rest = false → cents ds ha ce = ((val 0 ds * 100 + cz rest : Nat) : Int)) : parse3 neg ds ce ha = rp neg ds rest := by
  unfold parse3 rp
  have hc1 : ¬ c1 ds = true := by rw [h1]; decide
  rw [if_neg hc1, if_neg hc1, h2]
  cases hb : bad rest with
  | true => rfl
  | false =>
    have hf : ¬ (false = true) := by decide
    rw [if_neg hf, if_neg hf, h3 hb]
    by_cases h5 : (neg && (ds ++ rest == [48])) = true
    · rw [if_pos h5, if_pos h5]
    · rw [if_neg h5, if_neg h5, h4 hb]
      have cn := (c1_canon ds).1 h1
      by_cases h6 : 14 < ds.length
      · have := big15 ds cn h6
        rw [if_pos h6]
        by_cases h7 : 15 < ds.length
        · rw [if_pos h7]
        · rw [if_neg h7, if_pos (by omega)]
      · have h8 : ¬ 15 < ds.length := by omega
        rw [if_neg h6, if_neg h8]
        by_cases h7 : val 0 ds * 100 + cz rest > 1000000000000000
        · rw [if_pos h7]; have h9 := chk_iff (val 0 ds * 100 + cz rest) neg; rw [if_neg (fun e => by have := h9.1 e; omega)]
        · rw [if_neg h7, if_pos ((chk_iff (val 0 ds * 100 + cz rest) neg).2 (by omega))]
theorem c1_not (wh : List UInt8) (h : digB wh = false) : c1 wh = true := by unfold c1; rw [h]; rfl
theorem parse_rp (neg : Bool) (ds rest : List UInt8) (hd : ∀ x ∈ ds, isd x = true) (hr : ∀ x, rest[0]? = some x → isd x = false) :
    parse3 neg (cutDot (ds ++ rest)).1 (cutDot (ds ++ rest)).2.1 (cutDot (ds ++ rest)).2.2 = rp neg ds rest := by
  by_cases h0 : rest = []
  · subst h0
    rw [List.append_nil, cutDot_none ds (ds46 ds hd)]
    by_cases h1 : c1 ds = true
    · unfold parse3 rp; rw [if_pos h1, if_pos h1]
    · refine rp_end _ _ _ _ _ (by simpa using h1) rfl (fun _ => ?_) (fun _ => ?_)
      · unfold c3; simp
      · unfold cents cz; simp
  · by_cases h46 : ∃ ce, rest = 46 :: ce
    · obtain ⟨ce, rfl⟩ := h46
      rw [cutDot_at ds ce (ds46 ds hd)]
      by_cases h1 : c1 ds = true
      · unfold parse3 rp; rw [if_pos h1, if_pos h1]
      · refine rp_end _ _ _ _ _ (by simpa using h1) ?_ (fun hb => ?_) (fun hb => ?_)
        · unfold c2
          by_cases hl : ce.length = 2
          · match ce, hl with
            | [x, y], _ =>
              show (true && ((2 : Nat) != 2 || !digB [x, y] || [x, y] == [48, 48])) = (!((46 : UInt8) == 46 && isd x && isd y) || (x == 48 && y == 48))
              have : digB [x, y] = (isd x && isd y) := by
                rw [Bool.eq_iff_iff, digB_isd]
                simp
              rw [this]
              simp [Bool.and_assoc]
          · rw [bad_other (46 :: ce) (by simp) (by simp; omega)]
            simp [hl]
        · unfold c3
          have : (ds ++ 46 :: ce == [48]) = false := by
            rw [beq_eq_false_iff_ne]
            intro e
            have : (46 : UInt8) ∈ ([48] : List UInt8) := by rw [← e]; simp
            simp at this
          rw [this]
          simp
        · match ce, hb with
          | [x, y], _ => unfold cents cz; simp
          | [], hb => cases hb
          | [_], hb => cases hb
          | _ :: _ :: _ :: _, hb => cases hb
    · obtain ⟨cb1, cb2, cb3⟩ := cutDot_back (ds ++ rest)
      have hbad : bad rest = true := by
        by_cases h3 : rest.length = 3
        · match rest, h3 with
          | [a, x, y], _ =>
            have : (a == 46) = false := by
              rw [beq_eq_false_iff_ne]
              intro e
              exact h46 ⟨[x, y], by rw [e]⟩
            show (!(a == 46 && isd x && isd y) || (x == 48 && y == 48)) = true
            rw [this]
            rfl
        · exact bad_other rest h0 h3
      have hw : c1 (cutDot (ds ++ rest)).1 = true := by
        apply c1_not
        rcases Bool.eq_false_or_eq_true (digB (cutDot (ds ++ rest)).1) with hw | hw
        · exfalso
          have hw2 := ((digB_isd _).1 hw).2
          have := split_uniq ds rest _ _ cb1 hd hw2 hr (by
            intro x hx
            split at hx
            · have : x = 46 := by simpa using hx.symm
              rw [this]; rfl
            · simp at hx)
          split at this
          · exact h46 ⟨_, this⟩
          · exact h0 this
        · exact hw
      unfold parse3 rp
      rw [if_pos hw, if_pos hbad]
      split <;> rfl
end Mo
end Go.Proofs.YtgabkgomjdlgnaaDoor
