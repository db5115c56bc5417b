import Derived.Test.YtgabkgomjdlgnaaDoorMonR1
import Derived.Test.YtgabkgomjdlgnaaDoorMonPr
namespace Go.Proofs.YtgabkgomjdlgnaaDoor
open Go.RowKit Go.Lib
open Go.Proofs.YtgabkgomjdlgnaaDoorW.PrintWords (bt)
open Go.Proofs.YtgabkgomjdlgnaaDoor.PMoneyReads
set_option linter.unusedVariables false
set_option linter.unusedSimpArgs false

namespace Mo
theorem hff : ¬ (false = true) := by decide
theorem rdigit (x : UInt8) : lexpriorref02_digit.f (x.toNat : Int) = some (isd x) := by
  unfold lexpriorref02_digit.f isd
  by_cases h1 : 48 ≤ x.toNat
  · rw [if_pos (by omega), decide_eq_true h1, Bool.true_and]
    congr 1
    exact decide_eq_decide.2 (by omega)
  · rw [if_neg (by omega), decide_eq_false h1, Bool.false_and]
theorem bt_S (l : List UInt8) (i : Nat) (x : UInt8) (h : l[i]? = some x) : bt (S l) (i : Int) = (x.toNat : Int) := by
  have hi : i < l.length := by
    rcases Nat.lt_or_ge i l.length with h2 | h2
    · exact h2
    · rw [List.getElem?_eq_none h2] at h; cases h
  have h2 : ((i : Int)).toNat < (S l).size := by rw [S_size]; simpa using hi
  rw [← Go.Proofs.YtgabkgomjdlgnaaDoorW.PrintWords.bt_at (S l) (i : Int) h2]
  have := S_get l i x h (by simpa using h2)
  simpa using congrArg (fun y : UInt8 => (y.toNat : Int)) this
theorem wrap_in (n : Int) (h : -9223372036854775808 ≤ n ∧ n ≤ 9223372036854775807) : wrap64 n = n := by unfold wrap64; omega
theorem l0_law (at_ : Int) : ∀ (ds pre rest l : List UInt8) (k : Nat) (r : Int × Int), l = pre ++ (ds ++ rest) → l.length ≤ 9223372036854770000 → (∀ x ∈ ds, isd x = true) → (∀ x, rest[0]? = some x → isd x = false) →
    lexpriorref02_Parse.j3 k (S l) at_ ((pre.length + ds.length : Nat) : Int) = some r → lexpriorref02_Parse.l0 (k + ds.length + 1) (S l) at_ (pre.length : Int) = some r := by
  intro ds
  induction ds with
  | nil =>
    intro pre rest l k r e hl hd hr H
    show lexpriorref02_Parse.l0 (k + 1) _ _ _ = _
    rw [lexpriorref02_Parse.l0]
    rw [S_size]
    have H' : lexpriorref02_Parse.j3 k (S l) at_ (pre.length : Int) = some r := H
    cases rest with
    | nil => rw [if_neg (by rw [e]; simp)]; exact H'
    | cons x rest =>
      have hx : l[pre.length]? = some x := by rw [e]; simp
      rw [if_pos (by rw [e]; simp; omega), if_pos (by omega), bt_S l _ x hx, rdigit, hr x rfl, Option.bind_some, if_neg hff]
      exact H'
  | cons x ds ih =>
    intro pre rest l k r e hl hd hr H
    show lexpriorref02_Parse.l0 (k + ds.length + 1 + 1) _ _ _ = _
    rw [lexpriorref02_Parse.l0]
    rw [S_size]
    have hx : l[pre.length]? = some x := by rw [e]; simp
    have hlen : l.length = pre.length + (ds.length + 1 + rest.length) := by rw [e]; simp; omega
    rw [if_pos (by omega), if_pos (by omega), bt_S l _ x hx, rdigit, hd x (by simp), Option.bind_some, if_pos rfl]
    have := ih (pre ++ [x]) rest l k r (by rw [e]; simp) hl (fun y hy => hd y (by simp [hy])) hr (by
      rw [← H]; congr 1; simp; omega)
    rw [wrap_in _ (by omega), ← this]
    congr 1
    simp
theorem dgw (x : UInt8) (h : isd x = true) : (((x.toNat : Int) - 48) % 256) = (dg x : Int) := by
  have := (isd_iff x).1 h
  rw [dg_eq]
  omega
theorem l1_law (at_ : Int) (x6 : ByteArray) (en : Int) : ∀ (ds pre rest l : List UInt8) (k acc : Nat) (r : Int × Int), l = pre ++ (ds ++ rest) → l.length ≤ 9223372036854770000 → (∀ x ∈ ds, isd x = true) → en = ((pre.length + ds.length : Nat) : Int) → (acc + 1) * 10 ^ ds.length ≤ 10000000000000000 →
    lexpriorref02_Parse.l1 (k + 1) (S l) at_ en x6 ((val acc ds : Nat) : Int) en = some r → lexpriorref02_Parse.l1 (k + ds.length + 1) (S l) at_ en x6 (acc : Int) (pre.length : Int) = some r := by
  intro ds
  induction ds with
  | nil =>
    intro pre rest l k acc r e hl hd he hb H
    rw [val_nil] at H
    have : en = (pre.length : Int) := by rw [he]; simp
    rw [← this]
    exact H
  | cons x ds ih =>
    intro pre rest l k acc r e hl hd he hb H
    show lexpriorref02_Parse.l1 (k + ds.length + 1 + 1) _ _ _ _ _ _ = _
    rw [lexpriorref02_Parse.l1]
    rw [S_size]
    have hx : l[pre.length]? = some x := by rw [e]; simp
    have hlen : l.length = pre.length + (ds.length + 1 + rest.length) := by rw [e]; simp; omega
    have hdx := dg_lt x ((isd_iff x).1 (hd x (by simp)))
    have hpos : 0 < 10 ^ ds.length := Nat.pow_pos (by decide)
    have hb' : (acc * 10 + dg x + 1) * 10 ^ ds.length ≤ 10000000000000000 := by
      refine Nat.le_trans (Nat.mul_le_mul_right _ (?_ : acc * 10 + dg x + 1 ≤ (acc + 1) * 10)) ?_
      · omega
      · rw [Nat.mul_assoc, ← Nat.pow_succ']; exact hb
    have hacc : acc * 10 + dg x + 1 ≤ 10000000000000000 := Nat.le_trans (Nat.le_mul_of_pos_right _ hpos) hb'
    rw [if_pos (by rw [he]; simp; omega), if_pos (by omega), if_pos (by omega), bt_S l _ x hx, dgw x (hd x (by simp))]
    have := ih (pre ++ [x]) rest l k (acc * 10 + dg x) r (by rw [e]; simp) hl (fun y hy => hd y (by simp [hy])) (by rw [he]; simp; omega) hb' (by rw [val_cons] at H; exact H)
    rw [wrap_in ((acc : Int) * 10) (by omega), wrap_in ((acc : Int) * 10 + (dg x : Int)) (by omega), wrap_in ((pre.length : Int) + 1) (by omega), ← this]
    congr 1
    simp
theorem j8_law (k : Nat) (neg : Bool) (n : Nat) (hn : n ≤ 9000000000000000000) : lexpriorref02_Parse.j8 (k + 1) (if neg = true then 1 else 0) (n : Int) = some (if n > 1000000000000000 then (0, 22) else (if neg = true then -(n : Int) else (n : Int), 0)) := by
  rw [lexpriorref02_Parse.j8]
  by_cases h : n > 1000000000000000
  · rw [if_pos (by omega), if_pos h]
  · rw [if_neg (by omega), if_neg h]
    cases neg with
    | true => rw [if_pos rfl, if_pos rfl, if_pos rfl, wrap_in _ (by omega)]
    | false => rw [if_neg hff, if_neg hff, if_neg (by decide)]
theorem val_b (ds : List UInt8) (hd : ∀ x ∈ ds, isd x = true) (hl : ds.length ≤ 15) : val 0 ds < 1000000000000000 := by
  have hv := val_le ds 0 (by rw [List.all_eq_true]; intro x hx; exact (tens_iff x).2 ((isd_iff x).1 (hd x hx)))
  have hp : 10 ^ ds.length ≤ 10 ^ 15 := Nat.pow_le_pow_right (by omega) hl
  have : (10 : Nat) ^ 15 = 1000000000000000 := by decide
  omega
theorem cz_b (rest : List UInt8) (h : bad rest = false) : cz rest < 100 := by
  match rest, h with
  | [], _ => decide
  | [a, x, y], h =>
    have : (!(a == 46 && isd x && isd y) || (x == 48 && y == 48)) = false := h
    simp only [Bool.or_eq_false_iff, Bool.not_eq_false', Bool.and_eq_true] at this
    have hx := dg_lt x ((isd_iff x).1 this.1.1.2)
    have hy := dg_lt y ((isd_iff y).1 this.1.2)
    show dg x * 10 + dg y < 100
    omega
  | [_], h => cases h
  | [_, _], h => cases h
  | _ :: _ :: _ :: _ :: _, h => cases h
theorem l1_end (k : Nat) (neg : Bool) (l ds rest : List UInt8) (en : Int) (hb : bad rest = false) (hv : val 0 ds < 1000000000000000) :
    lexpriorref02_Parse.l1 (k + 1 + 1) (S l) (if neg = true then 1 else 0) en (S rest) ((val 0 ds : Nat) : Int) en = some (if val 0 ds * 100 + cz rest > 1000000000000000 then (0, 22) else (if neg = true then -((val 0 ds * 100 + cz rest : Nat) : Int) else ((val 0 ds * 100 + cz rest : Nat) : Int), 0)) := by
  have hcz := cz_b rest hb
  rw [← j8_law k neg (val 0 ds * 100 + cz rest) (by omega)]
  conv => lhs; rw [lexpriorref02_Parse.l1]
  rw [if_neg (by omega), S_toList, wrap_in ((val 0 ds : Nat) * 100 : Int) (by omega)]
  match rest, hb with
  | [], _ => rw [if_pos rfl]; congr 1
  | [a, x, y], h =>
    have h' : (!(a == 46 && isd x && isd y) || (x == 48 && y == 48)) = false := h
    simp only [Bool.or_eq_false_iff, Bool.not_eq_false', Bool.and_eq_true] at h'
    have hx := dg_lt x ((isd_iff x).1 h'.1.1.2)
    have hy := dg_lt y ((isd_iff y).1 h'.1.2)
    rw [if_neg (by simp), if_pos (by rw [S_size]; simp), if_pos (by rw [S_size]; simp)]
    have e1 : bt (S [a, x, y]) 1 = (x.toNat : Int) := bt_S [a, x, y] 1 x rfl
    have e2 : bt (S [a, x, y]) 2 = (y.toNat : Int) := bt_S [a, x, y] 2 y rfl
    rw [e1, e2, dgw x h'.1.1.2, dgw y h'.1.2]
    rw [wrap_in ((val 0 ds : Nat) * 100 + (dg x : Int) * 10) (by omega), wrap_in ((val 0 ds : Nat) * 100 + (dg x : Int) * 10 + (dg y : Int)) (by omega)]
    congr 1
    show _ = ((val 0 ds * 100 + (dg x * 10 + dg y) : Nat) : Int)
    omega
  | [_], h => cases h
  | [_, _], h => cases h
  | _ :: _ :: _ :: _ :: _, h => cases h
/-- what stands behind the third refusal -/
def r6 (neg : Bool) (ds rest : List UInt8) : Int × Int := if 15 < ds.length then (0, 22)
  else if val 0 ds * 100 + cz rest > 1000000000000000 then (0, 22) else (if neg = true then -((val 0 ds * 100 + cz rest : Nat) : Int) else ((val 0 ds * 100 + cz rest : Nat) : Int), 0)
def pre (neg : Bool) : List UInt8 := if neg = true then [45] else []
theorem pre_len (neg : Bool) : ((pre neg).length : Int) = if neg = true then 1 else 0 := by cases neg <;> rfl
theorem j6_law (neg : Bool) (ds rest l : List UInt8) (hl : l = pre neg ++ (ds ++ rest)) (hL : l.length ≤ 9223372036854770000) (hd : ∀ x ∈ ds, isd x = true) (hb : bad rest = false) (b : Bool) :
    lexpriorref02_Parse.j6 (1 + ds.length + 1 + 1) (S l) (if neg = true then 1 else 0) (((pre neg).length + ds.length : Nat) : Int) (S rest) b = some (if b = true then (0, 21) else r6 neg ds rest) := by
  have hpl : (pre neg).length ≤ 1 := by cases neg <;> decide
  have hlen : l.length = (pre neg).length + (ds.length + rest.length) := by rw [hl]; simp
  rw [lexpriorref02_Parse.j6]
  unfold r6
  cases b with
  | true => rfl
  | false =>
    rw [if_neg hff, if_neg hff]
    have e : wrap64 ((((pre neg).length + ds.length : Nat) : Int) - (if neg = true then 1 else 0)) = (ds.length : Int) := by
      rw [← pre_len, wrap_in _ (by omega)]; omega
    rw [e]
    by_cases h15 : 15 < ds.length
    · rw [if_pos (by omega), if_pos h15]
    · rw [if_neg (by omega), if_neg h15]
      have hv := val_b ds hd (by omega)
      have h1 := l1_end 0 neg l ds rest (((pre neg).length + ds.length : Nat) : Int) hb hv
      have h2 := l1_law (if neg = true then 1 else 0) (S rest) _ ds (pre neg) rest l 1 0 _ hl hL hd rfl (by
        have hp : 10 ^ ds.length ≤ 10 ^ 15 := Nat.pow_le_pow_right (by omega) (by omega)
        have : (10 : Nat) ^ 15 = 1000000000000000 := by decide
        omega) h1
      rw [pre_len] at h2
      exact h2
theorem j5_law (neg : Bool) (ds rest l : List UInt8) (hl : l = pre neg ++ (ds ++ rest)) (hL : l.length ≤ 9223372036854770000) (hd : ∀ x ∈ ds, isd x = true) (b : Bool) (hb : b = bad rest) :
    lexpriorref02_Parse.j5 (1 + ds.length + 1 + 1 + 1) (S l) (if neg = true then 1 else 0) (((pre neg).length + ds.length : Nat) : Int) (S rest) b = some (if bad rest = true then (0, 21) else if (neg && (ds ++ rest == [48])) = true then (0, 21) else r6 neg ds rest) := by
  subst hb
  rw [lexpriorref02_Parse.j5]
  cases hb : bad rest with
  | true => rfl
  | false =>
    rw [if_neg hff, if_neg hff]
    cases neg with
    | true =>
      have J6 : ∀ b, lexpriorref02_Parse.j6 (1 + ds.length + 1 + 1) (S l) 1 (((pre true).length + ds.length : Nat) : Int) (S rest) b = some (if b = true then (0, 21) else r6 true ds rest) := fun b => j6_law true ds rest l hl hL hd hb b
      have hsz : (1 : Int) ≤ ((S l).size : Int) := by rw [S_size, hl]; simp [pre]; omega
      rw [if_pos rfl, if_pos rfl, if_pos hsz, J6]
      have : ((S l).extract 1 (S l).size).toList = ds ++ rest := by
        rw [S_extract, S_toList, S_size, hl]
        simp [pre]
        exact List.take_of_length_le (by simp)
      rw [this]
      rfl
    | false =>
      have J6 : ∀ b, lexpriorref02_Parse.j6 (1 + ds.length + 1 + 1) (S l) 0 (((pre false).length + ds.length : Nat) : Int) (S rest) b = some (if b = true then (0, 21) else r6 false ds rest) := fun b => j6_law false ds rest l hl hL hd hb b
      rw [if_neg hff, if_neg (by decide), J6]
      rfl
theorem j4_law (neg : Bool) (ds rest l : List UInt8) (hl : l = pre neg ++ (ds ++ rest)) (hL : l.length ≤ 9223372036854770000) (hd : ∀ x ∈ ds, isd x = true) (b : Bool) (hb : b = c1 ds) :
    lexpriorref02_Parse.j4 (1 + ds.length + 1 + 1 + 1 + 1) (S l) (if neg = true then 1 else 0) (((pre neg).length + ds.length : Nat) : Int) (S rest) b = some (rp neg ds rest) := by
  subst hb
  have J := fun b hb => j5_law neg ds rest l hl hL hd b hb
  have e : rp neg ds rest = if c1 ds = true then (0, 21) else (if bad rest = true then (0, 21) else if (neg && (ds ++ rest == [48])) = true then (0, 21) else r6 neg ds rest) := rfl
  rw [e]
  generalize (if bad rest = true then ((0 : Int), (21 : Int)) else if (neg && (ds ++ rest == [48])) = true then (0, 21) else r6 neg ds rest) = R at J ⊢
  clear e
  rw [lexpriorref02_Parse.j4]
  cases hc : c1 ds with
  | true => rfl
  | false =>
    rw [if_neg hff, if_neg hff, S_toList]
    by_cases h0 : rest = []
    · rw [if_pos h0]; exact J _ (by rw [h0]; rfl)
    · rw [if_neg h0, S_size]
      by_cases h3 : rest.length = 3
      · match rest, h3 with
        | [a, x, y], _ =>
          have e0 : bt (S [a, x, y]) 0 = (a.toNat : Int) := bt_S [a, x, y] 0 a rfl
          have e1 : bt (S [a, x, y]) 1 = (x.toNat : Int) := bt_S [a, x, y] 1 x rfl
          have e2 : bt (S [a, x, y]) 2 = (y.toNat : Int) := bt_S [a, x, y] 2 y rfl
          have hB : bad [a, x, y] = (!(a == 46 && isd x && isd y) || (x == 48 && y == 48)) := rfl
          rw [hB] at J
          rw [if_pos (by simp), if_pos (by simp), e0, e1, e2, rdigit, rdigit, Option.bind_some, Option.bind_some]
          by_cases ha : a = 46
          · subst ha
            rw [if_pos (by decide), if_pos (by simp)]
            cases hx : isd x with
            | false => rw [if_neg (by decide)]; exact J _ (by rw [hx]; rfl)
            | true =>
              rw [if_pos rfl, if_pos (by simp)]
              cases hy : isd y with
              | false => rw [if_neg (by decide)]; exact J _ (by rw [hx, hy]; rfl)
              | true =>
                rw [if_pos rfl]
                exact J _ (by rw [hx, hy]; simp)
          · have ha' : (a == 46) = false := by simpa using ha
            rw [if_neg (by
              intro e
              apply ha
              apply UInt8.toNat_inj.1
              have : a.toNat = 46 := by omega
              rw [this]; rfl)]
            exact J _ (by rw [ha']; rfl)
      · rw [if_neg (by omega)]
        exact J _ (bad_other rest h0 h3).symm
def c1m : List UInt8 → Bool
  | [] => true
  | [_] => false
  | x :: _ :: _ => x == 48
theorem c1_ds (ds : List UInt8) (hd : ∀ x ∈ ds, isd x = true) : c1 ds = c1m ds := by
  unfold c1
  match ds with
  | [] => rfl
  | [x] => rw [(digB_isd [x]).2 ⟨by simp, hd⟩]; simp [c1m]
  | x :: y :: r => rw [(digB_isd (x :: y :: r)).2 ⟨by simp, hd⟩]; simp [c1m]
theorem j3_law (neg : Bool) (ds rest l : List UInt8) (hl : l = pre neg ++ (ds ++ rest)) (hL : l.length ≤ 9223372036854770000) (hd : ∀ x ∈ ds, isd x = true) :
    lexpriorref02_Parse.j3 (1 + ds.length + 1 + 1 + 1 + 1 + 1) (S l) (if neg = true then 1 else 0) (((pre neg).length + ds.length : Nat) : Int) = some (rp neg ds rest) := by
  have J := fun b hb => j4_law neg ds rest l hl hL hd b hb
  have hpl : (pre neg).length ≤ 1 := by cases neg <;> decide
  have hlen : l.length = (pre neg).length + (ds.length + rest.length) := by rw [hl]; simp
  have hx : (S l).extract ((((pre neg).length + ds.length : Nat) : Int)).toNat (S l).size = S rest := by
    rw [Int.toNat_natCast, S_extract, S_size]
    congr 1
    rw [hl, List.drop_append, List.drop_append]
    rw [List.take_of_length_le (by simp; omega)]
    simp
  have hc := c1_ds ds hd
  rw [← pre_len neg] at J ⊢
  rw [lexpriorref02_Parse.j3]
  rw [hx, if_pos (by omega), if_pos (by rw [S_size]; omega)]
  match ds, hd, hl, hlen, hc, J with
  | [], hd, hl, hlen, hc, J => rw [if_pos (by simp)]; exact J _ hc.symm
  | x :: t, hd, hl, hlen, hc, J =>
    have hg : l[(pre neg).length]? = some x := by rw [hl]; simp
    rw [if_neg (by simp; omega), if_pos (by omega), if_pos (by rw [S_size, hlen]; simp; omega), bt_S l _ x hg]
    by_cases h48 : x = 48
    · rw [if_pos (by rw [h48]; rfl), wrap_in _ (by omega)]
      refine J _ ?_
      rw [hc, h48]
      match t with
      | [] => simp [c1m]
      | _ :: _ => simp [c1m]; omega
    · rw [if_neg (by
        intro e
        apply h48
        apply UInt8.toNat_inj.1
        have : x.toNat = 48 := by omega
        rw [this]; rfl)]
      refine J _ ?_
      rw [hc]
      match t with
      | [] => rfl
      | _ :: _ => simpa [c1m] using h48
theorem rparse (l : List UInt8) (hL : l.length ≤ 9223372036854770000) : ∃ k, lexpriorref02_Parse.f k (S l) = some (parse l) := by
  obtain ⟨neg, hn1, hn2⟩ : ∃ neg, hasPrefix l [45] = neg ∧ l = pre neg ++ trimPrefix l [45] := ⟨_, rfl, prefix_back l⟩
  unfold parse
  rw [hn1]
  have hn3 : neg = false → l[0]? ≠ some 45 := by
    intro hf e
    rw [hf] at hn1
    match l, e with
    | c :: t, e =>
      have : c = 45 := by simpa using e
      rw [this, (prefix_yes t).1] at hn1
      cases hn1
  generalize trimPrefix l [45] = body at *
  obtain ⟨ds, rest, rfl, hd, hr⟩ := split_ds body
  rw [parse_rp neg ds rest hd hr]
  have h3 := j3_law neg ds rest l hn2 hL hd
  have h0 := l0_law (if neg = true then 1 else 0) ds (pre neg) rest l _ _ hn2 hL hd hr h3
  rw [pre_len] at h0
  refine ⟨(1 + ds.length + 1 + 1 + 1 + 1 + 1 + ds.length + 1) + 1 + 1, ?_⟩
  generalize (1 + ds.length + 1 + 1 + 1 + 1 + 1 + ds.length + 1) = K at *
  have hj0 : lexpriorref02_Parse.j0 (K + 1 + 1) (S l) 0 neg = some (rp neg ds rest) := by
    rw [lexpriorref02_Parse.j0]
    cases neg with
    | true => rw [if_pos rfl]; rw [lexpriorref02_Parse.j1]; exact h0
    | false => rw [if_neg (by decide)]; rw [lexpriorref02_Parse.j1]; exact h0
  unfold lexpriorref02_Parse.f
  rw [S_toList]
  by_cases hnil : l = []
  · rw [if_pos hnil]
    have : neg = false := by rw [← hn1, hnil]; rfl
    rw [← this]; exact hj0
  · rw [if_neg hnil, if_pos (by rw [S_size]; have := List.length_pos_iff.2 hnil; omega)]
    have : (bt (S l) 0 == 45) = neg := by
      match l, hnil with
      | c :: t, _ =>
        have e0 : bt (S (c :: t)) 0 = (c.toNat : Int) := bt_S (c :: t) 0 c rfl
        rw [e0]
        cases neg with
        | true =>
          have : c = 45 := by
            have := congrArg (fun l => l[0]?) hn2
            simpa [pre] using this
          rw [this]; rfl
        | false =>
          have h45 := hn3 rfl
          rw [beq_eq_false_iff_ne]
          intro e
          apply h45
          have : c = 45 := by
            apply UInt8.toNat_inj.1
            have : c.toNat = 45 := by omega
            rw [this]; rfl
          rw [this]; rfl
    rw [this]; exact hj0
end Mo
end Go.Proofs.YtgabkgomjdlgnaaDoor
