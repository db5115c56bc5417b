import Derived.Test.YtgabkgomjdlgnaaDoorMonB
import Derived.Lib.Bytealg
import Derived.Lib.ParseIntB
namespace Go.Proofs.YtgabkgomjdlgnaaDoor
open Go.RowKit Go.Lib
set_option linter.unusedVariables false
set_option linter.unusedSimpArgs false

namespace Mo
/-- the text of a list of bytes -/
def S (l : List UInt8) : ByteArray := ⟨l.toArray⟩
theorem S_data (l : List UInt8) : (S l).data.toList = l := rfl
theorem S_toList (l : List UInt8) : (S l).toList = l := by rw [Lib.toList_data]; rfl
theorem S_size (l : List UInt8) : (S l).size = l.length := by simp [S, ByteArray.size]
theorem S_get (l : List UInt8) (i : Nat) (x : UInt8) (hx : l[i]? = some x) (h : i < (S l).size) : (S l)[i]'h = x := by
  have h' : i < l.length := by rw [S_size] at h; exact h
  rw [List.getElem?_eq_getElem h'] at hx
  exact Option.some.inj hx
theorem S_of (s : ByteArray) : S s.data.toList = s := by simp [S]
theorem S_extract (l : List UInt8) (a b : Nat) : (S l).extract a b = S ((l.drop a).take (b - a)) := Lib.extract_mk l a b
/-- where the first point stands, or -1 -/
def cutDot (l : List UInt8) : List UInt8 × List UInt8 × Bool :=
  if Lib.indexByte l 46 < 0 then (l, [], false) else (l.take (Lib.indexByte l 46).toNat, l.drop ((Lib.indexByte l 46).toNat + 1), true)
theorem indexByte_lt (l : List UInt8) (c : UInt8) : Lib.indexByte l c < l.length ∨ Lib.indexByte l c = -1 := by
  induction l with
  | nil => right; rfl
  | cons b l ih =>
    unfold Lib.indexByte
    have hg := Lib.indexByte_ge l c
    split
    · left; simp
    · split
      · right; rfl
      · rename_i h
        left
        simp at h
        simp only [List.length_cons]
        omega
def dg (c : UInt8) : Nat := c.toNat - 48
theorem dg_eq (c : UInt8) : dg c = c.toNat - 48 := rfl
attribute [irreducible] dg
/-- what a list of digits spells, behind acc -/
def val (acc : Nat) : List UInt8 → Nat
  | [] => acc
  | c :: r => val (acc * 10 + dg c) r
theorem val_nil (acc : Nat) : val acc [] = acc := rfl
theorem val_cons (acc : Nat) (c : UInt8) (r : List UInt8) : val acc (c :: r) = val (acc * 10 + dg c) r := rfl
attribute [irreducible] val
theorem tens_iff (x : UInt8) : tens.contains x = true ↔ 48 ≤ x.toNat ∧ x.toNat ≤ 57 := by
  constructor
  · intro h
    simp [tens] at h
    rcases h with rfl | rfl | rfl | rfl | rfl | rfl | rfl | rfl | rfl | rfl <;> decide
  · rintro ⟨h1, h2⟩
    have : x = UInt8.ofNat x.toNat := by simp
    rw [this]
    have h3 : x.toNat < 58 := by omega
    generalize x.toNat = n at *
    revert h1 h2 h3
    clear this
    have : ∀ n, n < 58 → 48 ≤ n → n ≤ 57 → tens.contains (UInt8.ofNat n) = true := by decide
    exact fun h1 h2 h3 => this n h3 h1 h2
theorem val_le (l : List UInt8) : ∀ acc : Nat, l.all (fun x => tens.contains x) = true → val acc l < (acc + 1) * 10 ^ l.length := by
  induction l with
  | nil =>
    intro acc _
    rw [val_nil, List.length_nil, Nat.pow_zero]
    omega
  | cons c r ih =>
    intro acc h
    rw [List.all_cons, Bool.and_eq_true] at h
    have h1 := (tens_iff c).1 h.1
    have h0 := dg_eq c
    have h2 := ih (acc * 10 + dg c) h.2
    have h3 := val_cons acc c r
    have h4 : acc * 10 + dg c + 1 ≤ (acc + 1) * 10 := by omega
    have h5 := Nat.mul_le_mul_right (10 ^ r.length) h4
    have h6 : (acc + 1) * 10 ^ (c :: r).length = (acc + 1) * 10 * 10 ^ r.length := by
      rw [List.length_cons, Nat.pow_succ, Nat.mul_assoc, Nat.mul_comm 10]
    rw [h3, h6]
    exact Nat.lt_of_lt_of_le h2 h5
theorem val_ge (l : List UInt8) : ∀ acc : Nat, acc ≤ val acc l := by
  induction l with
  | nil => intro acc; rw [val_nil]; exact Nat.le_refl _
  | cons c r ih =>
    intro acc
    have := ih (acc * 10 + dg c)
    rw [val_cons]
    exact Nat.le_trans (by omega) this
theorem parse_step (M acc : Nat) (c : UInt8) (r : List UInt8) (h1 : 48 ≤ c.toNat ∧ c.toNat ≤ 57) (g1 : ¬ 1844674407370955162 ≤ acc) (g2 : ¬ M < acc * 10 + dg c) :
    Lib.parseUintM M acc (c :: r) = Lib.parseUintM M (acc * 10 + dg c) r := by
  rw [dg_eq] at g2 ⊢
  rw [Lib.parseUintM, if_pos h1, if_neg g1, if_neg g2]
theorem parseU (M T : Nat) (hM : T ≤ M) (hT : T ≤ 1844674407370955162) (l : List UInt8) : ∀ acc : Nat, l.all (fun x => tens.contains x) = true → val acc l < T → Lib.parseUintM M acc l = .ok (val acc l) := by
  induction l with
  | nil => intro acc _ _; rw [val_nil]; rfl
  | cons c r ih =>
    intro acc h hv
    rw [List.all_cons, Bool.and_eq_true] at h
    have h1 := (tens_iff c).1 h.1
    have h0 := dg_eq c
    have h2 := val_ge r (acc * 10 + dg c)
    have h3 := val_cons acc c r
    rw [h3] at hv ⊢
    have g1 : ¬ 1844674407370955162 ≤ acc := fun h => by omega
    have g2 : ¬ M < acc * 10 + dg c := fun h => by omega
    rw [parse_step M acc c r h1 g1 g2]
    exact ih _ h.2 hv
theorem parseI (l : List UInt8) (h : digB l = true) (hl : l.length ≤ 14) : Lib.parseIntB 64 l = .ok (val 0 l : Nat) := by
  unfold digB at h
  simp only [Bool.and_eq_true] at h
  obtain ⟨h1, h2⟩ := h
  have hv := val_le l 0 h2
  have hp : 10 ^ l.length ≤ 10 ^ 14 := Nat.pow_le_pow_right (by omega) hl
  have hv2 : val 0 l < 1000000000000000000 := by
    have : (10 : Nat) ^ 14 = 100000000000000 := by decide
    omega
  match l, h1, h2, hv2 with
  | c :: r, _, h2, hv2 =>
    have hc := h2
    simp only [List.all_cons, Bool.and_eq_true] at hc
    have hd := (tens_iff c).1 hc.1
    unfold Lib.parseIntB
    simp only []
    rw [if_neg (by omega)]
    unfold Lib.parseUintB
    rw [if_neg (by simp), parseU _ 1000000000000000000 (by decide) (by decide) _ _ h2 hv2]
    simp only []
    rw [if_neg (by rintro ⟨_, h⟩; have : (2 : Nat) ^ (64 - 1) = 9223372036854775808 := by decide
                   omega), if_neg (by rintro ⟨h, _⟩; omega), if_neg (by omega)]
end Mo

set_option maxHeartbeats 1000000 in
set_option maxRecDepth 100000 in
theorem cut_calls (l : List UInt8) (hl : l.length ≤ 9223372036854775000) (w : World) :
    Calls Tryd.prog 35 #[.string (Mo.S l), .string ⟨#[46]⟩] w fun e w' => e = .returned (.tuple #[.string (Mo.S (Mo.cutDot l).1), .string (Mo.S (Mo.cutDot l).2.1), .bool (Mo.cutDot l).2.2]) ∧ ∃ n, w' = w.drewN n := by
  have hI := Lib.hid (Tryd.stringslite_Index_one (Mo.S l) 46 w)
  have hi : Calls Tryd.prog 53 #[.string (Mo.S l), .string ⟨#[46]⟩] w fun e w' => e = .returned (.tuple #[.string (Mo.S (Mo.cutDot l).1), .string (Mo.S (Mo.cutDot l).2.1), .bool (Mo.cutDot l).2.2]) ∧ ∃ n, w' = w.drewN n := by
    unfold Mo.cutDot
    rw [Mo.S_data] at hI
    have hg := Lib.indexByte_ge l 46
    have hlt := Mo.indexByte_lt l 46
    generalize Lib.indexByte l 46 = i at *
    have hsz := Mo.S_size l
    by_cases h : i < 0
    · obtain rfl : i = -1 := by omega
      simp only [h, if_true]
      clear hlt hg h
      go_enter Tryd.func53, Tryd.ntmps53
      go_wp2_with (first | (go_at_call 70; refine hI.out.mono ?_; rintro e w' ⟨rfl, rfl⟩))
      refine bodyPost_ret (v := .tuple #[.string (Mo.S l), .string (Mo.S []), .bool false]) (by simp [results, Tryd.results53, go_sem]; rfl) rfl ⟨rfl, 0, rfl⟩
    · simp only [h, if_false]
      obtain ⟨k, rfl⟩ := Int.eq_ofNat_of_zero_le (show 0 ≤ i by omega)
      have hk : k < l.length := by omega
      have h1 : decide ((0 : Int) ≤ (k : Int)) = true := decide_eq_true (by omega)
      have h2 : (0 : Int) ≤ (k : Int) := by omega
      have h3 : (k : Int) ≤ ((Mo.S l).size : Int) := by rw [hsz]; omega
      have h4 : IntKind.i64.wrap ((k : Int) + 1) = (k : Int) + 1 := IntWalk.i64_in _ (by omega)
      have h5 : (0 : Int) ≤ (k : Int) + 1 := by omega
      have h6 : (k : Int) + 1 ≤ ((Mo.S l).size : Int) := by rw [hsz]; omega
      have e1 : (Mo.S l).extract 0 k = Mo.S (l.take k) := by rw [Mo.S_extract]; simp
      have e2 : (Mo.S l).extract (k + 1) l.length = Mo.S (l.drop (k + 1)) := by rw [Mo.S_extract, List.take_of_length_le (by simp)]
      clear hlt hg h
      go_enter Tryd.func53, Tryd.ntmps53
      go_wp2_with (first | (go_at_call 70; refine hI.out.mono ?_; rintro e w' ⟨rfl, rfl⟩))
      go_quiet (fail)
      go_wp2
      refine bodyPost_ret (v := .tuple #[.string (Mo.S (l.take k)), .string (Mo.S (l.drop (k + 1))), .bool true]) (by simp [results, Tryd.results53, go_sem]) rfl ⟨rfl, _, rfl⟩
  have HI := Lib.hid hi
  clear hi hI
  go_enter Tryd.func35, Tryd.ntmps35
  go_wp2_with (first | (go_at_call 53; refine HI.out.mono ?_; rintro e w' ⟨rfl, n, rfl⟩))
  refine bodyPost_ret (v := .tuple #[.string (Mo.S (Mo.cutDot l).1), .string (Mo.S (Mo.cutDot l).2.1), .bool (Mo.cutDot l).2.2]) (by simp [results, Tryd.results35, go_sem]) rfl ⟨rfl, n, rfl⟩
end Go.Proofs.YtgabkgomjdlgnaaDoor
