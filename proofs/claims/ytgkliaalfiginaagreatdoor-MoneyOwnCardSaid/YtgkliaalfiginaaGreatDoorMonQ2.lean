import Derived.Test.YtgkliaalfiginaaGreatDoorMonD
import Derived.Lib.ItoaNum
import Derived.Laws.IdiomStrings
import Derived.Lib.ItoaLen
namespace Go.Proofs.YtgkliaalfiginaaGreatDoor
open Go.RowKit Go.Lib
set_option linter.unusedVariables false
set_option linter.unusedSimpArgs false

namespace Mo
theorem S_append (a b : List UInt8) : S a ++ S b = S (a ++ b) := by
  apply ByteArray.ext
  simp [S, ByteArray.data_append]
def dc (n : Nat) : UInt8 := UInt8.ofNat (48 + n)
theorem dc_nat (n : Nat) (h : n < 10) : (dc n).toNat = 48 + n := by
  unfold dc
  rw [UInt8.toNat_ofNat']
  exact Nat.mod_eq_of_lt (Nat.lt_of_lt_of_le (Nat.add_lt_add_left h 48) (by decide))
attribute [irreducible] dc
def frac (c i j : Nat) : List UInt8 := if c = 0 then [] else [46, dc i, dc j]
/-- how the amount's text reads: q whole, c cents -/
def text (neg : Bool) (q c : Nat) : List UInt8 := (if neg = true then [45] else []) ++ Lib.decDigits q ++ frac c (c / 10) (c % 10)
def print (m : Int) : List UInt8 × Int := if chk m = 0 then (text (decide (m < 0)) (m.natAbs / 100) (m.natAbs % 100), 0) else ([], 22)
/-- the numbers that Print comes by -/
structure Parts (a q c i j : Nat) : Prop where
  q1 : ((a : Int)).tdiv 100 = (q : Int)
  q2 : ((a : Int)).tmod 100 = (c : Int)
  e1 : (c : Int).tdiv 10 = (i : Int)
  e2 : (c : Int).tmod 10 = (j : Int)
  f1 : IntKind.i64.wrap (q : Int) = q
  f2 : IntKind.i64.wrap (c : Int) = c
  f3 : IntKind.i64.wrap (i : Int) = i
  f4 : IntKind.i64.wrap (j : Int) = j
  f5 : IntKind.u8.wrap (i : Int) = i
  f6 : IntKind.u8.wrap (j : Int) = j
  f7 : IntKind.u8.wrap (48 + (i : Int)) = 48 + (i : Int)
  f8 : IntKind.u8.wrap (48 + (j : Int)) = 48 + (j : Int)
  hi : i < 10
  hj : j < 10
theorem parts (a : Nat) (h : a ≤ 1000000000000000) : Parts a (a / 100) (a % 100) (a % 100 / 10) (a % 100 % 10) where
  q1 := by rw [Int.tdiv_eq_ediv_of_nonneg (by omega)]; omega
  q2 := by rw [Int.tmod_eq_emod_of_nonneg (by omega)]; omega
  e1 := by rw [Int.tdiv_eq_ediv_of_nonneg (by omega)]; omega
  e2 := by rw [Int.tmod_eq_emod_of_nonneg (by omega)]; omega
  f1 := IntWalk.i64_in _ (by omega)
  f2 := IntWalk.i64_in _ (by omega)
  f3 := IntWalk.i64_in _ (by omega)
  f4 := IntWalk.i64_in _ (by omega)
  f5 := by rw [IntKind.wrap_u8]; omega
  f6 := by rw [IntKind.wrap_u8]; omega
  f7 := by rw [IntKind.wrap_u8]; omega
  f8 := by rw [IntKind.wrap_u8]; omega
  hi := by omega
  hj := by omega
end Mo
theorem chk_bound (m : Int) (hk : Mo.chk m = 0) : -1000000000000000 ≤ m ∧ m ≤ 1000000000000000 := by
  unfold Mo.chk at hk
  split at hk
  · cases hk
  · omega
end Go.Proofs.YtgkliaalfiginaaGreatDoor
namespace Go.Proofs.YtgkliaalfiginaaGreatDoor
open Go.RowKit Go.Lib
set_option linter.unusedVariables false
set_option linter.unusedSimpArgs false

theorem conv2 (w2 : World) (i j : Nat) (hi : i < 10) (hj : j < 10) : (convert 85 9 (.slice (some ⟨w2.heap.size, 0, none⟩) 2 2)).run Tryz.prog (w2.alloc (.cells #[.int .u8 (48 + (i : Int)), .int .u8 (48 + (j : Int))] 5)) = .ok (.string (Mo.S [Mo.dc i, Mo.dc j])) (w2.alloc (.cells #[.int .u8 (48 + (i : Int)), .int .u8 (48 + (j : Int))] 5)) :=
  run_convert_bytes_back (P := Tryz.prog) (w2.alloc (.cells #[.int .u8 (48 + (i : Int)), .int .u8 (48 + (j : Int))] 5)) 85 9 5 ⟨w2.heap.size, 0, none⟩ 2 [Mo.dc i, Mo.dc j] Tryz.underlying85 Tryz.underlying5 Tryz.underlying9 (fun k hk => by
    rw [add_at]
    refine blk_cell (heap_alloc_new w2 _) k ?_
    match k, hk with
    | 0, _ => simp [Mo.dc_nat i hi]
    | 1, _ => simp [Mo.dc_nat j hj])
set_option maxHeartbeats 1000000 in
set_option maxRecDepth 100000 in
/-- the walk of 'Print', an amount below 0 -/
theorem print_neg (m : Int) (a q c i j : Nat) (hk : Mo.chk m = 0) (hneg : m < 0) (n1 : IntKind.i64.wrap (-m) = (a : Int)) (P : Mo.Parts a q c i j) (hlen : (Lib.decDigits q).length ≤ 100) (w : World)
    (hF : Calls Tryz.prog 46 #[.int .i64 (q : Int), .int .i64 10] w fun e w' => e = .returned (.string (Mo.S (Lib.decDigits q))) ∧ Below w.heap.size w w') :
    Calls Tryz.prog 9 #[.int .i64 m] w fun e w' => e = .returned (.tuple #[.string (Mo.S ([45] ++ Lib.decDigits q ++ Mo.frac c i j)), .int .i64 0]) ∧ Below w.heap.size w w' := by
  obtain ⟨q1, q2, e1, e2, f1, f2, f3, f4, f5, f6, f7, f8, hi, hj⟩ := P
  have k1 : (Mo.chk m != 0) = false := by rw [hk]; rfl
  have d1 : decide (m < 0) = true := decide_eq_true hneg
  have HF := Lib.hid hF
  have HI := Lib.hid hi
  have HJ := Lib.hid hj
  clear hF hk hneg hi hj
  generalize hL : Lib.decDigits q = L at *
  clear hL
  have ha : (⟨#[45]⟩ : ByteArray) ++ Mo.S L = Mo.S (45 :: L) := Mo.S_append [45] L
  have z1 : (Mo.S L).size ≤ 100 := by rw [Mo.S_size]; exact hlen
  have z2 : (Mo.S (45 :: L)).size ≤ 101 := by rw [Mo.S_size]; simp; exact hlen
  clear hlen
  go_enter Tryz.func9, Tryz.ntmps9
  go_upto_region 8 with (first | (go_at_call 12; refine (check_calls _ _).mono ?_; rintro e W2 ⟨rfl, rfl⟩) | (go_at_call 46; refine HF.out.mono ?_; rintro e w2 ⟨rfl, hb2⟩))
  have HB := Lib.hid hb2
  clear hb2 HF k1 d1
  by_cases hc0 : c = 0
  · have c1 : ((c : Int) != 0) = false := by rw [hc0]; rfl
    have c2 : (c != 0) = false := by rw [hc0]; rfl
    have hfr := Lib.hid (show Mo.frac c i j = [] by simp [Mo.frac, hc0])
    clear hc0
    go_wp2
    go_ret2
    exact ⟨by rw [hfr.out, List.append_nil]; rfl, HB.out⟩
  · have c1 : ((c : Int) != 0) = true := by simpa using fun h => hc0 (by omega)
    have c2 : (c != 0) = true := by simpa using hc0
    have hfr := Lib.hid (show Mo.frac c i j = [46, Mo.dc i, Mo.dc j] by simp [Mo.frac, hc0])
    clear hc0
    go_upto_region 9 with (fail)
    have hcv := conv2 w2 i j HI.out HJ.out
    have z3 : (Mo.S [Mo.dc i, Mo.dc j]).size ≤ 2 := by rw [Mo.S_size]; simp
    have z4 : (Mo.S [46, Mo.dc i, Mo.dc j]).size ≤ 3 := by rw [Mo.S_size]; simp
    have hb1 : (⟨#[46]⟩ : ByteArray) ++ Mo.S [Mo.dc i, Mo.dc j] = Mo.S [46, Mo.dc i, Mo.dc j] := Mo.S_append [46] [Mo.dc i, Mo.dc j]
    have hb2 : Mo.S (45 :: L) ++ Mo.S [46, Mo.dc i, Mo.dc j] = Mo.S (45 :: L ++ [46, Mo.dc i, Mo.dc j]) := Mo.S_append _ _
    have HB2 := Lib.hid (HB.out.alloc HB.out.size (.cells #[.int .u8 (48 + (i : Int)), .int .u8 (48 + (j : Int))] 5))
    go_wp2
    go_ret2
    exact ⟨by rw [hfr.out]; rfl, HB2.out⟩
set_option maxHeartbeats 1000000 in
set_option maxRecDepth 100000 in
/-- the walk of 'Print', an amount from 0 on -/
theorem print_pos (m : Int) (a q c i j : Nat) (hk : Mo.chk m = 0) (hneg : ¬ m < 0) (n1 : m = (a : Int)) (P : Mo.Parts a q c i j) (hlen : (Lib.decDigits q).length ≤ 100) (w : World)
    (hF : Calls Tryz.prog 46 #[.int .i64 (q : Int), .int .i64 10] w fun e w' => e = .returned (.string (Mo.S (Lib.decDigits q))) ∧ Below w.heap.size w w') :
    Calls Tryz.prog 9 #[.int .i64 m] w fun e w' => e = .returned (.tuple #[.string (Mo.S (Lib.decDigits q ++ Mo.frac c i j)), .int .i64 0]) ∧ Below w.heap.size w w' := by
  subst n1
  obtain ⟨q1, q2, e1, e2, f1, f2, f3, f4, f5, f6, f7, f8, hi, hj⟩ := P
  have k1 : (Mo.chk (a : Int) != 0) = false := by rw [hk]; rfl
  have d1 : decide ((a : Int) < 0) = false := decide_eq_false hneg
  have HF := Lib.hid hF
  have HI := Lib.hid hi
  have HJ := Lib.hid hj
  clear hF hk hneg hi hj
  generalize hL : Lib.decDigits q = L at *
  clear hL
  have ha : (⟨#[]⟩ : ByteArray) ++ Mo.S L = Mo.S L := Mo.S_append [] L
  have z1 : (Mo.S L).size ≤ 100 := by rw [Mo.S_size]; exact hlen
  clear hlen
  go_enter Tryz.func9, Tryz.ntmps9
  go_upto_region 8 with (first | (go_at_call 12; refine (check_calls _ _).mono ?_; rintro e W2 ⟨rfl, rfl⟩) | (go_at_call 46; refine HF.out.mono ?_; rintro e w2 ⟨rfl, hb2⟩))
  have HB := Lib.hid hb2
  clear hb2 HF k1 d1
  by_cases hc0 : c = 0
  · have c1 : ((c : Int) != 0) = false := by rw [hc0]; rfl
    have c2 : (c != 0) = false := by rw [hc0]; rfl
    have hfr := Lib.hid (show Mo.frac c i j = [] by simp [Mo.frac, hc0])
    clear hc0
    go_wp2
    go_ret2
    exact ⟨by rw [hfr.out, List.append_nil]; rfl, HB.out⟩
  · have c1 : ((c : Int) != 0) = true := by simpa using fun h => hc0 (by omega)
    have c2 : (c != 0) = true := by simpa using hc0
    have hfr := Lib.hid (show Mo.frac c i j = [46, Mo.dc i, Mo.dc j] by simp [Mo.frac, hc0])
    clear hc0
    go_upto_region 9 with (fail)
    have hcv := conv2 w2 i j HI.out HJ.out
    have z3 : (Mo.S [Mo.dc i, Mo.dc j]).size ≤ 2 := by rw [Mo.S_size]; simp
    have z4 : (Mo.S [46, Mo.dc i, Mo.dc j]).size ≤ 3 := by rw [Mo.S_size]; simp
    have hb1 : (⟨#[46]⟩ : ByteArray) ++ Mo.S [Mo.dc i, Mo.dc j] = Mo.S [46, Mo.dc i, Mo.dc j] := Mo.S_append [46] [Mo.dc i, Mo.dc j]
    have hb2 : Mo.S L ++ Mo.S [46, Mo.dc i, Mo.dc j] = Mo.S (L ++ [46, Mo.dc i, Mo.dc j]) := Mo.S_append _ _
    have HB2 := Lib.hid (HB.out.alloc HB.out.size (.cells #[.int .u8 (48 + (i : Int)), .int .u8 (48 + (j : Int))] 5))
    go_wp2
    go_ret2
    exact ⟨by rw [hfr.out]; rfl, HB2.out⟩

theorem print_calls (m : Int) (w : World) (hF : Mo.chk m = 0 → Calls Tryz.prog 46 #[.int .i64 ((m.natAbs / 100 : Nat) : Int), .int .i64 10] w fun e w' => e = .returned (.string (Mo.S (Lib.decDigits (m.natAbs / 100)))) ∧ Below w.heap.size w w') :
    Calls Tryz.prog 9 #[.int .i64 m] w fun e w' => e = .returned (.tuple #[.string (Mo.S (Mo.print m).1), .int .i64 (Mo.print m).2]) ∧ Below w.heap.size w w' := by
  by_cases hk : Mo.chk m = 0
  · have hb := chk_bound m hk
    have hr : Mo.print m = (Mo.text (decide (m < 0)) (m.natAbs / 100) (m.natAbs % 100), 0) := by unfold Mo.print; rw [if_pos hk]
    have hl : (Lib.decDigits (m.natAbs / 100)).length ≤ 100 := by
      rw [Lib.decDigits_length]
      have := Lib.nDigits_le20 (m.natAbs / 100) (by omega)
      omega
    have P := Mo.parts m.natAbs (by omega)
    rw [hr]
    unfold Mo.text
    by_cases hneg : m < 0
    · have h := print_neg m m.natAbs _ _ _ _ hk hneg (by rw [IntWalk.i64_in _ (by omega)]; omega) P hl w (hF hk)
      rw [decide_eq_true hneg, if_pos rfl]
      exact h
    · have h := print_pos m m.natAbs _ _ _ _ hk hneg (by omega) P hl w (hF hk)
      rw [decide_eq_false hneg, if_neg (by decide)]
      exact h
  · have hr := Lib.hid (show Mo.print m = ([], 22) by unfold Mo.print; rw [if_neg hk])
    have k1 : (Mo.chk m != 0) = true := by simpa using hk
    clear hF
    go_enter Tryz.func9, Tryz.ntmps9
    go_wp2_with (first | (go_at_call 12; refine (check_calls _ _).mono ?_; rintro e W2 ⟨rfl, rfl⟩))
    go_ret2
    exact ⟨by rw [hr.out]; rfl, Below.refl _ _⟩
end Go.Proofs.YtgkliaalfiginaaGreatDoor
/- the plain law of an amount's one form: there and back -/
namespace Go.Proofs.YtgkliaalfiginaaGreatDoor
open Go.Lib
namespace Mo
theorem val_snoc (l : List UInt8) (c : UInt8) : ∀ acc, val acc (l ++ [c]) = val acc l * 10 + dg c := by
  induction l with
  | nil => intro acc; rw [List.nil_append, val_cons, val_nil, val_nil]
  | cons a r ih => intro acc; rw [List.cons_append, val_cons, val_cons, ih]
/-- digits, without a 0 ahead -/
def Canon (l : List UInt8) : Prop := digB l = true ∧ (1 < l.length → l[0]? ≠ some 48)
theorem dc_dg (c : UInt8) (h : 48 ≤ c.toNat ∧ c.toNat ≤ 57) : UInt8.ofNat (48 + dg c) = c := by
  apply UInt8.toNat_inj.1
  rw [UInt8.toNat_ofNat', dg_eq]
  have e : 48 + (c.toNat - 48) = c.toNat := by omega
  rw [e]
  exact Nat.mod_eq_of_lt (Nat.lt_of_le_of_lt h.2 (by decide))
theorem dg_lt (c : UInt8) (h : 48 ≤ c.toNat ∧ c.toNat ≤ 57) : dg c < 10 := by rw [dg_eq]; omega
theorem digB_iff (l : List UInt8) : digB l = true ↔ l ≠ [] ∧ ∀ x ∈ l, 48 ≤ x.toNat ∧ x.toNat ≤ 57 := by
  unfold digB
  rw [Bool.and_eq_true, List.all_eq_true]
  constructor
  · rintro ⟨h1, h2⟩
    exact ⟨by rintro rfl; simp at h1, fun x hx => (tens_iff x).1 (h2 x hx)⟩
  · rintro ⟨h1, h2⟩
    exact ⟨by cases l with
      | nil => exact absurd rfl h1
      | cons a r => simp, fun x hx => (tens_iff x).2 (h2 x hx)⟩
theorem canon_pos (l : List UInt8) (h : digB l = true) (h0 : l[0]? ≠ some 48) : 1 ≤ val 0 l := by
  obtain ⟨h1, h2⟩ := (digB_iff l).1 h
  match l, h1, h2, h0 with
  | c :: r, _, h2, h0 =>
    have hc := h2 c (by simp)
    have hne : ¬ c.toNat = 48 := fun e => h0 (by
      have : c = 48 := UInt8.toNat_inj.1 e
      rw [this]; rfl)
    have hd := dg_eq c
    have hg := val_ge r (0 * 10 + dg c)
    rw [val_cons]
    omega
theorem dd_val : ∀ (n : Nat) (l : List UInt8), l.length = n → Canon l → decDigits (val 0 l) = l := by
  intro n
  induction n with
  | zero =>
    intro l hl hc
    have := (digB_iff l).1 hc.1
    exact absurd (List.eq_nil_of_length_eq_zero hl) this.1
  | succ n ih =>
    intro l hl hc
    obtain ⟨h1, h2⟩ := (digB_iff l).1 hc.1
    rcases List.eq_nil_or_concat l with rfl | ⟨a, c, rfl⟩
    · exact absurd rfl h1
    · rw [List.concat_eq_append] at *
      have hcd := h2 c (by simp)
      rw [val_snoc]
      have hlt := dg_lt c hcd
      by_cases ha : a = []
      · subst ha
        rw [val_nil]
        rw [decDigits_one (by omega), show 48 + (0 * 10 + dg c) = 48 + dg c by omega, dc_dg c hcd]
        rfl
      · have hal : 0 < a.length := List.length_pos_iff.2 ha
        have hda : digB a = true := (digB_iff a).2 ⟨ha, fun x hx => h2 x (by simp [hx])⟩
        have hh : a[0]? ≠ some 48 := by
          have := hc.2 (by simp; omega)
          rwa [List.getElem?_append_left hal] at this
        have hp := canon_pos a hda hh
        have ih2 := ih a (by simp at hl; omega) ⟨hda, fun _ => hh⟩
        generalize val 0 a = v at *
        rw [decDigits, dif_neg (by omega), show (v * 10 + dg c) / 10 = v by omega, show (v * 10 + dg c) % 10 = dg c by omega, ih2, dc_dg c hcd]
theorem dg_of (n : Nat) (h : n < 10) : dg (UInt8.ofNat (48 + n)) = n ∧ (48 ≤ (UInt8.ofNat (48 + n)).toNat ∧ (UInt8.ofNat (48 + n)).toNat ≤ 57) := by
  have e : (UInt8.ofNat (48 + n)).toNat = 48 + n := by
    rw [UInt8.toNat_ofNat']
    exact Nat.mod_eq_of_lt (Nat.lt_of_lt_of_le (Nat.add_lt_add_left h 48) (by decide))
  rw [dg_eq, e]
  omega
theorem dd_canon : ∀ (n u : Nat), u ≤ n → val 0 (decDigits u) = u ∧ Canon (decDigits u) ∧ (1 ≤ u → (decDigits u)[0]? ≠ some 48) := by
  intro n
  induction n with
  | zero =>
    intro u hu
    obtain rfl : u = 0 := by omega
    rw [decDigits_one (by omega)]
    have h := dg_of 0 (by omega)
    refine ⟨?_, ⟨(digB_iff _).2 ⟨by simp, fun x hx => ?_⟩, fun h => by simp at h⟩, fun h => by omega⟩
    · rw [val_cons, val_nil, h.1]
    · simp only [List.mem_singleton] at hx; rw [hx]; exact h.2
  | succ n ih =>
    intro u hu
    by_cases h10 : u < 10
    · rw [decDigits_one h10]
      have h := dg_of u h10
      refine ⟨?_, ⟨(digB_iff _).2 ⟨by simp, fun x hx => ?_⟩, fun h => by simp at h⟩, fun h1 e => ?_⟩
      · rw [val_cons, val_nil, h.1]; omega
      · simp only [List.mem_singleton] at hx; rw [hx]; exact h.2
      · have e2 := Option.some.inj e
        have e3 := h.1
        rw [e2] at e3
        rw [dg_eq] at e3
        have : (48 : UInt8).toNat = 48 := rfl
        omega
    · have hd : decDigits u = decDigits (u / 10) ++ [UInt8.ofNat (48 + u % 10)] := by rw [decDigits, dif_neg h10]
      obtain ⟨i1, i2, i3⟩ := ih (u / 10) (by omega)
      have h := dg_of (u % 10) (by omega)
      have i4 := i3 (by omega)
      obtain ⟨j1, j2⟩ := (digB_iff _).1 i2.1
      rw [hd]
      have hl : 0 < (decDigits (u / 10)).length := List.length_pos_iff.2 j1
      have h0 : (decDigits (u / 10) ++ [UInt8.ofNat (48 + u % 10)])[0]? ≠ some 48 := by rw [List.getElem?_append_left hl]; exact i4
      refine ⟨?_, ⟨(digB_iff _).2 ⟨by simp, fun x hx => ?_⟩, fun _ => h0⟩, fun _ => h0⟩
      · rw [val_snoc, i1, h.1]; omega
      · rcases List.mem_append.1 hx with hx | hx
        · exact j2 x hx
        · simp only [List.mem_singleton] at hx; rw [hx]; exact h.2
theorem dd_len : ∀ (k u : Nat), u < 10 ^ (k + 1) → (decDigits u).length ≤ k + 1 := by
  intro k
  induction k with
  | zero => intro u hu; rw [decDigits_one (by simpa using hu)]; simp
  | succ k ih =>
    intro u hu
    by_cases h10 : u < 10
    · rw [decDigits_one h10]; simp
    · rw [decDigits, dif_neg h10, List.length_append]
      have := ih (u / 10) (by rw [Nat.div_lt_iff_lt_mul (by omega), ← Nat.pow_succ]; exact hu)
      simp; omega
/-! ### the first point -/
theorem index_none (l : List UInt8) (h : ∀ x ∈ l, x ≠ 46) : indexByte l 46 = -1 := by
  induction l with
  | nil => rfl
  | cons b l ih =>
    have h1 := h b (by simp)
    have h2 := ih (fun x hx => h x (by simp [hx]))
    unfold indexByte
    rw [if_neg (by simpa using h1), h2, if_pos (by decide)]
theorem index_at (l r : List UInt8) (h : ∀ x ∈ l, x ≠ 46) : indexByte (l ++ 46 :: r) 46 = l.length := by
  induction l with
  | nil => rfl
  | cons b l ih =>
    have h1 := h b (by simp)
    have h2 := ih (fun x hx => h x (by simp [hx]))
    rw [List.cons_append]
    unfold indexByte
    rw [if_neg (by simpa using h1), h2, if_neg (by simp), List.length_cons]
    omega
theorem cutDot_none (l : List UInt8) (h : ∀ x ∈ l, x ≠ 46) : cutDot l = (l, [], false) := by
  unfold cutDot
  rw [index_none l h, if_pos (by omega)]
theorem cutDot_at (l r : List UInt8) (h : ∀ x ∈ l, x ≠ 46) : cutDot (l ++ 46 :: r) = (l, r, true) := by
  unfold cutDot
  rw [index_at l r h, if_neg (by omega), Int.toNat_natCast]
  simp
theorem index_cases (l : List UInt8) : (indexByte l 46 = -1 ∧ ∀ x ∈ l, x ≠ 46) ∨ ∃ a r, l = a ++ 46 :: r ∧ (∀ x ∈ a, x ≠ 46) := by
  induction l with
  | nil => exact .inl ⟨rfl, fun x hx => by simp at hx⟩
  | cons b l ih =>
    by_cases hb : b = 46
    · exact .inr ⟨[], l, by rw [hb]; rfl, fun x hx => by simp at hx⟩
    · rcases ih with ⟨_, h2⟩ | ⟨a, r, h1, h2⟩
      · have h3 : ∀ x ∈ b :: l, x ≠ 46 := fun x hx => by
          rcases List.mem_cons.1 hx with rfl | hx
          · exact hb
          · exact h2 x hx
        exact .inl ⟨index_none _ h3, h3⟩
      · exact .inr ⟨b :: a, r, by rw [h1]; rfl, fun x hx => by
          rcases List.mem_cons.1 hx with rfl | hx
          · exact hb
          · exact h2 x hx⟩
/-- the text out of its cut -/
theorem cutDot_back (l : List UInt8) : l = (cutDot l).1 ++ (if (cutDot l).2.2 = true then 46 :: (cutDot l).2.1 else []) ∧ (∀ x ∈ (cutDot l).1, x ≠ 46) ∧ ((cutDot l).2.2 = false → (cutDot l).2.1 = []) := by
  rcases index_cases l with ⟨_, h2⟩ | ⟨a, r, rfl, h2⟩
  · rw [cutDot_none l h2]; exact ⟨by simp, h2, fun _ => rfl⟩
  · rw [cutDot_at a r h2]; exact ⟨by simp, h2, fun h => by cases h⟩
theorem prefix_back (l : List UInt8) : l = (if hasPrefix l [45] = true then [45] else []) ++ trimPrefix l [45] := by
  unfold trimPrefix hasPrefix
  by_cases h : [45].isPrefixOf l = true
  · rw [if_pos h, if_pos h]
    obtain ⟨t, rfl⟩ := List.isPrefixOf_iff_prefix.1 h
    simp
  · rw [if_neg h, if_neg h]; rfl
theorem prefix_yes (l : List UInt8) : hasPrefix (45 :: l) [45] = true ∧ trimPrefix (45 :: l) [45] = l := by
  have h : hasPrefix (45 :: l) [45] = true := by unfold hasPrefix; simp
  exact ⟨h, by unfold trimPrefix; rw [if_pos h]; rfl⟩
theorem prefix_no (l : List UInt8) (h : l[0]? ≠ some 45) : hasPrefix l [45] = false ∧ trimPrefix l [45] = l := by
  have h2 : hasPrefix l [45] = false := by
    unfold hasPrefix
    cases l with
    | nil => rfl
    | cons a r =>
      have : a ≠ 45 := fun e => h (by rw [e]; rfl)
      simp only [List.isPrefixOf, Bool.and_true, beq_eq_false_iff_ne]
      exact fun e => this e.symm
  exact ⟨h2, by unfold trimPrefix; rw [h2]; rfl⟩
end Mo
end Go.Proofs.YtgkliaalfiginaaGreatDoor
/- the plain law of an amount's one form: there and back -/
namespace Go.Proofs.YtgkliaalfiginaaGreatDoor
open Go.Lib
namespace Mo
theorem dc_eq (n : Nat) : dc n = UInt8.ofNat (48 + n) := by unfold dc; rfl
theorem c1_canon (l : List UInt8) : c1 l = false ↔ Canon l := by
  unfold c1 Canon
  cases h : digB l with
  | false => simp
  | true =>
    simp only [Bool.not_true, Bool.false_or, Bool.and_eq_false_iff, decide_eq_false_iff_not, beq_eq_false_iff_ne, true_and]
    constructor
    · rintro (h1 | h1) h2
      · exact absurd h2 h1
      · exact h1
    · intro h1
      by_cases c : 1 < l.length
      · exact .inr (h1 c)
      · exact .inl c
theorem no46 (l : List UInt8) (h : digB l = true) : ∀ x ∈ l, x ≠ 46 := fun x hx e => by
  have := ((digB_iff l).1 h).2 x hx
  rw [e] at this
  exact absurd this.1 (by decide)
theorem no45 (l r : List UInt8) (h : digB l = true) : (l ++ r)[0]? ≠ some 45 := by
  obtain ⟨h1, h2⟩ := (digB_iff l).1 h
  match l, h1, h2 with
  | c :: t, _, h2 =>
    intro e
    have e2 : c = 45 := Option.some.inj e
    have := h2 c (by simp)
    rw [e2] at this
    exact absurd this.1 (by decide)
theorem frac_two (c : Nat) (h0 : c ≠ 0) (h : c < 100) : digB [dc (c / 10), dc (c % 10)] = true ∧ dg (dc (c / 10)) = c / 10 ∧ dg (dc (c % 10)) = c % 10 ∧ [dc (c / 10), dc (c % 10)] ≠ [48, 48] := by
  have a1 := dg_of (c / 10) (by omega)
  have a2 := dg_of (c % 10) (by omega)
  rw [← dc_eq] at a1 a2
  refine ⟨(digB_iff _).2 ⟨by simp, fun x hx => ?_⟩, a1.1, a2.1, fun e => ?_⟩
  · simp only [List.mem_cons, List.not_mem_nil, or_false] at hx
    rcases hx with rfl | rfl
    · exact a1.2
    · exact a2.2
  · injection e with e1 e2
    injection e2 with e2 _
    have b1 := a1.1
    have b2 := a2.1
    rw [e1] at b1
    rw [e2] at b2
    have h48 : dg 48 = 0 := by rw [dg_eq]; rfl
    omega
theorem parse3_ok (neg : Bool) (wh ce : List UInt8) (ha : Bool) (h1 : c1 wh = false) (h2 : c2 ha ce = false) (h3 : c3 neg wh ha = false) (h4 : ¬ 14 < wh.length) (m : Int) (hm : (if neg = true then -cents wh ha ce else cents wh ha ce) = m) (hk : chk m = 0) : parse3 neg wh ce ha = (m, 0) := by
  unfold parse3
  rw [if_neg (by rw [h1]; decide), if_neg (by rw [h2]; decide), if_neg (by rw [h3]; decide), if_neg h4, hm, if_pos hk]
theorem parse_print (m : Int) (hk : chk m = 0) : parse (print m).1 = (m, 0) := by
  have hb := chk_bound m hk
  have hp : print m = (text (decide (m < 0)) (m.natAbs / 100) (m.natAbs % 100), 0) := by unfold print; rw [if_pos hk]
  rw [hp]
  obtain ⟨v1, cn, hh⟩ := dd_canon (m.natAbs / 100) (m.natAbs / 100) (Nat.le_refl _)
  have hlen := dd_len 13 (m.natAbs / 100) (by have : (10 : Nat) ^ (13 + 1) = 100000000000000 := by decide
                                              omega)
  have hc100 : m.natAbs % 100 < 100 := Nat.mod_lt _ (by omega)
  have hsum : m.natAbs = m.natAbs / 100 * 100 + m.natAbs % 100 := by omega
  have hpos : m < 0 → m.natAbs % 100 = 0 → 1 ≤ m.natAbs / 100 := by omega
  generalize m.natAbs % 100 = c at *
  generalize m.natAbs / 100 = q at *
  have hd := cn.1
  -- the cut of what stands behind the sign
  obtain ⟨ce, ha, hcut, h2, hcents, h3⟩ : ∃ ce ha, cutDot (decDigits q ++ frac c (c / 10) (c % 10)) = (decDigits q, ce, ha) ∧ c2 ha ce = false ∧ cents (decDigits q) ha ce = (m.natAbs : Int) ∧ (m < 0 → c3 true (decDigits q) ha = false) := by
    unfold frac
    by_cases h0 : c = 0
    · rw [if_pos h0, List.append_nil]
      refine ⟨[], false, cutDot_none _ (no46 _ hd), rfl, ?_, fun hn => ?_⟩
      · unfold cents; rw [v1]; simp; omega
      · have := hh (hpos hn h0)
        unfold c3
        simp only [Bool.true_and, Bool.not_false, Bool.and_true, beq_eq_false_iff_ne]
        intro e
        rw [e] at this
        exact this rfl
    · rw [if_neg h0]
      obtain ⟨f1, f2, f3, f4⟩ := frac_two c h0 hc100
      refine ⟨[dc (c / 10), dc (c % 10)], true, cutDot_at _ _ (no46 _ hd), ?_, ?_, fun _ => ?_⟩
      · unfold c2; rw [f1]; simpa using f4
      · unfold cents
        rw [v1, if_pos rfl]
        simp only [List.getD_cons_zero, List.getD_cons_succ, f2, f3]
        omega
      · unfold c3; simp
  show parse (text (decide (m < 0)) q c) = _
  unfold parse text
  by_cases hn : m < 0
  · rw [decide_eq_true hn, if_pos rfl, List.append_assoc, show [45] ++ (decDigits q ++ frac c (c / 10) (c % 10)) = 45 :: (decDigits q ++ frac c (c / 10) (c % 10)) from rfl]
    rw [(prefix_yes _).1, (prefix_yes _).2, hcut]
    exact parse3_ok true _ _ _ ((c1_canon _).2 cn) h2 (h3 hn) (by omega) m (by rw [if_pos rfl, hcents]; omega) hk
  · rw [decide_eq_false hn, if_neg (by decide), List.nil_append]
    rw [(prefix_no _ (no45 _ _ hd)).1, (prefix_no _ (no45 _ _ hd)).2, hcut]
    exact parse3_ok false _ _ _ ((c1_canon _).2 cn) h2 (by unfold c3; simp) (by omega) m (by rw [if_neg (by decide), hcents]; omega) hk
theorem parse3_inv (neg : Bool) (wh ce : List UInt8) (ha : Bool) : (parse3 neg wh ce ha).2 ≠ 0 ∧ (parse3 neg wh ce ha).1 = 0 ∨
    (c1 wh = false ∧ c2 ha ce = false ∧ c3 neg wh ha = false ∧ ¬ 14 < wh.length ∧ chk (if neg = true then -cents wh ha ce else cents wh ha ce) = 0 ∧ parse3 neg wh ce ha = ((if neg = true then -cents wh ha ce else cents wh ha ce), 0)) := by
  unfold parse3
  by_cases h1 : c1 wh = true
  · rw [if_pos h1]; exact .inl ⟨by decide, rfl⟩
  rw [if_neg h1]
  by_cases h2 : c2 ha ce = true
  · rw [if_pos h2]; exact .inl ⟨by decide, rfl⟩
  rw [if_neg h2]
  by_cases h3 : c3 neg wh ha = true
  · rw [if_pos h3]; exact .inl ⟨by decide, rfl⟩
  rw [if_neg h3]
  by_cases h4 : 14 < wh.length
  · rw [if_pos h4]; exact .inl ⟨by decide, rfl⟩
  rw [if_neg h4]
  by_cases h5 : chk (if neg = true then -cents wh ha ce else cents wh ha ce) = 0
  · rw [if_pos h5]
    exact .inr ⟨by simpa using h1, by simpa using h2, by simpa using h3, h4, h5, rfl⟩
  · rw [if_neg h5]; exact .inl ⟨by decide, rfl⟩
theorem parse_err (l : List UInt8) (h : (parse l).2 ≠ 0) : (parse l).1 = 0 := by
  unfold parse at h ⊢
  rcases parse3_inv (hasPrefix l [45]) (cutDot (trimPrefix l [45])).1 (cutDot (trimPrefix l [45])).2.1 (cutDot (trimPrefix l [45])).2.2 with ⟨_, h2⟩ | ⟨_, _, _, _, _, h2⟩
  · exact h2
  · rw [h2] at h; exact absurd rfl h
theorem print_parse (l : List UInt8) (h : (parse l).2 = 0) : print (parse l).1 = (l, 0) := by
  have hpb := prefix_back l
  obtain ⟨cb, _, _⟩ := cutDot_back (trimPrefix l [45])
  unfold parse at h ⊢
  generalize hasPrefix l [45] = neg at *
  generalize trimPrefix l [45] = body at *
  rcases parse3_inv neg (cutDot body).1 (cutDot body).2.1 (cutDot body).2.2 with ⟨h1, _⟩ | ⟨h1, h2, h3, h4, h5, h6⟩
  · exact absurd h h1
  rw [h6]
  generalize (cutDot body).1 = wh at *
  generalize (cutDot body).2.1 = ce at *
  generalize (cutDot body).2.2 = ha at *
  have cn := (c1_canon wh).1 h1
  have hdd := dd_val _ wh rfl cn
  clear h h6
  -- the cents
  obtain ⟨c, hc, hfr, hct⟩ : ∃ c, c < 100 ∧ frac c (c / 10) (c % 10) = (if ha = true then 46 :: ce else []) ∧ cents wh ha ce = (val 0 wh : Int) * 100 + c := by
    cases ha with
    | false => exact ⟨0, by omega, rfl, by unfold cents; simp⟩
    | true =>
      unfold c2 at h2
      simp only [Bool.true_and, Bool.or_eq_false_iff] at h2
      obtain ⟨⟨g1, g2⟩, g3⟩ := h2
      have g1' : ce.length = 2 := by simpa using g1
      match ce, g1' with
      | [x, y], _ =>
        have g4 : digB [x, y] = true := by simpa using g2
        have g5 := ((digB_iff _).1 g4).2
        have gx := g5 x (by simp)
        have gy := g5 y (by simp)
        have lx := dg_lt x gx
        have ly := dg_lt y gy
        have ex := dc_dg x gx
        have ey := dc_dg y gy
        have hne : dg x * 10 + dg y ≠ 0 := fun e => by
          have z1 : dg x = 0 := by omega
          have z2 : dg y = 0 := by omega
          rw [z1] at ex
          rw [z2] at ey
          have : ([x, y] == [48, 48]) = true := by rw [← ex, ← ey]; decide
          rw [this] at g3
          cases g3
        refine ⟨dg x * 10 + dg y, by omega, ?_, ?_⟩
        · unfold frac
          rw [if_neg hne, if_pos rfl, show (dg x * 10 + dg y) / 10 = dg x by omega, show (dg x * 10 + dg y) % 10 = dg y by omega, dc_eq, dc_eq, ex, ey]
        · unfold cents
          simp
  have hna : (if neg = true then -cents wh ha ce else cents wh ha ce).natAbs = val 0 wh * 100 + c := by
    rw [hct]; split <;> omega
  have hsg : decide ((if neg = true then -cents wh ha ce else cents wh ha ce) < 0) = neg := by
    cases neg with
    | false => simp only [Bool.false_eq_true, if_false]; rw [hct]; exact decide_eq_false (by omega)
    | true =>
      simp only [if_true]
      rw [hct]
      refine decide_eq_true ?_
      -- not 0: it would be '-0'
      rcases Nat.eq_zero_or_pos (val 0 wh * 100 + c) with z | z
      · exfalso
        have c0 : c = 0 := by omega
        have v0 : val 0 wh = 0 := by omega
        have hwh : wh = [48] := by rw [← hdd, v0]; rw [decDigits_one (by omega)]; rfl
        cases ha with
        | false => unfold c3 at h3; rw [hwh] at h3; simp at h3
        | true =>
          rw [c0] at hfr
          simp [frac] at hfr
      · omega
  unfold print
  rw [if_pos h5, hna, hsg]
  unfold text
  rw [show (val 0 wh * 100 + c) / 100 = val 0 wh by omega, show (val 0 wh * 100 + c) % 100 = c by omega, hdd, hfr, List.append_assoc, ← cb, ← hpb]
end Mo
end Go.Proofs.YtgkliaalfiginaaGreatDoor
