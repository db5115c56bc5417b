import Derived.Test.YtgkliaalfiginaaGreatDoorMonQ1
import Derived.Maps.OwnSet
import Derived.Maps.OwnOps
import Derived.Test.YtgkliaalfiginaaGreatDoorShelf
import Derived.Deep.RegionWith
namespace Go.Proofs.YtgkliaalfiginaaGreatDoor
open Go.RowKit Go.Lib
set_option linter.unusedVariables false
set_option linter.unusedSimpArgs false

theorem wpList_insert_in {H : Type} {P : Program} {ops : Array Oper} {rest : List Oper} {o : Oper} {a : Act} {w : World} {Q : Exit → Act → World → Prop} (hg : o.guard = none) (m x v : Operand) (t : TypeId) (hop : o.op = Op.insert t m x v)
    (k e : TypeId) (K : Maps.Keyed P k) (ht : P.underlying t = some (.map k e)) (R : Value → Option (DataW H × List MemPlace)) (b n : Nat) (D : DataW H)
    (hm : a.eval m = .map (some b)) (hown : w.ownsMap P k R b n D) (hn : n < maxLen) (key val : Value) (kl : Lit) (hx : a.eval x = key) (hv : a.eval v = val) (hkey : keyOf P k key = some kl)
    (d : DataW H) (ps : List MemPlace) (hval : R val = some (d, ps))
    (hK : ∀ w', w'.ownsMap P k R b (n + 1) (D.put kl d) → w.mapTurned w' b → wpList P ops Q rest (a.put o.dst undef) w') :
    wpList P ops Q (o :: rest) a w := by
  refine wpList_plain hg fun K' hK' => ?_
  obtain ⟨w', hrun, r1, r2⟩ := hown.store K ht hn hkey hval
  unfold Oper.wp
  simp [execOp, hop, hm, hx, hv, hrun, Result.andThen]
  exact hK' _ _ (hK w' r1 r2)

namespace Mo
/-- a function's value, read as its number -/
def funR : Value → Option (DataW Unit × List MemPlace)
  | .func (.func f) x y => if x.size = 0 ∧ y.size = 0 then some (.lit (.int .i64 f), []) else none
  | .nilFunc => some (.nil, [])
  | _ => none
/-- the table of roundings, as data -/
def waysD : DataW Unit := (((((((DataW.map []).put (.int .i64 1) (.lit (.int .i64 82))).put (.int .i64 2) (.lit (.int .i64 83))).put (.int .i64 3) (.lit (.int .i64 84))).put (.int .i64 4) (.lit (.int .i64 85))).put (.int .i64 5) (.lit (.int .i64 86))).put (.int .i64 6) (.lit (.int .i64 87)))
end Mo
theorem lawR : Maps.Keyed Tryz.prog 62 := Maps.int_keyed Tryz.underlying62
theorem keyR (n : Int) (h : (Lit.int .i64 n).wf = true) : keyOf Tryz.prog 62 (.int .i64 n) = some (.int .i64 n) := Maps.keyOf_int_mk Tryz.underlying62 h

set_option maxHeartbeats 1000000 in
set_option maxRecDepth 100000 in
theorem ways_calls (w : World) : Calls Tryz.prog 47 #[] w fun e w' => e = .returned (.map (some w.heap.size)) ∧ w'.ownsMap (H := Unit) Tryz.prog 62 Mo.funR w.heap.size 6 Mo.waysD ∧ Below w.heap.size w w' := by
  have hmm := @run_makeMap Tryz.prog
  have K1 := keyR 1 (by decide)
  have K2 := keyR 2 (by decide)
  have K3 := keyR 3 (by decide)
  have K4 := keyR 4 (by decide)
  have K5 := keyR 5 (by decide)
  have K6 := keyR 6 (by decide)
  have h0 := Lib.hid (World.ownsMap_made (H := Unit) w Tryz.prog 62 Mo.funR)
  have b0 := Lib.hid ((Keep.refl (fun i => i = w.heap.size) w).alloc (.map #[] 0))
  go_enter Tryz.func47, Tryz.ntmps47
  go_wp2_with (first
    | (refine wpList_insert_in rfl _ _ _ 88 rfl 62 86 lawR Tryz.underlying88 Mo.funR w.heap.size 0 _ rfl h0.out (by decide) _ _ _ rfl rfl K1 _ [] rfl ?_; intro w1 hw1 ht1; have h1 := Lib.hid hw1; have b1 := Lib.hid (b0.out.grown ht1.grown (fun k e _ => (Option.some.inj e).symm)); clear h0 b0 hw1 ht1)
    | (refine wpList_insert_in rfl _ _ _ 88 rfl 62 86 lawR Tryz.underlying88 Mo.funR w.heap.size 1 _ rfl h1.out (by decide) _ _ _ rfl rfl K2 _ [] rfl ?_; intro w2 hw2 ht2; have h2 := Lib.hid hw2; have b2 := Lib.hid (b1.out.grown ht2.grown (fun k e _ => (Option.some.inj e).symm)); clear h1 b1 hw2 ht2)
    | (refine wpList_insert_in rfl _ _ _ 88 rfl 62 86 lawR Tryz.underlying88 Mo.funR w.heap.size 2 _ rfl h2.out (by decide) _ _ _ rfl rfl K3 _ [] rfl ?_; intro w3 hw3 ht3; have h3 := Lib.hid hw3; have b3 := Lib.hid (b2.out.grown ht3.grown (fun k e _ => (Option.some.inj e).symm)); clear h2 b2 hw3 ht3)
    | (refine wpList_insert_in rfl _ _ _ 88 rfl 62 86 lawR Tryz.underlying88 Mo.funR w.heap.size 3 _ rfl h3.out (by decide) _ _ _ rfl rfl K4 _ [] rfl ?_; intro w4 hw4 ht4; have h4 := Lib.hid hw4; have b4 := Lib.hid (b3.out.grown ht4.grown (fun k e _ => (Option.some.inj e).symm)); clear h3 b3 hw4 ht4)
    | (refine wpList_insert_in rfl _ _ _ 88 rfl 62 86 lawR Tryz.underlying88 Mo.funR w.heap.size 4 _ rfl h4.out (by decide) _ _ _ rfl rfl K5 _ [] rfl ?_; intro w5 hw5 ht5; have h5 := Lib.hid hw5; have b5 := Lib.hid (b4.out.grown ht5.grown (fun k e _ => (Option.some.inj e).symm)); clear h4 b4 hw5 ht5)
    | (refine wpList_insert_in rfl _ _ _ 88 rfl 62 86 lawR Tryz.underlying88 Mo.funR w.heap.size 5 _ rfl h5.out (by decide) _ _ _ rfl rfl K6 _ [] rfl ?_; intro w6 hw6 ht6; have h6 := Lib.hid hw6; have b6 := Lib.hid (b5.out.grown ht6.grown (fun k e _ => (Option.some.inj e).symm)); clear h5 b5 hw6 ht6))
  go_ret
  refine ⟨rfl, h6.out, ?_⟩
  exact b6.out.toBelow (Nat.le_refl _) (fun i hi => by omega)
end Go.Proofs.YtgkliaalfiginaaGreatDoor
namespace Go.Proofs.YtgkliaalfiginaaGreatDoor
open Go.RowKit Go.Lib
set_option linter.unusedVariables false
set_option linter.unusedSimpArgs false

namespace Mo
def inc (n : Nat) : Nat := (n + 1) % 18446744073709551616
def upN (n rest : Nat) : Nat := if rest = 0 then n else inc n
def halfN (n rest den : Nat) : Nat := if den ≤ 2 * rest then inc n else n
def evenN (n rest den : Nat) : Nat := if den = 2 * rest then (n + n % 2) % 18446744073709551616 else halfN n rest den
/-- a quotient's value -/
def Q (n rest den : Nat) (neg : Bool) : Value := .agg #[.int .u64 n, .int .u64 rest, .int .u64 den, .bool neg]
def Qc (n rest den : Nat) (neg : Bool) : Array Value := #[.int .u64 n, .int .u64 rest, .int .u64 den, .bool neg]
end Mo
/-- the boxed quotient's cells -/
structure QBox (w w1 : World) (n rest den : Nat) (neg : Bool) : Prop where
  x0 : w1.cell? ⟨w.heap.size, 0, none⟩ = some (.int .u64 n)
  x1 : w1.cell? ⟨w.heap.size, 1, none⟩ = some (.int .u64 rest)
  x2 : w1.cell? ⟨w.heap.size, 2, none⟩ = some (.int .u64 den)
  x3 : w1.cell? ⟨w.heap.size, 3, none⟩ = some (.bool neg)
  b : Below w.heap.size w w1
theorem qbox (w : World) (n rest den : Nat) (neg : Bool) : QBox w (w.alloc (.cells #[.int .u64 n, .int .u64 rest, .int .u64 den, .bool neg] 92)) n rest den neg :=
  ⟨blk_cell (heap_alloc_new w _) 0 rfl, blk_cell (heap_alloc_new w _) 1 rfl, blk_cell (heap_alloc_new w _) 2 rfl, blk_cell (heap_alloc_new w _) 3 rfl, (Below.refl _ w).alloc (Nat.le_refl _) _⟩

section
variable (n rest den : Nat) (neg : Bool) (w : World)
theorem down_calls : Calls Tryz.prog 82 #[.agg #[.int .u64 n, .int .u64 rest, .int .u64 den, .bool neg]] w fun e w' => e = .returned (.int .u64 n) ∧ Below w.heap.size w w' := by
  obtain ⟨x0, x1, x2, x3, b⟩ := qbox w n rest den neg
  have HB := Lib.hid b
  clear b
  go_enter Tryz.func82, Tryz.ntmps82
  go_wp2
  go_ret
  exact ⟨rfl, HB.out⟩
theorem up_calls : Calls Tryz.prog 83 #[.agg #[.int .u64 n, .int .u64 rest, .int .u64 den, .bool neg]] w fun e w' => e = .returned (.int .u64 (Mo.upN n rest)) ∧ Below w.heap.size w w' := by
  obtain ⟨x0, x1, x2, x3, b⟩ := qbox w n rest den neg
  have HB := Lib.hid b
  clear b
  unfold Mo.upN
  by_cases h : rest = 0
  · have d1 : ((rest : Int) != 0) = false := by rw [h]; rfl
    have d2 : (rest != 0) = false := by rw [h]; rfl
    rw [if_pos h]
    clear h
    go_enter Tryz.func83, Tryz.ntmps83
    go_wp2
    go_ret
    exact ⟨rfl, HB.out⟩
  · have d1 : ((rest : Int) != 0) = true := by simpa using fun e => h (by omega)
    have d2 : (rest != 0) = true := by simpa using h
    rw [if_neg h]
    have e1 : IntKind.u64.wrap ((n : Int) + 1) = (Mo.inc n : Int) := by rw [IntKind.wrap_u64]; unfold Mo.inc; omega
    clear h
    go_enter Tryz.func83, Tryz.ntmps83
    go_wp2
    go_ret
    exact ⟨rfl, HB.out⟩
theorem floor_calls : Calls Tryz.prog 84 #[.agg #[.int .u64 n, .int .u64 rest, .int .u64 den, .bool neg]] w fun e w' => e = .returned (.int .u64 ((if neg = true then Mo.upN n rest else n : Nat) : Int)) ∧ Below w.heap.size w w' := by
  obtain ⟨x0, x1, x2, x3, b⟩ := qbox w n rest den neg
  have HB := Lib.hid b
  have hU := Lib.hid (fun w => up_calls n rest den neg w)
  clear b
  cases neg
  all_goals
    simp only [Bool.false_eq_true, if_false, if_true]
    go_enter Tryz.func84, Tryz.ntmps84
    go_wp2_with (first | (go_at_call 83; refine (hU.out _).mono ?_; rintro e w2 ⟨rfl, hb2⟩))
    go_ret
    first | exact ⟨rfl, HB.out⟩ | exact ⟨rfl, HB.out.trans (hb2.mono HB.out.size)⟩
theorem ceil_calls : Calls Tryz.prog 85 #[.agg #[.int .u64 n, .int .u64 rest, .int .u64 den, .bool neg]] w fun e w' => e = .returned (.int .u64 ((if neg = true then n else Mo.upN n rest : Nat) : Int)) ∧ Below w.heap.size w w' := by
  obtain ⟨x0, x1, x2, x3, b⟩ := qbox w n rest den neg
  have HB := Lib.hid b
  have hU := Lib.hid (fun w => up_calls n rest den neg w)
  clear b
  cases neg
  all_goals
    simp only [Bool.false_eq_true, if_false, if_true]
    go_enter Tryz.func85, Tryz.ntmps85
    go_wp2_with (first | (go_at_call 83; refine (hU.out _).mono ?_; rintro e w2 ⟨rfl, hb2⟩))
    go_ret
    first | exact ⟨rfl, HB.out⟩ | exact ⟨rfl, HB.out.trans (hb2.mono HB.out.size)⟩
variable (hr : rest < den) (hd : den < 9223372036854775808)
include hr hd
theorem half_calls : Calls Tryz.prog 86 #[.agg #[.int .u64 n, .int .u64 rest, .int .u64 den, .bool neg]] w fun e w' => e = .returned (.int .u64 (Mo.halfN n rest den)) ∧ Below w.heap.size w w' := by
  obtain ⟨x0, x1, x2, x3, b⟩ := qbox w n rest den neg
  have HB := Lib.hid b
  have e0 : IntKind.u64.wrap ((den : Int) - (rest : Int)) = (den : Int) - (rest : Int) := by rw [IntKind.wrap_u64]; omega
  have e1 : IntKind.u64.wrap ((n : Int) + 1) = (Mo.inc n : Int) := by rw [IntKind.wrap_u64]; unfold Mo.inc; omega
  clear b
  unfold Mo.halfN
  by_cases h : den ≤ 2 * rest
  · have d1 : decide ((den : Int) - (rest : Int) ≤ (rest : Int)) = true := decide_eq_true (by omega)
    rw [if_pos h]
    clear h
    go_enter Tryz.func86, Tryz.ntmps86
    go_wp2
    go_ret
    exact ⟨rfl, HB.out⟩
  · have d1 : decide ((den : Int) - (rest : Int) ≤ (rest : Int)) = false := decide_eq_false (by omega)
    rw [if_neg h]
    clear h
    go_enter Tryz.func86, Tryz.ntmps86
    go_wp2
    go_ret
    exact ⟨rfl, HB.out⟩
theorem even_calls : Calls Tryz.prog 87 #[.agg #[.int .u64 n, .int .u64 rest, .int .u64 den, .bool neg]] w fun e w' => e = .returned (.int .u64 (Mo.evenN n rest den)) ∧ Below w.heap.size w w' := by
  obtain ⟨x0, x1, x2, x3, b⟩ := qbox w n rest den neg
  have HB := Lib.hid b
  have hH := Lib.hid (fun w => half_calls n rest den neg w hr hd)
  have e0 : IntKind.u64.wrap ((den : Int) - (rest : Int)) = (den : Int) - (rest : Int) := by rw [IntKind.wrap_u64]; omega
  clear b
  unfold Mo.evenN
  by_cases h : den = 2 * rest
  · have d1 : ((rest : Int) == (den : Int) - (rest : Int)) = true := by simp; omega
    have e1 : (n : Int).tmod 2 = ((n % 2 : Nat) : Int) := by rw [Int.tmod_eq_emod_of_nonneg (by omega)]; omega
    have e2 : IntKind.u64.wrap ((n : Int) + ((n % 2 : Nat) : Int)) = (((n + n % 2) % 18446744073709551616 : Nat) : Int) := by rw [IntKind.wrap_u64]; omega
    have e3 : IntKind.u64.wrap ((n % 2 : Nat) : Int) = ((n % 2 : Nat) : Int) := by rw [IntKind.wrap_u64]; omega
    rw [if_pos h]
    generalize (n + n % 2) % 18446744073709551616 = z at *
    generalize n % 2 = y at *
    clear h
    go_enter Tryz.func87, Tryz.ntmps87
    go_wp2
    go_ret
    exact ⟨rfl, HB.out⟩
  · have d1 : ((rest : Int) == (den : Int) - (rest : Int)) = false := by simp; omega
    rw [if_neg h]
    clear h
    go_enter Tryz.func87, Tryz.ntmps87
    go_wp2_with (first | (go_at_call 86; refine (hH.out _).mono ?_; rintro e w2 ⟨rfl, hb2⟩))
    go_ret
    exact ⟨rfl, HB.out.trans (hb2.mono HB.out.size)⟩
end
end Go.Proofs.YtgkliaalfiginaaGreatDoor
namespace Go.Proofs.YtgkliaalfiginaaGreatDoor
open Go.RowKit Go.Lib
set_option linter.unusedVariables false
set_option linter.unusedSimpArgs false

set_option maxHeartbeats 1000000 in
set_option maxRecDepth 100000 in
theorem div64_lo (lo y : Nat) (hy : 0 < y) (hlo : lo < 18446744073709551616) (w : World) :
    Calls Tryz.prog 14 #[.int .u64 0, .int .u64 lo, .int .u64 y] w fun e w' => e = .returned (.tuple #[.int .u64 ((lo / y : Nat) : Int), .int .u64 ((lo % y : Nat) : Int)]) ∧ ∃ n, w' = w.drewN n := by
  have d1 : ((y : Int) == 0) = false := by simp; omega
  have d2 : decide ((y : Int) ≤ 0) = false := decide_eq_false (by omega)
  have d3 : ¬ (y : Int) = 0 := by omega
  have e1 : (lo : Int).tdiv (y : Int) = ((lo / y : Nat) : Int) := by rw [Int.tdiv_eq_ediv_of_nonneg (by omega)]; omega
  have e2 : (lo : Int).tmod (y : Int) = ((lo % y : Nat) : Int) := by rw [Int.tmod_eq_emod_of_nonneg (by omega)]; omega
  have a1 : lo / y < 18446744073709551616 := Nat.lt_of_le_of_lt (Nat.div_le_self _ _) hlo
  have a2 : lo % y < 18446744073709551616 := Nat.lt_of_le_of_lt (Nat.mod_le _ _) hlo
  generalize lo / y = a at *
  generalize lo % y = b at *
  have a3 : IntKind.u64.wrap (a : Int) = a := by rw [IntKind.wrap_u64]; omega
  have a4 : IntKind.u64.wrap (b : Int) = b := by rw [IntKind.wrap_u64]; omega
  clear a1 a2 hlo
  go_enter Tryz.func14, Tryz.ntmps14
  go_wp2
  go_quiet (fail)
  go_wp2
  go_ret2
  exact ⟨rfl, _, rfl⟩

namespace Mo
theorem funR_inv {v : Value} {f : Nat} {ps : List MemPlace} (h : funR v = some (.lit (.int .i64 f), ps)) : v = .func (.func f) #[] #[] := by
  unfold funR at h
  split at h
  · rename_i g x y
    split at h
    · rename_i hxy
      injection h with h
      injection h with h _
      injection h with h
      injection h with _ h
      rw [Array.eq_empty_of_size_eq_zero hxy.1, Array.eq_empty_of_size_eq_zero hxy.2, Int.natCast_inj.1 h]
    · cases h
  · injection h with h; injection h with h _; cases h
  · cases h
def wayF (r : Nat) : Nat := match r with | 1 => 82 | 2 => 83 | 3 => 84 | 4 => 85 | 5 => 86 | _ => 87
def wayN (r : Nat) (neg : Bool) (n rest den : Nat) : Nat := match r with | 1 => n | 2 => upN n rest | 3 => if neg = true then upN n rest else n | 4 => if neg = true then n else upN n rest | 5 => halfN n rest den | _ => evenN n rest den
theorem ways_at (r : Nat) (h1 : 1 ≤ r) (h2 : r ≤ 6) : waysD.atKey (.int .i64 r) .nil = .lit (.int .i64 (wayF r)) ∧ Maps.has waysD (.int .i64 r) = true := by
  have : r = 1 ∨ r = 2 ∨ r = 3 ∨ r = 4 ∨ r = 5 ∨ r = 6 := by omega
  rcases this with rfl | rfl | rfl | rfl | rfl | rfl <;> exact ⟨by kernel_rfl, by kernel_rfl⟩
end Mo
theorem way_calls (r : Nat) (h1 : 1 ≤ r) (h2 : r ≤ 6) (n rest den : Nat) (neg : Bool) (w : World) (hr : rest < den) (hd : den < 9223372036854775808) :
    Calls Tryz.prog (Mo.wayF r) #[.agg #[.int .u64 n, .int .u64 rest, .int .u64 den, .bool neg]] w fun e w' => e = .returned (.int .u64 (Mo.wayN r neg n rest den)) ∧ Below w.heap.size w w' := by
  have : r = 1 ∨ r = 2 ∨ r = 3 ∨ r = 4 ∨ r = 5 ∨ r = 6 := by omega
  rcases this with rfl | rfl | rfl | rfl | rfl | rfl
  · exact down_calls n rest den neg w
  · exact up_calls n rest den neg w
  · exact floor_calls n rest den neg w
  · exact ceil_calls n rest den neg w
  · exact half_calls n rest den neg w hr hd
  · exact even_calls n rest den neg w hr hd
end Go.Proofs.YtgkliaalfiginaaGreatDoor
