import Derived.Below
import Derived.OwnWalk
import Derived.Maps.OwnSet
import Derived.Maps.OwnOps
import Derived.Deep.Draws
import Derived.StillTailTactics
import Derived.Test.YtpcmhlbhepickaaGreatProg
import Derived.WideLaws
import Derived.Lib.Hide
import Derived.WalkSpells
import Derived.WalkLawsBesides
import Derived.Deep.QuietTactic
import Derived.WalkKit
import Derived.BigQuiet
import Derived.Test.YtpcmhlbhepickaaGreatShelf
import Derived.Lib.AsciiSet
import Derived.Lib.TrimByte
import Derived.Lib.Strings
import Derived.Lib.Walk
import Derived.Deep.WholeRow
import Derived.Lib.Builder
import Derived.Laws.Strings3
import Derived.RegionTactic
import Derived.Deep.RegionWith
import Derived.Lib.Bytealg
import Derived.Lib.ParseIntB
import Derived.Deep.DeepCutAuto
import Derived.Deep.Cut
import Derived.Lib.SmallJoins
import Derived.Lib.ItoaNum
import Derived.Laws.IdiomStrings
import Derived.Lib.ItoaLen
import Derived.Shelf.Abstract
import Derived.Laws.Bits64b
import Derived.Deep.CutBlock
namespace Go.Proofs.YtpcmhlbhepickaaGreat
open Go.RowKit

/-- Of the blocks that were there, all but those of F are as they were. -/
structure Keep (F : Nat → Prop) (w w' : World) : Prop where
  os : w'.os = w.os
  tape : w'.tape = w.tape
  output : w'.output = w.output
  size : w.heap.size ≤ w'.heap.size
  block : ∀ i, i < w.heap.size → ¬ F i → w'.heap[i]? = w.heap[i]?
namespace Keep
variable {F G : Nat → Prop} {w w1 w2 : World}
theorem refl (F : Nat → Prop) (w : World) : Keep F w w := ⟨rfl, rfl, rfl, Nat.le_refl _, fun _ _ _ => rfl⟩
theorem mono (h : Keep F w w1) (hf : ∀ i, i < w.heap.size → F i → G i) : Keep G w w1 := ⟨h.os, h.tape, h.output, h.size, fun i hi hg => h.block i hi (fun x => hg (hf i hi x))⟩
theorem trans (h : Keep F w w1) (k : Keep G w1 w2) (hg : ∀ i, i < w.heap.size → G i → F i) : Keep F w w2 :=
  ⟨k.os.trans h.os, k.tape.trans h.tape, k.output.trans h.output, Nat.le_trans h.size k.size, fun i hi hn => (k.block i (Nat.lt_of_lt_of_le hi h.size) (fun x => hn (hg i hi x))).trans (h.block i hi hn)⟩
theorem drew (h : Keep F w w1) : Keep F w w1.drew := ⟨h.os, h.tape, h.output, h.size, h.block⟩
theorem drewN (h : Keep F w w1) (n : Nat) : Keep F w (w1.drewN n) := ⟨h.os, h.tape, h.output, h.size, h.block⟩
theorem alloc (h : Keep F w w1) (o : Obj) : Keep F w (w1.alloc o) :=
  ⟨h.os, h.tape, h.output, Nat.le_trans h.size (by simp), fun i hi hn => (Below.heap_alloc _ _ _ (Nat.lt_of_lt_of_le hi h.size)).trans (h.block i hi hn)⟩
theorem setCell (h : Keep F w w1) {p : Addr} (hp : p.block < w.heap.size → F p.block) (u : Value) : Keep F w (w1.setCell p u) :=
  ⟨h.os, h.tape, h.output, Nat.le_trans h.size (by simp [World.setCell]), fun i hi hn => (Below.heap_setCell _ _ _ _ (fun e => by subst e; exact hn (hp hi))).trans (h.block i hi hn)⟩
theorem below (h : Keep F w w1) (hb : Below w1.heap.size w1 w2) : Keep F w w2 :=
  ⟨hb.os.trans h.os, hb.tape.trans h.tape, hb.output.trans h.output, Nat.le_trans h.size hb.size, fun i hi hn => (hb.block i (Nat.lt_of_lt_of_le hi h.size)).trans (h.block i hi hn)⟩
theorem of_below (hb : Below w.heap.size w w1) : Keep F w w1 := (Keep.refl F w).below hb
theorem grown {row : Option Nat} (h : Keep F w w1) (hg : w1.grownBy w2 row) (hr : ∀ k, row = some k → k < w.heap.size → F k) : Keep F w w2 :=
  ⟨hg.os.trans h.os, hg.tape.trans h.tape, hg.output.trans h.output, Nat.le_trans h.size hg.size, fun i hi hn => (hg.block i (Nat.lt_of_lt_of_le hi h.size) (fun e => hn (hr i e.symm hi))).trans (h.block i hi hn)⟩
theorem toBelow (h : Keep F w w1) {B : Nat} (hB : B ≤ w.heap.size) (hf : ∀ i, F i → B ≤ i) : Below B w w1 :=
  ⟨h.os, h.tape, h.output, h.size, fun k hk => h.block k (Nat.lt_of_lt_of_le hk hB) (fun x => absurd (hf k x) (by omega))⟩
theorem blk (h : Keep F w w1) {i : Nat} {o : Obj} (hi : w.heap[i]? = some o) (hn : ¬ F i) : w1.heap[i]? = some o :=
  (h.block i (Array.getElem?_eq_some_iff.1 hi).1 hn).trans hi
theorem cell (h : Keep F w w1) {a : Addr} {v : Value} (hc : w.cell? a = some v) (hn : ¬ F a.block) : w1.cell? a = some v :=
  (World.cell?_of_block (w := w) (h.block a.block (World.block_lt_of_cell? w a hc) hn)).trans hc
theorem row {base : Nat} {e : TypeId} {size : Nat} {v : Value} {n : Nat} {xs : List Value} (h : Keep F w w1) (ho : w.ownsRow base e size v n xs) (hn : ∀ k, v.ownBlock = some k → ¬ F k) : w1.ownsRow base e size v n xs := by
  obtain ⟨h1, h2⟩ := ho
  refine ⟨h1, ?_⟩
  rcases h2 with h2 | ⟨g, cap, cur, rfl, hg, hh, r⟩
  · exact Or.inl h2
  · exact Or.inr ⟨g, cap, cur, rfl, hg, h.blk hh (hn g rfl), r⟩
theorem map {H : Type} {P : Program} {k : TypeId} {R : Value → Option (DataW H × List MemPlace)} {b n : Nat} {D : DataW H} (h : Keep F w w1) (ho : w.ownsMap P k R b n D) (hn : ¬ F b) : w1.ownsMap P k R b n D := by
  obtain ⟨es, clock, hb, r⟩ := ho
  exact ⟨es, clock, h.blk hb hn, r⟩
end Keep

theorem blk_cell {w : World} {b : Nat} {vs : Array Value} {t : TypeId} {f : Nat × Nat} (h : w.heap[b]? = some (.cells vs t f)) (j : Nat) {v : Value} (hv : vs[j]? = some v) : w.cell? ⟨b, j, none⟩ = some v := by
  simp [World.cell?, h, hv]
theorem blk_free {w : World} {b : Nat} {vs : Array Value} {t : TypeId} (h : w.heap[b]? = some (.cells vs t (0, 0))) (j : Nat) : w.frozen? ⟨b, j, none⟩ = false := by
  simp [World.frozen?, h]
theorem heap_setCell_same {w : World} {b : Nat} {vs : Array Value} {t : TypeId} {f : Nat × Nat} (h : w.heap[b]? = some (.cells vs t f)) (j : Nat) (v : Value) :
    (w.setCell ⟨b, j, none⟩ v).heap[b]? = some (.cells (vs.setIfInBounds j v) t f) := by
  simp [World.setCell, Array.getElem?_modify, h]
theorem heap_alloc_new (w : World) (o : Obj) : (w.alloc o).heap[w.heap.size]? = some o := by
  show (w.heap.push o)[w.heap.size]? = _
  simp
theorem blk_lt {w : World} {b : Nat} {o : Obj} (h : w.heap[b]? = some o) : b < w.heap.size := (Array.getElem?_eq_some_iff.1 h).1
end Go.Proofs.YtpcmhlbhepickaaGreat
namespace Go.Proofs.YtpcmhlbhepickaaGreat
open Go.RowKit Go.Lib
set_option linter.unusedVariables false
set_option linter.unusedSimpArgs false

def Mo.Most : Int := 1000000000000000
/-- how 'Check' answers -/
def Mo.chk (m : Int) : Int := if m < -1000000000000000 ∨ 1000000000000000 < m then 22 else 0

theorem check_calls (m : Int) (w : World) : Calls Tryz.prog 16 #[.int .i64 m] w fun e w' => e = .returned (.int .i64 (Mo.chk m)) ∧ w = w' := by
  unfold Mo.chk
  by_cases h1 : m < -1000000000000000
  · have d1 : decide (m < -1000000000000000) = true := decide_eq_true h1
    rw [if_pos (.inl h1)]
    go_enter Tryz.func16, Tryz.ntmps16
    go_wp2
    go_ret
    exact ⟨rfl, rfl⟩
  · have d1 : decide (m < -1000000000000000) = false := decide_eq_false h1
    by_cases h2 : 1000000000000000 < m
    · have d2 : decide (1000000000000000 < m) = true := decide_eq_true h2
      rw [if_pos (.inr h2)]
      go_enter Tryz.func16, Tryz.ntmps16
      go_wp2
      go_ret
      exact ⟨rfl, rfl⟩
    · have d2 : decide (1000000000000000 < m) = false := decide_eq_false h2
      rw [if_neg (by rintro (h | h) <;> contradiction)]
      go_enter Tryz.func16, Tryz.ntmps16
      go_wp2
      go_ret
      exact ⟨rfl, rfl⟩

end Go.Proofs.YtpcmhlbhepickaaGreat
namespace Go.Proofs.YtpcmhlbhepickaaGreat
open Go.RowKit Go.Lib
set_option linter.unusedVariables false
set_option linter.unusedSimpArgs false

def Mo.tens : List UInt8 := [48, 49, 50, 51, 52, 53, 54, 55, 56, 57]
def Mo.tensS : ByteArray := ⟨#[48, 49, 50, 51, 52, 53, 54, 55, 56, 57]⟩
def Mo.digB (l : List UInt8) : Bool := !l.isEmpty && l.all (fun x => Mo.tens.contains x)
end Go.Proofs.YtpcmhlbhepickaaGreat
namespace Go.Proofs.YtpcmhlbhepickaaGreat
open Go.RowKit Go.Lib
set_option linter.unusedVariables false
set_option linter.unusedSimpArgs false

namespace Mo
/-- the text of a list of bytes -/
def S (l : List UInt8) : ByteArray := ⟨l.toArray⟩
/-- where the first point stands, or -1 -/
def cutDot (l : List UInt8) : List UInt8 × List UInt8 × Bool :=
  if Lib.indexByte l 46 < 0 then (l, [], false) else (l.take (Lib.indexByte l 46).toNat, l.drop ((Lib.indexByte l 46).toNat + 1), true)
def dg (c : UInt8) : Nat := c.toNat - 48
attribute [irreducible] dg
/-- what a list of digits spells, behind acc -/
def val (acc : Nat) : List UInt8 → Nat
  | [] => acc
  | c :: r => val (acc * 10 + dg c) r
attribute [irreducible] val
end Mo

end Go.Proofs.YtpcmhlbhepickaaGreat
namespace Go.Proofs.YtpcmhlbhepickaaGreat
open Go.RowKit Go.Lib
set_option linter.unusedVariables false
set_option linter.unusedSimpArgs false

namespace Mo
/-- a function's value, read as its number -/
def funR : Value → Option (DataW Unit × List MemPlace)
  | .func (.func f) x y => if x.size = 0 ∧ y.size = 0 then some (.lit (.int .i64 f), []) else none
  | .nilFunc => some (.nil, [])
  | _ => none
end Mo
end Go.Proofs.YtpcmhlbhepickaaGreat
namespace Go.Proofs.YtpcmhlbhepickaaGreat
open Go.RowKit Go.Lib
set_option linter.unusedVariables false
set_option linter.unusedSimpArgs false

namespace Mo
def inc (n : Nat) : Nat := (n + 1) % 18446744073709551616
def upN (n rest : Nat) : Nat := if rest = 0 then n else inc n
def halfN (n rest den : Nat) : Nat := if den ≤ 2 * rest then inc n else n
def evenN (n rest den : Nat) : Nat := if den = 2 * rest then (n + n % 2) % 18446744073709551616 else halfN n rest den
/-- a quotient's value -/
def Q (n rest den : Nat) (neg : Bool) : Value := .agg #[.int .u64 n, .int .u64 rest, .int .u64 den, .bool neg]
def Qc (n rest den : Nat) (neg : Bool) : Array Value := #[.int .u64 n, .int .u64 rest, .int .u64 den, .bool neg]
end Mo
/-- the boxed quotient's cells -/
structure QBox (w w1 : World) (n rest den : Nat) (neg : Bool) : Prop where
  x0 : w1.cell? ⟨w.heap.size, 0, none⟩ = some (.int .u64 n)
  x1 : w1.cell? ⟨w.heap.size, 1, none⟩ = some (.int .u64 rest)
  x2 : w1.cell? ⟨w.heap.size, 2, none⟩ = some (.int .u64 den)
  x3 : w1.cell? ⟨w.heap.size, 3, none⟩ = some (.bool neg)
  b : Below w.heap.size w w1
section
variable (n rest den : Nat) (neg : Bool) (w : World)
variable (hr : rest < den) (hd : den < 9223372036854775808)
include hr hd
end
end Go.Proofs.YtpcmhlbhepickaaGreat
namespace Go.Proofs.YtpcmhlbhepickaaGreat
open Go.RowKit Go.Lib
set_option linter.unusedVariables false
set_option linter.unusedSimpArgs false

set_option maxHeartbeats 1000000 in
set_option maxRecDepth 100000 in
theorem div64_lo (lo y : Nat) (hy : 0 < y) (hlo : lo < 18446744073709551616) (w : World) :
    Calls Tryz.prog 25 #[.int .u64 0, .int .u64 lo, .int .u64 y] w fun e w' => e = .returned (.tuple #[.int .u64 ((lo / y : Nat) : Int), .int .u64 ((lo % y : Nat) : Int)]) ∧ ∃ n, w' = w.drewN n := by
  have d1 : ((y : Int) == 0) = false := by simp; omega
  have d2 : decide ((y : Int) ≤ 0) = false := decide_eq_false (by omega)
  have d3 : ¬ (y : Int) = 0 := by omega
  have e1 : (lo : Int).tdiv (y : Int) = ((lo / y : Nat) : Int) := by rw [Int.tdiv_eq_ediv_of_nonneg (by omega)]; omega
  have e2 : (lo : Int).tmod (y : Int) = ((lo % y : Nat) : Int) := by rw [Int.tmod_eq_emod_of_nonneg (by omega)]; omega
  have a1 : lo / y < 18446744073709551616 := Nat.lt_of_le_of_lt (Nat.div_le_self _ _) hlo
  have a2 : lo % y < 18446744073709551616 := Nat.lt_of_le_of_lt (Nat.mod_le _ _) hlo
  generalize lo / y = a at *
  generalize lo % y = b at *
  have a3 : IntKind.u64.wrap (a : Int) = a := by rw [IntKind.wrap_u64]; omega
  have a4 : IntKind.u64.wrap (b : Int) = b := by rw [IntKind.wrap_u64]; omega
  clear a1 a2 hlo
  go_enter Tryz.func25, Tryz.ntmps25
  go_wp2
  go_quiet (fail)
  go_wp2
  go_ret2
  exact ⟨rfl, _, rfl⟩

namespace Mo
def wayN (r : Nat) (neg : Bool) (n rest den : Nat) : Nat := match r with | 1 => n | 2 => upN n rest | 3 => if neg = true then upN n rest else n | 4 => if neg = true then n else upN n rest | 5 => halfN n rest den | _ => evenN n rest den
end Mo
end Go.Proofs.YtpcmhlbhepickaaGreat
namespace Go.Proofs.YtpcmhlbhepickaaGreat
open Go.RowKit Go.Lib
set_option linter.unusedVariables false
set_option linter.unusedSimpArgs false

namespace Mo
def c1 (wh : List UInt8) : Bool := !digB wh || (decide (1 < wh.length) && (wh[0]? == some 48))
def c2 (ha : Bool) (ce : List UInt8) : Bool := ha && (ce.length != 2 || !digB ce || ce == [48, 48])
def c3 (neg : Bool) (wh : List UInt8) (ha : Bool) : Bool := neg && wh == [48] && !ha
/-- the number of cents that the text spells, without the sign -/
def cents (wh : List UInt8) (ha : Bool) (ce : List UInt8) : Int := (val 0 wh : Int) * 100 + (if ha then (dg (ce.getD 0 0) : Int) * 10 + (dg (ce.getD 1 0) : Int) else 0)
/-- how 'Parse' answers -/
def parse3 (neg : Bool) (wh ce : List UInt8) (ha : Bool) : Int × Int :=
  if c1 wh = true then (0, 21) else if c2 ha ce = true then (0, 21) else if c3 neg wh ha = true then (0, 21) else if 14 < wh.length then (0, 22)
  else if chk (if neg then -cents wh ha ce else cents wh ha ce) = 0 then ((if neg then -cents wh ha ce else cents wh ha ce), 0) else (0, 22)
def parse (l : List UInt8) : Int × Int :=
  parse3 (Lib.hasPrefix l [45]) (cutDot (Lib.trimPrefix l [45])).1 (cutDot (Lib.trimPrefix l [45])).2.1 (cutDot (Lib.trimPrefix l [45])).2.2
end Mo

theorem below_drewn {B : Nat} {w w1 : World} (h : Below B w w1) (n : Nat) : Below B w (w1.drewN n) := ⟨h.os, h.tape, h.output, h.size, h.block⟩
end Go.Proofs.YtpcmhlbhepickaaGreat
namespace Go.Proofs.YtpcmhlbhepickaaGreat
open Go.RowKit Go.Lib
set_option linter.unusedVariables false
set_option linter.unusedSimpArgs false

namespace Mo
def dc (n : Nat) : UInt8 := UInt8.ofNat (48 + n)
attribute [irreducible] dc
def frac (c i j : Nat) : List UInt8 := if c = 0 then [] else [46, dc i, dc j]
/-- how the amount's text reads: q whole, c cents -/
def text (neg : Bool) (q c : Nat) : List UInt8 := (if neg = true then [45] else []) ++ Lib.decDigits q ++ frac c (c / 10) (c % 10)
def print (m : Int) : List UInt8 × Int := if chk m = 0 then (text (decide (m < 0)) (m.natAbs / 100) (m.natAbs % 100), 0) else ([], 22)
/-- the numbers that Print comes by -/
structure Parts (a q c i j : Nat) : Prop where
  q1 : ((a : Int)).tdiv 100 = (q : Int)
  q2 : ((a : Int)).tmod 100 = (c : Int)
  e1 : (c : Int).tdiv 10 = (i : Int)
  e2 : (c : Int).tmod 10 = (j : Int)
  f1 : IntKind.i64.wrap (q : Int) = q
  f2 : IntKind.i64.wrap (c : Int) = c
  f3 : IntKind.i64.wrap (i : Int) = i
  f4 : IntKind.i64.wrap (j : Int) = j
  f5 : IntKind.u8.wrap (i : Int) = i
  f6 : IntKind.u8.wrap (j : Int) = j
  f7 : IntKind.u8.wrap (48 + (i : Int)) = 48 + (i : Int)
  f8 : IntKind.u8.wrap (48 + (j : Int)) = 48 + (j : Int)
  hi : i < 10
  hj : j < 10
theorem parts (a : Nat) (h : a ≤ 1000000000000000) : Parts a (a / 100) (a % 100) (a % 100 / 10) (a % 100 % 10) where
  q1 := by rw [Int.tdiv_eq_ediv_of_nonneg (by omega)]; omega
  q2 := by rw [Int.tmod_eq_emod_of_nonneg (by omega)]; omega
  e1 := by rw [Int.tdiv_eq_ediv_of_nonneg (by omega)]; omega
  e2 := by rw [Int.tmod_eq_emod_of_nonneg (by omega)]; omega
  f1 := IntWalk.i64_in _ (by omega)
  f2 := IntWalk.i64_in _ (by omega)
  f3 := IntWalk.i64_in _ (by omega)
  f4 := IntWalk.i64_in _ (by omega)
  f5 := by rw [IntKind.wrap_u8]; omega
  f6 := by rw [IntKind.wrap_u8]; omega
  f7 := by rw [IntKind.wrap_u8]; omega
  f8 := by rw [IntKind.wrap_u8]; omega
  hi := by omega
  hj := by omega
end Mo
theorem chk_bound (m : Int) (hk : Mo.chk m = 0) : -1000000000000000 ≤ m ∧ m ≤ 1000000000000000 := by
  unfold Mo.chk at hk
  split at hk
  · cases hk
  · omega
end Go.Proofs.YtpcmhlbhepickaaGreat
namespace Go.Proofs.YtpcmhlbhepickaaGreat
open Go.RowKit Go.Lib
set_option linter.unusedVariables false
set_option linter.unusedSimpArgs false

end Go.Proofs.YtpcmhlbhepickaaGreat
/- the plain law of an amount's one form: there and back -/
namespace Go.Proofs.YtpcmhlbhepickaaGreat
open Go.Lib
namespace Mo
/-- digits, without a 0 ahead -/
def Canon (l : List UInt8) : Prop := digB l = true ∧ (1 < l.length → l[0]? ≠ some 48)
/-! ### the first point -/
end Mo
end Go.Proofs.YtpcmhlbhepickaaGreat
/- the plain law of an amount's one form: there and back -/
namespace Go.Proofs.YtpcmhlbhepickaaGreat
open Go.Lib
namespace Mo
end Mo
end Go.Proofs.YtpcmhlbhepickaaGreat
namespace Go.Proofs.YtpcmhlbhepickaaGreat
open Go.RowKit Go.Lib
set_option linter.unusedVariables false
set_option linter.unusedSimpArgs false

namespace Mo
def sgn (m num : Int) : Bool := decide (m < 0) != decide (num < 0)
/-- how 'Scale' answers behind its tests: x the product's size -/
def scale2 (neg : Bool) (x den r : Nat) : Int × Int :=
  if den ≤ x / 18446744073709551616 then (0, 22)
  else if 1000000000000000 < wayN r neg (x / den) (x % den) den then (0, 22)
  else ((if neg = true then -(wayN r neg (x / den) (x % den) den : Int) else (wayN r neg (x / den) (x % den) den : Int)), 0)
end Mo
/-- what Div64 does at these -/
def DivOk (hi lo y : Nat) : Prop := ∀ w, Calls Tryz.prog 25 #[.int .u64 hi, .int .u64 lo, .int .u64 y] w fun e w' => e = .returned (.tuple #[.int .u64 (((hi * 18446744073709551616 + lo) / y : Nat) : Int), .int .u64 (((hi * 18446744073709551616 + lo) % y : Nat) : Int)]) ∧ ∃ n, w' = w.drewN n
end Go.Proofs.YtpcmhlbhepickaaGreat
/- the plain law of a division of 128 bits -/
namespace Go.Proofs.YtpcmhlbhepickaaGreat
namespace Mo
/-- Knuth's guess of a digit: what holds at the loop's head -/
structure Kn (v1 v0 u d q r : Nat) : Prop where
  hq : q * v1 + r = u
  hle : (u * 4294967296 + d) / (v1 * 4294967296 + v0) ≤ q
theorem kn_mul (q v1 v0 : Nat) : q * (v1 * 4294967296 + v0) = q * v1 * 4294967296 + q * v0 := by
  rw [Nat.mul_add, Nat.mul_assoc]
theorem kn_init (v1 v0 u d : Nat) (h1 : 0 < v1) (hd : d < 4294967296) : Kn v1 v0 u d (u / v1) (u % v1) where
  hq := by rw [Nat.mul_comm]; exact Nat.div_add_mod u v1
  hle := by
    have hlt : (u * 4294967296 + d) / (v1 * 4294967296 + v0) < u / v1 + 1 := by
      rw [Nat.div_lt_iff_lt_mul (by omega), kn_mul]
      have h2 : u < (u / v1 + 1) * v1 := by
        have := Nat.div_add_mod u v1
        have := Nat.mod_lt u h1
        rw [Nat.add_mul, Nat.mul_comm (u / v1)]
        omega
      omega
    omega
theorem kn_lt (v1 v0 u d : Nat) (hu : u < v1 * 4294967296 + v0) (hd : d < 4294967296) : (u * 4294967296 + d) / (v1 * 4294967296 + v0) < 4294967296 := by
  rw [Nat.div_lt_iff_lt_mul (by omega)]
  omega
/-- a round: the guess is too great -/
theorem kn_round {v1 v0 u d q r : Nat} (h : Kn v1 v0 u d q r) (hu : u < v1 * 4294967296 + v0) (hd : d < 4294967296) (hc : 4294967296 ≤ q ∨ 4294967296 * r + d < q * v0) :
    1 ≤ q ∧ Kn v1 v0 u d (q - 1) (r + v1) := by
  obtain ⟨hq, hle⟩ := h
  have hlt := kn_lt v1 v0 u d hu hd
  have hs : (u * 4294967296 + d) / (v1 * 4294967296 + v0) < q := by
    rcases hc with hc | hc
    · exact Nat.lt_of_lt_of_le hlt hc
    · rw [Nat.div_lt_iff_lt_mul (by omega), kn_mul]
      omega
  have h0 : 1 ≤ q := Nat.lt_of_le_of_lt (Nat.zero_le _) hs
  refine ⟨h0, ?_, Nat.le_sub_one_of_lt hs⟩
  obtain ⟨p, rfl⟩ : ∃ p, q = p + 1 := ⟨q - 1, by omega⟩
  rw [Nat.add_mul] at hq
  simp only [Nat.add_sub_cancel]
  omega
theorem kn_eq {v1 v0 u d q r : Nat} (h : Kn v1 v0 u d q r) (hv : 0 < v1 * 4294967296 + v0) (hc : q * v0 ≤ 4294967296 * r + d) : q = (u * 4294967296 + d) / (v1 * 4294967296 + v0) := by
  obtain ⟨hq, hle⟩ := h
  refine Nat.le_antisymm ?_ hle
  rw [Nat.le_div_iff_mul_le hv, kn_mul]
  omega
/-- the rest is too great for another test: the guess is right -/
theorem kn_break {v1 v0 u d q r : Nat} (h : Kn v1 v0 u d q r) (hu : u < v1 * 4294967296 + v0) (hv0 : v0 < 4294967296) (hr : 4294967296 ≤ r) : q = (u * 4294967296 + d) / (v1 * 4294967296 + v0) := by
  refine kn_eq h (by omega) ?_
  have hq := h.hq
  have hqb : q < 4294967296 := by
    rcases Nat.lt_or_ge q 4294967296 with h | h
    · exact h
    · have := Nat.mul_le_mul_right v1 h
      omega
  have h3 : q * v0 ≤ 4294967296 * 4294967296 := Nat.mul_le_mul (by omega) (by omega)
  omega
end Mo
namespace Mo
open Go Go.Lib
/-- a division of 128 bits by 64, both shifted until the divisor's highest bit is set -/
structure Norm (hi lo y s V v1 v0 H L N n1 n0 : Nat) : Prop where
  hV : y * 2 ^ s = V
  lt : V < 18446744073709551616
  ge : 9223372036854775808 ≤ V
  v1 : V / 4294967296 = v1
  v0 : V % 4294967296 = v0
  hH : hi * 2 ^ s = H
  hL : lo / 2 ^ (64 - s) = L
  Hlt : H + L < V
  or : H ||| L = H + L
  hN : lo * 2 ^ s % 18446744073709551616 = N
  n1 : N / 4294967296 = n1
  n0 : N % 4294967296 = n0
  key : (H + L) * 18446744073709551616 + N = (hi * 18446744073709551616 + lo) * 2 ^ s
theorem norm (hi lo y s : Nat) (hy : hi < y) (hy2 : y < 18446744073709551616) (hlo : lo < 18446744073709551616) (hs : s + Lib.bitLen y = 64) :
    Norm hi lo y s (y * 2 ^ s) (y * 2 ^ s / 4294967296) (y * 2 ^ s % 4294967296) (hi * 2 ^ s) (lo / 2 ^ (64 - s)) (lo * 2 ^ s % 18446744073709551616) (lo * 2 ^ s % 18446744073709551616 / 4294967296) (lo * 2 ^ s % 18446744073709551616 % 4294967296) := by
  have e64 : (2 : Nat) ^ 64 = 18446744073709551616 := by decide
  have e63 : (2 : Nat) ^ 63 = 9223372036854775808 := by decide
  obtain ⟨b1, b2, b3⟩ := Lib.bitLenAux_bounds 64 y (by omega) (by omega)
  have hb : Lib.bitLen y = Lib.bitLenAux 64 y := rfl
  rw [← hb] at b1 b2 b3
  have p1 : 2 ^ (Lib.bitLen y - 1) * 2 ^ s = 2 ^ 63 := by rw [← Nat.pow_add]; congr 1; omega
  have p2 : 2 ^ Lib.bitLen y * 2 ^ s = 2 ^ 64 := by rw [← Nat.pow_add]; congr 1; omega
  have h0 : 0 < 2 ^ s := Nat.two_pow_pos s
  have hge := Nat.mul_le_mul_right (2 ^ s) b2
  have hlt := Nat.mul_lt_mul_of_pos_right b3 h0
  rw [p1] at hge
  rw [p2] at hlt
  have p3 : 2 ^ (64 - s) * 2 ^ s = 2 ^ 64 := by rw [← Nat.pow_add]; congr 1; omega
  have hLe : lo / 2 ^ (64 - s) = lo * 2 ^ s / 18446744073709551616 := by
    rw [← e64, ← p3, Nat.mul_div_mul_right _ _ h0]
  have key : (hi * 2 ^ s + lo / 2 ^ (64 - s)) * 18446744073709551616 + lo * 2 ^ s % 18446744073709551616 = (hi * 18446744073709551616 + lo) * 2 ^ s := by
    rw [hLe, Nat.add_mul (hi * 18446744073709551616), Nat.mul_right_comm hi]
    have := Nat.div_add_mod (lo * 2 ^ s) 18446744073709551616
    omega
  refine ⟨rfl, by omega, by omega, rfl, rfl, rfl, rfl, ?_, ?_, rfl, rfl, rfl, key⟩
  · have h1 : (hi * 18446744073709551616 + lo) * 2 ^ s < y * 18446744073709551616 * 2 ^ s := Nat.mul_lt_mul_of_pos_right (by omega) h0
    rw [← key, Nat.mul_right_comm y] at h1
    omega
  · have hL2 : lo / 2 ^ (64 - s) < 2 ^ s := by
      rw [Nat.div_lt_iff_lt_mul (Nat.two_pow_pos _), Nat.mul_comm, p3]; omega
    have := Nat.two_pow_add_eq_or_of_lt hL2 hi
    rw [Nat.mul_comm hi, ← this]
namespace Norm
variable {hi lo y s V v1 v0 H L N n1 n0 : Nat} (h : Norm hi lo y s V v1 v0 H L N n1 n0)
include h
theorem vsum : V = v1 * 4294967296 + v0 := by have := h.v1; have := h.v0; omega
theorem nsum : N = n1 * 4294967296 + n0 := by have := h.n1; have := h.n0; omega
theorem bounds : v0 < 4294967296 ∧ 2147483648 ≤ v1 ∧ v1 < 4294967296 ∧ n1 < 4294967296 ∧ n0 < 4294967296 ∧ N < 18446744073709551616 := by
  have := h.v1; have := h.v0; have := h.n1; have := h.n0; have := h.ge; have := h.lt; have := h.hN; omega
/-- what both digits make -/
theorem fin (q1 u q0 r : Nat) (e1 : q1 * V + u = (H + L) * 4294967296 + n1) (e2 : q0 * V + r = u * 4294967296 + n0) (hr : r < V) :
    q1 * 4294967296 + q0 = (hi * 18446744073709551616 + lo) / y ∧ r / 2 ^ s = (hi * 18446744073709551616 + lo) % y := by
  have hns := h.nsum
  have hk := h.key
  have h0 : 0 < 2 ^ s := Nat.two_pow_pos s
  have hA : (hi * 18446744073709551616 + lo) * 2 ^ s = V * (q1 * 4294967296 + q0) + r := by
    rw [← hk, Nat.mul_add, Nat.mul_comm V q0, ← Nat.mul_assoc, Nat.mul_comm V q1]
    omega
  have d1 := Nat.mul_div_mul_right (hi * 18446744073709551616 + lo) y h0
  have d2 := Nat.mul_mod_mul_right (2 ^ s) (hi * 18446744073709551616 + lo) y
  rw [h.hV, hA] at d1 d2
  have hVp : 0 < V := by omega
  constructor
  · have e3 := Nat.mul_add_div hVp (q1 * 4294967296 + q0) r
    rw [Nat.div_eq_of_lt hr, Nat.add_zero] at e3
    exact e3.symm.trans d1
  · rw [Nat.mul_add_mod, Nat.mod_eq_of_lt hr] at d2
    rw [d2, Nat.mul_div_cancel _ h0]
end Norm
end Mo
end Go.Proofs.YtpcmhlbhepickaaGreat
namespace Go.Proofs.YtpcmhlbhepickaaGreat
open Go.RowKit Go.Lib
set_option linter.unusedVariables false
set_option linter.unusedSimpArgs false

theorem u64w (n : Nat) (h : n < 18446744073709551616) : IntKind.u64.wrap (n : Int) = n := by rw [IntKind.wrap_u64]; omega
theorem Mo.kn_q {v1 v0 u d q r : Nat} (h : Mo.Kn v1 v0 u d q r) (hu : u < 18446744073709551616) (h1 : 2147483648 ≤ v1) : q < 8589934592 := by
  have hq := h.hq
  rcases Nat.lt_or_ge q 8589934592 with h | h
  · exact h
  · have := Nat.mul_le_mul h h1
    omega
set_option maxHeartbeats 2000000 in
set_option maxRecDepth 100000 in
theorem div64_walk (hi lo y s V v1 v0 H L N n1 n0 Q U Q0 R : Nat) (hh : 0 < hi) (hy : hi < y) (hy2 : y < 18446744073709551616) (hlo : lo < 18446744073709551616) (hs : s + Lib.bitLen y = 64)
    (hN : Mo.Norm hi lo y s V v1 v0 H L N n1 n0) (hQ : Q = ((H + L) * 4294967296 + n1) / V) (hU : U = ((H + L) * 4294967296 + n1) % V) (hQ0 : Q0 = (U * 4294967296 + n0) / V) (hR : R = (U * 4294967296 + n0) % V) (w : World) :
    Calls Tryz.prog 25 #[.int .u64 hi, .int .u64 lo, .int .u64 y] w fun e w' => e = .returned (.tuple #[.int .u64 ((Q * 4294967296 + Q0 : Nat) : Int), .int .u64 ((R / 2 ^ s : Nat) : Int)]) ∧ w' = w := by
  have HL := Lib.hid (Tryz.bits_LeadingZeros64 (y : Int) w (by omega) (by omega))
  rw [Int.toNat_natCast, show (64 - (Lib.bitLen y : Int)) = (s : Int) by omega] at HL
  have d1 : ((y : Int) == 0) = false := by simp; omega
  have d2 : decide (y ≤ hi) = false := decide_eq_false (by omega)
  have d3 : ((hi : Int) == 0) = false := by simp; omega
  obtain ⟨b1, b2, b3, b4, b5, b6⟩ := hN.bounds
  have HB := Lib.hid hN.bounds
  have HN := Lib.hid hN
  have lt := hN.lt
  have hlt := hN.Hlt
  have q1 : IntKind.u64.wrap (s : Int) = s := u64w s (by omega)
  have q2 : IntKind.u64.wrap ((y : Int) * 2 ^ s) = (V : Int) := by
    have : (y : Int) * 2 ^ s = ((y * 2 ^ s : Nat) : Int) := by push_cast; rfl
    rw [this, hN.hV]; exact u64w V lt
  have q3 : (V : Int) / 4294967296 = (v1 : Int) := by have := hN.v1; omega
  have q4 : bits .and .u64 (V : Int) 4294967295 = (v0 : Int) := by
    have := bits_and_u64_nat V 4294967295 lt (by omega)
    rw [show ((4294967295 : Nat) : Int) = 4294967295 from rfl] at this
    rw [this, show (4294967295 : Nat) = 2 ^ 32 - 1 by decide, Nat.and_two_pow_sub_one_eq_mod]
    exact congrArg _ hN.v0
  have q5 : IntKind.u64.wrap ((hi : Int) * 2 ^ s) = (H : Int) := by
    have : (hi : Int) * 2 ^ s = ((hi * 2 ^ s : Nat) : Int) := by push_cast; rfl
    rw [this, hN.hH]; exact u64w H (by omega)
  have q6 : (lo : Int) / 2 ^ (64 - s) = (L : Int) := by
    have := hN.hL
    rw [← this]; push_cast; rfl
  have q7 : bits .or .u64 (H : Int) (L : Int) = ((H + L : Nat) : Int) := by
    rw [bits_or_u64_nat H L (by omega) (by omega), hN.or]
  have q8 : IntKind.u64.wrap ((lo : Int) * 2 ^ s) = (N : Int) := by
    have : (lo : Int) * 2 ^ s = ((lo * 2 ^ s : Nat) : Int) := by push_cast; rfl
    rw [this, IntKind.wrap_u64, ← hN.hN]; omega
  have q9 : (N : Int) / 4294967296 = (n1 : Int) := by have := hN.n1; omega
  have q10 : bits .and .u64 (N : Int) 4294967295 = (n0 : Int) := by
    have := bits_and_u64_nat N 4294967295 b6 (by omega)
    rw [show ((4294967295 : Nat) : Int) = 4294967295 from rfl] at this
    rw [this, show (4294967295 : Nat) = 2 ^ 32 - 1 by decide, Nat.and_two_pow_sub_one_eq_mod]
    exact congrArg _ hN.n0
  have vs := Lib.hid hN.vsum
  have HQ := Lib.hid (And.intro hQ (And.intro hU (And.intro hQ0 hR)))
  clear hQ hU hQ0 hR hN
  generalize H + L = W at *
  have q11 : (W : Int).tdiv (v1 : Int) = ((W / v1 : Nat) : Int) := by rw [Int.tdiv_eq_ediv_of_nonneg (by omega)]; omega
  have q12 : IntKind.u64.wrap ((W / v1 : Nat) : Int) = ((W / v1 : Nat) : Int) := u64w _ (Nat.lt_of_le_of_lt (Nat.div_le_self _ _) (by omega))
  have q13 : IntKind.u64.wrap ((W : Int) - IntKind.u64.wrap (((W / v1 : Nat) : Int) * (v1 : Int))) = ((W % v1 : Nat) : Int) := by
    have h1 : W / v1 * v1 ≤ W := Nat.div_mul_le_self _ _
    have h2 := Nat.div_add_mod W v1
    rw [Nat.mul_comm] at h2
    have h3 : ((W / v1 : Nat) : Int) * (v1 : Int) = ((W / v1 * v1 : Nat) : Int) := by push_cast; rfl
    rw [h3, u64w _ (by omega)]
    have h4 : (W : Int) - ((W / v1 * v1 : Nat) : Int) = ((W % v1 : Nat) : Int) := by omega
    rw [h4]; exact u64w _ (by omega)
  have hv1 : (v1 : Int) ≠ 0 := by omega
  have hv1' : ¬ (v1 : Int) = 0 := by omega
  have hv1'' : ((v1 : Int) == 0) = false := by simp; omega
  have HI := Lib.hid (And.intro (Mo.kn_init v1 v0 W n1 (by omega) b4) (Nat.mod_lt W (show 0 < v1 by omega)))
  generalize W / v1 = g1 at *
  generalize W % v1 = g2 at *
  go_enter Tryz.func25, Tryz.ntmps25
  go_upto_block 0 with (first | (go_at_call 33; refine HL.out.mono ?_; rintro e w' ⟨rfl, rfl⟩))
  have HQ1 := Lib.hid HQ.out.1
  go_cut [15, 16] (fun v x W' => v = .int .u64 (Q : Int) ∧ W' = w')
  case first =>
    as_aux_lemma =>
      go_wp2_with fail
      go_loop [15, 16] (fun v x => ∃ q r : Nat, v = .int .u64 q ∧ x = .int .u64 r ∧ r < 4294967296 ∧ Mo.Kn v1 v0 W n1 q r) (fun v _ => (intOf v).toNat)
      case atStart => exact ⟨g1, g2, rfl, rfl, by have := HI.out.2; omega, HI.out.1⟩
      case round =>
        obtain ⟨q, r, rfl, rfl, hr, hk⟩ := hrel
        have HK := Lib.hid hk
        have hq := Mo.kn_q hk (by have := vs.out; omega) b2
        clear hk q1 q2 q3 q4 q5 q6 q7 q8 q9 q10 HI
        have ew1 : IntKind.u64.wrap ((r : Int) + v1) = (r : Int) + v1 := by rw [IntKind.wrap_u64]; omega
        have ew4 : IntKind.u64.wrap (4294967296 * (r : Int)) = 4294967296 * (r : Int) := by rw [IntKind.wrap_u64]; omega
        have ew5 : IntKind.u64.wrap (4294967296 * (r : Int) + n1) = 4294967296 * (r : Int) + n1 := by rw [IntKind.wrap_u64]; omega
        have next : (4294967296 ≤ q ∨ 4294967296 * r + n1 < q * v0) → 1 ≤ q ∧ Mo.Kn v1 v0 W n1 (q - 1) (r + v1) := fun h => Mo.kn_round HK.out (by have := vs.out; omega) (by omega) h
        have NEXT := Lib.hid next
        clear next
        by_cases c1 : 4294967296 ≤ q
        · have e1 : decide ((4294967296 : Int) ≤ (q : Int)) = true := decide_eq_true (by omega)
          have ew2 : IntKind.u64.wrap ((q : Int) - 1) = (q : Int) - 1 := by rw [IntKind.wrap_u64]; omega
          have HX := Lib.hid (NEXT.out (.inl c1))
          clear NEXT
          by_cases c2 : 4294967296 ≤ r + v1
          · have e2 : decide ((4294967296 : Int) ≤ (r : Int) + v1) = true := decide_eq_true (by omega)
            have HE := Lib.hid (Mo.kn_break HX.out.2 (by have := vs.out; omega) b1 c2)
            go_wp2
            go_meet
            exact ⟨by rw [HQ1.out, vs.out, ← HE.out]; go_num, rfl⟩
          · have e2 : decide ((4294967296 : Int) ≤ (r : Int) + v1) = false := decide_eq_false (by omega)
            go_wp2
            go_round
            case rel => exact ⟨q - 1, r + v1, by go_num, by go_num, by omega, HX.out.2⟩
            case measure => simp [intOf]; omega
        · have e1 : decide ((4294967296 : Int) ≤ (q : Int)) = false := decide_eq_false (by omega)
          have hP : q * v0 ≤ 4294967295 * 4294967295 := Nat.mul_le_mul (by omega) (by omega)
          have ew3 : IntKind.u64.wrap ((q : Int) * v0) = ((q * v0 : Nat) : Int) := by
            rw [show (q : Int) * v0 = ((q * v0 : Nat) : Int) by push_cast; rfl]; exact u64w _ (by omega)
          have HP := Lib.hid (Eq.refl (q * v0))
          by_cases c3 : 4294967296 * r + n1 < q * v0
          · have e3 : decide (4294967296 * (r : Int) + n1 < ((q * v0 : Nat) : Int)) = true := decide_eq_true (by omega)
            have HX := Lib.hid (NEXT.out (.inr c3))
            have hq1 := HX.out.1
            have ew2 : IntKind.u64.wrap ((q : Int) - 1) = (q : Int) - 1 := by rw [IntKind.wrap_u64]; omega
            clear NEXT c3
            generalize q * v0 = P at *
            by_cases c2 : 4294967296 ≤ r + v1
            · have e2 : decide ((4294967296 : Int) ≤ (r : Int) + v1) = true := decide_eq_true (by omega)
              have HE := Lib.hid (Mo.kn_break HX.out.2 (by have := vs.out; omega) b1 c2)
              go_wp2
              go_meet
              exact ⟨by rw [HQ1.out, vs.out, ← HE.out]; go_num, rfl⟩
            · have e2 : decide ((4294967296 : Int) ≤ (r : Int) + v1) = false := decide_eq_false (by omega)
              go_wp2
              go_round
              case rel => exact ⟨q - 1, r + v1, by go_num, by go_num, by omega, HX.out.2⟩
              case measure => simp [intOf]; omega
          · have e3 : decide (4294967296 * (r : Int) + n1 < ((q * v0 : Nat) : Int)) = false := decide_eq_false (by omega)
            have HE := Lib.hid (Mo.kn_eq HK.out (by have := vs.out; omega) (by omega))
            clear NEXT c3
            generalize q * v0 = P at *
            go_wp2
            go_meet
            exact ⟨by rw [HQ1.out, vs.out, ← HE.out], rfl⟩
  case rest =>
    obtain ⟨rfl, rfl⟩ := hcut
    clear q11 q12 q13 HI
    have Ea := Lib.hid (show Q * V + U = W * 4294967296 + n1 ∧ U < V by
      obtain ⟨e1, e2, -, -⟩ := HQ.out
      rw [e1, e2, Nat.mul_comm]; exact ⟨Nat.div_add_mod _ _, Nat.mod_lt _ (by omega)⟩)
    have Eb := Lib.hid (show Q0 * V + R = U * 4294967296 + n0 ∧ R < V by
      obtain ⟨-, -, e1, e2⟩ := HQ.out
      rw [e1, e2, Nat.mul_comm]; exact ⟨Nat.div_add_mod _ _, Nat.mod_lt _ (by omega)⟩)
    have hUV : U < V := Ea.out.2
    have hQ32 : Q < 4294967296 := by have := Mo.kn_lt v1 v0 W n1 (by have := vs.out; omega) b4; rw [HQ.out.1, vs.out]; exact this
    have hQ032 : Q0 < 4294967296 := by have := Mo.kn_lt v1 v0 U n0 (by have := vs.out; omega) b5; rw [HQ.out.2.2.1, vs.out]; exact this
    have a0 : (Q : Int) * V = ((Q * V : Nat) : Int) := by push_cast; rfl
    obtain ⟨Pa, hPa⟩ : ∃ P : Nat, P = Q * V := ⟨_, rfl⟩
    rw [← hPa] at a0
    obtain ⟨Aa, hAa⟩ : ∃ A : Nat, A = W * 4294967296 % 18446744073709551616 := ⟨_, rfl⟩
    obtain ⟨Ba, hBa⟩ : ∃ A : Nat, A = (W * 4294967296 + n1) % 18446744073709551616 := ⟨_, rfl⟩
    obtain ⟨Ca, hCa⟩ : ∃ A : Nat, A = Pa % 18446744073709551616 := ⟨_, rfl⟩
    have a1 : IntKind.u64.wrap ((W : Int) * 4294967296) = (Aa : Int) := by rw [IntKind.wrap_u64]; omega
    have a2 : IntKind.u64.wrap ((Aa : Int) + n1) = (Ba : Int) := by rw [IntKind.wrap_u64]; omega
    have a3 : IntKind.u64.wrap (Pa : Int) = (Ca : Int) := by rw [IntKind.wrap_u64]; omega
    have a4 : IntKind.u64.wrap ((Ba : Int) - (Ca : Int)) = (U : Int) := by
      have := Ea.out
      rw [← hPa] at this
      rw [IntKind.wrap_u64]; omega
    clear hAa hBa hCa hPa
    have q11 : (U : Int).tdiv (v1 : Int) = ((U / v1 : Nat) : Int) := by rw [Int.tdiv_eq_ediv_of_nonneg (by omega)]; omega
    have q12 : IntKind.u64.wrap ((U / v1 : Nat) : Int) = ((U / v1 : Nat) : Int) := u64w _ (Nat.lt_of_le_of_lt (Nat.div_le_self _ _) (by omega))
    have q13 : IntKind.u64.wrap ((U : Int) - IntKind.u64.wrap (((U / v1 : Nat) : Int) * (v1 : Int))) = ((U % v1 : Nat) : Int) := by
      have h1 : U / v1 * v1 ≤ U := Nat.div_mul_le_self _ _
      have h2 := Nat.div_add_mod U v1
      rw [Nat.mul_comm] at h2
      have h3 : ((U / v1 : Nat) : Int) * (v1 : Int) = ((U / v1 * v1 : Nat) : Int) := by push_cast; rfl
      rw [h3, u64w _ (by omega)]
      have h4 : (U : Int) - ((U / v1 * v1 : Nat) : Int) = ((U % v1 : Nat) : Int) := by omega
      rw [h4]; exact u64w _ (by omega)
    have HI2 := Lib.hid (And.intro (Mo.kn_init v1 v0 U n0 (by omega) b5) (Nat.mod_lt U (show 0 < v1 by omega)))
    generalize U / v1 = g3 at *
    generalize U % v1 = g4 at *
    go_upto_block 2 with (fail)
    clear a0 a1 a2 a3 a4 q11 q12 q13
    have HQ2 := Lib.hid HQ.out.2.2.1
    go_cut [18, 16] (fun v x W' => v = .int .u64 (Q0 : Int) ∧ W' = wc)
    case first =>
      as_aux_lemma =>
        go_wp2_with fail
        go_loop [18, 16] (fun v x => ∃ q r : Nat, v = .int .u64 q ∧ x = .int .u64 r ∧ r < 4294967296 ∧ Mo.Kn v1 v0 U n0 q r) (fun v _ => (intOf v).toNat)
        case atStart => exact ⟨g3, g4, rfl, rfl, by have := HI2.out.2; omega, HI2.out.1⟩
        case round =>
          obtain ⟨q, r, rfl, rfl, hr, hk⟩ := hrel
          have HK := Lib.hid hk
          have hq := Mo.kn_q hk (by have := vs.out; omega) b2
          clear hk HI2
          have ew1 : IntKind.u64.wrap ((r : Int) + v1) = (r : Int) + v1 := by rw [IntKind.wrap_u64]; omega
          have ew4 : IntKind.u64.wrap (4294967296 * (r : Int)) = 4294967296 * (r : Int) := by rw [IntKind.wrap_u64]; omega
          have ew5 : IntKind.u64.wrap (4294967296 * (r : Int) + n0) = 4294967296 * (r : Int) + n0 := by rw [IntKind.wrap_u64]; omega
          have next : (4294967296 ≤ q ∨ 4294967296 * r + n0 < q * v0) → 1 ≤ q ∧ Mo.Kn v1 v0 U n0 (q - 1) (r + v1) := fun h => Mo.kn_round HK.out (by have := vs.out; omega) (by omega) h
          have NEXT := Lib.hid next
          clear next
          by_cases c1 : 4294967296 ≤ q
          · have e1 : decide ((4294967296 : Int) ≤ (q : Int)) = true := decide_eq_true (by omega)
            have ew2 : IntKind.u64.wrap ((q : Int) - 1) = (q : Int) - 1 := by rw [IntKind.wrap_u64]; omega
            have HX := Lib.hid (NEXT.out (.inl c1))
            clear NEXT
            by_cases c2 : 4294967296 ≤ r + v1
            · have e2 : decide ((4294967296 : Int) ≤ (r : Int) + v1) = true := decide_eq_true (by omega)
              have HE := Lib.hid (Mo.kn_break HX.out.2 (by have := vs.out; omega) b1 c2)
              go_wp2
              go_meet
              exact ⟨by rw [HQ2.out, vs.out, ← HE.out]; go_num, rfl⟩
            · have e2 : decide ((4294967296 : Int) ≤ (r : Int) + v1) = false := decide_eq_false (by omega)
              go_wp2
              go_round
              case rel => exact ⟨q - 1, r + v1, by go_num, by go_num, by omega, HX.out.2⟩
              case measure => simp [intOf]; omega
          · have e1 : decide ((4294967296 : Int) ≤ (q : Int)) = false := decide_eq_false (by omega)
            have hP : q * v0 ≤ 4294967295 * 4294967295 := Nat.mul_le_mul (by omega) (by omega)
            have ew3 : IntKind.u64.wrap ((q : Int) * v0) = ((q * v0 : Nat) : Int) := by
              rw [show (q : Int) * v0 = ((q * v0 : Nat) : Int) by push_cast; rfl]; exact u64w _ (by omega)
            have HP := Lib.hid (Eq.refl (q * v0))
            by_cases c3 : 4294967296 * r + n0 < q * v0
            · have e3 : decide (4294967296 * (r : Int) + n0 < ((q * v0 : Nat) : Int)) = true := decide_eq_true (by omega)
              have HX := Lib.hid (NEXT.out (.inr c3))
              have hq1 := HX.out.1
              have ew2 : IntKind.u64.wrap ((q : Int) - 1) = (q : Int) - 1 := by rw [IntKind.wrap_u64]; omega
              clear NEXT c3
              generalize q * v0 = P at *
              by_cases c2 : 4294967296 ≤ r + v1
              · have e2 : decide ((4294967296 : Int) ≤ (r : Int) + v1) = true := decide_eq_true (by omega)
                have HE := Lib.hid (Mo.kn_break HX.out.2 (by have := vs.out; omega) b1 c2)
                go_wp2
                go_meet
                exact ⟨by rw [HQ2.out, vs.out, ← HE.out]; go_num, rfl⟩
              · have e2 : decide ((4294967296 : Int) ≤ (r : Int) + v1) = false := decide_eq_false (by omega)
                go_wp2
                go_round
                case rel => exact ⟨q - 1, r + v1, by go_num, by go_num, by omega, HX.out.2⟩
                case measure => simp [intOf]; omega
            · have e3 : decide (4294967296 * (r : Int) + n0 < ((q * v0 : Nat) : Int)) = false := decide_eq_false (by omega)
              have HE := Lib.hid (Mo.kn_eq HK.out (by have := vs.out; omega) (by omega))
              clear NEXT c3
              generalize q * v0 = P at *
              go_wp2
              go_meet
              exact ⟨by rw [HQ2.out, vs.out, ← HE.out], rfl⟩
    case rest =>
      obtain ⟨rfl, rfl⟩ := hcut
      clear HI2
      have b0 : (Q0 : Int) * V = ((Q0 * V : Nat) : Int) := by push_cast; rfl
      obtain ⟨Pb, hPb⟩ : ∃ P : Nat, P = Q0 * V := ⟨_, rfl⟩
      rw [← hPb] at b0
      obtain ⟨Ab, hAb⟩ : ∃ A : Nat, A = U * 4294967296 % 18446744073709551616 := ⟨_, rfl⟩
      obtain ⟨Bb, hBb⟩ : ∃ A : Nat, A = (U * 4294967296 + n0) % 18446744073709551616 := ⟨_, rfl⟩
      obtain ⟨Cb, hCb⟩ : ∃ A : Nat, A = Pb % 18446744073709551616 := ⟨_, rfl⟩
      have b1 : IntKind.u64.wrap ((U : Int) * 4294967296) = (Ab : Int) := by rw [IntKind.wrap_u64]; omega
      have b2 : IntKind.u64.wrap ((Ab : Int) + n0) = (Bb : Int) := by rw [IntKind.wrap_u64]; omega
      have b3 : IntKind.u64.wrap (Pb : Int) = (Cb : Int) := by rw [IntKind.wrap_u64]; omega
      have b4 : IntKind.u64.wrap ((Bb : Int) - (Cb : Int)) = (R : Int) := by
        have := Eb.out
        rw [← hPb] at this
        rw [IntKind.wrap_u64]; omega
      clear hAb hBb hCb hPb
      have m1 : IntKind.u64.wrap ((Q : Int) * 4294967296) = (Q : Int) * 4294967296 := by rw [IntKind.wrap_u64]; omega
      have m2 : IntKind.u64.wrap ((Q : Int) * 4294967296 + Q0) = (Q : Int) * 4294967296 + Q0 := by rw [IntKind.wrap_u64]; omega
      have m3 : (R : Int) / 2 ^ s = ((R / 2 ^ s : Nat) : Int) := by push_cast; rfl
      obtain ⟨Z, hZ⟩ : ∃ Z, Z = R / 2 ^ s := ⟨_, rfl⟩
      rw [← hZ] at m3
      have HZ := Lib.hid hZ
      clear hZ
      have m4 := Lib.hid (show ((Q * 4294967296 + Q0 : Nat) : Int) = (Q : Int) * 4294967296 + Q0 by omega)
      go_wp2
      go_ret2
      exact ⟨by rw [m4.out, ← HZ.out]; rfl, rfl⟩
theorem div64_calls (hi lo y : Nat) (hy : hi < y) (hy2 : y < 18446744073709551616) (hlo : lo < 18446744073709551616) : DivOk hi lo y := by
  intro w
  by_cases h0 : hi = 0
  · subst h0
    have := div64_lo lo y (by omega) hlo w
    rwa [Nat.zero_mul, Nat.zero_add]
  · have hb : 1 ≤ Lib.bitLen y ∧ Lib.bitLen y ≤ 64 := ⟨(Lib.bitLenAux_bounds 64 y (by omega) (by omega)).1, Lib.bitLen_le y 64 (Nat.le_refl _) (by omega)⟩
    have N := Mo.norm hi lo y (64 - Lib.bitLen y) hy hy2 hlo (by omega)
    have hw := div64_walk hi lo y (64 - Lib.bitLen y) _ _ _ _ _ _ _ _ _ _ _ _ (by omega) hy hy2 hlo (by omega) N rfl rfl rfl rfl w
    have hV := N.ge
    have F := N.fin _ _ _ _ (by rw [Nat.mul_comm]; exact Nat.div_add_mod _ _) (by rw [Nat.mul_comm]; exact Nat.div_add_mod _ _) (Nat.mod_lt _ (by omega))
    rw [F.1, F.2] at hw
    exact hw.mono fun e w' ⟨he, h⟩ => ⟨he, 0, h⟩
end Go.Proofs.YtpcmhlbhepickaaGreat
