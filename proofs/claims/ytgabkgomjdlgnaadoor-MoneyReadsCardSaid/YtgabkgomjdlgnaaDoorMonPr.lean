/- The references' functions as print.sh has printed them for MoneyReads: lexpriorref02_digit, lexpriorref02_Parse. -/
import Derived.Test.YtgabkgomjdlgnaaDoorProg
import Derived.Below
import Derived.Deep.Draws
import Derived.Deep.AppendLies
import Derived.Maps.AppendAt
import Derived.OwnWalk
import Derived.Laws.BytesArg
import Derived.Laws.MakeOwn
import Derived.Laws.OwnMore
import Derived.Deep.OwnRows
import Derived.Tactics
import Derived.Lib.ConvBytes
import Derived.Laws.Slices
import Derived.WalkKit
import Derived.KernelRfl
import Derived.RowKit3
import Derived.Deep.LoopGhost
import Derived.Deep.QuietTactic
import Derived.BigQuiet
import Derived.WideLaws
import Derived.Deep.DeepCutAuto
import Derived.Deep.CutBlock
import Derived.Deep.RegionHeld3
import Derived.Laws.Rows
import Derived.Lib.AppendStr
import Derived.ArgAppend
import Derived.Laws.IdiomCopy
import Derived.OrdersHeld
import Derived.Laws.BitsLemmas
import Derived.RowKit
import Derived.Test.YtgabkgomjdlgnaaDoorWWords
import Derived.Test.YtgabkgomjdlgnaaDoorWLast
import Derived.Test.YtgabkgomjdlgnaaDoorWTab
import Derived.Test.YtgabkgomjdlgnaaDoorWFour
import Derived.Test.YtgabkgomjdlgnaaDoorWQPut
import Derived.Test.YtgabkgomjdlgnaaDoorWApart
import Derived.Test.YtgabkgomjdlgnaaDoorWArr
import Derived.Test.YtgabkgomjdlgnaaDoorWZeros
import Derived.Test.YtgabkgomjdlgnaaDoorWFoot
import Derived.Test.YtgabkgomjdlgnaaDoorWKept
import Derived.Test.YtgabkgomjdlgnaaDoorWShare
import Derived.Test.YtgabkgomjdlgnaaDoorWN
import Derived.Test.YtgabkgomjdlgnaaDoorWFootNe
import Derived.Test.YtgabkgomjdlgnaaDoorWAt
import Derived.Test.YtgabkgomjdlgnaaDoorWEqStruct
import Derived.Test.YtgabkgomjdlgnaaDoorWRepsOne
import Derived.Test.YtgabkgomjdlgnaaDoorWInv
import Derived.Test.YtgabkgomjdlgnaaDoorWInvWords
import Derived.Test.YtgabkgomjdlgnaaDoorWGuard
import Derived.Test.YtgabkgomjdlgnaaDoorWNEv
import Derived.Test.YtgabkgomjdlgnaaDoorWMore
namespace Go.Proofs.YtgabkgomjdlgnaaDoor.PMoneyReads
open Go.RowKit Go.Proofs.YtgabkgomjdlgnaaDoorW.PrintWords Go.Proofs.YtgabkgomjdlgnaaDoorW.PrintLast Go.Proofs.YtgabkgomjdlgnaaDoorW.PrintMore
attribute [local go_sem] max2_int min2_int max_two min_two max_three min_three max_four min_four   -- for this text's walks alone
set_option linter.unusedVariables false
set_option linter.unusedSimpArgs false



def errW : Option Int → Value
  | none => .nilIface
  | some c => .iface 109 (.int .i64 c)
theorem errW_none : errW none = .nilIface := rfl
theorem errW_some (c : Int) : errW (some c) = .iface 109 (.int .i64 c) := rfl

-- the values' own types

/-! ### lexpriorref02_digit: function 38 -/
def lexpriorref02_digit.f (a0 : Int) : Option (Bool) := if a0 ≥ 48 then (some (decide (a0 ≤ 57))) else (some false)
set_option maxHeartbeats 8000000 in
set_option maxRecDepth 100000 in
theorem lexpriorref02_digit.calls (a0 : Int) (r : Bool) (w : World) (h : lexpriorref02_digit.f a0 = some r) :
    Calls Tryd.prog 38 #[.int .u8 a0] w fun e w' => e = .returned (.bool r) ∧ Drawn0 w w' := by
  have H : (if a0 ≥ 48 then (some (decide (a0 ≤ 57))) else (some false)) = some r := h
  clear h
  by_cases c2 : a0 ≥ 48
  · rw [if_pos c2] at H
    have c2b0 : decide (48 ≤ a0) = true := decide_eq_true c2
    clear c2
    obtain rfl := Option.some.inj H
    go_enter Tryd.func38, Tryd.ntmps38
    go_wp2
    go_ret
    exact ⟨by first | rfl | (simp; done) | (simp [*]; done), by repeat (first | exact Drawn0.refl _ | apply Drawn0.step)⟩
  · rw [if_neg c2] at H
    have c2b0 : decide (48 ≤ a0) = false := decide_eq_false c2
    clear c2
    obtain rfl := Option.some.inj H
    go_enter Tryd.func38, Tryd.ntmps38
    go_wp2
    go_ret
    exact ⟨by first | rfl | (simp; done) | (simp [*]; done), by repeat (first | exact Drawn0.refl _ | apply Drawn0.step)⟩

/-! ### lexpriorref02_Parse: function 13 -/
mutual
def lexpriorref02_Parse.j0 : Nat → ByteArray → Int → Bool → Option (Int × Int)
  | 0, _, _, _ => none
  | k + 1, x0, x4, x15 => if x15 = true then (lexpriorref02_Parse.j1 k x0 1) else (lexpriorref02_Parse.j1 k x0 x4)
def lexpriorref02_Parse.j1 : Nat → ByteArray → Int → Option (Int × Int)
  | 0, _, _ => none
  | k + 1, x0, x4 => lexpriorref02_Parse.l0 k x0 x4 x4
def lexpriorref02_Parse.j3 : Nat → ByteArray → Int → Int → Option (Int × Int)
  | 0, _, _, _ => none
  | k + 1, x0, x4, x5 => if 0 ≤ x5 then (if x5 ≤ (x0.size : Int) then (if x5 = x4 then (lexpriorref02_Parse.j4 k x0 x4 x5 (x0.extract (x5 : Int).toNat x0.size) true) else (if 0 ≤ x4 then (if x4 < (x0.size : Int) then (if (bt x0 x4) = 48 then (lexpriorref02_Parse.j4 k x0 x4 x5 (x0.extract (x5 : Int).toNat x0.size) (decide (x5 > (wrap64 (x4 + 1))))) else (lexpriorref02_Parse.j4 k x0 x4 x5 (x0.extract (x5 : Int).toNat x0.size) false)) else (none)) else (none))) else (none)) else (none)
def lexpriorref02_Parse.j4 : Nat → ByteArray → Int → Int → ByteArray → Bool → Option (Int × Int)
  | 0, _, _, _, _, _ => none
  | k + 1, x0, x4, x5, x6, x46 => if x46 = true then (some (0, 21)) else (if x6.toList = ([] : List UInt8) then (lexpriorref02_Parse.j5 k x0 x4 x5 x6 false) else (if (x6.size : Int) = 3 then (if 0 < (x6.size : Int) then (if (bt x6 0) = 46 then (if 1 < (x6.size : Int) then ((lexpriorref02_digit.f (bt x6 1)).bind fun t144 => (if t144 = true then (if 2 < (x6.size : Int) then ((lexpriorref02_digit.f (bt x6 2)).bind fun t145 => (if t145 = true then (lexpriorref02_Parse.j5 k x0 x4 x5 x6 (x6.toList == ([46, 48, 48] : List UInt8))) else (lexpriorref02_Parse.j5 k x0 x4 x5 x6 true))) else (none)) else (lexpriorref02_Parse.j5 k x0 x4 x5 x6 true))) else (none)) else (lexpriorref02_Parse.j5 k x0 x4 x5 x6 true)) else (none)) else (lexpriorref02_Parse.j5 k x0 x4 x5 x6 true)))
def lexpriorref02_Parse.j5 : Nat → ByteArray → Int → Int → ByteArray → Bool → Option (Int × Int)
  | 0, _, _, _, _, _ => none
  | k + 1, x0, x4, x5, x6, x74 => if x74 = true then (some (0, 21)) else (if x4 = 1 then (if 1 ≤ (x0.size : Int) then (lexpriorref02_Parse.j6 k x0 x4 x5 x6 ((x0.extract 1 x0.size).toList == ([48] : List UInt8))) else (none)) else (lexpriorref02_Parse.j6 k x0 x4 x5 x6 false))
def lexpriorref02_Parse.j6 : Nat → ByteArray → Int → Int → ByteArray → Bool → Option (Int × Int)
  | 0, _, _, _, _, _ => none
  | k + 1, x0, x4, x5, x6, x81 => if x81 = true then (some (0, 21)) else (if (wrap64 (x5 - x4)) > 15 then (some (0, 22)) else (lexpriorref02_Parse.l1 k x0 x4 x5 x6 0 x4))
def lexpriorref02_Parse.l1 : Nat → ByteArray → Int → Int → ByteArray → Int → Int → Option (Int × Int)
  | 0, _, _, _, _, _, _ => none
  | k + 1, x0, x4, x5, x6, x7, x8 => if x8 < x5 then (if 0 ≤ x8 then (if x8 < (x0.size : Int) then (lexpriorref02_Parse.l1 k x0 x4 x5 x6 (wrap64 ((wrap64 (x7 * 10)) + (((bt x0 x8) - 48) % 256))) (wrap64 (x8 + 1))) else (none)) else (none)) else (if x6.toList = ([] : List UInt8) then (lexpriorref02_Parse.j8 k x4 (wrap64 (x7 * 100))) else (if 1 < (x6.size : Int) then (if 2 < (x6.size : Int) then (lexpriorref02_Parse.j8 k x4 (wrap64 ((wrap64 ((wrap64 (x7 * 100)) + ((((bt x6 1) - 48) % 256) * 10))) + (((bt x6 2) - 48) % 256)))) else (none)) else (none)))
def lexpriorref02_Parse.j8 : Nat → Int → Int → Option (Int × Int)
  | 0, _, _ => none
  | k + 1, x4, x7 => if x7 > 1000000000000000 then (some (0, 22)) else (if x4 = 1 then (some (wrap64 (-x7), 0)) else (some (x7, 0)))
def lexpriorref02_Parse.l0 : Nat → ByteArray → Int → Int → Option (Int × Int)
  | 0, _, _, _ => none
  | k + 1, x0, x4, x5 => if x5 < (x0.size : Int) then (if 0 ≤ x5 then ((lexpriorref02_digit.f (bt x0 x5)).bind fun t143 => (if t143 = true then (lexpriorref02_Parse.l0 k x0 x4 (wrap64 (x5 + 1))) else (lexpriorref02_Parse.j3 k x0 x4 x5))) else (none)) else (lexpriorref02_Parse.j3 k x0 x4 x5)
end
def lexpriorref02_Parse.f (k : Nat) (a0 : ByteArray) : Option (Int × Int) := if a0.toList = ([] : List UInt8) then (lexpriorref02_Parse.j0 k a0 0 false) else (if 0 < (a0.size : Int) then (lexpriorref02_Parse.j0 k a0 0 ((bt a0 0) == 45)) else (none))
theorem lexpriorref02_Parse.mono_l : ∀ k, (∀ y0 y1 y2, LeO (lexpriorref02_Parse.j0 k y0 y1 y2) (lexpriorref02_Parse.j0 (k + 1) y0 y1 y2)) ∧ (∀ y0 y1, LeO (lexpriorref02_Parse.j1 k y0 y1) (lexpriorref02_Parse.j1 (k + 1) y0 y1)) ∧ (∀ y0 y1 y2, LeO (lexpriorref02_Parse.j3 k y0 y1 y2) (lexpriorref02_Parse.j3 (k + 1) y0 y1 y2)) ∧ (∀ y0 y1 y2 y3 y4, LeO (lexpriorref02_Parse.j4 k y0 y1 y2 y3 y4) (lexpriorref02_Parse.j4 (k + 1) y0 y1 y2 y3 y4)) ∧ (∀ y0 y1 y2 y3 y4, LeO (lexpriorref02_Parse.j5 k y0 y1 y2 y3 y4) (lexpriorref02_Parse.j5 (k + 1) y0 y1 y2 y3 y4)) ∧ (∀ y0 y1 y2 y3 y4, LeO (lexpriorref02_Parse.j6 k y0 y1 y2 y3 y4) (lexpriorref02_Parse.j6 (k + 1) y0 y1 y2 y3 y4)) ∧ (∀ y0 y1 y2 y3 y4 y5, LeO (lexpriorref02_Parse.l1 k y0 y1 y2 y3 y4 y5) (lexpriorref02_Parse.l1 (k + 1) y0 y1 y2 y3 y4 y5)) ∧ (∀ y0 y1, LeO (lexpriorref02_Parse.j8 k y0 y1) (lexpriorref02_Parse.j8 (k + 1) y0 y1)) ∧ (∀ y0 y1 y2, LeO (lexpriorref02_Parse.l0 k y0 y1 y2) (lexpriorref02_Parse.l0 (k + 1) y0 y1 y2))
  | 0 => ⟨fun _ _ _ r h => by simp [lexpriorref02_Parse.j0] at h, fun _ _ r h => by simp [lexpriorref02_Parse.j1] at h, fun _ _ _ r h => by simp [lexpriorref02_Parse.j3] at h, fun _ _ _ _ _ r h => by simp [lexpriorref02_Parse.j4] at h, fun _ _ _ _ _ r h => by simp [lexpriorref02_Parse.j5] at h, fun _ _ _ _ _ r h => by simp [lexpriorref02_Parse.j6] at h, fun _ _ _ _ _ _ r h => by simp [lexpriorref02_Parse.l1] at h, fun _ _ r h => by simp [lexpriorref02_Parse.j8] at h, fun _ _ _ r h => by simp [lexpriorref02_Parse.l0] at h⟩
  | k + 1 => by
    obtain ⟨ih0, ih1, ih2, ih3, ih4, ih5, ih6, ih7, ih8⟩ := lexpriorref02_Parse.mono_l k
    refine ⟨?_, ?_, ?_, ?_, ?_, ?_, ?_, ?_, ?_⟩
    · intro y0 y1 y2
      unfold lexpriorref02_Parse.j0
      repeat' first
      | (with_reducible exact ih0 _ _ _)
      | (with_reducible exact ih1 _ _)
      | (with_reducible exact ih2 _ _ _)
      | (with_reducible exact ih3 _ _ _ _ _)
      | (with_reducible exact ih4 _ _ _ _ _)
      | (with_reducible exact ih5 _ _ _ _ _)
      | (with_reducible exact ih6 _ _ _ _ _ _)
      | (with_reducible exact ih7 _ _)
      | (with_reducible exact ih8 _ _ _)
      | (with_reducible exact LeO.refl _)
      | (with_reducible exact LeO.none _)
      | (with_reducible refine LeO.ite ?_ ?_)
      | (with_reducible refine LeO.bind ?_ (fun _ => ?_))
      | exact ih0 _ _ _
      | exact ih1 _ _
      | exact ih2 _ _ _
      | exact ih3 _ _ _ _ _
      | exact ih4 _ _ _ _ _
      | exact ih5 _ _ _ _ _
      | exact ih6 _ _ _ _ _ _
      | exact ih7 _ _
      | exact ih8 _ _ _
      | exact LeO.none _
      | refine LeO.ite ?_ ?_
      | refine LeO.bind ?_ (fun _ => ?_)
    · intro y0 y1
      unfold lexpriorref02_Parse.j1
      repeat' first
      | (with_reducible exact ih0 _ _ _)
      | (with_reducible exact ih1 _ _)
      | (with_reducible exact ih2 _ _ _)
      | (with_reducible exact ih3 _ _ _ _ _)
      | (with_reducible exact ih4 _ _ _ _ _)
      | (with_reducible exact ih5 _ _ _ _ _)
      | (with_reducible exact ih6 _ _ _ _ _ _)
      | (with_reducible exact ih7 _ _)
      | (with_reducible exact ih8 _ _ _)
      | (with_reducible exact LeO.refl _)
      | (with_reducible exact LeO.none _)
      | (with_reducible refine LeO.ite ?_ ?_)
      | (with_reducible refine LeO.bind ?_ (fun _ => ?_))
      | exact ih0 _ _ _
      | exact ih1 _ _
      | exact ih2 _ _ _
      | exact ih3 _ _ _ _ _
      | exact ih4 _ _ _ _ _
      | exact ih5 _ _ _ _ _
      | exact ih6 _ _ _ _ _ _
      | exact ih7 _ _
      | exact ih8 _ _ _
      | exact LeO.none _
      | refine LeO.ite ?_ ?_
      | refine LeO.bind ?_ (fun _ => ?_)
    · intro y0 y1 y2
      unfold lexpriorref02_Parse.j3
      repeat' first
      | (with_reducible exact ih0 _ _ _)
      | (with_reducible exact ih1 _ _)
      | (with_reducible exact ih2 _ _ _)
      | (with_reducible exact ih3 _ _ _ _ _)
      | (with_reducible exact ih4 _ _ _ _ _)
      | (with_reducible exact ih5 _ _ _ _ _)
      | (with_reducible exact ih6 _ _ _ _ _ _)
      | (with_reducible exact ih7 _ _)
      | (with_reducible exact ih8 _ _ _)
      | (with_reducible exact LeO.refl _)
      | (with_reducible exact LeO.none _)
      | (with_reducible refine LeO.ite ?_ ?_)
      | (with_reducible refine LeO.bind ?_ (fun _ => ?_))
      | exact ih0 _ _ _
      | exact ih1 _ _
      | exact ih2 _ _ _
      | exact ih3 _ _ _ _ _
      | exact ih4 _ _ _ _ _
      | exact ih5 _ _ _ _ _
      | exact ih6 _ _ _ _ _ _
      | exact ih7 _ _
      | exact ih8 _ _ _
      | exact LeO.none _
      | refine LeO.ite ?_ ?_
      | refine LeO.bind ?_ (fun _ => ?_)
    · intro y0 y1 y2 y3 y4
      unfold lexpriorref02_Parse.j4
      repeat' first
      | (with_reducible exact ih0 _ _ _)
      | (with_reducible exact ih1 _ _)
      | (with_reducible exact ih2 _ _ _)
      | (with_reducible exact ih3 _ _ _ _ _)
      | (with_reducible exact ih4 _ _ _ _ _)
      | (with_reducible exact ih5 _ _ _ _ _)
      | (with_reducible exact ih6 _ _ _ _ _ _)
      | (with_reducible exact ih7 _ _)
      | (with_reducible exact ih8 _ _ _)
      | (with_reducible exact LeO.refl _)
      | (with_reducible exact LeO.none _)
      | (with_reducible refine LeO.ite ?_ ?_)
      | (with_reducible refine LeO.bind ?_ (fun _ => ?_))
      | exact ih0 _ _ _
      | exact ih1 _ _
      | exact ih2 _ _ _
      | exact ih3 _ _ _ _ _
      | exact ih4 _ _ _ _ _
      | exact ih5 _ _ _ _ _
      | exact ih6 _ _ _ _ _ _
      | exact ih7 _ _
      | exact ih8 _ _ _
      | exact LeO.none _
      | refine LeO.ite ?_ ?_
      | refine LeO.bind ?_ (fun _ => ?_)
    · intro y0 y1 y2 y3 y4
      unfold lexpriorref02_Parse.j5
      repeat' first
      | (with_reducible exact ih0 _ _ _)
      | (with_reducible exact ih1 _ _)
      | (with_reducible exact ih2 _ _ _)
      | (with_reducible exact ih3 _ _ _ _ _)
      | (with_reducible exact ih4 _ _ _ _ _)
      | (with_reducible exact ih5 _ _ _ _ _)
      | (with_reducible exact ih6 _ _ _ _ _ _)
      | (with_reducible exact ih7 _ _)
      | (with_reducible exact ih8 _ _ _)
      | (with_reducible exact LeO.refl _)
      | (with_reducible exact LeO.none _)
      | (with_reducible refine LeO.ite ?_ ?_)
      | (with_reducible refine LeO.bind ?_ (fun _ => ?_))
      | exact ih0 _ _ _
      | exact ih1 _ _
      | exact ih2 _ _ _
      | exact ih3 _ _ _ _ _
      | exact ih4 _ _ _ _ _
      | exact ih5 _ _ _ _ _
      | exact ih6 _ _ _ _ _ _
      | exact ih7 _ _
      | exact ih8 _ _ _
      | exact LeO.none _
      | refine LeO.ite ?_ ?_
      | refine LeO.bind ?_ (fun _ => ?_)
    · intro y0 y1 y2 y3 y4
      unfold lexpriorref02_Parse.j6
      repeat' first
      | (with_reducible exact ih0 _ _ _)
      | (with_reducible exact ih1 _ _)
      | (with_reducible exact ih2 _ _ _)
      | (with_reducible exact ih3 _ _ _ _ _)
      | (with_reducible exact ih4 _ _ _ _ _)
      | (with_reducible exact ih5 _ _ _ _ _)
      | (with_reducible exact ih6 _ _ _ _ _ _)
      | (with_reducible exact ih7 _ _)
      | (with_reducible exact ih8 _ _ _)
      | (with_reducible exact LeO.refl _)
      | (with_reducible exact LeO.none _)
      | (with_reducible refine LeO.ite ?_ ?_)
      | (with_reducible refine LeO.bind ?_ (fun _ => ?_))
      | exact ih0 _ _ _
      | exact ih1 _ _
      | exact ih2 _ _ _
      | exact ih3 _ _ _ _ _
      | exact ih4 _ _ _ _ _
      | exact ih5 _ _ _ _ _
      | exact ih6 _ _ _ _ _ _
      | exact ih7 _ _
      | exact ih8 _ _ _
      | exact LeO.none _
      | refine LeO.ite ?_ ?_
      | refine LeO.bind ?_ (fun _ => ?_)
    · intro y0 y1 y2 y3 y4 y5
      unfold lexpriorref02_Parse.l1
      repeat' first
      | (with_reducible exact ih0 _ _ _)
      | (with_reducible exact ih1 _ _)
      | (with_reducible exact ih2 _ _ _)
      | (with_reducible exact ih3 _ _ _ _ _)
      | (with_reducible exact ih4 _ _ _ _ _)
      | (with_reducible exact ih5 _ _ _ _ _)
      | (with_reducible exact ih6 _ _ _ _ _ _)
      | (with_reducible exact ih7 _ _)
      | (with_reducible exact ih8 _ _ _)
      | (with_reducible exact LeO.refl _)
      | (with_reducible exact LeO.none _)
      | (with_reducible refine LeO.ite ?_ ?_)
      | (with_reducible refine LeO.bind ?_ (fun _ => ?_))
      | exact ih0 _ _ _
      | exact ih1 _ _
      | exact ih2 _ _ _
      | exact ih3 _ _ _ _ _
      | exact ih4 _ _ _ _ _
      | exact ih5 _ _ _ _ _
      | exact ih6 _ _ _ _ _ _
      | exact ih7 _ _
      | exact ih8 _ _ _
      | exact LeO.none _
      | refine LeO.ite ?_ ?_
      | refine LeO.bind ?_ (fun _ => ?_)
    · intro y0 y1
      unfold lexpriorref02_Parse.j8
      repeat' first
      | (with_reducible exact ih0 _ _ _)
      | (with_reducible exact ih1 _ _)
      | (with_reducible exact ih2 _ _ _)
      | (with_reducible exact ih3 _ _ _ _ _)
      | (with_reducible exact ih4 _ _ _ _ _)
      | (with_reducible exact ih5 _ _ _ _ _)
      | (with_reducible exact ih6 _ _ _ _ _ _)
      | (with_reducible exact ih7 _ _)
      | (with_reducible exact ih8 _ _ _)
      | (with_reducible exact LeO.refl _)
      | (with_reducible exact LeO.none _)
      | (with_reducible refine LeO.ite ?_ ?_)
      | (with_reducible refine LeO.bind ?_ (fun _ => ?_))
      | exact ih0 _ _ _
      | exact ih1 _ _
      | exact ih2 _ _ _
      | exact ih3 _ _ _ _ _
      | exact ih4 _ _ _ _ _
      | exact ih5 _ _ _ _ _
      | exact ih6 _ _ _ _ _ _
      | exact ih7 _ _
      | exact ih8 _ _ _
      | exact LeO.none _
      | refine LeO.ite ?_ ?_
      | refine LeO.bind ?_ (fun _ => ?_)
    · intro y0 y1 y2
      unfold lexpriorref02_Parse.l0
      repeat' first
      | (with_reducible exact ih0 _ _ _)
      | (with_reducible exact ih1 _ _)
      | (with_reducible exact ih2 _ _ _)
      | (with_reducible exact ih3 _ _ _ _ _)
      | (with_reducible exact ih4 _ _ _ _ _)
      | (with_reducible exact ih5 _ _ _ _ _)
      | (with_reducible exact ih6 _ _ _ _ _ _)
      | (with_reducible exact ih7 _ _)
      | (with_reducible exact ih8 _ _ _)
      | (with_reducible exact LeO.refl _)
      | (with_reducible exact LeO.none _)
      | (with_reducible refine LeO.ite ?_ ?_)
      | (with_reducible refine LeO.bind ?_ (fun _ => ?_))
      | exact ih0 _ _ _
      | exact ih1 _ _
      | exact ih2 _ _ _
      | exact ih3 _ _ _ _ _
      | exact ih4 _ _ _ _ _
      | exact ih5 _ _ _ _ _
      | exact ih6 _ _ _ _ _ _
      | exact ih7 _ _
      | exact ih8 _ _ _
      | exact LeO.none _
      | refine LeO.ite ?_ ?_
      | refine LeO.bind ?_ (fun _ => ?_)
theorem lexpriorref02_Parse.mono : ∀ a0 k, LeO (lexpriorref02_Parse.f k a0) (lexpriorref02_Parse.f (k + 1) a0) := by
  intro a0 k
  obtain ⟨ih0, ih1, ih2, ih3, ih4, ih5, ih6, ih7, ih8⟩ := lexpriorref02_Parse.mono_l k
  unfold lexpriorref02_Parse.f
  repeat' first
      | (with_reducible exact ih0 _ _ _)
      | (with_reducible exact ih1 _ _)
      | (with_reducible exact ih2 _ _ _)
      | (with_reducible exact ih3 _ _ _ _ _)
      | (with_reducible exact ih4 _ _ _ _ _)
      | (with_reducible exact ih5 _ _ _ _ _)
      | (with_reducible exact ih6 _ _ _ _ _ _)
      | (with_reducible exact ih7 _ _)
      | (with_reducible exact ih8 _ _ _)
      | (with_reducible exact LeO.refl _)
      | (with_reducible exact LeO.none _)
      | (with_reducible refine LeO.ite ?_ ?_)
      | (with_reducible refine LeO.bind ?_ (fun _ => ?_))
      | exact ih0 _ _ _
      | exact ih1 _ _
      | exact ih2 _ _ _
      | exact ih3 _ _ _ _ _
      | exact ih4 _ _ _ _ _
      | exact ih5 _ _ _ _ _
      | exact ih6 _ _ _ _ _ _
      | exact ih7 _ _
      | exact ih8 _ _ _
      | exact LeO.none _
      | refine LeO.ite ?_ ?_
      | refine LeO.bind ?_ (fun _ => ?_)
set_option maxHeartbeats 8000000 in
set_option maxRecDepth 100000 in
theorem lexpriorref02_Parse.calls (k : Nat) (a0 : ByteArray) (r1 : Int) (r2 : Int) (w : World) (h : lexpriorref02_Parse.f k a0 = some (r1, r2)) :
    Calls Tryd.prog 13 #[.string a0] w fun e w' => e = .returned (.tuple #[.int .i64 r1, .int .i64 r2]) ∧ Drawn0 w w' := by
  have H : (if a0.toList = ([] : List UInt8) then (lexpriorref02_Parse.j0 k a0 0 false) else (if 0 < (a0.size : Int) then (lexpriorref02_Parse.j0 k a0 0 ((bt a0 0) == 45)) else (none))) = some (r1, r2) := h
  clear h
  have HC2 := Aside0.mk H
  clear H
  go_enter Tryd.func13, Tryd.ntmps13
  go_upto_region 2 with (fail)
  repeat (go_quiet (fail); go_upto_region 2 with (fail))
  go_cut [15] (fun v15 wc => ∃ (kq : Nat) (x15_1 : Bool), v15 = .bool x15_1 ∧ Aside0 (lexpriorref02_Parse.j0 kq a0 0 x15_1 = some (r1, r2)) ∧ Aside0 (kq ≤ k) ∧ Drawn0 w wc)
  case first =>
    have H := HC2.out
    clear HC2
    by_cases c3 : a0.toList = ([] : List UInt8)
    · rw [if_pos c3] at H
      have c3b0 : (a0.toList == ([] : List UInt8)) = true := beq_iff_eq.mpr c3
      have c3b1 : (a0.toList != ([] : List UInt8)) = false := bne_eq_false_iff_eq.mpr c3
      clear c3
      (first | rw [c3b0] | (simp only [i64_w, i32_w]; rw [c3b0]) | skip)
      have H' := Aside0.mk H
      clear H
      go_wp2
      repeat (go_quiet (fail); try go_wp2)
      go_meet
      case rel => exact ⟨_, (false), (by first | rfl | (simp; done) | (simp [*]; done)), H', ⟨by first | omega | exact Nat.le_refl _⟩, by repeat (first | exact Drawn0.refl _ | apply Drawn0.step)⟩
    · rw [if_neg c3] at H
      have c3b0 : (a0.toList == ([] : List UInt8)) = false := beq_eq_false_iff_ne.mpr c3
      have c3b1 : (a0.toList != ([] : List UInt8)) = true := bne_iff_ne.mpr c3
      (first | rw [c3b0] | (simp only [i64_w, i32_w]; rw [c3b0]) | skip)
      by_cases c4 : 0 < (a0.size : Int)
      · rw [if_pos c4] at H
        have c4b0 : decide (0 < (a0.size : Int)) = true := decide_eq_true c4
        have c4b1 : decide (0 < a0.size) = true := decide_eq_true (by omega)
        clear c4
        have H' := Aside0.mk H
        clear H
        have p5 : 0 ≤ (0 : Int) := (by omega)
        have q5 : 0 < a0.size := (by have : (0 : Int) < (a0.size : Int) := of_decide_eq_true (by first | (with_reducible assumption) | assumption); omega)
        have hx5 : ∀ h : 0 < a0.size, ((a0[0]'h).toNat : Int) = bt a0 0 := bt_at a0 0
        clear p5
        have qi5 : (0 < (a0.size : Int)) = True := eq_true (of_decide_eq_true (by first | (with_reducible assumption) | assumption))
        replace q5 := eq_true q5
        go_wp2
        repeat (go_quiet (fail); try go_wp2)
        go_meet
        case rel => exact ⟨_, (((bt a0 0) == 45)), (by first | rfl | (simp; done) | (simp [*]; done)), H', ⟨by first | omega | exact Nat.le_refl _⟩, by repeat (first | exact Drawn0.refl _ | apply Drawn0.step)⟩
      · rw [if_neg c4] at H
        exact absurd H (by simp)
  case rest =>
    clear HC2
    try clear c1
    try clear p2
    try clear c3
    try clear c3b0
    try clear c3b1
    try clear c4
    try clear c4b0
    try clear c4b1
    try clear p5
    try clear q5
    try clear hx5
    try clear qi5
    try clear p5
    try clear q5
    obtain ⟨kq, x15_1, rfl, HA, HJ1, ⟨mc1, rfl⟩⟩ := hcut
    cases kq with
    | zero => exact absurd HA.out (by simp [lexpriorref02_Parse.j0])
    | succ kj1 =>
      have H := HA.out
      clear HA
      simp only [lexpriorref02_Parse.j0] at H
      have HC6 := Aside0.mk H
      clear H
      go_upto_if 15 with (fail)
      repeat (go_quiet (fail); go_upto_if 15 with (fail))
      go_cut [4] (fun v4 wc => ∃ (kq : Nat) (x4_5 : Int), v4 = .int .i64 x4_5 ∧ Aside0 (lexpriorref02_Parse.j1 kq a0 x4_5 = some (r1, r2)) ∧ Aside0 (kq ≤ kj1) ∧ Drawn0 w wc)
      case first =>
        have H := HC6.out
        clear HC6
        by_cases c7 : x15_1 = true
        · subst c7
          have H1 : (lexpriorref02_Parse.j1 kj1 a0 1) = some (r1, r2) := by rw [if_pos rfl] at H; exact H
          clear H
          have H := H1
          clear H1
          have H' := Aside0.mk H
          clear H
          go_wp2
          repeat (go_quiet (fail); try go_wp2)
          go_meet
          case rel => exact ⟨_, (1), (by first | rfl | (simp; done) | (simp [*]; done)), H', ⟨by have := HJ1.out; first | omega | exact Nat.le_refl _⟩, by repeat (first | exact Drawn0.refl _ | apply Drawn0.step)⟩
        · replace c7 := Bool.eq_false_iff.mpr c7
          subst c7
          have H1 : (lexpriorref02_Parse.j1 kj1 a0 0) = some (r1, r2) := by rw [if_neg (show ¬ (false = true) by decide)] at H; exact H
          clear H
          have H := H1
          clear H1
          have H' := Aside0.mk H
          clear H
          go_wp2
          repeat (go_quiet (fail); try go_wp2)
          go_meet
          case rel => exact ⟨_, (0), (by first | rfl | (simp; done) | (simp [*]; done)), H', ⟨by have := HJ1.out; first | omega | exact Nat.le_refl _⟩, by repeat (first | exact Drawn0.refl _ | apply Drawn0.step)⟩
      case rest =>
        clear HC6
        try clear c1
        try clear p2
        try clear c3
        try clear c3b0
        try clear c3b1
        try clear c4
        try clear c4b0
        try clear c4b1
        try clear p5
        try clear q5
        try clear hx5
        try clear qi5
        try clear c7
        try clear p2
        try clear p5
        try clear q5
        obtain ⟨kq, x4_5, rfl, HA, HJ5, ⟨mc5, rfl⟩⟩ := hcut
        cases kq with
        | zero => exact absurd HA.out (by simp [lexpriorref02_Parse.j1])
        | succ kj5 =>
          have H := HA.out
          clear HA
          simp only [lexpriorref02_Parse.j1] at H
          have HC8 := Aside0.mk H
          clear H
          go_upto_block 0 with (fail)
          repeat (go_quiet (fail); go_upto_block 0 with (fail))
          go_cut [5] (fun v5 wc => ∃ (kq : Nat) (x5_7 : Int), v5 = .int .i64 x5_7 ∧ Aside0 (lexpriorref02_Parse.j3 kq a0 x4_5 x5_7 = some (r1, r2)) ∧ Aside0 (kq ≤ kj5) ∧ Drawn0 w wc)
          case first =>
            have H := HC8.out
            clear HC8
            have H' := Aside0.mk H
            clear H
            go_wp2
            repeat (go_quiet (fail); try go_wp2)
            go_loopg [5] kj5 (fun kq v5 w' => ∃ (x5_3 : Int), v5 = .int .i64 x5_3 ∧ Aside0 (lexpriorref02_Parse.l0 kq a0 x4_5 x5_3 = some (r1, r2)) ∧ Aside0 (kq ≤ kj5) ∧ Drawn0 w w')
            case atStart => exact ⟨(x4_5), (by first | rfl | (simp; done) | (simp [*]; done)), H', ⟨Nat.le_refl _⟩, by repeat (first | exact Drawn0.refl _ | apply Drawn0.step)⟩
            case round =>
              clear H'
              try clear c1
              try clear p2
              try clear c3
              try clear c3b0
              try clear c3b1
              try clear c4
              try clear c4b0
              try clear c4b1
              try clear c5
              try clear p5
              try clear q5
              try clear hx5
              try clear qi5
              try clear c7
              try clear p2
              try clear p5
              try clear q5
              obtain ⟨x5_3, rfl, HA, HK3, ⟨m3, rfl⟩⟩ := hrel
              cases gk with
              | zero => exact absurd HA.out (by simp [lexpriorref02_Parse.l0])
              | succ k3 =>
                have H := HA.out
                clear HA
                simp only [lexpriorref02_Parse.l0] at H
                by_cases c9 : x5_3 < (a0.size : Int)
                · rw [if_pos c9] at H
                  have c9b0 : decide (x5_3 < (a0.size : Int)) = true := decide_eq_true c9
                  clear c9
                  (first | rw [c9b0] | (simp only [i64_w, i32_w]; rw [c9b0]) | skip)
                  by_cases c10 : 0 ≤ x5_3
                  · rw [if_pos c10] at H
                    have c10b0 : decide (0 ≤ x5_3) = true := decide_eq_true c10
                    clear c10
                    replace H := Option.bind_eq_some_iff.mp H
                    obtain ⟨t143, A120, H⟩ := H
                    replace H : (if t143 = true then (lexpriorref02_Parse.l0 k3 a0 x4_5 (wrap64 (x5_3 + 1))) else (lexpriorref02_Parse.j3 k3 a0 x4_5 x5_3)) = some (r1, r2) := H
                    have A12 := Aside0.mk A120
                    clear A120
                    by_cases c13 : t143 = true
                    · subst c13
                      have H1 : (lexpriorref02_Parse.l0 k3 a0 x4_5 (wrap64 (x5_3 + 1))) = some (r1, r2) := by rw [if_pos rfl] at H; exact H
                      clear H
                      have H := H1
                      clear H1
                      have H' := Aside0.mk H
                      clear H
                      have p11 : 0 ≤ (x5_3 : Int) := of_decide_eq_true (by first | (with_reducible assumption) | assumption)
                      have q11 : x5_3 < (a0.size : Int) := of_decide_eq_true (by first | (with_reducible assumption) | assumption)
                      have hx11 := bt_at a0 x5_3
                      replace p11 := eq_true p11
                      replace q11 := eq_true q11
                      go_wp2_with (first | (go_at_call 38; (with_reducible refine (lexpriorref02_digit.calls (bt a0 x5_3) true _ A12.out).mono ?_); rintro e w' ⟨rfl, ⟨nd, rfl⟩⟩; (try first | exact ⟨rfl, _, World.drewN_drewN _ _ _⟩ | exact ⟨rfl, _, Eq.trans (World.drewN_drewN _ _ _) (congrArg (World.drewN _) (Nat.add_assoc _ _ _))⟩)))
                      repeat (go_quiet (first | (go_at_call 38; (with_reducible refine (lexpriorref02_digit.calls (bt a0 x5_3) true _ A12.out).mono ?_); rintro e w' ⟨rfl, ⟨nd, rfl⟩⟩; (try first | exact ⟨rfl, _, World.drewN_drewN _ _ _⟩ | exact ⟨rfl, _, Eq.trans (World.drewN_drewN _ _ _) (congrArg (World.drewN _) (Nat.add_assoc _ _ _))⟩))); try go_wp2_with (first | (go_at_call 38; (with_reducible refine (lexpriorref02_digit.calls (bt a0 x5_3) true _ A12.out).mono ?_); rintro e w' ⟨rfl, ⟨nd, rfl⟩⟩; (try first | exact ⟨rfl, _, World.drewN_drewN _ _ _⟩ | exact ⟨rfl, _, Eq.trans (World.drewN_drewN _ _ _) (congrArg (World.drewN _) (Nat.add_assoc _ _ _))⟩))))
                      go_roundg k3
                      case measure => have := HJ1.out; have := HJ5.out; have := HK3.out; omega
                      case rel => exact ⟨(wrap64 (x5_3 + 1)), (by first | rfl | (simp; done) | (simp [*]; done)), H', ⟨by have := HJ1.out; have := HJ5.out; have := HK3.out; omega⟩, by repeat (first | exact Drawn0.refl _ | apply Drawn0.step)⟩
                    · replace c13 := Bool.eq_false_iff.mpr c13
                      subst c13
                      have H1 : (lexpriorref02_Parse.j3 k3 a0 x4_5 x5_3) = some (r1, r2) := by rw [if_neg (show ¬ (false = true) by decide)] at H; exact H
                      clear H
                      have H := H1
                      clear H1
                      have H' := Aside0.mk H
                      clear H
                      have p11 : 0 ≤ (x5_3 : Int) := of_decide_eq_true (by first | (with_reducible assumption) | assumption)
                      have q11 : x5_3 < (a0.size : Int) := of_decide_eq_true (by first | (with_reducible assumption) | assumption)
                      have hx11 := bt_at a0 x5_3
                      replace p11 := eq_true p11
                      replace q11 := eq_true q11
                      go_wp2_with (first | (go_at_call 38; (with_reducible refine (lexpriorref02_digit.calls (bt a0 x5_3) false _ A12.out).mono ?_); rintro e w' ⟨rfl, ⟨nd, rfl⟩⟩; (try first | exact ⟨rfl, _, World.drewN_drewN _ _ _⟩ | exact ⟨rfl, _, Eq.trans (World.drewN_drewN _ _ _) (congrArg (World.drewN _) (Nat.add_assoc _ _ _))⟩)))
                      repeat (go_quiet (first | (go_at_call 38; (with_reducible refine (lexpriorref02_digit.calls (bt a0 x5_3) false _ A12.out).mono ?_); rintro e w' ⟨rfl, ⟨nd, rfl⟩⟩; (try first | exact ⟨rfl, _, World.drewN_drewN _ _ _⟩ | exact ⟨rfl, _, Eq.trans (World.drewN_drewN _ _ _) (congrArg (World.drewN _) (Nat.add_assoc _ _ _))⟩))); try go_wp2_with (first | (go_at_call 38; (with_reducible refine (lexpriorref02_digit.calls (bt a0 x5_3) false _ A12.out).mono ?_); rintro e w' ⟨rfl, ⟨nd, rfl⟩⟩; (try first | exact ⟨rfl, _, World.drewN_drewN _ _ _⟩ | exact ⟨rfl, _, Eq.trans (World.drewN_drewN _ _ _) (congrArg (World.drewN _) (Nat.add_assoc _ _ _))⟩))))
                      go_meet
                      case rel => exact ⟨_, (x5_3), (by first | rfl | (simp; done) | (simp [*]; done)), H', ⟨by have := HJ1.out; have := HJ5.out; have := HK3.out; first | omega | exact Nat.le_refl _⟩, by repeat (first | exact Drawn0.refl _ | apply Drawn0.step)⟩
                  · rw [if_neg c10] at H
                    exact absurd H (by simp)
                · rw [if_neg c9] at H
                  have c9b0 : decide (x5_3 < (a0.size : Int)) = false := decide_eq_false c9
                  clear c9
                  (first | rw [c9b0] | (simp only [i64_w, i32_w]; rw [c9b0]) | skip)
                  have H' := Aside0.mk H
                  clear H
                  go_wp2
                  repeat (go_quiet (fail); try go_wp2)
                  go_meet
                  case rel => exact ⟨_, (x5_3), (by first | rfl | (simp; done) | (simp [*]; done)), H', ⟨by have := HJ1.out; have := HJ5.out; have := HK3.out; first | omega | exact Nat.le_refl _⟩, by repeat (first | exact Drawn0.refl _ | apply Drawn0.step)⟩
          case rest =>
            clear HC8
            try clear c1
            try clear p1
            try clear q1
            try clear hx1
            try clear p2
            try clear c3
            try clear c3b0
            try clear c3b1
            try clear c4
            try clear c4b0
            try clear c4b1
            try clear c5
            try clear p5
            try clear q5
            try clear hx5
            try clear qi5
            try clear p6
            try clear c7
            try clear c9
            try clear c9b0
            try clear c10
            try clear c10b0
            try clear p11
            try clear q11
            try clear hx11
            try clear c13
            try clear p11
            try clear p2
            try clear p5
            try clear q11
            try clear q5
            obtain ⟨kq, x5_7, rfl, HA, HJ7, ⟨mc7, rfl⟩⟩ := hcut
            cases kq with
            | zero => exact absurd HA.out (by simp [lexpriorref02_Parse.j3])
            | succ kj7 =>
              have H := HA.out
              clear HA
              simp only [lexpriorref02_Parse.j3] at H
              by_cases c14 : 0 ≤ x5_7
              · rw [if_pos c14] at H
                have c14b0 := eq_true c14
                have c14b1 : decide (0 ≤ x5_7) = true := decide_eq_true c14
                clear c14
                by_cases c15 : x5_7 ≤ (a0.size : Int)
                · rw [if_pos c15] at H
                  have c15b0 := eq_true c15
                  have c15b1 : decide (x5_7 ≤ (a0.size : Int)) = true := decide_eq_true c15
                  clear c15
                  have HC16 := Aside0.mk H
                  clear H
                  go_upto_region 8 with (fail)
                  repeat (go_quiet (fail); go_upto_region 8 with (fail))
                  go_cut [46] (fun v46 wc => ∃ (kq : Nat) (x46_15 : Bool), v46 = .bool x46_15 ∧ Aside0 (lexpriorref02_Parse.j4 kq a0 x4_5 x5_7 (a0.extract (x5_7 : Int).toNat a0.size) x46_15 = some (r1, r2)) ∧ Aside0 (kq ≤ kj7) ∧ Drawn0 w wc)
                  case first =>
                    have H := HC16.out
                    clear HC16
                    by_cases c17 : x5_7 = x4_5
                    · rw [if_pos c17] at H
                      have c17b0 : (x5_7 == x4_5) = true := beq_iff_eq.mpr c17
                      have c17b1 : (x5_7 != x4_5) = false := bne_eq_false_iff_eq.mpr c17
                      clear c17
                      (first | rw [c17b0] | (simp only [i64_w, i32_w]; rw [c17b0]) | skip)
                      have H' := Aside0.mk H
                      clear H
                      go_wp2
                      repeat (go_quiet (fail); try go_wp2)
                      go_meet
                      case rel => exact ⟨_, (true), (by first | rfl | (simp; done) | (simp [*]; done)), H', ⟨by have := HJ1.out; have := HJ5.out; have := HJ7.out; first | omega | exact Nat.le_refl _⟩, by repeat (first | exact Drawn0.refl _ | apply Drawn0.step)⟩
                    · rw [if_neg c17] at H
                      have c17b0 : (x5_7 == x4_5) = false := beq_eq_false_iff_ne.mpr c17
                      have c17b1 : (x5_7 != x4_5) = true := bne_iff_ne.mpr c17
                      (first | rw [c17b0] | (simp only [i64_w, i32_w]; rw [c17b0]) | skip)
                      by_cases c18 : 0 ≤ x4_5
                      · rw [if_pos c18] at H
                        have c18b0 : decide (0 ≤ x4_5) = true := decide_eq_true c18
                        clear c18
                        by_cases c19 : x4_5 < (a0.size : Int)
                        · rw [if_pos c19] at H
                          have c19b0 : decide (x4_5 < (a0.size : Int)) = true := decide_eq_true c19
                          clear c19
                          by_cases c21 : (bt a0 x4_5) = 48
                          · rw [if_pos c21] at H
                            have c21b0 : ((bt a0 x4_5) == 48) = true := beq_iff_eq.mpr c21
                            have c21b1 : ((bt a0 x4_5) != 48) = false := bne_eq_false_iff_eq.mpr c21
                            clear c21
                            have H' := Aside0.mk H
                            clear H
                            have p20 : 0 ≤ (x4_5 : Int) := of_decide_eq_true (by first | (with_reducible assumption) | assumption)
                            have q20 : x4_5 < (a0.size : Int) := of_decide_eq_true (by first | (with_reducible assumption) | assumption)
                            have hx20 := bt_at a0 x4_5
                            replace p20 := eq_true p20
                            replace q20 := eq_true q20
                            go_wp2
                            repeat (go_quiet (fail); try go_wp2)
                            go_meet
                            case rel => exact ⟨_, (decide (x5_7 > (wrap64 (x4_5 + 1)))), (by first | rfl | (simp; done) | (simp [*]; done)), H', ⟨by have := HJ1.out; have := HJ5.out; have := HJ7.out; first | omega | exact Nat.le_refl _⟩, by repeat (first | exact Drawn0.refl _ | apply Drawn0.step)⟩
                          · rw [if_neg c21] at H
                            have c21b0 : ((bt a0 x4_5) == 48) = false := beq_eq_false_iff_ne.mpr c21
                            have c21b1 : ((bt a0 x4_5) != 48) = true := bne_iff_ne.mpr c21
                            have H' := Aside0.mk H
                            clear H
                            have p20 : 0 ≤ (x4_5 : Int) := of_decide_eq_true (by first | (with_reducible assumption) | assumption)
                            have q20 : x4_5 < (a0.size : Int) := of_decide_eq_true (by first | (with_reducible assumption) | assumption)
                            have hx20 := bt_at a0 x4_5
                            replace p20 := eq_true p20
                            replace q20 := eq_true q20
                            go_wp2
                            repeat (go_quiet (fail); try go_wp2)
                            go_meet
                            case rel => exact ⟨_, (false), (by first | rfl | (simp; done) | (simp [*]; done)), H', ⟨by have := HJ1.out; have := HJ5.out; have := HJ7.out; first | omega | exact Nat.le_refl _⟩, by repeat (first | exact Drawn0.refl _ | apply Drawn0.step)⟩
                        · rw [if_neg c19] at H
                          exact absurd H (by simp)
                      · rw [if_neg c18] at H
                        exact absurd H (by simp)
                  case rest =>
                    clear HC16
                    try clear c1
                    try clear p1
                    try clear q1
                    try clear hx1
                    try clear c2
                    try clear p2
                    try clear q2
                    try clear hx2
                    try clear c3
                    try clear c3b0
                    try clear c3b1
                    try clear c4
                    try clear c4b0
                    try clear c4b1
                    try clear c5
                    try clear p5
                    try clear q5
                    try clear hx5
                    try clear qi5
                    try clear p6
                    try clear c7
                    try clear c9
                    try clear c9b0
                    try clear c10
                    try clear c10b0
                    try clear p11
                    try clear q11
                    try clear hx11
                    try clear c13
                    try clear c14
                    try clear c14b0
                    try clear c14b1
                    try clear c15
                    try clear c15b0
                    try clear c15b1
                    try clear c17
                    try clear c17b0
                    try clear c17b1
                    try clear c18
                    try clear c18b0
                    try clear c19
                    try clear c19b0
                    try clear p20
                    try clear q20
                    try clear hx20
                    try clear c21
                    try clear c21b0
                    try clear c21b1
                    try clear p1
                    try clear p11
                    try clear p2
                    try clear p20
                    try clear p5
                    try clear p6
                    try clear q1
                    try clear q11
                    try clear q20
                    try clear q5
                    obtain ⟨kq, x46_15, rfl, HA, HJ15, ⟨mc15, rfl⟩⟩ := hcut
                    cases kq with
                    | zero => exact absurd HA.out (by simp [lexpriorref02_Parse.j4])
                    | succ kj15 =>
                      have H := HA.out
                      clear HA
                      obtain ⟨rs, Hrs⟩ : ∃ rs, a0.extract (x5_7 : Int).toNat a0.size = rs := ⟨_, rfl⟩
                      rw [Hrs] at H
                      rw [Hrs]
                      clear Hrs
                      simp only [lexpriorref02_Parse.j4] at H
                      by_cases c22 : x46_15 = true
                      · subst c22
                        have H1 : (some (0, 21)) = some (r1, r2) := by rw [if_pos rfl] at H; exact H
                        clear H
                        have H := H1
                        clear H1
                        simp only [Option.some.injEq, Prod.mk.injEq] at H
                        obtain ⟨rfl, rfl⟩ := H
                        go_wp2
                        repeat (go_quiet (fail); try go_wp2)
                        go_ret2
                        exact ⟨by first | rfl | (simp; done) | (simp [*]; done), by repeat (first | exact Drawn0.refl _ | apply Drawn0.step)⟩
                      · replace c22 := Bool.eq_false_iff.mpr c22
                        subst c22
                        have H1 : (if rs.toList = ([] : List UInt8) then (lexpriorref02_Parse.j5 kj15 a0 x4_5 x5_7 rs false) else (if (rs.size : Int) = 3 then (if 0 < (rs.size : Int) then (if (bt rs 0) = 46 then (if 1 < (rs.size : Int) then ((lexpriorref02_digit.f (bt rs 1)).bind fun t144 => (if t144 = true then (if 2 < (rs.size : Int) then ((lexpriorref02_digit.f (bt rs 2)).bind fun t145 => (if t145 = true then (lexpriorref02_Parse.j5 kj15 a0 x4_5 x5_7 rs (rs.toList == ([46, 48, 48] : List UInt8))) else (lexpriorref02_Parse.j5 kj15 a0 x4_5 x5_7 rs true))) else (none)) else (lexpriorref02_Parse.j5 kj15 a0 x4_5 x5_7 rs true))) else (none)) else (lexpriorref02_Parse.j5 kj15 a0 x4_5 x5_7 rs true)) else (none)) else (lexpriorref02_Parse.j5 kj15 a0 x4_5 x5_7 rs true))) = some (r1, r2) := by rw [if_neg (show ¬ (false = true) by decide)] at H; exact H
                        clear H
                        have H := H1
                        clear H1
                        have HC23 := Aside0.mk H
                        clear H
                        go_upto_region 10 with (fail)
                        repeat (go_quiet (fail); go_upto_region 10 with (fail))
                        go_cut [74] (fun v74 wc => ∃ (kq : Nat) (x74_22 : Bool), v74 = .bool x74_22 ∧ Aside0 (lexpriorref02_Parse.j5 kq a0 x4_5 x5_7 rs x74_22 = some (r1, r2)) ∧ Aside0 (kq ≤ kj15) ∧ Drawn0 w wc)
                        case first =>
                          have H := HC23.out
                          clear HC23
                          by_cases c24 : rs.toList = ([] : List UInt8)
                          · rw [if_pos c24] at H
                            have c24b0 : (rs.toList == ([] : List UInt8)) = true := beq_iff_eq.mpr c24
                            have c24b1 : (rs.toList != ([] : List UInt8)) = false := bne_eq_false_iff_eq.mpr c24
                            clear c24
                            (first | rw [c24b0] | (simp only [i64_w, i32_w]; rw [c24b0]) | skip)
                            have H' := Aside0.mk H
                            clear H
                            go_wp2
                            repeat (go_quiet (fail); try go_wp2)
                            go_meet
                            case rel => exact ⟨_, (false), (by first | rfl | (simp; done) | (simp [*]; done)), H', ⟨by have := HJ1.out; have := HJ5.out; have := HJ7.out; have := HJ15.out; first | omega | exact Nat.le_refl _⟩, by repeat (first | exact Drawn0.refl _ | apply Drawn0.step)⟩
                          · rw [if_neg c24] at H
                            have c24b0 : (rs.toList == ([] : List UInt8)) = false := beq_eq_false_iff_ne.mpr c24
                            have c24b1 : (rs.toList != ([] : List UInt8)) = true := bne_iff_ne.mpr c24
                            (first | rw [c24b0] | (simp only [i64_w, i32_w]; rw [c24b0]) | skip)
                            by_cases c25 : (rs.size : Int) = 3
                            · rw [if_pos c25] at H
                              have c25b0 : ((rs.size : Int) == 3) = true := beq_iff_eq.mpr c25
                              have c25b1 : ((rs.size : Int) != 3) = false := bne_eq_false_iff_eq.mpr c25
                              clear c25
                              by_cases c26 : 0 < (rs.size : Int)
                              · rw [if_pos c26] at H
                                have c26b0 : decide (0 < (rs.size : Int)) = true := decide_eq_true c26
                                have c26b1 : decide (0 < rs.size) = true := decide_eq_true (by omega)
                                clear c26
                                by_cases c28 : (bt rs 0) = 46
                                · rw [if_pos c28] at H
                                  have c28b0 : ((bt rs 0) == 46) = true := beq_iff_eq.mpr c28
                                  have c28b1 : ((bt rs 0) != 46) = false := bne_eq_false_iff_eq.mpr c28
                                  clear c28
                                  by_cases c29 : 1 < (rs.size : Int)
                                  · rw [if_pos c29] at H
                                    have c29b0 : decide (1 < (rs.size : Int)) = true := decide_eq_true c29
                                    have c29b1 : decide (1 < rs.size) = true := decide_eq_true (by omega)
                                    clear c29
                                    replace H := Option.bind_eq_some_iff.mp H
                                    obtain ⟨t144, A310, H⟩ := H
                                    replace H : (if t144 = true then (if 2 < (rs.size : Int) then ((lexpriorref02_digit.f (bt rs 2)).bind fun t145 => (if t145 = true then (lexpriorref02_Parse.j5 kj15 a0 x4_5 x5_7 rs (rs.toList == ([46, 48, 48] : List UInt8))) else (lexpriorref02_Parse.j5 kj15 a0 x4_5 x5_7 rs true))) else (none)) else (lexpriorref02_Parse.j5 kj15 a0 x4_5 x5_7 rs true)) = some (r1, r2) := H
                                    have A31 := Aside0.mk A310
                                    clear A310
                                    by_cases c32 : t144 = true
                                    · subst c32
                                      have H1 : (if 2 < (rs.size : Int) then ((lexpriorref02_digit.f (bt rs 2)).bind fun t145 => (if t145 = true then (lexpriorref02_Parse.j5 kj15 a0 x4_5 x5_7 rs (rs.toList == ([46, 48, 48] : List UInt8))) else (lexpriorref02_Parse.j5 kj15 a0 x4_5 x5_7 rs true))) else (none)) = some (r1, r2) := by rw [if_pos rfl] at H; exact H
                                      clear H
                                      have H := H1
                                      clear H1
                                      by_cases c33 : 2 < (rs.size : Int)
                                      · rw [if_pos c33] at H
                                        have c33b0 : decide (2 < (rs.size : Int)) = true := decide_eq_true c33
                                        have c33b1 : decide (2 < rs.size) = true := decide_eq_true (by omega)
                                        clear c33
                                        replace H := Option.bind_eq_some_iff.mp H
                                        obtain ⟨t145, A350, H⟩ := H
                                        replace H : (if t145 = true then (lexpriorref02_Parse.j5 kj15 a0 x4_5 x5_7 rs (rs.toList == ([46, 48, 48] : List UInt8))) else (lexpriorref02_Parse.j5 kj15 a0 x4_5 x5_7 rs true)) = some (r1, r2) := H
                                        have A35 := Aside0.mk A350
                                        clear A350
                                        by_cases c36 : t145 = true
                                        · subst c36
                                          have H1 : (lexpriorref02_Parse.j5 kj15 a0 x4_5 x5_7 rs (rs.toList == ([46, 48, 48] : List UInt8))) = some (r1, r2) := by rw [if_pos rfl] at H; exact H
                                          clear H
                                          have H := H1
                                          clear H1
                                          have H' := Aside0.mk H
                                          clear H
                                          have p27 : 0 ≤ (0 : Int) := (by omega)
                                          have q27 : 0 < rs.size := (by have : (0 : Int) < (rs.size : Int) := of_decide_eq_true (by first | (with_reducible assumption) | assumption); omega)
                                          have hx27 : ∀ h : 0 < rs.size, ((rs[0]'h).toNat : Int) = bt rs 0 := bt_at rs 0
                                          clear p27
                                          have qi27 : (0 < (rs.size : Int)) = True := eq_true (of_decide_eq_true (by first | (with_reducible assumption) | assumption))
                                          replace q27 := eq_true q27
                                          have p30 : 0 ≤ (1 : Int) := (by omega)
                                          have q30 : 1 < rs.size := (by have : (1 : Int) < (rs.size : Int) := of_decide_eq_true (by first | (with_reducible assumption) | assumption); omega)
                                          have hx30 : ∀ h : 1 < rs.size, ((rs[1]'h).toNat : Int) = bt rs 1 := bt_at rs 1
                                          clear p30
                                          have qi30 : (1 < (rs.size : Int)) = True := eq_true (of_decide_eq_true (by first | (with_reducible assumption) | assumption))
                                          replace q30 := eq_true q30
                                          go_wp2_with (first | (go_at_call 38; (with_reducible refine (lexpriorref02_digit.calls (bt rs 1) true _ A31.out).mono ?_); rintro e w' ⟨rfl, ⟨nd, rfl⟩⟩; (try first | exact ⟨rfl, _, World.drewN_drewN _ _ _⟩ | exact ⟨rfl, _, Eq.trans (World.drewN_drewN _ _ _) (congrArg (World.drewN _) (Nat.add_assoc _ _ _))⟩); have p34 : 0 ≤ (2 : Int) := (by omega); have q34 : 2 < rs.size := (by have : (2 : Int) < (rs.size : Int) := of_decide_eq_true (by first | (with_reducible assumption) | assumption); omega); have hx34 : ∀ h : 2 < rs.size, ((rs[2]'h).toNat : Int) = bt rs 2 := bt_at rs 2; clear p34; have qi34 : (2 < (rs.size : Int)) = True := eq_true (of_decide_eq_true (by first | (with_reducible assumption) | assumption)); replace q34 := eq_true q34) | (go_at_call 38; (with_reducible refine (lexpriorref02_digit.calls (bt rs 2) true _ A35.out).mono ?_); rintro e w' ⟨rfl, ⟨nd, rfl⟩⟩; (try first | exact ⟨rfl, _, World.drewN_drewN _ _ _⟩ | exact ⟨rfl, _, Eq.trans (World.drewN_drewN _ _ _) (congrArg (World.drewN _) (Nat.add_assoc _ _ _))⟩)))
                                          repeat (go_quiet (first | (go_at_call 38; (with_reducible refine (lexpriorref02_digit.calls (bt rs 1) true _ A31.out).mono ?_); rintro e w' ⟨rfl, ⟨nd, rfl⟩⟩; (try first | exact ⟨rfl, _, World.drewN_drewN _ _ _⟩ | exact ⟨rfl, _, Eq.trans (World.drewN_drewN _ _ _) (congrArg (World.drewN _) (Nat.add_assoc _ _ _))⟩); have p34 : 0 ≤ (2 : Int) := (by omega); have q34 : 2 < rs.size := (by have : (2 : Int) < (rs.size : Int) := of_decide_eq_true (by first | (with_reducible assumption) | assumption); omega); have hx34 : ∀ h : 2 < rs.size, ((rs[2]'h).toNat : Int) = bt rs 2 := bt_at rs 2; clear p34; have qi34 : (2 < (rs.size : Int)) = True := eq_true (of_decide_eq_true (by first | (with_reducible assumption) | assumption)); replace q34 := eq_true q34) | (go_at_call 38; (with_reducible refine (lexpriorref02_digit.calls (bt rs 2) true _ A35.out).mono ?_); rintro e w' ⟨rfl, ⟨nd, rfl⟩⟩; (try first | exact ⟨rfl, _, World.drewN_drewN _ _ _⟩ | exact ⟨rfl, _, Eq.trans (World.drewN_drewN _ _ _) (congrArg (World.drewN _) (Nat.add_assoc _ _ _))⟩))); try go_wp2_with (first | (go_at_call 38; (with_reducible refine (lexpriorref02_digit.calls (bt rs 1) true _ A31.out).mono ?_); rintro e w' ⟨rfl, ⟨nd, rfl⟩⟩; (try first | exact ⟨rfl, _, World.drewN_drewN _ _ _⟩ | exact ⟨rfl, _, Eq.trans (World.drewN_drewN _ _ _) (congrArg (World.drewN _) (Nat.add_assoc _ _ _))⟩); have p34 : 0 ≤ (2 : Int) := (by omega); have q34 : 2 < rs.size := (by have : (2 : Int) < (rs.size : Int) := of_decide_eq_true (by first | (with_reducible assumption) | assumption); omega); have hx34 : ∀ h : 2 < rs.size, ((rs[2]'h).toNat : Int) = bt rs 2 := bt_at rs 2; clear p34; have qi34 : (2 < (rs.size : Int)) = True := eq_true (of_decide_eq_true (by first | (with_reducible assumption) | assumption)); replace q34 := eq_true q34) | (go_at_call 38; (with_reducible refine (lexpriorref02_digit.calls (bt rs 2) true _ A35.out).mono ?_); rintro e w' ⟨rfl, ⟨nd, rfl⟩⟩; (try first | exact ⟨rfl, _, World.drewN_drewN _ _ _⟩ | exact ⟨rfl, _, Eq.trans (World.drewN_drewN _ _ _) (congrArg (World.drewN _) (Nat.add_assoc _ _ _))⟩))))
                                          go_meet
                                          case rel => exact ⟨_, ((rs.toList == ([46, 48, 48] : List UInt8))), (by first | rfl | (simp; done) | (simp [*]; done)), H', ⟨by have := HJ1.out; have := HJ5.out; have := HJ7.out; have := HJ15.out; first | omega | exact Nat.le_refl _⟩, by repeat (first | exact Drawn0.refl _ | apply Drawn0.step)⟩
                                        · replace c36 := Bool.eq_false_iff.mpr c36
                                          subst c36
                                          have H1 : (lexpriorref02_Parse.j5 kj15 a0 x4_5 x5_7 rs true) = some (r1, r2) := by rw [if_neg (show ¬ (false = true) by decide)] at H; exact H
                                          clear H
                                          have H := H1
                                          clear H1
                                          have H' := Aside0.mk H
                                          clear H
                                          have p27 : 0 ≤ (0 : Int) := (by omega)
                                          have q27 : 0 < rs.size := (by have : (0 : Int) < (rs.size : Int) := of_decide_eq_true (by first | (with_reducible assumption) | assumption); omega)
                                          have hx27 : ∀ h : 0 < rs.size, ((rs[0]'h).toNat : Int) = bt rs 0 := bt_at rs 0
                                          clear p27
                                          have qi27 : (0 < (rs.size : Int)) = True := eq_true (of_decide_eq_true (by first | (with_reducible assumption) | assumption))
                                          replace q27 := eq_true q27
                                          have p30 : 0 ≤ (1 : Int) := (by omega)
                                          have q30 : 1 < rs.size := (by have : (1 : Int) < (rs.size : Int) := of_decide_eq_true (by first | (with_reducible assumption) | assumption); omega)
                                          have hx30 : ∀ h : 1 < rs.size, ((rs[1]'h).toNat : Int) = bt rs 1 := bt_at rs 1
                                          clear p30
                                          have qi30 : (1 < (rs.size : Int)) = True := eq_true (of_decide_eq_true (by first | (with_reducible assumption) | assumption))
                                          replace q30 := eq_true q30
                                          go_wp2_with (first | (go_at_call 38; (with_reducible refine (lexpriorref02_digit.calls (bt rs 1) true _ A31.out).mono ?_); rintro e w' ⟨rfl, ⟨nd, rfl⟩⟩; (try first | exact ⟨rfl, _, World.drewN_drewN _ _ _⟩ | exact ⟨rfl, _, Eq.trans (World.drewN_drewN _ _ _) (congrArg (World.drewN _) (Nat.add_assoc _ _ _))⟩); have p34 : 0 ≤ (2 : Int) := (by omega); have q34 : 2 < rs.size := (by have : (2 : Int) < (rs.size : Int) := of_decide_eq_true (by first | (with_reducible assumption) | assumption); omega); have hx34 : ∀ h : 2 < rs.size, ((rs[2]'h).toNat : Int) = bt rs 2 := bt_at rs 2; clear p34; have qi34 : (2 < (rs.size : Int)) = True := eq_true (of_decide_eq_true (by first | (with_reducible assumption) | assumption)); replace q34 := eq_true q34) | (go_at_call 38; (with_reducible refine (lexpriorref02_digit.calls (bt rs 2) false _ A35.out).mono ?_); rintro e w' ⟨rfl, ⟨nd, rfl⟩⟩; (try first | exact ⟨rfl, _, World.drewN_drewN _ _ _⟩ | exact ⟨rfl, _, Eq.trans (World.drewN_drewN _ _ _) (congrArg (World.drewN _) (Nat.add_assoc _ _ _))⟩)))
                                          repeat (go_quiet (first | (go_at_call 38; (with_reducible refine (lexpriorref02_digit.calls (bt rs 1) true _ A31.out).mono ?_); rintro e w' ⟨rfl, ⟨nd, rfl⟩⟩; (try first | exact ⟨rfl, _, World.drewN_drewN _ _ _⟩ | exact ⟨rfl, _, Eq.trans (World.drewN_drewN _ _ _) (congrArg (World.drewN _) (Nat.add_assoc _ _ _))⟩); have p34 : 0 ≤ (2 : Int) := (by omega); have q34 : 2 < rs.size := (by have : (2 : Int) < (rs.size : Int) := of_decide_eq_true (by first | (with_reducible assumption) | assumption); omega); have hx34 : ∀ h : 2 < rs.size, ((rs[2]'h).toNat : Int) = bt rs 2 := bt_at rs 2; clear p34; have qi34 : (2 < (rs.size : Int)) = True := eq_true (of_decide_eq_true (by first | (with_reducible assumption) | assumption)); replace q34 := eq_true q34) | (go_at_call 38; (with_reducible refine (lexpriorref02_digit.calls (bt rs 2) false _ A35.out).mono ?_); rintro e w' ⟨rfl, ⟨nd, rfl⟩⟩; (try first | exact ⟨rfl, _, World.drewN_drewN _ _ _⟩ | exact ⟨rfl, _, Eq.trans (World.drewN_drewN _ _ _) (congrArg (World.drewN _) (Nat.add_assoc _ _ _))⟩))); try go_wp2_with (first | (go_at_call 38; (with_reducible refine (lexpriorref02_digit.calls (bt rs 1) true _ A31.out).mono ?_); rintro e w' ⟨rfl, ⟨nd, rfl⟩⟩; (try first | exact ⟨rfl, _, World.drewN_drewN _ _ _⟩ | exact ⟨rfl, _, Eq.trans (World.drewN_drewN _ _ _) (congrArg (World.drewN _) (Nat.add_assoc _ _ _))⟩); have p34 : 0 ≤ (2 : Int) := (by omega); have q34 : 2 < rs.size := (by have : (2 : Int) < (rs.size : Int) := of_decide_eq_true (by first | (with_reducible assumption) | assumption); omega); have hx34 : ∀ h : 2 < rs.size, ((rs[2]'h).toNat : Int) = bt rs 2 := bt_at rs 2; clear p34; have qi34 : (2 < (rs.size : Int)) = True := eq_true (of_decide_eq_true (by first | (with_reducible assumption) | assumption)); replace q34 := eq_true q34) | (go_at_call 38; (with_reducible refine (lexpriorref02_digit.calls (bt rs 2) false _ A35.out).mono ?_); rintro e w' ⟨rfl, ⟨nd, rfl⟩⟩; (try first | exact ⟨rfl, _, World.drewN_drewN _ _ _⟩ | exact ⟨rfl, _, Eq.trans (World.drewN_drewN _ _ _) (congrArg (World.drewN _) (Nat.add_assoc _ _ _))⟩))))
                                          go_meet
                                          case rel => exact ⟨_, (true), (by first | rfl | (simp; done) | (simp [*]; done)), H', ⟨by have := HJ1.out; have := HJ5.out; have := HJ7.out; have := HJ15.out; first | omega | exact Nat.le_refl _⟩, by repeat (first | exact Drawn0.refl _ | apply Drawn0.step)⟩
                                      · rw [if_neg c33] at H
                                        exact absurd H (by simp)
                                    · replace c32 := Bool.eq_false_iff.mpr c32
                                      subst c32
                                      have H1 : (lexpriorref02_Parse.j5 kj15 a0 x4_5 x5_7 rs true) = some (r1, r2) := by rw [if_neg (show ¬ (false = true) by decide)] at H; exact H
                                      clear H
                                      have H := H1
                                      clear H1
                                      have H' := Aside0.mk H
                                      clear H
                                      have p27 : 0 ≤ (0 : Int) := (by omega)
                                      have q27 : 0 < rs.size := (by have : (0 : Int) < (rs.size : Int) := of_decide_eq_true (by first | (with_reducible assumption) | assumption); omega)
                                      have hx27 : ∀ h : 0 < rs.size, ((rs[0]'h).toNat : Int) = bt rs 0 := bt_at rs 0
                                      clear p27
                                      have qi27 : (0 < (rs.size : Int)) = True := eq_true (of_decide_eq_true (by first | (with_reducible assumption) | assumption))
                                      replace q27 := eq_true q27
                                      have p30 : 0 ≤ (1 : Int) := (by omega)
                                      have q30 : 1 < rs.size := (by have : (1 : Int) < (rs.size : Int) := of_decide_eq_true (by first | (with_reducible assumption) | assumption); omega)
                                      have hx30 : ∀ h : 1 < rs.size, ((rs[1]'h).toNat : Int) = bt rs 1 := bt_at rs 1
                                      clear p30
                                      have qi30 : (1 < (rs.size : Int)) = True := eq_true (of_decide_eq_true (by first | (with_reducible assumption) | assumption))
                                      replace q30 := eq_true q30
                                      go_wp2_with (first | (go_at_call 38; (with_reducible refine (lexpriorref02_digit.calls (bt rs 1) false _ A31.out).mono ?_); rintro e w' ⟨rfl, ⟨nd, rfl⟩⟩; (try first | exact ⟨rfl, _, World.drewN_drewN _ _ _⟩ | exact ⟨rfl, _, Eq.trans (World.drewN_drewN _ _ _) (congrArg (World.drewN _) (Nat.add_assoc _ _ _))⟩)))
                                      repeat (go_quiet (first | (go_at_call 38; (with_reducible refine (lexpriorref02_digit.calls (bt rs 1) false _ A31.out).mono ?_); rintro e w' ⟨rfl, ⟨nd, rfl⟩⟩; (try first | exact ⟨rfl, _, World.drewN_drewN _ _ _⟩ | exact ⟨rfl, _, Eq.trans (World.drewN_drewN _ _ _) (congrArg (World.drewN _) (Nat.add_assoc _ _ _))⟩))); try go_wp2_with (first | (go_at_call 38; (with_reducible refine (lexpriorref02_digit.calls (bt rs 1) false _ A31.out).mono ?_); rintro e w' ⟨rfl, ⟨nd, rfl⟩⟩; (try first | exact ⟨rfl, _, World.drewN_drewN _ _ _⟩ | exact ⟨rfl, _, Eq.trans (World.drewN_drewN _ _ _) (congrArg (World.drewN _) (Nat.add_assoc _ _ _))⟩))))
                                      go_meet
                                      case rel => exact ⟨_, (true), (by first | rfl | (simp; done) | (simp [*]; done)), H', ⟨by have := HJ1.out; have := HJ5.out; have := HJ7.out; have := HJ15.out; first | omega | exact Nat.le_refl _⟩, by repeat (first | exact Drawn0.refl _ | apply Drawn0.step)⟩
                                  · rw [if_neg c29] at H
                                    exact absurd H (by simp)
                                · rw [if_neg c28] at H
                                  have c28b0 : ((bt rs 0) == 46) = false := beq_eq_false_iff_ne.mpr c28
                                  have c28b1 : ((bt rs 0) != 46) = true := bne_iff_ne.mpr c28
                                  have H' := Aside0.mk H
                                  clear H
                                  have p27 : 0 ≤ (0 : Int) := (by omega)
                                  have q27 : 0 < rs.size := (by have : (0 : Int) < (rs.size : Int) := of_decide_eq_true (by first | (with_reducible assumption) | assumption); omega)
                                  have hx27 : ∀ h : 0 < rs.size, ((rs[0]'h).toNat : Int) = bt rs 0 := bt_at rs 0
                                  clear p27
                                  have qi27 : (0 < (rs.size : Int)) = True := eq_true (of_decide_eq_true (by first | (with_reducible assumption) | assumption))
                                  replace q27 := eq_true q27
                                  go_wp2
                                  repeat (go_quiet (fail); try go_wp2)
                                  go_meet
                                  case rel => exact ⟨_, (true), (by first | rfl | (simp; done) | (simp [*]; done)), H', ⟨by have := HJ1.out; have := HJ5.out; have := HJ7.out; have := HJ15.out; first | omega | exact Nat.le_refl _⟩, by repeat (first | exact Drawn0.refl _ | apply Drawn0.step)⟩
                              · rw [if_neg c26] at H
                                exact absurd H (by simp)
                            · rw [if_neg c25] at H
                              have c25b0 : ((rs.size : Int) == 3) = false := beq_eq_false_iff_ne.mpr c25
                              have c25b1 : ((rs.size : Int) != 3) = true := bne_iff_ne.mpr c25
                              have H' := Aside0.mk H
                              clear H
                              go_wp2
                              repeat (go_quiet (fail); try go_wp2)
                              go_meet
                              case rel => exact ⟨_, (true), (by first | rfl | (simp; done) | (simp [*]; done)), H', ⟨by have := HJ1.out; have := HJ5.out; have := HJ7.out; have := HJ15.out; first | omega | exact Nat.le_refl _⟩, by repeat (first | exact Drawn0.refl _ | apply Drawn0.step)⟩
                        case rest =>
                          clear HC23
                          try clear c1
                          try clear p1
                          try clear q1
                          try clear hx1
                          try clear c2
                          try clear p2
                          try clear q2
                          try clear hx2
                          try clear qi2
                          try clear c3
                          try clear c3b0
                          try clear c3b1
                          try clear p3
                          try clear q3
                          try clear hx3
                          try clear qi3
                          try clear c4
                          try clear c4b0
                          try clear c4b1
                          try clear c5
                          try clear p5
                          try clear q5
                          try clear hx5
                          try clear qi5
                          try clear p6
                          try clear c7
                          try clear c9
                          try clear c9b0
                          try clear c10
                          try clear c10b0
                          try clear p11
                          try clear q11
                          try clear hx11
                          try clear c13
                          try clear c14
                          try clear c14b0
                          try clear c14b1
                          try clear c15
                          try clear c15b0
                          try clear c15b1
                          try clear c17
                          try clear c17b0
                          try clear c17b1
                          try clear c18
                          try clear c18b0
                          try clear c19
                          try clear c19b0
                          try clear p20
                          try clear q20
                          try clear hx20
                          try clear c21
                          try clear c21b0
                          try clear c21b1
                          try clear c22
                          try clear c24
                          try clear c24b0
                          try clear c24b1
                          try clear c25
                          try clear c25b0
                          try clear c25b1
                          try clear c26
                          try clear c26b0
                          try clear c26b1
                          try clear p27
                          try clear q27
                          try clear hx27
                          try clear qi27
                          try clear c28
                          try clear c28b0
                          try clear c28b1
                          try clear c29
                          try clear c29b0
                          try clear c29b1
                          try clear p30
                          try clear q30
                          try clear hx30
                          try clear qi30
                          try clear c32
                          try clear c33
                          try clear c33b0
                          try clear c33b1
                          try clear p34
                          try clear q34
                          try clear hx34
                          try clear qi34
                          try clear c36
                          try clear p1
                          try clear p11
                          try clear p2
                          try clear p20
                          try clear p27
                          try clear p30
                          try clear p34
                          try clear p5
                          try clear p6
                          try clear q1
                          try clear q11
                          try clear q2
                          try clear q20
                          try clear q27
                          try clear q30
                          try clear q34
                          try clear q5
                          obtain ⟨kq, x74_22, rfl, HA, HJ22, ⟨mc22, rfl⟩⟩ := hcut
                          cases kq with
                          | zero => exact absurd HA.out (by simp [lexpriorref02_Parse.j5])
                          | succ kj22 =>
                            have H := HA.out
                            clear HA
                            simp only [lexpriorref02_Parse.j5] at H
                            by_cases c37 : x74_22 = true
                            · subst c37
                              have H1 : (some (0, 21)) = some (r1, r2) := by rw [if_pos rfl] at H; exact H
                              clear H
                              have H := H1
                              clear H1
                              simp only [Option.some.injEq, Prod.mk.injEq] at H
                              obtain ⟨rfl, rfl⟩ := H
                              go_wp2
                              repeat (go_quiet (fail); try go_wp2)
                              go_ret2
                              exact ⟨by first | rfl | (simp; done) | (simp [*]; done), by repeat (first | exact Drawn0.refl _ | apply Drawn0.step)⟩
                            · replace c37 := Bool.eq_false_iff.mpr c37
                              subst c37
                              have H1 : (if x4_5 = 1 then (if 1 ≤ (a0.size : Int) then (lexpriorref02_Parse.j6 kj22 a0 x4_5 x5_7 rs ((a0.extract 1 a0.size).toList == ([48] : List UInt8))) else (none)) else (lexpriorref02_Parse.j6 kj22 a0 x4_5 x5_7 rs false)) = some (r1, r2) := by rw [if_neg (show ¬ (false = true) by decide)] at H; exact H
                              clear H
                              have H := H1
                              clear H1
                              have HC38 := Aside0.mk H
                              clear H
                              go_upto_region 12 with (fail)
                              repeat (go_quiet (fail); go_upto_region 12 with (fail))
                              go_cut [81] (fun v81 wc => ∃ (kq : Nat) (x81_37 : Bool), v81 = .bool x81_37 ∧ Aside0 (lexpriorref02_Parse.j6 kq a0 x4_5 x5_7 rs x81_37 = some (r1, r2)) ∧ Aside0 (kq ≤ kj22) ∧ Drawn0 w wc)
                              case first =>
                                have H := HC38.out
                                clear HC38
                                by_cases c39 : x4_5 = 1
                                · rw [if_pos c39] at H
                                  have c39b0 : (x4_5 == 1) = true := beq_iff_eq.mpr c39
                                  have c39b1 : (x4_5 != 1) = false := bne_eq_false_iff_eq.mpr c39
                                  clear c39
                                  (first | rw [c39b0] | (simp only [i64_w, i32_w]; rw [c39b0]) | skip)
                                  by_cases c40 : 1 ≤ (a0.size : Int)
                                  · rw [if_pos c40] at H
                                    have c40b0 := eq_true c40
                                    have c40b1 : decide (1 ≤ (a0.size : Int)) = true := decide_eq_true c40
                                    clear c40
                                    have H' := Aside0.mk H
                                    clear H
                                    go_wp2
                                    repeat (go_quiet (fail); try go_wp2)
                                    go_meet
                                    case rel => exact ⟨_, (((a0.extract 1 a0.size).toList == ([48] : List UInt8))), (by first | rfl | (simp; done) | (simp [*]; done)), H', ⟨by have := HJ1.out; have := HJ5.out; have := HJ7.out; have := HJ15.out; have := HJ22.out; first | omega | exact Nat.le_refl _⟩, by repeat (first | exact Drawn0.refl _ | apply Drawn0.step)⟩
                                  · rw [if_neg c40] at H
                                    exact absurd H (by simp)
                                · rw [if_neg c39] at H
                                  have c39b0 : (x4_5 == 1) = false := beq_eq_false_iff_ne.mpr c39
                                  have c39b1 : (x4_5 != 1) = true := bne_iff_ne.mpr c39
                                  (first | rw [c39b0] | (simp only [i64_w, i32_w]; rw [c39b0]) | skip)
                                  have H' := Aside0.mk H
                                  clear H
                                  go_wp2
                                  repeat (go_quiet (fail); try go_wp2)
                                  go_meet
                                  case rel => exact ⟨_, (false), (by first | rfl | (simp; done) | (simp [*]; done)), H', ⟨by have := HJ1.out; have := HJ5.out; have := HJ7.out; have := HJ15.out; have := HJ22.out; first | omega | exact Nat.le_refl _⟩, by repeat (first | exact Drawn0.refl _ | apply Drawn0.step)⟩
                              case rest =>
                                clear HC38
                                try clear c1
                                try clear p1
                                try clear q1
                                try clear hx1
                                try clear c2
                                try clear p2
                                try clear q2
                                try clear hx2
                                try clear qi2
                                try clear c3
                                try clear c3b0
                                try clear c3b1
                                try clear p3
                                try clear q3
                                try clear hx3
                                try clear qi3
                                try clear c4
                                try clear c4b0
                                try clear c4b1
                                try clear c5
                                try clear p5
                                try clear q5
                                try clear hx5
                                try clear qi5
                                try clear p6
                                try clear c7
                                try clear c9
                                try clear c9b0
                                try clear c10
                                try clear c10b0
                                try clear p11
                                try clear q11
                                try clear hx11
                                try clear c13
                                try clear c14
                                try clear c14b0
                                try clear c14b1
                                try clear c15
                                try clear c15b0
                                try clear c15b1
                                try clear c17
                                try clear c17b0
                                try clear c17b1
                                try clear c18
                                try clear c18b0
                                try clear c19
                                try clear c19b0
                                try clear p20
                                try clear q20
                                try clear hx20
                                try clear c21
                                try clear c21b0
                                try clear c21b1
                                try clear c22
                                try clear c24
                                try clear c24b0
                                try clear c24b1
                                try clear c25
                                try clear c25b0
                                try clear c25b1
                                try clear c26
                                try clear c26b0
                                try clear c26b1
                                try clear p27
                                try clear q27
                                try clear hx27
                                try clear qi27
                                try clear c28
                                try clear c28b0
                                try clear c28b1
                                try clear c29
                                try clear c29b0
                                try clear c29b1
                                try clear p30
                                try clear q30
                                try clear hx30
                                try clear qi30
                                try clear c32
                                try clear c33
                                try clear c33b0
                                try clear c33b1
                                try clear p34
                                try clear q34
                                try clear hx34
                                try clear qi34
                                try clear c36
                                try clear c37
                                try clear c39
                                try clear c39b0
                                try clear c39b1
                                try clear c40
                                try clear c40b0
                                try clear c40b1
                                try clear p1
                                try clear p11
                                try clear p2
                                try clear p20
                                try clear p27
                                try clear p3
                                try clear p30
                                try clear p34
                                try clear p5
                                try clear p6
                                try clear q1
                                try clear q11
                                try clear q2
                                try clear q20
                                try clear q27
                                try clear q3
                                try clear q30
                                try clear q34
                                try clear q5
                                obtain ⟨kq, x81_37, rfl, HA, HJ37, ⟨mc37, rfl⟩⟩ := hcut
                                cases kq with
                                | zero => exact absurd HA.out (by simp [lexpriorref02_Parse.j6])
                                | succ kj37 =>
                                  have H := HA.out
                                  clear HA
                                  simp only [lexpriorref02_Parse.j6] at H
                                  by_cases c41 : x81_37 = true
                                  · subst c41
                                    have H1 : (some (0, 21)) = some (r1, r2) := by rw [if_pos rfl] at H; exact H
                                    clear H
                                    have H := H1
                                    clear H1
                                    simp only [Option.some.injEq, Prod.mk.injEq] at H
                                    obtain ⟨rfl, rfl⟩ := H
                                    go_wp2
                                    repeat (go_quiet (fail); try go_wp2)
                                    go_ret2
                                    exact ⟨by first | rfl | (simp; done) | (simp [*]; done), by repeat (first | exact Drawn0.refl _ | apply Drawn0.step)⟩
                                  · replace c41 := Bool.eq_false_iff.mpr c41
                                    subst c41
                                    have H1 : (if (wrap64 (x5_7 - x4_5)) > 15 then (some (0, 22)) else (lexpriorref02_Parse.l1 kj37 a0 x4_5 x5_7 rs 0 x4_5)) = some (r1, r2) := by rw [if_neg (show ¬ (false = true) by decide)] at H; exact H
                                    clear H
                                    have H := H1
                                    clear H1
                                    by_cases c42 : (wrap64 (x5_7 - x4_5)) > 15
                                    · rw [if_pos c42] at H
                                      have c42b0 : decide (15 < (wrap64 (x5_7 - x4_5))) = true := decide_eq_true c42
                                      clear c42
                                      simp only [Option.some.injEq, Prod.mk.injEq] at H
                                      obtain ⟨rfl, rfl⟩ := H
                                      go_wp2
                                      repeat (go_quiet (fail); try go_wp2)
                                      go_ret2
                                      exact ⟨by first | rfl | (simp; done) | (simp [*]; done), by repeat (first | exact Drawn0.refl _ | apply Drawn0.step)⟩
                                    · rw [if_neg c42] at H
                                      have c42b0 : decide (15 < (wrap64 (x5_7 - x4_5))) = false := decide_eq_false c42
                                      clear c42
                                      have H' := Aside0.mk H
                                      clear H
                                      go_wp2
                                      repeat (go_quiet (fail); try go_wp2)
                                      go_loopg [7, 8] kj37 (fun kq v7 v8 w' => ∃ (x7_7 : Int) (x8_7 : Int), v7 = .int .i64 x7_7 ∧ v8 = .int .i64 x8_7 ∧ Aside0 (lexpriorref02_Parse.l1 kq a0 x4_5 x5_7 rs x7_7 x8_7 = some (r1, r2)) ∧ Aside0 (kq ≤ kj37) ∧ Drawn0 w w')
                                      case atStart => exact ⟨(0), (x4_5), (by first | rfl | (simp; done) | (simp [*]; done)), (by first | rfl | (simp; done) | (simp [*]; done)), H', ⟨Nat.le_refl _⟩, by repeat (first | exact Drawn0.refl _ | apply Drawn0.step)⟩
                                      case round =>
                                        clear H'
                                        try clear c1
                                        try clear p1
                                        try clear q1
                                        try clear hx1
                                        try clear c2
                                        try clear p2
                                        try clear q2
                                        try clear hx2
                                        try clear qi2
                                        try clear c3
                                        try clear c3b0
                                        try clear c3b1
                                        try clear p3
                                        try clear q3
                                        try clear hx3
                                        try clear qi3
                                        try clear c4
                                        try clear c4b0
                                        try clear c4b1
                                        try clear c5
                                        try clear p5
                                        try clear q5
                                        try clear hx5
                                        try clear qi5
                                        try clear p6
                                        try clear c7
                                        try clear c9
                                        try clear c9b0
                                        try clear c10
                                        try clear c10b0
                                        try clear p11
                                        try clear q11
                                        try clear hx11
                                        try clear c13
                                        try clear c14
                                        try clear c14b0
                                        try clear c14b1
                                        try clear c15
                                        try clear c15b0
                                        try clear c15b1
                                        try clear c17
                                        try clear c17b0
                                        try clear c17b1
                                        try clear c18
                                        try clear c18b0
                                        try clear c19
                                        try clear c19b0
                                        try clear p20
                                        try clear q20
                                        try clear hx20
                                        try clear c21
                                        try clear c21b0
                                        try clear c21b1
                                        try clear c22
                                        try clear c24
                                        try clear c24b0
                                        try clear c24b1
                                        try clear c25
                                        try clear c25b0
                                        try clear c25b1
                                        try clear c26
                                        try clear c26b0
                                        try clear c26b1
                                        try clear p27
                                        try clear q27
                                        try clear hx27
                                        try clear qi27
                                        try clear c28
                                        try clear c28b0
                                        try clear c28b1
                                        try clear c29
                                        try clear c29b0
                                        try clear c29b1
                                        try clear p30
                                        try clear q30
                                        try clear hx30
                                        try clear qi30
                                        try clear c32
                                        try clear c33
                                        try clear c33b0
                                        try clear c33b1
                                        try clear p34
                                        try clear q34
                                        try clear hx34
                                        try clear qi34
                                        try clear c36
                                        try clear c37
                                        try clear c39
                                        try clear c39b0
                                        try clear c39b1
                                        try clear c40
                                        try clear c40b0
                                        try clear c40b1
                                        try clear c41
                                        try clear c42
                                        try clear c42b0
                                        try clear p1
                                        try clear p11
                                        try clear p2
                                        try clear p20
                                        try clear p27
                                        try clear p3
                                        try clear p30
                                        try clear p34
                                        try clear p5
                                        try clear p6
                                        try clear q1
                                        try clear q11
                                        try clear q2
                                        try clear q20
                                        try clear q27
                                        try clear q3
                                        try clear q30
                                        try clear q34
                                        try clear q5
                                        obtain ⟨x7_7, x8_7, rfl, rfl, HA, HK7, ⟨m7, rfl⟩⟩ := hrel
                                        cases gk with
                                        | zero => exact absurd HA.out (by simp [lexpriorref02_Parse.l1])
                                        | succ k7 =>
                                          have H := HA.out
                                          clear HA
                                          simp only [lexpriorref02_Parse.l1] at H
                                          by_cases c43 : x8_7 < x5_7
                                          · rw [if_pos c43] at H
                                            have c43b0 : decide (x8_7 < x5_7) = true := decide_eq_true c43
                                            clear c43
                                            by_cases c44 : 0 ≤ x8_7
                                            · rw [if_pos c44] at H
                                              have c44b0 : decide (0 ≤ x8_7) = true := decide_eq_true c44
                                              clear c44
                                              by_cases c45 : x8_7 < (a0.size : Int)
                                              · rw [if_pos c45] at H
                                                have c45b0 : decide (x8_7 < (a0.size : Int)) = true := decide_eq_true c45
                                                clear c45
                                                have H' := Aside0.mk H
                                                clear H
                                                have p46 : 0 ≤ (x8_7 : Int) := of_decide_eq_true (by first | (with_reducible assumption) | assumption)
                                                have q46 : x8_7 < (a0.size : Int) := of_decide_eq_true (by first | (with_reducible assumption) | assumption)
                                                have hx46 := bt_at a0 x8_7
                                                replace p46 := eq_true p46
                                                replace q46 := eq_true q46
                                                go_wp2
                                                repeat (go_quiet (fail); try go_wp2)
                                                go_roundg k7
                                                case measure => have := HJ1.out; have := HJ5.out; have := HJ7.out; have := HJ15.out; have := HJ22.out; have := HJ37.out; have := HK7.out; omega
                                                case rel => exact ⟨(wrap64 ((wrap64 (x7_7 * 10)) + (((bt a0 x8_7) - 48) % 256))), (wrap64 (x8_7 + 1)), (by first | rfl | (simp; done) | (simp [*]; done)), (by first | rfl | (simp; done) | (simp [*]; done)), H', ⟨by have := HJ1.out; have := HJ5.out; have := HJ7.out; have := HJ15.out; have := HJ22.out; have := HJ37.out; have := HK7.out; omega⟩, by repeat (first | exact Drawn0.refl _ | apply Drawn0.step)⟩
                                              · rw [if_neg c45] at H
                                                exact absurd H (by simp)
                                            · rw [if_neg c44] at H
                                              exact absurd H (by simp)
                                          · rw [if_neg c43] at H
                                            have c43b0 : decide (x8_7 < x5_7) = false := decide_eq_false c43
                                            clear c43
                                            have HC47 := Aside0.mk H
                                            clear H
                                            go_upto_if 103 with (fail)
                                            repeat (go_quiet (fail); go_upto_if 103 with (fail))
                                            go_cut [7] (fun v7 wc => ∃ (kq : Nat) (x7_46 : Int), v7 = .int .i64 x7_46 ∧ Aside0 (lexpriorref02_Parse.j8 kq x4_5 x7_46 = some (r1, r2)) ∧ Aside0 (kq ≤ k7) ∧ Drawn0 w wc)
                                            case first =>
                                              have H := HC47.out
                                              clear HC47
                                              by_cases c48 : rs.toList = ([] : List UInt8)
                                              · rw [if_pos c48] at H
                                                have c48b0 : (rs.toList == ([] : List UInt8)) = true := beq_iff_eq.mpr c48
                                                have c48b1 : (rs.toList != ([] : List UInt8)) = false := bne_eq_false_iff_eq.mpr c48
                                                have c48e : rs.toList.isEmpty = true := by rw [c48]; rfl
                                                clear c48
                                                rw [c48e]
                                                have H' := Aside0.mk H
                                                clear H
                                                go_wp2
                                                repeat (go_quiet (fail); try go_wp2)
                                                go_meet
                                                case rel => exact ⟨_, (wrap64 (x7_7 * 100)), (by first | rfl | (simp; done) | (simp [*]; done)), H', ⟨by have := HJ1.out; have := HJ5.out; have := HJ7.out; have := HJ15.out; have := HJ22.out; have := HJ37.out; have := HK7.out; first | omega | exact Nat.le_refl _⟩, by repeat (first | exact Drawn0.refl _ | apply Drawn0.step)⟩
                                              · rw [if_neg c48] at H
                                                have c48b0 : (rs.toList == ([] : List UInt8)) = false := beq_eq_false_iff_ne.mpr c48
                                                have c48b1 : (rs.toList != ([] : List UInt8)) = true := bne_iff_ne.mpr c48
                                                have c48e : rs.toList.isEmpty = false := by cases h : rs.toList with | nil => exact absurd h c48 | cons _ _ => rfl
                                                rw [c48e]
                                                by_cases c49 : 1 < (rs.size : Int)
                                                · rw [if_pos c49] at H
                                                  have c49b0 : decide (1 < (rs.size : Int)) = true := decide_eq_true c49
                                                  have c49b1 : decide (1 < rs.size) = true := decide_eq_true (by omega)
                                                  clear c49
                                                  by_cases c51 : 2 < (rs.size : Int)
                                                  · rw [if_pos c51] at H
                                                    have c51b0 : decide (2 < (rs.size : Int)) = true := decide_eq_true c51
                                                    have c51b1 : decide (2 < rs.size) = true := decide_eq_true (by omega)
                                                    clear c51
                                                    have H' := Aside0.mk H
                                                    clear H
                                                    have p50 : 0 ≤ (1 : Int) := (by omega)
                                                    have q50 : 1 < rs.size := (by have : (1 : Int) < (rs.size : Int) := of_decide_eq_true (by first | (with_reducible assumption) | assumption); omega)
                                                    have hx50 : ∀ h : 1 < rs.size, ((rs[1]'h).toNat : Int) = bt rs 1 := bt_at rs 1
                                                    clear p50
                                                    have qi50 : (1 < (rs.size : Int)) = True := eq_true (of_decide_eq_true (by first | (with_reducible assumption) | assumption))
                                                    replace q50 := eq_true q50
                                                    have p52 : 0 ≤ (2 : Int) := (by omega)
                                                    have q52 : 2 < rs.size := (by have : (2 : Int) < (rs.size : Int) := of_decide_eq_true (by first | (with_reducible assumption) | assumption); omega)
                                                    have hx52 : ∀ h : 2 < rs.size, ((rs[2]'h).toNat : Int) = bt rs 2 := bt_at rs 2
                                                    clear p52
                                                    have qi52 : (2 < (rs.size : Int)) = True := eq_true (of_decide_eq_true (by first | (with_reducible assumption) | assumption))
                                                    replace q52 := eq_true q52
                                                    go_wp2
                                                    repeat (go_quiet (fail); try go_wp2)
                                                    go_meet
                                                    case rel => exact ⟨_, (wrap64 ((wrap64 ((wrap64 (x7_7 * 100)) + ((((bt rs 1) - 48) % 256) * 10))) + (((bt rs 2) - 48) % 256))), (by first | rfl | (simp; done) | (simp [*]; done)), H', ⟨by have := HJ1.out; have := HJ5.out; have := HJ7.out; have := HJ15.out; have := HJ22.out; have := HJ37.out; have := HK7.out; first | omega | exact Nat.le_refl _⟩, by repeat (first | exact Drawn0.refl _ | apply Drawn0.step)⟩
                                                  · rw [if_neg c51] at H
                                                    exact absurd H (by simp)
                                                · rw [if_neg c49] at H
                                                  exact absurd H (by simp)
                                            case rest =>
                                              clear HC47
                                              try clear c1
                                              try clear p1
                                              try clear q1
                                              try clear hx1
                                              try clear c2
                                              try clear p2
                                              try clear q2
                                              try clear hx2
                                              try clear qi2
                                              try clear c3
                                              try clear c3b0
                                              try clear c3b1
                                              try clear p3
                                              try clear q3
                                              try clear hx3
                                              try clear qi3
                                              try clear c4
                                              try clear c4b0
                                              try clear c4b1
                                              try clear p4
                                              try clear q4
                                              try clear hx4
                                              try clear c5
                                              try clear p5
                                              try clear q5
                                              try clear hx5
                                              try clear qi5
                                              try clear p6
                                              try clear c7
                                              try clear c9
                                              try clear c9b0
                                              try clear c10
                                              try clear c10b0
                                              try clear p11
                                              try clear q11
                                              try clear hx11
                                              try clear c13
                                              try clear c14
                                              try clear c14b0
                                              try clear c14b1
                                              try clear c15
                                              try clear c15b0
                                              try clear c15b1
                                              try clear c17
                                              try clear c17b0
                                              try clear c17b1
                                              try clear c18
                                              try clear c18b0
                                              try clear c19
                                              try clear c19b0
                                              try clear p20
                                              try clear q20
                                              try clear hx20
                                              try clear c21
                                              try clear c21b0
                                              try clear c21b1
                                              try clear c22
                                              try clear c24
                                              try clear c24b0
                                              try clear c24b1
                                              try clear c25
                                              try clear c25b0
                                              try clear c25b1
                                              try clear c26
                                              try clear c26b0
                                              try clear c26b1
                                              try clear p27
                                              try clear q27
                                              try clear hx27
                                              try clear qi27
                                              try clear c28
                                              try clear c28b0
                                              try clear c28b1
                                              try clear c29
                                              try clear c29b0
                                              try clear c29b1
                                              try clear p30
                                              try clear q30
                                              try clear hx30
                                              try clear qi30
                                              try clear c32
                                              try clear c33
                                              try clear c33b0
                                              try clear c33b1
                                              try clear p34
                                              try clear q34
                                              try clear hx34
                                              try clear qi34
                                              try clear c36
                                              try clear c37
                                              try clear c39
                                              try clear c39b0
                                              try clear c39b1
                                              try clear c40
                                              try clear c40b0
                                              try clear c40b1
                                              try clear c41
                                              try clear c42
                                              try clear c42b0
                                              try clear c43
                                              try clear c43b0
                                              try clear c44
                                              try clear c44b0
                                              try clear c45
                                              try clear c45b0
                                              try clear p46
                                              try clear q46
                                              try clear hx46
                                              try clear c48
                                              try clear c48b0
                                              try clear c48b1
                                              try clear c49
                                              try clear c49b0
                                              try clear c49b1
                                              try clear p50
                                              try clear q50
                                              try clear hx50
                                              try clear qi50
                                              try clear c51
                                              try clear c51b0
                                              try clear c51b1
                                              try clear p52
                                              try clear q52
                                              try clear hx52
                                              try clear qi52
                                              try clear p1
                                              try clear p11
                                              try clear p2
                                              try clear p20
                                              try clear p27
                                              try clear p3
                                              try clear p30
                                              try clear p34
                                              try clear p46
                                              try clear p5
                                              try clear p50
                                              try clear p52
                                              try clear p6
                                              try clear q1
                                              try clear q11
                                              try clear q2
                                              try clear q20
                                              try clear q27
                                              try clear q3
                                              try clear q30
                                              try clear q34
                                              try clear q46
                                              try clear q5
                                              try clear q50
                                              try clear q52
                                              obtain ⟨kq, x7_46, rfl, HA, HJ46, ⟨mc46, rfl⟩⟩ := hcut
                                              cases kq with
                                              | zero => exact absurd HA.out (by simp [lexpriorref02_Parse.j8])
                                              | succ kj46 =>
                                                have H := HA.out
                                                clear HA
                                                simp only [lexpriorref02_Parse.j8] at H
                                                by_cases c53 : x7_46 > 1000000000000000
                                                · rw [if_pos c53] at H
                                                  have c53b0 : decide (1000000000000000 < x7_46) = true := decide_eq_true c53
                                                  clear c53
                                                  simp only [Option.some.injEq, Prod.mk.injEq] at H
                                                  obtain ⟨rfl, rfl⟩ := H
                                                  go_wp2
                                                  repeat (go_quiet (fail); try go_wp2)
                                                  go_ret2
                                                  exact ⟨by first | rfl | (simp; done) | (simp [*]; done), by repeat (first | exact Drawn0.refl _ | apply Drawn0.step)⟩
                                                · rw [if_neg c53] at H
                                                  have c53b0 : decide (1000000000000000 < x7_46) = false := decide_eq_false c53
                                                  clear c53
                                                  by_cases c54 : x4_5 = 1
                                                  · rw [if_pos c54] at H
                                                    have c54b0 : (x4_5 == 1) = true := beq_iff_eq.mpr c54
                                                    have c54b1 : (x4_5 != 1) = false := bne_eq_false_iff_eq.mpr c54
                                                    clear c54
                                                    simp only [Option.some.injEq, Prod.mk.injEq] at H
                                                    obtain ⟨rfl, rfl⟩ := H
                                                    go_wp2
                                                    repeat (go_quiet (fail); try go_wp2)
                                                    go_ret2
                                                    exact ⟨by first | rfl | (simp; done) | (simp [*]; done), by repeat (first | exact Drawn0.refl _ | apply Drawn0.step)⟩
                                                  · rw [if_neg c54] at H
                                                    have c54b0 : (x4_5 == 1) = false := beq_eq_false_iff_ne.mpr c54
                                                    have c54b1 : (x4_5 != 1) = true := bne_iff_ne.mpr c54
                                                    simp only [Option.some.injEq, Prod.mk.injEq] at H
                                                    obtain ⟨rfl, rfl⟩ := H
                                                    go_wp2
                                                    repeat (go_quiet (fail); try go_wp2)
                                                    go_ret2
                                                    exact ⟨by first | rfl | (simp; done) | (simp [*]; done), by repeat (first | exact Drawn0.refl _ | apply Drawn0.step)⟩
                · rw [if_neg c15] at H
                  exact absurd H (by simp)
              · rw [if_neg c14] at H
                exact absurd H (by simp)

end Go.Proofs.YtgabkgomjdlgnaaDoor.PMoneyReads
