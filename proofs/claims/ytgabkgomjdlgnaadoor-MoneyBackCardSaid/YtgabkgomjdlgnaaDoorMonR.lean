import Derived.Test.YtgabkgomjdlgnaaDoorKp
import Derived.Test.YtgabkgomjdlgnaaDoorProg
import Derived.Test.YtgabkgomjdlgnaaDoorMonSt
import Derived.WideLaws
import Derived.Lib.Hide
import Derived.WalkSpells
import Derived.WalkLawsBesides
import Derived.Deep.QuietTactic
import Derived.WalkKit
import Derived.BigQuiet
import Derived.BigRegion
namespace Go.Proofs.YtgabkgomjdlgnaaDoor
open Go.RowKit Go.Lib
set_option linter.unusedVariables false
set_option linter.unusedSimpArgs false

/-- block g bears n numbers, f; of all that was there in w0 nothing else has turned -/
structure Row (w0 w : World) (g n : Nat) (f : Nat → Nat) : Prop where
  keep : Keep (fun i => i = g) w0 w
  cell : ∀ i, i < n → w.cell? ⟨g, i, none⟩ = some (.int .i64 (f i : Int))
  free : ∀ i, i < n → w.frozen? ⟨g, i, none⟩ = false
namespace Row
variable {w0 w : World} {g n : Nat} {f : Nat → Nat}
theorem drewN (h : Row w0 w g n f) (k : Nat) : Row w0 (w.drewN k) g n f := ⟨h.keep.drewN k, h.cell, h.free⟩
theorem congr (h : Row w0 w g n f) {f' : Nat → Nat} (e : f' = f) : Row w0 w g n f' := by rw [e]; exact h
end Row
/-- two places exchanged -/
def St.sw (f : Nat → Nat) (i j : Nat) : Nat → Nat := fun x => if x = i then f j else if x = j then f i else f x
theorem St.swpR_step (f : Nat → Nat) (p q i : Nat) (h : p + i < q) : St.sw (St.swpR f p q i) (p + i) (q + i) = St.swpR f p q (i + 1) := by
  funext x
  unfold St.sw St.swpR
  by_cases c1 : x = p + i
  · rw [if_pos c1, if_neg (by omega), if_neg (by omega), if_pos (by omega)]; congr 1; omega
  · rw [if_neg c1]
    by_cases c2 : x = q + i
    · rw [if_pos c2, if_neg (by omega), if_neg (by omega), if_neg (by omega), if_pos (by omega)]; congr 1; omega
    · rw [if_neg c2]
      by_cases c3 : p ≤ x ∧ x < p + i
      · rw [if_pos c3, if_pos (by omega)]
      · rw [if_neg c3, if_neg (show ¬ (p ≤ x ∧ x < p + (i + 1)) by omega)]
        by_cases c4 : q ≤ x ∧ x < q + i
        · rw [if_pos c4, if_pos (by omega)]
        · rw [if_neg c4, if_neg (by omega)]
theorem Row.swap {w0 w : World} {g n : Nat} {f : Nat → Nat} (h : Row w0 w g n f) (i j : Nat) (hi : i < n) (hj : j < n) (hij : i ≠ j) :
    Row w0 (((w.setCell ⟨g, i, none⟩ (.int .i64 (f j : Int))).setCell ⟨g, j, none⟩ (.int .i64 (f i : Int))).drew) g n (St.sw f i j) := by
  refine ⟨((h.keep.setCell (fun _ => rfl) _).setCell (fun _ => rfl) _).drew, fun x hx => ?_, fun x hx => by rw [World.frozen?_drew, World.frozen?_setCell, World.frozen?_setCell]; exact h.free x hx⟩
  have c : ∀ y, y < n → w.cell? ⟨g, y, none⟩ = some (.int .i64 (f y : Int)) := h.cell
  rw [World.cell?_drew]
  unfold St.sw
  have ne : ∀ a b : Nat, a ≠ b → (⟨g, a, none⟩ : Addr) ≠ ⟨g, b, none⟩ := fun a b hab e => hab (by injection e)
  by_cases h2 : x = j
  · subst h2
    rw [if_neg (Ne.symm hij), if_pos rfl]
    exact World.cell?_setCell_same _ _ _ (u := .int .i64 (f x : Int)) (by rw [World.cell?_setCell_other _ _ _ _ (ne _ _ hij)]; exact c x hx)
  · rw [World.cell?_setCell_other _ _ _ _ (ne _ _ (Ne.symm h2))]
    by_cases h1 : x = i
    · subst h1
      rw [if_pos rfl]
      exact World.cell?_setCell_same _ _ _ (c x hx)
    · rw [if_neg h1, if_neg h2, World.cell?_setCell_other _ _ _ _ (ne _ _ (Ne.symm h1))]
      exact c x hx

set_option maxHeartbeats 1000000 in
set_option maxRecDepth 100000 in
theorem swapRange_calls (g n c p q k : Nat) (f : Nat → Nat) (fv : Value) (w0 w : World) (hn : n < 4611686018427387904) (hR : Row w0 w g n f) (h1 : p + k ≤ q) (h2 : q + k ≤ n) :
    Calls Tryd.prog 109 #[.slice (some ⟨g, 0, none⟩) n c, .int .i64 p, .int .i64 q, .int .i64 k, fv] w fun e w' => e = .returned (.tuple #[]) ∧ Row w0 w' g n (St.swpR f p q k) := by
  have HR := Lib.hid hR
  clear hR
  go_enter Tryd.func109, Tryd.ntmps109
  go_wp2
  go_loopw [10] (fun v wr => ∃ i : Nat, i ≤ k ∧ v = .int .i64 i ∧ Row w0 wr g n (St.swpR f p q i)) (fun v _ => k - (intOf v).toNat)
  case atStart => exact ⟨0, Nat.zero_le _, rfl, HR.out.congr (by funext x; unfold St.swpR; rw [if_neg (by omega), if_neg (by omega)])⟩
  case round =>
    obtain ⟨i, hi, rfl, hr⟩ := hrel
    by_cases hlt : i < k
    · have hlt2 : (i : Int) < (k : Int) := by omega
      have z1 : (0 : Int) ≤ (p : Int) + i := by omega
      have z2 : (p : Int) + i < n := by omega
      have z3 : (0 : Int) ≤ (q : Int) + i := by omega
      have z4 : (q : Int) + i < n := by omega
      have t1 : ((p : Int) + i).toNat = p + i := by omega
      have t2 : ((q : Int) + i).toNat = q + i := by omega
      have k1 : IntKind.i64.wrap ((p : Int) + i) = (p : Int) + i := IntWalk.i64_in _ (by omega)
      have k2 : IntKind.i64.wrap ((q : Int) + i) = (q : Int) + i := IntWalk.i64_in _ (by omega)
      have c1 := hr.cell (p + i) (by omega)
      have c2 := hr.cell (q + i) (by omega)
      have f1 := hr.free (p + i) (by omega)
      have f2 := hr.free (q + i) (by omega)
      have hs := hr.swap (p + i) (q + i) (by omega) (by omega) (by omega)
      have HS := Lib.hid hs
      clear hs hr
      generalize St.swpR f p q i (p + i) = x at *
      generalize St.swpR f p q i (q + i) = y at *
      go_wp2
      go_big_region
      all_goals go_wp2
      go_roundw
      case rel => exact ⟨i + 1, by omega, by go_num, HS.out.congr (St.swpR_step f p q i (by omega)).symm⟩
      case measure => simp [intOf]; omega
    · obtain rfl : i = k := by omega
      have HR2 := Lib.hid hr
      clear hr
      go_wp2
      go_end0
      exact ⟨rfl, HR2.out⟩
end Go.Proofs.YtgabkgomjdlgnaaDoor
