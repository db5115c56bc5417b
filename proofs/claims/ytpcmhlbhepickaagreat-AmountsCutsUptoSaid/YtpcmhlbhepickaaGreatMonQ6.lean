import Derived.Test.YtpcmhlbhepickaaGreatMonA
import Derived.Test.YtpcmhlbhepickaaGreatProg
import Derived.Test.YtpcmhlbhepickaaGreatMonB
import Derived.WideLaws
import Derived.Lib.Hide
import Derived.WalkSpells
import Derived.WalkLawsBesides
import Derived.Deep.QuietTactic
import Derived.WalkKit
import Derived.BigQuiet
import Derived.BigRegion
import Derived.Deep.RegionWith
import Derived.Deep.DeepCutAuto
import Derived.Deep.Cut
namespace Go.Proofs.YtpcmhlbhepickaaGreat
open Go.RowKit Go.Lib
set_option linter.unusedVariables false
set_option linter.unusedSimpArgs false

/-- block g bears n numbers, f; of all that was there in w0 nothing else has turned -/
structure Row (w0 w : World) (g n : Nat) (f : Nat → Nat) : Prop where
  keep : Keep (fun i => i = g) w0 w
  cell : ∀ i, i < n → w.cell? ⟨g, i, none⟩ = some (.int .i64 (f i : Int))
  free : ∀ i, i < n → w.frozen? ⟨g, i, none⟩ = false
namespace Row
variable {w0 w : World} {g n : Nat} {f : Nat → Nat}
theorem drewN (h : Row w0 w g n f) (k : Nat) : Row w0 (w.drewN k) g n f := ⟨h.keep.drewN k, h.cell, h.free⟩
theorem congr (h : Row w0 w g n f) {f' : Nat → Nat} (e : f' = f) : Row w0 w g n f' := by rw [e]; exact h
end Row
/-- two places exchanged -/
def St.sw (f : Nat → Nat) (i j : Nat) : Nat → Nat := fun x => if x = i then f j else if x = j then f i else f x
theorem St.swpR_step (f : Nat → Nat) (p q i : Nat) (h : p + i < q) : St.sw (St.swpR f p q i) (p + i) (q + i) = St.swpR f p q (i + 1) := by
  funext x
  unfold St.sw St.swpR
  by_cases c1 : x = p + i
  · rw [if_pos c1, if_neg (by omega), if_neg (by omega), if_pos (by omega)]; congr 1; omega
  · rw [if_neg c1]
    by_cases c2 : x = q + i
    · rw [if_pos c2, if_neg (by omega), if_neg (by omega), if_neg (by omega), if_pos (by omega)]; congr 1; omega
    · rw [if_neg c2]
      by_cases c3 : p ≤ x ∧ x < p + i
      · rw [if_pos c3, if_pos (by omega)]
      · rw [if_neg c3, if_neg (show ¬ (p ≤ x ∧ x < p + (i + 1)) by omega)]
        by_cases c4 : q ≤ x ∧ x < q + i
        · rw [if_pos c4, if_pos (by omega)]
        · rw [if_neg c4, if_neg (by omega)]
theorem Row.swap {w0 w : World} {g n : Nat} {f : Nat → Nat} (h : Row w0 w g n f) (i j : Nat) (hi : i < n) (hj : j < n) (hij : i ≠ j) :
    Row w0 (((w.setCell ⟨g, i, none⟩ (.int .i64 (f j : Int))).setCell ⟨g, j, none⟩ (.int .i64 (f i : Int))).drew) g n (St.sw f i j) := by
  refine ⟨((h.keep.setCell (fun _ => rfl) _).setCell (fun _ => rfl) _).drew, fun x hx => ?_, fun x hx => by rw [World.frozen?_drew, World.frozen?_setCell, World.frozen?_setCell]; exact h.free x hx⟩
  have c : ∀ y, y < n → w.cell? ⟨g, y, none⟩ = some (.int .i64 (f y : Int)) := h.cell
  rw [World.cell?_drew]
  unfold St.sw
  have ne : ∀ a b : Nat, a ≠ b → (⟨g, a, none⟩ : Addr) ≠ ⟨g, b, none⟩ := fun a b hab e => hab (by injection e)
  by_cases h2 : x = j
  · subst h2
    rw [if_neg (Ne.symm hij), if_pos rfl]
    exact World.cell?_setCell_same _ _ _ (u := .int .i64 (f x : Int)) (by rw [World.cell?_setCell_other _ _ _ _ (ne _ _ hij)]; exact c x hx)
  · rw [World.cell?_setCell_other _ _ _ _ (ne _ _ (Ne.symm h2))]
    by_cases h1 : x = i
    · subst h1
      rw [if_pos rfl]
      exact World.cell?_setCell_same _ _ _ (c x hx)
    · rw [if_neg h1, if_neg h2, World.cell?_setCell_other _ _ _ _ (ne _ _ (Ne.symm h1))]
      exact c x hx

set_option maxHeartbeats 1000000 in
set_option maxRecDepth 100000 in
theorem swapRange_calls (g n c p q k : Nat) (f : Nat → Nat) (fv : Value) (w0 w : World) (hn : n < 4611686018427387904) (hR : Row w0 w g n f) (h1 : p + k ≤ q) (h2 : q + k ≤ n) :
    Calls Tryz.prog 119 #[.slice (some ⟨g, 0, none⟩) n c, .int .i64 p, .int .i64 q, .int .i64 k, fv] w fun e w' => e = .returned (.tuple #[]) ∧ Row w0 w' g n (St.swpR f p q k) := by
  have HR := Lib.hid hR
  clear hR
  go_enter Tryz.func119, Tryz.ntmps119
  go_wp2
  go_loopw [10] (fun v wr => ∃ i : Nat, i ≤ k ∧ v = .int .i64 i ∧ Row w0 wr g n (St.swpR f p q i)) (fun v _ => k - (intOf v).toNat)
  case atStart => exact ⟨0, Nat.zero_le _, rfl, HR.out.congr (by funext x; unfold St.swpR; rw [if_neg (by omega), if_neg (by omega)])⟩
  case round =>
    obtain ⟨i, hi, rfl, hr⟩ := hrel
    by_cases hlt : i < k
    · have hlt2 : (i : Int) < (k : Int) := by omega
      have z1 : (0 : Int) ≤ (p : Int) + i := by omega
      have z2 : (p : Int) + i < n := by omega
      have z3 : (0 : Int) ≤ (q : Int) + i := by omega
      have z4 : (q : Int) + i < n := by omega
      have t1 : ((p : Int) + i).toNat = p + i := by omega
      have t2 : ((q : Int) + i).toNat = q + i := by omega
      have k1 : IntKind.i64.wrap ((p : Int) + i) = (p : Int) + i := IntWalk.i64_in _ (by omega)
      have k2 : IntKind.i64.wrap ((q : Int) + i) = (q : Int) + i := IntWalk.i64_in _ (by omega)
      have c1 := hr.cell (p + i) (by omega)
      have c2 := hr.cell (q + i) (by omega)
      have f1 := hr.free (p + i) (by omega)
      have f2 := hr.free (q + i) (by omega)
      have hs := hr.swap (p + i) (q + i) (by omega) (by omega) (by omega)
      have HS := Lib.hid hs
      clear hs hr
      generalize St.swpR f p q i (p + i) = x at *
      generalize St.swpR f p q i (q + i) = y at *
      go_wp2
      go_big_region
      all_goals go_wp2
      go_roundw
      case rel => exact ⟨i + 1, by omega, by go_num, HS.out.congr (St.swpR_step f p q i (by omega)).symm⟩
      case measure => simp [intOf]; omega
    · obtain rfl : i = k := by omega
      have HR2 := Lib.hid hr
      clear hr
      go_wp2
      go_end0
      exact ⟨rfl, HR2.out⟩
end Go.Proofs.YtpcmhlbhepickaaGreat
namespace Go.Proofs.YtpcmhlbhepickaaGreat
open Go.RowKit Go.Lib
set_option linter.unusedVariables false
set_option linter.unusedSimpArgs false

set_option maxHeartbeats 1000000 in
set_option maxRecDepth 100000 in
theorem rotate_calls (g n c s m e : Nat) (f : Nat → Nat) (fv : Value) (w0 w : World) (hn : n < 4611686018427387904) (hR : Row w0 w g n f) (h1 : s < m) (h2 : m < e) (h3 : e ≤ n) :
    Calls Tryz.prog 63 #[.slice (some ⟨g, 0, none⟩) n c, .int .i64 s, .int .i64 m, .int .i64 e, fv] w fun en w' => en = .returned (.tuple #[]) ∧ Row w0 w' g n (St.rot f s m e) := by
  have HR := Lib.hid hR
  clear hR
  have k1 : IntKind.i64.wrap ((m : Int) - s) = (m : Int) - s := IntWalk.i64_in _ (by omega)
  have k2 : IntKind.i64.wrap ((e : Int) - m) = (e : Int) - m := IntWalk.i64_in _ (by omega)
  have n1 : (m : Int) - s = ((m - s : Nat) : Int) := by omega
  have n2 : (e : Int) - m = ((e - m : Nat) : Int) := by omega
  have l1 := Lib.hid (show m - s ≤ m ∧ 0 < m - s ∧ 0 < e - m ∧ m + (e - m) ≤ n from ⟨by omega, by omega, by omega, by omega⟩)
  have E0 := Lib.hid (show St.rot f (m - (m - s)) m (m + (e - m)) = St.rot f s m e by rw [show m - (m - s) = s by omega, show m + (e - m) = e by omega])
  generalize hI : m - s = I0 at *
  generalize hJ : e - m = J0 at *
  have HI := Lib.hid (And.intro hI hJ)
  clear hI hJ
  rw [n1] at k1
  rw [n2] at k2
  go_enter Tryz.func63, Tryz.ntmps63
  go_wp2
  go_loopw [10, 11] (fun v u wr => ∃ (i j : Nat) (f' : Nat → Nat), i ≤ m ∧ 0 < i ∧ 0 < j ∧ m + j ≤ n ∧ v = .int .i64 i ∧ u = .int .i64 j ∧ Row w0 wr g n f' ∧ Hid (St.rot f' (m - i) m (m + j) = St.rot f s m e)) (fun v u _ => (intOf v).toNat + (intOf u).toNat)
  case atStart => exact ⟨I0, J0, f, l1.out.1, l1.out.2.1, l1.out.2.2.1, l1.out.2.2.2, rfl, rfl, HR.out, E0⟩
  case round =>
    clear k1 k2 n1 n2 E0 HI
    obtain ⟨i, j, f', hi, hi0, hj0, hj, rfl, rfl, hr, HE⟩ := hrel
    have HR2 := Lib.hid hr
    clear hr HR
    have k1 : IntKind.i64.wrap ((m : Int) - i) = (m : Int) - i := IntWalk.i64_in _ (by omega)
    have k2 : IntKind.i64.wrap ((m : Int) + j) = (m : Int) + j := IntWalk.i64_in _ (by omega)
    have k3 : IntKind.i64.wrap ((m : Int) + j - i) = (m : Int) + j - i := IntWalk.i64_in _ (by omega)
    have k4 : IntKind.i64.wrap ((i : Int) - j) = (i : Int) - j := IntWalk.i64_in _ (by omega)
    have k5 : IntKind.i64.wrap ((j : Int) - i) = (j : Int) - i := IntWalk.i64_in _ (by omega)
    have q1 : (m : Int) - i = ((m - i : Nat) : Int) := by omega
    have q2 : (m : Int) + j - i = ((m + j - i : Nat) : Int) := by omega
    rcases Nat.lt_trichotomy i j with h | h | h
    · have d1 : ((i : Int) != (j : Int)) = true := by simp; omega
      have d1' : (i != j) = true := by simp; omega
      have d2 : decide (j < i) = false := decide_eq_false (by omega)
      have HC := Lib.hid (swapRange_calls g n c (m - i) (m + j - i) i f' fv w0 wr hn HR2.out (by omega) (by omega))
      rw [← q1, ← q2] at HC
      have HH := Lib.hid h
      have q3 := Lib.hid (show (j : Int) - i = ((j - i : Nat) : Int) by omega)
      clear h q1 q2
      go_wp2_with (first | (go_at_call 119; refine HC.out.mono ?_; rintro e w1 ⟨rfl, hr1⟩; have HR3 := Lib.hid hr1; clear hr1))
      go_roundw
      case rel => exact ⟨i, j - i, _, hi, hi0, by have := HH.out; omega, by have := HH.out; omega, rfl, by rw [q3.out], HR3.out, (St.rot_small f' m i j HH.out hi).trans HE.out⟩
      case measure => have := HH.out; simp [intOf]; omega
    · subst h
      have HC := Lib.hid (swapRange_calls g n c (m - i) m i f' fv w0 wr hn HR2.out (by omega) (by omega))
      rw [← q1] at HC
      have d1 : ((i : Int) != (i : Int)) = false := by simp
      have d1' : (i != i) = false := by simp
      clear q1 q2
      go_wp2_with (first | (go_at_call 119; refine HC.out.mono ?_; rintro e w1 ⟨rfl, hr1⟩; have HR3 := Lib.hid hr1; clear hr1))
      go_end0
      exact ⟨rfl, HR3.out.congr ((St.rot_same f' m i hi).trans HE.out).symm⟩
    · have d1 : ((i : Int) != (j : Int)) = true := by simp; omega
      have d1' : (i != j) = true := by simp; omega
      have d2 : decide (j < i) = true := decide_eq_true (by omega)
      have HC := Lib.hid (swapRange_calls g n c (m - i) m j f' fv w0 wr hn HR2.out (by omega) (by omega))
      rw [← q1] at HC
      have HH := Lib.hid h
      have q3 := Lib.hid (show (i : Int) - j = ((i - j : Nat) : Int) by omega)
      clear h q1 q2
      go_wp2_with (first | (go_at_call 119; refine HC.out.mono ?_; rintro e w1 ⟨rfl, hr1⟩; have HR3 := Lib.hid hr1; clear hr1))
      go_roundw
      case rel => exact ⟨i - j, j, _, by omega, by have := HH.out; omega, hj0, hj, by rw [q3.out], rfl, HR3.out, (St.rot_big f' m i j HH.out hi).trans HE.out⟩
      case measure => have := HH.out; simp [intOf]; omega
end Go.Proofs.YtpcmhlbhepickaaGreat
namespace Go.Proofs.YtpcmhlbhepickaaGreat
open Go.RowKit Go.Lib
set_option linter.unusedVariables false
set_option linter.unusedSimpArgs false

/-- cmp.Compare's answer -/
def St.sg (a b : Int) : Int := if a < b then -1 else if b < a then 1 else 0
theorem St.sg_neg (a b : Int) : decide (St.sg a b < 0) = decide (a < b) := by
  unfold St.sg
  by_cases h : a < b
  · rw [if_pos h, decide_eq_true h]; rfl
  · rw [if_neg h, decide_eq_false h]
    split <;> rfl
section
set_option maxRecDepth 100000
theorem isNaNU_calls (a : Int) (w : World) : Calls Tryz.prog 35 #[.int .u64 a] w fun e w' => e = .returned (.bool false) ∧ w = w' := by
  have d : (a != a) = false := by simp
  go_enter Tryz.func35, Tryz.ntmps35
  go_wp2
  go_ret
  exact ⟨rfl, rfl⟩
theorem cmpU_calls (a b : Int) (w : World) : Calls Tryz.prog 28 #[.int .u64 a, .int .u64 b] w fun e w' => e = .returned (.int .i64 (St.sg a b)) ∧ w = w' := by
  unfold St.sg
  by_cases h1 : a < b
  · have d1 : decide (a < b) = true := decide_eq_true h1
    rw [if_pos h1]
    go_enter Tryz.func28, Tryz.ntmps28
    go_wp2_with (first | (go_at_call 35; refine (isNaNU_calls _ _).mono ?_; rintro e w' ⟨rfl, rfl⟩))
    go_ret
    exact ⟨rfl, rfl⟩
  · have d1 : decide (a < b) = false := decide_eq_false h1
    rw [if_neg h1]
    by_cases h2 : b < a
    · have d2 : decide (b < a) = true := decide_eq_true h2
      rw [if_pos h2]
      go_enter Tryz.func28, Tryz.ntmps28
      go_wp2_with (first | (go_at_call 35; refine (isNaNU_calls _ _).mono ?_; rintro e w' ⟨rfl, rfl⟩))
      go_ret
      exact ⟨rfl, rfl⟩
    · have d2 : decide (b < a) = false := decide_eq_false h2
      rw [if_neg h2]
      go_enter Tryz.func28, Tryz.ntmps28
      go_wp2_with (first | (go_at_call 35; refine (isNaNU_calls _ _).mono ?_; rintro e w' ⟨rfl, rfl⟩))
      go_ret
      exact ⟨rfl, rfl⟩
end
/-- what a captured variable at block cr holds: a row of keys -/
structure Keys (w : World) (cr r n : Nat) (R : Nat → Nat) : Prop where
  var : ∃ c, w.cell? ⟨cr, 0, none⟩ = some (.slice (some ⟨r, 0, none⟩) n c)
  key : ∀ i, i < n → w.cell? ⟨r, i, none⟩ = some (.int .u64 (R i : Int))
set_option maxHeartbeats 1000000 in
set_option maxRecDepth 100000 in
theorem share1_calls (cr r n x y : Nat) (R : Nat → Nat) (w : World) (hK : Keys w cr r n R) (hx : x < n) (hy : y < n) (hn : n < 4611686018427387904) :
    Calls Tryz.prog 27 #[.int .i64 x, .int .i64 y, .pointer (some ⟨cr, 0, none⟩)] w fun e w' => e = .returned (.int .i64 (St.sg (R y) (R x))) ∧ ∃ q, w' = w.drewN q := by
  obtain ⟨c, hv⟩ := hK.var
  have c1 := hK.key x hx
  have c2 := hK.key y hy
  clear hK
  generalize R x = a at *
  generalize R y = b at *
  have z1 : (0 : Int) ≤ (x : Int) := by omega
  have z2 : (x : Int) < n := by omega
  have z3 : (0 : Int) ≤ (y : Int) := by omega
  have z4 : (y : Int) < n := by omega
  have HC := Lib.hid (fun w => (cmpU_calls b a w).mono (fun e w' h => And.intro h.1 h.2.symm))
  go_enter Tryz.func27, Tryz.ntmps27
  go_wp2
  go_quiet ((go_at_call 28; exact Calls.quiet_of_same (HC.out _)))
  go_wp2
  go_ret
  exact ⟨rfl, _, rfl⟩
end Go.Proofs.YtpcmhlbhepickaaGreat
namespace Go.Proofs.YtpcmhlbhepickaaGreat
open Go.RowKit Go.Lib
set_option linter.unusedVariables false
set_option linter.unusedSimpArgs false

/-- what is asked of the sort's order: whatever the row holds, numbers below n are compared by their keys -/
def CmpOk (w0 : World) (g n cr : Nat) (R : Nat → Nat) : Prop := ∀ w x y, x < n → y < n → Keep (fun i => i = g) w0 w →
  Calls Tryz.prog 27 #[.int .i64 (x : Int), .int .i64 (y : Int), .pointer (some ⟨cr, 0, none⟩)] w fun e w' => e = .returned (.int .i64 (St.sg (R y) (R x))) ∧ ∃ q, w' = w.drewN q
/-- what a merge leaves -/
def Merged (w0 : World) (g n : Nat) (R f : Nat → Nat) (a b : Nat) (e : Ending) (w' : World) : Prop :=
  e = .returned (.tuple #[]) ∧ ∃ f', Row w0 w' g n f' ∧ St.Srt R f' a b ∧ St.Sub f f' a b

theorem St.shl_self (f : Nat → Nat) (a : Nat) : St.shl f a a = f := by
  funext x
  unfold St.shl
  by_cases h : x < a
  · rw [if_pos h]
  · rw [if_neg h, if_neg h]
    by_cases h2 : x = a
    · rw [if_pos h2, h2]
    · rw [if_neg h2]
theorem St.shl_step (f : Nat → Nat) (a k : Nat) (h : a ≤ k) : St.sw (St.shl f a k) k (k + 1) = St.shl f a (k + 1) := by
  funext x
  unfold St.sw St.shl
  by_cases h1 : x = k
  · subst h1
    rw [if_pos rfl, if_neg (by omega), if_neg (by omega), if_neg (by omega), if_neg (show ¬ x < a by omega), if_pos (by omega)]
  · rw [if_neg h1]
    by_cases h2 : x = k + 1
    · subst h2
      rw [if_pos rfl, if_neg (by omega), if_neg (by omega), if_pos rfl, if_neg (by omega), if_neg (by omega), if_pos rfl]
    · rw [if_neg h2]
      by_cases h3 : x < a
      · rw [if_pos h3, if_pos h3]
      · rw [if_neg h3, if_neg h3]
        by_cases h4 : x < k
        · rw [if_pos h4, if_pos (by omega)]
        · rw [if_neg h4, if_neg h1, if_neg (by omega), if_neg h2]
set_option maxHeartbeats 1000000 in
set_option maxRecDepth 100000 in
theorem merge_left (w0 : World) (g n c cr a b : Nat) (R f : Nat → Nat) (w : World) (hn : n < 4611686018427387904) (hR : Row w0 w g n f) (hC : CmpOk w0 g n cr R) (hf : ∀ i, i < n → f i < n)
    (h2 : a + 1 < b) (h3 : b ≤ n) (s2 : St.Srt R f (a + 1) b) (st : St.Stb R f a b) :
    Calls Tryz.prog 51 #[.slice (some ⟨g, 0, none⟩) n c, .int .i64 a, .int .i64 ((a : Int) + 1), .int .i64 b, .func (.func 27) #[] #[.pointer (some ⟨cr, 0, none⟩)]] w (Merged w0 g n R f a b) := by
  have HR := Lib.hid hR
  have HC := Lib.hid hC
  have HF := Lib.hid hf
  have HS := Lib.hid (And.intro s2 st)
  clear hR hC hf s2 st
  have k1 : IntKind.i64.wrap ((a : Int) + 1) = (a : Int) + 1 := IntWalk.i64_in _ (by omega)
  have k2 : IntKind.i64.wrap ((a : Int) + 1 - a) = 1 := by rw [show (a : Int) + 1 - a = 1 by omega]; rfl
  have d0 : (((a : Int) + 1 - a) == 1) = true := by rw [show (a : Int) + 1 - a = 1 by omega]; rfl
  go_enter Tryz.func51, Tryz.ntmps51
  go_wp2
  clear k2 d0
  go_loopw [10, 11] (fun v u wr => ∃ (i j : Nat), a + 1 ≤ i ∧ i ≤ j ∧ j ≤ b ∧ v = .int .i64 i ∧ u = .int .i64 j ∧ Row w0 wr g n f ∧ (∀ h, a + 1 ≤ h → h < i → St.Lt R (f h) (f a)) ∧ (∀ h, j ≤ h → h < b → St.Lt R (f a) (f h))) (fun v u _ => (intOf u).toNat - (intOf v).toNat)
  case atStart => exact ⟨a + 1, b, Nat.le_refl _, by omega, Nat.le_refl _, by go_num, rfl, HR.out, fun h k1 k2 => by omega, fun h k1 k2 => by omega⟩
  case round =>
    obtain ⟨i, j, hi, hij, hj, rfl, rfl, hr, hlo, hhi⟩ := hrel
    have HR2 := Lib.hid hr
    have HLO := Lib.hid hlo
    have HHI := Lib.hid hhi
    clear hr HR hlo hhi
    by_cases hlt : i < j
    · have q1 : IntKind.i64.wrap ((i : Int) + j) = (i : Int) + j := IntWalk.i64_in _ (by omega)
      have q2 : IntKind.u64.wrap ((i : Int) + j) = (i : Int) + j := by rw [IntKind.wrap_u64]; omega
      go_upto_region 5 with (fail)
      have e : ((i : Int) + j) / 2 = (((i + j) / 2 : Nat) : Int) := by omega
      have eh := Lib.hid (show i ≤ (i + j) / 2 ∧ (i + j) / 2 < j by omega)
      generalize (i + j) / 2 = h at *
      rw [e]
      clear e q1 q2
      have z1 : (0 : Int) ≤ (h : Int) := by omega
      have z2 : (h : Int) < n := by have := eh.out; omega
      have z3 : (0 : Int) ≤ (a : Int) := by omega
      have z4 : (a : Int) < n := by omega
      have c1 := HR2.out.cell h (by omega)
      have c2 := HR2.out.cell a (by omega)
      have hc := fun q => HC.out (wr.drewN q) (f h) (f a) (HF.out h (by omega)) (HF.out a (by omega)) (HR2.out.keep.drewN q)
      have hsg := St.sg_neg (R (f a)) (R (f h))
      have hst := St.Stb.no HS.out.2 (Nat.le_refl a) (show a < h by have := eh.out; omega) (by have := eh.out; omega)
      generalize hcv : St.sg (R (f a)) (R (f h)) = cv at hc hsg
      have HCC := Lib.hid hc
      clear hc hcv
      by_cases hk : R (f a) < R (f h)
      · rw [decide_eq_true (show (R (f a) : Int) < R (f h) by omega)] at hsg
        have hl := Lib.hid (St.Lt.of hk)
        clear hk hst
        go_quiet ((go_at_call 27; exact Calls.quiet_of (HCC.out _)))
        go_wp2
        go_roundw
        case rel =>
          refine ⟨h + 1, j, by have := eh.out; omega, by have := eh.out; omega, hj, by go_num, rfl, HR2.out.drewN _, fun x x1 x2 => ?_, HHI.out⟩
          have := eh.out
          by_cases hx : x = h
          · rw [hx]; exact hl.out
          · exact (HS.out.1 x h x1 (by omega) (by omega)).trans hl.out
        case measure => have := eh.out; simp [intOf]; omega
      · rw [decide_eq_false (show ¬ (R (f a) : Int) < R (f h) by omega)] at hsg
        have hl := Lib.hid (hst hk)
        clear hk hst
        go_quiet ((go_at_call 27; exact Calls.quiet_of (HCC.out _)))
        go_wp2
        go_roundw
        case rel =>
          refine ⟨i, h, hi, by have := eh.out; omega, by have := eh.out; omega, rfl, rfl, HR2.out.drewN _, HLO.out, fun x x1 x2 => ?_⟩
          have := eh.out
          by_cases hx : x = h
          · rw [hx]; exact hl.out
          · exact hl.out.trans (HS.out.1 h x (by omega) (by omega) x2)
        case measure => have := eh.out; simp [intOf]; omega
    · obtain rfl : i = j := by omega
      have HM := Lib.hid (St.one_left HS.out.1 hi hj HLO.out HHI.out)
      have HU := Lib.hid (St.shl_sub f a (i - 1) b (by omega) (by omega))
      clear HLO HHI HS HC HF
      have q1 : IntKind.i64.wrap ((i : Int) - 1) = (i : Int) - 1 := IntWalk.i64_in _ (by omega)
      go_wp2
      go_loopw [13] (fun v wr2 => ∃ k : Nat, a ≤ k ∧ k ≤ i - 1 ∧ v = .int .i64 k ∧ Row w0 wr2 g n (St.shl f a k)) (fun v _ => i - (intOf v).toNat)
      case atStart => exact ⟨a, Nat.le_refl _, by omega, rfl, HR2.out.congr (St.shl_self f a)⟩
      case round =>
        obtain ⟨k, hk1, hk2, rfl, hr⟩ := hrel
        by_cases hlt2 : k < i - 1
        · have z0 : (k : Int) < (i : Int) - 1 := by omega
          have q2 : IntKind.i64.wrap ((k : Int) + 1) = (k : Int) + 1 := IntWalk.i64_in _ (by omega)
          have z1 : (0 : Int) ≤ (k : Int) := by omega
          have z2 : (k : Int) < n := by omega
          have z3 : (0 : Int) ≤ (k : Int) + 1 := by omega
          have z4 : (k : Int) + 1 < n := by omega
          have t1 : ((k : Int) + 1).toNat = k + 1 := by omega
          have c1 := hr.cell k (by omega)
          have c2 := hr.cell (k + 1) (by omega)
          have f1 := hr.free k (by omega)
          have f2 := hr.free (k + 1) (by omega)
          have hs := hr.swap k (k + 1) (by omega) (by omega) (by omega)
          have HS := Lib.hid hs
          clear hs hr HR2
          generalize St.shl f a k k = x at *
          generalize St.shl f a k (k + 1) = y at *
          obtain ⟨k1, hk1⟩ : ∃ k1, k1 = k + 1 := ⟨_, rfl⟩
          rw [← hk1] at c2 f2 t1
          have HK1 := Lib.hid hk1
          clear hk1
          go_wp2
          go_big_region
          all_goals go_wp2
          go_roundw
          case rel => exact ⟨k + 1, by omega, by omega, by go_num, (by have := HS.out; rw [← HK1.out] at this ⊢; exact this.congr (by rw [HK1.out]; exact (St.shl_step f a k (by omega)).symm))⟩
          case measure => simp [intOf]; omega
        · obtain rfl : k = i - 1 := by omega
          have HR3 := Lib.hid hr
          clear hr
          have z0 : ¬ (((i - 1 : Nat) : Int) < (i : Int) - 1) := by omega
          go_wp2
          go_end0
          exact ⟨rfl, _, HR3.out, HM.out, HU.out⟩
end Go.Proofs.YtpcmhlbhepickaaGreat
namespace Go.Proofs.YtpcmhlbhepickaaGreat
open Go.RowKit Go.Lib
set_option linter.unusedVariables false
set_option linter.unusedSimpArgs false

theorem St.shr_self (f : Nat → Nat) (m : Nat) : St.shr f m m = f := by
  funext x
  unfold St.shr
  by_cases h : x < m
  · rw [if_pos h]
  · rw [if_neg h]
    by_cases h2 : x = m
    · rw [if_pos h2, h2]
    · rw [if_neg h2, if_neg (by omega)]
theorem St.shr_step (f : Nat → Nat) (k m : Nat) (h : k < m) : St.sw (St.shr f (k + 1) m) (k + 1) k = St.shr f k m := by
  funext x
  unfold St.sw St.shr
  by_cases h1 : x = k + 1
  · subst h1
    rw [if_pos rfl, if_pos (by omega), if_neg (by omega), if_neg (by omega), if_pos (by omega)]; rfl
  · rw [if_neg h1]
    by_cases h2 : x = k
    · subst h2
      rw [if_pos rfl, if_neg (by omega), if_pos rfl, if_neg (by omega), if_pos rfl]
    · rw [if_neg h2]
      by_cases h3 : x < k
      · rw [if_pos (by omega), if_pos h3]
      · rw [if_neg (show ¬ x < k + 1 by omega), if_neg h1, if_neg h3, if_neg h2]
set_option maxHeartbeats 1000000 in
set_option maxRecDepth 100000 in
theorem merge_right (w0 : World) (g n c cr a m : Nat) (R f : Nat → Nat) (w : World) (hn : n < 4611686018427387904) (hR : Row w0 w g n f) (hC : CmpOk w0 g n cr R) (hf : ∀ i, i < n → f i < n)
    (h2 : a + 1 < m) (h3 : m + 1 ≤ n) (s2 : St.Srt R f a m) (st : St.Stb R f a (m + 1)) :
    Calls Tryz.prog 51 #[.slice (some ⟨g, 0, none⟩) n c, .int .i64 a, .int .i64 m, .int .i64 ((m : Int) + 1), .func (.func 27) #[] #[.pointer (some ⟨cr, 0, none⟩)]] w (Merged w0 g n R f a (m + 1)) := by
  have HR := Lib.hid hR
  have HC := Lib.hid hC
  have HF := Lib.hid hf
  have HS := Lib.hid (And.intro s2 st)
  clear hR hC hf s2 st
  have k2 : IntKind.i64.wrap ((m : Int) + 1 - m) = 1 := by rw [show (m : Int) + 1 - m = 1 by omega]; rfl
  have k3 : IntKind.i64.wrap ((m : Int) - a) = (m : Int) - a := IntWalk.i64_in _ (by omega)
  have d0 : (((m : Int) + 1 - m) == 1) = true := by rw [show (m : Int) + 1 - m = 1 by omega]; rfl
  have d1 : (((m : Int) - a) == 1) = false := by simp; omega
  go_enter Tryz.func51, Tryz.ntmps51
  go_wp2
  clear k2 d0 d1 k3
  go_loopw [14, 15] (fun v u wr => ∃ (i j : Nat), a ≤ i ∧ i ≤ j ∧ j ≤ m ∧ v = .int .i64 i ∧ u = .int .i64 j ∧ Row w0 wr g n f ∧ (∀ h, a ≤ h → h < i → St.Lt R (f h) (f m)) ∧ (∀ h, j ≤ h → h < m → St.Lt R (f m) (f h))) (fun v u _ => (intOf u).toNat - (intOf v).toNat)
  case atStart => exact ⟨a, m, Nat.le_refl _, by omega, Nat.le_refl _, rfl, rfl, HR.out, fun h k1 k2 => by omega, fun h k1 k2 => by omega⟩
  case round =>
    obtain ⟨i, j, hi, hij, hj, rfl, rfl, hr, hlo, hhi⟩ := hrel
    have HR2 := Lib.hid hr
    have HLO := Lib.hid hlo
    have HHI := Lib.hid hhi
    clear hr HR hlo hhi
    by_cases hlt : i < j
    · have q1 : IntKind.i64.wrap ((i : Int) + j) = (i : Int) + j := IntWalk.i64_in _ (by omega)
      have q2 : IntKind.u64.wrap ((i : Int) + j) = (i : Int) + j := by rw [IntKind.wrap_u64]; omega
      go_upto_region 17 with (fail)
      have e : ((i : Int) + j) / 2 = (((i + j) / 2 : Nat) : Int) := by omega
      have eh := Lib.hid (show i ≤ (i + j) / 2 ∧ (i + j) / 2 < j by omega)
      generalize (i + j) / 2 = h at *
      rw [e]
      clear e q1 q2
      have z1 : (0 : Int) ≤ (h : Int) := by omega
      have z2 : (h : Int) < n := by have := eh.out; omega
      have z3 : (0 : Int) ≤ (m : Int) := by omega
      have z4 : (m : Int) < n := by omega
      have c1 := HR2.out.cell h (by omega)
      have c2 := HR2.out.cell m (by omega)
      have hc := fun q => HC.out (wr.drewN q) (f m) (f h) (HF.out m (by omega)) (HF.out h (by omega)) (HR2.out.keep.drewN q)
      have hsg := St.sg_neg (R (f h)) (R (f m))
      have hst := St.Stb.no HS.out.2 (show a ≤ h by have := eh.out; omega) (show h < m by have := eh.out; omega) (Nat.lt_succ_self m)
      generalize hcv : St.sg (R (f h)) (R (f m)) = cv at hc hsg
      have HCC := Lib.hid hc
      clear hc hcv
      by_cases hk : R (f h) < R (f m)
      · rw [decide_eq_true (show (R (f h) : Int) < R (f m) by omega)] at hsg
        have hl := Lib.hid (St.Lt.of hk)
        clear hk hst
        go_quiet ((go_at_call 27; exact Calls.quiet_of (HCC.out _)))
        go_wp2
        go_roundw
        case rel =>
          refine ⟨i, h, hi, by have := eh.out; omega, by have := eh.out; omega, rfl, rfl, HR2.out.drewN _, HLO.out, fun x x1 x2 => ?_⟩
          have := eh.out
          by_cases hx : x = h
          · rw [hx]; exact hl.out
          · exact hl.out.trans (HS.out.1 h x (by omega) (by omega) x2)
        case measure => have := eh.out; simp [intOf]; omega
      · rw [decide_eq_false (show ¬ (R (f h) : Int) < R (f m) by omega)] at hsg
        have hl := Lib.hid (hst hk)
        clear hk hst
        go_quiet ((go_at_call 27; exact Calls.quiet_of (HCC.out _)))
        go_wp2
        go_roundw
        case rel =>
          refine ⟨h + 1, j, by have := eh.out; omega, by have := eh.out; omega, hj, by go_num, rfl, HR2.out.drewN _, fun x x1 x2 => ?_, HHI.out⟩
          have := eh.out
          by_cases hx : x = h
          · rw [hx]; exact hl.out
          · exact (HS.out.1 x h x1 (by omega) (by omega)).trans hl.out
        case measure => have := eh.out; simp [intOf]; omega
    · obtain rfl : i = j := by omega
      have HM := Lib.hid (St.one_right HS.out.1 hi hj HLO.out HHI.out)
      have HU := Lib.hid (St.shr_sub f a i m (m + 1) hi hj (by omega))
      clear HLO HHI HS HC HF
      go_wp2
      go_loopw [17] (fun v wr2 => ∃ k : Nat, i ≤ k ∧ k ≤ m ∧ v = .int .i64 k ∧ Row w0 wr2 g n (St.shr f k m)) (fun v _ => (intOf v).toNat)
      case atStart => exact ⟨m, hj, Nat.le_refl _, rfl, HR2.out.congr (St.shr_self f m)⟩
      case round =>
        obtain ⟨k, hk1, hk2, rfl, hr⟩ := hrel
        by_cases hlt2 : i < k
        · obtain ⟨p, rfl⟩ : ∃ p, k = p + 1 := ⟨k - 1, by omega⟩
          have z0 : (i : Int) < (p : Int) + 1 := by omega
          have q2 : IntKind.i64.wrap (p : Int) = (p : Int) := IntWalk.i64_in _ (by omega)
          have z1 : (0 : Int) ≤ (p : Int) := by omega
          have z2 : (p : Int) < n := by omega
          have z3 : (0 : Int) ≤ (p : Int) + 1 := by omega
          have z4 : (p : Int) + 1 < n := by omega
          have t1 : ((p : Int) + 1).toNat = p + 1 := by omega
          have c1 := hr.cell p (by omega)
          have c2 := hr.cell (p + 1) (by omega)
          have f1 := hr.free p (by omega)
          have f2 := hr.free (p + 1) (by omega)
          have hs := (hr.swap (p + 1) p (by omega) (by omega) (by omega)).congr (St.shr_step f p m (by omega)).symm
          have HS := Lib.hid hs
          clear hs hr HR2
          generalize St.shr f (p + 1) m p = x at *
          generalize St.shr f (p + 1) m (p + 1) = y at *
          obtain ⟨k1, hk1⟩ : ∃ k1, k1 = p + 1 := ⟨_, rfl⟩
          rw [← hk1] at c2 f2 t1 HS
          have HK1 := Lib.hid hk1
          clear hk1
          go_wp2
          go_big_region
          all_goals go_wp2
          go_roundw
          case rel => exact ⟨p, by omega, by omega, rfl, HS.out⟩
          case measure => simp [intOf]
        · obtain rfl : i = k := by omega
          have HR3 := Lib.hid hr
          clear hr
          go_wp2
          go_end0
          exact ⟨rfl, _, HR3.out, HM.out, HU.out⟩
end Go.Proofs.YtpcmhlbhepickaaGreat
