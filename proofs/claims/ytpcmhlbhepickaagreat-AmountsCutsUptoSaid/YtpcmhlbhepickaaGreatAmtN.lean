import Derived.Test.YtpcmhlbhepickaaGreatAmtT
import Derived.Deep.Cut
/- resolve.each -/
namespace Go.Proofs.YtpcmhlbhepickaaGreat
open Go.Shelf Go.RowKit Go.Lib
set_option linter.unusedVariables false
set_option linter.unusedSimpArgs false
set_option maxRecDepth 100000 in
theorem each1_nil (rv fv : Value) (w : World) : Calls Tryz.prog 86 #[rv, .slice none 0 0, fv] w fun e w' => e = .returned (.tuple #[]) ∧ w = w' := by
  go_enter Tryz.func86, Tryz.ntmps86
  go_wp2_with fail
  go_loop [10] (fun v => v = .int .i64 0) (fun _ => 0)
  case atStart => exact rfl
  case round =>
    subst hrel
    go_wp2_with fail
    go_end0
    exact ⟨rfl, rfl⟩
set_option maxRecDepth 100000 in
theorem each2_nil (rv fv : Value) (w : World) : Calls Tryz.prog 89 #[rv, .slice none 0 0, fv] w fun e w' => e = .returned (.tuple #[]) ∧ w = w' := by
  go_enter Tryz.func89, Tryz.ntmps89
  go_wp2_with fail
  go_loop [10] (fun v => v = .int .i64 0) (fun _ => 0)
  case atStart => exact rfl
  case round =>
    subst hrel
    go_wp2_with fail
    go_end0
    exact ⟨rfl, rfl⟩
set_option maxRecDepth 100000 in
theorem each3_nil (rv fv : Value) (w : World) : Calls Tryz.prog 91 #[rv, .slice none 0 0, fv] w fun e w' => e = .returned (.tuple #[]) ∧ w = w' := by
  go_enter Tryz.func91, Tryz.ntmps91
  go_wp2_with fail
  go_loop [10] (fun v => v = .int .i64 0) (fun _ => 0)
  case atStart => exact rfl
  case round =>
    subst hrel
    go_wp2_with fail
    go_end0
    exact ⟨rfl, rfl⟩
set_option maxRecDepth 100000 in
theorem each4_nil (rv fv : Value) (w : World) : Calls Tryz.prog 93 #[rv, .slice none 0 0, fv] w fun e w' => e = .returned (.tuple #[]) ∧ w = w' := by
  go_enter Tryz.func93, Tryz.ntmps93
  go_wp2_with fail
  go_loop [10] (fun v => v = .int .i64 0) (fun _ => 0)
  case atStart => exact rfl
  case round =>
    subst hrel
    go_wp2_with fail
    go_end0
    exact ⟨rfl, rfl⟩
set_option maxHeartbeats 1000000 in
set_option maxRecDepth 100000 in
theorem eachKind (x B r : Nat) (i : Int) (bk bm bp bs bu bt : Nat) (Dk Dm Dp Dt : DataW Unit) (w : World) (hi : 0 ≤ i ∧ i ≤ 100) (hx : w.cell? ⟨x, 0, none⟩ = some (.pointer (some ⟨r, 0, none⟩))) (h : Am.Rs w B r i bk bm bp bs bu bt Dk Dm Dp Dt) :
    Calls Tryz.prog 78 #[.pointer (some ⟨r, 0, none⟩), .slice (some ⟨B + 2, 0, none⟩) 1 1, .func (.func 79) #[] #[.pointer (some ⟨x, 0, none⟩)]] w fun e w' => e = .returned (.tuple #[]) ∧ Am.Rs w' B r (i + 1) bk bm bp bs bu bt Dk Dm Dp Dt ∧ Keep (fun y => y = r) w w' := by
  have HI := Lib.hid (fun w1 (b : Below w.heap.size w w1) => items1_ok x B r i bk bm bp bs bu bt Dk Dm Dp Dt w1 (keep_cell hx b) (h.below b))
  have HR := Lib.hid (fun w1 (b : Below w.heap.size w w1) => h.below b)
  have hw : IntKind.i64.wrap (i + 1) = i + 1 := IntWalk.i64_in _ (by omega)
  have k0 := h.one.k0
  clear h hx
  go_enter Tryz.func78, Tryz.ntmps78
  go_wp2_with fail
  go_loopw [10] (fun v wr => ∃ k : Nat, k ≤ 1 ∧ v = .int .i64 k ∧ (k = 0 → wr = w) ∧ (k = 1 → Am.Rs wr B r (i + 1) bk bm bp bs bu bt Dk Dm Dp Dt ∧ Keep (fun y => y = r) w wr)) (fun v _ => 1 - (intOf v).toNat)
  case atStart => exact ⟨0, Nat.zero_le _, rfl, fun _ => rfl, fun h => absurd h (by decide)⟩
  case round =>
    obtain ⟨k, hk, rfl, h0, h1⟩ := hrel
    by_cases hlt : k < 1
    · obtain rfl : k = 0 := by omega
      obtain rfl := h0 rfl
      clear h0 h1
      go_wp2_with (first
        | (go_at_call 79; refine (HI.out _ (by first | exact Below.refl _ _ | exact (Below.refl _ wr).alloc (Nat.le_refl _) _)).mono ?_; rintro e w1 ⟨rfl, hb⟩
           have B1 := Lib.hid (show Below wr.heap.size wr w1 by first | exact hb | exact below_next ((Below.refl _ wr).alloc (Nat.le_refl _) _) hb)
           have c9 : w1.cell? ⟨r, 9, none⟩ = some (.int .i64 i) := blk_cell (HR.out _ B1.out).blk 9 rfl
           have f9 := blk_free (HR.out _ B1.out).blk 9
           clear hb))
      go_roundw
      case rel => exact ⟨1, Nat.le_refl _, by first | rfl | go_num, fun h => absurd h (by decide), fun _ => ⟨(HR.out _ B1.out).bump (i + 1), (Keep.of_below (F := fun y => y = r) B1.out).setCell (p := ⟨r, 9, none⟩) (fun _ => rfl) _⟩⟩
      case measure => simp [intOf]
    · obtain rfl : k = 1 := by omega
      have H1 := Lib.hid (h1 rfl)
      clear h0 h1
      go_wp2_with fail
      go_end0
      exact ⟨rfl, H1.out.1, H1.out.2⟩
set_option maxHeartbeats 1000000 in
set_option maxRecDepth 100000 in
theorem eachMember (x B r : Nat) (i : Int) (bk bm bp bs bu bt : Nat) (Dk Dm Dp Dt : DataW Unit) (w : World) (hi : 0 ≤ i ∧ i ≤ 100) (hx : w.cell? ⟨x, 0, none⟩ = some (.pointer (some ⟨r, 0, none⟩))) (h : Am.Rs w B r i bk bm bp bs bu bt Dk Dm Dp Dt) :
    Calls Tryz.prog 81 #[.pointer (some ⟨r, 0, none⟩), .slice (some ⟨B + 3, 0, none⟩) 1 1, .func (.func 82) #[] #[.pointer (some ⟨x, 0, none⟩)]] w fun e w' => e = .returned (.tuple #[]) ∧ Am.Rs w' B r (i + 1) bk bm bp bs bu bt Dk Dm Dp Dt ∧ Keep (fun y => y = r) w w' := by
  have HI := Lib.hid (fun w1 (b : Below w.heap.size w w1) => items2_ok x B r i bk bm bp bs bu bt Dk Dm Dp Dt w1 (keep_cell hx b) (h.below b))
  have HR := Lib.hid (fun w1 (b : Below w.heap.size w w1) => h.below b)
  have hw : IntKind.i64.wrap (i + 1) = i + 1 := IntWalk.i64_in _ (by omega)
  have m0 := h.one.m0
  have m1 := h.one.m1
  clear h hx
  go_enter Tryz.func81, Tryz.ntmps81
  go_wp2_with fail
  go_loopw [10] (fun v wr => ∃ k : Nat, k ≤ 1 ∧ v = .int .i64 k ∧ (k = 0 → wr = w) ∧ (k = 1 → Am.Rs wr B r (i + 1) bk bm bp bs bu bt Dk Dm Dp Dt ∧ Keep (fun y => y = r) w wr)) (fun v _ => 1 - (intOf v).toNat)
  case atStart => exact ⟨0, Nat.zero_le _, rfl, fun _ => rfl, fun h => absurd h (by decide)⟩
  case round =>
    obtain ⟨k, hk, rfl, h0, h1⟩ := hrel
    by_cases hlt : k < 1
    · obtain rfl : k = 0 := by omega
      obtain rfl := h0 rfl
      clear h0 h1
      go_wp2_with (first
        | (go_at_call 82; refine (HI.out _ (by first | exact Below.refl _ _ | exact (Below.refl _ wr).alloc (Nat.le_refl _) _)).mono ?_; rintro e w1 ⟨rfl, hb⟩
           have B1 := Lib.hid (show Below wr.heap.size wr w1 by first | exact hb | exact below_next ((Below.refl _ wr).alloc (Nat.le_refl _) _) hb)
           have c9 : w1.cell? ⟨r, 9, none⟩ = some (.int .i64 i) := blk_cell (HR.out _ B1.out).blk 9 rfl
           have f9 := blk_free (HR.out _ B1.out).blk 9
           clear hb))
      go_roundw
      case rel => exact ⟨1, Nat.le_refl _, by first | rfl | go_num, fun h => absurd h (by decide), fun _ => ⟨(HR.out _ B1.out).bump (i + 1), (Keep.of_below (F := fun y => y = r) B1.out).setCell (p := ⟨r, 9, none⟩) (fun _ => rfl) _⟩⟩
      case measure => simp [intOf]
    · obtain rfl : k = 1 := by omega
      have H1 := Lib.hid (h1 rfl)
      clear h0 h1
      go_wp2_with fail
      go_end0
      exact ⟨rfl, H1.out.1, H1.out.2⟩
set_option maxHeartbeats 1000000 in
set_option maxRecDepth 100000 in
theorem eachPred (B r : Nat) (i : Int) (bk bm bp bs bu bt : Nat) (Dk Dm Dp Dt : DataW Unit) (w : World) (hi : 0 ≤ i ∧ i ≤ 100) (h : Am.Rs w B r i bk bm bp bs bu bt Dk Dm Dp Dt) :
    Calls Tryz.prog 84 #[.pointer (some ⟨r, 0, none⟩), .slice (some ⟨B + 6, 0, none⟩) 1 1, .func (.func 85) #[.pointer (some ⟨r, 0, none⟩)] #[]] w fun e w' => e = .returned (.tuple #[]) ∧ Am.Rs w' B r (i + 1) bk bm bp bs bu bt Dk Dm Dp Dt ∧ Keep (fun y => y = r) w w' := by
  have HI := Lib.hid (fun w1 (b : Below w.heap.size w w1) => pred_ok B r i bk bm bp bs bu bt Dk Dm Dp Dt w1 (h.below b))
  have HR := Lib.hid (fun w1 (b : Below w.heap.size w w1) => h.below b)
  have hw : IntKind.i64.wrap (i + 1) = i + 1 := IntWalk.i64_in _ (by omega)
  have p0 := h.one.p0
  have p1 := h.one.p1
  have p2 := h.one.p2
  have p3 := h.one.p3
  clear h
  go_enter Tryz.func84, Tryz.ntmps84
  go_wp2_with fail
  go_loopw [10] (fun v wr => ∃ k : Nat, k ≤ 1 ∧ v = .int .i64 k ∧ (k = 0 → wr = w) ∧ (k = 1 → Am.Rs wr B r (i + 1) bk bm bp bs bu bt Dk Dm Dp Dt ∧ Keep (fun y => y = r) w wr)) (fun v _ => 1 - (intOf v).toNat)
  case atStart => exact ⟨0, Nat.zero_le _, rfl, fun _ => rfl, fun h => absurd h (by decide)⟩
  case round =>
    obtain ⟨k, hk, rfl, h0, h1⟩ := hrel
    by_cases hlt : k < 1
    · obtain rfl : k = 0 := by omega
      obtain rfl := h0 rfl
      clear h0 h1
      go_wp2_with (first
        | (go_at_call 85; refine (HI.out _ (by first | exact Below.refl _ _ | exact (Below.refl _ wr).alloc (Nat.le_refl _) _)).mono ?_; rintro e w1 ⟨rfl, hb⟩
           have B1 := Lib.hid (show Below wr.heap.size wr w1 by first | exact hb | exact below_next ((Below.refl _ wr).alloc (Nat.le_refl _) _) hb)
           have c9 : w1.cell? ⟨r, 9, none⟩ = some (.int .i64 i) := blk_cell (HR.out _ B1.out).blk 9 rfl
           have f9 := blk_free (HR.out _ B1.out).blk 9
           clear hb))
      go_roundw
      case rel => exact ⟨1, Nat.le_refl _, by first | rfl | go_num, fun h => absurd h (by decide), fun _ => ⟨(HR.out _ B1.out).bump (i + 1), (Keep.of_below (F := fun y => y = r) B1.out).setCell (p := ⟨r, 9, none⟩) (fun _ => rfl) _⟩⟩
      case measure => simp [intOf]
    · obtain rfl : k = 1 := by omega
      have H1 := Lib.hid (h1 rfl)
      clear h0 h1
      go_wp2_with fail
      go_end0
      exact ⟨rfl, H1.out.1, H1.out.2⟩
set_option maxHeartbeats 1000000 in
set_option maxRecDepth 100000 in
theorem eachTotal (B r : Nat) (i : Int) (bk bm bp bs bu bt : Nat) (Dk Dm Dp Dt : DataW Unit) (w : World) (hi : 0 ≤ i ∧ i ≤ 100) (h : Am.Rs w B r i bk bm bp bs bu bt Dk Dm Dp Dt) :
    Calls Tryz.prog 95 #[.pointer (some ⟨r, 0, none⟩), .slice (some ⟨B + 8, 0, none⟩) 1 1, .func (.func 96) #[.pointer (some ⟨r, 0, none⟩)] #[]] w fun e w' => e = .returned (.tuple #[]) ∧ Am.Rs w' B r (i + 1) bk bm bp bs bu bt Dk Dm Dp Dt ∧ Keep (fun y => y = r) w w' := by
  have HI := Lib.hid (fun w1 (b : Below w.heap.size w w1) => total_ok B r i bk bm bp bs bu bt Dk Dm Dp Dt w1 (h.below b))
  have HR := Lib.hid (fun w1 (b : Below w.heap.size w w1) => h.below b)
  have hw : IntKind.i64.wrap (i + 1) = i + 1 := IntWalk.i64_in _ (by omega)
  have t0 := h.one.t0
  have t1 := h.one.t1
  have t2 := h.one.t2
  have t3 := h.one.t3
  have t4 := h.one.t4
  clear h
  go_enter Tryz.func95, Tryz.ntmps95
  go_wp2_with fail
  go_loopw [10] (fun v wr => ∃ k : Nat, k ≤ 1 ∧ v = .int .i64 k ∧ (k = 0 → wr = w) ∧ (k = 1 → Am.Rs wr B r (i + 1) bk bm bp bs bu bt Dk Dm Dp Dt ∧ Keep (fun y => y = r) w wr)) (fun v _ => 1 - (intOf v).toNat)
  case atStart => exact ⟨0, Nat.zero_le _, rfl, fun _ => rfl, fun h => absurd h (by decide)⟩
  case round =>
    obtain ⟨k, hk, rfl, h0, h1⟩ := hrel
    by_cases hlt : k < 1
    · obtain rfl : k = 0 := by omega
      obtain rfl := h0 rfl
      clear h0 h1
      go_wp2_with (first
        | (go_at_call 96; refine (HI.out _ (by first | exact Below.refl _ _ | exact (Below.refl _ wr).alloc (Nat.le_refl _) _)).mono ?_; rintro e w1 ⟨rfl, hb⟩
           have B1 := Lib.hid (show Below wr.heap.size wr w1 by first | exact hb | exact below_next ((Below.refl _ wr).alloc (Nat.le_refl _) _) hb)
           have c9 : w1.cell? ⟨r, 9, none⟩ = some (.int .i64 i) := blk_cell (HR.out _ B1.out).blk 9 rfl
           have f9 := blk_free (HR.out _ B1.out).blk 9
           clear hb))
      go_roundw
      case rel => exact ⟨1, Nat.le_refl _, by first | rfl | go_num, fun h => absurd h (by decide), fun _ => ⟨(HR.out _ B1.out).bump (i + 1), (Keep.of_below (F := fun y => y = r) B1.out).setCell (p := ⟨r, 9, none⟩) (fun _ => rfl) _⟩⟩
      case measure => simp [intOf]
    · obtain rfl : k = 1 := by omega
      have H1 := Lib.hid (h1 rfl)
      clear h0 h1
      go_wp2_with fail
      go_end0
      exact ⟨rfl, H1.out.1, H1.out.2⟩
end Go.Proofs.YtpcmhlbhepickaaGreat
/- resolve: items -/
namespace Go.Proofs.YtpcmhlbhepickaaGreat
open Go.Shelf Go.RowKit Go.Lib
set_option linter.unusedVariables false
set_option linter.unusedSimpArgs false
/-- items' own variables: the resolver's address, the statute -/
structure Am.Loc (w : World) (x s r B : Nat) : Prop where
  x0 : w.cell? ⟨x, 0, none⟩ = some (.pointer (some ⟨r, 0, none⟩))
  s0 : ∀ j v, (Am.stat B)[j]? = some v → w.cell? ⟨s, j, none⟩ = some v
theorem Am.Loc.keep {w w1 : World} {x s r B : Nat} (h : Am.Loc w x s r B) (k : Keep (fun y => y = r) w w1) (hx : x ≠ r) (hs : s ≠ r) : Am.Loc w1 x s r B :=
  ⟨k.cell h.x0 hx, fun j v hj => k.cell (h.s0 j v hj) hs⟩
theorem keep_keep {r : Nat} {w w1 w2 : World} (a : Keep (fun y => y = r) w w1) (b : Keep (fun y => y = r) w1 w2) : Keep (fun y => y = r) w w2 := a.trans b (fun _ _ h => h)
set_option maxHeartbeats 4000000 in
set_option maxRecDepth 100000 in
theorem items_ok (B r : Nat) (bk bm bp bs bu bt : Nat) (Dk Dm Dp Dt : DataW Unit) (w : World) (h : Am.Rs w B r 0 bk bm bp bs bu bt Dk Dm Dp Dt) :
    Calls Tryz.prog 54 #[.pointer (some ⟨r, 0, none⟩)] w fun e w' => e = .returned (.tuple #[]) ∧ Am.Rs w' B r 4 bk bm bp bs bu bt Dk Dm Dp Dt ∧ Keep (fun y => y = r) w w' := by
  have hr := blk_lt h.blk
  have hA1 := (Below.refl w.heap.size w).alloc (Nat.le_refl _) (.cells #[.pointer (some ⟨r, 0, none⟩)] 130)
  have hb := (h.below hA1).blk
  have r0 : (w.alloc (.cells #[.pointer (some ⟨r, 0, none⟩)] 130)).cell? ⟨r, 0, none⟩ = some (.string ⟨#[]⟩) := blk_cell hb 0 rfl
  have r1 : (w.alloc (.cells #[.pointer (some ⟨r, 0, none⟩)] 130)).cell? ⟨r, 1, none⟩ = some (.slice (some ⟨B + 2, 0, none⟩) 1 1) := blk_cell hb 1 rfl
  have r2 : (w.alloc (.cells #[.pointer (some ⟨r, 0, none⟩)] 130)).cell? ⟨r, 2, none⟩ = some (.slice (some ⟨B + 3, 0, none⟩) 1 1) := blk_cell hb 2 rfl
  have r3 : (w.alloc (.cells #[.pointer (some ⟨r, 0, none⟩)] 130)).cell? ⟨r, 3, none⟩ = some (.slice (some ⟨B + 6, 0, none⟩) 1 1) := blk_cell hb 3 rfl
  have r4 : (w.alloc (.cells #[.pointer (some ⟨r, 0, none⟩)] 130)).cell? ⟨r, 4, none⟩ = some (.slice none 0 0) := blk_cell hb 4 rfl
  have r5 : (w.alloc (.cells #[.pointer (some ⟨r, 0, none⟩)] 130)).cell? ⟨r, 5, none⟩ = some (.slice none 0 0) := blk_cell hb 5 rfl
  have r6 : (w.alloc (.cells #[.pointer (some ⟨r, 0, none⟩)] 130)).cell? ⟨r, 6, none⟩ = some (.slice none 0 0) := blk_cell hb 6 rfl
  have r7 : (w.alloc (.cells #[.pointer (some ⟨r, 0, none⟩)] 130)).cell? ⟨r, 7, none⟩ = some (.slice none 0 0) := blk_cell hb 7 rfl
  have r8 : (w.alloc (.cells #[.pointer (some ⟨r, 0, none⟩)] 130)).cell? ⟨r, 8, none⟩ = some (.slice (some ⟨B + 8, 0, none⟩) 1 1) := blk_cell hb 8 rfl
  have H := Lib.hid h
  have hmm := @run_makeMap Tryz.prog
  clear h hb hA1
  go_enter Tryz.func54, Tryz.ntmps54
  go_upto_region 2 with (fail)
  obtain ⟨W0, hW0⟩ : ∃ W0, (w.alloc (.cells #[.pointer (some ⟨r, 0, none⟩)] 130)).alloc (.cells (Am.stat B) 63) = W0 := ⟨_, rfl⟩
  have hA2 : Below w.heap.size w W0 := by rw [← hW0]; exact ((Below.refl w.heap.size w).alloc (Nat.le_refl _) _).alloc (by simp) _
  have hs1 : (w.alloc (.cells #[.pointer (some ⟨r, 0, none⟩)] 130)).heap.size = w.heap.size + 1 := by simp
  have L0 := Lib.hid (show Am.Loc W0 w.heap.size (w.heap.size + 1) r B by
    rw [← hW0]
    refine ⟨?_, fun j v hj => ?_⟩
    · exact blk_cell ((Below.heap_alloc _ _ _ (by simp)).trans (heap_alloc_new w _)) 0 rfl
    · have h1 := heap_alloc_new (w.alloc (.cells #[.pointer (some ⟨r, 0, none⟩)] 130)) (.cells (Am.stat B) 63)
      rw [hs1] at h1
      exact blk_cell h1 j hj)
  have R0 := Lib.hid (H.out.below hA2)
  have K0 := Lib.hid (Keep.of_below (F := fun y => y = r) hA2)
  have hxr : w.heap.size ≠ r := by omega
  have hsr : w.heap.size + 1 ≠ r := by omega
  unfold Am.stat at hW0
  rw [hW0]
  clear hW0 hA2 hs1 r0 r1 r2 r3 r4 r5 r6 r7 r8 H
  have x := L0.out.x0
  have s1 : W0.cell? ⟨w.heap.size + 1, 1, none⟩ = some (.slice (some ⟨B + 2, 0, none⟩) 1 1) := L0.out.s0 1 _ rfl
  have s2 : W0.cell? ⟨w.heap.size + 1, 2, none⟩ = some (.slice (some ⟨B + 3, 0, none⟩) 1 1) := L0.out.s0 2 _ rfl
  have s3 : W0.cell? ⟨w.heap.size + 1, 3, none⟩ = some (.slice (some ⟨B + 6, 0, none⟩) 1 1) := L0.out.s0 3 _ rfl
  have s4 : W0.cell? ⟨w.heap.size + 1, 4, none⟩ = some (.slice none 0 0) := L0.out.s0 4 _ rfl
  have s5 : W0.cell? ⟨w.heap.size + 1, 5, none⟩ = some (.slice none 0 0) := L0.out.s0 5 _ rfl
  have s6 : W0.cell? ⟨w.heap.size + 1, 6, none⟩ = some (.slice none 0 0) := L0.out.s0 6 _ rfl
  have s7 : W0.cell? ⟨w.heap.size + 1, 7, none⟩ = some (.slice none 0 0) := L0.out.s0 7 _ rfl
  have s8 : W0.cell? ⟨w.heap.size + 1, 8, none⟩ = some (.slice (some ⟨B + 8, 0, none⟩) 1 1) := L0.out.s0 8 _ rfl
  go_upto_region 4 with (first
    | (go_at_call 77; with_reducible refine (want_ok _ _ _).mono ?_; rintro e w2 ⟨rfl, rfl⟩)
    | (go_at_call 78; refine (eachKind w.heap.size B r 0 bk bm bp bs bu bt Dk Dm Dp Dt W0 (by decide) x R0.out).mono ?_; rintro e w1 ⟨rfl, hR, hK⟩
       have R1 := Lib.hid hR
       have L1 := Lib.hid (L0.out.keep hK hxr hsr)
       have K1 := Lib.hid (keep_keep K0.out hK)
       clear hR hK))
  clear x s1 s2 s3 s4 s5 s6 s7 s8
  have x := L1.out.x0
  have s2 : w1.cell? ⟨w.heap.size + 1, 2, none⟩ = some (.slice (some ⟨B + 3, 0, none⟩) 1 1) := L1.out.s0 2 _ rfl
  go_upto_region 5 with (first
    | (go_at_call 77; with_reducible refine (want_ok _ _ _).mono ?_; rintro e w2 ⟨rfl, rfl⟩)
    | (go_at_call 81; refine (eachMember w.heap.size B r (0 + 1) bk bm bp bs bu bt Dk Dm Dp Dt w1 (by decide) x R1.out).mono ?_; rintro e w2 ⟨rfl, hR, hK⟩
       have R2 := Lib.hid hR
       have L2 := Lib.hid (L1.out.keep hK hxr hsr)
       have K2 := Lib.hid (keep_keep K1.out hK)
       clear hR hK))
  clear x s2
  have x := L2.out.x0
  have s3 : w2.cell? ⟨w.heap.size + 1, 3, none⟩ = some (.slice (some ⟨B + 6, 0, none⟩) 1 1) := L2.out.s0 3 _ rfl
  go_upto_region 6 with (first
    | (go_at_call 77; with_reducible refine (want_ok _ _ _).mono ?_; rintro e w2 ⟨rfl, rfl⟩)
    | (go_at_call 84; refine (eachPred B r (0 + 1 + 1) bk bm bp bs bu bt Dk Dm Dp Dt w2 (by decide) R2.out).mono ?_; rintro e w3 ⟨rfl, hR, hK⟩
       have R3 := Lib.hid hR
       have L3 := Lib.hid (L2.out.keep hK hxr hsr)
       have K3 := Lib.hid (keep_keep K2.out hK)
       clear hR hK))
  clear x s3
  go_upto_region 7 with (fail)
  obtain ⟨V3, hV3⟩ : ∃ V, (w3.alloc (.map #[] 0)).alloc (.cells #[.map (some w3.heap.size)] 135) = V := ⟨_, rfl⟩
  have hA : Below w3.heap.size w3 V3 := by rw [← hV3]; exact ((Below.refl w3.heap.size w3).alloc (Nat.le_refl _) _).alloc (by simp) _
  have R3' := Lib.hid (R3.out.below hA)
  have L3' := Lib.hid (L3.out.keep (Keep.of_below (F := fun y => y = r) hA) hxr hsr)
  have K3' := Lib.hid (keep_keep K3.out (Keep.of_below (F := fun y => y = r) hA))
  rw [hV3]
  clear hV3 hA
  have x := L3'.out.x0
  have s4 : V3.cell? ⟨w.heap.size + 1, 4, none⟩ = some (.slice none 0 0) := L3'.out.s0 4 _ rfl
  have s5 : V3.cell? ⟨w.heap.size + 1, 5, none⟩ = some (.slice none 0 0) := L3'.out.s0 5 _ rfl
  have s6 : V3.cell? ⟨w.heap.size + 1, 6, none⟩ = some (.slice none 0 0) := L3'.out.s0 6 _ rfl
  go_upto_region 10 with (first
    | (go_at_call 86; refine (each1_nil _ _ _).mono ?_; rintro e y ⟨rfl, rfl⟩)
    | (go_at_call 89; refine (each2_nil _ _ _).mono ?_; rintro e y ⟨rfl, rfl⟩)
    | (go_at_call 91; refine (each3_nil _ _ _).mono ?_; rintro e y ⟨rfl, rfl⟩))
  clear x s4 s5 s6
  go_upto_region 11 with (fail)
  obtain ⟨V4, hV4⟩ : ∃ V, (V3.alloc (.map #[] 0)).alloc (.cells #[.map (some V3.heap.size)] 184) = V := ⟨_, rfl⟩
  have hA : Below V3.heap.size V3 V4 := by rw [← hV4]; exact ((Below.refl V3.heap.size V3).alloc (Nat.le_refl _) _).alloc (by simp) _
  have R4 := Lib.hid (R3'.out.below hA)
  have L4 := Lib.hid (L3'.out.keep (Keep.of_below (F := fun y => y = r) hA) hxr hsr)
  have K4 := Lib.hid (keep_keep K3'.out (Keep.of_below (F := fun y => y = r) hA))
  rw [hV4]
  clear hV4 hA
  have x := L4.out.x0
  have s7 : V4.cell? ⟨w.heap.size + 1, 7, none⟩ = some (.slice none 0 0) := L4.out.s0 7 _ rfl
  have s8 : V4.cell? ⟨w.heap.size + 1, 8, none⟩ = some (.slice (some ⟨B + 8, 0, none⟩) 1 1) := L4.out.s0 8 _ rfl
  go_wp2_with (first
    | (go_at_call 93; refine (each4_nil _ _ _).mono ?_; rintro e y ⟨rfl, rfl⟩)
    | (go_at_call 95; refine (eachTotal B r (0 + 1 + 1 + 1) bk bm bp bs bu bt Dk Dm Dp Dt V4 (by decide) R4.out).mono ?_; rintro e w5 ⟨rfl, hR, hK⟩
       have R5 := Lib.hid hR
       have K5 := Lib.hid (keep_keep K4.out hK)
       clear hR hK))
  go_end0
  exact ⟨rfl, R5.out, K5.out⟩
end Go.Proofs.YtpcmhlbhepickaaGreat
