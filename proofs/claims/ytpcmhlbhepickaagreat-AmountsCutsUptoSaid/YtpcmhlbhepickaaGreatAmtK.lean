import Derived.Test.YtpcmhlbhepickaaGreatAmtN
import Derived.Defers
import Derived.Recover
import Derived.Laws.Pointers
import Derived.Test.YtpcmhlbhepickaaGreatWWords
/- resolve: try, Check -/
namespace Go.Proofs.YtpcmhlbhepickaaGreat
open Go.Shelf Go.RowKit Go.Lib
set_option linter.unusedVariables false
set_option linter.unusedSimpArgs false
theorem try_idle (p : Addr) (w : World) :
    CallsD Tryz.prog 76 #[.pointer (some p)] .returning w fun e u' w' => e = .returned (.tuple #[]) ∧ u' = .returning ∧ w' = w := by
  refine callsD_of_wpS Tryz.func76 rfl fun c₀ cs hu => ?_
  apply wpS_seq
  apply wpS_region
  simp [wpOpsS, go_sem, recoverD, hu, Tryz.ntmps76, Exit.thenS]
  apply wpS_seq
  apply wpS_region
  simp [wpOpsS, go_sem, hu, Exit.thenS, Act.eval, Array.replicate]
  refine wpS_cond (t := false) (by simp [Act.eval, Array.replicate]) ?_
  simp only [Bool.false_eq_true, if_false]
  refine wpS_of_wp (wp_skip ?_)
  cases c₀
  simp_all [bodyPostS, results, Tryz.results76]
theorem Am.Rs.side {w w1 : World} {B r : Nat} {i : Int} {bk bm bp bs bu bt : Nat} {Dk Dm Dp Dt : DataW Unit} {q : Nat} {vs : Array Value} {t : TypeId} (h : Am.Rs w B r i bk bm bp bs bu bt Dk Dm Dp Dt) (hq : w.heap[q]? = some (.cells vs t (0, 0))) (hqr : r ≠ q) (hqB : B + 13 ≤ q) (k : Keep (fun y => y = q) w w1) : Am.Rs w1 B r i bk bm bp bs bu bt Dk Dm Dp Dt :=
  ⟨h.one.low (k.toBelow h.one.lt (fun y hy => by have h1 : y = q := hy; omega)), k.blk h.blk hqr, k.map h.ak (Am.map_ne h.ak hq), k.map h.am (Am.map_ne h.am hq), k.map h.ap (Am.map_ne h.ap hq), k.map h.ap4 (Am.map_ne h.ap4 hq), h.ok, h.om, h.op, h.ot, h.rB⟩
set_option maxRecDepth 100000 in
theorem try_ok (B r : Nat) (bk bm bp bs bu bt : Nat) (Dk Dm Dp Dt : DataW Unit) (w : World) (h : Am.Rs w B r 0 bk bm bp bs bu bt Dk Dm Dp Dt) :
    Calls Tryz.prog 53 #[.func (.func 54) #[.pointer (some ⟨r, 0, none⟩)] #[]] w fun e w' => e = .returned (.agg #[.int .i64 0, .int .i64 0]) ∧ Am.Rs w' B r 4 bk bm bp bs bu bt Dk Dm Dp Dt ∧ Keep (fun y => y = r) w w' := by
  have hr := blk_lt h.blk
  have hmf : ∀ (fn : Fn) (first cap : Array Value) (w : World), (Instr.makeFunc fn first cap).run Tryz.prog w = .ok (.func fn first cap) w := fun _ _ _ _ => rfl
  have HI := Lib.hid (fun w1 (b : Below w.heap.size w w1) => items_ok B r bk bm bp bs bu bt Dk Dm Dp Dt w1 (h.below b))
  have hA := Lib.hid ((Below.refl w.heap.size w).alloc (Nat.le_refl _) (.cells #[.int .i64 0, .int .i64 0] 133))
  clear h
  go_enter_defers Tryz.func53, Tryz.ntmps53
  go_wp2_with (first
    | (go_at_call 54; refine (HI.out _ hA.out).mono ?_; rintro e w1 ⟨rfl, hR, hK⟩
       have R1 := Lib.hid hR
       have K1 := Lib.hid hK
       have q0 := hK.cell (blk_cell (heap_alloc_new w (.cells #[.int .i64 0, .int .i64 0] 133)) 0 rfl) (by intro e; have h1 : w.heap.size = r := e; omega)
       have q1 := hK.cell (blk_cell (heap_alloc_new w (.cells #[.int .i64 0, .int .i64 0] 133)) 1 rfl) (by intro e; have h1 : w.heap.size = r := e; omega)
       have qb := hK.blk (heap_alloc_new w (.cells #[.int .i64 0, .int .i64 0] 133)) (by intro e; have h1 : w.heap.size = r := e; omega)
       have f0 := blk_free qb 0
       have f1 := blk_free qb 1
       clear hR hK))
  have hrB := R1.out.rB
  refine leaves_cons (f := 76) (args := #[.pointer (some ⟨w.heap.size, 0, none⟩)]) (by simp) (by simp [go_sem]) ?_
  refine (try_idle ⟨w.heap.size, 0, none⟩ _).mono ?_
  rintro e u' w'' ⟨rfl, rfl, rfl⟩
  have KQ : Keep (fun y => y = w.heap.size) w1 ((w1.setCell ⟨w.heap.size, 0, none⟩ (.int .i64 0)).setCell ⟨w.heap.size, 1, none⟩ (.int .i64 0)) := ((Keep.refl (fun y => y = w.heap.size) w1).setCell (p := ⟨w.heap.size, 0, none⟩) (fun _ => rfl) _).setCell (p := ⟨w.heap.size, 1, none⟩) (fun _ => rfl) _
  have HR := Lib.hid (R1.out.side qb (by omega) (by omega) KQ)
  have HK := Lib.hid (show Keep (fun y => y = r) w ((w1.setCell ⟨w.heap.size, 0, none⟩ (.int .i64 0)).setCell ⟨w.heap.size, 1, none⟩ (.int .i64 0)) from
    ((keep_keep (Keep.of_below (F := fun y => y = r) hA.out) K1.out).setCell (p := ⟨w.heap.size, 0, none⟩) (fun h => by have h1 : w.heap.size < w.heap.size := h; omega) _).setCell (p := ⟨w.heap.size, 1, none⟩) (fun h => by have h1 : w.heap.size < w.heap.size := h; omega) _)
  have z0 : ((w1.setCell ⟨w.heap.size, 0, none⟩ (.int .i64 0)).setCell ⟨w.heap.size, 1, none⟩ (.int .i64 0)).cell? ⟨w.heap.size, 0, none⟩ = some (.int .i64 0) := (World.cell?_setCell_other _ _ _ _ (fun e => by injection e with _ e2; exact absurd e2 (by decide))).trans (World.cell?_setCell_same _ _ _ q0)
  have z1 : ((w1.setCell ⟨w.heap.size, 0, none⟩ (.int .i64 0)).setCell ⟨w.heap.size, 1, none⟩ (.int .i64 0)).cell? ⟨w.heap.size, 1, none⟩ = some (.int .i64 0) := World.cell?_setCell_same _ _ _ ((World.cell?_setCell_other _ _ _ _ (fun e => by injection e with _ e2; exact absurd e2 (by decide))).trans q1)
  clear KQ q0 q1 qb f0 f1
  simp [Leaves, settle, results, Tryz.results53, go_sem, z0, z1]
  exact ⟨HR.out, HK.out⟩
end Go.Proofs.YtpcmhlbhepickaaGreat
/- resolve.Check of lexpriorlaw24.one's statute -/
namespace Go.Proofs.YtpcmhlbhepickaaGreat
open Go.Shelf Go.RowKit Go.Lib
set_option linter.unusedVariables false
set_option linter.unusedSimpArgs false
set_option maxHeartbeats 1000000 in
set_option maxRecDepth 100000 in
theorem rcheck_ok (B : Nat) (w : World) (h : Am.One w B) : Calls Tryz.prog 36 #[.agg (Am.stat B)] w fun e w' => e = .returned (.tuple #[.int .i64 0, .int .i64 4]) ∧ Below w.heap.size w w' := by
  have hmf : ∀ (fn : Fn) (first cap : Array Value) (w : World), (Instr.makeFunc fn first cap).run Tryz.prog w = .ok (.func fn first cap) w := fun _ _ _ _ => rfl
  have hA := Lib.hid ((Below.refl w.heap.size w).alloc (Nat.le_refl _) (.cells (Am.stat B) 63))
  have HS := Lib.hid (resolve_calls B (w.alloc (.cells (Am.stat B) 63)) (h.below hA.out))
  unfold Am.stat at hA HS ⊢
  clear h
  go_enter Tryz.func36, Tryz.ntmps36
  go_upto_region 3 with (first
    | (go_at_call 52; refine HS.out.mono ?_; rintro e w1 ⟨r, bk, bm, bp, bs, bu, bt, Dk, Dm, Dp, Dt, rfl, hR, hr, hb⟩
       have HT := Lib.hid (try_ok B r bk bm bp bs bu bt Dk Dm Dp Dt w1 hR)
       have B1 := Lib.hid (below_next hA.out hb)
       have hrr : w.heap.size ≤ r := by have := hA.out.size; omega
       clear hR hr hb)
    | (go_at_call 53; refine HT.out.mono ?_; rintro e w2 ⟨rfl, hR, hK⟩
       have R2 := Lib.hid hR
       have B2 := Lib.hid (B1.out.trans (hK.toBelow B1.out.size (fun y hy => by have h1 : y = r := hy; omega)))
       clear hR hK))
  obtain ⟨W3, hW3⟩ : ∃ W3, w2.alloc (.cells #[.int .i64 0, .int .i64 0] 133) = W3 := ⟨_, rfl⟩
  have hA3 : Below w2.heap.size w2 W3 := by rw [← hW3]; exact (Below.refl w2.heap.size w2).alloc (Nat.le_refl _) _
  have f0 : W3.cell? ⟨w2.heap.size, 0, none⟩ = some (.int .i64 0) := by rw [← hW3]; exact blk_cell (heap_alloc_new w2 _) 0 rfl
  have c9 : W3.cell? ⟨r, 9, none⟩ = some (.int .i64 4) := blk_cell (R2.out.below hA3).blk 9 rfl
  have B3 := Lib.hid (below_next B2.out hA3)
  rw [hW3]
  clear hW3 hA3
  go_upto_region 5 with (fail)
  go_quiet (fail)
  go_wp2_with fail
  go_ret2
  exact ⟨rfl, by first | exact B3.out | exact ⟨B3.out.os, B3.out.tape, B3.out.output, B3.out.size, B3.out.block⟩⟩
end Go.Proofs.YtpcmhlbhepickaaGreat
/- literals.Check of the two literals of lexpriorlaw24.one's ground -/
namespace Go.Proofs.YtpcmhlbhepickaaGreat
open Go.Shelf Go.RowKit Go.Lib
set_option linter.unusedVariables false
set_option linter.unusedSimpArgs false
theorem right1_ok (p : Nat) (w : World) (hp : w.cell? ⟨p, 0, none⟩ = some (.int .i64 1)) : Calls Tryz.prog 99 #[.int .i64 0, .pointer (some ⟨p, 0, none⟩)] w fun e w' => e = .returned (.bool false) ∧ w = w' := by
  go_enter Tryz.func99, Tryz.ntmps99
  go_wp2_with fail
  go_ret
  exact ⟨by first | rfl | simp, rfl⟩
theorem size_new (w : World) (o : Obj) : (w.alloc o).heap.size = w.heap.size + 1 := Array.size_push o
set_option maxRecDepth 100000 in
theorem idxf_ok (a p : Nat) (w : World) (ha : w.cell? ⟨a, 0, none⟩ = some (.int .i64 0)) (hp : w.cell? ⟨p, 0, none⟩ = some (.int .i64 1)) :
    Calls Tryz.prog 124 #[.slice (some ⟨a, 0, none⟩) 1 1, .func (.func 99) #[] #[.pointer (some ⟨p, 0, none⟩)]] w fun e w' => e = .returned (.int .i64 (-1)) ∧ w = w' := by
  have HR := Lib.hid (right1_ok p w hp)
  go_enter Tryz.func124, Tryz.ntmps124
  go_wp2_with fail
  go_loop [8] (fun v => ∃ k : Nat, k ≤ 1 ∧ v = .int .i64 k) (fun v => 1 - (intOf v).toNat)
  case atStart => exact ⟨0, Nat.zero_le _, rfl⟩
  case round =>
    obtain ⟨k, hk, rfl⟩ := hrel
    by_cases hlt : k < 1
    · obtain rfl : k = 0 := by omega
      go_wp2_with (first | (go_at_call 99; refine HR.out.mono ?_; rintro e w2 ⟨rfl, rfl⟩))
      go_round
      case rel => exact ⟨1, Nat.le_refl _, by first | rfl | go_num⟩
      case measure => simp [intOf]
    · obtain rfl : k = 1 := by omega
      go_wp2_with fail
      go_ret
      exact ⟨rfl, rfl⟩
theorem cont_ok (a p : Nat) (w : World) (ha : w.cell? ⟨a, 0, none⟩ = some (.int .i64 0)) (hp : w.cell? ⟨p, 0, none⟩ = some (.int .i64 1)) :
    Calls Tryz.prog 98 #[.slice (some ⟨a, 0, none⟩) 1 1, .func (.func 99) #[] #[.pointer (some ⟨p, 0, none⟩)]] w fun e w' => e = .returned (.bool false) ∧ w = w' := by
  have HI := Lib.hid (idxf_ok a p w ha hp)
  go_enter Tryz.func98, Tryz.ntmps98
  go_wp2_with (first | (go_at_call 124; refine HI.out.mono ?_; rintro e w2 ⟨rfl, rfl⟩))
  go_ret
  exact ⟨by first | rfl | simp, rfl⟩
set_option maxRecDepth 100000 in
theorem idxM_ok (b : Nat) (V : Int) (w : World) (hV : V = 1000 ∨ V = 2000) (h0 : w.cell? ⟨b, 0, none⟩ = some (.int .i64 1000)) (h1 : w.cell? ⟨b, 1, none⟩ = some (.int .i64 2000)) :
    Calls Tryz.prog 125 #[.slice (some ⟨b, 0, none⟩) 2 2, .int .i64 V] w fun e w' => ∃ i : Nat, e = .returned (.int .i64 i) ∧ i ≤ 1 ∧ w = w' := by
  go_enter Tryz.func125, Tryz.ntmps125
  go_wp2_with fail
  go_loop [8] (fun v => ∃ k : Nat, (k = 0 ∨ k = 1 ∧ V = 2000) ∧ v = .int .i64 k) (fun v => 2 - (intOf v).toNat)
  case atStart => exact ⟨0, Or.inl rfl, rfl⟩
  case round =>
    obtain ⟨k, hk, rfl⟩ := hrel
    rcases hk with rfl | ⟨rfl, rfl⟩
    · rcases hV with rfl | rfl
      · go_wp2_with fail
        go_ret
        exact ⟨0, by first | rfl | simp, by decide, rfl⟩
      · go_wp2_with fail
        go_round
        case rel => exact ⟨1, by simp, by first | rfl | go_num⟩
        case measure => simp [intOf]
    · go_wp2_with fail
      go_ret
      exact ⟨1, by first | rfl | simp, by decide, rfl⟩
theorem contM_ok (b : Nat) (V : Int) (w : World) (hV : V = 1000 ∨ V = 2000) (h0 : w.cell? ⟨b, 0, none⟩ = some (.int .i64 1000)) (h1 : w.cell? ⟨b, 1, none⟩ = some (.int .i64 2000)) :
    Calls Tryz.prog 100 #[.slice (some ⟨b, 0, none⟩) 2 2, .int .i64 V] w fun e w' => e = .returned (.bool true) ∧ w = w' := by
  have HI := Lib.hid (idxM_ok b V w hV h0 h1)
  go_enter Tryz.func100, Tryz.ntmps100
  go_wp2_with (first | (go_at_call 125; refine HI.out.mono ?_; rintro e w2 ⟨i, rfl, hi, rfl⟩; have d0 : decide ((0 : Int) ≤ (i : Int)) = true := decide_eq_true (by omega)))
  go_ret
  exact ⟨by first | rfl | simp, rfl⟩
def Am.lit (a : Nat) (V : Int) : Value := .agg #[.bool false, .int .i64 0, .slice (some ⟨a, 0, none⟩) 1 1, .int .i64 V, .int .i64 0]
set_option maxHeartbeats 4000000 in
set_option maxRecDepth 100000 in
theorem right_ok (B a : Nat) (V : Int) (w : World) (h : Am.One w B) (hV : V = 1000 ∨ V = 2000) (ha : w.cell? ⟨a, 0, none⟩ = some (.int .i64 0)) :
    Calls Tryz.prog 55 #[.slice (some ⟨B + 6, 0, none⟩) 1 1, .int .i64 1, Am.lit a V] w fun e w' => e = .returned (.bool true) ∧ Below w.heap.size w w' := by
  have H := Lib.hid h
  have HA := Lib.hid ha
  unfold Am.lit
  clear h ha
  go_enter Tryz.func55, Tryz.ntmps55
  go_upto_region 4 with (fail)
  obtain ⟨W1, hW1⟩ : ∃ W1, w.alloc (Obj.cells #[Value.int IntKind.i64 1] 3) = W1 := ⟨_, rfl⟩
  obtain ⟨W2, hW2⟩ : ∃ W2, W1.alloc (Obj.cells #[.bool false, .int .i64 0, .slice (some ⟨a, 0, none⟩) 1 1, .int .i64 V, .int .i64 0] 99) = W2 := ⟨_, rfl⟩
  obtain ⟨W, hW⟩ : ∃ W, W2.alloc (Obj.cells #[.int .i64 0, .slice (some ⟨a, 0, none⟩) 1 1, .int .i64 V] 97) = W := ⟨_, rfl⟩
  have s1 : W1.heap.size = w.heap.size + 1 := by rw [← hW1]; exact size_new _ _
  have s2 : W2.heap.size = w.heap.size + 1 + 1 := by rw [← hW2, ← s1]; exact size_new _ _
  have s3 : W.heap.size = w.heap.size + 1 + 1 + 1 := by rw [← hW, ← s2]; exact size_new _ _
  have b1 : Below w.heap.size w W1 := by rw [← hW1]; exact (Below.refl _ w).alloc (Nat.le_refl _) _
  have b2' : Below W1.heap.size W1 W2 := by rw [← hW2]; exact (Below.refl _ W1).alloc (Nat.le_refl _) _
  have b3' : Below W2.heap.size W2 W := by rw [← hW]; exact (Below.refl _ W2).alloc (Nat.le_refl _) _
  have HB := Lib.hid (below_next (below_next b1 b2') b3')
  have cm : W.cell? ⟨w.heap.size, 0, none⟩ = some (.int .i64 1) := keep_cell (keep_cell (by rw [← hW1]; exact blk_cell (heap_alloc_new w _) 0 rfl) b2') b3'
  have e0 : W.cell? ⟨w.heap.size + 1 + 1, 0, none⟩ = some (.int .i64 0) := by rw [← hW, ← s2]; exact blk_cell (heap_alloc_new W2 _) 0 rfl
  have e1 : W.cell? ⟨w.heap.size + 1 + 1, 1, none⟩ = some (.slice (some ⟨a, 0, none⟩) 1 1) := by rw [← hW, ← s2]; exact blk_cell (heap_alloc_new W2 _) 1 rfl
  have e2 : W.cell? ⟨w.heap.size + 1 + 1, 2, none⟩ = some (.int .i64 V) := by rw [← hW, ← s2]; exact blk_cell (heap_alloc_new W2 _) 2 rfl
  have O := H.out.below HB.out
  have p0 := O.p0
  have p1 := O.p1
  have p2 := O.p2
  have p3 := O.p3
  have HV := Lib.hid (And.intro O.v0 O.v1)
  have HC := Lib.hid (fun n => cont_ok a w.heap.size (W.drewN n) (show W.cell? _ = _ from keep_cell HA.out HB.out) (show W.cell? _ = _ from cm))
  rw [hW1, hW2, hW]
  clear hW1 hW2 hW b1 b2' b3' O cm s1 s2
  go_quiet (fail)
  go_upto_region 9 with (first | (go_at_call 98; refine (HC.out _).mono ?_; rintro e w' ⟨rfl, rfl⟩))
  obtain ⟨X, hX⟩ : ∃ X, W.drewN nq = X := ⟨_, rfl⟩
  have KX : Below W.heap.size W X := by rw [← hX]; exact ⟨rfl, rfl, rfl, Nat.le_refl _, fun _ _ => rfl⟩
  have sX : X.heap.size = w.heap.size + 1 + 1 + 1 := by rw [← hX]; exact s3
  obtain ⟨Y, hY⟩ : ∃ Y, X.alloc (Obj.cells #[.string Am.sHelp, .int .i64 3, .slice (some ⟨B + 4, 0, none⟩) 1 1, .slice (some ⟨B + 5, 0, none⟩) 2 2] 93) = Y := ⟨_, rfl⟩
  have KY : Below X.heap.size X Y := by rw [← hY]; exact (Below.refl _ X).alloc (Nat.le_refl _) _
  have f1 : Y.cell? ⟨w.heap.size + 1 + 1 + 1, 1, none⟩ = some (.int .i64 3) := by rw [← hY, ← sX]; exact blk_cell (heap_alloc_new X _) 1 rfl
  have f3 : Y.cell? ⟨w.heap.size + 1 + 1 + 1, 3, none⟩ = some (.slice (some ⟨B + 5, 0, none⟩) 2 2) := by rw [← hY, ← sX]; exact blk_cell (heap_alloc_new X _) 3 rfl
  have g2 : Y.cell? ⟨w.heap.size + 1 + 1, 2, none⟩ = some (.int .i64 V) := keep_cell (keep_cell e2 KX) KY
  have HM := Lib.hid (contM_ok (B + 5) V Y hV (keep_cell (keep_cell HV.out.1 KX) KY) (keep_cell (keep_cell HV.out.2 KX) KY))
  have BY := Lib.hid (below_next (below_next HB.out KX) KY)
  rw [hX, hY]
  clear hX hY KX KY sX e0 e1 e2 p0 p1 p2 p3
  go_wp2_with (first | (go_at_call 100; refine HM.out.mono ?_; rintro e w' ⟨rfl, rfl⟩))
  go_ret
  exact ⟨by first | rfl | simp, BY.out⟩
set_option maxRecDepth 100000 in
theorem lcheck_ok (B a : Nat) (V : Int) (w : World) (h : Am.One w B) (hV : V = 1000 ∨ V = 2000) (ha : w.cell? ⟨a, 0, none⟩ = some (.int .i64 0)) :
    Calls Tryz.prog 37 #[.slice (some ⟨B + 6, 0, none⟩) 1 1, .int .i64 1, Am.lit a V] w fun e w' => e = .returned (.int .i64 0) ∧ Below w.heap.size w w' := by
  have HR := Lib.hid (fun w1 (b : Below w.heap.size w w1) => right_ok B a V w1 (h.below b) hV (keep_cell ha b))
  unfold Am.lit at HR ⊢
  clear h ha
  go_enter Tryz.func37, Tryz.ntmps37
  have B1 := Lib.hid ((Below.refl w.heap.size w).alloc (Nat.le_refl _) (.cells #[.bool false, .int .i64 0, .slice (some ⟨a, 0, none⟩) 1 1, .int .i64 V, .int .i64 0] 99))
  go_wp2_with (first | (go_at_call 55; refine (HR.out _ B1.out).mono ?_; rintro e w' ⟨rfl, hb⟩))
  go_ret
  exact ⟨by first | rfl | simp, below_next B1.out hb⟩
end Go.Proofs.YtpcmhlbhepickaaGreat
/- lexpriorlaw24.one: the statute and the ground, as they lie in memory -/
namespace Go.Proofs.YtpcmhlbhepickaaGreat
open Go.Shelf Go.RowKit Go.Lib
open Go.Proofs.YtpcmhlbhepickaaGreatW.PrintWords (results_cc)
set_option linter.unusedVariables false
set_option linter.unusedSimpArgs false
theorem new_at (w : World) (o : Obj) (b : Nat) (h : b = w.heap.size) : (w.alloc o).heap[b]? = some o := by
  subst h
  exact heap_alloc_new w o
theorem old_at (w : World) (o p : Obj) (b : Nat) (h : w.heap[b]? = some p) : (w.alloc o).heap[b]? = some p := by
  have hb : b < w.heap.size := by
    rcases Nat.lt_or_ge b w.heap.size with h1 | h1
    · exact h1
    · rw [Array.getElem?_eq_none h1] at h; cases h
  exact (((Below.refl w.heap.size w).alloc (Nat.le_refl _) o).block b hb).trans h
namespace Am
def ground (B : Nat) : Array Value := #[.slice (some ⟨B + 12, 0, none⟩) 2 2, .slice none 0 0, .slice none 0 0, .int .i64 0, .slice none 0 0, .slice none 0 0, .slice none 0 0]
def litCells (B : Nat) : Array Value := #[.bool false, .int .i64 0, .slice (some ⟨B + 10, 0, none⟩) 1 1, .int .i64 1000, .int .i64 0, .bool false, .int .i64 0, .slice (some ⟨B + 11, 0, none⟩) 1 1, .int .i64 2000, .int .i64 0]
/-- what 'one' has made, its literals too -/
structure Gr (w : World) (B : Nat) : Prop where
  one : One w B
  lits : w.heap[B + 12]? = some (.cells (litCells B) 99 (0, 0))
theorem Gr.below {w w1 : World} {B : Nat} (h : Gr w B) (b : Below w.heap.size w w1) : Gr w1 B := ⟨h.one.below b, (b.block _ (blk_lt h.lits)).trans h.lits⟩
end Am
set_option maxHeartbeats 4000000 in
set_option maxRecDepth 100000 in
theorem one_calls (w : World) : Calls Tryz.prog 21 #[] w fun e w' => e = .returned (.tuple #[.agg (Am.stat w.heap.size), .agg (Am.ground w.heap.size)]) ∧ Am.Gr w' w.heap.size ∧ Below w.heap.size w w' := by
  go_enter Tryz.func21, Tryz.ntmps21
  go_wp2_with fail
  generalize hW : World.alloc _ (Obj.cells #[Value.bool false, _, _, _, _, _, _, _, _, _] _) = W
  have hB : Below w.heap.size w W := by rw [← hW]; repeat (first | exact Below.refl _ _ | refine Below.alloc ?_ (by first | omega | (simp only [size_new]; done) | (simp only [size_new]; omega)) _)
  have b0 : W.heap[w.heap.size]? = some (.cells (Am.stat w.heap.size) 63 (0, 0)) := by rw [← hW]; repeat (first | exact new_at _ _ _ (by first | omega | (simp only [size_new]; done) | (simp only [size_new]; omega)) | apply old_at)
  have b1 : W.heap[w.heap.size + 1]? = some (.cells (Am.ground w.heap.size) 72 (0, 0)) := by rw [← hW]; repeat (first | exact new_at _ _ _ (by first | omega | (simp only [size_new]; done) | (simp only [size_new]; omega)) | apply old_at)
  have b2 : W.heap[w.heap.size + 2]? = some (.cells #[.string Am.sPerson] 9 (0, 0)) := by rw [← hW]; repeat (first | exact new_at _ _ _ (by first | omega | (simp only [size_new]; done) | (simp only [size_new]; omega)) | apply old_at)
  have b3 : W.heap[w.heap.size + 3]? = some (.cells #[.string Am.sAnn, .string Am.sPerson] 90 (0, 0)) := by rw [← hW]; repeat (first | exact new_at _ _ _ (by first | omega | (simp only [size_new]; done) | (simp only [size_new]; omega)) | apply old_at)
  have b4 : W.heap[w.heap.size + 4]? = some (.cells #[.string Am.sPerson] 9 (0, 0)) := by rw [← hW]; repeat (first | exact new_at _ _ _ (by first | omega | (simp only [size_new]; done) | (simp only [size_new]; omega)) | apply old_at)
  have b5 : W.heap[w.heap.size + 5]? = some (.cells #[.int .i64 1000, .int .i64 2000] 23 (0, 0)) := by rw [← hW]; repeat (first | exact new_at _ _ _ (by first | omega | (simp only [size_new]; done) | (simp only [size_new]; omega)) | apply old_at)
  have b6 : W.heap[w.heap.size + 6]? = some (.cells #[.string Am.sHelp, .int .i64 3, .slice (some ⟨w.heap.size + 4, 0, none⟩) 1 1, .slice (some ⟨w.heap.size + 5, 0, none⟩) 2 2] 93 (0, 0)) := by rw [← hW]; repeat (first | exact new_at _ _ _ (by first | omega | (simp only [size_new]; done) | (simp only [size_new]; omega)) | apply old_at)
  have b7 : W.heap[w.heap.size + 7]? = some (.cells #[.string Am.sHelp] 9 (0, 0)) := by rw [← hW]; repeat (first | exact new_at _ _ _ (by first | omega | (simp only [size_new]; done) | (simp only [size_new]; omega)) | apply old_at)
  have b8 : W.heap[w.heap.size + 8]? = some (.cells #[.string Am.sT, .string Am.sPerson, .slice (some ⟨w.heap.size + 7, 0, none⟩) 1 1, .bool true, .int .i64 1500] 95 (0, 0)) := by rw [← hW]; repeat (first | exact new_at _ _ _ (by first | omega | (simp only [size_new]; done) | (simp only [size_new]; omega)) | apply old_at)
  have b10 : W.heap[w.heap.size + 10]? = some (.cells #[.int .i64 0] 3 (0, 0)) := by rw [← hW]; repeat (first | exact new_at _ _ _ (by first | omega | (simp only [size_new]; done) | (simp only [size_new]; omega)) | apply old_at)
  have b11 : W.heap[w.heap.size + 11]? = some (.cells #[.int .i64 0] 3 (0, 0)) := by rw [← hW]; repeat (first | exact new_at _ _ _ (by first | omega | (simp only [size_new]; done) | (simp only [size_new]; omega)) | apply old_at)
  have b12 : W.heap[w.heap.size + 12]? = some (.cells (Am.litCells w.heap.size) 99 (0, 0)) := by rw [← hW]; exact new_at _ _ _ (by first | omega | (simp only [size_new]; done) | (simp only [size_new]; omega))
  clear hW
  refine bodyPost_ret (results_cc rfl _ _ w.heap.size (w.heap.size + 1) 63 72 (Am.stat w.heap.size) (Am.ground w.heap.size) (0, 0) (0, 0) _ _ rfl b0 (by first | exact Tryz.underlying63) rfl rfl rfl b1 (by first | exact Tryz.underlying72) rfl rfl) rfl ?_
  exact ⟨rfl, ⟨⟨blk_lt b12, blk_cell b2 0 rfl, blk_cell b3 0 rfl, blk_cell b3 1 rfl, blk_cell b4 0 rfl, blk_cell b5 0 rfl, blk_cell b5 1 rfl, blk_cell b6 0 rfl, blk_cell b6 1 rfl, blk_cell b6 2 rfl, blk_cell b6 3 rfl, blk_cell b7 0 rfl, blk_cell b8 0 rfl, blk_cell b8 1 rfl, blk_cell b8 2 rfl, blk_cell b8 3 rfl, blk_cell b8 4 rfl, blk_cell b10 0 rfl, blk_cell b11 0 rfl⟩, b12⟩, hB⟩
end Go.Proofs.YtpcmhlbhepickaaGreat
