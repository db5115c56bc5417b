import Derived.Test.YtpcmhlbhepickaaGreatAmtK
import Derived.Test.YtpcmhlbhepickaaGreatAmtPl
import Derived.Lib.LazyBuf
import Derived.Test.YtpcmhlbhepickaaGreatShelf
import Derived.Shelf.Strconv.Itoa0
/- slices.Clone and slices.SortFunc of short rows -/
namespace Go.Proofs.YtpcmhlbhepickaaGreat
open Go.Shelf Go.RowKit Go.Lib
set_option linter.unusedVariables false
set_option linter.unusedSimpArgs false
theorem addr_add (g j : Nat) : (⟨g, 0, none⟩ : Addr).add j = ⟨g, j, none⟩ := by
  cases j with
  | zero => rfl
  | succ k => simp [Addr.add]
theorem own_split {w : World} {base : Nat} {e : TypeId} {size n : Nat} {v : Value} {xs : List Value} (h : w.ownsRow base e size v n xs) (hn : 0 < n) : ∃ g cap, v = .slice (some ⟨g, 0, none⟩) n cap ∧ base ≤ g ∧ n ≤ cap ∧ g < w.heap.size ∧ ∀ j u, xs[j]? = some u → w.cell? ⟨g, j, none⟩ = some u := by
  rcases h.2 with ⟨rfl, h0⟩ | ⟨g, cap, cur, rfl, h1, h2, h3, h4, h5, h6⟩
  · omega
  · refine ⟨g, cap, rfl, h1, h3, blk_lt h2, fun j u hj => ?_⟩
    have := h.cells (g := g) rfl j u hj
    rwa [addr_add] at this
set_option maxRecDepth 100000 in
theorem info_lit : ∃ i z, (Tryz.prog).info? 99 = some i ∧ i.zero = some z ∧ i.size = 5 ∧ i.bytes = 56 ∧ z.cells.size = 5 := ⟨_, _, rfl, rfl, rfl, rfl, rfl⟩
set_option maxHeartbeats 4000000 in
set_option maxRecDepth 100000 in
theorem clone_lit (a : Addr) (n c : Nat) (xs : List Value) (w : World) (hn : 0 < n) (hn2 : n ≤ 1099511627776) (hl : xs.length = n * 5) (hcell : ∀ j u, xs[j]? = some u → w.cell? (a.add j) = some u) (hone : ∀ u ∈ xs, u.oneCell' = true) :
    Calls Tryz.prog 38 #[.slice (some a) n c] w fun e w' => ∃ v, e = .returned v ∧ w'.ownsRow w.heap.size 99 5 v n xs ∧ Below w.heap.size w w' := by
  obtain ⟨i0, z0, hinfo, hz0, hz1, hz2, hz3⟩ := info_lit
  have hcell2 : ∀ j u, xs[j]? = some u → (w.alloc (.cells #[] 99)).cell? (a.add j) = some u := fun j u h => keep_cell (hcell j u h) ((Below.refl _ w).alloc (Nat.le_refl _) _)
  have HC := Lib.hid hcell2
  have HX := Lib.hid (And.intro hl hone)
  have heq := fun (w1 : World) => run_eql_slice_nil (P := Tryz.prog) w1 64 99 (some a) n c Tryz.underlying64
  clear hcell hcell2 hl hone
  go_enter Tryz.func38, Tryz.ntmps38
  go_wp2_with (first | (at_builtin; refine wpList_append_grows _ rfl _ _ 64 rfl 99 i0 z0 5 56 Tryz.underlying64 hinfo hz0 hz1 hz2 hz3 (by decide) (some ⟨w.heap.size, 0, none⟩) 0 0 [] rfl (fun h => by cases h) rfl (fun _ _ j u h => by simp at h) a n c xs rfl HX.out.1 HC.out HX.out.2 (by omega) (by unfold maxLen; omega) (by omega) ?_))
  intro v' w' hown hgrow
  have HO := Lib.hid hown
  have HB := Lib.hid (((Below.refl w.heap.size w).alloc (Nat.le_refl _) (.cells #[] 99)).grown hgrow (by simp) (fun k h => by cases h))
  clear hown hgrow
  go_wp2_with fail
  go_ret
  have hO := HO.out
  refine ⟨v', rfl, ?_, HB.out⟩
  rcases hO.2 with ⟨rfl, h0⟩ | ⟨g, cap, cur, rfl, h1, h2, h3, h4, h5, h6⟩
  · omega
  · exact ⟨hO.1, .inr ⟨g, cap, cur, rfl, by first | omega | (rw [size_new] at h1; omega), h2, h3, h4, h5, h6⟩⟩
set_option maxRecDepth 100000 in
theorem info_int : ∃ i z, (Tryz.prog).info? 3 = some i ∧ i.zero = some z ∧ i.size = 1 ∧ i.bytes = 8 ∧ z.cells.size = 1 := ⟨_, _, rfl, rfl, rfl, rfl, rfl⟩
set_option maxHeartbeats 4000000 in
set_option maxRecDepth 100000 in
theorem clone_int (a : Addr) (n c : Nat) (xs : List Value) (w : World) (hn : 0 < n) (hn2 : n ≤ 1099511627776) (hl : xs.length = n * 1) (hcell : ∀ j u, xs[j]? = some u → w.cell? (a.add j) = some u) (hone : ∀ u ∈ xs, u.oneCell' = true) :
    Calls Tryz.prog 41 #[.slice (some a) n c] w fun e w' => ∃ v, e = .returned v ∧ w'.ownsRow w.heap.size 3 1 v n xs ∧ Below w.heap.size w w' := by
  obtain ⟨i0, z0, hinfo, hz0, hz1, hz2, hz3⟩ := info_int
  have hcell2 : ∀ j u, xs[j]? = some u → (w.alloc (.cells #[] 3)).cell? (a.add j) = some u := fun j u h => keep_cell (hcell j u h) ((Below.refl _ w).alloc (Nat.le_refl _) _)
  have HC := Lib.hid hcell2
  have HX := Lib.hid (And.intro hl hone)
  have heq := fun (w1 : World) => run_eql_slice_nil (P := Tryz.prog) w1 66 3 (some a) n c Tryz.underlying66
  clear hcell hcell2 hl hone
  go_enter Tryz.func41, Tryz.ntmps41
  go_wp2_with (first | (at_builtin; refine wpList_append_grows _ rfl _ _ 66 rfl 3 i0 z0 1 8 Tryz.underlying66 hinfo hz0 hz1 hz2 hz3 (by decide) (some ⟨w.heap.size, 0, none⟩) 0 0 [] rfl (fun h => by cases h) rfl (fun _ _ j u h => by simp at h) a n c xs rfl HX.out.1 HC.out HX.out.2 (by omega) (by unfold maxLen; omega) (by omega) ?_))
  intro v' w' hown hgrow
  have HO := Lib.hid hown
  have HB := Lib.hid (((Below.refl w.heap.size w).alloc (Nat.le_refl _) (.cells #[] 3)).grown hgrow (by simp) (fun k h => by cases h))
  clear hown hgrow
  go_wp2_with fail
  go_ret
  have hO := HO.out
  refine ⟨v', rfl, ?_, HB.out⟩
  rcases hO.2 with ⟨rfl, h0⟩ | ⟨g, cap, cur, rfl, h1, h2, h3, h4, h5, h6⟩
  · omega
  · exact ⟨hO.1, .inr ⟨g, cap, cur, rfl, by first | omega | (rw [size_new] at h1; omega), h2, h3, h4, h5, h6⟩⟩
set_option maxRecDepth 100000 in
theorem info_line : ∃ i z, (Tryz.prog).info? 27 = some i ∧ i.zero = some z ∧ i.size = 4 ∧ i.bytes = 32 ∧ z.cells.size = 4 := ⟨_, _, rfl, rfl, rfl, rfl, rfl⟩
set_option maxHeartbeats 4000000 in
set_option maxRecDepth 100000 in
theorem clone_line (a : Addr) (n c : Nat) (xs : List Value) (w : World) (hn : 0 < n) (hn2 : n ≤ 1099511627776) (hl : xs.length = n * 4) (hcell : ∀ j u, xs[j]? = some u → w.cell? (a.add j) = some u) (hone : ∀ u ∈ xs, u.oneCell' = true) :
    Calls Tryz.prog 17 #[.slice (some a) n c] w fun e w' => ∃ v, e = .returned v ∧ w'.ownsRow w.heap.size 27 4 v n xs ∧ Below w.heap.size w w' := by
  obtain ⟨i0, z0, hinfo, hz0, hz1, hz2, hz3⟩ := info_line
  have hcell2 : ∀ j u, xs[j]? = some u → (w.alloc (.cells #[] 27)).cell? (a.add j) = some u := fun j u h => keep_cell (hcell j u h) ((Below.refl _ w).alloc (Nat.le_refl _) _)
  have HC := Lib.hid hcell2
  have HX := Lib.hid (And.intro hl hone)
  have heq := fun (w1 : World) => run_eql_slice_nil (P := Tryz.prog) w1 24 27 (some a) n c Tryz.underlying24
  clear hcell hcell2 hl hone
  go_enter Tryz.func17, Tryz.ntmps17
  go_wp2_with (first | (at_builtin; refine wpList_append_grows _ rfl _ _ 24 rfl 27 i0 z0 4 32 Tryz.underlying24 hinfo hz0 hz1 hz2 hz3 (by decide) (some ⟨w.heap.size, 0, none⟩) 0 0 [] rfl (fun h => by cases h) rfl (fun _ _ j u h => by simp at h) a n c xs rfl HX.out.1 HC.out HX.out.2 (by omega) (by unfold maxLen; omega) (by omega) ?_))
  intro v' w' hown hgrow
  have HO := Lib.hid hown
  have HB := Lib.hid (((Below.refl w.heap.size w).alloc (Nat.le_refl _) (.cells #[] 27)).grown hgrow (by simp) (fun k h => by cases h))
  clear hown hgrow
  go_wp2_with fail
  go_ret
  have hO := HO.out
  refine ⟨v', rfl, ?_, HB.out⟩
  rcases hO.2 with ⟨rfl, h0⟩ | ⟨g, cap, cur, rfl, h1, h2, h3, h4, h5, h6⟩
  · omega
  · exact ⟨hO.1, .inr ⟨g, cap, cur, rfl, by first | omega | (rw [size_new] at h1; omega), h2, h3, h4, h5, h6⟩⟩
end Go.Proofs.YtpcmhlbhepickaaGreat
/- slices.SortFunc of short rows: nothing is moved -/
namespace Go.Proofs.YtpcmhlbhepickaaGreat
open Go.Shelf Go.RowKit Go.Lib
open Go.Proofs.YtpcmhlbhepickaaGreat.PAmountsCuts
open Go.Proofs.YtpcmhlbhepickaaGreatW.PrintWords
set_option linter.unusedVariables false
set_option linter.unusedSimpArgs false
theorem kdC_cells (g : Nat) (xs : List Int) (w : World) (h : ∀ j v, xs[j]? = some v → w.cell? ⟨g, j, none⟩ = some (.int .i64 v)) (hl : xs.length ≤ 4611686018427387904) : Kd.C (Kd.int .i64) w (some ⟨g, 0, none⟩) xs.length xs := by
  refine ⟨rfl, by omega, fun _ => ⟨_, rfl, fun j p hj => ?_⟩⟩
  refine ⟨[.int .i64 p], rfl, rfl, fun i u hi => ?_⟩
  match i, hi with
  | 0, hi =>
    obtain rfl : Value.int .i64 p = u := by simpa using hi
    have e : (Kd.int IntKind.i64).sz = 1 := rfl
    rw [e, addr_add, Nat.mul_one, Nat.add_zero]
    exact h j p hj
theorem kdC_one (a : Nat) (v : Int) (w : World) (h : w.cell? ⟨a, 0, none⟩ = some (.int .i64 v)) : Kd.C (Kd.int .i64) w (some ⟨a, 0, none⟩) 1 [v] := by
  refine kdC_cells a [v] w (fun j u hj => ?_) (by simp)
  match j, hj with
  | 0, hj =>
    obtain rfl : v = u := by simpa using hj
    exact h
theorem kdC_two (a : Nat) (x y : Int) (w : World) (h : w.cell? ⟨a, 0, none⟩ = some (.int .i64 x)) (h1 : w.cell? ⟨a, 1, none⟩ = some (.int .i64 y)) : Kd.C (Kd.int .i64) w (some ⟨a, 0, none⟩) 2 [x, y] := by
  refine kdC_cells a [x, y] w (fun j u hj => ?_) (by simp)
  match j, hj with
  | 0, hj =>
    obtain rfl : x = u := by simpa using hj
    exact h
  | 1, hj =>
    obtain rfl : y = u := by simpa using hj
    exact h1
theorem blen_calls (x : Int) (w : World) (h0 : 0 ≤ x) (h1 : x ≤ 100) : Calls Tryz.prog 57 #[.int .u64 x] w fun e w' => ∃ r : Nat, e = .returned (.int .i64 r) ∧ w = w' := by
  have HL := Lib.hid (show Calls Tryz.prog 49 #[.int .u64 x] w _ from Any.bits_Len64 { Tryz.lays134 with } x w h0 (by omega))
  go_enter Tryz.func57, Tryz.ntmps57
  go_wp2_with (first | (go_at_call 49; refine HL.out.mono ?_; rintro e w2 ⟨rfl, rfl⟩))
  go_ret
  exact ⟨_, rfl, rfl⟩
/-- an award in memory -/
def Am.aw (q c : Nat) (V i : Int) : Value := .agg #[.int .i64 0, .slice (some ⟨q, 0, none⟩) 1 c, .int .i64 V, .int .i64 i]
set_option maxHeartbeats 4000000 in
set_option maxRecDepth 100000 in
/-- awards of one predicate to one member are alike -/
theorem by_calls (q q2 c c2 : Nat) (V i V2 i2 : Int) (w : World) (h : w.cell? ⟨q, 0, none⟩ = some (.int .i64 0)) (h2 : w.cell? ⟨q2, 0, none⟩ = some (.int .i64 0)) (hc : 1 ≤ c) (hc2 : 1 ≤ c2) :
    Calls Tryz.prog 42 #[Am.aw q c V i, Am.aw q2 c2 V2 i2] w fun e w' => e = .returned (.int .i64 0) ∧ Below w.heap.size w w' := by
  have HC := Lib.hid (fun (w1 : World) => cmp_Compare_int.calls 0 0 0 w1 (by rfl))
  have HS := Lib.hid (fun (w1 : World) (b : Below w.heap.size w w1) => slices_Compare_int_int.calls 12 (some ⟨q, 0, none⟩) c [0] (some ⟨q2, 0, none⟩) c2 [0] 0 w1 (kdC_one q 0 w1 (keep_cell h b)) hc (kdC_one q2 0 w1 (keep_cell h2 b)) hc2 (by simp [slices_Compare_int_int.f, slices_Compare_int_int.l0, cmp_Compare_int.f, cmp_isNaN_int.f, rd, wrap64]))
  unfold Am.aw
  clear h h2 hc hc2
  go_enter Tryz.func42, Tryz.ntmps42
  go_upto_region 1 with (fail)
  obtain ⟨W1, hW1⟩ : ∃ W1, w.alloc (Obj.cells #[.int .i64 0, .slice (some ⟨q, 0, none⟩) 1 c, .int .i64 V, .int .i64 i] 108) = W1 := ⟨_, rfl⟩
  obtain ⟨W, hW⟩ : ∃ W, W1.alloc (Obj.cells #[.int .i64 0, .slice (some ⟨q2, 0, none⟩) 1 c2, .int .i64 V2, .int .i64 i2] 108) = W := ⟨_, rfl⟩
  have s1 : W1.heap.size = w.heap.size + 1 := by rw [← hW1]; exact size_new _ _
  have b1 : Below w.heap.size w W1 := by rw [← hW1]; exact (Below.refl _ w).alloc (Nat.le_refl _) _
  have b2 : Below W1.heap.size W1 W := by rw [← hW]; exact (Below.refl _ W1).alloc (Nat.le_refl _) _
  have HB := Lib.hid (below_next b1 b2)
  have e0 : W.cell? ⟨w.heap.size, 0, none⟩ = some (.int .i64 0) := keep_cell (by rw [← hW1]; exact blk_cell (heap_alloc_new w _) 0 rfl) b2
  have e1 : W.cell? ⟨w.heap.size, 1, none⟩ = some (.slice (some ⟨q, 0, none⟩) 1 c) := keep_cell (by rw [← hW1]; exact blk_cell (heap_alloc_new w _) 1 rfl) b2
  have f0 : W.cell? ⟨w.heap.size + 1, 0, none⟩ = some (.int .i64 0) := by rw [← hW, ← s1]; exact blk_cell (heap_alloc_new W1 _) 0 rfl
  have f1 : W.cell? ⟨w.heap.size + 1, 1, none⟩ = some (.slice (some ⟨q2, 0, none⟩) 1 c2) := by rw [← hW, ← s1]; exact blk_cell (heap_alloc_new W1 _) 1 rfl
  rw [hW1, hW]
  clear hW1 hW b1 b2 s1
  go_region_held (fun w' => w'.cell? ⟨w.heap.size, 0, none⟩ = some (.int .i64 0) ∧ w'.cell? ⟨w.heap.size, 1, none⟩ = some (.slice (some ⟨q, 0, none⟩) 1 c) ∧ w'.cell? ⟨w.heap.size + 1, 0, none⟩ = some (.int .i64 0) ∧ w'.cell? ⟨w.heap.size + 1, 1, none⟩ = some (.slice (some ⟨q2, 0, none⟩) 1 c2))
    (first | go_keep | (go_split_ands; refine ⟨?_, ?_, ?_, ?_⟩ <;> exact keep_cell (by assumption) hb))
    (first
      | (go_at_call 44; refine (HC.out _).mono ?_; rintro e w1 ⟨rfl, hd⟩; have hb := hd.below; have B1 := Lib.hid (show Below w.heap.size w w1 by first | exact below_next HB.out hb | exact below_next HB.out.drew hb); clear hd)
      | (go_at_call 45; clear hb; refine (HS.out _ (by first | exact B1.out | exact B1.out.drew)).mono ?_; rintro e w2 ⟨rfl, hd⟩; have hb := hd.below; have B2 := Lib.hid (show Below w.heap.size w w2 by exact below_next B1.out hb); clear hd)
      | (go_at_call 43; clear hb; refine (cmp_Or_int.calls 12 _ _ [0, 0] 0 _ (kdC_two _ 0 0 _ (blk_cell (heap_alloc_new _ _) 0 rfl) (blk_cell (heap_alloc_new _ _) 1 rfl)) (Nat.le_refl _) (by simp [cmp_Or_int.f, cmp_Or_int.l0, rd, wrap64])).mono ?_; rintro e w3 ⟨rfl, hd⟩; have hb := hd.below; have B3 := Lib.hid (show Below w.heap.size w w3 by exact below_next (below_next B2.out ((Below.refl _ w2).alloc (Nat.le_refl _) _)) hb); clear hd))
  go_wp2_with fail
  go_ret
  exact ⟨by first | rfl | simp, B3.out⟩
/-- cells of two literals at block g -/
def Am.LitRow (w : World) (g B : Nat) : Prop := ∀ j u, (Am.litCells B).toList[j]? = some u → w.cell? ⟨g, j, none⟩ = some u
theorem Am.LitRow.below {w w1 : World} {g B : Nat} (h : Am.LitRow w g B) (b : Below w.heap.size w w1) : Am.LitRow w1 g B := fun j u hj => keep_cell (h j u hj) b
theorem cmp21 (B : Nat) (w : World) (h10 : w.cell? ⟨B + 10, 0, none⟩ = some (.int .i64 0)) (h11 : w.cell? ⟨B + 11, 0, none⟩ = some (.int .i64 0)) :
    Calls Tryz.prog 40 #[.agg #[.bool false, .int .i64 0, .slice (some ⟨B + 11, 0, none⟩) 1 1, .int .i64 2000, .int .i64 0], .agg #[.bool false, .int .i64 0, .slice (some ⟨B + 10, 0, none⟩) 1 1, .int .i64 1000, .int .i64 0]] w fun e w' => e = .returned (.int .i64 1) ∧ Below w.heap.size w w' :=
  literals_Compare.calls 12 false 0 (some ⟨B + 11, 0, none⟩) 1 [0] 2000 0 false 0 (some ⟨B + 10, 0, none⟩) 1 [0] 1000 0 1 w (kdC_one _ 0 w h11) (Nat.le_refl _) (kdC_one _ 0 w h10) (Nat.le_refl _) (by simp [literals_Compare.f, literals_sign.f, cmp_Or_int.f, cmp_Or_int.l0, slices_Compare_int_int.f, slices_Compare_int_int.l0, cmp_Compare_int.f, cmp_isNaN_int.f, api_Money_59.f, api_Money_110.f, rd, wrap64])
theorem cmp12 (B : Nat) (w : World) (h10 : w.cell? ⟨B + 10, 0, none⟩ = some (.int .i64 0)) (h11 : w.cell? ⟨B + 11, 0, none⟩ = some (.int .i64 0)) :
    Calls Tryz.prog 40 #[.agg #[.bool false, .int .i64 0, .slice (some ⟨B + 10, 0, none⟩) 1 1, .int .i64 1000, .int .i64 0], .agg #[.bool false, .int .i64 0, .slice (some ⟨B + 11, 0, none⟩) 1 1, .int .i64 2000, .int .i64 0]] w fun e w' => e = .returned (.int .i64 (-1)) ∧ Below w.heap.size w w' :=
  literals_Compare.calls 12 false 0 (some ⟨B + 10, 0, none⟩) 1 [0] 1000 0 false 0 (some ⟨B + 11, 0, none⟩) 1 [0] 2000 0 (-1) w (kdC_one _ 0 w h10) (Nat.le_refl _) (kdC_one _ 0 w h11) (Nat.le_refl _) (by simp [literals_Compare.f, literals_sign.f, cmp_Or_int.f, cmp_Or_int.l0, slices_Compare_int_int.f, slices_Compare_int_int.l0, cmp_Compare_int.f, cmp_isNaN_int.f, api_Money_59.f, api_Money_110.f, rd, wrap64])
set_option maxHeartbeats 4000000 in
set_option maxRecDepth 100000 in
theorem ins_lit2 (g cap B : Nat) (w : World) (hr : Am.LitRow w g B) (h10 : w.cell? ⟨B + 10, 0, none⟩ = some (.int .i64 0)) (h11 : w.cell? ⟨B + 11, 0, none⟩ = some (.int .i64 0)) :
    Calls Tryz.prog 101 #[.slice (some ⟨g, 0, none⟩) 2 cap, .int .i64 0, .int .i64 2, .func (.func 40) #[] #[]] w fun e w' => e = .returned (.tuple #[]) ∧ Below w.heap.size w w' := by
  have HR := Lib.hid hr
  have HC := Lib.hid (fun w1 (b : Below w.heap.size w w1) => cmp21 B w1 (keep_cell h10 b) (keep_cell h11 b))
  clear hr h10 h11
  go_enter Tryz.func101, Tryz.ntmps101
  go_wp2_with fail
  go_loopw [8] (fun v wr => ∃ k : Nat, 1 ≤ k ∧ k ≤ 2 ∧ v = .int .i64 k ∧ (k = 1 → wr = w) ∧ Below w.heap.size w wr) (fun v _ => 2 - (intOf v).toNat)
  case atStart => exact ⟨1, Nat.le_refl _, by decide, rfl, fun _ => rfl, Below.refl _ _⟩
  case round =>
    obtain ⟨k, hk1, hk, rfl, hw, hb⟩ := hrel
    have HB := Lib.hid hb
    clear hb
    by_cases hlt : k < 2
    · obtain rfl : k = 1 := by omega
      obtain rfl := hw rfl
      clear hw HB
      obtain ⟨W, hW⟩ : ∃ W, W = wr := ⟨_, rfl⟩
      subst hW
      go_wp2_with fail
      have r0 := HR.out 0 _ rfl
      have r1 := HR.out 1 _ rfl
      have r2 := HR.out 2 _ rfl
      have r3 := HR.out 3 _ rfl
      have r4 := HR.out 4 _ rfl
      have r5 := HR.out 5 _ rfl
      have r6 := HR.out 6 _ rfl
      have r7 := HR.out 7 _ rfl
      have r8 := HR.out 8 _ rfl
      have r9 := HR.out 9 _ rfl
      go_loopw [9] (fun v wr => v = .int .i64 1 ∧ wr = W) (fun _ _ => 0)
      case atStart => exact ⟨rfl, rfl⟩
      case round =>
        obtain ⟨rfl, rfl⟩ := hrel
        go_upto_region 4 with (fail)
        go_region_held (fun w' => w'.cell? ⟨g, 0, none⟩ = some (.bool false) ∧ w'.cell? ⟨g, 1, none⟩ = some (.int .i64 0) ∧ w'.cell? ⟨g, 2, none⟩ = some (.slice (some ⟨B + 10, 0, none⟩) 1 1) ∧ w'.cell? ⟨g, 3, none⟩ = some (.int .i64 1000) ∧ w'.cell? ⟨g, 4, none⟩ = some (.int .i64 0) ∧ w'.cell? ⟨g, 5, none⟩ = some (.bool false) ∧ w'.cell? ⟨g, 6, none⟩ = some (.int .i64 0) ∧ w'.cell? ⟨g, 7, none⟩ = some (.slice (some ⟨B + 11, 0, none⟩) 1 1) ∧ w'.cell? ⟨g, 8, none⟩ = some (.int .i64 2000) ∧ w'.cell? ⟨g, 9, none⟩ = some (.int .i64 0)) (first | go_keep | (go_split_ands; refine ⟨?_, ?_, ?_, ?_, ?_, ?_, ?_, ?_, ?_, ?_⟩ <;> exact keep_cell (by assumption) hb))
          (first | (go_at_call 40; refine (HC.out _ (by first | exact Below.refl _ _ | exact (Below.refl _ _).drew)).mono ?_; rintro e w1 ⟨rfl, hb⟩; have B1 := Lib.hid (show Below wr.heap.size wr w1 by first | exact hb | exact below_next (Below.refl _ _).drew hb)))
        go_wp2_with fail
        go_roundw
        case rel => exact ⟨2, by decide, Nat.le_refl _, by first | rfl | go_num, fun h => absurd h (by decide), B1.out⟩
        case measure => simp [intOf]

    · obtain rfl : k = 2 := by omega
      clear hw
      go_wp2_with fail
      go_end0
      exact ⟨rfl, HB.out⟩
set_option maxHeartbeats 4000000 in
set_option maxRecDepth 100000 in
theorem pdq_lit2 (g cap B : Nat) (r : Int) (w : World) (hr : Am.LitRow w g B) (h10 : w.cell? ⟨B + 10, 0, none⟩ = some (.int .i64 0)) (h11 : w.cell? ⟨B + 11, 0, none⟩ = some (.int .i64 0)) :
    Calls Tryz.prog 56 #[.slice (some ⟨g, 0, none⟩) 2 cap, .int .i64 0, .int .i64 2, .int .i64 r, .func (.func 40) #[] #[]] w fun e w' => e = .returned (.tuple #[]) ∧ Below w.heap.size w w' := by
  have HI := Lib.hid (ins_lit2 g cap B  w hr h10 h11)
  clear hr h10 h11
  go_enter Tryz.func56, Tryz.ntmps56
  go_wp2_with fail
  go_loopw [1, 2] (fun v1 v2 wr => v1 = .int .i64 0 ∧ v2 = .int .i64 2 ∧ wr = w) (fun _ _ _ => 0)
  case atStart => exact ⟨rfl, rfl, rfl⟩
  case round =>
    obtain ⟨rfl, rfl, rfl⟩ := hrel
    go_wp2_with (first | (go_at_call 101; refine HI.out.mono ?_; rintro e w1 ⟨rfl, hb⟩))
    (try simp only [Exit.inBlock, Exit.then])
    refine bodyPost_ret (results_none rfl _ _ _) rfl ?_
    exact ⟨rfl, hb⟩
set_option maxHeartbeats 4000000 in
set_option maxRecDepth 100000 in
theorem sort_lit2 (g cap B : Nat) (w : World) (hr : Am.LitRow w g B) (h10 : w.cell? ⟨B + 10, 0, none⟩ = some (.int .i64 0)) (h11 : w.cell? ⟨B + 11, 0, none⟩ = some (.int .i64 0)) :
    Calls Tryz.prog 39 #[.slice (some ⟨g, 0, none⟩) 2 cap, .func (.func 40) #[] #[]] w fun e w' => e = .returned (.tuple #[]) ∧ Below w.heap.size w w' := by
  have HI := Lib.hid (fun r => pdq_lit2 g cap B  r w hr h10 h11)
  clear hr h10 h11
  go_enter Tryz.func39, Tryz.ntmps39
  go_wp2_with (first
    | (go_at_call 57; refine (blen_calls _ _ (by decide) (by decide)).mono ?_; rintro e w1 ⟨r, rfl, rfl⟩)
    | (go_at_call 56; refine (HI.out _).mono ?_; rintro e w1 ⟨rfl, hb⟩))
  go_end0
  exact ⟨rfl, hb⟩
set_option maxHeartbeats 4000000 in
set_option maxRecDepth 100000 in
theorem ins_aw1 (g cap : Nat) (w : World)  :
    Calls Tryz.prog 111 #[.slice (some ⟨g, 0, none⟩) 1 cap, .int .i64 0, .int .i64 1, .func (.func 42) #[] #[]] w fun e w' => e = .returned (.tuple #[]) ∧ Below w.heap.size w w' := by
  skip
  skip
  go_enter Tryz.func111, Tryz.ntmps111
  go_wp2_with fail
  go_loopw [8] (fun v wr => ∃ k : Nat, 1 ≤ k ∧ k ≤ 1 ∧ v = .int .i64 k ∧ (k = 1 → wr = w) ∧ Below w.heap.size w wr) (fun v _ => 1 - (intOf v).toNat)
  case atStart => exact ⟨1, Nat.le_refl _, by decide, rfl, fun _ => rfl, Below.refl _ _⟩
  case round =>
    obtain ⟨k, hk1, hk, rfl, hw, hb⟩ := hrel
    have HB := Lib.hid hb
    clear hb
    by_cases hlt : k < 1
    · obtain rfl : k = 1 := by omega
      obtain rfl := hw rfl
      exact absurd hlt (by omega)
    · obtain rfl : k = 1 := by omega
      clear hw
      go_wp2_with fail
      go_end0
      exact ⟨rfl, HB.out⟩
set_option maxHeartbeats 4000000 in
set_option maxRecDepth 100000 in
theorem pdq_aw1 (g cap : Nat) (r : Int) (w : World)  :
    Calls Tryz.prog 61 #[.slice (some ⟨g, 0, none⟩) 1 cap, .int .i64 0, .int .i64 1, .int .i64 r, .func (.func 42) #[] #[]] w fun e w' => e = .returned (.tuple #[]) ∧ Below w.heap.size w w' := by
  have HI := Lib.hid (ins_aw1 g cap  w )
  skip
  go_enter Tryz.func61, Tryz.ntmps61
  go_wp2_with fail
  go_loopw [1, 2] (fun v1 v2 wr => v1 = .int .i64 0 ∧ v2 = .int .i64 1 ∧ wr = w) (fun _ _ _ => 0)
  case atStart => exact ⟨rfl, rfl, rfl⟩
  case round =>
    obtain ⟨rfl, rfl, rfl⟩ := hrel
    go_wp2_with (first | (go_at_call 111; refine HI.out.mono ?_; rintro e w1 ⟨rfl, hb⟩))
    (try simp only [Exit.inBlock, Exit.then])
    refine bodyPost_ret (results_none rfl _ _ _) rfl ?_
    exact ⟨rfl, hb⟩
set_option maxHeartbeats 4000000 in
set_option maxRecDepth 100000 in
theorem sort_aw1 (g cap : Nat) (w : World)  :
    Calls Tryz.prog 46 #[.slice (some ⟨g, 0, none⟩) 1 cap, .func (.func 42) #[] #[]] w fun e w' => e = .returned (.tuple #[]) ∧ Below w.heap.size w w' := by
  have HI := Lib.hid (fun r => pdq_aw1 g cap  r w )
  skip
  go_enter Tryz.func46, Tryz.ntmps46
  go_wp2_with (first
    | (go_at_call 57; refine (blen_calls _ _ (by decide) (by decide)).mono ?_; rintro e w1 ⟨r, rfl, rfl⟩)
    | (go_at_call 61; refine (HI.out _).mono ?_; rintro e w1 ⟨rfl, hb⟩))
  go_end0
  exact ⟨rfl, hb⟩
def Am.awCells2 (q c : Nat) (V i : Int) (q2 c2 : Nat) (V2 i2 : Int) : List Value := [.int .i64 0, .slice (some ⟨q, 0, none⟩) 1 c, .int .i64 V, .int .i64 i, .int .i64 0, .slice (some ⟨q2, 0, none⟩) 1 c2, .int .i64 V2, .int .i64 i2]
def Am.AwRow2 (w : World) (g q c : Nat) (V i : Int) (q2 c2 : Nat) (V2 i2 : Int) : Prop := ∀ j u, (Am.awCells2 q c V i q2 c2 V2 i2)[j]? = some u → w.cell? ⟨g, j, none⟩ = some u
theorem Am.AwRow2.below {w w1 : World} {g q c q2 c2 : Nat} {V i V2 i2 : Int} (h : Am.AwRow2 w g q c V i q2 c2 V2 i2) (b : Below w.heap.size w w1) : Am.AwRow2 w1 g q c V i q2 c2 V2 i2 := fun j u hj => keep_cell (h j u hj) b
set_option maxHeartbeats 4000000 in
set_option maxRecDepth 100000 in
theorem ins_aw2 (g cap q c q2 c2 : Nat) (V i V2 i2 : Int) (w : World) (hr : Am.AwRow2 w g q c V i q2 c2 V2 i2) (h1 : w.cell? ⟨q, 0, none⟩ = some (.int .i64 0)) (h2 : w.cell? ⟨q2, 0, none⟩ = some (.int .i64 0)) (hc : 1 ≤ c) (hc2 : 1 ≤ c2) :
    Calls Tryz.prog 111 #[.slice (some ⟨g, 0, none⟩) 2 cap, .int .i64 0, .int .i64 2, .func (.func 42) #[] #[]] w fun e w' => e = .returned (.tuple #[]) ∧ Below w.heap.size w w' := by
  have HR := Lib.hid hr
  have HC0 := Lib.hid (fun w1 (b : Below w.heap.size w w1) => by_calls q2 q c2 c V2 i2 V i w1 (keep_cell h2 b) (keep_cell h1 b) hc2 hc)
  have HC := HC0
  unfold Am.aw at HC
  clear HC0
  clear hr h1 h2 hc hc2
  go_enter Tryz.func111, Tryz.ntmps111
  go_wp2_with fail
  go_loopw [8] (fun v wr => ∃ k : Nat, 1 ≤ k ∧ k ≤ 2 ∧ v = .int .i64 k ∧ (k = 1 → wr = w) ∧ Below w.heap.size w wr) (fun v _ => 2 - (intOf v).toNat)
  case atStart => exact ⟨1, Nat.le_refl _, by decide, rfl, fun _ => rfl, Below.refl _ _⟩
  case round =>
    obtain ⟨k, hk1, hk, rfl, hw, hb⟩ := hrel
    have HB := Lib.hid hb
    clear hb
    by_cases hlt : k < 2
    · obtain rfl : k = 1 := by omega
      obtain rfl := hw rfl
      clear hw HB
      obtain ⟨W, hW⟩ : ∃ W, W = wr := ⟨_, rfl⟩
      subst hW
      go_wp2_with fail
      have r0 := HR.out 0 _ rfl
      have r1 := HR.out 1 _ rfl
      have r2 := HR.out 2 _ rfl
      have r3 := HR.out 3 _ rfl
      have r4 := HR.out 4 _ rfl
      have r5 := HR.out 5 _ rfl
      have r6 := HR.out 6 _ rfl
      have r7 := HR.out 7 _ rfl
      go_loopw [9] (fun v wr => v = .int .i64 1 ∧ wr = W) (fun _ _ => 0)
      case atStart => exact ⟨rfl, rfl⟩
      case round =>
        obtain ⟨rfl, rfl⟩ := hrel
        go_upto_region 4 with (fail)
        go_region_held (fun w' => w'.cell? ⟨g, 0, none⟩ = some (.int .i64 0) ∧ w'.cell? ⟨g, 1, none⟩ = some (.slice (some ⟨q, 0, none⟩) 1 c) ∧ w'.cell? ⟨g, 2, none⟩ = some (.int .i64 V) ∧ w'.cell? ⟨g, 3, none⟩ = some (.int .i64 i) ∧ w'.cell? ⟨g, 4, none⟩ = some (.int .i64 0) ∧ w'.cell? ⟨g, 5, none⟩ = some (.slice (some ⟨q2, 0, none⟩) 1 c2) ∧ w'.cell? ⟨g, 6, none⟩ = some (.int .i64 V2) ∧ w'.cell? ⟨g, 7, none⟩ = some (.int .i64 i2)) (first | go_keep | (go_split_ands; refine ⟨?_, ?_, ?_, ?_, ?_, ?_, ?_, ?_⟩ <;> exact keep_cell (by assumption) hb))
          (first | (go_at_call 42; refine (HC.out _ (by first | exact Below.refl _ _ | exact (Below.refl _ _).drew)).mono ?_; rintro e w1 ⟨rfl, hb⟩; have B1 := Lib.hid (show Below wr.heap.size wr w1 by first | exact hb | exact below_next (Below.refl _ _).drew hb)))
        go_wp2_with fail
        go_roundw
        case rel => exact ⟨2, by decide, Nat.le_refl _, by first | rfl | go_num, fun h => absurd h (by decide), B1.out⟩
        case measure => simp [intOf]

    · obtain rfl : k = 2 := by omega
      clear hw
      go_wp2_with fail
      go_end0
      exact ⟨rfl, HB.out⟩
set_option maxHeartbeats 4000000 in
set_option maxRecDepth 100000 in
theorem pdq_aw2 (g cap q c q2 c2 : Nat) (V i V2 i2 : Int) (r : Int) (w : World) (hr : Am.AwRow2 w g q c V i q2 c2 V2 i2) (h1 : w.cell? ⟨q, 0, none⟩ = some (.int .i64 0)) (h2 : w.cell? ⟨q2, 0, none⟩ = some (.int .i64 0)) (hc : 1 ≤ c) (hc2 : 1 ≤ c2) :
    Calls Tryz.prog 61 #[.slice (some ⟨g, 0, none⟩) 2 cap, .int .i64 0, .int .i64 2, .int .i64 r, .func (.func 42) #[] #[]] w fun e w' => e = .returned (.tuple #[]) ∧ Below w.heap.size w w' := by
  have HI := Lib.hid (ins_aw2 g cap q c q2 c2  V i V2 i2  w hr h1 h2 hc hc2)
  clear hr h1 h2 hc hc2
  go_enter Tryz.func61, Tryz.ntmps61
  go_wp2_with fail
  go_loopw [1, 2] (fun v1 v2 wr => v1 = .int .i64 0 ∧ v2 = .int .i64 2 ∧ wr = w) (fun _ _ _ => 0)
  case atStart => exact ⟨rfl, rfl, rfl⟩
  case round =>
    obtain ⟨rfl, rfl, rfl⟩ := hrel
    go_wp2_with (first | (go_at_call 111; refine HI.out.mono ?_; rintro e w1 ⟨rfl, hb⟩))
    (try simp only [Exit.inBlock, Exit.then])
    refine bodyPost_ret (results_none rfl _ _ _) rfl ?_
    exact ⟨rfl, hb⟩
set_option maxHeartbeats 4000000 in
set_option maxRecDepth 100000 in
theorem sort_aw2 (g cap q c q2 c2 : Nat) (V i V2 i2 : Int) (w : World) (hr : Am.AwRow2 w g q c V i q2 c2 V2 i2) (h1 : w.cell? ⟨q, 0, none⟩ = some (.int .i64 0)) (h2 : w.cell? ⟨q2, 0, none⟩ = some (.int .i64 0)) (hc : 1 ≤ c) (hc2 : 1 ≤ c2) :
    Calls Tryz.prog 46 #[.slice (some ⟨g, 0, none⟩) 2 cap, .func (.func 42) #[] #[]] w fun e w' => e = .returned (.tuple #[]) ∧ Below w.heap.size w w' := by
  have HI := Lib.hid (fun r => pdq_aw2 g cap q c q2 c2  V i V2 i2  r w hr h1 h2 hc hc2)
  clear hr h1 h2 hc hc2
  go_enter Tryz.func46, Tryz.ntmps46
  go_wp2_with (first
    | (go_at_call 57; refine (blen_calls _ _ (by decide) (by decide)).mono ?_; rintro e w1 ⟨r, rfl, rfl⟩)
    | (go_at_call 61; refine (HI.out _).mono ?_; rintro e w1 ⟨rfl, hb⟩))
  go_end0
  exact ⟨rfl, hb⟩
end Go.Proofs.YtpcmhlbhepickaaGreat
