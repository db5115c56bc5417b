import Derived.Test.YtpcmhlbhepickaaGreatAmtS
import Derived.Test.YtpcmhlbhepickaaGreatWGuard
/- resolve: a predicate, as 'items' checks it -/
namespace Go.Proofs.YtpcmhlbhepickaaGreat
open Go.Shelf Go.RowKit Go.Lib
open Go.Proofs.YtpcmhlbhepickaaGreatW.PrintWords (gate_guard)
set_option linter.unusedVariables false
set_option linter.unusedSimpArgs false
theorem lawM : Maps.Keyed Tryz.prog 23 := Maps.int_keyed Tryz.underlying23
theorem keyM (v : Int) (hv : (Lit.int .i64 v).wf = true) : keyOf Tryz.prog 23 (.int .i64 v) = some (.int .i64 v) := by
  rw [keyOf_int Tryz.underlying23]
  simp [mapKey, Tryz.underlying23, hv]
/-- of values seen, none yet is the next one -/
structure Am.Seen (D : DataW Unit) (k : Nat) : Prop where
  isMap : Maps.IsMap D
  next : k < 2 → D.atKey (.int .i64 (if k = 0 then 1000 else 2000)) (.lit (.int .i64 0)) = .lit (.int .i64 0)
theorem seen_nil : Am.Seen (.map []) 0 := ⟨Maps.isMap_empty, fun _ => rfl⟩
theorem seen_put (D : DataW Unit) (k : Nat) (hk : k < 2) (h : Am.Seen D k) (d : DataW Unit) (hD : k = 0 → D = .map []) : Am.Seen (D.put (.int .i64 (if k = 0 then 1000 else 2000)) d) (k + 1) := by
  refine ⟨h.isMap.put _ _, fun h2 => ?_⟩
  obtain rfl : k = 0 := by omega
  rw [hD rfl, if_pos rfl, if_neg (by decide)]
  rw [Maps.atKey_put_other (by intro e; injection e with _ e; exact absurd e (by decide))]
  rfl
set_option maxHeartbeats 4000000 in
set_option maxRecDepth 100000 in
theorem pred_ok (B r : Nat) (i : Int) (bk bm bp bs bu bt : Nat) (Dk Dm Dp Dt : DataW Unit) (w : World) (h : Am.Rs w B r i bk bm bp bs bu bt Dk Dm Dp Dt) :
    Calls Tryz.prog 85 #[.pointer (some ⟨r, 0, none⟩), .agg #[.string Am.sHelp, .int .i64 3, .slice (some ⟨B + 4, 0, none⟩) 1 1, .slice (some ⟨B + 5, 0, none⟩) 2 2], .int .i64 0] w fun e w' => e = .returned (.tuple #[]) ∧ Below w.heap.size w w' := by
  have hA := (Below.refl w.heap.size w).alloc (Nat.le_refl _) (.cells #[.string Am.sHelp, .int .i64 3, .slice (some ⟨B + 4, 0, none⟩) 1 1, .slice (some ⟨B + 5, 0, none⟩) 2 2] 93)
  have c12 : (w.alloc (.cells #[.string Am.sHelp, .int .i64 3, .slice (some ⟨B + 4, 0, none⟩) 1 1, .slice (some ⟨B + 5, 0, none⟩) 2 2] 93)).cell? ⟨r, 12, none⟩ = some (.map (some bp)) := blk_cell (h.below hA).blk 12 rfl
  have HF := Lib.hid (fun w1 (b : Below w.heap.size w w1) => fresh_ok (.pointer (some ⟨r, 0, none⟩)) bp 1 Dp Am.sHelp w1 (by decide) name_help (map_below h.ap b) h.op)
  have HK := Lib.hid (fun w1 (b : Below w.heap.size w w1) => kind_ok B r i bk bm bp bs bu bt Dk Dm Dp Dt w1 (h.below b))
  have HO := Lib.hid (fun w1 (b : Below w.heap.size w w1) => h.one.below b)
  have HA := Lib.hid hA
  clear h hA
  go_enter Tryz.func85, Tryz.ntmps85
  go_wp2_with fail
  go_region_held (fun w' => w'.cell? ⟨r, 12, none⟩ = some (.map (some bp)) ∧ w'.cell? ⟨w.heap.size, 0, none⟩ = some (.string Am.sHelp) ∧ w'.cell? ⟨w.heap.size, 1, none⟩ = some (.int .i64 3) ∧ w'.cell? ⟨w.heap.size, 2, none⟩ = some (.slice (some ⟨B + 4, 0, none⟩) 1 1) ∧ w'.cell? ⟨w.heap.size, 3, none⟩ = some (.slice (some ⟨B + 5, 0, none⟩) 2 2))
    (first | go_keep | (go_split_ands; refine ⟨?_, ?_, ?_, ?_, ?_⟩ <;> exact keep_cell (by assumption) hb))
    (first | (go_at_call 80; refine (HF.out _ (by first | exact HA.out | exact HA.out.drew)).mono ?_; rintro e w1 ⟨rfl, hb⟩; have B1 := Lib.hid (show Below w.heap.size w w1 by first | exact below_next HA.out hb | exact below_next HA.out.drew hb)))
  all_goals go_wp2_with (first | (go_at_call 77; with_reducible refine (want_ok _ _ _).mono ?_; rintro e w2 ⟨rfl, rfl⟩))
  have o1 := (HO.out _ B1.out).q0
  go_loop [45] (fun v => ∃ k : Nat, k ≤ 1 ∧ v = .int .i64 k) (fun v => 1 - (intOf v).toNat)
  case atStart => exact ⟨0, Nat.zero_le _, rfl⟩
  case round =>
    obtain ⟨k, hk, rfl⟩ := hrel
    by_cases hlt : k < 1
    · obtain rfl : k = 0 := by omega
      go_wp2_with (first | (go_at_call 83; refine (HK.out _ B1.out).mono ?_; rintro e w2 ⟨rfl, rfl⟩))
      go_round
      case rel => exact ⟨1, Nat.le_refl _, by first | rfl | go_num⟩
      case measure => simp [intOf]
    · obtain rfl : k = 1 := by omega
      have hmm := @run_makeMap Tryz.prog
      have x3 : w1.cell? ⟨w.heap.size, 3, none⟩ = some (.slice (some ⟨B + 5, 0, none⟩) 2 2) := by go_split_ands; assumption
      have hA2 := (Below.refl w1.heap.size w1).alloc (Nat.le_refl _) (.map #[] 0)
      have y3 := keep_cell x3 hA2
      go_wp2_with (first | (go_at_call 77; with_reducible refine (want_ok _ _ _).mono ?_; rintro e w2 ⟨rfl, rfl⟩))
      obtain ⟨W2, hW2⟩ : ∃ W2, w1.alloc (.map #[] 0) = W2 := ⟨_, rfl⟩
      have HM := Lib.hid (show W2.ownsMap (H := Unit) Tryz.prog 23 (plainElem Tryz.prog 3) w1.heap.size 0 (.map []) by rw [← hW2]; exact World.ownsMap_made w1 _ _ _)
      have B2 := Lib.hid (show Below w.heap.size w W2 by rw [← hW2]; exact below_next B1.out hA2)
      rw [hW2]
      clear hW2 hA2 y3
      go_loopw [72] (fun v wr => ∃ (k : Nat) (D : DataW Unit), k ≤ 2 ∧ v = .int .i64 k ∧ wr.ownsMap (H := Unit) Tryz.prog 23 (plainElem Tryz.prog 3) w1.heap.size k D ∧ Am.Seen D k ∧ (k = 0 → D = .map []) ∧ Below w.heap.size w wr) (fun v _ => 2 - (intOf v).toNat)
      case atStart => exact ⟨0, _, Nat.zero_le _, rfl, HM.out, seen_nil, fun _ => rfl, B2.out⟩
      case round =>
        obtain ⟨k, D, hk, rfl, hown, hsn, hD, hb⟩ := hrel
        have HB := Lib.hid hb
        by_cases hlt : k < 2
        · obtain ⟨V, hV⟩ : ∃ V : Int, (if k = 0 then (1000 : Int) else 2000) = V := ⟨_, rfl⟩
          have hc : wr.cell? ⟨B + 5, k, none⟩ = some (.int .i64 V) := by
            rcases (show k = 0 ∨ k = 1 by omega) with rfl | rfl
            · rw [← hV]; exact (HO.out _ hb).v0
            · rw [← hV]; exact (HO.out _ hb).v1
          have hVb : 0 ≤ V ∧ V ≤ 2000 := by rw [← hV]; split <;> omega
          have hkey := keyM V (by rw [← hV]; split <;> decide)
          have q2 := hsn.next hlt
          rw [hV] at q2
          have Q2 := Lib.hid q2
          have HP := Lib.hid (fun d => seen_put D k hlt hsn d hD)
          simp only [hV] at HP
          have z1 : (k : Int) < 2 := by omega
          have z2 : (0 : Int) ≤ k := by omega
          have d1 : decide (0 ≤ V) = true := decide_eq_true hVb.1
          have k1 : (Mo.chk V == 0) = true := by unfold Mo.chk; rw [if_neg (by omega)]; rfl
          clear hsn hD q2 hV hb
          go_wp2_with (first
            | (go_at_call 16; refine (check_calls _ _).mono ?_; rintro e w2 ⟨rfl, rfl⟩)
            | (at_lookup; (first | refine wpList_lookup_own_int _ rfl _ _ 210 rfl 23 3 .i64 lawM Tryz.underlying210 Tryz.underlying3 (zero3 _) w1.heap.size k D rfl hown _ _ rfl hkey ?_ | (refine gate_guard (by rfl) ?_; refine wpList_lookup_own_int _ rfl _ _ 210 rfl 23 3 .i64 lawM Tryz.underlying210 Tryz.underlying3 (zero3 _) w1.heap.size k D rfl hown _ _ rfl hkey ?_)); intro c hat2 hwc; obtain rfl := i64_lit_inj (Q2.out.symm.trans hat2); clear hat2 hwc)
            | (at_mapUpdate; refine wpList_mapUpdate_in _ rfl _ _ _ 210 rfl 23 3 lawM Tryz.underlying210 _ w1.heap.size k D rfl hown (by unfold maxLen; omega) _ _ _ rfl rfl hkey (.lit (.int .i64 1)) [] (plainElem_int Tryz.underlying3 (by decide)) ?_; intro w4 hown2 hturn2)
            | (go_at_call 77; with_reducible refine (want_ok _ _ _).mono ?_; rintro e w2 ⟨rfl, rfl⟩))
          go_roundw
          case rel => exact ⟨k + 1, _, by omega, by go_num, hown2, HP.out _, fun h => absurd h (by omega), HB.out.grown hturn2.grown (by have := HB.out.size; omega) (fun q hq => by have h1 := Option.some.inj hq; have h2 := B1.out.size; omega)⟩
          case measure => simp [intOf]; omega
        · obtain rfl : k = 2 := by omega
          go_wp2_with fail
          go_end0
          exact ⟨rfl, HB.out⟩
end Go.Proofs.YtpcmhlbhepickaaGreat
/- resolve: a total, as 'items' checks it -/
namespace Go.Proofs.YtpcmhlbhepickaaGreat
open Go.Shelf Go.RowKit Go.Lib
open Go.Proofs.YtpcmhlbhepickaaGreatW.PrintWords (gate_guard)
set_option linter.unusedVariables false
set_option linter.unusedSimpArgs false
def Am.totalCells (B : Nat) : Array Value := #[.string Am.sT, .string Am.sPerson, .slice (some ⟨B + 7, 0, none⟩) 1 1, .bool true, .int .i64 1500]
def Am.predCells (B : Nat) : Array Value := #[.string Am.sHelp, .int .i64 3, .slice (some ⟨B + 4, 0, none⟩) 1 1, .slice (some ⟨B + 5, 0, none⟩) 2 2]
set_option maxHeartbeats 4000000 in
set_option maxRecDepth 100000 in
theorem total_ok (B r : Nat) (i : Int) (bk bm bp bs bu bt : Nat) (Dk Dm Dp Dt : DataW Unit) (w : World) (h : Am.Rs w B r i bk bm bp bs bu bt Dk Dm Dp Dt) :
    Calls Tryz.prog 96 #[.pointer (some ⟨r, 0, none⟩), .agg (Am.totalCells B), .int .i64 0] w fun e w' => e = .returned (.tuple #[]) ∧ Below w.heap.size w w' := by
  have hA := (Below.refl w.heap.size w).alloc (Nat.le_refl _) (.cells (Am.totalCells B) 95)
  have c15 : (w.alloc (.cells (Am.totalCells B) 95)).cell? ⟨r, 15, none⟩ = some (.map (some bt)) := blk_cell (h.below hA).blk 15 rfl
  have HF := Lib.hid (fun w1 (b : Below w.heap.size w w1) => fresh_ok (.pointer (some ⟨r, 0, none⟩)) bt 1 Dt Am.sT w1 (by decide) name_t (map_below h.ap4 b) h.ot)
  have HK := Lib.hid (fun w1 (b : Below w.heap.size w w1) => kind_ok B r i bk bm bp bs bu bt Dk Dm Dp Dt w1 (h.below b))
  have HR := Lib.hid (fun w1 (b : Below w.heap.size w w1) => h.below b)
  have HA := Lib.hid hA
  unfold Am.totalCells at c15 HA ⊢
  clear h hA
  go_enter Tryz.func96, Tryz.ntmps96
  go_wp2_with fail
  go_region_held (fun w' => w'.cell? ⟨r, 15, none⟩ = some (.map (some bt)) ∧ w'.cell? ⟨w.heap.size, 0, none⟩ = some (.string Am.sT) ∧ w'.cell? ⟨w.heap.size, 1, none⟩ = some (.string Am.sPerson) ∧ w'.cell? ⟨w.heap.size, 2, none⟩ = some (.slice (some ⟨B + 7, 0, none⟩) 1 1) ∧ w'.cell? ⟨w.heap.size, 3, none⟩ = some (.bool true) ∧ w'.cell? ⟨w.heap.size, 4, none⟩ = some (.int .i64 1500))
    (first | go_keep | (go_split_ands; refine ⟨?_, ?_, ?_, ?_, ?_, ?_⟩ <;> exact keep_cell (by assumption) hb))
    (first | (go_at_call 80; refine (HF.out _ (by first | exact HA.out | exact HA.out.drew)).mono ?_; rintro e w1 ⟨rfl, hb⟩; have B1 := Lib.hid (show Below w.heap.size w w1 by first | exact below_next HA.out hb | exact below_next HA.out.drew hb)))
  have hS : w1.cell? ⟨w.heap.size, 1, none⟩ = some (.string Am.sPerson) ∧ w1.cell? ⟨w.heap.size, 2, none⟩ = some (.slice (some ⟨B + 7, 0, none⟩) 1 1) ∧ w1.cell? ⟨w.heap.size, 3, none⟩ = some (.bool true) ∧ w1.cell? ⟨w.heap.size, 4, none⟩ = some (.int .i64 1500) := by go_split_ands; exact ⟨by assumption, by assumption, by assumption, by assumption⟩
  have HX := Lib.hid hS
  have hlt0 : w.heap.size < w1.heap.size := World.block_lt_of_cell? w1 _ hS.1
  have hmm := @run_makeMap Tryz.prog
  have hA2 := (Below.refl w1.heap.size w1).alloc (Nat.le_refl _) (.map #[] 0)
  have y2 := keep_cell hS.2.1 hA2
  clear hS
  go_wp2_with (first
    | (go_at_call 83; refine (HK.out _ B1.out).mono ?_; rintro e w2 ⟨rfl, rfl⟩)
    | (go_at_call 77; with_reducible refine (want_ok _ _ _).mono ?_; rintro e w2 ⟨rfl, rfl⟩))
  obtain ⟨W2, hW2⟩ : ∃ W2, w1.alloc (.map #[] 0) = W2 := ⟨_, rfl⟩
  have HM := Lib.hid (show W2.ownsMap (H := Unit) Tryz.prog 9 (plainElem Tryz.prog 3) w1.heap.size 0 (.map []) by rw [← hW2]; exact World.ownsMap_made w1 _ _ _)
  have B2 := Lib.hid (show Below w.heap.size w W2 by rw [← hW2]; exact below_next B1.out hA2)
  have HX2 := Lib.hid (show (W2.cell? ⟨w.heap.size, 1, none⟩ = some (.string Am.sPerson) ∧ W2.cell? ⟨w.heap.size, 2, none⟩ = some (.slice (some ⟨B + 7, 0, none⟩) 1 1) ∧ W2.cell? ⟨w.heap.size, 3, none⟩ = some (.bool true) ∧ W2.cell? ⟨w.heap.size, 4, none⟩ = some (.int .i64 1500)) by rw [← hW2]; exact ⟨keep_cell HX.out.1 hA2, keep_cell HX.out.2.1 hA2, keep_cell HX.out.2.2.1 hA2, keep_cell HX.out.2.2.2 hA2⟩)
  rw [hW2]
  clear hW2 hA2 y2 HX hmm
  go_loopw [41] (fun v wr => ∃ (k : Nat), k ≤ 1 ∧ v = .int .i64 k ∧ (k = 0 → wr = W2) ∧ Keep (fun x => x = w1.heap.size) W2 wr) (fun v _ => 1 - (intOf v).toNat)
  case atStart => exact ⟨0, Nat.zero_le _, rfl, fun _ => rfl, Keep.refl _ _⟩
  case round =>
    obtain ⟨k, hk, rfl, hw, hkp⟩ := hrel
    by_cases hlt : k < 1
    · obtain rfl : k = 0 := by omega
      obtain rfl := hw rfl
      have R := HR.out _ B2.out
      have n0 := R.one.h0
      have c12 : wr.cell? ⟨r, 12, none⟩ = some (.map (some bp)) := blk_cell R.blk 12 rfl
      have c3 : wr.cell? ⟨r, 3, none⟩ = some (.slice (some ⟨B + 6, 0, none⟩) 1 1) := blk_cell R.blk 3 rfl
      have p0 := R.one.p0
      have p1 := R.one.p1
      have p2 := R.one.p2
      have p3 := R.one.p3
      have hown := R.ap
      have hkey := WideMaps.keyOf_string_mk Tryz.underlying9 (s := Am.sHelp) (by decide)
      obtain ⟨q1, q2⟩ := R.op.yes Am.sHelp 0 (at_one _)
      have Q2 := Lib.hid (show Dp.atKey (Sy.key Am.sHelp) (.lit (.int .i64 0)) = .lit (.int .i64 0) from q2)
      have hA3 := (Below.refl wr.heap.size wr).alloc (Nat.le_refl _) (.cells (Am.predCells B) 93)
      unfold Am.predCells at hA3
      have z1 := keep_cell HX2.out.1 hA3
      have z4 := keep_cell R.one.q0 hA3
      have hown3 := map_below HM.out hA3
      have H3 := Lib.hid hA3
      clear R q2 hA3 hw hkp
      go_wp2_with (first
        | (at_lookup; refine wpList_lookup_own_ok_int _ rfl _ _ 135 rfl 9 3 .i64 law9 Tryz.underlying135 Tryz.underlying3 (zero3 _) bp 1 Dp rfl hown _ _ rfl hkey ?_; intro c hat2 hwc; obtain rfl := i64_lit_inj (Q2.out.symm.trans hat2); clear hat2 hwc)
        | (go_at_call 77; with_reducible refine (want_ok _ _ _).mono ?_; rintro e w2 ⟨rfl, rfl⟩))
      go_region_held (fun w' => w'.cell? ⟨wr.heap.size, 2, none⟩ = some (.slice (some ⟨B + 4, 0, none⟩) 1 1) ∧ w'.cell? ⟨B + 4, 0, none⟩ = some (.string Am.sPerson) ∧ w'.cell? ⟨w.heap.size, 1, none⟩ = some (.string Am.sPerson))
        (go_keep)
        (first | (go_at_call 77; with_reducible refine (want_ok _ _ _).mono ?_; rintro e w' ⟨rfl, rfl⟩))
      obtain ⟨X, hX⟩ : ∃ X, (wr.alloc (.cells #[.string Am.sHelp, .int .i64 3, .slice (some ⟨B + 4, 0, none⟩) 1 1, .slice (some ⟨B + 5, 0, none⟩) 2 2] 93)).drew = X := ⟨_, rfl⟩
      have KX := Lib.hid (show Keep (fun x => x = w1.heap.size) wr X by rw [← hX]; exact ((Keep.refl _ wr).alloc _).drew)
      have hownX : X.ownsMap (H := Unit) Tryz.prog 9 (plainElem Tryz.prog 3) w1.heap.size 0 (.map []) := by rw [← hX]; exact ((Keep.refl (fun _ => False) _).drew).map hown3 (fun x => x)
      first | rw [hX] | skip
      clear hX hown3 hown z1 z4 p0 p1 p2 p3 c12 c3 n0 q1
      go_wp2_with (first
        | (at_lookup; refine wpList_lookup_own_int _ rfl _ _ 135 rfl 9 3 .i64 law9 Tryz.underlying135 Tryz.underlying3 (zero3 _) w1.heap.size 0 (.map []) rfl hownX _ _ rfl hkey ?_; intro c hat2 hwc; obtain rfl := i64_lit_inj ((show (DataW.lit (.int .i64 0) : DataW Unit) = _ from hat2)); clear hat2 hwc)
        | (at_mapUpdate; refine wpList_mapUpdate_in _ rfl _ _ _ 135 rfl 9 3 law9 Tryz.underlying135 _ w1.heap.size 0 (.map []) rfl hownX (by decide) _ _ _ rfl rfl hkey (.lit (.int .i64 1)) [] (plainElem_int Tryz.underlying3 (by decide)) ?_; intro w4 hown2 hturn2)
        | (go_at_call 77; with_reducible refine (want_ok _ _ _).mono ?_; rintro e w2 ⟨rfl, rfl⟩))
      go_roundw
      case rel => exact ⟨1, Nat.le_refl _, by first | rfl | go_num, fun h => absurd h (by decide), KX.out.grown hturn2.grown (fun q hq _ => (Option.some.inj hq).symm)⟩
      case measure => simp [intOf]
    · obtain rfl : k = 1 := by omega
      have x3 := hkp.cell HX2.out.2.2.1 (fun e => by have h1 : w.heap.size = w1.heap.size := e; omega)
      have x4 := hkp.cell HX2.out.2.2.2 (fun e => by have h1 : w.heap.size = w1.heap.size := e; omega)
      have HB := Lib.hid (hkp.toBelow (by have := HM.out.lt; omega) (fun q hq => by have h1 : q = w1.heap.size := hq; omega) : Below w1.heap.size W2 wr)
      have k1 : (Mo.chk 1500 == 0) = true := by rfl
      go_wp2_with (first
        | (go_at_call 16; refine (check_calls _ _).mono ?_; rintro e w2 ⟨rfl, rfl⟩)
        | (go_at_call 77; with_reducible refine (want_ok _ _ _).mono ?_; rintro e w2 ⟨rfl, rfl⟩))
      go_end0
      exact ⟨rfl, B2.out.trans (HB.out.mono B1.out.size)⟩
end Go.Proofs.YtpcmhlbhepickaaGreat
