import Derived.Test.YtmdfgiiihmameaaSymT
namespace Go.Proofs.Ytmdfgiiihmameaa
open Go.Shelf Go.RowKit Go.Lib Go.Sort
set_option linter.unusedVariables false
set_option linter.unusedSimpArgs false

theorem Tab.mono {B B2 : Nat} {W : World} {p most : Nat} {ns : List ByteArray} {vn : Value} {bm bo : Nat} {od : Int} {sl : Value} {D : DataW Unit} (h : Tab B W p most ns vn bm bo od sl D) (hb : B2 ≤ B) : Tab B2 W p most ns vn bm bo od sl D where
  blk := h.blk
  hp := Nat.le_trans hb h.hp
  row := row_mono h.row hb
  hbm := Nat.le_trans hb h.hbm
  map := h.map
  ok := h.ok
  oblk := h.oblk
  hbo := Nat.le_trans hb h.hbo
  st := h.st.imp id (fun ⟨a, c⟩ => ⟨a, row_mono c hb⟩)
  most := h.most
  small := h.small
  nodup := h.nodup
theorem TabF.mono {B B2 : Nat} {F : Nat → Prop} {W : World} {p most : Nat} {ns : List ByteArray} (h : TabF B F W p most ns) (hb : B2 ≤ B) : TabF B2 F W p most ns := by
  obtain ⟨⟨vn, bm, bo, od, sl, D, h1, h2⟩, h3⟩ := h
  exact ⟨⟨vn, bm, bo, od, sl, D, h1.mono hb, h2⟩, fun i hi => ⟨Nat.le_trans hb (h3 i hi).1, (h3 i hi).2⟩⟩

section
variable {B tb m most p : Nat} {ns : List ByteArray} {F : Nat → Prop} {v : Value}

set_option maxHeartbeats 1000000 in
set_option maxRecDepth 100000 in
theorem does_sorted (s : ByteArray) (n : Int) {w : World} (h : Duo B w tb m most ns p F v) (hB : B ≤ w.heap.size) :
    Calls Try.prog 21 #[.pointer (some ⟨tb, 0, none⟩), .pointer (some ⟨m, 0, none⟩), .agg #[.int .i64 3, .string s, .int .i64 n]] w fun e w' => e = .returned (.bool true) ∧ DuoE B w' tb m most ∧ Below B w w' := by
  have X := boxed 3 s n h hB
  obtain ⟨x0, x1, x2, tc, D, bb⟩ := X
  have HD := Lib.hid D
  have HB := Lib.hid bb
  have hS := Lib.hid (sorted_f D.T)
  clear h D bb
  go_enter Try.func21, Try.ntmps21
  go_wp2_with (fail)
  refine hS.out.mono ?_
  rintro e w2 ⟨v2, F2, rfl, r2, T2, K2, n2, -⟩
  have R2 := HD.out.R.keep K2 (fun i hi hf => HD.out.nd i hf hi)
  have hDD := Lib.hid (duo_add (Nat.le_trans hB (by simp)) HD.out ⟨F2, T2, K2, n2⟩ R2 (Keep.refl _ _) (fun i hi => .inl hi))
  have hR := Lib.hid (rsorted_tab R2)
  have HI := Lib.hid (RdI.of_row (xs := (Sy.order ns).map (fun (i : Nat) => (i : Int))) (by rw [← order_ints]; exact r2))
  clear r2 T2 K2 n2 R2 hS x0 x1 x2 tc
  go_wp2_with (fail)
  refine hR.out.mono ?_
  rintro e w3 ⟨v3, rfl, r3, b3⟩
  have HI3 := RdI.of_row (xs := (Sy.order ns).map (fun (i : Nat) => (i : Int))) (by rw [← order_ints]; exact r3)
  have HI2 := HI.out.keep (Keep.of_below (F := fun _ => False) b3) (fun _ _ _ _ => id)
  have hsame := Lib.hid (sameInts_yes _ v2 v3 w3 HI2 HI3)
  have HB3 := Lib.hid b3
  clear r3 b3 HI HI3 HI2 hR
  go_wp2_with (first | (go_at_call 23; refine hsame.out.mono ?_; rintro e w4 ⟨rfl, n4, rfl⟩))
  go_ret
  obtain ⟨⟨ns', p', F', v', hd⟩, hb⟩ := hDD.out
  exact ⟨rfl, ⟨_, _, _, _, (hd.below HB3.out).drewN _⟩, below_drewN' ((HB.out.trans hb).trans (HB3.out.mono (Nat.le_trans hB (HB.out.trans hb).size))) _⟩

set_option maxHeartbeats 2000000 in
set_option maxRecDepth 100000 in
theorem does_copy (s : ByteArray) (n : Int) {w : World} (h : Duo B w tb m most ns p F v) (hB : B ≤ w.heap.size) :
    Calls Try.prog 21 #[.pointer (some ⟨tb, 0, none⟩), .pointer (some ⟨m, 0, none⟩), .agg #[.int .i64 4, .string s, .int .i64 n]] w fun e w' => e = .returned (.bool true) ∧ DuoE B w' tb m most ∧ Below B w w' := by
  have X := boxed 4 s n h hB
  obtain ⟨x0, x1, x2, tc, D, bb⟩ := X
  have hs1 : w.heap.size < (w.alloc (.cells #[.int .i64 4, .string s, .int .i64 n] 49)).heap.size := by simp
  have HD := Lib.hid D
  have HB := Lib.hid bb
  have hC := Lib.hid (copy_f D.T)
  clear h D bb
  go_enter Try.func21, Try.ntmps21
  go_wp2_with (fail)
  refine hC.out.mono ?_
  generalize (w.alloc (.cells #[.int .i64 4, .string s, .int .i64 n] 49)) = w1 at *
  rintro e w2 ⟨p', Fc, rfl, Tc, b2⟩
  have D2 := HD.out.below b2
  have tc2 := blk_cell D2.t 0 (v := .pointer (some ⟨p, 0, none⟩)) rfl
  have hA := Lib.hid (add_f ⟨#[122, 122, 122]⟩ D2.T)
  have HTc := Lib.hid Tc
  have HD2 := Lib.hid D2
  have HB2 := Lib.hid b2
  clear D2 b2 Tc hC x0 x1 x2 tc
  go_wp2_with (fail)
  refine hA.out.mono ?_
  rintro e w3 ⟨rfl, F3, T3, K3, n3⟩
  have lt1 := HD.out.T.2
  have ltR := fun i hi => (HD.out.R.foot_lt (i := i) hi).2
  have ltt := blk_lt HD.out.t
  have geC := fun i hi => (HTc.out.2 i hi).1
  have ltC := fun i hi => (HTc.out.2 i hi).2
  have t3 := K3.blk HD2.out.t HD.out.nt
  have tc3 := blk_cell t3 0 (v := .pointer (some ⟨p, 0, none⟩)) rfl
  have Tc3 := HTc.out.keep K3 (fun i hi hf => by have := geC i hi; have := (lt1 i hf).2; omega)
  have R3 := HD2.out.R.keep K3 (fun i hi hf => HD.out.nd i hf hi)
  have nt3 : ¬ F3 tb := fun h => (n3 tb h).elim HD.out.nt (fun h => by have := HB2.out.size; omega)
  have nd3 : ∀ i, F3 i → ¬ RTab.foot m v i := fun i h hf => (n3 i h).elim (fun h => HD.out.nd i h hf) (fun h => by have := HB2.out.size; have := ltR i hf; omega)
  have nc3 : ∀ i, F3 i → ¬ Fc i := fun i h hf => (n3 i h).elim (fun h => by have := geC i hf; have := (lt1 i h).2; omega) (fun h => by have := ltC i hf; omega)
  have ge3 : ∀ i, F3 i → B ≤ i := fun i hi => (T3.2 i hi).1
  have B3 : Below B w1 w3 := (HB2.out.mono (Nat.le_trans hB HB.out.size)).trans (K3.toBelow (Nat.le_trans (Nat.le_trans hB HB.out.size) HB2.out.size) (fun i hi => (lt1 i hi).1))
  have hS := Lib.hid (sorted_f T3)
  have HT := Lib.hid t3
  have HTc3 := Lib.hid Tc3
  have HR3 := Lib.hid R3
  have HN3 := Lib.hid (And.intro nt3 (And.intro nd3 (And.intro nc3 ge3)))
  have HB3 := Lib.hid B3
  have HGC := Lib.hid (And.intro geC ltR)
  clear T3 K3 n3 t3 Tc3 R3 nt3 nd3 nc3 ge3 B3 lt1 ltR geC ltC hA tc2 HB2 HTc
  go_wp2_with (fail)
  refine hS.out.mono ?_
  rintro e w4 ⟨v4, F4, rfl, -, -, K4, -, -⟩
  obtain ⟨nt3, nd3, nc3, ge3⟩ := HN3.out
  obtain ⟨geC, ltR⟩ := HGC.out
  have t4 := Lib.hid (K4.blk HT.out nt3)
  have Tc4 := Lib.hid (HTc3.out.keep K4 (fun i hi hf => nc3 i hf hi))
  have R4 := Lib.hid (HR3.out.keep K4 (fun i hi hf => nd3 i hf hi))
  have B4 := Lib.hid (HB3.out.trans (K4.toBelow (Nat.le_trans (Nat.le_trans hB HB.out.size) HB3.out.size) ge3))
  have tc4 := blk_cell t4.out 0 (v := .pointer (some ⟨p, 0, none⟩)) rfl
  have tf4 := blk_free t4.out 0
  have HG2 := Lib.hid (And.intro geC ltR)
  clear K4 nt3 nd3 nc3 ge3 geC ltR hS tc3 HN3 HGC HT HTc3 HR3 HB3
  go_wp2
  go_ret
  obtain ⟨geC, ltR⟩ := HG2.out
  have KS : Keep (fun i => i = tb) w4 (w4.setCell ⟨tb, 0, none⟩ (.pointer (some ⟨p', 0, none⟩))) := (Keep.refl (fun i => i = tb) w4).setCell (p := ⟨tb, 0, none⟩) (fun _ => rfl) _
  have nC : ¬ Fc tb := fun h => by have := geC tb h; omega
  refine ⟨rfl, ⟨ns, p', Fc, v, ?_⟩, HB.out.trans (B4.out.trans (KS.toBelow (Nat.le_trans (Nat.le_trans hB HB.out.size) B4.out.size) (fun i hi => by subst hi; exact HD.out.hb)))⟩
  exact {
    t := heap_setCell_same t4.out 0 _
    hb := HD.out.hb
    T := (Tc4.out.mono (Nat.le_trans hB HB.out.size)).keep KS (fun i hi e => by subst e; exact nC hi)
    R := R4.out.keep KS (fun i hi e => by subst e; exact HD.out.nr hi)
    nt := nC
    nr := HD.out.nr
    nd := fun i hi hf => by have := geC i hi; have := ltR i hf; omega }

theorem does_calls (wh : Int) (s : ByteArray) (n : Int) (hs : s.size ≤ maxLen) {w : World} (h : DuoE B w tb m most) (hB : B ≤ w.heap.size) :
    Calls Try.prog 21 #[.pointer (some ⟨tb, 0, none⟩), .pointer (some ⟨m, 0, none⟩), .agg #[.int .i64 wh, .string s, .int .i64 n]] w fun e w' => e = .returned (.bool true) ∧ DuoE B w' tb m most ∧ Below B w w' := by
  obtain ⟨ns, p, F, v, h⟩ := h
  by_cases h0 : wh = 0
  · subst h0; exact does_add s n hs h hB
  by_cases h1 : wh = 1
  · subst h1; exact does_find s n hs h hB
  by_cases h2 : wh = 2
  · subst h2; exact does_name s n h hB
  by_cases h3 : wh = 3
  · subst h3; exact does_sorted s n h hB
  by_cases h4 : wh = 4
  · subst h4; exact does_copy s n h hB
  exact does_else wh s n h0 h1 h2 h3 h4 h hB
end
end Go.Proofs.Ytmdfgiiihmameaa
