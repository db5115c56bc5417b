import Derived.Test.YtpcmhlbhepickaaGreatAmtI
import Derived.Deep.RegionHeldLaw
import Derived.Test.YtpcmhlbhepickaaGreatAmtA
/- the statute of lexpriorlaw24.one in memory; resolve.resolve on it -/
namespace Go.Proofs.YtpcmhlbhepickaaGreat
open Go.Shelf Go.RowKit Go.Lib
set_option linter.unusedVariables false
set_option linter.unusedSimpArgs false
namespace Am
def sPerson : ByteArray := ⟨#[112, 101, 114, 115, 111, 110]⟩
def sAnn : ByteArray := ⟨#[97, 110, 110]⟩
def sHelp : ByteArray := ⟨#[104, 101, 108, 112]⟩
def sT : ByteArray := ⟨#[116]⟩
def stat (B : Nat) : Array Value := #[.string ⟨#[]⟩, .slice (some ⟨B + 2, 0, none⟩) 1 1, .slice (some ⟨B + 3, 0, none⟩) 1 1, .slice (some ⟨B + 6, 0, none⟩) 1 1, .slice none 0 0, .slice none 0 0, .slice none 0 0, .slice none 0 0, .slice (some ⟨B + 8, 0, none⟩) 1 1]
/-- what 'one' has made from block B on -/
structure One (w : World) (B : Nat) : Prop where
  lt : B + 13 ≤ w.heap.size
  k0 : w.cell? ⟨B + 2, 0, none⟩ = some (.string sPerson)
  m0 : w.cell? ⟨B + 3, 0, none⟩ = some (.string sAnn)
  m1 : w.cell? ⟨B + 3, 1, none⟩ = some (.string sPerson)
  q0 : w.cell? ⟨B + 4, 0, none⟩ = some (.string sPerson)
  v0 : w.cell? ⟨B + 5, 0, none⟩ = some (.int .i64 1000)
  v1 : w.cell? ⟨B + 5, 1, none⟩ = some (.int .i64 2000)
  p0 : w.cell? ⟨B + 6, 0, none⟩ = some (.string sHelp)
  p1 : w.cell? ⟨B + 6, 1, none⟩ = some (.int .i64 3)
  p2 : w.cell? ⟨B + 6, 2, none⟩ = some (.slice (some ⟨B + 4, 0, none⟩) 1 1)
  p3 : w.cell? ⟨B + 6, 3, none⟩ = some (.slice (some ⟨B + 5, 0, none⟩) 2 2)
  h0 : w.cell? ⟨B + 7, 0, none⟩ = some (.string sHelp)
  t0 : w.cell? ⟨B + 8, 0, none⟩ = some (.string sT)
  t1 : w.cell? ⟨B + 8, 1, none⟩ = some (.string sPerson)
  t2 : w.cell? ⟨B + 8, 2, none⟩ = some (.slice (some ⟨B + 7, 0, none⟩) 1 1)
  t3 : w.cell? ⟨B + 8, 3, none⟩ = some (.bool true)
  t4 : w.cell? ⟨B + 8, 4, none⟩ = some (.int .i64 1500)
  a0 : w.cell? ⟨B + 10, 0, none⟩ = some (.int .i64 0)
  a1 : w.cell? ⟨B + 11, 0, none⟩ = some (.int .i64 0)
theorem One.low {w w1 : World} {B : Nat} (h : One w B) (b : Below (B + 13) w w1) : One w1 B := by
  have l := h.lt
  have e : ∀ (k j : Nat) (v : Value), k < 13 → w.cell? ⟨B + k, j, none⟩ = some v → w1.cell? ⟨B + k, j, none⟩ = some v := fun k j v hk hv => (b.cell (p := ⟨B + k, j, none⟩) (show B + k < B + 13 by omega)).trans hv
  exact ⟨Nat.le_trans l b.size, e 2 0 _ (by decide) h.k0, e 3 0 _ (by decide) h.m0, e 3 1 _ (by decide) h.m1, e 4 0 _ (by decide) h.q0, e 5 0 _ (by decide) h.v0, e 5 1 _ (by decide) h.v1, e 6 0 _ (by decide) h.p0, e 6 1 _ (by decide) h.p1, e 6 2 _ (by decide) h.p2, e 6 3 _ (by decide) h.p3, e 7 0 _ (by decide) h.h0, e 8 0 _ (by decide) h.t0, e 8 1 _ (by decide) h.t1, e 8 2 _ (by decide) h.t2, e 8 3 _ (by decide) h.t3, e 8 4 _ (by decide) h.t4, e 10 0 _ (by decide) h.a0, e 11 0 _ (by decide) h.a1⟩
theorem One.below {w w1 : World} {B : Nat} (h : One w B) (b : Below w.heap.size w w1) : One w1 B := h.low (b.mono h.lt)
end Am
namespace Am
def rsCells (B : Nat) (i : Int) (bk bm bp bs bu bt : Nat) : Array Value := #[.string ⟨#[]⟩, .slice (some ⟨B + 2, 0, none⟩) 1 1, .slice (some ⟨B + 3, 0, none⟩) 1 1, .slice (some ⟨B + 6, 0, none⟩) 1 1, .slice none 0 0, .slice none 0 0, .slice none 0 0, .slice none 0 0, .slice (some ⟨B + 8, 0, none⟩) 1 1, .int .i64 i, .map (some bk), .map (some bm), .map (some bp), .map (some bs), .map (some bu), .map (some bt)]
/-- the resolver r of the statute from B on -/
structure Rs (w : World) (B r : Nat) (i : Int) (bk bm bp bs bu bt : Nat) (Dk Dm Dp Dt : DataW Unit) : Prop where
  one : One w B
  blk : w.heap[r]? = some (.cells (rsCells B i bk bm bp bs bu bt) 137 (0, 0))
  ak : w.ownsMap (H := Unit) Tryz.prog 9 (plainElem Tryz.prog 3) bk 1 Dk
  am : w.ownsMap (H := Unit) Tryz.prog 9 (plainElem Tryz.prog 3) bm 1 Dm
  ap : w.ownsMap (H := Unit) Tryz.prog 9 (plainElem Tryz.prog 3) bp 1 Dp
  ap4 : w.ownsMap (H := Unit) Tryz.prog 9 (plainElem Tryz.prog 3) bt 1 Dt
  ok : Sy.MapOk Dk [sPerson]
  om : Sy.MapOk Dm [sAnn]
  op : Sy.MapOk Dp [sHelp]
  ot : Sy.MapOk Dt [sT]
  rB : B + 13 ≤ r
theorem map_ne {w : World} {b n p : Nat} {D : DataW Unit} {vs : Array Value} {t : TypeId} (h : w.ownsMap (H := Unit) Tryz.prog 9 (plainElem Tryz.prog 3) b n D) (hp : w.heap[p]? = some (.cells vs t (0, 0))) : b ≠ p := by
  rintro rfl
  obtain ⟨es, c, hm, _⟩ := h
  rw [hm] at hp
  cases hp
theorem Rs.bump {w : World} {B r : Nat} {i : Int} {bk bm bp bs bu bt : Nat} {Dk Dm Dp Dt : DataW Unit} (h : Rs w B r i bk bm bp bs bu bt Dk Dm Dp Dt) (j : Int) : Rs (w.setCell ⟨r, 9, none⟩ (.int .i64 j)) B r j bk bm bp bs bu bt Dk Dm Dp Dt := by
  have k : Keep (fun x => x = r) w (w.setCell ⟨r, 9, none⟩ (.int .i64 j)) := (Keep.refl (fun x => x = r) w).setCell (p := ⟨r, 9, none⟩) (fun _ => rfl) _
  refine ⟨h.one.low ((Below.refl (B + 13) w).setCell (p := ⟨r, 9, none⟩) h.rB _), ?_, k.map h.ak (map_ne h.ak h.blk), k.map h.am (map_ne h.am h.blk), k.map h.ap (map_ne h.ap h.blk), k.map h.ap4 (map_ne h.ap4 h.blk), h.ok, h.om, h.op, h.ot, h.rB⟩
  have := heap_setCell_same h.blk 9 (.int .i64 j)
  rw [this]
  rfl
theorem Rs.below {w w1 : World} {B r : Nat} {i : Int} {bk bm bp bs bu bt : Nat} {Dk Dm Dp Dt : DataW Unit} (h : Rs w B r i bk bm bp bs bu bt Dk Dm Dp Dt) (b : Below w.heap.size w w1) : Rs w1 B r i bk bm bp bs bu bt Dk Dm Dp Dt :=
  ⟨h.one.below b, (b.block r (blk_lt h.blk)).trans h.blk, (Keep.of_below (F := fun _ => False) b).map h.ak (fun x => x), (Keep.of_below (F := fun _ => False) b).map h.am (fun x => x), (Keep.of_below (F := fun _ => False) b).map h.ap (fun x => x), (Keep.of_below (F := fun _ => False) b).map h.ap4 (fun x => x), h.ok, h.om, h.op, h.ot, h.rB⟩
end Am
theorem map_below {w w1 : World} {bm n : Nat} {D : DataW Unit} (h : w.ownsMap (H := Unit) Tryz.prog 9 (plainElem Tryz.prog 3) bm n D) (b : Below w.heap.size w w1) : w1.ownsMap (H := Unit) Tryz.prog 9 (plainElem Tryz.prog 3) bm n D := (Keep.of_below (F := fun _ => False) b).map h (fun x => x)
theorem keep_cell {w1 w2 : World} {a : Addr} {v : Value} (hc : w1.cell? a = some v) (hb : Below w1.heap.size w1 w2) : w2.cell? a = some v := (hb.cell (World.block_lt_of_cell? w1 a hc)).trans hc
theorem below_next {w w1 w2 : World} (b1 : Below w.heap.size w w1) (b2 : Below w1.heap.size w1 w2) : Below w.heap.size w w2 := b1.trans (b2.mono b1.size)
set_option maxHeartbeats 4000000 in
set_option maxRecDepth 100000 in
theorem resolve_calls (B : Nat) (w : World) (h : Am.One w B) : Calls Tryz.prog 52 #[.agg (Am.stat B)] w fun e w' => ∃ (r bk bm bp bs bu bt : Nat) (Dk Dm Dp Dt : DataW Unit), e = .returned (.pointer (some ⟨r, 0, none⟩)) ∧ Am.Rs w' B r 0 bk bm bp bs bu bt Dk Dm Dp Dt ∧ w.heap.size ≤ r ∧ Below w.heap.size w w' := by
  have HO := Lib.hid h
  unfold Am.stat
  clear h
  go_enter Tryz.func52, Tryz.ntmps52
  go_wp2_with fail
  go_region_held (fun w' => w'.cell? ⟨w.heap.size, 0, none⟩ = some (.string ⟨#[]⟩) ∧ w'.cell? ⟨w.heap.size, 1, none⟩ = some (.slice (some ⟨B + 2, 0, none⟩) 1 1) ∧ w'.cell? ⟨w.heap.size, 2, none⟩ = some (.slice (some ⟨B + 3, 0, none⟩) 1 1) ∧ w'.cell? ⟨w.heap.size, 3, none⟩ = some (.slice (some ⟨B + 6, 0, none⟩) 1 1) ∧
      w'.cell? ⟨w.heap.size, 4, none⟩ = some (.slice none 0 0) ∧ w'.cell? ⟨w.heap.size, 5, none⟩ = some (.slice none 0 0) ∧ w'.cell? ⟨w.heap.size, 6, none⟩ = some (.slice none 0 0) ∧ w'.cell? ⟨w.heap.size, 7, none⟩ = some (.slice none 0 0) ∧ w'.cell? ⟨w.heap.size, 8, none⟩ = some (.slice (some ⟨B + 8, 0, none⟩) 1 1))
    (first | go_keep | (go_split_ands; refine ⟨?_, ?_, ?_, ?_, ?_, ?_, ?_, ?_, ?_⟩ <;> exact keep_cell (by assumption) hb))
    (first
      | (go_at_call 64; refine (index1_one (B + 2) 1 Am.sPerson _ (by decide) (HO.out.below (by first | exact ((Below.refl _ w).alloc (Nat.le_refl _) _).drew | exact (Below.refl _ w).alloc (Nat.le_refl _) _)).k0).mono ?_; rintro e w1 ⟨bk, Dk, rfl, hmk, hok, hlk, hb⟩; have B1 := Lib.hid (show Below w.heap.size w w1 by first | exact ((Below.refl _ w).alloc (Nat.le_refl _) _).drew.trans (hb.mono (by simp)) | exact ((Below.refl _ w).alloc (Nat.le_refl _) _).trans (hb.mono (by simp))); have Hk := Lib.hid (And.intro hmk hok); clear hmk hok hlk)
      | (go_at_call 66; clear hb; refine (index2_one (B + 3) 1 Am.sAnn Am.sPerson _ (by decide) (HO.out.below B1.out).m0 (HO.out.below B1.out).m1).mono ?_; rintro e w2 ⟨bm, Dm, rfl, hmm, hom, hlm, hb⟩; have B2 := Lib.hid (B1.out.trans (hb.mono B1.out.size)); have C2 := Lib.hid hb; have Hm := Lib.hid (And.intro hmm hom); clear hmm hom hlm)
      | (go_at_call 68; clear hb; refine (index3_one (B + 6) 1 Am.sHelp 3 (some ⟨B + 4, 0, none⟩) 1 1 (some ⟨B + 5, 0, none⟩) 2 2 _ (by decide) (HO.out.below B2.out).p0 (HO.out.below B2.out).p1 (HO.out.below B2.out).p2 (HO.out.below B2.out).p3).mono ?_; rintro e w3 ⟨bp, Dp, rfl, hmp, hop, hlp, hb⟩; have B3 := Lib.hid (B2.out.trans (hb.mono B2.out.size)); have C3 := Lib.hid hb; have Hp := Lib.hid (And.intro hmp hop); clear hmp hop hlp)
      | (go_at_call 70; clear hb; refine (index4_nil _).mono ?_; rintro e w4 ⟨bs, rfl, hms, hls, hb⟩; have B4 := Lib.hid (B3.out.trans (hb.mono B3.out.size)); have C4 := Lib.hid hb; have Hs := Lib.hid hms; clear hms hls)
      | (go_at_call 72; clear hb; refine (index5_nil _).mono ?_; rintro e w5 ⟨bu, rfl, hmu, hlu, hb⟩; have B5 := Lib.hid (B4.out.trans (hb.mono B4.out.size)); have C5 := Lib.hid hb; have Hu := Lib.hid hmu; clear hmu hlu)
      | (go_at_call 74; clear hb; refine (index6_one (B + 8) 1 Am.sT Am.sPerson (some ⟨B + 7, 0, none⟩) 1 1 true 1500 _ (by decide) (HO.out.below B5.out).t0 (HO.out.below B5.out).t1 (HO.out.below B5.out).t2 (HO.out.below B5.out).t3 (HO.out.below B5.out).t4).mono ?_; rintro e w6 ⟨bt, Dt, rfl, hmt, hot, hlt, hb⟩; have B6 := Lib.hid (B5.out.trans (hb.mono B5.out.size)); have C6 := Lib.hid hb; have Ht := Lib.hid (And.intro hmt hot); clear hmt hot hlt))
  all_goals go_wp2_with fail
  go_ret
  have hB := HO.out.lt
  have h6 := B6.out.size
  refine ⟨w6.heap.size, bk, bm, bp, bs, bu, bt, Dk, Dm, Dp, Dt, rfl, ?_, by omega, B6.out.alloc (by omega) _⟩
  have hA := (Below.refl w6.heap.size w6).alloc (Nat.le_refl _) (.cells (Am.rsCells B 0 bk bm bp bs bu bt) 137)
  exact ⟨(HO.out.below B6.out).below hA, heap_alloc_new w6 _, map_below (map_below (map_below (map_below (map_below (map_below Hk.out.1 C2.out) C3.out) C4.out) C5.out) C6.out) hA, map_below (map_below (map_below (map_below (map_below Hm.out.1 C3.out) C4.out) C5.out) C6.out) hA, map_below (map_below (map_below (map_below Hp.out.1 C4.out) C5.out) C6.out) hA, map_below Ht.out.1 hA, Hk.out.2, Hm.out.2, Hp.out.2, Ht.out.2, by omega⟩
end Go.Proofs.YtpcmhlbhepickaaGreat
/- resolve: want, fresh, kind, and what 'items' does with a kind, with a member -/
namespace Go.Proofs.YtpcmhlbhepickaaGreat
open Go.Shelf Go.RowKit Go.Lib
set_option linter.unusedVariables false
set_option linter.unusedSimpArgs false
theorem want_ok (rv : Value) (e : Int) (w : World) : Calls Tryz.prog 77 #[rv, .bool true, .int .i64 e] w fun e w' => e = .returned (.tuple #[]) ∧ w = w' := by
  go_enter Tryz.func77, Tryz.ntmps77
  go_wp2_with fail
  go_end0
  exact ⟨rfl, rfl⟩
theorem name_person : Sy.nameB Am.sPerson = true := by kernel_rfl
theorem name_ann : Sy.nameB Am.sAnn = true := by kernel_rfl
theorem name_help : Sy.nameB Am.sHelp = true := by kernel_rfl
theorem name_t : Sy.nameB Am.sT = true := by kernel_rfl
theorem at_one (s : ByteArray) : Sy.at? [s] s = some 0 := by
  unfold Sy.at? List.idxOf?
  simp [List.findIdx?_cons, beq_bytes]
set_option maxRecDepth 100000 in
theorem fresh_ok (rv : Value) (bm n : Nat) (D : DataW Unit) (s : ByteArray) (w : World) (hs : s.size ≤ 1000) (hn : Sy.nameB s = true) (hm : w.ownsMap (H := Unit) Tryz.prog 9 (plainElem Tryz.prog 3) bm n D) (ho : Sy.MapOk D [s]) :
    Calls Tryz.prog 80 #[rv, .map (some bm), .string s, .int .i64 0] w fun e w' => e = .returned (.tuple #[]) ∧ Below w.heap.size w w' := by
  have hN := isName_calls s
  rw [hn] at hN
  have HN := Lib.hid hN
  have hkey := WideMaps.keyOf_string_mk Tryz.underlying9 (s := s) (by unfold maxLen; omega)
  obtain ⟨q1, q2⟩ := ho.yes s 0 (at_one s)
  have Q2 := Lib.hid (show D.atKey (Sy.key s) (.lit (.int .i64 0)) = .lit (.int .i64 0) from q2)
  clear hN hn ho q2
  go_enter Tryz.func80, Tryz.ntmps80
  go_wp2_with (first
    | (go_at_call 120; refine (HN.out _).mono ?_; rintro e w1 ⟨rfl, b1⟩; have B1 := Lib.hid b1; have hown := map_below hm b1; clear b1)
    | (at_lookup; refine wpList_lookup_own_int _ rfl _ _ 135 rfl 9 3 .i64 law9 Tryz.underlying135 Tryz.underlying3 (zero3 _) bm n D rfl hown _ _ rfl hkey ?_; intro c hat2 hwc; obtain rfl := i64_lit_inj (Q2.out.symm.trans hat2); clear hat2 hwc)
    | (go_at_call 77; with_reducible refine (want_ok _ _ _).mono ?_; rintro e w2 ⟨rfl, rfl⟩))
  go_end0
  exact ⟨rfl, B1.out⟩
set_option maxRecDepth 100000 in
theorem kind_ok (B r : Nat) (i : Int) (bk bm bp bs bu bt : Nat) (Dk Dm Dp Dt : DataW Unit) (w : World) (h : Am.Rs w B r i bk bm bp bs bu bt Dk Dm Dp Dt) :
    Calls Tryz.prog 83 #[.pointer (some ⟨r, 0, none⟩), .string Am.sPerson] w fun e w' => e = .returned (.tuple #[]) ∧ w = w' := by
  have hown := h.ak
  have hkey := WideMaps.keyOf_string_mk Tryz.underlying9 (s := Am.sPerson) (by decide)
  obtain ⟨q1, q2⟩ := h.ok.yes Am.sPerson 0 (at_one _)
  have c10 : w.cell? ⟨r, 10, none⟩ = some (.map (some bk)) := blk_cell h.blk 10 rfl
  have Q2 := Lib.hid (show Dk.atKey (Sy.key Am.sPerson) (.lit (.int .i64 0)) = .lit (.int .i64 0) from q2)
  clear q2 h
  go_enter Tryz.func83, Tryz.ntmps83
  go_wp2_with (first
    | (at_lookup; refine wpList_lookup_own_ok_int _ rfl _ _ 135 rfl 9 3 .i64 law9 Tryz.underlying135 Tryz.underlying3 (zero3 _) bk 1 Dk rfl hown _ _ rfl hkey ?_; intro c hat2 hwc; obtain rfl := i64_lit_inj (Q2.out.symm.trans hat2); clear hat2 hwc)
    | (go_at_call 77; with_reducible refine (want_ok _ _ _).mono ?_; rintro e w2 ⟨rfl, rfl⟩))
  go_end0
  exact ⟨rfl, rfl⟩
set_option maxRecDepth 100000 in
theorem items1_ok (x B r : Nat) (i : Int) (bk bm bp bs bu bt : Nat) (Dk Dm Dp Dt : DataW Unit) (w : World) (hx : w.cell? ⟨x, 0, none⟩ = some (.pointer (some ⟨r, 0, none⟩))) (h : Am.Rs w B r i bk bm bp bs bu bt Dk Dm Dp Dt) :
    Calls Tryz.prog 79 #[.string Am.sPerson, .int .i64 0, .pointer (some ⟨x, 0, none⟩)] w fun e w' => e = .returned (.tuple #[]) ∧ Below w.heap.size w w' := by
  have c10 : w.cell? ⟨r, 10, none⟩ = some (.map (some bk)) := blk_cell h.blk 10 rfl
  have HF := Lib.hid (fun w1 (b : Below w.heap.size w w1) => fresh_ok (.pointer (some ⟨r, 0, none⟩)) bk 1 Dk Am.sPerson w1 (by decide) name_person (map_below h.ak b) h.ok)
  clear h
  go_enter Tryz.func79, Tryz.ntmps79
  go_region_held (fun w' => w'.cell? ⟨x, 0, none⟩ = some (.pointer (some ⟨r, 0, none⟩)) ∧ w'.cell? ⟨r, 10, none⟩ = some (.map (some bk)))
    (first | go_keep | (go_split_ands; refine ⟨?_, ?_⟩ <;> exact keep_cell (by assumption) hb))
    (first | (go_at_call 80; refine (HF.out _ (by first | exact Below.refl _ _ | exact (Below.refl _ _).drew)).mono ?_; rintro e w1 ⟨rfl, hb⟩))
  all_goals go_wp2_with fail
  go_end0
  exact ⟨rfl, by first | exact hb | exact (Below.refl _ w).drew.trans hb⟩
set_option maxRecDepth 100000 in
theorem items2_ok (x B r : Nat) (i : Int) (bk bm bp bs bu bt : Nat) (Dk Dm Dp Dt : DataW Unit) (w : World) (hx : w.cell? ⟨x, 0, none⟩ = some (.pointer (some ⟨r, 0, none⟩))) (h : Am.Rs w B r i bk bm bp bs bu bt Dk Dm Dp Dt) :
    Calls Tryz.prog 82 #[.agg #[.string Am.sAnn, .string Am.sPerson], .int .i64 0, .pointer (some ⟨x, 0, none⟩)] w fun e w' => e = .returned (.tuple #[]) ∧ Below w.heap.size w w' := by
  have hA := (Below.refl w.heap.size w).alloc (Nat.le_refl _) (.cells #[.string Am.sAnn, .string Am.sPerson] 90)
  have hx1 := keep_cell hx hA
  have c11 : (w.alloc (.cells #[.string Am.sAnn, .string Am.sPerson] 90)).cell? ⟨r, 11, none⟩ = some (.map (some bm)) := blk_cell (h.below hA).blk 11 rfl
  have HF := Lib.hid (fun w1 (b : Below w.heap.size w w1) => fresh_ok (.pointer (some ⟨r, 0, none⟩)) bm 1 Dm Am.sAnn w1 (by decide) name_ann (map_below h.am b) h.om)
  have HK := Lib.hid (fun w1 (b : Below w.heap.size w w1) => kind_ok B r i bk bm bp bs bu bt Dk Dm Dp Dt w1 (h.below b))
  have HA := Lib.hid hA
  clear h hA
  go_enter Tryz.func82, Tryz.ntmps82
  go_wp2_with fail
  go_region_held (fun w' => w'.cell? ⟨x, 0, none⟩ = some (.pointer (some ⟨r, 0, none⟩)) ∧ w'.cell? ⟨r, 11, none⟩ = some (.map (some bm)) ∧ w'.cell? ⟨w.heap.size, 0, none⟩ = some (.string Am.sAnn) ∧ w'.cell? ⟨w.heap.size, 1, none⟩ = some (.string Am.sPerson))
    (first | go_keep | (go_split_ands; refine ⟨?_, ?_, ?_, ?_⟩ <;> exact keep_cell (by assumption) hb))
    (first | (go_at_call 80; refine (HF.out _ (by first | exact HA.out | exact HA.out.drew)).mono ?_; rintro e w1 ⟨rfl, hb⟩; have B1 := Lib.hid (show Below w.heap.size w w1 by first | exact below_next HA.out hb | exact below_next HA.out.drew hb)))
  all_goals go_wp2_with (first | (go_at_call 83; refine (HK.out _ B1.out).mono ?_; rintro e w2 ⟨rfl, rfl⟩))
  go_end0
  exact ⟨rfl, B1.out⟩
end Go.Proofs.YtpcmhlbhepickaaGreat
