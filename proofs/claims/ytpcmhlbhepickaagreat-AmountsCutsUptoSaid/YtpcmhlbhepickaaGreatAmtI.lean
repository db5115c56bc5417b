import Derived.Test.YtpcmhlbhepickaaGreatMonA
import Derived.StringKeys
/- maps of names: what the first place of each name is -/
namespace Go.Proofs.YtpcmhlbhepickaaGreat
open Go.Shelf Go.RowKit Go.Lib
set_option linter.unusedVariables false
set_option linter.unusedSimpArgs false
namespace Sy
/-- a text as a key of a map's reading -/
abbrev key (s : ByteArray) : Lit := .string s.data.toList
/-- at which place a name stands -/
def at? (ns : List ByteArray) (s : ByteArray) : Option Nat := ns.idxOf? s
/-- the map's reading answers as the list does -/
structure MapOk (D : DataW Unit) (ns : List ByteArray) : Prop where
  isMap : Maps.IsMap D
  yes : ∀ s i, at? ns s = some i → Maps.has D (key s) = true ∧ D.atKey (key s) (.lit (.int .i64 0)) = .lit (.int .i64 i)
  no : ∀ s, at? ns s = none → Maps.has D (key s) = false ∧ D.atKey (key s) (.lit (.int .i64 0)) = .lit (.int .i64 0)
end Sy
theorem run_makeMap_sized {P : Program} (t k e : TypeId) (h : P.underlying t = some (.map k e)) (q : IntKind) (n : Int) (w : World) : (Instr.makeMap t (some (.int q n))).run P w = .ok (.map (some w.heap.size)) (w.alloc (.map #[] 0)) := by
  simp [Instr.makeMap, run_underlying h]
  rfl
theorem law9 : Maps.Keyed Tryz.prog 9 := Maps.string_keyed Tryz.underlying9
theorem zero3 (w : World) : (zeroValue 3).run Tryz.prog w = .ok (.int .i64 0) w := by kernel_rfl

theorem i64_lit_inj {a b : Int} (h : (DataW.lit (.int .i64 a) : DataW Unit) = .lit (.int .i64 b)) : b = a := by injection h with h; injection h with _ h; exact h.symm

theorem key_inj {s t : ByteArray} (h : Sy.key s = Sy.key t) : s = t := by
  injection h with h
  cases s; cases t; simp at h; rw [h]
theorem beq_bytes (s t : ByteArray) : (s == t) = decide (s = t) := by
  cases s with | _ a => cases t with | _ b =>
  show (a == b) = _
  by_cases h : a = b
  · subst h; simp
  · rw [beq_eq_false_iff_ne.2 h]; symm; exact decide_eq_false (fun e => h (by injection e))
theorem at_append (ns : List ByteArray) (s t : ByteArray) : Sy.at? (ns ++ [s]) t = match Sy.at? ns t with | some i => some i | none => if t = s then some ns.length else none := by
  unfold Sy.at? List.idxOf?
  rw [List.findIdx?_append]
  cases h : List.findIdx? (fun x => x == t) ns with
  | some i => simp
  | none =>
    simp only [Option.none_or, List.findIdx?_cons, List.findIdx?_nil]
    by_cases e : t = s
    · subst e; simp [beq_bytes]
    · have : (s == t) = false := by rw [beq_bytes]; exact decide_eq_false (fun h => e h.symm)
      simp [this, e]
theorem mapOk_put {ns : List ByteArray} {D : DataW Unit} {s : ByteArray} (h : Sy.MapOk D ns) (hs : Sy.at? ns s = none) : Sy.MapOk (D.put (Sy.key s) (.lit (.int .i64 ns.length))) (ns ++ [s]) := by
  refine ⟨h.isMap.put _ _, fun t i ht => ?_, fun t ht => ?_⟩
  · rw [at_append] at ht
    by_cases e : t = s
    · subst e
      rw [hs] at ht
      simp at ht
      subst ht
      exact ⟨Maps.has_put_same h.isMap (by trivial) _, Maps.atKey_put_same h.isMap (by trivial) _ _⟩
    · have hk : Sy.key t ≠ Sy.key s := fun x => e (key_inj x)
      rw [Maps.has_put_other hk, Maps.atKey_put_other hk]
      cases ht2 : Sy.at? ns t with
      | none => rw [ht2] at ht; simp [e] at ht
      | some j =>
        rw [ht2] at ht
        simp at ht
        subst ht
        exact h.yes t j ht2
  · rw [at_append] at ht
    have e : t ≠ s := by
      rintro rfl
      rw [hs] at ht; simp at ht
    have hk : Sy.key t ≠ Sy.key s := fun x => e (key_inj x)
    rw [Maps.has_put_other hk, Maps.atKey_put_other hk]
    cases ht2 : Sy.at? ns t with
    | none => exact h.no t ht2
    | some j => rw [ht2] at ht; simp at ht
end Go.Proofs.YtpcmhlbhepickaaGreat
/- resolve.index: the first place of each name -/
namespace Go.Proofs.YtpcmhlbhepickaaGreat
open Go.Shelf Go.RowKit Go.Lib
set_option linter.unusedVariables false
set_option linter.unusedSimpArgs false
theorem mapOk_nil : Sy.MapOk (.map []) [] := ⟨Maps.isMap_empty, fun s i h => by simp [Sy.at?] at h, fun s _ => ⟨rfl, rfl⟩⟩
set_option maxRecDepth 100000 in
theorem index1_nil (w : World) : Calls Tryz.prog 64 #[.slice none 0 0, .func (.func 65) #[] #[]] w fun e w' => ∃ bm, e = .returned (.map (some bm)) ∧ w'.ownsMap (H := Unit) Tryz.prog 9 (plainElem Tryz.prog 3) bm 0 (.map []) ∧ w.heap.size ≤ bm ∧ Below w.heap.size w w' := by
  have hmm := fun n w => run_makeMap_sized (P := Tryz.prog) 135 9 3 Tryz.underlying135 .i64 n w
  go_enter Tryz.func64, Tryz.ntmps64
  go_wp2_with fail
  go_loop [15] (fun v => v = .int .i64 0) (fun _ => 0)
  case atStart => exact rfl
  case round =>
    subst hrel
    go_wp2_with fail
    go_ret
    exact ⟨w.heap.size, rfl, World.ownsMap_made w _ _ _, Nat.le_refl _, (Below.refl _ w).alloc (Nat.le_refl _) _⟩
theorem index1_name (s : ByteArray) (w : World) : Calls Tryz.prog 65 #[.string s] w fun e w' => e = .returned (.string s) ∧ Below w.heap.size w w' := by
  go_enter Tryz.func65, Tryz.ntmps65
  go_wp2_with fail
  go_ret
  first | exact ⟨rfl, Below.refl _ _⟩ | exact ⟨rfl, (Below.refl _ w).alloc (Nat.le_refl _) _⟩
set_option maxRecDepth 100000 in
theorem index1_one (b c : Nat) (s : ByteArray) (w : World) (hs : s.size ≤ 1000) (h0 : w.cell? ⟨b, 0, none⟩ = some (.string s)) : Calls Tryz.prog 64 #[.slice (some ⟨b, 0, none⟩) 1 c, .func (.func 65) #[] #[]] w fun e w' =>
    ∃ bm D, e = .returned (.map (some bm)) ∧ w'.ownsMap (H := Unit) Tryz.prog 9 (plainElem Tryz.prog 3) bm 1 D ∧ Sy.MapOk D [s] ∧ w.heap.size ≤ bm ∧ Below w.heap.size w w' := by
  have hmm := fun n w => run_makeMap_sized (P := Tryz.prog) 135 9 3 Tryz.underlying135 .i64 n w
  have hbl := World.block_lt_of_cell? w _ h0
  have hkey := WideMaps.keyOf_string_mk Tryz.underlying9 (s := s) (by unfold maxLen; omega)
  have H0 := Lib.hid h0
  clear h0
  go_enter Tryz.func64, Tryz.ntmps64
  go_wp2_with fail
  obtain ⟨W1, hW1⟩ : ∃ W1, w.alloc (.map #[] 0) = W1 := ⟨_, rfl⟩
  have HM := Lib.hid (show W1.ownsMap (H := Unit) Tryz.prog 9 (plainElem Tryz.prog 3) w.heap.size 0 (.map []) by rw [← hW1]; exact World.ownsMap_made w _ _ _)
  have K1 := Lib.hid (show Keep (fun x => x = w.heap.size) w W1 by rw [← hW1]; exact (Keep.refl _ w).alloc _)
  rw [hW1]
  clear hW1 hmm
  go_loopw [15] (fun v wr => ∃ (k : Nat) (D : DataW Unit), k ≤ 1 ∧ v = .int .i64 k ∧ wr.ownsMap (H := Unit) Tryz.prog 9 (plainElem Tryz.prog 3) w.heap.size k D ∧ Sy.MapOk D ([s].take k) ∧ Keep (fun x => x = w.heap.size) w wr) (fun v _ => 1 - (intOf v).toNat)
  case atStart => exact ⟨0, _, Nat.zero_le _, rfl, HM.out, mapOk_nil, K1.out⟩
  case round =>
    obtain ⟨k, D, hk, rfl, hown, hok, hkeep⟩ := hrel
    have HK := Lib.hid hkeep
    have HOK := Lib.hid hok
    clear hkeep hok HM K1
    by_cases hlt : k < 1
    · obtain rfl : k = 0 := by omega
      have y0 := (HK.out.cell (a := ⟨b, 0, none⟩) H0.out (fun e => by have h : b = w.heap.size := e; omega))
      obtain ⟨q1, q2⟩ := HOK.out.no s rfl
      have Q2 := Lib.hid q2
      have HP := Lib.hid (mapOk_put (s := s) HOK.out rfl)
      clear q2
      have HM0 := Lib.hid (fun w2 (hb : Below wr.heap.size wr w2) => And.intro ((Keep.of_below (F := fun _ => False) hb).map hown (fun x => x)) (HK.out.below hb))
      clear hown
      go_wp2_with (first
        | (go_at_call 65; refine (index1_name s _).mono ?_; rintro e w2 ⟨rfl, hb⟩
           have hb2 : Below wr.heap.size wr w2 := by first | exact hb | exact ((Below.refl _ wr).alloc (Nat.le_refl _) _).trans (hb.mono (by simp)) | exact HBc.out.trans (hb.mono HBc.out.size)
           have hown := (HM0.out _ hb2).1
           have HBc := Lib.hid hb2
           clear hb hb2)
        | (at_lookup; refine wpList_lookup_own_ok_int _ rfl _ _ 135 rfl 9 3 .i64 law9 Tryz.underlying135 Tryz.underlying3 (zero3 _) w.heap.size 0 D rfl hown _ _ rfl hkey ?_; intro c hat2 hwc; have hc := Lib.hid (i64_lit_inj (Q2.out.symm.trans hat2)); clear hat2 hwc)
        | (at_mapUpdate; refine wpList_mapUpdate_in _ rfl _ _ _ 135 rfl 9 3 law9 Tryz.underlying135 _ w.heap.size 0 D rfl hown (by decide) _ _ _ rfl rfl hkey (.lit (.int .i64 0)) [] (plainElem_int Tryz.underlying3 (by decide)) ?_; intro w4 hown2 hturn2))
      go_roundw
      case rel => exact ⟨1, _, Nat.le_refl _, by first | rfl | go_num, hown2, HP.out, ((HM0.out _ HBc.out).2).grown hturn2.grown (fun j hj _ => (Option.some.inj hj).symm)⟩
      case measure => simp [intOf]
    · obtain rfl : k = 1 := by omega
      go_wp2_with fail
      go_ret
      exact ⟨_, D, rfl, hown, HOK.out, Nat.le_refl _, HK.out.toBelow (Nat.le_refl _) (fun i hi => by omega)⟩
set_option maxRecDepth 100000 in
theorem index2_nil (w : World) : Calls Tryz.prog 66 #[.slice none 0 0, .func (.func 67) #[] #[]] w fun e w' => ∃ bm, e = .returned (.map (some bm)) ∧ w'.ownsMap (H := Unit) Tryz.prog 9 (plainElem Tryz.prog 3) bm 0 (.map []) ∧ w.heap.size ≤ bm ∧ Below w.heap.size w w' := by
  have hmm := fun n w => run_makeMap_sized (P := Tryz.prog) 135 9 3 Tryz.underlying135 .i64 n w
  go_enter Tryz.func66, Tryz.ntmps66
  go_wp2_with fail
  go_loop [15] (fun v => v = .int .i64 0) (fun _ => 0)
  case atStart => exact rfl
  case round =>
    subst hrel
    go_wp2_with fail
    go_ret
    exact ⟨w.heap.size, rfl, World.ownsMap_made w _ _ _, Nat.le_refl _, (Below.refl _ w).alloc (Nat.le_refl _) _⟩
theorem index2_name (s : ByteArray) (s1 : ByteArray) (w : World) : Calls Tryz.prog 67 #[.agg #[.string s, .string s1]] w fun e w' => e = .returned (.string s) ∧ Below w.heap.size w w' := by
  go_enter Tryz.func67, Tryz.ntmps67
  go_wp2_with fail
  go_ret
  first | exact ⟨rfl, Below.refl _ _⟩ | exact ⟨rfl, (Below.refl _ w).alloc (Nat.le_refl _) _⟩
set_option maxRecDepth 100000 in
theorem index2_one (b c : Nat) (s : ByteArray) (s1 : ByteArray) (w : World) (hs : s.size ≤ 1000) (h0 : w.cell? ⟨b, 0, none⟩ = some (.string s)) (hx1 : w.cell? ⟨b, 1, none⟩ = some (.string s1)) : Calls Tryz.prog 66 #[.slice (some ⟨b, 0, none⟩) 1 c, .func (.func 67) #[] #[]] w fun e w' =>
    ∃ bm D, e = .returned (.map (some bm)) ∧ w'.ownsMap (H := Unit) Tryz.prog 9 (plainElem Tryz.prog 3) bm 1 D ∧ Sy.MapOk D [s] ∧ w.heap.size ≤ bm ∧ Below w.heap.size w w' := by
  have hmm := fun n w => run_makeMap_sized (P := Tryz.prog) 135 9 3 Tryz.underlying135 .i64 n w
  have hbl := World.block_lt_of_cell? w _ h0
  have hkey := WideMaps.keyOf_string_mk Tryz.underlying9 (s := s) (by unfold maxLen; omega)
  have H0 := Lib.hid h0
  have HX1 := Lib.hid hx1
  clear h0 hx1
  go_enter Tryz.func66, Tryz.ntmps66
  go_wp2_with fail
  obtain ⟨W1, hW1⟩ : ∃ W1, w.alloc (.map #[] 0) = W1 := ⟨_, rfl⟩
  have HM := Lib.hid (show W1.ownsMap (H := Unit) Tryz.prog 9 (plainElem Tryz.prog 3) w.heap.size 0 (.map []) by rw [← hW1]; exact World.ownsMap_made w _ _ _)
  have K1 := Lib.hid (show Keep (fun x => x = w.heap.size) w W1 by rw [← hW1]; exact (Keep.refl _ w).alloc _)
  rw [hW1]
  clear hW1 hmm
  go_loopw [15] (fun v wr => ∃ (k : Nat) (D : DataW Unit), k ≤ 1 ∧ v = .int .i64 k ∧ wr.ownsMap (H := Unit) Tryz.prog 9 (plainElem Tryz.prog 3) w.heap.size k D ∧ Sy.MapOk D ([s].take k) ∧ Keep (fun x => x = w.heap.size) w wr) (fun v _ => 1 - (intOf v).toNat)
  case atStart => exact ⟨0, _, Nat.zero_le _, rfl, HM.out, mapOk_nil, K1.out⟩
  case round =>
    obtain ⟨k, D, hk, rfl, hown, hok, hkeep⟩ := hrel
    have HK := Lib.hid hkeep
    have HOK := Lib.hid hok
    clear hkeep hok HM K1
    by_cases hlt : k < 1
    · obtain rfl : k = 0 := by omega
      have y0 := (HK.out.cell (a := ⟨b, 0, none⟩) H0.out (fun e => by have h : b = w.heap.size := e; omega))
      have y1 := (HK.out.cell (a := ⟨b, 1, none⟩) HX1.out (fun e => by have h : b = w.heap.size := e; omega))
      obtain ⟨q1, q2⟩ := HOK.out.no s rfl
      have Q2 := Lib.hid q2
      have HP := Lib.hid (mapOk_put (s := s) HOK.out rfl)
      clear q2
      have HM0 := Lib.hid (fun w2 (hb : Below wr.heap.size wr w2) => And.intro ((Keep.of_below (F := fun _ => False) hb).map hown (fun x => x)) (HK.out.below hb))
      clear hown
      go_wp2_with (first
        | (go_at_call 67; refine (index2_name s s1 _).mono ?_; rintro e w2 ⟨rfl, hb⟩
           have hb2 : Below wr.heap.size wr w2 := by first | exact hb | exact ((Below.refl _ wr).alloc (Nat.le_refl _) _).trans (hb.mono (by simp)) | exact HBc.out.trans (hb.mono HBc.out.size)
           have hown := (HM0.out _ hb2).1
           have v0 : w2.cell? ⟨wr.heap.size, 0, none⟩ = some (.string s) := by first | exact (hb.cell (p := ⟨wr.heap.size, 0, none⟩) (by simp)).trans (blk_cell (heap_alloc_new wr _) 0 rfl) | exact (hb.cell (p := ⟨wr.heap.size, 0, none⟩) (World.block_lt_of_cell? _ _ v0)).trans v0
           have v1 : w2.cell? ⟨wr.heap.size, 1, none⟩ = some (.string s1) := by first | exact (hb.cell (p := ⟨wr.heap.size, 1, none⟩) (by simp)).trans (blk_cell (heap_alloc_new wr _) 1 rfl) | exact (hb.cell (p := ⟨wr.heap.size, 1, none⟩) (World.block_lt_of_cell? _ _ v1)).trans v1
           have HBc := Lib.hid hb2
           clear hb hb2)
        | (at_lookup; refine wpList_lookup_own_ok_int _ rfl _ _ 135 rfl 9 3 .i64 law9 Tryz.underlying135 Tryz.underlying3 (zero3 _) w.heap.size 0 D rfl hown _ _ rfl hkey ?_; intro c hat2 hwc; have hc := Lib.hid (i64_lit_inj (Q2.out.symm.trans hat2)); clear hat2 hwc)
        | (at_mapUpdate; refine wpList_mapUpdate_in _ rfl _ _ _ 135 rfl 9 3 law9 Tryz.underlying135 _ w.heap.size 0 D rfl hown (by decide) _ _ _ rfl rfl hkey (.lit (.int .i64 0)) [] (plainElem_int Tryz.underlying3 (by decide)) ?_; intro w4 hown2 hturn2))
      go_roundw
      case rel => exact ⟨1, _, Nat.le_refl _, by first | rfl | go_num, hown2, HP.out, ((HM0.out _ HBc.out).2).grown hturn2.grown (fun j hj _ => (Option.some.inj hj).symm)⟩
      case measure => simp [intOf]
    · obtain rfl : k = 1 := by omega
      go_wp2_with fail
      go_ret
      exact ⟨_, D, rfl, hown, HOK.out, Nat.le_refl _, HK.out.toBelow (Nat.le_refl _) (fun i hi => by omega)⟩
set_option maxRecDepth 100000 in
theorem index3_nil (w : World) : Calls Tryz.prog 68 #[.slice none 0 0, .func (.func 69) #[] #[]] w fun e w' => ∃ bm, e = .returned (.map (some bm)) ∧ w'.ownsMap (H := Unit) Tryz.prog 9 (plainElem Tryz.prog 3) bm 0 (.map []) ∧ w.heap.size ≤ bm ∧ Below w.heap.size w w' := by
  have hmm := fun n w => run_makeMap_sized (P := Tryz.prog) 135 9 3 Tryz.underlying135 .i64 n w
  go_enter Tryz.func68, Tryz.ntmps68
  go_wp2_with fail
  go_loop [15] (fun v => v = .int .i64 0) (fun _ => 0)
  case atStart => exact rfl
  case round =>
    subst hrel
    go_wp2_with fail
    go_ret
    exact ⟨w.heap.size, rfl, World.ownsMap_made w _ _ _, Nat.le_refl _, (Below.refl _ w).alloc (Nat.le_refl _) _⟩
theorem index3_name (s : ByteArray) (i1 : Int) (a2 : Option Addr) (n2 c2 : Nat) (a3 : Option Addr) (n3 c3 : Nat) (w : World) : Calls Tryz.prog 69 #[.agg #[.string s, .int .i64 i1, .slice a2 n2 c2, .slice a3 n3 c3]] w fun e w' => e = .returned (.string s) ∧ Below w.heap.size w w' := by
  go_enter Tryz.func69, Tryz.ntmps69
  go_wp2_with fail
  go_ret
  first | exact ⟨rfl, Below.refl _ _⟩ | exact ⟨rfl, (Below.refl _ w).alloc (Nat.le_refl _) _⟩
set_option maxRecDepth 100000 in
theorem index3_one (b c : Nat) (s : ByteArray) (i1 : Int) (a2 : Option Addr) (n2 c2 : Nat) (a3 : Option Addr) (n3 c3 : Nat) (w : World) (hs : s.size ≤ 1000) (h0 : w.cell? ⟨b, 0, none⟩ = some (.string s)) (hx1 : w.cell? ⟨b, 1, none⟩ = some (.int .i64 i1)) (hx2 : w.cell? ⟨b, 2, none⟩ = some (.slice a2 n2 c2)) (hx3 : w.cell? ⟨b, 3, none⟩ = some (.slice a3 n3 c3)) : Calls Tryz.prog 68 #[.slice (some ⟨b, 0, none⟩) 1 c, .func (.func 69) #[] #[]] w fun e w' =>
    ∃ bm D, e = .returned (.map (some bm)) ∧ w'.ownsMap (H := Unit) Tryz.prog 9 (plainElem Tryz.prog 3) bm 1 D ∧ Sy.MapOk D [s] ∧ w.heap.size ≤ bm ∧ Below w.heap.size w w' := by
  have hmm := fun n w => run_makeMap_sized (P := Tryz.prog) 135 9 3 Tryz.underlying135 .i64 n w
  have hbl := World.block_lt_of_cell? w _ h0
  have hkey := WideMaps.keyOf_string_mk Tryz.underlying9 (s := s) (by unfold maxLen; omega)
  have H0 := Lib.hid h0
  have HX1 := Lib.hid hx1
  have HX2 := Lib.hid hx2
  have HX3 := Lib.hid hx3
  clear h0 hx1 hx2 hx3
  go_enter Tryz.func68, Tryz.ntmps68
  go_wp2_with fail
  obtain ⟨W1, hW1⟩ : ∃ W1, w.alloc (.map #[] 0) = W1 := ⟨_, rfl⟩
  have HM := Lib.hid (show W1.ownsMap (H := Unit) Tryz.prog 9 (plainElem Tryz.prog 3) w.heap.size 0 (.map []) by rw [← hW1]; exact World.ownsMap_made w _ _ _)
  have K1 := Lib.hid (show Keep (fun x => x = w.heap.size) w W1 by rw [← hW1]; exact (Keep.refl _ w).alloc _)
  rw [hW1]
  clear hW1 hmm
  go_loopw [15] (fun v wr => ∃ (k : Nat) (D : DataW Unit), k ≤ 1 ∧ v = .int .i64 k ∧ wr.ownsMap (H := Unit) Tryz.prog 9 (plainElem Tryz.prog 3) w.heap.size k D ∧ Sy.MapOk D ([s].take k) ∧ Keep (fun x => x = w.heap.size) w wr) (fun v _ => 1 - (intOf v).toNat)
  case atStart => exact ⟨0, _, Nat.zero_le _, rfl, HM.out, mapOk_nil, K1.out⟩
  case round =>
    obtain ⟨k, D, hk, rfl, hown, hok, hkeep⟩ := hrel
    have HK := Lib.hid hkeep
    have HOK := Lib.hid hok
    clear hkeep hok HM K1
    by_cases hlt : k < 1
    · obtain rfl : k = 0 := by omega
      have y0 := (HK.out.cell (a := ⟨b, 0, none⟩) H0.out (fun e => by have h : b = w.heap.size := e; omega))
      have y1 := (HK.out.cell (a := ⟨b, 1, none⟩) HX1.out (fun e => by have h : b = w.heap.size := e; omega))
      have y2 := (HK.out.cell (a := ⟨b, 2, none⟩) HX2.out (fun e => by have h : b = w.heap.size := e; omega))
      have y3 := (HK.out.cell (a := ⟨b, 3, none⟩) HX3.out (fun e => by have h : b = w.heap.size := e; omega))
      obtain ⟨q1, q2⟩ := HOK.out.no s rfl
      have Q2 := Lib.hid q2
      have HP := Lib.hid (mapOk_put (s := s) HOK.out rfl)
      clear q2
      have HM0 := Lib.hid (fun w2 (hb : Below wr.heap.size wr w2) => And.intro ((Keep.of_below (F := fun _ => False) hb).map hown (fun x => x)) (HK.out.below hb))
      clear hown
      go_wp2_with (first
        | (go_at_call 69; refine (index3_name s i1 a2 n2 c2 a3 n3 c3 _).mono ?_; rintro e w2 ⟨rfl, hb⟩
           have hb2 : Below wr.heap.size wr w2 := by first | exact hb | exact ((Below.refl _ wr).alloc (Nat.le_refl _) _).trans (hb.mono (by simp)) | exact HBc.out.trans (hb.mono HBc.out.size)
           have hown := (HM0.out _ hb2).1
           have v0 : w2.cell? ⟨wr.heap.size, 0, none⟩ = some (.string s) := by first | exact (hb.cell (p := ⟨wr.heap.size, 0, none⟩) (by simp)).trans (blk_cell (heap_alloc_new wr _) 0 rfl) | exact (hb.cell (p := ⟨wr.heap.size, 0, none⟩) (World.block_lt_of_cell? _ _ v0)).trans v0
           have v1 : w2.cell? ⟨wr.heap.size, 1, none⟩ = some (.int .i64 i1) := by first | exact (hb.cell (p := ⟨wr.heap.size, 1, none⟩) (by simp)).trans (blk_cell (heap_alloc_new wr _) 1 rfl) | exact (hb.cell (p := ⟨wr.heap.size, 1, none⟩) (World.block_lt_of_cell? _ _ v1)).trans v1
           have v2 : w2.cell? ⟨wr.heap.size, 2, none⟩ = some (.slice a2 n2 c2) := by first | exact (hb.cell (p := ⟨wr.heap.size, 2, none⟩) (by simp)).trans (blk_cell (heap_alloc_new wr _) 2 rfl) | exact (hb.cell (p := ⟨wr.heap.size, 2, none⟩) (World.block_lt_of_cell? _ _ v2)).trans v2
           have v3 : w2.cell? ⟨wr.heap.size, 3, none⟩ = some (.slice a3 n3 c3) := by first | exact (hb.cell (p := ⟨wr.heap.size, 3, none⟩) (by simp)).trans (blk_cell (heap_alloc_new wr _) 3 rfl) | exact (hb.cell (p := ⟨wr.heap.size, 3, none⟩) (World.block_lt_of_cell? _ _ v3)).trans v3
           have HBc := Lib.hid hb2
           clear hb hb2)
        | (at_lookup; refine wpList_lookup_own_ok_int _ rfl _ _ 135 rfl 9 3 .i64 law9 Tryz.underlying135 Tryz.underlying3 (zero3 _) w.heap.size 0 D rfl hown _ _ rfl hkey ?_; intro c hat2 hwc; have hc := Lib.hid (i64_lit_inj (Q2.out.symm.trans hat2)); clear hat2 hwc)
        | (at_mapUpdate; refine wpList_mapUpdate_in _ rfl _ _ _ 135 rfl 9 3 law9 Tryz.underlying135 _ w.heap.size 0 D rfl hown (by decide) _ _ _ rfl rfl hkey (.lit (.int .i64 0)) [] (plainElem_int Tryz.underlying3 (by decide)) ?_; intro w4 hown2 hturn2))
      go_roundw
      case rel => exact ⟨1, _, Nat.le_refl _, by first | rfl | go_num, hown2, HP.out, ((HM0.out _ HBc.out).2).grown hturn2.grown (fun j hj _ => (Option.some.inj hj).symm)⟩
      case measure => simp [intOf]
    · obtain rfl : k = 1 := by omega
      go_wp2_with fail
      go_ret
      exact ⟨_, D, rfl, hown, HOK.out, Nat.le_refl _, HK.out.toBelow (Nat.le_refl _) (fun i hi => by omega)⟩
set_option maxRecDepth 100000 in
theorem index4_nil (w : World) : Calls Tryz.prog 70 #[.slice none 0 0, .func (.func 71) #[] #[]] w fun e w' => ∃ bm, e = .returned (.map (some bm)) ∧ w'.ownsMap (H := Unit) Tryz.prog 9 (plainElem Tryz.prog 3) bm 0 (.map []) ∧ w.heap.size ≤ bm ∧ Below w.heap.size w w' := by
  have hmm := fun n w => run_makeMap_sized (P := Tryz.prog) 135 9 3 Tryz.underlying135 .i64 n w
  go_enter Tryz.func70, Tryz.ntmps70
  go_wp2_with fail
  go_loop [15] (fun v => v = .int .i64 0) (fun _ => 0)
  case atStart => exact rfl
  case round =>
    subst hrel
    go_wp2_with fail
    go_ret
    exact ⟨w.heap.size, rfl, World.ownsMap_made w _ _ _, Nat.le_refl _, (Below.refl _ w).alloc (Nat.le_refl _) _⟩
set_option maxRecDepth 100000 in
theorem index5_nil (w : World) : Calls Tryz.prog 72 #[.slice none 0 0, .func (.func 73) #[] #[]] w fun e w' => ∃ bm, e = .returned (.map (some bm)) ∧ w'.ownsMap (H := Unit) Tryz.prog 9 (plainElem Tryz.prog 3) bm 0 (.map []) ∧ w.heap.size ≤ bm ∧ Below w.heap.size w w' := by
  have hmm := fun n w => run_makeMap_sized (P := Tryz.prog) 135 9 3 Tryz.underlying135 .i64 n w
  go_enter Tryz.func72, Tryz.ntmps72
  go_wp2_with fail
  go_loop [15] (fun v => v = .int .i64 0) (fun _ => 0)
  case atStart => exact rfl
  case round =>
    subst hrel
    go_wp2_with fail
    go_ret
    exact ⟨w.heap.size, rfl, World.ownsMap_made w _ _ _, Nat.le_refl _, (Below.refl _ w).alloc (Nat.le_refl _) _⟩
set_option maxRecDepth 100000 in
theorem index6_nil (w : World) : Calls Tryz.prog 74 #[.slice none 0 0, .func (.func 75) #[] #[]] w fun e w' => ∃ bm, e = .returned (.map (some bm)) ∧ w'.ownsMap (H := Unit) Tryz.prog 9 (plainElem Tryz.prog 3) bm 0 (.map []) ∧ w.heap.size ≤ bm ∧ Below w.heap.size w w' := by
  have hmm := fun n w => run_makeMap_sized (P := Tryz.prog) 135 9 3 Tryz.underlying135 .i64 n w
  go_enter Tryz.func74, Tryz.ntmps74
  go_wp2_with fail
  go_loop [15] (fun v => v = .int .i64 0) (fun _ => 0)
  case atStart => exact rfl
  case round =>
    subst hrel
    go_wp2_with fail
    go_ret
    exact ⟨w.heap.size, rfl, World.ownsMap_made w _ _ _, Nat.le_refl _, (Below.refl _ w).alloc (Nat.le_refl _) _⟩
theorem index6_name (s : ByteArray) (s1 : ByteArray) (a2 : Option Addr) (n2 c2 : Nat) (b3 : Bool) (i4 : Int) (w : World) : Calls Tryz.prog 75 #[.agg #[.string s, .string s1, .slice a2 n2 c2, .bool b3, .int .i64 i4]] w fun e w' => e = .returned (.string s) ∧ Below w.heap.size w w' := by
  go_enter Tryz.func75, Tryz.ntmps75
  go_wp2_with fail
  go_ret
  first | exact ⟨rfl, Below.refl _ _⟩ | exact ⟨rfl, (Below.refl _ w).alloc (Nat.le_refl _) _⟩
set_option maxRecDepth 100000 in
theorem index6_one (b c : Nat) (s : ByteArray) (s1 : ByteArray) (a2 : Option Addr) (n2 c2 : Nat) (b3 : Bool) (i4 : Int) (w : World) (hs : s.size ≤ 1000) (h0 : w.cell? ⟨b, 0, none⟩ = some (.string s)) (hx1 : w.cell? ⟨b, 1, none⟩ = some (.string s1)) (hx2 : w.cell? ⟨b, 2, none⟩ = some (.slice a2 n2 c2)) (hx3 : w.cell? ⟨b, 3, none⟩ = some (.bool b3)) (hx4 : w.cell? ⟨b, 4, none⟩ = some (.int .i64 i4)) : Calls Tryz.prog 74 #[.slice (some ⟨b, 0, none⟩) 1 c, .func (.func 75) #[] #[]] w fun e w' =>
    ∃ bm D, e = .returned (.map (some bm)) ∧ w'.ownsMap (H := Unit) Tryz.prog 9 (plainElem Tryz.prog 3) bm 1 D ∧ Sy.MapOk D [s] ∧ w.heap.size ≤ bm ∧ Below w.heap.size w w' := by
  have hmm := fun n w => run_makeMap_sized (P := Tryz.prog) 135 9 3 Tryz.underlying135 .i64 n w
  have hbl := World.block_lt_of_cell? w _ h0
  have hkey := WideMaps.keyOf_string_mk Tryz.underlying9 (s := s) (by unfold maxLen; omega)
  have H0 := Lib.hid h0
  have HX1 := Lib.hid hx1
  have HX2 := Lib.hid hx2
  have HX3 := Lib.hid hx3
  have HX4 := Lib.hid hx4
  clear h0 hx1 hx2 hx3 hx4
  go_enter Tryz.func74, Tryz.ntmps74
  go_wp2_with fail
  obtain ⟨W1, hW1⟩ : ∃ W1, w.alloc (.map #[] 0) = W1 := ⟨_, rfl⟩
  have HM := Lib.hid (show W1.ownsMap (H := Unit) Tryz.prog 9 (plainElem Tryz.prog 3) w.heap.size 0 (.map []) by rw [← hW1]; exact World.ownsMap_made w _ _ _)
  have K1 := Lib.hid (show Keep (fun x => x = w.heap.size) w W1 by rw [← hW1]; exact (Keep.refl _ w).alloc _)
  rw [hW1]
  clear hW1 hmm
  go_loopw [15] (fun v wr => ∃ (k : Nat) (D : DataW Unit), k ≤ 1 ∧ v = .int .i64 k ∧ wr.ownsMap (H := Unit) Tryz.prog 9 (plainElem Tryz.prog 3) w.heap.size k D ∧ Sy.MapOk D ([s].take k) ∧ Keep (fun x => x = w.heap.size) w wr) (fun v _ => 1 - (intOf v).toNat)
  case atStart => exact ⟨0, _, Nat.zero_le _, rfl, HM.out, mapOk_nil, K1.out⟩
  case round =>
    obtain ⟨k, D, hk, rfl, hown, hok, hkeep⟩ := hrel
    have HK := Lib.hid hkeep
    have HOK := Lib.hid hok
    clear hkeep hok HM K1
    by_cases hlt : k < 1
    · obtain rfl : k = 0 := by omega
      have y0 := (HK.out.cell (a := ⟨b, 0, none⟩) H0.out (fun e => by have h : b = w.heap.size := e; omega))
      have y1 := (HK.out.cell (a := ⟨b, 1, none⟩) HX1.out (fun e => by have h : b = w.heap.size := e; omega))
      have y2 := (HK.out.cell (a := ⟨b, 2, none⟩) HX2.out (fun e => by have h : b = w.heap.size := e; omega))
      have y3 := (HK.out.cell (a := ⟨b, 3, none⟩) HX3.out (fun e => by have h : b = w.heap.size := e; omega))
      have y4 := (HK.out.cell (a := ⟨b, 4, none⟩) HX4.out (fun e => by have h : b = w.heap.size := e; omega))
      obtain ⟨q1, q2⟩ := HOK.out.no s rfl
      have Q2 := Lib.hid q2
      have HP := Lib.hid (mapOk_put (s := s) HOK.out rfl)
      clear q2
      have HM0 := Lib.hid (fun w2 (hb : Below wr.heap.size wr w2) => And.intro ((Keep.of_below (F := fun _ => False) hb).map hown (fun x => x)) (HK.out.below hb))
      clear hown
      go_wp2_with (first
        | (go_at_call 75; refine (index6_name s s1 a2 n2 c2 b3 i4 _).mono ?_; rintro e w2 ⟨rfl, hb⟩
           have hb2 : Below wr.heap.size wr w2 := by first | exact hb | exact ((Below.refl _ wr).alloc (Nat.le_refl _) _).trans (hb.mono (by simp)) | exact HBc.out.trans (hb.mono HBc.out.size)
           have hown := (HM0.out _ hb2).1
           have v0 : w2.cell? ⟨wr.heap.size, 0, none⟩ = some (.string s) := by first | exact (hb.cell (p := ⟨wr.heap.size, 0, none⟩) (by simp)).trans (blk_cell (heap_alloc_new wr _) 0 rfl) | exact (hb.cell (p := ⟨wr.heap.size, 0, none⟩) (World.block_lt_of_cell? _ _ v0)).trans v0
           have v1 : w2.cell? ⟨wr.heap.size, 1, none⟩ = some (.string s1) := by first | exact (hb.cell (p := ⟨wr.heap.size, 1, none⟩) (by simp)).trans (blk_cell (heap_alloc_new wr _) 1 rfl) | exact (hb.cell (p := ⟨wr.heap.size, 1, none⟩) (World.block_lt_of_cell? _ _ v1)).trans v1
           have v2 : w2.cell? ⟨wr.heap.size, 2, none⟩ = some (.slice a2 n2 c2) := by first | exact (hb.cell (p := ⟨wr.heap.size, 2, none⟩) (by simp)).trans (blk_cell (heap_alloc_new wr _) 2 rfl) | exact (hb.cell (p := ⟨wr.heap.size, 2, none⟩) (World.block_lt_of_cell? _ _ v2)).trans v2
           have v3 : w2.cell? ⟨wr.heap.size, 3, none⟩ = some (.bool b3) := by first | exact (hb.cell (p := ⟨wr.heap.size, 3, none⟩) (by simp)).trans (blk_cell (heap_alloc_new wr _) 3 rfl) | exact (hb.cell (p := ⟨wr.heap.size, 3, none⟩) (World.block_lt_of_cell? _ _ v3)).trans v3
           have v4 : w2.cell? ⟨wr.heap.size, 4, none⟩ = some (.int .i64 i4) := by first | exact (hb.cell (p := ⟨wr.heap.size, 4, none⟩) (by simp)).trans (blk_cell (heap_alloc_new wr _) 4 rfl) | exact (hb.cell (p := ⟨wr.heap.size, 4, none⟩) (World.block_lt_of_cell? _ _ v4)).trans v4
           have HBc := Lib.hid hb2
           clear hb hb2)
        | (at_lookup; refine wpList_lookup_own_ok_int _ rfl _ _ 135 rfl 9 3 .i64 law9 Tryz.underlying135 Tryz.underlying3 (zero3 _) w.heap.size 0 D rfl hown _ _ rfl hkey ?_; intro c hat2 hwc; have hc := Lib.hid (i64_lit_inj (Q2.out.symm.trans hat2)); clear hat2 hwc)
        | (at_mapUpdate; refine wpList_mapUpdate_in _ rfl _ _ _ 135 rfl 9 3 law9 Tryz.underlying135 _ w.heap.size 0 D rfl hown (by decide) _ _ _ rfl rfl hkey (.lit (.int .i64 0)) [] (plainElem_int Tryz.underlying3 (by decide)) ?_; intro w4 hown2 hturn2))
      go_roundw
      case rel => exact ⟨1, _, Nat.le_refl _, by first | rfl | go_num, hown2, HP.out, ((HM0.out _ HBc.out).2).grown hturn2.grown (fun j hj _ => (Option.some.inj hj).symm)⟩
      case measure => simp [intOf]
    · obtain rfl : k = 1 := by omega
      go_wp2_with fail
      go_ret
      exact ⟨_, D, rfl, hown, HOK.out, Nat.le_refl _, HK.out.toBelow (Nat.le_refl _) (fun i hi => by omega)⟩
end Go.Proofs.YtpcmhlbhepickaaGreat
