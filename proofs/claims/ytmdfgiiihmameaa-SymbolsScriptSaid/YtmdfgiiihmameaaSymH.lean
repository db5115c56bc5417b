import Derived.Test.YtmdfgiiihmameaaSymG
namespace Go.Proofs.Ytmdfgiiihmameaa
open Go.Shelf Go.RowKit Go.Lib Go.Sort

theorem clone_ints (B : Nat) (sl : Value) (zs : List Int) (W : World) (h : W.ownsRow B 3 1 sl zs.length (zs.map (Value.int .i64))) (hl : zs.length ≤ 1000000) :
    Calls Try.prog 42 #[sl] W fun e w' => ∃ v, e = .returned v ∧ w'.ownsRow W.heap.size 3 1 v zs.length (zs.map (Value.int .i64)) ∧ Below W.heap.size W w' := by
  rcases h.2 with ⟨rfl, h0⟩ | ⟨g, cap, cur, rfl, _, hh, _⟩
  · have hz : zs = [] := List.eq_nil_of_length_eq_zero h0
    subst hz
    refine (Try.slices_Clone_int_nil 0 0 W).mono ?_
    rintro e w' ⟨he, rfl⟩
    exact ⟨_, he, World.ownsRow_nil _ _ _ _, Below.refl _ _⟩
  · have hc : ∀ j, j < zs.length → W.cell? ⟨g, 0 + j, none⟩ = some (.int .i64 (zs.getD j 0)) := by
      intro j hj
      have := h.cells (g := g) rfl j (.int .i64 (zs.getD j 0)) (by simp [List.getElem?_eq_getElem hj, List.getD_eq_getElem?_getD])
      rw [add_at] at this
      rwa [Nat.zero_add]
    refine (Try.slices_Clone_int g 0 zs.length cap zs W (Nat.le_refl _) (by omega) hc).mono ?_
    rintro e w' ⟨v, he, hr, -, hb⟩
    rw [List.take_length] at hr
    exact ⟨v, he, hr, hb⟩

theorem clone_strs (B : Nat) (sl : Value) (zs : List ByteArray) (W : World) (h : W.ownsRow B 9 1 sl zs.length (zs.map Value.string)) (hl : zs.length ≤ 1000000) :
    Calls Try.prog 43 #[sl] W fun e w' => ∃ v, e = .returned v ∧ w'.ownsRow W.heap.size 9 1 v zs.length (zs.map Value.string) ∧ Below W.heap.size W w' := by
  rcases h.2 with ⟨rfl, h0⟩ | ⟨g, cap, cur, rfl, _, hh, _⟩
  · have hz : zs = [] := List.eq_nil_of_length_eq_zero h0
    subst hz
    refine (Try.slices_Clone_string_nil 0 0 W).mono ?_
    rintro e w' ⟨he, rfl⟩
    exact ⟨_, he, World.ownsRow_nil _ _ _ _, Below.refl _ _⟩
  · have hc : ∀ j, j < zs.length → W.cell? ⟨g, 0 + j, none⟩ = some (.string (zs.getD j ByteArray.empty)) := by
      intro j hj
      have := h.cells (g := g) rfl j (.string (zs.getD j ByteArray.empty)) (by simp [List.getElem?_eq_getElem hj, List.getD_eq_getElem?_getD])
      rw [add_at] at this
      rwa [Nat.zero_add]
    refine (Try.slices_Clone_string g 0 zs.length cap zs W (Nat.le_refl _) (by omega) hc).mono ?_
    rintro e w' ⟨v, he, hr, -, hb⟩
    rw [List.take_length] at hr
    exact ⟨v, he, hr, hb⟩

section
variable {B : Nat} {p most : Nat} {ns : List ByteArray} {vn : Value} {bm bo : Nat} {od : Int} {sl : Value} {D : DataW Unit}

/-- 'Names' -/
theorem names_tab {w : World} (h : Tab B w p most ns vn bm bo od sl D) : Calls Try.prog 19 #[.pointer (some ⟨p, 0, none⟩)] w fun e w' =>
    ∃ v, e = .returned v ∧ w'.ownsRow w.heap.size 9 1 v ns.length (ns.map Value.string) ∧ Below w.heap.size w w' := by
  have c1 := h.c1
  have hm := h.most
  have hC := Lib.hid (clone_strs B vn ns w h.row (by omega))
  obtain ⟨A, c, rfl⟩ := row_slice h.row
  have hu := unmade_tab h
  clear h
  go_enter Try.func19, Try.ntmps19
  go_wp2_with (first | (go_at_call 36; refine hu.mono ?_; rintro e w' ⟨rfl, rfl⟩) | (go_at_call 43; refine hC.out.mono ?_; rintro e w' ⟨v, rfl, hr, hb⟩))
  go_ret
  exact ⟨_, rfl, hr, hb⟩

theorem order_ints (ns : List ByteArray) : ((Sy.order ns).map (fun (i : Nat) => Value.int .i64 i)) = ((Sy.order ns).map (fun (i : Nat) => (i : Int))).map (Value.int .i64) := by simp [Function.comp_def]

theorem clone_order (B : Nat) (sl : Value) (ns : List ByteArray) (W : World) (h : W.ownsRow B 3 1 sl ns.length ((Sy.order ns).map (fun (i : Nat) => Value.int .i64 i))) (hl : ns.length ≤ 1000000) :
    Calls Try.prog 42 #[sl] W fun e w' => ∃ v, e = .returned v ∧ w'.ownsRow W.heap.size 3 1 v ns.length ((Sy.order ns).map (fun (i : Nat) => Value.int .i64 i)) ∧ Below W.heap.size W w' := by
  have e : ((Sy.order ns).map (fun (i : Nat) => (i : Int))).length = ns.length := by simp [order_length]
  have := clone_ints B sl ((Sy.order ns).map (fun (i : Nat) => (i : Int))) W (by rw [e, ← order_ints]; exact h) (by rw [e]; exact hl)
  rwa [e, ← order_ints] at this

/-- 'Sorted', asked again -/
theorem sorted_again {w : World} (h : Tab B w p most ns vn bm bo 1 sl D) : Calls Try.prog 18 #[.pointer (some ⟨p, 0, none⟩)] w fun e w' =>
    ∃ v, e = .returned v ∧ w'.ownsRow (w.heap.size + 1) 3 1 v ns.length ((Sy.order ns).map (fun (i : Nat) => Value.int .i64 i)) ∧ Below w.heap.size w w' := by
  have hst : w.ownsRow B 3 1 sl ns.length ((Sy.order ns).map (fun (i : Nat) => Value.int .i64 i)) := by
    rcases h.st with ⟨h, _⟩ | ⟨_, h⟩
    · cases h
    · exact h
  have hm := h.most
  have ha : Below w.heap.size w (w.alloc (.cells #[.pointer (some ⟨p, 0, none⟩)] 22)) := (Below.refl _ w).alloc (Nat.le_refl _) _
  have T := h.below ha
  have c3 := T.c3
  have o3 : (w.alloc (.cells #[.pointer (some ⟨p, 0, none⟩)] 22)).cell? ⟨bo, 3, none⟩ = some sl := blk_cell T.oblk 3 rfl
  have hu := unmade_tab T
  have hd := fun fv => do_done bo 0 sl fv _ T.oblk
  have hst2 : (w.alloc (.cells #[.pointer (some ⟨p, 0, none⟩)] 22)).ownsRow B 3 1 sl ns.length ((Sy.order ns).map (fun (i : Nat) => Value.int .i64 i)) := hst.alloc _
  have hC := Lib.hid (clone_order B sl ns _ hst2 (by omega))
  obtain ⟨A, c, rfl⟩ := row_slice hst
  have hmf : ∀ (fn : Fn) (first cap : Array Value) (w : World), (Instr.makeFunc fn first cap).run Try.prog w = .ok (.func fn first cap) w := fun _ _ _ _ => rfl
  clear h T ha hst hst2
  go_enter Try.func18, Try.ntmps18
  go_wp2_with (first | (go_at_call 36; refine hu.mono ?_; rintro e w' ⟨rfl, rfl⟩) | (go_at_call 37; refine (hd _).mono ?_; rintro e w' ⟨rfl, rfl⟩) | (go_at_call 42; refine hC.out.mono ?_; rintro e w' ⟨v, rfl, hr, hb⟩))
  go_ret
  exact ⟨_, rfl, by simpa using hr, ((Below.refl _ w).alloc (Nat.le_refl _) _).trans (hb.mono (by simp))⟩

set_option maxHeartbeats 1000000 in
/-- 'Sorted', asked for the first time -/
theorem sorted_first {w : World} (h : Tab B w p most ns vn bm bo 0 sl D) : Calls Try.prog 18 #[.pointer (some ⟨p, 0, none⟩)] w fun e w' =>
    ∃ v sl', e = .returned v ∧ w'.ownsRow w.heap.size 3 1 v ns.length ((Sy.order ns).map (fun (i : Nat) => Value.int .i64 i)) ∧ Tab B w' p most ns vn bm bo 1 sl' D ∧ Keep (fun i => i = bo) w w' ∧
      (∀ k, sl'.ownBlock = some k → w.heap.size ≤ k) ∧ (∀ k, v.ownBlock = some k → sl'.ownBlock ≠ some k) := by
  have hm := h.most
  generalize hwa : w.alloc (.cells #[.pointer (some ⟨p, 0, none⟩)] 22) = wa
  have ha : Below w.heap.size w wa := by rw [← hwa]; exact (Below.refl _ w).alloc (Nat.le_refl _) _
  have hv : wa.heap[w.heap.size]? = some (.cells #[.pointer (some ⟨p, 0, none⟩)] 22 (0, 0)) := by rw [← hwa]; exact heap_alloc_new _ _
  have sa : wa.heap.size = w.heap.size + 1 := by rw [← hwa]; simp
  have T := h.below ha
  have vlt : ∀ i, Tab.foot p vn bm bo sl i → i < w.heap.size := fun i hi => (h.foot_lt hi).2
  have hpv : p ≠ w.heap.size := by have := vlt p (.inl rfl); omega
  have hbv : bo ≠ w.heap.size := by have := vlt bo (.inr (.inr (.inr (.inl rfl)))); omega
  have hpb : p ≠ bo := by
    rintro rfl
    have := T.blk.symm.trans T.oblk
    injection this with this
    exact cells_ne (by decide) this
  have kb : Keep (fun i => i = bo) wa (wa.setCell ⟨bo, 1, none⟩ (.int .i32 1)) := (Keep.refl (fun i => i = bo) wa).setCell (p := ⟨bo, 1, none⟩) (fun _ => rfl) _
  have hrb : (wa.setCell ⟨bo, 1, none⟩ (.int .i32 1)).ownsRow B 9 1 vn ns.length (ns.map Value.string) := kb.row T.row (fun k hk e => row_ne_blk T.row T.oblk (by decide) (by rw [hk, e]))
  have hob : (wa.setCell ⟨bo, 1, none⟩ (.int .i32 1)).heap[bo]? = some (ordB 0 1 sl) := heap_setCell_same T.oblk 1 _
  have hf := sorted1_calls ns h.nodup (by omega) B most vn w.heap.size p bm bo sl _ (kb.blk hv (Ne.symm hbv)) (kb.blk T.blk hpb) hrb hob
  have hdo := Lib.hid (do_first bo #[.pointer (some ⟨w.heap.size, 0, none⟩)] sl _ wa T.oblk hf)
  have hu := unmade_tab T
  have c3 := T.c3
  have v0 : wa.cell? ⟨w.heap.size, 0, none⟩ = some (.pointer (some ⟨p, 0, none⟩)) := blk_cell hv 0 rfl
  have HT := Lib.hid T
  have HH := Lib.hid h
  have HV := Lib.hid hv
  have HWA := Lib.hid ha
  have HSA := Lib.hid sa
  have hmf : ∀ (fn : Fn) (first cap : Array Value) (w : World), (Instr.makeFunc fn first cap).run Try.prog w = .ok (.func fn first cap) w := fun _ _ _ _ => rfl
  have HE := Lib.hid hwa
  clear h T hv ha hrb hob hf kb vlt sa hwa
  go_enter Try.func18, Try.ntmps18
  go_upto_region 1 with (fail)
  rw [HE.out]
  go_wp2_with (first | (go_at_call 36; refine hu.mono ?_; rintro e w' ⟨rfl, rfl⟩))
  refine hdo.out.mono ?_
  rintro e w2 ⟨rfl, w1, ⟨sl', g1, g2, g3⟩, -, g4⟩
  have k1 : Keep (fun i => i = bo) wa w1 := ((Keep.refl (fun i => i = bo) wa).setCell (p := ⟨bo, 1, none⟩) (fun _ => rfl) _).trans g3 (fun i _ e => e)
  have k2 : Keep (fun i => i = bo) wa w2 := by
    rw [g4]
    exact ((k1.drew).setCell (p := ⟨bo, 0, none⟩) (fun _ => rfl) _).setCell (p := ⟨bo, 1, none⟩) (fun _ => rfl) _
  have o2 : w2.heap[bo]? = some (ordB 1 0 sl') := by
    rw [g4]
    exact heap_setCell_same (heap_setCell_same (show w1.drew.heap[bo]? = _ from g1) 0 _) 1 _
  have k12 : Keep (fun i => i = bo) w1 w2 := by
    rw [g4]
    exact (((Keep.refl (fun i => i = bo) w1).drew).setCell (p := ⟨bo, 0, none⟩) (fun _ => rfl) _).setCell (p := ⟨bo, 1, none⟩) (fun _ => rfl) _
  have sb : (wa.setCell ⟨bo, 1, none⟩ (.int .i32 1)).heap.size = wa.heap.size := by simp [World.setCell]
  have r2 : w2.ownsRow (w.heap.size + 1) 3 1 sl' ns.length ((Sy.order ns).map (fun (i : Nat) => Value.int .i64 i)) := by
    have := k12.row g2 (fun k hk e => row_ne_blk g2 g1 (by decide) (by rw [hk, e]))
    rwa [sb, HSA.out] at this
  have T2 : Tab B w2 p most ns vn bm bo 1 sl' D := {
    blk := k2.blk HT.out.blk hpb
    hp := HT.out.hp
    row := k2.row HT.out.row (fun k hk e => row_ne_blk HT.out.row HT.out.oblk (by decide) (by rw [hk, e]))
    hbm := HT.out.hbm
    map := k2.map HT.out.map (map_ne_blk HT.out.map HT.out.oblk)
    ok := HT.out.ok
    oblk := o2
    hbo := HT.out.hbo
    st := .inr ⟨rfl, row_mono r2 (by have := HH.out.hp; have := blk_lt HH.out.blk; omega)⟩
    most := HT.out.most
    small := HT.out.small
    nodup := HT.out.nodup }
  have c3' := T2.c3
  have v2 : w2.cell? ⟨w.heap.size, 0, none⟩ = some (.pointer (some ⟨p, 0, none⟩)) := blk_cell (k2.blk HV.out (Ne.symm hbv)) 0 rfl
  have o3 : w2.cell? ⟨bo, 3, none⟩ = some sl' := blk_cell o2 3 rfl
  have hC := Lib.hid (clone_order (w.heap.size + 1) sl' ns w2 r2 (by omega))
  obtain ⟨A, c, rfl⟩ := row_slice r2
  have HR2 := Lib.hid r2
  have HT2 := Lib.hid T2
  have HK2 := Lib.hid k2
  have s2 : w.heap.size + 1 ≤ w2.heap.size := by have := k2.size; have := HSA.out; omega
  clear r2 T2 k2 k1 k12 o2 g1 g2 g3 g4 hu hdo c3 v0 hmf
  go_wp2_with (first | (go_at_call 42; refine hC.out.mono ?_; rintro e w' ⟨v, rfl, hr, hb⟩))
  go_ret
  refine ⟨_, _, rfl, row_mono hr (by omega), HT2.out.below hb, ?_, fun k hk => by have := row_ge HR2.out hk; omega, fun k hk e => by have := row_ge hr hk; have := row_lt HR2.out e; omega⟩
  exact ((Keep.of_below (F := fun i => i = bo) HWA.out).trans HK2.out (fun i _ e => e)).below hb

/-- 'Sorted' -/
theorem sorted_tab {w : World} (h : Tab B w p most ns vn bm bo od sl D) : Calls Try.prog 18 #[.pointer (some ⟨p, 0, none⟩)] w fun e w' =>
    ∃ v sl', e = .returned v ∧ w'.ownsRow w.heap.size 3 1 v ns.length ((Sy.order ns).map (fun (i : Nat) => Value.int .i64 i)) ∧ Tab B w' p most ns vn bm bo 1 sl' D ∧ Keep (fun i => i = bo) w w' ∧
      (∀ k, sl'.ownBlock = some k → sl.ownBlock = some k ∨ w.heap.size ≤ k) ∧ (∀ k, v.ownBlock = some k → sl'.ownBlock ≠ some k) := by
  rcases h.st with ⟨rfl, _⟩ | ⟨rfl, hr⟩
  · refine (sorted_first h).mono ?_
    rintro e w' ⟨v, sl', h1, h2, h3, h4, h5, h6⟩
    exact ⟨v, sl', h1, h2, h3, h4, fun k hk => .inr (h5 k hk), h6⟩
  · refine (sorted_again h).mono ?_
    rintro e w' ⟨v, h1, h2, h3⟩
    exact ⟨v, sl, h1, row_mono h2 (by omega), h.below h3, Keep.of_below h3, fun k hk => .inl hk, fun k hk e => by have := row_ge h2 hk; have := row_lt hr e; omega⟩
end
end Go.Proofs.Ytmdfgiiihmameaa
