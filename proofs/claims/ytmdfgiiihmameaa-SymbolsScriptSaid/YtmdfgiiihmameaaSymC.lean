import Derived.Test.YtmdfgiiihmameaaSymB
import Derived.StillTailTactics
import Derived.RegionTactic
import Derived.Deep.DeepCutAuto
import Derived.Deep.CutBlock
import Derived.Maps.AppendAt
namespace Go.Proofs.Ytmdfgiiihmameaa
open Go.Shelf Go.RowKit Go.Lib
section
variable {B : Nat} {p most : Nat} {ns : List ByteArray} {vn : Value} {bm bo : Nat} {od : Int} {sl : Value} {D : DataW Unit}

/-- what a map's look-up gives in the table -/
theorem Tab.look {W : World} (h : Tab B W p most ns vn bm bo od sl D) (s : ByteArray) : (Sy.at? ns s = none → Maps.has D (Sy.key s) = false) ∧ ∀ i, Sy.at? ns s = some i → Maps.has D (Sy.key s) = true :=
  ⟨fun e => (h.ok.no s e).1, fun i e => (h.ok.yes s i e).1⟩

theorem name_small {s : ByteArray} (h : Sy.nameB s = true) : s.size ≤ 32 := by
  unfold Sy.nameB at h
  simp at h
  exact h.1.2

theorem add_bad (s : ByteArray) (hs : Sy.nameB s = false) {w : World} (h : Tab B w p most ns vn bm bo od sl D) :
    Calls Try.prog 15 #[.pointer (some ⟨p, 0, none⟩), .string s] w fun e w' => e = .returned (.tuple #[.int .i64 0, .int .i64 71]) ∧ Below w.heap.size w w' := by
  have hu := unmade_tab h
  have hn := isName_calls s w
  rw [hs] at hn
  clear h hs
  go_enter Try.func15, Try.ntmps15
  go_wp2_with (first | (go_at_call 36; refine hu.mono ?_; rintro e w' ⟨rfl, rfl⟩) | (go_at_call 9; refine hn.mono ?_; rintro e w1 ⟨rfl, hb⟩))
  go_ret2
  exact ⟨rfl, hb⟩

theorem add_old (s : ByteArray) (hs : Sy.nameB s = true) (i : Nat) (hi : Sy.at? ns s = some i) {w : World} (h : Tab B w p most ns vn bm bo od sl D) :
    Calls Try.prog 15 #[.pointer (some ⟨p, 0, none⟩), .string s] w fun e w' => e = .returned (.tuple #[.int .i64 i, .int .i64 0]) ∧ Below w.heap.size w w' := by
  have hu := unmade_tab h
  have hn := isName_calls s w
  rw [hs] at hn
  have hkey := WideMaps.keyOf_string_mk Try.underlying9 (s := s) (by have := name_small hs; unfold maxLen; omega)
  obtain ⟨q1, q2⟩ := h.ok.yes s i hi
  have Q2 := Lib.hid q2
  have H := Lib.hid h
  clear h hs hi q2
  go_enter Try.func15, Try.ntmps15
  go_wp2_with (first | (go_at_call 36; refine hu.mono ?_; rintro e w' ⟨rfl, rfl⟩) | (go_at_call 9; refine hn.mono ?_; rintro e w1 ⟨rfl, hb⟩; have c2 := (H.out.below hb).c2; have hown := (H.out.below hb).map) | (at_lookup; refine wpList_lookup_own_ok_int _ rfl _ _ 56 rfl 9 3 .i64 law9 Try.underlying56 Try.underlying3 (zero3 _) bm ns.length D rfl hown _ _ rfl hkey ?_; intro c hat2 hwc; have hc := Lib.hid (i64_lit_inj (Q2.out.symm.trans hat2)); clear hat2 hwc))
  go_ret2
  first | exact ⟨rfl, hb⟩ | exact ⟨by rw [hc.out]; rfl, hb⟩

theorem add_full (s : ByteArray) (hs : Sy.nameB s = true) (hi : Sy.at? ns s = none) (hm : ns.length = most) {w : World} (h : Tab B w p most ns vn bm bo od sl D) :
    Calls Try.prog 15 #[.pointer (some ⟨p, 0, none⟩), .string s] w fun e w' => e = .returned (.tuple #[.int .i64 0, .int .i64 72]) ∧ Below w.heap.size w w' := by
  have hu := unmade_tab h
  have hn := isName_calls s w
  rw [hs] at hn
  have hkey := WideMaps.keyOf_string_mk Try.underlying9 (s := s) (by have := name_small hs; unfold maxLen; omega)
  obtain ⟨q1, q2⟩ := h.ok.no s hi
  have Q2 := Lib.hid q2
  obtain ⟨A, c0, rfl, hc1, hc2, -⟩ := row_cells h.row
  have hmm := h.most
  have d1 : ((ns.length : Int) == (most : Int)) = true := beq_iff_eq.2 (by omega)
  have d2 : (ns.length == most) = true := beq_iff_eq.2 (by omega)
  have H := Lib.hid h
  clear h hs hi q2 hm
  go_enter Try.func15, Try.ntmps15
  go_wp2_with (first | (go_at_call 36; refine hu.mono ?_; rintro e w' ⟨rfl, rfl⟩) | (go_at_call 9; refine hn.mono ?_; rintro e w1 ⟨rfl, hb⟩; have c0 := (H.out.below hb).c0; have c1 := (H.out.below hb).c1; have c2 := (H.out.below hb).c2; have hown := (H.out.below hb).map) | (at_lookup; refine wpList_lookup_own_ok_int _ rfl _ _ 56 rfl 9 3 .i64 law9 Try.underlying56 Try.underlying3 (zero3 _) bm ns.length D rfl hown _ _ rfl hkey ?_; intro c hat2 hwc; have hc := Lib.hid (i64_lit_inj (Q2.out.symm.trans hat2)); clear hat2 hwc))
  go_quiet (fail)
  go_wp2
  go_ret2
  exact ⟨rfl, below_drewN' hb _⟩

theorem key_inj {s t : ByteArray} (h : Sy.key s = Sy.key t) : s = t := by
  injection h with h
  cases s; cases t; simp at h; rw [h]
theorem beq_bytes (s t : ByteArray) : (s == t) = decide (s = t) := by
  cases s with | _ a => cases t with | _ b =>
  show (a == b) = _
  by_cases h : a = b
  · subst h; simp
  · rw [beq_eq_false_iff_ne.2 h]; symm; exact decide_eq_false (fun e => h (by injection e))
theorem at_append (ns : List ByteArray) (s t : ByteArray) : Sy.at? (ns ++ [s]) t = match Sy.at? ns t with | some i => some i | none => if t = s then some ns.length else none := by
  unfold Sy.at? List.idxOf?
  rw [List.findIdx?_append]
  cases h : List.findIdx? (fun x => x == t) ns with
  | some i => simp
  | none =>
    simp only [Option.none_or, List.findIdx?_cons, List.findIdx?_nil]
    by_cases e : t = s
    · subst e; simp [beq_bytes]
    · have : (s == t) = false := by rw [beq_bytes]; exact decide_eq_false (fun h => e h.symm)
      simp [this, e]
theorem mapOk_put {ns : List ByteArray} {D : DataW Unit} {s : ByteArray} (h : Sy.MapOk D ns) (hs : Sy.at? ns s = none) : Sy.MapOk (D.put (Sy.key s) (.lit (.int .i64 ns.length))) (ns ++ [s]) := by
  refine ⟨h.isMap.put _ _, fun t i ht => ?_, fun t ht => ?_⟩
  · rw [at_append] at ht
    by_cases e : t = s
    · subst e
      rw [hs] at ht
      simp at ht
      subst ht
      exact ⟨Maps.has_put_same h.isMap (by trivial) _, Maps.atKey_put_same h.isMap (by trivial) _ _⟩
    · have hk : Sy.key t ≠ Sy.key s := fun x => e (key_inj x)
      rw [Maps.has_put_other hk, Maps.atKey_put_other hk]
      cases ht2 : Sy.at? ns t with
      | none => rw [ht2] at ht; simp [e] at ht
      | some j =>
        rw [ht2] at ht
        simp at ht
        subst ht
        exact h.yes t j ht2
  · rw [at_append] at ht
    have e : t ≠ s := by
      rintro rfl
      rw [hs] at ht; simp at ht
    have hk : Sy.key t ≠ Sy.key s := fun x => e (key_inj x)
    rw [Maps.has_put_other hk, Maps.atKey_put_other hk]
    cases ht2 : Sy.at? ns t with
    | none => exact h.no t ht2
    | some j => rw [ht2] at ht; simp at ht
theorem at_none {ns : List ByteArray} {s : ByteArray} (h : Sy.at? ns s = none) : s ∉ ns := by
  intro hm
  unfold Sy.at? List.idxOf? at h
  rw [List.findIdx?_eq_none_iff] at h
  have := h s hm
  rw [beq_bytes] at this
  simp at this
theorem nodup_snoc {ns : List ByteArray} {s : ByteArray} (h : ns.Nodup) (hs : Sy.at? ns s = none) : (ns ++ [s]).Nodup := by
  rw [List.nodup_append]
  exact ⟨h, by simp, fun a ha b hb => by obtain rfl : b = s := by simpa using hb
                                         exact fun e => at_none hs (e ▸ ha)⟩
theorem info9 : (Try.prog.info? 9).map (fun i => (i.zero, i.size, i.bytes)) = some (some (.string ⟨#[]⟩), 1, 16) := by kernel_rfl

set_option maxRecDepth 100000 in
set_option maxHeartbeats 1000000 in
theorem add_new (s : ByteArray) (hs : Sy.nameB s = true) (hi : Sy.at? ns s = none) (hm : ns.length < most) {w : World} (h : Tab B w p most ns vn bm bo od sl D) :
    Calls Try.prog 15 #[.pointer (some ⟨p, 0, none⟩), .string s] w fun e w' => e = .returned (.tuple #[.int .i64 ns.length, .int .i64 0]) ∧
      ∃ vn' bo' D', Tab B w' p most (ns ++ [s]) vn' bm bo' 0 (.slice none 0 0) D' ∧ Keep (Tab.foot p vn bm bo sl) w w' ∧ (∀ i, Tab.foot p vn' bm bo' (.slice none 0 0) i → Tab.foot p vn bm bo sl i ∨ w.heap.size ≤ i) := by
  have hu := unmade_tab h
  have hn := isName_calls s w
  rw [hs] at hn
  have hkey := WideMaps.keyOf_string_mk Try.underlying9 (s := s) (by have := name_small hs; unfold maxLen; omega)
  obtain ⟨q1, q2⟩ := h.ok.no s hi
  have Q2 := Lib.hid q2
  obtain ⟨A, c0, rfl, hc1, hc2, -⟩ := row_cells h.row
  have hmm := h.most
  have d1 : ((ns.length : Int) == (most : Int)) = false := beq_eq_false_iff_ne.2 (by omega)
  have d2 : (ns.length == most) = false := beq_eq_false_iff_ne.2 (by omega)
  obtain ⟨i0, hinfo, hz0, hz1, hz2⟩ := info_parts info9
  have H := Lib.hid h
  have HI := Lib.hid hi
  have HS := Lib.hid hs
  clear h hs hi q2
  go_enter Try.func15, Try.ntmps15
  go_wp2_with (first | (go_at_call 36; refine hu.mono ?_; rintro e w' ⟨rfl, rfl⟩) | (go_at_call 9; refine hn.mono ?_; rintro e w1 ⟨rfl, hb⟩; have c0 := (H.out.below hb).c0; have c1 := (H.out.below hb).c1; have c2 := (H.out.below hb).c2; have hown := (H.out.below hb).map) | (at_lookup; refine wpList_lookup_own_ok_int _ rfl _ _ 56 rfl 9 3 .i64 law9 Try.underlying56 Try.underlying3 (zero3 _) bm ns.length D rfl hown _ _ rfl hkey ?_; intro c hat2 hwc; have hc := Lib.hid (i64_lit_inj (Q2.out.symm.trans hat2)); clear hat2 hwc))
  go_quiet (fail)
  go_wp2
  refine still_tail 10 (by kernel_rfl) (by kernel_rfl) ?_
  simp only [List.take_succ_cons, List.take_zero, List.drop_succ_cons, List.drop_zero]
  repeat still_step
  refine wpStill_nil ?_
  generalize hW : (w1.drewN nq).drew = W
  have hbW : Below w.heap.size w W := by rw [← hW]; exact (below_drewN' hb nq).drew
  have T := Lib.hid (H.out.below hbW)
  clear hW hb c0 c1 c2 hown hc
  go_wp2_with (first | (at_mapUpdate; refine wpList_mapUpdate_in _ rfl _ _ _ 56 rfl 9 3 law9 Try.underlying56 _ bm ns.length D rfl T.out.map (by unfold maxLen; omega) _ _ _ rfl rfl hkey (.lit (.int .i64 ns.length)) [] (plainElem_int Try.underlying3 (wf_nat _ (by omega))) ?_; intro w2 hown2 hturn2; have k2 := Lib.hid ((Keep.refl (fun i => i = bm) W).grown hturn2.grown (fun k e _ => (Option.some.inj e).symm)); have b2 := Lib.hid (k2.out.blk T.out.blk (map_ne_blk T.out.map T.out.blk).symm); have c1 : w2.cell? ⟨p, 1, none⟩ = some (.slice A ns.length c0) := blk_cell b2.out 1 rfl; have f1 := blk_free b2.out 1; have r2 := Lib.hid (k2.out.row T.out.row (fun k e hk => row_ne_map T.out.row T.out.map (by rw [e, hk])))) | (at_builtin; refine wpList_append_own_at _ rfl _ _ 33 rfl B 9 i0 (.string ⟨#[]⟩) 1 16 Try.underlying33 hinfo hz0 hz1 hz2 rfl (by decide) _ _ _ rfl (r2.out.alloc _) ⟨w2.heap.size, 0, none⟩ 1 1 [.string s] rfl rfl ?c1 ?c2 ?c3 ?c4 ?c5 ?_))
  case c1 => exact single_cells w2 _ _
  case c2 => intro u hu; obtain rfl : u = .string s := by simpa using hu
             rfl
  case c3 => unfold maxLen; omega
  case c4 => omega
  case c5 => simp; have := k2.out.size; have := blk_lt T.out.blk; have := T.out.hp; omega
  intro v3 w3 hown3 hgrow3 _ hat3
  have HAT := Lib.hid hat3
  clear hat3
  obtain ⟨A3, c3, rfl⟩ := row_slice hown3
  have s3 : w2.heap.size < w3.heap.size := by have := hgrow3.size; simp at this; omega
  have b3 := Lib.hid ((hgrow3.block p (by simp; have := blk_lt b2.out; omega) (Ne.symm (row_ne_blk r2.out b2.out (by decide)))).trans ((Below.heap_alloc _ _ _ (blk_lt b2.out)).trans b2.out))
  have c1 : w3.cell? ⟨p, 1, none⟩ = some (.slice A ns.length c0) := blk_cell b3.out 1 rfl
  have c3' : w3.cell? ⟨p, 3, none⟩ = some (.pointer (some ⟨bo, 0, none⟩)) := blk_cell b3.out 3 rfl
  have f1 := blk_free b3.out 1
  have f3 := blk_free b3.out 3
  clear hu hn hturn2 q1
  go_upto_region 12 with (fail)
  generalize hW4 : w3.setCell ⟨p, 1, none⟩ (Value.slice A3 (ns.length + 1) c3) = w4
  have b4 := Lib.hid (show w4.heap[p]? = some (Obj.cells #[.int .i64 most, .slice A3 (ns.length + 1) c3, .map (some bm), .pointer (some ⟨bo, 0, none⟩)] 59) by rw [← hW4]; exact heap_setCell_same b3.out 1 _)
  have e5 : ∀ o, (w4.alloc o).cell? ⟨p, 3, none⟩ = some (.pointer (some ⟨bo, 0, none⟩)) := fun o => blk_cell ((Below.heap_alloc _ _ _ (blk_lt b4.out)).trans b4.out) 3 rfl
  have f5 : ∀ o, (w4.alloc o).frozen? ⟨p, 3, none⟩ = false := fun o => blk_free ((Below.heap_alloc _ _ _ (blk_lt b4.out)).trans b4.out) 3
  have HW4 := Lib.hid hW4
  clear hW4 c1 c3' f1 f3
  go_upto_region 13 with (fail)
  generalize hW6 : World.setCell _ _ _ = w6
  have b6 := Lib.hid (show w6.heap[p]? = some (Obj.cells #[.int .i64 most, .slice A3 (ns.length + 1) c3, .map (some bm), .pointer (some ⟨w4.heap.size, 0, none⟩)] 59) by rw [← hW6]; exact heap_setCell_same ((Below.heap_alloc _ _ _ (blk_lt b4.out)).trans b4.out) 3 _)
  have c1 : w6.cell? ⟨p, 1, none⟩ = some (.slice A3 (ns.length + 1) c3) := blk_cell b6.out 1 rfl
  have HW6 := Lib.hid hW6
  clear hW6 e5 f5
  go_wp2
  go_ret2
  have T0 := T.out
  have K36 : Keep (fun i => i = p) w3 w6 := by
    rw [← HW6.out, ← HW4.out]
    exact ((((Keep.refl (fun i => i = p) w3).setCell (p := ⟨p, 1, none⟩) (fun _ => rfl) _).alloc _).setCell (p := ⟨p, 3, none⟩) (fun _ => rfl) _)
  have nrp : ∀ k, (Value.slice A3 (ns.length + 1) c3).ownBlock = some k → ¬ k = p := fun k hk e => row_ne_blk hown3 b3.out (by decide) (by rw [hk, e])
  have mp : bm ≠ p := map_ne_blk hown2 b2.out
  have m3 : w3.ownsMap (H := Unit) Try.prog 9 (plainElem Try.prog 3) bm (ns.length + 1) _ := (hown2.alloc _).kept hgrow3 (Ne.symm (row_ne_map r2.out hown2))
  have s34 : w4.heap.size = w3.heap.size := by rw [← HW4.out]; simp [World.setCell]
  have p3 : p < w3.heap.size := blk_lt b3.out
  have o6 : w6.heap[w4.heap.size]? = some (Obj.cells #[.int .u32 0, .int .i32 0, .int .u32 0, .slice none 0 0] 74) := by
    rw [← HW6.out]
    exact (Below.heap_setCell _ _ _ _ (by simp; omega)).trans (heap_alloc_new _ _)
  refine ⟨by first | rfl | (congr 3; omega) | simp, .slice A3 (ns.length + 1) c3, w4.heap.size, D.put (Sy.key s) (.lit (.int .i64 ns.length)), ?_, ?_, ?_⟩
  · exact {
      blk := b6.out
      hp := T0.hp
      row := by
        have := K36.row hown3 nrp
        simpa using this
      hbm := T0.hbm
      map := by
        have := K36.map m3 mp
        rw [List.length_append]
        exact this
      ok := mapOk_put T0.ok HI.out
      oblk := o6
      hbo := by have := T0.hp; omega
      st := .inl ⟨rfl, rfl⟩
      most := by rw [List.length_append]; simp; omega
      small := by
        intro x hx
        rcases List.mem_append.1 hx with hx | hx
        · exact T0.small x hx
        · obtain rfl : x = s := by simpa using hx
          exact name_small HS.out
      nodup := nodup_snoc T0.nodup HI.out }
  · have k1 : Keep (Tab.foot p (Value.slice A ns.length c0) bm bo sl) w W := Keep.of_below hbW
    have k3 : Keep (Tab.foot p (Value.slice A ns.length c0) bm bo sl) w w2 := k1.trans k2.out (fun i _ e => .inr (.inr (.inl e)))
    have k4 : Keep (Tab.foot p (Value.slice A ns.length c0) bm bo sl) w w3 := (k3.alloc _).grown hgrow3 (fun k hk _ => .inr (.inl hk))
    exact k4.trans K36 (fun i _ e => .inl e)
  · have sz : w.heap.size ≤ w3.heap.size := by have := hbW.size; have := k2.out.size; omega
    rintro i (rfl | hi | rfl | rfl | hi)
    · exact .inl (.inl rfl)
    · by_cases hlt : i < w2.heap.size
      · rcases HAT.out with e | e
        · exact .inl (.inr (.inl (e ▸ hi)))
        · rw [e] at hi
          have := Option.some.inj hi
          omega
      · right; have := hbW.size; have := k2.out.size; omega
    · exact .inl (.inr (.inr (.inl rfl)))
    · exact .inr (by omega)
    · simp [Value.ownBlock] at hi
end
end Go.Proofs.Ytmdfgiiihmameaa
