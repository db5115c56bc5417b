import Derived.Test.YtmdfgiiihmameaaSymP
import Derived.Test.YtmdfgiiihmameaaSymM
namespace Go.Proofs.Ytmdfgiiihmameaa
open Go.Shelf Go.RowKit Go.Lib Go.Sort
set_option linter.unusedVariables false
set_option linter.unusedSimpArgs false

/-- The reference's table. -/
structure RTab (B : Nat) (W : World) (m most : Nat) (ns : List ByteArray) (v : Value) : Prop where
  blk : W.heap[m]? = some (.cells #[.int .i64 most, v] 51 (0, 0))
  hm : B ≤ m
  row : W.ownsRow B 9 1 v ns.length (ns.map Value.string)
  most : ns.length ≤ most ∧ most ≤ 4096
  small : ∀ s ∈ ns, s.size ≤ 32
  nodup : ns.Nodup
def RTab.foot (m : Nat) (v : Value) (i : Nat) : Prop := i = m ∨ v.ownBlock = some i
theorem RTab.keep {B : Nat} {W W1 : World} {m most : Nat} {ns : List ByteArray} {v : Value} {F : Nat → Prop} (h : RTab B W m most ns v) (k : Keep F W W1) (hn : ∀ i, RTab.foot m v i → ¬ F i) : RTab B W1 m most ns v where
  blk := k.blk h.blk (hn _ (.inl rfl))
  hm := h.hm
  row := k.row h.row (fun i hi => hn i (.inr hi))
  most := h.most
  small := h.small
  nodup := h.nodup
theorem RTab.foot_lt {B : Nat} {W : World} {m most : Nat} {ns : List ByteArray} {v : Value} (h : RTab B W m most ns v) {i : Nat} (hi : RTab.foot m v i) : B ≤ i ∧ i < W.heap.size := by
  rcases hi with rfl | hi
  · exact ⟨h.hm, blk_lt h.blk⟩
  · exact ⟨row_ge h.row hi, row_lt h.row hi⟩

section
variable {B m most : Nat} {ns : List ByteArray} {v : Value}
theorem idx_step (ns : List ByteArray) (s : ByteArray) (k : Nat) (hk : ns[k]? = some s) (hno : ∀ j, j < k → ns[j]? ≠ some s) : Sy.at? ns s = some k := by
  unfold Sy.at? List.idxOf?
  rw [List.findIdx?_eq_some_iff_getElem]
  have h1 : k < ns.length := (List.getElem?_eq_some_iff.1 hk).1
  refine ⟨h1, ?_, fun j hj => ?_⟩
  · rw [List.getElem?_eq_getElem h1] at hk
    rw [beq_bytes]; simpa using Option.some.inj hk
  · have := hno j hj
    rw [List.getElem?_eq_getElem (by omega)] at this
    rw [beq_bytes]
    simpa using fun e => this (by rw [e])
theorem idx_none (ns : List ByteArray) (s : ByteArray) (hno : ∀ j, j < ns.length → ns[j]? ≠ some s) : Sy.at? ns s = none := by
  cases h : Sy.at? ns s with
  | none => rfl
  | some i =>
    have := idx_get h
    exact absurd this (hno i (List.getElem?_eq_some_iff.1 this).1)
theorem str_ne {x s : ByteArray} (h : ¬ x = s) : (x.toList == s.toList) = false := by
  have t0 : ¬ x.toList = s.toList := fun e => h (by rw [Lib.toList_data, Lib.toList_data] at e; exact key_inj (by unfold Sy.key; rw [e]))
  simpa using t0

set_option maxHeartbeats 1000000 in
theorem rfind_tab (s : ByteArray) {w : World} (h : RTab B w m most ns v) :
    Calls Try.prog 45 #[.pointer (some ⟨m, 0, none⟩), .string s] w fun e w' => e = .returned (findV ns s) ∧ w = w' := by
  have c1 := blk_cell h.blk 1 (v := v) rfl
  obtain ⟨A, c, rfl, hc1, hc2, hcs⟩ := row_cells h.row
  have hm := h.most
  have HC := Lib.hid hcs
  clear h hcs
  go_enter Try.func45, Try.ntmps45
  go_wp2
  go_loopw [6] (fun v wr => ∃ k : Nat, k ≤ ns.length ∧ v = .int .i64 k ∧ (∀ j, j < k → ns[j]? ≠ some s) ∧ wr = w) (fun v _ => ns.length - (intOf v).toNat)
  case atStart => exact ⟨0, Nat.zero_le _, rfl, fun j h => absurd h (Nat.not_lt_zero j), rfl⟩
  case round =>
    obtain ⟨k, hk, rfl, hno, rfl⟩ := hrel
    have HN := Lib.hid hno
    clear hno
    by_cases hlt : k < ns.length
    · have t1 : (k : Int) < ns.length := by omega
      have t2 : (0 : Int) ≤ k := by omega
      obtain ⟨g, rfl, hcell⟩ := HC.out (by omega)
      obtain ⟨x, hx⟩ : ∃ x, ns[k]? = some x := ⟨_, List.getElem?_eq_getElem hlt⟩
      have hcell2 := hcell k (.string x) (by simp [hx])
      have HX := Lib.hid hx
      clear hcell hx
      by_cases hxs : x = s
      · subst hxs
        have t3 : (x.toList == x.toList) = true := by simp
        go_wp2
        go_ret2
        exact ⟨by unfold findV; rw [idx_step ns x k HX.out HN.out]; rfl, rfl⟩
      · have t3 := str_ne hxs
        have HXS := Lib.hid hxs
        clear hxs
        go_wp2
        go_roundw
        case rel =>
          refine ⟨k + 1, by omega, by go_num, fun j hj => ?_, trivial⟩
          by_cases e : j = k
          · subst e; rw [HX.out]; exact fun e => HXS.out (Option.some.inj e)
          · exact HN.out j (by omega)
        case measure => simp [intOf]; omega
    · go_wp2
      go_ret2
      exact ⟨by unfold findV; rw [idx_none ns s (fun j hj => HN.out j (by omega))]; rfl, rfl⟩

theorem rname_tab (n : Int) {w : World} (h : RTab B w m most ns v) :
    Calls Try.prog 46 #[.pointer (some ⟨m, 0, none⟩), .int .i64 n] w fun e w' => e = .returned (nameV ns n) ∧ ∃ q, w' = w.drewN q := by
  have c1 := blk_cell h.blk 1 (v := v) rfl
  obtain ⟨A, c, rfl, hc1, hc2, hcs⟩ := row_cells h.row
  have hm := h.most
  clear h
  unfold nameV
  by_cases hn : n < 0
  · have d : decide (n < 0) = true := decide_eq_true hn
    rw [if_pos hn]
    clear hcs
    go_enter Try.func46, Try.ntmps46
    go_wp2
    try go_quiet (fail)
    try go_wp2
    go_ret2
    exact ⟨rfl, 0, rfl⟩
  · rw [if_neg hn]
    obtain ⟨k, rfl⟩ := Int.eq_ofNat_of_zero_le (show 0 ≤ n by omega)
    have d : decide ((k : Int) < 0) = false := decide_eq_false (by omega)
    by_cases hk : k < ns.length
    · have d2 : decide ((ns.length : Int) ≤ (k : Int)) = false := decide_eq_false (by omega)
      have d3 : decide (ns.length ≤ k) = false := decide_eq_false (by omega)
      obtain ⟨g, rfl, hcell⟩ := hcs (by omega)
      have e1 : ns[k]? = some ns[k] := List.getElem?_eq_getElem hk
      have hcell2 := hcell k (.string ns[k]) (by simp [hk])
      clear hcell hcs
      have e2 : ns[((k : Int)).toNat]? = some ns[k] := e1
      rw [e2]
      have hk1 : (k : Int) < ns.length := by omega
      have hk2 : (0 : Int) ≤ k := by omega
      obtain ⟨x, hx⟩ : ∃ x, x = ns[k] := ⟨_, rfl⟩
      rw [← hx] at hcell2 ⊢
      clear e1 e2 hx hn
      go_enter Try.func46, Try.ntmps46
      go_wp2
      try go_quiet (fail)
      try go_wp2
      go_ret2
      first | exact ⟨rfl, 0, rfl⟩ | exact ⟨rfl, _, rfl⟩
    · have d2 : decide ((ns.length : Int) ≤ (k : Int)) = true := decide_eq_true (by omega)
      have d3 : decide (ns.length ≤ k) = true := decide_eq_true (by omega)
      have e1 : ns[((k : Int)).toNat]? = none := List.getElem?_eq_none (by simp; omega)
      rw [e1]
      clear hcs hn
      go_enter Try.func46, Try.ntmps46
      go_wp2
      try go_quiet (fail)
      try go_wp2
      go_ret2
      first | exact ⟨rfl, 0, rfl⟩ | exact ⟨rfl, _, rfl⟩

set_option maxHeartbeats 1000000 in
set_option maxRecDepth 100000 in
theorem radd_tab (s : ByteArray) (hs : s.size ≤ maxLen) {w : World} (h : RTab B w m most ns v) (hB : B ≤ w.heap.size) :
    Calls Try.prog 44 #[.pointer (some ⟨m, 0, none⟩), .string s] w fun e w' => e = .returned (.tuple #[.int .i64 (Sy.add most ns s).1, .int .i64 (Sy.add most ns s).2.1]) ∧
      ∃ v', RTab B w' m most (Sy.add most ns s).2.2 v' ∧ Keep (RTab.foot m v) w w' ∧ (∀ i, RTab.foot m v' i → RTab.foot m v i ∨ w.heap.size ≤ i) := by
  have hs' : s.size ≤ 9223372036854775807 := by unfold maxLen at hs; omega
  have hN := rIsName_calls s w hs'
  rw [← Sy.nameB_ref] at hN
  have hF := rfind_tab s h
  have hm := h.most
  have h0 := h
  have c0 := blk_cell h.blk 0 (v := .int .i64 most) rfl
  have c1 := blk_cell h.blk 1 (v := v) rfl
  have f1 := blk_free h.blk 1
  unfold Sy.add
  unfold findV at hF
  cases hnm : Sy.nameB s with
  | false =>
    rw [hnm] at hN
    have HN := Lib.hid hN
    have H := Lib.hid h
    simp only [Bool.false_eq_true, if_false]
    clear hN h h0 hF hnm
    go_enter Try.func44, Try.ntmps44
    go_wp2_with (first | (go_at_call 10; refine HN.out.mono ?_; rintro e w' ⟨rfl, rfl⟩))
    go_ret2
    exact ⟨rfl, v, H.out, Keep.refl _ _, fun i hi => .inl hi⟩
  | true =>
    rw [hnm] at hN
    simp only [if_true]
    cases hi : Sy.at? ns s with
    | some i =>
      rw [hi] at hF
      have HN := Lib.hid hN
      have HF := Lib.hid hF
      have H := Lib.hid h
      simp only []
      clear hN h h0 hF hnm hi
      go_enter Try.func44, Try.ntmps44
      go_wp2_with (first | (go_at_call 10; refine HN.out.mono ?_; rintro e w' ⟨rfl, rfl⟩) | (go_at_call 45; refine HF.out.mono ?_; rintro e w' ⟨rfl, rfl⟩))
      go_ret2
      exact ⟨rfl, v, H.out, Keep.refl _ _, fun i hi => .inl hi⟩
    | none =>
      rw [hi] at hF
      obtain ⟨A, c, rfl, hc1, hc2, -⟩ := row_cells h.row
      have HN := Lib.hid hN
      have HF := Lib.hid hF
      have H := Lib.hid h
      have HI := Lib.hid hi
      have HNM := Lib.hid hnm
      simp only []
      clear hN h h0 hF hi
      by_cases hfull : ns.length = most
      · have d1 : decide ((most : Int) ≤ (ns.length : Int)) = true := decide_eq_true (by omega)
        have d2 : decide (most ≤ ns.length) = true := decide_eq_true (by omega)
        simp only [hfull, if_true]
        rw [hfull] at d1 d2 H c1 hc1
        go_enter Try.func44, Try.ntmps44
        go_wp2_with (first | (go_at_call 10; refine HN.out.mono ?_; rintro e w' ⟨rfl, rfl⟩) | (go_at_call 45; refine HF.out.mono ?_; rintro e w' ⟨rfl, rfl⟩))
        go_quiet (fail)
        go_wp2
        go_ret2
        exact ⟨rfl, _, H.out.keep ((Keep.refl (fun _ => False) w).drewN _) (fun _ _ => id), (Keep.refl _ w).drewN _, fun i hi => .inl hi⟩
      · have d1 : decide ((most : Int) ≤ (ns.length : Int)) = false := decide_eq_false (by omega)
        have d2 : decide (most ≤ ns.length) = false := decide_eq_false (by omega)
        simp only [hfull, if_false]
        obtain ⟨i0, hinfo, hz0, hz1, hz2⟩ := info_parts info9
        have r0 : ∀ q, (w.drewN q).ownsRow B 9 1 (.slice A ns.length c) ns.length (ns.map Value.string) := fun q => ((Keep.refl (fun _ => False) w).drewN q).row H.out.row (fun _ _ => id)
        have R0 := Lib.hid r0
        clear r0
        go_enter Try.func44, Try.ntmps44
        go_wp2_with (first | (go_at_call 10; refine HN.out.mono ?_; rintro e w' ⟨rfl, rfl⟩) | (go_at_call 45; refine HF.out.mono ?_; rintro e w' ⟨rfl, rfl⟩))
        go_quiet (fail)
        go_upto_region 9 with (first | (at_builtin; refine wpList_append_own_at _ rfl _ _ 33 rfl B 9 i0 (.string ⟨#[]⟩) 1 16 Try.underlying33 hinfo hz0 hz1 hz2 rfl (by decide) _ _ _ rfl ((R0.out _).alloc _) ⟨w.heap.size, 0, none⟩ 1 1 [.string s] rfl rfl ?c1 ?c2 ?c3 ?c4 ?c5 ?_))
        case c1 => exact single_cells (w.drewN nq) _ _
        case c2 => intro u hu; obtain rfl : u = .string s := by simpa using hu
                   rfl
        case c3 => unfold maxLen; omega
        case c4 => omega
        case c5 => simp; omega
        intro v3 w3 hown3 hgrow3 _ hat3
        obtain ⟨A3, c3, rfl⟩ := row_slice hown3
        have s3 : w.heap.size < w3.heap.size := by have := hgrow3.size; simp at this; omega
        have mlt := blk_lt H.out.blk
        have b2 := Lib.hid (show ((w.drewN nq).alloc (Obj.cells #[Value.string s] 9)).heap[m]? = some (.cells #[.int .i64 most, .slice A ns.length c] 51 (0, 0)) from (Below.heap_alloc _ _ _ (by simpa using mlt)).trans H.out.blk)
        have b3 := Lib.hid ((hgrow3.block m (by simp; omega) (Ne.symm (row_ne_blk H.out.row H.out.blk (by decide)))).trans b2.out)
        have c3' : w3.cell? ⟨m, 1, none⟩ = some (.slice A ns.length c) := blk_cell b3.out 1 rfl
        have f3 := blk_free b3.out 1
        have K3 := Lib.hid (((Keep.refl (RTab.foot m (.slice A ns.length c)) w).drewN nq |>.alloc _).grown hgrow3 (fun k e _ => .inr e))
        have HG := Lib.hid hown3
        have HAT := Lib.hid hat3
        clear c0 c1 f1 hgrow3 hown3 hat3
        go_upto_region 9 with (fail)
        generalize hW4 : w3.setCell ⟨m, 1, none⟩ (Value.slice A3 (ns.length + 1) c3) = w4
        have b4 := Lib.hid (show w4.heap[m]? = some (Obj.cells #[.int .i64 most, .slice A3 (ns.length + 1) c3] 51 (0, 0)) by rw [← hW4]; exact heap_setCell_same b3.out 1 _)
        have c4 : w4.cell? ⟨m, 1, none⟩ = some (.slice A3 (ns.length + 1) c3) := blk_cell b4.out 1 rfl
        have K4 := Lib.hid (show Keep (RTab.foot m (.slice A ns.length c)) w w4 by rw [← hW4]; exact K3.out.setCell (p := ⟨m, 1, none⟩) (fun _ => .inl rfl) _)
        have R4 := Lib.hid (show w4.ownsRow B 9 1 (.slice A3 (ns.length + 1) c3) (ns.length + 1) (ns.map Value.string ++ [.string s]) by
          rw [← hW4]; exact ((Keep.refl (fun i => i = m) w3).setCell (p := ⟨m, 1, none⟩) (fun _ => rfl) _).row HG.out (fun k hk e => by subst e; exact row_ne_blk HG.out b3.out (by decide) hk))
        have z1 : IntKind.i64.wrap (((ns.length + 1 : Nat) : Int) - 1) = (ns.length : Int) := by rw [IntWalk.i64_in _ (by omega)]; omega
        have z2 : (((ns.length + 1 : Nat) : Int) - 1) = (ns.length : Int) := by omega
        clear c3' f3 hW4
        go_wp2
        go_ret2
        refine ⟨by first | rfl | simp [z1, z2], .slice A3 (ns.length + 1) c3, ?_, K4.out, ?_⟩
        · exact {
            blk := b4.out
            hm := H.out.hm
            row := by rw [List.length_append]; simpa using R4.out
            most := by simp; omega
            small := fun x hx => by
              rcases List.mem_append.1 hx with h | h
              · exact H.out.small x h
              · obtain rfl : x = s := by simpa using h
                exact name_small HNM.out
            nodup := nodup_snoc H.out.nodup HI.out }
        · rintro i (hi | hi)
          · exact .inl (.inl hi)
          · rcases HAT.out with h | h
            · rw [h] at hi; exact .inl (.inr hi)
            · rw [h] at hi; injection hi with hi; right; have : w.heap.size + 1 = i := hi; omega
end
end Go.Proofs.Ytmdfgiiihmameaa
