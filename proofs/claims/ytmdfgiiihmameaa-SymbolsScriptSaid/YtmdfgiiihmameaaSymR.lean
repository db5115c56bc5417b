import Derived.Test.YtmdfgiiihmameaaSymQ
namespace Go.Proofs.Ytmdfgiiihmameaa
open Go.Shelf Go.RowKit Go.Lib Go.Sort
set_option linter.unusedVariables false
set_option linter.unusedSimpArgs false

theorem bytesLess_no : ∀ a b : List UInt8, ¬ Lib.compareBytes a b < 0 → Op.bytesLess a b = false
  | [], [], _ => rfl
  | [], _ :: _, h => by simp [Lib.compareBytes] at h
  | _ :: _, [], _ => rfl
  | x :: a, y :: b, h => by
    unfold Lib.compareBytes at h
    unfold Op.bytesLess
    by_cases h1 : x < y
    · simp [h1] at h
    · by_cases h2 : y < x
      · have : ¬ x = y := fun e => by subst e; exact absurd h2 (UInt8.lt_irrefl x)
        simp [h1, this]
      · simp [h1, h2] at h
        have : x = y := UInt8.le_antisymm (UInt8.not_lt.1 h2) (UInt8.not_lt.1 h1)
        subst this
        simp [bytesLess_no a b (by omega)]

namespace Sy
theorem lt_trans (ns : List ByteArray) (a b c : Nat) (h1 : lt ns a b) (h2 : lt ns b c) : lt ns a c := cb_trans _ _ _ h1 h2
/-- i put into l, k places from the front -/
def ins (l : List Nat) (i k : Nat) : List Nat := l.take k ++ i :: l.drop k
theorem ins_length (l : List Nat) (i k : Nat) : (ins l i k).length = l.length + 1 := by
  have := congrArg List.length (List.take_append_drop k l)
  simp only [List.length_append] at this
  simp [ins] at *; omega
theorem ins_at (l : List Nat) (i k : Nat) (h : k ≤ l.length) : (ins l i k)[k]? = some i := by
  unfold ins
  rw [List.getElem?_append_right (by rw [List.length_take]; omega)]
  simp [List.length_take, Nat.min_eq_left h]
theorem ins_before (l : List Nat) (i k j : Nat) (h : j < k) (hk : k ≤ l.length) : (ins l i k)[j]? = l[j]? := by
  unfold ins
  rw [List.getElem?_append_left (by rw [List.length_take]; omega), List.getElem?_take, if_pos h]
theorem ins_end (l : List Nat) (i : Nat) : ins l i l.length = l ++ [i] := by simp [ins]
theorem ins_step (l : List Nat) (i k y : Nat) (hk : k < l.length) (hy : l[k]? = some y) : ((ins l i (k + 1)).set (k + 1) y).set k i = ins l i k := by
  have e1 : l.take (k + 1) = l.take k ++ [y] := by rw [List.take_add_one, hy]; rfl
  have e2 : l.drop k = y :: l.drop (k + 1) := by
    rw [List.drop_eq_getElem_cons hk]
    rw [List.getElem?_eq_getElem hk] at hy
    rw [Option.some.inj hy]
  have e3 : (l.take k).length = k := by rw [List.length_take]; omega
  unfold ins
  rw [e1, e2]
  rw [List.append_assoc, List.set_append_right _ _ (by omega), List.set_append_right _ _ (by omega), e3]
  simp
theorem ins_perm (l : List Nat) (i k n : Nat) (hn : n = i) (h : l.Perm (List.range n)) : (ins l i k).Perm (List.range (i + 1)) := by
  subst hn
  unfold ins
  refine (List.perm_middle).trans ?_
  rw [List.take_append_drop, List.range_succ]
  exact ((h.cons n).trans (List.perm_append_singleton n (List.range n)).symm)
theorem ins_sorted (ns : List ByteArray) (l : List Nat) (i k : Nat) (hl : l.Pairwise (lt ns)) (h1 : ∀ j y, k ≤ j → l[j]? = some y → lt ns i y) (h2 : ∀ x, 0 < k → l[k - 1]? = some x → lt ns x i) (hk : k ≤ l.length) : (ins l i k).Pairwise (lt ns) := by
  unfold ins
  have hl2 := hl
  rw [← List.take_append_drop k l, List.pairwise_append] at hl2
  obtain ⟨p1, p2, p3⟩ := hl2
  have q2 : ∀ y ∈ l.drop k, lt ns i y := fun y hy => by
    obtain ⟨j, hj⟩ := List.getElem?_of_mem hy
    rw [List.getElem?_drop] at hj
    exact h1 _ y (by omega) hj
  have q1 : ∀ x ∈ l.take k, lt ns x i := fun x hx => by
    obtain ⟨j, hj⟩ := List.getElem?_of_mem hx
    rw [List.getElem?_take] at hj
    split at hj
    · rename_i hjk
      by_cases e : j = k - 1
      · subst e; exact h2 x (by omega) hj
      · have hlt : k - 1 < l.length := by omega
        have hz := h2 _ (by omega) (List.getElem?_eq_getElem hlt)
        have hj2 : j < l.length := by omega
        rw [List.getElem?_eq_getElem hj2] at hj
        have := List.pairwise_iff_getElem.1 hl j (k - 1) hj2 hlt (by omega)
        rw [Option.some.inj hj] at this
        exact lt_trans ns _ _ _ this hz
    · cases hj
  refine List.pairwise_append.2 ⟨p1, List.pairwise_cons.2 ⟨q2, p2⟩, fun a ha b hb => ?_⟩
  rcases List.mem_cons.1 hb with rfl | hb
  · exact q1 a ha
  · exact p3 a ha b hb
theorem lt_total (ns : List ByteArray) (hn : ns.Nodup) (i j : Nat) (hi : i < ns.length) (hj : j < ns.length) (h : i ≠ j) : lt ns i j ∨ lt ns j i := by
  unfold lt
  simp only [List.getD_eq_getElem?_getD, List.getElem?_eq_getElem hi, List.getElem?_eq_getElem hj, Option.getD_some]
  have := cb_anti ns[i].data.toList ns[j].data.toList
  have h2 : ¬ Lib.compareBytes ns[i].data.toList ns[j].data.toList = 0 := fun e => h ((List.getElem_inj hn).1 (data_inj (cb_zero _ _ e)))
  omega
end Sy

theorem row_set {W : World} {B g : Nat} {e : TypeId} {n c : Nat} {xs : List Value} (h : W.ownsRow B e 1 (.slice (some ⟨g, 0, none⟩) n c) n xs) (k : Nat) (hk : k < n) (u : Value) :
    (∃ x, W.cell? ⟨g, k, none⟩ = some x) ∧ W.frozen? ⟨g, k, none⟩ = false ∧ (W.setCell ⟨g, k, none⟩ u).ownsRow B e 1 (.slice (some ⟨g, 0, none⟩) n c) n (xs.set k u) := by
  obtain ⟨h1, h2⟩ := h
  rcases h2 with ⟨h2, h3⟩ | ⟨g', cap, cur, he, hb, hh, hc1, hc2, hs, ht⟩
  · omega
  · injection he with e1 e2 e3
    injection e1 with e1
    injection e1 with e1
    subst e1
    subst e3
    have hlt : k < cur.size := by rw [hs]; omega
    refine ⟨⟨cur[k], blk_cell hh k (Array.getElem?_eq_getElem hlt)⟩, blk_free hh k, by simpa using h1, .inr ⟨g, c, cur.setIfInBounds k u, rfl, hb, heap_setCell_same hh k u, hc1, hc2, by simp [hs], ?_⟩⟩
    rw [← ht]
    simp [List.take_set]

def natV (i : Nat) : Value := .int .i64 i
section
variable {B m most : Nat} {ns : List ByteArray} {v : Value}

/-- the outer loop's relation, the inner one's -/
def SortOut (ns : List ByteArray) (w : World) (v3 v4 : Value) (wr : World) : Prop :=
  ∃ (i : Nat) (l : List Nat), i ≤ ns.length ∧ v4 = .int .i64 i ∧ l.Perm (List.range i) ∧ l.Pairwise (Sy.lt ns) ∧ wr.ownsRow w.heap.size 3 1 v3 i (l.map natV) ∧ Keep (fun _ => False) w wr
def SortIn (ns : List ByteArray) (w : World) (i g c : Nat) (l : List Nat) (v : Value) (wr : World) : Prop :=
  ∃ k : Nat, k ≤ i ∧ v = .int .i64 k ∧ (∀ j y, k ≤ j → l[j]? = some y → Sy.lt ns i y) ∧ wr.ownsRow w.heap.size 3 1 (.slice (some ⟨g, 0, none⟩) (i + 1) c) (i + 1) ((Sy.ins l i k).map natV) ∧ Keep (fun _ => False) w wr

theorem single_nat (w : World) (i : Nat) : ∀ j u, [natV i][j]? = some u → (w.alloc (Obj.cells #[.int .i64 i] 3)).cell? ((⟨w.heap.size, 0, none⟩ : Addr).add j) = some u := single_cells w _ _

set_option maxHeartbeats 2000000 in
set_option maxRecDepth 100000 in
theorem rsorted_tab {w : World} (h : RTab B w m most ns v) :
    Calls Try.prog 24 #[.pointer (some ⟨m, 0, none⟩)] w fun e w' => ∃ v', e = .returned v' ∧ w'.ownsRow w.heap.size 3 1 v' ns.length ((Sy.order ns).map natV) ∧ Below w.heap.size w w' := by
  have hm := h.most
  have H := Lib.hid h
  obtain ⟨i0, hinfo, hz0, hz1, hz2⟩ := info_parts info3
  have hcells : ∀ wr, Keep (fun _ => False) w wr → ∃ A c, v = .slice A ns.length c ∧ wr.cell? ⟨m, 1, none⟩ = some (.slice A ns.length c) ∧ (0 < ns.length → ∃ g, A = some ⟨g, 0, none⟩ ∧ ∀ j x, ns[j]? = some x → wr.cell? ⟨g, j, none⟩ = some (.string x)) := fun wr k => by
    have T := H.out.keep k (fun _ _ => id)
    obtain ⟨A, c, rfl, hc1, hc2, hcs⟩ := row_cells T.row
    refine ⟨A, c, rfl, blk_cell T.blk 1 rfl, fun h0 => ?_⟩
    obtain ⟨g, rfl, hc⟩ := hcs h0
    exact ⟨g, rfl, fun j x hj => hc j _ (by simp [hj])⟩
  have HC := Lib.hid hcells
  have HN := Lib.hid H.out.nodup
  clear h hcells
  go_enter Try.func24, Try.ntmps24
  go_wp2
  go_loopw [3, 4] (fun v3 v4 wr => SortOut ns w v3 v4 wr) (fun v3 v4 _ => ns.length - (intOf v4).toNat)
  case atStart => exact ⟨0, [], Nat.zero_le _, rfl, by simp, List.Pairwise.nil, World.ownsRow_nil _ _ _ _, Keep.refl _ _⟩
  case round =>
    obtain ⟨i, l, hi, rfl, hp, hs, hr, hk⟩ := hrel
    have HP := Lib.hid hp
    have HS := Lib.hid hs
    have HR := Lib.hid hr
    have HK := Lib.hid hk
    obtain ⟨A, c, rfl, c1, hcs⟩ := HC.out wr hk
    have hll : l.length = i := by have := hp.length_eq; simpa using this
    clear hp hs hr hk
    by_cases hlt : i < ns.length
    · have t1 : (i : Int) < ns.length := by omega
      have t2 : (0 : Int) ≤ i := by omega
      have t3 : decide ((i : Int) < ns.length) = true := decide_eq_true t1
      clear hcs
      go_upto_region 6 with (first | (at_builtin; refine wpList_append_own_at _ rfl _ _ 40 rfl w.heap.size 3 i0 (.int .i64 0) 1 8 Try.underlying40 hinfo hz0 hz1 hz2 rfl (by decide) _ _ _ rfl (HR.out.alloc _) ⟨wr.heap.size, 0, none⟩ 1 1 [natV i] rfl rfl ?c1 ?c2 ?c3 ?c4 ?c5 ?_))
      case c1 => exact single_nat wr i
      case c2 => intro u hu; obtain rfl : u = natV i := by simpa using hu
                 rfl
      case c3 => unfold maxLen; omega
      case c4 => omega
      case c5 => have := HK.out.size; simp; omega
      intro v3 w3 hown3 hgrow3 _ hat3
      have hown4 : w3.ownsRow w.heap.size 3 1 v3 (i + 1) ((Sy.ins l i i).map natV) := by
        have e : Sy.ins l i i = l ++ [i] := by rw [← hll]; exact Sy.ins_end l _
        rw [e, List.map_append]; exact hown3
      obtain ⟨A3, c3, rfl, q1, q2, hg3⟩ := row_cells hown4
      obtain ⟨g, rfl, -⟩ := hg3 (by omega)
      have K3 : Keep (fun _ => False) w w3 := (HK.out.alloc _).grown hgrow3 (fun k e hlt => by
        have := row_ge HR.out e; omega)
      have HO3 := Lib.hid hown4
      have HK3 := Lib.hid K3
      clear hown3 hgrow3 hat3 hown4 K3 c1
      go_wp2_with (fail)
      go_loopw [5] (fun v wr => SortIn ns w i g c3 l v wr) (fun v _ => (intOf v).toNat)
      case atStart => exact ⟨i, Nat.le_refl _, rfl, fun j y hj hy => (by
          rw [List.getElem?_eq_none (by omega)] at hy; cases hy), HO3.out, HK3.out⟩
      case round =>
        obtain ⟨k, hki, rfl, hgt, hrow, hkeep⟩ := hrel
        obtain ⟨A', c', he', c1, hcs⟩ := HC.out wr hkeep
        injection he' with ea eb ec
        subst ea
        subst ec
        obtain ⟨gs, rfl, hcn⟩ := hcs (by omega)
        have rcell : ∀ (j y : Nat), (Sy.ins l i k)[j]? = some y → wr.cell? ⟨g, j, none⟩ = some (.int .i64 y) := fun j y hj => by
          have := hrow.cells (g := g) rfl j (natV y) (by simp [hj])
          rwa [add_at] at this
        have HG := Lib.hid hgt
        have HW := Lib.hid hrow
        have HKK := Lib.hid hkeep
        have ik : (k : Int) < (i + 1 : Nat) := by omega
        have ik0 : (0 : Int) ≤ k := by omega
        clear hgt hrow hkeep hcs
        have finish : ∀ (hend : ∀ x, 0 < k → l[k - 1]? = some x → Sy.lt ns x i), (Sy.ins l i k).Perm (List.range (i + 1)) ∧ (Sy.ins l i k).Pairwise (Sy.lt ns) := fun hend =>
          ⟨Sy.ins_perm l i k i rfl HP.out, Sy.ins_sorted ns l i k HS.out HG.out hend (by omega)⟩
        have HF := Lib.hid finish
        clear finish
        rcases Nat.eq_zero_or_pos k with hk0 | hk0
        · have d1 : decide ((0 : Int) < (k : Int)) = false := decide_eq_false (by omega)
          have d2 : decide (0 < k) = false := decide_eq_false (by omega)
          have HF2 := Lib.hid (HF.out (fun x h _ => absurd h (by omega)))
          clear rcell hcn HF hk0
          go_wp2
          go_quiet (fail)
          go_wp2
          go_roundw
          case rel => exact ⟨i + 1, _, by omega, by go_num, HF2.out.1, HF2.out.2, ((Keep.refl (fun _ => False) wr).drewN _).row HW.out (fun _ _ => id), HKK.out.drewN _⟩
          case measure => simp [intOf]; omega
        · obtain ⟨j, rfl⟩ : ∃ j, k = j + 1 := ⟨k - 1, by omega⟩
          have d1 : decide ((0 : Int) < ((j + 1 : Nat) : Int)) = true := decide_eq_true (by omega)
          have d2 : decide (0 < j + 1) = true := decide_eq_true (by omega)
          have hjl : j < l.length := by omega
          obtain ⟨y, hy⟩ : ∃ y, l[j]? = some y := ⟨_, List.getElem?_eq_getElem hjl⟩
          have hyi : y < i := List.mem_range.1 (HP.out.mem_iff.1 (List.mem_of_getElem? hy))
          obtain ⟨a, ha⟩ : ∃ a, ns[i]? = some a := ⟨_, List.getElem?_eq_getElem hlt⟩
          obtain ⟨b, hb⟩ : ∃ b, ns[y]? = some b := ⟨_, List.getElem?_eq_getElem (by omega)⟩
          have e1 : wr.cell? ⟨g, j + 1, none⟩ = some (.int .i64 i) := rcell (j + 1) i (Sy.ins_at l i (j + 1) (by omega))
          have e2 : wr.cell? ⟨g, j, none⟩ = some (.int .i64 y) := rcell j y (by rw [Sy.ins_before l i (j + 1) j (by omega) (by omega)]; exact hy)
          have e3 := hcn i a ha
          have e4 := hcn y b hb
          have z1 : (((j + 1 : Nat) : Int) - 1) = (j : Int) := by omega
          have z2 : IntKind.i64.wrap (((j + 1 : Nat) : Int) - 1) = (j : Int) := by rw [IntWalk.i64_in _ (by omega)]; omega
          have t4 : (y : Int) < ns.length := by omega
          have t5 : (0 : Int) ≤ y := by omega
          have t6 : (j : Int) < (i + 1 : Nat) := by omega
          have t7 : (0 : Int) ≤ j := by omega
          have elt : Sy.lt ns i y ↔ Lib.compareBytes a.data.toList b.data.toList < 0 := by
            unfold Sy.lt; rw [List.getD_eq_getElem?_getD, List.getD_eq_getElem?_getD, ha, hb]; rfl
          have HELT := Lib.hid elt
          have HY := Lib.hid hy
          clear rcell hcn ha hb elt hy hk0
          by_cases hcmp : Lib.compareBytes a.data.toList b.data.toList < 0
          · have d3 : Op.bytesLess a.toList b.toList = true := by rw [Lib.toList_data, Lib.toList_data]; exact bytesLess_of _ _ hcmp
            have HCMP := Lib.hid hcmp
            clear HF hcmp
            go_wp2
            go_quiet (fail)
            have R1 := ((Keep.refl (fun _ => False) wr).drewN nq).row HW.out (fun _ _ => id)
            obtain ⟨-, f1, R2⟩ := row_set R1 (j + 1) (by omega) (natV y)
            have HR2 := Lib.hid R2
            clear R1 R2
            go_upto_region 11 with (fail)
            generalize hW4 : World.setCell _ _ _ = w4
            have R4 := HR2.out
            rw [show (wr.drewN nq).setCell ⟨g, j + 1, none⟩ (natV y) = w4 from hW4] at R4
            have K4 : Keep (fun _ => False) w w4 := by
              rw [← hW4]; exact (HKK.out.drewN nq).setCell (p := ⟨g, j + 1, none⟩) (fun h => absurd h (Nat.not_lt.2 (row_ge (k := g) HW.out rfl))) _
            obtain ⟨⟨x5, e5⟩, f5, R5⟩ := row_set R4 j (by omega) (natV i)
            have HK4 := Lib.hid K4
            have HR5 := Lib.hid R5
            clear R4 K4 R5 hW4 e1 e2 e3 e4 f1 c1 HR2
            go_wp2
            go_roundw
            case rel =>
              refine ⟨j, by omega, by go_num, fun q x hq hx => ?_, ?_, HK4.out.setCell (p := ⟨g, j, none⟩) (fun h => absurd h (Nat.not_lt.2 (row_ge (k := g) HW.out rfl))) _⟩
              · by_cases e : q = j
                · subst e
                  rw [HY.out] at hx
                  obtain rfl := Option.some.inj hx
                  exact HELT.out.2 HCMP.out
                · exact HG.out q x (by omega) hx
              · have := HR5.out
                rw [← List.map_set, ← List.map_set, Sy.ins_step l i j y hjl HY.out] at this
                exact this
            case measure => simp [intOf]
          · have d3 : Op.bytesLess a.toList b.toList = false := by rw [Lib.toList_data, Lib.toList_data]; exact bytesLess_no _ _ hcmp
            have HF2 := Lib.hid (HF.out (fun x _ hx => by
              rw [show j + 1 - 1 = j by omega, HY.out] at hx
              obtain rfl := Option.some.inj hx
              have h1 := fun h => hcmp (HELT.out.1 h)
              have h2 := Sy.lt_total ns HN.out i y (by omega) (by omega) (by omega)
              exact h2.resolve_left h1))
            clear HF hcmp
            go_wp2
            go_quiet (fail)
            go_wp2
            go_roundw
            case rel => exact ⟨i + 1, _, by omega, by go_num, HF2.out.1, HF2.out.2, ((Keep.refl (fun _ => False) wr).drewN _).row HW.out (fun _ _ => id), HKK.out.drewN _⟩
            case measure => simp [intOf]; omega
    · obtain rfl : i = ns.length := by omega
      have t3 : decide ((ns.length : Int) < ns.length) = false := decide_eq_false (by omega)
      have ho := Sy.order_unique ns HN.out l HP.out HS.out
      clear hcs
      go_wp2
      go_ret
      refine ⟨_, rfl, by rw [ho]; exact HR.out, HK.out.toBelow (Nat.le_refl _) (fun _ h => h.elim)⟩
end
end Go.Proofs.Ytmdfgiiihmameaa
