import Derived.Test.YtmdfgiiihmameaaSymE
import Derived.Deep.LoopGhost
import Derived.IntWalk
namespace Go.Proofs.Ytmdfgiiihmameaa
open Go.Shelf Go.RowKit Go.Lib Go.Sort

theorem cell_str {W : World} {b : Nat} {e : TypeId} {vn : Value} {ns : List ByteArray} (h : W.ownsRow b e 1 vn ns.length (ns.map Value.string)) :
    ∃ A c, vn = .slice A ns.length c ∧ ns.length ≤ c ∧ c ≤ maxLen ∧ (0 < ns.length → ∃ g, A = some ⟨g, 0, none⟩ ∧ ∀ (i : Fin ns.length), W.cell? ⟨g, i.val, none⟩ = some (.string ns[i])) := by
  obtain ⟨A, c, h1, h2, h3, h4⟩ := row_cells h
  refine ⟨A, c, h1, h2, h3, fun h0 => ?_⟩
  obtain ⟨g, hg, hc⟩ := h4 h0
  exact ⟨g, hg, fun i => hc i.val _ (by simp [i.isLt])⟩

/-- the comparison that the table hands to the sort -/
theorem cmp_calls (ns : List ByteArray) (x y : Fin ns.length) (vb p g c : Nat) (W : World) (hv : W.cell? ⟨vb, 0, none⟩ = some (.pointer (some ⟨p, 0, none⟩)))
    (hp : W.cell? ⟨p, 1, none⟩ = some (.slice (some ⟨g, 0, none⟩) ns.length c)) (hc : ∀ (i : Fin ns.length), W.cell? ⟨g, i.val, none⟩ = some (.string ns[i])) :
    Calls Try.prog 40 #[.int .i64 x.val, .int .i64 y.val, .pointer (some ⟨vb, 0, none⟩)] W fun e w' => e = .returned (.int .i64 (Sy.cf ns x y)) ∧ ∃ q, w' = W.drewN q := by
  have hx := hc x
  have hy := hc y
  have x1 := x.isLt
  have y1 := y.isLt
  have x2 : ((x.val : Nat) : Int) < (ns.length : Int) := by omega
  have y2 : ((y.val : Nat) : Int) < (ns.length : Int) := by omega
  have x3 : (0 : Int) ≤ ((x.val : Nat) : Int) := by omega
  have y3 : (0 : Int) ≤ ((y.val : Nat) : Int) := by omega
  have hS := fun W => Try.strings_Compare ns[x] ns[y] W
  unfold Sy.cf
  generalize ns[x] = sx at *
  generalize ns[y] = sy at *
  generalize Lib.compareBytes sx.data.toList sy.data.toList = r at *
  have HS := Lib.hid hS
  clear hc hS
  generalize x.val = i at *
  generalize y.val = j at *
  go_enter Try.func40, Try.ntmps40
  go_wp2
  go_quiet ((go_at_call 41; exact Calls.quiet_of_same (HS.out _)))
  go_wp2
  go_ret
  exact ⟨rfl, _, rfl⟩

theorem order_length (ns : List ByteArray) : (Sy.order ns).length = ns.length := by simp [Sy.order]

/-- the sort of the numbers by the names -/
theorem sortfunc_calls (ns : List ByteArray) (hn : ns.Nodup) (hl : ns.length ≤ 4096) (B : Nat) (vn : Value) (vb p L cap : Nat) (W : World) (arr : Array Value) (hv : W.cell? ⟨vb, 0, none⟩ = some (.pointer (some ⟨p, 0, none⟩)))
    (hp : W.cell? ⟨p, 1, none⟩ = some vn) (hr : W.ownsRow B 9 1 vn ns.length (ns.map Value.string)) (hL : W.heap[L]? = some (.cells arr 3 (0, 0))) (hs : arr.size = ns.length) (ha : ∀ j, j < ns.length → arr[j]? = some (.int .i64 j))
    (hvb : vb ≠ L) (hpL : p ≠ L) :
    Calls Try.prog 39 #[.slice (some ⟨L, 0, none⟩) ns.length cap, .func (.func 40) #[] #[.pointer (some ⟨vb, 0, none⟩)]] W fun e w' => e = .returned (.tuple #[]) ∧
      w'.heap[L]? = some (.cells ((Sy.order ns).map (fun (i : Nat) => Value.int .i64 i)).toArray 3 (0, 0)) ∧ Keep (fun i => i = L) W w' := by
  rcases Nat.eq_zero_or_pos ns.length with h0 | h0
  · have hnil : ns = [] := List.eq_nil_of_length_eq_zero h0
    subst hnil
    refine (Try.slices_SortFunc_none _ _ _ _).mono ?_
    rintro e w' ⟨he, rfl⟩
    refine ⟨he, ?_, Keep.refl _ _⟩
    rw [hL]
    have : arr = #[] := Array.eq_empty_of_size_eq_zero hs
    rw [this]
    simp [Sy.order]
  · obtain ⟨A, c, rfl, -, -, hcs⟩ := cell_str hr
    obtain ⟨g, rfl, hc⟩ := hcs h0
    have hgL : g ≠ L := by
      intro e
      exact row_ne_blk hr hL (by decide) (by simp [Value.ownBlock, e])
    haveI : Inhabited (Fin ns.length) := ⟨⟨0, h0⟩⟩
    have hd : (List.finRange ns.length).toArray.size = ns.length := by simp
    have hcmp : CmpLays1 Try.prog 40 #[.pointer (some ⟨vb, 0, none⟩)] (fun i : Fin ns.length => Value.int .i64 i.val) (Sy.cf ns) L 0 (List.finRange ns.length).toArray.size W := by
      intro m os dk hdk x y
      have K := sort_keep (fun i : Fin ns.length => Value.int .i64 i.val) W L 0 m dk os
      refine (cmp_calls ns x y vb p g c _ (K.cell hv hvb) (K.cell hp hpL) (fun i => K.cell (hc i) hgL)).mono ?_
      rintro e w' ⟨he, q, hq⟩
      exact ⟨he, q, #[], by rw [hq, Sort.grow_empty]⟩
    have hH : Holds (fun i : Fin ns.length => Value.int .i64 i.val) W L 0 (List.finRange ns.length).toArray := by
      intro j hj
      have hj' : j < ns.length := by rwa [hd] at hj
      refine ⟨?_, blk_free hL _⟩
      rw [Nat.zero_add]
      refine blk_cell hL j ?_
      rw [ha j hj']
      simp [getElem!_pos, hj']
    have hS := Try.slices_SortFunc_total (fun i : Fin ns.length => Value.int .i64 i.val) (fun _ => rfl) (Sy.cf ns) (Sy.cf_swo ns) 40 #[.pointer (some ⟨vb, 0, none⟩)] L 0 cap (List.finRange ns.length).toArray W
      (enters_of Try.func40 (by kernel_rfl) rfl) hcmp hH (blk_lt hL) (by rw [hd]; omega) (Sy.cf_tot ns hn)
    rw [hd] at hS
    refine hS.mono ?_
    rintro e w' ⟨he, m, os, rfl⟩
    refine ⟨he, ?_, sort_keep _ _ _ _ _ _ _⟩
    have hz : arr.size = ((List.finRange ns.length).toArray.toList.mergeSort fun x y => !(ltOf (Sy.cf ns)) y x).toArray.size := by simp [hs]
    rw [sort_blk _ _ _ _ _ _ hL hz]
    simp [Sy.order, Sy.ltOf_iff, Function.comp_def]
end Go.Proofs.Ytmdfgiiihmameaa
