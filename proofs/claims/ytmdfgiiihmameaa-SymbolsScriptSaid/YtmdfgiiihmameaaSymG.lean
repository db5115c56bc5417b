import Derived.Test.YtmdfgiiihmameaaSymF
namespace Go.Proofs.Ytmdfgiiihmameaa
open Go.Shelf Go.RowKit Go.Lib Go.Sort

theorem info3 : (Try.prog.info? 3).map (fun i => (i.zero, i.size, i.bytes)) = some (some (.int .i64 0), 1, 8) := by kernel_rfl

/-- while the numbers are filled in: k of them stand -/
def FillRel (L n : Nat) (w1 : World) (v : Value) (wr : World) : Prop := ∃ (k : Nat) (arr : Array Value), k ≤ n ∧ v = .int .i64 k ∧ wr.heap[L]? = some (.cells arr 3 (0, 0)) ∧ arr.size = n ∧ (∀ j, j < k → arr[j]? = some (.int .i64 j)) ∧ Keep (fun i => i = L) w1 wr

set_option maxRecDepth 100000 in
set_option maxHeartbeats 1600000 in
theorem sorted1_calls (ns : List ByteArray) (hn : ns.Nodup) (hl : ns.length ≤ 4096) (B : Nat) (most : Int) (vn : Value) (vb p bm bo : Nat) (v0 : Value) (w : World) (hv : w.heap[vb]? = some (.cells #[.pointer (some ⟨p, 0, none⟩)] 22 (0, 0)))
    (hp : w.heap[p]? = some (.cells #[.int .i64 most, vn, .map (some bm), .pointer (some ⟨bo, 0, none⟩)] 59 (0, 0))) (hr : w.ownsRow B 9 1 vn ns.length (ns.map Value.string)) (ho : w.heap[bo]? = some (ordB 0 1 v0)) :
    Calls Try.prog 38 #[.pointer (some ⟨vb, 0, none⟩)] w fun e w' => e = .returned (.tuple #[]) ∧ (∃ sl, w'.heap[bo]? = some (ordB 0 1 sl) ∧ w'.ownsRow w.heap.size 3 1 sl ns.length ((Sy.order ns).map (fun (i : Nat) => Value.int .i64 i)) ∧ Keep (fun i => i = bo) w w') ∧ ∃ v, w'.heap[bo]? = some (ordB 0 1 v) := by
  obtain ⟨A, c, rfl, hc1, hc2, -⟩ := row_cells hr
  have v0c := blk_cell hv 0 (v := .pointer (some ⟨p, 0, none⟩)) rfl
  have p1c := blk_cell hp 1 (v := .slice A ns.length c) rfl
  obtain ⟨i0, hinfo, hz0, hz1, hz2⟩ := info_parts info3
  have hbytes : i0.bytes * ns.length ≤ 281474976710656 := by rw [hz2]; omega
  have hmax : ns.length ≤ maxLen := by unfold maxLen; omega
  have HV := Lib.hid hv
  have HP := Lib.hid hp
  have HR := Lib.hid hr
  have HO := Lib.hid ho
  clear hv hp hr ho
  go_enter Try.func38, Try.ntmps38
  go_wp2_with (first | (at_make; refine wpList_make_full _ rfl _ _ 40 rfl w.heap.size 3 i0 (.int .i64 0) 1 Try.underlying40 hinfo hz0 hz1 .i64 .i64 _ _ ns.length rfl rfl rfl rfl hbytes hmax (Nat.le_refl _) ?_; intro w1 hown1 hg1))
  obtain ⟨arr0, hL0, hs0⟩ : ∃ arr, w1.heap[w.heap.size]? = some (.cells arr 3 (0, 0)) ∧ arr.size = ns.length := by
    rcases hown1.2 with ⟨h, _⟩ | ⟨g, cap, cur, he, _, hh, _, _, hs, _⟩
    · cases h
    · injection he with h1 h2 h3
      injection h1 with h1
      injection h1 with h1
      subst h1
      subst h3
      exact ⟨cur, hh, by simpa using hs⟩
  have K1 : Keep (fun _ => False) w w1 := (Keep.refl _ w).grown hg1 (fun k h => by cases h)
  have hK1 := Lib.hid K1
  have hL := Lib.hid hL0
  clear hown1 hg1 hL0 K1
  go_loopw [11] (fun v wr => FillRel w.heap.size ns.length w1 v wr) (fun v _ => ns.length - (intOf v).toNat)
  case atStart => exact ⟨0, arr0, Nat.zero_le _, rfl, hL.out, hs0, fun j h => absurd h (Nat.not_lt_zero j), Keep.refl _ _⟩
  case round =>
    obtain ⟨k, arr, hk, rfl, hLb, hsz, hfill, hKr⟩ := hrel
    have hLr := Lib.hid hLb
    have hF := Lib.hid hfill
    have hKR := Lib.hid hKr
    have HSZ := Lib.hid hsz
    have HS0 := Lib.hid hs0
    clear hfill hKr hs0
    by_cases hlt : k < ns.length
    · have hlt2 : (k : Int) < ns.length := by omega
      have hk2 : (0 : Int) ≤ k := by omega
      obtain ⟨x, hx⟩ : ∃ x, arr[k]? = some x := ⟨_, Array.getElem?_eq_getElem (show k < arr.size by omega)⟩
      have hcell := blk_cell hLr.out k hx
      have hfree := blk_free hLr.out k
      clear hLb hx hsz
      go_wp2
      go_roundw
      case rel =>
        refine ⟨k + 1, arr.setIfInBounds k (.int .i64 k), by omega, by go_num, heap_setCell_same hLr.out k _, by simp [HSZ.out], ?_, hKR.out.setCell (p := ⟨w.heap.size, k, none⟩) (fun _ => rfl) _⟩
        intro j hj
        rw [Array.getElem?_setIfInBounds]
        by_cases e : k = j
        · subst e; rw [if_pos rfl, if_pos (by rw [HSZ.out]; omega)]
        · rw [if_neg e]; exact hF.out j (by omega)
      case measure => simp [intOf]; omega
    · obtain rfl : k = ns.length := by omega
      have vL : vb ≠ w.heap.size := by have := blk_lt HV.out; omega
      have pL : p ≠ w.heap.size := by have := blk_lt HP.out; omega
      have oL : bo ≠ w.heap.size := by have := blk_lt HO.out; omega
      have V := Lib.hid (hKR.out.blk (hK1.out.blk HV.out id) vL)
      have P' := Lib.hid (hKR.out.blk (hK1.out.blk HP.out id) pL)
      have O := Lib.hid (hKR.out.blk (hK1.out.blk HO.out id) oL)
      have Rw := Lib.hid (hKR.out.row (hK1.out.row HR.out (fun _ _ => id)) (fun k hk e => by have := row_lt HR.out hk; omega))
      have hsort := Lib.hid (sortfunc_calls ns hn hl B (.slice A ns.length c) vb p w.heap.size ns.length wr arr (blk_cell V.out 0 rfl) (blk_cell P'.out 1 rfl) Rw.out hLr.out HSZ.out hF.out vL pL)
      clear hLb hsz v0c p1c hlt
      go_wp2_with (first | (go_at_call 39; refine hsort.out.mono ?_; rintro e w2 ⟨rfl, hL2, k2⟩; have K2 := Lib.hid k2; have L2 := Lib.hid hL2; have v2 : w2.cell? ⟨vb, 0, none⟩ = some (.pointer (some ⟨p, 0, none⟩)) := blk_cell (K2.out.blk V.out vL) 0 rfl; have p2 : w2.cell? ⟨p, 3, none⟩ = some (.pointer (some ⟨bo, 0, none⟩)) := blk_cell (K2.out.blk P'.out pL) 3 rfl; have o2 : w2.cell? ⟨bo, 3, none⟩ = some v0 := blk_cell (K2.out.blk O.out oL) 3 rfl; have f2 := blk_free (K2.out.blk O.out oL) 3; clear hL2 k2))
      go_end0
      have hO3 : (w2.setCell ⟨bo, 3, none⟩ (.slice (some ⟨w.heap.size, 0, none⟩) ns.length ns.length)).heap[bo]? = some (ordB 0 1 (.slice (some ⟨w.heap.size, 0, none⟩) ns.length ns.length)) := heap_setCell_same (K2.out.blk O.out oL) 3 _
      have KK : Keep (fun i => i = bo) w (w2.setCell ⟨bo, 3, none⟩ (.slice (some ⟨w.heap.size, 0, none⟩) ns.length ns.length)) := by
        have k3 : Keep (fun i => i = bo) w w2 := ((hK1.out.trans hKR.out (G := fun i => i = w.heap.size) (F := fun _ => False) (fun i hi e => by omega)).trans K2.out (fun i hi e => by omega)).mono (fun i _ h => h.elim)
        exact k3.setCell (p := ⟨bo, 3, none⟩) (fun _ => rfl) _
      refine ⟨rfl, ⟨_, hO3, ?_, KK⟩, _, hO3⟩
      refine ⟨by simp [order_length], .inr ⟨w.heap.size, ns.length, _, rfl, Nat.le_refl _, (Below.heap_setCell _ _ _ _ (Ne.symm oL)).trans L2.out, Nat.le_refl _, hmax, by simp [order_length], ?_⟩⟩
      simp only [Nat.mul_one]
      rw [List.take_of_length_le]
      simp [order_length]
end Go.Proofs.Ytmdfgiiihmameaa
