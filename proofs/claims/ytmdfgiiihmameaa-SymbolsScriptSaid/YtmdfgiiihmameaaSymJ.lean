import Derived.Test.YtmdfgiiihmameaaSymI
namespace Go.Proofs.Ytmdfgiiihmameaa
open Go.Shelf Go.RowKit Go.Lib Go.Sort

namespace Sy
def lt (ns : List ByteArray) (i j : Nat) : Prop := Lib.compareBytes (ns.getD i ByteArray.empty).data.toList (ns.getD j ByteArray.empty).data.toList < 0
theorem cf_getD (ns : List ByteArray) (x y : Fin ns.length) : cf ns x y = Lib.compareBytes (ns.getD x.val ByteArray.empty).data.toList (ns.getD y.val ByteArray.empty).data.toList := by
  simp [cf, List.getD_eq_getElem?_getD]
theorem cf_le_trans (ns : List ByteArray) (a b c : Fin ns.length) (h1 : (!(decide (cf ns b a < 0))) = true) (h2 : (!(decide (cf ns c b < 0))) = true) : (!(decide (cf ns c a < 0))) = true := by
  have := (cf_swo ns).ntrans c b a
  simp only [ltOf_iff] at this
  simp at *
  omega
theorem cf_le_total (ns : List ByteArray) (a b : Fin ns.length) : (!(decide (cf ns b a < 0)) || !(decide (cf ns a b < 0))) = true := by
  have := cb_anti ns[a].data.toList ns[b].data.toList
  unfold cf
  simp only [Bool.or_eq_true, Bool.not_eq_true', decide_eq_false_iff_not]
  omega
theorem order_perm (ns : List ByteArray) : (order ns).Perm (List.range ns.length) := by
  unfold order
  have h := (List.mergeSort_perm (List.finRange ns.length) (fun x y => !(decide (cf ns y x < 0)))).map Fin.val
  have e : (List.finRange ns.length).map Fin.val = List.range ns.length := List.ext_getElem (by simp) (by simp)
  rwa [e] at h
theorem order_nodup (ns : List ByteArray) : (order ns).Nodup := (order_perm ns).nodup_iff.2 List.nodup_range
theorem order_pairwise (ns : List ByteArray) (hn : ns.Nodup) : (order ns).Pairwise (lt ns) := by
  have h1 : ((List.finRange ns.length).mergeSort (fun x y => !(decide (cf ns y x < 0)))).Pairwise (fun a b => (!(decide (cf ns b a < 0))) = true) := List.pairwise_mergeSort (cf_le_trans ns) (cf_le_total ns) _
  have h2 := order_nodup ns
  unfold order at *
  rw [List.Nodup, List.pairwise_map] at h2
  rw [List.pairwise_map]
  refine (h1.and h2).imp ?_
  rintro a b ⟨h3, h4⟩
  unfold lt
  rw [← cf_getD]
  simp only [Bool.not_eq_true', decide_eq_false_iff_not] at h3
  have h5 : ¬ cf ns a b = 0 := fun e => h4 (by
    have := data_inj (cb_zero _ _ e)
    have := (List.getElem_inj hn).1 this
    exact this)
  have := cb_anti ns[a].data.toList ns[b].data.toList
  unfold cf at *
  omega
theorem lt_asymm (ns : List ByteArray) (i j : Nat) (h : lt ns i j) (k : lt ns j i) : False := by
  unfold lt at *
  have := cb_anti (ns.getD i ByteArray.empty).data.toList (ns.getD j ByteArray.empty).data.toList
  omega
theorem order_unique (ns : List ByteArray) (hn : ns.Nodup) (l : List Nat) (hp : l.Perm (List.range ns.length)) (hs : l.Pairwise (lt ns)) : order ns = l :=
  List.Perm.eq_of_pairwise (fun a b _ _ h k => (lt_asymm ns a b h k).elim) (order_pairwise ns hn) hs ((order_perm ns).trans hp.symm)
end Sy

theorem ex_add0 : Sy.add 4 [] (⟨#[98]⟩ : ByteArray) = (0, 0, [⟨#[98]⟩]) := by decide +kernel
theorem ex_add1 : Sy.add 4 [⟨#[98]⟩] (⟨#[97]⟩ : ByteArray) = (1, 0, [⟨#[98]⟩, ⟨#[97]⟩]) := by decide +kernel
theorem ex_add2 : Sy.add 4 [⟨#[98]⟩, ⟨#[97]⟩] (⟨#[98]⟩ : ByteArray) = (0, 0, [⟨#[98]⟩, ⟨#[97]⟩]) := by decide +kernel
theorem ex_add3 : Sy.add 4 [⟨#[98]⟩, ⟨#[97]⟩] (⟨#[66]⟩ : ByteArray) = (0, 71, [⟨#[98]⟩, ⟨#[97]⟩]) := by decide +kernel
theorem ex_order : Sy.order [(⟨#[98]⟩ : ByteArray), ⟨#[97]⟩] = [1, 0] := by
  refine Sy.order_unique _ (by decide) _ (by decide) ?_
  simp [Sy.lt, Lib.compareBytes]

set_option maxHeartbeats 1000000 in
set_option maxRecDepth 100000 in
theorem alive_calls (w : World) : Calls Try.prog 14 #[] w fun e w' => e = .returned (.bool true) ∧ Below w.heap.size w w' := by
  have hnew := new_yes 4 w (by omega) (by omega)
  go_enter Try.func14, Try.ntmps14
  go_wp2_with (fail)
  refine hnew.mono ?_
  rintro e w1 ⟨rfl, T1, b1⟩
  have F1 := T1.toF
  generalize w.heap.size + 2 = p at *
  generalize hG : Tab.foot _ _ _ _ _ = G1 at F1
  clear T1 hG hnew
  go_wp2_with (first | (go_at_call 13; refine (num_calls _ _).mono ?_; rintro e w' ⟨rfl, rfl⟩))
  have h2 := add_f ⟨#[98]⟩ F1
  rw [ex_add0] at h2
  refine h2.mono ?_
  rintro e w2 ⟨rfl, G2, F2, k2, n2⟩
  clear h2
  go_wp2_with (fail)
  have h3 := add_f ⟨#[97]⟩ F2
  rw [ex_add1] at h3
  refine h3.mono ?_
  rintro e w3 ⟨rfl, G3, F3, k3, n3⟩
  clear h3
  go_wp2_with (fail)
  have h4 := add_f ⟨#[98]⟩ F3
  rw [ex_add2] at h4
  refine h4.mono ?_
  rintro e w4 ⟨rfl, G4, F4, k4, n4⟩
  clear h4
  go_wp2_with (fail)
  have h5 := add_f ⟨#[66]⟩ F4
  rw [ex_add3] at h5
  refine h5.mono ?_
  rintro e w5 ⟨rfl, G5, F5, k5, n5⟩
  clear h5
  go_wp2_with (first | (go_at_call 13; refine (num_calls _ _).mono ?_; rintro e w' ⟨rfl, rfl⟩))
  have h6 := sorted_f F5
  rw [ex_order] at h6
  refine h6.mono ?_
  rintro e w6 ⟨v, G6, rfl, r6, F6, k6, n6, -⟩
  clear h6
  have B2 : Below w.heap.size w w2 := b1.trans (k2.toBelow b1.size (fun i hi => (F1.2 i hi).1))
  have B3 : Below w.heap.size w w3 := B2.trans (k3.toBelow B2.size (fun i hi => (F2.2 i hi).1))
  have B4 : Below w.heap.size w w4 := B3.trans (k4.toBelow B3.size (fun i hi => (F3.2 i hi).1))
  have B5 : Below w.heap.size w w5 := B4.trans (k5.toBelow B4.size (fun i hi => (F4.2 i hi).1))
  have B6 : Below w.heap.size w w6 := B5.trans (k6.toBelow B5.size (fun i hi => (F5.2 i hi).1))
  have R6 : RdI w6 v [1, 0] := RdI.of_row r6
  have HR : RdI (w6.alloc (.cells #[.int .i64 1, .int .i64 0] 3)) v [1, 0] := R6.keep ((Keep.refl (fun _ => False) w6).alloc _) (fun _ _ _ _ => id)
  have HS : RdI (w6.alloc (.cells #[.int .i64 1, .int .i64 0] 3)) (.slice (some ⟨w6.heap.size, 0, none⟩) 2 2) [1, 0] :=
    ⟨_, 2, rfl, by simp, fun _ => ⟨_, rfl, fun j x hj => by
      rw [add_at]
      refine blk_cell (heap_alloc_new w6 _) j ?_
      match j, hj with
      | 0, hj => simpa using hj
      | 1, hj => simpa using hj⟩⟩
  have hsame := Lib.hid (sameInts_calls [1, 0] [1, 0] v _ _ HR HS)
  clear F1 F2 F3 F4 F5 F6 k2 k3 k4 k5 k6 n2 n3 n4 n5 n6 B2 B3 B4 B5 R6 HR HS r6 b1
  go_wp2_with (first | (go_at_call 23; refine hsame.out.mono ?_; rintro e w7 ⟨rfl, n7, rfl⟩))
  go_ret
  exact ⟨by rfl, below_drewN' (B6.alloc B6.size _) _⟩
end Go.Proofs.Ytmdfgiiihmameaa
