import Derived.Test.YtgkliaalfiginabDoorMonS3
import Derived.Test.YtgkliaalfiginabDoorMonW0
import Derived.Test.YtgkliaalfiginabDoorMonW2
import Derived.Deep.RegionHeldLaw
import Derived.Deep.AppendLies
import Derived.BigQuiet
/- the walk of MoneyOrder -/
namespace Go.Proofs.YtgkliaalfiginabDoor
open Go.RowKit Go.Lib
open Go.Proofs.YtgkliaalfiginabDoor.PMoneySums
open Go.Proofs.YtgkliaalfiginabDoorW.PrintWords
set_option linter.unusedVariables false
set_option linter.unusedSimpArgs false
theorem copy_own {w : World} {base : Nat} {ok : Nat → Prop} {v : Value} {l : List Int} (hR : Kd.R (Kd.int .i64) 22 w base ok v l) (h0 : 0 < l.length) :
    ∃ g c, v = .slice (some ⟨g, 0, none⟩) l.length c ∧ base ≤ g ∧ (∀ j x, l[j]? = some x → w.cell? ⟨g, j, none⟩ = some (.int .i64 x)) ∧ (∀ j, w.frozen? ⟨g, j, none⟩ = false) := by
  obtain ⟨inner, ho⟩ := Kd.R_own hR
  obtain ⟨A, c, hv, hc, hC⟩ := Kd.R_reads hR
  rcases ho.2 with ⟨rfl, h⟩ | ⟨g, cap, cur, rfl, hb, hh, h1, h2, h3, h4⟩
  · omega
  · injection hv with e1 e2 e3
    subst e1
    obtain ⟨A', c', he, _, hcs⟩ := rdI_of (c := c) hC
    injection he with e1 e2 e3
    subst e1
    obtain ⟨a, ha, hcell⟩ := hcs h0
    obtain rfl := Option.some.inj ha
    refine ⟨g, cap, rfl, hb, fun j x hj => ?_, fun j => by simp [World.frozen?, hh]⟩
    have := hcell j x hj
    rwa [Addr.add_lit, Nat.zero_add] at this
theorem swp_row {w : World} {g : Nat} {l : List Int} {i k : Nat} (hc : ∀ j x, l[j]? = some x → w.cell? ⟨g, j, none⟩ = some (.int .i64 x)) (hi : i < l.length) (hk : k < l.length) :
    ∀ j x, (Mo.swp l i k)[j]? = some x → ((w.setCell ⟨g, i, none⟩ (.int .i64 l[k])).setCell ⟨g, k, none⟩ (.int .i64 l[i])).cell? ⟨g, j, none⟩ = some (.int .i64 x) := by
  intro j x hj
  have ne : ∀ a b : Nat, a ≠ b → (⟨g, a, none⟩ : Addr) ≠ ⟨g, b, none⟩ := fun a b hab e => hab (by injection e)
  have e1 : l.getD k 0 = l[k] := by rw [List.getD_eq_getElem?_getD, List.getElem?_eq_getElem hk]; rfl
  have e2 : l.getD i 0 = l[i] := by rw [List.getD_eq_getElem?_getD, List.getElem?_eq_getElem hi]; rfl
  unfold Mo.swp at hj
  rw [e1, e2] at hj
  have ck := hc k _ (List.getElem?_eq_getElem hk)
  have ci := hc i _ (List.getElem?_eq_getElem hi)
  have c1 : ∃ u, (w.setCell ⟨g, i, none⟩ (.int .i64 l[k])).cell? ⟨g, k, none⟩ = some u := by
    by_cases h : i = k
    · subst h; exact ⟨_, World.cell?_setCell_same _ _ _ ci⟩
    · exact ⟨_, (World.cell?_setCell_other _ _ _ _ (ne _ _ h)).trans ck⟩
  obtain ⟨u, hu⟩ := c1
  by_cases h2 : j = k
  · subst h2
    rw [List.getElem?_set, if_pos rfl, if_pos (by simpa using hk)] at hj
    obtain rfl := Option.some.inj hj
    exact World.cell?_setCell_same _ _ _ hu
  · rw [World.cell?_setCell_other _ _ _ _ (ne _ _ (Ne.symm h2))]
    rw [List.getElem?_set, if_neg (Ne.symm h2)] at hj
    by_cases h1 : j = i
    · subst h1
      rw [List.getElem?_set, if_pos rfl, if_pos hi] at hj
      obtain rfl := Option.some.inj hj
      exact World.cell?_setCell_same _ _ _ ci
    · rw [World.cell?_setCell_other _ _ _ _ (ne _ _ (Ne.symm h1))]
      rw [List.getElem?_set, if_neg (Ne.symm h1)] at hj
      exact hc j x hj
theorem rdI_cells {w : World} {g c : Nat} {l : List Int} (hl : l.length ≤ 9223372036854775807) (h : ∀ j x, l[j]? = some x → w.cell? ⟨g, j, none⟩ = some (.int .i64 x)) : RdI w (.slice (some ⟨g, 0, none⟩) l.length c) l :=
  ⟨_, c, rfl, hl, fun _ => ⟨_, rfl, fun j x hj => by rw [Addr.add_lit, Nat.zero_add]; exact h j x hj⟩⟩
theorem pair_cells (w : World) (T : TypeId) (x y : Value) : ∀ j u, [x, y][j]? = some u → (w.alloc (.cells #[x, y] T)).cell? ((⟨w.heap.size, 0, none⟩ : Addr).add j) = some u := by
  intro j u hj
  rw [add_at]
  refine blk_cell (heap_alloc_new w _) j ?_
  match j, hj with
  | 0, hj => obtain rfl := Option.some.inj hj; rfl
  | 1, hj => obtain rfl := Option.some.inj hj; rfl
theorem rdI_own {w : World} {base : Nat} {e : TypeId} {v : Value} {xs : List Int} (h : w.ownsRow base e 1 v xs.length (xs.map (Value.int .i64))) (hl : xs.length ≤ 9223372036854775807) : RdI w v xs := by
  rcases h.2 with ⟨rfl, h0⟩ | ⟨g, cap, cur, rfl, _, hh, h1, h2, h3, h4⟩
  · exact ⟨none, 0, by rw [h0], hl, fun hp => absurd hp (by omega)⟩
  · exact ⟨_, cap, rfl, hl, fun _ => ⟨_, rfl, fun j x hj => h.cells (g := g) rfl j (.int .i64 x) (by simp [hj])⟩⟩
theorem take_all (l : List Int) (j : Nat) (h : j < l.length) : (l.take (j + 1)).all Mo.okI = ((l.take j).all Mo.okI && Mo.okI l[j]) := by
  rw [List.take_succ_eq_append_getElem h, List.all_append]
  simp
/-- a place in a list, from any number -/
theorem place (a n : Int) (h0 : 0 < n) (h1 : n ≤ 1048576) : ∃ i : Nat, (i : Int) < n ∧ ((a.tmod n + n).tmod n = (i : Int)) ∧ -1048576 < a.tmod n ∧ a.tmod n < 1048576 := by
  have b1 := Int.tmod_lt_of_pos a h0
  have b2 : -n < a.tmod n := by
    have := Int.tmod_lt_of_pos (-a) h0
    rw [Int.neg_tmod] at this
    omega
  have c1 := Int.tmod_lt_of_pos (a.tmod n + n) h0
  have c2 : 0 ≤ (a.tmod n + n).tmod n := Int.tmod_nonneg _ (by omega)
  exact ⟨((a.tmod n + n).tmod n).toNat, by omega, by omega, by omega, by omega⟩
set_option maxHeartbeats 4000000 in
set_option maxRecDepth 100000 in
theorem order_some (A0 : Option Addr) (c0 : Nat) (l : List Int) (a b : Int) (w : World) (hC : Kd.C (Kd.int .i64) w A0 l.length l) (hc0 : l.length ≤ c0) (hl : l.length ≤ 1048576) (h0 : 0 < l.length) :
    Calls Tryd.prog 5 #[.slice A0 l.length c0, .int .i64 a, .int .i64 b] w fun e w' => e = .returned (.bool true) ∧ Below w.heap.size w w' := by
  have HP := Lib.hid (fun w1 (hb : Below w.heap.size w w1) => lexpriorplain_CopyMoney.calls (l.length + 1) A0 c0 l l w1 (Kd.C_below hC hb) hc0 (Mo.copy_f l hl))
  have HV := Lib.hid (rdI_of (c := c0) hC)
  have HS := Lib.hid (fun v w1 (h : RdI w1 v l) => sum_calls l v w1 h)
  have HS2 := Lib.hid (fun i k (hi : i < l.length) (hk : k < l.length) v w1 (h : RdI w1 v (Mo.swp l i k)) => by have := sum_calls (Mo.swp l i k) v w1 h; rw [Mo.sumE_swp l i k hi hk] at this; exact this)
  clear hC
  obtain ⟨i, hi, ei, a1, a2⟩ := place a l.length (by omega) (by omega)
  obtain ⟨k, hk, ek, b1, b2⟩ := place b l.length (by omega) (by omega)
  obtain ⟨n, hn⟩ : ∃ n, l.length = n := ⟨_, rfl⟩
  rw [hn] at HP HV hc0 hl hi hk ei ek h0 a1 a2 b1 b2 ⊢
  have d0 : decide ((0 : Int) < n) = true := decide_eq_true (by omega)
  have d1 : ((n : Int) == 0) = false := by simp; omega
  go_enter Tryd.func5, Tryd.ntmps5
  go_upto_region 5 with (first
    | (go_at_call 16; refine (works_calls _).mono ?_; rintro e w1 ⟨rfl, b1⟩; have B1 := Lib.hid b1; clear b1)
    | (go_at_call 17; refine (HP.out _ B1.out).mono ?_; rintro e w2 ⟨v, rfl, hR, b2⟩
       obtain ⟨g, c, rfl, hge, hcs, hfr⟩ := copy_own hR (by omega)
       have B2 := Lib.hid (B1.out.trans (b2.mono B1.out.size))
       have HG := Lib.hid (Nat.le_trans B1.out.size hge)
       have HC := Lib.hid hcs
       have HF := Lib.hid hfr
       clear hR b2 hcs hfr hge HP
       rw [hn]))
  have r1 : IntKind.i64.wrap (a.tmod (n : Int)) = a.tmod (n : Int) := IntWalk.i64_in _ (by omega)
  have r2 : IntKind.i64.wrap (a.tmod (n : Int) + n) = a.tmod (n : Int) + n := IntWalk.i64_in _ (by omega)
  have r3 : IntKind.i64.wrap (b.tmod (n : Int)) = b.tmod (n : Int) := IntWalk.i64_in _ (by omega)
  have r4 : IntKind.i64.wrap (b.tmod (n : Int) + n) = b.tmod (n : Int) + n := IntWalk.i64_in _ (by omega)
  have r5 : IntKind.i64.wrap (i : Int) = (i : Int) := IntWalk.i64_in _ (by omega)
  have r6 : IntKind.i64.wrap (k : Int) = (k : Int) := IntWalk.i64_in _ (by omega)
  go_quiet (fail)
  generalize hW : w2.drewN nq = W
  have B3 := Lib.hid (show Below w.heap.size w W by rw [← hW]; exact below_drewn B2.out nq)
  have HC3 := Lib.hid (show ∀ j x, l[j]? = some x → W.cell? ⟨g, j, none⟩ = some (.int .i64 x) by rw [← hW]; exact HC.out)
  have HF3 := Lib.hid (show ∀ j, W.frozen? ⟨g, j, none⟩ = false by rw [← hW]; exact HF.out)
  clear hW HC HF B2 r1 r2 r3 r4 r5 r6 ei ek a1 a2 b1 b2
  have HSW := Lib.hid (swp_row HC3.out (show i < l.length by omega) (show k < l.length by omega))
  have q1 := HC3.out i _ (List.getElem?_eq_getElem (show i < l.length by omega))
  have q2 := HC3.out k _ (List.getElem?_eq_getElem (show k < l.length by omega))
  have f1 := HF3.out i
  have f2 := HF3.out k
  generalize l[i] = x at *
  generalize l[k] = y at *
  have z1 : (0 : Int) ≤ i := by omega
  have z2 : (0 : Int) ≤ k := by omega
  have q3 : (W.setCell ⟨g, i, none⟩ (.int .i64 y)).cell? ⟨g, k, none⟩ = some (.int .i64 y) := by
    by_cases h : i = k
    · subst h; exact World.cell?_setCell_same _ _ _ q1
    · exact (World.cell?_setCell_other _ _ _ _ (fun e => h (by injection e))).trans q2
  go_wp2_with fail
  go_big_region
  obtain ⟨W4, hW4⟩ : ∃ W4, ((W.setCell ⟨g, i, none⟩ (.int .i64 y)).setCell ⟨g, k, none⟩ (.int .i64 x)).drew = W4 := ⟨_, rfl⟩
  have B4 := Lib.hid (show Below w.heap.size w W4 by rw [← hW4]; exact ((B3.out.setCell (p := ⟨g, i, none⟩) HG.out _).setCell (p := ⟨g, k, none⟩) HG.out _).drew)
  have HM := Lib.hid (show RdI W4 (.slice (some ⟨g, 0, none⟩) n c) (Mo.swp l i k) by
    rw [← hW4, show n = (Mo.swp l i k).length by rw [Mo.swp_len, hn]]
    exact rdI_cells (by rw [Mo.swp_len]; omega) HSW.out)
  have HS1 := Lib.hid (HS.out _ _ (HV.out.below B4.out))
  have HS3 := Lib.hid (HS2.out i k (by omega) (by omega) _ _ HM.out)
  clear HS HS2 HM q1 q2 q3 f1 f2 HC3 HF3 HSW B3 HG
  obtain ⟨se, hse⟩ : ∃ se, Mo.sumE l = se := ⟨_, rfl⟩
  rw [hse] at HS1 HS3
  have HNo := Lib.hid (show l.all Mo.okI = false → se = (0, 22) from fun h => hse.symm.trans (Mo.sumE_no l h))
  have HYes := Lib.hid (fun v w1 (hall : l.all Mo.okI = true) (h : RdI w1 v (Mo.both l)) => by have := sum_calls (Mo.both l) v w1 h; rw [Mo.sumE_both l hall] at this; exact this)
  clear hse
  rw [hW4]
  clear hW4
  go_wp2_with (first
    | (go_at_call 18; first | (with_reducible refine HS1.out.mono ?_) | (with_reducible refine HS3.out.mono ?_); rintro e w3 ⟨rfl, rfl⟩))
  clear HS1 HS3
  obtain ⟨i0, hinfo, hz0, hz1, hz2⟩ := info_parts infoM
  go_loop [14, 15] (fun o u => ∃ j : Nat, j ≤ n ∧ u = .int .i64 j ∧ o = .bool ((l.take j).all Mo.okI)) (fun _ u => n - (intOf u).toNat)
  case atStart => exact ⟨0, Nat.zero_le _, rfl, rfl⟩
  case round =>
    obtain ⟨j, hj, rfl, rfl⟩ := hrel
    by_cases hlt : j < n
    · obtain ⟨A, c', hv, hlen, hcs⟩ := HV.out
      injection hv with e1 e2 e3
      subst e1
      clear e2 e3
      obtain ⟨a', rfl, hcc⟩ := hcs (by omega)
      have hjl : j < l.length := by omega
      have hx : l[j]? = some l[j] := List.getElem?_eq_getElem hjl
      have q1 := (B4.out.cell (p := a'.add j) (World.block_lt_of_cell? w _ (hcc j _ hx))).trans (hcc j _ hx)
      have HTk := Lib.hid (take_all l j hjl)
      clear hx hcc hcs hlen HV HNo HYes hinfo hz0 hz1 hz2
      obtain ⟨q, hq⟩ : ∃ q, (l.take j).all Mo.okI = q := ⟨_, rfl⟩
      rw [hq] at HTk ⊢
      clear hq
      generalize l[j] = x at *
      have z1 : (j : Int) < n := by omega
      have z2 : (0 : Int) ≤ j := by omega
      cases q with
      | true =>
        go_wp2_with (first | (go_at_call 12; refine (check_calls _ _).mono ?_; rintro e W2 ⟨rfl, rfl⟩))
        go_round
        case rel => exact ⟨j + 1, by omega, by go_num, by rw [HTk.out]; rfl⟩
        case measure => simp [intOf]; omega
      | false =>
        go_wp2_with (first | (go_at_call 12; refine (check_calls _ _).mono ?_; rintro e W2 ⟨rfl, rfl⟩))
        go_round
        case rel => exact ⟨j + 1, by omega, by go_num, by rw [HTk.out]; rfl⟩
        case measure => simp [intOf]; omega
    · obtain rfl : n = j := by omega
      rw [List.take_of_length_le (show l.length ≤ n by omega)]
      obtain ⟨q, hq⟩ : ∃ q, l.all Mo.okI = q := ⟨_, rfl⟩
      rw [hq]
      cases q with
      | false =>
        have hse := HNo.out hq
        subst hse
        clear HNo HYes hinfo hz0 hz1 hz2
        go_wp2_with fail
        go_ret
        exact ⟨by first | rfl | simp, B4.out⟩
      | true =>
        clear HNo
        have HY := Lib.hid (fun v w1 h => HYes.out v w1 hq h)
        have HOk := Lib.hid (show ∀ j (h : j < l.length), -1000000000000000 ≤ l[j] ∧ l[j] ≤ 1000000000000000 from fun j h => (Mo.okI_iff _).1 (List.all_eq_true.1 hq _ (List.getElem_mem h)))
        clear HYes hq
        go_wp2_with fail
        go_loopw [16, 17] (fun v u wr => ∃ j : Nat, j ≤ n ∧ u = .int .i64 j ∧ World.ownsRow wr w.heap.size 22 1 v (2 * j) ((Mo.both (l.take j)).map (Value.int .i64)) ∧ Below w.heap.size w wr) (fun _ u _ => n - (intOf u).toNat)
        case atStart => exact ⟨0, Nat.zero_le _, rfl, World.ownsRow_nil _ _ _ _, B4.out⟩
        case round =>
          obtain ⟨j, hj, rfl, ho, hb⟩ := hrel
          have HO := Lib.hid ho
          have HB := Lib.hid hb
          clear ho hb
          by_cases hlt : j < n
          · obtain ⟨A, c', hv, hlen, hcs⟩ := HV.out
            injection hv with e1 e2 e3
            subst e1
            clear e2 e3
            obtain ⟨a', rfl, hcc⟩ := hcs (by omega)
            have hjl : j < l.length := by omega
            have hx : l[j]? = some l[j] := List.getElem?_eq_getElem hjl
            have q1 := (HB.out.cell (p := a'.add j) (World.block_lt_of_cell? w _ (hcc j _ hx))).trans (hcc j _ hx)
            have hbl := World.block_lt_of_cell? w _ (hcc j _ hx)
            have hok := HOk.out j hjl
            have HTk := Lib.hid (Mo.both_take l j hjl)
            clear hx hcc hcs hlen HV HOk HY
            generalize l[j] = x at *
            have z1 : (j : Int) < n := by omega
            have z2 : (0 : Int) ≤ j := by omega
            have r1 : IntKind.i64.wrap (-x) = -x := IntWalk.i64_in _ (by omega)
            go_upto_region 22 with (fail)
            have hsz := HB.out.size
            have hal := World.block_lt_of_cell? wr _ q1
            have hne : some (a'.add j).block ≠ u16.ownBlock := fun e => by have := (HO.out.lt _ e.symm).1; omega
            go_region_held_law (fun w' => w'.cell? (a'.add j) = some (.int .i64 x))
              (first | go_keep | (rw [hgrow.cell_far _ (by simp; omega) hne]; assumption))
              ((refine step_append_lies _ (by rfl) _ _ _ (by rfl) w.heap.size 22 i0 _ 1 8 Tryd.underlying38 hinfo hz0 hz1 hz2 rfl (by omega) u16 (2 * j) ((Mo.both (l.take j)).map (Value.int .i64)) (by rfl) ((HO.out.alloc _).drew) ⟨wr.heap.size, 0, none⟩ 2 2 [.int .i64 x, .int .i64 (-x)] (by rfl) (by rfl) (World.news_of_block (cs := #[.int .i64 x, .int .i64 (-x)]) (t := 22) (fr := (0, 0)) (heap_alloc_new wr _)) (by simp [Value.oneCell']) (by omega) (by unfold maxLen; omega) (by omega) (by simp; omega) (wr.heap.size + 1) (by simp) ?_; intro gg cap w3 hown3 hgrow hat hlt3))
            have HO3 := Lib.hid (show World.ownsRow w3 w.heap.size 22 1 (.slice (some ⟨gg, 0, none⟩) (2 * (j + 1)) cap) (2 * (j + 1)) ((Mo.both (l.take (j + 1))).map (Value.int .i64)) by
              rw [HTk.out, List.map_append, show 2 * (j + 1) = 2 * j + 2 by omega]
              exact hown3)
            have hs1 : (wr.alloc (.cells #[.int .i64 x, .int .i64 (-x)] 22)).drew.heap.size = wr.heap.size + 1 := by simp
            have HB3 := Lib.hid (show Below w.heap.size w w3 from ((HB.out.alloc hsz _).drew).grown hgrow (by omega) (fun q hq => (HO.out.lt q hq).1))
            clear hown3 hgrow hsz hat hlt3 hne hal hbl hs1
            go_wp2_with fail
            go_roundw
            case rel => exact ⟨j + 1, by omega, by go_num, HO3.out, HB3.out⟩
            case measure => simp [intOf]; omega
          · obtain rfl : n = j := by omega
            have hbl := Mo.both_len l
            have HO2 := Lib.hid (show RdI wr u16 (Mo.both l) by
              have h := HO.out
              rw [List.take_of_length_le (show l.length ≤ n by omega), show 2 * n = (Mo.both l).length by omega] at h
              exact rdI_own h (by omega))
            have HY2 := Lib.hid (HY.out _ _ HO2.out)
            clear HO HY HO2 HV HOk
            go_wp2_with (first | (go_at_call 18; refine HY2.out.mono ?_; rintro e w3 ⟨rfl, rfl⟩))
            go_ret
            exact ⟨by first | rfl | simp, HB.out⟩
end Go.Proofs.YtgkliaalfiginabDoor
