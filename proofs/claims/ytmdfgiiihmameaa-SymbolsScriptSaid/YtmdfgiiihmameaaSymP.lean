import Derived.Test.YtmdfgiiihmameaaSymO
namespace Go.Proofs.Ytmdfgiiihmameaa
open Go.Shelf Go.RowKit Go.Lib Go.Sort
set_option linter.unusedVariables false
set_option linter.unusedSimpArgs false

/-- a store into an owned row -/
theorem row_store {W : World} {B : Nat} {e : TypeId} {A : Option Addr} {n c : Nat} {xs : List Value} (h : W.ownsRow B e 1 (.slice A n c) n xs) (k : Nat) (hk : k < n) (u : Value) :
    ∃ g, A = some ⟨g, 0, none⟩ ∧ (∃ x, W.cell? ⟨g, k, none⟩ = some x) ∧ W.frozen? ⟨g, k, none⟩ = false ∧ ∃ xs', (W.setCell ⟨g, k, none⟩ u).ownsRow B e 1 (.slice A n c) n xs' := by
  obtain ⟨h1, h2⟩ := h
  rcases h2 with ⟨h2, h3⟩ | ⟨g, cap, cur, he, hb, hh, hc1, hc2, hs, ht⟩
  · omega
  · injection he with e1 e2 e3
    subst e1
    subst e3
    have hlt : k < cur.size := by rw [hs]; omega
    refine ⟨g, rfl, ⟨cur[k], blk_cell hh k (Array.getElem?_eq_getElem hlt)⟩, blk_free hh k, (cur.setIfInBounds k u).toList.take (n * 1), ?_, .inr ⟨g, c, cur.setIfInBounds k u, rfl, hb, heap_setCell_same hh k u, hc1, hc2, by simp [hs], rfl⟩⟩
    simp [hs]; omega

theorem sameStrings_yes (xs : List ByteArray) (a b : Value) (w : World) (ha : RdS w a xs) (hb : RdS w b xs) :
    Calls Try.prog 22 #[a, b] w fun e w' => e = .returned (.bool true) ∧ ∃ n, w' = w.drewN n := by
  have h := sameStrings_calls xs xs a b w ha hb
  rwa [decide_eq_true (rfl : xs = xs)] at h
theorem sameInts_yes (xs : List Int) (a b : Value) (w : World) (ha : RdI w a xs) (hb : RdI w b xs) :
    Calls Try.prog 23 #[a, b] w fun e w' => e = .returned (.bool true) ∧ ∃ n, w' = w.drewN n := by
  have h := sameInts_calls xs xs a b w ha hb
  rwa [decide_eq_true (rfl : xs = xs)] at h

set_option maxHeartbeats 2000000 in
set_option maxRecDepth 100000 in
theorem own_walk (v : Value) (ss : List ByteArray) (w : World) (hv : RdS w v ss) :
    Calls Try.prog 6 #[v] w fun e w' => e = .returned (.bool true) ∧ Below w.heap.size w w' := by
  obtain ⟨A, c, rfl, hlen, hcs, hsz⟩ := hv
  have HC := Lib.hid hcs
  have HZ := Lib.hid hsz
  clear hcs hsz
  go_enter Try.func6, Try.ntmps6
  go_wp2_with (fail)
  refine (alive_calls w).mono ?_
  rintro e wa ⟨rfl, ba⟩
  go_wp2_with (fail)
  refine (new_yes 64 wa (by omega) (by omega)).mono ?_
  rintro e w1 ⟨rfl, T1, b1⟩
  have F1 := T1.toF
  have B1 : Below w.heap.size w w1 := ba.trans (b1.mono ba.size)
  have ha := ba.size
  generalize wa.heap.size = B at *
  generalize hp : B + 2 = p at *
  generalize Tab.foot _ _ _ _ _ = G1 at F1
  clear T1 hp b1 ba
  have HB1 := Lib.hid B1
  have HF1 := Lib.hid F1
  clear B1 F1
  go_wp2_with (first | (go_at_call 13; refine (num_calls _ _).mono ?_; rintro e w' ⟨rfl, rfl⟩))
  go_loopw [5] (fun v wr => ∃ (k : Nat) (ns : List ByteArray) (F : Nat → Prop), k ≤ ss.length ∧ v = .int .i64 k ∧ TabF B F wr p 64 ns ∧ Below w.heap.size w wr) (fun v _ => ss.length - (intOf v).toNat)
  case atStart => exact ⟨0, [], G1, Nat.zero_le _, rfl, HF1.out, HB1.out⟩
  case round =>
    obtain ⟨k, ns, F, hk, rfl, hT, hB⟩ := hrel
    have HT := Lib.hid hT
    have HB := Lib.hid hB
    clear hT hB
    by_cases hlt : k < ss.length
    · have hlt2 : (k : Int) < ss.length := by omega
      have hk2 : (0 : Int) ≤ k := by omega
      obtain ⟨a, rfl, hc⟩ := HC.out (by omega)
      obtain ⟨s, hs⟩ : ∃ s, ss[k]? = some s := ⟨_, List.getElem?_eq_getElem hlt⟩
      have hcell := hc k s hs
      have hab : a.block < w.heap.size := by have := World.block_lt_of_cell? w _ hcell; rwa [add_block] at this
      have hcell1 : wr.cell? (a.add k) = some (.string s) := (HB.out.cell (p := a.add k) (by rw [add_block]; exact hab)).trans hcell
      clear hc hcell hs
      have hA := Lib.hid (add_f s HT.out)
      go_wp2_with (first | (go_at_call 15; refine hA.out.mono ?_; rintro e w2 ⟨rfl, G2, T2, K2, -⟩; have HT2 := Lib.hid T2; have HK2 := Lib.hid K2; clear T2 K2))
      go_roundw
      case rel => exact ⟨k + 1, _, G2, by omega, by go_num, HT2.out, HB.out.trans (HK2.out.toBelow HB.out.size (fun j hj => by have := (HT.out.2 j hj).1; omega))⟩
      case measure => simp [intOf]; omega
    · have hsm := HT.out.small
      have hnd : ns.Nodup := HT.out.nodup
      have hns : ∀ x ∈ ns, x.size ≤ maxLen := HT.out.sizes
      have HNS := Lib.hid hns
      have hT1 := Lib.hid (names_f HT.out)
      go_wp2_with (fail)
      refine hT1.out.mono ?_
      rintro e x1 ⟨va, rfl, ra, bx1⟩
      have T1 := HT.out.below bx1
      have hT2 := Lib.hid (sorted_f T1)
      have B1 := HB.out.trans (bx1.mono HB.out.size)
      have HRA := Lib.hid ra
      have HT1 := Lib.hid T1
      have HB1' := Lib.hid B1
      have Hx1 := Lib.hid bx1
      clear ra T1 B1 bx1 hT1
      go_wp2_with (fail)
      refine hT2.out.mono ?_
      rintro e x2 ⟨vb, F2, rfl, rb, T2, k2, n2, d2⟩
      have ra2 : x2.ownsRow wr.heap.size 9 1 va ns.length (ns.map Value.string) := k2.row HRA.out (fun q hq hf => by have := row_ge HRA.out hq; have := (HT.out.2 q hf).2; omega)
      have na2 : ∀ q, va.ownBlock = some q → ¬ F2 q := fun q hq hf => by
        have h1 := row_ge HRA.out hq
        have h2 := row_lt HRA.out hq
        rcases n2 q hf with hf2 | hf2
        · have := (HT.out.2 q hf2).2; omega
        · omega
      have B2 := HB1'.out.trans (k2.toBelow HB1'.out.size (fun j hj => by have := (HT.out.2 j hj).1; omega))
      have hT3 := Lib.hid (names_f T2)
      have HX2 := Lib.hid (show x2.ownsRow wr.heap.size 9 1 va ns.length (ns.map Value.string) ∧ x2.ownsRow x1.heap.size 3 1 vb ns.length ((Sy.order ns).map (fun (i : Nat) => Value.int .i64 i)) ∧ TabF B F2 x2 p 64 ns ∧ (∀ q, va.ownBlock = some q → ¬ F2 q) ∧ (∀ q, vb.ownBlock = some q → ¬ F2 q) ∧ Below w.heap.size w x2 from ⟨ra2, rb, T2, na2, d2, B2⟩)
      clear ra2 rb T2 na2 d2 B2 k2 n2 hT2 HRA HT1 HB1' Hx1
      go_wp2_with (fail)
      refine hT3.out.mono ?_
      rintro e x3 ⟨vc, rfl, rc, bx3⟩
      have T3 := HX2.out.2.2.1.below bx3
      have hT4 := Lib.hid (sorted_f T3)
      have HT3 := Lib.hid T3
      have HRC := Lib.hid rc
      have Hx3 := Lib.hid bx3
      clear T3 rc bx3 hT3
      go_wp2_with (fail)
      refine hT4.out.mono ?_
      rintro e x4 ⟨vd, F4, rfl, rd, T4, k4, n4, d4⟩
      obtain ⟨rA, rB, hTx2, nA, nB, bX2⟩ := HX2.out
      have sx2 := Hx3.out.size
      have ra4 : x4.ownsRow wr.heap.size 9 1 va ns.length (ns.map Value.string) := k4.row ((Keep.of_below (F := fun _ => False) Hx3.out).row rA (fun _ _ => id)) nA
      have rb4 : x4.ownsRow x1.heap.size 3 1 vb ns.length ((Sy.order ns).map (fun (i : Nat) => Value.int .i64 i)) := k4.row ((Keep.of_below (F := fun _ => False) Hx3.out).row rB (fun _ _ => id)) nB
      have old : ∀ q, F4 q → F2 q ∨ x3.heap.size ≤ q := n4
      have na4 : ∀ q, va.ownBlock = some q → ¬ F4 q := fun q hq hf => by
        rcases old q hf with h | h
        · exact nA q hq h
        · have := row_lt rA hq; omega
      have nb4 : ∀ q, vb.ownBlock = some q → ¬ F4 q := fun q hq hf => by
        rcases old q hf with h | h
        · exact nB q hq h
        · have := row_lt rB hq; omega
      have rc4 : x4.ownsRow x2.heap.size 9 1 vc ns.length (ns.map Value.string) := k4.row HRC.out (fun q hq hf => by have := row_ge HRC.out hq; have := (hTx2.2 q hf).2; omega)
      have nc4 : ∀ q, vc.ownBlock = some q → ¬ F4 q := fun q hq hf => by
        have h1 := row_ge HRC.out hq
        have h2 := row_lt HRC.out hq
        rcases old q hf with h | h
        · have := (hTx2.2 q h).2; omega
        · omega
      have B4 := (bX2.trans (Hx3.out.mono bX2.size)).trans (k4.toBelow (Nat.le_trans bX2.size sx2) (fun j hj => by have := (hTx2.2 j hj).1; omega))
      have ltA := fun q (hq : va.ownBlock = some q) => row_lt rA hq
      have ltB := fun q (hq : vb.ownBlock = some q) => row_lt rB hq
      have geC := fun q (hq : vc.ownBlock = some q) => row_ge rc4 hq
      have geD := fun q (hq : vd.ownBlock = some q) => row_ge rd hq
      have ltC := fun q (hq : vc.ownBlock = some q) => row_lt HRC.out hq
      have s3 := Hx3.out.size
      obtain ⟨Ac, qc, rfl⟩ := row_slice rc4
      obtain ⟨Ad, qd, rfl⟩ := row_slice rd
      obtain ⟨Aa, qa, rfl⟩ := row_slice ra4
      obtain ⟨Ab, qb, rfl⟩ := row_slice rb4
      have HA4 := Lib.hid ra4
      have HB4 := Lib.hid rb4
      have HC4 := Lib.hid rc4
      have HD4 := Lib.hid rd
      have HT4 := Lib.hid T4
      have HN := Lib.hid (And.intro na4 (And.intro nb4 (And.intro nc4 d4)))
      have HBel4 := Lib.hid B4
      have HW := Lib.hid (show w.heap.size ≤ x2.heap.size ∧ x2.heap.size ≤ x3.heap.size from ⟨bX2.size, sx2⟩)
      have HS := Lib.hid (And.intro ltA (And.intro ltB (And.intro geC (And.intro geD ltC))))
      clear ra4 rb4 rc4 rd T4 na4 nb4 nc4 d4 B4 k4 n4 old ltA ltB geC geD ltC rA rB hTx2 nA nB bX2 HX2 HRC Hx3 HT3 hT4
      go_wp2_with (fail)
      go_loopw [10] (fun v wr => ∃ (j : Nat) (xs : List Value), j ≤ ns.length ∧ v = .int .i64 j ∧ wr.ownsRow x2.heap.size 9 1 (.slice Ac ns.length qc) ns.length xs ∧ Keep (fun i => (Value.slice Ac ns.length qc).ownBlock = some i) x4 wr) (fun v _ => ns.length - (intOf v).toNat)
      case atStart => exact ⟨0, _, Nat.zero_le _, rfl, HC4.out, Keep.refl _ _⟩
      case round =>
        obtain ⟨j, xs, hj, rfl, hrw, hkp⟩ := hrel
        have HR := Lib.hid hrw
        have HK := Lib.hid hkp
        clear hrw hkp
        by_cases hlt : j < ns.length
        · have t1 : (j : Int) < ns.length := by omega
          have t2 : (0 : Int) ≤ j := by omega
          obtain ⟨g, rfl, ⟨x, hx⟩, hf, xs', hrow'⟩ := row_store HR.out j hlt (.string ⟨#[109, 97, 114, 107, 101, 100]⟩)
          have HR' := Lib.hid hrow'
          clear hrow'
          go_wp2
          go_roundw
          case rel => exact ⟨j + 1, xs', by omega, by go_num, HR'.out, HK.out.setCell (p := ⟨g, j, none⟩) (fun _ => rfl) _⟩
          case measure => simp [intOf]; omega
        · go_wp2_with (fail)
          obtain ⟨x5, hx5⟩ : ∃ x5, x5 = wr := ⟨_, rfl⟩
          rw [← hx5] at HK ⊢
          have HD5 := Lib.hid (HK.out.row HD4.out (fun q hq e => by have := HS.out.2.2.2.1 q hq; have := HS.out.2.2.2.2 q e; omega))
          clear HR hx5
          go_loopw [11] (fun v wr => ∃ (j : Nat) (xs : List Value), j ≤ ns.length ∧ v = .int .i64 j ∧ wr.ownsRow x3.heap.size 3 1 (.slice Ad ns.length qd) ns.length xs ∧ Keep (fun i => (Value.slice Ad ns.length qd).ownBlock = some i) x5 wr) (fun v _ => ns.length - (intOf v).toNat)
          case atStart => exact ⟨0, _, Nat.zero_le _, rfl, HD5.out, Keep.refl _ _⟩
          case round =>
            obtain ⟨i, ys, hi, rfl, hrw, hkp⟩ := hrel
            have HR := Lib.hid hrw
            have HK6 := Lib.hid hkp
            clear hrw hkp
            by_cases hlt6 : i < ns.length
            · have t1 : (i : Int) < ns.length := by omega
              have t2 : (0 : Int) ≤ i := by omega
              obtain ⟨g, rfl, ⟨x, hx⟩, hf, xs', hrow'⟩ := row_store HR.out i hlt6 (.int .i64 (-1))
              have HR' := Lib.hid hrow'
              clear hrow'
              go_wp2
              go_roundw
              case rel => exact ⟨i + 1, xs', by omega, by go_num, HR'.out, HK6.out.setCell (p := ⟨g, i, none⟩) (fun _ => rfl) _⟩
              case measure => simp [intOf]; omega
            · go_wp2_with (fail)
              obtain ⟨x6, hx6⟩ : ∃ x6, x6 = wr := ⟨_, rfl⟩
              rw [← hx6] at HK6 ⊢
              obtain ⟨na, nb, nc, nd⟩ := HN.out
              obtain ⟨ltA, ltB, geC, geD, ltC⟩ := HS.out
              obtain ⟨hw1, hw2⟩ := HW.out
              have ra6 := HK6.out.row (HK.out.row HA4.out (fun q hq e => by have := ltA q hq; have := geC q e; omega)) (fun q hq e => by have := ltA q hq; have := geD q e; omega)
              have rb6 := HK6.out.row (HK.out.row HB4.out (fun q hq e => by have := ltB q hq; have := geC q e; omega)) (fun q hq e => by have := ltB q hq; have := geD q e; omega)
              have T6 := (HT4.out.keep HK.out (fun q hq e => nc q e hq)).keep HK6.out (fun q hq e => nd q e hq)
              have B6 : Below w.heap.size w x6 := (HBel4.out.trans (HK.out.toBelow HBel4.out.size (fun q hq => by have := geC q hq; omega))).trans (HK6.out.toBelow (Nat.le_trans HBel4.out.size HK.out.size) (fun q hq => by have := geD q hq; omega))
              have hC7 := Lib.hid (copy_f T6)
              have HA6 := Lib.hid ra6
              have HB6 := Lib.hid rb6
              have HT6 := Lib.hid T6
              have HBel6 := Lib.hid B6
              have HNA := Lib.hid na
              have HNB := Lib.hid nb
              clear ra6 rb6 T6 B6 na nb nc nd ltA ltB geC geD ltC HN HS HK HK6 HA4 HB4 HC4 HD4 HT4 HBel4 HD5 HR hx6 hlt hlt6
              refine hC7.out.mono ?_
              rintro e y1 ⟨p', F', rfl, TC, by1⟩
              have hadd := Lib.hid (add_f (⟨#[111, 110, 108, 121, 95, 105, 110, 95, 116, 104, 101, 95, 99, 111, 112, 121]⟩ : ByteArray) TC)
              have HTC := Lib.hid TC
              have HY1 := Lib.hid by1
              clear TC by1 hC7
              go_wp2_with (fail)
              refine hadd.out.mono ?_
              rintro e y2 ⟨rfl, F'', -, ky2, -⟩
              have dis : ∀ q, q < x6.heap.size → ¬ F' q := fun q hq hf => by have := (HTC.out.2 q hf).1; omega
              have T2 := (HT6.out.below HY1.out).keep ky2 (fun q hq hf => dis q (HT6.out.2 q hq).2 hf)
              have ra2 := ky2.row ((Keep.of_below (F := fun _ => False) HY1.out).row HA6.out (fun _ _ => id)) (fun q hq hf => dis q (row_lt HA6.out hq) hf)
              have rb2 := ky2.row ((Keep.of_below (F := fun _ => False) HY1.out).row HB6.out (fun _ _ => id)) (fun q hq hf => dis q (row_lt HB6.out hq) hf)
              have B2 := (HBel6.out.trans (HY1.out.mono HBel6.out.size)).trans (ky2.toBelow (Nat.le_trans HBel6.out.size HY1.out.size) (fun q hq => by have := (HTC.out.2 q hq).1; have := HBel6.out.size; omega))
              have hN := Lib.hid (names_f T2)
              have HT2 := Lib.hid T2
              have HA2 := Lib.hid ra2
              have HB2 := Lib.hid rb2
              have HBel2 := Lib.hid B2
              clear T2 ra2 rb2 B2 dis ky2 hadd HTC HY1 HT6 HA6 HB6 HBel6
              go_wp2_with (fail)
              refine hN.out.mono ?_
              rintro e y3 ⟨v3, rfl, r3, by3⟩
              have RS3 := Lib.hid (RdS.of_row r3 HNS.out)
              have RA3 := Lib.hid (RdS.of_row ((Keep.of_below (F := fun _ => False) by3).row HA2.out (fun _ _ => id)) HNS.out)
              have hsame := Lib.hid (sameStrings_yes ns v3 _ y3 RS3.out RA3.out)
              have HY3 := Lib.hid by3
              clear r3 by3 hN
              go_wp2_with (fail)
              refine hsame.out.mono ?_
              rintro e y4 ⟨rfl, n4, hy4⟩
              have b4 : Below y2.heap.size y2 y4 := by rw [hy4]; exact below_drewN' HY3.out n4
              have T4 := HT2.out.below b4
              have B4 := HBel2.out.trans (b4.mono HBel2.out.size)
              have rb4 := (Keep.of_below (F := fun _ => False) b4).row HB2.out (fun _ _ => id)
              have hS5 := Lib.hid (sorted_f T4)
              have HT4 := Lib.hid T4
              have HB4 := Lib.hid rb4
              have HBel4 := Lib.hid B4
              clear T4 B4 rb4 b4 hy4 hsame RS3 RA3 HY3 HT2 HA2 HB2 HBel2
              go_wp2_with (fail)
              refine hS5.out.mono ?_
              rintro e y5 ⟨v5, F5, rfl, r5, -, k5, -, -⟩
              have RI5 := Lib.hid (RdI.of_row (xs := (Sy.order ns).map (fun (i : Nat) => (i : Int))) (by rw [← order_ints]; exact r5))
              have RB5 := Lib.hid (RdI.of_row (xs := (Sy.order ns).map (fun (i : Nat) => (i : Int))) (by rw [← order_ints]; exact k5.row HB4.out (fun q hq hf => HNB.out q hq hf)))
              have hsame := Lib.hid (sameInts_yes _ v5 _ y5 RI5.out RB5.out)
              have B5 := Lib.hid (HBel4.out.trans (k5.toBelow HBel4.out.size (fun j hj => by have := (HT4.out.2 j hj).1; omega)))
              clear r5 k5 hS5 HT4 HB4 HBel4
              go_wp2_with (fail)
              refine hsame.out.mono ?_
              rintro e y6 ⟨rfl, n6, hy6⟩
              have B6 := Lib.hid (show Below w.heap.size w y6 by rw [hy6]; exact below_drewN' B5.out n6)
              clear hy6 hsame RI5 RB5 B5
              go_wp2_with (fail)
              have hz := unm_zero (y6.alloc (.cells #[.int .i64 0, .slice none 0 0, .map none, .pointer none] 59)) y6.heap.size (heap_alloc_new _ _)
              have B7 := Lib.hid (B6.out.alloc B6.out.size (.cells #[.int .i64 0, .slice none 0 0, .map none, .pointer none] 59))
              refine (nothing_calls (unm_nil _)).mono ?_
              rintro e y7 ⟨rfl, by7⟩
              have HZ2 := Lib.hid (nothing_calls (hz.later by7))
              have B8 := Lib.hid (B7.out.trans (by7.mono B7.out.size))
              clear hz B6 B7 by7
              go_wp2_with (first | (go_at_call 26; refine HZ2.out.mono ?_; rintro e y9 ⟨rfl, by9⟩))
              go_ret
              exact ⟨rfl, B8.out.trans (by9.mono B8.out.size)⟩
end Go.Proofs.Ytmdfgiiihmameaa
