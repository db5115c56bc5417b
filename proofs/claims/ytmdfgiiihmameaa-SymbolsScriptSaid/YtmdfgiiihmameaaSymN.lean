import Derived.Test.YtmdfgiiihmameaaSymJ
namespace Go.Proofs.Ytmdfgiiihmameaa
open Go.Shelf Go.RowKit Go.Lib Go.Sort
set_option linter.unusedVariables false
set_option linter.unusedSimpArgs false

theorem idx_get {ns : List ByteArray} {s : ByteArray} {i : Nat} (h : Sy.at? ns s = some i) : ns[i]? = some s := by
  unfold Sy.at? List.idxOf? at h
  rw [List.findIdx?_eq_some_iff_getElem] at h
  obtain ⟨hi, h1, _⟩ := h
  rw [beq_bytes] at h1
  have : ns[i] = s := by simpa using h1
  rw [List.getElem?_eq_getElem hi, this]
theorem add_cases (most : Nat) (ns : List ByteArray) (s : ByteArray) : (∃ e, (e = 71 ∨ e = 72) ∧ Sy.add most ns s = (0, e, ns)) ∨
    (∃ i ns', Sy.add most ns s = (i, 0, ns') ∧ Sy.at? ns' s = some i ∧ ns'[i]? = some s ∧ Sy.add most ns' s = (i, 0, ns') ∧ Sy.nameB s = true) := by
  unfold Sy.add
  cases hs : Sy.nameB s with
  | false => exact .inl ⟨71, .inl rfl, by simp⟩
  | true =>
    cases hi : Sy.at? ns s with
    | some i => exact .inr ⟨i, ns, by simp, hi, idx_get hi, by simp [hi], rfl⟩
    | none =>
      by_cases hm : ns.length = most
      · exact .inl ⟨72, .inr rfl, by simp [hm]⟩
      · have ha : Sy.at? (ns ++ [s]) s = some ns.length := by rw [at_append, hi]; simp
        exact .inr ⟨ns.length, ns ++ [s], by simp [hm], ha, idx_get ha, by simp [ha], rfl⟩
theorem bytesLess_of : ∀ a b : List UInt8, Lib.compareBytes a b < 0 → Op.bytesLess a b = true
  | [], [], h => by simp [Lib.compareBytes] at h
  | [], _ :: _, _ => rfl
  | _ :: _, [], h => by simp [Lib.compareBytes] at h
  | x :: a, y :: b, h => by
    unfold Lib.compareBytes at h
    unfold Op.bytesLess
    by_cases h1 : x < y
    · simp [h1]
    · by_cases h2 : y < x
      · simp [h1, h2] at h
      · simp [h1, h2] at h
        have : x = y := UInt8.le_antisymm (UInt8.not_lt.1 h2) (UInt8.not_lt.1 h1)
        subst this
        simp [bytesLess_of a b h]

theorem TabF.nodup {B : Nat} {F : Nat → Prop} {W : World} {p most : Nat} {ns : List ByteArray} (h : TabF B F W p most ns) : ns.Nodup := by
  obtain ⟨⟨vn, bm, bo, od, sl, D, h1, h2⟩, h3⟩ := h
  exact h1.nodup
theorem TabF.sizes {B : Nat} {F : Nat → Prop} {W : World} {p most : Nat} {ns : List ByteArray} (h : TabF B F W p most ns) : ∀ x ∈ ns, x.size ≤ maxLen := by
  obtain ⟨⟨vn, bm, bo, od, sl, D, h1, h2⟩, h3⟩ := h
  intro x hx
  have := h1.small x hx
  unfold maxLen
  omega
/-- the first loop of SymbolsBack -/
def BackRel (B0 B n : Nat) (p : Nat) (w : World) (v : Value) (wr : World) : Prop :=
  ∃ (k : Nat) (ns : List ByteArray) (F : Nat → Prop), k ≤ n ∧ v = .int .i64 k ∧ TabF B F wr p 4096 ns ∧ Below B0 w wr ∧ B0 ≤ B

set_option maxHeartbeats 2000000 in
set_option maxRecDepth 100000 in
theorem back_walk (v : Value) (ss : List ByteArray) (w : World) (hv : RdS w v ss) :
    Calls Try.prog 4 #[v] w fun e w' => e = .returned (.bool true) ∧ Below w.heap.size w w' := by
  obtain ⟨A, c, rfl, hlen, hcs, hsz⟩ := hv
  have HC := Lib.hid hcs
  have HZ := Lib.hid hsz
  clear hcs hsz
  go_enter Try.func4, Try.ntmps4
  go_wp2_with (fail)
  refine (alive_calls w).mono ?_
  rintro e wa ⟨rfl, ba⟩
  go_wp2_with (fail)
  refine (new_yes 4096 wa (by omega) (by omega)).mono ?_
  rintro e w1 ⟨rfl, T1, b1⟩
  have F1 := T1.toF
  have B1 : Below w.heap.size w w1 := ba.trans (b1.mono ba.size)
  have ha := ba.size
  generalize wa.heap.size = B at *
  generalize hp : B + 2 = p at *
  generalize Tab.foot _ _ _ _ _ = G1 at F1
  clear T1 hp b1 ba
  have HB1 := Lib.hid B1
  have HF1 := Lib.hid F1
  clear B1 F1
  go_wp2_with (first | (go_at_call 13; refine (num_calls _ _).mono ?_; rintro e w' ⟨rfl, rfl⟩))
  go_loopw [5] (fun v wr => BackRel w.heap.size B ss.length p w v wr) (fun v _ => ss.length - (intOf v).toNat)
  case atStart => exact ⟨0, [], G1, Nat.zero_le _, rfl, HF1.out, HB1.out, ha⟩
  case round =>
    obtain ⟨k, ns, F, hk, rfl, hT, hB, -⟩ := hrel
    have HT := Lib.hid hT
    have HB := Lib.hid hB
    clear hT hB
    by_cases hlt : k < ss.length
    · have hlt2 : (k : Int) < ss.length := by omega
      have hk2 : (0 : Int) ≤ k := by omega
      obtain ⟨a, rfl, hc⟩ := HC.out (by omega)
      obtain ⟨s, hs⟩ : ∃ s, ss[k]? = some s := ⟨_, List.getElem?_eq_getElem hlt⟩
      have hcell := hc k s hs
      have hab : a.block < w.heap.size := by have := World.block_lt_of_cell? w _ hcell; rwa [add_block] at this
      have hcell1 : wr.cell? (a.add k) = some (.string s) := (HB.out.cell (p := a.add k) (by rw [add_block]; exact hab)).trans hcell
      have hssz : s.size ≤ maxLen := HZ.out s (List.mem_of_getElem? hs)
      clear hc hcell hs
      rcases add_cases 4096 ns s with ⟨e0, he0, hadd⟩ | ⟨i, ns', hadd, hat, hget, hadd2, -⟩
      · have hA := Lib.hid (add_f s HT.out)
        rw [hadd] at hA
        have HE := Lib.hid he0
        have t1 : (((e0 : Nat) : Int) != 0) = true := by rcases he0 with rfl | rfl <;> decide
        clear he0 hadd
        go_wp2_with (first | (go_at_call 15; refine hA.out.mono ?_; rintro e w2 ⟨rfl, G2, T2, K2, -⟩; have HT2 := Lib.hid T2; have HK2 := Lib.hid K2; clear T2 K2) | (go_at_call 13; refine (num_calls _ _).mono ?_; rintro e w' ⟨rfl, rfl⟩))
        go_roundw
        case rel => exact ⟨k + 1, _, G2, by omega, by go_num, HT2.out, HB.out.trans (HK2.out.toBelow HB.out.size (fun j hj => by have := (HT.out.2 j hj).1; omega)), ha⟩
        case measure => simp [intOf]; omega
      · have hA := add_f s HT.out
        rw [hadd] at hA
        have HA := Lib.hid hA
        have HAT := Lib.hid hat
        have HG := Lib.hid hget
        have HA2 := Lib.hid hadd2
        clear hA hadd hat hget hadd2
        go_wp2_with (fail)
        refine HA.out.mono ?_
        rintro e w2 ⟨rfl, G2, T2, K2, -⟩
        have hcell2 : w2.cell? (a.add k) = some (.string s) := K2.cell hcell1 (fun hf => by have := (HT.out.2 _ hf).1; rw [add_block] at this; omega)
        have B2 := Lib.hid (HB.out.trans (K2.toBelow HB.out.size (fun j hj => by have := (HT.out.2 j hj).1; omega)))
        have hfind := find_f s hssz T2
        unfold findV at hfind
        rw [HAT.out] at hfind
        have HFD := Lib.hid hfind
        have hname := name_f (i : Int) T2
        unfold nameV at hname
        rw [if_neg (by omega), Int.toNat_natCast, HG.out] at hname
        have HNM := Lib.hid hname
        have hadd3 := add_f s T2
        rw [HA2.out] at hadd3
        have HA3 := Lib.hid hadd3
        have HT2 := Lib.hid T2
        clear T2 K2 hcell1 hfind hname hadd3 HA
        go_wp2_with (first | (go_at_call 13; refine (num_calls _ _).mono ?_; rintro e w' ⟨rfl, rfl⟩) | (go_at_call 16; refine HFD.out.mono ?_; rintro e w' ⟨rfl, rfl⟩) | (go_at_call 17; refine HNM.out.mono ?_; rintro e w' ⟨rfl, rfl⟩))
        refine HA3.out.mono ?_
        rintro e w3 ⟨rfl, G3, T3, K3, -⟩
        have hcell3 : w3.cell? (a.add k) = some (.string s) := K3.cell hcell2 (fun hf => by have := (HT2.out.2 _ hf).1; rw [add_block] at this; omega)
        have B3 := Lib.hid (B2.out.trans (K3.toBelow B2.out.size (fun j hj => by have := (HT2.out.2 j hj).1; omega)))
        have HT3 := Lib.hid T3
        clear T3 K3 hcell2 HFD HNM HA3
        go_wp2_with (first | (go_at_call 13; refine (num_calls _ _).mono ?_; rintro e w' ⟨rfl, rfl⟩))
        go_roundw
        case rel => exact ⟨k + 1, _, G3, by omega, by go_num, HT3.out, B3.out, ha⟩
        case measure => simp [intOf]; omega
    · have hTs := Lib.hid (sorted_f HT.out)
      have hsm := HT.out.small
      have hnd : ns.Nodup := HT.out.nodup
      have hns : ∀ x ∈ ns, x.size ≤ maxLen := HT.out.sizes
      go_wp2_with (fail)
      refine hTs.out.mono ?_
      rintro e w4 ⟨v1, G4, rfl, r4, T4, K4, -, -⟩
      have B4 := HB.out.trans (K4.toBelow HB.out.size (fun j hj => by have := (HT.out.2 j hj).1; omega))
      have hnm := Lib.hid (names_f T4)
      have R4 : RdI w4 v1 ((Sy.order ns).map (fun (i : Nat) => (i : Int))) := RdI.of_row (by rw [← order_ints]; exact r4)
      have HR4 := Lib.hid R4
      have HT4 := Lib.hid T4
      have HB4 := Lib.hid B4
      have hol : ((Sy.order ns).map (fun (i : Nat) => (i : Int))).length = ns.length := by simp [order_length]
      clear T4 K4 r4 R4 B4 hTs
      go_wp2_with (fail)
      refine hnm.out.mono ?_
      rintro e w5 ⟨v2, rfl, r5, b5⟩
      have R5 : RdS w5 v2 ns := RdS.of_row r5 hns
      have R6 : RdI w5 v1 ((Sy.order ns).map (fun (i : Nat) => (i : Int))) := HR4.out.keep (Keep.of_below (F := fun _ => False) b5) (fun _ _ _ _ => id)
      have hlen5 := Lib.hid (len_f (HT4.out.below b5))
      have HB5 := Lib.hid (HB4.out.trans (b5.mono HB4.out.size))
      obtain ⟨A1, c1, rfl, -, hc1⟩ := R6
      obtain ⟨A2, c2, rfl, -, hc2, -⟩ := R5
      rw [hol] at hc1 ⊢
      have HC1 := Lib.hid hc1
      have HC2 := Lib.hid hc2
      have HOL := Lib.hid hol
      clear r5 b5 hc1 hc2 hol hnm HR4 HT4 HB4
      go_wp2_with (first | (go_at_call 20; refine hlen5.out.mono ?_; rintro e w' ⟨rfl, rfl⟩))
      clear hlen5
      go_loopw [16] (fun v wr => ∃ j : Nat, j ≤ ns.length ∧ v = .int .i64 j ∧ ∃ n, wr = w5.drewN n) (fun v _ => ns.length - (intOf v).toNat)
      case atStart => exact ⟨0, Nat.zero_le _, rfl, 0, rfl⟩
      case round =>
        obtain ⟨j, hj, rfl, n, rfl⟩ := hrel
        by_cases hlt : j < ns.length
        · have l1 : (j : Int) < ns.length := by omega
          have l2 : (0 : Int) ≤ j := by omega
          obtain ⟨a1, rfl, hc1⟩ := HC1.out (by omega)
          obtain ⟨a2, rfl, hc2⟩ := HC2.out (by omega)
          have ho : ∀ q, q < ns.length → ∃ o, (Sy.order ns)[q]? = some o ∧ o < ns.length ∧ w5.cell? (a1.add q) = some (.int .i64 o) ∧ ∃ x, ns[o]? = some x ∧ w5.cell? (a2.add o) = some (.string x) := fun q hq => by
            have hq' : q < (Sy.order ns).length := by rw [order_length]; exact hq
            have hm : (Sy.order ns)[q] < ns.length := List.mem_range.1 ((Sy.order_perm ns).mem_iff.1 (List.getElem_mem hq'))
            refine ⟨_, List.getElem?_eq_getElem hq', hm, hc1 q _ (by simp [List.getElem?_eq_getElem hq']), _, List.getElem?_eq_getElem hm, hc2 _ _ (List.getElem?_eq_getElem hm)⟩
          obtain ⟨o, ho1, ho2, ho3, x, hx1, hx2⟩ := ho j hlt
          have g1 : decide ((o : Int) < 0) = false := decide_eq_false (by omega)
          have g2 : decide ((ns.length : Int) ≤ (o : Int)) = false := decide_eq_false (by omega)
          have g3 : decide (ns.length ≤ o) = false := decide_eq_false (by omega)
          have g4 : (o : Int) < ns.length := by omega
          have g5 : (0 : Int) ≤ o := by omega
          rcases Nat.eq_zero_or_pos j with hj0 | hj0
          · have q1 : decide ((0 : Int) < (j : Int)) = false := decide_eq_false (by omega)
            have q2 : decide (0 < j) = false := decide_eq_false (by omega)
            clear ho hc1 hc2 hx1 ho1 hj0
            go_wp2
            go_quiet (fail)
            go_wp2
            go_roundw
            case rel => exact ⟨j + 1, by omega, by go_num, _, rfl⟩
            case measure => simp [intOf]; omega
          · obtain ⟨i, hij⟩ : ∃ i, j = i + 1 := ⟨j - 1, by omega⟩
            obtain ⟨o', ho1', ho2', ho3', y, hy1, hy2⟩ := ho i (by omega)
            have q1 : decide ((0 : Int) < (j : Int)) = true := decide_eq_true (by omega)
            have q2 : decide (0 < j) = true := decide_eq_true (by omega)
            have g4' : (o' : Int) < ns.length := by omega
            have g5' : (0 : Int) ≤ o' := by omega
            have l3 : (i : Int) < ns.length := by omega
            have l4 : (0 : Int) ≤ i := by omega
            have hless : Op.bytesLess y.toList x.toList = true := by
              rw [Lib.toList_data, Lib.toList_data]
              have hp := Sy.order_pairwise ns hnd
              rw [List.pairwise_iff_getElem] at hp
              have e1 : i < (Sy.order ns).length := by rw [order_length]; omega
              have e2 : j < (Sy.order ns).length := by rw [order_length]; omega
              have := hp i j e1 e2 (by omega)
              rw [List.getElem?_eq_getElem e1] at ho1'
              rw [List.getElem?_eq_getElem e2] at ho1
              rw [Option.some.inj ho1', Option.some.inj ho1] at this
              unfold Sy.lt at this
              rw [List.getD_eq_getElem?_getD, List.getD_eq_getElem?_getD, hy1, hx1] at this
              exact bytesLess_of _ _ this
            have z1 : (j : Int) - 1 = (i : Int) := by omega
            have z2 : IntKind.i64.wrap ((j : Int) - 1) = (i : Int) := by rw [IntWalk.i64_in _ (by omega)]; omega
            clear ho hc1 hc2 hx1 hy1 ho1 ho1' hj0 hij
            go_wp2
            go_quiet (fail)
            go_wp2
            go_roundw
            case rel => exact ⟨j + 1, by omega, by go_num, _, rfl⟩
            case measure => simp [intOf]; omega
        · go_wp2
          go_ret
          exact ⟨rfl, below_drewN' HB5.out _⟩
end Go.Proofs.Ytmdfgiiihmameaa
