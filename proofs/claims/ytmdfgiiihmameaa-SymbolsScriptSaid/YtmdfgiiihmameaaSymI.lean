import Derived.Test.YtmdfgiiihmameaaSymH
namespace Go.Proofs.Ytmdfgiiihmameaa
open Go.Shelf Go.RowKit Go.Lib Go.Sort

/-- Table p in world W, all that belongs to it in F. -/
def TabF (B : Nat) (F : Nat → Prop) (W : World) (p most : Nat) (ns : List ByteArray) : Prop :=
  (∃ vn bm bo od sl D, Tab B W p most ns vn bm bo od sl D ∧ ∀ i, Tab.foot p vn bm bo sl i → F i) ∧ ∀ i, F i → B ≤ i ∧ i < W.heap.size
theorem Tab.toF {B : Nat} {W : World} {p most : Nat} {ns : List ByteArray} {vn : Value} {bm bo : Nat} {od : Int} {sl : Value} {D : DataW Unit} (h : Tab B W p most ns vn bm bo od sl D) : TabF B (Tab.foot p vn bm bo sl) W p most ns :=
  ⟨⟨vn, bm, bo, od, sl, D, h, fun _ => id⟩, fun _ hi => h.foot_lt hi⟩
theorem TabF.keep {B : Nat} {F G : Nat → Prop} {W W1 : World} {p most : Nat} {ns : List ByteArray} (h : TabF B F W p most ns) (k : Keep G W W1) (hn : ∀ i, F i → ¬ G i) : TabF B F W1 p most ns := by
  obtain ⟨⟨vn, bm, bo, od, sl, D, h1, h2⟩, h3⟩ := h
  exact ⟨⟨vn, bm, bo, od, sl, D, h1.keep k (fun i hi => hn i (h2 i hi)), h2⟩, fun i hi => ⟨(h3 i hi).1, Nat.lt_of_lt_of_le (h3 i hi).2 k.size⟩⟩
theorem TabF.below {B : Nat} {F : Nat → Prop} {W W1 : World} {p most : Nat} {ns : List ByteArray} (h : TabF B F W p most ns) (k : Below W.heap.size W W1) : TabF B F W1 p most ns :=
  h.keep (Keep.of_below (F := fun _ => False) k) (fun _ _ => id)
theorem TabF.small {B : Nat} {F : Nat → Prop} {W : World} {p most : Nat} {ns : List ByteArray} (h : TabF B F W p most ns) : ns.length ≤ 4096 ∧ ns.length ≤ most := by
  obtain ⟨⟨vn, bm, bo, od, sl, D, h1, h2⟩, h3⟩ := h
  have := h1.most
  omega

namespace Sy
/-- what 'Add' answers, and the names behind it -/
def add (most : Nat) (ns : List ByteArray) (s : ByteArray) : Nat × Nat × List ByteArray :=
  if nameB s = true then match at? ns s with | some i => (i, 0, ns) | none => if ns.length = most then (0, 72, ns) else (ns.length, 0, ns ++ [s]) else (0, 71, ns)
end Sy

section
variable {B : Nat} {F : Nat → Prop} {p most : Nat} {ns : List ByteArray}
theorem add_f (s : ByteArray) {w : World} (h : TabF B F w p most ns) :
    Calls Try.prog 15 #[.pointer (some ⟨p, 0, none⟩), .string s] w fun e w' => e = .returned (.tuple #[.int .i64 (Sy.add most ns s).1, .int .i64 (Sy.add most ns s).2.1]) ∧
      ∃ F', TabF B F' w' p most (Sy.add most ns s).2.2 ∧ Keep F w w' ∧ (∀ i, F' i → F i ∨ w.heap.size ≤ i) := by
  have h0 := h
  obtain ⟨⟨vn, bm, bo, od, sl, D, h1, h2⟩, h3⟩ := h
  unfold Sy.add
  cases hs : Sy.nameB s with
  | false =>
    simp only [Bool.false_eq_true, if_false]
    refine (add_bad s hs h1).mono ?_
    rintro e w' ⟨he, hb⟩
    exact ⟨he, F, h0.below hb, Keep.of_below hb, fun i hi => .inl hi⟩
  | true =>
    simp only [if_true]
    cases hi : Sy.at? ns s with
    | some i =>
      refine (add_old s hs i hi h1).mono ?_
      rintro e w' ⟨he, hb⟩
      exact ⟨he, F, h0.below hb, Keep.of_below hb, fun i hi => .inl hi⟩
    | none =>
      by_cases hm : ns.length = most
      · simp only [hm, if_true]
        refine (add_full s hs hi hm h1).mono ?_
        rintro e w' ⟨he, hb⟩
        exact ⟨he, F, h0.below hb, Keep.of_below hb, fun i hi => .inl hi⟩
      · simp only [hm, if_false]
        have := h1.most
        refine (add_new s hs hi (by omega) h1).mono ?_
        rintro e w' ⟨he, vn', bo', D', g1, g2, g3⟩
        exact ⟨he, _, g1.toF, g2.mono (fun i _ hi => h2 i hi), fun i hi => (g3 i hi).imp (h2 i) id⟩

theorem find_f (s : ByteArray) (hs : s.size ≤ maxLen) {w : World} (h : TabF B F w p most ns) :
    Calls Try.prog 16 #[.pointer (some ⟨p, 0, none⟩), .string s] w fun e w' => e = .returned (findV ns s) ∧ w = w' := by
  obtain ⟨⟨vn, bm, bo, od, sl, D, h1, h2⟩, h3⟩ := h
  exact find_tab s hs h1
theorem name_f (n : Int) {w : World} (h : TabF B F w p most ns) :
    Calls Try.prog 17 #[.pointer (some ⟨p, 0, none⟩), .int .i64 n] w fun e w' => e = .returned (nameV ns n) ∧ w = w' := by
  obtain ⟨⟨vn, bm, bo, od, sl, D, h1, h2⟩, h3⟩ := h
  exact name_tab n h1
theorem len_f {w : World} (h : TabF B F w p most ns) :
    Calls Try.prog 20 #[.pointer (some ⟨p, 0, none⟩)] w fun e w' => e = .returned (.int .i64 ns.length) ∧ w = w' := by
  obtain ⟨⟨vn, bm, bo, od, sl, D, h1, h2⟩, h3⟩ := h
  exact len_tab h1
theorem names_f {w : World} (h : TabF B F w p most ns) : Calls Try.prog 19 #[.pointer (some ⟨p, 0, none⟩)] w fun e w' =>
    ∃ v, e = .returned v ∧ w'.ownsRow w.heap.size 9 1 v ns.length (ns.map Value.string) ∧ Below w.heap.size w w' := by
  obtain ⟨⟨vn, bm, bo, od, sl, D, h1, h2⟩, h3⟩ := h
  exact names_tab h1
theorem sorted_f {w : World} (h : TabF B F w p most ns) : Calls Try.prog 18 #[.pointer (some ⟨p, 0, none⟩)] w fun e w' =>
    ∃ v F', e = .returned v ∧ w'.ownsRow w.heap.size 3 1 v ns.length ((Sy.order ns).map (fun (i : Nat) => Value.int .i64 i)) ∧ TabF B F' w' p most ns ∧ Keep F w w' ∧
      (∀ i, F' i → F i ∨ w.heap.size ≤ i) ∧ (∀ k, v.ownBlock = some k → ¬ F' k) := by
  obtain ⟨⟨vn, bm, bo, od, sl, D, h1, h2⟩, h3⟩ := h
  refine (sorted_tab h1).mono ?_
  rintro e w' ⟨v, sl', he, g1, g2, g3, g4, g5⟩
  refine ⟨v, _, he, g1, g2.toF, g3.mono (fun i _ hi => h2 i (.inr (.inr (.inr (.inl hi))))), ?_, ?_⟩
  · rintro i (hi | hi | hi | hi | hi)
    · exact .inl (h2 i (.inl hi))
    · exact .inl (h2 i (.inr (.inl hi)))
    · exact .inl (h2 i (.inr (.inr (.inl hi))))
    · exact .inl (h2 i (.inr (.inr (.inr (.inl hi)))))
    · exact (g4 i hi).imp (fun x => h2 i (.inr (.inr (.inr (.inr x))))) id
  · intro k hk hf
    have hk2 := row_ge g1 hk
    have o1 := h1.foot_lt (i := p) (.inl rfl)
    have o2 := h1.foot_lt (i := bm) (.inr (.inr (.inl rfl)))
    have o3 := h1.foot_lt (i := bo) (.inr (.inr (.inr (.inl rfl))))
    rcases hf with hi | hi | hi | hi | hi
    · omega
    · have := h1.foot_lt (i := k) (.inr (.inl hi)); omega
    · omega
    · omega
    · exact g5 k hk hi
end

/-! ### small helpers of the laws -/
theorem num_calls (n : Int) (w : World) : Calls Try.prog 13 #[.int .i64 n] w fun e w' => e = .returned (.int .i64 n) ∧ w = w' := by
  go_enter Try.func13, Try.ntmps13
  go_wp2
  go_ret
  exact ⟨rfl, rfl⟩

theorem add_block (a : Addr) (j : Nat) : (a.add j).block = a.block := by unfold Addr.add; split <;> rfl
/-- a slice that reads as these integers -/
def RdI (w : World) (v : Value) (xs : List Int) : Prop := ∃ A c, v = .slice A xs.length c ∧ xs.length ≤ 9223372036854775807 ∧ (0 < xs.length → ∃ a, A = some a ∧ ∀ j x, xs[j]? = some x → w.cell? (a.add j) = some (.int .i64 x))
theorem RdI.of_row {w : World} {B : Nat} {e : TypeId} {v : Value} {xs : List Int} {n : Nat} (h : w.ownsRow B e 1 v n (xs.map (Value.int .i64))) : RdI w v xs := by
  obtain ⟨A, c, h1, h2, h3, h4⟩ := row_cells h
  have hn : n = xs.length := by have := h.1; simp at this; omega
  subst hn
  refine ⟨A, c, h1, by unfold maxLen at h3; omega, fun h0 => ?_⟩
  obtain ⟨g, hg, hc⟩ := h4 h0
  exact ⟨_, hg, fun j x hj => by rw [add_at]; exact hc j _ (by simp [hj])⟩
theorem RdI.keep {F : Nat → Prop} {w w1 : World} {v : Value} {xs : List Int} (h : RdI w v xs) (k : Keep F w w1) (hn : ∀ a n c, v = .slice (some a) n c → ¬ F a.block) : RdI w1 v xs := by
  obtain ⟨A, c, rfl, h2, h3⟩ := h
  refine ⟨A, c, rfl, h2, fun h0 => ?_⟩
  obtain ⟨a, rfl, hc⟩ := h3 h0
  exact ⟨a, rfl, fun j x hj => k.cell (hc j x hj) (by rw [add_block]; exact hn a _ _ rfl)⟩
/-- a slice that reads as these texts -/
def RdS (w : World) (v : Value) (xs : List ByteArray) : Prop := ∃ A c, v = .slice A xs.length c ∧ xs.length ≤ 9223372036854775807 ∧ (0 < xs.length → ∃ a, A = some a ∧ ∀ j x, xs[j]? = some x → w.cell? (a.add j) = some (.string x)) ∧ ∀ x ∈ xs, x.size ≤ maxLen
theorem RdS.keep {F : Nat → Prop} {w w1 : World} {v : Value} {xs : List ByteArray} (h : RdS w v xs) (k : Keep F w w1) (hn : ∀ a n c, v = .slice (some a) n c → ¬ F a.block) : RdS w1 v xs := by
  obtain ⟨A, c, rfl, h2, h3, h4⟩ := h
  refine ⟨A, c, rfl, h2, fun h0 => ?_, h4⟩
  obtain ⟨a, rfl, hc⟩ := h3 h0
  exact ⟨a, rfl, fun j x hj => k.cell (hc j x hj) (by rw [add_block]; exact hn a _ _ rfl)⟩
theorem rds_nil (w : World) : RdS w (.slice none 0 0) [] := ⟨none, 0, rfl, by simp, fun h => by simp at h, by simp⟩
theorem rds_of {w : World} {a : Addr} {l c : Nat} {zs : List ByteArray} (hl : l ≤ c) (hm : c ≤ maxLen) (hz : zs.length = c) (hc : ∀ i, i < zs.length → w.cell? (a.add i) = some (.string (zs.getD i ByteArray.empty))) (hs : ∀ s ∈ zs, s.size ≤ maxLen) :
    RdS w (.slice (some a) l c) (zs.take l) := by
  have e : (zs.take l).length = l := by rw [List.length_take]; omega
  refine ⟨some a, c, by rw [e], by rw [e]; unfold maxLen at hm; omega, fun _ => ⟨a, rfl, fun j x hj => ?_⟩, fun x hx => hs x (List.mem_of_mem_take hx)⟩
  rw [List.getElem?_take] at hj
  split at hj
  · have h2 : j < zs.length := by omega
    have := hc j h2
    rw [List.getD_eq_getElem?_getD, hj] at this
    exact this
  · cases hj
theorem RdS.below {w w1 : World} {v : Value} {xs : List ByteArray} (h : RdS w v xs) (k : Below w.heap.size w w1) : RdS w1 v xs :=
  h.keep (Keep.of_below (F := fun _ => False) k) (fun _ _ _ _ => id)
theorem RdS.of_row {w : World} {B : Nat} {e : TypeId} {v : Value} {xs : List ByteArray} {n : Nat} (h : w.ownsRow B e 1 v n (xs.map Value.string)) (hs : ∀ x ∈ xs, x.size ≤ maxLen) : RdS w v xs := by
  obtain ⟨A, c, h1, h2, h3, h4⟩ := row_cells h
  have hn : n = xs.length := by have := h.1; simp at this; omega
  subst hn
  refine ⟨A, c, h1, by unfold maxLen at h3; omega, fun h0 => ?_, hs⟩
  obtain ⟨g, hg, hc⟩ := h4 h0
  exact ⟨_, hg, fun j x hj => by rw [add_at]; exact hc j _ (by simp [hj])⟩

set_option maxHeartbeats 1000000 in
theorem sameInts_calls (xs ys : List Int) (a b : Value) (w : World) (ha : RdI w a xs) (hb : RdI w b ys) :
    Calls Try.prog 23 #[a, b] w fun e w' => e = .returned (.bool (decide (xs = ys))) ∧ ∃ n, w' = w.drewN n := by
  obtain ⟨A, ca, rfl, la, hca⟩ := ha
  obtain ⟨A2, cb, rfl, lb, hcb⟩ := hb
  by_cases hl : xs.length = ys.length
  · have d1 : ((xs.length : Int) != (ys.length : Int)) = false := by rw [hl]; simp
    have d2 : ((xs.length : Int) == (ys.length : Int)) = true := by rw [hl]; simp
    have d3 : (xs.length == ys.length) = true := by rw [hl]; simp
    have HA := Lib.hid hca
    have HB := Lib.hid hcb
    have HL := Lib.hid hl
    clear hca hcb hl
    go_enter Try.func23, Try.ntmps23
    go_wp2
    go_loopw [5] (fun v wr => ∃ k : Nat, k ≤ xs.length ∧ v = .int .i64 k ∧ (∀ j, j < k → xs[j]? = ys[j]?) ∧ ∃ n, wr = w.drewN n) (fun v _ => xs.length - (intOf v).toNat)
    case atStart => exact ⟨0, Nat.zero_le _, rfl, fun j h => absurd h (Nat.not_lt_zero j), 0, rfl⟩
    case round =>
      obtain ⟨k, hk, rfl, heq, n, rfl⟩ := hrel
      have HE := Lib.hid heq
      clear heq
      by_cases hlt : k < xs.length
      · have hlt2 : (k : Int) < xs.length := by omega
        have hlt3 : (k : Int) < ys.length := by have := HL.out; omega
        have hk2 : (0 : Int) ≤ k := by omega
        obtain ⟨a1, rfl, hc1⟩ := HA.out (by omega)
        obtain ⟨a2, rfl, hc2⟩ := HB.out (by have := HL.out; omega)
        obtain ⟨x, hx⟩ : ∃ x, xs[k]? = some x := ⟨_, List.getElem?_eq_getElem hlt⟩
        obtain ⟨y, hy⟩ : ∃ y, ys[k]? = some y := ⟨_, List.getElem?_eq_getElem (by have := HL.out; omega)⟩
        have e1 := hc1 k x hx
        have e2 := hc2 k y hy
        have HX := Lib.hid hx
        have HY := Lib.hid hy
        clear hc1 hc2 hx hy
        by_cases hxy : x = y
        · have t1 : (x != y) = false := by rw [hxy]; simp
          have t2 : (x == y) = true := by rw [hxy]; simp
          have HXY := Lib.hid hxy
          clear hxy
          go_wp2
          go_quiet (fail)
          go_wp2
          go_roundw
          case rel =>
            refine ⟨k + 1, by omega, by go_num, fun j hj => ?_, _, rfl⟩
            by_cases e : j = k
            · subst e; rw [HX.out, HY.out, HXY.out]
            · exact HE.out j (by omega)
          case measure => simp [intOf]; omega
        · have t1 : (x != y) = true := by simpa using hxy
          have t2 : (x == y) = false := by simpa using hxy
          have hf : ¬ xs = ys := fun e => by
            have h1 := HX.out
            rw [e, HY.out] at h1
            exact hxy (Option.some.inj h1).symm
          have HF := Lib.hid hf
          clear hf
          go_wp2
          go_quiet (fail)
          go_wp2
          go_ret
          first | exact ⟨by rw [decide_eq_false HF.out]; rfl, _, rfl⟩ | exact ⟨by rw [decide_eq_false HF.out]; rfl, _, World.drewN_drewN ..⟩
      · have hf : xs = ys := List.ext_getElem? fun j => by
          by_cases e : j < k
          · exact HE.out j e
          · rw [List.getElem?_eq_none (by omega), List.getElem?_eq_none (by have := HL.out; omega)]
        have HF := Lib.hid hf
        clear hf
        go_wp2
        go_ret
        exact ⟨by rw [decide_eq_true HF.out]; rfl, _, rfl⟩
  · have d1 : ((xs.length : Int) != (ys.length : Int)) = true := by simpa using fun h => hl (by omega)
    have d2 : ((xs.length : Int) == (ys.length : Int)) = false := by simpa using fun h => hl (by omega)
    have d3 : (xs.length == ys.length) = false := by simpa using hl
    have hf : ¬ xs = ys := fun h => hl (by rw [h])
    have HF := Lib.hid hf
    clear hf hl hca hcb
    go_enter Try.func23, Try.ntmps23
    go_wp2
    go_ret
    exact ⟨by rw [decide_eq_false HF.out]; rfl, 0, rfl⟩
set_option maxHeartbeats 1000000 in
theorem sameStrings_calls (xs ys : List ByteArray) (a b : Value) (w : World) (ha : RdS w a xs) (hb : RdS w b ys) :
    Calls Try.prog 22 #[a, b] w fun e w' => e = .returned (.bool (decide (xs = ys))) ∧ ∃ n, w' = w.drewN n := by
  obtain ⟨A, ca, rfl, la, hca, -⟩ := ha
  obtain ⟨A2, cb, rfl, lb, hcb, -⟩ := hb
  by_cases hl : xs.length = ys.length
  · have d1 : ((xs.length : Int) != (ys.length : Int)) = false := by rw [hl]; simp
    have d2 : ((xs.length : Int) == (ys.length : Int)) = true := by rw [hl]; simp
    have d3 : (xs.length == ys.length) = true := by rw [hl]; simp
    have HA := Lib.hid hca
    have HB := Lib.hid hcb
    have HL := Lib.hid hl
    clear hca hcb hl
    go_enter Try.func22, Try.ntmps22
    go_wp2
    go_loopw [5] (fun v wr => ∃ k : Nat, k ≤ xs.length ∧ v = .int .i64 k ∧ (∀ j, j < k → xs[j]? = ys[j]?) ∧ ∃ n, wr = w.drewN n) (fun v _ => xs.length - (intOf v).toNat)
    case atStart => exact ⟨0, Nat.zero_le _, rfl, fun j h => absurd h (Nat.not_lt_zero j), 0, rfl⟩
    case round =>
      obtain ⟨k, hk, rfl, heq, n, rfl⟩ := hrel
      have HE := Lib.hid heq
      clear heq
      by_cases hlt : k < xs.length
      · have hlt2 : (k : Int) < xs.length := by omega
        have hlt3 : (k : Int) < ys.length := by have := HL.out; omega
        have hk2 : (0 : Int) ≤ k := by omega
        obtain ⟨a1, rfl, hc1⟩ := HA.out (by omega)
        obtain ⟨a2, rfl, hc2⟩ := HB.out (by have := HL.out; omega)
        obtain ⟨x, hx⟩ : ∃ x, xs[k]? = some x := ⟨_, List.getElem?_eq_getElem hlt⟩
        obtain ⟨y, hy⟩ : ∃ y, ys[k]? = some y := ⟨_, List.getElem?_eq_getElem (by have := HL.out; omega)⟩
        have e1 := hc1 k x hx
        have e2 := hc2 k y hy
        have HX := Lib.hid hx
        have HY := Lib.hid hy
        clear hc1 hc2 hx hy
        by_cases hxy : x = y
        · have t1 : (x.toList != y.toList) = false := by rw [hxy]; simp
          have t2 : (x.toList == y.toList) = true := by rw [hxy]; simp
          have HXY := Lib.hid hxy
          clear hxy
          go_wp2
          go_quiet (fail)
          go_wp2
          go_roundw
          case rel =>
            refine ⟨k + 1, by omega, by go_num, fun j hj => ?_, _, rfl⟩
            by_cases e : j = k
            · subst e; rw [HX.out, HY.out, HXY.out]
            · exact HE.out j (by omega)
          case measure => simp [intOf]; omega
        · have t0 : ¬ x.toList = y.toList := fun e => hxy (by rw [Lib.toList_data, Lib.toList_data] at e; exact key_inj (by unfold Sy.key; rw [e]))
          have t1 : (x.toList != y.toList) = true := by simpa using t0
          have t2 : (x.toList == y.toList) = false := by simpa using t0
          clear t0
          have hf : ¬ xs = ys := fun e => by
            have h1 := HX.out
            rw [e, HY.out] at h1
            exact hxy (Option.some.inj h1).symm
          have HF := Lib.hid hf
          clear hf
          go_wp2
          go_quiet (fail)
          go_wp2
          go_ret
          first | exact ⟨by rw [decide_eq_false HF.out]; rfl, _, rfl⟩ | exact ⟨by rw [decide_eq_false HF.out]; rfl, _, World.drewN_drewN ..⟩
      · have hf : xs = ys := List.ext_getElem? fun j => by
          by_cases e : j < k
          · exact HE.out j e
          · rw [List.getElem?_eq_none (by omega), List.getElem?_eq_none (by have := HL.out; omega)]
        have HF := Lib.hid hf
        clear hf
        go_wp2
        go_ret
        exact ⟨by rw [decide_eq_true HF.out]; rfl, _, rfl⟩
  · have d1 : ((xs.length : Int) != (ys.length : Int)) = true := by simpa using fun h => hl (by omega)
    have d2 : ((xs.length : Int) == (ys.length : Int)) = false := by simpa using fun h => hl (by omega)
    have d3 : (xs.length == ys.length) = false := by simpa using hl
    have hf : ¬ xs = ys := fun h => hl (by rw [h])
    have HF := Lib.hid hf
    clear hf hl hca hcb
    go_enter Try.func22, Try.ntmps22
    go_wp2
    go_ret
    exact ⟨by rw [decide_eq_false HF.out]; rfl, 0, rfl⟩
end Go.Proofs.Ytmdfgiiihmameaa
