import Derived.Test.YtmdfgiiihmameaaSymU
namespace Go.Proofs.Ytmdfgiiihmameaa
open Go.Shelf Go.RowKit Go.Lib Go.Sort
set_option linter.unusedVariables false
set_option linter.unusedSimpArgs false

structure StepD where
  wh : Int
  s : ByteArray
  n : Int
/-- a slice that reads as these steps -/
def RdSt (w : World) (v : Value) (xs : List StepD) : Prop := ∃ A c, v = .slice A xs.length c ∧ xs.length ≤ 9223372036854775807 ∧ (0 < xs.length → ∃ a, A = some a ∧ ∀ j x, xs[j]? = some x → w.cell? (a.add (j * 3)) = some (.int .i64 x.wh) ∧ w.cell? ⟨(a.add (j * 3)).block, (a.add (j * 3)).off + 1, none⟩ = some (.string x.s) ∧ w.cell? ⟨(a.add (j * 3)).block, (a.add (j * 3)).off + 2, none⟩ = some (.int .i64 x.n)) ∧ ∀ x ∈ xs, x.s.size ≤ maxLen

theorem does_after {B tb m most : Nat} (wh : Int) (s : ByteArray) (n : Int) (hs : s.size ≤ maxLen) {w : World} (h : DuoE B w tb m most) (hB : B ≤ w.heap.size) :
    Calls Try.prog 21 #[.pointer (some ⟨tb, 0, none⟩), .pointer (some ⟨m, 0, none⟩), .agg #[.int .i64 wh, .string s, .int .i64 n]] w fun e w' => e = .returned (.bool true) ∧ ∃ (p q : Nat) (A : Option Addr) (c : Nat),
      w'.cell? ⟨tb, 0, none⟩ = some (.pointer (some ⟨p, 0, none⟩)) ∧ w'.cell? ⟨m, 1, none⟩ = some (.slice A q c) ∧ Calls Try.prog 20 #[.pointer (some ⟨p, 0, none⟩)] w' (fun e w'' => e = .returned (.int .i64 q) ∧ w' = w'') ∧ DuoE B w' tb m most ∧ Below B w w' :=
  (does_calls wh s n hs h hB).mono fun e w' ⟨he, ⟨ns, p, F, v, D⟩, hb⟩ => by
    obtain ⟨A, c, rfl⟩ := row_slice D.R.row
    exact ⟨he, p, ns.length, A, c, blk_cell D.t 0 rfl, blk_cell D.R.blk 1 rfl, len_f D.T, ⟨ns, p, F, _, D⟩, hb⟩

def ordI (ns : List ByteArray) : List Int := (Sy.order ns).map (fun (i : Nat) => (i : Int))
/-- the state of the law's last statement: both tables, and the numbers in l -/
def St (B tb m most : Nat) (ns : List ByteArray) (p : Nat) (v : Value) (w W : World) (l : List Value) : Prop :=
  ∃ F, Duo B W tb m most ns p F v ∧ Below B w W ∧ ∀ v0 ∈ l, RdI W v0 (ordI ns) ∧ ∀ a n c, v0 = .slice (some a) n c → ¬ F a.block ∧ a.block < W.heap.size
section
variable {B tb m most p : Nat} {ns : List ByteArray} {v : Value} {w W : World} {l : List Value}
theorem St.below {W1 : World} (h : St B tb m most ns p v w W l) (k : Below W.heap.size W W1) (hB : B ≤ W.heap.size) : St B tb m most ns p v w W1 l := by
  obtain ⟨F, D, b, hl⟩ := h
  exact ⟨F, D.below k, b.trans (k.mono hB), fun v0 h0 => ⟨(hl v0 h0).1.keep (Keep.of_below (F := fun _ => False) k) (fun _ _ _ _ => id), fun a n c e => ⟨((hl v0 h0).2 a n c e).1, Nat.lt_of_lt_of_le ((hl v0 h0).2 a n c e).2 k.size⟩⟩⟩
theorem St.drewN (h : St B tb m most ns p v w W l) (q : Nat) : St B tb m most ns p v w (W.drewN q) l := by
  obtain ⟨F, D, b, hl⟩ := h
  exact ⟨F, D.drewN q, below_drewN' b q, hl⟩
theorem St.get (h : St B tb m most ns p v w W l) {v0 : Value} (h0 : v0 ∈ l) : RdI W v0 (ordI ns) := by
  obtain ⟨F, D, b, hl⟩ := h
  exact (hl v0 h0).1
theorem St.names (h : St B tb m most ns p v w W l) (hB : B ≤ W.heap.size) : Calls Try.prog 19 #[.pointer (some ⟨p, 0, none⟩)] W fun e w' =>
    ∃ v2, e = .returned v2 ∧ RdS w' v2 ns ∧ RdS w' v ns ∧ St B tb m most ns p v w w' l := by
  obtain ⟨F, D, b, hl⟩ := h
  refine (names_f D.T).mono ?_
  rintro e w' ⟨v2, he, hr, hb⟩
  have hs := D.T.sizes
  exact ⟨v2, he, RdS.of_row hr hs, RdS.of_row (D.below hb).R.row hs, St.below ⟨F, D, b, hl⟩ hb hB⟩
theorem St.sorted (h : St B tb m most ns p v w W l) (hB : B ≤ W.heap.size) : Calls Try.prog 18 #[.pointer (some ⟨p, 0, none⟩)] W fun e w' =>
    ∃ v2, e = .returned v2 ∧ St B tb m most ns p v w w' (v2 :: l) := by
  obtain ⟨F, D, b, hl⟩ := h
  refine (sorted_f D.T).mono ?_
  rintro e w' ⟨v2, F2, he, r2, T2, K2, n2, nv⟩
  refine ⟨v2, he, F2, ?_, b.trans (K2.toBelow hB (fun i hi => (D.T.2 i hi).1)), ?_⟩
  · exact {
      t := K2.blk D.t D.nt
      hb := D.hb
      T := T2
      R := D.R.keep K2 (fun i hi hf => D.nd i hf hi)
      nt := fun h => (n2 tb h).elim D.nt (fun h => absurd (blk_lt D.t) (by omega))
      nr := D.nr
      nd := fun i hi hf => (n2 i hi).elim (fun h => D.nd i h hf) (fun h => absurd (D.R.foot_lt hf).2 (by omega)) }
  · intro v0 h0
    rcases List.mem_cons.1 h0 with rfl | h0
    · refine ⟨RdI.of_row (by unfold ordI; rw [← order_ints]; exact r2), fun a n c e => ?_⟩
      subst e
      exact ⟨nv _ rfl, row_lt r2 rfl⟩
    · obtain ⟨g1, g2⟩ := hl v0 h0
      exact ⟨g1.keep K2 (fun a n c e => (g2 a n c e).1), fun a n c e => ⟨fun hf => (n2 _ hf).elim (g2 a n c e).1 (fun h => absurd (g2 a n c e).2 (by omega)), Nat.lt_of_lt_of_le (g2 a n c e).2 K2.size⟩⟩
theorem St.rsorted (h : St B tb m most ns p v w W l) (hB : B ≤ W.heap.size) : Calls Try.prog 24 #[.pointer (some ⟨m, 0, none⟩)] W fun e w' =>
    ∃ v2, e = .returned v2 ∧ St B tb m most ns p v w w' (v2 :: l) := by
  obtain ⟨F, D, b, hl⟩ := h
  refine (rsorted_tab D.R).mono ?_
  rintro e w' ⟨v2, he, r2, b2⟩
  obtain ⟨F', D', b', hl'⟩ := St.below ⟨F, D, b, hl⟩ b2 hB
  refine ⟨v2, he, F, D.below b2, b', ?_⟩
  intro v0 h0
  rcases List.mem_cons.1 h0 with rfl | h0
  · refine ⟨RdI.of_row (by unfold ordI; rw [← order_ints]; exact r2), fun a n c e => ?_⟩
    subst e
    exact ⟨fun hf => by have := (D.T.2 _ hf).2; have := row_ge r2 rfl; omega, row_lt r2 rfl⟩
  · exact ⟨(hl v0 h0).1.keep (Keep.of_below (F := fun _ => False) b2) (fun _ _ _ _ => id), fun a n c e => ⟨((hl v0 h0).2 a n c e).1, Nat.lt_of_lt_of_le ((hl v0 h0).2 a n c e).2 b2.size⟩⟩
theorem St.two (h : St B tb m most ns p v w W l) : W.cell? ⟨tb, 0, none⟩ = some (.pointer (some ⟨p, 0, none⟩)) ∧ W.cell? ⟨m, 1, none⟩ = some v := by
  obtain ⟨F, D, b, hl⟩ := h
  exact ⟨blk_cell D.t 0 rfl, blk_cell D.R.blk 1 rfl⟩
theorem St.sz (h : St B tb m most ns p v w W l) : Below B w W := by
  obtain ⟨F, D, b, hl⟩ := h
  exact b
end

set_option maxHeartbeats 2000000 in
set_option maxRecDepth 100000 in
theorem script_walk (most : Int) (v : Value) (ss : List StepD) (w : World) (hv : RdSt w v ss) :
    Calls Try.prog 5 #[.int .i64 most, v] w fun e w' => e = .returned (.bool true) ∧ Below w.heap.size w w' := by
  obtain ⟨A, c, rfl, hlen, hcs, hsz⟩ := hv
  by_cases hm : most < 1 ∨ 4096 < most
  · have h1 := Lib.hid (new_no most w hm)
    have h2 := Lib.hid (fun w => rnew_no most w hm)
    clear hm hcs hsz
    go_enter Try.func5, Try.ntmps5
    have hb := Lib.hid ((Below.refl w.heap.size w).alloc (Nat.le_refl _) (.cells #[.pointer none] 22))
    have tc := blk_cell (heap_alloc_new w (.cells #[.pointer none] 22)) 0 (v := .pointer none) rfl
    go_wp2_with (first | (go_at_call 7; refine h1.out.mono ?_; rintro e w' ⟨rfl, rfl⟩) | (go_at_call 8; refine (h2.out _).mono ?_; rintro e w' ⟨rfl, rfl⟩) | (go_at_call 13; refine (num_calls _ _).mono ?_; rintro e w' ⟨rfl, rfl⟩) | (go_at_call 14; refine (alive_calls _).mono ?_; rintro e w3 ⟨rfl, hb3⟩))
    go_ret
    exact ⟨rfl, hb.out.trans (hb3.mono hb.out.size)⟩
  · obtain ⟨k, rfl⟩ := Int.eq_ofNat_of_zero_le (show 0 ≤ most by omega)
    have h1 := Lib.hid (new_yes k w (by omega) (by omega))
    have h2 := Lib.hid (fun w => rnew_yes k w (by omega) (by omega))
    have hk4 : k ≤ 4096 := by omega
    have HC := Lib.hid hcs
    have HZ := Lib.hid hsz
    clear hm hcs hsz
    go_enter Try.func5, Try.ntmps5
    go_wp2_with (fail)
    refine h1.out.mono ?_
    rintro e w1 ⟨rfl, T1, b1⟩
    have F1 := T1.toF
    generalize w.heap.size + 2 = p at *
    generalize Tab.foot _ _ _ _ _ = G1 at F1
    have HF1 := Lib.hid F1
    have HB1 := Lib.hid b1
    clear T1 F1 b1 h1
    go_wp2_with (fail)
    refine (h2.out _).mono ?_
    rintro e w2 ⟨rfl, hw2⟩
    have D2 : Duo w.heap.size w2 w1.heap.size (w1.heap.size + 1) k [] p G1 (.slice none 0 0) := by
      have s2 : (w1.alloc (.cells #[.pointer (some ⟨p, 0, none⟩)] 22)).heap.size = w1.heap.size + 1 := by simp
      have bb : Below w1.heap.size w1 w2 := by rw [hw2]; exact ((Below.refl _ w1).alloc (Nat.le_refl _) _).alloc (by simp) _
      exact {
        t := by rw [hw2]; exact (Below.heap_alloc _ _ _ (by simp)).trans (heap_alloc_new w1 _)
        hb := HB1.out.size
        T := HF1.out.below bb
        R := {
          blk := by rw [hw2, ← s2]; exact heap_alloc_new _ _
          hm := by have := HB1.out.size; omega
          row := World.ownsRow_nil _ _ _ _
          most := ⟨Nat.zero_le _, hk4⟩
          small := by simp
          nodup := List.nodup_nil }
        nt := fun h => absurd (HF1.out.2 _ h).2 (Nat.lt_irrefl _)
        nr := fun h => h.elim (fun h => by omega) (fun h => by simp [Value.ownBlock] at h)
        nd := fun i h hf => hf.elim (fun h2 => by have := (HF1.out.2 _ h).2; omega) (fun h2 => by simp [Value.ownBlock] at h2) }
    have B2 : Below w.heap.size w w2 := by rw [hw2]; exact (HB1.out.alloc HB1.out.size _).alloc (by have := HB1.out.size; simp; omega) _
    have tc := blk_cell D2.t 0 (v := .pointer (some ⟨p, 0, none⟩)) rfl
    have HD2 := Lib.hid (show DuoE w.heap.size w2 w1.heap.size (w1.heap.size + 1) k from ⟨_, _, _, _, D2⟩)
    have HB2 := Lib.hid B2
    have e2 : (w1.alloc (.cells #[.pointer (some ⟨p, 0, none⟩)] 22)).heap.size = w1.heap.size + 1 := by simp
    clear D2 B2 hw2 h2
    generalize hm' : w1.heap.size + 1 = m at *
    generalize w1.heap.size = tb at *
    clear HF1 HB1
    go_wp2_with (first | (go_at_call 13; refine (num_calls _ _).mono ?_; rintro e w' ⟨rfl, rfl⟩))
    go_loopw [9] (fun v wr => ∃ j : Nat, j ≤ ss.length ∧ v = .int .i64 j ∧ DuoE w.heap.size wr tb m k ∧ Below w.heap.size w wr) (fun v _ => ss.length - (intOf v).toNat)
    case atStart => exact ⟨0, Nat.zero_le _, rfl, HD2.out, HB2.out⟩
    case round =>
      obtain ⟨j, hj, rfl, hD, hB⟩ := hrel
      by_cases hlt : j < ss.length
      · have t1 : (j : Int) < ss.length := by omega
        have t2 : (0 : Int) ≤ j := by omega
        obtain ⟨a, rfl, hcells⟩ := HC.out (by omega)
        obtain ⟨x, hx⟩ : ∃ x, ss[j]? = some x := ⟨_, List.getElem?_eq_getElem hlt⟩
        have hxs := HZ.out x (List.mem_of_getElem? hx)
        obtain ⟨e0, e1, e2⟩ := hcells j x hx
        have hold : ∀ W, Below w.heap.size w W → W.cell? (a.add (j * 3)) = some (.int .i64 x.wh) ∧ W.cell? ⟨(a.add (j * 3)).block, (a.add (j * 3)).off + 1, none⟩ = some (.string x.s) ∧ W.cell? ⟨(a.add (j * 3)).block, (a.add (j * 3)).off + 2, none⟩ = some (.int .i64 x.n) := fun W hW =>
          ⟨(hW.cell (p := a.add (j * 3)) (by have := World.block_lt_of_cell? w _ e0; exact this)).trans e0, (hW.cell (p := ⟨(a.add (j * 3)).block, (a.add (j * 3)).off + 1, none⟩) (by have := World.block_lt_of_cell? w _ e1; exact this)).trans e1, (hW.cell (p := ⟨(a.add (j * 3)).block, (a.add (j * 3)).off + 2, none⟩) (by have := World.block_lt_of_cell? w _ e2; exact this)).trans e2⟩
        obtain ⟨c0, c1, c2⟩ := hold wr hB
        have HD := Lib.hid hD
        have HB := Lib.hid hB
        have HO := Lib.hid hold
        clear hcells hx hold hD hB e0 e1 e2 HD2 HB2 tc
        go_wp2_with (fail)
        go_cut [55] from 33 to 55 (fun v55 wc => v55 = .bool false ∧ DuoE w.heap.size wc tb m k ∧ Below w.heap.size w wc)
        case first =>
          have hdoes := Lib.hid (does_after x.wh x.s x.n hxs (w := wr.drew) (B := w.heap.size) (tb := tb) (m := m) (most := k) (by obtain ⟨_, _, _, _, h⟩ := HD.out; exact ⟨_, _, _, _, h.keep (Keep.refl (fun _ => False) wr).drew (fun _ _ => id)⟩) HB.out.size)
          go_region_with ((first | (go_at_call 21; refine hdoes.out.mono ?_; rintro e w4 ⟨rfl, p4, q4, A4, c4, ht4, hm4, hl4, hD4, hB4⟩; have HL4 := Lib.hid hl4; have HD4 := Lib.hid hD4; have HB4 := Lib.hid (HB.out.drew.trans hB4); clear hl4 hD4 hB4) | (go_at_call 20; refine HL4.out.mono ?_; rintro e w5 ⟨rfl, rfl⟩)))
          all_goals (go_wp2; go_meet)
          all_goals exact ⟨by simp, HD4.out, HB4.out⟩
        case rest =>
          obtain ⟨rfl, hD5, hB5⟩ := hcut
          go_wp2
          go_roundw
          case rel => exact ⟨j + 1, by omega, by go_num, hD5, hB5⟩
          case measure => simp [intOf]; omega
      · obtain ⟨ns, p', F, v', D⟩ := hD
        obtain ⟨A', c', rfl⟩ := row_slice D.R.row
        have HSt := Lib.hid (show St w.heap.size tb m k ns p' (.slice A' ns.length c') w wr.drew [] from ⟨F, D.drewN 1, hB.drew, by simp⟩)
        clear D hB HD2 HB2 tc
        go_wp2_with (fail)
        go_region_held3 (fun w' => w'.cell? ⟨tb, 0, none⟩ = some (.pointer (some ⟨p', 0, none⟩)) ∧ w'.cell? ⟨m, 1, none⟩ = some (.slice A' ns.length c'))
          (first | exact HSt.out.two | go_keep)
          ((first
            | (go_at_call 19; refine (HSt.out.names HSt.out.sz.size).mono ?_; rintro e y ⟨v2, rfl, rs1, rs2, st⟩; have hsame := Lib.hid (sameStrings_yes ns v2 _ y rs1 rs2); clear HSt; have HSt := Lib.hid st; clear st rs1 rs2)
            | (go_at_call 22; refine hsame.out.mono ?_; rintro e y ⟨rfl, n1, rfl⟩; have st := HSt.out.drewN n1; clear HSt hsame; have HSt := Lib.hid st; clear st)
            | (go_at_call 18; refine (HSt.out.sorted HSt.out.sz.size).mono ?_; rintro e y ⟨v2, rfl, st⟩; clear HSt; have HSt := Lib.hid st; clear st)
            | (go_at_call 24; refine (HSt.out.rsorted HSt.out.sz.size).mono ?_; rintro e y ⟨v2, rfl, st⟩; clear HSt; have HSt := Lib.hid st; clear st)
            | (go_at_call 23; refine (sameInts_yes _ _ _ _ (HSt.out.get (by simp)) (HSt.out.get (by simp))).mono ?_; rintro e y ⟨rfl, n1, rfl⟩; have st := HSt.out.drewN n1; clear HSt; have HSt := Lib.hid st; clear st)
            | (go_at_call 14; refine (alive_calls _).mono ?_; rintro e y ⟨rfl, by9⟩; have st := HSt.out.below by9 HSt.out.sz.size; clear HSt; have HSt := Lib.hid st; clear st)))
        all_goals (go_wp2; go_ret; exact ⟨rfl, HSt.out.sz⟩)
end Go.Proofs.Ytmdfgiiihmameaa
