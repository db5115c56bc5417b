import Derived.Test.YtmdfgiiihmameaaSymR
namespace Go.Proofs.Ytmdfgiiihmameaa
open Go.Shelf Go.RowKit Go.Lib Go.Sort
set_option linter.unusedVariables false
set_option linter.unusedSimpArgs false

/-- Both tables, and the variable that holds the program's. -/
structure Duo (B : Nat) (W : World) (tb m most : Nat) (ns : List ByteArray) (p : Nat) (F : Nat → Prop) (v : Value) : Prop where
  t : W.heap[tb]? = some (.cells #[.pointer (some ⟨p, 0, none⟩)] 22 (0, 0))
  hb : B ≤ tb
  T : TabF B F W p most ns
  R : RTab B W m most ns v
  nt : ¬ F tb
  nr : ¬ RTab.foot m v tb
  nd : ∀ i, F i → ¬ RTab.foot m v i
theorem Duo.keep {B : Nat} {W W1 : World} {tb m most p : Nat} {ns : List ByteArray} {F G : Nat → Prop} {v : Value} (h : Duo B W tb m most ns p F v) (k : Keep G W W1) (hn : ∀ i, i < W.heap.size → ¬ G i) : Duo B W1 tb m most ns p F v where
  t := k.blk h.t (hn _ (blk_lt h.t))
  hb := h.hb
  T := h.T.keep k (fun i hi => hn i (h.T.2 i hi).2)
  R := h.R.keep k (fun i hi => hn i (h.R.foot_lt hi).2)
  nt := h.nt
  nr := h.nr
  nd := h.nd
theorem Duo.below {B : Nat} {W W1 : World} {tb m most p : Nat} {ns : List ByteArray} {F : Nat → Prop} {v : Value} (h : Duo B W tb m most ns p F v) (k : Below W.heap.size W W1) : Duo B W1 tb m most ns p F v :=
  h.keep (Keep.of_below (F := fun _ => False) k) (fun _ _ => id)
/-- what a step leaves -/
def DuoE (B : Nat) (W : World) (tb m most : Nat) : Prop := ∃ ns p F v, Duo B W tb m most ns p F v

/-- behind the program's 'Add' -/
def AddT (B : Nat) (F : Nat → Prop) (W1 : World) (p most : Nat) (ns' : List ByteArray) (W : World) : Prop := ∃ F', TabF B F' W p most ns' ∧ Keep F W1 W ∧ ∀ i, F' i → F i ∨ W1.heap.size ≤ i
theorem duo_add {B tb m most p : Nat} {ns ns' : List ByteArray} {F : Nat → Prop} {v v' : Value} {W1 W2 W3 : World} (hB : B ≤ W1.heap.size) (H1 : Duo B W1 tb m most ns p F v) (A : AddT B F W1 p most ns' W2) (R : RTab B W3 m most ns' v')
    (KR : Keep (RTab.foot m v) W2 W3) (nR : ∀ i, RTab.foot m v' i → RTab.foot m v i ∨ W2.heap.size ≤ i) : DuoE B W3 tb m most ∧ Below B W1 W3 := by
  obtain ⟨F', T2, K2, n2⟩ := A
  have htb := blk_lt H1.t
  refine ⟨⟨ns', p, F', v', ?_⟩, (K2.toBelow hB (fun i hi => (H1.T.2 i hi).1)).trans (KR.toBelow (Nat.le_trans hB K2.size) (fun i hi => (H1.R.foot_lt hi).1))⟩
  have hFR : ∀ i, F' i → RTab.foot m v i → False := fun i hi hf => (n2 i hi).elim (fun h => H1.nd i h hf) (fun h => by have := (H1.R.foot_lt hf).2; omega)
  exact {
    t := KR.blk (K2.blk H1.t H1.nt) H1.nr
    hb := H1.hb
    T := T2.keep KR hFR
    R := R
    nt := fun h => (n2 tb h).elim H1.nt (fun h => by omega)
    nr := fun h => (nR tb h).elim H1.nr (fun h => by have := K2.size; omega)
    nd := fun i hi h => (nR i h).elim (hFR i hi) (fun h => by have := (T2.2 i hi).2; omega) }
section
variable {B tb m most p : Nat} {ns : List ByteArray} {F : Nat → Prop} {v : Value}

set_option maxHeartbeats 1000000 in
set_option maxRecDepth 100000 in
theorem does_add (s : ByteArray) (n : Int) (hs : s.size ≤ maxLen) {w : World} (h : Duo B w tb m most ns p F v) (hB : B ≤ w.heap.size) :
    Calls Try.prog 21 #[.pointer (some ⟨tb, 0, none⟩), .pointer (some ⟨m, 0, none⟩), .agg #[.int .i64 0, .string s, .int .i64 n]] w fun e w' => e = .returned (.bool true) ∧ DuoE B w' tb m most ∧ Below B w w' := by
  have H := Lib.hid h
  have b1 : Below w.heap.size w (w.alloc (.cells #[.int .i64 0, .string s, .int .i64 n] 49)) := (Below.refl _ w).alloc (Nat.le_refl _) _
  have H1 := Lib.hid (h.below b1)
  have hx := heap_alloc_new w (.cells #[.int .i64 0, .string s, .int .i64 n] 49)
  have x0 := blk_cell hx 0 (v := .int .i64 0) rfl
  have x1 := blk_cell hx 1 (v := .string s) rfl
  have tc := blk_cell H1.out.t 0 (v := .pointer (some ⟨p, 0, none⟩)) rfl
  have HX := Lib.hid hx
  clear h b1 hx
  go_enter Try.func21, Try.ntmps21
  go_wp2_with (fail)
  go_cut [7, 8] (fun v7 v8 W => v7 = .int .i64 (Sy.add most ns s).1 ∧ v8 = .int .i64 (Sy.add most ns s).2.1 ∧ AddT B F (w.alloc (.cells #[.int .i64 0, .string s, .int .i64 n] 49)) p most (Sy.add most ns s).2.2 W)
  case first =>
    have hA : ∀ W, W = (w.alloc (.cells #[.int .i64 0, .string s, .int .i64 n] 49)).drew → Calls Try.prog 15 #[.pointer (some ⟨p, 0, none⟩), .string s] W fun e w' => e = .returned (.tuple #[.int .i64 (Sy.add most ns s).1, .int .i64 (Sy.add most ns s).2.1]) ∧
      AddT B F (w.alloc (.cells #[.int .i64 0, .string s, .int .i64 n] 49)) p most (Sy.add most ns s).2.2 w' ∧ w'.cell? ⟨tb, 0, none⟩ = some (.pointer (some ⟨p, 0, none⟩)) ∧ w'.cell? ⟨w.heap.size, 1, none⟩ = some (.string s) := fun W hW => by
      refine (add_f s (H1.out.keep (W1 := W) (G := fun _ => False) (by rw [hW]; exact (Keep.refl _ _).drew) (fun _ _ => id)).T).mono ?_
      rintro e w2 ⟨rfl, F', T2, K2, n2⟩
      have K2' : Keep F (w.alloc (.cells #[.int .i64 0, .string s, .int .i64 n] 49)) w2 := by
        rw [hW] at K2
        exact ⟨K2.os, K2.tape, K2.output, K2.size, K2.block⟩
      refine ⟨rfl, ⟨F', T2, K2', fun i hi => (n2 i hi).imp id (fun h => by rw [hW] at h; exact h)⟩, blk_cell (K2'.blk H1.out.t H1.out.nt) 0 rfl, blk_cell (K2'.blk HX.out (fun hf => absurd (H.out.T.2 _ hf).2 (Nat.lt_irrefl _))) 1 rfl⟩
    have HA := Lib.hid hA
    clear hA
    go_region_held3 (fun w' => w'.cell? ⟨tb, 0, none⟩ = some (.pointer (some ⟨p, 0, none⟩)) ∧ w'.cell? ⟨w.heap.size, 1, none⟩ = some (.string s))
      (first | go_keep | exact ⟨e0, e1⟩)
      ((go_at_call 15; refine (HA.out _ rfl).mono ?_; rintro e w2 ⟨rfl, hF, e0, e1⟩))
    all_goals (go_wp2; go_meet)
    all_goals exact ⟨rfl, rfl, hF⟩
  case rest =>
    obtain ⟨rfl, rfl, hA⟩ := hcut
    have hA2 := hA
    obtain ⟨F', T2, K2, n2⟩ := hA2
    have hx2 := K2.blk HX.out (fun hf => absurd (H.out.T.2 _ hf).2 (Nat.lt_irrefl _))
    have x1' := blk_cell hx2 1 (v := .string s) rfl
    have R2 := H1.out.R.keep K2 (fun i hi hf => H1.out.nd i hf hi)
    have hr := Lib.hid (radd_tab s hs R2 (Nat.le_trans (Nat.le_trans hB (by simp)) K2.size))
    have HA := Lib.hid hA
    clear T2 K2 n2 hx2 R2 hA x0 x1 tc
    go_wp2_with (fail)
    refine hr.out.mono ?_
    rintro e w3 ⟨rfl, v', R3, K3, n3⟩
    have HD := Lib.hid (duo_add (Nat.le_trans hB (by simp)) H1.out HA.out R3 K3 n3)
    clear R3 K3 n3 hr HA x1' H1 HX
    go_wp2_with (first | (go_at_call 13; refine (num_calls _ _).mono ?_; rintro e w' ⟨rfl, rfl⟩))
    go_ret
    exact ⟨rfl, HD.out.1, (((Below.refl _ w).mono hB).alloc hB _).trans HD.out.2⟩
end
end Go.Proofs.Ytmdfgiiihmameaa
