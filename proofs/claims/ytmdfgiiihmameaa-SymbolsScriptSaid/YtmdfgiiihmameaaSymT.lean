import Derived.Test.YtmdfgiiihmameaaSymS
namespace Go.Proofs.Ytmdfgiiihmameaa
open Go.Shelf Go.RowKit Go.Lib Go.Sort
set_option linter.unusedVariables false
set_option linter.unusedSimpArgs false

theorem quiet_eq {P : Program} {f : FuncId} {args : Array Value} {w : World} {n : Nat} {v : Value}
    (h : Calls P f args (w.drewN n) fun e w' => e = .returned v ∧ w.drewN n = w') : Calls P f args (w.drewN n) fun e w'' => e = .returned v ∧ ∃ m, w'' = w.drewN m :=
  h.mono fun _ _ ⟨he, hm⟩ => ⟨he, n, hm.symm⟩
section
variable {B tb m most p : Nat} {ns : List ByteArray} {F : Nat → Prop} {v : Value}
theorem Duo.drewN {w : World} (h : Duo B w tb m most ns p F v) (n : Nat) : Duo B (w.drewN n) tb m most ns p F v := h.keep ((Keep.refl (fun _ => False) w).drewN n) (fun _ _ => id)
/-- the step's box, and what is known when it is laid -/
structure Boxed (B : Nat) (w w1 : World) (tb m most : Nat) (ns : List ByteArray) (p : Nat) (F : Nat → Prop) (v : Value) (wh : Int) (s : ByteArray) (n : Int) : Prop where
  x0 : w1.cell? ⟨w.heap.size, 0, none⟩ = some (.int .i64 wh)
  x1 : w1.cell? ⟨w.heap.size, 1, none⟩ = some (.string s)
  x2 : w1.cell? ⟨w.heap.size, 2, none⟩ = some (.int .i64 n)
  tc : w1.cell? ⟨tb, 0, none⟩ = some (.pointer (some ⟨p, 0, none⟩))
  D : Duo B w1 tb m most ns p F v
  b : Below B w w1
theorem boxed (wh : Int) (s : ByteArray) (n : Int) {w : World} (h : Duo B w tb m most ns p F v) (hB : B ≤ w.heap.size) :
    Boxed B w (w.alloc (.cells #[.int .i64 wh, .string s, .int .i64 n] 49)) tb m most ns p F v wh s n := by
  have b1 : Below w.heap.size w (w.alloc (.cells #[.int .i64 wh, .string s, .int .i64 n] 49)) := (Below.refl _ w).alloc (Nat.le_refl _) _
  have hx := heap_alloc_new w (.cells #[.int .i64 wh, .string s, .int .i64 n] 49)
  exact ⟨blk_cell hx 0 rfl, blk_cell hx 1 rfl, blk_cell hx 2 rfl, blk_cell (h.below b1).t 0 rfl, h.below b1, b1.mono hB⟩
theorem Boxed.drewN {w w1 : World} {wh : Int} {s : ByteArray} {n : Int} (h : Boxed B w w1 tb m most ns p F v wh s n) (q : Nat) : Boxed B w (w1.drewN q) tb m most ns p F v wh s n :=
  ⟨h.x0, h.x1, h.x2, h.tc, h.D.drewN q, below_drewN' h.b q⟩

set_option maxHeartbeats 1000000 in
set_option maxRecDepth 100000 in
theorem does_find (s : ByteArray) (n : Int) (hs : s.size ≤ maxLen) {w : World} (h : Duo B w tb m most ns p F v) (hB : B ≤ w.heap.size) :
    Calls Try.prog 21 #[.pointer (some ⟨tb, 0, none⟩), .pointer (some ⟨m, 0, none⟩), .agg #[.int .i64 1, .string s, .int .i64 n]] w fun e w' => e = .returned (.bool true) ∧ DuoE B w' tb m most ∧ Below B w w' := by
  have X := boxed 1 s n h hB
  have HF := Lib.hid (fun q => find_f s hs (X.drewN q).D.T)
  have HR := Lib.hid (fun q => rfind_tab s (X.drewN q).D.R)
  obtain ⟨x0, x1, x2, tc, D, b⟩ := X
  have HD := Lib.hid D
  have HB := Lib.hid b
  obtain ⟨a, c, hab⟩ : ∃ a c, findV ns s = .tuple #[.int .i64 a, .bool c] := by
    unfold findV
    split
    · exact ⟨_, _, rfl⟩
    · exact ⟨_, _, rfl⟩
  rw [hab] at HF HR
  clear h D b hs hB hab
  go_enter Try.func21, Try.ntmps21
  go_wp2_with (fail)
  go_quiet ((go_at_call 16; exact quiet_eq (HF.out _)))
  go_wp2_with (first | (go_at_call 45; refine (HR.out _).mono ?_; rintro e w' ⟨rfl, rfl⟩))
  try go_quiet (fail)
  try go_wp2
  go_ret
  exact ⟨by simp, ⟨_, _, _, _, HD.out.drewN _⟩, below_drewN' HB.out _⟩

set_option maxHeartbeats 1000000 in
set_option maxRecDepth 100000 in
theorem does_name (s : ByteArray) (n : Int) {w : World} (h : Duo B w tb m most ns p F v) (hB : B ≤ w.heap.size) :
    Calls Try.prog 21 #[.pointer (some ⟨tb, 0, none⟩), .pointer (some ⟨m, 0, none⟩), .agg #[.int .i64 2, .string s, .int .i64 n]] w fun e w' => e = .returned (.bool true) ∧ DuoE B w' tb m most ∧ Below B w w' := by
  have X := boxed 2 s n h hB
  obtain ⟨a, b, hab⟩ : ∃ a b, nameV ns n = .tuple #[.string a, .int .i64 b] := by
    unfold nameV
    split
    · exact ⟨_, _, rfl⟩
    · split
      · exact ⟨_, _, rfl⟩
      · exact ⟨_, _, rfl⟩
  have HF := Lib.hid (fun q => name_f n (X.drewN q).D.T)
  have HR := Lib.hid (fun q => rname_tab n (X.drewN q).D.R)
  rw [hab] at HF HR
  obtain ⟨x0, x1, x2, tc, D, bb⟩ := X
  have HD := Lib.hid D
  have HB := Lib.hid bb
  clear h D bb hB hab
  go_enter Try.func21, Try.ntmps21
  go_wp2_with (fail)
  go_quiet ((go_at_call 17; exact quiet_eq (HF.out _)))
  go_wp2_with (first | (go_at_call 46; refine (HR.out _).mono ?_; rintro e w' ⟨rfl, q2, rfl⟩))
  try go_quiet (fail)
  go_wp2_with (first | (go_at_call 13; refine (num_calls _ _).mono ?_; rintro e w' ⟨rfl, rfl⟩))
  go_ret
  exact ⟨rfl, ⟨_, _, _, _, HD.out.drewN _⟩, below_drewN' HB.out _⟩

set_option maxHeartbeats 1000000 in
set_option maxRecDepth 100000 in
theorem does_else (wh : Int) (s : ByteArray) (n : Int) (h0 : wh ≠ 0) (h1 : wh ≠ 1) (h2 : wh ≠ 2) (h3 : wh ≠ 3) (h4 : wh ≠ 4) {w : World} (h : Duo B w tb m most ns p F v) (hB : B ≤ w.heap.size) :
    Calls Try.prog 21 #[.pointer (some ⟨tb, 0, none⟩), .pointer (some ⟨m, 0, none⟩), .agg #[.int .i64 wh, .string s, .int .i64 n]] w fun e w' => e = .returned (.bool true) ∧ DuoE B w' tb m most ∧ Below B w w' := by
  have X := boxed wh s n h hB
  obtain ⟨x0, x1, x2, tc, D, bb⟩ := X
  have d0 : (wh == 0) = false := by simpa using h0
  have d1 : (wh == 1) = false := by simpa using h1
  have d2 : (wh == 2) = false := by simpa using h2
  have d3 : (wh == 3) = false := by simpa using h3
  have d4 : (wh == 4) = false := by simpa using h4
  have HD := Lib.hid D
  have HB := Lib.hid bb
  clear h D bb hB
  go_enter Try.func21, Try.ntmps21
  go_wp2
  go_ret
  exact ⟨rfl, ⟨_, _, _, _, HD.out⟩, HB.out⟩
end
end Go.Proofs.Ytmdfgiiihmameaa
