import Derived.Test.YtcakgennlliejaaGreatDoorSynK1
/- syntax's reader: is, mark, skip, must, room, reserved, name, arg -/
namespace Go.Proofs.YtcakgennlliejaaGreatDoor
open Go.Shelf Go.RowKit Go.Lib
open Sx
set_option linter.unusedVariables false
set_option linter.unusedSimpArgs false
theorem str_eq (a b : ByteArray) : (a.toList == b.toList) = decide (a = b) := by
  by_cases h : a = b
  · subst h; simp
  · rw [decide_eq_false h, beq_eq_false_iff_ne]
    intro e
    apply h
    cases a with | mk x =>
    cases b with | mk y =>
    rw [Lib.toList_data, Lib.toList_data] at e
    congr 1
    exact Array.toList_inj.1 e
set_option maxRecDepth 100000 in
theorem is_calls (V : Env) (p : Nat) (k : Int) (s : ByteArray) (w : World) (h : Rd w V p) : Calls Tryz.prog 53 #[.pointer (some ⟨V.rb, 0, none⟩), .int .i64 k, .string s] w fun e w' => e = .returned (.bool (V.isT k s p)) ∧ Below w.heap.size w w' := by
  have HN := Lib.hid (next_calls V p w h)
  unfold Sx.tv at HN
  have HF := Lib.hid (show V.isT k s p = ((V.next p).k == k && ((V.next p).t.toList == s.toList)) from rfl)
  generalize V.next p = t at *
  clear h
  go_enter Tryz.func53, Tryz.ntmps53
  go_wp2_with (first | (go_at_call 39; refine HN.out.mono ?_; rintro e w1 ⟨rfl, hb⟩))
  all_goals
    rename_i hk
    go_ret
    exact ⟨by rw [HF.out]; simp [hk], below_next hb ((Below.refl _ w1).alloc (Nat.le_refl _) _)⟩
/-- a mark or word that is next is none behind the end -/
theorem Sx.isT_lt {V : Env} {k : Int} {s : ByteArray} {p : Nat} (h : V.isT k s p = true) (hk : k ≠ 0) : p < V.T.length := by
  rcases Nat.lt_or_ge p V.T.length with c | c
  · exact c
  · have e : V.next p = noTok := by unfold Env.next; rw [List.getD_eq_getElem?_getD, List.getElem?_eq_none c]; rfl
    unfold Env.isT at h
    rw [e] at h
    simp [noTok] at h
    exact absurd h.1.symm hk
theorem Sx.Rd.keep {w w1 : World} {V : Env} {p q : Nat} (h : Rd w V p) (b : Below w.heap.size w w1) (hq : q ≤ V.T.length) : Rd (w1.setCell ⟨V.rb, 1, none⟩ (.int .i64 q)) V q ∧ Keep (ours V) w (w1.setCell ⟨V.rb, 1, none⟩ (.int .i64 q)) :=
  ⟨(h.below b).step q hq, Keep.setCell (F := ours V) (Keep.of_below b) (p := ⟨V.rb, 1, none⟩) (fun _ => rfl) _⟩
set_option maxRecDepth 100000 in
theorem mark_calls (V : Env) (p : Nat) (s : ByteArray) (w : World) (h : Rd w V p) : Calls Tryz.prog 109 #[.pointer (some ⟨V.rb, 0, none⟩), .string s] w fun e w' => e = .returned (.bool (V.isT 6 s p)) ∧ Below w.heap.size w w' := by
  have HN := Lib.hid (is_calls V p 6 s w h)
  clear h
  go_enter Tryz.func109, Tryz.ntmps109
  go_wp2_with (first | (go_at_call 53; refine HN.out.mono ?_; rintro e w1 ⟨rfl, hb⟩))
  go_ret
  exact ⟨rfl, hb⟩
set_option maxRecDepth 100000 in
theorem skip_no (V : Env) (p : Nat) (k : Int) (s : ByteArray) (w : World) (h : Rd w V p) (hn : V.isT k s p = false) : Calls Tryz.prog 38 #[.pointer (some ⟨V.rb, 0, none⟩), .int .i64 k, .string s] w fun e w' => e = .returned (.bool false) ∧ Rd w' V p ∧ Keep (ours V) w w' := by
  have HN := is_calls V p k s w h
  rw [hn] at HN
  have HN := Lib.hid HN
  have HR := Lib.hid h
  clear h hn
  go_enter Tryz.func38, Tryz.ntmps38
  go_wp2_with (first | (go_at_call 53; refine HN.out.mono ?_; rintro e w1 ⟨rfl, hb⟩))
  go_ret
  exact ⟨rfl, HR.out.below hb, Keep.of_below hb⟩
set_option maxRecDepth 100000 in
theorem skip_yes (V : Env) (p : Nat) (k : Int) (s : ByteArray) (w : World) (h : Rd w V p) (hn : V.isT k s p = true) (hk : k ≠ 0) : Calls Tryz.prog 38 #[.pointer (some ⟨V.rb, 0, none⟩), .int .i64 k, .string s] w fun e w' => e = .returned (.bool true) ∧ Rd w' V (p + 1) ∧ Keep (ours V) w w' := by
  have HN := is_calls V p k s w h
  rw [hn] at HN
  have HN := Lib.hid HN
  have HR := Lib.hid h
  have HL := Lib.hid (Sx.isT_lt hn hk)
  have wz : IntKind.i64.wrap ((p : Int) + 1) = ((p + 1 : Nat) : Int) := by have h1 := h.n; have h2 := HL.out; rw [IntWalk.i64_in _ (by omega)]; omega
  clear h hn
  go_enter Tryz.func38, Tryz.ntmps38
  go_wp2_with (first | (go_at_call 53; refine HN.out.mono ?_; rintro e w1 ⟨rfl, hb⟩; have HB := Lib.hid hb; have hp := (HR.out.below hb).pos; have hf := (HR.out.below hb).f; clear hb))
  go_ret
  exact ⟨rfl, HR.out.keep HB.out HL.out⟩
set_option maxRecDepth 100000 in
theorem must_ok (V : Env) (p : Nat) (k : Int) (s : ByteArray) (w : World) (h : Rd w V p) (hn : V.isT k s p = true) (hk : k ≠ 0) : Calls Tryz.prog 41 #[.pointer (some ⟨V.rb, 0, none⟩), .int .i64 k, .string s] w fun e w' => e = .returned (.tuple #[]) ∧ Rd w' V (p + 1) ∧ Keep (ours V) w w' := by
  have HN := Lib.hid (skip_yes V p k s w h hn hk)
  clear h hn
  go_enter Tryz.func41, Tryz.ntmps41
  go_wp2_with (first | (go_at_call 38; refine HN.out.mono ?_; rintro e w1 ⟨rfl, hr, hk⟩))
  go_end0
  exact ⟨rfl, hr, hk⟩
set_option maxRecDepth 100000 in
theorem must_bad (V : Env) (p : Nat) (k : Int) (s : ByteArray) (w : World) (h : Rd w V p) (hn : V.isT k s p = false) : Calls Tryz.prog 41 #[.pointer (some ⟨V.rb, 0, none⟩), .int .i64 k, .string s] w fun e w' => e = .panicked (flt 51 (V.place p)) ∧ Keep (ours V) w w' := by
  have HN := Lib.hid (skip_no V p k s w h hn)
  clear h hn
  go_enter Tryz.func41, Tryz.ntmps41
  go_wp2_with (first | (go_at_call 38; refine HN.out.mono ?_; rintro e w1 ⟨rfl, hr, hk⟩) | (go_at_call 40; refine (stop_calls V p 51 w1 hr).mono ?_; rintro e w2 ⟨rfl, hb⟩))
  exact ⟨rfl, rfl, hk.below hb⟩
set_option maxRecDepth 100000 in
theorem room_ok (V : Env) (p : Nat) (n most : Int) (w : World) (hn : n < most) : Calls Tryz.prog 55 #[.pointer (some ⟨V.rb, 0, none⟩), .int .i64 n, .int .i64 most] w fun e w' => e = .returned (.tuple #[]) ∧ w = w' := by
  have d1 : decide (most ≤ n) = false := decide_eq_false (by omega)
  clear hn
  go_enter Tryz.func55, Tryz.ntmps55
  go_wp2_with fail
  go_end0
  exact ⟨rfl, rfl⟩
set_option maxRecDepth 100000 in
theorem room_bad (V : Env) (p : Nat) (n most : Int) (w : World) (h : Rd w V p) (hn : most ≤ n) : Calls Tryz.prog 55 #[.pointer (some ⟨V.rb, 0, none⟩), .int .i64 n, .int .i64 most] w fun e w' => e = .panicked (flt 3 (V.place p)) ∧ Keep (ours V) w w' := by
  have d1 : decide (most ≤ n) = true := decide_eq_true (by omega)
  have HR := Lib.hid h
  clear hn h
  go_enter Tryz.func55, Tryz.ntmps55
  go_wp2_with (first | (go_at_call 40; refine (stop_calls V p 3 w HR.out).mono ?_; rintro e w2 ⟨rfl, hb⟩))
  exact ⟨rfl, rfl, Keep.of_below hb⟩
end Go.Proofs.YtcakgennlliejaaGreatDoor
/- syntax's reader: reserved, name, arg -/
namespace Go.Proofs.YtcakgennlliejaaGreatDoor
open Go.Shelf Go.RowKit Go.Lib
open Sx
set_option linter.unusedVariables false
set_option linter.unusedSimpArgs false
/-- the language's words -/
def Sx.words : List (List UInt8) := [[115, 116, 97, 116, 117, 116, 101], [107, 105, 110, 100], [109, 101, 109, 98, 101, 114], [112, 114, 101, 100], [110, 117, 109, 98, 101, 114], [97, 109, 111, 117, 110, 116], [99, 108, 97, 115, 115], [115, 111, 117, 114, 99, 101], [114, 97, 110, 107], [114, 117, 108, 101], [111, 102], [97, 116], [117, 110, 116, 105, 108], [101, 120, 99, 101, 112, 116, 105, 111, 110], [116, 111], [116, 111, 116, 97, 108], [99, 97, 112]]
def Sx.reserved (s : ByteArray) : Bool := words.any (fun x => s.toList == x)
set_option maxHeartbeats 4000000 in
set_option maxRecDepth 100000 in
theorem reserved_calls (s : ByteArray) (w : World) : Calls Tryz.prog 86 #[.string s] w fun e w' => e = .returned (.bool (Sx.reserved s)) ∧ w = w' := by
  have HF := Lib.hid (show Sx.reserved s = words.any (fun x => s.toList == x) from rfl)
  go_enter Tryz.func86, Tryz.ntmps86
  go_wp2_with fail
  all_goals first
    | (exfalso; simp_all; done)
    | (go_ret; exact ⟨by rw [HF.out]; simp_all [words], rfl⟩)
def Sx.isName (t : Tok) : Bool := t.k == 1 && !(Sx.reserved t.t)
namespace Sx.Env
variable (V : Env)
def name (p : Nat) : Res ByteArray := if isName (V.next p) then .ok (V.next p).t (p + 1) else V.stop 51 p
def arg (p : Nat) : Res ByteArray := if (V.next p).k == 2 then .ok (V.next p).t (p + 1) else V.name p
end Sx.Env
theorem Sx.next_lt {V : Env} {p : Nat} (h : (V.next p).k ≠ 0) : p < V.T.length := by
  rcases Nat.lt_or_ge p V.T.length with c | c
  · exact c
  · exfalso
    apply h
    unfold Env.next
    rw [List.getD_eq_getElem?_getD, List.getElem?_eq_none c]
    rfl
/-- what a parsing function's contract says: a value and the next place, or the panic -/
def Sx.Post {α : Type} (V : Env) (w : World) (R : α → Value → World → Prop) (r : Res α) (e : Ending) (w' : World) : Prop := match r with
  | .ok v q => ∃ x, e = .returned x ∧ R v x w' ∧ Rd w' V q ∧ Keep (ours V) w w'
  | .bad er a => e = .panicked (flt er a) ∧ Keep (ours V) w w'
def Sx.strR (s : ByteArray) (x : Value) (_ : World) : Prop := x = .string s
set_option maxHeartbeats 1000000 in
set_option maxRecDepth 100000 in
theorem name_calls (V : Env) (p : Nat) (w : World) (h : Rd w V p) : Calls Tryz.prog 56 #[.pointer (some ⟨V.rb, 0, none⟩)] w (Post V w strR (V.name p)) := by
  have HN := Lib.hid (next_calls V p w h)
  have HR := Lib.hid h
  unfold Sx.tv at HN
  have HL := Lib.hid (Sx.next_lt (V := V) (p := p))
  have hname : V.name p = if isName (V.next p) then .ok (V.next p).t (p + 1) else V.stop 51 p := rfl
  generalize V.next p = t at *
  by_cases hk : t.k = 1
  · have e1 : (t.k != 1) = false := by simpa using hk
    have hlt : p < V.T.length := HL.out (by rw [hk]; decide)
    have wz : IntKind.i64.wrap ((p : Int) + 1) = ((p + 1 : Nat) : Int) := by have h1 := h.n; rw [IntWalk.i64_in _ (by omega)]; omega
    have HLT := Lib.hid hlt
    cases hr : Sx.reserved t.t
    · have e2 := reserved_calls t.t
      rw [hr] at e2
      have HV := Lib.hid e2
      have HF := Lib.hid (show V.name p = .ok t.t (p + 1) by rw [hname]; simp [isName, hk, hr])
      clear h hname hr hk e2 hlt
      go_enter Tryz.func56, Tryz.ntmps56
      go_upto_region 2 with (first | (go_at_call 39; refine HN.out.mono ?_; rintro e w1 ⟨rfl, hb⟩))
      obtain ⟨X, hX⟩ : ∃ X, w1.alloc (Obj.cells #[.int .i64 t.k, .string t.t, .int .i64 t.a] 48) = X := ⟨_, rfl⟩
      have bX : Below w1.heap.size w1 X := by rw [← hX]; exact (Below.refl _ w1).alloc (Nat.le_refl _) _
      have x0 : X.cell? ⟨w1.heap.size, 0, none⟩ = some (.int .i64 t.k) := by rw [← hX]; exact blk_cell (heap_alloc_new w1 _) 0 rfl
      have x1 : X.cell? ⟨w1.heap.size, 1, none⟩ = some (.string t.t) := by rw [← hX]; exact blk_cell (heap_alloc_new w1 _) 1 rfl
      have HB := Lib.hid (below_next hb bX)
      have hp := (HR.out.below HB.out).pos
      have hf := (HR.out.below HB.out).f
      obtain ⟨Y, hY⟩ : ∃ Y, X.setCell ⟨V.rb, 1, none⟩ (.int .i64 ((p : Int) + 1)) = Y := ⟨_, rfl⟩
      have y1 : Y.cell? ⟨w1.heap.size, 1, none⟩ = some (.string t.t) := by rw [← hY, World.cell?_setCell_other _ _ _ _ (fun e => by injection e with e1; have h1 : V.rb < w.heap.size := World.block_lt_of_cell? w _ HR.out.pos; have h2 := hb.size; omega)]; exact x1
      have HY := Lib.hid (show Rd Y V (p + 1) ∧ Keep (ours V) w Y by rw [← hY]; exact HR.out.keep HB.out HLT.out)
      try rw [hX]
      clear hX bX hb
      go_wp2_with (first | (go_at_call 86; refine (HV.out _).mono ?_; rintro e w2 ⟨rfl, rfl⟩))
      go_ret
      rw [HF.out]
      exact ⟨_, rfl, rfl, HY.out⟩
    · have e2 := reserved_calls t.t
      rw [hr] at e2
      have HV := Lib.hid e2
      have HF := Lib.hid (show V.name p = V.stop 51 p by rw [hname]; simp [isName, hk, hr])
      clear h hname hr hk e2 hlt
      go_enter Tryz.func56, Tryz.ntmps56
      go_upto_region 2 with (first | (go_at_call 39; refine HN.out.mono ?_; rintro e w1 ⟨rfl, hb⟩))
      obtain ⟨X, hX⟩ : ∃ X, w1.alloc (Obj.cells #[.int .i64 t.k, .string t.t, .int .i64 t.a] 48) = X := ⟨_, rfl⟩
      have bX : Below w1.heap.size w1 X := by rw [← hX]; exact (Below.refl _ w1).alloc (Nat.le_refl _) _
      have x0 : X.cell? ⟨w1.heap.size, 0, none⟩ = some (.int .i64 t.k) := by rw [← hX]; exact blk_cell (heap_alloc_new w1 _) 0 rfl
      have x1 : X.cell? ⟨w1.heap.size, 1, none⟩ = some (.string t.t) := by rw [← hX]; exact blk_cell (heap_alloc_new w1 _) 1 rfl
      have HB := Lib.hid (below_next hb bX)
      try rw [hX]
      clear hX bX hb
      go_wp2_with (first | (go_at_call 86; refine (HV.out _).mono ?_; rintro e w2 ⟨rfl, rfl⟩) | (go_at_call 40; refine (stop_calls V p 51 X (HR.out.below HB.out)).mono ?_; rintro e w2 ⟨rfl, hb⟩))
      refine ⟨rfl, ?_⟩
      rw [HF.out]
      exact ⟨rfl, (Keep.of_below HB.out).below hb⟩
  · have e1 : (t.k != 1) = true := by simpa using hk
    have HF := Lib.hid (show V.name p = V.stop 51 p by rw [hname]; simp [isName, hk])
    clear h hname hk
    go_enter Tryz.func56, Tryz.ntmps56
    go_upto_region 2 with (first | (go_at_call 39; refine HN.out.mono ?_; rintro e w1 ⟨rfl, hb⟩))
    obtain ⟨X, hX⟩ : ∃ X, w1.alloc (Obj.cells #[.int .i64 t.k, .string t.t, .int .i64 t.a] 48) = X := ⟨_, rfl⟩
    have bX : Below w1.heap.size w1 X := by rw [← hX]; exact (Below.refl _ w1).alloc (Nat.le_refl _) _
    have x0 : X.cell? ⟨w1.heap.size, 0, none⟩ = some (.int .i64 t.k) := by rw [← hX]; exact blk_cell (heap_alloc_new w1 _) 0 rfl
    have HB := Lib.hid (below_next hb bX)
    try rw [hX]
    clear hX bX hb
    go_wp2_with (first | (go_at_call 40; refine (stop_calls V p 51 X (HR.out.below HB.out)).mono ?_; rintro e w2 ⟨rfl, hb⟩))
    refine ⟨rfl, ?_⟩
    rw [HF.out]
    exact ⟨rfl, (Keep.of_below HB.out).below hb⟩
/-- a contract asked in a later world -/
theorem Sx.Post.keep {α : Type} {V : Env} {w w0 : World} {R : α → Value → World → Prop} {r : Res α} {e : Ending} {w' : World} (h : Post V w R r e w') (k : Keep (ours V) w0 w) : Post V w0 R r e w' := by
  cases r with
  | ok v q => obtain ⟨x, h1, h2, h3, h4⟩ := h; exact ⟨x, h1, h2, h3, k.trans h4 (fun _ _ h => h)⟩
  | bad er a => obtain ⟨h1, h2⟩ := h; exact ⟨h1, k.trans h2 (fun _ _ h => h)⟩
set_option maxHeartbeats 1000000 in
set_option maxRecDepth 100000 in
theorem arg_calls (V : Env) (p : Nat) (w : World) (h : Rd w V p) : Calls Tryz.prog 113 #[.pointer (some ⟨V.rb, 0, none⟩)] w (Post V w strR (V.arg p)) := by
  have HN := Lib.hid (next_calls V p w h)
  have HR := Lib.hid h
  unfold Sx.tv at HN
  have HL := Lib.hid (Sx.next_lt (V := V) (p := p))
  have hname : V.arg p = if (V.next p).k == 2 then .ok (V.next p).t (p + 1) else V.name p := rfl
  generalize V.next p = t at *
  by_cases hk : t.k = 2
  · have e1 : (t.k == 2) = true := by simpa using hk
    have hlt : p < V.T.length := HL.out (by rw [hk]; decide)
    have wz : IntKind.i64.wrap ((p : Int) + 1) = ((p + 1 : Nat) : Int) := by have h1 := h.n; rw [IntWalk.i64_in _ (by omega)]; omega
    have HLT := Lib.hid hlt
    have HF := Lib.hid (show V.arg p = .ok t.t (p + 1) by rw [hname, if_pos e1])
    clear h hname hk hlt
    go_enter Tryz.func113, Tryz.ntmps113
    go_upto_region 2 with (first | (go_at_call 39; refine HN.out.mono ?_; rintro e w1 ⟨rfl, hb⟩))
    obtain ⟨X, hX⟩ : ∃ X, w1.alloc (Obj.cells #[.int .i64 t.k, .string t.t, .int .i64 t.a] 48) = X := ⟨_, rfl⟩
    have bX : Below w1.heap.size w1 X := by rw [← hX]; exact (Below.refl _ w1).alloc (Nat.le_refl _) _
    have x0 : X.cell? ⟨w1.heap.size, 0, none⟩ = some (.int .i64 t.k) := by rw [← hX]; exact blk_cell (heap_alloc_new w1 _) 0 rfl
    have x1 : X.cell? ⟨w1.heap.size, 1, none⟩ = some (.string t.t) := by rw [← hX]; exact blk_cell (heap_alloc_new w1 _) 1 rfl
    have HB := Lib.hid (below_next hb bX)
    have hp := (HR.out.below HB.out).pos
    have hf := (HR.out.below HB.out).f
    obtain ⟨Y, hY⟩ : ∃ Y, X.setCell ⟨V.rb, 1, none⟩ (.int .i64 ((p : Int) + 1)) = Y := ⟨_, rfl⟩
    have y1 : Y.cell? ⟨w1.heap.size, 1, none⟩ = some (.string t.t) := by rw [← hY, World.cell?_setCell_other _ _ _ _ (fun e => by injection e with e1; have h1 : V.rb < w.heap.size := World.block_lt_of_cell? w _ HR.out.pos; have h2 := hb.size; omega)]; exact x1
    have HY := Lib.hid (show Rd Y V (p + 1) ∧ Keep (ours V) w Y by rw [← hY]; exact HR.out.keep HB.out HLT.out)
    try rw [hX]
    clear hX bX hb
    go_wp2_with fail
    go_ret
    rw [HF.out]
    exact ⟨_, rfl, rfl, HY.out⟩
  · have e1 : (t.k == 2) = false := by simpa using hk
    have HF := Lib.hid (show V.arg p = V.name p by rw [hname, e1]; rfl)
    clear h hname hk
    go_enter Tryz.func113, Tryz.ntmps113
    go_upto_region 2 with (first | (go_at_call 39; refine HN.out.mono ?_; rintro e w1 ⟨rfl, hb⟩))
    obtain ⟨X, hX⟩ : ∃ X, w1.alloc (Obj.cells #[.int .i64 t.k, .string t.t, .int .i64 t.a] 48) = X := ⟨_, rfl⟩
    have bX : Below w1.heap.size w1 X := by rw [← hX]; exact (Below.refl _ w1).alloc (Nat.le_refl _) _
    have x0 : X.cell? ⟨w1.heap.size, 0, none⟩ = some (.int .i64 t.k) := by rw [← hX]; exact blk_cell (heap_alloc_new w1 _) 0 rfl
    have HB := Lib.hid (below_next hb bX)
    have HC := Lib.hid (name_calls V p X (HR.out.below HB.out))
    try rw [hX]
    clear hX bX hb
    cases hn : V.name p with
    | ok v q =>
      rw [hn] at HC HF
      clear hn
      go_wp2_with (first | (go_at_call 56; refine HC.out.mono ?_; rintro e w2 ⟨x, rfl, rfl, hr, hk⟩))
      go_ret
      rw [HF.out]
      exact ⟨_, rfl, rfl, hr, (Keep.of_below HB.out).trans hk (fun _ _ h => h)⟩
    | bad er a =>
      rw [hn] at HC HF
      clear hn
      go_wp2_with (first | (go_at_call 56; refine HC.out.mono ?_; rintro e w2 ⟨rfl, hk⟩))
      refine ⟨rfl, ?_⟩
      rw [HF.out]
      exact ⟨rfl, (Keep.of_below HB.out).trans hk (fun _ _ h => h)⟩
end Go.Proofs.YtcakgennlliejaaGreatDoor
