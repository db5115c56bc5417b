import Derived.Test.YtcakgennlliejaaGreatDoorSynK12
import Derived.Test.YtcakgennlliejaaGreatDoorSynK18
import Derived.Test.YtcakgennlliejaaGreatDoorSynK20
import Derived.Test.YtcakgennlliejaaGreatDoorSynK21
import Derived.Test.YtcakgennlliejaaGreatDoorSynK22
/- syntax's reader: item: pred, number, amount (printed by genx.py) -/
namespace Go.Proofs.YtcakgennlliejaaGreatDoor
open Go.Shelf Go.RowKit Go.Lib
open Go.Proofs.YtcakgennlliejaaGreatDoorW.PrintWords
open Go.Proofs.YtcakgennlliejaaGreatDoor.PSyntaxJoined
open Sx
set_option linter.unusedVariables false
set_option linter.unusedSimpArgs false

theorem item_pred_eq (V : Env) (cal : ByteArray → Int × Int) (s : Stt) (p : Nat) (hk : (V.next p).k = 1) (ht : (V.next p).t.toList = [112, 114, 101, 100]) : V.item cal s p = (V.pred s.preds.length 1 (p + 1)).bnd fun x q => .ok { s with preds := s.preds ++ [x] } q := by
  unfold Env.item
  rw [if_pos (by rw [hk]; rfl), ht]
  rfl
set_option maxHeartbeats 8000000 in
set_option maxRecDepth 100000 in
theorem item_pred_calls (V : Env) (cal : ByteArray → Int × Int)
    (p SB : Nat) (own : Nat → Nat) (s : Stt) (v : Vs) (w : World) (h : Rd w V p) (lo : Lo V SB) (hs : StB w SB own s v) (hk : (V.next p).k = 1) (ht : (V.next p).t.toList = [112, 114, 101, 100]) :
    Calls Tryz.prog 42 #[.pointer (some ⟨V.rb, 0, none⟩), .pointer (some ⟨SB, 0, none⟩)] w (PostS V SB w (V.item cal s p)) := by
  have hmf : ∀ (fn : Fn) (first cap : Array Value) (w : World), (Instr.makeFunc fn first cap).run Tryz.prog w = .ok (.func fn first cap) w := fun _ _ _ _ => rfl
  obtain ⟨x1, x2, x3, x4, x5, x6, x7, x8⟩ := v
  have e0 := Kd.R_slice hs.r3
  dsimp only at e0
  obtain ⟨A0, c0, rfl⟩ := e0
  have hF0 := item_pred_eq V cal s p hk ht
  have HLT := Lib.hid (Sx.next_lt (V := V) (p := p) (by rw [hk]; decide))
  have HN := Lib.hid (fun w1 (h1 : Rd w1 V p) => next_calls V p w1 h1)
  unfold Sx.tv at HN
  generalize V.item cal s p = F at *
  generalize V.next p = t at *
  have HF0 := Lib.hid hF0
  have e1 : (t.k != 1) = false := by rw [hk]; rfl
  have k0 : (t.t.toList == [107, 105, 110, 100]) = false := by rw [ht]; rfl
  have k1 : (t.t.toList == [109, 101, 109, 98, 101, 114]) = false := by rw [ht]; rfl
  have k2 : (t.t.toList == [112, 114, 101, 100]) = true := by rw [ht]; rfl
  have HA0 := Lib.hid (show Bs w w V p p SB own s ⟨x1, x2, .slice A0 s.preds.length c0, x4, x5, x6, x7, x8⟩ from ⟨h, lo, hs, h, Keep.refl _ _⟩)
  clear h lo hs hk ht hF0
  go_enter Tryz.func42, Tryz.ntmps42
  go_upto_region 1 with (first | (go_at_call 39; refine (HN.out w HA0.out.rd).mono ?_; rintro e w1 ⟨rfl, hb1⟩; have HA1 := Lib.hid (HA0.out.call (HA0.out.rd.below hb1) (Keep.of_below hb1)); clear hb1))
  obtain ⟨X1, hX1⟩ : ∃ X, w1.alloc (Obj.cells #[.int .i64 t.k, .string t.t, .int .i64 t.a] 48) = X := ⟨_, rfl⟩
  have HA2 := Lib.hid (HA1.out.alloc (Obj.cells #[.int .i64 t.k, .string t.t, .int .i64 t.a] 48))
  have u0 : X1.cell? ⟨w1.heap.size, 0, none⟩ = some (.int .i64 t.k) := by rw [← hX1]; exact blk_cell (heap_alloc_new w1 _) 0 rfl
  have u1 : X1.cell? ⟨w1.heap.size, 1, none⟩ = some (.string t.t) := by rw [← hX1]; exact blk_cell (heap_alloc_new w1 _) 1 rfl
  have hne : w1.heap.size ≠ V.rb := by have h1 := World.block_lt_of_cell? _ _ HA1.out.rd.pos; simp only at h1; omega
  rw [hX1] at HA2
  try rw [hX1]
  clear hX1 HA1
  have hp := HA2.out.rd.pos
  have hf := HA2.out.rd.f
  have wz : IntKind.i64.wrap ((p : Nat) + 1 : Int) = ((p + 1 : Nat) : Int) := by have h1 := HA2.out.rd.n; have h2 := HLT.out; rw [IntWalk.i64_in _ (by omega)]; omega
  have hs := HA2.out.rd.step (p + 1) HLT.out
  have hk : Keep (ours V) X1 (X1.setCell ⟨V.rb, 1, none⟩ (.int .i64 ((p + 1 : Nat) : Int))) := Keep.setCell (F := ours V) (Keep.refl _ _) (p := ⟨V.rb, 1, none⟩) (fun _ => rfl) _
  obtain ⟨X2, hX2⟩ : ∃ X, X1.setCell ⟨V.rb, 1, none⟩ (.int .i64 ((p + 1 : Nat) : Int)) = X := ⟨_, rfl⟩
  have u2 : X2.cell? ⟨w1.heap.size, 1, none⟩ = some (.string t.t) := by rw [← hX2, World.cell?_setCell_other _ _ _ _ (fun e => by injection e with e1; exact hne e1.symm)]; exact u1
  have hX2b : X1.setCell ⟨V.rb, 1, none⟩ (.int .i64 ((p : Int) + 1)) = X2 := hX2
  rw [hX2] at hs hk
  have HA3 := Lib.hid (HA2.out.call hs hk)
  clear hs hk HA2 hne
  go_upto_region 4 with (fail)
  try rw [hX2]
  try rw [hX2b]
  clear hX2 hX2b hp hf wz u0 u1 HN
  go_upto_region 20 with (fail)
  clear u2
  have HC := Lib.hid (pred_calls V 1 (p + 1) SB own s ⟨x1, x2, .slice A0 s.preds.length c0, x4, x5, x6, x7, x8⟩ X2 HA3.out.rd HA3.out.lo (HA3.out.st.move HA3.out.lo HA3.out.keep))
  have hF := HF0.out
  rw [← hF] at HC
  clear hF
  cases F with
  | bad er a =>
    go_wp2_with (first | (go_at_call 58; refine HC.out.mono ?_; rintro e w2 ⟨rfl, hk2⟩))
    exact ⟨rfl, rfl, (Sx.Keep.toS HA3.out.keep).trans hk2 (fun _ _ h => h)⟩
  | ok s2 q =>
    go_wp2_with (first | (go_at_call 58; refine HC.out.mono ?_; rintro e w2 ⟨rfl, hr2, hs2, hk2⟩))
    go_end0
    exact ⟨rfl, hr2, hs2, (Sx.Keep.toS HA3.out.keep).trans hk2 (fun _ _ h => h)⟩
theorem item_number_eq (V : Env) (cal : ByteArray → Int × Int) (s : Stt) (p : Nat) (hk : (V.next p).k = 1) (ht : (V.next p).t.toList = [110, 117, 109, 98, 101, 114]) : V.item cal s p = (V.pred s.preds.length 2 (p + 1)).bnd fun x q => .ok { s with preds := s.preds ++ [x] } q := by
  unfold Env.item
  rw [if_pos (by rw [hk]; rfl), ht]
  rfl
set_option maxHeartbeats 8000000 in
set_option maxRecDepth 100000 in
theorem item_number_calls (V : Env) (cal : ByteArray → Int × Int)
    (p SB : Nat) (own : Nat → Nat) (s : Stt) (v : Vs) (w : World) (h : Rd w V p) (lo : Lo V SB) (hs : StB w SB own s v) (hk : (V.next p).k = 1) (ht : (V.next p).t.toList = [110, 117, 109, 98, 101, 114]) :
    Calls Tryz.prog 42 #[.pointer (some ⟨V.rb, 0, none⟩), .pointer (some ⟨SB, 0, none⟩)] w (PostS V SB w (V.item cal s p)) := by
  have hmf : ∀ (fn : Fn) (first cap : Array Value) (w : World), (Instr.makeFunc fn first cap).run Tryz.prog w = .ok (.func fn first cap) w := fun _ _ _ _ => rfl
  obtain ⟨x1, x2, x3, x4, x5, x6, x7, x8⟩ := v
  have e0 := Kd.R_slice hs.r3
  dsimp only at e0
  obtain ⟨A0, c0, rfl⟩ := e0
  have hF0 := item_number_eq V cal s p hk ht
  have HLT := Lib.hid (Sx.next_lt (V := V) (p := p) (by rw [hk]; decide))
  have HN := Lib.hid (fun w1 (h1 : Rd w1 V p) => next_calls V p w1 h1)
  unfold Sx.tv at HN
  generalize V.item cal s p = F at *
  generalize V.next p = t at *
  have HF0 := Lib.hid hF0
  have e1 : (t.k != 1) = false := by rw [hk]; rfl
  have k0 : (t.t.toList == [107, 105, 110, 100]) = false := by rw [ht]; rfl
  have k1 : (t.t.toList == [109, 101, 109, 98, 101, 114]) = false := by rw [ht]; rfl
  have k2 : (t.t.toList == [112, 114, 101, 100]) = false := by rw [ht]; rfl
  have k3 : (t.t.toList == [110, 117, 109, 98, 101, 114]) = true := by rw [ht]; rfl
  have HA0 := Lib.hid (show Bs w w V p p SB own s ⟨x1, x2, .slice A0 s.preds.length c0, x4, x5, x6, x7, x8⟩ from ⟨h, lo, hs, h, Keep.refl _ _⟩)
  clear h lo hs hk ht hF0
  go_enter Tryz.func42, Tryz.ntmps42
  go_upto_region 1 with (first | (go_at_call 39; refine (HN.out w HA0.out.rd).mono ?_; rintro e w1 ⟨rfl, hb1⟩; have HA1 := Lib.hid (HA0.out.call (HA0.out.rd.below hb1) (Keep.of_below hb1)); clear hb1))
  obtain ⟨X1, hX1⟩ : ∃ X, w1.alloc (Obj.cells #[.int .i64 t.k, .string t.t, .int .i64 t.a] 48) = X := ⟨_, rfl⟩
  have HA2 := Lib.hid (HA1.out.alloc (Obj.cells #[.int .i64 t.k, .string t.t, .int .i64 t.a] 48))
  have u0 : X1.cell? ⟨w1.heap.size, 0, none⟩ = some (.int .i64 t.k) := by rw [← hX1]; exact blk_cell (heap_alloc_new w1 _) 0 rfl
  have u1 : X1.cell? ⟨w1.heap.size, 1, none⟩ = some (.string t.t) := by rw [← hX1]; exact blk_cell (heap_alloc_new w1 _) 1 rfl
  have hne : w1.heap.size ≠ V.rb := by have h1 := World.block_lt_of_cell? _ _ HA1.out.rd.pos; simp only at h1; omega
  rw [hX1] at HA2
  try rw [hX1]
  clear hX1 HA1
  have hp := HA2.out.rd.pos
  have hf := HA2.out.rd.f
  have wz : IntKind.i64.wrap ((p : Nat) + 1 : Int) = ((p + 1 : Nat) : Int) := by have h1 := HA2.out.rd.n; have h2 := HLT.out; rw [IntWalk.i64_in _ (by omega)]; omega
  have hs := HA2.out.rd.step (p + 1) HLT.out
  have hk : Keep (ours V) X1 (X1.setCell ⟨V.rb, 1, none⟩ (.int .i64 ((p + 1 : Nat) : Int))) := Keep.setCell (F := ours V) (Keep.refl _ _) (p := ⟨V.rb, 1, none⟩) (fun _ => rfl) _
  obtain ⟨X2, hX2⟩ : ∃ X, X1.setCell ⟨V.rb, 1, none⟩ (.int .i64 ((p + 1 : Nat) : Int)) = X := ⟨_, rfl⟩
  have u2 : X2.cell? ⟨w1.heap.size, 1, none⟩ = some (.string t.t) := by rw [← hX2, World.cell?_setCell_other _ _ _ _ (fun e => by injection e with e1; exact hne e1.symm)]; exact u1
  have hX2b : X1.setCell ⟨V.rb, 1, none⟩ (.int .i64 ((p : Int) + 1)) = X2 := hX2
  rw [hX2] at hs hk
  have HA3 := Lib.hid (HA2.out.call hs hk)
  clear hs hk HA2 hne
  go_upto_region 4 with (fail)
  try rw [hX2]
  try rw [hX2b]
  clear hX2 hX2b hp hf wz u0 u1 HN
  go_upto_region 22 with (fail)
  clear u2
  have HC := Lib.hid (pred_calls V 2 (p + 1) SB own s ⟨x1, x2, .slice A0 s.preds.length c0, x4, x5, x6, x7, x8⟩ X2 HA3.out.rd HA3.out.lo (HA3.out.st.move HA3.out.lo HA3.out.keep))
  have hF := HF0.out
  rw [← hF] at HC
  clear hF
  cases F with
  | bad er a =>
    go_wp2_with (first | (go_at_call 58; refine HC.out.mono ?_; rintro e w2 ⟨rfl, hk2⟩))
    exact ⟨rfl, rfl, (Sx.Keep.toS HA3.out.keep).trans hk2 (fun _ _ h => h)⟩
  | ok s2 q =>
    go_wp2_with (first | (go_at_call 58; refine HC.out.mono ?_; rintro e w2 ⟨rfl, hr2, hs2, hk2⟩))
    go_end0
    exact ⟨rfl, hr2, hs2, (Sx.Keep.toS HA3.out.keep).trans hk2 (fun _ _ h => h)⟩
theorem item_amount_eq (V : Env) (cal : ByteArray → Int × Int) (s : Stt) (p : Nat) (hk : (V.next p).k = 1) (ht : (V.next p).t.toList = [97, 109, 111, 117, 110, 116]) : V.item cal s p = (V.pred s.preds.length 3 (p + 1)).bnd fun x q => .ok { s with preds := s.preds ++ [x] } q := by
  unfold Env.item
  rw [if_pos (by rw [hk]; rfl), ht]
  rfl
set_option maxHeartbeats 8000000 in
set_option maxRecDepth 100000 in
theorem item_amount_calls (V : Env) (cal : ByteArray → Int × Int)
    (p SB : Nat) (own : Nat → Nat) (s : Stt) (v : Vs) (w : World) (h : Rd w V p) (lo : Lo V SB) (hs : StB w SB own s v) (hk : (V.next p).k = 1) (ht : (V.next p).t.toList = [97, 109, 111, 117, 110, 116]) :
    Calls Tryz.prog 42 #[.pointer (some ⟨V.rb, 0, none⟩), .pointer (some ⟨SB, 0, none⟩)] w (PostS V SB w (V.item cal s p)) := by
  have hmf : ∀ (fn : Fn) (first cap : Array Value) (w : World), (Instr.makeFunc fn first cap).run Tryz.prog w = .ok (.func fn first cap) w := fun _ _ _ _ => rfl
  obtain ⟨x1, x2, x3, x4, x5, x6, x7, x8⟩ := v
  have e0 := Kd.R_slice hs.r3
  dsimp only at e0
  obtain ⟨A0, c0, rfl⟩ := e0
  have hF0 := item_amount_eq V cal s p hk ht
  have HLT := Lib.hid (Sx.next_lt (V := V) (p := p) (by rw [hk]; decide))
  have HN := Lib.hid (fun w1 (h1 : Rd w1 V p) => next_calls V p w1 h1)
  unfold Sx.tv at HN
  generalize V.item cal s p = F at *
  generalize V.next p = t at *
  have HF0 := Lib.hid hF0
  have e1 : (t.k != 1) = false := by rw [hk]; rfl
  have k0 : (t.t.toList == [107, 105, 110, 100]) = false := by rw [ht]; rfl
  have k1 : (t.t.toList == [109, 101, 109, 98, 101, 114]) = false := by rw [ht]; rfl
  have k2 : (t.t.toList == [112, 114, 101, 100]) = false := by rw [ht]; rfl
  have k3 : (t.t.toList == [110, 117, 109, 98, 101, 114]) = false := by rw [ht]; rfl
  have k4 : (t.t.toList == [97, 109, 111, 117, 110, 116]) = true := by rw [ht]; rfl
  have HA0 := Lib.hid (show Bs w w V p p SB own s ⟨x1, x2, .slice A0 s.preds.length c0, x4, x5, x6, x7, x8⟩ from ⟨h, lo, hs, h, Keep.refl _ _⟩)
  clear h lo hs hk ht hF0
  go_enter Tryz.func42, Tryz.ntmps42
  go_upto_region 1 with (first | (go_at_call 39; refine (HN.out w HA0.out.rd).mono ?_; rintro e w1 ⟨rfl, hb1⟩; have HA1 := Lib.hid (HA0.out.call (HA0.out.rd.below hb1) (Keep.of_below hb1)); clear hb1))
  obtain ⟨X1, hX1⟩ : ∃ X, w1.alloc (Obj.cells #[.int .i64 t.k, .string t.t, .int .i64 t.a] 48) = X := ⟨_, rfl⟩
  have HA2 := Lib.hid (HA1.out.alloc (Obj.cells #[.int .i64 t.k, .string t.t, .int .i64 t.a] 48))
  have u0 : X1.cell? ⟨w1.heap.size, 0, none⟩ = some (.int .i64 t.k) := by rw [← hX1]; exact blk_cell (heap_alloc_new w1 _) 0 rfl
  have u1 : X1.cell? ⟨w1.heap.size, 1, none⟩ = some (.string t.t) := by rw [← hX1]; exact blk_cell (heap_alloc_new w1 _) 1 rfl
  have hne : w1.heap.size ≠ V.rb := by have h1 := World.block_lt_of_cell? _ _ HA1.out.rd.pos; simp only at h1; omega
  rw [hX1] at HA2
  try rw [hX1]
  clear hX1 HA1
  have hp := HA2.out.rd.pos
  have hf := HA2.out.rd.f
  have wz : IntKind.i64.wrap ((p : Nat) + 1 : Int) = ((p + 1 : Nat) : Int) := by have h1 := HA2.out.rd.n; have h2 := HLT.out; rw [IntWalk.i64_in _ (by omega)]; omega
  have hs := HA2.out.rd.step (p + 1) HLT.out
  have hk : Keep (ours V) X1 (X1.setCell ⟨V.rb, 1, none⟩ (.int .i64 ((p + 1 : Nat) : Int))) := Keep.setCell (F := ours V) (Keep.refl _ _) (p := ⟨V.rb, 1, none⟩) (fun _ => rfl) _
  obtain ⟨X2, hX2⟩ : ∃ X, X1.setCell ⟨V.rb, 1, none⟩ (.int .i64 ((p + 1 : Nat) : Int)) = X := ⟨_, rfl⟩
  have u2 : X2.cell? ⟨w1.heap.size, 1, none⟩ = some (.string t.t) := by rw [← hX2, World.cell?_setCell_other _ _ _ _ (fun e => by injection e with e1; exact hne e1.symm)]; exact u1
  have hX2b : X1.setCell ⟨V.rb, 1, none⟩ (.int .i64 ((p : Int) + 1)) = X2 := hX2
  rw [hX2] at hs hk
  have HA3 := Lib.hid (HA2.out.call hs hk)
  clear hs hk HA2 hne
  go_upto_region 4 with (fail)
  try rw [hX2]
  try rw [hX2b]
  clear hX2 hX2b hp hf wz u0 u1 HN
  go_upto_region 24 with (fail)
  clear u2
  have HC := Lib.hid (pred_calls V 3 (p + 1) SB own s ⟨x1, x2, .slice A0 s.preds.length c0, x4, x5, x6, x7, x8⟩ X2 HA3.out.rd HA3.out.lo (HA3.out.st.move HA3.out.lo HA3.out.keep))
  have hF := HF0.out
  rw [← hF] at HC
  clear hF
  cases F with
  | bad er a =>
    go_wp2_with (first | (go_at_call 58; refine HC.out.mono ?_; rintro e w2 ⟨rfl, hk2⟩))
    exact ⟨rfl, rfl, (Sx.Keep.toS HA3.out.keep).trans hk2 (fun _ _ h => h)⟩
  | ok s2 q =>
    go_wp2_with (first | (go_at_call 58; refine HC.out.mono ?_; rintro e w2 ⟨rfl, hr2, hs2, hk2⟩))
    go_end0
    exact ⟨rfl, hr2, hs2, (Sx.Keep.toS HA3.out.keep).trans hk2 (fun _ _ h => h)⟩
end Go.Proofs.YtcakgennlliejaaGreatDoor
/- syntax's reader: item (printed by genx.py) -/
namespace Go.Proofs.YtcakgennlliejaaGreatDoor
open Go.Shelf Go.RowKit Go.Lib
open Go.Proofs.YtcakgennlliejaaGreatDoorW.PrintWords
open Go.Proofs.YtcakgennlliejaaGreatDoor.PSyntaxJoined
open Sx
set_option linter.unusedVariables false
set_option linter.unusedSimpArgs false

set_option maxHeartbeats 8000000 in
set_option maxRecDepth 100000 in
theorem item_none_calls (V : Env) (cal : ByteArray → Int × Int) (p SB : Nat) (own : Nat → Nat) (s : Stt) (v : Vs) (w : World) (h : Rd w V p) (lo : Lo V SB) (hs : StB w SB own s v) (hk : (V.next p).k = 1)
    (k0 : ((V.next p).t.toList == [107, 105, 110, 100]) = false)
    (k1 : ((V.next p).t.toList == [109, 101, 109, 98, 101, 114]) = false)
    (k2 : ((V.next p).t.toList == [112, 114, 101, 100]) = false)
    (k3 : ((V.next p).t.toList == [110, 117, 109, 98, 101, 114]) = false)
    (k4 : ((V.next p).t.toList == [97, 109, 111, 117, 110, 116]) = false)
    (k5 : ((V.next p).t.toList == [99, 108, 97, 115, 115]) = false)
    (k6 : ((V.next p).t.toList == [115, 111, 117, 114, 99, 101]) = false)
    (k7 : ((V.next p).t.toList == [114, 117, 108, 101]) = false)
    (k8 : ((V.next p).t.toList == [101, 120, 99, 101, 112, 116, 105, 111, 110]) = false)
    (k9 : ((V.next p).t.toList == [116, 111, 116, 97, 108]) = false) :
    Calls Tryz.prog 42 #[.pointer (some ⟨V.rb, 0, none⟩), .pointer (some ⟨SB, 0, none⟩)] w (PostS V SB w (V.item cal s p)) := by
  have hF0 : V.item cal s p = V.stop 51 p := by
    unfold Env.item
    rw [if_pos (by rw [hk]; rfl)]
    simp only [k0, k1, k2, k3, k4, k5, k6, k7, k8, k9, Bool.false_eq_true, if_false]
  obtain ⟨x1, x2, x3, x4, x5, x6, x7, x8⟩ := v
  have HLT := Lib.hid (Sx.next_lt (V := V) (p := p) (by rw [hk]; decide))
  have HN := Lib.hid (fun w1 (h1 : Rd w1 V p) => next_calls V p w1 h1)
  unfold Sx.tv at HN
  generalize V.item cal s p = F at *
  generalize V.next p = t at *
  have HF0 := Lib.hid hF0
  have e1 : (t.k != 1) = false := by rw [hk]; rfl
  have HA0 := Lib.hid (show Bs w w V p p SB own s ⟨x1, x2, x3, x4, x5, x6, x7, x8⟩ from ⟨h, lo, hs, h, Keep.refl _ _⟩)
  clear h lo hs hk hF0
  go_enter Tryz.func42, Tryz.ntmps42
  go_upto_region 1 with (first | (go_at_call 39; refine (HN.out w HA0.out.rd).mono ?_; rintro e w1 ⟨rfl, hb1⟩; have HA1 := Lib.hid (HA0.out.call (HA0.out.rd.below hb1) (Keep.of_below hb1)); clear hb1))
  obtain ⟨X1, hX1⟩ : ∃ X, w1.alloc (Obj.cells #[.int .i64 t.k, .string t.t, .int .i64 t.a] 48) = X := ⟨_, rfl⟩
  have HA2 := Lib.hid (HA1.out.alloc (Obj.cells #[.int .i64 t.k, .string t.t, .int .i64 t.a] 48))
  have u0 : X1.cell? ⟨w1.heap.size, 0, none⟩ = some (.int .i64 t.k) := by rw [← hX1]; exact blk_cell (heap_alloc_new w1 _) 0 rfl
  have u1 : X1.cell? ⟨w1.heap.size, 1, none⟩ = some (.string t.t) := by rw [← hX1]; exact blk_cell (heap_alloc_new w1 _) 1 rfl
  have hne : w1.heap.size ≠ V.rb := by have h1 := World.block_lt_of_cell? _ _ HA1.out.rd.pos; simp only at h1; omega
  rw [hX1] at HA2
  try rw [hX1]
  clear hX1 HA1
  have hp := HA2.out.rd.pos
  have hf := HA2.out.rd.f
  have wz : IntKind.i64.wrap ((p : Nat) + 1 : Int) = ((p + 1 : Nat) : Int) := by have h1 := HA2.out.rd.n; have h2 := HLT.out; rw [IntWalk.i64_in _ (by omega)]; omega
  have hs := HA2.out.rd.step (p + 1) HLT.out
  have hk : Keep (ours V) X1 (X1.setCell ⟨V.rb, 1, none⟩ (.int .i64 ((p + 1 : Nat) : Int))) := Keep.setCell (F := ours V) (Keep.refl _ _) (p := ⟨V.rb, 1, none⟩) (fun _ => rfl) _
  obtain ⟨X2, hX2⟩ : ∃ X, X1.setCell ⟨V.rb, 1, none⟩ (.int .i64 ((p + 1 : Nat) : Int)) = X := ⟨_, rfl⟩
  have u2 : X2.cell? ⟨w1.heap.size, 1, none⟩ = some (.string t.t) := by rw [← hX2, World.cell?_setCell_other _ _ _ _ (fun e => by injection e with e1; exact hne e1.symm)]; exact u1
  have hX2b : X1.setCell ⟨V.rb, 1, none⟩ (.int .i64 ((p : Int) + 1)) = X2 := hX2
  rw [hX2] at hs hk
  have HA3 := Lib.hid (HA2.out.call hs hk)
  clear hs hk HA2 hne
  go_upto_region 4 with (fail)
  try rw [hX2]
  try rw [hX2b]
  clear hX2 hX2b hp hf wz u0 u1 HN
  go_upto_region 5 with (fail)
  clear u2
  have hp := HA3.out.rd.pos
  have hf := HA3.out.rd.f
  have wz1 : IntKind.i64.wrap (((p + 1 : Nat) : Int) - 1) = (p : Int) := by have h1 := HA3.out.rd.n; have h2 := HA3.out.rd.le; rw [IntWalk.i64_in _ (by omega)]; omega
  have wz2 : IntKind.i64.wrap ((p : Int) + 1 - 1) = (p : Int) := by have h1 := HA3.out.rd.n; have h2 := HA3.out.rd.le; rw [IntWalk.i64_in _ (by omega)]; omega
  have wz3 : IntKind.i64.wrap (p : Int) = (p : Int) := by have h1 := HA3.out.rd.n; have h2 := HA3.out.rd.le; rw [IntWalk.i64_in _ (by omega)]
  have hs := HA3.out.rd.step p (Nat.le_of_lt HLT.out)
  have hk : Keep (ours V) X2 (X2.setCell ⟨V.rb, 1, none⟩ (.int .i64 (p : Int))) := Keep.setCell (F := ours V) (Keep.refl _ _) (p := ⟨V.rb, 1, none⟩) (fun _ => rfl) _
  have HA4 := Lib.hid (HA3.out.call hs hk)
  clear hs hk
  go_wp2_with (first | (go_at_call 40; refine (stop_calls V p 51 _ HA4.out.rd).mono ?_; rintro e w2 ⟨rfl, hb⟩))
  refine ⟨rfl, ?_⟩
  rw [HF0.out]
  exact ⟨rfl, Sx.Keep.toS (HA4.out.keep.trans (Keep.of_below hb) (fun _ _ h => h))⟩
set_option maxHeartbeats 8000000 in
set_option maxRecDepth 100000 in
theorem item_nok_calls (V : Env) (cal : ByteArray → Int × Int) (p SB : Nat) (own : Nat → Nat) (s : Stt) (v : Vs) (w : World) (h : Rd w V p) (lo : Lo V SB) (hs : StB w SB own s v) (hk : ¬ (V.next p).k = 1) :
    Calls Tryz.prog 42 #[.pointer (some ⟨V.rb, 0, none⟩), .pointer (some ⟨SB, 0, none⟩)] w (PostS V SB w (V.item cal s p)) := by
  have hF0 : V.item cal s p = V.stop 51 p := by
    unfold Env.item
    rw [if_neg (by simpa using hk)]
  have HN := Lib.hid (fun w1 (h1 : Rd w1 V p) => next_calls V p w1 h1)
  unfold Sx.tv at HN
  generalize V.item cal s p = F at *
  generalize V.next p = t at *
  have HF0 := Lib.hid hF0
  have e1 : (t.k != 1) = true := by simpa using hk
  have HA0 := Lib.hid (show Bs w w V p p SB own s v from ⟨h, lo, hs, h, Keep.refl _ _⟩)
  clear h lo hs hk hF0
  go_enter Tryz.func42, Tryz.ntmps42
  go_upto_region 1 with (first | (go_at_call 39; refine (HN.out w HA0.out.rd).mono ?_; rintro e w1 ⟨rfl, hb1⟩; have HA1 := Lib.hid (HA0.out.call (HA0.out.rd.below hb1) (Keep.of_below hb1)); clear hb1))
  obtain ⟨X1, hX1⟩ : ∃ X, w1.alloc (Obj.cells #[.int .i64 t.k, .string t.t, .int .i64 t.a] 48) = X := ⟨_, rfl⟩
  have HA2 := Lib.hid (HA1.out.alloc (Obj.cells #[.int .i64 t.k, .string t.t, .int .i64 t.a] 48))
  have u0 : X1.cell? ⟨w1.heap.size, 0, none⟩ = some (.int .i64 t.k) := by rw [← hX1]; exact blk_cell (heap_alloc_new w1 _) 0 rfl
  rw [hX1] at HA2
  try rw [hX1]
  clear hX1 HA1
  go_wp2_with (first | (go_at_call 40; refine (stop_calls V p 51 X1 HA2.out.rd).mono ?_; rintro e w2 ⟨rfl, hb⟩))
  refine ⟨rfl, ?_⟩
  rw [HF0.out]
  exact ⟨rfl, Sx.Keep.toS (HA2.out.keep.trans (Keep.of_below hb) (fun _ _ h => h))⟩
theorem item_calls (V : Env) (cal : ByteArray → Int × Int)
    (hC : ∀ s w, Calls Tryz.prog 108 #[.string s] w fun e w' => e = .returned (.tuple #[.int .i64 (cal s).1, .int .i64 (cal s).2]) ∧ Below w.heap.size w w')
    (p SB : Nat) (own : Nat → Nat) (s : Stt) (v : Vs) (w : World) (h : Rd w V p) (lo : Lo V SB) (hs : StB w SB own s v) :
    Calls Tryz.prog 42 #[.pointer (some ⟨V.rb, 0, none⟩), .pointer (some ⟨SB, 0, none⟩)] w (PostS V SB w (V.item cal s p)) := by
  by_cases hk : (V.next p).k = 1
  · have hb : ∀ l : List UInt8, ¬ (V.next p).t.toList = l → ((V.next p).t.toList == l) = false := fun l hl => by simpa using hl
    by_cases h0 : (V.next p).t.toList = [107, 105, 110, 100]
    · exact item_kind_calls V cal p SB own s v w h lo hs hk h0
    by_cases h1 : (V.next p).t.toList = [109, 101, 109, 98, 101, 114]
    · exact item_member_calls V cal p SB own s v w h lo hs hk h1
    by_cases h2 : (V.next p).t.toList = [112, 114, 101, 100]
    · exact item_pred_calls V cal p SB own s v w h lo hs hk h2
    by_cases h3 : (V.next p).t.toList = [110, 117, 109, 98, 101, 114]
    · exact item_number_calls V cal p SB own s v w h lo hs hk h3
    by_cases h4 : (V.next p).t.toList = [97, 109, 111, 117, 110, 116]
    · exact item_amount_calls V cal p SB own s v w h lo hs hk h4
    by_cases h5 : (V.next p).t.toList = [99, 108, 97, 115, 115]
    · exact item_class_calls V cal p SB own s v w h lo hs hk h5
    by_cases h6 : (V.next p).t.toList = [115, 111, 117, 114, 99, 101]
    · exact item_source_calls V cal p SB own s v w h lo hs hk h6
    by_cases h7 : (V.next p).t.toList = [114, 117, 108, 101]
    · exact item_rule_calls V cal hC p SB own s v w h lo hs hk h7
    by_cases h8 : (V.next p).t.toList = [101, 120, 99, 101, 112, 116, 105, 111, 110]
    · exact item_exception_calls V cal p SB own s v w h lo hs hk h8
    by_cases h9 : (V.next p).t.toList = [116, 111, 116, 97, 108]
    · exact item_total_calls V cal p SB own s v w h lo hs hk h9
    exact item_none_calls V cal p SB own s v w h lo hs hk (hb _ h0) (hb _ h1) (hb _ h2) (hb _ h3) (hb _ h4) (hb _ h5) (hb _ h6) (hb _ h7) (hb _ h8) (hb _ h9)
  · exact item_nok_calls V cal p SB own s v w h lo hs hk
end Go.Proofs.YtcakgennlliejaaGreatDoor
/- syntax's reader, plain law: what it answers hangs on the kinds and texts of the tokens it comes to, and on no more; where it gives up is a place of the text -/
namespace Go.Proofs.YtcakgennlliejaaGreatDoor
open Go.Shelf Go.RowKit Go.Lib
open Go.Proofs.YtcakgennlliejaaGreatDoorW.PrintWords
open Go.Proofs.YtcakgennlliejaaGreatDoor.PSyntaxJoined
open Sx
set_option linter.unusedVariables false
set_option linter.unusedSimpArgs false
namespace Sx
/-- the tokens up to a place are those of another reader, so many places on -/
def Agree (V V' : Env) (d m : Nat) : Prop := ∀ i, i ≤ m → (V.next i).k = (V'.next (i + d)).k ∧ (V.next i).t = (V'.next (i + d)).t ∧ decide (i < V.T.length) = decide (i + d < V'.T.length)
theorem Agree.le {V V' : Env} {d m m' : Nat} (h : Agree V V' d m) (hm : m' ≤ m) : Agree V V' d m' := fun i hi => h i (Nat.le_trans hi hm)
/-- tokens' places are places of the text -/
def Pl (V : Env) : Prop := 0 ≤ V.E ∧ ∀ i, i < V.T.length → 0 ≤ (V.next i).a ∧ (V.next i).a ≤ V.E
def Rl (V V' : Env) (d m : Nat) {α : Type} (r r' : Res α) : Prop := match r with
  | .ok v q => m ≤ q ∧ (Agree V V' d q → r' = .ok v (q + d))
  | .bad e a => e ≠ 0 ∧ (Pl V → 0 ≤ a ∧ a ≤ V.E) ∧ ((∀ q, Agree V V' d q) → ∃ a', r' = .bad e a')
section
variable {V V' : Env} {d m : Nat} {α β : Type}
theorem Rl.mono {r r' : Res α} {m' : Nat} (h : Rl V V' d m r r') (hm : m' ≤ m) : Rl V V' d m' r r' := by
  cases r with
  | ok v q => exact ⟨Nat.le_trans hm h.1, h.2⟩
  | bad e a => exact h
theorem Rl.bnd {r r' : Res α} {k k' : α → Nat → Res β} (h : Rl V V' d m r r') (hk : ∀ v q, m ≤ q → Rl V V' d q (k v q) (k' v (q + d))) : Rl V V' d m (r.bnd k) (r'.bnd k') := by
  cases r with
  | bad e a =>
    refine ⟨h.1, h.2.1, fun g => ?_⟩
    obtain ⟨a', ha⟩ := h.2.2 g
    exact ⟨a', by rw [ha]; rfl⟩
  | ok v q =>
    have h2 := hk v q h.1
    show Rl V V' d m (k v q) _
    cases hr : k v q with
    | ok u q2 =>
      rw [hr] at h2
      exact ⟨Nat.le_trans h.1 h2.1, fun g => by rw [h.2 (g.le h2.1)]; exact h2.2 g⟩
    | bad e a =>
      rw [hr] at h2
      refine ⟨h2.1, h2.2.1, fun g => ?_⟩
      rw [h.2 (g q)]
      exact h2.2.2 g
theorem Rl.ok {v : α} {q : Nat} (h : m ≤ q) : Rl V V' d m (.ok v q) (.ok v (q + d)) := ⟨h, fun _ => rfl⟩
theorem Rl.ok' {v v' : α} {q : Nat} (h : m ≤ q) (hv : Agree V V' d q → v = v') : Rl V V' d m (.ok v q) (.ok v' (q + d)) := ⟨h, fun g => by rw [hv g]⟩
theorem Rl.cond {b b' : Bool} {x x' y y' : Res α} (hb : Agree V V' d m → b = b') (hx : Rl V V' d m x x') (hy : Rl V V' d m y y') : Rl V V' d m (if b then x else y) (if b' then x' else y') := by
  cases b with
  | true =>
    show Rl V V' d m x _
    cases x with
    | ok v q => exact ⟨hx.1, fun g => by rw [← hb (g.le hx.1)]; exact hx.2 g⟩
    | bad e a => exact ⟨hx.1, hx.2.1, fun g => by rw [← hb (g m)]; exact hx.2.2 g⟩
  | false =>
    show Rl V V' d m y _
    cases y with
    | ok v q => exact ⟨hy.1, fun g => by rw [← hb (g.le hy.1)]; exact hy.2 g⟩
    | bad e a => exact ⟨hy.1, hy.2.1, fun g => by rw [← hb (g m)]; exact hy.2.2 g⟩
theorem Rl.iff {b b' : Prop} [Decidable b] [Decidable b'] {x x' y y' : Res α} (hb : Agree V V' d m → (b ↔ b')) (hx : b → Rl V V' d m x x') (hy : ¬ b → Rl V V' d m y y') : Rl V V' d m (if b then x else y) (if b' then x' else y') := by
  by_cases c : b
  · rw [if_pos c]
    have hx := hx c
    cases x with
    | ok v q => exact ⟨hx.1, fun g => by rw [if_pos ((hb (g.le hx.1)).1 c)]; exact hx.2 g⟩
    | bad e a => exact ⟨hx.1, hx.2.1, fun g => by rw [if_pos ((hb (g m)).1 c)]; exact hx.2.2 g⟩
  · rw [if_neg c]
    have hy := hy c
    cases y with
    | ok v q => exact ⟨hy.1, fun g => by rw [if_neg (fun z => c ((hb (g.le hy.1)).2 z))]; exact hy.2 g⟩
    | bad e a => exact ⟨hy.1, hy.2.1, fun g => by rw [if_neg (fun z => c ((hb (g m)).2 z))]; exact hy.2.2 g⟩
theorem place_in (h : Pl V) (p : Nat) : 0 ≤ V.place p ∧ V.place p ≤ V.E := by
  unfold Env.place
  split
  · exact h.2 p (by assumption)
  · exact ⟨h.1, Int.le_refl _⟩
theorem Rl.stop {e : Int} (he : e ≠ 0) (p p' : Nat) : Rl V V' d m (V.stop e p : Res α) (V'.stop e p') := ⟨he, fun h => place_in h p, fun _ => ⟨_, rfl⟩⟩
theorem Agree.is {p : Nat} (g : Agree V V' d m) (hp : p ≤ m) (k : Int) (s : ByteArray) : V.isT k s p = V'.isT k s (p + d) := by
  unfold Env.isT; rw [(g p hp).1, (g p hp).2.1]
theorem Agree.k {p : Nat} (g : Agree V V' d m) (hp : p ≤ m) : (V.next p).k = (V'.next (p + d)).k := (g p hp).1
theorem Agree.t {p : Nat} (g : Agree V V' d m) (hp : p ≤ m) : (V.next p).t = (V'.next (p + d)).t := (g p hp).2.1
theorem Agree.l {p : Nat} (g : Agree V V' d m) (hp : p ≤ m) : (p < V.T.length) ↔ (p + d < V'.T.length) := by have h := (g p hp).2.2; simpa using h
end
section
variable {V V' : Env} {d : Nat}
theorem Rl_must (k : Int) (s : ByteArray) (p : Nat) : Rl V V' d p (V.must k s p) (V'.must k s (p + d)) := by
  unfold Env.must
  refine Rl.cond (fun g => g.is (Nat.le_refl _) k s) ?_ (Rl.stop (by decide) _ _)
  rw [Nat.add_right_comm]; exact Rl.ok (Nat.le_succ _)
theorem Rl_room (n most : Int) (p : Nat) : Rl V V' d p (V.room n most p) (V'.room n most (p + d)) := by
  unfold Env.room
  exact Rl.iff (fun _ => Iff.rfl) (fun _ => Rl.stop (by decide) _ _) (fun _ => Rl.ok (Nat.le_refl _))
theorem Rl_name (p : Nat) : Rl V V' d p (V.name p) (V'.name (p + d)) := by
  unfold Env.name
  refine Rl.cond (fun g => by unfold isName; rw [g.k (Nat.le_refl _), g.t (Nat.le_refl _)]) ?_ (Rl.stop (by decide) _ _)
  rw [Nat.add_right_comm]; exact Rl.ok' (Nat.le_succ _) (fun g => g.t (Nat.le_succ _))
theorem Rl_arg (p : Nat) : Rl V V' d p (V.arg p) (V'.arg (p + d)) := by
  unfold Env.arg
  refine Rl.cond (fun g => by rw [g.k (Nat.le_refl _)]) ?_ (Rl_name p)
  rw [Nat.add_right_comm]; exact Rl.ok' (Nat.le_succ _) (fun g => g.t (Nat.le_succ _))
theorem Rl_listM {α : Type} {g g' : Nat → Res α} (hg : ∀ p, Rl V V' d p (g p) (g' (p + d))) (n : Nat) : ∀ (out : List α) (p : Nat), Rl V V' d p (V.listM g n out p) (V'.listM g' n out (p + d)) := by
  induction n with
  | zero => intro out p; exact Rl.stop (by decide) _ _
  | succ n ih =>
    intro out p
    unfold Env.listM
    refine Rl.bnd (hg p) fun v q hq => ?_
    refine Rl.cond (fun g => g.is (Nat.le_refl _) _ _) ?_ (Rl.ok (Nat.le_refl _))
    rw [Nat.add_right_comm]; exact (ih _ (q + 1)).mono (Nat.le_succ _)
theorem Rl_list {α : Type} {g g' : Nat → Res α} (hg : ∀ p, Rl V V' d p (g p) (g' (p + d))) (n most : Int) (p : Nat) : Rl V V' d p (V.list g n most p) (V'.list g' n most (p + d)) := Rl_listM hg _ _ p
theorem Rl_brackets {g g' : Nat → Res ByteArray} (hg : ∀ p, Rl V V' d p (g p) (g' (p + d))) (p : Nat) : Rl V V' d p (V.brackets g p) (V'.brackets g' (p + d)) := by
  unfold Env.brackets
  refine Rl.cond (fun g => g.is (Nat.le_refl _) _ _) ?_ (Rl.ok (Nat.le_refl _))
  rw [Nat.add_right_comm]
  refine ((Rl_list hg 0 4 (p + 1)).mono (Nat.le_succ _)).bnd fun l q hq => ?_
  exact (Rl_must _ _ q).bnd fun _ q2 _ => Rl.ok (Nat.le_refl _)
theorem Rl_money (p : Nat) : Rl V V' d p (V.money p) (V'.money (p + d)) := by
  obtain ⟨b, hb⟩ : ∃ b, V.isT 6 ⟨#[45]⟩ p = b := ⟨_, rfl⟩
  obtain ⟨b', hb'⟩ : ∃ b, V'.isT 6 ⟨#[45]⟩ (p + d) = b := ⟨_, rfl⟩
  have hbb : Agree V V' d p → b = b' := fun g => by rw [← hb, ← hb']; exact g.is (Nat.le_refl _) _ _
  obtain ⟨q, hq⟩ : ∃ q, (if b then p + 1 else p) = q := ⟨_, rfl⟩
  obtain ⟨q', hq'⟩ : ∃ q, (if b' then p + d + 1 else p + d) = q := ⟨_, rfl⟩
  have hpq : p ≤ q := by rw [← hq]; split <;> omega
  have hqq : Agree V V' d p → q' = q + d := fun g => by rw [← hq, ← hq', ← hbb g]; split <;> omega
  unfold Env.money
  rw [hb, hb', hq, hq']
  generalize hx : Mo.parse ((if b = true then [45] else []) ++ (V.next q).t.data.toList) = x
  generalize hx' : Mo.parse ((if b' = true then [45] else []) ++ (V'.next q').t.data.toList) = x'
  have hxx : Agree V V' d q → x = x' := fun g => by rw [← hx, ← hx', ← hbb (g.le hpq), hqq (g.le hpq), g.t (Nat.le_refl _)]
  refine Rl.mono (m := q) ?_ hpq
  refine Rl.cond (fun g => by rw [g.k (Nat.le_refl _), ← hqq (g.le hpq)]) ?_ (Rl.stop (by decide) _ _)
  refine Rl.iff (fun g => by rw [hxx g]) (fun _ => ?_) (fun c => ?_)
  · exact ⟨Nat.le_succ _, fun g => by rw [hxx (g.le (Nat.le_succ _)), hqq (g.le (Nat.le_trans hpq (Nat.le_succ _))), Nat.add_right_comm]⟩
  · exact ⟨c, fun h => place_in h p, fun g => ⟨V'.place (p + d), by rw [hxx (g q)]⟩⟩
theorem Rl_whole (least most : Int) (p : Nat) : Rl V V' d p (V.whole least most p) (V'.whole least most (p + d)) := by
  unfold Env.whole
  refine Rl.cond (fun g => by rw [g.k (Nat.le_refl _), g.t (Nat.le_refl _)]) ?_ (Rl.stop (by decide) _ _)
  refine Rl.iff (fun g => by rw [g.t (Nat.le_refl _)]) (fun _ => Rl.stop (by decide) _ _) (fun _ => ?_)
  rw [Nat.add_right_comm]; exact Rl.ok' (Nat.le_succ _) (fun g => by rw [g.t (Nat.le_succ _)])
theorem Rl_day (cal : ByteArray → Int × Int) (p : Nat) : Rl V V' d p (V.day cal p) (V'.day cal (p + d)) := by
  unfold Env.day
  refine Rl.iff (fun g => by rw [g.k (Nat.le_refl _)]) (fun _ => ?_) (fun _ => Rl.stop (by decide) _ _)
  refine Rl.iff (fun g => by rw [g.t (Nat.le_refl _)]) (fun _ => ?_) (fun c => ?_)
  · rw [Nat.add_right_comm]; exact Rl.ok' (Nat.le_succ _) (fun g => by rw [g.t (Nat.le_succ _)])
  · exact ⟨c, fun h => place_in h p, fun g => ⟨V'.place (p + d), by rw [(g p).t (Nat.le_refl _)]; rfl⟩⟩
theorem Rl_literal (p : Nat) : Rl V V' d p (V.literal p) (V'.literal (p + d)) := by
  obtain ⟨b, hb⟩ : ∃ b, V.isT 6 ⟨#[45]⟩ p = b := ⟨_, rfl⟩
  obtain ⟨b', hb'⟩ : ∃ b, V'.isT 6 ⟨#[45]⟩ (p + d) = b := ⟨_, rfl⟩
  have hbb : Agree V V' d p → b = b' := fun g => by rw [← hb, ← hb']; exact g.is (Nat.le_refl _) _ _
  have key : ∀ c, Rl V V' d p ((V.name (if c then p + 1 else p)).bnd fun n q2 => (V.brackets V.arg q2).bnd fun l q3 =>
    if V.isT 6 ⟨#[61]⟩ q3 then (V.money (q3 + 1)).bnd fun m q4 => .ok (⟨c, n, l, true, m⟩ : S91) q4 else .ok ⟨c, n, l, false, 0⟩ q3)
    ((V'.name (if c then p + d + 1 else p + d)).bnd fun n q2 => (V'.brackets V'.arg q2).bnd fun l q3 =>
    if V'.isT 6 ⟨#[61]⟩ q3 then (V'.money (q3 + 1)).bnd fun m q4 => .ok (⟨c, n, l, true, m⟩ : S91) q4 else .ok ⟨c, n, l, false, 0⟩ q3) := by
    intro c
    have hs : (if c then p + d + 1 else p + d) = (if c then p + 1 else p) + d := by split <;> omega
    rw [hs]
    refine ((Rl_name (if c then p + 1 else p)).mono (show p ≤ (if c then p + 1 else p) by split <;> omega)).bnd fun n q2 _ => ?_
    refine (Rl_brackets Rl_arg q2).bnd fun l q3 _ => ?_
    refine Rl.cond (fun g => g.is (Nat.le_refl _) _ _) ?_ (Rl.ok (Nat.le_refl _))
    rw [Nat.add_right_comm]
    exact ((Rl_money (q3 + 1)).mono (Nat.le_succ _)).bnd fun m q4 _ => Rl.ok (Nat.le_refl _)
  unfold Env.literal
  rw [hb, hb']
  have k1 := key b
  generalize ((V.name (if b then p + 1 else p)).bnd fun n q2 => (V.brackets V.arg q2).bnd fun l q3 =>
    if V.isT 6 ⟨#[61]⟩ q3 then (V.money (q3 + 1)).bnd fun m q4 => .ok (⟨b, n, l, true, m⟩ : S91) q4 else .ok ⟨b, n, l, false, 0⟩ q3) = r at *
  cases r with
  | ok v q => exact ⟨k1.1, fun g => by rw [← hbb (g.le k1.1)]; exact k1.2 g⟩
  | bad e a => exact ⟨k1.1, k1.2.1, fun g => by rw [← hbb (g p)]; exact k1.2.2 g⟩
theorem Rl_total (p : Nat) : Rl V V' d p (V.total p) (V'.total (p + d)) := by
  unfold Env.total
  refine (Rl_name p).bnd fun n q1 _ => (Rl_must _ _ q1).bnd fun _ q2 _ => (Rl_name q2).bnd fun k q3 _ => (Rl_must _ _ q3).bnd fun _ q4 _ => (Rl_must _ _ q4).bnd fun _ q5 _ => (Rl_list Rl_name 0 16 q5).bnd fun l q6 _ => ?_
  refine Rl.cond (fun g => g.is (Nat.le_refl _) _ _) ?_ (Rl.ok (Nat.le_refl _))
  rw [Nat.add_right_comm]
  exact ((Rl_money (q6 + 1)).mono (Nat.le_succ _)).bnd fun m q4 _ => Rl.ok (Nat.le_refl _)
theorem arrow_agree {m p : Nat} (g : Agree V V' d m) (hp : p ≤ m) : V.arrow p = V'.arrow (p + d) := by
  unfold Env.arrow
  generalize 0 = i
  generalize [(⟨#[45, 62]⟩ : ByteArray), ⟨#[61, 62]⟩, ⟨#[126, 62]⟩] = l
  induction l generalizing i with
  | nil => rfl
  | cons s l ih => unfold Env.arrL; rw [g.is hp, ih]
theorem Rl_op (p : Nat) : Rl V V' d p (V.op p) (V'.op (p + d)) := by
  unfold Env.op
  generalize 0 = i
  generalize [(⟨#[60]⟩ : ByteArray), ⟨#[60, 61]⟩, ⟨#[61, 61]⟩, ⟨#[60, 62]⟩, ⟨#[62, 61]⟩, ⟨#[62]⟩] = l
  induction l generalizing i with
  | nil => exact Rl.stop (by decide) _ _
  | cons s l ih =>
    unfold Env.opL
    refine Rl.cond (fun g => g.is (Nat.le_refl _) _ _) ?_ (ih _)
    rw [Nat.add_right_comm]; exact Rl.ok (Nat.le_succ _)
theorem unlike_agree {m p : Nat} (g : Agree V V' d m) (hp : p + 1 ≤ m) : V.unlike p = V'.unlike (p + d) := by
  unfold Env.unlike
  rw [g.k (Nat.le_of_succ_le hp), g.is hp, (g (p + 1) hp).2.2]
  rw [Nat.add_right_comm]
end
section
variable {V V' : Env} {d : Nat}
theorem Rl_whole1 (least most : Int) (p : Nat) : Rl V V' d (p + 1) (V.whole least most p) (V'.whole least most (p + d)) := by
  have h := Rl_whole (V := V) (V' := V') (d := d) least most p
  cases hr : V.whole least most p with
  | bad e a => rw [hr] at h; exact h
  | ok v q =>
    rw [hr] at h
    refine ⟨?_, h.2⟩
    unfold Env.whole Env.stop at hr
    split at hr
    · split at hr
      · cases hr
      · injection hr with _ h2; omega
    · cases hr
theorem Rl_name1 (p : Nat) : Rl V V' d (p + 1) (V.name p) (V'.name (p + d)) := by
  have h := Rl_name (V := V) (V' := V') (d := d) p
  cases hr : V.name p with
  | bad e a => rw [hr] at h; exact h
  | ok v q =>
    rw [hr] at h
    refine ⟨?_, h.2⟩
    unfold Env.name Env.stop at hr
    split at hr
    · injection hr with _ h2; omega
    · cases hr
theorem Rl_arg1 (p : Nat) : Rl V V' d (p + 1) (V.arg p) (V'.arg (p + d)) := by
  have h := Rl_arg (V := V) (V' := V') (d := d) p
  cases hr : V.arg p with
  | bad e a => rw [hr] at h; exact h
  | ok v q =>
    rw [hr] at h
    refine ⟨?_, h.2⟩
    unfold Env.arg Env.name Env.stop at hr
    split at hr
    · injection hr with _ h2; omega
    · split at hr
      · injection hr with _ h2; omega
      · cases hr
theorem Rl_money1 (p : Nat) : Rl V V' d (p + 1) (V.money p) (V'.money (p + d)) := by
  have h := Rl_money (V := V) (V' := V') (d := d) p
  cases hr : V.money p with
  | bad e a => rw [hr] at h; exact h
  | ok v q =>
    rw [hr] at h
    refine ⟨?_, h.2⟩
    unfold Env.money Env.stop at hr
    have hle : p ≤ (if V.isT 6 ⟨#[45]⟩ p = true then p + 1 else p) := by split <;> omega
    generalize (if V.isT 6 ⟨#[45]⟩ p = true then p + 1 else p) = q0 at *
    generalize Mo.parse ((if V.isT 6 ⟨#[45]⟩ p = true then [45] else []) ++ (V.next q0).t.data.toList) = x at *
    by_cases c1 : ((V.next q0).k == 3) = true
    · rw [if_pos c1] at hr
      by_cases c2 : x.2 = 0
      · rw [if_pos c2] at hr
        injection hr with _ h2; omega
      · rw [if_neg c2] at hr; cases hr
    · rw [if_neg c1] at hr; cases hr
theorem Rl_literal1 (p : Nat) : Rl V V' d (p + 1) (V.literal p) (V'.literal (p + d)) := by
  have h := Rl_literal (V := V) (V' := V') (d := d) p
  cases hr : V.literal p with
  | bad e a => rw [hr] at h; exact h
  | ok v q =>
    rw [hr] at h
    refine ⟨?_, h.2⟩
    have h1 := Rl_name1 (V := V) (V' := V') (d := d) (if V.isT 6 ⟨#[45]⟩ p then p + 1 else p)
    unfold Env.literal at hr
    cases hn : V.name (if V.isT 6 ⟨#[45]⟩ p then p + 1 else p) with
    | bad e a => rw [hn] at hr; cases hr
    | ok n q2 =>
      rw [hn] at hr h1
      have hle : p + 1 ≤ q2 := by have := h1.1; split at this <;> omega
      have h2 : Rl V V 0 q2 ((V.brackets V.arg q2).bnd fun l q3 => if V.isT 6 ⟨#[61]⟩ q3 then (V.money (q3 + 1)).bnd fun m q4 => .ok (⟨V.isT 6 ⟨#[45]⟩ p, n, l, true, m⟩ : S91) q4 else .ok ⟨V.isT 6 ⟨#[45]⟩ p, n, l, false, 0⟩ q3) ((V.brackets V.arg q2).bnd fun l q3 => if V.isT 6 ⟨#[61]⟩ q3 then (V.money (q3 + 1)).bnd fun m q4 => .ok (⟨V.isT 6 ⟨#[45]⟩ p, n, l, true, m⟩ : S91) q4 else .ok ⟨V.isT 6 ⟨#[45]⟩ p, n, l, false, 0⟩ q3) := by
        refine (Rl_brackets Rl_arg q2).bnd fun l q3 _ => ?_
        refine Rl.cond (fun g => g.is (Nat.le_refl _) _ _) ?_ (Rl.ok (Nat.le_refl _))
        exact ((Rl_money (q3 + 1)).mono (Nat.le_succ _)).bnd fun m q4 _ => Rl.ok (Nat.le_refl _)
      have hr2 : ((V.brackets V.arg q2).bnd fun l q3 => if V.isT 6 ⟨#[61]⟩ q3 then (V.money (q3 + 1)).bnd fun m q4 => .ok (⟨V.isT 6 ⟨#[45]⟩ p, n, l, true, m⟩ : S91) q4 else .ok ⟨V.isT 6 ⟨#[45]⟩ p, n, l, false, 0⟩ q3) = .ok v q := hr
      rw [hr2] at h2
      have := h2.1
      omega
theorem Rl_term (sg : Int) (p : Nat) : Rl V V' d (p + 1) (V.term sg p) (V'.term sg (p + d)) := by
  unfold Env.term
  rw [show p + d + 1 = (p + 1) + d from by omega]
  refine Rl.cond (fun g => by rw [g.k (Nat.le_succ _), g.is (Nat.le_refl _)]) ?_ ?_
  · refine (Rl_whole1 1 1000 p).bnd fun c q hq => ?_
    rw [Nat.add_right_comm]
    exact ((Rl_name (q + 1)).mono (Nat.le_succ _)).bnd fun n q2 _ => (Rl_brackets Rl_arg q2).bnd fun l q3 _ => Rl.ok (Nat.le_refl _)
  · refine Rl.cond (fun g => by rw [g.k (Nat.le_succ _), g.is (Nat.le_succ _)]) ?_ ?_
    · exact (Rl_money1 p).bnd fun m q _ => Rl.ok (Nat.le_refl _)
    · exact (Rl_name1 p).bnd fun n q2 _ => (Rl_brackets Rl_arg q2).bnd fun l q3 _ => Rl.ok (Nat.le_refl _)
theorem Rl_sumM (n : Nat) : ∀ (out : List S102) (p : Nat), Rl V V' d p (V.sumM n out p) (V'.sumM n out (p + d)) := by
  induction n with
  | zero =>
    intro out p
    exact Rl.cond (fun g => by rw [g.is (Nat.le_refl _), g.is (Nat.le_refl _)]) (Rl.stop (by decide) _ _) (Rl.ok (Nat.le_refl _))
  | succ n ih =>
    intro out p
    unfold Env.sumM
    rw [show p + d + 1 = (p + 1) + d from by omega]
    refine Rl.cond (fun g => g.is (Nat.le_refl _) _ _) ?_ ?_
    · exact ((Rl_term (-1) (p + 1)).mono (by omega)).bnd fun t q _ => ih _ q
    · refine Rl.cond (fun g => g.is (Nat.le_refl _) _ _) ?_ (Rl.ok (Nat.le_refl _))
      exact ((Rl_term 1 (p + 1)).mono (by omega)).bnd fun t q _ => ih _ q
theorem Rl_sum (p : Nat) : Rl V V' d p (V.sum p) (V'.sum (p + d)) := ((Rl_term 1 p).mono (Nat.le_succ _)).bnd fun t q _ => Rl_sumM 7 [t] q
theorem Rl_premise (p : Nat) : Rl V V' d (p + 1) (V.premise p) (V'.premise (p + d)) := by
  unfold Env.premise
  rw [show p + d + 1 = (p + 1) + d from by omega]
  refine Rl.cond (fun g => g.is (Nat.le_succ _) _ _) ?_ ?_
  · exact (Rl_sum (p + 1)).bnd fun l q _ => (Rl_op q).bnd fun o q2 _ => (Rl_sum q2).bnd fun r q3 _ => (Rl_must _ _ q3).bnd fun _ q4 _ => Rl.ok (Nat.le_refl _)
  · refine Rl.cond (fun g => unlike_agree g (Nat.le_refl _)) ?_ ?_
    · exact (Rl_arg1 p).bnd fun a q _ => (Rl_must _ _ q).bnd fun _ q2 _ => (Rl_arg q2).bnd fun b q3 _ => Rl.ok (Nat.le_refl _)
    · exact (Rl_literal1 p).bnd fun l q _ => Rl.ok (Nat.le_refl _)
theorem Rl_ruleT (n s : ByteArray) (a u : Int) (p : Nat) : Rl V V' d p (V.ruleT n s a u p) (V'.ruleT n s a u (p + d)) := by
  unfold Env.ruleT
  refine Rl.bnd (Rl.iff (fun g => by rw [arrow_agree g (Nat.le_refl _)]) (fun _ => Rl_list (fun p => (Rl_premise p).mono (Nat.le_succ _)) 0 16 p) (fun _ => Rl.ok (Nat.le_refl _))) fun b q _ => ?_
  refine Rl.iff (fun g => by rw [arrow_agree g (Nat.le_refl _)]) (fun _ => Rl.stop (by decide) _ _) (fun _ => ?_)
  rw [show q + d + 1 = (q + 1) + d from by omega]
  refine ((Rl_literal (q + 1)).mono (Nat.le_succ _)).bnd fun h q9 hq => ?_
  exact Rl.ok' (Nat.le_refl _) (fun g => by rw [arrow_agree (g.le hq) (Nat.le_refl _)])
theorem Rl_rule (cal : ByteArray → Int × Int) (p : Nat) : Rl V V' d p (V.rule cal p) (V'.rule cal (p + d)) := by
  unfold Env.rule
  refine (Rl_name p).bnd fun n q1 _ => (Rl_must _ _ q1).bnd fun _ q2 _ => (Rl_name q2).bnd fun s q3 _ => (Rl_must _ _ q3).bnd fun _ q4 _ => (Rl_day cal q4).bnd fun a q5 _ => ?_
  refine Rl.bnd (Rl.cond (fun g => g.is (Nat.le_refl _) _ _) (by rw [Nat.add_right_comm]; exact (Rl_day cal (q5 + 1)).mono (Nat.le_succ _)) (Rl.ok (Nat.le_refl _))) fun u q6 _ => ?_
  exact (Rl_must _ _ q6).bnd fun _ q7 _ => Rl_ruleT n s a u q7
theorem Rl_pred (n : Nat) (sort : Int) (p : Nat) : Rl V V' d p (V.pred n sort p) (V'.pred n sort (p + d)) := by
  unfold Env.pred
  refine (Rl_room _ _ p).bnd fun _ q0 _ => (Rl_name q0).bnd fun nm q1 _ => (Rl_brackets Rl_name q1).bnd fun ks q2 _ => ?_
  refine Rl.cond (fun _ => rfl) ?_ (Rl.ok (Nat.le_refl _))
  exact (Rl_must _ _ q2).bnd fun _ q3 _ => (Rl_list Rl_money 0 64 q3).bnd fun vs q4 _ => Rl.ok (Nat.le_refl _)
theorem Rl_item (cal : ByteArray → Int × Int) (s : Stt) (p : Nat) : Rl V V' d (p + 1) (V.item cal s p) (V'.item cal s (p + d)) := by
  unfold Env.item
  rw [show p + d + 1 = (p + 1) + d from by omega]
  have hc : ∀ l : List UInt8, Agree V V' d (p + 1) → ((V.next p).t.toList == l) = ((V'.next (p + d)).t.toList == l) := fun l g => by rw [g.t (Nat.le_succ _)]
  refine Rl.cond (fun g => by rw [g.k (Nat.le_succ _)]) ?_ (Rl.stop (by decide) _ _)
  refine Rl.cond (hc _) ((Rl_room _ _ _).bnd fun _ q _ => (Rl_name q).bnd fun n q2 _ => Rl.ok (Nat.le_refl _)) ?_
  refine Rl.cond (hc _) ((Rl_list Rl_name _ _ _).bnd fun l q _ => (Rl_must _ _ q).bnd fun _ q2 _ => (Rl_name q2).bnd fun k q3 _ => Rl.ok (Nat.le_refl _)) ?_
  refine Rl.cond (hc _) ((Rl_pred _ _ _).bnd fun x q _ => Rl.ok (Nat.le_refl _)) ?_
  refine Rl.cond (hc _) ((Rl_pred _ _ _).bnd fun x q _ => Rl.ok (Nat.le_refl _)) ?_
  refine Rl.cond (hc _) ((Rl_pred _ _ _).bnd fun x q _ => Rl.ok (Nat.le_refl _)) ?_
  refine Rl.cond (hc _) ((Rl_room _ _ _).bnd fun _ q _ => (Rl_name q).bnd fun f q2 _ => (Rl_must _ _ q2).bnd fun _ q3 _ => (Rl_list Rl_name 1 16 q3).bnd fun l q4 _ => Rl.ok (Nat.le_refl _)) ?_
  refine Rl.cond (hc _) ((Rl_room _ _ _).bnd fun _ q _ => (Rl_name q).bnd fun f q2 _ => (Rl_must _ _ q2).bnd fun _ q3 _ => (Rl_whole 0 1000 q3).bnd fun l q4 _ => Rl.ok (Nat.le_refl _)) ?_
  refine Rl.cond (hc _) ((Rl_room _ _ _).bnd fun _ q _ => (Rl_rule cal q).bnd fun f q2 _ => Rl.ok (Nat.le_refl _)) ?_
  refine Rl.cond (hc _) ((Rl_room _ _ _).bnd fun _ q _ => (Rl_name q).bnd fun f q2 _ => (Rl_must _ _ q2).bnd fun _ q3 _ => (Rl_name q3).bnd fun l q4 _ => Rl.ok (Nat.le_refl _)) ?_
  exact Rl.cond (hc _) ((Rl_room _ _ _).bnd fun _ q _ => (Rl_total q).bnd fun f q2 _ => Rl.ok (Nat.le_refl _)) (Rl.stop (by decide) _ _)
theorem Rl_title (p : Nat) : Rl V V' d p (V.title p) (V'.title (p + d)) := by
  unfold Env.title
  refine Rl.cond (fun g => g.is (Nat.le_refl _) _ _) ?_ (Rl.ok (Nat.le_refl _))
  rw [show p + d + 1 = (p + 1) + d from by omega, show p + d + 2 = (p + 2) + d from by omega]
  refine Rl.mono (m := p + 1) ?_ (Nat.le_succ _)
  refine Rl.cond (fun g => by rw [g.k (Nat.le_refl _)]) ?_ (Rl.stop (by decide) _ _)
  exact ((Rl_must _ _ (p + 2)).mono (by omega)).bnd fun _ q hq => Rl.ok' (Nat.le_refl _) (fun g => by rw [g.t hq])
theorem Rl_items (cal : ByteArray → Int × Int) (n : Nat) : ∀ (s : Stt) (p : Nat), Rl V V' d p (V.items cal n s p) (V'.items cal n s (p + d)) := by
  induction n with
  | zero => intro s p; exact Rl.ok (Nat.le_refl _)
  | succ n ih =>
    intro s p
    unfold Env.items
    refine Rl.iff (fun g => g.l (Nat.le_refl _)) (fun _ => ?_) (fun _ => Rl.ok (Nat.le_refl _))
    exact ((Rl_item cal s p).mono (Nat.le_succ _)).bnd fun s2 q _ => (Rl_must _ _ q).bnd fun _ q2 _ => ih s2 q2
end
end Sx
end Go.Proofs.YtcakgennlliejaaGreatDoor
/- syntax's reader: statute (printed by genx.py) -/
namespace Go.Proofs.YtcakgennlliejaaGreatDoor
open Go.Shelf Go.RowKit Go.Lib
open Go.Proofs.YtcakgennlliejaaGreatDoorW.PrintWords
open Go.Proofs.YtcakgennlliejaaGreatDoor.PSyntaxJoined
open Sx
set_option linter.unusedVariables false
set_option linter.unusedSimpArgs false

/-- a statute of one's own, its rows apart from one another -/
def Sx.sttR (base : Nat) (s : Stt) (x : Value) (w : World) : Prop := ∃ (own : Nat → Nat) (v : Vs), x = .agg #[.string s.title, v.v1, v.v2, v.v3, v.v4, v.v5, v.v6, v.v7, v.v8] ∧ s.members.length ≤ 64
  ∧ Kd.R Kd.string 9 w base (fun k => base ≤ k ∧ own k = 1) v.v1 s.kinds
  ∧ Kd.R k54 54 w base (fun k => base ≤ k ∧ own k = 2) v.v2 s.members
  ∧ Kd.R k85 85 w base (fun k => base ≤ k ∧ own k = 3) v.v3 s.preds
  ∧ Kd.R (Kd.slice 9 Kd.string) 23 w base (fun k => base ≤ k ∧ own k = 4) v.v4 s.classes
  ∧ Kd.R k117 117 w base (fun k => base ≤ k ∧ own k = 5) v.v5 s.sources
  ∧ Kd.R k93 93 w base (fun k => base ≤ k ∧ own k = 6) v.v6 s.rules
  ∧ Kd.R k120 120 w base (fun k => base ≤ k ∧ own k = 7) v.v7 s.excepts
  ∧ Kd.R k104 104 w base (fun k => base ≤ k ∧ own k = 8) v.v8 s.totals
def Sx.posOf (rb : Nat) (w : World) : Nat := match w.cell? ⟨rb, 1, none⟩ with
  | some v => iv v
  | none => 0
theorem Sx.Rd.pos_of {w : World} {V : Env} {p : Nat} (h : Rd w V p) : posOf V.rb w = p := by unfold posOf; rw [h.pos]; rfl
theorem Sx.StB.nil (w : World) (SB : Nat) (t : ByteArray) (h : w.heap[SB]? = some (.cells #[.string t, .slice none 0 0, .slice none 0 0, .slice none 0 0, .slice none 0 0, .slice none 0 0, .slice none 0 0, .slice none 0 0, .slice none 0 0] 32 (0, 0))) :
    StB w SB (fun _ => 0) ⟨t, [], [], [], [], [], [], [], []⟩ ⟨.slice none 0 0, .slice none 0 0, .slice none 0 0, .slice none 0 0, .slice none 0 0, .slice none 0 0, .slice none 0 0, .slice none 0 0⟩ :=
  ⟨h, Nat.zero_le _, Kd.R_nil _ _ _ _ _, Kd.R_nil _ _ _ _ _, Kd.R_nil _ _ _ _ _, Kd.R_nil _ _ _ _ _, Kd.R_nil _ _ _ _ _, Kd.R_nil _ _ _ _ _, Kd.R_nil _ _ _ _ _, Kd.R_nil _ _ _ _ _⟩
/-- the statute, when its box has been copied out -/
theorem Sx.StB.out {w w1 : World} {SB base : Nat} {own : Nat → Nat} {s : Stt} {v : Vs} (h : StB w SB own s v) (hb : base ≤ SB) (hm : ∀ k, SB < k → k < w.heap.size → w1.heap[k]? = w.heap[k]?) :
    sttR base s (.agg #[.string s.title, v.v1, v.v2, v.v3, v.v4, v.v5, v.v6, v.v7, v.v8]) w1 := by
  have hr : ∀ {j : Nat} {α : Type} {d : Kd α} {e : Nat} {x : Value} {l : List α}, Kd.R d e w (SB + 1) (okf SB w.heap.size own j) x l → Kd.R d e w1 base (fun k => base ≤ k ∧ own k = j) x l := fun {j α d e x l} hr =>
    Kd.R_lower (Kd.R_mono (Kd.R_step (Kd.R_bound hr) (fun i hi hlt => hm i hi.1.1 hlt)) (fun k hk => ⟨by have := hk.1.1; omega, hk.1.2 hk.2.2.1⟩)) (by omega)
  exact ⟨own, v, rfl, h.lm, hr h.r1, hr h.r2, hr h.r3, hr h.r4, hr h.r5, hr h.r6, hr h.r7, hr h.r8⟩
theorem Sx.items_step {V : Env} (cal : ByteArray → Int × Int) {s s2 : Stt} {p q q2 : Nat} (h : V.item cal s p = .ok s2 q) : p + 1 ≤ q := by
  have h2 := Rl_item (V := V) (V' := V) (d := 0) cal s p
  rw [h] at h2
  exact h2.1
theorem Sx.items_succ (V : Env) (cal : ByteArray → Int × Int) (m : Nat) (s : Stt) (p : Nat) : V.items cal (m + 1) s p = if p < V.T.length then (V.item cal s p).bnd fun s2 q => (V.must 6 ⟨#[46]⟩ q).bnd fun _ q2 => V.items cal m s2 q2 else .ok s p := rfl
theorem Sx.must_step {V : Env} {k : Int} {s : ByteArray} {p q : Nat} (h : V.must k s p = .ok () q) : q = p + 1 := by
  unfold Env.must Env.stop at h
  split at h
  · injection h with _ h2; exact h2.symm
  · cases h

/-- below the statute's box all is kept but the reader's -/
theorem Sx.keepS_lt {V : Env} {SB : Nat} {w X w1 : World} (hb : V.rb < w.heap.size) (hs : w.heap.size < SB) (k : Keep (ours V) w X) (k2 : Keep (oursS V SB) X w1) : Keep (ours V) w w1 :=
  ⟨k2.os.trans k.os, k2.tape.trans k.tape, k2.output.trans k.output, Nat.le_trans k.size k2.size, fun i hi hn => (k2.block i (Nat.lt_of_lt_of_le hi k.size) (fun e => by unfold oursS at e; unfold ours at hn; omega)).trans (k.block i hi hn)⟩
set_option maxHeartbeats 8000000 in
set_option maxRecDepth 100000 in
theorem statute_calls (V : Env) (cal : ByteArray → Int × Int)
    (hC : ∀ s w, Calls Tryz.prog 108 #[.string s] w fun e w' => e = .returned (.tuple #[.int .i64 (cal s).1, .int .i64 (cal s).2]) ∧ Below w.heap.size w w')
    (p : Nat) (w : World) (h : Rd w V p) : Calls Tryz.prog 19 #[.pointer (some ⟨V.rb, 0, none⟩)] w (Post V w (sttR w.heap.size) (V.statute cal p)) := by
  have hmf : ∀ (fn : Fn) (first cap : Array Value) (w : World), (Instr.makeFunc fn first cap).run Tryz.prog w = .ok (.func fn first cap) w := fun _ _ _ _ => rfl
  have hC := Lib.hid hC
  have hLo := h
  have HRB := Lib.hid (show V.rb < w.heap.size from World.block_lt_of_cell? w _ h.pos)
  have hF0 : V.statute cal p = V.statute cal p := rfl
  conv at hF0 => rhs; unfold Env.statute
  have HF0 := Lib.hid hF0
  have HA0 := Lib.hid (Bx.new h h (Keep.refl _ _) 32 #[(.string ⟨#[]⟩), (.slice none 0 0), (.slice none 0 0), (.slice none 0 0), (.slice none 0 0), (.slice none 0 0), (.slice none 0 0), (.slice none 0 0), (.slice none 0 0)])
  clear h hF0
  go_enter Tryz.func19, Tryz.ntmps19
  go_upto_region 1 with (fail)
  obtain ⟨X0, hX0⟩ : ∃ X0, w.alloc (Obj.cells #[(.string ⟨#[]⟩), (.slice none 0 0), (.slice none 0 0), (.slice none 0 0), (.slice none 0 0), (.slice none 0 0), (.slice none 0 0), (.slice none 0 0), (.slice none 0 0)] 32) = X0 := ⟨_, rfl⟩
  try rw [hX0]
  rw [hX0] at HA0
  clear hX0
  go_upto_region 2 with (fail)
  have HB1 := Lib.hid (Bx.new hLo HA0.out.rd HA0.out.keep 32 #[(.string ⟨#[]⟩), (.slice none 0 0), (.slice none 0 0), (.slice none 0 0), (.slice none 0 0), (.slice none 0 0), (.slice none 0 0), (.slice none 0 0), (.slice none 0 0)])
  have HA1 := Lib.hid (HA0.out.alloc (Obj.cells #[(.string ⟨#[]⟩), (.slice none 0 0), (.slice none 0 0), (.slice none 0 0), (.slice none 0 0), (.slice none 0 0), (.slice none 0 0), (.slice none 0 0), (.slice none 0 0)] 32))
  have h1 := World.block_lt_of_cell? _ _ (blk_cell (v := (.string ⟨#[]⟩)) HA0.out.blk 0 rfl)
  obtain ⟨SB, hSB⟩ : ∃ B, X0.heap.size = B := ⟨_, rfl⟩
  have HNSB := Lib.hid (show w.heap.size ≠ SB by rw [← hSB]; simp only at h1; omega)
  have HSBG := Lib.hid (show w.heap.size < SB by rw [← hSB]; exact h1)
  have HLO := Lib.hid (Sx.Lo.of hLo (Nat.le_of_lt HSBG.out))
  obtain ⟨X1, hX⟩ : ∃ X, X0.alloc (Obj.cells #[(.string ⟨#[]⟩), (.slice none 0 0), (.slice none 0 0), (.slice none 0 0), (.slice none 0 0), (.slice none 0 0), (.slice none 0 0), (.slice none 0 0), (.slice none 0 0)] 32) = X := ⟨_, rfl⟩
  rw [hX] at HA1
  rw [hX, hSB] at HB1
  try rw [hX, hSB]
  clear hX hSB HA0 h1 hLo
  have hF1 := HF0.out
  unfold Env.title at hF1
  clear HF0
  have HF1 := Lib.hid hF1
  clear hF1

  have HK1 := Lib.hid (fun w1 h1 => skip_calls V p 1 ⟨#[115, 116, 97, 116, 117, 116, 101]⟩ w1 h1 (by decide))
  have hF1 := HF1.out
  generalize hr1 : V.isT 1 ⟨#[115, 116, 97, 116, 117, 116, 101]⟩ p = b1 at hF1 HK1
  clear HF1
  cases b1
  · simp only [if_true, Bool.false_eq_true, if_false] at hF1
    try dsimp only [Res.bnd] at hF1
    have HF1 := Lib.hid hF1
    clear hF1 hr1
    go_upto_region 9 with (first | (go_at_call 38; refine (HK1.out X1 HA1.out.rd).mono ?_; rintro e X1 ⟨rfl, hr2, hk2⟩))
    simp only [if_true, Bool.false_eq_true, if_false] at hr2
    have HD2_0 := Lib.hid (show Bx w X1 V p p w.heap.size 32 #[(.string ⟨#[]⟩), (.slice none 0 0), (.slice none 0 0), (.slice none 0 0), (.slice none 0 0), (.slice none 0 0), (.slice none 0 0), (.slice none 0 0), (.slice none 0 0)] from HA1.out.call hr2 hk2)
    have HD2_1 := Lib.hid (show Bx w X1 V p p SB 32 #[(.string ⟨#[]⟩), (.slice none 0 0), (.slice none 0 0), (.slice none 0 0), (.slice none 0 0), (.slice none 0 0), (.slice none 0 0), (.slice none 0 0), (.slice none 0 0)] from HB1.out.call hr2 hk2)
    clear HA1 HB1
    clear hr2 hk2 HK1
    have HFL := Lib.hid (show V.statute cal p = V.items cal V.T.length ⟨⟨#[]⟩, [], [], [], [], [], [], [], []⟩ p from HF1.out)
    generalize V.statute cal p = F at *
    clear HF1
    go_upto_region 9 with (fail)
    go_loopw [] (fun wr => ∃ (m : Nat) (s : Stt) (own : Nat → Nat) (v : Vs) (q : Nat), V.T.length ≤ q + m ∧ Rd wr V q ∧ StB wr SB own s v ∧ Keep (oursS V SB) X1 wr ∧ F = V.items cal m s q) (fun wr => V.T.length - posOf V.rb wr)
    case atStart =>
      exact ⟨V.T.length, _, _, _, p, by omega, HD2_0.out.rd, Sx.StB.nil _ SB ⟨#[]⟩ HD2_1.out.blk, Keep.refl _ _, HFL.out⟩
    case round =>
      obtain ⟨m, s, own, v, q, hm, hr, hs, hk, hf⟩ := hrel
      have HR := Lib.hid hr
      have HS := Lib.hid hs
      have HK := Lib.hid hk
      have hl := hr.l
      have hp := hr.pos
      by_cases hlt : q < V.T.length
      · have z1 : decide ((q : Int) < (V.T.length : Int)) = true := decide_eq_true (by omega)
        have z1n : decide (q < V.T.length) = true := decide_eq_true hlt
        obtain ⟨m, rfl⟩ : ∃ j, m = j + 1 := ⟨m - 1, by omega⟩
        have hf2 : F = (V.item cal s q).bnd fun s2 q => (V.must 6 ⟨#[46]⟩ q).bnd fun _ q2 => V.items cal m s2 q2 := by rw [hf, Sx.items_succ, if_pos hlt]
        have HM := Lib.hid hm
        have HLT2 := Lib.hid hlt
        have HC1 := Lib.hid (item_calls V cal hC.out q SB own s v)
        have HIS := Lib.hid (fun s2 q2 (h : V.item cal s q = .ok s2 q2) => Sx.items_step (q2 := q2) cal h)
        generalize hri : V.item cal s q = r1 at hf2 HC1 HIS
        have HF := Lib.hid hf2
        clear hm hr hs hk hf hlt hri hf2
        go_upto_region 9 with (fail)
        go_quiet (fail)
        clear hl hp
        obtain ⟨Y, hY⟩ : ∃ Y, wr.drewN nq = Y := ⟨_, rfl⟩
        have hb : Below wr.heap.size wr Y := by rw [← hY]; exact below_drewn (Below.refl _ _) nq
        try rw [hY]
        have HRY := Lib.hid (HR.out.below hb)
        have HSY := Lib.hid (HS.out.move HLO.out (Keep.of_below hb))
        have HKY := Lib.hid (HK.out.trans (Keep.of_below (F := oursS V SB) hb) (fun _ _ h => h))
        clear hY hb
        cases r1 with
        | bad er a =>
          go_wp2_with (first | (go_at_call 42; refine (HC1.out Y HRY.out HLO.out HSY.out).mono ?_; rintro e w2 ⟨rfl, hk2⟩))
          refine ⟨rfl, ?_⟩
          rw [HF.out]
          exact ⟨rfl, (Sx.keepS_lt HRB.out HSBG.out HD2_0.out.keep (HKY.out.trans hk2 (fun _ _ h => h)))⟩
        | ok s2 q1 =>
          have hq1 := HIS.out s2 q1 rfl
          have HC2 := Lib.hid (fun w1 h1 => must_calls V q1 6 ⟨#[46]⟩ w1 h1 (by decide))
          have hf3 : F = (V.must 6 ⟨#[46]⟩ q1).bnd fun _ q2 => V.items cal m s2 q2 := HF.out
          have HMS := Lib.hid (fun q2 (h : V.must 6 ⟨#[46]⟩ q1 = .ok () q2) => Sx.must_step h)
          generalize hrm : V.must 6 ⟨#[46]⟩ q1 = r2 at hf3 HC2 HMS
          have HF3 := Lib.hid hf3
          have HQ1 := Lib.hid hq1
          clear hf3 hrm HF HIS hq1
          cases r2 with
          | bad er a =>
            go_wp2_with (first | (go_at_call 42; refine (HC1.out Y HRY.out HLO.out HSY.out).mono ?_; rintro e w2 ⟨rfl, hr2, ⟨own2, v2, hs2⟩, hk2⟩) | (go_at_call 41; refine (HC2.out w2 hr2).mono ?_; rintro e w3 ⟨rfl, hk3⟩))
            refine ⟨rfl, ?_⟩
            rw [HF3.out]
            exact ⟨rfl, (Sx.keepS_lt HRB.out HSBG.out HD2_0.out.keep ((HKY.out.trans hk2 (fun _ _ h => h)).trans (Sx.Keep.toS hk3) (fun _ _ h => h)))⟩
          | ok u q2 =>
            have hq2 := HMS.out q2 rfl
            go_wp2_with (first | (go_at_call 42; refine (HC1.out Y HRY.out HLO.out HSY.out).mono ?_; rintro e w2 ⟨rfl, hr2, ⟨own2, v2, hs2⟩, hk2⟩) | (go_at_call 41; refine (HC2.out w2 hr2).mono ?_; rintro e w3 ⟨x, rfl, rfl, hr3, hk3⟩))
            go_roundw
            case rel => exact ⟨m, s2, own2, v2, q2, by have h1 := HM.out; have h2 := HQ1.out; omega, hr3, hs2.move HLO.out hk3, (HKY.out.trans hk2 (fun _ _ h => h)).trans (Sx.Keep.toS hk3) (fun _ _ h => h), HF3.out⟩
            case measure => rw [hr3.pos_of, HR.out.pos_of]; have h1 := HLT2.out; have h2 := HQ1.out; omega
      · have z1 : decide ((q : Int) < (V.T.length : Int)) = false := decide_eq_false (by omega)
        have z1n : decide (q < V.T.length) = false := decide_eq_false hlt
        have HF := Lib.hid (show F = .ok s q by rw [hf]; cases m with | zero => rfl | succ m => rw [Sx.items_succ, if_neg hlt])
        clear hm hr hs hk hf hlt
        go_upto_region 9 with (fail)
        go_quiet (fail)
        clear hl hp
        obtain ⟨Y, hY⟩ : ∃ Y, wr.drewN nq = Y := ⟨_, rfl⟩
        have hb : Below wr.heap.size wr Y := by rw [← hY]; exact below_drewn (Below.refl _ _) nq
        try rw [hY]
        have HRY := Lib.hid (HR.out.below hb)
        have HSY := Lib.hid (HS.out.move HLO.out (Keep.of_below hb))
        have HKY := Lib.hid (HK.out.trans (Keep.of_below (F := oursS V SB) hb) (fun _ _ h => h))
        clear hY hb
        have HRT := Lib.hid (show Y.heap[w.heap.size]? = some (.cells #[(.string ⟨#[]⟩), (.slice none 0 0), (.slice none 0 0), (.slice none 0 0), (.slice none 0 0), (.slice none 0 0), (.slice none 0 0), (.slice none 0 0), (.slice none 0 0)] 32 (0, 0)) from (HKY.out.block w.heap.size (blk_lt HD2_0.out.blk) (fun e => by unfold oursS at e; have h1 := HRB.out; have h2 := HSBG.out; omega)).trans HD2_0.out.blk)
        obtain ⟨a1, a2, a3, a4, a5, a6, a7, a8⟩ := v
        have e1 := Kd.R_slice HSY.out.r1
        dsimp only at e1
        obtain ⟨A1, c1, rfl⟩ := e1
        have e2 := Kd.R_slice HSY.out.r2
        dsimp only at e2
        obtain ⟨A2, c2, rfl⟩ := e2
        have e3 := Kd.R_slice HSY.out.r3
        dsimp only at e3
        obtain ⟨A3, c3, rfl⟩ := e3
        have e4 := Kd.R_slice HSY.out.r4
        dsimp only at e4
        obtain ⟨A4, c4, rfl⟩ := e4
        have e5 := Kd.R_slice HSY.out.r5
        dsimp only at e5
        obtain ⟨A5, c5, rfl⟩ := e5
        have e6 := Kd.R_slice HSY.out.r6
        dsimp only at e6
        obtain ⟨A6, c6, rfl⟩ := e6
        have e7 := Kd.R_slice HSY.out.r7
        dsimp only at e7
        obtain ⟨A7, c7, rfl⟩ := e7
        have e8 := Kd.R_slice HSY.out.r8
        dsimp only at e8
        obtain ⟨A8, c8, rfl⟩ := e8
        have y0 := blk_cell (v := (.string s.title)) HSY.out.blk 0 rfl
        have y1 := blk_cell (v := (.slice A1 s.kinds.length c1)) HSY.out.blk 1 rfl
        have y2 := blk_cell (v := (.slice A2 s.members.length c2)) HSY.out.blk 2 rfl
        have y3 := blk_cell (v := (.slice A3 s.preds.length c3)) HSY.out.blk 3 rfl
        have y4 := blk_cell (v := (.slice A4 s.classes.length c4)) HSY.out.blk 4 rfl
        have y5 := blk_cell (v := (.slice A5 s.sources.length c5)) HSY.out.blk 5 rfl
        have y6 := blk_cell (v := (.slice A6 s.rules.length c6)) HSY.out.blk 6 rfl
        have y7 := blk_cell (v := (.slice A7 s.excepts.length c7)) HSY.out.blk 7 rfl
        have y8 := blk_cell (v := (.slice A8 s.totals.length c8)) HSY.out.blk 8 rfl
        have z0 := blk_cell (v := (.string ⟨#[]⟩)) HRT.out 0 rfl
        have z1 := blk_cell (v := (.slice none 0 0)) HRT.out 1 rfl
        have z2 := blk_cell (v := (.slice none 0 0)) HRT.out 2 rfl
        have z3 := blk_cell (v := (.slice none 0 0)) HRT.out 3 rfl
        have z4 := blk_cell (v := (.slice none 0 0)) HRT.out 4 rfl
        have z5 := blk_cell (v := (.slice none 0 0)) HRT.out 5 rfl
        have z6 := blk_cell (v := (.slice none 0 0)) HRT.out 6 rfl
        have z7 := blk_cell (v := (.slice none 0 0)) HRT.out 7 rfl
        have z8 := blk_cell (v := (.slice none 0 0)) HRT.out 8 rfl
        have g0 := blk_free HRT.out 0
        have g1 := blk_free HRT.out 1
        have g2 := blk_free HRT.out 2
        have g3 := blk_free HRT.out 3
        have g4 := blk_free HRT.out 4
        have g5 := blk_free HRT.out 5
        have g6 := blk_free HRT.out 6
        have g7 := blk_free HRT.out 7
        have g8 := blk_free HRT.out 8
        go_wp2_with fail
        have hE0 : (Y.setCell ⟨w.heap.size, 0, none⟩ (.string s.title)).heap[w.heap.size]? = some (.cells #[(.string s.title), (.slice none 0 0), (.slice none 0 0), (.slice none 0 0), (.slice none 0 0), (.slice none 0 0), (.slice none 0 0), (.slice none 0 0), (.slice none 0 0)] 32 (0, 0)) := heap_setCell_same HRT.out 0 _
        have hE1 : ((Y.setCell ⟨w.heap.size, 0, none⟩ (.string s.title)).setCell ⟨w.heap.size, 1, none⟩ (.slice A1 s.kinds.length c1)).heap[w.heap.size]? = some (.cells #[(.string s.title), (.slice A1 s.kinds.length c1), (.slice none 0 0), (.slice none 0 0), (.slice none 0 0), (.slice none 0 0), (.slice none 0 0), (.slice none 0 0), (.slice none 0 0)] 32 (0, 0)) := heap_setCell_same hE0 1 _
        have hE2 : (((Y.setCell ⟨w.heap.size, 0, none⟩ (.string s.title)).setCell ⟨w.heap.size, 1, none⟩ (.slice A1 s.kinds.length c1)).setCell ⟨w.heap.size, 2, none⟩ (.slice A2 s.members.length c2)).heap[w.heap.size]? = some (.cells #[(.string s.title), (.slice A1 s.kinds.length c1), (.slice A2 s.members.length c2), (.slice none 0 0), (.slice none 0 0), (.slice none 0 0), (.slice none 0 0), (.slice none 0 0), (.slice none 0 0)] 32 (0, 0)) := heap_setCell_same hE1 2 _
        have hE3 : ((((Y.setCell ⟨w.heap.size, 0, none⟩ (.string s.title)).setCell ⟨w.heap.size, 1, none⟩ (.slice A1 s.kinds.length c1)).setCell ⟨w.heap.size, 2, none⟩ (.slice A2 s.members.length c2)).setCell ⟨w.heap.size, 3, none⟩ (.slice A3 s.preds.length c3)).heap[w.heap.size]? = some (.cells #[(.string s.title), (.slice A1 s.kinds.length c1), (.slice A2 s.members.length c2), (.slice A3 s.preds.length c3), (.slice none 0 0), (.slice none 0 0), (.slice none 0 0), (.slice none 0 0), (.slice none 0 0)] 32 (0, 0)) := heap_setCell_same hE2 3 _
        have hE4 : (((((Y.setCell ⟨w.heap.size, 0, none⟩ (.string s.title)).setCell ⟨w.heap.size, 1, none⟩ (.slice A1 s.kinds.length c1)).setCell ⟨w.heap.size, 2, none⟩ (.slice A2 s.members.length c2)).setCell ⟨w.heap.size, 3, none⟩ (.slice A3 s.preds.length c3)).setCell ⟨w.heap.size, 4, none⟩ (.slice A4 s.classes.length c4)).heap[w.heap.size]? = some (.cells #[(.string s.title), (.slice A1 s.kinds.length c1), (.slice A2 s.members.length c2), (.slice A3 s.preds.length c3), (.slice A4 s.classes.length c4), (.slice none 0 0), (.slice none 0 0), (.slice none 0 0), (.slice none 0 0)] 32 (0, 0)) := heap_setCell_same hE3 4 _
        have hE5 : ((((((Y.setCell ⟨w.heap.size, 0, none⟩ (.string s.title)).setCell ⟨w.heap.size, 1, none⟩ (.slice A1 s.kinds.length c1)).setCell ⟨w.heap.size, 2, none⟩ (.slice A2 s.members.length c2)).setCell ⟨w.heap.size, 3, none⟩ (.slice A3 s.preds.length c3)).setCell ⟨w.heap.size, 4, none⟩ (.slice A4 s.classes.length c4)).setCell ⟨w.heap.size, 5, none⟩ (.slice A5 s.sources.length c5)).heap[w.heap.size]? = some (.cells #[(.string s.title), (.slice A1 s.kinds.length c1), (.slice A2 s.members.length c2), (.slice A3 s.preds.length c3), (.slice A4 s.classes.length c4), (.slice A5 s.sources.length c5), (.slice none 0 0), (.slice none 0 0), (.slice none 0 0)] 32 (0, 0)) := heap_setCell_same hE4 5 _
        have hE6 : (((((((Y.setCell ⟨w.heap.size, 0, none⟩ (.string s.title)).setCell ⟨w.heap.size, 1, none⟩ (.slice A1 s.kinds.length c1)).setCell ⟨w.heap.size, 2, none⟩ (.slice A2 s.members.length c2)).setCell ⟨w.heap.size, 3, none⟩ (.slice A3 s.preds.length c3)).setCell ⟨w.heap.size, 4, none⟩ (.slice A4 s.classes.length c4)).setCell ⟨w.heap.size, 5, none⟩ (.slice A5 s.sources.length c5)).setCell ⟨w.heap.size, 6, none⟩ (.slice A6 s.rules.length c6)).heap[w.heap.size]? = some (.cells #[(.string s.title), (.slice A1 s.kinds.length c1), (.slice A2 s.members.length c2), (.slice A3 s.preds.length c3), (.slice A4 s.classes.length c4), (.slice A5 s.sources.length c5), (.slice A6 s.rules.length c6), (.slice none 0 0), (.slice none 0 0)] 32 (0, 0)) := heap_setCell_same hE5 6 _
        have hE7 : ((((((((Y.setCell ⟨w.heap.size, 0, none⟩ (.string s.title)).setCell ⟨w.heap.size, 1, none⟩ (.slice A1 s.kinds.length c1)).setCell ⟨w.heap.size, 2, none⟩ (.slice A2 s.members.length c2)).setCell ⟨w.heap.size, 3, none⟩ (.slice A3 s.preds.length c3)).setCell ⟨w.heap.size, 4, none⟩ (.slice A4 s.classes.length c4)).setCell ⟨w.heap.size, 5, none⟩ (.slice A5 s.sources.length c5)).setCell ⟨w.heap.size, 6, none⟩ (.slice A6 s.rules.length c6)).setCell ⟨w.heap.size, 7, none⟩ (.slice A7 s.excepts.length c7)).heap[w.heap.size]? = some (.cells #[(.string s.title), (.slice A1 s.kinds.length c1), (.slice A2 s.members.length c2), (.slice A3 s.preds.length c3), (.slice A4 s.classes.length c4), (.slice A5 s.sources.length c5), (.slice A6 s.rules.length c6), (.slice A7 s.excepts.length c7), (.slice none 0 0)] 32 (0, 0)) := heap_setCell_same hE6 7 _
        have hE8 : (((((((((Y.setCell ⟨w.heap.size, 0, none⟩ (.string s.title)).setCell ⟨w.heap.size, 1, none⟩ (.slice A1 s.kinds.length c1)).setCell ⟨w.heap.size, 2, none⟩ (.slice A2 s.members.length c2)).setCell ⟨w.heap.size, 3, none⟩ (.slice A3 s.preds.length c3)).setCell ⟨w.heap.size, 4, none⟩ (.slice A4 s.classes.length c4)).setCell ⟨w.heap.size, 5, none⟩ (.slice A5 s.sources.length c5)).setCell ⟨w.heap.size, 6, none⟩ (.slice A6 s.rules.length c6)).setCell ⟨w.heap.size, 7, none⟩ (.slice A7 s.excepts.length c7)).setCell ⟨w.heap.size, 8, none⟩ (.slice A8 s.totals.length c8)).heap[w.heap.size]? = some (.cells #[(.string s.title), (.slice A1 s.kinds.length c1), (.slice A2 s.members.length c2), (.slice A3 s.preds.length c3), (.slice A4 s.classes.length c4), (.slice A5 s.sources.length c5), (.slice A6 s.rules.length c6), (.slice A7 s.excepts.length c7), (.slice A8 s.totals.length c8)] 32 (0, 0)) := heap_setCell_same hE7 8 _
        refine bodyPost_ret (results_cell_row rfl _ _ w.heap.size 32 #[(.string s.title), (.slice A1 s.kinds.length c1), (.slice A2 s.members.length c2), (.slice A3 s.preds.length c3), (.slice A4 s.classes.length c4), (.slice A5 s.sources.length c5), (.slice A6 s.rules.length c6), (.slice A7 s.excepts.length c7), (.slice A8 s.totals.length c8)] (0, 0) _ rfl hE8 Tryz.underlying32 rfl rfl) rfl ?_
        rw [HF.out]
        have hfar : ∀ i, i ≠ w.heap.size → (((((((((Y.setCell ⟨w.heap.size, 0, none⟩ (.string s.title)).setCell ⟨w.heap.size, 1, none⟩ (.slice A1 s.kinds.length c1)).setCell ⟨w.heap.size, 2, none⟩ (.slice A2 s.members.length c2)).setCell ⟨w.heap.size, 3, none⟩ (.slice A3 s.preds.length c3)).setCell ⟨w.heap.size, 4, none⟩ (.slice A4 s.classes.length c4)).setCell ⟨w.heap.size, 5, none⟩ (.slice A5 s.sources.length c5)).setCell ⟨w.heap.size, 6, none⟩ (.slice A6 s.rules.length c6)).setCell ⟨w.heap.size, 7, none⟩ (.slice A7 s.excepts.length c7)).setCell ⟨w.heap.size, 8, none⟩ (.slice A8 s.totals.length c8)).heap[i]? = Y.heap[i]? := fun i hi => by
          iterate 9 rw [Below.heap_setCell _ ⟨w.heap.size, _, none⟩ _ i hi]
        have hsz : (((((((((Y.setCell ⟨w.heap.size, 0, none⟩ (.string s.title)).setCell ⟨w.heap.size, 1, none⟩ (.slice A1 s.kinds.length c1)).setCell ⟨w.heap.size, 2, none⟩ (.slice A2 s.members.length c2)).setCell ⟨w.heap.size, 3, none⟩ (.slice A3 s.preds.length c3)).setCell ⟨w.heap.size, 4, none⟩ (.slice A4 s.classes.length c4)).setCell ⟨w.heap.size, 5, none⟩ (.slice A5 s.sources.length c5)).setCell ⟨w.heap.size, 6, none⟩ (.slice A6 s.rules.length c6)).setCell ⟨w.heap.size, 7, none⟩ (.slice A7 s.excepts.length c7)).setCell ⟨w.heap.size, 8, none⟩ (.slice A8 s.totals.length c8)).heap.size = Y.heap.size := by iterate 9 rw [World.size_setCell]
        have hK0 := Sx.keepS_lt HRB.out HSBG.out HD2_0.out.keep HKY.out
        have h1 := Sx.StB.out (w1 := (((((((((Y.setCell ⟨w.heap.size, 0, none⟩ (.string s.title)).setCell ⟨w.heap.size, 1, none⟩ (.slice A1 s.kinds.length c1)).setCell ⟨w.heap.size, 2, none⟩ (.slice A2 s.members.length c2)).setCell ⟨w.heap.size, 3, none⟩ (.slice A3 s.preds.length c3)).setCell ⟨w.heap.size, 4, none⟩ (.slice A4 s.classes.length c4)).setCell ⟨w.heap.size, 5, none⟩ (.slice A5 s.sources.length c5)).setCell ⟨w.heap.size, 6, none⟩ (.slice A6 s.rules.length c6)).setCell ⟨w.heap.size, 7, none⟩ (.slice A7 s.excepts.length c7)).setCell ⟨w.heap.size, 8, none⟩ (.slice A8 s.totals.length c8))) HSY.out (Nat.le_of_lt HSBG.out) (fun k hk _ => hfar k (by have := HSBG.out; omega))
        have hB0 : Below w.heap.size Y Y := Below.mono (Below.refl _ Y) (by have := hK0.size; omega)
        have hB1 : Below w.heap.size Y (Y.setCell ⟨w.heap.size, 0, none⟩ (.string s.title)) := hB0.setCell (p := ⟨w.heap.size, 0, none⟩) (Nat.le_refl _) _
        have hB2 : Below w.heap.size Y ((Y.setCell ⟨w.heap.size, 0, none⟩ (.string s.title)).setCell ⟨w.heap.size, 1, none⟩ (.slice A1 s.kinds.length c1)) := hB1.setCell (p := ⟨w.heap.size, 1, none⟩) (Nat.le_refl _) _
        have hB3 : Below w.heap.size Y (((Y.setCell ⟨w.heap.size, 0, none⟩ (.string s.title)).setCell ⟨w.heap.size, 1, none⟩ (.slice A1 s.kinds.length c1)).setCell ⟨w.heap.size, 2, none⟩ (.slice A2 s.members.length c2)) := hB2.setCell (p := ⟨w.heap.size, 2, none⟩) (Nat.le_refl _) _
        have hB4 : Below w.heap.size Y ((((Y.setCell ⟨w.heap.size, 0, none⟩ (.string s.title)).setCell ⟨w.heap.size, 1, none⟩ (.slice A1 s.kinds.length c1)).setCell ⟨w.heap.size, 2, none⟩ (.slice A2 s.members.length c2)).setCell ⟨w.heap.size, 3, none⟩ (.slice A3 s.preds.length c3)) := hB3.setCell (p := ⟨w.heap.size, 3, none⟩) (Nat.le_refl _) _
        have hB5 : Below w.heap.size Y (((((Y.setCell ⟨w.heap.size, 0, none⟩ (.string s.title)).setCell ⟨w.heap.size, 1, none⟩ (.slice A1 s.kinds.length c1)).setCell ⟨w.heap.size, 2, none⟩ (.slice A2 s.members.length c2)).setCell ⟨w.heap.size, 3, none⟩ (.slice A3 s.preds.length c3)).setCell ⟨w.heap.size, 4, none⟩ (.slice A4 s.classes.length c4)) := hB4.setCell (p := ⟨w.heap.size, 4, none⟩) (Nat.le_refl _) _
        have hB6 : Below w.heap.size Y ((((((Y.setCell ⟨w.heap.size, 0, none⟩ (.string s.title)).setCell ⟨w.heap.size, 1, none⟩ (.slice A1 s.kinds.length c1)).setCell ⟨w.heap.size, 2, none⟩ (.slice A2 s.members.length c2)).setCell ⟨w.heap.size, 3, none⟩ (.slice A3 s.preds.length c3)).setCell ⟨w.heap.size, 4, none⟩ (.slice A4 s.classes.length c4)).setCell ⟨w.heap.size, 5, none⟩ (.slice A5 s.sources.length c5)) := hB5.setCell (p := ⟨w.heap.size, 5, none⟩) (Nat.le_refl _) _
        have hB7 : Below w.heap.size Y (((((((Y.setCell ⟨w.heap.size, 0, none⟩ (.string s.title)).setCell ⟨w.heap.size, 1, none⟩ (.slice A1 s.kinds.length c1)).setCell ⟨w.heap.size, 2, none⟩ (.slice A2 s.members.length c2)).setCell ⟨w.heap.size, 3, none⟩ (.slice A3 s.preds.length c3)).setCell ⟨w.heap.size, 4, none⟩ (.slice A4 s.classes.length c4)).setCell ⟨w.heap.size, 5, none⟩ (.slice A5 s.sources.length c5)).setCell ⟨w.heap.size, 6, none⟩ (.slice A6 s.rules.length c6)) := hB6.setCell (p := ⟨w.heap.size, 6, none⟩) (Nat.le_refl _) _
        have hB8 : Below w.heap.size Y ((((((((Y.setCell ⟨w.heap.size, 0, none⟩ (.string s.title)).setCell ⟨w.heap.size, 1, none⟩ (.slice A1 s.kinds.length c1)).setCell ⟨w.heap.size, 2, none⟩ (.slice A2 s.members.length c2)).setCell ⟨w.heap.size, 3, none⟩ (.slice A3 s.preds.length c3)).setCell ⟨w.heap.size, 4, none⟩ (.slice A4 s.classes.length c4)).setCell ⟨w.heap.size, 5, none⟩ (.slice A5 s.sources.length c5)).setCell ⟨w.heap.size, 6, none⟩ (.slice A6 s.rules.length c6)).setCell ⟨w.heap.size, 7, none⟩ (.slice A7 s.excepts.length c7)) := hB7.setCell (p := ⟨w.heap.size, 7, none⟩) (Nat.le_refl _) _
        have hB9 : Below w.heap.size Y (((((((((Y.setCell ⟨w.heap.size, 0, none⟩ (.string s.title)).setCell ⟨w.heap.size, 1, none⟩ (.slice A1 s.kinds.length c1)).setCell ⟨w.heap.size, 2, none⟩ (.slice A2 s.members.length c2)).setCell ⟨w.heap.size, 3, none⟩ (.slice A3 s.preds.length c3)).setCell ⟨w.heap.size, 4, none⟩ (.slice A4 s.classes.length c4)).setCell ⟨w.heap.size, 5, none⟩ (.slice A5 s.sources.length c5)).setCell ⟨w.heap.size, 6, none⟩ (.slice A6 s.rules.length c6)).setCell ⟨w.heap.size, 7, none⟩ (.slice A7 s.excepts.length c7)).setCell ⟨w.heap.size, 8, none⟩ (.slice A8 s.totals.length c8)) := hB8.setCell (p := ⟨w.heap.size, 8, none⟩) (Nat.le_refl _) _
        have h2 : Rd (((((((((Y.setCell ⟨w.heap.size, 0, none⟩ (.string s.title)).setCell ⟨w.heap.size, 1, none⟩ (.slice A1 s.kinds.length c1)).setCell ⟨w.heap.size, 2, none⟩ (.slice A2 s.members.length c2)).setCell ⟨w.heap.size, 3, none⟩ (.slice A3 s.preds.length c3)).setCell ⟨w.heap.size, 4, none⟩ (.slice A4 s.classes.length c4)).setCell ⟨w.heap.size, 5, none⟩ (.slice A5 s.sources.length c5)).setCell ⟨w.heap.size, 6, none⟩ (.slice A6 s.rules.length c6)).setCell ⟨w.heap.size, 7, none⟩ (.slice A7 s.excepts.length c7)).setCell ⟨w.heap.size, 8, none⟩ (.slice A8 s.totals.length c8)) V q := rd_over HD2_0.out.h0 HRY.out hB9
        have h3 := keep_over hK0 hB9
        exact ⟨_, rfl, h1, h2, h3⟩
  · simp only [if_true, Bool.false_eq_true, if_false] at hF1
    try dsimp only [Res.bnd] at hF1
    have HF1 := Lib.hid hF1
    clear hF1 hr1
    go_upto_region 3 with (first | (go_at_call 38; refine (HK1.out X1 HA1.out.rd).mono ?_; rintro e X1 ⟨rfl, hr2, hk2⟩))
    simp only [if_true, Bool.false_eq_true, if_false] at hr2
    have HD3_0 := Lib.hid (show Bx w X1 V p (p + 1) w.heap.size 32 #[(.string ⟨#[]⟩), (.slice none 0 0), (.slice none 0 0), (.slice none 0 0), (.slice none 0 0), (.slice none 0 0), (.slice none 0 0), (.slice none 0 0), (.slice none 0 0)] from HA1.out.call hr2 hk2)
    have HD3_1 := Lib.hid (show Bx w X1 V p (p + 1) SB 32 #[(.string ⟨#[]⟩), (.slice none 0 0), (.slice none 0 0), (.slice none 0 0), (.slice none 0 0), (.slice none 0 0), (.slice none 0 0), (.slice none 0 0), (.slice none 0 0)] from HB1.out.call hr2 hk2)
    clear HA1 HB1
    clear hr2 hk2 HK1
    have HN := Lib.hid (fun w1 (h1 : Rd w1 V (p + 1)) => next_calls V (p + 1) w1 h1)
    unfold Sx.tv at HN
    have hF4 := HF1.out
    have hnl := Sx.next_lt (V := V) (p := p + 1)
    generalize V.next (p + 1) = t at *
    clear HF1
    go_upto_region 4 with (first | (go_at_call 39; refine (HN.out X1 HD3_0.out.rd).mono ?_; rintro e w5 ⟨rfl, hb5⟩; have hr5 := HD3_0.out.rd.below hb5; have hk5 := Keep.of_below (F := ours V) hb5; clear hb5))
    have HD5_0 := Lib.hid (show Bx w w5 V p (p + 1) w.heap.size 32 #[(.string ⟨#[]⟩), (.slice none 0 0), (.slice none 0 0), (.slice none 0 0), (.slice none 0 0), (.slice none 0 0), (.slice none 0 0), (.slice none 0 0), (.slice none 0 0)] from HD3_0.out.call hr5 hk5)
    have HD5_1 := Lib.hid (show Bx w w5 V p (p + 1) SB 32 #[(.string ⟨#[]⟩), (.slice none 0 0), (.slice none 0 0), (.slice none 0 0), (.slice none 0 0), (.slice none 0 0), (.slice none 0 0), (.slice none 0 0), (.slice none 0 0)] from HD3_1.out.call hr5 hk5)
    clear HD3_0 HD3_1
    clear hr5 hk5
    obtain ⟨X5, hX5⟩ : ∃ X, w5.alloc (Obj.cells #[.int .i64 t.k, .string t.t, .int .i64 t.a] 48) = X := ⟨_, rfl⟩
    have HA5 := Lib.hid (HD5_0.out.alloc (Obj.cells #[.int .i64 t.k, .string t.t, .int .i64 t.a] 48))
    have HB5 := Lib.hid (HD5_1.out.alloc (Obj.cells #[.int .i64 t.k, .string t.t, .int .i64 t.a] 48))
    have u0 : X5.cell? ⟨w5.heap.size, 0, none⟩ = some (.int .i64 t.k) := by rw [← hX5]; exact blk_cell (heap_alloc_new w5 _) 0 rfl
    have u1 : X5.cell? ⟨w5.heap.size, 1, none⟩ = some (.string t.t) := by rw [← hX5]; exact blk_cell (heap_alloc_new w5 _) 1 rfl
    have hne1 : w5.heap.size ≠ V.rb := by have h1 := World.block_lt_of_cell? _ _ HD5_0.out.rd.pos; simp only at h1; omega
    have hne2 : w5.heap.size ≠ SB := by have h1 := blk_lt HD5_1.out.blk; omega
    rw [hX5] at HA5 HB5
    try rw [hX5]
    clear hX5 HD5_0 HD5_1
    by_cases hk5 : t.k = 5
    · rw [if_pos (by rw [hk5]; rfl)] at hF4
      have HF4 := Lib.hid hF4
      have HLT := Lib.hid (hnl (by rw [hk5]; decide))
      have e5 : (t.k != 5) = false := by rw [hk5]; rfl
      clear hF4 hnl hk5
      go_upto_region 6 with (fail)
      obtain ⟨pp, hpp⟩ : ∃ n, p + 1 = n := ⟨_, rfl⟩
      rw [hpp] at HLT HA5 HB5
      have hp := HA5.out.rd.pos
      have hf := HA5.out.rd.f
      have wz : IntKind.i64.wrap ((pp : Int) + 1) = ((pp + 1 : Nat) : Int) := by have h1 := HA5.out.rd.n; have h2 := HLT.out; rw [IntWalk.i64_in _ (by omega)]; omega
      go_upto_region 7 with (fail)
      have hs := HA5.out.rd.step (pp + 1) HLT.out
      have hk : Keep (ours V) X5 (X5.setCell ⟨V.rb, 1, none⟩ (.int .i64 ((pp + 1 : Nat) : Int))) := Keep.setCell (F := ours V) (Keep.refl _ _) (p := ⟨V.rb, 1, none⟩) (fun _ => rfl) _
      obtain ⟨X6, hX6⟩ : ∃ X, X5.setCell ⟨V.rb, 1, none⟩ (.int .i64 ((pp + 1 : Nat) : Int)) = X := ⟨_, rfl⟩
      have u2 : X6.cell? ⟨w5.heap.size, 1, none⟩ = some (.string t.t) := by rw [← hX6, World.cell?_setCell_other _ _ _ _ (fun e => by injection e with e1; exact hne1 e1.symm)]; exact u1
      rw [hX6] at hs hk
      have hX6b : X5.setCell ⟨V.rb, 1, none⟩ (.int .i64 ((pp : Int) + 1)) = X6 := hX6
      try rw [hX6]
      try rw [hX6b]
      clear hX6 hX6b hp hf wz
      have HD6_0 := Lib.hid (show Bx w X6 V p (pp + 1) w.heap.size 32 #[(.string ⟨#[]⟩), (.slice none 0 0), (.slice none 0 0), (.slice none 0 0), (.slice none 0 0), (.slice none 0 0), (.slice none 0 0), (.slice none 0 0), (.slice none 0 0)] from HA5.out.call hs hk)
      have HD6_1 := Lib.hid (show Bx w X6 V p (pp + 1) SB 32 #[(.string ⟨#[]⟩), (.slice none 0 0), (.slice none 0 0), (.slice none 0 0), (.slice none 0 0), (.slice none 0 0), (.slice none 0 0), (.slice none 0 0), (.slice none 0 0)] from HB5.out.call hs hk)
      clear HA5 HB5
      clear hs hk u0 u1
      have ys := blk_cell (v := (.string ⟨#[]⟩)) HD6_1.out.blk 0 rfl
      have fs := blk_free HD6_1.out.blk 0
      go_upto_region 8 with (fail)
      have HB7 := Lib.hid (show Bx w (X6.setCell ⟨SB, 0, none⟩ (.string t.t)) V p (pp + 1) SB 32 #[(.string t.t), (.slice none 0 0), (.slice none 0 0), (.slice none 0 0), (.slice none 0 0), (.slice none 0 0), (.slice none 0 0), (.slice none 0 0), (.slice none 0 0)] from HD6_1.out.set 0 (.string t.t))
      have HA7 := Lib.hid (HD6_0.out.far HD6_1.out.ge (Ne.symm HNSB.out) 0 (.string t.t))
      clear ys fs u2 HD6_0 HD6_1
      generalize X6.setCell ⟨SB, 0, none⟩ (.string t.t) = X7 at *
      have hF4p := HF4.out
      rw [show p + 2 = pp + 1 from by omega] at hF4p
      clear HF4
      have HF4 := Lib.hid hF4p
      clear hF4p
      have HK7 := Lib.hid (fun w1 h1 => must_calls V (pp + 1) 6 ⟨#[46]⟩ w1 h1 (by decide))
      have hF7 := HF4.out
      generalize hr7 : V.must 6 ⟨#[46]⟩ (pp + 1) = r7 at hF7 HK7
      cases r7 with
      | bad er a =>
        dsimp only [Res.bnd] at hF7
        have HF7 := Lib.hid hF7
        clear hF7 HF4 hr7
        go_wp2_with (first | (go_at_call 41; refine (HK7.out X7 HA7.out.rd).mono ?_; rintro e w2 ⟨rfl, hk2⟩))
        refine ⟨rfl, ?_⟩
        rw [HF7.out]
        exact ⟨rfl, (HA7.out.keep.trans hk2 (fun _ _ h => h))⟩
      | ok _ q2 =>
        dsimp only [Res.bnd] at hF7
        have HF7 := Lib.hid hF7
        clear hF7 HF4 hr7
        go_upto_region 9 with (first | (go_at_call 41; refine (HK7.out X7 HA7.out.rd).mono ?_; rintro e X7 ⟨x, rfl, rfl, hr2, hk2⟩; have HC7_0 := Lib.hid (HA7.out.call hr2 hk2); have HC7_1 := Lib.hid (HB7.out.call hr2 hk2)))
        have HD7_0 := Lib.hid (show Bx w X7 V p q2 w.heap.size 32 #[(.string ⟨#[]⟩), (.slice none 0 0), (.slice none 0 0), (.slice none 0 0), (.slice none 0 0), (.slice none 0 0), (.slice none 0 0), (.slice none 0 0), (.slice none 0 0)] from HC7_0.out)
        have HD7_1 := Lib.hid (show Bx w X7 V p q2 SB 32 #[(.string t.t), (.slice none 0 0), (.slice none 0 0), (.slice none 0 0), (.slice none 0 0), (.slice none 0 0), (.slice none 0 0), (.slice none 0 0), (.slice none 0 0)] from HC7_1.out)
        clear hr2 hk2 HK7 HA7 HB7 HC7_0 HC7_1 
        have HFL := Lib.hid (show V.statute cal p = V.items cal V.T.length ⟨t.t, [], [], [], [], [], [], [], []⟩ q2 from HF7.out)
        generalize V.statute cal p = F at *
        clear HF7
        go_upto_region 9 with (fail)
        go_loopw [] (fun wr => ∃ (m : Nat) (s : Stt) (own : Nat → Nat) (v : Vs) (q : Nat), V.T.length ≤ q + m ∧ Rd wr V q ∧ StB wr SB own s v ∧ Keep (oursS V SB) X7 wr ∧ F = V.items cal m s q) (fun wr => V.T.length - posOf V.rb wr)
        case atStart =>
          exact ⟨V.T.length, _, _, _, q2, by omega, HD7_0.out.rd, Sx.StB.nil _ SB t.t HD7_1.out.blk, Keep.refl _ _, HFL.out⟩
        case round =>
          obtain ⟨m, s, own, v, q, hm, hr, hs, hk, hf⟩ := hrel
          have HR := Lib.hid hr
          have HS := Lib.hid hs
          have HK := Lib.hid hk
          have hl := hr.l
          have hp := hr.pos
          by_cases hlt : q < V.T.length
          · have z1 : decide ((q : Int) < (V.T.length : Int)) = true := decide_eq_true (by omega)
            have z1n : decide (q < V.T.length) = true := decide_eq_true hlt
            obtain ⟨m, rfl⟩ : ∃ j, m = j + 1 := ⟨m - 1, by omega⟩
            have hf2 : F = (V.item cal s q).bnd fun s2 q => (V.must 6 ⟨#[46]⟩ q).bnd fun _ q2 => V.items cal m s2 q2 := by rw [hf, Sx.items_succ, if_pos hlt]
            have HM := Lib.hid hm
            have HLT2 := Lib.hid hlt
            have HC1 := Lib.hid (item_calls V cal hC.out q SB own s v)
            have HIS := Lib.hid (fun s2 q2 (h : V.item cal s q = .ok s2 q2) => Sx.items_step (q2 := q2) cal h)
            generalize hri : V.item cal s q = r1 at hf2 HC1 HIS
            have HF := Lib.hid hf2
            clear hm hr hs hk hf hlt hri hf2
            go_upto_region 9 with (fail)
            go_quiet (fail)
            clear hl hp
            obtain ⟨Y, hY⟩ : ∃ Y, wr.drewN nq = Y := ⟨_, rfl⟩
            have hb : Below wr.heap.size wr Y := by rw [← hY]; exact below_drewn (Below.refl _ _) nq
            try rw [hY]
            have HRY := Lib.hid (HR.out.below hb)
            have HSY := Lib.hid (HS.out.move HLO.out (Keep.of_below hb))
            have HKY := Lib.hid (HK.out.trans (Keep.of_below (F := oursS V SB) hb) (fun _ _ h => h))
            clear hY hb
            cases r1 with
            | bad er a =>
              go_wp2_with (first | (go_at_call 42; refine (HC1.out Y HRY.out HLO.out HSY.out).mono ?_; rintro e w2 ⟨rfl, hk2⟩))
              refine ⟨rfl, ?_⟩
              rw [HF.out]
              exact ⟨rfl, (Sx.keepS_lt HRB.out HSBG.out HD7_0.out.keep (HKY.out.trans hk2 (fun _ _ h => h)))⟩
            | ok s2 q1 =>
              have hq1 := HIS.out s2 q1 rfl
              have HC2 := Lib.hid (fun w1 h1 => must_calls V q1 6 ⟨#[46]⟩ w1 h1 (by decide))
              have hf3 : F = (V.must 6 ⟨#[46]⟩ q1).bnd fun _ q2 => V.items cal m s2 q2 := HF.out
              have HMS := Lib.hid (fun q2 (h : V.must 6 ⟨#[46]⟩ q1 = .ok () q2) => Sx.must_step h)
              generalize hrm : V.must 6 ⟨#[46]⟩ q1 = r2 at hf3 HC2 HMS
              have HF3 := Lib.hid hf3
              have HQ1 := Lib.hid hq1
              clear hf3 hrm HF HIS hq1
              cases r2 with
              | bad er a =>
                go_wp2_with (first | (go_at_call 42; refine (HC1.out Y HRY.out HLO.out HSY.out).mono ?_; rintro e w2 ⟨rfl, hr2, ⟨own2, v2, hs2⟩, hk2⟩) | (go_at_call 41; refine (HC2.out w2 hr2).mono ?_; rintro e w3 ⟨rfl, hk3⟩))
                refine ⟨rfl, ?_⟩
                rw [HF3.out]
                exact ⟨rfl, (Sx.keepS_lt HRB.out HSBG.out HD7_0.out.keep ((HKY.out.trans hk2 (fun _ _ h => h)).trans (Sx.Keep.toS hk3) (fun _ _ h => h)))⟩
              | ok u q2 =>
                have hq2 := HMS.out q2 rfl
                go_wp2_with (first | (go_at_call 42; refine (HC1.out Y HRY.out HLO.out HSY.out).mono ?_; rintro e w2 ⟨rfl, hr2, ⟨own2, v2, hs2⟩, hk2⟩) | (go_at_call 41; refine (HC2.out w2 hr2).mono ?_; rintro e w3 ⟨x, rfl, rfl, hr3, hk3⟩))
                go_roundw
                case rel => exact ⟨m, s2, own2, v2, q2, by have h1 := HM.out; have h2 := HQ1.out; omega, hr3, hs2.move HLO.out hk3, (HKY.out.trans hk2 (fun _ _ h => h)).trans (Sx.Keep.toS hk3) (fun _ _ h => h), HF3.out⟩
                case measure => rw [hr3.pos_of, HR.out.pos_of]; have h1 := HLT2.out; have h2 := HQ1.out; omega
          · have z1 : decide ((q : Int) < (V.T.length : Int)) = false := decide_eq_false (by omega)
            have z1n : decide (q < V.T.length) = false := decide_eq_false hlt
            have HF := Lib.hid (show F = .ok s q by rw [hf]; cases m with | zero => rfl | succ m => rw [Sx.items_succ, if_neg hlt])
            clear hm hr hs hk hf hlt
            go_upto_region 9 with (fail)
            go_quiet (fail)
            clear hl hp
            obtain ⟨Y, hY⟩ : ∃ Y, wr.drewN nq = Y := ⟨_, rfl⟩
            have hb : Below wr.heap.size wr Y := by rw [← hY]; exact below_drewn (Below.refl _ _) nq
            try rw [hY]
            have HRY := Lib.hid (HR.out.below hb)
            have HSY := Lib.hid (HS.out.move HLO.out (Keep.of_below hb))
            have HKY := Lib.hid (HK.out.trans (Keep.of_below (F := oursS V SB) hb) (fun _ _ h => h))
            clear hY hb
            have HRT := Lib.hid (show Y.heap[w.heap.size]? = some (.cells #[(.string ⟨#[]⟩), (.slice none 0 0), (.slice none 0 0), (.slice none 0 0), (.slice none 0 0), (.slice none 0 0), (.slice none 0 0), (.slice none 0 0), (.slice none 0 0)] 32 (0, 0)) from (HKY.out.block w.heap.size (blk_lt HD7_0.out.blk) (fun e => by unfold oursS at e; have h1 := HRB.out; have h2 := HSBG.out; omega)).trans HD7_0.out.blk)
            obtain ⟨a1, a2, a3, a4, a5, a6, a7, a8⟩ := v
            have e1 := Kd.R_slice HSY.out.r1
            dsimp only at e1
            obtain ⟨A1, c1, rfl⟩ := e1
            have e2 := Kd.R_slice HSY.out.r2
            dsimp only at e2
            obtain ⟨A2, c2, rfl⟩ := e2
            have e3 := Kd.R_slice HSY.out.r3
            dsimp only at e3
            obtain ⟨A3, c3, rfl⟩ := e3
            have e4 := Kd.R_slice HSY.out.r4
            dsimp only at e4
            obtain ⟨A4, c4, rfl⟩ := e4
            have e5 := Kd.R_slice HSY.out.r5
            dsimp only at e5
            obtain ⟨A5, c5, rfl⟩ := e5
            have e6 := Kd.R_slice HSY.out.r6
            dsimp only at e6
            obtain ⟨A6, c6, rfl⟩ := e6
            have e7 := Kd.R_slice HSY.out.r7
            dsimp only at e7
            obtain ⟨A7, c7, rfl⟩ := e7
            have e8 := Kd.R_slice HSY.out.r8
            dsimp only at e8
            obtain ⟨A8, c8, rfl⟩ := e8
            have y0 := blk_cell (v := (.string s.title)) HSY.out.blk 0 rfl
            have y1 := blk_cell (v := (.slice A1 s.kinds.length c1)) HSY.out.blk 1 rfl
            have y2 := blk_cell (v := (.slice A2 s.members.length c2)) HSY.out.blk 2 rfl
            have y3 := blk_cell (v := (.slice A3 s.preds.length c3)) HSY.out.blk 3 rfl
            have y4 := blk_cell (v := (.slice A4 s.classes.length c4)) HSY.out.blk 4 rfl
            have y5 := blk_cell (v := (.slice A5 s.sources.length c5)) HSY.out.blk 5 rfl
            have y6 := blk_cell (v := (.slice A6 s.rules.length c6)) HSY.out.blk 6 rfl
            have y7 := blk_cell (v := (.slice A7 s.excepts.length c7)) HSY.out.blk 7 rfl
            have y8 := blk_cell (v := (.slice A8 s.totals.length c8)) HSY.out.blk 8 rfl
            have z0 := blk_cell (v := (.string ⟨#[]⟩)) HRT.out 0 rfl
            have z1 := blk_cell (v := (.slice none 0 0)) HRT.out 1 rfl
            have z2 := blk_cell (v := (.slice none 0 0)) HRT.out 2 rfl
            have z3 := blk_cell (v := (.slice none 0 0)) HRT.out 3 rfl
            have z4 := blk_cell (v := (.slice none 0 0)) HRT.out 4 rfl
            have z5 := blk_cell (v := (.slice none 0 0)) HRT.out 5 rfl
            have z6 := blk_cell (v := (.slice none 0 0)) HRT.out 6 rfl
            have z7 := blk_cell (v := (.slice none 0 0)) HRT.out 7 rfl
            have z8 := blk_cell (v := (.slice none 0 0)) HRT.out 8 rfl
            have g0 := blk_free HRT.out 0
            have g1 := blk_free HRT.out 1
            have g2 := blk_free HRT.out 2
            have g3 := blk_free HRT.out 3
            have g4 := blk_free HRT.out 4
            have g5 := blk_free HRT.out 5
            have g6 := blk_free HRT.out 6
            have g7 := blk_free HRT.out 7
            have g8 := blk_free HRT.out 8
            go_wp2_with fail
            have hE0 : (Y.setCell ⟨w.heap.size, 0, none⟩ (.string s.title)).heap[w.heap.size]? = some (.cells #[(.string s.title), (.slice none 0 0), (.slice none 0 0), (.slice none 0 0), (.slice none 0 0), (.slice none 0 0), (.slice none 0 0), (.slice none 0 0), (.slice none 0 0)] 32 (0, 0)) := heap_setCell_same HRT.out 0 _
            have hE1 : ((Y.setCell ⟨w.heap.size, 0, none⟩ (.string s.title)).setCell ⟨w.heap.size, 1, none⟩ (.slice A1 s.kinds.length c1)).heap[w.heap.size]? = some (.cells #[(.string s.title), (.slice A1 s.kinds.length c1), (.slice none 0 0), (.slice none 0 0), (.slice none 0 0), (.slice none 0 0), (.slice none 0 0), (.slice none 0 0), (.slice none 0 0)] 32 (0, 0)) := heap_setCell_same hE0 1 _
            have hE2 : (((Y.setCell ⟨w.heap.size, 0, none⟩ (.string s.title)).setCell ⟨w.heap.size, 1, none⟩ (.slice A1 s.kinds.length c1)).setCell ⟨w.heap.size, 2, none⟩ (.slice A2 s.members.length c2)).heap[w.heap.size]? = some (.cells #[(.string s.title), (.slice A1 s.kinds.length c1), (.slice A2 s.members.length c2), (.slice none 0 0), (.slice none 0 0), (.slice none 0 0), (.slice none 0 0), (.slice none 0 0), (.slice none 0 0)] 32 (0, 0)) := heap_setCell_same hE1 2 _
            have hE3 : ((((Y.setCell ⟨w.heap.size, 0, none⟩ (.string s.title)).setCell ⟨w.heap.size, 1, none⟩ (.slice A1 s.kinds.length c1)).setCell ⟨w.heap.size, 2, none⟩ (.slice A2 s.members.length c2)).setCell ⟨w.heap.size, 3, none⟩ (.slice A3 s.preds.length c3)).heap[w.heap.size]? = some (.cells #[(.string s.title), (.slice A1 s.kinds.length c1), (.slice A2 s.members.length c2), (.slice A3 s.preds.length c3), (.slice none 0 0), (.slice none 0 0), (.slice none 0 0), (.slice none 0 0), (.slice none 0 0)] 32 (0, 0)) := heap_setCell_same hE2 3 _
            have hE4 : (((((Y.setCell ⟨w.heap.size, 0, none⟩ (.string s.title)).setCell ⟨w.heap.size, 1, none⟩ (.slice A1 s.kinds.length c1)).setCell ⟨w.heap.size, 2, none⟩ (.slice A2 s.members.length c2)).setCell ⟨w.heap.size, 3, none⟩ (.slice A3 s.preds.length c3)).setCell ⟨w.heap.size, 4, none⟩ (.slice A4 s.classes.length c4)).heap[w.heap.size]? = some (.cells #[(.string s.title), (.slice A1 s.kinds.length c1), (.slice A2 s.members.length c2), (.slice A3 s.preds.length c3), (.slice A4 s.classes.length c4), (.slice none 0 0), (.slice none 0 0), (.slice none 0 0), (.slice none 0 0)] 32 (0, 0)) := heap_setCell_same hE3 4 _
            have hE5 : ((((((Y.setCell ⟨w.heap.size, 0, none⟩ (.string s.title)).setCell ⟨w.heap.size, 1, none⟩ (.slice A1 s.kinds.length c1)).setCell ⟨w.heap.size, 2, none⟩ (.slice A2 s.members.length c2)).setCell ⟨w.heap.size, 3, none⟩ (.slice A3 s.preds.length c3)).setCell ⟨w.heap.size, 4, none⟩ (.slice A4 s.classes.length c4)).setCell ⟨w.heap.size, 5, none⟩ (.slice A5 s.sources.length c5)).heap[w.heap.size]? = some (.cells #[(.string s.title), (.slice A1 s.kinds.length c1), (.slice A2 s.members.length c2), (.slice A3 s.preds.length c3), (.slice A4 s.classes.length c4), (.slice A5 s.sources.length c5), (.slice none 0 0), (.slice none 0 0), (.slice none 0 0)] 32 (0, 0)) := heap_setCell_same hE4 5 _
            have hE6 : (((((((Y.setCell ⟨w.heap.size, 0, none⟩ (.string s.title)).setCell ⟨w.heap.size, 1, none⟩ (.slice A1 s.kinds.length c1)).setCell ⟨w.heap.size, 2, none⟩ (.slice A2 s.members.length c2)).setCell ⟨w.heap.size, 3, none⟩ (.slice A3 s.preds.length c3)).setCell ⟨w.heap.size, 4, none⟩ (.slice A4 s.classes.length c4)).setCell ⟨w.heap.size, 5, none⟩ (.slice A5 s.sources.length c5)).setCell ⟨w.heap.size, 6, none⟩ (.slice A6 s.rules.length c6)).heap[w.heap.size]? = some (.cells #[(.string s.title), (.slice A1 s.kinds.length c1), (.slice A2 s.members.length c2), (.slice A3 s.preds.length c3), (.slice A4 s.classes.length c4), (.slice A5 s.sources.length c5), (.slice A6 s.rules.length c6), (.slice none 0 0), (.slice none 0 0)] 32 (0, 0)) := heap_setCell_same hE5 6 _
            have hE7 : ((((((((Y.setCell ⟨w.heap.size, 0, none⟩ (.string s.title)).setCell ⟨w.heap.size, 1, none⟩ (.slice A1 s.kinds.length c1)).setCell ⟨w.heap.size, 2, none⟩ (.slice A2 s.members.length c2)).setCell ⟨w.heap.size, 3, none⟩ (.slice A3 s.preds.length c3)).setCell ⟨w.heap.size, 4, none⟩ (.slice A4 s.classes.length c4)).setCell ⟨w.heap.size, 5, none⟩ (.slice A5 s.sources.length c5)).setCell ⟨w.heap.size, 6, none⟩ (.slice A6 s.rules.length c6)).setCell ⟨w.heap.size, 7, none⟩ (.slice A7 s.excepts.length c7)).heap[w.heap.size]? = some (.cells #[(.string s.title), (.slice A1 s.kinds.length c1), (.slice A2 s.members.length c2), (.slice A3 s.preds.length c3), (.slice A4 s.classes.length c4), (.slice A5 s.sources.length c5), (.slice A6 s.rules.length c6), (.slice A7 s.excepts.length c7), (.slice none 0 0)] 32 (0, 0)) := heap_setCell_same hE6 7 _
            have hE8 : (((((((((Y.setCell ⟨w.heap.size, 0, none⟩ (.string s.title)).setCell ⟨w.heap.size, 1, none⟩ (.slice A1 s.kinds.length c1)).setCell ⟨w.heap.size, 2, none⟩ (.slice A2 s.members.length c2)).setCell ⟨w.heap.size, 3, none⟩ (.slice A3 s.preds.length c3)).setCell ⟨w.heap.size, 4, none⟩ (.slice A4 s.classes.length c4)).setCell ⟨w.heap.size, 5, none⟩ (.slice A5 s.sources.length c5)).setCell ⟨w.heap.size, 6, none⟩ (.slice A6 s.rules.length c6)).setCell ⟨w.heap.size, 7, none⟩ (.slice A7 s.excepts.length c7)).setCell ⟨w.heap.size, 8, none⟩ (.slice A8 s.totals.length c8)).heap[w.heap.size]? = some (.cells #[(.string s.title), (.slice A1 s.kinds.length c1), (.slice A2 s.members.length c2), (.slice A3 s.preds.length c3), (.slice A4 s.classes.length c4), (.slice A5 s.sources.length c5), (.slice A6 s.rules.length c6), (.slice A7 s.excepts.length c7), (.slice A8 s.totals.length c8)] 32 (0, 0)) := heap_setCell_same hE7 8 _
            refine bodyPost_ret (results_cell_row rfl _ _ w.heap.size 32 #[(.string s.title), (.slice A1 s.kinds.length c1), (.slice A2 s.members.length c2), (.slice A3 s.preds.length c3), (.slice A4 s.classes.length c4), (.slice A5 s.sources.length c5), (.slice A6 s.rules.length c6), (.slice A7 s.excepts.length c7), (.slice A8 s.totals.length c8)] (0, 0) _ rfl hE8 Tryz.underlying32 rfl rfl) rfl ?_
            rw [HF.out]
            have hfar : ∀ i, i ≠ w.heap.size → (((((((((Y.setCell ⟨w.heap.size, 0, none⟩ (.string s.title)).setCell ⟨w.heap.size, 1, none⟩ (.slice A1 s.kinds.length c1)).setCell ⟨w.heap.size, 2, none⟩ (.slice A2 s.members.length c2)).setCell ⟨w.heap.size, 3, none⟩ (.slice A3 s.preds.length c3)).setCell ⟨w.heap.size, 4, none⟩ (.slice A4 s.classes.length c4)).setCell ⟨w.heap.size, 5, none⟩ (.slice A5 s.sources.length c5)).setCell ⟨w.heap.size, 6, none⟩ (.slice A6 s.rules.length c6)).setCell ⟨w.heap.size, 7, none⟩ (.slice A7 s.excepts.length c7)).setCell ⟨w.heap.size, 8, none⟩ (.slice A8 s.totals.length c8)).heap[i]? = Y.heap[i]? := fun i hi => by
              iterate 9 rw [Below.heap_setCell _ ⟨w.heap.size, _, none⟩ _ i hi]
            have hsz : (((((((((Y.setCell ⟨w.heap.size, 0, none⟩ (.string s.title)).setCell ⟨w.heap.size, 1, none⟩ (.slice A1 s.kinds.length c1)).setCell ⟨w.heap.size, 2, none⟩ (.slice A2 s.members.length c2)).setCell ⟨w.heap.size, 3, none⟩ (.slice A3 s.preds.length c3)).setCell ⟨w.heap.size, 4, none⟩ (.slice A4 s.classes.length c4)).setCell ⟨w.heap.size, 5, none⟩ (.slice A5 s.sources.length c5)).setCell ⟨w.heap.size, 6, none⟩ (.slice A6 s.rules.length c6)).setCell ⟨w.heap.size, 7, none⟩ (.slice A7 s.excepts.length c7)).setCell ⟨w.heap.size, 8, none⟩ (.slice A8 s.totals.length c8)).heap.size = Y.heap.size := by iterate 9 rw [World.size_setCell]
            have hK0 := Sx.keepS_lt HRB.out HSBG.out HD7_0.out.keep HKY.out
            have h1 := Sx.StB.out (w1 := (((((((((Y.setCell ⟨w.heap.size, 0, none⟩ (.string s.title)).setCell ⟨w.heap.size, 1, none⟩ (.slice A1 s.kinds.length c1)).setCell ⟨w.heap.size, 2, none⟩ (.slice A2 s.members.length c2)).setCell ⟨w.heap.size, 3, none⟩ (.slice A3 s.preds.length c3)).setCell ⟨w.heap.size, 4, none⟩ (.slice A4 s.classes.length c4)).setCell ⟨w.heap.size, 5, none⟩ (.slice A5 s.sources.length c5)).setCell ⟨w.heap.size, 6, none⟩ (.slice A6 s.rules.length c6)).setCell ⟨w.heap.size, 7, none⟩ (.slice A7 s.excepts.length c7)).setCell ⟨w.heap.size, 8, none⟩ (.slice A8 s.totals.length c8))) HSY.out (Nat.le_of_lt HSBG.out) (fun k hk _ => hfar k (by have := HSBG.out; omega))
            have hB0 : Below w.heap.size Y Y := Below.mono (Below.refl _ Y) (by have := hK0.size; omega)
            have hB1 : Below w.heap.size Y (Y.setCell ⟨w.heap.size, 0, none⟩ (.string s.title)) := hB0.setCell (p := ⟨w.heap.size, 0, none⟩) (Nat.le_refl _) _
            have hB2 : Below w.heap.size Y ((Y.setCell ⟨w.heap.size, 0, none⟩ (.string s.title)).setCell ⟨w.heap.size, 1, none⟩ (.slice A1 s.kinds.length c1)) := hB1.setCell (p := ⟨w.heap.size, 1, none⟩) (Nat.le_refl _) _
            have hB3 : Below w.heap.size Y (((Y.setCell ⟨w.heap.size, 0, none⟩ (.string s.title)).setCell ⟨w.heap.size, 1, none⟩ (.slice A1 s.kinds.length c1)).setCell ⟨w.heap.size, 2, none⟩ (.slice A2 s.members.length c2)) := hB2.setCell (p := ⟨w.heap.size, 2, none⟩) (Nat.le_refl _) _
            have hB4 : Below w.heap.size Y ((((Y.setCell ⟨w.heap.size, 0, none⟩ (.string s.title)).setCell ⟨w.heap.size, 1, none⟩ (.slice A1 s.kinds.length c1)).setCell ⟨w.heap.size, 2, none⟩ (.slice A2 s.members.length c2)).setCell ⟨w.heap.size, 3, none⟩ (.slice A3 s.preds.length c3)) := hB3.setCell (p := ⟨w.heap.size, 3, none⟩) (Nat.le_refl _) _
            have hB5 : Below w.heap.size Y (((((Y.setCell ⟨w.heap.size, 0, none⟩ (.string s.title)).setCell ⟨w.heap.size, 1, none⟩ (.slice A1 s.kinds.length c1)).setCell ⟨w.heap.size, 2, none⟩ (.slice A2 s.members.length c2)).setCell ⟨w.heap.size, 3, none⟩ (.slice A3 s.preds.length c3)).setCell ⟨w.heap.size, 4, none⟩ (.slice A4 s.classes.length c4)) := hB4.setCell (p := ⟨w.heap.size, 4, none⟩) (Nat.le_refl _) _
            have hB6 : Below w.heap.size Y ((((((Y.setCell ⟨w.heap.size, 0, none⟩ (.string s.title)).setCell ⟨w.heap.size, 1, none⟩ (.slice A1 s.kinds.length c1)).setCell ⟨w.heap.size, 2, none⟩ (.slice A2 s.members.length c2)).setCell ⟨w.heap.size, 3, none⟩ (.slice A3 s.preds.length c3)).setCell ⟨w.heap.size, 4, none⟩ (.slice A4 s.classes.length c4)).setCell ⟨w.heap.size, 5, none⟩ (.slice A5 s.sources.length c5)) := hB5.setCell (p := ⟨w.heap.size, 5, none⟩) (Nat.le_refl _) _
            have hB7 : Below w.heap.size Y (((((((Y.setCell ⟨w.heap.size, 0, none⟩ (.string s.title)).setCell ⟨w.heap.size, 1, none⟩ (.slice A1 s.kinds.length c1)).setCell ⟨w.heap.size, 2, none⟩ (.slice A2 s.members.length c2)).setCell ⟨w.heap.size, 3, none⟩ (.slice A3 s.preds.length c3)).setCell ⟨w.heap.size, 4, none⟩ (.slice A4 s.classes.length c4)).setCell ⟨w.heap.size, 5, none⟩ (.slice A5 s.sources.length c5)).setCell ⟨w.heap.size, 6, none⟩ (.slice A6 s.rules.length c6)) := hB6.setCell (p := ⟨w.heap.size, 6, none⟩) (Nat.le_refl _) _
            have hB8 : Below w.heap.size Y ((((((((Y.setCell ⟨w.heap.size, 0, none⟩ (.string s.title)).setCell ⟨w.heap.size, 1, none⟩ (.slice A1 s.kinds.length c1)).setCell ⟨w.heap.size, 2, none⟩ (.slice A2 s.members.length c2)).setCell ⟨w.heap.size, 3, none⟩ (.slice A3 s.preds.length c3)).setCell ⟨w.heap.size, 4, none⟩ (.slice A4 s.classes.length c4)).setCell ⟨w.heap.size, 5, none⟩ (.slice A5 s.sources.length c5)).setCell ⟨w.heap.size, 6, none⟩ (.slice A6 s.rules.length c6)).setCell ⟨w.heap.size, 7, none⟩ (.slice A7 s.excepts.length c7)) := hB7.setCell (p := ⟨w.heap.size, 7, none⟩) (Nat.le_refl _) _
            have hB9 : Below w.heap.size Y (((((((((Y.setCell ⟨w.heap.size, 0, none⟩ (.string s.title)).setCell ⟨w.heap.size, 1, none⟩ (.slice A1 s.kinds.length c1)).setCell ⟨w.heap.size, 2, none⟩ (.slice A2 s.members.length c2)).setCell ⟨w.heap.size, 3, none⟩ (.slice A3 s.preds.length c3)).setCell ⟨w.heap.size, 4, none⟩ (.slice A4 s.classes.length c4)).setCell ⟨w.heap.size, 5, none⟩ (.slice A5 s.sources.length c5)).setCell ⟨w.heap.size, 6, none⟩ (.slice A6 s.rules.length c6)).setCell ⟨w.heap.size, 7, none⟩ (.slice A7 s.excepts.length c7)).setCell ⟨w.heap.size, 8, none⟩ (.slice A8 s.totals.length c8)) := hB8.setCell (p := ⟨w.heap.size, 8, none⟩) (Nat.le_refl _) _
            have h2 : Rd (((((((((Y.setCell ⟨w.heap.size, 0, none⟩ (.string s.title)).setCell ⟨w.heap.size, 1, none⟩ (.slice A1 s.kinds.length c1)).setCell ⟨w.heap.size, 2, none⟩ (.slice A2 s.members.length c2)).setCell ⟨w.heap.size, 3, none⟩ (.slice A3 s.preds.length c3)).setCell ⟨w.heap.size, 4, none⟩ (.slice A4 s.classes.length c4)).setCell ⟨w.heap.size, 5, none⟩ (.slice A5 s.sources.length c5)).setCell ⟨w.heap.size, 6, none⟩ (.slice A6 s.rules.length c6)).setCell ⟨w.heap.size, 7, none⟩ (.slice A7 s.excepts.length c7)).setCell ⟨w.heap.size, 8, none⟩ (.slice A8 s.totals.length c8)) V q := rd_over HD7_0.out.h0 HRY.out hB9
            have h3 := keep_over hK0 hB9
            exact ⟨_, rfl, h1, h2, h3⟩
    · rw [if_neg (by simpa using hk5)] at hF4
      have HF4 := Lib.hid hF4
      have e5 : (t.k != 5) = true := by simpa using hk5
      clear hF4 hnl hk5
      go_wp2_with (first | (go_at_call 40; refine (stop_calls V (p + 1) 51 X5 HA5.out.rd).mono ?_; rintro e w2 ⟨rfl, hb⟩))
      refine ⟨rfl, ?_⟩
      rw [HF4.out]
      exact ⟨rfl, HA5.out.keep.trans (Keep.of_below hb) (fun _ _ h => h)⟩
end Go.Proofs.YtcakgennlliejaaGreatDoor
