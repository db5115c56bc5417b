import Derived.Defers
import Derived.Recover
import Derived.Deep.RegionHeld3
import Derived.Test.YtcakgennlliejaaGreatDoorSynK16
import Derived.Test.YtcakgennlliejaaGreatDoorSynK18
import Derived.Test.YtcakgennlliejaaGreatDoorSynK23
/- syntax.Parse: the deferred closure -/
namespace Go.Proofs.YtcakgennlliejaaGreatDoor
open Go.Shelf Go.RowKit Go.Lib
open Go.Proofs.YtcakgennlliejaaGreatDoorW.PrintWords
open Go.Proofs.YtcakgennlliejaaGreatDoor.PSyntaxJoined
open Sx
set_option linter.unusedVariables false
set_option linter.unusedSimpArgs false
/-- what the closure leaves when the reader has given up -/
def Sx.Caught (ob eb ab : Nat) (er a : Int) (w w' : World) : Prop :=
  Keep (fun k => k = ob ∨ k = eb ∨ k = ab) w w' ∧ w'.heap[ob]? = some (.cells #[.string ⟨#[]⟩, .slice none 0 0, .slice none 0 0, .slice none 0 0, .slice none 0 0, .slice none 0 0, .slice none 0 0, .slice none 0 0, .slice none 0 0] 32 (0, 0)) ∧ w'.heap[eb]? = some (.cells #[.int .i64 er] 33 (0, 0)) ∧ w'.heap[ab]? = some (.cells #[.int .i64 a] 3 (0, 0))
set_option maxHeartbeats 4000000 in
set_option maxRecDepth 100000 in
theorem catch_idle (ob eb ab : Nat) (w : World) :
    CallsD Tryz.prog 18 #[.pointer (some ⟨ob, 0, none⟩), .pointer (some ⟨eb, 0, none⟩), .pointer (some ⟨ab, 0, none⟩)] .returning w fun e u' w' => e = .returned (.tuple #[]) ∧ u' = .returning ∧ w' = w := by
  refine callsD_of_wpS Tryz.func18 rfl fun c₀ cs hu => ?_
  apply wpS_seq
  apply wpS_region
  simp [wpOpsS, go_sem, recoverD, hu, Tryz.ntmps18, Exit.thenS]
  apply wpS_seq
  apply wpS_region
  simp [wpOpsS, go_sem, Exit.thenS]
  refine wpS_cond (t := false) (by simp [Act.eval]) ?_
  simp only [Bool.false_eq_true, if_false]
  refine wpS_of_wp (wp_skip ?_)
  cases c₀
  simp_all [bodyPostS, results, Tryz.results18]
def Sx.CQ (ob eb ab : Nat) (er a : Int) (w : World) : Exit → Act → World → Prop
  | .normal, a', w' => a'.defers = [] ∧ Sx.Caught ob eb ab er a w w'
  | _, _, _ => False
set_option maxHeartbeats 4000000 in
set_option maxRecDepth 100000 in
theorem catch_panicking (ob eb ab : Nat) (er a : Int) (h12 : ob ≠ eb) (h13 : ob ≠ ab) (h23 : eb ≠ ab) (ev av : Int) (w : World)
    (ho : w.heap[ob]? = some (.cells #[.string ⟨#[]⟩, .slice none 0 0, .slice none 0 0, .slice none 0 0, .slice none 0 0, .slice none 0 0, .slice none 0 0, .slice none 0 0, .slice none 0 0] 32 (0, 0))) (he : w.heap[eb]? = some (.cells #[.int .i64 ev] 33 (0, 0))) (ha : w.heap[ab]? = some (.cells #[.int .i64 av] 3 (0, 0))) :
    CallsD Tryz.prog 18 #[.pointer (some ⟨ob, 0, none⟩), .pointer (some ⟨eb, 0, none⟩), .pointer (some ⟨ab, 0, none⟩)] (.panicking (flt er a)) w fun e u' w' => e = .returned (.tuple #[]) ∧ u' = .panicking [{ v := .iface 58 (.agg #[.int .i64 er, .int .i64 a]), recovered := true }] ∧ Sx.Caught ob eb ab er a w w' := by
  refine callsD_of_wpS Tryz.func18 rfl fun c₀ cs hu => ?_
  unfold flt at hu
  apply wpS_seq
  apply wpS_region
  simp [wpOpsS, go_sem, recoverD, hu, Tryz.ntmps18, Exit.thenS]
  have has : ∀ W : World, (Instr.typeAssert (.iface 58 (.agg #[.int .i64 er, .int .i64 a])) 20 58 true).run Tryz.prog W = .ok (.tuple #[.agg #[.int .i64 er, .int .i64 a], .bool true]) W := fun W => by kernel_rfl
  have hne : ∀ W : World, (Op.equal 20 (.iface 58 (.agg #[.int .i64 er, .int .i64 a])) .nilIface).run Tryz.prog W = .ok false W := fun W => by kernel_rfl
  have hne2 : ∀ W : World, (binOp .neq 20 (.iface 58 (.agg #[.int .i64 er, .int .i64 a])) .nilIface).run Tryz.prog W = .ok (.bool true) W := fun W => by kernel_rfl
  have hnot : ∀ (x : Bool) (w : World), (Op.unary .not (.bool x)).run Tryz.prog w = .ok (.bool (!x)) w := fun _ _ => rfl
  refine wpS_of_wp ?_
  refine Code.wp_mono (Q := Sx.CQ ob eb ab er a w) (fun e a' w' h => ?_) ?_
  · cases e with
    | normal =>
      obtain ⟨h2, h3⟩ := h
      cases c₀
      simp_all [bodyPostS, results, Tryz.results18]
    | _ => exact h.elim
  clear hu
  have ht : ((#[Value.pointer (some ⟨ob, 0, none⟩), .pointer (some ⟨eb, 0, none⟩), .pointer (some ⟨ab, 0, none⟩)] ++ ((Array.replicate 19 undef).setIfInBounds 3 (Value.iface 58 (.agg #[.int .i64 er, .int .i64 a]))).setIfInBounds 0 (Value.iface 58 (.agg #[.int .i64 er, .int .i64 a]))) : Array Value) = #[.pointer (some ⟨ob, 0, none⟩), .pointer (some ⟨eb, 0, none⟩), .pointer (some ⟨ab, 0, none⟩), Value.iface 58 (.agg #[.int .i64 er, .int .i64 a]), undef, undef, Value.iface 58 (.agg #[.int .i64 er, .int .i64 a]), undef, undef, undef, undef, undef, undef, undef, undef, undef, undef, undef, undef, undef, undef, undef] := by kernel_rfl
  rw [ht]
  clear ht
  have HO := Lib.hid ho
  have HE := Lib.hid he
  have HA := Lib.hid ha
  clear ho he ha
  go_upto_region 3 with (fail)
  obtain ⟨X, hX⟩ : ∃ X, w.alloc (Obj.cells #[.int .i64 er, .int .i64 a] 58) = X := ⟨_, rfl⟩
  have hbX : Below w.heap.size w X := by rw [← hX]; exact (Below.refl _ w).alloc (Nat.le_refl _) _
  have hfX : X.heap[w.heap.size]? = some (.cells #[.int .i64 er, .int .i64 a] 58 (0, 0)) := by rw [← hX]; exact heap_alloc_new w _
  try rw [hX]
  clear hX
  have HXO := Lib.hid ((hbX.block ob (blk_lt HO.out)).trans HO.out)
  have HXE := Lib.hid ((hbX.block eb (blk_lt HE.out)).trans HE.out)
  have HXA := Lib.hid ((hbX.block ab (blk_lt HA.out)).trans HA.out)
  have HLT := Lib.hid (show ob < w.heap.size ∧ eb < w.heap.size ∧ ab < w.heap.size from ⟨blk_lt HO.out, blk_lt HE.out, blk_lt HA.out⟩)
  have HFX := Lib.hid hfX
  have HBX := Lib.hid hbX
  clear hbX hfX
  have n1 : w.heap.size ≠ ob := by have := HLT.out.1; omega
  have n2 : w.heap.size ≠ eb := by have := HLT.out.2.1; omega
  have n3 : w.heap.size ≠ ab := by have := HLT.out.2.2; omega
  have f0 : X.cell? ⟨w.heap.size, 0, none⟩ = some (.int .i64 er) := blk_cell HFX.out 0 rfl
  have f1 : X.cell? ⟨w.heap.size, 1, none⟩ = some (.int .i64 a) := blk_cell HFX.out 1 rfl
  have o0 := blk_cell (v := .string ⟨#[]⟩) HXO.out 0 rfl
  have p0 := blk_free HXO.out 0
  have o1 := blk_cell (v := .slice none 0 0) HXO.out 1 rfl
  have p1 := blk_free HXO.out 1
  have o2 := blk_cell (v := .slice none 0 0) HXO.out 2 rfl
  have p2 := blk_free HXO.out 2
  have o3 := blk_cell (v := .slice none 0 0) HXO.out 3 rfl
  have p3 := blk_free HXO.out 3
  have o4 := blk_cell (v := .slice none 0 0) HXO.out 4 rfl
  have p4 := blk_free HXO.out 4
  have o5 := blk_cell (v := .slice none 0 0) HXO.out 5 rfl
  have p5 := blk_free HXO.out 5
  have o6 := blk_cell (v := .slice none 0 0) HXO.out 6 rfl
  have p6 := blk_free HXO.out 6
  have o7 := blk_cell (v := .slice none 0 0) HXO.out 7 rfl
  have p7 := blk_free HXO.out 7
  have o8 := blk_cell (v := .slice none 0 0) HXO.out 8 rfl
  have p8 := blk_free HXO.out 8
  have q0 := blk_cell (v := .int .i64 ev) HXE.out 0 rfl
  have q1 := blk_free HXE.out 0
  have r0 := blk_cell (v := .int .i64 av) HXA.out 0 rfl
  have r1 := blk_free HXA.out 0
  go_upto_region 5 with (fail)
  have m1 : ob ≠ w.heap.size := Ne.symm n1
  have m2 : eb ≠ w.heap.size := Ne.symm n2
  have m3 : ab ≠ w.heap.size := Ne.symm n3
  have h21 : eb ≠ ob := Ne.symm h12
  have h31 : ab ≠ ob := Ne.symm h13
  have h32 : ab ≠ eb := Ne.symm h23
  go_region_held (fun w' => w'.cell? ⟨w.heap.size, 0, none⟩ = some (.int .i64 er) ∧ w'.cell? ⟨w.heap.size, 1, none⟩ = some (.int .i64 a)) (go_keep) (fail)
  have hkX : Keep (fun k => k = ob ∨ k = eb ∨ k = ab) w X := Keep.of_below HBX.out
  have k0 := Keep.setCell (F := fun k => k = ob ∨ k = eb ∨ k = ab) hkX (p := ⟨ob, 0, none⟩) (fun _ => .inl rfl) (.string ⟨#[]⟩)
  have k1 := Keep.setCell (F := fun k => k = ob ∨ k = eb ∨ k = ab) k0 (p := ⟨ob, 1, none⟩) (fun _ => .inl rfl) (.slice none 0 0)
  have k2 := Keep.setCell (F := fun k => k = ob ∨ k = eb ∨ k = ab) k1 (p := ⟨ob, 2, none⟩) (fun _ => .inl rfl) (.slice none 0 0)
  have k3 := Keep.setCell (F := fun k => k = ob ∨ k = eb ∨ k = ab) k2 (p := ⟨ob, 3, none⟩) (fun _ => .inl rfl) (.slice none 0 0)
  have k4 := Keep.setCell (F := fun k => k = ob ∨ k = eb ∨ k = ab) k3 (p := ⟨ob, 4, none⟩) (fun _ => .inl rfl) (.slice none 0 0)
  have k5 := Keep.setCell (F := fun k => k = ob ∨ k = eb ∨ k = ab) k4 (p := ⟨ob, 5, none⟩) (fun _ => .inl rfl) (.slice none 0 0)
  have k6 := Keep.setCell (F := fun k => k = ob ∨ k = eb ∨ k = ab) k5 (p := ⟨ob, 6, none⟩) (fun _ => .inl rfl) (.slice none 0 0)
  have k7 := Keep.setCell (F := fun k => k = ob ∨ k = eb ∨ k = ab) k6 (p := ⟨ob, 7, none⟩) (fun _ => .inl rfl) (.slice none 0 0)
  have k8 := Keep.setCell (F := fun k => k = ob ∨ k = eb ∨ k = ab) k7 (p := ⟨ob, 8, none⟩) (fun _ => .inl rfl) (.slice none 0 0)
  have k9 := Keep.setCell (F := fun k => k = ob ∨ k = eb ∨ k = ab) k8 (p := ⟨eb, 0, none⟩) (fun _ => .inr (.inl rfl)) (.int .i64 er)
  have k10 := Keep.setCell (F := fun k => k = ob ∨ k = eb ∨ k = ab) k9 (p := ⟨ab, 0, none⟩) (fun _ => .inr (.inr rfl)) (.int .i64 a)
  have b0 : (X.setCell ⟨ob, 0, none⟩ (.string ⟨#[]⟩)).heap[ob]? = some (.cells #[.string ⟨#[]⟩, .slice none 0 0, .slice none 0 0, .slice none 0 0, .slice none 0 0, .slice none 0 0, .slice none 0 0, .slice none 0 0, .slice none 0 0] 32 (0, 0)) := heap_setCell_same HXO.out 0 _
  have b1 : ((X.setCell ⟨ob, 0, none⟩ (.string ⟨#[]⟩)).setCell ⟨ob, 1, none⟩ (.slice none 0 0)).heap[ob]? = some (.cells #[.string ⟨#[]⟩, .slice none 0 0, .slice none 0 0, .slice none 0 0, .slice none 0 0, .slice none 0 0, .slice none 0 0, .slice none 0 0, .slice none 0 0] 32 (0, 0)) := heap_setCell_same b0 1 _
  have b2 : (((X.setCell ⟨ob, 0, none⟩ (.string ⟨#[]⟩)).setCell ⟨ob, 1, none⟩ (.slice none 0 0)).setCell ⟨ob, 2, none⟩ (.slice none 0 0)).heap[ob]? = some (.cells #[.string ⟨#[]⟩, .slice none 0 0, .slice none 0 0, .slice none 0 0, .slice none 0 0, .slice none 0 0, .slice none 0 0, .slice none 0 0, .slice none 0 0] 32 (0, 0)) := heap_setCell_same b1 2 _
  have b3 : ((((X.setCell ⟨ob, 0, none⟩ (.string ⟨#[]⟩)).setCell ⟨ob, 1, none⟩ (.slice none 0 0)).setCell ⟨ob, 2, none⟩ (.slice none 0 0)).setCell ⟨ob, 3, none⟩ (.slice none 0 0)).heap[ob]? = some (.cells #[.string ⟨#[]⟩, .slice none 0 0, .slice none 0 0, .slice none 0 0, .slice none 0 0, .slice none 0 0, .slice none 0 0, .slice none 0 0, .slice none 0 0] 32 (0, 0)) := heap_setCell_same b2 3 _
  have b4 : (((((X.setCell ⟨ob, 0, none⟩ (.string ⟨#[]⟩)).setCell ⟨ob, 1, none⟩ (.slice none 0 0)).setCell ⟨ob, 2, none⟩ (.slice none 0 0)).setCell ⟨ob, 3, none⟩ (.slice none 0 0)).setCell ⟨ob, 4, none⟩ (.slice none 0 0)).heap[ob]? = some (.cells #[.string ⟨#[]⟩, .slice none 0 0, .slice none 0 0, .slice none 0 0, .slice none 0 0, .slice none 0 0, .slice none 0 0, .slice none 0 0, .slice none 0 0] 32 (0, 0)) := heap_setCell_same b3 4 _
  have b5 : ((((((X.setCell ⟨ob, 0, none⟩ (.string ⟨#[]⟩)).setCell ⟨ob, 1, none⟩ (.slice none 0 0)).setCell ⟨ob, 2, none⟩ (.slice none 0 0)).setCell ⟨ob, 3, none⟩ (.slice none 0 0)).setCell ⟨ob, 4, none⟩ (.slice none 0 0)).setCell ⟨ob, 5, none⟩ (.slice none 0 0)).heap[ob]? = some (.cells #[.string ⟨#[]⟩, .slice none 0 0, .slice none 0 0, .slice none 0 0, .slice none 0 0, .slice none 0 0, .slice none 0 0, .slice none 0 0, .slice none 0 0] 32 (0, 0)) := heap_setCell_same b4 5 _
  have b6 : (((((((X.setCell ⟨ob, 0, none⟩ (.string ⟨#[]⟩)).setCell ⟨ob, 1, none⟩ (.slice none 0 0)).setCell ⟨ob, 2, none⟩ (.slice none 0 0)).setCell ⟨ob, 3, none⟩ (.slice none 0 0)).setCell ⟨ob, 4, none⟩ (.slice none 0 0)).setCell ⟨ob, 5, none⟩ (.slice none 0 0)).setCell ⟨ob, 6, none⟩ (.slice none 0 0)).heap[ob]? = some (.cells #[.string ⟨#[]⟩, .slice none 0 0, .slice none 0 0, .slice none 0 0, .slice none 0 0, .slice none 0 0, .slice none 0 0, .slice none 0 0, .slice none 0 0] 32 (0, 0)) := heap_setCell_same b5 6 _
  have b7 : ((((((((X.setCell ⟨ob, 0, none⟩ (.string ⟨#[]⟩)).setCell ⟨ob, 1, none⟩ (.slice none 0 0)).setCell ⟨ob, 2, none⟩ (.slice none 0 0)).setCell ⟨ob, 3, none⟩ (.slice none 0 0)).setCell ⟨ob, 4, none⟩ (.slice none 0 0)).setCell ⟨ob, 5, none⟩ (.slice none 0 0)).setCell ⟨ob, 6, none⟩ (.slice none 0 0)).setCell ⟨ob, 7, none⟩ (.slice none 0 0)).heap[ob]? = some (.cells #[.string ⟨#[]⟩, .slice none 0 0, .slice none 0 0, .slice none 0 0, .slice none 0 0, .slice none 0 0, .slice none 0 0, .slice none 0 0, .slice none 0 0] 32 (0, 0)) := heap_setCell_same b6 7 _
  have b8 : (((((((((X.setCell ⟨ob, 0, none⟩ (.string ⟨#[]⟩)).setCell ⟨ob, 1, none⟩ (.slice none 0 0)).setCell ⟨ob, 2, none⟩ (.slice none 0 0)).setCell ⟨ob, 3, none⟩ (.slice none 0 0)).setCell ⟨ob, 4, none⟩ (.slice none 0 0)).setCell ⟨ob, 5, none⟩ (.slice none 0 0)).setCell ⟨ob, 6, none⟩ (.slice none 0 0)).setCell ⟨ob, 7, none⟩ (.slice none 0 0)).setCell ⟨ob, 8, none⟩ (.slice none 0 0)).heap[ob]? = some (.cells #[.string ⟨#[]⟩, .slice none 0 0, .slice none 0 0, .slice none 0 0, .slice none 0 0, .slice none 0 0, .slice none 0 0, .slice none 0 0, .slice none 0 0] 32 (0, 0)) := heap_setCell_same b7 8 _
  obtain ⟨Y, hY⟩ : ∃ Y, (((((((((X.setCell ⟨ob, 0, none⟩ (.string ⟨#[]⟩)).setCell ⟨ob, 1, none⟩ (.slice none 0 0)).setCell ⟨ob, 2, none⟩ (.slice none 0 0)).setCell ⟨ob, 3, none⟩ (.slice none 0 0)).setCell ⟨ob, 4, none⟩ (.slice none 0 0)).setCell ⟨ob, 5, none⟩ (.slice none 0 0)).setCell ⟨ob, 6, none⟩ (.slice none 0 0)).setCell ⟨ob, 7, none⟩ (.slice none 0 0)).setCell ⟨ob, 8, none⟩ (.slice none 0 0)) = Y := ⟨_, rfl⟩
  have hfar : ∀ i, i ≠ ob → Y.heap[i]? = X.heap[i]? := fun i hi => by
    rw [← hY]
    iterate 9 rw [Below.heap_setCell _ ⟨ob, _, none⟩ _ i hi]
  rw [hY] at b8 k10
  rw [hY]
  have kd := Keep.drew k10
  refine ⟨rfl, kd, ?_, ?_, ?_⟩
  · show ((Y.setCell ⟨eb, 0, none⟩ _).setCell ⟨ab, 0, none⟩ _).heap[ob]? = _
    rw [Below.heap_setCell _ ⟨ab, 0, none⟩ _ ob h13, Below.heap_setCell _ ⟨eb, 0, none⟩ _ ob h12]; exact b8
  · show ((Y.setCell ⟨eb, 0, none⟩ _).setCell ⟨ab, 0, none⟩ _).heap[eb]? = _
    rw [Below.heap_setCell _ ⟨ab, 0, none⟩ _ eb h23]
    exact heap_setCell_same ((hfar eb h21).trans HXE.out) 0 _
  · exact heap_setCell_same (((Below.heap_setCell Y ⟨eb, 0, none⟩ _ ab h32).trans (hfar ab h31)).trans HXA.out) 0 _
end Go.Proofs.YtcakgennlliejaaGreatDoor
/- syntax.Parse (printed by gen_parse.py) -/
namespace Go.Proofs.YtcakgennlliejaaGreatDoor
open Go.Shelf Go.RowKit Go.Lib
open Go.Proofs.YtcakgennlliejaaGreatDoorW.PrintWords
open Go.Proofs.YtcakgennlliejaaGreatDoor.PSyntaxJoined
open Sx
set_option linter.unusedVariables false
set_option linter.unusedSimpArgs false
def Sx.toks (l : List S48) : List Tok := l.map fun x => ⟨x.f0, x.f1, x.f2⟩
def Sx.noStt : Stt := ⟨⟨#[]⟩, [], [], [], [], [], [], [], []⟩
/-- what Parse answers -/
def Sx.PrsIs (cal : ByteArray → Int × Int) (X : Lx) (n : Int) (st : Stt) (er a : Int) : Prop :=
  (X.e ≠ 0 ∧ st = noStt ∧ er = X.e ∧ a = X.at_) ∨ (X.e = 0 ∧ ∃ rb A c, match (⟨rb, A, c, toks X.l, n⟩ : Env).statute cal 0 with
    | .ok s _ => st = s ∧ er = 0 ∧ a = n
    | .bad e b => st = noStt ∧ er = e ∧ a = b)
theorem Sx.sttR_nil (base : Nat) (w : World) : sttR base noStt (.agg #[.string ⟨#[]⟩, .slice none 0 0, .slice none 0 0, .slice none 0 0, .slice none 0 0, .slice none 0 0, .slice none 0 0, .slice none 0 0, .slice none 0 0]) w :=
  ⟨fun _ => 0, ⟨.slice none 0 0, .slice none 0 0, .slice none 0 0, .slice none 0 0, .slice none 0 0, .slice none 0 0, .slice none 0 0, .slice none 0 0⟩, rfl, Nat.zero_le _, Kd.R_nil _ _ _ _ _, Kd.R_nil _ _ _ _ _, Kd.R_nil _ _ _ _ _, Kd.R_nil _ _ _ _ _, Kd.R_nil _ _ _ _ _, Kd.R_nil _ _ _ _ _, Kd.R_nil _ _ _ _ _, Kd.R_nil _ _ _ _ _⟩
set_option maxHeartbeats 1000000 in
set_option maxRecDepth 100000 in
theorem Sx.parse_results (tmps : Array Value) (w : World) (ob eb ab : Nat) (cs : Array Value) (hcs : cs.size = 9) (er a : Int) (h2 : tmps.getD 2 undef = .pointer (some ⟨ob, 0, none⟩)) (h3 : tmps.getD 3 undef = .pointer (some ⟨eb, 0, none⟩)) (h4 : tmps.getD 4 undef = .pointer (some ⟨ab, 0, none⟩))
    (ho : w.heap[ob]? = some (.cells cs 32 (0, 0))) (he : w.heap[eb]? = some (.cells #[.int .i64 er] 33 (0, 0))) (ha : w.heap[ab]? = some (.cells #[.int .i64 a] 3 (0, 0))) :
    (results Tryz.f8 tmps).run Tryz.prog w = .ok (.tuple #[.agg cs, .int .i64 er, .int .i64 a]) w := by
  have r1 := run_loadVar_row (P := Tryz.prog) w ob 32 32 cs (0, 0) _ ho Tryz.underlying32 rfl (by rw [hcs]; kernel_rfl)
  have c1 := blk_cell (v := .int .i64 er) he 0 rfl
  have c2 := blk_cell (v := .int .i64 a) ha 0 rfl
  have r2 : (loadVar 33 ⟨eb, 0, none⟩).run Tryz.prog w = .ok (.int .i64 er) w := by simp [go_sem, c1]
  have r3 : (loadVar 3 ⟨ab, 0, none⟩).run Tryz.prog w = .ok (.int .i64 a) w := by simp [go_sem, c2]
  unfold results
  rw [show (Tryz.f8).results = [ResultVar.cell 2 32, .cell 3 33, .cell 4 3].toArray from rfl, List.mapM_toArray]
  generalize Tryz.prog = P at *
  simp only [Array.getD_eq_getD_getElem?] at h2 h3 h4
  simp [List.mapM_cons, h2, h3, h4, asAddr, r1, r2, r3]
theorem Sx.toks_next (l : List S48) (i : Nat) : (toks l).getD i noTok = ⟨(l.getD i z48).f0, (l.getD i z48).f1, (l.getD i z48).f2⟩ := by
  unfold toks
  rw [List.getD_eq_getElem?_getD, List.getD_eq_getElem?_getD, List.getElem?_map]
  cases l[i]? <;> rfl
theorem Sx.sttR_move {base b2 : Nat} {st : Stt} {x : Value} {w w1 : World} (h : sttR base st x w) (hb : b2 ≤ base) (hm : ∀ i, base ≤ i → w1.heap[i]? = w.heap[i]?) : sttR b2 st x w1 := by
  obtain ⟨own, v, e, hl, g1, g2, g3, g4, g5, g6, g7, g8⟩ := h
  have hr : ∀ {j : Nat} {α : Type} {d : Kd α} {e : Nat} {y : Value} {l : List α}, Kd.R d e w base (fun k => base ≤ k ∧ own k = j) y l → Kd.R d e w1 b2 (fun k => b2 ≤ k ∧ own k = j) y l := fun hr =>
    Kd.R_lower (Kd.R_mono (Kd.R_step hr (fun i hi _ => hm i hi.1)) (fun k hk => ⟨Nat.le_trans hb hk.1, hk.2⟩)) hb
  exact ⟨own, v, e, hl, hr g1, hr g2, hr g3, hr g4, hr g5, hr g6, hr g7, hr g8⟩
theorem Sx.below_keep {B : Nat} {F : Nat → Prop} {w X Y : World} (h : Below B w X) (hB : B ≤ X.heap.size) (k : Keep F X Y) (hF : ∀ i, F i → B ≤ i) : Below B w Y :=
  ⟨k.os.trans h.os, k.tape.trans h.tape, k.output.trans h.output, Nat.le_trans h.size k.size, fun i hi => (k.block i (Nat.lt_of_lt_of_le hi hB) (fun e => absurd (hF i e) (Nat.not_le_of_lt hi))).trans (h.block i hi)⟩
/-- the reader that Parse makes -/
theorem Sx.Rd.made {X1 : World} {l : List S48} {A1 : Option Addr} {c1 base : Nat} {ok : Nat → Prop} (E : Int) (hx : Kd.R k48 48 X1 base ok (.slice A1 l.length c1) l) (hl : l.length ≤ 65536) (hz : ∀ x ∈ l, x.f1.size ≤ 65536) (hg : ∃ m, X1.cell? ⟨0, 0, none⟩ = some (.int .i64 m)) :
    Rd (X1.alloc (.cells #[Value.slice A1 l.length c1, .int .i64 0, .int .i64 E] 62)) ⟨X1.heap.size, A1, c1, toks l, E⟩ 0 := by
  have hn : (toks l).length = l.length := by unfold toks; rw [List.length_map]
  have hb := heap_alloc_new X1 (.cells #[Value.slice A1 l.length c1, .int .i64 0, .int .i64 E] 62)
  have hbb : Below X1.heap.size X1 (X1.alloc (.cells #[Value.slice A1 l.length c1, .int .i64 0, .int .i64 E] 62)) := (Below.refl _ X1).alloc (Nat.le_refl _) _
  refine ⟨?_, ?_, ?_, blk_free hb 1, fun i hi => ?_, by rw [hn]; exact hl, Nat.zero_le _, fun i => ?_, hg.imp fun m hm => keep_cell hm hbb⟩
  · show _ = some (Value.slice A1 (toks l).length c1)
    rw [hn]; exact blk_cell hb 0 rfl
  · exact blk_cell hb 1 rfl
  · exact blk_cell hb 2 rfl
  · rw [show (⟨X1.heap.size, A1, c1, toks l, E⟩ : Env).T.length = l.length from hn] at hi
    obtain ⟨A7, c7, e7, _, hC⟩ := Kd.R_reads hx
    injection e7 with e8 _ _
    subst e8
    obtain ⟨ad, ea, h0, h1, h2⟩ := at_T48 hC (i : Int) (by omega) (by omega)
    have hnx : (⟨X1.heap.size, A1, c1, toks l, E⟩ : Env).next i = ⟨(rd_T48 l i).f0, (rd_T48 l i).f1, (rd_T48 l i).f2⟩ := Sx.toks_next l i
    rw [hnx]
    refine ⟨ad, ea, fun e => ?_, keep_cell h0 hbb, keep_cell h1 hbb, keep_cell h2 hbb⟩
    have h3 := World.block_lt_of_cell? _ _ h0
    rw [Sx.add_block] at h3
    simp only at e
    omega
  · show ((toks l).getD i noTok).t.size ≤ 65536
    rw [Sx.toks_next]
    show (l.getD i z48).f1.size ≤ 65536
    rw [List.getD_eq_getElem?_getD]
    cases h : l[i]? with
    | none => exact Nat.zero_le _
    | some x => exact hz x (List.mem_of_getElem? h)
set_option maxHeartbeats 8000000 in
set_option maxRecDepth 100000 in
theorem sparse_err (cal : ByteArray → Int × Int)
    (hC : ∀ s w, Calls Tryz.prog 108 #[.string s] w fun e w' => e = .returned (.tuple #[.int .i64 (cal s).1, .int .i64 (cal s).2]) ∧ Below w.heap.size w w')
    (s : ByteArray) (X : Lx) (hL : ∀ w, (∃ m, w.cell? ⟨0, 0, none⟩ = some (.int .i64 m)) → Calls Tryz.prog 17 #[.string s] w fun e w' => ∃ x, e = .returned (.tuple #[x, .int .i64 X.e, .int .i64 X.at_]) ∧ Kd.R k48 48 w' w.heap.size (fun k => w.heap.size ≤ k) x X.l ∧ Below w.heap.size w w')
    (hz : X.l.length ≤ 65536 ∧ ∀ x ∈ X.l, x.f1.size ≤ 65536) (he : X.e ≠ 0)
    (w : World) (hg : ∃ m, w.cell? ⟨0, 0, none⟩ = some (.int .i64 m)) :
    Calls Tryz.prog 8 #[.string s] w fun e w' => Below w.heap.size w w' ∧ ∃ x er a st, e = .returned (.tuple #[x, .int .i64 er, .int .i64 a]) ∧ sttR w.heap.size st x w' ∧ PrsIs cal X s.size st er a := by
  have hmf : ∀ (fn : Fn) (first cap : Array Value) (w : World), (Instr.makeFunc fn first cap).run Tryz.prog w = .ok (.func fn first cap) w := fun _ _ _ _ => rfl
  obtain ⟨X0, hX0⟩ : ∃ X, ((w.alloc (.cells #[.string ⟨#[]⟩, .slice none 0 0, .slice none 0 0, .slice none 0 0, .slice none 0 0, .slice none 0 0, .slice none 0 0, .slice none 0 0, .slice none 0 0] 32)).alloc (.cells #[.int .i64 0] 33)).alloc (.cells #[.int .i64 0] 3) = X := ⟨_, rfl⟩
  have hb0 : Below w.heap.size w X0 := by rw [← hX0]; exact (((Below.refl _ w).alloc (Nat.le_refl _) _).alloc (by rw [World.size_alloc]; omega) _).alloc (by rw [World.size_alloc, World.size_alloc]; omega) _
  obtain ⟨ob, hob⟩ : ∃ n, w.heap.size = n := ⟨_, rfl⟩
  obtain ⟨eb, heb⟩ : ∃ n, ob + 1 = n := ⟨_, rfl⟩
  obtain ⟨ab, hab⟩ : ∃ n, eb + 1 = n := ⟨_, rfl⟩
  have hs0 : X0.heap.size = ab + 1 := by rw [← hX0]; simp only [World.size_alloc]; omega
  have ho0 : X0.heap[ob]? = some (.cells #[.string ⟨#[]⟩, .slice none 0 0, .slice none 0 0, .slice none 0 0, .slice none 0 0, .slice none 0 0, .slice none 0 0, .slice none 0 0, .slice none 0 0] 32 (0, 0)) := by
    rw [← hX0, ← hob]
    exact (((Below.refl _ _).alloc (Nat.le_refl _) _).block _ (by simp only [World.size_alloc]; omega)).trans ((((Below.refl _ _).alloc (Nat.le_refl _) _).block _ (by simp only [World.size_alloc]; omega)).trans (heap_alloc_new w _))
  have he0 : X0.heap[eb]? = some (.cells #[.int .i64 0] 33 (0, 0)) := by
    rw [← hX0, ← heb, ← hob]
    have h := heap_alloc_new (w.alloc (.cells #[.string ⟨#[]⟩, .slice none 0 0, .slice none 0 0, .slice none 0 0, .slice none 0 0, .slice none 0 0, .slice none 0 0, .slice none 0 0, .slice none 0 0] 32)) (.cells #[.int .i64 0] 33)
    rw [World.size_alloc] at h
    exact (((Below.refl _ _).alloc (Nat.le_refl _) _).block _ (by simp only [World.size_alloc]; omega)).trans h
  have ha0 : X0.heap[ab]? = some (.cells #[.int .i64 0] 3 (0, 0)) := by
    rw [← hX0, ← hab, ← heb, ← hob]
    have h := heap_alloc_new ((w.alloc (.cells #[.string ⟨#[]⟩, .slice none 0 0, .slice none 0 0, .slice none 0 0, .slice none 0 0, .slice none 0 0, .slice none 0 0, .slice none 0 0, .slice none 0 0] 32)).alloc (.cells #[.int .i64 0] 33)) (.cells #[.int .i64 0] 3)
    rw [World.size_alloc, World.size_alloc] at h
    exact h
  have hg0 : ∃ m, X0.cell? ⟨0, 0, none⟩ = some (.int .i64 m) := hg.imp fun m hm => keep_cell hm hb0
  have HGW := Lib.hid hg
  have HT := Lib.hid (hL X0 hg0)
  have HC := Lib.hid hC
  have HG := Lib.hid hg0
  have HB0 := Lib.hid hb0
  have HO0 := Lib.hid ho0
  have HE0 := Lib.hid he0
  have HA0 := Lib.hid ha0
  have HS0 := Lib.hid hs0
  have HNN := Lib.hid (show ob ≠ eb ∧ ob ≠ ab ∧ eb ≠ ab by omega)
  clear hb0 ho0 he0 ha0 hg0 hg hC hL hs0
  go_enter_defers Tryz.func8, Tryz.ntmps8
  go_upto_region 1 with (fail)
  try rw [hX0]
  clear hX0
  go_upto_region 2 with (first | (go_at_call 17; refine HT.out.mono ?_; rintro e w2 ⟨x, rfl, hx, hb2⟩; obtain ⟨A1, c1, rfl⟩ := Kd.R_slice hx; have HB2 := Lib.hid hb2; have HX2 := Lib.hid hx; have HE2 := Lib.hid ((hb2.block eb (by rw [HS0.out]; omega)).trans HE0.out); have HA2 := Lib.hid ((hb2.block ab (by rw [HS0.out]; omega)).trans HA0.out); have y1 := blk_cell (v := .int .i64 0) HE2.out 0 rfl; have g1 := blk_free HE2.out 0; have y2 := blk_cell (v := .int .i64 0) HA2.out 0 rfl; have g2 := blk_free HA2.out 0; have n1 : eb ≠ ab := HNN.out.2.2; have n2 : ab ≠ eb := Ne.symm HNN.out.2.2; clear hx hb2))
  clear y1 g1 y2 g2 n1 n2
  obtain ⟨X1, hX1⟩ : ∃ Y, (w2.setCell ⟨eb, 0, none⟩ (.int .i64 X.e)).setCell ⟨ab, 0, none⟩ (.int .i64 X.at_) = Y := ⟨_, rfl⟩
  have HS2 := Lib.hid (show ab + 1 ≤ w2.heap.size by have := HB2.out.size; rw [HS0.out] at this; exact this)
  have HW := Lib.hid (show w.heap.size = ob ∧ ob + 1 = eb ∧ eb + 1 = ab from ⟨hob, heb, hab⟩)
  have HB1 := Lib.hid (show Below w.heap.size w X1 by rw [← hX1]; exact ((HB0.out.trans (HB2.out.mono HB0.out.size)).setCell (p := ⟨eb, 0, none⟩) (by rw [hob]; simp only; omega) _).setCell (p := ⟨ab, 0, none⟩) (by rw [hob]; simp only; omega) _)
  have HS1 := Lib.hid (show X1.heap.size = w2.heap.size by rw [← hX1]; rw [World.size_setCell, World.size_setCell])
  have HO1 := Lib.hid (show X1.heap[ob]? = some (.cells #[.string ⟨#[]⟩, .slice none 0 0, .slice none 0 0, .slice none 0 0, .slice none 0 0, .slice none 0 0, .slice none 0 0, .slice none 0 0, .slice none 0 0] 32 (0, 0)) by rw [← hX1, Below.heap_setCell _ ⟨ab, 0, none⟩ _ ob HNN.out.2.1, Below.heap_setCell _ ⟨eb, 0, none⟩ _ ob HNN.out.1]; exact (HB2.out.block ob (by rw [HS0.out]; omega)).trans HO0.out)
  have HE1 := Lib.hid (show X1.heap[eb]? = some (.cells #[.int .i64 X.e] 33 (0, 0)) by rw [← hX1, Below.heap_setCell _ ⟨ab, 0, none⟩ _ eb HNN.out.2.2]; exact heap_setCell_same HE2.out 0 _)
  have HA1 := Lib.hid (show X1.heap[ab]? = some (.cells #[.int .i64 X.at_] 3 (0, 0)) by rw [← hX1]; exact heap_setCell_same ((Below.heap_setCell _ ⟨eb, 0, none⟩ _ ab (Ne.symm HNN.out.2.2)).trans HA2.out) 0 _)
  have HX1 := Lib.hid (show Kd.R k48 48 X1 (ab + 1) (fun k => ab + 1 ≤ k) (.slice A1 X.l.length c1) X.l by rw [← hX1]; have h := HX2.out; rw [HS0.out] at h; exact Kd.R_far (Kd.R_far h (p := ⟨eb, 0, none⟩) (fun k hk => by simp only; omega) _) (p := ⟨ab, 0, none⟩) (fun k hk => by simp only; omega) _)
  try rw [hX1]
  clear hX1 HB2 HX2 HE2 HA2 HO0 HE0 HA0 HB0 HT
  have ye := blk_cell (v := .int .i64 X.e) HE1.out 0 rfl
  have fe := blk_free HE1.out 0
  have ya := blk_cell (v := .int .i64 X.at_) HA1.out 0 rfl
  have fa := blk_free HA1.out 0
  have ee : (X.e != 0) = true := by simpa using he
  have o0 := blk_cell (v := .string ⟨#[]⟩) HO1.out 0 rfl
  have p0 := blk_free HO1.out 0
  have o1 := blk_cell (v := .slice none 0 0) HO1.out 1 rfl
  have p1 := blk_free HO1.out 1
  have o2 := blk_cell (v := .slice none 0 0) HO1.out 2 rfl
  have p2 := blk_free HO1.out 2
  have o3 := blk_cell (v := .slice none 0 0) HO1.out 3 rfl
  have p3 := blk_free HO1.out 3
  have o4 := blk_cell (v := .slice none 0 0) HO1.out 4 rfl
  have p4 := blk_free HO1.out 4
  have o5 := blk_cell (v := .slice none 0 0) HO1.out 5 rfl
  have p5 := blk_free HO1.out 5
  have o6 := blk_cell (v := .slice none 0 0) HO1.out 6 rfl
  have p6 := blk_free HO1.out 6
  have o7 := blk_cell (v := .slice none 0 0) HO1.out 7 rfl
  have p7 := blk_free HO1.out 7
  have o8 := blk_cell (v := .slice none 0 0) HO1.out 8 rfl
  have p8 := blk_free HO1.out 8
  go_upto_region 3 with (fail)
  have h12 : ob ≠ eb := HNN.out.1
  have h13 : ob ≠ ab := HNN.out.2.1
  have h23 : eb ≠ ab := HNN.out.2.2
  have h21 : eb ≠ ob := Ne.symm h12
  have h31 : ab ≠ ob := Ne.symm h13
  have h32 : ab ≠ eb := Ne.symm h23
  have ks : ∀ (W : World) (b : Nat) (u v : Value), W.cell? ⟨b, 0, none⟩ = some u → (W.setCell ⟨b, 0, none⟩ v).cell? ⟨b, 0, none⟩ = some v := fun W b u v h => World.cell?_setCell_same _ _ _ h
  have kf : ∀ (W : World) (b c j : Nat) (v : Value), b ≠ c → (W.setCell ⟨b, j, none⟩ v).cell? ⟨c, 0, none⟩ = W.cell? ⟨c, 0, none⟩ := fun W b c j v h => World.cell?_setCell_far _ _ _ _ h
  have kd : ∀ (W : World) (c : Nat), W.drew.cell? ⟨c, 0, none⟩ = W.cell? ⟨c, 0, none⟩ := fun W c => rfl
  go_region_held3 (fun w' => w'.cell? ⟨eb, 0, none⟩ = some (.int .i64 X.e) ∧ w'.cell? ⟨ab, 0, none⟩ = some (.int .i64 X.at_)) (first | go_keep | (go_split_ands; constructor <;> first | assumption | (rw [kd]; assumption) | (exact ks _ _ _ _ (by assumption)) | (rw [kf _ _ _ _ _ h12]; assumption) | (rw [kf _ _ _ _ _ h13]; assumption) | (rw [kf _ _ _ _ _ h23]; assumption) | (rw [kf _ _ _ _ _ h32]; assumption) | (iterate 9 rw [kf _ _ _ _ _ h12]); assumption | (iterate 9 rw [kf _ _ _ _ _ h13]); assumption)) (fail)
  go_wp2_with fail

  have hW1 : w.heap.size ≤ ob := by have := HW.out; omega
  have hW2 : w.heap.size ≤ eb := by have := HW.out; omega
  have hW3 : w.heap.size ≤ ab := by have := HW.out; omega
  have b0 : (X1.setCell ⟨ob, 0, none⟩ (.string ⟨#[]⟩)).heap[ob]? = some (.cells #[.string ⟨#[]⟩, .slice none 0 0, .slice none 0 0, .slice none 0 0, .slice none 0 0, .slice none 0 0, .slice none 0 0, .slice none 0 0, .slice none 0 0] 32 (0, 0)) := heap_setCell_same HO1.out 0 _
  have bb0 : Below w.heap.size w (X1.setCell ⟨ob, 0, none⟩ (.string ⟨#[]⟩)) := Below.setCell HB1.out (p := ⟨ob, 0, none⟩) hW1 _
  have b1 : ((X1.setCell ⟨ob, 0, none⟩ (.string ⟨#[]⟩)).setCell ⟨ob, 1, none⟩ (.slice none 0 0)).heap[ob]? = some (.cells #[.string ⟨#[]⟩, .slice none 0 0, .slice none 0 0, .slice none 0 0, .slice none 0 0, .slice none 0 0, .slice none 0 0, .slice none 0 0, .slice none 0 0] 32 (0, 0)) := heap_setCell_same b0 1 _
  have bb1 : Below w.heap.size w ((X1.setCell ⟨ob, 0, none⟩ (.string ⟨#[]⟩)).setCell ⟨ob, 1, none⟩ (.slice none 0 0)) := Below.setCell bb0 (p := ⟨ob, 1, none⟩) hW1 _
  have b2 : (((X1.setCell ⟨ob, 0, none⟩ (.string ⟨#[]⟩)).setCell ⟨ob, 1, none⟩ (.slice none 0 0)).setCell ⟨ob, 2, none⟩ (.slice none 0 0)).heap[ob]? = some (.cells #[.string ⟨#[]⟩, .slice none 0 0, .slice none 0 0, .slice none 0 0, .slice none 0 0, .slice none 0 0, .slice none 0 0, .slice none 0 0, .slice none 0 0] 32 (0, 0)) := heap_setCell_same b1 2 _
  have bb2 : Below w.heap.size w (((X1.setCell ⟨ob, 0, none⟩ (.string ⟨#[]⟩)).setCell ⟨ob, 1, none⟩ (.slice none 0 0)).setCell ⟨ob, 2, none⟩ (.slice none 0 0)) := Below.setCell bb1 (p := ⟨ob, 2, none⟩) hW1 _
  have b3 : ((((X1.setCell ⟨ob, 0, none⟩ (.string ⟨#[]⟩)).setCell ⟨ob, 1, none⟩ (.slice none 0 0)).setCell ⟨ob, 2, none⟩ (.slice none 0 0)).setCell ⟨ob, 3, none⟩ (.slice none 0 0)).heap[ob]? = some (.cells #[.string ⟨#[]⟩, .slice none 0 0, .slice none 0 0, .slice none 0 0, .slice none 0 0, .slice none 0 0, .slice none 0 0, .slice none 0 0, .slice none 0 0] 32 (0, 0)) := heap_setCell_same b2 3 _
  have bb3 : Below w.heap.size w ((((X1.setCell ⟨ob, 0, none⟩ (.string ⟨#[]⟩)).setCell ⟨ob, 1, none⟩ (.slice none 0 0)).setCell ⟨ob, 2, none⟩ (.slice none 0 0)).setCell ⟨ob, 3, none⟩ (.slice none 0 0)) := Below.setCell bb2 (p := ⟨ob, 3, none⟩) hW1 _
  have b4 : (((((X1.setCell ⟨ob, 0, none⟩ (.string ⟨#[]⟩)).setCell ⟨ob, 1, none⟩ (.slice none 0 0)).setCell ⟨ob, 2, none⟩ (.slice none 0 0)).setCell ⟨ob, 3, none⟩ (.slice none 0 0)).setCell ⟨ob, 4, none⟩ (.slice none 0 0)).heap[ob]? = some (.cells #[.string ⟨#[]⟩, .slice none 0 0, .slice none 0 0, .slice none 0 0, .slice none 0 0, .slice none 0 0, .slice none 0 0, .slice none 0 0, .slice none 0 0] 32 (0, 0)) := heap_setCell_same b3 4 _
  have bb4 : Below w.heap.size w (((((X1.setCell ⟨ob, 0, none⟩ (.string ⟨#[]⟩)).setCell ⟨ob, 1, none⟩ (.slice none 0 0)).setCell ⟨ob, 2, none⟩ (.slice none 0 0)).setCell ⟨ob, 3, none⟩ (.slice none 0 0)).setCell ⟨ob, 4, none⟩ (.slice none 0 0)) := Below.setCell bb3 (p := ⟨ob, 4, none⟩) hW1 _
  have b5 : ((((((X1.setCell ⟨ob, 0, none⟩ (.string ⟨#[]⟩)).setCell ⟨ob, 1, none⟩ (.slice none 0 0)).setCell ⟨ob, 2, none⟩ (.slice none 0 0)).setCell ⟨ob, 3, none⟩ (.slice none 0 0)).setCell ⟨ob, 4, none⟩ (.slice none 0 0)).setCell ⟨ob, 5, none⟩ (.slice none 0 0)).heap[ob]? = some (.cells #[.string ⟨#[]⟩, .slice none 0 0, .slice none 0 0, .slice none 0 0, .slice none 0 0, .slice none 0 0, .slice none 0 0, .slice none 0 0, .slice none 0 0] 32 (0, 0)) := heap_setCell_same b4 5 _
  have bb5 : Below w.heap.size w ((((((X1.setCell ⟨ob, 0, none⟩ (.string ⟨#[]⟩)).setCell ⟨ob, 1, none⟩ (.slice none 0 0)).setCell ⟨ob, 2, none⟩ (.slice none 0 0)).setCell ⟨ob, 3, none⟩ (.slice none 0 0)).setCell ⟨ob, 4, none⟩ (.slice none 0 0)).setCell ⟨ob, 5, none⟩ (.slice none 0 0)) := Below.setCell bb4 (p := ⟨ob, 5, none⟩) hW1 _
  have b6 : (((((((X1.setCell ⟨ob, 0, none⟩ (.string ⟨#[]⟩)).setCell ⟨ob, 1, none⟩ (.slice none 0 0)).setCell ⟨ob, 2, none⟩ (.slice none 0 0)).setCell ⟨ob, 3, none⟩ (.slice none 0 0)).setCell ⟨ob, 4, none⟩ (.slice none 0 0)).setCell ⟨ob, 5, none⟩ (.slice none 0 0)).setCell ⟨ob, 6, none⟩ (.slice none 0 0)).heap[ob]? = some (.cells #[.string ⟨#[]⟩, .slice none 0 0, .slice none 0 0, .slice none 0 0, .slice none 0 0, .slice none 0 0, .slice none 0 0, .slice none 0 0, .slice none 0 0] 32 (0, 0)) := heap_setCell_same b5 6 _
  have bb6 : Below w.heap.size w (((((((X1.setCell ⟨ob, 0, none⟩ (.string ⟨#[]⟩)).setCell ⟨ob, 1, none⟩ (.slice none 0 0)).setCell ⟨ob, 2, none⟩ (.slice none 0 0)).setCell ⟨ob, 3, none⟩ (.slice none 0 0)).setCell ⟨ob, 4, none⟩ (.slice none 0 0)).setCell ⟨ob, 5, none⟩ (.slice none 0 0)).setCell ⟨ob, 6, none⟩ (.slice none 0 0)) := Below.setCell bb5 (p := ⟨ob, 6, none⟩) hW1 _
  have b7 : ((((((((X1.setCell ⟨ob, 0, none⟩ (.string ⟨#[]⟩)).setCell ⟨ob, 1, none⟩ (.slice none 0 0)).setCell ⟨ob, 2, none⟩ (.slice none 0 0)).setCell ⟨ob, 3, none⟩ (.slice none 0 0)).setCell ⟨ob, 4, none⟩ (.slice none 0 0)).setCell ⟨ob, 5, none⟩ (.slice none 0 0)).setCell ⟨ob, 6, none⟩ (.slice none 0 0)).setCell ⟨ob, 7, none⟩ (.slice none 0 0)).heap[ob]? = some (.cells #[.string ⟨#[]⟩, .slice none 0 0, .slice none 0 0, .slice none 0 0, .slice none 0 0, .slice none 0 0, .slice none 0 0, .slice none 0 0, .slice none 0 0] 32 (0, 0)) := heap_setCell_same b6 7 _
  have bb7 : Below w.heap.size w ((((((((X1.setCell ⟨ob, 0, none⟩ (.string ⟨#[]⟩)).setCell ⟨ob, 1, none⟩ (.slice none 0 0)).setCell ⟨ob, 2, none⟩ (.slice none 0 0)).setCell ⟨ob, 3, none⟩ (.slice none 0 0)).setCell ⟨ob, 4, none⟩ (.slice none 0 0)).setCell ⟨ob, 5, none⟩ (.slice none 0 0)).setCell ⟨ob, 6, none⟩ (.slice none 0 0)).setCell ⟨ob, 7, none⟩ (.slice none 0 0)) := Below.setCell bb6 (p := ⟨ob, 7, none⟩) hW1 _
  have b8 : (((((((((X1.setCell ⟨ob, 0, none⟩ (.string ⟨#[]⟩)).setCell ⟨ob, 1, none⟩ (.slice none 0 0)).setCell ⟨ob, 2, none⟩ (.slice none 0 0)).setCell ⟨ob, 3, none⟩ (.slice none 0 0)).setCell ⟨ob, 4, none⟩ (.slice none 0 0)).setCell ⟨ob, 5, none⟩ (.slice none 0 0)).setCell ⟨ob, 6, none⟩ (.slice none 0 0)).setCell ⟨ob, 7, none⟩ (.slice none 0 0)).setCell ⟨ob, 8, none⟩ (.slice none 0 0)).heap[ob]? = some (.cells #[.string ⟨#[]⟩, .slice none 0 0, .slice none 0 0, .slice none 0 0, .slice none 0 0, .slice none 0 0, .slice none 0 0, .slice none 0 0, .slice none 0 0] 32 (0, 0)) := heap_setCell_same b7 8 _
  have bb8 : Below w.heap.size w (((((((((X1.setCell ⟨ob, 0, none⟩ (.string ⟨#[]⟩)).setCell ⟨ob, 1, none⟩ (.slice none 0 0)).setCell ⟨ob, 2, none⟩ (.slice none 0 0)).setCell ⟨ob, 3, none⟩ (.slice none 0 0)).setCell ⟨ob, 4, none⟩ (.slice none 0 0)).setCell ⟨ob, 5, none⟩ (.slice none 0 0)).setCell ⟨ob, 6, none⟩ (.slice none 0 0)).setCell ⟨ob, 7, none⟩ (.slice none 0 0)).setCell ⟨ob, 8, none⟩ (.slice none 0 0)) := Below.setCell bb7 (p := ⟨ob, 8, none⟩) hW1 _
  obtain ⟨Y, hY⟩ : ∃ Y, (((((((((X1.setCell ⟨ob, 0, none⟩ (.string ⟨#[]⟩)).setCell ⟨ob, 1, none⟩ (.slice none 0 0)).setCell ⟨ob, 2, none⟩ (.slice none 0 0)).setCell ⟨ob, 3, none⟩ (.slice none 0 0)).setCell ⟨ob, 4, none⟩ (.slice none 0 0)).setCell ⟨ob, 5, none⟩ (.slice none 0 0)).setCell ⟨ob, 6, none⟩ (.slice none 0 0)).setCell ⟨ob, 7, none⟩ (.slice none 0 0)).setCell ⟨ob, 8, none⟩ (.slice none 0 0)) = Y := ⟨_, rfl⟩
  have hfar : ∀ i, i ≠ ob → Y.heap[i]? = X1.heap[i]? := fun i hi => by
    rw [← hY]
    iterate 9 rw [Below.heap_setCell _ ⟨ob, _, none⟩ _ i hi]
  rw [hY] at b8 bb8
  rw [hY]
  clear hY
  have fo : ((Y.setCell ⟨eb, 0, none⟩ (.int .i64 X.e)).setCell ⟨ab, 0, none⟩ (.int .i64 X.at_)).heap[ob]? = some (.cells #[.string ⟨#[]⟩, .slice none 0 0, .slice none 0 0, .slice none 0 0, .slice none 0 0, .slice none 0 0, .slice none 0 0, .slice none 0 0, .slice none 0 0] 32 (0, 0)) := by
    rw [Below.heap_setCell _ ⟨ab, 0, none⟩ _ ob h13, Below.heap_setCell _ ⟨eb, 0, none⟩ _ ob h12]; exact b8
  have fe9 : ((Y.setCell ⟨eb, 0, none⟩ (.int .i64 X.e)).setCell ⟨ab, 0, none⟩ (.int .i64 X.at_)).heap[eb]? = some (.cells #[.int .i64 X.e] 33 (0, 0)) := by
    rw [Below.heap_setCell _ ⟨ab, 0, none⟩ _ eb h23]
    exact heap_setCell_same ((hfar eb h21).trans HE1.out) 0 _
  have fa9 : ((Y.setCell ⟨eb, 0, none⟩ (.int .i64 X.e)).setCell ⟨ab, 0, none⟩ (.int .i64 X.at_)).heap[ab]? = some (.cells #[.int .i64 X.at_] 3 (0, 0)) :=
    heap_setCell_same (((Below.heap_setCell Y ⟨eb, 0, none⟩ _ ab h32).trans (hfar ab h31)).trans HA1.out) 0 _
  have hBf : Below w.heap.size w ((Y.setCell ⟨eb, 0, none⟩ (.int .i64 X.e)).setCell ⟨ab, 0, none⟩ (.int .i64 X.at_)) := (bb8.setCell (p := ⟨eb, 0, none⟩) hW2 _).setCell (p := ⟨ab, 0, none⟩) hW3 _
  exact ⟨_, Sx.parse_results _ _ ob eb ab #[.string ⟨#[]⟩, .slice none 0 0, .slice none 0 0, .slice none 0 0, .slice none 0 0, .slice none 0 0, .slice none 0 0, .slice none 0 0, .slice none 0 0] rfl X.e X.at_ rfl rfl rfl fo fe9 fa9, hBf.drew, _, _, _, noStt, rfl, Sx.sttR_nil _ _, .inl ⟨he, rfl, rfl, rfl⟩⟩
set_option maxHeartbeats 8000000 in
set_option maxRecDepth 100000 in
theorem sparse_ok (cal : ByteArray → Int × Int)
    (hC : ∀ s w, Calls Tryz.prog 108 #[.string s] w fun e w' => e = .returned (.tuple #[.int .i64 (cal s).1, .int .i64 (cal s).2]) ∧ Below w.heap.size w w')
    (s : ByteArray) (X : Lx) (hL : ∀ w, (∃ m, w.cell? ⟨0, 0, none⟩ = some (.int .i64 m)) → Calls Tryz.prog 17 #[.string s] w fun e w' => ∃ x, e = .returned (.tuple #[x, .int .i64 X.e, .int .i64 X.at_]) ∧ Kd.R k48 48 w' w.heap.size (fun k => w.heap.size ≤ k) x X.l ∧ Below w.heap.size w w')
    (hz : X.l.length ≤ 65536 ∧ ∀ x ∈ X.l, x.f1.size ≤ 65536) (he : X.e = 0)
    (w : World) (hg : ∃ m, w.cell? ⟨0, 0, none⟩ = some (.int .i64 m)) :
    Calls Tryz.prog 8 #[.string s] w fun e w' => Below w.heap.size w w' ∧ ∃ x er a st, e = .returned (.tuple #[x, .int .i64 er, .int .i64 a]) ∧ sttR w.heap.size st x w' ∧ PrsIs cal X s.size st er a := by
  have HEZ := Lib.hid he
  clear he
  have hmf : ∀ (fn : Fn) (first cap : Array Value) (w : World), (Instr.makeFunc fn first cap).run Tryz.prog w = .ok (.func fn first cap) w := fun _ _ _ _ => rfl
  obtain ⟨X0, hX0⟩ : ∃ X, ((w.alloc (.cells #[.string ⟨#[]⟩, .slice none 0 0, .slice none 0 0, .slice none 0 0, .slice none 0 0, .slice none 0 0, .slice none 0 0, .slice none 0 0, .slice none 0 0] 32)).alloc (.cells #[.int .i64 0] 33)).alloc (.cells #[.int .i64 0] 3) = X := ⟨_, rfl⟩
  have hb0 : Below w.heap.size w X0 := by rw [← hX0]; exact (((Below.refl _ w).alloc (Nat.le_refl _) _).alloc (by rw [World.size_alloc]; omega) _).alloc (by rw [World.size_alloc, World.size_alloc]; omega) _
  obtain ⟨ob, hob⟩ : ∃ n, w.heap.size = n := ⟨_, rfl⟩
  obtain ⟨eb, heb⟩ : ∃ n, ob + 1 = n := ⟨_, rfl⟩
  obtain ⟨ab, hab⟩ : ∃ n, eb + 1 = n := ⟨_, rfl⟩
  have hs0 : X0.heap.size = ab + 1 := by rw [← hX0]; simp only [World.size_alloc]; omega
  have ho0 : X0.heap[ob]? = some (.cells #[.string ⟨#[]⟩, .slice none 0 0, .slice none 0 0, .slice none 0 0, .slice none 0 0, .slice none 0 0, .slice none 0 0, .slice none 0 0, .slice none 0 0] 32 (0, 0)) := by
    rw [← hX0, ← hob]
    exact (((Below.refl _ _).alloc (Nat.le_refl _) _).block _ (by simp only [World.size_alloc]; omega)).trans ((((Below.refl _ _).alloc (Nat.le_refl _) _).block _ (by simp only [World.size_alloc]; omega)).trans (heap_alloc_new w _))
  have he0 : X0.heap[eb]? = some (.cells #[.int .i64 0] 33 (0, 0)) := by
    rw [← hX0, ← heb, ← hob]
    have h := heap_alloc_new (w.alloc (.cells #[.string ⟨#[]⟩, .slice none 0 0, .slice none 0 0, .slice none 0 0, .slice none 0 0, .slice none 0 0, .slice none 0 0, .slice none 0 0, .slice none 0 0] 32)) (.cells #[.int .i64 0] 33)
    rw [World.size_alloc] at h
    exact (((Below.refl _ _).alloc (Nat.le_refl _) _).block _ (by simp only [World.size_alloc]; omega)).trans h
  have ha0 : X0.heap[ab]? = some (.cells #[.int .i64 0] 3 (0, 0)) := by
    rw [← hX0, ← hab, ← heb, ← hob]
    have h := heap_alloc_new ((w.alloc (.cells #[.string ⟨#[]⟩, .slice none 0 0, .slice none 0 0, .slice none 0 0, .slice none 0 0, .slice none 0 0, .slice none 0 0, .slice none 0 0, .slice none 0 0] 32)).alloc (.cells #[.int .i64 0] 33)) (.cells #[.int .i64 0] 3)
    rw [World.size_alloc, World.size_alloc] at h
    exact h
  have hg0 : ∃ m, X0.cell? ⟨0, 0, none⟩ = some (.int .i64 m) := hg.imp fun m hm => keep_cell hm hb0
  have HGW := Lib.hid hg
  have HT := Lib.hid (hL X0 hg0)
  have HC := Lib.hid hC
  have HG := Lib.hid hg0
  have HB0 := Lib.hid hb0
  have HO0 := Lib.hid ho0
  have HE0 := Lib.hid he0
  have HA0 := Lib.hid ha0
  have HS0 := Lib.hid hs0
  have HNN := Lib.hid (show ob ≠ eb ∧ ob ≠ ab ∧ eb ≠ ab by omega)
  clear hb0 ho0 he0 ha0 hg0 hg hC hL hs0
  go_enter_defers Tryz.func8, Tryz.ntmps8
  go_upto_region 1 with (fail)
  try rw [hX0]
  clear hX0
  go_upto_region 2 with (first | (go_at_call 17; refine HT.out.mono ?_; rintro e w2 ⟨x, rfl, hx, hb2⟩; obtain ⟨A1, c1, rfl⟩ := Kd.R_slice hx; have HB2 := Lib.hid hb2; have HX2 := Lib.hid hx; have HE2 := Lib.hid ((hb2.block eb (by rw [HS0.out]; omega)).trans HE0.out); have HA2 := Lib.hid ((hb2.block ab (by rw [HS0.out]; omega)).trans HA0.out); have y1 := blk_cell (v := .int .i64 0) HE2.out 0 rfl; have g1 := blk_free HE2.out 0; have y2 := blk_cell (v := .int .i64 0) HA2.out 0 rfl; have g2 := blk_free HA2.out 0; have n1 : eb ≠ ab := HNN.out.2.2; have n2 : ab ≠ eb := Ne.symm HNN.out.2.2; clear hx hb2))
  clear y1 g1 y2 g2 n1 n2
  obtain ⟨X1, hX1⟩ : ∃ Y, (w2.setCell ⟨eb, 0, none⟩ (.int .i64 X.e)).setCell ⟨ab, 0, none⟩ (.int .i64 X.at_) = Y := ⟨_, rfl⟩
  have HS2 := Lib.hid (show ab + 1 ≤ w2.heap.size by have := HB2.out.size; rw [HS0.out] at this; exact this)
  have HW := Lib.hid (show w.heap.size = ob ∧ ob + 1 = eb ∧ eb + 1 = ab from ⟨hob, heb, hab⟩)
  have HB1 := Lib.hid (show Below w.heap.size w X1 by rw [← hX1]; exact ((HB0.out.trans (HB2.out.mono HB0.out.size)).setCell (p := ⟨eb, 0, none⟩) (by rw [hob]; simp only; omega) _).setCell (p := ⟨ab, 0, none⟩) (by rw [hob]; simp only; omega) _)
  have HS1 := Lib.hid (show X1.heap.size = w2.heap.size by rw [← hX1]; rw [World.size_setCell, World.size_setCell])
  have HO1 := Lib.hid (show X1.heap[ob]? = some (.cells #[.string ⟨#[]⟩, .slice none 0 0, .slice none 0 0, .slice none 0 0, .slice none 0 0, .slice none 0 0, .slice none 0 0, .slice none 0 0, .slice none 0 0] 32 (0, 0)) by rw [← hX1, Below.heap_setCell _ ⟨ab, 0, none⟩ _ ob HNN.out.2.1, Below.heap_setCell _ ⟨eb, 0, none⟩ _ ob HNN.out.1]; exact (HB2.out.block ob (by rw [HS0.out]; omega)).trans HO0.out)
  have HE1 := Lib.hid (show X1.heap[eb]? = some (.cells #[.int .i64 X.e] 33 (0, 0)) by rw [← hX1, Below.heap_setCell _ ⟨ab, 0, none⟩ _ eb HNN.out.2.2]; exact heap_setCell_same HE2.out 0 _)
  have HA1 := Lib.hid (show X1.heap[ab]? = some (.cells #[.int .i64 X.at_] 3 (0, 0)) by rw [← hX1]; exact heap_setCell_same ((Below.heap_setCell _ ⟨eb, 0, none⟩ _ ab (Ne.symm HNN.out.2.2)).trans HA2.out) 0 _)
  have HX1 := Lib.hid (show Kd.R k48 48 X1 (ab + 1) (fun k => ab + 1 ≤ k) (.slice A1 X.l.length c1) X.l by rw [← hX1]; have h := HX2.out; rw [HS0.out] at h; exact Kd.R_far (Kd.R_far h (p := ⟨eb, 0, none⟩) (fun k hk => by simp only; omega) _) (p := ⟨ab, 0, none⟩) (fun k hk => by simp only; omega) _)
  try rw [hX1]
  clear hX1 HB2 HX2 HE2 HA2 HO0 HE0 HA0 HB0 HT
  have ye := blk_cell (v := .int .i64 X.e) HE1.out 0 rfl
  have fe := blk_free HE1.out 0
  have ya := blk_cell (v := .int .i64 X.at_) HA1.out 0 rfl
  have fa := blk_free HA1.out 0
  have ee : (X.e != 0) = false := by rw [HEZ.out]; rfl
  clear fe fa
  go_upto_region 6 with (fail)
  have HRD := Lib.hid (Sx.Rd.made (s.size : Int) HX1.out hz.1 hz.2 (HGW.out.imp fun m hm => keep_cell hm HB1.out))
  have HBA := Lib.hid ((Below.refl _ X1).alloc (Nat.le_refl _) (.cells #[.slice A1 X.l.length c1, .int .i64 0, .int .i64 (s.size : Int)] 62))
  have HLB := Lib.hid (show ob < X1.heap.size ∧ eb < X1.heap.size ∧ ab < X1.heap.size from ⟨blk_lt HO1.out, blk_lt HE1.out, blk_lt HA1.out⟩)
  obtain ⟨rb, hrb⟩ : ∃ n, X1.heap.size = n := ⟨_, rfl⟩
  obtain ⟨X2, hX2⟩ : ∃ Y, X1.alloc (.cells #[.slice A1 X.l.length c1, .int .i64 0, .int .i64 (s.size : Int)] 62) = Y := ⟨_, rfl⟩
  rw [hX2, hrb] at HRD
  rw [hX2] at HBA
  have HB2 := Lib.hid (show Below w.heap.size w X2 from HB1.out.trans (HBA.out.mono HB1.out.size))
  have HRB := Lib.hid (show ob < rb ∧ eb < rb ∧ ab < rb by rw [← hrb]; exact HLB.out)
  have HO2 := Lib.hid ((HBA.out.block ob HLB.out.1).trans HO1.out)
  have HE2 := Lib.hid ((HBA.out.block eb HLB.out.2.1).trans HE1.out)
  have HA2 := Lib.hid ((HBA.out.block ab HLB.out.2.2).trans HA1.out)
  have HL2 := Lib.hid (show ob < X2.heap.size ∧ eb < X2.heap.size ∧ ab < X2.heap.size from ⟨blk_lt HO2.out, blk_lt HE2.out, blk_lt HA2.out⟩)
  try rw [hX2]
  try rw [hrb]
  clear hX2 hrb ye ya
  have HST := Lib.hid (statute_calls ⟨rb, A1, c1, toks X.l, (s.size : Int)⟩ cal HC.out 0 X2 HRD.out)
  have HP := Lib.hid (show ∀ st er a, (match (⟨rb, A1, c1, toks X.l, (s.size : Int)⟩ : Env).statute cal 0 with
    | .ok s2 _ => st = s2 ∧ er = 0 ∧ a = (s.size : Int)
    | .bad e b => st = noStt ∧ er = e ∧ a = b) → PrsIs cal X s.size st er a from fun st er a h => .inr ⟨HEZ.out, rb, A1, c1, h⟩)
  generalize hrs : (⟨rb, A1, c1, toks X.l, (s.size : Int)⟩ : Env).statute cal 0 = rs at HST HP
  clear hrs
  have h12 : ob ≠ eb := HNN.out.1
  have h13 : ob ≠ ab := HNN.out.2.1
  have h23 : eb ≠ ab := HNN.out.2.2
  have h21 : eb ≠ ob := Ne.symm h12
  have h31 : ab ≠ ob := Ne.symm h13
  have h32 : ab ≠ eb := Ne.symm h23
  cases rs with
  | bad er a =>
    go_wp2_with (first | (go_at_call 19; refine HST.out.mono ?_; rintro e w5 ⟨rfl, hk5⟩))
    have hk : ∀ i, i < X2.heap.size → i ≠ rb → w5.heap[i]? = X2.heap[i]? := fun i hi hn => hk5.block i hi (fun e => hn e)
    have HO5 := (hk ob HL2.out.1 (Nat.ne_of_lt HRB.out.1)).trans HO2.out
    have HE5 := (hk eb HL2.out.2.1 (Nat.ne_of_lt HRB.out.2.1)).trans HE2.out
    have HA5 := (hk ab HL2.out.2.2 (Nat.ne_of_lt HRB.out.2.2)).trans HA2.out
    refine leaves_cons (f := 18) (args := #[.pointer (some ⟨ob, 0, none⟩), .pointer (some ⟨eb, 0, none⟩), .pointer (some ⟨ab, 0, none⟩)]) (by simp) (by simp [go_sem]) ?_
    refine (catch_panicking ob eb ab er a h12 h13 h23 X.e X.at_ w5 HO5 HE5 HA5).mono ?_
    rintro e u' w6 ⟨rfl, rfl, hk6, ho6, he6, ha6⟩
    refine ⟨_, Sx.parse_results _ _ ob eb ab #[.string ⟨#[]⟩, .slice none 0 0, .slice none 0 0, .slice none 0 0, .slice none 0 0, .slice none 0 0, .slice none 0 0, .slice none 0 0, .slice none 0 0] rfl er a rfl rfl rfl ho6 he6 ha6, ?_⟩
    refine ⟨Sx.below_keep (Sx.below_keep HB2.out HB2.out.size hk5 (fun i e => by unfold ours at e; have := HRB.out; have := HW.out; simp only at e; omega)) (Nat.le_trans HB2.out.size hk5.size) hk6 (fun i e => by have := HW.out; omega), _, er, a, noStt, rfl, Sx.sttR_nil _ _, HP.out noStt er a ⟨rfl, rfl, rfl⟩⟩
  | ok st q =>
    go_wp2_with (first | (go_at_call 19; refine HST.out.mono ?_; rintro e w5 ⟨x, rfl, hx5, hr5, hk5⟩; obtain ⟨own, ⟨v1, v2, v3, v4, v5, v6, v7, v8⟩, rfl, hlm, g1, g2, g3, g4, g5, g6, g7, g8⟩ := hx5; have ev1 := Kd.R_slice g1; dsimp only at ev1; obtain ⟨B1, d1, rfl⟩ := ev1; have ev2 := Kd.R_slice g2; dsimp only at ev2; obtain ⟨B2, d2, rfl⟩ := ev2; have ev3 := Kd.R_slice g3; dsimp only at ev3; obtain ⟨B3, d3, rfl⟩ := ev3; have ev4 := Kd.R_slice g4; dsimp only at ev4; obtain ⟨B4, d4, rfl⟩ := ev4; have ev5 := Kd.R_slice g5; dsimp only at ev5; obtain ⟨B5, d5, rfl⟩ := ev5; have ev6 := Kd.R_slice g6; dsimp only at ev6; obtain ⟨B6, d6, rfl⟩ := ev6; have ev7 := Kd.R_slice g7; dsimp only at ev7; obtain ⟨B7, d7, rfl⟩ := ev7; have ev8 := Kd.R_slice g8; dsimp only at ev8; obtain ⟨B8, d8, rfl⟩ := ev8; have hk : ∀ i, i < X2.heap.size → i ≠ rb → w5.heap[i]? = X2.heap[i]? := fun i hi hn => hk5.block i hi (fun e => hn e); have HO5 := Lib.hid ((hk ob HL2.out.1 (Nat.ne_of_lt HRB.out.1)).trans HO2.out); have HE5 := Lib.hid ((hk eb HL2.out.2.1 (Nat.ne_of_lt HRB.out.2.1)).trans HE2.out); have HA5 := Lib.hid ((hk ab HL2.out.2.2 (Nat.ne_of_lt HRB.out.2.2)).trans HA2.out); have o0 := blk_cell (v := .string ⟨#[]⟩) HO5.out 0 rfl; have p0 := blk_free HO5.out 0; have o1 := blk_cell (v := .slice none 0 0) HO5.out 1 rfl; have p1 := blk_free HO5.out 1; have o2 := blk_cell (v := .slice none 0 0) HO5.out 2 rfl; have p2 := blk_free HO5.out 2; have o3 := blk_cell (v := .slice none 0 0) HO5.out 3 rfl; have p3 := blk_free HO5.out 3; have o4 := blk_cell (v := .slice none 0 0) HO5.out 4 rfl; have p4 := blk_free HO5.out 4; have o5 := blk_cell (v := .slice none 0 0) HO5.out 5 rfl; have p5 := blk_free HO5.out 5; have o6 := blk_cell (v := .slice none 0 0) HO5.out 6 rfl; have p6 := blk_free HO5.out 6; have o7 := blk_cell (v := .slice none 0 0) HO5.out 7 rfl; have p7 := blk_free HO5.out 7; have o8 := blk_cell (v := .slice none 0 0) HO5.out 8 rfl; have p8 := blk_free HO5.out 8; have q0 := blk_cell (v := .int .i64 X.e) HE5.out 0 rfl; have q1 := blk_free HE5.out 0; have q2 := blk_cell (v := .int .i64 X.at_) HA5.out 0 rfl; have q3 := blk_free HA5.out 0; have HK5 := Lib.hid hk5; have HG5 := Lib.hid (show sttR X2.heap.size st _ w5 from ⟨own, ⟨.slice B1 st.kinds.length d1, .slice B2 st.members.length d2, .slice B3 st.preds.length d3, .slice B4 st.classes.length d4, .slice B5 st.sources.length d5, .slice B6 st.rules.length d6, .slice B7 st.excepts.length d7, .slice B8 st.totals.length d8⟩, rfl, hlm, g1, g2, g3, g4, g5, g6, g7, g8⟩); clear hk hk5 g1 g2 g3 g4 g5 g6 g7 g8))
    clear o0 p0 o1 p1 o2 p2 o3 p3 o4 p4 o5 p5 o6 p6 o7 p7 o8 p8 q0 q1 q2 q3
    have HB5 := Lib.hid (Sx.below_keep HB2.out HB2.out.size HK5.out (fun i e => by unfold ours at e; have := HRB.out; have := HW.out; simp only at e; omega))
    have hW1 : w.heap.size ≤ ob := by have := HW.out; omega
    have hW2 : w.heap.size ≤ eb := by have := HW.out; omega
    have hW3 : w.heap.size ≤ ab := by have := HW.out; omega
    have b0 : (w5.setCell ⟨ob, 0, none⟩ (.string st.title)).heap[ob]? = some (.cells #[.string st.title, .slice none 0 0, .slice none 0 0, .slice none 0 0, .slice none 0 0, .slice none 0 0, .slice none 0 0, .slice none 0 0, .slice none 0 0] 32 (0, 0)) := heap_setCell_same HO5.out 0 _
    have bb0 : Below w.heap.size w (w5.setCell ⟨ob, 0, none⟩ (.string st.title)) := Below.setCell HB5.out (p := ⟨ob, 0, none⟩) hW1 _
    have b1 : ((w5.setCell ⟨ob, 0, none⟩ (.string st.title)).setCell ⟨ob, 1, none⟩ (.slice B1 st.kinds.length d1)).heap[ob]? = some (.cells #[.string st.title, .slice B1 st.kinds.length d1, .slice none 0 0, .slice none 0 0, .slice none 0 0, .slice none 0 0, .slice none 0 0, .slice none 0 0, .slice none 0 0] 32 (0, 0)) := heap_setCell_same b0 1 _
    have bb1 : Below w.heap.size w ((w5.setCell ⟨ob, 0, none⟩ (.string st.title)).setCell ⟨ob, 1, none⟩ (.slice B1 st.kinds.length d1)) := Below.setCell bb0 (p := ⟨ob, 1, none⟩) hW1 _
    have b2 : (((w5.setCell ⟨ob, 0, none⟩ (.string st.title)).setCell ⟨ob, 1, none⟩ (.slice B1 st.kinds.length d1)).setCell ⟨ob, 2, none⟩ (.slice B2 st.members.length d2)).heap[ob]? = some (.cells #[.string st.title, .slice B1 st.kinds.length d1, .slice B2 st.members.length d2, .slice none 0 0, .slice none 0 0, .slice none 0 0, .slice none 0 0, .slice none 0 0, .slice none 0 0] 32 (0, 0)) := heap_setCell_same b1 2 _
    have bb2 : Below w.heap.size w (((w5.setCell ⟨ob, 0, none⟩ (.string st.title)).setCell ⟨ob, 1, none⟩ (.slice B1 st.kinds.length d1)).setCell ⟨ob, 2, none⟩ (.slice B2 st.members.length d2)) := Below.setCell bb1 (p := ⟨ob, 2, none⟩) hW1 _
    have b3 : ((((w5.setCell ⟨ob, 0, none⟩ (.string st.title)).setCell ⟨ob, 1, none⟩ (.slice B1 st.kinds.length d1)).setCell ⟨ob, 2, none⟩ (.slice B2 st.members.length d2)).setCell ⟨ob, 3, none⟩ (.slice B3 st.preds.length d3)).heap[ob]? = some (.cells #[.string st.title, .slice B1 st.kinds.length d1, .slice B2 st.members.length d2, .slice B3 st.preds.length d3, .slice none 0 0, .slice none 0 0, .slice none 0 0, .slice none 0 0, .slice none 0 0] 32 (0, 0)) := heap_setCell_same b2 3 _
    have bb3 : Below w.heap.size w ((((w5.setCell ⟨ob, 0, none⟩ (.string st.title)).setCell ⟨ob, 1, none⟩ (.slice B1 st.kinds.length d1)).setCell ⟨ob, 2, none⟩ (.slice B2 st.members.length d2)).setCell ⟨ob, 3, none⟩ (.slice B3 st.preds.length d3)) := Below.setCell bb2 (p := ⟨ob, 3, none⟩) hW1 _
    have b4 : (((((w5.setCell ⟨ob, 0, none⟩ (.string st.title)).setCell ⟨ob, 1, none⟩ (.slice B1 st.kinds.length d1)).setCell ⟨ob, 2, none⟩ (.slice B2 st.members.length d2)).setCell ⟨ob, 3, none⟩ (.slice B3 st.preds.length d3)).setCell ⟨ob, 4, none⟩ (.slice B4 st.classes.length d4)).heap[ob]? = some (.cells #[.string st.title, .slice B1 st.kinds.length d1, .slice B2 st.members.length d2, .slice B3 st.preds.length d3, .slice B4 st.classes.length d4, .slice none 0 0, .slice none 0 0, .slice none 0 0, .slice none 0 0] 32 (0, 0)) := heap_setCell_same b3 4 _
    have bb4 : Below w.heap.size w (((((w5.setCell ⟨ob, 0, none⟩ (.string st.title)).setCell ⟨ob, 1, none⟩ (.slice B1 st.kinds.length d1)).setCell ⟨ob, 2, none⟩ (.slice B2 st.members.length d2)).setCell ⟨ob, 3, none⟩ (.slice B3 st.preds.length d3)).setCell ⟨ob, 4, none⟩ (.slice B4 st.classes.length d4)) := Below.setCell bb3 (p := ⟨ob, 4, none⟩) hW1 _
    have b5 : ((((((w5.setCell ⟨ob, 0, none⟩ (.string st.title)).setCell ⟨ob, 1, none⟩ (.slice B1 st.kinds.length d1)).setCell ⟨ob, 2, none⟩ (.slice B2 st.members.length d2)).setCell ⟨ob, 3, none⟩ (.slice B3 st.preds.length d3)).setCell ⟨ob, 4, none⟩ (.slice B4 st.classes.length d4)).setCell ⟨ob, 5, none⟩ (.slice B5 st.sources.length d5)).heap[ob]? = some (.cells #[.string st.title, .slice B1 st.kinds.length d1, .slice B2 st.members.length d2, .slice B3 st.preds.length d3, .slice B4 st.classes.length d4, .slice B5 st.sources.length d5, .slice none 0 0, .slice none 0 0, .slice none 0 0] 32 (0, 0)) := heap_setCell_same b4 5 _
    have bb5 : Below w.heap.size w ((((((w5.setCell ⟨ob, 0, none⟩ (.string st.title)).setCell ⟨ob, 1, none⟩ (.slice B1 st.kinds.length d1)).setCell ⟨ob, 2, none⟩ (.slice B2 st.members.length d2)).setCell ⟨ob, 3, none⟩ (.slice B3 st.preds.length d3)).setCell ⟨ob, 4, none⟩ (.slice B4 st.classes.length d4)).setCell ⟨ob, 5, none⟩ (.slice B5 st.sources.length d5)) := Below.setCell bb4 (p := ⟨ob, 5, none⟩) hW1 _
    have b6 : (((((((w5.setCell ⟨ob, 0, none⟩ (.string st.title)).setCell ⟨ob, 1, none⟩ (.slice B1 st.kinds.length d1)).setCell ⟨ob, 2, none⟩ (.slice B2 st.members.length d2)).setCell ⟨ob, 3, none⟩ (.slice B3 st.preds.length d3)).setCell ⟨ob, 4, none⟩ (.slice B4 st.classes.length d4)).setCell ⟨ob, 5, none⟩ (.slice B5 st.sources.length d5)).setCell ⟨ob, 6, none⟩ (.slice B6 st.rules.length d6)).heap[ob]? = some (.cells #[.string st.title, .slice B1 st.kinds.length d1, .slice B2 st.members.length d2, .slice B3 st.preds.length d3, .slice B4 st.classes.length d4, .slice B5 st.sources.length d5, .slice B6 st.rules.length d6, .slice none 0 0, .slice none 0 0] 32 (0, 0)) := heap_setCell_same b5 6 _
    have bb6 : Below w.heap.size w (((((((w5.setCell ⟨ob, 0, none⟩ (.string st.title)).setCell ⟨ob, 1, none⟩ (.slice B1 st.kinds.length d1)).setCell ⟨ob, 2, none⟩ (.slice B2 st.members.length d2)).setCell ⟨ob, 3, none⟩ (.slice B3 st.preds.length d3)).setCell ⟨ob, 4, none⟩ (.slice B4 st.classes.length d4)).setCell ⟨ob, 5, none⟩ (.slice B5 st.sources.length d5)).setCell ⟨ob, 6, none⟩ (.slice B6 st.rules.length d6)) := Below.setCell bb5 (p := ⟨ob, 6, none⟩) hW1 _
    have b7 : ((((((((w5.setCell ⟨ob, 0, none⟩ (.string st.title)).setCell ⟨ob, 1, none⟩ (.slice B1 st.kinds.length d1)).setCell ⟨ob, 2, none⟩ (.slice B2 st.members.length d2)).setCell ⟨ob, 3, none⟩ (.slice B3 st.preds.length d3)).setCell ⟨ob, 4, none⟩ (.slice B4 st.classes.length d4)).setCell ⟨ob, 5, none⟩ (.slice B5 st.sources.length d5)).setCell ⟨ob, 6, none⟩ (.slice B6 st.rules.length d6)).setCell ⟨ob, 7, none⟩ (.slice B7 st.excepts.length d7)).heap[ob]? = some (.cells #[.string st.title, .slice B1 st.kinds.length d1, .slice B2 st.members.length d2, .slice B3 st.preds.length d3, .slice B4 st.classes.length d4, .slice B5 st.sources.length d5, .slice B6 st.rules.length d6, .slice B7 st.excepts.length d7, .slice none 0 0] 32 (0, 0)) := heap_setCell_same b6 7 _
    have bb7 : Below w.heap.size w ((((((((w5.setCell ⟨ob, 0, none⟩ (.string st.title)).setCell ⟨ob, 1, none⟩ (.slice B1 st.kinds.length d1)).setCell ⟨ob, 2, none⟩ (.slice B2 st.members.length d2)).setCell ⟨ob, 3, none⟩ (.slice B3 st.preds.length d3)).setCell ⟨ob, 4, none⟩ (.slice B4 st.classes.length d4)).setCell ⟨ob, 5, none⟩ (.slice B5 st.sources.length d5)).setCell ⟨ob, 6, none⟩ (.slice B6 st.rules.length d6)).setCell ⟨ob, 7, none⟩ (.slice B7 st.excepts.length d7)) := Below.setCell bb6 (p := ⟨ob, 7, none⟩) hW1 _
    have b8 : (((((((((w5.setCell ⟨ob, 0, none⟩ (.string st.title)).setCell ⟨ob, 1, none⟩ (.slice B1 st.kinds.length d1)).setCell ⟨ob, 2, none⟩ (.slice B2 st.members.length d2)).setCell ⟨ob, 3, none⟩ (.slice B3 st.preds.length d3)).setCell ⟨ob, 4, none⟩ (.slice B4 st.classes.length d4)).setCell ⟨ob, 5, none⟩ (.slice B5 st.sources.length d5)).setCell ⟨ob, 6, none⟩ (.slice B6 st.rules.length d6)).setCell ⟨ob, 7, none⟩ (.slice B7 st.excepts.length d7)).setCell ⟨ob, 8, none⟩ (.slice B8 st.totals.length d8)).heap[ob]? = some (.cells #[.string st.title, .slice B1 st.kinds.length d1, .slice B2 st.members.length d2, .slice B3 st.preds.length d3, .slice B4 st.classes.length d4, .slice B5 st.sources.length d5, .slice B6 st.rules.length d6, .slice B7 st.excepts.length d7, .slice B8 st.totals.length d8] 32 (0, 0)) := heap_setCell_same b7 8 _
    have bb8 : Below w.heap.size w (((((((((w5.setCell ⟨ob, 0, none⟩ (.string st.title)).setCell ⟨ob, 1, none⟩ (.slice B1 st.kinds.length d1)).setCell ⟨ob, 2, none⟩ (.slice B2 st.members.length d2)).setCell ⟨ob, 3, none⟩ (.slice B3 st.preds.length d3)).setCell ⟨ob, 4, none⟩ (.slice B4 st.classes.length d4)).setCell ⟨ob, 5, none⟩ (.slice B5 st.sources.length d5)).setCell ⟨ob, 6, none⟩ (.slice B6 st.rules.length d6)).setCell ⟨ob, 7, none⟩ (.slice B7 st.excepts.length d7)).setCell ⟨ob, 8, none⟩ (.slice B8 st.totals.length d8)) := Below.setCell bb7 (p := ⟨ob, 8, none⟩) hW1 _
    obtain ⟨Y, hY⟩ : ∃ Y, (((((((((w5.setCell ⟨ob, 0, none⟩ (.string st.title)).setCell ⟨ob, 1, none⟩ (.slice B1 st.kinds.length d1)).setCell ⟨ob, 2, none⟩ (.slice B2 st.members.length d2)).setCell ⟨ob, 3, none⟩ (.slice B3 st.preds.length d3)).setCell ⟨ob, 4, none⟩ (.slice B4 st.classes.length d4)).setCell ⟨ob, 5, none⟩ (.slice B5 st.sources.length d5)).setCell ⟨ob, 6, none⟩ (.slice B6 st.rules.length d6)).setCell ⟨ob, 7, none⟩ (.slice B7 st.excepts.length d7)).setCell ⟨ob, 8, none⟩ (.slice B8 st.totals.length d8)) = Y := ⟨_, rfl⟩
    have hfar : ∀ i, i ≠ ob → Y.heap[i]? = w5.heap[i]? := fun i hi => by
      rw [← hY]
      iterate 9 rw [Below.heap_setCell _ ⟨ob, _, none⟩ _ i hi]
    rw [hY] at b8 bb8
    rw [hY]
    clear hY
    have fo : ((Y.setCell ⟨eb, 0, none⟩ (.int .i64 0)).setCell ⟨ab, 0, none⟩ (.int .i64 (s.size : Int))).heap[ob]? = some (.cells #[.string st.title, .slice B1 st.kinds.length d1, .slice B2 st.members.length d2, .slice B3 st.preds.length d3, .slice B4 st.classes.length d4, .slice B5 st.sources.length d5, .slice B6 st.rules.length d6, .slice B7 st.excepts.length d7, .slice B8 st.totals.length d8] 32 (0, 0)) := by
      rw [Below.heap_setCell _ ⟨ab, 0, none⟩ _ ob h13, Below.heap_setCell _ ⟨eb, 0, none⟩ _ ob h12]; exact b8
    have fe9 : ((Y.setCell ⟨eb, 0, none⟩ (.int .i64 0)).setCell ⟨ab, 0, none⟩ (.int .i64 (s.size : Int))).heap[eb]? = some (.cells #[.int .i64 0] 33 (0, 0)) := by
      rw [Below.heap_setCell _ ⟨ab, 0, none⟩ _ eb h23]
      exact heap_setCell_same ((hfar eb h21).trans HE5.out) 0 _
    have fa9 : ((Y.setCell ⟨eb, 0, none⟩ (.int .i64 0)).setCell ⟨ab, 0, none⟩ (.int .i64 (s.size : Int))).heap[ab]? = some (.cells #[.int .i64 (s.size : Int)] 3 (0, 0)) :=
      heap_setCell_same (((Below.heap_setCell Y ⟨eb, 0, none⟩ _ ab h32).trans (hfar ab h31)).trans HA5.out) 0 _
    have hBf : Below w.heap.size w ((Y.setCell ⟨eb, 0, none⟩ (.int .i64 0)).setCell ⟨ab, 0, none⟩ (.int .i64 (s.size : Int))) := (bb8.setCell (p := ⟨eb, 0, none⟩) hW2 _).setCell (p := ⟨ab, 0, none⟩) hW3 _
    refine leaves_cons (f := 18) (args := #[.pointer (some ⟨ob, 0, none⟩), .pointer (some ⟨eb, 0, none⟩), .pointer (some ⟨ab, 0, none⟩)]) (by simp) (by simp [go_sem]) ?_
    refine (catch_idle ob eb ab _).mono ?_
    rintro e u' w6 ⟨rfl, rfl, rfl⟩
    refine ⟨_, Sx.parse_results _ _ ob eb ab #[.string st.title, .slice B1 st.kinds.length d1, .slice B2 st.members.length d2, .slice B3 st.preds.length d3, .slice B4 st.classes.length d4, .slice B5 st.sources.length d5, .slice B6 st.rules.length d6, .slice B7 st.excepts.length d7, .slice B8 st.totals.length d8] rfl 0 (s.size : Int) rfl rfl rfl fo fe9 fa9, ?_⟩
    refine ⟨hBf, _, 0, (s.size : Int), st, rfl, ?_, HP.out st 0 (s.size : Int) ⟨rfl, rfl, rfl⟩⟩
    refine Sx.sttR_move HG5.out HB2.out.size (fun i hi => ?_)
    rw [Below.heap_setCell _ ⟨ab, 0, none⟩ _ i (by have := HL2.out; simp only; omega), Below.heap_setCell _ ⟨eb, 0, none⟩ _ i (by have := HL2.out; simp only; omega)]
    exact hfar i (by have := HL2.out; omega)

set_option maxHeartbeats 8000000 in
set_option maxRecDepth 100000 in
theorem sparse_calls (cal : ByteArray → Int × Int)
    (hC : ∀ s w, Calls Tryz.prog 108 #[.string s] w fun e w' => e = .returned (.tuple #[.int .i64 (cal s).1, .int .i64 (cal s).2]) ∧ Below w.heap.size w w')
    (s : ByteArray) (X : Lx) (hL : ∀ w, (∃ m, w.cell? ⟨0, 0, none⟩ = some (.int .i64 m)) → Calls Tryz.prog 17 #[.string s] w fun e w' => ∃ x, e = .returned (.tuple #[x, .int .i64 X.e, .int .i64 X.at_]) ∧ Kd.R k48 48 w' w.heap.size (fun k => w.heap.size ≤ k) x X.l ∧ Below w.heap.size w w')
    (hz : X.l.length ≤ 65536 ∧ ∀ x ∈ X.l, x.f1.size ≤ 65536)
    (w : World) (hg : ∃ m, w.cell? ⟨0, 0, none⟩ = some (.int .i64 m)) :
    Calls Tryz.prog 8 #[.string s] w fun e w' => Below w.heap.size w w' ∧ ∃ x er a st, e = .returned (.tuple #[x, .int .i64 er, .int .i64 a]) ∧ sttR w.heap.size st x w' ∧ PrsIs cal X s.size st er a := by
  by_cases he : X.e = 0
  · exact sparse_ok cal hC s X hL hz he w hg
  · exact sparse_err cal hC s X hL hz he w hg
end Go.Proofs.YtcakgennlliejaaGreatDoor
/- lexer: scan, Tokens -/
namespace Go.Proofs.YtcakgennlliejaaGreatDoor
open Go.Shelf Go.RowKit Go.Lib
open Go.Proofs.YtcakgennlliejaaGreatDoorW.PrintWords
open Go.Proofs.YtcakgennlliejaaGreatDoor.PSyntaxJoined
open Sx
set_option linter.unusedVariables false
set_option linter.unusedSimpArgs false
namespace Sx
theorem lexM_fuel : ∀ (n n' : Nat) (r : List UInt8) (p : Nat) (l : List S48), r.length ≤ n → r.length ≤ n' → lexM n r p l = lexM n' r p l
  | 0, 0, _, _, _, _, _ => rfl
  | 0, n' + 1, r, p, l, h, _ => by
    have : r = [] := List.length_eq_zero_iff.1 (by omega)
    subst this; rfl
  | n + 1, 0, r, p, l, _, h => by
    have : r = [] := List.length_eq_zero_iff.1 (by omega)
    subst this; rfl
  | n + 1, n' + 1, r, p, l, h1, h2 => by
    unfold lexM
    by_cases hr : r = []
    · rw [if_pos hr, if_pos hr]
    · rw [if_neg hr, if_neg hr]
      have hf := step_fit (p := p) hr
      cases hs : Sx.step r p with
      | go q => rw [hs] at hf; exact lexM_fuel n n' _ q l (by rw [List.length_drop]; have := hf.1; omega) (by rw [List.length_drop]; have := hf.1; omega)
      | rem b q => rw [hs] at hf; exact lexM_fuel n n' _ q l (by rw [List.length_drop]; have := hf.1; omega) (by rw [List.length_drop]; have := hf.1; omega)
      | tok t q => rw [hs] at hf; exact lexM_fuel n n' _ q _ (by rw [List.length_drop]; have := hf.1; omega) (by rw [List.length_drop]; have := hf.1; omega)
      | jam t q => rfl
      | no e a => rfl
def nxt (n : Nat) (r : List UInt8) (p : Nat) (l : List S48) : Stp → Lx
  | .go q => lexM n (r.drop (q - p)) q l
  | .rem _ q => lexM n (r.drop (q - p)) q l
  | .tok t q => lexM n (r.drop (q - p)) q (l ++ [t])
  | .jam _ q => ⟨[], 41, q⟩
  | .no e a => ⟨[], e, a⟩
theorem lexM_succ (n : Nat) (r : List UInt8) (p : Nat) (l : List S48) (hr : r ≠ []) : lexM (n + 1) r p l = nxt n r p l (Sx.step r p) := by
  rw [lexM, if_neg hr]
  cases Sx.step r p <;> rfl
/-- the answer from a place on -/
def lexT (s : ByteArray) (p : Nat) (l : List S48) : Lx := lexM (tl s p).length (tl s p) p l
theorem lexT_end {s : ByteArray} {p : Nat} {l : List S48} (h : ¬ p < s.size) : lexT s p l = ⟨l, 0, p⟩ := by
  unfold lexT
  rw [tl_nil h]
  rfl
theorem tl_ne {s : ByteArray} {p : Nat} (h : p < s.size) : tl s p ≠ [] := by rw [tl_cons h]; exact List.cons_ne_nil _ _
theorem tl_len (s : ByteArray) (p : Nat) : (tl s p).length = s.size - p := by unfold tl; rw [List.length_drop]; rfl
theorem lexT_ok {s : ByteArray} {p : Nat} {l : List S48} {st : Stp} (h : p < s.size) (hst : Sx.step (tl s p) p = st) (hok : st.ok = true) : lexT s p l = lexT s (st.q p) (st.l l) ∧ p < st.q p ∧ st.er 0 = 0 ∧ st.pl 0 = 0 := by
  have hf := step_fit (p := p) (tl_ne h)
  rw [hst] at hf
  have hd : ∀ q, p < q → (tl s p).drop (q - p) = tl s q := fun q hq => by rw [tl_drop, show p + (q - p) = q by omega]
  have hu : lexT s p l = nxt ((tl s p).length - 1) (tl s p) p l st := by
    have hn : (tl s p).length = (tl s p).length - 1 + 1 := by rw [tl_len]; omega
    rw [← hst, ← lexM_succ _ _ _ _ (tl_ne h), ← hn]
    rfl
  have hl := tl_len s p
  cases st with
  | go q => exact ⟨hu.trans (by show lexM _ _ q l = lexT s q l; rw [hd q hf.1]; exact lexM_fuel _ _ _ _ _ (by rw [tl_len, hl]; have := hf.1; omega) (Nat.le_refl _)), hf.1, rfl, rfl⟩
  | rem b q => exact ⟨hu.trans (by show lexM _ _ q l = lexT s q l; rw [hd q hf.1]; exact lexM_fuel _ _ _ _ _ (by rw [tl_len, hl]; have := hf.1; omega) (Nat.le_refl _)), hf.1, rfl, rfl⟩
  | tok t q => exact ⟨hu.trans (by show lexM _ _ q _ = lexT s q (l ++ [t]); rw [hd q hf.1]; exact lexM_fuel _ _ _ _ _ (by rw [tl_len, hl]; have := hf.1; omega) (Nat.le_refl _)), hf.1, rfl, rfl⟩
  | jam t q => cases hok
  | no e a => cases hok
theorem lexT_no {s : ByteArray} {p : Nat} {l : List S48} {st : Stp} (h : p < s.size) (hst : Sx.step (tl s p) p = st) (hok : st.ok = false) : lexT s p l = ⟨[], st.er 0, st.pl 0⟩ ∧ st.er 0 ≠ 0 := by
  have hf := step_fit (p := p) (tl_ne h)
  rw [hst] at hf
  have hu : lexT s p l = nxt ((tl s p).length - 1) (tl s p) p l st := by
    have hn : (tl s p).length = (tl s p).length - 1 + 1 := by rw [tl_len]; omega
    rw [← hst, ← lexM_succ _ _ _ _ (tl_ne h), ← hn]
    rfl
  rw [hu]
  cases st with
  | go q => cases hok
  | rem b q => cases hok
  | tok t q => cases hok
  | jam t q => exact ⟨rfl, by show (41 : Int) ≠ 0; decide⟩
  | no e a => exact ⟨rfl, hf.1⟩
theorem lex_start {s : ByteArray} (h : ¬ 65536 < s.size) : lex s = lexT s 0 [] := by
  unfold lex lexT
  rw [if_neg h]
  have h1 : tl s 0 = s.data.toList := rfl
  rw [h1]
  exact lexM_fuel _ _ _ _ _ (Nat.le_refl _) (Nat.le_refl _)
/-- where a scanner stands -/
def posAt (w : World) (sb : Nat) : Nat := match w.cell? ⟨sb, 1, none⟩ with | some (.int _ n) => n.toNat | _ => 0
theorem posAt_of {w : World} {sb p : Nat} (h : w.cell? ⟨sb, 1, none⟩ = some (.int .i64 p)) : posAt w sb = p := by
  unfold posAt; rw [h]; rfl
/-- what scan hands back -/
def ScanDone (X : Lx) (w : World) (e : Ending) (w' : World) : Prop :=
  e = .returned (.pointer (some ⟨w.heap.size, 0, none⟩)) ∧ Below w.heap.size w w' ∧ ∃ tv, w'.cell? ⟨w.heap.size, 2, none⟩ = some tv ∧ w'.cell? ⟨w.heap.size, 4, none⟩ = some (.int .i64 X.e) ∧ w'.cell? ⟨w.heap.size, 5, none⟩ = some (.int .i64 X.at_) ∧ Kd.R k48 48 w' w.heap.size (fun k => w.heap.size ≤ k) tv X.l
end Sx
set_option maxHeartbeats 1000000 in
set_option maxRecDepth 100000 in
theorem fail0_calls (sb : Nat) (a b c d : Value) (er pl : Int) (e x : Int) (w : World) (h : w.heap[sb]? = some (.cells #[a, b, c, d, .int .i64 er, .int .i64 pl] 108 (0, 0))) :
    Calls Tryz.prog 51 #[.pointer (some ⟨sb, 0, none⟩), .int .i64 e, .int .i64 x] w fun y w' => y = .returned (.bool false) ∧ w' = (w.setCell ⟨sb, 4, none⟩ (.int .i64 e)).setCell ⟨sb, 5, none⟩ (.int .i64 x) := by
  have y4 := blk_cell (v := .int .i64 er) h 4 rfl
  have y5 := blk_cell (v := .int .i64 pl) h 5 rfl
  have f4 := blk_free h 4
  have f5 := blk_free h 5
  clear h
  go_enter Tryz.func51, Tryz.ntmps51
  go_wp2_with fail
  go_ret
  exact ⟨rfl, rfl⟩
set_option maxHeartbeats 8000000 in
set_option maxRecDepth 100000 in
theorem scan_calls (s : ByteArray) (w : World) (hgl : ∃ m, w.cell? ⟨0, 0, none⟩ = some (.int .i64 m)) : Calls Tryz.prog 37 #[.string s] w (ScanDone (lex s) w) := by
  obtain ⟨X, hX⟩ : ∃ X, w.alloc (.cells #[.string s, .int .i64 0, .slice none 0 0, .slice none 0 0, .int .i64 0, .int .i64 0] 108) = X := ⟨_, rfl⟩
  obtain ⟨sb, hsb⟩ : ∃ sb, w.heap.size = sb := ⟨_, rfl⟩
  have HX := Lib.hid hX
  have HSB := Lib.hid hsb
  have HBX := Lib.hid (show Below w.heap.size w X by rw [← hX]; exact (Below.refl _ w).alloc (Nat.le_refl _) _)
  have HBK := Lib.hid (show X.heap[sb]? = some (.cells #[.string s, .int .i64 0, .slice none 0 0, .slice none 0 0, .int .i64 0, .int .i64 0] 108 (0, 0)) by rw [← hX, ← hsb]; exact heap_alloc_new w _)
  have h0 : 0 < sb := by obtain ⟨m, hm⟩ := hgl; have := World.block_lt_of_cell? _ _ hm; simp only at this; omega
  have HGX := Lib.hid (show ∃ m, X.cell? ⟨0, 0, none⟩ = some (.int .i64 m) from hgl.imp fun m hm => keep_cell hm HBX.out)
  have H0 := Lib.hid h0
  clear hX hgl h0
  by_cases hbig : 65536 < s.size
  · have z1 : decide ((65536 : Int) < (s.size : Int)) = true := decide_eq_true (by omega)
    have HL := Lib.hid (show lex s = ⟨[], 5, 0⟩ by unfold lex; rw [if_pos hbig])
    clear hbig
    go_enter Tryz.func37, Tryz.ntmps37
    go_upto_region 2 with (fail)
    try rw [HX.out]
    try rw [hsb]
    have HF := Lib.hid (fail0_calls sb _ _ _ _ 0 0 5 0 X HBK.out)
    clear hsb
    go_wp2_with (first | (go_at_call 51; ((with_reducible refine HF.out.mono ?_); rintro e w8 ⟨rfl, rfl⟩)))
    go_ret
    rw [HL.out]
    have hb4 := heap_setCell_same (heap_setCell_same HBK.out 4 (.int .i64 5)) 5 (.int .i64 0)
    unfold ScanDone
    rw [HSB.out]
    exact ⟨rfl, by rw [← HSB.out]; exact (HBX.out.setCell (p := ⟨w.heap.size, 4, none⟩) (Nat.le_refl _) _).setCell (p := ⟨w.heap.size, 5, none⟩) (Nat.le_refl _) _, _, blk_cell hb4 2 rfl, blk_cell hb4 4 rfl, blk_cell hb4 5 rfl, Kd.R_nil _ _ _ _ _⟩
  · have z1 : decide ((65536 : Int) < (s.size : Int)) = false := decide_eq_false (by omega)
    have HL := Lib.hid (lex_start hbig)
    have HS0 := Lib.hid (show Sn X sb s 0 [] [] 0 0 (.slice none 0 0) (.slice none 0 0) from ⟨HBK.out, Kd.R_nil _ _ _ _ _, Kd.R_nil _ _ _ _ _, by omega, Nat.zero_le _, Nat.le_refl _, Nat.le_refl _⟩)
    clear hbig
    go_enter Tryz.func37, Tryz.ntmps37
    go_upto_region 2 with (fail)
    try rw [HX.out]
    try rw [hsb]
    clear hsb
    go_wp2_with fail
    go_loopw [] (fun wr => ∃ p l rm tv rv, Sn wr sb s p l rm 0 0 tv rv ∧ Keep (sF sb) X wr ∧ lex s = lexT s p l) (fun wr => s.size - posAt wr sb)
    case atStart => exact ⟨0, [], [], _, _, HS0.out, Keep.refl _ _, HL.out⟩
    case round =>
      obtain ⟨p, l, rm, tv, rv, hs, hk, hf⟩ := hrel
      have HK := Lib.hid hk
      have HF := Lib.hid hf
      have HS := Lib.hid hs
      have y1 := blk_cell (v := .int .i64 p) hs.blk 1 rfl
      have HY1 := Lib.hid y1
      by_cases hp : p < s.size
      · have hgw : ∃ m, wr.cell? ⟨0, 0, none⟩ = some (.int .i64 m) := by
          obtain ⟨m, hm⟩ := HGX.out
          refine ⟨m, ?_⟩
          have h0 := H0.out
          have h1 := hk.block 0 (by have := World.block_lt_of_cell? _ _ hm; simp only at this; exact this) (by unfold sF; omega)
          rw [← hm]
          unfold World.cell?
          rw [h1]
        have z2 : decide ((p : Int) < (s.size : Int)) = true := decide_eq_true (by omega)
        have z3 : decide (p < s.size) = true := decide_eq_true hp
        obtain ⟨st, hst⟩ : ∃ st, Sx.step (tl s p) p = st := ⟨_, rfl⟩
        have hN := lnext_calls sb s p l rm 0 0 tv rv hp wr hs hgw
        rw [hst] at hN
        cases hok : st.ok
        · have hno := lexT_no (l := l) hp hst hok
          have HOK := Lib.hid hok
          have hne : (st.er 0 != 0) = true := by simpa using hno.2
          have HNO := Lib.hid hno.1
          clear hno hst hok hp hgw hs hk hf
          rcases hN with ⟨K, eK, hN⟩ | ⟨K, eK, hN⟩
          all_goals
            have HN := Lib.hid hN
            clear hN
            go_upto_region 7 with (first | (go_at_call 52; ((with_reducible refine HN.out.mono ?_); rintro e w2 ⟨rfl, hb2, hc2⟩; have HB2 := Lib.hid hb2; have HC2 := Lib.hid hc2; clear hb2 hc2)) | ((with_reducible refine HC2.out.mono ?_); rintro e w3 ⟨tv3, rv3, rfl, hs3, hk3⟩; rw [HOK.out]; have HS3 := Lib.hid hs3; have HK3 := Lib.hid hk3; have y4 := blk_cell (v := .int .i64 (st.er 0)) hs3.blk 4 rfl; clear hs3 hk3))
            have y2 := blk_cell (v := tv3) HS3.out.blk 2 rfl
            have y3 := blk_cell (v := rv3) HS3.out.blk 3 rfl
            have f2 := blk_free HS3.out.blk 2
            have f3 := blk_free HS3.out.blk 3
            go_wp2_with fail
            go_ret
            have hb9 := heap_setCell_same (heap_setCell_same HS3.out.blk 2 (.slice none 0 0)) 3 (.slice none 0 0)
            have hk9 : Keep (sF sb) X ((w3.setCell ⟨sb, 2, none⟩ (.slice none 0 0)).setCell ⟨sb, 3, none⟩ (.slice none 0 0)) := (((HK.out.trans (Keep.of_below HB2.out : Keep (sF sb) wr w2) (fun _ _ h => h)).trans HK3.out (fun _ _ h => h)).trans (keep_set _) (fun _ _ h => h)).trans (keep_set _) (fun _ _ h => h)
            rw [HF.out, HNO.out]
            unfold ScanDone
            rw [HSB.out]
            exact ⟨rfl, by have h1 := HBX.out; have h2 := HBX.out.size; rw [HSB.out] at h1 h2; exact Sx.below_keep h1 h2 hk9 (fun i hi => hi), _, blk_cell hb9 2 rfl, blk_cell hb9 4 rfl, blk_cell hb9 5 rfl, Kd.R_nil _ _ _ _ _⟩
        · have hyes := lexT_ok (l := l) hp hst hok
          have HOK := Lib.hid hok
          have HNO := Lib.hid hyes
          clear hyes hst hok hp hgw hs hk hf
          rcases hN with ⟨K, eK, hN⟩ | ⟨K, eK, hN⟩
          all_goals
            have HN := Lib.hid hN
            clear hN
            go_wp2_with (first | (go_at_call 52; ((with_reducible refine HN.out.mono ?_); rintro e w2 ⟨rfl, hb2, hc2⟩; have HB2 := Lib.hid hb2; have HC2 := Lib.hid hc2; clear hb2 hc2)) | ((with_reducible refine HC2.out.mono ?_); rintro e w3 ⟨tv3, rv3, rfl, hs3, hk3⟩; rw [HOK.out]; have HS3 := Lib.hid hs3; have HK3 := Lib.hid hk3; have y4 := blk_cell (v := .int .i64 (st.er 0)) hs3.blk 4 rfl; clear hs3 hk3))
            go_roundw
            case rel =>
              have h9 := HS3.out
              rw [HNO.out.2.2.1, HNO.out.2.2.2] at h9
              exact ⟨st.q p, st.l l, st.rm rm, tv3, rv3, h9, (HK.out.trans (Keep.of_below HB2.out : Keep (sF sb) wr w2) (fun _ _ h => h)).trans HK3.out (fun _ _ h => h), HF.out.trans HNO.out.1⟩
            case measure =>
              rw [posAt_of HY1.out, posAt_of (blk_cell (v := .int .i64 (st.q p)) HS3.out.blk 1 rfl)]
              have h1 := HNO.out.2.1
              have h2 := HS3.out.le
              omega
      · have hend := lexT_end (l := l) hp
        have HE := Lib.hid hend
        have HPE := Lib.hid (show p = s.size by have := hs.le; omega)
        have z2 : decide ((p : Int) < (s.size : Int)) = false := decide_eq_false (by omega)
        have z3 : decide (p < s.size) = false := decide_eq_false hp
        have y4 := blk_cell (v := .int .i64 0) hs.blk 4 rfl
        have y5 := blk_cell (v := .int .i64 0) hs.blk 5 rfl
        have f5 := blk_free hs.blk 5
        clear hend hp hs hk hf
        go_wp2_with fail
        go_ret
        have hb9 := heap_setCell_same HS.out.blk 5 (.int .i64 (s.size : Int))
        have hk9 : Keep (sF sb) X (wr.setCell ⟨sb, 5, none⟩ (.int .i64 (s.size : Int))) := HK.out.trans (keep_set _) (fun _ _ h => h)
        rw [HF.out, HE.out, HPE.out]
        unfold ScanDone
        rw [HSB.out]
        refine ⟨rfl, by have h1 := HBX.out; have h2 := HBX.out.size; rw [HSB.out] at h1 h2; exact Sx.below_keep h1 h2 hk9 (fun i hi => hi), _, blk_cell hb9 2 rfl, blk_cell hb9 4 rfl, blk_cell hb9 5 rfl, ?_⟩
        exact Kd.R_lower (Kd.R_mono (HS.out.set 5 _).1 (fun k hk => Nat.le_of_lt hk)) (Nat.le_succ sb)
set_option maxHeartbeats 4000000 in
set_option maxRecDepth 100000 in
theorem tokens_calls (s : ByteArray) (w : World) (hgl : ∃ m, w.cell? ⟨0, 0, none⟩ = some (.int .i64 m)) :
    Calls Tryz.prog 17 #[.string s] w fun e w' => ∃ x, e = .returned (.tuple #[x, .int .i64 (lex s).e, .int .i64 (lex s).at_]) ∧ Kd.R k48 48 w' w.heap.size (fun k => w.heap.size ≤ k) x (lex s).l ∧ Below w.heap.size w w' := by
  have HC := Lib.hid (scan_calls s w hgl)
  generalize lex s = X at HC ⊢
  clear hgl
  go_enter Tryz.func17, Tryz.ntmps17
  go_upto_region 2 with (first | (go_at_call 37; ((with_reducible refine HC.out.mono ?_); rintro e w2 ⟨rfl, hb2, tv, y2, y4, y5, hr2⟩)))
  have HB2 := Lib.hid hb2
  have HR2 := Lib.hid hr2
  clear hb2 hr2
  go_quiet (fail)
  go_wp2_with fail
  go_ret3
  exact ⟨tv, rfl, Kd.R_step HR2.out (fun _ _ _ => rfl), below_drewn HB2.out _⟩
end Go.Proofs.YtcakgennlliejaaGreatDoor
