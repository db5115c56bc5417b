import Derived.Test.YtmdfgiiihmameaaKp
import Derived.Test.YtmdfgiiihmameaaSymA
import Derived.WalkSpells
import Derived.WalkLawsBesides
import Derived.Deep.QuietTactic
import Derived.BigQuiet
import Derived.StringKeys
namespace Go.Proofs.Ytmdfgiiihmameaa
open Go.Shelf Go.RowKit Go.Lib

namespace Sy
/-- names by their bytes -/
def cf (ns : List ByteArray) (x y : Fin ns.length) : Int := Lib.compareBytes ns[x].data.toList ns[y].data.toList
/-- the numbers, by name -/
def order (ns : List ByteArray) : List Nat := ((List.finRange ns.length).mergeSort (fun x y => !(decide (cf ns y x < 0)))).map Fin.val
/-- a text as a key of a map's reading -/
abbrev key (s : ByteArray) : Lit := .string s.data.toList
/-- at which place a name stands -/
def at? (ns : List ByteArray) (s : ByteArray) : Option Nat := ns.idxOf? s
/-- the map's reading answers as the list does -/
structure MapOk (D : DataW Unit) (ns : List ByteArray) : Prop where
  isMap : Maps.IsMap D
  yes : ∀ s i, at? ns s = some i → Maps.has D (key s) = true ∧ D.atKey (key s) (.lit (.int .i64 0)) = .lit (.int .i64 i)
  no : ∀ s, at? ns s = none → Maps.has D (key s) = false ∧ D.atKey (key s) (.lit (.int .i64 0)) = .lit (.int .i64 0)
end Sy

/-- Table p in world W: its blocks, all from B on. -/
structure Tab (B : Nat) (W : World) (p : Nat) (most : Nat) (ns : List ByteArray) (vn : Value) (bm bo : Nat) (od : Int) (sl : Value) (D : DataW Unit) : Prop where
  blk : W.heap[p]? = some (.cells #[.int .i64 most, vn, .map (some bm), .pointer (some ⟨bo, 0, none⟩)] 59 (0, 0))
  hp : B ≤ p
  row : W.ownsRow B 9 1 vn ns.length (ns.map Value.string)
  hbm : B ≤ bm
  map : W.ownsMap (H := Unit) Try.prog 9 (plainElem Try.prog 3) bm ns.length D
  ok : Sy.MapOk D ns
  oblk : W.heap[bo]? = some (.cells #[.int .u32 od, .int .i32 0, .int .u32 0, sl] 74 (0, 0))
  hbo : B ≤ bo
  st : (od = 0 ∧ sl = .slice none 0 0) ∨ (od = 1 ∧ W.ownsRow B 3 1 sl ns.length ((Sy.order ns).map (fun (i : Nat) => Value.int .i64 i)))
  most : ns.length ≤ most ∧ most ≤ 4096
  small : ∀ s ∈ ns, s.size ≤ 32
  nodup : ns.Nodup

/-- What belongs to the table. -/
def Tab.foot (p : Nat) (vn : Value) (bm bo : Nat) (sl : Value) (i : Nat) : Prop := i = p ∨ vn.ownBlock = some i ∨ i = bm ∨ i = bo ∨ sl.ownBlock = some i

theorem Tab.keep {B : Nat} {W W1 : World} {p most : Nat} {ns : List ByteArray} {vn : Value} {bm bo : Nat} {od : Int} {sl : Value} {D : DataW Unit} {F : Nat → Prop} (h : Tab B W p most ns vn bm bo od sl D) (k : Keep F W W1)
    (hn : ∀ i, Tab.foot p vn bm bo sl i → ¬ F i) : Tab B W1 p most ns vn bm bo od sl D where
  blk := k.blk h.blk (hn _ (.inl rfl))
  hp := h.hp
  row := k.row h.row (fun i hi => hn i (.inr (.inl hi)))
  hbm := h.hbm
  map := k.map h.map (hn _ (.inr (.inr (.inl rfl))))
  ok := h.ok
  oblk := k.blk h.oblk (hn _ (.inr (.inr (.inr (.inl rfl)))))
  hbo := h.hbo
  st := h.st.imp id (fun ⟨a, c⟩ => ⟨a, k.row c (fun i hi => hn i (.inr (.inr (.inr (.inr hi)))))⟩)
  most := h.most
  small := h.small
  nodup := h.nodup
theorem Tab.below {B : Nat} {W W1 : World} {p most : Nat} {ns : List ByteArray} {vn : Value} {bm bo : Nat} {od : Int} {sl : Value} {D : DataW Unit} (h : Tab B W p most ns vn bm bo od sl D) (k : Below W.heap.size W W1) : Tab B W1 p most ns vn bm bo od sl D :=
  h.keep (Keep.of_below (F := fun _ => False) k) (fun _ _ => id)
theorem Tab.foot_lt {B : Nat} {W : World} {p most : Nat} {ns : List ByteArray} {vn : Value} {bm bo : Nat} {od : Int} {sl : Value} {D : DataW Unit} (h : Tab B W p most ns vn bm bo od sl D) {i : Nat} (hi : Tab.foot p vn bm bo sl i) : B ≤ i ∧ i < W.heap.size := by
  rcases hi with rfl | hi | rfl | rfl | hi
  · exact ⟨h.hp, blk_lt h.blk⟩
  · exact h.row.lt _ hi
  · exact ⟨h.hbm, h.map.lt⟩
  · exact ⟨h.hbo, blk_lt h.oblk⟩
  · rcases h.st with ⟨_, rfl⟩ | ⟨_, hr⟩
    · simp [Value.ownBlock] at hi
    · exact hr.lt _ hi

theorem map_nil_eq (w : World) (r : Option Nat) : (binOp .eql 56 (.map r) (.map none)).run Try.prog w = .ok (.bool r.isNone) w :=
  run_eql_map_nil w 56 9 3 r Try.underlying56

theorem unmade_nil (w : World) : Calls Try.prog 36 #[.pointer none] w fun e w' => e = .returned (.bool true) ∧ w = w' := by
  have hq := map_nil_eq
  go_enter Try.func36, Try.ntmps36
  go_wp2
  go_ret
  exact ⟨rfl, rfl⟩
theorem unmade_at (p : Nat) (r : Option Nat) (w : World) (hc : w.cell? ⟨p, 2, none⟩ = some (.map r)) :
    Calls Try.prog 36 #[.pointer (some ⟨p, 0, none⟩)] w fun e w' => e = .returned (.bool r.isNone) ∧ w = w' := by
  have hq := map_nil_eq
  go_enter Try.func36, Try.ntmps36
  go_wp2
  go_ret
  exact ⟨rfl, rfl⟩

theorem new_no (m : Int) (w : World) (h : m < 1 ∨ 4096 < m) : Calls Try.prog 7 #[.int .i64 m] w fun e w' => e = .returned (.tuple #[.pointer none, .int .i64 4]) ∧ w = w' := by
  rcases h with h | h
  · have d : decide (m < 1) = true := decide_eq_true h
    go_enter Try.func7, Try.ntmps7
    go_wp2
    go_ret2
    exact ⟨rfl, rfl⟩
  · have d : decide (m < 1) = false := decide_eq_false (by omega)
    have d2 : decide (4096 < m) = true := decide_eq_true (by omega)
    go_enter Try.func7, Try.ntmps7
    go_wp2
    go_ret2
    exact ⟨rfl, rfl⟩

theorem new_yes (m : Nat) (w : World) (h1 : 1 ≤ m) (h2 : m ≤ 4096) : Calls Try.prog 7 #[.int .i64 m] w fun e w' =>
    e = .returned (.tuple #[.pointer (some ⟨w.heap.size + 2, 0, none⟩), .int .i64 0]) ∧ Tab w.heap.size w' (w.heap.size + 2) m [] (.slice none 0 0) w.heap.size (w.heap.size + 1) 0 (.slice none 0 0) (.map []) ∧ Below w.heap.size w w' := by
  have d : decide ((m : Int) < 1) = false := decide_eq_false (by omega)
  have d2 : decide ((4096 : Int) < m) = false := decide_eq_false (by omega)
  have hmm := @run_makeMap Try.prog
  go_enter Try.func7, Try.ntmps7
  go_wp2
  go_ret2
  refine ⟨rfl, ?_, ?_⟩
  · generalize hA : w.alloc (Obj.map #[] 0) = A
    have sA : A.heap.size = w.heap.size + 1 := by rw [← hA]; simp
    have hm : A.ownsMap (H := Unit) Try.prog 9 (plainElem Try.prog 3) w.heap.size 0 (.map []) := by rw [← hA]; exact World.ownsMap_made w _ _ _
    generalize hB : A.alloc (Obj.cells #[Value.int IntKind.u32 0, Value.int IntKind.i32 0, Value.int IntKind.u32 0, Value.slice none 0 0] 74) = C
    have sC : C.heap.size = w.heap.size + 2 := by rw [← hB]; simp [sA]
    have hb : C.heap[w.heap.size + 1]? = some (Obj.cells #[Value.int IntKind.u32 0, Value.int IntKind.i32 0, Value.int IntKind.u32 0, Value.slice none 0 0] 74 (0, 0)) := by rw [← hB, ← sA]; exact heap_alloc_new _ _
    exact {
      blk := by rw [← sC]; exact heap_alloc_new _ _
      hp := by omega
      row := World.ownsRow_nil _ _ _ _
      hbm := Nat.le_refl _
      map := (hB ▸ hm.alloc _ : C.ownsMap (H := Unit) Try.prog 9 (plainElem Try.prog 3) w.heap.size 0 (.map [])).alloc _
      ok := ⟨Maps.isMap_empty, fun s i h => by simp [Sy.at?] at h, fun s _ => ⟨rfl, rfl⟩⟩
      oblk := (Below.heap_alloc _ _ _ (by omega)).trans hb
      hbo := by omega
      st := .inl ⟨rfl, rfl⟩
      most := ⟨Nat.zero_le _, h2⟩
      small := by simp
      nodup := List.nodup_nil }
  · exact (((Below.refl _ _).alloc (Nat.le_refl _) _).alloc (by simp) _).alloc (by simp; omega) _

section
variable {B : Nat} {p most : Nat} {ns : List ByteArray} {vn : Value} {bm bo : Nat} {od : Int} {sl : Value} {D : DataW Unit}
theorem Tab.c0 {W : World} (h : Tab B W p most ns vn bm bo od sl D) : W.cell? ⟨p, 0, none⟩ = some (.int .i64 most) := blk_cell h.blk 0 rfl
theorem Tab.c1 {W : World} (h : Tab B W p most ns vn bm bo od sl D) : W.cell? ⟨p, 1, none⟩ = some vn := blk_cell h.blk 1 rfl
theorem Tab.c2 {W : World} (h : Tab B W p most ns vn bm bo od sl D) : W.cell? ⟨p, 2, none⟩ = some (.map (some bm)) := blk_cell h.blk 2 rfl
theorem Tab.c3 {W : World} (h : Tab B W p most ns vn bm bo od sl D) : W.cell? ⟨p, 3, none⟩ = some (.pointer (some ⟨bo, 0, none⟩)) := blk_cell h.blk 3 rfl
theorem Tab.f {W : World} (h : Tab B W p most ns vn bm bo od sl D) (j : Nat) : W.frozen? ⟨p, j, none⟩ = false := blk_free h.blk j

theorem unmade_tab {w : World} (h : Tab B w p most ns vn bm bo od sl D) : Calls Try.prog 36 #[.pointer (some ⟨p, 0, none⟩)] w fun e w' => e = .returned (.bool false) ∧ w = w' :=
  unmade_at p (some bm) w h.c2

theorem law9 : Maps.Keyed Try.prog 9 := Maps.string_keyed Try.underlying9
theorem zero3 (w : World) : (zeroValue 3).run Try.prog w = .ok (.int .i64 0) w := by kernel_rfl

/-- how 'Find' answers -/
def findV (ns : List ByteArray) (s : ByteArray) : Value := match Sy.at? ns s with | some i => .tuple #[.int .i64 (i : Nat), .bool true] | none => .tuple #[.int .i64 0, .bool false]
theorem i64_lit_inj {a b : Int} (h : (DataW.lit (.int .i64 a) : DataW Unit) = .lit (.int .i64 b)) : b = a := by injection h with h; injection h with _ h; exact h.symm

theorem find_tab (s : ByteArray) (hs : s.size ≤ maxLen) {w : World} (h : Tab B w p most ns vn bm bo od sl D) :
    Calls Try.prog 16 #[.pointer (some ⟨p, 0, none⟩), .string s] w fun e w' => e = .returned (findV ns s) ∧ w = w' := by
  have c2 := h.c2
  have hown := h.map
  have hkey := WideMaps.keyOf_string_mk Try.underlying9 hs
  have hyes := h.ok.yes s
  have hno := h.ok.no s
  have hu := unmade_tab h
  clear h
  unfold findV
  rcases hat : Sy.at? ns s with _ | i
  · obtain ⟨q1, q2⟩ := hno hat
    have Q2 := Lib.hid q2
    clear hyes hno hat q2
    go_enter Try.func16, Try.ntmps16
    go_wp2_with (first | (go_at_call 36; refine hu.mono ?_; rintro e w' ⟨rfl, rfl⟩) | (at_lookup; refine wpList_lookup_own_ok_int _ rfl _ _ 56 rfl 9 3 .i64 law9 Try.underlying56 Try.underlying3 (zero3 _) bm ns.length D rfl hown _ _ rfl hkey ?_; intro c hat2 hwc; have hc := Lib.hid (i64_lit_inj (Q2.out.symm.trans hat2)); clear hat2 hwc))
    go_ret2
    first | exact ⟨rfl, rfl⟩ | exact ⟨by rw [hc.out]; rfl, rfl⟩
  · obtain ⟨q1, q2⟩ := hyes i hat
    have Q2 := Lib.hid q2
    clear hyes hno hat q2
    go_enter Try.func16, Try.ntmps16
    go_wp2_with (first | (go_at_call 36; refine hu.mono ?_; rintro e w' ⟨rfl, rfl⟩) | (at_lookup; refine wpList_lookup_own_ok_int _ rfl _ _ 56 rfl 9 3 .i64 law9 Try.underlying56 Try.underlying3 (zero3 _) bm ns.length D rfl hown _ _ rfl hkey ?_; intro c hat2 hwc; have hc := Lib.hid (i64_lit_inj (Q2.out.symm.trans hat2)); clear hat2 hwc))
    go_ret2
    first | exact ⟨rfl, rfl⟩ | exact ⟨by rw [hc.out]; rfl, rfl⟩

theorem len_tab {w : World} (h : Tab B w p most ns vn bm bo od sl D) :
    Calls Try.prog 20 #[.pointer (some ⟨p, 0, none⟩)] w fun e w' => e = .returned (.int .i64 ns.length) ∧ w = w' := by
  have c1 := h.c1
  obtain ⟨A, c, rfl, hc1, hc2, -⟩ := row_cells h.row
  have hm := h.most
  have hu := unmade_tab h
  clear h
  go_enter Try.func20, Try.ntmps20
  go_wp2_with (first | (go_at_call 36; refine hu.mono ?_; rintro e w' ⟨rfl, rfl⟩))
  go_ret
  exact ⟨rfl, rfl⟩

/-- how 'Name' answers -/
def nameV (ns : List ByteArray) (n : Int) : Value := if n < 0 then .tuple #[.string ByteArray.empty, .int .i64 1] else match ns[n.toNat]? with | some s => .tuple #[.string s, .int .i64 0] | none => .tuple #[.string ByteArray.empty, .int .i64 1]

theorem name_tab (n : Int) {w : World} (h : Tab B w p most ns vn bm bo od sl D) :
    Calls Try.prog 17 #[.pointer (some ⟨p, 0, none⟩), .int .i64 n] w fun e w' => e = .returned (nameV ns n) ∧ w = w' := by
  have c1 := h.c1
  obtain ⟨A, c, rfl, hc1, hc2, hcs⟩ := row_cells h.row
  have hm := h.most
  have hu := unmade_tab h
  clear h
  unfold nameV
  by_cases hn : n < 0
  · have d : decide (n < 0) = true := decide_eq_true hn
    rw [if_pos hn]
    clear hcs
    go_enter Try.func17, Try.ntmps17
    go_wp2_with (first | (go_at_call 36; refine hu.mono ?_; rintro e w' ⟨rfl, rfl⟩))
    go_ret2
    exact ⟨rfl, rfl⟩
  · rw [if_neg hn]
    obtain ⟨k, rfl⟩ := Int.eq_ofNat_of_zero_le (show 0 ≤ n by omega)
    have d : decide ((k : Int) < 0) = false := decide_eq_false (by omega)
    by_cases hk : k < ns.length
    · have d2 : decide ((ns.length : Int) ≤ (k : Int)) = false := decide_eq_false (by omega)
      have d3 : decide (ns.length ≤ k) = false := decide_eq_false (by omega)
      obtain ⟨g, rfl, hcell⟩ := hcs (by omega)
      have e1 : ns[k]? = some ns[k] := List.getElem?_eq_getElem hk
      have hcell2 := hcell k (.string ns[k]) (by simp [hk])
      clear hcell hcs
      have e2 : ns[((k : Int)).toNat]? = some ns[k] := e1
      rw [e2]
      have hk1 : (k : Int) < ns.length := by omega
      have hk2 : (0 : Int) ≤ k := by omega
      obtain ⟨x, hx⟩ : ∃ x, x = ns[k] := ⟨_, rfl⟩
      rw [← hx] at hcell2 ⊢
      clear e1 e2 hx hn
      go_enter Try.func17, Try.ntmps17
      go_wp2_with (first | (go_at_call 36; refine hu.mono ?_; rintro e w' ⟨rfl, rfl⟩))
      go_ret2
      exact ⟨rfl, rfl⟩
    · have d2 : decide ((ns.length : Int) ≤ (k : Int)) = true := decide_eq_true (by omega)
      have d3 : decide (ns.length ≤ k) = true := decide_eq_true (by omega)
      have e1 : ns[((k : Int)).toNat]? = none := List.getElem?_eq_none (by simp; omega)
      rw [e1]
      clear e1 hn hcs
      go_enter Try.func17, Try.ntmps17
      go_wp2_with (first | (go_at_call 36; refine hu.mono ?_; rintro e w' ⟨rfl, rfl⟩))
      go_ret2
      exact ⟨rfl, rfl⟩
end
end Go.Proofs.Ytmdfgiiihmameaa
