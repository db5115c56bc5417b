import Derived.Test.YtmdfgiiihmameaaSymN
import Derived.Deep.RegionHeld3
namespace Go.Proofs.Ytmdfgiiihmameaa
open Go.Shelf Go.RowKit Go.Lib Go.Sort
set_option linter.unusedVariables false
set_option linter.unusedSimpArgs false

/-- A table that no call made, from world w on. -/
def Unm (pv : Value) (w : World) : Prop := ∀ W, Below w.heap.size w W → Calls Try.prog 36 #[pv] W fun e w' => e = .returned (.bool true) ∧ W = w'
theorem unm_nil (w : World) : Unm (.pointer none) w := fun W _ => unmade_nil W
theorem unm_zero (w : World) (z : Nat) (h : w.heap[z]? = some (.cells #[.int .i64 0, .slice none 0 0, .map none, .pointer none] 59 (0, 0))) : Unm (.pointer (some ⟨z, 0, none⟩)) w :=
  fun W hb => unmade_at z none W (blk_cell ((hb.block z (blk_lt h)).trans h) 2 rfl)
theorem Unm.later {pv : Value} {w w1 : World} (h : Unm pv w) (hb : Below w.heap.size w w1) : Unm pv w1 := fun W h2 => h W (hb.trans (h2.mono hb.size))

section
variable {pv : Value} {w : World}
theorem add_un (s : ByteArray) (h : Unm pv w) : Calls Try.prog 15 #[pv, .string s] w fun e w' => e = .returned (.tuple #[.int .i64 0, .int .i64 2]) ∧ w = w' := by
  have hu := Lib.hid (h w (Below.refl _ _))
  clear h
  go_enter Try.func15, Try.ntmps15
  go_wp2_with (first | (go_at_call 36; refine hu.out.mono ?_; rintro e w' ⟨rfl, rfl⟩))
  go_ret2
  exact ⟨rfl, rfl⟩
theorem find_un (s : ByteArray) (h : Unm pv w) : Calls Try.prog 16 #[pv, .string s] w fun e w' => e = .returned (.tuple #[.int .i64 0, .bool false]) ∧ w = w' := by
  have hu := Lib.hid (h w (Below.refl _ _))
  clear h
  go_enter Try.func16, Try.ntmps16
  go_wp2_with (first | (go_at_call 36; refine hu.out.mono ?_; rintro e w' ⟨rfl, rfl⟩))
  go_ret2
  exact ⟨rfl, rfl⟩
theorem name_un (n : Int) (h : Unm pv w) : Calls Try.prog 17 #[pv, .int .i64 n] w fun e w' => e = .returned (.tuple #[.string ByteArray.empty, .int .i64 2]) ∧ w = w' := by
  have hu := Lib.hid (h w (Below.refl _ _))
  clear h
  go_enter Try.func17, Try.ntmps17
  go_wp2_with (first | (go_at_call 36; refine hu.out.mono ?_; rintro e w' ⟨rfl, rfl⟩))
  go_ret2
  exact ⟨rfl, rfl⟩
theorem len_un (h : Unm pv w) : Calls Try.prog 20 #[pv] w fun e w' => e = .returned (.int .i64 0) ∧ w = w' := by
  have hu := Lib.hid (h w (Below.refl _ _))
  clear h
  go_enter Try.func20, Try.ntmps20
  go_wp2_with (first | (go_at_call 36; refine hu.out.mono ?_; rintro e w' ⟨rfl, rfl⟩))
  go_ret
  exact ⟨rfl, rfl⟩
theorem names_un (h : Unm pv w) : Calls Try.prog 19 #[pv] w fun e w' => e = .returned (.slice none 0 0) ∧ w = w' := by
  have hu := Lib.hid (h w (Below.refl _ _))
  clear h
  go_enter Try.func19, Try.ntmps19
  go_wp2_with (first | (go_at_call 36; refine hu.out.mono ?_; rintro e w' ⟨rfl, rfl⟩))
  go_ret
  exact ⟨rfl, rfl⟩
theorem copy_un (h : Unm pv w) : Calls Try.prog 25 #[pv] w fun e w' => e = .returned (.pointer none) ∧ w = w' := by
  have hu := Lib.hid (h w (Below.refl _ _))
  clear h
  go_enter Try.func25, Try.ntmps25
  go_wp2_with (first | (go_at_call 36; refine hu.out.mono ?_; rintro e w' ⟨rfl, rfl⟩))
  go_ret
  exact ⟨rfl, rfl⟩
set_option maxRecDepth 100000 in
theorem sorted_un {r : Option Addr} (h : Unm (.pointer r) w) : Calls Try.prog 18 #[.pointer r] w fun e w' => e = .returned (.slice none 0 0) ∧ Below w.heap.size w w' := by
  have hb : Below w.heap.size w (w.alloc (.cells #[.pointer r] 22)) := (Below.refl _ w).alloc (Nat.le_refl _) _
  have hu := Lib.hid (h _ hb)
  have hc : (w.alloc (.cells #[.pointer r] 22)).cell? ⟨w.heap.size, 0, none⟩ = some (.pointer r) := blk_cell (heap_alloc_new _ _) 0 rfl
  have HB := Lib.hid hb
  clear h hb
  go_enter Try.func18, Try.ntmps18
  go_wp2_with (first | (go_at_call 36; refine hu.out.mono ?_; rintro e w' ⟨rfl, rfl⟩))
  go_ret
  exact ⟨rfl, HB.out⟩

set_option maxHeartbeats 1000000 in
set_option maxRecDepth 100000 in
theorem nothing_calls {r : Option Addr} (h : Unm (.pointer r) w) : Calls Try.prog 26 #[.pointer r] w fun e w' => e = .returned (.bool true) ∧ Below w.heap.size w w' := by
  have H := Lib.hid h
  clear h
  go_enter Try.func26, Try.ntmps26
  go_wp2_with (first | (go_at_call 15; refine (add_un _ H.out).mono ?_; rintro e w' ⟨rfl, rfl⟩) | (go_at_call 16; refine (find_un _ H.out).mono ?_; rintro e w' ⟨rfl, rfl⟩) | (go_at_call 17; refine (name_un _ H.out).mono ?_; rintro e w' ⟨rfl, rfl⟩) | (go_at_call 20; refine (len_un H.out).mono ?_; rintro e w' ⟨rfl, rfl⟩) | (go_at_call 19; refine (names_un H.out).mono ?_; rintro e w' ⟨rfl, rfl⟩) | (go_at_call 13; refine (num_calls _ _).mono ?_; rintro e w' ⟨rfl, rfl⟩))
  refine (sorted_un H.out).mono ?_
  rintro e w1 ⟨rfl, b1⟩
  have H1 := Lib.hid (H.out.later b1)
  have HB := Lib.hid b1
  clear b1
  go_wp2_with (first | (go_at_call 25; refine (copy_un H1.out).mono ?_; rintro e w' ⟨rfl, rfl⟩))
  go_ret
  exact ⟨rfl, HB.out⟩
end

theorem run_makeMap_sized {P : Program} (t k e : TypeId) (h : P.underlying t = some (.map k e)) (q : IntKind) (n : Int) (w : World) : (Instr.makeMap t (some (.int q n))).run P w = .ok (.map (some w.heap.size)) (w.alloc (.map #[] 0)) := by
  simp [Instr.makeMap, run_underlying h]
  rfl
/-- the table's first two cells, in a world and where it has grown -/
structure CellsAt (p most : Nat) (vn : Value) (w : World) : Prop where
  a0 : w.cell? ⟨p, 0, none⟩ = some (.int .i64 most)
  a1 : w.cell? ⟨p, 1, none⟩ = some vn
  b0 : ∀ o, (w.alloc o).cell? ⟨p, 0, none⟩ = some (.int .i64 most)
  b1 : ∀ o, (w.alloc o).cell? ⟨p, 1, none⟩ = some vn
  d0 : ∀ o o', ((w.alloc o).alloc o').cell? ⟨p, 0, none⟩ = some (.int .i64 most)
  d1 : ∀ o o', ((w.alloc o).alloc o').cell? ⟨p, 1, none⟩ = some vn
theorem Tab.cellsAt {B : Nat} {p most : Nat} {ns : List ByteArray} {vn : Value} {bm bo : Nat} {od : Int} {sl : Value} {D : DataW Unit} {w : World} (h : Tab B w p most ns vn bm bo od sl D) : CellsAt p most vn w :=
  have e := fun o => h.below ((Below.refl _ w).alloc (Nat.le_refl _) o)
  have f := fun o o' => (e o).below ((Below.refl _ _).alloc (Nat.le_refl _) o')
  ⟨h.c0, h.c1, fun o => (e o).c0, fun o => (e o).c1, fun o o' => (f o o').c0, fun o o' => (f o o').c1⟩

/-- behind the making of the copy: all is new, the map is empty -/
def Mid (w : World) (most : Nat) (ns : List ByteArray) (v : Value) (W : World) : Prop := ∃ (A1 : Option Addr) (q1 bm bo p : Nat), v = .pointer (some ⟨p, 0, none⟩) ∧
  W.heap[p]? = some (.cells #[.int .i64 most, .slice A1 ns.length q1, .map (some bm), .pointer (some ⟨bo, 0, none⟩)] 59 (0, 0)) ∧ W.ownsRow w.heap.size 9 1 (.slice A1 ns.length q1) ns.length (ns.map Value.string) ∧
  W.heap[bm]? = some (.map #[] 0) ∧ W.heap[bo]? = some (.cells #[.int .u32 0, .int .i32 0, .int .u32 0, .slice none 0 0] 74 (0, 0)) ∧ w.heap.size ≤ p ∧ w.heap.size ≤ bm ∧ w.heap.size ≤ bo ∧ Below w.heap.size w W
theorem mid_of {w X : World} {most : Nat} {ns : List ByteArray} {A1 : Option Addr} {q1 bm bo p : Nat} (hX : Below w.heap.size w X) (hp : p = X.heap.size) (hr : X.ownsRow w.heap.size 9 1 (.slice A1 ns.length q1) ns.length (ns.map Value.string))
    (hm : X.heap[bm]? = some (.map #[] 0)) (ho : X.heap[bo]? = some (.cells #[.int .u32 0, .int .i32 0, .int .u32 0, .slice none 0 0] 74 (0, 0))) (h1 : w.heap.size ≤ bm) (h2 : w.heap.size ≤ bo) :
    Mid w most ns (.pointer (some ⟨p, 0, none⟩)) (X.alloc (.cells #[.int .i64 most, .slice A1 ns.length q1, .map (some bm), .pointer (some ⟨bo, 0, none⟩)] 59)) := by
  subst hp
  exact ⟨A1, q1, bm, bo, _, rfl, heap_alloc_new _ _, hr.alloc _, (Below.heap_alloc _ _ _ (blk_lt hm)).trans hm, (Below.heap_alloc _ _ _ (blk_lt ho)).trans ho, hX.size, h1, h2, hX.alloc hX.size _⟩
theorem at_new {w : World} {o : Obj} {i : Nat} (h : i = w.heap.size) : (w.alloc o).heap[i]? = some o := by subst h; exact heap_alloc_new _ _
theorem at_alloc {w : World} {o o' : Obj} {i : Nat} (h : w.heap[i]? = some o) : (w.alloc o').heap[i]? = some o := (Below.heap_alloc _ _ _ (blk_lt h)).trans h
theorem at_below {w w1 : World} {o : Obj} {i : Nat} (hb : Below w.heap.size w w1) (h : w.heap[i]? = some o) : w1.heap[i]? = some o := (hb.block i (blk_lt h)).trans h

set_option maxHeartbeats 2000000 in
set_option maxRecDepth 100000 in
theorem copy_tab {B : Nat} {p most : Nat} {ns : List ByteArray} {vn : Value} {bm bo : Nat} {od : Int} {sl : Value} {D : DataW Unit} {w : World} (h : Tab B w p most ns vn bm bo od sl D) :
    Calls Try.prog 25 #[.pointer (some ⟨p, 0, none⟩)] w fun e w' => ∃ p' F', e = .returned (.pointer (some ⟨p', 0, none⟩)) ∧ TabF w.heap.size F' w' p' most ns ∧ Below w.heap.size w w' := by
  obtain ⟨a0, a1, b0, b1, d0, d1⟩ := h.cellsAt
  have hu := Lib.hid (unmade_tab h)
  have hm := h.most
  have hrow := Lib.hid h.row
  have hC : ∀ W, Below w.heap.size w W → Calls Try.prog 43 #[vn] W fun e w' => ∃ A' c', e = .returned (.slice A' ns.length c') ∧ (w'.ownsRow w.heap.size 9 1 (.slice A' ns.length c') ns.length (ns.map Value.string) ∧ Below W.heap.size W w' ∧ Below w.heap.size w W) ∧ CellsAt p most vn w' := fun W hb =>
    (clone_strs B vn ns W (((Keep.of_below (F := fun _ => False) hb)).row hrow.out (fun _ _ => id)) (by omega)).mono fun e w' ⟨v, he, hr, hb2⟩ => by
      obtain ⟨A', c', rfl⟩ := row_slice hr
      exact ⟨A', c', he, ⟨row_mono hr hb.size, hb2, hb⟩, ((h.below hb).below hb2).cellsAt⟩
  obtain ⟨A, c, rfl⟩ := row_slice h.row
  have HC := Lib.hid hC
  have hmm := fun n w => run_makeMap_sized (P := Try.prog) 56 9 3 Try.underlying56 .i64 n w
  clear hC
  go_enter Try.func25, Try.ntmps25
  go_upto_region 3 with (first | (go_at_call 36; refine hu.out.mono ?_; rintro e w' ⟨rfl, rfl⟩))
  go_cut [3] (fun v3 wc => Mid w most ns v3 wc)
  case first =>
    go_wp2_with (fail)
    go_region_held3 (fun w' => w'.cell? ⟨p, 0, none⟩ = some (.int .i64 most) ∧ w'.cell? ⟨p, 1, none⟩ = some (.slice A ns.length c))
      (first | go_keep | exact ⟨e0, e1⟩ | exact ⟨f0 _, f1 _⟩ | exact ⟨g0 _ _, g1 _ _⟩ | exact ⟨b0 _, b1 _⟩ | exact ⟨d0 _ _, d1 _ _⟩)
      ((go_at_call 43; refine (HC.out _ (by first | exact Below.refl _ _ | exact (Below.refl _ _).drew | exact ((Below.refl _ _).alloc (Nat.le_refl _) _).drew | exact (((Below.refl _ _).alloc (Nat.le_refl _) _).alloc (by simp) _).drew | exact ((Below.refl _ _).drew.alloc (Nat.le_refl _) _) | exact (((Below.refl _ _).drew.alloc (Nat.le_refl _) _).alloc (by simp) _))).mono ?_; rintro e w1 ⟨A1, q1, rfl, hr, e0, e1, f0, f1, g0, g1⟩; have HR1 := Lib.hid hr; clear hr))
    all_goals (go_wp2; go_meet)
    all_goals
      have bw : Below w.heap.size w w1 := HR1.out.2.2.trans (HR1.out.2.1.mono HR1.out.2.2.size)
      have bs := bw.size
      refine mid_of ?_ (by simp) ?_ ?_ ?_ ?_ ?_
      · first | exact bw | exact bw.alloc bw.size _ | exact (bw.alloc bw.size _).alloc (Nat.le_trans bw.size (by simp)) _
      · first | exact HR1.out.1 | exact HR1.out.1.alloc _ | exact (HR1.out.1.alloc _).alloc _
      · first | exact at_new (by simp; done) | exact at_alloc (at_new (by simp; done)) | exact at_below HR1.out.2.1 (at_new (by simp; done)) | exact at_alloc (at_below HR1.out.2.1 (at_new (by simp; done))) | exact at_below HR1.out.2.1 (at_alloc (at_new (by simp; done)))
      · first | exact at_new (by simp; done) | exact at_alloc (at_new (by simp; done)) | exact at_below HR1.out.2.1 (at_new (by simp; done)) | exact at_alloc (at_below HR1.out.2.1 (at_new (by simp; done))) | exact at_below HR1.out.2.1 (at_alloc (at_new (by simp; done)))
      · omega
      · omega
  case rest =>
    obtain ⟨A1, q1, bm', bo', p', rfl, hblk, hrow', hmap, hord, l1, l2, l3, hbel⟩ := hcut
    have hnd := h.nodup
    have hsml := h.small
    have P1 : wc.cell? ⟨p', 1, none⟩ = some (.slice A1 ns.length q1) := blk_cell hblk 1 rfl
    have pm : p' ≠ bm' := blk_ne hblk hmap (by simp)
    have om : bo' ≠ bm' := blk_ne hord hmap (by simp)
    have rm : ∀ k, (Value.slice A1 ns.length q1).ownBlock = some k → ¬ k = bm' := fun k hk e => by
      subst e
      rcases hrow'.2 with ⟨h1, _⟩ | ⟨g, cap, cur, h1, _, hh, _⟩
      · rw [h1] at hk; simp [Value.ownBlock] at hk
      · rw [h1] at hk
        have : g = k := by simpa [Value.ownBlock] using hk
        subst this
        rw [hmap] at hh; cases hh
    have hown0 : wc.ownsMap (H := Unit) Try.prog 9 (plainElem Try.prog 3) bm' 0 (.map []) := ⟨#[], 0, hmap, ⟨by simp, MapKept.stamped_empty 0, by simp⟩, Nat.le_refl _, rfl⟩
    obtain ⟨A2, q2, he, hq1, hq2, hcs⟩ := cell_str hrow'
    injection he with he1 he2 he3
    subst he1
    subst he3
    have HB := Lib.hid hblk
    have HR := Lib.hid hrow'
    have HO := Lib.hid hord
    have HE := Lib.hid hbel
    have HCS := Lib.hid hcs
    have HN := Lib.hid hnd
    have HS := Lib.hid hsml
    have HM0 := Lib.hid hown0
    clear hblk hrow' hord hbel hmap hown0 hcs hnd hsml h HC hmm hu a0 a1 b0 b1 d0 d1 hrow he2
    go_wp2_with (fail)
    go_loopw [32] (fun v wr => ∃ (k : Nat) (D' : DataW Unit), k ≤ ns.length ∧ v = .int .i64 k ∧ wr.ownsMap (H := Unit) Try.prog 9 (plainElem Try.prog 3) bm' k D' ∧ Sy.MapOk D' (ns.take k) ∧ Keep (fun i => i = bm') wc wr) (fun v _ => ns.length - (intOf v).toNat)
    case atStart => exact ⟨0, .map [], Nat.zero_le _, rfl, HM0.out, ⟨Maps.isMap_empty, fun s i h => by simp [Sy.at?] at h, fun s _ => ⟨rfl, rfl⟩⟩, Keep.refl _ _⟩
    case round =>
      obtain ⟨k, D', hk, rfl, hown, hok, hkeep⟩ := hrel
      have HOK := Lib.hid hok
      have HK := Lib.hid hkeep
      clear hok hkeep
      by_cases hlt : k < ns.length
      · have t1 : (k : Int) < ns.length := by omega
        have t2 : (0 : Int) ≤ k := by omega
        obtain ⟨g, rfl, hc⟩ := HCS.out (by omega)
        have hcell : wr.cell? ⟨g, k, none⟩ = some (.string ns[k]) := HK.out.cell (hc ⟨k, hlt⟩) (rm g rfl)
        have hcp : wr.cell? ⟨p', 2, none⟩ = some (.map (some bm')) := HK.out.cell (blk_cell HB.out 2 rfl) pm
        have hnone : Sy.at? (ns.take k) ns[k] = none := by
          unfold Sy.at? List.idxOf?
          rw [List.findIdx?_eq_none_iff]
          intro x hx
          rw [beq_bytes]
          refine decide_eq_false (fun e => ?_)
          subst e
          obtain ⟨j, hj, hj2⟩ := List.getElem_of_mem hx
          rw [List.length_take] at hj
          rw [List.getElem_take] at hj2
          have := (List.getElem_inj HN.out).1 hj2
          omega
        have hput := mapOk_put HOK.out hnone
        have htk : ns.take k ++ [ns[k]] = ns.take (k + 1) := by rw [List.take_succ_eq_append_getElem hlt]
        rw [htk, List.length_take, Nat.min_eq_left hk] at hput
        have hkey := WideMaps.keyOf_string_mk Try.underlying9 (s := ns[k]) (by have := HS.out ns[k] (List.getElem_mem hlt); unfold maxLen; omega)
        have HP := Lib.hid hput
        clear hc hnone hput htk
        generalize ns[k] = s at *
        go_wp2_with (first | (at_mapUpdate; refine wpList_mapUpdate_in _ rfl _ _ _ 56 rfl 9 3 law9 Try.underlying56 _ bm' k D' rfl hown (by unfold maxLen; omega) _ _ _ rfl rfl hkey (.lit (.int .i64 k)) [] (plainElem_int Try.underlying3 (wf_nat _ (by omega))) ?_; intro w2 hown2 hturn2))
        go_roundw
        case rel => exact ⟨k + 1, _, by omega, by go_num, hown2, HP.out, HK.out.grown hturn2.grown (fun j hj _ => (Option.some.inj hj).symm)⟩
        case measure => simp [intOf]; omega
      · obtain rfl : k = ns.length := by omega
        go_wp2
        go_ret
        have hT : Tab w.heap.size wr p' most ns (.slice A1 ns.length q1) bm' bo' 0 (.slice none 0 0) D' := {
          blk := HK.out.blk HB.out pm
          hp := l1
          row := HK.out.row HR.out rm
          hbm := l2
          map := hown
          ok := by have := HOK.out; rwa [List.take_length] at this
          oblk := HK.out.blk HO.out om
          hbo := l3
          st := .inl ⟨rfl, rfl⟩
          most := hm
          small := HS.out
          nodup := HN.out }
        exact ⟨p', _, rfl, hT.toF, HE.out.trans (HK.out.toBelow HE.out.size (fun i hi => by omega))⟩

theorem copy_f {B : Nat} {F : Nat → Prop} {p most : Nat} {ns : List ByteArray} {w : World} (h : TabF B F w p most ns) :
    Calls Try.prog 25 #[.pointer (some ⟨p, 0, none⟩)] w fun e w' => ∃ p' F', e = .returned (.pointer (some ⟨p', 0, none⟩)) ∧ TabF w.heap.size F' w' p' most ns ∧ Below w.heap.size w w' := by
  obtain ⟨⟨vn, bm, bo, od, sl, D, h1, h2⟩, h3⟩ := h
  exact copy_tab h1
end Go.Proofs.Ytmdfgiiihmameaa
