import Derived.Test.YtgabkgomjdlgnaaDoorMonA
import Derived.Test.YtgabkgomjdlgnaaDoorShelf
import Derived.Lib.AsciiSet
import Derived.Lib.Strings
import Derived.Lib.Walk
import Derived.Deep.WholeRow
import Derived.Lib.Builder
import Derived.Laws.Strings3
import Derived.RegionTactic
import Derived.Deep.RegionWith
namespace Go.Proofs.YtgabkgomjdlgnaaDoor
open Go.RowKit Go.Lib
set_option linter.unusedVariables false
set_option linter.unusedSimpArgs false

set_option maxHeartbeats 2000000 in
set_option maxRecDepth 1000000 in
/-- the leading bytes that are in the set are cut off -/
theorem trimLeftASCII_calls (s : ByteArray) (l : List UInt8) (b : Nat) (w : World) (hc : ∀ x : UInt8, w.cell? ⟨b, x.toNat, none⟩ = some (.bool (l.contains x))) :
    Calls Tryd.prog 73 #[.string s, .pointer (some ⟨b, 0, none⟩)] w fun e w' => e = .returned (.string ⟨(s.data.toList.dropWhile (fun x => l.contains x)).toArray⟩) ∧ w = w' := by
  have HC := Lib.hid hc
  clear hc
  go_enter Tryd.func73, Tryd.ntmps73
  go_wp2
  go_loopw [0] (fun v wr => ∃ k : Nat, k ≤ s.size ∧ v = .string ⟨(s.data.toList.drop k).toArray⟩ ∧ s.data.toList.dropWhile (fun x => l.contains x) = (s.data.toList.drop k).dropWhile (fun x => l.contains x) ∧ wr = w) (fun v _ => Lib.strSize v)
  case atStart => exact ⟨0, Nat.zero_le _, by simp, by simp⟩
  case round =>
    obtain ⟨k, hk, rfl, hd, rfl⟩ := hrel
    have hts : (⟨(s.data.toList.drop k).toArray⟩ : ByteArray).size = s.size - k := by rw [Lib.size_mk, List.length_drop, ← Lib.size_eq]
    have HD := Lib.hid hd
    have hx1 : (⟨(s.data.toList.drop k).toArray⟩ : ByteArray).extract 1 (s.size - k) = ⟨(s.data.toList.drop (k + 1)).toArray⟩ := by
      rw [Lib.extract_mk, List.drop_drop, List.take_of_length_le (by simp; omega)]
    clear hd
    by_cases h0 : k < s.size
    · have hkl : k < s.data.toList.length := by rw [← Lib.size_eq]; exact h0
      obtain ⟨x, hx⟩ : ∃ x, s.data.toList[k]? = some x := ⟨_, List.getElem?_eq_getElem hkl⟩
      have hdrop : s.data.toList.drop k = x :: s.data.toList.drop (k + 1) := by
        rw [List.drop_eq_getElem_cons hkl]; congr; rw [List.getElem?_eq_getElem hkl] at hx; exact Option.some.inj hx
      have hb0 : ∀ h, (⟨(s.data.toList.drop k).toArray⟩ : ByteArray)[0]'h = x := fun h => by
        have := Lib.getElem_mk (s.data.toList.drop k) 0 h
        rw [List.getElem?_drop] at this
        rw [Nat.add_zero, hx] at this
        exact (Option.some.inj this).symm
      have HDR := Lib.hid hdrop
      clear hdrop hx
      generalize ht : (⟨(s.data.toList.drop k).toArray⟩ : ByteArray) = t at hts hb0 hx1 ⊢
      have HT := Lib.hid ht
      clear ht
      have h1 : 0 < t.size := by omega
      have h2 : (0 : Int) < (t.size : Int) := by omega
      have hb1 := hb0 h1
      clear hb0
      have hcon := HC.out x
      cases hin : l.contains x with
      | true =>
        rw [hin] at hcon
        have hA := Lib.hid (Tryd.asciiSet_contains b x true wr hcon)
        have HIN := Lib.hid hin
        clear hcon hin
        go_wp2_with (first | (go_at_call 91; refine hA.out.mono ?_; rintro e w' ⟨rfl, rfl⟩))
        refine ⟨⟨k + 1, by omega, rfl, ?_, trivial⟩, ?_⟩
        · rw [HD.out, HDR.out, List.dropWhile_cons, if_pos (by simpa using HIN.out)]
        · rw [Lib.strSize_string, Lib.strSize_string, Lib.size_mk, List.length_drop, ← Lib.size_eq]; omega
      | false =>
        rw [hin] at hcon
        have hA := Lib.hid (Tryd.asciiSet_contains b x false wr hcon)
        have HIN := Lib.hid hin
        clear hcon hin
        go_wp2_with (first | (go_at_call 91; refine hA.out.mono ?_; rintro e w' ⟨rfl, rfl⟩))
        go_ret
        refine ⟨?_, rfl⟩
        show Ending.returned (Value.string t) = _
        rw [← HT.out, HD.out, HDR.out, List.dropWhile_cons, if_neg (by simpa using HIN.out)]
    · have hk2 : k = s.size := by omega
      have he : s.data.toList.drop k = [] := List.drop_eq_nil_of_le (by rw [← Lib.size_eq]; omega)
      rw [he] at hts hx1 ⊢
      rw [he] at HD
      have h1 : (⟨([] : List UInt8).toArray⟩ : ByteArray).size = 0 := rfl
      clear hx1 hts
      go_wp2
      go_ret
      exact ⟨by rw [HD.out]; rfl, rfl⟩

theorem cell_of_set (w : World) (l : List UInt8) (t : TypeId) (x : UInt8) : (w.alloc (.cells (Lib.setCells l) t)).cell? ⟨w.heap.size, x.toNat, none⟩ = some (.bool (l.contains x)) := blk_cell (heap_alloc_new w _) _ (Lib.setCells_at l x)

def Mo.tens : List UInt8 := [48, 49, 50, 51, 52, 53, 54, 55, 56, 57]
def Mo.tensS : ByteArray := ⟨#[48, 49, 50, 51, 52, 53, 54, 55, 56, 57]⟩
theorem zero104 : ∀ w, (zeroValue 104).run Tryd.prog w = .ok (.agg (Array.replicate 256 (.bool false))) w := fun w => by kernel_rfl

set_option maxHeartbeats 2000000 in
set_option maxRecDepth 1000000 in
theorem trimLeft_calls (s : ByteArray) (w : World) :
    Calls Tryd.prog 54 #[.string s, .string Mo.tensS] w fun e w' => e = .returned (.string ⟨(s.data.toList.dropWhile (fun x => Mo.tens.contains x)).toArray⟩) ∧ Below w.heap.size w w' := by
  have hascii : ∀ (j : Nat) b, (⟨#[48, 49, 50, 51, 52, 53, 54, 55, 56, 57]⟩ : ByteArray).data.toList[j]? = some b → b.toNat < 128 := fun j b hj => by
    have := List.mem_of_getElem? hj
    revert b
    intro b _ hb
    simp at hb
    rcases hb with rfl | rfl | rfl | rfl | rfl | rfl | rfl | rfl | rfl | rfl <;> decide
  have hM := Lib.hid (Tryd.strings_makeASCIISet zero104 ⟨#[48, 49, 50, 51, 52, 53, 54, 55, 56, 57]⟩ w (by decide) hascii)
  clear hascii
  unfold Mo.tensS Mo.tens
  have hsz := Lib.setCells_size [48, 49, 50, 51, 52, 53, 54, 55, 56, 57]
  have hi104 : (Tryd.prog.info? 104).map (·.size) = some 256 := by kernel_rfl
  have hz : Tryd.zeroCells104.size = 256 := by kernel_rfl
  have hsc : (storeCells ⟨w.heap.size + 1, 0, none⟩ (Lib.setCells [48, 49, 50, 51, 52, 53, 54, 55, 56, 57]).toList 0).run Tryd.prog ((w.alloc (.cells (Lib.setCells [48, 49, 50, 51, 52, 53, 54, 55, 56, 57]) 104)).alloc (.cells Tryd.zeroCells104 104)) = .ok () ((w.alloc (.cells (Lib.setCells [48, 49, 50, 51, 52, 53, 54, 55, 56, 57]) 104)).alloc (.cells (Lib.setCells [48, 49, 50, 51, 52, 53, 54, 55, 56, 57]) 104)) := by
    have := run_storeCells_new (P := Tryd.prog) (w.alloc (.cells (Lib.setCells [48, 49, 50, 51, 52, 53, 54, 55, 56, 57]) 104)) 104 Tryd.zeroCells104 (Lib.setCells [48, 49, 50, 51, 52, 53, 54, 55, 56, 57]) (by rw [hsz]; exact hi104) (by rw [hsz, hz]) (Lib.setCells_one _)
    simpa using this
  have hcells : ∀ x : UInt8, ((w.alloc (.cells (Lib.setCells [48, 49, 50, 51, 52, 53, 54, 55, 56, 57]) 104)).alloc (.cells (Lib.setCells [48, 49, 50, 51, 52, 53, 54, 55, 56, 57]) 104)).cell? ⟨w.heap.size + 1, x.toNat, none⟩ = some (.bool ([48, 49, 50, 51, 52, 53, 54, 55, 56, 57].contains x)) := fun x => by
    have := cell_of_set (w.alloc (.cells (Lib.setCells [48, 49, 50, 51, 52, 53, 54, 55, 56, 57]) 104)) [48, 49, 50, 51, 52, 53, 54, 55, 56, 57] 104 x
    simpa using this
  have hT := Lib.hid (trimLeftASCII_calls s [48, 49, 50, 51, 52, 53, 54, 55, 56, 57] (w.heap.size + 1) _ hcells)
  have hb := Lib.hid (((Below.refl w.heap.size w).alloc (Nat.le_refl _) (.cells (Lib.setCells [48, 49, 50, 51, 52, 53, 54, 55, 56, 57]) 104)).alloc (by simp) (.cells (Lib.setCells [48, 49, 50, 51, 52, 53, 54, 55, 56, 57]) 104))
  clear hcells hi104 hz
  cases hs : s.toList.isEmpty with
  | true =>
    have hl : s.data.toList = [] := by rw [← Lib.toList_data]; simpa using hs
    go_enter Tryd.func54, Tryd.ntmps54
    go_wp2
    go_ret
    refine ⟨?_, Below.refl _ _⟩
    have : s = ⟨#[]⟩ := by
      cases s with | mk d => cases d with | mk l => simp at hl; subst hl; rfl
    subst this
    rfl
  | false =>
    generalize (List.dropWhile (fun x => [48, 49, 50, 51, 52, 53, 54, 55, 56, 57].contains x) s.data.toList) = t at hT ⊢
    go_enter Tryd.func54, Tryd.ntmps54
    go_wp2_with (first | (go_at_call 72; refine hM.out.mono ?_; rintro e w' ⟨rfl, rfl⟩))
    go_wp2_with (first | (go_at_call 73; refine hT.out.mono ?_; rintro e w' ⟨rfl, rfl⟩))
    go_ret
    exact ⟨rfl, hb.out⟩

def Mo.digB (l : List UInt8) : Bool := !l.isEmpty && l.all (fun x => Mo.tens.contains x)
theorem Mo.drop_nil (l : List UInt8) (p : UInt8 → Bool) : (l.dropWhile p).isEmpty = l.all p := by
  induction l with
  | nil => rfl
  | cons a l ih =>
    rw [List.dropWhile_cons, List.all_cons]
    cases h : p a with
    | true => simpa using ih
    | false => simp

set_option maxHeartbeats 2000000 in
set_option maxRecDepth 1000000 in
theorem digits_calls (s : ByteArray) (w : World) :
    Calls Tryd.prog 36 #[.string s] w fun e w' => e = .returned (.bool (Mo.digB s.data.toList)) ∧ Below w.heap.size w w' := by
  have hT := Lib.hid (trimLeft_calls s w)
  unfold Mo.tensS at hT
  unfold Mo.digB
  rw [← Mo.drop_nil]
  generalize (s.data.toList.dropWhile (fun x => Mo.tens.contains x)) = t at hT ⊢
  cases hs : s.data.toList.isEmpty with
  | true =>
    have hs1 : s.toList.isEmpty = true := by rw [Lib.toList_data]; exact hs
    go_enter Tryd.func36, Tryd.ntmps36
    go_wp2
    go_ret
    exact ⟨rfl, Below.refl _ _⟩
  | false =>
    have hs1 : s.toList.isEmpty = false := by rw [Lib.toList_data]; exact hs
    have ht1 : (⟨t.toArray⟩ : ByteArray).toList = t := by rw [Lib.toList_data]
    go_enter Tryd.func36, Tryd.ntmps36
    go_wp2_with (first | (go_at_call 54; refine hT.out.mono ?_; rintro e w' ⟨rfl, hb⟩))
    go_ret
    exact ⟨by show Ending.returned (Value.bool t.isEmpty) = _; simp, hb⟩
end Go.Proofs.YtgabkgomjdlgnaaDoor
