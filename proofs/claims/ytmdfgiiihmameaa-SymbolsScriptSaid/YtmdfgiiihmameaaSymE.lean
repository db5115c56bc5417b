import Derived.Test.YtmdfgiiihmameaaSymD
import Derived.Test.YtmdfgiiihmameaaShelf
import Derived.Lib.RowBridge
import Derived.Lib.SortBridge
namespace Go.Proofs.Ytmdfgiiihmameaa
open Go.Shelf Go.RowKit Go.Lib Go.Sort

theorem sort_keep {α : Type} [Inhabited α] (enc : α → Value) (w : World) (blk off m : Nat) (dk : Array α) (os : Array Obj) : Keep (fun i => i = blk) w (sortWorld enc w blk off m dk os) where
  os := rfl
  tape := rfl
  output := rfl
  size := by
    show w.heap.size ≤ (grow (putRow enc (Sort.ahead w m) blk off dk) os).heap.size
    rw [Sort.size_grow, Sort.size_putRow]
    show w.heap.size ≤ w.heap.size + os.size
    omega
  block := fun i hi hn => by
    have h1 : i < (putRow enc (Sort.ahead w m) blk off dk).heap.size := by rw [Sort.size_putRow]; exact hi
    show (grow (putRow enc (Sort.ahead w m) blk off dk) os).heap[i]? = _
    rw [Sort.heap_grow_old _ _ h1]
    simp only [putRow, mapBlock, Array.getElem?_modify]
    rw [if_neg (fun e => hn e.symm)]
    rfl

theorem sort_blk {α : Type} [Inhabited α] (enc : α → Value) (w : World) (blk m : Nat) (dk : Array α) (os : Array Obj) {cur : Array Value} {T : TypeId} (h : w.heap[blk]? = some (.cells cur T (0, 0))) (hs : cur.size = dk.size) :
    (sortWorld enc w blk 0 m dk os).heap[blk]? = some (.cells (dk.map enc) T (0, 0)) := by
  have h1 : blk < (putRow enc (Sort.ahead w m) blk 0 dk).heap.size := by rw [Sort.size_putRow]; exact blk_lt h
  show (grow (putRow enc (Sort.ahead w m) blk 0 dk) os).heap[blk]? = _
  rw [Sort.heap_grow_old _ _ h1]
  have h2 : (Sort.ahead w m).heap[blk]? = some (.cells cur T (0, 0)) := h
  simp only [putRow, mapBlock, Array.getElem?_modify, h2]
  simp only [if_true, Option.map_some, onCells]
  congr 2
  apply Array.ext
  · simp [putCells, hs]
  · intro i h3 h4
    have h5 : i < dk.size := by simpa using h4
    simp [putCells, h5, getElem!_pos]

theorem grow_drewN (w : World) (q : Nat) (os : Array Obj) : (grow w os).drewN q = grow (w.drewN q) os := rfl

/-! compareBytes is an order -/
theorem cb_self : ∀ l : List UInt8, Lib.compareBytes l l = 0
  | [] => rfl
  | a :: l => by simp [Lib.compareBytes, UInt8.lt_irrefl, cb_self l]
theorem cb_anti : ∀ a b : List UInt8, Lib.compareBytes a b = - Lib.compareBytes b a
  | [], [] => rfl
  | [], _ :: _ => rfl
  | _ :: _, [] => rfl
  | x :: a, y :: b => by
    unfold Lib.compareBytes
    by_cases h1 : x < y
    · have h2 : ¬ y < x := fun h => UInt8.lt_irrefl _ (UInt8.lt_trans h1 h)
      simp [h1, h2]
    · by_cases h2 : y < x
      · simp [h1, h2]
      · simp [h1, h2]; exact cb_anti a b
theorem cb_zero : ∀ a b : List UInt8, Lib.compareBytes a b = 0 → a = b
  | [], [], _ => rfl
  | [], _ :: _, h => by simp [Lib.compareBytes] at h
  | _ :: _, [], h => by simp [Lib.compareBytes] at h
  | x :: a, y :: b, h => by
    unfold Lib.compareBytes at h
    by_cases h1 : x < y
    · simp [h1] at h
    · by_cases h2 : y < x
      · simp [h1, h2] at h
      · simp [h1, h2] at h
        have : x = y := UInt8.le_antisymm (UInt8.not_lt.1 h2) (UInt8.not_lt.1 h1)
        rw [this, cb_zero a b h]
theorem cb_trans : ∀ a b c : List UInt8, Lib.compareBytes a b < 0 → Lib.compareBytes b c < 0 → Lib.compareBytes a c < 0
  | [], [], _, h, _ => by simp [Lib.compareBytes] at h
  | [], _ :: _, [], _, h => by simp [Lib.compareBytes] at h
  | [], _ :: _, _ :: _, _, _ => by simp [Lib.compareBytes]
  | _ :: _, [], _, h, _ => by simp [Lib.compareBytes] at h
  | _ :: _, _ :: _, [], _, h => by simp [Lib.compareBytes] at h
  | x :: a, y :: b, z :: c, h, k => by
    unfold Lib.compareBytes at h k ⊢
    by_cases h1 : x < y
    · by_cases k1 : y < z
      · simp [UInt8.lt_trans h1 k1]
      · by_cases k2 : z < y
        · simp [k1, k2] at k
        · have : y = z := UInt8.le_antisymm (UInt8.not_lt.1 k2) (UInt8.not_lt.1 k1)
          subst this; simp [h1]
    · by_cases h2 : y < x
      · simp [h1, h2] at h
      · have : x = y := UInt8.le_antisymm (UInt8.not_lt.1 h2) (UInt8.not_lt.1 h1)
        subst this
        by_cases k1 : x < z
        · simp [k1]
        · by_cases k2 : z < x
          · simp [k1, k2] at k
          · simp [k1, k2, UInt8.lt_irrefl] at h k ⊢
            exact cb_trans a b c h k

namespace Sy
theorem ltOf_iff (ns : List ByteArray) (x y : Fin ns.length) : ltOf (cf ns) x y = decide (cf ns x y < 0) := rfl
theorem cf_swo (ns : List ByteArray) : SWO (ltOf (cf ns)) where
  irrefl x := by rw [ltOf_iff]; simp [cf, cb_self]
  trans x y z h1 h2 := by
    rw [ltOf_iff] at *
    simp only [decide_eq_true_eq] at *
    exact cb_trans _ _ _ h1 h2
  ntrans x y z h1 h2 := by
    rw [ltOf_iff] at *
    simp only [decide_eq_false_iff_not] at *
    intro h
    by_cases e : cf ns x y = 0
    · have := cb_zero _ _ e
      exact h2 (by unfold cf at *; rwa [this] at h)
    · have h3 : cf ns y x < 0 := by have := cb_anti ns[x].data.toList ns[y].data.toList; unfold cf at *; omega
      exact h2 (cb_trans _ _ _ h3 h)
theorem data_inj {s t : ByteArray} (h : s.data.toList = t.data.toList) : s = t := key_inj (by unfold key; rw [h])
theorem cf_tot (ns : List ByteArray) (hn : ns.Nodup) (x y : Fin ns.length) (h1 : ltOf (cf ns) x y = false) (h2 : ltOf (cf ns) y x = false) : x = y := by
  rw [ltOf_iff] at *
  simp only [decide_eq_false_iff_not] at *
  have h3 : cf ns x y = 0 := by have := cb_anti ns[x].data.toList ns[y].data.toList; unfold cf at *; omega
  have := data_inj (cb_zero _ _ h3)
  exact Fin.ext ((List.getElem_inj hn).1 this)
end Sy
end Go.Proofs.Ytmdfgiiihmameaa
