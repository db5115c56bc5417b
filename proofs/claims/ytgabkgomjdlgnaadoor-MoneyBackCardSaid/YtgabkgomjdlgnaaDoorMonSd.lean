import Derived.Test.YtgabkgomjdlgnaaDoorMonSc
import Derived.Test.YtgabkgomjdlgnaaDoorMonSu
import Derived.Test.YtgabkgomjdlgnaaDoorShelf
namespace Go.Proofs.YtgabkgomjdlgnaaDoor
open Go.RowKit Go.Lib Go.Sort
set_option linter.unusedVariables false
set_option linter.unusedSimpArgs false

theorem merge_calls (w0 : World) (g n c cr : Nat) (R : Nat → Nat) (hn : n < 4611686018427387904) (hC : CmpOk w0 g n cr R) : ∀ k, MergeOk w0 g n c cr R k := by
  intro k
  induction k with
  | zero => intro a m b f w hk _ _ h1 h2; omega
  | succ k ih =>
    intro a m b f w hk hR hf h1 h2 h3 s1 s2 st
    by_cases c1 : m = a + 1
    · subst c1
      have h := merge_left w0 g n c cr a b R f w hn hR hC hf h2 h3 s2 st
      rwa [show ((a : Int) + 1) = ((a + 1 : Nat) : Int) by omega] at h
    · by_cases c2 : b = m + 1
      · subst c2
        have h := merge_right w0 g n c cr a m R f w hn hR hC hf (by omega) h3 s1 st
        rwa [show ((m : Int) + 1) = ((m + 1 : Nat) : Int) by omega] at h
      · exact merge_main w0 g n c cr a m b k R f w hn hR hC hf (by omega) (by omega) h3 s1 s2 st hk ih

/-! ### the shelf's insertion sort, of such a row -/
def encF (n : Nat) : Fin n → Value := fun x => .int .i64 (x.val : Int)
theorem keep_putRow {α : Type} [Inhabited α] (enc : α → Value) (w : World) (g : Nat) (d : Array α) : Keep (fun i => i = g) w (putRow enc w g 0 d) := by
  refine ⟨rfl, rfl, rfl, by simp, fun i hi hne => ?_⟩
  show (w.heap.modify g _)[i]? = _
  rw [Array.getElem?_modify, if_neg (fun e => hne e.symm)]
theorem keep_sortWorld {α : Type} [Inhabited α] (enc : α → Value) (w : World) (g m : Nat) (d : Array α) (os : Array Obj) : Keep (fun i => i = g) w (sortWorld enc w g 0 m d os) := by
  refine (keep_putRow enc w g d).trans (w2 := sortWorld enc w g 0 m d os) (G := fun i => i = g) ?_ (fun _ _ h => h)
  refine ⟨rfl, rfl, rfl, ?_, fun i hi hne => ?_⟩
  · show _ ≤ (grow (putRow enc (Go.Sort.ahead w m) g 0 d) os).heap.size
    rw [size_grow, size_putRow, size_putRow]
    exact Nat.le_add_right _ _
  · rw [size_putRow] at hi
    show (grow (putRow enc (Go.Sort.ahead w m) g 0 d) os).heap[i]? = _
    rw [heap_grow_old _ _ (by rw [size_putRow]; exact hi)]
    rfl
set_option maxRecDepth 100000 in
theorem insertion_calls (w0 w : World) (g n c cr a b : Nat) (R f : Nat → Nat) (hn : n < 4611686018427387904) (hC : CmpOk w0 g n cr R) (hR : Row w0 w g n f) (hf : ∀ i, i < n → f i < n) (hab : a ≤ b) (hb : b ≤ n) (hn0 : 0 < n) (st : St.Stb R f a b) :
    Calls Tryd.prog 81 #[.slice (some ⟨g, 0, none⟩) n c, .int .i64 a, .int .i64 b, .func (.func 45) #[] #[.pointer (some ⟨cr, 0, none⟩)]] w (Merged w0 g n R f a b) := by
  haveI : Inhabited (Fin n) := ⟨⟨0, hn0⟩⟩
  let d : Array (Fin n) := Array.ofFn (fun i : Fin n => (⟨f i.val, hf i.val i.isLt⟩ : Fin n))
  have hd : d.size = n := by simp [d]
  have hget : ∀ i, i < n → (d[i]!).val = f i := fun i hi => by
    rw [getElem!_pos d i (by rw [hd]; exact hi)]
    simp [d]
  have hH : Holds (encF n) w g 0 d := fun j hj => by
    rw [hd] at hj
    rw [Nat.zero_add]
    refine ⟨?_, hR.free j hj⟩
    rw [hR.cell j hj]
    unfold encF
    rw [hget j hj]
  have hcmp : CmpReads Tryd.prog 45 #[.pointer (some ⟨cr, 0, none⟩)] (encF n) (fun x y => St.sg (R y.val) (R x.val)) g 0 d.size w := by
    intro m os dk hdk x y
    exact hC _ x.val y.val x.isLt y.isLt (hR.keep.trans (keep_sortWorld (encF n) w g m dk os) (fun _ _ h => h))
  have h := Tryd.insertionSortCmpFunc_one (encF n) (fun _ => rfl) (fun x y => St.sg (R y.val) (R x.val)) 45 #[.pointer (some ⟨cr, 0, none⟩)] g 0 c a b d w
    (Go.Proofs.enters_of (f := 45) Tryd.func45 (by kernel_rfl) rfl) hcmp hH hab (by rw [hd]; exact hb) (by rw [hd]; exact hn)
  rw [hd] at h
  refine h.mono fun e w' ⟨he, q, hw⟩ => ?_
  have hfn : ∀ i, i < n → St.fn (fun x : Fin n => x.val) d i = f i := hget
  obtain ⟨z1, z2, z3⟩ := St.ins (fun x : Fin n => x.val) R (ltOf fun x y : Fin n => St.sg (R y.val) (R x.val)) (fun x y => by
    unfold ltOf
    rw [St.sg_neg]
    by_cases hk : R y.val < R x.val
    · rw [decide_eq_true hk, decide_eq_true (by omega)]
    · rw [decide_eq_false hk, decide_eq_false (by omega)]) a b d (by rw [hd]; exact hb) (fun i j k1 k2 k3 hk => by
      rw [hfn i (by omega), hfn j (by omega)] at hk ⊢
      exact st i j k1 k2 k3 hk)
  generalize Sort.insertionSort (ltOf fun x y : Fin n => St.sg (R y.val) (R x.val)) d a b = d' at *
  have hd' : d'.size = n := z1.trans hd
  have hH' := holds_putRow (encF n) w g 0 d d' hH z1
  refine ⟨he, fun i => if i < n then (d'[i]!).val else f i, ?_, ?_, ?_⟩
  · subst hw
    refine Row.drewN ⟨hR.keep.trans (keep_putRow (encF n) w g d') (fun _ _ h => h), fun i hi => ?_, fun i hi => ?_⟩ q
    · have := (hH' i (by rw [hd']; exact hi)).1
      rw [Nat.zero_add] at this
      rw [this, if_pos hi]
      rfl
    · have := (hH' i (by rw [hd']; exact hi)).2
      rwa [Nat.zero_add] at this
  · exact z2.congr (fun i i1 i2 => if_pos (by omega))
  · refine ⟨fun i i1 i2 => ?_, fun i hi => ?_⟩
    · obtain ⟨j, j1, j2, ej⟩ := z3.sub i i1 i2
      refine ⟨j, j1, j2, ?_⟩
      simp only [if_pos (show i < n by omega)]
      exact ej.trans (hfn j (by omega))
    · by_cases hin : i < n
      · simp only [if_pos hin]
        exact (z3.off i hi).trans (hfn i hin)
      · simp only [if_neg hin]
end Go.Proofs.YtgabkgomjdlgnaaDoor
