import Derived.Test.YtmdfgiiihmameaaSymV
import Derived.Deep.Slices
import Derived.Deep.Strs
namespace Go.Proofs.Ytmdfgiiihmameaa
open Go.Shelf Go.RowKit Go.Lib Go.Sort Go.ChangeShapes Go.WideShapes
set_option linter.unusedVariables false

instance : Inhabited StepD := ⟨⟨0, ByteArray.empty, 0⟩⟩
theorem cells49 : Try.prog.cellsOf 49 = 3 := by kernel_rfl
theorem cells3 : Try.prog.cellsOf 3 = 1 := by kernel_rfl
theorem cells9 : Try.prog.cellsOf 9 = 1 := by kernel_rfl

theorem three {α : Type} : ∀ l : List α, l.length = 3 → ∃ a b c, l = [a, b, c]
  | [a, b, c], _ => ⟨a, b, c, rfl⟩

set_option maxRecDepth 100000 in
theorem rdst_open {H : Type} {enc : TypeId × Value → H} {w : World} {base : Nat} {spare : Nat → Bool} {held : Bool} {fuel : Nat} {A : Option Addr} {len cap : Nat} {x : DataW H × List MemPlace}
    (h : DataW.trod enc Try.prog w base spare held fuel 45 [.slice A len cap] = some x) : ∃ zs, RdSt w (.slice A len cap) zs := by
  rcases Go.Deep.open_slice Try.underlying45 h with ⟨e, _⟩ | ⟨a, l, c, m, n, D, Pl, e, hb, hl, hm, hmm, _, hx⟩
  · injection e with e _
    injection e with e1 e2 e3
    subst e1; subst e2; subst e3
    exact ⟨[], none, 0, rfl, by simp, fun h => by simp at h, by simp⟩
  · injection e with e _
    injection e with e1 e2 e3
    subst e1; subst e2; subst e3
    have hlm : len ≤ m := by rw [hmm]; split <;> omega
    obtain ⟨q, hq⟩ := Go.Deep.choose_lt (α := StepD) (n := len) (p := fun i x => (w.cell? (a.add (i * 3)) = some (.int .i64 x.wh) ∧ w.cell? ⟨(a.add (i * 3)).block, (a.add (i * 3)).off + 1, none⟩ = some (.string x.s) ∧ w.cell? ⟨(a.add (i * 3)).block, (a.add (i * 3)).off + 2, none⟩ = some (.int .i64 x.n)) ∧ x.s.size ≤ maxLen) (fun i hi => by
      obtain ⟨cs', h1, h2⟩ := hx i (by omega)
      rw [cells49] at h1
      obtain ⟨_, hlen, hcell⟩ := World.cells?_some h1
      obtain ⟨y0, y1, y2, k, _, _, g0, g1, g2⟩ := Go.Deep.trod_struct3 Try.underlying49 h2
      obtain ⟨v0, v1, v2, rfl⟩ := three cs' hlen
      have c0 := hcell 0 (by omega)
      have c1 := hcell 1 (by omega)
      have c2 := hcell 2 (by omega)
      simp [cells3, cells9] at g0 g1 g2
      obtain ⟨n0, e0, _, _⟩ := DataW.trod_int Try.underlying3 g0
      obtain ⟨n2, e2, _, _⟩ := DataW.trod_int Try.underlying3 g2
      obtain ⟨s1, e1, _, hs⟩ := DataW.trod_string Try.underlying9 g1
      injection e0 with e0 _; injection e1 with e1 _; injection e2 with e2 _
      subst e0; subst e1; subst e2
      exact ⟨⟨n0, s1, n2⟩, ⟨by simpa [Addr.add] using c0, c1, c2⟩, hs⟩)
    refine ⟨(List.range len).map q, some a, cap, by simp, by unfold maxLen at hm; simp; omega, fun h0 => ⟨a, rfl, fun j x hj => ?_⟩, fun x hx => ?_⟩
    · have hjl : j < len := by simpa using (List.getElem?_eq_some_iff.1 hj).1
      rw [List.getElem?_map, List.getElem?_range hjl] at hj
      obtain rfl : q j = x := by simpa using hj
      exact (hq j hjl).1
    · obtain ⟨i, hi, rfl⟩ := List.mem_map.1 hx
      exact (hq i (List.mem_range.1 hi)).2
end Go.Proofs.Ytmdfgiiihmameaa
