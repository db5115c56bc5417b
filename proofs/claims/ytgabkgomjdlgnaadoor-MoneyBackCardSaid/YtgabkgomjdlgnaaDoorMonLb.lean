import Derived.Test.YtgabkgomjdlgnaaDoorMonWk
import Derived.Test.YtgabkgomjdlgnaaDoorMonPc
import Derived.Lib.LaidTab
namespace Go.Proofs.YtgabkgomjdlgnaaDoor
open Go.RowKit Go.Lib
set_option linter.unusedVariables false
set_option linter.unusedSimpArgs false

/-- the table of the powers of ten -/
abbrev gTab : Nat := 5
theorem gTab_named : Tryd.prog.globalNamed "internal/strconv.uint64pow10" = some gTab := by kernel_rfl
theorem gTab_type : (Tryd.prog.globals[gTab]?).map (·.type) = some 133 := by kernel_rfl
theorem gTab_under : Tryd.prog.underlying 133 = some (.array 20 75) := by kernel_rfl
theorem gTab_elem : Tryd.prog.underlying 75 = some (.int .u64) := by kernel_rfl
abbrev Tab (w : World) : Prop := Lib.TabIs Tryd.prog w "internal/strconv.uint64pow10" .u64 Lib.pow10Tab
theorem Tab.below {w w' : World} (h : Tab w) (hb : Below w.heap.size w w') : Tab w' := by
  have hgn := gTab_named
  unfold Tab Lib.TabIs World.var? at h ⊢
  rw [hgn] at h ⊢
  simp only [Option.bind_some] at h ⊢
  have hlt : gTab < w.heap.size := by
    rcases Nat.lt_or_ge gTab w.heap.size with h' | h'
    · exact h'
    · rw [Array.getElem?_eq_none h'] at h; cases h
  rw [hb.block gTab hlt]
  exact h
theorem below_grow (w : World) (k : Nat) (os : Array Obj) : Below w.heap.size w (Go.Sort.grow (w.drewN k) os) :=
  ⟨rfl, rfl, rfl, by rw [Go.Sort.size_grow]; exact Nat.le_add_right _ _, fun i hi => Go.Sort.heap_grow_old (w.drewN k) os hi⟩
theorem format_calls (u : Nat) (hu : u ≤ 9223372036854775807) (w : World) (hT : Tab w) : Calls Tryd.prog 48 #[.int .i64 (u : Int), .int .i64 10] w fun e w' => e = .returned (.string (Mo.S (Lib.decDigits u))) ∧ Below w.heap.size w w' := by
  refine (Tryd.strconv_FormatInt_10 (u : Int) (by omega) (by omega) w hT).mono fun e w' ⟨he, k, os, hw⟩ => ?_
  rw [Lib.itoa_nonneg] at he
  exact ⟨he, hw ▸ below_grow w k os⟩
theorem print_tab (m : Int) (w : World) (hT : Tab w) : Calls Tryd.prog 21 #[.int .i64 m] w fun e w' => e = .returned (.tuple #[.string (Mo.S (Mo.print m).1), .int .i64 (Mo.print m).2]) ∧ Below w.heap.size w w' :=
  print_calls m w (fun hk => format_calls _ (by have := chk_bound m hk; omega) w hT)
theorem parse_str (s : ByteArray) (hs : s.size ≤ 9223372036854770000) (w : World) : Calls Tryd.prog 12 #[.string s] w fun e w' => e = .returned (.tuple #[.int .i64 (Mo.parse s.data.toList).1, .int .i64 (Mo.parse s.data.toList).2]) ∧ Below w.heap.size w w' := by
  have h := parse_calls s.data.toList (by rw [Array.length_toList]; exact hs) w
  rwa [Mo.S_of] at h
end Go.Proofs.YtgabkgomjdlgnaaDoor
