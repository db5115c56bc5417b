/- For every list of lines and every amount the law AmountsCuts answers true. Conditions: the given statement's own (the listed tables of the library hold what they start with; what is read is of bulk at most 1048576). -/
import Derived.Test.YtpcmhlbhepickaaGreatRows
import Derived.Test.YtpcmhlbhepickaaGreatAmtCd
import Derived.WalkKit
import Derived.ProofKit
import Derived.OpenShut
import Derived.ShutString
import Derived.ChangeOld
import Derived.Below
import Derived.SliceStrings
import Derived.LaidMore
import Derived.Lay
import Derived.SevenTiedAt
import Derived.JoinedCond
import Derived.Stop.Joined
import Derived.Stop.LaidErr
import Derived.Lib.LaidTab
import Derived.SizedLaws
namespace Go.Proofs.YtpcmhlbhepickaaGreat.amountsCutsUpto
open Go.ChangeShapes Go.WideShapes Go.ChangeAt Go.RowKit
open Go.ChangeMaps (open_string shut_string)
set_option linter.unusedVariables false
set_option linter.unusedSimpArgs false

theorem own : ownKnob Tryz.prog.godebug = none := by kernel_rfl
theorem laidOut : laidOutB Tryz.prog = true := by kernel_rfl
/-- the listed variables hold what they start with, and what is read is small -/
def X (H : Type) (enc : TypeId × Value → H) : World → Array Value → Prop := fun w args =>
  ∃ (ds gs : List (DataW H)) (before : List MemPlace), DataW.Whole enc Tryz.prog Tryz.f3.params.toList Rows.amountsCutsSpec.vars false w args.toList ds gs before ∧ Rows.uptoSmall H (ds ++ gs) = true
set_option maxRecDepth 100000 in
theorem lifted (os : Os) (started : os.Started) (H : Type) (enc : TypeId × Value → H) :
    ReturnsInHanded {} Tryz.checked os 3 .any (fun w args => (Rows.amountsCutsSpec.pre enc Tryz.prog Tryz.f3 Rows.amountsCutsUptoRow.domain false w args ∧ X H enc w args) ∧ sizedMet enc Tryz.prog Tryz.f3 (OpenSpec.ofChange Rows.amountsCutsSpec) false w args)
      (Rows.amountsCutsSpec.post enc Tryz.prog Tryz.f3 false true false false) := by
  refine returnsInHanded_of_change_and (C := Tryz.checked) (X := X H enc) (fun _ _ _ hh h => let ⟨ds, gs, b, hw, hs⟩ := h; ⟨ds, gs, b, DataW.Whole.of_heap hh hw, hs⟩) own started (by kernel_rfl) Tryz.func3
    (ChangeSpec.witness_shaped (enc := enc) (C := Tryz.checked) (os := os) (X := X H enc) false (World.laidAll Tryz.prog os Rows.amountsCutsUptoRow.laid) #[.slice none 0 0, .int .i64 0] 8 (World.laidAll_os _ _ _)
      (World.shaped_of_ZipB (by kernel_rfl) (by kernel_rfl)) (by kernel_rfl) (by kernel_rfl) (by kernel_rfl)
      ⟨[.nil, .lit (.int .i64 0)], [], [], DataW.Whole_of_whole (x := ([.nil, .lit (.int .i64 0)], [], [])) (fuel := 8) (by kernel_rfl), by kernel_rfl⟩) ?_
  intro W base args ds0 gs0 before0 hval0 _ hcnd _ hX _
  obtain ⟨ds, gs, before, hW, hsm⟩ := hX
  have hval : ∀ (j : Nat) t v, Tryz.f3.params[j]? = some t → args[j]? = some v → Value.okWide Tryz.prog W .any base t v := hval0
  have hW' := hW
  obtain ⟨p, q, hA0, hV, rfl, hfz, hnd⟩ := hW
  have hA : DataW.TrodAll enc Tryz.prog W 0 (fun _ => true) true Tryz.f3.params.toList args.toList ds p := hA0
  rw [Tryz.params3] at hA hval
  obtain ⟨v0, vs0, d0, ds0, p0, q0, hargs, rfl, rfl, h0, r0⟩ := trodAll_cons hA
  obtain ⟨v1, vs1, d1, ds1, p1, q1, rfl, rfl, rfl, h1, r1⟩ := trodAll_cons r0
  obtain ⟨rfl, rfl, rfl⟩ := trodAll_nil r1
  obtain rfl : args = #[v0, v1] := by cases args; simp_all
  obtain ⟨rfl, rfl⟩ := trodVars_none hV
  obtain ⟨a0, len0, cap0, rfl⟩ := okWide_slice Tryz.underlying22 (hval 0 22 v0 rfl rfl)
  have k0 := h0
  have lt0 : ∀ x ∈ p0, x.block < W.heap.size := by obtain ⟨m, hm⟩ := k0; exact DataW.trod_lt m _ _ _ hm
  obtain ⟨l0, rfl, C0, le0, sm0⟩ := (let ⟨_, hf⟩ := h0; open_lines_u hf)
  have bk0 : l0.length ≤ 1048576 := by
    have hs2 : Rows.uptoBulkAll _ ≤ 1048576 := of_decide_eq_true hsm
    simp only [Rows.uptoBulkAll, List.append_nil, List.nil_append, List.cons_append] at hs2
    omega
  obtain ⟨a1, rfl, rfl, rfl, w1⟩ := open_int Tryz.underlying23 (hval 1 23 v1 rfl rfl) h1
  clear hA0 hval0
  simp only [List.append_nil] at hW'
  refine (cuts_card _ _ l0 a1 W C0 le0 bk0 w1).mono fun e W' ⟨he, bel⟩ => ?_
  subst he
  exact ⟨_, rfl, _, _, _, [], _, [], hW', trodAll_mk1 (shut_bool Tryz.underlying4 _), (trodAll_cons_mk (Below.trod laidOut (by kernel_rfl) (of_decide_eq_true (by kernel_rfl)) k0 bel lt0) (trodAll_cons_mk (shut_int Tryz.underlying23 w1) trodAll_mk0)), rfl, bel.frame _, fun h => by cases h⟩

theorem pre_eq (H : Type) (enc : TypeId × Value → H) : Rows.amountsCutsUptoRow.pre enc Tryz.prog Tryz.f3 (Rows.OpenSpec.upto Rows.amountsCutsSpec) =
    fun w args => (Rows.amountsCutsSpec.pre enc Tryz.prog Tryz.f3 Rows.amountsCutsUptoRow.domain false w args ∧ X H enc w args) ∧ sizedMet enc Tryz.prog Tryz.f3 (OpenSpec.ofChange Rows.amountsCutsSpec) false w args := by
  funext w args
  apply propext
  constructor
  · rintro ⟨⟨ds, gs, before, hw, hc, hs⟩, hz⟩
    exact ⟨⟨⟨ds, gs, before, hw, hc⟩, ds, gs, before, hw, hs⟩, hz⟩
  · rintro ⟨⟨_, ds, gs, before, hw, hs⟩, hz⟩
    exact ⟨⟨ds, gs, before, hw, rfl, hs⟩, hz⟩

theorem over : Rows.amountsCutsUptoRow.holds Tryz.pinned (Rows.OpenSpec.upto Rows.amountsCutsSpec) :=
  OpenClaim.holds_of_cond 3 Tryz.f3 rfl rfl rfl rfl rfl rfl rfl ⟨rfl, rfl, rfl, rfl, rfl⟩ rfl rfl rfl rfl rfl (by kernel_rfl) Tryz.func3 (by kernel_rfl)
    (of_decide_eq_true (by kernel_rfl)) (by unfold Func.isWrapper; first | (rw [if_pos (by decide +kernel)]; kernel_rfl) | (rw [if_neg (by decide +kernel)]; exact ⟨rfl, rfl⟩))
    (fun os started H enc _ _ => by
      have h := lifted os started H enc
      rw [← pre_eq] at h
      exact h)

theorem proved : Rows.AmountsCutsUptoSaid := over
#print axioms proved
end Go.Proofs.YtpcmhlbhepickaaGreat.amountsCutsUpto
