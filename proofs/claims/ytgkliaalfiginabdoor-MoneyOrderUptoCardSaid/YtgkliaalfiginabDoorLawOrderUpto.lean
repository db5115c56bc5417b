/- MoneyOrder: of any list of amounts and any two numbers, Sum does not hang on the order, and a list with its opposites comes to 0; the program's answer is true and nothing that lay in memory before is changed. Conditions: the given statement's own (the listed tables of the library hold what they start with; what is read is of bulk at most 1048576). -/
import Derived.Test.YtgkliaalfiginabDoorCards
import Derived.Test.YtgkliaalfiginabDoorTie
import Derived.Test.YtgkliaalfiginabDoorMonW7
import Derived.WalkKit
import Derived.ProofKit
import Derived.OpenShut
import Derived.ShutString
import Derived.ChangeOld
import Derived.Below
import Derived.SliceStrings
import Derived.LaidMore
import Derived.Lay
import Derived.SevenTiedAt
import Derived.JoinedCond
import Derived.Stop.Joined
import Derived.Stop.LaidErr
import Derived.Lib.LaidTab
import Derived.SizedLaws
namespace Go.Proofs.YtgkliaalfiginabDoor.moneyOrderUpto
open Go.ChangeShapes Go.WideShapes Go.ChangeAt Go.RowKit
open Go.ChangeMaps (open_string shut_string)
set_option linter.unusedVariables false
set_option linter.unusedSimpArgs false

theorem own : ownKnob Tryd.prog.godebug = none := by kernel_rfl
theorem laidOut : laidOutB Tryd.prog = true := by kernel_rfl
/-- the listed variables hold what they start with, and what is read is small -/
def X (H : Type) (enc : TypeId × Value → H) : World → Array Value → Prop := fun w args =>
  laidMetH Tryd.prog Rows.moneyOrderUptoRow.laid w ∧ ∃ (ds gs : List (DataW H)) (before : List MemPlace), DataW.Whole enc Tryd.prog Tryd.f5.params.toList Rows.moneyOrderSpec.vars false w args.toList ds gs before ∧ Rows.uptoSmall H (ds ++ gs) = true
set_option maxRecDepth 100000 in
theorem lifted (os : Os) (started : os.Started) (H : Type) (enc : TypeId × Value → H) :
    ReturnsInHanded {} Tryd.checked os 5 .any (fun w args => (Rows.moneyOrderSpec.pre enc Tryd.prog Tryd.f5 Rows.moneyOrderUptoRow.domain false w args ∧ X H enc w args) ∧ sizedMet enc Tryd.prog Tryd.f5 (OpenSpec.ofChange Rows.moneyOrderSpec) false w args)
      (Rows.moneyOrderSpec.post enc Tryd.prog Tryd.f5 false true false false) := by
  refine returnsInHanded_of_change_and (C := Tryd.checked) (X := X H enc) (fun _ _ _ hh h => ⟨h.1.of_heap hh, let ⟨ds, gs, b, hw, hs⟩ := h.2; ⟨ds, gs, b, DataW.Whole.of_heap hh hw, hs⟩⟩) own started (by kernel_rfl) Tryd.func5
    (ChangeSpec.witness_shaped (enc := enc) (C := Tryd.checked) (os := os) (X := X H enc) false (World.laidAll Tryd.prog os Rows.moneyOrderUptoRow.laid) #[.slice none 0 0, .int .i64 0, .int .i64 0] 8 (World.laidAll_os _ _ _)
      (World.shaped_of_ZipB (by kernel_rfl) (by kernel_rfl)) (by kernel_rfl) (by kernel_rfl) (by kernel_rfl)
      ⟨(by rw [MakeChecks.laidMetH_plain _ _ _ (by kernel_rfl)]; exact laidMet_laidAll _ (by kernel_rfl) (by kernel_rfl)), [.nil, .lit (.int .i64 0), .lit (.int .i64 0)], [], [], DataW.Whole_of_whole (x := ([.nil, .lit (.int .i64 0), .lit (.int .i64 0)], [], [])) (fuel := 8) (by kernel_rfl), by kernel_rfl⟩) ?_
  intro W base args ds0 gs0 before0 hval0 _ hcnd _ hX _
  obtain ⟨hL, ds, gs, before, hW, hsm⟩ := hX
  rw [MakeChecks.laidMetH_plain _ _ _ (by kernel_rfl)] at hL
  have hval : ∀ (j : Nat) t v, Tryd.f5.params[j]? = some t → args[j]? = some v → Value.okWide Tryd.prog W .any base t v := hval0
  have hW' := hW
  obtain ⟨p, q, hA0, hV, rfl, hfz, hnd⟩ := hW
  have hA : DataW.TrodAll enc Tryd.prog W 0 (fun _ => true) true Tryd.f5.params.toList args.toList ds p := hA0
  rw [Tryd.params5] at hA hval
  obtain ⟨v0, vs0, d0, ds0, p0, q0, hargs, rfl, rfl, h0, r0⟩ := trodAll_cons hA
  obtain ⟨v1, vs1, d1, ds1, p1, q1, rfl, rfl, rfl, h1, r1⟩ := trodAll_cons r0
  obtain ⟨v2, vs2, d2, ds2, p2, q2, rfl, rfl, rfl, h2, r2⟩ := trodAll_cons r1
  obtain ⟨rfl, rfl, rfl⟩ := trodAll_nil r2
  obtain rfl : args = #[v0, v1, v2] := by cases args; simp_all
  obtain ⟨rfl, rfl⟩ := trodVars_none hV
  obtain ⟨a0, len0, cap0, rfl⟩ := okWide_slice Tryd.underlying38 (hval 0 38 v0 rfl rfl)
  have k0 := h0
  have lt0 : ∀ x ∈ p0, x.block < W.heap.size := by obtain ⟨m, hm⟩ := k0; exact DataW.trod_lt m _ _ _ hm
  obtain ⟨l0, rfl, C0, le0, sm0⟩ := (let ⟨_, hf⟩ := h0; open_money hf)
  have bk0 : l0.length ≤ 1048576 := by
    have hs2 : Rows.uptoBulkAll _ ≤ 1048576 := of_decide_eq_true hsm
    simp only [Rows.uptoBulkAll, List.append_nil, List.nil_append, List.cons_append] at hs2
    omega
  obtain ⟨a1, rfl, rfl, rfl, w1⟩ := open_int Tryd.underlying3 (hval 1 3 v1 rfl rfl) h1
  obtain ⟨a2, rfl, rfl, rfl, w2⟩ := open_int Tryd.underlying3 (hval 2 3 v2 rfl rfl) h2
  clear hA0 hval0
  simp only [List.append_nil] at hW'
  refine (order_walk _ _ l0 a1 a2 W C0 le0 bk0 w1 w2).mono fun e W' ⟨he, bel⟩ => ?_
  subst he
  exact ⟨_, rfl, _, _, _, [], _, [], hW', trodAll_mk1 (shut_bool Tryd.underlying4 _), (trodAll_cons_mk (Below.trod laidOut (by kernel_rfl) (of_decide_eq_true (by kernel_rfl)) k0 bel lt0) (trodAll_cons_mk (shut_int Tryd.underlying3 w1) (trodAll_cons_mk (shut_int Tryd.underlying3 w2) trodAll_mk0))), rfl, bel.frame _, fun h => by cases h⟩

theorem pre_eq (H : Type) (enc : TypeId × Value → H) : Rows.moneyOrderUptoRow.pre enc Tryd.prog Tryd.f5 (Rows.OpenSpec.upto Rows.moneyOrderSpec) =
    fun w args => (Rows.moneyOrderSpec.pre enc Tryd.prog Tryd.f5 Rows.moneyOrderUptoRow.domain false w args ∧ X H enc w args) ∧ sizedMet enc Tryd.prog Tryd.f5 (OpenSpec.ofChange Rows.moneyOrderSpec) false w args := by
  funext w args
  apply propext
  constructor
  · rintro ⟨⟨⟨ds, gs, before, hw, hc, hs⟩, hl⟩, hz⟩
    exact ⟨⟨⟨ds, gs, before, hw, hc⟩, hl, ds, gs, before, hw, hs⟩, hz⟩
  · rintro ⟨⟨_, hl, ds, gs, before, hw, hs⟩, hz⟩
    exact ⟨⟨⟨ds, gs, before, hw, rfl, hs⟩, hl⟩, hz⟩

theorem over : Rows.moneyOrderUptoRow.holds Tryd.pinned (Rows.OpenSpec.upto Rows.moneyOrderSpec) :=
  OpenClaim.holds_of_cond 5 Tryd.f5 rfl rfl rfl rfl rfl rfl rfl ⟨rfl, rfl, rfl, rfl, rfl⟩ rfl rfl rfl rfl rfl (by kernel_rfl) Tryd.func5 (by kernel_rfl)
    (of_decide_eq_true (by kernel_rfl)) (by unfold Func.isWrapper; first | (rw [if_pos (by decide +kernel)]; kernel_rfl) | (rw [if_neg (by decide +kernel)]; exact ⟨rfl, rfl⟩))
    (fun os started H enc _ _ => by
      have h := lifted os started H enc
      rw [← pre_eq] at h
      exact h)

theorem proved : Rows.MoneyOrderUptoCardSaid :=
  Claim7.holds_tied_plain_at .later [] [.data, .data, .data, .data, .sentinel, .sentinel, .pinned] true (true, "03dc2184b389fba901841870d0a2a7f79c6ae5edd2829aa69a645e1451d68671") true over (fun _ h => by cases h) (by kernel_rfl) (fun _ h => by cases h) moneyOrderUpto_row_tie rfl ⟨rfl, rfl⟩ (by kernel_rfl) rfl
    (fun f fn hf hfn => by
      obtain rfl : f = 5 := Option.some.inj ((show Tryd.prog.funcNamed "lexprior/lexpriorlaw02.MoneyOrder" = some 5 by kernel_rfl).symm.trans hf) |>.symm
      obtain rfl : fn = Tryd.f5 := (Option.some.inj (Tryd.func5.symm.trans hfn)).symm
      exact ⟨by kernel_rfl, fun j t ht => by
        rw [Tryd.params5] at ht
        have hm : t ∈ [38, 3, 3] := by simpa using Array.mem_of_getElem? ht
        have hall : ([38, 3, 3].all fun u => !Tryd.prog.wantsStandIn u) = true := by kernel_rfl
        exact (show Tryd.prog.wantsStandIn t = false by simpa using List.all_eq_true.1 hall t hm)⟩)
    (by kernel_rfl)
#print axioms proved
end Go.Proofs.YtgkliaalfiginabDoor.moneyOrderUpto
