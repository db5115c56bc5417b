import Derived.OrdersHeld
import Derived.Deep.RegionHeld3
import Derived.Laws.BitsLemmas
import Derived.RowKit
import Derived.Test.YtcakgennlliejaaGreatDoorSynK1
import Derived.Test.YtcakgennlliejaaGreatDoorSynK3
/- syntax's reader: money -/
namespace Go.Proofs.YtcakgennlliejaaGreatDoor
open Go.Shelf Go.RowKit Go.Lib
open Go.Proofs.YtcakgennlliejaaGreatDoorW.PrintWords
open Sx
set_option linter.unusedVariables false
set_option linter.unusedSimpArgs false
def Sx.intR (n : Int) (x : Value) (_ : World) : Prop := x = .int .i64 n
def Sx.Env.money (V : Env) (p : Nat) : Res Int :=
  if (V.next (if V.isT 6 ⟨#[45]⟩ p then p + 1 else p)).k == 3 then
    if (Mo.parse ((if V.isT 6 ⟨#[45]⟩ p then [45] else []) ++ (V.next (if V.isT 6 ⟨#[45]⟩ p then p + 1 else p)).t.data.toList)).2 = 0 then .ok (Mo.parse ((if V.isT 6 ⟨#[45]⟩ p then [45] else []) ++ (V.next (if V.isT 6 ⟨#[45]⟩ p then p + 1 else p)).t.data.toList)).1 ((if V.isT 6 ⟨#[45]⟩ p then p + 1 else p) + 1)
    else .bad (Mo.parse ((if V.isT 6 ⟨#[45]⟩ p then [45] else []) ++ (V.next (if V.isT 6 ⟨#[45]⟩ p then p + 1 else p)).t.data.toList)).2 (V.place p)
  else V.stop 51 (if V.isT 6 ⟨#[45]⟩ p then p + 1 else p)
set_option maxHeartbeats 4000000 in
set_option maxRecDepth 100000 in
theorem money_calls (V : Env) (p : Nat) (w : World) (h : Rd w V p) : Calls Tryz.prog 89 #[.pointer (some ⟨V.rb, 0, none⟩)] w (Post V w intR (V.money p)) := by
  have HL := Lib.hid (show V.rb < w.heap.size from World.block_lt_of_cell? w _ h.pos)
  have HP := Lib.hid (place_calls V p w h)
  have HS := Lib.hid (fun w1 (h1 : Rd w1 V p) => skip_calls V p 6 ⟨#[45]⟩ w1 h1 (by decide))
  have hF : V.money p = V.money p := rfl
  conv at hF => rhs; unfold Env.money
  generalize V.isT 6 ⟨#[45]⟩ p = b at *
  obtain ⟨q, hq⟩ : ∃ q, (if b then p + 1 else p) = q := ⟨_, rfl⟩
  rw [hq] at hF HS
  have HN := Lib.hid (fun w1 (h1 : Rd w1 V q) => next_calls V q w1 h1)
  unfold Sx.tv at HN
  have HLT := Lib.hid (Sx.next_lt (V := V) (p := q))
  have hz := h.z q
  have HST := Lib.hid (fun er w1 (h1 : Rd w1 V q) => stop_calls V q er w1 h1)
  have HV : V.stop 51 q = (.bad 51 (V.place q) : Res Int) := rfl
  rw [HV] at hF
  generalize V.next q = t at *
  generalize V.place q = pq at *
  generalize V.place p = pp at *
  have HR := Lib.hid h
  have hmc : ∀ l, l.length ≤ 9223372036854770000 → ∀ w, Calls Tryz.prog 106 #[.string (Mo.S l)] w fun e w' => e = .returned (.tuple #[.int .i64 (Mo.parse l).1, .int .i64 (Mo.parse l).2]) ∧ Below w.heap.size w w' := parse_calls
  have hlen : ((if b then [45] else []) ++ t.t.data.toList).length ≤ 9223372036854770000 := by
    have e1 : t.t.data.toList.length = t.t.size := rfl
    cases b <;> simp <;> omega
  have hC := hmc _ hlen
  have hS : Mo.S ((if b then [45] else []) ++ t.t.data.toList) = (if b then ⟨#[45]⟩ else ⟨#[]⟩) ++ t.t := by
    cases b <;> rfl
  rw [hS] at hC
  generalize Mo.parse ((if b then [45] else []) ++ t.t.data.toList) = m at *
  obtain ⟨mv, me⟩ := m
  simp only at hF hC
  have HC := Lib.hid hC
  have HF := Lib.hid hF
  have HZ := Lib.hid hz
  clear hF hC hS hlen hmc HV hz h hq
  cases b
  all_goals
    simp only [if_true, if_false, Bool.false_eq_true] at HC
    by_cases hk : t.k = 3
    · have e1 : (t.k != 3) = false := by simpa using hk
      have e2 : (t.k == 3) = true := by simpa using hk
      have HQ := Lib.hid (HLT.out (by rw [hk]; decide))
      have wz : IntKind.i64.wrap ((q : Int) + 1) = ((q + 1 : Nat) : Int) := by have h1 := HR.out.n; have h2 := HQ.out; rw [IntWalk.i64_in _ (by omega)]; omega
      rw [if_pos e2] at HF
      clear e2 hk
      go_enter Tryz.func89, Tryz.ntmps89
      go_upto_region 6 with (first | (go_at_call 54; refine HP.out.mono ?_; rintro e w1 ⟨rfl, hb1⟩) | (go_at_call 38; refine (HS.out w1 (HR.out.below hb1)).mono ?_; rintro e w2 ⟨rfl, hr2, hk2⟩) | (go_at_call 39; refine (HN.out w2 hr2).mono ?_; rintro e w3 ⟨rfl, hb3⟩))
      obtain ⟨X, hX⟩ : ∃ X, w3.alloc (Obj.cells #[.int .i64 t.k, .string t.t, .int .i64 t.a] 48) = X := ⟨_, rfl⟩
      have bX : Below w3.heap.size w3 X := by rw [← hX]; exact (Below.refl _ w3).alloc (Nat.le_refl _) _
      have x0 : X.cell? ⟨w3.heap.size, 0, none⟩ = some (.int .i64 t.k) := by rw [← hX]; exact blk_cell (heap_alloc_new w3 _) 0 rfl
      have x1 : X.cell? ⟨w3.heap.size, 1, none⟩ = some (.string t.t) := by rw [← hX]; exact blk_cell (heap_alloc_new w3 _) 1 rfl
      have HK := Lib.hid ((Keep.of_below (F := ours V) hb1).trans hk2 (fun _ _ h => h))
      have HR2 := Lib.hid hr2
      have HB := Lib.hid (below_next hb3 bX)
      try rw [hX]
      clear hX bX hb1 hb3 hr2 hk2
      by_cases hm : me = 0
      · rw [if_pos hm] at HF
        have e3 : (me != 0) = false := by simpa using hm
        clear hm
        go_wp2_with (first | (go_at_call 106; refine (HC.out X).mono ?_; rintro e w4 ⟨rfl, hb4⟩; have HB4 := Lib.hid (below_next HB.out hb4); have hp4 := (HR2.out.below HB4.out).pos; have hf4 := (HR2.out.below HB4.out).f; clear hb4))
        · rename_i hbig
          exact absurd hbig (by have := HZ.out; have e5 : (⟨#[45]⟩ : ByteArray).size = 1 := rfl; have e6 : (⟨#[]⟩ : ByteArray).size = 0 := rfl; omega)
        go_ret
        rw [HF.out]
        have hz := HR2.out.keep HB4.out (show q + 1 ≤ V.T.length from HQ.out)
        exact ⟨_, rfl, rfl, hz.1, HK.out.trans hz.2 (fun _ _ h => h)⟩
      · rw [if_neg hm] at HF
        have e3 : (me != 0) = true := by simpa using hm
        clear hm
        go_wp2_with (first | (go_at_call 106; refine (HC.out X).mono ?_; rintro e w4 ⟨rfl, hb4⟩; have HB4 := Lib.hid (below_next HB.out hb4); clear hb4))
        · rename_i hbig
          exact absurd hbig (by have := HZ.out; have e5 : (⟨#[45]⟩ : ByteArray).size = 1 := rfl; have e6 : (⟨#[]⟩ : ByteArray).size = 0 := rfl; omega)
        refine ⟨rfl, ?_⟩
        rw [HF.out]
        exact ⟨rfl, HK.out.below HB4.out⟩
    · have e1 : (t.k != 3) = true := by simpa using hk
      have e2 : (t.k == 3) = false := by simpa using hk
      rw [e2, if_neg (by decide)] at HF
      clear e2 hk
      go_enter Tryz.func89, Tryz.ntmps89
      go_upto_region 6 with (first | (go_at_call 54; refine HP.out.mono ?_; rintro e w1 ⟨rfl, hb1⟩) | (go_at_call 38; refine (HS.out w1 (HR.out.below hb1)).mono ?_; rintro e w2 ⟨rfl, hr2, hk2⟩) | (go_at_call 39; refine (HN.out w2 hr2).mono ?_; rintro e w3 ⟨rfl, hb3⟩))
      obtain ⟨X, hX⟩ : ∃ X, w3.alloc (Obj.cells #[.int .i64 t.k, .string t.t, .int .i64 t.a] 48) = X := ⟨_, rfl⟩
      have bX : Below w3.heap.size w3 X := by rw [← hX]; exact (Below.refl _ w3).alloc (Nat.le_refl _) _
      have x0 : X.cell? ⟨w3.heap.size, 0, none⟩ = some (.int .i64 t.k) := by rw [← hX]; exact blk_cell (heap_alloc_new w3 _) 0 rfl
      have HK := Lib.hid ((Keep.of_below (F := ours V) hb1).trans hk2 (fun _ _ h => h))
      have HRX := Lib.hid (hr2.below (below_next hb3 bX))
      have HB := Lib.hid (below_next hb3 bX)
      try rw [hX]
      clear hX bX hb1 hb3 hr2 hk2
      go_wp2_with (first | (go_at_call 40; refine (HST.out 51 X HRX.out).mono ?_; rintro e w4 ⟨rfl, hb4⟩))
      refine ⟨rfl, ?_⟩
      rw [HF.out]
      exact ⟨rfl, (HK.out.below HB.out).below hb4⟩
end Go.Proofs.YtcakgennlliejaaGreatDoor
/- syntax's reader: list of amounts -/
namespace Go.Proofs.YtcakgennlliejaaGreatDoor
open Go.Shelf Go.RowKit Go.Lib
open Go.Proofs.YtcakgennlliejaaGreatDoorW.PrintWords
open Sx
set_option linter.unusedVariables false
set_option linter.unusedSimpArgs false
theorem info_m : (Tryz.prog.info? 86).map (fun i => (i.zero, i.size, i.bytes)) = some (some (.int .i64 0), 1, 8) := by kernel_rfl
/-- a row of amounts of one's own -/
def Sx.moneysR (base : Nat) (l : List Int) (x : Value) (w : World) : Prop := Kd.R (Kd.int .i64) 86 w base (fun k => base ≤ k) x l
theorem Sx.moneysR_keep {V : Env} {base : Nat} {l : List Int} {x : Value} {w w1 : World} (h : moneysR base l x w) (hb : V.rb < base) (k : Keep (ours V) w w1) : moneysR base l x w1 :=
  Kd.R_step h (fun i hi hlt => k.block i hlt (fun e => by unfold ours at e; omega))
set_option maxHeartbeats 2000000 in
set_option maxRecDepth 100000 in
theorem list_money_calls (V : Env) (g : Nat → Res Int) (K : FuncId)
    (eK : ∀ args w, (callFunc K args).run Tryz.prog w = .ok (.enter K args) w)
    (hK : ∀ p w, Rd w V p → Calls Tryz.prog K #[.pointer (some ⟨V.rb, 0, none⟩)] w (Post V w intR (g p)))
    (n most : Int) (hn : 0 ≤ n ∧ n ≤ 1000000) (hm : most ≤ 1000000) (p : Nat) (w : World) (h : Rd w V p) :
    Calls Tryz.prog 88 #[.pointer (some ⟨V.rb, 0, none⟩), .int .i64 n, .int .i64 most, .func (.func K) #[.pointer (some ⟨V.rb, 0, none⟩)] #[]] w (Post V w (moneysR w.heap.size) (V.list g n most p)) := by
  have HG := Lib.hid hK
  obtain ⟨m, hmm⟩ : ∃ m, (most - n).toNat = m := ⟨_, rfl⟩
  have HM := Lib.hid hmm
  have HN := Lib.hid hn
  have HO := Lib.hid hm
  have HB := Lib.hid (show V.rb < w.heap.size from World.block_lt_of_cell? w _ h.pos)
  have hF : V.list g n most p = V.listM g m [] p := by unfold Env.list; rw [hmm]
  obtain ⟨F, hFF⟩ : ∃ F, V.list g n most p = F := ⟨_, rfl⟩
  rw [hFF] at hF ⊢
  have HF := Lib.hid hF
  have HR := Lib.hid h
  clear hFF hF h hmm hn hm hK
  go_enter Tryz.func88, Tryz.ntmps88
  go_upto_region 2 with (fail)
  go_loopw [9] (fun v wr => ∃ (out : List Int) (q : Nat), moneysR w.heap.size out v wr ∧ Rd wr V q ∧ Keep (ours V) w wr ∧ out.length ≤ m ∧ F = V.listM g (m - out.length) out q) (fun v _ => m - lenOf v)
  case atStart => exact ⟨[], p, Kd.R_nil _ _ _ _ _, HR.out, Keep.refl _ _, Nat.zero_le _, HF.out⟩
  case round =>
    obtain ⟨out, q, hs, hr, hk, hl, hf⟩ := hrel
    obtain ⟨A, c, rfl⟩ := Kd.R_slice hs
    have HS := Lib.hid hs
    have HK := Lib.hid hk
    have HQ := Lib.hid hr
    have wz : IntKind.i64.wrap (n + (out.length : Int)) = n + (out.length : Int) := by
      have h1 := HN.out; have h2 := HO.out; have h3 := HM.out
      exact IntWalk.i64_in _ (by omega)
    by_cases hfull : m ≤ out.length
    · have hF2 := Lib.hid (show F = V.stop 3 q by rw [hf, show m - out.length = 0 from by omega]; rfl)
      have hle : most ≤ n + (out.length : Int) := by have h3 := HM.out; omega
      have HC := Lib.hid (room_bad V q (n + (out.length : Int)) most wr hr hle)
      clear hs hr hk hf hl hfull hle
      go_wp2_with (first | (go_at_call 55; refine HC.out.mono ?_; rintro e w2 ⟨rfl, hb⟩))
      refine ⟨rfl, ?_⟩
      rw [hF2.out]
      exact ⟨rfl, HK.out.trans hb (fun _ _ h => h)⟩
    · obtain ⟨j, hj⟩ : ∃ j, m - out.length = j + 1 := ⟨m - out.length - 1, by omega⟩
      have hf2 : F = (g q).bnd fun v q => if V.isT 6 ⟨#[44]⟩ q then V.listM g j (out ++ [v]) (q + 1) else .ok (out ++ [v]) q := by rw [hf, hj]; rfl
      have hle : n + (out.length : Int) < most := by have h3 := HM.out; omega
      have HC := Lib.hid (room_ok V q (n + (out.length : Int)) most wr hle)
      have HCg := Lib.hid (HG.out q wr hr)
      have HJ := Lib.hid hj
      clear hs hr hk hf hl hfull hle hj
      cases hg : g q with
      | bad er a =>
        rw [hg] at HCg hf2
        have HF2 := Lib.hid (show F = .bad er a from hf2)
        clear hf2 hg
        go_wp2_with (first | (go_at_call 55; refine HC.out.mono ?_; rintro e w2 ⟨rfl, rfl⟩) | ((with_reducible refine HCg.out.mono ?_); rintro e w2 ⟨rfl, hb⟩))
        refine ⟨rfl, ?_⟩
        rw [HF2.out]
        exact ⟨rfl, HK.out.trans hb (fun _ _ h => h)⟩
      | ok v q2 =>
        rw [hg] at HCg hf2
        have HF2 := Lib.hid (show F = if V.isT 6 ⟨#[44]⟩ q2 then V.listM g j (out ++ [v]) (q2 + 1) else .ok (out ++ [v]) q2 from hf2)
        clear hf2 hg
        go_upto_region 4 with (first | (go_at_call 55; refine HC.out.mono ?_; rintro e w2 ⟨rfl, rfl⟩) | ((with_reducible refine HCg.out.mono ?_); rintro e w2 ⟨x, rfl, rfl, hr2, hk2⟩; have HS2 := Lib.hid (moneysR_keep HS.out HB.out hk2)) | (at_builtin; refine Kd.R_append (Kd.int .i64) (w0 := w2) w.heap.size rfl (.tmp 17) (.tmp 20) 83 86 (.int .i64 0) 8 rfl Tryz.underlying83 info_m rfl (by decide) (by omega) (.slice A out.length c) out v [.int .i64 v] (fun k => w.heap.size ≤ k) (fun _ => False) rfl rfl (by rfl) (fun _ hk => hk.elim) (fun k hk => Nat.le_trans (Nat.le_trans HK.out.size hk2.size) hk) HS2.out (Below.mono (Below.refl _ _) (Nat.le_trans HK.out.size hk2.size)) (Nat.le_trans HK.out.size hk2.size) (by have h1 := HJ.out; have h2 := HM.out; have h3 := HO.out; have h4 := HN.out; omega) ?_))
        intro v3 w3 hs3 hb3 hg3 hat3
        have HQ3 := Lib.hid (rd_over HR.out hr2 hb3)
        have HK3 := Lib.hid (keep_over (HK.out.trans hk2 (fun _ _ h => h)) hb3)
        have HS3 := Lib.hid hs3
        have HC2 := Lib.hid (skip_calls V q2 6 ⟨#[44]⟩ w3 HQ3.out (by decide))
        clear hr2 hk2 hs3 hb3 hg3 hat3
        cases ht : V.isT 6 ⟨#[44]⟩ q2
        · rw [ht] at HC2 HF2
          go_wp2_with (first | (go_at_call 38; refine HC2.out.mono ?_; rintro e w4 ⟨rfl, hr4, hk4⟩))
          go_ret
          rw [HF2.out]
          exact ⟨_, rfl, moneysR_keep HS3.out HB.out hk4, hr4, HK3.out.trans hk4 (fun _ _ h => h)⟩
        · rw [ht] at HC2 HF2
          go_wp2_with (first | (go_at_call 38; refine HC2.out.mono ?_; rintro e w4 ⟨rfl, hr4, hk4⟩))
          obtain ⟨A3, c3, rfl⟩ := Kd.R_slice HS3.out
          go_roundw
          case rel => exact ⟨out ++ [v], q2 + 1, moneysR_keep HS3.out HB.out hk4, hr4, HK3.out.trans hk4 (fun _ _ h => h), by have := HJ.out; simp; omega, by rw [HF2.out, show m - (out ++ [v]).length = j by have := HJ.out; simp; omega]; rfl⟩
          case measure => have := HJ.out; simp [lenOf]; omega
end Go.Proofs.YtcakgennlliejaaGreatDoor
/-
  PRINTED WORDS, second file: A REGION THAT DRAWS ITS ORDER, WALKED BY HAND, where its last store writes what its own loads read ('x.f = append(x.f, f(i))'). Plain theorems; no macro, no elab. A claim may hold it (turn the namespace's name).
  A load may be taken first in every world that meets S; behind the operations of ds nothing is shown; sound because each of ds waits for what is taken (Region.lastB). The kernel checks it.
  By an AI agent of Go's test side, Mon Nov 16 2026. No person has read it.
-/
namespace Go.Proofs.YtcakgennlliejaaGreatDoorW.PrintLast

section
variable {P : Program} {ops : Array Oper} {Q : Exit → Act → World → Prop} {md : Region.Mode} {S : World → Prop} {ds : List Nat}

/-- Operation d waits for operation i, by a chain of at most 'fuel' edges. -/
def Region.reachB (md : Region.Mode) (ops : Array Oper) (i : Nat) : Nat → Nat → Bool
  | 0, _ => false
  | fuel + 1, d => match ops[d]? with
    | some o => o.after.any fun e => Region.binds md e && (e.on == i || Region.reachB md ops i fuel e.on)
    | none => false

/-- Each of ds that has not come up yet waits for number i. -/
def Region.lastB (md : Region.Mode) (ops : Array Oper) (listed : Array Bool) (ds : List Nat) (i : Nat) : Bool :=
  ds.all fun d => listed.getD d true || Region.reachB md ops i ops.size d

def ListedClosed (md : Region.Mode) (ops : Array Oper) (listed : Array Bool) : Prop :=
  ∀ j oj, ops[j]? = some oj → listed.getD j false = true → ∀ e ∈ oj.after, Region.binds md e = true → listed.getD e.on false = true

theorem ListedClosed.set {listed : Array Bool} {i : Nat} (h : ListedClosed md ops listed) (hi : i ∈ Region.ready md ops listed) : ListedClosed md ops (listed.setIfInBounds i true) := by
  obtain ⟨_, oi, hoi, hall⟩ := mem_ready.1 hi
  intro j oj hj hl e he hb
  by_cases hij : i = j
  · subst hij
    have : oj = oi := Option.some.inj (hj.symm.trans hoi)
    subst this
    exact getD_set_true (hall e he hb)
  · rw [getD_set_ne false hij] at hl
    exact getD_set_true (h j oj hj hl e he hb)

/-- Whatever order is picked from here on, AND 'S' HOLDS BEHIND EVERY OPERATION THAT IS CARRIED OUT, those of ds apart. -/
def wpAnyLast (P : Program) (md : Region.Mode) (ops : Array Oper) (Q : Exit → Act → World → Prop) (S : World → Prop) (ds : List Nat) : Nat → Array Bool → Act → World → Prop
  | 0, listed, a, w => Region.ready md ops listed = [] ∧ Q .normal a w
  | fuel + 1, listed, a, w =>
    (Region.ready md ops listed = [] → Q .normal a w) ∧
    ∀ i ∈ Region.ready md ops listed, wpOp P ops Q i (fun a' w' => (i ∉ ds → S w → S w') ∧ wpAnyLast P md ops Q S ds fuel (listed.setIfInBounds i true) a' w') a w

theorem wpAnyLast_all {rs : List Nat} {fuel : Nat} {listed : Array Bool} {a : Act} {w : World} (hr : Region.ready md ops listed = rs) (hne : rs ≠ [])
    (h : ∀ i ∈ rs, wpOp P ops Q i (fun a' w' => (i ∉ ds → S w → S w') ∧ wpAnyLast P md ops Q S ds fuel (listed.setIfInBounds i true) a' w') a w) : wpAnyLast P md ops Q S ds (fuel + 1) listed a w :=
  ⟨fun h0 => absurd (hr ▸ h0) hne, hr ▸ h⟩

end

section
variable {P : Program} {ops : Array Oper} {Q : Exit → Act → World → Prop} {md : Region.Mode} {S : World → Prop} {ds : List Nat}

def AllReadyL (P : Program) (md : Region.Mode) (ops : Array Oper) (Q : Exit → Act → World → Prop) (S : World → Prop) (ds : List Nat) (fuel : Nat) (listed : Array Bool) (a : Act) (w : World) (rs : List Nat) : Prop :=
  ∀ i ∈ rs, wpOp P ops Q i (fun a' w' => (i ∉ ds → S w → S w') ∧ wpAnyLast P md ops Q S ds fuel (listed.setIfInBounds i true) a' w') a w
theorem AllReadyL.nil {fuel : Nat} {listed : Array Bool} {a : Act} {w : World} : AllReadyL P md ops Q S ds fuel listed a w [] := fun _ h => by cases h
theorem AllReadyL.cons {fuel : Nat} {listed : Array Bool} {a : Act} {w : World} {i : Nat} {o : Oper} {rs : List Nat} (ho : ops[i]? = some o) (hd : i ∉ ds)
    (h : ∀ K' : Act → World → Prop, Shut (∀ a w, S w → (S w → wpAnyLast P md ops Q S ds fuel (listed.setIfInBounds i true) a w) → K' a w) → if Region.wanted o (yielded ops a.tmps) = true then Oper.wp P o a w K' Q else K' (a.put o.dst undef) w)
    (hs : AllReadyL P md ops Q S ds fuel listed a w rs) : AllReadyL P md ops Q S ds fuel listed a w (i :: rs) := fun j hj => by
  rcases List.mem_cons.1 hj with rfl | hj
  · exact wpOp_step ho (fun K' hK => h K' (fun a w hS hW => hK a w ⟨fun _ _ => hS, hW hS⟩))
  · exact hs j hj
theorem wpAnyLast_ready {rs : List Nat} {fuel : Nat} {listed : Array Bool} {a : Act} {w : World} (hr : Region.ready md ops listed = rs) (hne : rs ≠ [])
    (h : AllReadyL P md ops Q S ds fuel listed a w rs) : wpAnyLast P md ops Q S ds (fuel + 1) listed a w := wpAnyLast_all hr hne h
def readyB (md : Region.Mode) (ops : Array Oper) (l l' : Array Bool) (i : Nat) : Bool := (Region.ready md ops l == [i]) && (l.setIfInBounds i true == l')
/-- One operation alone may come up now (a call, a build, an append ..): it is run, S is shown behind it. -/
theorem one_ {i : Nat} {N : Option Tmp} {oi : Oper} {fuel : Nat} {l : Array Bool} {a : Act} {w : World} (l' : Array Bool) (hi : ops[i]? = some oi) (hN : oi.dst = N) (hc : readyB md ops l l' i = true) (hd : i ∉ ds)
    (h : ∀ K : Act → World → Prop, Shut (∀ a' w', S w' → (S w' → wpAnyLast P md ops Q S ds fuel l' a' w') → K a' w') → if Region.wanted oi (yielded ops a.tmps) = true then Oper.wp P oi a w K Q else K (a.put N undef) w) :
    wpAnyLast P md ops Q S ds (fuel + 1) l a w := by
  subst hN
  simp only [readyB, Bool.and_eq_true, beq_iff_eq] at hc
  obtain ⟨h1, h2⟩ := hc
  subst h2
  exact wpAnyLast_ready h1 (by simp) (AllReadyL.cons hi hd (fun K hK => h K hK) AllReadyL.nil)
/-! ### Several operations that write or call may come up: each order is walked, what follows is shown once (join_) -/
theorem two_ {i j : Nat} {Ni Nj : Option Tmp} {oi oj : Oper} {fuel : Nat} {l : Array Bool} {a : Act} {w : World} (li lj : Array Bool) (hi : ops[i]? = some oi) (hj : ops[j]? = some oj) (hNi : oi.dst = Ni) (hNj : oj.dst = Nj)
    (hc : (Region.ready md ops l == [i, j] && l.setIfInBounds i true == li && l.setIfInBounds j true == lj) = true) (hdi : i ∉ ds) (hdj : j ∉ ds)
    (h1 : ∀ K : Act → World → Prop, Shut (∀ a' w', S w' → (S w' → wpAnyLast P md ops Q S ds fuel li a' w') → K a' w') → if Region.wanted oi (yielded ops a.tmps) = true then Oper.wp P oi a w K Q else K (a.put Ni undef) w)
    (h2 : ∀ K : Act → World → Prop, Shut (∀ a' w', S w' → (S w' → wpAnyLast P md ops Q S ds fuel lj a' w') → K a' w') → if Region.wanted oj (yielded ops a.tmps) = true then Oper.wp P oj a w K Q else K (a.put Nj undef) w) :
    wpAnyLast P md ops Q S ds (fuel + 1) l a w := by
  subst hNi
  subst hNj
  simp only [Bool.and_eq_true, beq_iff_eq] at hc
  obtain ⟨⟨h3, h4⟩, h5⟩ := hc
  subst h4
  subst h5
  exact wpAnyLast_ready h3 (by simp) (AllReadyL.cons hi hdi (fun K hK => h1 K hK) (AllReadyL.cons hj hdj (fun K hK => h2 K hK) AllReadyL.nil))
theorem three_ {i j k : Nat} {Ni Nj Nk : Option Tmp} {oi oj ok : Oper} {fuel : Nat} {l : Array Bool} {a : Act} {w : World} (li lj lk : Array Bool) (hi : ops[i]? = some oi) (hj : ops[j]? = some oj) (hk : ops[k]? = some ok) (hNi : oi.dst = Ni) (hNj : oj.dst = Nj) (hNk : ok.dst = Nk)
    (hc : (Region.ready md ops l == [i, j, k] && l.setIfInBounds i true == li && l.setIfInBounds j true == lj && l.setIfInBounds k true == lk) = true) (hdi : i ∉ ds) (hdj : j ∉ ds) (hdk : k ∉ ds)
    (h1 : ∀ K : Act → World → Prop, Shut (∀ a' w', S w' → (S w' → wpAnyLast P md ops Q S ds fuel li a' w') → K a' w') → if Region.wanted oi (yielded ops a.tmps) = true then Oper.wp P oi a w K Q else K (a.put Ni undef) w)
    (h2 : ∀ K : Act → World → Prop, Shut (∀ a' w', S w' → (S w' → wpAnyLast P md ops Q S ds fuel lj a' w') → K a' w') → if Region.wanted oj (yielded ops a.tmps) = true then Oper.wp P oj a w K Q else K (a.put Nj undef) w)
    (h3 : ∀ K : Act → World → Prop, Shut (∀ a' w', S w' → (S w' → wpAnyLast P md ops Q S ds fuel lk a' w') → K a' w') → if Region.wanted ok (yielded ops a.tmps) = true then Oper.wp P ok a w K Q else K (a.put Nk undef) w) :
    wpAnyLast P md ops Q S ds (fuel + 1) l a w := by
  subst hNi
  subst hNj
  subst hNk
  simp only [Bool.and_eq_true, beq_iff_eq] at hc
  obtain ⟨⟨⟨h4, h5⟩, h6⟩, h7⟩ := hc
  subst h5
  subst h6
  subst h7
  exact wpAnyLast_ready h4 (by simp) (AllReadyL.cons hi hdi (fun K hK => h1 K hK) (AllReadyL.cons hj hdj (fun K hK => h2 K hK) (AllReadyL.cons hk hdk (fun K hK => h3 K hK) AllReadyL.nil)))
/-- The act with some destinations filled. -/
def putAll : Act → List (Tmp × Value) → Act
  | a, [] => a
  | a, (n, v) :: r => putAll (a.put (some n) v) r
/-- What follows, once: s the values that the orders leave, F what is known of them and of the world. -/
theorem join_ {σ : Type} {fuel : Nat} {l : Array Bool} {a : Act} {w : World} (fuel' : Nat) (l' : Array Bool) (ns : σ → List (Tmp × Value)) (F : σ → World → Prop)
    (hcont : ∀ s w', F s w' → wpAnyLast P md ops Q S ds fuel' l' (putAll a (ns s)) w')
    (h : (∀ s w', F s w' → wpAnyLast P md ops Q S ds fuel' l' (putAll a (ns s)) w') → wpAnyLast P md ops Q S ds fuel l a w) : wpAnyLast P md ops Q S ds fuel l a w := h hcont
end
end Go.Proofs.YtcakgennlliejaaGreatDoorW.PrintLast
/-! ### 50. A region's order in a table, made once a region: each step asks the table (numbers alone), not the operations -/
namespace Go.Proofs.YtcakgennlliejaaGreatDoorW.PrintLast
open Go.Proofs.YtcakgennlliejaaGreatDoorW.PrintWords (Aside0)
section
variable {md : Region.Mode} {ops : Array Oper} {T : Bool × List (List Nat × List Nat)} {l l' li lj lk : Array Bool} {ds : List Nat} {i j k : Nat}
end
end Go.Proofs.YtcakgennlliejaaGreatDoorW.PrintLast
/-! ### 56. Four, five, six operations that may come up next, in any order -/
namespace Go.Proofs.YtcakgennlliejaaGreatDoorW.PrintLast
section
variable {P : Program} {ops : Array Oper} {Q : Exit → Act → World → Prop} {md : Region.Mode} {S : World → Prop} {ds : List Nat} {T : Bool × List (List Nat × List Nat)}
end
end Go.Proofs.YtcakgennlliejaaGreatDoorW.PrintLast
/-! ### 39. Stores into a row that may begin inside its block (Q): Q_form, Q_elem, Q_seg; scalars: Q_cell, Q_putg -/
namespace Go.Proofs.YtcakgennlliejaaGreatDoorW.PrintWords
open Go.RowKit
namespace Kd
section
variable {α : Type} {d : Kd α} {e base g o n cap : Nat} {ok okp : Nat → Prop} {w W : World} {v : Value} {xs : List α}
theorem Q_form (h : d.Q e w base ok v xs) (hp : 0 < xs.length) : ∃ g o cap, v = .slice (some ⟨g, o, none⟩) xs.length cap ∧ base ≤ g ∧ g < w.heap.size ∧ ∃ cells, w.heap[g]? = some (.cells cells e (0, 0)) := by
  obtain ⟨h0, inner, hq, hr⟩ := h
  rcases hq.2 with ⟨h1, _⟩ | ⟨g, off, cap, cur, rfl, hb, hh, r⟩
  · omega
  · exact ⟨g, off * d.sz, cap, rfl, hb, blk_lt hh, cur, hh⟩
/-- Element i of such a row: its cells. -/
theorem Q_elem (h : d.Q e W base ok (.slice (some ⟨g, o, none⟩) n cap) xs) (z : α) (i : Int) (h0 : 0 ≤ i) (h1 : i < n) :
    ∃ c, c.length = d.sz ∧ d.M W base (fun k => ok k ∧ k ≠ g) (xs.getD i.toNat z) c ∧ (∀ j u, c[j]? = some u → W.cell? ⟨g, o + i.toNat * d.sz + j, none⟩ = some u) ∧ ∀ j, W.frozen? ⟨g, o + i.toNat * d.sz + j, none⟩ = false := by
  obtain ⟨hn, hnc, hC⟩ := Q_reads' h
  obtain ⟨_, inner, ho, hr⟩ := h
  have hil : i.toNat < xs.length := by omega
  have hseg : i.toNat * d.sz + d.sz ≤ inner.length := by rw [hr.1, ← Nat.succ_mul]; exact Nat.mul_le_mul_right _ hil
  have hM := hr.2 i.toNat _ (List.getElem?_eq_getElem hil)
  refine ⟨(inner.drop (i.toNat * d.sz)).take d.sz, by rw [List.length_take, List.length_drop]; omega, ?_, fun j u hu => ?_, fun j => ?_⟩
  · rw [List.getD_eq_getElem?_getD, List.getElem?_eq_getElem hil]
    exact d.M_mono (fun k hk => ⟨hk.1, fun he => hk.2 (by rw [he]; simp [Value.ownBlock])⟩) hM
  · rw [List.getElem?_take] at hu
    split at hu
    · rw [List.getElem?_drop] at hu
      subst hn
      obtain ⟨ad, he, hc⟩ := q_cells ho (by omega)
      injection he with he
      subst he
      have := hc _ u hu
      rwa [add_at, ← Nat.add_assoc] at this
    · cases hu
  · obtain ⟨_, cells, hc⟩ := q_typed ho g (by simp [Value.ownBlock])
    exact blk_frozen hc _
/-- A run of cells of element i is written: element i is x' then. c: the element's cells before (Q_elem). -/
theorem Q_seg (h : d.Q e W base ok (.slice (some ⟨g, o, none⟩) n cap) xs) (i : Int) (h0 : 0 ≤ i) (h1 : i < n) {c seg : List Value} {j : Nat} (hcl : c.length = d.sz) (hcc : ∀ j u, c[j]? = some u → W.cell? ⟨g, o + i.toNat * d.sz + j, none⟩ = some u)
    (hj : j + seg.length ≤ d.sz) {x' : α} (hM : d.M W base okp x' (c.take j ++ seg ++ c.drop (j + seg.length))) (hokp : ∀ k, okp k → ok k ∧ k ≠ g) :
    d.Q e (W.setCells g (o + i.toNat * d.sz + j) seg) base ok (.slice (some ⟨g, o, none⟩) n cap) (xs.set i.toNat x') ∧ W.grownBy (W.setCells g (o + i.toNat * d.sz + j) seg) (some g) := by
  obtain ⟨hn, hnc, _⟩ := Q_reads' h
  obtain ⟨hok, inner, ho, hr⟩ := h
  have hil : i.toNat < xs.length := by omega
  have hseg : i.toNat * d.sz + d.sz ≤ inner.length := by rw [hr.1, ← Nat.succ_mul]; exact Nat.mul_le_mul_right _ hil
  have hin : inner.length = n * d.sz := by rw [hr.1, hn]
  obtain ⟨ho1, ho2⟩ := ho
  rcases ho2 with ⟨hz, _⟩ | ⟨g', off, cap', cur, hv, hb, hh, hnc', hcm, hcs, ht⟩
  · omega
  injection hv with ha _ hc
  injection ha with ha
  injection ha with hg hoff
  subst hg; subst hc; subst hoff
  have hcap : n * d.sz ≤ cap * d.sz := Nat.mul_le_mul_right _ hnc
  have hcs' : cur.size = off * d.sz + cap * d.sz := by rw [hcs, Nat.add_mul]
  have hfit : off * d.sz + i.toNat * d.sz + j + seg.length ≤ cur.size := by omega
  obtain ⟨cur', h3, h4, h5⟩ := setCells_row seg (off * d.sz + i.toNat * d.sz + j) W cur hh hfit
  obtain ⟨s1, s2, s3, s4⟩ := setCells_same g seg (off * d.sz + i.toNat * d.sz + j) W
  have hfar : ∀ k, k ≠ g → (W.setCells g (off * d.sz + i.toNat * d.sz + j) seg).heap[k]? = W.heap[k]? := fun k hk => setCells_far seg _ k hk
  rw [← hn] at ht
  -- the row's cells are the block's from off on
  have hat : ∀ q, q < n * d.sz → cur.toList[off * d.sz + q]? = inner[q]? := by
    intro q hq
    rw [← ht, List.getElem?_take, if_pos hq, List.getElem?_drop]
  have hcin : ∀ q, q < d.sz → c[q]? = inner[i.toNat * d.sz + q]? := by
    intro q hq
    have hq' : q < c.length := by omega
    have h6 := hcc q _ (List.getElem?_eq_getElem hq')
    rw [cell_of_row W g _ cur e (0, 0) hh] at h6
    rw [List.getElem?_eq_getElem hq', ← h6, ← hat _ (by omega), Array.getElem?_toList, Nat.add_assoc]
  refine ⟨⟨hok, inner.take (i.toNat * d.sz + j) ++ seg ++ inner.drop (i.toNat * d.sz + j + seg.length), ⟨?_, .inr ⟨g, off, cap, cur', by rw [List.length_set, hn], hb, h3, by rw [List.length_set, ← hn]; exact hnc, hcm, by rw [h4, hcs], ?_⟩⟩, ?_⟩,
    ⟨s1, s2, s3, by rw [s4]; exact Nat.le_refl _, fun k _ hk => hfar k (fun he => hk (by rw [he]))⟩⟩
  · rw [List.length_set]
    simp only [List.length_append, List.length_take, List.length_drop]
    rw [hr.1] at hseg ⊢
    omega
  · rw [List.length_set, ← hn]
    apply List.ext_getElem?
    intro q
    rw [List.getElem?_take, List.getElem?_drop, h5]
    rw [seg_get cur.toList seg (off * d.sz + i.toNat * d.sz + j) (by rw [Array.length_toList]; omega) (off * d.sz + q), seg_get inner seg (i.toNat * d.sz + j) (by omega) q]
    by_cases hq : q < n * d.sz
    · rw [if_pos hq]
      by_cases hq1 : q < i.toNat * d.sz + j
      · rw [if_pos (by omega), if_pos hq1, hat q hq]
      · rw [if_neg (by omega), if_neg hq1]
        by_cases hq2 : q < i.toNat * d.sz + j + seg.length
        · rw [if_pos (by omega), if_pos hq2]
          congr 1
          omega
        · rw [if_neg (by omega), if_neg hq2, hat q hq]
    · rw [if_neg hq, if_neg (by omega), if_neg (by omega), List.getElem?_eq_none (by omega)]
  · refine ⟨?_, fun m p hm => ?_⟩
    · rw [List.length_set]
      simp only [List.length_append, List.length_take, List.length_drop]
      rw [hr.1] at hseg ⊢
      omega
    · have hml : m < xs.length := by
        have := (List.getElem?_eq_some_iff.1 hm).1
        rwa [List.length_set] at this
      have hmfit : m * d.sz + d.sz ≤ inner.length := by rw [hr.1, ← Nat.succ_mul]; exact Nat.mul_le_mul_right _ hml
      have hgo : some g = (Value.slice (some ⟨g, off * d.sz, none⟩) n cap).ownBlock := by simp [Value.ownBlock]
      by_cases hmi : m = i.toNat
      · subst hmi
        rw [List.getElem?_set_self (by omega)] at hm
        injection hm with hm
        subst hm
        have hcells : ((inner.take (i.toNat * d.sz + j) ++ seg ++ inner.drop (i.toNat * d.sz + j + seg.length)).drop (i.toNat * d.sz)).take d.sz = c.take j ++ seg ++ c.drop (j + seg.length) := by
          apply List.ext_getElem?
          intro q
          rw [List.getElem?_take, List.getElem?_drop, seg_get inner seg _ (by omega), seg_get c seg j (by omega) q]
          by_cases hq : q < d.sz
          · rw [if_pos hq, hcin q hq]
            by_cases hq1 : q < j
            · rw [if_pos (by omega), if_pos hq1]
            · rw [if_neg (by omega), if_neg hq1]
              by_cases hq2 : q < j + seg.length
              · rw [if_pos (by omega), if_pos hq2]
                congr 1
                omega
              · rw [if_neg (by omega), if_neg hq2]
          · rw [if_neg hq, if_neg (by omega), if_neg (by omega), List.getElem?_eq_none (by omega)]
        rw [hcells]
        refine d.M_mono (fun k hk => ?_) (d.M_move (w1 := W.setCells g (off * d.sz + i.toNat * d.sz + j) seg) (fun k hk => hfar k (hokp k hk).2) hM)
        exact ⟨(hokp k hk).1, fun he => (hokp k hk).2 (by rw [← hgo] at he; injection he)⟩
      · rw [List.getElem?_set_ne (by omega)] at hm
        have hold := hr.2 m p hm
        have hcells : ((inner.take (i.toNat * d.sz + j) ++ seg ++ inner.drop (i.toNat * d.sz + j + seg.length)).drop (m * d.sz)).take d.sz = (inner.drop (m * d.sz)).take d.sz := by
          apply List.ext_getElem?
          intro q
          rw [List.getElem?_take, List.getElem?_take, List.getElem?_drop, List.getElem?_drop, seg_get inner seg _ (by omega)]
          by_cases hq : q < d.sz
          · rw [if_pos hq, if_pos hq]
            rcases Nat.lt_or_gt_of_ne hmi with hlt | hgt
            · have : m * d.sz + d.sz ≤ i.toNat * d.sz := by rw [← Nat.succ_mul]; exact Nat.mul_le_mul_right _ hlt
              rw [if_pos (by omega)]
            · have : i.toNat * d.sz + d.sz ≤ m * d.sz := by rw [← Nat.succ_mul]; exact Nat.mul_le_mul_right _ hgt
              rw [if_neg (by omega), if_neg (by omega)]
          · rw [if_neg hq, if_neg hq]
        rw [hcells]
        refine d.M_move (fun k hk => hfar k (fun he => hk.2 (by rw [he]; exact hgo))) hold
end
section
variable {α : Type} {enc : α → Value} {h1 : ∀ x, (enc x).oneCell' = true} {e base g o n cap : Nat} {ok : Nat → Prop} {W : World} {xs : List α}
theorem Q_cell (d : α) (h : (scalar enc h1).Q e W base ok (.slice (some ⟨g, o, none⟩) n cap) xs) (i : Int) (h0 : 0 ≤ i) (hi : i < n) : W.cell? ⟨g, o + i.toNat, none⟩ = some (enc (rdOf d xs i)) ∧ W.frozen? ⟨g, o + i.toNat, none⟩ = false := by
  obtain ⟨c, _, hM, hcc, hf⟩ := Q_elem h d i h0 hi
  have hM' : c = [enc (xs.getD i.toNat d)] := hM
  subst hM'
  have h2 := hcc 0 _ rfl
  have h3 := hf 0
  rw [show (scalar enc h1).sz = 1 from rfl, Nat.mul_one, Nat.add_zero] at h2 h3
  exact ⟨h2, h3⟩
theorem Q_putg (h : (scalar enc h1).Q e W base ok (.slice (some ⟨g, o, none⟩) n cap) xs) (i : Int) (h0 : 0 ≤ i) (hi : i < n) (x : α) : (scalar enc h1).Q e (W.setCell ⟨g, o + i.toNat, none⟩ (enc x)) base ok (.slice (some ⟨g, o, none⟩) n cap) (xs.set i.toNat x) ∧ W.grownBy (W.setCell ⟨g, o + i.toNat, none⟩ (enc x)) (some g) := by
  have hp : 0 < xs.length := by have := (Q_reads' h).1; omega
  obtain ⟨c, hcl, _, hcc, _⟩ := Q_elem h (xs[0]'hp) i h0 hi
  have h2 := Q_seg h i h0 hi (c := c) (seg := [enc x]) (j := 0) (okp := fun _ => False) (x' := x) hcl hcc (Nat.le_refl 1) (by
    have hl : c.length = 1 := hcl
    show c.take 0 ++ [enc x] ++ c.drop (0 + 1) = [enc x]
    rw [List.drop_eq_nil_of_le (by omega)]
    rfl) (fun _ hk => hk.elim)
  rw [show (scalar enc h1).sz = 1 from rfl, Nat.mul_one, Nat.add_zero] at h2
  exact h2
end
end Kd
end Go.Proofs.YtcakgennlliejaaGreatDoorW.PrintWords
/-! ### 40. Elements whose inner rows lie apart: what is stored into one says nothing of the others.
   S: as R, with an owner function f (block to element's index). H: as S with a hole: of element i its cells alone are told, its blocks are oki. -/
namespace Go.Proofs.YtcakgennlliejaaGreatDoorW.PrintWords
open Go.RowKit
namespace Kd
/-- An element with its index: its blocks are those that f gives to it. -/
def tag {α : Type} (f : Nat → Nat) (d : Kd α) : Kd (α × Nat) where
  sz := d.sz
  E := d.E
  K := fun w x cs => d.K w x.1 cs
  M := fun w base ok x cs => d.M w base (fun k => ok k ∧ f k = x.2) x.1 cs
  K_len := fun h => d.K_len h
  K_one := fun h => d.K_one h
  K_below := fun hb h => d.K_below hb h
  K_of_M := fun h => d.K_of_M h
  M_mono := fun hok h => d.M_mono (fun k hk => ⟨hok k hk.1, hk.2⟩) h
  M_bound := fun h => d.M_mono (fun _ hk => ⟨⟨hk.1.1, hk.2⟩, hk.1.2⟩) (d.M_bound h)
  M_move := fun hm h => d.M_move (fun k hk => hm k hk.1) h
  M_lower := fun hb h => d.M_lower hb h
/-- The cells themselves. -/
def raw (sz : Nat) : Kd (List Value) where
  sz := sz
  E := []
  K := fun _ x cs => cs = x ∧ cs.length = sz ∧ ∀ u ∈ cs, u.oneCell' = true
  M := fun _ _ _ x cs => cs = x ∧ cs.length = sz ∧ ∀ u ∈ cs, u.oneCell' = true
  K_len := fun h => h.2.1
  K_one := fun h => h.2.2
  K_below := fun _ h => h
  K_of_M := fun h => h
  M_mono := fun _ h => h
  M_bound := fun h => h
  M_move := fun _ h => h
  M_lower := fun _ h => h
/-- A row of elements (type e) of the call's own, no two of which lead to one block. -/
def S {α : Type} (d : Kd α) (e : Nat) (w : World) (base : Nat) (ok : Nat → Prop) (v : Value) (xs : List α) : Prop := ∃ f, (tag f d).R e w base ok v xs.zipIdx
section
variable {α β : Type} {d : Kd α} {d' : Kd β} {e e' : Nat} {w w1 W : World} {base b : Nat} {ok ok' okv oku : Nat → Prop} {u v : Value} {xs : List α} {ys : List β}
theorem zip_at {xs : List α} {j : Nat} {p : α} (h : xs[j]? = some p) : xs.zipIdx[j]? = some (p, j) := by rw [List.getElem?_zipIdx, h, Nat.zero_add]; rfl
theorem S_R (h : S d e w base ok v xs) : d.R e w base ok v xs := by
  obtain ⟨f, h0, inner, ho, hr⟩ := h
  rw [List.length_zipIdx] at ho
  exact ⟨h0, inner, ho, by have := hr.1; rw [List.length_zipIdx] at this; exact this, fun j p hj => d.M_mono (fun _ hk => hk.1) (hr.2 j (p, j) (zip_at hj))⟩
/-- Where a row begins (any row of one's own begins at its block's head). -/
theorem R_head {ad : Addr} {n cap : Nat} (h : d.R e w base ok (.slice (some ad) n cap) xs) : ∃ g, ad = ⟨g, 0, none⟩ := by
  obtain ⟨_, inner, ho, hr⟩ := h
  rcases ho.2 with ⟨hv, _⟩ | ⟨g, cap', cur, hv, _⟩
  · cases hv
  · injection hv with ha _ _
    injection ha with ha
    exact ⟨g, ha⟩
theorem R_getA {ad : Addr} {n cap : Nat} (h : d.R e W base ok (.slice (some ad) n cap) xs) (z : α) (i : Int) (h0 : 0 ≤ i) (h1 : i < n) :
    ∃ c, c.length = d.sz ∧ d.M W base (fun k => ok k ∧ some k ≠ (Value.slice (some ad) n cap).ownBlock) (xs.getD i.toNat z) c ∧ ∀ j u, c[j]? = some u → W.cell? (ad.add (i.toNat * d.sz + j)) = some u := by
  obtain ⟨g, rfl⟩ := R_head h
  obtain ⟨c, hcl, hM, hcc, _⟩ := R_elem h z i h0 h1
  refine ⟨c, hcl, d.M_mono (fun k hk => ⟨hk.1, fun he => hk.2 (by simpa [Value.ownBlock] using he)⟩) hM, fun j u hu => ?_⟩
  rw [add_at, Nat.zero_add]
  exact hcc j u hu
end
section
variable {α β : Type} {d : Kd α} {d' : Kd β} {e e' g : Nat} {w w1 W : World} {base b : Nat} {ok ok' okv oku : Nat → Prop} {u v : Value} {xs : List α} {ys : List β}
/-- Only read: its cells and what it leads to, as_ the row has them. -/
theorem S_get {ad : Addr} {n cap : Nat} (h : S d e W base ok (.slice (some ad) n cap) xs) (z : α) (i : Int) (h0 : 0 ≤ i) (h1 : i < n) :
    ∃ c, c.length = d.sz ∧ d.M W base (fun k => ok k ∧ some k ≠ (Value.slice (some ad) n cap).ownBlock) (xs.getD i.toNat z) c ∧ ∀ j u, c[j]? = some u → W.cell? (ad.add (i.toNat * d.sz + j)) = some u := R_getA (S_R h) z i h0 h1
end
/-! #### append, make, literals: the new element's blocks are none of the elder ones' -/
section
variable {P : Program} {ops : Array Oper} {rest : List Oper} {o : Oper} {a : Act} {Q : Exit → Act → World → Prop} {Kc : Act → World → Prop} {α : Type}
end
/-! #### a row with a hole: element i is lent, its blocks are oki; of it the row says its cells alone -/
/-- Element i is these cells; the others are d's. -/
def gap {α : Type} (f : Nat → Nat) (d : Kd α) (i : Nat) (c : List Value) : Kd (α × Nat) where
  sz := d.sz
  E := d.E
  K := fun w x cs => (x.2 = i → cs = c ∧ cs.length = d.sz ∧ ∀ u ∈ cs, u.oneCell' = true) ∧ (x.2 ≠ i → d.K w x.1 cs)
  M := fun w base ok x cs => (x.2 = i → cs = c ∧ cs.length = d.sz ∧ ∀ u ∈ cs, u.oneCell' = true) ∧ (x.2 ≠ i → d.M w base (fun k => ok k ∧ f k = x.2) x.1 cs)
  K_len := fun {w x cs} h => by
    by_cases hx : x.2 = i
    · exact (h.1 hx).2.1
    · exact d.K_len (h.2 hx)
  K_one := fun {w x cs} h => by
    by_cases hx : x.2 = i
    · exact (h.1 hx).2.2
    · exact d.K_one (h.2 hx)
  K_below := fun hb h => ⟨h.1, fun hx => d.K_below hb (h.2 hx)⟩
  K_of_M := fun h => ⟨h.1, fun hx => d.K_of_M (h.2 hx)⟩
  M_mono := fun hok h => ⟨h.1, fun hx => d.M_mono (fun k hk => ⟨hok k hk.1, hk.2⟩) (h.2 hx)⟩
  M_bound := fun h => ⟨h.1, fun hx => d.M_mono (fun _ hk => ⟨⟨hk.1.1, hk.2⟩, hk.1.2⟩) (d.M_bound (h.2 hx))⟩
  M_move := fun hm h => ⟨h.1, fun hx => d.M_move (fun k hk => hm k hk.1) (h.2 hx)⟩
  M_lower := fun hb h => ⟨h.1, fun hx => d.M_lower hb (h.2 hx)⟩
def H {α : Type} (d : Kd α) (e : Nat) (w : World) (base : Nat) (ok : Nat → Prop) (v : Value) (xs : List α) (i : Int) (oki : Nat → Prop) (c : List Value) : Prop :=
  (∀ k, oki k → ok k) ∧ ∃ f, (gap f d i.toNat c).R e w base (fun k => ok k ∧ ¬ oki k) v xs.zipIdx
section
variable {α β : Type} {d : Kd α} {e e' g n cap : Nat} {w w1 W : World} {base : Nat} {ok ok' oki okp : Nat → Prop} {u v : Value} {xs : List α} {i : Int} {c : List Value}
end
section
variable {P : Program} {ops : Array Oper} {rest : List Oper} {o : Oper} {a : Act} {Q : Exit → Act → World → Prop} {α : Type}
end
end Kd
end Go.Proofs.YtcakgennlliejaaGreatDoorW.PrintWords
/-! ### 41. Arrays '[n]T' as_ values: a kind (a field, an element of a row), an element read, an element set -/
namespace Go.Proofs.YtcakgennlliejaaGreatDoorW.PrintWords
open Go.RowKit
namespace Kd
section
variable {α : Type} {n : Nat} {d : Kd α} {hs : 0 < d.sz} {w : World} {base : Nat} {ok : Nat → Prop} {xs : List α} {cs : List Value}
end
section
variable {α : Type} {n : Nat} {enc : α → Value} {h1 : ∀ x, (enc x).oneCell' = true} {hs : 0 < (scalar enc h1).sz} {w : World} {base : Nat} {ok : Nat → Prop} {xs : List α} {cs : List Value}
end
end Kd
end Go.Proofs.YtcakgennlliejaaGreatDoorW.PrintWords
