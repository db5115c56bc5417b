import Derived.Test.YtgabkgomjdlgnaaDoorMonA
import Derived.Maps.OwnSet
import Derived.Maps.OwnOps
namespace Go.Proofs.YtgabkgomjdlgnaaDoor
open Go.RowKit Go.Lib
set_option linter.unusedVariables false
set_option linter.unusedSimpArgs false

theorem wpList_insert_in {H : Type} {P : Program} {ops : Array Oper} {rest : List Oper} {o : Oper} {a : Act} {w : World} {Q : Exit → Act → World → Prop} (hg : o.guard = none) (m x v : Operand) (t : TypeId) (hop : o.op = Op.insert t m x v)
    (k e : TypeId) (K : Maps.Keyed P k) (ht : P.underlying t = some (.map k e)) (R : Value → Option (DataW H × List MemPlace)) (b n : Nat) (D : DataW H)
    (hm : a.eval m = .map (some b)) (hown : w.ownsMap P k R b n D) (hn : n < maxLen) (key val : Value) (kl : Lit) (hx : a.eval x = key) (hv : a.eval v = val) (hkey : keyOf P k key = some kl)
    (d : DataW H) (ps : List MemPlace) (hval : R val = some (d, ps))
    (hK : ∀ w', w'.ownsMap P k R b (n + 1) (D.put kl d) → w.mapTurned w' b → wpList P ops Q rest (a.put o.dst undef) w') :
    wpList P ops Q (o :: rest) a w := by
  refine wpList_plain hg fun K' hK' => ?_
  obtain ⟨w', hrun, r1, r2⟩ := hown.store K ht hn hkey hval
  unfold Oper.wp
  simp [execOp, hop, hm, hx, hv, hrun, Result.andThen]
  exact hK' _ _ (hK w' r1 r2)

namespace Mo
/-- a function's value, read as its number -/
def funR : Value → Option (DataW Unit × List MemPlace)
  | .func (.func f) x y => if x.size = 0 ∧ y.size = 0 then some (.lit (.int .i64 f), []) else none
  | .nilFunc => some (.nil, [])
  | _ => none
/-- the table of roundings, as data -/
def waysD : DataW Unit := (((((((DataW.map []).put (.int .i64 1) (.lit (.int .i64 57))).put (.int .i64 2) (.lit (.int .i64 58))).put (.int .i64 3) (.lit (.int .i64 59))).put (.int .i64 4) (.lit (.int .i64 60))).put (.int .i64 5) (.lit (.int .i64 61))).put (.int .i64 6) (.lit (.int .i64 62)))
end Mo
theorem lawR : Maps.Keyed Tryd.prog 31 := Maps.int_keyed Tryd.underlying31
theorem keyR (n : Int) (h : (Lit.int .i64 n).wf = true) : keyOf Tryd.prog 31 (.int .i64 n) = some (.int .i64 n) := Maps.keyOf_int_mk Tryd.underlying31 h

set_option maxHeartbeats 1000000 in
set_option maxRecDepth 100000 in
theorem ways_calls (w : World) : Calls Tryd.prog 39 #[] w fun e w' => e = .returned (.map (some w.heap.size)) ∧ w'.ownsMap (H := Unit) Tryd.prog 31 Mo.funR w.heap.size 6 Mo.waysD ∧ Below w.heap.size w w' := by
  have hmm := @run_makeMap Tryd.prog
  have K1 := keyR 1 (by decide)
  have K2 := keyR 2 (by decide)
  have K3 := keyR 3 (by decide)
  have K4 := keyR 4 (by decide)
  have K5 := keyR 5 (by decide)
  have K6 := keyR 6 (by decide)
  have h0 := Lib.hid (World.ownsMap_made (H := Unit) w Tryd.prog 31 Mo.funR)
  have b0 := Lib.hid ((Keep.refl (fun i => i = w.heap.size) w).alloc (.map #[] 0))
  go_enter Tryd.func39, Tryd.ntmps39
  go_wp2_with (first
    | (refine wpList_insert_in rfl _ _ _ 73 rfl 31 71 lawR Tryd.underlying73 Mo.funR w.heap.size 0 _ rfl h0.out (by decide) _ _ _ rfl rfl K1 _ [] rfl ?_; intro w1 hw1 ht1; have h1 := Lib.hid hw1; have b1 := Lib.hid (b0.out.grown ht1.grown (fun k e _ => (Option.some.inj e).symm)); clear h0 b0 hw1 ht1)
    | (refine wpList_insert_in rfl _ _ _ 73 rfl 31 71 lawR Tryd.underlying73 Mo.funR w.heap.size 1 _ rfl h1.out (by decide) _ _ _ rfl rfl K2 _ [] rfl ?_; intro w2 hw2 ht2; have h2 := Lib.hid hw2; have b2 := Lib.hid (b1.out.grown ht2.grown (fun k e _ => (Option.some.inj e).symm)); clear h1 b1 hw2 ht2)
    | (refine wpList_insert_in rfl _ _ _ 73 rfl 31 71 lawR Tryd.underlying73 Mo.funR w.heap.size 2 _ rfl h2.out (by decide) _ _ _ rfl rfl K3 _ [] rfl ?_; intro w3 hw3 ht3; have h3 := Lib.hid hw3; have b3 := Lib.hid (b2.out.grown ht3.grown (fun k e _ => (Option.some.inj e).symm)); clear h2 b2 hw3 ht3)
    | (refine wpList_insert_in rfl _ _ _ 73 rfl 31 71 lawR Tryd.underlying73 Mo.funR w.heap.size 3 _ rfl h3.out (by decide) _ _ _ rfl rfl K4 _ [] rfl ?_; intro w4 hw4 ht4; have h4 := Lib.hid hw4; have b4 := Lib.hid (b3.out.grown ht4.grown (fun k e _ => (Option.some.inj e).symm)); clear h3 b3 hw4 ht4)
    | (refine wpList_insert_in rfl _ _ _ 73 rfl 31 71 lawR Tryd.underlying73 Mo.funR w.heap.size 4 _ rfl h4.out (by decide) _ _ _ rfl rfl K5 _ [] rfl ?_; intro w5 hw5 ht5; have h5 := Lib.hid hw5; have b5 := Lib.hid (b4.out.grown ht5.grown (fun k e _ => (Option.some.inj e).symm)); clear h4 b4 hw5 ht5)
    | (refine wpList_insert_in rfl _ _ _ 73 rfl 31 71 lawR Tryd.underlying73 Mo.funR w.heap.size 5 _ rfl h5.out (by decide) _ _ _ rfl rfl K6 _ [] rfl ?_; intro w6 hw6 ht6; have h6 := Lib.hid hw6; have b6 := Lib.hid (b5.out.grown ht6.grown (fun k e _ => (Option.some.inj e).symm)); clear h5 b5 hw6 ht6))
  go_ret
  refine ⟨rfl, h6.out, ?_⟩
  exact b6.out.toBelow (Nat.le_refl _) (fun i hi => by omega)
end Go.Proofs.YtgabkgomjdlgnaaDoor
