/-
  No cell of these rows narrows 'for every input' (looked for: loops, veiled, ifaces, maps, wideKeys, modest, calm, conditions, laid).
  DERIVED. THE GIVEN ROWS OF THIS SEAT. 4 by the template 'for every input the law returns true; each argument reads behind the call as it read before'; 0 by the template 'total and deterministic' (their statements: YtmdfgiiihmameaaTotals.lean).
  GIVEN WITH THE SEED: the statements are not yours to turn. If you find one false, say at which input.
  Laid BY PROGRAM, IN A SANDBOX (cutbox-rows.mjs): the forced cells as the released guide's own fill.sh prints them over the translation 0eeea744fa8ee846… (all of the seat's roots in one cut). By AI agents, Wed Nov 11 2026. No macro, syntax, notation, axiom, sorry.
-/
import Derived.Test.YtmdfgiiihmameaaChecked
import GoSem.Claim
import GoSem.ClaimJoined
import GoSem.ClaimMapViews
import Derived.JoinedTies
import Derived.KernelRfl
namespace Go.Proofs.Ytmdfgiiihmameaa
/- THE CELL 'sum', in the pinned program and in every row, IS THE sha256 OF THE DUMP (.gsa) THAT YtmdfgiiihmameaaProg.lean LOADS. Nothing in Lean hashes anything: it is a label: what it is worth is what the hold of that sum in a sandbox is worth. -/
noncomputable def Try.pinned : Pinned := { name := "ytmdfgiiihmameaa", sum := "0eeea744fa8ee8469aa7db96e6e300bf0684fa34ab700bc0c6f6b6f9d40c245e", checked := Try.checked }
namespace Rows
def none {H : Type} : Left H := { results := [], args := [] }

/-- 'lexpriorlaw07.SymbolsNames': WHATEVER THE INPUT: true; the input reads as it did. -/
def symbolsNamesSpec : ChangeSpec := { name := "symbolsNames", fn := fun _ => fun
  | [d1, d2] => { results := [.lit (.bool true)], args := [d1, d2] }
  | _ => none }
def symbolsNamesRow : OpenClaim := { program := "ytmdfgiiihmameaa", sum := "0eeea744fa8ee8469aa7db96e6e300bf0684fa34ab700bc0c6f6b6f9d40c245e", func := "lexprior/lexpriorlaw07.SymbolsNames", spec := "symbolsNames", inPlace := ["internal/bytealg.abigen_runtime_cmpstring", "sync/atomic.LoadUint32", "(*internal/sync.Mutex).Lock", "internal/race.Disable", "sync/atomic.CompareAndSwapInt32", "internal/race.Enable", "internal/race.Acquire", "(*internal/sync.Mutex).lockSlow", "internal/sync.runtime_canSpin", "internal/sync.runtime_doSpin", "internal/sync.throw", "internal/sync.runtime_nanotime", "internal/sync.runtime_SemacquireMutex", "sync/atomic.AddInt32", "(*internal/sync.Mutex).Unlock", "internal/race.ReleaseMerge", "(*internal/sync.Mutex).unlockSlow", "internal/sync.fatal", "internal/sync.runtime_Semrelease", "sync/atomic.StoreUint32"], unfollowed := true, recurses := true, apart := false }
def SymbolsNamesSaid : Prop := symbolsNamesRow.holds Try.pinned (OpenSpec.ofChange symbolsNamesSpec)

/-- ITS FALSE NEIGHBOUR: 'it returns false'. Refute it at one input. -/
def symbolsNamesWrong : ChangeSpec := { name := "symbolsNames", fn := fun _ => fun
  | [d1, d2] => { results := [.lit (.bool false)], args := [d1, d2] }
  | _ => none }
def SymbolsNamesWrongFalsely : Prop := symbolsNamesRow.holds Try.pinned (OpenSpec.ofChange symbolsNamesWrong)

/-- 'lexpriorlaw07.SymbolsBack': WHATEVER THE INPUT: true; the input reads as it did. -/
def symbolsBackSpec : ChangeSpec := { name := "symbolsBack", fn := fun _ => fun
  | [d] => { results := [.lit (.bool true)], args := [d] }
  | _ => none }
def symbolsBackRow : OpenClaim := { program := "ytmdfgiiihmameaa", sum := "0eeea744fa8ee8469aa7db96e6e300bf0684fa34ab700bc0c6f6b6f9d40c245e", func := "lexprior/lexpriorlaw07.SymbolsBack", spec := "symbolsBack", inPlace := ["internal/bytealg.abigen_runtime_cmpstring", "sync/atomic.LoadUint32", "(*internal/sync.Mutex).Lock", "internal/race.Disable", "sync/atomic.CompareAndSwapInt32", "internal/race.Enable", "internal/race.Acquire", "(*internal/sync.Mutex).lockSlow", "internal/sync.runtime_canSpin", "internal/sync.runtime_doSpin", "internal/sync.throw", "internal/sync.runtime_nanotime", "internal/sync.runtime_SemacquireMutex", "sync/atomic.AddInt32", "(*internal/sync.Mutex).Unlock", "internal/race.ReleaseMerge", "(*internal/sync.Mutex).unlockSlow", "internal/sync.fatal", "internal/sync.runtime_Semrelease", "sync/atomic.StoreUint32"], unfollowed := true, recurses := true, apart := false }
def SymbolsBackSaid : Prop := symbolsBackRow.holds Try.pinned (OpenSpec.ofChange symbolsBackSpec)

/-- ITS FALSE NEIGHBOUR: 'it returns false'. Refute it at one input. -/
def symbolsBackWrong : ChangeSpec := { name := "symbolsBack", fn := fun _ => fun
  | [d] => { results := [.lit (.bool false)], args := [d] }
  | _ => none }
def SymbolsBackWrongFalsely : Prop := symbolsBackRow.holds Try.pinned (OpenSpec.ofChange symbolsBackWrong)

/-- 'lexpriorlaw07.SymbolsScript': WHATEVER THE INPUT: true; the input reads as it did. -/
def symbolsScriptSpec : ChangeSpec := { name := "symbolsScript", fn := fun _ => fun
  | [d1, d2] => { results := [.lit (.bool true)], args := [d1, d2] }
  | _ => none }
def symbolsScriptRow : OpenClaim := { program := "ytmdfgiiihmameaa", sum := "0eeea744fa8ee8469aa7db96e6e300bf0684fa34ab700bc0c6f6b6f9d40c245e", func := "lexprior/lexpriorlaw07.SymbolsScript", spec := "symbolsScript", inPlace := ["internal/bytealg.abigen_runtime_cmpstring", "sync/atomic.LoadUint32", "(*internal/sync.Mutex).Lock", "internal/race.Disable", "sync/atomic.CompareAndSwapInt32", "internal/race.Enable", "internal/race.Acquire", "(*internal/sync.Mutex).lockSlow", "internal/sync.runtime_canSpin", "internal/sync.runtime_doSpin", "internal/sync.throw", "internal/sync.runtime_nanotime", "internal/sync.runtime_SemacquireMutex", "sync/atomic.AddInt32", "(*internal/sync.Mutex).Unlock", "internal/race.ReleaseMerge", "(*internal/sync.Mutex).unlockSlow", "internal/sync.fatal", "internal/sync.runtime_Semrelease", "sync/atomic.StoreUint32"], unfollowed := true, recurses := true, apart := false }
def SymbolsScriptSaid : Prop := symbolsScriptRow.holds Try.pinned (OpenSpec.ofChange symbolsScriptSpec)

/-- ITS FALSE NEIGHBOUR: 'it returns false'. Refute it at one input. -/
def symbolsScriptWrong : ChangeSpec := { name := "symbolsScript", fn := fun _ => fun
  | [d1, d2] => { results := [.lit (.bool false)], args := [d1, d2] }
  | _ => none }
def SymbolsScriptWrongFalsely : Prop := symbolsScriptRow.holds Try.pinned (OpenSpec.ofChange symbolsScriptWrong)

/-- 'lexpriorlaw07.SymbolsOwn': WHATEVER THE INPUT: true; the input reads as it did. -/
def symbolsOwnSpec : ChangeSpec := { name := "symbolsOwn", fn := fun _ => fun
  | [d] => { results := [.lit (.bool true)], args := [d] }
  | _ => none }
def symbolsOwnRow : OpenClaim := { program := "ytmdfgiiihmameaa", sum := "0eeea744fa8ee8469aa7db96e6e300bf0684fa34ab700bc0c6f6b6f9d40c245e", func := "lexprior/lexpriorlaw07.SymbolsOwn", spec := "symbolsOwn", inPlace := ["internal/bytealg.abigen_runtime_cmpstring", "sync/atomic.LoadUint32", "(*internal/sync.Mutex).Lock", "internal/race.Disable", "sync/atomic.CompareAndSwapInt32", "internal/race.Enable", "internal/race.Acquire", "(*internal/sync.Mutex).lockSlow", "internal/sync.runtime_canSpin", "internal/sync.runtime_doSpin", "internal/sync.throw", "internal/sync.runtime_nanotime", "internal/sync.runtime_SemacquireMutex", "sync/atomic.AddInt32", "(*internal/sync.Mutex).Unlock", "internal/race.ReleaseMerge", "(*internal/sync.Mutex).unlockSlow", "internal/sync.fatal", "internal/sync.runtime_Semrelease", "sync/atomic.StoreUint32"], unfollowed := true, recurses := true, apart := false }
def SymbolsOwnSaid : Prop := symbolsOwnRow.holds Try.pinned (OpenSpec.ofChange symbolsOwnSpec)

/-- ITS FALSE NEIGHBOUR: 'it returns false'. Refute it at one input. -/
def symbolsOwnWrong : ChangeSpec := { name := "symbolsOwn", fn := fun _ => fun
  | [d] => { results := [.lit (.bool false)], args := [d] }
  | _ => none }
def SymbolsOwnWrongFalsely : Prop := symbolsOwnRow.holds Try.pinned (OpenSpec.ofChange symbolsOwnWrong)

/- THE SECOND FORM. 'bulk': how many values and letters a reading holds, each counted each time it is reached (what is shared counts as often as it is met; a slice's spare places count too). A statement '..UptoSaid' is the law's where the arguments, and the package variables that the reading takes, are together of bulk at most 1048576: NARROWER than '..Said'. Prove '..Said' where nothing that the law and all that it calls make is longer than what came in: it says more and counts as full. Else prove '..UptoSaid'. A law counts once. -/
mutual
def uptoBulk {H : Type} : DataW H → Nat
  | .lit (.string bytes) => bytes.length + 1
  | .lit _ => 1
  | .nil => 1
  | .ptr d => uptoBulk d + 1
  | .slice elems spare => uptoBulkAll elems + uptoBulkAll spare + 1
  | .agg parts => uptoBulkAll parts + 1
  | .iface _ d => uptoBulk d + 1
  | .map entries => uptoBulkEntries entries + 1
  | .held _ => 1
def uptoBulkAll {H : Type} : List (DataW H) → Nat
  | [] => 0
  | d :: r => uptoBulk d + uptoBulkAll r
def uptoBulkEntries {H : Type} : List (Lit × DataW H) → Nat
  | [] => 0
  | x :: r => uptoBulkEntry x + uptoBulkEntries r
def uptoBulkEntry {H : Type} : Lit × DataW H → Nat
  | (.string bytes, d) => bytes.length + uptoBulk d + 1
  | (_, d) => uptoBulk d + 1
 end
def uptoSmall : (H : Type) → List (DataW H) → Bool := fun _ ds => decide (uptoBulkAll ds ≤ 1048576)
def OpenSpec.upto (s : _root_.Go.ChangeSpec) : _root_.Go.OpenSpec := { _root_.Go.OpenSpec.ofChange s with cond := some uptoSmall }

/-- 'lexpriorlaw07.SymbolsNames', WHERE WHAT IT READS IS OF BULK AT MOST 1048576: true; the input reads as it did. -/
def symbolsNamesUptoRow : OpenClaim := { program := "ytmdfgiiihmameaa", sum := "0eeea744fa8ee8469aa7db96e6e300bf0684fa34ab700bc0c6f6b6f9d40c245e", func := "lexprior/lexpriorlaw07.SymbolsNames", spec := "symbolsNames", inPlace := ["internal/bytealg.abigen_runtime_cmpstring", "sync/atomic.LoadUint32", "(*internal/sync.Mutex).Lock", "internal/race.Disable", "sync/atomic.CompareAndSwapInt32", "internal/race.Enable", "internal/race.Acquire", "(*internal/sync.Mutex).lockSlow", "internal/sync.runtime_canSpin", "internal/sync.runtime_doSpin", "internal/sync.throw", "internal/sync.runtime_nanotime", "internal/sync.runtime_SemacquireMutex", "sync/atomic.AddInt32", "(*internal/sync.Mutex).Unlock", "internal/race.ReleaseMerge", "(*internal/sync.Mutex).unlockSlow", "internal/sync.fatal", "internal/sync.runtime_Semrelease", "sync/atomic.StoreUint32"], unfollowed := true, recurses := true, apart := false, narrowed := true }
def SymbolsNamesUptoSaid : Prop := symbolsNamesUptoRow.holds Try.pinned (OpenSpec.upto symbolsNamesSpec)

/-- 'lexpriorlaw07.SymbolsBack', WHERE WHAT IT READS IS OF BULK AT MOST 1048576: true; the input reads as it did. -/
def symbolsBackUptoRow : OpenClaim := { program := "ytmdfgiiihmameaa", sum := "0eeea744fa8ee8469aa7db96e6e300bf0684fa34ab700bc0c6f6b6f9d40c245e", func := "lexprior/lexpriorlaw07.SymbolsBack", spec := "symbolsBack", inPlace := ["internal/bytealg.abigen_runtime_cmpstring", "sync/atomic.LoadUint32", "(*internal/sync.Mutex).Lock", "internal/race.Disable", "sync/atomic.CompareAndSwapInt32", "internal/race.Enable", "internal/race.Acquire", "(*internal/sync.Mutex).lockSlow", "internal/sync.runtime_canSpin", "internal/sync.runtime_doSpin", "internal/sync.throw", "internal/sync.runtime_nanotime", "internal/sync.runtime_SemacquireMutex", "sync/atomic.AddInt32", "(*internal/sync.Mutex).Unlock", "internal/race.ReleaseMerge", "(*internal/sync.Mutex).unlockSlow", "internal/sync.fatal", "internal/sync.runtime_Semrelease", "sync/atomic.StoreUint32"], unfollowed := true, recurses := true, apart := false, narrowed := true }
def SymbolsBackUptoSaid : Prop := symbolsBackUptoRow.holds Try.pinned (OpenSpec.upto symbolsBackSpec)

/-- 'lexpriorlaw07.SymbolsScript', WHERE WHAT IT READS IS OF BULK AT MOST 1048576: true; the input reads as it did. -/
def symbolsScriptUptoRow : OpenClaim := { program := "ytmdfgiiihmameaa", sum := "0eeea744fa8ee8469aa7db96e6e300bf0684fa34ab700bc0c6f6b6f9d40c245e", func := "lexprior/lexpriorlaw07.SymbolsScript", spec := "symbolsScript", inPlace := ["internal/bytealg.abigen_runtime_cmpstring", "sync/atomic.LoadUint32", "(*internal/sync.Mutex).Lock", "internal/race.Disable", "sync/atomic.CompareAndSwapInt32", "internal/race.Enable", "internal/race.Acquire", "(*internal/sync.Mutex).lockSlow", "internal/sync.runtime_canSpin", "internal/sync.runtime_doSpin", "internal/sync.throw", "internal/sync.runtime_nanotime", "internal/sync.runtime_SemacquireMutex", "sync/atomic.AddInt32", "(*internal/sync.Mutex).Unlock", "internal/race.ReleaseMerge", "(*internal/sync.Mutex).unlockSlow", "internal/sync.fatal", "internal/sync.runtime_Semrelease", "sync/atomic.StoreUint32"], unfollowed := true, recurses := true, apart := false, narrowed := true }
def SymbolsScriptUptoSaid : Prop := symbolsScriptUptoRow.holds Try.pinned (OpenSpec.upto symbolsScriptSpec)

/-- 'lexpriorlaw07.SymbolsOwn', WHERE WHAT IT READS IS OF BULK AT MOST 1048576: true; the input reads as it did. -/
def symbolsOwnUptoRow : OpenClaim := { program := "ytmdfgiiihmameaa", sum := "0eeea744fa8ee8469aa7db96e6e300bf0684fa34ab700bc0c6f6b6f9d40c245e", func := "lexprior/lexpriorlaw07.SymbolsOwn", spec := "symbolsOwn", inPlace := ["internal/bytealg.abigen_runtime_cmpstring", "sync/atomic.LoadUint32", "(*internal/sync.Mutex).Lock", "internal/race.Disable", "sync/atomic.CompareAndSwapInt32", "internal/race.Enable", "internal/race.Acquire", "(*internal/sync.Mutex).lockSlow", "internal/sync.runtime_canSpin", "internal/sync.runtime_doSpin", "internal/sync.throw", "internal/sync.runtime_nanotime", "internal/sync.runtime_SemacquireMutex", "sync/atomic.AddInt32", "(*internal/sync.Mutex).Unlock", "internal/race.ReleaseMerge", "(*internal/sync.Mutex).unlockSlow", "internal/sync.fatal", "internal/sync.runtime_Semrelease", "sync/atomic.StoreUint32"], unfollowed := true, recurses := true, apart := false, narrowed := true }
def SymbolsOwnUptoSaid : Prop := symbolsOwnUptoRow.holds Try.pinned (OpenSpec.upto symbolsOwnSpec)

end Rows
end Go.Proofs.Ytmdfgiiihmameaa
