import Derived.Test.YtpcmhlbhepickaaGreatAmtCb
/- AmountsCuts, ready for its row -/
namespace Go.Proofs.YtpcmhlbhepickaaGreat
open Go.RowKit Go.Lib
open Go.Proofs.YtpcmhlbhepickaaGreat.PAmountsCuts
open Go.Proofs.YtpcmhlbhepickaaGreatW.PrintWords
theorem open_lines_u {H : Type} {enc : TypeId × Value → H} {W : World} {base fuel : Nat} {held : Bool} {A : Option Addr} {len cap : Nat} {d : DataW H} {ps : List MemPlace}
    (h : DataW.trod enc Tryz.prog W base (fun _ => true) held fuel 22 [.slice A len cap] = some (d, ps)) :
    ∃ l : List S26, len = l.length ∧ Kd.C k26 W A l.length l ∧ l.length ≤ cap ∧ l.length ≤ Rows.uptoBulk d := by
  obtain ⟨l, h1, h2, _, h3⟩ := open_lines h
  exact ⟨l, h1, h2.1, h2.2.1, h3⟩
theorem cuts_card (A0 : Option Addr) (c0 : Nat) (l : List S26) (most : Int) (w : World) (hC : Kd.C k26 w A0 l.length l) (hc0 : l.length ≤ c0) (hl : l.length ≤ 1048576) (_ : (Lit.int .i64 most).wf = true) :
    Calls Tryz.prog 3 #[.slice A0 l.length c0, .int .i64 most] w fun e w' => e = .returned (.bool true) ∧ Below w.heap.size w w' := cuts_walk A0 c0 l most w hC hc0 hl
end Go.Proofs.YtpcmhlbhepickaaGreat
