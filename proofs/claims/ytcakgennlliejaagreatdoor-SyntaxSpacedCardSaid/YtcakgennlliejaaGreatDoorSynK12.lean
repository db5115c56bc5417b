import Derived.Laws.RangeAny
import Derived.Laws.RangeString
import Derived.Test.YtcakgennlliejaaGreatDoorSynK6
import Derived.Test.YtcakgennlliejaaGreatDoorSynK7
import Derived.Test.YtcakgennlliejaaGreatDoorSynK11
/- lexer: run -/
namespace Go.Proofs.YtcakgennlliejaaGreatDoor
open Go.Shelf Go.RowKit Go.Lib
open Go.Proofs.YtcakgennlliejaaGreatDoorW.PrintWords
open Go.Proofs.YtcakgennlliejaaGreatDoor.PSyntaxJoined
set_option linter.unusedVariables false
set_option linter.unusedSimpArgs false
def Sx.runL (good : Int → Bool) : List UInt8 → Nat → Nat
  | [], i => i
  | c :: l, i => if good (Sx.cls c.toNat) then runL good l (i + 1) else i
theorem Sx.runL_cons (good : Int → Bool) (c : UInt8) (l : List UInt8) (i : Nat) : Sx.runL good (c :: l) i = if good (Sx.cls c.toNat) then Sx.runL good l (i + 1) else i := rfl
theorem Sx.cls_far {c : Nat} (h : 128 ≤ c) : Sx.cls c = 0 := by
  unfold Sx.cls
  rw [if_neg (by omega), if_neg (by omega), if_neg (by omega), if_neg (by omega), if_neg (by omega)]
theorem Sx.below_iter (w : World) (s : ByteArray) (p : Nat) : Below w.heap.size w (w.iter s p) := (Below.refl _ w).alloc (Nat.le_refl _) _
theorem Sx.extract_get (s : ByteArray) (a i : Nat) (h : i < (s.extract a s.size).size) (h2 : a + i < s.size) : (s.extract a s.size)[i]'h = s[a + i]'h2 := by
  rw [ByteArray.getElem_extract]
set_option maxHeartbeats 4000000 in
set_option maxRecDepth 100000 in
theorem run_calls (good : Int → Bool) (K : FuncId)
    (eK : ∀ args w, (callFunc K args).run Tryz.prog w = .ok (.enter K args) w)
    (hg0 : good 0 = false)
    (hK : ∀ k w, Calls Tryz.prog K #[.int .i64 k] w fun e w' => e = .returned (.bool (good k)) ∧ w = w')
    (sb : Nat) (s : ByteArray) (at_ : Nat) (w : World) (hc : w.cell? ⟨sb, 0, none⟩ = some (.string s)) (ha : at_ ≤ s.size) (hz : s.size ≤ 65536) :
    Calls Tryz.prog 98 #[.pointer (some ⟨sb, 0, none⟩), .int .i64 at_, .func (.func K) #[] #[]] w fun e w' => e = .returned (.int .i64 (Sx.runL good (s.data.toList.drop at_) at_)) ∧ Below w.heap.size w w' := by
  have HK := Lib.hid hK
  have HCL := Lib.hid classOf_calls
  have HA := Lib.hid ha
  have HZ := Lib.hid hz
  obtain ⟨F, hF⟩ : ∃ F, Sx.runL good (s.data.toList.drop at_) at_ = F := ⟨_, rfl⟩
  rw [hF]
  have HF := Lib.hid hF
  have h0 : ¬ ((at_ : Int) < 0) := by omega
  have h1 : ¬ ((s.size : Int) < (at_ : Int)) := by omega
  have h2 : (0 : Int) ≤ (at_ : Int) := by omega
  have h3 : (at_ : Int) ≤ (s.size : Int) := by omega
  clear hF hK hz
  go_enter Tryz.func98, Tryz.ntmps98
  go_upto_region 2 with (fail)
  have hcw : ∀ p, (w.iter (s.extract at_ s.size) p).cell? ⟨sb, 0, none⟩ = some (.string s) := fun p => keep_cell hc (Sx.below_iter w _ p)
  have hsz : (s.extract at_ s.size).size = s.size - at_ := by rw [ByteArray.size_extract]; omega
  obtain ⟨S, hS⟩ : ∃ S, s.extract at_ s.size = S := ⟨_, rfl⟩
  have HGE := Lib.hid (fun (i : Nat) (h : i < S.size) (h2 : at_ + i < s.size) => show S[i]'h = s[at_ + i]'h2 by subst hS; exact Sx.extract_get s at_ i h h2)
  rw [hS] at hsz hcw
  try rw [hS]
  have HSZ := Lib.hid hsz
  clear hS hsz hc h0 h1 h2 h3 ha
  go_loopw [] (fun wr => ∃ i, wr = w.iter S i ∧ at_ + i ≤ s.size ∧ F = Sx.runL good (s.data.toList.drop (at_ + i)) (at_ + i)) (fun wr => s.size - World.iterPos wr w.heap.size)
  case atStart => exact ⟨0, rfl, HA.out, HF.out.symm⟩
  case round =>
    obtain ⟨i, rfl, hi, hf⟩ := hrel
    by_cases hlt : at_ + i < s.size
    · have hlS : i < S.size := by rw [HSZ.out]; omega
      have hnx := fun ty => run_next_any (P := Tryz.prog) w S i ty hlS
      obtain ⟨j, hj⟩ : ∃ j, at_ + i = j := ⟨_, rfl⟩
      have wz : IntKind.i64.wrap ((at_ : Int) + (i : Int)) = (j : Int) := by have := HZ.out; rw [IntWalk.i64_in _ (by omega)]; omega
      have hlj : j < s.size := by omega
      have y1 : (j : Int) < (s.size : Int) := by omega
      have y2 : (0 : Int) ≤ (j : Int) := by omega
      have e5 : s.data.toList.drop j = s[j] :: s.data.toList.drop (j + 1) := by
        rw [List.drop_eq_getElem_cons (show j < s.data.toList.length from hlj)]
        rfl
      rw [hj, e5, Sx.runL_cons] at hf
      have hget := HGE.out i hlS hlt
      cases hg : good (Sx.cls (s[j]).toNat)
      · rw [hg] at hf
        have HFF := Lib.hid (show F = j from hf)
        have HGK := Lib.hid hg
        clear hf e5 hget hg
        go_wp2_with (first | (go_at_call 75; refine (HCL.out _ _).mono ?_; rintro e w4 ⟨rfl, rfl⟩) | ((with_reducible refine (HK.out _ _).mono ?_); rw [HGK.out]; rintro e w4 ⟨rfl, rfl⟩))
        go_ret
        exact ⟨by rw [HFF.out]; try rfl, Sx.below_iter w _ _⟩
      · rw [hg] at hf
        have hd : (Utf8.decode S i).2 = 1 := by
          rw [decode_ascii S i hlS ?_]
          rcases Nat.lt_or_ge (s[j]).toNat 128 with h | h
          · rw [hget]; subst hj; exact h
          · rw [Sx.cls_far h, hg0] at hg; cases hg
        have HFF := Lib.hid (show F = Sx.runL good (s.data.toList.drop (j + 1)) (j + 1) from hf)
        have HGK := Lib.hid hg
        have HJ := Lib.hid hj
        have HLJ := Lib.hid hlj
        clear hf e5 hget hg
        go_wp2_with (first | (go_at_call 75; refine (HCL.out _ _).mono ?_; rintro e w4 ⟨rfl, rfl⟩) | ((with_reducible refine (HK.out _ _).mono ?_); rw [HGK.out]; rintro e w4 ⟨rfl, rfl⟩))
        go_roundw
        case rel => exact ⟨i + 1, rfl, by have h1 := HJ.out; have h2 := HLJ.out; omega, by rw [HFF.out, ← HJ.out]; rfl⟩
        case measure =>
          have h1 := HJ.out; have h2 := HLJ.out
          first | omega | (rw [World.iterPos_iter, World.iterPos_iter]; omega)
    · have hlS : ¬ i < S.size := by rw [HSZ.out]; omega
      have hnx := fun ty => run_next_end (P := Tryz.prog) w S i ty hlS
      have HFF := Lib.hid (show F = s.size by rw [hf, List.drop_eq_nil_of_le (by show s.size ≤ at_ + i; omega)]; show at_ + i = s.size; omega)
      clear hf
      go_wp2_with fail
      go_ret
      exact ⟨by rw [HFF.out]; try rfl, Sx.below_iter w _ _⟩
end Go.Proofs.YtcakgennlliejaaGreatDoor
/- syntax's reader: what its other functions answer, as plain functions -/
namespace Go.Proofs.YtcakgennlliejaaGreatDoor
open Go.Shelf Go.RowKit Go.Lib
open Go.Proofs.YtcakgennlliejaaGreatDoorW.PrintWords
open Go.Proofs.YtcakgennlliejaaGreatDoor.PSyntaxJoined
open Sx
set_option linter.unusedVariables false
set_option linter.unusedSimpArgs false
namespace Sx
/-- a statute -/
structure Stt where
  title : ByteArray
  kinds : List ByteArray
  members : List S54
  preds : List S85
  classes : List (List ByteArray)
  sources : List S117
  rules : List S93
  excepts : List S120
  totals : List S104
def noLit : S91 := ⟨false, ⟨#[]⟩, [], false, 0⟩
def noGuard : S98 := ⟨[], 0, []⟩
namespace Env
variable (V : Env)
def term (sg : Int) (p : Nat) : Res S102 :=
  if (V.next p).k == 3 && V.isT 6 ⟨#[42]⟩ (p + 1) then
    (V.whole 1 1000 p).bnd fun c q => (V.name (q + 1)).bnd fun n q2 => (V.brackets V.arg q2).bnd fun l q3 => .ok ⟨wrap64 (sg * c), n, l, 0⟩ q3
  else if (V.next p).k == 3 || V.isT 6 ⟨#[45]⟩ p then (V.money p).bnd fun m q => .ok ⟨0, ⟨#[]⟩, [], wrap64 (sg * m)⟩ q
  else (V.name p).bnd fun n q2 => (V.brackets V.arg q2).bnd fun l q3 => .ok ⟨sg, n, l, 0⟩ q3
def sumM : Nat → List S102 → Nat → Res (List S102)
  | 0, out, p => if V.isT 6 ⟨#[45]⟩ p || V.isT 6 ⟨#[43]⟩ p then V.stop 3 (p + 1) else .ok out p
  | m + 1, out, p =>
    if V.isT 6 ⟨#[45]⟩ p then (V.term (-1) (p + 1)).bnd fun t q => sumM m (out ++ [t]) q
    else if V.isT 6 ⟨#[43]⟩ p then (V.term 1 (p + 1)).bnd fun t q => sumM m (out ++ [t]) q else .ok out p
def sum (p : Nat) : Res (List S102) := (V.term 1 p).bnd fun t q => V.sumM 7 [t] q
def premise (p : Nat) : Res S100 :=
  if V.isT 6 ⟨#[123]⟩ p then
    (V.sum (p + 1)).bnd fun l q => (V.op q).bnd fun o q2 => (V.sum q2).bnd fun r q3 => (V.must 6 ⟨#[125]⟩ q3).bnd fun _ q4 => .ok ⟨2, noLit, ⟨l, o, r⟩, ⟨#[]⟩, ⟨#[]⟩⟩ q4
  else if V.unlike p then (V.arg p).bnd fun a q => (V.must 6 ⟨#[33, 61]⟩ q).bnd fun _ q2 => (V.arg q2).bnd fun b q3 => .ok ⟨3, noLit, noGuard, a, b⟩ q3
  else (V.literal p).bnd fun l q => .ok ⟨1, l, noGuard, ⟨#[]⟩, ⟨#[]⟩⟩ q
/-- a rule, behind its colon -/
def ruleT (n s : ByteArray) (a u : Int) (p : Nat) : Res S93 :=
  (if V.arrow p = 0 then V.list V.premise 0 16 p else .ok [] p).bnd fun b q =>
    if V.arrow q = 0 then V.stop 51 q else (V.literal (q + 1)).bnd fun h q9 => .ok ⟨n, s, a, u, b, V.arrow q, h⟩ q9
def rule (cal : ByteArray → Int × Int) (p : Nat) : Res S93 :=
  (V.name p).bnd fun n q1 => (V.must 1 ⟨#[111, 102]⟩ q1).bnd fun _ q2 => (V.name q2).bnd fun s q3 => (V.must 1 ⟨#[97, 116]⟩ q3).bnd fun _ q4 => (V.day cal q4).bnd fun a q5 =>
    (if V.isT 1 ⟨#[117, 110, 116, 105, 108]⟩ q5 then V.day cal (q5 + 1) else .ok 0 q5).bnd fun u q6 => (V.must 6 ⟨#[58]⟩ q6).bnd fun _ q7 => V.ruleT n s a u q7
def pred (n : Nat) (sort : Int) (p : Nat) : Res S85 :=
  (V.room n 256 p).bnd fun _ q0 => (V.name q0).bnd fun nm q1 => (V.brackets V.name q1).bnd fun ks q2 =>
    if sort == 3 then (V.must 6 ⟨#[58]⟩ q2).bnd fun _ q3 => (V.list V.money 0 64 q3).bnd fun vs q4 => .ok ⟨nm, sort, ks, vs⟩ q4 else .ok ⟨nm, sort, ks, []⟩ q2
def item (cal : ByteArray → Int × Int) (s : Stt) (p : Nat) : Res Stt :=
  if (V.next p).k == 1 then
    if (V.next p).t.toList == [107, 105, 110, 100] then
      (V.room s.kinds.length 16 (p + 1)).bnd fun _ q => (V.name q).bnd fun n q2 => .ok { s with kinds := s.kinds ++ [n] } q2
    else if (V.next p).t.toList == [109, 101, 109, 98, 101, 114] then
      (V.list V.name s.members.length 64 (p + 1)).bnd fun l q => (V.must 6 ⟨#[58]⟩ q).bnd fun _ q2 => (V.name q2).bnd fun k q3 => .ok { s with members := s.members ++ l.map fun n => ⟨n, k⟩ } q3
    else if (V.next p).t.toList == [112, 114, 101, 100] then (V.pred s.preds.length 1 (p + 1)).bnd fun x q => .ok { s with preds := s.preds ++ [x] } q
    else if (V.next p).t.toList == [110, 117, 109, 98, 101, 114] then (V.pred s.preds.length 2 (p + 1)).bnd fun x q => .ok { s with preds := s.preds ++ [x] } q
    else if (V.next p).t.toList == [97, 109, 111, 117, 110, 116] then (V.pred s.preds.length 3 (p + 1)).bnd fun x q => .ok { s with preds := s.preds ++ [x] } q
    else if (V.next p).t.toList == [99, 108, 97, 115, 115] then
      (V.room s.classes.length 64 (p + 1)).bnd fun _ q => (V.name q).bnd fun f q2 => (V.must 6 ⟨#[44]⟩ q2).bnd fun _ q3 => (V.list V.name 1 16 q3).bnd fun l q4 => .ok { s with classes := s.classes ++ [f :: l] } q4
    else if (V.next p).t.toList == [115, 111, 117, 114, 99, 101] then
      (V.room s.sources.length 64 (p + 1)).bnd fun _ q => (V.name q).bnd fun n q2 => (V.must 1 ⟨#[114, 97, 110, 107]⟩ q2).bnd fun _ q3 => (V.whole 0 1000 q3).bnd fun r q4 => .ok { s with sources := s.sources ++ [⟨n, r⟩] } q4
    else if (V.next p).t.toList == [114, 117, 108, 101] then
      (V.room s.rules.length 512 (p + 1)).bnd fun _ q => (V.rule cal q).bnd fun x q2 => .ok { s with rules := s.rules ++ [x] } q2
    else if (V.next p).t.toList == [101, 120, 99, 101, 112, 116, 105, 111, 110] then
      (V.room s.excepts.length 512 (p + 1)).bnd fun _ q => (V.name q).bnd fun a q2 => (V.must 1 ⟨#[116, 111]⟩ q2).bnd fun _ q3 => (V.name q3).bnd fun b q4 => .ok { s with excepts := s.excepts ++ [⟨a, b⟩] } q4
    else if (V.next p).t.toList == [116, 111, 116, 97, 108] then
      (V.room s.totals.length 64 (p + 1)).bnd fun _ q => (V.total q).bnd fun x q2 => .ok { s with totals := s.totals ++ [x] } q2
    else V.stop 51 p
  else V.stop 51 p
def title (p : Nat) : Res ByteArray :=
  if V.isT 1 ⟨#[115, 116, 97, 116, 117, 116, 101]⟩ p then
    if (V.next (p + 1)).k == 5 then (V.must 6 ⟨#[46]⟩ (p + 2)).bnd fun _ q => .ok (V.next (p + 1)).t q else V.stop 51 (p + 1)
  else .ok ⟨#[]⟩ p
def items (cal : ByteArray → Int × Int) : Nat → Stt → Nat → Res Stt
  | 0, s, p => .ok s p
  | m + 1, s, p => if p < V.T.length then (V.item cal s p).bnd fun s2 q => (V.must 6 ⟨#[46]⟩ q).bnd fun _ q2 => items cal m s2 q2 else .ok s p
def statute (cal : ByteArray → Int × Int) (p : Nat) : Res Stt :=
  (V.title p).bnd fun t q => V.items cal V.T.length ⟨t, [], [], [], [], [], [], [], []⟩ q
end Env
end Sx
end Go.Proofs.YtcakgennlliejaaGreatDoor
