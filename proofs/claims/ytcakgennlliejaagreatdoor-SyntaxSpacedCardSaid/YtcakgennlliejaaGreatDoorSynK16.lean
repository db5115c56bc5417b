import Derived.Deep.RegionHeldLaw
import Derived.Test.YtcakgennlliejaaGreatDoorSynK12
import Derived.Test.YtcakgennlliejaaGreatDoorSynK15
/- lexer: what it answers, as plain functions over a list of bytes -/
namespace Go.Proofs.YtcakgennlliejaaGreatDoor
open Go.Shelf Go.RowKit Go.Lib
open Go.Proofs.YtcakgennlliejaaGreatDoorW.PrintWords
open Go.Proofs.YtcakgennlliejaaGreatDoor.PSyntaxJoined
set_option linter.unusedVariables false
set_option linter.unusedSimpArgs false
namespace Sx
/-- what a scanner does at a place: goes on; keeps a remark; takes a token; takes one and fails behind it; fails -/
inductive Stp where
  | go (q : Nat)
  | rem (r : ByteArray) (q : Nat)
  | tok (t : S48) (q : Nat)
  | jam (t : S48) (q : Nat)
  | no (e : Int) (a : Nat)
namespace Stp
def ok : Stp → Bool
  | .go _ | .rem _ _ | .tok _ _ => true
  | .jam _ _ | .no _ _ => false
def q (p : Nat) : Stp → Nat
  | .go q | .rem _ q | .tok _ q | .jam _ q => q
  | .no _ _ => p
def l (l : List S48) : Stp → List S48
  | .tok t _ | .jam t _ => l ++ [t]
  | _ => l
def rm (l : List ByteArray) : Stp → List ByteArray
  | .rem r _ => l ++ [r]
  | _ => l
def er (e : Int) : Stp → Int
  | .jam _ _ => 41
  | .no e _ => e
  | _ => e
def pl (a : Int) : Stp → Int
  | .jam _ q => q
  | .no _ a => a
  | _ => a
end Stp
def good8 (g : Int → Bool) (c : UInt8) : Bool := g (cls c.toNat)
def runN (g : Int → Bool) (l : List UInt8) : Nat := (l.takeWhile (good8 g)).length
def jamL : List UInt8 → Bool
  | [] => false
  | c :: _ => isVr (cls c.toNat)
def putS (k : Int) (n : Nat) (l : List UInt8) (p : Nat) : Stp :=
  if jamL (l.drop n) then .jam ⟨k, ⟨(l.take n).toArray⟩, p⟩ (p + n) else .tok ⟨k, ⟨(l.take n).toArray⟩, p⟩ (p + n)
def wordS (k : Int) (g : Int → Bool) (l : List UInt8) (p : Nat) : Stp := if 32 < runN g l then .no 5 p else putS k (runN g l) l p
def dg8 (c : UInt8) : Bool := isDig (cls c.toNat)
def datF : Nat → List UInt8 → Bool
  | 0, _ => true
  | _ + 1, [] => false
  | n + 1, c :: l => (if n = 5 ∨ n = 2 then c == 45 else dg8 c) && datF n l
def datedL (l : List UInt8) : Bool := datF 10 l
def numN (l : List UInt8) : Nat := match l.drop (runN isDig l) with
  | c :: d :: r => if c == 46 && dg8 d then runN isDig l + 1 + runN isDig (d :: r) else runN isDig l
  | _ => runN isDig l
def numberS (l : List UInt8) (p : Nat) : Stp := if datedL l then putS 4 10 l p else putS 3 (numN l) l p
def inQ (c : UInt8) : Bool := !(c == 34 || c == 10)
def quoteS (r : List UInt8) (p : Nat) : Stp := match r.drop (r.takeWhile inQ).length with
  | c :: _ => if c == 34 then .tok ⟨5, ⟨(r.takeWhile inQ).toArray⟩, p⟩ (p + (r.takeWhile inQ).length + 2) else .no 42 p
  | [] => .no 42 p
def inLine (c : UInt8) : Bool := !(c == 10)
def remarkS (r : List UInt8) (p : Nat) : Stp := .rem ⟨(r.takeWhile inLine).toArray⟩ (p + 1 + (r.takeWhile inLine).length)
def marks8 : List (List UInt8) := [[45, 62], [61, 62], [126, 62], [33, 61], [60, 61], [62, 61], [61, 61], [60, 62], [60], [62], [40], [41], [123], [125], [44], [46], [58], [61], [45], [43], [42]]
def markL (l : List UInt8) (p : Nat) : List (List UInt8) → Stp
  | [] => .no 41 p
  | m :: ms => if m.isPrefixOf l then .tok ⟨6, ⟨m.toArray⟩, p⟩ (p + m.length) else markL l p ms
def markS (l : List UInt8) (p : Nat) : Stp := markL l p marks8
def step : List UInt8 → Nat → Stp
  | [], p => .no 0 p
  | c :: r, p =>
    if cls c.toNat = 1 then .go (p + 1)
    else if cls c.toNat = 2 then wordS 1 isNm (c :: r) p
    else if cls c.toNat = 3 then wordS 2 isVr (c :: r) p
    else if cls c.toNat = 4 then numberS (c :: r) p
    else if c == 34 then quoteS r p
    else if c == 35 then remarkS r p
    else markS (c :: r) p
/-- a lexer's answer -/
structure Lx where
  l : List S48
  e : Int
  at_ : Int
def lexM : Nat → List UInt8 → Nat → List S48 → Lx
  | 0, _, p, l => ⟨l, 0, p⟩
  | n + 1, r, p, l => if r = [] then ⟨l, 0, p⟩ else match step r p with
    | .go q => lexM n (r.drop (q - p)) q l
    | .rem _ q => lexM n (r.drop (q - p)) q l
    | .tok t q => lexM n (r.drop (q - p)) q (l ++ [t])
    | .jam _ q => ⟨[], 41, q⟩
    | .no e a => ⟨[], e, a⟩
def lex (s : ByteArray) : Lx := if 65536 < s.size then ⟨[], 5, 0⟩ else lexM s.size s.data.toList 0 []
/-! how far a step goes -/
theorem runN_le (g : Int → Bool) (l : List UInt8) : runN g l ≤ l.length := (List.takeWhile_sublist _).length_le
theorem runN_cons (g : Int → Bool) (c : UInt8) (l : List UInt8) : runN g (c :: l) = if g (cls c.toNat) then runN g l + 1 else 0 := by
  unfold runN
  rw [List.takeWhile_cons]
  show (if good8 g c then _ else _ : List UInt8).length = _
  unfold good8
  split <;> rfl
theorem numN_le (l : List UInt8) : numN l ≤ l.length := by
  unfold numN
  have h1 := runN_le isDig l
  split
  · rename_i c d r h
    have h2 := runN_le isDig (d :: r)
    have h3 := congrArg List.length h
    rw [List.length_drop] at h3
    simp only [List.length_cons] at h3 h2
    split <;> omega
  · exact h1
theorem numN_pos {c : UInt8} {r : List UInt8} (h : isDig (cls c.toNat) = true) : 0 < numN (c :: r) := by
  have h1 : 0 < runN isDig (c :: r) := by rw [runN_cons, h]; simp
  unfold numN
  split
  · split <;> omega
  · exact h1
theorem datF_len : ∀ {n : Nat} {l : List UInt8}, datF n l = true → n ≤ l.length
  | 0, _, _ => Nat.zero_le _
  | _ + 1, [], h => by cases h
  | n + 1, c :: l, h => by
    have h2 : ((if n = 5 ∨ n = 2 then c == 45 else dg8 c) && datF n l) = true := h
    rw [Bool.and_eq_true] at h2
    exact Nat.succ_le_succ (datF_len h2.2)
theorem datedL_len {l : List UInt8} (h : datedL l = true) : 10 ≤ l.length := datF_len h
theorem markL_len {l : List UInt8} {p : Nat} : ∀ {ms : List (List UInt8)}, (∀ m ∈ ms, m ≠ []) → (∃ m, m ≠ [] ∧ m.isPrefixOf l = true ∧ m ∈ ms ∧ markL l p ms = .tok ⟨6, ⟨m.toArray⟩, p⟩ (p + m.length)) ∨ markL l p ms = .no 41 p
  | [], _ => .inr rfl
  | m :: ms, h => by
    unfold markL
    cases hm : m.isPrefixOf l
    · rcases markL_len (l := l) (p := p) (ms := ms) (fun x hx => h x (List.mem_cons_of_mem _ hx)) with ⟨x, a, b, c, d⟩ | e
      · exact .inl ⟨x, a, b, List.mem_cons_of_mem _ c, by rw [if_neg (by simp)]; exact d⟩
      · exact .inr (by rw [if_neg (by simp)]; exact e)
    · exact .inl ⟨m, h m (List.mem_cons_self), hm, List.mem_cons_self, by rw [if_pos rfl]⟩
theorem prefix_len : ∀ {m l : List UInt8}, m.isPrefixOf l = true → m.length ≤ l.length
  | [], _, _ => Nat.zero_le _
  | _ :: _, [], h => by cases h
  | a :: m, b :: l, h => by
    have h2 : (a == b && m.isPrefixOf l) = true := h
    rw [Bool.and_eq_true] at h2
    exact Nat.succ_le_succ (prefix_len h2.2)
/-- a step's bounds -/
def Fit (n p : Nat) : Stp → Prop
  | .go q => p < q ∧ q ≤ p + n
  | .rem r q => p < q ∧ q ≤ p + n ∧ r.size ≤ n
  | .tok t q => p < q ∧ q ≤ p + n ∧ t.f1.size ≤ n ∧ t.f2 = p
  | .jam t q => p < q ∧ q ≤ p + n ∧ t.f1.size ≤ n ∧ t.f2 = p
  | .no e a => e ≠ 0 ∧ a ≤ p + n
theorem size_take (l : List UInt8) (n : Nat) : (⟨(l.take n).toArray⟩ : ByteArray).size ≤ l.length := by
  show (l.take n).toArray.size ≤ _
  rw [List.size_toArray, List.length_take]; omega
theorem putS_fit {k : Int} {n : Nat} {l : List UInt8} {p : Nat} (h1 : 0 < n) (h2 : n ≤ l.length) : Fit l.length p (putS k n l p) := by
  unfold putS
  have h3 := size_take l n
  split
  · exact ⟨by omega, by omega, h3, rfl⟩
  · exact ⟨by omega, by omega, h3, rfl⟩
theorem takeWhile_le (f : UInt8 → Bool) (l : List UInt8) : (l.takeWhile f).length ≤ l.length := (List.takeWhile_sublist _).length_le
theorem step_cons (c : UInt8) (r : List UInt8) (p : Nat) : step (c :: r) p = if cls c.toNat = 1 then .go (p + 1)
    else if cls c.toNat = 2 then wordS 1 isNm (c :: r) p
    else if cls c.toNat = 3 then wordS 2 isVr (c :: r) p
    else if cls c.toNat = 4 then numberS (c :: r) p
    else if c == 34 then quoteS r p
    else if c == 35 then remarkS r p
    else markS (c :: r) p := rfl
theorem step_fit : ∀ {l : List UInt8} {p : Nat}, l ≠ [] → Fit l.length p (step l p)
  | [], _, h => absurd rfl h
  | c :: r, p, _ => by
    rw [step_cons]
    have hl : (c :: r).length = r.length + 1 := rfl
    have word : ∀ (k : Int) (g : Int → Bool), g (cls c.toNat) = true → Fit (c :: r).length p (wordS k g (c :: r) p) := by
      intro k g hg
      unfold wordS
      split
      · exact ⟨by decide, by omega⟩
      · exact putS_fit (by rw [runN_cons, hg]; simp) (runN_le _ _)
    split
    · exact ⟨Nat.lt_succ_self p, by rw [hl]; omega⟩
    split
    · rename_i h; exact word 1 isNm (by rw [h]; rfl)
    split
    · rename_i h; exact word 2 isVr (by rw [h]; rfl)
    split
    · rename_i h
      unfold numberS
      split
      · rename_i hd; exact putS_fit (by omega) (datedL_len hd)
      · exact putS_fit (numN_pos (by rw [h]; rfl)) (numN_le _)
    split
    · unfold quoteS
      have h1 := takeWhile_le inQ r
      split
      · rename_i x y hx
        have h2 := congrArg List.length hx
        rw [List.length_drop] at h2
        simp only [List.length_cons] at h2
        split
        · refine ⟨by omega, by omega, ?_, rfl⟩
          show (r.takeWhile inQ).toArray.size ≤ _
          rw [List.size_toArray]; omega
        · exact ⟨by decide, by omega⟩
      · exact ⟨by decide, by omega⟩
    split
    · unfold remarkS
      have h1 := takeWhile_le inLine r
      refine ⟨by omega, by omega, ?_⟩
      show (r.takeWhile inLine).toArray.size ≤ _
      rw [List.size_toArray]; omega
    · unfold markS
      rcases markL_len (l := c :: r) (p := p) (ms := marks8) (by decide) with ⟨m, hm, hp, _, he⟩ | he
      · rw [he]
        have h1 := prefix_len hp
        have h2 := List.length_pos_iff.2 hm
        refine ⟨by omega, by omega, ?_, rfl⟩
        show m.toArray.size ≤ _
        rw [List.size_toArray]; exact h1
      · rw [he]; exact ⟨by decide, by omega⟩
/-- what a lexer's answer is like -/
structure Sound (N : Nat) (X : Lx) : Prop where
  n : X.l.length ≤ N
  z : ∀ x ∈ X.l, x.f1.size ≤ N ∧ 0 ≤ x.f2 ∧ x.f2 ≤ N
  bad : X.e ≠ 0 → X.l = [] ∧ 0 ≤ X.at_ ∧ X.at_ ≤ N
  ok : X.e = 0 → X.at_ = N
theorem lexM_sound (N : Nat) : ∀ (n : Nat) (r : List UInt8) (p : Nat) (l : List S48), p + r.length = N → r.length ≤ n → l.length ≤ p → (∀ x ∈ l, x.f1.size ≤ N ∧ 0 ≤ x.f2 ∧ x.f2 ≤ N) → Sound N (lexM n r p l)
  | 0, r, p, l, h1, h2, h3, h4 => ⟨by show l.length ≤ N; omega, h4, fun e => absurd rfl e, fun _ => by show (p : Int) = N; omega⟩
  | n + 1, r, p, l, h1, h2, h3, h4 => by
    unfold lexM
    by_cases hr : r = []
    · rw [if_pos hr]
      subst hr
      exact ⟨by show l.length ≤ N; omega, h4, fun e => absurd rfl e, fun _ => by show (p : Int) = N; simp only [List.length_nil] at h1; omega⟩
    · rw [if_neg hr]
      have hf := step_fit (p := p) hr
      cases hs : step r p with
      | go q =>
        rw [hs] at hf
        have h5 := hf.1; have h6 := hf.2
        exact lexM_sound N n _ q l (by rw [List.length_drop]; omega) (by rw [List.length_drop]; omega) (by omega) h4
      | rem b q =>
        rw [hs] at hf
        have h5 := hf.1; have h6 := hf.2.1
        exact lexM_sound N n _ q l (by rw [List.length_drop]; omega) (by rw [List.length_drop]; omega) (by omega) h4
      | tok t q =>
        rw [hs] at hf
        have h5 := hf.1; have h6 := hf.2.1; have h7 := hf.2.2
        refine lexM_sound N n _ q _ (by rw [List.length_drop]; omega) (by rw [List.length_drop]; omega) (by rw [List.length_append, List.length_singleton]; omega) (fun x hx => ?_)
        rcases List.mem_append.1 hx with hx | hx
        · exact h4 x hx
        · rw [List.mem_singleton.1 hx]
          have h8 := h7.1
          exact ⟨by omega, by rw [h7.2]; omega, by rw [h7.2]; omega⟩
      | jam t q =>
        rw [hs] at hf
        have h5 := hf.1; have h6 := hf.2.1
        show Sound N (⟨[], 41, q⟩ : Lx)
        exact ⟨Nat.zero_le _, fun _ h => (by cases h), fun _ => ⟨rfl, by show (0 : Int) ≤ q; omega, by show (q : Int) ≤ N; omega⟩, fun h => (by cases h)⟩
      | no e a =>
        rw [hs] at hf
        have h6 := hf.2
        show Sound N (⟨[], e, a⟩ : Lx)
        exact ⟨Nat.zero_le _, fun _ h => (by cases h), fun _ => ⟨rfl, by show (0 : Int) ≤ a; omega, by show (a : Int) ≤ N; omega⟩, fun h => absurd h hf.1⟩
theorem lex_sound (s : ByteArray) : Sound s.size (lex s) := by
  unfold lex
  by_cases h : 65536 < s.size
  · rw [if_pos h]
    exact ⟨Nat.zero_le _, fun _ h => (by cases h), fun _ => ⟨rfl, by decide, by show (0 : Int) ≤ s.size; omega⟩, fun h => (by cases h)⟩
  · rw [if_neg h]
    have hl : s.data.toList.length = s.size := by rw [Array.length_toList]; rfl
    exact lexM_sound _ _ _ _ _ (by omega) (by omega) (Nat.le_refl _) (fun _ h => (by cases h))
theorem lex_big (s : ByteArray) : (lex s).e = 0 → s.size ≤ 65536 := by
  unfold lex
  by_cases h : 65536 < s.size
  · rw [if_pos h]; intro h; cases h
  · intro _; omega
end Sx
namespace Sx
theorem runL_eq (g : Int → Bool) : ∀ (l : List UInt8) (i : Nat), runL g l i = i + runN g l
  | [], i => rfl
  | c :: l, i => by
    rw [runL_cons, runN_cons, runL_eq g l (i + 1)]
    split <;> omega
theorem extract_eq (s : ByteArray) (p q : Nat) : s.extract p q = ⟨((s.data.toList.drop p).take (q - p)).toArray⟩ := by
  apply ByteArray.ext
  show (s.extract p q).data = _
  rw [ByteArray.data_extract]
  apply Array.toList_inj.1
  rw [Array.toList_extract]
end Sx
end Go.Proofs.YtcakgennlliejaaGreatDoor
/- lexer: put (printed by gen_put.py) -/
namespace Go.Proofs.YtcakgennlliejaaGreatDoor
open Go.Shelf Go.RowKit Go.Lib
open Go.Proofs.YtcakgennlliejaaGreatDoorW.PrintWords
open Go.Proofs.YtcakgennlliejaaGreatDoor.PSyntaxJoined
open Sx
set_option linter.unusedVariables false
set_option linter.unusedSimpArgs false
theorem info_tk : (Tryz.prog.info? 48).map (fun i => (i.zero, i.size, i.bytes)) = some (some (.agg #[.int .i64 0, .string ⟨#[]⟩, .int .i64 0]), 3, 32) := by kernel_rfl
/-- behind the append of a token, and the next place -/
theorem Sx.Sn.pushed {w0 w3 : World} {sb : Nat} {s : ByteArray} {p : Nat} {l : List S48} {rm : List ByteArray} {er pl : Int} {tv rv v9 : Value} {t : S48} (h : Sn w0 sb s p l rm er pl tv rv) (hs3 : Kd.R k48 48 w3 (sb + 1) (fun k => sb < k) v9 (l ++ [t])) (hb3 : Below (sb + 1) w0 w3) (hg3 : w0.grownBy w3 tv.ownBlock) (q : Nat) (hpq : p < q) (hq : q ≤ s.size) :
    Sn ((w3.setCell ⟨sb, 2, none⟩ v9).setCell ⟨sb, 1, none⟩ (.int .i64 q)) sb s q (l ++ [t]) rm er pl v9 rv ∧ Keep (sF sb) w0 ((w3.setCell ⟨sb, 2, none⟩ v9).setCell ⟨sb, 1, none⟩ (.int .i64 q)) := by
  have hbk := (hb3.block sb (Nat.lt_succ_self _)).trans h.blk
  have rr3 : Kd.R Kd.string 9 w3 (sb + 1) (fun k => sb < k) rv rm := Kd.R_mono (Kd.R_step (Kd.R_apartR h.rr h.rt (by decide)) (fun i hi hlt => hg3.block i hlt hi.2)) (fun k hk => hk.1)
  have hf : ∀ k, sb < k → k ≠ sb := fun k hk => Nat.ne_of_gt hk
  have hk3 : Keep (sF sb) w0 w3 := ⟨hb3.os, hb3.tape, hb3.output, hg3.size, fun i hi hn => hb3.block i (by unfold sF at hn; omega)⟩
  refine ⟨⟨heap_setCell_same (heap_setCell_same hbk 2 _) 1 _, Kd.R_far (Kd.R_far hs3 (p := ⟨sb, 2, none⟩) hf _) (p := ⟨sb, 1, none⟩) hf _, Kd.R_far (Kd.R_far rr3 (p := ⟨sb, 2, none⟩) hf _) (p := ⟨sb, 1, none⟩) hf _, h.z, hq, ?_, Nat.le_trans h.nr (Nat.le_of_lt hpq)⟩, (hk3.trans (keep_set _) (fun _ _ h => h)).trans (keep_set _) (fun _ _ h => h)⟩
  rw [List.length_append, List.length_singleton]
  have := h.nt
  omega
/-- a step's answer -/
def Sx.Dn (st : Stp) (sb : Nat) (s : ByteArray) (p : Nat) (l : List S48) (rm : List ByteArray) (er pl : Int) (w : World) (x : Ending) (w' : World) : Prop :=
  ∃ tv' rv', x = .returned (.bool st.ok) ∧ Sn w' sb s (st.q p) (st.l l) (st.rm rm) (st.er er) (st.pl pl) tv' rv' ∧ Keep (sF sb) w w'
/-- the bytes from a place on -/
def Sx.tl (s : ByteArray) (p : Nat) : List UInt8 := s.data.toList.drop p
theorem Sx.tl_cons {s : ByteArray} {p : Nat} (h : p < s.size) : tl s p = s[p]'h :: tl s (p + 1) := by
  unfold tl
  rw [List.drop_eq_getElem_cons (show p < s.data.toList.length from h)]
  rfl
theorem Sx.tl_nil {s : ByteArray} {p : Nat} (h : ¬ p < s.size) : tl s p = [] := List.drop_eq_nil_of_le (by show s.size ≤ p; omega)
theorem Sx.tl_drop (s : ByteArray) (p n : Nat) : (tl s p).drop n = tl s (p + n) := List.drop_drop
/-- behind a word no other may begin at once -/
def Sx.jam (s : ByteArray) (q : Nat) : Bool := if h : q < s.size then isVr (cls (s[q]'h).toNat) else false
theorem Sx.jam_eq (s : ByteArray) (q : Nat) : jamL (tl s q) = jam s q := by
  unfold jam
  by_cases h : q < s.size
  · rw [dif_pos h, tl_cons h]; rfl
  · rw [dif_neg h, tl_nil h]; rfl
theorem Sx.put_eq (s : ByteArray) (k : Int) {p q : Nat} (h : p ≤ q) : putS k (q - p) (tl s p) p = if jam s q then .jam ⟨k, s.extract p q, p⟩ q else .tok ⟨k, s.extract p q, p⟩ q := by
  unfold putS
  rw [tl_drop, show p + (q - p) = q by omega, jam_eq, extract_eq]
  rfl
set_option maxHeartbeats 4000000 in
set_option maxRecDepth 100000 in
theorem put_calls (sb : Nat) (s : ByteArray) (p : Nat) (l : List S48) (rm : List ByteArray) (er pl : Int) (tv rv : Value) (k : Int) (q : Nat) (hpq : p < q) (hq : q ≤ s.size) (w : World) (h : Sn w sb s p l rm er pl tv rv) :
    Calls Tryz.prog 99 #[.pointer (some ⟨sb, 0, none⟩), .int .i64 k, .int .i64 q] w (Dn (putS k (q - p) (tl s p) p) sb s p l rm er pl w) := by
  have HPE := Lib.hid (put_eq s k (Nat.le_of_lt hpq))
  obtain ⟨st, hst⟩ : ∃ st, putS k (q - p) (tl s p) p = st := ⟨_, rfl⟩
  rw [hst] at HPE ⊢
  clear hst
  have e0 := Kd.R_slice h.rt
  obtain ⟨A0, c0, rfl⟩ := e0
  have HS := Lib.hid h
  have HQ := Lib.hid (And.intro hpq hq)
  have HZ := Lib.hid h.z
  have HNT := Lib.hid h.nt
  have hB : Below w.heap.size w w.drew := (Below.refl _ w).drew
  have HD := Lib.hid (h.below hB)
  have ytd := blk_cell (v := .slice A0 l.length c0) HD.out.blk 2 rfl
  have HLB := Lib.hid (show sb + 1 ≤ w.drew.heap.size from h.lt)
  have h1 : ¬ ((q : Int) < (p : Int)) := by omega
  have h2 : ¬ ((s.size : Int) < (q : Int)) := by omega
  have h3 : (0 : Int) ≤ (p : Int) := by omega
  have h4 : (p : Int) ≤ (q : Int) := by omega
  have h5 : (q : Int) ≤ (s.size : Int) := by omega
  have h6 : p ≤ q := by omega
  have HKC := Lib.hid (fun o => show ((w.drew).alloc o).cell? ⟨sb, 0, none⟩ = some (.string s) ∧ ((w.drew).alloc o).cell? ⟨sb, 1, none⟩ = some (.int .i64 p) ∧ ((w.drew).alloc o).cell? ⟨sb, 2, none⟩ = some (.slice A0 l.length c0) from by
    have h7 := HD.out.below ((Below.refl _ w.drew).alloc (Nat.le_refl _) o)
    exact ⟨blk_cell (v := .string s) h7.blk 0 rfl, blk_cell (v := .int .i64 p) h7.blk 1 rfl, blk_cell (v := .slice A0 l.length c0) h7.blk 2 rfl⟩)
  have yta : ((w.alloc (.cells #[.int .i64 k, .string (s.extract p q), .int .i64 p] 48)).drew).cell? ⟨sb, 2, none⟩ = some (.slice A0 l.length c0) := (HKC.out (.cells #[.int .i64 k, .string (s.extract p q), .int .i64 p] 48)).2.2
  have HKD := Lib.hid (show w.drew.cell? ⟨sb, 0, none⟩ = some (.string s) ∧ w.drew.cell? ⟨sb, 1, none⟩ = some (.int .i64 p) from ⟨blk_cell (v := .string s) HD.out.blk 0 rfl, blk_cell (v := .int .i64 p) HD.out.blk 1 rfl⟩)
  clear h hB hpq hq
  go_enter Tryz.func99, Tryz.ntmps99
  go_upto_region 1 with (fail)
  refine wp_region_held_drew (S := fun w9 => w9.cell? ⟨sb, 0, none⟩ = some (.string s) ∧ w9.cell? ⟨sb, 1, none⟩ = some (.int .i64 p)) (by kernel_rfl) ?_ (fun hHeld => ?_)
  · (try dsimp only); exact HKD.out
  refine wpAnyH_take (i := 0) (oi := ⟨some 7, _, _, _, _, _⟩) (v := ?_) rfl (by kernel_rfl) (by kernel_rfl) (by kernel_rfl) (fun _ _ _ h => h) (Or.inl ⟨by rfl, ?_⟩) (by assumption) ?_
  rotate_left
  · intro w hSw; (try dsimp only at hSw); go_simp; try with_reducible rfl
  try simp only [Act.put, List.setIfInBounds_toArray, List.set_cons_zero, List.set_cons_succ]
  refine wpAnyH_take (i := 1) (oi := ⟨some 8, _, _, _, _, _⟩) (v := ?_) rfl (by kernel_rfl) (by kernel_rfl) (by kernel_rfl) (fun _ _ _ h => h) (Or.inl ⟨by rfl, ?_⟩) (by assumption) ?_
  rotate_left
  · intro w hSw; (try dsimp only at hSw); go_simp; try with_reducible rfl
  try simp only [Act.put, List.setIfInBounds_toArray, List.set_cons_zero, List.set_cons_succ]
  refine wpAnyH_take (i := 2) (oi := ⟨some 9, _, _, _, _, _⟩) (v := ?_) rfl (by kernel_rfl) (by kernel_rfl) (by kernel_rfl) (fun _ _ _ h => h) (Or.inl ⟨by rfl, ?_⟩) (by assumption) ?_
  rotate_left
  · intro w hSw; (try dsimp only at hSw); go_simp; try with_reducible rfl
  try simp only [Act.put, List.setIfInBounds_toArray, List.set_cons_zero, List.set_cons_succ]
  refine wpAnyH_take (i := 3) (oi := ⟨some 10, _, _, _, _, _⟩) (v := ?_) rfl (by kernel_rfl) (by kernel_rfl) (by kernel_rfl) (fun _ _ _ h => h) (Or.inl ⟨by rfl, ?_⟩) (by assumption) ?_
  rotate_left
  · intro w hSw; (try dsimp only at hSw); go_simp; try with_reducible rfl
  try simp only [Act.put, List.setIfInBounds_toArray, List.set_cons_zero, List.set_cons_succ]
  refine wpAnyH_take (i := 5) (oi := ⟨some 12, _, _, _, _, _⟩) (v := ?_) rfl (by kernel_rfl) (by kernel_rfl) (by kernel_rfl) (fun _ _ _ h => h) (Or.inl ⟨by rfl, ?_⟩) (by assumption) ?_
  rotate_left
  · intro w hSw; (try dsimp only at hSw); go_simp; try with_reducible rfl
  try simp only [Act.put, List.setIfInBounds_toArray, List.set_cons_zero, List.set_cons_succ]
  refine wpAnyH_take (i := 6) (oi := ⟨some 13, _, _, _, _, _⟩) (v := ?_) rfl (by kernel_rfl) (by kernel_rfl) (by kernel_rfl) (fun _ _ _ h => h) (Or.inl ⟨by rfl, ?_⟩) (by assumption) ?_
  rotate_left
  · intro w hSw; (try dsimp only at hSw); go_simp; try with_reducible rfl
  try simp only [Act.put, List.setIfInBounds_toArray, List.set_cons_zero, List.set_cons_succ]
  refine wpAnyH_take (i := 7) (oi := ⟨some 14, _, _, _, _, _⟩) (v := ?_) rfl (by kernel_rfl) (by kernel_rfl) (by kernel_rfl) (fun _ _ _ h => h) (Or.inl ⟨by rfl, ?_⟩) (by assumption) ?_
  rotate_left
  · intro w hSw; (try dsimp only at hSw); go_simp; try with_reducible rfl
  try simp only [Act.put, List.setIfInBounds_toArray, List.set_cons_zero, List.set_cons_succ]
  refine wpAnyH_take (i := 8) (oi := ⟨some 15, _, _, _, _, _⟩) (v := ?_) rfl (by kernel_rfl) (by kernel_rfl) (by kernel_rfl) (fun _ _ _ h => h) (Or.inl ⟨by rfl, ?_⟩) (by assumption) ?_
  rotate_left
  · intro w hSw; (try dsimp only at hSw); go_simp; try with_reducible rfl
  try simp only [Act.put, List.setIfInBounds_toArray, List.set_cons_zero, List.set_cons_succ]
  refine wpAnyH_take (i := 9) (oi := ⟨some 16, _, _, _, _, _⟩) (v := ?_) rfl (by kernel_rfl) (by kernel_rfl) (by kernel_rfl) (fun _ _ _ h => h) (Or.inl ⟨by rfl, ?_⟩) (by assumption) ?_
  rotate_left
  · intro w hSw; (try dsimp only at hSw); go_simp; try with_reducible rfl
  try simp only [Act.put, List.setIfInBounds_toArray, List.set_cons_zero, List.set_cons_succ]
  refine wpAnyH_take (i := 10) (oi := ⟨some 17, _, _, _, _, _⟩) (v := ?_) rfl (by kernel_rfl) (by kernel_rfl) (by kernel_rfl) (fun _ _ _ h => h) (Or.inl ⟨by rfl, ?_⟩) (by assumption) ?_
  rotate_left
  · intro w hSw; (try dsimp only at hSw); go_simp; try with_reducible rfl
  try simp only [Act.put, List.setIfInBounds_toArray, List.set_cons_zero, List.set_cons_succ]
  refine wpAnyH_take (i := 11) (oi := ⟨some 18, _, _, _, _, _⟩) (v := ?_) rfl (by kernel_rfl) (by kernel_rfl) (by kernel_rfl) (fun _ _ _ h => h) (Or.inl ⟨by rfl, ?_⟩) (by assumption) ?_
  rotate_left
  · intro w hSw; (try dsimp only at hSw); go_simp; try with_reducible rfl
  try simp only [Act.put, List.setIfInBounds_toArray, List.set_cons_zero, List.set_cons_succ]
  refine wpAnyH_take (i := 12) (oi := ⟨some 19, _, _, _, _, _⟩) (v := ?_) rfl (by kernel_rfl) (by kernel_rfl) (by kernel_rfl) (fun _ _ _ h => h) (Or.inl ⟨by rfl, ?_⟩) (by assumption) ?_
  rotate_left
  · intro w hSw; (try dsimp only at hSw); go_simp; try with_reducible rfl
  try simp only [Act.put, List.setIfInBounds_toArray, List.set_cons_zero, List.set_cons_succ]
  refine wpAnyH_take (i := 13) (oi := ⟨some 20, _, _, _, _, _⟩) (v := ?_) rfl (by kernel_rfl) (by kernel_rfl) (by kernel_rfl) (fun _ _ _ h => h) (Or.inl ⟨by rfl, ?_⟩) (by assumption) ?_
  rotate_left
  · intro w hSw; (try dsimp only at hSw); go_simp; try with_reducible rfl
  try simp only [Act.put, List.setIfInBounds_toArray, List.set_cons_zero, List.set_cons_succ]
  refine wpAnyH_take (i := 14) (oi := ⟨some 21, _, _, _, _, _⟩) (v := ?_) rfl (by kernel_rfl) (by kernel_rfl) (by kernel_rfl) (fun _ _ _ h => h) (Or.inl ⟨by rfl, ?_⟩) (by assumption) ?_
  rotate_left
  · intro w hSw; (try dsimp only at hSw); go_simp; try with_reducible rfl
  try simp only [Act.put, List.setIfInBounds_toArray, List.set_cons_zero, List.set_cons_succ]
  refine wpAnyH_take (i := 15) (oi := ⟨some 22, _, _, _, _, _⟩) (v := ?_) rfl (by kernel_rfl) (by kernel_rfl) (by kernel_rfl) (fun _ _ _ h => h) (Or.inl ⟨by rfl, ?_⟩) (by assumption) ?_
  rotate_left
  · intro w hSw; (try dsimp only at hSw); go_simp; try with_reducible rfl
  try simp only [Act.put, List.setIfInBounds_toArray, List.set_cons_zero, List.set_cons_succ]
  refine wpAnyH_take (i := 16) (oi := ⟨some 23, _, _, _, _, _⟩) (v := ?_) rfl (by kernel_rfl) (by kernel_rfl) (by kernel_rfl) (fun _ _ _ h => h) (Or.inl ⟨by rfl, ?_⟩) (by assumption) ?_
  rotate_left
  · intro w hSw; (try dsimp only at hSw); go_simp; try with_reducible rfl
  try simp only [Act.put, List.setIfInBounds_toArray, List.set_cons_zero, List.set_cons_succ]
  refine wpAnyH_take (i := 17) (oi := ⟨some 24, _, _, _, _, _⟩) (v := ?_) rfl (by kernel_rfl) (by kernel_rfl) (by kernel_rfl) (fun _ _ _ h => h) (Or.inl ⟨by rfl, ?_⟩) (by assumption) ?_
  rotate_left
  · intro w hSw; (try dsimp only at hSw); go_simp; try with_reducible rfl
  try simp only [Act.put, List.setIfInBounds_toArray, List.set_cons_zero, List.set_cons_succ]
  refine wpAnyH_take (i := 18) (oi := ⟨some 25, _, _, _, _, _⟩) (v := ?_) rfl (by kernel_rfl) (by kernel_rfl) (by kernel_rfl) (fun _ _ _ h => h) (Or.inl ⟨by rfl, ?_⟩) (by assumption) ?_
  rotate_left
  · intro w hSw; (try dsimp only at hSw); go_simp; try with_reducible rfl
  try simp only [Act.put, List.setIfInBounds_toArray, List.set_cons_zero, List.set_cons_succ]
  refine wpAnyH_take (i := 19) (oi := ⟨some 26, _, _, _, _, _⟩) (v := ?_) rfl (by kernel_rfl) (by kernel_rfl) (by kernel_rfl) (fun _ _ _ h => h) (Or.inl ⟨by rfl, ?_⟩) (by assumption) ?_
  rotate_left
  · intro w hSw; (try dsimp only at hSw); go_simp; try with_reducible rfl
  try simp only [Act.put, List.setIfInBounds_toArray, List.set_cons_zero, List.set_cons_succ]
  refine wpAnyH_take (i := 20) (oi := ⟨some 27, _, _, _, _, _⟩) (v := ?_) rfl (by kernel_rfl) (by kernel_rfl) (by kernel_rfl) (fun _ _ _ h => h) (Or.inl ⟨by rfl, ?_⟩) (by assumption) ?_
  rotate_left
  · intro w hSw; (try dsimp only at hSw); go_simp; try with_reducible rfl
  try simp only [Act.put, List.setIfInBounds_toArray, List.set_cons_zero, List.set_cons_succ]
  refine wpAnyH_ready (rs := [4, 21]) (by kernel_rfl) (by simp) ?_
  refine AllReadyH.cons rfl (fun K hK => ?_) (AllReadyH.cons rfl (fun K hK => ?_) AllReadyH.nil)
  go_simp
  refine hK.out _ _ ?_ (fun hH2 => ?_)
  · (try dsimp only); exact HKD.out
  clear hK K hHeld
  have hHeld := hH2
  clear hH2
  refine wpAnyH_ready (rs := [21]) (by kernel_rfl) (by simp) ?_
  refine AllReadyH.cons rfl (fun K hK => ?_) AllReadyH.nil
  go_simp
  refine hK.out _ _ ?_ (fun hH2 => ?_)
  · (try dsimp only); exact ⟨(HKC.out _).1, (HKC.out _).2.1⟩
  clear hK K hHeld
  have hHeld := hH2
  clear hH2
  refine wpAnyH_ready (rs := [22]) (by kernel_rfl) (by simp) ?_
  refine AllReadyH.cons rfl (fun K hK => ?_) AllReadyH.nil
  refine Kd.R_append_step k48 (w0 := w.drew) (sb + 1) (by rfl) (.tmp 11) (.tmp 28) 40 48 (.agg #[.int .i64 0, .string ⟨#[]⟩, .int .i64 0]) 32 rfl Tryz.underlying40 info_tk rfl (by decide) (by decide) (.slice A0 l.length c0) l (⟨k, s.extract p q, p⟩ : S48) [.int .i64 k, .string (s.extract p q), .int .i64 p] (fun k => sb < k) (fun _ => False) rfl rfl (k48_mkM _ _ _ ⟨k, s.extract p q, p⟩) (fun _ hk => hk.elim) (fun k hk => Nat.lt_of_lt_of_le HLB.out hk) HD.out.rt (Below.refl _ _) HLB.out (by have h1 := HZ.out; have h2 := HNT.out; have h3 := HQ.out; omega) ?_
  intro v3 w3 hs3 hb3 hg3 hat3
  obtain ⟨A9, c9, rfl⟩ := Kd.R_slice hs3
  rw [List.length_append, List.length_singleton] at hs3
  have hbk3 := (hb3.block sb (Nat.lt_succ_self _)).trans HD.out.blk
  have z0 := blk_cell (v := .string s) hbk3 0 rfl
  have z1 := blk_cell (v := .int .i64 p) hbk3 1 rfl
  have y3 := blk_cell (v := .slice A0 l.length c0) hbk3 2 rfl
  have f3 := blk_free hbk3 2
  have HS3 := Lib.hid hs3
  have HB3 := Lib.hid hb3
  have HG3 := Lib.hid hg3
  have HBK3 := Lib.hid hbk3
  clear hs3 hb3 hg3 hat3 hbk3
  refine hK.out _ _ ?_ (fun hH2 => ?_)
  · (try dsimp only); exact ⟨z0, z1⟩
  clear hK K hHeld
  have hHeld := hH2
  clear hH2
  refine wpAnyH_take (i := 23) (oi := ⟨some 30, _, _, _, _, _⟩) (v := ?_) rfl (by kernel_rfl) (by kernel_rfl) (by kernel_rfl) (fun _ _ _ h => h) (Or.inl ⟨by rfl, ?_⟩) (by assumption) ?_
  rotate_left
  · intro w hSw; (try dsimp only at hSw); go_simp; try with_reducible rfl
  try simp only [Act.put, List.setIfInBounds_toArray, List.set_cons_zero, List.set_cons_succ]
  refine wpAnyH_take (i := 24) (oi := ⟨some 31, _, _, _, _, _⟩) (v := ?_) rfl (by kernel_rfl) (by kernel_rfl) (by kernel_rfl) (fun _ _ _ h => h) (Or.inl ⟨by rfl, ?_⟩) (by assumption) ?_
  rotate_left
  · intro w hSw; (try dsimp only at hSw); go_simp; try with_reducible rfl
  try simp only [Act.put, List.setIfInBounds_toArray, List.set_cons_zero, List.set_cons_succ]
  refine wpAnyH_ready (rs := [25]) (by kernel_rfl) (by simp) ?_
  refine AllReadyH.cons rfl (fun K hK => ?_) AllReadyH.nil
  go_simp
  refine hK.out _ _ ?_ (fun hH2 => ?_)
  · (try dsimp only); exact ⟨(World.cell?_setCell_other _ _ _ _ (by simp)).trans (blk_cell (v := .string s) HBK3.out 0 rfl), (World.cell?_setCell_other _ _ _ _ (by simp)).trans (blk_cell (v := .int .i64 p) HBK3.out 1 rfl)⟩
  clear hK K hHeld
  have hHeld := hH2
  clear hH2
  refine wpAnyH_done (by kernel_rfl) ?_ _
  rotate_left
  go_simp
  refine hK.out _ _ ?_ (fun hH2 => ?_)
  · (try dsimp only); exact ⟨(HKC.out _).1, (HKC.out _).2.1⟩
  clear hK K hHeld
  have hHeld := hH2
  clear hH2
  refine wpAnyH_ready (rs := [4]) (by kernel_rfl) (by simp) ?_
  refine AllReadyH.cons rfl (fun K hK => ?_) AllReadyH.nil
  go_simp
  refine hK.out _ _ ?_ (fun hH2 => ?_)
  · (try dsimp only); exact ⟨(HKC.out _).1, (HKC.out _).2.1⟩
  clear hK K hHeld
  have hHeld := hH2
  clear hH2
  refine wpAnyH_ready (rs := [22]) (by kernel_rfl) (by simp) ?_
  refine AllReadyH.cons rfl (fun K hK => ?_) AllReadyH.nil
  refine Kd.R_append_step k48 (w0 := w.drew) (sb + 1) (by rfl) (.tmp 11) (.tmp 28) 40 48 (.agg #[.int .i64 0, .string ⟨#[]⟩, .int .i64 0]) 32 rfl Tryz.underlying40 info_tk rfl (by decide) (by decide) (.slice A0 l.length c0) l (⟨k, s.extract p q, p⟩ : S48) [.int .i64 k, .string (s.extract p q), .int .i64 p] (fun k => sb < k) (fun _ => False) rfl rfl (k48_mkM _ _ _ ⟨k, s.extract p q, p⟩) (fun _ hk => hk.elim) (fun k hk => Nat.lt_of_lt_of_le HLB.out hk) HD.out.rt (Below.refl _ _) HLB.out (by have h1 := HZ.out; have h2 := HNT.out; have h3 := HQ.out; omega) ?_
  intro v3 w3 hs3 hb3 hg3 hat3
  obtain ⟨A9, c9, rfl⟩ := Kd.R_slice hs3
  rw [List.length_append, List.length_singleton] at hs3
  have hbk3 := (hb3.block sb (Nat.lt_succ_self _)).trans HD.out.blk
  have z0 := blk_cell (v := .string s) hbk3 0 rfl
  have z1 := blk_cell (v := .int .i64 p) hbk3 1 rfl
  have y3 := blk_cell (v := .slice A0 l.length c0) hbk3 2 rfl
  have f3 := blk_free hbk3 2
  have HS3 := Lib.hid hs3
  have HB3 := Lib.hid hb3
  have HG3 := Lib.hid hg3
  have HBK3 := Lib.hid hbk3
  clear hs3 hb3 hg3 hat3 hbk3
  refine hK.out _ _ ?_ (fun hH2 => ?_)
  · (try dsimp only); exact ⟨z0, z1⟩
  clear hK K hHeld
  have hHeld := hH2
  clear hH2
  refine wpAnyH_take (i := 23) (oi := ⟨some 30, _, _, _, _, _⟩) (v := ?_) rfl (by kernel_rfl) (by kernel_rfl) (by kernel_rfl) (fun _ _ _ h => h) (Or.inl ⟨by rfl, ?_⟩) (by assumption) ?_
  rotate_left
  · intro w hSw; (try dsimp only at hSw); go_simp; try with_reducible rfl
  try simp only [Act.put, List.setIfInBounds_toArray, List.set_cons_zero, List.set_cons_succ]
  refine wpAnyH_take (i := 24) (oi := ⟨some 31, _, _, _, _, _⟩) (v := ?_) rfl (by kernel_rfl) (by kernel_rfl) (by kernel_rfl) (fun _ _ _ h => h) (Or.inl ⟨by rfl, ?_⟩) (by assumption) ?_
  rotate_left
  · intro w hSw; (try dsimp only at hSw); go_simp; try with_reducible rfl
  try simp only [Act.put, List.setIfInBounds_toArray, List.set_cons_zero, List.set_cons_succ]
  refine wpAnyH_ready (rs := [25]) (by kernel_rfl) (by simp) ?_
  refine AllReadyH.cons rfl (fun K hK => ?_) AllReadyH.nil
  go_simp
  refine hK.out _ _ ?_ (fun hH2 => ?_)
  · (try dsimp only); exact ⟨(World.cell?_setCell_other _ _ _ _ (by simp)).trans (blk_cell (v := .string s) HBK3.out 0 rfl), (World.cell?_setCell_other _ _ _ _ (by simp)).trans (blk_cell (v := .int .i64 p) HBK3.out 1 rfl)⟩
  clear hK K hHeld
  have hHeld := hH2
  clear hH2
  refine wpAnyH_done (by kernel_rfl) ?_ _
  all_goals
    have HP := Lib.hid (HD.out.pushed HS3.out HB3.out HG3.out q HQ.out.1 HQ.out.2)
    obtain ⟨X, hX⟩ : ∃ X, w3.setCell ⟨sb, 2, none⟩ (.slice A9 (l.length + 1) c9) = X := ⟨_, rfl⟩
    have y1 : X.cell? ⟨sb, 1, none⟩ = some (.int .i64 p) := by rw [← hX]; exact (World.cell?_setCell_other _ _ _ _ (by simp)).trans (blk_cell (v := .int .i64 p) HBK3.out 1 rfl)
    have f1 : X.frozen? ⟨sb, 1, none⟩ = false := by rw [← hX, World.frozen?_setCell]; exact blk_free HBK3.out 1
    rw [hX] at HP
    try rw [hX]
    clear hX ytd yta z0 z1 y3 f3 hHeld HS3 HB3 HG3 HBK3
    go_upto_region 3 with (fail)
    obtain ⟨Y, hY⟩ : ∃ Y, X.setCell ⟨sb, 1, none⟩ (.int .i64 q) = Y := ⟨_, rfl⟩
    rw [hY] at HP
    try rw [hY]
    clear hY y1 f1
    have x0 := blk_cell (v := .string s) HP.out.1.blk 0 rfl
    have hkw : Keep (sF sb) w Y := (Keep.refl (sF sb) w).drew.trans HP.out.2 (fun _ _ h => h)
    have HKW := Lib.hid hkw
    clear hkw
    by_cases hqs : q < s.size
    · have j1 : decide ((q : Int) < (s.size : Int)) = true := decide_eq_true (by omega)
      have j2 : decide (q < s.size) = true := decide_eq_true hqs
      have j3 : (q : Int) < (s.size : Int) := by omega
      have j4 : (0 : Int) ≤ (q : Int) := by omega
      have HJ := Lib.hid (show jam s q = isVr (cls (s[q]'hqs).toNat) from dif_pos hqs)
      cases hv : isVr (cls (s[q]'hqs).toNat)
      · have HV := Lib.hid hv
        rw [hv] at HJ
        clear hv
        go_wp2_with (first | (go_at_call 75; refine (classOf_calls _ _).mono ?_; rintro e w6 ⟨rfl, rfl⟩) | (go_at_call 81; refine (inVar_calls _ _).mono ?_; rw [HV.out]; rintro e w7 ⟨rfl, rfl⟩))
        go_ret
        rw [HPE.out, HJ.out]
        exact ⟨_, _, rfl, HP.out.1, HKW.out⟩
      · have HV := Lib.hid hv
        rw [hv] at HJ
        clear hv
        go_wp2_with (first | (go_at_call 75; refine (classOf_calls _ _).mono ?_; rintro e w6 ⟨rfl, rfl⟩) | (go_at_call 81; refine (inVar_calls _ _).mono ?_; rw [HV.out]; rintro e w7 ⟨rfl, rfl⟩) | (go_at_call 51; refine (fail_calls sb s q _ rm er pl _ rv 41 q Y HP.out.1).mono ?_; rintro e w8 ⟨rfl, hs8, hk8⟩))
        go_ret
        rw [HPE.out, HJ.out]
        exact ⟨_, _, rfl, hs8, HKW.out.trans hk8 (fun _ _ h => h)⟩
    · have j1 : decide ((q : Int) < (s.size : Int)) = false := decide_eq_false (by omega)
      have j2 : decide (q < s.size) = false := decide_eq_false hqs
      have HJ := Lib.hid (show jam s q = false from dif_neg hqs)
      go_wp2_with fail
      go_ret
      rw [HPE.out, HJ.out]
      exact ⟨_, _, rfl, HP.out.1, HKW.out⟩
end Go.Proofs.YtcakgennlliejaaGreatDoor
/- lexer: word, dated, number -/
namespace Go.Proofs.YtcakgennlliejaaGreatDoor
open Go.Shelf Go.RowKit Go.Lib
open Go.Proofs.YtcakgennlliejaaGreatDoorW.PrintWords
open Go.Proofs.YtcakgennlliejaaGreatDoor.PSyntaxJoined
open Sx
set_option linter.unusedVariables false
set_option linter.unusedSimpArgs false
theorem Sx.word_eq (s : ByteArray) (k : Int) (g : Int → Bool) (p q : Nat) (h : runL g (tl s p) p = q) : wordS k g (tl s p) p = if 32 < q - p then .no 5 p else putS k (q - p) (tl s p) p := by
  rw [runL_eq] at h
  unfold wordS
  rw [show q - p = runN g (tl s p) by omega]
theorem Sx.runs_to (s : ByteArray) (g : Int → Bool) (p q : Nat) (hp : p ≤ s.size) (h : runL g (tl s p) p = q) : p ≤ q ∧ q ≤ s.size := by
  rw [runL_eq] at h
  have h1 := runN_le g (tl s p)
  have h2 : (tl s p).length = s.size - p := by unfold tl; rw [List.length_drop]; rfl
  omega
theorem Sx.run_pos (s : ByteArray) (g : Int → Bool) (p q : Nat) (hp : p < s.size) (hg : g (cls (s[p]'hp).toNat) = true) (h : runL g (tl s p) p = q) : p < q := by
  rw [runL_eq, tl_cons hp, runN_cons, hg, if_pos rfl] at h
  omega
/-- a step behind a quiet one -/
theorem Sx.Dn.behind {st : Stp} {sb : Nat} {s : ByteArray} {p : Nat} {l : List S48} {rm : List ByteArray} {er pl : Int} {w w1 w2 : World} {x : Ending} (h : Dn st sb s p l rm er pl w1 x w2) (b : Below w.heap.size w w1) : Dn st sb s p l rm er pl w x w2 := by
  obtain ⟨tv', rv', e, hs, hk⟩ := h
  exact ⟨tv', rv', e, hs, (Keep.of_below b : Keep (sF sb) w w1).trans hk (fun _ _ h => h)⟩
set_option maxHeartbeats 4000000 in
set_option maxRecDepth 100000 in
theorem word_calls (good : Int → Bool) (K : FuncId)
    (eK : ∀ args w, (callFunc K args).run Tryz.prog w = .ok (.enter K args) w)
    (hg0 : good 0 = false)
    (hK : ∀ k w, Calls Tryz.prog K #[.int .i64 k] w fun e w' => e = .returned (.bool (good k)) ∧ w = w')
    (sb : Nat) (s : ByteArray) (p : Nat) (l : List S48) (rm : List ByteArray) (er pl : Int) (tv rv : Value) (k : Int) (hp : p < s.size) (hgp : good (cls (s[p]'hp).toNat) = true) (w : World) (h : Sn w sb s p l rm er pl tv rv) :
    Calls Tryz.prog 78 #[.pointer (some ⟨sb, 0, none⟩), .int .i64 k, .func (.func K) #[] #[]] w (Dn (wordS k good (tl s p) p) sb s p l rm er pl w) := by
  obtain ⟨q, hq⟩ : ∃ q, runL good (tl s p) p = q := ⟨_, rfl⟩
  have HW := Lib.hid (word_eq s k good p q hq)
  have HR := Lib.hid (run_calls good K eK hg0 hK sb s p w (blk_cell (v := .string s) h.blk 0 rfl) (Nat.le_of_lt hp) h.z)
  have hin := runs_to s good p q (Nat.le_of_lt hp) hq
  have HIN := Lib.hid hin
  have HPQ := Lib.hid (run_pos s good p q hp hgp hq)
  have HQ := Lib.hid hq
  have HS := Lib.hid h
  have hz := h.z
  have y1 := blk_cell (v := .int .i64 p) h.blk 1 rfl
  have b1 : (0 : Int) ≤ (p : Int) := by omega
  have b2 : (0 : Int) ≤ (q : Int) := by omega
  have b3 : (p : Int) ≤ 65536 := by omega
  have b4 : (q : Int) ≤ 65536 := by omega
  have b5 : (p : Int) ≤ (q : Int) := by omega
  by_cases hlt : 32 < q - p
  · have z1 : decide ((32 : Int) < (q : Int) - (p : Int)) = true := decide_eq_true (by omega)
    have HL := Lib.hid hlt
    clear h hq hin hz hlt hK eK
    go_enter Tryz.func78, Tryz.ntmps78
    go_wp2_with (first | (go_at_call 98; refine HR.out.mono ?_; rintro e w1 ⟨rfl, hb1⟩; have hs1 := HS.out.below hb1; have y1' := blk_cell (v := .int .i64 p) hs1.blk 1 rfl; have HS1 := Lib.hid hs1; have HB1 := Lib.hid hb1; clear hs1 hb1; rw [show Sx.runL good (s.data.toList.drop p) p = q from HQ.out]) | (go_at_call 51; refine (fail_calls sb s p l rm er pl tv rv 5 p _ HS1.out).mono ?_; rintro e w8 ⟨rfl, hs8, hk8⟩))
    go_ret
    rw [HW.out, if_pos HL.out]
    exact Dn.behind ⟨_, _, rfl, hs8, hk8⟩ HB1.out
  · have z1 : decide ((32 : Int) < (q : Int) - (p : Int)) = false := decide_eq_false (by omega)
    have HL := Lib.hid hlt
    clear h hq hin hz hlt hK eK
    go_enter Tryz.func78, Tryz.ntmps78
    go_wp2_with (first | (go_at_call 98; refine HR.out.mono ?_; rintro e w1 ⟨rfl, hb1⟩; have hs1 := HS.out.below hb1; have y1' := blk_cell (v := .int .i64 p) hs1.blk 1 rfl; have HS1 := Lib.hid hs1; have HB1 := Lib.hid hb1; clear hs1 hb1; rw [show Sx.runL good (s.data.toList.drop p) p = q from HQ.out]) | (go_at_call 99; refine (put_calls sb s p l rm er pl tv rv k q HPQ.out HIN.out.2 _ HS1.out).mono ?_; rintro e w8 ⟨tv8, rv8, rfl, hs8, hk8⟩))
    go_ret
    rw [HW.out, if_neg HL.out]
    exact Dn.behind ⟨_, _, rfl, hs8, hk8⟩ HB1.out
theorem Sx.datF_cons (n : Nat) (c : UInt8) (l : List UInt8) : datF (n + 1) (c :: l) = ((if n = 5 ∨ n = 2 then c == 45 else dg8 c) && datF n l) := rfl
set_option maxHeartbeats 4000000 in
set_option maxRecDepth 100000 in
theorem dated_calls (S : ByteArray) (w : World) : Calls Tryz.prog 100 #[.string S] w fun e w' => e = .returned (.bool (datedL S.data.toList)) ∧ w = w' := by
  obtain ⟨F, hF⟩ : ∃ F, datedL S.data.toList = F := ⟨_, rfl⟩
  rw [hF]
  by_cases h10 : S.size < 10
  · have z1 : decide ((S.size : Int) < 10) = true := decide_eq_true (by omega)
    have HF := Lib.hid (show F = false by
      rw [← hF]
      cases h : datedL S.data.toList with
      | false => rfl
      | true => have h1 := datedL_len h; have h2 : S.data.toList.length = S.size := rfl; omega)
    clear hF
    go_enter Tryz.func100, Tryz.ntmps100
    go_wp2_with fail
    go_ret
    exact ⟨by rw [HF.out]; try rfl, rfl⟩
  · have z1 : decide ((S.size : Int) < 10) = false := decide_eq_false (by omega)
    have HF := Lib.hid hF
    have HZ := Lib.hid h10
    clear hF
    go_enter Tryz.func100, Tryz.ntmps100
    go_wp2_with fail
    go_loop [7] (fun u7 => ∃ i : Nat, u7 = .int .i64 i ∧ i ≤ 10 ∧ F = datF (10 - i) (S.data.toList.drop i)) (fun u7 => 10 - (RowKit.intOf u7).toNat)
    case atStart => exact ⟨0, rfl, by omega, HF.out.symm⟩
    case round =>
      obtain ⟨i, rfl, hi, hf⟩ := hrel
      by_cases hlt : i < 10
      · have hs : i < S.size := by omega
        obtain ⟨n, hn⟩ : ∃ n, 10 - i = n + 1 := ⟨9 - i, by omega⟩
        have e5 : S.data.toList.drop i = S[i] :: S.data.toList.drop (i + 1) := by
          rw [List.drop_eq_getElem_cons (show i < S.data.toList.length from hs)]
          rfl
        rw [hn, e5, datF_cons] at hf
        have hn2 : 10 - (i + 1) = n := by omega
        have x1 : decide ((i : Int) < 10) = true := decide_eq_true (by omega)
        have x2 : (i : Int) < (S.size : Int) := by omega
        have x3 : (0 : Int) ≤ (i : Int) := by omega
        have x4 : (i : Int) < 10 := by omega
        by_cases hi4 : i = 4 ∨ i = 7
        · have hc : (if n = 5 ∨ n = 2 then S[i] == 45 else dg8 S[i]) = (S[i] == 45) := if_pos (by omega)
          rw [hc] at hf
          have e47 : (((i : Int) == 4) = true ∧ (i == 4) = true) ∨ (((i : Int) == 4) = false ∧ (i == 4) = false ∧ ((i : Int) == 7) = true ∧ (i == 7) = true) := by
            rcases hi4 with rfl | rfl
            · exact .inl ⟨rfl, rfl⟩
            · exact .inr ⟨rfl, rfl, rfl, rfl⟩
          cases hb : (S[i] == (45 : UInt8))
          · have hne : (((S[i]).toNat : Int) != 45) = true := by
              have h1 : S[i] ≠ 45 := by simpa using hb
              simp only [bne_iff_ne, ne_eq]
              intro h2
              exact h1 (UInt8.toNat_inj.1 (by show (S[i]).toNat = 45; omega))
            have HFF := Lib.hid (show F = false by rw [hf, hb]; rfl)
            clear hf hb e5 hc hn hn2 hi4 hlt
            rcases e47 with ⟨g1, g2⟩ | ⟨g1, g2, g3, g4⟩
            all_goals
              go_wp2_with fail
              go_ret
              exact ⟨by rw [HFF.out]; try rfl, rfl⟩
          · have hne : (((S[i]).toNat : Int) != 45) = false := by
              have h1 : S[i] = 45 := by simpa using hb
              rw [h1]; rfl
            have HFF := Lib.hid (show F = datF (10 - (i + 1)) (S.data.toList.drop (i + 1)) by rw [hf, hb, hn2]; rfl)
            clear hf hb e5 hc hn hn2 hi4 hlt
            rcases e47 with ⟨g1, g2⟩ | ⟨g1, g2, g3, g4⟩
            all_goals
              go_wp2_with fail
              go_round
              case rel => exact ⟨i + 1, rfl, by omega, HFF.out⟩
              case measure => simp [RowKit.intOf]; omega
        · have hc : (if n = 5 ∨ n = 2 then S[i] == 45 else dg8 S[i]) = dg8 S[i] := if_neg (by omega)
          rw [hc] at hf
          have g1 : ((i : Int) == 4) = false := by simp only [beq_eq_false_iff_ne, ne_eq]; omega
          have g2 : (i == 4) = false := by simp only [beq_eq_false_iff_ne, ne_eq]; omega
          have g3 : ((i : Int) == 7) = false := by simp only [beq_eq_false_iff_ne, ne_eq]; omega
          have g4 : (i == 7) = false := by simp only [beq_eq_false_iff_ne, ne_eq]; omega
          cases hb : dg8 S[i]
          · have hne : (cls (S[i]).toNat != 4) = true := by unfold dg8 isDig at hb; simpa using hb
            have HFF := Lib.hid (show F = false by rw [hf, hb]; rfl)
            clear hf hb e5 hc hn hn2 hi4 hlt
            go_wp2_with (first | (go_at_call 75; refine (classOf_calls _ _).mono ?_; rintro e w6 ⟨rfl, rfl⟩))
            go_ret
            exact ⟨by rw [HFF.out]; try rfl, rfl⟩
          · have hne : (cls (S[i]).toNat != 4) = false := by unfold dg8 isDig at hb; simpa using hb
            have HFF := Lib.hid (show F = datF (10 - (i + 1)) (S.data.toList.drop (i + 1)) by rw [hf, hb, hn2]; rfl)
            clear hf hb e5 hc hn hn2 hi4 hlt
            go_wp2_with (first | (go_at_call 75; refine (classOf_calls _ _).mono ?_; rintro e w6 ⟨rfl, rfl⟩))
            go_round
            case rel => exact ⟨i + 1, rfl, by omega, HFF.out⟩
            case measure => simp [RowKit.intOf]; omega
      · have HFF := Lib.hid (show F = true by rw [hf, show 10 - i = 0 by omega]; rfl)
        have x1 : decide ((i : Int) < 10) = false := decide_eq_false (by omega)
        clear hf hlt
        go_wp2_with fail
        go_ret
        exact ⟨by rw [HFF.out]; try rfl, rfl⟩
end Go.Proofs.YtcakgennlliejaaGreatDoor
/- lexer: number -/
namespace Go.Proofs.YtcakgennlliejaaGreatDoor
open Go.Shelf Go.RowKit Go.Lib
open Go.Proofs.YtcakgennlliejaaGreatDoorW.PrintWords
open Go.Proofs.YtcakgennlliejaaGreatDoor.PSyntaxJoined
open Sx
set_option linter.unusedVariables false
set_option linter.unusedSimpArgs false
theorem Sx.extract_tl (s : ByteArray) (p : Nat) : (s.extract p s.size).data.toList = tl s p := by
  rw [extract_eq]
  show (List.take (s.size - p) (s.data.toList.drop p)) = tl s p
  rw [List.take_of_length_le (by rw [List.length_drop]; exact Nat.le_refl _)]
  rfl
set_option maxRecDepth 100000 in
theorem digit_enters : ∀ args w, (callFunc 101 args).run Tryz.prog w = .ok (.enter 101 args) w := Go.Proofs.enters_of (f := 101) rfl rfl rfl
theorem drun_calls (sb : Nat) (s : ByteArray) (a b : Nat) (w : World) (hc : w.cell? ⟨sb, 0, none⟩ = some (.string s)) (ha : a ≤ s.size) (hz : s.size ≤ 65536) (hb : runL isDig (tl s a) a = b) :
    Calls Tryz.prog 98 #[.pointer (some ⟨sb, 0, none⟩), .int .i64 a, .func (.func 101) #[] #[]] w fun e w' => e = .returned (.int .i64 b) ∧ Below w.heap.size w w' := by
  subst hb
  exact run_calls isDig 101 digit_enters rfl digit_calls sb s a w hc ha hz
theorem Sx.num_none (s : ByteArray) (p q : Nat) (hp : p < s.size) (h : runL isDig (tl s p) p = q) (hq : ∀ h1 : q + 1 < s.size, (s[q]'(Nat.lt_of_succ_lt h1) == 46 && dg8 (s[q + 1]'h1)) = false) : numN (tl s p) = q - p := by
  have hr := h
  rw [runL_eq] at h
  have h3 : runN isDig (tl s p) = q - p := by omega
  unfold numN
  rw [h3, tl_drop, show p + (q - p) = q by omega]
  by_cases h1 : q + 1 < s.size
  · rw [tl_cons (Nat.lt_of_succ_lt h1), tl_cons h1]
    show (if (s[q]'(Nat.lt_of_succ_lt h1) == 46 && dg8 (s[q + 1]'h1)) = true then _ else _) = _
    rw [hq h1]; rfl
  · by_cases h2 : q < s.size
    · rw [tl_cons h2, tl_nil h1]
    · rw [tl_nil h2]
theorem Sx.num_more (s : ByteArray) (p q q2 : Nat) (hp : p < s.size) (h : runL isDig (tl s p) p = q) (h1 : q + 1 < s.size) (hd : s[q]'(Nat.lt_of_succ_lt h1) = 46) (hg : dg8 (s[q + 1]'h1) = true) (h2 : runL isDig (tl s (q + 1)) (q + 1) = q2) : numN (tl s p) = q2 - p := by
  rw [runL_eq] at h h2
  have h3 : runN isDig (tl s p) = q - p := by omega
  unfold numN
  rw [h3, tl_drop, show p + (q - p) = q by omega, tl_cons (Nat.lt_of_succ_lt h1), tl_cons h1]
  show (if (s[q]'(Nat.lt_of_succ_lt h1) == 46 && dg8 (s[q + 1]'h1)) = true then q - p + 1 + runN isDig (s[q + 1]'h1 :: tl s (q + 1 + 1)) else _) = _
  rw [hd, hg, if_pos (by decide), ← tl_cons h1]
  omega
theorem Sx.num_none' (s : ByteArray) (p q q1 : Nat) (hq1 : q + 1 = q1) (hp : p < s.size) (hd : datedL (tl s p) = false) (h : runL isDig (tl s p) p = q) (hq : ∀ (h1 : q1 < s.size) (h0 : q < s.size), (s[q]'h0 == 46 && dg8 (s[q1]'h1)) = false) : numberS (tl s p) p = putS 3 (q - p) (tl s p) p := by
  subst hq1
  unfold numberS
  rw [hd, num_none s p q hp h (fun h1 => hq h1 _)]
  rfl
theorem Sx.num_more' (s : ByteArray) (p q q1 q2 : Nat) (hq1 : q + 1 = q1) (hp : p < s.size) (hd0 : datedL (tl s p) = false) (h : runL isDig (tl s p) p = q) (h1 : q1 < s.size) (h0 : q < s.size) (hd : (s[q]'h0 == 46) = true) (hg : dg8 (s[q1]'h1) = true) (h2 : runL isDig (tl s q1) q1 = q2) : numberS (tl s p) p = putS 3 (q2 - p) (tl s p) p := by
  subst hq1
  unfold numberS
  rw [hd0, num_more s p q q2 hp h h1 (by simpa using hd) hg h2]
  rfl
set_option maxHeartbeats 4000000 in
set_option maxRecDepth 100000 in
theorem number_calls (sb : Nat) (s : ByteArray) (p : Nat) (l : List S48) (rm : List ByteArray) (er pl : Int) (tv rv : Value) (hp : p < s.size) (hgp : isDig (cls (s[p]'hp).toNat) = true) (w : World) (h : Sn w sb s p l rm er pl tv rv) :
    Calls Tryz.prog 82 #[.pointer (some ⟨sb, 0, none⟩)] w (Dn (numberS (tl s p) p) sb s p l rm er pl w) := by
  have HS := Lib.hid h
  have hz := h.z
  have HZ := Lib.hid hz
  have HP := Lib.hid hp
  have hdt := fun w => dated_calls (s.extract p s.size) w
  rw [extract_tl] at hdt
  have ys := blk_cell (v := .string s) h.blk 0 rfl
  have yp := blk_cell (v := .int .i64 p) h.blk 1 rfl
  have b1 : (0 : Int) ≤ (p : Int) := by omega
  have b3 : (p : Int) ≤ (s.size : Int) := by omega
  have c1 : ¬ ((p : Int) < 0) := by omega
  have c2 : ¬ ((s.size : Int) < (p : Int)) := by omega
  cases hd : datedL (tl s p)
  · rw [hd] at hdt
    have HDT := Lib.hid (fun w : World => (hdt w).mono (fun (e : Ending) (w' : World) hh => (⟨hh.1, hh.2.symm⟩ : e = .returned (.bool false) ∧ w' = w)))
    have HD := Lib.hid hd
    obtain ⟨q, hq⟩ : ∃ q, runL isDig (tl s p) p = q := ⟨_, rfl⟩
    have hin := runs_to s isDig p q (Nat.le_of_lt hp) hq
    have HIN := Lib.hid hin
    have HPQ := Lib.hid (run_pos s isDig p q hp hgp hq)
    have HQ := Lib.hid hq
    clear hdt hd
    obtain ⟨q1, hq1⟩ : ∃ q1, q + 1 = q1 := ⟨_, rfl⟩
    have HQ1 := Lib.hid hq1
    have e2 : (q : Int) + 1 = (q1 : Int) := by omega
    have e3 : wrap64 (q1 : Int) = (q1 : Int) := IntWalk.wrap64_in _ (by omega)
    have g1 : (0 : Int) ≤ (q : Int) := by omega
    have g2 : (0 : Int) ≤ (q1 : Int) := by omega
    by_cases hq2 : q1 < s.size
    · have z1 : decide ((q1 : Int) < (s.size : Int)) = true := decide_eq_true (by omega)
      have z2 : decide (q1 < s.size) = true := decide_eq_true hq2
      have z3 : (q1 : Int) < (s.size : Int) := by omega
      have hq0 : q < s.size := by omega
      have z4 : (q : Int) < (s.size : Int) := by omega
      cases hc : (s[q]'hq0 == (46 : UInt8))
      · have hne : (((s[q]'hq0).toNat : Int) == 46) = false := by
          have h1 : s[q]'hq0 ≠ 46 := by simpa using hc
          simp only [beq_eq_false_iff_ne, ne_eq]
          intro h2
          exact h1 (UInt8.toNat_inj.1 (by show (s[q]'hq0).toNat = 46; omega))
        have HPE := Lib.hid (num_none' s p q q1 hq1 hp HD.out hq (fun h1 h0 => by rw [hc]; rfl))
        clear hq hin hc hq1 h hz hgp hp
        go_enter Tryz.func82, Tryz.ntmps82
        go_upto_region 1 with (fail)
        go_quiet ((go_at_call 100; exact Calls.quiet_of_same (HDT.out _)))
        obtain ⟨X, hX⟩ : ∃ X, w.drewN nq = X := ⟨_, rfl⟩
        have HB := Lib.hid (show Below w.heap.size w X by rw [← hX]; exact below_drewn (Below.refl _ w) _)
        have HSX := Lib.hid (HS.out.below HB.out)
        have xp := blk_cell (v := .int .i64 p) HSX.out.blk 1 rfl
        have HR := Lib.hid (drun_calls sb s p q X (blk_cell (v := .string s) HSX.out.blk 0 rfl) (Nat.le_of_lt HP.out) HZ.out HQ.out)
        try rw [hX]
        clear hX ys yp
        go_upto_region 4 with (first | (go_at_call 98; ((with_reducible refine HR.out.mono ?_); rintro e w1 ⟨rfl, hb1⟩)))
        have HS1 := Lib.hid (HSX.out.below hb1)
        have HB1 := Lib.hid (HB.out.trans (hb1.mono HB.out.size))
        have xs := blk_cell (v := .string s) HS1.out.blk 0 rfl
        have x1 := blk_cell (v := .int .i64 p) HS1.out.blk 1 rfl
        clear hb1 xp
        go_wp2_with (first | (go_at_call 75; ((with_reducible refine (classOf_calls _ _).mono ?_); rintro e w6 ⟨rfl, rfl⟩)) | (go_at_call 99; ((with_reducible refine (put_calls sb s p l rm er pl tv rv 3 q HPQ.out HIN.out.2 _ HS1.out).mono ?_); rintro e w8 ⟨tv8, rv8, rfl, hs8, hk8⟩)))
        go_ret
        rw [HPE.out]
        exact Dn.behind ⟨_, _, rfl, hs8, hk8⟩ HB1.out
      · have hne : (((s[q]'hq0).toNat : Int) == 46) = true := by
          have h1 : s[q]'hq0 = 46 := by simpa using hc
          rw [h1]; rfl
        cases hg : dg8 (s[q1]'hq2)
        · have hcl : (cls (s[q1]'hq2).toNat == 4) = false := hg
          have HPE := Lib.hid (num_none' s p q q1 hq1 hp HD.out hq (fun h1 h0 => by rw [hg]; exact Bool.and_false _))
          clear hq hin hc hg hq1 h hz hgp hp
          go_enter Tryz.func82, Tryz.ntmps82
          go_upto_region 1 with (fail)
          go_quiet ((go_at_call 100; exact Calls.quiet_of_same (HDT.out _)))
          obtain ⟨X, hX⟩ : ∃ X, w.drewN nq = X := ⟨_, rfl⟩
          have HB := Lib.hid (show Below w.heap.size w X by rw [← hX]; exact below_drewn (Below.refl _ w) _)
          have HSX := Lib.hid (HS.out.below HB.out)
          have xp := blk_cell (v := .int .i64 p) HSX.out.blk 1 rfl
          have HR := Lib.hid (drun_calls sb s p q X (blk_cell (v := .string s) HSX.out.blk 0 rfl) (Nat.le_of_lt HP.out) HZ.out HQ.out)
          try rw [hX]
          clear hX ys yp
          go_upto_region 4 with (first | (go_at_call 98; ((with_reducible refine HR.out.mono ?_); rintro e w1 ⟨rfl, hb1⟩)))
          have HS1 := Lib.hid (HSX.out.below hb1)
          have HB1 := Lib.hid (HB.out.trans (hb1.mono HB.out.size))
          have xs := blk_cell (v := .string s) HS1.out.blk 0 rfl
          have x1 := blk_cell (v := .int .i64 p) HS1.out.blk 1 rfl
          clear hb1 xp
          go_wp2_with (first | (go_at_call 75; ((with_reducible refine (classOf_calls _ _).mono ?_); rintro e w6 ⟨rfl, rfl⟩)) | (go_at_call 99; ((with_reducible refine (put_calls sb s p l rm er pl tv rv 3 q HPQ.out HIN.out.2 _ HS1.out).mono ?_); rintro e w8 ⟨tv8, rv8, rfl, hs8, hk8⟩)))
          go_ret
          rw [HPE.out]
          exact Dn.behind ⟨_, _, rfl, hs8, hk8⟩ HB1.out
        · have hcl : (cls (s[q1]'hq2).toNat == 4) = true := hg
          obtain ⟨q2, hr2⟩ : ∃ q2, runL isDig (tl s q1) q1 = q2 := ⟨_, rfl⟩
          have HR2 := Lib.hid hr2
          have HIN2 := Lib.hid (runs_to s isDig q1 q2 (Nat.le_of_lt hq2) hr2)
          have HPE := Lib.hid (num_more' s p q q1 q2 hq1 hp HD.out hq hq2 hq0 hc hg hr2)
          have HLE := Lib.hid (show q1 ≤ s.size from Nat.le_of_lt hq2)
          have HPQ2 := Lib.hid (show p < q2 by have h1 := HIN2.out.1; have h2 := HPQ.out; omega)
          clear hq hin hc hg hq1 h hz hgp hp hr2
          go_enter Tryz.func82, Tryz.ntmps82
          go_upto_region 1 with (fail)
          go_quiet ((go_at_call 100; exact Calls.quiet_of_same (HDT.out _)))
          obtain ⟨X, hX⟩ : ∃ X, w.drewN nq = X := ⟨_, rfl⟩
          have HB := Lib.hid (show Below w.heap.size w X by rw [← hX]; exact below_drewn (Below.refl _ w) _)
          have HSX := Lib.hid (HS.out.below HB.out)
          have xp := blk_cell (v := .int .i64 p) HSX.out.blk 1 rfl
          have HR := Lib.hid (drun_calls sb s p q X (blk_cell (v := .string s) HSX.out.blk 0 rfl) (Nat.le_of_lt HP.out) HZ.out HQ.out)
          try rw [hX]
          clear hX ys yp
          go_upto_region 4 with (first | (go_at_call 98; ((with_reducible refine HR.out.mono ?_); rintro e w1 ⟨rfl, hb1⟩)))
          have HS1 := Lib.hid (HSX.out.below hb1)
          have HB1 := Lib.hid (HB.out.trans (hb1.mono HB.out.size))
          have xs := blk_cell (v := .string s) HS1.out.blk 0 rfl
          have x1 := blk_cell (v := .int .i64 p) HS1.out.blk 1 rfl
          clear hb1 xp
          go_wp2_with (first | (go_at_call 75; ((with_reducible refine (classOf_calls _ _).mono ?_); rintro e w6 ⟨rfl, rfl⟩)) | (go_at_call 98; ((with_reducible refine (drun_calls sb s q1 q2 _ xs HLE.out HZ.out HR2.out).mono ?_); rintro e w2 ⟨rfl, hb2⟩; have HS2 := Lib.hid (HS1.out.below hb2); have HB2 := Lib.hid (HB1.out.trans (hb2.mono HB1.out.size)); clear hb2)) | (go_at_call 99; ((with_reducible refine (put_calls sb s p l rm er pl tv rv 3 q2 HPQ2.out HIN2.out.2 _ HS2.out).mono ?_); rintro e w8 ⟨tv8, rv8, rfl, hs8, hk8⟩)))
          go_ret
          rw [HPE.out]
          exact Dn.behind ⟨_, _, rfl, hs8, hk8⟩ HB2.out
    · have z1 : decide ((q1 : Int) < (s.size : Int)) = false := decide_eq_false (by omega)
      have z2 : decide (q1 < s.size) = false := decide_eq_false hq2
      have HPE := Lib.hid (num_none' s p q q1 hq1 hp HD.out hq (fun h1 h0 => absurd h1 hq2))
      clear hq hin hq1 h hz hgp hp
      go_enter Tryz.func82, Tryz.ntmps82
      go_upto_region 1 with (fail)
      go_quiet ((go_at_call 100; exact Calls.quiet_of_same (HDT.out _)))
      obtain ⟨X, hX⟩ : ∃ X, w.drewN nq = X := ⟨_, rfl⟩
      have HB := Lib.hid (show Below w.heap.size w X by rw [← hX]; exact below_drewn (Below.refl _ w) _)
      have HSX := Lib.hid (HS.out.below HB.out)
      have xp := blk_cell (v := .int .i64 p) HSX.out.blk 1 rfl
      have HR := Lib.hid (drun_calls sb s p q X (blk_cell (v := .string s) HSX.out.blk 0 rfl) (Nat.le_of_lt HP.out) HZ.out HQ.out)
      try rw [hX]
      clear hX ys yp
      go_upto_region 4 with (first | (go_at_call 98; ((with_reducible refine HR.out.mono ?_); rintro e w1 ⟨rfl, hb1⟩)))
      have HS1 := Lib.hid (HSX.out.below hb1)
      have HB1 := Lib.hid (HB.out.trans (hb1.mono HB.out.size))
      have xs := blk_cell (v := .string s) HS1.out.blk 0 rfl
      have x1 := blk_cell (v := .int .i64 p) HS1.out.blk 1 rfl
      clear hb1 xp
      go_wp2_with (first | (go_at_call 75; ((with_reducible refine (classOf_calls _ _).mono ?_); rintro e w6 ⟨rfl, rfl⟩)) | (go_at_call 99; ((with_reducible refine (put_calls sb s p l rm er pl tv rv 3 q HPQ.out HIN.out.2 _ HS1.out).mono ?_); rintro e w8 ⟨tv8, rv8, rfl, hs8, hk8⟩)))
      go_ret
      rw [HPE.out]
      exact Dn.behind ⟨_, _, rfl, hs8, hk8⟩ HB1.out
  · rw [hd] at hdt
    have HDT := Lib.hid (fun w : World => (hdt w).mono (fun (e : Ending) (w' : World) hh => (⟨hh.1, hh.2.symm⟩ : e = .returned (.bool true) ∧ w' = w)))
    have HPE := Lib.hid (show numberS (tl s p) p = putS 4 10 (tl s p) p from by unfold numberS; rw [hd]; rfl)
    have hl := datedL_len hd
    have hl2 : (tl s p).length = s.size - p := by unfold tl; rw [List.length_drop]; rfl
    have hq : p + 10 ≤ s.size := by omega
    obtain ⟨q, hq10⟩ : ∃ q, p + 10 = q := ⟨_, rfl⟩
    have wz3 : wrap64 (q : Int) = (q : Int) := IntWalk.wrap64_in _ (by omega)
    have wz2 : (p : Int) + 10 = (q : Int) := by omega
    have HQ := Lib.hid (show p < q ∧ q ≤ s.size ∧ q - p = 10 from ⟨by omega, by omega, by omega⟩)
    clear hd hl hl2 hq hq10 hdt h hz hgp hp
    go_enter Tryz.func82, Tryz.ntmps82
    go_upto_region 1 with (fail)
    go_quiet ((go_at_call 100; exact Calls.quiet_of_same (HDT.out _)))
    obtain ⟨X, hX⟩ : ∃ X, w.drewN nq = X := ⟨_, rfl⟩
    have HB := Lib.hid (show Below w.heap.size w X by rw [← hX]; exact below_drewn (Below.refl _ w) _)
    have HSX := Lib.hid (HS.out.below HB.out)
    have xp := blk_cell (v := .int .i64 p) HSX.out.blk 1 rfl
    try rw [hX]
    clear hX ys yp
    go_wp2_with (first | (go_at_call 99; refine (put_calls sb s p l rm er pl tv rv 4 q HQ.out.1 HQ.out.2.1 _ HSX.out).mono ?_; rintro e w8 ⟨tv8, rv8, rfl, hs8, hk8⟩))
    go_ret
    rw [HPE.out, ← HQ.out.2.2]
    exact Dn.behind ⟨_, _, rfl, hs8, hk8⟩ HB.out
end Go.Proofs.YtcakgennlliejaaGreatDoor
