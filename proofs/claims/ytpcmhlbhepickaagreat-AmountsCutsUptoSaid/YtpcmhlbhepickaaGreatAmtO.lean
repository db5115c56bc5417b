import Derived.Test.YtpcmhlbhepickaaGreatMonE
import Derived.Test.YtpcmhlbhepickaaGreatMonC
import Derived.Test.YtpcmhlbhepickaaGreatAmtU
import Derived.Maps.AppendAt
/- amounts.Sum of any lines -/
namespace Go.Proofs.YtpcmhlbhepickaaGreat
open Go.RowKit Go.Lib
open Go.Proofs.YtpcmhlbhepickaaGreat.PAmountsCuts
open Go.Proofs.YtpcmhlbhepickaaGreatW.PrintWords
set_option linter.unusedVariables false
set_option linter.unusedSimpArgs false
namespace Am
/-- what is paid, line by line -/
def paids (l : List S27) : List Int := l.map S27.f3
theorem paids_len (l : List S27) : (paids l).length = l.length := by simp [paids]
theorem rd27 (l : List S27) (i : Nat) (h : i < l.length) : rd_T27 l (i : Int) = l[i] := by
  unfold rd_T27
  simp [List.getD, h]
theorem paids_take (l : List S27) (i : Nat) (h : i < l.length) : (paids l).take i ++ [(rd_T27 l (i : Int)).f3] = (paids l).take (i + 1) := by
  have h1 : i < (paids l).length := by rw [paids_len]; exact h
  rw [List.take_succ_eq_append_getElem h1, rd27 l i h]
  simp [paids]
theorem paid_l (l : List S27) (hl : l.length ≤ 17592186044416) : ∀ n i, l.length - i = n → i ≤ l.length → amounts_paid.l0 (n + 1) ((paids l).take i) l (l.length : Int) (i : Int) = some (paids l) := by
  intro n
  induction n with
  | zero =>
    intro i h1 h2
    rw [amounts_paid.l0, if_neg (by omega), List.take_of_length_le (by rw [paids_len]; omega)]
  | succ n ih =>
    intro i h1 h2
    rw [amounts_paid.l0, if_pos (by omega), if_pos (by omega), if_pos (by omega), if_pos (by rw [List.length_take, paids_len]; omega), paids_take l i (by omega), Mo.vwrap _ (by omega)]
    exact ih (i + 1) (by omega) (by omega)
theorem paid_f (l : List S27) (hl : l.length ≤ 17592186044416) : amounts_paid.f (l.length + 1) l = some (paids l) := paid_l l hl l.length 0 (by omega) (by omega)
end Am
set_option maxRecDepth 100000 in
theorem asum_calls (A : Option Addr) (c : Nat) (ls : List S27) (w : World) (hC : Kd.C k27 w A ls.length ls) (hc : ls.length ≤ c) (hl : ls.length ≤ 17592186044416) :
    Calls Tryz.prog 5 #[.slice A ls.length c] w fun e w' => e = .returned (.tuple #[.int .i64 (Mo.sumE (Am.paids ls)).1, .int .i64 (Mo.sumE (Am.paids ls)).2]) ∧ Below w.heap.size w w' := by
  have HP := Lib.hid (amounts_paid.calls (ls.length + 1) A c ls (Am.paids ls) w hC hc (Am.paid_f ls hl))
  clear hC hc hl
  go_enter Tryz.func5, Tryz.ntmps5
  go_wp2_with (first
    | (go_at_call 13; refine HP.out.mono ?_; rintro e w1 ⟨v, rfl, hR, hb⟩
       obtain ⟨A1, c1, rfl, hc1, hC1⟩ := Kd.R_reads hR
       have HS := Lib.hid (sum_calls (Am.paids ls) _ w1 (rdI_of (c := c1) hC1))
       have HB := Lib.hid hb
       clear hR hb hC1)
    | (go_at_call 12; refine HS.out.mono ?_; rintro e w2 ⟨rfl, rfl⟩))
  go_ret2
  exact ⟨rfl, HB.out⟩
end Go.Proofs.YtpcmhlbhepickaaGreat
/- amounts.Budget of any lines -/
namespace Go.Proofs.YtpcmhlbhepickaaGreat
open Go.RowKit Go.Lib
open Go.Proofs.YtpcmhlbhepickaaGreat.PAmountsCuts
open Go.Proofs.YtpcmhlbhepickaaGreatW.PrintWords
set_option linter.unusedVariables false
set_option linter.unusedSimpArgs false
namespace Am
def lc (x : S27) : List Value := [.int .i64 x.f0, .int .i64 x.f1, .int .i64 x.f2, .int .i64 x.f3]
def lcs (l : List S27) : List Value := l.flatMap lc
theorem lcs_len (l : List S27) : (lcs l).length = l.length * 4 := by
  induction l with
  | nil => rfl
  | cons x l ih => unfold lcs at *; rw [List.flatMap_cons, List.length_append, ih, List.length_cons]; show 4 + _ = _; omega
theorem lcs_at (l : List S27) : ∀ (j i : Nat) (hj : j < l.length), i < 4 → (lcs l)[j * 4 + i]? = (lc l[j])[i]? := by
  induction l with
  | nil => intro j i hj; exact absurd hj (by simp)
  | cons x l ih =>
    intro j i hj hi
    have e : lcs (x :: l) = lc x ++ lcs l := by unfold lcs; rw [List.flatMap_cons]
    rw [e]
    match j, hj with
    | 0, _ => rw [List.getElem?_append_left (by show _ < 4; omega)]; simp
    | j + 1, hj =>
      rw [List.getElem?_append_right (by show 4 ≤ _; omega)]
      have e2 : (j + 1) * 4 + i - (lc x).length = j * 4 + i := by show _ - 4 = _; omega
      rw [e2, ih j i (by simpa using hj) hi]
      rfl
theorem lcs_one (l : List S27) : ∀ u ∈ lcs l, u.oneCell' = true := by
  intro u hu
  obtain ⟨x, _, hx⟩ := List.mem_flatMap.1 hu
  simp [lc] at hx
  rcases hx with rfl | rfl | rfl | rfl <;> rfl
theorem add_off (a : Addr) (i j : Nat) (hi : 0 < i) : a.add (j + i) = ⟨(a.add j).block, (a.add j).off + i, none⟩ := by
  cases a with
  | mk b o s =>
    cases i with
    | zero => omega
    | succ i =>
      cases j with
      | zero => simp [Addr.add]
      | succ j => simp [Addr.add]; omega
theorem c27_cell {w : World} {A : Option Addr} {ls : List S27} (h : Kd.C k27 w A ls.length ls) (hn : 0 < ls.length) : ∃ a, A = some a ∧ ∀ j u, (lcs ls)[j]? = some u → w.cell? (a.add j) = some u := by
  obtain ⟨_, _, h2⟩ := h
  obtain ⟨a, rfl, hc⟩ := h2 hn
  refine ⟨a, rfl, fun j u hj => ?_⟩
  have hjl : j < ls.length * 4 := by
    rcases Nat.lt_or_ge j (ls.length * 4) with h | h
    · exact h
    · rw [List.getElem?_eq_none (by rw [lcs_len]; exact h)] at hj; cases hj
  obtain ⟨q, r, hr, rfl⟩ : ∃ q r, r < 4 ∧ j = q * 4 + r := ⟨j / 4, j % 4, Nat.mod_lt _ (by decide), by omega⟩
  have hq : q < ls.length := by omega
  rw [lcs_at ls q r hq hr] at hj
  obtain ⟨cs, _, hk, hcell⟩ := hc q ls[q] (List.getElem?_eq_getElem hq)
  obtain rfl := k27_open hk
  exact hcell r u hj
/-- a row of lines at the head of block g -/
structure Row4 (w : World) (g n : Nat) (F : Nat → S27) : Prop where
  c0 : ∀ j, j < n → w.cell? ⟨g, j * 4, none⟩ = some (.int .i64 (F j).f0)
  c1 : ∀ j, j < n → w.cell? ⟨g, j * 4 + 1, none⟩ = some (.int .i64 (F j).f1)
  c2 : ∀ j, j < n → w.cell? ⟨g, j * 4 + 2, none⟩ = some (.int .i64 (F j).f2)
  c3 : ∀ j, j < n → w.cell? ⟨g, j * 4 + 3, none⟩ = some (.int .i64 (F j).f3)
  free : ∀ j, w.frozen? ⟨g, j, none⟩ = false
/-- what is paid of line k is p -/
def putP (F : Nat → S27) (k : Nat) (p : Int) : Nat → S27 := fun j => if j = k then { F j with f3 := p } else F j
theorem Row4.put {w : World} {g n : Nat} {F : Nat → S27} (h : Row4 w g n F) (k : Nat) (hk : k < n) (p : Int) : Row4 (w.setCell ⟨g, k * 4 + 3, none⟩ (.int .i64 p)) g n (putP F k p) := by
  have e : ∀ i, i ≠ k * 4 + 3 → (w.setCell ⟨g, k * 4 + 3, none⟩ (.int .i64 p)).cell? ⟨g, i, none⟩ = w.cell? ⟨g, i, none⟩ := fun i hi => World.cell?_setCell_other _ _ _ _ (fun h => hi (by injection h with _ h2; exact h2.symm))
  refine ⟨fun j hj => ?_, fun j hj => ?_, fun j hj => ?_, fun j hj => ?_, fun j => by rw [World.frozen?_setCell]; exact h.free j⟩
  · rw [e _ (by omega), h.c0 j hj]; unfold putP; split <;> rfl
  · rw [e _ (by omega), h.c1 j hj]; unfold putP; split <;> rfl
  · rw [e _ (by omega), h.c2 j hj]; unfold putP; split <;> rfl
  · unfold putP
    by_cases c : j = k
    · subst c; rw [if_pos rfl]; exact World.cell?_setCell_same _ _ _ (h.c3 j hj)
    · rw [if_neg c, e _ (by omega)]; exact h.c3 j hj
theorem Row4.of_own {w : World} {base : Nat} {e : TypeId} {v : Value} {ls : List S27} (h : w.ownsRow base e 4 v ls.length (lcs ls)) (hn : 0 < ls.length) : ∃ g cap, v = .slice (some ⟨g, 0, none⟩) ls.length cap ∧ base ≤ g ∧ ls.length ≤ cap ∧ g < w.heap.size ∧ Row4 w g ls.length (fun j => ls.getD j z27) := by
  rcases h.2 with ⟨rfl, h0⟩ | ⟨g, cap, cur, rfl, h1, h2, h3, h4, h5, h6⟩
  · omega
  · have hc : ∀ j i, j < ls.length → i < 4 → ∀ u, (lc (ls.getD j z27))[i]? = some u → w.cell? ⟨g, j * 4 + i, none⟩ = some u := fun j i hj hi u hu => by
      have := h.cells (g := g) rfl (j * 4 + i) u (by rw [lcs_at ls j i hj hi]; rw [← hu]; congr 1; simp [List.getD, hj])
      rwa [addr_add] at this
    exact ⟨g, cap, rfl, h1, h3, blk_lt h2, ⟨fun j hj => hc j 0 hj (by decide) _ rfl, fun j hj => hc j 1 hj (by decide) _ rfl, fun j hj => hc j 2 hj (by decide) _ rfl, fun j hj => hc j 3 hj (by decide) _ rfl, fun j => blk_free h2 j⟩⟩
theorem Row4.kd {w : World} {g n : Nat} {F : Nat → S27} (h : Row4 w g n F) (hn : n ≤ 4611686018427387904) : Kd.C k27 w (some ⟨g, 0, none⟩) n ((List.range n).map F) := by
  refine ⟨by simp, by omega, fun _ => ⟨_, rfl, fun j p hj => ?_⟩⟩
  have hjn : j < n := by
    rcases Nat.lt_or_ge j n with c | c
    · exact c
    · rw [List.getElem?_eq_none (by simpa using c)] at hj; cases hj
  have hp : p = F j := by
    rw [List.getElem?_eq_getElem (by simpa using hjn)] at hj
    simpa using (Option.some.inj hj).symm
  subst hp
  refine ⟨_, rfl, k27_mk w (F j), fun i u hi => ?_⟩
  have e : k27.sz = 4 := rfl
  rw [e, addr_add]
  match i, hi with
  | 0, hi => (obtain rfl : Value.int .i64 (F j).f0 = u := by simpa using hi); exact h.c0 j hjn
  | 1, hi => (obtain rfl : Value.int .i64 (F j).f1 = u := by simpa using hi); exact h.c1 j hjn
  | 2, hi => (obtain rfl : Value.int .i64 (F j).f2 = u := by simpa using hi); exact h.c2 j hjn
  | 3, hi => (obtain rfl : Value.int .i64 (F j).f3 = u := by simpa using hi); exact h.c3 j hjn
theorem range_getD (l : List S27) : (List.range l.length).map (fun j => l.getD j z27) = l := by
  refine List.ext_getElem (by simp) (fun i h1 h2 => ?_)
  simp [List.getD, h2]
end Am
end Go.Proofs.YtpcmhlbhepickaaGreat
/- amounts.Budget of any lines: the walk -/
namespace Go.Proofs.YtpcmhlbhepickaaGreat
open Go.RowKit Go.Lib
open Go.Proofs.YtpcmhlbhepickaaGreat.PAmountsCuts
open Go.Proofs.YtpcmhlbhepickaaGreatW.PrintWords
set_option linter.unusedVariables false
set_option linter.unusedSimpArgs false
namespace Am
def okL (x : S27) : Bool := decide (0 ≤ x.f3) && decide (Mo.chk x.f3 = 0)
def budErr (ls : List S27) (most : Int) : Int := if 4096 < ls.length then 3 else if ls.all okL = false then 22 else if most < 0 ∨ Mo.chk most ≠ 0 then 22 else (Mo.sumE (paids ls)).2
def Parts (T : Int) (l res : List Int) : Prop := res.length = l.length ∧ (∃ k, lexpriorref02_Share.f k T l = some (res, 0)) ∧ ∃ (n t : Nat) (W B : Nat → Nat), T = ((t : Nat) : Int) ∧ l.length = n ∧ (∀ i, i < n → l[i]? = some ((W i : Nat) : Int)) ∧ Wh.Ok n t W B ∧ (t < Sh.pre W n → ∀ i, i < n → B i ≤ W i) ∧ res = Wh.pl n B
def setP (ls : List S27) (ps : List Int) : List S27 := (List.range ls.length).map (fun j => { ls.getD j z27 with f3 := ps.getD j 0 })
structure Bud (ls : List S27) (most : Int) (bs : List S27) : Prop where
  bad : budErr ls most ≠ 0 → bs = []
  same : budErr ls most = 0 → (Mo.sumE (paids ls)).1 ≤ most → bs = ls
  cut : budErr ls most = 0 → most < (Mo.sumE (paids ls)).1 → ∃ ps, Parts most (paids ls) ps ∧ bs = setP ls ps
def BudPost (ls : List S27) (most : Int) (e : Ending) (w' : World) : Prop := ∃ (A : Option Addr) (c : Nat) (bs : List S27), e = .returned (.tuple #[.slice A bs.length c, .int .i64 (budErr ls most)]) ∧ Kd.C k27 w' A bs.length bs ∧ bs.length ≤ c ∧ Bud ls most bs
/-- the first k lines have got their parts -/
def part (ls : List S27) (ps : List Int) (k : Nat) : Nat → S27 := fun j => if j < k then { ls.getD j z27 with f3 := ps.getD j 0 } else ls.getD j z27
theorem part_put (ls : List S27) (ps : List Int) (k : Nat) : putP (part ls ps k) k (ps.getD k 0) = part ls ps (k + 1) := by
  funext j
  unfold putP part
  by_cases c : j = k
  · subst c; simp
  · rw [if_neg c]
    by_cases d : j < k
    · rw [if_pos d, if_pos (by omega)]
    · rw [if_neg d, if_neg (by omega)]
theorem part_all (ls : List S27) (ps : List Int) : (List.range ls.length).map (part ls ps ls.length) = setP ls ps := by
  unfold setP
  refine List.map_congr_left (fun j hj => ?_)
  unfold part
  rw [if_pos (List.mem_range.1 hj)]
end Am
theorem Wh.low (T n A L : Nat) (W Q R f : Nat → Nat) (hA : Sh.pre W n = A) (ha : 0 < A) (h1 : 0 < n) (hQ : Sh.q T A W = Q) (hR : Sh.r T A W = R) (hL : T - Sh.pre Q n = L) (hs : St.Srt R f 0 n) (hf : ∀ i, i < n → f i < n) (hT : T < Sh.pre W n) :
    ∀ i, i < n → Sh.bump Q f L i ≤ W i := by
  intro i hi
  have ok := Wh.law T n A L W Q R f hA ha h1 hQ hR hL hs hf
  have hl : Sh.pre Q n ≤ T ∧ L * A = Sh.pre R n ∧ L < n := by subst hA hQ hR hL; exact Sh.left T n W ha h1
  have inj : ∀ a b, a < b → b < n → f a ≠ f b := fun a b hab hb e => St.Lt.irrefl (R := R) (x := f b) (by have h := hs a b (Nat.zero_le _) hab hb; rw [e] at h; exact h)
  have hB := Wh.bump_eq Q f n inj L (by omega)
  rcases Nat.eq_zero_or_pos (W i) with h0 | h0
  · rw [ok.zero i hi h0]; exact Nat.zero_le _
  · have hq : Q i < W i := by
      subst hQ
      show T * W i / A < W i
      exact Nat.div_lt_of_lt_mul (by rw [hA] at hT; exact Nat.mul_lt_mul_of_pos_right hT h0)
    by_cases c : Wh.hit f L i
    · rw [(hB i).1 c]; omega
    · rw [(hB i).2 c]; omega
theorem share_parts (T : Int) (l : List Int) (v : Value) (w : World) (hv : RdI w v l) (he : Mo.shareErr T l = 0) : Calls Tryz.prog 18 #[.int .i64 T, v] w fun e w2 => Below w.heap.size w w2 ∧
    ∃ (gp : Nat) (ps : List Int), e = .returned (.tuple #[.slice (some ⟨gp, 0, none⟩) l.length l.length, .int .i64 0]) ∧ (∀ i, i < l.length → w2.cell? ⟨gp, i, none⟩ = some (.int .i64 (ps.getD i 0))) ∧ w.heap.size ≤ gp ∧ Am.Parts T l ps := by
  obtain ⟨t, n, A, L, W, Q, R, rfl, hn, hT, h1, h2, hx, hw, hA, ha, hQ, hR, hL⟩ := share_ok T l he
  refine (share_good t n A L l W Q R v w hv hn hT h1 h2 hx hw hA ha hQ hR hL).mono ?_
  rintro e w2 ⟨gp, f, rfl, hge, b2, hs, hf, hcell, -⟩
  refine ⟨b2, gp, Wh.pl n (Sh.bump Q f L), by rw [hn], fun i hi => ?_, hge, ?_, ?_, n, t, W, Sh.bump Q f L, rfl, hn, hx, Wh.law t n A L W Q R f hA ha h1 hQ hR hL hs hf, Wh.low t n A L W Q R f hA ha h1 hQ hR hL hs hf, rfl⟩
  · rw [hcell i (by omega)]
    congr 2
    rw [List.getD_eq_getElem?_getD, Wh.pl_at n _ i (by omega)]
    rfl
  · rw [Wh.pl_len]; exact hn.symm
  · exact Mo.rshare_good n t A L l W Q R f h1 h2 hn (fun i hi => by
      rw [Mo.rd_getElem l i (by omega)]
      have := hx i hi
      rw [List.getElem?_eq_getElem (by omega)] at this
      exact Option.some.inj this) hw hT hA ha hQ hR hL hs hf
end Go.Proofs.YtpcmhlbhepickaaGreat
/- amounts.Budget of any lines: its contract -/
namespace Go.Proofs.YtpcmhlbhepickaaGreat
open Go.RowKit Go.Lib
open Go.Proofs.YtpcmhlbhepickaaGreat.PAmountsCuts
open Go.Proofs.YtpcmhlbhepickaaGreatW.PrintWords
set_option linter.unusedVariables false
set_option linter.unusedSimpArgs false
theorem empty_kd (w : World) (A : Option Addr) : Kd.C k27 w A ([] : List S27).length [] := ⟨rfl, by simp, fun h => absurd h (by simp)⟩
set_option maxHeartbeats 4000000 in
set_option maxRecDepth 100000 in
theorem clone_line0 (A : Option Addr) (c : Nat) (w : World) (hA : A = none → c = 0) :
    Calls Tryz.prog 17 #[.slice A 0 c] w fun e w' => ∃ A' c', e = .returned (.slice A' 0 c') ∧ Below w.heap.size w w' := by
  cases A with
  | none =>
    obtain rfl := hA rfl
    have heq := fun (w1 : World) => run_eql_slice_nil (P := Tryz.prog) w1 24 27 none 0 0 Tryz.underlying24
    go_enter Tryz.func17, Tryz.ntmps17
    go_wp2_with fail
    go_ret
    exact ⟨⟨none, 0, rfl⟩, Below.refl _ _⟩
  | some a =>
    obtain ⟨i0, z0, hinfo, hz0, hz1, hz2, hz3⟩ := info_line
    have heq := fun (w1 : World) => run_eql_slice_nil (P := Tryz.prog) w1 24 27 (some a) 0 c Tryz.underlying24
    have hown : (w.alloc (.cells #[] 27)).ownsRow w.heap.size 27 4 (.slice (some ⟨w.heap.size, 0, none⟩) 0 0) 0 [] := ⟨rfl, .inr ⟨w.heap.size, 0, #[], rfl, Nat.le_refl _, heap_alloc_new w _, Nat.le_refl _, Nat.zero_le _, rfl, rfl⟩⟩
    have HO := Lib.hid hown
    clear hown hA
    go_enter Tryz.func17, Tryz.ntmps17
    go_wp2_with (first | (at_builtin; refine wpList_append_own_at _ rfl _ _ 24 rfl w.heap.size 27 i0 z0 4 32 Tryz.underlying24 hinfo hz0 hz1 hz2 hz3 (by decide) (.slice (some ⟨w.heap.size, 0, none⟩) 0 0) 0 [] rfl HO.out a 0 c [] rfl rfl (fun j u h => by simp at h) (fun u h => by simp at h) (by decide) (by decide) (by simp) ?_))
    intro v' w' hown hgrow hz hblk
    have HB := Lib.hid (((Below.refl w.heap.size w).alloc (Nat.le_refl _) (.cells #[] 27)).grown hgrow (by simp) (fun k h => by cases h; exact Nat.le_refl _))
    have HS : ∃ A' c', v' = .slice A' 0 c' := by
      rcases hown.2 with ⟨rfl, _⟩ | ⟨g, cap, cur, rfl, _⟩
      · exact ⟨_, _, rfl⟩
      · exact ⟨_, _, rfl⟩
    obtain ⟨A', c', rfl⟩ := HS
    clear hown hgrow hz hblk
    go_wp2_with fail
    go_ret
    exact ⟨A', c', rfl, HB.out⟩
namespace Am
theorem sum_nil : Mo.sumE (paids []) = (0, 0) := by decide
/-- Budget of no lines at all -/
theorem bud_nil (most : Int) : budErr [] most = if most < 0 ∨ Mo.chk most ≠ 0 then 22 else 0 := by
  unfold budErr
  rw [if_neg (by simp), if_neg (by simp), sum_nil]
theorem post_nil {most : Int} {A : Option Addr} {c : Nat} {er : Int} {w' : World} (he : budErr [] most = er) (h : er = 22 ∨ er = 0 ∧ 0 ≤ most) : BudPost [] most (.returned (.tuple #[.slice A 0 c, .int .i64 er])) w' := by
  refine ⟨A, c, [], by rw [he]; rfl, empty_kd _ _, Nat.zero_le _, fun _ => rfl, fun _ _ => rfl, fun h0 hs => ?_⟩
  rw [sum_nil] at hs
  rcases h with h | ⟨_, h⟩
  · rw [he, h] at h0; cases h0
  · exact absurd hs (by simpa using h)
end Am
set_option maxHeartbeats 4000000 in
set_option maxRecDepth 100000 in
theorem bud_nil_calls (A : Option Addr) (c : Nat) (most : Int) (w : World) (hA : A = none → c = 0) :
    Calls Tryz.prog 7 #[.slice A 0 c, .int .i64 most] w fun e w' => Below w.heap.size w w' ∧ Am.BudPost [] most e w' := by
  have HS := Lib.hid (fun w1 => asum_calls A c [] w1 (empty_kd w1 A) (Nat.zero_le _) (by simp))
  have HC := Lib.hid (fun w1 => clone_line0 A c w1 hA)
  have HE := Lib.hid (Am.bud_nil most)
  rw [Am.sum_nil] at HS
  clear hA
  by_cases b1 : most < 0
  · have d1 : decide (most < 0) = true := decide_eq_true b1
    have he := HE.out
    rw [if_pos (.inl b1)] at he
    have HE2 := Lib.hid he
    clear he HE b1
    go_enter Tryz.func7, Tryz.ntmps7
    go_upto_region 4 with (fail)
    go_loopw [21] (fun v wr => v = .int .i64 0 ∧ wr = w) (fun _ _ => 0)
    case atStart => exact ⟨rfl, rfl⟩
    case round =>
      obtain ⟨rfl, rfl⟩ := hrel
      go_wp2_with (first | (go_at_call 16; refine (check_calls _ _).mono ?_; rintro e W2 ⟨rfl, rfl⟩))
      go_ret2
      exact ⟨Below.refl _ _, Am.post_nil HE2.out (.inl rfl)⟩
  have d1 : decide (most < 0) = false := decide_eq_false b1
  by_cases b2 : Mo.chk most ≠ 0
  · have k1 : (Mo.chk most != 0) = true := by simpa using b2
    have he := HE.out
    rw [if_pos (.inr b2)] at he
    have HE2 := Lib.hid he
    clear he HE b1 b2
    go_enter Tryz.func7, Tryz.ntmps7
    go_upto_region 4 with (fail)
    go_loopw [21] (fun v wr => v = .int .i64 0 ∧ wr = w) (fun _ _ => 0)
    case atStart => exact ⟨rfl, rfl⟩
    case round =>
      obtain ⟨rfl, rfl⟩ := hrel
      go_wp2_with (first | (go_at_call 16; refine (check_calls _ _).mono ?_; rintro e W2 ⟨rfl, rfl⟩))
      go_ret2
      exact ⟨Below.refl _ _, Am.post_nil HE2.out (.inl rfl)⟩
  have k1 : (Mo.chk most != 0) = false := by simpa using b2
  have d2 : decide ((0 : Int) ≤ most) = true := decide_eq_true (by omega)
  have he := HE.out
  rw [if_neg (by intro h; rcases h with h | h; exact b1 h; exact b2 h)] at he
  have HE2 := Lib.hid (And.intro he (show 0 ≤ most by omega))
  clear he HE b1 b2
  go_enter Tryz.func7, Tryz.ntmps7
  go_upto_region 4 with (fail)
  go_loopw [21] (fun v wr => v = .int .i64 0 ∧ wr = w) (fun _ _ => 0)
  case atStart => exact ⟨rfl, rfl⟩
  case round =>
    obtain ⟨rfl, rfl⟩ := hrel
    go_wp2_with (first
      | (go_at_call 16; refine (check_calls _ _).mono ?_; rintro e W2 ⟨rfl, rfl⟩)
      | (go_at_call 5; refine (HS.out _).mono ?_; rintro e W2 ⟨rfl, hb⟩; have HB := Lib.hid hb; clear hb)
      | (go_at_call 17; refine (HC.out _).mono ?_; rintro e W3 ⟨A', c', rfl, hb⟩; have HB3 := Lib.hid (below_next HB.out hb); clear hb))
    go_ret2
    exact ⟨HB3.out, Am.post_nil HE2.out.1 (.inr ⟨rfl, HE2.out.2⟩)⟩
end Go.Proofs.YtpcmhlbhepickaaGreat
/- amounts.Budget of any lines: its contract (some lines) -/
namespace Go.Proofs.YtpcmhlbhepickaaGreat
open Go.RowKit Go.Lib
open Go.Proofs.YtpcmhlbhepickaaGreat.PAmountsCuts
open Go.Proofs.YtpcmhlbhepickaaGreatW.PrintWords
set_option linter.unusedVariables false
set_option linter.unusedSimpArgs false
namespace Am
theorem sum_of_pre (xs : List Int) (h : xs.all Mo.okW = true) : xs.sum = (Sh.pre (Mo.wOf xs) xs.length : Int) := by
  have e : xs = Wh.pl xs.length (Mo.wOf xs) := by
    refine List.ext_getElem (by simp [Wh.pl]) (fun i h1 h2 => ?_)
    have h3 := (Mo.wOf_at xs i h h1).1
    rw [List.getElem?_eq_getElem h1] at h3
    rw [Option.some.inj h3]
    simp [Wh.pl]
  have h2 := Wh.pl_sum xs.length (Mo.wOf xs)
  rw [← e] at h2
  exact h2
theorem okL_iff (x : S27) : okL x = true ↔ 0 ≤ x.f3 ∧ Mo.chk x.f3 = 0 := by unfold okL; simp
theorem all_okW (ls : List S27) (h : ls.all okL = true) : (paids ls).all Mo.okW = true := by
  rw [List.all_eq_true] at h ⊢
  intro p hp
  obtain ⟨x, hx, rfl⟩ := List.mem_map.1 hp
  have h1 := (okL_iff x).1 (h x hx)
  have h2 := chk_bound _ h1.2
  unfold Mo.okW
  simp
  omega
theorem share_err (ls : List S27) (most : Int) (hn : 0 < ls.length) (h4 : ls.length ≤ 4096) (hall : ls.all okL = true) (hm : 0 ≤ most) (hk : Mo.chk most = 0) (hs : most < (Mo.sumE (paids ls)).1) : Mo.shareErr most (paids ls) = 0 := by
  have ha := all_okW ls hall
  unfold Mo.shareErr
  rw [if_neg (by omega), if_neg (by simpa using hk), if_neg (by rw [paids_len]; omega), if_neg (by rw [paids_len]; omega), if_neg (by rw [ha]; decide)]
  rw [if_neg]
  intro h0
  have h1 := sum_of_pre _ ha
  rw [h0] at h1
  unfold Mo.sumE at hs
  rw [h1] at hs
  split at hs
  · split at hs
    · have : most < 0 := hs
      omega
    · have : most < 0 := hs
      omega
  · have : most < 0 := hs
    omega
theorem bad_all (ls : List S27) (k : Nat) (hk : k < ls.length) (h : okL (ls.getD k z27) = false) : ls.all okL = false := by
  rw [List.all_eq_false]
  refine ⟨ls[k], List.getElem_mem hk, ?_⟩
  have e : ls.getD k z27 = ls[k] := by simp [List.getD, hk]
  rw [← e, h]
  decide
theorem good_all (ls : List S27) (h : ∀ j, j < ls.length → okL (ls.getD j z27) = true) : ls.all okL = true := by
  rw [List.all_eq_true]
  intro x hx
  obtain ⟨j, hj, rfl⟩ := List.getElem_of_mem hx
  have e : ls.getD j z27 = ls[j] := by simp [List.getD, hj]
  rw [← e]
  exact h j hj
theorem post_bad {ls : List S27} {most er : Int} {w' : World} (he : budErr ls most = er) (h : er ≠ 0) : BudPost ls most (.returned (.tuple #[.slice none 0 0, .int .i64 er])) w' :=
  ⟨none, 0, [], by rw [he]; rfl, empty_kd _ _, Nat.zero_le _, fun _ => rfl, fun h0 => absurd (he.symm.trans h0) h, fun h0 => absurd (he.symm.trans h0) h⟩
theorem getD_line (ls : List S27) (j : Nat) (hj : j < ls.length) : ls.getD j z27 = ls[j] := by simp [List.getD, hj]
theorem paids_at (ls : List S27) (k : Nat) (hk : k < ls.length) : (paids ls).take k ++ [(ls.getD k z27).f3] = (paids ls).take (k + 1) := by
  have h := paids_take ls k hk
  rw [rd27 ls k hk] at h
  rw [getD_line ls k hk]
  exact h
end Am
theorem Am.Row4.below {w w1 : World} {g n : Nat} {F : Nat → S27} {B : Nat} (h : Am.Row4 w g n F) (hg : g < B) (b : Below B w w1) : Am.Row4 w1 g n F := by
  have e : ∀ i, w1.cell? ⟨g, i, none⟩ = w.cell? ⟨g, i, none⟩ := fun i => b.cell (p := ⟨g, i, none⟩) hg
  refine ⟨fun j hj => (e _).trans (h.c0 j hj), fun j hj => (e _).trans (h.c1 j hj), fun j hj => (e _).trans (h.c2 j hj), fun j hj => (e _).trans (h.c3 j hj), fun j => ?_⟩
  rw [← h.free j]
  unfold World.frozen?
  rw [b.block g hg]
/-- the cells of line j -/
def Am.Line4 (wr : World) (a : Addr) (j : Nat) (x : S27) : Prop := wr.cell? (a.add (j * 4)) = some (.int .i64 x.f0) ∧ wr.cell? ⟨(a.add (j * 4)).block, (a.add (j * 4)).off + 1, none⟩ = some (.int .i64 x.f1) ∧ wr.cell? ⟨(a.add (j * 4)).block, (a.add (j * 4)).off + 2, none⟩ = some (.int .i64 x.f2) ∧ wr.cell? ⟨(a.add (j * 4)).block, (a.add (j * 4)).off + 3, none⟩ = some (.int .i64 x.f3)
theorem Am.line4_of {w : World} {a : Addr} {ls : List S27} (h : ∀ j u, (Am.lcs ls)[j]? = some u → w.cell? (a.add j) = some u) (j : Nat) (hj : j < ls.length) : Am.Line4 w a j (ls.getD j z27) := by
  have hc : ∀ i, i < 4 → ∀ u, (Am.lc (ls.getD j z27))[i]? = some u → w.cell? (a.add (j * 4 + i)) = some u := fun i hi u hu => h _ _ (by rw [Am.lcs_at ls j i hj hi, ← hu, Am.getD_line ls j hj])
  exact ⟨hc 0 (by decide) _ rfl, by rw [← Am.add_off a 1 _ (by decide)]; exact hc 1 (by decide) _ rfl, by rw [← Am.add_off a 2 _ (by decide)]; exact hc 2 (by decide) _ rfl, by rw [← Am.add_off a 3 _ (by decide)]; exact hc 3 (by decide) _ rfl⟩
set_option maxHeartbeats 8000000 in
set_option maxRecDepth 100000 in
theorem bud_some_calls (a : Addr) (c : Nat) (ls : List S27) (most : Int) (w : World) (hC : Kd.C k27 w (some a) ls.length ls) (hc : ls.length ≤ c) (hn : 0 < ls.length) :
    Calls Tryz.prog 7 #[.slice (some a) ls.length c, .int .i64 most] w fun e w' => Below w.heap.size w w' ∧ Am.BudPost ls most e w' := by
  by_cases c1 : 4096 < ls.length
  · have d1 : decide (4096 < (ls.length : Int)) = true := decide_eq_true (by omega)
    have HF := Lib.hid (show Am.budErr ls most = 3 from if_pos c1)
    clear hC hc c1
    go_enter Tryz.func7, Tryz.ntmps7
    go_wp2_with fail
    go_ret2
    exact ⟨Below.refl _ _, Am.post_bad HF.out (by decide)⟩
  have hn4 : ls.length ≤ 4096 := by omega
  have d1 : decide (4096 < (ls.length : Int)) = false := decide_eq_false (by omega)
  have hb0 : Am.budErr ls most = if ls.all Am.okL = false then 22 else if most < 0 ∨ Mo.chk most ≠ 0 then 22 else (Mo.sumE (Am.paids ls)).2 := if_neg c1
  have HE := Lib.hid hb0
  have HS := Lib.hid (fun w1 (b : Below w.heap.size w w1) => asum_calls (some a) c ls w1 (Kd.C_below hC b) hc (by omega))
  obtain ⟨a', ha', hcell⟩ := Am.c27_cell hC hn
  obtain rfl : a = a' := Option.some.inj ha'
  have HR := Lib.hid hcell
  have HCl := Lib.hid (fun w1 (b : Below w.heap.size w w1) => clone_line a ls.length c (Am.lcs ls) w1 hn (by omega) (Am.lcs_len ls) (fun j u hj => keep_cell (hcell j u hj) b) (Am.lcs_one ls))
  have HSh := Lib.hid (fun hall hm hk hs => Am.share_err ls most hn hn4 hall hm hk hs)
  clear hC hcell ha' hb0 c1
  go_enter Tryz.func7, Tryz.ntmps7
  go_upto_region 4 with (fail)
  go_loopw [21] (fun v wr => ∃ k : Nat, k ≤ ls.length ∧ v = .int .i64 k ∧ (∀ j, j < k → Am.okL (ls.getD j z27) = true) ∧ Below w.heap.size w wr) (fun v _ => ls.length - (intOf v).toNat)
  case atStart => exact ⟨0, Nat.zero_le _, rfl, fun j hj => absurd hj (by omega), Below.refl _ _⟩
  case round =>
    obtain ⟨k, hk, rfl, hok, hb⟩ := hrel
    have HOK := Lib.hid hok
    have HB := Lib.hid hb
    clear hok hb
    by_cases hlt : k < ls.length
    · have z1 : (k : Int) < (ls.length : Int) := by omega
      have z2 : (0 : Int) ≤ k := by omega
      obtain ⟨l0, l1, l2, l3⟩ := Am.line4_of (fun j u hj => keep_cell (HR.out j u hj) HB.out) k hlt
      obtain ⟨x, hx⟩ : ∃ x, ls.getD k z27 = x := ⟨_, rfl⟩
      rw [hx] at l0 l1 l2 l3
      have HX := Lib.hid hx
      clear hx
      go_upto_region 6 with (fail)
      obtain ⟨X, hX⟩ : ∃ X, wr.alloc (Obj.cells #[.int .i64 x.f0, .int .i64 x.f1, .int .i64 x.f2, .int .i64 x.f3] 27) = X := ⟨_, rfl⟩
      have bX : Below wr.heap.size wr X := by rw [← hX]; exact (Below.refl _ wr).alloc (Nat.le_refl _) _
      have HBX := Lib.hid (below_next HB.out bX)
      have x3 : X.cell? ⟨wr.heap.size, 3, none⟩ = some (.int .i64 x.f3) := by rw [← hX]; exact blk_cell (heap_alloc_new wr _) 3 rfl
      rw [hX]
      clear hX bX l0 l1 l2 l3
      by_cases b1 : x.f3 < 0
      · have e1 : decide (x.f3 < 0) = true := decide_eq_true b1
        have hno : Am.okL x = false := by
          rcases h : Am.okL x with _ | _
          · rfl
          · have := ((Am.okL_iff x).1 h).1; omega
        have HF := Lib.hid (show Am.budErr ls most = 22 from HE.out.trans (if_pos (Am.bad_all ls k hlt (by rw [HX.out]; exact hno))))
        clear hno b1
        go_wp2_with (first | (go_at_call 16; refine (check_calls _ _).mono ?_; rintro e W2 ⟨rfl, rfl⟩))
        go_ret2
        exact ⟨HBX.out, Am.post_bad HF.out (by decide)⟩
      have e1 : decide (x.f3 < 0) = false := decide_eq_false b1
      by_cases b2 : Mo.chk x.f3 ≠ 0
      · have k1 : (Mo.chk x.f3 != 0) = true := by simpa using b2
        have hno : Am.okL x = false := by
          rcases h : Am.okL x with _ | _
          · rfl
          · exact absurd ((Am.okL_iff x).1 h).2 b2
        have HF := Lib.hid (show Am.budErr ls most = 22 from HE.out.trans (if_pos (Am.bad_all ls k hlt (by rw [HX.out]; exact hno))))
        clear hno b1 b2
        go_wp2_with (first | (go_at_call 16; refine (check_calls _ _).mono ?_; rintro e W2 ⟨rfl, rfl⟩))
        go_ret2
        exact ⟨HBX.out, Am.post_bad HF.out (by decide)⟩
      have k1 : (Mo.chk x.f3 != 0) = false := by simpa using b2
      have HOK2 := Lib.hid (show ∀ j, j < k + 1 → Am.okL (ls.getD j z27) = true from fun j hj => by
        by_cases hjk : j < k
        · exact HOK.out j hjk
        · obtain rfl : j = k := by omega
          rw [HX.out]
          exact (Am.okL_iff x).2 ⟨by omega, by simpa using b2⟩)
      clear b1 b2
      go_wp2_with (first | (go_at_call 16; refine (check_calls _ _).mono ?_; rintro e W2 ⟨rfl, rfl⟩))
      go_roundw
      case rel => exact ⟨k + 1, by omega, by go_num, HOK2.out, HBX.out⟩
      case measure => simp [intOf]; omega
    · obtain rfl : ls.length = k := by omega
      have HA := Lib.hid (Am.good_all ls HOK.out)
      have HE2 := Lib.hid (HE.out.trans (if_neg (by rw [HA.out]; decide)))
      clear HE HOK
      by_cases b1 : most < 0
      · have e1 : decide (most < 0) = true := decide_eq_true b1
        have HF := Lib.hid (show Am.budErr ls most = 22 from HE2.out.trans (if_pos (.inl b1)))
        clear b1
        go_wp2_with (first | (go_at_call 16; refine (check_calls _ _).mono ?_; rintro e W2 ⟨rfl, rfl⟩))
        go_ret2
        exact ⟨HB.out, Am.post_bad HF.out (by decide)⟩
      have e1 : decide (most < 0) = false := decide_eq_false b1
      by_cases b2 : Mo.chk most ≠ 0
      · have k1 : (Mo.chk most != 0) = true := by simpa using b2
        have HF := Lib.hid (show Am.budErr ls most = 22 from HE2.out.trans (if_pos (.inr b2)))
        clear b1 b2
        go_wp2_with (first | (go_at_call 16; refine (check_calls _ _).mono ?_; rintro e W2 ⟨rfl, rfl⟩))
        go_ret2
        exact ⟨HB.out, Am.post_bad HF.out (by decide)⟩
      have k1 : (Mo.chk most != 0) = false := by simpa using b2
      have HE3 := Lib.hid (HE2.out.trans (if_neg (by intro h; rcases h with h | h; exact b1 h; exact b2 h)))
      have HM := Lib.hid (show 0 ≤ most ∧ Mo.chk most = 0 from ⟨by omega, by simpa using b2⟩)
      clear b1 b2 HE2
      obtain ⟨s, hs⟩ : ∃ s, (Mo.sumE (Am.paids ls)).1 = s := ⟨_, rfl⟩
      obtain ⟨er, her⟩ : ∃ er, (Mo.sumE (Am.paids ls)).2 = er := ⟨_, rfl⟩
      rw [hs] at HS HSh
      rw [her] at HS HE3
      have HSM := Lib.hid hs
      clear hs her
      by_cases b3 : er = 0
      · subst b3
        by_cases b4 : s ≤ most
        · have e4 : decide (s ≤ most) = true := decide_eq_true b4
          have HB4 := Lib.hid b4
          clear b4
          go_wp2_with (first
            | (go_at_call 16; refine (check_calls _ _).mono ?_; rintro e W2 ⟨rfl, rfl⟩)
            | (go_at_call 5; refine (HS.out _ HB.out).mono ?_; rintro e W2 ⟨rfl, hb⟩; have HB2 := Lib.hid (below_next HB.out hb); clear hb)
            | (go_at_call 17; refine (HCl.out _ HB2.out).mono ?_; rintro e W3 ⟨v, rfl, hown, hb⟩; have HO := Lib.hid hown; have HB3 := Lib.hid (below_next HB2.out hb); clear hb hown))
          go_ret2
          obtain ⟨g, cap, rfl, _, hcap, _, hrow⟩ := Am.Row4.of_own HO.out hn
          refine ⟨HB3.out, some ⟨g, 0, none⟩, cap, ls, by rw [HE3.out]; rfl, ?_, hcap, fun h => absurd HE3.out h, fun _ _ => rfl, fun _ h => absurd h (by rw [HSM.out]; have := HB4.out; omega)⟩
          have hk := hrow.kd (by omega)
          rw [Am.range_getD] at hk
          exact hk
        · have e4 : decide (s ≤ most) = false := decide_eq_false b4
          have HMS := Lib.hid (show most < s by omega)
          clear b4
          go_upto_region 19 with (first
            | (go_at_call 16; refine (check_calls _ _).mono ?_; rintro e W2 ⟨rfl, rfl⟩)
            | (go_at_call 5; refine (HS.out _ HB.out).mono ?_; rintro e W2 ⟨rfl, hb⟩; have HB2 := Lib.hid (below_next HB.out hb); clear hb)
            | (go_at_call 17; refine (HCl.out _ HB2.out).mono ?_; rintro e W3 ⟨v, rfl, hown, hb⟩; have HO := Lib.hid hown; have HB3 := Lib.hid (below_next HB2.out hb); clear hb hown))
          obtain ⟨g, cap, rfl, hg, hcap, hglt, hrow⟩ := Am.Row4.of_own HO.out hn
          have HW := Lib.hid hrow
          have HG := Lib.hid (show w.heap.size ≤ g ∧ g < W3.heap.size ∧ ls.length ≤ cap from ⟨Nat.le_trans HB2.out.size hg, hglt, hcap⟩)
          clear hrow hg hcap hglt HO
          obtain ⟨i0, hinfo, hz0, hz1, hz2⟩ := info64
          obtain ⟨wo, rfl⟩ : ∃ wo : World, wo = wr := ⟨_, rfl⟩
          go_loopw [11, 58] (fun v u wr => ∃ k : Nat, k ≤ ls.length ∧ u = .int .i64 k ∧ wr.ownsRow W3.heap.size 2 1 v k (((Am.paids ls).take k).map (Value.int .i64)) ∧ Below W3.heap.size W3 wr) (fun _ u _ => ls.length - (intOf u).toNat)
          case atStart => exact ⟨0, Nat.zero_le _, rfl, ⟨rfl, .inl ⟨rfl, rfl⟩⟩, Below.refl _ _⟩
          case round =>
            obtain ⟨k, hk, rfl, hown, hb⟩ := hrel
            have HOW := Lib.hid hown
            have HB4 := Lib.hid hb
            have HB5 := Lib.hid (HB3.out.trans (hb.mono HB3.out.size))
            clear hown hb
            by_cases hlt : k < ls.length
            · have z1 : (k : Int) < (ls.length : Int) := by omega
              have z2 : (0 : Int) ≤ k := by omega
              obtain ⟨l0, l1, l2, l3⟩ := Am.line4_of (fun j u hj => keep_cell (HR.out j u hj) HB5.out) k hlt
              have hpa := Am.paids_at ls k hlt
              obtain ⟨x, hx⟩ : ∃ x, ls.getD k z27 = x := ⟨_, rfl⟩
              rw [hx] at l0 l1 l2 l3 hpa
              have HPA := Lib.hid hpa
              clear hx hpa
              go_upto_region 21 with (fail)
              obtain ⟨X, hX⟩ : ∃ X, wr.alloc (Obj.cells #[.int .i64 x.f0, .int .i64 x.f1, .int .i64 x.f2, .int .i64 x.f3] 27) = X := ⟨_, rfl⟩
              have bX : Below wr.heap.size wr X := by rw [← hX]; exact (Below.refl _ wr).alloc (Nat.le_refl _) _
              have HBX := Lib.hid (below_next HB4.out bX)
              have x3 : X.cell? ⟨wr.heap.size, 3, none⟩ = some (.int .i64 x.f3) := by rw [← hX]; exact blk_cell (heap_alloc_new wr _) 3 rfl
              have HOX := Lib.hid (own_move HOW.out (fun k h => bX.block k (own_lt HOW.out k h)))
              rw [hX]
              clear hX bX l0 l1 l2 l3
              go_wp2_with (first | (at_builtin; refine wpList_append_own_at _ rfl _ _ 48 rfl W3.heap.size 2 i0 (.int .i64 0) 1 8 Tryz.underlying48 hinfo hz0 hz1 hz2 rfl (by decide) _ k (((Am.paids ls).take k).map (Value.int .i64)) (by rfl) ((HOX.out).alloc _) ⟨X.heap.size, 0, none⟩ 1 1 [.int .i64 x.f3] (by rfl) (by rfl) (cell_one_new _ _ _) (by simp [Value.oneCell']) (by unfold maxLen; omega) (by omega) (by have := HBX.out.size; simp; omega) ?_))
              intro v' w' hown hgrow hz hblk
              have HB6 := Lib.hid ((HBX.out.alloc HBX.out.size _).grown hgrow (by have := HBX.out.size; simp; omega) (fun k h => own_base HOX.out k h))
              have HO6 := Lib.hid (show w'.ownsRow W3.heap.size 2 1 v' (k + 1) (((Am.paids ls).take (k + 1)).map (Value.int .i64)) by rw [← HPA.out, List.map_append]; first | exact hown | (rw [List.map_take]; exact hown))
              clear hown hgrow hz hblk
              go_wp2_with fail
              go_roundw
              case rel => exact ⟨k + 1, by omega, by go_num, HO6.out, HB6.out⟩
              case measure => simp [intOf]; omega
            · obtain rfl : ls.length = k := by omega
              have hrd : RdI wr u11 (Am.paids ls) := by
                have h := HOW.out
                rw [List.take_of_length_le (by rw [Am.paids_len]; omega)] at h
                exact rdI_own (by rw [Am.paids_len]; exact h) (by rw [Am.paids_len]; omega)
              have hsh := share_parts most (Am.paids ls) u11 wr hrd (HSh.out HA.out HM.out.1 HM.out.2 HMS.out)
              rw [Am.paids_len] at hsh
              have HSH := Lib.hid hsh
              clear hrd hsh HOW
              go_upto_region 27 with (first | (go_at_call 18; refine HSH.out.mono ?_; rintro e W4 ⟨hb, gp, ps, rfl, hcell, hge, hparts⟩))
              have HPS := Lib.hid hparts
              have hg4 : g < gp := by have h1 := HG.out.2.1; have h2 := HB4.out.size; omega
              have HGP := Lib.hid hg4
              have HB7 := Lib.hid (below_next HB5.out hb)
              have hRow : Am.Row4 W4 g ls.length (Am.part ls ps 0) := by
                have hw := HW.out
                have b4 := HB4.out.trans (hb.mono HB4.out.size)
                have e : (fun j => ls.getD j z27) = Am.part ls ps 0 := by funext j; unfold Am.part; rw [if_neg (by omega)]
                rw [e] at hw
                exact hw.below HG.out.2.1 b4
              have HRW := Lib.hid hRow
              have HPC := Lib.hid hcell
              clear hb hcell hge hparts hg4 hRow HW HSH HB4 HS HSh HCl
              obtain ⟨wp, rfl⟩ : ∃ wp : World, wp = wr := ⟨_, rfl⟩
              go_loopw [79] (fun v wr => ∃ k : Nat, k ≤ ls.length ∧ v = .int .i64 k ∧ Am.Row4 wr g ls.length (Am.part ls ps k) ∧ (∀ i, i < ls.length → wr.cell? ⟨gp, i, none⟩ = some (.int .i64 (ps.getD i 0))) ∧ Below w.heap.size w wr) (fun v _ => ls.length - (intOf v).toNat)
              case atStart => exact ⟨0, Nat.zero_le _, rfl, HRW.out, HPC.out, HB7.out⟩
              case round =>
                obtain ⟨k, hk, rfl, hrw, hpc, hb⟩ := hrel
                have HRW2 := Lib.hid hrw
                have HPC2 := Lib.hid hpc
                have HB8 := Lib.hid hb
                clear hrw hpc hb HRW HPC HB7
                by_cases hlt : k < ls.length
                · have z1 : (k : Int) < (ls.length : Int) := by omega
                  have z2 : (0 : Int) ≤ k := by omega
                  have p0 := HPC2.out k hlt
                  have q3 := HRW2.out.c3 k hlt
                  have hfr := HRW2.out.free (k * 4 + 3)
                  obtain ⟨pv, hpv⟩ : ∃ pv, ps.getD k 0 = pv := ⟨_, rfl⟩
                  rw [hpv] at p0
                  have HPV := Lib.hid hpv
                  clear hpv
                  go_wp2_with fail
                  go_roundw
                  case rel =>
                    refine ⟨k + 1, by omega, by go_num, ?_, fun i hi => ?_, HB8.out.setCell HG.out.1 _⟩
                    · have h := HRW2.out.put k hlt pv
                      rw [← HPV.out, Am.part_put, HPV.out] at h
                      exact h
                    · rw [World.cell?_setCell_other _ _ _ _ (fun e => by injection e with e1; have := HGP.out; omega)]
                      exact HPC2.out i hi
                  case measure => simp [intOf]; omega
                · obtain rfl : ls.length = k := by omega
                  go_wp2_with fail
                  go_ret2
                  refine ⟨HB8.out, some ⟨g, 0, none⟩, cap, Am.setP ls ps, by rw [HE3.out]; simp [Am.setP], ?_, by simp [Am.setP]; exact HG.out.2.2, fun h => absurd HE3.out h, fun _ h => absurd h (by rw [HSM.out]; have := HMS.out; omega), fun _ _ => ⟨ps, HPS.out, rfl⟩⟩
                  have h := HRW2.out.kd (by omega)
                  rw [Am.part_all] at h
                  have e : (Am.setP ls ps).length = ls.length := by simp [Am.setP]
                  rw [e]
                  exact h
      · have e3 : (er != 0) = true := by simpa using b3
        have HF := Lib.hid b3
        clear b3
        go_wp2_with (first
          | (go_at_call 16; refine (check_calls _ _).mono ?_; rintro e W2 ⟨rfl, rfl⟩)
          | (go_at_call 5; refine (HS.out _ HB.out).mono ?_; rintro e W2 ⟨rfl, hb⟩; have HB2 := Lib.hid (below_next HB.out hb); clear hb))
        go_ret2
        exact ⟨HB2.out, Am.post_bad HE3.out HF.out⟩
end Go.Proofs.YtpcmhlbhepickaaGreat
