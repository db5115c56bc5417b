import Derived.Test.YtpcmhlbhepickaaGreatAmtBc
/- the reference of layer 24: Sum, Budget, and what 'sameLines' says -/
namespace Go.Proofs.YtpcmhlbhepickaaGreat
open Go.RowKit Go.Lib
open Go.Proofs.YtpcmhlbhepickaaGreat.PAmountsCuts
open Go.Proofs.YtpcmhlbhepickaaGreatW.PrintWords
set_option linter.unusedVariables false
set_option linter.unusedSimpArgs false
namespace Am
theorem rd26 (l : List S26) (i : Nat) (h : i < l.length) : rd_T26 l (i : Int) = l[i] := by
  unfold rd_T26
  simp [List.getD, h]
theorem cvs_getD (l : List S26) (i : Nat) (h : i < l.length) : (cvs l).getD i z27 = cv l[i] := by simp [cvs, List.getD, h]
theorem paids_snoc (l : List S26) (i : Nat) (h : i < l.length) : (paids (cvs l)).take i ++ [(rd_T26 l (i : Int)).f3] = (paids (cvs l)).take (i + 1) := by
  have h1 : i < (paids (cvs l)).length := by rw [paids_len, cvs_len]; exact h
  rw [List.take_succ_eq_append_getElem h1, rd26 l i h]
  simp [paids, cvs, cv]
theorem rpaid_l (l : List S26) (hl : l.length ≤ 1048576) : ∀ n i, l.length - i = n → i ≤ l.length → lexpriorref24_paid.l0 (n + 1) l ((paids (cvs l)).take i) (i : Int) = some (paids (cvs l)) := by
  intro n
  induction n with
  | zero =>
    intro i h1 h2
    rw [lexpriorref24_paid.l0, if_neg (by omega), List.take_of_length_le (by rw [paids_len, cvs_len]; omega)]
  | succ n ih =>
    intro i h1 h2
    rw [lexpriorref24_paid.l0, if_pos (by omega), if_pos (by omega), if_pos (by rw [List.length_take, paids_len, cvs_len]; omega), paids_snoc l i (by omega), Mo.vwrap _ (by omega)]
    exact ih (i + 1) (by omega) (by omega)
theorem rsum24_f (l : List S26) (hl : l.length ≤ 1048576) : lexpriorref24_Sum.f (l.length + 1) l = some (Mo.sumE (paids (cvs l))) := by
  unfold lexpriorref24_Sum.f lexpriorref24_paid.f
  have h1 := rpaid_l l hl l.length 0 (by omega) (by omega)
  rw [List.take_zero] at h1
  have h2 := Mo.rsum_f (paids (cvs l)) (by rw [paids_len, cvs_len]; exact hl)
  rw [paids_len, cvs_len] at h2
  rw [show ((0 : Nat) : Int) = 0 from rfl] at h1
  rw [h1, Option.bind_some, h2, Option.bind_some]
/-- the first i lines have got their parts -/
def rpart (l : List S26) (ps : List Int) (i : Nat) : List S26 := (List.range l.length).map (fun j => if j < i then { l.getD j z26 with f3 := ps.getD j 0 } else l.getD j z26)
theorem rpart_len (l : List S26) (ps : List Int) (i : Nat) : (rpart l ps i).length = l.length := by simp [rpart]
theorem rpart_zero (l : List S26) (ps : List Int) : rpart l ps 0 = l := by
  refine List.ext_getElem (by simp [rpart]) (fun i h1 h2 => ?_)
  simp [rpart, List.getD, h2]
theorem rpart_set (l : List S26) (ps : List Int) (i : Nat) (hi : i < l.length) (hp : i < ps.length) :
    (rpart l ps i).set i ⟨(rd_T26 (rpart l ps i) (i : Int)).f0, (rd_T26 (rpart l ps i) (i : Int)).f1, (rd_T26 (rpart l ps i) (i : Int)).f2, rd ps (i : Int)⟩ = rpart l ps (i + 1) := by
  have e : rd_T26 (rpart l ps i) (i : Int) = l.getD i z26 := by
    rw [rd26 _ i (by rw [rpart_len]; exact hi)]
    simp [rpart]
  have e2 : rd ps (i : Int) = ps.getD i 0 := by
    rw [Mo.rd_at ps i hp]
    simp [List.getD, hp]
  rw [e, e2]
  refine List.ext_getElem (by simp [rpart]) (fun j h1 h2 => ?_)
  rw [List.getElem_set]
  by_cases c : i = j
  · subst c
    simp [rpart]
  · rw [if_neg c]
    have hj : j < l.length := by rw [rpart_len] at h2; exact h2
    simp only [rpart, List.getElem_map, List.getElem_range]
    by_cases d : j < i
    · rw [if_pos d, if_pos (by omega)]
    · rw [if_neg d, if_neg (by omega)]
theorem rpart_cvs (l : List S26) (ps : List Int) : cvs (rpart l ps l.length) = setP (cvs l) ps := by
  refine List.ext_getElem (by simp [cvs, rpart, setP]) (fun i h1 h2 => ?_)
  have hi : i < l.length := by simpa [cvs, rpart] using h1
  simp [cvs, rpart, setP, hi, cv, List.getD]
theorem rb_l1 (l : List S26) (ps : List Int) (hl : l.length ≤ 4096) (hp : ps.length = l.length) : ∀ n i, l.length - i = n → i ≤ l.length → lexpriorref24_Budget.l1 (n + 1) (rpart l ps i) ps (i : Int) = some (rpart l ps l.length, 0) := by
  intro n
  induction n with
  | zero =>
    intro i h1 h2
    obtain rfl : i = l.length := by omega
    rw [lexpriorref24_Budget.l1, if_neg (by rw [rpart_len]; omega)]
  | succ n ih =>
    intro i h1 h2
    rw [lexpriorref24_Budget.l1, if_pos (by rw [rpart_len]; omega), if_pos (by omega), if_pos (by omega), Int.toNat_natCast, rpart_set l ps i (by omega) (by omega), Mo.vwrap _ (by omega)]
    exact ih (i + 1) (by omega) (by omega)
theorem okL_cv (x : S26) : okL (cv x) = true ↔ Mo.okI x.f3 = true ∧ ¬ x.f3 < 0 := by
  rw [okL_iff, ← Mo.chk_okI]
  show 0 ≤ x.f3 ∧ Mo.chk x.f3 = 0 ↔ _
  constructor
  · rintro ⟨h1, h2⟩; exact ⟨h2, by omega⟩
  · rintro ⟨h1, h2⟩; exact ⟨by omega, h1⟩
theorem rb_l0 (l : List S26) (most : Int) (hl : l.length ≤ 4096) (R : Nat) (hok : ∀ j (h : j < l.length), okL (cv l[j]) = true) : ∀ n i, l.length - i = n → i ≤ l.length →
    lexpriorref24_Budget.l0 (n + 1 + R) l most ((paids (cvs l)).take i) (i : Int) = if Mo.okI most = true then lexpriorref24_Budget.j1 R l most (paids (cvs l)) (decide (most < 0)) else lexpriorref24_Budget.j1 R l most (paids (cvs l)) true := by
  intro n
  induction n with
  | zero =>
    intro i h1 h2
    rw [show 0 + 1 + R = R + 1 by omega, lexpriorref24_Budget.l0, if_neg (by omega), List.take_of_length_le (by rw [paids_len, cvs_len]; omega), Mo.smay_f, Option.bind_some]
  | succ n ih =>
    intro i h1 h2
    have ho := (okL_cv _).1 (hok i (by omega))
    rw [← rd26 l i (by omega)] at ho
    rw [show n + 1 + 1 + R = (n + 1 + R) + 1 by omega, lexpriorref24_Budget.l0, if_pos (by omega), if_pos (by omega), Mo.smay_f, Option.bind_some, if_pos ho.1, if_neg ho.2, if_pos (by rw [List.length_take, paids_len, cvs_len]; omega), paids_snoc l i (by omega), Mo.vwrap _ (by omega)]
    exact ih (i + 1) (by omega) (by omega)
theorem rb_bad (l : List S26) (most : Int) (hl : l.length ≤ 4096) (hbad : (cvs l).all okL = false) : ∀ n i, l.length - i = n → i ≤ l.length → (∀ j (h : j < l.length), j < i → okL (cv l[j]) = true) →
    lexpriorref24_Budget.l0 (n + 1) l most ((paids (cvs l)).take i) (i : Int) = some ([], 22) := by
  intro n
  induction n with
  | zero =>
    intro i h1 h2 hj
    exfalso
    have hg : (cvs l).all okL = true := by
      rw [List.all_eq_true]
      intro x hx
      obtain ⟨y, hy, rfl⟩ := List.mem_map.1 hx
      obtain ⟨j, hjl, rfl⟩ := List.getElem_of_mem hy
      exact hj j hjl (by omega)
    rw [hg] at hbad
    cases hbad
  | succ n ih =>
    intro i h1 h2 hj
    rw [lexpriorref24_Budget.l0, if_pos (by omega), if_pos (by omega), Mo.smay_f, Option.bind_some]
    by_cases c1 : Mo.okI (rd_T26 l (i : Int)).f3 = true
    · rw [if_pos c1]
      by_cases c2 : (rd_T26 l (i : Int)).f3 < 0
      · rw [if_pos c2]
      · rw [if_neg c2, if_pos (by rw [List.length_take, paids_len, cvs_len]; omega), paids_snoc l i (by omega), Mo.vwrap _ (by omega)]
        refine ih (i + 1) (by omega) (by omega) (fun j h hlt => ?_)
        by_cases d : j < i
        · exact hj j h d
        · obtain rfl : j = i := by omega
          rw [rd26 l j h] at c1 c2
          exact (okL_cv _).2 ⟨c1, c2⟩
    · rw [if_neg c1]
theorem chk_okI' (m : Int) : (m < 0 ∨ Mo.chk m ≠ 0) ↔ ¬ (Mo.okI m = true ∧ ¬ m < 0) := by
  rw [← Mo.chk_okI]
  constructor
  · rintro h ⟨h1, h2⟩
    rcases h with h | h
    · exact h2 h
    · exact h h1
  · intro h
    by_cases c : m < 0
    · exact .inl c
    · exact .inr (fun e => h ⟨e, c⟩)
/-- the reference's Budget answers as the program's -/
theorem rbud (l : List S26) (most : Int) (bs : List S27) (h : Bud (cvs l) most bs) : ∃ k r1, lexpriorref24_Budget.f k l most = some (r1, budErr (cvs l) most) ∧ cvs r1 = bs := by
  by_cases c1 : 4096 < l.length
  · have he : budErr (cvs l) most = 3 := by unfold budErr; rw [if_pos (by rw [cvs_len]; exact c1)]
    refine ⟨0, [], ?_, (h.bad (by rw [he]; decide)).symm⟩
    unfold lexpriorref24_Budget.f
    rw [if_pos (by omega), he]
  have hl : l.length ≤ 4096 := by omega
  have e0 : ∀ k, lexpriorref24_Budget.f k l most = lexpriorref24_Budget.l0 k l most [] 0 := fun k => by unfold lexpriorref24_Budget.f; rw [if_neg (by omega)]
  have b0 : budErr (cvs l) most = if (cvs l).all okL = false then 22 else if most < 0 ∨ Mo.chk most ≠ 0 then 22 else (Mo.sumE (paids (cvs l))).2 := by unfold budErr; rw [if_neg (by rw [cvs_len]; exact c1)]
  by_cases c2 : (cvs l).all okL = false
  · have he : budErr (cvs l) most = 22 := by rw [b0, if_pos c2]
    have hr := rb_bad l most hl c2 l.length 0 (by omega) (by omega) (fun j _ hj => absurd hj (by omega))
    rw [List.take_zero] at hr
    refine ⟨l.length + 1, [], ?_, (h.bad (by rw [he]; decide)).symm⟩
    rw [e0, he]
    exact hr
  have hok : ∀ j (h : j < l.length), okL (cv l[j]) = true := fun j hj => by
    have hg : (cvs l).all okL = true := by simpa using c2
    exact List.all_eq_true.1 hg _ (List.mem_map.2 ⟨_, List.getElem_mem hj, rfl⟩)
  have hl0 := fun R => rb_l0 l most hl R hok l.length 0 (by omega) (by omega)
  rw [List.take_zero] at hl0
  by_cases c3 : most < 0 ∨ Mo.chk most ≠ 0
  · have he : budErr (cvs l) most = 22 := by rw [b0, if_neg c2, if_pos c3]
    refine ⟨l.length + 1 + 1, [], ?_, (h.bad (by rw [he]; decide)).symm⟩
    have hj : ∀ b : Bool, b = true → lexpriorref24_Budget.j1 1 l most (paids (cvs l)) b = some ([], 22) := fun b hb => by rw [lexpriorref24_Budget.j1, if_pos hb]
    rw [e0, he]
    refine (hl0 1).trans ?_
    by_cases c4 : Mo.okI most = true
    · rw [if_pos c4]
      have : most < 0 := by
        rcases c3 with c | c
        · exact c
        · exact absurd ((Mo.chk_okI most).2 c4) c
      exact hj _ (decide_eq_true this)
    · rw [if_neg c4]
      exact hj _ rfl
  have hmo : Mo.okI most = true ∧ ¬ most < 0 := by
    by_cases c : Mo.okI most = true ∧ ¬ most < 0
    · exact c
    · exact absurd ((chk_okI' most).2 c) c3
  have hs := rsum24_f l (by omega)
  have he : budErr (cvs l) most = (Mo.sumE (paids (cvs l))).2 := by rw [b0, if_neg c2, if_neg c3]
  have hsm : ∀ k, l.length + 1 ≤ k → lexpriorref24_Sum.f k l = some (Mo.sumE (paids (cvs l))) := fun k hk => at_rounds (g := fun k => lexpriorref24_Sum.f k l) (fun k => lexpriorref24_Sum.mono l k) hk hs
  have hj : ∀ k, l.length + 1 ≤ k → lexpriorref24_Budget.j1 (k + 1) l most (paids (cvs l)) (decide (most < 0)) = if (Mo.sumE (paids (cvs l))).2 = 0 then (if (Mo.sumE (paids (cvs l))).1 ≤ most then some (l, 0) else (lexpriorref02_Share.f k most (paids (cvs l))).bind fun bt => lexpriorref24_Budget.l1 k l bt.1 0) else some ([], (Mo.sumE (paids (cvs l))).2) := fun k hk => by
    rw [lexpriorref24_Budget.j1, if_neg (by simpa using hmo.2), hsm k hk, Option.bind_some, if_pos (show ([] : List S26).length + l.length < 4398046511104 by simp; omega)]
    simp only [List.nil_append, Option.bind_some]
  by_cases c5 : (Mo.sumE (paids (cvs l))).2 = 0
  · by_cases c6 : (Mo.sumE (paids (cvs l))).1 ≤ most
    · refine ⟨l.length + 1 + (l.length + 1 + 1), l, ?_, (h.same (by rw [he, c5]) c6).symm⟩
      rw [e0, he, c5]
      refine (hl0 _).trans ?_
      rw [if_pos hmo.1, hj _ (Nat.le_refl _), if_pos c5, if_pos c6]
    · obtain ⟨ps, hps, rfl⟩ := h.cut (by rw [he, c5]) (by omega)
      obtain ⟨hpl, ⟨K, hK⟩, _⟩ := hps
      have hpl' : ps.length = l.length := by rw [hpl, paids_len, cvs_len]
      have hKm : ∀ k, K ≤ k → lexpriorref02_Share.f k most (paids (cvs l)) = some (ps, 0) := fun k hk => at_rounds (g := fun k => lexpriorref02_Share.f k most (paids (cvs l))) (fun k => lexpriorref02_Share.mono _ _ k) hk hK
      have h1 := rb_l1 l ps hl hpl' l.length 0 (by omega) (by omega)
      rw [rpart_zero] at h1
      have h1m : ∀ k, l.length + 1 ≤ k → lexpriorref24_Budget.l1 k l ps 0 = some (rpart l ps l.length, 0) := fun k hk => at_rounds (g := fun k => lexpriorref24_Budget.l1 k l ps 0) (fun k => (lexpriorref24_Budget.mono_l k).2.2 _ _ _) hk h1
      refine ⟨l.length + 1 + (max K (l.length + 1) + 1), rpart l ps l.length, ?_, rpart_cvs l ps⟩
      rw [e0, he, c5]
      refine (hl0 _).trans ?_
      rw [if_pos hmo.1, hj _ (Nat.le_max_right _ _), if_pos c5, if_neg c6, hKm _ (Nat.le_max_left _ _), Option.bind_some]
      exact h1m _ (Nat.le_max_right _ _)
  · refine ⟨l.length + 1 + (l.length + 1 + 1), [], ?_, (h.bad (by rw [he]; exact c5)).symm⟩
    rw [e0, he]
    refine (hl0 _).trans ?_
    rw [if_pos hmo.1, hj _ (Nat.le_refl _), if_neg c5]
theorem same_l (l : List S26) (hl : l.length ≤ 1048576) : ∀ n i, l.length - i = n → i ≤ l.length → lexpriorlaw24_sameLines.l0 (n + 1) (cvs l) l (i : Int) = some true := by
  intro n
  induction n with
  | zero =>
    intro i h1 h2
    rw [lexpriorlaw24_sameLines.l0, if_neg (by rw [cvs_len]; omega)]
  | succ n ih =>
    intro i h1 h2
    have e : rd_T27 (cvs l) (i : Int) = cv (rd_T26 l (i : Int)) := by
      rw [rd26 l i (by omega), rd27 _ i (by rw [cvs_len]; omega)]
      simp [cvs]
    rw [lexpriorlaw24_sameLines.l0, if_pos (by rw [cvs_len]; omega), if_pos (by omega), if_pos (by omega), e]
    simp only [cv, if_true]
    rw [Mo.vwrap _ (by omega)]
    exact ih (i + 1) (by omega) (by omega)
theorem same_f (l : List S26) (hl : l.length ≤ 1048576) : lexpriorlaw24_sameLines.f (l.length + 1) (cvs l) l = some true := by
  unfold lexpriorlaw24_sameLines.f
  rw [if_pos (by rw [cvs_len])]
  exact same_l l hl l.length 0 (by omega) (by omega)
end Am
end Go.Proofs.YtpcmhlbhepickaaGreat
