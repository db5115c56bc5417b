/- the plain law of an amount's one form: there and back -/
import Derived.Test.YtgabkgomjdlgnaaDoorMonPb
namespace Go.Proofs.YtgabkgomjdlgnaaDoor
open Go.Lib
namespace Mo
theorem dc_eq (n : Nat) : dc n = UInt8.ofNat (48 + n) := by unfold dc; rfl
theorem c1_canon (l : List UInt8) : c1 l = false ↔ Canon l := by
  unfold c1 Canon
  cases h : digB l with
  | false => simp
  | true =>
    simp only [Bool.not_true, Bool.false_or, Bool.and_eq_false_iff, decide_eq_false_iff_not, beq_eq_false_iff_ne, true_and]
    constructor
    · rintro (h1 | h1) h2
      · exact absurd h2 h1
      · exact h1
    · intro h1
      by_cases c : 1 < l.length
      · exact .inr (h1 c)
      · exact .inl c
theorem no46 (l : List UInt8) (h : digB l = true) : ∀ x ∈ l, x ≠ 46 := fun x hx e => by
  have := ((digB_iff l).1 h).2 x hx
  rw [e] at this
  exact absurd this.1 (by decide)
theorem no45 (l r : List UInt8) (h : digB l = true) : (l ++ r)[0]? ≠ some 45 := by
  obtain ⟨h1, h2⟩ := (digB_iff l).1 h
  match l, h1, h2 with
  | c :: t, _, h2 =>
    intro e
    have e2 : c = 45 := Option.some.inj e
    have := h2 c (by simp)
    rw [e2] at this
    exact absurd this.1 (by decide)
theorem frac_two (c : Nat) (h0 : c ≠ 0) (h : c < 100) : digB [dc (c / 10), dc (c % 10)] = true ∧ dg (dc (c / 10)) = c / 10 ∧ dg (dc (c % 10)) = c % 10 ∧ [dc (c / 10), dc (c % 10)] ≠ [48, 48] := by
  have a1 := dg_of (c / 10) (by omega)
  have a2 := dg_of (c % 10) (by omega)
  rw [← dc_eq] at a1 a2
  refine ⟨(digB_iff _).2 ⟨by simp, fun x hx => ?_⟩, a1.1, a2.1, fun e => ?_⟩
  · simp only [List.mem_cons, List.not_mem_nil, or_false] at hx
    rcases hx with rfl | rfl
    · exact a1.2
    · exact a2.2
  · injection e with e1 e2
    injection e2 with e2 _
    have b1 := a1.1
    have b2 := a2.1
    rw [e1] at b1
    rw [e2] at b2
    have h48 : dg 48 = 0 := by rw [dg_eq]; rfl
    omega
theorem parse3_ok (neg : Bool) (wh ce : List UInt8) (ha : Bool) (h1 : c1 wh = false) (h2 : c2 ha ce = false) (h3 : c3 neg wh ha = false) (h4 : ¬ 14 < wh.length) (m : Int) (hm : (if neg = true then -cents wh ha ce else cents wh ha ce) = m) (hk : chk m = 0) : parse3 neg wh ce ha = (m, 0) := by
  unfold parse3
  rw [if_neg (by rw [h1]; decide), if_neg (by rw [h2]; decide), if_neg (by rw [h3]; decide), if_neg h4, hm, if_pos hk]
theorem parse_print (m : Int) (hk : chk m = 0) : parse (print m).1 = (m, 0) := by
  have hb := chk_bound m hk
  have hp : print m = (text (decide (m < 0)) (m.natAbs / 100) (m.natAbs % 100), 0) := by unfold print; rw [if_pos hk]
  rw [hp]
  obtain ⟨v1, cn, hh⟩ := dd_canon (m.natAbs / 100) (m.natAbs / 100) (Nat.le_refl _)
  have hlen := dd_len 13 (m.natAbs / 100) (by have : (10 : Nat) ^ (13 + 1) = 100000000000000 := by decide
                                              omega)
  have hc100 : m.natAbs % 100 < 100 := Nat.mod_lt _ (by omega)
  have hsum : m.natAbs = m.natAbs / 100 * 100 + m.natAbs % 100 := by omega
  have hpos : m < 0 → m.natAbs % 100 = 0 → 1 ≤ m.natAbs / 100 := by omega
  generalize m.natAbs % 100 = c at *
  generalize m.natAbs / 100 = q at *
  have hd := cn.1
  -- the cut of what stands behind the sign
  obtain ⟨ce, ha, hcut, h2, hcents, h3⟩ : ∃ ce ha, cutDot (decDigits q ++ frac c (c / 10) (c % 10)) = (decDigits q, ce, ha) ∧ c2 ha ce = false ∧ cents (decDigits q) ha ce = (m.natAbs : Int) ∧ (m < 0 → c3 true (decDigits q) ha = false) := by
    unfold frac
    by_cases h0 : c = 0
    · rw [if_pos h0, List.append_nil]
      refine ⟨[], false, cutDot_none _ (no46 _ hd), rfl, ?_, fun hn => ?_⟩
      · unfold cents; rw [v1]; simp; omega
      · have := hh (hpos hn h0)
        unfold c3
        simp only [Bool.true_and, Bool.not_false, Bool.and_true, beq_eq_false_iff_ne]
        intro e
        rw [e] at this
        exact this rfl
    · rw [if_neg h0]
      obtain ⟨f1, f2, f3, f4⟩ := frac_two c h0 hc100
      refine ⟨[dc (c / 10), dc (c % 10)], true, cutDot_at _ _ (no46 _ hd), ?_, ?_, fun _ => ?_⟩
      · unfold c2; rw [f1]; simpa using f4
      · unfold cents
        rw [v1, if_pos rfl]
        simp only [List.getD_cons_zero, List.getD_cons_succ, f2, f3]
        omega
      · unfold c3; simp
  show parse (text (decide (m < 0)) q c) = _
  unfold parse text
  by_cases hn : m < 0
  · rw [decide_eq_true hn, if_pos rfl, List.append_assoc, show [45] ++ (decDigits q ++ frac c (c / 10) (c % 10)) = 45 :: (decDigits q ++ frac c (c / 10) (c % 10)) from rfl]
    rw [(prefix_yes _).1, (prefix_yes _).2, hcut]
    exact parse3_ok true _ _ _ ((c1_canon _).2 cn) h2 (h3 hn) (by omega) m (by rw [if_pos rfl, hcents]; omega) hk
  · rw [decide_eq_false hn, if_neg (by decide), List.nil_append]
    rw [(prefix_no _ (no45 _ _ hd)).1, (prefix_no _ (no45 _ _ hd)).2, hcut]
    exact parse3_ok false _ _ _ ((c1_canon _).2 cn) h2 (by unfold c3; simp) (by omega) m (by rw [if_neg (by decide), hcents]; omega) hk
theorem parse3_inv (neg : Bool) (wh ce : List UInt8) (ha : Bool) : (parse3 neg wh ce ha).2 ≠ 0 ∧ (parse3 neg wh ce ha).1 = 0 ∨
    (c1 wh = false ∧ c2 ha ce = false ∧ c3 neg wh ha = false ∧ ¬ 14 < wh.length ∧ chk (if neg = true then -cents wh ha ce else cents wh ha ce) = 0 ∧ parse3 neg wh ce ha = ((if neg = true then -cents wh ha ce else cents wh ha ce), 0)) := by
  unfold parse3
  by_cases h1 : c1 wh = true
  · rw [if_pos h1]; exact .inl ⟨by decide, rfl⟩
  rw [if_neg h1]
  by_cases h2 : c2 ha ce = true
  · rw [if_pos h2]; exact .inl ⟨by decide, rfl⟩
  rw [if_neg h2]
  by_cases h3 : c3 neg wh ha = true
  · rw [if_pos h3]; exact .inl ⟨by decide, rfl⟩
  rw [if_neg h3]
  by_cases h4 : 14 < wh.length
  · rw [if_pos h4]; exact .inl ⟨by decide, rfl⟩
  rw [if_neg h4]
  by_cases h5 : chk (if neg = true then -cents wh ha ce else cents wh ha ce) = 0
  · rw [if_pos h5]
    exact .inr ⟨by simpa using h1, by simpa using h2, by simpa using h3, h4, h5, rfl⟩
  · rw [if_neg h5]; exact .inl ⟨by decide, rfl⟩
theorem parse_err (l : List UInt8) (h : (parse l).2 ≠ 0) : (parse l).1 = 0 := by
  unfold parse at h ⊢
  rcases parse3_inv (hasPrefix l [45]) (cutDot (trimPrefix l [45])).1 (cutDot (trimPrefix l [45])).2.1 (cutDot (trimPrefix l [45])).2.2 with ⟨_, h2⟩ | ⟨_, _, _, _, _, h2⟩
  · exact h2
  · rw [h2] at h; exact absurd rfl h
theorem print_parse (l : List UInt8) (h : (parse l).2 = 0) : print (parse l).1 = (l, 0) := by
  have hpb := prefix_back l
  obtain ⟨cb, _, _⟩ := cutDot_back (trimPrefix l [45])
  unfold parse at h ⊢
  generalize hasPrefix l [45] = neg at *
  generalize trimPrefix l [45] = body at *
  rcases parse3_inv neg (cutDot body).1 (cutDot body).2.1 (cutDot body).2.2 with ⟨h1, _⟩ | ⟨h1, h2, h3, h4, h5, h6⟩
  · exact absurd h h1
  rw [h6]
  generalize (cutDot body).1 = wh at *
  generalize (cutDot body).2.1 = ce at *
  generalize (cutDot body).2.2 = ha at *
  have cn := (c1_canon wh).1 h1
  have hdd := dd_val _ wh rfl cn
  clear h h6
  -- the cents
  obtain ⟨c, hc, hfr, hct⟩ : ∃ c, c < 100 ∧ frac c (c / 10) (c % 10) = (if ha = true then 46 :: ce else []) ∧ cents wh ha ce = (val 0 wh : Int) * 100 + c := by
    cases ha with
    | false => exact ⟨0, by omega, rfl, by unfold cents; simp⟩
    | true =>
      unfold c2 at h2
      simp only [Bool.true_and, Bool.or_eq_false_iff] at h2
      obtain ⟨⟨g1, g2⟩, g3⟩ := h2
      have g1' : ce.length = 2 := by simpa using g1
      match ce, g1' with
      | [x, y], _ =>
        have g4 : digB [x, y] = true := by simpa using g2
        have g5 := ((digB_iff _).1 g4).2
        have gx := g5 x (by simp)
        have gy := g5 y (by simp)
        have lx := dg_lt x gx
        have ly := dg_lt y gy
        have ex := dc_dg x gx
        have ey := dc_dg y gy
        have hne : dg x * 10 + dg y ≠ 0 := fun e => by
          have z1 : dg x = 0 := by omega
          have z2 : dg y = 0 := by omega
          rw [z1] at ex
          rw [z2] at ey
          have : ([x, y] == [48, 48]) = true := by rw [← ex, ← ey]; decide
          rw [this] at g3
          cases g3
        refine ⟨dg x * 10 + dg y, by omega, ?_, ?_⟩
        · unfold frac
          rw [if_neg hne, if_pos rfl, show (dg x * 10 + dg y) / 10 = dg x by omega, show (dg x * 10 + dg y) % 10 = dg y by omega, dc_eq, dc_eq, ex, ey]
        · unfold cents
          simp
  have hna : (if neg = true then -cents wh ha ce else cents wh ha ce).natAbs = val 0 wh * 100 + c := by
    rw [hct]; split <;> omega
  have hsg : decide ((if neg = true then -cents wh ha ce else cents wh ha ce) < 0) = neg := by
    cases neg with
    | false => simp only [Bool.false_eq_true, if_false]; rw [hct]; exact decide_eq_false (by omega)
    | true =>
      simp only [if_true]
      rw [hct]
      refine decide_eq_true ?_
      -- not 0: it would be '-0'
      rcases Nat.eq_zero_or_pos (val 0 wh * 100 + c) with z | z
      · exfalso
        have c0 : c = 0 := by omega
        have v0 : val 0 wh = 0 := by omega
        have hwh : wh = [48] := by rw [← hdd, v0]; rw [decDigits_one (by omega)]; rfl
        cases ha with
        | false => unfold c3 at h3; rw [hwh] at h3; simp at h3
        | true =>
          rw [c0] at hfr
          simp [frac] at hfr
      · omega
  unfold print
  rw [if_pos h5, hna, hsg]
  unfold text
  rw [show (val 0 wh * 100 + c) / 100 = val 0 wh by omega, show (val 0 wh * 100 + c) % 100 = c by omega, hdd, hfr, List.append_assoc, ← cb, ← hpb]
end Mo
end Go.Proofs.YtgabkgomjdlgnaaDoor
