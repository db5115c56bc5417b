import Derived.Test.YtpcmhlbhepickaaGreatMonQ6
namespace Go.Proofs.YtpcmhlbhepickaaGreat
open Go.RowKit Go.Lib
set_option linter.unusedVariables false
set_option linter.unusedSimpArgs false

/-- symMerge's contract, of rows up to a length -/
def MergeOk (w0 : World) (g n c cr : Nat) (R : Nat → Nat) (k : Nat) : Prop := ∀ (a m b : Nat) (f : Nat → Nat) (w : World), b - a ≤ k → Row w0 w g n f → (∀ i, i < n → f i < n) → a < m → m < b → b ≤ n → St.Srt R f a m → St.Srt R f m b → St.Stb R f a b →
  Calls Tryz.prog 51 #[.slice (some ⟨g, 0, none⟩) n c, .int .i64 a, .int .i64 m, .int .i64 b, .func (.func 27) #[] #[.pointer (some ⟨cr, 0, none⟩)]] w (Merged w0 g n R f a b)
/-- where the search goes on: from L to T -/
structure Span (a m b mid L T : Nat) : Prop where
  l1 : a ≤ L
  l2 : L ≤ T
  l3 : T ≤ mid
  l4 : T ≤ m
  l5 : mid + m - 1 - L < b
  hT : ∀ s, s = T → s < m → m < mid + m - s → False
  hL : ∀ s, s = L → a < s → mid + m - s < b → False
theorem St.Sub.bnd {f f' : Nat → Nat} {a b n : Nat} (h : St.Sub f f' a b) (hb : b ≤ n) (hf : ∀ i, i < n → f i < n) : ∀ i, i < n → f' i < n := fun i hi => by
  by_cases c : a ≤ i ∧ i < b
  · obtain ⟨j, j1, j2, e⟩ := h.sub i c.1 c.2
    rw [e]; exact hf j (by omega)
  · rw [h.off i (by omega)]; exact hf i hi
theorem St.Stb.congr {R f g : Nat → Nat} {a b : Nat} (h : St.Stb R f a b) (e : ∀ i, a ≤ i → i < b → g i = f i) : St.Stb R g a b := fun i j k1 k2 k3 => by
  rw [e i k1 (by omega), e j (by omega) k3]; exact h i j k1 k2 k3
/-- a half merged -/
def Half (w0 : World) (g n : Nat) (R f : Nat → Nat) (a b : Nat) (w' : World) : Prop := ∃ f', Row w0 w' g n f' ∧ St.Srt R f' a b ∧ St.Sub f f' a b
set_option maxHeartbeats 4000000 in
set_option maxRecDepth 100000 in
theorem merge_main (w0 : World) (g n c cr a m b k : Nat) (R f : Nat → Nat) (w : World) (hn : n < 4611686018427387904) (hR : Row w0 w g n f) (hC : CmpOk w0 g n cr R) (hf : ∀ i, i < n → f i < n)
    (h1 : a + 1 < m) (h2 : m + 1 < b) (h3 : b ≤ n) (s1 : St.Srt R f a m) (s2 : St.Srt R f m b) (st : St.Stb R f a b) (hk : b - a ≤ k + 1) (IH : MergeOk w0 g n c cr R k) :
    Calls Tryz.prog 51 #[.slice (some ⟨g, 0, none⟩) n c, .int .i64 a, .int .i64 m, .int .i64 b, .func (.func 27) #[] #[.pointer (some ⟨cr, 0, none⟩)]] w (Merged w0 g n R f a b) := by
  have HR := Lib.hid hR
  have HC := Lib.hid hC
  have HF := Lib.hid hf
  have HS := Lib.hid (And.intro s1 (And.intro s2 st))
  have HI := Lib.hid IH
  clear hR hC hf s1 s2 st IH
  have k2 : IntKind.i64.wrap ((m : Int) - a) = (m : Int) - a := IntWalk.i64_in _ (by omega)
  have k3 : IntKind.i64.wrap ((b : Int) - m) = (b : Int) - m := IntWalk.i64_in _ (by omega)
  have d0 : (((b : Int) - m) == 1) = false := by simp; omega
  have d1 : (((m : Int) - a) == 1) = false := by simp; omega
  have q1 : IntKind.i64.wrap ((a : Int) + b) = (a : Int) + b := IntWalk.i64_in _ (by omega)
  have q2 : IntKind.u64.wrap ((a : Int) + b) = (a : Int) + b := by rw [IntKind.wrap_u64]; omega
  go_enter Tryz.func51, Tryz.ntmps51
  go_upto_region 25 with (fail)
  have e : ((a : Int) + b) / 2 = (((a + b) / 2 : Nat) : Int) := by omega
  have eh := Lib.hid (show a < (a + b) / 2 ∧ (a + b) / 2 < b ∧ (a + b) / 2 + (a + b) / 2 ≤ a + b ∧ a + b ≤ (a + b) / 2 + (a + b) / 2 + 1 by omega)
  generalize (a + b) / 2 = mid at *
  rw [e]
  clear e q1 q2 k2 k3 d0 d1
  have q3 : IntKind.i64.wrap ((mid : Int) + m) = (mid : Int) + m := IntWalk.i64_in _ (by have := eh.out; omega)
  have q4 : IntKind.i64.wrap ((mid : Int) + m - b) = (mid : Int) + m - b := IntWalk.i64_in _ (by have := eh.out; omega)
  have q5 : IntKind.i64.wrap ((mid : Int) + m - 1) = (mid : Int) + m - 1 := IntWalk.i64_in _ (by have := eh.out; omega)
  obtain ⟨L, T, SP, hLT⟩ : ∃ L T, Span a m b mid L T ∧ ((mid < m ∧ (mid : Int) + m - b = (L : Int) ∧ mid = T) ∨ (¬ mid < m ∧ a = L ∧ m = T)) := by
    have := eh.out
    by_cases hmm : mid < m
    · exact ⟨mid + m - b, mid, ⟨by omega, by omega, Nat.le_refl _, by omega, by omega, fun s h => by omega, fun s h => by omega⟩, .inl ⟨hmm, by omega, rfl⟩⟩
    · exact ⟨a, m, ⟨Nat.le_refl _, by omega, by omega, Nat.le_refl _, by omega, fun s h => by omega, fun s h => by omega⟩, .inr ⟨hmm, rfl, rfl⟩⟩
  have HSP := Lib.hid SP
  clear SP
  go_upto_if 140 with (fail)
  go_cut [20, 21] (fun v u W => v = .int .i64 L ∧ u = .int .i64 T ∧ W = w)
  case first =>
    as_aux_lemma =>
      rcases hLT with ⟨h5, h6, h7⟩ | ⟨h5, h6, h7⟩
      · have H6 := Lib.hid h6
        have H7 := Lib.hid h7
        clear h6 h7
        go_wp2
        go_meet
        exact ⟨by rw [H6.out], by rw [H7.out], rfl⟩
      · have H6 := Lib.hid h6
        have H7 := Lib.hid h7
        clear h6 h7
        go_wp2
        go_meet
        exact ⟨by rw [H6.out], by rw [H7.out], rfl⟩
  case rest =>
    as_aux_lemma =>
      obtain ⟨rfl, rfl, rfl⟩ := hcut
      clear hLT q4
      go_wp2
      go_loopw [20, 21] (fun v u wr => ∃ (i j : Nat), L ≤ i ∧ i ≤ j ∧ j ≤ T ∧ v = .int .i64 i ∧ u = .int .i64 j ∧ Row w0 wr g n f ∧ (L < i → St.Lt R (f (i - 1)) (f (mid + m - i))) ∧ (j < T → St.Lt R (f (mid + m - 1 - j)) (f j))) (fun v u _ => (intOf u).toNat - (intOf v).toNat)
      case atStart => exact ⟨L, T, Nat.le_refl _, HSP.out.l2, Nat.le_refl _, rfl, rfl, HR.out, fun h => by omega, fun h => by omega⟩
      case round =>
        obtain ⟨i, j, hi, hij, hj, rfl, rfl, hr, hlo, hhi⟩ := hrel
        have HR2 := Lib.hid hr
        have HLO := Lib.hid hlo
        have HHI := Lib.hid hhi
        clear hr HR hlo hhi
        by_cases hlt : i < j
        · have hjb : j ≤ n := by have := HSP.out.l4; omega
          have q1 : IntKind.i64.wrap ((i : Int) + j) = (i : Int) + j := IntWalk.i64_in _ (by have := HSP.out.l4; omega)
          have q2 : IntKind.u64.wrap ((i : Int) + j) = (i : Int) + j := by rw [IntKind.wrap_u64]; have := HSP.out.l4; omega
          go_upto_region 35 with (fail)
          have e : ((i : Int) + j) / 2 = (((i + j) / 2 : Nat) : Int) := by omega
          have eh2 := Lib.hid (show i ≤ (i + j) / 2 ∧ (i + j) / 2 < j by omega)
          generalize (i + j) / 2 = h at *
          rw [e]
          clear e q1 q2
          have pl := Lib.hid (show a ≤ h ∧ h < mid + m - 1 - h ∧ mid + m - 1 - h < b by
            obtain ⟨l1, l2, l3, l4, l5, -, -⟩ := HSP.out; have := eh.out; have := eh2.out; omega)
          have q6 : (mid : Int) + m - 1 - h = ((mid + m - 1 - h : Nat) : Int) := by have := pl.out; omega
          have q7 : IntKind.i64.wrap ((mid + m - 1 - h : Nat) : Int) = ((mid + m - 1 - h : Nat) : Int) := IntWalk.i64_in _ (by have := pl.out; omega)
          generalize hp : mid + m - 1 - h = p at *
          have HP := Lib.hid hp
          clear hp
          have z1 : (0 : Int) ≤ (h : Int) := by omega
          have z2 : (h : Int) < n := by have := pl.out; omega
          have z3 : (0 : Int) ≤ (p : Int) := by omega
          have z4 : (p : Int) < n := by have := pl.out; omega
          have c1 := HR2.out.cell h (by omega)
          have c2 := HR2.out.cell p (by omega)
          have hc := fun q => HC.out (wr.drewN q) (f p) (f h) (HF.out p (by omega)) (HF.out h (by omega)) (HR2.out.keep.drewN q)
          have hsg := St.sg_neg (R (f h)) (R (f p))
          have hst := St.Stb.no HS.out.2.2 pl.out.1 pl.out.2.1 pl.out.2.2
          generalize hcv : St.sg (R (f h)) (R (f p)) = cv at hc hsg
          have HCC := Lib.hid hc
          clear hc hcv
          by_cases hk : R (f h) < R (f p)
          · rw [decide_eq_true (show (R (f h) : Int) < R (f p) by omega)] at hsg
            have hl := Lib.hid (St.Lt.of hk)
            clear hk hst
            go_quiet ((go_at_call 27; exact Calls.quiet_of (HCC.out _)))
            go_wp2
            go_roundw
            case rel => exact ⟨i, h, hi, eh2.out.1, by have := eh2.out; omega, rfl, rfl, HR2.out.drewN _, HLO.out, fun _ => by rw [HP.out]; exact hl.out⟩
            case measure => have := eh2.out; simp [intOf]; omega
          · rw [decide_eq_false (show ¬ (R (f h) : Int) < R (f p) by omega)] at hsg
            have hl := Lib.hid (hst hk)
            clear hk hst
            go_quiet ((go_at_call 27; exact Calls.quiet_of (HCC.out _)))
            go_wp2
            go_roundw
            case rel => exact ⟨h + 1, j, by have := eh2.out; omega, eh2.out.2, hj, by go_num, rfl, HR2.out.drewN _, fun _ => by rw [show h + 1 - 1 = h by omega, show mid + m - (h + 1) = p by have := HP.out; omega]; exact hl.out, HHI.out⟩
            case measure => have := eh2.out; simp [intOf]; omega
        · obtain rfl : i = j := by omega
          have hib : i ≤ n := by have := HSP.out.l4; omega
          have q8 : IntKind.i64.wrap ((mid + m - i : Nat) : Int) = ((mid + m - i : Nat) : Int) := by
            have h9 : mid + m - i ≤ n + n := by have := HSP.out.l4; have := eh.out; omega
            exact IntWalk.i64_in _ (by omega)
          have q9 : (mid : Int) + m - i = ((mid + m - i : Nat) : Int) := by have := HSP.out.l4; omega
          have pe := Lib.hid (show a ≤ i ∧ i ≤ m ∧ i ≤ mid ∧ m ≤ mid + m - i ∧ mid + m - i ≤ b ∧ mid ≤ mid + m - i by
            obtain ⟨l1, l2, l3, l4, l5, -, -⟩ := HSP.out; have := eh.out; omega)
          have HH := Lib.hid (St.halves (mid := mid) HS.out.2.2 HS.out.1 HS.out.2.1 pe.out.1 pe.out.2.1 pe.out.2.2.2.1 pe.out.2.2.2.2.1 (by have := pe.out; omega)
            (fun h1 h2 => by
              by_cases c : i < T
              · have := HHI.out c; rwa [show mid + m - 1 - i = mid + m - i - 1 by omega] at this
              · exact (HSP.out.hT i (by omega) h1 h2).elim)
            (fun h1 h2 => by
              by_cases c : L < i
              · exact HLO.out c
              · exact (HSP.out.hL i (by omega) h1 h2).elim))
          clear HLO HHI HSP HC
          go_upto_region 39 with (fail)
          clear q3 q5 q8 q9
          generalize mid + m - i = E at *
          obtain ⟨B1, hB1⟩ : ∃ B : Bool, B = decide (i < m ∧ m < E) := ⟨_, rfl⟩
          have HB1 := Lib.hid hB1
          clear hB1
          go_cut [185] (fun v W => v = .bool B1 ∧ W = wr)
          case first =>
            as_aux_lemma =>
              by_cases c1 : i < m
              · have d1 : decide (i < m) = true := decide_eq_true c1
                by_cases c2 : m < E
                · have d2 : decide (m < E) = true := decide_eq_true c2
                  have d3 := Lib.hid (show B1 = true by rw [HB1.out]; exact decide_eq_true ⟨c1, c2⟩)
                  go_wp2
                  go_meet
                  exact ⟨by rw [d3.out], rfl⟩
                · have d2 : decide (m < E) = false := decide_eq_false c2
                  have d3 := Lib.hid (show B1 = false by rw [HB1.out]; exact decide_eq_false (fun h => c2 h.2))
                  go_wp2
                  go_meet
                  exact ⟨by rw [d3.out], rfl⟩
              · have d1 : decide (i < m) = false := decide_eq_false c1
                have d3 := Lib.hid (show B1 = false by rw [HB1.out]; exact decide_eq_false (fun h => c1 h.1))
                go_wp2
                go_meet
                exact ⟨by rw [d3.out], rfl⟩
          case rest =>
            as_aux_lemma =>
              obtain ⟨rfl, rfl⟩ := hcut
              go_upto_if 185 with (fail)
              go_cut [] (fun W => Row w0 W g n (St.rot f i m E))
              case first =>
                as_aux_lemma =>
                  cases B1 with
                  | true =>
                    as_aux_lemma =>
                      have hc := of_decide_eq_true HB1.out.symm
                      have HC2 := Lib.hid (rotate_calls g n c i m E f (.func (.func 27) #[] #[.pointer (some ⟨cr, 0, none⟩)]) w0 _ hn HR2.out hc.1 hc.2 (by have := pe.out; omega))
                      clear hc
                      go_wp2_with (first | (go_at_call 63; refine HC2.out.mono ?_; rintro e w1 ⟨rfl, hr1⟩))
                      go_meet
                      exact hr1
                  | false =>
                    as_aux_lemma =>
                      have hc := of_decide_eq_false HB1.out.symm
                      have HN := Lib.hid (St.rot_nil f i m E pe.out.2.1 pe.out.2.2.2.1 (by have := pe.out; omega))
                      clear hc
                      go_wp2
                      go_meet
                      exact HR2.out.congr HN.out
              case rest =>
                as_aux_lemma =>
                  have HR3 := Lib.hid hcut
                  have HF3 := Lib.hid (St.Sub.bnd HH.out.s h3 HF.out)
                  clear hcut HR2 HF HS HB1
                  generalize St.rot f i m E = g0 at *
                  go_upto_region 41 with (fail)
                  obtain ⟨B2, hB2⟩ : ∃ B : Bool, B = decide (a < i ∧ i < mid) := ⟨_, rfl⟩
                  have HB2 := Lib.hid hB2
                  clear hB2
                  go_cut [199] (fun v W => v = .bool B2 ∧ W = wc)
                  case first =>
                    as_aux_lemma =>
                      by_cases c1 : a < i
                      · have d1 : decide (a < i) = true := decide_eq_true c1
                        by_cases c2 : i < mid
                        · have d2 : decide (i < mid) = true := decide_eq_true c2
                          have d3 := Lib.hid (show B2 = true by rw [HB2.out]; exact decide_eq_true ⟨c1, c2⟩)
                          go_wp2
                          go_meet
                          exact ⟨by rw [d3.out], rfl⟩
                        · have d2 : decide (i < mid) = false := decide_eq_false c2
                          have d3 := Lib.hid (show B2 = false by rw [HB2.out]; exact decide_eq_false (fun h => c2 h.2))
                          go_wp2
                          go_meet
                          exact ⟨by rw [d3.out], rfl⟩
                      · have d1 : decide (a < i) = false := decide_eq_false c1
                        have d3 := Lib.hid (show B2 = false by rw [HB2.out]; exact decide_eq_false (fun h => c1 h.1))
                        go_wp2
                        go_meet
                        exact ⟨by rw [d3.out], rfl⟩
                  case rest =>
                    as_aux_lemma =>
                      obtain ⟨rfl, rfl⟩ := hcut
                      go_upto_if 199 with (fail)
                      go_cut [] (fun W => Half w0 g n R g0 a mid W)
                      case first =>
                        as_aux_lemma =>
                          cases B2 with
                          | true =>
                            as_aux_lemma =>
                              have hc := of_decide_eq_true HB2.out.symm
                              have HC2 := Lib.hid (HI.out a i mid g0 _ (by have := eh.out; omega) HR3.out HF3.out hc.1 hc.2 (by have := eh.out; omega) HH.out.p1 HH.out.p2 HH.out.q1)
                              clear hc
                              go_wp2_with (first | (go_at_call 51; refine HC2.out.mono ?_; rintro e w1 ⟨rfl, hr1⟩; have HR4 := Lib.hid hr1; clear hr1))
                              go_meet
                              exact HR4.out
                          | false =>
                            as_aux_lemma =>
                              have hc := of_decide_eq_false HB2.out.symm
                              have HN := Lib.hid (show Half w0 g n R g0 a mid _ from ⟨g0, HR3.out, by
                                by_cases c : i = a
                                · have := HH.out.p2; rwa [c] at this
                                · have := HH.out.p1; rwa [show i = mid by have := pe.out; omega] at this, St.Sub.refl _ _ _⟩)
                              clear hc
                              go_wp2
                              go_meet
                              exact HN.out
                      case rest =>
                        as_aux_lemma =>
                          obtain ⟨g1, r1, s1, u1⟩ := hcut
                          have HR4 := Lib.hid r1
                          have HU1 := Lib.hid (And.intro s1 u1)
                          have HF4 := Lib.hid (St.Sub.bnd u1 (show mid ≤ n by have := eh.out; omega) HF3.out)
                          clear r1 s1 u1 HR3 HB2
                          go_upto_region 43 with (fail)
                          obtain ⟨B3, hB3⟩ : ∃ B : Bool, B = decide (mid < E ∧ E < b) := ⟨_, rfl⟩
                          have HB3 := Lib.hid hB3
                          clear hB3
                          go_cut [213] (fun v W => v = .bool B3 ∧ W = wc)
                          case first =>
                            as_aux_lemma =>
                              by_cases c1 : mid < E
                              · have d1 : decide (mid < E) = true := decide_eq_true c1
                                by_cases c2 : E < b
                                · have d2 : decide (E < b) = true := decide_eq_true c2
                                  have d3 := Lib.hid (show B3 = true by rw [HB3.out]; exact decide_eq_true ⟨c1, c2⟩)
                                  go_wp2
                                  go_meet
                                  exact ⟨by rw [d3.out], rfl⟩
                                · have d2 : decide (E < b) = false := decide_eq_false c2
                                  have d3 := Lib.hid (show B3 = false by rw [HB3.out]; exact decide_eq_false (fun h => c2 h.2))
                                  go_wp2
                                  go_meet
                                  exact ⟨by rw [d3.out], rfl⟩
                              · have d1 : decide (mid < E) = false := decide_eq_false c1
                                have d3 := Lib.hid (show B3 = false by rw [HB3.out]; exact decide_eq_false (fun h => c1 h.1))
                                go_wp2
                                go_meet
                                exact ⟨by rw [d3.out], rfl⟩
                          case rest =>
                            as_aux_lemma =>
                              obtain ⟨rfl, rfl⟩ := hcut
                              go_upto_if 213 with (fail)
                              cases B3 with
                              | true =>
                                as_aux_lemma =>
                                  have hc := of_decide_eq_true HB3.out.symm
                                  have HC2 := Lib.hid (HI.out mid E b g1 _ (by have := eh.out; omega) HR4.out HF4.out hc.1 hc.2 h3 (HH.out.p3.keep HU1.out.2 (.inr (Nat.le_refl _))) (HH.out.p4.keep HU1.out.2 (.inr (by have := pe.out; omega))) (HH.out.q2.congr (fun x x1 x2 => HU1.out.2.off x (.inr x1))))
                                  clear hc
                                  go_wp2_with (first | (go_at_call 51; refine HC2.out.mono ?_; rintro e w1 ⟨rfl, g2, r2, s2, u2⟩; have HR5 := Lib.hid (And.intro r2 (And.intro s2 u2)); clear r2 s2 u2))
                                  go_end0
                                  exact ⟨rfl, g2, HR5.out.1, St.merged HH.out (by have := eh.out; omega) (by have := eh.out; omega) HU1.out.1 HU1.out.2 HR5.out.2.1 HR5.out.2.2⟩
                              | false =>
                                as_aux_lemma =>
                                  have hc := of_decide_eq_false HB3.out.symm
                                  have HN := Lib.hid (show St.Srt R g1 mid b by
                                    by_cases c : E = mid
                                    · have := HH.out.p4; rw [c] at this; exact this.keep HU1.out.2 (.inr (Nat.le_refl _))
                                    · have := HH.out.p3; rw [show E = b by have := pe.out; omega] at this; exact this.keep HU1.out.2 (.inr (Nat.le_refl _)))
                                  clear hc
                                  go_wp2
                                  go_end0
                                  exact ⟨rfl, g1, HR4.out, St.merged HH.out (by have := eh.out; omega) (by have := eh.out; omega) HU1.out.1 HU1.out.2 HN.out (St.Sub.refl _ _ _)⟩
end Go.Proofs.YtpcmhlbhepickaaGreat
