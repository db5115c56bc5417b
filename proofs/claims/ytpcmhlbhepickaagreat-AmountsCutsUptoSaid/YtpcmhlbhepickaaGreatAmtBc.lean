import Derived.Test.YtpcmhlbhepickaaGreatAmtW
import Derived.SizedLaws
/- the walk of AmountsBudget -/
namespace Go.Proofs.YtpcmhlbhepickaaGreat
open Go.RowKit Go.Lib
open Go.Proofs.YtpcmhlbhepickaaGreat.PAmountsCuts
open Go.Proofs.YtpcmhlbhepickaaGreatW.PrintWords
set_option linter.unusedVariables false
set_option linter.unusedSimpArgs false
namespace Am
/-- the line that the law makes of a reference's line -/
def cv (x : S26) : S27 := ⟨x.f0, x.f1, x.f2, x.f3⟩
def cvs (l : List S26) : List S27 := l.map cv
theorem cvs_len (l : List S26) : (cvs l).length = l.length := by simp [cvs]
theorem lcs_snoc (l : List S27) (x : S27) : lcs (l ++ [x]) = lcs l ++ lc x := by simp [lcs]
theorem cvs_take (l : List S26) (k : Nat) (hk : k < l.length) : lcs ((cvs l).take k) ++ lc (cv (l.getD k z26)) = lcs ((cvs l).take (k + 1)) := by
  have h1 : k < (cvs l).length := by rw [cvs_len]; exact hk
  rw [List.take_succ_eq_append_getElem h1, lcs_snoc]
  congr 2
  simp [cvs, List.getD, hk]
def Line6 (wr : World) (a : Addr) (j : Nat) (x : S26) : Prop := wr.cell? (a.add (j * 4)) = some (.int .i64 x.f0) ∧ wr.cell? ⟨(a.add (j * 4)).block, (a.add (j * 4)).off + 1, none⟩ = some (.int .i64 x.f1) ∧ wr.cell? ⟨(a.add (j * 4)).block, (a.add (j * 4)).off + 2, none⟩ = some (.int .i64 x.f2) ∧ wr.cell? ⟨(a.add (j * 4)).block, (a.add (j * 4)).off + 3, none⟩ = some (.int .i64 x.f3)
theorem line6_of {w : World} {A : Option Addr} {l : List S26} (h : Kd.C k26 w A l.length l) (j : Nat) (hj : j < l.length) : ∃ a, A = some a ∧ Line6 w a j (l.getD j z26) := by
  obtain ⟨ad, e, h0, h1, h2, h3⟩ := at_T26 h (j : Int) (by omega) (by omega)
  have ex : rd_T26 l (j : Int) = l.getD j z26 := by unfold rd_T26; simp
  rw [ex] at h0 h1 h2 h3
  rw [Int.toNat_natCast] at h0 h1 h2 h3
  exact ⟨ad, e, h0, h1, h2, h3⟩
theorem Line6.below {w w1 : World} {a : Addr} {j : Nat} {x : S26} (h : Line6 w a j x) (b : Below w.heap.size w w1) : Line6 w1 a j x := ⟨keep_cell h.1 b, keep_cell h.2.1 b, keep_cell h.2.2.1 b, keep_cell h.2.2.2 b⟩
theorem Line4.below {w w1 : World} {a : Addr} {j : Nat} {x : S27} (h : Line4 w a j x) (b : Below w.heap.size w w1) : Line4 w1 a j x := ⟨keep_cell h.1 b, keep_cell h.2.1 b, keep_cell h.2.2.1 b, keep_cell h.2.2.2 b⟩
/-- a row of one's own, as it is read -/
theorem own_kd {w : World} {base : Nat} {e : TypeId} {v : Value} {ls : List S27} (h : w.ownsRow base e 4 v ls.length (lcs ls)) (hn : ls.length ≤ 4611686018427387904) : ∃ A c, v = .slice A ls.length c ∧ ls.length ≤ c ∧ (A = none → c = 0) ∧ Kd.C k27 w A ls.length ls := by
  rcases Nat.eq_zero_or_pos ls.length with h0 | h0
  · obtain rfl := List.eq_nil_of_length_eq_zero h0
    rcases h.2 with ⟨rfl, _⟩ | ⟨g, cap, cur, rfl, _⟩
    · exact ⟨none, 0, rfl, Nat.le_refl _, fun _ => rfl, empty_kd _ _⟩
    · exact ⟨some ⟨g, 0, none⟩, cap, rfl, Nat.zero_le _, (fun e => by cases e), empty_kd _ _⟩
  · obtain ⟨g, cap, rfl, _, hc, _, hr⟩ := Row4.of_own h h0
    have hk := hr.kd hn
    rw [range_getD] at hk
    exact ⟨some ⟨g, 0, none⟩, cap, rfl, hc, (fun e => by cases e), hk⟩
end Am
set_option maxHeartbeats 8000000 in
set_option maxRecDepth 100000 in
theorem budget_walk (A0 : Option Addr) (c0 : Nat) (l : List S26) (most : Int) (w : World) (hC : Kd.C k26 w A0 l.length l) (hc0 : l.length ≤ c0) (hl : l.length * 32 ≤ 140737488355328) :
    Calls Tryz.prog 4 #[.slice A0 l.length c0, .int .i64 most] w fun e w' => e = .returned (.bool true) ∧ Below w.heap.size w w' := by
  have HL6 := Lib.hid (fun wr (b : Below w.heap.size w wr) j (hj : j < l.length) => Am.line6_of (Kd.C_below hC b) j hj)
  obtain ⟨i0, z0, hinfo, hz0, hz1, hz2, hz3⟩ := info_line
  clear hC
  go_enter Tryz.func4, Tryz.ntmps4
  go_upto_region 5 with (first | (go_at_call 11; refine (works_calls _).mono ?_; rintro e w1 ⟨rfl, hb⟩; have HB1 := Lib.hid hb; clear hb))
  go_loopw [5, 6] (fun v u wr => ∃ k : Nat, k ≤ l.length ∧ u = .int .i64 k ∧ wr.ownsRow w1.heap.size 27 4 v k (Am.lcs ((Am.cvs l).take k)) ∧ Below w1.heap.size w1 wr) (fun _ u _ => l.length - (intOf u).toNat)
  case atStart => exact ⟨0, Nat.zero_le _, rfl, ⟨rfl, .inl ⟨rfl, rfl⟩⟩, Below.refl _ _⟩
  case round =>
    obtain ⟨k, hk, rfl, hown, hb⟩ := hrel
    have HOW := Lib.hid hown
    have HB2 := Lib.hid hb
    have HB := Lib.hid (HB1.out.trans (hb.mono HB1.out.size))
    clear hown hb
    by_cases hlt : k < l.length
    · have z1 : (k : Int) < (l.length : Int) := by omega
      have z2 : (0 : Int) ≤ k := by omega
      obtain ⟨a, rfl, l0, l1, l2, l3⟩ := HL6.out wr HB.out k hlt
      have hpa := Am.cvs_take l k hlt
      obtain ⟨x, hx⟩ : ∃ x, l.getD k z26 = x := ⟨_, rfl⟩
      rw [hx] at l0 l1 l2 l3 hpa
      have HPA := Lib.hid hpa
      clear hx hpa
      have hbl : (a.add (k * 4)).block < w.heap.size := by
        obtain ⟨a', ha', m0, _⟩ := HL6.out w (Below.refl _ _) k hlt
        obtain rfl := Option.some.inj ha'
        exact World.block_lt_of_cell? w _ m0
      have hne : some (a.add (k * 4)).block ≠ u5.ownBlock := fun e => by have h1 := (HOW.out.lt _ e.symm).1; have h2 := HB1.out.size; omega
      have hal : (a.add (k * 4)).block < wr.heap.size := Nat.lt_of_lt_of_le hbl HB.out.size
      have hsz : w1.heap.size ≤ wr.heap.size := HB2.out.size
      have HSZ := Lib.hid hsz
      have HKP := Lib.hid (show ∀ w3, (wr.alloc (Obj.cells #[.int .i64 x.f0, .int .i64 x.f1, .int .i64 x.f2, .int .i64 x.f3] 27)).drew.grownBy w3 u5.ownBlock → Am.Line6 w3 a k x from fun w3 hg => by
        have e : ∀ i, w3.cell? ⟨(a.add (k * 4)).block, i, none⟩ = wr.cell? ⟨(a.add (k * 4)).block, i, none⟩ := fun i =>
          (hg.cell_far ⟨(a.add (k * 4)).block, i, none⟩ (show (a.add (k * 4)).block < (wr.heap.push _).size by rw [Array.size_push]; omega) hne).trans ((((Below.refl _ wr).alloc (Nat.le_refl _) _).drew).cell (p := ⟨(a.add (k * 4)).block, i, none⟩) hal)
        have e0 : w3.cell? (a.add (k * 4)) = wr.cell? (a.add (k * 4)) :=
          (hg.cell_far (a.add (k * 4)) (show (a.add (k * 4)).block < (wr.heap.push _).size by rw [Array.size_push]; omega) hne).trans ((((Below.refl _ wr).alloc (Nat.le_refl _) _).drew).cell (p := a.add (k * 4)) hal)
        exact ⟨e0.trans l0, (e _).trans l1, (e _).trans l2, (e _).trans l3⟩)
      unfold Am.Line6 at HKP
      go_upto_region 7 with (fail)
      go_region_held_law (fun w' => w'.cell? (a.add (k * 4)) = some (.int .i64 x.f0) ∧ w'.cell? ⟨(a.add (k * 4)).block, (a.add (k * 4)).off + 1, none⟩ = some (.int .i64 x.f1) ∧ w'.cell? ⟨(a.add (k * 4)).block, (a.add (k * 4)).off + 2, none⟩ = some (.int .i64 x.f2) ∧ w'.cell? ⟨(a.add (k * 4)).block, (a.add (k * 4)).off + 3, none⟩ = some (.int .i64 x.f3))
        (first | go_keep | exact HKP.out _ hgrow)
        ((refine step_append_lies _ (by rfl) _ _ _ (by rfl) w1.heap.size 27 i0 z0 4 32 Tryz.underlying24 hinfo hz0 hz1 hz2 hz3 (by decide) u5 k (Am.lcs ((Am.cvs l).take k)) (by rfl) ((HOW.out.alloc _).drew) ⟨wr.heap.size, 0, none⟩ 1 1 (Am.lc (Am.cv x)) (by rfl) (by rfl) (World.news_of_block (cs := #[.int .i64 x.f0, .int .i64 x.f1, .int .i64 x.f2, .int .i64 x.f3]) (t := 27) (fr := (0, 0)) (heap_alloc_new wr _)) (by simp [Am.lc, Value.oneCell']) (by decide) (by unfold maxLen; omega) (by omega) (by simp; omega) (wr.heap.size + 1) (by simp) ?_; intro gg cap w3 hown3 hgrow hat hlt3))
      have HO3 := Lib.hid (show World.ownsRow w3 w1.heap.size 27 4 (.slice (some ⟨gg, 0, none⟩) (k + 1) cap) (k + 1) (Am.lcs ((Am.cvs l).take (k + 1))) by rw [← HPA.out]; exact hown3)
      have hs1 : (wr.alloc (.cells #[.int .i64 x.f0, .int .i64 x.f1, .int .i64 x.f2, .int .i64 x.f3] 27)).drew.heap.size = wr.heap.size + 1 := by simp
      have HB3 := Lib.hid (show Below w1.heap.size w1 w3 from ((HB2.out.alloc hsz _).drew).grown hgrow (by omega) (fun q hq => (HOW.out.lt q hq).1))
      clear hown3 hgrow hat hlt3 hs1 hne hal hbl hsz
      go_wp2_with fail
      go_roundw
      case rel => exact ⟨k + 1, by omega, by go_num, HO3.out, HB3.out⟩
      case measure => simp [intOf]; omega
    · obtain rfl : l.length = k := by omega
      obtain ⟨ls, hls⟩ : ∃ ls, Am.cvs l = ls := ⟨_, rfl⟩
      have hln : ls.length = l.length := by rw [← hls, Am.cvs_len]
      have hown : wr.ownsRow w1.heap.size 27 4 u5 ls.length (Am.lcs ls) := by
        have h := HOW.out
        rw [List.take_of_length_le (by rw [Am.cvs_len]; omega), hls] at h
        rw [hln]
        exact h
      obtain ⟨A, c, rfl, hc, hA, hK⟩ := Am.own_kd hown (by omega)
      have hbud0 := fun w' (b : Below wr.heap.size wr w') => bud_calls A c ls most w' (Kd.C_below hK b) hc hA
      have hso := fun w' (b : Below wr.heap.size wr w') => asum_calls A c ls w' (Kd.C_below hK b) hc (by omega)
      rw [hln] at hbud0 hso
      have HBu := Lib.hid hbud0
      have HSo := Lib.hid hso
      have HK := Lib.hid hK
      have HLN := Lib.hid hln
      rw [hln]
      clear hbud0 hso hown hK hc hA hls HOW HL6 hlt hln hinfo hz0 hz1 hz2 hz3
      go_upto_region 9 with (first | (go_at_call 7; refine (HBu.out _ (Below.refl _ _)).mono ?_; rintro e W2 ⟨hb, Ab, cb, bs, rfl, hKb, hcb, hbud⟩; have HW2 := Lib.hid hb; have HB22 := Lib.hid (below_next HB.out hb); have HKB := Lib.hid (And.intro hKb hcb); have HBD := Lib.hid hbud; clear hb hKb hcb hbud))
      by_cases he : Am.budErr ls most = 0
      · have hlaw := Am.law_of HBD.out he
        obtain ⟨_, _, _, _, hs2⟩ := Am.err_ok he
        obtain ⟨s, hs⟩ : ∃ s, (Mo.sumE (Am.paids ls)).1 = s := ⟨_, rfl⟩
        have hsum := hlaw.sum
        rw [hs] at hsum
        have hbl : bs.length = l.length := hlaw.len.trans HLN.out
        have hsb := fun w' (b : Below W2.heap.size W2 w') => asum_calls Ab cb bs w' (Kd.C_below HKB.out.1 b) HKB.out.2 (by omega)
        have hso := HSo.out
        rw [hs, hs2] at hso
        rw [hsum, hbl] at hsb
        have HSo2 := Lib.hid hso
        have HSb := Lib.hid hsb
        have HLW := Lib.hid hlaw
        have HBL := Lib.hid hbl
        rw [he, hbl]
        clear hlaw hs2 hs hsum hso hsb he HSo HBu HBD hbl
        by_cases b1 : s ≤ most
        · -- aux
          as_aux_lemma =>
            rw [if_pos b1] at HSb
            have e1 : decide (s ≤ most) = true := decide_eq_true b1
            have e2 : decide (most < s) = false := decide_eq_false (by omega)
            clear b1
            go_upto_region 16 with (first
              | (go_at_call 5; refine (HSo2.out _ HW2.out).mono ?_; rintro e W3 ⟨rfl, hb⟩; have HW3 := Lib.hid hb; clear hb)
              | (go_at_call 5; refine (HSb.out _ HW3.out).mono ?_; rintro e W4 ⟨rfl, hb⟩; have HW4 := Lib.hid (below_next HW3.out hb); have HB4 := Lib.hid (below_next (below_next HB22.out HW3.out) hb); clear hb HW3))
            have HWa := fun {wr : World} (b : Below W4.heap.size W4 wr) => Below.trans HW4.out (b.mono HW4.out.size)
            have HWb := fun {wr : World} (b : Below W4.heap.size W4 wr) => (Below.trans HW4.out (b.mono HW4.out.size)).mono HW2.out.size
            clear HSo2 HSb e1 e2
            obtain ⟨wo, rfl⟩ : ∃ wo : World, wo = wr := ⟨_, rfl⟩
            go_loopw [13] (fun v wr => ∃ i : Nat, i ≤ l.length ∧ v = .int .i64 i ∧ Below W4.heap.size W4 wr) (fun v _ => l.length - (intOf v).toNat)
            case atStart => exact ⟨0, Nat.zero_le _, rfl, Below.refl _ _⟩
            case round => -- aux
              as_aux_lemma =>
                obtain ⟨i, hi, rfl, hb⟩ := hrel
                have HB5 := Lib.hid hb
                clear hb
                by_cases hlt : i < l.length
                · have z1 : (i : Int) < (l.length : Int) := by omega
                  have z2 : (0 : Int) ≤ i := by omega
                  have hLs : i < ls.length := by rw [HLN.out]; exact hlt
                  obtain ⟨ao, rfl, hco⟩ := Am.c27_cell HK.out (by omega)
                  obtain ⟨ab, rfl, hcb⟩ := Am.c27_cell HKB.out.1 (by rw [HBL.out]; omega)
                  have hoo := fun j (hj : j < l.length) => Am.line4_of hco j (by rw [HLN.out]; exact hj)
                  have hbb := fun j (hj : j < l.length) => Am.line4_of hcb j (by rw [HBL.out]; exact hj)
                  have HOO := Lib.hid hoo
                  have HBB := Lib.hid hbb
                  obtain ⟨p0, p1, p2, p3⟩ := (HOO.out i hlt).below (HW2.out.trans (HWb HB5.out))
                  obtain ⟨q0, q1, q2, q3⟩ := (HBB.out i hlt).below (HWa HB5.out)
                  obtain ⟨f0, f1, f2, f3, f4⟩ := HLW.out.each i hLs
                  rw [f0] at q0
                  rw [f1] at q1
                  rw [f2] at q2
                  have HI := Lib.hid (And.intro p3 q3)
                  generalize hx0 : (ls.getD i z27).f0 = X0 at p0 q0
                  generalize hx1 : (ls.getD i z27).f1 = X1 at p1 q1
                  generalize hx2 : (ls.getD i z27).f2 = X2 at p2 q2
                  generalize hx3 : (ls.getD i z27).f3 = X3 at p3 f4
                  generalize hy3 : (bs.getD i z27).f3 = Y3 at q3 f3 f4
                  have e5 : decide (Y3 < 0) = false := decide_eq_false (by omega)
                  have e6 : decide (X3 < Y3) = false := decide_eq_false (by omega)
                  clear hco hcb hoo hbb f0 f1 f2 f3 f4 hx0 hx1 hx2 hx3 hy3 hLs
                  go_upto_region 18 with (fail)
                  go_quiet (fail)
                  go_upto_region 21 with (fail)
                  obtain ⟨V, hV⟩ : ∃ V, wr.drewN nq = V := ⟨_, rfl⟩
                  have HBV := Lib.hid (show Below W4.heap.size W4 V by rw [← hV]; exact below_drewn HB5.out _)
                  rw [hV]
                  clear hV p0 p1 p2 p3 q0 q1 q2 q3 e5 e6 HB5 HI
                  obtain ⟨wp, rfl⟩ : ∃ wp : World, wp = wr := ⟨_, rfl⟩
                  go_loopw [14] (fun v wr => ∃ j : Nat, j ≤ i ∧ v = .int .i64 j ∧ Below W4.heap.size W4 wr) (fun v _ => i - (intOf v).toNat)
                  case atStart => exact ⟨0, Nat.zero_le _, rfl, HBV.out⟩
                  case round => -- aux
                    as_aux_lemma =>
                      obtain ⟨j, hj, rfl, hb⟩ := hrel
                      have HB6 := Lib.hid hb
                      clear hb HBV
                      by_cases hji : j < i
                      · have d1 : decide ((j : Int) < (i : Int)) = true := decide_eq_true (by omega)
                        have d1n : decide (j < i) = true := decide_eq_true hji
                        by_cases h50 : i < 50
                        · have d2 : decide ((i : Int) < 50) = true := decide_eq_true (by omega)
                          have d2n : decide (i < 50) = true := decide_eq_true h50
                          have y1 : (j : Int) < (l.length : Int) := by omega
                          have y2 : (0 : Int) ≤ j := by omega
                          obtain ⟨_, _, _, p3⟩ := (HOO.out i hlt).below (HW2.out.trans (HWb HB6.out))
                          obtain ⟨_, _, _, q3⟩ := (HBB.out i hlt).below (HWa HB6.out)
                          obtain ⟨_, _, _, r3⟩ := (HOO.out j (by omega)).below (HW2.out.trans (HWb HB6.out))
                          obtain ⟨_, _, _, s3⟩ := (HBB.out j (by omega)).below (HWa HB6.out)
                          have hup := HLW.out.ord i j (by rw [HLN.out]; exact hlt) (by rw [HLN.out]; omega)
                          have hdn := HLW.out.ord j i (by rw [HLN.out]; omega) (by rw [HLN.out]; exact hlt)
                          generalize (ls.getD i z27).f3 = XI at p3 hup hdn
                          generalize (ls.getD j z27).f3 = XJ at r3 hup hdn
                          generalize (bs.getD i z27).f3 = YI at q3 hup hdn
                          generalize (bs.getD j z27).f3 = YJ at s3 hup hdn
                          rcases Int.lt_trichotomy XJ XI with h | h | h
                          · have hxy := hup h
                            have e1 : decide (XJ < XI) = true := decide_eq_true h
                            have e2 : decide (XI < XJ) = false := decide_eq_false (by omega)
                            have e3 : decide (YI < YJ) = false := decide_eq_false (by omega)
                            clear hup hdn h hxy
                            go_upto_region 23 with (fail)
                            go_quiet (fail)
                            go_wp2_with fail
                            go_roundw
                            case rel => exact ⟨j + 1, by omega, by go_num, below_drewn HB6.out _⟩
                            case measure => simp [intOf]; omega
                          · have e1 : decide (XJ < XI) = false := decide_eq_false (by omega)
                            have e2 : decide (XI < XJ) = false := decide_eq_false (by omega)
                            clear hup hdn h
                            go_upto_region 23 with (fail)
                            go_quiet (fail)
                            go_wp2_with fail
                            go_roundw
                            case rel => exact ⟨j + 1, by omega, by go_num, below_drewn HB6.out _⟩
                            case measure => simp [intOf]; omega
                          · have hxy := hdn h
                            have e1 : decide (XJ < XI) = false := decide_eq_false (by omega)
                            have e2 : decide (XI < XJ) = true := decide_eq_true h
                            have e3 : decide (YJ < YI) = false := decide_eq_false (by omega)
                            clear hup hdn h hxy
                            go_upto_region 23 with (fail)
                            go_quiet (fail)
                            go_wp2_with fail
                            go_roundw
                            case rel => exact ⟨j + 1, by omega, by go_num, below_drewn HB6.out _⟩
                            case measure => simp [intOf]; omega
                        · have d2 : decide ((i : Int) < 50) = false := decide_eq_false (by omega)
                          have d2n : decide (i < 50) = false := decide_eq_false h50
                          go_wp2_with fail
                          go_roundw
                          case rel => exact ⟨i + 1, by omega, by go_num, HB6.out⟩
                          case measure => simp [intOf]; omega
                      · obtain rfl : i = j := by omega
                        go_wp2_with fail
                        go_roundw
                        case rel => exact ⟨i + 1, by omega, by go_num, HB6.out⟩
                        case measure => simp [intOf]; omega
                · go_wp2_with fail
                  go_ret
                  exact ⟨by first | rfl | simp, below_next HB4.out HB5.out⟩
        · -- aux
          as_aux_lemma =>
            rw [if_neg b1] at HSb
            have e1 : decide (s ≤ most) = false := decide_eq_false b1
            have e2 : decide (most < s) = true := decide_eq_true (by omega)
            clear b1
            go_upto_region 16 with (first
              | (go_at_call 5; refine (HSo2.out _ HW2.out).mono ?_; rintro e W3 ⟨rfl, hb⟩; have HW3 := Lib.hid hb; clear hb)
              | (go_at_call 5; refine (HSb.out _ HW3.out).mono ?_; rintro e W4 ⟨rfl, hb⟩; have HW4 := Lib.hid (below_next HW3.out hb); have HB4 := Lib.hid (below_next (below_next HB22.out HW3.out) hb); clear hb HW3))
            have HWa := fun {wr : World} (b : Below W4.heap.size W4 wr) => Below.trans HW4.out (b.mono HW4.out.size)
            have HWb := fun {wr : World} (b : Below W4.heap.size W4 wr) => (Below.trans HW4.out (b.mono HW4.out.size)).mono HW2.out.size
            clear HSo2 HSb e1 e2
            obtain ⟨wo, rfl⟩ : ∃ wo : World, wo = wr := ⟨_, rfl⟩
            go_loopw [13] (fun v wr => ∃ i : Nat, i ≤ l.length ∧ v = .int .i64 i ∧ Below W4.heap.size W4 wr) (fun v _ => l.length - (intOf v).toNat)
            case atStart => exact ⟨0, Nat.zero_le _, rfl, Below.refl _ _⟩
            case round => -- aux
              as_aux_lemma =>
                obtain ⟨i, hi, rfl, hb⟩ := hrel
                have HB5 := Lib.hid hb
                clear hb
                by_cases hlt : i < l.length
                · have z1 : (i : Int) < (l.length : Int) := by omega
                  have z2 : (0 : Int) ≤ i := by omega
                  have hLs : i < ls.length := by rw [HLN.out]; exact hlt
                  obtain ⟨ao, rfl, hco⟩ := Am.c27_cell HK.out (by omega)
                  obtain ⟨ab, rfl, hcb⟩ := Am.c27_cell HKB.out.1 (by rw [HBL.out]; omega)
                  have hoo := fun j (hj : j < l.length) => Am.line4_of hco j (by rw [HLN.out]; exact hj)
                  have hbb := fun j (hj : j < l.length) => Am.line4_of hcb j (by rw [HBL.out]; exact hj)
                  have HOO := Lib.hid hoo
                  have HBB := Lib.hid hbb
                  obtain ⟨p0, p1, p2, p3⟩ := (HOO.out i hlt).below (HW2.out.trans (HWb HB5.out))
                  obtain ⟨q0, q1, q2, q3⟩ := (HBB.out i hlt).below (HWa HB5.out)
                  obtain ⟨f0, f1, f2, f3, f4⟩ := HLW.out.each i hLs
                  rw [f0] at q0
                  rw [f1] at q1
                  rw [f2] at q2
                  have HI := Lib.hid (And.intro p3 q3)
                  generalize hx0 : (ls.getD i z27).f0 = X0 at p0 q0
                  generalize hx1 : (ls.getD i z27).f1 = X1 at p1 q1
                  generalize hx2 : (ls.getD i z27).f2 = X2 at p2 q2
                  generalize hx3 : (ls.getD i z27).f3 = X3 at p3 f4
                  generalize hy3 : (bs.getD i z27).f3 = Y3 at q3 f3 f4
                  have e5 : decide (Y3 < 0) = false := decide_eq_false (by omega)
                  have e6 : decide (X3 < Y3) = false := decide_eq_false (by omega)
                  clear hco hcb hoo hbb f0 f1 f2 f3 f4 hx0 hx1 hx2 hx3 hy3 hLs
                  go_upto_region 18 with (fail)
                  go_quiet (fail)
                  go_upto_region 21 with (fail)
                  obtain ⟨V, hV⟩ : ∃ V, wr.drewN nq = V := ⟨_, rfl⟩
                  have HBV := Lib.hid (show Below W4.heap.size W4 V by rw [← hV]; exact below_drewn HB5.out _)
                  rw [hV]
                  clear hV p0 p1 p2 p3 q0 q1 q2 q3 e5 e6 HB5 HI
                  obtain ⟨wp, rfl⟩ : ∃ wp : World, wp = wr := ⟨_, rfl⟩
                  go_loopw [14] (fun v wr => ∃ j : Nat, j ≤ i ∧ v = .int .i64 j ∧ Below W4.heap.size W4 wr) (fun v _ => i - (intOf v).toNat)
                  case atStart => exact ⟨0, Nat.zero_le _, rfl, HBV.out⟩
                  case round => -- aux
                    as_aux_lemma =>
                      obtain ⟨j, hj, rfl, hb⟩ := hrel
                      have HB6 := Lib.hid hb
                      clear hb HBV
                      by_cases hji : j < i
                      · have d1 : decide ((j : Int) < (i : Int)) = true := decide_eq_true (by omega)
                        have d1n : decide (j < i) = true := decide_eq_true hji
                        by_cases h50 : i < 50
                        · have d2 : decide ((i : Int) < 50) = true := decide_eq_true (by omega)
                          have d2n : decide (i < 50) = true := decide_eq_true h50
                          have y1 : (j : Int) < (l.length : Int) := by omega
                          have y2 : (0 : Int) ≤ j := by omega
                          obtain ⟨_, _, _, p3⟩ := (HOO.out i hlt).below (HW2.out.trans (HWb HB6.out))
                          obtain ⟨_, _, _, q3⟩ := (HBB.out i hlt).below (HWa HB6.out)
                          obtain ⟨_, _, _, r3⟩ := (HOO.out j (by omega)).below (HW2.out.trans (HWb HB6.out))
                          obtain ⟨_, _, _, s3⟩ := (HBB.out j (by omega)).below (HWa HB6.out)
                          have hup := HLW.out.ord i j (by rw [HLN.out]; exact hlt) (by rw [HLN.out]; omega)
                          have hdn := HLW.out.ord j i (by rw [HLN.out]; omega) (by rw [HLN.out]; exact hlt)
                          generalize (ls.getD i z27).f3 = XI at p3 hup hdn
                          generalize (ls.getD j z27).f3 = XJ at r3 hup hdn
                          generalize (bs.getD i z27).f3 = YI at q3 hup hdn
                          generalize (bs.getD j z27).f3 = YJ at s3 hup hdn
                          rcases Int.lt_trichotomy XJ XI with h | h | h
                          · have hxy := hup h
                            have e1 : decide (XJ < XI) = true := decide_eq_true h
                            have e2 : decide (XI < XJ) = false := decide_eq_false (by omega)
                            have e3 : decide (YI < YJ) = false := decide_eq_false (by omega)
                            clear hup hdn h hxy
                            go_upto_region 23 with (fail)
                            go_quiet (fail)
                            go_wp2_with fail
                            go_roundw
                            case rel => exact ⟨j + 1, by omega, by go_num, below_drewn HB6.out _⟩
                            case measure => simp [intOf]; omega
                          · have e1 : decide (XJ < XI) = false := decide_eq_false (by omega)
                            have e2 : decide (XI < XJ) = false := decide_eq_false (by omega)
                            clear hup hdn h
                            go_upto_region 23 with (fail)
                            go_quiet (fail)
                            go_wp2_with fail
                            go_roundw
                            case rel => exact ⟨j + 1, by omega, by go_num, below_drewn HB6.out _⟩
                            case measure => simp [intOf]; omega
                          · have hxy := hdn h
                            have e1 : decide (XJ < XI) = false := decide_eq_false (by omega)
                            have e2 : decide (XI < XJ) = true := decide_eq_true h
                            have e3 : decide (YJ < YI) = false := decide_eq_false (by omega)
                            clear hup hdn h hxy
                            go_upto_region 23 with (fail)
                            go_quiet (fail)
                            go_wp2_with fail
                            go_roundw
                            case rel => exact ⟨j + 1, by omega, by go_num, below_drewn HB6.out _⟩
                            case measure => simp [intOf]; omega
                        · have d2 : decide ((i : Int) < 50) = false := decide_eq_false (by omega)
                          have d2n : decide (i < 50) = false := decide_eq_false h50
                          go_wp2_with fail
                          go_roundw
                          case rel => exact ⟨i + 1, by omega, by go_num, HB6.out⟩
                          case measure => simp [intOf]; omega
                      · obtain rfl : i = j := by omega
                        go_wp2_with fail
                        go_roundw
                        case rel => exact ⟨i + 1, by omega, by go_num, HB6.out⟩
                        case measure => simp [intOf]; omega
                · go_wp2_with fail
                  go_ret
                  exact ⟨by first | rfl | simp, below_next HB4.out HB5.out⟩
      · have hbs := HBD.out.bad he
        have e1 : (Am.budErr ls most != 0) = true := by simpa using he
        subst hbs
        clear he
        generalize Am.budErr ls most = er at *
        go_wp2_with fail
        go_ret
        exact ⟨by first | rfl | simp, HB22.out⟩
end Go.Proofs.YtpcmhlbhepickaaGreat
/- AmountsBudget, ready for its row -/
namespace Go.Proofs.YtpcmhlbhepickaaGreat
open Go.RowKit Go.Lib
open Go.Proofs.YtpcmhlbhepickaaGreat.PAmountsCuts
open Go.Proofs.YtpcmhlbhepickaaGreatW.PrintWords
theorem budget_card (l : List S26) (most : Int) {A0 : Option Addr} {c0 : Nat} (w : World) (h : Kd.C k26 w A0 l.length l ∧ l.length ≤ c0 ∧ (A0 = none → c0 = 0)) (hl : l.length * 32 ≤ reachBytes) (_ : (Lit.int .i64 most).wf = true) :
    Calls Tryz.prog 4 #[.slice A0 l.length c0, .int .i64 most] w fun e w' => e = .returned (.bool true) ∧ Below w.heap.size w w' :=
  budget_walk A0 c0 l most w h.1 h.2.1 (by have : reachBytes < 2 ^ 47 := by decide
                                           omega)
end Go.Proofs.YtpcmhlbhepickaaGreat
