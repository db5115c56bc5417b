import Derived.Test.YtpcmhlbhepickaaGreatAmtCa
/- the walk of AmountsCuts -/
namespace Go.Proofs.YtpcmhlbhepickaaGreat
open Go.RowKit Go.Lib
open Go.Proofs.YtpcmhlbhepickaaGreat.PAmountsCuts
open Go.Proofs.YtpcmhlbhepickaaGreatW.PrintWords
set_option linter.unusedVariables false
set_option linter.unusedSimpArgs false
theorem Am.bud_len {ls : List S27} {most : Int} {bs : List S27} (h : Am.Bud ls most bs) : bs.length ≤ ls.length := by
  by_cases he : Am.budErr ls most = 0
  · exact Nat.le_of_eq (Am.law_of h he).len
  · rw [h.bad he]; exact Nat.zero_le _
set_option maxHeartbeats 8000000 in
set_option maxRecDepth 100000 in
theorem cuts_walk (A0 : Option Addr) (c0 : Nat) (l : List S26) (most : Int) (w : World) (hC : Kd.C k26 w A0 l.length l) (hc0 : l.length ≤ c0) (hl : l.length ≤ 1048576) :
    Calls Tryz.prog 3 #[.slice A0 l.length c0, .int .i64 most] w fun e w' => e = .returned (.bool true) ∧ Below w.heap.size w w' := by
  have HL6 := Lib.hid (fun wr (b : Below w.heap.size w wr) j (hj : j < l.length) => Am.line6_of (Kd.C_below hC b) j hj)
  have HCR := Lib.hid (And.intro hC hc0)
  obtain ⟨i0, z0, hinfo, hz0, hz1, hz2, hz3⟩ := info_line
  clear hC
  go_enter Tryz.func3, Tryz.ntmps3
  go_upto_region 3 with (fail)
  go_loopw [5, 6] (fun v u wr => ∃ k : Nat, k ≤ l.length ∧ u = .int .i64 k ∧ wr.ownsRow w.heap.size 27 4 v k (Am.lcs ((Am.cvs l).take k)) ∧ Below w.heap.size w wr) (fun _ u _ => l.length - (intOf u).toNat)
  case atStart => exact ⟨0, Nat.zero_le _, rfl, ⟨rfl, .inl ⟨rfl, rfl⟩⟩, Below.refl _ _⟩
  case round =>
    obtain ⟨k, hk, rfl, hown, hb⟩ := hrel
    have HOW := Lib.hid hown
    have HB := Lib.hid hb
    clear hown hb
    by_cases hlt : k < l.length
    · have z1 : (k : Int) < (l.length : Int) := by omega
      have z2 : (0 : Int) ≤ k := by omega
      obtain ⟨a, rfl, l0, l1, l2, l3⟩ := HL6.out wr HB.out k hlt
      have hpa := Am.cvs_take l k hlt
      obtain ⟨x, hx⟩ : ∃ x, l.getD k z26 = x := ⟨_, rfl⟩
      rw [hx] at l0 l1 l2 l3 hpa
      have HPA := Lib.hid hpa
      clear hx hpa
      have hbl : (a.add (k * 4)).block < w.heap.size := by
        obtain ⟨a', ha', m0, _⟩ := HL6.out w (Below.refl _ _) k hlt
        obtain rfl := Option.some.inj ha'
        exact World.block_lt_of_cell? w _ m0
      have hne : some (a.add (k * 4)).block ≠ u5.ownBlock := fun e => by have h1 := (HOW.out.lt _ e.symm).1; omega
      have hal : (a.add (k * 4)).block < wr.heap.size := Nat.lt_of_lt_of_le hbl HB.out.size
      have hsz : w.heap.size ≤ wr.heap.size := HB.out.size
      have HKP := Lib.hid (show ∀ w3, (wr.alloc (Obj.cells #[.int .i64 x.f0, .int .i64 x.f1, .int .i64 x.f2, .int .i64 x.f3] 27)).drew.grownBy w3 u5.ownBlock → Am.Line6 w3 a k x from fun w3 hg => by
        have e : ∀ i, w3.cell? ⟨(a.add (k * 4)).block, i, none⟩ = wr.cell? ⟨(a.add (k * 4)).block, i, none⟩ := fun i =>
          (hg.cell_far ⟨(a.add (k * 4)).block, i, none⟩ (show (a.add (k * 4)).block < (wr.heap.push _).size by rw [Array.size_push]; omega) hne).trans ((((Below.refl _ wr).alloc (Nat.le_refl _) _).drew).cell (p := ⟨(a.add (k * 4)).block, i, none⟩) hal)
        have e0 : w3.cell? (a.add (k * 4)) = wr.cell? (a.add (k * 4)) :=
          (hg.cell_far (a.add (k * 4)) (show (a.add (k * 4)).block < (wr.heap.push _).size by rw [Array.size_push]; omega) hne).trans ((((Below.refl _ wr).alloc (Nat.le_refl _) _).drew).cell (p := a.add (k * 4)) hal)
        exact ⟨e0.trans l0, (e _).trans l1, (e _).trans l2, (e _).trans l3⟩)
      unfold Am.Line6 at HKP
      go_upto_region 5 with (fail)
      go_region_held_law (fun w' => w'.cell? (a.add (k * 4)) = some (.int .i64 x.f0) ∧ w'.cell? ⟨(a.add (k * 4)).block, (a.add (k * 4)).off + 1, none⟩ = some (.int .i64 x.f1) ∧ w'.cell? ⟨(a.add (k * 4)).block, (a.add (k * 4)).off + 2, none⟩ = some (.int .i64 x.f2) ∧ w'.cell? ⟨(a.add (k * 4)).block, (a.add (k * 4)).off + 3, none⟩ = some (.int .i64 x.f3))
        (first | go_keep | exact HKP.out _ hgrow)
        ((refine step_append_lies _ (by rfl) _ _ _ (by rfl) w.heap.size 27 i0 z0 4 32 Tryz.underlying24 hinfo hz0 hz1 hz2 hz3 (by decide) u5 k (Am.lcs ((Am.cvs l).take k)) (by rfl) ((HOW.out.alloc _).drew) ⟨wr.heap.size, 0, none⟩ 1 1 (Am.lc (Am.cv x)) (by rfl) (by rfl) (World.news_of_block (cs := #[.int .i64 x.f0, .int .i64 x.f1, .int .i64 x.f2, .int .i64 x.f3]) (t := 27) (fr := (0, 0)) (heap_alloc_new wr _)) (by simp [Am.lc, Value.oneCell']) (by decide) (by unfold maxLen; omega) (by omega) (by simp; omega) (wr.heap.size + 1) (by simp) ?_; intro gg cap w3 hown3 hgrow hat hlt3))
      have HO3 := Lib.hid (show World.ownsRow w3 w.heap.size 27 4 (.slice (some ⟨gg, 0, none⟩) (k + 1) cap) (k + 1) (Am.lcs ((Am.cvs l).take (k + 1))) by rw [← HPA.out]; exact hown3)
      have hs1 : (wr.alloc (.cells #[.int .i64 x.f0, .int .i64 x.f1, .int .i64 x.f2, .int .i64 x.f3] 27)).drew.heap.size = wr.heap.size + 1 := by simp
      have HB3 := Lib.hid (show Below w.heap.size w w3 from ((HB.out.alloc hsz _).drew).grown hgrow (by omega) (fun q hq => (HOW.out.lt q hq).1))
      clear hown3 hgrow hat hlt3 hs1 hne hal hbl hsz
      go_wp2_with fail
      go_roundw
      case rel => exact ⟨k + 1, by omega, by go_num, HO3.out, HB3.out⟩
      case measure => simp [intOf]; omega
    · obtain rfl : l.length = k := by omega
      have hln : (Am.cvs l).length = l.length := Am.cvs_len l
      have hown : wr.ownsRow w.heap.size 27 4 u5 (Am.cvs l).length (Am.lcs (Am.cvs l)) := by
        have h := HOW.out
        rw [List.take_of_length_le (by rw [Am.cvs_len]; omega)] at h
        rw [hln]
        exact h
      obtain ⟨A, c, rfl, hc, hA, hK⟩ := Am.own_kd hown (by omega)
      have hbud0 := fun w' (b : Below wr.heap.size wr w') => bud_calls A c (Am.cvs l) most w' (Kd.C_below hK b) hc hA
      have hso := fun w' (b : Below wr.heap.size wr w') => asum_calls A c (Am.cvs l) w' (Kd.C_below hK b) hc (by omega)
      obtain ⟨s, hs⟩ : ∃ s, (Mo.sumE (Am.paids (Am.cvs l))).1 = s := ⟨_, rfl⟩
      obtain ⟨er, her⟩ : ∃ er, (Mo.sumE (Am.paids (Am.cvs l))).2 = er := ⟨_, rfl⟩
      have hse : Mo.sumE (Am.paids (Am.cvs l)) = (s, er) := Prod.ext hs her
      have hrs := fun w' (b : Below wr.heap.size wr w') => lexpriorref24_Sum.calls (l.length + 1) A0 c0 l s er w' (Kd.C_below (Kd.C_below HCR.out.1 HB.out) b) HCR.out.2 ((Am.rsum24_f l hl).trans (by rw [hse]))
      have hsm := fun w' (b : Below wr.heap.size wr w') => lexpriorlaw24_sameLines.calls (l.length + 1) A c (Am.cvs l) A0 c0 l true w' (Kd.C_below hK b) hc (Kd.C_below (Kd.C_below HCR.out.1 HB.out) b) HCR.out.2 (Am.same_f l hl)
      rw [hln] at hbud0 hso hsm
      rw [hs, her] at hso
      have HBu := Lib.hid hbud0
      have HSo := Lib.hid hso
      have HRs := Lib.hid hrs
      have HSm := Lib.hid hsm
      have HK := Lib.hid hK
      rw [hln]
      clear hbud0 hso hrs hsm hown hK hc hA HOW HL6 hlt hln hinfo hz0 hz1 hz2 hz3 hs her hse
      go_upto_region 9 with (first
        | (go_at_call 5; refine (HSo.out _ (Below.refl _ _)).mono ?_; rintro e W1 ⟨rfl, hb⟩; have HW1 := Lib.hid hb; clear hb)
        | (go_at_call 6; refine (HRs.out _ HW1.out).mono ?_; rintro e W2 ⟨rfl, hb⟩; have HW2 := Lib.hid (below_next HW1.out hb); clear hb)
        | (go_at_call 7; refine (HBu.out _ HW2.out).mono ?_; rintro e W3 ⟨hb, Ab, cb, bs, rfl, hKb, hcb, hbud⟩; have HW3 := Lib.hid (below_next HW2.out hb); have HKB := Lib.hid (And.intro hKb hcb); have HBD := Lib.hid hbud; clear hb hKb hcb hbud))
      obtain ⟨kb, r1, hrb, hr1⟩ := Am.rbud l most bs HBD.out
      obtain ⟨eb, heb⟩ : ∃ eb, Am.budErr (Am.cvs l) most = eb := ⟨_, rfl⟩
      rw [heb] at hrb ⊢
      have HRb := Lib.hid (lexpriorref24_Budget.calls kb A0 c0 l most r1 eb W3 (Kd.C_below (Kd.C_below HCR.out.1 HB.out) HW3.out) HCR.out.2 hrb)
      have HRL := Lib.hid (show r1.length ≤ 1048576 from by
        have h1 := Am.bud_len HBD.out
        rw [← hr1, Am.cvs_len, Am.cvs_len] at h1
        omega)
      clear hrb heb HSo HRs HBu HBD
      go_upto_region 10 with (first | (go_at_call 8; refine HRb.out.mono ?_; rintro e W4 ⟨v0, rfl, hR, hb⟩; have HW4 := Lib.hid (below_next HW3.out hb); have HX4 := Lib.hid hb; have HR := Lib.hid hR; clear hb hR))
      obtain ⟨A1, c1, rfl, hc1, hC1⟩ := Kd.R_reads HR.out
      have hsm2 := lexpriorlaw24_sameLines.calls (r1.length + 1) Ab cb bs A1 c1 r1 true W4 (Kd.C_below HKB.out.1 HX4.out) HKB.out.2 hC1 hc1 (by rw [← hr1]; exact Am.same_f r1 HRL.out)
      have HSm2 := Lib.hid hsm2
      have HB4 := Lib.hid (below_next HB.out HW4.out)
      clear hsm2 hc1 hC1 HR HRb
      go_wp2_with (first
        | (go_at_call 9; refine (num24_calls _ _).mono ?_; rintro e W9 ⟨rfl, rfl⟩)
        | (go_at_call 10; with_reducible refine HSm2.out.mono ?_; rintro e W5 ⟨rfl, hd⟩; have HW5 := Lib.hid (below_next HW4.out hd.below); have HB5 := Lib.hid (below_next HB4.out hd.below); clear hd HSm2)
        | (go_at_call 10; refine (HSm.out _ HW5.out).mono ?_; rintro e W6 ⟨rfl, hd⟩; have HB6 := Lib.hid (below_next HB5.out hd.below); clear hd)
        | (go_at_call 11; refine (works_calls _).mono ?_; rintro e W7 ⟨rfl, hb⟩; have HB7 := Lib.hid (below_next HB6.out hb); clear hb))
      go_ret
      exact ⟨by first | rfl | simp, HB7.out⟩
end Go.Proofs.YtpcmhlbhepickaaGreat
