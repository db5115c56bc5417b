import Derived.Test.YtgkliaalfiginaaGreatDoorMonB2
/- the book's Apart -/
namespace Go.Proofs.YtgkliaalfiginaaGreatDoor
open Go.RowKit Go.Lib
set_option linter.unusedVariables false
set_option linter.unusedSimpArgs false
set_option maxHeartbeats 4000000 in
set_option maxRecDepth 100000 in
theorem apart_none (b : Nat) (w : World) (hb : ∀ k, k < 24 → k ≠ 24 → w.cell? ⟨b, k, none⟩ = some (.slice none 0 0)) : Calls Tryz.prog 7 #[.pointer (some ⟨b, 0, none⟩)] w fun e w' => e = .returned (.bool true) ∧ w = w' := by
  have HB := Lib.hid hb
  clear hb
  go_enter Tryz.func7, Tryz.ntmps7
  go_wp2_with (first
    | (go_at_call 18; refine (apart0_0 b _ (HB.out 0 (by decide) (by decide))).mono ?_; rintro e x ⟨rfl, rfl⟩)
    | (go_at_call 19; refine (apart0_1 b _ (HB.out 1 (by decide) (by decide))).mono ?_; rintro e x ⟨rfl, rfl⟩)
    | (go_at_call 20; refine (apart0_2 b _ (HB.out 2 (by decide) (by decide))).mono ?_; rintro e x ⟨rfl, rfl⟩)
    | (go_at_call 21; refine (apart0_3 b _ (HB.out 3 (by decide) (by decide))).mono ?_; rintro e x ⟨rfl, rfl⟩)
    | (go_at_call 22; refine (apart0_4 b _ (HB.out 4 (by decide) (by decide))).mono ?_; rintro e x ⟨rfl, rfl⟩)
    | (go_at_call 23; refine (apart0_5 b _ (HB.out 5 (by decide) (by decide))).mono ?_; rintro e x ⟨rfl, rfl⟩)
    | (go_at_call 24; refine (apart0_7 b _ (HB.out 7 (by decide) (by decide))).mono ?_; rintro e x ⟨rfl, rfl⟩)
    | (go_at_call 25; refine (apart0_13 b _ (HB.out 13 (by decide) (by decide))).mono ?_; rintro e x ⟨rfl, rfl⟩)
    | (go_at_call 26; refine (apart0_15 b _ (HB.out 15 (by decide) (by decide))).mono ?_; rintro e x ⟨rfl, rfl⟩)
    | (go_at_call 27; refine (apart0_16 b _ (HB.out 16 (by decide) (by decide))).mono ?_; rintro e x ⟨rfl, rfl⟩)
    | (go_at_call 28; refine (apart0_18 b _ (HB.out 18 (by decide) (by decide))).mono ?_; rintro e x ⟨rfl, rfl⟩)
    | (go_at_call 29; refine (apart0_22 b _ (HB.out 22 (by decide) (by decide))).mono ?_; rintro e x ⟨rfl, rfl⟩)
    | (go_at_call 30; refine (apart0_21 b _ (HB.out 21 (by decide) (by decide))).mono ?_; rintro e x ⟨rfl, rfl⟩)
    | (go_at_call 31; refine (apart0_10 b _ (HB.out 10 (by decide) (by decide))).mono ?_; rintro e x ⟨rfl, rfl⟩)
    | (go_at_call 32; refine (apart0_14 b _ (HB.out 14 (by decide) (by decide))).mono ?_; rintro e x ⟨rfl, rfl⟩)
    | (go_at_call 33; refine (apart0_12 b _ (HB.out 12 (by decide) (by decide))).mono ?_; rintro e x ⟨rfl, rfl⟩)
    | (go_at_call 34; refine (apart0_6 b _ (HB.out 6 (by decide) (by decide))).mono ?_; rintro e x ⟨rfl, rfl⟩)
    | (go_at_call 35; refine (apart0_8 b _ (HB.out 8 (by decide) (by decide))).mono ?_; rintro e x ⟨rfl, rfl⟩)
    | (go_at_call 36; refine (apart0_9 b _ (HB.out 9 (by decide) (by decide))).mono ?_; rintro e x ⟨rfl, rfl⟩)
    | (go_at_call 37; refine (apart0_11 b _ (HB.out 11 (by decide) (by decide))).mono ?_; rintro e x ⟨rfl, rfl⟩)
    | (go_at_call 38; refine (apart0_20 b _ (HB.out 20 (by decide) (by decide))).mono ?_; rintro e x ⟨rfl, rfl⟩)
    | (go_at_call 39; refine (apart0_17 b _ (HB.out 17 (by decide) (by decide))).mono ?_; rintro e x ⟨rfl, rfl⟩)
    | (go_at_call 40; refine (apart0_19 b _ (HB.out 19 (by decide) (by decide))).mono ?_; rintro e x ⟨rfl, rfl⟩)
    | (go_at_call 41; refine (apart0_23 b _ (HB.out 23 (by decide) (by decide))).mono ?_; rintro e x ⟨rfl, rfl⟩))
  go_ret
  exact ⟨by first | rfl | simp, rfl⟩
set_option maxHeartbeats 4000000 in
set_option maxRecDepth 100000 in
theorem apart_some (b m n R c : Nat) (G : Nat → Nat) (w : World) (hb : ∀ k, k < 24 → k ≠ 5 → w.cell? ⟨b, k, none⟩ = some (.slice none 0 0)) (hm : m ≤ 2) (h0 : 0 < m) (hn0 : 0 < n) (hn : n ≤ 4096) (hc : m ≤ c) (h5 : w.cell? ⟨b, 5, none⟩ = some (.slice (some ⟨R, 0, none⟩) m c))
    (hM : Bk.Mk w w m n R c G 0 0) (hbG : ∀ j, j < m → b ≠ G j) : Calls Tryz.prog 7 #[.pointer (some ⟨b, 0, none⟩)] w fun e w' => e = .returned (.bool true) ∧ Keep (fun x => ∃ j, j < m ∧ x = G j) w w' := by
  have HM := Lib.hid (apart_money b m n R c G w hm h0 hn0 hn hc h5 hM)
  have HB := Lib.hid hb
  have HG := Lib.hid hbG
  clear hb hM hbG h5
  go_enter Tryz.func7, Tryz.ntmps7
  go_wp2_with (first
    | (go_at_call 18; refine (apart0_0 b _ (HB.out 0 (by decide) (by decide))).mono ?_; rintro e x ⟨rfl, rfl⟩)
    | (go_at_call 19; refine (apart0_1 b _ (HB.out 1 (by decide) (by decide))).mono ?_; rintro e x ⟨rfl, rfl⟩)
    | (go_at_call 20; refine (apart0_2 b _ (HB.out 2 (by decide) (by decide))).mono ?_; rintro e x ⟨rfl, rfl⟩)
    | (go_at_call 21; refine (apart0_3 b _ (HB.out 3 (by decide) (by decide))).mono ?_; rintro e x ⟨rfl, rfl⟩)
    | (go_at_call 22; refine (apart0_4 b _ (HB.out 4 (by decide) (by decide))).mono ?_; rintro e x ⟨rfl, rfl⟩)
    | (go_at_call 23; refine HM.out.mono ?_; rintro e w2 ⟨rfl, k2⟩; have HB2 := Lib.hid (fun k (h1 : k < 24) (h2 : k ≠ 5) => k2.cell (HB.out k h1 h2) (fun ⟨j, hj, e⟩ => HG.out j hj e)); have K2 := Lib.hid k2; clear k2 HM HB HG)
    | (go_at_call 24; refine (apart0_7 b _ (HB2.out 7 (by decide) (by decide))).mono ?_; rintro e x ⟨rfl, rfl⟩)
    | (go_at_call 25; refine (apart0_13 b _ (HB2.out 13 (by decide) (by decide))).mono ?_; rintro e x ⟨rfl, rfl⟩)
    | (go_at_call 26; refine (apart0_15 b _ (HB2.out 15 (by decide) (by decide))).mono ?_; rintro e x ⟨rfl, rfl⟩)
    | (go_at_call 27; refine (apart0_16 b _ (HB2.out 16 (by decide) (by decide))).mono ?_; rintro e x ⟨rfl, rfl⟩)
    | (go_at_call 28; refine (apart0_18 b _ (HB2.out 18 (by decide) (by decide))).mono ?_; rintro e x ⟨rfl, rfl⟩)
    | (go_at_call 29; refine (apart0_22 b _ (HB2.out 22 (by decide) (by decide))).mono ?_; rintro e x ⟨rfl, rfl⟩)
    | (go_at_call 30; refine (apart0_21 b _ (HB2.out 21 (by decide) (by decide))).mono ?_; rintro e x ⟨rfl, rfl⟩)
    | (go_at_call 31; refine (apart0_10 b _ (HB2.out 10 (by decide) (by decide))).mono ?_; rintro e x ⟨rfl, rfl⟩)
    | (go_at_call 32; refine (apart0_14 b _ (HB2.out 14 (by decide) (by decide))).mono ?_; rintro e x ⟨rfl, rfl⟩)
    | (go_at_call 33; refine (apart0_12 b _ (HB2.out 12 (by decide) (by decide))).mono ?_; rintro e x ⟨rfl, rfl⟩)
    | (go_at_call 34; refine (apart0_6 b _ (HB2.out 6 (by decide) (by decide))).mono ?_; rintro e x ⟨rfl, rfl⟩)
    | (go_at_call 35; refine (apart0_8 b _ (HB2.out 8 (by decide) (by decide))).mono ?_; rintro e x ⟨rfl, rfl⟩)
    | (go_at_call 36; refine (apart0_9 b _ (HB2.out 9 (by decide) (by decide))).mono ?_; rintro e x ⟨rfl, rfl⟩)
    | (go_at_call 37; refine (apart0_11 b _ (HB2.out 11 (by decide) (by decide))).mono ?_; rintro e x ⟨rfl, rfl⟩)
    | (go_at_call 38; refine (apart0_20 b _ (HB2.out 20 (by decide) (by decide))).mono ?_; rintro e x ⟨rfl, rfl⟩)
    | (go_at_call 39; refine (apart0_17 b _ (HB2.out 17 (by decide) (by decide))).mono ?_; rintro e x ⟨rfl, rfl⟩)
    | (go_at_call 40; refine (apart0_19 b _ (HB2.out 19 (by decide) (by decide))).mono ?_; rintro e x ⟨rfl, rfl⟩)
    | (go_at_call 41; refine (apart0_23 b _ (HB2.out 23 (by decide) (by decide))).mono ?_; rintro e x ⟨rfl, rfl⟩))
  go_ret
  exact ⟨by first | rfl | simp, K2.out⟩
end Go.Proofs.YtgkliaalfiginaaGreatDoor
