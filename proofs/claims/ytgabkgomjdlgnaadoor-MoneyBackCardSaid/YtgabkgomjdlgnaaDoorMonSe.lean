import Derived.Test.YtgabkgomjdlgnaaDoorMonSd
namespace Go.Proofs.YtgabkgomjdlgnaaDoor
open Go.RowKit Go.Lib Go.Sort
set_option linter.unusedVariables false
set_option linter.unusedSimpArgs false

set_option maxHeartbeats 2000000 in
set_option maxRecDepth 100000 in
theorem stable_calls (w0 w : World) (g n c cr : Nat) (R f : Nat → Nat) (hn : n < 2305843009213693952) (hC : CmpOk w0 g n cr R) (hR : Row w0 w g n f) (hf : ∀ i, i < n → f i < n) (hn0 : 0 < n) (st : St.Stb R f 0 n) :
    Calls Tryd.prog 64 #[.slice (some ⟨g, 0, none⟩) n c, .int .i64 n, .func (.func 45) #[] #[.pointer (some ⟨cr, 0, none⟩)]] w (Merged w0 g n R f 0 n) := by
  have hn' : n < 4611686018427387904 := by omega
  have HR := Lib.hid hR
  have HF := Lib.hid hf
  have HP := Lib.hid (St.Ph1.start (bs := 20) st)
  have HI := Lib.hid (fun w f' a b hR (hb : ∀ i, i < n → f' i < n) hab hbn st => insertion_calls w0 w g n c cr a b R f' hn' hC hR hb hab hbn hn0 st)
  have HM := Lib.hid (merge_calls w0 g n c cr R hn' hC n)
  clear hR hC hf st
  go_enter Tryd.func64, Tryd.ntmps64
  go_wp2
  go_loopw [7, 8] (fun v u wr => ∃ (a t : Nat) (f' : Nat → Nat), a ≤ n ∧ v = .int .i64 a ∧ u = .int .i64 ((a : Int) + 20) ∧ Hid (a = t * 20) ∧ Row w0 wr g n f' ∧ St.Ph1 R f f' n 20 t) (fun v _ _ => n - (intOf v).toNat)
  case atStart => exact ⟨0, 0, f, by omega, rfl, rfl, rfl, HR.out, HP.out⟩
  case round =>
    clear HR HP
    obtain ⟨a, t, f', ha, rfl, rfl, HT, hr, hp⟩ := hrel
    have HR1 := Lib.hid hr
    have HP1 := Lib.hid hp
    have HB1 := Lib.hid (St.Sub.bnd hp.sub (Nat.le_refl n) HF.out)
    clear hr hp
    by_cases hlt : a + 20 ≤ n
    · have z1 : (a : Int) + 20 ≤ n := by omega
      have q1 : IntKind.i64.wrap ((a : Int) + 20) = (a : Int) + 20 := IntWalk.i64_in _ (by omega)
      have q2 : IntKind.i64.wrap ((a : Int) + 20 + 20) = (a : Int) + 20 + 20 := IntWalk.i64_in _ (by omega)
      have hc := HI.out wr f' a (a + 20) HR1.out HB1.out (by omega) hlt (HP1.out.stb.mono (Nat.zero_le _) hlt)
      rw [show ((a + 20 : Nat) : Int) = (a : Int) + 20 by omega] at hc
      have HC := Lib.hid hc
      clear hc
      go_wp2_with (first | (go_at_call 81; refine HC.out.mono ?_; rintro e w1 ⟨rfl, f2, r2, s2, u2⟩; have HR2 := Lib.hid (And.intro r2 (And.intro s2 u2)); clear r2 s2 u2))
      go_roundw
      case rel => exact ⟨a + 20, t + 1, f2, hlt, by go_num, by go_num, (by have := HT.out; show a + 20 = (t + 1) * 20; omega), HR2.out.1, HP1.out.step (by rw [← HT.out]; exact HR2.out.2.2) (by rw [← HT.out]; exact HR2.out.2.1) (by rw [← HT.out]; exact hlt)⟩
      case measure => simp [intOf]; omega
    · have z1 : ¬ ((a : Int) + 20 ≤ n) := by omega
      have HC := Lib.hid (HI.out wr f' a n HR1.out HB1.out ha (Nat.le_refl n) (HP1.out.stb.mono (Nat.zero_le _) (Nat.le_refl n)))
      go_wp2_with (first | (go_at_call 81; refine HC.out.mono ?_; rintro e w1 ⟨rfl, f2, r2, s2, u2⟩; have HR2 := Lib.hid (And.intro r2 (And.intro s2 u2)); clear r2 s2 u2))
      have HE := Lib.hid (HP1.out.fin (by rw [← HT.out]; exact HR2.out.2.2) (by rw [← HT.out]; exact HR2.out.2.1) (by rw [← HT.out]; omega))
      have HR3 := Lib.hid HR2.out.1
      clear HC HR1 HP1 HB1 HT HI HR2 z1 hlt
      go_loopw [6] (fun v wr2 => ∃ (bs : Nat) (f' : Nat → Nat), 0 < bs ∧ v = .int .i64 bs ∧ Row w0 wr2 g n f' ∧ St.Kp R f f' n ∧ St.Bl R f' bs n) (fun v _ => n - (intOf v).toNat)
      case atStart => exact ⟨20, f2, by omega, rfl, HR3.out, HE.out.1, HE.out.2⟩
      case round =>
        clear HE HR3
        obtain ⟨bs, f3, hbs, rfl, hr, hk, hb⟩ := hrel
        obtain ⟨wo, rfl⟩ : ∃ wo : World, wo = wr := ⟨_, rfl⟩
        have HR4 := Lib.hid hr
        have HP4 := Lib.hid (St.Ph2.start hk hb)
        have HE4 := Lib.hid (And.intro hk hb)
        clear hr hk hb
        by_cases hlt : bs < n
        · have z1 : (bs : Int) < n := by omega
          have q1 : IntKind.i64.wrap (2 * (bs : Int)) = 2 * (bs : Int) := IntWalk.i64_in _ (by omega)
          have q2 : IntKind.i64.wrap ((bs : Int) * 2) = (bs : Int) * 2 := IntWalk.i64_in _ (by omega)
          have z9 : (0 : Int) < bs := by omega
          go_wp2
          go_loopw [7, 8] (fun v u wr3 => ∃ (a t : Nat) (f' : Nat → Nat), a ≤ n ∧ v = .int .i64 a ∧ u = .int .i64 ((a : Int) + 2 * (bs : Int)) ∧ Hid (a = t * (2 * bs)) ∧ Row w0 wr3 g n f' ∧ St.Ph2 R f f' n bs t) (fun v _ _ => n - (intOf v).toNat)
          case atStart => exact ⟨0, 0, f3, by omega, rfl, by go_num, (by show 0 = 0 * (2 * bs); rw [Nat.zero_mul]), HR4.out, HP4.out⟩
          case round =>
            clear HR4 HP4 HE4
            obtain ⟨a, t, f', ha, rfl, rfl, HT, hr, hp⟩ := hrel
            have HR1 := Lib.hid hr
            have HP1 := Lib.hid hp
            have HB1 := Lib.hid (St.Sub.bnd hp.sub (Nat.le_refl n) HF.out)
            clear hr hp
            have q3 : IntKind.i64.wrap ((a : Int) + bs) = (a : Int) + bs := IntWalk.i64_in _ (by omega)
            by_cases hl2 : a + 2 * bs ≤ n
            · have z2 : (a : Int) + 2 * (bs : Int) ≤ n := by omega
              have q4 : IntKind.i64.wrap ((a : Int) + 2 * (bs : Int) + 2 * (bs : Int)) = (a : Int) + 2 * (bs : Int) + 2 * (bs : Int) := IntWalk.i64_in _ (by omega)
              obtain ⟨p1, p2, p3⟩ := HP1.out.parts a (a + 2 * bs) HT.out (by omega) (by omega) hl2
              have hc := HM.out a (a + bs) (a + 2 * bs) f' wr (by omega) HR1.out HB1.out (by omega) (by omega) hl2 p1 p2 p3
              rw [show ((a + 2 * bs : Nat) : Int) = (a : Int) + 2 * (bs : Int) by omega, show ((a + bs : Nat) : Int) = (a : Int) + (bs : Int) by omega] at hc
              have HC := Lib.hid hc
              clear hc p1 p2 p3
              go_wp2_with (first | (go_at_call 82; refine HC.out.mono ?_; rintro e w1 ⟨rfl, f2, r2, s2, u2⟩; have HR2 := Lib.hid (And.intro r2 (And.intro s2 u2)); clear r2 s2 u2))
              go_roundw
              case rel => exact ⟨a + 2 * bs, t + 1, f2, hl2, by go_num, by go_num, (by have h9 : (t + 1) * (2 * bs) = t * (2 * bs) + 2 * bs := Nat.succ_mul _ _; show a + 2 * bs = (t + 1) * (2 * bs); rw [h9, ← HT.out]), HR2.out.1, HP1.out.step a HT.out HR2.out.2.2 HR2.out.2.1 hl2⟩
              case measure => simp [intOf]; omega
            · have z2 : ¬ ((a : Int) + 2 * (bs : Int) ≤ n) := by omega
              by_cases hl3 : a + bs < n
              · have z3 : (a : Int) + (bs : Int) < n := by omega
                obtain ⟨p1, p2, p3⟩ := HP1.out.parts a n HT.out (by omega) (by omega) (Nat.le_refl n)
                have hc := HM.out a (a + bs) n f' wr (by omega) HR1.out HB1.out (by omega) hl3 (Nat.le_refl n) p1 p2 p3
                rw [show ((a + bs : Nat) : Int) = (a : Int) + (bs : Int) by omega] at hc
                have HC := Lib.hid hc
                clear hc p1 p2 p3
                go_wp2_with (first | (go_at_call 82; refine HC.out.mono ?_; rintro e w1 ⟨rfl, f2, r2, s2, u2⟩; have HR2 := Lib.hid (And.intro r2 (And.intro s2 u2)); clear r2 s2 u2))
                go_roundw
                case rel =>
                  have HE := HP1.out.fin a HT.out HR2.out.2.2 HR2.out.2.1 (by omega)
                  exact ⟨2 * bs, f2, by omega, by go_num, HR2.out.1, HE.1, HE.2⟩
                case measure => simp [intOf]; omega
              · have z3 : ¬ ((a : Int) + (bs : Int) < n) := by omega
                go_wp2
                go_roundw
                case rel =>
                  have HE := HP1.out.fin0 a HT.out hbs (by omega)
                  exact ⟨2 * bs, f', by omega, by go_num, HR1.out, HE.1, HE.2⟩
                case measure => simp [intOf]; omega
        · have z1 : ¬ ((bs : Int) < n) := by omega
          go_wp2
          go_end0
          exact ⟨rfl, f3, HR4.out, HE4.out.2.all (by omega), HE4.out.1.sub⟩
set_option maxRecDepth 100000 in
theorem sortStable_calls (w0 w : World) (g n c cr : Nat) (R f : Nat → Nat) (hn : n < 2305843009213693952) (hC : CmpOk w0 g n cr R) (hR : Row w0 w g n f) (hf : ∀ i, i < n → f i < n) (hn0 : 0 < n) (st : St.Stb R f 0 n) :
    Calls Tryd.prog 44 #[.slice (some ⟨g, 0, none⟩) n c, .func (.func 45) #[] #[.pointer (some ⟨cr, 0, none⟩)]] w (Merged w0 g n R f 0 n) := by
  have HC := Lib.hid (stable_calls w0 w g n c cr R f hn hC hR hf hn0 st)
  clear hC hR hf st
  go_enter Tryd.func44, Tryd.ntmps44
  go_wp2_with (first | (go_at_call 64; refine HC.out.mono ?_; rintro e w1 ⟨rfl, f2, r2, s2, u2⟩; have HR2 := Lib.hid (And.intro r2 (And.intro s2 u2)); clear r2 s2 u2))
  go_end0
  exact ⟨rfl, f2, HR2.out.1, HR2.out.2.1, HR2.out.2.2⟩
end Go.Proofs.YtgabkgomjdlgnaaDoor
