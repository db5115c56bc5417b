import Derived.Test.YtgkliaalfiginaaGreatDoorMonSc
import Derived.Test.YtgkliaalfiginaaGreatDoorMonQ5
import Derived.Test.YtgkliaalfiginaaGreatDoorShelf
namespace Go.Proofs.YtgkliaalfiginaaGreatDoor
open Go.RowKit Go.Lib Go.Sort
set_option linter.unusedVariables false
set_option linter.unusedSimpArgs false

theorem merge_calls (w0 : World) (g n c cr : Nat) (R : Nat → Nat) (hn : n < 4611686018427387904) (hC : CmpOk w0 g n cr R) : ∀ k, MergeOk w0 g n c cr R k := by
  intro k
  induction k with
  | zero => intro a m b f w hk _ _ h1 h2; omega
  | succ k ih =>
    intro a m b f w hk hR hf h1 h2 h3 s1 s2 st
    by_cases c1 : m = a + 1
    · subst c1
      have h := merge_left w0 g n c cr a b R f w hn hR hC hf h2 h3 s2 st
      rwa [show ((a : Int) + 1) = ((a + 1 : Nat) : Int) by omega] at h
    · by_cases c2 : b = m + 1
      · subst c2
        have h := merge_right w0 g n c cr a m R f w hn hR hC hf (by omega) h3 s1 st
        rwa [show ((m : Int) + 1) = ((m + 1 : Nat) : Int) by omega] at h
      · exact merge_main w0 g n c cr a m b k R f w hn hR hC hf (by omega) (by omega) h3 s1 s2 st hk ih

/-! ### the shelf's insertion sort, of such a row -/
def encF (n : Nat) : Fin n → Value := fun x => .int .i64 (x.val : Int)
theorem keep_putRow {α : Type} [Inhabited α] (enc : α → Value) (w : World) (g : Nat) (d : Array α) : Keep (fun i => i = g) w (putRow enc w g 0 d) := by
  refine ⟨rfl, rfl, rfl, by simp, fun i hi hne => ?_⟩
  show (w.heap.modify g _)[i]? = _
  rw [Array.getElem?_modify, if_neg (fun e => hne e.symm)]
theorem keep_sortWorld {α : Type} [Inhabited α] (enc : α → Value) (w : World) (g m : Nat) (d : Array α) (os : Array Obj) : Keep (fun i => i = g) w (sortWorld enc w g 0 m d os) := by
  refine (keep_putRow enc w g d).trans (w2 := sortWorld enc w g 0 m d os) (G := fun i => i = g) ?_ (fun _ _ h => h)
  refine ⟨rfl, rfl, rfl, ?_, fun i hi hne => ?_⟩
  · show _ ≤ (grow (putRow enc (Go.Sort.ahead w m) g 0 d) os).heap.size
    rw [size_grow, size_putRow, size_putRow]
    exact Nat.le_add_right _ _
  · rw [size_putRow] at hi
    show (grow (putRow enc (Go.Sort.ahead w m) g 0 d) os).heap[i]? = _
    rw [heap_grow_old _ _ (by rw [size_putRow]; exact hi)]
    rfl
set_option maxRecDepth 100000 in
theorem insertion_calls (w0 w : World) (g n c cr a b : Nat) (R f : Nat → Nat) (hn : n < 4611686018427387904) (hC : CmpOk w0 g n cr R) (hR : Row w0 w g n f) (hf : ∀ i, i < n → f i < n) (hab : a ≤ b) (hb : b ≤ n) (hn0 : 0 < n) (st : St.Stb R f a b) :
    Calls Tryz.prog 89 #[.slice (some ⟨g, 0, none⟩) n c, .int .i64 a, .int .i64 b, .func (.func 16) #[] #[.pointer (some ⟨cr, 0, none⟩)]] w (Merged w0 g n R f a b) := by
  haveI : Inhabited (Fin n) := ⟨⟨0, hn0⟩⟩
  let d : Array (Fin n) := Array.ofFn (fun i : Fin n => (⟨f i.val, hf i.val i.isLt⟩ : Fin n))
  have hd : d.size = n := by simp [d]
  have hget : ∀ i, i < n → (d[i]!).val = f i := fun i hi => by
    rw [getElem!_pos d i (by rw [hd]; exact hi)]
    simp [d]
  have hH : Holds (encF n) w g 0 d := fun j hj => by
    rw [hd] at hj
    rw [Nat.zero_add]
    refine ⟨?_, hR.free j hj⟩
    rw [hR.cell j hj]
    unfold encF
    rw [hget j hj]
  have hcmp : CmpReads Tryz.prog 16 #[.pointer (some ⟨cr, 0, none⟩)] (encF n) (fun x y => St.sg (R y.val) (R x.val)) g 0 d.size w := by
    intro m os dk hdk x y
    exact hC _ x.val y.val x.isLt y.isLt (hR.keep.trans (keep_sortWorld (encF n) w g m dk os) (fun _ _ h => h))
  have h := Tryz.insertionSortCmpFunc_one (encF n) (fun _ => rfl) (fun x y => St.sg (R y.val) (R x.val)) 16 #[.pointer (some ⟨cr, 0, none⟩)] g 0 c a b d w
    (Go.Proofs.enters_of (f := 16) Tryz.func16 (by kernel_rfl) rfl) hcmp hH hab (by rw [hd]; exact hb) (by rw [hd]; exact hn)
  rw [hd] at h
  refine h.mono fun e w' ⟨he, q, hw⟩ => ?_
  have hfn : ∀ i, i < n → St.fn (fun x : Fin n => x.val) d i = f i := hget
  obtain ⟨z1, z2, z3⟩ := St.ins (fun x : Fin n => x.val) R (ltOf fun x y : Fin n => St.sg (R y.val) (R x.val)) (fun x y => by
    unfold ltOf
    rw [St.sg_neg]
    by_cases hk : R y.val < R x.val
    · rw [decide_eq_true hk, decide_eq_true (by omega)]
    · rw [decide_eq_false hk, decide_eq_false (by omega)]) a b d (by rw [hd]; exact hb) (fun i j k1 k2 k3 hk => by
      rw [hfn i (by omega), hfn j (by omega)] at hk ⊢
      exact st i j k1 k2 k3 hk)
  generalize Sort.insertionSort (ltOf fun x y : Fin n => St.sg (R y.val) (R x.val)) d a b = d' at *
  have hd' : d'.size = n := z1.trans hd
  have hH' := holds_putRow (encF n) w g 0 d d' hH z1
  refine ⟨he, fun i => if i < n then (d'[i]!).val else f i, ?_, ?_, ?_⟩
  · subst hw
    refine Row.drewN ⟨hR.keep.trans (keep_putRow (encF n) w g d') (fun _ _ h => h), fun i hi => ?_, fun i hi => ?_⟩ q
    · have := (hH' i (by rw [hd']; exact hi)).1
      rw [Nat.zero_add] at this
      rw [this, if_pos hi]
      rfl
    · have := (hH' i (by rw [hd']; exact hi)).2
      rwa [Nat.zero_add] at this
  · exact z2.congr (fun i i1 i2 => if_pos (by omega))
  · refine ⟨fun i i1 i2 => ?_, fun i hi => ?_⟩
    · obtain ⟨j, j1, j2, ej⟩ := z3.sub i i1 i2
      refine ⟨j, j1, j2, ?_⟩
      simp only [if_pos (show i < n by omega)]
      exact ej.trans (hfn j (by omega))
    · by_cases hin : i < n
      · simp only [if_pos hin]
        exact (z3.off i hi).trans (hfn i hin)
      · simp only [if_neg hin]
end Go.Proofs.YtgkliaalfiginaaGreatDoor
namespace Go.Proofs.YtgkliaalfiginaaGreatDoor
open Go.RowKit Go.Lib Go.Sort
set_option linter.unusedVariables false
set_option linter.unusedSimpArgs false

set_option maxHeartbeats 2000000 in
set_option maxRecDepth 100000 in
theorem stable_calls (w0 w : World) (g n c cr : Nat) (R f : Nat → Nat) (hn : n < 2305843009213693952) (hC : CmpOk w0 g n cr R) (hR : Row w0 w g n f) (hf : ∀ i, i < n → f i < n) (hn0 : 0 < n) (st : St.Stb R f 0 n) :
    Calls Tryz.prog 50 #[.slice (some ⟨g, 0, none⟩) n c, .int .i64 n, .func (.func 16) #[] #[.pointer (some ⟨cr, 0, none⟩)]] w (Merged w0 g n R f 0 n) := by
  have hn' : n < 4611686018427387904 := by omega
  have HR := Lib.hid hR
  have HF := Lib.hid hf
  have HP := Lib.hid (St.Ph1.start (bs := 20) st)
  have HI := Lib.hid (fun w f' a b hR (hb : ∀ i, i < n → f' i < n) hab hbn st => insertion_calls w0 w g n c cr a b R f' hn' hC hR hb hab hbn hn0 st)
  have HM := Lib.hid (merge_calls w0 g n c cr R hn' hC n)
  clear hR hC hf st
  go_enter Tryz.func50, Tryz.ntmps50
  go_wp2
  go_loopw [7, 8] (fun v u wr => ∃ (a t : Nat) (f' : Nat → Nat), a ≤ n ∧ v = .int .i64 a ∧ u = .int .i64 ((a : Int) + 20) ∧ Hid (a = t * 20) ∧ Row w0 wr g n f' ∧ St.Ph1 R f f' n 20 t) (fun v _ _ => n - (intOf v).toNat)
  case atStart => exact ⟨0, 0, f, by omega, rfl, rfl, rfl, HR.out, HP.out⟩
  case round =>
    clear HR HP
    obtain ⟨a, t, f', ha, rfl, rfl, HT, hr, hp⟩ := hrel
    have HR1 := Lib.hid hr
    have HP1 := Lib.hid hp
    have HB1 := Lib.hid (St.Sub.bnd hp.sub (Nat.le_refl n) HF.out)
    clear hr hp
    by_cases hlt : a + 20 ≤ n
    · have z1 : (a : Int) + 20 ≤ n := by omega
      have q1 : IntKind.i64.wrap ((a : Int) + 20) = (a : Int) + 20 := IntWalk.i64_in _ (by omega)
      have q2 : IntKind.i64.wrap ((a : Int) + 20 + 20) = (a : Int) + 20 + 20 := IntWalk.i64_in _ (by omega)
      have hc := HI.out wr f' a (a + 20) HR1.out HB1.out (by omega) hlt (HP1.out.stb.mono (Nat.zero_le _) hlt)
      rw [show ((a + 20 : Nat) : Int) = (a : Int) + 20 by omega] at hc
      have HC := Lib.hid hc
      clear hc
      go_wp2_with (first | (go_at_call 89; refine HC.out.mono ?_; rintro e w1 ⟨rfl, f2, r2, s2, u2⟩; have HR2 := Lib.hid (And.intro r2 (And.intro s2 u2)); clear r2 s2 u2))
      go_roundw
      case rel => exact ⟨a + 20, t + 1, f2, hlt, by go_num, by go_num, (by have := HT.out; show a + 20 = (t + 1) * 20; omega), HR2.out.1, HP1.out.step (by rw [← HT.out]; exact HR2.out.2.2) (by rw [← HT.out]; exact HR2.out.2.1) (by rw [← HT.out]; exact hlt)⟩
      case measure => simp [intOf]; omega
    · have z1 : ¬ ((a : Int) + 20 ≤ n) := by omega
      have HC := Lib.hid (HI.out wr f' a n HR1.out HB1.out ha (Nat.le_refl n) (HP1.out.stb.mono (Nat.zero_le _) (Nat.le_refl n)))
      go_wp2_with (first | (go_at_call 89; refine HC.out.mono ?_; rintro e w1 ⟨rfl, f2, r2, s2, u2⟩; have HR2 := Lib.hid (And.intro r2 (And.intro s2 u2)); clear r2 s2 u2))
      have HE := Lib.hid (HP1.out.fin (by rw [← HT.out]; exact HR2.out.2.2) (by rw [← HT.out]; exact HR2.out.2.1) (by rw [← HT.out]; omega))
      have HR3 := Lib.hid HR2.out.1
      clear HC HR1 HP1 HB1 HT HI HR2 z1 hlt
      go_loopw [6] (fun v wr2 => ∃ (bs : Nat) (f' : Nat → Nat), 0 < bs ∧ v = .int .i64 bs ∧ Row w0 wr2 g n f' ∧ St.Kp R f f' n ∧ St.Bl R f' bs n) (fun v _ => n - (intOf v).toNat)
      case atStart => exact ⟨20, f2, by omega, rfl, HR3.out, HE.out.1, HE.out.2⟩
      case round =>
        clear HE HR3
        obtain ⟨bs, f3, hbs, rfl, hr, hk, hb⟩ := hrel
        obtain ⟨wo, rfl⟩ : ∃ wo : World, wo = wr := ⟨_, rfl⟩
        have HR4 := Lib.hid hr
        have HP4 := Lib.hid (St.Ph2.start hk hb)
        have HE4 := Lib.hid (And.intro hk hb)
        clear hr hk hb
        by_cases hlt : bs < n
        · have z1 : (bs : Int) < n := by omega
          have q1 : IntKind.i64.wrap (2 * (bs : Int)) = 2 * (bs : Int) := IntWalk.i64_in _ (by omega)
          have q2 : IntKind.i64.wrap ((bs : Int) * 2) = (bs : Int) * 2 := IntWalk.i64_in _ (by omega)
          have z9 : (0 : Int) < bs := by omega
          go_wp2
          go_loopw [7, 8] (fun v u wr3 => ∃ (a t : Nat) (f' : Nat → Nat), a ≤ n ∧ v = .int .i64 a ∧ u = .int .i64 ((a : Int) + 2 * (bs : Int)) ∧ Hid (a = t * (2 * bs)) ∧ Row w0 wr3 g n f' ∧ St.Ph2 R f f' n bs t) (fun v _ _ => n - (intOf v).toNat)
          case atStart => exact ⟨0, 0, f3, by omega, rfl, by go_num, (by show 0 = 0 * (2 * bs); rw [Nat.zero_mul]), HR4.out, HP4.out⟩
          case round =>
            clear HR4 HP4 HE4
            obtain ⟨a, t, f', ha, rfl, rfl, HT, hr, hp⟩ := hrel
            have HR1 := Lib.hid hr
            have HP1 := Lib.hid hp
            have HB1 := Lib.hid (St.Sub.bnd hp.sub (Nat.le_refl n) HF.out)
            clear hr hp
            have q3 : IntKind.i64.wrap ((a : Int) + bs) = (a : Int) + bs := IntWalk.i64_in _ (by omega)
            by_cases hl2 : a + 2 * bs ≤ n
            · have z2 : (a : Int) + 2 * (bs : Int) ≤ n := by omega
              have q4 : IntKind.i64.wrap ((a : Int) + 2 * (bs : Int) + 2 * (bs : Int)) = (a : Int) + 2 * (bs : Int) + 2 * (bs : Int) := IntWalk.i64_in _ (by omega)
              obtain ⟨p1, p2, p3⟩ := HP1.out.parts a (a + 2 * bs) HT.out (by omega) (by omega) hl2
              have hc := HM.out a (a + bs) (a + 2 * bs) f' wr (by omega) HR1.out HB1.out (by omega) (by omega) hl2 p1 p2 p3
              rw [show ((a + 2 * bs : Nat) : Int) = (a : Int) + 2 * (bs : Int) by omega, show ((a + bs : Nat) : Int) = (a : Int) + (bs : Int) by omega] at hc
              have HC := Lib.hid hc
              clear hc p1 p2 p3
              go_wp2_with (first | (go_at_call 90; refine HC.out.mono ?_; rintro e w1 ⟨rfl, f2, r2, s2, u2⟩; have HR2 := Lib.hid (And.intro r2 (And.intro s2 u2)); clear r2 s2 u2))
              go_roundw
              case rel => exact ⟨a + 2 * bs, t + 1, f2, hl2, by go_num, by go_num, (by have h9 : (t + 1) * (2 * bs) = t * (2 * bs) + 2 * bs := Nat.succ_mul _ _; show a + 2 * bs = (t + 1) * (2 * bs); rw [h9, ← HT.out]), HR2.out.1, HP1.out.step a HT.out HR2.out.2.2 HR2.out.2.1 hl2⟩
              case measure => simp [intOf]; omega
            · have z2 : ¬ ((a : Int) + 2 * (bs : Int) ≤ n) := by omega
              by_cases hl3 : a + bs < n
              · have z3 : (a : Int) + (bs : Int) < n := by omega
                obtain ⟨p1, p2, p3⟩ := HP1.out.parts a n HT.out (by omega) (by omega) (Nat.le_refl n)
                have hc := HM.out a (a + bs) n f' wr (by omega) HR1.out HB1.out (by omega) hl3 (Nat.le_refl n) p1 p2 p3
                rw [show ((a + bs : Nat) : Int) = (a : Int) + (bs : Int) by omega] at hc
                have HC := Lib.hid hc
                clear hc p1 p2 p3
                go_wp2_with (first | (go_at_call 90; refine HC.out.mono ?_; rintro e w1 ⟨rfl, f2, r2, s2, u2⟩; have HR2 := Lib.hid (And.intro r2 (And.intro s2 u2)); clear r2 s2 u2))
                go_roundw
                case rel =>
                  have HE := HP1.out.fin a HT.out HR2.out.2.2 HR2.out.2.1 (by omega)
                  exact ⟨2 * bs, f2, by omega, by go_num, HR2.out.1, HE.1, HE.2⟩
                case measure => simp [intOf]; omega
              · have z3 : ¬ ((a : Int) + (bs : Int) < n) := by omega
                go_wp2
                go_roundw
                case rel =>
                  have HE := HP1.out.fin0 a HT.out hbs (by omega)
                  exact ⟨2 * bs, f', by omega, by go_num, HR1.out, HE.1, HE.2⟩
                case measure => simp [intOf]; omega
        · have z1 : ¬ ((bs : Int) < n) := by omega
          go_wp2
          go_end0
          exact ⟨rfl, f3, HR4.out, HE4.out.2.all (by omega), HE4.out.1.sub⟩
set_option maxRecDepth 100000 in
theorem sortStable_calls (w0 w : World) (g n c cr : Nat) (R f : Nat → Nat) (hn : n < 2305843009213693952) (hC : CmpOk w0 g n cr R) (hR : Row w0 w g n f) (hf : ∀ i, i < n → f i < n) (hn0 : 0 < n) (st : St.Stb R f 0 n) :
    Calls Tryz.prog 15 #[.slice (some ⟨g, 0, none⟩) n c, .func (.func 16) #[] #[.pointer (some ⟨cr, 0, none⟩)]] w (Merged w0 g n R f 0 n) := by
  have HC := Lib.hid (stable_calls w0 w g n c cr R f hn hC hR hf hn0 st)
  clear hC hR hf st
  go_enter Tryz.func15, Tryz.ntmps15
  go_wp2_with (first | (go_at_call 50; refine HC.out.mono ?_; rintro e w1 ⟨rfl, f2, r2, s2, u2⟩; have HR2 := Lib.hid (And.intro r2 (And.intro s2 u2)); clear r2 s2 u2))
  go_end0
  exact ⟨rfl, f2, HR2.out.1, HR2.out.2.1, HR2.out.2.2⟩
end Go.Proofs.YtgkliaalfiginaaGreatDoor
