import Derived.Test.YtpcmhlbhepickaaGreatMonSc
import Derived.Test.YtpcmhlbhepickaaGreatMonB
import Derived.Test.YtpcmhlbhepickaaGreatShelf
import Derived.Test.YtpcmhlbhepickaaGreatMonA
import Derived.RegionTactic
import Derived.BigRegion
import Derived.Lib.LaidTab
import Derived.Laws.Externs
namespace Go.Proofs.YtpcmhlbhepickaaGreat
open Go.RowKit Go.Lib Go.Sort
set_option linter.unusedVariables false
set_option linter.unusedSimpArgs false

theorem merge_calls (w0 : World) (g n c cr : Nat) (R : Nat → Nat) (hn : n < 4611686018427387904) (hC : CmpOk w0 g n cr R) : ∀ k, MergeOk w0 g n c cr R k := by
  intro k
  induction k with
  | zero => intro a m b f w hk _ _ h1 h2; omega
  | succ k ih =>
    intro a m b f w hk hR hf h1 h2 h3 s1 s2 st
    by_cases c1 : m = a + 1
    · subst c1
      have h := merge_left w0 g n c cr a b R f w hn hR hC hf h2 h3 s2 st
      rwa [show ((a : Int) + 1) = ((a + 1 : Nat) : Int) by omega] at h
    · by_cases c2 : b = m + 1
      · subst c2
        have h := merge_right w0 g n c cr a m R f w hn hR hC hf (by omega) h3 s1 st
        rwa [show ((m : Int) + 1) = ((m + 1 : Nat) : Int) by omega] at h
      · exact merge_main w0 g n c cr a m b k R f w hn hR hC hf (by omega) (by omega) h3 s1 s2 st hk ih

/-! ### the shelf's insertion sort, of such a row -/
def encF (n : Nat) : Fin n → Value := fun x => .int .i64 (x.val : Int)
theorem keep_putRow {α : Type} [Inhabited α] (enc : α → Value) (w : World) (g : Nat) (d : Array α) : Keep (fun i => i = g) w (putRow enc w g 0 d) := by
  refine ⟨rfl, rfl, rfl, by simp, fun i hi hne => ?_⟩
  show (w.heap.modify g _)[i]? = _
  rw [Array.getElem?_modify, if_neg (fun e => hne e.symm)]
theorem keep_sortWorld {α : Type} [Inhabited α] (enc : α → Value) (w : World) (g m : Nat) (d : Array α) (os : Array Obj) : Keep (fun i => i = g) w (sortWorld enc w g 0 m d os) := by
  refine (keep_putRow enc w g d).trans (w2 := sortWorld enc w g 0 m d os) (G := fun i => i = g) ?_ (fun _ _ h => h)
  refine ⟨rfl, rfl, rfl, ?_, fun i hi hne => ?_⟩
  · show _ ≤ (grow (putRow enc (Go.Sort.ahead w m) g 0 d) os).heap.size
    rw [size_grow, size_putRow, size_putRow]
    exact Nat.le_add_right _ _
  · rw [size_putRow] at hi
    show (grow (putRow enc (Go.Sort.ahead w m) g 0 d) os).heap[i]? = _
    rw [heap_grow_old _ _ (by rw [size_putRow]; exact hi)]
    rfl
set_option maxRecDepth 100000 in
theorem insertion_calls (w0 w : World) (g n c cr a b : Nat) (R f : Nat → Nat) (hn : n < 4611686018427387904) (hC : CmpOk w0 g n cr R) (hR : Row w0 w g n f) (hf : ∀ i, i < n → f i < n) (hab : a ≤ b) (hb : b ≤ n) (hn0 : 0 < n) (st : St.Stb R f a b) :
    Calls Tryz.prog 50 #[.slice (some ⟨g, 0, none⟩) n c, .int .i64 a, .int .i64 b, .func (.func 27) #[] #[.pointer (some ⟨cr, 0, none⟩)]] w (Merged w0 g n R f a b) := by
  haveI : Inhabited (Fin n) := ⟨⟨0, hn0⟩⟩
  let d : Array (Fin n) := Array.ofFn (fun i : Fin n => (⟨f i.val, hf i.val i.isLt⟩ : Fin n))
  have hd : d.size = n := by simp [d]
  have hget : ∀ i, i < n → (d[i]!).val = f i := fun i hi => by
    rw [getElem!_pos d i (by rw [hd]; exact hi)]
    simp [d]
  have hH : Holds (encF n) w g 0 d := fun j hj => by
    rw [hd] at hj
    rw [Nat.zero_add]
    refine ⟨?_, hR.free j hj⟩
    rw [hR.cell j hj]
    unfold encF
    rw [hget j hj]
  have hcmp : CmpReads Tryz.prog 27 #[.pointer (some ⟨cr, 0, none⟩)] (encF n) (fun x y => St.sg (R y.val) (R x.val)) g 0 d.size w := by
    intro m os dk hdk x y
    exact hC _ x.val y.val x.isLt y.isLt (hR.keep.trans (keep_sortWorld (encF n) w g m dk os) (fun _ _ h => h))
  have h := Tryz.insertionSortCmpFunc_one (encF n) (fun _ => rfl) (fun x y => St.sg (R y.val) (R x.val)) 27 #[.pointer (some ⟨cr, 0, none⟩)] g 0 c a b d w
    (Go.Proofs.enters_of (f := 27) Tryz.func27 (by kernel_rfl) rfl) hcmp hH hab (by rw [hd]; exact hb) (by rw [hd]; exact hn)
  rw [hd] at h
  refine h.mono fun e w' ⟨he, q, hw⟩ => ?_
  have hfn : ∀ i, i < n → St.fn (fun x : Fin n => x.val) d i = f i := hget
  obtain ⟨z1, z2, z3⟩ := St.ins (fun x : Fin n => x.val) R (ltOf fun x y : Fin n => St.sg (R y.val) (R x.val)) (fun x y => by
    unfold ltOf
    rw [St.sg_neg]
    by_cases hk : R y.val < R x.val
    · rw [decide_eq_true hk, decide_eq_true (by omega)]
    · rw [decide_eq_false hk, decide_eq_false (by omega)]) a b d (by rw [hd]; exact hb) (fun i j k1 k2 k3 hk => by
      rw [hfn i (by omega), hfn j (by omega)] at hk ⊢
      exact st i j k1 k2 k3 hk)
  generalize Sort.insertionSort (ltOf fun x y : Fin n => St.sg (R y.val) (R x.val)) d a b = d' at *
  have hd' : d'.size = n := z1.trans hd
  have hH' := holds_putRow (encF n) w g 0 d d' hH z1
  refine ⟨he, fun i => if i < n then (d'[i]!).val else f i, ?_, ?_, ?_⟩
  · subst hw
    refine Row.drewN ⟨hR.keep.trans (keep_putRow (encF n) w g d') (fun _ _ h => h), fun i hi => ?_, fun i hi => ?_⟩ q
    · have := (hH' i (by rw [hd']; exact hi)).1
      rw [Nat.zero_add] at this
      rw [this, if_pos hi]
      rfl
    · have := (hH' i (by rw [hd']; exact hi)).2
      rwa [Nat.zero_add] at this
  · exact z2.congr (fun i i1 i2 => if_pos (by omega))
  · refine ⟨fun i i1 i2 => ?_, fun i hi => ?_⟩
    · obtain ⟨j, j1, j2, ej⟩ := z3.sub i i1 i2
      refine ⟨j, j1, j2, ?_⟩
      simp only [if_pos (show i < n by omega)]
      exact ej.trans (hfn j (by omega))
    · by_cases hin : i < n
      · simp only [if_pos hin]
        exact (z3.off i hi).trans (hfn i hin)
      · simp only [if_neg hin]
end Go.Proofs.YtpcmhlbhepickaaGreat
namespace Go.Proofs.YtpcmhlbhepickaaGreat
open Go.RowKit Go.Lib Go.Sort
set_option linter.unusedVariables false
set_option linter.unusedSimpArgs false

set_option maxHeartbeats 2000000 in
set_option maxRecDepth 100000 in
theorem stable_calls (w0 w : World) (g n c cr : Nat) (R f : Nat → Nat) (hn : n < 2305843009213693952) (hC : CmpOk w0 g n cr R) (hR : Row w0 w g n f) (hf : ∀ i, i < n → f i < n) (hn0 : 0 < n) (st : St.Stb R f 0 n) :
    Calls Tryz.prog 34 #[.slice (some ⟨g, 0, none⟩) n c, .int .i64 n, .func (.func 27) #[] #[.pointer (some ⟨cr, 0, none⟩)]] w (Merged w0 g n R f 0 n) := by
  have hn' : n < 4611686018427387904 := by omega
  have HR := Lib.hid hR
  have HF := Lib.hid hf
  have HP := Lib.hid (St.Ph1.start (bs := 20) st)
  have HI := Lib.hid (fun w f' a b hR (hb : ∀ i, i < n → f' i < n) hab hbn st => insertion_calls w0 w g n c cr a b R f' hn' hC hR hb hab hbn hn0 st)
  have HM := Lib.hid (merge_calls w0 g n c cr R hn' hC n)
  clear hR hC hf st
  go_enter Tryz.func34, Tryz.ntmps34
  go_wp2
  go_loopw [7, 8] (fun v u wr => ∃ (a t : Nat) (f' : Nat → Nat), a ≤ n ∧ v = .int .i64 a ∧ u = .int .i64 ((a : Int) + 20) ∧ Hid (a = t * 20) ∧ Row w0 wr g n f' ∧ St.Ph1 R f f' n 20 t) (fun v _ _ => n - (intOf v).toNat)
  case atStart => exact ⟨0, 0, f, by omega, rfl, rfl, rfl, HR.out, HP.out⟩
  case round =>
    clear HR HP
    obtain ⟨a, t, f', ha, rfl, rfl, HT, hr, hp⟩ := hrel
    have HR1 := Lib.hid hr
    have HP1 := Lib.hid hp
    have HB1 := Lib.hid (St.Sub.bnd hp.sub (Nat.le_refl n) HF.out)
    clear hr hp
    by_cases hlt : a + 20 ≤ n
    · have z1 : (a : Int) + 20 ≤ n := by omega
      have q1 : IntKind.i64.wrap ((a : Int) + 20) = (a : Int) + 20 := IntWalk.i64_in _ (by omega)
      have q2 : IntKind.i64.wrap ((a : Int) + 20 + 20) = (a : Int) + 20 + 20 := IntWalk.i64_in _ (by omega)
      have hc := HI.out wr f' a (a + 20) HR1.out HB1.out (by omega) hlt (HP1.out.stb.mono (Nat.zero_le _) hlt)
      rw [show ((a + 20 : Nat) : Int) = (a : Int) + 20 by omega] at hc
      have HC := Lib.hid hc
      clear hc
      go_wp2_with (first | (go_at_call 50; refine HC.out.mono ?_; rintro e w1 ⟨rfl, f2, r2, s2, u2⟩; have HR2 := Lib.hid (And.intro r2 (And.intro s2 u2)); clear r2 s2 u2))
      go_roundw
      case rel => exact ⟨a + 20, t + 1, f2, hlt, by go_num, by go_num, (by have := HT.out; show a + 20 = (t + 1) * 20; omega), HR2.out.1, HP1.out.step (by rw [← HT.out]; exact HR2.out.2.2) (by rw [← HT.out]; exact HR2.out.2.1) (by rw [← HT.out]; exact hlt)⟩
      case measure => simp [intOf]; omega
    · have z1 : ¬ ((a : Int) + 20 ≤ n) := by omega
      have HC := Lib.hid (HI.out wr f' a n HR1.out HB1.out ha (Nat.le_refl n) (HP1.out.stb.mono (Nat.zero_le _) (Nat.le_refl n)))
      go_wp2_with (first | (go_at_call 50; refine HC.out.mono ?_; rintro e w1 ⟨rfl, f2, r2, s2, u2⟩; have HR2 := Lib.hid (And.intro r2 (And.intro s2 u2)); clear r2 s2 u2))
      have HE := Lib.hid (HP1.out.fin (by rw [← HT.out]; exact HR2.out.2.2) (by rw [← HT.out]; exact HR2.out.2.1) (by rw [← HT.out]; omega))
      have HR3 := Lib.hid HR2.out.1
      clear HC HR1 HP1 HB1 HT HI HR2 z1 hlt
      go_loopw [6] (fun v wr2 => ∃ (bs : Nat) (f' : Nat → Nat), 0 < bs ∧ v = .int .i64 bs ∧ Row w0 wr2 g n f' ∧ St.Kp R f f' n ∧ St.Bl R f' bs n) (fun v _ => n - (intOf v).toNat)
      case atStart => exact ⟨20, f2, by omega, rfl, HR3.out, HE.out.1, HE.out.2⟩
      case round =>
        clear HE HR3
        obtain ⟨bs, f3, hbs, rfl, hr, hk, hb⟩ := hrel
        obtain ⟨wo, rfl⟩ : ∃ wo : World, wo = wr := ⟨_, rfl⟩
        have HR4 := Lib.hid hr
        have HP4 := Lib.hid (St.Ph2.start hk hb)
        have HE4 := Lib.hid (And.intro hk hb)
        clear hr hk hb
        by_cases hlt : bs < n
        · have z1 : (bs : Int) < n := by omega
          have q1 : IntKind.i64.wrap (2 * (bs : Int)) = 2 * (bs : Int) := IntWalk.i64_in _ (by omega)
          have q2 : IntKind.i64.wrap ((bs : Int) * 2) = (bs : Int) * 2 := IntWalk.i64_in _ (by omega)
          have z9 : (0 : Int) < bs := by omega
          go_wp2
          go_loopw [7, 8] (fun v u wr3 => ∃ (a t : Nat) (f' : Nat → Nat), a ≤ n ∧ v = .int .i64 a ∧ u = .int .i64 ((a : Int) + 2 * (bs : Int)) ∧ Hid (a = t * (2 * bs)) ∧ Row w0 wr3 g n f' ∧ St.Ph2 R f f' n bs t) (fun v _ _ => n - (intOf v).toNat)
          case atStart => exact ⟨0, 0, f3, by omega, rfl, by go_num, (by show 0 = 0 * (2 * bs); rw [Nat.zero_mul]), HR4.out, HP4.out⟩
          case round =>
            clear HR4 HP4 HE4
            obtain ⟨a, t, f', ha, rfl, rfl, HT, hr, hp⟩ := hrel
            have HR1 := Lib.hid hr
            have HP1 := Lib.hid hp
            have HB1 := Lib.hid (St.Sub.bnd hp.sub (Nat.le_refl n) HF.out)
            clear hr hp
            have q3 : IntKind.i64.wrap ((a : Int) + bs) = (a : Int) + bs := IntWalk.i64_in _ (by omega)
            by_cases hl2 : a + 2 * bs ≤ n
            · have z2 : (a : Int) + 2 * (bs : Int) ≤ n := by omega
              have q4 : IntKind.i64.wrap ((a : Int) + 2 * (bs : Int) + 2 * (bs : Int)) = (a : Int) + 2 * (bs : Int) + 2 * (bs : Int) := IntWalk.i64_in _ (by omega)
              obtain ⟨p1, p2, p3⟩ := HP1.out.parts a (a + 2 * bs) HT.out (by omega) (by omega) hl2
              have hc := HM.out a (a + bs) (a + 2 * bs) f' wr (by omega) HR1.out HB1.out (by omega) (by omega) hl2 p1 p2 p3
              rw [show ((a + 2 * bs : Nat) : Int) = (a : Int) + 2 * (bs : Int) by omega, show ((a + bs : Nat) : Int) = (a : Int) + (bs : Int) by omega] at hc
              have HC := Lib.hid hc
              clear hc p1 p2 p3
              go_wp2_with (first | (go_at_call 51; refine HC.out.mono ?_; rintro e w1 ⟨rfl, f2, r2, s2, u2⟩; have HR2 := Lib.hid (And.intro r2 (And.intro s2 u2)); clear r2 s2 u2))
              go_roundw
              case rel => exact ⟨a + 2 * bs, t + 1, f2, hl2, by go_num, by go_num, (by have h9 : (t + 1) * (2 * bs) = t * (2 * bs) + 2 * bs := Nat.succ_mul _ _; show a + 2 * bs = (t + 1) * (2 * bs); rw [h9, ← HT.out]), HR2.out.1, HP1.out.step a HT.out HR2.out.2.2 HR2.out.2.1 hl2⟩
              case measure => simp [intOf]; omega
            · have z2 : ¬ ((a : Int) + 2 * (bs : Int) ≤ n) := by omega
              by_cases hl3 : a + bs < n
              · have z3 : (a : Int) + (bs : Int) < n := by omega
                obtain ⟨p1, p2, p3⟩ := HP1.out.parts a n HT.out (by omega) (by omega) (Nat.le_refl n)
                have hc := HM.out a (a + bs) n f' wr (by omega) HR1.out HB1.out (by omega) hl3 (Nat.le_refl n) p1 p2 p3
                rw [show ((a + bs : Nat) : Int) = (a : Int) + (bs : Int) by omega] at hc
                have HC := Lib.hid hc
                clear hc p1 p2 p3
                go_wp2_with (first | (go_at_call 51; refine HC.out.mono ?_; rintro e w1 ⟨rfl, f2, r2, s2, u2⟩; have HR2 := Lib.hid (And.intro r2 (And.intro s2 u2)); clear r2 s2 u2))
                go_roundw
                case rel =>
                  have HE := HP1.out.fin a HT.out HR2.out.2.2 HR2.out.2.1 (by omega)
                  exact ⟨2 * bs, f2, by omega, by go_num, HR2.out.1, HE.1, HE.2⟩
                case measure => simp [intOf]; omega
              · have z3 : ¬ ((a : Int) + (bs : Int) < n) := by omega
                go_wp2
                go_roundw
                case rel =>
                  have HE := HP1.out.fin0 a HT.out hbs (by omega)
                  exact ⟨2 * bs, f', by omega, by go_num, HR1.out, HE.1, HE.2⟩
                case measure => simp [intOf]; omega
        · have z1 : ¬ ((bs : Int) < n) := by omega
          go_wp2
          go_end0
          exact ⟨rfl, f3, HR4.out, HE4.out.2.all (by omega), HE4.out.1.sub⟩
set_option maxRecDepth 100000 in
theorem sortStable_calls (w0 w : World) (g n c cr : Nat) (R f : Nat → Nat) (hn : n < 2305843009213693952) (hC : CmpOk w0 g n cr R) (hR : Row w0 w g n f) (hf : ∀ i, i < n → f i < n) (hn0 : 0 < n) (st : St.Stb R f 0 n) :
    Calls Tryz.prog 26 #[.slice (some ⟨g, 0, none⟩) n c, .func (.func 27) #[] #[.pointer (some ⟨cr, 0, none⟩)]] w (Merged w0 g n R f 0 n) := by
  have HC := Lib.hid (stable_calls w0 w g n c cr R f hn hC hR hf hn0 st)
  clear hC hR hf st
  go_enter Tryz.func26, Tryz.ntmps26
  go_wp2_with (first | (go_at_call 34; refine HC.out.mono ?_; rintro e w1 ⟨rfl, f2, r2, s2, u2⟩; have HR2 := Lib.hid (And.intro r2 (And.intro s2 u2)); clear r2 s2 u2))
  go_end0
  exact ⟨rfl, f2, HR2.out.1, HR2.out.2.1, HR2.out.2.2⟩
end Go.Proofs.YtpcmhlbhepickaaGreat
namespace Go.Proofs.YtpcmhlbhepickaaGreat
open Go.RowKit Go.Lib
set_option linter.unusedVariables false
set_option linter.unusedSimpArgs false

theorem add_block (a : Addr) (j : Nat) : (a.add j).block = a.block := by unfold Addr.add; split <;> rfl
/-- a value reads as a list of numbers -/
def RdI (w : World) (v : Value) (xs : List Int) : Prop := ∃ A c, v = .slice A xs.length c ∧ xs.length ≤ 9223372036854775807 ∧ (0 < xs.length → ∃ a, A = some a ∧ ∀ j x, xs[j]? = some x → w.cell? (a.add j) = some (.int .i64 x))
theorem RdI.keep {F : Nat → Prop} {w w1 : World} {v : Value} {xs : List Int} (h : RdI w v xs) (k : Keep F w w1) (hn : ∀ a n c, v = .slice (some a) n c → ¬ F a.block) : RdI w1 v xs := by
  obtain ⟨A, c, rfl, h2, h3⟩ := h
  refine ⟨A, c, rfl, h2, fun h0 => ?_⟩
  obtain ⟨a, rfl, hc⟩ := h3 h0
  exact ⟨a, rfl, fun j x hj => k.cell (hc j x hj) (by rw [add_block]; exact hn a _ _ rfl)⟩
theorem infoM : (Tryz.prog.info? 23).map (fun i => (i.zero, i.size, i.bytes)) = some (some (.int .i64 0), 1, 8) := by kernel_rfl
theorem infoU : (Tryz.prog.info? 78).map (fun i => (i.zero, i.size, i.bytes)) = some (some (.int .u64 0), 1, 8) := by kernel_rfl
theorem infoI : (Tryz.prog.info? 3).map (fun i => (i.zero, i.size, i.bytes)) = some (some (.int .i64 0), 1, 8) := by kernel_rfl
/-- a row of n cells, each z -/
def zeros (z : Value) (n : Nat) : Array Value := madeCells z.cells (n * 1)
theorem make_run (t e : TypeId) (z : Value) (ht : Tryz.prog.underlying t = some (.slice e)) (hi : (Tryz.prog.info? e).map (fun i => (i.zero, i.size, i.bytes)) = some (some z, 1, 8)) (n : Nat) (hn : n ≤ 4096) (w : World) :
    (Instr.makeSlice t (.int .i64 n) (.int .i64 n)).run Tryz.prog w = .ok (.slice (some ⟨w.heap.size, 0, none⟩) n n) (w.alloc (.cells (zeros z n) e)) := by
  obtain ⟨i0, hinfo, hz0, hz1, hz2⟩ := info_parts hi
  have h := run_makeSlice (P := Tryz.prog) (w := w) t e i0 z ht hinfo hz0 .i64 .i64 n n (by omega) (by omega) (by rw [hz1]; omega) (by rw [hz2]; omega) (by omega)
  rw [hz1] at h
  exact h
/-- what Share makes at first -/
structure Made (w : World) (n : Nat) (p q o : Value) (W : World) (gp gr go cr : Nat) : Prop where
  p : p = .slice (some ⟨gp, 0, none⟩) n n
  q : q = .pointer (some ⟨cr, 0, none⟩)
  o : o = .slice (some ⟨go, 0, none⟩) n n
  b : w.heap.size ≤ gp ∧ w.heap.size ≤ gr ∧ w.heap.size ≤ go ∧ w.heap.size ≤ cr
  d : gp ≠ gr ∧ gp ≠ go ∧ gp ≠ cr ∧ gr ≠ go ∧ gr ≠ cr ∧ go ≠ cr
  below : Below w.heap.size w W
  hp : W.heap[gp]? = some (.cells (zeros (.int .i64 0) n) 23)
  hr : W.heap[gr]? = some (.cells (zeros (.int .u64 0) n) 78)
  ho : W.heap[go]? = some (.cells (zeros (.int .i64 0) n) 3)
  hc : W.heap[cr]? = some (.cells #[.slice (some ⟨gr, 0, none⟩) n n] 82)
def IsMade (w : World) (n : Nat) (p q o : Value) (W : World) : Prop := ∃ gp gr go cr, Made w n p q o W gp gr go cr
theorem push_at {α : Type} (h : Array α) (x : α) (i : Nat) (hi : i < h.size) : (h.push x)[i]? = h[i]? := by rw [Array.getElem?_push, if_neg (by omega)]
theorem push_new {α : Type} (h : Array α) (x : α) (i : Nat) (hi : i = h.size) : (h.push x)[i]? = some x := by rw [Array.getElem?_push, if_pos hi]
theorem alloc4 (w : World) (A B C D : Obj) : ((((w.alloc A).alloc B).alloc C).alloc D).drew.heap[w.heap.size]? = some A ∧ ((((w.alloc A).alloc B).alloc C).alloc D).drew.heap[w.heap.size + 1]? = some B ∧
    ((((w.alloc A).alloc B).alloc C).alloc D).drew.heap[w.heap.size + 1 + 1]? = some C ∧ ((((w.alloc A).alloc B).alloc C).alloc D).drew.heap[w.heap.size + 1 + 1 + 1]? = some D ∧ Below w.heap.size w ((((w.alloc A).alloc B).alloc C).alloc D).drew := by
  refine ⟨?_, ?_, ?_, ?_, ?_⟩
  · show ((((w.heap.push A).push B).push C).push D)[w.heap.size]? = _
    rw [push_at _ _ _ (by simp; omega), push_at _ _ _ (by simp; omega), push_at _ _ _ (by simp), push_new _ _ _ rfl]
  · show ((((w.heap.push A).push B).push C).push D)[w.heap.size + 1]? = _
    rw [push_at _ _ _ (by simp), push_at _ _ _ (by simp), push_new _ _ _ (by simp)]
  · show ((((w.heap.push A).push B).push C).push D)[w.heap.size + 1 + 1]? = _
    rw [push_at _ _ _ (by simp), push_new _ _ _ (by simp)]
  · show ((((w.heap.push A).push B).push C).push D)[w.heap.size + 1 + 1 + 1]? = _
    rw [push_new _ _ _ (by simp)]
  · have h := (((((Below.refl w.heap.size w).alloc (Nat.le_refl _) A).alloc (by simp) B).alloc (by simp; omega) C).alloc (by simp; omega) D)
    exact ⟨h.os, h.tape, h.output, h.size, h.block⟩
/-- of a row of n cells the first k hold what enc says -/
structure Col (w : World) (g n k : Nat) (enc : Nat → Value) : Prop where
  done : ∀ i, i < k → w.cell? ⟨g, i, none⟩ = some (enc i)
  some : ∀ i, i < n → ∃ v, w.cell? ⟨g, i, none⟩ = some v
  free : ∀ i, i < n → w.frozen? ⟨g, i, none⟩ = false
theorem zeros_at (z : Value) (hz : z.cells = #[z]) (n i : Nat) (h : i < n) : (zeros z n)[i]? = some z := by
  unfold zeros
  rw [hz, ← Array.getElem?_toList, toList_madeCells_one, Nat.mul_one, List.getElem?_replicate, if_pos h]
namespace Col
variable {w : World} {g n k : Nat} {enc : Nat → Value}
theorem start {z : Value} (hz : z.cells = #[z]) {T : TypeId} (h : w.heap[g]? = Option.some (.cells (zeros z n) T)) : Col w g n 0 enc :=
  ⟨fun i hi => by omega, fun i hi => ⟨z, blk_cell h i (zeros_at z hz n i hi)⟩, fun i hi => blk_free h i⟩
theorem drew (h : Col w g n k enc) : Col w.drew g n k enc := ⟨h.done, h.some, h.free⟩
theorem drewN (h : Col w g n k enc) (q : Nat) : Col (w.drewN q) g n k enc := ⟨h.done, h.some, h.free⟩
theorem other (h : Col w g n k enc) (g' j : Nat) (v : Value) (hne : g' ≠ g) : Col (w.setCell ⟨g', j, none⟩ v) g n k enc := by
  have e : ∀ i, (w.setCell ⟨g', j, none⟩ v).cell? ⟨g, i, none⟩ = w.cell? ⟨g, i, none⟩ := fun i => World.cell?_setCell_other _ _ _ _ (fun h => hne (by injection h))
  exact ⟨fun i hi => (e i).trans (h.done i hi), fun i hi => by rw [e i]; exact h.some i hi, fun i hi => by rw [World.frozen?_setCell]; exact h.free i hi⟩
theorem set (h : Col w g n k enc) (hk : k < n) : Col (w.setCell ⟨g, k, none⟩ (enc k)) g n (k + 1) enc := by
  obtain ⟨v, hv⟩ := h.some k hk
  have e : ∀ i, i ≠ k → (w.setCell ⟨g, k, none⟩ (enc k)).cell? ⟨g, i, none⟩ = w.cell? ⟨g, i, none⟩ := fun i hi => World.cell?_setCell_other _ _ _ _ (fun h => hi (by injection h with _ h2; exact h2.symm))
  have e2 := World.cell?_setCell_same w ⟨g, k, none⟩ (enc k) hv
  refine ⟨fun i hi => ?_, fun i hi => ?_, fun i hi => by rw [World.frozen?_setCell]; exact h.free i hi⟩
  · by_cases c : i = k
    · rw [c]; exact e2
    · rw [e i c]; exact h.done i (by omega)
  · by_cases c : i = k
    · rw [c]; exact ⟨_, e2⟩
    · rw [e i c]; exact h.some i hi
end Col
/-- Share's three rows, so far -/
structure Three (w wr : World) (n kp kr ko gp gr go cr : Nat) (q r : Nat → Nat) : Prop where
  below : Below w.heap.size w wr
  cap : wr.cell? ⟨cr, 0, none⟩ = some (.slice (some ⟨gr, 0, none⟩) n n)
  p : Col wr gp n kp (fun i => .int .i64 (q i : Int))
  r : Col wr gr n kr (fun i => .int .u64 (r i : Int))
  o : Col wr go n ko (fun i => .int .i64 (i : Int))
  lo : w.heap.size ≤ gp ∧ w.heap.size ≤ gr ∧ w.heap.size ≤ go ∧ w.heap.size ≤ cr
  ne : gp ≠ gr ∧ gp ≠ go ∧ gp ≠ cr ∧ gr ≠ go ∧ gr ≠ cr ∧ go ≠ cr
namespace Three
variable {w wr : World} {n kp kr ko gp gr go cr : Nat} {q r : Nat → Nat}
theorem drew (h : Three w wr n kp kr ko gp gr go cr q r) : Three w wr.drew n kp kr ko gp gr go cr q r :=
  ⟨⟨h.below.os, h.below.tape, h.below.output, h.below.size, h.below.block⟩, h.cap, h.p.drew, h.r.drew, h.o.drew, h.lo, h.ne⟩
theorem drewN (h : Three w wr n kp kr ko gp gr go cr q r) (j : Nat) : Three w (wr.drewN j) n kp kr ko gp gr go cr q r :=
  ⟨⟨h.below.os, h.below.tape, h.below.output, h.below.size, h.below.block⟩, h.cap, h.p.drewN j, h.r.drewN j, h.o.drewN j, h.lo, h.ne⟩
theorem cap_other (h : Three w wr n kp kr ko gp gr go cr q r) (g j : Nat) (v : Value) (hne : g ≠ cr) : (wr.setCell ⟨g, j, none⟩ v).cell? ⟨cr, 0, none⟩ = some (.slice (some ⟨gr, 0, none⟩) n n) := by
  rw [World.cell?_setCell_other _ _ _ _ (fun h => hne (by injection h))]; exact h.cap
theorem setP (h : Three w wr n kp kr ko gp gr go cr q r) (hk : kp < n) : Three w (wr.setCell ⟨gp, kp, none⟩ (.int .i64 (q kp : Int))) n (kp + 1) kr ko gp gr go cr q r :=
  ⟨h.below.setCell h.lo.1 _, h.cap_other _ _ _ h.ne.2.2.1, h.p.set hk, h.r.other _ _ _ h.ne.1, h.o.other _ _ _ h.ne.2.1, h.lo, h.ne⟩
theorem setR (h : Three w wr n kp kr ko gp gr go cr q r) (hk : kr < n) : Three w (wr.setCell ⟨gr, kr, none⟩ (.int .u64 (r kr : Int))) n kp (kr + 1) ko gp gr go cr q r :=
  ⟨h.below.setCell h.lo.2.1 _, h.cap_other _ _ _ h.ne.2.2.2.2.1, h.p.other _ _ _ (Ne.symm h.ne.1), h.r.set hk, h.o.other _ _ _ h.ne.2.2.2.1, h.lo, h.ne⟩
theorem setO (h : Three w wr n kp kr ko gp gr go cr q r) (hk : ko < n) : Three w (wr.setCell ⟨go, ko, none⟩ (.int .i64 (ko : Int))) n kp kr (ko + 1) gp gr go cr q r :=
  ⟨h.below.setCell h.lo.2.2.1 _, h.cap_other _ _ _ h.ne.2.2.2.2.2, h.p.other _ _ _ (Ne.symm h.ne.2.1), h.r.other _ _ _ (Ne.symm h.ne.2.2.2.1), h.o.set hk, h.lo, h.ne⟩
end Three
theorem Made.three {w W : World} {n gp gr go cr : Nat} {p q o : Value} (h : Made w n p q o W gp gr go cr) (q' r' : Nat → Nat) : Three w W n 0 0 0 gp gr go cr q' r' :=
  ⟨h.below, blk_cell h.hc 0 rfl, Col.start rfl h.hp, Col.start rfl h.hr, Col.start rfl h.ho, h.b, h.d⟩
theorem Keep.free {F : Nat → Prop} {w w1 : World} (h : Keep F w w1) {a : Addr} (hl : a.block < w.heap.size) (hn : ¬ F a.block) : w1.frozen? a = w.frozen? a := by
  unfold World.frozen?
  rw [h.block a.block hl hn]
theorem Three.row {w W : World} {n gp gr go cr : Nat} {q r : Nat → Nat} (h : Three w W n n n n gp gr go cr q r) : Row W W go n (fun i => i) :=
  ⟨Keep.refl _ _, h.o.done, h.o.free⟩
theorem Three.cmp {w W : World} {n gp gr go cr : Nat} {q r : Nat → Nat} (h : Three w W n n n n gp gr go cr q r) (hn : n < 4611686018427387904) : CmpOk W go n cr r := fun w' x y hx hy k =>
  share1_calls cr gr n x y r w' ⟨⟨n, k.cell h.cap (fun e => h.ne.2.2.2.2.2 e.symm)⟩, fun i hi => k.cell (h.r.done i hi) (fun e => h.ne.2.2.2.1 e)⟩ hx hy hn
theorem Three.parts {w W W1 : World} {n gp gr go cr : Nat} {q r f : Nat → Nat} (h : Three w W n n n n gp gr go cr q r) (k : Row W W1 go n f) : Row W1 W1 gp n q :=
  ⟨Keep.refl _ _, fun i hi => k.keep.cell (h.p.done i hi) (fun e => h.ne.2.1 e), fun i hi => by
    obtain ⟨v, hv⟩ := h.p.some i hi
    rw [k.keep.free (a := ⟨gp, i, none⟩) (World.block_lt_of_cell? _ _ hv) (fun e => h.ne.2.1 e)]
    exact h.p.free i hi⟩
theorem Row.bump {w0 w : World} {g n : Nat} {p f : Nat → Nat} {j : Nat} (h : Row w0 w g n (Sh.bump p f j)) (hj : f j < n) :
    Row w0 (w.setCell ⟨g, f j, none⟩ (.int .i64 ((Sh.bump p f j (f j) : Int) + 1))) g n (Sh.bump p f (j + 1)) := by
  refine ⟨h.keep.setCell (fun _ => rfl) _, fun x hx => ?_, fun x hx => by rw [World.frozen?_setCell]; exact h.free x hx⟩
  rw [Sh.bump_succ]
  by_cases c : x = f j
  · subst c
    simp only [if_pos]
    rw [World.cell?_setCell_same _ _ _ (h.cell _ hx)]
    simp
  · simp only [if_neg c]
    rw [World.cell?_setCell_other _ _ _ _ (fun e => c (by injection e with _ e2; exact e2.symm))]
    exact h.cell x hx
/-- what Share answers: n parts in a new row -/
def Shared (w : World) (n L : Nat) (Q R : Nat → Nat) (e : Ending) (w' : World) : Prop :=
  ∃ (gp : Nat) (f : Nat → Nat), e = .returned (.tuple #[.slice (some ⟨gp, 0, none⟩) n n, .int .i64 0]) ∧ w.heap.size ≤ gp ∧ Below w.heap.size w w' ∧ St.Srt R f 0 n ∧ (∀ i, i < n → f i < n) ∧
    (∀ i, i < n → w'.cell? ⟨gp, i, none⟩ = some (.int .i64 (Sh.bump Q f L i : Int))) ∧ (∀ i, i < n → w'.frozen? ⟨gp, i, none⟩ = false)

set_option maxHeartbeats 4000000 in
set_option maxRecDepth 100000 in
theorem share_good (total n A L : Nat) (xs : List Int) (W Q R : Nat → Nat) (v : Value) (w : World) (hv : RdI w v xs) (hn : xs.length = n) (ht : total ≤ 1000000000000000) (h1 : 0 < n) (h2 : n ≤ 4096) (hx : ∀ i, i < n → xs[i]? = some (W i : Int)) (hw : ∀ i, i < n → W i ≤ 1000000000000000)
    (hA : Sh.pre W n = A) (ha : 0 < A) (hQ : Sh.q total A W = Q) (hR : Sh.r total A W = R) (hLe : total - Sh.pre Q n = L) :
    Calls Tryz.prog 18 #[.int .i64 total, v] w (Shared w n L Q R) := by
  obtain ⟨A0, c, rfl, hlen, hc⟩ := hv
  rw [hn] at hlen hc ⊢
  obtain ⟨a, rfl, hcc⟩ := hc h1
  have HC := Lib.hid (fun j (hj : j < n) => hcc j _ (hx j hj))
  have HW := Lib.hid hw
  have hL := Lib.hid (show Sh.pre Q n ≤ total ∧ L < n by subst hA hQ hLe; have := Sh.left total n W ha h1; exact ⟨this.1, this.2.2⟩)
  have hql := Lib.hid (show ∀ j, j < n → Q j ≤ total by subst hA hQ; exact fun j hj => Sh.q_le_total total _ W j (Sh.le_pre W j n hj) ha)
  have hpl := Lib.hid (show ∀ j, j ≤ n → Sh.pre Q j ≤ total by subst hA hQ; exact fun j hj => Sh.q_le total n W ha h1 j hj)
  have hx64 := Lib.hid (show ∀ j, j < n → total * W j / 18446744073709551616 < A by
    subst hA
    intro j hj
    rw [Nat.div_lt_iff_lt_mul (by omega)]
    have e1 := Nat.mul_le_mul ht (Sh.le_pre W j n hj)
    omega)
  have hq := Lib.hid (show ∀ j, Q j = total * W j / A ∧ R j = total * W j % A by subst hQ hR; exact fun j => ⟨rfl, rfl⟩)
  have hpre := Lib.hid (fun k (hk : k ≤ n) => Nat.le_trans (Sh.pre_le W 1000000000000000 k (fun i hi => HW.out i (by omega))) (Nat.mul_le_mul_right 1000000000000000 (show k ≤ 4096 by omega)))
  have hAb : A ≤ 4096 * 1000000000000000 := by rw [← hA]; exact hpre.out n (Nat.le_refl n)
  have HA := Lib.hid hA
  have HL := Lib.hid hLe
  have hax : a.block < w.heap.size := by have := World.block_lt_of_cell? w _ (HC.out 0 h1); rwa [add_block] at this
  clear hc hw hx hcc hA hQ hR hn hLe
  have d1 : decide ((total : Int) < 0) = false := decide_eq_false (by omega)
  have k1 : (Mo.chk (total : Int) != 0) = false := by unfold Mo.chk; rw [if_neg (by omega)]; rfl
  have d2 : ((n : Int) == 0) = false := by simp; omega
  have d3 : decide ((4096 : Int) < (n : Int)) = false := decide_eq_false (by omega)
  go_enter Tryz.func18, Tryz.ntmps18
  go_wp2_with (first | (go_at_call 16; refine (check_calls _ _).mono ?_; rintro e W2 ⟨rfl, rfl⟩))
  go_loop [6, 40] (fun s i => ∃ k : Nat, k ≤ n ∧ i = .int .i64 k ∧ s = .int .u64 (Sh.pre W k : Int)) (fun _ i => n - (intOf i).toNat)
  case atStart => exact ⟨0, Nat.zero_le _, rfl, rfl⟩
  case round =>
    obtain ⟨k, hk, rfl, rfl⟩ := hrel
    by_cases hlt : k < n
    · have hcell := HC.out k hlt
      have z1 : (k : Int) < n := by omega
      have z2 : (0 : Int) ≤ k := by omega
      have hwk := HW.out k hlt
      have e1 : decide ((W k : Int) < 0) = false := decide_eq_false (by omega)
      have e2 : decide ((1000000000000000 : Int) < (W k : Int)) = false := decide_eq_false (by omega)
      have e3 : IntKind.u64.wrap (W k : Int) = (W k : Int) := u64w _ (by omega)
      have hp := hpre.out k hk
      have hs := Lib.hid (Sh.pre_succ W k)
      generalize Sh.pre W k = P at *
      generalize W k = X at *
      have e4 : IntKind.u64.wrap ((P : Int) + X) = (P : Int) + X := by rw [IntKind.wrap_u64]; omega
      go_wp2
      go_round
      case rel => exact ⟨k + 1, by omega, by go_num, by rw [hs.out]; go_num⟩
      case measure => simp [intOf]; omega
    · obtain rfl : n = k := by omega
      rw [HA.out]
      have e0 : ((A : Int) == 0) = false := by simp; omega
      go_upto_region 15 with (fail)
      have m1 := fun w => make_run 42 23 (.int .i64 0) Tryz.underlying42 infoM n h2 w
      have m2 := fun w => make_run 82 78 (.int .u64 0) Tryz.underlying82 infoU n h2 w
      have m3 := fun w => make_run 66 3 (.int .i64 0) Tryz.underlying66 infoI n h2 w
      obtain ⟨Z1, hZ1⟩ : ∃ Z, Z = zeros (.int .i64 0) n := ⟨_, rfl⟩
      obtain ⟨Z2, hZ2⟩ : ∃ Z, Z = zeros (.int .u64 0) n := ⟨_, rfl⟩
      rw [← hZ1] at m1 m3
      rw [← hZ2] at m2
      have HZ := Lib.hid (And.intro hZ1 hZ2)
      clear hZ1 hZ2
      go_cut [9, 10, 11] (fun p q o W => IsMade w n p q o W)
      case first =>
        as_aux_lemma =>
          go_region
          all_goals go_wp2_with fail
          all_goals go_meet
          all_goals
            obtain ⟨h0, h1', h2', h3, hb⟩ := alloc4 w _ _ _ _
            refine ⟨_, ?_, _, _, rfl, rfl, rfl, ?_, ?_, hb, ?_, ?_, ?_, ?_⟩
            rotate_right 1
            first | exact h0 | exact h1' | exact h2' | exact h3
            omega
            omega
            (rw [← HZ.out.1]; first | exact h0 | exact h1' | exact h2' | exact h3)
            (rw [← HZ.out.2]; first | exact h0 | exact h1' | exact h2' | exact h3)
            (rw [← HZ.out.1]; first | exact h0 | exact h1' | exact h2' | exact h3)
      case rest =>
        as_aux_lemma =>
          obtain ⟨gp, gr, go, cr, M⟩ := hcut
          have e1 := M.p
          have e2 := M.q
          have e3 := M.o
          subst e1 e2 e3
          have HT := Lib.hid (M.three Q R)
          have hcr := M.b
          clear M m1 m2 m3 HZ
          go_wp2
          go_loopw [12, 69] (fun l i wr => ∃ j : Nat, j ≤ n ∧ i = .int .i64 j ∧ l = .int .i64 ((total - Sh.pre Q j : Nat) : Int) ∧ Three w wr n j j j gp gr go cr Q R) (fun _ i _ => n - (intOf i).toNat)
          case atStart => exact ⟨0, Nat.zero_le _, rfl, rfl, HT.out⟩
          case round =>
            clear HT
            obtain ⟨j, hj, rfl, rfl, ht3⟩ := hrel
            have HT := Lib.hid ht3
            clear ht3
            by_cases hlt : j < n
            · have hcell := (HT.out.below.cell (p := a.add j) (by rw [add_block]; exact hax)).trans (HC.out j hlt)
              have z1 : (j : Int) < n := by omega
              have z2 : (0 : Int) ≤ j := by omega
              have hwj := HW.out j hlt
              have hqj := hql.out j hlt
              have hp1 := hpl.out (j + 1) hlt
              rw [Sh.pre_succ] at hp1
              have hx := hx64.out j hlt
              have hM := Lib.hid (fun w => Tryz.bits_Mul64 total (W j) (by omega) (by omega) w)
              have hD := Lib.hid (div64_calls (total * W j / 18446744073709551616) (total * W j % 18446744073709551616) A hx (by omega) (Nat.mod_lt _ (by decide)))
              unfold DivOk at hD
              have hxx : total * W j / 18446744073709551616 * 18446744073709551616 + total * W j % 18446744073709551616 = total * W j := by omega
              rw [hxx, ← (hq.out j).1, ← (hq.out j).2] at hD
              have e1 : IntKind.u64.wrap (total : Int) = total := u64w _ (by omega)
              have e2 : IntKind.u64.wrap (W j : Int) = (W j : Int) := u64w _ (by omega)
              have e3 : IntKind.i64.wrap (Q j : Int) = (Q j : Int) := IntWalk.i64_in _ (by omega)
              have e4 : ((total - Sh.pre Q j : Nat) : Int) - (Q j : Int) = ((total - (Sh.pre Q j + Q j) : Nat) : Int) := by omega
              have e5 : IntKind.i64.wrap ((total - (Sh.pre Q j + Q j) : Nat) : Int) = ((total - (Sh.pre Q j + Q j) : Nat) : Int) := IntWalk.i64_in _ (by omega)
              have hs := Lib.hid (Sh.pre_succ Q j)
              clear hxx hx hp1
              generalize total * W j / 18446744073709551616 = X1 at *
              generalize total * W j % 18446744073709551616 = X2 at *
              go_upto_region 22 with (first
                | (go_at_call 24; refine (hM.out _).mono ?_; rintro e W2 ⟨rfl, rfl⟩)
                | (go_at_call 25; refine (hD.out _).mono ?_; rintro e W3 ⟨rfl, nq, rfl⟩))
              have HT2 := Lib.hid (HT.out.drewN nq)
              clear HT hcell hM hD
              generalize W2.drewN nq = wx at *
              have T := HT2.out
              have c1 := T.cap
              obtain ⟨y1, c2⟩ := T.p.some j hlt
              obtain ⟨y2, c3⟩ := T.r.some j hlt
              obtain ⟨y3, c4⟩ := T.o.some j hlt
              have f2 := T.p.free j hlt
              have f3 := T.r.free j hlt
              have f4 := T.o.free j hlt
              obtain ⟨n1, n2, n3, n4, n5, n6⟩ := T.ne
              have n1' := Ne.symm n1
              have n2' := Ne.symm n2
              have n3' := Ne.symm n3
              have n4' := Ne.symm n4
              have n5' := Ne.symm n5
              have n6' := Ne.symm n6
              clear T e1 e2
              go_cut [] (fun W3 => Three w W3 n (j + 1) (j + 1) (j + 1) gp gr go cr Q R)
              case first =>
                as_aux_lemma =>
                  go_big_region
                  all_goals go_wp2_with fail
                  all_goals go_meet
                  all_goals exact (((HT2.out.setP hlt).setR hlt).setO hlt).drew
              case rest =>
                have HT3 := Lib.hid hcut
                clear hcut HT2 c1 c2 c3 c4 f2 f3 f4
                go_wp2
                go_roundw
                case rel => exact ⟨j + 1, by omega, by go_num, by rw [hs.out], HT3.out⟩
                case measure => simp [intOf]; omega
            · obtain rfl : n = j := by omega
              rw [HL.out]
              obtain ⟨wo, rfl⟩ : ∃ wo : World, wo = wr := ⟨_, rfl⟩
              have HS := Lib.hid (sortStable_calls wo wo go n n cr R (fun i => i) (by omega) (HT.out.cmp (by omega)) HT.out.row (fun i hi => hi) h1 (fun i j k1 k2 k3 _ => k2))
              have z1 : (0 : Int) ≤ (L : Int) := by omega
              have z2 : (L : Int) ≤ n := by have := hL.out; omega
              have z3 : L ≤ n := by have := hL.out; omega
              go_wp2_with (first | (go_at_call 26; refine HS.out.mono ?_; rintro e w1 ⟨rfl, f, r1, s1, u1⟩; have HR := Lib.hid r1; have HU := Lib.hid (And.intro s1 u1); clear r1 s1 u1))
              have hf := Lib.hid (show ∀ i, i < n → f i < n from fun i hi => by obtain ⟨j, _, j2, e⟩ := HU.out.2.sub i (Nat.zero_le _) hi; rw [e]; exact j2)
              go_loopw [114] (fun i wr => ∃ j : Nat, j ≤ L ∧ i = .int .i64 j ∧ Row w1 wr gp n (Sh.bump Q f j)) (fun i _ => L - (intOf i).toNat)
              case atStart => exact ⟨0, Nat.zero_le _, rfl, HT.out.parts HR.out⟩
              case round =>
                obtain ⟨j, hj, rfl, hr⟩ := hrel
                by_cases hlt2 : j < L
                · have y1 : (j : Int) < L := by omega
                  have y2 : (0 : Int) ≤ j := by omega
                  have hfj := hf.out j (by omega)
                  have c1 := hr.keep.cell (HR.out.cell j (by omega)) (fun e => (HT.out.ne.2.1 e.symm).elim)
                  have c2 := hr.cell (f j) hfj
                  have c3 := hr.free (f j) hfj
                  have hb := Sh.bump_le Q f j (f j)
                  have hb2 := hql.out (f j) hfj
                  have HB := Lib.hid (hr.bump hfj)
                  clear hr
                  generalize Sh.bump Q f j (f j) = X at *
                  generalize f j = F at *
                  have y3 : (0 : Int) ≤ F := by omega
                  have y4 : (F : Int) < n := by omega
                  have y5 : IntKind.i64.wrap ((X : Int) + 1) = (X : Int) + 1 := IntWalk.i64_in _ (by omega)
                  go_wp2
                  go_roundw
                  case rel => exact ⟨j + 1, by omega, by go_num, HB.out⟩
                  case measure => simp [intOf]; omega
                · obtain rfl : L = j := by omega
                  have HR2 := Lib.hid hr
                  clear hr
                  go_wp2
                  go_ret2
                  refine ⟨gp, f, rfl, hcr.1, ?_, HU.out.1, hf.out, HR2.out.cell, HR2.out.free⟩
                  have b1 := HT.out.below.trans (HR.out.keep.toBelow HT.out.below.size (fun i hi => hi ▸ hcr.2.2.1))
                  exact b1.trans (HR2.out.keep.toBelow b1.size (fun i hi => hi ▸ hcr.1))
end Go.Proofs.YtpcmhlbhepickaaGreat
namespace Go.Proofs.YtpcmhlbhepickaaGreat
open Go.RowKit Go.Lib
set_option linter.unusedVariables false
set_option linter.unusedSimpArgs false

namespace Mo
def okW (x : Int) : Bool := decide (0 ≤ x) && decide (x ≤ 1000000000000000)
/-- a weight, as a number -/
def wOf (xs : List Int) (i : Nat) : Nat := (xs.getD i 0).toNat
/-- Share's error -/
def shareErr (total : Int) (xs : List Int) : Int :=
  if total < 0 then 22 else if chk total ≠ 0 then 22 else if xs.length = 0 then 3 else if 4096 < xs.length then 3 else if xs.all okW = false then 4 else if Sh.pre (wOf xs) xs.length = 0 then 1 else 0
theorem wOf_at (xs : List Int) (i : Nat) (h : xs.all okW = true) (hi : i < xs.length) : xs[i]? = some (wOf xs i : Int) ∧ wOf xs i ≤ 1000000000000000 := by
  have h1 : xs[i]? = some xs[i] := List.getElem?_eq_getElem hi
  have h2 := List.all_eq_true.1 h xs[i] (List.getElem_mem hi)
  unfold okW at h2
  simp only [Bool.and_eq_true, decide_eq_true_eq] at h2
  have h3 : wOf xs i = xs[i].toNat := by unfold wOf; rw [List.getD_eq_getElem?_getD, h1]; rfl
  rw [h1, h3]
  exact ⟨by congr 1; omega, by omega⟩
end Mo
/-- Share answers no parts, and an error -/
def NoShare (w : World) (err : Int) (e : Ending) (w' : World) : Prop := e = .returned (.tuple #[.slice none 0 0, .int .i64 err]) ∧ w = w'

set_option maxHeartbeats 1000000 in
set_option maxRecDepth 100000 in
theorem share_bad (total : Int) (xs : List Int) (v : Value) (w : World) (hv : RdI w v xs) (he : Mo.shareErr total xs ≠ 0) :
    Calls Tryz.prog 18 #[.int .i64 total, v] w (NoShare w (Mo.shareErr total xs)) := by
  obtain ⟨A0, c, rfl, hlen, hc⟩ := hv
  unfold Mo.shareErr at he ⊢
  by_cases c1 : total < 0
  · rw [if_pos c1]
    have d1 : decide (total < 0) = true := decide_eq_true c1
    clear he hc c1
    go_enter Tryz.func18, Tryz.ntmps18
    go_wp2_with (first | (go_at_call 16; refine (check_calls _ _).mono ?_; rintro e W2 ⟨rfl, rfl⟩))
    go_ret2
    exact ⟨rfl, rfl⟩
  rw [if_neg c1] at he ⊢
  have d1 : decide (total < 0) = false := decide_eq_false c1
  by_cases c2 : Mo.chk total ≠ 0
  · rw [if_pos c2]
    have k1 : (Mo.chk total != 0) = true := by simpa using c2
    clear he hc c1 c2
    go_enter Tryz.func18, Tryz.ntmps18
    go_wp2_with (first | (go_at_call 16; refine (check_calls _ _).mono ?_; rintro e W2 ⟨rfl, rfl⟩))
    go_ret2
    exact ⟨rfl, rfl⟩
  rw [if_neg c2] at he ⊢
  have k1 : (Mo.chk total != 0) = false := by simpa using c2
  clear c1 c2
  by_cases c3 : xs.length = 0
  · rw [if_pos c3]
    have d2 : ((xs.length : Int) == 0) = true := by rw [c3]; rfl
    clear he hc c3
    generalize xs.length = n at *
    go_enter Tryz.func18, Tryz.ntmps18
    go_wp2_with (first | (go_at_call 16; refine (check_calls _ _).mono ?_; rintro e W2 ⟨rfl, rfl⟩))
    go_ret2
    exact ⟨rfl, rfl⟩
  rw [if_neg c3] at he ⊢
  have d2 : ((xs.length : Int) == 0) = false := by
    have : ¬ (xs.length : Int) = 0 := by omega
    simpa using this
  by_cases c4 : 4096 < xs.length
  · rw [if_pos c4]
    have d3 : decide ((4096 : Int) < (xs.length : Int)) = true := decide_eq_true (by omega)
    clear he hc c3 c4
    generalize xs.length = n at *
    go_enter Tryz.func18, Tryz.ntmps18
    go_wp2_with (first | (go_at_call 16; refine (check_calls _ _).mono ?_; rintro e W2 ⟨rfl, rfl⟩))
    go_ret2
    exact ⟨rfl, rfl⟩
  rw [if_neg c4] at he ⊢
  have d3 : decide ((4096 : Int) < (xs.length : Int)) = false := decide_eq_false (by omega)
  obtain ⟨a, rfl, hcc⟩ := hc (by omega)
  have HC := Lib.hid hcc
  clear hc hcc
  by_cases c5 : xs.all Mo.okW = false
  · rw [if_pos c5]
    have H5 := Lib.hid c5
    have hpre := Lib.hid (fun k (hk : k ≤ xs.length) (h : ∀ i, i < k → Mo.wOf xs i ≤ 1000000000000000) => Nat.le_trans (Sh.pre_le (Mo.wOf xs) 1000000000000000 k h) (Nat.mul_le_mul_right 1000000000000000 (show k ≤ 4096 by omega)))
    clear he c3 c5
    go_enter Tryz.func18, Tryz.ntmps18
    go_wp2_with (first | (go_at_call 16; refine (check_calls _ _).mono ?_; rintro e W2 ⟨rfl, rfl⟩))
    go_loop [6, 40] (fun s i => ∃ k : Nat, k ≤ xs.length ∧ i = .int .i64 k ∧ s = .int .u64 (Sh.pre (Mo.wOf xs) k : Int) ∧ (∀ j x, j < k → xs[j]? = some x → Mo.okW x = true ∧ Mo.wOf xs j ≤ 1000000000000000)) (fun _ i => xs.length - (intOf i).toNat)
    case atStart => exact ⟨0, Nat.zero_le _, rfl, rfl, fun j x hj => by omega⟩
    case round =>
      obtain ⟨k, hk, rfl, rfl, hg⟩ := hrel
      by_cases hlt : k < xs.length
      · have hx : xs[k]? = some xs[k] := List.getElem?_eq_getElem hlt
        have hcell := HC.out k _ hx
        have hw0 : Mo.wOf xs k = xs[k].toNat := by unfold Mo.wOf; rw [List.getD_eq_getElem?_getD, hx]; rfl
        have z1 : (k : Int) < xs.length := by omega
        have z2 : (0 : Int) ≤ k := by omega
        have HG := Lib.hid hg
        have HX := Lib.hid hx
        have hp := hpre.out k hk (fun i hi => (hg i _ hi (List.getElem?_eq_getElem (by omega))).2)
        have hs := Lib.hid (Sh.pre_succ (Mo.wOf xs) k)
        have HW0 := Lib.hid hw0
        clear hg hx hw0
        generalize xs[k] = x at *
        generalize Sh.pre (Mo.wOf xs) k = P at *
        by_cases b1 : x < 0
        · have e1 : decide (x < 0) = true := decide_eq_true b1
          go_wp2
          go_ret2
          exact ⟨rfl, rfl⟩
        · have e1 : decide (x < 0) = false := decide_eq_false b1
          by_cases b2 : 1000000000000000 < x
          · have e2 : decide ((1000000000000000 : Int) < x) = true := decide_eq_true b2
            go_wp2
            go_ret2
            exact ⟨rfl, rfl⟩
          · have e2 : decide ((1000000000000000 : Int) < x) = false := decide_eq_false b2
            have e3 : IntKind.u64.wrap x = x := by rw [IntKind.wrap_u64]; omega
            have e4 : IntKind.u64.wrap ((P : Int) + x) = (P : Int) + x := by rw [IntKind.wrap_u64]; omega
            go_wp2
            go_round
            case rel =>
              refine ⟨k + 1, by omega, by go_num, by rw [hs.out, HW0.out]; go_num, fun j y hj hy => ?_⟩
              by_cases hjk : j < k
              · exact HG.out j y hjk hy
              · obtain rfl : j = k := by omega
                obtain rfl : x = y := Option.some.inj (HX.out.symm.trans hy)
                rw [HW0.out]
                exact ⟨by unfold Mo.okW; simp; omega, by omega⟩
            case measure => simp [intOf]; omega
      · exfalso
        have : xs.all Mo.okW = true := by
          rw [List.all_eq_true]
          intro x hx
          obtain ⟨j, hj, rfl⟩ := List.getElem_of_mem hx
          exact (hg j _ (by omega) (List.getElem?_eq_getElem hj)).1
        have h5 := H5.out
        rw [this] at h5
        cases h5
  rw [if_neg c5] at he ⊢
  have c5' : xs.all Mo.okW = true := by simpa using c5
  have HW := Lib.hid (fun j hj => Mo.wOf_at xs j c5' hj)
  by_cases c6 : Sh.pre (Mo.wOf xs) xs.length = 0
  · rw [if_pos c6]
    have H6 := Lib.hid c6
    have hpre := Lib.hid (fun k (hk : k ≤ xs.length) => Nat.le_trans (Sh.pre_le (Mo.wOf xs) 1000000000000000 k (fun i hi => (HW.out i (by omega)).2)) (Nat.mul_le_mul_right 1000000000000000 (show k ≤ 4096 by omega)))
    clear he c3 c5 c5' c6
    go_enter Tryz.func18, Tryz.ntmps18
    go_wp2_with (first | (go_at_call 16; refine (check_calls _ _).mono ?_; rintro e W2 ⟨rfl, rfl⟩))
    go_loop [6, 40] (fun s i => ∃ k : Nat, k ≤ xs.length ∧ i = .int .i64 k ∧ s = .int .u64 (Sh.pre (Mo.wOf xs) k : Int)) (fun _ i => xs.length - (intOf i).toNat)
    case atStart => exact ⟨0, Nat.zero_le _, rfl, rfl⟩
    case round =>
      obtain ⟨k, hk, rfl, rfl⟩ := hrel
      by_cases hlt : k < xs.length
      · have hcell := HC.out k _ (HW.out k hlt).1
        have hwk := (HW.out k hlt).2
        have z1 : (k : Int) < xs.length := by omega
        have z2 : (0 : Int) ≤ k := by omega
        have hp := hpre.out k hk
        have hs := Lib.hid (Sh.pre_succ (Mo.wOf xs) k)
        generalize Sh.pre (Mo.wOf xs) k = P at *
        generalize Mo.wOf xs k = X at *
        have e1 : decide ((X : Int) < 0) = false := decide_eq_false (by omega)
        have e2 : decide ((1000000000000000 : Int) < (X : Int)) = false := decide_eq_false (by omega)
        have e3 : IntKind.u64.wrap (X : Int) = (X : Int) := u64w _ (by omega)
        have e4 : IntKind.u64.wrap ((P : Int) + X) = (P : Int) + X := by rw [IntKind.wrap_u64]; omega
        go_wp2
        go_round
        case rel => exact ⟨k + 1, by omega, by go_num, by rw [hs.out]; go_num⟩
        case measure => simp [intOf]; omega
      · obtain rfl : k = xs.length := by omega
        rw [H6.out]
        have e0 : (((0 : Nat) : Int) == 0) = true := rfl
        go_wp2
        go_ret2
        exact ⟨rfl, rfl⟩
  rw [if_neg c6] at he
  exact absurd rfl he
end Go.Proofs.YtpcmhlbhepickaaGreat
namespace Go.Proofs.YtpcmhlbhepickaaGreat
open Go.RowKit Go.Lib
set_option linter.unusedVariables false
set_option linter.unusedSimpArgs false

end Go.Proofs.YtpcmhlbhepickaaGreat
namespace Go.Proofs.YtpcmhlbhepickaaGreat
open Go.RowKit Go.Lib
set_option linter.unusedVariables false
set_option linter.unusedSimpArgs false

abbrev Tab (w : World) : Prop := Lib.TabIs Tryz.prog w "internal/strconv.uint64pow10" .u64 Lib.pow10Tab
end Go.Proofs.YtpcmhlbhepickaaGreat
/- Share's good answer as numbers; what is read stays so in a world that has grown -/
namespace Go.Proofs.YtpcmhlbhepickaaGreat
open Go.RowKit Go.Lib
set_option linter.unusedVariables false
set_option linter.unusedSimpArgs false
theorem share_ok (total : Int) (xs : List Int) (he : Mo.shareErr total xs = 0) :
    ∃ (T n A L : Nat) (W Q R : Nat → Nat), total = (T : Int) ∧ xs.length = n ∧ T ≤ 1000000000000000 ∧ 0 < n ∧ n ≤ 4096 ∧ (∀ i, i < n → xs[i]? = some (W i : Int)) ∧ (∀ i, i < n → W i ≤ 1000000000000000) ∧
      Sh.pre W n = A ∧ 0 < A ∧ Sh.q T A W = Q ∧ Sh.r T A W = R ∧ T - Sh.pre Q n = L := by
  unfold Mo.shareErr at he
  by_cases c1 : total < 0
  · rw [if_pos c1] at he; exact absurd he (by decide)
  rw [if_neg c1] at he
  by_cases c2 : Mo.chk total ≠ 0
  · rw [if_pos c2] at he; exact absurd he (by decide)
  rw [if_neg c2] at he
  by_cases c3 : xs.length = 0
  · rw [if_pos c3] at he; exact absurd he (by decide)
  rw [if_neg c3] at he
  by_cases c4 : 4096 < xs.length
  · rw [if_pos c4] at he; exact absurd he (by decide)
  rw [if_neg c4] at he
  by_cases c5 : xs.all Mo.okW = false
  · rw [if_pos c5] at he; exact absurd he (by decide)
  rw [if_neg c5] at he
  by_cases c6 : Sh.pre (Mo.wOf xs) xs.length = 0
  · rw [if_pos c6] at he; exact absurd he (by decide)
  have hb := chk_bound total (by simpa using c2)
  have hall : xs.all Mo.okW = true := by simpa using c5
  exact ⟨total.toNat, xs.length, _, _, Mo.wOf xs, _, _, by omega, rfl, by omega, by omega, by omega, fun i hi => (Mo.wOf_at xs i hall hi).1, fun i hi => (Mo.wOf_at xs i hall hi).2, rfl, by omega, rfl, rfl, rfl⟩
theorem RdI.below {w w1 : World} {v : Value} {xs : List Int} (h : RdI w v xs) (b : Below w.heap.size w w1) : RdI w1 v xs := by
  obtain ⟨A, c, rfl, hl, hc⟩ := h
  refine ⟨A, c, rfl, hl, fun h0 => ?_⟩
  obtain ⟨a, rfl, hx⟩ := hc h0
  exact ⟨a, rfl, fun j x hj => (b.cell (p := a.add j) (World.block_lt_of_cell? w _ (hx j x hj))).trans (hx j x hj)⟩
end Go.Proofs.YtpcmhlbhepickaaGreat
namespace Go.Proofs.YtpcmhlbhepickaaGreat
open Go.RowKit Go.Lib
set_option linter.unusedVariables false
set_option linter.unusedSimpArgs false

namespace Mo
def okI (x : Int) : Bool := chk x == 0
/-- how 'Sum' answers -/
def sumE (l : List Int) : Int × Int := if l.all okI = true then (if chk l.sum = 0 then (l.sum, 0) else (0, 22)) else (0, 22)
theorem okI_iff (x : Int) : okI x = true ↔ -1000000000000000 ≤ x ∧ x ≤ 1000000000000000 := by
  unfold okI chk
  rw [beq_iff_eq]
  by_cases h : x < -1000000000000000 ∨ 1000000000000000 < x
  · rw [if_pos h]; constructor
    · intro h2; exact absurd h2 (by decide)
    · omega
  · rw [if_neg h]; constructor
    · omega
    · intro _; rfl
theorem sum_take_succ (l : List Int) (k : Nat) (h : k < l.length) : (l.take (k + 1)).sum = (l.take k).sum + l[k] := by
  rw [List.take_succ_eq_append_getElem h, List.sum_append]
  simp
theorem all_take (l : List Int) : ∀ k, (∀ j (h : j < l.length), j < k → okI l[j] = true) → -((k : Int) * 1000000000000000) ≤ (l.take k).sum ∧ (l.take k).sum ≤ (k : Int) * 1000000000000000 := by
  intro k
  induction k with
  | zero => intro _; simp
  | succ k ih =>
    intro h
    have h1 := ih (fun j hj hk => h j hj (by omega))
    by_cases hk : k < l.length
    · rw [sum_take_succ l k hk]
      have := (okI_iff _).1 (h k hk (by omega))
      omega
    · rw [List.take_of_length_le (by omega)]
      rw [List.take_of_length_le (by omega)] at h1
      omega
end Mo
theorem add64_0 (x y : Int) (hx : 0 ≤ x) (hy : 0 ≤ y) (w : World) : (callFunc 23 #[.int .u64 x, .int .u64 y, .int .u64 0]).run Tryz.prog w =
    .ok (.value (.tuple #[.int .u64 ((x + y) % 18446744073709551616), .int .u64 ((x + y) / 18446744073709551616)])) w := by
  rw [run_callFunc_extern Tryz.func23 (by kernel_rfl) (by kernel_rfl) (by kernel_rfl) (e := add64Entry) (by kernel_rfl), run_add64 x y 0 hx hy (by omega) (by omega)]
  simp only [Result.andThen, Int.add_zero]

set_option maxRecDepth 100000 in
theorem sum_calls (xs : List Int) (v : Value) (w : World) (hv : RdI w v xs) :
    Calls Tryz.prog 12 #[v] w fun e w' => e = .returned (.tuple #[.int .i64 (Mo.sumE xs).1, .int .i64 (Mo.sumE xs).2]) ∧ w = w' := by
  obtain ⟨A0, cp, rfl, hlen, hc⟩ := hv
  have HC := Lib.hid hc
  have HE := Lib.hid (show Mo.sumE xs = Mo.sumE xs from rfl)
  clear hc
  go_enter Tryz.func12, Tryz.ntmps12
  go_wp2_with fail
  go_loop [4, 5, 12] (fun s l i => ∃ (k : Nat) (H L : Int), k ≤ xs.length ∧ i = .int .i64 k ∧ s = .int .i64 H ∧ l = .int .u64 L ∧ 0 ≤ L ∧ L < 18446744073709551616 ∧ (xs.take k).sum = H * 18446744073709551616 + L ∧ (∀ j (h : j < xs.length), j < k → Mo.okI xs[j] = true)) (fun _ _ i => xs.length - (intOf i).toNat)
  case atStart => exact ⟨0, 0, 0, Nat.zero_le _, rfl, rfl, rfl, by decide, by decide, by simp, fun j _ hj => by omega⟩
  case round =>
    obtain ⟨k, H, L, hk, rfl, rfl, rfl, hL0, hL1, hT, hg⟩ := hrel
    have HG := Lib.hid hg
    have hTb := Mo.all_take xs k hg
    rw [hT] at hTb
    have HT := Lib.hid hT
    clear hg hT
    by_cases hlt : k < xs.length
    · obtain ⟨a, rfl, hcc⟩ := HC.out (by omega)
      have hx : xs[k]? = some xs[k] := List.getElem?_eq_getElem hlt
      have hcell := hcc k _ hx
      have z1 : (k : Int) < xs.length := by omega
      have z2 : (0 : Int) ≤ k := by omega
      have HX := Lib.hid (Mo.sum_take_succ xs k hlt)
      have HK := Lib.hid (show Mo.okI xs[k] = true → ∀ j (h : j < xs.length), j < k + 1 → Mo.okI xs[j] = true from fun h1 j h hj => by
        rcases Nat.lt_or_ge j k with h2 | h2
        · exact HG.out j h h2
        · have : j = k := by omega
          subst this; exact h1)
      have HB := Lib.hid (show Mo.okI xs[k] = false → Mo.sumE xs = (0, 22) from fun h1 => by
        unfold Mo.sumE
        rw [if_neg]
        intro h2
        rw [List.all_eq_true] at h2
        have := h2 _ (List.getElem_mem hlt)
        rw [h1] at this
        cases this)
      clear hcc hx
      generalize xs[k] = x at *
      by_cases b : Mo.chk x = 0
      · have hok : Mo.okI x = true := by unfold Mo.okI; rw [b]; rfl
        have hxb := (Mo.okI_iff x).1 hok
        have k1 : (Mo.chk x != 0) = false := by rw [b]; rfl
        obtain ⟨u, hu, hu2⟩ : ∃ u, IntKind.u64.wrap x = u ∧ u = (if x < 0 then x + 18446744073709551616 else x) := ⟨_, rfl, by rw [IntKind.wrap_u64]; split <;> omega⟩
        obtain ⟨sg, hs, hs2⟩ : ∃ sg, x / 9223372036854775808 = sg ∧ sg = (if x < 0 then -1 else 0) := ⟨_, rfl, by split <;> omega⟩
        have hadd := fun w => add64_0 L u hL0 (by rw [hu2]; split <;> omega) w
        obtain ⟨S, hS⟩ : ∃ S, (L + u) % 18446744073709551616 = S := ⟨_, rfl⟩
        obtain ⟨C, hC⟩ : ∃ C, (L + u) / 18446744073709551616 = C := ⟨_, rfl⟩
        rw [hS, hC] at hadd
        have hu0 : 0 ≤ u ∧ u < 18446744073709551616 := by rw [hu2]; split <;> omega
        have hC2 : 0 ≤ C ∧ C ≤ 1 := by omega
        have hkey : H * 18446744073709551616 + L + x = (H + (sg + C)) * 18446744073709551616 + S := by
          have e1 : u = x - sg * 18446744073709551616 := by rw [hu2, hs2]; split <;> omega
          omega
        have hS2 : 0 ≤ S ∧ S < 18446744073709551616 := by omega
        have hsg : -1 ≤ sg ∧ sg ≤ 0 := by rw [hs2]; split <;> omega
        have w1 : IntKind.i64.wrap C = C := IntWalk.i64_in _ (by omega)
        have w2 : IntKind.i64.wrap (sg + C) = sg + C := IntWalk.i64_in _ (by omega)
        have hH : -600000000000000 ≤ H + (sg + C) ∧ H + (sg + C) ≤ 600000000000000 ∧ -600000000000000 ≤ H ∧ H ≤ 600000000000000 := by omega
        have w3 : IntKind.i64.wrap (H + (sg + C)) = H + (sg + C) := IntWalk.i64_in _ (by omega)
        have HF := Lib.hid (And.intro hkey (And.intro hS2 hok))
        clear hu2 hs2 hkey hS hC hS2 hTb hxb hu0 hok
        go_wp2_with (first | (go_at_call 16; refine (check_calls _ _).mono ?_; rintro e W2 ⟨rfl, rfl⟩) | simp only [hadd])
        go_round
        case rel => exact ⟨k + 1, H + (sg + C), S, by omega, by go_num, rfl, rfl, HF.out.2.1.1, HF.out.2.1.2, by rw [HX.out, HT.out]; exact HF.out.1, HK.out HF.out.2.2⟩
        case measure => simp [intOf]; omega
      · have hno := HB.out (by unfold Mo.okI; simpa using b)
        have k1 : (Mo.chk x != 0) = true := by simpa using b
        clear hTb
        go_wp2_with (first | (go_at_call 16; refine (check_calls _ _).mono ?_; rintro e W2 ⟨rfl, rfl⟩))
        go_ret2
        rw [hno]
        exact ⟨rfl, rfl⟩
    · obtain rfl : xs.length = k := by omega
      have hall : xs.all Mo.okI = true := by
        rw [List.all_eq_true]
        intro x hx
        obtain ⟨j, hj, rfl⟩ := List.getElem_of_mem hx
        exact HG.out j hj hj
      have hT := HT.out
      rw [List.take_of_length_le (Nat.le_refl _)] at hT
      obtain ⟨s, hs, hs2⟩ : ∃ s, IntKind.i64.wrap L = s ∧ s = (if L < 9223372036854775808 then L else L - 18446744073709551616) := ⟨_, rfl, by rw [IntKind.wrap_i64]; split <;> omega⟩
      obtain ⟨g, hg, hg2⟩ : ∃ g, s / 9223372036854775808 = g ∧ g = (if L < 9223372036854775808 then 0 else -1) := ⟨_, rfl, by rw [hs2]; split <;> omega⟩
      have hse : Mo.sumE xs = if Mo.chk xs.sum = 0 then (xs.sum, 0) else (0, 22) := by unfold Mo.sumE; rw [if_pos hall]
      clear HG HT HC
      by_cases hh : H = g
      · have hTs : xs.sum = s := by rw [hT, hh, hg2, hs2]; split <;> omega
        rw [hTs] at hse
        have b1 : (H != g) = false := by simpa using hh
        by_cases b : Mo.chk s = 0
        · have k1 : (Mo.chk s != 0) = false := by rw [b]; rfl
          have HSE := Lib.hid (hse.trans (if_pos b))
          clear hTb hs2 hg2 hT hse hTs hall
          go_wp2_with (first | (go_at_call 16; refine (check_calls _ _).mono ?_; rintro e W2 ⟨rfl, rfl⟩))
          go_ret2
          rw [HSE.out]
          exact ⟨rfl, rfl⟩
        · have k1 : (Mo.chk s != 0) = true := by simpa using b
          have HSE := Lib.hid (hse.trans (if_neg b))
          clear hTb hs2 hg2 hT hse hTs hall
          go_wp2_with (first | (go_at_call 16; refine (check_calls _ _).mono ?_; rintro e W2 ⟨rfl, rfl⟩))
          go_ret2
          rw [HSE.out]
          exact ⟨rfl, rfl⟩
      · have b1 : (H != g) = true := by simpa using hh
        have hno : ¬ Mo.chk xs.sum = 0 := by
          intro h0
          have := chk_bound _ h0
          apply hh
          rw [hg2]
          split <;> omega
        have HSE := Lib.hid (hse.trans (if_neg hno))
        clear hTb hs2 hg2 hT hse hall hno
        go_wp2_with (first | (go_at_call 16; refine (check_calls _ _).mono ?_; rintro e W2 ⟨rfl, rfl⟩))
        go_ret2
        rw [HSE.out]
        exact ⟨rfl, rfl⟩
end Go.Proofs.YtpcmhlbhepickaaGreat
/- the list of Share's parts -/
namespace Go.Proofs.YtpcmhlbhepickaaGreat
open Go.RowKit Go.Lib
set_option linter.unusedVariables false
set_option linter.unusedSimpArgs false
namespace Wh
/-- the parts, as a list -/
def pl (n : Nat) (B : Nat → Nat) : List Int := (List.range n).map (fun i => (B i : Int))
theorem pl_len (n : Nat) (B : Nat → Nat) : (pl n B).length = n := by simp [pl]
theorem pl_at (n : Nat) (B : Nat → Nat) (i : Nat) (h : i < n) : (pl n B)[i]? = some (B i : Int) := by simp [pl, h]
theorem pl_sum (n : Nat) (B : Nat → Nat) : (pl n B).sum = (Sh.pre B n : Int) := by
  induction n with
  | zero => rfl
  | succ n ih =>
    have e : pl (n + 1) B = pl n B ++ [(B n : Int)] := by unfold pl; rw [List.range_succ, List.map_append]; rfl
    rw [e, List.sum_append, ih, Sh.pre_succ, List.sum_cons, List.sum_nil]
    omega
theorem pl_sumE (n : Nat) (B : Nat → Nat) (h : Sh.pre B n ≤ 1000000000000000) : Mo.sumE (pl n B) = ((Sh.pre B n : Int), 0) := by
  have hall : (pl n B).all Mo.okI = true := by
    rw [List.all_eq_true]
    intro x hx
    obtain ⟨i, hi, rfl⟩ := List.mem_map.1 hx
    have h1 := Sh.le_pre B i n (List.mem_range.1 hi)
    exact (Mo.okI_iff _).2 (by omega)
  unfold Mo.sumE
  rw [if_pos hall, pl_sum, if_pos (by unfold Mo.chk; rw [if_neg (by omega)])]
end Wh
end Go.Proofs.YtpcmhlbhepickaaGreat
