import Derived.Test.YtgkliaalfiginaaGreatDoorMonB3
import Derived.Test.YtgkliaalfiginaaGreatDoorMonB4
/- the walk of MoneyOwn -/
namespace Go.Proofs.YtgkliaalfiginaaGreatDoor
open Go.RowKit Go.Lib
set_option linter.unusedVariables false
set_option linter.unusedSimpArgs false
theorem book_nil (b : Nat) (w : World) : Calls Tryz.prog 6 #[.pointer (some ⟨b, 0, none⟩), .slice none 0 0] w fun e w' => e = .returned (.tuple #[]) ∧ w = w' := by
  go_enter Tryz.func6, Tryz.ntmps6
  go_wp2_with fail
  go_end0
  exact ⟨rfl, rfl⟩
/-- an empty book -/
def Bk.none24 : Array Value := #[.slice none 0 0, .slice none 0 0, .slice none 0 0, .slice none 0 0, .slice none 0 0, .slice none 0 0, .slice none 0 0, .slice none 0 0, .slice none 0 0, .slice none 0 0, .slice none 0 0, .slice none 0 0, .slice none 0 0, .slice none 0 0, .slice none 0 0, .slice none 0 0, .slice none 0 0, .slice none 0 0, .slice none 0 0, .slice none 0 0, .slice none 0 0, .slice none 0 0, .slice none 0 0, .slice none 0 0]
theorem Bk.none24_at : ∀ k, k < 24 → Bk.none24[k]? = some (.slice none 0 0) := fun k hk => match k, hk with
  | 0, _ => rfl
  | 1, _ => rfl
  | 2, _ => rfl
  | 3, _ => rfl
  | 4, _ => rfl
  | 5, _ => rfl
  | 6, _ => rfl
  | 7, _ => rfl
  | 8, _ => rfl
  | 9, _ => rfl
  | 10, _ => rfl
  | 11, _ => rfl
  | 12, _ => rfl
  | 13, _ => rfl
  | 14, _ => rfl
  | 15, _ => rfl
  | 16, _ => rfl
  | 17, _ => rfl
  | 18, _ => rfl
  | 19, _ => rfl
  | 20, _ => rfl
  | 21, _ => rfl
  | 22, _ => rfl
  | 23, _ => rfl
  | n + 24, h => absurd h (by omega)
theorem book_new (w : World) (T : TypeId) : ∀ k, k < 24 → (w.alloc (.cells Bk.none24 T)).cell? ⟨w.heap.size, k, none⟩ = some (.slice none 0 0) := fun k hk => blk_cell (heap_alloc_new w _) k (Bk.none24_at k hk)
set_option maxRecDepth 100000 in
theorem own_bad (total : Int) (xs : List Int) (v : Value) (w : World) (hv : RdI w v xs) (he : Mo.shareErr total xs ≠ 0) :
    Calls Tryz.prog 3 #[.int .i64 total, v] w fun e w' => e = .returned (.bool true) ∧ Below w.heap.size w w' := by
  have HS := Lib.hid (fun w1 (b : Below w.heap.size w w1) => share_bad total xs v w1 (hv.below b) he)
  obtain ⟨er, her⟩ : ∃ er, Mo.shareErr total xs = er := ⟨_, rfl⟩
  rw [her] at HS he
  clear hv he her
  go_enter Tryz.func3, Tryz.ntmps3
  go_wp2_with (first
    | (go_at_call 4; refine (works_calls _).mono ?_; rintro e w1 ⟨rfl, b1⟩; have B1 := Lib.hid b1; clear b1))
  obtain ⟨W, hW⟩ : ∃ W, w1.alloc (.cells Bk.none24 50) = W := ⟨_, rfl⟩
  have B2 := Lib.hid (show Below w.heap.size w W by rw [← hW]; exact B1.out.alloc B1.out.size _)
  have HN := Lib.hid (show ∀ k, k < 24 → k ≠ 24 → W.cell? ⟨w1.heap.size, k, none⟩ = some (.slice none 0 0) by rw [← hW]; exact fun k hk _ => book_new w1 _ k hk)
  unfold Bk.none24 at hW
  rw [hW]
  clear hW
  go_loop [6] (fun u => ∃ i : Nat, i ≤ 2 ∧ u = .int .i64 i) (fun u => 2 - (intOf u).toNat)
  case atStart => exact ⟨0, Nat.zero_le _, rfl⟩
  case round =>
    obtain ⟨i, hi, rfl⟩ := hrel
    by_cases hlt : i < 2
    · have z1 : (i : Int) < 2 := by omega
      go_wp2_with (first
        | (go_at_call 5; refine (HS.out _ B2.out).mono ?_; rintro e w2 ⟨rfl, rfl⟩)
        | (go_at_call 6; refine (book_nil _ _).mono ?_; rintro e w2 ⟨rfl, rfl⟩))
      go_round
      case rel => exact ⟨i + 1, by omega, by go_num⟩
      case measure => simp [intOf]; omega
    · obtain rfl : i = 2 := by omega
      go_wp2_with (first
        | (go_at_call 7; refine (apart_none _ _ HN.out).mono ?_; rintro e w2 ⟨rfl, rfl⟩))
      go_ret
      exact ⟨by first | rfl | simp, B2.out⟩
theorem RdI.before {w w1 w2 : World} (b1 : Below w.heap.size w w1) (b2 : Below w1.heap.size w1 w2) : Below w.heap.size w w2 := b1.trans (b2.mono b1.size)
set_option maxHeartbeats 4000000 in
set_option maxRecDepth 100000 in
theorem own_good (total : Int) (xs : List Int) (v : Value) (w : World) (hv : RdI w v xs) (he : Mo.shareErr total xs = 0) :
    Calls Tryz.prog 3 #[.int .i64 total, v] w fun e w' => e = .returned (.bool true) ∧ Below w.heap.size w w' := by
  obtain ⟨T, n, A, L, W, Q, R, rfl, hn, hT, h1, h2, hx, hw, hA, ha, hQ, hR, hL⟩ := share_ok total xs he
  have HS := Lib.hid (fun w1 (b : Below w.heap.size w w1) => share_good T n A L xs W Q R v w1 (hv.below b) hn hT h1 h2 hx hw hA ha hQ hR hL)
  clear hv he hx hw hA ha hQ hR hL
  go_enter Tryz.func3, Tryz.ntmps3
  go_wp2_with (first
    | (go_at_call 4; refine (works_calls _).mono ?_; rintro e w1 ⟨rfl, b1⟩; have B1 := Lib.hid b1; clear b1))
  obtain ⟨W2, hW⟩ : ∃ W2, w1.alloc (.cells Bk.none24 50) = W2 := ⟨_, rfl⟩
  have HSt := Lib.hid (show Bk.St w W2 w1.heap.size n 0 (fun _ => 0) (.slice none 0 0) by
    rw [← hW]
    exact ⟨B1.out.alloc B1.out.size _, B1.out.size, book_new w1 _ 5 (by decide), blk_free (heap_alloc_new w1 _) 5, World.ownsRow_nil _ _ _ _, fun k h _ => book_new w1 _ k h, fun j k h => absurd h (by omega), fun j k h => absurd h (by omega), fun j h => absurd h (by omega), fun j k h => absurd h (by omega), fun j h => absurd h (by omega)⟩)
  unfold Bk.none24 at hW
  rw [hW]
  clear hW
  go_loopw [6] (fun u wr => ∃ i : Nat, i ≤ 2 ∧ u = .int .i64 i ∧ ∃ G v', Bk.St w wr w1.heap.size n i G v') (fun u _ => 2 - (intOf u).toNat)
  case atStart => exact ⟨0, Nat.zero_le _, rfl, _, _, HSt.out⟩
  case round =>
    clear HSt
    obtain ⟨i, hi, rfl, G, v', hst⟩ := hrel
    have H := Lib.hid hst
    clear hst
    by_cases hlt : i < 2
    · have z1 : (i : Int) < 2 := by omega
      go_wp2_with (first
        | (go_at_call 5; refine (HS.out _ H.out.below).mono ?_; rintro e w2 ⟨gp, f, rfl, hge, b2, hs, hf, hcell, hfree⟩
           have H2 := Lib.hid (H.out.later b2)
           have HM := Lib.hid (book_money w w2 w1.heap.size n i gp G v' H2.out hlt h1 (fun k hk => ⟨_, hcell k hk⟩) hfree (fun j hj => Nat.lt_of_lt_of_le (H.out.gb j hj).2 hge) (Nat.lt_of_lt_of_le H.out.blt hge) (fun e => by have := (H.out.own.lt _ e).2; omega))
           clear hs hf hcell hfree b2 hge)
        | (go_at_call 6; refine HM.out.mono ?_; rintro e w3 ⟨rfl, v3, h3⟩; have H3 := Lib.hid h3; clear h3 HM H2))
      go_roundw
      case rel => exact ⟨i + 1, by omega, by go_num, _, v3, H3.out⟩
      case measure => simp [intOf]; omega
    · obtain rfl : i = 2 := by omega
      obtain ⟨R', c', hv'⟩ := own_form H.out.own (by decide)
      have HAp := Lib.hid (apart_some w1.heap.size 2 n R' c' G wr H.out.nils (by decide) (by decide) h1 h2 (by
          rcases H.out.own.2 with ⟨hh, _⟩ | ⟨g, cap, cur, hh, _, _, hcap, _⟩
          · rw [hh] at hv'; cases hv'
          · rw [hh] at hv'; injection hv' with _ _ e3; omega) (by rw [H.out.c5, hv'])
        ⟨Keep.refl _ _, fun a b _ _ h => absurd h (by omega), fun a b ha hb => H.out.has a b ha hb, fun a b ha hb => H.out.free a b ha hb, fun a ha => by
          have := H.out.own.cells (g := R') (by rw [hv']; rfl) a _ (Bk.rows_at n 2 G a ha)
          rwa [Addr.add_lit, Nat.zero_add] at this, fun a ha e => H.out.far a ha (by rw [hv', e]; rfl), fun a b ha hb h => H.out.inj a b ha hb h⟩
        (fun j hj e => by have := (H.out.gb j hj).1; omega))
      have HB := Lib.hid (fun w2 (k2 : Keep (fun x => ∃ j, j < 2 ∧ x = G j) wr w2) => H.out.below.trans (k2.toBelow H.out.below.size (fun x ⟨j, hj, e⟩ => by have := (H.out.gb j hj).1; have := H.out.wb; omega)))
      clear H HS hv'
      go_wp2_with (first
        | (go_at_call 7; refine HAp.out.mono ?_; rintro e w2 ⟨rfl, k2⟩; have HB2 := Lib.hid (HB.out _ k2); clear k2))
      go_ret
      exact ⟨by first | rfl | simp, HB2.out⟩
theorem own_walk (total : Int) (v : Value) (xs : List Int) (w : World) (_ : (Lit.int .i64 total).wf = true) (hv : RdI w v xs) :
    Calls Tryz.prog 3 #[.int .i64 total, v] w fun e w' => e = .returned (.bool true) ∧ Below w.heap.size w w' := by
  by_cases he : Mo.shareErr total xs = 0
  · exact own_good total xs v w hv he
  · exact own_bad total xs v w hv he
end Go.Proofs.YtgkliaalfiginaaGreatDoor
