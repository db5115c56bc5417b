import Derived.Test.YtgkliaalfiginaaGreatDoorMonW0
import Derived.Deep.RegionHeldLaw
import Derived.Deep.AppendLies
import Derived.ArgAppend
import Derived.Laws.OwnMore
/- the book: lists of amounts that were handed out are marked, grown, looked at -/
namespace Go.Proofs.YtgkliaalfiginaaGreatDoor
open Go.RowKit Go.Lib
set_option linter.unusedVariables false
set_option linter.unusedSimpArgs false
namespace Bk
/-- the mark of place k of list i -/
def mk (i k : Nat) : Int := -1 - 100003 * ((i : Int) + 1) - 7 * (k : Int)
def mks (i n : Nat) : List Value := (List.range n).map (fun k => Value.int .i64 (mk i k))
theorem mks_len (i n : Nat) : (mks i n).length = n := by simp [mks]
theorem mks_at (i n k : Nat) (h : k < n) : (mks i n)[k]? = some (.int .i64 (mk i k)) := by simp [mks, h]
theorem mks_succ (i n : Nat) : mks i n ++ [.int .i64 (mk i n)] = mks i (n + 1) := by unfold mks; rw [List.range_succ, List.map_append]; rfl
end Bk
theorem mark_calls (i k : Nat) (hi : i ≤ 1000) (hk : k ≤ 1000000) (w : World) : Calls Tryz.prog 57 #[.int .i64 i, .int .i64 k] w fun e w' => e = .returned (.int .i64 (Bk.mk i k)) ∧ w = w' := by
  have r1 : IntKind.i64.wrap ((i : Int) + 1) = (i : Int) + 1 := IntWalk.i64_in _ (by omega)
  have r2 : IntKind.i64.wrap (100003 * ((i : Int) + 1)) = 100003 * ((i : Int) + 1) := IntWalk.i64_in _ (by omega)
  have r3 : IntKind.i64.wrap (-1 - 100003 * ((i : Int) + 1)) = -1 - 100003 * ((i : Int) + 1) := IntWalk.i64_in _ (by omega)
  have r4 : IntKind.i64.wrap (7 * (k : Int)) = 7 * (k : Int) := IntWalk.i64_in _ (by omega)
  have r5 : IntKind.i64.wrap (-1 - 100003 * ((i : Int) + 1) - 7 * (k : Int)) = -1 - 100003 * ((i : Int) + 1) - 7 * (k : Int) := IntWalk.i64_in _ (by omega)
  go_enter Tryz.func57, Tryz.ntmps57
  go_wp2
  go_ret
  exact ⟨by unfold Bk.mk; first | rfl | simp, rfl⟩
theorem infoL : (Tryz.prog.info? 51).map (fun i => (i.zero, i.size, i.bytes)) = some (some (.slice none 0 0), 1, 24) := by kernel_rfl
theorem own_below {w w1 : World} {base : Nat} {e : TypeId} {size : Nat} {v : Value} {n : Nat} {xs : List Value} (h : w.ownsRow base e size v n xs) (b : Below w.heap.size w w1) : w1.ownsRow base e size v n xs :=
  (Keep.of_below (F := fun _ => False) b).row h (fun _ _ x => x)
theorem own_form {w : World} {base : Nat} {e : TypeId} {size : Nat} {v : Value} {n : Nat} {xs : List Value} (h : w.ownsRow base e size v n xs) (h0 : 0 < n) : ∃ g c, v = .slice (some ⟨g, 0, none⟩) n c := by
  rcases h.2 with ⟨rfl, h1⟩ | ⟨g, cap, cur, rfl, _⟩
  · omega
  · exact ⟨g, cap, rfl⟩
theorem own_lower {w : World} {base base' : Nat} {e : TypeId} {size : Nat} {v : Value} {n : Nat} {xs : List Value} (h : w.ownsRow base e size v n xs) (hb : base' ≤ base) : w.ownsRow base' e size v n xs := by
  obtain ⟨h1, h2⟩ := h
  refine ⟨h1, ?_⟩
  rcases h2 with h2 | ⟨g, cap, cur, rfl, hg, r⟩
  · exact .inl h2
  · exact .inr ⟨g, cap, cur, rfl, Nat.le_trans hb hg, r⟩
theorem own_type {w : World} {base : Nat} {e : TypeId} {size : Nat} {v : Value} {n : Nat} {xs : List Value} (h : w.ownsRow base e size v n xs) (k : Nat) (hk : v.ownBlock = some k) : ∃ cur, w.heap[k]? = some (.cells cur e (0, 0)) := by
  rcases h.2 with ⟨rfl, _⟩ | ⟨g, cap, cur, rfl, _, hh, _⟩
  · simp [Value.ownBlock] at hk
  · have : g = k := by simpa [Value.ownBlock] using hk
    subst this
    exact ⟨cur, hh⟩
/-- rows of two types lie apart -/
theorem own_apart {w : World} {b b' : Nat} {e e' : TypeId} {s s' : Nat} {v v' : Value} {n n' : Nat} {xs xs' : List Value} (h : w.ownsRow b e s v n xs) (h' : w.ownsRow b' e' s' v' n' xs') (he : e ≠ e') : v.ownBlock = none ∨ v.ownBlock ≠ v'.ownBlock := by
  cases hv : v.ownBlock with
  | none => exact .inl rfl
  | some k =>
    right
    intro hk
    obtain ⟨c1, h1⟩ := own_type h k hv
    obtain ⟨c2, h2⟩ := own_type h' k hk.symm
    rw [h1] at h2
    injection h2 with h2
    injection h2 with _ h3
    exact he h3
namespace Bk
/-- the lists of the book, marked below place k of list i -/
structure Mk (w wr : World) (m n R : Nat) (c : Nat) (G : Nat → Nat) (i k : Nat) : Prop where
  keep : Keep (fun x => ∃ j, j < m ∧ x = G j) w wr
  done : ∀ a b, a < m → b < n → (a < i ∨ (a = i ∧ b < k)) → wr.cell? ⟨G a, b, none⟩ = some (.int .i64 (mk a b))
  has : ∀ a b, a < m → b < n → ∃ x, wr.cell? ⟨G a, b, none⟩ = some (.int .i64 x)
  free : ∀ a b, a < m → b < n → wr.frozen? ⟨G a, b, none⟩ = false
  row : ∀ a, a < m → wr.cell? ⟨R, a, none⟩ = some (.slice (some ⟨G a, 0, none⟩) n n)
  far : ∀ a, a < m → G a ≠ R
  inj : ∀ a b, a < m → b < m → G a = G b → a = b
namespace Mk
variable {w wr : World} {m n R c : Nat} {G : Nat → Nat} {i k : Nat}
theorem drew (h : Mk w wr m n R c G i k) : Mk w wr.drew m n R c G i k := ⟨h.keep.drew, h.done, h.has, h.free, h.row, h.far, h.inj⟩
theorem drewN (h : Mk w wr m n R c G i k) (q : Nat) : Mk w (wr.drewN q) m n R c G i k := ⟨h.keep.drewN q, h.done, h.has, h.free, h.row, h.far, h.inj⟩
theorem next (h : Mk w wr m n R c G i n) : Mk w wr m n R c G (i + 1) 0 :=
  ⟨h.keep, fun a b ha hb hc => h.done a b ha hb (by omega), h.has, h.free, h.row, h.far, h.inj⟩
theorem set (h : Mk w wr m n R c G i k) (hi : i < m) (hk : k < n) : Mk w (wr.setCell ⟨G i, k, none⟩ (.int .i64 (Bk.mk i k))) m n R c G i (k + 1) := by
  obtain ⟨x, hx⟩ := h.has i k hi hk
  have ne : ∀ a b, a < m → ¬ (a = i ∧ b = k) → (⟨G i, k, none⟩ : Addr) ≠ ⟨G a, b, none⟩ := fun a b ha hn e => by
    injection e with e1 e2
    exact hn ⟨(h.inj i a hi ha e1).symm, e2.symm⟩
  refine ⟨h.keep.setCell (fun _ => ⟨i, hi, rfl⟩) _, fun a b ha hb hc => ?_, fun a b ha hb => ?_, fun a b ha hb => ?_, fun a ha => ?_, h.far, h.inj⟩
  · by_cases e : a = i ∧ b = k
    · obtain ⟨rfl, rfl⟩ := e
      exact World.cell?_setCell_same _ _ _ hx
    · rw [World.cell?_setCell_other _ _ _ _ (ne a b ha e)]
      exact h.done a b ha hb (by omega)
  · by_cases e : a = i ∧ b = k
    · obtain ⟨rfl, rfl⟩ := e
      exact ⟨_, World.cell?_setCell_same _ _ _ hx⟩
    · rw [World.cell?_setCell_other _ _ _ _ (ne a b ha e)]
      exact h.has a b ha hb
  · rw [World.frozen?_setCell]; exact h.free a b ha hb
  · rw [World.cell?_setCell_other _ _ _ _ (fun e => h.far i hi (by injection e))]
    exact h.row a ha
end Mk
end Bk
set_option maxHeartbeats 4000000 in
set_option maxRecDepth 100000 in
theorem apart_money (b m n R c : Nat) (G : Nat → Nat) (w : World) (hm : m ≤ 2) (h0 : 0 < m) (hn0 : 0 < n) (hn : n ≤ 4096) (hc : m ≤ c) (hb : w.cell? ⟨b, 5, none⟩ = some (.slice (some ⟨R, 0, none⟩) m c)) (hM : Bk.Mk w w m n R c G 0 0) :
    Calls Tryz.prog 23 #[.pointer (some ⟨b, 0, none⟩)] w fun e w' => e = .returned (.bool true) ∧ Keep (fun x => ∃ j, j < m ∧ x = G j) w w' := by
  have HM := Lib.hid hM
  obtain ⟨i0, hinfo, hz0, hz1, hz2⟩ := info_parts infoM
  obtain ⟨i1, kinfo, kz0, kz1, kz2⟩ := info_parts infoL
  clear hM
  go_enter Tryz.func23, Tryz.ntmps23
  go_wp2_with fail
  go_loopw [4] (fun v wr => ∃ i : Nat, i ≤ m ∧ v = .int .i64 i ∧ Bk.Mk w wr m n R c G i 0) (fun v _ => m - (intOf v).toNat)
  case atStart => exact ⟨0, Nat.zero_le _, rfl, HM.out⟩
  case round =>
    clear HM
    obtain ⟨i, hi, rfl, hm1⟩ := hrel
    have H1 := Lib.hid hm1
    clear hm1
    by_cases hlt : i < m
    · have z1 : (i : Int) < m := by omega
      have z2 : (0 : Int) ≤ i := by omega
      go_wp2_with fail
      go_loopw [5] (fun v wr => ∃ k : Nat, k ≤ n ∧ v = .int .i64 k ∧ Bk.Mk w wr m n R c G i k) (fun v _ => n - (intOf v).toNat)
      case atStart => exact ⟨0, Nat.zero_le _, rfl, H1.out⟩
      case round =>
        obtain ⟨k, hk, rfl, hm2⟩ := hrel
        have H2 := Lib.hid hm2
        have q1 := hm2.row i hlt
        clear hm2
        by_cases hlt2 : k < n
        · have y1 : (k : Int) < n := by omega
          have y2 : (0 : Int) ≤ k := by omega
          obtain ⟨x, hx⟩ := H2.out.has i k hlt hlt2
          have hf := H2.out.free i k hlt hlt2
          have HK := Lib.hid (mark_calls i k (by omega) (by omega))
          have HS := Lib.hid (H2.out.set hlt hlt2)
          generalize Bk.mk i k = y at *
          have hS : (wr.setCell ⟨G i, k, none⟩ (.int .i64 y)).cell? ⟨R, i, none⟩ = some (.slice (some ⟨G i, 0, none⟩) n n) := (World.cell?_setCell_other _ _ _ _ (fun e => H2.out.far i hlt (by injection e))).trans q1
          go_upto_region 8 with (fail)
          go_region_held (fun w' => w'.cell? ⟨R, i, none⟩ = some (.slice (some ⟨G i, 0, none⟩) n n)) (first | go_keep | exact hS) (first | (go_at_call 57; refine (HK.out _).mono ?_; rintro e w' ⟨rfl, rfl⟩))
          all_goals go_wp2
          go_roundw
          case rel => exact ⟨k + 1, by omega, by go_num, HS.out.drew⟩
          case measure => simp [intOf]; omega
        · obtain rfl : n = k := by omega
          go_wp2_with fail
          go_roundw
          case rel => exact ⟨i + 1, by omega, by go_num, H2.out.next⟩
          case measure => simp [intOf]; omega
    · obtain rfl : m = i := by omega
      obtain ⟨W4, hW4⟩ : ∃ W4, W4 = wr := ⟨_, rfl⟩
      subst hW4
      have HR := Lib.hid (fun w2 (hb : Below W4.heap.size W4 w2) a (ha : a < m) => (hb.cell (p := ⟨R, a, none⟩) (World.block_lt_of_cell? W4 _ (H1.out.row a ha))).trans (H1.out.row a ha))
      have HD := Lib.hid (fun w2 (hb : Below W4.heap.size W4 w2) a k (ha : a < m) (hk : k < n) => (hb.cell (p := ⟨G a, k, none⟩) (World.block_lt_of_cell? W4 _ (H1.out.done a k ha hk (Or.inl ha)))).trans (H1.out.done a k ha hk (Or.inl ha)))
      have HK1 := Lib.hid H1.out.keep
      clear H1
      go_wp2_with fail
      go_loopw [6, 7] (fun v u w2 => ∃ i : Nat, i ≤ m ∧ u = .int .i64 i ∧ ∃ gs, World.ownsRow w2 W4.heap.size 51 1 v i gs ∧ (∀ a, a < i → ∃ s, gs[a]? = some s ∧ World.ownsRow w2 W4.heap.size 22 1 s (n + 20) (Bk.mks a (n + 20))) ∧ Below W4.heap.size W4 w2) (fun _ u _ => m - (intOf u).toNat)
      case atStart => exact ⟨0, Nat.zero_le _, rfl, [], World.ownsRow_nil _ _ _ _, fun a h => absurd h (by omega), Below.refl _ _⟩
      case round =>
        obtain ⟨i, hi, rfl, gs, ho, hg, hb⟩ := hrel
        have HO := Lib.hid ho
        have HGs := Lib.hid hg
        have HB := Lib.hid hb
        clear ho hg hb
        obtain ⟨W5, hW5⟩ : ∃ W5, W5 = wr := ⟨_, rfl⟩
        subst hW5
        by_cases hlt : i < m
        · have z1 : (i : Int) < m := by omega
          have z2 : (0 : Int) ≤ i := by omega
          have q1 := HR.out _ HB.out i hlt
          go_wp2_with fail
          have HDi := Lib.hid (fun w2 (hb : Below W5.heap.size W5 w2) k (hk : k < n) => HD.out w2 (HB.out.trans (hb.mono HB.out.size)) i k hlt hk)
          go_loopw [8, 9] (fun v u w2 => ∃ k : Nat, k ≤ 20 ∧ u = .int .i64 k ∧ (k = 0 ∧ v = .slice (some ⟨G i, 0, none⟩) n n ∨ 0 < k ∧ ∃ g c', v = .slice (some ⟨g, 0, none⟩) (n + k) c' ∧ World.ownsRow w2 W5.heap.size 22 1 v (n + k) (Bk.mks i (n + k))) ∧ Below W5.heap.size W5 w2) (fun _ u _ => 20 - (intOf u).toNat)
          case atStart => exact ⟨0, Nat.zero_le _, rfl, Or.inl ⟨rfl, rfl⟩, Below.refl _ _⟩
          case round =>
            obtain ⟨k, hk, rfl, hv, hb⟩ := hrel
            have HB5 := Lib.hid hb
            have hsz := hb.size
            clear hb
            by_cases hlt2 : k < 20
            · have y1 : (k : Int) < 20 := by omega
              rcases hv with ⟨rfl, rfl⟩ | ⟨hk0, g, c', rfl, hown⟩
              · have HK := Lib.hid (mark_calls i n (by omega) (by omega))
                have hs := Bk.mks_succ i n
                generalize Bk.mk i n = y at *
                go_wp2_with (first
                  | (go_at_call 57; refine (HK.out _).mono ?_; rintro e w' ⟨rfl, rfl⟩)
                  | (at_builtin; refine wpList_append_grows _ rfl _ _ 51 rfl 22 i0 (.int .i64 0) 1 8 Tryz.underlying51 hinfo hz0 hz1 hz2 rfl (by decide) (some ⟨G i, 0, none⟩) n n (Bk.mks i n) rfl (fun h => by cases h) (by rw [Bk.mks_len, Nat.mul_one]) ?olds ⟨wr.heap.size, 0, none⟩ 1 1 [.int .i64 y] rfl rfl (World.news_of_block (cs := #[.int .i64 y]) (t := 22) (fr := (0, 0)) (heap_alloc_new wr _)) (by simp [Value.oneCell']) (by omega) (by unfold maxLen; omega) (by omega) ?_))
                case olds =>
                  intro b' hb' j u hu
                  obtain rfl := Option.some.inj hb'
                  have hj : j < n := by
                    rcases Nat.lt_or_ge j n with h | h
                    · exact h
                    · rw [List.getElem?_eq_none (by rw [Bk.mks_len]; exact h)] at hu; cases hu
                  rw [Bk.mks_at i n j hj] at hu
                  obtain rfl := Option.some.inj hu
                  rw [Addr.add_lit, Nat.zero_add]
                  exact HDi.out _ (HB5.out.alloc hsz _) j hj
                intro v3 w3 hown3 hgrow3
                obtain ⟨g3, c3, rfl⟩ := own_form hown3 (by omega)
                have HO3 := Lib.hid (own_lower hown3 (show W5.heap.size ≤ wr.heap.size + 1 by omega))
                have HB3 := Lib.hid ((HB5.out.alloc hsz _).grown hgrow3 (by simp; omega) (fun q h => by cases h))
                clear hown3 hgrow3 hs
                go_wp2_with fail
                go_roundw
                case rel => exact ⟨1, by omega, by first | rfl | go_num, Or.inr ⟨by omega, g3, c3, rfl, HO3.out⟩, HB3.out⟩
                case measure => simp [intOf]
              · obtain ⟨N, hN⟩ : ∃ N, n + k = N := ⟨_, rfl⟩
                rw [hN] at hown ⊢
                have HOw := Lib.hid hown
                have HK := Lib.hid (mark_calls i N (by omega) (by omega))
                have hs := Bk.mks_succ i N
                clear hown
                generalize Bk.mk i N = y at *
                go_wp2_with (first
                  | (go_at_call 57; refine (HK.out _).mono ?_; rintro e w' ⟨rfl, rfl⟩)
                  | (at_builtin; refine wpList_append_lies _ rfl _ _ 51 rfl W5.heap.size 22 i0 _ 1 8 Tryz.underlying51 hinfo hz0 hz1 hz2 rfl (by decide) (.slice (some ⟨g, 0, none⟩) N c') N (Bk.mks i N) rfl (HOw.out.alloc _) ⟨wr.heap.size, 0, none⟩ 1 1 [.int .i64 y] rfl rfl (World.news_of_block (cs := #[.int .i64 y]) (t := 22) (fr := (0, 0)) (heap_alloc_new wr _)) (by simp [Value.oneCell']) (by decide) (by unfold maxLen; omega) (by omega) (by simp; omega) (wr.heap.size + 1) (by simp) ?_))
                intro g3 c3 w3 hown3 hgrow3 hat3 hlt3
                have HO3 := Lib.hid (show World.ownsRow w3 W5.heap.size 22 1 (.slice (some ⟨g3, 0, none⟩) (N + 1) c3) (N + 1) (Bk.mks i (N + 1)) by first | exact hown3 | (rw [← hs]; exact hown3))
                have HB3 := Lib.hid ((HB5.out.alloc hsz _).grown hgrow3 (by simp; omega) (fun q h => (HOw.out.lt q h).1))
                clear hown3 hgrow3 hs hat3 hlt3
                go_wp2_with fail
                go_roundw
                case rel => exact ⟨k + 1, by omega, by go_num, Or.inr ⟨by omega, g3, c3, by rw [show n + (k + 1) = N + 1 by omega], by rw [show n + (k + 1) = N + 1 by omega]; exact HO3.out⟩, HB3.out⟩
                case measure => simp [intOf]; omega
            · obtain rfl : k = 20 := by omega
              rcases hv with ⟨h, _⟩ | ⟨_, g, c', rfl, hown⟩
              · omega
              have HOw := Lib.hid hown
              have HO5 := Lib.hid (own_below HO.out HB5.out)
              have hgl : gs.length = i := by have := HO.out.1; omega
              have hB45 := HB.out.trans (HB5.out.mono HB.out.size)
              have hsz4 := hB45.size
              clear hown
              go_wp2_with (first
                | (at_builtin; refine wpList_append_own_at _ rfl _ _ 30 rfl W4.heap.size 51 i1 (.slice none 0 0) 1 24 Tryz.underlying30 kinfo kz0 kz1 kz2 rfl (by decide) u6 i gs rfl (HO5.out.alloc _) ⟨wr.heap.size, 0, none⟩ 1 1 [.slice (some ⟨g, 0, none⟩) (n + 20) c'] rfl rfl (World.news_of_block (cs := #[.slice (some ⟨g, 0, none⟩) (n + 20) c']) (t := 51) (fr := (0, 0)) (heap_alloc_new wr _)) (by simp [Value.oneCell']) (by unfold maxLen; omega) (by omega) (by simp; omega) ?_))
              intro v3 w3 hown3 hgrow3 _ _
              have HR3 := Lib.hid (show ∀ a, a < i + 1 → ∃ s, (gs ++ [Value.slice (some ⟨g, 0, none⟩) (n + 20) c'])[a]? = some s ∧ World.ownsRow w3 W4.heap.size 22 1 s (n + 20) (Bk.mks a (n + 20)) by
                intro a ha
                by_cases e : a = i
                · subst e
                  refine ⟨_, by rw [List.getElem?_append_right (by omega), hgl, Nat.sub_self]; rfl, ?_⟩
                  exact ((own_lower HOw.out HB.out.size).alloc _).kept hgrow3 (own_apart (own_lower HOw.out HB.out.size) HO5.out (by decide))
                · obtain ⟨s, h1, h2⟩ := HGs.out a (by omega)
                  refine ⟨s, by rw [List.getElem?_append_left (by omega)]; exact h1, ?_⟩
                  have h3 := own_below h2 HB5.out
                  exact (h3.alloc _).kept hgrow3 (own_apart h3 HO5.out (by decide)))
              have HO3 := Lib.hid hown3
              have HB3 := Lib.hid ((hB45.alloc hsz4 _).grown hgrow3 (by simp; omega) (fun q h => (HO5.out.lt q h).1))
              clear hown3 hgrow3 hB45 hgl
              go_wp2_with fail
              go_roundw
              case rel => exact ⟨i + 1, by omega, by go_num, _, HO3.out, HR3.out, HB3.out⟩
              case measure => simp [intOf]; omega
        · obtain rfl : m = i := by omega
          obtain ⟨S, c6, rfl⟩ := own_form HO.out h0
          have HS1 := Lib.hid (show ∀ a, a < m → ∃ H c', W5.cell? ⟨S, a, none⟩ = some (.slice (some ⟨H, 0, none⟩) (n + 20) c') ∧ ∀ k, k < n + 20 → W5.cell? ⟨H, k, none⟩ = some (.int .i64 (Bk.mk a k)) from fun a ha => by
            obtain ⟨s, h1, h2⟩ := HGs.out a ha
            obtain ⟨H, c', rfl⟩ := own_form h2 (by omega)
            refine ⟨H, c', ?_, fun k hk => ?_⟩
            · have := HO.out.cells (g := S) rfl a _ h1
              rwa [Addr.add_lit, Nat.zero_add] at this
            · have := h2.cells (g := H) rfl k _ (Bk.mks_at a (n + 20) k hk)
              rwa [Addr.add_lit, Nat.zero_add] at this)
          have HR5 := Lib.hid (HR.out _ HB.out)
          have HD5 := Lib.hid (HD.out _ HB.out)
          have HF := Lib.hid (HK1.out.below HB.out)
          clear HO HGs HB HR HD HK1
          go_wp2_with fail
          go_loop [10] (fun v => ∃ a : Nat, a ≤ m ∧ v = .int .i64 a) (fun v => m - (intOf v).toNat)
          case atStart => exact ⟨0, Nat.zero_le _, rfl⟩
          case round =>
            obtain ⟨a, ha, rfl⟩ := hrel
            by_cases hlt3 : a < m
            · have z1 : (a : Int) < m := by omega
              have z2 : (0 : Int) ≤ a := by omega
              obtain ⟨H, c', q1, hmk⟩ := HS1.out a hlt3
              have HMk := Lib.hid hmk
              have q2 := HR5.out a hlt3
              clear hmk
              go_wp2_with fail
              go_loop [11] (fun v => ∃ k : Nat, k ≤ n + 20 ∧ v = .int .i64 k) (fun v => n + 20 - (intOf v).toNat)
              case atStart => exact ⟨0, Nat.zero_le _, rfl⟩
              case round =>
                obtain ⟨k, hk, rfl⟩ := hrel
                by_cases hlt4 : k < n + 20
                · have y1 : (k : Int) < ((n + 20 : Nat) : Int) := by omega
                  have y2 : (0 : Int) ≤ k := by omega
                  have q3 := HMk.out k hlt4
                  have HKm := Lib.hid (mark_calls a k (by omega) (by omega))
                  by_cases hkn : k < n
                  · have y3 : (k : Int) < n := by omega
                    have q4 := HD5.out a k hlt3 hkn
                    generalize Bk.mk a k = y at *
                    go_wp2_with (first | (go_at_call 57; refine (HKm.out _).mono ?_; rintro e w' ⟨rfl, rfl⟩))
                    go_round
                    case rel => exact ⟨k + 1, by omega, by go_num⟩
                    case measure => simp [intOf]; omega
                  · have y3 : ¬ ((k : Int) < n) := by omega
                    generalize Bk.mk a k = y at *
                    go_wp2_with (first | (go_at_call 57; refine (HKm.out _).mono ?_; rintro e w' ⟨rfl, rfl⟩))
                    go_round
                    case rel => exact ⟨k + 1, by omega, by go_num⟩
                    case measure => simp [intOf]; omega
                · obtain rfl : k = n + 20 := by omega
                  go_wp2_with fail
                  go_round
                  case rel => exact ⟨a + 1, by omega, by go_num⟩
                  case measure => simp [intOf]; omega
            · obtain rfl : m = a := by omega
              go_wp2_with fail
              go_ret
              exact ⟨by first | rfl | simp, HF.out⟩
end Go.Proofs.YtgkliaalfiginaaGreatDoor
