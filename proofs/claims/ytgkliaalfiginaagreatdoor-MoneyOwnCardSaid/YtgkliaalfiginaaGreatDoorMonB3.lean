import Derived.Test.YtgkliaalfiginaaGreatDoorMonB1
/- MoneyOwn: lists put into the book; the walk -/
namespace Go.Proofs.YtgkliaalfiginaaGreatDoor
open Go.RowKit Go.Lib
set_option linter.unusedVariables false
set_option linter.unusedSimpArgs false
namespace Bk
/-- the rows that the book holds -/
def rows (n i : Nat) (G : Nat → Nat) : List Value := (List.range i).map (fun j => Value.slice (some ⟨G j, 0, none⟩) n n)
theorem rows_len (n i : Nat) (G : Nat → Nat) : (rows n i G).length = i := by simp [rows]
theorem rows_at (n i : Nat) (G : Nat → Nat) (j : Nat) (h : j < i) : (rows n i G)[j]? = some (.slice (some ⟨G j, 0, none⟩) n n) := by simp [rows, h]
theorem rows_succ (n i gp : Nat) (G : Nat → Nat) : rows n i G ++ [.slice (some ⟨gp, 0, none⟩) n n] = rows n (i + 1) (fun j => if j = i then gp else G j) := by
  apply List.ext_getElem?
  intro j
  rcases Nat.lt_trichotomy j i with h | h | h
  · rw [List.getElem?_append_left (by rw [rows_len]; exact h), rows_at n i G j h, rows_at n (i + 1) _ j (by omega), if_neg (by omega)]
  · subst h
    rw [List.getElem?_append_right (by rw [rows_len]; exact Nat.le_refl _), rows_at n (j + 1) _ j (by omega), rows_len, if_pos rfl, Nat.sub_self]
    rfl
  · rw [List.getElem?_eq_none (by simp [rows_len]; omega), List.getElem?_eq_none (by rw [rows_len]; omega)]
/-- the book b holds i lists -/
structure St (w wr : World) (b n i : Nat) (G : Nat → Nat) (v : Value) : Prop where
  below : Below w.heap.size w wr
  wb : w.heap.size ≤ b
  c5 : wr.cell? ⟨b, 5, none⟩ = some v
  f5 : wr.frozen? ⟨b, 5, none⟩ = false
  own : wr.ownsRow (b + 1) 51 1 v i (rows n i G)
  nils : ∀ k, k < 24 → k ≠ 5 → wr.cell? ⟨b, k, none⟩ = some (.slice none 0 0)
  has : ∀ j k, j < i → k < n → ∃ x, wr.cell? ⟨G j, k, none⟩ = some (.int .i64 x)
  free : ∀ j k, j < i → k < n → wr.frozen? ⟨G j, k, none⟩ = false
  gb : ∀ j, j < i → b < G j ∧ G j < wr.heap.size
  inj : ∀ j k, j < i → k < i → G j = G k → j = k
  far : ∀ j, j < i → v.ownBlock ≠ some (G j)
namespace St
variable {w wr w2 : World} {b n i : Nat} {G : Nat → Nat} {v : Value}
theorem blt (h : St w wr b n i G v) : b < wr.heap.size := World.block_lt_of_cell? wr _ h.c5
theorem later (h : St w wr b n i G v) (hb : Below wr.heap.size wr w2) : St w w2 b n i G v := by
  have hl := h.blt
  refine ⟨h.below.trans (hb.mono h.below.size), h.wb, (hb.cell (p := ⟨b, 5, none⟩) hl).trans h.c5, (hb.frozen (p := ⟨b, 5, none⟩) hl).trans h.f5, own_below h.own hb, fun k h1 h2 => (hb.cell (p := ⟨b, k, none⟩) hl).trans (h.nils k h1 h2), fun j k h1 h2 => ?_, fun j k h1 h2 => (hb.frozen (p := ⟨G j, k, none⟩) (h.gb j h1).2).trans (h.free j k h1 h2), fun j h1 => ⟨(h.gb j h1).1, Nat.lt_of_lt_of_le (h.gb j h1).2 hb.size⟩, h.inj, h.far⟩
  obtain ⟨x, hx⟩ := h.has j k h1 h2
  exact ⟨x, (hb.cell (p := ⟨G j, k, none⟩) (h.gb j h1).2).trans hx⟩
end St
end Bk
set_option maxHeartbeats 1000000 in
set_option maxRecDepth 100000 in
theorem book_money (w wr : World) (b n i gp : Nat) (G : Nat → Nat) (v : Value) (h : Bk.St w wr b n i G v) (hi : i < 2) (hn0 : 0 < n) (hc : ∀ k, k < n → ∃ x, wr.cell? ⟨gp, k, none⟩ = some (.int .i64 x)) (hf : ∀ k, k < n → wr.frozen? ⟨gp, k, none⟩ = false)
    (hG : ∀ j, j < i → G j < gp) (hbg : b < gp) (hvg : v.ownBlock ≠ some gp) :
    Calls Tryz.prog 6 #[.pointer (some ⟨b, 0, none⟩), .slice (some ⟨gp, 0, none⟩) n n] wr fun e w' => e = .returned (.tuple #[]) ∧ ∃ v', Bk.St w w' b n (i + 1) (fun j => if j = i then gp else G j) v' := by
  obtain ⟨i1, kinfo, kz0, kz1, kz2⟩ := info_parts infoL
  have H := Lib.hid h
  have hgl : gp < wr.heap.size := by obtain ⟨x, hx⟩ := hc 0 hn0; exact World.block_lt_of_cell? wr _ hx
  have HC := Lib.hid (And.intro hc (And.intro hf hG))
  have hbl := h.blt
  have c5 := h.c5
  have f5 := h.f5
  have d0 : decide ((0 : Int) < n) = true := decide_eq_true (by omega)
  have hvb : some b ≠ v.ownBlock := fun e => by have := (h.own.lt _ e.symm).1; omega
  clear h hc hf hG
  go_enter Tryz.func6, Tryz.ntmps6
  go_wp2_with (first | (at_builtin; refine wpList_append_lies _ rfl _ _ 30 rfl (b + 1) 51 i1 _ 1 24 Tryz.underlying30 kinfo kz0 kz1 kz2 rfl (by decide) v i (Bk.rows n i G) rfl (H.out.own.alloc _) ⟨wr.heap.size, 0, none⟩ 1 1 [.slice (some ⟨gp, 0, none⟩) n n] rfl rfl (World.news_of_block (cs := #[.slice (some ⟨gp, 0, none⟩) n n]) (t := 51) (fr := (0, 0)) (heap_alloc_new wr _)) (by simp [Value.oneCell']) (by decide) (by unfold maxLen; omega) (by omega) (by simp; omega) (wr.heap.size + 1) (by simp) ?_))
  intro gg cap w3 hown hgrow hat hlt
  have hsz : (wr.alloc (.cells #[.slice (some ⟨gp, 0, none⟩) n n] 51)).heap.size = wr.heap.size + 1 := by simp
  have hw3 := hgrow.size
  rw [hsz] at hw3
  have cf : ∀ a : Addr, a.block < wr.heap.size → some a.block ≠ v.ownBlock → w3.cell? a = wr.cell? a := fun a ha hne => (hgrow.cell_far a (by omega) hne).trans (World.cell?_of_block (Below.heap_alloc wr _ _ ha))
  have ff : ∀ a : Addr, a.block < wr.heap.size → some a.block ≠ v.ownBlock → w3.frozen? a = wr.frozen? a := fun a ha hne => (hgrow.frozen_far a (by omega) hne).trans (World.frozen?_of_block (Below.heap_alloc wr _ _ ha))
  have c5' := (cf ⟨b, 5, none⟩ hbl hvb).trans c5
  have f5' := (ff ⟨b, 5, none⟩ hbl hvb).trans f5
  have CF := Lib.hid (And.intro cf (And.intro ff (And.intro hown (And.intro hgrow (And.intro hat hlt)))))
  clear cf ff hown hgrow hat hlt c5 f5
  go_wp2_with fail
  go_end0
  obtain ⟨cf, ff, hown, hgrow, hat, hlt⟩ := CF.out
  have hne : gg ≠ b := fun e => by have := (hown.lt gg rfl).1; omega
  have sb : ∀ a : Addr, a.block ≠ b → ∀ u, (w3.setCell ⟨b, 5, none⟩ u).cell? a = w3.cell? a := fun a ha u => World.cell?_setCell_other _ _ _ _ (fun e => ha (by rw [← e]))
  have hss : ∀ u, (w3.setCell ⟨b, 5, none⟩ u).heap.size = w3.heap.size := fun u => by simp [World.setCell]
  have hgv : ∀ j, j < i → some (G j) ≠ v.ownBlock := fun j hj e => H.out.far j hj e.symm
  have hvg' : some gp ≠ v.ownBlock := fun e => hvg e.symm
  refine ⟨rfl, .slice (some ⟨gg, 0, none⟩) (i + 1) cap, ?_, H.out.wb, ?_, ?_, ?_, ?_, ?_, ?_, ?_, ?_, ?_⟩
  · exact ((((H.out.below.alloc H.out.below.size _).grown hgrow (by have := H.out.below.size; omega) (fun q h => by have := (H.out.own.lt q h).1; have := H.out.wb; omega))).setCell (p := ⟨b, 5, none⟩) H.out.wb _)
  · exact World.cell?_setCell_same _ _ _ c5'
  · rw [World.frozen?_setCell]; exact f5'
  · rw [← Bk.rows_succ]
    exact ((Keep.refl (fun x => x = b) w3).setCell (p := ⟨b, 5, none⟩) (fun _ => rfl) _).row hown (fun k hk e => by
      have : gg = k := by simpa [Value.ownBlock] using hk
      omega)
  · intro k h1 h2
    rw [World.cell?_setCell_other _ _ _ _ (fun e => h2 (by injection e with _ e2; exact e2.symm))]
    exact (cf ⟨b, k, none⟩ hbl hvb).trans (H.out.nils k h1 h2)
  · intro j k h1 h2
    by_cases e : j = i
    · subst e
      obtain ⟨x, hx⟩ := HC.out.1 k h2
      refine ⟨x, ?_⟩
      simp only [if_pos]
      rw [sb _ (show gp ≠ b by omega)]
      exact (cf ⟨gp, k, none⟩ hgl hvg').trans hx
    · have hj : j < i := by omega
      obtain ⟨x, hx⟩ := H.out.has j k hj h2
      refine ⟨x, ?_⟩
      simp only [if_neg e]
      rw [sb _ (show G j ≠ b by have := (H.out.gb j hj).1; omega)]
      exact (cf ⟨G j, k, none⟩ (H.out.gb j hj).2 (hgv j hj)).trans hx
  · intro j k h1 h2
    rw [World.frozen?_setCell]
    by_cases e : j = i
    · subst e
      simp only [if_pos]
      exact (ff ⟨gp, k, none⟩ hgl hvg').trans (HC.out.2.1 k h2)
    · have hj : j < i := by omega
      simp only [if_neg e]
      exact (ff ⟨G j, k, none⟩ (H.out.gb j hj).2 (hgv j hj)).trans (H.out.free j k hj h2)
  · intro j h1
    rw [hss]
    by_cases e : j = i
    · simp only [if_pos e]
      exact ⟨hbg, by omega⟩
    · have hj : j < i := by omega
      simp only [if_neg e]
      exact ⟨(H.out.gb j hj).1, by have := (H.out.gb j hj).2; omega⟩
  · intro j k h1 h2 h3
    by_cases e : j = i
    · by_cases e2 : k = i
      · omega
      · simp only [if_pos e, if_neg e2] at h3
        have := HC.out.2.2 k (by omega)
        omega
    · by_cases e2 : k = i
      · simp only [if_neg e, if_pos e2] at h3
        have := HC.out.2.2 j (by omega)
        omega
      · simp only [if_neg e, if_neg e2] at h3
        exact H.out.inj j k (by omega) (by omega) h3
  · intro j h1 h2
    have h3 : gg = (if j = i then gp else G j) := by simpa [Value.ownBlock] using h2
    by_cases e : j = i
    · rw [if_pos e] at h3
      rcases hat with h | h
      · exact hvg (by rw [h, h3])
      · omega
    · rw [if_neg e] at h3
      have hj : j < i := by omega
      rcases hat with h | h
      · exact H.out.far j hj (by rw [h, h3])
      · have := (H.out.gb j hj).2
        omega
end Go.Proofs.YtgkliaalfiginaaGreatDoor
