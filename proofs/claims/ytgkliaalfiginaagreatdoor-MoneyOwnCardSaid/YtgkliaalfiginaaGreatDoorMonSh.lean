import Derived.Test.YtgkliaalfiginaaGreatDoorMonQ7
import Derived.Test.YtgkliaalfiginaaGreatDoorMonQ4
import Derived.Test.YtgkliaalfiginaaGreatDoorMonQ5
import Derived.RegionTactic
import Derived.BigRegion
namespace Go.Proofs.YtgkliaalfiginaaGreatDoor
open Go.RowKit Go.Lib
set_option linter.unusedVariables false
set_option linter.unusedSimpArgs false

theorem add_block (a : Addr) (j : Nat) : (a.add j).block = a.block := by unfold Addr.add; split <;> rfl
/-- a value reads as a list of numbers -/
def RdI (w : World) (v : Value) (xs : List Int) : Prop := ∃ A c, v = .slice A xs.length c ∧ xs.length ≤ 9223372036854775807 ∧ (0 < xs.length → ∃ a, A = some a ∧ ∀ j x, xs[j]? = some x → w.cell? (a.add j) = some (.int .i64 x))
theorem RdI.keep {F : Nat → Prop} {w w1 : World} {v : Value} {xs : List Int} (h : RdI w v xs) (k : Keep F w w1) (hn : ∀ a n c, v = .slice (some a) n c → ¬ F a.block) : RdI w1 v xs := by
  obtain ⟨A, c, rfl, h2, h3⟩ := h
  refine ⟨A, c, rfl, h2, fun h0 => ?_⟩
  obtain ⟨a, rfl, hc⟩ := h3 h0
  exact ⟨a, rfl, fun j x hj => k.cell (hc j x hj) (by rw [add_block]; exact hn a _ _ rfl)⟩
theorem infoM : (Tryz.prog.info? 22).map (fun i => (i.zero, i.size, i.bytes)) = some (some (.int .i64 0), 1, 8) := by kernel_rfl
theorem infoU : (Tryz.prog.info? 65).map (fun i => (i.zero, i.size, i.bytes)) = some (some (.int .u64 0), 1, 8) := by kernel_rfl
theorem infoI : (Tryz.prog.info? 3).map (fun i => (i.zero, i.size, i.bytes)) = some (some (.int .i64 0), 1, 8) := by kernel_rfl
/-- a row of n cells, each z -/
def zeros (z : Value) (n : Nat) : Array Value := madeCells z.cells (n * 1)
theorem make_run (t e : TypeId) (z : Value) (ht : Tryz.prog.underlying t = some (.slice e)) (hi : (Tryz.prog.info? e).map (fun i => (i.zero, i.size, i.bytes)) = some (some z, 1, 8)) (n : Nat) (hn : n ≤ 4096) (w : World) :
    (Instr.makeSlice t (.int .i64 n) (.int .i64 n)).run Tryz.prog w = .ok (.slice (some ⟨w.heap.size, 0, none⟩) n n) (w.alloc (.cells (zeros z n) e)) := by
  obtain ⟨i0, hinfo, hz0, hz1, hz2⟩ := info_parts hi
  have h := run_makeSlice (P := Tryz.prog) (w := w) t e i0 z ht hinfo hz0 .i64 .i64 n n (by omega) (by omega) (by rw [hz1]; omega) (by rw [hz2]; omega) (by omega)
  rw [hz1] at h
  exact h
/-- what Share makes at first -/
structure Made (w : World) (n : Nat) (p q o : Value) (W : World) (gp gr go cr : Nat) : Prop where
  p : p = .slice (some ⟨gp, 0, none⟩) n n
  q : q = .pointer (some ⟨cr, 0, none⟩)
  o : o = .slice (some ⟨go, 0, none⟩) n n
  b : w.heap.size ≤ gp ∧ w.heap.size ≤ gr ∧ w.heap.size ≤ go ∧ w.heap.size ≤ cr
  d : gp ≠ gr ∧ gp ≠ go ∧ gp ≠ cr ∧ gr ≠ go ∧ gr ≠ cr ∧ go ≠ cr
  below : Below w.heap.size w W
  hp : W.heap[gp]? = some (.cells (zeros (.int .i64 0) n) 22)
  hr : W.heap[gr]? = some (.cells (zeros (.int .u64 0) n) 65)
  ho : W.heap[go]? = some (.cells (zeros (.int .i64 0) n) 3)
  hc : W.heap[cr]? = some (.cells #[.slice (some ⟨gr, 0, none⟩) n n] 66)
def IsMade (w : World) (n : Nat) (p q o : Value) (W : World) : Prop := ∃ gp gr go cr, Made w n p q o W gp gr go cr
theorem push_at {α : Type} (h : Array α) (x : α) (i : Nat) (hi : i < h.size) : (h.push x)[i]? = h[i]? := by rw [Array.getElem?_push, if_neg (by omega)]
theorem push_new {α : Type} (h : Array α) (x : α) (i : Nat) (hi : i = h.size) : (h.push x)[i]? = some x := by rw [Array.getElem?_push, if_pos hi]
theorem alloc4 (w : World) (A B C D : Obj) : ((((w.alloc A).alloc B).alloc C).alloc D).drew.heap[w.heap.size]? = some A ∧ ((((w.alloc A).alloc B).alloc C).alloc D).drew.heap[w.heap.size + 1]? = some B ∧
    ((((w.alloc A).alloc B).alloc C).alloc D).drew.heap[w.heap.size + 1 + 1]? = some C ∧ ((((w.alloc A).alloc B).alloc C).alloc D).drew.heap[w.heap.size + 1 + 1 + 1]? = some D ∧ Below w.heap.size w ((((w.alloc A).alloc B).alloc C).alloc D).drew := by
  refine ⟨?_, ?_, ?_, ?_, ?_⟩
  · show ((((w.heap.push A).push B).push C).push D)[w.heap.size]? = _
    rw [push_at _ _ _ (by simp; omega), push_at _ _ _ (by simp; omega), push_at _ _ _ (by simp), push_new _ _ _ rfl]
  · show ((((w.heap.push A).push B).push C).push D)[w.heap.size + 1]? = _
    rw [push_at _ _ _ (by simp), push_at _ _ _ (by simp), push_new _ _ _ (by simp)]
  · show ((((w.heap.push A).push B).push C).push D)[w.heap.size + 1 + 1]? = _
    rw [push_at _ _ _ (by simp), push_new _ _ _ (by simp)]
  · show ((((w.heap.push A).push B).push C).push D)[w.heap.size + 1 + 1 + 1]? = _
    rw [push_new _ _ _ (by simp)]
  · have h := (((((Below.refl w.heap.size w).alloc (Nat.le_refl _) A).alloc (by simp) B).alloc (by simp; omega) C).alloc (by simp; omega) D)
    exact ⟨h.os, h.tape, h.output, h.size, h.block⟩
/-- of a row of n cells the first k hold what enc says -/
structure Col (w : World) (g n k : Nat) (enc : Nat → Value) : Prop where
  done : ∀ i, i < k → w.cell? ⟨g, i, none⟩ = some (enc i)
  some : ∀ i, i < n → ∃ v, w.cell? ⟨g, i, none⟩ = some v
  free : ∀ i, i < n → w.frozen? ⟨g, i, none⟩ = false
theorem zeros_at (z : Value) (hz : z.cells = #[z]) (n i : Nat) (h : i < n) : (zeros z n)[i]? = some z := by
  unfold zeros
  rw [hz, ← Array.getElem?_toList, toList_madeCells_one, Nat.mul_one, List.getElem?_replicate, if_pos h]
namespace Col
variable {w : World} {g n k : Nat} {enc : Nat → Value}
theorem start {z : Value} (hz : z.cells = #[z]) {T : TypeId} (h : w.heap[g]? = Option.some (.cells (zeros z n) T)) : Col w g n 0 enc :=
  ⟨fun i hi => by omega, fun i hi => ⟨z, blk_cell h i (zeros_at z hz n i hi)⟩, fun i hi => blk_free h i⟩
theorem drew (h : Col w g n k enc) : Col w.drew g n k enc := ⟨h.done, h.some, h.free⟩
theorem drewN (h : Col w g n k enc) (q : Nat) : Col (w.drewN q) g n k enc := ⟨h.done, h.some, h.free⟩
theorem other (h : Col w g n k enc) (g' j : Nat) (v : Value) (hne : g' ≠ g) : Col (w.setCell ⟨g', j, none⟩ v) g n k enc := by
  have e : ∀ i, (w.setCell ⟨g', j, none⟩ v).cell? ⟨g, i, none⟩ = w.cell? ⟨g, i, none⟩ := fun i => World.cell?_setCell_other _ _ _ _ (fun h => hne (by injection h))
  exact ⟨fun i hi => (e i).trans (h.done i hi), fun i hi => by rw [e i]; exact h.some i hi, fun i hi => by rw [World.frozen?_setCell]; exact h.free i hi⟩
theorem set (h : Col w g n k enc) (hk : k < n) : Col (w.setCell ⟨g, k, none⟩ (enc k)) g n (k + 1) enc := by
  obtain ⟨v, hv⟩ := h.some k hk
  have e : ∀ i, i ≠ k → (w.setCell ⟨g, k, none⟩ (enc k)).cell? ⟨g, i, none⟩ = w.cell? ⟨g, i, none⟩ := fun i hi => World.cell?_setCell_other _ _ _ _ (fun h => hi (by injection h with _ h2; exact h2.symm))
  have e2 := World.cell?_setCell_same w ⟨g, k, none⟩ (enc k) hv
  refine ⟨fun i hi => ?_, fun i hi => ?_, fun i hi => by rw [World.frozen?_setCell]; exact h.free i hi⟩
  · by_cases c : i = k
    · rw [c]; exact e2
    · rw [e i c]; exact h.done i (by omega)
  · by_cases c : i = k
    · rw [c]; exact ⟨_, e2⟩
    · rw [e i c]; exact h.some i hi
end Col
/-- Share's three rows, so far -/
structure Three (w wr : World) (n kp kr ko gp gr go cr : Nat) (q r : Nat → Nat) : Prop where
  below : Below w.heap.size w wr
  cap : wr.cell? ⟨cr, 0, none⟩ = some (.slice (some ⟨gr, 0, none⟩) n n)
  p : Col wr gp n kp (fun i => .int .i64 (q i : Int))
  r : Col wr gr n kr (fun i => .int .u64 (r i : Int))
  o : Col wr go n ko (fun i => .int .i64 (i : Int))
  lo : w.heap.size ≤ gp ∧ w.heap.size ≤ gr ∧ w.heap.size ≤ go ∧ w.heap.size ≤ cr
  ne : gp ≠ gr ∧ gp ≠ go ∧ gp ≠ cr ∧ gr ≠ go ∧ gr ≠ cr ∧ go ≠ cr
namespace Three
variable {w wr : World} {n kp kr ko gp gr go cr : Nat} {q r : Nat → Nat}
theorem drew (h : Three w wr n kp kr ko gp gr go cr q r) : Three w wr.drew n kp kr ko gp gr go cr q r :=
  ⟨⟨h.below.os, h.below.tape, h.below.output, h.below.size, h.below.block⟩, h.cap, h.p.drew, h.r.drew, h.o.drew, h.lo, h.ne⟩
theorem drewN (h : Three w wr n kp kr ko gp gr go cr q r) (j : Nat) : Three w (wr.drewN j) n kp kr ko gp gr go cr q r :=
  ⟨⟨h.below.os, h.below.tape, h.below.output, h.below.size, h.below.block⟩, h.cap, h.p.drewN j, h.r.drewN j, h.o.drewN j, h.lo, h.ne⟩
theorem cap_other (h : Three w wr n kp kr ko gp gr go cr q r) (g j : Nat) (v : Value) (hne : g ≠ cr) : (wr.setCell ⟨g, j, none⟩ v).cell? ⟨cr, 0, none⟩ = some (.slice (some ⟨gr, 0, none⟩) n n) := by
  rw [World.cell?_setCell_other _ _ _ _ (fun h => hne (by injection h))]; exact h.cap
theorem setP (h : Three w wr n kp kr ko gp gr go cr q r) (hk : kp < n) : Three w (wr.setCell ⟨gp, kp, none⟩ (.int .i64 (q kp : Int))) n (kp + 1) kr ko gp gr go cr q r :=
  ⟨h.below.setCell h.lo.1 _, h.cap_other _ _ _ h.ne.2.2.1, h.p.set hk, h.r.other _ _ _ h.ne.1, h.o.other _ _ _ h.ne.2.1, h.lo, h.ne⟩
theorem setR (h : Three w wr n kp kr ko gp gr go cr q r) (hk : kr < n) : Three w (wr.setCell ⟨gr, kr, none⟩ (.int .u64 (r kr : Int))) n kp (kr + 1) ko gp gr go cr q r :=
  ⟨h.below.setCell h.lo.2.1 _, h.cap_other _ _ _ h.ne.2.2.2.2.1, h.p.other _ _ _ (Ne.symm h.ne.1), h.r.set hk, h.o.other _ _ _ h.ne.2.2.2.1, h.lo, h.ne⟩
theorem setO (h : Three w wr n kp kr ko gp gr go cr q r) (hk : ko < n) : Three w (wr.setCell ⟨go, ko, none⟩ (.int .i64 (ko : Int))) n kp kr (ko + 1) gp gr go cr q r :=
  ⟨h.below.setCell h.lo.2.2.1 _, h.cap_other _ _ _ h.ne.2.2.2.2.2, h.p.other _ _ _ (Ne.symm h.ne.2.1), h.r.other _ _ _ (Ne.symm h.ne.2.2.2.1), h.o.set hk, h.lo, h.ne⟩
/-- the three stores, in whatever order -/
theorem all6 (h : Three w wr n kp kp kp gp gr go cr q r) (hk : kp < n) (w' : World)
    (hw : w' = (((wr.setCell ⟨gp, kp, none⟩ (.int .i64 (q kp : Int))).setCell ⟨gr, kp, none⟩ (.int .u64 (r kp : Int))).setCell ⟨go, kp, none⟩ (.int .i64 (kp : Int))).drew) :
    Three w w' n (kp + 1) (kp + 1) (kp + 1) gp gr go cr q r := by
  rw [hw]; exact (((h.setP hk).setR hk).setO hk).drew
end Three
theorem Made.three {w W : World} {n gp gr go cr : Nat} {p q o : Value} (h : Made w n p q o W gp gr go cr) (q' r' : Nat → Nat) : Three w W n 0 0 0 gp gr go cr q' r' :=
  ⟨h.below, blk_cell h.hc 0 rfl, Col.start rfl h.hp, Col.start rfl h.hr, Col.start rfl h.ho, h.b, h.d⟩
theorem Keep.free {F : Nat → Prop} {w w1 : World} (h : Keep F w w1) {a : Addr} (hl : a.block < w.heap.size) (hn : ¬ F a.block) : w1.frozen? a = w.frozen? a := by
  unfold World.frozen?
  rw [h.block a.block hl hn]
theorem Three.row {w W : World} {n gp gr go cr : Nat} {q r : Nat → Nat} (h : Three w W n n n n gp gr go cr q r) : Row W W go n (fun i => i) :=
  ⟨Keep.refl _ _, h.o.done, h.o.free⟩
theorem Three.cmp {w W : World} {n gp gr go cr : Nat} {q r : Nat → Nat} (h : Three w W n n n n gp gr go cr q r) (hn : n < 4611686018427387904) : CmpOk W go n cr r := fun w' x y hx hy k =>
  share1_calls cr gr n x y r w' ⟨⟨n, k.cell h.cap (fun e => h.ne.2.2.2.2.2 e.symm)⟩, fun i hi => k.cell (h.r.done i hi) (fun e => h.ne.2.2.2.1 e)⟩ hx hy hn
theorem Three.parts {w W W1 : World} {n gp gr go cr : Nat} {q r f : Nat → Nat} (h : Three w W n n n n gp gr go cr q r) (k : Row W W1 go n f) : Row W1 W1 gp n q :=
  ⟨Keep.refl _ _, fun i hi => k.keep.cell (h.p.done i hi) (fun e => h.ne.2.1 e), fun i hi => by
    obtain ⟨v, hv⟩ := h.p.some i hi
    rw [k.keep.free (a := ⟨gp, i, none⟩) (World.block_lt_of_cell? _ _ hv) (fun e => h.ne.2.1 e)]
    exact h.p.free i hi⟩
theorem Row.bump {w0 w : World} {g n : Nat} {p f : Nat → Nat} {j : Nat} (h : Row w0 w g n (Sh.bump p f j)) (hj : f j < n) :
    Row w0 (w.setCell ⟨g, f j, none⟩ (.int .i64 ((Sh.bump p f j (f j) : Int) + 1))) g n (Sh.bump p f (j + 1)) := by
  refine ⟨h.keep.setCell (fun _ => rfl) _, fun x hx => ?_, fun x hx => by rw [World.frozen?_setCell]; exact h.free x hx⟩
  rw [Sh.bump_succ]
  by_cases c : x = f j
  · subst c
    simp only [if_pos]
    rw [World.cell?_setCell_same _ _ _ (h.cell _ hx)]
    simp
  · simp only [if_neg c]
    rw [World.cell?_setCell_other _ _ _ _ (fun e => c (by injection e with _ e2; exact e2.symm))]
    exact h.cell x hx
/-- what Share answers: n parts in a new row -/
def Shared (w : World) (n L : Nat) (Q R : Nat → Nat) (e : Ending) (w' : World) : Prop :=
  ∃ (gp : Nat) (f : Nat → Nat), e = .returned (.tuple #[.slice (some ⟨gp, 0, none⟩) n n, .int .i64 0]) ∧ w.heap.size ≤ gp ∧ Below w.heap.size w w' ∧ St.Srt R f 0 n ∧ (∀ i, i < n → f i < n) ∧
    (∀ i, i < n → w'.cell? ⟨gp, i, none⟩ = some (.int .i64 (Sh.bump Q f L i : Int))) ∧ (∀ i, i < n → w'.frozen? ⟨gp, i, none⟩ = false)

set_option maxHeartbeats 4000000 in
set_option maxRecDepth 100000 in
theorem share_good (total n A L : Nat) (xs : List Int) (W Q R : Nat → Nat) (v : Value) (w : World) (hv : RdI w v xs) (hn : xs.length = n) (ht : total ≤ 1000000000000000) (h1 : 0 < n) (h2 : n ≤ 4096) (hx : ∀ i, i < n → xs[i]? = some (W i : Int)) (hw : ∀ i, i < n → W i ≤ 1000000000000000)
    (hA : Sh.pre W n = A) (ha : 0 < A) (hQ : Sh.q total A W = Q) (hR : Sh.r total A W = R) (hLe : total - Sh.pre Q n = L) :
    Calls Tryz.prog 5 #[.int .i64 total, v] w (Shared w n L Q R) := by
  obtain ⟨A0, c, rfl, hlen, hc⟩ := hv
  rw [hn] at hlen hc ⊢
  obtain ⟨a, rfl, hcc⟩ := hc h1
  have HC := Lib.hid (fun j (hj : j < n) => hcc j _ (hx j hj))
  have HW := Lib.hid hw
  have hL := Lib.hid (show Sh.pre Q n ≤ total ∧ L < n by subst hA hQ hLe; have := Sh.left total n W ha h1; exact ⟨this.1, this.2.2⟩)
  have hql := Lib.hid (show ∀ j, j < n → Q j ≤ total by subst hA hQ; exact fun j hj => Sh.q_le_total total _ W j (Sh.le_pre W j n hj) ha)
  have hpl := Lib.hid (show ∀ j, j ≤ n → Sh.pre Q j ≤ total by subst hA hQ; exact fun j hj => Sh.q_le total n W ha h1 j hj)
  have hx64 := Lib.hid (show ∀ j, j < n → total * W j / 18446744073709551616 < A by
    subst hA
    intro j hj
    rw [Nat.div_lt_iff_lt_mul (by omega)]
    have e1 := Nat.mul_le_mul ht (Sh.le_pre W j n hj)
    omega)
  have hq := Lib.hid (show ∀ j, Q j = total * W j / A ∧ R j = total * W j % A by subst hQ hR; exact fun j => ⟨rfl, rfl⟩)
  have hpre := Lib.hid (fun k (hk : k ≤ n) => Nat.le_trans (Sh.pre_le W 1000000000000000 k (fun i hi => HW.out i (by omega))) (Nat.mul_le_mul_right 1000000000000000 (show k ≤ 4096 by omega)))
  have hAb : A ≤ 4096 * 1000000000000000 := by rw [← hA]; exact hpre.out n (Nat.le_refl n)
  have HA := Lib.hid hA
  have HL := Lib.hid hLe
  have hax : a.block < w.heap.size := by have := World.block_lt_of_cell? w _ (HC.out 0 h1); rwa [add_block] at this
  clear hc hw hx hcc hA hQ hR hn hLe
  have d1 : decide ((total : Int) < 0) = false := decide_eq_false (by omega)
  have k1 : (Mo.chk (total : Int) != 0) = false := by unfold Mo.chk; rw [if_neg (by omega)]; rfl
  have d2 : ((n : Int) == 0) = false := by simp; omega
  have d3 : decide ((4096 : Int) < (n : Int)) = false := decide_eq_false (by omega)
  go_enter Tryz.func5, Tryz.ntmps5
  go_wp2_with (first | (go_at_call 12; refine (check_calls _ _).mono ?_; rintro e W2 ⟨rfl, rfl⟩))
  go_loop [6, 40] (fun s i => ∃ k : Nat, k ≤ n ∧ i = .int .i64 k ∧ s = .int .u64 (Sh.pre W k : Int)) (fun _ i => n - (intOf i).toNat)
  case atStart => exact ⟨0, Nat.zero_le _, rfl, rfl⟩
  case round =>
    obtain ⟨k, hk, rfl, rfl⟩ := hrel
    by_cases hlt : k < n
    · have hcell := HC.out k hlt
      have z1 : (k : Int) < n := by omega
      have z2 : (0 : Int) ≤ k := by omega
      have hwk := HW.out k hlt
      have e1 : decide ((W k : Int) < 0) = false := decide_eq_false (by omega)
      have e2 : decide ((1000000000000000 : Int) < (W k : Int)) = false := decide_eq_false (by omega)
      have e3 : IntKind.u64.wrap (W k : Int) = (W k : Int) := u64w _ (by omega)
      have hp := hpre.out k hk
      have hs := Lib.hid (Sh.pre_succ W k)
      generalize Sh.pre W k = P at *
      generalize W k = X at *
      have e4 : IntKind.u64.wrap ((P : Int) + X) = (P : Int) + X := by rw [IntKind.wrap_u64]; omega
      go_wp2
      go_round
      case rel => exact ⟨k + 1, by omega, by go_num, by rw [hs.out]; go_num⟩
      case measure => simp [intOf]; omega
    · obtain rfl : n = k := by omega
      rw [HA.out]
      have e0 : ((A : Int) == 0) = false := by simp; omega
      go_upto_region 15 with (fail)
      have m1 := fun w => make_run 51 22 (.int .i64 0) Tryz.underlying51 infoM n h2 w
      have m2 := fun w => make_run 66 65 (.int .u64 0) Tryz.underlying66 infoU n h2 w
      have m3 := fun w => make_run 67 3 (.int .i64 0) Tryz.underlying67 infoI n h2 w
      obtain ⟨Z1, hZ1⟩ : ∃ Z, Z = zeros (.int .i64 0) n := ⟨_, rfl⟩
      obtain ⟨Z2, hZ2⟩ : ∃ Z, Z = zeros (.int .u64 0) n := ⟨_, rfl⟩
      rw [← hZ1] at m1 m3
      rw [← hZ2] at m2
      have HZ := Lib.hid (And.intro hZ1 hZ2)
      clear hZ1 hZ2
      go_cut [9, 10, 11] (fun p q o W => IsMade w n p q o W)
      case first =>
        as_aux_lemma =>
          go_region
          all_goals go_wp2_with fail
          all_goals go_meet
          all_goals
            obtain ⟨h0, h1', h2', h3, hb⟩ := alloc4 w _ _ _ _
            refine ⟨_, ?_, _, _, rfl, rfl, rfl, ?_, ?_, hb, ?_, ?_, ?_, ?_⟩
            rotate_right 1
            first | exact h0 | exact h1' | exact h2' | exact h3
            omega
            omega
            (rw [← HZ.out.1]; first | exact h0 | exact h1' | exact h2' | exact h3)
            (rw [← HZ.out.2]; first | exact h0 | exact h1' | exact h2' | exact h3)
            (rw [← HZ.out.1]; first | exact h0 | exact h1' | exact h2' | exact h3)
      case rest =>
        as_aux_lemma =>
          obtain ⟨gp, gr, go, cr, M⟩ := hcut
          have e1 := M.p
          have e2 := M.q
          have e3 := M.o
          subst e1 e2 e3
          have HT := Lib.hid (M.three Q R)
          have hcr := M.b
          clear M m1 m2 m3 HZ
          go_wp2
          go_loopw [12, 69] (fun l i wr => ∃ j : Nat, j ≤ n ∧ i = .int .i64 j ∧ l = .int .i64 ((total - Sh.pre Q j : Nat) : Int) ∧ Three w wr n j j j gp gr go cr Q R) (fun _ i _ => n - (intOf i).toNat)
          case atStart => exact ⟨0, Nat.zero_le _, rfl, rfl, HT.out⟩
          case round =>
            clear HT
            obtain ⟨j, hj, rfl, rfl, ht3⟩ := hrel
            have HT := Lib.hid ht3
            clear ht3
            by_cases hlt : j < n
            · have hcell := (HT.out.below.cell (p := a.add j) (by rw [add_block]; exact hax)).trans (HC.out j hlt)
              have z1 : (j : Int) < n := by omega
              have z2 : (0 : Int) ≤ j := by omega
              have hwj := HW.out j hlt
              have hqj := hql.out j hlt
              have hp1 := hpl.out (j + 1) hlt
              rw [Sh.pre_succ] at hp1
              have hx := hx64.out j hlt
              have hM := Lib.hid (fun w => Tryz.bits_Mul64 total (W j) (by omega) (by omega) w)
              have hD := Lib.hid (div64_calls (total * W j / 18446744073709551616) (total * W j % 18446744073709551616) A hx (by omega) (Nat.mod_lt _ (by decide)))
              unfold DivOk at hD
              have hxx : total * W j / 18446744073709551616 * 18446744073709551616 + total * W j % 18446744073709551616 = total * W j := by omega
              rw [hxx, ← (hq.out j).1, ← (hq.out j).2] at hD
              have e1 : IntKind.u64.wrap (total : Int) = total := u64w _ (by omega)
              have e2 : IntKind.u64.wrap (W j : Int) = (W j : Int) := u64w _ (by omega)
              have e3 : IntKind.i64.wrap (Q j : Int) = (Q j : Int) := IntWalk.i64_in _ (by omega)
              have e4 : ((total - Sh.pre Q j : Nat) : Int) - (Q j : Int) = ((total - (Sh.pre Q j + Q j) : Nat) : Int) := by omega
              have e5 : IntKind.i64.wrap ((total - (Sh.pre Q j + Q j) : Nat) : Int) = ((total - (Sh.pre Q j + Q j) : Nat) : Int) := IntWalk.i64_in _ (by omega)
              have hs := Lib.hid (Sh.pre_succ Q j)
              clear hxx hx hp1
              generalize total * W j / 18446744073709551616 = X1 at *
              generalize total * W j % 18446744073709551616 = X2 at *
              go_upto_region 22 with (first
                | (go_at_call 13; refine (hM.out _).mono ?_; rintro e W2 ⟨rfl, rfl⟩)
                | (go_at_call 14; refine (hD.out _).mono ?_; rintro e W3 ⟨rfl, nq, rfl⟩))
              have HT2 := Lib.hid (HT.out.drewN nq)
              clear HT hcell hM hD
              generalize W2.drewN nq = wx at *
              have T := HT2.out
              have c1 := T.cap
              obtain ⟨y1, c2⟩ := T.p.some j hlt
              obtain ⟨y2, c3⟩ := T.r.some j hlt
              obtain ⟨y3, c4⟩ := T.o.some j hlt
              have f2 := T.p.free j hlt
              have f3 := T.r.free j hlt
              have f4 := T.o.free j hlt
              obtain ⟨n1, n2, n3, n4, n5, n6⟩ := T.ne
              have n1' := Ne.symm n1
              have n2' := Ne.symm n2
              have n3' := Ne.symm n3
              have n4' := Ne.symm n4
              have n5' := Ne.symm n5
              have n6' := Ne.symm n6
              clear T e1 e2
              go_cut [] (fun W3 => Three w W3 n (j + 1) (j + 1) (j + 1) gp gr go cr Q R)
              case first =>
                as_aux_lemma =>
                  go_big_region
                  all_goals go_wp2_with fail
                  all_goals go_meet
                  all_goals exact (((HT2.out.setP hlt).setR hlt).setO hlt).drew
              case rest =>
                have HT3 := Lib.hid hcut
                clear hcut HT2 c1 c2 c3 c4 f2 f3 f4
                go_wp2
                go_roundw
                case rel => exact ⟨j + 1, by omega, by go_num, by rw [hs.out], HT3.out⟩
                case measure => simp [intOf]; omega
            · obtain rfl : n = j := by omega
              rw [HL.out]
              obtain ⟨wo, rfl⟩ : ∃ wo : World, wo = wr := ⟨_, rfl⟩
              have HS := Lib.hid (sortStable_calls wo wo go n n cr R (fun i => i) (by omega) (HT.out.cmp (by omega)) HT.out.row (fun i hi => hi) h1 (fun i j k1 k2 k3 _ => k2))
              have z1 : (0 : Int) ≤ (L : Int) := by omega
              have z2 : (L : Int) ≤ n := by have := hL.out; omega
              have z3 : L ≤ n := by have := hL.out; omega
              go_wp2_with (first | (go_at_call 15; refine HS.out.mono ?_; rintro e w1 ⟨rfl, f, r1, s1, u1⟩; have HR := Lib.hid r1; have HU := Lib.hid (And.intro s1 u1); clear r1 s1 u1))
              have hf := Lib.hid (show ∀ i, i < n → f i < n from fun i hi => by obtain ⟨j, _, j2, e⟩ := HU.out.2.sub i (Nat.zero_le _) hi; rw [e]; exact j2)
              go_loopw [114] (fun i wr => ∃ j : Nat, j ≤ L ∧ i = .int .i64 j ∧ Row w1 wr gp n (Sh.bump Q f j)) (fun i _ => L - (intOf i).toNat)
              case atStart => exact ⟨0, Nat.zero_le _, rfl, HT.out.parts HR.out⟩
              case round =>
                obtain ⟨j, hj, rfl, hr⟩ := hrel
                by_cases hlt2 : j < L
                · have y1 : (j : Int) < L := by omega
                  have y2 : (0 : Int) ≤ j := by omega
                  have hfj := hf.out j (by omega)
                  have c1 := hr.keep.cell (HR.out.cell j (by omega)) (fun e => (HT.out.ne.2.1 e.symm).elim)
                  have c2 := hr.cell (f j) hfj
                  have c3 := hr.free (f j) hfj
                  have hb := Sh.bump_le Q f j (f j)
                  have hb2 := hql.out (f j) hfj
                  have HB := Lib.hid (hr.bump hfj)
                  clear hr
                  generalize Sh.bump Q f j (f j) = X at *
                  generalize f j = F at *
                  have y3 : (0 : Int) ≤ F := by omega
                  have y4 : (F : Int) < n := by omega
                  have y5 : IntKind.i64.wrap ((X : Int) + 1) = (X : Int) + 1 := IntWalk.i64_in _ (by omega)
                  go_wp2
                  go_roundw
                  case rel => exact ⟨j + 1, by omega, by go_num, HB.out⟩
                  case measure => simp [intOf]; omega
                · obtain rfl : L = j := by omega
                  have HR2 := Lib.hid hr
                  clear hr
                  go_wp2
                  go_ret2
                  refine ⟨gp, f, rfl, hcr.1, ?_, HU.out.1, hf.out, HR2.out.cell, HR2.out.free⟩
                  have b1 := HT.out.below.trans (HR.out.keep.toBelow HT.out.below.size (fun i hi => hi ▸ hcr.2.2.1))
                  exact b1.trans (HR2.out.keep.toBelow b1.size (fun i hi => hi ▸ hcr.1))
end Go.Proofs.YtgkliaalfiginaaGreatDoor
