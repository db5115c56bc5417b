import Derived.Test.YtgkliaalfiginaaDoorMonV4
import Derived.Test.YtgkliaalfiginaaDoorMonW0
import Derived.ArgAppend
/- MoneyShares: Share and its reference answer alike (share_ref) -/
namespace Go.Proofs.YtgkliaalfiginaaDoor
open Go.RowKit Go.Lib
open Go.Proofs.YtgkliaalfiginaaDoor.PMoneyShares
open Go.Proofs.YtgkliaalfiginaaDoorW.PrintWords
set_option linter.unusedVariables false
set_option linter.unusedSimpArgs false
theorem info64 : ∃ i, Tryd.prog.info? 2 = some i ∧ i.zero = some (.int .i64 0) ∧ i.size = 1 ∧ i.bytes = 8 := by
  have h : (Tryd.prog.info? 2).map (fun i => (i.zero, i.size, i.bytes)) = some (some (.int .i64 0), 1, 8) := by kernel_rfl
  cases hi : Tryd.prog.info? 2 with
  | none => rw [hi] at h; cases h
  | some i =>
    rw [hi] at h
    have h' : (i.zero, i.size, i.bytes) = (some (.int .i64 0), 1, 8) := Option.some.inj h
    exact ⟨i, rfl, congrArg Prod.fst h', congrArg (fun p => p.2.1) h', congrArg (fun p => p.2.2) h'⟩
namespace Mo
theorem same_l (l : List Int) (hl : l.length ≤ 1048576) : ∀ n i, l.length - i = n → i ≤ l.length → lexpriorplain_SameMoney.l0 (n + 1) l l (i : Int) = some true := by
  intro n
  induction n with
  | zero =>
    intro i h1 h2
    rw [lexpriorplain_SameMoney.l0, if_neg (by omega)]
  | succ n ih =>
    intro i h1 h2
    rw [lexpriorplain_SameMoney.l0, if_pos (by omega), if_pos (by omega), if_pos (by omega), if_pos rfl, vwrap _ (by omega)]
    exact ih (i + 1) (by omega) (by omega)
theorem same_f (l : List Int) (hl : l.length ≤ 1048576) : lexpriorplain_SameMoney.f (l.length + 1) l l = some true := by
  unfold lexpriorplain_SameMoney.f
  rw [if_pos rfl]
  exact same_l l hl l.length 0 (by omega) (by omega)
end Mo
theorem rdI_of {w : World} {A : Option Addr} {c : Nat} {xs : List Int} (h : Kd.C (Kd.int .i64) w A xs.length xs) : RdI w (.slice A xs.length c) xs := by
  obtain ⟨_, h1, h2⟩ := h
  refine ⟨A, c, rfl, h1, fun hn => ?_⟩
  obtain ⟨a, rfl, hc⟩ := h2 hn
  refine ⟨a, rfl, fun j x hj => ?_⟩
  obtain ⟨cs, _, hk, hcell⟩ := hc j x hj
  have hk' : cs = [Value.int .i64 x] := hk
  subst hk'
  have h3 := hcell 0 _ rfl
  have e : j * (Kd.int IntKind.i64).sz + 0 = j := by show j * 1 + 0 = j; omega
  rw [e] at h3
  exact h3
theorem kdC_of {w : World} {A : Option Addr} {c : Nat} {xs : List Int} (h : RdI w (.slice A xs.length c) xs) : Kd.C (Kd.int .i64) w A xs.length xs := by
  obtain ⟨A', c', he, h1, h2⟩ := h
  injection he with e1 e2 e3
  subst e1
  refine ⟨rfl, h1, fun hn => ?_⟩
  obtain ⟨a, rfl, hc⟩ := h2 hn
  refine ⟨a, rfl, fun j x hj => ⟨[Value.int .i64 x], rfl, rfl, ?_⟩⟩
  intro i u hu
  have h0 : i = 0 ∧ u = Value.int .i64 x := by
    match i, hu with
    | 0, hu => exact ⟨rfl, by simpa using hu.symm⟩
    | i + 1, hu => simp at hu
  obtain ⟨rfl, rfl⟩ := h0
  have e : j * (Kd.int IntKind.i64).sz + 0 = j := by show j * 1 + 0 = j; omega
  rw [e]
  exact hc j x hj
theorem sdrawn {w w' : World} (h : Drawn0 w w') : Below w.heap.size w w' := by
  obtain ⟨n, rfl⟩ := h.out
  exact below_drewn (Below.refl _ _) n
theorem rdI_own {w : World} {base : Nat} {e : TypeId} {v : Value} {xs : List Int} (h : w.ownsRow base e 1 v xs.length (xs.map (Value.int .i64))) (hl : xs.length ≤ 9223372036854775807) : RdI w v xs := by
  rcases h.2 with ⟨rfl, h0⟩ | ⟨g, cap, cur, rfl, _, hh, h1, h2, h3, h4⟩
  · exact ⟨none, 0, by rw [h0], hl, fun hp => absurd hp (by omega)⟩
  · exact ⟨_, cap, rfl, hl, fun _ => ⟨_, rfl, fun j x hj => h.cells (g := g) rfl j (.int .i64 x) (by simp [hj])⟩⟩
/-- Share, and what its reference answers -/
theorem share_ref (T : Int) (l : List Int) (v : Value) (w : World) (hv : RdI w v l) : Calls Tryd.prog 14 #[.int .i64 T, v] w fun e w2 => Below w.heap.size w w2 ∧
    ∃ (Aa : Option Addr) (ca : Nat) (res : List Int), e = .returned (.tuple #[.slice Aa res.length ca, .int .i64 (Mo.shareErr T l)]) ∧ Kd.C (Kd.int .i64) w2 Aa res.length res ∧ res.length ≤ ca ∧ res.length ≤ 4096 ∧ ∃ k, lexpriorref02_Share.f k T l = some (res, Mo.shareErr T l) := by
  by_cases he : Mo.shareErr T l = 0
  · obtain ⟨t, n, A, L, W, Q, R, rfl, hn, hT, h1, h2, hx, hw, hA, ha, hQ, hR, hL⟩ := share_ok T l he
    refine (share_good t n A L l W Q R v w hv hn hT h1 h2 hx hw hA ha hQ hR hL).mono ?_
    rintro e w2 ⟨gp, f, rfl, hge, b2, hs, hf, hcell, -⟩
    have hlen := Mo.Gl_len n (fun i => (Sh.bump Q f L i : Int))
    have hrd : RdI w2 (.slice (some ⟨gp, 0, none⟩) (Mo.Gl n (fun i => (Sh.bump Q f L i : Int))).length n) (Mo.Gl n (fun i => (Sh.bump Q f L i : Int))) := by
      refine ⟨_, n, rfl, by omega, fun _ => ⟨_, rfl, fun j x hj => ?_⟩⟩
      have hjn : j < n := by
        rcases Nat.lt_or_ge j n with c | c
        · exact c
        · rw [List.getElem?_eq_none (by omega)] at hj; cases hj
      have hx : x = (Sh.bump Q f L j : Int) := by
        unfold Mo.Gl at hj
        simp [hjn] at hj
        exact hj.symm
      rw [hx]
      have e : (⟨gp, 0, none⟩ : Addr).add j = ⟨gp, j, none⟩ := by rw [Addr.add_lit, Nat.zero_add]
      rw [e]
      exact hcell j hjn
    refine ⟨b2, some ⟨gp, 0, none⟩, n, Mo.Gl n (fun i => (Sh.bump Q f L i : Int)), by rw [he, hlen], kdC_of hrd, by omega, by omega, ?_⟩
    rw [he]
    exact Mo.rshare_good n t A L l W Q R f h1 h2 hn (fun i hi => by
      rw [Mo.rd_getElem l i (by omega)]
      have := hx i hi
      rw [List.getElem?_eq_getElem (by omega)] at this
      exact Option.some.inj this) hw hT hA ha hQ hR hL hs hf
  · refine (share_bad T l v w hv he).mono ?_
    rintro e w2 ⟨rfl, rfl⟩
    exact ⟨Below.refl _ _, none, 0, [], rfl, ⟨rfl, by simp, fun h => absurd h (by simp)⟩, by simp, by simp, Mo.rshare_bad T l he⟩
end Go.Proofs.YtgkliaalfiginaaDoor
