import Derived.Test.YtgkliaalfiginaaDoorMonV5
/- the walk of MoneyShares -/
namespace Go.Proofs.YtgkliaalfiginaaDoor
open Go.RowKit Go.Lib
open Go.Proofs.YtgkliaalfiginaaDoor.PMoneyShares
open Go.Proofs.YtgkliaalfiginaaDoorW.PrintWords
set_option linter.unusedVariables false
set_option linter.unusedSimpArgs false
set_option maxHeartbeats 4000000 in
set_option maxRecDepth 100000 in
theorem shares_walk (T : Int) (A0 : Option Addr) (c0 : Nat) (l : List Int) (w : World) (hC : Kd.C (Kd.int .i64) w A0 l.length l) (hc0 : l.length ≤ c0) (hA0 : A0 = none → c0 = 0) (hl : l.length ≤ 17592186044415) :
    Calls Tryd.prog 5 #[.int .i64 T, .slice A0 l.length c0] w fun e w' => e = .returned (.bool true) ∧ Below w.heap.size w w' := by
  obtain ⟨i0, hinfo, hz0, hz1, hz2⟩ := info64
  have HV := Lib.hid (rdI_of (c := c0) hC)
  have HSh := Lib.hid (fun w1 v (h : RdI w1 v l) => share_ref T l v w1 h)
  have HRf := Lib.hid (fun k (res : List Int) (er : Int) w1 (hb : Below w.heap.size w w1) (hf : lexpriorref02_Share.f k T l = some (res, er)) => lexpriorref02_Share.calls k T A0 c0 l res er w1 (Kd.C_below hC hb) hc0 hf)
  obtain ⟨er, her⟩ : ∃ er, Mo.shareErr T l = er := ⟨_, rfl⟩
  rw [her] at HSh
  clear hC her
  obtain ⟨n, hn⟩ : ∃ n, l.length = n := ⟨_, rfl⟩
  rw [hn] at HRf HV hc0 hl ⊢
  go_enter Tryd.func5, Tryd.ntmps5
  go_upto_region 1 with (fail)
  go_cut [5] (fun o W => RdI W o l ∧ Below w.heap.size w W)
  case first =>
    clear HSh HRf
    rcases Nat.eq_zero_or_pos n with h0 | h0
    · subst h0
      go_wp2_with (first | (at_builtin; refine wpList_append_fits_any _ rfl _ _ 35 rfl w.heap.size 2 i0 1 Tryd.underlying35 hinfo hz1 w.heap.size 0 0 [] rfl (World.ownsRow_made w #[] 0 (Nat.le_refl _) (by decide) rfl) A0 0 c0 [] rfl rfl (fun h => ⟨rfl, hA0 h⟩) (fun _ _ j u h => by simp at h) (fun u h => by simp at h) (Nat.le_refl _) ?_))
      intro w' hown hgrow
      go_wp2_with fail
      go_meet
      obtain rfl : l = [] := List.eq_nil_of_length_eq_zero hn
      exact ⟨rdI_own (xs := []) hown (by simp), ((Below.refl _ w).alloc (Nat.le_refl _) _).grown hgrow (by simp) (fun k h => by injection h with h; omega)⟩
    · obtain ⟨A, c, hv, hlen, hcs⟩ := HV.out
      injection hv with e1 e2 e3
      subst e1
      clear e2 e3
      obtain ⟨a, rfl, hcc⟩ := hcs (by omega)
      have hcell : ∀ j u, (l.map (Value.int .i64))[j]? = some u → (w.alloc (.cells #[] 2)).cell? (a.add j) = some u := by
        intro j u hu
        rw [List.getElem?_map, Option.map_eq_some_iff] at hu
        obtain ⟨x, hx, rfl⟩ := hu
        have h := hcc j x hx
        exact (((Below.refl _ w).alloc (Nat.le_refl _) _).cell (World.block_lt_of_cell? w _ h)).trans h
      clear hcs hcc HV
      go_wp2_with (first | (at_builtin; refine wpList_append_grows _ rfl _ _ 35 rfl 2 i0 (.int .i64 0) 1 8 Tryd.underlying35 hinfo hz0 hz1 hz2 rfl (by decide) (some ⟨w.heap.size, 0, none⟩) 0 0 [] rfl (fun h => by cases h) rfl (fun _ _ j u h => by simp at h) a n c0 (l.map (Value.int .i64)) rfl (by simp [hn]) hcell (by intro u hu; obtain ⟨x, _, rfl⟩ := List.mem_map.1 hu; rfl) (by omega) (by unfold maxLen; omega) (by omega) ?_))
      intro v' w' hown hgrow
      go_wp2_with fail
      go_meet
      rw [← hn] at hown
      exact ⟨rdI_own hown (by omega), ((Below.refl _ w).alloc (Nat.le_refl _) _).grown hgrow (by simp) (fun k h => by cases h)⟩
  case rest =>
    obtain ⟨hO, hB⟩ := hcut
    have HO := Lib.hid hO
    have B1 := Lib.hid hB
    clear hO hB
    go_wp2_with (first
      | (go_at_call 14; refine (HSh.out _ _ HO.out).mono ?_; rintro e w2 ⟨b2, Aa, ca, res, rfl, hCa, hca, hres, k, hf⟩
         have HO2 := Lib.hid (HO.out.below b2)
         have B2 := Lib.hid (B1.out.trans (b2.mono B1.out.size))
         have HA := Lib.hid (And.intro hCa (And.intro hca hres))
         have HR2 := Lib.hid (HRf.out k res er _ B2.out hf)
         clear b2 hCa hca hres hf HSh HRf)
      | (go_at_call 15; refine HR2.out.mono ?_; rintro e w3 ⟨v0, rfl, hR, b3⟩
         obtain ⟨Ab, cb, rfl, hcb, hCb⟩ := Kd.R_reads hR
         have HO3 := Lib.hid (HO2.out.below b3)
         have B3 := Lib.hid (B2.out.trans (b3.mono B2.out.size))
         have HA3 := Lib.hid (Kd.C_below HA.out.1 b3)
         have HB3 := Lib.hid (And.intro hCb hcb)
         clear hR b3 hcb hCb HR2 HO2))
    obtain ⟨Ag, cg, hu, hlg, hg⟩ := HO3.out
    rw [hn] at hu
    subst hu
    have HG := Lib.hid hg
    have HSame := Lib.hid (fun wr (b : Below w3.heap.size w3 wr) => lexpriorplain_SameMoney.calls (res.length + 1) Aa ca res Ab cb res true wr (Kd.C_below HA3.out b) HA.out.2.1 (Kd.C_below HB3.out.1 b) HB3.out.2 (Mo.same_f res (by have := HA.out.2.2; omega)))
    clear hg hlg HO HO3 HA HA3 HB3
    go_loopw [10] (fun x wr => ∃ i : Nat, i ≤ n ∧ x = .int .i64 i ∧ Below w3.heap.size w3 wr) (fun x _ => n - (intOf x).toNat)
    case atStart => exact ⟨0, Nat.zero_le _, rfl, Below.refl _ _⟩
    case round =>
      obtain ⟨i, hi, rfl, hb⟩ := hrel
      have HB := Lib.hid hb
      have BW := Lib.hid (B3.out.trans (hb.mono B3.out.size))
      clear hb
      by_cases hlt : i < n
      · obtain ⟨A, c, hv, hlen, hcs⟩ := HV.out
        injection hv with e1 e2 e3
        subst e1
        clear e2 e3
        obtain ⟨a, rfl, hcc⟩ := hcs (by omega)
        obtain ⟨g, rfl, hgc⟩ := HG.out (by omega)
        have hil : i < l.length := by omega
        have hx : l[i]? = some l[i] := List.getElem?_eq_getElem hil
        have q1 := (HB.out.cell (p := g.add i) (World.block_lt_of_cell? w3 _ (hgc i _ hx))).trans (hgc i _ hx)
        have q2 := (BW.out.cell (p := a.add i) (World.block_lt_of_cell? w _ (hcc i _ hx))).trans (hcc i _ hx)
        clear hx hgc hcc hcs HV HG HSame hlen
        generalize l[i] = x at *
        have z1 : (i : Int) < n := by omega
        have z2 : (0 : Int) ≤ i := by omega
        go_upto_region 7 with (fail)
        go_quiet (fail)
        go_wp2_with fail
        go_roundw
        case rel => exact ⟨i + 1, by omega, by go_num, below_drewn HB.out _⟩
        case measure => simp [intOf]; omega
      · obtain rfl : n = i := by omega
        clear HG HV
        go_wp2_with (first
          | (go_at_call 16; refine (HSame.out _ HB.out).mono ?_; rintro e w4 ⟨rfl, b4⟩; have B4 := Lib.hid (BW.out.trans ((sdrawn b4).mono BW.out.size)); clear b4 HSame)
          | (go_at_call 10; refine (num_calls _ _).mono ?_; rintro e w6 ⟨rfl, rfl⟩)
          | (go_at_call 11; refine (works_calls _).mono ?_; rintro e w12 ⟨rfl, b12⟩; have B12 := Lib.hid (B4.out.trans (b12.mono B4.out.size)); clear b12))
        go_ret
        exact ⟨by first | rfl | simp, B12.out⟩
end Go.Proofs.YtgkliaalfiginaaDoor
