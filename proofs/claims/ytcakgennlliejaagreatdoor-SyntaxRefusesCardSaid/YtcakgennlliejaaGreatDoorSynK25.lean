import Derived.Test.YtcakgennlliejaaGreatDoorSynK24
/- the two texts of alive -/
namespace Go.Proofs.YtcakgennlliejaaGreatDoor
open Go.Shelf Go.RowKit Go.Lib
open Go.Proofs.YtcakgennlliejaaGreatDoorW.PrintWords
open Go.Proofs.YtcakgennlliejaaGreatDoor.PSyntaxJoined
open Sx
set_option linter.unusedVariables false
set_option linter.unusedSimpArgs false
namespace Sx
def text1 : ByteArray := ⟨#[107, 105, 110, 100, 32, 112, 101, 114, 115, 111, 110, 46, 32, 109, 101, 109, 98, 101, 114, 32, 97, 110, 110, 97, 44, 32, 98, 101, 110, 32, 58, 32, 112, 101, 114, 115, 111, 110, 46, 32, 112, 114, 101, 100, 32, 111, 108, 100, 40, 112, 101, 114, 115, 111, 110, 41, 46]⟩
def text2 : ByteArray := ⟨#[107, 105, 110, 100, 32, 114, 117, 108, 101, 46]⟩
set_option maxRecDepth 100000 in
theorem lex1_e : (lex text1).e = 0 := by decide +kernel
set_option maxRecDepth 100000 in
theorem lex2_e : (lex text2).e = 0 := by decide +kernel
set_option maxRecDepth 100000 in
set_option maxHeartbeats 4000000 in
theorem stat2 (rb : Nat) (A : Option Addr) (c : Nat) (n : Int) : (⟨rb, A, c, toks (lex text2).l, n⟩ : Env).statute Sx.cal 0 = .bad 51 5 := by kernel_rfl

set_option maxRecDepth 100000 in
set_option maxHeartbeats 4000000 in
theorem stat1 (rb : Nat) (A : Option Addr) (c : Nat) (n : Int) : (⟨rb, A, c, toks (lex text1).l, n⟩ : Env).statute Sx.cal 0 = .ok ⟨⟨#[]⟩, [⟨#[112, 101, 114, 115, 111, 110]⟩], [⟨⟨#[97, 110, 110, 97]⟩, ⟨#[112, 101, 114, 115, 111, 110]⟩⟩, ⟨⟨#[98, 101, 110]⟩, ⟨#[112, 101, 114, 115, 111, 110]⟩⟩], [⟨⟨#[111, 108, 100]⟩, 1, [⟨#[112, 101, 114, 115, 111, 110]⟩], []⟩], [], [], [], [], []⟩ 16 := by kernel_rfl
end Sx
end Go.Proofs.YtcakgennlliejaaGreatDoor
/- alive; SameStatute of two empty statutes -/
namespace Go.Proofs.YtcakgennlliejaaGreatDoor
open Go.Shelf Go.RowKit Go.Lib
open Go.Proofs.YtcakgennlliejaaGreatDoorW.PrintWords
open Go.Proofs.YtcakgennlliejaaGreatDoor.PSyntaxJoined
open Sx
set_option linter.unusedVariables false
set_option linter.unusedSimpArgs false
theorem sp_calls (s : ByteArray) (w : World) (hg : ∃ m, w.cell? ⟨0, 0, none⟩ = some (.int .i64 m)) :
    Calls Tryz.prog 8 #[.string s] w fun e w' => Below w.heap.size w w' ∧ ∃ x er a st, e = .returned (.tuple #[x, .int .i64 er, .int .i64 a]) ∧ sttR w.heap.size st x w' ∧ PrsIs Sx.cal (lex s) s.size st er a := by
  have hl := lex_sound s
  refine sparse_calls Sx.cal cal_calls s (lex s) (fun w hg => tokens_calls s w hg) ?_ w hg
  by_cases he : (lex s).e = 0
  · have hz := lex_big s he
    exact ⟨Nat.le_trans hl.n hz, fun x hx => Nat.le_trans (hl.z x hx).1 hz⟩
  · have h0 := (hl.bad he).1
    rw [h0]
    exact ⟨Nat.zero_le _, fun x hx => by cases hx⟩
set_option maxRecDepth 100000 in
theorem lnum_calls (k : Int) (w : World) : Calls Tryz.prog 9 #[.int .i64 k] w fun e w' => e = .returned (.int .i64 k) ∧ w = w' := by
  go_enter Tryz.func9, Tryz.ntmps9
  go_wp2_with fail
  go_ret
  exact ⟨rfl, rfl⟩
set_option maxRecDepth 100000 in
theorem nil_SameStrings (A : Option Addr) (c : Nat) (w : World) : Calls Tryz.prog 20 #[.slice A 0 c, .slice none 0 0] w fun e w' => e = .returned (.bool true) ∧ w = w' := by
  go_enter Tryz.func20, Tryz.ntmps20
  go_wp2_with fail
  go_loop [5] (fun u5 => u5 = .int .i64 0) (fun _ => 0)
  case atStart => rfl
  case round =>
    subst hrel
    go_wp2_with fail
    go_ret
    exact ⟨rfl, rfl⟩
set_option maxRecDepth 100000 in
theorem nil_SameMembers (A : Option Addr) (c : Nat) (w : World) : Calls Tryz.prog 21 #[.slice A 0 c, .slice none 0 0] w fun e w' => e = .returned (.bool true) ∧ w = w' := by
  go_enter Tryz.func21, Tryz.ntmps21
  go_wp2_with fail
  go_loop [5] (fun u5 => u5 = .int .i64 0) (fun _ => 0)
  case atStart => rfl
  case round =>
    subst hrel
    go_wp2_with fail
    go_ret
    exact ⟨rfl, rfl⟩
set_option maxRecDepth 100000 in
theorem nil_SamePreds (A : Option Addr) (c : Nat) (w : World) : Calls Tryz.prog 22 #[.slice A 0 c, .slice none 0 0] w fun e w' => e = .returned (.bool true) ∧ w = w' := by
  go_enter Tryz.func22, Tryz.ntmps22
  go_wp2_with fail
  go_loop [5] (fun u5 => u5 = .int .i64 0) (fun _ => 0)
  case atStart => rfl
  case round =>
    subst hrel
    go_wp2_with fail
    go_ret
    exact ⟨rfl, rfl⟩
set_option maxRecDepth 100000 in
theorem nil_SameStringLists (A : Option Addr) (c : Nat) (w : World) : Calls Tryz.prog 23 #[.slice A 0 c, .slice none 0 0] w fun e w' => e = .returned (.bool true) ∧ w = w' := by
  go_enter Tryz.func23, Tryz.ntmps23
  go_wp2_with fail
  go_loop [5] (fun u5 => u5 = .int .i64 0) (fun _ => 0)
  case atStart => rfl
  case round =>
    subst hrel
    go_wp2_with fail
    go_ret
    exact ⟨rfl, rfl⟩
set_option maxRecDepth 100000 in
theorem nil_SameSources (A : Option Addr) (c : Nat) (w : World) : Calls Tryz.prog 24 #[.slice A 0 c, .slice none 0 0] w fun e w' => e = .returned (.bool true) ∧ w = w' := by
  go_enter Tryz.func24, Tryz.ntmps24
  go_wp2_with fail
  go_loop [5] (fun u5 => u5 = .int .i64 0) (fun _ => 0)
  case atStart => rfl
  case round =>
    subst hrel
    go_wp2_with fail
    go_ret
    exact ⟨rfl, rfl⟩
set_option maxRecDepth 100000 in
theorem nil_SameRuleTexts (A : Option Addr) (c : Nat) (w : World) : Calls Tryz.prog 25 #[.slice A 0 c, .slice none 0 0] w fun e w' => e = .returned (.bool true) ∧ w = w' := by
  go_enter Tryz.func25, Tryz.ntmps25
  go_wp2_with fail
  go_loop [5] (fun u5 => u5 = .int .i64 0) (fun _ => 0)
  case atStart => rfl
  case round =>
    subst hrel
    go_wp2_with fail
    go_ret
    exact ⟨rfl, rfl⟩
set_option maxRecDepth 100000 in
theorem nil_SameExcepts (A : Option Addr) (c : Nat) (w : World) : Calls Tryz.prog 26 #[.slice A 0 c, .slice none 0 0] w fun e w' => e = .returned (.bool true) ∧ w = w' := by
  go_enter Tryz.func26, Tryz.ntmps26
  go_wp2_with fail
  go_loop [5] (fun u5 => u5 = .int .i64 0) (fun _ => 0)
  case atStart => rfl
  case round =>
    subst hrel
    go_wp2_with fail
    go_ret
    exact ⟨rfl, rfl⟩
set_option maxRecDepth 100000 in
theorem nil_SameTotals (A : Option Addr) (c : Nat) (w : World) : Calls Tryz.prog 27 #[.slice A 0 c, .slice none 0 0] w fun e w' => e = .returned (.bool true) ∧ w = w' := by
  go_enter Tryz.func27, Tryz.ntmps27
  go_wp2_with fail
  go_loop [5] (fun u5 => u5 = .int .i64 0) (fun _ => 0)
  case atStart => rfl
  case round =>
    subst hrel
    go_wp2_with fail
    go_ret
    exact ⟨rfl, rfl⟩
set_option maxHeartbeats 1000000 in
set_option maxRecDepth 100000 in
theorem same_none (A1 A2 A3 A4 A5 A6 A7 A8 : Option Addr) (c1 c2 c3 c4 c5 c6 c7 c8 : Nat) (w : World) : Calls Tryz.prog 10 #[.agg #[.string ⟨#[]⟩, .slice A1 0 c1, .slice A2 0 c2, .slice A3 0 c3, .slice A4 0 c4, .slice A5 0 c5, .slice A6 0 c6, .slice A7 0 c7, .slice A8 0 c8], .agg #[.string ⟨#[]⟩, .slice none 0 0, .slice none 0 0, .slice none 0 0, .slice none 0 0, .slice none 0 0, .slice none 0 0, .slice none 0 0, .slice none 0 0]] w fun e w' => e = .returned (.bool true) ∧ Below w.heap.size w w' := by
  go_enter Tryz.func10, Tryz.ntmps10
  go_wp2_with (first | (go_at_call 20; ((with_reducible refine (nil_SameStrings _ _ _).mono ?_); rintro e w4 ⟨rfl, rfl⟩)) | (go_at_call 21; ((with_reducible refine (nil_SameMembers _ _ _).mono ?_); rintro e w4 ⟨rfl, rfl⟩)) | (go_at_call 22; ((with_reducible refine (nil_SamePreds _ _ _).mono ?_); rintro e w4 ⟨rfl, rfl⟩)) | (go_at_call 23; ((with_reducible refine (nil_SameStringLists _ _ _).mono ?_); rintro e w4 ⟨rfl, rfl⟩)) | (go_at_call 24; ((with_reducible refine (nil_SameSources _ _ _).mono ?_); rintro e w4 ⟨rfl, rfl⟩)) | (go_at_call 25; ((with_reducible refine (nil_SameRuleTexts _ _ _).mono ?_); rintro e w4 ⟨rfl, rfl⟩)) | (go_at_call 26; ((with_reducible refine (nil_SameExcepts _ _ _).mono ?_); rintro e w4 ⟨rfl, rfl⟩)) | (go_at_call 27; ((with_reducible refine (nil_SameTotals _ _ _).mono ?_); rintro e w4 ⟨rfl, rfl⟩)))
  go_ret
  exact ⟨rfl, ((Below.refl _ w).alloc (Nat.le_refl _) _).alloc (by rw [World.size_alloc]; omega) _⟩
end Go.Proofs.YtcakgennlliejaaGreatDoor
/- alive -/
namespace Go.Proofs.YtcakgennlliejaaGreatDoor
open Go.Shelf Go.RowKit Go.Lib
open Go.Proofs.YtcakgennlliejaaGreatDoorW.PrintWords
open Go.Proofs.YtcakgennlliejaaGreatDoor.PSyntaxJoined
open Sx
set_option linter.unusedVariables false
set_option linter.unusedSimpArgs false
/-- what the first text reads as -/
theorem Sx.prs1 {n : Int} {st : Stt} {er a : Int} (h : PrsIs Sx.cal (lex text1) n st er a) : er = 0 ∧ a = n ∧ st = ⟨⟨#[]⟩, [⟨#[112, 101, 114, 115, 111, 110]⟩], [⟨⟨#[97, 110, 110, 97]⟩, ⟨#[112, 101, 114, 115, 111, 110]⟩⟩, ⟨⟨#[98, 101, 110]⟩, ⟨#[112, 101, 114, 115, 111, 110]⟩⟩], [⟨⟨#[111, 108, 100]⟩, 1, [⟨#[112, 101, 114, 115, 111, 110]⟩], []⟩], [], [], [], [], []⟩ := by
  rcases h with ⟨he, _⟩ | ⟨_, rb, A, c, hm⟩
  · exact absurd lex1_e he
  · rw [stat1 rb A c n] at hm
    exact ⟨hm.2.1, hm.2.2, hm.1⟩
theorem Sx.prs2 {n : Int} {st : Stt} {er a : Int} (h : PrsIs Sx.cal (lex text2) n st er a) : er = 51 ∧ a = 5 ∧ st = noStt := by
  rcases h with ⟨he, _⟩ | ⟨_, rb, A, c, hm⟩
  · exact absurd lex2_e he
  · rw [stat2 rb A c n] at hm
    exact ⟨hm.2.1, hm.2.2, hm.1⟩
set_option maxHeartbeats 4000000 in
set_option maxRecDepth 100000 in
theorem alive_calls (w : World) (hg : ∃ m, w.cell? ⟨0, 0, none⟩ = some (.int .i64 m)) :
    Calls Tryz.prog 7 #[] w fun e w' => e = .returned (.bool true) ∧ Below w.heap.size w w' := by
  have HG := Lib.hid hg
  have HP := Lib.hid (fun s w hg => show Calls Tryz.prog 8 #[.string s] w _ from sp_calls s w hg)
  have HP1 := Lib.hid (HP.out text1 w hg)
  have HP2 := Lib.hid (fun w hg => HP.out text2 w hg)
  unfold text1 at HP1
  unfold text2 at HP2
  clear hg
  go_enter Tryz.func7, Tryz.ntmps7
  go_upto_region 2 with (first | (go_at_call 8; ((with_reducible refine HP1.out.mono ?_); rintro e w1 ⟨hb1, x, er, a, st, rfl, hx1, hp1⟩; obtain ⟨rfl, rfl, rfl⟩ := prs1 hp1; obtain ⟨own, ⟨v1, v2, v3, v4, v5, v6, v7, v8⟩, rfl, hlm, g1, g2, g3, g4, g5, g6, g7, g8⟩ := hx1; have HB1 := Lib.hid hb1; have HG2 := Lib.hid g2; have ev1 := Kd.R_slice g1; dsimp only at ev1; obtain ⟨B1, d1, rfl⟩ := ev1; have ev2 := Kd.R_slice g2; dsimp only at ev2; obtain ⟨B2, d2, rfl⟩ := ev2; have ev3 := Kd.R_slice g3; dsimp only at ev3; obtain ⟨B3, d3, rfl⟩ := ev3; have ev4 := Kd.R_slice g4; dsimp only at ev4; obtain ⟨B4, d4, rfl⟩ := ev4; have ev5 := Kd.R_slice g5; dsimp only at ev5; obtain ⟨B5, d5, rfl⟩ := ev5; have ev6 := Kd.R_slice g6; dsimp only at ev6; obtain ⟨B6, d6, rfl⟩ := ev6; have ev7 := Kd.R_slice g7; dsimp only at ev7; obtain ⟨B7, d7, rfl⟩ := ev7; have ev8 := Kd.R_slice g8; dsimp only at ev8; obtain ⟨B8, d8, rfl⟩ := ev8; clear hb1 g1 g2 g3 g4 g5 g6 g7 g8 hlm hp1)))
  obtain ⟨X, hX⟩ : ∃ X, w1.alloc (.cells #[.string ⟨#[]⟩, .slice B1 1 d1, .slice B2 2 d2, .slice B3 1 d3, .slice B4 0 d4, .slice B5 0 d5, .slice B6 0 d6, .slice B7 0 d7, .slice B8 0 d8] 32) = X := ⟨_, rfl⟩
  obtain ⟨b, hb⟩ : ∃ b, w1.heap.size = b := ⟨_, rfl⟩
  have HBX := Lib.hid (show Below w.heap.size w X by rw [← hX]; exact HB1.out.alloc HB1.out.size _)
  have HBB := Lib.hid (show X.heap[b]? = some (.cells #[.string ⟨#[]⟩, .slice B1 1 d1, .slice B2 2 d2, .slice B3 1 d3, .slice B4 0 d4, .slice B5 0 d5, .slice B6 0 d6, .slice B7 0 d7, .slice B8 0 d8] 32 (0, 0)) by rw [← hX, ← hb]; exact heap_alloc_new w1 _)
  have HR := Lib.hid (Kd.R_below HG2.out (show Below w1.heap.size w1 X by rw [← hX]; exact (Below.refl _ w1).alloc (Nat.le_refl _) _))
  have HP3 := Lib.hid (HP2.out X (HG.out.imp fun m hm => keep_cell hm HBX.out))
  try rw [hX]
  try rw [hb]
  clear hX hb
  go_upto_region 3 with (first | (go_at_call 8; ((with_reducible refine HP3.out.mono ?_); rintro e w2 ⟨hb2, x, er, a, st, rfl, hx2, hp2⟩; obtain ⟨rfl, rfl, rfl⟩ := prs2 hp2; obtain ⟨own2, ⟨u1, u2, u3, u4, u5, u6, u7, u8⟩, rfl, hlm2, g1, g2, g3, g4, g5, g6, g7, g8⟩ := hx2; have HB2 := Lib.hid hb2; have ev1 := Kd.R_slice g1; dsimp only [noStt] at ev1; obtain ⟨C1, q1, rfl⟩ := ev1; have ev2 := Kd.R_slice g2; dsimp only [noStt] at ev2; obtain ⟨C2, q2, rfl⟩ := ev2; have ev3 := Kd.R_slice g3; dsimp only [noStt] at ev3; obtain ⟨C3, q3, rfl⟩ := ev3; have ev4 := Kd.R_slice g4; dsimp only [noStt] at ev4; obtain ⟨C4, q4, rfl⟩ := ev4; have ev5 := Kd.R_slice g5; dsimp only [noStt] at ev5; obtain ⟨C5, q5, rfl⟩ := ev5; have ev6 := Kd.R_slice g6; dsimp only [noStt] at ev6; obtain ⟨C6, q6, rfl⟩ := ev6; have ev7 := Kd.R_slice g7; dsimp only [noStt] at ev7; obtain ⟨C7, q7, rfl⟩ := ev7; have ev8 := Kd.R_slice g8; dsimp only [noStt] at ev8; obtain ⟨C8, q8, rfl⟩ := ev8; clear hb2 g1 g2 g3 g4 g5 g6 g7 g8 hlm2 hp2)))
  obtain ⟨Y, hY⟩ : ∃ Y, w2.alloc (.cells #[.string noStt.title, .slice C1 0 q1, .slice C2 0 q2, .slice C3 0 q3, .slice C4 0 q4, .slice C5 0 q5, .slice C6 0 q6, .slice C7 0 q7, .slice C8 0 q8] 32) = Y := ⟨_, rfl⟩
  have hbY : Below X.heap.size X Y := by rw [← hY]; exact HB2.out.alloc HB2.out.size _
  have HBY := Lib.hid (show Below w.heap.size w Y from HBX.out.trans (hbY.mono HBX.out.size))
  have hbb := (hbY.block b (blk_lt HBB.out)).trans HBB.out
  have y1 := blk_cell (v := .slice B1 1 d1) hbb 1 rfl
  have y2 := blk_cell (v := .slice B2 2 d2) hbb 2 rfl
  have y3 := blk_cell (v := .slice B3 1 d3) hbb 3 rfl
  obtain ⟨A7, c7, e7, _, hC⟩ := Kd.R_reads (Kd.R_below HR.out hbY)
  injection e7 with e8 _ _
  subst e8
  obtain ⟨ad, ea, t0, t1⟩ := at_T54 hC 1 (by decide) (by decide)
  have HT0 := Lib.hid t0
  subst ea
  try rw [hY]
  clear hY hbY hbb hC t0 t1
  have t0 : Y.cell? ⟨ad.block, ad.off + 2, none⟩ = some (.string ⟨#[98, 101, 110]⟩) := HT0.out
  go_wp2_with (first | (go_at_call 9; ((with_reducible refine (lnum_calls _ _).mono ?_); rintro e w6 ⟨rfl, rfl⟩)))
  go_ret
  exact ⟨rfl, HBY.out⟩
/-- Parse's answer: all read, or an error at a place of the text -/
theorem Sx.prs_in {cal : ByteArray → Int × Int} {s : ByteArray} {st : Stt} {er a : Int} (h : PrsIs cal (lex s) s.size st er a) : (er = 0 ∧ a = s.size) ∨ (er ≠ 0 ∧ st = noStt ∧ 0 ≤ a ∧ a ≤ s.size) := by
  have hl := lex_sound s
  rcases h with ⟨he, h1, h2, h3⟩ | ⟨_, rb, A, c, hm⟩
  · subst h2 h3
    exact .inr ⟨he, h1, (hl.bad he).2.1, (hl.bad he).2.2⟩
  · obtain ⟨V, hV⟩ : ∃ V : Env, (⟨rb, A, c, toks (lex s).l, s.size⟩ : Env) = V := ⟨_, rfl⟩
    have hr : Rl V V 0 0 (V.statute cal 0) (V.statute cal 0) := (Rl_title (V := V) (V' := V) (d := 0) 0).bnd (fun t q _ => Rl_items cal _ _ q)
    have hP : Pl V := by
      rw [← hV]
      refine ⟨by show (0 : Int) ≤ s.size; omega, fun i hi => ?_⟩
      have hi2 : i < (lex s).l.length := by
        have : i < (toks (lex s).l).length := hi
        unfold toks at this
        rwa [List.length_map] at this
      show 0 ≤ ((toks (lex s).l).getD i noTok).a ∧ ((toks (lex s).l).getD i noTok).a ≤ s.size
      rw [Sx.toks_next]
      show 0 ≤ ((lex s).l.getD i z48).f2 ∧ ((lex s).l.getD i z48).f2 ≤ s.size
      rw [List.getD_eq_getElem?_getD, List.getElem?_eq_getElem hi2]
      exact (hl.z _ (List.getElem_mem hi2)).2
    rw [hV] at hm
    cases hs : V.statute cal 0 with
    | ok v q => rw [hs] at hm; exact .inl ⟨hm.2.1, hm.2.2⟩
    | bad e b =>
      rw [hs] at hm hr
      have h3 := hr.2.1 hP
      rw [← hV] at h3
      refine .inr ⟨by rw [hm.2.1]; exact hr.1, hm.1, by rw [hm.2.2]; exact h3.1, by rw [hm.2.2]; exact h3.2⟩
set_option maxHeartbeats 4000000 in
set_option maxRecDepth 100000 in
theorem refuses_walk (s : ByteArray) (w : World) (hg : ∃ m, w.cell? ⟨0, 0, none⟩ = some (.int .i64 m)) :
    Calls Tryz.prog 3 #[.string s] w fun e w' => e = .returned (.bool true) ∧ Below w.heap.size w w' := by
  have HA := Lib.hid (alive_calls w hg)
  have HG := Lib.hid hg
  have HPP := Lib.hid (fun w hg => show Calls Tryz.prog 8 #[.string s] w _ from sp_calls s w hg)
  clear hg
  go_enter Tryz.func3, Tryz.ntmps3
  go_upto_region 3 with (first | (go_at_call 7; ((with_reducible refine HA.out.mono ?_); rintro e w1 ⟨rfl, hb1⟩)))
  have HB1 := Lib.hid hb1
  have HP := Lib.hid (HPP.out w1 (HG.out.imp fun m hm => keep_cell hm hb1))
  clear hb1
  go_upto_region 4 with (first | (go_at_call 8; ((with_reducible refine HP.out.mono ?_); rintro e w2 ⟨hb2, x, er, a, st, rfl, hx2, hp2⟩; obtain ⟨own2, ⟨u1, u2, u3, u4, u5, u6, u7, u8⟩, rfl, hlm2, g1, g2, g3, g4, g5, g6, g7, g8⟩ := hx2; have HB2 := Lib.hid hb2; have HPR := Lib.hid (prs_in hp2); have ev1 := Kd.R_slice g1; obtain ⟨C1, q1, rfl⟩ := ev1; have ev2 := Kd.R_slice g2; obtain ⟨C2, q2, rfl⟩ := ev2; have ev3 := Kd.R_slice g3; obtain ⟨C3, q3, rfl⟩ := ev3; have ev4 := Kd.R_slice g4; obtain ⟨C4, q4, rfl⟩ := ev4; have ev5 := Kd.R_slice g5; obtain ⟨C5, q5, rfl⟩ := ev5; have ev6 := Kd.R_slice g6; obtain ⟨C6, q6, rfl⟩ := ev6; have ev7 := Kd.R_slice g7; obtain ⟨C7, q7, rfl⟩ := ev7; have ev8 := Kd.R_slice g8; obtain ⟨C8, q8, rfl⟩ := ev8; clear hb2 g1 g2 g3 g4 g5 g6 g7 g8 hlm2 hp2)))
  obtain ⟨Y, hY⟩ : ∃ Y, w2.alloc (.cells #[.string st.title, .slice C1 st.kinds.length q1, .slice C2 st.members.length q2, .slice C3 st.preds.length q3, .slice C4 st.classes.length q4, .slice C5 st.sources.length q5, .slice C6 st.rules.length q6, .slice C7 st.excepts.length q7, .slice C8 st.totals.length q8] 32) = Y := ⟨_, rfl⟩
  obtain ⟨b, hb⟩ : ∃ b, w2.heap.size = b := ⟨_, rfl⟩
  have HBY := Lib.hid (show Below w.heap.size w Y by rw [← hY]; have h2 := HB1.out.trans (HB2.out.mono HB1.out.size); exact h2.alloc h2.size _)
  have HBB := Lib.hid (show Y.heap[b]? = some (.cells #[.string st.title, .slice C1 st.kinds.length q1, .slice C2 st.members.length q2, .slice C3 st.preds.length q3, .slice C4 st.classes.length q4, .slice C5 st.sources.length q5, .slice C6 st.rules.length q6, .slice C7 st.excepts.length q7, .slice C8 st.totals.length q8] 32 (0, 0)) by rw [← hY, ← hb]; exact heap_alloc_new w2 _)
  try rw [hY]
  try rw [hb]
  clear hY hb
  rcases HPR.out with ⟨rfl, rfl⟩ | ⟨hne, rfl, ha1, ha2⟩
  · have z1 : ¬ ((s.size : Int) < 0) := by omega
    go_wp2_with (first | (go_at_call 9; ((with_reducible refine (lnum_calls _ _).mono ?_); rintro e w6 ⟨rfl, rfl⟩)))
    go_ret
    exact ⟨by simp, HBY.out⟩
  · have z1 : decide (a < 0) = false := decide_eq_false (by omega)
    have z2 : decide ((s.size : Int) < a) = false := decide_eq_false (by omega)
    have z3 : (er != 0) = true := by simpa using hne
    have hbl := HBB.out
    dsimp only [noStt, List.length_nil] at hbl
    have y0 := blk_cell (v := .string ⟨#[]⟩) hbl 0 rfl
    have y1 := blk_cell (v := .slice C1 0 q1) hbl 1 rfl
    have y2 := blk_cell (v := .slice C2 0 q2) hbl 2 rfl
    have y3 := blk_cell (v := .slice C3 0 q3) hbl 3 rfl
    have y4 := blk_cell (v := .slice C4 0 q4) hbl 4 rfl
    have y5 := blk_cell (v := .slice C5 0 q5) hbl 5 rfl
    have y6 := blk_cell (v := .slice C6 0 q6) hbl 6 rfl
    have y7 := blk_cell (v := .slice C7 0 q7) hbl 7 rfl
    have y8 := blk_cell (v := .slice C8 0 q8) hbl 8 rfl
    clear hne ha1 ha2 hbl
    go_wp2_with (first | (go_at_call 9; ((with_reducible refine (lnum_calls _ _).mono ?_); rintro e w6 ⟨rfl, rfl⟩)) | (go_at_call 10; ((with_reducible refine (same_none C1 C2 C3 C4 C5 C6 C7 C8 q1 q2 q3 q4 q5 q6 q7 q8 _).mono ?_); rintro e w6 ⟨rfl, hb6⟩)))
    go_ret
    exact ⟨rfl, HBY.out.trans (hb6.mono HBY.out.size)⟩
end Go.Proofs.YtcakgennlliejaaGreatDoor
