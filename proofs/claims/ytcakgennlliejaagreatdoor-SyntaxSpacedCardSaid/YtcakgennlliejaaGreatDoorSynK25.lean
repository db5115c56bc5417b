import Derived.Test.YtcakgennlliejaaGreatDoorSynK24
set_option maxHeartbeats 8000000
set_option maxRecDepth 100000
namespace Go.Proofs.YtcakgennlliejaaGreatDoor
open Go.Shelf Go.RowKit Go.Lib
open Go.Proofs.YtcakgennlliejaaGreatDoorW.PrintWords
open Go.Proofs.YtcakgennlliejaaGreatDoor.PSyntaxJoined
open Sx
set_option linter.unusedVariables false
set_option linter.unusedSimpArgs false
namespace Sx
def text1 : ByteArray := ⟨#[107, 105, 110, 100, 32, 112, 101, 114, 115, 111, 110, 46, 32, 109, 101, 109, 98, 101, 114, 32, 97, 110, 110, 97, 44, 32, 98, 101, 110, 32, 58, 32, 112, 101, 114, 115, 111, 110, 46, 32, 112, 114, 101, 100, 32, 111, 108, 100, 40, 112, 101, 114, 115, 111, 110, 41, 46]⟩
def text2 : ByteArray := ⟨#[107, 105, 110, 100, 32, 114, 117, 108, 101, 46]⟩
set_option maxRecDepth 100000 in
theorem lex1_e : (lex text1).e = 0 := by decide +kernel
set_option maxRecDepth 100000 in
theorem lex2_e : (lex text2).e = 0 := by decide +kernel
set_option maxRecDepth 100000 in
set_option maxHeartbeats 4000000 in
theorem stat2 (rb : Nat) (A : Option Addr) (c : Nat) (n : Int) : (⟨rb, A, c, toks (lex text2).l, n⟩ : Env).statute Sx.cal 0 = .bad 51 5 := by kernel_rfl
set_option maxRecDepth 100000 in
set_option maxHeartbeats 4000000 in
theorem stat1 (rb : Nat) (A : Option Addr) (c : Nat) (n : Int) : (⟨rb, A, c, toks (lex text1).l, n⟩ : Env).statute Sx.cal 0 = .ok ⟨⟨#[]⟩, [⟨#[112, 101, 114, 115, 111, 110]⟩], [⟨⟨#[97, 110, 110, 97]⟩, ⟨#[112, 101, 114, 115, 111, 110]⟩⟩, ⟨⟨#[98, 101, 110]⟩, ⟨#[112, 101, 114, 115, 111, 110]⟩⟩], [⟨⟨#[111, 108, 100]⟩, 1, [⟨#[112, 101, 114, 115, 111, 110]⟩], []⟩], [], [], [], [], []⟩ 16 := by kernel_rfl
end Sx
theorem sp_calls (s : ByteArray) (w : World) (hg : ∃ m, w.cell? ⟨0, 0, none⟩ = some (.int .i64 m)) :
    Calls Tryz.prog 8 #[.string s] w fun e w' => Below w.heap.size w w' ∧ ∃ x er a st, e = .returned (.tuple #[x, .int .i64 er, .int .i64 a]) ∧ sttR w.heap.size st x w' ∧ PrsIs Sx.cal (lex s) s.size st er a := by
  have hl := lex_sound s
  refine sparse_calls Sx.cal cal_calls s (lex s) (fun w hg => tokens_calls s w hg) ?_ w hg
  by_cases he : (lex s).e = 0
  · have hz := lex_big s he
    exact ⟨Nat.le_trans hl.n hz, fun x hx => Nat.le_trans (hl.z x hx).1 hz⟩
  · have h0 := (hl.bad he).1
    rw [h0]
    exact ⟨Nat.zero_le _, fun x hx => by cases hx⟩
set_option maxRecDepth 100000 in
theorem lnum_calls (k : Int) (w : World) : Calls Tryz.prog 9 #[.int .i64 k] w fun e w' => e = .returned (.int .i64 k) ∧ w = w' := by
  go_enter Tryz.func9, Tryz.ntmps9
  go_wp2_with fail
  go_ret
  exact ⟨rfl, rfl⟩
theorem Sx.prs1 {n : Int} {st : Stt} {er a : Int} (h : PrsIs Sx.cal (lex text1) n st er a) : er = 0 ∧ a = n ∧ st = ⟨⟨#[]⟩, [⟨#[112, 101, 114, 115, 111, 110]⟩], [⟨⟨#[97, 110, 110, 97]⟩, ⟨#[112, 101, 114, 115, 111, 110]⟩⟩, ⟨⟨#[98, 101, 110]⟩, ⟨#[112, 101, 114, 115, 111, 110]⟩⟩], [⟨⟨#[111, 108, 100]⟩, 1, [⟨#[112, 101, 114, 115, 111, 110]⟩], []⟩], [], [], [], [], []⟩ := by
  rcases h with ⟨he, _⟩ | ⟨_, rb, A, c, hm⟩
  · exact absurd lex1_e he
  · rw [stat1 rb A c n] at hm
    exact ⟨hm.2.1, hm.2.2, hm.1⟩
theorem Sx.prs2 {n : Int} {st : Stt} {er a : Int} (h : PrsIs Sx.cal (lex text2) n st er a) : er = 51 ∧ a = 5 ∧ st = noStt := by
  rcases h with ⟨he, _⟩ | ⟨_, rb, A, c, hm⟩
  · exact absurd lex2_e he
  · rw [stat2 rb A c n] at hm
    exact ⟨hm.2.1, hm.2.2, hm.1⟩
theorem alive_calls (w : World) (hg : ∃ m, w.cell? ⟨0, 0, none⟩ = some (.int .i64 m)) :
    Calls Tryz.prog 7 #[] w fun e w' => e = .returned (.bool true) ∧ Below w.heap.size w w' := by
  have HG := Lib.hid hg
  have HP := Lib.hid (fun s w hg => show Calls Tryz.prog 8 #[.string s] w _ from sp_calls s w hg)
  have HP1 := Lib.hid (HP.out text1 w hg)
  have HP2 := Lib.hid (fun w hg => HP.out text2 w hg)
  unfold text1 at HP1
  unfold text2 at HP2
  clear hg
  go_enter Tryz.func7, Tryz.ntmps7
  go_upto_region 2 with (first | (go_at_call 8; ((with_reducible refine HP1.out.mono ?_); rintro e w1 ⟨hb1, x, er, a, st, rfl, hx1, hp1⟩; obtain ⟨rfl, rfl, rfl⟩ := prs1 hp1; obtain ⟨own, ⟨v1, v2, v3, v4, v5, v6, v7, v8⟩, rfl, hlm, g1, g2, g3, g4, g5, g6, g7, g8⟩ := hx1; have HB1 := Lib.hid hb1; have HG2 := Lib.hid g2; have ev1 := Kd.R_slice g1; dsimp only at ev1; obtain ⟨B1, d1, rfl⟩ := ev1; have ev2 := Kd.R_slice g2; dsimp only at ev2; obtain ⟨B2, d2, rfl⟩ := ev2; have ev3 := Kd.R_slice g3; dsimp only at ev3; obtain ⟨B3, d3, rfl⟩ := ev3; have ev4 := Kd.R_slice g4; dsimp only at ev4; obtain ⟨B4, d4, rfl⟩ := ev4; have ev5 := Kd.R_slice g5; dsimp only at ev5; obtain ⟨B5, d5, rfl⟩ := ev5; have ev6 := Kd.R_slice g6; dsimp only at ev6; obtain ⟨B6, d6, rfl⟩ := ev6; have ev7 := Kd.R_slice g7; dsimp only at ev7; obtain ⟨B7, d7, rfl⟩ := ev7; have ev8 := Kd.R_slice g8; dsimp only at ev8; obtain ⟨B8, d8, rfl⟩ := ev8; clear hb1 g1 g2 g3 g4 g5 g6 g7 g8 hlm hp1)))
  obtain ⟨X, hX⟩ : ∃ X, w1.alloc (.cells #[.string ⟨#[]⟩, .slice B1 1 d1, .slice B2 2 d2, .slice B3 1 d3, .slice B4 0 d4, .slice B5 0 d5, .slice B6 0 d6, .slice B7 0 d7, .slice B8 0 d8] 32) = X := ⟨_, rfl⟩
  obtain ⟨b, hb⟩ : ∃ b, w1.heap.size = b := ⟨_, rfl⟩
  have HBX := Lib.hid (show Below w.heap.size w X by rw [← hX]; exact HB1.out.alloc HB1.out.size _)
  have HBB := Lib.hid (show X.heap[b]? = some (.cells #[.string ⟨#[]⟩, .slice B1 1 d1, .slice B2 2 d2, .slice B3 1 d3, .slice B4 0 d4, .slice B5 0 d5, .slice B6 0 d6, .slice B7 0 d7, .slice B8 0 d8] 32 (0, 0)) by rw [← hX, ← hb]; exact heap_alloc_new w1 _)
  have HR := Lib.hid (Kd.R_below HG2.out (show Below w1.heap.size w1 X by rw [← hX]; exact (Below.refl _ w1).alloc (Nat.le_refl _) _))
  have HP3 := Lib.hid (HP2.out X (HG.out.imp fun m hm => keep_cell hm HBX.out))
  try rw [hX]
  try rw [hb]
  clear hX hb
  go_upto_region 3 with (first | (go_at_call 8; ((with_reducible refine HP3.out.mono ?_); rintro e w2 ⟨hb2, x, er, a, st, rfl, hx2, hp2⟩; obtain ⟨rfl, rfl, rfl⟩ := prs2 hp2; obtain ⟨own2, ⟨u1, u2, u3, u4, u5, u6, u7, u8⟩, rfl, hlm2, g1, g2, g3, g4, g5, g6, g7, g8⟩ := hx2; have HB2 := Lib.hid hb2; have ev1 := Kd.R_slice g1; dsimp only [noStt] at ev1; obtain ⟨C1, q1, rfl⟩ := ev1; have ev2 := Kd.R_slice g2; dsimp only [noStt] at ev2; obtain ⟨C2, q2, rfl⟩ := ev2; have ev3 := Kd.R_slice g3; dsimp only [noStt] at ev3; obtain ⟨C3, q3, rfl⟩ := ev3; have ev4 := Kd.R_slice g4; dsimp only [noStt] at ev4; obtain ⟨C4, q4, rfl⟩ := ev4; have ev5 := Kd.R_slice g5; dsimp only [noStt] at ev5; obtain ⟨C5, q5, rfl⟩ := ev5; have ev6 := Kd.R_slice g6; dsimp only [noStt] at ev6; obtain ⟨C6, q6, rfl⟩ := ev6; have ev7 := Kd.R_slice g7; dsimp only [noStt] at ev7; obtain ⟨C7, q7, rfl⟩ := ev7; have ev8 := Kd.R_slice g8; dsimp only [noStt] at ev8; obtain ⟨C8, q8, rfl⟩ := ev8; clear hb2 g1 g2 g3 g4 g5 g6 g7 g8 hlm2 hp2)))
  obtain ⟨Y, hY⟩ : ∃ Y, w2.alloc (.cells #[.string noStt.title, .slice C1 0 q1, .slice C2 0 q2, .slice C3 0 q3, .slice C4 0 q4, .slice C5 0 q5, .slice C6 0 q6, .slice C7 0 q7, .slice C8 0 q8] 32) = Y := ⟨_, rfl⟩
  have hbY : Below X.heap.size X Y := by rw [← hY]; exact HB2.out.alloc HB2.out.size _
  have HBY := Lib.hid (show Below w.heap.size w Y from HBX.out.trans (hbY.mono HBX.out.size))
  have hbb := (hbY.block b (blk_lt HBB.out)).trans HBB.out
  have y1 := blk_cell (v := .slice B1 1 d1) hbb 1 rfl
  have y2 := blk_cell (v := .slice B2 2 d2) hbb 2 rfl
  have y3 := blk_cell (v := .slice B3 1 d3) hbb 3 rfl
  obtain ⟨A7, c7, e7, _, hC⟩ := Kd.R_reads (Kd.R_below HR.out hbY)
  injection e7 with e8 _ _
  subst e8
  obtain ⟨ad, ea, t0, t1⟩ := at_T54 hC 1 (by decide) (by decide)
  have HT0 := Lib.hid t0
  subst ea
  try rw [hY]
  clear hY hbY hbb hC t0 t1
  have t0 : Y.cell? ⟨ad.block, ad.off + 2, none⟩ = some (.string ⟨#[98, 101, 110]⟩) := HT0.out
  go_wp2_with (first | (go_at_call 9; ((with_reducible refine (lnum_calls _ _).mono ?_); rintro e w6 ⟨rfl, rfl⟩)))
  go_ret
  exact ⟨rfl, HBY.out⟩
end Go.Proofs.YtcakgennlliejaaGreatDoor
