import Derived.Deep.RegionHeldLaw
import Derived.Test.YtcakgennlliejaaGreatDoorSynK25
set_option maxHeartbeats 8000000
set_option maxRecDepth 100000
set_option linter.unusedVariables false
set_option linter.unusedSimpArgs false
namespace Go.Proofs.YtcakgennlliejaaGreatDoorW.PrintWords
open Go.RowKit
theorem LeO.ite {α : Type} {c : Prop} [Decidable c] {a a' b b' : Option α} (h : LeO a a') (k : LeO b b') : LeO (if c then a else b) (if c then a' else b') := by
  split
  · exact h
  · exact k
namespace Kd
theorem reads_of_C {α : Type} {enc : α → Value} {d : α} {h1 : ∀ x, (enc x).oneCell' = true} {w : World} {A : Option Addr} {n : Nat} {xs : List α} (h : (scalar enc h1).C w A n xs) : ReadsOf enc d w A n xs := by
  refine ⟨h.1, h.2.1, fun hn => ?_⟩
  obtain ⟨ad, e, hc⟩ := h.2.2 hn
  refine ⟨ad, e, fun j hj => ?_⟩
  have hl : j < xs.length := by have := h.1; omega
  obtain ⟨c, _, hK, hcell⟩ := hc j _ (List.getElem?_eq_getElem hl)
  have hK' : c = [enc xs[j]] := hK
  subst hK'
  have := hcell 0 _ rfl
  simpa [scalar, List.getD_eq_getElem?_getD, List.getElem?_eq_getElem hl] using this
end Kd
namespace Kd
end Kd
namespace Kd
end Kd
namespace Kd
section
variable {w W : World} {A : Option Addr} {n : Nat}
theorem at_int {k : IntKind} {xs : List Int} (h : (Kd.int k).C w A n xs) (i : Int) (h0 : 0 ≤ i) (h1 : i < n) : ∃ ad, A = some ad ∧ w.cell? (ad.add i.toNat) = some (.int k (rd xs i)) :=
  ReadsOf.at_ (reads_of_C (enc := Value.int k) (d := (0 : Int)) (h1 := fun _ => rfl) h) i h0 h1
theorem at_string {xs : List ByteArray} (h : Kd.string.C w A n xs) (i : Int) (h0 : 0 ≤ i) (h1 : i < n) : ∃ ad, A = some ad ∧ w.cell? (ad.add i.toNat) = some (.string (rdOf ByteArray.empty xs i)) :=
  ReadsOf.at_ (reads_of_C (enc := Value.string) (d := ByteArray.empty) (h1 := fun _ => rfl) h) i h0 h1
variable {α : Type} {enc : α → Value} {h1 : ∀ x, (enc x).oneCell' = true} {e base g cap : Nat} {ok : Nat → Prop} {xs : List α}
end
end Kd
namespace Kd
end Kd
namespace Kd
end Kd
namespace Kd
end Kd
namespace Kd
end Kd
namespace Kd
end Kd
namespace Kd
end Kd
namespace Kd
end Kd
namespace Kd
end Kd
namespace Kd
end Kd
namespace Kd
end Kd
namespace Kd
end Kd
section
variable {P : Program} {ops : Array Oper} {o : Oper} {a : Act} {Q : Exit → Act → World → Prop} {Kc : Act → World → Prop}
namespace Kd
variable {α : Type}
end Kd
end
namespace Kd
end Kd
end Go.Proofs.YtcakgennlliejaaGreatDoorW.PrintWords
namespace Go.Proofs.YtcakgennlliejaaGreatDoor.PSyntaxJoined
open Go.RowKit Go.Proofs.YtcakgennlliejaaGreatDoorW.PrintWords Go.Proofs.YtcakgennlliejaaGreatDoorW.PrintLast Go.Proofs.YtcakgennlliejaaGreatDoorW.PrintMore
set_option linter.unusedVariables false
set_option linter.unusedSimpArgs false
def rd_L5 (xs : List (List ByteArray)) (i : Int) : (List ByteArray) := xs.getD i.toNat ([] : List ByteArray)
theorem at_L5 {w : World} {A : Option Addr} {n : Nat} {xs : List (List ByteArray)} (h : Kd.C (Kd.slice 9 Kd.string) w A n xs) (i : Int) (h0 : 0 ≤ i) (h1 : i < n) : ∃ ad A0 c0, A = some ad ∧ w.cell? (ad.add i.toNat) = some (.slice A0 (rd_L5 xs i).length c0) ∧ (rd_L5 xs i).length ≤ c0 ∧ Kd.string.C w A0 (rd_L5 xs i).length (rd_L5 xs i) := by
  obtain ⟨ad, c, e, _, hK, hc0⟩ := Kd.C_get h ([] : List ByteArray) i h0 h1
  have hc : ∀ j u, c[j]? = some u → w.cell? (ad.add (i.toNat * 1 + j)) = some u := hc0
  obtain ⟨A0, c0, rfl, l0, g0⟩ := hK
  exact ⟨ad, A0, c0, e, by have hq := hc 0 _ rfl; rwa [Nat.mul_one, Nat.add_zero] at hq, l0, g0⟩
theorem k85_open {w : World} {x : S85} {cs : List Value} (h : k85.K w x cs) : ∃ A2 c2 A3 c3, cs = [.string x.f0, .int .i64 x.f1, .slice A2 x.f2.length c2, .slice A3 x.f3.length c3] ∧ x.f2.length ≤ c2 ∧ Kd.string.C w A2 x.f2.length x.f2 ∧ x.f3.length ≤ c3 ∧ (Kd.int .i64).C w A3 x.f3.length x.f3 := by
  obtain ⟨_, _, rfl, rfl, ⟨_, _, rfl, rfl, ⟨_, _, rfl, ⟨A2, c2, rfl, l2, g2⟩, ⟨A3, c3, rfl, l3, g3⟩⟩⟩⟩ := h
  exact ⟨A2, c2, A3, c3, rfl, l2, g2, l3, g3⟩
def rd_T85 (xs : List S85) (i : Int) : S85 := xs.getD i.toNat z85
theorem at_T85 {w : World} {A : Option Addr} {n : Nat} {xs : List S85} (h : Kd.C k85 w A n xs) (i : Int) (h0 : 0 ≤ i) (h1 : i < n) : ∃ ad A2 c2 A3 c3, A = some ad ∧ w.cell? (ad.add (i.toNat * 4)) = some (.string (rd_T85 xs i).f0) ∧ w.cell? ⟨(ad.add (i.toNat * 4)).block, (ad.add (i.toNat * 4)).off + 1, none⟩ = some (.int .i64 (rd_T85 xs i).f1) ∧ w.cell? ⟨(ad.add (i.toNat * 4)).block, (ad.add (i.toNat * 4)).off + 2, none⟩ = some (.slice A2 (rd_T85 xs i).f2.length c2) ∧ w.cell? ⟨(ad.add (i.toNat * 4)).block, (ad.add (i.toNat * 4)).off + 3, none⟩ = some (.slice A3 (rd_T85 xs i).f3.length c3) ∧ (rd_T85 xs i).f2.length ≤ c2 ∧ Kd.string.C w A2 (rd_T85 xs i).f2.length (rd_T85 xs i).f2 ∧ (rd_T85 xs i).f3.length ≤ c3 ∧ (Kd.int .i64).C w A3 (rd_T85 xs i).f3.length (rd_T85 xs i).f3 := by
  obtain ⟨ad, c, e, _, hK, hc0⟩ := Kd.C_get h z85 i h0 h1
  have hc : ∀ j u, c[j]? = some u → w.cell? (ad.add (i.toNat * 4 + j)) = some u := hc0
  obtain ⟨A2, c2, A3, c3, rfl, l2, g2, l3, g3⟩ := k85_open hK
  exact ⟨ad, A2, c2, A3, c3, e, hc 0 _ rfl, by rw [← add_field _ _ 1 (by omega)]; exact hc 1 _ rfl, by rw [← add_field _ _ 2 (by omega)]; exact hc 2 _ rfl, by rw [← add_field _ _ 3 (by omega)]; exact hc 3 _ rfl, l2, g2, l3, g3⟩
theorem k117_open {w : World} {x : S117} {cs : List Value} (h : k117.K w x cs) : cs = [.string x.f0, .int .i64 x.f1] := by
  obtain ⟨_, _, rfl, rfl, rfl⟩ := h
  exact rfl
def rd_T117 (xs : List S117) (i : Int) : S117 := xs.getD i.toNat z117
theorem at_T117 {w : World} {A : Option Addr} {n : Nat} {xs : List S117} (h : Kd.C k117 w A n xs) (i : Int) (h0 : 0 ≤ i) (h1 : i < n) : ∃ ad , A = some ad ∧ w.cell? (ad.add (i.toNat * 2)) = some (.string (rd_T117 xs i).f0) ∧ w.cell? ⟨(ad.add (i.toNat * 2)).block, (ad.add (i.toNat * 2)).off + 1, none⟩ = some (.int .i64 (rd_T117 xs i).f1) := by
  obtain ⟨ad, c, e, _, hK, hc0⟩ := Kd.C_get h z117 i h0 h1
  have hc : ∀ j u, c[j]? = some u → w.cell? (ad.add (i.toNat * 2 + j)) = some u := hc0
  obtain rfl := k117_open hK
  exact ⟨ad, e, hc 0 _ rfl, by rw [← add_field _ _ 1 (by omega)]; exact hc 1 _ rfl⟩
def z102 : S102 := ⟨(0 : Int), (⟨#[]⟩ : ByteArray), ([] : List ByteArray), (0 : Int)⟩
theorem k102_open {w : World} {x : S102} {cs : List Value} (h : k102.K w x cs) : ∃ A2 c2, cs = [.int .i64 x.f0, .string x.f1, .slice A2 x.f2.length c2, .int .i64 x.f3] ∧ x.f2.length ≤ c2 ∧ Kd.string.C w A2 x.f2.length x.f2 := by
  obtain ⟨_, _, rfl, rfl, ⟨_, _, rfl, rfl, ⟨_, _, rfl, ⟨A2, c2, rfl, l2, g2⟩, rfl⟩⟩⟩ := h
  exact ⟨A2, c2, rfl, l2, g2⟩
def rd_T102 (xs : List S102) (i : Int) : S102 := xs.getD i.toNat z102
theorem at_T102 {w : World} {A : Option Addr} {n : Nat} {xs : List S102} (h : Kd.C k102 w A n xs) (i : Int) (h0 : 0 ≤ i) (h1 : i < n) : ∃ ad A2 c2, A = some ad ∧ w.cell? (ad.add (i.toNat * 4)) = some (.int .i64 (rd_T102 xs i).f0) ∧ w.cell? ⟨(ad.add (i.toNat * 4)).block, (ad.add (i.toNat * 4)).off + 1, none⟩ = some (.string (rd_T102 xs i).f1) ∧ w.cell? ⟨(ad.add (i.toNat * 4)).block, (ad.add (i.toNat * 4)).off + 2, none⟩ = some (.slice A2 (rd_T102 xs i).f2.length c2) ∧ w.cell? ⟨(ad.add (i.toNat * 4)).block, (ad.add (i.toNat * 4)).off + 3, none⟩ = some (.int .i64 (rd_T102 xs i).f3) ∧ (rd_T102 xs i).f2.length ≤ c2 ∧ Kd.string.C w A2 (rd_T102 xs i).f2.length (rd_T102 xs i).f2 := by
  obtain ⟨ad, c, e, _, hK, hc0⟩ := Kd.C_get h z102 i h0 h1
  have hc : ∀ j u, c[j]? = some u → w.cell? (ad.add (i.toNat * 4 + j)) = some u := hc0
  obtain ⟨A2, c2, rfl, l2, g2⟩ := k102_open hK
  exact ⟨ad, A2, c2, e, hc 0 _ rfl, by rw [← add_field _ _ 1 (by omega)]; exact hc 1 _ rfl, by rw [← add_field _ _ 2 (by omega)]; exact hc 2 _ rfl, by rw [← add_field _ _ 3 (by omega)]; exact hc 3 _ rfl, l2, g2⟩
def z91 : S91 := ⟨false, (⟨#[]⟩ : ByteArray), ([] : List ByteArray), false, (0 : Int)⟩
theorem k91_open {w : World} {x : S91} {cs : List Value} (h : k91.K w x cs) : ∃ A2 c2, cs = [.bool x.f0, .string x.f1, .slice A2 x.f2.length c2, .bool x.f3, .int .i64 x.f4] ∧ x.f2.length ≤ c2 ∧ Kd.string.C w A2 x.f2.length x.f2 := by
  obtain ⟨_, _, rfl, rfl, ⟨_, _, rfl, rfl, ⟨_, _, rfl, ⟨A2, c2, rfl, l2, g2⟩, ⟨_, _, rfl, rfl, rfl⟩⟩⟩⟩ := h
  exact ⟨A2, c2, rfl, l2, g2⟩
def z98 : S98 := ⟨([] : List S102), (0 : Int), ([] : List S102)⟩
theorem k98_open {w : World} {x : S98} {cs : List Value} (h : k98.K w x cs) : ∃ A0 c0 A2 c2, cs = [.slice A0 x.f0.length c0, .int .i64 x.f1, .slice A2 x.f2.length c2] ∧ x.f0.length ≤ c0 ∧ k102.C w A0 x.f0.length x.f0 ∧ x.f2.length ≤ c2 ∧ k102.C w A2 x.f2.length x.f2 := by
  obtain ⟨_, _, rfl, ⟨A0, c0, rfl, l0, g0⟩, ⟨_, _, rfl, rfl, ⟨A2, c2, rfl, l2, g2⟩⟩⟩ := h
  exact ⟨A0, c0, A2, c2, rfl, l0, g0, l2, g2⟩
def z100 : S100 := ⟨(0 : Int), z91, z98, (⟨#[]⟩ : ByteArray), (⟨#[]⟩ : ByteArray)⟩
theorem k100_open {w : World} {x : S100} {cs : List Value} (h : k100.K w x cs) : ∃ A3 c3 A6 c6 A8 c8, cs = [.int .i64 x.f0, .bool x.f1.f0, .string x.f1.f1, .slice A3 x.f1.f2.length c3, .bool x.f1.f3, .int .i64 x.f1.f4, .slice A6 x.f2.f0.length c6, .int .i64 x.f2.f1, .slice A8 x.f2.f2.length c8, .string x.f3, .string x.f4] ∧ x.f1.f2.length ≤ c3 ∧ Kd.string.C w A3 x.f1.f2.length x.f1.f2 ∧ x.f2.f0.length ≤ c6 ∧ k102.C w A6 x.f2.f0.length x.f2.f0 ∧ x.f2.f2.length ≤ c8 ∧ k102.C w A8 x.f2.f2.length x.f2.f2 := by
  obtain ⟨_, _, rfl, rfl, ⟨_, _, rfl, s1, ⟨_, _, rfl, s6, ⟨_, _, rfl, rfl, rfl⟩⟩⟩⟩ := h
  obtain ⟨A3, c3, rfl, l3, g3⟩ := k91_open s1
  obtain ⟨A6, c6, A8, c8, rfl, l6, g6, l8, g8⟩ := k98_open s6
  exact ⟨A3, c3, A6, c6, A8, c8, rfl, l3, g3, l6, g6, l8, g8⟩
def rd_T100 (xs : List S100) (i : Int) : S100 := xs.getD i.toNat z100
theorem at_T100 {w : World} {A : Option Addr} {n : Nat} {xs : List S100} (h : Kd.C k100 w A n xs) (i : Int) (h0 : 0 ≤ i) (h1 : i < n) : ∃ ad A3 c3 A6 c6 A8 c8, A = some ad ∧ w.cell? (ad.add (i.toNat * 11)) = some (.int .i64 (rd_T100 xs i).f0) ∧ w.cell? ⟨(ad.add (i.toNat * 11)).block, (ad.add (i.toNat * 11)).off + 1, none⟩ = some (.bool (rd_T100 xs i).f1.f0) ∧ w.cell? ⟨(ad.add (i.toNat * 11)).block, (ad.add (i.toNat * 11)).off + 2, none⟩ = some (.string (rd_T100 xs i).f1.f1) ∧ w.cell? ⟨(ad.add (i.toNat * 11)).block, (ad.add (i.toNat * 11)).off + 3, none⟩ = some (.slice A3 (rd_T100 xs i).f1.f2.length c3) ∧ w.cell? ⟨(ad.add (i.toNat * 11)).block, (ad.add (i.toNat * 11)).off + 4, none⟩ = some (.bool (rd_T100 xs i).f1.f3) ∧ w.cell? ⟨(ad.add (i.toNat * 11)).block, (ad.add (i.toNat * 11)).off + 5, none⟩ = some (.int .i64 (rd_T100 xs i).f1.f4) ∧ w.cell? ⟨(ad.add (i.toNat * 11)).block, (ad.add (i.toNat * 11)).off + 6, none⟩ = some (.slice A6 (rd_T100 xs i).f2.f0.length c6) ∧ w.cell? ⟨(ad.add (i.toNat * 11)).block, (ad.add (i.toNat * 11)).off + 7, none⟩ = some (.int .i64 (rd_T100 xs i).f2.f1) ∧ w.cell? ⟨(ad.add (i.toNat * 11)).block, (ad.add (i.toNat * 11)).off + 8, none⟩ = some (.slice A8 (rd_T100 xs i).f2.f2.length c8) ∧ w.cell? ⟨(ad.add (i.toNat * 11)).block, (ad.add (i.toNat * 11)).off + 9, none⟩ = some (.string (rd_T100 xs i).f3) ∧ w.cell? ⟨(ad.add (i.toNat * 11)).block, (ad.add (i.toNat * 11)).off + 10, none⟩ = some (.string (rd_T100 xs i).f4) ∧ (rd_T100 xs i).f1.f2.length ≤ c3 ∧ Kd.string.C w A3 (rd_T100 xs i).f1.f2.length (rd_T100 xs i).f1.f2 ∧ (rd_T100 xs i).f2.f0.length ≤ c6 ∧ k102.C w A6 (rd_T100 xs i).f2.f0.length (rd_T100 xs i).f2.f0 ∧ (rd_T100 xs i).f2.f2.length ≤ c8 ∧ k102.C w A8 (rd_T100 xs i).f2.f2.length (rd_T100 xs i).f2.f2 := by
  obtain ⟨ad, c, e, _, hK, hc0⟩ := Kd.C_get h z100 i h0 h1
  have hc : ∀ j u, c[j]? = some u → w.cell? (ad.add (i.toNat * 11 + j)) = some u := hc0
  obtain ⟨A3, c3, A6, c6, A8, c8, rfl, l3, g3, l6, g6, l8, g8⟩ := k100_open hK
  exact ⟨ad, A3, c3, A6, c6, A8, c8, e, hc 0 _ rfl, by rw [← add_field _ _ 1 (by omega)]; exact hc 1 _ rfl, by rw [← add_field _ _ 2 (by omega)]; exact hc 2 _ rfl, by rw [← add_field _ _ 3 (by omega)]; exact hc 3 _ rfl, by rw [← add_field _ _ 4 (by omega)]; exact hc 4 _ rfl, by rw [← add_field _ _ 5 (by omega)]; exact hc 5 _ rfl, by rw [← add_field _ _ 6 (by omega)]; exact hc 6 _ rfl, by rw [← add_field _ _ 7 (by omega)]; exact hc 7 _ rfl, by rw [← add_field _ _ 8 (by omega)]; exact hc 8 _ rfl, by rw [← add_field _ _ 9 (by omega)]; exact hc 9 _ rfl, by rw [← add_field _ _ 10 (by omega)]; exact hc 10 _ rfl, l3, g3, l6, g6, l8, g8⟩
def z93 : S93 := ⟨(⟨#[]⟩ : ByteArray), (⟨#[]⟩ : ByteArray), (0 : Int), (0 : Int), ([] : List S100), (0 : Int), z91⟩
theorem k93_open {w : World} {x : S93} {cs : List Value} (h : k93.K w x cs) : ∃ A4 c4 A8 c8, cs = [.string x.f0, .string x.f1, .int .i64 x.f2, .int .i64 x.f3, .slice A4 x.f4.length c4, .int .i64 x.f5, .bool x.f6.f0, .string x.f6.f1, .slice A8 x.f6.f2.length c8, .bool x.f6.f3, .int .i64 x.f6.f4] ∧ x.f4.length ≤ c4 ∧ k100.C w A4 x.f4.length x.f4 ∧ x.f6.f2.length ≤ c8 ∧ Kd.string.C w A8 x.f6.f2.length x.f6.f2 := by
  obtain ⟨_, _, rfl, rfl, ⟨_, _, rfl, rfl, ⟨_, _, rfl, rfl, ⟨_, _, rfl, rfl, ⟨_, _, rfl, ⟨A4, c4, rfl, l4, g4⟩, ⟨_, _, rfl, rfl, s6⟩⟩⟩⟩⟩⟩ := h
  obtain ⟨A8, c8, rfl, l8, g8⟩ := k91_open s6
  exact ⟨A4, c4, A8, c8, rfl, l4, g4, l8, g8⟩
def rd_T93 (xs : List S93) (i : Int) : S93 := xs.getD i.toNat z93
theorem at_T93 {w : World} {A : Option Addr} {n : Nat} {xs : List S93} (h : Kd.C k93 w A n xs) (i : Int) (h0 : 0 ≤ i) (h1 : i < n) : ∃ ad A4 c4 A8 c8, A = some ad ∧ w.cell? (ad.add (i.toNat * 11)) = some (.string (rd_T93 xs i).f0) ∧ w.cell? ⟨(ad.add (i.toNat * 11)).block, (ad.add (i.toNat * 11)).off + 1, none⟩ = some (.string (rd_T93 xs i).f1) ∧ w.cell? ⟨(ad.add (i.toNat * 11)).block, (ad.add (i.toNat * 11)).off + 2, none⟩ = some (.int .i64 (rd_T93 xs i).f2) ∧ w.cell? ⟨(ad.add (i.toNat * 11)).block, (ad.add (i.toNat * 11)).off + 3, none⟩ = some (.int .i64 (rd_T93 xs i).f3) ∧ w.cell? ⟨(ad.add (i.toNat * 11)).block, (ad.add (i.toNat * 11)).off + 4, none⟩ = some (.slice A4 (rd_T93 xs i).f4.length c4) ∧ w.cell? ⟨(ad.add (i.toNat * 11)).block, (ad.add (i.toNat * 11)).off + 5, none⟩ = some (.int .i64 (rd_T93 xs i).f5) ∧ w.cell? ⟨(ad.add (i.toNat * 11)).block, (ad.add (i.toNat * 11)).off + 6, none⟩ = some (.bool (rd_T93 xs i).f6.f0) ∧ w.cell? ⟨(ad.add (i.toNat * 11)).block, (ad.add (i.toNat * 11)).off + 7, none⟩ = some (.string (rd_T93 xs i).f6.f1) ∧ w.cell? ⟨(ad.add (i.toNat * 11)).block, (ad.add (i.toNat * 11)).off + 8, none⟩ = some (.slice A8 (rd_T93 xs i).f6.f2.length c8) ∧ w.cell? ⟨(ad.add (i.toNat * 11)).block, (ad.add (i.toNat * 11)).off + 9, none⟩ = some (.bool (rd_T93 xs i).f6.f3) ∧ w.cell? ⟨(ad.add (i.toNat * 11)).block, (ad.add (i.toNat * 11)).off + 10, none⟩ = some (.int .i64 (rd_T93 xs i).f6.f4) ∧ (rd_T93 xs i).f4.length ≤ c4 ∧ k100.C w A4 (rd_T93 xs i).f4.length (rd_T93 xs i).f4 ∧ (rd_T93 xs i).f6.f2.length ≤ c8 ∧ Kd.string.C w A8 (rd_T93 xs i).f6.f2.length (rd_T93 xs i).f6.f2 := by
  obtain ⟨ad, c, e, _, hK, hc0⟩ := Kd.C_get h z93 i h0 h1
  have hc : ∀ j u, c[j]? = some u → w.cell? (ad.add (i.toNat * 11 + j)) = some u := hc0
  obtain ⟨A4, c4, A8, c8, rfl, l4, g4, l8, g8⟩ := k93_open hK
  exact ⟨ad, A4, c4, A8, c8, e, hc 0 _ rfl, by rw [← add_field _ _ 1 (by omega)]; exact hc 1 _ rfl, by rw [← add_field _ _ 2 (by omega)]; exact hc 2 _ rfl, by rw [← add_field _ _ 3 (by omega)]; exact hc 3 _ rfl, by rw [← add_field _ _ 4 (by omega)]; exact hc 4 _ rfl, by rw [← add_field _ _ 5 (by omega)]; exact hc 5 _ rfl, by rw [← add_field _ _ 6 (by omega)]; exact hc 6 _ rfl, by rw [← add_field _ _ 7 (by omega)]; exact hc 7 _ rfl, by rw [← add_field _ _ 8 (by omega)]; exact hc 8 _ rfl, by rw [← add_field _ _ 9 (by omega)]; exact hc 9 _ rfl, by rw [← add_field _ _ 10 (by omega)]; exact hc 10 _ rfl, l4, g4, l8, g8⟩
def z120 : S120 := ⟨(⟨#[]⟩ : ByteArray), (⟨#[]⟩ : ByteArray)⟩
theorem k120_open {w : World} {x : S120} {cs : List Value} (h : k120.K w x cs) : cs = [.string x.f0, .string x.f1] := by
  obtain ⟨_, _, rfl, rfl, rfl⟩ := h
  exact rfl
def rd_T120 (xs : List S120) (i : Int) : S120 := xs.getD i.toNat z120
theorem at_T120 {w : World} {A : Option Addr} {n : Nat} {xs : List S120} (h : Kd.C k120 w A n xs) (i : Int) (h0 : 0 ≤ i) (h1 : i < n) : ∃ ad , A = some ad ∧ w.cell? (ad.add (i.toNat * 2)) = some (.string (rd_T120 xs i).f0) ∧ w.cell? ⟨(ad.add (i.toNat * 2)).block, (ad.add (i.toNat * 2)).off + 1, none⟩ = some (.string (rd_T120 xs i).f1) := by
  obtain ⟨ad, c, e, _, hK, hc0⟩ := Kd.C_get h z120 i h0 h1
  have hc : ∀ j u, c[j]? = some u → w.cell? (ad.add (i.toNat * 2 + j)) = some u := hc0
  obtain rfl := k120_open hK
  exact ⟨ad, e, hc 0 _ rfl, by rw [← add_field _ _ 1 (by omega)]; exact hc 1 _ rfl⟩
def z104 : S104 := ⟨(⟨#[]⟩ : ByteArray), (⟨#[]⟩ : ByteArray), ([] : List ByteArray), false, (0 : Int)⟩
theorem k104_open {w : World} {x : S104} {cs : List Value} (h : k104.K w x cs) : ∃ A2 c2, cs = [.string x.f0, .string x.f1, .slice A2 x.f2.length c2, .bool x.f3, .int .i64 x.f4] ∧ x.f2.length ≤ c2 ∧ Kd.string.C w A2 x.f2.length x.f2 := by
  obtain ⟨_, _, rfl, rfl, ⟨_, _, rfl, rfl, ⟨_, _, rfl, ⟨A2, c2, rfl, l2, g2⟩, ⟨_, _, rfl, rfl, rfl⟩⟩⟩⟩ := h
  exact ⟨A2, c2, rfl, l2, g2⟩
def rd_T104 (xs : List S104) (i : Int) : S104 := xs.getD i.toNat z104
theorem at_T104 {w : World} {A : Option Addr} {n : Nat} {xs : List S104} (h : Kd.C k104 w A n xs) (i : Int) (h0 : 0 ≤ i) (h1 : i < n) : ∃ ad A2 c2, A = some ad ∧ w.cell? (ad.add (i.toNat * 5)) = some (.string (rd_T104 xs i).f0) ∧ w.cell? ⟨(ad.add (i.toNat * 5)).block, (ad.add (i.toNat * 5)).off + 1, none⟩ = some (.string (rd_T104 xs i).f1) ∧ w.cell? ⟨(ad.add (i.toNat * 5)).block, (ad.add (i.toNat * 5)).off + 2, none⟩ = some (.slice A2 (rd_T104 xs i).f2.length c2) ∧ w.cell? ⟨(ad.add (i.toNat * 5)).block, (ad.add (i.toNat * 5)).off + 3, none⟩ = some (.bool (rd_T104 xs i).f3) ∧ w.cell? ⟨(ad.add (i.toNat * 5)).block, (ad.add (i.toNat * 5)).off + 4, none⟩ = some (.int .i64 (rd_T104 xs i).f4) ∧ (rd_T104 xs i).f2.length ≤ c2 ∧ Kd.string.C w A2 (rd_T104 xs i).f2.length (rd_T104 xs i).f2 := by
  obtain ⟨ad, c, e, _, hK, hc0⟩ := Kd.C_get h z104 i h0 h1
  have hc : ∀ j u, c[j]? = some u → w.cell? (ad.add (i.toNat * 5 + j)) = some u := hc0
  obtain ⟨A2, c2, rfl, l2, g2⟩ := k104_open hK
  exact ⟨ad, A2, c2, e, hc 0 _ rfl, by rw [← add_field _ _ 1 (by omega)]; exact hc 1 _ rfl, by rw [← add_field _ _ 2 (by omega)]; exact hc 2 _ rfl, by rw [← add_field _ _ 3 (by omega)]; exact hc 3 _ rfl, by rw [← add_field _ _ 4 (by omega)]; exact hc 4 _ rfl, l2, g2⟩
end Go.Proofs.YtcakgennlliejaaGreatDoor.PSyntaxJoined
namespace Go.Proofs.YtcakgennlliejaaGreatDoor
open Go.Shelf Go.RowKit Go.Lib
open Go.Proofs.YtcakgennlliejaaGreatDoorW.PrintWords
open Go.Proofs.YtcakgennlliejaaGreatDoor.PSyntaxJoined
open Sx
set_option linter.unusedVariables false
set_option linter.unusedSimpArgs false
theorem same_strings (l : List ByteArray) (A0 A1 : Option Addr) (c0 c1 : Nat) (w : World) (h0 : Kd.C Kd.string w A0 l.length l) (h1 : Kd.C Kd.string w A1 l.length l) (hl : l.length ≤ 4294967296) :
    Calls Tryz.prog 20 #[.slice A0 l.length c0, .slice A1 l.length c1] w fun e w' => e = .returned (.bool true) ∧ Below w.heap.size w w' := by
  obtain ⟨n, hn⟩ : ∃ n, l.length = n := ⟨_, rfl⟩
  have H0 := Lib.hid (fun i (hi : i < l.length) => show ∃ a, A0 = some a ∧ w.cell? (a.add i) = some (.string (rdOf ByteArray.empty l i)) from Kd.at_string h0 (i : Int) (Int.natCast_nonneg i) (by omega))
  have H1 := Lib.hid (fun i (hi : i < l.length) => show ∃ a, A1 = some a ∧ w.cell? (a.add i) = some (.string (rdOf ByteArray.empty l i)) from Kd.at_string h1 (i : Int) (Int.natCast_nonneg i) (by omega))
  rw [hn] at H0 H1 hl ⊢
  have HL := Lib.hid hl
  clear h0 h1 hl hn
  go_enter Tryz.func20, Tryz.ntmps20
  go_wp2_with fail
  go_loopw [5] (fun u5 wr => ∃ i : Nat, u5 = .int .i64 i ∧ i ≤ n ∧ Below w.heap.size w wr) (fun u5 _ => n - (RowKit.intOf u5).toNat)
  case atStart => exact ⟨0, rfl, Nat.zero_le _, Below.refl _ _⟩
  case round =>
    obtain ⟨i, rfl, hi, hb⟩ := hrel
    have HB := Lib.hid hb
    by_cases hlt : i < n
    · obtain ⟨a0, rfl, y0⟩ := H0.out i hlt
      obtain ⟨a1, rfl, y1⟩ := H1.out i hlt
      have z0 := keep_cell y0 hb
      have z1 := keep_cell y1 hb
      clear y0 y1 hb
      have HLT := Lib.hid hlt
      have x0 : (0 : Int) ≤ (i : Int) := by omega
      have x1 : (i : Int) < (n : Int) := by omega
      have x5 : (i : Int) ≤ 4294967296 := by have := HL.out; omega
      have x2 : decide ((i : Int) < (n : Int)) = true := decide_eq_true x1
      have x3 : decide (i < n) = true := decide_eq_true hlt
      clear hlt hi
      go_upto_region 6 with (fail)
      generalize rdOf ByteArray.empty l i = sx at z0 z1
      go_quiet (fail)
      go_wp2_with fail
      go_roundw
      case rel => exact ⟨i + 1, rfl, HLT.out, below_drewn HB.out _⟩
      case measure => (have h9 := HLT.out; simp [RowKit.intOf]; omega)
    · have HLE := Lib.hid (show i = n by omega)
      have x2 : decide ((i : Int) < (n : Int)) = false := decide_eq_false (by omega)
      have x3 : decide (i < n) = false := decide_eq_false hlt
      clear hb hlt hi
      go_wp2_with fail
      go_ret
      exact ⟨rfl, HB.out⟩
theorem same_members (l : List S54) (A0 A1 : Option Addr) (c0 c1 : Nat) (w : World) (h0 : Kd.C k54 w A0 l.length l) (h1 : Kd.C k54 w A1 l.length l) (hl : l.length ≤ 4294967296) :
    Calls Tryz.prog 21 #[.slice A0 l.length c0, .slice A1 l.length c1] w fun e w' => e = .returned (.bool true) ∧ Below w.heap.size w w' := by
  obtain ⟨n, hn⟩ : ∃ n, l.length = n := ⟨_, rfl⟩
  have HC0 := Lib.hid h0
  have HC1 := Lib.hid h1
  have HN := Lib.hid hn
  rw [hn] at hl ⊢
  have HL := Lib.hid hl
  clear h0 h1 hl hn
  go_enter Tryz.func21, Tryz.ntmps21
  go_wp2_with fail
  go_loopw [5] (fun u5 wr => ∃ i : Nat, u5 = .int .i64 i ∧ i ≤ n ∧ Below w.heap.size w wr) (fun u5 _ => n - (RowKit.intOf u5).toNat)
  case atStart => exact ⟨0, rfl, Nat.zero_le _, Below.refl _ _⟩
  case round =>
    obtain ⟨i, rfl, hi, hb⟩ := hrel
    have HB := Lib.hid hb
    by_cases hlt : i < n
    · have hil : (i : Int) < (l.length : Int) := by have := HN.out; omega
      obtain ⟨a0, ea0, t0, t1⟩ := at_T54 HC0.out (i : Int) (Int.natCast_nonneg i) hil
      obtain ⟨a1, ea1, u0, u1⟩ := at_T54 HC1.out (i : Int) (Int.natCast_nonneg i) hil
      subst ea0
      subst ea1
      simp only [Int.toNat_natCast] at t0 t1 u0 u1
      generalize rd_T54 l (i : Int) = x at t0 t1 u0 u1
      have y0 := keep_cell t0 hb
      have z0 := keep_cell u0 hb
      have y1 := keep_cell t1 hb
      have z1 := keep_cell u1 hb
      clear t0 t1 u0 u1 hb hil
      have HLT := Lib.hid hlt
      have x0 : (0 : Int) ≤ (i : Int) := by omega
      have x1 : (i : Int) < (n : Int) := by omega
      have x5 : (i : Int) ≤ 4294967296 := by have := HL.out; omega
      have x2 : decide ((i : Int) < (n : Int)) = true := decide_eq_true x1
      have x3 : decide (i < n) = true := decide_eq_true hlt
      clear hlt hi
      go_upto_region 6 with (fail)
      go_quiet (fail)
      go_wp2_with fail
      go_roundw
      case rel => exact ⟨i + 1, rfl, HLT.out, below_drewn HB.out _⟩
      case measure => (have h9 := HLT.out; simp [RowKit.intOf]; omega)
    · have x2 : decide ((i : Int) < (n : Int)) = false := decide_eq_false (by omega)
      have x3 : decide (i < n) = false := decide_eq_false hlt
      clear hb hlt hi
      go_wp2_with fail
      go_ret
      exact ⟨rfl, HB.out⟩
theorem same_sources (l : List S117) (A0 A1 : Option Addr) (c0 c1 : Nat) (w : World) (h0 : Kd.C k117 w A0 l.length l) (h1 : Kd.C k117 w A1 l.length l) (hl : l.length ≤ 4294967296) :
    Calls Tryz.prog 24 #[.slice A0 l.length c0, .slice A1 l.length c1] w fun e w' => e = .returned (.bool true) ∧ Below w.heap.size w w' := by
  obtain ⟨n, hn⟩ : ∃ n, l.length = n := ⟨_, rfl⟩
  have HC0 := Lib.hid h0
  have HC1 := Lib.hid h1
  have HN := Lib.hid hn
  rw [hn] at hl ⊢
  have HL := Lib.hid hl
  clear h0 h1 hl hn
  go_enter Tryz.func24, Tryz.ntmps24
  go_wp2_with fail
  go_loopw [5] (fun u5 wr => ∃ i : Nat, u5 = .int .i64 i ∧ i ≤ n ∧ Below w.heap.size w wr) (fun u5 _ => n - (RowKit.intOf u5).toNat)
  case atStart => exact ⟨0, rfl, Nat.zero_le _, Below.refl _ _⟩
  case round =>
    obtain ⟨i, rfl, hi, hb⟩ := hrel
    have HB := Lib.hid hb
    by_cases hlt : i < n
    · have hil : (i : Int) < (l.length : Int) := by have := HN.out; omega
      obtain ⟨a0, ea0, t0, t1⟩ := at_T117 HC0.out (i : Int) (Int.natCast_nonneg i) hil
      obtain ⟨a1, ea1, u0, u1⟩ := at_T117 HC1.out (i : Int) (Int.natCast_nonneg i) hil
      subst ea0
      subst ea1
      simp only [Int.toNat_natCast] at t0 t1 u0 u1
      generalize rd_T117 l (i : Int) = x at t0 t1 u0 u1
      have y0 := keep_cell t0 hb
      have z0 := keep_cell u0 hb
      have y1 := keep_cell t1 hb
      have z1 := keep_cell u1 hb
      clear t0 t1 u0 u1 hb hil
      have HLT := Lib.hid hlt
      have x0 : (0 : Int) ≤ (i : Int) := by omega
      have x1 : (i : Int) < (n : Int) := by omega
      have x5 : (i : Int) ≤ 4294967296 := by have := HL.out; omega
      have x2 : decide ((i : Int) < (n : Int)) = true := decide_eq_true x1
      have x3 : decide (i < n) = true := decide_eq_true hlt
      clear hlt hi
      go_upto_region 6 with (fail)
      go_quiet (fail)
      go_wp2_with fail
      go_roundw
      case rel => exact ⟨i + 1, rfl, HLT.out, below_drewn HB.out _⟩
      case measure => (have h9 := HLT.out; simp [RowKit.intOf]; omega)
    · have x2 : decide ((i : Int) < (n : Int)) = false := decide_eq_false (by omega)
      have x3 : decide (i < n) = false := decide_eq_false hlt
      clear hb hlt hi
      go_wp2_with fail
      go_ret
      exact ⟨rfl, HB.out⟩
theorem same_excepts (l : List S120) (A0 A1 : Option Addr) (c0 c1 : Nat) (w : World) (h0 : Kd.C k120 w A0 l.length l) (h1 : Kd.C k120 w A1 l.length l) (hl : l.length ≤ 4294967296) :
    Calls Tryz.prog 26 #[.slice A0 l.length c0, .slice A1 l.length c1] w fun e w' => e = .returned (.bool true) ∧ Below w.heap.size w w' := by
  obtain ⟨n, hn⟩ : ∃ n, l.length = n := ⟨_, rfl⟩
  have HC0 := Lib.hid h0
  have HC1 := Lib.hid h1
  have HN := Lib.hid hn
  rw [hn] at hl ⊢
  have HL := Lib.hid hl
  clear h0 h1 hl hn
  go_enter Tryz.func26, Tryz.ntmps26
  go_wp2_with fail
  go_loopw [5] (fun u5 wr => ∃ i : Nat, u5 = .int .i64 i ∧ i ≤ n ∧ Below w.heap.size w wr) (fun u5 _ => n - (RowKit.intOf u5).toNat)
  case atStart => exact ⟨0, rfl, Nat.zero_le _, Below.refl _ _⟩
  case round =>
    obtain ⟨i, rfl, hi, hb⟩ := hrel
    have HB := Lib.hid hb
    by_cases hlt : i < n
    · have hil : (i : Int) < (l.length : Int) := by have := HN.out; omega
      obtain ⟨a0, ea0, t0, t1⟩ := at_T120 HC0.out (i : Int) (Int.natCast_nonneg i) hil
      obtain ⟨a1, ea1, u0, u1⟩ := at_T120 HC1.out (i : Int) (Int.natCast_nonneg i) hil
      subst ea0
      subst ea1
      simp only [Int.toNat_natCast] at t0 t1 u0 u1
      generalize rd_T120 l (i : Int) = x at t0 t1 u0 u1
      have y0 := keep_cell t0 hb
      have z0 := keep_cell u0 hb
      have y1 := keep_cell t1 hb
      have z1 := keep_cell u1 hb
      clear t0 t1 u0 u1 hb hil
      have HLT := Lib.hid hlt
      have x0 : (0 : Int) ≤ (i : Int) := by omega
      have x1 : (i : Int) < (n : Int) := by omega
      have x5 : (i : Int) ≤ 4294967296 := by have := HL.out; omega
      have x2 : decide ((i : Int) < (n : Int)) = true := decide_eq_true x1
      have x3 : decide (i < n) = true := decide_eq_true hlt
      clear hlt hi
      go_upto_region 6 with (fail)
      go_quiet (fail)
      go_wp2_with fail
      go_roundw
      case rel => exact ⟨i + 1, rfl, HLT.out, below_drewn HB.out _⟩
      case measure => (have h9 := HLT.out; simp [RowKit.intOf]; omega)
    · have x2 : decide ((i : Int) < (n : Int)) = false := decide_eq_false (by omega)
      have x3 : decide (i < n) = false := decide_eq_false hlt
      clear hb hlt hi
      go_wp2_with fail
      go_ret
      exact ⟨rfl, HB.out⟩
theorem same_money (l : List Int) (A0 A1 : Option Addr) (c0 c1 : Nat) (w : World) (h0 : Kd.C (Kd.int .i64) w A0 l.length l) (h1 : Kd.C (Kd.int .i64) w A1 l.length l) (hl : l.length ≤ 4294967296) :
    Calls Tryz.prog 62 #[.slice A0 l.length c0, .slice A1 l.length c1] w fun e w' => e = .returned (.bool true) ∧ Below w.heap.size w w' := by
  obtain ⟨n, hn⟩ : ∃ n, l.length = n := ⟨_, rfl⟩
  have HC0 := Lib.hid h0
  have HC1 := Lib.hid h1
  have HN := Lib.hid hn
  rw [hn] at hl ⊢
  have HL := Lib.hid hl
  clear h0 h1 hl hn
  go_enter Tryz.func62, Tryz.ntmps62
  go_wp2_with fail
  go_loopw [5] (fun u5 wr => ∃ i : Nat, u5 = .int .i64 i ∧ i ≤ n ∧ Below w.heap.size w wr) (fun u5 _ => n - (RowKit.intOf u5).toNat)
  case atStart => exact ⟨0, rfl, Nat.zero_le _, Below.refl _ _⟩
  case round =>
    obtain ⟨i, rfl, hi, hb⟩ := hrel
    have HB := Lib.hid hb
    by_cases hlt : i < n
    · have hil : (i : Int) < (l.length : Int) := by have := HN.out; omega
      obtain ⟨a0, ea0, t0⟩ := Kd.at_int HC0.out (i : Int) (Int.natCast_nonneg i) hil
      obtain ⟨a1, ea1, u0⟩ := Kd.at_int HC1.out (i : Int) (Int.natCast_nonneg i) hil
      subst ea0
      subst ea1
      simp only [Int.toNat_natCast] at t0 u0
      generalize (rdOf 0) l (i : Int) = x at t0 u0
      have y0 := keep_cell t0 hb
      have z0 := keep_cell u0 hb
      clear t0 u0 hb hil
      have HLT := Lib.hid hlt
      have x0 : (0 : Int) ≤ (i : Int) := by omega
      have x1 : (i : Int) < (n : Int) := by omega
      have x5 : (i : Int) ≤ 4294967296 := by have := HL.out; omega
      have x2 : decide ((i : Int) < (n : Int)) = true := decide_eq_true x1
      have x3 : decide (i < n) = true := decide_eq_true hlt
      clear hlt hi
      go_upto_region 6 with (fail)
      go_quiet (fail)
      go_wp2_with fail
      go_roundw
      case rel => exact ⟨i + 1, rfl, HLT.out, below_drewn HB.out _⟩
      case measure => (have h9 := HLT.out; simp [RowKit.intOf]; omega)
    · have x2 : decide ((i : Int) < (n : Int)) = false := decide_eq_false (by omega)
      have x3 : decide (i < n) = false := decide_eq_false hlt
      clear hb hlt hi
      go_wp2_with fail
      go_ret
      exact ⟨rfl, HB.out⟩
namespace Sx
def sm {α : Type} (l : List α) : Prop := l.length ≤ 4294967296
def smPred (x : S85) : Prop := sm x.f2 ∧ sm x.f3
def smLit (x : S91) : Prop := sm x.f2
def smTerm (x : S102) : Prop := sm x.f2
def smTerms (l : List S102) : Prop := sm l ∧ ∀ x ∈ l, smTerm x
def smGuard (x : S98) : Prop := smTerms x.f0 ∧ smTerms x.f2
def smPrem (x : S100) : Prop := smLit x.f1 ∧ smGuard x.f2
def smPrems (l : List S100) : Prop := sm l ∧ ∀ x ∈ l, smPrem x
def smRule (x : S93) : Prop := smPrems x.f4 ∧ smLit x.f6
def smTotal (x : S104) : Prop := sm x.f2
def smPreds (l : List S85) : Prop := sm l ∧ ∀ x ∈ l, smPred x
def smClasses (l : List (List ByteArray)) : Prop := sm l ∧ ∀ x ∈ l, sm x
def smRules (l : List S93) : Prop := sm l ∧ ∀ x ∈ l, smRule x
def smTotals (l : List S104) : Prop := sm l ∧ ∀ x ∈ l, smTotal x
def smStt (s : Stt) : Prop := sm s.kinds ∧ sm s.members ∧ smPreds s.preds ∧ smClasses s.classes ∧ sm s.sources ∧ smRules s.rules ∧ sm s.excepts ∧ smTotals s.totals
end Sx
theorem same_pred (x : S85) (A2 B2 : Option Addr) (c2 d2 : Nat) (A3 B3 : Option Addr) (c3 d3 : Nat) (w : World) (g2 : Kd.C Kd.string w A2 x.f2.length x.f2) (k2 : Kd.C Kd.string w B2 x.f2.length x.f2) (g3 : Kd.C (Kd.int .i64) w A3 x.f3.length x.f3) (k3 : Kd.C (Kd.int .i64) w B3 x.f3.length x.f3) (hs : smPred x) :
    Calls Tryz.prog 43 #[.agg #[.string x.f0, .int .i64 x.f1, .slice A2 x.f2.length c2, .slice A3 x.f3.length c3], .agg #[.string x.f0, .int .i64 x.f1, .slice B2 x.f2.length d2, .slice B3 x.f3.length d3]] w fun e w' => e = .returned (.bool true) ∧ Below w.heap.size w w' := by
  have HSM := Lib.hid hs
  obtain ⟨X, hX⟩ : ∃ X, (w.alloc (.cells #[.string x.f0, .int .i64 x.f1, .slice A2 x.f2.length c2, .slice A3 x.f3.length c3] 85)).alloc (.cells #[.string x.f0, .int .i64 x.f1, .slice B2 x.f2.length d2, .slice B3 x.f3.length d3] 85) = X := ⟨_, rfl⟩
  obtain ⟨b0, hb0⟩ : ∃ b, w.heap.size = b := ⟨_, rfl⟩
  obtain ⟨b1, hb1⟩ : ∃ b, b0 + 1 = b := ⟨_, rfl⟩
  have HBX := Lib.hid (show Below w.heap.size w X by rw [← hX]; exact ((Below.refl _ w).alloc (Nat.le_refl _) _).alloc (by rw [World.size_alloc]; omega) _)
  have h1 : X.heap[b1]? = some (.cells #[.string x.f0, .int .i64 x.f1, .slice B2 x.f2.length d2, .slice B3 x.f3.length d3] 85 (0, 0)) := by
    rw [← hX, ← hb1, ← hb0]
    have h := heap_alloc_new (w.alloc (.cells #[.string x.f0, .int .i64 x.f1, .slice A2 x.f2.length c2, .slice A3 x.f3.length c3] 85)) (.cells #[.string x.f0, .int .i64 x.f1, .slice B2 x.f2.length d2, .slice B3 x.f3.length d3] 85)
    rw [World.size_alloc] at h
    exact h
  have h0 : X.heap[b0]? = some (.cells #[.string x.f0, .int .i64 x.f1, .slice A2 x.f2.length c2, .slice A3 x.f3.length c3] 85 (0, 0)) := by
    rw [← hX, ← hb0]
    exact (((Below.refl _ _).alloc (Nat.le_refl _) _).block _ (by simp only [World.size_alloc]; omega)).trans (heap_alloc_new w _)
  have HCE := Lib.hid (fun W (hW : Below X.heap.size X W) => (⟨(hW.block b0 (blk_lt h0)).trans h0, (hW.block b1 (blk_lt h1)).trans h1⟩ : W.heap[b0]? = some (.cells #[.string x.f0, .int .i64 x.f1, .slice A2 x.f2.length c2, .slice A3 x.f3.length c3] 85 (0, 0)) ∧ W.heap[b1]? = some (.cells #[.string x.f0, .int .i64 x.f1, .slice B2 x.f2.length d2, .slice B3 x.f3.length d3] 85 (0, 0))))
  have G2 := Lib.hid (Kd.C_below g2 HBX.out)
  have K2 := Lib.hid (Kd.C_below k2 HBX.out)
  have G3 := Lib.hid (Kd.C_below g3 HBX.out)
  have K3 := Lib.hid (Kd.C_below k3 HBX.out)
  have HB0 := Lib.hid (Below.refl X.heap.size X)
  have y0_0 := blk_cell (v := .string x.f0) (HCE.out X HB0.out).1 0 rfl
  have z0_0 := blk_cell (v := .string x.f0) (HCE.out X HB0.out).2 0 rfl
  have y0_1 := blk_cell (v := .int .i64 x.f1) (HCE.out X HB0.out).1 1 rfl
  have z0_1 := blk_cell (v := .int .i64 x.f1) (HCE.out X HB0.out).2 1 rfl
  have y0_2 := blk_cell (v := .slice A2 x.f2.length c2) (HCE.out X HB0.out).1 2 rfl
  have z0_2 := blk_cell (v := .slice B2 x.f2.length d2) (HCE.out X HB0.out).2 2 rfl
  have y0_3 := blk_cell (v := .slice A3 x.f3.length c3) (HCE.out X HB0.out).1 3 rfl
  have z0_3 := blk_cell (v := .slice B3 x.f3.length d3) (HCE.out X HB0.out).2 3 rfl
  have HX := Lib.hid hX
  have HN0 := Lib.hid hb0
  have HN1 := Lib.hid hb1
  have HM0 := Lib.hid (show x.f2.length ≤ 4294967296 from hs.1)
  have HM1 := Lib.hid (show x.f3.length ≤ 4294967296 from hs.2)
  clear g2 k2 g3 k3 hs hX hb0 hb1 h0 h1
  go_enter Tryz.func43, Tryz.ntmps43
  go_upto_region 1 with (fail)
  try rw [HX.out]
  try rw [HN0.out]
  try rw [HN1.out]
  go_wp2_with (first | (go_at_call 20; ((with_reducible refine (same_strings x.f2 A2 B2 c2 d2 _ (Kd.C_below G2.out HB0.out) (Kd.C_below K2.out HB0.out) HM0.out).mono ?_); rintro e w1 ⟨rfl, hb1⟩; have HB1 := Lib.hid (HB0.out.trans (hb1.mono HB0.out.size)); have y1_0 := blk_cell (v := .string x.f0) (HCE.out _ HB1.out).1 0 rfl; have z1_0 := blk_cell (v := .string x.f0) (HCE.out _ HB1.out).2 0 rfl; have y1_1 := blk_cell (v := .int .i64 x.f1) (HCE.out _ HB1.out).1 1 rfl; have z1_1 := blk_cell (v := .int .i64 x.f1) (HCE.out _ HB1.out).2 1 rfl; have y1_2 := blk_cell (v := .slice A2 x.f2.length c2) (HCE.out _ HB1.out).1 2 rfl; have z1_2 := blk_cell (v := .slice B2 x.f2.length d2) (HCE.out _ HB1.out).2 2 rfl; have y1_3 := blk_cell (v := .slice A3 x.f3.length c3) (HCE.out _ HB1.out).1 3 rfl; have z1_3 := blk_cell (v := .slice B3 x.f3.length d3) (HCE.out _ HB1.out).2 3 rfl; clear hb1)) | (go_at_call 62; ((with_reducible refine (same_money x.f3 A3 B3 c3 d3 _ (Kd.C_below G3.out HB1.out) (Kd.C_below K3.out HB1.out) HM1.out).mono ?_); rintro e w2 ⟨rfl, hb2⟩; have HB2 := Lib.hid (HB1.out.trans (hb2.mono HB1.out.size)); have y2_0 := blk_cell (v := .string x.f0) (HCE.out _ HB2.out).1 0 rfl; have z2_0 := blk_cell (v := .string x.f0) (HCE.out _ HB2.out).2 0 rfl; have y2_1 := blk_cell (v := .int .i64 x.f1) (HCE.out _ HB2.out).1 1 rfl; have z2_1 := blk_cell (v := .int .i64 x.f1) (HCE.out _ HB2.out).2 1 rfl; have y2_2 := blk_cell (v := .slice A2 x.f2.length c2) (HCE.out _ HB2.out).1 2 rfl; have z2_2 := blk_cell (v := .slice B2 x.f2.length d2) (HCE.out _ HB2.out).2 2 rfl; have y2_3 := blk_cell (v := .slice A3 x.f3.length c3) (HCE.out _ HB2.out).1 3 rfl; have z2_3 := blk_cell (v := .slice B3 x.f3.length d3) (HCE.out _ HB2.out).2 3 rfl; clear hb2)))
  go_ret
  exact ⟨by simp, HBX.out.trans (HB2.out.mono HBX.out.size)⟩
theorem same_lit (x : S91) (A2 B2 : Option Addr) (c2 d2 : Nat) (w : World) (g2 : Kd.C Kd.string w A2 x.f2.length x.f2) (k2 : Kd.C Kd.string w B2 x.f2.length x.f2) (hs : smLit x) :
    Calls Tryz.prog 64 #[.agg #[.bool x.f0, .string x.f1, .slice A2 x.f2.length c2, .bool x.f3, .int .i64 x.f4], .agg #[.bool x.f0, .string x.f1, .slice B2 x.f2.length d2, .bool x.f3, .int .i64 x.f4]] w fun e w' => e = .returned (.bool true) ∧ Below w.heap.size w w' := by
  have HSM := Lib.hid hs
  obtain ⟨X, hX⟩ : ∃ X, (w.alloc (.cells #[.bool x.f0, .string x.f1, .slice A2 x.f2.length c2, .bool x.f3, .int .i64 x.f4] 91)).alloc (.cells #[.bool x.f0, .string x.f1, .slice B2 x.f2.length d2, .bool x.f3, .int .i64 x.f4] 91) = X := ⟨_, rfl⟩
  obtain ⟨b0, hb0⟩ : ∃ b, w.heap.size = b := ⟨_, rfl⟩
  obtain ⟨b1, hb1⟩ : ∃ b, b0 + 1 = b := ⟨_, rfl⟩
  have HBX := Lib.hid (show Below w.heap.size w X by rw [← hX]; exact ((Below.refl _ w).alloc (Nat.le_refl _) _).alloc (by rw [World.size_alloc]; omega) _)
  have h1 : X.heap[b1]? = some (.cells #[.bool x.f0, .string x.f1, .slice B2 x.f2.length d2, .bool x.f3, .int .i64 x.f4] 91 (0, 0)) := by
    rw [← hX, ← hb1, ← hb0]
    have h := heap_alloc_new (w.alloc (.cells #[.bool x.f0, .string x.f1, .slice A2 x.f2.length c2, .bool x.f3, .int .i64 x.f4] 91)) (.cells #[.bool x.f0, .string x.f1, .slice B2 x.f2.length d2, .bool x.f3, .int .i64 x.f4] 91)
    rw [World.size_alloc] at h
    exact h
  have h0 : X.heap[b0]? = some (.cells #[.bool x.f0, .string x.f1, .slice A2 x.f2.length c2, .bool x.f3, .int .i64 x.f4] 91 (0, 0)) := by
    rw [← hX, ← hb0]
    exact (((Below.refl _ _).alloc (Nat.le_refl _) _).block _ (by simp only [World.size_alloc]; omega)).trans (heap_alloc_new w _)
  have HCE := Lib.hid (fun W (hW : Below X.heap.size X W) => (⟨(hW.block b0 (blk_lt h0)).trans h0, (hW.block b1 (blk_lt h1)).trans h1⟩ : W.heap[b0]? = some (.cells #[.bool x.f0, .string x.f1, .slice A2 x.f2.length c2, .bool x.f3, .int .i64 x.f4] 91 (0, 0)) ∧ W.heap[b1]? = some (.cells #[.bool x.f0, .string x.f1, .slice B2 x.f2.length d2, .bool x.f3, .int .i64 x.f4] 91 (0, 0))))
  have G2 := Lib.hid (Kd.C_below g2 HBX.out)
  have K2 := Lib.hid (Kd.C_below k2 HBX.out)
  have HB0 := Lib.hid (Below.refl X.heap.size X)
  have y0_0 := blk_cell (v := .bool x.f0) (HCE.out X HB0.out).1 0 rfl
  have z0_0 := blk_cell (v := .bool x.f0) (HCE.out X HB0.out).2 0 rfl
  have y0_1 := blk_cell (v := .string x.f1) (HCE.out X HB0.out).1 1 rfl
  have z0_1 := blk_cell (v := .string x.f1) (HCE.out X HB0.out).2 1 rfl
  have y0_2 := blk_cell (v := .slice A2 x.f2.length c2) (HCE.out X HB0.out).1 2 rfl
  have z0_2 := blk_cell (v := .slice B2 x.f2.length d2) (HCE.out X HB0.out).2 2 rfl
  have y0_3 := blk_cell (v := .bool x.f3) (HCE.out X HB0.out).1 3 rfl
  have z0_3 := blk_cell (v := .bool x.f3) (HCE.out X HB0.out).2 3 rfl
  have y0_4 := blk_cell (v := .int .i64 x.f4) (HCE.out X HB0.out).1 4 rfl
  have z0_4 := blk_cell (v := .int .i64 x.f4) (HCE.out X HB0.out).2 4 rfl
  have HX := Lib.hid hX
  have HN0 := Lib.hid hb0
  have HN1 := Lib.hid hb1
  have HM0 := Lib.hid (show x.f2.length ≤ 4294967296 from hs)
  clear g2 k2 hs hX hb0 hb1 h0 h1
  go_enter Tryz.func64, Tryz.ntmps64
  go_upto_region 1 with (fail)
  try rw [HX.out]
  try rw [HN0.out]
  try rw [HN1.out]
  go_wp2_with (first | (go_at_call 20; ((with_reducible refine (same_strings x.f2 A2 B2 c2 d2 _ (Kd.C_below G2.out HB0.out) (Kd.C_below K2.out HB0.out) HM0.out).mono ?_); rintro e w1 ⟨rfl, hb1⟩; have HB1 := Lib.hid (HB0.out.trans (hb1.mono HB0.out.size)); have y1_0 := blk_cell (v := .bool x.f0) (HCE.out _ HB1.out).1 0 rfl; have z1_0 := blk_cell (v := .bool x.f0) (HCE.out _ HB1.out).2 0 rfl; have y1_1 := blk_cell (v := .string x.f1) (HCE.out _ HB1.out).1 1 rfl; have z1_1 := blk_cell (v := .string x.f1) (HCE.out _ HB1.out).2 1 rfl; have y1_2 := blk_cell (v := .slice A2 x.f2.length c2) (HCE.out _ HB1.out).1 2 rfl; have z1_2 := blk_cell (v := .slice B2 x.f2.length d2) (HCE.out _ HB1.out).2 2 rfl; have y1_3 := blk_cell (v := .bool x.f3) (HCE.out _ HB1.out).1 3 rfl; have z1_3 := blk_cell (v := .bool x.f3) (HCE.out _ HB1.out).2 3 rfl; have y1_4 := blk_cell (v := .int .i64 x.f4) (HCE.out _ HB1.out).1 4 rfl; have z1_4 := blk_cell (v := .int .i64 x.f4) (HCE.out _ HB1.out).2 4 rfl; clear hb1)))
  go_ret
  exact ⟨by simp, HBX.out.trans (HB1.out.mono HBX.out.size)⟩
theorem same_term (x : S102) (A2 B2 : Option Addr) (c2 d2 : Nat) (w : World) (g2 : Kd.C Kd.string w A2 x.f2.length x.f2) (k2 : Kd.C Kd.string w B2 x.f2.length x.f2) (hs : smTerm x) :
    Calls Tryz.prog 143 #[.agg #[.int .i64 x.f0, .string x.f1, .slice A2 x.f2.length c2, .int .i64 x.f3], .agg #[.int .i64 x.f0, .string x.f1, .slice B2 x.f2.length d2, .int .i64 x.f3]] w fun e w' => e = .returned (.bool true) ∧ Below w.heap.size w w' := by
  have HSM := Lib.hid hs
  obtain ⟨X, hX⟩ : ∃ X, (w.alloc (.cells #[.int .i64 x.f0, .string x.f1, .slice A2 x.f2.length c2, .int .i64 x.f3] 102)).alloc (.cells #[.int .i64 x.f0, .string x.f1, .slice B2 x.f2.length d2, .int .i64 x.f3] 102) = X := ⟨_, rfl⟩
  obtain ⟨b0, hb0⟩ : ∃ b, w.heap.size = b := ⟨_, rfl⟩
  obtain ⟨b1, hb1⟩ : ∃ b, b0 + 1 = b := ⟨_, rfl⟩
  have HBX := Lib.hid (show Below w.heap.size w X by rw [← hX]; exact ((Below.refl _ w).alloc (Nat.le_refl _) _).alloc (by rw [World.size_alloc]; omega) _)
  have h1 : X.heap[b1]? = some (.cells #[.int .i64 x.f0, .string x.f1, .slice B2 x.f2.length d2, .int .i64 x.f3] 102 (0, 0)) := by
    rw [← hX, ← hb1, ← hb0]
    have h := heap_alloc_new (w.alloc (.cells #[.int .i64 x.f0, .string x.f1, .slice A2 x.f2.length c2, .int .i64 x.f3] 102)) (.cells #[.int .i64 x.f0, .string x.f1, .slice B2 x.f2.length d2, .int .i64 x.f3] 102)
    rw [World.size_alloc] at h
    exact h
  have h0 : X.heap[b0]? = some (.cells #[.int .i64 x.f0, .string x.f1, .slice A2 x.f2.length c2, .int .i64 x.f3] 102 (0, 0)) := by
    rw [← hX, ← hb0]
    exact (((Below.refl _ _).alloc (Nat.le_refl _) _).block _ (by simp only [World.size_alloc]; omega)).trans (heap_alloc_new w _)
  have HCE := Lib.hid (fun W (hW : Below X.heap.size X W) => (⟨(hW.block b0 (blk_lt h0)).trans h0, (hW.block b1 (blk_lt h1)).trans h1⟩ : W.heap[b0]? = some (.cells #[.int .i64 x.f0, .string x.f1, .slice A2 x.f2.length c2, .int .i64 x.f3] 102 (0, 0)) ∧ W.heap[b1]? = some (.cells #[.int .i64 x.f0, .string x.f1, .slice B2 x.f2.length d2, .int .i64 x.f3] 102 (0, 0))))
  have G2 := Lib.hid (Kd.C_below g2 HBX.out)
  have K2 := Lib.hid (Kd.C_below k2 HBX.out)
  have HB0 := Lib.hid (Below.refl X.heap.size X)
  have y0_0 := blk_cell (v := .int .i64 x.f0) (HCE.out X HB0.out).1 0 rfl
  have z0_0 := blk_cell (v := .int .i64 x.f0) (HCE.out X HB0.out).2 0 rfl
  have y0_1 := blk_cell (v := .string x.f1) (HCE.out X HB0.out).1 1 rfl
  have z0_1 := blk_cell (v := .string x.f1) (HCE.out X HB0.out).2 1 rfl
  have y0_2 := blk_cell (v := .slice A2 x.f2.length c2) (HCE.out X HB0.out).1 2 rfl
  have z0_2 := blk_cell (v := .slice B2 x.f2.length d2) (HCE.out X HB0.out).2 2 rfl
  have y0_3 := blk_cell (v := .int .i64 x.f3) (HCE.out X HB0.out).1 3 rfl
  have z0_3 := blk_cell (v := .int .i64 x.f3) (HCE.out X HB0.out).2 3 rfl
  have HX := Lib.hid hX
  have HN0 := Lib.hid hb0
  have HN1 := Lib.hid hb1
  have HM0 := Lib.hid (show x.f2.length ≤ 4294967296 from hs)
  clear g2 k2 hs hX hb0 hb1 h0 h1
  go_enter Tryz.func143, Tryz.ntmps143
  go_upto_region 1 with (fail)
  try rw [HX.out]
  try rw [HN0.out]
  try rw [HN1.out]
  go_wp2_with (first | (go_at_call 20; ((with_reducible refine (same_strings x.f2 A2 B2 c2 d2 _ (Kd.C_below G2.out HB0.out) (Kd.C_below K2.out HB0.out) HM0.out).mono ?_); rintro e w1 ⟨rfl, hb1⟩; have HB1 := Lib.hid (HB0.out.trans (hb1.mono HB0.out.size)); have y1_0 := blk_cell (v := .int .i64 x.f0) (HCE.out _ HB1.out).1 0 rfl; have z1_0 := blk_cell (v := .int .i64 x.f0) (HCE.out _ HB1.out).2 0 rfl; have y1_1 := blk_cell (v := .string x.f1) (HCE.out _ HB1.out).1 1 rfl; have z1_1 := blk_cell (v := .string x.f1) (HCE.out _ HB1.out).2 1 rfl; have y1_2 := blk_cell (v := .slice A2 x.f2.length c2) (HCE.out _ HB1.out).1 2 rfl; have z1_2 := blk_cell (v := .slice B2 x.f2.length d2) (HCE.out _ HB1.out).2 2 rfl; have y1_3 := blk_cell (v := .int .i64 x.f3) (HCE.out _ HB1.out).1 3 rfl; have z1_3 := blk_cell (v := .int .i64 x.f3) (HCE.out _ HB1.out).2 3 rfl; clear hb1)))
  go_ret
  exact ⟨by simp, HBX.out.trans (HB1.out.mono HBX.out.size)⟩
theorem same_total (x : S104) (A2 B2 : Option Addr) (c2 d2 : Nat) (w : World) (g2 : Kd.C Kd.string w A2 x.f2.length x.f2) (k2 : Kd.C Kd.string w B2 x.f2.length x.f2) (hs : smTotal x) :
    Calls Tryz.prog 45 #[.agg #[.string x.f0, .string x.f1, .slice A2 x.f2.length c2, .bool x.f3, .int .i64 x.f4], .agg #[.string x.f0, .string x.f1, .slice B2 x.f2.length d2, .bool x.f3, .int .i64 x.f4]] w fun e w' => e = .returned (.bool true) ∧ Below w.heap.size w w' := by
  have HSM := Lib.hid hs
  obtain ⟨X, hX⟩ : ∃ X, (w.alloc (.cells #[.string x.f0, .string x.f1, .slice A2 x.f2.length c2, .bool x.f3, .int .i64 x.f4] 104)).alloc (.cells #[.string x.f0, .string x.f1, .slice B2 x.f2.length d2, .bool x.f3, .int .i64 x.f4] 104) = X := ⟨_, rfl⟩
  obtain ⟨b0, hb0⟩ : ∃ b, w.heap.size = b := ⟨_, rfl⟩
  obtain ⟨b1, hb1⟩ : ∃ b, b0 + 1 = b := ⟨_, rfl⟩
  have HBX := Lib.hid (show Below w.heap.size w X by rw [← hX]; exact ((Below.refl _ w).alloc (Nat.le_refl _) _).alloc (by rw [World.size_alloc]; omega) _)
  have h1 : X.heap[b1]? = some (.cells #[.string x.f0, .string x.f1, .slice B2 x.f2.length d2, .bool x.f3, .int .i64 x.f4] 104 (0, 0)) := by
    rw [← hX, ← hb1, ← hb0]
    have h := heap_alloc_new (w.alloc (.cells #[.string x.f0, .string x.f1, .slice A2 x.f2.length c2, .bool x.f3, .int .i64 x.f4] 104)) (.cells #[.string x.f0, .string x.f1, .slice B2 x.f2.length d2, .bool x.f3, .int .i64 x.f4] 104)
    rw [World.size_alloc] at h
    exact h
  have h0 : X.heap[b0]? = some (.cells #[.string x.f0, .string x.f1, .slice A2 x.f2.length c2, .bool x.f3, .int .i64 x.f4] 104 (0, 0)) := by
    rw [← hX, ← hb0]
    exact (((Below.refl _ _).alloc (Nat.le_refl _) _).block _ (by simp only [World.size_alloc]; omega)).trans (heap_alloc_new w _)
  have HCE := Lib.hid (fun W (hW : Below X.heap.size X W) => (⟨(hW.block b0 (blk_lt h0)).trans h0, (hW.block b1 (blk_lt h1)).trans h1⟩ : W.heap[b0]? = some (.cells #[.string x.f0, .string x.f1, .slice A2 x.f2.length c2, .bool x.f3, .int .i64 x.f4] 104 (0, 0)) ∧ W.heap[b1]? = some (.cells #[.string x.f0, .string x.f1, .slice B2 x.f2.length d2, .bool x.f3, .int .i64 x.f4] 104 (0, 0))))
  have G2 := Lib.hid (Kd.C_below g2 HBX.out)
  have K2 := Lib.hid (Kd.C_below k2 HBX.out)
  have HB0 := Lib.hid (Below.refl X.heap.size X)
  have y0_0 := blk_cell (v := .string x.f0) (HCE.out X HB0.out).1 0 rfl
  have z0_0 := blk_cell (v := .string x.f0) (HCE.out X HB0.out).2 0 rfl
  have y0_1 := blk_cell (v := .string x.f1) (HCE.out X HB0.out).1 1 rfl
  have z0_1 := blk_cell (v := .string x.f1) (HCE.out X HB0.out).2 1 rfl
  have y0_2 := blk_cell (v := .slice A2 x.f2.length c2) (HCE.out X HB0.out).1 2 rfl
  have z0_2 := blk_cell (v := .slice B2 x.f2.length d2) (HCE.out X HB0.out).2 2 rfl
  have y0_3 := blk_cell (v := .bool x.f3) (HCE.out X HB0.out).1 3 rfl
  have z0_3 := blk_cell (v := .bool x.f3) (HCE.out X HB0.out).2 3 rfl
  have y0_4 := blk_cell (v := .int .i64 x.f4) (HCE.out X HB0.out).1 4 rfl
  have z0_4 := blk_cell (v := .int .i64 x.f4) (HCE.out X HB0.out).2 4 rfl
  have HX := Lib.hid hX
  have HN0 := Lib.hid hb0
  have HN1 := Lib.hid hb1
  have HM0 := Lib.hid (show x.f2.length ≤ 4294967296 from hs)
  clear g2 k2 hs hX hb0 hb1 h0 h1
  go_enter Tryz.func45, Tryz.ntmps45
  go_upto_region 1 with (fail)
  try rw [HX.out]
  try rw [HN0.out]
  try rw [HN1.out]
  go_wp2_with (first | (go_at_call 20; ((with_reducible refine (same_strings x.f2 A2 B2 c2 d2 _ (Kd.C_below G2.out HB0.out) (Kd.C_below K2.out HB0.out) HM0.out).mono ?_); rintro e w1 ⟨rfl, hb1⟩; have HB1 := Lib.hid (HB0.out.trans (hb1.mono HB0.out.size)); have y1_0 := blk_cell (v := .string x.f0) (HCE.out _ HB1.out).1 0 rfl; have z1_0 := blk_cell (v := .string x.f0) (HCE.out _ HB1.out).2 0 rfl; have y1_1 := blk_cell (v := .string x.f1) (HCE.out _ HB1.out).1 1 rfl; have z1_1 := blk_cell (v := .string x.f1) (HCE.out _ HB1.out).2 1 rfl; have y1_2 := blk_cell (v := .slice A2 x.f2.length c2) (HCE.out _ HB1.out).1 2 rfl; have z1_2 := blk_cell (v := .slice B2 x.f2.length d2) (HCE.out _ HB1.out).2 2 rfl; have y1_3 := blk_cell (v := .bool x.f3) (HCE.out _ HB1.out).1 3 rfl; have z1_3 := blk_cell (v := .bool x.f3) (HCE.out _ HB1.out).2 3 rfl; have y1_4 := blk_cell (v := .int .i64 x.f4) (HCE.out _ HB1.out).1 4 rfl; have z1_4 := blk_cell (v := .int .i64 x.f4) (HCE.out _ HB1.out).2 4 rfl; clear hb1)))
  go_ret
  exact ⟨by simp, HBX.out.trans (HB1.out.mono HBX.out.size)⟩
end Go.Proofs.YtcakgennlliejaaGreatDoor
