import Derived.ChangeSlices
import Derived.OpenShut
import Derived.Test.YtcakgennlliejaaGreatDoorSynK25
import Derived.Test.YtcakgennlliejaaGreatDoorSynK26
import Derived.Test.YtcakgennlliejaaGreatDoorSynK27
import Derived.Test.YtcakgennlliejaaGreatDoorSynK29
set_option maxHeartbeats 8000000
set_option maxRecDepth 100000
namespace Go.Proofs.YtcakgennlliejaaGreatDoor
open Go.Shelf Go.RowKit Go.Lib
open Go.Proofs.YtcakgennlliejaaGreatDoorW.PrintWords
open Go.Proofs.YtcakgennlliejaaGreatDoor.PSyntaxJoined
set_option linter.unusedVariables false
set_option linter.unusedSimpArgs false
namespace Sx
def Al {α : Type} (P : α → Prop) : Res α → Prop
  | .ok v _ => P v
  | .bad _ _ => True
section
variable {α β : Type} {P : α → Prop} {Q : β → Prop}
theorem Al.bnd {r : Res α} {k : α → Nat → Res β} (h : Al P r) (hk : ∀ v q, P v → Al Q (k v q)) : Al Q (r.bnd k) := by
  cases r with
  | ok v q => exact hk v q h
  | bad e a => trivial
theorem Al.cond {b : Bool} {x y : Res α} (hx : Al P x) (hy : Al P y) : Al P (if b then x else y) := by cases b; exact hy; exact hx
theorem Al.ite {b : Prop} [Decidable b] {x y : Res α} (hx : Al P x) (hy : Al P y) : Al P (if b then x else y) := by
  by_cases c : b
  · rw [if_pos c]; exact hx
  · rw [if_neg c]; exact hy
theorem Al.any (r : Res α) : Al (fun _ => True) r := by cases r <;> trivial
end
section
variable (V : Env)
theorem Al_room (n most : Int) (p : Nat) : Al (fun _ => n < most) (V.room n most p) := by
  unfold Env.room
  by_cases h : most ≤ n
  · rw [if_pos h]; trivial
  · rw [if_neg h]; show n < most; omega
theorem Al_listM {α : Type} {P : α → Prop} {g : Nat → Res α} (hg : ∀ p, Al P (g p)) (N : Nat) : ∀ (n : Nat) (out : List α) (p : Nat), out.length + n ≤ N → (∀ x ∈ out, P x) → Al (fun l => l.length ≤ N ∧ ∀ x ∈ l, P x) (V.listM g n out p)
  | 0, out, p, _, _ => trivial
  | n + 1, out, p, hn, ho => by
    unfold Env.listM
    refine (hg p).bnd fun v q hv => ?_
    have h2 : ∀ x ∈ out ++ [v], P x := fun x hx => by
      rcases List.mem_append.1 hx with hx | hx
      · exact ho x hx
      · rw [List.mem_singleton.1 hx]; exact hv
    have h3 : (out ++ [v]).length = out.length + 1 := by rw [List.length_append, List.length_singleton]
    exact Al.cond (Al_listM hg N n _ _ (by omega) h2) ⟨by omega, h2⟩
theorem Al_list {α : Type} {P : α → Prop} {g : Nat → Res α} (hg : ∀ p, Al P (g p)) (n most : Int) (p : Nat) (N : Nat) (h : (most - n).toNat ≤ N) : Al (fun l => l.length ≤ N ∧ ∀ x ∈ l, P x) (V.list g n most p) :=
  Al_listM V hg N _ _ _ (by simpa using h) (fun _ h => by cases h)
theorem sm_of {α : Type} {l : List α} {N : Nat} (h : l.length ≤ N) (hN : N ≤ 4294967296) : sm l := Nat.le_trans h hN
theorem Al_brackets (g : Nat → Res ByteArray) (p : Nat) : Al (fun l => sm l) (V.brackets g p) := by
  unfold Env.brackets
  refine Al.cond ?_ (show sm [] from Nat.zero_le _)
  exact (Al_list V (P := fun _ => True) (fun p => Al.any _) 0 4 (p + 1) 4 (by decide)).bnd fun l q hl => (Al.any (V.must 6 ⟨#[41]⟩ q)).bnd fun _ _ _ => sm_of hl.1 (by decide)
theorem Al_literal (p : Nat) : Al smLit (V.literal p) := by
  unfold Env.literal
  refine (Al.any _).bnd fun n q2 _ => (Al_brackets V _ _).bnd fun l q3 hl => Al.cond ?_ hl
  exact (Al.any _).bnd fun m q4 _ => hl
theorem Al_term (sg : Int) (p : Nat) : Al smTerm (V.term sg p) := by
  unfold Env.term
  refine Al.cond ((Al.any _).bnd fun c q _ => (Al.any _).bnd fun n q2 _ => (Al_brackets V _ _).bnd fun l q3 hl => hl) (Al.cond ((Al.any _).bnd fun m q _ => ?_) ((Al.any _).bnd fun n q2 _ => (Al_brackets V _ _).bnd fun l q3 hl => hl))
  exact Nat.zero_le _
theorem Al_sumM : ∀ (n : Nat) (out : List S102) (p : Nat), out.length + n ≤ 8 → (∀ x ∈ out, smTerm x) → Al smTerms (V.sumM n out p)
  | 0, out, p, hn, ho => by
    unfold Env.sumM
    exact Al.cond trivial ⟨sm_of (N := 8) (by omega) (by decide), ho⟩
  | n + 1, out, p, hn, ho => by
    unfold Env.sumM
    have hk : ∀ t q, smTerm t → Al smTerms (V.sumM n (out ++ [t]) q) := fun t q ht => Al_sumM n _ _ (by rw [List.length_append, List.length_singleton]; omega) (fun x hx => by
      rcases List.mem_append.1 hx with hx | hx
      · exact ho x hx
      · rw [List.mem_singleton.1 hx]; exact ht)
    exact Al.cond ((Al_term V _ _).bnd hk) (Al.cond ((Al_term V _ _).bnd hk) ⟨sm_of (N := 8) (by omega) (by decide), ho⟩)
theorem Al_sum (p : Nat) : Al smTerms (V.sum p) := (Al_term V 1 p).bnd fun t q ht => Al_sumM V 7 [t] q (Nat.le_refl 8) (fun x hx => by rw [List.mem_singleton.1 hx]; exact ht)
theorem smNoLit : smLit noLit := Nat.zero_le _
theorem smNoGuard : smGuard noGuard := ⟨⟨Nat.zero_le _, fun _ h => by cases h⟩, ⟨Nat.zero_le _, fun _ h => by cases h⟩⟩
theorem Al_premise (p : Nat) : Al smPrem (V.premise p) := by
  unfold Env.premise
  refine Al.cond ((Al_sum V _).bnd fun l q hl => (Al.any _).bnd fun o q2 _ => (Al_sum V _).bnd fun r q3 hr => (Al.any _).bnd fun _ q4 _ => ⟨smNoLit, hl, hr⟩) (Al.cond ((Al.any _).bnd fun a q _ => (Al.any _).bnd fun _ q2 _ => (Al.any _).bnd fun b q3 _ => ⟨smNoLit, smNoGuard⟩) ((Al_literal V _).bnd fun l q hl => ⟨hl, smNoGuard⟩))
theorem Al_rule (cal : ByteArray → Int × Int) (p : Nat) : Al smRule (V.rule cal p) := by
  unfold Env.rule
  refine (Al.any _).bnd fun n q1 _ => (Al.any _).bnd fun _ q2 _ => (Al.any _).bnd fun s q3 _ => (Al.any _).bnd fun _ q4 _ => (Al.any _).bnd fun a q5 _ => (Al.any _).bnd fun u q6 _ => (Al.any _).bnd fun _ q7 _ => ?_
  unfold Env.ruleT
  refine Al.bnd (P := fun b => smPrems b) (Al.ite ?_ ⟨Nat.zero_le _, fun _ h => by cases h⟩) fun b q hb => Al.ite trivial ((Al_literal V _).bnd fun h q9 hh => ⟨hb, hh⟩)
  have h := Al_list V (P := smPrem) (fun p => Al_premise V p) 0 16 q7 16 (by decide)
  cases hr : V.list V.premise 0 16 q7 with
  | bad e a => trivial
  | ok v q => rw [hr] at h; exact ⟨sm_of h.1 (by decide), h.2⟩
theorem Al_pred (n : Nat) (sort : Int) (p : Nat) : Al (fun x => smPred x ∧ n < 256) (V.pred n sort p) := by
  unfold Env.pred
  refine (Al_room V _ _ _).bnd fun _ q0 hn => (Al.any _).bnd fun nm q1 _ => (Al_brackets V _ _).bnd fun ks q2 hk => Al.cond ((Al.any _).bnd fun _ q3 _ => (Al_list V (P := fun _ => True) (fun p => Al.any _) 0 64 q3 64 (by decide)).bnd fun vs q4 hv => ⟨⟨hk, sm_of hv.1 (by decide)⟩, by omega⟩) ⟨⟨hk, Nat.zero_le _⟩, by omega⟩
theorem Al_total (p : Nat) : Al smTotal (V.total p) := by
  unfold Env.total
  refine (Al.any _).bnd fun n q1 _ => (Al.any _).bnd fun _ q2 _ => (Al.any _).bnd fun k q3 _ => (Al.any _).bnd fun _ q4 _ => (Al.any _).bnd fun _ q5 _ => (Al_list V (P := fun _ => True) (fun p => Al.any _) 0 16 q5 16 (by decide)).bnd fun l q6 hl => Al.cond ((Al.any _).bnd fun m q7 _ => sm_of hl.1 (by decide)) (sm_of hl.1 (by decide))
end
structure Sh (s : Stt) : Prop where
  n1 : s.kinds.length ≤ 1000
  n2 : s.members.length ≤ 1000
  n3 : s.preds.length ≤ 1000
  n4 : s.classes.length ≤ 1000
  n5 : s.sources.length ≤ 1000
  n6 : s.rules.length ≤ 1000
  n7 : s.excepts.length ≤ 1000
  n8 : s.totals.length ≤ 1000
  a3 : ∀ x ∈ s.preds, smPred x
  a4 : ∀ x ∈ s.classes, sm x
  a6 : ∀ x ∈ s.rules, smRule x
  a8 : ∀ x ∈ s.totals, smTotal x
theorem Sh.sm {s : Stt} (h : Sh s) : smStt s :=
  ⟨sm_of h.n1 (by decide), sm_of h.n2 (by decide), ⟨sm_of h.n3 (by decide), h.a3⟩, ⟨sm_of h.n4 (by decide), h.a4⟩, sm_of h.n5 (by decide), ⟨sm_of h.n6 (by decide), h.a6⟩, sm_of h.n7 (by decide), ⟨sm_of h.n8 (by decide), h.a8⟩⟩
theorem Sh.none (t : ByteArray) : Sh ⟨t, [], [], [], [], [], [], [], []⟩ :=
  ⟨Nat.zero_le _, Nat.zero_le _, Nat.zero_le _, Nat.zero_le _, Nat.zero_le _, Nat.zero_le _, Nat.zero_le _, Nat.zero_le _, fun _ h => (by cases h), fun _ h => (by cases h), fun _ h => (by cases h), fun _ h => (by cases h)⟩
theorem all_one {α : Type} {P : α → Prop} {l : List α} {v : α} (h : ∀ x ∈ l, P x) (hv : P v) : ∀ x ∈ l ++ [v], P x := fun x hx => by
  rcases List.mem_append.1 hx with hx | hx
  · exact h x hx
  · rw [List.mem_singleton.1 hx]; exact hv
theorem len_one {α : Type} (l : List α) (v : α) {N : Nat} {most : Int} (h : (l.length : Int) < most) (hN : most ≤ N) : (l ++ [v]).length ≤ N := by rw [List.length_append, List.length_singleton]; omega
theorem Al_item (V : Env) (cal : ByteArray → Int × Int) (s : Stt) (hs : Sh s) (p : Nat) : Al Sh (V.item cal s p) := by
  unfold Env.item
  refine Al.cond ?_ trivial
  refine Al.cond ((Al_room V _ _ _).bnd fun _ q hn => (Al.any _).bnd fun n q2 _ => { hs with n1 := len_one _ _ hn (by decide) }) ?_
  refine Al.cond ((Al_list V (P := fun _ => True) (fun p => Al.any _) _ 64 _ (64 - (s.members.length : Int)).toNat (Nat.le_refl _)).bnd fun l q hl => (Al.any _).bnd fun _ q2 _ => (Al.any _).bnd fun k q3 _ => { hs with n2 := by rw [List.length_append, List.length_map]; have h1 := hl.1; have h2 := hs.n2; omega }) ?_
  refine Al.cond ((Al_pred V _ _ _).bnd fun x q hx => { hs with n3 := len_one _ _ (most := 256) (by have := hx.2; omega) (by decide), a3 := all_one hs.a3 hx.1 }) ?_
  refine Al.cond ((Al_pred V _ _ _).bnd fun x q hx => { hs with n3 := len_one _ _ (most := 256) (by have := hx.2; omega) (by decide), a3 := all_one hs.a3 hx.1 }) ?_
  refine Al.cond ((Al_pred V _ _ _).bnd fun x q hx => { hs with n3 := len_one _ _ (most := 256) (by have := hx.2; omega) (by decide), a3 := all_one hs.a3 hx.1 }) ?_
  refine Al.cond ((Al_room V _ _ _).bnd fun _ q hn => (Al.any _).bnd fun f q2 _ => (Al.any _).bnd fun _ q3 _ => (Al_list V (P := fun _ => True) (fun p => Al.any _) 1 16 q3 16 (by decide)).bnd fun l q4 hl => { hs with n4 := len_one _ _ hn (by decide), a4 := all_one hs.a4 (sm_of (N := 17) (by rw [List.length_cons]; have := hl.1; omega) (by decide)) }) ?_
  refine Al.cond ((Al_room V _ _ _).bnd fun _ q hn => (Al.any _).bnd fun f q2 _ => (Al.any _).bnd fun _ q3 _ => (Al.any _).bnd fun l q4 _ => { hs with n5 := len_one _ _ hn (by decide) }) ?_
  refine Al.cond ((Al_room V _ _ _).bnd fun _ q hn => (Al_rule V cal _).bnd fun x q2 hx => { hs with n6 := len_one _ _ hn (by decide), a6 := all_one hs.a6 hx }) ?_
  refine Al.cond ((Al_room V _ _ _).bnd fun _ q hn => (Al.any _).bnd fun f q2 _ => (Al.any _).bnd fun _ q3 _ => (Al.any _).bnd fun l q4 _ => { hs with n7 := len_one _ _ hn (by decide) }) ?_
  exact Al.cond ((Al_room V _ _ _).bnd fun _ q hn => (Al_total V _).bnd fun x q2 hx => { hs with n8 := len_one _ _ hn (by decide), a8 := all_one hs.a8 hx }) trivial
theorem Al_items (V : Env) (cal : ByteArray → Int × Int) : ∀ (n : Nat) (s : Stt), Sh s → ∀ p, Al Sh (V.items cal n s p)
  | 0, s, hs, p => hs
  | n + 1, s, hs, p => by
    unfold Env.items
    exact Al.ite ((Al_item V cal s hs p).bnd fun s2 q h2 => (Al.any _).bnd fun _ q2 _ => Al_items V cal n s2 h2 q2) hs
theorem Al_statute (V : Env) (cal : ByteArray → Int × Int) (p : Nat) : Al Sh (V.statute cal p) := (Al.any _).bnd fun t q _ => Al_items V cal _ _ (Sh.none t) q
theorem prs_sm {cal : ByteArray → Int × Int} {X : Lx} {n : Int} {st : Stt} {er a : Int} (h : PrsIs cal X n st er a) : smStt st := by
  rcases h with ⟨_, h, _⟩ | ⟨_, rb, A, c, hm⟩
  · rw [h]; exact (Sh.none _).sm
  · have h2 := Al_statute ⟨rb, A, c, toks X.l, n⟩ cal 0
    cases hs : (⟨rb, A, c, toks X.l, n⟩ : Env).statute cal 0 with
    | ok v q => rw [hs] at hm h2; rw [hm.1]; exact h2.sm
    | bad e b => rw [hs] at hm; rw [hm.1]; exact (Sh.none _).sm
def kt (t : S48) : Int × ByteArray := (t.f0, t.f1)
theorem prs_same {cal : ByteArray → Int × Int} {X X' : Lx} {n n' : Int} {st st' : Stt} {er er' a a' : Int} (h : PrsIs cal X n st er a) (h' : PrsIs cal X' n' st' er' a') (he : X.e = 0) (he' : X'.e = 0) (hk : X.l.map kt = X'.l.map kt) : er = er' ∧ st = st' := by
  rcases h with ⟨g, _⟩ | ⟨_, rb, A, c, hm⟩
  · exact absurd he g
  rcases h' with ⟨g, _⟩ | ⟨_, rb', A', c', hm'⟩
  · exact absurd he' g
  have hlen : X.l.length = X'.l.length := by have h1 := congrArg List.length hk; rwa [List.length_map, List.length_map] at h1
  obtain ⟨V, hV⟩ : ∃ V : Env, (⟨rb, A, c, toks X.l, n⟩ : Env) = V := ⟨_, rfl⟩
  obtain ⟨V', hV'⟩ : ∃ V : Env, (⟨rb', A', c', toks X'.l, n'⟩ : Env) = V := ⟨_, rfl⟩
  have hT : V.T.length = V'.T.length := by
    rw [← hV, ← hV']
    show (toks X.l).length = (toks X'.l).length
    unfold toks
    rw [List.length_map, List.length_map, hlen]
  have hnx : ∀ i, (V.next i).k = (V'.next (i + 0)).k ∧ (V.next i).t = (V'.next (i + 0)).t := by
    intro i
    have h1 : ((X.l.getD i z48).f0, (X.l.getD i z48).f1) = ((X'.l.getD i z48).f0, (X'.l.getD i z48).f1) := by
      have h2 := congrArg (fun l => l[i]?) hk
      simp only [List.getElem?_map] at h2
      rw [List.getD_eq_getElem?_getD, List.getD_eq_getElem?_getD]
      cases h3 : X.l[i]? with
      | none =>
        cases h4 : X'.l[i]? with
        | none => rfl
        | some y => rw [h3, h4] at h2; cases h2
      | some x =>
        cases h4 : X'.l[i]? with
        | none => rw [h3, h4] at h2; cases h2
        | some y => rw [h3, h4] at h2; injection h2
    have e1 : V.next i = ⟨(X.l.getD i z48).f0, (X.l.getD i z48).f1, (X.l.getD i z48).f2⟩ := by rw [← hV]; exact Sx.toks_next X.l i
    have e2 : V'.next (i + 0) = ⟨(X'.l.getD i z48).f0, (X'.l.getD i z48).f1, (X'.l.getD i z48).f2⟩ := by rw [← hV']; exact Sx.toks_next X'.l i
    rw [e1, e2]
    injection h1 with g1 g2
    exact ⟨g1, g2⟩
  have hA : ∀ q, Agree V V' 0 q := fun q i _ => ⟨(hnx i).1, (hnx i).2, by rw [hT]; rfl⟩
  have hr : Rl V V' 0 0 (V.statute cal 0) (V'.statute cal 0) := by
    unfold Env.statute
    rw [← hT]
    exact (Rl_title (V := V) (V' := V') (d := 0) 0).bnd (fun t q _ => Rl_items cal _ _ q)
  rw [hV] at hm
  rw [hV'] at hm'
  cases hs : V.statute cal 0 with
  | ok v q =>
    rw [hs] at hm hr
    rw [hr.2 (hA q)] at hm'
    exact ⟨hm.2.1.trans hm'.2.1.symm, hm.1.trans hm'.1.symm⟩
  | bad e b =>
    rw [hs] at hm hr
    obtain ⟨b', hb'⟩ := hr.2.2 hA
    rw [hb'] at hm'
    exact ⟨hm.2.1.trans hm'.2.1.symm, hm.1.trans hm'.1.symm⟩
def Tokish (t : S48) : Prop := ∃ c l p q, Sx.step (c :: l) p = .tok t q
theorem lexM_tokish : ∀ (n : Nat) (r : List UInt8) (p : Nat) (l : List S48), (∀ x ∈ l, Tokish x) → ∀ x ∈ (lexM n r p l).l, Tokish x
  | 0, _, _, _, h => h
  | n + 1, [], p, l, h => h
  | n + 1, c :: r, p, l, h => by
    rw [lexM_succ _ _ _ _ (List.cons_ne_nil _ _)]
    cases hs : Sx.step (c :: r) p with
    | go q => exact lexM_tokish n _ q l h
    | rem b q => exact lexM_tokish n _ q l h
    | tok t q => exact lexM_tokish n _ q _ (all_one h ⟨c, r, p, q, hs⟩)
    | jam t q => exact fun _ hx => by cases hx
    | no e a => exact fun _ hx => by cases hx
theorem lex_tokish (s : ByteArray) : ∀ x ∈ (lex s).l, Tokish x := by
  unfold lex
  by_cases h : 65536 < s.size
  · rw [if_pos h]; exact fun _ hx => by cases hx
  · rw [if_neg h]; exact lexM_tokish _ _ _ _ (fun _ hx => by cases hx)
def SpB : List S48 → List UInt8 → Prop
  | [], r => r = []
  | t :: l, r => ∃ g r2, IsGap g ∧ r = tokB t ++ (g ++ r2) ∧ SpB l r2
theorem SpB.snoc : ∀ {l : List S48} {r : List UInt8} {t : S48} {g : List UInt8}, SpB l r → IsGap g → SpB (l ++ [t]) (r ++ (tokB t ++ g))
  | [], r, t, g, h, hg => by
    have h' : r = [] := h
    subst h'
    exact ⟨g, [], hg, by rw [List.nil_append, List.append_nil], rfl⟩
  | x :: l, r, t, g, h, hg => by
    obtain ⟨g1, r2, h1, rfl, h3⟩ := h
    exact ⟨g1, r2 ++ (tokB t ++ g), h1, by rw [List.append_assoc, List.append_assoc], h3.snoc hg⟩
theorem SpB_lex : ∀ (l : List S48) (r : List UInt8) (p : Nat) (acc : List S48), (∀ x ∈ l, Tokish x) → SpB l r → ∃ l2, lexL r p acc = ⟨acc ++ l2, 0, ((p + r.length : Nat) : Int)⟩ ∧ l2.map kt = l.map kt
  | [], r, p, acc, _, h => by
    have h' : r = [] := h
    subst h'
    exact ⟨[], by rw [List.append_nil]; rfl, rfl⟩
  | t :: l, r, p, acc, ht, h => by
    obtain ⟨g, r2, hg, rfl, h3⟩ := h
    obtain ⟨c, l0, p0, q0, hstep⟩ := ht t List.mem_cons_self
    obtain ⟨b, gt, hgb, hb⟩ := gap_head hg
    obtain ⟨⟨c2, l2, hB⟩, hag⟩ := tok_again hstep b (gt ++ r2) hb p
    obtain ⟨l3, hl3, hk3⟩ := SpB_lex l r2 (p + (tokB t).length + g.length) (acc ++ [⟨t.f0, t.f1, p⟩]) (fun x hx => ht x (List.mem_cons_of_mem _ hx)) h3
    have hgr : b :: (gt ++ r2) = g ++ r2 := by rw [hgb]; rfl
    rw [hgr] at hag
    have hpos : p < p + (tokB t).length := by rw [hB, List.length_cons]; omega
    have h9 : lexL (tokB t ++ (g ++ r2)) p acc = lexL (g ++ r2) (p + (tokB t).length) (acc ++ [⟨t.f0, t.f1, p⟩]) := by
      have h7 : tokB t ++ (g ++ r2) = c2 :: (l2 ++ (g ++ r2)) := by rw [hB]; rfl
      rw [h7] at hag ⊢
      rw [lexL_tok hag hpos, ← h7, show p + (tokB t).length - p = (tokB t).length by omega, List.drop_left]
    refine ⟨⟨t.f0, t.f1, p⟩ :: l3, ?_, ?_⟩
    · rw [h9, lexL_gap hg, hl3, List.append_assoc, List.length_append, List.length_append]
      have e1 : p + (tokB t).length + g.length + r2.length = p + ((tokB t).length + (g.length + r2.length)) := by omega
      rw [e1]
      rfl
    · rw [List.map_cons, List.map_cons, hk3]
      rfl
theorem spaced_lex {s o : ByteArray} {body : List UInt8} (ho : o.data.toList = 10 :: body) (h : SpB (lex s).l body) (hz : o.size ≤ 65536) : (lex o).e = 0 ∧ (lex s).l.map kt = (lex o).l.map kt := by
  have h1 : lex o = lexL o.data.toList 0 [] := by
    unfold lex
    rw [if_neg (by omega)]
    rfl
  obtain ⟨l2, hl, hk⟩ := SpB_lex _ body 1 [] (lex_tokish s) h
  rw [ho, lexL_blank (by decide)] at h1
  rw [h1, hl]
  exact ⟨rfl, hk.symm⟩
end Sx
open Sx
theorem rtokens_calls (s : ByteArray) (w : World) : Calls Tryz.prog 11 #[.string s] w fun e w' => ∃ tv, e = .returned (.tuple #[tv, .int .i64 (lex s).e, .int .i64 (lex s).at_]) ∧ Kd.R k48 48 w' w.heap.size (fun k => w.heap.size ≤ k) tv (lex s).l ∧ Below w.heap.size w w' := by
  have HW := Lib.hid (rwalk_calls s w)
  generalize lex s = X at HW ⊢
  go_enter Tryz.func11, Tryz.ntmps11
  go_wp2_with (first | (go_at_call 28; ((with_reducible refine HW.out.mono ?_); rintro e w2 ⟨tv, rv, rfl, hr2, hb2⟩; have HR2 := Lib.hid hr2; have HB2 := Lib.hid hb2; clear hr2 hb2)))
  go_ret3
  exact ⟨tv, rfl, HR2.out, HB2.out⟩
def Sx.SpTo (l : List S48) (o : ByteArray) : Prop := ∃ body, o.data.toList = 10 :: body ∧ SpB l body ∧ o.size ≤ 1 + l.length * 70000
theorem Sx.SpTo.snoc {l : List S48} {o o2 : ByteArray} {t : S48} {g : List UInt8} (h : SpTo l o) (hg : IsGap g) (ht : t.f1.size ≤ 65536) (ho : o2.data.toList = o.data.toList ++ (tokB t ++ g)) : SpTo (l ++ [t]) o2 := by
  obtain ⟨body, h1, h2, h3⟩ := h
  refine ⟨body ++ (tokB t ++ g), by rw [ho, h1]; rfl, h2.snoc hg, ?_⟩
  have hs : o2.size = o.size + ((tokB t).length + g.length) := by
    show o2.data.toList.length = o.data.toList.length + _
    rw [ho, List.length_append, List.length_append]
  have hgl : g.length ≤ 18 := by rcases hg with rfl | rfl | rfl | rfl <;> decide
  have htl : (tokB t).length ≤ 65538 := by
    unfold tokB
    have h9 : t.f1.data.toList.length = t.f1.size := rfl
    split
    · rw [List.length_cons, List.length_append, List.length_singleton]; omega
    · omega
  rw [hs, List.length_append, List.length_singleton]
  omega
theorem Sx.tokB_plain {x : S48} (h : (x.f0 == 5) = false) : tokB x = x.f1.data.toList := by
  have h2 : ¬ x.f0 = 5 := by simpa using h
  unfold tokB
  rw [if_neg h2]
theorem Sx.tokB_quote {x : S48} (h : (x.f0 == 5) = true) : tokB x = 34 :: (x.f1.data.toList ++ [34]) := by
  have h2 : x.f0 = 5 := by simpa using h
  unfold tokB
  rw [if_pos h2]
theorem Sx.app_list (a b : ByteArray) : (a ++ b).data.toList = a.data.toList ++ b.data.toList := by
  rw [ByteArray.data_append, Array.toList_append]
theorem spaced_calls (l : List S48) (A0 : Option Addr) (c0 : Nat) (gz : List Int) (A1 : Option Addr) (c1 : Nat) (w : World) (h0 : Kd.C k48 w A0 l.length l) (h1 : Kd.C (Kd.int .i64) w A1 gz.length gz) (hl : l.length ≤ 3000) (ht : ∀ t ∈ l, t.f1.size ≤ 65536) (hgz : gz.length ≤ 17592186044416) :
    Calls Tryz.prog 12 #[.slice A0 l.length c0, .slice A1 gz.length c1] w fun e w' => ∃ o, e = .returned (.string o) ∧ SpTo l o ∧ Below w.heap.size w w' := by
  obtain ⟨n, hn⟩ : ∃ n, l.length = n := ⟨_, rfl⟩
  obtain ⟨m, hm⟩ : ∃ m, gz.length = m := ⟨_, rfl⟩
  have HC0 := Lib.hid h0
  have HC1 := Lib.hid h1
  have HN := Lib.hid hn
  have HM := Lib.hid hm
  have HT := Lib.hid ht
  rw [hn] at hl ⊢
  rw [hm] at hgz ⊢
  have HL := Lib.hid hl
  have HGZ := Lib.hid hgz
  clear h0 h1 hl hn ht hm hgz
  go_enter Tryz.func12, Tryz.ntmps12
  go_wp2_with fail
  go_loopw [5, 6] (fun u5 u6 wr => ∃ (i : Nat) (o : ByteArray), u6 = .int .i64 i ∧ u5 = .string o ∧ i ≤ n ∧ SpTo (l.take i) o ∧ Below w.heap.size w wr) (fun _ u6 _ => n - (RowKit.intOf u6).toNat)
  case atStart => exact ⟨0, ⟨#[10]⟩, rfl, rfl, Nat.zero_le _, ⟨[], rfl, rfl, by show (1 : Nat) ≤ _; omega⟩, Below.refl _ _⟩
  case round =>
    obtain ⟨i, o, rfl, rfl, hi, hsp, hb⟩ := hrel
    have HB := Lib.hid hb
    have HSP := Lib.hid hsp
    by_cases hlt : i < n
    · have hil : (i : Int) < (l.length : Int) := by have := HN.out; omega
      obtain ⟨a0, ea0, t0, t1, t2⟩ := at_T48 HC0.out (i : Int) (Int.natCast_nonneg i) hil
      subst ea0
      simp only [Int.toNat_natCast] at t0 t1 t2
      have hx : rd_T48 l (i : Int) = l[i]'(by have := HN.out; omega) := by
        show l.getD i _ = _
        rw [List.getD_eq_getElem?_getD, List.getElem?_eq_getElem (by have := HN.out; omega)]
        rfl
      have htx : (rd_T48 l (i : Int)).f1.size ≤ 65536 := by rw [hx]; exact HT.out _ (List.getElem_mem _)
      have htk : l.take (i + 1) = l.take i ++ [rd_T48 l (i : Int)] := by rw [hx]; exact List.take_succ_eq_append_getElem _
      generalize rd_T48 l (i : Int) = x at *
      have y0 := keep_cell t0 hb
      have y1 := keep_cell t1 hb
      clear t0 t1 t2 hil hx
      have hos : o.size ≤ 300000000 := by
        obtain ⟨_, _, _, h3⟩ := hsp
        have h4 : (l.take i).length ≤ 3000 := by rw [List.length_take]; have := HL.out; omega
        have h5 : (l.take i).length * 70000 ≤ 3000 * 70000 := Nat.mul_le_mul_right _ h4
        omega
      have HTX := Lib.hid htx
      have HTK := Lib.hid htk
      have HOS := Lib.hid hos
      have HLT := Lib.hid hlt
      have x0 : (0 : Int) ≤ (i : Int) := by omega
      have x1 : (i : Int) < (n : Int) := by omega
      have x5 : (i : Int) ≤ 3000 := by have := HL.out; omega
      have x2 : decide ((i : Int) < (n : Int)) = true := decide_eq_true x1
      have x3 : decide (i < n) = true := decide_eq_true hlt
      clear hlt hi hsp hb htk
      cases hk5 : (x.f0 == 5)
      all_goals
        by_cases hm0 : m = 0
        · subst hm0
          go_wp2_with fail
          all_goals (focus (go_roundw; (case' rel => (refine ⟨i+1, _, rfl, rfl, HLT.out, ?_, HB.out⟩; rw [HTK.out]; first | (refine HSP.out.snoc (g := gap0) (.inl rfl) HTX.out ?_; ((first | rw [Sx.tokB_plain hk5] | rw [Sx.tokB_quote hk5]); simp only [Sx.app_list, List.append_assoc, List.cons_append, List.nil_append]; first | done | rfl)) | (refine HSP.out.snoc (g := gap1) (.inr (.inl rfl)) HTX.out ?_; ((first | rw [Sx.tokB_plain hk5] | rw [Sx.tokB_quote hk5]); simp only [Sx.app_list, List.append_assoc, List.cons_append, List.nil_append]; first | done | rfl)) | (refine HSP.out.snoc (g := gap2) (.inr (.inr (.inl rfl))) HTX.out ?_; ((first | rw [Sx.tokB_plain hk5] | rw [Sx.tokB_quote hk5]); simp only [Sx.app_list, List.append_assoc, List.cons_append, List.nil_append]; first | done | rfl)) | (refine HSP.out.snoc (g := gap3) (.inr (.inr (.inr rfl))) HTX.out ?_; ((first | rw [Sx.tokB_plain hk5] | rw [Sx.tokB_quote hk5]); simp only [Sx.app_list, List.append_assoc, List.cons_append, List.nil_append]; first | done | rfl)))); (show n - (i + 1 : Int).toNat < n - (i : Int).toNat; have := HLT.out; omega)))
        · have q1 : decide ((0 : Int) < (m : Int)) = true := decide_eq_true (by omega)
          have q2 : decide (0 < m) = true := decide_eq_true (by omega)
          obtain ⟨j, hj⟩ : ∃ j, i % m = j := ⟨_, rfl⟩
          have hjm : j < m := by rw [← hj]; exact Nat.mod_lt _ (by omega)
          have ej : (i : Int) % (m : Int) = (j : Int) := by rw [← hj]; exact (Int.natCast_emod i m).symm
          have q3 : (0 : Int) ≤ (j : Int) := by omega
          have q4 : (j : Int) < (m : Int) := by omega
          have q5 : (0 : Int) < (m : Int) := by omega
          obtain ⟨a1, ea1, s0⟩ := Kd.at_int HC1.out (j : Int) q3 (by have := HM.out; omega)
          subst ea1
          simp only [Int.toNat_natCast] at s0
          have r0 := keep_cell s0 HB.out
          clear s0 hj hjm hm0
          go_wp2_with fail
          all_goals (focus (go_roundw; (case' rel => (refine ⟨i+1, _, rfl, rfl, HLT.out, ?_, HB.out⟩; rw [HTK.out]; first | (refine HSP.out.snoc (g := gap0) (.inl rfl) HTX.out ?_; ((first | rw [Sx.tokB_plain hk5] | rw [Sx.tokB_quote hk5]); simp only [Sx.app_list, List.append_assoc, List.cons_append, List.nil_append]; first | done | rfl)) | (refine HSP.out.snoc (g := gap1) (.inr (.inl rfl)) HTX.out ?_; ((first | rw [Sx.tokB_plain hk5] | rw [Sx.tokB_quote hk5]); simp only [Sx.app_list, List.append_assoc, List.cons_append, List.nil_append]; first | done | rfl)) | (refine HSP.out.snoc (g := gap2) (.inr (.inr (.inl rfl))) HTX.out ?_; ((first | rw [Sx.tokB_plain hk5] | rw [Sx.tokB_quote hk5]); simp only [Sx.app_list, List.append_assoc, List.cons_append, List.nil_append]; first | done | rfl)) | (refine HSP.out.snoc (g := gap3) (.inr (.inr (.inr rfl))) HTX.out ?_; ((first | rw [Sx.tokB_plain hk5] | rw [Sx.tokB_quote hk5]); simp only [Sx.app_list, List.append_assoc, List.cons_append, List.nil_append]; first | done | rfl)))); (show n - (i + 1 : Int).toNat < n - (i : Int).toNat; have := HLT.out; omega)))
    · have HTK := Lib.hid (show l.take i = l by rw [List.take_of_length_le]; have := HN.out; omega)
      have x2 : decide ((i : Int) < (n : Int)) = false := decide_eq_false (by omega)
      have x3 : decide (i < n) = false := decide_eq_false hlt
      clear hb hlt hi hsp
      go_wp2_with fail
      go_ret
      refine ⟨_, rfl, ?_, HB.out⟩
      have h9 := HSP.out
      rw [HTK.out] at h9
      exact h9
end Go.Proofs.YtcakgennlliejaaGreatDoor
namespace Go.Proofs.YtcakgennlliejaaGreatDoor
open Go.Shelf Go.RowKit Go.Lib Go.ChangeShapes Go.WideShapes Go.ChangeAt
open Go.Proofs.YtcakgennlliejaaGreatDoorW.PrintWords
open Go.Proofs.YtcakgennlliejaaGreatDoor.PSyntaxJoined
open Sx
set_option linter.unusedVariables false
set_option linter.unusedSimpArgs false
theorem ilits_len {H : Type} (k : IntKind) : ∀ l : List Int, (lits (H := H) k l).length = l.length
  | [] => rfl
  | x :: l => by
    have ih := ilits_len (H := H) k l
    show (lits k l : List (DataW H)).length + 1 = l.length + 1
    rw [ih]
theorem open_gaps {H : Type} {enc : TypeId × Value → H} {W : World} {base fuel : Nat} {held : Bool} {A : Option Addr} {len cap : Nat} {d : DataW H} {ps : List MemPlace}
    (h : DataW.trod enc Tryz.prog W base (fun _ => true) held fuel 39 [.slice A len cap] = some (d, ps)) :
    ∃ l : List Int, len = l.length ∧ Kd.C (Kd.int .i64) W A l.length l ∧ (l.length = 0 ∨ ∃ es sp : List (DataW H), d = .slice es sp ∧ es.length = l.length) := by
  rcases open_ints Tryz.underlying39 Tryz.underlying3 (by kernel_rfl) h with ⟨h1, h2⟩ | ⟨a, n, c, zs, h1, hb, hl, hm, hz, hx, hc, hw⟩
  · obtain ⟨rfl, rfl, rfl⟩ : A = none ∧ len = 0 ∧ cap = 0 := by simpa using h1
    exact ⟨[], rfl, ⟨rfl, by simp, fun h => absurd h (by simp)⟩, Or.inl rfl⟩
  · obtain ⟨rfl, rfl, rfl⟩ : A = some a ∧ len = n ∧ cap = c := by simpa using h1
    rw [if_pos rfl] at hz
    have hlen : (zs.take len).length = len := by rw [List.length_take]; omega
    have hd : d = .slice (lits .i64 (zs.take len)) (lits .i64 (zs.drop len)) := congrArg Prod.fst hx
    have hmax : maxLen ≤ 9223372036854775807 := by decide
    refine ⟨zs.take len, hlen.symm, ⟨rfl, by omega, fun _ => ⟨a, rfl, fun j x hj => ⟨[Value.int .i64 x], rfl, rfl, ?_⟩⟩⟩, Or.inr ⟨_, _, hd, ilits_len _ _⟩⟩
    have hj2 : j < len := by
      rcases Nat.lt_or_ge j len with h | h
      · exact h
      · rw [List.getElem?_eq_none (by omega)] at hj; cases hj
    intro i u hu
    have h0 : i = 0 ∧ u = Value.int .i64 x := by
      cases i with
      | zero => exact ⟨rfl, by injection hu with h; exact h.symm⟩
      | succ i => cases hu
    obtain ⟨rfl, rfl⟩ := h0
    rw [List.getElem?_take, if_pos hj2] at hj
    have h9 := hc j (by omega)
    rw [List.getD_eq_getElem?_getD, hj] at h9
    rw [show j * (Kd.int IntKind.i64).sz + 0 = j from (by show j * 1 + 0 = j; omega)]
    exact h9
theorem spaced_walk (s : ByteArray) (gz : List Int) (A1 : Option Addr) (c1 : Nat) (w : World) (h1 : Kd.C (Kd.int .i64) w A1 gz.length gz) (hgz : gz.length * 8 ≤ reachBytes) (hg : ∃ m, w.cell? ⟨0, 0, none⟩ = some (.int .i64 m)) :
    Calls Tryz.prog 4 #[.string s, .slice A1 gz.length c1] w fun e w' => e = .returned (.bool true) ∧ Below w.heap.size w w' := by
  have HA := Lib.hid (alive_calls w hg)
  have HG := Lib.hid hg
  have HC1 := Lib.hid h1
  have HGZ := Lib.hid (show gz.length ≤ 17592186044416 by have : reachBytes < 2 ^ 47 := by decide
                                                          omega)
  have HPP := Lib.hid (fun s w hg => show Calls Tryz.prog 8 #[.string s] w _ from sp_calls s w hg)
  have HRT := Lib.hid (fun w => rtokens_calls s w)
  have HLS := Lib.hid (show (lex s).e = 0 → ∀ t ∈ (lex s).l, t.f1.size ≤ 65536 from fun he t ht => Nat.le_trans ((lex_sound s).z t ht).1 (lex_big s he))
  have HSL := Lib.hid (fun (o : ByteArray) (h : SpTo (lex s).l o) (hz : o.size ≤ 65536) => (show (lex o).e = 0 ∧ (lex s).l.map kt = (lex o).l.map kt by obtain ⟨body, h1, h2, _⟩ := h; exact spaced_lex h1 h2 hz))
  clear hg h1 hgz
  obtain ⟨X, hX⟩ : ∃ X, lex s = X := ⟨_, rfl⟩
  have HX := Lib.hid hX
  rw [hX] at HRT HLS HSL
  clear hX
  go_enter Tryz.func4, Tryz.ntmps4
  go_upto_region 3 with (first | (go_at_call 7; ((with_reducible refine HA.out.mono ?_); rintro e w1 ⟨rfl, hb1⟩)))
  have HB1 := Lib.hid hb1
  clear hb1
  go_upto_region 4 with (first | (go_at_call 11; ((with_reducible refine (HRT.out w1).mono ?_); rintro e w2 ⟨tv, rfl, hr2, hb2⟩; obtain ⟨A0, c0, rfl, _, hc0⟩ := Kd.R_reads hr2; have HB2 := Lib.hid hb2; have HC0 := Lib.hid hc0; clear hr2 hb2 hc0)))
  have HBB2 := Lib.hid (show Below w.heap.size w w2 from HB1.out.trans (HB2.out.mono HB1.out.size))
  by_cases he : X.e = 0
  case neg =>
    have z1 : (X.e != 0) = true := by simpa using he
    clear he
    go_wp2_with fail
    go_ret
    exact ⟨rfl, HBB2.out⟩
  by_cases hl : X.l.length ≤ 3000
  case neg =>
    have z1 : (X.e != 0) = false := by rw [he]; rfl
    have z2 : (3000 : Int) < (X.l.length : Int) := by omega
    have z3 : decide ((3000 : Int) < (X.l.length : Int)) = true := decide_eq_true z2
    clear he hl
    go_wp2_with fail
    go_ret
    exact ⟨rfl, HBB2.out⟩
  have z1 : (X.e != 0) = false := by rw [he]; rfl
  have z2 : ¬ ((3000 : Int) < (X.l.length : Int)) := by omega
  have z3 : decide ((3000 : Int) < (X.l.length : Int)) = false := decide_eq_false z2
  have HE := Lib.hid he
  have HS := Lib.hid (spaced_calls X.l A0 c0 gz A1 c1 w2 HC0.out (Kd.C_below HC1.out HBB2.out) hl (HLS.out he) HGZ.out)
  clear he hl z2
  go_upto_region 7 with (first | (go_at_call 12; ((with_reducible refine HS.out.mono ?_); rintro e w3 ⟨o, rfl, ho3, hb3⟩; have HO := Lib.hid ho3; have HB3 := Lib.hid (show Below w.heap.size w w3 from HBB2.out.trans (hb3.mono HBB2.out.size)); clear ho3 hb3)))
  by_cases hz : o.size ≤ 65536
  case neg =>
    have y1 : (65536 : Int) < (o.size : Int) := by omega
    have y2 : decide ((65536 : Int) < (o.size : Int)) = true := decide_eq_true y1
    clear hz
    go_wp2_with fail
    go_ret
    exact ⟨rfl, HB3.out⟩
  have y1 : ¬ ((65536 : Int) < (o.size : Int)) := by omega
  have y2 : decide ((65536 : Int) < (o.size : Int)) = false := decide_eq_false y1
  have HQ := Lib.hid (HSL.out o HO.out hz)
  have HP := Lib.hid (HPP.out s w3 (HG.out.imp fun m hm => keep_cell hm HB3.out))
  clear hz y1
  go_upto_region 10 with (first | (go_at_call 8; ((with_reducible refine HP.out.mono ?_); rintro e w4 ⟨hb4, x, er, a, st, rfl, hx4, hp4⟩; have HB4 := Lib.hid (show Below w.heap.size w w4 from HB3.out.trans (hb4.mono HB3.out.size)); have HPR := Lib.hid hp4; obtain ⟨ownC, ⟨u1, u2, u3, u4, u5, u6, u7, u8⟩, rfl, hlm, g1, g2, g3, g4, g5, g6, g7, g8⟩ := hx4; obtain ⟨C1, q1, rfl, _, gc1⟩ := Kd.R_reads g1; have G1 := Lib.hid gc1; obtain ⟨C2, q2, rfl, _, gc2⟩ := Kd.R_reads g2; have G2 := Lib.hid gc2; obtain ⟨C3, q3, rfl, _, gc3⟩ := Kd.R_reads g3; have G3 := Lib.hid gc3; obtain ⟨C4, q4, rfl, _, gc4⟩ := Kd.R_reads g4; have G4 := Lib.hid gc4; obtain ⟨C5, q5, rfl, _, gc5⟩ := Kd.R_reads g5; have G5 := Lib.hid gc5; obtain ⟨C6, q6, rfl, _, gc6⟩ := Kd.R_reads g6; have G6 := Lib.hid gc6; obtain ⟨C7, q7, rfl, _, gc7⟩ := Kd.R_reads g7; have G7 := Lib.hid gc7; obtain ⟨C8, q8, rfl, _, gc8⟩ := Kd.R_reads g8; have G8 := Lib.hid gc8; clear hlm g1 g2 g3 g4 g5 g6 g7 g8 gc1 gc2 gc3 gc4 gc5 gc6 gc7 gc8; clear hb4 hp4)))
  obtain ⟨Y, hY⟩ : ∃ Y, w4.alloc (.cells #[.string st.title, .slice C1 st.kinds.length q1, .slice C2 st.members.length q2, .slice C3 st.preds.length q3, .slice C4 st.classes.length q4, .slice C5 st.sources.length q5, .slice C6 st.rules.length q6, .slice C7 st.excepts.length q7, .slice C8 st.totals.length q8] 32) = Y := ⟨_, rfl⟩
  obtain ⟨b, hb⟩ : ∃ b, w4.heap.size = b := ⟨_, rfl⟩
  have HY4 := Lib.hid (show Below w4.heap.size w4 Y by rw [← hY]; exact (Below.refl _ w4).alloc (Nat.le_refl _) _)
  have HBY := Lib.hid (show Below w.heap.size w Y from HB4.out.trans (HY4.out.mono HB4.out.size))
  have HBB := Lib.hid (show Y.heap[b]? = some (.cells #[.string st.title, .slice C1 st.kinds.length q1, .slice C2 st.members.length q2, .slice C3 st.preds.length q3, .slice C4 st.classes.length q4, .slice C5 st.sources.length q5, .slice C6 st.rules.length q6, .slice C7 st.excepts.length q7, .slice C8 st.totals.length q8] 32 (0, 0)) by rw [← hY, ← hb]; exact heap_alloc_new w4 _)
  try rw [hY]
  try rw [hb]
  have HP2 := Lib.hid (HPP.out o Y (HG.out.imp fun m hm => keep_cell hm HBY.out))
  clear hY hb
  go_upto_region 11 with (first | (go_at_call 8; ((with_reducible refine HP2.out.mono ?_); rintro e w5 ⟨hb5, x, er2, a2, st2, rfl, hx5, hp5⟩; obtain ⟨rfl, rfl⟩ := prs_same HPR.out hp5 (by rw [HX.out]; exact HE.out) HQ.out.1 (by rw [HX.out]; exact HQ.out.2); have HB5 := Lib.hid (show Below Y.heap.size Y w5 from hb5); obtain ⟨ownD, ⟨u1, u2, u3, u4, u5, u6, u7, u8⟩, rfl, hlm, g1, g2, g3, g4, g5, g6, g7, g8⟩ := hx5; obtain ⟨D1, k1, rfl, _, gc1⟩ := Kd.R_reads g1; have K1 := Lib.hid gc1; obtain ⟨D2, k2, rfl, _, gc2⟩ := Kd.R_reads g2; have K2 := Lib.hid gc2; obtain ⟨D3, k3, rfl, _, gc3⟩ := Kd.R_reads g3; have K3 := Lib.hid gc3; obtain ⟨D4, k4, rfl, _, gc4⟩ := Kd.R_reads g4; have K4 := Lib.hid gc4; obtain ⟨D5, k5, rfl, _, gc5⟩ := Kd.R_reads g5; have K5 := Lib.hid gc5; obtain ⟨D6, k6, rfl, _, gc6⟩ := Kd.R_reads g6; have K6 := Lib.hid gc6; obtain ⟨D7, k7, rfl, _, gc7⟩ := Kd.R_reads g7; have K7 := Lib.hid gc7; obtain ⟨D8, k8, rfl, _, gc8⟩ := Kd.R_reads g8; have K8 := Lib.hid gc8; clear hlm g1 g2 g3 g4 g5 g6 g7 g8 gc1 gc2 gc3 gc4 gc5 gc6 gc7 gc8; clear hb5 hp5)))
  obtain ⟨Z, hZ⟩ : ∃ Z, w5.alloc (.cells #[.string st.title, .slice D1 st.kinds.length k1, .slice D2 st.members.length k2, .slice D3 st.preds.length k3, .slice D4 st.classes.length k4, .slice D5 st.sources.length k5, .slice D6 st.rules.length k6, .slice D7 st.excepts.length k7, .slice D8 st.totals.length k8] 32) = Z := ⟨_, rfl⟩
  obtain ⟨b2, hb2⟩ : ∃ b, w5.heap.size = b := ⟨_, rfl⟩
  have HZ5 := Lib.hid (show Below w5.heap.size w5 Z by rw [← hZ]; exact (Below.refl _ w5).alloc (Nat.le_refl _) _)
  have HYZ := Lib.hid (show Below Y.heap.size Y Z from HB5.out.trans (HZ5.out.mono HB5.out.size))
  have HY4Z := Lib.hid (show Below w4.heap.size w4 Z from HY4.out.trans (HYZ.out.mono HY4.out.size))
  have HBZ := Lib.hid (show Below w.heap.size w Z from HBY.out.trans (HYZ.out.mono HBY.out.size))
  have HBZ2 := Lib.hid (show Z.heap[b2]? = some (.cells #[.string st.title, .slice D1 st.kinds.length k1, .slice D2 st.members.length k2, .slice D3 st.preds.length k3, .slice D4 st.classes.length k4, .slice D5 st.sources.length k5, .slice D6 st.rules.length k6, .slice D7 st.excepts.length k7, .slice D8 st.totals.length k8] 32 (0, 0)) by rw [← hZ, ← hb2]; exact heap_alloc_new w5 _)
  have HBZ1 := Lib.hid (show Z.heap[b]? = some (.cells #[.string st.title, .slice C1 st.kinds.length q1, .slice C2 st.members.length q2, .slice C3 st.preds.length q3, .slice C4 st.classes.length q4, .slice C5 st.sources.length q5, .slice C6 st.rules.length q6, .slice C7 st.excepts.length q7, .slice C8 st.totals.length q8] 32 (0, 0)) from (HYZ.out.block b (blk_lt HBB.out)).trans HBB.out)
  try rw [hZ]
  try rw [hb2]
  clear hZ hb2
  have G1 := Lib.hid (Kd.C_below G1.out HY4Z.out)
  have K1 := Lib.hid (Kd.C_below K1.out HZ5.out)
  have G2 := Lib.hid (Kd.C_below G2.out HY4Z.out)
  have K2 := Lib.hid (Kd.C_below K2.out HZ5.out)
  have G3 := Lib.hid (Kd.C_below G3.out HY4Z.out)
  have K3 := Lib.hid (Kd.C_below K3.out HZ5.out)
  have G4 := Lib.hid (Kd.C_below G4.out HY4Z.out)
  have K4 := Lib.hid (Kd.C_below K4.out HZ5.out)
  have G5 := Lib.hid (Kd.C_below G5.out HY4Z.out)
  have K5 := Lib.hid (Kd.C_below K5.out HZ5.out)
  have G6 := Lib.hid (Kd.C_below G6.out HY4Z.out)
  have K6 := Lib.hid (Kd.C_below K6.out HZ5.out)
  have G7 := Lib.hid (Kd.C_below G7.out HY4Z.out)
  have K7 := Lib.hid (Kd.C_below K7.out HZ5.out)
  have G8 := Lib.hid (Kd.C_below G8.out HY4Z.out)
  have K8 := Lib.hid (Kd.C_below K8.out HZ5.out)
  have HSS := Lib.hid (same_statute st C1 D1 q1 k1 C2 D2 q2 k2 C3 D3 q3 k3 C4 D4 q4 k4 C5 D5 q5 k5 C6 D6 q6 k6 C7 D7 q7 k7 C8 D8 q8 k8 Z G1.out K1.out G2.out K2.out G3.out K3.out G4.out K4.out G5.out K5.out G6.out K6.out G7.out K7.out G8.out K8.out (prs_sm HPR.out))
  have hbl := HBZ1.out
  have hbl2 := HBZ2.out
  have y0 := blk_cell (v := .string st.title) hbl 0 rfl
  have v0 := blk_cell (v := .string st.title) hbl2 0 rfl
  have y1 := blk_cell (v := .slice C1 st.kinds.length q1) hbl 1 rfl
  have v1 := blk_cell (v := .slice D1 st.kinds.length k1) hbl2 1 rfl
  have y2 := blk_cell (v := .slice C2 st.members.length q2) hbl 2 rfl
  have v2 := blk_cell (v := .slice D2 st.members.length k2) hbl2 2 rfl
  have y3 := blk_cell (v := .slice C3 st.preds.length q3) hbl 3 rfl
  have v3 := blk_cell (v := .slice D3 st.preds.length k3) hbl2 3 rfl
  have y4 := blk_cell (v := .slice C4 st.classes.length q4) hbl 4 rfl
  have v4 := blk_cell (v := .slice D4 st.classes.length k4) hbl2 4 rfl
  have y5 := blk_cell (v := .slice C5 st.sources.length q5) hbl 5 rfl
  have v5 := blk_cell (v := .slice D5 st.sources.length k5) hbl2 5 rfl
  have y6 := blk_cell (v := .slice C6 st.rules.length q6) hbl 6 rfl
  have v6 := blk_cell (v := .slice D6 st.rules.length k6) hbl2 6 rfl
  have y7 := blk_cell (v := .slice C7 st.excepts.length q7) hbl 7 rfl
  have v7 := blk_cell (v := .slice D7 st.excepts.length k7) hbl2 7 rfl
  have y8 := blk_cell (v := .slice C8 st.totals.length q8) hbl 8 rfl
  have v8 := blk_cell (v := .slice D8 st.totals.length k8) hbl2 8 rfl
  have z5 : (er == er) = true := by simp
  clear hbl hbl2
  go_wp2_with (first | (go_at_call 10; ((with_reducible refine HSS.out.mono ?_); rintro e w6 ⟨rfl, hb6⟩)))
  go_ret
  exact ⟨rfl, HBZ.out.trans (hb6.mono HBZ.out.size)⟩
end Go.Proofs.YtcakgennlliejaaGreatDoor
