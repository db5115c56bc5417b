import Derived.Defers
import Derived.Recover
import Derived.Deep.RegionHeld3
import Derived.Test.YtcakgennlliejaaGreatDoorSynK8
import Derived.Test.YtcakgennlliejaaGreatDoorSynK11
import Derived.Test.YtcakgennlliejaaGreatDoorSynK18
set_option maxHeartbeats 8000000
set_option maxRecDepth 100000
namespace Go.Proofs.YtcakgennlliejaaGreatDoor
open Go.Shelf Go.RowKit Go.Lib
open Go.Proofs.YtcakgennlliejaaGreatDoorW.PrintWords
open Go.Proofs.YtcakgennlliejaaGreatDoor.PSyntaxJoined
open Sx
set_option linter.unusedVariables false
set_option linter.unusedSimpArgs false
namespace Sx
def Agree (V V':Env) (d m:Nat):Prop:=∀ i,i≤m→(V.next i).k=(V'.next (i+d)).k∧(V.next i).t=(V'.next (i+d)).t∧decide (i<V.T.length)=decide (i+d<V'.T.length)
theorem Agree.le {V V':Env} {d m m':Nat} (h:Agree V V' d m) (hm:m'≤m):Agree V V' d m':=fun i hi=>h i (Nat.le_trans hi hm)
def Pl (V:Env):Prop:=0≤V.E∧∀ i,i<V.T.length→0≤(V.next i).a∧(V.next i).a≤V.E
def Rl (V V':Env) (d m:Nat) {α:Type} (r r':Res α):Prop:=match r with
 | .ok v q=>m≤q∧(Agree V V' d q→r'=.ok v (q+d))
 | .bad e a=>e≠0∧(Pl V→0≤a∧a≤V.E)∧((∀ q,Agree V V' d q)→∃ a',r'=.bad e a')
section
variable {V V':Env} {d m:Nat} {α β:Type}
theorem Rl.mono {r r':Res α} {m':Nat} (h:Rl V V' d m r r') (hm:m'≤m):Rl V V' d m' r r':=by
 cases r with
 | ok v q=>exact ⟨Nat.le_trans hm h.1,h.2⟩
 | bad e a=>exact h
theorem Rl.bnd {r r':Res α} {k k':α→Nat→Res β} (h:Rl V V' d m r r') (hk:∀ v q,m≤q→Rl V V' d q (k v q) (k' v (q+d))):Rl V V' d m (r.bnd k) (r'.bnd k'):=by
 cases r with
 | bad e a =>
  refine ⟨h.1,h.2.1,fun g=>?_⟩
  obtain ⟨a',ha⟩:=h.2.2 g
  exact ⟨a',by rw [ha];rfl⟩
 | ok v q =>
  have h2:=hk v q h.1
  show Rl V V' d m (k v q) _
  cases hr:k v q with
  | ok u q2 =>
   rw [hr] at h2
   exact ⟨Nat.le_trans h.1 h2.1,fun g=>by rw [h.2 (g.le h2.1)];exact h2.2 g⟩
  | bad e a =>
   rw [hr] at h2
   refine ⟨h2.1,h2.2.1,fun g=>?_⟩
   rw [h.2 (g q)]
   exact h2.2.2 g
theorem Rl.ok {v:α} {q:Nat} (h:m≤q):Rl V V' d m (.ok v q) (.ok v (q+d)):=⟨h,fun _=>rfl⟩
theorem Rl.ok' {v v':α} {q:Nat} (h:m≤q) (hv:Agree V V' d q→v=v'):Rl V V' d m (.ok v q) (.ok v' (q+d)):=⟨h,fun g=>by rw [hv g]⟩
theorem Rl.cond {b b':Bool} {x x' y y':Res α} (hb:Agree V V' d m→b=b') (hx:Rl V V' d m x x') (hy:Rl V V' d m y y'):Rl V V' d m (if b then x else y) (if b' then x' else y'):=by
 cases b with
 | true =>
  show Rl V V' d m x _
  cases x with
  | ok v q=>exact ⟨hx.1,fun g=>by rw [← hb (g.le hx.1)];exact hx.2 g⟩
  | bad e a=>exact ⟨hx.1,hx.2.1,fun g=>by rw [← hb (g m)];exact hx.2.2 g⟩
 | false =>
  show Rl V V' d m y _
  cases y with
  | ok v q=>exact ⟨hy.1,fun g=>by rw [← hb (g.le hy.1)];exact hy.2 g⟩
  | bad e a=>exact ⟨hy.1,hy.2.1,fun g=>by rw [← hb (g m)];exact hy.2.2 g⟩
theorem Rl.iff {b b':Prop} [Decidable b] [Decidable b'] {x x' y y':Res α} (hb:Agree V V' d m→(b↔b')) (hx:b→Rl V V' d m x x') (hy:¬ b→Rl V V' d m y y'):Rl V V' d m (if b then x else y) (if b' then x' else y'):=by
 by_cases c:b
 ·rw [if_pos c]
  have hx:=hx c
  cases x with
  | ok v q=>exact ⟨hx.1,fun g=>by rw [if_pos ((hb (g.le hx.1)).1 c)];exact hx.2 g⟩
  | bad e a=>exact ⟨hx.1,hx.2.1,fun g=>by rw [if_pos ((hb (g m)).1 c)];exact hx.2.2 g⟩
 ·rw [if_neg c]
  have hy:=hy c
  cases y with
  | ok v q=>exact ⟨hy.1,fun g=>by rw [if_neg (fun z=>c ((hb (g.le hy.1)).2 z))];exact hy.2 g⟩
  | bad e a=>exact ⟨hy.1,hy.2.1,fun g=>by rw [if_neg (fun z=>c ((hb (g m)).2 z))];exact hy.2.2 g⟩
theorem place_in (h:Pl V) (p:Nat):0≤V.place p∧V.place p≤V.E:=by
 unfold Env.place
 split
 ·exact h.2 p (by assumption)
 ·exact ⟨h.1,Int.le_refl _⟩
theorem Rl.stop {e:Int} (he:e≠0) (p p':Nat):Rl V V' d m (V.stop e p:Res α) (V'.stop e p'):=⟨he,fun h=>place_in h p,fun _=>⟨_,rfl⟩⟩
theorem Agree.is {p:Nat} (g:Agree V V' d m) (hp:p≤m) (k:Int) (s:ByteArray):V.isT k s p=V'.isT k s (p+d):=by
 unfold Env.isT;rw [(g p hp).1,(g p hp).2.1]
theorem Agree.k {p:Nat} (g:Agree V V' d m) (hp:p≤m):(V.next p).k=(V'.next (p+d)).k:=(g p hp).1
theorem Agree.t {p:Nat} (g:Agree V V' d m) (hp:p≤m):(V.next p).t=(V'.next (p+d)).t:=(g p hp).2.1
theorem Agree.l {p:Nat} (g:Agree V V' d m) (hp:p≤m):(p<V.T.length)↔(p+d<V'.T.length):=by have h:=(g p hp).2.2;simpa using h
end
section
variable {V V':Env} {d:Nat}
theorem Rl_must (k:Int) (s:ByteArray) (p:Nat):Rl V V' d p (V.must k s p) (V'.must k s (p+d)):=by
 unfold Env.must
 refine Rl.cond (fun g=>g.is (Nat.le_refl _) k s) ?_ (Rl.stop (by decide) _ _)
 rw [Nat.add_right_comm];exact Rl.ok (Nat.le_succ _)
theorem Rl_room (n most:Int) (p:Nat):Rl V V' d p (V.room n most p) (V'.room n most (p+d)):=by
 unfold Env.room
 exact Rl.iff (fun _=>Iff.rfl) (fun _=>Rl.stop (by decide) _ _) (fun _=>Rl.ok (Nat.le_refl _))
theorem Rl_name (p:Nat):Rl V V' d p (V.name p) (V'.name (p+d)):=by
 unfold Env.name
 refine Rl.cond (fun g=>by unfold isName;rw [g.k (Nat.le_refl _),g.t (Nat.le_refl _)]) ?_ (Rl.stop (by decide) _ _)
 rw [Nat.add_right_comm];exact Rl.ok' (Nat.le_succ _) (fun g=>g.t (Nat.le_succ _))
theorem Rl_arg (p:Nat):Rl V V' d p (V.arg p) (V'.arg (p+d)):=by
 unfold Env.arg
 refine Rl.cond (fun g=>by rw [g.k (Nat.le_refl _)]) ?_ (Rl_name p)
 rw [Nat.add_right_comm];exact Rl.ok' (Nat.le_succ _) (fun g=>g.t (Nat.le_succ _))
theorem Rl_listM {α:Type} {g g':Nat→Res α} (hg:∀ p,Rl V V' d p (g p) (g' (p+d))) (n:Nat):∀ (out:List α) (p:Nat),Rl V V' d p (V.listM g n out p) (V'.listM g' n out (p+d)):=by
 induction n with
 | zero=>intro out p;exact Rl.stop (by decide) _ _
 | succ n ih =>
  intro out p
  unfold Env.listM
  refine Rl.bnd (hg p) fun v q hq=>?_
  refine Rl.cond (fun g=>g.is (Nat.le_refl _) _ _) ?_ (Rl.ok (Nat.le_refl _))
  rw [Nat.add_right_comm];exact (ih _ (q+1)).mono (Nat.le_succ _)
theorem Rl_list {α:Type} {g g':Nat→Res α} (hg:∀ p,Rl V V' d p (g p) (g' (p+d))) (n most:Int) (p:Nat):Rl V V' d p (V.list g n most p) (V'.list g' n most (p+d)):=Rl_listM hg _ _ p
theorem Rl_brackets {g g':Nat→Res ByteArray} (hg:∀ p,Rl V V' d p (g p) (g' (p+d))) (p:Nat):Rl V V' d p (V.brackets g p) (V'.brackets g' (p+d)):=by
 unfold Env.brackets
 refine Rl.cond (fun g=>g.is (Nat.le_refl _) _ _) ?_ (Rl.ok (Nat.le_refl _))
 rw [Nat.add_right_comm]
 refine ((Rl_list hg 0 4 (p+1)).mono (Nat.le_succ _)).bnd fun l q hq=>?_
 exact (Rl_must _ _ q).bnd fun _ q2 _=>Rl.ok (Nat.le_refl _)
theorem Rl_money (p:Nat):Rl V V' d p (V.money p) (V'.money (p+d)):=by
 obtain ⟨b,hb⟩:∃ b,V.isT 6 ⟨#[45]⟩ p=b:=⟨_,rfl⟩
 obtain ⟨b',hb'⟩:∃ b,V'.isT 6 ⟨#[45]⟩ (p+d)=b:=⟨_,rfl⟩
 have hbb:Agree V V' d p→b=b':=fun g=>by rw [← hb,← hb'];exact g.is (Nat.le_refl _) _ _
 obtain ⟨q,hq⟩:∃ q,(if b then p+1 else p)=q:=⟨_,rfl⟩
 obtain ⟨q',hq'⟩:∃ q,(if b' then p+d+1 else p+d)=q:=⟨_,rfl⟩
 have hpq:p≤q:=by rw [← hq];split <;> omega
 have hqq:Agree V V' d p→q'=q+d:=fun g=>by rw [← hq,← hq',← hbb g];split <;> omega
 unfold Env.money
 rw [hb,hb',hq,hq']
 generalize hx:Mo.parse ((if b=true then [45] else [])++(V.next q).t.data.toList)=x
 generalize hx':Mo.parse ((if b'=true then [45] else [])++(V'.next q').t.data.toList)=x'
 have hxx:Agree V V' d q→x=x':=fun g=>by rw [← hx,← hx',← hbb (g.le hpq),hqq (g.le hpq),g.t (Nat.le_refl _)]
 refine Rl.mono (m:=q) ?_ hpq
 refine Rl.cond (fun g=>by rw [g.k (Nat.le_refl _),← hqq (g.le hpq)]) ?_ (Rl.stop (by decide) _ _)
 refine Rl.iff (fun g=>by rw [hxx g]) (fun _=>?_) (fun c=>?_)
 ·exact ⟨Nat.le_succ _,fun g=>by rw [hxx (g.le (Nat.le_succ _)),hqq (g.le (Nat.le_trans hpq (Nat.le_succ _))),Nat.add_right_comm]⟩
 ·exact ⟨c,fun h=>place_in h p,fun g=>⟨V'.place (p+d),by rw [hxx (g q)]⟩⟩
theorem Rl_whole (least most:Int) (p:Nat):Rl V V' d p (V.whole least most p) (V'.whole least most (p+d)):=by
 unfold Env.whole
 refine Rl.cond (fun g=>by rw [g.k (Nat.le_refl _),g.t (Nat.le_refl _)]) ?_ (Rl.stop (by decide) _ _)
 refine Rl.iff (fun g=>by rw [g.t (Nat.le_refl _)]) (fun _=>Rl.stop (by decide) _ _) (fun _=>?_)
 rw [Nat.add_right_comm];exact Rl.ok' (Nat.le_succ _) (fun g=>by rw [g.t (Nat.le_succ _)])
theorem Rl_day (cal:ByteArray→Int × Int) (p:Nat):Rl V V' d p (V.day cal p) (V'.day cal (p+d)):=by
 unfold Env.day
 refine Rl.iff (fun g=>by rw [g.k (Nat.le_refl _)]) (fun _=>?_) (fun _=>Rl.stop (by decide) _ _)
 refine Rl.iff (fun g=>by rw [g.t (Nat.le_refl _)]) (fun _=>?_) (fun c=>?_)
 ·rw [Nat.add_right_comm];exact Rl.ok' (Nat.le_succ _) (fun g=>by rw [g.t (Nat.le_succ _)])
 ·exact ⟨c,fun h=>place_in h p,fun g=>⟨V'.place (p+d),by rw [(g p).t (Nat.le_refl _)];rfl⟩⟩
theorem Rl_literal (p:Nat):Rl V V' d p (V.literal p) (V'.literal (p+d)):=by
 obtain ⟨b,hb⟩:∃ b,V.isT 6 ⟨#[45]⟩ p=b:=⟨_,rfl⟩
 obtain ⟨b',hb'⟩:∃ b,V'.isT 6 ⟨#[45]⟩ (p+d)=b:=⟨_,rfl⟩
 have hbb:Agree V V' d p→b=b':=fun g=>by rw [← hb,← hb'];exact g.is (Nat.le_refl _) _ _
 have key:∀ c,Rl V V' d p ((V.name (if c then p+1 else p)).bnd fun n q2=>(V.brackets V.arg q2).bnd fun l q3 =>
  if V.isT 6 ⟨#[61]⟩ q3 then (V.money (q3+1)).bnd fun m q4=>.ok (⟨c,n,l,true,m⟩:S91) q4 else .ok ⟨c,n,l,false,0⟩ q3)
  ((V'.name (if c then p+d+1 else p+d)).bnd fun n q2=>(V'.brackets V'.arg q2).bnd fun l q3 =>
  if V'.isT 6 ⟨#[61]⟩ q3 then (V'.money (q3+1)).bnd fun m q4=>.ok (⟨c,n,l,true,m⟩:S91) q4 else .ok ⟨c,n,l,false,0⟩ q3):=by
  intro c
  have hs:(if c then p+d+1 else p+d)=(if c then p+1 else p)+d:=by split <;> omega
  rw [hs]
  refine ((Rl_name (if c then p+1 else p)).mono (show p≤(if c then p+1 else p) by split <;> omega)).bnd fun n q2 _=>?_
  refine (Rl_brackets Rl_arg q2).bnd fun l q3 _=>?_
  refine Rl.cond (fun g=>g.is (Nat.le_refl _) _ _) ?_ (Rl.ok (Nat.le_refl _))
  rw [Nat.add_right_comm]
  exact ((Rl_money (q3+1)).mono (Nat.le_succ _)).bnd fun m q4 _=>Rl.ok (Nat.le_refl _)
 unfold Env.literal
 rw [hb,hb']
 have k1:=key b
 generalize ((V.name (if b then p+1 else p)).bnd fun n q2=>(V.brackets V.arg q2).bnd fun l q3 =>
  if V.isT 6 ⟨#[61]⟩ q3 then (V.money (q3+1)).bnd fun m q4=>.ok (⟨b,n,l,true,m⟩:S91) q4 else .ok ⟨b,n,l,false,0⟩ q3)=r at *
 cases r with
 | ok v q=>exact ⟨k1.1,fun g=>by rw [← hbb (g.le k1.1)];exact k1.2 g⟩
 | bad e a=>exact ⟨k1.1,k1.2.1,fun g=>by rw [← hbb (g p)];exact k1.2.2 g⟩
theorem Rl_total (p:Nat):Rl V V' d p (V.total p) (V'.total (p+d)):=by
 unfold Env.total
 refine (Rl_name p).bnd fun n q1 _=>(Rl_must _ _ q1).bnd fun _ q2 _=>(Rl_name q2).bnd fun k q3 _=>(Rl_must _ _ q3).bnd fun _ q4 _=>(Rl_must _ _ q4).bnd fun _ q5 _=>(Rl_list Rl_name 0 16 q5).bnd fun l q6 _=>?_
 refine Rl.cond (fun g=>g.is (Nat.le_refl _) _ _) ?_ (Rl.ok (Nat.le_refl _))
 rw [Nat.add_right_comm]
 exact ((Rl_money (q6+1)).mono (Nat.le_succ _)).bnd fun m q4 _=>Rl.ok (Nat.le_refl _)
theorem arrow_agree {m p:Nat} (g:Agree V V' d m) (hp:p≤m):V.arrow p=V'.arrow (p+d):=by
 unfold Env.arrow
 generalize 0=i
 generalize [(⟨#[45,62]⟩:ByteArray),⟨#[61,62]⟩,⟨#[126,62]⟩]=l
 induction l generalizing i with
 | nil=>rfl
 | cons s l ih=>unfold Env.arrL;rw [g.is hp,ih]
theorem Rl_op (p:Nat):Rl V V' d p (V.op p) (V'.op (p+d)):=by
 unfold Env.op
 generalize 0=i
 generalize [(⟨#[60]⟩:ByteArray),⟨#[60,61]⟩,⟨#[61,61]⟩,⟨#[60,62]⟩,⟨#[62,61]⟩,⟨#[62]⟩]=l
 induction l generalizing i with
 | nil=>exact Rl.stop (by decide) _ _
 | cons s l ih =>
  unfold Env.opL
  refine Rl.cond (fun g=>g.is (Nat.le_refl _) _ _) ?_ (ih _)
  rw [Nat.add_right_comm];exact Rl.ok (Nat.le_succ _)
theorem unlike_agree {m p:Nat} (g:Agree V V' d m) (hp:p+1≤m):V.unlike p=V'.unlike (p+d):=by
 unfold Env.unlike
 rw [g.k (Nat.le_of_succ_le hp),g.is hp,(g (p+1) hp).2.2]
 rw [Nat.add_right_comm]
end
section
variable {V V':Env} {d:Nat}
theorem Rl_whole1 (least most:Int) (p:Nat):Rl V V' d (p+1) (V.whole least most p) (V'.whole least most (p+d)):=by
 have h:=Rl_whole (V:=V) (V':=V') (d:=d) least most p
 cases hr:V.whole least most p with
 | bad e a=>rw [hr] at h;exact h
 | ok v q =>
  rw [hr] at h
  refine ⟨?_,h.2⟩
  unfold Env.whole Env.stop at hr
  split at hr
  ·split at hr
   ·cases hr
   ·injection hr with _ h2;omega
  ·cases hr
theorem Rl_name1 (p:Nat):Rl V V' d (p+1) (V.name p) (V'.name (p+d)):=by
 have h:=Rl_name (V:=V) (V':=V') (d:=d) p
 cases hr:V.name p with
 | bad e a=>rw [hr] at h;exact h
 | ok v q =>
  rw [hr] at h
  refine ⟨?_,h.2⟩
  unfold Env.name Env.stop at hr
  split at hr
  ·injection hr with _ h2;omega
  ·cases hr
theorem Rl_arg1 (p:Nat):Rl V V' d (p+1) (V.arg p) (V'.arg (p+d)):=by
 have h:=Rl_arg (V:=V) (V':=V') (d:=d) p
 cases hr:V.arg p with
 | bad e a=>rw [hr] at h;exact h
 | ok v q =>
  rw [hr] at h
  refine ⟨?_,h.2⟩
  unfold Env.arg Env.name Env.stop at hr
  split at hr
  ·injection hr with _ h2;omega
  ·split at hr
   ·injection hr with _ h2;omega
   ·cases hr
theorem Rl_money1 (p:Nat):Rl V V' d (p+1) (V.money p) (V'.money (p+d)):=by
 have h:=Rl_money (V:=V) (V':=V') (d:=d) p
 cases hr:V.money p with
 | bad e a=>rw [hr] at h;exact h
 | ok v q =>
  rw [hr] at h
  refine ⟨?_,h.2⟩
  unfold Env.money Env.stop at hr
  have hle:p≤(if V.isT 6 ⟨#[45]⟩ p=true then p+1 else p):=by split <;> omega
  generalize (if V.isT 6 ⟨#[45]⟩ p=true then p+1 else p)=q0 at *
  generalize Mo.parse ((if V.isT 6 ⟨#[45]⟩ p=true then [45] else [])++(V.next q0).t.data.toList)=x at *
  by_cases c1:((V.next q0).k==3)=true
  ·rw [if_pos c1] at hr
   by_cases c2:x.2=0
   ·rw [if_pos c2] at hr
    injection hr with _ h2;omega
   ·rw [if_neg c2] at hr;cases hr
  ·rw [if_neg c1] at hr;cases hr
theorem Rl_literal1 (p:Nat):Rl V V' d (p+1) (V.literal p) (V'.literal (p+d)):=by
 have h:=Rl_literal (V:=V) (V':=V') (d:=d) p
 cases hr:V.literal p with
 | bad e a=>rw [hr] at h;exact h
 | ok v q =>
  rw [hr] at h
  refine ⟨?_,h.2⟩
  have h1:=Rl_name1 (V:=V) (V':=V') (d:=d) (if V.isT 6 ⟨#[45]⟩ p then p+1 else p)
  unfold Env.literal at hr
  cases hn:V.name (if V.isT 6 ⟨#[45]⟩ p then p+1 else p) with
  | bad e a=>rw [hn] at hr;cases hr
  | ok n q2 =>
   rw [hn] at hr h1
   have hle:p+1≤q2:=by have:=h1.1;split at this <;> omega
   have h2:Rl V V 0 q2 ((V.brackets V.arg q2).bnd fun l q3=>if V.isT 6 ⟨#[61]⟩ q3 then (V.money (q3+1)).bnd fun m q4=>.ok (⟨V.isT 6 ⟨#[45]⟩ p,n,l,true,m⟩:S91) q4 else .ok ⟨V.isT 6 ⟨#[45]⟩ p,n,l,false,0⟩ q3) ((V.brackets V.arg q2).bnd fun l q3=>if V.isT 6 ⟨#[61]⟩ q3 then (V.money (q3+1)).bnd fun m q4=>.ok (⟨V.isT 6 ⟨#[45]⟩ p,n,l,true,m⟩:S91) q4 else .ok ⟨V.isT 6 ⟨#[45]⟩ p,n,l,false,0⟩ q3):=by
    refine (Rl_brackets Rl_arg q2).bnd fun l q3 _=>?_
    refine Rl.cond (fun g=>g.is (Nat.le_refl _) _ _) ?_ (Rl.ok (Nat.le_refl _))
    exact ((Rl_money (q3+1)).mono (Nat.le_succ _)).bnd fun m q4 _=>Rl.ok (Nat.le_refl _)
   have hr2:((V.brackets V.arg q2).bnd fun l q3=>if V.isT 6 ⟨#[61]⟩ q3 then (V.money (q3+1)).bnd fun m q4=>.ok (⟨V.isT 6 ⟨#[45]⟩ p,n,l,true,m⟩:S91) q4 else .ok ⟨V.isT 6 ⟨#[45]⟩ p,n,l,false,0⟩ q3)=.ok v q:=hr
   rw [hr2] at h2
   have:=h2.1
   omega
theorem Rl_term (sg:Int) (p:Nat):Rl V V' d (p+1) (V.term sg p) (V'.term sg (p+d)):=by
 unfold Env.term
 rw [show p+d+1=(p+1)+d from by omega]
 refine Rl.cond (fun g=>by rw [g.k (Nat.le_succ _),g.is (Nat.le_refl _)]) ?_ ?_
 ·refine (Rl_whole1 1 1000 p).bnd fun c q hq=>?_
  rw [Nat.add_right_comm]
  exact ((Rl_name (q+1)).mono (Nat.le_succ _)).bnd fun n q2 _=>(Rl_brackets Rl_arg q2).bnd fun l q3 _=>Rl.ok (Nat.le_refl _)
 ·refine Rl.cond (fun g=>by rw [g.k (Nat.le_succ _),g.is (Nat.le_succ _)]) ?_ ?_
  ·exact (Rl_money1 p).bnd fun m q _=>Rl.ok (Nat.le_refl _)
  ·exact (Rl_name1 p).bnd fun n q2 _=>(Rl_brackets Rl_arg q2).bnd fun l q3 _=>Rl.ok (Nat.le_refl _)
theorem Rl_sumM (n:Nat):∀ (out:List S102) (p:Nat),Rl V V' d p (V.sumM n out p) (V'.sumM n out (p+d)):=by
 induction n with
 | zero =>
  intro out p
  exact Rl.cond (fun g=>by rw [g.is (Nat.le_refl _),g.is (Nat.le_refl _)]) (Rl.stop (by decide) _ _) (Rl.ok (Nat.le_refl _))
 | succ n ih =>
  intro out p
  unfold Env.sumM
  rw [show p+d+1=(p+1)+d from by omega]
  refine Rl.cond (fun g=>g.is (Nat.le_refl _) _ _) ?_ ?_
  ·exact ((Rl_term (-1) (p+1)).mono (by omega)).bnd fun t q _=>ih _ q
  ·refine Rl.cond (fun g=>g.is (Nat.le_refl _) _ _) ?_ (Rl.ok (Nat.le_refl _))
   exact ((Rl_term 1 (p+1)).mono (by omega)).bnd fun t q _=>ih _ q
theorem Rl_sum (p:Nat):Rl V V' d p (V.sum p) (V'.sum (p+d)):=((Rl_term 1 p).mono (Nat.le_succ _)).bnd fun t q _=>Rl_sumM 7 [t] q
theorem Rl_premise (p:Nat):Rl V V' d (p+1) (V.premise p) (V'.premise (p+d)):=by
 unfold Env.premise
 rw [show p+d+1=(p+1)+d from by omega]
 refine Rl.cond (fun g=>g.is (Nat.le_succ _) _ _) ?_ ?_
 ·exact (Rl_sum (p+1)).bnd fun l q _=>(Rl_op q).bnd fun o q2 _=>(Rl_sum q2).bnd fun r q3 _=>(Rl_must _ _ q3).bnd fun _ q4 _=>Rl.ok (Nat.le_refl _)
 ·refine Rl.cond (fun g=>unlike_agree g (Nat.le_refl _)) ?_ ?_
  ·exact (Rl_arg1 p).bnd fun a q _=>(Rl_must _ _ q).bnd fun _ q2 _=>(Rl_arg q2).bnd fun b q3 _=>Rl.ok (Nat.le_refl _)
  ·exact (Rl_literal1 p).bnd fun l q _=>Rl.ok (Nat.le_refl _)
theorem Rl_ruleT (n s:ByteArray) (a u:Int) (p:Nat):Rl V V' d p (V.ruleT n s a u p) (V'.ruleT n s a u (p+d)):=by
 unfold Env.ruleT
 refine Rl.bnd (Rl.iff (fun g=>by rw [arrow_agree g (Nat.le_refl _)]) (fun _=>Rl_list (fun p=>(Rl_premise p).mono (Nat.le_succ _)) 0 16 p) (fun _=>Rl.ok (Nat.le_refl _))) fun b q _=>?_
 refine Rl.iff (fun g=>by rw [arrow_agree g (Nat.le_refl _)]) (fun _=>Rl.stop (by decide) _ _) (fun _=>?_)
 rw [show q+d+1=(q+1)+d from by omega]
 refine ((Rl_literal (q+1)).mono (Nat.le_succ _)).bnd fun h q9 hq=>?_
 exact Rl.ok' (Nat.le_refl _) (fun g=>by rw [arrow_agree (g.le hq) (Nat.le_refl _)])
theorem Rl_rule (cal:ByteArray→Int × Int) (p:Nat):Rl V V' d p (V.rule cal p) (V'.rule cal (p+d)):=by
 unfold Env.rule
 refine (Rl_name p).bnd fun n q1 _=>(Rl_must _ _ q1).bnd fun _ q2 _=>(Rl_name q2).bnd fun s q3 _=>(Rl_must _ _ q3).bnd fun _ q4 _=>(Rl_day cal q4).bnd fun a q5 _=>?_
 refine Rl.bnd (Rl.cond (fun g=>g.is (Nat.le_refl _) _ _) (by rw [Nat.add_right_comm];exact (Rl_day cal (q5+1)).mono (Nat.le_succ _)) (Rl.ok (Nat.le_refl _))) fun u q6 _=>?_
 exact (Rl_must _ _ q6).bnd fun _ q7 _=>Rl_ruleT n s a u q7
theorem Rl_pred (n:Nat) (sort:Int) (p:Nat):Rl V V' d p (V.pred n sort p) (V'.pred n sort (p+d)):=by
 unfold Env.pred
 refine (Rl_room _ _ p).bnd fun _ q0 _=>(Rl_name q0).bnd fun nm q1 _=>(Rl_brackets Rl_name q1).bnd fun ks q2 _=>?_
 refine Rl.cond (fun _=>rfl) ?_ (Rl.ok (Nat.le_refl _))
 exact (Rl_must _ _ q2).bnd fun _ q3 _=>(Rl_list Rl_money 0 64 q3).bnd fun vs q4 _=>Rl.ok (Nat.le_refl _)
theorem Rl_item (cal:ByteArray→Int × Int) (s:Stt) (p:Nat):Rl V V' d (p+1) (V.item cal s p) (V'.item cal s (p+d)):=by
 unfold Env.item
 rw [show p+d+1=(p+1)+d from by omega]
 have hc:∀ l:List UInt8,Agree V V' d (p+1)→((V.next p).t.toList==l)=((V'.next (p+d)).t.toList==l):=fun l g=>by rw [g.t (Nat.le_succ _)]
 refine Rl.cond (fun g=>by rw [g.k (Nat.le_succ _)]) ?_ (Rl.stop (by decide) _ _)
 refine Rl.cond (hc _) ((Rl_room _ _ _).bnd fun _ q _=>(Rl_name q).bnd fun n q2 _=>Rl.ok (Nat.le_refl _)) ?_
 refine Rl.cond (hc _) ((Rl_list Rl_name _ _ _).bnd fun l q _=>(Rl_must _ _ q).bnd fun _ q2 _=>(Rl_name q2).bnd fun k q3 _=>Rl.ok (Nat.le_refl _)) ?_
 refine Rl.cond (hc _) ((Rl_pred _ _ _).bnd fun x q _=>Rl.ok (Nat.le_refl _)) ?_
 refine Rl.cond (hc _) ((Rl_pred _ _ _).bnd fun x q _=>Rl.ok (Nat.le_refl _)) ?_
 refine Rl.cond (hc _) ((Rl_pred _ _ _).bnd fun x q _=>Rl.ok (Nat.le_refl _)) ?_
 refine Rl.cond (hc _) ((Rl_room _ _ _).bnd fun _ q _=>(Rl_name q).bnd fun f q2 _=>(Rl_must _ _ q2).bnd fun _ q3 _=>(Rl_list Rl_name 1 16 q3).bnd fun l q4 _=>Rl.ok (Nat.le_refl _)) ?_
 refine Rl.cond (hc _) ((Rl_room _ _ _).bnd fun _ q _=>(Rl_name q).bnd fun f q2 _=>(Rl_must _ _ q2).bnd fun _ q3 _=>(Rl_whole 0 1000 q3).bnd fun l q4 _=>Rl.ok (Nat.le_refl _)) ?_
 refine Rl.cond (hc _) ((Rl_room _ _ _).bnd fun _ q _=>(Rl_rule cal q).bnd fun f q2 _=>Rl.ok (Nat.le_refl _)) ?_
 refine Rl.cond (hc _) ((Rl_room _ _ _).bnd fun _ q _=>(Rl_name q).bnd fun f q2 _=>(Rl_must _ _ q2).bnd fun _ q3 _=>(Rl_name q3).bnd fun l q4 _=>Rl.ok (Nat.le_refl _)) ?_
 exact Rl.cond (hc _) ((Rl_room _ _ _).bnd fun _ q _=>(Rl_total q).bnd fun f q2 _=>Rl.ok (Nat.le_refl _)) (Rl.stop (by decide) _ _)
theorem Rl_title (p:Nat):Rl V V' d p (V.title p) (V'.title (p+d)):=by
 unfold Env.title
 refine Rl.cond (fun g=>g.is (Nat.le_refl _) _ _) ?_ (Rl.ok (Nat.le_refl _))
 rw [show p+d+1=(p+1)+d from by omega,show p+d+2=(p+2)+d from by omega]
 refine Rl.mono (m:=p+1) ?_ (Nat.le_succ _)
 refine Rl.cond (fun g=>by rw [g.k (Nat.le_refl _)]) ?_ (Rl.stop (by decide) _ _)
 exact ((Rl_must _ _ (p+2)).mono (by omega)).bnd fun _ q hq=>Rl.ok' (Nat.le_refl _) (fun g=>by rw [g.t hq])
theorem Rl_items (cal:ByteArray→Int × Int) (n:Nat):∀ (s:Stt) (p:Nat),Rl V V' d p (V.items cal n s p) (V'.items cal n s (p+d)):=by
 induction n with
 | zero=>intro s p;exact Rl.ok (Nat.le_refl _)
 | succ n ih =>
  intro s p
  unfold Env.items
  refine Rl.iff (fun g=>g.l (Nat.le_refl _)) (fun _=>?_) (fun _=>Rl.ok (Nat.le_refl _))
  exact ((Rl_item cal s p).mono (Nat.le_succ _)).bnd fun s2 q _=>(Rl_must _ _ q).bnd fun _ q2 _=>ih s2 q2
end
end Sx
def Sx.sttR (base:Nat) (s:Stt) (x:Value) (w:World):Prop:=∃ (own:Nat→Nat) (v:Vs),x=.agg #[.string s.title,v.v1,v.v2,v.v3,v.v4,v.v5,v.v6,v.v7,v.v8]∧s.members.length≤64
 ∧ Kd.R Kd.string 9 w base (fun k=>base≤k∧own k=1) v.v1 s.kinds
 ∧ Kd.R k54 54 w base (fun k=>base≤k∧own k=2) v.v2 s.members
 ∧ Kd.R k85 85 w base (fun k=>base≤k∧own k=3) v.v3 s.preds
 ∧ Kd.R (Kd.slice 9 Kd.string) 23 w base (fun k=>base≤k∧own k=4) v.v4 s.classes
 ∧ Kd.R k117 117 w base (fun k=>base≤k∧own k=5) v.v5 s.sources
 ∧ Kd.R k93 93 w base (fun k=>base≤k∧own k=6) v.v6 s.rules
 ∧ Kd.R k120 120 w base (fun k=>base≤k∧own k=7) v.v7 s.excepts
 ∧ Kd.R k104 104 w base (fun k=>base≤k∧own k=8) v.v8 s.totals
def Sx.posOf (rb:Nat) (w:World):Nat:=match w.cell? ⟨rb,1,none⟩ with
 | some v=>iv v
 | none=>0
theorem Sx.Rd.pos_of {w:World} {V:Env} {p:Nat} (h:Rd w V p):posOf V.rb w=p:=by unfold posOf;rw [h.pos];rfl
theorem Sx.StB.nil (w:World) (SB:Nat) (t:ByteArray) (h:w.heap[SB]?=some (.cells #[.string t,.slice none 0 0,.slice none 0 0,.slice none 0 0,.slice none 0 0,.slice none 0 0,.slice none 0 0,.slice none 0 0,.slice none 0 0] 32 (0,0))) :
  StB w SB (fun _=>0) ⟨t,[],[],[],[],[],[],[],[]⟩ ⟨.slice none 0 0,.slice none 0 0,.slice none 0 0,.slice none 0 0,.slice none 0 0,.slice none 0 0,.slice none 0 0,.slice none 0 0⟩ :=
 ⟨h,Nat.zero_le _,Kd.R_nil _ _ _ _ _,Kd.R_nil _ _ _ _ _,Kd.R_nil _ _ _ _ _,Kd.R_nil _ _ _ _ _,Kd.R_nil _ _ _ _ _,Kd.R_nil _ _ _ _ _,Kd.R_nil _ _ _ _ _,Kd.R_nil _ _ _ _ _⟩
theorem Sx.StB.out {w w1:World} {SB base:Nat} {own:Nat→Nat} {s:Stt} {v:Vs} (h:StB w SB own s v) (hb:base≤SB) (hm:∀ k,SB<k→k<w.heap.size→w1.heap[k]?=w.heap[k]?) :
  sttR base s (.agg #[.string s.title,v.v1,v.v2,v.v3,v.v4,v.v5,v.v6,v.v7,v.v8]) w1:=by
 have hr:∀ {j:Nat} {α:Type} {d:Kd α} {e:Nat} {x:Value} {l:List α},Kd.R d e w (SB+1) (okf SB w.heap.size own j) x l→Kd.R d e w1 base (fun k=>base≤k∧own k=j) x l:=fun {j α d e x l} hr =>
  Kd.R_lower (Kd.R_mono (Kd.R_step (Kd.R_bound hr) (fun i hi hlt=>hm i hi.1.1 hlt)) (fun k hk=>⟨by have:=hk.1.1;omega,hk.1.2 hk.2.2.1⟩)) (by omega)
 exact ⟨own,v,rfl,h.lm,hr h.r1,hr h.r2,hr h.r3,hr h.r4,hr h.r5,hr h.r6,hr h.r7,hr h.r8⟩
theorem Sx.items_step {V:Env} (cal:ByteArray→Int × Int) {s s2:Stt} {p q q2:Nat} (h:V.item cal s p=.ok s2 q):p+1≤q:=by
 have h2:=Rl_item (V:=V) (V':=V) (d:=0) cal s p
 rw [h] at h2
 exact h2.1
theorem Sx.items_succ (V:Env) (cal:ByteArray→Int × Int) (m:Nat) (s:Stt) (p:Nat):V.items cal (m+1) s p=if p<V.T.length then (V.item cal s p).bnd fun s2 q=>(V.must 6 ⟨#[46]⟩ q).bnd fun _ q2=>V.items cal m s2 q2 else .ok s p:=rfl
theorem Sx.must_step {V:Env} {k:Int} {s:ByteArray} {p q:Nat} (h:V.must k s p=.ok () q):q=p+1:=by
 unfold Env.must Env.stop at h
 split at h
 ·injection h with _ h2;exact h2.symm
 ·cases h
theorem Sx.keepS_lt {V:Env} {SB:Nat} {w X w1:World} (hb:V.rb<w.heap.size) (hs:w.heap.size<SB) (k:Keep (ours V) w X) (k2:Keep (oursS V SB) X w1):Keep (ours V) w w1 :=
 ⟨k2.os.trans k.os,k2.tape.trans k.tape,k2.output.trans k.output,Nat.le_trans k.size k2.size,fun i hi hn=>(k2.block i (Nat.lt_of_lt_of_le hi k.size) (fun e=>by unfold oursS at e;unfold ours at hn;omega)).trans (k.block i hi hn)⟩
theorem statute_calls (V:Env) (cal:ByteArray→Int × Int)
  (hC:∀ s w,Calls Tryz.prog 108 #[.string s] w fun e w'=>e=.returned (.tuple #[.int .i64 (cal s).1,.int .i64 (cal s).2])∧Below w.heap.size w w')
  (p:Nat) (w:World) (h:Rd w V p):Calls Tryz.prog 19 #[.pointer (some ⟨V.rb,0,none⟩)] w (Post V w (sttR w.heap.size) (V.statute cal p)):=by
 have hmf:∀ (fn:Fn) (first cap:Array Value) (w:World),(Instr.makeFunc fn first cap).run Tryz.prog w=.ok (.func fn first cap) w:=fun _ _ _ _=>rfl
 have hC:=Lib.hid hC
 have hLo:=h
 have HRB:=Lib.hid (show V.rb<w.heap.size from World.block_lt_of_cell? w _ h.pos)
 have hF0:V.statute cal p=V.statute cal p:=rfl
 conv at hF0=>rhs;unfold Env.statute
 have HF0:=Lib.hid hF0
 have HA0:=Lib.hid (Bx.new h h (Keep.refl _ _) 32 #[(.string ⟨#[]⟩),(.slice none 0 0),(.slice none 0 0),(.slice none 0 0),(.slice none 0 0),(.slice none 0 0),(.slice none 0 0),(.slice none 0 0),(.slice none 0 0)])
 clear h hF0
 go_enter Tryz.func19,Tryz.ntmps19
 go_upto_region 1 with (fail)
 obtain ⟨X0,hX0⟩:∃ X0,w.alloc (Obj.cells #[(.string ⟨#[]⟩),(.slice none 0 0),(.slice none 0 0),(.slice none 0 0),(.slice none 0 0),(.slice none 0 0),(.slice none 0 0),(.slice none 0 0),(.slice none 0 0)] 32)=X0:=⟨_,rfl⟩
 try rw [hX0]
 rw [hX0] at HA0
 clear hX0
 go_upto_region 2 with (fail)
 have HB1:=Lib.hid (Bx.new hLo HA0.out.rd HA0.out.keep 32 #[(.string ⟨#[]⟩),(.slice none 0 0),(.slice none 0 0),(.slice none 0 0),(.slice none 0 0),(.slice none 0 0),(.slice none 0 0),(.slice none 0 0),(.slice none 0 0)])
 have HA1:=Lib.hid (HA0.out.alloc (Obj.cells #[(.string ⟨#[]⟩),(.slice none 0 0),(.slice none 0 0),(.slice none 0 0),(.slice none 0 0),(.slice none 0 0),(.slice none 0 0),(.slice none 0 0),(.slice none 0 0)] 32))
 have h1:=World.block_lt_of_cell? _ _ (blk_cell (v:=(.string ⟨#[]⟩)) HA0.out.blk 0 rfl)
 obtain ⟨SB,hSB⟩:∃ B,X0.heap.size=B:=⟨_,rfl⟩
 have HNSB:=Lib.hid (show w.heap.size≠SB by rw [← hSB];simp only at h1;omega)
 have HSBG:=Lib.hid (show w.heap.size<SB by rw [← hSB];exact h1)
 have HLO:=Lib.hid (Sx.Lo.of hLo (Nat.le_of_lt HSBG.out))
 obtain ⟨X1,hX⟩:∃ X,X0.alloc (Obj.cells #[(.string ⟨#[]⟩),(.slice none 0 0),(.slice none 0 0),(.slice none 0 0),(.slice none 0 0),(.slice none 0 0),(.slice none 0 0),(.slice none 0 0),(.slice none 0 0)] 32)=X:=⟨_,rfl⟩
 rw [hX] at HA1
 rw [hX,hSB] at HB1
 try rw [hX,hSB]
 clear hX hSB HA0 h1 hLo
 have hF1:=HF0.out
 unfold Env.title at hF1
 clear HF0
 have HF1:=Lib.hid hF1
 clear hF1
 have HK1:=Lib.hid (fun w1 h1=>skip_calls V p 1 ⟨#[115,116,97,116,117,116,101]⟩ w1 h1 (by decide))
 have hF1:=HF1.out
 generalize hr1:V.isT 1 ⟨#[115,116,97,116,117,116,101]⟩ p=b1 at hF1 HK1
 clear HF1
 cases b1
 ·simp only [if_true,Bool.false_eq_true,if_false] at hF1
  try dsimp only [Res.bnd] at hF1
  have HF1:=Lib.hid hF1
  clear hF1 hr1
  go_upto_region 9 with (first | (go_at_call 38;refine (HK1.out X1 HA1.out.rd).mono ?_;rintro e X1 ⟨rfl,hr2,hk2⟩))
  simp only [if_true,Bool.false_eq_true,if_false] at hr2
  have HD2_0:=Lib.hid (show Bx w X1 V p p w.heap.size 32 #[(.string ⟨#[]⟩),(.slice none 0 0),(.slice none 0 0),(.slice none 0 0),(.slice none 0 0),(.slice none 0 0),(.slice none 0 0),(.slice none 0 0),(.slice none 0 0)] from HA1.out.call hr2 hk2)
  have HD2_1:=Lib.hid (show Bx w X1 V p p SB 32 #[(.string ⟨#[]⟩),(.slice none 0 0),(.slice none 0 0),(.slice none 0 0),(.slice none 0 0),(.slice none 0 0),(.slice none 0 0),(.slice none 0 0),(.slice none 0 0)] from HB1.out.call hr2 hk2)
  clear HA1 HB1
  clear hr2 hk2 HK1
  have HFL:=Lib.hid (show V.statute cal p=V.items cal V.T.length ⟨⟨#[]⟩,[],[],[],[],[],[],[],[]⟩ p from HF1.out)
  generalize V.statute cal p=F at *
  clear HF1
  go_upto_region 9 with (fail)
  go_loopw [] (fun wr=>∃ (m:Nat) (s:Stt) (own:Nat→Nat) (v:Vs) (q:Nat),V.T.length≤q+m∧Rd wr V q∧StB wr SB own s v∧Keep (oursS V SB) X1 wr∧F=V.items cal m s q) (fun wr=>V.T.length-posOf V.rb wr)
  case atStart =>
   exact ⟨V.T.length,_,_,_,p,by omega,HD2_0.out.rd,Sx.StB.nil _ SB ⟨#[]⟩ HD2_1.out.blk,Keep.refl _ _,HFL.out⟩
  case round =>
   obtain ⟨m,s,own,v,q,hm,hr,hs,hk,hf⟩:=hrel
   have HR:=Lib.hid hr
   have HS:=Lib.hid hs
   have HK:=Lib.hid hk
   have hl:=hr.l
   have hp:=hr.pos
   by_cases hlt:q<V.T.length
   ·have z1:decide ((q:Int)<(V.T.length:Int))=true:=decide_eq_true (by omega)
    have z1n:decide (q<V.T.length)=true:=decide_eq_true hlt
    obtain ⟨m,rfl⟩:∃ j,m=j+1:=⟨m-1,by omega⟩
    have hf2:F=(V.item cal s q).bnd fun s2 q=>(V.must 6 ⟨#[46]⟩ q).bnd fun _ q2=>V.items cal m s2 q2:=by rw [hf,Sx.items_succ,if_pos hlt]
    have HM:=Lib.hid hm
    have HLT2:=Lib.hid hlt
    have HC1:=Lib.hid (item_calls V cal hC.out q SB own s v)
    have HIS:=Lib.hid (fun s2 q2 (h:V.item cal s q=.ok s2 q2)=>Sx.items_step (q2:=q2) cal h)
    generalize hri:V.item cal s q=r1 at hf2 HC1 HIS
    have HF:=Lib.hid hf2
    clear hm hr hs hk hf hlt hri hf2
    go_upto_region 9 with (fail)
    go_quiet (fail)
    clear hl hp
    obtain ⟨Y,hY⟩:∃ Y,wr.drewN nq=Y:=⟨_,rfl⟩
    have hb:Below wr.heap.size wr Y:=by rw [← hY];exact below_drewn (Below.refl _ _) nq
    try rw [hY]
    have HRY:=Lib.hid (HR.out.below hb)
    have HSY:=Lib.hid (HS.out.move HLO.out (Keep.of_below hb))
    have HKY:=Lib.hid (HK.out.trans (Keep.of_below (F:=oursS V SB) hb) (fun _ _ h=>h))
    clear hY hb
    cases r1 with
    | bad er a =>
     go_wp2_with (first | (go_at_call 42;refine (HC1.out Y HRY.out HLO.out HSY.out).mono ?_;rintro e w2 ⟨rfl,hk2⟩))
     refine ⟨rfl,?_⟩
     rw [HF.out]
     exact ⟨rfl,(Sx.keepS_lt HRB.out HSBG.out HD2_0.out.keep (HKY.out.trans hk2 (fun _ _ h=>h)))⟩
    | ok s2 q1 =>
     have hq1:=HIS.out s2 q1 rfl
     have HC2:=Lib.hid (fun w1 h1=>must_calls V q1 6 ⟨#[46]⟩ w1 h1 (by decide))
     have hf3:F=(V.must 6 ⟨#[46]⟩ q1).bnd fun _ q2=>V.items cal m s2 q2:=HF.out
     have HMS:=Lib.hid (fun q2 (h:V.must 6 ⟨#[46]⟩ q1=.ok () q2)=>Sx.must_step h)
     generalize hrm:V.must 6 ⟨#[46]⟩ q1=r2 at hf3 HC2 HMS
     have HF3:=Lib.hid hf3
     have HQ1:=Lib.hid hq1
     clear hf3 hrm HF HIS hq1
     cases r2 with
     | bad er a =>
      go_wp2_with (first | (go_at_call 42;refine (HC1.out Y HRY.out HLO.out HSY.out).mono ?_;rintro e w2 ⟨rfl,hr2,⟨own2,v2,hs2⟩,hk2⟩) | (go_at_call 41;refine (HC2.out w2 hr2).mono ?_;rintro e w3 ⟨rfl,hk3⟩))
      refine ⟨rfl,?_⟩
      rw [HF3.out]
      exact ⟨rfl,(Sx.keepS_lt HRB.out HSBG.out HD2_0.out.keep ((HKY.out.trans hk2 (fun _ _ h=>h)).trans (Sx.Keep.toS hk3) (fun _ _ h=>h)))⟩
     | ok u q2 =>
      have hq2:=HMS.out q2 rfl
      go_wp2_with (first | (go_at_call 42;refine (HC1.out Y HRY.out HLO.out HSY.out).mono ?_;rintro e w2 ⟨rfl,hr2,⟨own2,v2,hs2⟩,hk2⟩) | (go_at_call 41;refine (HC2.out w2 hr2).mono ?_;rintro e w3 ⟨x,rfl,rfl,hr3,hk3⟩))
      go_roundw
      case rel=>exact ⟨m,s2,own2,v2,q2,by have h1:=HM.out;have h2:=HQ1.out;omega,hr3,hs2.move HLO.out hk3,(HKY.out.trans hk2 (fun _ _ h=>h)).trans (Sx.Keep.toS hk3) (fun _ _ h=>h),HF3.out⟩
      case measure=>rw [hr3.pos_of,HR.out.pos_of];have h1:=HLT2.out;have h2:=HQ1.out;omega
   ·have z1:decide ((q:Int)<(V.T.length:Int))=false:=decide_eq_false (by omega)
    have z1n:decide (q<V.T.length)=false:=decide_eq_false hlt
    have HF:=Lib.hid (show F=.ok s q by rw [hf];cases m with | zero=>rfl | succ m=>rw [Sx.items_succ,if_neg hlt])
    clear hm hr hs hk hf hlt
    go_upto_region 9 with (fail)
    go_quiet (fail)
    clear hl hp
    obtain ⟨Y,hY⟩:∃ Y,wr.drewN nq=Y:=⟨_,rfl⟩
    have hb:Below wr.heap.size wr Y:=by rw [← hY];exact below_drewn (Below.refl _ _) nq
    try rw [hY]
    have HRY:=Lib.hid (HR.out.below hb)
    have HSY:=Lib.hid (HS.out.move HLO.out (Keep.of_below hb))
    have HKY:=Lib.hid (HK.out.trans (Keep.of_below (F:=oursS V SB) hb) (fun _ _ h=>h))
    clear hY hb
    have HRT:=Lib.hid (show Y.heap[w.heap.size]?=some (.cells #[(.string ⟨#[]⟩),(.slice none 0 0),(.slice none 0 0),(.slice none 0 0),(.slice none 0 0),(.slice none 0 0),(.slice none 0 0),(.slice none 0 0),(.slice none 0 0)] 32 (0,0)) from (HKY.out.block w.heap.size (blk_lt HD2_0.out.blk) (fun e=>by unfold oursS at e;have h1:=HRB.out;have h2:=HSBG.out;omega)).trans HD2_0.out.blk)
    obtain ⟨a1,a2,a3,a4,a5,a6,a7,a8⟩:=v
    have e1:=Kd.R_slice HSY.out.r1
    dsimp only at e1
    obtain ⟨A1,c1,rfl⟩:=e1
    have e2:=Kd.R_slice HSY.out.r2
    dsimp only at e2
    obtain ⟨A2,c2,rfl⟩:=e2
    have e3:=Kd.R_slice HSY.out.r3
    dsimp only at e3
    obtain ⟨A3,c3,rfl⟩:=e3
    have e4:=Kd.R_slice HSY.out.r4
    dsimp only at e4
    obtain ⟨A4,c4,rfl⟩:=e4
    have e5:=Kd.R_slice HSY.out.r5
    dsimp only at e5
    obtain ⟨A5,c5,rfl⟩:=e5
    have e6:=Kd.R_slice HSY.out.r6
    dsimp only at e6
    obtain ⟨A6,c6,rfl⟩:=e6
    have e7:=Kd.R_slice HSY.out.r7
    dsimp only at e7
    obtain ⟨A7,c7,rfl⟩:=e7
    have e8:=Kd.R_slice HSY.out.r8
    dsimp only at e8
    obtain ⟨A8,c8,rfl⟩:=e8
    have y0:=blk_cell (v:=(.string s.title)) HSY.out.blk 0 rfl
    have y1:=blk_cell (v:=(.slice A1 s.kinds.length c1)) HSY.out.blk 1 rfl
    have y2:=blk_cell (v:=(.slice A2 s.members.length c2)) HSY.out.blk 2 rfl
    have y3:=blk_cell (v:=(.slice A3 s.preds.length c3)) HSY.out.blk 3 rfl
    have y4:=blk_cell (v:=(.slice A4 s.classes.length c4)) HSY.out.blk 4 rfl
    have y5:=blk_cell (v:=(.slice A5 s.sources.length c5)) HSY.out.blk 5 rfl
    have y6:=blk_cell (v:=(.slice A6 s.rules.length c6)) HSY.out.blk 6 rfl
    have y7:=blk_cell (v:=(.slice A7 s.excepts.length c7)) HSY.out.blk 7 rfl
    have y8:=blk_cell (v:=(.slice A8 s.totals.length c8)) HSY.out.blk 8 rfl
    have z0:=blk_cell (v:=(.string ⟨#[]⟩)) HRT.out 0 rfl
    have z1:=blk_cell (v:=(.slice none 0 0)) HRT.out 1 rfl
    have z2:=blk_cell (v:=(.slice none 0 0)) HRT.out 2 rfl
    have z3:=blk_cell (v:=(.slice none 0 0)) HRT.out 3 rfl
    have z4:=blk_cell (v:=(.slice none 0 0)) HRT.out 4 rfl
    have z5:=blk_cell (v:=(.slice none 0 0)) HRT.out 5 rfl
    have z6:=blk_cell (v:=(.slice none 0 0)) HRT.out 6 rfl
    have z7:=blk_cell (v:=(.slice none 0 0)) HRT.out 7 rfl
    have z8:=blk_cell (v:=(.slice none 0 0)) HRT.out 8 rfl
    have g0:=blk_free HRT.out 0
    have g1:=blk_free HRT.out 1
    have g2:=blk_free HRT.out 2
    have g3:=blk_free HRT.out 3
    have g4:=blk_free HRT.out 4
    have g5:=blk_free HRT.out 5
    have g6:=blk_free HRT.out 6
    have g7:=blk_free HRT.out 7
    have g8:=blk_free HRT.out 8
    go_wp2_with fail
    have hE0:(Y.setCell ⟨w.heap.size,0,none⟩ (.string s.title)).heap[w.heap.size]?=some (.cells #[(.string s.title),(.slice none 0 0),(.slice none 0 0),(.slice none 0 0),(.slice none 0 0),(.slice none 0 0),(.slice none 0 0),(.slice none 0 0),(.slice none 0 0)] 32 (0,0)):=heap_setCell_same HRT.out 0 _
    have hE1:((Y.setCell ⟨w.heap.size,0,none⟩ (.string s.title)).setCell ⟨w.heap.size,1,none⟩ (.slice A1 s.kinds.length c1)).heap[w.heap.size]?=some (.cells #[(.string s.title),(.slice A1 s.kinds.length c1),(.slice none 0 0),(.slice none 0 0),(.slice none 0 0),(.slice none 0 0),(.slice none 0 0),(.slice none 0 0),(.slice none 0 0)] 32 (0,0)):=heap_setCell_same hE0 1 _
    have hE2:(((Y.setCell ⟨w.heap.size,0,none⟩ (.string s.title)).setCell ⟨w.heap.size,1,none⟩ (.slice A1 s.kinds.length c1)).setCell ⟨w.heap.size,2,none⟩ (.slice A2 s.members.length c2)).heap[w.heap.size]?=some (.cells #[(.string s.title),(.slice A1 s.kinds.length c1),(.slice A2 s.members.length c2),(.slice none 0 0),(.slice none 0 0),(.slice none 0 0),(.slice none 0 0),(.slice none 0 0),(.slice none 0 0)] 32 (0,0)):=heap_setCell_same hE1 2 _
    have hE3:((((Y.setCell ⟨w.heap.size,0,none⟩ (.string s.title)).setCell ⟨w.heap.size,1,none⟩ (.slice A1 s.kinds.length c1)).setCell ⟨w.heap.size,2,none⟩ (.slice A2 s.members.length c2)).setCell ⟨w.heap.size,3,none⟩ (.slice A3 s.preds.length c3)).heap[w.heap.size]?=some (.cells #[(.string s.title),(.slice A1 s.kinds.length c1),(.slice A2 s.members.length c2),(.slice A3 s.preds.length c3),(.slice none 0 0),(.slice none 0 0),(.slice none 0 0),(.slice none 0 0),(.slice none 0 0)] 32 (0,0)):=heap_setCell_same hE2 3 _
    have hE4:(((((Y.setCell ⟨w.heap.size,0,none⟩ (.string s.title)).setCell ⟨w.heap.size,1,none⟩ (.slice A1 s.kinds.length c1)).setCell ⟨w.heap.size,2,none⟩ (.slice A2 s.members.length c2)).setCell ⟨w.heap.size,3,none⟩ (.slice A3 s.preds.length c3)).setCell ⟨w.heap.size,4,none⟩ (.slice A4 s.classes.length c4)).heap[w.heap.size]?=some (.cells #[(.string s.title),(.slice A1 s.kinds.length c1),(.slice A2 s.members.length c2),(.slice A3 s.preds.length c3),(.slice A4 s.classes.length c4),(.slice none 0 0),(.slice none 0 0),(.slice none 0 0),(.slice none 0 0)] 32 (0,0)):=heap_setCell_same hE3 4 _
    have hE5:((((((Y.setCell ⟨w.heap.size,0,none⟩ (.string s.title)).setCell ⟨w.heap.size,1,none⟩ (.slice A1 s.kinds.length c1)).setCell ⟨w.heap.size,2,none⟩ (.slice A2 s.members.length c2)).setCell ⟨w.heap.size,3,none⟩ (.slice A3 s.preds.length c3)).setCell ⟨w.heap.size,4,none⟩ (.slice A4 s.classes.length c4)).setCell ⟨w.heap.size,5,none⟩ (.slice A5 s.sources.length c5)).heap[w.heap.size]?=some (.cells #[(.string s.title),(.slice A1 s.kinds.length c1),(.slice A2 s.members.length c2),(.slice A3 s.preds.length c3),(.slice A4 s.classes.length c4),(.slice A5 s.sources.length c5),(.slice none 0 0),(.slice none 0 0),(.slice none 0 0)] 32 (0,0)):=heap_setCell_same hE4 5 _
    have hE6:(((((((Y.setCell ⟨w.heap.size,0,none⟩ (.string s.title)).setCell ⟨w.heap.size,1,none⟩ (.slice A1 s.kinds.length c1)).setCell ⟨w.heap.size,2,none⟩ (.slice A2 s.members.length c2)).setCell ⟨w.heap.size,3,none⟩ (.slice A3 s.preds.length c3)).setCell ⟨w.heap.size,4,none⟩ (.slice A4 s.classes.length c4)).setCell ⟨w.heap.size,5,none⟩ (.slice A5 s.sources.length c5)).setCell ⟨w.heap.size,6,none⟩ (.slice A6 s.rules.length c6)).heap[w.heap.size]?=some (.cells #[(.string s.title),(.slice A1 s.kinds.length c1),(.slice A2 s.members.length c2),(.slice A3 s.preds.length c3),(.slice A4 s.classes.length c4),(.slice A5 s.sources.length c5),(.slice A6 s.rules.length c6),(.slice none 0 0),(.slice none 0 0)] 32 (0,0)):=heap_setCell_same hE5 6 _
    have hE7:((((((((Y.setCell ⟨w.heap.size,0,none⟩ (.string s.title)).setCell ⟨w.heap.size,1,none⟩ (.slice A1 s.kinds.length c1)).setCell ⟨w.heap.size,2,none⟩ (.slice A2 s.members.length c2)).setCell ⟨w.heap.size,3,none⟩ (.slice A3 s.preds.length c3)).setCell ⟨w.heap.size,4,none⟩ (.slice A4 s.classes.length c4)).setCell ⟨w.heap.size,5,none⟩ (.slice A5 s.sources.length c5)).setCell ⟨w.heap.size,6,none⟩ (.slice A6 s.rules.length c6)).setCell ⟨w.heap.size,7,none⟩ (.slice A7 s.excepts.length c7)).heap[w.heap.size]?=some (.cells #[(.string s.title),(.slice A1 s.kinds.length c1),(.slice A2 s.members.length c2),(.slice A3 s.preds.length c3),(.slice A4 s.classes.length c4),(.slice A5 s.sources.length c5),(.slice A6 s.rules.length c6),(.slice A7 s.excepts.length c7),(.slice none 0 0)] 32 (0,0)):=heap_setCell_same hE6 7 _
    have hE8:(((((((((Y.setCell ⟨w.heap.size,0,none⟩ (.string s.title)).setCell ⟨w.heap.size,1,none⟩ (.slice A1 s.kinds.length c1)).setCell ⟨w.heap.size,2,none⟩ (.slice A2 s.members.length c2)).setCell ⟨w.heap.size,3,none⟩ (.slice A3 s.preds.length c3)).setCell ⟨w.heap.size,4,none⟩ (.slice A4 s.classes.length c4)).setCell ⟨w.heap.size,5,none⟩ (.slice A5 s.sources.length c5)).setCell ⟨w.heap.size,6,none⟩ (.slice A6 s.rules.length c6)).setCell ⟨w.heap.size,7,none⟩ (.slice A7 s.excepts.length c7)).setCell ⟨w.heap.size,8,none⟩ (.slice A8 s.totals.length c8)).heap[w.heap.size]?=some (.cells #[(.string s.title),(.slice A1 s.kinds.length c1),(.slice A2 s.members.length c2),(.slice A3 s.preds.length c3),(.slice A4 s.classes.length c4),(.slice A5 s.sources.length c5),(.slice A6 s.rules.length c6),(.slice A7 s.excepts.length c7),(.slice A8 s.totals.length c8)] 32 (0,0)):=heap_setCell_same hE7 8 _
    refine bodyPost_ret (results_cell_row rfl _ _ w.heap.size 32 #[(.string s.title),(.slice A1 s.kinds.length c1),(.slice A2 s.members.length c2),(.slice A3 s.preds.length c3),(.slice A4 s.classes.length c4),(.slice A5 s.sources.length c5),(.slice A6 s.rules.length c6),(.slice A7 s.excepts.length c7),(.slice A8 s.totals.length c8)] (0,0) _ rfl hE8 Tryz.underlying32 rfl rfl) rfl ?_
    rw [HF.out]
    have hfar:∀ i,i≠w.heap.size→(((((((((Y.setCell ⟨w.heap.size,0,none⟩ (.string s.title)).setCell ⟨w.heap.size,1,none⟩ (.slice A1 s.kinds.length c1)).setCell ⟨w.heap.size,2,none⟩ (.slice A2 s.members.length c2)).setCell ⟨w.heap.size,3,none⟩ (.slice A3 s.preds.length c3)).setCell ⟨w.heap.size,4,none⟩ (.slice A4 s.classes.length c4)).setCell ⟨w.heap.size,5,none⟩ (.slice A5 s.sources.length c5)).setCell ⟨w.heap.size,6,none⟩ (.slice A6 s.rules.length c6)).setCell ⟨w.heap.size,7,none⟩ (.slice A7 s.excepts.length c7)).setCell ⟨w.heap.size,8,none⟩ (.slice A8 s.totals.length c8)).heap[i]?=Y.heap[i]?:=fun i hi=>by
     iterate 9 rw [Below.heap_setCell _ ⟨w.heap.size,_,none⟩ _ i hi]
    have hsz:(((((((((Y.setCell ⟨w.heap.size,0,none⟩ (.string s.title)).setCell ⟨w.heap.size,1,none⟩ (.slice A1 s.kinds.length c1)).setCell ⟨w.heap.size,2,none⟩ (.slice A2 s.members.length c2)).setCell ⟨w.heap.size,3,none⟩ (.slice A3 s.preds.length c3)).setCell ⟨w.heap.size,4,none⟩ (.slice A4 s.classes.length c4)).setCell ⟨w.heap.size,5,none⟩ (.slice A5 s.sources.length c5)).setCell ⟨w.heap.size,6,none⟩ (.slice A6 s.rules.length c6)).setCell ⟨w.heap.size,7,none⟩ (.slice A7 s.excepts.length c7)).setCell ⟨w.heap.size,8,none⟩ (.slice A8 s.totals.length c8)).heap.size=Y.heap.size:=by iterate 9 rw [World.size_setCell]
    have hK0:=Sx.keepS_lt HRB.out HSBG.out HD2_0.out.keep HKY.out
    have h1:=Sx.StB.out (w1:=(((((((((Y.setCell ⟨w.heap.size,0,none⟩ (.string s.title)).setCell ⟨w.heap.size,1,none⟩ (.slice A1 s.kinds.length c1)).setCell ⟨w.heap.size,2,none⟩ (.slice A2 s.members.length c2)).setCell ⟨w.heap.size,3,none⟩ (.slice A3 s.preds.length c3)).setCell ⟨w.heap.size,4,none⟩ (.slice A4 s.classes.length c4)).setCell ⟨w.heap.size,5,none⟩ (.slice A5 s.sources.length c5)).setCell ⟨w.heap.size,6,none⟩ (.slice A6 s.rules.length c6)).setCell ⟨w.heap.size,7,none⟩ (.slice A7 s.excepts.length c7)).setCell ⟨w.heap.size,8,none⟩ (.slice A8 s.totals.length c8))) HSY.out (Nat.le_of_lt HSBG.out) (fun k hk _=>hfar k (by have:=HSBG.out;omega))
    have hB0:Below w.heap.size Y Y:=Below.mono (Below.refl _ Y) (by have:=hK0.size;omega)
    have hB1:Below w.heap.size Y (Y.setCell ⟨w.heap.size,0,none⟩ (.string s.title)):=hB0.setCell (p:=⟨w.heap.size,0,none⟩) (Nat.le_refl _) _
    have hB2:Below w.heap.size Y ((Y.setCell ⟨w.heap.size,0,none⟩ (.string s.title)).setCell ⟨w.heap.size,1,none⟩ (.slice A1 s.kinds.length c1)):=hB1.setCell (p:=⟨w.heap.size,1,none⟩) (Nat.le_refl _) _
    have hB3:Below w.heap.size Y (((Y.setCell ⟨w.heap.size,0,none⟩ (.string s.title)).setCell ⟨w.heap.size,1,none⟩ (.slice A1 s.kinds.length c1)).setCell ⟨w.heap.size,2,none⟩ (.slice A2 s.members.length c2)):=hB2.setCell (p:=⟨w.heap.size,2,none⟩) (Nat.le_refl _) _
    have hB4:Below w.heap.size Y ((((Y.setCell ⟨w.heap.size,0,none⟩ (.string s.title)).setCell ⟨w.heap.size,1,none⟩ (.slice A1 s.kinds.length c1)).setCell ⟨w.heap.size,2,none⟩ (.slice A2 s.members.length c2)).setCell ⟨w.heap.size,3,none⟩ (.slice A3 s.preds.length c3)):=hB3.setCell (p:=⟨w.heap.size,3,none⟩) (Nat.le_refl _) _
    have hB5:Below w.heap.size Y (((((Y.setCell ⟨w.heap.size,0,none⟩ (.string s.title)).setCell ⟨w.heap.size,1,none⟩ (.slice A1 s.kinds.length c1)).setCell ⟨w.heap.size,2,none⟩ (.slice A2 s.members.length c2)).setCell ⟨w.heap.size,3,none⟩ (.slice A3 s.preds.length c3)).setCell ⟨w.heap.size,4,none⟩ (.slice A4 s.classes.length c4)):=hB4.setCell (p:=⟨w.heap.size,4,none⟩) (Nat.le_refl _) _
    have hB6:Below w.heap.size Y ((((((Y.setCell ⟨w.heap.size,0,none⟩ (.string s.title)).setCell ⟨w.heap.size,1,none⟩ (.slice A1 s.kinds.length c1)).setCell ⟨w.heap.size,2,none⟩ (.slice A2 s.members.length c2)).setCell ⟨w.heap.size,3,none⟩ (.slice A3 s.preds.length c3)).setCell ⟨w.heap.size,4,none⟩ (.slice A4 s.classes.length c4)).setCell ⟨w.heap.size,5,none⟩ (.slice A5 s.sources.length c5)):=hB5.setCell (p:=⟨w.heap.size,5,none⟩) (Nat.le_refl _) _
    have hB7:Below w.heap.size Y (((((((Y.setCell ⟨w.heap.size,0,none⟩ (.string s.title)).setCell ⟨w.heap.size,1,none⟩ (.slice A1 s.kinds.length c1)).setCell ⟨w.heap.size,2,none⟩ (.slice A2 s.members.length c2)).setCell ⟨w.heap.size,3,none⟩ (.slice A3 s.preds.length c3)).setCell ⟨w.heap.size,4,none⟩ (.slice A4 s.classes.length c4)).setCell ⟨w.heap.size,5,none⟩ (.slice A5 s.sources.length c5)).setCell ⟨w.heap.size,6,none⟩ (.slice A6 s.rules.length c6)):=hB6.setCell (p:=⟨w.heap.size,6,none⟩) (Nat.le_refl _) _
    have hB8:Below w.heap.size Y ((((((((Y.setCell ⟨w.heap.size,0,none⟩ (.string s.title)).setCell ⟨w.heap.size,1,none⟩ (.slice A1 s.kinds.length c1)).setCell ⟨w.heap.size,2,none⟩ (.slice A2 s.members.length c2)).setCell ⟨w.heap.size,3,none⟩ (.slice A3 s.preds.length c3)).setCell ⟨w.heap.size,4,none⟩ (.slice A4 s.classes.length c4)).setCell ⟨w.heap.size,5,none⟩ (.slice A5 s.sources.length c5)).setCell ⟨w.heap.size,6,none⟩ (.slice A6 s.rules.length c6)).setCell ⟨w.heap.size,7,none⟩ (.slice A7 s.excepts.length c7)):=hB7.setCell (p:=⟨w.heap.size,7,none⟩) (Nat.le_refl _) _
    have hB9:Below w.heap.size Y (((((((((Y.setCell ⟨w.heap.size,0,none⟩ (.string s.title)).setCell ⟨w.heap.size,1,none⟩ (.slice A1 s.kinds.length c1)).setCell ⟨w.heap.size,2,none⟩ (.slice A2 s.members.length c2)).setCell ⟨w.heap.size,3,none⟩ (.slice A3 s.preds.length c3)).setCell ⟨w.heap.size,4,none⟩ (.slice A4 s.classes.length c4)).setCell ⟨w.heap.size,5,none⟩ (.slice A5 s.sources.length c5)).setCell ⟨w.heap.size,6,none⟩ (.slice A6 s.rules.length c6)).setCell ⟨w.heap.size,7,none⟩ (.slice A7 s.excepts.length c7)).setCell ⟨w.heap.size,8,none⟩ (.slice A8 s.totals.length c8)):=hB8.setCell (p:=⟨w.heap.size,8,none⟩) (Nat.le_refl _) _
    have h2:Rd (((((((((Y.setCell ⟨w.heap.size,0,none⟩ (.string s.title)).setCell ⟨w.heap.size,1,none⟩ (.slice A1 s.kinds.length c1)).setCell ⟨w.heap.size,2,none⟩ (.slice A2 s.members.length c2)).setCell ⟨w.heap.size,3,none⟩ (.slice A3 s.preds.length c3)).setCell ⟨w.heap.size,4,none⟩ (.slice A4 s.classes.length c4)).setCell ⟨w.heap.size,5,none⟩ (.slice A5 s.sources.length c5)).setCell ⟨w.heap.size,6,none⟩ (.slice A6 s.rules.length c6)).setCell ⟨w.heap.size,7,none⟩ (.slice A7 s.excepts.length c7)).setCell ⟨w.heap.size,8,none⟩ (.slice A8 s.totals.length c8)) V q:=rd_over HD2_0.out.h0 HRY.out hB9
    have h3:=keep_over hK0 hB9
    exact ⟨_,rfl,h1,h2,h3⟩
 ·simp only [if_true,Bool.false_eq_true,if_false] at hF1
  try dsimp only [Res.bnd] at hF1
  have HF1:=Lib.hid hF1
  clear hF1 hr1
  go_upto_region 3 with (first | (go_at_call 38;refine (HK1.out X1 HA1.out.rd).mono ?_;rintro e X1 ⟨rfl,hr2,hk2⟩))
  simp only [if_true,Bool.false_eq_true,if_false] at hr2
  have HD3_0:=Lib.hid (show Bx w X1 V p (p+1) w.heap.size 32 #[(.string ⟨#[]⟩),(.slice none 0 0),(.slice none 0 0),(.slice none 0 0),(.slice none 0 0),(.slice none 0 0),(.slice none 0 0),(.slice none 0 0),(.slice none 0 0)] from HA1.out.call hr2 hk2)
  have HD3_1:=Lib.hid (show Bx w X1 V p (p+1) SB 32 #[(.string ⟨#[]⟩),(.slice none 0 0),(.slice none 0 0),(.slice none 0 0),(.slice none 0 0),(.slice none 0 0),(.slice none 0 0),(.slice none 0 0),(.slice none 0 0)] from HB1.out.call hr2 hk2)
  clear HA1 HB1
  clear hr2 hk2 HK1
  have HN:=Lib.hid (fun w1 (h1:Rd w1 V (p+1))=>next_calls V (p+1) w1 h1)
  unfold Sx.tv at HN
  have hF4:=HF1.out
  have hnl:=Sx.next_lt (V:=V) (p:=p+1)
  generalize V.next (p+1)=t at *
  clear HF1
  go_upto_region 4 with (first | (go_at_call 39;refine (HN.out X1 HD3_0.out.rd).mono ?_;rintro e w5 ⟨rfl,hb5⟩;have hr5:=HD3_0.out.rd.below hb5;have hk5:=Keep.of_below (F:=ours V) hb5;clear hb5))
  have HD5_0:=Lib.hid (show Bx w w5 V p (p+1) w.heap.size 32 #[(.string ⟨#[]⟩),(.slice none 0 0),(.slice none 0 0),(.slice none 0 0),(.slice none 0 0),(.slice none 0 0),(.slice none 0 0),(.slice none 0 0),(.slice none 0 0)] from HD3_0.out.call hr5 hk5)
  have HD5_1:=Lib.hid (show Bx w w5 V p (p+1) SB 32 #[(.string ⟨#[]⟩),(.slice none 0 0),(.slice none 0 0),(.slice none 0 0),(.slice none 0 0),(.slice none 0 0),(.slice none 0 0),(.slice none 0 0),(.slice none 0 0)] from HD3_1.out.call hr5 hk5)
  clear HD3_0 HD3_1
  clear hr5 hk5
  obtain ⟨X5,hX5⟩:∃ X,w5.alloc (Obj.cells #[.int .i64 t.k,.string t.t,.int .i64 t.a] 48)=X:=⟨_,rfl⟩
  have HA5:=Lib.hid (HD5_0.out.alloc (Obj.cells #[.int .i64 t.k,.string t.t,.int .i64 t.a] 48))
  have HB5:=Lib.hid (HD5_1.out.alloc (Obj.cells #[.int .i64 t.k,.string t.t,.int .i64 t.a] 48))
  have u0:X5.cell? ⟨w5.heap.size,0,none⟩=some (.int .i64 t.k):=by rw [← hX5];exact blk_cell (heap_alloc_new w5 _) 0 rfl
  have u1:X5.cell? ⟨w5.heap.size,1,none⟩=some (.string t.t):=by rw [← hX5];exact blk_cell (heap_alloc_new w5 _) 1 rfl
  have hne1:w5.heap.size≠V.rb:=by have h1:=World.block_lt_of_cell? _ _ HD5_0.out.rd.pos;simp only at h1;omega
  have hne2:w5.heap.size≠SB:=by have h1:=blk_lt HD5_1.out.blk;omega
  rw [hX5] at HA5 HB5
  try rw [hX5]
  clear hX5 HD5_0 HD5_1
  by_cases hk5:t.k=5
  ·rw [if_pos (by rw [hk5];rfl)] at hF4
   have HF4:=Lib.hid hF4
   have HLT:=Lib.hid (hnl (by rw [hk5];decide))
   have e5:(t.k != 5)=false:=by rw [hk5];rfl
   clear hF4 hnl hk5
   go_upto_region 6 with (fail)
   obtain ⟨pp,hpp⟩:∃ n,p+1=n:=⟨_,rfl⟩
   rw [hpp] at HLT HA5 HB5
   have hp:=HA5.out.rd.pos
   have hf:=HA5.out.rd.f
   have wz:IntKind.i64.wrap ((pp:Int)+1)=((pp+1:Nat):Int):=by have h1:=HA5.out.rd.n;have h2:=HLT.out;rw [IntWalk.i64_in _ (by omega)];omega
   go_upto_region 7 with (fail)
   have hs:=HA5.out.rd.step (pp+1) HLT.out
   have hk:Keep (ours V) X5 (X5.setCell ⟨V.rb,1,none⟩ (.int .i64 ((pp+1:Nat):Int))):=Keep.setCell (F:=ours V) (Keep.refl _ _) (p:=⟨V.rb,1,none⟩) (fun _=>rfl) _
   obtain ⟨X6,hX6⟩:∃ X,X5.setCell ⟨V.rb,1,none⟩ (.int .i64 ((pp+1:Nat):Int))=X:=⟨_,rfl⟩
   have u2:X6.cell? ⟨w5.heap.size,1,none⟩=some (.string t.t):=by rw [← hX6,World.cell?_setCell_other _ _ _ _ (fun e=>by injection e with e1;exact hne1 e1.symm)];exact u1
   rw [hX6] at hs hk
   have hX6b:X5.setCell ⟨V.rb,1,none⟩ (.int .i64 ((pp:Int)+1))=X6:=hX6
   try rw [hX6]
   try rw [hX6b]
   clear hX6 hX6b hp hf wz
   have HD6_0:=Lib.hid (show Bx w X6 V p (pp+1) w.heap.size 32 #[(.string ⟨#[]⟩),(.slice none 0 0),(.slice none 0 0),(.slice none 0 0),(.slice none 0 0),(.slice none 0 0),(.slice none 0 0),(.slice none 0 0),(.slice none 0 0)] from HA5.out.call hs hk)
   have HD6_1:=Lib.hid (show Bx w X6 V p (pp+1) SB 32 #[(.string ⟨#[]⟩),(.slice none 0 0),(.slice none 0 0),(.slice none 0 0),(.slice none 0 0),(.slice none 0 0),(.slice none 0 0),(.slice none 0 0),(.slice none 0 0)] from HB5.out.call hs hk)
   clear HA5 HB5
   clear hs hk u0 u1
   have ys:=blk_cell (v:=(.string ⟨#[]⟩)) HD6_1.out.blk 0 rfl
   have fs:=blk_free HD6_1.out.blk 0
   go_upto_region 8 with (fail)
   have HB7:=Lib.hid (show Bx w (X6.setCell ⟨SB,0,none⟩ (.string t.t)) V p (pp+1) SB 32 #[(.string t.t),(.slice none 0 0),(.slice none 0 0),(.slice none 0 0),(.slice none 0 0),(.slice none 0 0),(.slice none 0 0),(.slice none 0 0),(.slice none 0 0)] from HD6_1.out.set 0 (.string t.t))
   have HA7:=Lib.hid (HD6_0.out.far HD6_1.out.ge (Ne.symm HNSB.out) 0 (.string t.t))
   clear ys fs u2 HD6_0 HD6_1
   generalize X6.setCell ⟨SB,0,none⟩ (.string t.t)=X7 at *
   have hF4p:=HF4.out
   rw [show p+2=pp+1 from by omega] at hF4p
   clear HF4
   have HF4:=Lib.hid hF4p
   clear hF4p
   have HK7:=Lib.hid (fun w1 h1=>must_calls V (pp+1) 6 ⟨#[46]⟩ w1 h1 (by decide))
   have hF7:=HF4.out
   generalize hr7:V.must 6 ⟨#[46]⟩ (pp+1)=r7 at hF7 HK7
   cases r7 with
   | bad er a =>
    dsimp only [Res.bnd] at hF7
    have HF7:=Lib.hid hF7
    clear hF7 HF4 hr7
    go_wp2_with (first | (go_at_call 41;refine (HK7.out X7 HA7.out.rd).mono ?_;rintro e w2 ⟨rfl,hk2⟩))
    refine ⟨rfl,?_⟩
    rw [HF7.out]
    exact ⟨rfl,(HA7.out.keep.trans hk2 (fun _ _ h=>h))⟩
   | ok _ q2 =>
    dsimp only [Res.bnd] at hF7
    have HF7:=Lib.hid hF7
    clear hF7 HF4 hr7
    go_upto_region 9 with (first | (go_at_call 41;refine (HK7.out X7 HA7.out.rd).mono ?_;rintro e X7 ⟨x,rfl,rfl,hr2,hk2⟩;have HC7_0:=Lib.hid (HA7.out.call hr2 hk2);have HC7_1:=Lib.hid (HB7.out.call hr2 hk2)))
    have HD7_0:=Lib.hid (show Bx w X7 V p q2 w.heap.size 32 #[(.string ⟨#[]⟩),(.slice none 0 0),(.slice none 0 0),(.slice none 0 0),(.slice none 0 0),(.slice none 0 0),(.slice none 0 0),(.slice none 0 0),(.slice none 0 0)] from HC7_0.out)
    have HD7_1:=Lib.hid (show Bx w X7 V p q2 SB 32 #[(.string t.t),(.slice none 0 0),(.slice none 0 0),(.slice none 0 0),(.slice none 0 0),(.slice none 0 0),(.slice none 0 0),(.slice none 0 0),(.slice none 0 0)] from HC7_1.out)
    clear hr2 hk2 HK7 HA7 HB7 HC7_0 HC7_1 
    have HFL:=Lib.hid (show V.statute cal p=V.items cal V.T.length ⟨t.t,[],[],[],[],[],[],[],[]⟩ q2 from HF7.out)
    generalize V.statute cal p=F at *
    clear HF7
    go_upto_region 9 with (fail)
    go_loopw [] (fun wr=>∃ (m:Nat) (s:Stt) (own:Nat→Nat) (v:Vs) (q:Nat),V.T.length≤q+m∧Rd wr V q∧StB wr SB own s v∧Keep (oursS V SB) X7 wr∧F=V.items cal m s q) (fun wr=>V.T.length-posOf V.rb wr)
    case atStart =>
     exact ⟨V.T.length,_,_,_,q2,by omega,HD7_0.out.rd,Sx.StB.nil _ SB t.t HD7_1.out.blk,Keep.refl _ _,HFL.out⟩
    case round =>
     obtain ⟨m,s,own,v,q,hm,hr,hs,hk,hf⟩:=hrel
     have HR:=Lib.hid hr
     have HS:=Lib.hid hs
     have HK:=Lib.hid hk
     have hl:=hr.l
     have hp:=hr.pos
     by_cases hlt:q<V.T.length
     ·have z1:decide ((q:Int)<(V.T.length:Int))=true:=decide_eq_true (by omega)
      have z1n:decide (q<V.T.length)=true:=decide_eq_true hlt
      obtain ⟨m,rfl⟩:∃ j,m=j+1:=⟨m-1,by omega⟩
      have hf2:F=(V.item cal s q).bnd fun s2 q=>(V.must 6 ⟨#[46]⟩ q).bnd fun _ q2=>V.items cal m s2 q2:=by rw [hf,Sx.items_succ,if_pos hlt]
      have HM:=Lib.hid hm
      have HLT2:=Lib.hid hlt
      have HC1:=Lib.hid (item_calls V cal hC.out q SB own s v)
      have HIS:=Lib.hid (fun s2 q2 (h:V.item cal s q=.ok s2 q2)=>Sx.items_step (q2:=q2) cal h)
      generalize hri:V.item cal s q=r1 at hf2 HC1 HIS
      have HF:=Lib.hid hf2
      clear hm hr hs hk hf hlt hri hf2
      go_upto_region 9 with (fail)
      go_quiet (fail)
      clear hl hp
      obtain ⟨Y,hY⟩:∃ Y,wr.drewN nq=Y:=⟨_,rfl⟩
      have hb:Below wr.heap.size wr Y:=by rw [← hY];exact below_drewn (Below.refl _ _) nq
      try rw [hY]
      have HRY:=Lib.hid (HR.out.below hb)
      have HSY:=Lib.hid (HS.out.move HLO.out (Keep.of_below hb))
      have HKY:=Lib.hid (HK.out.trans (Keep.of_below (F:=oursS V SB) hb) (fun _ _ h=>h))
      clear hY hb
      cases r1 with
      | bad er a =>
       go_wp2_with (first | (go_at_call 42;refine (HC1.out Y HRY.out HLO.out HSY.out).mono ?_;rintro e w2 ⟨rfl,hk2⟩))
       refine ⟨rfl,?_⟩
       rw [HF.out]
       exact ⟨rfl,(Sx.keepS_lt HRB.out HSBG.out HD7_0.out.keep (HKY.out.trans hk2 (fun _ _ h=>h)))⟩
      | ok s2 q1 =>
       have hq1:=HIS.out s2 q1 rfl
       have HC2:=Lib.hid (fun w1 h1=>must_calls V q1 6 ⟨#[46]⟩ w1 h1 (by decide))
       have hf3:F=(V.must 6 ⟨#[46]⟩ q1).bnd fun _ q2=>V.items cal m s2 q2:=HF.out
       have HMS:=Lib.hid (fun q2 (h:V.must 6 ⟨#[46]⟩ q1=.ok () q2)=>Sx.must_step h)
       generalize hrm:V.must 6 ⟨#[46]⟩ q1=r2 at hf3 HC2 HMS
       have HF3:=Lib.hid hf3
       have HQ1:=Lib.hid hq1
       clear hf3 hrm HF HIS hq1
       cases r2 with
       | bad er a =>
        go_wp2_with (first | (go_at_call 42;refine (HC1.out Y HRY.out HLO.out HSY.out).mono ?_;rintro e w2 ⟨rfl,hr2,⟨own2,v2,hs2⟩,hk2⟩) | (go_at_call 41;refine (HC2.out w2 hr2).mono ?_;rintro e w3 ⟨rfl,hk3⟩))
        refine ⟨rfl,?_⟩
        rw [HF3.out]
        exact ⟨rfl,(Sx.keepS_lt HRB.out HSBG.out HD7_0.out.keep ((HKY.out.trans hk2 (fun _ _ h=>h)).trans (Sx.Keep.toS hk3) (fun _ _ h=>h)))⟩
       | ok u q2 =>
        have hq2:=HMS.out q2 rfl
        go_wp2_with (first | (go_at_call 42;refine (HC1.out Y HRY.out HLO.out HSY.out).mono ?_;rintro e w2 ⟨rfl,hr2,⟨own2,v2,hs2⟩,hk2⟩) | (go_at_call 41;refine (HC2.out w2 hr2).mono ?_;rintro e w3 ⟨x,rfl,rfl,hr3,hk3⟩))
        go_roundw
        case rel=>exact ⟨m,s2,own2,v2,q2,by have h1:=HM.out;have h2:=HQ1.out;omega,hr3,hs2.move HLO.out hk3,(HKY.out.trans hk2 (fun _ _ h=>h)).trans (Sx.Keep.toS hk3) (fun _ _ h=>h),HF3.out⟩
        case measure=>rw [hr3.pos_of,HR.out.pos_of];have h1:=HLT2.out;have h2:=HQ1.out;omega
     ·have z1:decide ((q:Int)<(V.T.length:Int))=false:=decide_eq_false (by omega)
      have z1n:decide (q<V.T.length)=false:=decide_eq_false hlt
      have HF:=Lib.hid (show F=.ok s q by rw [hf];cases m with | zero=>rfl | succ m=>rw [Sx.items_succ,if_neg hlt])
      clear hm hr hs hk hf hlt
      go_upto_region 9 with (fail)
      go_quiet (fail)
      clear hl hp
      obtain ⟨Y,hY⟩:∃ Y,wr.drewN nq=Y:=⟨_,rfl⟩
      have hb:Below wr.heap.size wr Y:=by rw [← hY];exact below_drewn (Below.refl _ _) nq
      try rw [hY]
      have HRY:=Lib.hid (HR.out.below hb)
      have HSY:=Lib.hid (HS.out.move HLO.out (Keep.of_below hb))
      have HKY:=Lib.hid (HK.out.trans (Keep.of_below (F:=oursS V SB) hb) (fun _ _ h=>h))
      clear hY hb
      have HRT:=Lib.hid (show Y.heap[w.heap.size]?=some (.cells #[(.string ⟨#[]⟩),(.slice none 0 0),(.slice none 0 0),(.slice none 0 0),(.slice none 0 0),(.slice none 0 0),(.slice none 0 0),(.slice none 0 0),(.slice none 0 0)] 32 (0,0)) from (HKY.out.block w.heap.size (blk_lt HD7_0.out.blk) (fun e=>by unfold oursS at e;have h1:=HRB.out;have h2:=HSBG.out;omega)).trans HD7_0.out.blk)
      obtain ⟨a1,a2,a3,a4,a5,a6,a7,a8⟩:=v
      have e1:=Kd.R_slice HSY.out.r1
      dsimp only at e1
      obtain ⟨A1,c1,rfl⟩:=e1
      have e2:=Kd.R_slice HSY.out.r2
      dsimp only at e2
      obtain ⟨A2,c2,rfl⟩:=e2
      have e3:=Kd.R_slice HSY.out.r3
      dsimp only at e3
      obtain ⟨A3,c3,rfl⟩:=e3
      have e4:=Kd.R_slice HSY.out.r4
      dsimp only at e4
      obtain ⟨A4,c4,rfl⟩:=e4
      have e5:=Kd.R_slice HSY.out.r5
      dsimp only at e5
      obtain ⟨A5,c5,rfl⟩:=e5
      have e6:=Kd.R_slice HSY.out.r6
      dsimp only at e6
      obtain ⟨A6,c6,rfl⟩:=e6
      have e7:=Kd.R_slice HSY.out.r7
      dsimp only at e7
      obtain ⟨A7,c7,rfl⟩:=e7
      have e8:=Kd.R_slice HSY.out.r8
      dsimp only at e8
      obtain ⟨A8,c8,rfl⟩:=e8
      have y0:=blk_cell (v:=(.string s.title)) HSY.out.blk 0 rfl
      have y1:=blk_cell (v:=(.slice A1 s.kinds.length c1)) HSY.out.blk 1 rfl
      have y2:=blk_cell (v:=(.slice A2 s.members.length c2)) HSY.out.blk 2 rfl
      have y3:=blk_cell (v:=(.slice A3 s.preds.length c3)) HSY.out.blk 3 rfl
      have y4:=blk_cell (v:=(.slice A4 s.classes.length c4)) HSY.out.blk 4 rfl
      have y5:=blk_cell (v:=(.slice A5 s.sources.length c5)) HSY.out.blk 5 rfl
      have y6:=blk_cell (v:=(.slice A6 s.rules.length c6)) HSY.out.blk 6 rfl
      have y7:=blk_cell (v:=(.slice A7 s.excepts.length c7)) HSY.out.blk 7 rfl
      have y8:=blk_cell (v:=(.slice A8 s.totals.length c8)) HSY.out.blk 8 rfl
      have z0:=blk_cell (v:=(.string ⟨#[]⟩)) HRT.out 0 rfl
      have z1:=blk_cell (v:=(.slice none 0 0)) HRT.out 1 rfl
      have z2:=blk_cell (v:=(.slice none 0 0)) HRT.out 2 rfl
      have z3:=blk_cell (v:=(.slice none 0 0)) HRT.out 3 rfl
      have z4:=blk_cell (v:=(.slice none 0 0)) HRT.out 4 rfl
      have z5:=blk_cell (v:=(.slice none 0 0)) HRT.out 5 rfl
      have z6:=blk_cell (v:=(.slice none 0 0)) HRT.out 6 rfl
      have z7:=blk_cell (v:=(.slice none 0 0)) HRT.out 7 rfl
      have z8:=blk_cell (v:=(.slice none 0 0)) HRT.out 8 rfl
      have g0:=blk_free HRT.out 0
      have g1:=blk_free HRT.out 1
      have g2:=blk_free HRT.out 2
      have g3:=blk_free HRT.out 3
      have g4:=blk_free HRT.out 4
      have g5:=blk_free HRT.out 5
      have g6:=blk_free HRT.out 6
      have g7:=blk_free HRT.out 7
      have g8:=blk_free HRT.out 8
      go_wp2_with fail
      have hE0:(Y.setCell ⟨w.heap.size,0,none⟩ (.string s.title)).heap[w.heap.size]?=some (.cells #[(.string s.title),(.slice none 0 0),(.slice none 0 0),(.slice none 0 0),(.slice none 0 0),(.slice none 0 0),(.slice none 0 0),(.slice none 0 0),(.slice none 0 0)] 32 (0,0)):=heap_setCell_same HRT.out 0 _
      have hE1:((Y.setCell ⟨w.heap.size,0,none⟩ (.string s.title)).setCell ⟨w.heap.size,1,none⟩ (.slice A1 s.kinds.length c1)).heap[w.heap.size]?=some (.cells #[(.string s.title),(.slice A1 s.kinds.length c1),(.slice none 0 0),(.slice none 0 0),(.slice none 0 0),(.slice none 0 0),(.slice none 0 0),(.slice none 0 0),(.slice none 0 0)] 32 (0,0)):=heap_setCell_same hE0 1 _
      have hE2:(((Y.setCell ⟨w.heap.size,0,none⟩ (.string s.title)).setCell ⟨w.heap.size,1,none⟩ (.slice A1 s.kinds.length c1)).setCell ⟨w.heap.size,2,none⟩ (.slice A2 s.members.length c2)).heap[w.heap.size]?=some (.cells #[(.string s.title),(.slice A1 s.kinds.length c1),(.slice A2 s.members.length c2),(.slice none 0 0),(.slice none 0 0),(.slice none 0 0),(.slice none 0 0),(.slice none 0 0),(.slice none 0 0)] 32 (0,0)):=heap_setCell_same hE1 2 _
      have hE3:((((Y.setCell ⟨w.heap.size,0,none⟩ (.string s.title)).setCell ⟨w.heap.size,1,none⟩ (.slice A1 s.kinds.length c1)).setCell ⟨w.heap.size,2,none⟩ (.slice A2 s.members.length c2)).setCell ⟨w.heap.size,3,none⟩ (.slice A3 s.preds.length c3)).heap[w.heap.size]?=some (.cells #[(.string s.title),(.slice A1 s.kinds.length c1),(.slice A2 s.members.length c2),(.slice A3 s.preds.length c3),(.slice none 0 0),(.slice none 0 0),(.slice none 0 0),(.slice none 0 0),(.slice none 0 0)] 32 (0,0)):=heap_setCell_same hE2 3 _
      have hE4:(((((Y.setCell ⟨w.heap.size,0,none⟩ (.string s.title)).setCell ⟨w.heap.size,1,none⟩ (.slice A1 s.kinds.length c1)).setCell ⟨w.heap.size,2,none⟩ (.slice A2 s.members.length c2)).setCell ⟨w.heap.size,3,none⟩ (.slice A3 s.preds.length c3)).setCell ⟨w.heap.size,4,none⟩ (.slice A4 s.classes.length c4)).heap[w.heap.size]?=some (.cells #[(.string s.title),(.slice A1 s.kinds.length c1),(.slice A2 s.members.length c2),(.slice A3 s.preds.length c3),(.slice A4 s.classes.length c4),(.slice none 0 0),(.slice none 0 0),(.slice none 0 0),(.slice none 0 0)] 32 (0,0)):=heap_setCell_same hE3 4 _
      have hE5:((((((Y.setCell ⟨w.heap.size,0,none⟩ (.string s.title)).setCell ⟨w.heap.size,1,none⟩ (.slice A1 s.kinds.length c1)).setCell ⟨w.heap.size,2,none⟩ (.slice A2 s.members.length c2)).setCell ⟨w.heap.size,3,none⟩ (.slice A3 s.preds.length c3)).setCell ⟨w.heap.size,4,none⟩ (.slice A4 s.classes.length c4)).setCell ⟨w.heap.size,5,none⟩ (.slice A5 s.sources.length c5)).heap[w.heap.size]?=some (.cells #[(.string s.title),(.slice A1 s.kinds.length c1),(.slice A2 s.members.length c2),(.slice A3 s.preds.length c3),(.slice A4 s.classes.length c4),(.slice A5 s.sources.length c5),(.slice none 0 0),(.slice none 0 0),(.slice none 0 0)] 32 (0,0)):=heap_setCell_same hE4 5 _
      have hE6:(((((((Y.setCell ⟨w.heap.size,0,none⟩ (.string s.title)).setCell ⟨w.heap.size,1,none⟩ (.slice A1 s.kinds.length c1)).setCell ⟨w.heap.size,2,none⟩ (.slice A2 s.members.length c2)).setCell ⟨w.heap.size,3,none⟩ (.slice A3 s.preds.length c3)).setCell ⟨w.heap.size,4,none⟩ (.slice A4 s.classes.length c4)).setCell ⟨w.heap.size,5,none⟩ (.slice A5 s.sources.length c5)).setCell ⟨w.heap.size,6,none⟩ (.slice A6 s.rules.length c6)).heap[w.heap.size]?=some (.cells #[(.string s.title),(.slice A1 s.kinds.length c1),(.slice A2 s.members.length c2),(.slice A3 s.preds.length c3),(.slice A4 s.classes.length c4),(.slice A5 s.sources.length c5),(.slice A6 s.rules.length c6),(.slice none 0 0),(.slice none 0 0)] 32 (0,0)):=heap_setCell_same hE5 6 _
      have hE7:((((((((Y.setCell ⟨w.heap.size,0,none⟩ (.string s.title)).setCell ⟨w.heap.size,1,none⟩ (.slice A1 s.kinds.length c1)).setCell ⟨w.heap.size,2,none⟩ (.slice A2 s.members.length c2)).setCell ⟨w.heap.size,3,none⟩ (.slice A3 s.preds.length c3)).setCell ⟨w.heap.size,4,none⟩ (.slice A4 s.classes.length c4)).setCell ⟨w.heap.size,5,none⟩ (.slice A5 s.sources.length c5)).setCell ⟨w.heap.size,6,none⟩ (.slice A6 s.rules.length c6)).setCell ⟨w.heap.size,7,none⟩ (.slice A7 s.excepts.length c7)).heap[w.heap.size]?=some (.cells #[(.string s.title),(.slice A1 s.kinds.length c1),(.slice A2 s.members.length c2),(.slice A3 s.preds.length c3),(.slice A4 s.classes.length c4),(.slice A5 s.sources.length c5),(.slice A6 s.rules.length c6),(.slice A7 s.excepts.length c7),(.slice none 0 0)] 32 (0,0)):=heap_setCell_same hE6 7 _
      have hE8:(((((((((Y.setCell ⟨w.heap.size,0,none⟩ (.string s.title)).setCell ⟨w.heap.size,1,none⟩ (.slice A1 s.kinds.length c1)).setCell ⟨w.heap.size,2,none⟩ (.slice A2 s.members.length c2)).setCell ⟨w.heap.size,3,none⟩ (.slice A3 s.preds.length c3)).setCell ⟨w.heap.size,4,none⟩ (.slice A4 s.classes.length c4)).setCell ⟨w.heap.size,5,none⟩ (.slice A5 s.sources.length c5)).setCell ⟨w.heap.size,6,none⟩ (.slice A6 s.rules.length c6)).setCell ⟨w.heap.size,7,none⟩ (.slice A7 s.excepts.length c7)).setCell ⟨w.heap.size,8,none⟩ (.slice A8 s.totals.length c8)).heap[w.heap.size]?=some (.cells #[(.string s.title),(.slice A1 s.kinds.length c1),(.slice A2 s.members.length c2),(.slice A3 s.preds.length c3),(.slice A4 s.classes.length c4),(.slice A5 s.sources.length c5),(.slice A6 s.rules.length c6),(.slice A7 s.excepts.length c7),(.slice A8 s.totals.length c8)] 32 (0,0)):=heap_setCell_same hE7 8 _
      refine bodyPost_ret (results_cell_row rfl _ _ w.heap.size 32 #[(.string s.title),(.slice A1 s.kinds.length c1),(.slice A2 s.members.length c2),(.slice A3 s.preds.length c3),(.slice A4 s.classes.length c4),(.slice A5 s.sources.length c5),(.slice A6 s.rules.length c6),(.slice A7 s.excepts.length c7),(.slice A8 s.totals.length c8)] (0,0) _ rfl hE8 Tryz.underlying32 rfl rfl) rfl ?_
      rw [HF.out]
      have hfar:∀ i,i≠w.heap.size→(((((((((Y.setCell ⟨w.heap.size,0,none⟩ (.string s.title)).setCell ⟨w.heap.size,1,none⟩ (.slice A1 s.kinds.length c1)).setCell ⟨w.heap.size,2,none⟩ (.slice A2 s.members.length c2)).setCell ⟨w.heap.size,3,none⟩ (.slice A3 s.preds.length c3)).setCell ⟨w.heap.size,4,none⟩ (.slice A4 s.classes.length c4)).setCell ⟨w.heap.size,5,none⟩ (.slice A5 s.sources.length c5)).setCell ⟨w.heap.size,6,none⟩ (.slice A6 s.rules.length c6)).setCell ⟨w.heap.size,7,none⟩ (.slice A7 s.excepts.length c7)).setCell ⟨w.heap.size,8,none⟩ (.slice A8 s.totals.length c8)).heap[i]?=Y.heap[i]?:=fun i hi=>by
       iterate 9 rw [Below.heap_setCell _ ⟨w.heap.size,_,none⟩ _ i hi]
      have hsz:(((((((((Y.setCell ⟨w.heap.size,0,none⟩ (.string s.title)).setCell ⟨w.heap.size,1,none⟩ (.slice A1 s.kinds.length c1)).setCell ⟨w.heap.size,2,none⟩ (.slice A2 s.members.length c2)).setCell ⟨w.heap.size,3,none⟩ (.slice A3 s.preds.length c3)).setCell ⟨w.heap.size,4,none⟩ (.slice A4 s.classes.length c4)).setCell ⟨w.heap.size,5,none⟩ (.slice A5 s.sources.length c5)).setCell ⟨w.heap.size,6,none⟩ (.slice A6 s.rules.length c6)).setCell ⟨w.heap.size,7,none⟩ (.slice A7 s.excepts.length c7)).setCell ⟨w.heap.size,8,none⟩ (.slice A8 s.totals.length c8)).heap.size=Y.heap.size:=by iterate 9 rw [World.size_setCell]
      have hK0:=Sx.keepS_lt HRB.out HSBG.out HD7_0.out.keep HKY.out
      have h1:=Sx.StB.out (w1:=(((((((((Y.setCell ⟨w.heap.size,0,none⟩ (.string s.title)).setCell ⟨w.heap.size,1,none⟩ (.slice A1 s.kinds.length c1)).setCell ⟨w.heap.size,2,none⟩ (.slice A2 s.members.length c2)).setCell ⟨w.heap.size,3,none⟩ (.slice A3 s.preds.length c3)).setCell ⟨w.heap.size,4,none⟩ (.slice A4 s.classes.length c4)).setCell ⟨w.heap.size,5,none⟩ (.slice A5 s.sources.length c5)).setCell ⟨w.heap.size,6,none⟩ (.slice A6 s.rules.length c6)).setCell ⟨w.heap.size,7,none⟩ (.slice A7 s.excepts.length c7)).setCell ⟨w.heap.size,8,none⟩ (.slice A8 s.totals.length c8))) HSY.out (Nat.le_of_lt HSBG.out) (fun k hk _=>hfar k (by have:=HSBG.out;omega))
      have hB0:Below w.heap.size Y Y:=Below.mono (Below.refl _ Y) (by have:=hK0.size;omega)
      have hB1:Below w.heap.size Y (Y.setCell ⟨w.heap.size,0,none⟩ (.string s.title)):=hB0.setCell (p:=⟨w.heap.size,0,none⟩) (Nat.le_refl _) _
      have hB2:Below w.heap.size Y ((Y.setCell ⟨w.heap.size,0,none⟩ (.string s.title)).setCell ⟨w.heap.size,1,none⟩ (.slice A1 s.kinds.length c1)):=hB1.setCell (p:=⟨w.heap.size,1,none⟩) (Nat.le_refl _) _
      have hB3:Below w.heap.size Y (((Y.setCell ⟨w.heap.size,0,none⟩ (.string s.title)).setCell ⟨w.heap.size,1,none⟩ (.slice A1 s.kinds.length c1)).setCell ⟨w.heap.size,2,none⟩ (.slice A2 s.members.length c2)):=hB2.setCell (p:=⟨w.heap.size,2,none⟩) (Nat.le_refl _) _
      have hB4:Below w.heap.size Y ((((Y.setCell ⟨w.heap.size,0,none⟩ (.string s.title)).setCell ⟨w.heap.size,1,none⟩ (.slice A1 s.kinds.length c1)).setCell ⟨w.heap.size,2,none⟩ (.slice A2 s.members.length c2)).setCell ⟨w.heap.size,3,none⟩ (.slice A3 s.preds.length c3)):=hB3.setCell (p:=⟨w.heap.size,3,none⟩) (Nat.le_refl _) _
      have hB5:Below w.heap.size Y (((((Y.setCell ⟨w.heap.size,0,none⟩ (.string s.title)).setCell ⟨w.heap.size,1,none⟩ (.slice A1 s.kinds.length c1)).setCell ⟨w.heap.size,2,none⟩ (.slice A2 s.members.length c2)).setCell ⟨w.heap.size,3,none⟩ (.slice A3 s.preds.length c3)).setCell ⟨w.heap.size,4,none⟩ (.slice A4 s.classes.length c4)):=hB4.setCell (p:=⟨w.heap.size,4,none⟩) (Nat.le_refl _) _
      have hB6:Below w.heap.size Y ((((((Y.setCell ⟨w.heap.size,0,none⟩ (.string s.title)).setCell ⟨w.heap.size,1,none⟩ (.slice A1 s.kinds.length c1)).setCell ⟨w.heap.size,2,none⟩ (.slice A2 s.members.length c2)).setCell ⟨w.heap.size,3,none⟩ (.slice A3 s.preds.length c3)).setCell ⟨w.heap.size,4,none⟩ (.slice A4 s.classes.length c4)).setCell ⟨w.heap.size,5,none⟩ (.slice A5 s.sources.length c5)):=hB5.setCell (p:=⟨w.heap.size,5,none⟩) (Nat.le_refl _) _
      have hB7:Below w.heap.size Y (((((((Y.setCell ⟨w.heap.size,0,none⟩ (.string s.title)).setCell ⟨w.heap.size,1,none⟩ (.slice A1 s.kinds.length c1)).setCell ⟨w.heap.size,2,none⟩ (.slice A2 s.members.length c2)).setCell ⟨w.heap.size,3,none⟩ (.slice A3 s.preds.length c3)).setCell ⟨w.heap.size,4,none⟩ (.slice A4 s.classes.length c4)).setCell ⟨w.heap.size,5,none⟩ (.slice A5 s.sources.length c5)).setCell ⟨w.heap.size,6,none⟩ (.slice A6 s.rules.length c6)):=hB6.setCell (p:=⟨w.heap.size,6,none⟩) (Nat.le_refl _) _
      have hB8:Below w.heap.size Y ((((((((Y.setCell ⟨w.heap.size,0,none⟩ (.string s.title)).setCell ⟨w.heap.size,1,none⟩ (.slice A1 s.kinds.length c1)).setCell ⟨w.heap.size,2,none⟩ (.slice A2 s.members.length c2)).setCell ⟨w.heap.size,3,none⟩ (.slice A3 s.preds.length c3)).setCell ⟨w.heap.size,4,none⟩ (.slice A4 s.classes.length c4)).setCell ⟨w.heap.size,5,none⟩ (.slice A5 s.sources.length c5)).setCell ⟨w.heap.size,6,none⟩ (.slice A6 s.rules.length c6)).setCell ⟨w.heap.size,7,none⟩ (.slice A7 s.excepts.length c7)):=hB7.setCell (p:=⟨w.heap.size,7,none⟩) (Nat.le_refl _) _
      have hB9:Below w.heap.size Y (((((((((Y.setCell ⟨w.heap.size,0,none⟩ (.string s.title)).setCell ⟨w.heap.size,1,none⟩ (.slice A1 s.kinds.length c1)).setCell ⟨w.heap.size,2,none⟩ (.slice A2 s.members.length c2)).setCell ⟨w.heap.size,3,none⟩ (.slice A3 s.preds.length c3)).setCell ⟨w.heap.size,4,none⟩ (.slice A4 s.classes.length c4)).setCell ⟨w.heap.size,5,none⟩ (.slice A5 s.sources.length c5)).setCell ⟨w.heap.size,6,none⟩ (.slice A6 s.rules.length c6)).setCell ⟨w.heap.size,7,none⟩ (.slice A7 s.excepts.length c7)).setCell ⟨w.heap.size,8,none⟩ (.slice A8 s.totals.length c8)):=hB8.setCell (p:=⟨w.heap.size,8,none⟩) (Nat.le_refl _) _
      have h2:Rd (((((((((Y.setCell ⟨w.heap.size,0,none⟩ (.string s.title)).setCell ⟨w.heap.size,1,none⟩ (.slice A1 s.kinds.length c1)).setCell ⟨w.heap.size,2,none⟩ (.slice A2 s.members.length c2)).setCell ⟨w.heap.size,3,none⟩ (.slice A3 s.preds.length c3)).setCell ⟨w.heap.size,4,none⟩ (.slice A4 s.classes.length c4)).setCell ⟨w.heap.size,5,none⟩ (.slice A5 s.sources.length c5)).setCell ⟨w.heap.size,6,none⟩ (.slice A6 s.rules.length c6)).setCell ⟨w.heap.size,7,none⟩ (.slice A7 s.excepts.length c7)).setCell ⟨w.heap.size,8,none⟩ (.slice A8 s.totals.length c8)) V q:=rd_over HD7_0.out.h0 HRY.out hB9
      have h3:=keep_over hK0 hB9
      exact ⟨_,rfl,h1,h2,h3⟩
  ·rw [if_neg (by simpa using hk5)] at hF4
   have HF4:=Lib.hid hF4
   have e5:(t.k != 5)=true:=by simpa using hk5
   clear hF4 hnl hk5
   go_wp2_with (first | (go_at_call 40;refine (stop_calls V (p+1) 51 X5 HA5.out.rd).mono ?_;rintro e w2 ⟨rfl,hb⟩))
   refine ⟨rfl,?_⟩
   rw [HF4.out]
   exact ⟨rfl,HA5.out.keep.trans (Keep.of_below hb) (fun _ _ h=>h)⟩
def Sx.Caught (ob eb ab:Nat) (er a:Int) (w w':World):Prop :=
 Keep (fun k=>k=ob∨k=eb∨k=ab) w w'∧w'.heap[ob]?=some (.cells #[.string ⟨#[]⟩,.slice none 0 0,.slice none 0 0,.slice none 0 0,.slice none 0 0,.slice none 0 0,.slice none 0 0,.slice none 0 0,.slice none 0 0] 32 (0,0))∧w'.heap[eb]?=some (.cells #[.int .i64 er] 33 (0,0))∧w'.heap[ab]?=some (.cells #[.int .i64 a] 3 (0,0))
theorem catch_idle (ob eb ab:Nat) (w:World) :
  CallsD Tryz.prog 18 #[.pointer (some ⟨ob,0,none⟩),.pointer (some ⟨eb,0,none⟩),.pointer (some ⟨ab,0,none⟩)] .returning w fun e u' w'=>e=.returned (.tuple #[])∧u'=.returning∧w'=w:=by
 refine callsD_of_wpS Tryz.func18 rfl fun c₀ cs hu=>?_
 apply wpS_seq
 apply wpS_region
 simp [wpOpsS,go_sem,recoverD,hu,Tryz.ntmps18,Exit.thenS]
 apply wpS_seq
 apply wpS_region
 simp [wpOpsS,go_sem,Exit.thenS]
 refine wpS_cond (t:=false) (by simp [Act.eval]) ?_
 simp only [Bool.false_eq_true,if_false]
 refine wpS_of_wp (wp_skip ?_)
 cases c₀
 simp_all [bodyPostS,results,Tryz.results18]
def Sx.CQ (ob eb ab:Nat) (er a:Int) (w:World):Exit→Act→World→Prop
 | .normal,a',w'=>a'.defers=[]∧Sx.Caught ob eb ab er a w w'
 | _,_,_=>False
theorem catch_panicking (ob eb ab:Nat) (er a:Int) (h12:ob≠eb) (h13:ob≠ab) (h23:eb≠ab) (ev av:Int) (w:World)
  (ho:w.heap[ob]?=some (.cells #[.string ⟨#[]⟩,.slice none 0 0,.slice none 0 0,.slice none 0 0,.slice none 0 0,.slice none 0 0,.slice none 0 0,.slice none 0 0,.slice none 0 0] 32 (0,0))) (he:w.heap[eb]?=some (.cells #[.int .i64 ev] 33 (0,0))) (ha:w.heap[ab]?=some (.cells #[.int .i64 av] 3 (0,0))) :
  CallsD Tryz.prog 18 #[.pointer (some ⟨ob,0,none⟩),.pointer (some ⟨eb,0,none⟩),.pointer (some ⟨ab,0,none⟩)] (.panicking (flt er a)) w fun e u' w'=>e=.returned (.tuple #[])∧u'=.panicking [{ v:=.iface 58 (.agg #[.int .i64 er,.int .i64 a]),recovered:=true }]∧Sx.Caught ob eb ab er a w w':=by
 refine callsD_of_wpS Tryz.func18 rfl fun c₀ cs hu=>?_
 unfold flt at hu
 apply wpS_seq
 apply wpS_region
 simp [wpOpsS,go_sem,recoverD,hu,Tryz.ntmps18,Exit.thenS]
 have has:∀ W:World,(Instr.typeAssert (.iface 58 (.agg #[.int .i64 er,.int .i64 a])) 20 58 true).run Tryz.prog W=.ok (.tuple #[.agg #[.int .i64 er,.int .i64 a],.bool true]) W:=fun W=>by kernel_rfl
 have hne:∀ W:World,(Op.equal 20 (.iface 58 (.agg #[.int .i64 er,.int .i64 a])) .nilIface).run Tryz.prog W=.ok false W:=fun W=>by kernel_rfl
 have hne2:∀ W:World,(binOp .neq 20 (.iface 58 (.agg #[.int .i64 er,.int .i64 a])) .nilIface).run Tryz.prog W=.ok (.bool true) W:=fun W=>by kernel_rfl
 have hnot:∀ (x:Bool) (w:World),(Op.unary .not (.bool x)).run Tryz.prog w=.ok (.bool (!x)) w:=fun _ _=>rfl
 refine wpS_of_wp ?_
 refine Code.wp_mono (Q:=Sx.CQ ob eb ab er a w) (fun e a' w' h=>?_) ?_
 ·cases e with
  | normal =>
   obtain ⟨h2,h3⟩:=h
   cases c₀
   simp_all [bodyPostS,results,Tryz.results18]
  | _=>exact h.elim
 clear hu
 have ht:((#[Value.pointer (some ⟨ob,0,none⟩),.pointer (some ⟨eb,0,none⟩),.pointer (some ⟨ab,0,none⟩)]++((Array.replicate 19 undef).setIfInBounds 3 (Value.iface 58 (.agg #[.int .i64 er,.int .i64 a]))).setIfInBounds 0 (Value.iface 58 (.agg #[.int .i64 er,.int .i64 a]))):Array Value)=#[.pointer (some ⟨ob,0,none⟩),.pointer (some ⟨eb,0,none⟩),.pointer (some ⟨ab,0,none⟩),Value.iface 58 (.agg #[.int .i64 er,.int .i64 a]),undef,undef,Value.iface 58 (.agg #[.int .i64 er,.int .i64 a]),undef,undef,undef,undef,undef,undef,undef,undef,undef,undef,undef,undef,undef,undef,undef]:=by kernel_rfl
 rw [ht]
 clear ht
 have HO:=Lib.hid ho
 have HE:=Lib.hid he
 have HA:=Lib.hid ha
 clear ho he ha
 go_upto_region 3 with (fail)
 obtain ⟨X,hX⟩:∃ X,w.alloc (Obj.cells #[.int .i64 er,.int .i64 a] 58)=X:=⟨_,rfl⟩
 have hbX:Below w.heap.size w X:=by rw [← hX];exact (Below.refl _ w).alloc (Nat.le_refl _) _
 have hfX:X.heap[w.heap.size]?=some (.cells #[.int .i64 er,.int .i64 a] 58 (0,0)):=by rw [← hX];exact heap_alloc_new w _
 try rw [hX]
 clear hX
 have HXO:=Lib.hid ((hbX.block ob (blk_lt HO.out)).trans HO.out)
 have HXE:=Lib.hid ((hbX.block eb (blk_lt HE.out)).trans HE.out)
 have HXA:=Lib.hid ((hbX.block ab (blk_lt HA.out)).trans HA.out)
 have HLT:=Lib.hid (show ob<w.heap.size∧eb<w.heap.size∧ab<w.heap.size from ⟨blk_lt HO.out,blk_lt HE.out,blk_lt HA.out⟩)
 have HFX:=Lib.hid hfX
 have HBX:=Lib.hid hbX
 clear hbX hfX
 have n1:w.heap.size≠ob:=by have:=HLT.out.1;omega
 have n2:w.heap.size≠eb:=by have:=HLT.out.2.1;omega
 have n3:w.heap.size≠ab:=by have:=HLT.out.2.2;omega
 have f0:X.cell? ⟨w.heap.size,0,none⟩=some (.int .i64 er):=blk_cell HFX.out 0 rfl
 have f1:X.cell? ⟨w.heap.size,1,none⟩=some (.int .i64 a):=blk_cell HFX.out 1 rfl
 have o0:=blk_cell (v:=.string ⟨#[]⟩) HXO.out 0 rfl
 have p0:=blk_free HXO.out 0
 have o1:=blk_cell (v:=.slice none 0 0) HXO.out 1 rfl
 have p1:=blk_free HXO.out 1
 have o2:=blk_cell (v:=.slice none 0 0) HXO.out 2 rfl
 have p2:=blk_free HXO.out 2
 have o3:=blk_cell (v:=.slice none 0 0) HXO.out 3 rfl
 have p3:=blk_free HXO.out 3
 have o4:=blk_cell (v:=.slice none 0 0) HXO.out 4 rfl
 have p4:=blk_free HXO.out 4
 have o5:=blk_cell (v:=.slice none 0 0) HXO.out 5 rfl
 have p5:=blk_free HXO.out 5
 have o6:=blk_cell (v:=.slice none 0 0) HXO.out 6 rfl
 have p6:=blk_free HXO.out 6
 have o7:=blk_cell (v:=.slice none 0 0) HXO.out 7 rfl
 have p7:=blk_free HXO.out 7
 have o8:=blk_cell (v:=.slice none 0 0) HXO.out 8 rfl
 have p8:=blk_free HXO.out 8
 have q0:=blk_cell (v:=.int .i64 ev) HXE.out 0 rfl
 have q1:=blk_free HXE.out 0
 have r0:=blk_cell (v:=.int .i64 av) HXA.out 0 rfl
 have r1:=blk_free HXA.out 0
 go_upto_region 5 with (fail)
 have m1:ob≠w.heap.size:=Ne.symm n1
 have m2:eb≠w.heap.size:=Ne.symm n2
 have m3:ab≠w.heap.size:=Ne.symm n3
 have h21:eb≠ob:=Ne.symm h12
 have h31:ab≠ob:=Ne.symm h13
 have h32:ab≠eb:=Ne.symm h23
 go_region_held (fun w'=>w'.cell? ⟨w.heap.size,0,none⟩=some (.int .i64 er)∧w'.cell? ⟨w.heap.size,1,none⟩=some (.int .i64 a)) (go_keep) (fail)
 have hkX:Keep (fun k=>k=ob∨k=eb∨k=ab) w X:=Keep.of_below HBX.out
 have k0:=Keep.setCell (F:=fun k=>k=ob∨k=eb∨k=ab) hkX (p:=⟨ob,0,none⟩) (fun _=>.inl rfl) (.string ⟨#[]⟩)
 have k1:=Keep.setCell (F:=fun k=>k=ob∨k=eb∨k=ab) k0 (p:=⟨ob,1,none⟩) (fun _=>.inl rfl) (.slice none 0 0)
 have k2:=Keep.setCell (F:=fun k=>k=ob∨k=eb∨k=ab) k1 (p:=⟨ob,2,none⟩) (fun _=>.inl rfl) (.slice none 0 0)
 have k3:=Keep.setCell (F:=fun k=>k=ob∨k=eb∨k=ab) k2 (p:=⟨ob,3,none⟩) (fun _=>.inl rfl) (.slice none 0 0)
 have k4:=Keep.setCell (F:=fun k=>k=ob∨k=eb∨k=ab) k3 (p:=⟨ob,4,none⟩) (fun _=>.inl rfl) (.slice none 0 0)
 have k5:=Keep.setCell (F:=fun k=>k=ob∨k=eb∨k=ab) k4 (p:=⟨ob,5,none⟩) (fun _=>.inl rfl) (.slice none 0 0)
 have k6:=Keep.setCell (F:=fun k=>k=ob∨k=eb∨k=ab) k5 (p:=⟨ob,6,none⟩) (fun _=>.inl rfl) (.slice none 0 0)
 have k7:=Keep.setCell (F:=fun k=>k=ob∨k=eb∨k=ab) k6 (p:=⟨ob,7,none⟩) (fun _=>.inl rfl) (.slice none 0 0)
 have k8:=Keep.setCell (F:=fun k=>k=ob∨k=eb∨k=ab) k7 (p:=⟨ob,8,none⟩) (fun _=>.inl rfl) (.slice none 0 0)
 have k9:=Keep.setCell (F:=fun k=>k=ob∨k=eb∨k=ab) k8 (p:=⟨eb,0,none⟩) (fun _=>.inr (.inl rfl)) (.int .i64 er)
 have k10:=Keep.setCell (F:=fun k=>k=ob∨k=eb∨k=ab) k9 (p:=⟨ab,0,none⟩) (fun _=>.inr (.inr rfl)) (.int .i64 a)
 have b0:(X.setCell ⟨ob,0,none⟩ (.string ⟨#[]⟩)).heap[ob]?=some (.cells #[.string ⟨#[]⟩,.slice none 0 0,.slice none 0 0,.slice none 0 0,.slice none 0 0,.slice none 0 0,.slice none 0 0,.slice none 0 0,.slice none 0 0] 32 (0,0)):=heap_setCell_same HXO.out 0 _
 have b1:((X.setCell ⟨ob,0,none⟩ (.string ⟨#[]⟩)).setCell ⟨ob,1,none⟩ (.slice none 0 0)).heap[ob]?=some (.cells #[.string ⟨#[]⟩,.slice none 0 0,.slice none 0 0,.slice none 0 0,.slice none 0 0,.slice none 0 0,.slice none 0 0,.slice none 0 0,.slice none 0 0] 32 (0,0)):=heap_setCell_same b0 1 _
 have b2:(((X.setCell ⟨ob,0,none⟩ (.string ⟨#[]⟩)).setCell ⟨ob,1,none⟩ (.slice none 0 0)).setCell ⟨ob,2,none⟩ (.slice none 0 0)).heap[ob]?=some (.cells #[.string ⟨#[]⟩,.slice none 0 0,.slice none 0 0,.slice none 0 0,.slice none 0 0,.slice none 0 0,.slice none 0 0,.slice none 0 0,.slice none 0 0] 32 (0,0)):=heap_setCell_same b1 2 _
 have b3:((((X.setCell ⟨ob,0,none⟩ (.string ⟨#[]⟩)).setCell ⟨ob,1,none⟩ (.slice none 0 0)).setCell ⟨ob,2,none⟩ (.slice none 0 0)).setCell ⟨ob,3,none⟩ (.slice none 0 0)).heap[ob]?=some (.cells #[.string ⟨#[]⟩,.slice none 0 0,.slice none 0 0,.slice none 0 0,.slice none 0 0,.slice none 0 0,.slice none 0 0,.slice none 0 0,.slice none 0 0] 32 (0,0)):=heap_setCell_same b2 3 _
 have b4:(((((X.setCell ⟨ob,0,none⟩ (.string ⟨#[]⟩)).setCell ⟨ob,1,none⟩ (.slice none 0 0)).setCell ⟨ob,2,none⟩ (.slice none 0 0)).setCell ⟨ob,3,none⟩ (.slice none 0 0)).setCell ⟨ob,4,none⟩ (.slice none 0 0)).heap[ob]?=some (.cells #[.string ⟨#[]⟩,.slice none 0 0,.slice none 0 0,.slice none 0 0,.slice none 0 0,.slice none 0 0,.slice none 0 0,.slice none 0 0,.slice none 0 0] 32 (0,0)):=heap_setCell_same b3 4 _
 have b5:((((((X.setCell ⟨ob,0,none⟩ (.string ⟨#[]⟩)).setCell ⟨ob,1,none⟩ (.slice none 0 0)).setCell ⟨ob,2,none⟩ (.slice none 0 0)).setCell ⟨ob,3,none⟩ (.slice none 0 0)).setCell ⟨ob,4,none⟩ (.slice none 0 0)).setCell ⟨ob,5,none⟩ (.slice none 0 0)).heap[ob]?=some (.cells #[.string ⟨#[]⟩,.slice none 0 0,.slice none 0 0,.slice none 0 0,.slice none 0 0,.slice none 0 0,.slice none 0 0,.slice none 0 0,.slice none 0 0] 32 (0,0)):=heap_setCell_same b4 5 _
 have b6:(((((((X.setCell ⟨ob,0,none⟩ (.string ⟨#[]⟩)).setCell ⟨ob,1,none⟩ (.slice none 0 0)).setCell ⟨ob,2,none⟩ (.slice none 0 0)).setCell ⟨ob,3,none⟩ (.slice none 0 0)).setCell ⟨ob,4,none⟩ (.slice none 0 0)).setCell ⟨ob,5,none⟩ (.slice none 0 0)).setCell ⟨ob,6,none⟩ (.slice none 0 0)).heap[ob]?=some (.cells #[.string ⟨#[]⟩,.slice none 0 0,.slice none 0 0,.slice none 0 0,.slice none 0 0,.slice none 0 0,.slice none 0 0,.slice none 0 0,.slice none 0 0] 32 (0,0)):=heap_setCell_same b5 6 _
 have b7:((((((((X.setCell ⟨ob,0,none⟩ (.string ⟨#[]⟩)).setCell ⟨ob,1,none⟩ (.slice none 0 0)).setCell ⟨ob,2,none⟩ (.slice none 0 0)).setCell ⟨ob,3,none⟩ (.slice none 0 0)).setCell ⟨ob,4,none⟩ (.slice none 0 0)).setCell ⟨ob,5,none⟩ (.slice none 0 0)).setCell ⟨ob,6,none⟩ (.slice none 0 0)).setCell ⟨ob,7,none⟩ (.slice none 0 0)).heap[ob]?=some (.cells #[.string ⟨#[]⟩,.slice none 0 0,.slice none 0 0,.slice none 0 0,.slice none 0 0,.slice none 0 0,.slice none 0 0,.slice none 0 0,.slice none 0 0] 32 (0,0)):=heap_setCell_same b6 7 _
 have b8:(((((((((X.setCell ⟨ob,0,none⟩ (.string ⟨#[]⟩)).setCell ⟨ob,1,none⟩ (.slice none 0 0)).setCell ⟨ob,2,none⟩ (.slice none 0 0)).setCell ⟨ob,3,none⟩ (.slice none 0 0)).setCell ⟨ob,4,none⟩ (.slice none 0 0)).setCell ⟨ob,5,none⟩ (.slice none 0 0)).setCell ⟨ob,6,none⟩ (.slice none 0 0)).setCell ⟨ob,7,none⟩ (.slice none 0 0)).setCell ⟨ob,8,none⟩ (.slice none 0 0)).heap[ob]?=some (.cells #[.string ⟨#[]⟩,.slice none 0 0,.slice none 0 0,.slice none 0 0,.slice none 0 0,.slice none 0 0,.slice none 0 0,.slice none 0 0,.slice none 0 0] 32 (0,0)):=heap_setCell_same b7 8 _
 obtain ⟨Y,hY⟩:∃ Y,(((((((((X.setCell ⟨ob,0,none⟩ (.string ⟨#[]⟩)).setCell ⟨ob,1,none⟩ (.slice none 0 0)).setCell ⟨ob,2,none⟩ (.slice none 0 0)).setCell ⟨ob,3,none⟩ (.slice none 0 0)).setCell ⟨ob,4,none⟩ (.slice none 0 0)).setCell ⟨ob,5,none⟩ (.slice none 0 0)).setCell ⟨ob,6,none⟩ (.slice none 0 0)).setCell ⟨ob,7,none⟩ (.slice none 0 0)).setCell ⟨ob,8,none⟩ (.slice none 0 0))=Y:=⟨_,rfl⟩
 have hfar:∀ i,i≠ob→Y.heap[i]?=X.heap[i]?:=fun i hi=>by
  rw [← hY]
  iterate 9 rw [Below.heap_setCell _ ⟨ob,_,none⟩ _ i hi]
 rw [hY] at b8 k10
 rw [hY]
 have kd:=Keep.drew k10
 refine ⟨rfl,kd,?_,?_,?_⟩
 ·show ((Y.setCell ⟨eb,0,none⟩ _).setCell ⟨ab,0,none⟩ _).heap[ob]?=_
  rw [Below.heap_setCell _ ⟨ab,0,none⟩ _ ob h13,Below.heap_setCell _ ⟨eb,0,none⟩ _ ob h12];exact b8
 ·show ((Y.setCell ⟨eb,0,none⟩ _).setCell ⟨ab,0,none⟩ _).heap[eb]?=_
  rw [Below.heap_setCell _ ⟨ab,0,none⟩ _ eb h23]
  exact heap_setCell_same ((hfar eb h21).trans HXE.out) 0 _
 ·exact heap_setCell_same (((Below.heap_setCell Y ⟨eb,0,none⟩ _ ab h32).trans (hfar ab h31)).trans HXA.out) 0 _
def Sx.toks (l:List S48):List Tok:=l.map fun x=>⟨x.f0,x.f1,x.f2⟩
def Sx.noStt:Stt:=⟨⟨#[]⟩,[],[],[],[],[],[],[],[]⟩
def Sx.PrsIs (cal:ByteArray→Int × Int) (X:Lx) (n:Int) (st:Stt) (er a:Int):Prop :=
 (X.e≠0∧st=noStt∧er=X.e∧a=X.at_)∨(X.e=0∧∃ rb A c,match (⟨rb,A,c,toks X.l,n⟩:Env).statute cal 0 with
  | .ok s _=>st=s∧er=0∧a=n
  | .bad e b=>st=noStt∧er=e∧a=b)
theorem Sx.sttR_nil (base:Nat) (w:World):sttR base noStt (.agg #[.string ⟨#[]⟩,.slice none 0 0,.slice none 0 0,.slice none 0 0,.slice none 0 0,.slice none 0 0,.slice none 0 0,.slice none 0 0,.slice none 0 0]) w :=
 ⟨fun _=>0,⟨.slice none 0 0,.slice none 0 0,.slice none 0 0,.slice none 0 0,.slice none 0 0,.slice none 0 0,.slice none 0 0,.slice none 0 0⟩,rfl,Nat.zero_le _,Kd.R_nil _ _ _ _ _,Kd.R_nil _ _ _ _ _,Kd.R_nil _ _ _ _ _,Kd.R_nil _ _ _ _ _,Kd.R_nil _ _ _ _ _,Kd.R_nil _ _ _ _ _,Kd.R_nil _ _ _ _ _,Kd.R_nil _ _ _ _ _⟩
theorem Sx.parse_results (tmps:Array Value) (w:World) (ob eb ab:Nat) (cs:Array Value) (hcs:cs.size=9) (er a:Int) (h2:tmps.getD 2 undef=.pointer (some ⟨ob,0,none⟩)) (h3:tmps.getD 3 undef=.pointer (some ⟨eb,0,none⟩)) (h4:tmps.getD 4 undef=.pointer (some ⟨ab,0,none⟩))
  (ho:w.heap[ob]?=some (.cells cs 32 (0,0))) (he:w.heap[eb]?=some (.cells #[.int .i64 er] 33 (0,0))) (ha:w.heap[ab]?=some (.cells #[.int .i64 a] 3 (0,0))) :
  (results Tryz.f8 tmps).run Tryz.prog w=.ok (.tuple #[.agg cs,.int .i64 er,.int .i64 a]) w:=by
 have r1:=run_loadVar_row (P:=Tryz.prog) w ob 32 32 cs (0,0) _ ho Tryz.underlying32 rfl (by rw [hcs];kernel_rfl)
 have c1:=blk_cell (v:=.int .i64 er) he 0 rfl
 have c2:=blk_cell (v:=.int .i64 a) ha 0 rfl
 have r2:(loadVar 33 ⟨eb,0,none⟩).run Tryz.prog w=.ok (.int .i64 er) w:=by simp [go_sem,c1]
 have r3:(loadVar 3 ⟨ab,0,none⟩).run Tryz.prog w=.ok (.int .i64 a) w:=by simp [go_sem,c2]
 unfold results
 rw [show (Tryz.f8).results=[ResultVar.cell 2 32,.cell 3 33,.cell 4 3].toArray from rfl,List.mapM_toArray]
 generalize Tryz.prog=P at *
 simp only [Array.getD_eq_getD_getElem?] at h2 h3 h4
 simp [List.mapM_cons,h2,h3,h4,asAddr,r1,r2,r3]
theorem Sx.toks_next (l:List S48) (i:Nat):(toks l).getD i noTok=⟨(l.getD i z48).f0,(l.getD i z48).f1,(l.getD i z48).f2⟩:=by
 unfold toks
 rw [List.getD_eq_getElem?_getD,List.getD_eq_getElem?_getD,List.getElem?_map]
 cases l[i]? <;> rfl
theorem Sx.sttR_move {base b2:Nat} {st:Stt} {x:Value} {w w1:World} (h:sttR base st x w) (hb:b2≤base) (hm:∀ i,base≤i→w1.heap[i]?=w.heap[i]?):sttR b2 st x w1:=by
 obtain ⟨own,v,e,hl,g1,g2,g3,g4,g5,g6,g7,g8⟩:=h
 have hr:∀ {j:Nat} {α:Type} {d:Kd α} {e:Nat} {y:Value} {l:List α},Kd.R d e w base (fun k=>base≤k∧own k=j) y l→Kd.R d e w1 b2 (fun k=>b2≤k∧own k=j) y l:=fun hr =>
  Kd.R_lower (Kd.R_mono (Kd.R_step hr (fun i hi _=>hm i hi.1)) (fun k hk=>⟨Nat.le_trans hb hk.1,hk.2⟩)) hb
 exact ⟨own,v,e,hl,hr g1,hr g2,hr g3,hr g4,hr g5,hr g6,hr g7,hr g8⟩
theorem Sx.below_keep {B:Nat} {F:Nat→Prop} {w X Y:World} (h:Below B w X) (hB:B≤X.heap.size) (k:Keep F X Y) (hF:∀ i,F i→B≤i):Below B w Y :=
 ⟨k.os.trans h.os,k.tape.trans h.tape,k.output.trans h.output,Nat.le_trans h.size k.size,fun i hi=>(k.block i (Nat.lt_of_lt_of_le hi hB) (fun e=>absurd (hF i e) (Nat.not_le_of_lt hi))).trans (h.block i hi)⟩
theorem Sx.Rd.made {X1:World} {l:List S48} {A1:Option Addr} {c1 base:Nat} {ok:Nat→Prop} (E:Int) (hx:Kd.R k48 48 X1 base ok (.slice A1 l.length c1) l) (hl:l.length≤65536) (hz:∀ x∈l,x.f1.size≤65536) (hg:∃ m,X1.cell? ⟨0,0,none⟩=some (.int .i64 m)) :
  Rd (X1.alloc (.cells #[Value.slice A1 l.length c1,.int .i64 0,.int .i64 E] 62)) ⟨X1.heap.size,A1,c1,toks l,E⟩ 0:=by
 have hn:(toks l).length=l.length:=by unfold toks;rw [List.length_map]
 have hb:=heap_alloc_new X1 (.cells #[Value.slice A1 l.length c1,.int .i64 0,.int .i64 E] 62)
 have hbb:Below X1.heap.size X1 (X1.alloc (.cells #[Value.slice A1 l.length c1,.int .i64 0,.int .i64 E] 62)):=(Below.refl _ X1).alloc (Nat.le_refl _) _
 refine ⟨?_,?_,?_,blk_free hb 1,fun i hi=>?_,by rw [hn];exact hl,Nat.zero_le _,fun i=>?_,hg.imp fun m hm=>keep_cell hm hbb⟩
 ·show _=some (Value.slice A1 (toks l).length c1)
  rw [hn];exact blk_cell hb 0 rfl
 ·exact blk_cell hb 1 rfl
 ·exact blk_cell hb 2 rfl
 ·rw [show (⟨X1.heap.size,A1,c1,toks l,E⟩:Env).T.length=l.length from hn] at hi
  obtain ⟨A7,c7,e7,_,hC⟩:=Kd.R_reads hx
  injection e7 with e8 _ _
  subst e8
  obtain ⟨ad,ea,h0,h1,h2⟩:=at_T48 hC (i:Int) (by omega) (by omega)
  have hnx:(⟨X1.heap.size,A1,c1,toks l,E⟩:Env).next i=⟨(rd_T48 l i).f0,(rd_T48 l i).f1,(rd_T48 l i).f2⟩:=Sx.toks_next l i
  rw [hnx]
  refine ⟨ad,ea,fun e=>?_,keep_cell h0 hbb,keep_cell h1 hbb,keep_cell h2 hbb⟩
  have h3:=World.block_lt_of_cell? _ _ h0
  rw [Sx.add_block] at h3
  simp only at e
  omega
 ·show ((toks l).getD i noTok).t.size≤65536
  rw [Sx.toks_next]
  show (l.getD i z48).f1.size≤65536
  rw [List.getD_eq_getElem?_getD]
  cases h:l[i]? with
  | none=>exact Nat.zero_le _
  | some x=>exact hz x (List.mem_of_getElem? h)
theorem sparse_err (cal:ByteArray→Int × Int)
  (hC:∀ s w,Calls Tryz.prog 108 #[.string s] w fun e w'=>e=.returned (.tuple #[.int .i64 (cal s).1,.int .i64 (cal s).2])∧Below w.heap.size w w')
  (s:ByteArray) (X:Lx) (hL:∀ w,(∃ m,w.cell? ⟨0,0,none⟩=some (.int .i64 m))→Calls Tryz.prog 17 #[.string s] w fun e w'=>∃ x,e=.returned (.tuple #[x,.int .i64 X.e,.int .i64 X.at_])∧Kd.R k48 48 w' w.heap.size (fun k=>w.heap.size≤k) x X.l∧Below w.heap.size w w')
  (hz:X.l.length≤65536∧∀ x∈X.l,x.f1.size≤65536) (he:X.e≠0)
  (w:World) (hg:∃ m,w.cell? ⟨0,0,none⟩=some (.int .i64 m)) :
  Calls Tryz.prog 8 #[.string s] w fun e w'=>Below w.heap.size w w'∧∃ x er a st,e=.returned (.tuple #[x,.int .i64 er,.int .i64 a])∧sttR w.heap.size st x w'∧PrsIs cal X s.size st er a:=by
 have hmf:∀ (fn:Fn) (first cap:Array Value) (w:World),(Instr.makeFunc fn first cap).run Tryz.prog w=.ok (.func fn first cap) w:=fun _ _ _ _=>rfl
 obtain ⟨X0,hX0⟩:∃ X,((w.alloc (.cells #[.string ⟨#[]⟩,.slice none 0 0,.slice none 0 0,.slice none 0 0,.slice none 0 0,.slice none 0 0,.slice none 0 0,.slice none 0 0,.slice none 0 0] 32)).alloc (.cells #[.int .i64 0] 33)).alloc (.cells #[.int .i64 0] 3)=X:=⟨_,rfl⟩
 have hb0:Below w.heap.size w X0:=by rw [← hX0];exact (((Below.refl _ w).alloc (Nat.le_refl _) _).alloc (by rw [World.size_alloc];omega) _).alloc (by rw [World.size_alloc,World.size_alloc];omega) _
 obtain ⟨ob,hob⟩:∃ n,w.heap.size=n:=⟨_,rfl⟩
 obtain ⟨eb,heb⟩:∃ n,ob+1=n:=⟨_,rfl⟩
 obtain ⟨ab,hab⟩:∃ n,eb+1=n:=⟨_,rfl⟩
 have hs0:X0.heap.size=ab+1:=by rw [← hX0];simp only [World.size_alloc];omega
 have ho0:X0.heap[ob]?=some (.cells #[.string ⟨#[]⟩,.slice none 0 0,.slice none 0 0,.slice none 0 0,.slice none 0 0,.slice none 0 0,.slice none 0 0,.slice none 0 0,.slice none 0 0] 32 (0,0)):=by
  rw [← hX0,← hob]
  exact (((Below.refl _ _).alloc (Nat.le_refl _) _).block _ (by simp only [World.size_alloc];omega)).trans ((((Below.refl _ _).alloc (Nat.le_refl _) _).block _ (by simp only [World.size_alloc];omega)).trans (heap_alloc_new w _))
 have he0:X0.heap[eb]?=some (.cells #[.int .i64 0] 33 (0,0)):=by
  rw [← hX0,← heb,← hob]
  have h:=heap_alloc_new (w.alloc (.cells #[.string ⟨#[]⟩,.slice none 0 0,.slice none 0 0,.slice none 0 0,.slice none 0 0,.slice none 0 0,.slice none 0 0,.slice none 0 0,.slice none 0 0] 32)) (.cells #[.int .i64 0] 33)
  rw [World.size_alloc] at h
  exact (((Below.refl _ _).alloc (Nat.le_refl _) _).block _ (by simp only [World.size_alloc];omega)).trans h
 have ha0:X0.heap[ab]?=some (.cells #[.int .i64 0] 3 (0,0)):=by
  rw [← hX0,← hab,← heb,← hob]
  have h:=heap_alloc_new ((w.alloc (.cells #[.string ⟨#[]⟩,.slice none 0 0,.slice none 0 0,.slice none 0 0,.slice none 0 0,.slice none 0 0,.slice none 0 0,.slice none 0 0,.slice none 0 0] 32)).alloc (.cells #[.int .i64 0] 33)) (.cells #[.int .i64 0] 3)
  rw [World.size_alloc,World.size_alloc] at h
  exact h
 have hg0:∃ m,X0.cell? ⟨0,0,none⟩=some (.int .i64 m):=hg.imp fun m hm=>keep_cell hm hb0
 have HGW:=Lib.hid hg
 have HT:=Lib.hid (hL X0 hg0)
 have HC:=Lib.hid hC
 have HG:=Lib.hid hg0
 have HB0:=Lib.hid hb0
 have HO0:=Lib.hid ho0
 have HE0:=Lib.hid he0
 have HA0:=Lib.hid ha0
 have HS0:=Lib.hid hs0
 have HNN:=Lib.hid (show ob≠eb∧ob≠ab∧eb≠ab by omega)
 clear hb0 ho0 he0 ha0 hg0 hg hC hL hs0
 go_enter_defers Tryz.func8,Tryz.ntmps8
 go_upto_region 1 with (fail)
 try rw [hX0]
 clear hX0
 go_upto_region 2 with (first | (go_at_call 17;refine HT.out.mono ?_;rintro e w2 ⟨x,rfl,hx,hb2⟩;obtain ⟨A1,c1,rfl⟩:=Kd.R_slice hx;have HB2:=Lib.hid hb2;have HX2:=Lib.hid hx;have HE2:=Lib.hid ((hb2.block eb (by rw [HS0.out];omega)).trans HE0.out);have HA2:=Lib.hid ((hb2.block ab (by rw [HS0.out];omega)).trans HA0.out);have y1:=blk_cell (v:=.int .i64 0) HE2.out 0 rfl;have g1:=blk_free HE2.out 0;have y2:=blk_cell (v:=.int .i64 0) HA2.out 0 rfl;have g2:=blk_free HA2.out 0;have n1:eb≠ab:=HNN.out.2.2;have n2:ab≠eb:=Ne.symm HNN.out.2.2;clear hx hb2))
 clear y1 g1 y2 g2 n1 n2
 obtain ⟨X1,hX1⟩:∃ Y,(w2.setCell ⟨eb,0,none⟩ (.int .i64 X.e)).setCell ⟨ab,0,none⟩ (.int .i64 X.at_)=Y:=⟨_,rfl⟩
 have HS2:=Lib.hid (show ab+1≤w2.heap.size by have:=HB2.out.size;rw [HS0.out] at this;exact this)
 have HW:=Lib.hid (show w.heap.size=ob∧ob+1=eb∧eb+1=ab from ⟨hob,heb,hab⟩)
 have HB1:=Lib.hid (show Below w.heap.size w X1 by rw [← hX1];exact ((HB0.out.trans (HB2.out.mono HB0.out.size)).setCell (p:=⟨eb,0,none⟩) (by rw [hob];simp only;omega) _).setCell (p:=⟨ab,0,none⟩) (by rw [hob];simp only;omega) _)
 have HS1:=Lib.hid (show X1.heap.size=w2.heap.size by rw [← hX1];rw [World.size_setCell,World.size_setCell])
 have HO1:=Lib.hid (show X1.heap[ob]?=some (.cells #[.string ⟨#[]⟩,.slice none 0 0,.slice none 0 0,.slice none 0 0,.slice none 0 0,.slice none 0 0,.slice none 0 0,.slice none 0 0,.slice none 0 0] 32 (0,0)) by rw [← hX1,Below.heap_setCell _ ⟨ab,0,none⟩ _ ob HNN.out.2.1,Below.heap_setCell _ ⟨eb,0,none⟩ _ ob HNN.out.1];exact (HB2.out.block ob (by rw [HS0.out];omega)).trans HO0.out)
 have HE1:=Lib.hid (show X1.heap[eb]?=some (.cells #[.int .i64 X.e] 33 (0,0)) by rw [← hX1,Below.heap_setCell _ ⟨ab,0,none⟩ _ eb HNN.out.2.2];exact heap_setCell_same HE2.out 0 _)
 have HA1:=Lib.hid (show X1.heap[ab]?=some (.cells #[.int .i64 X.at_] 3 (0,0)) by rw [← hX1];exact heap_setCell_same ((Below.heap_setCell _ ⟨eb,0,none⟩ _ ab (Ne.symm HNN.out.2.2)).trans HA2.out) 0 _)
 have HX1:=Lib.hid (show Kd.R k48 48 X1 (ab+1) (fun k=>ab+1≤k) (.slice A1 X.l.length c1) X.l by rw [← hX1];have h:=HX2.out;rw [HS0.out] at h;exact Kd.R_far (Kd.R_far h (p:=⟨eb,0,none⟩) (fun k hk=>by simp only;omega) _) (p:=⟨ab,0,none⟩) (fun k hk=>by simp only;omega) _)
 try rw [hX1]
 clear hX1 HB2 HX2 HE2 HA2 HO0 HE0 HA0 HB0 HT
 have ye:=blk_cell (v:=.int .i64 X.e) HE1.out 0 rfl
 have fe:=blk_free HE1.out 0
 have ya:=blk_cell (v:=.int .i64 X.at_) HA1.out 0 rfl
 have fa:=blk_free HA1.out 0
 have ee:(X.e != 0)=true:=by simpa using he
 have o0:=blk_cell (v:=.string ⟨#[]⟩) HO1.out 0 rfl
 have p0:=blk_free HO1.out 0
 have o1:=blk_cell (v:=.slice none 0 0) HO1.out 1 rfl
 have p1:=blk_free HO1.out 1
 have o2:=blk_cell (v:=.slice none 0 0) HO1.out 2 rfl
 have p2:=blk_free HO1.out 2
 have o3:=blk_cell (v:=.slice none 0 0) HO1.out 3 rfl
 have p3:=blk_free HO1.out 3
 have o4:=blk_cell (v:=.slice none 0 0) HO1.out 4 rfl
 have p4:=blk_free HO1.out 4
 have o5:=blk_cell (v:=.slice none 0 0) HO1.out 5 rfl
 have p5:=blk_free HO1.out 5
 have o6:=blk_cell (v:=.slice none 0 0) HO1.out 6 rfl
 have p6:=blk_free HO1.out 6
 have o7:=blk_cell (v:=.slice none 0 0) HO1.out 7 rfl
 have p7:=blk_free HO1.out 7
 have o8:=blk_cell (v:=.slice none 0 0) HO1.out 8 rfl
 have p8:=blk_free HO1.out 8
 go_upto_region 3 with (fail)
 have h12:ob≠eb:=HNN.out.1
 have h13:ob≠ab:=HNN.out.2.1
 have h23:eb≠ab:=HNN.out.2.2
 have h21:eb≠ob:=Ne.symm h12
 have h31:ab≠ob:=Ne.symm h13
 have h32:ab≠eb:=Ne.symm h23
 have ks:∀ (W:World) (b:Nat) (u v:Value),W.cell? ⟨b,0,none⟩=some u→(W.setCell ⟨b,0,none⟩ v).cell? ⟨b,0,none⟩=some v:=fun W b u v h=>World.cell?_setCell_same _ _ _ h
 have kf:∀ (W:World) (b c j:Nat) (v:Value),b≠c→(W.setCell ⟨b,j,none⟩ v).cell? ⟨c,0,none⟩=W.cell? ⟨c,0,none⟩:=fun W b c j v h=>World.cell?_setCell_far _ _ _ _ h
 have kd:∀ (W:World) (c:Nat),W.drew.cell? ⟨c,0,none⟩=W.cell? ⟨c,0,none⟩:=fun W c=>rfl
 go_region_held3 (fun w'=>w'.cell? ⟨eb,0,none⟩=some (.int .i64 X.e)∧w'.cell? ⟨ab,0,none⟩=some (.int .i64 X.at_)) (first | go_keep | (go_split_ands;constructor <;> first | assumption | (rw [kd];assumption) | (exact ks _ _ _ _ (by assumption)) | (rw [kf _ _ _ _ _ h12];assumption) | (rw [kf _ _ _ _ _ h13];assumption) | (rw [kf _ _ _ _ _ h23];assumption) | (rw [kf _ _ _ _ _ h32];assumption) | (iterate 9 rw [kf _ _ _ _ _ h12]);assumption | (iterate 9 rw [kf _ _ _ _ _ h13]);assumption)) (fail)
 go_wp2_with fail
 have hW1:w.heap.size≤ob:=by have:=HW.out;omega
 have hW2:w.heap.size≤eb:=by have:=HW.out;omega
 have hW3:w.heap.size≤ab:=by have:=HW.out;omega
 have b0:(X1.setCell ⟨ob,0,none⟩ (.string ⟨#[]⟩)).heap[ob]?=some (.cells #[.string ⟨#[]⟩,.slice none 0 0,.slice none 0 0,.slice none 0 0,.slice none 0 0,.slice none 0 0,.slice none 0 0,.slice none 0 0,.slice none 0 0] 32 (0,0)):=heap_setCell_same HO1.out 0 _
 have bb0:Below w.heap.size w (X1.setCell ⟨ob,0,none⟩ (.string ⟨#[]⟩)):=Below.setCell HB1.out (p:=⟨ob,0,none⟩) hW1 _
 have b1:((X1.setCell ⟨ob,0,none⟩ (.string ⟨#[]⟩)).setCell ⟨ob,1,none⟩ (.slice none 0 0)).heap[ob]?=some (.cells #[.string ⟨#[]⟩,.slice none 0 0,.slice none 0 0,.slice none 0 0,.slice none 0 0,.slice none 0 0,.slice none 0 0,.slice none 0 0,.slice none 0 0] 32 (0,0)):=heap_setCell_same b0 1 _
 have bb1:Below w.heap.size w ((X1.setCell ⟨ob,0,none⟩ (.string ⟨#[]⟩)).setCell ⟨ob,1,none⟩ (.slice none 0 0)):=Below.setCell bb0 (p:=⟨ob,1,none⟩) hW1 _
 have b2:(((X1.setCell ⟨ob,0,none⟩ (.string ⟨#[]⟩)).setCell ⟨ob,1,none⟩ (.slice none 0 0)).setCell ⟨ob,2,none⟩ (.slice none 0 0)).heap[ob]?=some (.cells #[.string ⟨#[]⟩,.slice none 0 0,.slice none 0 0,.slice none 0 0,.slice none 0 0,.slice none 0 0,.slice none 0 0,.slice none 0 0,.slice none 0 0] 32 (0,0)):=heap_setCell_same b1 2 _
 have bb2:Below w.heap.size w (((X1.setCell ⟨ob,0,none⟩ (.string ⟨#[]⟩)).setCell ⟨ob,1,none⟩ (.slice none 0 0)).setCell ⟨ob,2,none⟩ (.slice none 0 0)):=Below.setCell bb1 (p:=⟨ob,2,none⟩) hW1 _
 have b3:((((X1.setCell ⟨ob,0,none⟩ (.string ⟨#[]⟩)).setCell ⟨ob,1,none⟩ (.slice none 0 0)).setCell ⟨ob,2,none⟩ (.slice none 0 0)).setCell ⟨ob,3,none⟩ (.slice none 0 0)).heap[ob]?=some (.cells #[.string ⟨#[]⟩,.slice none 0 0,.slice none 0 0,.slice none 0 0,.slice none 0 0,.slice none 0 0,.slice none 0 0,.slice none 0 0,.slice none 0 0] 32 (0,0)):=heap_setCell_same b2 3 _
 have bb3:Below w.heap.size w ((((X1.setCell ⟨ob,0,none⟩ (.string ⟨#[]⟩)).setCell ⟨ob,1,none⟩ (.slice none 0 0)).setCell ⟨ob,2,none⟩ (.slice none 0 0)).setCell ⟨ob,3,none⟩ (.slice none 0 0)):=Below.setCell bb2 (p:=⟨ob,3,none⟩) hW1 _
 have b4:(((((X1.setCell ⟨ob,0,none⟩ (.string ⟨#[]⟩)).setCell ⟨ob,1,none⟩ (.slice none 0 0)).setCell ⟨ob,2,none⟩ (.slice none 0 0)).setCell ⟨ob,3,none⟩ (.slice none 0 0)).setCell ⟨ob,4,none⟩ (.slice none 0 0)).heap[ob]?=some (.cells #[.string ⟨#[]⟩,.slice none 0 0,.slice none 0 0,.slice none 0 0,.slice none 0 0,.slice none 0 0,.slice none 0 0,.slice none 0 0,.slice none 0 0] 32 (0,0)):=heap_setCell_same b3 4 _
 have bb4:Below w.heap.size w (((((X1.setCell ⟨ob,0,none⟩ (.string ⟨#[]⟩)).setCell ⟨ob,1,none⟩ (.slice none 0 0)).setCell ⟨ob,2,none⟩ (.slice none 0 0)).setCell ⟨ob,3,none⟩ (.slice none 0 0)).setCell ⟨ob,4,none⟩ (.slice none 0 0)):=Below.setCell bb3 (p:=⟨ob,4,none⟩) hW1 _
 have b5:((((((X1.setCell ⟨ob,0,none⟩ (.string ⟨#[]⟩)).setCell ⟨ob,1,none⟩ (.slice none 0 0)).setCell ⟨ob,2,none⟩ (.slice none 0 0)).setCell ⟨ob,3,none⟩ (.slice none 0 0)).setCell ⟨ob,4,none⟩ (.slice none 0 0)).setCell ⟨ob,5,none⟩ (.slice none 0 0)).heap[ob]?=some (.cells #[.string ⟨#[]⟩,.slice none 0 0,.slice none 0 0,.slice none 0 0,.slice none 0 0,.slice none 0 0,.slice none 0 0,.slice none 0 0,.slice none 0 0] 32 (0,0)):=heap_setCell_same b4 5 _
 have bb5:Below w.heap.size w ((((((X1.setCell ⟨ob,0,none⟩ (.string ⟨#[]⟩)).setCell ⟨ob,1,none⟩ (.slice none 0 0)).setCell ⟨ob,2,none⟩ (.slice none 0 0)).setCell ⟨ob,3,none⟩ (.slice none 0 0)).setCell ⟨ob,4,none⟩ (.slice none 0 0)).setCell ⟨ob,5,none⟩ (.slice none 0 0)):=Below.setCell bb4 (p:=⟨ob,5,none⟩) hW1 _
 have b6:(((((((X1.setCell ⟨ob,0,none⟩ (.string ⟨#[]⟩)).setCell ⟨ob,1,none⟩ (.slice none 0 0)).setCell ⟨ob,2,none⟩ (.slice none 0 0)).setCell ⟨ob,3,none⟩ (.slice none 0 0)).setCell ⟨ob,4,none⟩ (.slice none 0 0)).setCell ⟨ob,5,none⟩ (.slice none 0 0)).setCell ⟨ob,6,none⟩ (.slice none 0 0)).heap[ob]?=some (.cells #[.string ⟨#[]⟩,.slice none 0 0,.slice none 0 0,.slice none 0 0,.slice none 0 0,.slice none 0 0,.slice none 0 0,.slice none 0 0,.slice none 0 0] 32 (0,0)):=heap_setCell_same b5 6 _
 have bb6:Below w.heap.size w (((((((X1.setCell ⟨ob,0,none⟩ (.string ⟨#[]⟩)).setCell ⟨ob,1,none⟩ (.slice none 0 0)).setCell ⟨ob,2,none⟩ (.slice none 0 0)).setCell ⟨ob,3,none⟩ (.slice none 0 0)).setCell ⟨ob,4,none⟩ (.slice none 0 0)).setCell ⟨ob,5,none⟩ (.slice none 0 0)).setCell ⟨ob,6,none⟩ (.slice none 0 0)):=Below.setCell bb5 (p:=⟨ob,6,none⟩) hW1 _
 have b7:((((((((X1.setCell ⟨ob,0,none⟩ (.string ⟨#[]⟩)).setCell ⟨ob,1,none⟩ (.slice none 0 0)).setCell ⟨ob,2,none⟩ (.slice none 0 0)).setCell ⟨ob,3,none⟩ (.slice none 0 0)).setCell ⟨ob,4,none⟩ (.slice none 0 0)).setCell ⟨ob,5,none⟩ (.slice none 0 0)).setCell ⟨ob,6,none⟩ (.slice none 0 0)).setCell ⟨ob,7,none⟩ (.slice none 0 0)).heap[ob]?=some (.cells #[.string ⟨#[]⟩,.slice none 0 0,.slice none 0 0,.slice none 0 0,.slice none 0 0,.slice none 0 0,.slice none 0 0,.slice none 0 0,.slice none 0 0] 32 (0,0)):=heap_setCell_same b6 7 _
 have bb7:Below w.heap.size w ((((((((X1.setCell ⟨ob,0,none⟩ (.string ⟨#[]⟩)).setCell ⟨ob,1,none⟩ (.slice none 0 0)).setCell ⟨ob,2,none⟩ (.slice none 0 0)).setCell ⟨ob,3,none⟩ (.slice none 0 0)).setCell ⟨ob,4,none⟩ (.slice none 0 0)).setCell ⟨ob,5,none⟩ (.slice none 0 0)).setCell ⟨ob,6,none⟩ (.slice none 0 0)).setCell ⟨ob,7,none⟩ (.slice none 0 0)):=Below.setCell bb6 (p:=⟨ob,7,none⟩) hW1 _
 have b8:(((((((((X1.setCell ⟨ob,0,none⟩ (.string ⟨#[]⟩)).setCell ⟨ob,1,none⟩ (.slice none 0 0)).setCell ⟨ob,2,none⟩ (.slice none 0 0)).setCell ⟨ob,3,none⟩ (.slice none 0 0)).setCell ⟨ob,4,none⟩ (.slice none 0 0)).setCell ⟨ob,5,none⟩ (.slice none 0 0)).setCell ⟨ob,6,none⟩ (.slice none 0 0)).setCell ⟨ob,7,none⟩ (.slice none 0 0)).setCell ⟨ob,8,none⟩ (.slice none 0 0)).heap[ob]?=some (.cells #[.string ⟨#[]⟩,.slice none 0 0,.slice none 0 0,.slice none 0 0,.slice none 0 0,.slice none 0 0,.slice none 0 0,.slice none 0 0,.slice none 0 0] 32 (0,0)):=heap_setCell_same b7 8 _
 have bb8:Below w.heap.size w (((((((((X1.setCell ⟨ob,0,none⟩ (.string ⟨#[]⟩)).setCell ⟨ob,1,none⟩ (.slice none 0 0)).setCell ⟨ob,2,none⟩ (.slice none 0 0)).setCell ⟨ob,3,none⟩ (.slice none 0 0)).setCell ⟨ob,4,none⟩ (.slice none 0 0)).setCell ⟨ob,5,none⟩ (.slice none 0 0)).setCell ⟨ob,6,none⟩ (.slice none 0 0)).setCell ⟨ob,7,none⟩ (.slice none 0 0)).setCell ⟨ob,8,none⟩ (.slice none 0 0)):=Below.setCell bb7 (p:=⟨ob,8,none⟩) hW1 _
 obtain ⟨Y,hY⟩:∃ Y,(((((((((X1.setCell ⟨ob,0,none⟩ (.string ⟨#[]⟩)).setCell ⟨ob,1,none⟩ (.slice none 0 0)).setCell ⟨ob,2,none⟩ (.slice none 0 0)).setCell ⟨ob,3,none⟩ (.slice none 0 0)).setCell ⟨ob,4,none⟩ (.slice none 0 0)).setCell ⟨ob,5,none⟩ (.slice none 0 0)).setCell ⟨ob,6,none⟩ (.slice none 0 0)).setCell ⟨ob,7,none⟩ (.slice none 0 0)).setCell ⟨ob,8,none⟩ (.slice none 0 0))=Y:=⟨_,rfl⟩
 have hfar:∀ i,i≠ob→Y.heap[i]?=X1.heap[i]?:=fun i hi=>by
  rw [← hY]
  iterate 9 rw [Below.heap_setCell _ ⟨ob,_,none⟩ _ i hi]
 rw [hY] at b8 bb8
 rw [hY]
 clear hY
 have fo:((Y.setCell ⟨eb,0,none⟩ (.int .i64 X.e)).setCell ⟨ab,0,none⟩ (.int .i64 X.at_)).heap[ob]?=some (.cells #[.string ⟨#[]⟩,.slice none 0 0,.slice none 0 0,.slice none 0 0,.slice none 0 0,.slice none 0 0,.slice none 0 0,.slice none 0 0,.slice none 0 0] 32 (0,0)):=by
  rw [Below.heap_setCell _ ⟨ab,0,none⟩ _ ob h13,Below.heap_setCell _ ⟨eb,0,none⟩ _ ob h12];exact b8
 have fe9:((Y.setCell ⟨eb,0,none⟩ (.int .i64 X.e)).setCell ⟨ab,0,none⟩ (.int .i64 X.at_)).heap[eb]?=some (.cells #[.int .i64 X.e] 33 (0,0)):=by
  rw [Below.heap_setCell _ ⟨ab,0,none⟩ _ eb h23]
  exact heap_setCell_same ((hfar eb h21).trans HE1.out) 0 _
 have fa9:((Y.setCell ⟨eb,0,none⟩ (.int .i64 X.e)).setCell ⟨ab,0,none⟩ (.int .i64 X.at_)).heap[ab]?=some (.cells #[.int .i64 X.at_] 3 (0,0)) :=
  heap_setCell_same (((Below.heap_setCell Y ⟨eb,0,none⟩ _ ab h32).trans (hfar ab h31)).trans HA1.out) 0 _
 have hBf:Below w.heap.size w ((Y.setCell ⟨eb,0,none⟩ (.int .i64 X.e)).setCell ⟨ab,0,none⟩ (.int .i64 X.at_)):=(bb8.setCell (p:=⟨eb,0,none⟩) hW2 _).setCell (p:=⟨ab,0,none⟩) hW3 _
 exact ⟨_,Sx.parse_results _ _ ob eb ab #[.string ⟨#[]⟩,.slice none 0 0,.slice none 0 0,.slice none 0 0,.slice none 0 0,.slice none 0 0,.slice none 0 0,.slice none 0 0,.slice none 0 0] rfl X.e X.at_ rfl rfl rfl fo fe9 fa9,hBf.drew,_,_,_,noStt,rfl,Sx.sttR_nil _ _,.inl ⟨he,rfl,rfl,rfl⟩⟩
theorem sparse_ok (cal:ByteArray→Int × Int)
  (hC:∀ s w,Calls Tryz.prog 108 #[.string s] w fun e w'=>e=.returned (.tuple #[.int .i64 (cal s).1,.int .i64 (cal s).2])∧Below w.heap.size w w')
  (s:ByteArray) (X:Lx) (hL:∀ w,(∃ m,w.cell? ⟨0,0,none⟩=some (.int .i64 m))→Calls Tryz.prog 17 #[.string s] w fun e w'=>∃ x,e=.returned (.tuple #[x,.int .i64 X.e,.int .i64 X.at_])∧Kd.R k48 48 w' w.heap.size (fun k=>w.heap.size≤k) x X.l∧Below w.heap.size w w')
  (hz:X.l.length≤65536∧∀ x∈X.l,x.f1.size≤65536) (he:X.e=0)
  (w:World) (hg:∃ m,w.cell? ⟨0,0,none⟩=some (.int .i64 m)) :
  Calls Tryz.prog 8 #[.string s] w fun e w'=>Below w.heap.size w w'∧∃ x er a st,e=.returned (.tuple #[x,.int .i64 er,.int .i64 a])∧sttR w.heap.size st x w'∧PrsIs cal X s.size st er a:=by
 have HEZ:=Lib.hid he
 clear he
 have hmf:∀ (fn:Fn) (first cap:Array Value) (w:World),(Instr.makeFunc fn first cap).run Tryz.prog w=.ok (.func fn first cap) w:=fun _ _ _ _=>rfl
 obtain ⟨X0,hX0⟩:∃ X,((w.alloc (.cells #[.string ⟨#[]⟩,.slice none 0 0,.slice none 0 0,.slice none 0 0,.slice none 0 0,.slice none 0 0,.slice none 0 0,.slice none 0 0,.slice none 0 0] 32)).alloc (.cells #[.int .i64 0] 33)).alloc (.cells #[.int .i64 0] 3)=X:=⟨_,rfl⟩
 have hb0:Below w.heap.size w X0:=by rw [← hX0];exact (((Below.refl _ w).alloc (Nat.le_refl _) _).alloc (by rw [World.size_alloc];omega) _).alloc (by rw [World.size_alloc,World.size_alloc];omega) _
 obtain ⟨ob,hob⟩:∃ n,w.heap.size=n:=⟨_,rfl⟩
 obtain ⟨eb,heb⟩:∃ n,ob+1=n:=⟨_,rfl⟩
 obtain ⟨ab,hab⟩:∃ n,eb+1=n:=⟨_,rfl⟩
 have hs0:X0.heap.size=ab+1:=by rw [← hX0];simp only [World.size_alloc];omega
 have ho0:X0.heap[ob]?=some (.cells #[.string ⟨#[]⟩,.slice none 0 0,.slice none 0 0,.slice none 0 0,.slice none 0 0,.slice none 0 0,.slice none 0 0,.slice none 0 0,.slice none 0 0] 32 (0,0)):=by
  rw [← hX0,← hob]
  exact (((Below.refl _ _).alloc (Nat.le_refl _) _).block _ (by simp only [World.size_alloc];omega)).trans ((((Below.refl _ _).alloc (Nat.le_refl _) _).block _ (by simp only [World.size_alloc];omega)).trans (heap_alloc_new w _))
 have he0:X0.heap[eb]?=some (.cells #[.int .i64 0] 33 (0,0)):=by
  rw [← hX0,← heb,← hob]
  have h:=heap_alloc_new (w.alloc (.cells #[.string ⟨#[]⟩,.slice none 0 0,.slice none 0 0,.slice none 0 0,.slice none 0 0,.slice none 0 0,.slice none 0 0,.slice none 0 0,.slice none 0 0] 32)) (.cells #[.int .i64 0] 33)
  rw [World.size_alloc] at h
  exact (((Below.refl _ _).alloc (Nat.le_refl _) _).block _ (by simp only [World.size_alloc];omega)).trans h
 have ha0:X0.heap[ab]?=some (.cells #[.int .i64 0] 3 (0,0)):=by
  rw [← hX0,← hab,← heb,← hob]
  have h:=heap_alloc_new ((w.alloc (.cells #[.string ⟨#[]⟩,.slice none 0 0,.slice none 0 0,.slice none 0 0,.slice none 0 0,.slice none 0 0,.slice none 0 0,.slice none 0 0,.slice none 0 0] 32)).alloc (.cells #[.int .i64 0] 33)) (.cells #[.int .i64 0] 3)
  rw [World.size_alloc,World.size_alloc] at h
  exact h
 have hg0:∃ m,X0.cell? ⟨0,0,none⟩=some (.int .i64 m):=hg.imp fun m hm=>keep_cell hm hb0
 have HGW:=Lib.hid hg
 have HT:=Lib.hid (hL X0 hg0)
 have HC:=Lib.hid hC
 have HG:=Lib.hid hg0
 have HB0:=Lib.hid hb0
 have HO0:=Lib.hid ho0
 have HE0:=Lib.hid he0
 have HA0:=Lib.hid ha0
 have HS0:=Lib.hid hs0
 have HNN:=Lib.hid (show ob≠eb∧ob≠ab∧eb≠ab by omega)
 clear hb0 ho0 he0 ha0 hg0 hg hC hL hs0
 go_enter_defers Tryz.func8,Tryz.ntmps8
 go_upto_region 1 with (fail)
 try rw [hX0]
 clear hX0
 go_upto_region 2 with (first | (go_at_call 17;refine HT.out.mono ?_;rintro e w2 ⟨x,rfl,hx,hb2⟩;obtain ⟨A1,c1,rfl⟩:=Kd.R_slice hx;have HB2:=Lib.hid hb2;have HX2:=Lib.hid hx;have HE2:=Lib.hid ((hb2.block eb (by rw [HS0.out];omega)).trans HE0.out);have HA2:=Lib.hid ((hb2.block ab (by rw [HS0.out];omega)).trans HA0.out);have y1:=blk_cell (v:=.int .i64 0) HE2.out 0 rfl;have g1:=blk_free HE2.out 0;have y2:=blk_cell (v:=.int .i64 0) HA2.out 0 rfl;have g2:=blk_free HA2.out 0;have n1:eb≠ab:=HNN.out.2.2;have n2:ab≠eb:=Ne.symm HNN.out.2.2;clear hx hb2))
 clear y1 g1 y2 g2 n1 n2
 obtain ⟨X1,hX1⟩:∃ Y,(w2.setCell ⟨eb,0,none⟩ (.int .i64 X.e)).setCell ⟨ab,0,none⟩ (.int .i64 X.at_)=Y:=⟨_,rfl⟩
 have HS2:=Lib.hid (show ab+1≤w2.heap.size by have:=HB2.out.size;rw [HS0.out] at this;exact this)
 have HW:=Lib.hid (show w.heap.size=ob∧ob+1=eb∧eb+1=ab from ⟨hob,heb,hab⟩)
 have HB1:=Lib.hid (show Below w.heap.size w X1 by rw [← hX1];exact ((HB0.out.trans (HB2.out.mono HB0.out.size)).setCell (p:=⟨eb,0,none⟩) (by rw [hob];simp only;omega) _).setCell (p:=⟨ab,0,none⟩) (by rw [hob];simp only;omega) _)
 have HS1:=Lib.hid (show X1.heap.size=w2.heap.size by rw [← hX1];rw [World.size_setCell,World.size_setCell])
 have HO1:=Lib.hid (show X1.heap[ob]?=some (.cells #[.string ⟨#[]⟩,.slice none 0 0,.slice none 0 0,.slice none 0 0,.slice none 0 0,.slice none 0 0,.slice none 0 0,.slice none 0 0,.slice none 0 0] 32 (0,0)) by rw [← hX1,Below.heap_setCell _ ⟨ab,0,none⟩ _ ob HNN.out.2.1,Below.heap_setCell _ ⟨eb,0,none⟩ _ ob HNN.out.1];exact (HB2.out.block ob (by rw [HS0.out];omega)).trans HO0.out)
 have HE1:=Lib.hid (show X1.heap[eb]?=some (.cells #[.int .i64 X.e] 33 (0,0)) by rw [← hX1,Below.heap_setCell _ ⟨ab,0,none⟩ _ eb HNN.out.2.2];exact heap_setCell_same HE2.out 0 _)
 have HA1:=Lib.hid (show X1.heap[ab]?=some (.cells #[.int .i64 X.at_] 3 (0,0)) by rw [← hX1];exact heap_setCell_same ((Below.heap_setCell _ ⟨eb,0,none⟩ _ ab (Ne.symm HNN.out.2.2)).trans HA2.out) 0 _)
 have HX1:=Lib.hid (show Kd.R k48 48 X1 (ab+1) (fun k=>ab+1≤k) (.slice A1 X.l.length c1) X.l by rw [← hX1];have h:=HX2.out;rw [HS0.out] at h;exact Kd.R_far (Kd.R_far h (p:=⟨eb,0,none⟩) (fun k hk=>by simp only;omega) _) (p:=⟨ab,0,none⟩) (fun k hk=>by simp only;omega) _)
 try rw [hX1]
 clear hX1 HB2 HX2 HE2 HA2 HO0 HE0 HA0 HB0 HT
 have ye:=blk_cell (v:=.int .i64 X.e) HE1.out 0 rfl
 have fe:=blk_free HE1.out 0
 have ya:=blk_cell (v:=.int .i64 X.at_) HA1.out 0 rfl
 have fa:=blk_free HA1.out 0
 have ee:(X.e != 0)=false:=by rw [HEZ.out];rfl
 clear fe fa
 go_upto_region 6 with (fail)
 have HRD:=Lib.hid (Sx.Rd.made (s.size:Int) HX1.out hz.1 hz.2 (HGW.out.imp fun m hm=>keep_cell hm HB1.out))
 have HBA:=Lib.hid ((Below.refl _ X1).alloc (Nat.le_refl _) (.cells #[.slice A1 X.l.length c1,.int .i64 0,.int .i64 (s.size:Int)] 62))
 have HLB:=Lib.hid (show ob<X1.heap.size∧eb<X1.heap.size∧ab<X1.heap.size from ⟨blk_lt HO1.out,blk_lt HE1.out,blk_lt HA1.out⟩)
 obtain ⟨rb,hrb⟩:∃ n,X1.heap.size=n:=⟨_,rfl⟩
 obtain ⟨X2,hX2⟩:∃ Y,X1.alloc (.cells #[.slice A1 X.l.length c1,.int .i64 0,.int .i64 (s.size:Int)] 62)=Y:=⟨_,rfl⟩
 rw [hX2,hrb] at HRD
 rw [hX2] at HBA
 have HB2:=Lib.hid (show Below w.heap.size w X2 from HB1.out.trans (HBA.out.mono HB1.out.size))
 have HRB:=Lib.hid (show ob<rb∧eb<rb∧ab<rb by rw [← hrb];exact HLB.out)
 have HO2:=Lib.hid ((HBA.out.block ob HLB.out.1).trans HO1.out)
 have HE2:=Lib.hid ((HBA.out.block eb HLB.out.2.1).trans HE1.out)
 have HA2:=Lib.hid ((HBA.out.block ab HLB.out.2.2).trans HA1.out)
 have HL2:=Lib.hid (show ob<X2.heap.size∧eb<X2.heap.size∧ab<X2.heap.size from ⟨blk_lt HO2.out,blk_lt HE2.out,blk_lt HA2.out⟩)
 try rw [hX2]
 try rw [hrb]
 clear hX2 hrb ye ya
 have HST:=Lib.hid (statute_calls ⟨rb,A1,c1,toks X.l,(s.size:Int)⟩ cal HC.out 0 X2 HRD.out)
 have HP:=Lib.hid (show ∀ st er a,(match (⟨rb,A1,c1,toks X.l,(s.size:Int)⟩:Env).statute cal 0 with
  | .ok s2 _=>st=s2∧er=0∧a=(s.size:Int)
  | .bad e b=>st=noStt∧er=e∧a=b)→PrsIs cal X s.size st er a from fun st er a h=>.inr ⟨HEZ.out,rb,A1,c1,h⟩)
 generalize hrs:(⟨rb,A1,c1,toks X.l,(s.size:Int)⟩:Env).statute cal 0=rs at HST HP
 clear hrs
 have h12:ob≠eb:=HNN.out.1
 have h13:ob≠ab:=HNN.out.2.1
 have h23:eb≠ab:=HNN.out.2.2
 have h21:eb≠ob:=Ne.symm h12
 have h31:ab≠ob:=Ne.symm h13
 have h32:ab≠eb:=Ne.symm h23
 cases rs with
 | bad er a =>
  go_wp2_with (first | (go_at_call 19;refine HST.out.mono ?_;rintro e w5 ⟨rfl,hk5⟩))
  have hk:∀ i,i<X2.heap.size→i≠rb→w5.heap[i]?=X2.heap[i]?:=fun i hi hn=>hk5.block i hi (fun e=>hn e)
  have HO5:=(hk ob HL2.out.1 (Nat.ne_of_lt HRB.out.1)).trans HO2.out
  have HE5:=(hk eb HL2.out.2.1 (Nat.ne_of_lt HRB.out.2.1)).trans HE2.out
  have HA5:=(hk ab HL2.out.2.2 (Nat.ne_of_lt HRB.out.2.2)).trans HA2.out
  refine leaves_cons (f:=18) (args:=#[.pointer (some ⟨ob,0,none⟩),.pointer (some ⟨eb,0,none⟩),.pointer (some ⟨ab,0,none⟩)]) (by simp) (by simp [go_sem]) ?_
  refine (catch_panicking ob eb ab er a h12 h13 h23 X.e X.at_ w5 HO5 HE5 HA5).mono ?_
  rintro e u' w6 ⟨rfl,rfl,hk6,ho6,he6,ha6⟩
  refine ⟨_,Sx.parse_results _ _ ob eb ab #[.string ⟨#[]⟩,.slice none 0 0,.slice none 0 0,.slice none 0 0,.slice none 0 0,.slice none 0 0,.slice none 0 0,.slice none 0 0,.slice none 0 0] rfl er a rfl rfl rfl ho6 he6 ha6,?_⟩
  refine ⟨Sx.below_keep (Sx.below_keep HB2.out HB2.out.size hk5 (fun i e=>by unfold ours at e;have:=HRB.out;have:=HW.out;simp only at e;omega)) (Nat.le_trans HB2.out.size hk5.size) hk6 (fun i e=>by have:=HW.out;omega),_,er,a,noStt,rfl,Sx.sttR_nil _ _,HP.out noStt er a ⟨rfl,rfl,rfl⟩⟩
 | ok st q =>
  go_wp2_with (first | (go_at_call 19;refine HST.out.mono ?_;rintro e w5 ⟨x,rfl,hx5,hr5,hk5⟩;obtain ⟨own,⟨v1,v2,v3,v4,v5,v6,v7,v8⟩,rfl,hlm,g1,g2,g3,g4,g5,g6,g7,g8⟩:=hx5;have ev1:=Kd.R_slice g1;dsimp only at ev1;obtain ⟨B1,d1,rfl⟩:=ev1;have ev2:=Kd.R_slice g2;dsimp only at ev2;obtain ⟨B2,d2,rfl⟩:=ev2;have ev3:=Kd.R_slice g3;dsimp only at ev3;obtain ⟨B3,d3,rfl⟩:=ev3;have ev4:=Kd.R_slice g4;dsimp only at ev4;obtain ⟨B4,d4,rfl⟩:=ev4;have ev5:=Kd.R_slice g5;dsimp only at ev5;obtain ⟨B5,d5,rfl⟩:=ev5;have ev6:=Kd.R_slice g6;dsimp only at ev6;obtain ⟨B6,d6,rfl⟩:=ev6;have ev7:=Kd.R_slice g7;dsimp only at ev7;obtain ⟨B7,d7,rfl⟩:=ev7;have ev8:=Kd.R_slice g8;dsimp only at ev8;obtain ⟨B8,d8,rfl⟩:=ev8;have hk:∀ i,i<X2.heap.size→i≠rb→w5.heap[i]?=X2.heap[i]?:=fun i hi hn=>hk5.block i hi (fun e=>hn e);have HO5:=Lib.hid ((hk ob HL2.out.1 (Nat.ne_of_lt HRB.out.1)).trans HO2.out);have HE5:=Lib.hid ((hk eb HL2.out.2.1 (Nat.ne_of_lt HRB.out.2.1)).trans HE2.out);have HA5:=Lib.hid ((hk ab HL2.out.2.2 (Nat.ne_of_lt HRB.out.2.2)).trans HA2.out);have o0:=blk_cell (v:=.string ⟨#[]⟩) HO5.out 0 rfl;have p0:=blk_free HO5.out 0;have o1:=blk_cell (v:=.slice none 0 0) HO5.out 1 rfl;have p1:=blk_free HO5.out 1;have o2:=blk_cell (v:=.slice none 0 0) HO5.out 2 rfl;have p2:=blk_free HO5.out 2;have o3:=blk_cell (v:=.slice none 0 0) HO5.out 3 rfl;have p3:=blk_free HO5.out 3;have o4:=blk_cell (v:=.slice none 0 0) HO5.out 4 rfl;have p4:=blk_free HO5.out 4;have o5:=blk_cell (v:=.slice none 0 0) HO5.out 5 rfl;have p5:=blk_free HO5.out 5;have o6:=blk_cell (v:=.slice none 0 0) HO5.out 6 rfl;have p6:=blk_free HO5.out 6;have o7:=blk_cell (v:=.slice none 0 0) HO5.out 7 rfl;have p7:=blk_free HO5.out 7;have o8:=blk_cell (v:=.slice none 0 0) HO5.out 8 rfl;have p8:=blk_free HO5.out 8;have q0:=blk_cell (v:=.int .i64 X.e) HE5.out 0 rfl;have q1:=blk_free HE5.out 0;have q2:=blk_cell (v:=.int .i64 X.at_) HA5.out 0 rfl;have q3:=blk_free HA5.out 0;have HK5:=Lib.hid hk5;have HG5:=Lib.hid (show sttR X2.heap.size st _ w5 from ⟨own,⟨.slice B1 st.kinds.length d1,.slice B2 st.members.length d2,.slice B3 st.preds.length d3,.slice B4 st.classes.length d4,.slice B5 st.sources.length d5,.slice B6 st.rules.length d6,.slice B7 st.excepts.length d7,.slice B8 st.totals.length d8⟩,rfl,hlm,g1,g2,g3,g4,g5,g6,g7,g8⟩);clear hk hk5 g1 g2 g3 g4 g5 g6 g7 g8))
  clear o0 p0 o1 p1 o2 p2 o3 p3 o4 p4 o5 p5 o6 p6 o7 p7 o8 p8 q0 q1 q2 q3
  have HB5:=Lib.hid (Sx.below_keep HB2.out HB2.out.size HK5.out (fun i e=>by unfold ours at e;have:=HRB.out;have:=HW.out;simp only at e;omega))
  have hW1:w.heap.size≤ob:=by have:=HW.out;omega
  have hW2:w.heap.size≤eb:=by have:=HW.out;omega
  have hW3:w.heap.size≤ab:=by have:=HW.out;omega
  have b0:(w5.setCell ⟨ob,0,none⟩ (.string st.title)).heap[ob]?=some (.cells #[.string st.title,.slice none 0 0,.slice none 0 0,.slice none 0 0,.slice none 0 0,.slice none 0 0,.slice none 0 0,.slice none 0 0,.slice none 0 0] 32 (0,0)):=heap_setCell_same HO5.out 0 _
  have bb0:Below w.heap.size w (w5.setCell ⟨ob,0,none⟩ (.string st.title)):=Below.setCell HB5.out (p:=⟨ob,0,none⟩) hW1 _
  have b1:((w5.setCell ⟨ob,0,none⟩ (.string st.title)).setCell ⟨ob,1,none⟩ (.slice B1 st.kinds.length d1)).heap[ob]?=some (.cells #[.string st.title,.slice B1 st.kinds.length d1,.slice none 0 0,.slice none 0 0,.slice none 0 0,.slice none 0 0,.slice none 0 0,.slice none 0 0,.slice none 0 0] 32 (0,0)):=heap_setCell_same b0 1 _
  have bb1:Below w.heap.size w ((w5.setCell ⟨ob,0,none⟩ (.string st.title)).setCell ⟨ob,1,none⟩ (.slice B1 st.kinds.length d1)):=Below.setCell bb0 (p:=⟨ob,1,none⟩) hW1 _
  have b2:(((w5.setCell ⟨ob,0,none⟩ (.string st.title)).setCell ⟨ob,1,none⟩ (.slice B1 st.kinds.length d1)).setCell ⟨ob,2,none⟩ (.slice B2 st.members.length d2)).heap[ob]?=some (.cells #[.string st.title,.slice B1 st.kinds.length d1,.slice B2 st.members.length d2,.slice none 0 0,.slice none 0 0,.slice none 0 0,.slice none 0 0,.slice none 0 0,.slice none 0 0] 32 (0,0)):=heap_setCell_same b1 2 _
  have bb2:Below w.heap.size w (((w5.setCell ⟨ob,0,none⟩ (.string st.title)).setCell ⟨ob,1,none⟩ (.slice B1 st.kinds.length d1)).setCell ⟨ob,2,none⟩ (.slice B2 st.members.length d2)):=Below.setCell bb1 (p:=⟨ob,2,none⟩) hW1 _
  have b3:((((w5.setCell ⟨ob,0,none⟩ (.string st.title)).setCell ⟨ob,1,none⟩ (.slice B1 st.kinds.length d1)).setCell ⟨ob,2,none⟩ (.slice B2 st.members.length d2)).setCell ⟨ob,3,none⟩ (.slice B3 st.preds.length d3)).heap[ob]?=some (.cells #[.string st.title,.slice B1 st.kinds.length d1,.slice B2 st.members.length d2,.slice B3 st.preds.length d3,.slice none 0 0,.slice none 0 0,.slice none 0 0,.slice none 0 0,.slice none 0 0] 32 (0,0)):=heap_setCell_same b2 3 _
  have bb3:Below w.heap.size w ((((w5.setCell ⟨ob,0,none⟩ (.string st.title)).setCell ⟨ob,1,none⟩ (.slice B1 st.kinds.length d1)).setCell ⟨ob,2,none⟩ (.slice B2 st.members.length d2)).setCell ⟨ob,3,none⟩ (.slice B3 st.preds.length d3)):=Below.setCell bb2 (p:=⟨ob,3,none⟩) hW1 _
  have b4:(((((w5.setCell ⟨ob,0,none⟩ (.string st.title)).setCell ⟨ob,1,none⟩ (.slice B1 st.kinds.length d1)).setCell ⟨ob,2,none⟩ (.slice B2 st.members.length d2)).setCell ⟨ob,3,none⟩ (.slice B3 st.preds.length d3)).setCell ⟨ob,4,none⟩ (.slice B4 st.classes.length d4)).heap[ob]?=some (.cells #[.string st.title,.slice B1 st.kinds.length d1,.slice B2 st.members.length d2,.slice B3 st.preds.length d3,.slice B4 st.classes.length d4,.slice none 0 0,.slice none 0 0,.slice none 0 0,.slice none 0 0] 32 (0,0)):=heap_setCell_same b3 4 _
  have bb4:Below w.heap.size w (((((w5.setCell ⟨ob,0,none⟩ (.string st.title)).setCell ⟨ob,1,none⟩ (.slice B1 st.kinds.length d1)).setCell ⟨ob,2,none⟩ (.slice B2 st.members.length d2)).setCell ⟨ob,3,none⟩ (.slice B3 st.preds.length d3)).setCell ⟨ob,4,none⟩ (.slice B4 st.classes.length d4)):=Below.setCell bb3 (p:=⟨ob,4,none⟩) hW1 _
  have b5:((((((w5.setCell ⟨ob,0,none⟩ (.string st.title)).setCell ⟨ob,1,none⟩ (.slice B1 st.kinds.length d1)).setCell ⟨ob,2,none⟩ (.slice B2 st.members.length d2)).setCell ⟨ob,3,none⟩ (.slice B3 st.preds.length d3)).setCell ⟨ob,4,none⟩ (.slice B4 st.classes.length d4)).setCell ⟨ob,5,none⟩ (.slice B5 st.sources.length d5)).heap[ob]?=some (.cells #[.string st.title,.slice B1 st.kinds.length d1,.slice B2 st.members.length d2,.slice B3 st.preds.length d3,.slice B4 st.classes.length d4,.slice B5 st.sources.length d5,.slice none 0 0,.slice none 0 0,.slice none 0 0] 32 (0,0)):=heap_setCell_same b4 5 _
  have bb5:Below w.heap.size w ((((((w5.setCell ⟨ob,0,none⟩ (.string st.title)).setCell ⟨ob,1,none⟩ (.slice B1 st.kinds.length d1)).setCell ⟨ob,2,none⟩ (.slice B2 st.members.length d2)).setCell ⟨ob,3,none⟩ (.slice B3 st.preds.length d3)).setCell ⟨ob,4,none⟩ (.slice B4 st.classes.length d4)).setCell ⟨ob,5,none⟩ (.slice B5 st.sources.length d5)):=Below.setCell bb4 (p:=⟨ob,5,none⟩) hW1 _
  have b6:(((((((w5.setCell ⟨ob,0,none⟩ (.string st.title)).setCell ⟨ob,1,none⟩ (.slice B1 st.kinds.length d1)).setCell ⟨ob,2,none⟩ (.slice B2 st.members.length d2)).setCell ⟨ob,3,none⟩ (.slice B3 st.preds.length d3)).setCell ⟨ob,4,none⟩ (.slice B4 st.classes.length d4)).setCell ⟨ob,5,none⟩ (.slice B5 st.sources.length d5)).setCell ⟨ob,6,none⟩ (.slice B6 st.rules.length d6)).heap[ob]?=some (.cells #[.string st.title,.slice B1 st.kinds.length d1,.slice B2 st.members.length d2,.slice B3 st.preds.length d3,.slice B4 st.classes.length d4,.slice B5 st.sources.length d5,.slice B6 st.rules.length d6,.slice none 0 0,.slice none 0 0] 32 (0,0)):=heap_setCell_same b5 6 _
  have bb6:Below w.heap.size w (((((((w5.setCell ⟨ob,0,none⟩ (.string st.title)).setCell ⟨ob,1,none⟩ (.slice B1 st.kinds.length d1)).setCell ⟨ob,2,none⟩ (.slice B2 st.members.length d2)).setCell ⟨ob,3,none⟩ (.slice B3 st.preds.length d3)).setCell ⟨ob,4,none⟩ (.slice B4 st.classes.length d4)).setCell ⟨ob,5,none⟩ (.slice B5 st.sources.length d5)).setCell ⟨ob,6,none⟩ (.slice B6 st.rules.length d6)):=Below.setCell bb5 (p:=⟨ob,6,none⟩) hW1 _
  have b7:((((((((w5.setCell ⟨ob,0,none⟩ (.string st.title)).setCell ⟨ob,1,none⟩ (.slice B1 st.kinds.length d1)).setCell ⟨ob,2,none⟩ (.slice B2 st.members.length d2)).setCell ⟨ob,3,none⟩ (.slice B3 st.preds.length d3)).setCell ⟨ob,4,none⟩ (.slice B4 st.classes.length d4)).setCell ⟨ob,5,none⟩ (.slice B5 st.sources.length d5)).setCell ⟨ob,6,none⟩ (.slice B6 st.rules.length d6)).setCell ⟨ob,7,none⟩ (.slice B7 st.excepts.length d7)).heap[ob]?=some (.cells #[.string st.title,.slice B1 st.kinds.length d1,.slice B2 st.members.length d2,.slice B3 st.preds.length d3,.slice B4 st.classes.length d4,.slice B5 st.sources.length d5,.slice B6 st.rules.length d6,.slice B7 st.excepts.length d7,.slice none 0 0] 32 (0,0)):=heap_setCell_same b6 7 _
  have bb7:Below w.heap.size w ((((((((w5.setCell ⟨ob,0,none⟩ (.string st.title)).setCell ⟨ob,1,none⟩ (.slice B1 st.kinds.length d1)).setCell ⟨ob,2,none⟩ (.slice B2 st.members.length d2)).setCell ⟨ob,3,none⟩ (.slice B3 st.preds.length d3)).setCell ⟨ob,4,none⟩ (.slice B4 st.classes.length d4)).setCell ⟨ob,5,none⟩ (.slice B5 st.sources.length d5)).setCell ⟨ob,6,none⟩ (.slice B6 st.rules.length d6)).setCell ⟨ob,7,none⟩ (.slice B7 st.excepts.length d7)):=Below.setCell bb6 (p:=⟨ob,7,none⟩) hW1 _
  have b8:(((((((((w5.setCell ⟨ob,0,none⟩ (.string st.title)).setCell ⟨ob,1,none⟩ (.slice B1 st.kinds.length d1)).setCell ⟨ob,2,none⟩ (.slice B2 st.members.length d2)).setCell ⟨ob,3,none⟩ (.slice B3 st.preds.length d3)).setCell ⟨ob,4,none⟩ (.slice B4 st.classes.length d4)).setCell ⟨ob,5,none⟩ (.slice B5 st.sources.length d5)).setCell ⟨ob,6,none⟩ (.slice B6 st.rules.length d6)).setCell ⟨ob,7,none⟩ (.slice B7 st.excepts.length d7)).setCell ⟨ob,8,none⟩ (.slice B8 st.totals.length d8)).heap[ob]?=some (.cells #[.string st.title,.slice B1 st.kinds.length d1,.slice B2 st.members.length d2,.slice B3 st.preds.length d3,.slice B4 st.classes.length d4,.slice B5 st.sources.length d5,.slice B6 st.rules.length d6,.slice B7 st.excepts.length d7,.slice B8 st.totals.length d8] 32 (0,0)):=heap_setCell_same b7 8 _
  have bb8:Below w.heap.size w (((((((((w5.setCell ⟨ob,0,none⟩ (.string st.title)).setCell ⟨ob,1,none⟩ (.slice B1 st.kinds.length d1)).setCell ⟨ob,2,none⟩ (.slice B2 st.members.length d2)).setCell ⟨ob,3,none⟩ (.slice B3 st.preds.length d3)).setCell ⟨ob,4,none⟩ (.slice B4 st.classes.length d4)).setCell ⟨ob,5,none⟩ (.slice B5 st.sources.length d5)).setCell ⟨ob,6,none⟩ (.slice B6 st.rules.length d6)).setCell ⟨ob,7,none⟩ (.slice B7 st.excepts.length d7)).setCell ⟨ob,8,none⟩ (.slice B8 st.totals.length d8)):=Below.setCell bb7 (p:=⟨ob,8,none⟩) hW1 _
  obtain ⟨Y,hY⟩:∃ Y,(((((((((w5.setCell ⟨ob,0,none⟩ (.string st.title)).setCell ⟨ob,1,none⟩ (.slice B1 st.kinds.length d1)).setCell ⟨ob,2,none⟩ (.slice B2 st.members.length d2)).setCell ⟨ob,3,none⟩ (.slice B3 st.preds.length d3)).setCell ⟨ob,4,none⟩ (.slice B4 st.classes.length d4)).setCell ⟨ob,5,none⟩ (.slice B5 st.sources.length d5)).setCell ⟨ob,6,none⟩ (.slice B6 st.rules.length d6)).setCell ⟨ob,7,none⟩ (.slice B7 st.excepts.length d7)).setCell ⟨ob,8,none⟩ (.slice B8 st.totals.length d8))=Y:=⟨_,rfl⟩
  have hfar:∀ i,i≠ob→Y.heap[i]?=w5.heap[i]?:=fun i hi=>by
   rw [← hY]
   iterate 9 rw [Below.heap_setCell _ ⟨ob,_,none⟩ _ i hi]
  rw [hY] at b8 bb8
  rw [hY]
  clear hY
  have fo:((Y.setCell ⟨eb,0,none⟩ (.int .i64 0)).setCell ⟨ab,0,none⟩ (.int .i64 (s.size:Int))).heap[ob]?=some (.cells #[.string st.title,.slice B1 st.kinds.length d1,.slice B2 st.members.length d2,.slice B3 st.preds.length d3,.slice B4 st.classes.length d4,.slice B5 st.sources.length d5,.slice B6 st.rules.length d6,.slice B7 st.excepts.length d7,.slice B8 st.totals.length d8] 32 (0,0)):=by
   rw [Below.heap_setCell _ ⟨ab,0,none⟩ _ ob h13,Below.heap_setCell _ ⟨eb,0,none⟩ _ ob h12];exact b8
  have fe9:((Y.setCell ⟨eb,0,none⟩ (.int .i64 0)).setCell ⟨ab,0,none⟩ (.int .i64 (s.size:Int))).heap[eb]?=some (.cells #[.int .i64 0] 33 (0,0)):=by
   rw [Below.heap_setCell _ ⟨ab,0,none⟩ _ eb h23]
   exact heap_setCell_same ((hfar eb h21).trans HE5.out) 0 _
  have fa9:((Y.setCell ⟨eb,0,none⟩ (.int .i64 0)).setCell ⟨ab,0,none⟩ (.int .i64 (s.size:Int))).heap[ab]?=some (.cells #[.int .i64 (s.size:Int)] 3 (0,0)) :=
   heap_setCell_same (((Below.heap_setCell Y ⟨eb,0,none⟩ _ ab h32).trans (hfar ab h31)).trans HA5.out) 0 _
  have hBf:Below w.heap.size w ((Y.setCell ⟨eb,0,none⟩ (.int .i64 0)).setCell ⟨ab,0,none⟩ (.int .i64 (s.size:Int))):=(bb8.setCell (p:=⟨eb,0,none⟩) hW2 _).setCell (p:=⟨ab,0,none⟩) hW3 _
  refine leaves_cons (f:=18) (args:=#[.pointer (some ⟨ob,0,none⟩),.pointer (some ⟨eb,0,none⟩),.pointer (some ⟨ab,0,none⟩)]) (by simp) (by simp [go_sem]) ?_
  refine (catch_idle ob eb ab _).mono ?_
  rintro e u' w6 ⟨rfl,rfl,rfl⟩
  refine ⟨_,Sx.parse_results _ _ ob eb ab #[.string st.title,.slice B1 st.kinds.length d1,.slice B2 st.members.length d2,.slice B3 st.preds.length d3,.slice B4 st.classes.length d4,.slice B5 st.sources.length d5,.slice B6 st.rules.length d6,.slice B7 st.excepts.length d7,.slice B8 st.totals.length d8] rfl 0 (s.size:Int) rfl rfl rfl fo fe9 fa9,?_⟩
  refine ⟨hBf,_,0,(s.size:Int),st,rfl,?_,HP.out st 0 (s.size:Int) ⟨rfl,rfl,rfl⟩⟩
  refine Sx.sttR_move HG5.out HB2.out.size (fun i hi=>?_)
  rw [Below.heap_setCell _ ⟨ab,0,none⟩ _ i (by have:=HL2.out;simp only;omega),Below.heap_setCell _ ⟨eb,0,none⟩ _ i (by have:=HL2.out;simp only;omega)]
  exact hfar i (by have:=HL2.out;omega)
theorem sparse_calls (cal:ByteArray→Int × Int)
  (hC:∀ s w,Calls Tryz.prog 108 #[.string s] w fun e w'=>e=.returned (.tuple #[.int .i64 (cal s).1,.int .i64 (cal s).2])∧Below w.heap.size w w')
  (s:ByteArray) (X:Lx) (hL:∀ w,(∃ m,w.cell? ⟨0,0,none⟩=some (.int .i64 m))→Calls Tryz.prog 17 #[.string s] w fun e w'=>∃ x,e=.returned (.tuple #[x,.int .i64 X.e,.int .i64 X.at_])∧Kd.R k48 48 w' w.heap.size (fun k=>w.heap.size≤k) x X.l∧Below w.heap.size w w')
  (hz:X.l.length≤65536∧∀ x∈X.l,x.f1.size≤65536)
  (w:World) (hg:∃ m,w.cell? ⟨0,0,none⟩=some (.int .i64 m)) :
  Calls Tryz.prog 8 #[.string s] w fun e w'=>Below w.heap.size w w'∧∃ x er a st,e=.returned (.tuple #[x,.int .i64 er,.int .i64 a])∧sttR w.heap.size st x w'∧PrsIs cal X s.size st er a:=by
 by_cases he:X.e=0
 ·exact sparse_ok cal hC s X hL hz he w hg
 ·exact sparse_err cal hC s X hL hz he w hg
end Go.Proofs.YtcakgennlliejaaGreatDoor
