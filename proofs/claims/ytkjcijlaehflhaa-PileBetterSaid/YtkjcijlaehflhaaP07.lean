/- Part 7 of a proof. -/
import Derived.Test.YtkjcijlaehflhaaP06
set_option linter.unusedVariables false
set_option linter.unusedSimpArgs false
namespace Go.Proofs.Swa
open Go
theorem Tab.col {s : Sums} {n : Nat} {x : Nat → Int} (h : Tab s.mat n x) (hn : n < 10) {p : Nat} {lo hi : Int} (hp : p ≤ n) (l1 : 1 ≤ lo) (l2 : lo ≤ hi) (l4 : hi ≤ 1000000) :
  ∀ i,i ≤ n → ((s.know p (n + 1) hi).1.know (n + 1) p (w64 (0 - lo))).1.mat i (n + 1) = s.mat i p + hi:=by
 have o1 : ∀ i,i ≤ n → s.mat i (n + 1) = far:=fun i hi => h.out i (n + 1) (by omega) (by omega) (.inr (by omega)) (by omega)
 have o2 : ∀ i,i ≤ n → s.mat (n + 1) i = far:=fun i hi => h.out (n + 1) i (by omega) (by omega) (.inl (by omega)) (by omega)
 have hf : far = 1099511627776:=rfl
 have hpp:=h.diag p (by omega)
 have hnn:=h.diag (n + 1) (by omega)
 have hw : w64 (0 - lo) = -lo:=by rw [w64_id (by omega) (by omega)];omega
 obtain ⟨k1,k2⟩:=know_mat (s:=s) (a:=p) (b:=n + 1) (m:=hi) (by rw [o2 p hp,w64_id (by omega) (by omega)];omega) (by rw [o1 p hp];omega)
 generalize (s.know p (n + 1) hi).1 = s1 at k2
 have a2 : ∀ i,i ≤ n → s1.mat i (n + 1) = s.mat i p + hi:=by
  intro i hi'
  have:=h.lt hi' hp
  rw [k2 i (n + 1) (by omega) (by omega),upE,if_pos ⟨by omega,by omega⟩,o1 i hi',hnn,w64_id (x:=s.mat i p + hi) (by omega) (by omega),w64_id (by omega) (by omega)]
  omega
 have a3 : ∀ k,k ≤ n → s1.mat (n + 1) k = far:=by
  intro k hk
  rw [k2 (n + 1) k (by omega) (by omega),upE,if_neg,o2 k hk]
  rintro ⟨q,_⟩
  rw [o2 p hp] at q;omega
 rw [hw]
 have b1 : s1.mat p (n + 1) = hi:=by rw [a2 p hp];omega
 obtain ⟨k3,k4⟩:=know_mat (s:=s1) (a:=n + 1) (b:=p) (m:=-lo) (by rw [b1,w64_id (by omega) (by omega)];omega) (by rw [a3 p hp];omega)
 intro i hi'
 have q1:=h.lt hi' hp
 rw [k4 i (n + 1) (by omega) (by omega),upE,a2 i hi',b1,if_pos ⟨by omega,by omega⟩,w64_id (x:=s.mat i p + hi + -lo) (by omega) (by omega),w64_id (by omega) (by omega)]
 omega
structure Tbz (T : Nat → Nat → Int) (n : Nat) : Prop where
 t : Tb T n
 z : ∀ a,a ≤ n → T a 0 ≤ 0
theorem Tbz.tab {T : Nat → Nat → Int} {n : Nat} (h : Tbz T n) : Tab T n fun k => 0 - T k 0:=by
 have h10:=h.t.n10
 refine ⟨h10,h.t.hi,h.t.out,h.t.diag,fun a b ha hb => ?_,h.t.tri,fun a ha => ?_,fun a ha => ?_⟩
 ·have:=h.t.tri a b 0 ha hb (Nat.zero_le _);omega
 ·have:=h.z a ha;omega
 ·have h1:=h.t.tri a 0 a ha (Nat.zero_le _) ha
  have h2:=h.t.diag a (by omega)
  have h3:=h.t.hi 0 a (Nat.zero_le _) ha
  omega
theorem Tbz.add {s : Sums} {n : Nat} (h : Tbz s.mat n) (hn : n < 10) {p : Nat} {lo hi : Int} (hp : p ≤ n) (l1 : 1 ≤ lo) (l2 : lo ≤ hi) (l4 : hi ≤ 1000000) :
  (s.know p (n + 1) hi).2 = true ∧ ((s.know p (n + 1) hi).1.know (n + 1) p (w64 (0 - lo))).2 = true ∧ Tbz ((s.know p (n + 1) hi).1.know (n + 1) p (w64 (0 - lo))).1.mat (n + 1) ∧
  ∀ y,Sol ((s.know p (n + 1) hi).1.know (n + 1) p (w64 (0 - lo))).1.mat (n + 1) y ↔ Sol s.mat n y ∧ lo ≤ y (n + 1) - y p ∧ y (n + 1) - y p ≤ hi:=by
 obtain ⟨k1,k2,k3,k4,k5⟩:=h.tab.add hn hp l1 (Int.le_refl lo) l2 l4
 have k6:=h.tab.col hn hp l1 l2 l4
 refine ⟨k1,k2,⟨k3.tb,fun a ha => ?_⟩,fun y => ⟨fun q => ⟨fun a b ha hb => ?_, ?_, ?_⟩,fun ⟨q1,q2,q3⟩ a b ha hb => ?_⟩⟩
 ·by_cases e : a = n + 1
  ·rw [e,k5 0 (by omega)];have:=h.z p hp;omega
  ·rw [k4 a 0 (by omega) (by omega)];exact h.z a (by omega)
 ·rw [← k4 a b ha hb];exact q a b (by omega) (by omega)
 ·have:=q (n + 1) p (Nat.le_refl _) (by omega)
  rw [k5 p hp,h.t.diag p (by omega)] at this;omega
 ·have:=q p (n + 1) (by omega) (Nat.le_refl _)
  rw [k6 p hp,h.t.diag p (by omega)] at this;omega
 ·by_cases e1 : a = n + 1
  ·by_cases e2 : b = n + 1
   ·rw [e1,e2,k3.diag (n + 1) (by omega)];omega
   ·rw [e1,k5 b (by omega)];have:=q1 p b hp (by omega);omega
  ·by_cases e2 : b = n + 1
   ·rw [e2,k6 a (by omega)];have:=q1 a p (by omega) hp;omega
   ·rw [k4 a b (by omega) (by omega)];exact q1 a b (by omega) (by omega)
theorem Tbz.more {s : Sums} {n : Nat} (h : Tbz s.mat n) {a b : Nat} (ha : a ≤ n) (hb : b ≤ n) (hk : (s.know a b 0).2 = true) : Tbz (s.know a b 0).1.mat n ∧ ∀ y,Sol (s.know a b 0).1.mat n y ↔ Sol s.mat n y ∧ y b - y a ≤ 0:=by
 obtain ⟨k1,k2⟩:=(h.t.know ha hb (by omega) (by omega)).1 hk
 have:=h.t.n10
 exact ⟨⟨k1,fun c hc => Int.le_trans (know_le (by omega) (by omega)) (h.z c hc)⟩,k2⟩
structure NarA (a b : Act) : Prop where
 h : b.Hour = a.Hour
 s : b.Spot = a.Spot
 k : b.Kind = a.Kind
 t : b.Take = a.Take
 m : 1 ≤ a.Min ∧ a.Min ≤ b.Min ∧ b.Min ≤ b.Max ∧ b.Max ≤ a.Max ∧ a.Max ≤ 1000000
structure LS (p q : Pst) (i : Nat) : Prop where
 nx : q.next = p.next
 m : q.m = p.m
 ms : q.ms = p.ms
 n : p.next ≤ i
 mt : p.m.tips ≤ p.next ∧ p.m.takes ≤ p.next
 c : q.ok = true → p.ok = true ∧ Tbz p.s.mat p.next ∧ Tbz q.s.mat p.next ∧ ∀ y,Sol q.s.mat p.next y → Sol p.s.mat p.next y
theorem LS.start : LS pst0 pst0 0:=by
 obtain ⟨x,hx,_⟩:=PInv.start.tab
 have z : Tbz pst0.s.mat 0:=⟨hx.tb,fun a ha => by obtain rfl:=Nat.le_zero.1 ha;exact Int.le_of_eq (hx.diag 0 (by omega))⟩
 exact ⟨rfl,rfl,rfl,Nat.le_refl _,⟨Nat.le_refl _,Nat.le_refl _⟩,fun _ => ⟨rfl,z,z,fun _ h => h⟩⟩
theorem LS.skip {p q : Pst} {i : Nat} (h : LS p q i) : LS p q (i + 1):={ h with n:=Nat.le_succ_of_le h.n }
theorem tk_ok {p : Pst} {a : Act} (h : (p.tk a).2 = true) : p.ok = true:=by
 cases c : p.ok with
 | true => rfl
 | false => unfold Pst.tk knowIf at h;rw [c] at h;cases h
theorem tp_ok {p : Pst} {a : Act} (h : (p.tp a).2 = true) : p.ok = true:=by
 cases c : p.ok with
 | true => rfl
 | false => unfold Pst.tp knowIf at h;rw [c] at h;cases h
theorem LS.step {p q : Pst} {i : Nat} (h : LS p q i) (hi : i < 10) {a b : Act} (na : NarA a b) : LS (p.step i a) (q.step i b) (i + 1):=by
 obtain ⟨m1,m2,m3,m4,m5⟩:=na.m
 have hn:=h.n
 obtain ⟨t1,t2⟩:=h.mt
 by_cases ht : a.Take = true
 ·rw [Pst.step_take ht,Pst.step_take (na.t.trans ht)]
  refine ⟨by dsimp only;rw [h.nx],by dsimp only;rw [h.nx,h.m],by dsimp only;rw [h.nx,h.m,h.ms],by dsimp only;omega,⟨by dsimp only;omega,Nat.le_refl _⟩,fun ok => ?_⟩
  have ok : (q.tk b).2 = true:=ok
  obtain ⟨pok,zp,zq,sq⟩:=h.c (tk_ok ok)
  have qok:=tk_ok ok
  dsimp only
  obtain ⟨a1,a2,a3,a4⟩:=zp.add (by omega) t2 m1 (Int.le_trans m2 (Int.le_trans m3 m4)) m5
  obtain ⟨b1,b2,b3,b4⟩:=zq.add (by omega) t2 (Int.le_trans m1 m2) m3 (Int.le_trans m4 m5)
  have e1 : p.tk a = ((p.s.know p.m.takes (p.next + 1) a.Max).1.know (p.next + 1) p.m.takes (w64 (0 - a.Min))).1.know p.m.tips (p.next + 1) 0:=by
   unfold Pst.tk knowIf
   simp only [pok,if_true,a1,a2]
  have e2 : q.tk b = ((q.s.know p.m.takes (p.next + 1) b.Max).1.know (p.next + 1) p.m.takes (w64 (0 - b.Min))).1.know p.m.tips (p.next + 1) 0:=by
   unfold Pst.tk knowIf
   rw [h.nx,h.m]
   simp only [qok,if_true,b1,b2]
  rw [e2] at ok
  rw [e1,e2]
  obtain ⟨d1,d2⟩:=b3.more (a:=p.m.tips) (b:=p.next + 1) (by omega) (Nat.le_refl _) ok
  have con : ∀ y,Sol (((q.s.know p.m.takes (p.next + 1) b.Max).1.know (p.next + 1) p.m.takes (w64 (0 - b.Min))).1.know p.m.tips (p.next + 1) 0).1.mat (p.next + 1) y → Sol ((p.s.know p.m.takes (p.next + 1) a.Max).1.know (p.next + 1) p.m.takes (w64 (0 - a.Min))).1.mat (p.next + 1) y ∧ y (p.next + 1) - y p.m.tips ≤ 0:=fun y hy => by
   obtain ⟨y1,y2⟩:=(d2 y).1 hy
   obtain ⟨y3,y4,y5⟩:=(b4 y).1 y1
   exact ⟨(a4 y).2 ⟨sq y y3,by omega,by omega⟩,y2⟩
  have r0:=con _ (d1.t.row (Nat.zero_le _))
  have aok : (((p.s.know p.m.takes (p.next + 1) a.Max).1.know (p.next + 1) p.m.takes (w64 (0 - a.Min))).1.know p.m.tips (p.next + 1) 0).2 = true:=by
   cases c : (((p.s.know p.m.takes (p.next + 1) a.Max).1.know (p.next + 1) p.m.takes (w64 (0 - a.Min))).1.know p.m.tips (p.next + 1) 0).2 with
   | true => rfl
   | false => exact absurd r0.2 ((a3.t.know (a:=p.m.tips) (b:=p.next + 1) (m:=0) (by omega) (Nat.le_refl _) (by omega) (by omega)).2 c _ r0.1)
  obtain ⟨f1,f2⟩:=a3.more (a:=p.m.tips) (b:=p.next + 1) (by omega) (Nat.le_refl _) aok
  exact ⟨aok,f1,d1,fun y hy => (f2 y).2 (con y hy)⟩
 ·rw [Pst.step_tip ht,Pst.step_tip (by rw [na.t];exact ht)]
  refine ⟨by dsimp only;rw [h.nx],by dsimp only;rw [h.nx,h.m,na.k],by dsimp only;rw [h.nx,h.m,h.ms,na.k],by dsimp only;omega,⟨Nat.le_refl _,by dsimp only;omega⟩,fun ok => ?_⟩
  have ok : (q.tp b).2 = true:=ok
  obtain ⟨pok,zp,zq,sq⟩:=h.c (tp_ok ok)
  have qok:=tp_ok ok
  dsimp only
  obtain ⟨a1,a2,a3,a4⟩:=zp.add (by omega) t1 m1 (Int.le_trans m2 (Int.le_trans m3 m4)) m5
  obtain ⟨b1,b2,b3,b4⟩:=zq.add (by omega) t1 (Int.le_trans m1 m2) m3 (Int.le_trans m4 m5)
  have e1 : p.tp a = (p.s.know p.m.tips (p.next + 1) a.Max).1.know (p.next + 1) p.m.tips (w64 (0 - a.Min)):=by
   unfold Pst.tp knowIf
   simp only [pok,if_true,a1]
  have e2 : q.tp b = (q.s.know p.m.tips (p.next + 1) b.Max).1.know (p.next + 1) p.m.tips (w64 (0 - b.Min)):=by
   unfold Pst.tp knowIf
   rw [h.nx,h.m]
   simp only [qok,if_true,b1]
  rw [e1,e2]
  refine ⟨a2,a3,b3,fun y hy => ?_⟩
  obtain ⟨y3,y4,y5⟩:=(b4 y).1 hy
  exact (a4 y).2 ⟨sq y y3,by omega,by omega⟩
structure NarG (g k : Gnd) : Prop where
 sp : k.Spots = g.Spots
 so : k.Sorts = g.Sorts
 len : k.Acts.length = g.Acts.length
 ac : ∀ i,i < g.Acts.length → NarA (g.Acts.getD i default) (k.Acts.getD i default)
section
variable {g k : Gnd} {truth : List Int}
theorem NarG.ls (h : NarG g k) (h10 : g.Acts.length ≤ 10) (spot : Int) : ∀ u,u ≤ g.Acts.length → LS (prU spot g.Acts u) (prU spot k.Acts u) u
 | 0,_ => LS.start
 | u + 1,hu => by
  have ih:=h.ls h10 spot u (by omega)
  have hl:=h.len
  have na:=h.ac u (by omega)
  rw [prU_succ spot (by omega),prU_succ spot (by omega),na.s]
  split
  ·exact ih.step (by omega) na
  ·exact ih.skip
theorem next_mono (spot : Int) (L : List Act) {u : Nat} : ∀ i,u + i ≤ L.length → (prU spot L u).next ≤ (prU spot L (u + i)).next
 | 0,_ => Nat.le_refl _
 | i + 1,h => by
  have ih:=next_mono spot L (u:=u) i (by omega)
  rw [← Nat.add_assoc,prU_succ spot (by omega)]
  split
  ·unfold Pst.step
   split
   ·exact Nat.le_succ_of_le ih
   ·exact Nat.le_succ_of_le ih
  ·exact ih
theorem pile_all (g : Gnd) (spot : Int) : (pile g spot).1.s = (prU spot g.Acts g.Acts.length).s ∧ (pile g spot).2 = (prU spot g.Acts g.Acts.length).ok:=by
 rw [prU_all];exact ⟨rfl,rfl⟩
theorem NarG.bef (h : NarG g k) (h10 : g.Acts.length ≤ 10) (spot : Int) {u : Nat} (hu : u ≤ g.Acts.length) : (pile k spot).1.before u = (pile g spot).1.before u:=by
 rw [pile_before g spot hu,pile_before k spot (by rw [h.len];exact hu)]
 exact (h.ls h10 spot u hu).m
theorem NarG.pileC (h : NarG g k) (h10 : g.Acts.length ≤ 10) (spot : Int) (ok : (pile k spot).2 = true) : (pile g spot).2 = true ∧ Tbz (pile g spot).1.s.mat (prU spot g.Acts g.Acts.length).next ∧ Tbz (pile k spot).1.s.mat (prU spot g.Acts g.Acts.length).next ∧ ∀ y,Sol (pile k spot).1.s.mat (prU spot g.Acts g.Acts.length).next y → Sol (pile g spot).1.s.mat (prU spot g.Acts g.Acts.length).next y:=by
 have l:=(h.ls h10 spot g.Acts.length (Nat.le_refl _)).c
 have e:=pile_all k spot
 rw [h.len] at e
 rw [(pile_all g spot).1,(pile_all g spot).2,e.1]
 rw [e.2] at ok
 exact l ok
theorem knownGo_ok {g : Gnd} : ∀ (n i : Nat) (acc : List Hp),(knownGo g i n acc).2 = 0 → ∀ j : Nat,i ≤ j → j < i + n → (pile g j).2 = true
 | 0,i,acc,_,j,h1,h2 => by omega
 | n + 1,i,acc,h,j,h1,h2 => by
  rw [knownGo] at h
  split at h
  ·rename_i hp
   by_cases e : j = i
   ·rw [e];exact hp
   ·exact knownGo_ok n (i + 1) _ h j (by omega) (by omega)
  ·exact absurd h (by simp)
theorem NarG.until (h : NarG g k) (hour : Int) : untilL hour k.Acts = untilL hour g.Acts:=by
 obtain ⟨_,_,l,a⟩:=h
 generalize g.Acts = A at l a
 generalize k.Acts = B at l a
 induction A generalizing B with
 | nil => cases B with
  | nil => rfl
  | cons b B => simp at l
 | cons x A ih => cases B with
  | nil => simp at l
  | cons b B =>
   have h0:=(a 0 (by simp)).h
   have h0 : b.Hour = x.Hour:=h0
   rw [untilL,untilL,h0,ih B (by simpa using l) fun i hi => a (i + 1) (by simpa using hi)]
theorem NarG.now (h : NarG g k) (h10 : g.Acts.length ≤ 10) (spot : Int) (hour : Int) : nowOf k (pile k spot).1 hour = nowOf g (pile g spot).1 hour:=by
 unfold nowOf
 rw [h.until]
 exact h.bef h10 spot (until_len _ _)
theorem checkActs_nar {g k : Gnd} (hs : g.Spots.length ≤ 4) (hq : g.Sorts.length ≤ 4) (e1 : k.Spots.length = g.Spots.length) (e2 : k.Sorts.length = g.Sorts.length) : ∀ (A B : List Act) (x : Int),B.length = A.length → (∀ i,i < A.length → NarA (A.getD i default) (B.getD i default)) → checkActs g x A = 0 → checkActs k x B = 0
 | [],B,x,l,_,_ => by
  cases B with
  | nil => rfl
  | cons b B => simp at l
 | a :: A,B,x,l,n,q => by
  cases B with
  | nil => simp at l
  | cons b B =>
   have na : NarA a b:=n 0 (by simp)
   rw [checkActs] at q ⊢
   by_cases z : checkAct g x a ≠ 0
   ·rw [if_pos z] at q;exact absurd q z
   ·rw [if_neg z] at q
    have C:=checkAct_mk (Decidable.not_not.1 z) hs hq
    have m:=na.m
    have e : checkAct k x b = 0:=checkAct_ok (by omega) (by omega) (by
     rw [e1,e2]
     exact ⟨by rw [na.h];exact C.h,by rw [na.s];exact C.s,by rw [na.k];exact C.k,by rw [na.t,na.k];exact C.t,by omega⟩)
    rw [if_neg (by rw [e];simp),na.h]
    exact checkActs_nar hs hq e1 e2 A B a.Hour (by simpa using l) (fun i hi => n (i + 1) (by simpa using hi)) q
theorem NarG.check (h : NarG g k) (ck : Swa.check g = 0) : Swa.check k = 0:=by
 have ok:=check_ok ck
 have m1 : many (k.Spots.length : Nat) 4 = 0:=by rw [h.sp];unfold many;rw [if_neg (by have:=ok.spots;omega),if_neg (by have:=ok.spots;omega)]
 have m2 : many (k.Sorts.length : Nat) 4 = 0:=by rw [h.so];unfold many;rw [if_neg (by have:=ok.sorts;omega),if_neg (by have:=ok.sorts;omega)]
 unfold Swa.check
 rw [if_neg (by rw [m1];simp),if_pos (by rw [h.sp];exact List.all_eq_true.2 ok.spot)]
 unfold check2
 rw [if_neg (by rw [m2];simp),if_pos (by rw [h.so];exact List.all_eq_true.2 ok.sort)]
 unfold check3
 rw [if_neg (by rw [h.len];have:=ok.acts;omega)]
 exact checkActs_nar ok.spots.2 ok.sorts.2 (by rw [h.sp]) (by rw [h.so]) g.Acts k.Acts 0 h.len h.ac ok.act
def nOf (g : Gnd) (j : Nat) : Nat:=(prU j g.Acts g.Acts.length).next
theorem nOf_mom (ok : Ok g) (h10 : g.Acts.length ≤ 10) (h : NarG g k) (j : Nat) {u : Nat} (hu : u ≤ g.Acts.length) : ((pile g j).1.before u).tips ≤ nOf g j ∧ ((pile g j).1.before u).takes ≤ nOf g j:=by
 have:=(h.ls h10 j u hu).mt
 have m:=next_mono j g.Acts (u:=u) (g.Acts.length - u) (by omega)
 rw [show u + (g.Acts.length - u) = g.Acts.length by omega] at m
 rw [pile_before g j hu]
 unfold nOf
 omega
theorem NarG.gds (h : NarG g k) (ck : Swa.check g = 0) (kn : (Swa.known k).2 = 0) : Gd g (nOf g) ∧ Gd k (nOf g):=by
 have ok:=check_ok ck
 have ck':=h.check ck
 have hp : ∀ j : Nat,j < k.Spots.length → (pile k j).2 = true:=fun j hj => knownGo_ok k.Spots.length 0 [] kn j (Nat.zero_le _) (by omega)
 have hg : ∀ j : Nat,j < g.Spots.length → (pile g j).2 = true:=fun j hj => (h.pileC ok.acts j (hp j (by rw [h.sp];exact hj))).1
 obtain ⟨k1,k2⟩:=known_get hp
 obtain ⟨g1,g2⟩:=known_get hg
 refine ⟨⟨ok,ck,g1,by rw [g2];simp,fun j hj => (h.pileC ok.acts j (hp j (by rw [h.sp];exact hj))).2.1.t,fun j hj u hu => nOf_mom ok ok.acts h j hu⟩,
  ⟨check_ok ck',ck',k1,by rw [k2];simp,fun j hj => (h.pileC ok.acts j (hp j hj)).2.2.1.t,fun j hj u hu => ?_⟩⟩
 rw [h.len] at hu
 rw [h.bef ok.acts j hu]
 exact nOf_mom ok ok.acts h j hu
end
section
variable {g k : Gnd} {N : Nat → Nat} {truth : List Int}
theorem Gd.masses (h : Gd g N) {hour : Int} (h1 : 0 ≤ hour) (h2 : hour ≤ 72) : (Swa.masses g hour).2 = 0 ∧ (Swa.masses g hour).1.length = g.Spots.length ∧ ∀ i,i < g.Spots.length → (Swa.masses g hour).1.getD i default = massAt g hour (pile g (i : Nat)).1:=by
 have kl:=h.kl
 have e : Swa.masses g hour = ((Swa.known g).1.map (massAt g hour),0):=by
  unfold Swa.masses
  rw [if_neg (by rw [h.ck];simp),if_pos (inB_mk h1 h2),if_neg (by rw [h.kn];simp)]
 rw [e]
 refine ⟨rfl,by rw [List.length_map,kl],fun i hi => ?_⟩
 dsimp only
 rw [getD_mapA (by omega),known_at (by omega)]
theorem Gd.older (h : Gd g N) {hour age : Int} (h1 : 0 ≤ hour) (h2 : hour ≤ 72) (h3 : 0 ≤ age) (h4 : age ≤ 72) {i : Nat} (hi : i < g.Spots.length) :
  Swa.older g i hour age = (verdict (pile g (i : Nat)).1 ((pile g (i : Nat)).1.before (untilL (hour - age - 1) g.Acts)).tips ((pile g (i : Nat)).1.before (untilL hour g.Acts)).takes,0):=by
 have hok:=h.ok.spots
 have hin3 : inB (i : Int) 0 (w64 (g.Spots.length - 1)) = true:=by
  rw [w64_id (by omega) (by omega)]
  exact inB_mk (by omega) (by omega)
 have hw : w64 (w64 (hour - age) - 1) = hour - age - 1:=by rw [w64_id (x:=hour - age) (by omega) (by omega),w64_id (by omega) (by omega)]
 have hg : (Swa.known g).1.getD (i : Int).toNat default = (pile g (i : Nat)).1:=known_at (by rw [h.kl];exact hi)
 unfold Swa.older
 rw [if_neg (by rw [h.ck];simp),if_pos hin3,if_pos ⟨inB_mk h1 h2,inB_mk h3 h4⟩,if_neg (by rw [h.kn];simp),hg,hw]
 unfold verdict
 dsimp only
 split
 ·rfl
 ·split <;> rfl
theorem NarG.le (h : NarG g k) (G : Gd g (nOf g)) (K : Gd k (nOf g)) {j : Nat} (hj : j < g.Spots.length) {a b : Nat} (ha : a ≤ nOf g j) (hb : b ≤ nOf g j) : (pile k j).1.s.mat a b ≤ (pile g j).1.s.mat a b:=by
 have ok : (pile k j).2 = true:=knownGo_ok k.Spots.length 0 [] K.kn j (Nat.zero_le _) (by rw [h.sp];omega)
 obtain ⟨_,_,t,s⟩:=h.pileC G.ok.acts j ok
 have:=s _ (t.t.row ha) a b ha hb
 have d:=t.t.diag a (by have:=t.t.n10;unfold nOf at ha;omega)
 omega
theorem NarG.sols (h : NarG g k) (G : Gd g (nOf g)) (K : Gd k (nOf g)) {y : Nat → Nat → Int} (hy : SolA (nOf g) (allS k) y) : SolA (nOf g) (allS g) y:=fun j hj => by
 rw [G.alen] at hj
 have hj' : j < k.Spots.length:=by rw [h.sp];exact hj
 have ok : (pile k j).2 = true:=knownGo_ok k.Spots.length 0 [] K.kn j (Nat.zero_le _) (by omega)
 have q:=hy j (by rw [K.alen];exact hj')
 rw [K.allAt hj'] at q
 rw [G.allAt hj]
 exact (h.pileC G.ok.acts j ok).2.2.2 _ q
theorem NarG.heap (h : NarG g k) (G : Gd g N) (K : Gd k N) (j : Nat) (hour : Int) (r : Rul) : r ∈ heapRules k (pile k j).1 j hour ↔ r ∈ heapRules g (pile g j).1 j hour:=by
 have h10:=G.ok.acts
 have hl:=h.len
 rw [heapRules_mem K.ok,heapRules_mem G.ok,h.now h10]
 have e0 : lieW k j (nowOf g (pile g j).1 hour) = lieW g j (nowOf g (pile g j).1 hour):=by unfold lieW holdsP;rw [h.sp,h.so]
 have e1 : ∀ i,i < g.Acts.length → (TipR k (pile k j).1 j hour (nowOf g (pile g j).1 hour) i r ↔ TipR g (pile g j).1 j hour (nowOf g (pile g j).1 hour) i r):=fun i hi => by
  have a:=h.ac i hi
  unfold TipR
  rw [h.bef h10 j (u:=i) (by omega),h.bef h10 j (u:=i + 1) (by omega),a.h,a.s,a.k,a.t,h.so]
 rw [e0]
 refine or_congr Iff.rfl ⟨fun ⟨i,q1,q2⟩ => ⟨i,by omega,(e1 i (by omega)).1 q2⟩,fun ⟨i,q1,q2⟩ => ⟨i,by omega,(e1 i (by omega)).2 q2⟩⟩
theorem NarG.rule (h : NarG g k) (G : Gd g N) (K : Gd k N) (hour : Nat) (r : Rul) : RulAt k hour r ↔ RulAt g hour r:=by
 have l1:=G.kl
 have l2:=K.kl
 have hsp:=h.sp
 have h10:=G.ok.acts
 unfold RulAt
 rw [heapsR_mem,heapsR_mem,pairRules_mem,pairRules_mem,hsp]
 have eA : ∀ j,j < g.Spots.length → (r ∈ heapRules k ((known k).1.getD j default) j hour ↔ r ∈ heapRules g ((known g).1.getD j default) j hour):=fun j hj => by
  rw [known_at (g:=k) (by rw [l2,hsp];exact hj),known_at (g:=g) (by omega)]
  exact h.heap G K j hour r
 have eB : ∀ a b,a < b → b < g.Spots.length → (r ∈ pairOne k (known k).1 hour b a ↔ r ∈ pairOne g (known g).1 hour b a):=fun a b hab hb => by
  rw [pairOne_mem,pairOne_mem,known_at (g:=k) (j:=a) (by rw [l2,hsp];omega),known_at (g:=k) (j:=b) (by rw [l2,hsp];omega),known_at (g:=g) (j:=a) (by omega),known_at (g:=g) (j:=b) (by omega),h.now h10,h.now h10]
  have e : dist k a b = dist g a b:=by unfold dist;rw [hsp]
  have e2 : ∀ s t,fireMax k s t = fireMax g s t:=fun s t => by unfold fireMax;rw [h.so]
  rw [e,e2]
 refine or_congr ⟨fun ⟨j,q1,q2⟩ => ⟨j,q1,(eA j q1).1 q2⟩,fun ⟨j,q1,q2⟩ => ⟨j,q1,(eA j q1).2 q2⟩⟩ ⟨fun ⟨a,b,q1,q2,q3⟩ => ⟨a,b,q1,q2,(eB a b q1 q2).1 q3⟩,fun ⟨a,b,q1,q2,q3⟩ => ⟨a,b,q1,q2,(eB a b q1 q2).2 q3⟩⟩
theorem NarG.breaks (h : NarG g k) (G : Gd g (nOf g)) (K : Gd k (nOf g)) :
  (Swa.breaks g).2.2 = 0 ∧ (Swa.breaks k).2.2 = 0 ∧ ((Swa.breaks k).1 < 0 ∨ (0 ≤ (Swa.breaks g).1 ∧ (Swa.breaks g).1 ≤ (Swa.breaks k).1)) ∧ ((Swa.breaks g).2.1 < 0 ∨ (0 ≤ (Swa.breaks k).2.1 ∧ (Swa.breaks k).2.1 ≤ (Swa.breaks g).2.1)):=by
 obtain ⟨p,q,e1,P,Q⟩:=G.breaks
 obtain ⟨p',q',e2,P',Q'⟩:=K.breaks
 rw [e1,e2]
 refine ⟨rfl,rfl,P'.later P fun hour _ hb => ?_,Q.later Q' fun hour _ hb hk => hb ?_⟩
 ·rw [bIff] at hb ⊢
  obtain ⟨r,hr,b⟩:=hb
  have hr':=(h.rule G K hour r).1 hr
  refine ⟨r,hr', ?_⟩
  have win:=G.rulIn hr'
  unfold breaksR at b ⊢
  rw [List.all_eq_true] at b ⊢
  intro w hw
  have:=b w hw
  have i:=win w hw
  have is:=i.s
  rw [G.alen] at is
  have is' : w.spot < k.Spots.length:=by rw [h.sp];exact is
  unfold Way.ok at this ⊢
  rw [K.allAt is',Bool.not_eq_true',decide_eq_false_iff_not] at this
  rw [G.allAt is,Bool.not_eq_true',decide_eq_false_iff_not]
  have:=h.le G K is i.a i.b
  omega
 ·rw [K.kIff] at hk
  rw [G.kIff]
  obtain ⟨y,y1,y2⟩:=hk
  exact ⟨y,h.sols G K y1,fun h' q r hr => y2 h' q r ((h.rule G K h' r).2 hr)⟩
theorem NarG.one (h : NarG g k) (G : Gd g (nOf g)) (K : Gd k (nOf g)) {hour age : Int} (h1 : 0 ≤ hour) (h2 : hour ≤ 72) (h3 : 0 ≤ age) (h4 : age ≤ 72) {i : Nat} (hi : i < g.Spots.length) :
  (Swa.older g i hour age).2 = 0 ∧ (Swa.older k i hour age).2 = 0 ∧ ((Swa.older g i hour age).1 ≠ 3 → (Swa.older k i hour age).1 = (Swa.older g i hour age).1) ∧
  ((Swa.masses g hour).1.getD i default).Min ≤ ((Swa.masses k hour).1.getD i default).Min ∧ ((Swa.masses k hour).1.getD i default).Max ≤ ((Swa.masses g hour).1.getD i default).Max:=by
 have hik : i < k.Spots.length:=by rw [h.sp];exact hi
 rw [G.older h1 h2 h3 h4 hi,K.older h1 h2 h3 h4 hik,(G.masses h1 h2).2.2 i hi,(K.masses h1 h2).2.2 i hik,h.until,h.until]
 have h10:=G.ok.acts
 unfold massAt
 rw [h.until,h.bef h10 i (until_len hour g.Acts),h.bef h10 i (until_len (hour - age - 1) g.Acts)]
 obtain ⟨a1,a2⟩:=G.mom i hi _ (until_len hour g.Acts)
 obtain ⟨b1,b2⟩:=G.mom i hi _ (until_len (hour - age - 1) g.Acts)
 generalize (pile g i).1.before (untilL hour g.Acts) = m at a1 a2
 generalize (pile g i).1.before (untilL (hour - age - 1) g.Acts) = o at b1 b2
 have tg:=G.tb i hi
 have tk:=K.tb i hik
 have le:=fun a b ha hb => h.le G K hi (a:=a) (b:=b) ha hb
 have l1:=le o.tips m.takes b1 a2
 have l2:=le m.takes o.tips a2 b1
 have l3:=le m.takes m.tips a2 a1
 have l4:=le m.tips m.takes a1 a2
 have t1:=tk.tri o.tips m.takes o.tips b1 a2 b1
 have d1:=tk.diag o.tips (by have:=tk.n10;omega)
 have c1:=tg.lt a1 a2
 have c2:=tk.lt a1 a2
 refine ⟨rfl,rfl, ?_, ?_, ?_⟩
 ·unfold verdict
  dsimp only
  intro hv
  by_cases q1 : (pile g i).1.s.mat o.tips m.takes < 0
  ·rw [if_pos q1,if_pos (by omega)]
  ·rw [if_neg q1] at hv ⊢
   by_cases q2 : (pile g i).1.s.mat m.takes o.tips ≤ 0
   ·rw [if_pos q2,if_neg (by omega),if_pos (by omega)]
   ·rw [if_neg q2] at hv;exact absurd rfl hv
 ·show (pile g i).1.least m ≤ (pile k i).1.least m
  unfold Hp.least
  rw [w64_id (by omega) (by omega),w64_id (by omega) (by omega)]
  omega
 ·exact l3
end
def inL (x lo hi : Int) : List Int:=[lo,hi,btw x lo hi,btw (btwS x lo hi) lo hi]
def inV (x lo hi : Int) : Int:=either (btwS (btwS x lo hi) lo hi) (inL x lo hi)
def inS (x lo hi : Int) : Int:=eitherS (btwS (btwS x lo hi) lo hi) (inL x lo hi)
def tiA (x lo hi : Int) : Int:=either (inS x lo hi) [lo,inV x lo hi]
def tiX (x lo hi : Int) : Int:=eitherS (inS x lo hi) [lo,inV x lo hi]
def tiY (x lo hi : Int) : Int:=btwS (tiX x lo hi) (inV x lo hi) hi
def tiL (x lo hi : Int) : List Int:=[hi,btw (tiX x lo hi) (inV x lo hi) hi]
def tiB (x lo hi : Int) : Int:=either (tiY x lo hi) (tiL x lo hi)
def tiS (x lo hi : Int) : Int:=eitherS (tiY x lo hi) (tiL x lo hi)
theorem btw_in {x lo hi : Int} (h1 : 0 ≤ lo) (h2 : lo ≤ hi) (h3 : hi ≤ 1000000) : lo ≤ btw x lo hi ∧ btw x lo hi ≤ hi:=btw_spec (by omega) h2 (by omega)
theorem inV_in (x : Int) {lo hi : Int} (h1 : 0 ≤ lo) (h2 : lo ≤ hi) (h3 : hi ≤ 1000000) : lo ≤ inV x lo hi ∧ inV x lo hi ≤ hi:=by
 have m:=either_mem (btwS (btwS x lo hi) lo hi) (l:=inL x lo hi) (by simp [inL]) (by simp [inL])
 have e : either (btwS (btwS x lo hi) lo hi) (inL x lo hi) = inV x lo hi:=rfl
 rw [e] at m
 generalize inV x lo hi = v at m ⊢
 have a:=btw_in (x:=x) h1 h2 h3
 have b:=btw_in (x:=btwS x lo hi) h1 h2 h3
 unfold inL at m
 generalize btw x lo hi = y at m a
 generalize btw (btwS x lo hi) lo hi = z at m b
 clear e
 simp only [List.mem_cons,List.not_mem_nil,or_false] at m
 omega
theorem ti_in (x : Int) {lo hi : Int} (h1 : 0 ≤ lo) (h2 : lo ≤ hi) (h3 : hi ≤ 1000000) : lo ≤ tiA x lo hi ∧ tiA x lo hi ≤ tiB x lo hi ∧ tiB x lo hi ≤ hi:=by
 have a:=inV_in x h1 h2 h3
 have p : tiA x lo hi = lo ∨ tiA x lo hi = inV x lo hi:=either2 _ _ _
 have q : tiB x lo hi = hi ∨ tiB x lo hi = btw (tiX x lo hi) (inV x lo hi) hi:=either2 _ _ _
 have r:=btw_in (x:=tiX x lo hi) (lo:=inV x lo hi) (hi:=hi) (by omega) a.2 h3
 generalize btw (tiX x lo hi) (inV x lo hi) hi = y at q r
 generalize inV x lo hi = v at a p r
 generalize tiA x lo hi = c at p ⊢
 generalize tiB x lo hi = d at q ⊢
 omega
def SK (H : AHeap) (s : Nat) (v : Value) : Prop:=∃ d T k,H.get (vblk v) = .cells d T k ∧ ∀ g e l,k = .gr g e l → e = s
theorem SK.fr {N : Nat} {X : List Nat} {A B : AHeap} (hF : Fr N X A B) {s : Nat} {v : Value} (h : SK A s v) (hb : vblk v < A.n) (hx : vblk v ∉ X) : SK B s v:=by
 obtain ⟨d,T,k,h1,h2⟩:=h
 exact ⟨d,T,k,(hF.old _ hb hx).trans h1,h2⟩
theorem GS.sk {H : AHeap} {s n : Nat} {v : Value} {c : List Value} {g : Option Nat} (h : GS H s n v c g) : n = 0 ∨ SK H s v:=by
 cases h with
 | nil hn hv hc => exact .inl hn
 | full hv hb hg hk hl hc h0 =>
  subst hv
  refine .inr ⟨_,_,_,hg,fun g e l hkk => ?_⟩
  rcases hk with rfl | rfl <;> cases hkk
 | gr hv hb hgb hg hl hf =>
  subst hv
  exact .inr ⟨_,_,_,hg,fun g e l hkk => by cases hkk;rfl⟩
def sl (v : Value) (j : Nat) : Value:=match v with | .slice (some a) _ k => .slice (some a) j k | _ => .slice none 0 0
theorem slice_pre {P : Program} {t e : TypeId} {s : Nat} (hu : P.underlying t = some (.slice e)) (hs : tySize P e = some s) {H : AHeap} {v : Value} {c : List Value} {n j : Nat} {q : IntKind} (S : SR H s n v c) (K : SK H s v) (hj : j ≤ n) (hn : 0 < n) :
  sliceA P H t v none (some (.int q j)) none = some (sl v j) ∧ SR H s j (sl v j) (c.take (j * s)):=by
 rcases S.shape with ⟨_,rfl⟩ | ⟨b,o,k,rfl,hk⟩
 ·omega
 ·obtain ⟨d,T,kd,g1,g2⟩:=K
  have g1 : H.get b = .cells d T kd:=g1
  have hb : bndsA n k none (some (.int q j)) none = some (0,j,k):=by
   unfold bndsA bndO bnd1
   simp only [Option.bind_some,Option.isSome_none,Bool.false_eq_true,false_and,if_false,Option.map_some]
   rw [if_pos ⟨by omega,by omega⟩]
   simp
  constructor
  ·unfold sliceA
   rw [hu]
   dsimp only
   rw [hb,hs,g1]
   cases kd with
   | gr g e' l =>
    dsimp only
    rw [if_pos ⟨g2 _ _ _ rfl,rfl⟩]
    simp [sl]
   | ex =>
    dsimp only
    rw [if_neg (by omega)]
    simp [sl]
   | ro =>
    dsimp only
    rw [if_neg (by omega)]
    simp [sl]
  ·have hjs : j * s ≤ n * s:=Nat.mul_le_mul_right _ hj
   refine ⟨.inr ⟨b,o,k,rfl,by omega⟩,by rw [List.length_take,S.len];omega, ?_,.inr (S.lt.resolve_left (by omega))⟩
   right
   rcases S.cells with h | ⟨d2,h1,h2,h3⟩
   ·omega
   ·refine ⟨d2,h1, ?_, ?_⟩
    ·show o + j * s ≤ d2.length
     have h2 : o + n * s ≤ d2.length:=h2
     omega
    ·show (d2.drop o).take (j * s) = c.take (j * s)
     have h3 : (d2.drop o).take (n * s) = c:=h3
     rw [← h3,List.take_take,Nat.min_eq_left hjs]
theorem sl_blk {v : Value} {n j : Nat} {H : AHeap} {s : Nat} {c : List Value} (S : SR H s n v c) (hn : 0 < n) : vblk (sl v j) = vblk v:=by
 rcases S.shape with ⟨_,rfl⟩ | ⟨b,o,k,rfl,hk⟩
 ·omega
 ·rfl
theorem flat_take {α : Type} {enc : α → List Value} {s : Nat} (hs : ∀ a,(enc a).length = s) : ∀ (l : List α) (j : Nat),(l.flatMap enc).take (j * s) = (l.take j).flatMap enc
 | [],j => by simp
 | a :: l,0 => by simp
 | a :: l,j + 1 => by
  rw [List.flatMap_cons,List.take_succ_cons,List.flatMap_cons,← flat_take hs l j,List.take_append,hs]
  have : (j + 1) * s = j * s + s:=by rw [Nat.add_mul,Nat.one_mul]
  rw [List.take_of_length_le (by rw [hs];omega),this,Nat.add_sub_cancel]
theorem getD_take {α : Type} [Inhabited α] {l : List α} {i j : Nat} (h : i < j) : (l.take j).getD i default = l.getD i default:=by
 simp [List.getD,List.getElem?_take_of_lt h]
def Sole (H : AHeap) (b : Nat) : Prop:=∀ b' c T e l,H.get b' = .cells c T (.gr b e l) → b' = b
theorem Sole.fr {N : Nat} {X : List Nat} {A B : AHeap} (hF : Fr N X A B) {b : Nat} (h : Sole A b) (hb : b < N) : Sole B b:=by
 intro b' c T e l hg
 have:=hF.grp b' c T b e l hg hb
 exact h b' c T e l (this ▸ hg)
theorem stG_sole {H : AHeap} {b o s : Nat} {x : Value} {c : List Value} {T : TypeId} {e : Nat} (h : Sole H b) (hx : notTup x = true) (hs : x.cells.size = s) (ho : o + s ≤ c.length) :
  stG H b o s x (.cells c T (.gr b e true)) = some (H.upd H.n b (.cells (splice c o x.cells.toList) T (.gr b e true))):=by
 unfold stG
 dsimp only
 rw [if_pos ⟨hx,hs,ho,rfl⟩]
 congr 1
 show (⟨H.n,_⟩ : AHeap) = ⟨H.n,_⟩
 congr 1
 funext b'
 show (if b' = b then _ else (H.kill b b).get b') = _
 by_cases e1 : b' = b
 ·rw [if_pos e1,if_pos e1]
 ·rw [if_neg e1,if_neg e1]
  show (if b' = b then H.get b' else if b' < b then H.get b' else (H.get b').killed b) = H.get b'
  rw [if_neg e1]
  split
  ·rfl
  ·unfold AObj.killed
   split
   ·rename_i c' T' g' e' l' hg
    split
    ·rename_i hgg
     subst hgg
     exact absurd (h _ _ _ _ _ hg) e1
    ·exact hg.symm
   ·rfl
theorem Sole.upd {H : AHeap} {b n b2 : Nat} {o : AObj} (h : Sole H b) (ho : ∀ c T e l,o = .cells c T (.gr b e l) → b2 = b) : Sole (H.upd n b2 o) b:=by
 intro b' c T e l hg
 by_cases e1 : b' = b2
 ·subst e1
  rw [upd_get_same] at hg
  exact ho _ _ _ _ hg
 ·rw [upd_get_ne e1] at hg
  exact h _ _ _ _ _ hg
theorem oB_appS {P : Program} {ts : Array TypeId} {H : AHeap} {s n m e : Nat} {v x : Value} {c new : List Value} {K : Value → AHeap → Prop} (ht : Top H) (G : GS H s n v c none) (S : SR H s m x new)
  (h1 : 0 < m → appendOp P ts [v,x] H = some (.slice (some ⟨H.n,0,none⟩) (n + m) (n + m),H.upd (H.n + 1) H.n (.cells (c ++ new) e (.gr H.n s true)))) (h0 : m = 0 → appendOp P ts [v,x] H = some (v,H))
  (k : ∀ v' Gq gg,H.n ≤ Gq.n → Jn H Gq → GS (H.jn Gq) s (n + m) v' (c ++ new) gg → (∀ x,gg = some x → H.n ≤ x) → (v' = v ∨ vblk v' = H.n) → vblk v' < Gq.n ∨ n + m = 0 →
   (0 < m → v' = .slice (some ⟨H.n,0,none⟩) (n + m) (n + m) ∧ (H.jn Gq).get H.n = .cells (c ++ new) e (.gr H.n s true) ∧ Sole (H.jn Gq) H.n ∧ H.n < Gq.n) → K v' (H.jn Gq)) : oB (appendOp P ts [v,x] H) K:=by
 by_cases hm : m = 0
 ·rw [h0 hm]
  have hj:=Jn.self ht
  have hnew : new = []:=by have:=S.len;subst hm;simpa using this
  subst hm hnew
  have:=k v H none (Nat.le_refl _) hj.1 (by rw [hj.2,List.append_nil];exact G) (by simp) (.inl rfl) (by
   rcases G.sr.lt with q | q
   ·exact .inr q
   ·exact .inl q) (fun q => absurd q (by omega))
  rw [hj.2] at this
  exact this
 ·rw [h1 (by omega)]
  have GG:=GS.pushed (e:=e) ht G S.len
  have hf : Fr H.n [] H (H.upd (H.n + 1) H.n (.cells (c ++ new) e (.gr H.n s true))):=(Fr.refl H).upd (Nat.le_succ _) (Nat.lt_succ_self _) (.inl (Nat.le_refl _)) ⟨Nat.le_refl _,Nat.le_refl _⟩
  obtain ⟨e1,hj⟩:=hf.to_jn ht
  show K _ (H.upd (H.n + 1) H.n (.cells (c ++ new) e (.gr H.n s true)))
  have GG' : GS (H.upd (H.n + 1) H.n (.cells (c ++ new) e (.gr H.n s true))) s (n + m) (.slice (some ⟨H.n,0,none⟩) (n + m) (n + m)) (c ++ new) (some H.n):=GG
  have so : Sole (H.upd (H.n + 1) H.n (.cells (c ++ new) e (.gr H.n s true))) H.n:=by
   refine Sole.upd ?_ fun _ _ _ _ _ => rfl
   intro b' c' T' e' l' hg
   have:=ht.2 b' _ _ _ _ _ hg
   by_cases q : H.n ≤ b'
   ·rw [ht.1 b' q] at hg;cases hg
   ·omega
  have:=k (.slice (some ⟨H.n,0,none⟩) (n + m) (n + m)) _ (some H.n) (Nat.le_succ _) hj (e1 ▸ GG') (fun x hx => by cases hx;exact Nat.le_refl _) (.inr rfl) (.inl (Nat.lt_succ_self _)) (fun _ => ⟨rfl,e1 ▸ upd_get_same,e1 ▸ so,Nat.lt_succ_self _⟩)
  rw [← e1] at this
  exact this
theorem oblR_refl {ops : Array Oper} {k : Nat} {H : AHeap} : ∀ (rs : List (Nat × Nat)),oblR ops k H H rs
 | [] => trivial
 | r :: rs => ⟨.inr rfl,oblR_refl rs⟩
theorem oblA_of {ops : Array Oper} {k b : Nat} : ∀ {as : List (Nat × AHeap × AHeap)},(∀ a,a ∈ as → isAnc ops a.1 k = true ∨ a.2.2.get b = a.2.1.get b) → oblA ops k b as
 | [],_ => trivial
 | a :: as,h => ⟨h a (List.mem_cons_self ..),oblA_of fun x hx => h x (List.mem_cons_of_mem _ hx)⟩
theorem WO_post {P : Program} {C : CallRel} {ops : Array Oper} {os : List Oper} {K K' : Env → AHeap → Prop} {env : Env} {H : AHeap} (h : WO P C ops os K env H) (hk : ∀ e h,K e h → K' e h) : WO P C ops os K' env H:=by
 obtain ⟨e,h',r,q⟩:=h
 exact ⟨e,h',r,hk _ _ q⟩
theorem WD_harm {P : Program} {C : CallRel} {ops : Array Oper} {K : Env → AHeap → Prop} : ∀ (os : List Oper) {k : Nat} {rs : List (Nat × Nat)} {as as' : List (Nat × AHeap × AHeap)} {e : Env} {h : AHeap},
  (∀ a,a ∈ as' → a ∈ as ∨ ∀ b,a.2.2.get b = a.2.1.get b) → WD P C ops os k rs as K e h → WD P C ops os k rs as' K e h
 | [],k,rs,as,as',e,h,ha,w => w
 | o :: os,k,rs,as,as',e,h,ha,w => by
  unfold WD at w ⊢
  by_cases hs : simpleOp o.op = true
  ·rw [if_pos hs] at w ⊢
   refine ⟨?_,WO_post w.2 fun e h q => WD_harm os ha q⟩
   have w1:=w.1
   unfold oblO at w1 ⊢
   split
   ·rename_i b hb
    rw [hb] at w1
    refine oblA_of fun a hx => ?_
    rcases ha a hx with q | q
    ·exact oblA_mem w1 a q
    ·exact .inr (q b)
   ·trivial
  ·rw [if_neg hs] at w ⊢
   refine WO_post w fun e' h' q => ⟨q.1,WD_harm os (fun a hx => ?_) q.2⟩
   rcases List.mem_cons.1 hx with rfl | hx
   ·exact .inl (List.mem_cons_self ..)
   ·rcases ha a hx with q | q
    ·exact .inl (List.mem_cons_of_mem _ q)
    ·exact .inr q
section
variable {P : Program} {C : CallRel} {ops : Array Oper} {os : List Oper} {K : Env → AHeap → Prop} {env : Env} {H : AHeap} {dst : Option Tmp} {ty : TypeId} {pos : String} {aft : Array Edge} {k j : Nat} {rs : List (Nat × Nat)} {as : List (Nat × AHeap × AHeap)} {op : Op} {d : Tmp} {t : Bool}
theorem WD_gX {b : Bool} (hd : (ops[j]?).bind (·.dst) = some d) (hv : env d = .bool t) (h1 : t = b → WD P C ops (⟨dst,op,ty,pos,aft,none⟩ :: os) k rs as K env H) (h2 : t ≠ b → WD P C ops os (k + 1) rs as K (env.set dst undef) H)
  (hw : Region.wanted ⟨dst,op,ty,pos,aft,some (j,b)⟩ (yieldedA ops env) = decide (t = b))
  (hg : ∀ (K' : Env → AHeap → Prop),(t = b → WO P C ops [⟨dst,op,ty,pos,aft,none⟩] K' env H) → (t ≠ b → K' (env.set dst undef) H) → WO P C ops [⟨dst,op,ty,pos,aft,some (j,b)⟩] K' env H) :
  WD P C ops (⟨dst,op,ty,pos,aft,some (j,b)⟩ :: os) k rs as K env H:=by
 unfold WD
 by_cases hs : simpleOp op = true
 ·rw [if_pos hs]
  by_cases e : t = b
  ·have h:=h1 e
   unfold WD at h
   rw [if_pos hs] at h
   have ht : tch ops env H ⟨dst,op,ty,pos,aft,some (j,b)⟩ = tch ops env H ⟨dst,op,ty,pos,aft,none⟩:=by
    unfold tch
    rw [hw,decide_eq_true e,if_pos rfl,if_pos (by simp [Region.wanted])]
   rw [ht]
   exact ⟨h.1,hg _ (fun _ => h.2) fun q => absurd e q⟩
  ·have ht : tch ops env H ⟨dst,op,ty,pos,aft,some (j,b)⟩ = none:=by
    unfold tch
    rw [hw,decide_eq_false e,if_neg (by simp)]
   rw [ht]
   exact ⟨trivial,hg _ (fun q => absurd q e) fun _ => h2 e⟩
 ·rw [if_neg hs]
  refine hg _ (fun e => ?_) fun e => ⟨oblR_refl rs, ?_⟩
  ·have h:=h1 e
   unfold WD at h
   rw [if_neg hs] at h
   exact h
  ·-- an operation that is not wanted changes nothing
   refine WD_harm os (fun a hx => ?_) (h2 e)
   rcases List.mem_cons.1 hx with rfl | hx
   ·exact .inr fun _ => rfl
   ·exact .inl hx
theorem WD_gT (hd : (ops[j]?).bind (·.dst) = some d) (hv : env d = .bool t) (h1 : t = true → WD P C ops (⟨dst,op,ty,pos,aft,none⟩ :: os) k rs as K env H) (h2 : t = false → WD P C ops os (k + 1) rs as K (env.set dst undef) H) :
  WD P C ops (⟨dst,op,ty,pos,aft,some (j,true)⟩ :: os) k rs as K env H :=
 WD_gX hd hv h1 (fun q => h2 (by simpa using q)) (by have hy:=yielded_of (ops:=ops) hd hv;show (yieldedA ops env j == some _) = _;rw [hy];cases t <;> rfl) fun K' a b => WO_gT hd hv a fun q => ⟨_,_,⟨rfl,rfl⟩,b (by simp [q])⟩
theorem WD_gF (hd : (ops[j]?).bind (·.dst) = some d) (hv : env d = .bool t) (h1 : t = false → WD P C ops (⟨dst,op,ty,pos,aft,none⟩ :: os) k rs as K env H) (h2 : t = true → WD P C ops os (k + 1) rs as K (env.set dst undef) H) :
  WD P C ops (⟨dst,op,ty,pos,aft,some (j,false)⟩ :: os) k rs as K env H :=
 WD_gX hd hv h1 (fun q => h2 (by simpa using q)) (by have hy:=yielded_of (ops:=ops) hd hv;show (yieldedA ops env j == some _) = _;rw [hy];cases t <;> rfl) fun K' a b => WO_gF hd hv a fun q => ⟨_,_,⟨rfl,rfl⟩,b (by simp [q])⟩
end
theorem W_forget {P : Program} {C : CallRel} {nt : Nat} {c : Code} {env : Env} {h : AHeap} {Q : Post} {N : Nat} {X : List Nat} {h0 : AHeap} (p : AHeap → Prop) (F : Fr N X h0 h) (hp : p h) (k : ∀ h',Fr N X h0 h' → p h' → W P C 0 nt c env h' Q) : W P C 0 nt c env h Q:=k h F hp
theorem WD_post {P : Program} {C : CallRel} {ops : Array Oper} {K K' : Env → AHeap → Prop} (hk : ∀ e h,K e h → K' e h) : ∀ (os : List Oper) {k : Nat} {rs : List (Nat × Nat)} {as : List (Nat × AHeap × AHeap)} {e : Env} {h : AHeap},
  WD P C ops os k rs as K e h → WD P C ops os k rs as K' e h
 | [],k,rs,as,e,h,w => hk _ _ w
 | o :: os,k,rs,as,e,h,w => by
  unfold WD at w ⊢
  by_cases hs : simpleOp o.op = true
  ·rw [if_pos hs] at w ⊢
   exact ⟨w.1,WO_post w.2 fun e h q => WD_post hk os q⟩
  ·rw [if_neg hs] at w ⊢
   exact WO_post w fun e' h' q => ⟨q.1,WD_post hk os q.2⟩
theorem W_drawnP {P : Program} {C : CallRel} {ng nt id : Nat} {l : List Oper} {env : Env} {H : AHeap} {Q : Post} (R : Env → AHeap → Prop) (h1 : WD P C ⟨l⟩ l 0 [] [] R env H) (h2 : ∀ e h,R e h → Q .normal e h) : W P C ng nt (.region id ⟨l⟩ true) env H Q :=
 W_drawn fun K hK => WD_post (fun e h r => hK e h (h2 e h r)) l h1
end Go.Proofs.Swa
set_option linter.unusedVariables false
set_option linter.unusedSimpArgs false
set_option linter.defProp false
namespace Go.Proofs.Swa
open Go
theorem dA {p : Prop} (h : p:=by first | omega | exact eHp_len _ | exact eAct_len _ | exact eMom_len _ | exact sums_len _ | exact eRng_len _ | exact eSpo_len _ | exact eSrt_len _ | (simp only [mLenC,mLenN,mLenA,zs_len,eHp_len,eAct_len,eMom_len,sums_len,eRng_len,eSpo_len,eSrt_len,upd_n,jn_n];first | done | omega) | (simp only [List.mem_cons,List.not_mem_nil,or_false,not_or,not_false_eq_true,upd_n,jn_n];first | done | omega)) : p:=h
theorem hcX {p q : Prop} (h : p) (n : p → False:=by (intro hc;first | exact absurd hc (by decide) | (simp only [hcs] at hc;first | contradiction | (exfalso;omega)) | contradiction)) : q:=(n h).elim
theorem woI {P : Program} {C : CallRel} {ops : Array Oper} {os : List Oper} {K : Env → AHeap → Prop} {env : Env} {H : AHeap} (h : WO P C ops os K env H) : WO P C ops os K env H:=h
theorem wdI {P : Program} {C : CallRel} {ops : Array Oper} {os : List Oper} {k : Nat} {rs : List (Nat × Nat)} {as : List (Nat × AHeap × AHeap)} {K : Env → AHeap → Prop} {env : Env} {H : AHeap} (h : WD P C ops os k rs as K env H) : WD P C ops os k rs as K env H:=h
theorem oA {p : Prop} (h : p:=by ((try simp only [upd_n,jn_n]);omega)) : p:=h
theorem topA {H : AHeap} (h : Top H:=by (repeat' (first | with_reducible assumption | ((with_reducible refine Top.jn ?_ ?_);rotate_left;(focus with_reducible assumption)) | ((with_reducible refine Top.upd ?_ ?_ ?_ ?_);rotate_left;(focus exact oA);(focus exact oA);(focus first | trivial | exact ⟨oA,oA⟩))))) : Top H:=h
theorem frA {N : Nat} {X : List Nat} {A B : AHeap} (h : Fr N X A B:=by (repeat' (first | with_reducible exact Fr.refl _ | with_reducible assumption | ((with_reducible apply Fr.trans) <;> with_reducible assumption) | ((with_reducible refine Fr.jn ?_ ?_ ?_);rotate_left;(focus with_reducible assumption);(focus exact oA)) | ((with_reducible refine Fr.upd ?_ ?_ ?_ ?_ ?_);rotate_left;(focus exact oA);(focus exact oA);(focus first | (left;exact oA) | (right;simp;done));(focus first | trivial | exact ⟨oA,oA⟩))))) : Fr N X A B:=h
theorem nxA {p : Prop} (h : p:=by (simp only [List.mem_cons,List.not_mem_nil,or_false,not_or];omega)) : p:=h
def qbs:=And.intro qb sp
def qds:=And.intro qd qbs
def qcs:=And.intro qc (And.intro qe (And.intro @stG_agg sp))
def spx:=And.intro sp (And.intro (@if_true.{0}) (And.intro (@if_false.{0}) (@ite_self.{0})))
def qbx:=And.intro qb spx
def qdx:=And.intro qd qbx
def qcx:=And.intro qc (And.intro qe (And.intro @stG_agg spx))
theorem obA {p : Prop} (h : p:=by (simp only [oblR,oblA];(repeat' (first | exact trivial | (refine And.intro ?_ ?_) | (right;simp (disch:=first | exact dA | fail) only [qcs,Int.reduceToNat,Nat.reduceAdd,Nat.reduceMul,Nat.reduceEqDiff,reduceIte,reduceCtorEq,Nat.reduceLT];done) | (right;(apply Top.dead2);(focus exact oA);(focus exact oA);(focus exact topA);(focus exact topA);done) | (left;decide))))) : p:=h
theorem W_regionE {P : Program} {C : CallRel} {ng nt : Nat} {id : Nat} {l : List Oper} {env : Env} {H : AHeap} {Q : Post} (L : Nat → List Nat) (X : List Nat) (h : ∀ K : Env → AHeap → Prop,(∀ e h,(∀ e',(∀ t,t ∈ L id → e' t = e t) → Q .normal e' h) → K e h) → WO P C ⟨l⟩ l K env H) (hx : id ∉ X:=by decide) : W P C ng nt (.region id ⟨l⟩ false) env H Q:=W_regionF L h
theorem W_drawnE {P : Program} {C : CallRel} {ng nt : Nat} {id : Nat} {l : List Oper} {env : Env} {H : AHeap} {Q : Post} (L : Nat → List Nat) (X : List Nat) (h : ∀ K : Env → AHeap → Prop,(∀ e h,(∀ e',(∀ t,t ∈ L id → e' t = e t) → Q .normal e' h) → K e h) → WD P C ⟨l⟩ l 0 [] [] K env H) (hx : id ∉ X:=by decide) : W P C ng nt (.region id ⟨l⟩ true) env H Q:=W_drawnF L h
end Go.Proofs.Swa
set_option linter.unusedVariables false
set_option linter.unusedSimpArgs false
namespace Go.Proofs.Swa
open Go
inductive RuleV (H : AHeap) (E : List Nat) : Value → Rul → Prop
 | one {b : Nat} {w : Way} (hb : b ∉ E ∧ b < H.n) (hg : H.get b = .cells (eWay w) 144 .ex) : RuleV H E (.func (.func 111) #[] #[vptr b 0]) [w]
 | pair {b0 b1 b2 b3 : Nat} {a b : Nat} {m n : Mom} (h0 : b0 ∉ E ∧ b0 < H.n) (h1 : b1 ∉ E ∧ b1 < H.n) (h2 : b2 ∉ E ∧ b2 < H.n) (h3 : b3 ∉ E ∧ b3 < H.n)
   (g0 : H.get b0 = .cells [iv a] 3 .ex) (g1 : H.get b1 = .cells (eMom m) 101 .ex) (g2 : H.get b2 = .cells [iv b] 3 .ex) (g3 : H.get b3 = .cells (eMom n) 101 .ex) :
   RuleV H E (.func (.func 106) #[] #[vptr b0 0,vptr b1 0,vptr b2 0,vptr b3 0]) [emptyW a m,emptyW b n]
theorem RuleV.fr {N : Nat} {X : List Nat} {A B : AHeap} {E : List Nat} {v : Value} {r : Rul} (hF : Fr N X A B) (hX : ∀ b,b ∈ X → b < A.n → b ∈ E) (h : RuleV A E v r) : RuleV B E v r:=by
 have nx : ∀ b,b ∉ E ∧ b < A.n → b ∉ X:=fun b hb hm => hb.1 (hX b hm hb.2)
 have hn:=hF.n
 cases h with
 | one hb hg => exact .one ⟨hb.1,by omega⟩ ((hF.old _ hb.2 (nx _ hb)).trans hg)
 | pair h0 h1 h2 h3 g0 g1 g2 g3 =>
  exact .pair ⟨h0.1,by omega⟩ ⟨h1.1,by omega⟩ ⟨h2.1,by omega⟩ ⟨h3.1,by omega⟩ ((hF.old _ h0.2 (nx _ h0)).trans g0) ((hF.old _ h1.2 (nx _ h1)).trans g1) ((hF.old _ h2.2 (nx _ h2)).trans g2) ((hF.old _ h3.2 (nx _ h3)).trans g3)
theorem RuleV.ex {A : AHeap} {E E' : List Nat} {v : Value} {r : Rul} (hl : ∀ b,b ∈ E' → b < A.n → b ∈ E) (h : RuleV A E v r) : RuleV A E' v r:=by
 have nx : ∀ b,b ∉ E ∧ b < A.n → b ∉ E' ∧ b < A.n:=fun b hb => ⟨fun hm => hb.1 (hl b hm hb.2),hb.2⟩
 cases h with
 | one hb hg => exact .one (nx _ hb) hg
 | pair h0 h1 h2 h3 g0 g1 g2 g3 => exact .pair (nx _ h0) (nx _ h1) (nx _ h2) (nx _ h3) g0 g1 g2 g3
theorem RuleV.one' {A : AHeap} {E : List Nat} {v : Value} {r : Rul} (h : RuleV A E v r) : Swa.one v:=by
 cases h <;> exact one_func
def RulesV (H : AHeap) (E : List Nat) : List Value → List Rul → Prop
 | [],[] => True
 | v :: vs,r :: rs => RuleV H E v r ∧ RulesV H E vs rs
 | _,_ => False
theorem RulesV.len {H : AHeap} {E : List Nat} : ∀ {vs : List Value} {rs : List Rul},RulesV H E vs rs → vs.length = rs.length
 | [],[],_ => rfl
 | v :: vs,r :: rs,h => by rw [List.length_cons,List.length_cons,RulesV.len h.2]
 | [],r :: rs,h => h.elim
 | v :: vs,[],h => h.elim
theorem RulesV.app {H : AHeap} {E : List Nat} : ∀ {vs : List Value} {rs : List Rul} {us : List Value} {ss : List Rul},RulesV H E vs rs → RulesV H E us ss → RulesV H E (vs ++ us) (rs ++ ss)
 | [],[],_,_,_,k => k
 | v :: vs,r :: rs,_,_,h,k => ⟨h.1,RulesV.app h.2 k⟩
 | [],r :: rs,_,_,h,_ => h.elim
 | v :: vs,[],_,_,h,_ => h.elim
theorem RulesV.at {H : AHeap} {E : List Nat} : ∀ {vs : List Value} {rs : List Rul},RulesV H E vs rs → ∀ i,i < rs.length → ∃ v,vs[i]? = some v ∧ RuleV H E v (rs.getD i default)
 | [],[],_,i,hi => by simp at hi
 | v :: vs,r :: rs,h,0,_ => ⟨v,rfl,h.1⟩
 | v :: vs,r :: rs,h,i + 1,hi => RulesV.at h.2 i (by simpa using hi)
 | [],r :: rs,h,_,_ => h.elim
 | v :: vs,[],h,_,_ => h.elim
theorem RulesV.fr {N : Nat} {X : List Nat} {A B : AHeap} {E : List Nat} (hF : Fr N X A B) (hX : ∀ b,b ∈ X → b < A.n → b ∈ E) : ∀ {vs : List Value} {rs : List Rul},RulesV A E vs rs → RulesV B E vs rs
 | [],[],_ => trivial
 | v :: vs,r :: rs,h => ⟨h.1.fr hF hX,RulesV.fr hF hX h.2⟩
 | [],r :: rs,h => h.elim
 | v :: vs,[],h => h.elim
theorem RulesV.ex {A : AHeap} {E E' : List Nat} (hl : ∀ b,b ∈ E' → b < A.n → b ∈ E) : ∀ {vs : List Value} {rs : List Rul},RulesV A E vs rs → RulesV A E' vs rs
 | [],[],_ => trivial
 | v :: vs,r :: rs,h => ⟨h.1.ex hl,RulesV.ex hl h.2⟩
 | [],r :: rs,h => h.elim
 | v :: vs,[],h => h.elim
def WayOk (n : Nat) (w : Way) : Prop:=w.spot < n ∧ w.a < 11 ∧ w.b < 11
def RulOk (n : Nat) (r : Rul) : Prop:=∀ w,w ∈ r → WayOk n w
def RulsOk (n : Nat) (rs : List Rul) : Prop:=∀ r,r ∈ rs → RulOk n r
theorem W_both {P : Program} {C : CallRel} {ng nt : Nat} {r c : Code} {env : Env} {H : AHeap} {Q : Post} (R : Env → AHeap → Prop) (h1 : W P C ng nt r env H (seqK P C ng nt c fun x e h => x = .normal ∧ R e h)) (h2 : ∀ e h,R e h → Q .normal e h) :
  W P C ng nt r env H (seqK P C ng nt c Q):=by
 refine W_mono h1 fun x e h q => ?_
 cases x with
 | normal =>
  refine W_mono q fun x e h q => ?_
  obtain ⟨rfl,q⟩:=q
  exact h2 e h q
 | exit i => cases q.1
 | ret => cases q.1
structure HeapR (H h : AHeap) (va vb vc vh : Value) (spot : Nat) (hour : Int) (p : Hp × Value) (now : Mom) (B8 B9 B10 B11 gB sB L : Nat) (LX : AObj) (out : List Rul) (bf tp : Nat) (vo : Value) (vs : List Value) (gg : Option Nat) : Prop where
 y : h.get H.n = .cells [va,vb,vc,vh] 91 .ex
 s : h.get (H.n + 1) = .cells [iv spot] 3 .ex
 t : h.get (H.n + 2) = .cells [iv hour] 3 .ex
 hp : h.get (H.n + 3) = .cells (eHp p) 99 .ex
 now : h.get B8 = .cells (eMom now) 101 .ex
 o : h.get B9 = .cells [vo] 114 .ex
 b : h.get B10 = .cells [iv bf] 3 .ex
 tp : h.get B11 = .cells [iv tp] 3 .ex
 g : h.get gB = .cells [va,vb,vc] 26 .ex
 sb : h.get sB = .cells [iv spot] 3 .ex
 lo : h.get L = LX
 G : GS h 1 out.length vo vs gg
 gr : ∀ x,gg = some x → H.n ≤ x
 vb : vblk vo ∉ [B9,B10,B11,L] ∧ H.n ≤ vblk vo
 R : RulesV h [B9,B10,B11,L] vs out
 F : Fr H.n [] H h
 T : Top h
 lt : L < h.n
def InRow (a b c d e f g i : Nat) : Prop:=a + 3 < b ∧ b < c ∧ c < d ∧ d < e ∧ e < f ∧ f < g ∧ g < i
section
variable {H h h' : AHeap} {va vb vc vh : Value} {spot : Nat} {hour : Int} {p : Hp × Value} {now : Mom} {B8 B9 B10 B11 gB sB L : Nat} {LX : AObj} {out : List Rul} {bf tp : Nat} {vo : Value} {vs : List Value} {gg : Option Nat}
theorem HeapR.mono (k : HeapR H h va vb vc vh spot hour p now B8 B9 B10 B11 gB sB L LX out bf tp vo vs gg) (r : InRow H.n B8 B9 B10 B11 gB sB L) (F : Fr h.n [] h h') (hH : H.n ≤ h.n) : HeapR H h' va vb vc vh spot hour p now B8 B9 B10 B11 gB sB L LX out bf tp vo vs gg:=by
 obtain ⟨r1,r2,r3,r4,r5,r6,r7⟩:=r
 have l:=k.lt
 have hn:=F.n
 have o : ∀ b,b < h.n → h'.get b = h.get b:=fun b hb => F.old b hb (by simp)
 exact ⟨by rw [o _ (by omega)];exact k.y,by rw [o _ (by omega)];exact k.s,by rw [o _ (by omega)];exact k.t,by rw [o _ (by omega)];exact k.hp,by rw [o _ (by omega)];exact k.now,by rw [o _ (by omega)];exact k.o,by rw [o _ (by omega)];exact k.b,by rw [o _ (by omega)];exact k.tp,
  by rw [o _ (by omega)];exact k.g,by rw [o _ (by omega)];exact k.sb,by rw [o _ (by omega)];exact k.lo,k.G.fr F (fun x hx => by subst hx;exact k.G.grp_lt) (by simp),k.gr,k.vb,k.R.fr F (by simp),k.F.call F hH,F.top k.T,by omega⟩
theorem HeapR.setL (k : HeapR H h va vb vc vh spot hour p now B8 B9 B10 B11 gB sB L LX out bf tp vo vs gg) (r : InRow H.n B8 B9 B10 B11 gB sB L) (hH : H.n ≤ L) {LY : AObj} (hL : ∀ N b,grOk N b LY) : HeapR H (h.upd h.n L LY) va vb vc vh spot hour p now B8 B9 B10 B11 gB sB L LY out bf tp vo vs gg:=by
 obtain ⟨r1,r2,r3,r4,r5,r6,r7⟩:=r
 have l:=k.lt
 have F : Fr h.n [L] h (h.upd h.n L LY):=(Fr.refl h).upd (Nat.le_refl _) l (.inr (by simp)) (hL _ _)
 have F0 : Fr H.n [] H (h.upd h.n L LY):=k.F.upd (Nat.le_refl _) l (.inl hH) (hL _ _)
 have o : ∀ b,b ≠ L → (h.upd h.n L LY).get b = h.get b:=fun b hb => upd_get_ne hb
 have v1:=k.vb.1
 simp only [List.mem_cons,List.not_mem_nil,or_false,not_or] at v1
 exact ⟨by rw [o _ (by omega)];exact k.y,by rw [o _ (by omega)];exact k.s,by rw [o _ (by omega)];exact k.t,by rw [o _ (by omega)];exact k.hp,by rw [o _ (by omega)];exact k.now,by rw [o _ (by omega)];exact k.o,by rw [o _ (by omega)];exact k.b,by rw [o _ (by omega)];exact k.tp,
  by rw [o _ (by omega)];exact k.g,by rw [o _ (by omega)];exact k.sb,upd_get_same,k.G.fr F (fun x hx => by subst hx;exact k.G.grp_lt) (by simpa using v1.2.2.2),k.gr,k.vb,k.R.fr F (by simp),F0,F.top k.T,l⟩
theorem HeapR.setT (k : HeapR H h va vb vc vh spot hour p now B8 B9 B10 B11 gB sB L LX out bf tp vo vs gg) (r : InRow H.n B8 B9 B10 B11 gB sB L) (hH : H.n ≤ B11) (t' : Nat) : HeapR H (h.upd h.n B11 (.cells [iv t'] 3 .ex)) va vb vc vh spot hour p now B8 B9 B10 B11 gB sB L LX out bf t' vo vs gg:=by
 obtain ⟨r1,r2,r3,r4,r5,r6,r7⟩:=r
 have l:=k.lt
 have F : Fr h.n [B11] h (h.upd h.n B11 (.cells [iv t'] 3 .ex)):=(Fr.refl h).upd (Nat.le_refl _) (by omega) (.inr (by simp)) trivial
 have F0 : Fr H.n [] H (h.upd h.n B11 (.cells [iv t'] 3 .ex)):=k.F.upd (Nat.le_refl _) (by omega) (.inl hH) trivial
 have o : ∀ b,b ≠ B11 → (h.upd h.n B11 (.cells [iv t'] 3 .ex)).get b = h.get b:=fun b hb => upd_get_ne hb
 have v1:=k.vb.1
 simp only [List.mem_cons,List.not_mem_nil,or_false,not_or] at v1
 exact ⟨by rw [o _ (by omega)];exact k.y,by rw [o _ (by omega)];exact k.s,by rw [o _ (by omega)];exact k.t,by rw [o _ (by omega)];exact k.hp,by rw [o _ (by omega)];exact k.now,by rw [o _ (by omega)];exact k.o,by rw [o _ (by omega)];exact k.b,upd_get_same,
  by rw [o _ (by omega)];exact k.g,by rw [o _ (by omega)];exact k.sb,by rw [o _ (by omega)];exact k.lo,k.G.fr F (fun x hx => by subst hx;exact k.G.grp_lt) (by simpa using v1.2.2.1),k.gr,k.vb,k.R.fr F (by simp),F0,F.top k.T,l⟩
theorem HeapR.setB (k : HeapR H h va vb vc vh spot hour p now B8 B9 B10 B11 gB sB L LX out bf tp vo vs gg) (r : InRow H.n B8 B9 B10 B11 gB sB L) (hH : H.n ≤ B10) (t' : Nat) : HeapR H (h.upd h.n B10 (.cells [iv t'] 3 .ex)) va vb vc vh spot hour p now B8 B9 B10 B11 gB sB L LX out t' tp vo vs gg:=by
 obtain ⟨r1,r2,r3,r4,r5,r6,r7⟩:=r
 have l:=k.lt
 have F : Fr h.n [B10] h (h.upd h.n B10 (.cells [iv t'] 3 .ex)):=(Fr.refl h).upd (Nat.le_refl _) (by omega) (.inr (by simp)) trivial
 have F0 : Fr H.n [] H (h.upd h.n B10 (.cells [iv t'] 3 .ex)):=k.F.upd (Nat.le_refl _) (by omega) (.inl hH) trivial
 have o : ∀ b,b ≠ B10 → (h.upd h.n B10 (.cells [iv t'] 3 .ex)).get b = h.get b:=fun b hb => upd_get_ne hb
 have v1:=k.vb.1
 simp only [List.mem_cons,List.not_mem_nil,or_false,not_or] at v1
 exact ⟨by rw [o _ (by omega)];exact k.y,by rw [o _ (by omega)];exact k.s,by rw [o _ (by omega)];exact k.t,by rw [o _ (by omega)];exact k.hp,by rw [o _ (by omega)];exact k.now,by rw [o _ (by omega)];exact k.o,upd_get_same,by rw [o _ (by omega)];exact k.tp,
  by rw [o _ (by omega)];exact k.g,by rw [o _ (by omega)];exact k.sb,by rw [o _ (by omega)];exact k.lo,k.G.fr F (fun x hx => by subst hx;exact k.G.grp_lt) (by simpa using v1.2.1),k.gr,k.vb,k.R.fr F (by simp),F0,F.top k.T,l⟩
theorem HeapR.add (k : HeapR H h va vb vc vh spot hour p now B8 B9 B10 B11 gB sB L LX out bf tp vo vs gg) (r : InRow H.n B8 B9 B10 B11 gB sB L) (hH : H.n ≤ B9) {hA : AHeap} (FA : Fr h.n [] h hA) (TA : Top hA) {rv : Value} {w : Rul} (hr : RuleV hA [B9,B10,B11,L] rv w) {gx : Nat} (hgx : gx = gg.getD hA.n)
  (GG : GS (hA.upd (hA.n + 1) hA.n (.cells (vs ++ [rv]) 119 (.gr gx 1 true))) 1 (out.length + 1) (.slice (some ⟨hA.n,0,none⟩) (out.length + 1) (out.length + 1)) (vs ++ [rv]) (some gx)) :
  HeapR H ((hA.upd (hA.n + 1) hA.n (.cells (vs ++ [rv]) 119 (.gr gx 1 true))).upd (hA.n + 1) B9 (.cells [.slice (some ⟨hA.n,0,none⟩) (out.length + 1) (out.length + 1)] 114 .ex)) va vb vc vh spot hour p now B8 B9 B10 B11 gB sB L LX (out ++ [w]) bf tp (.slice (some ⟨hA.n,0,none⟩) (out.length + 1) (out.length + 1)) (vs ++ [rv]) (some gx):=by
 have kA:=k.mono r FA k.F.n
 obtain ⟨r1,r2,r3,r4,r5,r6,r7⟩:=r
 have l:=kA.lt
 have gl : gx ≤ hA.n ∧ H.n ≤ gx:=by
  subst hgx
  cases hgg : gg with
  | none => exact ⟨Nat.le_refl _,by show H.n ≤ hA.n;omega⟩
  | some x =>
   have:=kA.gr x hgg
   have G:=kA.G
   rw [hgg] at G
   have:=G.grp_lt
   exact ⟨by show x ≤ hA.n;omega,by assumption⟩
 have F1 : Fr H.n [] H (hA.upd (hA.n + 1) hA.n (.cells (vs ++ [rv]) 119 (.gr gx 1 true))):=kA.F.upd (Nat.le_succ _) (Nat.lt_succ_self _) (.inl (by omega)) ⟨gl.2,gl.1⟩
 have F2 : Fr H.n [] H ((hA.upd (hA.n + 1) hA.n (.cells (vs ++ [rv]) 119 (.gr gx 1 true))).upd (hA.n + 1) B9 (.cells [.slice (some ⟨hA.n,0,none⟩) (out.length + 1) (out.length + 1)] 114 .ex)):=F1.upd (Nat.le_refl _) (by omega) (.inl hH) trivial
 have FX1 : Fr 0 [B9] hA (hA.upd (hA.n + 1) hA.n (.cells (vs ++ [rv]) 119 (.gr gx 1 true))):=(Fr.refl hA).upd (o:=.cells (vs ++ [rv]) 119 (.gr gx 1 true)) (Nat.le_succ _) (Nat.lt_succ_self _) (.inl (Nat.le_refl _)) ⟨Nat.zero_le _,gl.1⟩
 have FX : Fr 0 [B9] hA ((hA.upd (hA.n + 1) hA.n (.cells (vs ++ [rv]) 119 (.gr gx 1 true))).upd (hA.n + 1) B9 (.cells [.slice (some ⟨hA.n,0,none⟩) (out.length + 1) (out.length + 1)] 114 .ex)):=FX1.upd (Nat.le_refl _) (by omega) (.inr (by simp)) trivial
 have FG : Fr (hA.n + 1) [B9] (hA.upd (hA.n + 1) hA.n (.cells (vs ++ [rv]) 119 (.gr gx 1 true))) ((hA.upd (hA.n + 1) hA.n (.cells (vs ++ [rv]) 119 (.gr gx 1 true))).upd (hA.n + 1) B9 (.cells [.slice (some ⟨hA.n,0,none⟩) (out.length + 1) (out.length + 1)] 114 .ex)):=(Fr.refl _).upd (Nat.le_refl _) (by show B9 < hA.n + 1;omega) (.inr (by simp)) trivial
 have o : ∀ b,b ≠ B9 → b < hA.n → ((hA.upd (hA.n + 1) hA.n (.cells (vs ++ [rv]) 119 (.gr gx 1 true))).upd (hA.n + 1) B9 (.cells [.slice (some ⟨hA.n,0,none⟩) (out.length + 1) (out.length + 1)] 114 .ex)).get b = hA.get b:=fun b hb hn => by rw [upd_get_ne hb,upd_get_ne (by omega)]
 refine ⟨by rw [o _ (by omega) (by omega)];exact kA.y,by rw [o _ (by omega) (by omega)];exact kA.s,by rw [o _ (by omega) (by omega)];exact kA.t,by rw [o _ (by omega) (by omega)];exact kA.hp,by rw [o _ (by omega) (by omega)];exact kA.now,upd_get_same,by rw [o _ (by omega) (by omega)];exact kA.b,by rw [o _ (by omega) (by omega)];exact kA.tp,
  by rw [o _ (by omega) (by omega)];exact kA.g,by rw [o _ (by omega) (by omega)];exact kA.sb,by rw [o _ (by omega) (by omega)];exact kA.lo, ?_,fun x hx => by cases hx;exact gl.2,⟨by show hA.n ∉ _;simp only [List.mem_cons,List.not_mem_nil,or_false,not_or];omega,by show H.n ≤ hA.n;omega⟩, ?_,F2,FX.top kA.T,by show L < hA.n + 1;omega⟩
 ·rw [List.length_append]
  exact GG.fr FG (fun x hx => by cases hx;omega) (by show hA.n ∉ [B9];simp;omega)
 ·exact (kA.R.fr FX (by simp)).app ⟨hr.fr FX (by simp),trivial⟩
end
theorem splice_off {x r l : List Value} {o : Nat} : splice (x ++ r) (x.length + o) l = x ++ splice r o l:=by
 unfold splice
 rw [List.take_append,List.take_of_length_le (by omega),Nat.add_sub_cancel_left,List.append_assoc,List.append_assoc,List.append_assoc]
 congr 3
 rw [List.drop_append,List.drop_of_length_le (by omega),List.nil_append]
 congr 1
 omega
structure CpF (g : Gnd) (B4 B6 rr : Nat) (va vb vc xa xb xc : Value) (al : List Act) (h : AHeap) : Prop where
 g4 : h.get B4 = .cells [va,vb,vc] 26 .ex
 g6 : h.get B6 = .cells [xa,xb,xc] 26 .ex
 hG : RG h va vb vc g
 hk : g.Spots.length = 0 ∨ SK h 3 va
 xp : SR h 3 g.Spots.length xa (g.Spots.flatMap eSpo)
 xq : SR h 4 g.Sorts.length xb (g.Sorts.flatMap eSrt)
 xk : g.Spots.length = 0 ∨ SK h 3 xa
 bd : B4 < h.n ∧ B6 < h.n ∧ (g.Acts.length = 0 ∨ rr < h.n)
 xr : g.Acts.length = 0 ∨ (xc = .slice (some ⟨rr,0,none⟩) g.Acts.length g.Acts.length ∧ h.get rr = .cells (al.flatMap eAct) 30 (.gr rr 6 true) ∧ Sole h rr)
theorem CpF.store {g : Gnd} {B4 B6 rr : Nat} {va vb vc xa xb xc : Value} {al al' : List Act} {h : AHeap} (k : CpF g B4 B6 rr va vb vc xa xb xc al h) (hi : 0 < g.Acts.length) (o2 : rr ≠ B4) (o3 : rr ≠ B6) (o4 : g.Spots.length = 0 ∨ vblk va ≠ rr) (o5 : g.Sorts.length = 0 ∨ vblk vb ≠ rr) (o6 : vblk vc ≠ rr)
  (o8 : g.Spots.length = 0 ∨ vblk xa ≠ rr) (o9 : g.Sorts.length = 0 ∨ vblk xb ≠ rr) : CpF g B4 B6 rr va vb vc xa xb xc al' (h.upd h.n rr (.cells (al'.flatMap eAct) 30 (.gr rr 6 true))):=by
 obtain ⟨b2,b3,b4⟩:=k.bd
 rcases k.xr with q | ⟨q0,q1,q2⟩
 ·omega
 have F : Fr 0 [rr] h (h.upd h.n rr (.cells (al'.flatMap eAct) 30 (.gr rr 6 true))):=(Fr.refl h).upd (Nat.le_refl _) (by omega) (.inr (by simp)) ⟨Nat.zero_le _,Nat.le_refl _⟩
 have nm : ∀ {n : Nat} {v : Value},(n = 0 ∨ vblk v ≠ rr) → n = 0 ∨ vblk v ∉ [rr]:=fun q => by
  rcases q with q | q
  ·exact .inl q
  ·right;simpa using q
 refine ⟨by rw [upd_get_ne (Ne.symm o2)];exact k.g4,by rw [upd_get_ne (Ne.symm o3)];exact k.g6,⟨k.hG.p.fr F (nm o4),k.hG.q.fr F (nm o5),k.hG.r.fr F (.inr (by simpa using o6))⟩, ?_,k.xp.fr F (nm o8),k.xq.fr F (nm o9), ?_,⟨b2,b3,b4⟩,.inr ⟨q0,upd_get_same, ?_⟩⟩
 ·rcases k.hk with q | ⟨d,T,kk,e1,e2⟩
  ·exact .inl q
  ·rcases o4 with o4 | o4
   ·exact .inl o4
   ·exact .inr ⟨d,T,kk,(upd_get_ne o4).trans e1,e2⟩
 ·rcases k.xk with q | ⟨d,T,kk,e1,e2⟩
  ·exact .inl q
  ·rcases o8 with o8 | o8
   ·exact .inl o8
   ·exact .inr ⟨d,T,kk,(upd_get_ne o8).trans e1,e2⟩
 ·exact q2.upd fun _ _ _ _ _ => rfl
theorem CpF.done {g : Gnd} {B4 B6 rr : Nat} {va vb vc xa xb xc : Value} {al : List Act} {h : AHeap} (k : CpF g B4 B6 rr va vb vc xa xb xc al h) (hl : al.length = g.Acts.length) (hx : (xc = .slice none 0 0 ∧ g.Acts.length = 0) ∨ ∃ b o q,xc = .slice (some ⟨b,o,none⟩) g.Acts.length q ∧ g.Acts.length ≤ q) : RG h xa xb xc ⟨g.Spots,g.Sorts,al⟩:=by
 refine ⟨k.xp,k.xq, ?_⟩
 show SR h 6 al.length xc (al.flatMap eAct)
 have ln : (al.flatMap eAct).length = g.Acts.length * 6:=by rw [flat_len eAct_len,hl]
 rw [hl]
 rcases k.xr with q | ⟨q0,q1,q2⟩
 ·exact ⟨hx,ln,.inl q,.inl q⟩
 ·subst q0
  rcases k.bd.2.2 with q3 | q3
  ·exact ⟨hx,ln,.inl q3,.inl q3⟩
  ·refine ⟨hx,ln,.inr ⟨_,by rw [rd_def];show rdO (h.get rr) = _;rw [q1];rfl, ?_, ?_⟩,.inr q3⟩
   ·show 0 + _ ≤ _
    rw [ln];omega
   ·show (List.drop 0 _).take _ = _
    rw [List.drop_zero,List.take_of_length_le (by omega)]
theorem knownGo_err {g : Gnd} : ∀ (n i : Nat) (acc : List Hp),(knownGo g i n acc).2 = 0 ∨ (knownGo g i n acc).2 = 9
 | 0,_,_ => .inl rfl
 | n + 1,i,acc => by
  rw [knownGo]
  split
  ·exact knownGo_err n (i + 1) _
  ·exact .inr rfl
theorem masses_err {g : Gnd} (ck : check g = 0) {hour : Int} (h1 : 0 ≤ hour) (h2 : hour ≤ 72) (h : (known g).2 ≠ 0) : (masses g hour).2 = 9 ∧ (masses g hour).1 = []:=by
 have e : (known g).2 = 9:=(knownGo_err g.Spots.length 0 []).resolve_left h
 unfold masses
 rw [if_neg (by rw [ck];simp),if_pos (inB_mk h1 h2),if_pos h]
 exact ⟨e,rfl⟩
def massA (a : Act) (x y : Int) : Act:=⟨a.Hour,a.Spot,a.Kind,x,y,a.Take⟩
theorem splice_mass : ∀ (A : List Act) (i : Nat) (x y : Int),i < A.length → splice (A.flatMap eAct) (i * 6 + 3) [iv x,iv y] = (A.set i (massA (A.getD i default) x y)).flatMap eAct
 | [],i,x,y,h => by simp at h
 | a :: A,0,x,y,_ => by
  show splice (eAct a ++ A.flatMap eAct) 3 [iv x,iv y] = eAct (massA a x y) ++ A.flatMap eAct
  unfold splice
  rfl
 | a :: A,i + 1,x,y,h => by
  have ih:=splice_mass A i x y (by simpa using h)
  rw [List.flatMap_cons,show (i + 1) * 6 + 3 = (eAct a).length + (i * 6 + 3) by rw [eAct_len];omega,splice_off,ih]
  rfl
structure NrL (A L : List Act) (i : Nat) : Prop where
 len : L.length = A.length
 rest : ∀ k,i ≤ k → L.getD k default = A.getD k default
 na : ∀ k,k < A.length → NarA (A.getD k default) (L.getD k default)
theorem Ok.mass {g : Gnd} (h : Ok g) {k : Nat} (hk : k < g.Acts.length) : 1 ≤ (g.Acts.getD k default).Min ∧ (g.Acts.getD k default).Min ≤ (g.Acts.getD k default).Max ∧ (g.Acts.getD k default).Max ≤ 1000000:=by
 obtain ⟨_,a⟩:=h.at hk
 exact a.m
theorem NrL.start {g : Gnd} (h : Ok g) : NrL g.Acts g.Acts 0:=⟨rfl,fun _ _ => rfl,fun k hk => ⟨rfl,rfl,rfl,rfl,by have:=h.mass hk;omega⟩⟩
theorem NrL.step {g : Gnd} (ok : Ok g) {L : List Act} {i : Nat} (h : NrL g.Acts L i) (hi : i < g.Acts.length) {x y : Int} (q : (g.Acts.getD i default).Min ≤ x ∧ x ≤ y ∧ y ≤ (g.Acts.getD i default).Max) : NrL g.Acts (L.set i (massA (L.getD i default) x y)) (i + 1):=by
 have hl:=h.len
 have m:=ok.mass hi
 have e : ∀ k,(L.set i (massA (L.getD i default) x y)).getD k default = if i = k then massA (L.getD i default) x y else L.getD k default:=fun k => by
  rw [getD_setA]
  by_cases c : i = k
  ·rw [if_pos ⟨c,by omega⟩,if_pos c]
  ·rw [if_neg (fun q => c q.1),if_neg c]
 refine ⟨by rw [List.length_set];exact hl,fun k hk => ?_,fun k hk => ?_⟩
 ·rw [e,if_neg (by omega)];exact h.rest k (by omega)
 ·rw [e]
  split
  ·rename_i c
   subst c
   have n:=h.na i hi
   exact ⟨n.h,n.s,n.k,n.t,by show _ ∧ _ ≤ x ∧ x ≤ y ∧ y ≤ _ ∧ _;omega⟩
  ·exact h.na k hk
theorem NrL.g {g : Gnd} {L : List Act} {i : Nat} (h : NrL g.Acts L i) : NarG g ⟨g.Spots,g.Sorts,L⟩:=⟨rfl,rfl,h.len,h.na⟩
theorem Fr.down {N N' : Nat} {X : List Nat} {A B : AHeap} (h : Fr N' X A B) (hn : N ≤ N') : Fr N X A B:=h.mono hn fun _ hb _ => hb
theorem GS.upd_gr' {B : AHeap} {s n g' e : Nat} {l : Bool} {v : Value} {c d : List Value} {T : TypeId} {g : Option Nat} (G : GS B s n v c g) (hne : g ≠ some g') : GS (B.upd (B.n + 1) B.n (.cells d T (.gr g' e l))) s n v c g:=by
 cases G with
 | nil hn hv hc => exact .nil hn hv hc
 | full hv hb hg hk hl hc h0 => exact .full hv (Nat.lt_succ_of_lt hb) ((upd_get_ne (by omega)).trans hg) hk hl hc h0
 | gr hv hb hgb hg hl hf =>
  refine .gr hv (Nat.lt_succ_of_lt hb) hgb ((upd_get_ne (by omega)).trans hg) hl ?_
  intro b' c' T' e' l' hb'
  by_cases e1 : b' = B.n
  ·subst e1
   rw [upd_get_same] at hb'
   cases hb'
   exact absurd rfl hne
  ·rw [upd_get_ne e1] at hb'
   exact hf _ _ _ _ _ hb'
structure App (H G : AHeap) (g g' : Option Nat) (m : Nat) : Prop where
 n : H.n ≤ G.n
 top : Top G
 fr : ∀ N,N ≤ H.n → (∀ x,g = some x → N ≤ x) → Fr N [] H G
 old : ∀ b,b < H.n → G.get b = H.get b
 grp : (m = 0 ∧ g' = g) ∨ (0 < m ∧ g' = some (g.getD H.n))
 keep : ∀ {s n : Nat} {v : Value} {c : List Value} {g2 : Option Nat},GS H s n v c g2 → g2 ≠ some (g.getD H.n) → GS G s n v c g2
theorem oB_app {P : Program} {ts : Array TypeId} {H : AHeap} {s n m e : Nat} {v x : Value} {c new : List Value} {g : Option Nat} {K : Value → AHeap → Prop} (ht : Top H) (G : GS H s n v c g) (S : SR H s m x new)
  (h1 : 0 < m → appendOp P ts [v,x] H = some (.slice (some ⟨H.n,0,none⟩) (n + m) (n + m),H.upd (H.n + 1) H.n (.cells (c ++ new) e (.gr (g.getD H.n) s true)))) (h0 : m = 0 → appendOp P ts [v,x] H = some (v,H))
  (k : ∀ v' G' g',App H G' g g' m → GS G' s (n + m) v' (c ++ new) g' → (v' = v ∨ H.n ≤ vblk v') → K v' G') : oB (appendOp P ts [v,x] H) K:=by
 by_cases hm : m = 0
 ·rw [h0 hm]
  have hnew : new = []:=by have:=S.len;subst hm;simpa using this
  subst hm hnew
  exact k v H g ⟨Nat.le_refl _,ht,fun N _ _ => Fr.refl _,fun _ _ => rfl,.inl ⟨rfl,rfl⟩,fun G2 _ => G2⟩ (by rw [List.append_nil];exact G) (.inl rfl)
 ·rw [h1 (by omega)]
  have GG:=GS.pushed (e:=e) ht G S.len
  have hf : ∀ N,N ≤ H.n → (∀ x,g = some x → N ≤ x) → Fr N [] H (H.upd (H.n + 1) H.n (.cells (c ++ new) e (.gr (g.getD H.n) s true))):=fun N hN hg => (Fr.refl H).upd (Nat.le_succ _) (Nat.lt_succ_self _) (.inl (Nat.le_refl _)) (G.grpOk hN hg)
  exact k _ _ _ ⟨Nat.le_succ _,(hf 0 (Nat.zero_le _) fun _ _ => Nat.zero_le _).top ht,hf,fun b hb => upd_get_ne (by omega),.inr ⟨by omega,rfl⟩,fun G2 hne => G2.upd_gr' hne⟩ GG (.inr (Nat.le_refl _))
theorem App.lt {H G : AHeap} {g g' : Option Nat} {m : Nat} (a : App H G g g' m) {N : Nat} (hN : N ≤ H.n) (hg : ∀ x,g = some x → N ≤ x) : ∀ x,g' = some x → N ≤ x:=by
 intro x hx
 rcases a.grp with ⟨_,q⟩ | ⟨_,q⟩
 ·exact hg x (q ▸ hx)
 ·rw [q] at hx
  cases hx
  exact gd_ge hg hN
def RS (H : AHeap) (N : Nat) (v : Value) (rs : List Rul) (g : Option Nat) : Prop:=∃ vs,GS H 1 rs.length v vs g ∧ (∀ x,g = some x → N ≤ x) ∧ RulesV H [] vs rs
theorem RS.nul {H : AHeap} {N : Nat} : RS H N (.slice none 0 0) [] none:=⟨[],.nil rfl rfl rfl,by simp,trivial⟩
theorem RS.fr0 {H G : AHeap} {N : Nat} {v : Value} {rs : List Rul} {g : Option Nat} (h : RS H N v rs g) (F : Fr H.n [] H G) : RS G N v rs g:=by
 obtain ⟨vs,a,b,c⟩:=h
 exact ⟨vs,a.fr0 F,b,c.fr F (by simp)⟩
theorem RS.keep {H G : AHeap} {N m : Nat} {v : Value} {rs : List Rul} {g1 g2 g : Option Nat} (h : RS H N v rs g) (a : App H G g1 g2 m) (hne : g ≠ some (g1.getD H.n)) : RS G N v rs g:=by
 obtain ⟨vs,a1,b,c⟩:=h
 exact ⟨vs,a.keep a1 hne,b,c.fr (a.fr 0 (Nat.zero_le _) fun _ _ => Nat.zero_le _) (by simp)⟩
theorem RS.gn {H : AHeap} {N : Nat} {v : Value} {rs : List Rul} {g : Option Nat} (h : RS H N v rs g) : ∀ x,g = some x → x < H.n:=by
 obtain ⟨vs,a,b,c⟩:=h
 intro x hx
 subst hx
 exact a.grp_lt
theorem RS.one {H : AHeap} {N : Nat} {v : Value} {rs : List Rul} {g : Option Nat} (h : RS H N v rs g) : Swa.one v:=by
 obtain ⟨vs,a,b,c⟩:=h
 exact a.one
theorem RS.app {P : Program} {ts : Array TypeId} {H : AHeap} {N1 N2 e : Nat} {v x : Value} {rs ss : List Rul} {g g2 : Option Nat} {K : Value → AHeap → Prop} (ht : Top H) (A : RS H N1 v rs g) (B : RS H N2 x ss g2) (hN : N1 ≤ H.n)
  (h1 : ∀ c new,GS H 1 rs.length v c g → SR H 1 ss.length x new → 0 < ss.length → appendOp P ts [v,x] H = some (.slice (some ⟨H.n,0,none⟩) (rs.length + ss.length) (rs.length + ss.length),H.upd (H.n + 1) H.n (.cells (c ++ new) e (.gr (g.getD H.n) 1 true)))) (h0 : ∀ c new,GS H 1 rs.length v c g → SR H 1 0 x new → appendOp P ts [v,x] H = some (v,H))
  (k : ∀ v' G' g',App H G' g g' ss.length → RS G' N1 v' (rs ++ ss) g' → K v' G') : oB (appendOp P ts [v,x] H) K:=by
 obtain ⟨vs,a1,a2,a3⟩:=A
 obtain ⟨us,b1,b2,b3⟩:=B
 refine oB_app ht a1 b1.sr (h1 _ _ a1 b1.sr) (fun hm => h0 _ _ a1 (by rw [← hm];exact b1.sr)) fun v' G' g' a G hv => k v' G' g' a ⟨vs ++ us,by rw [List.length_append];exact G,a.lt hN a2, ?_⟩
 have F:=a.fr 0 (Nat.zero_le _) fun _ _ => Nat.zero_le _
 exact (a3.fr F (by simp)).app (b3.fr F (by simp))
theorem hStep_len (g : Gnd) (h : Hp) (spot : Nat) (hour : Int) (now : Mom) (s : Hst) (i : Nat) (a : Act) : s.out.length ≤ (hStep g h spot hour now s i a).out.length ∧ (hStep g h spot hour now s i a).out.length ≤ s.out.length + 2:=by
 unfold hStep
 split
 ·exact ⟨Nat.le_refl _,by omega⟩
 ·dsimp only
  split <;> split <;> (try simp only [List.length_append,List.length_singleton]) <;> omega
theorem hRun_len (g : Gnd) (h : Hp) (spot : Nat) (hour : Int) (now : Mom) : ∀ (l : List Act) (i : Nat) (s : Hst),s.out.length ≤ (hRun g h spot hour now i l s).out.length ∧ (hRun g h spot hour now i l s).out.length ≤ s.out.length + 2 * l.length
 | [],i,s => by rw [hRun];exact ⟨Nat.le_refl _,by omega⟩
 | a :: l,i,s => by
  rw [hRun,List.length_cons]
  have h1:=hStep_len g h spot hour now s i a
  have h2:=hRun_len g h spot hour now l (i + 1) (if a.Spot = spot then hStep g h spot hour now s i a else s)
  split at h2
  ·rename_i q
   rw [if_pos q]
   omega
  ·rename_i q
   rw [if_neg q]
   omega
theorem heapRules_len (g : Gnd) (h : Hp) (spot : Nat) (hour : Int) : 1 ≤ (heapRules g h spot hour).length ∧ (heapRules g h spot hour).length ≤ 1 + 2 * g.Acts.length:=by
 unfold heapRules
 have:=hRun_len g h spot hour (nowOf g h hour) g.Acts 0 ⟨[[⟨spot,(nowOf g h hour).takes,(nowOf g h hour).tips,holdsP g spot (nowOf g h hour).kind.toNat⟩]],0,0⟩
 exact this
theorem heapsR_len (g : Gnd) (hs : List Hp) (hour : Int) : ∀ n,n ≤ (heapsR g hs hour n).length ∧ (heapsR g hs hour n).length ≤ n * (1 + 2 * g.Acts.length)
 | 0 => ⟨Nat.le_refl _,Nat.zero_le _⟩
 | n + 1 => by
  have h1:=heapsR_len g hs hour n
  have h2:=heapRules_len g (hs.getD n default) n hour
  rw [heapsR,List.length_append,Nat.add_mul]
  omega
theorem pairRow_len (g : Gnd) (hs : List Hp) (hour : Int) (b : Nat) : ∀ n,(pairRow g hs hour b n).length ≤ n
 | 0 => Nat.le_refl _
 | n + 1 => by
  have h1:=pairRow_len g hs hour b n
  have h2 : (pairOne g hs hour b n).length ≤ 1:=by
   unfold pairOne
   dsimp only
   split <;> simp
  rw [pairRow,List.length_append]
  omega
theorem pairRules_len (g : Gnd) (hs : List Hp) (hour : Int) : ∀ n,(pairRules g hs hour n).length ≤ n * n
 | 0 => Nat.le_refl _
 | n + 1 => by
  have h1:=pairRules_len g hs hour n
  have h2:=pairRow_len g hs hour n n
  rw [pairRules,List.length_append,Nat.add_mul,Nat.mul_add]
  omega
def Fine (N : Nat) (rs : List Rul) : Prop:=∀ r,r ∈ rs → RulOk N r ∧ r.length ≤ 2
theorem Fine.nil {N : Nat} : Fine N []:=fun r h => by simp at h
theorem Fine.app {N : Nat} {a b : List Rul} (h : Fine N a) (k : Fine N b) : Fine N (a ++ b):=fun r hr => by
 rcases List.mem_append.1 hr with q | q
 ·exact h r q
 ·exact k r q
theorem Fine.one {N : Nat} {w : Way} (h : WayOk N w) : Fine N [[w]]:=fun r hr => by
 rw [List.mem_singleton] at hr
 subst hr
 refine ⟨fun x hx => ?_,by show 1 ≤ 2;omega⟩
 rw [List.mem_singleton] at hx
 subst hx
 exact h
theorem Fine.two {N : Nat} {w u : Way} (h : WayOk N w) (k : WayOk N u) : Fine N [[w,u]]:=fun r hr => by
 rw [List.mem_singleton] at hr
 subst hr
 refine ⟨fun x hx => ?_,by show 2 ≤ 2;omega⟩
 simp only [List.mem_cons,List.not_mem_nil,or_false] at hx
 rcases hx with rfl | rfl
 ·exact h
 ·exact k
theorem Fine.ok {N : Nat} {rs : List Rul} (h : Fine N rs) : RulsOk N rs:=fun r hr => (h r hr).1
theorem Few.wayok {h : Hp} (hf : Few h) {N spot : Nat} (hs : spot < N) (act : Int) : WayOk N (emptyW spot (h.before act)):=⟨hs,(hf.before act).2,(hf.before act).1⟩
theorem hStep_fine {g : Gnd} {h : Hp} (hf : Few h) {N spot : Nat} (hs : spot < N) {hour : Int} {now : Mom} (hn : now.takes < 11) {s : Hst} (i : Nat) (a : Act) (k : Fine N s.out) : Fine N (hStep g h spot hour now s i a).out:=by
 unfold hStep
 split
 ·exact k
 ·dsimp only
  have k1 : Fine N (if w64 (a.Hour + (g.Sorts.getD a.Kind.toNat default).Age) < hour then s.out ++ [[⟨spot,now.takes,(h.before ((i + 1 : Nat) : Int)).tips,0⟩]] else s.out):=by
   split
   ·exact k.app (Fine.one ⟨hs,hn,(hf.before _).1⟩)
   ·exact k
  split
  ·exact k1.app (Fine.one (hf.wayok hs _))
  ·exact k1
theorem hRun_fine {g : Gnd} {h : Hp} (hf : Few h) {N spot : Nat} (hs : spot < N) {hour : Int} {now : Mom} (hn : now.takes < 11) : ∀ (l : List Act) (i : Nat) (s : Hst),Fine N s.out → Fine N (hRun g h spot hour now i l s).out
 | [],i,s,k => by rw [hRun];exact k
 | a :: l,i,s,k => by
  rw [hRun]
  split
  ·exact hRun_fine hf hs hn l _ _ (hStep_fine hf hs hn i a k)
  ·exact hRun_fine hf hs hn l _ _ k
theorem heapRules_fine {g : Gnd} {h : Hp} (hf : Few h) {N spot : Nat} (hs : spot < N) (hour : Int) : Fine N (heapRules g h spot hour):=by
 unfold heapRules
 have hb:=hf.before (untilL hour g.Acts)
 exact hRun_fine hf hs hb.2 _ _ _ (Fine.one ⟨hs,hb.2,hb.1⟩)
theorem heapsR_fine {g : Gnd} {hs : List Hp} {N : Nat} (hf : ∀ j,j < N → Few (hs.getD j default)) (hour : Int) : ∀ n,n ≤ N → Fine N (heapsR g hs hour n)
 | 0,_ => Fine.nil
 | n + 1,h => (heapsR_fine hf hour n (by omega)).app (heapRules_fine (hf n (by omega)) (by omega) hour)
theorem pairRow_fine {g : Gnd} {hs : List Hp} {N : Nat} (hf : ∀ j,j < N → Few (hs.getD j default)) (hour : Int) {b : Nat} (hb : b < N) : ∀ n,n ≤ b → Fine N (pairRow g hs hour b n)
 | 0,_ => Fine.nil
 | n + 1,h => by
  refine (pairRow_fine hf hour hb n (by omega)).app ?_
  unfold pairOne
  dsimp only
  split
  ·exact Fine.nil
  ·exact Fine.two ((hf n (by omega)).wayok (by omega) _) ((hf b hb).wayok hb _)
theorem pairRules_fine {g : Gnd} {hs : List Hp} {N : Nat} (hf : ∀ j,j < N → Few (hs.getD j default)) (hour : Int) : ∀ n,n ≤ N → Fine N (pairRules g hs hour n)
 | 0,_ => Fine.nil
 | n + 1,h => (pairRules_fine hf hour n (by omega)).app (pairRow_fine hf hour (by omega) n (Nat.le_refl _))
def Dis (a b : Option Nat) : Prop:=∀ x,a = some x → b ≠ some x
theorem Dis.ne {a b : Option Nat} {n : Nat} (h : Dis a b) (hl : ∀ x,a = some x → x < n) : a ≠ some (b.getD n):=by
 intro e
 cases b with
 | none => exact Nat.lt_irrefl _ (hl n e)
 | some y => exact h y e rfl
theorem Dis.symm {a b : Option Nat} (h : Dis a b) : Dis b a:=fun x hx hy => h x hy hx
theorem Dis.app {H G : AHeap} {a a' b : Option Nat} {m : Nat} (h : Dis a b) (ap : App H G a a' m) (hl : ∀ x,b = some x → x < H.n) : Dis a' b:=by
 rcases ap.grp with ⟨_,e⟩ | ⟨_,e⟩
 ·rw [e];exact h
 ·intro x hx hy
  rw [e] at hx
  exact h.symm.ne hl (hy.trans hx.symm)
theorem Dis.far {a b : Option Nat} {n : Nat} (h : ∀ x,a = some x → x < n) (k : ∀ x,b = some x → n ≤ x) : Dis a b:=fun x hx hy => by
 have:=h x hx
 have:=k x hy
 omega
section
variable {g : Gnd} {B4 B6 rr : Nat} {va vb vc xa xb xc : Value} {sl sl' : List Srt} {h h' : AHeap}
end
end Go.Proofs.Swa
