/- Part 7 of a proof. -/
import Derived.Test.YtkjcijlaehflhaaP06
set_option linter.unusedVariables false
set_option linter.unusedSimpArgs false
namespace Go.Proofs.Swa
open Go
theorem checkActs_sorted {g:Gnd} (hs:g.Spots.length≤4) (hq:g.Sorts.length≤4):∀ (l:List Act) (h:Int),checkActs g h l=0→(∀ a,a∈l→h≤a.Hour)∧l.Pairwise fun a b=>a.Hour≤b.Hour
 | [],_,_=>⟨fun a h=>(by cases h),List.Pairwise.nil⟩
 | a :: l,h,k=>by
  rw [checkActs] at k
  by_cases c:checkAct g h a≠0
  ·rw [if_pos c] at k;exact absurd k c
  ·rw [if_neg c] at k
   have A:=checkAct_mk (Decidable.not_not.1 c) hs hq
   obtain ⟨h1,h2⟩:=checkActs_sorted hs hq l a.Hour k
   refine ⟨fun b hb=>?_,List.pairwise_cons.2 ⟨h1,h2⟩⟩
   rcases List.mem_cons.1 hb with rfl|hb
   ·exact A.h.2.2
   ·have:=h1 b hb;have:=A.h.2.2;omega
theorem Ok.sorted {g:Gnd} (h:Ok g) {i k:Nat} (hik:i < k) (hk:k < g.Acts.length):(g.Acts.getD i default).Hour≤(g.Acts.getD k default).Hour:=by
 have p:=(checkActs_sorted h.spots.2 h.sorts.2 g.Acts 0 h.act).2
 rw [List.pairwise_iff_getElem] at p
 have:=p i k (by omega) hk hik
 simpa [List.getD,hk,show i < g.Acts.length by omega] using this
theorem Ok.hour {g:Gnd} (h:Ok g) {k:Nat} (hk:k < g.Acts.length):0≤(g.Acts.getD k default).Hour∧(g.Acts.getD k default).Hour≤72:=by
 obtain ⟨_,a⟩:=h.at hk
 exact ⟨a.h.1,a.h.2.1⟩
theorem Ok.age {g:Gnd} (h:Ok g) (k:Nat):0≤(g.Sorts.getD k default).Age∧(g.Sorts.getD k default).Age≤72:=by
 by_cases c:k < g.Sorts.length
 ·have:=okSrt_elim (h.sort _ (getD_mem c));omega
 ·have:g.Sorts.getD k default=default:=by simp [List.getD,c]
  rw [this]
  exact ⟨Int.le_refl _,by show (0:Int)≤72;omega⟩
theorem Ok.agew {g:Gnd} (h:Ok g) {k:Nat} (hk:k < g.Acts.length) (q:Nat):w64 ((g.Acts.getD k default).Hour + (g.Sorts.getD q default).Age)=(g.Acts.getD k default).Hour + (g.Sorts.getD q default).Age:=by
 have:=h.hour hk
 have:=h.age q
 exact w64_id (by omega) (by omega)
theorem bef_same (g:Gnd) (spot:Int) {k:Nat} (hk:k < g.Acts.length) (h:¬ (g.Acts.getD k default).Spot=spot):(pile g spot).1.before (k + 1:Nat)=(pile g spot).1.before k:=by
 rw [pile_before g spot (u:=k + 1) (by omega),pile_before g spot (u:=k) (by omega),prU_succ spot hk,if_neg h]
theorem bef_take (g:Gnd) (spot:Int) {k:Nat} (hk:k < g.Acts.length) (h:(g.Acts.getD k default).Take=true):((pile g spot).1.before (k + 1:Nat)).tips=((pile g spot).1.before k).tips:=by
 rw [pile_before g spot (u:=k + 1) (by omega),pile_before g spot (u:=k) (by omega),prU_succ spot hk]
 split
 ·rw [Pst.step_take h]
 ·rfl
def TipR (g:Gnd) (h:Hp) (spot:Nat) (hour:Int) (now:Mom) (k:Nat) (r:Rul):Prop :=
 (g.Acts.getD k default).Spot=spot∧(g.Acts.getD k default).Take=false∧(g.Acts.getD k default).Hour≤hour ∧
 (((g.Acts.getD k default).Hour + (g.Sorts.getD (g.Acts.getD k default).Kind.toNat default).Age < hour∧r=[⟨spot,now.takes,(h.before (k + 1:Nat)).tips,0⟩]) ∨
  ((g.Acts.getD k default).Hour=hour∧0 < (h.before k).tips∧(h.before k).kind≠(g.Acts.getD k default).Kind∧r=[emptyW spot (h.before k)]))
theorem hRun_mem {g:Gnd} (ok:Ok g) (spot:Nat) (hour:Int) (now:Mom) (r:Rul):∀ (l:List Act) (i:Nat) (s:Hst),i + l.length=g.Acts.length→g.Acts.drop i=l →
  ((∀ k,k < i→(g.Acts.getD k default).Hour≤hour)→s.before=((pile g spot).1.before i).tips) →
  (r∈(hRun g (pile g spot).1 spot hour now i l s).out↔r∈s.out∨∃ k,i≤k∧k < g.Acts.length∧TipR g (pile g spot).1 spot hour now k r)
 | [],i,s,hl,_,_=>by
  rw [hRun]
  simp only [List.length_nil] at hl
  exact ⟨.inl,fun q=>q.elim id fun ⟨k,h1,h2,_⟩=>by omega⟩
 | a :: l,i,s,hl,hd,hb=>by
  simp only [List.length_cons] at hl
  have hi:i < g.Acts.length:=by omega
  have ha:g.Acts.getD i default=a:=by
   have:=drop_getD (l:=g.Acts) (i:=i) hi
   rw [hd] at this
   exact (List.cons.inj this).1.symm
  have hd':g.Acts.drop (i + 1)=l:=by
   rw [← List.drop_drop,hd];rfl
  have split3:∀ P:Nat→Prop,(∃ k,i≤k∧k < g.Acts.length∧P k)↔P i∨∃ k,i + 1≤k∧k < g.Acts.length∧P k:=fun P =>
   ⟨fun ⟨k,h1,h2,h3⟩=>by
    by_cases e:k=i
    ·exact .inl (e ▸ h3)
    ·exact .inr ⟨k,by omega,h2,h3⟩,fun q=>q.elim (fun h=>⟨i,by omega,hi,h⟩) fun ⟨k,h1,h2,h3⟩=>⟨k,by omega,h2,h3⟩⟩
  rw [hRun,split3]
  have off:∀ s':Hst,s'=s→¬ TipR g (pile g spot).1 spot hour now i r→((∀ k,k < i + 1→(g.Acts.getD k default).Hour≤hour)→s.before=((pile g spot).1.before (i + 1:Nat)).tips)→(r∈(hRun g (pile g spot).1 spot hour now (i + 1) l s').out↔r∈s.out∨TipR g (pile g spot).1 spot hour now i r∨∃ k,i + 1≤k∧k < g.Acts.length∧TipR g (pile g spot).1 spot hour now k r):=fun s' e n hb'=>by
   rw [e,hRun_mem ok spot hour now r l (i + 1) s (by omega) hd' hb']
   exact ⟨fun q=>q.elim .inl fun q=>.inr (.inr q),fun q=>q.elim .inl fun q=>q.elim (fun q=>absurd q n) .inr⟩
  by_cases c1:a.Spot=spot
  ·rw [if_pos c1]
   by_cases c2:a.Take=true∨hour < a.Hour
   ·refine off _ (if_pos c2) (fun q=>?_) fun q=>?_
    ·obtain ⟨_,q2,q3,_⟩:=q
     rw [ha] at q2 q3
     rcases c2 with c2|c2
     ·rw [c2] at q2;cases q2
     ·omega
    ·have c3:a.Take=true:=c2.elim id fun c=>by have:=q i (by omega);rw [ha] at this;omega
     rw [bef_take g spot hi (by rw [ha];exact c3)]
     exact hb fun k hk=>q k (by omega)
   ·have n1:a.Take=false:=by
     cases h:a.Take with
     | false=>rfl
     | true=>exact absurd (.inl h) c2
    have n2:a.Hour≤hour:=Int.not_lt.1 fun q=>c2 (.inr q)
    have hbi:=hb fun k hk=>by have:=ok.sorted hk hi;rw [ha] at this;omega
    unfold hStep
    rw [if_neg c2]
    dsimp only
    rw [hRun_mem ok spot hour now r l (i + 1) _ (by omega) hd' (fun _=>rfl)]
    dsimp only
    have hw:=ok.agew hi a.Kind.toNat
    rw [ha] at hw
    rw [hw,hbi]
    unfold TipR
    rw [ha]
    by_cases d1:a.Hour + (g.Sorts.getD a.Kind.toNat default).Age < hour
    ·rw [if_pos d1]
     have:=(ok.age a.Kind.toNat).1
     rw [if_neg (fun q=>by omega),List.mem_append,List.mem_singleton]
     constructor
     ·rintro ((q|q)|q)
      ·exact .inl q
      ·exact .inr (.inl ⟨c1,n1,n2,.inl ⟨d1,q⟩⟩)
      ·exact .inr (.inr q)
     ·rintro (q|⟨_,_,_,⟨_,q⟩|⟨q,_⟩⟩|q)
      ·exact .inl (.inl q)
      ·exact .inl (.inr q)
      ·omega
      ·exact .inr q
    ·rw [if_neg d1]
     by_cases d2:a.Hour=hour∧0 < ((pile g spot).1.before i).tips∧((pile g spot).1.before i).kind≠a.Kind
     ·rw [if_pos d2,List.mem_append,List.mem_singleton]
      constructor
      ·rintro ((q|q)|q)
       ·exact .inl q
       ·exact .inr (.inl ⟨c1,n1,n2,.inr ⟨d2.1,d2.2.1,d2.2.2,q⟩⟩)
       ·exact .inr (.inr q)
      ·rintro (q|⟨_,_,_,⟨q,_⟩|⟨_,_,_,q⟩⟩|q)
       ·exact .inl (.inl q)
       ·exact absurd q d1
       ·exact .inl (.inr q)
       ·exact .inr q
     ·rw [if_neg d2]
      constructor
      ·rintro (q|q)
       ·exact .inl q
       ·exact .inr (.inr q)
      ·rintro (q|⟨_,_,_,⟨q,_⟩|⟨q1,q2,q3,q⟩⟩|q)
       ·exact .inl q
       ·exact absurd q d1
       ·exact absurd ⟨q1,q2,q3⟩ d2
       ·exact .inr q
  ·rw [if_neg c1]
   refine off _ rfl (fun q=>?_) fun q=>?_
   ·have:=q.1
    rw [ha] at this
    exact c1 this
   ·rw [bef_same g spot hi (by rw [ha];exact c1)]
    exact hb fun k hk=>q k (by omega)
def lieW (g:Gnd) (spot:Nat) (now:Mom):Way:=⟨spot,now.takes,now.tips,holdsP g spot now.kind.toNat⟩
theorem heapRules_mem {g:Gnd} (ok:Ok g) (spot:Nat) (hour:Int) (r:Rul):r∈heapRules g (pile g spot).1 spot hour↔r=[lieW g spot (nowOf g (pile g spot).1 hour)]∨∃ k,k < g.Acts.length∧TipR g (pile g spot).1 spot hour (nowOf g (pile g spot).1 hour) k r:=by
 unfold heapRules
 dsimp only
 rw [hRun_mem ok spot hour _ r g.Acts 0 _ (by omega) rfl (fun _=>by show 0=((pile g (spot:Nat)).1.before 0).tips;rw [pile_zero];rfl)]
 dsimp only
 rw [List.mem_singleton]
 exact ⟨fun q=>q.elim .inl fun ⟨k,_,h⟩=>.inr ⟨k,h⟩,fun q=>q.elim .inl fun ⟨k,h⟩=>.inr ⟨k,by omega,h⟩⟩
theorem heapsR_mem {g:Gnd} {hs:List Hp} {hour:Int} {r:Rul}:∀ {n:Nat},r∈heapsR g hs hour n↔∃ j,j < n∧r∈heapRules g (hs.getD j default) j hour
 | 0=>⟨(fun h=>by cases h),fun ⟨j,h,_⟩=>by omega⟩
 | n + 1=>by
  rw [heapsR,List.mem_append,heapsR_mem]
  constructor
  ·rintro (⟨j,h1,h2⟩|h)
   ·exact ⟨j,by omega,h2⟩
   ·exact ⟨n,by omega,h⟩
  ·rintro ⟨j,h1,h2⟩
   by_cases e:j=n
   ·exact .inr (e ▸ h2)
   ·exact .inl ⟨j,by omega,h2⟩
theorem pairRow_mem {g:Gnd} {hs:List Hp} {hour:Int} {b:Nat} {r:Rul}:∀ {n:Nat},r∈pairRow g hs hour b n↔∃ a,a < n∧r∈pairOne g hs hour b a
 | 0=>⟨(fun h=>by cases h),fun ⟨j,h,_⟩=>by omega⟩
 | n + 1=>by
  rw [pairRow,List.mem_append,pairRow_mem]
  constructor
  ·rintro (⟨j,h1,h2⟩|h)
   ·exact ⟨j,by omega,h2⟩
   ·exact ⟨n,by omega,h⟩
  ·rintro ⟨j,h1,h2⟩
   by_cases e:j=n
   ·exact .inr (e ▸ h2)
   ·exact .inl ⟨j,by omega,h2⟩
theorem pairRules_mem {g:Gnd} {hs:List Hp} {hour:Int} {r:Rul}:∀ {n:Nat},r∈pairRules g hs hour n↔∃ a b,a < b∧b < n∧r∈pairOne g hs hour b a
 | 0=>⟨(fun h=>by cases h),fun ⟨a,b,_,h,_⟩=>by omega⟩
 | n + 1=>by
  rw [pairRules,List.mem_append,pairRules_mem,pairRow_mem]
  constructor
  ·rintro (⟨a,b,h1,h2,h3⟩|⟨a,h1,h2⟩)
   ·exact ⟨a,b,h1,by omega,h3⟩
   ·exact ⟨a,n,h1,by omega,h2⟩
  ·rintro ⟨a,b,h1,h2,h3⟩
   by_cases e:b=n
   ·exact .inr ⟨a,e ▸ h1,e ▸ h3⟩
   ·exact .inl ⟨a,b,h1,by omega,h3⟩
theorem pairOne_mem {g:Gnd} {hs:List Hp} {hour:Int} {a b:Nat} {r:Rul}:r∈pairOne g hs hour b a↔0 < (nowOf g (hs.getD a default) hour).tips∧0 < (nowOf g (hs.getD b default) hour).tips ∧
  dist g a b < fireMax g (nowOf g (hs.getD a default) hour).kind (nowOf g (hs.getD b default) hour).kind∧r=[emptyW a (nowOf g (hs.getD a default) hour),emptyW b (nowOf g (hs.getD b default) hour)]:=by
 unfold pairOne
 dsimp only
 split
 ·rename_i q
  refine ⟨(fun h=>by cases h),fun ⟨h1,h2,h3,_⟩=>?_⟩
  rcases q with q|q|q <;> omega
 ·rename_i q
  rw [List.mem_singleton]
  refine ⟨fun h=>⟨Nat.pos_of_ne_zero fun e=>q (.inl e),Nat.pos_of_ne_zero fun e=>q (.inr (.inl e)),Int.not_le.1 fun e=>q (.inr (.inr e)),h⟩,fun h=>h.2.2.2⟩
theorem upS_mem {g:Gnd} {hs:List Hp} {r:Rul}:∀ {n:Nat},r∈upS g hs n↔∃ h,h < n∧r∈heapsR g hs (h:Nat) g.Spots.length
 | 0=>⟨(fun h=>by cases h),fun ⟨j,h,_⟩=>by omega⟩
 | n + 1=>by
  rw [upS,List.mem_append,upS_mem]
  constructor
  ·rintro (⟨j,h1,h2⟩|h)
   ·exact ⟨j,by omega,h2⟩
   ·exact ⟨n,by omega,h⟩
  ·rintro ⟨j,h1,h2⟩
   by_cases e:j=n
   ·exact .inr (e ▸ h2)
   ·exact .inl ⟨j,by omega,h2⟩
theorem upD_mem {g:Gnd} {hs:List Hp} {r:Rul}:∀ {n:Nat},r∈upD g hs n↔∃ h,h < n∧r∈pairRules g hs (h:Nat) g.Spots.length
 | 0=>⟨(fun h=>by cases h),fun ⟨j,h,_⟩=>by omega⟩
 | n + 1=>by
  rw [upD,List.mem_append,upD_mem]
  constructor
  ·rintro (⟨j,h1,h2⟩|h)
   ·exact ⟨j,by omega,h2⟩
   ·exact ⟨n,by omega,h⟩
  ·rintro ⟨j,h1,h2⟩
   by_cases e:j=n
   ·exact .inr (e ▸ h2)
   ·exact .inl ⟨j,by omega,h2⟩
theorem choose2 {P:Nat→Nat→(Nat→Int)→Prop} {m:Nat} (h:∀ j,j < m→∃ n x,P j n x):∃ (N:Nat→Nat) (X:Nat→Nat→Int),∀ j,j < m→P j (N j) (X j):=by
 have:∀ j,∃ p:Nat×(Nat→Int),j < m→P j p.1 p.2:=fun j=>by
  by_cases c:j < m
  ·obtain ⟨n,x,q⟩:=h j c
   exact ⟨(n,x),fun _=>q⟩
  ·exact ⟨(0,fun _=>0),fun q=>absurd q c⟩
 exact ⟨fun j=>(Classical.choose (this j)).1,fun j=>(Classical.choose (this j)).2,fun j hj=>Classical.choose_spec (this j) hj⟩
theorem True5.nx {g:Gnd} {truth:List Int} (h:True5 g truth):∃ (N:Nat→Nat) (X:Nat→Nat→Int),∀ j:Nat,j < g.Spots.length→SpotX g j truth (N j) (X j) :=
 choose2 (P:=fun j n x=>SpotX g j truth n x) fun j hj=>h.spot hj
def allS (g:Gnd):List Sums:=(known g).1.map (·.s)
structure Gd (g:Gnd) (N:Nat→Nat):Prop where
 ok:Ok g
 ck:check g=0
 kn:(known g).2=0
 kl:(known g).1.length=g.Spots.length
 tb:∀ j:Nat,j < g.Spots.length→Tb (pile g j).1.s.mat (N j)
 mom:∀ j:Nat,j < g.Spots.length→∀ u:Nat,u≤g.Acts.length→((pile g j).1.before u).tips≤N j∧((pile g j).1.before u).takes≤N j
section
variable {g:Gnd} {truth:List Int} {N:Nat→Nat} {X:Nat→Nat→Int}
theorem True5.gd (h:True5 g truth) (sp:∀ j:Nat,j < g.Spots.length→SpotX g j truth (N j) (X j)):Gd g N :=
 ⟨h.ok,h.ck,h.known.1,by rw [h.known.2];simp,fun j hj=>(sp j hj).tab.tb,fun j hj u hu=>⟨((sp j hj).mom u hu).1,((sp j hj).mom u hu).2.1⟩⟩
theorem Gd.alen (h:Gd g N):(allS g).length=g.Spots.length:=by
 unfold allS
 rw [List.length_map,h.kl]
theorem Gd.allAt (h:Gd g N) {j:Nat} (hj:j < g.Spots.length):(allS g).getD j default=(pile g (j:Nat)).1.s:=by
 have:=h.kl
 unfold allS
 rw [getD_mapA (by omega),known_at (by omega)]
theorem Gd.yd (h:Gd g N):Yd N (allS g):=fun j hj=>by
 rw [h.alen] at hj
 rw [h.allAt hj]
 exact h.tb j hj
theorem Gd.now (h:Gd g N) (hour:Int) {j:Nat} (hj:j < g.Spots.length) :
  (nowOf g (pile g j).1 hour).tips≤N j∧(nowOf g (pile g j).1 hour).takes≤N j∧0≤(nowOf g (pile g j).1 hour).kind∧(nowOf g (pile g j).1 hour).kind < g.Sorts.length:=by
 obtain ⟨m1,m2⟩:=h.mom j hj (untilL hour g.Acts) (until_len _ _)
 have:=h.ok.kind j _ (until_len hour g.Acts)
 unfold nowOf
 rw [before_kind g j (until_len hour g.Acts)]
 exact ⟨m1,m2,this⟩
theorem Gd.heapIn (h:Gd g N) (hour:Int) {j:Nat} (hj:j < g.Spots.length) {r:Rul} (hr:r∈heapRules g (pile g j).1 j hour):∀ w,w∈r→WayIn N g.Spots.length w:=by
 obtain ⟨n1,n2,n3⟩:=h.now hour hj
 rcases (heapRules_mem h.ok j hour r).1 hr with rfl|⟨k,hk,_,_,_,⟨_,rfl⟩|⟨_,_,_,rfl⟩⟩
 ·intro w hw
  rw [List.mem_singleton.1 hw]
  obtain ⟨c,_,c0,c1,c2,_⟩:=holds_val h.ok hj n3
  refine ⟨hj,n2,n1, ?_, ?_⟩
  ·show _≤holdsP g j _;rw [c2];omega
  ·show holdsP g j _≤_;rw [c2];omega
 ·intro w hw
  rw [List.mem_singleton.1 hw]
  obtain ⟨m1,m2⟩:=h.mom j hj (k + 1) (by omega)
  exact ⟨hj,n2,m1,by show (-1000000000000:Int)≤0;omega,by show (0:Int)≤1000000000000;omega⟩
 ·intro w hw
  rw [List.mem_singleton.1 hw]
  obtain ⟨m1,m2⟩:=h.mom j hj k (by omega)
  exact ⟨hj,m2,m1,by show (-1000000000000:Int)≤0;omega,by show (0:Int)≤1000000000000;omega⟩
theorem Gd.heapsIn (h:Gd g N) (hour:Int) {r:Rul} (hr:r∈heapsR g (known g).1 hour g.Spots.length):∀ w,w∈r→WayIn N g.Spots.length w:=by
 obtain ⟨j,hj,hr⟩:=heapsR_mem.1 hr
 rw [known_at (by rw [h.kl];exact hj)] at hr
 exact h.heapIn hour hj hr
theorem Gd.pairsIn (h:Gd g N) (hour:Int) {r:Rul} (hr:r∈pairRules g (known g).1 hour g.Spots.length):∀ w,w∈r→WayIn N g.Spots.length w:=by
 obtain ⟨a,b,hab,hb,hr⟩:=pairRules_mem.1 hr
 have hk:=h.kl
 have z:=(pairOne_mem.1 hr).2.2.2
 rw [known_at (by omega),known_at (by omega)] at z
 subst z
 intro w hw
 have A:=h.now hour (show a < g.Spots.length by omega)
 have B:=h.now hour hb
 rcases List.mem_cons.1 hw with rfl|hw
 ·exact ⟨by show a < _;omega,A.2.1,A.1,by show (-1000000000000:Int)≤0;omega,by show (0:Int)≤1000000000000;omega⟩
 ·rw [List.mem_singleton.1 hw]
  exact ⟨hb,B.2.1,B.1,by show (-1000000000000:Int)≤0;omega,by show (0:Int)≤1000000000000;omega⟩
def RulAt (g:Gnd) (h:Nat) (r:Rul):Prop:=r∈heapsR g (known g).1 h g.Spots.length∨r∈pairRules g (known g).1 h g.Spots.length
theorem Gd.rulIn (h:Gd g N) {hour:Nat} {r:Rul} (hr:RulAt g hour r):∀ w,w∈r→WayIn N (allS g).length w:=by
 rw [h.alen]
 exact hr.elim (h.heapsIn _) (h.pairsIn _)
theorem up_mem {h:Nat} {r:Rul}:r∈upS g (known g).1 (h + 1) ++ upD g (known g).1 (h + 1)↔∃ h',h'≤h∧RulAt g h' r:=by
 rw [List.mem_append,upS_mem,upD_mem]
 constructor
 ·rintro (⟨j,h1,h2⟩|⟨j,h1,h2⟩)
  ·exact ⟨j,by omega,.inl h2⟩
  ·exact ⟨j,by omega,.inr h2⟩
 ·rintro ⟨j,h1,h2|h2⟩
  ·exact .inl ⟨j,by omega,h2⟩
  ·exact .inr ⟨j,by omega,h2⟩
theorem Gd.kIff (h:Gd g N) (hour:Nat):rulK g (known g).1 hour↔∃ y,SolA N (allS g) y∧∀ h',h'≤hour→∀ r,RulAt g h' r→RulIs r y:=by
 unfold rulK
 rw [show ((known g).1.map (·.s))=allS g from rfl,kept_iff _ _ h.yd fun r hr=>?_]
 ·constructor
  ·rintro ⟨y,y1,y2⟩
   exact ⟨y,y1,fun h' q r hr=>y2 r (up_mem.2 ⟨h',q,hr⟩)⟩
  ·rintro ⟨y,y1,y2⟩
   refine ⟨y,y1,fun r hr=>?_⟩
   obtain ⟨h',q,hr⟩:=up_mem.1 hr
   exact y2 h' q r hr
 ·obtain ⟨h',q,hr⟩:=up_mem.1 hr
  exact h.rulIn hr
theorem bIff {hour:Nat}:rulB g (known g).1 hour↔∃ r,RulAt g hour r∧breaksR (allS g) r=true:=by
 unfold rulB RulAt
 rw [List.any_eq_true]
 constructor
 ·rintro ⟨r,hr,q⟩
  exact ⟨r,List.mem_append.1 hr,q⟩
 ·rintro ⟨r,hr,q⟩
  exact ⟨r,List.mem_append.2 hr,q⟩
theorem Gd.breaks (h:Gd g N):∃ p q,Swa.breaks g=(p,q,0)∧FirstI (rulB g (known g).1) p∧FirstI (fun h=>¬ rulK g (known g).1 h) q:=by
 obtain ⟨k1,k2⟩:=bGo_all g (known g).1
 refine ⟨_,_, ?_,k1,k2⟩
 unfold Swa.breaks
 rw [if_neg (by rw [h.ck];simp),if_neg (by rw [h.kn];simp)]
end
section
variable {g k:Gnd} {truth:List Int}
end
structure Tbz (T:Nat→Nat→Int) (n:Nat):Prop where
 t:Tb T n
 z:∀ a,a≤n→T a 0≤0
structure LS (p q:Pst) (i:Nat):Prop where
 nx:q.next=p.next
 m:q.m=p.m
 ms:q.ms=p.ms
 n:p.next≤i
 mt:p.m.tips≤p.next∧p.m.takes≤p.next
 c:q.ok=true→p.ok=true∧Tbz p.s.mat p.next∧Tbz q.s.mat p.next∧∀ y,Sol q.s.mat p.next y→Sol p.s.mat p.next y
section
variable {g k:Gnd} {truth:List Int}
end
section
variable {g k:Gnd} {N:Nat→Nat} {truth:List Int}
theorem Gd.masses (h:Gd g N) {hour:Int} (h1:0≤hour) (h2:hour≤72):(Swa.masses g hour).2=0∧(Swa.masses g hour).1.length=g.Spots.length∧∀ i,i < g.Spots.length→(Swa.masses g hour).1.getD i default=massAt g hour (pile g (i:Nat)).1:=by
 have kl:=h.kl
 have e:Swa.masses g hour=((Swa.known g).1.map (massAt g hour),0):=by
  unfold Swa.masses
  rw [if_neg (by rw [h.ck];simp),if_pos (inB_mk h1 h2),if_neg (by rw [h.kn];simp)]
 rw [e]
 refine ⟨rfl,by rw [List.length_map,kl],fun i hi=>?_⟩
 dsimp only
 rw [getD_mapA (by omega),known_at (by omega)]
theorem Gd.older (h:Gd g N) {hour age:Int} (h1:0≤hour) (h2:hour≤72) (h3:0≤age) (h4:age≤72) {i:Nat} (hi:i < g.Spots.length) :
  Swa.older g i hour age=(verdict (pile g (i:Nat)).1 ((pile g (i:Nat)).1.before (untilL (hour - age - 1) g.Acts)).tips ((pile g (i:Nat)).1.before (untilL hour g.Acts)).takes,0):=by
 have hok:=h.ok.spots
 have hin3:inB (i:Int) 0 (w64 (g.Spots.length - 1))=true:=by
  rw [w64_id (by omega) (by omega)]
  exact inB_mk (by omega) (by omega)
 have hw:w64 (w64 (hour - age) - 1)=hour - age - 1:=by rw [w64_id (x:=hour - age) (by omega) (by omega),w64_id (by omega) (by omega)]
 have hg:(Swa.known g).1.getD (i:Int).toNat default=(pile g (i:Nat)).1:=known_at (by rw [h.kl];exact hi)
 unfold Swa.older
 rw [if_neg (by rw [h.ck];simp),if_pos hin3,if_pos ⟨inB_mk h1 h2,inB_mk h3 h4⟩,if_neg (by rw [h.kn];simp),hg,hw]
 unfold verdict
 dsimp only
 split
 ·rfl
 ·split <;> rfl
end
def olderD (g:Gnd) (d:DayS) (spot hour age:Int) (n:Nat):Bool:=(List.range n).any fun i=>decide ((g.Acts.getD i default).Spot=spot) && decide (0 < d.left.getD i 0) && decide (age < w64 (hour - (g.Acts.getD i default).Hour))
def badOld (g:Gnd) (d:DayS) (hour:Int) (i:Nat):Bool:=decide (0 < d.left.getD i 0) && decide ((g.Sorts.getD (g.Acts.getD i default).Kind.toNat default).Age < w64 (hour - (g.Acts.getD i default).Hour))
def badMix (g:Gnd) (b:DayS) (hour:Int) (i:Nat):Bool :=
 decide ((g.Acts.getD i default).Hour=hour) && !(g.Acts.getD i default).Take && decide (0≤b.last.getD (g.Acts.getD i default).Spot.toNat 0) && decide (kindOf g b (g.Acts.getD i default).Spot.toNat≠(g.Acts.getD i default).Kind) && decide (0 < b.mass g (g.Acts.getD i default).Spot)
def badAct (g:Gnd) (truth:List Int) (d:DayS) (hour:Int) (i:Nat):Bool:=badOld g d hour i || badMix g (dayOf g truth i hour) hour i
def badHigh (g:Gnd) (d:DayS) (a:Nat):Bool:=decide (w64 (w64 ((g.Sorts.getD (kindOf g d a).toNat default).High * (g.Sorts.getD (kindOf g d a).toNat default).Dense) * (g.Spots.getD a default).Area) < w64 (100 * d.mass g a))
def badNear (g:Gnd) (d:DayS) (a b:Nat):Bool:=decide (0 < d.mass g b) && nearS g a b (kindOf g d a) (kindOf g d b)
def badSpot (g:Gnd) (d:DayS) (a:Nat):Bool:=!decide (d.mass g a=0) && (badHigh g d a || (List.range a).any fun b=>badNear g d a b)
def broken (g:Gnd) (truth:List Int) (hour:Int):Bool :=
 ((List.range g.Acts.length).any fun i=>badAct g truth (dayOf g truth g.Acts.length hour) hour i) || (List.range g.Spots.length).any fun a=>badSpot g (dayOf g truth g.Acts.length hour) a
def firstGo (g:Gnd) (truth:List Int):Nat→Nat→Int
 | 0,_=>-1
 | n + 1,h=>if broken g truth h=true then h else firstGo g truth n (h + 1)
def first (g:Gnd) (truth:List Int):Int:=firstGo g truth 73 0
theorem firstGo_first (g:Gnd) (truth:List Int):∀ (n h:Nat),n + h=73→(∀ h',h' < h→¬ broken g truth h'=true)→FirstI (fun h=>broken g truth h=true) (firstGo g truth n h)
 | 0,h,hn,k=>.inr ⟨rfl,fun h' q=>k h' (by omega)⟩
 | n + 1,h,hn,k=>by
  rw [firstGo]
  by_cases c:broken g truth h=true
  ·rw [if_pos c]
   exact .inl ⟨h,rfl,by omega,c,k⟩
  ·rw [if_neg c]
   refine firstGo_first g truth n (h + 1) (by omega) fun h' q=>?_
   by_cases e:h'=h
   ·rw [e];exact c
   ·exact k h' (by omega)
theorem first_first (g:Gnd) (truth:List Int):FirstI (fun h=>broken g truth h=true) (first g truth):=firstGo_first g truth 73 0 rfl fun h' q=>by omega
theorem FirstI.cum {B:Nat→Prop} {p:Int} (h:FirstI B p):FirstI (fun h=>∃ h',h'≤h∧B h') p:=by
 rcases h with ⟨a,rfl,a1,a2,a3⟩|⟨rfl,a⟩
 ·exact .inl ⟨a,rfl,a1,⟨a,Nat.le_refl _,a2⟩,fun h' q ⟨h2,q2,b⟩=>a3 h2 (by omega) b⟩
 ·exact .inr ⟨rfl,fun h q ⟨h2,q2,b⟩=>a h2 (by omega) b⟩
theorem until_lt {hour:Int}:∀ {L:List Act} {i:Nat},i < untilL hour L→(L.getD i default).Hour≤hour
 | [],i,h=>by cases h
 | a :: L,i,h=>by
  rw [untilL] at h
  by_cases c:a.Hour≤hour
  ·rw [if_pos c] at h
   cases i with
   | zero=>exact c
   | succ i=>exact until_lt (L:=L) (i:=i) (by omega)
  ·rw [if_neg c] at h;omega
theorem lt_until {hour:Int}:∀ {L:List Act} {i:Nat},i < L.length→(∀ k,k≤i→(L.getD k default).Hour≤hour)→i < untilL hour L
 | [],i,h,_=>by cases h
 | a :: L,i,h,k=>by
  have c:a.Hour≤hour:=k 0 (Nat.zero_le _)
  rw [untilL,if_pos c]
  cases i with
  | zero=>omega
  | succ i =>
   have:=lt_until (L:=L) (i:=i) (by simpa using h) fun j hj=>k (j + 1) (by omega)
   omega
theorem Ok.lt_until {g:Gnd} (ok:Ok g) {hour:Int} {i:Nat} (hi:i < g.Acts.length) (h:(g.Acts.getD i default).Hour≤hour):i < untilL hour g.Acts :=
 Swa.lt_until hi fun k hk=>by
  by_cases e:k=i
  ·rw [e];exact h
  ·have:=ok.sorted (i:=k) (k:=i) (by omega) hi;omega
section
variable {g:Gnd} {truth:List Int} {N:Nat→Nat} {X:Nat→Nat→Int}
theorem True5.kindE (h:True5 g truth) {a n:Nat} (ha:a < g.Spots.length) (hn:n≤g.Acts.length) (hp:0 < (dayRun g truth n).mass g a):Swa.kindOf g (dayRun g truth n) a=kndAft a g.Acts n:=by
 have hz:(g.Acts.zip truth).map (·.1)=g.Acts:=by rw [List.map_fst_zip];have:=h.len;omega
 rw [h.mass hn] at hp
 have tn:=tipAft_nonneg h.few a n hn
 unfold Swa.kindOf
 rw [(h.day hn).lst a ha]
 rcases last_kind a g.Acts n with ⟨q1,q2⟩|⟨q1,q2,q3⟩
 ·have q1':lastAft a ((g.Acts.zip truth).map (·.1)) n = -1:=by rw [hz];exact q1
  have:=last_none q1'
  omega
 ·exact q3.symm
theorem True5.left (h:True5 g truth) {u i:Nat} (hu:u≤g.Acts.length) (hi:i < u) (ht:(g.Acts.getD i default).Take=false) :
  0 < (dayRun g truth u).left.getD i 0↔takAft (g.Acts.getD i default).Spot (g.Acts.zip truth) u < tipAft (g.Acts.getD i default).Spot (g.Acts.zip truth) (i + 1):=by
 have D:=h.day hu
 obtain ⟨spot,hs⟩:∃ s,s=(g.Acts.getD i default).Spot:=⟨_,rfl⟩
 rw [← hs]
 have s1:=D.sum spot (i + 1) (by omega)
 have s0:=D.sum spot i (by omega)
 rw [sumL,if_pos hs.symm] at s1
 have t1:tipAft spot (g.Acts.zip truth) (i + 1)=tipAft spot (g.Acts.zip truth) i + truth.getD i 0:=by
  rw [tipAft,zip_getD h.len (by omega),if_pos (show (g.Acts.getD i default).Spot=spot∧(g.Acts.getD i default).Take=false from ⟨hs.symm,ht⟩)]
 have:=h.at (u:=i) (by omega)
 omega
theorem True5.left0 (h:True5 g truth) {u i:Nat} (hu:u≤g.Acts.length) (hl:0 < (dayRun g truth u).left.getD i 0):i < u∧(g.Acts.getD i default).Take=false:=by
 have D:=h.day hu
 refine ⟨Nat.lt_of_not_le fun q=>?_, ?_⟩
 ·rw [D.zero i q] at hl;omega
 ·cases c:(g.Acts.getD i default).Take with
  | false=>rfl
  | true=>rw [D.tk i c] at hl;omega
theorem SpotX.pos {j:Nat} (h:SpotX g j truth (N j) (X j)) (T:True5 g truth) {u:Nat} (hu:u≤g.Acts.length) (hp:0 < tipAft j (g.Acts.zip truth) u):0 < ((pile g j).1.before u).tips:=by
 refine Nat.pos_of_ne_zero fun e=>?_
 have m:=(h.mom u hu).2.2.1
 have m0:=(h.mom 0 (Nat.zero_le _)).2.2.1
 have e0:((pile g j).1.before (0:Nat)).tips=0:=by
  have:=pile_zero g j
  have e:((pile g j).1.before (0:Nat))=mom0:=this
  rw [e];rfl
 rw [e0] at m0
 rw [e,m0] at m
 rw [← m] at hp
 exact absurd hp (by show ¬ (0:Int) < 0;omega)
theorem nowOf_def (g:Gnd) (j:Nat) (hour:Int):nowOf g (pile g j).1 hour=(pile g j).1.before (untilL hour g.Acts):=rfl
theorem True5.broken_iff (T:True5 g truth) (sp:∀ j:Nat,j < g.Spots.length→SpotX g j truth (N j) (X j)) {hour:Nat} (hh:hour≤72):broken g truth hour=true↔∃ r,RulAt g hour r∧¬ RulIs r X:=by
 have G:=T.gd sp
 have kl:=G.kl
 obtain ⟨u,hu⟩:∃ u,u=untilL hour g.Acts:=⟨_,rfl⟩
 have hul:u≤g.Acts.length:=by rw [hu];exact until_len _ _
 have hd:dayOf g truth g.Acts.length hour=dayRun g truth u:=by unfold dayOf;rw [← hu,Nat.min_eq_right hul]
 have hwi:∀ i,i < g.Acts.length→w64 ((hour:Int) - (g.Acts.getD i default).Hour)=hour - (g.Acts.getD i default).Hour:=fun i hi=>by
  have:=T.ok.hour hi
  exact w64_id (by omega) (by omega)
 have spt:∀ i,i < g.Acts.length→∃ j:Nat,j < g.Spots.length∧(g.Acts.getD i default).Spot=j∧(g.Acts.getD i default).Spot.toNat=j:=fun i hi=>by
  have:=T.at hi
  exact ⟨(g.Acts.getD i default).Spot.toNat,by omega,by omega,rfl⟩
 have m0:∀ j:Nat,0≤(dayRun g truth u).mass g j:=fun j=>by rw [T.mass hul];have:=T.le j u hul;omega
 have ml:∀ j:Nat,(dayRun g truth u).mass g j≤10000000:=fun j=>by
  rw [T.mass hul]
  have:=tipAft_nonneg T.few j u hul
  have:=T.ok.acts
  omega
 have xm:∀ (j v:Nat),j < g.Spots.length→v≤g.Acts.length→X j ((pile g j).1.before v).tips=tipAft j (g.Acts.zip truth) v∧X j ((pile g j).1.before v).takes=takAft j (g.Acts.zip truth) v∧((pile g j).1.before v).kind=kndAft j g.Acts v:=fun j v hj hv=>by
  obtain ⟨_,_,a,b,c⟩:=(sp j hj).mom v hv
  exact ⟨a,b,c⟩
 have kd:∀ j:Nat,j < g.Spots.length→0 < (dayRun g truth u).mass g j→Swa.kindOf g (dayRun g truth u) j=((pile g j).1.before u).kind:=fun j hj hp=>by
  rw [(xm j u hj hul).2.2];exact T.kindE hj hul hp
 have tp:∀ j:Nat,j < g.Spots.length→0 < (dayRun g truth u).mass g j→0 < ((pile g j).1.before u).tips:=fun j hj hp=>by
  refine (sp j hj).pos T hul ?_
  rw [T.mass hul] at hp
  have:=tipAft_nonneg T.few j u hul
  omega
 have high:∀ j:Nat,j < g.Spots.length→0 < (dayRun g truth u).mass g j→(badHigh g (dayRun g truth u) j=true↔holdsP g j ((pile g j).1.before u).kind.toNat < (dayRun g truth u).mass g j):=fun j hj hp=>by
  have kk:=T.ok.kind j u hul
  rw [← (xm j u hj hul).2.2] at kk
  obtain ⟨c,_,c0,c1,c2,c3⟩:=holds_val T.ok hj kk
  have:=ml j
  unfold badHigh
  rw [kd j hj hp,c3,c2,w64_id (by omega) (by omega),decide_eq_true_eq]
  omega
 have fc:∀ s t,fireMax g s t=fireMax g t s:=fun s t=>by unfold fireMax;rw [Int.max_comm]
 have dc:∀ a b,dist g a b=dist g b a:=fun a b=>by unfold dist;rw [distS_comm]
 unfold broken RulAt
 rw [hd,Bool.or_eq_true,List.any_eq_true,List.any_eq_true]
 constructor
 ·rintro (⟨i,hi,hb⟩|⟨a,ha,hb⟩)
  ·rw [List.mem_range] at hi
   obtain ⟨j,hj,ej,ej2⟩:=spt i hi
   have heap:∀ r,r∈heapRules g (pile g j).1 j hour→r∈heapsR g (Swa.known g).1 hour g.Spots.length:=fun r hr=>heapsR_mem.2 ⟨j,hj,by rw [known_at (by omega)];exact hr⟩
   unfold badAct at hb
   rw [Bool.or_eq_true] at hb
   rcases hb with hb|hb
   ·unfold badOld at hb
    rw [Bool.and_eq_true,decide_eq_true_eq,decide_eq_true_eq,hwi i hi] at hb
    obtain ⟨b1,b2⟩:=hb
    obtain ⟨iu,ht⟩:=T.left0 hul b1
    rw [T.left hul iu ht,ej] at b1
    refine ⟨_,.inl (heap _ ((heapRules_mem T.ok j hour _).2 (.inr ⟨i,hi,ej,ht,until_lt (by rw [← hu];exact iu),.inl ⟨by omega,rfl⟩⟩))), ?_⟩
    rintro ⟨w,hw,k⟩
    rw [List.mem_singleton.1 hw] at k
    unfold Way.is at k
    dsimp only at k
    rw [nowOf_def,← hu,(xm j u hj hul).2.1,(xm j (i + 1) hj (by omega)).1] at k
    omega
   ·unfold badMix at hb
    simp only [Bool.and_eq_true,decide_eq_true_eq,Bool.not_eq_true'] at hb
    obtain ⟨⟨⟨⟨b1,b2⟩,b3⟩,b4⟩,b5⟩:=hb
    have iu:i < u:=by rw [hu];exact T.ok.lt_until hi (by omega)
    have e:dayOf g truth i hour=dayRun g truth i:=by unfold dayOf;rw [← hu,Nat.min_eq_left (by omega)]
    rw [e] at b3 b4 b5
    rw [ej2] at b3 b4
    rw [ej] at b5
    have hb5:=b5
    rw [T.mass (by omega)] at b5
    have tn:=tipAft_nonneg T.few j i (by omega)
    rw [T.kindE hj (by omega) hb5,← (xm j i hj (by omega)).2.2] at b4
    refine ⟨_,.inl (heap _ ((heapRules_mem T.ok j hour _).2 (.inr ⟨i,hi,ej,b2,by omega,.inr ⟨b1,(sp j hj).pos T (by omega) (by omega),b4,rfl⟩⟩))), ?_⟩
    rintro ⟨w,hw,k⟩
    rw [List.mem_singleton.1 hw] at k
    unfold Way.is emptyW at k
    dsimp only at k
    rw [(xm j i hj (by omega)).1,(xm j i hj (by omega)).2.1] at k
    omega
  ·rw [List.mem_range] at ha
   unfold badSpot at hb
   simp only [Bool.and_eq_true,Bool.or_eq_true,Bool.not_eq_true',decide_eq_false_iff_not,List.any_eq_true,List.mem_range] at hb
   obtain ⟨b1,b2⟩:=hb
   have ma:=m0 a
   have ma':0 < (dayRun g truth u).mass g a:=by omega
   rcases b2 with b2|⟨b,hb,b2⟩
   ·rw [high a ha ma'] at b2
    refine ⟨_,.inl (heapsR_mem.2 ⟨a,ha,by rw [known_at (by omega)];exact (heapRules_mem T.ok a hour _).2 (.inl rfl)⟩), ?_⟩
    rintro ⟨w,hw,k⟩
    rw [List.mem_singleton.1 hw] at k
    unfold Way.is lieW at k
    dsimp only at k
    rw [nowOf_def,← hu,(xm a u ha hul).1,(xm a u ha hul).2.1] at k
    rw [T.mass hul] at b2
    omega
   ·unfold badNear nearS at b2
    rw [Bool.and_eq_true,decide_eq_true_eq,decide_eq_true_eq] at b2
    obtain ⟨mb,b3⟩:=b2
    have hbl:b < g.Spots.length:=by omega
    rw [kd a ha ma',kd b hbl mb,dc,fc] at b3
    refine ⟨[emptyW b (nowOf g ((Swa.known g).1.getD b default) hour),emptyW a (nowOf g ((Swa.known g).1.getD a default) hour)],.inr (pairRules_mem.2 ⟨b,a,hb,ha,pairOne_mem.2 ?_⟩), ?_⟩
    ·rw [known_at (by omega),known_at (by omega),nowOf_def,nowOf_def,← hu]
     exact ⟨tp b hbl mb,tp a ha ma',b3,rfl⟩
    ·rw [known_at (by omega),known_at (by omega),nowOf_def,nowOf_def,← hu]
     rintro ⟨w,hw,k⟩
     rw [T.mass hul] at mb ma'
     rcases List.mem_cons.1 hw with rfl|hw
     ·unfold Way.is emptyW at k
      dsimp only at k
      rw [(xm b u hbl hul).1,(xm b u hbl hul).2.1] at k
      omega
     ·rw [List.mem_singleton.1 hw] at k
      unfold Way.is emptyW at k
      dsimp only at k
      rw [(xm a u ha hul).1,(xm a u ha hul).2.1] at k
      omega
 ·rintro ⟨r,hr|hr,hk⟩
  ·obtain ⟨j,hj,hr⟩:=heapsR_mem.1 hr
   rw [known_at (by omega)] at hr
   have one:∀ w,r=[w]→w.most < X w.spot w.b - X w.spot w.a:=fun w e=>by
    refine Int.not_le.1 fun q=>hk ⟨w,by rw [e];exact List.mem_singleton.2 rfl,q⟩
   rcases (heapRules_mem T.ok j hour r).1 hr with e|⟨i,hi,h1,h2,h3,h4⟩
   ·have:=one _ e
    unfold lieW at this
    dsimp only at this
    rw [nowOf_def,← hu,(xm j u hj hul).1,(xm j u hj hul).2.1,← T.mass hul] at this
    have kk:=T.ok.kind j u hul
    rw [← (xm j u hj hul).2.2] at kk
    obtain ⟨c,_,c0,c1,c2,c3⟩:=holds_val T.ok hj kk
    have mp:0 < (dayRun g truth u).mass g j:=by rw [c2] at this;omega
    refine .inr ⟨j,List.mem_range.2 hj, ?_⟩
    unfold badSpot
    rw [Bool.and_eq_true,Bool.or_eq_true]
    refine ⟨?_,.inl ((high j hj mp).2 this)⟩
    rw [Bool.not_eq_true',decide_eq_false_iff_not];omega
   ·have iu:i < u:=by rw [hu];exact T.ok.lt_until hi h3
    refine .inl ⟨i,List.mem_range.2 hi, ?_⟩
    unfold badAct
    rw [Bool.or_eq_true]
    rcases h4 with ⟨q1,e⟩|⟨q1,q2,q3,e⟩
    ·left
     have:=one _ e
     dsimp only at this
     rw [nowOf_def,← hu,(xm j u hj hul).2.1,(xm j (i + 1) hj (by omega)).1] at this
     unfold badOld
     rw [Bool.and_eq_true,decide_eq_true_eq,decide_eq_true_eq,hwi i hi,T.left hul iu h2,h1]
     omega
    ·right
     have:=one _ e
     unfold emptyW at this
     dsimp only at this
     rw [(xm j i hj (by omega)).1,(xm j i hj (by omega)).2.1,← T.mass (by omega)] at this
     have e2:dayOf g truth i hour=dayRun g truth i:=by unfold dayOf;rw [← hu,Nat.min_eq_left (by omega)]
     unfold badMix
     simp only [Bool.and_eq_true,decide_eq_true_eq,Bool.not_eq_true']
     have et:(g.Acts.getD i default).Spot.toNat=j:=by omega
     rw [e2,et,h1,T.kindE hj (by omega) this,← (xm j i hj (by omega)).2.2]
     exact ⟨⟨⟨⟨q1,h2⟩,(T.last hj (by omega) (by omega)).1⟩,q3⟩,this⟩
  ·obtain ⟨a,b,hab,hb,hr⟩:=pairRules_mem.1 hr
   rw [pairOne_mem,known_at (by omega),known_at (by omega),nowOf_def,nowOf_def,← hu] at hr
   obtain ⟨t1,t2,t3,e⟩:=hr
   have hal:a < g.Spots.length:=by omega
   have ma:0 < (dayRun g truth u).mass g a:=by
    rw [T.mass hul]
    refine Int.not_le.1 fun q=>hk ⟨emptyW a ((pile g a).1.before u),by rw [e];exact List.mem_cons_self .., ?_⟩
    unfold Way.is emptyW
    dsimp only
    rw [(xm a u hal hul).1,(xm a u hal hul).2.1]
    exact q
   have mb:0 < (dayRun g truth u).mass g b:=by
    rw [T.mass hul]
    refine Int.not_le.1 fun q=>hk ⟨emptyW b ((pile g b).1.before u),by rw [e];exact List.mem_cons_of_mem _ (List.mem_singleton.2 rfl), ?_⟩
    unfold Way.is emptyW
    dsimp only
    rw [(xm b u hb hul).1,(xm b u hb hul).2.1]
    exact q
   refine .inr ⟨b,List.mem_range.2 hb, ?_⟩
   unfold badSpot
   rw [Bool.and_eq_true,Bool.or_eq_true,List.any_eq_true]
   refine ⟨by rw [Bool.not_eq_true',decide_eq_false_iff_not];omega,.inr ⟨a,List.mem_range.2 hab, ?_⟩⟩
   unfold badNear nearS
   rw [Bool.and_eq_true,decide_eq_true_eq,decide_eq_true_eq,kd a hal ma,kd b hb mb,dc,fc]
   exact ⟨ma,t3⟩
theorem True5.breaksT (T:True5 g truth):(Swa.breaks g).2.2=0∧(first g truth < 0∨(0≤(Swa.breaks g).1∧(Swa.breaks g).1≤first g truth))∧((Swa.breaks g).2.1 < 0∨(0≤first g truth∧first g truth≤(Swa.breaks g).2.1)):=by
 obtain ⟨N,X,sp⟩:=T.nx
 have G:=T.gd sp
 have F:=first_first g truth
 have hy:SolA N (allS g) X:=fun j hj=>by
  rw [G.alen] at hj
  rw [G.allAt hj]
  exact (sp j hj).tab.sat
 obtain ⟨p,q,e1,P,Q⟩:=G.breaks
 rw [e1]
 refine ⟨rfl,F.later P fun hour hh hb=>?_,Q.later F.cum fun hour hh hb=>?_⟩
 ·rw [T.broken_iff sp hh] at hb
  obtain ⟨r,hr,hk⟩:=hb
  exact bIff.2 ⟨r,hr,breaks_of (G.rulIn hr) hy hk⟩
 ·refine Classical.byContradiction fun hn=>hb ((G.kIff hour).2 ⟨X,hy,fun h' q r hr=>Classical.byContradiction fun hk=>hn ⟨h',q,(T.broken_iff sp (by omega)).2 ⟨r,hr,hk⟩⟩⟩)
end
def fitsV (v:Int) (b:Bool):Bool:=(decide (v=1) && b) || (decide (v=2) && !b) || decide (v=3)
theorem sumL_pos {A:List Act} {l:List Int} {spot:Int}:∀ n,0 < sumL A l spot n→∃ k,k < n∧(A.getD k default).Spot=spot∧0 < l.getD k 0
 | 0,h=>absurd h (by show ¬ (0:Int) < 0;omega)
 | n + 1,h=>by
  rw [sumL] at h
  by_cases c:(A.getD n default).Spot=spot
  ·rw [if_pos c] at h
   by_cases p:0 < l.getD n 0
   ·exact ⟨n,by omega,c,p⟩
   ·obtain ⟨k,h1,h2,h3⟩:=sumL_pos (A:=A) (l:=l) (spot:=spot) n (by omega)
    exact ⟨k,by omega,h2,h3⟩
  ·rw [if_neg c] at h
   obtain ⟨k,h1,h2,h3⟩:=sumL_pos (A:=A) (l:=l) (spot:=spot) n (by omega)
   exact ⟨k,by omega,h2,h3⟩
theorem sumL_ge {A:List Act} {l:List Int} {spot:Int} (hn:∀ k,0≤l.getD k 0) {k:Nat}:∀ n,k < n→(A.getD k default).Spot=spot→l.getD k 0≤sumL A l spot n
 | 0,h,_=>by omega
 | n + 1,h,c=>by
  rw [sumL]
  by_cases e:k=n
  ·subst e
   rw [if_pos c]
   have:=sumL_nonneg hn k (A:=A) (spot:=spot)
   omega
  ·have:=sumL_ge hn n (by omega) c
   have:=hn n
   split <;> omega
theorem True5.oldKey {g:Gnd} {truth:List Int} (T:True5 g truth) {hour age:Int} (h1:0≤hour) (h2:hour≤72) (h3:0≤age) (i:Nat) :
  olderD g (dayOf g truth g.Acts.length hour) i hour age (dayOf g truth g.Acts.length hour).left.length=true↔takAft i (g.Acts.zip truth) (untilL hour g.Acts) < tipAft i (g.Acts.zip truth) (untilL (hour - age - 1) g.Acts):=by
 obtain ⟨u,hu⟩:∃ u,u=untilL hour g.Acts:=⟨_,rfl⟩
 obtain ⟨o,ho⟩:∃ o,o=untilL (hour - age - 1) g.Acts:=⟨_,rfl⟩
 have hul:u≤g.Acts.length:=by rw [hu];exact until_len _ _
 have hou:o≤u:=by rw [hu,ho];exact until_mono (by omega) _
 have hd:dayOf g truth g.Acts.length hour=dayRun g truth u:=by unfold dayOf;rw [← hu,Nat.min_eq_right hul]
 have D:=T.day hul
 have so:=D.sum i o hou
 have hn:∀ k,0≤(dayRun g truth u).left.getD k 0:=fun k=>(D.bd k).1
 have hlen:(dayRun g truth u).left.length=g.Acts.length:=D.len
 rw [hd,← hu,← ho,hlen]
 unfold olderD
 rw [List.any_eq_true]
 constructor
 ·rintro ⟨k,hk,q⟩
  rw [List.mem_range] at hk
  rw [Bool.and_eq_true,Bool.and_eq_true,decide_eq_true_eq,decide_eq_true_eq,decide_eq_true_eq] at q
  obtain ⟨⟨q1,q2⟩,q3⟩:=q
  have hh:=T.ok.hour hk
  have w:w64 (hour - (g.Acts.getD k default).Hour)=hour - (g.Acts.getD k default).Hour:=w64_id (by omega) (by omega)
  rw [w] at q3
  have ko:k < o:=by rw [ho];exact T.ok.lt_until hk (by omega)
  have:=sumL_ge hn o ko q1
  omega
 ·intro q
  obtain ⟨k,k1,k2,k3⟩:=sumL_pos o (show 0 < sumL g.Acts (dayRun g truth u).left i o by omega)
  have hk:k < g.Acts.length:=by omega
  refine ⟨k,List.mem_range.2 hk, ?_⟩
  have hh:=T.ok.hour hk
  have w:w64 (hour - (g.Acts.getD k default).Hour)=hour - (g.Acts.getD k default).Hour:=w64_id (by omega) (by omega)
  have hk2:=until_lt (hour:=hour - age - 1) (L:=g.Acts) (i:=k) (by rw [← ho];exact k1)
  rw [w,Bool.and_eq_true,Bool.and_eq_true,decide_eq_true_eq,decide_eq_true_eq,decide_eq_true_eq]
  exact ⟨⟨k2,k3⟩,by omega⟩
structure OldT (g:Gnd) (truth:List Int) (hour age:Int) (i:Nat):Prop where
 e:(Swa.older g i hour age).2=0
 v:(Swa.older g i hour age).1=1∨(Swa.older g i hour age).1=2∨(Swa.older g i hour age).1=3
 fits:fitsV (Swa.older g i hour age).1 (olderD g (dayOf g truth g.Acts.length hour) i hour age (dayOf g truth g.Acts.length hour).left.length)=true
 lo:((Swa.masses g hour).1.getD i default).Min≤(dayOf g truth g.Acts.length hour).mass g i
 hi:(dayOf g truth g.Acts.length hour).mass g i≤((Swa.masses g hour).1.getD i default).Max
theorem True5.old {g:Gnd} {truth:List Int} (T:True5 g truth) {hour age:Int} (h1:0≤hour) (h2:hour≤72) (h3:0≤age) (h4:age≤72) {i:Nat} (hi:i < g.Spots.length):OldT g truth hour age i:=by
 obtain ⟨N,X,sp⟩:=T.nx
 have G:=T.gd sp
 have E:=sp i hi
 have eo:=G.older h1 h2 h3 h4 hi
 have em:=(G.masses h1 h2).2.2 i hi
 obtain ⟨u,hu⟩:∃ u,u=untilL hour g.Acts:=⟨_,rfl⟩
 obtain ⟨o,ho⟩:∃ o,o=untilL (hour - age - 1) g.Acts:=⟨_,rfl⟩
 have hul:u≤g.Acts.length:=by rw [hu];exact until_len _ _
 have hou:o≤u:=by rw [hu,ho];exact until_mono (by omega) _
 have hd:dayOf g truth g.Acts.length hour=dayRun g truth u:=by unfold dayOf;rw [← hu,Nat.min_eq_right hul]
 obtain ⟨a1,a2,a3,a4,_⟩:=E.mom u hul
 obtain ⟨b1,b2,b3,b4,_⟩:=E.mom o (by omega)
 have D:=T.day hul
 have so:=D.sum i o hou
 have hm:=T.mass hul i
 unfold massAt at em
 rw [← hu,← ho] at eo
 rw [← hu] at em
 have s1:=E.tab.sat _ _ b1 a2
 have s2:=E.tab.sat _ _ a2 b1
 have s3:=E.tab.sat _ _ a2 a1
 have s4:=E.tab.sat _ _ a1 a2
 have l4:=E.tab.lt a1 a2
 have hn:∀ k,0≤(dayRun g truth u).left.getD k 0:=fun k=>(D.bd k).1
 have hlen:(dayRun g truth u).left.length=g.Acts.length:=D.len
 have key:=T.oldKey h1 h2 h3 i
 rw [hd,← hu,← ho] at key
 refine ⟨by rw [eo], ?_, ?_, ?_, ?_⟩
 ·rw [eo]
  unfold verdict
  dsimp only
  split
  ·exact .inl rfl
  ·split
   ·exact .inr (.inl rfl)
   ·exact .inr (.inr rfl)
 ·rw [eo,hd]
  unfold verdict
  dsimp only
  by_cases c1:(pile g i).1.s.mat ((pile g i).1.before o).tips ((pile g i).1.before u).takes < 0
  ·rw [if_pos c1,key.2 (by omega)]
   rfl
  ·rw [if_neg c1]
   by_cases c2:(pile g i).1.s.mat ((pile g i).1.before u).takes ((pile g i).1.before o).tips≤0
   ·have:olderD g (dayRun g truth u) i hour age (dayRun g truth u).left.length=false:=by
     cases q:olderD g (dayRun g truth u) i hour age (dayRun g truth u).left.length with
     | false=>rfl
     | true =>
      have:=key.1 q
      omega
    rw [if_pos c2,this]
    rfl
   ·rw [if_neg c2]
    unfold fitsV
    rw [Bool.or_eq_true]
    exact .inr (decide_eq_true rfl)
 ·rw [em,hd,hm]
  show (pile g i).1.least _≤_
  unfold Hp.least
  rw [w64_id (by omega) (by omega)]
  omega
 ·rw [em,hd,hm]
  show _≤(pile g i).1.most _
  unfold Hp.most
  omega
def SK (H:AHeap) (s:Nat) (v:Value):Prop:=∃ d T k,H.get (vblk v)=.cells d T k∧∀ g e l,k=.gr g e l→e=s
theorem SK.fr {N:Nat} {X:List Nat} {A B:AHeap} (hF:Fr N X A B) {s:Nat} {v:Value} (h:SK A s v) (hb:vblk v < A.n) (hx:vblk v∉X):SK B s v:=by
 obtain ⟨d,T,k,h1,h2⟩:=h
 exact ⟨d,T,k,(hF.old _ hb hx).trans h1,h2⟩
theorem GS.sk {H:AHeap} {s n:Nat} {v:Value} {c:List Value} {g:Option Nat} (h:GS H s n v c g):n=0∨SK H s v:=by
 cases h with
 | nil hn hv hc=>exact .inl hn
 | full hv hb hg hk hl hc h0 =>
  subst hv
  refine .inr ⟨_,_,_,hg,fun g e l hkk=>?_⟩
  rcases hk with rfl|rfl <;> cases hkk
 | gr hv hb hgb hg hl hf =>
  subst hv
  exact .inr ⟨_,_,_,hg,fun g e l hkk=>by cases hkk;rfl⟩
def sl (v:Value) (j:Nat):Value:=match v with|.slice (some a) _ k=>.slice (some a) j k|_=>.slice none 0 0
theorem slice_pre {P:Program} {t e:TypeId} {s:Nat} (hu:P.underlying t=some (.slice e)) (hs:tySize P e=some s) {H:AHeap} {v:Value} {c:List Value} {n j:Nat} {q:IntKind} (S:SR H s n v c) (K:SK H s v) (hj:j≤n) (hn:0 < n) :
  sliceA P H t v none (some (.int q j)) none=some (sl v j)∧SR H s j (sl v j) (c.take (j * s)):=by
 rcases S.shape with ⟨_,rfl⟩|⟨b,o,k,rfl,hk⟩
 ·omega
 ·obtain ⟨d,T,kd,g1,g2⟩:=K
  have g1:H.get b=.cells d T kd:=g1
  have hb:bndsA n k none (some (.int q j)) none=some (0,j,k):=by
   unfold bndsA bndO bnd1
   simp only [Option.bind_some,Option.isSome_none,Bool.false_eq_true,false_and,if_false,Option.map_some]
   rw [if_pos ⟨by omega,by omega⟩]
   simp
  constructor
  ·unfold sliceA
   rw [hu]
   dsimp only
   rw [hb,hs,g1]
   cases kd with
   | gr g e' l =>
    dsimp only
    rw [if_pos ⟨g2 _ _ _ rfl,rfl⟩]
    simp [sl]
   | ex =>
    dsimp only
    rw [if_neg (by omega)]
    simp [sl]
   | ro =>
    dsimp only
    rw [if_neg (by omega)]
    simp [sl]
  ·have hjs:j * s≤n * s:=Nat.mul_le_mul_right _ hj
   refine ⟨.inr ⟨b,o,k,rfl,by omega⟩,by rw [List.length_take,S.len];omega, ?_,.inr (S.lt.resolve_left (by omega))⟩
   right
   rcases S.cells with h|⟨d2,h1,h2,h3⟩
   ·omega
   ·refine ⟨d2,h1, ?_, ?_⟩
    ·show o + j * s≤d2.length
     have h2:o + n * s≤d2.length:=h2
     omega
    ·show (d2.drop o).take (j * s)=c.take (j * s)
     have h3:(d2.drop o).take (n * s)=c:=h3
     rw [← h3,List.take_take,Nat.min_eq_left hjs]
theorem sl_blk {v:Value} {n j:Nat} {H:AHeap} {s:Nat} {c:List Value} (S:SR H s n v c) (hn:0 < n):vblk (sl v j)=vblk v:=by
 rcases S.shape with ⟨_,rfl⟩|⟨b,o,k,rfl,hk⟩
 ·omega
 ·rfl
theorem flat_take {α:Type} {enc:α→List Value} {s:Nat} (hs:∀ a,(enc a).length=s):∀ (l:List α) (j:Nat),(l.flatMap enc).take (j * s)=(l.take j).flatMap enc
 | [],j=>by simp
 | a :: l,0=>by simp
 | a :: l,j + 1=>by
  rw [List.flatMap_cons,List.take_succ_cons,List.flatMap_cons,← flat_take hs l j,List.take_append,hs]
  have:(j + 1) * s=j * s + s:=by rw [Nat.add_mul,Nat.one_mul]
  rw [List.take_of_length_le (by rw [hs];omega),this,Nat.add_sub_cancel]
theorem getD_take {α:Type} [Inhabited α] {l:List α} {i j:Nat} (h:i < j):(l.take j).getD i default=l.getD i default:=by
 simp [List.getD,List.getElem?_take_of_lt h]
def Sole (H:AHeap) (b:Nat):Prop:=∀ b' c T e l,H.get b'=.cells c T (.gr b e l)→b'=b
theorem stG_sole {H:AHeap} {b o s:Nat} {x:Value} {c:List Value} {T:TypeId} {e:Nat} (h:Sole H b) (hx:notTup x=true) (hs:x.cells.size=s) (ho:o + s≤c.length) :
  stG H b o s x (.cells c T (.gr b e true))=some (H.upd H.n b (.cells (splice c o x.cells.toList) T (.gr b e true))):=by
 unfold stG
 dsimp only
 rw [if_pos ⟨hx,hs,ho,rfl⟩]
 congr 1
 show (⟨H.n,_⟩:AHeap)=⟨H.n,_⟩
 congr 1
 funext b'
 show (if b'=b then _ else (H.kill b b).get b')=_
 by_cases e1:b'=b
 ·rw [if_pos e1,if_pos e1]
 ·rw [if_neg e1,if_neg e1]
  show (if b'=b then H.get b' else if b' < b then H.get b' else (H.get b').killed b)=H.get b'
  rw [if_neg e1]
  split
  ·rfl
  ·unfold AObj.killed
   split
   ·rename_i c' T' g' e' l' hg
    split
    ·rename_i hgg
     subst hgg
     exact absurd (h _ _ _ _ _ hg) e1
    ·exact hg.symm
   ·rfl
theorem Sole.upd {H:AHeap} {b n b2:Nat} {o:AObj} (h:Sole H b) (ho:∀ c T e l,o=.cells c T (.gr b e l)→b2=b):Sole (H.upd n b2 o) b:=by
 intro b' c T e l hg
 by_cases e1:b'=b2
 ·subst e1
  rw [upd_get_same] at hg
  exact ho _ _ _ _ hg
 ·rw [upd_get_ne e1] at hg
  exact h _ _ _ _ _ hg
theorem oB_appS {P:Program} {ts:Array TypeId} {H:AHeap} {s n m e:Nat} {v x:Value} {c new:List Value} {K:Value→AHeap→Prop} (ht:Top H) (G:GS H s n v c none) (S:SR H s m x new)
  (h1:0 < m→appendOp P ts [v,x] H=some (.slice (some ⟨H.n,0,none⟩) (n + m) (n + m),H.upd (H.n + 1) H.n (.cells (c ++ new) e (.gr H.n s true)))) (h0:m=0→appendOp P ts [v,x] H=some (v,H))
  (k:∀ v' Gq gg,H.n≤Gq.n→Jn H Gq→GS (H.jn Gq) s (n + m) v' (c ++ new) gg→(∀ x,gg=some x→H.n≤x)→(v'=v∨vblk v'=H.n)→vblk v' < Gq.n∨n + m=0 →
   (0 < m→v'=.slice (some ⟨H.n,0,none⟩) (n + m) (n + m)∧(H.jn Gq).get H.n=.cells (c ++ new) e (.gr H.n s true)∧Sole (H.jn Gq) H.n∧H.n < Gq.n)→K v' (H.jn Gq)):oB (appendOp P ts [v,x] H) K:=by
 by_cases hm:m=0
 ·rw [h0 hm]
  have hj:=Jn.self ht
  have hnew:new=[]:=by have:=S.len;subst hm;simpa using this
  subst hm hnew
  have:=k v H none (Nat.le_refl _) hj.1 (by rw [hj.2,List.append_nil];exact G) (by simp) (.inl rfl) (by
   rcases G.sr.lt with q|q
   ·exact .inr q
   ·exact .inl q) (fun q=>absurd q (by omega))
  rw [hj.2] at this
  exact this
 ·rw [h1 (by omega)]
  have GG:=GS.pushed (e:=e) ht G S.len
  have hf:Fr H.n [] H (H.upd (H.n + 1) H.n (.cells (c ++ new) e (.gr H.n s true))):=(Fr.refl H).upd (Nat.le_succ _) (Nat.lt_succ_self _) (.inl (Nat.le_refl _)) ⟨Nat.le_refl _,Nat.le_refl _⟩
  obtain ⟨e1,hj⟩:=hf.to_jn ht
  show K _ (H.upd (H.n + 1) H.n (.cells (c ++ new) e (.gr H.n s true)))
  have GG':GS (H.upd (H.n + 1) H.n (.cells (c ++ new) e (.gr H.n s true))) s (n + m) (.slice (some ⟨H.n,0,none⟩) (n + m) (n + m)) (c ++ new) (some H.n):=GG
  have so:Sole (H.upd (H.n + 1) H.n (.cells (c ++ new) e (.gr H.n s true))) H.n:=by
   refine Sole.upd ?_ fun _ _ _ _ _=>rfl
   intro b' c' T' e' l' hg
   have:=ht.2 b' _ _ _ _ _ hg
   by_cases q:H.n≤b'
   ·rw [ht.1 b' q] at hg;cases hg
   ·omega
  have:=k (.slice (some ⟨H.n,0,none⟩) (n + m) (n + m)) _ (some H.n) (Nat.le_succ _) hj (e1 ▸ GG') (fun x hx=>by cases hx;exact Nat.le_refl _) (.inr rfl) (.inl (Nat.lt_succ_self _)) (fun _=>⟨rfl,e1 ▸ upd_get_same,e1 ▸ so,Nat.lt_succ_self _⟩)
  rw [← e1] at this
  exact this
theorem oblR_refl {ops:Array Oper} {k:Nat} {H:AHeap}:∀ (rs:List (Nat×Nat)),oblR ops k H H rs
 | []=>trivial
 | r :: rs=>⟨.inr rfl,oblR_refl rs⟩
theorem oblA_of {ops:Array Oper} {k b:Nat}:∀ {as:List (Nat×AHeap×AHeap)},(∀ a,a∈as→isAnc ops a.1 k=true∨a.2.2.get b=a.2.1.get b)→oblA ops k b as
 | [],_=>trivial
 | a :: as,h=>⟨h a (List.mem_cons_self ..),oblA_of fun x hx=>h x (List.mem_cons_of_mem _ hx)⟩
theorem WO_post {P:Program} {C:CallRel} {ops:Array Oper} {os:List Oper} {K K':Env→AHeap→Prop} {env:Env} {H:AHeap} (h:WO P C ops os K env H) (hk:∀ e h,K e h→K' e h):WO P C ops os K' env H:=by
 obtain ⟨e,h',r,q⟩:=h
 exact ⟨e,h',r,hk _ _ q⟩
theorem WD_harm {P:Program} {C:CallRel} {ops:Array Oper} {K:Env→AHeap→Prop}:∀ (os:List Oper) {k:Nat} {rs:List (Nat×Nat)} {as as':List (Nat×AHeap×AHeap)} {e:Env} {h:AHeap},
  (∀ a,a∈as'→a∈as∨∀ b,a.2.2.get b=a.2.1.get b)→WD P C ops os k rs as K e h→WD P C ops os k rs as' K e h
 | [],k,rs,as,as',e,h,ha,w=>w
 | o :: os,k,rs,as,as',e,h,ha,w=>by
  unfold WD at w ⊢
  by_cases hs:simpleOp o.op=true
  ·rw [if_pos hs] at w ⊢
   refine ⟨?_,WO_post w.2 fun e h q=>WD_harm os ha q⟩
   have w1:=w.1
   unfold oblO at w1 ⊢
   split
   ·rename_i b hb
    rw [hb] at w1
    refine oblA_of fun a hx=>?_
    rcases ha a hx with q|q
    ·exact oblA_mem w1 a q
    ·exact .inr (q b)
   ·trivial
  ·rw [if_neg hs] at w ⊢
   refine WO_post w fun e' h' q=>⟨q.1,WD_harm os (fun a hx=>?_) q.2⟩
   rcases List.mem_cons.1 hx with rfl|hx
   ·exact .inl (List.mem_cons_self ..)
   ·rcases ha a hx with q|q
    ·exact .inl (List.mem_cons_of_mem _ q)
    ·exact .inr q
section
variable {P:Program} {C:CallRel} {ops:Array Oper} {os:List Oper} {K:Env→AHeap→Prop} {env:Env} {H:AHeap} {dst:Option Tmp} {ty:TypeId} {pos:String} {aft:Array Edge} {k j:Nat} {rs:List (Nat×Nat)} {as:List (Nat×AHeap×AHeap)} {op:Op} {d:Tmp} {t:Bool}
theorem WD_gX {b:Bool} (hd:(ops[j]?).bind (·.dst)=some d) (hv:env d=.bool t) (h1:t=b→WD P C ops (⟨dst,op,ty,pos,aft,none⟩ :: os) k rs as K env H) (h2:t≠b→WD P C ops os (k + 1) rs as K (env.set dst undef) H)
  (hw:Region.wanted ⟨dst,op,ty,pos,aft,some (j,b)⟩ (yieldedA ops env)=decide (t=b))
  (hg:∀ (K':Env→AHeap→Prop),(t=b→WO P C ops [⟨dst,op,ty,pos,aft,none⟩] K' env H)→(t≠b→K' (env.set dst undef) H)→WO P C ops [⟨dst,op,ty,pos,aft,some (j,b)⟩] K' env H) :
  WD P C ops (⟨dst,op,ty,pos,aft,some (j,b)⟩ :: os) k rs as K env H:=by
 unfold WD
 by_cases hs:simpleOp op=true
 ·rw [if_pos hs]
  by_cases e:t=b
  ·have h:=h1 e
   unfold WD at h
   rw [if_pos hs] at h
   have ht:tch ops env H ⟨dst,op,ty,pos,aft,some (j,b)⟩=tch ops env H ⟨dst,op,ty,pos,aft,none⟩:=by
    unfold tch
    rw [hw,decide_eq_true e,if_pos rfl,if_pos (by simp [Region.wanted])]
   rw [ht]
   exact ⟨h.1,hg _ (fun _=>h.2) fun q=>absurd e q⟩
  ·have ht:tch ops env H ⟨dst,op,ty,pos,aft,some (j,b)⟩=none:=by
    unfold tch
    rw [hw,decide_eq_false e,if_neg (by simp)]
   rw [ht]
   exact ⟨trivial,hg _ (fun q=>absurd q e) fun _=>h2 e⟩
 ·rw [if_neg hs]
  refine hg _ (fun e=>?_) fun e=>⟨oblR_refl rs, ?_⟩
  ·have h:=h1 e
   unfold WD at h
   rw [if_neg hs] at h
   exact h
  ·-- an operation that is not wanted changes nothing
   refine WD_harm os (fun a hx=>?_) (h2 e)
   rcases List.mem_cons.1 hx with rfl|hx
   ·exact .inr fun _=>rfl
   ·exact .inl hx
theorem WD_gT (hd:(ops[j]?).bind (·.dst)=some d) (hv:env d=.bool t) (h1:t=true→WD P C ops (⟨dst,op,ty,pos,aft,none⟩ :: os) k rs as K env H) (h2:t=false→WD P C ops os (k + 1) rs as K (env.set dst undef) H) :
  WD P C ops (⟨dst,op,ty,pos,aft,some (j,true)⟩ :: os) k rs as K env H :=
 WD_gX hd hv h1 (fun q=>h2 (by simpa using q)) (by have hy:=yielded_of (ops:=ops) hd hv;show (yieldedA ops env j == some _)=_;rw [hy];cases t <;> rfl) fun K' a b=>WO_gT hd hv a fun q=>⟨_,_,⟨rfl,rfl⟩,b (by simp [q])⟩
theorem WD_gF (hd:(ops[j]?).bind (·.dst)=some d) (hv:env d=.bool t) (h1:t=false→WD P C ops (⟨dst,op,ty,pos,aft,none⟩ :: os) k rs as K env H) (h2:t=true→WD P C ops os (k + 1) rs as K (env.set dst undef) H) :
  WD P C ops (⟨dst,op,ty,pos,aft,some (j,false)⟩ :: os) k rs as K env H :=
 WD_gX hd hv h1 (fun q=>h2 (by simpa using q)) (by have hy:=yielded_of (ops:=ops) hd hv;show (yieldedA ops env j == some _)=_;rw [hy];cases t <;> rfl) fun K' a b=>WO_gF hd hv a fun q=>⟨_,_,⟨rfl,rfl⟩,b (by simp [q])⟩
end
theorem W_forget {P:Program} {C:CallRel} {nt:Nat} {c:Code} {env:Env} {h:AHeap} {Q:Post} {N:Nat} {X:List Nat} {h0:AHeap} (p:AHeap→Prop) (F:Fr N X h0 h) (hp:p h) (k:∀ h',Fr N X h0 h'→p h'→W P C 0 nt c env h' Q):W P C 0 nt c env h Q:=k h F hp
theorem WD_post {P:Program} {C:CallRel} {ops:Array Oper} {K K':Env→AHeap→Prop} (hk:∀ e h,K e h→K' e h):∀ (os:List Oper) {k:Nat} {rs:List (Nat×Nat)} {as:List (Nat×AHeap×AHeap)} {e:Env} {h:AHeap},
  WD P C ops os k rs as K e h→WD P C ops os k rs as K' e h
 | [],k,rs,as,e,h,w=>hk _ _ w
 | o :: os,k,rs,as,e,h,w=>by
  unfold WD at w ⊢
  by_cases hs:simpleOp o.op=true
  ·rw [if_pos hs] at w ⊢
   exact ⟨w.1,WO_post w.2 fun e h q=>WD_post hk os q⟩
  ·rw [if_neg hs] at w ⊢
   exact WO_post w fun e' h' q=>⟨q.1,WD_post hk os q.2⟩
theorem W_drawnP {P:Program} {C:CallRel} {ng nt id:Nat} {l:List Oper} {env:Env} {H:AHeap} {Q:Post} (R:Env→AHeap→Prop) (h1:WD P C ⟨l⟩ l 0 [] [] R env H) (h2:∀ e h,R e h→Q .normal e h):W P C ng nt (.region id ⟨l⟩ true) env H Q :=
 W_drawn fun K hK=>WD_post (fun e h r=>hK e h (h2 e h r)) l h1
end Go.Proofs.Swa
set_option linter.unusedVariables false
set_option linter.unusedSimpArgs false
set_option linter.defProp false
namespace Go.Proofs.Swa
open Go
theorem dA {p:Prop} (h:p:=by first|omega|exact eHp_len _|exact eAct_len _|exact eMom_len _|exact sums_len _|exact eRng_len _|exact eSpo_len _|exact eSrt_len _|(simp only [mLenC,mLenN,mLenA,zs_len,eHp_len,eAct_len,eMom_len,sums_len,eRng_len,eSpo_len,eSrt_len,upd_n,jn_n];first|done|omega)|(simp only [List.mem_cons,List.not_mem_nil,or_false,not_or,not_false_eq_true,upd_n,jn_n];first|done|omega)):p:=h
def nzs:=And.intro @ne_eq.{1} (And.intro @not_true_eq_false (And.intro @decide_false (And.intro @decide_true @Bool.false_eq_true)))
theorem hcX {p q:Prop} (h:p) (n:p→False:=by (intro hc;first|exact absurd hc (by decide)|(simp only [hcs] at hc;first|contradiction|(exfalso;omega))|contradiction)):q:=(n h).elim
theorem WO_gU {P:Program} {C:CallRel} {ops:Array Oper} {os:List Oper} {K:Env→AHeap→Prop} {env:Env} {H:AHeap} {dst:Option Tmp} {ty:TypeId} {pos:String} {aft:Array Edge} {op:Op} {j:Nat} {d:Tmp} {b:Bool} (hd:(ops[j]?).bind (·.dst)=some d) (hv:env d=undef) (h:WO P C ops os K (env.set dst undef) H) :
  WO P C ops (⟨dst,op,ty,pos,aft,some (j,b)⟩ :: os) K env H:=by
 rw [WO_guard]
 have:yieldedA ops env j=none:=by
  unfold yieldedA
  rw [hd]
  simp only [hv]
  rfl
 rw [this,if_neg (by simp)]
 exact h
theorem woI {P:Program} {C:CallRel} {ops:Array Oper} {os:List Oper} {K:Env→AHeap→Prop} {env:Env} {H:AHeap} (h:WO P C ops os K env H):WO P C ops os K env H:=h
theorem wdI {P:Program} {C:CallRel} {ops:Array Oper} {os:List Oper} {k:Nat} {rs:List (Nat×Nat)} {as:List (Nat×AHeap×AHeap)} {K:Env→AHeap→Prop} {env:Env} {H:AHeap} (h:WD P C ops os k rs as K env H):WD P C ops os k rs as K env H:=h
theorem oA {p:Prop} (h:p:=by ((try simp only [upd_n,jn_n]);omega)):p:=h
theorem topA {H:AHeap} (h:Top H:=by (repeat' (first|with_reducible assumption|((with_reducible refine Top.jn ?_ ?_);rotate_left;(focus with_reducible assumption))|((with_reducible refine Top.upd ?_ ?_ ?_ ?_);rotate_left;(focus exact oA);(focus exact oA);(focus first|trivial|exact ⟨oA,oA⟩))))):Top H:=h
theorem frA {N:Nat} {X:List Nat} {A B:AHeap} (h:Fr N X A B:=by (repeat' (first|with_reducible exact Fr.refl _|with_reducible assumption|((with_reducible apply Fr.trans) <;> with_reducible assumption)|((with_reducible refine Fr.jn ?_ ?_ ?_);rotate_left;(focus with_reducible assumption);(focus exact oA))|((with_reducible refine Fr.upd ?_ ?_ ?_ ?_ ?_);rotate_left;(focus exact oA);(focus exact oA);(focus first|(left;exact oA)|(right;simp;done));(focus first|trivial|exact ⟨oA,oA⟩))))):Fr N X A B:=h
theorem nxA {p:Prop} (h:p:=by (simp only [List.mem_cons,List.not_mem_nil,or_false,not_or];omega)):p:=h
def qbs:=And.intro qb sp
def qds:=And.intro qd qbs
def qcs:=And.intro qc (And.intro qe (And.intro @stG_agg sp))
def spx:=And.intro sp (And.intro (@if_true.{0}) (And.intro (@if_false.{0}) (@ite_self.{0})))
def qbx:=And.intro qb spx
def qdx:=And.intro qd qbx
def qcx:=And.intro qc (And.intro qe (And.intro @stG_agg spx))
theorem obA {p:Prop} (h:p:=by (simp only [oblR,oblA];(repeat' (first|exact trivial|(refine And.intro ?_ ?_)|(right;simp (disch:=first|exact dA|fail) only [qcs,Int.reduceToNat,Nat.reduceAdd,Nat.reduceMul,Nat.reduceEqDiff,reduceIte,reduceCtorEq,Nat.reduceLT];done)|(right;(apply Top.dead2);(focus exact oA);(focus exact oA);(focus exact topA);(focus exact topA);done)|(left;decide))))):p:=h
theorem W_regionE {P:Program} {C:CallRel} {ng nt:Nat} {id:Nat} {l:List Oper} {env:Env} {H:AHeap} {Q:Post} (L:Nat→List Nat) (X:List Nat) (h:∀ K:Env→AHeap→Prop,(∀ e h,(∀ e',(∀ t,t∈L id→e' t=e t)→Q .normal e' h)→K e h)→WO P C ⟨l⟩ l K env H) (hx:id∉X:=by decide):W P C ng nt (.region id ⟨l⟩ false) env H Q:=W_regionF L h
theorem W_drawnE {P:Program} {C:CallRel} {ng nt:Nat} {id:Nat} {l:List Oper} {env:Env} {H:AHeap} {Q:Post} (L:Nat→List Nat) (X:List Nat) (h:∀ K:Env→AHeap→Prop,(∀ e h,(∀ e',(∀ t,t∈L id→e' t=e t)→Q .normal e' h)→K e h)→WD P C ⟨l⟩ l 0 [] [] K env H) (hx:id∉X:=by decide):W P C ng nt (.region id ⟨l⟩ true) env H Q:=W_drawnF L h
end Go.Proofs.Swa
set_option linter.unusedVariables false
set_option linter.unusedSimpArgs false
namespace Go.Proofs.Swa
open Go
inductive RuleV (H:AHeap) (E:List Nat):Value→Rul→Prop
 | one {b:Nat} {w:Way} (hb:b∉E∧b < H.n) (hg:H.get b=.cells (eWay w) 144 .ex):RuleV H E (.func (.func 111) #[] #[vptr b 0]) [w]
 | pair {b0 b1 b2 b3:Nat} {a b:Nat} {m n:Mom} (h0:b0∉E∧b0 < H.n) (h1:b1∉E∧b1 < H.n) (h2:b2∉E∧b2 < H.n) (h3:b3∉E∧b3 < H.n)
   (g0:H.get b0=.cells [iv a] 3 .ex) (g1:H.get b1=.cells (eMom m) 101 .ex) (g2:H.get b2=.cells [iv b] 3 .ex) (g3:H.get b3=.cells (eMom n) 101 .ex) :
   RuleV H E (.func (.func 106) #[] #[vptr b0 0,vptr b1 0,vptr b2 0,vptr b3 0]) [emptyW a m,emptyW b n]
theorem RuleV.fr {N:Nat} {X:List Nat} {A B:AHeap} {E:List Nat} {v:Value} {r:Rul} (hF:Fr N X A B) (hX:∀ b,b∈X→b < A.n→b∈E) (h:RuleV A E v r):RuleV B E v r:=by
 have nx:∀ b,b∉E∧b < A.n→b∉X:=fun b hb hm=>hb.1 (hX b hm hb.2)
 have hn:=hF.n
 cases h with
 | one hb hg=>exact .one ⟨hb.1,by omega⟩ ((hF.old _ hb.2 (nx _ hb)).trans hg)
 | pair h0 h1 h2 h3 g0 g1 g2 g3 =>
  exact .pair ⟨h0.1,by omega⟩ ⟨h1.1,by omega⟩ ⟨h2.1,by omega⟩ ⟨h3.1,by omega⟩ ((hF.old _ h0.2 (nx _ h0)).trans g0) ((hF.old _ h1.2 (nx _ h1)).trans g1) ((hF.old _ h2.2 (nx _ h2)).trans g2) ((hF.old _ h3.2 (nx _ h3)).trans g3)
theorem RuleV.ex {A:AHeap} {E E':List Nat} {v:Value} {r:Rul} (hl:∀ b,b∈E'→b < A.n→b∈E) (h:RuleV A E v r):RuleV A E' v r:=by
 have nx:∀ b,b∉E∧b < A.n→b∉E'∧b < A.n:=fun b hb=>⟨fun hm=>hb.1 (hl b hm hb.2),hb.2⟩
 cases h with
 | one hb hg=>exact .one (nx _ hb) hg
 | pair h0 h1 h2 h3 g0 g1 g2 g3=>exact .pair (nx _ h0) (nx _ h1) (nx _ h2) (nx _ h3) g0 g1 g2 g3
theorem RuleV.one' {A:AHeap} {E:List Nat} {v:Value} {r:Rul} (h:RuleV A E v r):Swa.one v:=by
 cases h <;> exact one_func
def RulesV (H:AHeap) (E:List Nat):List Value→List Rul→Prop
 | [],[]=>True
 | v :: vs,r :: rs=>RuleV H E v r∧RulesV H E vs rs
 | _,_=>False
theorem RulesV.len {H:AHeap} {E:List Nat}:∀ {vs:List Value} {rs:List Rul},RulesV H E vs rs→vs.length=rs.length
 | [],[],_=>rfl
 | v :: vs,r :: rs,h=>by rw [List.length_cons,List.length_cons,RulesV.len h.2]
 | [],r :: rs,h=>h.elim
 | v :: vs,[],h=>h.elim
theorem RulesV.app {H:AHeap} {E:List Nat}:∀ {vs:List Value} {rs:List Rul} {us:List Value} {ss:List Rul},RulesV H E vs rs→RulesV H E us ss→RulesV H E (vs ++ us) (rs ++ ss)
 | [],[],_,_,_,k=>k
 | v :: vs,r :: rs,_,_,h,k=>⟨h.1,RulesV.app h.2 k⟩
 | [],r :: rs,_,_,h,_=>h.elim
 | v :: vs,[],_,_,h,_=>h.elim
theorem RulesV.at {H:AHeap} {E:List Nat}:∀ {vs:List Value} {rs:List Rul},RulesV H E vs rs→∀ i,i < rs.length→∃ v,vs[i]? = some v∧RuleV H E v (rs.getD i default)
 | [],[],_,i,hi=>by simp at hi
 | v :: vs,r :: rs,h,0,_=>⟨v,rfl,h.1⟩
 | v :: vs,r :: rs,h,i + 1,hi=>RulesV.at h.2 i (by simpa using hi)
 | [],r :: rs,h,_,_=>h.elim
 | v :: vs,[],h,_,_=>h.elim
theorem RulesV.fr {N:Nat} {X:List Nat} {A B:AHeap} {E:List Nat} (hF:Fr N X A B) (hX:∀ b,b∈X→b < A.n→b∈E):∀ {vs:List Value} {rs:List Rul},RulesV A E vs rs→RulesV B E vs rs
 | [],[],_=>trivial
 | v :: vs,r :: rs,h=>⟨h.1.fr hF hX,RulesV.fr hF hX h.2⟩
 | [],r :: rs,h=>h.elim
 | v :: vs,[],h=>h.elim
theorem RulesV.ex {A:AHeap} {E E':List Nat} (hl:∀ b,b∈E'→b < A.n→b∈E):∀ {vs:List Value} {rs:List Rul},RulesV A E vs rs→RulesV A E' vs rs
 | [],[],_=>trivial
 | v :: vs,r :: rs,h=>⟨h.1.ex hl,RulesV.ex hl h.2⟩
 | [],r :: rs,h=>h.elim
 | v :: vs,[],h=>h.elim
def WayOk (n:Nat) (w:Way):Prop:=w.spot < n∧w.a < 11∧w.b < 11
def RulOk (n:Nat) (r:Rul):Prop:=∀ w,w∈r→WayOk n w
def RulsOk (n:Nat) (rs:List Rul):Prop:=∀ r,r∈rs→RulOk n r
theorem W_both {P:Program} {C:CallRel} {ng nt:Nat} {r c:Code} {env:Env} {H:AHeap} {Q:Post} (R:Env→AHeap→Prop) (h1:W P C ng nt r env H (seqK P C ng nt c fun x e h=>x=.normal∧R e h)) (h2:∀ e h,R e h→Q .normal e h) :
  W P C ng nt r env H (seqK P C ng nt c Q):=by
 refine W_mono h1 fun x e h q=>?_
 cases x with
 | normal =>
  refine W_mono q fun x e h q=>?_
  obtain ⟨rfl,q⟩:=q
  exact h2 e h q
 | exit i=>cases q.1
 | ret=>cases q.1
structure HeapR (H h:AHeap) (va vb vc vh:Value) (spot:Nat) (hour:Int) (p:Hp×Value) (now:Mom) (B8 B9 B10 B11 gB sB L:Nat) (LX:AObj) (out:List Rul) (bf tp:Nat) (vo:Value) (vs:List Value) (gg:Option Nat):Prop where
 y:h.get H.n=.cells [va,vb,vc,vh] 91 .ex
 s:h.get (H.n + 1)=.cells [iv spot] 3 .ex
 t:h.get (H.n + 2)=.cells [iv hour] 3 .ex
 hp:h.get (H.n + 3)=.cells (eHp p) 99 .ex
 now:h.get B8=.cells (eMom now) 101 .ex
 o:h.get B9=.cells [vo] 114 .ex
 b:h.get B10=.cells [iv bf] 3 .ex
 tp:h.get B11=.cells [iv tp] 3 .ex
 g:h.get gB=.cells [va,vb,vc] 26 .ex
 sb:h.get sB=.cells [iv spot] 3 .ex
 lo:h.get L=LX
 G:GS h 1 out.length vo vs gg
 gr:∀ x,gg=some x→H.n≤x
 vb:vblk vo∉[B9,B10,B11,L]∧H.n≤vblk vo
 R:RulesV h [B9,B10,B11,L] vs out
 F:Fr H.n [] H h
 T:Top h
 lt:L < h.n
def InRow (a b c d e f g i:Nat):Prop:=a + 3 < b∧b < c∧c < d∧d < e∧e < f∧f < g∧g < i
section
variable {H h h':AHeap} {va vb vc vh:Value} {spot:Nat} {hour:Int} {p:Hp×Value} {now:Mom} {B8 B9 B10 B11 gB sB L:Nat} {LX:AObj} {out:List Rul} {bf tp:Nat} {vo:Value} {vs:List Value} {gg:Option Nat}
theorem HeapR.mono (k:HeapR H h va vb vc vh spot hour p now B8 B9 B10 B11 gB sB L LX out bf tp vo vs gg) (r:InRow H.n B8 B9 B10 B11 gB sB L) (F:Fr h.n [] h h') (hH:H.n≤h.n):HeapR H h' va vb vc vh spot hour p now B8 B9 B10 B11 gB sB L LX out bf tp vo vs gg:=by
 obtain ⟨r1,r2,r3,r4,r5,r6,r7⟩:=r
 have l:=k.lt
 have hn:=F.n
 have o:∀ b,b < h.n→h'.get b=h.get b:=fun b hb=>F.old b hb (by simp)
 exact ⟨by rw [o _ (by omega)];exact k.y,by rw [o _ (by omega)];exact k.s,by rw [o _ (by omega)];exact k.t,by rw [o _ (by omega)];exact k.hp,by rw [o _ (by omega)];exact k.now,by rw [o _ (by omega)];exact k.o,by rw [o _ (by omega)];exact k.b,by rw [o _ (by omega)];exact k.tp,
  by rw [o _ (by omega)];exact k.g,by rw [o _ (by omega)];exact k.sb,by rw [o _ (by omega)];exact k.lo,k.G.fr F (fun x hx=>by subst hx;exact k.G.grp_lt) (by simp),k.gr,k.vb,k.R.fr F (by simp),k.F.call F hH,F.top k.T,by omega⟩
theorem HeapR.setL (k:HeapR H h va vb vc vh spot hour p now B8 B9 B10 B11 gB sB L LX out bf tp vo vs gg) (r:InRow H.n B8 B9 B10 B11 gB sB L) (hH:H.n≤L) {LY:AObj} (hL:∀ N b,grOk N b LY):HeapR H (h.upd h.n L LY) va vb vc vh spot hour p now B8 B9 B10 B11 gB sB L LY out bf tp vo vs gg:=by
 obtain ⟨r1,r2,r3,r4,r5,r6,r7⟩:=r
 have l:=k.lt
 have F:Fr h.n [L] h (h.upd h.n L LY):=(Fr.refl h).upd (Nat.le_refl _) l (.inr (by simp)) (hL _ _)
 have F0:Fr H.n [] H (h.upd h.n L LY):=k.F.upd (Nat.le_refl _) l (.inl hH) (hL _ _)
 have o:∀ b,b≠L→(h.upd h.n L LY).get b=h.get b:=fun b hb=>upd_get_ne hb
 have v1:=k.vb.1
 simp only [List.mem_cons,List.not_mem_nil,or_false,not_or] at v1
 exact ⟨by rw [o _ (by omega)];exact k.y,by rw [o _ (by omega)];exact k.s,by rw [o _ (by omega)];exact k.t,by rw [o _ (by omega)];exact k.hp,by rw [o _ (by omega)];exact k.now,by rw [o _ (by omega)];exact k.o,by rw [o _ (by omega)];exact k.b,by rw [o _ (by omega)];exact k.tp,
  by rw [o _ (by omega)];exact k.g,by rw [o _ (by omega)];exact k.sb,upd_get_same,k.G.fr F (fun x hx=>by subst hx;exact k.G.grp_lt) (by simpa using v1.2.2.2),k.gr,k.vb,k.R.fr F (by simp),F0,F.top k.T,l⟩
theorem HeapR.setT (k:HeapR H h va vb vc vh spot hour p now B8 B9 B10 B11 gB sB L LX out bf tp vo vs gg) (r:InRow H.n B8 B9 B10 B11 gB sB L) (hH:H.n≤B11) (t':Nat):HeapR H (h.upd h.n B11 (.cells [iv t'] 3 .ex)) va vb vc vh spot hour p now B8 B9 B10 B11 gB sB L LX out bf t' vo vs gg:=by
 obtain ⟨r1,r2,r3,r4,r5,r6,r7⟩:=r
 have l:=k.lt
 have F:Fr h.n [B11] h (h.upd h.n B11 (.cells [iv t'] 3 .ex)):=(Fr.refl h).upd (Nat.le_refl _) (by omega) (.inr (by simp)) trivial
 have F0:Fr H.n [] H (h.upd h.n B11 (.cells [iv t'] 3 .ex)):=k.F.upd (Nat.le_refl _) (by omega) (.inl hH) trivial
 have o:∀ b,b≠B11→(h.upd h.n B11 (.cells [iv t'] 3 .ex)).get b=h.get b:=fun b hb=>upd_get_ne hb
 have v1:=k.vb.1
 simp only [List.mem_cons,List.not_mem_nil,or_false,not_or] at v1
 exact ⟨by rw [o _ (by omega)];exact k.y,by rw [o _ (by omega)];exact k.s,by rw [o _ (by omega)];exact k.t,by rw [o _ (by omega)];exact k.hp,by rw [o _ (by omega)];exact k.now,by rw [o _ (by omega)];exact k.o,by rw [o _ (by omega)];exact k.b,upd_get_same,
  by rw [o _ (by omega)];exact k.g,by rw [o _ (by omega)];exact k.sb,by rw [o _ (by omega)];exact k.lo,k.G.fr F (fun x hx=>by subst hx;exact k.G.grp_lt) (by simpa using v1.2.2.1),k.gr,k.vb,k.R.fr F (by simp),F0,F.top k.T,l⟩
theorem HeapR.setB (k:HeapR H h va vb vc vh spot hour p now B8 B9 B10 B11 gB sB L LX out bf tp vo vs gg) (r:InRow H.n B8 B9 B10 B11 gB sB L) (hH:H.n≤B10) (t':Nat):HeapR H (h.upd h.n B10 (.cells [iv t'] 3 .ex)) va vb vc vh spot hour p now B8 B9 B10 B11 gB sB L LX out t' tp vo vs gg:=by
 obtain ⟨r1,r2,r3,r4,r5,r6,r7⟩:=r
 have l:=k.lt
 have F:Fr h.n [B10] h (h.upd h.n B10 (.cells [iv t'] 3 .ex)):=(Fr.refl h).upd (Nat.le_refl _) (by omega) (.inr (by simp)) trivial
 have F0:Fr H.n [] H (h.upd h.n B10 (.cells [iv t'] 3 .ex)):=k.F.upd (Nat.le_refl _) (by omega) (.inl hH) trivial
 have o:∀ b,b≠B10→(h.upd h.n B10 (.cells [iv t'] 3 .ex)).get b=h.get b:=fun b hb=>upd_get_ne hb
 have v1:=k.vb.1
 simp only [List.mem_cons,List.not_mem_nil,or_false,not_or] at v1
 exact ⟨by rw [o _ (by omega)];exact k.y,by rw [o _ (by omega)];exact k.s,by rw [o _ (by omega)];exact k.t,by rw [o _ (by omega)];exact k.hp,by rw [o _ (by omega)];exact k.now,by rw [o _ (by omega)];exact k.o,upd_get_same,by rw [o _ (by omega)];exact k.tp,
  by rw [o _ (by omega)];exact k.g,by rw [o _ (by omega)];exact k.sb,by rw [o _ (by omega)];exact k.lo,k.G.fr F (fun x hx=>by subst hx;exact k.G.grp_lt) (by simpa using v1.2.1),k.gr,k.vb,k.R.fr F (by simp),F0,F.top k.T,l⟩
theorem HeapR.add (k:HeapR H h va vb vc vh spot hour p now B8 B9 B10 B11 gB sB L LX out bf tp vo vs gg) (r:InRow H.n B8 B9 B10 B11 gB sB L) (hH:H.n≤B9) {hA:AHeap} (FA:Fr h.n [] h hA) (TA:Top hA) {rv:Value} {w:Rul} (hr:RuleV hA [B9,B10,B11,L] rv w) {gx:Nat} (hgx:gx=gg.getD hA.n)
  (GG:GS (hA.upd (hA.n + 1) hA.n (.cells (vs ++ [rv]) 119 (.gr gx 1 true))) 1 (out.length + 1) (.slice (some ⟨hA.n,0,none⟩) (out.length + 1) (out.length + 1)) (vs ++ [rv]) (some gx)) :
  HeapR H ((hA.upd (hA.n + 1) hA.n (.cells (vs ++ [rv]) 119 (.gr gx 1 true))).upd (hA.n + 1) B9 (.cells [.slice (some ⟨hA.n,0,none⟩) (out.length + 1) (out.length + 1)] 114 .ex)) va vb vc vh spot hour p now B8 B9 B10 B11 gB sB L LX (out ++ [w]) bf tp (.slice (some ⟨hA.n,0,none⟩) (out.length + 1) (out.length + 1)) (vs ++ [rv]) (some gx):=by
 have kA:=k.mono r FA k.F.n
 obtain ⟨r1,r2,r3,r4,r5,r6,r7⟩:=r
 have l:=kA.lt
 have gl:gx≤hA.n∧H.n≤gx:=by
  subst hgx
  cases hgg:gg with
  | none=>exact ⟨Nat.le_refl _,by show H.n≤hA.n;omega⟩
  | some x =>
   have:=kA.gr x hgg
   have G:=kA.G
   rw [hgg] at G
   have:=G.grp_lt
   exact ⟨by show x≤hA.n;omega,by assumption⟩
 have F1:Fr H.n [] H (hA.upd (hA.n + 1) hA.n (.cells (vs ++ [rv]) 119 (.gr gx 1 true))):=kA.F.upd (Nat.le_succ _) (Nat.lt_succ_self _) (.inl (by omega)) ⟨gl.2,gl.1⟩
 have F2:Fr H.n [] H ((hA.upd (hA.n + 1) hA.n (.cells (vs ++ [rv]) 119 (.gr gx 1 true))).upd (hA.n + 1) B9 (.cells [.slice (some ⟨hA.n,0,none⟩) (out.length + 1) (out.length + 1)] 114 .ex)):=F1.upd (Nat.le_refl _) (by omega) (.inl hH) trivial
 have FX1:Fr 0 [B9] hA (hA.upd (hA.n + 1) hA.n (.cells (vs ++ [rv]) 119 (.gr gx 1 true))):=(Fr.refl hA).upd (o:=.cells (vs ++ [rv]) 119 (.gr gx 1 true)) (Nat.le_succ _) (Nat.lt_succ_self _) (.inl (Nat.le_refl _)) ⟨Nat.zero_le _,gl.1⟩
 have FX:Fr 0 [B9] hA ((hA.upd (hA.n + 1) hA.n (.cells (vs ++ [rv]) 119 (.gr gx 1 true))).upd (hA.n + 1) B9 (.cells [.slice (some ⟨hA.n,0,none⟩) (out.length + 1) (out.length + 1)] 114 .ex)):=FX1.upd (Nat.le_refl _) (by omega) (.inr (by simp)) trivial
 have FG:Fr (hA.n + 1) [B9] (hA.upd (hA.n + 1) hA.n (.cells (vs ++ [rv]) 119 (.gr gx 1 true))) ((hA.upd (hA.n + 1) hA.n (.cells (vs ++ [rv]) 119 (.gr gx 1 true))).upd (hA.n + 1) B9 (.cells [.slice (some ⟨hA.n,0,none⟩) (out.length + 1) (out.length + 1)] 114 .ex)):=(Fr.refl _).upd (Nat.le_refl _) (by show B9 < hA.n + 1;omega) (.inr (by simp)) trivial
 have o:∀ b,b≠B9→b < hA.n→((hA.upd (hA.n + 1) hA.n (.cells (vs ++ [rv]) 119 (.gr gx 1 true))).upd (hA.n + 1) B9 (.cells [.slice (some ⟨hA.n,0,none⟩) (out.length + 1) (out.length + 1)] 114 .ex)).get b=hA.get b:=fun b hb hn=>by rw [upd_get_ne hb,upd_get_ne (by omega)]
 refine ⟨by rw [o _ (by omega) (by omega)];exact kA.y,by rw [o _ (by omega) (by omega)];exact kA.s,by rw [o _ (by omega) (by omega)];exact kA.t,by rw [o _ (by omega) (by omega)];exact kA.hp,by rw [o _ (by omega) (by omega)];exact kA.now,upd_get_same,by rw [o _ (by omega) (by omega)];exact kA.b,by rw [o _ (by omega) (by omega)];exact kA.tp,
  by rw [o _ (by omega) (by omega)];exact kA.g,by rw [o _ (by omega) (by omega)];exact kA.sb,by rw [o _ (by omega) (by omega)];exact kA.lo, ?_,fun x hx=>by cases hx;exact gl.2,⟨by show hA.n∉_;simp only [List.mem_cons,List.not_mem_nil,or_false,not_or];omega,by show H.n≤hA.n;omega⟩, ?_,F2,FX.top kA.T,by show L < hA.n + 1;omega⟩
 ·rw [List.length_append]
  exact GG.fr FG (fun x hx=>by cases hx;omega) (by show hA.n∉[B9];simp;omega)
 ·exact (kA.R.fr FX (by simp)).app ⟨hr.fr FX (by simp),trivial⟩
end
theorem splice_off {x r l:List Value} {o:Nat}:splice (x ++ r) (x.length + o) l=x ++ splice r o l:=by
 unfold splice
 rw [List.take_append,List.take_of_length_le (by omega),Nat.add_sub_cancel_left,List.append_assoc,List.append_assoc,List.append_assoc]
 congr 3
 rw [List.drop_append,List.drop_of_length_le (by omega),List.nil_append]
 congr 1
 omega
theorem Fr.down {N N':Nat} {X:List Nat} {A B:AHeap} (h:Fr N' X A B) (hn:N≤N'):Fr N X A B:=h.mono hn fun _ hb _=>hb
theorem GS.upd_gr' {B:AHeap} {s n g' e:Nat} {l:Bool} {v:Value} {c d:List Value} {T:TypeId} {g:Option Nat} (G:GS B s n v c g) (hne:g≠some g'):GS (B.upd (B.n + 1) B.n (.cells d T (.gr g' e l))) s n v c g:=by
 cases G with
 | nil hn hv hc=>exact .nil hn hv hc
 | full hv hb hg hk hl hc h0=>exact .full hv (Nat.lt_succ_of_lt hb) ((upd_get_ne (by omega)).trans hg) hk hl hc h0
 | gr hv hb hgb hg hl hf =>
  refine .gr hv (Nat.lt_succ_of_lt hb) hgb ((upd_get_ne (by omega)).trans hg) hl ?_
  intro b' c' T' e' l' hb'
  by_cases e1:b'=B.n
  ·subst e1
   rw [upd_get_same] at hb'
   cases hb'
   exact absurd rfl hne
  ·rw [upd_get_ne e1] at hb'
   exact hf _ _ _ _ _ hb'
structure App (H G:AHeap) (g g':Option Nat) (m:Nat):Prop where
 n:H.n≤G.n
 top:Top G
 fr:∀ N,N≤H.n→(∀ x,g=some x→N≤x)→Fr N [] H G
 old:∀ b,b < H.n→G.get b=H.get b
 grp:(m=0∧g'=g)∨(0 < m∧g'=some (g.getD H.n))
 keep:∀ {s n:Nat} {v:Value} {c:List Value} {g2:Option Nat},GS H s n v c g2→g2≠some (g.getD H.n)→GS G s n v c g2
theorem oB_app {P:Program} {ts:Array TypeId} {H:AHeap} {s n m e:Nat} {v x:Value} {c new:List Value} {g:Option Nat} {K:Value→AHeap→Prop} (ht:Top H) (G:GS H s n v c g) (S:SR H s m x new)
  (h1:0 < m→appendOp P ts [v,x] H=some (.slice (some ⟨H.n,0,none⟩) (n + m) (n + m),H.upd (H.n + 1) H.n (.cells (c ++ new) e (.gr (g.getD H.n) s true)))) (h0:m=0→appendOp P ts [v,x] H=some (v,H))
  (k:∀ v' G' g',App H G' g g' m→GS G' s (n + m) v' (c ++ new) g'→(v'=v∨H.n≤vblk v')→K v' G'):oB (appendOp P ts [v,x] H) K:=by
 by_cases hm:m=0
 ·rw [h0 hm]
  have hnew:new=[]:=by have:=S.len;subst hm;simpa using this
  subst hm hnew
  exact k v H g ⟨Nat.le_refl _,ht,fun N _ _=>Fr.refl _,fun _ _=>rfl,.inl ⟨rfl,rfl⟩,fun G2 _=>G2⟩ (by rw [List.append_nil];exact G) (.inl rfl)
 ·rw [h1 (by omega)]
  have GG:=GS.pushed (e:=e) ht G S.len
  have hf:∀ N,N≤H.n→(∀ x,g=some x→N≤x)→Fr N [] H (H.upd (H.n + 1) H.n (.cells (c ++ new) e (.gr (g.getD H.n) s true))):=fun N hN hg=>(Fr.refl H).upd (Nat.le_succ _) (Nat.lt_succ_self _) (.inl (Nat.le_refl _)) (G.grpOk hN hg)
  exact k _ _ _ ⟨Nat.le_succ _,(hf 0 (Nat.zero_le _) fun _ _=>Nat.zero_le _).top ht,hf,fun b hb=>upd_get_ne (by omega),.inr ⟨by omega,rfl⟩,fun G2 hne=>G2.upd_gr' hne⟩ GG (.inr (Nat.le_refl _))
theorem App.lt {H G:AHeap} {g g':Option Nat} {m:Nat} (a:App H G g g' m) {N:Nat} (hN:N≤H.n) (hg:∀ x,g=some x→N≤x):∀ x,g'=some x→N≤x:=by
 intro x hx
 rcases a.grp with ⟨_,q⟩|⟨_,q⟩
 ·exact hg x (q ▸ hx)
 ·rw [q] at hx
  cases hx
  exact gd_ge hg hN
def RS (H:AHeap) (N:Nat) (v:Value) (rs:List Rul) (g:Option Nat):Prop:=∃ vs,GS H 1 rs.length v vs g∧(∀ x,g=some x→N≤x)∧RulesV H [] vs rs
theorem RS.nul {H:AHeap} {N:Nat}:RS H N (.slice none 0 0) [] none:=⟨[],.nil rfl rfl rfl,by simp,trivial⟩
theorem RS.fr0 {H G:AHeap} {N:Nat} {v:Value} {rs:List Rul} {g:Option Nat} (h:RS H N v rs g) (F:Fr H.n [] H G):RS G N v rs g:=by
 obtain ⟨vs,a,b,c⟩:=h
 exact ⟨vs,a.fr0 F,b,c.fr F (by simp)⟩
theorem RS.keep {H G:AHeap} {N m:Nat} {v:Value} {rs:List Rul} {g1 g2 g:Option Nat} (h:RS H N v rs g) (a:App H G g1 g2 m) (hne:g≠some (g1.getD H.n)):RS G N v rs g:=by
 obtain ⟨vs,a1,b,c⟩:=h
 exact ⟨vs,a.keep a1 hne,b,c.fr (a.fr 0 (Nat.zero_le _) fun _ _=>Nat.zero_le _) (by simp)⟩
theorem RS.gn {H:AHeap} {N:Nat} {v:Value} {rs:List Rul} {g:Option Nat} (h:RS H N v rs g):∀ x,g=some x→x < H.n:=by
 obtain ⟨vs,a,b,c⟩:=h
 intro x hx
 subst hx
 exact a.grp_lt
theorem RS.one {H:AHeap} {N:Nat} {v:Value} {rs:List Rul} {g:Option Nat} (h:RS H N v rs g):Swa.one v:=by
 obtain ⟨vs,a,b,c⟩:=h
 exact a.one
theorem RS.app {P:Program} {ts:Array TypeId} {H:AHeap} {N1 N2 e:Nat} {v x:Value} {rs ss:List Rul} {g g2:Option Nat} {K:Value→AHeap→Prop} (ht:Top H) (A:RS H N1 v rs g) (B:RS H N2 x ss g2) (hN:N1≤H.n)
  (h1:∀ c new,GS H 1 rs.length v c g→SR H 1 ss.length x new→0 < ss.length→appendOp P ts [v,x] H=some (.slice (some ⟨H.n,0,none⟩) (rs.length + ss.length) (rs.length + ss.length),H.upd (H.n + 1) H.n (.cells (c ++ new) e (.gr (g.getD H.n) 1 true)))) (h0:∀ c new,GS H 1 rs.length v c g→SR H 1 0 x new→appendOp P ts [v,x] H=some (v,H))
  (k:∀ v' G' g',App H G' g g' ss.length→RS G' N1 v' (rs ++ ss) g'→K v' G'):oB (appendOp P ts [v,x] H) K:=by
 obtain ⟨vs,a1,a2,a3⟩:=A
 obtain ⟨us,b1,b2,b3⟩:=B
 refine oB_app ht a1 b1.sr (h1 _ _ a1 b1.sr) (fun hm=>h0 _ _ a1 (by rw [← hm];exact b1.sr)) fun v' G' g' a G hv=>k v' G' g' a ⟨vs ++ us,by rw [List.length_append];exact G,a.lt hN a2, ?_⟩
 have F:=a.fr 0 (Nat.zero_le _) fun _ _=>Nat.zero_le _
 exact (a3.fr F (by simp)).app (b3.fr F (by simp))
theorem hStep_len (g:Gnd) (h:Hp) (spot:Nat) (hour:Int) (now:Mom) (s:Hst) (i:Nat) (a:Act):s.out.length≤(hStep g h spot hour now s i a).out.length∧(hStep g h spot hour now s i a).out.length≤s.out.length + 2:=by
 unfold hStep
 split
 ·exact ⟨Nat.le_refl _,by omega⟩
 ·dsimp only
  split <;> split <;> (try simp only [List.length_append,List.length_singleton]) <;> omega
theorem hRun_len (g:Gnd) (h:Hp) (spot:Nat) (hour:Int) (now:Mom):∀ (l:List Act) (i:Nat) (s:Hst),s.out.length≤(hRun g h spot hour now i l s).out.length∧(hRun g h spot hour now i l s).out.length≤s.out.length + 2 * l.length
 | [],i,s=>by rw [hRun];exact ⟨Nat.le_refl _,by omega⟩
 | a :: l,i,s=>by
  rw [hRun,List.length_cons]
  have h1:=hStep_len g h spot hour now s i a
  have h2:=hRun_len g h spot hour now l (i + 1) (if a.Spot=spot then hStep g h spot hour now s i a else s)
  split at h2
  ·rename_i q
   rw [if_pos q]
   omega
  ·rename_i q
   rw [if_neg q]
   omega
theorem heapRules_len (g:Gnd) (h:Hp) (spot:Nat) (hour:Int):1≤(heapRules g h spot hour).length∧(heapRules g h spot hour).length≤1 + 2 * g.Acts.length:=by
 unfold heapRules
 have:=hRun_len g h spot hour (nowOf g h hour) g.Acts 0 ⟨[[⟨spot,(nowOf g h hour).takes,(nowOf g h hour).tips,holdsP g spot (nowOf g h hour).kind.toNat⟩]],0,0⟩
 exact this
theorem heapsR_len (g:Gnd) (hs:List Hp) (hour:Int):∀ n,n≤(heapsR g hs hour n).length∧(heapsR g hs hour n).length≤n * (1 + 2 * g.Acts.length)
 | 0=>⟨Nat.le_refl _,Nat.zero_le _⟩
 | n + 1=>by
  have h1:=heapsR_len g hs hour n
  have h2:=heapRules_len g (hs.getD n default) n hour
  rw [heapsR,List.length_append,Nat.add_mul]
  omega
theorem pairRow_len (g:Gnd) (hs:List Hp) (hour:Int) (b:Nat):∀ n,(pairRow g hs hour b n).length≤n
 | 0=>Nat.le_refl _
 | n + 1=>by
  have h1:=pairRow_len g hs hour b n
  have h2:(pairOne g hs hour b n).length≤1:=by
   unfold pairOne
   dsimp only
   split <;> simp
  rw [pairRow,List.length_append]
  omega
theorem pairRules_len (g:Gnd) (hs:List Hp) (hour:Int):∀ n,(pairRules g hs hour n).length≤n * n
 | 0=>Nat.le_refl _
 | n + 1=>by
  have h1:=pairRules_len g hs hour n
  have h2:=pairRow_len g hs hour n n
  rw [pairRules,List.length_append,Nat.add_mul,Nat.mul_add]
  omega
def Fine (N:Nat) (rs:List Rul):Prop:=∀ r,r∈rs→RulOk N r∧r.length≤2
theorem Fine.nil {N:Nat}:Fine N []:=fun r h=>by simp at h
theorem Fine.app {N:Nat} {a b:List Rul} (h:Fine N a) (k:Fine N b):Fine N (a ++ b):=fun r hr=>by
 rcases List.mem_append.1 hr with q|q
 ·exact h r q
 ·exact k r q
theorem Fine.one {N:Nat} {w:Way} (h:WayOk N w):Fine N [[w]]:=fun r hr=>by
 rw [List.mem_singleton] at hr
 subst hr
 refine ⟨fun x hx=>?_,by show 1≤2;omega⟩
 rw [List.mem_singleton] at hx
 subst hx
 exact h
theorem Fine.two {N:Nat} {w u:Way} (h:WayOk N w) (k:WayOk N u):Fine N [[w,u]]:=fun r hr=>by
 rw [List.mem_singleton] at hr
 subst hr
 refine ⟨fun x hx=>?_,by show 2≤2;omega⟩
 simp only [List.mem_cons,List.not_mem_nil,or_false] at hx
 rcases hx with rfl|rfl
 ·exact h
 ·exact k
theorem Fine.ok {N:Nat} {rs:List Rul} (h:Fine N rs):RulsOk N rs:=fun r hr=>(h r hr).1
theorem Few.wayok {h:Hp} (hf:Few h) {N spot:Nat} (hs:spot < N) (act:Int):WayOk N (emptyW spot (h.before act)):=⟨hs,(hf.before act).2,(hf.before act).1⟩
theorem hStep_fine {g:Gnd} {h:Hp} (hf:Few h) {N spot:Nat} (hs:spot < N) {hour:Int} {now:Mom} (hn:now.takes < 11) {s:Hst} (i:Nat) (a:Act) (k:Fine N s.out):Fine N (hStep g h spot hour now s i a).out:=by
 unfold hStep
 split
 ·exact k
 ·dsimp only
  have k1:Fine N (if w64 (a.Hour + (g.Sorts.getD a.Kind.toNat default).Age) < hour then s.out ++ [[⟨spot,now.takes,(h.before ((i + 1:Nat):Int)).tips,0⟩]] else s.out):=by
   split
   ·exact k.app (Fine.one ⟨hs,hn,(hf.before _).1⟩)
   ·exact k
  split
  ·exact k1.app (Fine.one (hf.wayok hs _))
  ·exact k1
theorem hRun_fine {g:Gnd} {h:Hp} (hf:Few h) {N spot:Nat} (hs:spot < N) {hour:Int} {now:Mom} (hn:now.takes < 11):∀ (l:List Act) (i:Nat) (s:Hst),Fine N s.out→Fine N (hRun g h spot hour now i l s).out
 | [],i,s,k=>by rw [hRun];exact k
 | a :: l,i,s,k=>by
  rw [hRun]
  split
  ·exact hRun_fine hf hs hn l _ _ (hStep_fine hf hs hn i a k)
  ·exact hRun_fine hf hs hn l _ _ k
theorem heapRules_fine {g:Gnd} {h:Hp} (hf:Few h) {N spot:Nat} (hs:spot < N) (hour:Int):Fine N (heapRules g h spot hour):=by
 unfold heapRules
 have hb:=hf.before (untilL hour g.Acts)
 exact hRun_fine hf hs hb.2 _ _ _ (Fine.one ⟨hs,hb.2,hb.1⟩)
theorem heapsR_fine {g:Gnd} {hs:List Hp} {N:Nat} (hf:∀ j,j < N→Few (hs.getD j default)) (hour:Int):∀ n,n≤N→Fine N (heapsR g hs hour n)
 | 0,_=>Fine.nil
 | n + 1,h=>(heapsR_fine hf hour n (by omega)).app (heapRules_fine (hf n (by omega)) (by omega) hour)
theorem pairRow_fine {g:Gnd} {hs:List Hp} {N:Nat} (hf:∀ j,j < N→Few (hs.getD j default)) (hour:Int) {b:Nat} (hb:b < N):∀ n,n≤b→Fine N (pairRow g hs hour b n)
 | 0,_=>Fine.nil
 | n + 1,h=>by
  refine (pairRow_fine hf hour hb n (by omega)).app ?_
  unfold pairOne
  dsimp only
  split
  ·exact Fine.nil
  ·exact Fine.two ((hf n (by omega)).wayok (by omega) _) ((hf b hb).wayok hb _)
theorem pairRules_fine {g:Gnd} {hs:List Hp} {N:Nat} (hf:∀ j,j < N→Few (hs.getD j default)) (hour:Int):∀ n,n≤N→Fine N (pairRules g hs hour n)
 | 0,_=>Fine.nil
 | n + 1,h=>(pairRules_fine hf hour n (by omega)).app (pairRow_fine hf hour (by omega) n (Nat.le_refl _))
def Dis (a b:Option Nat):Prop:=∀ x,a=some x→b≠some x
theorem Dis.ne {a b:Option Nat} {n:Nat} (h:Dis a b) (hl:∀ x,a=some x→x < n):a≠some (b.getD n):=by
 intro e
 cases b with
 | none=>exact Nat.lt_irrefl _ (hl n e)
 | some y=>exact h y e rfl
theorem Dis.symm {a b:Option Nat} (h:Dis a b):Dis b a:=fun x hx hy=>h x hy hx
theorem Dis.app {H G:AHeap} {a a' b:Option Nat} {m:Nat} (h:Dis a b) (ap:App H G a a' m) (hl:∀ x,b=some x→x < H.n):Dis a' b:=by
 rcases ap.grp with ⟨_,e⟩|⟨_,e⟩
 ·rw [e];exact h
 ·intro x hx hy
  rw [e] at hx
  exact h.symm.ne hl (hy.trans hx.symm)
theorem Dis.far {a b:Option Nat} {n:Nat} (h:∀ x,a=some x→x < n) (k:∀ x,b=some x→n≤x):Dis a b:=fun x hx hy=>by
 have:=h x hx
 have:=k x hy
 omega
section
variable {g:Gnd} {B4 B6 rr:Nat} {va vb vc xa xb xc:Value} {sl sl':List Srt} {h h':AHeap}
end
end Go.Proofs.Swa
