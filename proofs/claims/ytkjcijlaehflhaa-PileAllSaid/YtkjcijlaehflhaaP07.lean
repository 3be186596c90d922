/- Part 7. -/
import Derived.Test.YtkjcijlaehflhaaP06
set_option linter.unusedVariables false
set_option linter.unusedSimpArgs false
namespace Go.Proofs.Swa
open Go
structure Tb (T:Nat→Nat→Int)(n:Nat):Prop where
 n10:n≤10
 hi:∀ a b,a≤n→b≤n→T a b≤n*1000000
 out:∀ a b,a<11→b<11→n<a∨n<b→a≠b→T a b=far
 diag:∀ a,a<11→T a a=0
 tri:∀ a b c,a≤n→b≤n→c≤n→T a c≤T a b+T b c
theorem Tab.tb {T:Nat→Nat→Int}{n:Nat}{x:Nat→Int}(h:Tab T n x):Tb T n :=
 ⟨h.n10,h.hi,h.out,h.diag,h.tri⟩
theorem Tb.lt {T:Nat→Nat→Int}{n:Nat}(h:Tb T n){a b:Nat}(ha:a≤n)(hb:b≤n):T a b≤10000000∧-10000000≤T a b:=by
 have h1:=h.hi a b ha hb
 have h2:=h.hi b a hb ha
 have h3:=h.tri a b a ha hb ha
 have h5:=h.n10
 have h4:=h.diag a (by omega)
 omega
def Sol (T:Nat→Nat→Int)(n:Nat)(y:Nat→Int):Prop:=∀ a b,a≤n→b≤n→y b-y a≤T a b
theorem Tb.row {T:Nat→Nat→Int}{n:Nat}(h:Tb T n){a:Nat}(ha:a≤n):Sol T n (T a):=fun b c hb hc=>by
 have:=h.tri a b c ha hb hc
 omega
theorem B2c {s:E1}{a b:Nat}{m:Int}(h:Dz (s.mat b a+m)<0):s.know a b m=(s,false):=by
 have e:Swa.know s.1 a b m=(s.1,false):=by
  unfold Swa.know
  have h':Dz (mat s.1 b a+m)<0:=h
  rw[if_pos h']
 unfold E1.know
 congr 1
 ·apply Subtype.ext
  show (Swa.know s.1 a b m).1=s.1
  rw[e]
 ·rw[e]
theorem Tb.know {s:E1}{n:Nat}(h:Tb s.mat n){a b:Nat}{m:Int}(ha:a≤n)(hb:b≤n)(m1:-1000000000000≤m)(m2:m≤1000000000000) :
  ((s.know a b m).2=true→Tb (s.know a b m).1.mat n∧∀ y,Sol (s.know a b m).1.mat n y↔Sol s.mat n y∧y b-y a≤m) ∧
  ((s.know a b m).2=false→∀ y,Sol s.mat n y→¬ y b-y a≤m):=by
 have n10:=h.n10
 have hba:=h.lt hb ha
 have ew:Dz (s.mat b a+m)=s.mat b a+m:=Cu (by omega) (by omega)
 by_cases c1:Dz (s.mat b a+m)<0
 ·rw[B2c c1]
  refine⟨(fun q=>nomatch q),fun _ y hy=>?_⟩
  have:=hy b a hb ha
  omega
 ·by_cases c2:s.mat a b≤m
  ·rw[P9 c1 c2]
   refine⟨fun _=>⟨h,fun y=>⟨fun q=>⟨q, ?_⟩,fun q=>q.1⟩⟩,fun q=>nomatch q⟩
   have:y b-y a≤s.mat a b:=q a b ha hb
   omega
  ·obtain⟨k1,k2⟩:=Kz c1 c2
   rw[k1]
   refine⟨fun _=>?_,fun q=>nomatch q⟩
   have hab:=h.lt ha hb
   have up:∀ i k,i≤n→k≤n→(s.know a b m).1.mat i k=min (s.mat i k) (s.mat i a+m+s.mat b k):=by
    intro i k hi hk
    have q1:=h.lt hi ha
    have q2:=h.lt hb hk
    rw[k2 i k (by omega) (by omega),Vt,if_pos ⟨by unfold far;omega,by unfold far;omega⟩,Cu (x:=s.mat i a+m) (by omega) (by omega),Cu (by omega) (by omega)]
   generalize (s.know a b m).1=s' at k2 up
   have daa:=h.diag a (by omega)
   have dbb:=h.diag b (by omega)
   refine⟨⟨n10,fun i k hi hk=>?_,fun i k hi hk ho hne=>?_,fun i hi=>?_,fun i j k hi hj hk=>?_⟩,fun y=>⟨fun q=>⟨fun i k hi hk=>?_, ?_⟩,fun q i k hi hk=>?_⟩⟩
   ·rw[up i k hi hk];have:=h.hi i k hi hk;omega
   ·rw[k2 i k hi hk,Vt,if_neg,h.out i k hi hk ho hne]
    rintro⟨q1,q2⟩
    rcases ho with ho|ho
    ·by_cases e:i=a
     ·omega
     ·rw[h.out i a hi (by omega) (.inl ho) e]at q1;omega
    ·by_cases e:b=k
     ·omega
     ·rw[h.out b k (by omega) hk (.inr ho) e]at q2;omega
   ·by_cases hin:i≤n
    ·rw[up i i hin hin,h.diag i hi]
     have:=h.tri b i a hb hin ha
     omega
    ·rw[k2 i i hi hi,Vt,if_neg,h.diag i hi]
     rintro⟨q1,q2⟩
     rw[h.out i a hi (by omega) (.inl (by omega)) (by omega)]at q1;omega
   ·rw[up i k hi hk,up i j hi hj,up j k hj hk]
    have t1:=h.tri i j k hi hj hk
    have t2:=h.tri b j k hb hj hk
    have t3:=h.tri i j a hi hj ha
    have t5:=h.tri b j a hb hj ha
    omega
   ·have:=q i k hi hk
    rw[up i k hi hk]at this;omega
   ·have:=q a b ha hb
    rw[up a b ha hb]at this;omega
   ·rw[up i k hi hk]
    have q1:=q.1 i k hi hk
    have q2:=q.1 i a hi ha
    have q3:=q.1 b k hb hk
    omega
def Yd (N:Nat→Nat)(all:List E1):Prop:=∀ j,j<all.length→Tb (all.getD j default).mat (N j)
def Xs (N:Nat→Nat)(all:List E1)(y:Nat→Nat→Int):Prop:=∀ j,j<all.length→Sol (all.getD j default).mat (N j) (y j)
def Pm.is (w:Pm)(y:Nat→Nat→Int):Prop:=y w.spot w.b-y w.spot w.a≤w.most
structure Si (N:Nat→Nat)(len:Nat)(w:Pm):Prop where
 s:w.spot<len
 a:w.a≤N w.spot
 b:w.b≤N w.spot
 m1:-1000000000000≤w.most
 m2:w.most≤1000000000000
def U4 (r:Iy)(y:Nat→Nat→Int):Prop:=∃ w,w∈r∧w.is y
theorem Pm.ok_is {N:Nat→Nat}{all:List E1}{w:Pm}(i:Si N all.length w)(h:w.ok all=true){y:Nat→Nat→Int}(hy:Xs N all y):w.is y:=by
 have:=hy w.spot i.s w.a w.b i.a i.b
 have:=of_decide_eq_true h
 unfold Pm.is
 omega
theorem A58 {N:Nat→Nat}{all:List E1}{w:Pm}(i:Si N all.length w)(hd:Yd N all)(h:((all.getD w.spot default).know w.a w.b w.most).2=true) :
  Yd N (all.set w.spot ((all.getD w.spot default).know w.a w.b w.most).1)∧∀ y,Xs N (all.set w.spot ((all.getD w.spot default).know w.a w.b w.most).1) y↔Xs N all y∧w.is y:=by
 obtain⟨k1,k2⟩:=((hd w.spot i.s).know i.a i.b i.m1 i.m2).1 h
 generalize ((all.getD w.spot default).know w.a w.b w.most).1=s' at k1 k2
 have hs:=i.s
 have e:∀ j,j<all.length→(all.set w.spot s').getD j default=if w.spot=j then s' else all.getD j default:=fun j hj=>by
  rw[A0l]
  by_cases c:w.spot=j
  ·rw[if_pos ⟨c,hs⟩,if_pos c]
  ·rw[if_neg (fun q=>c q.1),if_neg c]
 have l:(all.set w.spot s').length=all.length:=List.length_set ..
 refine⟨fun j hj=>?_,fun y=>⟨fun q=>?_,fun q j hj=>?_⟩⟩
 ·rw[l]at hj
  rw[e j hj]
  split
  ·rename_i c;rw[← c];exact k1
  ·exact hd j hj
 ·have q0:=q w.spot (by rw[l];exact hs)
  rw[e _ hs,if_pos rfl]at q0
  obtain⟨q1,q2⟩:=(k2 _).1 q0
  refine⟨fun j hj=>?_,q2⟩
  by_cases c:w.spot=j
  ·rw[← c];exact q1
  ·have:=q j (by rw[l];exact hj)
   rw[e j hj,if_neg c]at this
   exact this
 ·rw[l]at hj
  rw[e j hj]
  split
  ·rename_i c;rw[← c];exact(k2 _).2 ⟨q.1 w.spot hs,q.2⟩
  ·exact q.1 j hj
theorem Sj {N:Nat→Nat}:∀ (rs:List Iy)(all:List E1),Yd N all→(∀ r,r∈rs→∀ w,w∈r→Si N all.length w)→(Iw rs all=true↔∃ y,Xs N all y∧∀ r,r∈rs→U4 r y)
 | [],all,hd,_=>by
  refine⟨fun _=>⟨fun j=>(all.getD j default).mat 0,fun j hj=>(hd j hj).row (Nat.zero_le _),fun r hr=>by cases hr⟩,fun _=>rfl⟩
 | r :: rs,all,hd,hw=>by
  have hw':∀ r',r'∈rs→∀ w,w∈r'→Si N all.length w:=fun r' hr=>hw r' (List.mem_cons_of_mem _ hr)
  have hr:=hw r (List.mem_cons_self ..)
  rw[Iw]
  by_cases c:r.any (fun w=>w.ok all)=true
  ·rw[if_pos c,Sj rs all hd hw']
   obtain⟨w,hm,hk⟩:=List.any_eq_true.1 c
   constructor
   ·rintro⟨y,y1,y2⟩
    refine⟨y,y1,fun r' hr'=>?_⟩
    rcases List.mem_cons.1 hr' with rfl|hr'
    ·exact⟨w,hm,Pm.ok_is (hr w hm) hk y1⟩
    ·exact y2 r' hr'
   ·rintro⟨y,y1,y2⟩
    exact⟨y,y1,fun r' hr'=>y2 r' (List.mem_cons_of_mem _ hr')⟩
  ·rw[if_neg c,List.any_eq_true]
   constructor
   ·rintro⟨w,hm,hk⟩
    rw[Bool.and_eq_true]at hk
    obtain⟨d,e⟩:=A58 (hr w hm) hd hk.1
    obtain⟨y,y1,y2⟩:=(Sj rs _ d (fun r' h' w' hw''=>by rw[List.length_set];exact hw' r' h' w' hw'')).1 hk.2
    have q:=(e y).1 y1
    refine⟨y,q.1,fun r' hr'=>?_⟩
    rcases List.mem_cons.1 hr' with rfl|hr'
    ·exact⟨w,hm,q.2⟩
    ·exact y2 r' hr'
   ·rintro⟨y,y1,y2⟩
    obtain⟨w,hm,hk⟩:=y2 r (List.mem_cons_self ..)
    refine⟨w,hm, ?_⟩
    have i:=hr w hm
    rw[Bool.and_eq_true]
    have h:((all.getD w.spot default).know w.a w.b w.most).2=true:=by
     cases h:((all.getD w.spot default).know w.a w.b w.most).2 with
     | true=>rfl
     | false=>exact absurd hk (((hd w.spot i.s).know i.a i.b i.m1 i.m2).2 h (y w.spot) (y1 w.spot i.s))
    obtain⟨d,e⟩:=A58 i hd h
    exact⟨h,(Sj rs _ d (fun r' h' w' hw''=>by rw[List.length_set];exact hw' r' h' w' hw'')).2 ⟨y,(e y).2 ⟨y1,hk⟩,fun r' hr'=>y2 r' (List.mem_cons_of_mem _ hr')⟩⟩
theorem A7L {N:Nat→Nat}{all:List E1}{r:Iy}(hw:∀ w,w∈r→Si N all.length w){y:Nat→Nat→Int}(hy:Xs N all y)(h:¬ U4 r y):Fu all r=true:=by
 unfold Fu
 rw[List.all_eq_true]
 intro w hm
 cases hk:w.ok all with
 | false=>rfl
 | true=>exact absurd ⟨w,hm,Pm.ok_is (hw w hm) hk hy⟩ h
theorem A93 {all:List E1}{l:List Iy}(h:l.any (Fu all)=false):Iw l all=true:=by
 have t:B5r all l:=fun r hr=>by
  rw[List.any_eq_false]at h
  have:=h r hr
  unfold Fu at this
  cases c:r.any fun w=>w.ok all with
  | true=>rfl
  | false =>
   rw[List.any_eq_false]at c
   exact absurd (List.all_eq_true.2 fun w hw=>by have:=c w hw;simpa using this) this
 have:=Xq (m:=[]) t
 rw[List.append_nil]at this
 rw[this];rfl
def upS (g:Cv)(hs:List Hp):Nat→List Iy
 | 0=>[]
 | h+1=>upS g hs h ++ Eh g hs h g.Spots.length
def upD (g:Cv)(hs:List Hp):Nat→List Iy
 | 0=>[]
 | h+1=>upD g hs h ++ Ci g hs h g.Spots.length
def Ty (g:Cv)(hs:List Hp)(h:Nat):Prop:=(Eh g hs h g.Spots.length ++ Ci g hs h g.Spots.length).any (Fu (hs.map (·.s)))=true
def Yz (g:Cv)(hs:List Hp)(h:Nat):Prop:=Iw (upS g hs (h+1) ++ upD g hs (h+1)) (hs.map (·.s))=true
def I3 (B:Nat→Prop)(p:Int):Prop:=(∃ h:Nat,p=h∧h≤72∧B h∧∀ h',h'<h→¬ B h')∨(p = -1∧∀ h,h≤72→¬ B h)
theorem I3.later {B B':Nat→Prop}{p p':Int}(h:I3 B p)(h':I3 B' p')(hb:∀ h,h≤72→B h→B' h):p<0∨(0≤p'∧p'≤p):=by
 rcases h with⟨a,rfl,a1,a2,a3⟩|⟨rfl,a⟩
 ·right
  have q:=hb a a1 a2
  rcases h' with⟨b,rfl,b1,b2,b3⟩|⟨rfl,b⟩
  ·have:¬ a<b:=fun c=>b3 a c q
   omega
  ·exact absurd q (b a a1)
 ·left;omega
theorem I3.ge {B:Nat→Prop}{p:Int}(h:I3 B p):-1≤p∧p≤72:=by
 rcases h with⟨a,rfl,a1,a2,a3⟩|⟨rfl,a⟩ <;> omega
theorem A3D {all:List E1}{g:Cv}{hs:List Hp}:∀ h:Nat,(∀ h':Nat,h'<h→(Eh g hs h' g.Spots.length ++ Ci g hs h' g.Spots.length).any (Fu all)=false)→(upS g hs h ++ upD g hs h).any (Fu all)=false
 | 0,_=>rfl
 | h+1,k=>by
  have ih:=A3D h fun h' q=>k h' (by omega)
  have k0:=k h (by omega)
  rw[upS,upD]
  simp only[List.any_append,Bool.or_eq_false_iff]at ih k0 ⊢
  exact⟨⟨ih.1,k0.1⟩,ih.2,k0.2⟩
theorem A0p (g:Cv)(hs:List Hp):∀ (n hour:Nat)(s:Bst),n+hour=73→s.singles=upS g hs hour→s.doubles=upD g hs hour →
  ((∃ h:Nat,s.perhaps=h∧h<hour∧Ty g hs h∧∀ h',h'<h→¬ Ty g hs h')∨(s.perhaps = -1∧∀ h,h<hour→¬ Ty g hs h))→(∀ h,h<hour→Yz g hs h) →
  I3 (Ty g hs) (bGo g hs n hour s).1∧I3 (fun h=>¬ Yz g hs h) (bGo g hs n hour s).2
 | 0,hour,s,hn,_,_,hp,hk=>by
  refine⟨?_,.inr ⟨rfl,fun h q r=>r (hk h (by omega))⟩⟩
  rcases hp with⟨h,e,h1,h2,h3⟩|⟨e,h1⟩
  ·exact .inl ⟨h,e,by omega,h2,h3⟩
  ·exact .inr ⟨e,fun h q=>h1 h (by omega)⟩
 | n+1,hour,s,hn,h1,h2,hp,hk=>by
  obtain⟨t,ht⟩:∃ t,t=(Oi g hs s hour).1:=⟨_,rfl⟩
  have t1:t.singles=upS g hs (hour+1):=by rw[ht,upS,← h1];rfl
  have t2:t.doubles=upD g hs (hour+1):=by rw[ht,upD,← h2];rfl
  have t3:t.perhaps=if (Eh g hs hour g.Spots.length ++ Ci g hs hour g.Spots.length).any (Fu (hs.map (·.s)))=true then Pn s.perhaps hour else s.perhaps:=by rw[ht];rfl
  have t4:(Oi g hs s hour).2=(decide (0≤t.perhaps) && !Iw (t.singles ++ t.doubles) (hs.map (·.s))):=by rw[ht];rfl
  have hp':(∃ h:Nat,t.perhaps=h∧h<hour+1∧Ty g hs h∧∀ h',h'<h→¬ Ty g hs h')∨(t.perhaps = -1∧∀ h,h<hour+1→¬ Ty g hs h):=by
   rw[t3]
   rcases hp with⟨h,e,q1,q2,q3⟩|⟨e,q1⟩
   ·refine .inl ⟨h, ?_,by omega,q2,q3⟩
    unfold Pn
    rw[e]
    split
    ·rw[if_neg (by omega)]
    ·rfl
   ·by_cases c:Ty g hs hour
    ·refine .inl ⟨hour, ?_,by omega,c,q1⟩
     rw[if_pos (show _=true from c),e]
     rfl
    ·rw[if_neg (show ¬ _=true from c)]
     refine .inr ⟨e,fun h q=>?_⟩
     by_cases e2:h=hour
     ·rw[e2];exact c
     ·exact q1 h (by omega)
  have k4:(Oi g hs s hour).2=true↔¬ Yz g hs hour:=by
   rw[t4,t1,t2]
   unfold Yz
   constructor
   ·intro q
    rw[Bool.and_eq_true]at q
    intro r
    rw[r]at q
    cases q.2
   ·intro q
    rw[Bool.and_eq_true]
    refine⟨decide_eq_true ?_,by simpa using q⟩
    rcases hp' with⟨h,e,_⟩|⟨e,r⟩
    ·omega
    ·refine absurd (A93 (A3D (hour+1) fun h' q'=>?_)) q
     have:=r h' q'
     unfold Ty at this
     simpa using this
  rw[bGo]
  by_cases c:(Oi g hs s hour).2=true
  ·rw[if_pos c,← ht]
   refine⟨?_,.inl ⟨hour,rfl,by omega,k4.1 c,fun h' q r=>r (hk h' q)⟩⟩
   rcases hp' with⟨h,e,q1,q2,q3⟩|⟨e,q1⟩
   ·exact .inl ⟨h,e,by omega,q2,q3⟩
   ·exfalso
    rw[t4,Bool.and_eq_true]at c
    have:=of_decide_eq_true c.1
    omega
  ·rw[if_neg c,← ht]
   refine A0p g hs n (hour+1) t (by omega) t1 t2 hp' fun h q=>?_
   by_cases e2:h=hour
   ·rw[e2];exact Classical.byContradiction fun r=>c (k4.2 r)
   ·exact hk h (by omega)
theorem B2d (g:Cv)(hs:List Hp):I3 (Ty g hs) (bGo g hs 73 0 ⟨-1,[],[]⟩).1∧I3 (fun h=>¬ Yz g hs h) (bGo g hs 73 0 ⟨-1,[],[]⟩).2 :=
 A0p g hs 73 0 _ (by omega) rfl rfl (.inr ⟨rfl,fun h q=>by omega⟩) fun h q=>by omega
theorem No {g:Cv}(hs:g.Spots.length≤4)(hq:g.Sorts.length≤4):∀ (l:List E8)(h:Int),Dq g h l=0→(∀ a,a∈l→h≤a.Hour)∧l.Pairwise fun a b=>a.Hour≤b.Hour
 | [],_,_=>⟨fun a h=>(by cases h),List.Pairwise.nil⟩
 | a :: l,h,k=>by
  rw[Dq]at k
  by_cases c:He g h a≠0
  ·rw[if_pos c]at k;exact absurd k c
  ·rw[if_neg c]at k
   have A:=Pl (Decidable.not_not.1 c) hs hq
   obtain⟨h1,h2⟩:=No hs hq l a.Hour k
   refine⟨fun b hb=>?_,List.pairwise_cons.2 ⟨h1,h2⟩⟩
   rcases List.mem_cons.1 hb with rfl|hb
   ·exact A.h.2.2
   ·have:=h1 b hb;have:=A.h.2.2;omega
theorem Ok.sorted {g:Cv}(h:Ok g){i k:Nat}(hik:i<k)(hk:k<g.Acts.length):(g.Acts.getD i default).Hour≤(g.Acts.getD k default).Hour:=by
 have p:=(No h.spots.2 h.sorts.2 g.Acts 0 h.act).2
 rw[List.pairwise_iff_getElem]at p
 have:=p i k (by omega) hk hik
 simpa [List.getD,hk,show i<g.Acts.length by omega] using this
theorem Ok.hour {g:Cv}(h:Ok g){k:Nat}(hk:k<g.Acts.length):0≤(g.Acts.getD k default).Hour∧(g.Acts.getD k default).Hour≤72:=by
 obtain⟨_,a⟩:=h.at hk
 exact⟨a.h.1,a.h.2.1⟩
theorem Ok.age {g:Cv}(h:Ok g)(k:Nat):0≤(g.Sorts.getD k default).Age∧(g.Sorts.getD k default).Age≤72:=by
 by_cases c:k<g.Sorts.length
 ·have:=Xp (h.sort _ (Ib c));omega
 ·have:g.Sorts.getD k default=default:=by simp[List.getD,c]
  rw[this]
  exact⟨Int.le_refl _,by show (0:Int)≤72;omega⟩
theorem Ok.agew {g:Cv}(h:Ok g){k:Nat}(hk:k<g.Acts.length)(q:Nat):Dz ((g.Acts.getD k default).Hour+(g.Sorts.getD q default).Age)=(g.Acts.getD k default).Hour+(g.Sorts.getD q default).Age:=by
 have:=h.hour hk
 have:=h.age q
 exact Cu (by omega) (by omega)
theorem A94 (g:Cv)(spot:Int){k:Nat}(hk:k<g.Acts.length)(h:¬ (g.Acts.getD k default).Spot=spot):(Co g spot).1.before (k+1:Nat)=(Co g spot).1.before k:=by
 rw[Hf g spot (u:=k+1) (by omega),Hf g spot (u:=k) (by omega),J3 spot hk,if_neg h]
theorem A95 (g:Cv)(spot:Int){k:Nat}(hk:k<g.Acts.length)(h:(g.Acts.getD k default).Take=true):((Co g spot).1.before (k+1:Nat)).tips=((Co g spot).1.before k).tips:=by
 rw[Hf g spot (u:=k+1) (by omega),Hf g spot (u:=k) (by omega),J3 spot hk]
 split
 ·rw[Hb.step_take h]
 ·rfl
def A7M (g:Cv)(h:Hp)(spot:Nat)(hour:Int)(now:On)(k:Nat)(r:Iy):Prop :=
 (g.Acts.getD k default).Spot=spot∧(g.Acts.getD k default).Take=false∧(g.Acts.getD k default).Hour≤hour ∧
 (((g.Acts.getD k default).Hour+(g.Sorts.getD (g.Acts.getD k default).Kind.toNat default).Age<hour∧r=[⟨spot,now.takes,(h.before (k+1:Nat)).tips,0⟩]) ∨
  ((g.Acts.getD k default).Hour=hour∧0<(h.before k).tips∧(h.before k).kind≠(g.Acts.getD k default).Kind∧r=[Eg spot (h.before k)]))
theorem Xt {g:Cv}(ok:Ok g)(spot:Nat)(hour:Int)(now:On)(r:Iy):∀ (l:List E8)(i:Nat)(s:Hst),i+l.length=g.Acts.length→g.Acts.drop i=l →
  ((∀ k,k<i→(g.Acts.getD k default).Hour≤hour)→s.before=((Co g spot).1.before i).tips) →
  (r∈(Ot g (Co g spot).1 spot hour now i l s).out↔r∈s.out∨∃ k,i≤k∧k<g.Acts.length∧A7M g (Co g spot).1 spot hour now k r)
 | [],i,s,hl,_,_=>by
  rw[Ot]
  simp only[List.length_nil]at hl
  exact⟨.inl,fun q=>q.elim id fun ⟨k,h1,h2,_⟩=>by omega⟩
 | a :: l,i,s,hl,hd,hb=>by
  simp only[List.length_cons]at hl
  have hi:i<g.Acts.length:=by omega
  have ha:g.Acts.getD i default=a:=by
   have:=Ha (l:=g.Acts) (i:=i) hi
   rw[hd]at this
   exact(List.cons.inj this).1.symm
  have hd':g.Acts.drop (i+1)=l:=by
   rw[← List.drop_drop,hd];rfl
  have split3:∀ P:Nat→Prop,(∃ k,i≤k∧k<g.Acts.length∧P k)↔P i∨∃ k,i+1≤k∧k<g.Acts.length∧P k:=fun P =>
   ⟨fun ⟨k,h1,h2,h3⟩=>by
    by_cases e:k=i
    ·exact .inl (e ▸ h3)
    ·exact .inr ⟨k,by omega,h2,h3⟩,fun q=>q.elim (fun h=>⟨i,by omega,hi,h⟩) fun ⟨k,h1,h2,h3⟩=>⟨k,by omega,h2,h3⟩⟩
  rw[Ot,split3]
  have off:∀ s':Hst,s'=s→¬ A7M g (Co g spot).1 spot hour now i r→((∀ k,k<i+1→(g.Acts.getD k default).Hour≤hour)→s.before=((Co g spot).1.before (i+1:Nat)).tips)→(r∈(Ot g (Co g spot).1 spot hour now (i+1) l s').out↔r∈s.out∨A7M g (Co g spot).1 spot hour now i r∨∃ k,i+1≤k∧k<g.Acts.length∧A7M g (Co g spot).1 spot hour now k r):=fun s' e n hb'=>by
   rw[e,Xt ok spot hour now r l (i+1) s (by omega) hd' hb']
   exact⟨fun q=>q.elim .inl fun q=>.inr (.inr q),fun q=>q.elim .inl fun q=>q.elim (fun q=>absurd q n) .inr⟩
  by_cases c1:a.Spot=spot
  ·rw[if_pos c1]
   by_cases c2:a.Take=true∨hour<a.Hour
   ·refine off _ (if_pos c2) (fun q=>?_) fun q=>?_
    ·obtain⟨_,q2,q3,_⟩:=q
     rw[ha]at q2 q3
     rcases c2 with c2|c2
     ·rw[c2]at q2;cases q2
     ·omega
    ·have c3:a.Take=true:=c2.elim id fun c=>by have:=q i (by omega);rw[ha]at this;omega
     rw[A95 g spot hi (by rw[ha];exact c3)]
     exact hb fun k hk=>q k (by omega)
   ·have n1:a.Take=false:=by
     cases h:a.Take with
     | false=>rfl
     | true=>exact absurd (.inl h) c2
    have n2:a.Hour≤hour:=Int.not_lt.1 fun q=>c2 (.inr q)
    have hbi:=hb fun k hk=>by have:=ok.sorted hk hi;rw[ha]at this;omega
    unfold Oh
    rw[if_neg c2]
    dsimp only
    rw[Xt ok spot hour now r l (i+1) _ (by omega) hd' (fun _=>rfl)]
    dsimp only
    have hw:=ok.agew hi a.Kind.toNat
    rw[ha]at hw
    rw[hw,hbi]
    unfold A7M
    rw[ha]
    by_cases d1:a.Hour+(g.Sorts.getD a.Kind.toNat default).Age<hour
    ·rw[if_pos d1]
     have:=(ok.age a.Kind.toNat).1
     rw[if_neg (fun q=>by omega),List.mem_append,List.mem_singleton]
     constructor
     ·rintro((q|q)|q)
      ·exact .inl q
      ·exact .inr (.inl ⟨c1,n1,n2,.inl ⟨d1,q⟩⟩)
      ·exact .inr (.inr q)
     ·rintro(q|⟨_,_,_,⟨_,q⟩|⟨q,_⟩⟩|q)
      ·exact .inl (.inl q)
      ·exact .inl (.inr q)
      ·omega
      ·exact .inr q
    ·rw[if_neg d1]
     by_cases d2:a.Hour=hour∧0<((Co g spot).1.before i).tips∧((Co g spot).1.before i).kind≠a.Kind
     ·rw[if_pos d2,List.mem_append,List.mem_singleton]
      constructor
      ·rintro((q|q)|q)
       ·exact .inl q
       ·exact .inr (.inl ⟨c1,n1,n2,.inr ⟨d2.1,d2.2.1,d2.2.2,q⟩⟩)
       ·exact .inr (.inr q)
      ·rintro(q|⟨_,_,_,⟨q,_⟩|⟨_,_,_,q⟩⟩|q)
       ·exact .inl (.inl q)
       ·exact absurd q d1
       ·exact .inl (.inr q)
       ·exact .inr q
     ·rw[if_neg d2]
      constructor
      ·rintro(q|q)
       ·exact .inl q
       ·exact .inr (.inr q)
      ·rintro(q|⟨_,_,_,⟨q,_⟩|⟨q1,q2,q3,q⟩⟩|q)
       ·exact .inl q
       ·exact absurd q d1
       ·exact absurd ⟨q1,q2,q3⟩ d2
       ·exact .inr q
  ·rw[if_neg c1]
   refine off _ rfl (fun q=>?_) fun q=>?_
   ·have:=q.1
    rw[ha]at this
    exact c1 this
   ·rw[A94 g spot hi (by rw[ha];exact c1)]
    exact hb fun k hk=>q k (by omega)
def B39 (g:Cv)(spot:Nat)(now:On):Pm:=⟨spot,now.takes,now.tips,Lg g spot now.kind.toNat⟩
theorem Hr {g:Cv}(ok:Ok g)(spot:Nat)(hour:Int)(r:Iy):r∈Fl g (Co g spot).1 spot hour↔r=[B39 g spot (Gw g (Co g spot).1 hour)]∨∃ k,k<g.Acts.length∧A7M g (Co g spot).1 spot hour (Gw g (Co g spot).1 hour) k r:=by
 unfold Fl
 dsimp only
 rw[Xt ok spot hour _ r g.Acts 0 _ (by omega) rfl (fun _=>by show 0=((Co g (spot:Nat)).1.before 0).tips;rw[A0o];rfl)]
 dsimp only
 rw[List.mem_singleton]
 exact⟨fun q=>q.elim .inl fun ⟨k,_,h⟩=>.inr ⟨k,h⟩,fun q=>q.elim .inl fun ⟨k,h⟩=>.inr ⟨k,by omega,h⟩⟩
theorem Jr {g:Cv}{hs:List Hp}{hour:Int}{r:Iy}:∀ {n:Nat},r∈Eh g hs hour n↔∃ j,j<n∧r∈Fl g (hs.getD j default) j hour
 | 0=>⟨(fun h=>by cases h),fun ⟨j,h,_⟩=>by omega⟩
 | n+1=>by
  rw[Eh,List.mem_append,Jr]
  constructor
  ·rintro(⟨j,h1,h2⟩|h)
   ·exact⟨j,by omega,h2⟩
   ·exact⟨n,by omega,h⟩
  ·rintro⟨j,h1,h2⟩
   by_cases e:j=n
   ·exact .inr (e ▸ h2)
   ·exact .inl ⟨j,by omega,h2⟩
theorem U5 {g:Cv}{hs:List Hp}{hour:Int}{b:Nat}{r:Iy}:∀ {n:Nat},r∈Gf g hs hour b n↔∃ a,a<n∧r∈Lu g hs hour b a
 | 0=>⟨(fun h=>by cases h),fun ⟨j,h,_⟩=>by omega⟩
 | n+1=>by
  rw[Gf,List.mem_append,U5]
  constructor
  ·rintro(⟨j,h1,h2⟩|h)
   ·exact⟨j,by omega,h2⟩
   ·exact⟨n,by omega,h⟩
  ·rintro⟨j,h1,h2⟩
   by_cases e:j=n
   ·exact .inr (e ▸ h2)
   ·exact .inl ⟨j,by omega,h2⟩
theorem Il {g:Cv}{hs:List Hp}{hour:Int}{r:Iy}:∀ {n:Nat},r∈Ci g hs hour n↔∃ a b,a<b∧b<n∧r∈Lu g hs hour b a
 | 0=>⟨(fun h=>by cases h),fun ⟨a,b,_,h,_⟩=>by omega⟩
 | n+1=>by
  rw[Ci,List.mem_append,Il,U5]
  constructor
  ·rintro(⟨a,b,h1,h2,h3⟩|⟨a,h1,h2⟩)
   ·exact⟨a,b,h1,by omega,h3⟩
   ·exact⟨a,n,h1,by omega,h2⟩
  ·rintro⟨a,b,h1,h2,h3⟩
   by_cases e:b=n
   ·exact .inr ⟨a,e ▸ h1,e ▸ h3⟩
   ·exact .inl ⟨a,b,h1,by omega,h3⟩
theorem K3 {g:Cv}{hs:List Hp}{hour:Int}{a b:Nat}{r:Iy}:r∈Lu g hs hour b a↔0<(Gw g (hs.getD a default) hour).tips∧0<(Gw g (hs.getD b default) hour).tips ∧
  Sf g a b<J5 g (Gw g (hs.getD a default) hour).kind (Gw g (hs.getD b default) hour).kind∧r=[Eg a (Gw g (hs.getD a default) hour),Eg b (Gw g (hs.getD b default) hour)]:=by
 unfold Lu
 dsimp only
 split
 ·rename_i q
  refine⟨(fun h=>by cases h),fun ⟨h1,h2,h3,_⟩=>?_⟩
  rcases q with q|q|q <;> omega
 ·rename_i q
  rw[List.mem_singleton]
  refine⟨fun h=>⟨Nat.pos_of_ne_zero fun e=>q (.inl e),Nat.pos_of_ne_zero fun e=>q (.inr (.inl e)),Int.not_le.1 fun e=>q (.inr (.inr e)),h⟩,fun h=>h.2.2.2⟩
theorem A59 {g:Cv}{hs:List Hp}{r:Iy}:∀ {n:Nat},r∈upS g hs n↔∃ h,h<n∧r∈Eh g hs (h:Nat) g.Spots.length
 | 0=>⟨(fun h=>by cases h),fun ⟨j,h,_⟩=>by omega⟩
 | n+1=>by
  rw[upS,List.mem_append,A59]
  constructor
  ·rintro(⟨j,h1,h2⟩|h)
   ·exact⟨j,by omega,h2⟩
   ·exact⟨n,by omega,h⟩
  ·rintro⟨j,h1,h2⟩
   by_cases e:j=n
   ·exact .inr (e ▸ h2)
   ·exact .inl ⟨j,by omega,h2⟩
theorem A6a {g:Cv}{hs:List Hp}{r:Iy}:∀ {n:Nat},r∈upD g hs n↔∃ h,h<n∧r∈Ci g hs (h:Nat) g.Spots.length
 | 0=>⟨(fun h=>by cases h),fun ⟨j,h,_⟩=>by omega⟩
 | n+1=>by
  rw[upD,List.mem_append,A6a]
  constructor
  ·rintro(⟨j,h1,h2⟩|h)
   ·exact⟨j,by omega,h2⟩
   ·exact⟨n,by omega,h⟩
  ·rintro⟨j,h1,h2⟩
   by_cases e:j=n
   ·exact .inr (e ▸ h2)
   ·exact .inl ⟨j,by omega,h2⟩
theorem B2e {P:Nat→Nat→(Nat→Int)→Prop}{m:Nat}(h:∀ j,j<m→∃ n x,P j n x):∃ (N:Nat→Nat)(X:Nat→Nat→Int),∀ j,j<m→P j (N j) (X j):=by
 have:∀ j,∃ p:Nat×(Nat→Int),j<m→P j p.1 p.2:=fun j=>by
  by_cases c:j<m
  ·obtain⟨n,x,q⟩:=h j c
   exact⟨(n,x),fun _=>q⟩
  ·exact⟨(0,fun _=>0),fun q=>absurd q c⟩
 exact⟨fun j=>(Classical.choose (this j)).1,fun j=>(Classical.choose (this j)).2,fun j hj=>Classical.choose_spec (this j) hj⟩
theorem Da.nx {g:Cv}{truth:List Int}(h:Da g truth):∃ (N:Nat→Nat)(X:Nat→Nat→Int),∀ j:Nat,j<g.Spots.length→U0 g j truth (N j) (X j) :=
 B2e (P:=fun j n x=>U0 g j truth n x) fun j hj=>h.spot hj
def Ra (g:Cv):List E1:=(known g).1.map (·.s)
structure Gd (g:Cv)(N:Nat→Nat):Prop where
 ok:Ok g
 ck:check g=0
 kn:(known g).2=0
 kl:(known g).1.length=g.Spots.length
 tb:∀ j:Nat,j<g.Spots.length→Tb (Co g j).1.s.mat (N j)
 mom:∀ j:Nat,j<g.Spots.length→∀ u:Nat,u≤g.Acts.length→((Co g j).1.before u).tips≤N j∧((Co g j).1.before u).takes≤N j
section
variable {g:Cv} {truth:List Int} {N:Nat→Nat} {X:Nat→Nat→Int}
theorem Da.gd (h:Da g truth)(sp:∀ j:Nat,j<g.Spots.length→U0 g j truth (N j) (X j)):Gd g N :=
 ⟨h.ok,h.ck,h.known.1,by rw[h.known.2];simp,fun j hj=>(sp j hj).tab.tb,fun j hj u hu=>⟨((sp j hj).mom u hu).1,((sp j hj).mom u hu).2.1⟩⟩
theorem Gd.alen (h:Gd g N):(Ra g).length=g.Spots.length:=by
 unfold Ra
 rw[List.length_map,h.kl]
theorem Gd.allAt (h:Gd g N){j:Nat}(hj:j<g.Spots.length):(Ra g).getD j default=(Co g (j:Nat)).1.s:=by
 have:=h.kl
 unfold Ra
 rw[Kk (by omega),Et (by omega)]
theorem Gd.yd (h:Gd g N):Yd N (Ra g):=fun j hj=>by
 rw[h.alen]at hj
 rw[h.allAt hj]
 exact h.tb j hj
theorem Gd.now (h:Gd g N)(hour:Int){j:Nat}(hj:j<g.Spots.length) :
  (Gw g (Co g j).1 hour).tips≤N j∧(Gw g (Co g j).1 hour).takes≤N j∧0≤(Gw g (Co g j).1 hour).kind∧(Gw g (Co g j).1 hour).kind<g.Sorts.length:=by
 obtain⟨m1,m2⟩:=h.mom j hj (B5 hour g.Acts) (E4 _ _)
 have:=h.ok.kind j _ (E4 hour g.Acts)
 unfold Gw
 rw[U2 g j (E4 hour g.Acts)]
 exact⟨m1,m2,this⟩
theorem Gd.heapIn (h:Gd g N)(hour:Int){j:Nat}(hj:j<g.Spots.length){r:Iy}(hr:r∈Fl g (Co g j).1 j hour):∀ w,w∈r→Si N g.Spots.length w:=by
 obtain⟨n1,n2,n3⟩:=h.now hour hj
 rcases (Hr h.ok j hour r).1 hr with rfl|⟨k,hk,_,_,_,⟨_,rfl⟩|⟨_,_,_,rfl⟩⟩
 ·intro w hw
  rw[List.mem_singleton.1 hw]
  obtain⟨c,_,c0,c1,c2,_⟩:=Tx h.ok hj n3
  refine⟨hj,n2,n1, ?_, ?_⟩
  ·show _≤Lg g j _;rw[c2];omega
  ·show Lg g j _≤_;rw[c2];omega
 ·intro w hw
  rw[List.mem_singleton.1 hw]
  obtain⟨m1,m2⟩:=h.mom j hj (k+1) (by omega)
  exact⟨hj,n2,m1,by show (-1000000000000:Int)≤0;omega,by show (0:Int)≤1000000000000;omega⟩
 ·intro w hw
  rw[List.mem_singleton.1 hw]
  obtain⟨m1,m2⟩:=h.mom j hj k (by omega)
  exact⟨hj,m2,m1,by show (-1000000000000:Int)≤0;omega,by show (0:Int)≤1000000000000;omega⟩
theorem Gd.heapsIn (h:Gd g N)(hour:Int){r:Iy}(hr:r∈Eh g (known g).1 hour g.Spots.length):∀ w,w∈r→Si N g.Spots.length w:=by
 obtain⟨j,hj,hr⟩:=Jr.1 hr
 rw[Et (by rw[h.kl];exact hj)]at hr
 exact h.heapIn hour hj hr
theorem Gd.pairsIn (h:Gd g N)(hour:Int){r:Iy}(hr:r∈Ci g (known g).1 hour g.Spots.length):∀ w,w∈r→Si N g.Spots.length w:=by
 obtain⟨a,b,hab,hb,hr⟩:=Il.1 hr
 have hk:=h.kl
 have z:=(K3.1 hr).2.2.2
 rw[Et (by omega),Et (by omega)]at z
 subst z
 intro w hw
 have A:=h.now hour (show a<g.Spots.length by omega)
 have B:=h.now hour hb
 rcases List.mem_cons.1 hw with rfl|hw
 ·exact⟨by show a<_;omega,A.2.1,A.1,by show (-1000000000000:Int)≤0;omega,by show (0:Int)≤1000000000000;omega⟩
 ·rw[List.mem_singleton.1 hw]
  exact⟨hb,B.2.1,B.1,by show (-1000000000000:Int)≤0;omega,by show (0:Int)≤1000000000000;omega⟩
def Po (g:Cv)(h:Nat)(r:Iy):Prop:=r∈Eh g (known g).1 h g.Spots.length∨r∈Ci g (known g).1 h g.Spots.length
theorem Gd.rulIn (h:Gd g N){hour:Nat}{r:Iy}(hr:Po g hour r):∀ w,w∈r→Si N (Ra g).length w:=by
 rw[h.alen]
 exact hr.elim (h.heapsIn _) (h.pairsIn _)
theorem A4R {h:Nat}{r:Iy}:r∈upS g (known g).1 (h+1) ++ upD g (known g).1 (h+1)↔∃ h',h'≤h∧Po g h' r:=by
 rw[List.mem_append,A59,A6a]
 constructor
 ·rintro(⟨j,h1,h2⟩|⟨j,h1,h2⟩)
  ·exact⟨j,by omega,.inl h2⟩
  ·exact⟨j,by omega,.inr h2⟩
 ·rintro⟨j,h1,h2|h2⟩
  ·exact .inl ⟨j,by omega,h2⟩
  ·exact .inr ⟨j,by omega,h2⟩
theorem Gd.kIff (h:Gd g N)(hour:Nat):Yz g (known g).1 hour↔∃ y,Xs N (Ra g) y∧∀ h',h'≤hour→∀ r,Po g h' r→U4 r y:=by
 unfold Yz
 rw[show ((known g).1.map (·.s))=Ra g from rfl,Sj _ _ h.yd fun r hr=>?_]
 ·constructor
  ·rintro⟨y,y1,y2⟩
   exact⟨y,y1,fun h' q r hr=>y2 r (A4R.2 ⟨h',q,hr⟩)⟩
  ·rintro⟨y,y1,y2⟩
   refine⟨y,y1,fun r hr=>?_⟩
   obtain⟨h',q,hr⟩:=A4R.1 hr
   exact y2 h' q r hr
 ·obtain⟨h',q,hr⟩:=A4R.1 hr
  exact h.rulIn hr
theorem B5s {hour:Nat}:Ty g (known g).1 hour↔∃ r,Po g hour r∧Fu (Ra g) r=true:=by
 unfold Ty Po
 rw[List.any_eq_true]
 constructor
 ·rintro⟨r,hr,q⟩
  exact⟨r,List.mem_append.1 hr,q⟩
 ·rintro⟨r,hr,q⟩
  exact⟨r,List.mem_append.2 hr,q⟩
theorem Gd.breaks (h:Gd g N):∃ p q,Swa.breaks g=(p,q,0)∧I3 (Ty g (known g).1) p∧I3 (fun h=>¬ Yz g (known g).1 h) q:=by
 obtain⟨k1,k2⟩:=B2d g (known g).1
 refine⟨_,_, ?_,k1,k2⟩
 unfold Swa.breaks
 rw[if_neg (by rw[h.ck];simp),if_neg (by rw[h.kn];simp)]
end
section
variable {g k:Cv} {truth:List Int}
end
theorem Tab.col {s:E1}{n:Nat}{x:Nat→Int}(h:Tab s.mat n x)(hn:n<10){p:Nat}{lo hi:Int}(hp:p≤n)(l1:1≤lo)(l2:lo≤hi)(l4:hi≤1000000) :
  ∀ i,i≤n→((s.know p (n+1) hi).1.know (n+1) p (Dz (0-lo))).1.mat i (n+1)=s.mat i p+hi:=by
 have o1:∀ i,i≤n→s.mat i (n+1)=far:=fun i hi=>h.out i (n+1) (by omega) (by omega) (.inr (by omega)) (by omega)
 have o2:∀ i,i≤n→s.mat (n+1) i=far:=fun i hi=>h.out (n+1) i (by omega) (by omega) (.inl (by omega)) (by omega)
 have hf:far=1099511627776:=rfl
 have hpp:=h.diag p (by omega)
 have hnn:=h.diag (n+1) (by omega)
 have hw:Dz (0-lo) = -lo:=by rw[Cu (by omega) (by omega)];omega
 obtain⟨k1,k2⟩:=Kz (s:=s) (a:=p) (b:=n+1) (m:=hi) (by rw[o2 p hp,Cu (by omega) (by omega)];omega) (by rw[o1 p hp];omega)
 generalize (s.know p (n+1) hi).1=s1 at k2
 have a2:∀ i,i≤n→s1.mat i (n+1)=s.mat i p+hi:=by
  intro i hi'
  have:=h.lt hi' hp
  rw[k2 i (n+1) (by omega) (by omega),Vt,if_pos ⟨by omega,by omega⟩,o1 i hi',hnn,Cu (x:=s.mat i p+hi) (by omega) (by omega),Cu (by omega) (by omega)]
  omega
 have a3:∀ k,k≤n→s1.mat (n+1) k=far:=by
  intro k hk
  rw[k2 (n+1) k (by omega) (by omega),Vt,if_neg,o2 k hk]
  rintro⟨q,_⟩
  rw[o2 p hp]at q;omega
 rw[hw]
 have b1:s1.mat p (n+1)=hi:=by rw[a2 p hp];omega
 obtain⟨k3,k4⟩:=Kz (s:=s1) (a:=n+1) (b:=p) (m:=-lo) (by rw[b1,Cu (by omega) (by omega)];omega) (by rw[a3 p hp];omega)
 intro i hi'
 have q1:=h.lt hi' hp
 rw[k4 i (n+1) (by omega) (by omega),Vt,a2 i hi',b1,if_pos ⟨by omega,by omega⟩,Cu (x:=s.mat i p+hi + -lo) (by omega) (by omega),Cu (by omega) (by omega)]
 omega
structure Tbz (T:Nat→Nat→Int)(n:Nat):Prop where
 t:Tb T n
 z:∀ a,a≤n→T a 0≤0
theorem Tbz.tab {T:Nat→Nat→Int}{n:Nat}(h:Tbz T n):Tab T n fun k=>0-T k 0:=by
 have h10:=h.t.n10
 refine⟨h10,h.t.hi,h.t.out,h.t.diag,fun a b ha hb=>?_,h.t.tri,fun a ha=>?_,fun a ha=>?_⟩
 ·have:=h.t.tri a b 0 ha hb (Nat.zero_le _);omega
 ·have:=h.z a ha;omega
 ·have h1:=h.t.tri a 0 a ha (Nat.zero_le _) ha
  have h2:=h.t.diag a (by omega)
  have h3:=h.t.hi 0 a (Nat.zero_le _) ha
  omega
theorem Tbz.add {s:E1}{n:Nat}(h:Tbz s.mat n)(hn:n<10){p:Nat}{lo hi:Int}(hp:p≤n)(l1:1≤lo)(l2:lo≤hi)(l4:hi≤1000000) :
  (s.know p (n+1) hi).2=true∧((s.know p (n+1) hi).1.know (n+1) p (Dz (0-lo))).2=true∧Tbz ((s.know p (n+1) hi).1.know (n+1) p (Dz (0-lo))).1.mat (n+1) ∧
  ∀ y,Sol ((s.know p (n+1) hi).1.know (n+1) p (Dz (0-lo))).1.mat (n+1) y↔Sol s.mat n y∧lo≤y (n+1)-y p∧y (n+1)-y p≤hi:=by
 obtain⟨k1,k2,k3,k4,k5⟩:=h.tab.add hn hp l1 (Int.le_refl lo) l2 l4
 have k6:=h.tab.col hn hp l1 l2 l4
 refine⟨k1,k2,⟨k3.tb,fun a ha=>?_⟩,fun y=>⟨fun q=>⟨fun a b ha hb=>?_, ?_, ?_⟩,fun ⟨q1,q2,q3⟩ a b ha hb=>?_⟩⟩
 ·by_cases e:a=n+1
  ·rw[e,k5 0 (by omega)];have:=h.z p hp;omega
  ·rw[k4 a 0 (by omega) (by omega)];exact h.z a (by omega)
 ·rw[← k4 a b ha hb];exact q a b (by omega) (by omega)
 ·have:=q (n+1) p (Nat.le_refl _) (by omega)
  rw[k5 p hp,h.t.diag p (by omega)]at this;omega
 ·have:=q p (n+1) (by omega) (Nat.le_refl _)
  rw[k6 p hp,h.t.diag p (by omega)]at this;omega
 ·by_cases e1:a=n+1
  ·by_cases e2:b=n+1
   ·rw[e1,e2,k3.diag (n+1) (by omega)];omega
   ·rw[e1,k5 b (by omega)];have:=q1 p b hp (by omega);omega
  ·by_cases e2:b=n+1
   ·rw[e2,k6 a (by omega)];have:=q1 a p (by omega) hp;omega
   ·rw[k4 a b (by omega) (by omega)];exact q1 a b (by omega) (by omega)
theorem Tbz.more {s:E1}{n:Nat}(h:Tbz s.mat n){a b:Nat}(ha:a≤n)(hb:b≤n)(hk:(s.know a b 0).2=true):Tbz (s.know a b 0).1.mat n∧∀ y,Sol (s.know a b 0).1.mat n y↔Sol s.mat n y∧y b-y a≤0:=by
 obtain⟨k1,k2⟩:=(h.t.know ha hb (by omega) (by omega)).1 hk
 have:=h.t.n10
 exact⟨⟨k1,fun c hc=>Int.le_trans (A56 (by omega) (by omega)) (h.z c hc)⟩,k2⟩
structure LS (p q:Hb)(i:Nat):Prop where
 nx:q.next=p.next
 m:q.m=p.m
 ms:q.ms=p.ms
 n:p.next≤i
 mt:p.m.tips≤p.next∧p.m.takes≤p.next
 c:q.ok=true→p.ok=true∧Tbz p.s.mat p.next∧Tbz q.s.mat p.next∧∀ y,Sol q.s.mat p.next y→Sol p.s.mat p.next y
theorem LS.start:LS Oo Oo 0:=by
 obtain⟨x,hx,_⟩:=M3.start.tab
 have z:Tbz Oo.s.mat 0:=⟨hx.tb,fun a ha=>by obtain rfl:=Nat.le_zero.1 ha;exact Int.le_of_eq (hx.diag 0 (by omega))⟩
 exact⟨rfl,rfl,rfl,Nat.le_refl _,⟨Nat.le_refl _,Nat.le_refl _⟩,fun _=>⟨rfl,z,z,fun _ h=>h⟩⟩
theorem B22 {p:Hb}{a:E8}(h:(p.tk a).2=true):p.ok=true:=by
 cases c:p.ok with
 | true=>rfl
 | false=>unfold Hb.tk In at h;rw[c]at h;cases h
theorem B23 {p:Hb}{a:E8}(h:(p.tp a).2=true):p.ok=true:=by
 cases c:p.ok with
 | true=>rfl
 | false=>unfold Hb.tp In at h;rw[c]at h;cases h
section
variable {g k:Cv} {truth:List Int}
theorem A0q (spot:Int)(L:List E8){u:Nat}:∀ i,u+i≤L.length→(Gp spot L u).next≤(Gp spot L (u+i)).next
 | 0,_=>Nat.le_refl _
 | i+1,h=>by
  have ih:=A0q spot L (u:=u) i (by omega)
  rw[← Nat.add_assoc,J3 spot (by omega)]
  split
  ·unfold Hb.step
   split
   ·exact Nat.le_succ_of_le ih
   ·exact Nat.le_succ_of_le ih
  ·exact ih
theorem A3E (g:Cv)(spot:Int):(Co g spot).1.s=(Gp spot g.Acts g.Acts.length).s∧(Co g spot).2=(Gp spot g.Acts g.Acts.length).ok:=by
 rw[A1N];exact⟨rfl,rfl⟩
theorem Xu {g:Cv}:∀ (n i:Nat)(acc:List Hp),(Ev g i n acc).2=0→∀ j:Nat,i≤j→j<i+n→(Co g j).2=true
 | 0,i,acc,_,j,h1,h2=>by omega
 | n+1,i,acc,h,j,h1,h2=>by
  rw[Ev]at h
  split at h
  ·rename_i hp
   by_cases e:j=i
   ·rw[e];exact hp
   ·exact Xu n (i+1) _ h j (by omega) (by omega)
  ·exact absurd h (by simp)
def nOf (g:Cv)(j:Nat):Nat:=(Gp j g.Acts g.Acts.length).next
end
section
variable {g k:Cv} {N:Nat→Nat} {truth:List Int}
theorem Gd.masses (h:Gd g N){hour:Int}(h1:0≤hour)(h2:hour≤72):(Swa.masses g hour).2=0∧(Swa.masses g hour).1.length=g.Spots.length∧∀ i,i<g.Spots.length→(Swa.masses g hour).1.getD i default=M2 g hour (Co g (i:Nat)).1:=by
 have kl:=h.kl
 have e:Swa.masses g hour=((Swa.known g).1.map (M2 g hour),0):=by
  unfold Swa.masses
  rw[if_neg (by rw[h.ck];simp),if_pos (H8 h1 h2),if_neg (by rw[h.kn];simp)]
 rw[e]
 refine⟨rfl,by rw[List.length_map,kl],fun i hi=>?_⟩
 dsimp only
 rw[Kk (by omega),Et (by omega)]
theorem Gd.older (h:Gd g N){hour age:Int}(h1:0≤hour)(h2:hour≤72)(h3:0≤age)(h4:age≤72){i:Nat}(hi:i<g.Spots.length) :
  Swa.older g i hour age=(R6 (Co g (i:Nat)).1 ((Co g (i:Nat)).1.before (B5 (hour-age-1) g.Acts)).tips ((Co g (i:Nat)).1.before (B5 hour g.Acts)).takes,0):=by
 have hok:=h.ok.spots
 have hin3:Mr (i:Int) 0 (Dz (g.Spots.length-1))=true:=by
  rw[Cu (by omega) (by omega)]
  exact H8 (by omega) (by omega)
 have hw:Dz (Dz (hour-age)-1)=hour-age-1:=by rw[Cu (x:=hour-age) (by omega) (by omega),Cu (by omega) (by omega)]
 have hg:(Swa.known g).1.getD (i:Int).toNat default=(Co g (i:Nat)).1:=Et (by rw[h.kl];exact hi)
 unfold Swa.older
 rw[if_neg (by rw[h.ck];simp),if_pos hin3,if_pos ⟨H8 h1 h2,H8 h3 h4⟩,if_neg (by rw[h.kn];simp),hg,hw]
 unfold R6
 dsimp only
 split
 ·rfl
 ·split <;> rfl
end
def Gg (g:Cv)(d:M4)(spot hour age:Int)(n:Nat):Bool:=(List.range n).any fun i=>decide ((g.Acts.getD i default).Spot=spot) && decide (0<d.left.getD i 0) && decide (age<Dz (hour-(g.Acts.getD i default).Hour))
def Tz (g:Cv)(d:M4)(hour:Int)(i:Nat):Bool:=decide (0<d.left.getD i 0) && decide ((g.Sorts.getD (g.Acts.getD i default).Kind.toNat default).Age<Dz (hour-(g.Acts.getD i default).Hour))
def T9 (g:Cv)(b:M4)(hour:Int)(i:Nat):Bool :=
 decide ((g.Acts.getD i default).Hour=hour) && !(g.Acts.getD i default).Take && decide (0≤b.last.getD (g.Acts.getD i default).Spot.toNat 0) && decide (kindOf g b (g.Acts.getD i default).Spot.toNat≠(g.Acts.getD i default).Kind) && decide (0<b.mass g (g.Acts.getD i default).Spot)
def Rc (g:Cv)(truth:List Int)(d:M4)(hour:Int)(i:Nat):Bool:=Tz g d hour i || T9 g (Ct g truth i hour) hour i
def N5 (g:Cv)(d:M4)(a:Nat):Bool:=decide (Dz (Dz ((g.Sorts.getD (kindOf g d a).toNat default).High*(g.Sorts.getD (kindOf g d a).toNat default).Dense)*(g.Spots.getD a default).Area)<Dz (100*d.mass g a))
def N6 (g:Cv)(d:M4)(a b:Nat):Bool:=decide (0<d.mass g b) && U3 g a b (kindOf g d a) (kindOf g d b)
def Ks (g:Cv)(d:M4)(a:Nat):Bool:=!decide (d.mass g a=0) && (N5 g d a || (List.range a).any fun b=>N6 g d a b)
def G8 (g:Cv)(truth:List Int)(hour:Int):Bool :=
 ((List.range g.Acts.length).any fun i=>Rc g truth (Ct g truth g.Acts.length hour) hour i) || (List.range g.Spots.length).any fun a=>Ks g (Ct g truth g.Acts.length hour) a
def N7 (g:Cv)(truth:List Int):Nat→Nat→Int
 | 0,_=>-1
 | n+1,h=>if G8 g truth h=true then h else N7 g truth n (h+1)
def first(g:Cv)(truth:List Int):Int:=N7 g truth 73 0
theorem Qm (g:Cv)(truth:List Int):∀ (n h:Nat),n+h=73→(∀ h',h'<h→¬ G8 g truth h'=true)→I3 (fun h=>G8 g truth h=true) (N7 g truth n h)
 | 0,h,hn,k=>.inr ⟨rfl,fun h' q=>k h' (by omega)⟩
 | n+1,h,hn,k=>by
  rw[N7]
  by_cases c:G8 g truth h=true
  ·rw[if_pos c]
   exact .inl ⟨h,rfl,by omega,c,k⟩
  ·rw[if_neg c]
   refine Qm g truth n (h+1) (by omega) fun h' q=>?_
   by_cases e:h'=h
   ·rw[e];exact c
   ·exact k h' (by omega)
theorem My (g:Cv)(truth:List Int):I3 (fun h=>G8 g truth h=true) (first g truth):=Qm g truth 73 0 rfl fun h' q=>by omega
theorem I3.cum {B:Nat→Prop}{p:Int}(h:I3 B p):I3 (fun h=>∃ h',h'≤h∧B h') p:=by
 rcases h with⟨a,rfl,a1,a2,a3⟩|⟨rfl,a⟩
 ·exact .inl ⟨a,rfl,a1,⟨a,Nat.le_refl _,a2⟩,fun h' q ⟨h2,q2,b⟩=>a3 h2 (by omega) b⟩
 ·exact .inr ⟨rfl,fun h q ⟨h2,q2,b⟩=>a h2 (by omega) b⟩
theorem Xv {hour:Int}:∀ {L:List E8}{i:Nat},i<B5 hour L→(L.getD i default).Hour≤hour
 | [],i,h=>by cases h
 | a :: L,i,h=>by
  rw[B5]at h
  by_cases c:a.Hour≤hour
  ·rw[if_pos c]at h
   cases i with
   | zero=>exact c
   | succ i=>exact Xv (L:=L) (i:=i) (by omega)
  ·rw[if_neg c]at h;omega
theorem lt_until {hour:Int}:∀ {L:List E8}{i:Nat},i<L.length→(∀ k,k≤i→(L.getD k default).Hour≤hour)→i<B5 hour L
 | [],i,h,_=>by cases h
 | a :: L,i,h,k=>by
  have c:a.Hour≤hour:=k 0 (Nat.zero_le _)
  rw[B5,if_pos c]
  cases i with
  | zero=>omega
  | succ i =>
   have:=lt_until (L:=L) (i:=i) (by simpa using h) fun j hj=>k (j+1) (by omega)
   omega
theorem Ok.lt_until {g:Cv}(ok:Ok g){hour:Int}{i:Nat}(hi:i<g.Acts.length)(h:(g.Acts.getD i default).Hour≤hour):i<B5 hour g.Acts :=
 Swa.lt_until hi fun k hk=>by
  by_cases e:k=i
  ·rw[e];exact h
  ·have:=ok.sorted (i:=k) (k:=i) (by omega) hi;omega
section
variable {g:Cv} {truth:List Int} {N:Nat→Nat} {X:Nat→Nat→Int}
theorem Da.kindE (h:Da g truth){a n:Nat}(ha:a<g.Spots.length)(hn:n≤g.Acts.length)(hp:0<(Cf g truth n).mass g a):Swa.kindOf g (Cf g truth n) a=Iv a g.Acts n:=by
 have hz:(g.Acts.zip truth).map (·.1)=g.Acts:=by rw[List.map_fst_zip];have:=h.len;omega
 rw[h.mass hn]at hp
 have tn:=Hq h.few a n hn
 unfold Swa.kindOf
 rw[(h.day hn).lst a ha]
 rcases Qb a g.Acts n with⟨q1,q2⟩|⟨q1,q2,q3⟩
 ·have q1':If a ((g.Acts.zip truth).map (·.1)) n = -1:=by rw[hz];exact q1
  have:=Tq q1'
  omega
 ·exact q3.symm
theorem Da.left (h:Da g truth){u i:Nat}(hu:u≤g.Acts.length)(hi:i<u)(ht:(g.Acts.getD i default).Take=false) :
  0<(Cf g truth u).left.getD i 0↔Cx (g.Acts.getD i default).Spot (g.Acts.zip truth) u<Cw (g.Acts.getD i default).Spot (g.Acts.zip truth) (i+1):=by
 have D:=h.day hu
 obtain⟨spot,hs⟩:∃ s,s=(g.Acts.getD i default).Spot:=⟨_,rfl⟩
 rw[← hs]
 have s1:=D.sum spot (i+1) (by omega)
 have s0:=D.sum spot i (by omega)
 rw[H9,if_pos hs.symm]at s1
 have t1:Cw spot (g.Acts.zip truth) (i+1)=Cw spot (g.Acts.zip truth) i+truth.getD i 0:=by
  rw[Cw,Ia h.len (by omega),if_pos (show (g.Acts.getD i default).Spot=spot∧(g.Acts.getD i default).Take=false from⟨hs.symm,ht⟩)]
 have:=h.at (u:=i) (by omega)
 omega
theorem Da.left0 (h:Da g truth){u i:Nat}(hu:u≤g.Acts.length)(hl:0<(Cf g truth u).left.getD i 0):i<u∧(g.Acts.getD i default).Take=false:=by
 have D:=h.day hu
 refine⟨Nat.lt_of_not_le fun q=>?_, ?_⟩
 ·rw[D.zero i q]at hl;omega
 ·cases c:(g.Acts.getD i default).Take with
  | false=>rfl
  | true=>rw[D.tk i c]at hl;omega
theorem U0.pos {j:Nat}(h:U0 g j truth (N j) (X j))(T:Da g truth){u:Nat}(hu:u≤g.Acts.length)(hp:0<Cw j (g.Acts.zip truth) u):0<((Co g j).1.before u).tips:=by
 refine Nat.pos_of_ne_zero fun e=>?_
 have m:=(h.mom u hu).2.2.1
 have m0:=(h.mom 0 (Nat.zero_le _)).2.2.1
 have e0:((Co g j).1.before (0:Nat)).tips=0:=by
  have:=A0o g j
  have e:((Co g j).1.before (0:Nat))=A4M:=this
  rw[e];rfl
 rw[e0]at m0
 rw[e,m0]at m
 rw[← m]at hp
 exact absurd hp (by show ¬ (0:Int)<0;omega)
theorem Im (g:Cv)(j:Nat)(hour:Int):Gw g (Co g j).1 hour=(Co g j).1.before (B5 hour g.Acts):=rfl
theorem Da.broken_iff (T:Da g truth)(sp:∀ j:Nat,j<g.Spots.length→U0 g j truth (N j) (X j)){hour:Nat}(hh:hour≤72):G8 g truth hour=true↔∃ r,Po g hour r∧¬ U4 r X:=by
 have G:=T.gd sp
 have kl:=G.kl
 obtain⟨u,hu⟩:∃ u,u=B5 hour g.Acts:=⟨_,rfl⟩
 have hul:u≤g.Acts.length:=by rw[hu];exact E4 _ _
 have hd:Ct g truth g.Acts.length hour=Cf g truth u:=by unfold Ct;rw[← hu,Nat.min_eq_right hul]
 have hwi:∀ i,i<g.Acts.length→Dz ((hour:Int)-(g.Acts.getD i default).Hour)=hour-(g.Acts.getD i default).Hour:=fun i hi=>by
  have:=T.ok.hour hi
  exact Cu (by omega) (by omega)
 have spt:∀ i,i<g.Acts.length→∃ j:Nat,j<g.Spots.length∧(g.Acts.getD i default).Spot=j∧(g.Acts.getD i default).Spot.toNat=j:=fun i hi=>by
  have:=T.at hi
  exact⟨(g.Acts.getD i default).Spot.toNat,by omega,by omega,rfl⟩
 have m0:∀ j:Nat,0≤(Cf g truth u).mass g j:=fun j=>by rw[T.mass hul];have:=T.le j u hul;omega
 have ml:∀ j:Nat,(Cf g truth u).mass g j≤10000000:=fun j=>by
  rw[T.mass hul]
  have:=Hq T.few j u hul
  have:=T.ok.acts
  omega
 have xm:∀ (j v:Nat),j<g.Spots.length→v≤g.Acts.length→X j ((Co g j).1.before v).tips=Cw j (g.Acts.zip truth) v∧X j ((Co g j).1.before v).takes=Cx j (g.Acts.zip truth) v∧((Co g j).1.before v).kind=Iv j g.Acts v:=fun j v hj hv=>by
  obtain⟨_,_,a,b,c⟩:=(sp j hj).mom v hv
  exact⟨a,b,c⟩
 have kd:∀ j:Nat,j<g.Spots.length→0<(Cf g truth u).mass g j→Swa.kindOf g (Cf g truth u) j=((Co g j).1.before u).kind:=fun j hj hp=>by
  rw[(xm j u hj hul).2.2];exact T.kindE hj hul hp
 have tp:∀ j:Nat,j<g.Spots.length→0<(Cf g truth u).mass g j→0<((Co g j).1.before u).tips:=fun j hj hp=>by
  refine(sp j hj).pos T hul ?_
  rw[T.mass hul]at hp
  have:=Hq T.few j u hul
  omega
 have high:∀ j:Nat,j<g.Spots.length→0<(Cf g truth u).mass g j→(N5 g (Cf g truth u) j=true↔Lg g j ((Co g j).1.before u).kind.toNat<(Cf g truth u).mass g j):=fun j hj hp=>by
  have kk:=T.ok.kind j u hul
  rw[← (xm j u hj hul).2.2]at kk
  obtain⟨c,_,c0,c1,c2,c3⟩:=Tx T.ok hj kk
  have:=ml j
  unfold N5
  rw[kd j hj hp,c3,c2,Cu (by omega) (by omega),decide_eq_true_eq]
  omega
 have fc:∀ s t,J5 g s t=J5 g t s:=fun s t=>by unfold J5;rw[Int.max_comm]
 have dc:∀ a b,Sf g a b=Sf g b a:=fun a b=>by unfold Sf;rw[A4P]
 unfold G8 Po
 rw[hd,Bool.or_eq_true,List.any_eq_true,List.any_eq_true]
 constructor
 ·rintro(⟨i,hi,hb⟩|⟨a,ha,hb⟩)
  ·rw[List.mem_range]at hi
   obtain⟨j,hj,ej,ej2⟩:=spt i hi
   have heap:∀ r,r∈Fl g (Co g j).1 j hour→r∈Eh g (Swa.known g).1 hour g.Spots.length:=fun r hr=>Jr.2 ⟨j,hj,by rw[Et (by omega)];exact hr⟩
   unfold Rc at hb
   rw[Bool.or_eq_true]at hb
   rcases hb with hb|hb
   ·unfold Tz at hb
    rw[Bool.and_eq_true,decide_eq_true_eq,decide_eq_true_eq,hwi i hi]at hb
    obtain⟨b1,b2⟩:=hb
    obtain⟨iu,ht⟩:=T.left0 hul b1
    rw[T.left hul iu ht,ej]at b1
    refine⟨_,.inl (heap _ ((Hr T.ok j hour _).2 (.inr ⟨i,hi,ej,ht,Xv (by rw[← hu];exact iu),.inl ⟨by omega,rfl⟩⟩))), ?_⟩
    rintro⟨w,hw,k⟩
    rw[List.mem_singleton.1 hw]at k
    unfold Pm.is at k
    dsimp only at k
    rw[Im,← hu,(xm j u hj hul).2.1,(xm j (i+1) hj (by omega)).1]at k
    omega
   ·unfold T9 at hb
    simp only[Bool.and_eq_true,decide_eq_true_eq,Bool.not_eq_true']at hb
    obtain⟨⟨⟨⟨b1,b2⟩,b3⟩,b4⟩,b5⟩:=hb
    have iu:i<u:=by rw[hu];exact T.ok.lt_until hi (by omega)
    have e:Ct g truth i hour=Cf g truth i:=by unfold Ct;rw[← hu,Nat.min_eq_left (by omega)]
    rw[e]at b3 b4 b5
    rw[ej2]at b3 b4
    rw[ej]at b5
    have hb5:=b5
    rw[T.mass (by omega)]at b5
    have tn:=Hq T.few j i (by omega)
    rw[T.kindE hj (by omega) hb5,← (xm j i hj (by omega)).2.2]at b4
    refine⟨_,.inl (heap _ ((Hr T.ok j hour _).2 (.inr ⟨i,hi,ej,b2,by omega,.inr ⟨b1,(sp j hj).pos T (by omega) (by omega),b4,rfl⟩⟩))), ?_⟩
    rintro⟨w,hw,k⟩
    rw[List.mem_singleton.1 hw]at k
    unfold Pm.is Eg at k
    dsimp only at k
    rw[(xm j i hj (by omega)).1,(xm j i hj (by omega)).2.1]at k
    omega
  ·rw[List.mem_range]at ha
   unfold Ks at hb
   simp only[Bool.and_eq_true,Bool.or_eq_true,Bool.not_eq_true',decide_eq_false_iff_not,List.any_eq_true,List.mem_range]at hb
   obtain⟨b1,b2⟩:=hb
   have ma:=m0 a
   have ma':0<(Cf g truth u).mass g a:=by omega
   rcases b2 with b2|⟨b,hb,b2⟩
   ·rw[high a ha ma']at b2
    refine⟨_,.inl (Jr.2 ⟨a,ha,by rw[Et (by omega)];exact(Hr T.ok a hour _).2 (.inl rfl)⟩), ?_⟩
    rintro⟨w,hw,k⟩
    rw[List.mem_singleton.1 hw]at k
    unfold Pm.is B39 at k
    dsimp only at k
    rw[Im,← hu,(xm a u ha hul).1,(xm a u ha hul).2.1]at k
    rw[T.mass hul]at b2
    omega
   ·unfold N6 U3 at b2
    rw[Bool.and_eq_true,decide_eq_true_eq,decide_eq_true_eq]at b2
    obtain⟨mb,b3⟩:=b2
    have hbl:b<g.Spots.length:=by omega
    rw[kd a ha ma',kd b hbl mb,dc,fc]at b3
    refine⟨[Eg b (Gw g ((Swa.known g).1.getD b default) hour),Eg a (Gw g ((Swa.known g).1.getD a default) hour)],.inr (Il.2 ⟨b,a,hb,ha,K3.2 ?_⟩), ?_⟩
    ·rw[Et (by omega),Et (by omega),Im,Im,← hu]
     exact⟨tp b hbl mb,tp a ha ma',b3,rfl⟩
    ·rw[Et (by omega),Et (by omega),Im,Im,← hu]
     rintro⟨w,hw,k⟩
     rw[T.mass hul]at mb ma'
     rcases List.mem_cons.1 hw with rfl|hw
     ·unfold Pm.is Eg at k
      dsimp only at k
      rw[(xm b u hbl hul).1,(xm b u hbl hul).2.1]at k
      omega
     ·rw[List.mem_singleton.1 hw]at k
      unfold Pm.is Eg at k
      dsimp only at k
      rw[(xm a u ha hul).1,(xm a u ha hul).2.1]at k
      omega
 ·rintro⟨r,hr|hr,hk⟩
  ·obtain⟨j,hj,hr⟩:=Jr.1 hr
   rw[Et (by omega)]at hr
   have one:∀ w,r=[w]→w.most<X w.spot w.b-X w.spot w.a:=fun w e=>by
    refine Int.not_le.1 fun q=>hk ⟨w,by rw[e];exact List.mem_singleton.2 rfl,q⟩
   rcases (Hr T.ok j hour r).1 hr with e|⟨i,hi,h1,h2,h3,h4⟩
   ·have:=one _ e
    unfold B39 at this
    dsimp only at this
    rw[Im,← hu,(xm j u hj hul).1,(xm j u hj hul).2.1,← T.mass hul]at this
    have kk:=T.ok.kind j u hul
    rw[← (xm j u hj hul).2.2]at kk
    obtain⟨c,_,c0,c1,c2,c3⟩:=Tx T.ok hj kk
    have mp:0<(Cf g truth u).mass g j:=by rw[c2]at this;omega
    refine .inr ⟨j,List.mem_range.2 hj, ?_⟩
    unfold Ks
    rw[Bool.and_eq_true,Bool.or_eq_true]
    refine⟨?_,.inl ((high j hj mp).2 this)⟩
    rw[Bool.not_eq_true',decide_eq_false_iff_not];omega
   ·have iu:i<u:=by rw[hu];exact T.ok.lt_until hi h3
    refine .inl ⟨i,List.mem_range.2 hi, ?_⟩
    unfold Rc
    rw[Bool.or_eq_true]
    rcases h4 with⟨q1,e⟩|⟨q1,q2,q3,e⟩
    ·left
     have:=one _ e
     dsimp only at this
     rw[Im,← hu,(xm j u hj hul).2.1,(xm j (i+1) hj (by omega)).1]at this
     unfold Tz
     rw[Bool.and_eq_true,decide_eq_true_eq,decide_eq_true_eq,hwi i hi,T.left hul iu h2,h1]
     omega
    ·right
     have:=one _ e
     unfold Eg at this
     dsimp only at this
     rw[(xm j i hj (by omega)).1,(xm j i hj (by omega)).2.1,← T.mass (by omega)]at this
     have e2:Ct g truth i hour=Cf g truth i:=by unfold Ct;rw[← hu,Nat.min_eq_left (by omega)]
     unfold T9
     simp only[Bool.and_eq_true,decide_eq_true_eq,Bool.not_eq_true']
     have et:(g.Acts.getD i default).Spot.toNat=j:=by omega
     rw[e2,et,h1,T.kindE hj (by omega) this,← (xm j i hj (by omega)).2.2]
     exact⟨⟨⟨⟨q1,h2⟩,(T.last hj (by omega) (by omega)).1⟩,q3⟩,this⟩
  ·obtain⟨a,b,hab,hb,hr⟩:=Il.1 hr
   rw[K3,Et (by omega),Et (by omega),Im,Im,← hu]at hr
   obtain⟨t1,t2,t3,e⟩:=hr
   have hal:a<g.Spots.length:=by omega
   have ma:0<(Cf g truth u).mass g a:=by
    rw[T.mass hul]
    refine Int.not_le.1 fun q=>hk ⟨Eg a ((Co g a).1.before u),by rw[e];exact List.mem_cons_self .., ?_⟩
    unfold Pm.is Eg
    dsimp only
    rw[(xm a u hal hul).1,(xm a u hal hul).2.1]
    exact q
   have mb:0<(Cf g truth u).mass g b:=by
    rw[T.mass hul]
    refine Int.not_le.1 fun q=>hk ⟨Eg b ((Co g b).1.before u),by rw[e];exact List.mem_cons_of_mem _ (List.mem_singleton.2 rfl), ?_⟩
    unfold Pm.is Eg
    dsimp only
    rw[(xm b u hb hul).1,(xm b u hb hul).2.1]
    exact q
   refine .inr ⟨b,List.mem_range.2 hb, ?_⟩
   unfold Ks
   rw[Bool.and_eq_true,Bool.or_eq_true,List.any_eq_true]
   refine⟨by rw[Bool.not_eq_true',decide_eq_false_iff_not];omega,.inr ⟨a,List.mem_range.2 hab, ?_⟩⟩
   unfold N6 U3
   rw[Bool.and_eq_true,decide_eq_true_eq,decide_eq_true_eq,kd a hal ma,kd b hb mb,dc,fc]
   exact⟨ma,t3⟩
theorem Da.breaksT (T:Da g truth):(Swa.breaks g).2.2=0∧(first g truth<0∨(0≤(Swa.breaks g).1∧(Swa.breaks g).1≤first g truth))∧((Swa.breaks g).2.1<0∨(0≤first g truth∧first g truth≤(Swa.breaks g).2.1)):=by
 obtain⟨N,X,sp⟩:=T.nx
 have G:=T.gd sp
 have F:=My g truth
 have hy:Xs N (Ra g) X:=fun j hj=>by
  rw[G.alen]at hj
  rw[G.allAt hj]
  exact(sp j hj).tab.sat
 obtain⟨p,q,e1,P,Q⟩:=G.breaks
 rw[e1]
 refine⟨rfl,F.later P fun hour hh hb=>?_,Q.later F.cum fun hour hh hb=>?_⟩
 ·rw[T.broken_iff sp hh]at hb
  obtain⟨r,hr,hk⟩:=hb
  exact B5s.2 ⟨r,hr,A7L (G.rulIn hr) hy hk⟩
 ·refine Classical.byContradiction fun hn=>hb ((G.kIff hour).2 ⟨X,hy,fun h' q r hr=>Classical.byContradiction fun hk=>hn ⟨h',q,(T.broken_iff sp (by omega)).2 ⟨r,hr,hk⟩⟩⟩)
end
theorem A96 {x lo hi:Int}(h1:0≤lo)(h2:lo≤hi)(h3:hi≤1000000):lo≤Mt x lo hi∧Mt x lo hi≤hi:=J2 (by omega) h2 (by omega)
def A3F (v:Int)(b:Bool):Bool:=(decide (v=1) && b) || (decide (v=2) && !b) || decide (v=3)
theorem Xw {A:List E8}{l:List Int}{spot:Int}:∀ n,0<H9 A l spot n→∃ k,k<n∧(A.getD k default).Spot=spot∧0<l.getD k 0
 | 0,h=>absurd h (by show ¬ (0:Int)<0;omega)
 | n+1,h=>by
  rw[H9]at h
  by_cases c:(A.getD n default).Spot=spot
  ·rw[if_pos c]at h
   by_cases p:0<l.getD n 0
   ·exact⟨n,by omega,c,p⟩
   ·obtain⟨k,h1,h2,h3⟩:=Xw (A:=A) (l:=l) (spot:=spot) n (by omega)
    exact⟨k,by omega,h2,h3⟩
  ·rw[if_neg c]at h
   obtain⟨k,h1,h2,h3⟩:=Xw (A:=A) (l:=l) (spot:=spot) n (by omega)
   exact⟨k,by omega,h2,h3⟩
theorem A6b {A:List E8}{l:List Int}{spot:Int}(hn:∀ k,0≤l.getD k 0){k:Nat}:∀ n,k<n→(A.getD k default).Spot=spot→l.getD k 0≤H9 A l spot n
 | 0,h,_=>by omega
 | n+1,h,c=>by
  rw[H9]
  by_cases e:k=n
  ·subst e
   rw[if_pos c]
   have:=Pj hn k (A:=A) (spot:=spot)
   omega
  ·have:=A6b hn n (by omega) c
   have:=hn n
   split <;> omega
theorem Da.oldKey {g:Cv}{truth:List Int}(T:Da g truth){hour age:Int}(h1:0≤hour)(h2:hour≤72)(h3:0≤age)(i:Nat) :
  Gg g (Ct g truth g.Acts.length hour) i hour age (Ct g truth g.Acts.length hour).left.length=true↔Cx i (g.Acts.zip truth) (B5 hour g.Acts)<Cw i (g.Acts.zip truth) (B5 (hour-age-1) g.Acts):=by
 obtain⟨u,hu⟩:∃ u,u=B5 hour g.Acts:=⟨_,rfl⟩
 obtain⟨o,ho⟩:∃ o,o=B5 (hour-age-1) g.Acts:=⟨_,rfl⟩
 have hul:u≤g.Acts.length:=by rw[hu];exact E4 _ _
 have hou:o≤u:=by rw[hu,ho];exact Q8 (by omega) _
 have hd:Ct g truth g.Acts.length hour=Cf g truth u:=by unfold Ct;rw[← hu,Nat.min_eq_right hul]
 have D:=T.day hul
 have so:=D.sum i o hou
 have hn:∀ k,0≤(Cf g truth u).left.getD k 0:=fun k=>(D.bd k).1
 have hlen:(Cf g truth u).left.length=g.Acts.length:=D.len
 rw[hd,← hu,← ho,hlen]
 unfold Gg
 rw[List.any_eq_true]
 constructor
 ·rintro⟨k,hk,q⟩
  rw[List.mem_range]at hk
  rw[Bool.and_eq_true,Bool.and_eq_true,decide_eq_true_eq,decide_eq_true_eq,decide_eq_true_eq]at q
  obtain⟨⟨q1,q2⟩,q3⟩:=q
  have hh:=T.ok.hour hk
  have w:Dz (hour-(g.Acts.getD k default).Hour)=hour-(g.Acts.getD k default).Hour:=Cu (by omega) (by omega)
  rw[w]at q3
  have ko:k<o:=by rw[ho];exact T.ok.lt_until hk (by omega)
  have:=A6b hn o ko q1
  omega
 ·intro q
  obtain⟨k,k1,k2,k3⟩:=Xw o (show 0<H9 g.Acts (Cf g truth u).left i o by omega)
  have hk:k<g.Acts.length:=by omega
  refine⟨k,List.mem_range.2 hk, ?_⟩
  have hh:=T.ok.hour hk
  have w:Dz (hour-(g.Acts.getD k default).Hour)=hour-(g.Acts.getD k default).Hour:=Cu (by omega) (by omega)
  have hk2:=Xv (hour:=hour-age-1) (L:=g.Acts) (i:=k) (by rw[← ho];exact k1)
  rw[w,Bool.and_eq_true,Bool.and_eq_true,decide_eq_true_eq,decide_eq_true_eq,decide_eq_true_eq]
  exact⟨⟨k2,k3⟩,by omega⟩
structure B6U (g:Cv)(truth:List Int)(hour age:Int)(i:Nat):Prop where
 e:(Swa.older g i hour age).2=0
 v:(Swa.older g i hour age).1=1∨(Swa.older g i hour age).1=2∨(Swa.older g i hour age).1=3
 fits:A3F (Swa.older g i hour age).1 (Gg g (Ct g truth g.Acts.length hour) i hour age (Ct g truth g.Acts.length hour).left.length)=true
 lo:((Swa.masses g hour).1.getD i default).Min≤(Ct g truth g.Acts.length hour).mass g i
 hi:(Ct g truth g.Acts.length hour).mass g i≤((Swa.masses g hour).1.getD i default).Max
theorem Da.old {g:Cv}{truth:List Int}(T:Da g truth){hour age:Int}(h1:0≤hour)(h2:hour≤72)(h3:0≤age)(h4:age≤72){i:Nat}(hi:i<g.Spots.length):B6U g truth hour age i:=by
 obtain⟨N,X,sp⟩:=T.nx
 have G:=T.gd sp
 have E:=sp i hi
 have eo:=G.older h1 h2 h3 h4 hi
 have em:=(G.masses h1 h2).2.2 i hi
 obtain⟨u,hu⟩:∃ u,u=B5 hour g.Acts:=⟨_,rfl⟩
 obtain⟨o,ho⟩:∃ o,o=B5 (hour-age-1) g.Acts:=⟨_,rfl⟩
 have hul:u≤g.Acts.length:=by rw[hu];exact E4 _ _
 have hou:o≤u:=by rw[hu,ho];exact Q8 (by omega) _
 have hd:Ct g truth g.Acts.length hour=Cf g truth u:=by unfold Ct;rw[← hu,Nat.min_eq_right hul]
 obtain⟨a1,a2,a3,a4,_⟩:=E.mom u hul
 obtain⟨b1,b2,b3,b4,_⟩:=E.mom o (by omega)
 have D:=T.day hul
 have so:=D.sum i o hou
 have hm:=T.mass hul i
 unfold M2 at em
 rw[← hu,← ho]at eo
 rw[← hu]at em
 have s1:=E.tab.sat _ _ b1 a2
 have s2:=E.tab.sat _ _ a2 b1
 have s3:=E.tab.sat _ _ a2 a1
 have s4:=E.tab.sat _ _ a1 a2
 have l4:=E.tab.lt a1 a2
 have hn:∀ k,0≤(Cf g truth u).left.getD k 0:=fun k=>(D.bd k).1
 have hlen:(Cf g truth u).left.length=g.Acts.length:=D.len
 have key:=T.oldKey h1 h2 h3 i
 rw[hd,← hu,← ho]at key
 refine⟨by rw[eo], ?_, ?_, ?_, ?_⟩
 ·rw[eo]
  unfold R6
  dsimp only
  split
  ·exact .inl rfl
  ·split
   ·exact .inr (.inl rfl)
   ·exact .inr (.inr rfl)
 ·rw[eo,hd]
  unfold R6
  dsimp only
  by_cases c1:(Co g i).1.s.mat ((Co g i).1.before o).tips ((Co g i).1.before u).takes<0
  ·rw[if_pos c1,key.2 (by omega)]
   rfl
  ·rw[if_neg c1]
   by_cases c2:(Co g i).1.s.mat ((Co g i).1.before u).takes ((Co g i).1.before o).tips≤0
   ·have:Gg g (Cf g truth u) i hour age (Cf g truth u).left.length=false:=by
     cases q:Gg g (Cf g truth u) i hour age (Cf g truth u).left.length with
     | false=>rfl
     | true =>
      have:=key.1 q
      omega
    rw[if_pos c2,this]
    rfl
   ·rw[if_neg c2]
    unfold A3F
    rw[Bool.or_eq_true]
    exact .inr (decide_eq_true rfl)
 ·rw[em,hd,hm]
  show (Co g i).1.least _≤_
  unfold Hp.least
  rw[Cu (by omega) (by omega)]
  omega
 ·rw[em,hd,hm]
  show _≤(Co g i).1.most _
  unfold Hp.most
  omega
theorem A6c (spot:Int):∀ (L:List Pf)(lie:Int),(∀ u,u<L.length→(L.getD u default).1.Spot=spot→A55 spot L lie u)→Mc spot lie L
 | [],_,_=>trivial
 | (a,t) :: L,lie,h=>by
  have tail:∀ lie':Int,(lie'=lie+(if a.Spot=spot∧a.Take=false then t else 0)-if a.Spot=spot∧a.Take=true then t else 0)→Mc spot lie' L:=fun lie' e=>A6c spot L lie' fun u hu hs=>by
   have q:=h (u+1) (by simpa using hu) hs
   refine⟨q.m,fun ht=>?_⟩
   have:=q.t ht
   rw[K0,K2]at this
   have this:(L.getD u default).2≤lie+((if a.Spot=spot∧a.Take=false then t else 0)+Cw spot L u)-((if a.Spot=spot∧a.Take=true then t else 0)+Cx spot L u):=this
   omega
  rw[Mc]
  by_cases c:a.Spot=spot
  ·have q:=h 0 (by simp) c
   rw[if_pos c]
   refine⟨q.m, ?_⟩
   by_cases ct:a.Take=true
   ·rw[if_pos ct]
    have:=q.t ct
    have this:t≤lie+0-0:=this
    exact⟨by omega,tail _ (by rw[if_neg (fun q=>by rw[ct]at q;cases q.2),if_pos ⟨c,ct⟩];omega)⟩
   ·rw[if_neg ct]
    exact tail _ (by rw[if_pos ⟨c,by simpa using ct⟩,if_neg (fun q=>ct q.2)];omega)
  ·rw[if_neg c]
   exact tail _ (by rw[if_neg (fun q=>c q.1),if_neg (fun q=>c q.1)];omega)
structure TAt (g:Cv)(t:List Int)(u:Nat):Prop where
 lo:(g.Acts.getD u default).Min≤t.getD u 0
 hi:t.getD u 0≤(g.Acts.getD u default).Max
 tk:(g.Acts.getD u default).Take=true→t.getD u 0≤Cw (g.Acts.getD u default).Spot (g.Acts.zip t) u-Cx (g.Acts.getD u default).Spot (g.Acts.zip t) u
theorem Da.tAt {g:Cv}{t:List Int}(T:Da g t){u:Nat}(hu:u<g.Acts.length):TAt g t u:=by
 have b:=T.at hu
 have hl:=T.len
 refine⟨b.2.2.1,b.2.2.2.1,fun ht=>?_⟩
 have e:(((g.Acts.getD u default).Spot.toNat:Nat):Int)=(g.Acts.getD u default).Spot:=by omega
 have q:=N3 ((g.Acts.getD u default).Spot.toNat:Nat) (g.Acts.zip t) 0 (T.fit _ (by omega)) u (by rw[List.length_zip];omega) (by rw[Ia hl hu,e])
 have:=q.t (by rw[Ia hl hu];exact ht)
 rw[Ia hl hu,e]at this
 dsimp only at this
 omega
theorem Ok.mas {g:Cv}(h:Ok g){k:Nat}(hk:k<g.Acts.length):1≤(g.Acts.getD k default).Min∧(g.Acts.getD k default).Min≤(g.Acts.getD k default).Max∧(g.Acts.getD k default).Max≤1000000:=by
 obtain⟨_,a⟩:=h.at hk
 exact a.m
theorem A3G {g:Cv}{t:List Int}(ok:Ok g)(ck:check g=0)(hl:t.length=g.Acts.length)(h:∀ u,u<g.Acts.length→TAt g t u):Da g t:=by
 refine⟨ok,ck,hl,fun j hj=>A6c j _ 0 fun u hu hs=>?_⟩
 have hu:u<g.Acts.length:=by rw[List.length_zip]at hu;omega
 have q:=h u hu
 have m:=ok.mas hu
 rw[Ia hl hu]at hs
 have hs:(g.Acts.getD u default).Spot=j:=hs
 refine⟨?_, ?_⟩
 ·rw[Ia hl hu]
  dsimp only
  have:=q.lo
  have:=q.hi
  omega
 ·rw[Ia hl hu]
  intro ht
  have:=q.tk ht
  rw[hs]at this
  dsimp only
  omega
structure CS (p:Hb)(i:Nat)(C:(Nat→Int)→Prop):Prop where
 n:p.next≤i
 mt:p.m.tips≤p.next∧p.m.takes≤p.next
 ok:p.ok=true→Tbz p.s.mat p.next∧∀ y,Sol p.s.mat p.next y↔C y
 no:p.ok=false→∀ y,¬ C y
def Pp (p:Hb)(a:E8):Nat:=if a.Take=true then p.m.takes else p.m.tips
def A7O (p:Hb)(a:E8)(y:Nat→Int):Prop:=a.Min≤y (p.next+1)-y (Pp p a)∧y (p.next+1)-y (Pp p a)≤a.Max∧(a.Take=true→y (p.next+1)-y p.m.tips≤0)
theorem CS.step {p:Hb}{i:Nat}{C:(Nat→Int)→Prop}(h:CS p i C)(hi:i<10){a:E8}(m:1≤a.Min∧a.Min≤a.Max∧a.Max≤1000000):CS (p.step i a) (i+1) fun y=>C y∧A7O p a y:=by
 have hn:=h.n
 obtain⟨t1,t2⟩:=h.mt
 by_cases ht:a.Take=true
 ·rw[Hb.step_take ht]
  have hb:Pp p a=p.m.takes:=if_pos ht
  refine⟨by dsimp only;omega,⟨by dsimp only;omega,Nat.le_refl _⟩,fun ok=>?_,fun no y hy=>?_⟩
  ·have ok:(p.tk a).2=true:=ok
   obtain⟨z,sz⟩:=h.ok (B22 ok)
   have pok:=B22 ok
   dsimp only
   obtain⟨a1,a2,a3,a4⟩:=z.add (by omega) t2 m.1 m.2.1 m.2.2
   have e1:p.tk a=((p.s.know p.m.takes (p.next+1) a.Max).1.know (p.next+1) p.m.takes (Dz (0-a.Min))).1.know p.m.tips (p.next+1) 0:=by
    unfold Hb.tk In
    simp only[pok,if_true,a1,a2]
   rw[e1]at ok ⊢
   obtain⟨d1,d2⟩:=a3.more (a:=p.m.tips) (b:=p.next+1) (by omega) (Nat.le_refl _) ok
   refine⟨d1,fun y=>?_⟩
   rw[d2,a4,sz]
   unfold A7O
   rw[hb]
   exact⟨fun ⟨⟨q1,q2,q3⟩,q4⟩=>⟨q1,q2,q3,fun _=>q4⟩,fun ⟨q1,q2,q3,q4⟩=>⟨⟨q1,q2,q3⟩,q4 ht⟩⟩
  ·obtain⟨y1,y2,y3,y4⟩:=hy
   rw[hb]at y2 y3
   have no:(p.tk a).2=false:=no
   cases c:p.ok with
   | false=>exact h.no c y y1
   | true =>
    obtain⟨z,sz⟩:=h.ok c
    obtain⟨a1,a2,a3,a4⟩:=z.add (by omega) t2 m.1 m.2.1 m.2.2
    have e1:p.tk a=((p.s.know p.m.takes (p.next+1) a.Max).1.know (p.next+1) p.m.takes (Dz (0-a.Min))).1.know p.m.tips (p.next+1) 0:=by
     unfold Hb.tk In
     simp only[c,if_true,a1,a2]
    rw[e1]at no
    exact(a3.t.know (a:=p.m.tips) (b:=p.next+1) (m:=0) (by omega) (Nat.le_refl _) (by omega) (by omega)).2 no y ((a4 y).2 ⟨(sz y).2 y1,y2,y3⟩) (y4 ht)
 ·rw[Hb.step_tip ht]
  have hb:Pp p a=p.m.tips:=if_neg ht
  refine⟨by dsimp only;omega,⟨Nat.le_refl _,by dsimp only;omega⟩,fun ok=>?_,fun no y hy=>?_⟩
  ·have ok:(p.tp a).2=true:=ok
   obtain⟨z,sz⟩:=h.ok (B23 ok)
   have pok:=B23 ok
   dsimp only
   obtain⟨a1,a2,a3,a4⟩:=z.add (by omega) t1 m.1 m.2.1 m.2.2
   have e1:p.tp a=(p.s.know p.m.tips (p.next+1) a.Max).1.know (p.next+1) p.m.tips (Dz (0-a.Min)):=by
    unfold Hb.tp In
    simp only[pok,if_true,a1]
   rw[e1]
   refine⟨a3,fun y=>?_⟩
   rw[a4,sz]
   unfold A7O
   rw[hb]
   exact⟨fun ⟨q1,q2,q3⟩=>⟨q1,q2,q3,fun q=>absurd q ht⟩,fun ⟨q1,q2,q3,_⟩=>⟨q1,q2,q3⟩⟩
  ·obtain⟨y1,y2,y3,y4⟩:=hy
   have no:(p.tp a).2=false:=no
   cases c:p.ok with
   | false=>exact h.no c y y1
   | true =>
    obtain⟨z,sz⟩:=h.ok c
    obtain⟨a1,a2,a3,a4⟩:=z.add (by omega) t1 m.1 m.2.1 m.2.2
    have e1:p.tp a=(p.s.know p.m.tips (p.next+1) a.Max).1.know (p.next+1) p.m.tips (Dz (0-a.Min)):=by
     unfold Hb.tp In
     simp only[c,if_true,a1]
    rw[e1,a2]at no
    cases no
def Xx (spot:Int)(A:List E8)(y:Nat→Int):Nat→Prop
 | 0=>True
 | u+1=>Xx spot A y u∧((A.getD u default).Spot=spot→A7O (Gp spot A u) (A.getD u default) y)
theorem B4a {g:Cv}(ok:Ok g)(spot:Int):∀ u,u≤g.Acts.length→CS (Gp spot g.Acts u) u fun y=>Xx spot g.Acts y u
 | 0,_=>by
  have s:=LS.start.c rfl
  refine⟨Nat.le_refl _,⟨Nat.le_refl _,Nat.le_refl _⟩,fun _=>⟨s.2.1,fun y=>⟨fun _=>trivial,fun _ a b ha hb=>?_⟩⟩,fun q=>by cases q⟩
  have ha:a≤0:=ha
  have hb:b≤0:=hb
  obtain rfl:a=0:=by omega
  obtain rfl:b=0:=by omega
  have:(Gp spot g.Acts 0).s.mat 0 0=0:=s.2.1.t.diag 0 (by omega)
  rw[this]
  omega
 | u+1,hu=>by
  have ih:=B4a ok spot u (by omega)
  have h10:=ok.acts
  rw[J3 spot (by omega)]
  by_cases c:(g.Acts.getD u default).Spot=spot
  ·rw[if_pos c]
   have q:=ih.step (by omega) (ok.mas (k:=u) (by omega))
   have e:(fun y=>Xx spot g.Acts y (u+1))=fun y=>Xx spot g.Acts y u∧A7O (Gp spot g.Acts u) (g.Acts.getD u default) y:=funext fun y=>propext ⟨fun q=>⟨q.1,q.2 c⟩,fun q=>⟨q.1,fun _=>q.2⟩⟩
   rw[e]
   exact q
  ·rw[if_neg c]
   have e:(fun y=>Xx spot g.Acts y (u+1))=fun y=>Xx spot g.Acts y u:=funext fun y=>propext ⟨fun q=>q.1,fun q=>⟨q,fun h=>absurd h c⟩⟩
   rw[e]
   exact⟨Nat.le_succ_of_le ih.n,ih.mt,ih.ok,ih.no⟩
def tOf (g:Cv)(ys:Nat→Nat→Int):List Int:=(List.range g.Acts.length).map fun u =>
 ys (g.Acts.getD u default).Spot.toNat ((Gp ((g.Acts.getD u default).Spot.toNat:Nat) g.Acts u).next+1)-ys (g.Acts.getD u default).Spot.toNat (Pp (Gp ((g.Acts.getD u default).Spot.toNat:Nat) g.Acts u) (g.Acts.getD u default))
theorem A6d (g:Cv)(ys:Nat→Nat→Int):(tOf g ys).length=g.Acts.length:=by simp[tOf]
theorem A1R (g:Cv)(ys:Nat→Nat→Int){u j:Nat}(hu:u<g.Acts.length)(hj:(g.Acts.getD u default).Spot=j):(tOf g ys).getD u 0=ys j ((Gp j g.Acts u).next+1)-ys j (Pp (Gp j g.Acts u) (g.Acts.getD u default)):=by
 have e:(g.Acts.getD u default).Spot.toNat=j:=by omega
 unfold tOf
 have:((List.range g.Acts.length).map fun u=>ys (g.Acts.getD u default).Spot.toNat ((Gp ((g.Acts.getD u default).Spot.toNat:Nat) g.Acts u).next+1)-ys (g.Acts.getD u default).Spot.toNat (Pp (Gp ((g.Acts.getD u default).Spot.toNat:Nat) g.Acts u) (g.Acts.getD u default))).getD u 0=ys (g.Acts.getD u default).Spot.toNat ((Gp ((g.Acts.getD u default).Spot.toNat:Nat) g.Acts u).next+1)-ys (g.Acts.getD u default).Spot.toNat (Pp (Gp ((g.Acts.getD u default).Spot.toNat:Nat) g.Acts u) (g.Acts.getD u default)):=by
  simp[List.getD,hu]
 rw[this,e]
theorem A1S (g:Cv)(ys:Nat→Nat→Int)(j:Nat):∀ u,u≤g.Acts.length→Cw j (g.Acts.zip (tOf g ys)) u=ys j (Gp j g.Acts u).m.tips-ys j 0∧Cx j (g.Acts.zip (tOf g ys)) u=ys j (Gp j g.Acts u).m.takes-ys j 0
 | 0,_=>by
  show (0:Int)=ys j 0-ys j 0∧(0:Int)=ys j 0-ys j 0
  omega
 | u+1,hu=>by
  obtain⟨h1,h2⟩:=A1S g ys j u (by omega)
  have hz:=Ia (A6d g ys) (show u<g.Acts.length by omega)
  rw[Cw,Cx,hz,h1,h2,J3 j (by omega)]
  dsimp only
  by_cases c:(g.Acts.getD u default).Spot=j
  ·rw[if_pos c,A1R g ys (by omega) c]
   by_cases t:(g.Acts.getD u default).Take=true
   ·rw[Hb.step_take t,if_neg (fun q=>by rw[t]at q;cases q.2),if_pos ⟨c,t⟩]
    unfold Pp
    rw[if_pos t]
    dsimp only
    omega
   ·rw[Hb.step_tip t,if_pos ⟨c,by simpa using t⟩,if_neg (fun q=>t q.2)]
    unfold Pp
    rw[if_neg t]
    dsimp only
    omega
  ·rw[if_neg c,if_neg (fun q=>c q.1),if_neg (fun q=>c q.1)]
   omega
theorem Xx.at {spot:Int}{A:List E8}{y:Nat→Int}:∀ {n:Nat},Xx spot A y n→∀ u,u<n→(A.getD u default).Spot=spot→A7O (Gp spot A u) (A.getD u default) y
 | 0,_,u,hu,_=>by omega
 | n+1,h,u,hu,hs=>by
  by_cases e:u=n
  ·subst e;exact h.2 hs
  ·exact Xx.at h.1 u (by omega) hs
theorem A97 {g:Cv}(ok:Ok g)(ck:check g=0){ys:Nat→Nat→Int}(h:∀ j:Nat,j<g.Spots.length→Xx j g.Acts (ys j) g.Acts.length):Da g (tOf g ys):=by
 refine A3G ok ck (A6d g ys) fun u hu=>?_
 obtain⟨_,A⟩:=ok.at hu
 obtain⟨j,hj⟩:∃ j:Nat,(g.Acts.getD u default).Spot=j:=⟨(g.Acts.getD u default).Spot.toNat,by have:=A.s;omega⟩
 have q:=(h j (by have:=A.s;omega)).at u hu hj
 obtain⟨s1,s2⟩:=A1S g ys j u (by omega)
 refine⟨?_, ?_,fun ht=>?_⟩
 ·rw[A1R g ys hu hj];exact q.1
 ·rw[A1R g ys hu hj];exact q.2.1
 ·rw[A1R g ys hu hj,hj,s1,s2]
  have:=q.2.2 ht
  unfold Pp
  rw[if_pos ht]
  omega
structure Kn (g:Cv):Prop where
 ok:Ok g
 ck:check g=0
 kn:(known g).2=0
section
variable {g:Cv}
theorem Kn.p (h:Kn g){j:Nat}(hj:j<g.Spots.length):(Co g j).2=true:=Xu g.Spots.length 0 [] h.kn j (Nat.zero_le _) (by omega)
theorem Kn.con (h:Kn g){j:Nat}(hj:j<g.Spots.length):Tbz (Co g j).1.s.mat (nOf g j)∧∀ y,Sol (Co g j).1.s.mat (nOf g j) y↔Xx j g.Acts y g.Acts.length:=by
 have c:=(B4a h.ok j g.Acts.length (Nat.le_refl _)).ok
 rw[← (A3E g j).2,← (A3E g j).1]at c
 exact c (h.p hj)
theorem Kn.gd (h:Kn g):Gd g (nOf g):=by
 obtain⟨k1,k2⟩:=A0i fun j hj=>h.p hj
 refine⟨h.ok,h.ck,h.kn,by rw[k2];simp,fun j hj=>(h.con hj).1.t,fun j hj u hu=>?_⟩
 have m:=(B4a h.ok j u hu).mt
 have n:=A0q j g.Acts (u:=u) (g.Acts.length-u) (by omega)
 rw[show u+(g.Acts.length-u)=g.Acts.length by omega]at n
 rw[Hf g j hu]
 unfold nOf
 omega
theorem Kn.tr (h:Kn g){ys:Nat→Nat→Int}(hy:Xs (nOf g) (Ra g) ys):Da g (tOf g ys) :=
 A97 h.ok h.ck fun j hj=>by
  have q:=hy j (by rw[h.gd.alen];exact hj)
  rw[h.gd.allAt hj]at q
  exact((h.con hj).2 _).1 q
theorem Kn.sum (h:Kn g)(ys:Nat→Nat→Int)(j:Nat){u:Nat}(hu:u≤g.Acts.length):Cw j (g.Acts.zip (tOf g ys)) u=ys j ((Co g j).1.before u).tips-ys j 0∧Cx j (g.Acts.zip (tOf g ys)) u=ys j ((Co g j).1.before u).takes-ys j 0:=by
 rw[Hf g j hu]
 exact A1S g ys j u hu
def Pq (g:Cv)(f:Nat→Nat):Nat→Nat→Int:=fun j=>(Co g j).1.s.mat (f j)
theorem Kn.row (h:Kn g){f:Nat→Nat}(hf:∀ j,j<g.Spots.length→f j≤nOf g j):Xs (nOf g) (Ra g) (Pq g f):=fun j hj=>by
 rw[h.gd.alen]at hj
 rw[h.gd.allAt hj]
 exact(h.con hj).1.t.row (hf j hj)
theorem Kn.some (h:Kn g):∃ t,Da g t:=⟨_,h.tr (h.row (f:=fun _=>0) fun _ _=>Nat.zero_le _)⟩
theorem Kn.tm (h:Kn g){t:List Int}(T:Da g t)(hour:Int)(i:Nat):(Ct g t g.Acts.length hour).mass g i=Cw i (g.Acts.zip t) (B5 hour g.Acts)-Cx i (g.Acts.zip t) (B5 hour g.Acts):=by
 have hul:=E4 hour g.Acts
 have hd:Ct g t g.Acts.length hour=Cf g t (B5 hour g.Acts):=by unfold Ct;rw[Nat.min_eq_right hul]
 rw[hd]
 exact T.mass hul i
theorem Kn.ends (h:Kn g){hour:Int}(h1:0≤hour)(h2:hour≤72){i:Nat}(hi:i<g.Spots.length) :
  (∃ t,Da g t∧(Ct g t g.Acts.length hour).mass g i=((Swa.masses g hour).1.getD i default).Max)∧∃ t,Da g t∧(Ct g t g.Acts.length hour).mass g i=((Swa.masses g hour).1.getD i default).Min:=by
 have hul:=E4 hour g.Acts
 have G:=h.gd
 obtain⟨m1,m2⟩:=G.mom i hi _ hul
 have tb:=G.tb i hi
 have em:=(G.masses h1 h2).2.2 i hi
 unfold M2 at em
 have d1:=tb.diag ((Co g i).1.before (B5 hour g.Acts)).takes (by have:=tb.n10;omega)
 have d2:=tb.diag ((Co g i).1.before (B5 hour g.Acts)).tips (by have:=tb.n10;omega)
 have l:=tb.lt m1 m2
 constructor
 ·have R:=h.row (f:=fun j=>if j=i then ((Co g i).1.before (B5 hour g.Acts)).takes else 0) fun j hj=>by
   by_cases e:j=i
   ·rw[if_pos e,e];exact m2
   ·rw[if_neg e];exact Nat.zero_le _
  refine⟨_,h.tr R, ?_⟩
  obtain⟨s1,s2⟩:=h.sum (Pq g fun j=>if j=i then ((Co g i).1.before (B5 hour g.Acts)).takes else 0) i hul
  rw[h.tm (h.tr R),s1,s2,em]
  show _=(Co g i).1.most _
  unfold Pq Hp.most
  dsimp only
  rw[if_pos rfl]
  omega
 ·have R:=h.row (f:=fun j=>if j=i then ((Co g i).1.before (B5 hour g.Acts)).tips else 0) fun j hj=>by
   by_cases e:j=i
   ·rw[if_pos e,e];exact m1
   ·rw[if_neg e];exact Nat.zero_le _
  refine⟨_,h.tr R, ?_⟩
  obtain⟨s1,s2⟩:=h.sum (Pq g fun j=>if j=i then ((Co g i).1.before (B5 hour g.Acts)).tips else 0) i hul
  rw[h.tm (h.tr R),s1,s2,em]
  show _=(Co g i).1.least _
  unfold Pq Hp.least
  dsimp only
  rw[if_pos rfl,Cu (by omega) (by omega)]
  omega
theorem Kn.unsure (h:Kn g){hour age:Int}(h1:0≤hour)(h2:hour≤72)(h3:0≤age)(h4:age≤72){i:Nat}(hi:i<g.Spots.length)(hv:(Swa.older g i hour age).1=3) :
  (∃ t,Da g t∧Gg g (Ct g t g.Acts.length hour) i hour age (Ct g t g.Acts.length hour).left.length=true)∧∃ t,Da g t∧Gg g (Ct g t g.Acts.length hour) i hour age (Ct g t g.Acts.length hour).left.length=false:=by
 have hul:=E4 hour g.Acts
 have hol:=E4 (hour-age-1) g.Acts
 have G:=h.gd
 obtain⟨m1,m2⟩:=G.mom i hi _ hul
 obtain⟨o1,o2⟩:=G.mom i hi _ hol
 have tb:=G.tb i hi
 have n10:=tb.n10
 rw[G.older h1 h2 h3 h4 hi]at hv
 unfold R6 at hv
 dsimp only at hv
 have c1:¬ (Co g i).1.s.mat ((Co g i).1.before (B5 (hour-age-1) g.Acts)).tips ((Co g i).1.before (B5 hour g.Acts)).takes<0:=fun c=>by rw[if_pos c]at hv;omega
 rw[if_neg c1]at hv
 have c2:¬ (Co g i).1.s.mat ((Co g i).1.before (B5 hour g.Acts)).takes ((Co g i).1.before (B5 (hour-age-1) g.Acts)).tips≤0:=fun c=>by rw[if_pos c]at hv;omega
 have d1:=tb.diag ((Co g i).1.before (B5 hour g.Acts)).takes (by omega)
 have d2:=tb.diag ((Co g i).1.before (B5 (hour-age-1) g.Acts)).tips (by omega)
 constructor
 ·have R:=h.row (f:=fun j=>if j=i then ((Co g i).1.before (B5 hour g.Acts)).takes else 0) fun j hj=>by
   by_cases e:j=i
   ·rw[if_pos e,e];exact m2
   ·rw[if_neg e];exact Nat.zero_le _
  refine⟨_,h.tr R,((h.tr R).oldKey h1 h2 h3 i).2 ?_⟩
  obtain⟨_,s2⟩:=h.sum (Pq g fun j=>if j=i then ((Co g i).1.before (B5 hour g.Acts)).takes else 0) i hul
  obtain⟨s1,_⟩:=h.sum (Pq g fun j=>if j=i then ((Co g i).1.before (B5 hour g.Acts)).takes else 0) i hol
  rw[s1,s2]
  unfold Pq
  dsimp only
  rw[if_pos rfl]
  omega
 ·have R:=h.row (f:=fun j=>if j=i then ((Co g i).1.before (B5 (hour-age-1) g.Acts)).tips else 0) fun j hj=>by
   by_cases e:j=i
   ·rw[if_pos e,e];exact o1
   ·rw[if_neg e];exact Nat.zero_le _
  refine⟨_,h.tr R, ?_⟩
  cases q:Gg g (Ct g (tOf g (Pq g fun j=>if j=i then ((Co g i).1.before (B5 (hour-age-1) g.Acts)).tips else 0)) g.Acts.length hour) i hour age (Ct g (tOf g (Pq g fun j=>if j=i then ((Co g i).1.before (B5 (hour-age-1) g.Acts)).tips else 0)) g.Acts.length hour).left.length with
  | false=>rfl
  | true =>
   have q:=((h.tr R).oldKey h1 h2 h3 i).1 q
   obtain⟨_,s2⟩:=h.sum (Pq g fun j=>if j=i then ((Co g i).1.before (B5 (hour-age-1) g.Acts)).tips else 0) i hul
   obtain⟨s1,_⟩:=h.sum (Pq g fun j=>if j=i then ((Co g i).1.before (B5 (hour-age-1) g.Acts)).tips else 0) i hol
   rw[s1,s2]at q
   unfold Pq at q
   dsimp only at q
   rw[if_pos rfl]at q
   omega
theorem Kn.way (h:Kn g){hour:Nat}{r:Iy}(hr:Po g hour r){w:Pm}(hw:w∈r):w.spot<g.Spots.length∧∃ u v:Nat,u≤g.Acts.length∧v≤g.Acts.length∧w.a=((Co g w.spot).1.before u).takes∧w.b=((Co g w.spot).1.before v).tips:=by
 have hul:=E4 hour g.Acts
 have kl:=h.gd.kl
 rcases hr with hr|hr
 ·obtain⟨j,hj,hr⟩:=Jr.1 hr
  rw[Et (by omega)]at hr
  rcases (Hr h.ok j hour r).1 hr with rfl|⟨k,hk,_,_,_,⟨_,rfl⟩|⟨_,_,_,rfl⟩⟩
  ·rw[List.mem_singleton.1 hw]
   exact⟨hj,_,_,hul,hul,rfl,rfl⟩
  ·rw[List.mem_singleton.1 hw]
   exact⟨hj,_,k+1,hul,by omega,rfl,rfl⟩
  ·rw[List.mem_singleton.1 hw]
   exact⟨hj,k,k,by omega,by omega,rfl,rfl⟩
 ·obtain⟨a,b,hab,hb,hr⟩:=Il.1 hr
  have z:=(K3.1 hr).2.2.2
  rw[Et (by omega),Et (by omega)]at z
  subst z
  rcases List.mem_cons.1 hw with rfl|hw
  ·exact⟨by show a<_;omega,_,_,hul,hul,rfl,rfl⟩
  ·rw[List.mem_singleton.1 hw]
   exact⟨hb,_,_,hul,hul,rfl,rfl⟩
theorem Kn.brk (h:Kn g){ys:Nat→Nat→Int}(hy:Xs (nOf g) (Ra g) ys){hour:Nat}(hh:hour≤72):G8 g (tOf g ys) hour=true↔∃ r,Po g hour r∧¬ U4 r ys:=by
 have T:=h.tr hy
 obtain⟨N,X,sp⟩:=T.nx
 rw[T.broken_iff sp hh]
 have e:∀ r,Po g hour r→(U4 r X↔U4 r ys):=fun r hr=>by
  have w1:∀ w,w∈r→(w.is X↔w.is ys):=fun w hw=>by
   obtain⟨hs,u,v,hu,hv,ea,eb⟩:=h.way hr hw
   obtain⟨_,_,x1,_⟩:=(sp w.spot hs).mom v hv
   obtain⟨_,_,_,x2,_⟩:=(sp w.spot hs).mom u hu
   obtain⟨s1,_⟩:=h.sum ys w.spot hv
   obtain⟨_,s2⟩:=h.sum ys w.spot hu
   unfold Pm.is
   rw[ea,eb,x1,x2,s1,s2]
   omega
  exact⟨fun ⟨w,hw,q⟩=>⟨w,hw,(w1 w hw).1 q⟩,fun ⟨w,hw,q⟩=>⟨w,hw,(w1 w hw).2 q⟩⟩
 exact⟨fun ⟨r,hr,q⟩=>⟨r,hr,fun k=>q ((e r hr).2 k)⟩,fun ⟨r,hr,q⟩=>⟨r,hr,fun k=>q ((e r hr).1 k)⟩⟩
theorem Kn.viol (h:Kn g){hour:Nat}{r:Iy}(hr:Po g hour r)(hb:Fu (Ra g) r=true):∃ ys,Xs (nOf g) (Ra g) ys∧¬ U4 r ys:=by
 have win:=h.gd.rulIn hr
 have G:=h.gd
 have bad:∀ w,w∈r→w.most<(Co g w.spot).1.s.mat w.a w.b:=fun w hw=>by
  unfold Fu at hb
  have q:=List.all_eq_true.1 hb w hw
  have hs:=(win w hw).s
  rw[G.alen]at hs
  unfold Pm.ok at q
  rw[Bool.not_eq_true',decide_eq_false_iff_not,G.allAt hs]at q
  omega
 have dg:∀ j,j<g.Spots.length→∀ a,a≤nOf g j→(Co g j).1.s.mat a a=0:=fun j hj a ha=>(G.tb j hj).diag a (by have:=(G.tb j hj).n10;omega)
 have one:∀ w,w∈r→∀ f:Nat→Nat,f w.spot=w.a→¬ w.is (Pq g f):=fun w hw f hf k=>by
  have i:=win w hw
  have hs:=i.s
  rw[G.alen]at hs
  have:=bad w hw
  unfold Pm.is Pq at k
  rw[hf,dg _ hs _ i.a]at k
  omega
 rcases hr with hr|hr
 ·obtain⟨j,hj,hr⟩:=Jr.1 hr
  rw[Et (by rw[G.kl];exact hj)]at hr
  have sg:∃ w,r=[w]:=by
   rcases (Hr h.ok j hour r).1 hr with e|⟨k,hk,_,_,_,⟨_,e⟩|⟨_,_,_,e⟩⟩ <;> exact⟨_,e⟩
  obtain⟨w,rfl⟩:=sg
  have hw:w∈[w]:=List.mem_singleton.2 rfl
  have i:=win w hw
  refine⟨Pq g fun j=>if j=w.spot then w.a else 0,h.row fun j hj=>?_, ?_⟩
  ·by_cases e:j=w.spot
   ·rw[if_pos e,e];exact i.a
   ·rw[if_neg e];exact Nat.zero_le _
  ·rintro⟨w',hw',k⟩
   rw[List.mem_singleton.1 hw']at k
   exact one w hw (fun j=>if j=w.spot then w.a else 0) (if_pos rfl) k
 ·obtain⟨a,b,hab,hbn,hr⟩:=Il.1 hr
  have z:=(K3.1 hr).2.2.2
  obtain⟨wa,hwa⟩:∃ w,w=Eg a (Gw g ((known g).1.getD a default) hour):=⟨_,rfl⟩
  obtain⟨wb,hwb⟩:∃ w,w=Eg b (Gw g ((known g).1.getD b default) hour):=⟨_,rfl⟩
  rw[← hwa,← hwb]at z
  subst z
  have ea:wa.spot=a:=by rw[hwa];rfl
  have eb:wb.spot=b:=by rw[hwb];rfl
  have ia:=win wa (List.mem_cons_self ..)
  have ib:=win wb (List.mem_cons_of_mem _ (List.mem_singleton.2 rfl))
  refine⟨Pq g fun j=>if j=a then wa.a else if j=b then wb.a else 0,h.row fun j hj=>?_, ?_⟩
  ·by_cases e:j=a
   ·rw[if_pos e,e,← ea];exact ia.a
   ·rw[if_neg e]
    by_cases e2:j=b
    ·rw[if_pos e2,e2,← eb];exact ib.a
    ·rw[if_neg e2];exact Nat.zero_le _
  ·rintro⟨w,hw,k⟩
   rcases List.mem_cons.1 hw with rfl|hw
   ·exact one w (List.mem_cons_self ..) (fun j=>if j=a then w.a else if j=b then wb.a else 0) (by rw[ea,if_pos rfl]) k
   ·rw[List.mem_singleton.1 hw]at k
    exact one wb (List.mem_cons_of_mem _ (List.mem_singleton.2 rfl)) (fun j=>if j=a then wa.a else if j=b then wb.a else 0) (by rw[eb,if_neg (by omega),if_pos rfl]) k
theorem Kn.hours (h:Kn g):(breaks g).2.2=0∧(0≤(breaks g).1→∃ t,Da g t∧first g t=(breaks g).1)∧(0≤(breaks g).2.1→∃ t,Da g t∧first g t=(breaks g).2.1)∧((breaks g).2.1<0→∃ t,Da g t∧first g t<0):=by
 obtain⟨p,q,e1,P,Q⟩:=h.gd.breaks
 have B:∀ t,Da g t→(first g t<0∨(0≤p∧p≤first g t))∧(q<0∨(0≤first g t∧first g t≤q)):=fun t T=>by
  have:=T.breaksT
  rw[e1]at this
  exact this.2
 rw[e1]
 refine⟨rfl,fun hp=>?_,fun hq=>?_,fun hq=>?_⟩
 ·have hp:0≤p:=hp
  rcases P with⟨m,rfl,m1,m2,m3⟩|⟨rfl,_⟩
  ·obtain⟨r,hr,hb⟩:=B5s.1 m2
   obtain⟨ys,hy,hv⟩:=h.viol hr hb
   refine⟨_,h.tr hy, ?_⟩
   have F:=My g (tOf g ys)
   have br:G8 g (tOf g ys) m=true:=(h.brk hy m1).2 ⟨r,hr,hv⟩
   have b1:=(B _ (h.tr hy)).1
   show first g (tOf g ys)=(m:Int)
   rcases F with⟨f,e,f1,f2,f3⟩|⟨e,f1⟩
   ·have:¬ m<f:=fun c=>f3 m c br
    omega
   ·exact absurd br (f1 m m1)
  ·omega
 ·have hq:0≤q:=hq
  rcases Q with⟨m,rfl,m1,m2,m3⟩|⟨rfl,_⟩
  ·show ∃ t,Da g t∧first g t=(m:Int)
   by_cases z:m=0
   ·obtain⟨t,T⟩:=h.some
    have:=(B t T).2
    exact⟨t,T,by omega⟩
   ·have k:Yz g (known g).1 (m-1):=Classical.byContradiction fun c=>m3 (m-1) (by omega) c
    obtain⟨ys,hy,hv⟩:=(h.gd.kIff (m-1)).1 k
    refine⟨_,h.tr hy, ?_⟩
    have b2:=(B _ (h.tr hy)).2
    have F:=My g (tOf g ys)
    rcases F with⟨f,e,f1,f2,f3⟩|⟨e,f1⟩
    ·have:¬ f≤m-1:=fun c=>by
      obtain⟨r,hr,nk⟩:=(h.brk hy f1).1 f2
      exact nk (hv f c r hr)
     omega
    ·omega
  ·omega
 ·have hq:q<0:=hq
  rcases Q with⟨m,rfl,m1,m2,m3⟩|⟨rfl,k⟩
  ·omega
  ·have k:Yz g (known g).1 72:=Classical.byContradiction fun c=>k 72 (by omega) c
   obtain⟨ys,hy,hv⟩:=(h.gd.kIff 72).1 k
   refine⟨_,h.tr hy, ?_⟩
   have F:=My g (tOf g ys)
   rcases F with⟨f,e,f1,f2,f3⟩|⟨e,f1⟩
   ·obtain⟨r,hr,nk⟩:=(h.brk hy f1).1 f2
    exact absurd (hv f f1 r hr) nk
   ·omega
end
structure A98 (g:Cv)(truth:List Int)(n0:Nat):Prop where
 nl:n0≤g.Acts.length
 len:n0≤truth.length
 l10:g.Acts.length≤10
 m:∀ u,u<n0→1≤truth.getD u 0∧truth.getD u 0≤1000000
 spot:∀ u,u<n0→0≤(g.Acts.getD u default).Spot∧(g.Acts.getD u default).Spot<g.Spots.length
theorem A98.zip {g:Cv}{truth:List Int}{n0:Nat}(h:A98 g truth n0){u:Nat}(hu:u<n0):(g.Acts.zip truth).getD u default=(g.Acts.getD u default,truth.getD u 0):=by
 have h1:u<g.Acts.length:=by have:=h.nl;omega
 have h2:u<truth.length:=by have:=h.len;omega
 have h3:u<(g.Acts.zip truth).length:=by rw[List.length_zip];omega
 rw[List.getD,List.getElem?_eq_getElem h3,List.getElem_zip]
 simp[List.getD,h1,h2]
theorem A3H {g:Cv}{truth:List Int}{n0:Nat}(f:A98 g truth n0)(fit:∀ spot u,u≤n0→Cx spot (g.Acts.zip truth) u≤Cw spot (g.Acts.zip truth) u):∀ n,n≤n0→B38 g truth n (Cf g truth n)
 | 0,_=>by
  have hz:∀ j,(List.replicate g.Acts.length (0:Int)).getD j 0=0:=fun j=>by
   simp only[List.getD,List.getElem?_replicate]
   split <;> rfl
  refine⟨by simp[Cf],by simp[Cf],fun j hj=>?_,fun j=>?_,fun j _=>hz j,fun j _=>hz j,fun spot j hj=>?_⟩
  ·show (List.replicate g.Spots.length (-1:Int)).getD j 0 = -1
   simp[List.getD,hj]
  ·show 0≤(List.replicate g.Acts.length (0:Int)).getD j 0∧(List.replicate g.Acts.length (0:Int)).getD j 0≤1000000
   rw[hz];omega
  ·obtain rfl:j=0:=by omega
   show (0:Int)=max 0 (0-0)
   omega
 | n+1,h=>by
  have I:=A3H f fit n (by omega)
  rw[Mw]
  generalize Cf g truth n=d at I
  have hm:=f.m n (by omega)
  have hsp:=f.spot n (by omega)
  have hlen:=I.len
  have hzg:=f.zip (show n<n0 by omega)
  have hn0:=f.nl
  unfold Mv
  by_cases c:(g.Acts.getD n default).Take=true
  ·rw[if_pos c]
   have T:=A4O (A:=g.Acts) (spot:=(g.Acts.getD n default).Spot) (t:=truth.getD n 0) (l0:=d.left) (by omega) I.bd I.tk n (by omega)
   generalize Se g.Acts (g.Acts.getD n default).Spot n (truth.getD n 0,d.left)=s at T
   refine⟨by rw[← I.len];exact T.len,I.last,fun j hj=>?_,fun j=>?_,fun j hj=>?_,fun j hj=>?_,fun spot j hj=>?_⟩
   ·dsimp only
    rw[I.lst j hj,If,if_neg (fun q=>by rw[c]at q;cases q.2)]
   ·have:=T.bd j;have:=I.bd j;dsimp only;omega
   ·have:=T.rest j (by omega)
    dsimp only
    rw[this];exact I.zero j (by omega)
   ·have:=T.bd j;have:=I.tk j hj;dsimp only;omega
   ·have ht:∀ j,j≤n→H9 g.Acts s.2 spot j=max 0 (Cw spot (g.Acts.zip truth) j-Cx spot (g.Acts.zip truth) (n+1)):=by
     intro j hj
     rw[Cx,hzg]
     dsimp only
     have i1:=I.sum spot j hj
     by_cases e:(g.Acts.getD n default).Spot=spot
     ·subst e
      rw[if_pos ⟨rfl,c⟩,T.sum j hj,i1]
      omega
     ·rw[if_neg (fun q=>e q.1),Jq (m:=d.left) j fun k hk hs=>T.other k (by rw[hs];exact fun q=>e q.symm),i1]
      omega
    dsimp only
    by_cases ej:j=n+1
    ·subst ej
     rw[H9,ht n (Nat.le_refl _),T.rest n (Nat.le_refl _),I.zero n (Nat.le_refl _),Cw,hzg]
     dsimp only
     have e2:¬ ((g.Acts.getD n default).Spot=spot∧(g.Acts.getD n default).Take=false):=fun q=>by rw[c]at q;cases q.2
     rw[if_neg e2]
     split <;> omega
    ·exact ht j (by omega)
  ·rw[if_neg c]
   have c':(g.Acts.getD n default).Take=false:=by simpa using c
   refine⟨by simp[I.len],by simp[I.last],fun j hj=>?_,fun j=>?_,fun j hj=>?_,fun j hj=>?_,fun spot j hj=>?_⟩
   ·dsimp only
    have hil:=I.last
    rw[El,If,I.lst j hj]
    by_cases e:(g.Acts.getD n default).Spot.toNat=j
    ·rw[if_pos ⟨e,by omega⟩,if_pos ⟨by omega,c'⟩]
    ·rw[if_neg (fun q=>e q.1),if_neg (fun q=>by have:=q.1;omega)]
   ·dsimp only
    rw[El]
    split
    ·omega
    ·exact I.bd j
   ·dsimp only
    rw[El,if_neg (by omega)];exact I.zero j (by omega)
   ·dsimp only
    rw[El,if_neg (fun q=>by rw[q.1]at c';rw[hj]at c';cases c')];exact I.tk j hj
   ·dsimp only
    have ht:∀ j,j≤n→H9 g.Acts (d.left.set n (truth.getD n 0)) spot j=max 0 (Cw spot (g.Acts.zip truth) j-Cx spot (g.Acts.zip truth) (n+1)):=by
     intro j hj
     rw[Jq (m:=d.left) j fun k hk hs=>by rw[El,if_neg (by omega)],I.sum spot j hj,Cx,hzg]
     dsimp only
     rw[if_neg (fun q=>by rw[c']at q;cases q.2)]
     omega
    by_cases ej:j=n+1
    ·subst ej
     rw[H9,ht n (Nat.le_refl _),El,if_pos (show n=n∧n<d.left.length from⟨rfl,by omega⟩),Cw,hzg]
     dsimp only
     have fi:=fit spot n (by omega)
     have ek:Cx spot (g.Acts.zip truth) (n+1)=Cx spot (g.Acts.zip truth) n:=by
      rw[Cx,hzg]
      dsimp only
      rw[if_neg (fun q=>by rw[c']at q;cases q.2)]
      omega
     by_cases e:(g.Acts.getD n default).Spot=spot
     ·rw[if_pos e,if_pos ⟨e,c'⟩];omega
     ·rw[if_neg e,if_neg (fun q=>e q.1)];omega
    ·exact ht j (by omega)
theorem A7P {g:Cv}{truth:List Int}{n0:Nat}(f:A98 g truth n0)(fit:∀ spot u,u≤n0→Cx spot (g.Acts.zip truth) u≤Cw spot (g.Acts.zip truth) u){n:Nat}(hn:n≤n0)(spot:Int) :
  (Cf g truth n).mass g spot=Cw spot (g.Acts.zip truth) n-Cx spot (g.Acts.zip truth) n:=by
 have I:=A3H f fit n hn
 have h10:=f.l10
 have hn0:=f.nl
 unfold M4.mass
 rw[(Xl I.bd _ (by rw[I.len];omega)).1,I.len]
 have hx:∀ k,n+k≤g.Acts.length→H9 g.Acts (Cf g truth n).left spot (n+k)=H9 g.Acts (Cf g truth n).left spot n:=by
  intro k
  induction k with
  | zero=>intro _;rfl
  | succ k ih =>
   intro hk
   rw[← Nat.add_assoc,H9,ih (by omega),I.zero (n+k) (by omega)]
   split <;> omega
 have:=hx (g.Acts.length-n) (by omega)
 rw[show n+(g.Acts.length-n)=g.Acts.length by omega]at this
 rw[this,I.sum spot n (Nat.le_refl _)]
 have:=fit spot n hn
 omega
theorem B2f {g:Cv}(ok:Ok g):B5 72 g.Acts=g.Acts.length:=A0n fun a ha=>by
 obtain⟨u,hu,rfl⟩:=List.getElem_of_mem ha
 have:=ok.hour hu
 rw[List.getD_eq_getElem?_getD,List.getElem?_eq_getElem hu]at this
 exact this.2
def B4b (g:Cv)(l:List Int):Int:=(Ct g l l.length 72).mass g (g.Acts.getD l.length default).Spot
def Rd (g:Cv)(l:List Int)(n:Int):Bool:=!((g.Acts.getD l.length default).Take && decide (B4b g l<n))
def Pr (cap:Int→Bool):Nat→Int→List Int
 | 0,_=>[]
 | k+1,n=>if cap n=true then n :: Pr cap k (n+1) else []
def Sk (g:Cv)(l:List Int):List Int:=Pr (Rd g l) ((g.Acts.getD l.length default).Max-(g.Acts.getD l.length default).Min+1).toNat (g.Acts.getD l.length default).Min
def trS (g:Cv):Nat→List Int→List (List Int)
 | 0,l=>[l]
 | k+1,l=>(Sk g l).flatMap fun n=>trS g k (l ++ [n])
theorem A0r {cap:Int→Bool}(hc:∀ a b:Int,a≤b→cap b=true→cap a=true){x:Int}:∀ (k:Nat)(n:Int),x∈Pr cap k n↔n≤x∧x<n+k∧cap x=true
 | 0,n=>⟨(fun h=>by cases h),fun ⟨h1,h2,_⟩=>by omega⟩
 | k+1,n=>by
  rw[Pr]
  by_cases c:cap n=true
  ·rw[if_pos c,List.mem_cons,A0r hc k (n+1)]
   constructor
   ·rintro(rfl|⟨h1,h2,h3⟩)
    ·exact⟨Int.le_refl _,by omega,c⟩
    ·exact⟨by omega,by omega,h3⟩
   ·rintro⟨h1,h2,h3⟩
    by_cases e:x=n
    ·exact .inl e
    ·exact .inr ⟨by omega,by omega,h3⟩
  ·rw[if_neg c]
   exact⟨(fun h=>by cases h),fun ⟨h1,h2,h3⟩=>absurd (hc n x h1 h3) c⟩
theorem A0s (g:Cv)(l:List Int)(hm:(g.Acts.getD l.length default).Min≤(g.Acts.getD l.length default).Max){x:Int}:x∈Sk g l↔(g.Acts.getD l.length default).Min≤x∧x≤(g.Acts.getD l.length default).Max∧((g.Acts.getD l.length default).Take=true→x≤B4b g l):=by
 have hc:∀ a b:Int,a≤b→Rd g l b=true→Rd g l a=true:=fun a b hab h=>by
  unfold Rd at h ⊢
  rw[Bool.not_eq_true',Bool.and_eq_false_iff,decide_eq_false_iff_not]at h ⊢
  rcases h with h|h
  ·exact .inl h
  ·exact .inr (by omega)
 unfold Sk
 rw[A0r hc]
 have e:Rd g l x=true↔((g.Acts.getD l.length default).Take=true→x≤B4b g l):=by
  unfold Rd
  rw[Bool.not_eq_true',Bool.and_eq_false_iff,decide_eq_false_iff_not]
  constructor
  ·rintro(h|h) ht
   ·rw[h]at ht;cases ht
   ·omega
  ·intro h
   cases t:(g.Acts.getD l.length default).Take with
   | false=>exact .inl rfl
   | true=>exact .inr (by have:=h t;omega)
 rw[e]
 exact⟨fun ⟨h1,h2,h3⟩=>⟨h1,by omega,h3⟩,fun ⟨h1,h2,h3⟩=>⟨h1,by omega,h3⟩⟩
theorem A3I {A:List E8}{l t:List Int}(h:t.take l.length=l){u:Nat}(hu:u<l.length)(hA:u<A.length)(ht:u<t.length):(A.zip l).getD u default=(A.zip t).getD u default:=by
 have e1:u<(A.zip l).length:=by rw[List.length_zip];omega
 have e2:u<(A.zip t).length:=by rw[List.length_zip];omega
 rw[List.getD,List.getElem?_eq_getElem e1,List.getElem_zip,List.getD,List.getElem?_eq_getElem e2,List.getElem_zip]
 have:l[u]=t[u]:=by
  have:l[u]? = t[u]?:=by
   conv=>lhs;rw[← h]
   rw[List.getElem?_take,if_pos hu]
  rw[List.getElem?_eq_getElem hu,List.getElem?_eq_getElem ht]at this
  exact Option.some.inj this
 simp[this]
theorem Sn {A:List E8}{l t:List Int}(h:t.take l.length=l)(spot:Int):∀ u,u≤l.length→u≤A.length→u≤t.length→Cw spot (A.zip l) u=Cw spot (A.zip t) u∧Cx spot (A.zip l) u=Cx spot (A.zip t) u
 | 0,_,_,_=>⟨rfl,rfl⟩
 | u+1,h1,h2,h3=>by
  obtain⟨a,b⟩:=Sn (A:=A) h spot u (by omega) (by omega) (by omega)
  rw[Cw,Cw,Cx,Cx,a,b,A3I h (by omega) (by omega) (by omega)]
  exact⟨rfl,rfl⟩
theorem B2g {g:Cv}(ok:Ok g){l:List Int}(hl:l.length≤g.Acts.length)(h:∀ u,u<l.length→TAt g l u)(spot:Int):(Ct g l l.length 72).mass g spot=Cw spot (g.Acts.zip l) l.length-Cx spot (g.Acts.zip l) l.length:=by
 have e:Ct g l l.length 72=Cf g l l.length:=by
  unfold Ct
  rw[B2f ok,Nat.min_eq_left hl]
 have F:A98 g l l.length:=⟨hl,Nat.le_refl _,ok.acts,fun u hu=>by
  have:=h u hu
  have:=ok.mas (k:=u) (by omega)
  have:=this.1
  have:=(h u hu).lo
  have:=(h u hu).hi
  omega,fun u hu=>by
  obtain⟨_,A⟩:=ok.at (u:=u) (by omega)
  exact A.s⟩
 have fit:∀ spot u,u≤l.length→Cx spot (g.Acts.zip l) u≤Cw spot (g.Acts.zip l) u:=fun spot u=>by
  induction u with
  | zero=>intro _;exact Int.le_refl _
  | succ u ih =>
   intro hu
   have ih:=ih (by omega)
   have q:=h u (by omega)
   have m:=ok.mas (k:=u) (by omega)
   rw[Cw,Cx,F.zip (by omega)]
   dsimp only
   by_cases c:(g.Acts.getD u default).Spot=spot
   ·by_cases t:(g.Acts.getD u default).Take=true
    ·have qt:=q.tk t
     rw[c]at qt
     rw[if_pos ⟨c,t⟩,if_neg (fun q=>by rw[t]at q;cases q.2)]
     omega
    ·have:=q.lo
     rw[if_neg (fun q=>t q.2),if_pos ⟨c,by simpa using t⟩]
     omega
   ·rw[if_neg (fun q=>c q.1),if_neg (fun q=>c q.1)]
    omega
 rw[e]
 exact A7P F fit (Nat.le_refl _) spot
theorem TAt.take {g:Cv}{l t:List Int}(h:t.take l.length=l)(hA:l.length≤g.Acts.length)(ht:l.length≤t.length){u:Nat}(hu:u<l.length):TAt g l u↔TAt g t u:=by
 have e:l.getD u 0=t.getD u 0:=by
  conv=>lhs;rw[← h]
  simp[List.getD,List.getElem?_take,hu]
 obtain⟨a,b⟩:=Sn (A:=g.Acts) h (g.Acts.getD u default).Spot u (by omega) (by omega) (by omega)
 constructor
 ·rintro⟨p,q,r⟩
  exact⟨by rw[← e];exact p,by rw[← e];exact q,fun x=>by rw[← e,← a,← b];exact r x⟩
 ·rintro⟨p,q,r⟩
  exact⟨by rw[e];exact p,by rw[e];exact q,fun x=>by rw[e,a,b];exact r x⟩
theorem A1T {g:Cv}(ok:Ok g){t:List Int}:∀ (k:Nat)(l:List Int),l.length+k=g.Acts.length→(∀ u,u<l.length→TAt g l u)→(t∈trS g k l↔t.length=g.Acts.length∧t.take l.length=l∧∀ u,u<g.Acts.length→TAt g t u)
 | 0,l,hl,h=>by
  rw[trS,List.mem_singleton]
  constructor
  ·rintro rfl
   exact⟨by omega,by rw[List.take_length],fun u hu=>h u (by omega)⟩
  ·rintro⟨h1,h2,_⟩
   rw[← h2,List.take_of_length_le (by omega)]
 | k+1,l,hl,h=>by
  have hm:=ok.mas (k:=l.length) (by omega)
  rw[trS,List.mem_flatMap]
  have lie:=B2g ok (l:=l) (by omega) h (g.Acts.getD l.length default).Spot
  have grow:∀ n,n∈Sk g l→∀ u,u<(l ++ [n]).length→TAt g (l ++ [n]) u:=fun n hn u hu=>by
   rw[List.length_append,List.length_singleton]at hu
   by_cases e:u<l.length
   ·exact(TAt.take (l:=l) (t:=l ++ [n]) (by rw[List.take_left'];rfl) (by omega) (by simp) e).1 (h u e)
   ·have e:u=l.length:=by omega
    subst e
    obtain⟨c1,c2,c3⟩:=(A0s g l hm.2.1).1 hn
    have gl:(l ++ [n]).getD l.length 0=n:=by simp[List.getD]
    obtain⟨a,b⟩:=Sn (A:=g.Acts) (l:=l) (t:=l ++ [n]) (by rw[List.take_left'];rfl) (g.Acts.getD l.length default).Spot l.length (Nat.le_refl _) (by omega) (by simp)
    refine⟨by rw[gl];exact c1,by rw[gl];exact c2,fun ht=>?_⟩
    rw[gl,← a,← b,← lie]
    exact c3 ht
  constructor
  ·rintro⟨n,hn,ht⟩
   obtain⟨q1,q2,q3⟩:=(A1T ok k (l ++ [n]) (by rw[List.length_append,List.length_singleton];omega) (grow n hn)).1 ht
   refine⟨q1, ?_,q3⟩
   have:=congrArg (List.take l.length) q2
   rw[List.take_take,List.take_left' rfl,List.length_append,List.length_singleton,Nat.min_eq_left (by omega)]at this
   exact this
  ·rintro⟨q1,q2,q3⟩
   have hlt:l.length<t.length:=by omega
   have en:t.take (l.length+1)=l ++ [t.getD l.length 0]:=by
    rw[List.take_add_one,q2]
    simp[List.getD,hlt]
   obtain⟨a,b⟩:=Sn (A:=g.Acts) q2 (g.Acts.getD l.length default).Spot l.length (Nat.le_refl _) (by omega) (by omega)
   have z:=q3 l.length (by omega)
   have hn:t.getD l.length 0∈Sk g l:=(A0s g l hm.2.1).2 ⟨z.lo,z.hi,fun ht=>by
    have:=z.tk ht
    rw[← a,← b,← lie]at this
    exact this⟩
   refine⟨_,hn,(A1T ok k (l ++ [t.getD l.length 0]) (by rw[List.length_append,List.length_singleton];omega) (grow _ hn)).2 ⟨q1, ?_,q3⟩⟩
   rw[List.length_append,List.length_singleton]
   exact en
def J8 (g:Cv):List (List Int):=trS g g.Acts.length []
theorem So {g:Cv}(ok:Ok g)(ck:check g=0){t:List Int}:t∈J8 g↔Da g t:=by
 unfold J8
 rw[A1T ok g.Acts.length [] (by simp) (fun u hu=>by cases hu)]
 constructor
 ·rintro⟨h1,_,h3⟩
  exact A3G ok ck h1 h3
 ·intro T
  exact⟨T.len,rfl,fun u hu=>T.tAt hu⟩
end Go.Proofs.Swa
