/- Part 6. -/
import Derived.Test.YtkjcijlaehflhaaP05
set_option linter.unusedVariables false
set_option linter.unusedSimpArgs false
namespace Go.Proofs.Swa
open Go
abbrev uv (n:Int):Value:=.int .u64 n
def fS0 (x:Int):Int:=if x=0 then 1 else x
def fS1 (x:Int):Int:=A9d .u64 x (B3F .u64 x 13)
def fS2 (x:Int):Int:=A9d .u64 x (A9e .u64 x 7)
def fS3 (x:Int):Int:=A9d .u64 x (B3F .u64 x 17)
def fSt (x:Int):Int:=fS3 (fS2 (fS1 (fS0 x)))
def A7G (x:Int):Int:=IntKind.u64.wrap (fSt x*2685821657736338717)
def Cm (x n:Int):Int:=if n<2 then 0 else IntKind.i64.wrap ((A9e .u64 (A7G x) 8).tmod n)
def Cb (x n:Int):Int:=if n<2 then x else fSt x
theorem B36 {n:Int}(h0:0≤n)(h1:n<18446744073709551616):IntKind.u64.wrap n=n:=by
 show (if (false && decide (n % (2 ^ 64:Int) ≥ (2 ^ 63:Int)))=true then n % (2 ^ 64:Int)-(2 ^ 64:Int) else n % (2 ^ 64:Int))=n
 simp only[Bool.false_and,Bool.false_eq_true,if_false]
 omega
theorem B37 (n:Int):0≤IntKind.u64.wrap n∧IntKind.u64.wrap n<18446744073709551616:=by
 show 0≤(if (false && decide (n % (2 ^ 64:Int) ≥ (2 ^ 63:Int)))=true then n % (2 ^ 64:Int)-(2 ^ 64:Int) else n % (2 ^ 64:Int))∧(if (false && decide (n % (2 ^ 64:Int) ≥ (2 ^ 63:Int)))=true then n % (2 ^ 64:Int)-(2 ^ 64:Int) else n % (2 ^ 64:Int))<_
 simp only[Bool.false_and,Bool.false_eq_true,if_false]
 omega
theorem Dw (x n:Int)(hn:n<9223372036854775808):0≤Cm x n∧(0<n→Cm x n<n)∧(n≤0→Cm x n=0):=by
 unfold Cm
 split
 ·refine⟨by omega,fun _=>by omega,fun _=>rfl⟩
 ·have h1:=B37 (fSt x*2685821657736338717)
  have h2:0≤A9e .u64 (A7G x) 8:=by
   show 0≤(A7G x).fdiv 256
   exact Int.fdiv_nonneg h1.1 (by omega)
  have h3:=Int.tmod_lt_of_pos (A9e .u64 (A7G x) 8) (show (0:Int)<n by omega)
  have h4:=Int.tmod_nonneg n h2
  rw[H4 (by omega) (by omega)]
  exact⟨h4,fun _=>h3,fun _=>by omega⟩
def Tp (lo hi:Int):Int:=Dz (Dz (hi-lo)+1)
def Mt (x lo hi:Int):Int:=Dz (lo+Cm x (Tp lo hi))
def Iz (x lo hi:Int):Int:=Cb x (Tp lo hi)
theorem A0g (lo hi:Int):Tp lo hi<9223372036854775808:=W0 _
def D1 (x:Int)(l:List Int):Int:=if l.length=0 then 0 else l.getD (Cm x l.length).toNat 0
def Ej (x:Int)(l:List Int):Int:=if l.length=0 then x else Cb x l.length
def B6S (st n:Int):Int:=fSt (A9d .u64 st (IntKind.u64.wrap (IntKind.u64.wrap n*15485907386658061715)))
def Mb (l:List Int):Int:=l.foldl B6S 88172645463325252
def A0h (x:Int):Spo×Int:=(⟨Cm x 8,Cm (Cb x 8) 4,Mt (Cb (Cb x 8) 4) 1 4⟩,Iz (Cb (Cb x 8) 4) 1 4)
def Of:Nat→Int→List Spo→List Spo×Int
 | 0,x,l=>(l,x)
 | n+1,x,l=>Of n (A0h x).2 (l ++ [(A0h x).1])
def A3p (mass hours x:Int):Srt×Int :=
 let h:=[100,min 1000 (Dz (Mt x 1 100*max 1 (Dz (mass.tdiv 20))))]
 let x1:=Iz x 1 100
 let x2:=Ej x1 h
 let x3:=Ej x2 [1,2,50,100]
 let x4:=Cb x3 6
 let x5:=Ej x4 [0,Cm x3 6]
 let x6:=Cb x5 (Dz (hours+1))
 (⟨D1 x1 h,D1 x2 [1,2,50,100],D1 x4 [0,Cm x3 6],D1 x6 [72,Cm x5 (Dz (hours+1))]⟩,Ej x6 [72,Cm x5 (Dz (hours+1))])
def Og (mass hours:Int):Nat→Int→List Srt→List Srt×Int
 | 0,x,l=>(l,x)
 | n+1,x,l=>Og mass hours n (A3p mass hours x).2 (l ++ [(A3p mass hours x).1])
structure Qf where
 x:Int
 hour:Int
 lies:List Int
 acts:List E8
 truth:List Int
def Ld (mass n x:Int):Rng×Int :=
 let m:=max 2 (Dz (mass.tdiv 3))
 let x1:=Cb x m
 let x2:=Ej x1 [0,Cm x m]
 let x3:=Cb x2 m
 (⟨max 1 (Dz (n-D1 x1 [0,Cm x m])),Dz (n+D1 x3 [0,Cm x2 m])⟩,Ej x3 [0,Cm x2 m])
def Qf.step (spots sorts:Nat)(mass hours:Int)(s:Qf):Qf :=
 let x1:=Cb s.x 4
 let x2:=Ej x1 [0,1,Cm s.x 4]
 let hour:=min 72 (min hours (Dz (s.hour+D1 x1 [0,1,Cm s.x 4])))
 let spot:=Cm x2 spots
 let x3:=Cb x2 spots
 let kind:=Cm x3 sorts
 let x4:=Cb x3 sorts
 let n:=Mt x4 1 mass
 let x5:=Iz x4 1 mass
 let lie:=s.lies.getD spot.toNat 0
 let x6:=if 0<lie then Cb x5 5 else x5
 if 0<lie∧Cm x5 5<2 then
  let x7:=Iz x6 1 lie
  let l:=[lie,Mt x6 1 lie]
  let k:=D1 x7 l
  let r:=Ld mass k (Ej x7 l)
  ⟨r.2,hour,s.lies.set spot.toNat (Dz (lie-k)),s.acts ++ [⟨hour,spot,0,r.1.Min,r.1.Max,true⟩],s.truth ++ [k]⟩
 else
  let r:=Ld mass n x6
  ⟨r.2,hour,s.lies.set spot.toNat (Dz (lie+n)),s.acts ++ [⟨hour,spot,kind,r.1.Min,r.1.Max,false⟩],s.truth ++ [n]⟩
def Qf.run (spots sorts:Nat)(mass hours:Int):Nat→Qf→Qf
 | 0,s=>s
 | n+1,s=>Qf.run spots sorts mass hours n (s.step spots sorts mass hours)
structure A9P where
 g:Cv
 truth:List Int
 x:Int
def Es (x spots sorts acts mass hours:Int):A9P :=
 let a:=Of (Mt x 1 spots).toNat (Iz x 1 spots) []
 let b:=Og mass hours (Mt a.2 1 sorts).toNat (Iz a.2 1 sorts) []
 let s:=Qf.run a.1.length b.1.length mass hours (Cm b.2 (Dz (acts+1))).toNat ⟨Cb b.2 (Dz (acts+1)),0,List.replicate a.1.length 0,[],[]⟩
 ⟨⟨a.1,b.1,s.acts⟩,s.truth,s.x⟩
theorem J2 {x lo hi:Int}(h1:-1000000000≤lo)(h2:lo≤hi)(h3:hi≤1000000000):lo≤Mt x lo hi∧Mt x lo hi≤hi:=by
 have e1:Tp lo hi=hi-lo+1:=by
  unfold Tp Dz
  rw[H4 (x:=hi-lo) (by omega) (by omega),H4 (by omega) (by omega)]
 have h:=Dw x (Tp lo hi) (A0g _ _)
 rw[e1]at h
 have h4:=h.2.1 (by omega)
 unfold Mt Dz
 rw[e1,H4 (by omega) (by omega)]
 omega
theorem El {l:List Int}{n m:Nat}{v:Int}:(l.set n v).getD m 0=if n=m∧n<l.length then v else l.getD m 0:=by
 simp only[List.getD]
 by_cases h:n=m
 ·subst h
  by_cases hl:n<l.length
  ·simp[hl]
  ·simp[hl]
 ·rw[List.getElem?_set_ne h,if_neg (fun hh=>h hh.1)]
def Vt (T:Nat→Nat→Int)(a b:Nat)(m:Int)(i k:Nat):Int :=
 if T i a<far∧T b k<far then min (T i k) (Dz (Dz (T i a+m)+T b k)) else T i k
theorem B17 {s:List Int}{a b:Nat}{m:Int}{i k i' k':Nat}{out:List Int}(hl:out.length=121)(hi:i<11)(hk:k<11)(hk':k'<11) :
  mat (kIn s a b m i out k) i' k'=if i'=i∧k'=k∧mat s i a<far∧mat s b k<far then min (mat out i k) (Dz (Dz (mat s i a+m)+mat s b k)) else mat out i' k':=by
 unfold kIn
 by_cases hc:mat s i a<far∧mat s b k<far
 ·rw[if_pos hc]
  unfold mat at hc ⊢
  rw[El]
  by_cases e:i'=i∧k'=k
  ·obtain⟨rfl,rfl⟩:=e
   rw[if_pos ⟨rfl,by omega⟩,if_pos ⟨rfl,rfl,hc⟩]
  ·rw[if_neg (by omega),if_neg (by omega)]
 ·rw[if_neg hc,if_neg (by omega)]
theorem A9Q {s:List Int}{a b:Nat}{m:Int}{i i' k':Nat}{out:List Int}(hl:out.length=121)(hi:i<11)(hk':k'<11)(n:Nat)(hn:n≤11) :
  mat (Xg s a b m i out n) i' k'=if i'=i∧k'<n∧mat s i a<far∧mat s b k'<far then min (mat out i k') (Dz (Dz (mat s i a+m)+mat s b k')) else mat out i' k':=by
 induction n with
 | zero =>
  have:Xg s a b m i out 0=out:=rfl
  rw[this,if_neg (by omega)]
 | succ n ih =>
  have ih:=ih (by omega)
  rw[Nk,B17 (by rw[Xh,hl]) hi (by omega) hk']
  by_cases e:i'=i∧k'=n
  ·obtain⟨rfl,rfl⟩:=e
   rw[if_neg (by omega)]at ih
   by_cases hc:mat s i' a<far∧mat s b k'<far
   ·rw[if_pos ⟨rfl,rfl,hc⟩,if_pos ⟨rfl,by omega,hc⟩,ih]
   ·rw[if_neg (by omega),if_neg (by omega),ih]
  ·rw[if_neg (by omega),ih]
   by_cases hc:i'=i∧k'<n∧mat s i a<far∧mat s b k'<far
   ·rw[if_pos hc,if_pos (by omega)]
   ·rw[if_neg hc,if_neg (by omega)]
theorem A9R {s:List Int}{a b:Nat}{m:Int}{i' k':Nat}(hl:s.length=121)(hk':k'<11)(n:Nat)(hn:n≤11) :
  mat (Pb s a b m n) i' k'=if i'<n then Vt (mat s) a b m i' k' else mat s i' k':=by
 induction n with
 | zero =>
  have:Pb s a b m 0=s:=rfl
  rw[this,if_neg (by omega)]
 | succ n ih =>
  have ih:=ih (by omega)
  rw[Tm,A9Q (by rw[R4,hl]) (by omega) hk' 11 (by omega)]
  by_cases e:i'=n
  ·subst e
   rw[if_neg (by omega)]at ih
   rw[ih,if_pos (by omega:i'<i'+1)]
   unfold Vt
   by_cases hc:mat s i' a<far∧mat s b k'<far
   ·rw[if_pos ⟨rfl,by omega,hc⟩,if_pos hc]
   ·rw[if_neg (by omega),if_neg hc]
  ·rw[if_neg (by omega),ih]
   by_cases h:i'<n
   ·rw[if_pos h,if_pos (by omega)]
   ·rw[if_neg h,if_neg (by omega)]
set_option maxRecDepth 100000 in
theorem A7H {i k:Nat}(hi:i<11)(hk:k<11):A0f.mat i k=if i=k then 0 else far:=by
 have h:((List.range 11).all fun i=>(List.range 11).all fun k=>decide (mat (Q7 11) i k=if i=k then 0 else far))=true:=by decide +kernel
 rw[List.all_eq_true]at h
 have h:=h i (by simpa using hi)
 rw[List.all_eq_true]at h
 exact of_decide_eq_true (h k (by simpa using hk))
theorem Kz {s:E1}{a b:Nat}{m:Int}(h1:¬ Dz (s.mat b a+m)<0)(h2:¬ s.mat a b≤m):(s.know a b m).2=true∧∀ i k,i<11→k<11→(s.know a b m).1.mat i k=Vt s.mat a b m i k:=by
 have e:Swa.know s.1 a b m=(Pb s.1 a b m 11,true):=by
  unfold Swa.know
  have h1':¬ Dz (mat s.1 b a+m)<0:=h1
  have h2':¬ mat s.1 a b≤m:=h2
  rw[if_neg h1',if_neg h2']
 refine⟨?_,fun i k hi hk=>?_⟩
 ·show (Swa.know s.1 a b m).2=true
  rw[e]
 ·show mat (Swa.know s.1 a b m).1 i k=_
  rw[e]
  show mat (Pb s.1 a b m 11) i k=_
  rw[A9R s.2 hk 11 (by omega),if_pos hi]
  rfl
theorem P9 {s:E1}{a b:Nat}{m:Int}(h1:¬ Dz (s.mat b a+m)<0)(h2:s.mat a b≤m):s.know a b m=(s,true):=by
 have e:Swa.know s.1 a b m=(s.1,true):=by
  unfold Swa.know
  have h1':¬ Dz (mat s.1 b a+m)<0:=h1
  have h2':mat s.1 a b≤m:=h2
  rw[if_neg h1',if_pos h2']
 unfold E1.know
 congr 1
 ·apply Subtype.ext
  show (Swa.know s.1 a b m).1=s.1
  rw[e]
 ·rw[e]
structure Tab (T:Nat→Nat→Int)(n:Nat)(x:Nat→Int):Prop where
 n10:n≤10
 hi:∀ a b,a≤n→b≤n→T a b≤n*1000000
 out:∀ a b,a<11→b<11→n<a∨n<b→a≠b→T a b=far
 diag:∀ a,a<11→T a a=0
 sat:∀ a b,a≤n→b≤n→x b-x a≤T a b
 tri:∀ a b c,a≤n→b≤n→c≤n→T a c≤T a b+T b c
 x0:∀ a,a≤n→0≤x a
 x1:∀ a,a≤n→x a≤n*1000000
theorem Tab.lt {T:Nat→Nat→Int}{n:Nat}{x:Nat→Int}(h:Tab T n x){a b:Nat}(ha:a≤n)(hb:b≤n):T a b≤10000000∧-10000000≤T a b:=by
 have h1:=h.hi a b ha hb
 have h2:=h.sat a b ha hb
 have h3:=h.x0 b hb
 have h4:=h.x1 a ha
 have:=h.n10
 omega
theorem Cu {x:Int}(h1:-9223372036854775808≤x)(h2:x≤9223372036854775807):Dz x=x:=H4 h1 (by omega)
theorem Tab.more {s:E1}{n:Nat}{x:Nat→Int}(h:Tab s.mat n x){a b:Nat}{m:Int}(ha:a≤n)(hb:b≤n)(hm:x b-x a≤m)(m1:-1000000≤m)(m2:m≤1000000) :
  (s.know a b m).2=true∧Tab (s.know a b m).1.mat n x∧(∀ i k,i≤n→k≤n→(s.know a b m).1.mat i k≤s.mat i k)∧(s.know a b m).1.mat a b≤m:=by
 have n10:=h.n10
 have hba:=h.lt hb ha
 have hsba:=h.sat b a hb ha
 have c1:¬ Dz (s.mat b a+m)<0:=by rw[Cu (by omega) (by omega)];omega
 by_cases c2:s.mat a b≤m
 ·rw[P9 c1 c2]
  exact⟨rfl,h,fun _ _ _ _=>Int.le_refl _,c2⟩
 ·obtain⟨k1,k2⟩:=Kz c1 c2
  generalize (s.know a b m).1=s' at k2
  have up:∀ i k,i≤n→k≤n→s'.mat i k=min (s.mat i k) (s.mat i a+m+s.mat b k):=by
   intro i k hi hk
   have q1:=h.lt hi ha
   have q2:=h.lt hb hk
   rw[k2 i k (by omega) (by omega),Vt,if_pos ⟨by unfold far;omega,by unfold far;omega⟩,Cu (x:=s.mat i a+m) (by omega) (by omega),Cu (by omega) (by omega)]
  have daa:=h.diag a (by omega)
  have dbb:=h.diag b (by omega)
  refine⟨k1,⟨n10,fun i k hi hk=>?_,fun i k hi hk ho hne=>?_,fun i hi=>?_,fun i k hi hk=>?_,fun i j k hi hj hk=>?_,h.x0,h.x1⟩,fun i k hi hk=>?_, ?_⟩
  ·rw[up i k hi hk];have:=h.hi i k hi hk;omega
  ·rw[k2 i k hi hk,Vt,if_neg,h.out i k hi hk ho hne]
   rintro⟨q1,q2⟩
   rcases ho with ho|ho
   ·by_cases e:i=a
    ·omega
    ·rw[h.out i a hi (by omega) (.inl ho) e]at q1;omega
   ·by_cases e:b=k
    ·omega
    ·rw[h.out b k (by omega) hk (.inr ho) e]at q2;omega
  ·by_cases hin:i≤n
   ·rw[up i i hin hin,h.diag i hi]
    have:=h.sat i a hin ha
    have:=h.sat b i hb hin
    omega
   ·rw[k2 i i hi hi,Vt,if_neg,h.diag i hi]
    rintro⟨q1,q2⟩
    rw[h.out i a hi (by omega) (.inl (by omega)) (by omega)]at q1;omega
  ·rw[up i k hi hk]
   have:=h.sat i k hi hk
   have:=h.sat i a hi ha
   have:=h.sat b k hb hk
   omega
  ·rw[up i k hi hk,up i j hi hj,up j k hj hk]
   have t1:=h.tri i j k hi hj hk
   have t2:=h.tri b j k hb hj hk
   have t3:=h.tri i j a hi hj ha
   have t4:=h.tri b j a hb hj ha
   omega
  ·rw[up i k hi hk];omega
  ·rw[up a b ha hb];omega
theorem Tab.add {s:E1}{n:Nat}{x:Nat→Int}(h:Tab s.mat n x)(hn:n<10){p:Nat}{lo hi t:Int}(hp:p≤n)(l1:1≤lo)(l2:lo≤t)(l3:t≤hi)(l4:hi≤1000000) :
  (s.know p (n+1) hi).2=true∧((s.know p (n+1) hi).1.know (n+1) p (Dz (0-lo))).2=true ∧
  Tab ((s.know p (n+1) hi).1.know (n+1) p (Dz (0-lo))).1.mat (n+1) (fun i=>if i=n+1 then x p+t else x i) ∧
  (∀ i k,i≤n→k≤n→((s.know p (n+1) hi).1.know (n+1) p (Dz (0-lo))).1.mat i k=s.mat i k) ∧
  (∀ k,k≤n→((s.know p (n+1) hi).1.know (n+1) p (Dz (0-lo))).1.mat (n+1) k=s.mat p k-lo):=by
 have o1:∀ i,i≤n→s.mat i (n+1)=far:=fun i hi=>h.out i (n+1) (by omega) (by omega) (.inr (by omega)) (by omega)
 have o2:∀ i,i≤n→s.mat (n+1) i=far:=fun i hi=>h.out (n+1) i (by omega) (by omega) (.inl (by omega)) (by omega)
 have hf:far=1099511627776:=rfl
 have hpp:=h.diag p (by omega)
 have hnn:=h.diag (n+1) (by omega)
 have hw:Dz (0-lo) = -lo:=by rw[Cu (by omega) (by omega)];omega
 obtain⟨k1,k2⟩:=Kz (s:=s) (a:=p) (b:=n+1) (m:=hi) (by rw[o2 p hp,Cu (by omega) (by omega)];omega) (by rw[o1 p hp];omega)
 refine⟨k1, ?_⟩
 generalize (s.know p (n+1) hi).1=s1 at k2
 -- the first step
 have a1:∀ i k,i≤n→k≤n→s1.mat i k=s.mat i k:=by
  intro i k hi hk
  rw[k2 i k (by omega) (by omega),Vt,if_neg]
  rintro⟨_,q⟩
  rw[o2 k hk]at q;omega
 have a2:∀ i,i≤n→s1.mat i (n+1)=s.mat i p+hi:=by
  intro i hi'
  have:=h.lt hi' hp
  rw[k2 i (n+1) (by omega) (by omega),Vt,if_pos ⟨by omega,by omega⟩,o1 i hi',hnn,Cu (x:=s.mat i p+hi) (by omega) (by omega),Cu (by omega) (by omega)]
  omega
 have a3:∀ k,k≤n→s1.mat (n+1) k=far:=by
  intro k hk
  rw[k2 (n+1) k (by omega) (by omega),Vt,if_neg,o2 k hk]
  rintro⟨q,_⟩
  rw[o2 p hp]at q;omega
 have a4:∀ i k,i<11→k<11→n+1<i∨n+1<k→i≠k→s1.mat i k=far:=by
  intro i k hi hk ho hne
  rw[k2 i k hi hk,Vt,if_neg,h.out i k hi hk (by omega) hne]
  rintro⟨q1,q2⟩
  rcases ho with ho|ho
  ·rw[h.out i p hi (by omega) (.inl (by omega)) (by omega)]at q1;omega
  ·rw[h.out (n+1) k (by omega) hk (.inr (by omega)) (by omega)]at q2;omega
 have a5:∀ i,n<i→i<11→s1.mat i i=0:=by
  intro i hi hi2
  rw[k2 i i hi2 hi2,Vt,if_neg,h.diag i hi2]
  rintro⟨q1,_⟩
  rw[h.out i p hi2 (by omega) (.inl hi) (by omega)]at q1;omega
 rw[hw]
 have b1:s1.mat p (n+1)=hi:=by rw[a2 p hp];omega
 obtain⟨k3,k4⟩:=Kz (s:=s1) (a:=n+1) (b:=p) (m:=-lo) (by rw[b1,Cu (by omega) (by omega)];omega) (by rw[a3 p hp];omega)
 refine⟨k3, ?_⟩
 generalize (s1.know (n+1) p (-lo)).1=s2 at k4
 have c1:∀ i k,i≤n→k≤n→s2.mat i k=s.mat i k:=by
  intro i k hi' hk
  have q1:=h.lt hi' hp
  have q2:=h.lt hp hk
  have q3:=h.tri i p k hi' hp hk
  rw[k4 i k (by omega) (by omega),Vt,a1 i k hi' hk,a2 i hi',a1 p k hp hk,if_pos ⟨by omega,by omega⟩,Cu (x:=s.mat i p+hi + -lo) (by omega) (by omega),Cu (by omega) (by omega)]
  omega
 have c2:∀ i,i≤n→s2.mat i (n+1)=s.mat i p+hi:=by
  intro i hi'
  have q1:=h.lt hi' hp
  rw[k4 i (n+1) (by omega) (by omega),Vt,a2 i hi',b1,if_pos ⟨by omega,by omega⟩,Cu (x:=s.mat i p+hi + -lo) (by omega) (by omega),Cu (by omega) (by omega)]
  omega
 have c3:∀ k,k≤n→s2.mat (n+1) k=s.mat p k-lo:=by
  intro k hk
  have q2:=h.lt hp hk
  rw[k4 (n+1) k (by omega) (by omega),Vt,a3 k hk,a5 (n+1) (by omega) (by omega),a1 p k hp hk,if_pos ⟨by omega,by omega⟩,Cu (x:=0 + -lo) (by omega) (by omega),Cu (by omega) (by omega)]
  omega
 have c4:s2.mat (n+1) (n+1)=0:=by
  rw[k4 (n+1) (n+1) (by omega) (by omega),Vt,a5 (n+1) (by omega) (by omega),b1,if_pos ⟨by omega,by omega⟩,Cu (x:=0 + -lo) (by omega) (by omega),Cu (by omega) (by omega)]
  omega
 refine⟨⟨by omega,fun i k hi' hk=>?_,fun i k hi' hk ho hne=>?_,fun i hi'=>?_,fun i k hi' hk=>?_,fun i j k hi' hj hk=>?_,fun i hi'=>?_,fun i hi'=>?_⟩,c1,c3⟩
 ·by_cases e1:i≤n
  ·by_cases e2:k≤n
   ·rw[c1 i k e1 e2];have:=h.hi i k e1 e2;omega
   ·rw[show k=n+1 by omega,c2 i e1];have:=h.hi i p e1 hp;omega
  ·rw[show i=n+1 by omega]
   by_cases e2:k≤n
   ·rw[c3 k e2];have:=h.hi p k hp e2;omega
   ·rw[show k=n+1 by omega,c4];omega
 ·rw[k4 i k hi' hk,Vt,if_neg,a4 i k hi' hk ho hne]
  rintro⟨q1,q2⟩
  rcases ho with ho|ho
  ·rw[a4 i (n+1) hi' (by omega) (.inl ho) (by omega)]at q1;omega
  ·rw[a4 p k (by omega) hk (.inr ho) (by omega)]at q2;omega
 ·by_cases e1:i≤n
  ·rw[c1 i i e1 e1,h.diag i hi']
  ·by_cases e2:i=n+1
   ·rw[e2,c4]
   ·rw[k4 i i hi' hi',Vt,if_neg,a5 i (by omega) hi']
    rintro⟨q1,_⟩
    rw[a4 i (n+1) hi' (by omega) (.inl (by omega)) e2]at q1;omega
 ·by_cases e1:i≤n
  ·rw[if_neg (by omega:¬ i=n+1)]
   by_cases e2:k≤n
   ·rw[if_neg (by omega:¬ k=n+1),c1 i k e1 e2];exact h.sat i k e1 e2
   ·rw[if_pos (by omega:k=n+1),show k=n+1 by omega,c2 i e1];have:=h.sat i p e1 hp;omega
  ·rw[if_pos (by omega:i=n+1),show i=n+1 by omega]
   by_cases e2:k≤n
   ·rw[if_neg (by omega:¬ k=n+1),c3 k e2];have:=h.sat p k hp e2;omega
   ·rw[if_pos (by omega:k=n+1),show k=n+1 by omega,c4];omega
 ·have val:∀ i k,i≤n+1→k≤n+1→s2.mat i k=(if i=n+1 then (if k=n+1 then 0 else s.mat p k-lo) else if k=n+1 then s.mat i p+hi else s.mat i k):=by
   intro i k h1 h2
   by_cases e1:i=n+1
   ·by_cases e2:k=n+1
    ·rw[if_pos e1,if_pos e2,e1,e2,c4]
    ·rw[if_pos e1,if_neg e2,e1,c3 k (by omega)]
   ·by_cases e2:k=n+1
    ·rw[if_neg e1,if_pos e2,e2,c2 i (by omega)]
    ·rw[if_neg e1,if_neg e2,c1 i k (by omega) (by omega)]
  rw[val i k hi' hk,val i j hi' hj,val j k hj hk]
  by_cases e1:i=n+1
  ·by_cases e2:j=n+1
   ·by_cases e3:k=n+1
    ·simp only[e1,e2,e3,if_true];omega
    ·simp only[e1,e2,e3,if_true,if_false];omega
   ·by_cases e3:k=n+1
    ·simp only[e1,e2,e3,if_true,if_false]
     have:=h.tri p j p hp (by omega) hp
     omega
    ·simp only[e1,e2,e3,if_true,if_false]
     have:=h.tri p j k hp (by omega) (by omega)
     omega
  ·by_cases e2:j=n+1
   ·by_cases e3:k=n+1
    ·simp only[e1,e2,e3,if_true,if_false];omega
    ·simp only[e1,e2,e3,if_true,if_false]
     have:=h.tri i p k (by omega) hp (by omega)
     omega
   ·by_cases e3:k=n+1
    ·simp only[e1,e2,e3,if_true,if_false]
     have:=h.tri i j p (by omega) (by omega) hp
     omega
    ·simp only[e1,e2,e3,if_false]
     exact h.tri i j k (by omega) (by omega) (by omega)
 ·split
  ·have:=h.x0 p hp;omega
  ·exact h.x0 i (by omega)
 ·split
  ·have:=h.x1 p hp;omega
  ·have:=h.x1 i (by omega);omega
def Mc (spot:Int):Int→List (E8×Int)→Prop
 | _,[]=>True
 | lie,(a,t) :: l=>if a.Spot=spot then (1≤a.Min∧a.Min≤t∧t≤a.Max∧a.Max≤1000000)∧(if a.Take=true then t≤lie∧Mc spot (lie-t) l else Mc spot (lie+t) l) else Mc spot lie l
structure M3 (p:Hb)(i:Nat)(lie:Int):Prop where
 ok:p.ok=true
 next:p.next≤i
 mt:p.m.tips≤p.next∧p.m.takes≤p.next
 tab:∃ x,Tab p.s.mat p.next x∧x p.m.tips-x p.m.takes=lie
 mem:p.m∈p.ms
 all:∀ m,m∈p.ms→m.tips≤p.next∧m.takes≤p.next∧p.s.mat m.takes 0≤0∧p.s.mat m.tips m.takes≤0∧p.s.mat p.m.tips m.tips≤0∧(m.act<0→m.tips=0)
 pw:p.ms.Pairwise fun a b=>p.s.mat b.tips a.tips≤0
theorem A54 {α:Type}{R:α→α→Prop}{l:List α}{x:α}(h:l.Pairwise R)(k:∀ a,a∈l→R a x):(l ++ [x]).Pairwise R:=by
 rw[List.pairwise_append]
 refine⟨h,List.pairwise_singleton _ _,fun a ha b hb=>?_⟩
 rw[List.mem_singleton.1 hb]
 exact k a ha
theorem M3.start:M3 Oo 0 0:=by
 have hb:∀ i k,i<11→k<11→Oo.s.mat i k=if i=k then 0 else far:=fun i k hi hk=>A7H hi hk
 have h00:Oo.s.mat 0 0=0:=hb 0 0 (by omega) (by omega)
 refine⟨rfl,Nat.le_refl _,⟨Nat.le_refl _,Nat.le_refl _⟩,⟨fun _=>0,⟨by show 0≤10;omega,fun a b ha hb'=>?_,fun a b ha hb' ho hne=>by rw[hb a b ha hb',if_neg hne],fun a ha=>by rw[hb a a ha ha,if_pos rfl],fun a b ha hb'=>?_,fun a b c ha hb' hc=>?_,fun _ _=>Int.le_refl _,fun _ _=>by show (0:Int)≤((0:Nat):Int)*1000000;omega⟩,rfl⟩,
  List.mem_singleton.2 rfl,fun m hm=>?_,List.pairwise_singleton _ _⟩
 ·have e1:a=0:=Nat.le_zero.1 ha
  have e2:b=0:=Nat.le_zero.1 hb'
  rw[e1,e2,h00];show (0:Int)≤((0:Nat):Int)*1000000;omega
 ·have e1:a=0:=Nat.le_zero.1 ha
  have e2:b=0:=Nat.le_zero.1 hb'
  rw[e1,e2,h00];show (0:Int)-0≤0;omega
 ·have e1:a=0:=Nat.le_zero.1 ha
  have e2:b=0:=Nat.le_zero.1 hb'
  have e3:c=0:=Nat.le_zero.1 hc
  rw[e1,e2,e3,h00];omega
 ·have:m=A4M:=List.mem_singleton.1 hm
  subst this
  exact⟨Nat.le_refl _,Nat.le_refl _,Int.le_of_eq h00,Int.le_of_eq h00,Int.le_of_eq h00,fun _=>rfl⟩
theorem M3.skip {p:Hb}{i:Nat}{lie:Int}(h:M3 p i lie):M3 p (i+1) lie:={ h with next:=Nat.le_succ_of_le h.next }
theorem M3.tip {p:Hb}{i:Nat}{lie:Int}(h:M3 p i lie)(hi:i<10){a:E8}{t:Int}(ha:¬ a.Take=true)(q:1≤a.Min∧a.Min≤t∧t≤a.Max∧a.Max≤1000000):M3 (p.step i a) (i+1) (lie+t):=by
 obtain⟨x,hx,hl⟩:=h.tab
 have hn:=h.next
 obtain⟨mt1,mt2⟩:=h.mt
 obtain⟨k1,k2,k3,k4,k5⟩:=hx.add (by omega) mt1 q.1 q.2.1 q.2.2.1 q.2.2.2
 rw[Hb.step_tip ha]
 have htp:p.tp a=(p.s.know p.m.tips (p.next+1) a.Max).1.know (p.next+1) p.m.tips (Dz (0-a.Min)):=by
  unfold Hb.tp In
  simp only[h.ok,if_true,k1]
 rw[htp]
 generalize (p.s.know p.m.tips (p.next+1) a.Max).1.know (p.next+1) p.m.tips (Dz (0-a.Min))=y at k2 k3 k4 k5
 have hm:=h.all p.m h.mem
 refine⟨k2,by show p.next+1≤i+1;omega,⟨Nat.le_refl _,by show p.m.takes≤p.next+1;omega⟩,⟨_,k3, ?_⟩,by simp,fun m hm'=>?_,A54 (h.pw.imp_of_mem fun {a b} ha hb r=>?_) fun m hm'=>?_⟩
 ·dsimp only
  rw[if_pos rfl,if_neg (by omega)]
  omega
 ·dsimp only
  rcases List.mem_append.1 hm' with hm'|hm'
  ·obtain⟨a1,a2,a3,a4,a5,a6⟩:=h.all m hm'
   refine⟨by omega,by omega,by rw[k4 _ _ a2 (by omega)];exact a3,by rw[k4 _ _ a1 a2];exact a4,by rw[k5 _ a1];omega,a6⟩
  ·rw[List.mem_singleton.1 hm']
   dsimp only
   refine⟨Nat.le_refl _,by omega,by rw[k4 _ _ mt2 (by omega)];exact hm.2.2.1,by rw[k5 _ mt2];have:=hm.2.2.2.1;omega,by rw[k3.diag (p.next+1) (by omega)];exact Int.le_refl _,fun hh=>by omega⟩
 ·have b1:=(h.all a ha).1
  have b2:=(h.all b hb).1
  dsimp only
  rw[k4 _ _ b2 b1];exact r
 ·have b1:=h.all m hm'
  dsimp only
  rw[k5 _ b1.1]
  have:=b1.2.2.2.2.1
  omega
theorem M3.take {p:Hb}{i:Nat}{lie:Int}(h:M3 p i lie)(hi:i<10){a:E8}{t:Int}(ha:a.Take=true)(q:1≤a.Min∧a.Min≤t∧t≤a.Max∧a.Max≤1000000)(hq:t≤lie):M3 (p.step i a) (i+1) (lie-t):=by
 obtain⟨x,hx,hl⟩:=h.tab
 have hn:=h.next
 obtain⟨mt1,mt2⟩:=h.mt
 obtain⟨k1,k2,k3,k4,k5⟩:=hx.add (by omega) mt2 q.1 q.2.1 q.2.2.1 q.2.2.2
 rw[Hb.step_take ha]
 have htk:p.tk a=((p.s.know p.m.takes (p.next+1) a.Max).1.know (p.next+1) p.m.takes (Dz (0-a.Min))).1.know p.m.tips (p.next+1) 0:=by
  unfold Hb.tk In
  simp only[h.ok,if_true,k1,k2]
 rw[htk]
 generalize ((p.s.know p.m.takes (p.next+1) a.Max).1.know (p.next+1) p.m.takes (Dz (0-a.Min))).1=y at k3 k4 k5
 obtain⟨z1,z2,z3,z4⟩:=k3.more (a:=p.m.tips) (b:=p.next+1) (m:=0) (by omega) (Nat.le_refl _) (by
  rw[if_pos rfl,if_neg (by omega)]
  omega) (by omega) (by omega)
 generalize y.know p.m.tips (p.next+1) 0=z at z1 z2 z3 z4
 have hm:=h.all p.m h.mem
 refine⟨z1,by show p.next+1≤i+1;omega,⟨by show p.m.tips≤p.next+1;omega,Nat.le_refl _⟩,⟨_,z2, ?_⟩,by simp,fun m hm'=>?_,A54 (h.pw.imp_of_mem fun {a b} ha hb r=>?_) fun m hm'=>?_⟩
 ·dsimp only
  rw[if_pos rfl,if_neg (by omega)]
  omega
 ·dsimp only
  rcases List.mem_append.1 hm' with hm'|hm'
  ·obtain⟨a1,a2,a3,a4,a5,a6⟩:=h.all m hm'
   refine⟨by omega,by omega, ?_, ?_, ?_,a6⟩
   ·have:=z3 m.takes 0 (by omega) (by omega)
    rw[k4 _ _ a2 (by omega)]at this;omega
   ·have:=z3 m.tips m.takes (by omega) (by omega)
    rw[k4 _ _ a1 a2]at this;omega
   ·have:=z3 p.m.tips m.tips (by omega) (by omega)
    rw[k4 _ _ mt1 a1]at this;omega
  ·rw[List.mem_singleton.1 hm']
   dsimp only
   refine⟨by omega,Nat.le_refl _, ?_,z4,by rw[z2.diag p.m.tips (by omega)];exact Int.le_refl _,fun hh=>by omega⟩
   have:=z3 (p.next+1) 0 (Nat.le_refl _) (by omega)
   rw[k5 _ (by omega)]at this
   have:=hm.2.2.1
   omega
 ·have b1:=(h.all a ha).1
  have b2:=(h.all b hb).1
  dsimp only
  have:=z3 b.tips a.tips (by omega) (by omega)
  rw[k4 _ _ b2 b1]at this;omega
 ·have b1:=h.all m hm'
  dsimp only
  have:=z3 p.m.tips m.tips (by omega) (by omega)
  rw[k4 _ _ mt1 b1.1]at this
  have:=b1.2.2.2.2.1
  omega
theorem M3.run (spot:Int):∀ (l:List (E8×Int))(i:Nat)(p:Hb)(lie:Int),M3 p i lie→i+l.length≤10→Mc spot lie l→∃ lie',M3 (Hb.run spot i (l.map (·.1)) p) (i+l.length) lie'
 | [],i,p,lie,h,_,_=>⟨lie,h⟩
 | (a,t) :: l,i,p,lie,h,hl,hf=>by
  simp only[List.map_cons,List.length_cons]at hl ⊢
  rw[Hb.run,show i+(l.length+1)=i+1+l.length by omega]
  rw[Mc]at hf
  by_cases hs:a.Spot=spot
  ·rw[if_pos hs]at hf ⊢
   obtain⟨q,hf⟩:=hf
   by_cases ht:a.Take=true
   ·rw[if_pos ht]at hf
    exact M3.run spot l (i+1) _ _ (h.take (by omega) ht q hf.1) (by omega) hf.2
   ·rw[if_neg ht]at hf
    exact M3.run spot l (i+1) _ _ (h.tip (by omega) ht q) (by omega) hf
  ·rw[if_neg hs]at hf ⊢
   exact M3.run spot l (i+1) _ _ h.skip (by omega) hf
structure B5p (h:Hp):Prop where
 tab:∃ n x,Tab h.s.mat n x∧∀ m,m∈h.m→m.tips≤n∧m.takes≤n
 all:∀ m,m∈h.m→h.s.mat m.takes 0≤0∧h.s.mat m.tips m.takes≤0∧(m.act<0→m.tips=0)
 pw:h.m.Pairwise fun a b=>h.s.mat b.tips a.tips≤0
 pos:h.m≠[]
theorem B18 {g:Cv}{spot:Int}{truth:List Int}(hl:g.Acts.length≤10)(he:truth.length=g.Acts.length)(hf:Mc spot 0 (g.Acts.zip truth)):(Co g spot).2=true∧B5p (Co g spot).1:=by
 have hz:(g.Acts.zip truth).map (·.1)=g.Acts:=by
  rw[List.map_fst_zip]
  omega
 obtain⟨lie,h⟩:=M3.run spot (g.Acts.zip truth) 0 Oo 0 M3.start (by rw[List.length_zip];omega) hf
 rw[hz]at h
 obtain⟨x,hx,_⟩:=h.tab
 exact⟨h.ok,⟨⟨_,x,hx,fun m hm=>⟨(h.all m hm).1,(h.all m hm).2.1⟩⟩,fun m hm=>⟨(h.all m hm).2.2.1,(h.all m hm).2.2.2.1,(h.all m hm).2.2.2.2.2⟩,h.pw,fun e=>by have:=h.mem;have e:(Hb.run spot 0 g.Acts Oo).ms=[]:=e;rw[e]at this;cases this⟩⟩
theorem Q8 {a b:Int}(h:a≤b):∀ l:List E8,B5 a l≤B5 b l
 | []=>Nat.le_refl _
 | x :: l=>by
  rw[B5,B5]
  have:=Q8 h l
  by_cases c:x.Hour≤a
  ·rw[if_pos c,if_pos (by omega)];omega
  ·rw[if_neg c];omega
theorem Uy {g:Cv}:∀ (n i:Nat)(acc:List Hp),(∀ j,i≤j→j<i+n→(Co g j).2=true)→(Ev g i n acc).2=0∧(Ev g i n acc).1=acc ++ (List.range n).map fun j=>(Co g ((i+j:Nat):Int)).1
 | 0,i,acc,_=>⟨rfl,by simp[Ev]⟩
 | n+1,i,acc,h=>by
  rw[Ev,if_pos (h i (Nat.le_refl _) (by omega))]
  have ih:=Uy (g:=g) n (i+1) (acc ++ [(Co g i).1]) fun j h1 h2=>h j (by omega) (by omega)
  refine⟨ih.1, ?_⟩
  rw[ih.2,List.append_assoc,List.range_succ_eq_map,List.map_cons,List.map_map]
  congr 1
  simp only[List.singleton_append,Nat.add_zero,List.cons.injEq,true_and]
  refine List.map_congr_left fun j _=>?_
  show (Co g ((i+1+j:Nat):Int)).1=(Co g ((i+(j+1):Nat):Int)).1
  rw[show i+1+j=i+(j+1) by omega]
theorem A0i {g:Cv}(h:∀ j,j<g.Spots.length→(Co g (j:Nat)).2=true):(known g).2=0∧(known g).1=(List.range g.Spots.length).map fun j=>(Co g (j:Nat)).1:=by
 have:=Uy (g:=g) g.Spots.length 0 [] fun j _ h2=>h j (by omega)
 refine⟨this.1, ?_⟩
 have e:=this.2
 simp only[Nat.zero_add,List.nil_append]at e
 exact e
structure B6T (g:Cv):Prop where
 ck:check g=0
 hp:∀ j,j<g.Spots.length→(Co g (j:Nat)).2=true∧B5p (Co g (j:Nat)).1
 hour:∀ x,x∈g.Acts→0≤x.Hour
def R6 (h:Hp)(old takes:Nat):Int:=if h.s.mat old takes<0 then 1 else if h.s.mat takes old≤0 then 2 else 3
theorem Jp (x:Int){l:List Int}(h:0<l.length)(h2:l.length<1000000):D1 x l∈l:=by
 unfold D1
 rw[if_neg (by omega)]
 have b:=Dw x l.length (by omega)
 have b1:=b.2.1 (by omega)
 have hlt:(Cm x l.length).toNat<l.length:=by have:=b.1;omega
 rw[List.getD,List.getElem?_eq_getElem hlt]
 exact List.getElem_mem hlt
theorem H8 {n a b:Int}(h1:a≤n)(h2:n≤b):Mr n a b=true:=decide_eq_true ⟨h1,h2⟩
theorem A9S (x:Int):Ms (A0h x).1=true:=by
 have a:=Dw x 8 (by omega)
 have b:=Dw (Cb x 8) 4 (by omega)
 have c:=J2 (x:=Cb (Cb x 8) 4) (lo:=1) (hi:=4) (by omega) (by omega) (by omega)
 have a2:=a.2.1 (by omega)
 have b2:=b.2.1 (by omega)
 unfold Ms A0h
 dsimp only
 rw[H8 a.1 (by omega),H8 b.1 (by omega),H8 c.1 (by omega)]
 rfl
theorem A3q:∀ (n:Nat)(x:Int)(l:List Spo),(∀ s,s∈l→Ms s=true)→∀ s,s∈(Of n x l).1→Ms s=true
 | 0,x,l,h=>h
 | n+1,x,l,h=>by
  rw[Of]
  refine A3q n _ _ fun s hs=>?_
  rcases List.mem_append.1 hs with hs|hs
  ·exact h s hs
  ·rw[List.mem_singleton.1 hs];exact A9S x
theorem A9T {r:Srt}(h1:1≤r.High∧r.High≤1000)(h2:1≤r.Dense∧r.Dense≤8000)(h3:0≤r.Fire∧r.Fire≤100)(h4:0≤r.Age∧r.Age≤72):Ma r=true:=by
 unfold Ma
 rw[H8 h1.1 h1.2,H8 h2.1 h2.2,H8 h3.1 h3.2,H8 h4.1 h4.2]
 rfl
theorem A1M (x a b:Int):D1 x [a,b]=a∨D1 x [a,b]=b:=by
 have:=Jp x (l:=[a,b]) (by simp) (by simp)
 simpa using this
theorem A9U (mass x y:Int)(h1:1≤mass∧mass≤10000):1≤D1 y [100,min 1000 (Dz (Mt x 1 100*max 1 (Dz (mass.tdiv 20))))]∧D1 y [100,min 1000 (Dz (Mt x 1 100*max 1 (Dz (mass.tdiv 20))))]≤1000:=by
 have bt:=J2 (x:=x) (lo:=1) (hi:=100) (by omega) (by omega) (by omega)
 have td0:0≤mass.tdiv 20:=Int.tdiv_nonneg (by omega) (by omega)
 have td1:mass.tdiv 20≤mass:=Int.tdiv_le_self _ (by omega)
 rw[Cu (x:=mass.tdiv 20) (by omega) (by omega)]
 have hm:1≤max 1 (mass.tdiv 20)∧max 1 (mass.tdiv 20)≤10000:=by omega
 generalize max 1 (mass.tdiv 20)=d at hm
 generalize Mt x 1 100=c at bt
 have p1:1*1≤c*d:=Int.mul_le_mul bt.1 hm.1 (by omega) (by omega)
 have p2:c*d≤100*10000:=Int.mul_le_mul bt.2 hm.2 (by omega) (by omega)
 rw[Cu (x:=c*d) (by omega) (by omega)]
 generalize c*d=pr at p1 p2
 rcases A1M y 100 (min 1000 pr) with e|e <;> rw[e] <;> omega
theorem A7I (y:Int):1≤D1 y [1,2,50,100]∧D1 y [1,2,50,100]≤8000:=by
 have b:=Jp y (l:=[1,2,50,100]) (by simp) (by simp)
 generalize D1 y [1,2,50,100]=de at b
 simp only[List.mem_cons,List.not_mem_nil,or_false]at b
 omega
theorem A9V (y x:Int):0≤D1 y [0,Cm x 6]∧D1 y [0,Cm x 6]≤100:=by
 have c0:=Dw x 6 (by omega)
 have c1:=c0.2.1 (by omega)
 rcases A1M y 0 (Cm x 6) with e|e <;> rw[e] <;> omega
theorem B19 (y x hours:Int)(h:0≤hours∧hours≤72):0≤D1 y [72,Cm x (Dz (hours+1))]∧D1 y [72,Cm x (Dz (hours+1))]≤72:=by
 rw[Cu (x:=hours+1) (by omega) (by omega)]
 have c0:=Dw x (hours+1) (by omega)
 have c1:=c0.2.1 (by omega)
 rcases A1M y 72 (Cm x (hours+1)) with e|e <;> rw[e] <;> omega
theorem A9W (mass hours x:Int)(h1:1≤mass∧mass≤10000)(h2:0≤hours∧hours≤72):Ma (A3p mass hours x).1=true :=
 A9T (A9U mass x _ h1) (A7I _) (A9V _ _) (B19 _ _ hours h2)
theorem A3r (mass hours:Int)(h1:1≤mass∧mass≤10000)(h2:0≤hours∧hours≤72):∀ (n:Nat)(x:Int)(l:List Srt),(∀ s,s∈l→Ma s=true)→∀ s,s∈(Og mass hours n x l).1→Ma s=true
 | 0,x,l,h=>h
 | n+1,x,l,h=>by
  rw[Og]
  refine A3r mass hours h1 h2 n _ _ fun s hs=>?_
  rcases List.mem_append.1 hs with hs|hs
  ·exact h s hs
  ·rw[List.mem_singleton.1 hs];exact A9W mass hours x h1 h2
theorem Sc:∀ (n:Nat)(x:Int)(l:List Spo),(Of n x l).1.length=l.length+n
 | 0,x,l=>rfl
 | n+1,x,l=>by rw[Of,Sc n,List.length_append,List.length_singleton];omega
theorem Sd {m h:Int}:∀ (n:Nat)(x:Int)(l:List Srt),(Og m h n x l).1.length=l.length+n
 | 0,x,l=>rfl
 | n+1,x,l=>by rw[Og,Sd n,List.length_append,List.length_singleton];omega
def Md (spot:Int):Int→List (E8×Int)→Int
 | lie,[]=>lie
 | lie,(a,t) :: l=>if a.Spot=spot then (if a.Take=true then Md spot (lie-t) l else Md spot (lie+t) l) else Md spot lie l
theorem Mu (spot:Int)(a:E8)(t:Int):∀ (l:List (E8×Int))(lie:Int),Md spot lie (l ++ [(a,t)])=if a.Spot=spot then (if a.Take=true then Md spot lie l-t else Md spot lie l+t) else Md spot lie l
 | [],lie=>rfl
 | (b,u) :: l,lie=>by
  simp only[List.cons_append,Md]
  rw[Mu spot a t l,Mu spot a t l,Mu spot a t l]
  by_cases h1:b.Spot=spot
  ·by_cases h2:b.Take=true
   ·simp only[if_pos h1,if_pos h2]
   ·simp only[if_pos h1,if_neg h2]
  ·simp only[if_neg h1]
theorem Qa (spot:Int)(a:E8)(t:Int)(h:a.Spot=spot→(1≤a.Min∧a.Min≤t∧t≤a.Max∧a.Max≤1000000)):∀ (l:List (E8×Int))(lie:Int),Mc spot lie l→(a.Spot=spot→a.Take=true→t≤Md spot lie l)→Mc spot lie (l ++ [(a,t)])
 | [],lie,_,k=>by
  show Mc spot lie [(a,t)]
  rw[Mc]
  by_cases h1:a.Spot=spot
  ·rw[if_pos h1]
   refine⟨h h1, ?_⟩
   by_cases h2:a.Take=true
   ·rw[if_pos h2];exact⟨k h1 h2,trivial⟩
   ·rw[if_neg h2];trivial
  ·rw[if_neg h1];trivial
 | (b,u) :: l,lie,f,k=>by
  rw[List.cons_append,Mc]
  rw[Mc]at f
  rw[Md]at k
  by_cases h1:b.Spot=spot
  ·rw[if_pos h1]at f k ⊢
   refine⟨f.1, ?_⟩
   by_cases h2:b.Take=true
   ·rw[if_pos h2]at k ⊢
    have f2:=f.2
    rw[if_pos h2]at f2
    exact⟨f2.1,Qa spot a t h l _ f2.2 k⟩
   ·rw[if_neg h2]at k ⊢
    have f2:=f.2
    rw[if_neg h2]at f2
    exact Qa spot a t h l _ f2 k
  ·rw[if_neg h1]at f k ⊢
   exact Qa spot a t h l _ f k
def A3s:Int→List E8→Int
 | h,[]=>h
 | _,a :: l=>A3s a.Hour l
theorem Pe (g:Cv)(a:E8):∀ (l:List E8)(h:Int),Dq g h l=0→He g (A3s h l) a=0→Dq g h (l ++ [a])=0
 | [],h,_,k=>by
  show Dq g h [a]=0
  rw[Dq,if_neg (by rw[A3s]at k;rw[k];simp)]
  rfl
 | b :: l,h,f,k=>by
  rw[List.cons_append,Dq]
  rw[Dq]at f
  by_cases c:He g h b≠0
  ·rw[if_pos c]at f;exact absurd f c
  ·rw[if_neg c]at f ⊢
   exact Pe g a l b.Hour f k
theorem Xj (a:E8):∀ (l:List E8)(h:Int),A3s h (l ++ [a])=a.Hour
 | [],h=>rfl
 | b :: l,h=>Xj a l b.Hour
structure A3t (spots sorts:Nat)(last:Int)(a:E8):Prop where
 h:0≤a.Hour∧a.Hour≤72∧last≤a.Hour
 s:0≤a.Spot∧a.Spot<spots
 k:0≤a.Kind∧a.Kind<sorts
 t:a.Take=true→a.Kind=0
 m:1≤a.Min∧a.Min≤a.Max∧a.Max≤1000000
theorem Uz {g:Cv}{last:Int}{a:E8}(hs:g.Spots.length≤4)(hq:g.Sorts.length≤4)(h:A3t g.Spots.length g.Sorts.length last a):He g last a=0:=by
 obtain⟨h1,h2,h3,h4,h5⟩:=h
 have e1:Dz ((g.Spots.length:Int)-1)=g.Spots.length-1:=Cu (by omega) (by omega)
 have e2:Dz ((g.Sorts.length:Int)-1)=g.Sorts.length-1:=Cu (by omega) (by omega)
 unfold He
 rw[e1,e2,H8 h1.1 h1.2.1,H8 (n:=a.Spot) h2.1 (by omega),H8 (n:=a.Kind) h3.1 (by omega),H8 (n:=a.Min) h5.1 (by omega),H8 (n:=a.Max) (by omega) h5.2.2]
 have ht:(a.Take && decide (a.Kind≠0))=false:=by
  cases hta:a.Take with
  | false=>rfl
  | true=>simp[h4 hta]
 simp only[Bool.not_true,Bool.false_eq_true,if_false,Bool.or_self,ht]
 rw[if_neg (by omega),if_neg (by omega)]
structure Vu (spots sorts:Nat)(mass:Int)(s:Qf)(k:Nat):Prop where
 hour:0≤s.hour∧s.hour≤72
 lies:s.lies.length=spots
 lie:∀ j,j<spots→0≤s.lies.getD j 0∧s.lies.getD j 0≤k*mass
 len:s.acts.length=k∧s.truth.length=k
 last:A3s 0 s.acts≤s.hour
 chk:∀ g:Cv,g.Spots.length=spots→g.Sorts.length=sorts→Dq g 0 s.acts=0
 pos:∀ a,a∈s.acts→0≤a.Hour
 fits:∀ j:Nat,j<spots→Mc j 0 (s.acts.zip s.truth)∧Md j 0 (s.acts.zip s.truth)=s.lies.getD j 0
theorem A0j (mass n x:Int)(h1:1≤mass∧mass≤10000)(h2:1≤n∧n≤200000):1≤(Ld mass n x).1.Min∧(Ld mass n x).1.Min≤n∧n≤(Ld mass n x).1.Max∧(Ld mass n x).1.Max≤1000000:=by
 have td0:0≤mass.tdiv 3:=Int.tdiv_nonneg (by omega) (by omega)
 have td1:mass.tdiv 3≤mass:=Int.tdiv_le_self _ (by omega)
 have e1:Dz (mass.tdiv 3)=mass.tdiv 3:=Cu (by omega) (by omega)
 unfold Ld
 dsimp only
 rw[e1]
 have hm:2≤max 2 (mass.tdiv 3)∧max 2 (mass.tdiv 3)≤10000:=by omega
 generalize max 2 (mass.tdiv 3)=m at hm
 have a0:=Dw x m (by omega)
 have a1:=a0.2.1 (by omega)
 have a:=Jp (Cb x m) (l:=[0,Cm x m]) (by simp) (by simp)
 generalize D1 (Cb x m) [0,Cm x m]=p at a
 generalize Ej (Cb x m) [0,Cm x m]=x2
 have b0:=Dw x2 m (by omega)
 have b1:=b0.2.1 (by omega)
 have b:=Jp (Cb x2 m) (l:=[0,Cm x2 m]) (by simp) (by simp)
 generalize D1 (Cb x2 m) [0,Cm x2 m]=q at b
 simp only[List.mem_cons,List.not_mem_nil,or_false]at a b
 rw[Cu (x:=n-p) (by omega) (by omega),Cu (x:=n+q) (by omega) (by omega)]
 omega
theorem A9X {α β:Type}{a:List α}{b:List β}(h:a.length=b.length)(x:α)(y:β):(a ++ [x]).zip (b ++ [y])=a.zip b ++ [(x,y)]:=by
 rw[List.zip_append h];rfl
theorem Vu.push {spots sorts:Nat}{mass:Int}{s:Qf}{k:Nat}(h:Vu spots sorts mass s k)(hs:spots≤4)(hq:sorts≤4)(hm:1≤mass){a:E8}{t lie x:Int}{p:Nat}(hp:p<spots)(hps:a.Spot=p)
  (ha:A3t spots sorts s.hour a)(hb:a.Min≤t∧t≤a.Max)(htk:a.Take=true→t≤s.lies.getD p 0)(hl:lie=if a.Take=true then s.lies.getD p 0-t else s.lies.getD p 0+t)(hl0:0≤lie)(hl1:lie≤(k+1:Nat)*mass) :
  Vu spots sorts mass ⟨x,a.Hour,s.lies.set p lie,s.acts ++ [a],s.truth ++ [t]⟩ (k+1):=by
 have hll:=h.lies
 have hlen:=h.len
 have hx:=ha.m
 refine⟨⟨ha.h.1,ha.h.2.1⟩,by simp[hll],fun j hj=>?_,by simp[hlen.1,hlen.2], ?_,fun g h1 h2=>?_,fun b hb'=>?_,fun j hj=>?_⟩
 ·dsimp only
  rw[El]
  split
  ·exact⟨hl0,hl1⟩
  ·have:=h.lie j hj
   have e:((k+1:Nat):Int)*mass=k*mass+mass:=by rw[Int.natCast_add,Int.add_mul];simp
   rw[e];omega
 ·dsimp only
  rw[Xj];exact Int.le_refl _
 ·dsimp only
  refine Pe g a s.acts 0 (h.chk g h1 h2) (Uz (by omega) (by omega) ?_)
  rw[h1,h2]
  have:=h.last
  exact⟨⟨ha.h.1,ha.h.2.1,by have:=ha.h.2.2;omega⟩,ha.s,ha.k,ha.t,ha.m⟩
 ·rcases List.mem_append.1 hb' with hb'|hb'
  ·exact h.pos b hb'
  ·rw[List.mem_singleton.1 hb'];exact ha.h.1
 ·dsimp only
  rw[A9X (by rw[hlen.1,hlen.2]),Mu,El]
  obtain⟨f1,f2⟩:=h.fits j hj
  refine⟨Qa (j:Int) a t (fun _=>⟨hx.1,hb.1,hb.2,hx.2.2⟩) _ _ f1 fun e1 e2=>?_, ?_⟩
  ·rw[f2]
   have:p=j:=by omega
   rw[← this];exact htk e2
  ·rw[f2]
   by_cases e:p=j
   ·subst e
    rw[if_pos hps,if_pos (show p=p∧p<s.lies.length from⟨rfl,by omega⟩),hl]
   ·rw[if_neg (by omega),if_neg (by omega)]
theorem Vu.step {spots sorts:Nat}{mass hours:Int}{s:Qf}{k:Nat}(h:Vu spots sorts mass s k)(hs:1≤spots∧spots≤4)(hq:1≤sorts∧sorts≤4)(hm:1≤mass∧mass≤10000)(hh:0≤hours∧hours≤72)(hk:k<10)(hsh:s.hour≤hours) :
  Vu spots sorts mass (s.step spots sorts mass hours) (k+1)∧(s.step spots sorts mass hours).hour≤hours:=by
 have hhr:=h.hour
 have e4:=Dw s.x 4 (by omega)
 have e4':=e4.2.1 (by omega)
 have eh:=Jp (Cb s.x 4) (l:=[0,1,Cm s.x 4]) (by simp) (by simp)
 simp only[List.mem_cons,List.not_mem_nil,or_false]at eh
 unfold Qf.step
 dsimp only
 generalize D1 (Cb s.x 4) [0,1,Cm s.x 4]=dh at eh
 generalize Ej (Cb s.x 4) [0,1,Cm s.x 4]=x2
 rw[Cu (x:=s.hour+dh) (by omega) (by omega)]
 have hho:0≤min 72 (min hours (s.hour+dh))∧min 72 (min hours (s.hour+dh))≤72∧s.hour≤min 72 (min hours (s.hour+dh))∧min 72 (min hours (s.hour+dh))≤hours:=by omega
 generalize min 72 (min hours (s.hour+dh))=ho at hho
 have sp0:=Dw x2 spots (by omega)
 have sp1:=sp0.2.1 (by omega)
 obtain⟨p,ep⟩:∃ p:Nat,(p:Int)=Cm x2 spots:=⟨(Cm x2 spots).toNat,by have:=sp0.1;omega⟩
 rw[← ep]at sp0 sp1 ⊢
 rw[Int.toNat_natCast]
 have hp:p<spots:=by omega
 generalize Cb x2 (spots:Int)=x3
 have ki0:=Dw x3 sorts (by omega)
 have ki1:=ki0.2.1 (by omega)
 generalize Cm x3 (sorts:Int)=kind at ki0 ki1
 generalize Cb x3 (sorts:Int)=x4
 have nb:=J2 (x:=x4) (lo:=1) (hi:=mass) (by omega) (by omega) (by omega)
 generalize Mt x4 1 mass=n at nb
 generalize Iz x4 1 mass=x5
 have hli:=h.lie p hp
 have hb1:(k:Int)*mass≤9*10000:=Int.mul_le_mul (show (k:Int)≤9 by omega) hm.2 (by omega) (by omega)
 have e:((k+1:Nat):Int)*mass=k*mass+mass:=by rw[Int.natCast_add,Int.add_mul];simp
 obtain⟨lie,el⟩:∃ lie,lie=s.lies.getD p 0:=⟨_,rfl⟩
 rw[← el]at hli ⊢
 by_cases c:0<lie∧Cm x5 5<2
 ·rw[if_pos c,if_pos c.1]
  generalize Cb x5 5=x6
  have kb:=J2 (x:=x6) (lo:=1) (hi:=lie) (by omega) (by omega) (by omega)
  have km:=Jp (Iz x6 1 lie) (l:=[lie,Mt x6 1 lie]) (by simp) (by simp)
  generalize Ej (Iz x6 1 lie) [lie,Mt x6 1 lie]=x8
  generalize D1 (Iz x6 1 lie) [lie,Mt x6 1 lie]=q at km
  simp only[List.mem_cons,List.not_mem_nil,or_false]at km
  have so:=A0j mass q x8 hm (by omega)
  generalize Ld mass q x8=r at so
  rw[Cu (x:=lie-q) (by omega) (by omega)]
  refine⟨h.push hs.2 hq.2 hm.1 (a:=⟨ho,p,0,r.1.Min,r.1.Max,true⟩) hp rfl ⟨⟨hho.1,hho.2.1,hho.2.2.1⟩,⟨by show (0:Int)≤p;omega,sp1⟩,⟨Int.le_refl _,by show (0:Int)<sorts;omega⟩,fun _=>rfl,⟨so.1,by show r.1.Min≤r.1.Max;omega,so.2.2.2⟩⟩ ⟨so.2.1,so.2.2.1⟩ (fun _=>by rw[← el];omega) (by rw[if_pos rfl,← el]) (by omega) (by rw[e];omega),hho.2.2.2⟩
 ·rw[if_neg c]
  generalize (if 0<lie then Cb x5 5 else x5)=x6
  have so:=A0j mass n x6 hm (by omega)
  generalize Ld mass n x6=r at so
  rw[Cu (x:=lie+n) (by omega) (by omega)]
  refine⟨h.push hs.2 hq.2 hm.1 (a:=⟨ho,p,kind,r.1.Min,r.1.Max,false⟩) hp rfl ⟨⟨hho.1,hho.2.1,hho.2.2.1⟩,⟨by show (0:Int)≤p;omega,sp1⟩,⟨ki0.1,ki1⟩,(fun hh=>by cases hh),⟨so.1,by show r.1.Min≤r.1.Max;omega,so.2.2.2⟩⟩ ⟨so.2.1,so.2.2.1⟩ (fun hh=>by cases hh) (by rw[if_neg (by simp),← el]) (by omega) (by rw[e];omega),hho.2.2.2⟩
theorem Vu.run {spots sorts:Nat}{mass hours:Int}(hs:1≤spots∧spots≤4)(hq:1≤sorts∧sorts≤4)(hm:1≤mass∧mass≤10000)(hh:0≤hours∧hours≤72):∀ (n:Nat)(s:Qf)(k:Nat),Vu spots sorts mass s k→s.hour≤hours→k+n≤10 →
  Vu spots sorts mass (Qf.run spots sorts mass hours n s) (k+n)
 | 0,s,k,h,_,_=>h
 | n+1,s,k,h,h1,h2=>by
  rw[Qf.run,show k+(n+1)=k+1+n by omega]
  obtain⟨a,b⟩:=h.step hs hq hm hh (by omega) h1
  exact Vu.run hs hq hm hh n _ (k+1) a b (by omega)
theorem A3u {x spots sorts acts mass hours:Int}(q1:1≤spots∧spots≤4)(q2:1≤sorts∧sorts≤4)(q3:0≤acts∧acts≤10)(q4:1≤mass∧mass≤10000)(q5:0≤hours∧hours≤72) :
  let M:=Es x spots sorts acts mass hours
  B6T M.g∧M.g.Spots.length≤4∧M.g.Sorts.length≤4∧M.g.Acts.length≤10∧M.truth.length=M.g.Acts.length∧∀ j:Nat,j<M.g.Spots.length→Mc j 0 (M.g.Acts.zip M.truth):=by
 have w1:=J2 (x:=x) (lo:=1) (hi:=spots) (by omega) (by omega) (by omega)
 unfold Es
 dsimp only
 have ok1:=A3q (Mt x 1 spots).toNat (Iz x 1 spots) [] (by simp)
 have ln1:=Sc (Mt x 1 spots).toNat (Iz x 1 spots) []
 generalize Of (Mt x 1 spots).toNat (Iz x 1 spots) []=a at ok1 ln1
 have w2:=J2 (x:=a.2) (lo:=1) (hi:=sorts) (by omega) (by omega) (by omega)
 have ok2:=A3r mass hours q4 q5 (Mt a.2 1 sorts).toNat (Iz a.2 1 sorts) [] (by simp)
 have ln2:=Sd (m:=mass) (h:=hours) (Mt a.2 1 sorts).toNat (Iz a.2 1 sorts) []
 generalize Og mass hours (Mt a.2 1 sorts).toNat (Iz a.2 1 sorts) []=b at ok2 ln2
 rw[Cu (x:=acts+1) (by omega) (by omega)]
 have w3:=Dw b.2 (acts+1) (by omega)
 have w3':=w3.2.1 (by omega)
 simp only[List.length_nil,Nat.zero_add]at ln1 ln2
 have start:Vu a.1.length b.1.length mass ⟨Cb b.2 (acts+1),0,List.replicate a.1.length 0,[],[]⟩ 0:=by
  refine⟨⟨Int.le_refl _,by show (0:Int)≤72;omega⟩,by simp,fun j hj=>?_,⟨rfl,rfl⟩,Int.le_refl _,fun _ _ _=>rfl,(fun a ha=>by cases ha),fun j hj=>⟨trivial, ?_⟩⟩
  ·have:(List.replicate a.1.length (0:Int)).getD j 0=0:=by simp[List.getD,hj]
   dsimp only
   rw[this];exact⟨Int.le_refl _,by simp⟩
  ·have:(List.replicate a.1.length (0:Int)).getD j 0=0:=by simp[List.getD,hj]
   dsimp only
   rw[this]
   try rfl
 have inv:=Vu.run (by omega) (by omega) q4 q5 (Cm b.2 (acts+1)).toNat _ 0 start q5.1 (by omega)
 generalize Qf.run a.1.length b.1.length mass hours (Cm b.2 (acts+1)).toNat ⟨Cb b.2 (acts+1),0,List.replicate a.1.length 0,[],[]⟩=st at inv
 have la:=inv.len
 have hck:check ⟨a.1,b.1,st.acts⟩=0:=by
  unfold check
  have m1:Oq (a.1.length:Nat) 4=0:=by unfold Oq;rw[if_neg (by omega),if_neg (by omega)]
  have m2:Oq (b.1.length:Nat) 4=0:=by unfold Oq;rw[if_neg (by omega),if_neg (by omega)]
  dsimp only
  rw[if_neg (by rw[m1];simp),if_pos (List.all_eq_true.2 ok1)]
  unfold Pd
  dsimp only
  rw[if_neg (by rw[m2];simp),if_pos (List.all_eq_true.2 ok2)]
  unfold Pc
  dsimp only
  rw[if_neg (by omega)]
  exact inv.chk _ rfl rfl
 have fi:=fun j hj=>(inv.fits j hj).1
 refine⟨⟨hck,fun j hj=>?_,inv.pos⟩,by omega,by omega,by omega,by omega,fi⟩
 exact B18 (g:=⟨a.1,b.1,st.acts⟩) (truth:=st.truth) (by dsimp only;omega) (by dsimp only;omega) (fi j hj)
abbrev Pf:=E8×Int
def Cw (spot:Int)(L:List Pf):Nat→Int
 | 0=>0
 | u+1=>Cw spot L u+if (L.getD u default).1.Spot=spot∧(L.getD u default).1.Take=false then (L.getD u default).2 else 0
def Cx (spot:Int)(L:List Pf):Nat→Int
 | 0=>0
 | u+1=>Cx spot L u+if (L.getD u default).1.Spot=spot∧(L.getD u default).1.Take=true then (L.getD u default).2 else 0
def Iv (spot:Int)(L:List E8):Nat→Int
 | 0=>0
 | u+1=>if (L.getD u default).Spot=spot∧(L.getD u default).Take=false then (L.getD u default).Kind else Iv spot L u
theorem K0 (spot:Int)(a:Pf)(L:List Pf):∀ u,Cw spot (a :: L) (u+1)=(if a.1.Spot=spot∧a.1.Take=false then a.2 else 0)+Cw spot L u
 | 0=>by simp[Cw]
 | u+1=>by
  have ih:=K0 spot a L u
  rw[Cw,ih,Cw]
  simp only[List.getD_cons_succ]
  omega
theorem K2 (spot:Int)(a:Pf)(L:List Pf):∀ u,Cx spot (a :: L) (u+1)=(if a.1.Spot=spot∧a.1.Take=true then a.2 else 0)+Cx spot L u
 | 0=>by simp[Cx]
 | u+1=>by
  have ih:=K2 spot a L u
  rw[Cx,ih,Cx]
  simp only[List.getD_cons_succ]
  omega
structure A55 (spot:Int)(L:List Pf)(lie:Int)(u:Nat):Prop where
 m:1≤(L.getD u default).1.Min∧(L.getD u default).1.Min≤(L.getD u default).2∧(L.getD u default).2≤(L.getD u default).1.Max∧(L.getD u default).1.Max≤1000000
 t:(L.getD u default).1.Take=true→(L.getD u default).2≤lie+Cw spot L u-Cx spot L u
theorem N3 (spot:Int):∀ (L:List Pf)(lie:Int),Mc spot lie L→∀ u,u<L.length→(L.getD u default).1.Spot=spot→A55 spot L lie u
 | [],_,_,u,h,_=>by simp at h
 | (a,t) :: L,lie,f,0,_,hs=>by
  rw[Mc]at f
  have hs:a.Spot=spot:=hs
  rw[if_pos hs]at f
  refine⟨f.1,fun ht=>?_⟩
  have ht:a.Take=true:=ht
  have f2:=f.2
  rw[if_pos ht]at f2
  show t≤lie+0-0
  have:=f2.1
  omega
 | (a,t) :: L,lie,f,u+1,h,hs=>by
  rw[Mc]at f
  have hu:u<L.length:=by simpa using h
  have hs:(L.getD u default).1.Spot=spot:=hs
  by_cases c:a.Spot=spot
  ·rw[if_pos c]at f
   by_cases ct:a.Take=true
   ·have f2:=f.2
    rw[if_pos ct]at f2
    obtain⟨m,k⟩:=N3 spot L _ f2.2 u hu hs
    refine⟨m,fun hh=>?_⟩
    have:=k hh
    rw[K0,K2,if_neg (by simp[ct]),if_pos ⟨c,ct⟩]
    show (L.getD u default).2≤_
    dsimp only
    omega
   ·have f2:=f.2
    rw[if_neg ct]at f2
    obtain⟨m,k⟩:=N3 spot L _ f2 u hu hs
    refine⟨m,fun hh=>?_⟩
    have:=k hh
    rw[K0,K2,if_pos ⟨c,by simpa using ct⟩,if_neg (by simp[ct])]
    show (L.getD u default).2≤_
    dsimp only
    omega
  ·rw[if_neg c]at f
   obtain⟨m,k⟩:=N3 spot L _ f u hu hs
   refine⟨m,fun hh=>?_⟩
   have:=k hh
   rw[K0,K2,if_neg (by simp[c]),if_neg (by simp[c])]
   show (L.getD u default).2≤_
   omega
theorem A3v (spot:Int)(a:E8):∀ (l:List E8)(i:Nat)(p:Hb),Hb.run spot i (l ++ [a]) p=if a.Spot=spot then (Hb.run spot i l p).step (i+l.length) a else Hb.run spot i l p
 | [],i,p=>rfl
 | b :: l,i,p=>by
  rw[List.cons_append,Hb.run,A3v spot a l (i+1),Hb.run,List.length_cons,show i+1+l.length=i+(l.length+1) by omega]
def Gp (spot:Int)(L:List E8)(u:Nat):Hb:=Hb.run spot 0 (L.take u) Oo
theorem J3 (spot:Int){L:List E8}{u:Nat}(h:u<L.length):Gp spot L (u+1)=if (L.getD u default).Spot=spot then (Gp spot L u).step u (L.getD u default) else Gp spot L u:=by
 unfold Gp
 rw[H6 h,A3v,List.length_take,Nat.min_eq_left (by omega),Nat.zero_add]
theorem A1N (spot:Int)(L:List E8):Gp spot L L.length=Hb.run spot 0 L Oo:=by unfold Gp;rw[List.take_length]
theorem Lt (v:Int)(m:On):∀ (l:List On)(out:On),Ft v out (l ++ [m])=if m.act<v then m else Ft v out l
 | [],out=>rfl
 | b :: l,out=>by
  rw[List.cons_append,Ft,Lt v m l,Ft]
theorem A3w (spot:Int)(L:List E8):∀ u,u≤L.length→(Gp spot L u).m.act<u∧∃ init,(Gp spot L u).ms=init ++ [(Gp spot L u).m]
 | 0,_=>⟨by show (-1:Int)<0;omega,[],rfl⟩
 | u+1,h=>by
  obtain⟨h1,i,h2⟩:=A3w spot L u (by omega)
  rw[J3 spot (by omega)]
  split
  ·unfold Hb.step
   split
   ·exact⟨by show (u:Int)<(u+1:Nat);omega,_,rfl⟩
   ·exact⟨by show (u:Int)<(u+1:Nat);omega,_,rfl⟩
  ·exact⟨by omega,i,h2⟩
theorem Xk (spot:Int)(L:List E8)(out:On){u:Nat}:∀ i,u+i≤L.length→Ft u out (Gp spot L (u+i)).ms=(Gp spot L u).m
 | 0,h=>by
  obtain⟨h1,i,h2⟩:=A3w spot L u h
  rw[Nat.add_zero,h2,Lt,if_pos h1]
 | i+1,h=>by
  have ih:=Xk spot L out (u:=u) i (by omega)
  rw[← Nat.add_assoc,J3 spot (by omega)]
  split
  ·unfold Hb.step
   split
   ·dsimp only
    rw[Lt,if_neg (by dsimp only;omega),ih]
   ·dsimp only
    rw[Lt,if_neg (by dsimp only;omega),ih]
  ·exact ih
theorem Hf (g:Cv)(spot:Int){u:Nat}(hu:u≤g.Acts.length):(Co g spot).1.before u=(Gp spot g.Acts u).m:=by
 have:=Xk spot g.Acts ((Co g spot).1.m.getD 0 default) (u:=u) (g.Acts.length-u) (by omega)
 rw[show u+(g.Acts.length-u)=g.Acts.length by omega,A1N]at this
 exact this
theorem B2a {s:E1}{a b:Nat}{m:Int}(ha:a<11)(hb:b<11)(haa:s.mat a a=0)(hbb:s.mat b b=0)(h1:-1000000≤m)(h2:m≤1000000)(h:(s.know a b m).2=true):(s.know a b m).1.mat a b≤m:=by
 by_cases c1:Dz (s.mat b a+m)<0
 ·have:Swa.know s.1 a b m=(s.1,false):=by
   unfold Swa.know
   have c1':Dz (mat s.1 b a+m)<0:=c1
   rw[if_pos c1']
  have h':(Swa.know s.1 a b m).2=true:=h
  rw[this]at h'
  cases h'
 ·by_cases c2:s.mat a b≤m
  ·rw[P9 c1 c2];exact c2
  ·obtain⟨_,k⟩:=Kz c1 c2
   have hf:far=1099511627776:=rfl
   rw[k a b ha hb,Vt,haa,hbb,if_pos ⟨by omega,by omega⟩,Cu (x:=0+m) (by omega) (by omega),Cu (by omega) (by omega)]
   omega
theorem A56 {s:E1}{a b:Nat}{m:Int}{i k:Nat}(hi:i<11)(hk:k<11):(s.know a b m).1.mat i k≤s.mat i k:=by
 by_cases c1:Dz (s.mat b a+m)<0
 ·have:s.know a b m=(s,false):=by
   unfold E1.know
   have e:Swa.know s.1 a b m=(s.1,false):=by
    unfold Swa.know
    have c1':Dz (mat s.1 b a+m)<0:=c1
    rw[if_pos c1']
   congr 1
   ·apply Subtype.ext
    show (Swa.know s.1 a b m).1=s.1
    rw[e]
   ·rw[e]
  rw[this];exact Int.le_refl _
 ·by_cases c2:s.mat a b≤m
  ·rw[P9 c1 c2];exact Int.le_refl _
  ·obtain⟨_,k'⟩:=Kz c1 c2
   rw[k' i k hi hk,Vt]
   split
   ·omega
   ·exact Int.le_refl _
def A0k (L:List Pf):Prop:=∀ u,u<L.length→(L.getD u default).1.Min=(L.getD u default).2∧(L.getD u default).1.Max=(L.getD u default).2
structure PX (spot:Int)(L:List Pf)(i:Nat)(x:Nat→Int):Prop where
 ok:(Gp spot (L.map (·.1)) i).ok=true
 nx:(Gp spot (L.map (·.1)) i).next≤i
 tab:Tab (Gp spot (L.map (·.1)) i).s.mat (Gp spot (L.map (·.1)) i).next x
 hist:∀ u,u≤i→(Gp spot (L.map (·.1)) u).next≤(Gp spot (L.map (·.1)) i).next∧(Gp spot (L.map (·.1)) u).m.tips≤(Gp spot (L.map (·.1)) u).next∧(Gp spot (L.map (·.1)) u).m.takes≤(Gp spot (L.map (·.1)) u).next ∧
  x (Gp spot (L.map (·.1)) u).m.tips=Cw spot L u∧x (Gp spot (L.map (·.1)) u).m.takes=Cx spot L u∧(Gp spot (L.map (·.1)) u).m.kind=Iv spot (L.map (·.1)) u
 tight:A0k L→∀ a b,a≤(Gp spot (L.map (·.1)) i).next→b≤(Gp spot (L.map (·.1)) i).next→(Gp spot (L.map (·.1)) i).s.mat a b≤x b-x a
theorem Pg (L:List Pf)(u:Nat):(L.map (·.1)).getD u default=(L.getD u default).1:=by
 simp only[List.getD,List.getElem?_map]
 cases L[u]? <;> rfl
theorem PX.start (spot:Int)(L:List Pf):PX spot L 0 fun _=>0:=by
 obtain⟨x,hx,_⟩:=M3.start.tab
 have h00:=hx.diag 0 (by omega)
 refine⟨rfl,Nat.le_refl _,⟨hx.n10,hx.hi,hx.out,hx.diag,fun a b ha hb=>?_,hx.tri,fun _ _=>Int.le_refl _,fun _ _=>by show (0:Int)≤((0:Nat):Int)*1000000;omega⟩,fun u hu=>?_,fun _ a b ha hb=>?_⟩
 ·have e1:a=0:=Nat.le_zero.1 ha
  have e2:b=0:=Nat.le_zero.1 hb
  subst e1;subst e2
  show (0:Int)-0≤Oo.s.mat 0 0
  rw[h00];omega
 ·obtain rfl:u=0:=by omega
  exact⟨Nat.le_refl _,Nat.le_refl _,Nat.le_refl _,rfl,rfl,rfl⟩
 ·have e1:a=0:=Nat.le_zero.1 ha
  have e2:b=0:=Nat.le_zero.1 hb
  subst e1;subst e2
  show Oo.s.mat 0 0≤(0:Int)-0
  rw[h00];omega
theorem Tab.addT {s:E1}{n:Nat}{x:Nat→Int}(h:Tab s.mat n x)(hn:n<10){p:Nat}{t:Int}(hp:p≤n)(l1:1≤t)(l4:t≤1000000)(k0:∀ a b,a≤n→b≤n→s.mat a b≤x b-x a) :
  ∀ a b,a≤n+1→b≤n+1→((s.know p (n+1) t).1.know (n+1) p (Dz (0-t))).1.mat a b≤(if b=n+1 then x p+t else x b)-if a=n+1 then x p+t else x a:=by
 obtain⟨k1,k2,k3,k4,k5⟩:=h.add hn (p:=p) (lo:=t) (hi:=t) (t:=t) hp l1 (Int.le_refl _) (Int.le_refl _) l4
 have q:=B2a (s:=s) (a:=p) (b:=n+1) (m:=t) (by omega) (by omega) (h.diag p (by omega)) (h.diag (n+1) (by omega)) (by omega) (by omega) k1
 have q2:=A56 (s:=(s.know p (n+1) t).1) (a:=n+1) (b:=p) (m:=Dz (0-t)) (i:=p) (k:=n+1) (by omega) (by omega)
 generalize ((s.know p (n+1) t).1.know (n+1) p (Dz (0-t))).1=y at k2 k3 k4 k5 q2
 have dd:=k3.diag (n+1) (by omega)
 intro a b ha hb
 by_cases e1:a=n+1
 ·by_cases e2:b=n+1
  ·rw[if_pos e1,if_pos e2,e1,e2,dd];omega
  ·rw[if_pos e1,if_neg e2,e1,k5 b (by omega)]
   have:=k0 p b hp (by omega)
   omega
 ·by_cases e2:b=n+1
  ·rw[if_neg e1,if_pos e2,e2]
   have t1:=k3.tri a p (n+1) (by omega) (by omega) (by omega)
   rw[k4 a p (by omega) hp]at t1
   have:=k0 a p (by omega) hp
   omega
  ·rw[if_neg e1,if_neg e2,k4 a b (by omega) (by omega)]
   exact k0 a b (by omega) (by omega)
theorem PX.step {spot:Int}{L:List Pf}{i:Nat}{x:Nat→Int}(h:PX spot L i x)(hi:i<L.length)(hl:L.length≤10)(hf:(L.getD i default).1.Spot=spot→A55 spot L 0 i):∃ x',PX spot L (i+1) x':=by
 have hi':i<(L.map (·.1)).length:=by simpa using hi
 have e0:=J3 spot hi'
 rw[Pg]at e0
 by_cases hs:(L.getD i default).1.Spot=spot
 ·rw[if_pos hs]at e0
  obtain⟨q,qt⟩:=hf hs
  obtain⟨n1,mt1,mt2,t1,t2,t3⟩:=h.hist i (Nat.le_refl _)
  have hn:=h.nx
  have hk:h.tab.n10=h.tab.n10:=rfl
  by_cases ht:(L.getD i default).1.Take=true
  ·rw[Hb.step_take ht]at e0
   have qt:=qt ht
   obtain⟨k1,k2,k3,k4,k5⟩:=h.tab.add (by omega) mt2 q.1 q.2.1 q.2.2.1 q.2.2.2
   have kt:A0k L→_:=fun ex=>h.tab.addT (by omega) (p:=(Gp spot (L.map (·.1)) i).m.takes) (t:=(L.getD i default).2) mt2 (by omega) (by omega) (h.tight ex)
   have htk:(Gp spot (L.map (·.1)) i).tk (L.getD i default).1=(((Gp spot (L.map (·.1)) i).s.know (Gp spot (L.map (·.1)) i).m.takes ((Gp spot (L.map (·.1)) i).next+1) (L.getD i default).1.Max).1.know ((Gp spot (L.map (·.1)) i).next+1) (Gp spot (L.map (·.1)) i).m.takes (Dz (0-(L.getD i default).1.Min))).1.know (Gp spot (L.map (·.1)) i).m.tips ((Gp spot (L.map (·.1)) i).next+1) 0:=by
    unfold Hb.tk In
    simp only[h.ok,if_true,k1,k2]
   rw[htk]at e0
   have kt:A0k L→∀ a b,a≤(Gp spot (L.map (·.1)) i).next+1→b≤(Gp spot (L.map (·.1)) i).next+1→(((Gp spot (L.map (·.1)) i).s.know (Gp spot (L.map (·.1)) i).m.takes ((Gp spot (L.map (·.1)) i).next+1) (L.getD i default).1.Max).1.know ((Gp spot (L.map (·.1)) i).next+1) (Gp spot (L.map (·.1)) i).m.takes (Dz (0-(L.getD i default).1.Min))).1.mat a b≤(if b=(Gp spot (L.map (·.1)) i).next+1 then x (Gp spot (L.map (·.1)) i).m.takes+(L.getD i default).2 else x b)-if a=(Gp spot (L.map (·.1)) i).next+1 then x (Gp spot (L.map (·.1)) i).m.takes+(L.getD i default).2 else x a:=by
    intro ex
    have:=kt ex
    obtain⟨x1,x2⟩:=ex i hi
    rw[x1,x2]
    exact this
   obtain⟨z1,z2,z3,z4⟩:=k3.more (a:=(Gp spot (L.map (·.1)) i).m.tips) (b:=(Gp spot (L.map (·.1)) i).next+1) (m:=0) (by omega) (Nat.le_refl _) (by
    rw[if_pos rfl,if_neg (by omega)]
    omega) (by omega) (by omega)
   refine⟨fun j=>if j=(Gp spot (L.map (·.1)) i).next+1 then x (Gp spot (L.map (·.1)) i).m.takes+(L.getD i default).2 else x j, ?_, ?_, ?_, ?_, ?_⟩
   rotate_left 2
   ·rw[e0];exact z2
   ·intro u hu
    by_cases eu:u=i+1
    ·subst eu
     rw[e0]
     refine⟨Nat.le_refl _,by dsimp only;omega,Nat.le_refl _, ?_, ?_, ?_⟩
     ·dsimp only
      rw[if_neg (by omega),t1,Cw,if_neg (fun q=>by rw[ht]at q;cases q.2)];omega
     ·dsimp only
      rw[if_pos rfl,t2,Cx,if_pos ⟨hs,ht⟩]
     ·dsimp only
      rw[t3,Iv,Pg,if_neg (fun q=>by rw[ht]at q;cases q.2)]
    ·obtain⟨n1,m1,m2,t1,t2,t3⟩:=h.hist u (by omega)
     rw[e0]
     dsimp only
     rw[if_neg (by omega),if_neg (by omega)]
     exact⟨by omega,m1,m2,t1,t2,t3⟩
   ·intro ex a b ha hb
    rw[e0]at ha hb ⊢
    have:=kt ex a b ha hb
    have w:=z3 a b ha hb
    dsimp only
    omega
   ·rw[e0];exact z1
   ·rw[e0];show _+1≤_;omega
  ·rw[Hb.step_tip ht]at e0
   have ht':(L.getD i default).1.Take=false:=by simpa using ht
   obtain⟨k1,k2,k3,k4,k5⟩:=h.tab.add (by omega) mt1 q.1 q.2.1 q.2.2.1 q.2.2.2
   have kt:A0k L→_:=fun ex=>h.tab.addT (by omega) (p:=(Gp spot (L.map (·.1)) i).m.tips) (t:=(L.getD i default).2) mt1 (by omega) (by omega) (h.tight ex)
   have htp:(Gp spot (L.map (·.1)) i).tp (L.getD i default).1=((Gp spot (L.map (·.1)) i).s.know (Gp spot (L.map (·.1)) i).m.tips ((Gp spot (L.map (·.1)) i).next+1) (L.getD i default).1.Max).1.know ((Gp spot (L.map (·.1)) i).next+1) (Gp spot (L.map (·.1)) i).m.tips (Dz (0-(L.getD i default).1.Min)):=by
    unfold Hb.tp In
    simp only[h.ok,if_true,k1]
   rw[htp]at e0
   have kt:A0k L→∀ a b,a≤(Gp spot (L.map (·.1)) i).next+1→b≤(Gp spot (L.map (·.1)) i).next+1→(((Gp spot (L.map (·.1)) i).s.know (Gp spot (L.map (·.1)) i).m.tips ((Gp spot (L.map (·.1)) i).next+1) (L.getD i default).1.Max).1.know ((Gp spot (L.map (·.1)) i).next+1) (Gp spot (L.map (·.1)) i).m.tips (Dz (0-(L.getD i default).1.Min))).1.mat a b≤(if b=(Gp spot (L.map (·.1)) i).next+1 then x (Gp spot (L.map (·.1)) i).m.tips+(L.getD i default).2 else x b)-if a=(Gp spot (L.map (·.1)) i).next+1 then x (Gp spot (L.map (·.1)) i).m.tips+(L.getD i default).2 else x a:=by
    intro ex
    have:=kt ex
    obtain⟨x1,x2⟩:=ex i hi
    rw[x1,x2]
    exact this
   refine⟨fun j=>if j=(Gp spot (L.map (·.1)) i).next+1 then x (Gp spot (L.map (·.1)) i).m.tips+(L.getD i default).2 else x j, ?_, ?_, ?_, ?_, ?_⟩
   rotate_left 2
   ·rw[e0];exact k3
   ·intro u hu
    by_cases eu:u=i+1
    ·subst eu
     rw[e0]
     refine⟨Nat.le_refl _,Nat.le_refl _,by dsimp only;omega, ?_, ?_, ?_⟩
     ·dsimp only
      rw[if_pos rfl,t1,Cw,if_pos ⟨hs,ht'⟩]
     ·dsimp only
      rw[if_neg (by omega),t2,Cx,if_neg (fun q=>by rw[ht']at q;cases q.2)];omega
     ·dsimp only
      rw[Iv,Pg,if_pos ⟨hs,ht'⟩]
    ·obtain⟨n1,m1,m2,t1,t2,t3⟩:=h.hist u (by omega)
     rw[e0]
     dsimp only
     rw[if_neg (by omega),if_neg (by omega)]
     exact⟨by omega,m1,m2,t1,t2,t3⟩
   ·intro ex a b ha hb
    rw[e0]at ha hb ⊢
    exact kt ex a b ha hb
   ·rw[e0];exact k2
   ·rw[e0];show _+1≤_;omega
 ·rw[if_neg hs]at e0
  refine⟨x,by rw[e0];exact h.ok,by rw[e0];exact Nat.le_succ_of_le h.nx,by rw[e0];exact h.tab,fun u hu=>?_,fun ex=>by rw[e0];exact h.tight ex⟩
  by_cases eu:u=i+1
  ·subst eu
   obtain⟨n1,m1,m2,t1,t2,t3⟩:=h.hist i (Nat.le_refl _)
   rw[e0]
   refine⟨Nat.le_refl _,m1,m2, ?_, ?_, ?_⟩
   ·rw[t1,Cw,if_neg (fun q=>hs q.1)];omega
   ·rw[t2,Cx,if_neg (fun q=>hs q.1)];omega
   ·rw[t3,Iv,Pg,if_neg (fun q=>hs q.1)]
  ·rw[e0];exact h.hist u (by omega)
theorem PX.all {spot:Int}{L:List Pf}(hl:L.length≤10)(hf:Mc spot 0 L):∀ i,i≤L.length→∃ x,PX spot L i x
 | 0,_=>⟨_,PX.start spot L⟩
 | i+1,h=>by
  obtain⟨x,hx⟩:=PX.all hl hf i (by omega)
  exact hx.step (by omega) hl fun hs=>N3 spot L 0 hf i (by omega) hs
structure U0 (g:Cv)(spot:Int)(truth:List Int)(n:Nat)(x:Nat→Int):Prop where
 ok:(Co g spot).2=true
 tab:Tab (Co g spot).1.s.mat n x
 mom:∀ u,u≤g.Acts.length→((Co g spot).1.before u).tips≤n∧((Co g spot).1.before u).takes≤n∧x ((Co g spot).1.before u).tips=Cw spot (g.Acts.zip truth) u∧x ((Co g spot).1.before u).takes=Cx spot (g.Acts.zip truth) u ∧
  ((Co g spot).1.before u).kind=Iv spot g.Acts u
 tight:A0k (g.Acts.zip truth)→∀ a b,a≤n→b≤n→(Co g spot).1.s.mat a b≤x b-x a
theorem B5q {g:Cv}{spot:Int}{truth:List Int}(hl:g.Acts.length≤10)(he:truth.length=g.Acts.length)(hf:Mc spot 0 (g.Acts.zip truth)):∃ n x,U0 g spot truth n x:=by
 have hz:(g.Acts.zip truth).map (·.1)=g.Acts:=by
  rw[List.map_fst_zip]
  omega
 have hzl:(g.Acts.zip truth).length=g.Acts.length:=by rw[List.length_zip];omega
 obtain⟨x,h⟩:=PX.all (by omega) hf (g.Acts.zip truth).length (Nat.le_refl _)
 have ep:∀ a:Hb,a=Gp spot g.Acts g.Acts.length→Co g spot=(⟨a.s,a.ms⟩,a.ok):=by
  intro a ha
  rw[ha,A1N];rfl
 have ep:=ep _ rfl
 refine⟨(Gp spot g.Acts g.Acts.length).next,x, ?_, ?_,fun u hu=>?_,fun ex=>?_⟩
 rotate_left
 ·have:=h.tab
  rw[hz,hzl]at this
  rw[ep];exact this
 ·rw[Hf g spot hu]
  have:=h.hist u (by omega)
  rw[hz,hzl]at this
  exact⟨Nat.le_trans this.2.1 this.1,Nat.le_trans this.2.2.1 this.1,this.2.2.2.1,this.2.2.2.2.1,this.2.2.2.2.2⟩
 ·have:=h.tight ex
  rw[hz,hzl]at this
  rw[ep];exact this
 ·have:=h.ok
  rw[hz,hzl]at this
  rw[ep];exact this
def Ph (A:List E8)(spot:Int)(s:Int×List Int)(k:Nat):Int×List Int :=
 if (A.getD k default).Spot=spot∧(A.getD k default).Take=false then
  (Dz (s.1-min s.1 (s.2.getD k 0)),s.2.set k (Dz (s.2.getD k 0-min s.1 (s.2.getD k 0))))
 else s
def Se (A:List E8)(spot:Int)(i:Nat)(s:Int×List Int):Int×List Int:=(List.range i).foldl (Ph A spot) s
structure M4 where
 left:List Int
 last:List Int
def Mv (A:List E8)(truth:List Int)(d:M4)(i:Nat):M4 :=
 if (A.getD i default).Take=true then ⟨(Se A (A.getD i default).Spot i (truth.getD i 0,d.left)).2,d.last⟩
 else ⟨d.left.set i (truth.getD i 0),d.last.set (A.getD i default).Spot.toNat i⟩
def Cf (g:Cv)(truth:List Int)(n:Nat):M4:=(List.range n).foldl (Mv g.Acts truth) ⟨List.replicate g.Acts.length 0,List.replicate g.Spots.length (-1)⟩
def Ct (g:Cv)(truth:List Int)(acts:Nat)(hour:Int):M4:=Cf g truth (min acts (B5 hour g.Acts))
def Lf (A:List E8)(left:List Int)(spot:Int)(n:Nat):Int:=(List.range n).foldl (fun s i=>if (A.getD i default).Spot=spot then Dz (s+left.getD i 0) else s) 0
def M4.mass (d:M4)(g:Cv)(spot:Int):Int:=Lf g.Acts d.left spot d.left.length
theorem Q9 (A:List E8)(spot:Int)(i:Nat)(s:Int×List Int):Se A spot (i+1) s=Ph A spot (Se A spot i s) i:=Fk _ _ _
theorem Mw (g:Cv)(truth:List Int)(n:Nat):Cf g truth (n+1)=Mv g.Acts truth (Cf g truth n) n:=Fk _ _ _
theorem Pi (A:List E8)(left:List Int)(spot:Int)(n:Nat):Lf A left spot (n+1)=if (A.getD n default).Spot=spot then Dz (Lf A left spot n+left.getD n 0) else Lf A left spot n:=Fk _ _ _
def H9 (A:List E8)(left:List Int)(spot:Int):Nat→Int
 | 0=>0
 | u+1=>H9 A left spot u+if (A.getD u default).Spot=spot then left.getD u 0 else 0
theorem Jq {A:List E8}{l m:List Int}{spot:Int}:∀ (u:Nat),(∀ k,k<u→(A.getD k default).Spot=spot→l.getD k 0=m.getD k 0)→H9 A l spot u=H9 A m spot u
 | 0,_=>rfl
 | u+1,h=>by
  rw[H9,H9,Jq u fun k hk=>h k (by omega)]
  by_cases c:(A.getD u default).Spot=spot
  ·rw[if_pos c,if_pos c,h u (by omega) c]
  ·rw[if_neg c,if_neg c]
theorem Pj {A:List E8}{l:List Int}{spot:Int}(h:∀ k,0≤l.getD k 0):∀ u,0≤H9 A l spot u
 | 0=>Int.le_refl _
 | u+1=>by
  have:=Pj h u (A:=A) (spot:=spot)
  rw[H9]
  have:=h u
  split <;> omega
structure TkI (A:List E8)(spot:Int)(t:Int)(l0:List Int)(k:Nat)(s:Int×List Int):Prop where
 len:s.2.length=l0.length
 rest:∀ j,k≤j→s.2.getD j 0=l0.getD j 0
 other:∀ j,(A.getD j default).Spot≠spot→s.2.getD j 0=l0.getD j 0
 bd:∀ j,0≤s.2.getD j 0∧s.2.getD j 0≤l0.getD j 0
 sum:∀ j,j≤k→H9 A s.2 spot j=max 0 (H9 A l0 spot j-t)
 n:s.1=max 0 (t-H9 A l0 spot k)
theorem A4O {A:List E8}{spot t:Int}{l0:List Int}(ht:0≤t∧t≤1000000)(hb:∀ j,0≤l0.getD j 0∧l0.getD j 0≤1000000)(hz:∀ j,(A.getD j default).Take=true→l0.getD j 0=0):∀ k,k≤l0.length→TkI A spot t l0 k (Se A spot k (t,l0))
 | 0,_=>⟨rfl,fun _ _=>rfl,fun _ _=>rfl,fun j=>⟨(hb j).1,Int.le_refl _⟩,fun j hj=>by
   obtain rfl:j=0:=by omega
   show (0:Int)=max 0 (0-t);omega,by show t=max 0 (t-0);omega⟩
 | k+1,h=>by
  have I:=A4O ht hb hz k (by omega) (spot:=spot)
  rw[Q9]
  generalize Se A spot k (t,l0)=s at I
  unfold Ph
  have hk:=I.bd k
  have hbk:=hb k
  have hr:=I.rest k (Nat.le_refl _)
  have hn:=I.n
  have h0:=Pj (A:=A) (spot:=spot) (fun k=>(hb k).1) k
  by_cases c:(A.getD k default).Spot=spot∧(A.getD k default).Take=false
  ·rw[if_pos c]
   have b1:Dz (s.1-min s.1 (s.2.getD k 0))=s.1-min s.1 (s.2.getD k 0):=Cu (by omega) (by omega)
   have b2:Dz (s.2.getD k 0-min s.1 (s.2.getD k 0))=s.2.getD k 0-min s.1 (s.2.getD k 0):=Cu (by omega) (by omega)
   rw[b1,b2]
   have hlen:=I.len
   refine⟨by simp[I.len],fun j hj=>?_,fun j hj=>?_,fun j=>?_,fun j hj=>?_, ?_⟩
   ·dsimp only
    rw[El,if_neg (by omega)];exact I.rest j (by omega)
   ·dsimp only
    rw[El,if_neg (fun(q:k=j∧k<s.2.length)=>hj (by rw[← q.1];exact c.1))];exact I.other j hj
   ·dsimp only
    rw[El]
    split
    ·rename_i e
     have:=I.bd j
     rw[← e.1,← hr];omega
    ·exact I.bd j
   ·dsimp only
    by_cases ej:j=k+1
    ·subst ej
     rw[H9,H9,if_pos c.1,if_pos c.1,El,if_pos ⟨rfl,by omega⟩,Jq (m:=s.2) k fun q hq _=>by rw[El,if_neg (by omega)]]
     have:=I.sum k (Nat.le_refl _)
     omega
    ·rw[Jq (m:=s.2) j fun q hq _=>by rw[El,if_neg (by omega)]]
     exact I.sum j (by omega)
   ·dsimp only
    rw[H9,if_pos c.1]
    omega
  ·rw[if_neg c]
   have hz0:(A.getD k default).Spot=spot→l0.getD k 0=0:=fun e=>hz k (by
    cases hh:(A.getD k default).Take with
    | true=>rfl
    | false=>exact absurd ⟨e,hh⟩ c)
   refine⟨I.len,fun j hj=>I.rest j (by omega),I.other,I.bd,fun j hj=>?_, ?_⟩
   ·by_cases ej:j=k+1
    ·subst ej
     have:=I.sum k (Nat.le_refl _)
     rw[H9,H9]
     by_cases e:(A.getD k default).Spot=spot
     ·rw[if_pos e,if_pos e,hr,hz0 e];omega
     ·rw[if_neg e,if_neg e];omega
    ·exact I.sum j (by omega)
   ·rw[H9]
    by_cases e:(A.getD k default).Spot=spot
    ·rw[if_pos e,hz0 e];omega
    ·rw[if_neg e];omega
structure B2b (g:Cv)(truth:List Int):Prop where
 len:truth.length=g.Acts.length
 l10:g.Acts.length≤10
 m:∀ u,u<g.Acts.length→1≤truth.getD u 0∧truth.getD u 0≤1000000
 spot:∀ u,u<g.Acts.length→0≤(g.Acts.getD u default).Spot∧(g.Acts.getD u default).Spot<g.Spots.length
def If (spot:Int)(L:List E8):Nat→Int
 | 0=>-1
 | u+1=>if (L.getD u default).Spot=spot∧(L.getD u default).Take=false then u else If spot L u
structure B38 (g:Cv)(truth:List Int)(n:Nat)(d:M4):Prop where
 len:d.left.length=g.Acts.length
 last:d.last.length=g.Spots.length
 lst:∀ j,j<g.Spots.length→d.last.getD j 0=If j g.Acts n
 bd:∀ j,0≤d.left.getD j 0∧d.left.getD j 0≤1000000
 zero:∀ j,n≤j→d.left.getD j 0=0
 tk:∀ j,(g.Acts.getD j default).Take=true→d.left.getD j 0=0
 sum:∀ (spot:Int) (j:Nat),j≤n→H9 g.Acts d.left spot j=max 0 (Cw spot (g.Acts.zip truth) j-Cx spot (g.Acts.zip truth) n)
theorem Ia {g:Cv}{truth:List Int}(h:truth.length=g.Acts.length){u:Nat}(hu:u<g.Acts.length):(g.Acts.zip truth).getD u default=(g.Acts.getD u default,truth.getD u 0):=by
 have h2:u<truth.length:=by omega
 have h3:u<(g.Acts.zip truth).length:=by rw[List.length_zip];omega
 rw[List.getD,List.getElem?_eq_getElem h3,List.getElem_zip]
 simp[List.getD,hu,h2]
theorem Hq {g:Cv}{truth:List Int}(f:B2b g truth)(spot:Int):∀ u,u≤g.Acts.length→0≤Cw spot (g.Acts.zip truth) u∧Cw spot (g.Acts.zip truth) u≤u*1000000∧0≤Cx spot (g.Acts.zip truth) u∧Cx spot (g.Acts.zip truth) u≤u*1000000
 | 0,_=>by show (0:Int)≤0∧(0:Int)≤((0:Nat):Int)*1000000∧(0:Int)≤0∧(0:Int)≤((0:Nat):Int)*1000000;omega
 | u+1,h=>by
  have ih:=Hq f spot u (by omega)
  have hm:=f.m u (by omega)
  rw[Cw,Cx,Ia f.len (by omega)]
  dsimp only
  split <;> split <;> omega
theorem A1O {g:Cv}{truth:List Int}(f:B2b g truth)(fit:∀ spot u,u≤g.Acts.length→Cx spot (g.Acts.zip truth) u≤Cw spot (g.Acts.zip truth) u):∀ n,n≤g.Acts.length→B38 g truth n (Cf g truth n)
 | 0,_=>by
  have hz:∀ j,(List.replicate g.Acts.length (0:Int)).getD j 0=0:=fun j=>by
   simp only[List.getD,List.getElem?_replicate]
   split <;> rfl
  refine⟨by simp[Cf],by simp[Cf],fun j hj=>?_,fun j=>?_,fun j _=>hz j,fun j _=>hz j,fun spot j hj=>?_⟩
  ·show (List.replicate g.Spots.length (-1:Int)).getD j 0 = -1
   simp[List.getD,hj]
  ·show 0≤(List.replicate g.Acts.length (0:Int)).getD j 0∧(List.replicate g.Acts.length (0:Int)).getD j 0≤1000000
   rw[hz];omega
  ·obtain rfl:j=0:=by omega
   show (0:Int)=max 0 (0-0)
   omega
 | n+1,h=>by
  have I:=A1O f fit n (by omega)
  rw[Mw]
  generalize Cf g truth n=d at I
  have hm:=f.m n (by omega)
  have hsp:=f.spot n (by omega)
  have hlen:=I.len
  have hzg:=Ia f.len (show n<g.Acts.length by omega)
  unfold Mv
  by_cases c:(g.Acts.getD n default).Take=true
  ·rw[if_pos c]
   have T:=A4O (A:=g.Acts) (spot:=(g.Acts.getD n default).Spot) (t:=truth.getD n 0) (l0:=d.left) (by omega) I.bd I.tk n (by omega)
   generalize Se g.Acts (g.Acts.getD n default).Spot n (truth.getD n 0,d.left)=s at T
   refine⟨by rw[← I.len];exact T.len,I.last,fun j hj=>?_,fun j=>?_,fun j hj=>?_,fun j hj=>?_,fun spot j hj=>?_⟩
   ·dsimp only
    rw[I.lst j hj,If,if_neg (fun q=>by rw[c]at q;cases q.2)]
   ·have:=T.bd j;have:=I.bd j;dsimp only;omega
   ·have:=T.rest j (by omega)
    dsimp only
    rw[this];exact I.zero j (by omega)
   ·have:=T.bd j;have:=I.tk j hj;dsimp only;omega
   ·have ht:∀ j,j≤n→H9 g.Acts s.2 spot j=max 0 (Cw spot (g.Acts.zip truth) j-Cx spot (g.Acts.zip truth) (n+1)):=by
     intro j hj
     rw[Cx,hzg]
     dsimp only
     have i1:=I.sum spot j hj
     by_cases e:(g.Acts.getD n default).Spot=spot
     ·subst e
      rw[if_pos ⟨rfl,c⟩,T.sum j hj,i1]
      omega
     ·rw[if_neg (fun q=>e q.1),Jq (m:=d.left) j fun k hk hs=>T.other k (by rw[hs];exact fun q=>e q.symm),i1]
      omega
    dsimp only
    by_cases ej:j=n+1
    ·subst ej
     rw[H9,ht n (Nat.le_refl _),T.rest n (Nat.le_refl _),I.zero n (Nat.le_refl _),Cw,hzg]
     dsimp only
     have e2:¬ ((g.Acts.getD n default).Spot=spot∧(g.Acts.getD n default).Take=false):=fun q=>by rw[c]at q;cases q.2
     rw[if_neg e2]
     split <;> omega
    ·exact ht j (by omega)
  ·rw[if_neg c]
   have c':(g.Acts.getD n default).Take=false:=by simpa using c
   refine⟨by simp[I.len],by simp[I.last],fun j hj=>?_,fun j=>?_,fun j hj=>?_,fun j hj=>?_,fun spot j hj=>?_⟩
   ·dsimp only
    have hil:=I.last
    rw[El,If,I.lst j hj]
    by_cases e:(g.Acts.getD n default).Spot.toNat=j
    ·rw[if_pos ⟨e,by omega⟩,if_pos ⟨by omega,c'⟩]
    ·rw[if_neg (fun q=>e q.1),if_neg (fun q=>by have:=q.1;omega)]
   ·dsimp only
    rw[El]
    split
    ·omega
    ·exact I.bd j
   ·dsimp only
    rw[El,if_neg (by omega)];exact I.zero j (by omega)
   ·dsimp only
    rw[El,if_neg (fun q=>by rw[q.1]at c';rw[hj]at c';cases c')];exact I.tk j hj
   ·dsimp only
    have ht:∀ j,j≤n→H9 g.Acts (d.left.set n (truth.getD n 0)) spot j=max 0 (Cw spot (g.Acts.zip truth) j-Cx spot (g.Acts.zip truth) (n+1)):=by
     intro j hj
     rw[Jq (m:=d.left) j fun k hk hs=>by rw[El,if_neg (by omega)],I.sum spot j hj,Cx,hzg]
     dsimp only
     rw[if_neg (fun q=>by rw[c']at q;cases q.2)]
     omega
    by_cases ej:j=n+1
    ·subst ej
     rw[H9,ht n (Nat.le_refl _),El,if_pos (show n=n∧n<d.left.length from⟨rfl,by omega⟩),Cw,hzg]
     dsimp only
     have fi:=fit spot n (by omega)
     have ek:Cx spot (g.Acts.zip truth) (n+1)=Cx spot (g.Acts.zip truth) n:=by
      rw[Cx,hzg]
      dsimp only
      rw[if_neg (fun q=>by rw[c']at q;cases q.2)]
      omega
     by_cases e:(g.Acts.getD n default).Spot=spot
     ·rw[if_pos e,if_pos ⟨e,c'⟩];omega
     ·rw[if_neg e,if_neg (fun q=>e q.1)];omega
    ·exact ht j (by omega)
theorem Xl {A:List E8}{left:List Int}{spot:Int}(hb:∀ j,0≤left.getD j 0∧left.getD j 0≤1000000):∀ n,n≤1000→Lf A left spot n=H9 A left spot n∧0≤H9 A left spot n∧H9 A left spot n≤n*1000000
 | 0,_=>⟨rfl,Int.le_refl _,by show (0:Int)≤((0:Nat):Int)*1000000;omega⟩
 | n+1,h=>by
  obtain⟨i1,i2,i3⟩:=Xl hb n (by omega) (A:=A) (spot:=spot)
  have:=hb n
  rw[Pi,H9,i1]
  split
  ·rw[Cu (by omega) (by omega)];omega
  ·omega
theorem E4 (hour:Int):∀ l:List E8,B5 hour l≤l.length
 | []=>Nat.le_refl _
 | a :: l=>by
  have:=E4 hour l
  rw[B5]
  split
  ·simp;omega
  ·omega
theorem A9Y {g:Cv}{truth:List Int}(f:B2b g truth)(fit:∀ spot u,u≤g.Acts.length→Cx spot (g.Acts.zip truth) u≤Cw spot (g.Acts.zip truth) u){n:Nat}(hn:n≤g.Acts.length)(spot:Int) :
  (Cf g truth n).mass g spot=Cw spot (g.Acts.zip truth) n-Cx spot (g.Acts.zip truth) n:=by
 have I:=A1O f fit n hn
 have h10:=f.l10
 unfold M4.mass
 rw[(Xl I.bd _ (by rw[I.len];omega)).1,I.len]
 have hx:∀ k,n+k≤g.Acts.length→H9 g.Acts (Cf g truth n).left spot (n+k)=H9 g.Acts (Cf g truth n).left spot n:=by
  intro k
  induction k with
  | zero=>intro _;rfl
  | succ k ih =>
   intro hk
   rw[← Nat.add_assoc,H9,ih (by omega),I.zero (n+k) (by omega)]
   split <;> omega
 have:=hx (g.Acts.length-n) (by omega)
 rw[show n+(g.Acts.length-n)=g.Acts.length by omega]at this
 rw[this,I.sum spot n (Nat.le_refl _)]
 have:=fit spot n hn
 omega
theorem Qb (spot:Int)(L:List E8):∀ n,(If spot L n = -1∧Iv spot L n=0)∨(0≤If spot L n∧If spot L n<n∧Iv spot L n=(L.getD (If spot L n).toNat default).Kind)
 | 0=>.inl ⟨rfl,rfl⟩
 | n+1=>by
  rw[If,Iv]
  by_cases c:(L.getD n default).Spot=spot∧(L.getD n default).Take=false
  ·rw[if_pos c,if_pos c]
   right
   exact⟨by omega,by omega,by simp⟩
  ·rw[if_neg c,if_neg c]
   rcases Qb spot L n with h|h
   ·exact .inl h
   ·exact .inr ⟨h.1,by omega,h.2.2⟩
theorem Tq {spot:Int}{L:List Pf}:∀ {n},If spot (L.map (·.1)) n = -1→Cw spot L n=0
 | 0,_=>rfl
 | n+1,h=>by
  rw[If,Pg]at h
  rw[Cw]
  by_cases c:(L.getD n default).1.Spot=spot∧(L.getD n default).1.Take=false
  ·rw[if_pos c]at h;omega
  ·rw[if_neg c]at h ⊢
   rw[Tq h];omega
abbrev k2 (a b:Int):Value:=.agg ⟨[.int .i64 a,.int .i64 b]⟩
theorem A3x (a b:Int):dflat (k2 a b)=true:=by simp[dflat,flat]
section
variable {P:Program} {t e:TypeId}
theorem Ts {s:Nat}(hs:Bv P e=some s):pr P (Go.sizeOf e)=some s:=by
 unfold Bv at hs
 unfold Go.sizeOf typeInfo
 cases hi:P.info? e with
 | none=>rw[hi]at hs;cases hs
 | some i =>
  rw[hi]at hs
  simp only[Option.map_some,Option.some.injEq]at hs
  simp[Dk,Fc,hi,hs]
theorem A1P (hu:P.underlying t=some (.array 2 e))(hs:Bv P e=some 1)(he:Em P e=some false)(hi:P.underlying e=some (.int .i64))(a b c d:Int)(z:Nat) :
  pr P (Op.equalIn (z+1+1) t (k2 a b) (k2 c d))=some (decide (a=c∧b=d)):=by
 have p0:∀ x y:Int,pr P (part e #[.int .i64 x,.int .i64 y] 0)=some (.int .i64 x):=fun x y=>Nf he rfl
 have p1:∀ x y:Int,pr P (part e #[.int .i64 x,.int .i64 y] 1)=some (.int .i64 y):=fun x y=>Nf he rfl
 have q:∀ x y:Int,pr P (Op.equalIn (z+1) e (.int .i64 x) (.int .i64 y))=some (x == y):=by
  intro x y
  simp only[Op.equalIn,Dk,underlying,Fc,Option.bind_some,hi,Ey,if_true]
 rw[Op.equalIn]
 simp only[Dk,underlying,Fc,Option.bind_some,hu,Ey,Ts hs]
 simp only[Std.Legacy.Range.forIn_eq_forIn_range',Std.Legacy.Range.size,List.range'_succ,List.range'_zero,List.forIn_cons,List.forIn_nil,Dk,p0,p1,q,Option.bind_some,Nat.zero_mul,Nat.mul_one,Nat.zero_add]
 by_cases h1:a=c
 ·by_cases h2:b=d
  ·simp[h1,h2,p0,p1,q,Dk,O8,Ey,List.range'_succ]
  ·simp[h1,h2,p0,p1,q,Dk,O8,Ey,List.range'_succ]
 ·simp[h1,p0,p1,q,Dk,O8,Ey]
theorem A3y (hu:P.underlying t=some (.array 2 e))(hs:Bv P e=some 1)(he:Em P e=some false)(hi:P.underlying e=some (.int .i64))(a b c d:Int) :
  pr P (Op.equal t (k2 a b) (k2 c d))=some (decide (a=c∧b=d)):=by
 exact A1P hu hs he hi a b c d 9998
theorem A3z (hu:P.underlying t=some (.array 2 e))(hs:Bv P e=some 1)(he:Em P e=some false)(hi:P.underlying e=some (.int .i64))(a b:Int):Y6 P t (k2 a b)=true:=by
 have p0:∀ x y:Int,pr P (part e #[.int .i64 x,.int .i64 y] 0)=some (.int .i64 x):=fun x y=>Nf he rfl
 have p1:∀ x y:Int,pr P (part e #[.int .i64 x,.int .i64 y] 1)=some (.int .i64 y):=fun x y=>Nf he rfl
 have q:∀ (em:Bool) (z:Nat) (x:Int),pr P (Instr.checkKey em (z+1) e (.int .i64 x))=some ():=by
  intro em z x
  rw[Instr.checkKey]
  simp only[Dk,underlying,Fc,Option.bind_some,hi,Ey]
 have k:∀ (em:Bool) (z:Nat),pr P (Instr.checkKey em (z+1+1) t (k2 a b))=some ():=by
  intro em z
  rw[Instr.checkKey]
  simp only[Dk,underlying,Fc,Option.bind_some,hu,Ey,Ts hs]
  simp only[Std.Legacy.Range.forIn_eq_forIn_range',Std.Legacy.Range.size]
  simp[List.range'_succ,Dk,Ts hs,p0,p1,q,Ey]
 unfold Y6
 have k1:pr P (Instr.checkKey true 10000 t (k2 a b))=some ():=k true 9998
 have k2:pr P (Instr.checkKey false 10000 t (k2 a b))=some ():=k false 9998
 rw[k1,k2,A3x]
 rfl
end
abbrev Tu:=(Int×Int)×Int
def Qg (l:List Tu):List (Value×Value):=l.map fun e=>(k2 e.1.1 e.1.2,.int .i64 e.2)
def Jf (a b:Int):List Tu→Nat→Option (Nat×Value)
 | [],_=>none
 | x :: l,i=>if a=x.1.1∧b=x.1.2 then some (i,.int .i64 x.2) else Jf a b l (i+1)
theorem Xm {P:Program}{t e:TypeId}(hu:P.underlying t=some (.array 2 e))(hs:Bv P e=some 1)(he:Em P e=some false)(hi:P.underlying e=some (.int .i64))(a b:Int) :
  ∀ (l:List Tu)(i:Nat),Ku P t (k2 a b) (Qg l) i=some (Jf a b l i)
 | [],i=>rfl
 | x :: l,i=>by
  show Ku P t (k2 a b) ((k2 x.1.1 x.1.2,.int .i64 x.2) :: Qg l) i=_
  rw[Ku,A3y hu hs he hi,Jf]
  by_cases c:a=x.1.1∧b=x.1.2
  ·rw[decide_eq_true c,if_pos c]
  ·rw[decide_eq_false c,if_neg c]
   exact Xm hu hs he hi a b l (i+1)
theorem Tv {a b:Int}:∀ {l m:List Tu}{i:Nat},Jf a b l i=none→Jf a b (l ++ m) i=Jf a b m (i+l.length)
 | [],m,i,_=>rfl
 | x :: l,m,i,h=>by
  rw[Jf]at h
  by_cases c:a=x.1.1∧b=x.1.2
  ·rw[if_pos c]at h;cases h
  ·rw[if_neg c]at h
   rw[List.cons_append,Jf,if_neg c,Tv h,List.length_cons]
   congr 1
   omega
theorem Tw {a b:Int}{y:Nat×Value}:∀ {l m:List Tu}{i:Nat},Jf a b l i=some y→Jf a b (l ++ m) i=some y
 | [],m,i,h=>by cases h
 | x :: l,m,i,h=>by
  rw[Jf]at h
  rw[List.cons_append,Jf]
  by_cases c:a=x.1.1∧b=x.1.2
  ·rw[if_pos c]at h ⊢;exact h
  ·rw[if_neg c]at h ⊢;exact Tw h
theorem A1Q {P:Program}{mt t v e:TypeId}(hm:P.underlying mt=some (.map t v))(hu:P.underlying t=some (.array 2 e))(hs:Bv P e=some 1)(he:Em P e=some false)(hi:P.underlying e=some (.int .i64)){H:Aa}{r:Nat}{l:List Tu}{a b d:Int}
  (hg:H.get r=.map (Qg l))(hn:Jf a b l 0=none):Fg P mt (.map (some r)) (k2 a b) (.int .i64 d) H=some (H.put r (.map (Qg (l ++ [((a,b),d)])))):=by
 unfold Fg
 rw[hm]
 dsimp only
 rw[if_pos (A3z hu hs he hi a b),hg]
 dsimp only
 rw[Xm hu hs he hi,hn]
 simp[Qg]
theorem A9Z {P:Program}{t e:TypeId}(hu:P.underlying t=some (.array 2 e))(hz:Dm P t=some (k2 0 0))(hs:Bv P e=some 1)(a b:Int):Ez P t [(0,.int .i64 a),(1,.int .i64 b)]=some (k2 a b):=by
 unfold Ez
 rw[hu,hz]
 dsimp only
 rw[if_pos (A3x 0 0),hs]
 rfl
def A57 (x y:Spo):Int:=Dz (max (Dz (x.X-y.X)) (Dz (y.X-x.X))+max (Dz (x.Y-y.Y)) (Dz (y.Y-x.Y)))
def Sf (g:Cv)(a b:Nat):Int:=A57 (g.Spots.getD a default) (g.Spots.getD b default)
def J4 (g:Cv)(b:Nat):Nat→List Tu
 | 0=>[]
 | a+1=>J4 g b a ++ [(((a:Int),(b:Int)),Sf g a b)]
def Ig (g:Cv):Nat→List Tu
 | 0=>[]
 | b+1=>Ig g b ++ J4 g b b
theorem N4 {a b:Int}:∀ {l:List Tu}{i:Nat},(∀ x,x∈l→¬ (a=x.1.1∧b=x.1.2))→Jf a b l i=none
 | [],_,_=>rfl
 | x :: l,i,h=>by
  rw[Jf,if_neg (h x (List.mem_cons_self ..))]
  exact N4 fun y hy=>h y (List.mem_cons_of_mem _ hy)
theorem Mx {g:Cv}{b:Nat}:∀ {a:Nat}{x:Tu},x∈J4 g b a→x.1.2=b∧x.1.1<a
 | 0,x,h=>by cases h
 | a+1,x,h=>by
  rcases List.mem_append.1 h with h|h
  ·have:=Mx h;exact⟨this.1,by omega⟩
  ·rw[List.mem_singleton.1 h];exact⟨rfl,by show (a:Int)<_;omega⟩
theorem Pk {g:Cv}:∀ {n:Nat}{x:Tu},x∈Ig g n→x.1.2<n
 | 0,x,h=>by cases h
 | n+1,x,h=>by
  rcases List.mem_append.1 h with h|h
  ·have:=Pk h;omega
  ·have:=(Mx h).1;omega
theorem A90 {g:Cv}{a b:Nat}:Jf a b (Ig g b ++ J4 g b a) 0=none:=by
 refine N4 fun x hx=>?_
 rintro⟨h1,h2⟩
 rcases List.mem_append.1 hx with h|h
 ·have:=Pk h;omega
 ·have:=Mx h;omega
theorem U1 {g:Cv}{a b:Nat}:∀ {n i:Nat},a<n→∃ j,Jf a b (J4 g b n) i=some (j,iv (Sf g a b))
 | 0,i,h=>by omega
 | n+1,i,h=>by
  by_cases e:a<n
  ·obtain⟨j,hj⟩:=U1 (g:=g) (b:=b) (i:=i) e
   exact⟨j,Tw hj⟩
  ·have e:a=n:=by omega
   subst e
   refine⟨i+(J4 g b a).length, ?_⟩
   rw[J4,Tv (N4 fun x hx=>by have:=Mx hx;omega),Jf,if_pos ⟨rfl,rfl⟩]
theorem A3A {g:Cv}{a b:Nat}(hab:a<b):∀ {n:Nat},b<n→∃ j,Jf a b (Ig g n) 0=some (j,iv (Sf g a b))
 | 0,h=>by omega
 | n+1,h=>by
  by_cases e:b<n
  ·obtain⟨j,hj⟩:=A3A hab e
   exact⟨j,Tw hj⟩
  ·have e:b=n:=by omega
   subst e
   obtain⟨j,hj⟩:=U1 (g:=g) (b:=b) (i:=0+(Ig g b).length) hab
   refine⟨j, ?_⟩
   rw[Ig,Tv (N4 fun x hx=>by have:=Pk hx;omega),hj]
def Lg (g:Cv)(spot kind:Nat):Int:=Dz ((Dz (Dz ((g.Sorts.getD kind default).High*(g.Sorts.getD kind default).Dense)*(g.Spots.getD spot default).Area)).tdiv 100)
def J5 (g:Cv)(s t:Int):Int:=max (g.Sorts.getD s.toNat default).Fire (g.Sorts.getD t.toNat default).Fire
theorem A3B (spot:Int)(L:List E8):∀ u,u≤L.length→(Gp spot L u).m.kind=Iv spot L u
 | 0,_=>rfl
 | u+1,h=>by
  have ih:=A3B spot L u (by omega)
  rw[J3 spot (by omega),Iv]
  by_cases c:(L.getD u default).Spot=spot
  ·rw[if_pos c]
   by_cases t:(L.getD u default).Take=true
   ·rw[Hb.step_take t,if_neg (fun q=>by rw[t]at q;cases q.2)];exact ih
   ·rw[Hb.step_tip t,if_pos ⟨c,by simpa using t⟩]
  ·rw[if_neg c,if_neg (fun q=>c q.1)];exact ih
theorem U2 (g:Cv)(spot:Int){u:Nat}(hu:u≤g.Acts.length):((Co g spot).1.before u).kind=Iv spot g.Acts u:=by
 rw[Hf g spot hu];exact A3B spot g.Acts u hu
theorem Ii {n a b:Int}(h:Mr n a b=true):a≤n∧n≤b:=of_decide_eq_true h
theorem Pl {g:Cv}{last:Int}{a:E8}(h:He g last a=0)(hs:g.Spots.length≤4)(hq:g.Sorts.length≤4):A3t g.Spots.length g.Sorts.length last a:=by
 have e1:Dz ((g.Spots.length:Int)-1)=g.Spots.length-1:=Cu (by omega) (by omega)
 have e2:Dz ((g.Sorts.length:Int)-1)=g.Sorts.length-1:=Cu (by omega) (by omega)
 unfold He at h
 rw[e1,e2]at h
 by_cases c1:Mr a.Hour 0 72=true
 ·rw[if_neg (by simp[c1])]at h
  by_cases c2:a.Hour<last
  ·rw[if_pos c2]at h;cases h
  ·rw[if_neg c2]at h
   by_cases c3:Mr a.Spot 0 (g.Spots.length-1)=true∧Mr a.Kind 0 (g.Sorts.length-1)=true
   ·rw[if_neg (by simp[c3])]at h
    by_cases c4:(a.Take && decide (a.Kind≠0))=true
    ·rw[if_pos c4]at h;cases h
    ·rw[if_neg c4]at h
     by_cases c5:Mr a.Min 1 1000000=true∧Mr a.Max 1 1000000=true
     ·rw[if_neg (by simp[c5])]at h
      by_cases c6:a.Max<a.Min
      ·rw[if_pos c6]at h;cases h
      ·have b1:=Ii c1
       have b2:=Ii c3.1
       have b3:=Ii c3.2
       have b4:=Ii c5.1
       have b5:=Ii c5.2
       refine⟨⟨b1.1,b1.2,by omega⟩,⟨b2.1,by omega⟩,⟨b3.1,by omega⟩,fun ht=>?_,⟨b4.1,by omega,b5.2⟩⟩
       rw[ht]at c4
       simpa using c4
     ·rw[if_pos (by simp only[Bool.or_eq_true,Bool.not_eq_true'];rcases Decidable.not_and_iff_or_not.1 c5 with q|q <;> simp[q])]at h
      cases h
   ·rw[if_pos (by simp only[Bool.or_eq_true,Bool.not_eq_true'];rcases Decidable.not_and_iff_or_not.1 c3 with q|q <;> simp[q])]at h
    cases h
 ·rw[if_pos (by simp[c1])]at h;cases h
theorem Sg {g:Cv}(hs:g.Spots.length≤4)(hq:g.Sorts.length≤4):∀ (l:List E8)(h:Int),Dq g h l=0→∀ u,u<l.length→∃ last,A3t g.Spots.length g.Sorts.length last (l.getD u default)
 | [],_,_,u,hu=>by simp at hu
 | a :: l,h,k,u,hu=>by
  rw[Dq]at k
  by_cases c:He g h a≠0
  ·rw[if_pos c]at k;exact absurd k c
  ·rw[if_neg c]at k
   cases u with
   | zero=>exact⟨h,Pl (Decidable.not_not.1 c) hs hq⟩
   | succ u =>
    have hu:u<l.length:=by simpa using hu
    exact Sg hs hq l a.Hour k u hu
theorem Ok.at {g:Cv}(h:Ok g){u:Nat}(hu:u<g.Acts.length):∃ last,A3t g.Spots.length g.Sorts.length last (g.Acts.getD u default) :=
 Sg h.spots.2 h.sorts.2 g.Acts 0 h.act u hu
theorem Ok.kind {g:Cv}(h:Ok g)(spot:Int):∀ u,u≤g.Acts.length→0≤Iv spot g.Acts u∧Iv spot g.Acts u<g.Sorts.length
 | 0,_=>⟨Int.le_refl _,by show (0:Int)<_;have:=h.sorts;omega⟩
 | u+1,hu=>by
  rw[Iv]
  split
  ·obtain⟨_,a⟩:=h.at (u:=u) (by omega)
   exact⟨a.k.1,a.k.2⟩
  ·exact h.kind spot u (by omega)
theorem Xn {g:Cv}:∀ (n i:Nat)(acc:List Hp),(∀ j,j<acc.length→acc.getD j default=(Co g (j:Nat)).1)→acc.length=i→∀ j,j<(Ev g i n acc).1.length→(Ev g i n acc).1.getD j default=(Co g (j:Nat)).1
 | 0,i,acc,h,_=>h
 | n+1,i,acc,h,hi=>by
  rw[Ev]
  split
  ·refine Xn n (i+1) _ (fun j hj=>?_) (by simp[hi])
   by_cases e:j<acc.length
   ·rw[Zx e];exact h j e
   ·have e:j=acc.length:=by simp at hj;omega
    subst e
    rw[Zy,hi]
  ·exact h
theorem Et {g:Cv}{j:Nat}(hj:j<(known g).1.length):(known g).1.getD j default=(Co g (j:Nat)).1:=Xn g.Spots.length 0 [] (fun j hj=>by cases hj) rfl j hj
theorem Xo {g:Cv}(h:Ok g){j:Nat}(hj:j<(known g).1.length){u:Nat}(hu:u≤g.Acts.length):0≤(((known g).1.getD j default).before u).kind∧(((known g).1.getD j default).before u).kind<g.Sorts.length:=by
 rw[Et hj,U2 g j hu]
 exact h.kind _ u hu
theorem A0l {α:Type} [Inhabited α] {l:List α}{n m:Nat}{v:α}:(l.set n v).getD m default=if n=m∧n<l.length then v else l.getD m default:=by
 simp only[List.getD]
 by_cases h:n=m
 ·subst h
  by_cases hl:n<l.length
  ·simp[hl]
  ·simp[hl]
 ·rw[List.getElem?_set_ne h,if_neg (fun hh=>h hh.1)]
theorem Kk {α β:Type} [Inhabited α] [Inhabited β] {f:α→β}{l:List α}{i:Nat}(h:i<l.length):(l.map f).getD i default=f (l.getD i default):=by simp[List.getD,h]
structure Da (g:Cv)(truth:List Int):Prop where
 ok:Ok g
 ck:check g=0
 len:truth.length=g.Acts.length
 fit:∀ j:Nat,j<g.Spots.length→Mc j 0 (g.Acts.zip truth)
theorem Da.at {g:Cv}{truth:List Int}(h:Da g truth){u:Nat}(hu:u<g.Acts.length):1≤truth.getD u 0∧truth.getD u 0≤1000000∧(g.Acts.getD u default).Min≤truth.getD u 0∧truth.getD u 0≤(g.Acts.getD u default).Max∧0≤(g.Acts.getD u default).Spot∧(g.Acts.getD u default).Spot<g.Spots.length:=by
 obtain⟨_,a⟩:=h.ok.at hu
 have sa:=a.s
 have hl:=h.len
 have:=N3 ((g.Acts.getD u default).Spot.toNat:Nat) (g.Acts.zip truth) 0 (h.fit _ (by omega)) u (by rw[List.length_zip];omega) (by rw[Ia h.len hu];dsimp only;omega)
 have m:=this.m
 rw[Ia h.len hu]at m
 dsimp only at m
 omega
theorem Da.few {g:Cv}{truth:List Int}(h:Da g truth):B2b g truth:=⟨h.len,h.ok.acts,fun u hu=>by have:=h.at hu;omega,fun u hu=>by have:=h.at hu;omega⟩
theorem A0m {g:Cv}{truth:List Int}(h:Da g truth){spot:Int}(hs:spot<0∨g.Spots.length≤spot):∀ u,u≤g.Acts.length→Cw spot (g.Acts.zip truth) u=0∧Cx spot (g.Acts.zip truth) u=0
 | 0,_=>⟨rfl,rfl⟩
 | u+1,hu=>by
  obtain⟨h1,h2⟩:=A0m h hs u (by omega)
  have:=h.at (u:=u) (by omega)
  rw[Cw,Cx,Ia h.len (by omega),h1,h2]
  dsimp only
  rw[if_neg (fun q=>by have:=q.1;omega),if_neg (fun q=>by have:=q.1;omega)]
  exact⟨rfl,rfl⟩
theorem A91 (spot:Int)(L:List Pf)(f:∀ u,u<L.length→(L.getD u default).1.Spot=spot→A55 spot L 0 u):∀ u,u≤L.length→Cx spot L u≤Cw spot L u
 | 0,_=>Int.le_refl _
 | u+1,h=>by
  have ih:=A91 spot L f u (by omega)
  rw[Cw,Cx]
  by_cases c:(L.getD u default).1.Spot=spot
  ·obtain⟨m,t⟩:=f u (by omega) c
   by_cases ct:(L.getD u default).1.Take=true
   ·have:=t ct
    have n1:¬ ((L.getD u default).1.Spot=spot∧(L.getD u default).1.Take=false):=fun q=>by rw[ct]at q;cases q.2
    rw[if_neg n1,if_pos (show (L.getD u default).1.Spot=spot∧(L.getD u default).1.Take=true from⟨c,ct⟩)];omega
   ·have ct':(L.getD u default).1.Take=false:=by simpa only[Bool.not_eq_true] using ct
    have n1:¬ ((L.getD u default).1.Spot=spot∧(L.getD u default).1.Take=true):=fun q=>by rw[ct']at q;cases q.2
    rw[if_neg n1,if_pos (show (L.getD u default).1.Spot=spot∧(L.getD u default).1.Take=false from⟨c,ct'⟩)];omega
  ·have n1:¬ ((L.getD u default).1.Spot=spot∧(L.getD u default).1.Take=true):=fun q=>c q.1
   have n2:¬ ((L.getD u default).1.Spot=spot∧(L.getD u default).1.Take=false):=fun q=>c q.1
   rw[if_neg n1,if_neg n2];omega
theorem Da.le {g:Cv}{truth:List Int}(h:Da g truth)(spot:Int)(u:Nat)(hu:u≤g.Acts.length):Cx spot (g.Acts.zip truth) u≤Cw spot (g.Acts.zip truth) u:=by
 have hl:=h.len
 by_cases c:spot<0∨(g.Spots.length:Int)≤spot
 ·obtain⟨h1,h2⟩:=A0m h c u hu
  rw[h1,h2];exact Int.le_refl _
 ·obtain⟨j,rfl⟩:∃ j:Nat,spot=j:=⟨spot.toNat,by omega⟩
  exact A91 j _ (fun v hv hs=>N3 j _ 0 (h.fit j (by omega)) v hv hs) u (by rw[List.length_zip];omega)
theorem Da.mass {g:Cv}{truth:List Int}(h:Da g truth){n:Nat}(hn:n≤g.Acts.length)(spot:Int):(Cf g truth n).mass g spot=Cw spot (g.Acts.zip truth) n-Cx spot (g.Acts.zip truth) n :=
 A9Y h.few h.le hn spot
theorem Da.day {g:Cv}{truth:List Int}(h:Da g truth){n:Nat}(hn:n≤g.Acts.length):B38 g truth n (Cf g truth n):=A1O h.few h.le n hn
theorem Da.spot {g:Cv}{truth:List Int}(h:Da g truth){j:Nat}(hj:j<g.Spots.length):∃ n x,U0 g j truth n x:=B5q h.ok.acts h.len (h.fit j hj)
theorem Da.known {g:Cv}{truth:List Int}(h:Da g truth):(Swa.known g).2=0∧(Swa.known g).1=(List.range g.Spots.length).map fun j=>(Co g (j:Nat)).1 :=
 A0i fun j hj=>by obtain⟨n,x,k⟩:=h.spot hj;exact k.ok
def U3 (g:Cv)(a b:Nat)(s t:Int):Bool:=decide (Sf g a b<J5 g s t)
def kindOf (g:Cv)(d:M4)(a:Nat):Int:=(g.Acts.getD (d.last.getD a 0).toNat default).Kind
theorem A4P (x y:Spo):A57 x y=A57 y x:=by
 unfold A57
 rw[Int.max_comm,Int.max_comm (Dz (x.Y-y.Y))]
theorem Xp {s:Srt}(h:Ma s=true):1≤s.High∧s.High≤1000∧1≤s.Dense∧s.Dense≤8000∧0≤s.Fire∧s.Fire≤100∧0≤s.Age∧s.Age≤72:=by
 unfold Ma at h
 simp only[Bool.and_eq_true]at h
 have a:=Ii h.1.1.1
 have b:=Ii h.1.1.2
 have c:=Ii h.1.2
 have d:=Ii h.2
 omega
theorem A4Q {s:Spo}(h:Ms s=true):0≤s.X∧s.X≤1000∧0≤s.Y∧s.Y≤1000∧1≤s.Area∧s.Area≤1000:=by
 unfold Ms at h
 simp only[Bool.and_eq_true]at h
 have a:=Ii h.1.1
 have b:=Ii h.1.2
 have c:=Ii h.2
 omega
theorem Ib {α:Type} [Inhabited α] {l:List α}{i:Nat}(h:i<l.length):l.getD i default∈l:=by
 simp[List.getD,h]
theorem Tx {g:Cv}(ok:Ok g){a:Nat}{kind:Int}(ha:a<g.Spots.length)(hk:0≤kind∧kind<g.Sorts.length) :
  ∃ c,c=(g.Sorts.getD kind.toNat default).High*(g.Sorts.getD kind.toNat default).Dense*(g.Spots.getD a default).Area∧0≤c∧c≤8000000000∧Lg g a kind.toNat=c / 100∧Dz (Dz ((g.Sorts.getD kind.toNat default).High*(g.Sorts.getD kind.toNat default).Dense)*(g.Spots.getD a default).Area)=c:=by
 have s:=Xp (ok.sort _ (Ib (show kind.toNat<g.Sorts.length by omega)))
 have p:=A4Q (ok.spot _ (Ib ha))
 unfold Lg
 generalize (g.Sorts.getD kind.toNat default).High=h at *
 generalize (g.Sorts.getD kind.toNat default).Dense=d at *
 generalize (g.Spots.getD a default).Area=r at *
 have p1:h*d≤1000*8000:=Int.mul_le_mul s.2.1 s.2.2.2.1 (by omega) (by omega)
 have p0:0≤h*d:=Int.mul_nonneg (by omega) (by omega)
 have p2:h*d*r≤8000000*1000:=Int.mul_le_mul p1 p.2.2.2.2.2 (by omega) (by omega)
 have p3:0≤h*d*r:=Int.mul_nonneg p0 (by omega)
 refine⟨h*d*r,rfl,p3,by omega, ?_, ?_⟩
 ·rw[Cu (x:=h*d) (by omega) (by omega),Cu (x:=h*d*r) (by omega) (by omega),Int.tdiv_eq_ediv_of_nonneg p3,Cu (by omega) (by omega)]
 ·rw[Cu (x:=h*d) (by omega) (by omega),Cu (by omega) (by omega)]
theorem A0n {hour:Int}:∀ {l:List E8},(∀ a,a∈l→a.Hour≤hour)→B5 hour l=l.length
 | [],_=>rfl
 | a :: l,h=>by
  rw[B5,if_pos (h a (List.mem_cons_self ..)),A0n fun b hb=>h b (List.mem_cons_of_mem _ hb)];rfl
theorem A3C {x spots sorts acts mass hours:Int}(q1:1≤spots∧spots≤4)(q2:1≤sorts∧sorts≤4)(q3:0≤acts∧acts≤10)(q4:1≤mass∧mass≤10000)(q5:0≤hours∧hours≤72) :
  Da (Es x spots sorts acts mass hours).g (Es x spots sorts acts mass hours).truth:=by
 obtain⟨a,b,c,d,e,f⟩:=A3u (x:=x) q1 q2 q3 q4 q5
 exact⟨Nm a.ck,a.ck,e,f⟩
theorem Da.last {g:Cv}{truth:List Int}(h:Da g truth){a:Nat}(ha:a<g.Spots.length){n:Nat}(hn:n≤g.Acts.length)(hm:(Cf g truth n).mass g a≠0) :
  0≤(Cf g truth n).last.getD a 0∧(Cf g truth n).last.getD a 0<n:=by
 have hz:(g.Acts.zip truth).map (·.1)=g.Acts:=by rw[List.map_fst_zip];have:=h.len;omega
 rw[h.mass hn]at hm
 have tn:=Hq h.few a n hn
 have le:=h.le a n hn
 rw[(h.day hn).lst a ha]
 rcases Qb a g.Acts n with⟨q1,q2⟩|⟨q1,q2,q3⟩
 ·have q1':If a ((g.Acts.zip truth).map (·.1)) n = -1:=by rw[hz];exact q1
  have:=Tq q1'
  omega
 ·exact⟨q1,q2⟩
theorem Da.kindOf {g:Cv}{truth:List Int}(h:Da g truth)(a:Nat)(d:M4){n:Nat}(hn:n≤g.Acts.length)(hl:0≤d.last.getD a 0∧d.last.getD a 0<n):0≤Swa.kindOf g d a∧Swa.kindOf g d a<g.Sorts.length:=by
 obtain⟨_,A⟩:=h.ok.at (u:=(d.last.getD a 0).toNat) (by omega)
 exact⟨A.k.1,A.k.2⟩
structure Pm where
 spot:Nat
 a:Nat
 b:Nat
 most:Int
 deriving DecidableEq,Inhabited
def Mi (w:Pm):List Value:=[iv w.spot,iv w.a,iv w.b,iv w.most]
theorem Gs (w:Pm):(Mi w).length=4:=rfl
abbrev Iy:=List Pm
def Eg (spot:Nat)(m:On):Pm:=⟨spot,m.takes,m.tips,0⟩
structure Hst where
 out:List Iy
 before:Nat
 tips:Nat
 deriving Inhabited
def Oh (g:Cv)(h:Hp)(spot:Nat)(hour:Int)(now:On)(s:Hst)(i:Nat)(a:E8):Hst :=
 if a.Take=true∨hour<a.Hour then s
 else
  let m:=h.before i
  let tips:=(h.before (i+1:Nat)).tips
  let o1:=if Dz (a.Hour+(g.Sorts.getD a.Kind.toNat default).Age)<hour then s.out ++ [[⟨spot,now.takes,tips,0⟩]] else s.out
  let o2:=if a.Hour=hour∧0<s.before∧m.kind≠a.Kind then o1 ++ [[Eg spot m]] else o1
  ⟨o2,tips,tips⟩
def Ot (g:Cv)(h:Hp)(spot:Nat)(hour:Int)(now:On):Nat→List E8→Hst→Hst
 | _,[],s=>s
 | i,a :: l,s=>Ot g h spot hour now (i+1) l (if a.Spot=spot then Oh g h spot hour now s i a else s)
def Gw (g:Cv)(h:Hp)(hour:Int):On:=h.before (B5 hour g.Acts)
def Fl (g:Cv)(h:Hp)(spot:Nat)(hour:Int):List Iy :=
 let now:=Gw g h hour
 (Ot g h spot hour now 0 g.Acts ⟨[[⟨spot,now.takes,now.tips,Lg g spot now.kind.toNat⟩]],0,0⟩).out
def Lu (g:Cv)(hs:List Hp)(hour:Int)(b a:Nat):List Iy :=
 let m:=Gw g (hs.getD a default) hour
 let n:=Gw g (hs.getD b default) hour
 if m.tips=0∨n.tips=0∨J5 g m.kind n.kind≤Sf g a b then [] else [[Eg a m,Eg b n]]
def Gf (g:Cv)(hs:List Hp)(hour:Int)(b:Nat):Nat→List Iy
 | 0=>[]
 | a+1=>Gf g hs hour b a ++ Lu g hs hour b a
def Ci (g:Cv)(hs:List Hp)(hour:Int):Nat→List Iy
 | 0=>[]
 | b+1=>Ci g hs hour b ++ Gf g hs hour b b
def Eh (g:Cv)(hs:List Hp)(hour:Int):Nat→List Iy
 | 0=>[]
 | n+1=>Eh g hs hour n ++ Fl g (hs.getD n default) n hour
def Pm.ok (w:Pm)(all:List E1):Bool:=decide ((all.getD w.spot default).mat w.a w.b≤w.most)
def Fu (all:List E1)(r:Iy):Bool:=r.all fun w=>!w.ok all
def Iw:List Iy→List E1→Bool
 | [],_=>true
 | r :: rs,all =>
  if r.any (fun w=>w.ok all)=true then Iw rs all
  else r.any fun w=>((all.getD w.spot default).know w.a w.b w.most).2 && Iw rs (all.set w.spot ((all.getD w.spot default).know w.a w.b w.most).1)
structure Bst where
 perhaps:Int
 singles:List Iy
 doubles:List Iy
def Pn (a b:Int):Int:=if a<0∨b<a then b else a
def Oi (g:Cv)(hs:List Hp)(s:Bst)(hour:Nat):Bst×Bool :=
 let heaps:=Eh g hs hour g.Spots.length
 let pairs:=Ci g hs hour g.Spots.length
 let all:=hs.map (·.s)
 let p:=if (heaps ++ pairs).any (Fu all)=true then Pn s.perhaps hour else s.perhaps
 let t:Bst:=⟨p,s.singles ++ heaps,s.doubles ++ pairs⟩
 (t,decide (0≤p) && !Iw (t.singles ++ t.doubles) all)
def bGo (g:Cv)(hs:List Hp):Nat→Nat→Bst→Int×Int
 | 0,_,s=>(s.perhaps,-1)
 | n+1,hour,s=>if (Oi g hs s hour).2=true then ((Oi g hs s hour).1.perhaps,hour) else bGo g hs n (hour+1) (Oi g hs s hour).1
def breaks (g:Cv):Int×Int×Int :=
 if check g≠0 then (0,0,check g)
 else if (known g).2≠0 then (0,0,(known g).2)
 else ((bGo g (known g).1 73 0 ⟨-1,[],[]⟩).1,(bGo g (known g).1 73 0 ⟨-1,[],[]⟩).2,0)
def B5r (all:List E1)(l:List Iy):Prop:=∀ r,r∈l→r.any (fun w=>w.ok all)=true
theorem Xq {all:List E1}:∀ {l m:List Iy},B5r all l→Iw (l ++ m) all=Iw m all
 | [],m,_=>rfl
 | r :: l,m,h=>by
  rw[List.cons_append,Iw,if_pos (h r (List.mem_cons_self ..))]
  exact Xq fun r hr=>h r (List.mem_cons_of_mem _ hr)
theorem A0o (g:Cv)(spot:Int):(Co g spot).1.before 0=A4M:=by
 have:=Hf g spot (u:=0) (Nat.zero_le _)
 exact this
section
variable {g k:Cv} {P:List E8} {a b:E8} {R:List E8}
end
section
variable {g k:Cv} {P:List E8} {a b:E8} {R:List E8}
end
section
variable {g k:Cv} {P:List E8} {a b:E8} {R:List E8}
end
theorem Xr (x n:Int)(h:1<n)(h2:n<1000):0≤Cm x n∧Cm x n<n:=by
 have q:=Dw x n (by omega)
 exact⟨q.1,q.2.1 (by omega)⟩
end Go.Proofs.Swa
