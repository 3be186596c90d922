/- Part 5 of a proof. -/
import Derived.Test.YtloabbaheifkgaaP04
set_option linter.unusedVariables false
set_option linter.unusedSimpArgs false
namespace Go.Proofs.Swa
open Go
def ints (l:List Int):List Value:=l.map (.int .i64 ·)
theorem ints_len (l:List Int):(ints l).length=l.length:=by simp [ints]
def Sums:={ l:List Int // l.length=121 }
instance:Inhabited Sums:=⟨⟨List.replicate 121 0,by simp⟩⟩
instance:DecidableEq Sums:=fun a b=>decidable_of_iff (a.1=b.1) ⟨Subtype.ext,fun h=>h ▸ rfl⟩
theorem sums_len (s:Sums):(ints s.1).length=121:=by rw [ints_len,s.2]
structure Mom where
 act:Int
 tips:Nat
 takes:Nat
 kind:Int
 deriving DecidableEq,Inhabited
def eMom (m:Mom):List Value:=[iv m.act,iv m.tips,iv m.takes,iv m.kind]
theorem eMom_len (m:Mom):(eMom m).length=4:=rfl
structure Hp where
 s:Sums
 m:List Mom
 deriving DecidableEq,Inhabited
def eHp (p:Hp×Value):List Value:=ints p.1.s.1 ++ [p.2]
theorem eHp_len (p:Hp×Value):(eHp p).length=122:=by simp [eHp,ints_len,p.1.s.2]
def inB (a b c:Int):Bool:=decide (b≤a∧a≤c)
structure Rng where
 Min:Int
 Max:Int
 deriving DecidableEq,Inhabited
def eRng (r:Rng):List Value:=[iv r.Min,iv r.Max]
theorem eRng_len (r:Rng):(eRng r).length=2:=rfl
abbrev uv (n:Int):Value:=.int .u64 n
def fS0 (x:Int):Int:=if x=0 then 1 else x
def fS1 (x:Int):Int:=xorI .u64 x (shlI .u64 x 13)
def fS2 (x:Int):Int:=xorI .u64 x (shrI .u64 x 7)
def fS3 (x:Int):Int:=xorI .u64 x (shlI .u64 x 17)
def fSt (x:Int):Int:=fS3 (fS2 (fS1 (fS0 x)))
def fOut (x:Int):Int:=IntKind.u64.wrap (fSt x * 2685821657736338717)
def below (x n:Int):Int:=if n < 2 then 0 else IntKind.i64.wrap ((shrI .u64 (fOut x) 8).tmod n)
def belowS (x n:Int):Int:=if n < 2 then x else fSt x
theorem u64_id {n:Int} (h0:0≤n) (h1:n < 18446744073709551616):IntKind.u64.wrap n=n:=by
 show (if (false && decide (n % (2 ^ 64:Int) ≥ (2 ^ 63:Int)))=true then n % (2 ^ 64:Int) - (2 ^ 64:Int) else n % (2 ^ 64:Int))=n
 simp only [Bool.false_and,Bool.false_eq_true,if_false]
 omega
theorem u64_lt (n:Int):0≤IntKind.u64.wrap n∧IntKind.u64.wrap n < 18446744073709551616:=by
 show 0≤(if (false && decide (n % (2 ^ 64:Int) ≥ (2 ^ 63:Int)))=true then n % (2 ^ 64:Int) - (2 ^ 64:Int) else n % (2 ^ 64:Int))∧(if (false && decide (n % (2 ^ 64:Int) ≥ (2 ^ 63:Int)))=true then n % (2 ^ 64:Int) - (2 ^ 64:Int) else n % (2 ^ 64:Int)) < _
 simp only [Bool.false_and,Bool.false_eq_true,if_false]
 omega
theorem below_spec (x n:Int) (hn:n < 9223372036854775808):0≤below x n∧(0 < n→below x n < n)∧(n≤0→below x n=0):=by
 unfold below
 split
 ·refine ⟨by omega,fun _=>by omega,fun _=>rfl⟩
 ·have h1:=u64_lt (fSt x * 2685821657736338717)
  have h2:0≤shrI .u64 (fOut x) 8:=by
   show 0≤(fOut x).fdiv 256
   exact Int.fdiv_nonneg h1.1 (by omega)
  have h3:=Int.tmod_lt_of_pos (shrI .u64 (fOut x) 8) (show (0:Int) < n by omega)
  have h4:=Int.tmod_nonneg n h2
  rw [wrap64 (by omega) (by omega)]
  exact ⟨h4,fun _=>h3,fun _=>by omega⟩
def btwArg (lo hi:Int):Int:=w64 (w64 (hi - lo) + 1)
def btw (x lo hi:Int):Int:=w64 (lo + below x (btwArg lo hi))
def btwS (x lo hi:Int):Int:=belowS x (btwArg lo hi)
theorem btwArg_lt (lo hi:Int):btwArg lo hi < 9223372036854775808:=w64_lt _
def either (x:Int) (l:List Int):Int:=if l.length=0 then 0 else l.getD (below x l.length).toNat 0
def eitherS (x:Int) (l:List Int):Int:=if l.length=0 then x else belowS x l.length
def fMix (st n:Int):Int:=fSt (xorI .u64 st (IntKind.u64.wrap (IntKind.u64.wrap n * 15485907386658061715)))
def feedOf (l:List Int):Int:=l.foldl fMix 88172645463325252
theorem eq_step {α:Type} [DecidableEq α] [Inhabited α] {l m:List α} {i:Nat} (hl:l.length=m.length) (hi:i < l.length) (hp:l.take i=m.take i) (hx:l.getD i default=m.getD i default):l.take (i + 1)=m.take (i + 1):=by
 rw [take_getD hi,take_getD (by omega),hp,hx]
theorem ne_step {α:Type} [DecidableEq α] [Inhabited α] {l m:List α} {i:Nat} (hx:¬ l.getD i default=m.getD i default):l≠m:=fun e=>hx (by rw [e])
theorem btw_spec {x lo hi:Int} (h1:-1000000000≤lo) (h2:lo≤hi) (h3:hi≤1000000000):lo≤btw x lo hi∧btw x lo hi≤hi:=by
 have e1:btwArg lo hi=hi - lo + 1:=by
  unfold btwArg w64
  rw [wrap64 (x:=hi - lo) (by omega) (by omega),wrap64 (by omega) (by omega)]
 have h:=below_spec x (btwArg lo hi) (btwArg_lt _ _)
 rw [e1] at h
 have h4:=h.2.1 (by omega)
 unfold btw w64
 rw [e1,wrap64 (by omega) (by omega)]
 omega



theorem either_mem (x:Int) {l:List Int} (h:0 < l.length) (h2:l.length < 1000000):either x l∈l:=by
 unfold either
 rw [if_neg (by omega)]
 have b:=below_spec x l.length (by omega)
 have b1:=b.2.1 (by omega)
 have hlt:(below x l.length).toNat < l.length:=by have:=b.1;omega
 rw [List.getD,List.getElem?_eq_getElem hlt]
 exact List.getElem_mem hlt
theorem either2 (x a b:Int):either x [a,b]=a∨either x [a,b]=b:=by
 have:=either_mem x (l:=[a,b]) (by simp) (by simp)
 simpa using this


abbrev k2 (a b:Int):Value:=.agg ⟨[.int .i64 a,.int .i64 b]⟩
theorem dflat_k2 (a b:Int):dflat (k2 a b)=true:=by simp [dflat,flat]
abbrev Ent2:=(Int×Int)×Int
def entK (l:List Ent2):List (Value×Value):=l.map fun e=>(k2 e.1.1 e.1.2,.int .i64 e.2)
def findE (a b:Int):List Ent2→Nat→Option (Nat×Value)
 | [],_=>none
 | x :: l,i=>if a=x.1.1∧b=x.1.2 then some (i,.int .i64 x.2) else findE a b l (i + 1)



structure Way where
 spot:Nat
 a:Nat
 b:Nat
 most:Int
 deriving DecidableEq,Inhabited
abbrev Rul:=List Way













structure Due where
 Day:Int
 Name:Int
 Cents:Int
 Cash:Bool
 deriving Inhabited
def eDue (d:Due):List Value:=[.int .i64 d.Day,.int .i64 d.Name,.int .i64 d.Cents,.bool d.Cash]
theorem eDue_len (d:Due):(eDue d).length=4:=rfl
def tie (B:List Bool) (a b:Int):Bool:=B.getD (a.toNat * 8 + b.toNat) false
def wOk (B:List Bool) (win name day:Int) (d:Due):Bool:=tie B name d.Name && decide (w64 (w64 (day - win) + 1)≤d.Day∧d.Day≤day)
def wStep (B:List Bool) (win name day:Int) (s:Int) (d:Due):Int:=if d.Cash=true then (if wOk B win name day d=true then w64 (s + d.Cents) else s) else s
def wGo (B:List Bool) (win name day:Int) (l:List Due):Int:=l.foldl (wStep B win name day) 0
theorem wGo_snoc (B:List Bool) (win name day:Int) (l:List Due) (d:Due):wGo B win name day (l ++ [d])=wStep B win name day (wGo B win name day l) d:=by
 unfold wGo
 rw [List.foldl_append]
 rfl
def paidRow (f:Int→Int→Int) (day:Int):Nat→List Ent2→List Ent2
 | 0,es=>es
 | n + 1,es=>if findE n day (paidRow f day n es) 0=none then paidRow f day n es ++ [(((n:Int),day),f n day)] else paidRow f day n es
def paidGo (f:Int→Int→Int) (names:Nat):List Due→List Ent2→List Ent2
 | [],es=>es
 | d :: l,es=>paidGo f names l (if d.Cash=true then paidRow f d.Day names es else es)
theorem paidGo_snoc (f:Int→Int→Int) (names:Nat) (d:Due):∀ (l:List Due) (es:List Ent2),paidGo f names (l ++ [d]) es=(if d.Cash=true then paidRow f d.Day names (paidGo f names l es) else paidGo f names l es)
 | [],es=>rfl
 | x :: l,es=>paidGo_snoc f names d l _
def keptP (f:Int→Int→Int) (names:Nat) (lim:Int) (l:List Due):Bool:=(paidGo f names l []).all fun e=>decide (e.2≤lim)
structure Fix where
 Day:Int
 Cents:Int
 deriving Inhabited
def eFix (f:Fix):List Value:=[.int .i64 f.Day,.int .i64 f.Cents]
theorem eFix_len (f:Fix):(eFix f).length=2:=rfl
def fixBad (prev:Option Int) (f:Fix):Int:=if !inB f.Day 0 4000 || !inB f.Cents 0 100000000 then 1 else match prev with|some p=>if f.Day≤p then 5 else 0|none=>0
def fixesErr:Option Int→List Fix→Int
 | _,[]=>0
 | p,f :: l=>if fixBad p f=0 then fixesErr (some f.Day) l else fixBad p f
def priceL (day:Int) (l:List Fix):Option Int:=l.foldl (fun o f=>if f.Day≤day then some f.Cents else o) none
theorem priceL_snoc (day:Int) (l:List Fix) (f:Fix):priceL day (l ++ [f])=if f.Day≤day then some f.Cents else priceL day l:=by
 unfold priceL
 rw [List.foldl_append]
 rfl
def worth (k p s:Int):Int:=w64 ((w64 (w64 (k * p) * s)).tdiv 1000000)
def valAt (kmin kmax share:Int):Option Int→(Int×Int)×Int
 | none=>((0,0),3)
 | some p=>((worth kmin p share,worth kmax p share),0)
def valErr (l:List Fix) (day kmin kmax share:Int):Int :=
 if 20 < l.length then 6 else if fixesErr none l≠0 then fixesErr none l else
 if !inB day 0 4000 || (!inB kmin 0 1000000 || !inB kmax 0 1000000) then 1 else if kmax < kmin then 5 else if !inB share 0 1000 then 1 else 0
def valueP (l:List Fix) (day kmin kmax share:Int):(Int×Int)×Int :=
 if valErr l day kmin kmax share≠0 then ((0,0),valErr l day kmin kmax share) else valAt kmin kmax share (priceL day l)
def prevD (l:List Fix):Nat→Option Int
 | 0=>none
 | i + 1=>some (l.getD i default).Day
abbrev Rg:=Int×Int
def eRg (x:Rg):List Value:=[.int .i64 x.1,.int .i64 x.2]
theorem eRg_len (x:Rg):(eRg x).length=2:=rfl
structure Hdg where
 Stock:List Rg
 Lot:Int
 Bound:Int
 Held:Int
 deriving Inhabited
def eHdg (vs:Value) (h:Hdg):List Value:=[vs,.int .i64 h.Lot,.int .i64 h.Bound,.int .i64 h.Held]
def rgBad (x:Rg):Int:=if !inB x.1 0 1000000 || !inB x.2 0 1000000 then 1 else if x.2 < x.1 then 5 else 0
def stockErr:List Rg→Int
 | []=>0
 | x :: l=>if rgBad x=0 then stockErr l else rgBad x
def hedgeErr (h:Hdg):Int:=if h.Stock.length=0 then 7 else if 20 < h.Stock.length then 6 else if stockErr h.Stock≠0 then stockErr h.Stock else
 if !inB h.Lot 1 1000000 || (!inB h.Bound 0 1000000 || !inB h.Held 0 50) then 1 else 0
def expP (h:Hdg) (day:Nat) (lots:Int):Rg:=(w64 ((h.Stock.getD day default).1 - w64 (h.Lot * lots)),w64 ((h.Stock.getD day default).2 - w64 (h.Lot * lots)))
def apartP (a b:Int):Int:=max (w64 (a - b)) (w64 (b - a))
def never:Int:=1073741824
def costP (h:Hdg) (T:Nat→Nat→Int) (day before lots:Nat):Int :=
 if (expP h day lots).1 < w64 (-h.Bound)∨h.Bound < (expP h day lots).2 then never else min never (w64 (apartP before lots + T (day + 1) lots))
def bestP (h:Hdg) (T:Nat→Nat→Int) (day before:Nat):Nat→Int
 | 0=>never
 | k + 1=>min (bestP h T day before k) (costP h T day before k)
theorem costP_congr {h:Hdg} {T T':Nat→Nat→Int} {day before lots:Nat} (e:T (day + 1) lots=T' (day + 1) lots):costP h T day before lots=costP h T' day before lots:=by
 unfold costP
 rw [e]
theorem bestP_congr {h:Hdg} {T T':Nat→Nat→Int} {day before:Nat}:∀ {k:Nat},(∀ l,l < k→T (day + 1) l=T' (day + 1) l)→bestP h T day before k=bestP h T' day before k
 | 0,_=>rfl
 | k + 1,e=>by
  show min _ _=min _ _
  rw [bestP_congr fun l hl=>e l (by omega),costP_congr (e k (by omega))]
def restR (h:Hdg):Nat→Nat→Int
 | 0,_=>0
 | k + 1,b=>bestP h (fun _ l=>restR h k l) (h.Stock.length - (k + 1)) b 51
def restP (h:Hdg) (day b:Nat):Int:=restR h (h.Stock.length - day) b
theorem restP_eq {h:Hdg} {day b:Nat} (hd:day < h.Stock.length):restP h day b=bestP h (restP h) day b 51:=by
 unfold restP
 obtain ⟨k,hk⟩:∃ k,h.Stock.length - day=k + 1:=⟨h.Stock.length - day - 1,by omega⟩
 rw [hk]
 show bestP h _ (h.Stock.length - (k + 1)) b 51=_
 have e1:h.Stock.length - (k + 1)=day:=by omega
 rw [e1]
 refine bestP_congr fun l hl=>?_
 show restR h k l=restR h (h.Stock.length - (day + 1)) l
 congr 1
 omega
theorem restP_end {h:Hdg} {b:Nat}:restP h h.Stock.length b=0:=by
 unfold restP
 rw [Nat.sub_self]
 rfl
theorem bestP_at {h:Hdg} {T:Nat→Nat→Int} {day before:Nat}:∀ {k:Nat},bestP h T day before k < never→∃ l,l < k∧costP h T day before l=bestP h T day before k
 | 0,q=>absurd q (Int.lt_irrefl _)
 | k + 1,q=>by
  have q:min (bestP h T day before k) (costP h T day before k) < never:=q
  show ∃ l,l < k + 1∧_=min (bestP h T day before k) (costP h T day before k)
  by_cases c:bestP h T day before k≤costP h T day before k
  ·have e:min (bestP h T day before k) (costP h T day before k)=bestP h T day before k:=by omega
   rw [e] at q ⊢
   obtain ⟨l,h1,h2⟩:=bestP_at q
   exact ⟨l,by omega,h2⟩
  ·exact ⟨k,by omega,by omega⟩
theorem bestP_le_never {h:Hdg} {T:Nat→Nat→Int} {day before:Nat}:∀ {k:Nat},bestP h T day before k≤never
 | 0=>Int.le_refl _
 | k + 1=>Int.le_trans (Int.min_le_left _ _) bestP_le_never
theorem bestP_ge {h:Hdg} {T:Nat→Nat→Int} {day before:Nat}:∀ {k:Nat},(∀ l,l < k→0≤costP h T day before l)→0≤bestP h T day before k
 | 0,_=>by show 0≤never;decide
 | k + 1,q=>by
  have a:=bestP_ge (k:=k) fun l hl=>q l (by omega)
  have b:=q k (by omega)
  show 0≤min _ _
  omega
theorem apartP_eq {a b:Nat} (ha:a < 51) (hb:b < 51):0≤apartP a b∧apartP a b≤50:=by
 have e1:w64 ((a:Int) - b)=a - b:=wrap64 (by omega) (by omega)
 have e2:w64 ((b:Int) - a)=b - a:=wrap64 (by omega) (by omega)
 unfold apartP
 rw [e1,e2]
 omega
theorem restR_rg {h:Hdg}:∀ (k b:Nat),b < 51→0≤restR h k b∧restR h k b≤never
 | 0,b,_=>by show 0≤(0:Int)∧(0:Int)≤never;decide
 | k + 1,b,hb=>by
  refine ⟨bestP_ge fun l hl=>?_,bestP_le_never⟩
  unfold costP
  split
  ·decide
  ·have r:=restR_rg (h:=h) k l hl
   have a:=apartP_eq hb hl
   have e1:w64 (apartP b l + restR h k l)=apartP b l + restR h k l:=wrap64 (by unfold never at *;omega) (by unfold never at *;omega)
   show 0≤min never (w64 (apartP b l + restR h k l))
   rw [e1]
   unfold never at *
   omega
theorem hedgeErr_ok {h:Hdg} (e:hedgeErr h=0):0 < h.Stock.length∧h.Stock.length≤20∧0≤h.Held∧h.Held≤50:=by
 unfold hedgeErr at e
 by_cases q1:h.Stock.length=0
 ·rw [if_pos q1] at e
  cases e
 ·rw [if_neg q1] at e
  by_cases q2:20 < h.Stock.length
  ·rw [if_pos q2] at e
   cases e
  ·rw [if_neg q2] at e
   by_cases q3:stockErr h.Stock≠0
   ·rw [if_pos q3] at e
    exact absurd e q3
   ·rw [if_neg q3] at e
    by_cases q4:(0≤h.Held∧h.Held≤50)
    ·exact ⟨by omega,by omega,q4.1,q4.2⟩
    ·have q4:inB h.Held 0 50=false:=decide_eq_false q4
     rw [q4,if_pos (by simp)] at e
     cases e
def firstL (h:Hdg) (day before:Nat) (due:Int):Nat→Nat→Nat
 | 0,l=>l
 | fuel + 1,l=>if costP h (restP h) day before l=due then l else firstL h day before due fuel (l + 1)
def planGo (h:Hdg):Nat→Nat→Nat→List Nat
 | 0,_,_=>[]
 | k + 1,day,before=>let l:=firstL h day before (restP h day before) 51 0
  l :: planGo h k (day + 1) l
def planP (h:Hdg):List Nat:=planGo h h.Stock.length 0 h.Held.toNat
def hedgedP (h:Hdg):List Nat×Int×Int:=if hedgeErr h≠0 then ([],0,hedgeErr h) else if never≤restP h 0 h.Held.toNat then ([],0,13) else (planP h,restP h 0 h.Held.toNat,0)
theorem firstL_spec {h:Hdg} {day before:Nat} {due:Int}:∀ (fuel l:Nat),(∃ m,l≤m∧m < l + fuel∧costP h (restP h) day before m=due)→l≤firstL h day before due fuel l∧firstL h day before due fuel l < l + fuel∧costP h (restP h) day before (firstL h day before due fuel l)=due∧∀ m,l≤m→m < firstL h day before due fuel l→costP h (restP h) day before m≠due
 | 0,l,⟨m,a,b,_⟩=>by omega
 | fuel + 1,l,⟨m,a,b,c⟩=>by
  unfold firstL
  by_cases q:costP h (restP h) day before l=due
  ·rw [if_pos q]
   exact ⟨Nat.le_refl _,by omega,q,fun m a b=>by omega⟩
  ·rw [if_neg q]
   have hm:l≠m:=fun e=>q (by rw [e];exact c)
   obtain ⟨r1,r2,r3,r4⟩:=firstL_spec fuel (l + 1) ⟨m,by omega,by omega,c⟩
   refine ⟨by omega,by omega,r3,fun m' a' b'=>?_⟩
   by_cases e:m'=l
   ·subst e;exact q
   ·exact r4 m' (by omega) b'
theorem first_ok {h:Hdg} {day before:Nat} (hd:day < h.Stock.length) (hb:before < 51) (hr:restP h day before < never) :
  ∃ l,l < 51∧firstL h day before (restP h day before) 51 0=l∧costP h (restP h) day before l=restP h day before∧(∀ m,m < l→costP h (restP h) day before m≠restP h day before)∧restP h (day + 1) l < never:=by
 have e:=restP_eq (b:=before) hd
 rw [e] at hr
 obtain ⟨m,h1,h2⟩:=bestP_at hr
 rw [← e] at h2 hr
 obtain ⟨r1,r2,r3,r4⟩:=firstL_spec (h:=h) (day:=day) (before:=before) (due:=restP h day before) 51 0 ⟨m,by omega,by omega,h2⟩
 refine ⟨_,by omega,rfl,r3,fun m' a=>r4 m' (by omega) a, ?_⟩
 generalize firstL h day before (restP h day before) 51 0=l at *
 rw [← r3] at hr
 unfold costP at hr
 split at hr
 ·exact absurd hr (Int.lt_irrefl _)
 ·have a:=apartP_eq hb (b:=l) (by omega)
  have r:=restR_rg (h:=h) (h.Stock.length - (day + 1)) l (by omega)
  have r:0≤restP h (day + 1) l∧restP h (day + 1) l≤never:=r
  have e1:w64 (apartP before l + restP h (day + 1) l)=apartP before l + restP h (day + 1) l:=wrap64 (by unfold never at *;omega) (by unfold never at *;omega)
  rw [e1] at hr
  unfold never at *
  omega
def chr (s:ByteArray) (i:Nat):Nat:=(s.data.toList.getD i 0).toNat
def oAt (l:List UInt8) (i:Nat):Nat:=(l.getD i 0).toNat
def mStep (s:ByteArray) (out:List UInt8) (i:Nat):Option (List UInt8) :=
 if chr s i=63∨chr s i=oAt out i then some out else if oAt out i=63 then some (out.set i (s.data.toList.getD i 0)) else none
def mRow (s:ByteArray) (out:List UInt8):Nat→Option (List UInt8)
 | 0=>some out
 | k + 1=>(mRow s out k).bind fun o=>mStep s o k
def mAll (R:List ByteArray) (out:List UInt8):Nat→Option (List UInt8)
 | 0=>some out
 | k + 1=>(mAll R out k).bind fun o=>mRow (R.getD k default) o (R.getD k default).size
def mergedP (R:List ByteArray):Option (List UInt8):=mAll R (R.getD 0 default).data.toList R.length
def mVal:Option (List UInt8)→Value
 | some l=>.tuple #[.string ⟨l.toArray⟩,.bool true]
 | none=>.tuple #[.string .empty,.bool false]
theorem mStep_len {s:ByteArray} {out o:List UInt8} {i:Nat} (h:mStep s out i=some o):o.length=out.length:=by
 unfold mStep at h
 split at h
 ·cases h;rfl
 ·split at h
  ·cases h;rw [List.length_set]
  ·cases h
theorem mRow_len {s:ByteArray} {out:List UInt8}:∀ {k:Nat} {o:List UInt8},mRow s out k=some o→o.length=out.length
 | 0,o,h=>by cases h;rfl
 | k + 1,o,h=>by
  obtain ⟨o1,h1,h2⟩:=Option.bind_eq_some_iff.1 h
  rw [mStep_len h2,mRow_len h1]
theorem mAll_len {R:List ByteArray} {out:List UInt8}:∀ {k:Nat} {o:List UInt8},mAll R out k=some o→o.length=out.length
 | 0,o,h=>by cases h;rfl
 | k + 1,o,h=>by
  obtain ⟨o1,h1,h2⟩:=Option.bind_eq_some_iff.1 h
  rw [mRow_len h2,mAll_len h1]
theorem mRow_none {s:ByteArray} {out:List UInt8}:∀ {k n:Nat},mRow s out k=none→k≤n→mRow s out n=none
 | k,0,h,hk=>by
  have:k=0:=by omega
  subst this
  exact h
 | k,n + 1,h,hk=>by
  by_cases e:k=n + 1
  ·subst e;exact h
  ·show (mRow s out n).bind _=none
   rw [mRow_none h (by omega)]
   rfl
theorem mAll_none {R:List ByteArray} {out:List UInt8}:∀ {k n:Nat},mAll R out k=none→k≤n→mAll R out n=none
 | k,0,h,hk=>by
  have:k=0:=by omega
  subst this
  exact h
 | k,n + 1,h,hk=>by
  by_cases e:k=n + 1
  ·subst e;exact h
  ·show (mAll R out n).bind _=none
   rw [mAll_none h (by omega)]
   rfl
def fitGo (code read:ByteArray):Nat→Bool
 | 0=>true
 | k + 1=>fitGo code read k && (decide (chr read k=63) || decide (chr read k=chr code k))
def fitP (code read:ByteArray):Bool:=decide (code.size=read.size) && fitGo code read code.size
theorem fitGo_false {code read:ByteArray}:∀ {k n:Nat},fitGo code read k=false→k≤n→fitGo code read n=false
 | k,0,h,hk=>by
  have:k=0:=by omega
  subst this
  exact h
 | k,n + 1,h,hk=>by
  by_cases e:k=n + 1
  ·subst e;exact h
  ·show (fitGo code read n && _)=false
   rw [fitGo_false h (by omega)]
   rfl
structure Tag where
 Code:ByteArray
 Hold:Int
 deriving Inhabited
def eTag (t:Tag):List Value:=[.string t.Code,.int .i64 t.Hold]
theorem eTag_len (t:Tag):(eTag t).length=2:=rfl
def fitsL (l:List Tag) (read:ByteArray):Nat→List Int
 | 0=>[]
 | k + 1=>if fitP (l.getD k default).Code read=true then fitsL l read k ++ [(k:Int)] else fitsL l read k
theorem fitsL_le (l:List Tag) (r:ByteArray):∀ (k:Nat),(fitsL l r k).length≤k
 | 0=>Nat.le_refl _
 | k + 1=>by
  have:=fitsL_le l r k
  unfold fitsL
  split
  ·rw [List.length_append]
   show _ + 1≤_
   omega
  ·omega
def readP (R:List ByteArray):ByteArray:=match mergedP R with
 | some l=>⟨l.toArray⟩
 | none=>.empty
theorem mVal_eq (R:List ByteArray):mVal (mergedP R)=.tuple #[.string (readP R),.bool (mergedP R).isSome]:=by
 unfold readP
 cases mergedP R <;> rfl
def matchP (l:List Tag) (R:List ByteArray) (ce:Int) (q:Bool):Int×List Int×Int :=
 if ce≠0 then (0,[],ce) else if (fitsL l (readP R) l.length).length=0 then (2,[],0) else if q=true then (3,fitsL l (readP R) l.length,0) else (1,fitsL l (readP R) l.length,0)
def tB (B:List Bool) (i j:Nat):Bool:=B.getD (i * 8 + j) false
theorem tB_set {B:List Bool} {i j i' j':Nat} {x:Bool} (hl:B.length=64) (hi:i < 8) (hj:j < 8) (hj':j' < 8):tB (B.set (i * 8 + j) x) i' j'=if i'=i∧j'=j then x else tB B i' j':=by
 unfold tB
 rw [List.getD_eq_getElem?_getD,List.getD_eq_getElem?_getD]
 by_cases e:i'=i∧j'=j
 ·obtain ⟨rfl,rfl⟩:=e
  rw [if_pos ⟨rfl,rfl⟩,List.getElem?_set_self (by omega)]
  rfl
 ·rw [if_neg e,List.getElem?_set_ne (by omega)]
theorem tB_at {B:List Bool} {i j:Nat} (hl:B.length=64) (hi:i < 8) (hj:j < 8):(B.map Value.bool)[i * 8 + j]? = some (.bool (tB B i j)):=by
 unfold tB
 have h:i * 8 + j < B.length:=by omega
 rw [List.getElem?_map,List.getElem?_eq_getElem h,List.getD_eq_getElem?_getD,List.getElem?_eq_getElem h]
 rfl
theorem tB_ext {A B:List Bool} (ha:A.length=64) (hb:B.length=64) (h:∀ i j,i < 8→j < 8→tB A i j=tB B i j):A=B:=by
 refine List.ext_getElem (by omega) fun k h1 h2=>?_
 have q:=h (k / 8) (k % 8) (by omega) (by omega)
 have e:k / 8 * 8 + k % 8=k:=by omega
 unfold tB at q
 rw [e,List.getD_eq_getElem?_getD,List.getD_eq_getElem?_getD,List.getElem?_eq_getElem h1,List.getElem?_eq_getElem h2] at q
 exact q
def gB (B:List Bool) (i j:Nat):Nat→Bool
 | 0=>tB B i j
 | k + 1=>gB B i j k || (tB B i k && tB B k j)
def furB (B:List Bool):List Bool:=(List.range 64).map fun k=>gB B (k / 8) (k % 8) 8
theorem furB_len (B:List Bool):(furB B).length=64:=by unfold furB;rw [List.length_map,List.length_range]
theorem furB_at {B:List Bool} {i j:Nat} (hi:i < 8) (hj:j < 8):tB (furB B) i j=gB B i j 8:=by
 unfold furB tB
 rw [List.getD_eq_getElem?_getD,List.getElem?_map,List.getElem?_range (by omega),Option.map_some,Option.getD_some,show (i * 8 + j) / 8=i by omega,show (i * 8 + j) % 8=j by omega]
theorem gB_le {B:List Bool} {i j:Nat} (h:tB B i j=true):∀ k,gB B i j k=true
 | 0=>h
 | k + 1=>by
  unfold gB
  rw [gB_le h k]
  rfl
def offB (B:List Bool):Nat:=(B.filter fun b=>!b).length
theorem filter_lt {α:Type} (p q:α→Bool):∀ (l:List α),(∀ x,x∈l→q x=true→p x=true)→(∃ x,x∈l∧p x=true∧q x=false)→(l.filter q).length < (l.filter p).length
 | [],_,⟨x,h,_⟩=>by cases h
 | a :: l,h,⟨x,hx,h1,h2⟩=>by
  have hl:∀ (l:List α),(∀ x,x∈l→q x=true→p x=true)→(l.filter q).length≤(l.filter p).length:=by
   intro l
   induction l with
   | nil=>intro _;exact Nat.le_refl _
   | cons b l ih =>
    intro h
    have:=ih fun x hx=>h x (List.mem_cons_of_mem _ hx)
    have hb:=h b List.mem_cons_self
    rw [List.filter_cons,List.filter_cons]
    cases hq:q b with
    | true =>
     rw [hb hq]
     simpa using this
    | false =>
     cases hp:p b with
     | true =>
      simp only [if_true,List.length_cons]
      simp
      omega
     | false=>simpa using this
  have ha:=h a List.mem_cons_self
  have ht:∀ x,x∈l→q x=true→p x=true:=fun x hx=>h x (List.mem_cons_of_mem _ hx)
  rw [List.filter_cons,List.filter_cons]
  rcases List.mem_cons.1 hx with rfl|hx
  ·rw [h1,h2]
   have:=hl l ht
   simp
   omega
  ·have:=filter_lt p q l ht ⟨x,hx,h1,h2⟩
   cases hq:q a with
   | true =>
    rw [ha hq]
    simpa using this
   | false =>
    cases hp:p a with
    | true=>simp;omega
    | false=>simpa using this
theorem offB_eq {B:List Bool} (hl:B.length=64):offB B=((List.range 64).filter fun k=>!B.getD k false).length:=by
 have e:B=(List.range 64).map fun k=>B.getD k false:=by
  refine List.ext_getElem (by simp [hl]) fun k h1 h2=>?_
  rw [List.getElem_map,List.getElem_range,List.getD_eq_getElem?_getD,List.getElem?_eq_getElem h1]
  rfl
 unfold offB
 conv=>lhs;rw [e]
 rw [List.filter_map,List.length_map]
 rfl
theorem furB_off {B:List Bool} (hl:B.length=64) (hne:B≠furB B):offB (furB B) < offB B:=by
 rw [offB_eq hl,offB_eq (furB_len B)]
 have pt:∀ k,k < 64→∀ A:List Bool,A.getD k false=tB A (k / 8) (k % 8):=by
  intro k hk A
  unfold tB
  rw [show k / 8 * 8 + k % 8=k by omega]
 refine filter_lt _ _ _ (fun k hk h=>?_) ?_
 ·have hk:k < 64:=List.mem_range.1 hk
  cases hb:B.getD k false with
  | false=>rfl
  | true =>
   have hb2:=hb
   rw [pt k hk] at hb2
   have:(furB B).getD k false=true:=by rw [pt k hk,furB_at (by omega) (by omega)];exact gB_le hb2 8
   rw [this] at h
   exact h
 ·refine Classical.byContradiction fun hno=>hne (tB_ext hl (furB_len B) fun i j hi hj=>?_)
  rw [furB_at hi hj]
  cases hb:tB B i j with
  | true=>rw [gB_le hb 8]
  | false =>
   cases hg:gB B i j 8 with
   | false=>rfl
   | true =>
    refine absurd ⟨i * 8 + j,List.mem_range.2 (by omega), ?_, ?_⟩ hno
    ·show (!tB B i j)=true
     rw [hb]
     rfl
    ·show (!tB (furB B) i j)=false
     rw [furB_at hi hj,hg]
     rfl
def closeGo:Nat→List Bool→List Bool
 | 0,B=>B
 | k + 1,B=>if B=furB B then B else closeGo k (furB B)
theorem closeGo_len:∀ (k:Nat) {B:List Bool},B.length=64→(closeGo k B).length=64
 | 0,B,h=>h
 | k + 1,B,h=>by
  unfold closeGo
  split
  ·exact h
  ·exact closeGo_len k (furB_len B)
structure Lnk where
 A:Int
 B:Int
 Sure:Bool
 deriving Inhabited
def eLnk (l:Lnk):List Value:=[.int .i64 l.A,.int .i64 l.B,.bool l.Sure]
theorem eLnk_len (l:Lnk):(eLnk l).length=3:=rfl
def idB:Nat→List Bool
 | 0=>List.replicate 64 false
 | k + 1=>(idB k).set (k * 8 + k) true
theorem idB_len:∀ k,(idB k).length=64
 | 0=>List.length_replicate ..
 | k + 1=>by rw [idB,List.length_set,idB_len]
def lnkB (all:Bool) (B:List Bool) (l:Lnk):List Bool:=if (all || l.Sure)=true then (B.set (l.A.toNat * 8 + l.B.toNat) true).set (l.B.toNat * 8 + l.A.toNat) true else B
theorem lnkB_len {all:Bool} {B:List Bool} {l:Lnk} (h:B.length=64):(lnkB all B l).length=64:=by
 unfold lnkB
 split
 ·rw [List.length_set,List.length_set,h]
 ·exact h
def lnksB (all:Bool) (B:List Bool) (l:List Lnk):List Bool:=l.foldl (lnkB all) B
theorem lnksB_snoc (all:Bool) (B:List Bool) (l:List Lnk) (x:Lnk):lnksB all B (l ++ [x])=lnkB all (lnksB all B l) x:=by
 unfold lnksB
 rw [List.foldl_append]
 rfl
theorem lnksB_len {all:Bool}:∀ (l:List Lnk) {B:List Bool},B.length=64→(lnksB all B l).length=64
 | [],_,h=>h
 | x :: l,_,h=>lnksB_len l (lnkB_len h)
def tiesP (all:Bool) (l:List Lnk):List Bool:=closeGo 65 (lnksB all (idB 8) l)
structure Tll where
 Names:Int
 Limit:Int
 Window:Int
 Links:List Lnk
 Dues:List Due
 deriving Inhabited
def sameL (o l:Lnk):Bool:=(decide (o.A=l.A) && decide (o.B=l.B)) || (decide (o.A=l.B) && decide (o.B=l.A))
def lnkBad (last:Int) (pre:List Lnk) (x:Lnk):Int:=if !inB x.A 0 last || !inB x.B 0 last then 3 else if x.A=x.B then 2 else if pre.any (fun o=>sameL o x)=true then 4 else 0
def lnksErr (last:Int):List Lnk→List Lnk→Int
 | _,[]=>0
 | pre,x :: l=>if lnkBad last pre x=0 then lnksErr last (pre ++ [x]) l else lnkBad last pre x
def ordBad (day:Int):Option Int→Bool
 | some p=>decide (day < p)
 | none=>false
def dueBad (last:Int) (prev:Option Int) (d:Due):Int :=
 if !inB d.Day 0 4000 then 1 else if ordBad d.Day prev=true then 5 else if !inB d.Name 0 last then 3 else if !inB d.Cents 0 100000000 then 1 else 0
def duesErr (last:Int):Option Int→List Due→Int
 | _,[]=>0
 | p,d :: l=>if dueBad last p d=0 then duesErr last (some d.Day) l else dueBad last p d
def tillErr (t:Tll):Int :=
 if t.Names < 1 then 7 else if 8 < t.Names then 6 else if !inB t.Limit 0 100000000 || !inB t.Window 1 30 then 1 else if 10 < t.Links.length then 6 else
 if lnksErr (w64 (t.Names - 1)) [] t.Links≠0 then lnksErr (w64 (t.Names - 1)) [] t.Links else if 20 < t.Dues.length then 6 else duesErr (w64 (t.Names - 1)) none t.Dues
def prevU (l:List Due):Nat→Option Int
 | 0=>none
 | i + 1=>some (l.getD i default).Day
theorem inB_iff {a b c:Int}:inB a b c=true↔b≤a∧a≤c:=decide_eq_true_iff
theorem lnkBad_ok {last:Int} {pre:List Lnk} {x:Lnk} (h:lnkBad last pre x=0):(0≤x.A∧x.A≤last)∧(0≤x.B∧x.B≤last):=by
 unfold lnkBad at h
 split at h
 ·cases h
 ·rename_i q
  simp only [Bool.or_eq_true,Bool.not_eq_true',not_or,Bool.not_eq_false] at q
  exact ⟨inB_iff.1 q.1,inB_iff.1 q.2⟩
theorem lnksErr_ok {last:Int}:∀ {l pre:List Lnk},lnksErr last pre l=0→∀ x,x∈l→(0≤x.A∧x.A≤last)∧(0≤x.B∧x.B≤last)
 | [],_,_,x,hx=>by cases hx
 | y :: l,pre,h,x,hx=>by
  unfold lnksErr at h
  split at h
  ·rename_i q
   rcases List.mem_cons.1 hx with rfl|hx
   ·exact lnkBad_ok q
   ·exact lnksErr_ok h x hx
  ·rename_i q
   exact absurd h q
theorem dueBad_ok {last:Int} {p:Option Int} {d:Due} (h:dueBad last p d=0):(0≤d.Day∧d.Day≤4000)∧(0≤d.Name∧d.Name≤last)∧(0≤d.Cents∧d.Cents≤100000000):=by
 unfold dueBad at h
 split at h
 ·cases h
 rename_i q1
 split at h
 ·cases h
 split at h
 ·cases h
 rename_i q2
 split at h
 ·cases h
 rename_i q3
 simp only [Bool.not_eq_true',Bool.not_eq_false] at q1 q2 q3
 exact ⟨inB_iff.1 q1,inB_iff.1 q2,inB_iff.1 q3⟩
theorem duesErr_ok {last:Int}:∀ {l:List Due} {p:Option Int},duesErr last p l=0→∀ x,x∈l→(0≤x.Day∧x.Day≤4000)∧(0≤x.Name∧x.Name≤last)∧(0≤x.Cents∧x.Cents≤100000000)
 | [],_,_,x,hx=>by cases hx
 | y :: l,p,h,x,hx=>by
  unfold duesErr at h
  split at h
  ·rename_i q
   rcases List.mem_cons.1 hx with rfl|hx
   ·exact dueBad_ok q
   ·exact duesErr_ok h x hx
  ·rename_i q
   exact absurd h q
theorem tillErr_ok {t:Tll} (h:tillErr t=0):(1≤t.Names∧t.Names≤8)∧(0≤t.Limit∧t.Limit≤100000000)∧(1≤t.Window∧t.Window≤30)∧t.Links.length≤10∧t.Dues.length≤20 ∧
  (∀ x,x∈t.Links→(0≤x.A∧x.A < t.Names)∧(0≤x.B∧x.B < t.Names))∧(∀ x,x∈t.Dues→(0≤x.Day∧x.Day≤4000)∧(0≤x.Name∧x.Name < t.Names)∧(0≤x.Cents∧x.Cents≤100000000)):=by
 unfold tillErr at h
 split at h
 ·cases h
 rename_i q1
 split at h
 ·cases h
 rename_i q2
 split at h
 ·cases h
 rename_i q3
 split at h
 ·cases h
 rename_i q4
 split at h
 ·rename_i q5
  exact absurd h q5
 rename_i q5
 split at h
 ·cases h
 rename_i q6
 have q5:=Decidable.not_not.1 q5
 simp only [Bool.or_eq_true,Bool.not_eq_true',not_or,Bool.not_eq_false] at q3
 have hw:w64 (t.Names - 1)=t.Names - 1:=wrap64 (by omega) (by omega)
 rw [hw] at q5 h
 refine ⟨by omega,inB_iff.1 q3.1,inB_iff.1 q3.2,by omega,by omega,fun x hx=>?_,fun x hx=>?_⟩
 ·have:=lnksErr_ok q5 x hx
  omega
 ·have:=duesErr_ok h x hx
  omega
def keptT (t:Tll) (all:Bool) (l:List Due):Bool:=keptP (fun n d=>wGo (tiesP all t.Links) t.Window n d l) t.Names.toNat t.Limit l
def lawfulP (t:Tll):Int×Int:=if tillErr t≠0 then (0,tillErr t) else if keptT t true t.Dues=true then (1,0) else if keptT t false t.Dues=true then (3,0) else (2,0)
theorem tiesP_len {all:Bool} {l:List Lnk}:(tiesP all l).length=64:=closeGo_len _ (lnksB_len _ (idB_len 8))
def early (l:List Due) (day:Int):Bool:=ordBad day (prevU l l.length)
def dayErr (t:Tll) (name day:Int) (fine:Bool):Int :=
 if tillErr t≠0 then tillErr t else if ¬ (0≤name∧name≤w64 (t.Names - 1)) then 3 else if ¬ (0≤day∧day≤4000)∨fine=false then 1 else if early t.Dues day=true then 12 else if keptT t true t.Dues=false then 13 else 0
def roomP (t:Tll) (name day:Int):Int×Int:=if dayErr t name day true≠0 then (0,dayErr t name day true) else (w64 (t.Limit - wGo (tiesP true t.Links) t.Window name day t.Dues),0)
theorem dayErr_ok {t:Tll} {name day:Int} {fine:Bool} (h:dayErr t name day fine=0):tillErr t=0∧(0≤name∧name < t.Names)∧(0≤day∧day≤4000)∧fine=true∧keptT t true t.Dues=true:=by
 unfold dayErr at h
 split at h
 ·rename_i q
  exact absurd h q
 rename_i q0
 have q0:=Decidable.not_not.1 q0
 have k:=tillErr_ok q0
 have hw:w64 (t.Names - 1)=t.Names - 1:=wrap64 (by omega) (by omega)
 rw [hw] at h
 split at h
 ·cases h
 split at h
 ·cases h
 rename_i q1 q2
 split at h
 ·cases h
 split at h
 ·cases h
 rename_i q3 q4
 refine ⟨q0,by omega, ?_, ?_,by simpa using q4⟩
 ·exact Decidable.not_not.1 fun q=>q2 (.inl q)
 ·cases fine with
  | true=>rfl
  | false=>exact absurd (.inr rfl) q2
def lkE:List Ent2→Int→Int→Int
 | [],_,_=>0
 | x :: l,a,b=>if a=x.1.1∧b=x.1.2 then x.2 else lkE l a b
theorem lkE_find (a b:Int):∀ (l:List Ent2) (i:Nat),(match findE a b l i with|some (_,u)=>u|none=>Value.int .i64 0)=.int .i64 (lkE l a b)
 | [],i=>rfl
 | x :: l,i=>by
  rw [findE,lkE]
  by_cases c:a=x.1.1∧b=x.1.2
  ·rw [if_pos c,if_pos c]
  ·rw [if_neg c,if_neg c]
   exact lkE_find a b l (i + 1)
theorem findE_new {a b:Int}:∀ {l:List Ent2} {i:Nat},(∀ x,x∈l→x.1.2 < b)→findE a b l i=none
 | [],i,_=>rfl
 | x :: l,i,h=>by
  have:=h x (List.mem_cons_self ..)
  rw [findE,if_neg (by omega)]
  exact findE_new fun y hy=>h y (List.mem_cons_of_mem _ hy)
def leftGo (es:List Ent2) (n:Int):Nat→Int→Int→Int
 | 0,_,r=>r
 | c + 1,k,r=>leftGo es n c (k + 1) (w64 (r - lkE es n k))
def roomAt (t:Tll) (es:List Ent2) (n d:Int):Int:=leftGo es n (d - w64 (w64 (d - t.Window) + 1)).toNat (w64 (w64 (d - t.Window) + 1)) (w64 (t.Limit - wGo (tiesP true t.Links) t.Window n d t.Dues))
def soonGo (t:Tll) (n:Int):Nat→Int→Int→List Ent2→Int×Int
 | 0,_,_,_=>(0,12)
 | f + 1,d,c,es=>if c≤roomAt t es n d then (d,0) else soonGo t n f (d + 1) (w64 (c - roomAt t es n d)) (es ++ [((n,d),roomAt t es n d)])
def soonP (t:Tll) (n d c:Int):Int×Int:=if dayErr t n d (inB c 0 100000000)≠0 then (0,dayErr t n d (inB c 0 100000000)) else soonGo t n (4001 - d).toNat d c []
def signB (c:Int):Bool:=decide (65≤c∧c≤90) || decide (48≤c∧c≤57)
def partB (c:Int):Bool:=decide (c=63) || signB c
def mayB (k:Nat):Int→Bool:=if k=115 then signB else partB
def badFrom (may:Int→Bool) (s:ByteArray):Nat→Nat→Bool
 | 0,_=>false
 | f + 1,p=>if p < s.size then (!may (Utf8.decode s p).1 || badFrom may s f (p + (Utf8.decode s p).2)) else false
def readsP (may:Int→Bool) (s:ByteArray):Bool:=decide (1≤(s.size:Int)∧(s.size:Int)≤8) && !badFrom may s s.size 0
theorem badFrom_end {may:Int→Bool} {s:ByteArray} {p:Nat} (h:¬ p < s.size):∀ f,badFrom may s f p=false
 | 0=>rfl
 | f + 1=>by rw [badFrom,if_neg h]
def tagBad (pre:List Tag) (t:Tag):Int:=if readsP signB t.Code=false then 2 else if ¬ (0≤t.Hold∧t.Hold≤60) then 1 else if pre.any (fun o=>decide (o.Code=t.Code))=true then 4 else 0
def tagsErr:List Tag→List Tag→Int
 | _,[]=>0
 | pre,t :: l=>if tagBad pre t=0 then tagsErr (pre ++ [t]) l else tagBad pre t
def partOk (R:List ByteArray) (s:ByteArray):Bool:=readsP partB s && decide (s.size=(R.getD 0 default).size)
def goodsErr (l:List Tag) (R:List ByteArray):Int :=
 if 12 < l.length then 6 else if tagsErr [] l≠0 then tagsErr [] l else if R.length=0 then 7 else if 4 < R.length then 6 else if R.all (partOk R)=false then 2 else if (mergedP R).isSome=false then 9 else 0
theorem either_in {x lo hi:Int} {l:List Int} (h:0 < l.length) (h2:l.length < 1000000) (k:∀ y,y∈l→lo≤y∧y≤hi):lo≤either x l∧either x l≤hi:=k _ (either_mem x h h2)
theorem lnksErr_snoc {last:Int} {x:Lnk}:∀ {l pre:List Lnk},lnksErr last pre l=0→lnkBad last (pre ++ l) x=0→lnksErr last pre (l ++ [x])=0
 | [],pre,_,h=>by
  rw [List.append_nil] at h
  show (if lnkBad last pre x=0 then lnksErr last (pre ++ [x]) [] else lnkBad last pre x)=0
  rw [if_pos h]
  rfl
 | y :: l,pre,h,k=>by
  unfold lnksErr at h
  split at h
  ·rename_i q
   rw [List.cons_append,lnksErr,if_pos q]
   exact lnksErr_snoc h (by rw [List.append_assoc];exact k)
  ·rename_i q
   exact absurd h q
theorem lnkBad_mk {last:Int} {pre:List Lnk} {x:Lnk} (h1:0≤x.A∧x.A≤last) (h2:0≤x.B∧x.B≤last) (h3:¬ x.A=x.B) (h4:pre.any (fun o=>sameL o x)=false):lnkBad last pre x=0:=by
 unfold lnkBad inB
 rw [decide_eq_true h1,decide_eq_true h2]
 simp only [Bool.not_true,Bool.or_self,Bool.false_eq_true,if_false]
 rw [if_neg h3,if_neg (by rw [h4];exact Bool.false_ne_true)]
theorem dueBad_mk {last:Int} {p:Option Int} {d:Due} (h1:0≤d.Day∧d.Day≤4000) (h2:∀ q,p=some q→q≤d.Day) (h3:0≤d.Name∧d.Name≤last) (h4:0≤d.Cents∧d.Cents≤100000000):dueBad last p d=0:=by
 have ho:ordBad d.Day p=false:=by
  unfold ordBad
  cases p with
  | none=>rfl
  | some q =>
   have:=h2 q rfl
   exact decide_eq_false (by omega)
 unfold dueBad inB
 rw [decide_eq_true h1,decide_eq_true h3,decide_eq_true h4,ho]
 rfl
theorem duesErr_snoc {last:Int} {d:Due} (h1:0≤d.Day∧d.Day≤4000) (h3:0≤d.Name∧d.Name≤last) (h4:0≤d.Cents∧d.Cents≤100000000):∀ {l:List Due} {p:Option Int},duesErr last p l=0→(∀ x,x∈l→x.Day≤d.Day)→(∀ q,p=some q→q≤d.Day)→duesErr last p (l ++ [d])=0
 | [],p,_,_,hp=>by
  show (if dueBad last p d=0 then duesErr last (some d.Day) [] else dueBad last p d)=0
  rw [if_pos (dueBad_mk h1 hp h3 h4)]
  rfl
 | y :: l,p,h,hl,hp=>by
  unfold duesErr at h
  split at h
  ·rename_i q
   rw [List.cons_append,duesErr,if_pos q]
   exact duesErr_snoc h1 h3 h4 h (fun x hx=>hl x (List.mem_cons_of_mem _ hx)) fun q hq=>by cases hq;exact hl y (List.mem_cons_self ..)
  ·rename_i q
   exact absurd h q
theorem till_ok {t:Tll} (h1:1≤t.Names∧t.Names≤8) (h2:0≤t.Limit∧t.Limit≤100000000) (h3:1≤t.Window∧t.Window≤30) (h4:t.Links.length≤10) (h5:lnksErr (t.Names - 1) [] t.Links=0) (h6:t.Dues.length≤20) (h7:duesErr (t.Names - 1) none t.Dues=0):tillErr t=0:=by
 unfold tillErr inB
 have hw:w64 (t.Names - 1)=t.Names - 1:=wrap64 (by omega) (by omega)
 rw [if_neg (by omega),if_neg (by omega),decide_eq_true h2,decide_eq_true h3,hw,h5,h7]
 simp only [Bool.not_true,Bool.or_self,Bool.false_eq_true,if_false,ne_eq,not_true_eq_false]
 rw [if_neg (by omega),if_neg (by omega)]
structure TillV (t:Tll) (du:Nat):Prop where
 names:1≤t.Names∧t.Names≤8
 limit:0≤t.Limit∧t.Limit≤1000
 win:1≤t.Window∧t.Window≤6
 links:lnksErr (t.Names - 1) [] t.Links=0
 linksN:t.Links.length≤6
 dues:duesErr (t.Names - 1) none t.Dues=0
 duesN:t.Dues.length≤du
 days:∀ d,d∈t.Dues→d.Day≤100∧d.Cents≤1001
inductive Con (E:Nat→Nat→Prop):Nat→Nat→Prop
 | refl (i:Nat):Con E i i
 | step {i j k:Nat} (h:E i j) (t:Con E j k):Con E i k
theorem Con.trans {E:Nat→Nat→Prop} {i j k:Nat} (a:Con E i j) (b:Con E j k):Con E i k:=by
 induction a with
 | refl=>exact b
 | step h _ ih=>exact .step h (ih b)
theorem Con.one {E:Nat→Nat→Prop} {i j:Nat} (h:E i j):Con E i j:=.step h (.refl _)
theorem Con.symm {E:Nat→Nat→Prop} (hs:∀ i j,E i j→E j i) {i j:Nat} (a:Con E i j):Con E j i:=by
 induction a with
 | refl=>exact .refl _
 | step h _ ih=>exact ih.trans (.one (hs _ _ h))
def LnkE (p:Lnk→Bool) (l:List Lnk) (a b:Nat):Prop:=∃ x,x∈l∧p x=true∧((a=x.A.toNat∧b=x.B.toNat)∨(a=x.B.toNat∧b=x.A.toNat))
theorem LnkE.symm {p:Lnk→Bool} {l:List Lnk} (a b:Nat) (h:LnkE p l a b):LnkE p l b a:=by
 obtain ⟨x,h1,h2,h3⟩:=h
 exact ⟨x,h1,h2,h3.symm.imp (fun q=>⟨q.2,q.1⟩) fun q=>⟨q.2,q.1⟩⟩
theorem gB_of {B:List Bool} {i j:Nat}:∀ {k:Nat},gB B i j k=true→tB B i j=true∨∃ m,m < k∧tB B i m=true∧tB B m j=true
 | 0,h=>.inl h
 | k + 1,h=>by
  unfold gB at h
  rw [Bool.or_eq_true,Bool.and_eq_true] at h
  rcases h with h|h
  ·rcases gB_of h with q|⟨m,q1,q2⟩
   ·exact .inl q
   ·exact .inr ⟨m,by omega,q2⟩
  ·exact .inr ⟨k,by omega,h⟩
theorem gB_mk {B:List Bool} {i j m:Nat} (h1:tB B i m=true) (h2:tB B m j=true):∀ {k:Nat},m < k→gB B i j k=true
 | 0,h=>by omega
 | k + 1,h=>by
  unfold gB
  rw [Bool.or_eq_true,Bool.and_eq_true]
  by_cases q:m < k
  ·exact .inl (gB_mk h1 h2 q)
  ·have:m=k:=by omega
   subst this
   exact .inr ⟨h1,h2⟩
def Snd (E:Nat→Nat→Prop) (B:List Bool):Prop:=∀ i j,i < 8→j < 8→tB B i j=true→Con E i j
theorem Snd.fur {E:Nat→Nat→Prop} {B:List Bool} (h:Snd E B):Snd E (furB B):=by
 intro i j hi hj q
 rw [furB_at hi hj] at q
 rcases gB_of q with q|⟨m,q1,q2,q3⟩
 ·exact h i j hi hj q
 ·exact (h i m hi q1 q2).trans (h m j q1 hj q3)
theorem Snd.close {E:Nat→Nat→Prop}:∀ (k:Nat) {B:List Bool},Snd E B→Snd E (closeGo k B)
 | 0,_,h=>h
 | k + 1,B,h=>by
  unfold closeGo
  split
  ·exact h
  ·exact Snd.close k h.fur
theorem close_mono {i j:Nat} (hi:i < 8) (hj:j < 8):∀ (k:Nat) {B:List Bool},tB B i j=true→tB (closeGo k B) i j=true
 | 0,_,h=>h
 | k + 1,B,h=>by
  unfold closeGo
  split
  ·exact h
  ·exact close_mono hi hj k (by rw [furB_at hi hj];exact gB_le h 8)
theorem close_fix:∀ (k:Nat) {B:List Bool},B.length=64→offB B < k→furB (closeGo k B)=closeGo k B
 | 0,_,_,h=>by omega
 | k + 1,B,hl,h=>by
  unfold closeGo
  split
  ·rename_i q
   exact q.symm
  ·rename_i q
   have:=furB_off hl q
   exact close_fix k (furB_len B) (by omega)
theorem tB_idB (k:Nat) (hk:k≤8) {i j:Nat} (hi:i < 8) (hj:j < 8):tB (idB k) i j=decide (i=j∧i < k):=by
 induction k with
 | zero =>
  have:tB (idB 0) i j=false:=by
   unfold tB idB
   rw [List.getD_eq_getElem?_getD,List.getElem?_replicate]
   split <;> rfl
  rw [this]
  exact (decide_eq_false (by omega)).symm
 | succ k ih =>
  rw [idB,tB_set (idB_len k) (by omega) (by omega) hj,ih (by omega)]
  by_cases q:i=k∧j=k
  ·rw [if_pos q]
   exact (decide_eq_true (by omega)).symm
  ·rw [if_neg q]
   by_cases q2:i=j∧i < k
   ·rw [decide_eq_true q2]
    exact (decide_eq_true (by omega)).symm
   ·rw [decide_eq_false q2]
    exact (decide_eq_false (by omega)).symm
def LnkR (l:List Lnk):Prop:=∀ x,x∈l→(0≤x.A∧x.A < 8)∧(0≤x.B∧x.B < 8)
theorem tB_lnks (all:Bool):∀ (l:List Lnk) {B:List Bool},B.length=64→LnkR l→∀ i j,i < 8→j < 8→(tB (lnksB all B l) i j=true↔tB B i j=true∨LnkE (fun x=>all || x.Sure) l i j)
 | [],B,hl,_,i,j,hi,hj=>by
  refine ⟨fun h=>.inl h,fun h=>?_⟩
  rcases h with h|⟨x,h,_⟩
  ·exact h
  ·cases h
 | x :: l,B,hl,hr,i,j,hi,hj=>by
  have hx:=hr x (List.mem_cons_self ..)
  have ih:=tB_lnks all l (lnkB_len (all:=all) (l:=x) hl) (fun y hy=>hr y (List.mem_cons_of_mem _ hy)) i j hi hj
  show tB (lnksB all (lnkB all B x) l) i j=true↔_
  rw [ih]
  have e1:tB (lnkB all B x) i j=true↔tB B i j=true∨((all || x.Sure)=true∧((i=x.A.toNat∧j=x.B.toNat)∨(i=x.B.toNat∧j=x.A.toNat))):=by
   unfold lnkB
   by_cases q:(all || x.Sure)=true
   ·rw [if_pos q,tB_set (by rw [List.length_set];exact hl) (by omega) (by omega) hj,tB_set hl (by omega) (by omega) hj]
    by_cases c1:i=x.B.toNat∧j=x.A.toNat
    ·rw [if_pos c1]
     exact ⟨fun _=>.inr ⟨q,.inr c1⟩,fun _=>rfl⟩
    ·rw [if_neg c1]
     by_cases c2:i=x.A.toNat∧j=x.B.toNat
     ·rw [if_pos c2]
      exact ⟨fun _=>.inr ⟨q,.inl c2⟩,fun _=>rfl⟩
     ·rw [if_neg c2]
      refine ⟨fun h=>.inl h,fun h=>?_⟩
      rcases h with h|⟨_,h|h⟩
      ·exact h
      ·exact absurd h c2
      ·exact absurd h c1
   ·rw [if_neg q]
    exact ⟨fun h=>.inl h,fun h=>h.elim id fun h=>absurd h.1 q⟩
  rw [e1]
  constructor
  ·rintro ((h|h)|⟨y,h1,h2⟩)
   ·exact .inl h
   ·exact .inr ⟨x,List.mem_cons_self ..,h⟩
   ·exact .inr ⟨y,List.mem_cons_of_mem _ h1,h2⟩
  ·rintro (h|⟨y,h1,h2⟩)
   ·exact .inl (.inl h)
   ·rcases List.mem_cons.1 h1 with rfl|h1
    ·exact .inl (.inr h2)
    ·exact .inr ⟨y,h1,h2⟩
theorem ties_con {all:Bool} {l:List Lnk} (hr:LnkR l) {i j:Nat} (hi:i < 8) (hj:j < 8):tB (tiesP all l) i j=true↔Con (LnkE (fun x=>all || x.Sure) l) i j:=by
 have hl:(lnksB all (idB 8) l).length=64:=lnksB_len l (idB_len 8)
 have hb:=fun i j hi hj=>tB_lnks all l (idB_len 8) hr i j hi hj
 have hoff:offB (lnksB all (idB 8) l) < 65:=by
  have:offB (lnksB all (idB 8) l)≤(lnksB all (idB 8) l).length:=List.length_filter_le ..
  omega
 have hfix:=close_fix 65 hl hoff
 constructor
 ·refine Snd.close 65 (E:=LnkE (fun x=>all || x.Sure) l) (fun i j hi hj h=>?_) i j hi hj
  rcases (hb i j hi hj).1 h with q|q
  ·rw [tB_idB 8 (Nat.le_refl _) hi hj] at q
   have:=of_decide_eq_true q
   rw [this.1]
   exact .refl _
  ·exact .one q
 ·intro c
  have base:∀ i j,i < 8→j < 8→tB (lnksB all (idB 8) l) i j=true→tB (tiesP all l) i j=true:=fun i j hi hj h=>close_mono hi hj 65 h
  have tr:∀ i j k,i < 8→j < 8→k < 8→tB (tiesP all l) i j=true→tB (tiesP all l) j k=true→tB (tiesP all l) i k=true:=by
   intro i j k hi hj hk h1 h2
   have:furB (tiesP all l)=tiesP all l:=hfix
   rw [← this,furB_at hi hk]
   exact gB_mk h1 h2 hj
  clear hb
  induction c with
  | refl i=>exact base i i hi hi ((tB_lnks all l (idB_len 8) hr i i hi hi).2 (.inl (by rw [tB_idB 8 (Nat.le_refl _) hi hi];exact decide_eq_true ⟨rfl,hi⟩)))
  | step h t ih =>
   rename_i i m k
   obtain ⟨x,h1,h2,h3⟩:=h
   have hx:=hr x h1
   have hm:m < 8:=by
    rcases h3 with h3|h3 <;> omega
   exact tr i m k hi hm hj (base i m hi hm ((tB_lnks all l (idB_len 8) hr i m hi hm).2 (.inr ⟨x,h1,h2,h3⟩))) (ih hm hj)
theorem tie_tB (B:List Bool) (a b:Int):tie B a b=tB B a.toNat b.toNat:=rfl
section
variable {all:Bool} {l:List Lnk} {a b c:Int}
theorem tie_con (hr:LnkR l) (ha:0≤a∧a < 8) (hb:0≤b∧b < 8):tie (tiesP all l) a b=true↔Con (LnkE (fun x=>all || x.Sure) l) a.toNat b.toNat:=by
 rw [tie_tB]
 exact ties_con hr (by omega) (by omega)
theorem tie_refl (hr:LnkR l) (ha:0≤a∧a < 8):tie (tiesP all l) a a=true:=(tie_con hr ha ha).2 (.refl _)
theorem tie_symm (hr:LnkR l) (ha:0≤a∧a < 8) (hb:0≤b∧b < 8) (h:tie (tiesP all l) a b=true):tie (tiesP all l) b a=true:=(tie_con hr hb ha).2 (((tie_con hr ha hb).1 h).symm LnkE.symm)
theorem tie_trans (hr:LnkR l) (ha:0≤a∧a < 8) (hb:0≤b∧b < 8) (hc:0≤c∧c < 8) (h:tie (tiesP all l) a b=true) (k:tie (tiesP all l) b c=true):tie (tiesP all l) a c=true:=(tie_con hr ha hc).2 (((tie_con hr ha hb).1 h).trans ((tie_con hr hb hc).1 k))
theorem tie_same (hr:LnkR l) (ha:0≤a∧a < 8) (hb:0≤b∧b < 8) (hc:0≤c∧c < 8) (h:tie (tiesP all l) a b=true):tie (tiesP all l) a c=tie (tiesP all l) b c:=by
 cases q:tie (tiesP all l) b c with
 | true=>exact tie_trans hr ha hb hc h q
 | false =>
  cases q2:tie (tiesP all l) a c with
  | false=>rfl
  | true =>
   rw [tie_trans hr hb ha hc (tie_symm hr ha hb h) q2] at q
   cases q
end
theorem tillErr_links {t:Tll} (h:tillErr t=0):LnkR t.Links:=by
 have k:=tillErr_ok h
 intro x hx
 have:=k.2.2.2.2.2.1 x hx
 omega
def sumD (p:Due→Bool):List Due→Int
 | []=>0
 | d :: l=>(if p d=true then d.Cents else 0) + sumD p l
theorem sumD_app (p:Due→Bool):∀ (l m:List Due),sumD p (l ++ m)=sumD p l + sumD p m
 | [],m=>by rw [List.nil_append,sumD,Int.zero_add]
 | d :: l,m=>by rw [List.cons_append,sumD,sumD,sumD_app p l m,Int.add_assoc]
theorem sumD_congr {p q:Due→Bool}:∀ {l:List Due},(∀ d,d∈l→p d=q d)→sumD p l=sumD q l
 | [],_=>rfl
 | d :: l,h=>by rw [sumD,sumD,h d (List.mem_cons_self ..),sumD_congr fun x hx=>h x (List.mem_cons_of_mem _ hx)]
theorem sumD_mono {p q:Due→Bool}:∀ {l:List Due},(∀ d,d∈l→0≤d.Cents)→(∀ d,d∈l→p d=true→q d=true)→sumD p l≤sumD q l
 | [],_,_=>Int.le_refl _
 | d :: l,h0,h=>by
  have ih:=sumD_mono (p:=p) (q:=q) (l:=l) (fun x hx=>h0 x (List.mem_cons_of_mem _ hx)) fun x hx=>h x (List.mem_cons_of_mem _ hx)
  have hd:=h0 d (List.mem_cons_self ..)
  have hpq:=h d (List.mem_cons_self ..)
  rw [sumD,sumD]
  by_cases c:p d=true
  ·rw [if_pos c,if_pos (hpq c)]
   omega
  ·rw [if_neg c]
   split <;> omega
theorem sumD_nn {p:Due→Bool}:∀ {l:List Due},(∀ d,d∈l→0≤d.Cents)→0≤sumD p l
 | [],_=>Int.le_refl _
 | d :: l,h0=>by
  have ih:=sumD_nn (p:=p) (l:=l) fun x hx=>h0 x (List.mem_cons_of_mem _ hx)
  have hd:=h0 d (List.mem_cons_self ..)
  rw [sumD]
  split <;> omega
theorem sumD_zero {p:Due→Bool}:∀ {l:List Due},(∀ d,d∈l→p d=false)→sumD p l=0
 | [],_=>rfl
 | d :: l,h=>by
  rw [sumD,h d (List.mem_cons_self ..),sumD_zero fun x hx=>h x (List.mem_cons_of_mem _ hx)]
  rfl
def okD (B:List Bool) (win name day:Int) (d:Due):Bool:=d.Cash && (tie B name d.Name && decide (day - win < d.Day∧d.Day≤day))
def CentsR (l:List Due):Prop:=∀ d,d∈l→0≤d.Cents∧d.Cents≤100000000
theorem wStep_ok {B:List Bool} {win name day:Int} (hw:1≤win∧win≤30) (hd:-10000≤day∧day≤10000) (s:Int) (d:Due) (hs:0≤s∧s≤1000000000000) (hc:0≤d.Cents∧d.Cents≤100000000):wStep B win name day s d=s + if okD B win name day d=true then d.Cents else 0:=by
 have w1:w64 (day - win)=day - win:=wrap64 (by omega) (by omega)
 have w2:w64 (day - win + 1)=day - win + 1:=wrap64 (by omega) (by omega)
 have w3:w64 (s + d.Cents)=s + d.Cents:=wrap64 (by omega) (by omega)
 have e:wOk B win name day d=(tie B name d.Name && decide (day - win < d.Day∧d.Day≤day)):=by
  unfold wOk
  rw [w1,w2]
  rfl
 unfold wStep okD
 rw [e,w3]
 cases d.Cash with
 | false=>simp
 | true =>
  rw [if_pos rfl,Bool.true_and]
  split
  ·rfl
  ·rw [Int.add_zero]
theorem wGo_eq {B:List Bool} {win name day:Int} (hw:1≤win∧win≤30) (hd:-10000≤day∧day≤10000) {l:List Due} (hc:CentsR l) (hl:l.length≤1000):wGo B win name day l=sumD (okD B win name day) l:=by
 have key:∀ (m:List Due) (s:Int),CentsR m→(0≤s∧s + 100000000 * m.length≤1000000000000)→m.foldl (wStep B win name day) s=s + sumD (okD B win name day) m:=by
  intro m
  induction m with
  | nil =>
   intro s _ _
   rw [List.foldl_nil,sumD,Int.add_zero]
  | cons d m ih =>
   intro s hm hs
   have hdc:=hm d (List.mem_cons_self ..)
   rw [List.length_cons] at hs
   rw [List.foldl_cons,wStep_ok hw hd s d (by omega) hdc,sumD]
   rw [ih _ (fun x hx=>hm x (List.mem_cons_of_mem _ hx)) (by split <;> omega),Int.add_assoc]
 have:=key l 0 hc (by omega)
 rw [Int.zero_add] at this
 exact this
theorem findE_some {a b:Int} {y:Nat×Value}:∀ {l:List Ent2} {i:Nat},findE a b l i=some y→∃ e,e∈l∧e.1=(a,b)
 | [],_,h=>by cases h
 | x :: l,i,h=>by
  rw [findE] at h
  split at h
  ·rename_i q
   refine ⟨x,List.mem_cons_self .., ?_⟩
   obtain ⟨⟨p,r⟩,s⟩:=x
   dsimp only at q ⊢
   rw [q.1,q.2]
  ·obtain ⟨e,h1,h2⟩:=findE_some h
   exact ⟨e,List.mem_cons_of_mem _ h1,h2⟩
theorem paidRow_sub {f:Int→Int→Int} {day:Int} {es:List Ent2} {e:Ent2} (he:e∈es):∀ (n:Nat),e∈paidRow f day n es
 | 0=>he
 | n + 1=>by
  rw [paidRow]
  split
  ·exact List.mem_append.2 (.inl (paidRow_sub he n))
  ·exact paidRow_sub he n
theorem paidRow_mem {f:Int→Int→Int} {day:Int} {es:List Ent2} {e:Ent2}:∀ {n:Nat},e∈paidRow f day n es→e∈es∨∃ k,k < n∧e=(((k:Int),day),f k day)
 | 0,h=>.inl h
 | n + 1,h=>by
  rw [paidRow] at h
  split at h
  ·rcases List.mem_append.1 h with h|h
   ·rcases paidRow_mem h with q|⟨k,q1,q2⟩
    ·exact .inl q
    ·exact .inr ⟨k,by omega,q2⟩
   ·exact .inr ⟨n,by omega,List.mem_singleton.1 h⟩
  ·rcases paidRow_mem h with q|⟨k,q1,q2⟩
   ·exact .inl q
   ·exact .inr ⟨k,by omega,q2⟩
theorem paidRow_has {f:Int→Int→Int} {day:Int} {es:List Ent2}:∀ {n k:Nat},k < n→∃ e,e∈paidRow f day n es∧e.1=((k:Int),day)
 | 0,k,h=>by omega
 | n + 1,k,h=>by
  rw [paidRow]
  by_cases q:k < n
  ·obtain ⟨e,h1,h2⟩:=paidRow_has (f:=f) (day:=day) (es:=es) q
   split
   ·exact ⟨e,List.mem_append.2 (.inl h1),h2⟩
   ·exact ⟨e,h1,h2⟩
  ·have:k=n:=by omega
   subst this
   split
   ·exact ⟨_,List.mem_append.2 (.inr (List.mem_singleton.2 rfl)),rfl⟩
   ·rename_i q2
    cases hf:findE (k:Int) day (paidRow f day k es) 0 with
    | none=>exact absurd hf q2
    | some y=>exact findE_some hf
theorem paidGo_mem {f:Int→Int→Int} {n:Nat} {e:Ent2}:∀ {l:List Due} {es:List Ent2},e∈paidGo f n l es→e∈es∨∃ d k,d∈l∧d.Cash=true∧k < n∧e=(((k:Int),d.Day),f k d.Day)
 | [],_,h=>.inl h
 | d :: l,es,h=>by
  have h:e∈paidGo f n l (if d.Cash=true then paidRow f d.Day n es else es):=h
  rcases paidGo_mem h with q|⟨d',k,q1,q2⟩
  ·split at q
   ·rename_i c
    rcases paidRow_mem q with q|⟨k,q1,q2⟩
    ·exact .inl q
    ·exact .inr ⟨d,k,List.mem_cons_self ..,c,q1,q2⟩
   ·exact .inl q
  ·exact .inr ⟨d',k,List.mem_cons_of_mem _ q1,q2⟩
theorem paidGo_sub {f:Int→Int→Int} {n:Nat} {e:Ent2}:∀ {l:List Due} {es:List Ent2},e∈es→e∈paidGo f n l es
 | [],_,h=>h
 | d :: l,es,h=>by
  show e∈paidGo f n l (if d.Cash=true then paidRow f d.Day n es else es)
  refine paidGo_sub ?_
  split
  ·exact paidRow_sub h n
  ·exact h
theorem paidGo_has {f:Int→Int→Int} {n k:Nat} (hk:k < n) {d:Due} (hc:d.Cash=true):∀ {l:List Due} {es:List Ent2},d∈l→∃ e,e∈paidGo f n l es∧e.1=((k:Int),d.Day)
 | [],_,h=>by cases h
 | d' :: l,es,h=>by
  show ∃ e,e∈paidGo f n l (if d'.Cash=true then paidRow f d'.Day n es else es)∧_
  rcases List.mem_cons.1 h with rfl|h
  ·obtain ⟨e,h1,h2⟩:=paidRow_has (f:=f) (day:=d.Day) (es:=es) hk
   exact ⟨e,paidGo_sub (by rw [if_pos hc];exact h1),h2⟩
  ·exact paidGo_has hk hc h
theorem keptP_iff {f:Int→Int→Int} {n:Nat} {lim:Int} {l:List Due}:keptP f n lim l=true↔∀ d,d∈l→d.Cash=true→∀ k:Nat,k < n→f k d.Day≤lim:=by
 unfold keptP
 rw [List.all_eq_true]
 constructor
 ·intro h d hd hc k hk
  obtain ⟨e,h1,h2⟩:=paidGo_has (f:=f) (es:=[]) hk hc hd
  have h3:=of_decide_eq_true (h e h1)
  rcases paidGo_mem h1 with q|⟨d',k',_,_,_,q⟩
  ·cases q
  ·rw [q] at h2 h3
   have e1:(k':Int)=k:=congrArg Prod.fst h2
   have e2:d'.Day=d.Day:=congrArg Prod.snd h2
   rw [e1,e2] at h3
   exact h3
 ·intro h e he
  rcases paidGo_mem he with q|⟨d,k,h1,h2,h3,rfl⟩
  ·cases q
  ·exact decide_eq_true (h d h1 h2 k h3)
def paidD (t:Tll) (all:Bool) (l:List Due) (name day:Int):Int:=sumD (okD (tiesP all t.Links) t.Window name day) l
structure DuesR (t:Tll) (l:List Due):Prop where
 cents:CentsR l
 days:∀ d,d∈l→0≤d.Day∧d.Day≤4000
 len:l.length≤1000
theorem keptT_iff {t:Tll} {all:Bool} {l:List Due} (hn:0≤t.Names) (hw:1≤t.Window∧t.Window≤30) (hl:DuesR t l):keptT t all l=true↔∀ d,d∈l→d.Cash=true→∀ n:Int,0≤n∧n < t.Names→paidD t all l n d.Day≤t.Limit:=by
 unfold keptT
 rw [keptP_iff]
 constructor
 ·intro h d hd hc n hn2
  have:=h d hd hc n.toNat (by omega)
  have e:((n.toNat:Nat):Int)=n:=by omega
  rw [e] at this
  have hdd:=hl.days d hd
  rw [wGo_eq hw (by omega) hl.cents hl.len] at this
  exact this
 ·intro h d hd hc k hk
  have hdd:=hl.days d hd
  rw [wGo_eq hw (by omega) hl.cents hl.len]
  exact h d hd hc k (by omega)
theorem okD_iff {B:List Bool} {win name day:Int} {d:Due}:okD B win name day d=true↔d.Cash=true∧tie B name d.Name=true∧day - win < d.Day∧d.Day≤day:=by
 unfold okD
 rw [Bool.and_eq_true,Bool.and_eq_true,decide_eq_true_eq]
theorem latest (p:Due→Bool):∀ (l:List Due),(∀ d,d∈l→p d=false)∨∃ d,d∈l∧p d=true∧∀ e,e∈l→p e=true→e.Day≤d.Day
 | []=>.inl fun d h=>by cases h
 | x :: l=>by
  rcases latest p l with q|⟨d,q1,q2,q3⟩
  ·cases hx:p x with
   | false =>
    refine .inl fun d hd=>?_
    rcases List.mem_cons.1 hd with rfl|hd
    ·exact hx
    ·exact q d hd
   | true =>
    refine .inr ⟨x,List.mem_cons_self ..,hx,fun e he hp=>?_⟩
    rcases List.mem_cons.1 he with rfl|he
    ·exact Int.le_refl _
    ·rw [q e he] at hp
     cases hp
  ·cases hx:p x with
   | false =>
    refine .inr ⟨d,List.mem_cons_of_mem _ q1,q2,fun e he hp=>?_⟩
    rcases List.mem_cons.1 he with rfl|he
    ·rw [hx] at hp
     cases hp
    ·exact q3 e he hp
   | true =>
    by_cases c:x.Day≤d.Day
    ·refine .inr ⟨d,List.mem_cons_of_mem _ q1,q2,fun e he hp=>?_⟩
     rcases List.mem_cons.1 he with rfl|he
     ·exact c
     ·exact q3 e he hp
    ·refine .inr ⟨x,List.mem_cons_self ..,hx,fun e he hp=>?_⟩
     rcases List.mem_cons.1 he with rfl|he
     ·exact Int.le_refl _
     ·have:=q3 e he hp
      omega
theorem keptD_any {t:Tll} {all:Bool} {l:List Due} (h0:0≤t.Limit) (hc:CentsR l) (h:∀ d,d∈l→d.Cash=true→∀ n:Int,0≤n∧n < t.Names→paidD t all l n d.Day≤t.Limit) {n:Int} (hn:0≤n∧n < t.Names) (day:Int):paidD t all l n day≤t.Limit:=by
 rcases latest (okD (tiesP all t.Links) t.Window n day) l with q|⟨d,q1,q2,q3⟩
 ·unfold paidD
  rw [sumD_zero q]
  exact h0
 ·obtain ⟨c1,c2,c3,c4⟩:=okD_iff.1 q2
  refine Int.le_trans (sumD_mono (fun x hx=>(hc x hx).1) fun e he hp=>?_) (h d q1 c1 n hn)
  have:=q3 e he hp
  obtain ⟨b1,b2,b3,b4⟩:=okD_iff.1 hp
  exact okD_iff.2 ⟨b1,b2,by omega,by omega⟩
theorem kept_iff8 {t:Tll} {all:Bool} {l:List Due} (hN:0≤t.Names) (hw:1≤t.Window∧t.Window≤30) (h0:0≤t.Limit) (hl:DuesR t l):keptT t all l=true↔∀ n:Int,0≤n∧n < t.Names→∀ day,paidD t all l n day≤t.Limit:=by
 rw [keptT_iff hN hw hl]
 exact ⟨fun h n hn day=>keptD_any h0 hl.cents h hn day,fun h d _ _ n hn=>h n hn d.Day⟩
theorem duesR_of {t:Tll} (h:tillErr t=0):DuesR t t.Dues:=by
 have k:=tillErr_ok h
 exact ⟨fun d hd=>(k.2.2.2.2.2.2 d hd).2.2,fun d hd=>(k.2.2.2.2.2.2 d hd).1,by have:=k.2.2.2.2.1;omega⟩
def addDue (t:Tll) (d:Due):Tll:={ t with Dues:=t.Dues ++ [d] }
theorem early_no {l:List Due} {day:Int} (h:∀ d,d∈l→d.Day≤day):early l day=false:=by
 unfold early
 cases hn:l.length with
 | zero=>rfl
 | succ m =>
  have hm:l.getD m default∈l:=by
   rw [List.getD_eq_getElem?_getD,List.getElem?_eq_getElem (by omega)]
   exact List.getElem_mem _
  have:=h _ hm
  exact decide_eq_false (by omega)
theorem addDue_ok {t:Tll} {d:Due} (h:tillErr t=0) (hl:t.Dues.length≤19) (h1:0≤d.Day∧d.Day≤4000) (h2:∀ x,x∈t.Dues→x.Day≤d.Day) (h3:0≤d.Name∧d.Name < t.Names) (h4:0≤d.Cents∧d.Cents≤100000000):tillErr (addDue t d)=0:=by
 have k:=tillErr_ok h
 have hw:w64 (t.Names - 1)=t.Names - 1:=wrap64 (by omega) (by omega)
 unfold tillErr at h
 rw [if_neg (by omega),if_neg (by omega)] at h
 split at h
 ·cases h
 split at h
 ·cases h
 split at h
 ·rename_i q;exact absurd h q
 rename_i _ q
 have q:=Decidable.not_not.1 q
 split at h
 ·cases h
 rw [hw] at q h
 exact till_ok k.1 k.2.1 k.2.2.1 k.2.2.2.1 q (by show (t.Dues ++ [d]).length≤20;rw [List.length_append];simp;omega) (duesErr_snoc h1 (by show 0≤d.Name∧d.Name≤t.Names - 1;omega) h4 h h2 fun q hq=>by cases hq)
theorem dayErr_mk {t:Tll} {name day:Int} {fine:Bool} (h:tillErr t=0) (hn:0≤name∧name < t.Names) (hd:0≤day∧day≤4000) (hf:fine=true) (he:∀ x,x∈t.Dues→x.Day≤day):dayErr t name day fine=if keptT t true t.Dues=false then 13 else 0:=by
 have k:=tillErr_ok h
 have hw:w64 (t.Names - 1)=t.Names - 1:=wrap64 (by omega) (by omega)
 unfold dayErr
 rw [if_neg (by omega),hw,if_neg (by omega),if_neg (by rintro (q|q);exact q hd;rw [hf] at q;cases q),early_no he,if_neg (by simp)]
theorem paidD_add {t:Tll} {d:Due} {name day:Int}:paidD (addDue t d) true (addDue t d).Dues name day=paidD t true t.Dues name day + if okD (tiesP true t.Links) t.Window name day d=true then d.Cents else 0:=by
 unfold paidD addDue
 dsimp only
 rw [sumD_app,sumD,sumD,Int.add_zero]
structure RoomQ (t:Tll) (nm dy:Int):Prop where
 ok:tillErr t=0
 lim:t.Limit≤1000000
 len:t.Dues.length≤19
 name:0≤nm∧nm < t.Names
 day:0≤dy∧dy≤4000
 late:∀ x,x∈t.Dues→x.Day≤dy
theorem paid_same {t:Tll} (h:tillErr t=0) {a b:Int} (ha:0≤a∧a < t.Names) (hb:0≤b∧b < t.Names) {all:Bool} (hab:tie (tiesP all t.Links) a b=true) {l:List Due} (hl:∀ d,d∈l→0≤d.Name∧d.Name < t.Names) (day:Int):paidD t all l a day=paidD t all l b day:=by
 have k:=tillErr_ok h
 refine sumD_congr fun d hd=>?_
 have:=hl d hd
 unfold okD
 rw [tie_same (tillErr_links h) (by omega) (by omega) (by omega) hab]
theorem RoomQ.room {t:Tll} {name day:Int} (q:RoomQ t name day) (hk:keptT t true t.Dues=true):roomP t name day=(t.Limit - paidD t true t.Dues name day,0)∧0≤paidD t true t.Dues name day∧paidD t true t.Dues name day≤t.Limit:=by
 have k:=tillErr_ok q.ok
 have hl:=q.lim
 have hd:=q.day
 have hR:=duesR_of q.ok
 have h1:paidD t true t.Dues name day≤t.Limit:=(kept_iff8 (by omega) k.2.2.1 k.2.1.1 hR).1 hk name q.name day
 have h2:0≤paidD t true t.Dues name day:=sumD_nn fun d hd=>(hR.cents d hd).1
 refine ⟨?_,h2,h1⟩
 have e:dayErr t name day true=0:=by rw [dayErr_mk q.ok q.name q.day rfl q.late,if_neg (by rw [hk];simp)]
 unfold roomP
 rw [if_neg (by omega),wGo_eq k.2.2.1 (by omega) hR.cents hR.len]
 show (w64 (t.Limit - paidD t true t.Dues name day),0)=_
 rw [show w64 (t.Limit - paidD t true t.Dues name day)=t.Limit - paidD t true t.Dues name day from wrap64 (by omega) (by omega)]
theorem RoomQ.more {t:Tll} {name day:Int} (q:RoomQ t name day) (hk:keptT t true t.Dues=true) {c:Int} (hc:0≤c∧c≤t.Limit + 1):tillErr (addDue t ⟨day,name,c,true⟩)=0∧(keptT (addDue t ⟨day,name,c,true⟩) true (addDue t ⟨day,name,c,true⟩).Dues=true↔c≤t.Limit - paidD t true t.Dues name day):=by
 have k:=tillErr_ok q.ok
 have hl:=q.lim
 have ok2:tillErr (addDue t ⟨day,name,c,true⟩)=0:=addDue_ok q.ok q.len q.day q.late q.name (by dsimp only;omega)
 refine ⟨ok2, ?_⟩
 have k2:=tillErr_ok ok2
 have hR:=duesR_of q.ok
 have hR2:=duesR_of ok2
 have hkept:=(kept_iff8 (by omega) k.2.2.1 k.2.1.1 hR).1 hk
 have hself:tie (tiesP true t.Links) name name=true:=tie_refl (tillErr_links q.ok) (by have:=q.name;omega)
 have hnew:okD (tiesP true t.Links) t.Window name day ⟨day,name,c,true⟩=true:=okD_iff.2 ⟨rfl,hself,by show day - t.Window < day;omega,Int.le_refl _⟩
 rw [keptT_iff (t:=addDue t ⟨day,name,c,true⟩) (show 0≤t.Names by omega) k.2.2.1 hR2]
 constructor
 ·intro h
  have:=h ⟨day,name,c,true⟩ (List.mem_append.2 (.inr (List.mem_singleton.2 rfl))) rfl name q.name
  rw [paidD_add] at this
  dsimp only at this
  rw [if_pos hnew] at this
  have:paidD t true t.Dues name day + c≤t.Limit:=this
  omega
 ·intro h d hd hdc n hn
  have hn:0≤n∧n < t.Names:=hn
  rw [paidD_add]
  show _≤t.Limit
  have hda:d.Day≤day:=by
   rcases List.mem_append.1 hd with h|h
   ·exact q.late d h
   ·rw [List.mem_singleton.1 h]
    exact Int.le_refl _
  split
  ·rename_i c1
   obtain ⟨_,c2,c3,c4⟩:=okD_iff.1 c1
   have c4:day≤d.Day:=c4
   have e:d.Day=day:=by omega
   rw [e,paid_same q.ok hn q.name c2 (fun x hx=>(k.2.2.2.2.2.2 x hx).2.1)]
   dsimp only
   omega
  ·have:=hkept n hn d.Day
   omega
def lastD (l:List Due):Int:=if l.length=0 then 0 else (l.getD (l.length - 1) default).Day
theorem dueBad_ord {last:Int} {q:Int} {d:Due} (h:dueBad last (some q) d=0):q≤d.Day:=by
 unfold dueBad at h
 split at h
 ·cases h
 split at h
 ·cases h
 ·rename_i c
  unfold ordBad at c
  have:=of_decide_eq_false (Bool.not_eq_true _ ▸ c)
  omega
theorem lastD_cons (y z:Due) (l:List Due):lastD (y :: z :: l)=lastD (z :: l):=by
 unfold lastD
 rw [if_neg (by simp),if_neg (by simp)]
 show ((y :: z :: l).getD (l.length + 1) default).Day=((z :: l).getD l.length default).Day
 rfl
theorem days_last {last:Int}:∀ {l:List Due} {p:Option Int},duesErr last p l=0→∀ x,x∈l→x.Day≤lastD l
 | [],_,_,x,hx=>by cases hx
 | [y],_,_,x,hx=>by
  rw [List.mem_singleton.1 hx]
  exact Int.le_refl _
 | y :: z :: l,p,h,x,hx=>by
  unfold duesErr at h
  split at h
  ·have ih:=days_last h
   rw [lastD_cons]
   rcases List.mem_cons.1 hx with rfl|hx
   ·have hz:dueBad last (some x.Day) z=0:=by
     unfold duesErr at h
     split at h
     ·rename_i q;exact q
     ·rename_i q;exact absurd h q
    have:=dueBad_ord hz
    have:=ih z (List.mem_cons_self ..)
    omega
   ·exact ih x hx
  ·rename_i q
   exact absurd h q
theorem lastD_mem {l:List Due} (h:l.length≠0):∃ d,d∈l∧lastD l=d.Day:=by
 refine ⟨l.getD (l.length - 1) default, ?_,by rw [lastD,if_neg h]⟩
 rw [List.getD_eq_getElem?_getD,List.getElem?_eq_getElem (by omega)]
 exact List.getElem_mem _
theorem TillV.last {t:Tll} {du:Nat} (v:TillV t du):(0≤lastD t.Dues∧lastD t.Dues≤100)∧∀ x,x∈t.Dues→x.Day≤lastD t.Dues:=by
 refine ⟨?_,days_last v.dues⟩
 by_cases h:t.Dues.length=0
 ·rw [lastD,if_pos h]
  omega
 ·obtain ⟨d,h1,h2⟩:=lastD_mem h
  have:=v.days d h1
  have:=(duesErr_ok v.dues d h1).1
  omega
theorem TillV.relim {t:Tll} {du:Nat} (v:TillV t du) (hd:du≤20) {lim win:Int} (hl:0≤lim∧lim≤1000000) (hw:1≤win∧win≤30):tillErr ⟨t.Names,lim,win,t.Links,t.Dues⟩=0:=by
 have h4:=v.linksN
 have h6:=v.duesN
 exact till_ok v.names (by dsimp only;omega) hw (by dsimp only;omega) v.links (by dsimp only;omega) v.dues
theorem TillV.roomQ {t:Tll} {du:Nat} (v:TillV t du) (hd:du≤19) {lim win name day:Int} (hl:0≤lim∧lim≤1000000) (hw:1≤win∧win≤30) (hn:0≤name∧name < t.Names) (h1:lastD t.Dues≤day) (h2:day≤4000):RoomQ ⟨t.Names,lim,win,t.Links,t.Dues⟩ name day:=by
 have k:=v.last
 have h6:=v.duesN
 exact ⟨v.relim (by omega) hl hw,by dsimp only;omega,by dsimp only;omega,hn,by omega,fun x hx=>by have:=k.2 x hx;omega⟩
def sumN (f:Nat→Int):Nat→Int
 | 0=>0
 | j + 1=>sumN f j + f j
def esOf (t:Tll) (n day:Int):Nat→List Ent2
 | 0=>[]
 | j + 1=>esOf t n day j ++ [((n,day + j),roomAt t (esOf t n day j) n (day + j))]
def nAt (t:Tll) (n day:Int) (j:Nat):Int:=roomAt t (esOf t n day j) n (day + j)
theorem lkE_app {a b:Int}:∀ {l m:List Ent2},(∀ e,e∈l→e.1≠(a,b))→lkE (l ++ m) a b=lkE m a b
 | [],_,_=>rfl
 | x :: l,m,h=>by
  have hx:=h x (List.mem_cons_self ..)
  rw [List.cons_append,lkE,if_neg (fun q=>hx (by rw [q.1,q.2]))]
  exact lkE_app fun e he=>h e (List.mem_cons_of_mem _ he)
theorem esOf_key {t:Tll} {n day:Int}:∀ {j:Nat} {e:Ent2},e∈esOf t n day j→∃ i,i < j∧e.1=(n,day + (i:Int))
 | 0,e,h=>by cases h
 | j + 1,e,h=>by
  rw [esOf] at h
  rcases List.mem_append.1 h with h|h
  ·obtain ⟨i,h1,h2⟩:=esOf_key h
   exact ⟨i,by omega,h2⟩
  ·rw [List.mem_singleton.1 h]
   exact ⟨j,by omega,rfl⟩
theorem lkE_pre {a b:Int}:∀ {l m:List Ent2},(∃ e,e∈l∧e.1=(a,b))→lkE (l ++ m) a b=lkE l a b
 | [],_,⟨e,h,_⟩=>by cases h
 | x :: l,m,⟨e,h1,h2⟩=>by
  rw [List.cons_append,lkE,lkE]
  by_cases q:a=x.1.1∧b=x.1.2
  ·rw [if_pos q,if_pos q]
  ·rw [if_neg q,if_neg q]
   refine lkE_pre ⟨e, ?_,h2⟩
   rcases List.mem_cons.1 h1 with rfl|h1
   ·exact absurd ⟨by rw [h2],by rw [h2]⟩ q
   ·exact h1
theorem lkE_none {a b:Int} {l:List Ent2} (h:∀ e,e∈l→e.1≠(a,b)):lkE l a b=0:=by
 have:=lkE_app (m:=[]) h
 rw [List.append_nil] at this
 exact this
theorem esOf_has {t:Tll} {n day:Int}:∀ {j i:Nat},i < j→∃ e,e∈esOf t n day j∧e.1=(n,day + (i:Int))
 | 0,i,h=>by omega
 | j + 1,i,h=>by
  rw [esOf]
  by_cases q:i < j
  ·obtain ⟨e,h1,h2⟩:=esOf_has (t:=t) (n:=n) (day:=day) q
   exact ⟨e,List.mem_append.2 (.inl h1),h2⟩
  ·have:i=j:=by omega
   subst this
   exact ⟨_,List.mem_append.2 (.inr (List.mem_singleton.2 rfl)),rfl⟩
theorem lkE_at {t:Tll} {n day:Int}:∀ {j i:Nat},i < j→lkE (esOf t n day j) n (day + i)=nAt t n day i
 | 0,i,h=>by omega
 | j + 1,i,h=>by
  rw [esOf]
  by_cases q:i < j
  ·rw [lkE_pre (esOf_has q),lkE_at q]
  ·have:i=j:=by omega
   subst this
   rw [lkE_app fun e he=>by
    obtain ⟨k,h1,h2⟩:=esOf_key he
    rw [h2]
    intro e2
    have:day + (k:Int)=day + (i:Int):=congrArg Prod.snd e2
    omega]
   rw [lkE,if_pos ⟨rfl,rfl⟩]
   rfl
theorem lkE_before {t:Tll} {n day k:Int} {j:Nat} (h:k < day):lkE (esOf t n day j) n k=0:=lkE_none fun e he=>by
 obtain ⟨i,h1,h2⟩:=esOf_key he
 rw [h2]
 intro e2
 have:day + (i:Int)=k:=congrArg Prod.snd e2
 omega
theorem leftGo_eq {t:Tll} {n day:Int}:∀ (c j:Nat) (r:Int),(∀ i,i < j→0≤nAt t n day i∧nAt t n day i≤1000000)→(1000000 * (c:Int)≤r + 1000000000000∧r≤1000000000000)→leftGo (esOf t n day j) n c (day + j - c) r=r - (sumN (nAt t n day) j - sumN (nAt t n day) (j - c))
 | 0,j,r,_,_=>by
  show r=_
  rw [Nat.sub_zero,Int.sub_self,Int.sub_zero]
 | c + 1,j,r,hb,hr=>by
  rw [leftGo]
  have hk:lkE (esOf t n day j) n (day + j - ((c + 1:Nat):Int))=sumN (nAt t n day) (j - c) - sumN (nAt t n day) (j - (c + 1)):=by
   by_cases q:c < j
   ·obtain ⟨m,hm⟩:∃ m,j=m + c + 1:=⟨j - c - 1,by omega⟩
    have e1:day + (j:Int) - ((c + 1:Nat):Int)=day + (m:Int):=by omega
    have e2:j - c=m + 1:=by omega
    have e3:j - (c + 1)=m:=by omega
    rw [e1,lkE_at (by omega),e2,e3,sumN]
    omega
   ·rw [lkE_before (by omega)]
    have e2:j - c=0:=by omega
    have e3:j - (c + 1)=0:=by omega
    rw [e2,e3]
    omega
  have hlk:0≤lkE (esOf t n day j) n (day + j - ((c + 1:Nat):Int))∧lkE (esOf t n day j) n (day + j - ((c + 1:Nat):Int))≤1000000:=by
   by_cases q:c < j
   ·obtain ⟨m,hm⟩:∃ m,j=m + c + 1:=⟨j - c - 1,by omega⟩
    have e1:day + (j:Int) - ((c + 1:Nat):Int)=day + (m:Int):=by omega
    rw [e1,lkE_at (by omega)]
    exact hb m (by omega)
   ·rw [lkE_before (by omega)]
    omega
  have e4:day + (j:Int) - ((c + 1:Nat):Int) + 1=day + (j:Int) - (c:Int):=by omega
  rw [e4]
  have hw:w64 (r - lkE (esOf t n day j) n (day + j - ((c + 1:Nat):Int)))=r - lkE (esOf t n day j) n (day + j - ((c + 1:Nat):Int)):=wrap64 (by omega) (by omega)
  rw [hw,leftGo_eq c j _ hb (by omega),hk]
  omega
structure SoonQ (t:Tll) (nm dy:Int):Prop where
 q:RoomQ t nm dy
 kept:keptT t true t.Dues=true
 d:dy≤1000
section
variable {t:Tll} {n day:Int}
abbrev pD (t:Tll) (n day:Int) (j:Nat):Int:=paidD t true t.Dues n (day + j)
theorem SoonQ.p_le (s:SoonQ t n day) (j:Nat):0≤pD t n day j∧pD t n day j≤t.Limit∧pD t n day (j + 1)≤pD t n day j:=by
 have k:=tillErr_ok s.q.ok
 have hR:=duesR_of s.q.ok
 have hkept:=(kept_iff8 (by omega) k.2.2.1 k.2.1.1 hR).1 s.kept
 refine ⟨sumD_nn fun d hd=>(hR.cents d hd).1,hkept n s.q.name _,sumD_mono (fun d hd=>(hR.cents d hd).1) fun d hd h=>?_⟩
 obtain ⟨a,b,c,e⟩:=okD_iff.1 h
 have:=s.q.late d hd
 exact okD_iff.2 ⟨a,b,by omega,by omega⟩
theorem SoonQ.p_zero (s:SoonQ t n day) {j:Nat} (h:t.Window≤j):pD t n day j=0:=sumD_zero fun d hd=>by
 cases q:okD (tiesP true t.Links) t.Window n (day + j) d with
 | false=>rfl
 | true =>
  obtain ⟨a,b,c,e⟩:=okD_iff.1 q
  have:=s.q.late d hd
  omega
def wB (t:Tll):Nat:=t.Window.toNat - 1
theorem SoonQ.room (s:SoonQ t n day) {j:Nat} (hj:day + j≤5000) (hb:∀ i,i < j→0≤nAt t n day i∧nAt t n day i≤1000000):nAt t n day j=t.Limit - pD t n day j - (sumN (nAt t n day) j - sumN (nAt t n day) (j - wB t)):=by
 have k:=tillErr_ok s.q.ok
 have hR:=duesR_of s.q.ok
 have hl:=s.q.lim
 have hd:=s.q.day
 have hp:=s.p_le j
 have hw1:w64 (day + j - t.Window)=day + j - t.Window:=wrap64 (by omega) (by omega)
 have hw2:w64 (day + j - t.Window + 1)=day + j - t.Window + 1:=wrap64 (by omega) (by omega)
 have e1:(day + (j:Int) - (day + j - t.Window + 1)).toNat=wB t:=by unfold wB;omega
 have e2:day + (j:Int) - t.Window + 1=day + (j:Int) - (wB t:Int):=by unfold wB;omega
 have hg:wGo (tiesP true t.Links) t.Window n (day + j) t.Dues=pD t n day j:=wGo_eq k.2.2.1 (by omega) hR.cents hR.len
 have hw3:w64 (t.Limit - pD t n day j)=t.Limit - pD t n day j:=wrap64 (by omega) (by omega)
 show roomAt t (esOf t n day j) n (day + j)=_
 unfold roomAt
 rw [hw1,hw2,e1,e2,hg,hw3]
 have hwb:wB t≤30:=by unfold wB;omega
 rw [leftGo_eq (wB t) j _ hb (by omega)]
theorem SoonQ.bounds (s:SoonQ t n day):∀ (j:Nat),day + j≤5000→0≤nAt t n day j∧nAt t n day j≤t.Limit:=by
 intro j
 induction j using Nat.strongRecOn with
 | ind j ih =>
  intro hj
  have hl:=s.q.lim
  have hb:∀ i,i < j→0≤nAt t n day i∧nAt t n day i≤1000000:=fun i hi=>by
   have:=ih i hi (by omega)
   omega
  have hr:=s.room hj hb
  have hp:=s.p_le j
  have mono:∀ {a b:Nat},a≤b→b≤j→sumN (nAt t n day) a≤sumN (nAt t n day) b:=by
   intro a b
   induction b with
   | zero =>
    intro h _
    have:a=0:=by omega
    subst this
    exact Int.le_refl _
   | succ b ihb =>
    intro h hb2
    by_cases q:a=b + 1
    ·subst q
     exact Int.le_refl _
    ·have h1:=ihb (by omega) (by omega)
     have h2:=(hb b (by omega)).1
     rw [sumN]
     omega
  have hm:=mono (a:=j - wB t) (b:=j) (by omega) (Nat.le_refl _)
  refine ⟨?_,by omega⟩
  cases j with
  | zero =>
   have e:sumN (nAt t n day) 0 - sumN (nAt t n day) (0 - wB t)=0:=by rw [Nat.zero_sub];omega
   rw [e] at hr
   omega
  | succ j =>
   have hr2:=s.room (j:=j) (by omega) fun i hi=>hb i (by omega)
   have hp2:=s.p_le j
   have e:sumN (nAt t n day) (j + 1)=sumN (nAt t n day) j + nAt t n day j:=rfl
   have hm2:=mono (a:=j - wB t) (b:=j + 1 - wB t) (by omega) (by omega)
   rw [hr,e,hr2]
   omega
theorem SoonQ.eq (s:SoonQ t n day) {j:Nat} (hj:day + j≤5000):nAt t n day j=t.Limit - pD t n day j - (sumN (nAt t n day) j - sumN (nAt t n day) (j - wB t)):=s.room hj fun i hi=>by
 have:=s.bounds i (by omega)
 have hl:=s.q.lim
 omega
theorem SoonQ.soon (s:SoonQ t n day):∀ (f j:Nat) (c:Int),day + j + f≤4001→(0≤c∧c≤1000000000) →
  (∃ m,m < f∧soonGo t n f (day + j) c (esOf t n day j)=(day + ((j + m:Nat):Int),0)∧(∀ i,i < m→sumN (nAt t n day) (j + i + 1) - sumN (nAt t n day) j < c)∧c≤sumN (nAt t n day) (j + m + 1) - sumN (nAt t n day) j) ∨
  (soonGo t n f (day + j) c (esOf t n day j)=(0,12)∧∀ m,m < f→sumN (nAt t n day) (j + m + 1) - sumN (nAt t n day) j < c)
 | 0,j,c,_,_=>.inr ⟨rfl,fun m hm=>by omega⟩
 | f + 1,j,c,hj,hc=>by
  have hb:=s.bounds j (by omega)
  have hl:=s.q.lim
  have e0:sumN (nAt t n day) (j + 1)=sumN (nAt t n day) j + nAt t n day j:=rfl
  have er:roomAt t (esOf t n day j) n (day + j)=nAt t n day j:=rfl
  by_cases q:c≤nAt t n day j
  ·refine .inl ⟨0,by omega, ?_,fun i hi=>by omega,by rw [Nat.add_zero,e0];omega⟩
   rw [soonGo,er,if_pos q]
   rfl
  ·have ew:w64 (c - nAt t n day j)=c - nAt t n day j:=wrap64 (by omega) (by omega)
   have ed:day + (j:Int) + 1=day + ((j + 1:Nat):Int):=by omega
   have step:soonGo t n (f + 1) (day + j) c (esOf t n day j)=soonGo t n f (day + ((j + 1:Nat):Int)) (c - nAt t n day j) (esOf t n day (j + 1)):=by
    rw [soonGo,er,if_neg q,ew,ed]
    rfl
   rw [step]
   rcases SoonQ.soon s f (j + 1) (c - nAt t n day j) (by omega) (by omega) with ⟨m,h1,h2,h3,h4⟩|⟨h1,h2⟩
   ·refine .inl ⟨m + 1,by omega,by rw [h2];congr 2;omega,fun i hi=>?_, ?_⟩
    ·cases i with
     | zero=>rw [Nat.add_zero,e0];omega
     | succ i =>
      have:=h3 i (by omega)
      have e:j + 1 + i + 1=j + (i + 1) + 1:=by omega
      rw [e,e0] at this
      omega
    ·have e:j + 1 + m + 1=j + (m + 1) + 1:=by omega
     rw [e,e0] at h4
     omega
   ·refine .inr ⟨h1,fun m hm=>?_⟩
    cases m with
    | zero=>rw [Nat.add_zero,e0];omega
    | succ m =>
     have:=h2 m (by omega)
     have e:j + 1 + m + 1=j + (m + 1) + 1:=by omega
     rw [e,e0] at this
     omega
theorem SoonQ.four (s:SoonQ t n day) (hw:t.Window≤10):4 * t.Limit≤sumN (nAt t n day) (4 * (wB t + 1) + 1):=by
 have k:=tillErr_ok s.q.ok
 have hd:=s.d
 have hwb:(wB t:Int)=t.Window - 1:=by unfold wB;omega
 have step:∀ j:Nat,wB t + 1≤j→j≤100→sumN (nAt t n day) (j + 1)=t.Limit + sumN (nAt t n day) (j - wB t):=by
  intro j h1 h2
  have e:=s.eq (j:=j) (by omega)
  rw [s.p_zero (j:=j) (by omega)] at e
  rw [sumN,e]
  omega
 have h0:0≤sumN (nAt t n day) 1:=by
  have:=(s.bounds 0 (by omega)).1
  show 0≤0 + nAt t n day 0
  omega
 have s1:=step (wB t + 1) (by omega) (by omega)
 have s2:=step (2 * (wB t + 1)) (by omega) (by omega)
 have s3:=step (3 * (wB t + 1)) (by omega) (by omega)
 have s4:=step (4 * (wB t + 1)) (by omega) (by omega)
 have e1:wB t + 1 - wB t=1:=by omega
 have e2:2 * (wB t + 1) - wB t=wB t + 1 + 1:=by omega
 have e3:3 * (wB t + 1) - wB t=2 * (wB t + 1) + 1:=by omega
 have e4:4 * (wB t + 1) - wB t=3 * (wB t + 1) + 1:=by omega
 rw [e1] at s1
 rw [e2] at s2
 rw [e3] at s3
 rw [e4] at s4
 omega
def duesA (n day:Int) (f:Nat→Int):Nat→List Due
 | 0=>[]
 | j + 1=>duesA n day f j ++ [⟨day + j,n,f j,true⟩]
theorem duesA_len (f:Nat→Int):∀ j,(duesA n day f j).length=j
 | 0=>rfl
 | j + 1=>by rw [duesA,List.length_append,duesA_len f j];rfl
theorem duesA_mem {f:Nat→Int} {d:Due}:∀ {j:Nat},d∈duesA n day f j→∃ i,i < j∧d=⟨day + (i:Int),n,f i,true⟩
 | 0,h=>by cases h
 | j + 1,h=>by
  rw [duesA] at h
  rcases List.mem_append.1 h with h|h
  ·obtain ⟨i,h1,h2⟩:=duesA_mem h
   exact ⟨i,by omega,h2⟩
  ·exact ⟨j,by omega,List.mem_singleton.1 h⟩
theorem duesA_congr {f g:Nat→Int}:∀ {j:Nat},(∀ i,i < j→f i=g i)→duesA n day f j=duesA n day g j
 | 0,_=>rfl
 | j + 1,h=>by rw [duesA,duesA,duesA_congr fun i hi=>h i (by omega),h j (by omega)]
def payT (t:Tll) (n day:Int) (f:Nat→Int) (j:Nat):Tll:={ t with Dues:=t.Dues ++ duesA n day f j }
theorem payT_succ (f:Nat→Int) (j:Nat):payT t n day f (j + 1)=addDue (payT t n day f j) ⟨day + j,n,f j,true⟩:=by
 unfold payT addDue
 rw [duesA,List.append_assoc]
theorem sum_duesA (hs:tie (tiesP true t.Links) n n=true) (f:Nat→Int) (J:Nat):∀ j,j≤J→sumD (okD (tiesP true t.Links) t.Window n (day + J)) (duesA n day f j)=sumN f j - sumN f (min j (J - wB t))
 | 0,_=>by
  rw [Nat.zero_min]
  rfl
 | j + 1,h=>by
  rw [duesA,sumD_app,sum_duesA hs f J j (by omega),sumD,sumD,Int.add_zero]
  by_cases q:J - wB t≤j
  ·have ok:okD (tiesP true t.Links) t.Window n (day + J) ⟨day + j,n,f j,true⟩=true:=okD_iff.2 ⟨rfl,hs,by unfold wB at q;show day + (J:Int) - t.Window < day + (j:Int);omega,by show day + (j:Int)≤day + (J:Int);omega⟩
   rw [if_pos ok,sumN]
   have e1:min j (J - wB t)=J - wB t:=by omega
   have e2:min (j + 1) (J - wB t)=J - wB t:=by omega
   rw [e1,e2]
   dsimp only
   omega
  ·have no:¬ okD (tiesP true t.Links) t.Window n (day + J) ⟨day + j,n,f j,true⟩=true:=fun c=>by
    obtain ⟨_,_,c3,_⟩:=okD_iff.1 c
    unfold wB at q
    have c3:day + (J:Int) - t.Window < day + (j:Int):=c3
    omega
   rw [if_neg no]
   have e1:min j (J - wB t)=j:=by omega
   have e2:min (j + 1) (J - wB t)=j + 1:=by omega
   rw [e1,e2]
   omega
def capF (t:Tll) (n day:Int) (f:Nat→Int) (j:Nat):Int:=t.Limit - pD t n day j - (sumN f j - sumN f (j - wB t))
theorem SoonQ.pay (s:SoonQ t n day) (f:Nat→Int) (hl:t.Dues.length≤6):∀ j,j≤13→(∀ i,i < j→0≤f i∧f i≤capF t n day f i)→RoomQ (payT t n day f j) n (day + j)∧keptT (payT t n day f j) true (payT t n day f j).Dues=true∧paidD (payT t n day f j) true (payT t n day f j).Dues n (day + j)=t.Limit - capF t n day f j:=by
 have k:=tillErr_ok s.q.ok
 have hself:tie (tiesP true t.Links) n n=true:=tie_refl (tillErr_links s.q.ok) (by have:=s.q.name;omega)
 have hpd:∀ j,paidD (payT t n day f j) true (payT t n day f j).Dues n (day + j)=t.Limit - capF t n day f j:=by
  intro j
  show sumD (okD (tiesP true t.Links) t.Window n (day + j)) (t.Dues ++ duesA n day f j)=_
  rw [sumD_app,sum_duesA hself f j j (Nat.le_refl _)]
  have e:min j (j - wB t)=j - wB t:=by omega
  rw [e]
  unfold capF
  show pD t n day j + _=_
  omega
 have hd:=s.d
 have hdy:=s.q.day
 intro j
 induction j with
 | zero =>
  intro _ _
  have e:payT t n day f 0=t:=by
   unfold payT duesA
   rw [List.append_nil]
  have hp:=hpd 0
  rw [e] at hp ⊢
  have e0:day + ((0:Nat):Int)=day:=by omega
  rw [e0] at hp ⊢
  exact ⟨s.q,s.kept,hp⟩
 | succ j ih =>
  intro hj hf
  obtain ⟨q,kp,pd'⟩:=ih (by omega) fun i hi=>hf i (by omega)
  have hfj:=hf j (by omega)
  have hlim:=s.q.lim
  have hpj:=hpd j
  have hcap:capF t n day f j≤t.Limit:=by
   have h1:0≤paidD (payT t n day f j) true (payT t n day f j).Dues n (day + j):=(q.room kp).2.1
   omega
  have e1:(payT t n day f j).Limit=t.Limit:=rfl
  obtain ⟨m1,m2⟩:=q.more kp (c:=f j) (by rw [e1];omega)
  rw [← payT_succ] at m1 m2
  refine ⟨⟨m1,s.q.lim, ?_,s.q.name,by omega,fun x hx=>?_⟩,m2.2 (by rw [e1,pd'];omega),hpd (j + 1)⟩
  ·show (t.Dues ++ duesA n day f (j + 1)).length≤19
   rw [List.length_append,duesA_len]
   omega
  ·rcases List.mem_append.1 hx with h|h
   ·have:=s.q.late x h
    omega
   ·obtain ⟨i,h1,h2⟩:=duesA_mem h
    rw [h2]
    show day + (i:Int)≤_
    omega
theorem sumN_congr {f g:Nat→Int}:∀ {j:Nat},(∀ i,i < j→f i=g i)→sumN f j=sumN g j
 | 0,_=>rfl
 | j + 1,h=>by rw [sumN,sumN,sumN_congr fun i hi=>h i (by omega),h j (by omega)]
theorem SoonQ.greedy (s:SoonQ t n day) (f:Nat→Int):∀ j:Nat,day + j≤5000→(∀ i,i < j→f i≤capF t n day f i)→sumN f j≤sumN (nAt t n day) j:=by
 intro j
 induction j using Nat.strongRecOn with
 | ind j ih =>
  intro hj hf
  cases j with
  | zero=>exact Int.le_refl _
  | succ j =>
   have h1:=hf j (by omega)
   unfold capF at h1
   have h2:=ih (j - wB t) (by omega) (by omega) fun i hi=>hf i (by omega)
   have h3:=s.eq (j:=j) (by omega)
   rw [sumN,sumN]
   omega
theorem SoonQ.cap (s:SoonQ t n day) {j:Nat} (hj:day + j≤5000):capF t n day (nAt t n day) j=nAt t n day j:=(s.eq hj).symm
end
def SK (H:AHeap) (s:Nat) (v:Value):Prop:=∃ d T k,H.get (vblk v)=.cells d T k∧∀ g e l,k=.gr g e l→e=s
theorem SK.fr {N:Nat} {X:List Nat} {A B:AHeap} (hF:Fr N X A B) {s:Nat} {v:Value} (h:SK A s v) (hb:vblk v < A.n) (hx:vblk v∉X):SK B s v:=by
 obtain ⟨d,T,k,h1,h2⟩:=h
 exact ⟨d,T,k,(hF.old _ hb hx).trans h1,h2⟩
theorem GS.sk {H:AHeap} {s n:Nat} {v:Value} {c:List Value} {g:Option Nat} (h:GS H s n v c g):n=0∨SK H s v:=by
 cases h with
 | nil hn hv hc=>exact .inl hn
 | full hv hb hg hk hl hc h0 =>
  subst hv
  refine .inr ⟨_,_,_,hg,fun g e l hkk=>?_⟩
  rcases hk with rfl|rfl <;> cases hkk
 | gr hv hb hgb hg hl hf =>
  subst hv
  exact .inr ⟨_,_,_,hg,fun g e l hkk=>by cases hkk;rfl⟩
def sl (v:Value) (j:Nat):Value:=match v with|.slice (some a) _ k=>.slice (some a) j k|_=>.slice none 0 0
theorem slice_pre {P:Program} {t e:TypeId} {s:Nat} (hu:P.underlying t=some (.slice e)) (hs:tySize P e=some s) {H:AHeap} {v:Value} {c:List Value} {n j:Nat} {q:IntKind} (S:SR H s n v c) (K:SK H s v) (hj:j≤n) (hn:0 < n) :
  sliceA P H t v none (some (.int q j)) none=some (sl v j)∧SR H s j (sl v j) (c.take (j * s)):=by
 rcases S.shape with ⟨_,rfl⟩|⟨b,o,k,rfl,hk⟩
 ·omega
 ·obtain ⟨d,T,kd,g1,g2⟩:=K
  have g1:H.get b=.cells d T kd:=g1
  have hb:bndsA n k none (some (.int q j)) none=some (0,j,k):=by
   unfold bndsA bndO bnd1
   simp only [Option.bind_some,Option.isSome_none,Bool.false_eq_true,false_and,if_false,Option.map_some]
   rw [if_pos ⟨by omega,by omega⟩]
   simp
  constructor
  ·unfold sliceA
   rw [hu]
   dsimp only
   rw [hb,hs,g1]
   cases kd with
   | gr g e' l =>
    dsimp only
    rw [if_pos ⟨g2 _ _ _ rfl,.inl rfl⟩]
    simp [sl]
   | ex =>
    dsimp only
    rw [if_neg (by omega)]
    simp [sl]
   | ro =>
    dsimp only
    rw [if_neg (by omega)]
    simp [sl]
  ·have hjs:j * s≤n * s:=Nat.mul_le_mul_right _ hj
   refine ⟨.inr ⟨b,o,k,rfl,by omega⟩,by rw [List.length_take,S.len];omega, ?_,.inr (S.lt.resolve_left (by omega))⟩
   right
   rcases S.cells with h|⟨d2,h1,h2,h3⟩
   ·omega
   ·refine ⟨d2,h1, ?_, ?_⟩
    ·show o + j * s≤d2.length
     have h2:o + n * s≤d2.length:=h2
     omega
    ·show (d2.drop o).take (j * s)=c.take (j * s)
     have h3:(d2.drop o).take (n * s)=c:=h3
     rw [← h3,List.take_take,Nat.min_eq_left hjs]
theorem flat_take {α:Type} {enc:α→List Value} {s:Nat} (hs:∀ a,(enc a).length=s):∀ (l:List α) (j:Nat),(l.flatMap enc).take (j * s)=(l.take j).flatMap enc
 | [],j=>by simp
 | a :: l,0=>by simp
 | a :: l,j + 1=>by
  rw [List.flatMap_cons,List.take_succ_cons,List.flatMap_cons,← flat_take hs l j,List.take_append,hs]
  have:(j + 1) * s=j * s + s:=by rw [Nat.add_mul,Nat.one_mul]
  rw [List.take_of_length_le (by rw [hs];omega),this,Nat.add_sub_cancel]
theorem oblR_refl {ops:Array Oper} {k:Nat} {H:AHeap}:∀ (rs:List (Nat×Nat)),oblR ops k H H rs
 | []=>trivial
 | r :: rs=>⟨.inr rfl,oblR_refl rs⟩
theorem oblA_of {ops:Array Oper} {k b:Nat}:∀ {as:List (Nat×AHeap×AHeap)},(∀ a,a∈as→isAnc ops a.1 k=true∨a.2.2.get b=a.2.1.get b)→oblA ops k b as
 | [],_=>trivial
 | a :: as,h=>⟨h a (List.mem_cons_self ..),oblA_of fun x hx=>h x (List.mem_cons_of_mem _ hx)⟩
theorem WO_post {P:Program} {C:CallRel} {ops:Array Oper} {os:List Oper} {K K':Env→AHeap→Prop} {env:Env} {H:AHeap} (h:WO P C ops os K env H) (hk:∀ e h,K e h→K' e h):WO P C ops os K' env H:=by
 obtain ⟨e,h',r,q⟩:=h
 exact ⟨e,h',r,hk _ _ q⟩
theorem WD_harm {P:Program} {C:CallRel} {ops:Array Oper} {K:Env→AHeap→Prop}:∀ (os:List Oper) {k:Nat} {rs:List (Nat×Nat)} {as as':List (Nat×AHeap×AHeap)} {e:Env} {h:AHeap},
  (∀ a,a∈as'→a∈as∨∀ b,a.2.2.get b=a.2.1.get b)→WD P C ops os k rs as K e h→WD P C ops os k rs as' K e h
 | [],k,rs,as,as',e,h,ha,w=>w
 | o :: os,k,rs,as,as',e,h,ha,w=>by
  unfold WD at w ⊢
  by_cases hs:simpleOp o.op=true
  ·rw [if_pos hs] at w ⊢
   refine ⟨?_,WO_post w.2 fun e h q=>WD_harm os ha q⟩
   have w1:=w.1
   unfold oblO at w1 ⊢
   split
   ·rename_i b hb
    rw [hb] at w1
    refine oblA_of fun a hx=>?_
    rcases ha a hx with q|q
    ·exact oblA_mem w1 a q
    ·exact .inr (q b)
   ·trivial
  ·rw [if_neg hs] at w ⊢
   refine WO_post w fun e' h' q=>⟨q.1,WD_harm os (fun a hx=>?_) q.2⟩
   rcases List.mem_cons.1 hx with rfl|hx
   ·exact .inl (List.mem_cons_self ..)
   ·rcases ha a hx with q|q
    ·exact .inl (List.mem_cons_of_mem _ q)
    ·exact .inr q
section
variable {P:Program} {C:CallRel} {ops:Array Oper} {os:List Oper} {K:Env→AHeap→Prop} {env:Env} {H:AHeap} {dst:Option Tmp} {ty:TypeId} {pos:String} {aft:Array Edge} {k j:Nat} {rs:List (Nat×Nat)} {as:List (Nat×AHeap×AHeap)} {op:Op} {d:Tmp} {t:Bool}
theorem WD_gX {b:Bool} (hd:(ops[j]?).bind (·.dst)=some d) (hv:env d=.bool t) (h1:t=b→WD P C ops (⟨dst,op,ty,pos,aft,none⟩ :: os) k rs as K env H) (h2:t≠b→WD P C ops os (k + 1) rs as K (env.set dst undef) H)
  (hw:Region.wanted ⟨dst,op,ty,pos,aft,some (j,b)⟩ (yieldedA ops env)=decide (t=b))
  (hg:∀ (K':Env→AHeap→Prop),(t=b→WO P C ops [⟨dst,op,ty,pos,aft,none⟩] K' env H)→(t≠b→K' (env.set dst undef) H)→WO P C ops [⟨dst,op,ty,pos,aft,some (j,b)⟩] K' env H) :
  WD P C ops (⟨dst,op,ty,pos,aft,some (j,b)⟩ :: os) k rs as K env H:=by
 unfold WD
 by_cases hs:simpleOp op=true
 ·rw [if_pos hs]
  by_cases e:t=b
  ·have h:=h1 e
   unfold WD at h
   rw [if_pos hs] at h
   have ht:tch ops env H ⟨dst,op,ty,pos,aft,some (j,b)⟩=tch ops env H ⟨dst,op,ty,pos,aft,none⟩:=by
    unfold tch
    rw [hw,decide_eq_true e,if_pos rfl,if_pos (by simp [Region.wanted])]
   rw [ht]
   exact ⟨h.1,hg _ (fun _=>h.2) fun q=>absurd e q⟩
  ·have ht:tch ops env H ⟨dst,op,ty,pos,aft,some (j,b)⟩=none:=by
    unfold tch
    rw [hw,decide_eq_false e,if_neg (by simp)]
   rw [ht]
   exact ⟨trivial,hg _ (fun q=>absurd q e) fun _=>h2 e⟩
 ·rw [if_neg hs]
  refine hg _ (fun e=>?_) fun e=>⟨oblR_refl rs, ?_⟩
  ·have h:=h1 e
   unfold WD at h
   rw [if_neg hs] at h
   exact h
  ·-- an operation that is not wanted changes nothing
   refine WD_harm os (fun a hx=>?_) (h2 e)
   rcases List.mem_cons.1 hx with rfl|hx
   ·exact .inr fun _=>rfl
   ·exact .inl hx
theorem WD_gT (hd:(ops[j]?).bind (·.dst)=some d) (hv:env d=.bool t) (h1:t=true→WD P C ops (⟨dst,op,ty,pos,aft,none⟩ :: os) k rs as K env H) (h2:t=false→WD P C ops os (k + 1) rs as K (env.set dst undef) H) :
  WD P C ops (⟨dst,op,ty,pos,aft,some (j,true)⟩ :: os) k rs as K env H :=
 WD_gX hd hv h1 (fun q=>h2 (by simpa using q)) (by have hy:=yielded_of (ops:=ops) hd hv;show (yieldedA ops env j == some _)=_;rw [hy];cases t <;> rfl) fun K' a b=>WO_gT hd hv a fun q=>⟨_,_,⟨rfl,rfl⟩,b (by simp [q])⟩
theorem WD_gF (hd:(ops[j]?).bind (·.dst)=some d) (hv:env d=.bool t) (h1:t=false→WD P C ops (⟨dst,op,ty,pos,aft,none⟩ :: os) k rs as K env H) (h2:t=true→WD P C ops os (k + 1) rs as K (env.set dst undef) H) :
  WD P C ops (⟨dst,op,ty,pos,aft,some (j,false)⟩ :: os) k rs as K env H :=
 WD_gX hd hv h1 (fun q=>h2 (by simpa using q)) (by have hy:=yielded_of (ops:=ops) hd hv;show (yieldedA ops env j == some _)=_;rw [hy];cases t <;> rfl) fun K' a b=>WO_gF hd hv a fun q=>⟨_,_,⟨rfl,rfl⟩,b (by simp [q])⟩
end
theorem W_forget {P:Program} {C:CallRel} {nt:Nat} {c:Code} {env:Env} {h:AHeap} {Q:Post} {N:Nat} {X:List Nat} {h0:AHeap} (p:AHeap→Prop) (F:Fr N X h0 h) (hp:p h) (k:∀ h',Fr N X h0 h'→p h'→W P C 0 nt c env h' Q):W P C 0 nt c env h Q:=k h F hp
end Go.Proofs.Swa
set_option linter.unusedVariables false
set_option linter.unusedSimpArgs false
set_option linter.defProp false
namespace Go.Proofs.Swa
open Go
theorem dA {p:Prop} (h:p:=by first|omega|exact eHp_len _|exact eAct_len _|exact eMom_len _|exact sums_len _|exact eRng_len _|exact eSpo_len _|exact eSrt_len _|(simp only [mLenC,mLenN,mLenA,zs_len,eHp_len,eAct_len,eMom_len,sums_len,eRng_len,eSpo_len,eSrt_len,upd_n,jn_n];first|done|omega)|(simp only [List.mem_cons,List.not_mem_nil,or_false,not_or,not_false_eq_true,upd_n,jn_n];first|done|omega)):p:=h
def nzs:=And.intro @ne_eq.{1} (And.intro @not_true_eq_false (And.intro @decide_false (And.intro @decide_true @Bool.false_eq_true)))
theorem hcX {p q:Prop} (h:p) (n:p→False:=by (intro hc;first|exact absurd hc (by decide)|(simp only [hcs] at hc;first|contradiction|(exfalso;omega))|contradiction)):q:=(n h).elim
theorem WO_gU {P:Program} {C:CallRel} {ops:Array Oper} {os:List Oper} {K:Env→AHeap→Prop} {env:Env} {H:AHeap} {dst:Option Tmp} {ty:TypeId} {pos:String} {aft:Array Edge} {op:Op} {j:Nat} {d:Tmp} {b:Bool} (hd:(ops[j]?).bind (·.dst)=some d) (hv:env d=undef) (h:WO P C ops os K (env.set dst undef) H) :
  WO P C ops (⟨dst,op,ty,pos,aft,some (j,b)⟩ :: os) K env H:=by
 rw [WO_guard]
 have:yieldedA ops env j=none:=by
  unfold yieldedA
  rw [hd]
  simp only [hv]
  rfl
 rw [this,if_neg (by simp)]
 exact h
theorem woI {P:Program} {C:CallRel} {ops:Array Oper} {os:List Oper} {K:Env→AHeap→Prop} {env:Env} {H:AHeap} (h:WO P C ops os K env H):WO P C ops os K env H:=h
theorem wdI {P:Program} {C:CallRel} {ops:Array Oper} {os:List Oper} {k:Nat} {rs:List (Nat×Nat)} {as:List (Nat×AHeap×AHeap)} {K:Env→AHeap→Prop} {env:Env} {H:AHeap} (h:WD P C ops os k rs as K env H):WD P C ops os k rs as K env H:=h
theorem oA {p:Prop} (h:p:=by ((try simp only [upd_n,jn_n]);omega)):p:=h
theorem topA {H:AHeap} (h:Top H:=by (repeat' (first|with_reducible assumption|((with_reducible refine Top.jn ?_ ?_);rotate_left;(focus with_reducible assumption))|((with_reducible refine Top.upd ?_ ?_ ?_ ?_);rotate_left;(focus exact oA);(focus exact oA);(focus first|trivial|exact ⟨oA,oA⟩))))):Top H:=h
theorem frA {N:Nat} {X:List Nat} {A B:AHeap} (h:Fr N X A B:=by (repeat' (first|with_reducible exact Fr.refl _|with_reducible assumption|((with_reducible apply Fr.trans) <;> with_reducible assumption)|((with_reducible refine Fr.jn ?_ ?_ ?_);rotate_left;(focus with_reducible assumption);(focus exact oA))|((with_reducible refine Fr.upd ?_ ?_ ?_ ?_ ?_);rotate_left;(focus exact oA);(focus exact oA);(focus first|(left;exact oA)|(right;simp;done));(focus first|trivial|exact ⟨oA,oA⟩))))):Fr N X A B:=h
theorem nxA {p:Prop} (h:p:=by (simp only [List.mem_cons,List.not_mem_nil,or_false,not_or];omega)):p:=h
def qbs:=And.intro qb sp
def qds:=And.intro qd qbs
def qcs:=And.intro qc (And.intro qe (And.intro @stG_agg sp))
theorem obA {p:Prop} (h:p:=by (simp only [oblR,oblA];(repeat' (first|exact trivial|(refine And.intro ?_ ?_)|(right;simp (disch:=first|exact dA|fail) only [qcs,Int.reduceToNat,Nat.reduceAdd,Nat.reduceMul,Nat.reduceEqDiff,reduceIte,reduceCtorEq,Nat.reduceLT];done)|(right;(apply Top.dead2);(focus exact oA);(focus exact oA);(focus exact topA);(focus exact topA);done)|(left;decide))))):p:=h
theorem W_regionE {P:Program} {C:CallRel} {ng nt:Nat} {id:Nat} {l:List Oper} {env:Env} {H:AHeap} {Q:Post} (L:Nat→List Nat) (X:List Nat) (h:∀ K:Env→AHeap→Prop,(∀ e h,(∀ e',(∀ t,t∈L id→e' t=e t)→Q .normal e' h)→K e h)→WO P C ⟨l⟩ l K env H) (hx:id∉X:=by decide):W P C ng nt (.region id ⟨l⟩ false) env H Q:=W_regionF L h
theorem W_drawnE {P:Program} {C:CallRel} {ng nt:Nat} {id:Nat} {l:List Oper} {env:Env} {H:AHeap} {Q:Post} (L:Nat→List Nat) (X:List Nat) (h:∀ K:Env→AHeap→Prop,(∀ e h,(∀ e',(∀ t,t∈L id→e' t=e t)→Q .normal e' h)→K e h)→WD P C ⟨l⟩ l 0 [] [] K env H) (hx:id∉X:=by decide):W P C ng nt (.region id ⟨l⟩ true) env H Q:=W_drawnF L h
end Go.Proofs.Swa
set_option linter.unusedVariables false
set_option linter.unusedSimpArgs false
namespace Go.Proofs.Swa
open Go





section
variable {P:Program} {t:TypeId}
theorem findM_s2 (heq:∀ a b c d:Int,pr P (Op.equal t (k2 a b) (k2 c d))=some (decide (a=c∧b=d))) (a b:Int):∀ (l:List Ent2) (i:Nat),findM P t (k2 a b) (entK l) i=some (findE a b l i)
 | [],i=>rfl
 | x :: l,i=>by
  show findM P t (k2 a b) ((k2 x.1.1 x.1.2,.int .i64 x.2) :: entK l) i=_
  rw [findM,heq,findE]
  by_cases c:a=x.1.1∧b=x.1.2
  ·rw [decide_eq_true c,if_pos c]
  ·rw [decide_eq_false c,if_neg c]
   exact findM_s2 heq a b l (i + 1)
theorem mapUpdate_s2 {mt v:TypeId} (hm:P.underlying mt=some (.map t v)) (hk:∀ a b:Int,keyOk P t (k2 a b)=true) (heq:∀ a b c d:Int,pr P (Op.equal t (k2 a b) (k2 c d))=some (decide (a=c∧b=d))) {a b d:Int} {l:List Ent2} {r:Nat} {H:AHeap}
  (hg:H.get r=.map (entK l)) (hn:findE a b l 0=none):mapUpdateA P mt (.map (some r)) (k2 a b) (.int .i64 d) H=some (H.put r (.map (entK (l ++ [((a,b),d)])))):=by
 unfold mapUpdateA
 rw [hm]
 dsimp only
 rw [if_pos (hk a b),hg]
 dsimp only
 rw [findM_s2 heq,hn]
 simp [entK]
theorem lookup_s2 {mt v:TypeId} (hm:P.underlying mt=some (.map t v)) (hk:∀ a b:Int,keyOk P t (k2 a b)=true) (heq:∀ a b c d:Int,pr P (Op.equal t (k2 a b) (k2 c d))=some (decide (a=c∧b=d))) (hz:tyZero P v=some (.int .i64 0)) {a b:Int} {l:List Ent2} {r:Nat} {H:AHeap}
  (hg:H.get r=.map (entK l)):lookupA P mt (.map (some r)) (k2 a b) true H=some (match findE a b l 0 with|some (_,u)=>.tuple #[u,.bool true]|none=>.tuple #[.int .i64 0,.bool false]):=by
 unfold lookupA
 rw [hm]
 dsimp only
 rw [if_pos (hk a b),hz]
 unfold entsA
 dsimp only
 rw [hg]
 dsimp only
 rw [if_pos (show dflat (.int .i64 0)=true from rfl),findM_s2 heq]
 cases findE a b l 0 <;> rfl
end
def kp (H:AHeap) (g b:Nat) (o:AObj):AHeap:=(H.kill g b).put b o
theorem stG_gr {H:AHeap} {b o s:Nat} {x:Value} {c:List Value} {T:TypeId} {g e:Nat} (hx:notTup x=true) (hs:x.cells.size=s) (ho:o + s≤c.length) :
  stG H b o s x (.cells c T (.gr g e true))=some (kp H g b (.cells (splice c o x.cells.toList) T (.gr g e true))):=by
 unfold stG
 dsimp only
 rw [if_pos ⟨hx,hs,ho,rfl⟩]
 rfl
section
variable {H:AHeap} {g b c:Nat} {o:AObj}
theorem kp_same:(kp H g b o).get b=o:=by
 show (if b=b then o else _)=o
 rw [if_pos rfl]
theorem kp_get (h:c≠b):(kp H g b o).get c=if c < g then H.get c else (H.get c).killed g:=by
 show (if c=b then o else (H.kill g b).get c)=_
 rw [if_neg h]
 show (if c=b then H.get c else if c < g then H.get c else (H.get c).killed g)=_
 rw [if_neg h]
theorem killed_not {x:AObj} (h:∀ d T e l,x≠.cells d T (.gr g e l)):x.killed g=x:=by
 unfold AObj.killed
 split
 ·rename_i d T g' e l
  split
  ·rename_i q
   subst q
   exact absurd rfl (h _ _ _ _)
  ·rfl
 ·rfl
theorem kp_not (h:c≠b) (hc:∀ d T e l,H.get c≠.cells d T (.gr g e l)):(kp H g b o).get c=H.get c:=by
 rw [kp_get h]
 split
 ·rfl
 ·exact killed_not hc
end
theorem WD_gU {P:Program} {C:CallRel} {ops:Array Oper} {os:List Oper} {k:Nat} {rs:List (Nat×Nat)} {as:List (Nat×AHeap×AHeap)} {K:Env→AHeap→Prop} {env:Env} {H:AHeap} {dst:Option Tmp} {ty:TypeId} {pos:String} {aft:Array Edge} {op:Op} {j:Nat} {d:Tmp} {b:Bool} (hd:(ops[j]?).bind (·.dst)=some d) (hv:env d=undef) (h:WD P C ops os (k + 1) rs as K (env.set dst undef) H) :
  WD P C ops (⟨dst,op,ty,pos,aft,some (j,b)⟩ :: os) k rs as K env H:=by
 have hy:yieldedA ops env j=none:=by
  unfold yieldedA
  rw [hd]
  simp only [hv]
  rfl
 have hw:Region.wanted ⟨dst,op,ty,pos,aft,some (j,b)⟩ (yieldedA ops env)=false:=by
  show (yieldedA ops env j == some _)=_
  rw [hy]
  rfl
 have one:∀ K':Env→AHeap→Prop,K' (env.set dst undef) H→WO P C ops [⟨dst,op,ty,pos,aft,some (j,b)⟩] K' env H:=fun K' q=>WO_gU hd hv ⟨_,_,⟨rfl,rfl⟩,q⟩
 unfold WD
 by_cases hs:simpleOp op=true
 ·rw [if_pos hs]
  have ht:tch ops env H ⟨dst,op,ty,pos,aft,some (j,b)⟩=none:=by
   unfold tch
   rw [hw,if_neg (by simp)]
  rw [ht]
  exact ⟨trivial,one _ h⟩
 ·rw [if_neg hs]
  refine one _ ⟨oblR_refl rs, ?_⟩
  refine WD_harm os (fun a hx=>?_) h
  rcases List.mem_cons.1 hx with rfl|hx
  ·exact .inr fun _=>rfl
  ·exact .inl hx
end Go.Proofs.Swa
