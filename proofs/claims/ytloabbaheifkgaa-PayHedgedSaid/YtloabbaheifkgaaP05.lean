/- Part 5 of a proof. -/
import Derived.Test.YtloabbaheifkgaaP04
set_option linter.unusedVariables false
set_option linter.unusedSimpArgs false
namespace Go.Proofs.Swa
open Go
abbrev uv (n:Int):Value:=.int .u64 n
def fS0 (x:Int):Int:=if x=0 then 1 else x
def fS1 (x:Int):Int:=xorI .u64 x (shlI .u64 x 13)
def fS2 (x:Int):Int:=xorI .u64 x (shrI .u64 x 7)
def fS3 (x:Int):Int:=xorI .u64 x (shlI .u64 x 17)
def fSt (x:Int):Int:=fS3 (fS2 (fS1 (fS0 x)))
def fOut (x:Int):Int:=IntKind.u64.wrap (fSt x * 2685821657736338717)
def below (x n:Int):Int:=if n < 2 then 0 else IntKind.i64.wrap ((shrI .u64 (fOut x) 8).tmod n)
def belowS (x n:Int):Int:=if n < 2 then x else fSt x
theorem u64_id {n:Int} (h0:0≤n) (h1:n < 18446744073709551616):IntKind.u64.wrap n=n:=by
 show (if (false && decide (n % (2 ^ 64:Int) ≥ (2 ^ 63:Int)))=true then n % (2 ^ 64:Int) - (2 ^ 64:Int) else n % (2 ^ 64:Int))=n
 simp only [Bool.false_and,Bool.false_eq_true,if_false]
 omega
theorem u64_lt (n:Int):0≤IntKind.u64.wrap n∧IntKind.u64.wrap n < 18446744073709551616:=by
 show 0≤(if (false && decide (n % (2 ^ 64:Int) ≥ (2 ^ 63:Int)))=true then n % (2 ^ 64:Int) - (2 ^ 64:Int) else n % (2 ^ 64:Int))∧(if (false && decide (n % (2 ^ 64:Int) ≥ (2 ^ 63:Int)))=true then n % (2 ^ 64:Int) - (2 ^ 64:Int) else n % (2 ^ 64:Int)) < _
 simp only [Bool.false_and,Bool.false_eq_true,if_false]
 omega
theorem below_spec (x n:Int) (hn:n < 9223372036854775808):0≤below x n∧(0 < n→below x n < n)∧(n≤0→below x n=0):=by
 unfold below
 split
 ·refine ⟨by omega,fun _=>by omega,fun _=>rfl⟩
 ·have h1:=u64_lt (fSt x * 2685821657736338717)
  have h2:0≤shrI .u64 (fOut x) 8:=by
   show 0≤(fOut x).fdiv 256
   exact Int.fdiv_nonneg h1.1 (by omega)
  have h3:=Int.tmod_lt_of_pos (shrI .u64 (fOut x) 8) (show (0:Int) < n by omega)
  have h4:=Int.tmod_nonneg n h2
  rw [wrap64 (by omega) (by omega)]
  exact ⟨h4,fun _=>h3,fun _=>by omega⟩
def btwArg (lo hi:Int):Int:=w64 (w64 (hi - lo) + 1)
def btw (x lo hi:Int):Int:=w64 (lo + below x (btwArg lo hi))
def btwS (x lo hi:Int):Int:=belowS x (btwArg lo hi)
theorem btwArg_lt (lo hi:Int):btwArg lo hi < 9223372036854775808:=w64_lt _
def fMix (st n:Int):Int:=fSt (xorI .u64 st (IntKind.u64.wrap (IntKind.u64.wrap n * 15485907386658061715)))
def feedOf (l:List Int):Int:=l.foldl fMix 88172645463325252
theorem eq_step {α:Type} [DecidableEq α] [Inhabited α] {l m:List α} {i:Nat} (hl:l.length=m.length) (hi:i < l.length) (hp:l.take i=m.take i) (hx:l.getD i default=m.getD i default):l.take (i + 1)=m.take (i + 1):=by
 rw [take_getD hi,take_getD (by omega),hp,hx]
theorem ne_step {α:Type} [DecidableEq α] [Inhabited α] {l m:List α} {i:Nat} (hx:¬ l.getD i default=m.getD i default):l≠m:=fun e=>hx (by rw [e])
theorem btw_spec {x lo hi:Int} (h1:-1000000000≤lo) (h2:lo≤hi) (h3:hi≤1000000000):lo≤btw x lo hi∧btw x lo hi≤hi:=by
 have e1:btwArg lo hi=hi - lo + 1:=by
  unfold btwArg w64
  rw [wrap64 (x:=hi - lo) (by omega) (by omega),wrap64 (by omega) (by omega)]
 have h:=below_spec x (btwArg lo hi) (btwArg_lt _ _)
 rw [e1] at h
 have h4:=h.2.1 (by omega)
 unfold btw w64
 rw [e1,wrap64 (by omega) (by omega)]
 omega






abbrev k2 (a b:Int):Value:=.agg ⟨[.int .i64 a,.int .i64 b]⟩
theorem dflat_k2 (a b:Int):dflat (k2 a b)=true:=by simp [dflat,flat]
abbrev Ent2:=(Int×Int)×Int
def entK (l:List Ent2):List (Value×Value):=l.map fun e=>(k2 e.1.1 e.1.2,.int .i64 e.2)
def findE (a b:Int):List Ent2→Nat→Option (Nat×Value)
 | [],_=>none
 | x :: l,i=>if a=x.1.1∧b=x.1.2 then some (i,.int .i64 x.2) else findE a b l (i + 1)



structure Way where
 spot:Nat
 a:Nat
 b:Nat
 most:Int
 deriving DecidableEq,Inhabited
abbrev Rul:=List Way













structure Due where
 Day:Int
 Name:Int
 Cents:Int
 Cash:Bool
 deriving Inhabited
def eDue (d:Due):List Value:=[.int .i64 d.Day,.int .i64 d.Name,.int .i64 d.Cents,.bool d.Cash]
theorem eDue_len (d:Due):(eDue d).length=4:=rfl
def tie (B:List Bool) (a b:Int):Bool:=B.getD (a.toNat * 8 + b.toNat) false
def wOk (B:List Bool) (win name day:Int) (d:Due):Bool:=tie B name d.Name && decide (w64 (w64 (day - win) + 1)≤d.Day∧d.Day≤day)
def wStep (B:List Bool) (win name day:Int) (s:Int) (d:Due):Int:=if d.Cash=true then (if wOk B win name day d=true then w64 (s + d.Cents) else s) else s
def wGo (B:List Bool) (win name day:Int) (l:List Due):Int:=l.foldl (wStep B win name day) 0
theorem wGo_snoc (B:List Bool) (win name day:Int) (l:List Due) (d:Due):wGo B win name day (l ++ [d])=wStep B win name day (wGo B win name day l) d:=by
 unfold wGo
 rw [List.foldl_append]
 rfl
def paidRow (f:Int→Int→Int) (day:Int):Nat→List Ent2→List Ent2
 | 0,es=>es
 | n + 1,es=>if findE n day (paidRow f day n es) 0=none then paidRow f day n es ++ [(((n:Int),day),f n day)] else paidRow f day n es
def paidGo (f:Int→Int→Int) (names:Nat):List Due→List Ent2→List Ent2
 | [],es=>es
 | d :: l,es=>paidGo f names l (if d.Cash=true then paidRow f d.Day names es else es)
theorem paidGo_snoc (f:Int→Int→Int) (names:Nat) (d:Due):∀ (l:List Due) (es:List Ent2),paidGo f names (l ++ [d]) es=(if d.Cash=true then paidRow f d.Day names (paidGo f names l es) else paidGo f names l es)
 | [],es=>rfl
 | x :: l,es=>paidGo_snoc f names d l _
def keptP (f:Int→Int→Int) (names:Nat) (lim:Int) (l:List Due):Bool:=(paidGo f names l []).all fun e=>decide (e.2≤lim)
structure Fix where
 Day:Int
 Cents:Int
 deriving Inhabited
def eFix (f:Fix):List Value:=[.int .i64 f.Day,.int .i64 f.Cents]
theorem eFix_len (f:Fix):(eFix f).length=2:=rfl
def fixBad (prev:Option Int) (f:Fix):Int:=if !inB f.Day 0 4000 || !inB f.Cents 0 100000000 then 1 else match prev with|some p=>if f.Day≤p then 5 else 0|none=>0
def fixesErr:Option Int→List Fix→Int
 | _,[]=>0
 | p,f :: l=>if fixBad p f=0 then fixesErr (some f.Day) l else fixBad p f
def priceL (day:Int) (l:List Fix):Option Int:=l.foldl (fun o f=>if f.Day≤day then some f.Cents else o) none
theorem priceL_snoc (day:Int) (l:List Fix) (f:Fix):priceL day (l ++ [f])=if f.Day≤day then some f.Cents else priceL day l:=by
 unfold priceL
 rw [List.foldl_append]
 rfl
def worth (k p s:Int):Int:=w64 ((w64 (w64 (k * p) * s)).tdiv 1000000)
def valAt (kmin kmax share:Int):Option Int→(Int×Int)×Int
 | none=>((0,0),3)
 | some p=>((worth kmin p share,worth kmax p share),0)
def valErr (l:List Fix) (day kmin kmax share:Int):Int :=
 if 20 < l.length then 6 else if fixesErr none l≠0 then fixesErr none l else
 if !inB day 0 4000 || (!inB kmin 0 1000000 || !inB kmax 0 1000000) then 1 else if kmax < kmin then 5 else if !inB share 0 1000 then 1 else 0
def valueP (l:List Fix) (day kmin kmax share:Int):(Int×Int)×Int :=
 if valErr l day kmin kmax share≠0 then ((0,0),valErr l day kmin kmax share) else valAt kmin kmax share (priceL day l)
def prevD (l:List Fix):Nat→Option Int
 | 0=>none
 | i + 1=>some (l.getD i default).Day
abbrev Rg:=Int×Int
def eRg (x:Rg):List Value:=[.int .i64 x.1,.int .i64 x.2]
theorem eRg_len (x:Rg):(eRg x).length=2:=rfl
structure Hdg where
 Stock:List Rg
 Lot:Int
 Bound:Int
 Held:Int
 deriving Inhabited
def eHdg (vs:Value) (h:Hdg):List Value:=[vs,.int .i64 h.Lot,.int .i64 h.Bound,.int .i64 h.Held]
def rgBad (x:Rg):Int:=if !inB x.1 0 1000000 || !inB x.2 0 1000000 then 1 else if x.2 < x.1 then 5 else 0
def stockErr:List Rg→Int
 | []=>0
 | x :: l=>if rgBad x=0 then stockErr l else rgBad x
def hedgeErr (h:Hdg):Int:=if h.Stock.length=0 then 7 else if 20 < h.Stock.length then 6 else if stockErr h.Stock≠0 then stockErr h.Stock else
 if !inB h.Lot 1 1000000 || (!inB h.Bound 0 1000000 || !inB h.Held 0 50) then 1 else 0
def expP (h:Hdg) (day:Nat) (lots:Int):Rg:=(w64 ((h.Stock.getD day default).1 - w64 (h.Lot * lots)),w64 ((h.Stock.getD day default).2 - w64 (h.Lot * lots)))
def apartP (a b:Int):Int:=max (w64 (a - b)) (w64 (b - a))
def never:Int:=1073741824
def costP (h:Hdg) (T:Nat→Nat→Int) (day before lots:Nat):Int :=
 if (expP h day lots).1 < w64 (-h.Bound)∨h.Bound < (expP h day lots).2 then never else min never (w64 (apartP before lots + T (day + 1) lots))
def bestP (h:Hdg) (T:Nat→Nat→Int) (day before:Nat):Nat→Int
 | 0=>never
 | k + 1=>min (bestP h T day before k) (costP h T day before k)
theorem costP_congr {h:Hdg} {T T':Nat→Nat→Int} {day before lots:Nat} (e:T (day + 1) lots=T' (day + 1) lots):costP h T day before lots=costP h T' day before lots:=by
 unfold costP
 rw [e]
theorem bestP_congr {h:Hdg} {T T':Nat→Nat→Int} {day before:Nat}:∀ {k:Nat},(∀ l,l < k→T (day + 1) l=T' (day + 1) l)→bestP h T day before k=bestP h T' day before k
 | 0,_=>rfl
 | k + 1,e=>by
  show min _ _=min _ _
  rw [bestP_congr fun l hl=>e l (by omega),costP_congr (e k (by omega))]
def restR (h:Hdg):Nat→Nat→Int
 | 0,_=>0
 | k + 1,b=>bestP h (fun _ l=>restR h k l) (h.Stock.length - (k + 1)) b 51
def restP (h:Hdg) (day b:Nat):Int:=restR h (h.Stock.length - day) b
theorem restP_eq {h:Hdg} {day b:Nat} (hd:day < h.Stock.length):restP h day b=bestP h (restP h) day b 51:=by
 unfold restP
 obtain ⟨k,hk⟩:∃ k,h.Stock.length - day=k + 1:=⟨h.Stock.length - day - 1,by omega⟩
 rw [hk]
 show bestP h _ (h.Stock.length - (k + 1)) b 51=_
 have e1:h.Stock.length - (k + 1)=day:=by omega
 rw [e1]
 refine bestP_congr fun l hl=>?_
 show restR h k l=restR h (h.Stock.length - (day + 1)) l
 congr 1
 omega
theorem restP_end {h:Hdg} {b:Nat}:restP h h.Stock.length b=0:=by
 unfold restP
 rw [Nat.sub_self]
 rfl
theorem bestP_le {h:Hdg} {T:Nat→Nat→Int} {day before:Nat}:∀ {k l:Nat},l < k→bestP h T day before k≤costP h T day before l
 | 0,_,q=>by omega
 | k + 1,l,q=>by
  show min _ _≤_
  rcases Nat.lt_succ_iff_lt_or_eq.1 q with q|q
  ·exact Int.le_trans (Int.min_le_left _ _) (bestP_le q)
  ·subst q
   exact Int.min_le_right _ _
theorem bestP_at {h:Hdg} {T:Nat→Nat→Int} {day before:Nat}:∀ {k:Nat},bestP h T day before k < never→∃ l,l < k∧costP h T day before l=bestP h T day before k
 | 0,q=>absurd q (Int.lt_irrefl _)
 | k + 1,q=>by
  have q:min (bestP h T day before k) (costP h T day before k) < never:=q
  show ∃ l,l < k + 1∧_=min (bestP h T day before k) (costP h T day before k)
  by_cases c:bestP h T day before k≤costP h T day before k
  ·have e:min (bestP h T day before k) (costP h T day before k)=bestP h T day before k:=by omega
   rw [e] at q ⊢
   obtain ⟨l,h1,h2⟩:=bestP_at q
   exact ⟨l,by omega,h2⟩
  ·exact ⟨k,by omega,by omega⟩
theorem bestP_le_never {h:Hdg} {T:Nat→Nat→Int} {day before:Nat}:∀ {k:Nat},bestP h T day before k≤never
 | 0=>Int.le_refl _
 | k + 1=>Int.le_trans (Int.min_le_left _ _) bestP_le_never
theorem bestP_ge {h:Hdg} {T:Nat→Nat→Int} {day before:Nat}:∀ {k:Nat},(∀ l,l < k→0≤costP h T day before l)→0≤bestP h T day before k
 | 0,_=>by show 0≤never;decide
 | k + 1,q=>by
  have a:=bestP_ge (k:=k) fun l hl=>q l (by omega)
  have b:=q k (by omega)
  show 0≤min _ _
  omega
theorem apartP_eq {a b:Nat} (ha:a < 51) (hb:b < 51):0≤apartP a b∧apartP a b≤50:=by
 have e1:w64 ((a:Int) - b)=a - b:=wrap64 (by omega) (by omega)
 have e2:w64 ((b:Int) - a)=b - a:=wrap64 (by omega) (by omega)
 unfold apartP
 rw [e1,e2]
 omega
theorem restR_rg {h:Hdg}:∀ (k b:Nat),b < 51→0≤restR h k b∧restR h k b≤never
 | 0,b,_=>by show 0≤(0:Int)∧(0:Int)≤never;decide
 | k + 1,b,hb=>by
  refine ⟨bestP_ge fun l hl=>?_,bestP_le_never⟩
  unfold costP
  split
  ·decide
  ·have r:=restR_rg (h:=h) k l hl
   have a:=apartP_eq hb hl
   have e1:w64 (apartP b l + restR h k l)=apartP b l + restR h k l:=wrap64 (by unfold never at *;omega) (by unfold never at *;omega)
   show 0≤min never (w64 (apartP b l + restR h k l))
   rw [e1]
   unfold never at *
   omega
theorem hedgeErr_ok {h:Hdg} (e:hedgeErr h=0):0 < h.Stock.length∧h.Stock.length≤20∧0≤h.Held∧h.Held≤50:=by
 unfold hedgeErr at e
 by_cases q1:h.Stock.length=0
 ·rw [if_pos q1] at e
  cases e
 ·rw [if_neg q1] at e
  by_cases q2:20 < h.Stock.length
  ·rw [if_pos q2] at e
   cases e
  ·rw [if_neg q2] at e
   by_cases q3:stockErr h.Stock≠0
   ·rw [if_pos q3] at e
    exact absurd e q3
   ·rw [if_neg q3] at e
    by_cases q4:(0≤h.Held∧h.Held≤50)
    ·exact ⟨by omega,by omega,q4.1,q4.2⟩
    ·have q4:inB h.Held 0 50=false:=decide_eq_false q4
     rw [q4,if_pos (by simp)] at e
     cases e
def firstL (h:Hdg) (day before:Nat) (due:Int):Nat→Nat→Nat
 | 0,l=>l
 | fuel + 1,l=>if costP h (restP h) day before l=due then l else firstL h day before due fuel (l + 1)
def planGo (h:Hdg):Nat→Nat→Nat→List Nat
 | 0,_,_=>[]
 | k + 1,day,before=>let l:=firstL h day before (restP h day before) 51 0
  l :: planGo h k (day + 1) l
def planP (h:Hdg):List Nat:=planGo h h.Stock.length 0 h.Held.toNat
def hedgedP (h:Hdg):List Nat×Int×Int:=if hedgeErr h≠0 then ([],0,hedgeErr h) else if never≤restP h 0 h.Held.toNat then ([],0,13) else (planP h,restP h 0 h.Held.toNat,0)
theorem firstL_spec {h:Hdg} {day before:Nat} {due:Int}:∀ (fuel l:Nat),(∃ m,l≤m∧m < l + fuel∧costP h (restP h) day before m=due)→l≤firstL h day before due fuel l∧firstL h day before due fuel l < l + fuel∧costP h (restP h) day before (firstL h day before due fuel l)=due∧∀ m,l≤m→m < firstL h day before due fuel l→costP h (restP h) day before m≠due
 | 0,l,⟨m,a,b,_⟩=>by omega
 | fuel + 1,l,⟨m,a,b,c⟩=>by
  unfold firstL
  by_cases q:costP h (restP h) day before l=due
  ·rw [if_pos q]
   exact ⟨Nat.le_refl _,by omega,q,fun m a b=>by omega⟩
  ·rw [if_neg q]
   have hm:l≠m:=fun e=>q (by rw [e];exact c)
   obtain ⟨r1,r2,r3,r4⟩:=firstL_spec fuel (l + 1) ⟨m,by omega,by omega,c⟩
   refine ⟨by omega,by omega,r3,fun m' a' b'=>?_⟩
   by_cases e:m'=l
   ·subst e;exact q
   ·exact r4 m' (by omega) b'
theorem first_ok {h:Hdg} {day before:Nat} (hd:day < h.Stock.length) (hb:before < 51) (hr:restP h day before < never) :
  ∃ l,l < 51∧firstL h day before (restP h day before) 51 0=l∧costP h (restP h) day before l=restP h day before∧(∀ m,m < l→costP h (restP h) day before m≠restP h day before)∧restP h (day + 1) l < never:=by
 have e:=restP_eq (b:=before) hd
 rw [e] at hr
 obtain ⟨m,h1,h2⟩:=bestP_at hr
 rw [← e] at h2 hr
 obtain ⟨r1,r2,r3,r4⟩:=firstL_spec (h:=h) (day:=day) (before:=before) (due:=restP h day before) 51 0 ⟨m,by omega,by omega,h2⟩
 refine ⟨_,by omega,rfl,r3,fun m' a=>r4 m' (by omega) a, ?_⟩
 generalize firstL h day before (restP h day before) 51 0=l at *
 rw [← r3] at hr
 unfold costP at hr
 split at hr
 ·exact absurd hr (Int.lt_irrefl _)
 ·have a:=apartP_eq hb (b:=l) (by omega)
  have r:=restR_rg (h:=h) (h.Stock.length - (day + 1)) l (by omega)
  have r:0≤restP h (day + 1) l∧restP h (day + 1) l≤never:=r
  have e1:w64 (apartP before l + restP h (day + 1) l)=apartP before l + restP h (day + 1) l:=wrap64 (by unfold never at *;omega) (by unfold never at *;omega)
  rw [e1] at hr
  unfold never at *
  omega
theorem planGo_len {h:Hdg}:∀ (k day before:Nat),(planGo h k day before).length=k
 | 0,_,_=>rfl
 | k + 1,day,before=>by
  show (_ :: planGo h k (day + 1) _).length=k + 1
  rw [List.length_cons,planGo_len]
def chr (s:ByteArray) (i:Nat):Nat:=(s.data.toList.getD i 0).toNat
def oAt (l:List UInt8) (i:Nat):Nat:=(l.getD i 0).toNat
def mStep (s:ByteArray) (out:List UInt8) (i:Nat):Option (List UInt8) :=
 if chr s i=63∨chr s i=oAt out i then some out else if oAt out i=63 then some (out.set i (s.data.toList.getD i 0)) else none
def mRow (s:ByteArray) (out:List UInt8):Nat→Option (List UInt8)
 | 0=>some out
 | k + 1=>(mRow s out k).bind fun o=>mStep s o k
def mAll (R:List ByteArray) (out:List UInt8):Nat→Option (List UInt8)
 | 0=>some out
 | k + 1=>(mAll R out k).bind fun o=>mRow (R.getD k default) o (R.getD k default).size
def mergedP (R:List ByteArray):Option (List UInt8):=mAll R (R.getD 0 default).data.toList R.length
def mVal:Option (List UInt8)→Value
 | some l=>.tuple #[.string ⟨l.toArray⟩,.bool true]
 | none=>.tuple #[.string .empty,.bool false]
theorem mStep_len {s:ByteArray} {out o:List UInt8} {i:Nat} (h:mStep s out i=some o):o.length=out.length:=by
 unfold mStep at h
 split at h
 ·cases h;rfl
 ·split at h
  ·cases h;rw [List.length_set]
  ·cases h
theorem mRow_len {s:ByteArray} {out:List UInt8}:∀ {k:Nat} {o:List UInt8},mRow s out k=some o→o.length=out.length
 | 0,o,h=>by cases h;rfl
 | k + 1,o,h=>by
  obtain ⟨o1,h1,h2⟩:=Option.bind_eq_some_iff.1 h
  rw [mStep_len h2,mRow_len h1]
theorem mAll_len {R:List ByteArray} {out:List UInt8}:∀ {k:Nat} {o:List UInt8},mAll R out k=some o→o.length=out.length
 | 0,o,h=>by cases h;rfl
 | k + 1,o,h=>by
  obtain ⟨o1,h1,h2⟩:=Option.bind_eq_some_iff.1 h
  rw [mRow_len h2,mAll_len h1]
theorem mRow_none {s:ByteArray} {out:List UInt8}:∀ {k n:Nat},mRow s out k=none→k≤n→mRow s out n=none
 | k,0,h,hk=>by
  have:k=0:=by omega
  subst this
  exact h
 | k,n + 1,h,hk=>by
  by_cases e:k=n + 1
  ·subst e;exact h
  ·show (mRow s out n).bind _=none
   rw [mRow_none h (by omega)]
   rfl
theorem mAll_none {R:List ByteArray} {out:List UInt8}:∀ {k n:Nat},mAll R out k=none→k≤n→mAll R out n=none
 | k,0,h,hk=>by
  have:k=0:=by omega
  subst this
  exact h
 | k,n + 1,h,hk=>by
  by_cases e:k=n + 1
  ·subst e;exact h
  ·show (mAll R out n).bind _=none
   rw [mAll_none h (by omega)]
   rfl
def fitGo (code read:ByteArray):Nat→Bool
 | 0=>true
 | k + 1=>fitGo code read k && (decide (chr read k=63) || decide (chr read k=chr code k))
def fitP (code read:ByteArray):Bool:=decide (code.size=read.size) && fitGo code read code.size
theorem fitGo_false {code read:ByteArray}:∀ {k n:Nat},fitGo code read k=false→k≤n→fitGo code read n=false
 | k,0,h,hk=>by
  have:k=0:=by omega
  subst this
  exact h
 | k,n + 1,h,hk=>by
  by_cases e:k=n + 1
  ·subst e;exact h
  ·show (fitGo code read n && _)=false
   rw [fitGo_false h (by omega)]
   rfl
structure Tag where
 Code:ByteArray
 Hold:Int
 deriving Inhabited
def eTag (t:Tag):List Value:=[.string t.Code,.int .i64 t.Hold]
theorem eTag_len (t:Tag):(eTag t).length=2:=rfl
def fitsL (l:List Tag) (read:ByteArray):Nat→List Int
 | 0=>[]
 | k + 1=>if fitP (l.getD k default).Code read=true then fitsL l read k ++ [(k:Int)] else fitsL l read k
theorem fitsL_le (l:List Tag) (r:ByteArray):∀ (k:Nat),(fitsL l r k).length≤k
 | 0=>Nat.le_refl _
 | k + 1=>by
  have:=fitsL_le l r k
  unfold fitsL
  split
  ·rw [List.length_append]
   show _ + 1≤_
   omega
  ·omega
def readP (R:List ByteArray):ByteArray:=match mergedP R with
 | some l=>⟨l.toArray⟩
 | none=>.empty
theorem mVal_eq (R:List ByteArray):mVal (mergedP R)=.tuple #[.string (readP R),.bool (mergedP R).isSome]:=by
 unfold readP
 cases mergedP R <;> rfl
def matchP (l:List Tag) (R:List ByteArray) (ce:Int) (q:Bool):Int×List Int×Int :=
 if ce≠0 then (0,[],ce) else if (fitsL l (readP R) l.length).length=0 then (2,[],0) else if q=true then (3,fitsL l (readP R) l.length,0) else (1,fitsL l (readP R) l.length,0)
def tB (B:List Bool) (i j:Nat):Bool:=B.getD (i * 8 + j) false
theorem tB_set {B:List Bool} {i j i' j':Nat} {x:Bool} (hl:B.length=64) (hi:i < 8) (hj:j < 8) (hj':j' < 8):tB (B.set (i * 8 + j) x) i' j'=if i'=i∧j'=j then x else tB B i' j':=by
 unfold tB
 rw [List.getD_eq_getElem?_getD,List.getD_eq_getElem?_getD]
 by_cases e:i'=i∧j'=j
 ·obtain ⟨rfl,rfl⟩:=e
  rw [if_pos ⟨rfl,rfl⟩,List.getElem?_set_self (by omega)]
  rfl
 ·rw [if_neg e,List.getElem?_set_ne (by omega)]
theorem tB_at {B:List Bool} {i j:Nat} (hl:B.length=64) (hi:i < 8) (hj:j < 8):(B.map Value.bool)[i * 8 + j]? = some (.bool (tB B i j)):=by
 unfold tB
 have h:i * 8 + j < B.length:=by omega
 rw [List.getElem?_map,List.getElem?_eq_getElem h,List.getD_eq_getElem?_getD,List.getElem?_eq_getElem h]
 rfl
theorem tB_ext {A B:List Bool} (ha:A.length=64) (hb:B.length=64) (h:∀ i j,i < 8→j < 8→tB A i j=tB B i j):A=B:=by
 refine List.ext_getElem (by omega) fun k h1 h2=>?_
 have q:=h (k / 8) (k % 8) (by omega) (by omega)
 have e:k / 8 * 8 + k % 8=k:=by omega
 unfold tB at q
 rw [e,List.getD_eq_getElem?_getD,List.getD_eq_getElem?_getD,List.getElem?_eq_getElem h1,List.getElem?_eq_getElem h2] at q
 exact q
def gB (B:List Bool) (i j:Nat):Nat→Bool
 | 0=>tB B i j
 | k + 1=>gB B i j k || (tB B i k && tB B k j)
def furB (B:List Bool):List Bool:=(List.range 64).map fun k=>gB B (k / 8) (k % 8) 8
theorem furB_len (B:List Bool):(furB B).length=64:=by unfold furB;rw [List.length_map,List.length_range]
theorem furB_at {B:List Bool} {i j:Nat} (hi:i < 8) (hj:j < 8):tB (furB B) i j=gB B i j 8:=by
 unfold furB tB
 rw [List.getD_eq_getElem?_getD,List.getElem?_map,List.getElem?_range (by omega),Option.map_some,Option.getD_some,show (i * 8 + j) / 8=i by omega,show (i * 8 + j) % 8=j by omega]
theorem gB_le {B:List Bool} {i j:Nat} (h:tB B i j=true):∀ k,gB B i j k=true
 | 0=>h
 | k + 1=>by
  unfold gB
  rw [gB_le h k]
  rfl
def offB (B:List Bool):Nat:=(B.filter fun b=>!b).length
theorem filter_lt {α:Type} (p q:α→Bool):∀ (l:List α),(∀ x,x∈l→q x=true→p x=true)→(∃ x,x∈l∧p x=true∧q x=false)→(l.filter q).length < (l.filter p).length
 | [],_,⟨x,h,_⟩=>by cases h
 | a :: l,h,⟨x,hx,h1,h2⟩=>by
  have hl:∀ (l:List α),(∀ x,x∈l→q x=true→p x=true)→(l.filter q).length≤(l.filter p).length:=by
   intro l
   induction l with
   | nil=>intro _;exact Nat.le_refl _
   | cons b l ih =>
    intro h
    have:=ih fun x hx=>h x (List.mem_cons_of_mem _ hx)
    have hb:=h b List.mem_cons_self
    rw [List.filter_cons,List.filter_cons]
    cases hq:q b with
    | true =>
     rw [hb hq]
     simpa using this
    | false =>
     cases hp:p b with
     | true =>
      simp only [if_true,List.length_cons]
      simp
      omega
     | false=>simpa using this
  have ha:=h a List.mem_cons_self
  have ht:∀ x,x∈l→q x=true→p x=true:=fun x hx=>h x (List.mem_cons_of_mem _ hx)
  rw [List.filter_cons,List.filter_cons]
  rcases List.mem_cons.1 hx with rfl|hx
  ·rw [h1,h2]
   have:=hl l ht
   simp
   omega
  ·have:=filter_lt p q l ht ⟨x,hx,h1,h2⟩
   cases hq:q a with
   | true =>
    rw [ha hq]
    simpa using this
   | false =>
    cases hp:p a with
    | true=>simp;omega
    | false=>simpa using this
theorem offB_eq {B:List Bool} (hl:B.length=64):offB B=((List.range 64).filter fun k=>!B.getD k false).length:=by
 have e:B=(List.range 64).map fun k=>B.getD k false:=by
  refine List.ext_getElem (by simp [hl]) fun k h1 h2=>?_
  rw [List.getElem_map,List.getElem_range,List.getD_eq_getElem?_getD,List.getElem?_eq_getElem h1]
  rfl
 unfold offB
 conv=>lhs;rw [e]
 rw [List.filter_map,List.length_map]
 rfl
theorem furB_off {B:List Bool} (hl:B.length=64) (hne:B≠furB B):offB (furB B) < offB B:=by
 rw [offB_eq hl,offB_eq (furB_len B)]
 have pt:∀ k,k < 64→∀ A:List Bool,A.getD k false=tB A (k / 8) (k % 8):=by
  intro k hk A
  unfold tB
  rw [show k / 8 * 8 + k % 8=k by omega]
 refine filter_lt _ _ _ (fun k hk h=>?_) ?_
 ·have hk:k < 64:=List.mem_range.1 hk
  cases hb:B.getD k false with
  | false=>rfl
  | true =>
   have hb2:=hb
   rw [pt k hk] at hb2
   have:(furB B).getD k false=true:=by rw [pt k hk,furB_at (by omega) (by omega)];exact gB_le hb2 8
   rw [this] at h
   exact h
 ·refine Classical.byContradiction fun hno=>hne (tB_ext hl (furB_len B) fun i j hi hj=>?_)
  rw [furB_at hi hj]
  cases hb:tB B i j with
  | true=>rw [gB_le hb 8]
  | false =>
   cases hg:gB B i j 8 with
   | false=>rfl
   | true =>
    refine absurd ⟨i * 8 + j,List.mem_range.2 (by omega), ?_, ?_⟩ hno
    ·show (!tB B i j)=true
     rw [hb]
     rfl
    ·show (!tB (furB B) i j)=false
     rw [furB_at hi hj,hg]
     rfl
def closeGo:Nat→List Bool→List Bool
 | 0,B=>B
 | k + 1,B=>if B=furB B then B else closeGo k (furB B)
theorem closeGo_len:∀ (k:Nat) {B:List Bool},B.length=64→(closeGo k B).length=64
 | 0,B,h=>h
 | k + 1,B,h=>by
  unfold closeGo
  split
  ·exact h
  ·exact closeGo_len k (furB_len B)
structure Lnk where
 A:Int
 B:Int
 Sure:Bool
 deriving Inhabited
def eLnk (l:Lnk):List Value:=[.int .i64 l.A,.int .i64 l.B,.bool l.Sure]
theorem eLnk_len (l:Lnk):(eLnk l).length=3:=rfl
def idB:Nat→List Bool
 | 0=>List.replicate 64 false
 | k + 1=>(idB k).set (k * 8 + k) true
theorem idB_len:∀ k,(idB k).length=64
 | 0=>List.length_replicate ..
 | k + 1=>by rw [idB,List.length_set,idB_len]
def lnkB (all:Bool) (B:List Bool) (l:Lnk):List Bool:=if (all || l.Sure)=true then (B.set (l.A.toNat * 8 + l.B.toNat) true).set (l.B.toNat * 8 + l.A.toNat) true else B
theorem lnkB_len {all:Bool} {B:List Bool} {l:Lnk} (h:B.length=64):(lnkB all B l).length=64:=by
 unfold lnkB
 split
 ·rw [List.length_set,List.length_set,h]
 ·exact h
def lnksB (all:Bool) (B:List Bool) (l:List Lnk):List Bool:=l.foldl (lnkB all) B
theorem lnksB_snoc (all:Bool) (B:List Bool) (l:List Lnk) (x:Lnk):lnksB all B (l ++ [x])=lnkB all (lnksB all B l) x:=by
 unfold lnksB
 rw [List.foldl_append]
 rfl
theorem lnksB_len {all:Bool}:∀ (l:List Lnk) {B:List Bool},B.length=64→(lnksB all B l).length=64
 | [],_,h=>h
 | x :: l,_,h=>lnksB_len l (lnkB_len h)
def tiesP (all:Bool) (l:List Lnk):List Bool:=closeGo 65 (lnksB all (idB 8) l)
structure Tll where
 Names:Int
 Limit:Int
 Window:Int
 Links:List Lnk
 Dues:List Due
 deriving Inhabited
def sameL (o l:Lnk):Bool:=(decide (o.A=l.A) && decide (o.B=l.B)) || (decide (o.A=l.B) && decide (o.B=l.A))
def lnkBad (last:Int) (pre:List Lnk) (x:Lnk):Int:=if !inB x.A 0 last || !inB x.B 0 last then 3 else if x.A=x.B then 2 else if pre.any (fun o=>sameL o x)=true then 4 else 0
def lnksErr (last:Int):List Lnk→List Lnk→Int
 | _,[]=>0
 | pre,x :: l=>if lnkBad last pre x=0 then lnksErr last (pre ++ [x]) l else lnkBad last pre x
def ordBad (day:Int):Option Int→Bool
 | some p=>decide (day < p)
 | none=>false
def dueBad (last:Int) (prev:Option Int) (d:Due):Int :=
 if !inB d.Day 0 4000 then 1 else if ordBad d.Day prev=true then 5 else if !inB d.Name 0 last then 3 else if !inB d.Cents 0 100000000 then 1 else 0
def duesErr (last:Int):Option Int→List Due→Int
 | _,[]=>0
 | p,d :: l=>if dueBad last p d=0 then duesErr last (some d.Day) l else dueBad last p d
def tillErr (t:Tll):Int :=
 if t.Names < 1 then 7 else if 8 < t.Names then 6 else if !inB t.Limit 0 100000000 || !inB t.Window 1 30 then 1 else if 10 < t.Links.length then 6 else
 if lnksErr (w64 (t.Names - 1)) [] t.Links≠0 then lnksErr (w64 (t.Names - 1)) [] t.Links else if 20 < t.Dues.length then 6 else duesErr (w64 (t.Names - 1)) none t.Dues
def prevU (l:List Due):Nat→Option Int
 | 0=>none
 | i + 1=>some (l.getD i default).Day
theorem inB_iff {a b c:Int}:inB a b c=true↔b≤a∧a≤c:=decide_eq_true_iff
theorem lnkBad_ok {last:Int} {pre:List Lnk} {x:Lnk} (h:lnkBad last pre x=0):(0≤x.A∧x.A≤last)∧(0≤x.B∧x.B≤last):=by
 unfold lnkBad at h
 split at h
 ·cases h
 ·rename_i q
  simp only [Bool.or_eq_true,Bool.not_eq_true',not_or,Bool.not_eq_false] at q
  exact ⟨inB_iff.1 q.1,inB_iff.1 q.2⟩
theorem lnksErr_ok {last:Int}:∀ {l pre:List Lnk},lnksErr last pre l=0→∀ x,x∈l→(0≤x.A∧x.A≤last)∧(0≤x.B∧x.B≤last)
 | [],_,_,x,hx=>by cases hx
 | y :: l,pre,h,x,hx=>by
  unfold lnksErr at h
  split at h
  ·rename_i q
   rcases List.mem_cons.1 hx with rfl|hx
   ·exact lnkBad_ok q
   ·exact lnksErr_ok h x hx
  ·rename_i q
   exact absurd h q
theorem dueBad_ok {last:Int} {p:Option Int} {d:Due} (h:dueBad last p d=0):(0≤d.Day∧d.Day≤4000)∧(0≤d.Name∧d.Name≤last)∧(0≤d.Cents∧d.Cents≤100000000):=by
 unfold dueBad at h
 split at h
 ·cases h
 rename_i q1
 split at h
 ·cases h
 split at h
 ·cases h
 rename_i q2
 split at h
 ·cases h
 rename_i q3
 simp only [Bool.not_eq_true',Bool.not_eq_false] at q1 q2 q3
 exact ⟨inB_iff.1 q1,inB_iff.1 q2,inB_iff.1 q3⟩
theorem duesErr_ok {last:Int}:∀ {l:List Due} {p:Option Int},duesErr last p l=0→∀ x,x∈l→(0≤x.Day∧x.Day≤4000)∧(0≤x.Name∧x.Name≤last)∧(0≤x.Cents∧x.Cents≤100000000)
 | [],_,_,x,hx=>by cases hx
 | y :: l,p,h,x,hx=>by
  unfold duesErr at h
  split at h
  ·rename_i q
   rcases List.mem_cons.1 hx with rfl|hx
   ·exact dueBad_ok q
   ·exact duesErr_ok h x hx
  ·rename_i q
   exact absurd h q
theorem tillErr_ok {t:Tll} (h:tillErr t=0):(1≤t.Names∧t.Names≤8)∧(0≤t.Limit∧t.Limit≤100000000)∧(1≤t.Window∧t.Window≤30)∧t.Links.length≤10∧t.Dues.length≤20 ∧
  (∀ x,x∈t.Links→(0≤x.A∧x.A < t.Names)∧(0≤x.B∧x.B < t.Names))∧(∀ x,x∈t.Dues→(0≤x.Day∧x.Day≤4000)∧(0≤x.Name∧x.Name < t.Names)∧(0≤x.Cents∧x.Cents≤100000000)):=by
 unfold tillErr at h
 split at h
 ·cases h
 rename_i q1
 split at h
 ·cases h
 rename_i q2
 split at h
 ·cases h
 rename_i q3
 split at h
 ·cases h
 rename_i q4
 split at h
 ·rename_i q5
  exact absurd h q5
 rename_i q5
 split at h
 ·cases h
 rename_i q6
 have q5:=Decidable.not_not.1 q5
 simp only [Bool.or_eq_true,Bool.not_eq_true',not_or,Bool.not_eq_false] at q3
 have hw:w64 (t.Names - 1)=t.Names - 1:=wrap64 (by omega) (by omega)
 rw [hw] at q5 h
 refine ⟨by omega,inB_iff.1 q3.1,inB_iff.1 q3.2,by omega,by omega,fun x hx=>?_,fun x hx=>?_⟩
 ·have:=lnksErr_ok q5 x hx
  omega
 ·have:=duesErr_ok h x hx
  omega
def keptT (t:Tll) (all:Bool) (l:List Due):Bool:=keptP (fun n d=>wGo (tiesP all t.Links) t.Window n d l) t.Names.toNat t.Limit l
def lawfulP (t:Tll):Int×Int:=if tillErr t≠0 then (0,tillErr t) else if keptT t true t.Dues=true then (1,0) else if keptT t false t.Dues=true then (3,0) else (2,0)
theorem tiesP_len {all:Bool} {l:List Lnk}:(tiesP all l).length=64:=closeGo_len _ (lnksB_len _ (idB_len 8))
def early (l:List Due) (day:Int):Bool:=ordBad day (prevU l l.length)
def dayErr (t:Tll) (name day:Int) (fine:Bool):Int :=
 if tillErr t≠0 then tillErr t else if ¬ (0≤name∧name≤w64 (t.Names - 1)) then 3 else if ¬ (0≤day∧day≤4000)∨fine=false then 1 else if early t.Dues day=true then 12 else if keptT t true t.Dues=false then 13 else 0
theorem dayErr_ok {t:Tll} {name day:Int} {fine:Bool} (h:dayErr t name day fine=0):tillErr t=0∧(0≤name∧name < t.Names)∧(0≤day∧day≤4000)∧fine=true∧keptT t true t.Dues=true:=by
 unfold dayErr at h
 split at h
 ·rename_i q
  exact absurd h q
 rename_i q0
 have q0:=Decidable.not_not.1 q0
 have k:=tillErr_ok q0
 have hw:w64 (t.Names - 1)=t.Names - 1:=wrap64 (by omega) (by omega)
 rw [hw] at h
 split at h
 ·cases h
 split at h
 ·cases h
 rename_i q1 q2
 split at h
 ·cases h
 split at h
 ·cases h
 rename_i q3 q4
 refine ⟨q0,by omega, ?_, ?_,by simpa using q4⟩
 ·exact Decidable.not_not.1 fun q=>q2 (.inl q)
 ·cases fine with
  | true=>rfl
  | false=>exact absurd (.inr rfl) q2
def lkE:List Ent2→Int→Int→Int
 | [],_,_=>0
 | x :: l,a,b=>if a=x.1.1∧b=x.1.2 then x.2 else lkE l a b
theorem lkE_find (a b:Int):∀ (l:List Ent2) (i:Nat),(match findE a b l i with|some (_,u)=>u|none=>Value.int .i64 0)=.int .i64 (lkE l a b)
 | [],i=>rfl
 | x :: l,i=>by
  rw [findE,lkE]
  by_cases c:a=x.1.1∧b=x.1.2
  ·rw [if_pos c,if_pos c]
  ·rw [if_neg c,if_neg c]
   exact lkE_find a b l (i + 1)
theorem findE_new {a b:Int}:∀ {l:List Ent2} {i:Nat},(∀ x,x∈l→x.1.2 < b)→findE a b l i=none
 | [],i,_=>rfl
 | x :: l,i,h=>by
  have:=h x (List.mem_cons_self ..)
  rw [findE,if_neg (by omega)]
  exact findE_new fun y hy=>h y (List.mem_cons_of_mem _ hy)
def leftGo (es:List Ent2) (n:Int):Nat→Int→Int→Int
 | 0,_,r=>r
 | c + 1,k,r=>leftGo es n c (k + 1) (w64 (r - lkE es n k))
def roomAt (t:Tll) (es:List Ent2) (n d:Int):Int:=leftGo es n (d - w64 (w64 (d - t.Window) + 1)).toNat (w64 (w64 (d - t.Window) + 1)) (w64 (t.Limit - wGo (tiesP true t.Links) t.Window n d t.Dues))
def soonGo (t:Tll) (n:Int):Nat→Int→Int→List Ent2→Int×Int
 | 0,_,_,_=>(0,12)
 | f + 1,d,c,es=>if c≤roomAt t es n d then (d,0) else soonGo t n f (d + 1) (w64 (c - roomAt t es n d)) (es ++ [((n,d),roomAt t es n d)])
def soonP (t:Tll) (n d c:Int):Int×Int:=if dayErr t n d (inB c 0 100000000)≠0 then (0,dayErr t n d (inB c 0 100000000)) else soonGo t n (4001 - d).toNat d c []
def signB (c:Int):Bool:=decide (65≤c∧c≤90) || decide (48≤c∧c≤57)
def partB (c:Int):Bool:=decide (c=63) || signB c
def mayB (k:Nat):Int→Bool:=if k=115 then signB else partB
def badFrom (may:Int→Bool) (s:ByteArray):Nat→Nat→Bool
 | 0,_=>false
 | f + 1,p=>if p < s.size then (!may (Utf8.decode s p).1 || badFrom may s f (p + (Utf8.decode s p).2)) else false
def readsP (may:Int→Bool) (s:ByteArray):Bool:=decide (1≤(s.size:Int)∧(s.size:Int)≤8) && !badFrom may s s.size 0
theorem badFrom_end {may:Int→Bool} {s:ByteArray} {p:Nat} (h:¬ p < s.size):∀ f,badFrom may s f p=false
 | 0=>rfl
 | f + 1=>by rw [badFrom,if_neg h]
def tagBad (pre:List Tag) (t:Tag):Int:=if readsP signB t.Code=false then 2 else if ¬ (0≤t.Hold∧t.Hold≤60) then 1 else if pre.any (fun o=>decide (o.Code=t.Code))=true then 4 else 0
def tagsErr:List Tag→List Tag→Int
 | _,[]=>0
 | pre,t :: l=>if tagBad pre t=0 then tagsErr (pre ++ [t]) l else tagBad pre t
def partOk (R:List ByteArray) (s:ByteArray):Bool:=readsP partB s && decide (s.size=(R.getD 0 default).size)
def goodsErr (l:List Tag) (R:List ByteArray):Int :=
 if 12 < l.length then 6 else if tagsErr [] l≠0 then tagsErr [] l else if R.length=0 then 7 else if 4 < R.length then 6 else if R.all (partOk R)=false then 2 else if (mergedP R).isSome=false then 9 else 0

structure HdgV (g:Hdg):Prop where
 lot:1≤g.Lot∧g.Lot≤9
 held:0≤g.Held∧g.Held≤5
 bound:0≤g.Bound∧g.Bound≤2 * g.Lot
 len:1≤g.Stock.length∧g.Stock.length≤4
 all:∀ x,x∈g.Stock→(0≤x.1∧x.1≤5 * g.Lot)∧x.1≤x.2∧x.2≤x.1 + g.Bound
def fitD (g:Hdg) (day:Nat) (n:Int):Bool:=decide ((expP g day n).2≤g.Bound) && decide (w64 (-g.Bound)≤(expP g day n).1)
def befP (g:Hdg) (pre:List Nat):Int:=if pre.length=0 then g.Held else ((pre.getD (pre.length - 1) 0:Nat):Int)
def plansGo (g:Hdg):Nat→List Nat→Int→List Nat×Int→List Nat×Int
 | 0,pre,tr,acc=>if tr < acc.2 then (pre,tr) else acc
 | k + 1,pre,tr,acc=>(List.range' 0 10).foldl (fun (a:List Nat×Int) (n:Nat)=>if fitD g pre.length n=true then plansGo g k (pre ++ [n]) (w64 (tr + apartP n (befP g pre))) a else a) acc
def plStep (g:Hdg) (k:Nat) (pre:List Nat) (tr:Int) (a:List Nat×Int) (n:Nat):List Nat×Int:=if fitD g pre.length n=true then plansGo g k (pre ++ [n]) (w64 (tr + apartP n (befP g pre))) a else a
theorem plansGo_succ (g:Hdg) (k:Nat) (pre:List Nat) (tr:Int) (acc:List Nat×Int):plansGo g (k + 1) pre tr acc=(List.range' 0 10).foldl (plStep g k pre tr) acc:=rfl
theorem exp_lin {g:Hdg} (v:HdgV g) {day n:Nat} (hd:day < g.Stock.length) (hn:n < 51):expP g day n=((g.Stock.getD day default).1 - g.Lot * n,(g.Stock.getD day default).2 - g.Lot * n)∧(0≤(g.Stock.getD day default).1∧(g.Stock.getD day default).1≤5 * g.Lot)∧(g.Stock.getD day default).1≤(g.Stock.getD day default).2∧(g.Stock.getD day default).2≤(g.Stock.getD day default).1 + g.Bound:=by
 have a:=v.all (g.Stock.getD day default) (by
  rw [List.getD_eq_getElem?_getD,List.getElem?_eq_getElem hd]
  exact List.getElem_mem hd)
 have hl:=v.lot
 have hb:=v.bound
 have h1:0≤g.Lot * n:=Int.mul_nonneg (by omega) (by omega)
 have h2:g.Lot * n≤9 * 50:=Int.mul_le_mul (by omega) (by omega) (by omega) (by omega)
 have e1:w64 (g.Lot * n)=g.Lot * n:=wrap64 (by omega) (by omega)
 have e2:w64 ((g.Stock.getD day default).1 - g.Lot * n)=(g.Stock.getD day default).1 - g.Lot * n:=wrap64 (by omega) (by omega)
 have e3:w64 ((g.Stock.getD day default).2 - g.Lot * n)=(g.Stock.getD day default).2 - g.Lot * n:=wrap64 (by omega) (by omega)
 refine ⟨?_,a⟩
 unfold expP
 rw [e1,e2,e3]
theorem neg_bound {g:Hdg} (v:HdgV g):w64 (-g.Bound) = -g.Bound:=by
 have hl:=v.lot
 have hb:=v.bound
 exact wrap64 (by omega) (by omega)
theorem cost_fit {g:Hdg} {T:Nat→Nat→Int} {day b n:Nat}:costP g T day b n=if fitD g day n=true then min never (w64 (apartP b n + T (day + 1) n)) else never:=by
 unfold costP fitD
 by_cases q:(expP g day n).1 < w64 (-g.Bound)∨g.Bound < (expP g day n).2
 ·rw [if_pos q,if_neg]
  simp only [Bool.and_eq_true,decide_eq_true_eq]
  omega
 ·rw [if_neg q,if_pos]
  simp only [Bool.and_eq_true,decide_eq_true_eq]
  omega
theorem fit_few {g:Hdg} (v:HdgV g) {day n:Nat} (hd:day < g.Stock.length) (hn:n < 51) (h10:10≤n):fitD g day n=false:=by
 obtain ⟨e,a1,a2,a3⟩:=exp_lin v hd hn
 have hb:=v.bound
 have hl:=v.lot
 unfold fitD
 rw [e,neg_bound v]
 have h1:g.Lot * 10≤g.Lot * n:=Int.mul_le_mul_of_nonneg_left (by omega) (by omega)
 have:¬ (-g.Bound≤(g.Stock.getD day default).1 - g.Lot * n):=by omega
 rw [decide_eq_false this,Bool.and_false]
theorem best_few {g:Hdg} (v:HdgV g) {T:Nat→Nat→Int} {day b:Nat} (hd:day < g.Stock.length):∀ (j:Nat),j≤41→bestP g T day b (10 + j)=bestP g T day b 10
 | 0,_=>rfl
 | j + 1,h=>by
  show min (bestP g T day b (10 + j)) (costP g T day b (10 + j))=_
  rw [best_few v hd j (by omega),cost_fit,if_neg (by rw [fit_few v hd (by omega) (by omega)];exact Bool.false_ne_true)]
  have:=@bestP_le_never g T day b 10
  omega
theorem apart_sym (a b:Int):apartP a b=apartP b a:=by
 unfold apartP
 rw [Int.max_comm]
def firstB (g:Hdg) (day before:Nat):Nat→Nat
 | 0=>0
 | j + 1=>if costP g (restP g) day before j < bestP g (restP g) day before j then j else firstB g day before j
theorem firstB_spec {g:Hdg} {day before:Nat}:∀ {j:Nat},bestP g (restP g) day before j < never→firstB g day before j < j∧costP g (restP g) day before (firstB g day before j)=bestP g (restP g) day before j∧∀ m,m < firstB g day before j→costP g (restP g) day before m≠bestP g (restP g) day before j
 | 0,h=>absurd h (Int.lt_irrefl _)
 | j + 1,h=>by
  unfold firstB
  have e:bestP g (restP g) day before (j + 1)=min (bestP g (restP g) day before j) (costP g (restP g) day before j):=rfl
  by_cases q:costP g (restP g) day before j < bestP g (restP g) day before j
  ·rw [if_pos q]
   refine ⟨Nat.lt_succ_self _,by rw [e];omega,fun m hm=>?_⟩
   have:=@bestP_le g (restP g) day before j m hm
   rw [e]
   omega
  ·rw [if_neg q]
   have e2:bestP g (restP g) day before (j + 1)=bestP g (restP g) day before j:=by rw [e];omega
   rw [e2] at h ⊢
   obtain ⟨a,b,c⟩:=firstB_spec h
   exact ⟨by omega,b,c⟩
theorem goP_first {g:Hdg} (v:HdgV g) {k day before:Nat} (hd:day < g.Stock.length) (hb:before < 51) (hr:restP g day before < never) (hk:g.Stock.length - day=k + 1):planGo g (k + 1) day before=firstB g day before 10 :: planGo g k (day + 1) (firstB g day before 10):=by
 obtain ⟨l,h1,h2,h3,h4,h5⟩:=first_ok hd hb hr
 show firstL g day before (restP g day before) 51 0 :: planGo g k (day + 1) (firstL g day before (restP g day before) 51 0)=_
 have e:=restP_eq (h:=g) (b:=before) hd
 have e10:restP g day before=bestP g (restP g) day before 10:=by rw [e];exact best_few v hd 41 (by omega)
 rw [e10] at hr
 obtain ⟨f1,f2,f3⟩:=firstB_spec hr
 rw [← e10] at f2 f3
 have el:l=firstB g day before 10:=by
  rcases Nat.lt_trichotomy l (firstB g day before 10) with q|q|q
  ·exact absurd h3 (f3 l q)
  ·exact q
  ·exact absurd f2 (h4 _ q)
 rw [h2,el]
theorem foldl_range'_succ {α:Type} (f:α→Nat→α) (a:α) (s n:Nat):(List.range' s (n + 1)).foldl f a=(List.range' (s + 1) n).foldl f (f a s):=rfl
theorem range'_snoc (n:Nat):List.range' 0 (n + 1)=List.range' 0 n ++ [n]:=by
 rw [List.range'_concat]
 simp
theorem plans_best {g:Hdg} (v:HdgV g):∀ (k day:Nat) (pre:List Nat) (tr:Int) (acc:List Nat×Int) (before:Nat),g.Stock.length=day + k→pre.length=day→befP g pre=before→before < 51→(0≤tr∧tr≤50 * day)→acc.2≤never →
  plansGo g k pre tr acc=if tr + restP g day before < acc.2 then (pre ++ planGo g k day before,tr + restP g day before) else acc
 | 0,day,pre,tr,acc,before,hL,hp,hbf,hb,ht,ha=>by
  have e:restP g day before=0:=by
   have:day=g.Stock.length:=by omega
   rw [this,restP_end]
  rw [plansGo,e,Int.add_zero]
  show _=if tr < acc.2 then (pre ++ [],tr) else acc
  rw [List.append_nil]
 | k + 1,day,pre,tr,acc,before,hL,hp,hbf,hb,ht,ha=>by
  have hd:day < g.Stock.length:=by omega
  have hdl:=v.len
  have e10:restP g day before=bestP g (restP g) day before 10:=by rw [restP_eq (h:=g) (b:=before) hd];exact best_few v hd 41 (by omega)
  -- one more
  have step:∀ (n:Nat) (a:List Nat×Int),n < 10→a.2≤never→plStep g k pre tr a n=if tr + costP g (restP g) day before n < a.2 then (pre ++ n :: planGo g k (day + 1) n,tr + costP g (restP g) day before n) else a:=by
   intro n a hn ha
   unfold plStep
   rw [hp,cost_fit]
   by_cases q:fitD g day n=true
   ·rw [if_pos q,if_pos q]
    have ap:=apartP_eq (a:=n) (b:=before) (by omega) hb
    have ap2:apartP before n=apartP n before:=apart_sym _ _
    have rr:0≤restP g (day + 1) n∧restP g (day + 1) n≤never:=restR_rg (h:=g) (g.Stock.length - (day + 1)) n (by omega)
    have hnv:never=1073741824:=rfl
    have w1:w64 (tr + apartP n before)=tr + apartP n before:=wrap64 (by omega) (by omega)
    have w2:w64 (apartP before n + restP g (day + 1) n)=apartP n before + restP g (day + 1) n:=by rw [ap2];exact wrap64 (by omega) (by omega)
    rw [hbf,w1,w2]
    have hbn:befP g (pre ++ [n])=(n:Int):=by
     unfold befP
     rw [if_neg (by simp)]
     simp
    rw [plans_best v k (day + 1) (pre ++ [n]) (tr + apartP n before) a n (by omega) (by rw [List.length_append];simp;omega) hbn (by omega) (by rw [Int.natCast_add];omega) ha]
    rw [List.append_assoc,List.singleton_append]
    by_cases q2:tr + apartP n before + restP g (day + 1) n < a.2
    ·have e:min never (apartP n before + restP g (day + 1) n)=apartP n before + restP g (day + 1) n:=by omega
     rw [if_pos q2,e,if_pos (by omega),Int.add_assoc]
    ·rw [if_neg q2,if_neg (by omega)]
   ·rw [if_neg q,if_neg q,if_neg (by omega)]
  -- so many
  have all:∀ j,j≤10→(List.range' 0 j).foldl (plStep g k pre tr) acc=if tr + bestP g (restP g) day before j < acc.2 then (pre ++ firstB g day before j :: planGo g k (day + 1) (firstB g day before j),tr + bestP g (restP g) day before j) else acc:=by
   intro j
   induction j with
   | zero =>
    intro _
    show acc=if tr + never < acc.2 then _ else acc
    rw [if_neg (by omega)]
   | succ j ih =>
    intro hj
    rw [range'_snoc,List.foldl_append,ih (by omega)]
    show plStep g k pre tr _ j=_
    have eb:bestP g (restP g) day before (j + 1)=min (bestP g (restP g) day before j) (costP g (restP g) day before j):=rfl
    by_cases q:tr + bestP g (restP g) day before j < acc.2
    ·rw [if_pos q,step j _ (by omega) (by dsimp only;omega)]
     dsimp only
     rw [firstB]
     by_cases q2:costP g (restP g) day before j < bestP g (restP g) day before j
     ·have e:min (bestP g (restP g) day before j) (costP g (restP g) day before j)=costP g (restP g) day before j:=by omega
      rw [if_pos (by omega),if_pos q2,eb,e,if_pos (by omega)]
     ·have e:min (bestP g (restP g) day before j) (costP g (restP g) day before j)=bestP g (restP g) day before j:=by omega
      rw [if_neg (by omega),if_neg q2,eb,e,if_pos q]
    ·rw [if_neg q,step j _ (by omega) ha]
     by_cases q2:tr + costP g (restP g) day before j < acc.2
     ·have e:min (bestP g (restP g) day before j) (costP g (restP g) day before j)=costP g (restP g) day before j:=by omega
      rw [if_pos q2,eb,e,if_pos q2,firstB,if_pos (by omega)]
     ·rw [if_neg q2,if_neg (by rw [eb];omega)]
  rw [plansGo_succ,all 10 (Nat.le_refl _),← e10]
  by_cases q:tr + restP g day before < acc.2
  ·rw [if_pos q,if_pos q,goP_first v hd hb (by omega) (by omega)]
  ·rw [if_neg q,if_neg q]
def expoL (g:Hdg) (plan:List Int):Nat→List Rg
 | 0=>[]
 | i + 1=>expoL g plan i ++ [expP g i (plan.getD i default)]
theorem expoL_len (g:Hdg) (plan:List Int):∀ i,(expoL g plan i).length=i
 | 0=>rfl
 | i + 1=>by rw [expoL,List.length_append,expoL_len g plan i];rfl
theorem expoL_at (g:Hdg) (plan:List Int):∀ (i d:Nat),d < i→(expoL g plan i).getD d default=expP g d (plan.getD d default)
 | 0,d,h=>by omega
 | i + 1,d,h=>by
  rw [expoL]
  by_cases q:d < i
  ·rw [getD_appL (by rw [expoL_len];exact q)]
   exact expoL_at g plan i d q
  ·have:d=i:=by omega
   subst this
   have e:=getD_appR (l:=expoL g plan d) (x:=expP g d (plan.getD d default))
   rw [expoL_len] at e
   exact e
def offP (n:Int):Bool:=!decide (0≤n∧n≤50)
def expoP (g:Hdg) (plan:List Int):List Rg×Int :=
 if hedgeErr g≠0 then ([],hedgeErr g) else if plan.length≠g.Stock.length then ([],2) else if plan.any offP=true then ([],1) else (expoL g plan plan.length,0)
theorem stock_ok:∀ {l:List Rg},(∀ x,x∈l→(0≤x.1∧x.1≤1000000)∧(0≤x.2∧x.2≤1000000)∧x.1≤x.2)→stockErr l=0
 | [],_=>rfl
 | x :: l,h=>by
  have h1:=h x (List.mem_cons_self ..)
  have hb:rgBad x=0:=by
   unfold rgBad inB
   rw [decide_eq_true h1.1,decide_eq_true h1.2.1]
   simp only [Bool.not_true,Bool.or_self,Bool.false_eq_true,if_false]
   rw [if_neg (by omega)]
  rw [stockErr,if_pos hb]
  exact stock_ok fun y hy=>h y (List.mem_cons_of_mem _ hy)
theorem HdgV.ok {g:Hdg} (v:HdgV g):hedgeErr g=0:=by
 have hl:=v.lot
 have hb:=v.bound
 have hh:=v.held
 have hn:=v.len
 have hs:stockErr g.Stock=0:=stock_ok fun x hx=>by have:=v.all x hx;omega
 unfold hedgeErr inB
 rw [if_neg (by omega),if_neg (by omega),hs,if_neg (by simp),decide_eq_true (show 1≤g.Lot∧g.Lot≤1000000 by omega),decide_eq_true (show 0≤g.Bound∧g.Bound≤1000000 by omega),decide_eq_true (show 0≤g.Held∧g.Held≤50 by omega)]
 rfl
theorem plan_fits {g:Hdg}:∀ (k day before:Nat),g.Stock.length=day + k→before < 51→restP g day before < never→∀ i,i < k→(planGo g k day before).getD i default < 51∧fitD g (day + i) (((planGo g k day before).getD i default:Nat):Int)=true
 | 0,_,_,_,_,_,i,hi=>by omega
 | k + 1,day,before,hL,hb,hr,i,hi=>by
  obtain ⟨l,h1,h2,h3,h4,h5⟩:=first_ok (by omega) hb hr
  have e:planGo g (k + 1) day before=l :: planGo g k (day + 1) l:=by
   show firstL g day before (restP g day before) 51 0 :: planGo g k (day + 1) (firstL g day before (restP g day before) 51 0)=_
   rw [h2]
  rw [e]
  cases i with
  | zero =>
   refine ⟨h1, ?_⟩
   show fitD g day (l:Int)=true
   rw [cost_fit] at h3
   by_cases q:fitD g day l=true
   ·exact q
   ·rw [if_neg q] at h3
    omega
  | succ i =>
   have ih:=plan_fits k (day + 1) l (by omega) h1 h5 i (by omega)
   have e2:day + (i + 1)=day + 1 + i:=by omega
   rw [e2]
   exact ih
theorem fitD_iff {g:Hdg} {d:Nat} {n:Int}:fitD g d n=true↔(expP g d n).2≤g.Bound∧w64 (-g.Bound)≤(expP g d n).1:=by
 unfold fitD
 rw [Bool.and_eq_true,decide_eq_true_eq,decide_eq_true_eq]
theorem plans_all {g:Hdg} (v:HdgV g):plansGo g g.Stock.length [] 0 ([],1073741824)=if restP g 0 g.Held.toNat < never then (planP g,restP g 0 g.Held.toNat) else ([],1073741824):=by
 have hh:=v.held
 have h:=plans_best v g.Stock.length 0 [] 0 ([],never) g.Held.toNat (by omega) rfl (by show g.Held=_;omega) (by omega) (by omega) (Int.le_refl _)
 rw [Int.zero_add,List.nil_append] at h
 exact h
theorem expo_plan {g:Hdg} (v:HdgV g) (hr:restP g 0 g.Held.toNat < never):expoP g ((planP g).map Int.ofNat)=(expoL g ((planP g).map Int.ofNat) g.Stock.length,0)∧∀ i,i < g.Stock.length→(w64 (-g.Bound)≤((expoL g ((planP g).map Int.ofNat) g.Stock.length).getD i default).1∧((expoL g ((planP g).map Int.ofNat) g.Stock.length).getD i default).2≤g.Bound):=by
 have hh:=v.held
 have hl:((planP g).map Int.ofNat).length=g.Stock.length:=by rw [List.length_map];exact planGo_len _ _ _
 have hl0:(planP g).length=g.Stock.length:=planGo_len _ _ _
 have hf:=plan_fits g.Stock.length 0 g.Held.toNat (by omega) (by omega) hr
 have hat:∀ i,i < g.Stock.length→((planP g).map Int.ofNat).getD i default=(((planGo g g.Stock.length 0 g.Held.toNat).getD i default:Nat):Int):=by
  intro i hi
  rw [List.getD_eq_getElem?_getD,List.getD_eq_getElem?_getD,List.getElem?_map]
  show (((planP g)[i]?).map Int.ofNat).getD default=_
  rw [List.getElem?_eq_getElem (by rw [hl0];exact hi)]
  show Int.ofNat _=_
  have:(planGo g g.Stock.length 0 g.Held.toNat)[i]? = some ((planP g)[i]'(by rw [hl0];exact hi)):=List.getElem?_eq_getElem (by have:=hl0;unfold planP at this;omega)
  rw [this]
  rfl
 have hany:((planP g).map Int.ofNat).any offP=false:=by
  rw [List.any_eq_false]
  intro x hx
  obtain ⟨i,hi,rfl⟩:=List.getElem_of_mem hx
  have h1:=hat i (by omega)
  rw [List.getD_eq_getElem?_getD,List.getElem?_eq_getElem hi] at h1
  have h1:((planP g).map Int.ofNat)[i]=_:=h1
  have h2:=(hf i (by omega)).1
  rw [h1]
  generalize (planGo g g.Stock.length 0 g.Held.toNat).getD i default=z at *
  unfold offP
  rw [decide_eq_true (by omega)]
  simp
 refine ⟨?_,fun i hi=>?_⟩
 ·unfold expoP
  rw [v.ok,if_neg (by simp),if_neg (by simp [hl]),if_neg (by rw [hany];simp),hl]
 ·rw [expoL_at _ _ _ _ hi,hat i hi]
  have:=(hf i hi).2
  rw [Nat.zero_add,fitD_iff] at this
  exact ⟨this.2,this.1⟩
def SK (H:AHeap) (s:Nat) (v:Value):Prop:=∃ d T k,H.get (vblk v)=.cells d T k∧∀ g e l,k=.gr g e l→e=s
theorem SK.fr {N:Nat} {X:List Nat} {A B:AHeap} (hF:Fr N X A B) {s:Nat} {v:Value} (h:SK A s v) (hb:vblk v < A.n) (hx:vblk v∉X):SK B s v:=by
 obtain ⟨d,T,k,h1,h2⟩:=h
 exact ⟨d,T,k,(hF.old _ hb hx).trans h1,h2⟩
def sl (v:Value) (j:Nat):Value:=match v with|.slice (some a) _ k=>.slice (some a) j k|_=>.slice none 0 0
theorem slice_pre {P:Program} {t e:TypeId} {s:Nat} (hu:P.underlying t=some (.slice e)) (hs:tySize P e=some s) {H:AHeap} {v:Value} {c:List Value} {n j:Nat} {q:IntKind} (S:SR H s n v c) (K:SK H s v) (hj:j≤n) (hn:0 < n) :
  sliceA P H t v none (some (.int q j)) none=some (sl v j)∧SR H s j (sl v j) (c.take (j * s)):=by
 rcases S.shape with ⟨_,rfl⟩|⟨b,o,k,rfl,hk⟩
 ·omega
 ·obtain ⟨d,T,kd,g1,g2⟩:=K
  have g1:H.get b=.cells d T kd:=g1
  have hb:bndsA n k none (some (.int q j)) none=some (0,j,k):=by
   unfold bndsA bndO bnd1
   simp only [Option.bind_some,Option.isSome_none,Bool.false_eq_true,false_and,if_false,Option.map_some]
   rw [if_pos ⟨by omega,by omega⟩]
   simp
  constructor
  ·unfold sliceA
   rw [hu]
   dsimp only
   rw [hb,hs,g1]
   cases kd with
   | gr g e' l =>
    dsimp only
    rw [if_pos ⟨g2 _ _ _ rfl,.inl rfl⟩]
    simp [sl]
   | ex =>
    dsimp only
    rw [if_neg (by omega)]
    simp [sl]
   | ro =>
    dsimp only
    rw [if_neg (by omega)]
    simp [sl]
  ·have hjs:j * s≤n * s:=Nat.mul_le_mul_right _ hj
   refine ⟨.inr ⟨b,o,k,rfl,by omega⟩,by rw [List.length_take,S.len];omega, ?_,.inr (S.lt.resolve_left (by omega))⟩
   right
   rcases S.cells with h|⟨d2,h1,h2,h3⟩
   ·omega
   ·refine ⟨d2,h1, ?_, ?_⟩
    ·show o + j * s≤d2.length
     have h2:o + n * s≤d2.length:=h2
     omega
    ·show (d2.drop o).take (j * s)=c.take (j * s)
     have h3:(d2.drop o).take (n * s)=c:=h3
     rw [← h3,List.take_take,Nat.min_eq_left hjs]
theorem flat_take {α:Type} {enc:α→List Value} {s:Nat} (hs:∀ a,(enc a).length=s):∀ (l:List α) (j:Nat),(l.flatMap enc).take (j * s)=(l.take j).flatMap enc
 | [],j=>by simp
 | a :: l,0=>by simp
 | a :: l,j + 1=>by
  rw [List.flatMap_cons,List.take_succ_cons,List.flatMap_cons,← flat_take hs l j,List.take_append,hs]
  have:(j + 1) * s=j * s + s:=by rw [Nat.add_mul,Nat.one_mul]
  rw [List.take_of_length_le (by rw [hs];omega),this,Nat.add_sub_cancel]
theorem oblR_refl {ops:Array Oper} {k:Nat} {H:AHeap}:∀ (rs:List (Nat×Nat)),oblR ops k H H rs
 | []=>trivial
 | r :: rs=>⟨.inr rfl,oblR_refl rs⟩
theorem oblA_of {ops:Array Oper} {k b:Nat}:∀ {as:List (Nat×AHeap×AHeap)},(∀ a,a∈as→isAnc ops a.1 k=true∨a.2.2.get b=a.2.1.get b)→oblA ops k b as
 | [],_=>trivial
 | a :: as,h=>⟨h a (List.mem_cons_self ..),oblA_of fun x hx=>h x (List.mem_cons_of_mem _ hx)⟩
theorem WO_post {P:Program} {C:CallRel} {ops:Array Oper} {os:List Oper} {K K':Env→AHeap→Prop} {env:Env} {H:AHeap} (h:WO P C ops os K env H) (hk:∀ e h,K e h→K' e h):WO P C ops os K' env H:=by
 obtain ⟨e,h',r,q⟩:=h
 exact ⟨e,h',r,hk _ _ q⟩
theorem WD_harm {P:Program} {C:CallRel} {ops:Array Oper} {K:Env→AHeap→Prop}:∀ (os:List Oper) {k:Nat} {rs:List (Nat×Nat)} {as as':List (Nat×AHeap×AHeap)} {e:Env} {h:AHeap},
  (∀ a,a∈as'→a∈as∨∀ b,a.2.2.get b=a.2.1.get b)→WD P C ops os k rs as K e h→WD P C ops os k rs as' K e h
 | [],k,rs,as,as',e,h,ha,w=>w
 | o :: os,k,rs,as,as',e,h,ha,w=>by
  unfold WD at w ⊢
  by_cases hs:simpleOp o.op=true
  ·rw [if_pos hs] at w ⊢
   refine ⟨?_,WO_post w.2 fun e h q=>WD_harm os ha q⟩
   have w1:=w.1
   unfold oblO at w1 ⊢
   split
   ·rename_i b hb
    rw [hb] at w1
    refine oblA_of fun a hx=>?_
    rcases ha a hx with q|q
    ·exact oblA_mem w1 a q
    ·exact .inr (q b)
   ·trivial
  ·rw [if_neg hs] at w ⊢
   refine WO_post w fun e' h' q=>⟨q.1,WD_harm os (fun a hx=>?_) q.2⟩
   rcases List.mem_cons.1 hx with rfl|hx
   ·exact .inl (List.mem_cons_self ..)
   ·rcases ha a hx with q|q
    ·exact .inl (List.mem_cons_of_mem _ q)
    ·exact .inr q
section
variable {P:Program} {C:CallRel} {ops:Array Oper} {os:List Oper} {K:Env→AHeap→Prop} {env:Env} {H:AHeap} {dst:Option Tmp} {ty:TypeId} {pos:String} {aft:Array Edge} {k j:Nat} {rs:List (Nat×Nat)} {as:List (Nat×AHeap×AHeap)} {op:Op} {d:Tmp} {t:Bool}
theorem WD_gX {b:Bool} (hd:(ops[j]?).bind (·.dst)=some d) (hv:env d=.bool t) (h1:t=b→WD P C ops (⟨dst,op,ty,pos,aft,none⟩ :: os) k rs as K env H) (h2:t≠b→WD P C ops os (k + 1) rs as K (env.set dst undef) H)
  (hw:Region.wanted ⟨dst,op,ty,pos,aft,some (j,b)⟩ (yieldedA ops env)=decide (t=b))
  (hg:∀ (K':Env→AHeap→Prop),(t=b→WO P C ops [⟨dst,op,ty,pos,aft,none⟩] K' env H)→(t≠b→K' (env.set dst undef) H)→WO P C ops [⟨dst,op,ty,pos,aft,some (j,b)⟩] K' env H) :
  WD P C ops (⟨dst,op,ty,pos,aft,some (j,b)⟩ :: os) k rs as K env H:=by
 unfold WD
 by_cases hs:simpleOp op=true
 ·rw [if_pos hs]
  by_cases e:t=b
  ·have h:=h1 e
   unfold WD at h
   rw [if_pos hs] at h
   have ht:tch ops env H ⟨dst,op,ty,pos,aft,some (j,b)⟩=tch ops env H ⟨dst,op,ty,pos,aft,none⟩:=by
    unfold tch
    rw [hw,decide_eq_true e,if_pos rfl,if_pos (by simp [Region.wanted])]
   rw [ht]
   exact ⟨h.1,hg _ (fun _=>h.2) fun q=>absurd e q⟩
  ·have ht:tch ops env H ⟨dst,op,ty,pos,aft,some (j,b)⟩=none:=by
    unfold tch
    rw [hw,decide_eq_false e,if_neg (by simp)]
   rw [ht]
   exact ⟨trivial,hg _ (fun q=>absurd q e) fun _=>h2 e⟩
 ·rw [if_neg hs]
  refine hg _ (fun e=>?_) fun e=>⟨oblR_refl rs, ?_⟩
  ·have h:=h1 e
   unfold WD at h
   rw [if_neg hs] at h
   exact h
  ·-- an operation that is not wanted changes nothing
   refine WD_harm os (fun a hx=>?_) (h2 e)
   rcases List.mem_cons.1 hx with rfl|hx
   ·exact .inr fun _=>rfl
   ·exact .inl hx
theorem WD_gT (hd:(ops[j]?).bind (·.dst)=some d) (hv:env d=.bool t) (h1:t=true→WD P C ops (⟨dst,op,ty,pos,aft,none⟩ :: os) k rs as K env H) (h2:t=false→WD P C ops os (k + 1) rs as K (env.set dst undef) H) :
  WD P C ops (⟨dst,op,ty,pos,aft,some (j,true)⟩ :: os) k rs as K env H :=
 WD_gX hd hv h1 (fun q=>h2 (by simpa using q)) (by have hy:=yielded_of (ops:=ops) hd hv;show (yieldedA ops env j == some _)=_;rw [hy];cases t <;> rfl) fun K' a b=>WO_gT hd hv a fun q=>⟨_,_,⟨rfl,rfl⟩,b (by simp [q])⟩
theorem WD_gF (hd:(ops[j]?).bind (·.dst)=some d) (hv:env d=.bool t) (h1:t=false→WD P C ops (⟨dst,op,ty,pos,aft,none⟩ :: os) k rs as K env H) (h2:t=true→WD P C ops os (k + 1) rs as K (env.set dst undef) H) :
  WD P C ops (⟨dst,op,ty,pos,aft,some (j,false)⟩ :: os) k rs as K env H :=
 WD_gX hd hv h1 (fun q=>h2 (by simpa using q)) (by have hy:=yielded_of (ops:=ops) hd hv;show (yieldedA ops env j == some _)=_;rw [hy];cases t <;> rfl) fun K' a b=>WO_gF hd hv a fun q=>⟨_,_,⟨rfl,rfl⟩,b (by simp [q])⟩
end
theorem W_forget {P:Program} {C:CallRel} {nt:Nat} {c:Code} {env:Env} {h:AHeap} {Q:Post} {N:Nat} {X:List Nat} {h0:AHeap} (p:AHeap→Prop) (F:Fr N X h0 h) (hp:p h) (k:∀ h',Fr N X h0 h'→p h'→W P C 0 nt c env h' Q):W P C 0 nt c env h Q:=k h F hp
end Go.Proofs.Swa
set_option linter.unusedVariables false
set_option linter.unusedSimpArgs false
set_option linter.defProp false
namespace Go.Proofs.Swa
open Go
theorem dA {p:Prop} (h:p:=by first|omega|exact eHp_len _|exact eAct_len _|exact eMom_len _|exact sums_len _|exact eRng_len _|exact eSpo_len _|exact eSrt_len _|(simp only [mLenC,mLenN,mLenA,zs_len,eHp_len,eAct_len,eMom_len,sums_len,eRng_len,eSpo_len,eSrt_len,upd_n,jn_n];first|done|omega)|(simp only [List.mem_cons,List.not_mem_nil,or_false,not_or,not_false_eq_true,upd_n,jn_n];first|done|omega)):p:=h
def nzs:=And.intro @ne_eq.{1} (And.intro @not_true_eq_false (And.intro @decide_false (And.intro @decide_true @Bool.false_eq_true)))
theorem hcX {p q:Prop} (h:p) (n:p→False:=by (intro hc;first|exact absurd hc (by decide)|(simp only [hcs] at hc;first|contradiction|(exfalso;omega))|contradiction)):q:=(n h).elim
theorem WO_gU {P:Program} {C:CallRel} {ops:Array Oper} {os:List Oper} {K:Env→AHeap→Prop} {env:Env} {H:AHeap} {dst:Option Tmp} {ty:TypeId} {pos:String} {aft:Array Edge} {op:Op} {j:Nat} {d:Tmp} {b:Bool} (hd:(ops[j]?).bind (·.dst)=some d) (hv:env d=undef) (h:WO P C ops os K (env.set dst undef) H) :
  WO P C ops (⟨dst,op,ty,pos,aft,some (j,b)⟩ :: os) K env H:=by
 rw [WO_guard]
 have:yieldedA ops env j=none:=by
  unfold yieldedA
  rw [hd]
  simp only [hv]
  rfl
 rw [this,if_neg (by simp)]
 exact h
theorem woI {P:Program} {C:CallRel} {ops:Array Oper} {os:List Oper} {K:Env→AHeap→Prop} {env:Env} {H:AHeap} (h:WO P C ops os K env H):WO P C ops os K env H:=h
theorem wdI {P:Program} {C:CallRel} {ops:Array Oper} {os:List Oper} {k:Nat} {rs:List (Nat×Nat)} {as:List (Nat×AHeap×AHeap)} {K:Env→AHeap→Prop} {env:Env} {H:AHeap} (h:WD P C ops os k rs as K env H):WD P C ops os k rs as K env H:=h
theorem oA {p:Prop} (h:p:=by ((try simp only [upd_n,jn_n]);omega)):p:=h
theorem topA {H:AHeap} (h:Top H:=by (repeat' (first|with_reducible assumption|((with_reducible refine Top.jn ?_ ?_);rotate_left;(focus with_reducible assumption))|((with_reducible refine Top.upd ?_ ?_ ?_ ?_);rotate_left;(focus exact oA);(focus exact oA);(focus first|trivial|exact ⟨oA,oA⟩))))):Top H:=h
theorem frA {N:Nat} {X:List Nat} {A B:AHeap} (h:Fr N X A B:=by (repeat' (first|with_reducible exact Fr.refl _|with_reducible assumption|((with_reducible apply Fr.trans) <;> with_reducible assumption)|((with_reducible refine Fr.jn ?_ ?_ ?_);rotate_left;(focus with_reducible assumption);(focus exact oA))|((with_reducible refine Fr.upd ?_ ?_ ?_ ?_ ?_);rotate_left;(focus exact oA);(focus exact oA);(focus first|(left;exact oA)|(right;simp;done));(focus first|trivial|exact ⟨oA,oA⟩))))):Fr N X A B:=h
theorem nxA {p:Prop} (h:p:=by (simp only [List.mem_cons,List.not_mem_nil,or_false,not_or];omega)):p:=h
def qbs:=And.intro qb sp
def qds:=And.intro qd qbs
def qcs:=And.intro qc (And.intro qe (And.intro @stG_agg sp))
theorem obA {p:Prop} (h:p:=by (simp only [oblR,oblA];(repeat' (first|exact trivial|(refine And.intro ?_ ?_)|(right;simp (disch:=first|exact dA|fail) only [qcs,Int.reduceToNat,Nat.reduceAdd,Nat.reduceMul,Nat.reduceEqDiff,reduceIte,reduceCtorEq,Nat.reduceLT];done)|(right;(apply Top.dead2);(focus exact oA);(focus exact oA);(focus exact topA);(focus exact topA);done)|(left;decide))))):p:=h
theorem W_regionE {P:Program} {C:CallRel} {ng nt:Nat} {id:Nat} {l:List Oper} {env:Env} {H:AHeap} {Q:Post} (L:Nat→List Nat) (X:List Nat) (h:∀ K:Env→AHeap→Prop,(∀ e h,(∀ e',(∀ t,t∈L id→e' t=e t)→Q .normal e' h)→K e h)→WO P C ⟨l⟩ l K env H) (hx:id∉X:=by decide):W P C ng nt (.region id ⟨l⟩ false) env H Q:=W_regionF L h
theorem W_drawnE {P:Program} {C:CallRel} {ng nt:Nat} {id:Nat} {l:List Oper} {env:Env} {H:AHeap} {Q:Post} (L:Nat→List Nat) (X:List Nat) (h:∀ K:Env→AHeap→Prop,(∀ e h,(∀ e',(∀ t,t∈L id→e' t=e t)→Q .normal e' h)→K e h)→WD P C ⟨l⟩ l 0 [] [] K env H) (hx:id∉X:=by decide):W P C ng nt (.region id ⟨l⟩ true) env H Q:=W_drawnF L h
end Go.Proofs.Swa
set_option linter.unusedVariables false
set_option linter.unusedSimpArgs false
namespace Go.Proofs.Swa
open Go

theorem W_both {P:Program} {C:CallRel} {ng nt:Nat} {r c:Code} {env:Env} {H:AHeap} {Q:Post} (R:Env→AHeap→Prop) (h1:W P C ng nt r env H (seqK P C ng nt c fun x e h=>x=.normal∧R e h)) (h2:∀ e h,R e h→Q .normal e h) :
  W P C ng nt r env H (seqK P C ng nt c Q):=by
 refine W_mono h1 fun x e h q=>?_
 cases x with
 | normal =>
  refine W_mono q fun x e h q=>?_
  obtain ⟨rfl,q⟩:=q
  exact h2 e h q
 | exit i=>cases q.1
 | ret=>cases q.1

theorem GS.upd_gr' {B:AHeap} {s n g' e:Nat} {l:Bool} {v:Value} {c d:List Value} {T:TypeId} {g:Option Nat} (G:GS B s n v c g) (hne:g≠some g'):GS (B.upd (B.n + 1) B.n (.cells d T (.gr g' e l))) s n v c g:=by
 cases G with
 | nil hn hv hc=>exact .nil hn hv hc
 | full hv hb hg hk hl hc h0=>exact .full hv (Nat.lt_succ_of_lt hb) ((upd_get_ne (by omega)).trans hg) hk hl hc h0
 | gr hv hb hgb hg hl hf =>
  refine .gr hv (Nat.lt_succ_of_lt hb) hgb ((upd_get_ne (by omega)).trans hg) hl ?_
  intro b' c' T' e' l' hb'
  by_cases e1:b'=B.n
  ·subst e1
   rw [upd_get_same] at hb'
   cases hb'
   exact absurd rfl hne
  ·rw [upd_get_ne e1] at hb'
   exact hf _ _ _ _ _ hb'
structure App (H G:AHeap) (g g':Option Nat) (m:Nat):Prop where
 n:H.n≤G.n
 top:Top G
 fr:∀ N,N≤H.n→(∀ x,g=some x→N≤x)→Fr N [] H G
 old:∀ b,b < H.n→G.get b=H.get b
 grp:(m=0∧g'=g)∨(0 < m∧g'=some (g.getD H.n))
 keep:∀ {s n:Nat} {v:Value} {c:List Value} {g2:Option Nat},GS H s n v c g2→g2≠some (g.getD H.n)→GS G s n v c g2
theorem oB_app {P:Program} {ts:Array TypeId} {H:AHeap} {s n m e:Nat} {v x:Value} {c new:List Value} {g:Option Nat} {K:Value→AHeap→Prop} (ht:Top H) (G:GS H s n v c g) (S:SR H s m x new)
  (h1:0 < m→appendOp P ts [v,x] H=some (.slice (some ⟨H.n,0,none⟩) (n + m) (n + m),H.upd (H.n + 1) H.n (.cells (c ++ new) e (.gr (g.getD H.n) s true)))) (h0:m=0→appendOp P ts [v,x] H=some (v,H))
  (k:∀ v' G' g',App H G' g g' m→GS G' s (n + m) v' (c ++ new) g'→(v'=v∨H.n≤vblk v')→K v' G'):oB (appendOp P ts [v,x] H) K:=by
 by_cases hm:m=0
 ·rw [h0 hm]
  have hnew:new=[]:=by have:=S.len;subst hm;simpa using this
  subst hm hnew
  exact k v H g ⟨Nat.le_refl _,ht,fun N _ _=>Fr.refl _,fun _ _=>rfl,.inl ⟨rfl,rfl⟩,fun G2 _=>G2⟩ (by rw [List.append_nil];exact G) (.inl rfl)
 ·rw [h1 (by omega)]
  have GG:=GS.pushed (e:=e) ht G S.len
  have hf:∀ N,N≤H.n→(∀ x,g=some x→N≤x)→Fr N [] H (H.upd (H.n + 1) H.n (.cells (c ++ new) e (.gr (g.getD H.n) s true))):=fun N hN hg=>(Fr.refl H).upd (Nat.le_succ _) (Nat.lt_succ_self _) (.inl (Nat.le_refl _)) (G.grpOk hN hg)
  exact k _ _ _ ⟨Nat.le_succ _,(hf 0 (Nat.zero_le _) fun _ _=>Nat.zero_le _).top ht,hf,fun b hb=>upd_get_ne (by omega),.inr ⟨by omega,rfl⟩,fun G2 hne=>G2.upd_gr' hne⟩ GG (.inr (Nat.le_refl _))

section
variable {P:Program} {t:TypeId}
theorem findM_s2 (heq:∀ a b c d:Int,pr P (Op.equal t (k2 a b) (k2 c d))=some (decide (a=c∧b=d))) (a b:Int):∀ (l:List Ent2) (i:Nat),findM P t (k2 a b) (entK l) i=some (findE a b l i)
 | [],i=>rfl
 | x :: l,i=>by
  show findM P t (k2 a b) ((k2 x.1.1 x.1.2,.int .i64 x.2) :: entK l) i=_
  rw [findM,heq,findE]
  by_cases c:a=x.1.1∧b=x.1.2
  ·rw [decide_eq_true c,if_pos c]
  ·rw [decide_eq_false c,if_neg c]
   exact findM_s2 heq a b l (i + 1)
theorem mapUpdate_s2 {mt v:TypeId} (hm:P.underlying mt=some (.map t v)) (hk:∀ a b:Int,keyOk P t (k2 a b)=true) (heq:∀ a b c d:Int,pr P (Op.equal t (k2 a b) (k2 c d))=some (decide (a=c∧b=d))) {a b d:Int} {l:List Ent2} {r:Nat} {H:AHeap}
  (hg:H.get r=.map (entK l)) (hn:findE a b l 0=none):mapUpdateA P mt (.map (some r)) (k2 a b) (.int .i64 d) H=some (H.put r (.map (entK (l ++ [((a,b),d)])))):=by
 unfold mapUpdateA
 rw [hm]
 dsimp only
 rw [if_pos (hk a b),hg]
 dsimp only
 rw [findM_s2 heq,hn]
 simp [entK]
theorem lookup_s2 {mt v:TypeId} (hm:P.underlying mt=some (.map t v)) (hk:∀ a b:Int,keyOk P t (k2 a b)=true) (heq:∀ a b c d:Int,pr P (Op.equal t (k2 a b) (k2 c d))=some (decide (a=c∧b=d))) (hz:tyZero P v=some (.int .i64 0)) {a b:Int} {l:List Ent2} {r:Nat} {H:AHeap}
  (hg:H.get r=.map (entK l)):lookupA P mt (.map (some r)) (k2 a b) true H=some (match findE a b l 0 with|some (_,u)=>.tuple #[u,.bool true]|none=>.tuple #[.int .i64 0,.bool false]):=by
 unfold lookupA
 rw [hm]
 dsimp only
 rw [if_pos (hk a b),hz]
 unfold entsA
 dsimp only
 rw [hg]
 dsimp only
 rw [if_pos (show dflat (.int .i64 0)=true from rfl),findM_s2 heq]
 cases findE a b l 0 <;> rfl
end
def kp (H:AHeap) (g b:Nat) (o:AObj):AHeap:=(H.kill g b).put b o
theorem stG_gr {H:AHeap} {b o s:Nat} {x:Value} {c:List Value} {T:TypeId} {g e:Nat} (hx:notTup x=true) (hs:x.cells.size=s) (ho:o + s≤c.length) :
  stG H b o s x (.cells c T (.gr g e true))=some (kp H g b (.cells (splice c o x.cells.toList) T (.gr g e true))):=by
 unfold stG
 dsimp only
 rw [if_pos ⟨hx,hs,ho,rfl⟩]
 rfl
section
variable {H:AHeap} {g b c:Nat} {o:AObj}
theorem kp_same:(kp H g b o).get b=o:=by
 show (if b=b then o else _)=o
 rw [if_pos rfl]
theorem kp_get (h:c≠b):(kp H g b o).get c=if c < g then H.get c else (H.get c).killed g:=by
 show (if c=b then o else (H.kill g b).get c)=_
 rw [if_neg h]
 show (if c=b then H.get c else if c < g then H.get c else (H.get c).killed g)=_
 rw [if_neg h]
theorem killed_not {x:AObj} (h:∀ d T e l,x≠.cells d T (.gr g e l)):x.killed g=x:=by
 unfold AObj.killed
 split
 ·rename_i d T g' e l
  split
  ·rename_i q
   subst q
   exact absurd rfl (h _ _ _ _)
  ·rfl
 ·rfl
theorem kp_not (h:c≠b) (hc:∀ d T e l,H.get c≠.cells d T (.gr g e l)):(kp H g b o).get c=H.get c:=by
 rw [kp_get h]
 split
 ·rfl
 ·exact killed_not hc
end
theorem WD_gU {P:Program} {C:CallRel} {ops:Array Oper} {os:List Oper} {k:Nat} {rs:List (Nat×Nat)} {as:List (Nat×AHeap×AHeap)} {K:Env→AHeap→Prop} {env:Env} {H:AHeap} {dst:Option Tmp} {ty:TypeId} {pos:String} {aft:Array Edge} {op:Op} {j:Nat} {d:Tmp} {b:Bool} (hd:(ops[j]?).bind (·.dst)=some d) (hv:env d=undef) (h:WD P C ops os (k + 1) rs as K (env.set dst undef) H) :
  WD P C ops (⟨dst,op,ty,pos,aft,some (j,b)⟩ :: os) k rs as K env H:=by
 have hy:yieldedA ops env j=none:=by
  unfold yieldedA
  rw [hd]
  simp only [hv]
  rfl
 have hw:Region.wanted ⟨dst,op,ty,pos,aft,some (j,b)⟩ (yieldedA ops env)=false:=by
  show (yieldedA ops env j == some _)=_
  rw [hy]
  rfl
 have one:∀ K':Env→AHeap→Prop,K' (env.set dst undef) H→WO P C ops [⟨dst,op,ty,pos,aft,some (j,b)⟩] K' env H:=fun K' q=>WO_gU hd hv ⟨_,_,⟨rfl,rfl⟩,q⟩
 unfold WD
 by_cases hs:simpleOp op=true
 ·rw [if_pos hs]
  have ht:tch ops env H ⟨dst,op,ty,pos,aft,some (j,b)⟩=none:=by
   unfold tch
   rw [hw,if_neg (by simp)]
  rw [ht]
  exact ⟨trivial,one _ h⟩
 ·rw [if_neg hs]
  refine one _ ⟨oblR_refl rs, ?_⟩
  refine WD_harm os (fun a hx=>?_) h
  rcases List.mem_cons.1 hx with rfl|hx
  ·exact .inr fun _=>rfl
  ·exact .inl hx
theorem pr_equal_array {P:Program} {d len n:Nat} {t e:TypeId} {xs ys:Array Value} (hu:P.underlying t=some (.array len e)) (hs:tySize P e=some n) :
  pr P (Op.equalIn (d + 1) t (.agg xs) (.agg ys))=eqPs P d xs ys ((List.range' 0 len).map fun i=>(e,i * n)):=by
 have hsz:pr P (sizeOf e)=some n:=by
  unfold tySize at hs
  unfold Go.sizeOf typeInfo
  cases hi:P.info? e with
  | none=>rw [hi] at hs;cases hs
  | some i =>
   rw [hi] at hs
   simp only [Option.map_some,Option.some.injEq] at hs
   simp [pr_bind',pr_program,hi,hs]
 simp only [Op.equalIn,pr_bind',underlying,pr_program,Option.bind_some,hu,pr_pure,hsz,Std.Legacy.Range.forIn_eq_forIn_range',Std.Legacy.Range.size,Nat.sub_zero,Nat.add_sub_cancel,Nat.div_one]
 generalize List.range' 0 len=l
 clear hu
 induction l with
 | nil=>simp [eqPs]
 | cons f l ih =>
  simp only [List.forIn_cons,pr_bind',pr_ite,List.map_cons,eqPs]
  cases pr P (part e xs (f * n)) with
  | none=>rfl
  | some a =>
   simp only [Option.bind_some]
   cases pr P (part e ys (f * n)) with
   | none=>rfl
   | some b =>
    simp only [Option.bind_some]
    cases pr P (Op.equalIn d e a b) with
    | none=>rfl
    | some r =>
     cases r with
     | false=>simp [pr_ite]
     | true =>
      simp only [Option.bind_some,Bool.not_true,Bool.false_eq_true,if_false,if_true,pr_ite,pr_pure]
      simpa [pr_bind'] using ih
def eqRun (X Y:List Bool):Nat→Nat→Bool
 | _,0=>true
 | s,k + 1=>decide (X.getD s false=Y.getD s false) && eqRun X Y (s + 1) k
theorem eqRun_iff {X Y:List Bool}:∀ {k s:Nat},eqRun X Y s k=true↔∀ i,s≤i→i < s + k→X.getD i false=Y.getD i false
 | 0,s=>⟨fun _ i h1 h2=>by omega,fun _=>rfl⟩
 | k + 1,s=>by
  unfold eqRun
  rw [Bool.and_eq_true,decide_eq_true_iff,eqRun_iff]
  constructor
  ·rintro ⟨h1,h2⟩ i h3 h4
   by_cases e:i=s
   ·subst e;exact h1
   ·exact h2 i (by omega) (by omega)
  ·exact fun h=>⟨h s (Nat.le_refl _) (by omega),fun i h3 h4=>h i (by omega) (by omega)⟩
theorem eqPs_row {P:Program} {d:Nat} {t:TypeId} {X Y:List Bool} (ha:tyAgg P t=some false) (hu:P.underlying t=some .bool) (hx:X.length=Y.length):∀ (k s:Nat),s + k≤X.length→eqPs P (d + 1) ⟨X.map .bool⟩ ⟨Y.map .bool⟩ ((List.range' s k).map fun i=>(t,i * 1))=some (eqRun X Y s k)
 | 0,s,h=>rfl
 | k + 1,s,h=>by
  have g:∀ Z:List Bool,s < Z.length→(⟨Z.map Value.bool⟩:Array Value)[s * 1]? = some (.bool (Z.getD s false)):=by
   intro Z hz
   rw [Nat.mul_one]
   show (Z.map Value.bool).toArray[s]? = _
   rw [List.getElem?_toArray,List.getElem?_map,List.getElem?_eq_getElem hz,List.getD_eq_getElem?_getD,List.getElem?_eq_getElem hz]
   rfl
  rw [List.range'_succ,List.map_cons,eqPs_bool ha hu (g X (by omega)) (g Y (by omega)),eqPs_row ha hu hx k (s + 1) (by omega)]
  show _=some (decide (X.getD s false=Y.getD s false) && eqRun X Y (s + 1) k)
  by_cases e:X.getD s false=Y.getD s false
  ·rw [if_pos e,decide_eq_true e,Bool.true_and]
  ·rw [if_neg e,decide_eq_false e,Bool.false_and]
theorem ext_map {X:List Bool} {a b:Nat}:(⟨X.map Value.bool⟩:Array Value).extract a b=⟨((X.drop a).take (b - a)).map .bool⟩:=by
 apply Array.ext'
 simp [List.map_take,List.map_drop]
def eqRows (X Y:List Bool) (m:Nat):Nat→Nat→Bool
 | _,0=>true
 | s,k + 1=>eqRun ((X.drop (s * m)).take m) ((Y.drop (s * m)).take m) 0 m && eqRows X Y m (s + 1) k
theorem eqPs_rows {P:Program} {d m:Nat} {t e:TypeId} {X Y:List Bool} (ha:tyAgg P t=some true) (hs:tySize P t=some m) (hu:P.underlying t=some (.array m e)) (ha2:tyAgg P e=some false) (hs2:tySize P e=some 1) (hu2:P.underlying e=some .bool) (hx:X.length=Y.length) :
  ∀ (k s:Nat),s * m + k * m≤X.length→eqPs P (d + 2) ⟨X.map .bool⟩ ⟨Y.map .bool⟩ ((List.range' s k).map fun i=>(t,i * m))=some (eqRows X Y m s k)
 | 0,s,h=>rfl
 | k + 1,s,h=>by
  have hk:(k + 1) * m=k * m + m:=Nat.succ_mul ..
  rw [List.range'_succ,List.map_cons]
  simp only [eqPs,pr_partN ha hs,Option.bind_some,ext_map,Nat.add_sub_cancel_left]
  rw [pr_equal_array hu hs2,eqPs_row ha2 hu2 (by simp [hx]) m 0 (by simp;omega),Option.bind_some,eqPs_rows ha hs hu ha2 hs2 hu2 hx k (s + 1) (by rw [Nat.succ_mul];omega)]
  show _=some (_ && _)
  by_cases e:eqRun ((X.drop (s * m)).take m) ((Y.drop (s * m)).take m) 0 m=true
  ·rw [if_pos e,e,Bool.true_and]
  ·rw [if_neg e]
   have e:=Bool.eq_false_iff.2 e
   rw [e,Bool.false_and]
theorem eqRows_iff {X Y:List Bool} {m:Nat}:∀ {k s:Nat},eqRows X Y m s k=true↔∀ i j,s≤i→i < s + k→j < m→X.getD (i * m + j) false=Y.getD (i * m + j) false
 | 0,s=>⟨fun _ i j h1 h2=>by omega,fun _=>rfl⟩
 | k + 1,s=>by
  have g:∀ (Z:List Bool) (j:Nat),j < m→((Z.drop (s * m)).take m).getD j false=Z.getD (s * m + j) false:=by
   intro Z j hj
   rw [List.getD_eq_getElem?_getD,List.getElem?_take,if_pos hj,List.getElem?_drop,List.getD_eq_getElem?_getD]
  unfold eqRows
  rw [Bool.and_eq_true,eqRun_iff,eqRows_iff]
  constructor
  ·rintro ⟨h1,h2⟩ i j h3 h4 h5
   by_cases e:i=s
   ·subst e
    have:=h1 j (Nat.zero_le _) (by omega)
    rwa [g X j h5,g Y j h5] at this
   ·exact h2 i j (by omega) (by omega) h5
  ·refine fun h=>⟨fun j _ hj=>?_,fun i j h3 h4 h5=>h i j (by omega) (by omega) h5⟩
   have hj:j < m:=by omega
   rw [g X j hj,g Y j hj]
   exact h s j (Nat.le_refl _) (by omega) hj
theorem bop_eqlT {P:Program} {k m:Nat} {T t e:TypeId} {x y:Operand} {X Y:List Bool} (hT:P.underlying T=some (.array k t)) (ha:tyAgg P t=some true) (hs:tySize P t=some m) (hu:P.underlying t=some (.array m e)) (ha2:tyAgg P e=some false) (hs2:tySize P e=some 1) (hu2:P.underlying e=some .bool)
  (hg:P.eqGuardType P.depth T=false) (hx:X.length=k * m) (hy:Y.length=k * m):bopA P .eql T x y (.agg ⟨X.map .bool⟩) (.agg ⟨Y.map .bool⟩)=some (.bool (eqRows X Y m 0 k)):=by
 have h1:pr P (Op.equal T (.agg ⟨X.map .bool⟩) (.agg ⟨Y.map .bool⟩))=some (eqRows X Y m 0 k):=by
  show pr P (Op.equalIn (9999 + 1) T _ _)=_
  rw [pr_equal_array hT hs]
  exact eqPs_rows (d:=9997) ha hs hu ha2 hs2 hu2 (by omega) k 0 (by omega)
 have fl:∀ Z:List Bool,dflat (.agg ⟨Z.map .bool⟩)=true:=by
  intro Z
  simp only [dflat]
  rw [Array.all_eq_true]
  intro i hi
  simp [flat]
 unfold bopA
 rw [if_pos ⟨fl X,fl Y⟩]
 simp [eqGuard,binOp,pr_bind',pr_program,hg,h1,keep,dflat,flat,pr_ite,pr_map']
section
variable {P:Program} {t:TypeId}
theorem lookup0_s2 {mt v:TypeId} (hm:P.underlying mt=some (.map t v)) (hk:∀ a b:Int,keyOk P t (k2 a b)=true) (heq:∀ a b c d:Int,pr P (Op.equal t (k2 a b) (k2 c d))=some (decide (a=c∧b=d))) (hz:tyZero P v=some (.int .i64 0)) {a b:Int} {l:List Ent2} {r:Nat} {H:AHeap}
  (hg:H.get r=.map (entK l)):lookupA P mt (.map (some r)) (k2 a b) false H=some (match findE a b l 0 with|some (_,u)=>u|none=>.int .i64 0):=by
 unfold lookupA
 rw [hm]
 dsimp only
 rw [if_pos (hk a b),hz]
 unfold entsA
 dsimp only
 rw [hg]
 dsimp only
 rw [if_pos (show dflat (.int .i64 0)=true from rfl),findM_s2 heq]
 cases findE a b l 0 <;> rfl
end
theorem nextIn {s:ByteArray} {p b:Nat} {H:AHeap} (h:H.get b=.iter s p) (hp:p < s.size):nextA (vptr b 0) H=some (.tuple #[.bool true,.int .i64 p,.int .i32 (Utf8.decode s p).1],H.upd H.n b (.iter s (p + (Utf8.decode s p).2))):=by
 unfold nextA vptr
 simp only [h]
 rw [if_pos hp]
 rfl
theorem nextOut {s:ByteArray} {p b:Nat} {H:AHeap} (h:H.get b=.iter s p) (hp:¬ p < s.size):nextA (vptr b 0) H=some (.tuple #[.bool false],H):=by
 unfold nextA vptr
 simp only [h]
 rw [if_neg hp]
theorem dec_pos (s:ByteArray) (p:Nat):1≤(Utf8.decode s p).2:=by
 unfold Utf8.decode
 dsimp only
 repeat' split
 all_goals exact Nat.le_of_ble_eq_true rfl
theorem bop_str {P:Program} {t:TypeId} {x y:Operand} {p q:ByteArray}:bopA P .eql t x y (.string p) (.string q)=some (.bool (decide (p=q))):=by rw [bop_eqlS',eqS_eq]
theorem GS.fr' {N:Nat} {X:List Nat} {A B:AHeap} (hF:Fr N X A B) {s n:Nat} {v:Value} {c:List Value} {g:Option Nat} (h:GS A s n v c g) (hg:∀ x,g=some x→x < N) (hx:v=.slice none 0 0∨vblk v∉X):GS B s n v c g:=by
 rcases hx with rfl|hx
 ·cases h with
  | nil hn hv hc=>exact .nil hn hv hc
  | full hv=>cases hv
  | gr hv=>cases hv
 ·exact h.fr hF hg hx
theorem SR.cast {H:AHeap} {s m k:Nat} {v:Value} {c:List Value} (h:SR H s m v c) (e:m=k):SR H s k v c:=e ▸ h
theorem SR.offR {H:AHeap} {s n:Nat} {v:Value} {c:List Value} {b:Nat} {u:Value} {T:TypeId} (h:SR H s n v c) (hg:H.get b=.cells [u] T .ex) (hs:2≤s):n=0∨vblk v∉[b]:=by
 by_cases hn:n=0
 ·exact .inl hn
 ·right
  intro hm
  have hm:vblk v=b:=List.mem_singleton.1 hm
  rcases h.cells with q|⟨d,h1,h2,_⟩
  ·exact hn q
  ·rw [hm,rd_def,hg] at h1
   cases h1
   have:voff v + n * s≤1:=h2
   have:1 * 2≤n * s:=Nat.mul_le_mul (by omega) hs
   omega
end Go.Proofs.Swa
