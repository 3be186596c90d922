/- Part 8. -/
import Derived.Test.YtkjcijlaehflhaaP07
set_option linter.unusedVariables false
set_option linter.unusedSimpArgs false
namespace Go.Proofs.Swa
open Go
theorem A0t {cap:Int→Bool}:∀ (k:Nat)(n:Int),(Pr cap k n).length≤k
 | 0,_=>Nat.le_refl _
 | k+1,n=>by
  rw[Pr]
  split
  ·rw[List.length_cons];exact Nat.succ_le_succ (A0t k (n+1))
  ·exact Nat.zero_le _
theorem Xy {α β:Type}{f:α→List β}{b:Nat}(h:∀ x,(f x).length≤b):∀ l:List α,(l.flatMap f).length≤l.length*b
 | []=>by simp
 | x :: l=>by
  have:=Xy h l
  have:=h x
  rw[List.flatMap_cons,List.length_append,List.length_cons,Nat.succ_mul]
  omega
theorem A6e {g:Cv}(h3:∀ k,k<g.Acts.length→(g.Acts.getD k default).Max≤(g.Acts.getD k default).Min+3):∀ (k:Nat)(l:List Int),l.length+k=g.Acts.length→(trS g k l).length≤4 ^ k
 | 0,l,_=>by simp[trS]
 | k+1,l,hl=>by
  have c:(Sk g l).length≤4:=by
   have:=A0t (cap:=Rd g l) ((g.Acts.getD l.length default).Max-(g.Acts.getD l.length default).Min+1).toNat (g.Acts.getD l.length default).Min
   have:=h3 l.length (by omega)
   unfold Sk
   omega
  have q:((Sk g l).flatMap fun n=>trS g k (l ++ [n])).length≤(Sk g l).length*4 ^ k:=Xy (fun n=>A6e h3 k (l ++ [n]) (by rw[List.length_append,List.length_singleton];omega)) _
  have m:=Nat.mul_le_mul_right (4 ^ k) c
  rw[trS,Nat.pow_succ]
  omega
theorem A99 {g:Cv}(ok:Ok g)(h3:∀ k,k<g.Acts.length→(g.Acts.getD k default).Max≤(g.Acts.getD k default).Min+3):(J8 g).length≤1048576:=by
 have:=A6e h3 g.Acts.length [] (by simp)
 have h10:=ok.acts
 have m:4 ^ g.Acts.length≤4 ^ 10:=Nat.pow_le_pow_right (by omega) h10
 have e:(4:Nat) ^ 10=1048576:=by decide
 unfold J8
 omega
section
variable {α:Type}
def mmF (f:α→Int)(l:List α)(a:Int×Int):Int×Int:=l.foldl (fun p t=>(min p.1 (f t),max p.2 (f t))) a
theorem B0a {f:α→Int}{lo hi:Int}:∀ (l:List α)(a:Int×Int),(∀ t,t∈l→lo≤f t∧f t≤hi)→lo≤a.1→a.2≤hi→(a.1=lo∨∃ t,t∈l∧f t=lo)→(a.2=hi∨∃ t,t∈l∧f t=hi)→mmF f l a=(lo,hi)
 | [],a,_,_,_,h3,h4=>by
  have e1:=h3.resolve_right (fun ⟨_,q,_⟩=>by cases q)
  have e2:=h4.resolve_right (fun ⟨_,q,_⟩=>by cases q)
  show a=_
  rw[← e1,← e2]
 | t :: l,a,h,h1,h2,h3,h4=>by
  have ht:=h t (List.mem_cons_self ..)
  refine B0a l (min a.1 (f t),max a.2 (f t)) (fun x hx=>h x (List.mem_cons_of_mem _ hx)) (by dsimp only;omega) (by dsimp only;omega) ?_ ?_
  ·dsimp only
   rcases h3 with q|⟨x,hx,q⟩
   ·left;omega
   ·rcases List.mem_cons.1 hx with rfl|hx
    ·left;omega
    ·exact .inr ⟨x,hx,q⟩
  ·dsimp only
   rcases h4 with q|⟨x,hx,q⟩
   ·left;omega
   ·rcases List.mem_cons.1 hx with rfl|hx
    ·left;omega
    ·exact .inr ⟨x,hx,q⟩
def Qn (f:α→Int)(l:List α)(s:Int):Int:=l.foldl (fun s t=>if 0≤f t∧(s<0∨f t<s) then f t else s) s
theorem A3J {f:α→Int}{m:Int}(hm:-1≤m):∀ (l:List α)(s:Int),(∀ t,t∈l→f t<0∨(0≤m∧m≤f t))→(s = -1∨(0≤m∧m≤s))→(s=m∨∃ t,t∈l∧0≤m∧f t=m)→Qn f l s=m
 | [],s,_,_,h3=>h3.resolve_right (fun ⟨_,q,_⟩=>by cases q)
 | t :: l,s,h,h2,h3=>by
  have ht:=h t (List.mem_cons_self ..)
  refine A3J hm l _ (fun x hx=>h x (List.mem_cons_of_mem _ hx)) ?_ ?_
  ·dsimp only
   split <;> omega
  ·dsimp only
   rcases h3 with q|⟨x,hx,q0,q⟩
   ·left
    split <;> omega
   ·rcases List.mem_cons.1 hx with rfl|hx
    ·left
     split <;> omega
    ·exact .inr ⟨x,hx,q0,q⟩
def A3K (f:α→Int)(l:List α)(s:Int):Int:=l.foldl (fun s t=>max s (f t)) s
theorem A6f {f:α→Int}{n:Int}:∀ (l:List α)(s:Int),(∀ t,t∈l→f t≤n)→s≤n→(s=n∨∃ t,t∈l∧f t=n)→A3K f l s=n
 | [],s,_,_,h3=>h3.resolve_right (fun ⟨_,q,_⟩=>by cases q)
 | t :: l,s,h,h2,h3=>by
  have ht:=h t (List.mem_cons_self ..)
  refine A6f l _ (fun x hx=>h x (List.mem_cons_of_mem _ hx)) (by dsimp only;omega) ?_
  dsimp only
  rcases h3 with q|⟨x,hx,q⟩
  ·left;omega
  ·rcases List.mem_cons.1 hx with rfl|hx
   ·left;omega
   ·exact .inr ⟨x,hx,q⟩
def Y0 (f:α→Int)(l:List α):Bool:=l.any fun t=>decide (f t<0)
def Qh (p:α→Bool)(l:List α):Nat:=(l.filter p).length
theorem B0b {p:α→Bool}{l:List α}(h:∀ t,t∈l→p t=true):Qh p l=l.length:=by
 unfold Qh
 rw[List.filter_eq_self.2 h]
theorem A7Q {p:α→Bool}{l:List α}(h:∀ t,t∈l→p t=false):Qh p l=0:=by
 unfold Qh
 rw[List.filter_eq_nil_iff.2 (fun t ht=>by rw[h t ht];simp)]
 rfl
theorem A6g {p:α→Bool}{l:List α}:Qh p l≤l.length:=List.length_filter_le ..
theorem B0c {p:α→Bool}{l:List α}{t:α}(h:t∈l)(hp:p t=true):0<Qh p l:=List.length_pos_of_mem (List.mem_filter.2 ⟨h,hp⟩)
theorem B2h {p:α→Bool}{l:List α}{t:α}(h:t∈l)(hp:p t=false):Qh p l<l.length:=by
 refine Nat.lt_of_le_of_ne A6g fun e=>?_
 have:=List.length_filter_eq_length_iff.1 e t h
 rw[hp]at this
 cases this
end
structure B2i (g:Cv)(hour age:Int)(i:Nat):Prop where
 ms:(masses g hour).2=0
 len:(masses g hour).1.length=g.Spots.length
 mm:∀ j:Nat,j<g.Spots.length→mmF (fun t=>(Ct g t g.Acts.length hour).mass g j) (J8 g) (1073741824,-1)=(((masses g hour).1.getD j default).Min,((masses g hour).1.getD j default).Max)
 oe:(older g i hour age).2=0
 ov:(older g i hour age).1=if Qh (fun t=>Gg g (Ct g t g.Acts.length hour) i hour age (Ct g t g.Acts.length hour).left.length) (J8 g)=0 then 2 else if Qh (fun t=>Gg g (Ct g t g.Acts.length hour) i hour age (Ct g t g.Acts.length hour).left.length) (J8 g)=(J8 g).length then 1 else 3
 be:(breaks g).2.2=0
 bs:Qn (first g) (J8 g) (-1)=(breaks g).1
 bl:(if Y0 (first g) (J8 g)=true then -1 else A3K (first g) (J8 g) (-1))=(breaks g).2.1
theorem Kn.said {g:Cv}(h:Kn g){hour age:Int}(h1:0≤hour)(h2:hour≤72)(h3:0≤age)(h4:age≤72){i:Nat}(hi:i<g.Spots.length):B2i g hour age i:=by
 obtain⟨t0,T0⟩:=h.some
 have mem:∀ t,t∈J8 g↔Da g t:=fun t=>So h.ok h.ck
 have m0:=(mem t0).2 T0
 obtain⟨e1,e2,_⟩:=h.gd.masses h1 h2
 obtain⟨b0,b1,b2,b3⟩:=h.hours
 obtain⟨p,q,eb,P,Q⟩:=h.gd.breaks
 have gp:=P.ge
 have gq:=Q.ge
 have brk:∀ t,t∈J8 g→(first g t<0∨(0≤(breaks g).1∧(breaks g).1≤first g t))∧((breaks g).2.1<0∨(0≤first g t∧first g t≤(breaks g).2.1)):=fun t ht=>((mem t).1 ht).breaksT.2
 refine⟨e1,e2,fun j hj=>?_,(T0.old h1 h2 h3 h4 hi).e, ?_,b0, ?_, ?_⟩
 ·obtain⟨⟨ta,Ta,ea⟩,tb,Tb',eb'⟩:=h.ends h1 h2 hj
  have O:=fun t (ht:t∈J8 g)=>((mem t).1 ht).old h1 h2 (age:=0) (Int.le_refl _) (by omega) hj
  have bd:=T0.old h1 h2 (age:=0) (Int.le_refl _) (by omega) hj
  have mb:∀ t,Da g t→0≤(Ct g t g.Acts.length hour).mass g j∧(Ct g t g.Acts.length hour).mass g j≤10000000:=fun t T=>by
   have hul:=E4 hour g.Acts
   rw[h.tm T]
   have a:=T.le j _ hul
   have b:=Hq T.few j _ hul
   have:=T.ok.acts
   omega
  have ma:=mb ta Ta
  have mb':=mb tb Tb'
  refine B0a (J8 g) (1073741824,-1) (fun t ht=>⟨(O t ht).lo,(O t ht).hi⟩) ?_ ?_ (.inr ⟨tb,(mem tb).2 Tb',eb'⟩) (.inr ⟨ta,(mem ta).2 Ta,ea⟩)
  ·show _≤(1073741824:Int);rw[← eb'];omega
  ·show (-1:Int)≤_;rw[← ea];omega
 ·have V:=T0.old h1 h2 h3 h4 hi
  have F:∀ t,t∈J8 g→A3F (older g i hour age).1 (Gg g (Ct g t g.Acts.length hour) i hour age (Ct g t g.Acts.length hour).left.length)=true:=fun t ht=>(((mem t).1 ht).old h1 h2 h3 h4 hi).fits
  rcases V.v with v|v|v
  ·have all:∀ t,t∈J8 g→Gg g (Ct g t g.Acts.length hour) i hour age (Ct g t g.Acts.length hour).left.length=true:=fun t ht=>by
    have:=F t ht
    rw[v]at this
    simpa [A3F] using this
   rw[v,B0b all,if_neg (by have:=List.length_pos_of_mem m0;omega),if_pos rfl]
  ·have none:∀ t,t∈J8 g→Gg g (Ct g t g.Acts.length hour) i hour age (Ct g t g.Acts.length hour).left.length=false:=fun t ht=>by
    have:=F t ht
    rw[v]at this
    simpa [A3F] using this
   rw[v,A7Q none,if_pos rfl]
  ·obtain⟨⟨ta,Ta,ea⟩,tb,Tb',eb'⟩:=h.unsure h1 h2 h3 h4 hi v
   have c1:=B0c (p:=fun t=>Gg g (Ct g t g.Acts.length hour) i hour age (Ct g t g.Acts.length hour).left.length) ((mem ta).2 Ta) ea
   have c2:=B2h (p:=fun t=>Gg g (Ct g t g.Acts.length hour) i hour age (Ct g t g.Acts.length hour).left.length) ((mem tb).2 Tb') eb'
   rw[v,if_neg (by omega),if_neg (by omega)]
 ·have gp':-1≤(breaks g).1:=by rw[eb];exact gp.1
  refine A3J gp' (J8 g) (-1) (fun t ht=>(brk t ht).1) (.inl rfl) ?_
  by_cases c:0≤(breaks g).1
  ·obtain⟨t,T,e⟩:=b1 c
   exact .inr ⟨t,(mem t).2 T,c,e⟩
  ·left;omega
 ·have gq':-1≤(breaks g).2.1:=by rw[eb];exact gq.1
  by_cases c:0≤(breaks g).2.1
  ·have nv:Y0 (first g) (J8 g)=false:=by
    unfold Y0
    rw[List.any_eq_false]
    intro t ht
    have:=(brk t ht).2
    rw[decide_eq_true_eq]
    omega
   obtain⟨t,T,e⟩:=b2 c
   rw[nv,if_neg Bool.false_ne_true]
   exact A6f (J8 g) (-1) (fun t ht=>by have:=(brk t ht).2;omega) gq' (.inr ⟨t,(mem t).2 T,e⟩)
  ·obtain⟨t,T,e⟩:=b3 (by omega)
   have nv:Y0 (first g) (J8 g)=true:=List.any_eq_true.2 ⟨t,(mem t).2 T,decide_eq_true e⟩
   rw[if_pos nv]
   omega
theorem A7R {g:Cv}(ok:Ok g)(ck:check g=0)(hk:(known g).2≠0):J8 g=[]:=by
 refine List.eq_nil_iff_forall_not_mem.2 fun t ht=>hk ((So ok ck).1 ht).known.1
theorem Kn.ne {g:Cv}(h:Kn g):0<(J8 g).length:=by
 obtain⟨t,T⟩:=h.some
 exact List.length_pos_of_mem ((So h.ok h.ck).2 T)
def SK (H:Aa)(s:Nat)(v:Value):Prop:=∃ d T k,H.get (C4 v)=.cells d T k∧∀ g e l,k=.gr g e l→e=s
theorem SK.fr {N:Nat}{X:List Nat}{A B:Aa}(hF:Fr N X A B){s:Nat}{v:Value}(h:SK A s v)(hb:C4 v<A.n)(hx:C4 v∉X):SK B s v:=by
 obtain⟨d,T,k,h1,h2⟩:=h
 exact⟨d,T,k,(hF.old _ hb hx).trans h1,h2⟩
theorem GS.sk {H:Aa}{s n:Nat}{v:Value}{c:List Value}{g:Option Nat}(h:GS H s n v c g):n=0∨SK H s v:=by
 cases h with
 | nil hn hv hc=>exact .inl hn
 | full hv hb hg hk hl hc h0 =>
  subst hv
  refine .inr ⟨_,_,_,hg,fun g e l hkk=>?_⟩
  rcases hk with rfl|rfl <;> cases hkk
 | gr hv hb hgb hg hl hf =>
  subst hv
  exact .inr ⟨_,_,_,hg,fun g e l hkk=>by cases hkk;rfl⟩
def sl (v:Value)(j:Nat):Value:=match v with|.slice (some a) _ k=>.slice (some a) j k|_=>.slice none 0 0
theorem A0u {P:Program}{t e:TypeId}{s:Nat}(hu:P.underlying t=some (.slice e))(hs:Bv P e=some s){H:Aa}{v:Value}{c:List Value}{n j:Nat}{q:IntKind}(S:SR H s n v c)(K:SK H s v)(hj:j≤n)(hn:0<n) :
  Jl P H t v none (some (.int q j)) none=some (sl v j)∧SR H s j (sl v j) (c.take (j*s)):=by
 rcases S.shape with⟨_,rfl⟩|⟨b,o,k,rfl,hk⟩
 ·omega
 ·obtain⟨d,T,kd,g1,g2⟩:=K
  have g1:H.get b=.cells d T kd:=g1
  have hb:M9 n k none (some (.int q j)) none=some (0,j,k):=by
   unfold M9 Tc A6B
   simp only[Option.bind_some,Option.isSome_none,Bool.false_eq_true,false_and,if_false,Option.map_some]
   rw[if_pos ⟨by omega,by omega⟩]
   simp
  constructor
  ·unfold Jl
   rw[hu]
   dsimp only
   rw[hb,hs,g1]
   cases kd with
   | gr g e' l =>
    dsimp only
    rw[if_pos ⟨g2 _ _ _ rfl,rfl⟩]
    simp[sl]
   | ex =>
    dsimp only
    rw[if_neg (by omega)]
    simp[sl]
   | ro =>
    dsimp only
    rw[if_neg (by omega)]
    simp[sl]
  ·have hjs:j*s≤n*s:=Nat.mul_le_mul_right _ hj
   refine⟨.inr ⟨b,o,k,rfl,by omega⟩,by rw[List.length_take,S.len];omega, ?_,.inr (S.lt.resolve_left (by omega))⟩
   right
   rcases S.cells with h|⟨d2,h1,h2,h3⟩
   ·omega
   ·refine⟨d2,h1, ?_, ?_⟩
    ·show o+j*s≤d2.length
     have h2:o+n*s≤d2.length:=h2
     omega
    ·show (d2.drop o).take (j*s)=c.take (j*s)
     have h3:(d2.drop o).take (n*s)=c:=h3
     rw[← h3,List.take_take,Nat.min_eq_left hjs]
theorem B4c {v:Value}{n j:Nat}{H:Aa}{s:Nat}{c:List Value}(S:SR H s n v c)(hn:0<n):C4 (sl v j)=C4 v:=by
 rcases S.shape with⟨_,rfl⟩|⟨b,o,k,rfl,hk⟩
 ·omega
 ·rfl
theorem A0v {α:Type}{enc:α→List Value}{s:Nat}(hs:∀ a,(enc a).length=s):∀ (l:List α)(j:Nat),(l.flatMap enc).take (j*s)=(l.take j).flatMap enc
 | [],j=>by simp
 | a :: l,0=>by simp
 | a :: l,j+1=>by
  rw[List.flatMap_cons,List.take_succ_cons,List.flatMap_cons,← A0v hs l j,List.take_append,hs]
  have:(j+1)*s=j*s+s:=by rw[Nat.add_mul,Nat.one_mul]
  rw[List.take_of_length_le (by rw[hs];omega),this,Nat.add_sub_cancel]
theorem A7S {α:Type} [Inhabited α] {l:List α}{i j:Nat}(h:i<j):(l.take j).getD i default=l.getD i default:=by
 simp[List.getD,List.getElem?_take_of_lt h]
def Ua (H:Aa)(b:Nat):Prop:=∀ b' c T e l,H.get b'=.cells c T (.gr b e l)→b'=b
theorem B0d {H:Aa}{b o s:Nat}{x:Value}{c:List Value}{T:TypeId}{e:Nat}(h:Ua H b)(hx:Eo x=true)(hs:x.cells.size=s)(ho:o+s≤c.length) :
  Mg H b o s x (.cells c T (.gr b e true))=some (H.upd H.n b (.cells (splice c o x.cells.toList) T (.gr b e true))):=by
 unfold Mg
 dsimp only
 rw[if_pos ⟨hx,hs,ho,rfl⟩]
 congr 1
 show (⟨H.n,_⟩:Aa)=⟨H.n,_⟩
 congr 1
 funext b'
 show (if b'=b then _ else (H.kill b b).get b')=_
 by_cases e1:b'=b
 ·rw[if_pos e1,if_pos e1]
 ·rw[if_neg e1,if_neg e1]
  show (if b'=b then H.get b' else if b'<b then H.get b' else (H.get b').killed b)=H.get b'
  rw[if_neg e1]
  split
  ·rfl
  ·unfold Dd.killed
   split
   ·rename_i c' T' g' e' l' hg
    split
    ·rename_i hgg
     subst hgg
     exact absurd (h _ _ _ _ _ hg) e1
    ·exact hg.symm
   ·rfl
theorem Ua.upd {H:Aa}{b n b2:Nat}{o:Dd}(h:Ua H b)(ho:∀ c T e l,o=.cells c T (.gr b e l)→b2=b):Ua (H.upd n b2 o) b:=by
 intro b' c T e l hg
 by_cases e1:b'=b2
 ·subst e1
  rw[Ch]at hg
  exact ho _ _ _ _ hg
 ·rw[Cr e1]at hg
  exact h _ _ _ _ _ hg
theorem A6h {P:Program}{ts:Array TypeId}{H:Aa}{s n m e:Nat}{v x:Value}{c new:List Value}{K:Value→Aa→Prop}(ht:C1 H)(G:GS H s n v c none)(S:SR H s m x new)
  (h1:0<m→Cg P ts [v,x] H=some (.slice (some ⟨H.n,0,none⟩) (n+m) (n+m),H.upd (H.n+1) H.n (.cells (c ++ new) e (.gr H.n s true))))(h0:m=0→Cg P ts [v,x] H=some (v,H))
  (k:∀ v' Gq gg,H.n≤Gq.n→Jn H Gq→GS (H.jn Gq) s (n+m) v' (c ++ new) gg→(∀ x,gg=some x→H.n≤x)→(v'=v∨C4 v'=H.n)→C4 v'<Gq.n∨n+m=0 →
   (0<m→v'=.slice (some ⟨H.n,0,none⟩) (n+m) (n+m)∧(H.jn Gq).get H.n=.cells (c ++ new) e (.gr H.n s true)∧Ua (H.jn Gq) H.n∧H.n<Gq.n)→K v' (H.jn Gq)):oB (Cg P ts [v,x] H) K:=by
 by_cases hm:m=0
 ·rw[h0 hm]
  have hj:=Jn.self ht
  have hnew:new=[]:=by have:=S.len;subst hm;simpa using this
  subst hm hnew
  have:=k v H none (Nat.le_refl _) hj.1 (by rw[hj.2,List.append_nil];exact G) (by simp) (.inl rfl) (by
   rcases G.sr.lt with q|q
   ·exact .inr q
   ·exact .inl q) (fun q=>absurd q (by omega))
  rw[hj.2]at this
  exact this
 ·rw[h1 (by omega)]
  have GG:=GS.pushed (e:=e) ht G S.len
  have hf:Fr H.n [] H (H.upd (H.n+1) H.n (.cells (c ++ new) e (.gr H.n s true))):=(Fr.refl H).upd (Nat.le_succ _) (Nat.lt_succ_self _) (.inl (Nat.le_refl _)) ⟨Nat.le_refl _,Nat.le_refl _⟩
  obtain⟨e1,hj⟩:=hf.to_jn ht
  show K _ (H.upd (H.n+1) H.n (.cells (c ++ new) e (.gr H.n s true)))
  have GG':GS (H.upd (H.n+1) H.n (.cells (c ++ new) e (.gr H.n s true))) s (n+m) (.slice (some ⟨H.n,0,none⟩) (n+m) (n+m)) (c ++ new) (some H.n):=GG
  have so:Ua (H.upd (H.n+1) H.n (.cells (c ++ new) e (.gr H.n s true))) H.n:=by
   refine Ua.upd ?_ fun _ _ _ _ _=>rfl
   intro b' c' T' e' l' hg
   have:=ht.2 b' _ _ _ _ _ hg
   by_cases q:H.n≤b'
   ·rw[ht.1 b' q]at hg;cases hg
   ·omega
  have:=k (.slice (some ⟨H.n,0,none⟩) (n+m) (n+m)) _ (some H.n) (Nat.le_succ _) hj (e1 ▸ GG') (fun x hx=>by cases hx;exact Nat.le_refl _) (.inr rfl) (.inl (Nat.lt_succ_self _)) (fun _=>⟨rfl,e1 ▸ Ch,e1 ▸ so,Nat.lt_succ_self _⟩)
  rw[← e1]at this
  exact this
theorem A0w {ops:Array Oper}{k:Nat}{H:Aa}:∀ (rs:List (Nat×Nat)),O6 ops k H H rs
 | []=>trivial
 | r :: rs=>⟨.inr rfl,A0w rs⟩
theorem A6i {ops:Array Oper}{k b:Nat}:∀ {as:List (Nat×Aa×Aa)},(∀ a,a∈as→Gh ops a.1 k=true∨a.2.2.get b=a.2.1.get b)→Vk ops k b as
 | [],_=>trivial
 | a :: as,h=>⟨h a (List.mem_cons_self ..),A6i fun x hx=>h x (List.mem_cons_of_mem _ hx)⟩
theorem V2 {P:Program}{C:Bk}{ops:Array Oper}{os:List Oper}{K K':Bi→Aa→Prop}{env:Bi}{H:Aa}(h:WO P C ops os K env H)(hk:∀ e h,K e h→K' e h):WO P C ops os K' env H:=by
 obtain⟨e,h',r,q⟩:=h
 exact⟨e,h',r,hk _ _ q⟩
theorem A1U {P:Program}{C:Bk}{ops:Array Oper}{K:Bi→Aa→Prop}:∀ (os:List Oper){k:Nat}{rs:List (Nat×Nat)}{as as':List (Nat×Aa×Aa)}{e:Bi}{h:Aa},
  (∀ a,a∈as'→a∈as∨∀ b,a.2.2.get b=a.2.1.get b)→WD P C ops os k rs as K e h→WD P C ops os k rs as' K e h
 | [],k,rs,as,as',e,h,ha,w=>w
 | o :: os,k,rs,as,as',e,h,ha,w=>by
  unfold WD at w ⊢
  by_cases hs:Bw o.op=true
  ·rw[if_pos hs]at w ⊢
   refine⟨?_,V2 w.2 fun e h q=>A1U os ha q⟩
   have w1:=w.1
   unfold Mh at w1 ⊢
   split
   ·rename_i b hb
    rw[hb]at w1
    refine A6i fun a hx=>?_
    rcases ha a hx with q|q
    ·exact Wu w1 a q
    ·exact .inr (q b)
   ·trivial
  ·rw[if_neg hs]at w ⊢
   refine V2 w fun e' h' q=>⟨q.1,A1U os (fun a hx=>?_) q.2⟩
   rcases List.mem_cons.1 hx with rfl|hx
   ·exact .inl (List.mem_cons_self ..)
   ·rcases ha a hx with q|q
    ·exact .inl (List.mem_cons_of_mem _ q)
    ·exact .inr q
section
variable {P:Program} {C:Bk} {ops:Array Oper} {os:List Oper} {K:Bi→Aa→Prop} {env:Bi} {H:Aa} {dst:Option Tmp} {ty:TypeId} {pos:String} {aft:Array Edge} {k j:Nat} {rs:List (Nat×Nat)} {as:List (Nat×Aa×Aa)} {op:Op} {d:Tmp} {t:Bool}
theorem B24 {b:Bool}(hd:(ops[j]?).bind (·.dst)=some d)(hv:env d=.bool t)(h1:t=b→WD P C ops (⟨dst,op,ty,pos,aft,none⟩ :: os) k rs as K env H)(h2:t≠b→WD P C ops os (k+1) rs as K (env.set dst undef) H)
  (hw:Region.wanted ⟨dst,op,ty,pos,aft,some (j,b)⟩ (Dg ops env)=decide (t=b))
  (hg:∀ (K':Bi→Aa→Prop),(t=b→WO P C ops [⟨dst,op,ty,pos,aft,none⟩] K' env H)→(t≠b→K' (env.set dst undef) H)→WO P C ops [⟨dst,op,ty,pos,aft,some (j,b)⟩] K' env H) :
  WD P C ops (⟨dst,op,ty,pos,aft,some (j,b)⟩ :: os) k rs as K env H:=by
 unfold WD
 by_cases hs:Bw op=true
 ·rw[if_pos hs]
  by_cases e:t=b
  ·have h:=h1 e
   unfold WD at h
   rw[if_pos hs]at h
   have ht:tch ops env H ⟨dst,op,ty,pos,aft,some (j,b)⟩=tch ops env H ⟨dst,op,ty,pos,aft,none⟩:=by
    unfold tch
    rw[hw,decide_eq_true e,if_pos rfl,if_pos (by simp[Region.wanted])]
   rw[ht]
   exact⟨h.1,hg _ (fun _=>h.2) fun q=>absurd e q⟩
  ·have ht:tch ops env H ⟨dst,op,ty,pos,aft,some (j,b)⟩=none:=by
    unfold tch
    rw[hw,decide_eq_false e,if_neg (by simp)]
   rw[ht]
   exact⟨trivial,hg _ (fun q=>absurd q e) fun _=>h2 e⟩
 ·rw[if_neg hs]
  refine hg _ (fun e=>?_) fun e=>⟨A0w rs, ?_⟩
  ·have h:=h1 e
   unfold WD at h
   rw[if_neg hs]at h
   exact h
  ·-- an operation that is not wanted changes nothing
   refine A1U os (fun a hx=>?_) (h2 e)
   rcases List.mem_cons.1 hx with rfl|hx
   ·exact .inr fun _=>rfl
   ·exact .inl hx
theorem Cc (hd:(ops[j]?).bind (·.dst)=some d)(hv:env d=.bool t)(h1:t=true→WD P C ops (⟨dst,op,ty,pos,aft,none⟩ :: os) k rs as K env H)(h2:t=false→WD P C ops os (k+1) rs as K (env.set dst undef) H) :
  WD P C ops (⟨dst,op,ty,pos,aft,some (j,true)⟩ :: os) k rs as K env H :=
 B24 hd hv h1 (fun q=>h2 (by simpa using q)) (by have hy:=Ny (ops:=ops) hd hv;show (Dg ops env j == some _)=_;rw[hy];cases t <;> rfl) fun K' a b=>Br hd hv a fun q=>⟨_,_,⟨rfl,rfl⟩,b (by simp[q])⟩
theorem Cd (hd:(ops[j]?).bind (·.dst)=some d)(hv:env d=.bool t)(h1:t=false→WD P C ops (⟨dst,op,ty,pos,aft,none⟩ :: os) k rs as K env H)(h2:t=true→WD P C ops os (k+1) rs as K (env.set dst undef) H) :
  WD P C ops (⟨dst,op,ty,pos,aft,some (j,false)⟩ :: os) k rs as K env H :=
 B24 hd hv h1 (fun q=>h2 (by simpa using q)) (by have hy:=Ny (ops:=ops) hd hv;show (Dg ops env j == some _)=_;rw[hy];cases t <;> rfl) fun K' a b=>Bt hd hv a fun q=>⟨_,_,⟨rfl,rfl⟩,b (by simp[q])⟩
end
theorem Ga {P:Program}{C:Bk}{nt:Nat}{c:Code}{env:Bi}{h:Aa}{Q:I0}{N:Nat}{X:List Nat}{h0:Aa}(p:Aa→Prop)(F:Fr N X h0 h)(hp:p h)(k:∀ h',Fr N X h0 h'→p h'→W P C 0 nt c env h' Q):W P C 0 nt c env h Q:=k h F hp
theorem A1V {P:Program}{C:Bk}{ops:Array Oper}{K K':Bi→Aa→Prop}(hk:∀ e h,K e h→K' e h):∀ (os:List Oper){k:Nat}{rs:List (Nat×Nat)}{as:List (Nat×Aa×Aa)}{e:Bi}{h:Aa},
  WD P C ops os k rs as K e h→WD P C ops os k rs as K' e h
 | [],k,rs,as,e,h,w=>hk _ _ w
 | o :: os,k,rs,as,e,h,w=>by
  unfold WD at w ⊢
  by_cases hs:Bw o.op=true
  ·rw[if_pos hs]at w ⊢
   exact⟨w.1,V2 w.2 fun e h q=>A1V hk os q⟩
  ·rw[if_neg hs]at w ⊢
   exact V2 w fun e' h' q=>⟨q.1,A1V hk os q.2⟩
theorem Xz {P:Program}{C:Bk}{ng nt id:Nat}{l:List Oper}{env:Bi}{H:Aa}{Q:I0}(R:Bi→Aa→Prop)(h1:WD P C ⟨l⟩ l 0 [] [] R env H)(h2:∀ e h,R e h→Q .normal e h):W P C ng nt (.region id ⟨l⟩ true) env H Q :=
 A5L fun K hK=>A1V (fun e h r=>hK e h (h2 e h r)) l h1
end Go.Proofs.Swa
set_option linter.unusedVariables false
set_option linter.unusedSimpArgs false
set_option linter.defProp false
namespace Go.Proofs.Swa
open Go
theorem dA {p:Prop}(h:p:=by first|omega|exact Df _|exact Ba _|exact J1 _|exact Nl _|exact Ky _|exact Dc _|exact Cz _|(simp only[B44,B45,B47,Dv,Df,Ba,J1,Nl,Ky,Dc,Cz,Ao,A3];first|done|omega)|(simp only[List.mem_cons,List.not_mem_nil,or_false,not_or,not_false_eq_true,Ao,A3];first|done|omega)):p:=h
def U6:=B9p @ne_eq.{1} (B9p @not_true_eq_false (B9p @decide_false (B9p @decide_true @Bool.false_eq_true)))
theorem C8 {p q:Prop}(h:p)(n:p→False:=by(intro hc;first|exact absurd hc (by decide)|(simp only[C0]at hc;first|contradiction|(exfalso;omega))|contradiction)):q:=(n h).elim
theorem Jg {P:Program}{C:Bk}{ops:Array Oper}{os:List Oper}{K:Bi→Aa→Prop}{env:Bi}{H:Aa}{dst:Option Tmp}{ty:TypeId}{pos:String}{aft:Array Edge}{op:Op}{j:Nat}{d:Tmp}{b:Bool}(hd:(ops[j]?).bind (·.dst)=some d)(hv:env d=undef)(h:WO P C ops os K (env.set dst undef) H) :
  WO P C ops (⟨dst,op,ty,pos,aft,some (j,b)⟩ :: os) K env H:=by
 rw[Wp]
 have:Dg ops env j=none:=by
  unfold Dg
  rw[hd]
  simp only[hv]
  rfl
 rw[this,if_neg (by simp)]
 exact h
theorem E3 {P:Program}{C:Bk}{ops:Array Oper}{os:List Oper}{K:Bi→Aa→Prop}{env:Bi}{H:Aa}(h:WO P C ops os K env H):WO P C ops os K env H:=h
theorem Ge {P:Program}{C:Bk}{ops:Array Oper}{os:List Oper}{k:Nat}{rs:List (Nat×Nat)}{as:List (Nat×Aa×Aa)}{K:Bi→Aa→Prop}{env:Bi}{H:Aa}(h:WD P C ops os k rs as K env H):WD P C ops os k rs as K env H:=h
theorem oA {p:Prop}(h:p:=by((try simp only[Ao,A3]);omega)):p:=h
theorem Bb {H:Aa}(h:C1 H:=by(repeat'(first|with_reducible assumption|((with_reducible refine C1.jn ?_ ?_);rotate_left;(focus with_reducible assumption))|((with_reducible refine C1.upd ?_ ?_ ?_ ?_);rotate_left;(focus exact oA);(focus exact oA);(focus first|trivial|exact⟨oA,oA⟩))))):C1 H:=h
theorem Bm {N:Nat}{X:List Nat}{A B:Aa}(h:Fr N X A B:=by(repeat'(first|with_reducible exact Fr.refl _|with_reducible assumption|((with_reducible apply Fr.trans) <;> with_reducible assumption)|((with_reducible refine Fr.jn ?_ ?_ ?_);rotate_left;(focus with_reducible assumption);(focus exact oA))|((with_reducible refine Fr.upd ?_ ?_ ?_ ?_ ?_);rotate_left;(focus exact oA);(focus exact oA);(focus first|(left;exact oA)|(right;simp;done));(focus first|trivial|exact⟨oA,oA⟩))))):Fr N X A B:=h
theorem Lw {p:Prop}(h:p:=by(simp only[List.mem_cons,List.not_mem_nil,or_false,not_or];omega)):p:=h
def An:=B9p qb sp
def Bp:=B9p qd An
def Bh:=B9p qc (B9p qe (B9p @Nw sp))
def spx:=B9p sp (B9p (@if_true.{0}) (B9p (@if_false.{0}) (@ite_self.{0})))
theorem Ee {p:Prop}(h:p:=by(simp only[O6,Vk];(repeat'(first|exact trivial|(refine B9p ?_ ?_)|(right;simp(disch:=first|exact dA|fail) only[Bh,Int.reduceToNat,Nat.reduceAdd,Nat.reduceMul,Nat.reduceEqDiff,reduceIte,reduceCtorEq,Nat.reduceLT];done)|(right;(apply C1.dead2);(focus exact oA);(focus exact oA);(focus exact Bb);(focus exact Bb);done)|(left;decide))))):p:=h
theorem Eu {P:Program}{C:Bk}{ng nt:Nat}{id:Nat}{l:List Oper}{env:Bi}{H:Aa}{Q:I0}(L:Nat→List Nat)(X:List Nat)(h:∀ K:Bi→Aa→Prop,(∀ e h,(∀ e',(∀ t,t∈L id→e' t=e t)→Q .normal e' h)→K e h)→WO P C ⟨l⟩ l K env H)(hx:id∉X:=by decide):W P C ng nt (.region id ⟨l⟩ false) env H Q:=Ai L h
theorem Fx {P:Program}{C:Bk}{ng nt:Nat}{id:Nat}{l:List Oper}{env:Bi}{H:Aa}{Q:I0}(L:Nat→List Nat)(X:List Nat)(h:∀ K:Bi→Aa→Prop,(∀ e h,(∀ e',(∀ t,t∈L id→e' t=e t)→Q .normal e' h)→K e h)→WD P C ⟨l⟩ l 0 [] [] K env H)(hx:id∉X:=by decide):W P C ng nt (.region id ⟨l⟩ true) env H Q:=Aw L h
end Go.Proofs.Swa
set_option linter.unusedVariables false
set_option linter.unusedSimpArgs false
namespace Go.Proofs.Swa
open Go
inductive K4 (H:Aa) (E:List Nat):Value→Iy→Prop
 | one {b:Nat}{w:Pm} (hb:b∉E∧b<H.n) (hg:H.get b=.cells (Mi w) 144 .ex):K4 H E (.func (.func 111) #[] #[Bc b 0]) [w]
 | pair {b0 b1 b2 b3:Nat}{a b:Nat}{m n:On} (h0:b0∉E∧b0<H.n) (h1:b1∉E∧b1<H.n) (h2:b2∉E∧b2<H.n) (h3:b3∉E∧b3<H.n)
   (g0:H.get b0=.cells [iv a] 3 .ex)(g1:H.get b1=.cells (Cq m) 101 .ex)(g2:H.get b2=.cells [iv b] 3 .ex)(g3:H.get b3=.cells (Cq n) 101 .ex) :
   K4 H E (.func (.func 106) #[] #[Bc b0 0,Bc b1 0,Bc b2 0,Bc b3 0]) [Eg a m,Eg b n]
theorem K4.fr {N:Nat}{X:List Nat}{A B:Aa}{E:List Nat}{v:Value}{r:Iy}(hF:Fr N X A B)(hX:∀ b,b∈X→b<A.n→b∈E)(h:K4 A E v r):K4 B E v r:=by
 have nx:∀ b,b∉E∧b<A.n→b∉X:=fun b hb hm=>hb.1 (hX b hm hb.2)
 have hn:=hF.n
 cases h with
 | one hb hg=>exact .one ⟨hb.1,by omega⟩ ((hF.old _ hb.2 (nx _ hb)).trans hg)
 | pair h0 h1 h2 h3 g0 g1 g2 g3 =>
  exact .pair ⟨h0.1,by omega⟩ ⟨h1.1,by omega⟩ ⟨h2.1,by omega⟩ ⟨h3.1,by omega⟩ ((hF.old _ h0.2 (nx _ h0)).trans g0) ((hF.old _ h1.2 (nx _ h1)).trans g1) ((hF.old _ h2.2 (nx _ h2)).trans g2) ((hF.old _ h3.2 (nx _ h3)).trans g3)
theorem K4.ex {A:Aa}{E E':List Nat}{v:Value}{r:Iy}(hl:∀ b,b∈E'→b<A.n→b∈E)(h:K4 A E v r):K4 A E' v r:=by
 have nx:∀ b,b∉E∧b<A.n→b∉E'∧b<A.n:=fun b hb=>⟨fun hm=>hb.1 (hl b hm hb.2),hb.2⟩
 cases h with
 | one hb hg=>exact .one (nx _ hb) hg
 | pair h0 h1 h2 h3 g0 g1 g2 g3=>exact .pair (nx _ h0) (nx _ h1) (nx _ h2) (nx _ h3) g0 g1 g2 g3
theorem K4.one' {A:Aa}{E:List Nat}{v:Value}{r:Iy}(h:K4 A E v r):Swa.one v:=by
 cases h <;> exact Wx
def D8 (H:Aa)(E:List Nat):List Value→List Iy→Prop
 | [],[]=>True
 | v :: vs,r :: rs=>K4 H E v r∧D8 H E vs rs
 | _,_=>False
theorem D8.len {H:Aa}{E:List Nat}:∀ {vs:List Value}{rs:List Iy},D8 H E vs rs→vs.length=rs.length
 | [],[],_=>rfl
 | v :: vs,r :: rs,h=>by rw[List.length_cons,List.length_cons,D8.len h.2]
 | [],r :: rs,h=>h.elim
 | v :: vs,[],h=>h.elim
theorem D8.app {H:Aa}{E:List Nat}:∀ {vs:List Value}{rs:List Iy}{us:List Value}{ss:List Iy},D8 H E vs rs→D8 H E us ss→D8 H E (vs ++ us) (rs ++ ss)
 | [],[],_,_,_,k=>k
 | v :: vs,r :: rs,_,_,h,k=>⟨h.1,D8.app h.2 k⟩
 | [],r :: rs,_,_,h,_=>h.elim
 | v :: vs,[],_,_,h,_=>h.elim
theorem D8.at {H:Aa}{E:List Nat}:∀ {vs:List Value}{rs:List Iy},D8 H E vs rs→∀ i,i<rs.length→∃ v,vs[i]? = some v∧K4 H E v (rs.getD i default)
 | [],[],_,i,hi=>by simp at hi
 | v :: vs,r :: rs,h,0,_=>⟨v,rfl,h.1⟩
 | v :: vs,r :: rs,h,i+1,hi=>D8.at h.2 i (by simpa using hi)
 | [],r :: rs,h,_,_=>h.elim
 | v :: vs,[],h,_,_=>h.elim
theorem D8.fr {N:Nat}{X:List Nat}{A B:Aa}{E:List Nat}(hF:Fr N X A B)(hX:∀ b,b∈X→b<A.n→b∈E):∀ {vs:List Value}{rs:List Iy},D8 A E vs rs→D8 B E vs rs
 | [],[],_=>trivial
 | v :: vs,r :: rs,h=>⟨h.1.fr hF hX,D8.fr hF hX h.2⟩
 | [],r :: rs,h=>h.elim
 | v :: vs,[],h=>h.elim
theorem D8.ex {A:Aa}{E E':List Nat}(hl:∀ b,b∈E'→b<A.n→b∈E):∀ {vs:List Value}{rs:List Iy},D8 A E vs rs→D8 A E' vs rs
 | [],[],_=>trivial
 | v :: vs,r :: rs,h=>⟨h.1.ex hl,D8.ex hl h.2⟩
 | [],r :: rs,h=>h.elim
 | v :: vs,[],h=>h.elim
def A3L (n:Nat)(w:Pm):Prop:=w.spot<n∧w.a<11∧w.b<11
def B0e (n:Nat)(r:Iy):Prop:=∀ w,w∈r→A3L n w
def Ub (n:Nat)(rs:List Iy):Prop:=∀ r,r∈rs→B0e n r
theorem A1W {P:Program}{C:Bk}{ng nt:Nat}{r c:Code}{env:Bi}{H:Aa}{Q:I0}(R:Bi→Aa→Prop)(h1:W P C ng nt r env H (B3o P C ng nt c fun x e h=>x=.normal∧R e h))(h2:∀ e h,R e h→Q .normal e h) :
  W P C ng nt r env H (B3o P C ng nt c Q):=by
 refine A4f h1 fun x e h q=>?_
 cases x with
 | normal =>
  refine A4f q fun x e h q=>?_
  obtain⟨rfl,q⟩:=q
  exact h2 e h q
 | exit i=>cases q.1
 | ret=>cases q.1
structure Ir (H h:Aa)(va vb vc vh:Value)(spot:Nat)(hour:Int)(p:Hp×Value)(now:On)(B8 B9 B10 B11 gB sB L:Nat)(LX:Dd)(out:List Iy)(bf tp:Nat)(vo:Value)(vs:List Value)(gg:Option Nat):Prop where
 y:h.get H.n=.cells [va,vb,vc,vh] 91 .ex
 s:h.get (H.n+1)=.cells [iv spot] 3 .ex
 t:h.get (H.n+2)=.cells [iv hour] 3 .ex
 hp:h.get (H.n+3)=.cells (Mq p) 99 .ex
 now:h.get B8=.cells (Cq now) 101 .ex
 o:h.get B9=.cells [vo] 114 .ex
 b:h.get B10=.cells [iv bf] 3 .ex
 tp:h.get B11=.cells [iv tp] 3 .ex
 g:h.get gB=.cells [va,vb,vc] 26 .ex
 sb:h.get sB=.cells [iv spot] 3 .ex
 lo:h.get L=LX
 G:GS h 1 out.length vo vs gg
 gr:∀ x,gg=some x→H.n≤x
 vb:C4 vo∉[B9,B10,B11,L]∧H.n≤C4 vo
 R:D8 h [B9,B10,B11,L] vs out
 F:Fr H.n [] H h
 T:C1 h
 lt:L<h.n
def X1 (a b c d e f g i:Nat):Prop:=a+3<b∧b<c∧c<d∧d<e∧e<f∧f<g∧g<i
section
variable {H h h':Aa} {va vb vc vh:Value} {spot:Nat} {hour:Int} {p:Hp×Value} {now:On} {B8 B9 B10 B11 gB sB L:Nat} {LX:Dd} {out:List Iy} {bf tp:Nat} {vo:Value} {vs:List Value} {gg:Option Nat}
theorem Ir.mono (k:Ir H h va vb vc vh spot hour p now B8 B9 B10 B11 gB sB L LX out bf tp vo vs gg)(r:X1 H.n B8 B9 B10 B11 gB sB L)(F:Fr h.n [] h h')(hH:H.n≤h.n):Ir H h' va vb vc vh spot hour p now B8 B9 B10 B11 gB sB L LX out bf tp vo vs gg:=by
 obtain⟨r1,r2,r3,r4,r5,r6,r7⟩:=r
 have l:=k.lt
 have hn:=F.n
 have o:∀ b,b<h.n→h'.get b=h.get b:=fun b hb=>F.old b hb (by simp)
 exact⟨by rw[o _ (by omega)];exact k.y,by rw[o _ (by omega)];exact k.s,by rw[o _ (by omega)];exact k.t,by rw[o _ (by omega)];exact k.hp,by rw[o _ (by omega)];exact k.now,by rw[o _ (by omega)];exact k.o,by rw[o _ (by omega)];exact k.b,by rw[o _ (by omega)];exact k.tp,
  by rw[o _ (by omega)];exact k.g,by rw[o _ (by omega)];exact k.sb,by rw[o _ (by omega)];exact k.lo,k.G.fr F (fun x hx=>by subst hx;exact k.G.grp_lt) (by simp),k.gr,k.vb,k.R.fr F (by simp),k.F.call F hH,F.top k.T,by omega⟩
theorem Ir.setL (k:Ir H h va vb vc vh spot hour p now B8 B9 B10 B11 gB sB L LX out bf tp vo vs gg)(r:X1 H.n B8 B9 B10 B11 gB sB L)(hH:H.n≤L){LY:Dd}(hL:∀ N b,A4q N b LY):Ir H (h.upd h.n L LY) va vb vc vh spot hour p now B8 B9 B10 B11 gB sB L LY out bf tp vo vs gg:=by
 obtain⟨r1,r2,r3,r4,r5,r6,r7⟩:=r
 have l:=k.lt
 have F:Fr h.n [L] h (h.upd h.n L LY):=(Fr.refl h).upd (Nat.le_refl _) l (.inr (by simp)) (hL _ _)
 have F0:Fr H.n [] H (h.upd h.n L LY):=k.F.upd (Nat.le_refl _) l (.inl hH) (hL _ _)
 have o:∀ b,b≠L→(h.upd h.n L LY).get b=h.get b:=fun b hb=>Cr hb
 have v1:=k.vb.1
 simp only[List.mem_cons,List.not_mem_nil,or_false,not_or]at v1
 exact⟨by rw[o _ (by omega)];exact k.y,by rw[o _ (by omega)];exact k.s,by rw[o _ (by omega)];exact k.t,by rw[o _ (by omega)];exact k.hp,by rw[o _ (by omega)];exact k.now,by rw[o _ (by omega)];exact k.o,by rw[o _ (by omega)];exact k.b,by rw[o _ (by omega)];exact k.tp,
  by rw[o _ (by omega)];exact k.g,by rw[o _ (by omega)];exact k.sb,Ch,k.G.fr F (fun x hx=>by subst hx;exact k.G.grp_lt) (by simpa using v1.2.2.2),k.gr,k.vb,k.R.fr F (by simp),F0,F.top k.T,l⟩
theorem Ir.setT (k:Ir H h va vb vc vh spot hour p now B8 B9 B10 B11 gB sB L LX out bf tp vo vs gg)(r:X1 H.n B8 B9 B10 B11 gB sB L)(hH:H.n≤B11)(t':Nat):Ir H (h.upd h.n B11 (.cells [iv t'] 3 .ex)) va vb vc vh spot hour p now B8 B9 B10 B11 gB sB L LX out bf t' vo vs gg:=by
 obtain⟨r1,r2,r3,r4,r5,r6,r7⟩:=r
 have l:=k.lt
 have F:Fr h.n [B11] h (h.upd h.n B11 (.cells [iv t'] 3 .ex)):=(Fr.refl h).upd (Nat.le_refl _) (by omega) (.inr (by simp)) trivial
 have F0:Fr H.n [] H (h.upd h.n B11 (.cells [iv t'] 3 .ex)):=k.F.upd (Nat.le_refl _) (by omega) (.inl hH) trivial
 have o:∀ b,b≠B11→(h.upd h.n B11 (.cells [iv t'] 3 .ex)).get b=h.get b:=fun b hb=>Cr hb
 have v1:=k.vb.1
 simp only[List.mem_cons,List.not_mem_nil,or_false,not_or]at v1
 exact⟨by rw[o _ (by omega)];exact k.y,by rw[o _ (by omega)];exact k.s,by rw[o _ (by omega)];exact k.t,by rw[o _ (by omega)];exact k.hp,by rw[o _ (by omega)];exact k.now,by rw[o _ (by omega)];exact k.o,by rw[o _ (by omega)];exact k.b,Ch,
  by rw[o _ (by omega)];exact k.g,by rw[o _ (by omega)];exact k.sb,by rw[o _ (by omega)];exact k.lo,k.G.fr F (fun x hx=>by subst hx;exact k.G.grp_lt) (by simpa using v1.2.2.1),k.gr,k.vb,k.R.fr F (by simp),F0,F.top k.T,l⟩
theorem Ir.setB (k:Ir H h va vb vc vh spot hour p now B8 B9 B10 B11 gB sB L LX out bf tp vo vs gg)(r:X1 H.n B8 B9 B10 B11 gB sB L)(hH:H.n≤B10)(t':Nat):Ir H (h.upd h.n B10 (.cells [iv t'] 3 .ex)) va vb vc vh spot hour p now B8 B9 B10 B11 gB sB L LX out t' tp vo vs gg:=by
 obtain⟨r1,r2,r3,r4,r5,r6,r7⟩:=r
 have l:=k.lt
 have F:Fr h.n [B10] h (h.upd h.n B10 (.cells [iv t'] 3 .ex)):=(Fr.refl h).upd (Nat.le_refl _) (by omega) (.inr (by simp)) trivial
 have F0:Fr H.n [] H (h.upd h.n B10 (.cells [iv t'] 3 .ex)):=k.F.upd (Nat.le_refl _) (by omega) (.inl hH) trivial
 have o:∀ b,b≠B10→(h.upd h.n B10 (.cells [iv t'] 3 .ex)).get b=h.get b:=fun b hb=>Cr hb
 have v1:=k.vb.1
 simp only[List.mem_cons,List.not_mem_nil,or_false,not_or]at v1
 exact⟨by rw[o _ (by omega)];exact k.y,by rw[o _ (by omega)];exact k.s,by rw[o _ (by omega)];exact k.t,by rw[o _ (by omega)];exact k.hp,by rw[o _ (by omega)];exact k.now,by rw[o _ (by omega)];exact k.o,Ch,by rw[o _ (by omega)];exact k.tp,
  by rw[o _ (by omega)];exact k.g,by rw[o _ (by omega)];exact k.sb,by rw[o _ (by omega)];exact k.lo,k.G.fr F (fun x hx=>by subst hx;exact k.G.grp_lt) (by simpa using v1.2.1),k.gr,k.vb,k.R.fr F (by simp),F0,F.top k.T,l⟩
theorem Ir.add (k:Ir H h va vb vc vh spot hour p now B8 B9 B10 B11 gB sB L LX out bf tp vo vs gg)(r:X1 H.n B8 B9 B10 B11 gB sB L)(hH:H.n≤B9){hA:Aa}(FA:Fr h.n [] h hA)(TA:C1 hA){rv:Value}{w:Iy}(hr:K4 hA [B9,B10,B11,L] rv w){gx:Nat}(hgx:gx=gg.getD hA.n)
  (GG:GS (hA.upd (hA.n+1) hA.n (.cells (vs ++ [rv]) 119 (.gr gx 1 true))) 1 (out.length+1) (.slice (some ⟨hA.n,0,none⟩) (out.length+1) (out.length+1)) (vs ++ [rv]) (some gx)) :
  Ir H ((hA.upd (hA.n+1) hA.n (.cells (vs ++ [rv]) 119 (.gr gx 1 true))).upd (hA.n+1) B9 (.cells [.slice (some ⟨hA.n,0,none⟩) (out.length+1) (out.length+1)] 114 .ex)) va vb vc vh spot hour p now B8 B9 B10 B11 gB sB L LX (out ++ [w]) bf tp (.slice (some ⟨hA.n,0,none⟩) (out.length+1) (out.length+1)) (vs ++ [rv]) (some gx):=by
 have kA:=k.mono r FA k.F.n
 obtain⟨r1,r2,r3,r4,r5,r6,r7⟩:=r
 have l:=kA.lt
 have gl:gx≤hA.n∧H.n≤gx:=by
  subst hgx
  cases hgg:gg with
  | none=>exact⟨Nat.le_refl _,by show H.n≤hA.n;omega⟩
  | some x =>
   have:=kA.gr x hgg
   have G:=kA.G
   rw[hgg]at G
   have:=G.grp_lt
   exact⟨by show x≤hA.n;omega,by assumption⟩
 have F1:Fr H.n [] H (hA.upd (hA.n+1) hA.n (.cells (vs ++ [rv]) 119 (.gr gx 1 true))):=kA.F.upd (Nat.le_succ _) (Nat.lt_succ_self _) (.inl (by omega)) ⟨gl.2,gl.1⟩
 have F2:Fr H.n [] H ((hA.upd (hA.n+1) hA.n (.cells (vs ++ [rv]) 119 (.gr gx 1 true))).upd (hA.n+1) B9 (.cells [.slice (some ⟨hA.n,0,none⟩) (out.length+1) (out.length+1)] 114 .ex)):=F1.upd (Nat.le_refl _) (by omega) (.inl hH) trivial
 have FX1:Fr 0 [B9] hA (hA.upd (hA.n+1) hA.n (.cells (vs ++ [rv]) 119 (.gr gx 1 true))):=(Fr.refl hA).upd (o:=.cells (vs ++ [rv]) 119 (.gr gx 1 true)) (Nat.le_succ _) (Nat.lt_succ_self _) (.inl (Nat.le_refl _)) ⟨Nat.zero_le _,gl.1⟩
 have FX:Fr 0 [B9] hA ((hA.upd (hA.n+1) hA.n (.cells (vs ++ [rv]) 119 (.gr gx 1 true))).upd (hA.n+1) B9 (.cells [.slice (some ⟨hA.n,0,none⟩) (out.length+1) (out.length+1)] 114 .ex)):=FX1.upd (Nat.le_refl _) (by omega) (.inr (by simp)) trivial
 have FG:Fr (hA.n+1) [B9] (hA.upd (hA.n+1) hA.n (.cells (vs ++ [rv]) 119 (.gr gx 1 true))) ((hA.upd (hA.n+1) hA.n (.cells (vs ++ [rv]) 119 (.gr gx 1 true))).upd (hA.n+1) B9 (.cells [.slice (some ⟨hA.n,0,none⟩) (out.length+1) (out.length+1)] 114 .ex)):=(Fr.refl _).upd (Nat.le_refl _) (by show B9<hA.n+1;omega) (.inr (by simp)) trivial
 have o:∀ b,b≠B9→b<hA.n→((hA.upd (hA.n+1) hA.n (.cells (vs ++ [rv]) 119 (.gr gx 1 true))).upd (hA.n+1) B9 (.cells [.slice (some ⟨hA.n,0,none⟩) (out.length+1) (out.length+1)] 114 .ex)).get b=hA.get b:=fun b hb hn=>by rw[Cr hb,Cr (by omega)]
 refine⟨by rw[o _ (by omega) (by omega)];exact kA.y,by rw[o _ (by omega) (by omega)];exact kA.s,by rw[o _ (by omega) (by omega)];exact kA.t,by rw[o _ (by omega) (by omega)];exact kA.hp,by rw[o _ (by omega) (by omega)];exact kA.now,Ch,by rw[o _ (by omega) (by omega)];exact kA.b,by rw[o _ (by omega) (by omega)];exact kA.tp,
  by rw[o _ (by omega) (by omega)];exact kA.g,by rw[o _ (by omega) (by omega)];exact kA.sb,by rw[o _ (by omega) (by omega)];exact kA.lo, ?_,fun x hx=>by cases hx;exact gl.2,⟨by show hA.n∉_;simp only[List.mem_cons,List.not_mem_nil,or_false,not_or];omega,by show H.n≤hA.n;omega⟩, ?_,F2,FX.top kA.T,by show L<hA.n+1;omega⟩
 ·rw[List.length_append]
  exact GG.fr FG (fun x hx=>by cases hx;omega) (by show hA.n∉[B9];simp;omega)
 ·exact(kA.R.fr FX (by simp)).app ⟨hr.fr FX (by simp),trivial⟩
end
theorem Re {x r l:List Value}{o:Nat}:splice (x ++ r) (x.length+o) l=x ++ splice r o l:=by
 unfold splice
 rw[List.take_append,List.take_of_length_le (by omega),Nat.add_sub_cancel_left,List.append_assoc,List.append_assoc,List.append_assoc]
 congr 3
 rw[List.drop_append,List.drop_of_length_le (by omega),List.nil_append]
 congr 1
 omega
theorem Ps {g:Cv}:∀ (n i:Nat)(acc:List Hp),(Ev g i n acc).2=0∨(Ev g i n acc).2=9
 | 0,_,_=>.inl rfl
 | n+1,i,acc=>by
  rw[Ev]
  split
  ·exact Ps n (i+1) _
  ·exact .inr rfl
theorem A4S {g:Cv}(ck:check g=0){hour:Int}(h1:0≤hour)(h2:hour≤72)(h:(known g).2≠0):(masses g hour).2=9∧(masses g hour).1=[]:=by
 have e:(known g).2=9:=(Ps g.Spots.length 0 []).resolve_left h
 unfold masses
 rw[if_neg (by rw[ck];simp),if_pos (H8 h1 h2),if_pos h]
 exact⟨e,rfl⟩
def X2 (a:E8)(x y:Int):E8:=⟨a.Hour,a.Spot,a.Kind,x,y,a.Take⟩
theorem U7:∀ (A:List E8)(i:Nat)(x y:Int),i<A.length→splice (A.flatMap Bn) (i*6+3) [iv x,iv y]=(A.set i (X2 (A.getD i default) x y)).flatMap Bn
 | [],i,x,y,h=>by simp at h
 | a :: A,0,x,y,_=>by
  show splice (Bn a ++ A.flatMap Bn) 3 [iv x,iv y]=Bn (X2 a x y) ++ A.flatMap Bn
  unfold splice
  rfl
 | a :: A,i+1,x,y,h=>by
  have ih:=U7 A i x y (by simpa using h)
  rw[List.flatMap_cons,show (i+1)*6+3=(Bn a).length+(i*6+3) by rw[Ba];omega,Re,ih]
  rfl
theorem Ok.mass {g:Cv}(h:Ok g){k:Nat}(hk:k<g.Acts.length):1≤(g.Acts.getD k default).Min∧(g.Acts.getD k default).Min≤(g.Acts.getD k default).Max∧(g.Acts.getD k default).Max≤1000000:=by
 obtain⟨_,a⟩:=h.at hk
 exact a.m
theorem X3:∀ (A:List E8)(i:Nat)(y:Int),i<A.length→splice (A.flatMap Bn) (i*6+4) [iv y]=(A.set i (X2 (A.getD i default) (A.getD i default).Min y)).flatMap Bn
 | [],i,y,h=>by simp at h
 | a :: A,0,y,_=>by
  show splice (Bn a ++ A.flatMap Bn) 4 [iv y]=Bn (X2 a a.Min y) ++ A.flatMap Bn
  unfold splice
  rfl
 | a :: A,i+1,y,h=>by
  have ih:=X3 A i y (by simpa using h)
  rw[List.flatMap_cons,show (i+1)*6+4=(Bn a).length+(i*6+4) by rw[Ba];omega,Re,ih]
  rfl
structure MsA (a b:E8):Prop where
 h:b.Hour=a.Hour
 s:b.Spot=a.Spot
 k:b.Kind=a.Kind
 t:b.Take=a.Take
 m:1≤b.Min∧b.Min≤b.Max∧b.Max≤1000000
structure MsL (A L:List E8)(i:Nat):Prop where
 len:L.length=A.length
 na:∀ k,k<A.length→MsA (A.getD k default) (L.getD k default)
 cl:∀ k,k<i→(L.getD k default).Max≤(L.getD k default).Min+3
theorem MsL.start {g:Cv}(h:Ok g):MsL g.Acts g.Acts 0:=⟨rfl,fun k hk=>⟨rfl,rfl,rfl,rfl,by have:=h.mass hk;omega⟩,fun k hk=>by omega⟩
theorem Uc {L:List E8}{i:Nat}(hi:i<L.length)(a:E8)(k:Nat):(L.set i a).getD k default=if i=k then a else L.getD k default:=by
 rw[A0l]
 by_cases c:i=k
 ·rw[if_pos ⟨c,by omega⟩,if_pos c]
 ·rw[if_neg (fun q=>c q.1),if_neg c]
theorem MsL.put {A L:List E8}(h:MsL A L 0){i:Nat}(hi:i<A.length){x y:Int}(q:1≤x∧x≤y∧y≤1000000):MsL A (L.set i (X2 (L.getD i default) x y)) 0:=by
 have hl:=h.len
 refine⟨by rw[List.length_set];exact hl,fun k hk=>?_,fun k hk=>by omega⟩
 rw[Uc (by omega)]
 split
 ·rename_i c
  subst c
  have n:=h.na i hi
  exact⟨n.h,n.s,n.k,n.t,q⟩
 ·exact h.na k hk
theorem MsL.clamp {A L:List E8}{i:Nat}(h:MsL A L i)(hi:i<A.length):MsL A (L.set i (X2 (L.getD i default) (L.getD i default).Min (min (L.getD i default).Max (IntKind.i64.wrap ((L.getD i default).Min+3))))) (i+1):=by
 have hl:=h.len
 have n:=h.na i hi
 have m:=n.m
 have e:IntKind.i64.wrap ((L.getD i default).Min+3)=(L.getD i default).Min+3:=H4 (by omega) (by omega)
 rw[e]
 refine⟨by rw[List.length_set];exact hl,fun k hk=>?_,fun k hk=>?_⟩
 ·rw[Uc (by omega)]
  split
  ·rename_i c
   subst c
   exact⟨n.h,n.s,n.k,n.t,by show 1≤(L.getD i default).Min∧(L.getD i default).Min≤min _ _∧min _ _≤(1000000:Int);omega⟩
  ·exact h.na k hk
 ·rw[Uc (by omega)]
  split
  ·show min _ _≤(L.getD i default).Min+3
   omega
  ·exact h.cl k (by omega)
theorem Sp {g k:Cv}(hs:g.Spots.length≤4)(hq:g.Sorts.length≤4)(e1:k.Spots.length=g.Spots.length)(e2:k.Sorts.length=g.Sorts.length):∀ (A B:List E8)(x:Int),B.length=A.length→(∀ i,i<A.length→MsA (A.getD i default) (B.getD i default))→Dq g x A=0→Dq k x B=0
 | [],B,x,l,_,_=>by
  cases B with
  | nil=>rfl
  | cons b B=>simp at l
 | a :: A,B,x,l,n,q=>by
  cases B with
  | nil=>simp at l
  | cons b B =>
   have na:MsA a b:=n 0 (by simp)
   rw[Dq]at q ⊢
   by_cases z:He g x a≠0
   ·rw[if_pos z]at q;exact absurd q z
   ·rw[if_neg z]at q
    have C:=Pl (Decidable.not_not.1 z) hs hq
    have m:=na.m
    have e:He k x b=0:=Uz (by omega) (by omega) (by
     rw[e1,e2]
     exact⟨by rw[na.h];exact C.h,by rw[na.s];exact C.s,by rw[na.k];exact C.k,by rw[na.t,na.k];exact C.t,by omega⟩)
    rw[if_neg (by rw[e];simp),na.h]
    exact Sp hs hq e1 e2 A B a.Hour (by simpa using l) (fun i hi=>n (i+1) (by simpa using hi)) q
theorem MsL.check {g:Cv}{L:List E8}{i:Nat}(h:MsL g.Acts L i)(ck:Swa.check g=0):Swa.check ⟨g.Spots,g.Sorts,L⟩=0:=by
 have ok:=Nm ck
 have m1:Oq (g.Spots.length:Nat) 4=0:=by unfold Oq;rw[if_neg (by have:=ok.spots;omega),if_neg (by have:=ok.spots;omega)]
 have m2:Oq (g.Sorts.length:Nat) 4=0:=by unfold Oq;rw[if_neg (by have:=ok.sorts;omega),if_neg (by have:=ok.sorts;omega)]
 unfold Swa.check
 rw[if_neg (by show ¬ (Oq (g.Spots.length:Nat) 4≠0);rw[m1];simp),if_pos (List.all_eq_true.2 ok.spot)]
 unfold Pd
 rw[if_neg (by show ¬ (Oq (g.Sorts.length:Nat) 4≠0);rw[m2];simp),if_pos (List.all_eq_true.2 ok.sort)]
 unfold Pc
 rw[if_neg (by show ¬ (10<L.length);rw[h.len];have:=ok.acts;omega)]
 exact Sp (k:=⟨g.Spots,g.Sorts,L⟩) ok.spots.2 ok.sorts.2 rfl rfl g.Acts L 0 h.len h.na ok.act
theorem A0x {g:Cv}(h:(known g).2≠0):(known g).2=9:=(Ps g.Spots.length 0 []).resolve_left h
theorem A7T {g:Cv}(ck:check g=0)(ok:Ok g){spot hour age:Int}(h0:0≤spot∧spot<g.Spots.length)(h1:0≤hour)(h2:hour≤72)(h3:0≤age)(h4:age≤72)(h:(known g).2≠0):(older g spot hour age).2=9:=by
 have sp:=ok.spots
 have w:Dz (g.Spots.length-1)=g.Spots.length-1:=H4 (by omega) (by omega)
 unfold older
 rw[if_neg (by rw[ck];simp),if_pos (by rw[w];exact H8 h0.1 (by omega)),if_pos ⟨H8 h1 h2,H8 h3 h4⟩,if_pos h]
 exact A0x h
theorem A4U {g:Cv}(ck:check g=0)(h:(known g).2≠0):(breaks g).2.2=9:=by
 unfold breaks
 rw[if_neg (by rw[ck];simp),if_pos h]
 exact A0x h
theorem Fr.down {N N':Nat}{X:List Nat}{A B:Aa}(h:Fr N' X A B)(hn:N≤N'):Fr N X A B:=h.mono hn fun _ hb _=>hb
theorem GS.upd_gr' {B:Aa}{s n g' e:Nat}{l:Bool}{v:Value}{c d:List Value}{T:TypeId}{g:Option Nat}(G:GS B s n v c g)(hne:g≠some g'):GS (B.upd (B.n+1) B.n (.cells d T (.gr g' e l))) s n v c g:=by
 cases G with
 | nil hn hv hc=>exact .nil hn hv hc
 | full hv hb hg hk hl hc h0=>exact .full hv (Nat.lt_succ_of_lt hb) ((Cr (by omega)).trans hg) hk hl hc h0
 | gr hv hb hgb hg hl hf =>
  refine .gr hv (Nat.lt_succ_of_lt hb) hgb ((Cr (by omega)).trans hg) hl ?_
  intro b' c' T' e' l' hb'
  by_cases e1:b'=B.n
  ·subst e1
   rw[Ch]at hb'
   cases hb'
   exact absurd rfl hne
  ·rw[Cr e1]at hb'
   exact hf _ _ _ _ _ hb'
structure App (H G:Aa)(g g':Option Nat)(m:Nat):Prop where
 n:H.n≤G.n
 top:C1 G
 fr:∀ N,N≤H.n→(∀ x,g=some x→N≤x)→Fr N [] H G
 old:∀ b,b<H.n→G.get b=H.get b
 grp:(m=0∧g'=g)∨(0<m∧g'=some (g.getD H.n))
 keep:∀ {s n:Nat}{v:Value}{c:List Value}{g2:Option Nat},GS H s n v c g2→g2≠some (g.getD H.n)→GS G s n v c g2
theorem B4e {P:Program}{ts:Array TypeId}{H:Aa}{s n m e:Nat}{v x:Value}{c new:List Value}{g:Option Nat}{K:Value→Aa→Prop}(ht:C1 H)(G:GS H s n v c g)(S:SR H s m x new)
  (h1:0<m→Cg P ts [v,x] H=some (.slice (some ⟨H.n,0,none⟩) (n+m) (n+m),H.upd (H.n+1) H.n (.cells (c ++ new) e (.gr (g.getD H.n) s true))))(h0:m=0→Cg P ts [v,x] H=some (v,H))
  (k:∀ v' G' g',App H G' g g' m→GS G' s (n+m) v' (c ++ new) g'→(v'=v∨H.n≤C4 v')→K v' G'):oB (Cg P ts [v,x] H) K:=by
 by_cases hm:m=0
 ·rw[h0 hm]
  have hnew:new=[]:=by have:=S.len;subst hm;simpa using this
  subst hm hnew
  exact k v H g ⟨Nat.le_refl _,ht,fun N _ _=>Fr.refl _,fun _ _=>rfl,.inl ⟨rfl,rfl⟩,fun G2 _=>G2⟩ (by rw[List.append_nil];exact G) (.inl rfl)
 ·rw[h1 (by omega)]
  have GG:=GS.pushed (e:=e) ht G S.len
  have hf:∀ N,N≤H.n→(∀ x,g=some x→N≤x)→Fr N [] H (H.upd (H.n+1) H.n (.cells (c ++ new) e (.gr (g.getD H.n) s true))):=fun N hN hg=>(Fr.refl H).upd (Nat.le_succ _) (Nat.lt_succ_self _) (.inl (Nat.le_refl _)) (G.grpOk hN hg)
  exact k _ _ _ ⟨Nat.le_succ _,(hf 0 (Nat.zero_le _) fun _ _=>Nat.zero_le _).top ht,hf,fun b hb=>Cr (by omega),.inr ⟨by omega,rfl⟩,fun G2 hne=>G2.upd_gr' hne⟩ GG (.inr (Nat.le_refl _))
theorem App.lt {H G:Aa}{g g':Option Nat}{m:Nat}(a:App H G g g' m){N:Nat}(hN:N≤H.n)(hg:∀ x,g=some x→N≤x):∀ x,g'=some x→N≤x:=by
 intro x hx
 rcases a.grp with⟨_,q⟩|⟨_,q⟩
 ·exact hg x (q ▸ hx)
 ·rw[q]at hx
  cases hx
  exact Je hg hN
def RS (H:Aa)(N:Nat)(v:Value)(rs:List Iy)(g:Option Nat):Prop:=∃ vs,GS H 1 rs.length v vs g∧(∀ x,g=some x→N≤x)∧D8 H [] vs rs
theorem RS.nul {H:Aa}{N:Nat}:RS H N (.slice none 0 0) [] none:=⟨[],.nil rfl rfl rfl,by simp,trivial⟩
theorem RS.fr0 {H G:Aa}{N:Nat}{v:Value}{rs:List Iy}{g:Option Nat}(h:RS H N v rs g)(F:Fr H.n [] H G):RS G N v rs g:=by
 obtain⟨vs,a,b,c⟩:=h
 exact⟨vs,a.fr0 F,b,c.fr F (by simp)⟩
theorem RS.keep {H G:Aa}{N m:Nat}{v:Value}{rs:List Iy}{g1 g2 g:Option Nat}(h:RS H N v rs g)(a:App H G g1 g2 m)(hne:g≠some (g1.getD H.n)):RS G N v rs g:=by
 obtain⟨vs,a1,b,c⟩:=h
 exact⟨vs,a.keep a1 hne,b,c.fr (a.fr 0 (Nat.zero_le _) fun _ _=>Nat.zero_le _) (by simp)⟩
theorem RS.gn {H:Aa}{N:Nat}{v:Value}{rs:List Iy}{g:Option Nat}(h:RS H N v rs g):∀ x,g=some x→x<H.n:=by
 obtain⟨vs,a,b,c⟩:=h
 intro x hx
 subst hx
 exact a.grp_lt
theorem RS.one {H:Aa}{N:Nat}{v:Value}{rs:List Iy}{g:Option Nat}(h:RS H N v rs g):Swa.one v:=by
 obtain⟨vs,a,b,c⟩:=h
 exact a.one
theorem RS.app {P:Program}{ts:Array TypeId}{H:Aa}{N1 N2 e:Nat}{v x:Value}{rs ss:List Iy}{g g2:Option Nat}{K:Value→Aa→Prop}(ht:C1 H)(A:RS H N1 v rs g)(B:RS H N2 x ss g2)(hN:N1≤H.n)
  (h1:∀ c new,GS H 1 rs.length v c g→SR H 1 ss.length x new→0<ss.length→Cg P ts [v,x] H=some (.slice (some ⟨H.n,0,none⟩) (rs.length+ss.length) (rs.length+ss.length),H.upd (H.n+1) H.n (.cells (c ++ new) e (.gr (g.getD H.n) 1 true))))(h0:∀ c new,GS H 1 rs.length v c g→SR H 1 0 x new→Cg P ts [v,x] H=some (v,H))
  (k:∀ v' G' g',App H G' g g' ss.length→RS G' N1 v' (rs ++ ss) g'→K v' G'):oB (Cg P ts [v,x] H) K:=by
 obtain⟨vs,a1,a2,a3⟩:=A
 obtain⟨us,b1,b2,b3⟩:=B
 refine B4e ht a1 b1.sr (h1 _ _ a1 b1.sr) (fun hm=>h0 _ _ a1 (by rw[← hm];exact b1.sr)) fun v' G' g' a G hv=>k v' G' g' a ⟨vs ++ us,by rw[List.length_append];exact G,a.lt hN a2, ?_⟩
 have F:=a.fr 0 (Nat.zero_le _) fun _ _=>Nat.zero_le _
 exact(a3.fr F (by simp)).app (b3.fr F (by simp))
theorem A7U (g:Cv)(h:Hp)(spot:Nat)(hour:Int)(now:On)(s:Hst)(i:Nat)(a:E8):s.out.length≤(Oh g h spot hour now s i a).out.length∧(Oh g h spot hour now s i a).out.length≤s.out.length+2:=by
 unfold Oh
 split
 ·exact⟨Nat.le_refl _,by omega⟩
 ·dsimp only
  split <;> split <;> (try simp only[List.length_append,List.length_singleton]) <;> omega
theorem A3M (g:Cv)(h:Hp)(spot:Nat)(hour:Int)(now:On):∀ (l:List E8)(i:Nat)(s:Hst),s.out.length≤(Ot g h spot hour now i l s).out.length∧(Ot g h spot hour now i l s).out.length≤s.out.length+2*l.length
 | [],i,s=>by rw[Ot];exact⟨Nat.le_refl _,by omega⟩
 | a :: l,i,s=>by
  rw[Ot,List.length_cons]
  have h1:=A7U g h spot hour now s i a
  have h2:=A3M g h spot hour now l (i+1) (if a.Spot=spot then Oh g h spot hour now s i a else s)
  split at h2
  ·rename_i q
   rw[if_pos q]
   omega
  ·rename_i q
   rw[if_neg q]
   omega
theorem Qo (g:Cv)(h:Hp)(spot:Nat)(hour:Int):1≤(Fl g h spot hour).length∧(Fl g h spot hour).length≤1+2*g.Acts.length:=by
 unfold Fl
 have:=A3M g h spot hour (Gw g h hour) g.Acts 0 ⟨[[⟨spot,(Gw g h hour).takes,(Gw g h hour).tips,Lg g spot (Gw g h hour).kind.toNat⟩]],0,0⟩
 exact this
theorem Rf (g:Cv)(hs:List Hp)(hour:Int):∀ n,n≤(Eh g hs hour n).length∧(Eh g hs hour n).length≤n*(1+2*g.Acts.length)
 | 0=>⟨Nat.le_refl _,Nat.zero_le _⟩
 | n+1=>by
  have h1:=Rf g hs hour n
  have h2:=Qo g (hs.getD n default) n hour
  rw[Eh,List.length_append,Nat.add_mul]
  omega
theorem U8 (g:Cv)(hs:List Hp)(hour:Int)(b:Nat):∀ n,(Gf g hs hour b n).length≤n
 | 0=>Nat.le_refl _
 | n+1=>by
  have h1:=U8 g hs hour b n
  have h2:(Lu g hs hour b n).length≤1:=by
   unfold Lu
   dsimp only
   split <;> simp
  rw[Gf,List.length_append]
  omega
theorem Qp (g:Cv)(hs:List Hp)(hour:Int):∀ n,(Ci g hs hour n).length≤n*n
 | 0=>Nat.le_refl _
 | n+1=>by
  have h1:=Qp g hs hour n
  have h2:=U8 g hs hour n n
  rw[Ci,List.length_append,Nat.add_mul,Nat.mul_add]
  omega
def I4 (N:Nat)(rs:List Iy):Prop:=∀ r,r∈rs→B0e N r∧r.length≤2
theorem I4.nil {N:Nat}:I4 N []:=fun r h=>by simp at h
theorem I4.app {N:Nat}{a b:List Iy}(h:I4 N a)(k:I4 N b):I4 N (a ++ b):=fun r hr=>by
 rcases List.mem_append.1 hr with q|q
 ·exact h r q
 ·exact k r q
theorem I4.one {N:Nat}{w:Pm}(h:A3L N w):I4 N [[w]]:=fun r hr=>by
 rw[List.mem_singleton]at hr
 subst hr
 refine⟨fun x hx=>?_,by show 1≤2;omega⟩
 rw[List.mem_singleton]at hx
 subst hx
 exact h
theorem I4.two {N:Nat}{w u:Pm}(h:A3L N w)(k:A3L N u):I4 N [[w,u]]:=fun r hr=>by
 rw[List.mem_singleton]at hr
 subst hr
 refine⟨fun x hx=>?_,by show 2≤2;omega⟩
 simp only[List.mem_cons,List.not_mem_nil,or_false]at hx
 rcases hx with rfl|rfl
 ·exact h
 ·exact k
theorem I4.ok {N:Nat}{rs:List Iy}(h:I4 N rs):Ub N rs:=fun r hr=>(h r hr).1
theorem Few.wayok {h:Hp}(hf:Few h){N spot:Nat}(hs:spot<N)(act:Int):A3L N (Eg spot (h.before act)):=⟨hs,(hf.before act).2,(hf.before act).1⟩
theorem A4V {g:Cv}{h:Hp}(hf:Few h){N spot:Nat}(hs:spot<N){hour:Int}{now:On}(hn:now.takes<11){s:Hst}(i:Nat)(a:E8)(k:I4 N s.out):I4 N (Oh g h spot hour now s i a).out:=by
 unfold Oh
 split
 ·exact k
 ·dsimp only
  have k1:I4 N (if Dz (a.Hour+(g.Sorts.getD a.Kind.toNat default).Age)<hour then s.out ++ [[⟨spot,now.takes,(h.before ((i+1:Nat):Int)).tips,0⟩]] else s.out):=by
   split
   ·exact k.app (I4.one ⟨hs,hn,(hf.before _).1⟩)
   ·exact k
  split
  ·exact k1.app (I4.one (hf.wayok hs _))
  ·exact k1
theorem Ud {g:Cv}{h:Hp}(hf:Few h){N spot:Nat}(hs:spot<N){hour:Int}{now:On}(hn:now.takes<11):∀ (l:List E8)(i:Nat)(s:Hst),I4 N s.out→I4 N (Ot g h spot hour now i l s).out
 | [],i,s,k=>by rw[Ot];exact k
 | a :: l,i,s,k=>by
  rw[Ot]
  split
  ·exact Ud hf hs hn l _ _ (A4V hf hs hn i a k)
  ·exact Ud hf hs hn l _ _ k
theorem X4 {g:Cv}{h:Hp}(hf:Few h){N spot:Nat}(hs:spot<N)(hour:Int):I4 N (Fl g h spot hour):=by
 unfold Fl
 have hb:=hf.before (B5 hour g.Acts)
 exact Ud hf hs hb.2 _ _ _ (I4.one ⟨hs,hb.2,hb.1⟩)
theorem U9 {g:Cv}{hs:List Hp}{N:Nat}(hf:∀ j,j<N→Few (hs.getD j default))(hour:Int):∀ n,n≤N→I4 N (Eh g hs hour n)
 | 0,_=>I4.nil
 | n+1,h=>(U9 hf hour n (by omega)).app (X4 (hf n (by omega)) (by omega) hour)
theorem Sq {g:Cv}{hs:List Hp}{N:Nat}(hf:∀ j,j<N→Few (hs.getD j default))(hour:Int){b:Nat}(hb:b<N):∀ n,n≤b→I4 N (Gf g hs hour b n)
 | 0,_=>I4.nil
 | n+1,h=>by
  refine(Sq hf hour hb n (by omega)).app ?_
  unfold Lu
  dsimp only
  split
  ·exact I4.nil
  ·exact I4.two ((hf n (by omega)).wayok (by omega) _) ((hf b hb).wayok hb _)
theorem Pt {g:Cv}{hs:List Hp}{N:Nat}(hf:∀ j,j<N→Few (hs.getD j default))(hour:Int):∀ n,n≤N→I4 N (Ci g hs hour n)
 | 0,_=>I4.nil
 | n+1,h=>(Pt hf hour n (by omega)).app (Sq hf hour (by omega) n (Nat.le_refl _))
def Dis (a b:Option Nat):Prop:=∀ x,a=some x→b≠some x
theorem Dis.ne {a b:Option Nat}{n:Nat}(h:Dis a b)(hl:∀ x,a=some x→x<n):a≠some (b.getD n):=by
 intro e
 cases b with
 | none=>exact Nat.lt_irrefl _ (hl n e)
 | some y=>exact h y e rfl
theorem Dis.symm {a b:Option Nat}(h:Dis a b):Dis b a:=fun x hx hy=>h x hy hx
theorem Dis.app {H G:Aa}{a a' b:Option Nat}{m:Nat}(h:Dis a b)(ap:App H G a a' m)(hl:∀ x,b=some x→x<H.n):Dis a' b:=by
 rcases ap.grp with⟨_,e⟩|⟨_,e⟩
 ·rw[e];exact h
 ·intro x hx hy
  rw[e]at hx
  exact h.symm.ne hl (hy.trans hx.symm)
theorem Dis.far {a b:Option Nat}{n:Nat}(h:∀ x,a=some x→x<n)(k:∀ x,b=some x→n≤x):Dis a b:=fun x hx hy=>by
 have:=h x hx
 have:=k x hy
 omega
section
variable {g:Cv} {B4 B6 rr:Nat} {va vb vc xa xb xc:Value} {sl sl':List Srt} {h h':Aa}
end
def kp (H:Aa)(g b:Nat)(o:Dd):Aa:=(H.kill g b).put b o
theorem B0f {H:Aa}{b o s:Nat}{x:Value}{c:List Value}{T:TypeId}{g e:Nat}(hx:Eo x=true)(hs:x.cells.size=s)(ho:o+s≤c.length) :
  Mg H b o s x (.cells c T (.gr g e true))=some (kp H g b (.cells (splice c o x.cells.toList) T (.gr g e true))):=by
 unfold Mg
 dsimp only
 rw[if_pos ⟨hx,hs,ho,rfl⟩]
 rfl
section
variable {H:Aa} {g b c:Nat} {o:Dd}
theorem A1X:(kp H g b o).get b=o:=by
 show (if b=b then o else _)=o
 rw[if_pos rfl]
theorem A1Y (h:c≠b):(kp H g b o).get c=if c<g then H.get c else (H.get c).killed g:=by
 show (if c=b then o else (H.kill g b).get c)=_
 rw[if_neg h]
 show (if c=b then H.get c else if c<g then H.get c else (H.get c).killed g)=_
 rw[if_neg h]
theorem A0z (h:c≠b)(hc:c<g):(kp H g b o).get c=H.get c:=by rw[A1Y h,if_pos hc]
theorem A4W {x:Dd}(h:∀ d T e l,x≠.cells d T (.gr g e l)):x.killed g=x:=by
 unfold Dd.killed
 split
 ·rename_i d T g' e l
  split
  ·rename_i q
   subst q
   exact absurd rfl (h _ _ _ _)
  ·rfl
 ·rfl
theorem B4f (h:c≠b)(hc:∀ d T e l,H.get c≠.cells d T (.gr g e l)):(kp H g b o).get c=H.get c:=by
 rw[A1Y h]
 split
 ·rfl
 ·exact A4W hc
theorem B0g {d:List Value}{T:TypeId}(h:c≠b)(hc:H.get c=.cells d T .ex):(kp H g b o).get c=.cells d T .ex:=by
 rw[B4f h (fun d T e l q=>by rw[hc]at q;cases q),hc]
theorem B25 {d:List Value}{T:TypeId}{g' e:Nat}{l:Bool}(h:c≠b)(hg:(kp H g b o).get c=.cells d T (.gr g' e l)):(g'≠g∧H.get c=.cells d T (.gr g' e l))∨(g'=g∧∃ l',H.get c=.cells d T (.gr g e l')):=by
 rw[A1Y h]at hg
 have key:(H.get c).killed g=.cells d T (.gr g' e l)→(g'≠g∧H.get c=.cells d T (.gr g' e l))∨(g'=g∧∃ l',H.get c=.cells d T (.gr g e l')):=fun q=>by
  unfold Dd.killed at q
  split at q
  ·rename_i d2 T2 g2 e2 l2 he
   split at q
   ·rename_i hh
    subst hh
    cases q
    exact .inr ⟨rfl,_,he⟩
   ·rename_i hh
    cases q
    exact .inl ⟨hh,he⟩
  ·rename_i hh
   exact absurd q (hh _ _ _ _ _)
 split at hg
 ·by_cases e1:g'=g
  ·subst e1;exact .inr ⟨rfl,_,hg⟩
  ·exact .inl ⟨e1,hg⟩
 ·exact key hg
theorem C1.kp (ht:C1 H)(hb:b<H.n){d:List Value}{T:TypeId}{e:Nat}{l:Bool}(hg:g≤b):C1 (Swa.kp H g b (.cells d T (.gr g e l))):=by
 refine⟨fun c hc=>?_,fun c=>?_⟩
 ·have hc:H.n≤c:=hc
  rw[A1Y (by omega),ht.1 c hc]
  split <;> rfl
 ·intro d2 T2 g2 e2 l2 hh
  by_cases e1:c=b
  ·subst e1
   rw[A1X]at hh
   cases hh
   exact hg
  ·rcases B25 e1 hh with⟨_,q⟩|⟨rfl,l',q⟩
   ·exact ht.2 c _ _ _ _ _ q
   ·exact ht.2 c _ _ _ _ _ q
theorem Fr.kp {N:Nat}{X:List Nat}{A B:Aa}(F:Fr N X A B)(hN:N≤g)(hA:A.n≤g)(hb:b<B.n)(hg:g≤b){d:List Value}{T:TypeId}{e:Nat}{l:Bool}:Fr N X A (Swa.kp B g b (.cells d T (.gr g e l))) where
 n:=F.n
 old c hc hX:=by rw[A0z (by omega) (by omega)];exact F.old c hc hX
 grp c d2 T2 g2 e2 l2 hh hl:=by
  by_cases e1:c=b
  ·subst e1
   rw[A1X]at hh
   cases hh
   omega
  ·rcases B25 e1 hh with⟨_,q⟩|⟨rfl,l',q⟩
   ·rw[hh,← q]
    exact F.grp c _ _ _ _ _ q hl
   ·omega
 top ht:=(F.top ht).kp hb hg
end
theorem Fr.all {N:Nat}{H0 A B:Aa}(h0:Fr N [] H0 A)(ht:C1 H0)(h1:Fr N [] H0 B)(hn:A.n≤B.n)(hT:C1 B):Fr N (List.range A.n) A B where
 n:=hn
 old c hc hX:=absurd (List.mem_range.2 hc) hX
 grp c d T g e l hh hl:=by
  have q:=h1.grp c d T g e l hh hl
  by_cases c0:c<H0.n
  ·rw[q,h0.old c c0 (by simp)]
  ·rw[ht.1 c (by omega)]at q
   rw[q]at hh
   cases hh
 top _:=hT
structure Vv (g:Cv)(al:List E8)(B4 gg bc:Nat)(T:TypeId)(va vb vc:Value)(h:Aa):Prop where
 g4:h.get B4=.cells [va,vb,vc] 26 .ex
 p:SR h 3 g.Spots.length va (g.Spots.flatMap G7)
 q:SR h 4 g.Sorts.length vb (g.Sorts.flatMap Fs)
 hk:g.Spots.length=0∨SK h 3 va
 len:al.length=g.Acts.length
 xr:(g.Acts.length=0∧vc=.slice none 0 0)∨(vc=.slice (some ⟨bc,0,none⟩) g.Acts.length g.Acts.length∧h.get bc=.cells (al.flatMap Bn) T (.gr gg 6 true)∧gg≤bc∧bc<h.n)
 la:g.Spots.length=0∨C4 va<gg
 lb:g.Sorts.length=0∨C4 vb<gg
 bd:B4<h.n∧gg≤B4∧B4≠bc
theorem SR.same {A B:Aa}{s n:Nat}{v:Value}{c:List Value}(h:SR A s n v c)(hn:A.n≤B.n)(hg:n=0∨B.get (C4 v)=A.get (C4 v)):SR B s n v c:=by
 rcases hg with q|q
 ·subst q
  exact⟨h.shape,h.len,.inl rfl,.inl rfl⟩
 ·refine⟨h.shape,h.len, ?_, ?_⟩
  ·rcases h.cells with z|⟨d,z1,z2,z3⟩
   ·exact .inl z
   ·refine .inr ⟨d, ?_,z2,z3⟩
    rw[Bf]at z1 ⊢
    rw[q];exact z1
  ·rcases h.lt with z|z
   ·exact .inl z
   ·exact .inr (by omega)
section
variable {g:Cv} {al al':List E8} {B4 gg bc:Nat} {T:TypeId} {va vb vc:Value} {h h':Aa}
theorem Vv.rg (k:Vv g al B4 gg bc T va vb vc h):RG h va vb vc ⟨g.Spots,g.Sorts,al⟩:=by
 refine⟨k.p,k.q, ?_⟩
 show SR h 6 al.length vc (al.flatMap Bn)
 have ln:(al.flatMap Bn).length=g.Acts.length*6:=by rw[Wt Ba,k.len]
 rw[k.len]
 rcases k.xr with⟨q0,q1⟩|⟨q0,q1,q2,q3⟩
 ·rw[q0]at ln ⊢
  exact⟨.inl ⟨q1,rfl⟩,ln,.inl rfl,.inl rfl⟩
 ·subst q0
  refine⟨.inr ⟨_,_,_,rfl,Nat.le_refl _⟩,ln,.inr ⟨_,by rw[Bf];show rdO (h.get bc)=_;rw[q1];rfl, ?_, ?_⟩,.inr q3⟩
  ·show 0+_≤_
   rw[ln];omega
  ·show (List.drop 0 _).take _=_
   rw[List.drop_zero,List.take_of_length_le (by omega)]
theorem Vv.store (k:Vv g al B4 gg bc T va vb vc h)(hi:0<g.Acts.length)(hl:al'.length=al.length):Vv g al' B4 gg bc T va vb vc (kp h gg bc (.cells (al'.flatMap Bn) T (.gr gg 6 true))):=by
 obtain⟨b1,b2,b3⟩:=k.bd
 rcases k.xr with⟨q0,q1⟩|⟨q0,q1,q2,q3⟩
 ·omega
 refine⟨B0g b3 k.g4,k.p.same (Nat.le_refl _) ?_,k.q.same (Nat.le_refl _) ?_, ?_,by rw[hl];exact k.len,.inr ⟨q0,A1X,q2,q3⟩,k.la,k.lb,k.bd⟩
 ·rcases k.la with z|z
  ·exact .inl z
  ·exact .inr (A0z (by omega) z)
 ·rcases k.lb with z|z
  ·exact .inl z
  ·exact .inr (A0z (by omega) z)
 ·rcases k.hk with z|⟨d,T,kk,e1,e2⟩
  ·exact .inl z
  ·rcases k.la with z|z
   ·exact .inl z
   ·exact .inr ⟨d,T,kk,(A0z (by omega) z).trans e1,e2⟩
end
def LL (H:Aa):List Value→List (List Int)→Prop
 | [],[]=>True
 | v :: vs,l :: ls=>SR H 1 l.length v (Ck l)∧LL H vs ls
 | _,_=>False
theorem LL.len {H:Aa}:∀ {vs:List Value}{ls:List (List Int)},LL H vs ls→vs.length=ls.length
 | [],[],_=>rfl
 | v :: vs,r :: rs,h=>by rw[List.length_cons,List.length_cons,LL.len h.2]
 | [],_ :: _,h=>h.elim
 | _ :: _,[],h=>h.elim
theorem LL.fr {N:Nat}{A B:Aa}(F:Fr N [] A B):∀ {vs:List Value}{ls:List (List Int)},LL A vs ls→LL B vs ls
 | [],[],_=>trivial
 | v :: vs,r :: rs,h=>⟨h.1.fr0 F,LL.fr F h.2⟩
 | [],_ :: _,h=>h.elim
 | _ :: _,[],h=>h.elim
theorem LL.snoc {H:Aa}{x:Value}{l:List Int}(k:SR H 1 l.length x (Ck l)):∀ {vs:List Value}{ls:List (List Int)},LL H vs ls→LL H (vs ++ [x]) (ls ++ [l])
 | [],[],_=>⟨k,trivial⟩
 | v :: vs,r :: rs,h=>⟨h.1,LL.snoc k h.2⟩
 | [],_ :: _,h=>h.elim
 | _ :: _,[],h=>h.elim
theorem LL.at {H:Aa}:∀ {vs:List Value}{ls:List (List Int)},LL H vs ls→∀ i,i<ls.length→∃ v,vs[i]? = some v∧SR H 1 (ls.getD i []).length v (Ck (ls.getD i []))
 | [],[],_,i,hi=>by simp at hi
 | v :: vs,r :: rs,h,0,_=>⟨v,rfl,h.1⟩
 | v :: vs,r :: rs,h,i+1,hi=>LL.at h.2 i (by simpa using hi)
 | [],_ :: _,h,_,_=>h.elim
 | _ :: _,[],h,_,_=>h.elim
def TS (H:Aa)(N:Nat)(v:Value)(ls:List (List Int))(g:Option Nat):Prop:=∃ vs,GS H 1 ls.length v vs g∧(∀ x,g=some x→N≤x)∧LL H vs ls
theorem TS.nul {H:Aa}{N:Nat}:TS H N (.slice none 0 0) [] none:=⟨[],.nil rfl rfl rfl,by simp,trivial⟩
theorem TS.fr0 {H G:Aa}{N:Nat}{v:Value}{ls:List (List Int)}{g:Option Nat}(h:TS H N v ls g)(F:Fr H.n [] H G):TS G N v ls g:=by
 obtain⟨vs,a,b,c⟩:=h
 exact⟨vs,a.fr0 F,b,c.fr F⟩
theorem TS.one {H:Aa}{N:Nat}{v:Value}{ls:List (List Int)}{g:Option Nat}(h:TS H N v ls g):Swa.one v:=by
 obtain⟨vs,a,b,c⟩:=h
 exact a.one
end Go.Proofs.Swa
