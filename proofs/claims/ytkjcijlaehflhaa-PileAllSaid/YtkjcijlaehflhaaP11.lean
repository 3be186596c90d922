/- Part 11. -/
import Derived.Test.YtkjcijlaehflhaaP10
set_option maxRecDepth 20000
set_option linter.unusedVariables false
set_option linter.unusedSimpArgs false
namespace Go.Proofs.Swa
open Go
open Nat renaming reduceAdd → nrA, reduceMul → nrM, reduceEqDiff → nrE, reduceLT → nrL
open Int renaming reduceToNat → irN
attribute [local congr] Ja Gm I8 I9 Jb Hl Hm Hn
theorem GS.nil_len {H:Aa}{s n:Nat}{c:List Value}{g:Option Nat}(h:GS H s n (.slice none 0 0) c g):n=0:=by
 cases h with
 | nil hn hv hc=>exact hn
 | full hv=>cases hv
 | gr hv=>cases hv
set_option maxHeartbeats 4000000 in
theorem f54 (va vb vc:Value)(g:Cv)(H:Aa)(hT:C1 H)(hG:RG H va vb vc g)(hm:g.Acts.length≤10)(hs:g.Spots.length≤20) :
  ∃ v H',C5 (.fn 54) #[.agg ⟨[va,vb,vc]⟩] H v H'∧(∃ vh l,v=.tuple #[.agg ⟨[va,vb,vc,vh]⟩,iv (known g).2]∧RHs H' vh l∧l.map (·.1)=(known g).1)∧Fr H.n [] H H':=by
 refine Cl.ofW Try.func54 rfl (by kernel_rfl) (by rw[Try.ntmps54];exact Nat.le_of_ble_eq_true rfl) (by kernel_rfl) ?_
 have Ab:True:=trivial
 refine Jx [0] ?_
 intro eg Aj
 simp only[Ag,Af,and_true]at Aj
 try simp only[↓pb,An,Ka,hG.one,Am hG.p,Ab,irN,nrA,nrM,nrE,reduceIte,reduceCtorEq,nrL]at Aj
 replace Ab:=Aj;clear Aj
 repeat'(first|((with_reducible refine hK _ _ fun e2 Aj=>?_);clear hK K;simp only[A2Y,Ag,Af,and_true,↓pb,An,Ka,hG.one,Am hG.p,Ab,irN,nrA,nrM,nrE,reduceIte,reduceCtorEq,nrL]at Aj;clear Ab;(try clear eg);have Ab:=Aj;clear Aj;rename Bi=>eg)|((first|((with_reducible first|apply Ac|apply Al|apply Ak);(simp(disch:=try exact dA) only[Bh,Ka,hG.one,Am hG.p,Ab,irN,nrA,nrM,nrE,reduceIte,reduceCtorEq,nrL];with_reducible exact rfl))|(with_reducible first|refine Ai A2Y fun K hK=>?_));try simp only[↓pb,↓pd,Bp,Ka,hG.one,Am hG.p,Ab,irN,nrA,nrM,nrE,reduceIte,reduceCtorEq,nrL])|((with_reducible apply Au);(simp only[↓pb,An,Ka,hG.one,Am hG.p,Ab,irN,nrA,nrM,nrE,reduceIte,reduceCtorEq,nrL];with_reducible exact rfl);all_goals(intro hc;(first|exact C8 hc|try simp only[C0]at hc)))|(with_reducible first|refine Az ?_|refine Ap ?_|refine At ?_|refine Ay ?_|refine Ax ?_|apply Ad)|((with_reducible apply Ae);(focus decide))|fail)
 refine Db [1,2,4,12] (by kernel_rfl) 13 (g.Spots.length) (H.n) [H.n+2] [] (fun i e h=>∃ (l:List (Hp×Value)) (vh:Value) (gg:Option Nat),h.get (H.n+2)=.cells [va,vb,vc,vh] 91 .ex∧GS h 122 l.length vh (l.flatMap Mq) gg∧(∀ x,gg=some x→H.n≤x)∧(vh=.slice none 0 0∨H.n+2<C4 vh)∧(∀ j,j<l.length→H.n+2<C4 (l.getD j default).2∧SR h 4 (l.getD j default).1.m.length (l.getD j default).2 ((l.getD j default).1.m.flatMap Cq))∧l.length=i∧known g=Ev g i (g.Spots.length-i) (l.map (·.1))) (by simp only[↓pb,An,Ka,hG.one,Am hG.p,Ab,irN,nrA,nrM,nrE,reduceIte,reduceCtorEq,nrL]) (by focus exact Bb) (H0:=H) (by focus exact Bm) (by intro b hb hlt;simp at hb ⊢;try omega) ?_ ?_
 rotate_left
 intro i1 e1 h1 hi1 D3 ei1 Ep D9 Mf Hh
 simp only[Ag,Af,and_true]at D3
 try simp only[↓pb,An,Ka,hG.one,Am hG.p,Ab,irN,nrA,nrM,nrE,reduceIte,reduceCtorEq,nrL]at D3
 have hn11:=Ep.n;have hn01:=D9.n;try simp only[Ao,A3]at hn11
 replace Ab:=B9p ei1 D3
 rotate_left
 ·refine⟨[],.slice none 0 0,none,by simp only[↓pb,An,Ka,hG.one,Am hG.p,Ab,irN,nrA,nrM,nrE,reduceIte,reduceCtorEq,nrL],.nil rfl rfl rfl,by simp,.inl rfl,by simp,rfl,rfl⟩
 obtain⟨l,vh,gg,k1,G,g2,g3,g4,rfl,k2⟩:=Hh
 have r1:h1.rd (H.n+2)=some [va,vb,vc,vh]:=by rw[Bf,k1];rfl
 have ho:=G.one
 by_cases hi2:l.length<g.Spots.length
 ·obtain⟨q,hq⟩:∃ q,g.Spots.length-l.length=q+1:=⟨g.Spots.length-l.length-1,by omega⟩
  rw[hq,Ev]at k2
  repeat'(first|((with_reducible refine hK _ _ fun e2 Aj=>?_);clear hK K;simp only[A2Y,Ag,Af,and_true,↓pb,An,Ka,hG.one,Am hG.p,Ab,irN,nrA,nrM,nrE,reduceIte,reduceCtorEq,nrL]at Aj;clear Ab;(try clear eg);have Ab:=Aj;clear Aj;rename Bi=>eg)|((first|((with_reducible first|apply Ac|apply Al|apply Ak);(simp(disch:=try exact dA) only[Bh,Ka,hG.one,Am hG.p,Ep.rdX,r1,k1,hG.one,ho,Df,Ab,irN,nrA,nrM,nrE,reduceIte,reduceCtorEq,nrL];with_reducible exact rfl))|((with_reducible apply Cy);(focus exact Bb);(simp only[↓pb,An,Ka,hG.one,Am hG.p,Ep.rdX,r1,k1,hG.one,ho,Df,Ab,irN,nrA,nrM,nrE,reduceIte,reduceCtorEq,nrL];exact f83 _ _ _ _ _ _ (by exact Bb) (hG.fr (N:=H.n) (by exact Bm)) hm);(rintro vq Gq hq Fy ⟨vm,rfl,Sm⟩;try simp only[Ao,A3]at hq))|(with_reducible first|refine Ai A2Y fun K hK=>?_));try simp only[↓pb,↓pd,Bp,Ka,hG.one,Am hG.p,Ep.rdX,r1,k1,hG.one,ho,Df,Ab,irN,nrA,nrM,nrE,reduceIte,reduceCtorEq,nrL])|((with_reducible apply Au);(simp only[↓pb,An,Ka,hG.one,Am hG.p,Ep.rdX,r1,k1,hG.one,ho,Df,Ab,irN,nrA,nrM,nrE,reduceIte,reduceCtorEq,nrL];with_reducible exact rfl);all_goals(intro hc;(first|exact C8 hc|try simp only[C0]at hc)))|(with_reducible first|refine Az ?_|refine Ap ?_|refine At ?_|refine Ay ?_|refine Ax ?_|apply Ad)|((with_reducible apply Ae);(focus decide))|fail)
  ·have hp:(Co g l.length).2=false:=by simpa using hc
   rw[hp]at k2
   refine⟨by first|exact .inl rfl|exact .inr rfl, ?_⟩
   rw[Nd Try.results54]
   simp only[↓pb,An,Ka,hG.one,Am hG.p,Bo,Bg,Ep.rdX,D3,r1,Ab,irN,nrA,nrM,nrE,reduceIte,reduceCtorEq,nrL]
   repeat ((with_reducible apply Ac);(simp(disch:=try exact dA) only[Bh,Ka,hG.one,Am hG.p,Ep.rdX,D3,r1,Ab,irN,nrA,nrM,nrE,reduceIte,reduceCtorEq,nrL];exact rfl))
   refine⟨⟨vh,l,by rw[k2];rfl,⟨?_, ?_⟩,by rw[k2];rfl⟩,(by exact Bm)⟩
   ·exact G.sr.fr (N:=H.n) (X:=[H.n+1,H.n+2]) (A:=h1) (by exact Bm) (by rcases g3 with rfl|g3;(left;exact G.nil_len);(right;exact Lw))
   ·intro j hj
    obtain⟨q1,q3⟩:=g4 j hj
    exact q3.fr (N:=H.n) (X:=[H.n+1,H.n+2]) (A:=h1) (by exact Bm) (.inr Lw)
  ·have hp:(Co g l.length).2=true:=by simpa using hc
   rw[if_pos hp]at k2
   refine B7Y (n:=l.length) (m:=1) (c:=l.flatMap Mq) (g:=gg) (GS.ex (G.fr (N:=h1.n) (X:=[]) (by exact Bm) (fun x hx=>by subst hx;exact G.grp_lt) (by simp))) (SR.new (Df _)) (by omega) (by omega) (by omega) (by exact Bb) fun GG=>?_
   simp only[↓pb,↓pd,Bp,Ka,hG.one,Am hG.p,Ep.rdX,r1,k1,Ab,irN,nrA,nrM,nrE,reduceIte,reduceCtorEq,nrL]
   repeat'(first|((with_reducible refine hK _ _ fun e2 Aj=>?_);clear hK K;simp only[A2Y,Ag,Af,and_true,↓pb,An,Ka,hG.one,Am hG.p,Ab,irN,nrA,nrM,nrE,reduceIte,reduceCtorEq,nrL]at Aj;clear Ab;(try clear eg);have Ab:=Aj;clear Aj;rename Bi=>eg)|((first|((with_reducible first|apply Ac|apply Al|apply Ak);(simp(disch:=try exact dA) only[Bh,Ka,hG.one,Am hG.p,Ep.rdX,r1,k1,Ab,irN,nrA,nrM,nrE,reduceIte,reduceCtorEq,nrL];with_reducible exact rfl))|(with_reducible first|refine Ai A2Y fun K hK=>?_));try simp only[↓pb,↓pd,Bp,Ka,hG.one,Am hG.p,Ep.rdX,r1,k1,Ab,irN,nrA,nrM,nrE,reduceIte,reduceCtorEq,nrL])|((with_reducible apply Au);(simp only[↓pb,An,Ka,hG.one,Am hG.p,Ep.rdX,r1,k1,Ab,irN,nrA,nrM,nrE,reduceIte,reduceCtorEq,nrL];with_reducible exact rfl);all_goals(intro hc;(first|exact C8 hc|try simp only[C0]at hc)))|(with_reducible first|refine Az ?_|refine Ap ?_|refine At ?_|refine Ay ?_|refine Ax ?_|apply Ad)|((with_reducible apply Ae);(focus decide))|fail)
   have hgd1:=Je g2 (n:=Gq.n+2) (by omega)
   have hgd2:=GG.grp_lt
   simp only[Ao,A3]at hgd2
   simp only[Ao,A3,nb]at GG
   refine⟨by omega,by simp only[↓pb,An,Ka,hG.one,Am hG.p,Ab,irN,nrA,nrM,nrE,reduceIte,reduceCtorEq,nrL];exact congrArg _ (Di (by omega)),by focus exact Bm, ?_⟩
   refine⟨l ++ [((Co g l.length).1,vm)],.slice (some ⟨Gq.n+2,0,none⟩) (l.length+1) (l.length+1),some (gg.getD (Gq.n+2)),by simp(disch:=try exact dA) only[Bh,Ka,hG.one,Am hG.p,Ab,irN,nrA,nrM,nrE,reduceIte,reduceCtorEq,nrL], ?_,La hgd1,.inr (by show H.n+2<Gq.n+2;omega), ?_,by simp, ?_⟩
   ·rw[List.flatMap_append,List.flatMap_singleton,List.length_append]
    exact GG.fr (N:=Gq.n+3) (X:=[H.n+2]) (by exact Bm) (fun x hx=>by cases hx;exact hgd2) (by show Gq.n+2∉[H.n+2];exact Lw)
   ·intro j hj
    rw[List.length_append,List.length_singleton]at hj
    by_cases hjl:j<l.length
    ·rw[Zx hjl]
     obtain⟨q1,q3⟩:=g4 j hjl
     exact⟨q1,q3.fr (N:=H.n) (X:=[H.n+2]) (A:=h1) (by exact Bm) (.inr Lw)⟩
    ·have ej:j=l.length:=by omega
     subst ej
     rw[Zy]
     exact⟨by show H.n+2<C4 vm;omega,Sm.1.fr (N:=H.n) (X:=[H.n+2]) (by exact Bm) (.inr (by show C4 vm∉[H.n+2];exact Lw))⟩
   ·have e2:g.Spots.length-(l.length+1)=q:=by omega
    rw[k2,List.map_append,e2]
    rfl
 ·have e3:l.length=g.Spots.length:=by omega
  have e4:g.Spots.length-l.length=0:=by omega
  rw[e4,Ev]at k2
  repeat'(first|((with_reducible refine hK _ _ fun e2 Aj=>?_);clear hK K;simp only[A2Y,Ag,Af,and_true,↓pb,An,Ka,hG.one,Am hG.p,Ab,irN,nrA,nrM,nrE,reduceIte,reduceCtorEq,nrL]at Aj;clear Ab;(try clear eg);have Ab:=Aj;clear Aj;rename Bi=>eg)|((first|((with_reducible first|apply Ac|apply Al|apply Ak);(simp(disch:=try exact dA) only[Bh,Ka,hG.one,Am hG.p,Ep.rdX,r1,k1,Ab,irN,nrA,nrM,nrE,reduceIte,reduceCtorEq,nrL];with_reducible exact rfl))|(with_reducible first|refine Ai A2Y fun K hK=>?_));try simp only[↓pb,↓pd,Bp,Ka,hG.one,Am hG.p,Ep.rdX,r1,k1,Ab,irN,nrA,nrM,nrE,reduceIte,reduceCtorEq,nrL])|((with_reducible apply Au);(simp only[↓pb,An,Ka,hG.one,Am hG.p,Ep.rdX,r1,k1,Ab,irN,nrA,nrM,nrE,reduceIte,reduceCtorEq,nrL];with_reducible exact rfl);all_goals(intro hc;(first|exact C8 hc|try simp only[C0]at hc)))|(with_reducible first|refine Az ?_|refine Ap ?_|refine At ?_|refine Ay ?_|refine Ax ?_|apply Ad)|((with_reducible apply Ae);(focus decide))|fail)
  refine⟨by first|exact .inl rfl|exact .inr rfl, ?_⟩
  rw[Nd Try.results54]
  simp only[↓pb,An,Ka,hG.one,Am hG.p,Bo,Bg,Ep.rdX,D3,r1,Ab,irN,nrA,nrM,nrE,reduceIte,reduceCtorEq,nrL]
  repeat ((with_reducible apply Ac);(simp(disch:=try exact dA) only[Bh,Ka,hG.one,Am hG.p,Ep.rdX,D3,r1,Ab,irN,nrA,nrM,nrE,reduceIte,reduceCtorEq,nrL];exact rfl))
  refine⟨⟨vh,l,by rw[k2],⟨?_, ?_⟩,by rw[k2]⟩,(by exact Bm)⟩
  ·exact G.sr.fr (N:=H.n) (X:=[H.n+1,H.n+2]) (A:=h1) (by exact Bm) (by rcases g3 with rfl|g3;(left;exact G.nil_len);(right;exact Lw))
  ·intro j hj
   obtain⟨q1,q3⟩:=g4 j hj
   exact q3.fr (N:=H.n) (X:=[H.n+1,H.n+2]) (A:=h1) (by exact Bm) (.inr Lw)
set_option maxHeartbeats 4000000 in
theorem f21 (va vb vc:Value)(g:Cv)(hour:Int)(H:Aa)(hT:C1 H)(hG:RG H va vb vc g)(hs:g.Spots.length≤20)(hs2:g.Sorts.length≤20) :
  ∃ v H',C5 (.fn 21) #[.agg ⟨[va,vb,vc]⟩,iv hour] H v H'∧(∃ vr,v=.tuple #[vr,iv (masses g hour).2]∧SR H' 2 (masses g hour).1.length vr ((masses g hour).1.flatMap To))∧Fr H.n [] H H':=by
 have hgo:=hG.one
 have hnil:∀ h,SR h 2 ([]:List Rng).length (.slice none 0 0) (([]:List Rng).flatMap To):=fun h=>(GS.nul (s:=2)).sr
 by_cases hck:check g=0
 ·have hok:=Nm hck
  have hal:=hok.acts
  refine Cl.ofW Try.func21 rfl (by kernel_rfl) (by rw[Try.ntmps21];exact Nat.le_of_ble_eq_true rfl) (by kernel_rfl) ?_
  have Ab:True:=trivial
  refine Jx [0,1] ?_
  intro eg Aj
  simp only[Ag,Af,and_true]at Aj
  try simp only[↓pb,An,Fa,hgo,Ab,irN,nrA,nrM,nrE,reduceIte,reduceCtorEq,nrL]at Aj
  replace Ab:=Aj;clear Aj
  repeat'(first|((with_reducible refine hK _ _ fun e2 Aj=>?_);clear hK K;simp only[Om,Ag,Af,and_true,↓pb,An,Fa,hgo,Ab,irN,nrA,nrM,nrE,reduceIte,reduceCtorEq,nrL]at Aj;clear Ab;(try clear eg);have Ab:=Aj;clear Aj;rename Bi=>eg)|((first|((with_reducible first|apply Ac|apply Al|apply Ak);(simp(disch:=try exact dA) only[Bh,Fa,hgo,hck,Ab,irN,nrA,nrM,nrE,reduceIte,reduceCtorEq,nrL];with_reducible exact rfl))|((with_reducible first|apply Ar|apply As|apply Aq);(focus exact Ee))|((with_reducible apply Cy);(focus exact Bb);(simp only[↓pb,An,Fa,hgo,hck,Ab,irN,nrA,nrM,nrE,reduceIte,reduceCtorEq,nrL];exact f54 _ _ _ _ _ (by exact Bb) (hG.fr (N:=H.n) (by exact Bm)) hok.acts (by omega));(rintro vq Gq hq Fy ⟨vh,l,rfl,Sh,el⟩;try simp only[Ao,A3]at hq))|((with_reducible apply Cp);(simp only[↓pb,An,Fa,hgo,hck,Ab,irN,nrA,nrM,nrE,reduceIte,reduceCtorEq,nrL];(exact f53 _ _ _ _)))|((with_reducible apply Bz);(focus exact Bb);(simp only[↓pb,An,Fa,hgo,hck,Ab,irN,nrA,nrM,nrE,reduceIte,reduceCtorEq,nrL];(exact f25 _ _ _ _ _ (by exact Bb) (hG.fr (N:=H.n) (by exact Bm)) (by omega) (by omega)));(intro Gq hq Fy;try simp only[Ao,A3]at hq))|(with_reducible first|refine Ai Om fun K hK=>?_|refine Aw Om fun K hK=>?_));try simp only[↓pb,↓pd,Bp,Fa,hgo,hck,Ab,irN,nrA,nrM,nrE,reduceIte,reduceCtorEq,nrL])|((with_reducible apply Au);(simp only[↓pb,An,Fa,hgo,hck,Ab,irN,nrA,nrM,nrE,reduceIte,reduceCtorEq,nrL];with_reducible exact rfl);all_goals(intro hc;(first|exact C8 hc|try simp only[C0]at hc)))|(with_reducible first|refine Az ?_|refine Ap ?_|refine At ?_|refine Ay ?_|refine Ax ?_|apply Ad)|((with_reducible apply Ae);(focus decide))|fail)
  ·refine⟨by first|exact .inl rfl|exact .inr rfl, ?_⟩
   rw[Nd Try.results21]
   simp only[↓pb,An,Fa,hgo,Bo,Bg,Ab,irN,nrA,nrM,nrE,reduceIte,reduceCtorEq,nrL]
   repeat ((with_reducible apply Ac);(simp(disch:=try exact dA) only[Bh,Fa,hgo,Ab,irN,nrA,nrM,nrE,reduceIte,reduceCtorEq,nrL];exact rfl))
   refine⟨⟨_,by rw[masses,if_neg (by simp[hck]),if_neg (by simpa [Mr] using hc)], ?_⟩,(by exact Bm)⟩
   rw[masses,if_neg (by simp[hck]),if_neg (by simpa [Mr] using hc)]
   exact hnil _
  ·refine⟨by first|exact .inl rfl|exact .inr rfl, ?_⟩
   rw[Nd Try.results21]
   simp only[↓pb,An,Fa,hgo,Bo,Bg,Ab,irN,nrA,nrM,nrE,reduceIte,reduceCtorEq,nrL]
   repeat ((with_reducible apply Ac);(simp(disch:=try exact dA) only[Bh,Fa,hgo,Ab,irN,nrA,nrM,nrE,reduceIte,reduceCtorEq,nrL];exact rfl))
   refine⟨⟨_,by rw[masses,if_neg (by simp[hck]),if_pos (by simpa [Mr] using ‹0≤hour∧hour≤72›),if_pos hc], ?_⟩,(by exact Bm)⟩
   rw[masses,if_neg (by simp[hck]),if_pos (by simpa [Mr] using ‹0≤hour∧hour≤72›),if_pos hc]
   exact hnil _
  have hm:masses g hour=((known g).1.map (M2 g hour),0):=by
   rw[masses,if_neg (by simp[hck]),if_pos (by simpa [Mr] using ‹0≤hour∧hour≤72›),if_neg hc]
  repeat'(first|((with_reducible refine hK _ _ fun e2 Aj=>?_);clear hK K;simp only[Om,Ag,Af,and_true,↓pb,An,Fa,hgo,Ab,irN,nrA,nrM,nrE,reduceIte,reduceCtorEq,nrL]at Aj;clear Ab;(try clear eg);have Ab:=Aj;clear Aj;rename Bi=>eg)|((first|((with_reducible first|apply Ac|apply Al|apply Ak);(simp(disch:=try exact dA) only[Bh,Fa,hgo,Jh Sh.1,Sh.1.one,Ab,irN,nrA,nrM,nrE,reduceIte,reduceCtorEq,nrL];with_reducible exact rfl))|((with_reducible first|apply Ar|apply As|apply Aq);(focus exact Ee))|((with_reducible apply Cy);(focus exact Bb);(simp only[↓pb,An,Fa,hgo,Jh Sh.1,Sh.1.one,Ab,irN,nrA,nrM,nrE,reduceIte,reduceCtorEq,nrL];exact f54 _ _ _ _ _ (by exact Bb) (hG.fr (N:=H.n) (by exact Bm)) hok.acts (by omega));(rintro vq Gq hq Fy ⟨vh,l,rfl,Sh,el⟩;try simp only[Ao,A3]at hq))|((with_reducible apply Cp);(simp only[↓pb,An,Fa,hgo,Jh Sh.1,Sh.1.one,Ab,irN,nrA,nrM,nrE,reduceIte,reduceCtorEq,nrL];(exact f53 _ _ _ _)))|((with_reducible apply Bz);(focus exact Bb);(simp only[↓pb,An,Fa,hgo,Jh Sh.1,Sh.1.one,Ab,irN,nrA,nrM,nrE,reduceIte,reduceCtorEq,nrL];(exact f25 _ _ _ _ _ (by exact Bb) (hG.fr (N:=H.n) (by exact Bm)) (by omega) (by omega)));(intro Gq hq Fy;try simp only[Ao,A3]at hq))|(with_reducible first|refine Ai Om fun K hK=>?_|refine Aw Om fun K hK=>?_));try simp only[↓pb,↓pd,Bp,Fa,hgo,Jh Sh.1,Sh.1.one,Ab,irN,nrA,nrM,nrE,reduceIte,reduceCtorEq,nrL])|((with_reducible apply Au);(simp only[↓pb,An,Fa,hgo,Jh Sh.1,Sh.1.one,Ab,irN,nrA,nrM,nrE,reduceIte,reduceCtorEq,nrL];with_reducible exact rfl);all_goals(intro hc;(first|exact C8 hc|try simp only[C0]at hc)))|(with_reducible first|refine Az ?_|refine Ap ?_|refine At ?_|refine Ay ?_|refine Ax ?_|apply Ad)|((with_reducible apply Ae);(focus decide))|fail)
  refine Db [1,7,30,31] (by kernel_rfl) 32 (l.length) (H.n) [] [] (fun i e h=>∃ vr gg,e 9=vr∧GS h 2 i vr (((l.take i).map fun p=>M2 g hour p.1).flatMap To) gg∧∀ x,gg=some x→H.n≤x) (by simp only[↓pb,An,Fa,hgo,Ab,irN,nrA,nrM,nrE,reduceIte,reduceCtorEq,nrL]) (by focus exact Bb) (H0:=H) (by focus exact Bm) (by intro b hb hlt;simp at hb ⊢;try omega) ?_ ?_
  rotate_left
  intro i1 e1 h1 hi1 D3 ei1 Ep D9 Mf Hh
  simp only[Ag,Af,and_true]at D3
  try simp only[↓pb,An,Fa,hgo,Ab,irN,nrA,nrM,nrE,reduceIte,reduceCtorEq,nrL]at D3
  have hn11:=Ep.n;have hn01:=D9.n;try simp only[Ao,A3]at hn11
  replace Ab:=B9p ei1 D3
  rotate_left
  ·exact⟨_,none,by simp only[↓pb,An,Fa,hgo,Ab,irN,nrA,nrM,nrE,reduceIte,reduceCtorEq,nrL],.nil rfl rfl rfl,by simp⟩
  obtain⟨vr,gg,e9,G,g2⟩:=Hh
  have S1:=Sh.fr (N:=H.n) (B:=h1) (Fr.trans (by exact Bm) Ep)
  have hll:l.length≤20:=by have:=A7F (g:=g);rw[← el,List.length_map]at this;omega
  by_cases hi2:i1<l.length
  ·have hx:(l.getD i1 default).1∈(known g).1:=by
    rw[← el]
    refine List.mem_map.2 ⟨_, ?_,rfl⟩
    simp[List.getD,List.getElem?_eq_getElem hi2]
   have hf:=Nn hok.acts _ hx
   have S2:=S1.2 i1 hi2
   have hbf:=hf.before (B5 hour g.Acts)
   have hl:=S1.1.lt
   have hfp:=hf.pos
   have hfl:=hf.len
   repeat'(first|((with_reducible refine hK _ _ fun e2 Aj=>?_);clear hK K;simp only[Om,Ag,Af,and_true,↓pb,An,Fa,hgo,Ab,irN,nrA,nrM,nrE,reduceIte,reduceCtorEq,nrL]at Aj;clear Ab;(try clear eg);have Ab:=Aj;clear Aj;rename Bi=>eg)|((first|((with_reducible first|apply Ac|apply Al|apply Ak);(simp(disch:=try exact dA) only[Bh,Fa,hgo,e9,Ep.rd0,Gx S1.1,S1.1.rd,(S1.1.el Df rfl),Mq,hgo,S1.1.one,S2.one,Ab,irN,nrA,nrM,nrE,reduceIte,reduceCtorEq,nrL];with_reducible exact rfl))|((with_reducible first|apply Ar|apply As|apply Aq);(focus exact Ee))|((with_reducible apply Cy);(focus exact Bb);(simp only[↓pb,An,Fa,hgo,e9,Ep.rd0,Gx S1.1,S1.1.rd,(S1.1.el Df rfl),Mq,hgo,S1.1.one,S2.one,Ab,irN,nrA,nrM,nrE,reduceIte,reduceCtorEq,nrL];exact f54 _ _ _ _ _ (by exact Bb) (hG.fr (N:=H.n) (by exact Bm)) hok.acts (by omega));(rintro vq Gq hq Fy ⟨vh,l,rfl,Sh,el⟩;try simp only[Ao,A3]at hq))|((with_reducible apply Cp);(simp only[↓pb,An,Fa,hgo,e9,Ep.rd0,Gx S1.1,S1.1.rd,(S1.1.el Df rfl),Mq,hgo,S1.1.one,S2.one,Ab,irN,nrA,nrM,nrE,reduceIte,reduceCtorEq,nrL];(exact f53 _ _ _ _)))|((with_reducible apply Bz);(focus exact Bb);(simp only[↓pb,An,Fa,hgo,e9,Ep.rd0,Gx S1.1,S1.1.rd,(S1.1.el Df rfl),Mq,hgo,S1.1.one,S2.one,Ab,irN,nrA,nrM,nrE,reduceIte,reduceCtorEq,nrL];(first|exact f56 _ _ _ _ _ _ _ (by exact Bb) (hG.fr (N:=H.n) (by exact Bm)) S1.1.one (by omega)|exact f55 _ _ _ _ _ (by exact Bb) (S2.fr0 (N:=0) (by exact Bm)) hfp (by omega)|exact f57 _ _ _ _ (by exact Bb) hbf.1 hbf.2 S2.one|exact f58 _ _ _ _ (by exact Bb) hbf.1 hbf.2 S2.one|exact f25 _ _ _ _ _ (by exact Bb) (hG.fr (N:=H.n) (by exact Bm)) (by omega) (by omega)));(intro Gq hq Fy;try simp only[Ao,A3]at hq))|(with_reducible first|refine Ai Om fun K hK=>?_|refine Aw Om fun K hK=>?_));try simp only[↓pb,↓pd,Bp,Fa,hgo,e9,Ep.rd0,Gx S1.1,S1.1.rd,(S1.1.el Df rfl),Mq,hgo,S1.1.one,S2.one,Ab,irN,nrA,nrM,nrE,reduceIte,reduceCtorEq,nrL])|((with_reducible apply Au);(simp only[↓pb,An,Fa,hgo,e9,Ep.rd0,Gx S1.1,S1.1.rd,(S1.1.el Df rfl),Mq,hgo,S1.1.one,S2.one,Ab,irN,nrA,nrM,nrE,reduceIte,reduceCtorEq,nrL];with_reducible exact rfl);all_goals(intro hc;(first|exact C8 hc|try simp only[C0]at hc)))|(with_reducible first|refine Az ?_|refine Ap ?_|refine At ?_|refine Ay ?_|refine Ax ?_|apply Ad)|((with_reducible apply Ae);(focus decide))|fail)
   refine B7W (n:=i1) (m:=1) (c:=((l.take i1).map fun p=>M2 g hour p.1).flatMap To) (g:=gg) ?a1 (SR.new rfl) (by omega) (by omega) (by omega) ?a3 fun GG=>?a4
   case a1 =>
    refine GS.ex ?_
    refine G.fr (N:=h1.n) (X:=[]) ?_ (fun x hx=>by subst hx;exact G.grp_lt) (by simp)
    exact Bm
   case a3 =>
    exact Bb
   have hgd1:=Je g2 (n:=Gq.n+1) (by omega)
   have hgd2:=GG.grp_lt
   simp only[Ao,A3]at hgd2
   simp only[Ao,A3,nb]at GG
   simp only[↓pb,↓pd,Bp,Fa,hgo,e9,Ab,irN,nrA,nrM,nrE,reduceIte,reduceCtorEq,nrL]
   repeat'(first|((with_reducible refine hK _ _ fun e2 Aj=>?_);clear hK K;simp only[Om,Ag,Af,and_true,↓pb,An,Fa,hgo,Ab,irN,nrA,nrM,nrE,reduceIte,reduceCtorEq,nrL]at Aj;clear Ab;(try clear eg);have Ab:=Aj;clear Aj;rename Bi=>eg)|((first|((with_reducible first|apply Ac|apply Al|apply Ak);(simp(disch:=try exact dA) only[Bh,Fa,hgo,e9,Ab,irN,nrA,nrM,nrE,reduceIte,reduceCtorEq,nrL];with_reducible exact rfl))|((with_reducible first|apply Ar|apply As|apply Aq);(focus exact Ee))|((with_reducible apply Cy);(focus exact Bb);(simp only[↓pb,An,Fa,hgo,e9,Ab,irN,nrA,nrM,nrE,reduceIte,reduceCtorEq,nrL];exact f54 _ _ _ _ _ (by exact Bb) (hG.fr (N:=H.n) (by exact Bm)) hok.acts (by omega));(rintro vq Gq hq Fy ⟨vh,l,rfl,Sh,el⟩;try simp only[Ao,A3]at hq))|((with_reducible apply Cp);(simp only[↓pb,An,Fa,hgo,e9,Ab,irN,nrA,nrM,nrE,reduceIte,reduceCtorEq,nrL];(exact f53 _ _ _ _)))|((with_reducible apply Bz);(focus exact Bb);(simp only[↓pb,An,Fa,hgo,e9,Ab,irN,nrA,nrM,nrE,reduceIte,reduceCtorEq,nrL];(exact f25 _ _ _ _ _ (by exact Bb) (hG.fr (N:=H.n) (by exact Bm)) (by omega) (by omega)));(intro Gq hq Fy;try simp only[Ao,A3]at hq))|(with_reducible first|refine Ai Om fun K hK=>?_|refine Aw Om fun K hK=>?_));try simp only[↓pb,↓pd,Bp,Fa,hgo,e9,Ab,irN,nrA,nrM,nrE,reduceIte,reduceCtorEq,nrL])|((with_reducible apply Au);(simp only[↓pb,An,Fa,hgo,e9,Ab,irN,nrA,nrM,nrE,reduceIte,reduceCtorEq,nrL];with_reducible exact rfl);all_goals(intro hc;(first|exact C8 hc|try simp only[C0]at hc)))|(with_reducible first|refine Az ?_|refine Ap ?_|refine At ?_|refine Ay ?_|refine Ax ?_|apply Ad)|((with_reducible apply Ae);(focus decide))|fail)
   refine⟨by omega,by simp only[↓pb,An,Fa,hgo,Ab,irN,nrA,nrM,nrE,reduceIte,reduceCtorEq,nrL];exact congrArg _ (Di (by omega)),by focus exact Bm, ?_⟩
   refine⟨.slice (some ⟨Gq.n+1,0,none⟩) (i1+1) (i1+1),some (gg.getD (Gq.n+1)),by simp only[↓pb,An,Fa,hgo,Ab,irN,nrA,nrM,nrE,reduceIte,reduceCtorEq,nrL], ?_,La hgd1⟩
   rw[H6 hi2,List.map_append,List.flatMap_append]
   exact GG
  ·have e3:i1=l.length:=by omega
   repeat'(first|((with_reducible refine hK _ _ fun e2 Aj=>?_);clear hK K;simp only[Om,Ag,Af,and_true,↓pb,An,Fa,hgo,Ab,irN,nrA,nrM,nrE,reduceIte,reduceCtorEq,nrL]at Aj;clear Ab;(try clear eg);have Ab:=Aj;clear Aj;rename Bi=>eg)|((first|((with_reducible first|apply Ac|apply Al|apply Ak);(simp(disch:=try exact dA) only[Bh,Fa,hgo,e9,Ab,irN,nrA,nrM,nrE,reduceIte,reduceCtorEq,nrL];with_reducible exact rfl))|((with_reducible first|apply Ar|apply As|apply Aq);(focus exact Ee))|((with_reducible apply Cy);(focus exact Bb);(simp only[↓pb,An,Fa,hgo,e9,Ab,irN,nrA,nrM,nrE,reduceIte,reduceCtorEq,nrL];exact f54 _ _ _ _ _ (by exact Bb) (hG.fr (N:=H.n) (by exact Bm)) hok.acts (by omega));(rintro vq Gq hq Fy ⟨vh,l,rfl,Sh,el⟩;try simp only[Ao,A3]at hq))|((with_reducible apply Cp);(simp only[↓pb,An,Fa,hgo,e9,Ab,irN,nrA,nrM,nrE,reduceIte,reduceCtorEq,nrL];(exact f53 _ _ _ _)))|((with_reducible apply Bz);(focus exact Bb);(simp only[↓pb,An,Fa,hgo,e9,Ab,irN,nrA,nrM,nrE,reduceIte,reduceCtorEq,nrL];(exact f25 _ _ _ _ _ (by exact Bb) (hG.fr (N:=H.n) (by exact Bm)) (by omega) (by omega)));(intro Gq hq Fy;try simp only[Ao,A3]at hq))|(with_reducible first|refine Ai Om fun K hK=>?_|refine Aw Om fun K hK=>?_));try simp only[↓pb,↓pd,Bp,Fa,hgo,e9,Ab,irN,nrA,nrM,nrE,reduceIte,reduceCtorEq,nrL])|((with_reducible apply Au);(simp only[↓pb,An,Fa,hgo,e9,Ab,irN,nrA,nrM,nrE,reduceIte,reduceCtorEq,nrL];with_reducible exact rfl);all_goals(intro hc;(first|exact C8 hc|try simp only[C0]at hc)))|(with_reducible first|refine Az ?_|refine Ap ?_|refine At ?_|refine Ay ?_|refine Ax ?_|apply Ad)|((with_reducible apply Ae);(focus decide))|fail)
   refine⟨by first|exact .inl rfl|exact .inr rfl, ?_⟩
   rw[Nd Try.results21]
   simp only[↓pb,An,Fa,hgo,Bo,Bg,Ab,irN,nrA,nrM,nrE,reduceIte,reduceCtorEq,nrL]
   repeat ((with_reducible apply Ac);(simp(disch:=try exact dA) only[Bh,Fa,hgo,Ab,irN,nrA,nrM,nrE,reduceIte,reduceCtorEq,nrL];exact rfl))
   rw[hm]
   refine⟨⟨vr,rfl, ?_⟩,(by exact Bm)⟩
   show SR _ 2 ((known g).1.map (M2 g hour)).length vr (((known g).1.map (M2 g hour)).flatMap To)
   rw[← el,List.map_map,List.length_map]
   have G3:=G.sr
   rw[e3,List.take_length]at G3
   exact G3
 ·have hck':=hck
  refine Cl.ofW Try.func21 rfl (by kernel_rfl) (by rw[Try.ntmps21];exact Nat.le_of_ble_eq_true rfl) (by kernel_rfl) ?_
  have Ab:True:=trivial
  refine Jx [0,1] ?_
  intro eg Aj
  simp only[Ag,Af,and_true]at Aj
  try simp only[↓pb,An,Fa,hgo,Ab,irN,nrA,nrM,nrE,reduceIte,reduceCtorEq,nrL]at Aj
  replace Ab:=Aj;clear Aj
  repeat'(first|((with_reducible refine hK _ _ fun e2 Aj=>?_);clear hK K;simp only[Om,Ag,Af,and_true,↓pb,An,Fa,hgo,Ab,irN,nrA,nrM,nrE,reduceIte,reduceCtorEq,nrL]at Aj;clear Ab;(try clear eg);have Ab:=Aj;clear Aj;rename Bi=>eg)|((first|((with_reducible first|apply Ac|apply Al|apply Ak);(simp(disch:=try exact dA) only[Bh,Fa,hgo,Ab,irN,nrA,nrM,nrE,reduceIte,reduceCtorEq,nrL];with_reducible exact rfl))|((with_reducible first|apply Ar|apply As|apply Aq);(focus exact Ee))|((with_reducible apply Bz);(focus exact Bb);(simp only[↓pb,An,Fa,hgo,Ab,irN,nrA,nrM,nrE,reduceIte,reduceCtorEq,nrL];(exact f25 _ _ _ _ _ (by exact Bb) (hG.fr (N:=H.n) (by exact Bm)) (by omega) (by omega)));(intro Gq hq Fy;try simp only[Ao,A3]at hq))|(with_reducible first|refine Ai Om fun K hK=>?_|refine Aw Om fun K hK=>?_));try simp only[↓pb,↓pd,Bp,Fa,hgo,Ab,irN,nrA,nrM,nrE,reduceIte,reduceCtorEq,nrL])|((with_reducible apply Au);(simp only[↓pb,An,Fa,hgo,Ab,irN,nrA,nrM,nrE,reduceIte,reduceCtorEq,nrL];with_reducible exact rfl);all_goals(intro hc;(first|exact C8 hc|try simp only[C0]at hc)))|(with_reducible first|refine Az ?_|refine Ap ?_|refine At ?_|refine Ay ?_|refine Ax ?_|apply Ad)|((with_reducible apply Ae);(focus decide))|fail)
  refine⟨by first|exact .inl rfl|exact .inr rfl, ?_⟩
  rw[Nd Try.results21]
  simp only[↓pb,An,Fa,hgo,Bo,Bg,Ab,irN,nrA,nrM,nrE,reduceIte,reduceCtorEq,nrL]
  repeat ((with_reducible apply Ac);(simp(disch:=try exact dA) only[Bh,Fa,hgo,Ab,irN,nrA,nrM,nrE,reduceIte,reduceCtorEq,nrL];exact rfl))
  refine⟨⟨_,by rw[masses,if_pos hck], ?_⟩,(by exact Bm)⟩
  rw[masses,if_pos hck]
  exact hnil _
theorem atS {s:E1}{v:Value}{i:Nat}(h:i<121):(Ck s.1 ++ [v])[i]? = some (iv (s.1.getD i 0)):=by
 rw[List.getElem?_append_left (by rw[Nl];exact h),Av (by rw[s.2];exact h)]
theorem Sy {g:Cv}:∀ (n i:Nat)(acc:List Hp),(Ev g i n acc).2=0→(Ev g i n acc).1.length=acc.length+n
 | 0,i,acc,_=>rfl
 | n+1,i,acc,h=>by
  rw[Ev]at h ⊢
  split at h
  ·rename_i hp
   rw[if_pos hp]
   rw[Sy n (i+1) _ h,List.length_append,List.length_singleton]
   omega
  ·exact absurd h (by simp)
theorem Yf {g:Cv}(h:(known g).2=0):(known g).1.length=g.Spots.length:=by
 have:=Sy g.Spots.length 0 [] h
 rw[List.length_nil,Nat.zero_add]at this
 exact this
set_option maxHeartbeats 4000000 in
theorem f23 (va vb vc:Value)(g:Cv)(spot hour age:Int)(H:Aa)(hT:C1 H)(hG:RG H va vb vc g)(hs:g.Spots.length≤20)(hs2:g.Sorts.length≤20) :
  ∃ v H',C5 (.fn 23) #[.agg ⟨[va,vb,vc]⟩,iv spot,iv hour,iv age] H v H'∧v=.tuple #[iv (older g spot hour age).1,iv (older g spot hour age).2]∧Fr H.n [] H H':=by
 have hgo:=hG.one
 by_cases hck:check g=0
 ·have hok:=Nm hck
  have hal:=hok.acts
  have hsl:=hok.spots
  have hwl:IntKind.i64.wrap ((g.Spots.length:Int)-1)=((g.Spots.length-1:Nat):Int):=by rw[H4 (by omega) (by omega)];omega
  refine Cl.ofW Try.func23 rfl (by kernel_rfl) (by rw[Try.ntmps23];exact Nat.le_of_ble_eq_true rfl) (by kernel_rfl) ?_
  have Ab:True:=trivial
  refine Jx [0,1,2,3] ?_
  intro eg Aj
  simp only[Ag,Af,and_true]at Aj
  try simp only[↓pb,An,Io,hgo,Am hG.p,hwl,Ab,irN,nrA,nrM,nrE,reduceIte,reduceCtorEq,nrL]at Aj
  replace Ab:=Aj;clear Aj
  repeat'(first|((with_reducible refine hK _ _ fun e2 Aj=>?_);clear hK K;simp only[A1w,Ag,Af,and_true,↓pb,An,Io,hgo,Am hG.p,hwl,Ab,irN,nrA,nrM,nrE,reduceIte,reduceCtorEq,nrL]at Aj;clear Ab;(try clear eg);have Ab:=Aj;clear Aj;rename Bi=>eg)|((first|((with_reducible first|apply Ac|apply Al|apply Ak);(simp(disch:=try exact dA) only[Bh,Io,hgo,Am hG.p,hwl,hck,Ab,irN,nrA,nrM,nrE,reduceIte,reduceCtorEq,nrL];with_reducible exact rfl))|((with_reducible first|apply Ar|apply As|apply Aq);(focus exact Ee))|((with_reducible apply Cy);(focus exact Bb);(simp only[↓pb,An,Io,hgo,Am hG.p,hwl,hck,Ab,irN,nrA,nrM,nrE,reduceIte,reduceCtorEq,nrL];exact f54 _ _ _ _ _ (by exact Bb) (hG.fr (N:=H.n) (by exact Bm)) hok.acts (by omega));(rintro vq Gq hq Fy ⟨vh,l,rfl,Sh,el⟩;try simp only[Ao,A3]at hq))|((with_reducible apply Cp);(simp only[↓pb,An,Io,hgo,Am hG.p,hwl,hck,Ab,irN,nrA,nrM,nrE,reduceIte,reduceCtorEq,nrL];(exact f53 _ _ _ _)))|((with_reducible apply Bz);(focus exact Bb);(simp only[↓pb,An,Io,hgo,Am hG.p,hwl,hck,Ab,irN,nrA,nrM,nrE,reduceIte,reduceCtorEq,nrL];(exact f25 _ _ _ _ _ (by exact Bb) (hG.fr (N:=H.n) (by exact Bm)) (by omega) (by omega)));(intro Gq hq Fy;try simp only[Ao,A3]at hq))|(with_reducible first|refine Ai A1w fun K hK=>?_|refine Aw A1w fun K hK=>?_));try simp only[↓pb,↓pd,Bp,Io,hgo,Am hG.p,hwl,hck,Ab,irN,nrA,nrM,nrE,reduceIte,reduceCtorEq,nrL])|((with_reducible apply Au);(simp only[↓pb,An,Io,hgo,Am hG.p,hwl,hck,Ab,irN,nrA,nrM,nrE,reduceIte,reduceCtorEq,nrL];with_reducible exact rfl);all_goals(intro hc;(first|exact C8 hc|try simp only[C0]at hc)))|(with_reducible first|refine Az ?_|refine Ap ?_|refine At ?_|refine Ay ?_|apply Ad)|((with_reducible apply Ae);(focus decide))|fail)
  ·refine⟨by first|exact .inl rfl|exact .inr rfl, ?_⟩
   rw[Nd Try.results23]
   simp only[↓pb,An,Io,hgo,Am hG.p,hwl,Bo,Bg,Ab,irN,nrA,nrM,nrE,reduceIte,reduceCtorEq,nrL]
   repeat ((with_reducible apply Ac);(simp(disch:=try exact dA) only[Bh,Io,hgo,Am hG.p,hwl,Ab,irN,nrA,nrM,nrE,reduceIte,reduceCtorEq,nrL];exact rfl))
   refine⟨by first|rfl|(simp[older,Mr,Dz, *];done), ?_⟩
   try exact Bm
  ·refine⟨by first|exact .inl rfl|exact .inr rfl, ?_⟩
   rw[Nd Try.results23]
   simp only[↓pb,An,Io,hgo,Am hG.p,hwl,Bo,Bg,Ab,irN,nrA,nrM,nrE,reduceIte,reduceCtorEq,nrL]
   repeat ((with_reducible apply Ac);(simp(disch:=try exact dA) only[Bh,Io,hgo,Am hG.p,hwl,Ab,irN,nrA,nrM,nrE,reduceIte,reduceCtorEq,nrL];exact rfl))
   refine⟨by first|rfl|(simp[older,Mr,Dz, *];done), ?_⟩
   try exact Bm
  ·refine⟨by first|exact .inl rfl|exact .inr rfl, ?_⟩
   rw[Nd Try.results23]
   simp only[↓pb,An,Io,hgo,Am hG.p,hwl,Bo,Bg,Ab,irN,nrA,nrM,nrE,reduceIte,reduceCtorEq,nrL]
   repeat ((with_reducible apply Ac);(simp(disch:=try exact dA) only[Bh,Io,hgo,Am hG.p,hwl,Ab,irN,nrA,nrM,nrE,reduceIte,reduceCtorEq,nrL];exact rfl))
   refine⟨by first|rfl|(simp[older,Mr,Dz, *];done), ?_⟩
   try exact Bm
  ·refine⟨by first|exact .inl rfl|exact .inr rfl, ?_⟩
   rw[Nd Try.results23]
   simp only[↓pb,An,Io,hgo,Am hG.p,hwl,Bo,Bg,Ab,irN,nrA,nrM,nrE,reduceIte,reduceCtorEq,nrL]
   repeat ((with_reducible apply Ac);(simp(disch:=try exact dA) only[Bh,Io,hgo,Am hG.p,hwl,Ab,irN,nrA,nrM,nrE,reduceIte,reduceCtorEq,nrL];exact rfl))
   refine⟨by first|rfl|(simp[older,Mr,Dz, *];done), ?_⟩
   try exact Bm
  have hk0:(known g).2=0:=by simpa using hc
  have hlk:=Yf hk0
  have hll:l.length=g.Spots.length:=by rw[← hlk,← el,List.length_map]
  have hsp:(0:Int)≤spot∧spot≤((g.Spots.length-1:Nat):Int):=by assumption
  have hi2:spot.toNat<l.length:=by omega
  have hx:(l.getD spot.toNat default).1∈(known g).1:=by
   rw[← el]
   refine List.mem_map.2 ⟨_, ?_,rfl⟩
   simp[List.getD,List.getElem?_eq_getElem hi2]
  have hxe:(known g).1.getD spot.toNat default=(l.getD spot.toNat default).1:=by
   rw[← el]
   simp[List.getD,List.getElem?_eq_getElem hi2]
  have hf:=Nn hal _ hx
  have S2:=Sh.2 spot.toNat hi2
  have hb1:=hf.before (B5 hour g.Acts)
  have hb2:=hf.before (B5 (IntKind.i64.wrap (IntKind.i64.wrap (hour-age)-1)) g.Acts)
  have hl:=Sh.1.lt
  have hl2:=S2.lt
  simp only[Ao,A3]at hl hl2
  have hfp:=hf.pos
  have hfl:=hf.len
  have ho:older g spot hour age=if (l.getD spot.toNat default).1.s.mat ((l.getD spot.toNat default).1.before (B5 (Dz (Dz (hour-age)-1)) g.Acts)).tips ((l.getD spot.toNat default).1.before (B5 hour g.Acts)).takes<0 then (1,0)
    else if (l.getD spot.toNat default).1.s.mat ((l.getD spot.toNat default).1.before (B5 hour g.Acts)).takes ((l.getD spot.toNat default).1.before (B5 (Dz (Dz (hour-age)-1)) g.Acts)).tips≤0 then (2,0) else (3,0):=by
   have q1:Mr spot 0 (Dz (g.Spots.length-1))=true:=by unfold Dz;rw[hwl];simpa [Mr] using hsp
   have q2:Mr hour 0 72=true:=by simpa [Mr] using ‹0≤hour∧hour≤72›
   have q3:Mr age 0 72=true:=by simpa [Mr] using ‹0≤age∧age≤72›
   rw[older,if_neg (by simp[hck]),if_pos q1,if_pos ⟨q2,q3⟩,if_neg (by simp[hk0]),hxe]
  unfold Hp.before at hb1 hb2
  repeat'(first|((with_reducible refine hK _ _ fun e2 Aj=>?_);clear hK K;simp only[A1w,Ag,Af,and_true,↓pb,An,Io,hgo,Am hG.p,hwl,Ab,irN,nrA,nrM,nrE,reduceIte,reduceCtorEq,nrL]at Aj;clear Ab;(try clear eg);have Ab:=Aj;clear Aj;rename Bi=>eg)|((first|((with_reducible first|apply Ac|apply Al|apply Ak);(simp(disch:=try exact dA) only[Bh,Io,hgo,Am hG.p,hwl,Jh Sh.1,Sh.1.one,Gx Sh.1,Sh.1.rd,(Sh.1.el Df rfl),Mq,hgo,S2.one,atS,Cq,Nat.mul_one,Ab,irN,nrA,nrM,nrE,reduceIte,reduceCtorEq,nrL];with_reducible exact rfl))|((with_reducible first|apply Ar|apply As|apply Aq);(focus exact Ee))|((with_reducible apply Cy);(focus exact Bb);(simp only[↓pb,An,Io,hgo,Am hG.p,hwl,Jh Sh.1,Sh.1.one,Gx Sh.1,Sh.1.rd,(Sh.1.el Df rfl),Mq,hgo,S2.one,atS,Cq,Nat.mul_one,Ab,irN,nrA,nrM,nrE,reduceIte,reduceCtorEq,nrL];exact f54 _ _ _ _ _ (by exact Bb) (hG.fr (N:=H.n) (by exact Bm)) hok.acts (by omega));(rintro vq Gq hq Fy ⟨vh,l,rfl,Sh,el⟩;try simp only[Ao,A3]at hq))|((with_reducible apply Cp);(simp only[↓pb,An,Io,hgo,Am hG.p,hwl,Jh Sh.1,Sh.1.one,Gx Sh.1,Sh.1.rd,(Sh.1.el Df rfl),Mq,hgo,S2.one,atS,Cq,Nat.mul_one,Ab,irN,nrA,nrM,nrE,reduceIte,reduceCtorEq,nrL];(exact f53 _ _ _ _)))|((with_reducible apply Bz);(focus exact Bb);(simp only[↓pb,An,Io,hgo,Am hG.p,hwl,Jh Sh.1,Sh.1.one,Gx Sh.1,Sh.1.rd,(Sh.1.el Df rfl),Mq,hgo,S2.one,atS,Cq,Nat.mul_one,Ab,irN,nrA,nrM,nrE,reduceIte,reduceCtorEq,nrL];(first|exact f56 _ _ _ _ _ _ _ (by exact Bb) (hG.fr (N:=H.n) (by exact Bm)) Sh.1.one (by omega)|exact f55 _ _ _ _ _ (by exact Bb) (S2.fr0 (N:=0) (by exact Bm)) hfp (by omega)|exact f25 _ _ _ _ _ (by exact Bb) (hG.fr (N:=H.n) (by exact Bm)) (by omega) (by omega)));(intro Gq hq Fy;try simp only[Ao,A3]at hq))|(with_reducible first|refine Ai A1w fun K hK=>?_|refine Aw A1w fun K hK=>?_));try simp only[↓pb,↓pd,Bp,Io,hgo,Am hG.p,hwl,Jh Sh.1,Sh.1.one,Gx Sh.1,Sh.1.rd,(Sh.1.el Df rfl),Mq,hgo,S2.one,atS,Cq,Nat.mul_one,Ab,irN,nrA,nrM,nrE,reduceIte,reduceCtorEq,nrL])|((with_reducible apply Au);(simp only[↓pb,An,Io,hgo,Am hG.p,hwl,Jh Sh.1,Sh.1.one,Gx Sh.1,Sh.1.rd,(Sh.1.el Df rfl),Mq,hgo,S2.one,atS,Cq,Nat.mul_one,Ab,irN,nrA,nrM,nrE,reduceIte,reduceCtorEq,nrL];with_reducible exact rfl);all_goals(intro hc;(first|exact C8 hc|try simp only[C0]at hc)))|(with_reducible first|refine Az ?_|refine Ap ?_|refine At ?_|refine Ay ?_|apply Ad)|((with_reducible apply Ae);(focus decide))|fail)
  ·refine⟨by first|exact .inl rfl|exact .inr rfl, ?_⟩
   rw[Nd Try.results23]
   simp only[↓pb,An,Io,hgo,Am hG.p,hwl,Bo,Bg,Ab,irN,nrA,nrM,nrE,reduceIte,reduceCtorEq,nrL]
   repeat ((with_reducible apply Ac);(simp(disch:=try exact dA) only[Bh,Io,hgo,Am hG.p,hwl,Ab,irN,nrA,nrM,nrE,reduceIte,reduceCtorEq,nrL];exact rfl))
   have e1:older g spot hour age=(1,0):=ho.trans (if_pos hc)
   rw[e1]
   refine⟨by first|rfl|(simp[*];done), ?_⟩
   try exact Bm
  ·refine⟨by first|exact .inl rfl|exact .inr rfl, ?_⟩
   rw[Nd Try.results23]
   simp only[↓pb,An,Io,hgo,Am hG.p,hwl,Bo,Bg,Ab,irN,nrA,nrM,nrE,reduceIte,reduceCtorEq,nrL]
   repeat ((with_reducible apply Ac);(simp(disch:=try exact dA) only[Bh,Io,hgo,Am hG.p,hwl,Ab,irN,nrA,nrM,nrE,reduceIte,reduceCtorEq,nrL];exact rfl))
   rename_i h7
   have e1:older g spot hour age=(2,0):=ho.trans ((if_neg h7).trans (if_pos hc))
   rw[e1]
   refine⟨by first|rfl|(simp[*];done), ?_⟩
   try exact Bm
  ·refine⟨by first|exact .inl rfl|exact .inr rfl, ?_⟩
   rw[Nd Try.results23]
   simp only[↓pb,An,Io,hgo,Am hG.p,hwl,Bo,Bg,Ab,irN,nrA,nrM,nrE,reduceIte,reduceCtorEq,nrL]
   repeat ((with_reducible apply Ac);(simp(disch:=try exact dA) only[Bh,Io,hgo,Am hG.p,hwl,Ab,irN,nrA,nrM,nrE,reduceIte,reduceCtorEq,nrL];exact rfl))
   rename_i h7
   have e1:older g spot hour age=(3,0):=ho.trans ((if_neg h7).trans (if_neg hc))
   rw[e1]
   refine⟨by first|rfl|(simp[*];done), ?_⟩
   try exact Bm
 ·have hck':=hck
  refine Cl.ofW Try.func23 rfl (by kernel_rfl) (by rw[Try.ntmps23];exact Nat.le_of_ble_eq_true rfl) (by kernel_rfl) ?_
  have Ab:True:=trivial
  refine Jx [0,1,2,3] ?_
  intro eg Aj
  simp only[Ag,Af,and_true]at Aj
  try simp only[↓pb,An,Io,hgo,Ab,irN,nrA,nrM,nrE,reduceIte,reduceCtorEq,nrL]at Aj
  replace Ab:=Aj;clear Aj
  repeat'(first|((with_reducible refine hK _ _ fun e2 Aj=>?_);clear hK K;simp only[A1w,Ag,Af,and_true,↓pb,An,Io,hgo,Ab,irN,nrA,nrM,nrE,reduceIte,reduceCtorEq,nrL]at Aj;clear Ab;(try clear eg);have Ab:=Aj;clear Aj;rename Bi=>eg)|((first|((with_reducible first|apply Ac|apply Al|apply Ak);(simp(disch:=try exact dA) only[Bh,Io,hgo,Ab,irN,nrA,nrM,nrE,reduceIte,reduceCtorEq,nrL];with_reducible exact rfl))|((with_reducible first|apply Ar|apply As|apply Aq);(focus exact Ee))|((with_reducible apply Bz);(focus exact Bb);(simp only[↓pb,An,Io,hgo,Ab,irN,nrA,nrM,nrE,reduceIte,reduceCtorEq,nrL];(exact f25 _ _ _ _ _ (by exact Bb) (hG.fr (N:=H.n) (by exact Bm)) (by omega) (by omega)));(intro Gq hq Fy;try simp only[Ao,A3]at hq))|(with_reducible first|refine Ai A1w fun K hK=>?_|refine Aw A1w fun K hK=>?_));try simp only[↓pb,↓pd,Bp,Io,hgo,Ab,irN,nrA,nrM,nrE,reduceIte,reduceCtorEq,nrL])|((with_reducible apply Au);(simp only[↓pb,An,Io,hgo,Ab,irN,nrA,nrM,nrE,reduceIte,reduceCtorEq,nrL];with_reducible exact rfl);all_goals(intro hc;(first|exact C8 hc|try simp only[C0]at hc)))|(with_reducible first|refine Az ?_|refine Ap ?_|refine At ?_|refine Ay ?_|apply Ad)|((with_reducible apply Ae);(focus decide))|fail)
  refine⟨by first|exact .inl rfl|exact .inr rfl, ?_⟩
  rw[Nd Try.results23]
  simp only[↓pb,An,Io,hgo,Bo,Bg,Ab,irN,nrA,nrM,nrE,reduceIte,reduceCtorEq,nrL]
  repeat ((with_reducible apply Ac);(simp(disch:=try exact dA) only[Bh,Io,hgo,Ab,irN,nrA,nrM,nrE,reduceIte,reduceCtorEq,nrL];exact rfl))
  rw[older,if_pos hck]
  refine⟨by first|rfl|(simp[*];done), ?_⟩
  try exact Bm
abbrev fh (H:Aa) (b:Nat) (x:Int):Aa:=H.upd H.n b (.cells [uv x] 85 .ex)
theorem A6y {H:Aa}{b:Nat}{x:Int}(hg:H.get b=.cells [uv x] 85 .ex):H.upd H.n b (.cells [uv x] 85 .ex)=H:=by
 unfold Aa.upd
 show (⟨H.n,_⟩:Aa)=⟨H.n,H.get⟩
 congr 1
 funext c
 split
 ·rename_i e;rw[e,hg]
 ·rfl
theorem f52 (b:Nat)(x:Int)(H:Aa)(hg:H.get b=.cells [uv x] 85 .ex):∃ v H',C5 (.fn 52) #[Bc b 0] H v H'∧v=uv (A7G x)∧H'=fh H b (fSt x):=by
 have hr:H.rd b=some [uv x]:=by rw[Bf,hg];rfl
 refine Cl.ofW Try.func52 rfl (by kernel_rfl) (by rw[Try.ntmps52];exact Nat.le_of_ble_eq_true rfl) (by kernel_rfl) ?_
 have Ab:True:=trivial
 refine Jx [0] ?_
 intro eg Aj
 simp only[Ag,Af,and_true]at Aj
 try simp only[↓pb,An,A18,hg,hr,Ab,irN,nrA,nrM,nrE,reduceIte,reduceCtorEq,nrL]at Aj
 replace Ab:=Aj;clear Aj
 repeat'(first|((with_reducible refine hK _ _ fun e2 Aj=>?_);clear hK K;simp only[B3H,Ag,Af,and_true,↓pb,An,A18,hg,hr,Ab,irN,nrA,nrM,nrE,reduceIte,reduceCtorEq,nrL]at Aj;clear Ab;(try clear eg);have Ab:=Aj;clear Aj;rename Bi=>eg)|((first|((with_reducible first|apply Ac|apply Al|apply Ak);(simp(disch:=try exact dA) only[Bh,A18,hg,hr,Ab,irN,nrA,nrM,nrE,reduceIte,reduceCtorEq,nrL];with_reducible exact rfl))|((with_reducible first|apply Ar|apply As|apply Aq);(focus exact Ee))|(with_reducible first|refine Ai B3H fun K hK=>?_|refine Aw B3H fun K hK=>?_));try simp only[↓pb,↓pd,Bp,A18,hg,hr,Ab,irN,nrA,nrM,nrE,reduceIte,reduceCtorEq,nrL])|((with_reducible apply Au);(simp only[↓pb,An,A18,hg,hr,Ab,irN,nrA,nrM,nrE,reduceIte,reduceCtorEq,nrL];with_reducible exact rfl);all_goals(intro hc;(first|exact C8 hc|try simp only[C0]at hc)))|(with_reducible first|refine Az ?_|refine At ?_|refine Ay ?_)|fail)
 ·refine⟨by first|exact .inl rfl|exact .inr rfl, ?_⟩
  rw[Ec Try.results52]
  simp only[↓pb,An,A18,hg,hr,Bo,Bg,Ab,irN,nrA,nrM,nrE,reduceIte,reduceCtorEq,nrL]
  repeat ((with_reducible apply Ac);(simp(disch:=try exact dA) only[Bh,A18,hg,hr,Ab,irN,nrA,nrM,nrE,reduceIte,reduceCtorEq,nrL];exact rfl))
  subst hc
  exact⟨rfl,rfl⟩
 ·refine⟨by first|exact .inl rfl|exact .inr rfl, ?_⟩
  rw[Ec Try.results52]
  simp only[↓pb,An,A18,hg,hr,Bo,Bg,Ab,irN,nrA,nrM,nrE,reduceIte,reduceCtorEq,nrL]
  repeat ((with_reducible apply Ac);(simp(disch:=try exact dA) only[Bh,A18,hg,hr,Ab,irN,nrA,nrM,nrE,reduceIte,reduceCtorEq,nrL];exact rfl))
  have h0:fS0 x=x:=if_neg hc
  unfold A7G fSt
  rw[h0]
  exact⟨rfl,rfl⟩
theorem f20 (b:Nat)(x n:Int)(H:Aa)(hg:H.get b=.cells [uv x] 85 .ex)(hn:n<9223372036854775808):∃ v H',C5 (.fn 20) #[Bc b 0,iv n] H v H'∧v=iv (Cm x n)∧H'=fh H b (Cb x n):=by
 by_cases h2:n<2
 ·have hu:=A6y hg
  refine Cl.ofW Try.func20 rfl (by kernel_rfl) (by rw[Try.ntmps20];exact Nat.le_of_ble_eq_true rfl) (by kernel_rfl) ?_
  have Ab:True:=trivial
  refine Jx [0,1] ?_
  intro eg Aj
  simp only[Ag,Af,and_true]at Aj
  try simp only[↓pb,An,Rl,h2,Ab,irN,nrA,nrM,nrE,reduceIte,reduceCtorEq,nrL]at Aj
  replace Ab:=Aj;clear Aj
  repeat'(first|((with_reducible refine hK _ _ fun e2 Aj=>?_);clear hK K;simp only[B1J,Ag,Af,and_true,↓pb,An,Rl,h2,Ab,irN,nrA,nrM,nrE,reduceIte,reduceCtorEq,nrL]at Aj;clear Ab;(try clear eg);have Ab:=Aj;clear Aj;rename Bi=>eg)|((first|((with_reducible first|apply Ac|apply Al|apply Ak);(simp(disch:=try exact dA) only[Bh,Rl,h2,Ab,irN,nrA,nrM,nrE,reduceIte,reduceCtorEq,nrL];with_reducible exact rfl))|(with_reducible first|refine Ai B1J fun K hK=>?_));try simp only[↓pb,↓pd,Bp,Rl,h2,Ab,irN,nrA,nrM,nrE,reduceIte,reduceCtorEq,nrL])|((with_reducible apply Au);(simp only[↓pb,An,Rl,h2,Ab,irN,nrA,nrM,nrE,reduceIte,reduceCtorEq,nrL];with_reducible exact rfl);all_goals(intro hc;(first|exact C8 hc|try simp only[C0]at hc)))|(with_reducible first|refine Az ?_|refine At ?_|refine Ay ?_)|fail)
  refine⟨by first|exact .inl rfl|exact .inr rfl, ?_⟩
  rw[Ec Try.results20]
  simp only[↓pb,An,Rl,h2,Bo,Bg,Ab,irN,nrA,nrM,nrE,reduceIte,reduceCtorEq,nrL]
  repeat ((with_reducible apply Ac);(simp(disch:=try exact dA) only[Bh,Rl,h2,Ab,irN,nrA,nrM,nrE,reduceIte,reduceCtorEq,nrL];exact rfl))
  simp only[Cm,Cb,h2,if_true,hu,and_self]
 ·have hw:=B36 (n:=n) (by omega) (by omega)
  refine Cl.ofW Try.func20 rfl (by kernel_rfl) (by rw[Try.ntmps20];exact Nat.le_of_ble_eq_true rfl) (by kernel_rfl) ?_
  have Ab:True:=trivial
  refine Jx [0,1] ?_
  intro eg Aj
  simp only[Ag,Af,and_true]at Aj
  try simp only[↓pb,An,Rl,hg,hw,h2,Ab,irN,nrA,nrM,nrE,reduceIte,reduceCtorEq,nrL]at Aj
  replace Ab:=Aj;clear Aj
  repeat'(first|((with_reducible refine hK _ _ fun e2 Aj=>?_);clear hK K;simp only[B1J,Ag,Af,and_true,↓pb,An,Rl,hg,hw,h2,Ab,irN,nrA,nrM,nrE,reduceIte,reduceCtorEq,nrL]at Aj;clear Ab;(try clear eg);have Ab:=Aj;clear Aj;rename Bi=>eg)|((first|((with_reducible first|apply Ac|apply Al|apply Ak);(simp(disch:=try exact dA) only[Bh,Rl,hg,hw,h2,Ab,irN,nrA,nrM,nrE,reduceIte,reduceCtorEq,nrL];with_reducible exact rfl))|((with_reducible apply Cp);(simp only[↓pb,An,Rl,hg,hw,h2,Ab,irN,nrA,nrM,nrE,reduceIte,reduceCtorEq,nrL];(exact f52 _ _ _ hg)))|(with_reducible first|refine Ai B1J fun K hK=>?_));try simp only[↓pb,↓pd,Bp,Rl,hg,hw,h2,Ab,irN,nrA,nrM,nrE,reduceIte,reduceCtorEq,nrL])|((with_reducible apply Au);(simp only[↓pb,An,Rl,hg,hw,h2,Ab,irN,nrA,nrM,nrE,reduceIte,reduceCtorEq,nrL];with_reducible exact rfl);all_goals(intro hc;(first|exact C8 hc|try simp only[C0]at hc)))|(with_reducible first|refine Az ?_|refine At ?_|refine Ay ?_)|fail)
  refine⟨by first|exact .inl rfl|exact .inr rfl, ?_⟩
  rw[Ec Try.results20]
  simp only[↓pb,An,Rl,hg,hw,h2,Bo,Bg,Ab,irN,nrA,nrM,nrE,reduceIte,reduceCtorEq,nrL]
  repeat ((with_reducible apply Ac);(simp(disch:=try exact dA) only[Bh,Rl,hg,hw,h2,Ab,irN,nrA,nrM,nrE,reduceIte,reduceCtorEq,nrL];exact rfl))
  simp only[Cm,Cb,h2,if_false,and_self]
theorem f31 (b:Nat)(x lo hi:Int)(H:Aa)(hg:H.get b=.cells [uv x] 85 .ex):∃ v H',C5 (.fn 31) #[Bc b 0,iv lo,iv hi] H v H'∧v=iv (Mt x lo hi)∧H'=fh H b (Iz x lo hi):=by
 refine Cl.ofW Try.func31 rfl (by kernel_rfl) (by rw[Try.ntmps31];exact Nat.le_of_ble_eq_true rfl) (by kernel_rfl) ?_
 have Ab:True:=trivial
 refine Jx [0,1,2] ?_
 intro eg Aj
 simp only[Ag,Af,and_true]at Aj
 try simp only[↓pb,An,A5i,hg,Ab,irN,nrA,nrM,nrE,reduceIte,reduceCtorEq,nrL]at Aj
 replace Ab:=Aj;clear Aj
 repeat'(first|((with_reducible refine hK _ _ fun e2 Aj=>?_);clear hK K;simp only[B48,Ag,Af,and_true,↓pb,An,A5i,hg,Ab,irN,nrA,nrM,nrE,reduceIte,reduceCtorEq,nrL]at Aj;clear Ab;(try clear eg);have Ab:=Aj;clear Aj;rename Bi=>eg)|((first|((with_reducible first|apply Ac|apply Al|apply Ak);(simp(disch:=try exact dA) only[Bh,A5i,hg,Ab,irN,nrA,nrM,nrE,reduceIte,reduceCtorEq,nrL];with_reducible exact rfl))|((with_reducible apply Cp);(simp only[↓pb,An,A5i,hg,Ab,irN,nrA,nrM,nrE,reduceIte,reduceCtorEq,nrL];(exact f20 _ _ _ _ hg (A0g _ _))))|(with_reducible first|refine Ai B48 fun K hK=>?_));try simp only[↓pb,↓pd,Bp,A5i,hg,Ab,irN,nrA,nrM,nrE,reduceIte,reduceCtorEq,nrL])|(with_reducible first|refine Az ?_|refine Ay ?_)|fail)
 refine⟨by first|exact .inl rfl|exact .inr rfl, ?_⟩
 rw[Ec Try.results31]
 simp only[↓pb,An,A5i,hg,Bo,Bg,Ab,irN,nrA,nrM,nrE,reduceIte,reduceCtorEq,nrL]
 repeat ((with_reducible apply Ac);(simp(disch:=try exact dA) only[Bh,A5i,hg,Ab,irN,nrA,nrM,nrE,reduceIte,reduceCtorEq,nrL];exact rfl))
 exact⟨rfl,rfl⟩
theorem f41 (b:Nat)(x n m:Int)(H:Aa)(hg:H.get b=.cells [uv x] 85 .ex)(hm:m<9223372036854775808):∃ v H',C5 (.fn 41) #[Bc b 0,iv n,iv m] H v H'∧v=.bool (decide (Cm x m<n))∧H'=fh H b (Cb x m):=by
 refine Cl.ofW Try.func41 rfl (by kernel_rfl) (by rw[Try.ntmps41];exact Nat.le_of_ble_eq_true rfl) (by kernel_rfl) ?_
 have Ab:True:=trivial
 refine Jx [0,1,2] ?_
 intro eg Aj
 simp only[Ag,Af,and_true]at Aj
 try simp only[↓pb,An,A5j,hg,Ab,irN,nrA,nrM,nrE,reduceIte,reduceCtorEq,nrL]at Aj
 replace Ab:=Aj;clear Aj
 repeat'(first|((with_reducible refine hK _ _ fun e2 Aj=>?_);clear hK K;simp only[B49,Ag,Af,and_true,↓pb,An,A5j,hg,Ab,irN,nrA,nrM,nrE,reduceIte,reduceCtorEq,nrL]at Aj;clear Ab;(try clear eg);have Ab:=Aj;clear Aj;rename Bi=>eg)|((first|((with_reducible first|apply Ac|apply Al|apply Ak);(simp(disch:=try exact dA) only[Bh,A5j,hg,Ab,irN,nrA,nrM,nrE,reduceIte,reduceCtorEq,nrL];with_reducible exact rfl))|((with_reducible apply Cp);(simp only[↓pb,An,A5j,hg,Ab,irN,nrA,nrM,nrE,reduceIte,reduceCtorEq,nrL];(exact f20 _ _ _ _ hg hm)))|(with_reducible first|refine Ai B49 fun K hK=>?_));try simp only[↓pb,↓pd,Bp,A5j,hg,Ab,irN,nrA,nrM,nrE,reduceIte,reduceCtorEq,nrL])|(with_reducible first|refine Az ?_|refine Ay ?_)|fail)
 refine⟨by first|exact .inl rfl|exact .inr rfl, ?_⟩
 rw[Ec Try.results41]
 simp only[↓pb,An,A5j,hg,Bo,Bg,Ab,irN,nrA,nrM,nrE,reduceIte,reduceCtorEq,nrL]
 repeat ((with_reducible apply Ac);(simp(disch:=try exact dA) only[Bh,A5j,hg,Ab,irN,nrA,nrM,nrE,reduceIte,reduceCtorEq,nrL];exact rfl))
theorem f18 (b:Nat)(x:Int)(vl:Value)(l:List Int)(H:Aa)(hg:H.get b=.cells [uv x] 85 .ex)(S:SR H 1 l.length vl (Ck l))(hne:C4 vl≠b∨l.length=0)(hl:l.length<1099511627776) :
  ∃ v H',C5 (.fn 18) #[Bc b 0,vl] H v H'∧v=iv (D1 x l)∧H'=fh H b (Ej x l):=by
 have S2:SR H 1 l.length vl (l.map iv):=S
 have hlt:=S.lt
 by_cases h0:l.length=0
 ·have hu:=A6y hg
  have h0':(l.length:Int)=0:=by omega
  refine Cl.ofW Try.func18 rfl (by kernel_rfl) (by rw[Try.ntmps18];exact Nat.le_of_ble_eq_true rfl) (by kernel_rfl) ?_
  have Ab:True:=trivial
  refine Jx [0,1] ?_
  intro eg Aj
  simp only[Ag,Af,and_true]at Aj
  try simp only[↓pb,An,Rk,Bd S,h0',Ab,irN,nrA,nrM,nrE,reduceIte,reduceCtorEq,nrL]at Aj
  replace Ab:=Aj;clear Aj
  repeat'(first|((with_reducible refine hK _ _ fun e2 Aj=>?_);clear hK K;simp only[B1I,Ag,Af,and_true,↓pb,An,Rk,Bd S,h0',Ab,irN,nrA,nrM,nrE,reduceIte,reduceCtorEq,nrL]at Aj;clear Ab;(try clear eg);have Ab:=Aj;clear Aj;rename Bi=>eg)|((first|((with_reducible first|apply Ac|apply Al|apply Ak);(simp(disch:=try exact dA) only[Bh,Rk,Bd S,h0',Ab,irN,nrA,nrM,nrE,reduceIte,reduceCtorEq,nrL];with_reducible exact rfl))|(with_reducible first|refine Ai B1I fun K hK=>?_));try simp only[↓pb,↓pd,Bp,Rk,Bd S,h0',Ab,irN,nrA,nrM,nrE,reduceIte,reduceCtorEq,nrL])|((with_reducible apply Au);(simp only[↓pb,An,Rk,Bd S,h0',Ab,irN,nrA,nrM,nrE,reduceIte,reduceCtorEq,nrL];with_reducible exact rfl);all_goals(intro hc;(first|exact C8 hc|try simp only[C0]at hc)))|(with_reducible first|refine Az ?_|refine At ?_|refine Ay ?_)|fail)
  refine⟨by first|exact .inl rfl|exact .inr rfl, ?_⟩
  rw[Ec Try.results18]
  simp only[↓pb,An,Rk,Bd S,h0',Bo,Bg,Ab,irN,nrA,nrM,nrE,reduceIte,reduceCtorEq,nrL]
  repeat ((with_reducible apply Ac);(simp(disch:=try exact dA) only[Bh,Rk,Bd S,h0',Ab,irN,nrA,nrM,nrE,reduceIte,reduceCtorEq,nrL];exact rfl))
  simp only[D1,Ej,h0,if_true,hu,and_self]
 ·have hb:=Dw x l.length (by omega)
  have h0':¬ ((l.length:Int)=0):=by omega
  have hb2:=hb.2.1 (by omega)
  refine Cl.ofW Try.func18 rfl (by kernel_rfl) (by rw[Try.ntmps18];exact Nat.le_of_ble_eq_true rfl) (by kernel_rfl) ?_
  have Ab:True:=trivial
  refine Jx [0,1] ?_
  intro eg Aj
  simp only[Ag,Af,and_true]at Aj
  try simp only[↓pb,An,Rk,Bd S,h0',Eb S,S.rd,S2.el1 rfl,Ab,irN,nrA,nrM,nrE,reduceIte,reduceCtorEq,nrL]at Aj
  replace Ab:=Aj;clear Aj
  repeat'(first|((with_reducible refine hK _ _ fun e2 Aj=>?_);clear hK K;simp only[B1I,Ag,Af,and_true,↓pb,An,Rk,Bd S,h0',Eb S,S.rd,S2.el1 rfl,Ab,irN,nrA,nrM,nrE,reduceIte,reduceCtorEq,nrL]at Aj;clear Ab;(try clear eg);have Ab:=Aj;clear Aj;rename Bi=>eg)|((first|((with_reducible first|apply Ac|apply Al|apply Ak);(simp(disch:=try exact dA) only[Bh,Rk,Bd S,h0',Eb S,S.rd,S2.el1 rfl,Ab,irN,nrA,nrM,nrE,reduceIte,reduceCtorEq,nrL];with_reducible exact rfl))|((with_reducible apply Cp);(simp only[↓pb,An,Rk,Bd S,h0',Eb S,S.rd,S2.el1 rfl,Ab,irN,nrA,nrM,nrE,reduceIte,reduceCtorEq,nrL];(exact f20 _ _ _ _ hg (by omega))))|(with_reducible first|refine Ai B1I fun K hK=>?_));try simp only[↓pb,↓pd,Bp,Rk,Bd S,h0',Eb S,S.rd,S2.el1 rfl,Ab,irN,nrA,nrM,nrE,reduceIte,reduceCtorEq,nrL])|((with_reducible apply Au);(simp only[↓pb,An,Rk,Bd S,h0',Eb S,S.rd,S2.el1 rfl,Ab,irN,nrA,nrM,nrE,reduceIte,reduceCtorEq,nrL];with_reducible exact rfl);all_goals(intro hc;(first|exact C8 hc|try simp only[C0]at hc)))|(with_reducible first|refine Az ?_|refine At ?_|refine Ay ?_)|fail)
  refine⟨by first|exact .inl rfl|exact .inr rfl, ?_⟩
  rw[Ec Try.results18]
  simp only[↓pb,An,Rk,Bd S,h0',Eb S,S.rd,S2.el1 rfl,Bo,Bg,Ab,irN,nrA,nrM,nrE,reduceIte,reduceCtorEq,nrL]
  repeat ((with_reducible apply Ac);(simp(disch:=try exact dA) only[Bh,Rk,Bd S,h0',Eb S,S.rd,S2.el1 rfl,Ab,irN,nrA,nrM,nrE,reduceIte,reduceCtorEq,nrL];exact rfl))
  simp only[D1,Ej,h0,if_false,and_self]
  exact⟨rfl,trivial⟩
theorem SR.cast {H:Aa}{s m k:Nat}{v:Value}{c:List Value}(h:SR H s m v c)(e:m=k):SR H s k v c:=e ▸ h
theorem f16 (vl:Value)(l:List Int)(H:Aa)(hT:C1 H)(S:SR H 1 l.length vl (Ck l))(hl:l.length≤9223372036854775807) :
  ∃ v H',C5 (.fn 16) #[vl] H v H'∧v=Bc H.n 0∧H'=H.upd (H.n+1) H.n (.cells [uv (Mb l)] 85 .ex):=by
 have S2:SR H 1 l.length vl (l.map iv):=S
 have hfr:∀ o o',Fr H.n [H.n] (H.upd (H.n+1) H.n (.cells o 85 .ex)) (H.upd (H.n+1) H.n (.cells o' 85 .ex)):=fun o o'=>by
  have:=(Fr.refl (N:=H.n) (X:=[H.n]) (H.upd (H.n+1) H.n (.cells o 85 .ex))).upd (n:=H.n+1) (b:=H.n) (o:=.cells o' 85 .ex) (Nat.le_refl _) (Nat.lt_succ_self _) (.inr (by simp)) trivial
  rw[A1f]at this
  exact this
 refine Cl.ofW Try.func16 rfl (by kernel_rfl) (by rw[Try.ntmps16];exact Nat.le_of_ble_eq_true rfl) (by kernel_rfl) ?_
 have Ab:True:=trivial
 refine Jx [0] ?_
 intro eg Aj
 simp only[Ag,Af,and_true]at Aj
 try simp only[↓pb,An,Oc,Bd S,Ab,irN,nrA,nrM,nrE,reduceIte,reduceCtorEq,nrL]at Aj
 replace Ab:=Aj;clear Aj
 repeat'(first|((with_reducible refine hK _ _ fun e2 Aj=>?_);clear hK K;simp only[A1v,Ag,Af,and_true,↓pb,An,Oc,Bd S,Ab,irN,nrA,nrM,nrE,reduceIte,reduceCtorEq,nrL]at Aj;clear Ab;(try clear eg);have Ab:=Aj;clear Aj;rename Bi=>eg)|((first|((with_reducible first|apply Ac|apply Al|apply Ak);(simp(disch:=try exact dA) only[Bh,Oc,Bd S,Ab,irN,nrA,nrM,nrE,reduceIte,reduceCtorEq,nrL];with_reducible exact rfl))|((with_reducible first|apply Ar|apply As|apply Aq);(focus exact Ee))|(with_reducible first|refine Ai A1v fun K hK=>?_|refine Aw A1v fun K hK=>?_));try simp only[↓pb,↓pd,Bp,Oc,Bd S,Ab,irN,nrA,nrM,nrE,reduceIte,reduceCtorEq,nrL])|((with_reducible apply Au);(simp only[↓pb,An,Oc,Bd S,Ab,irN,nrA,nrM,nrE,reduceIte,reduceCtorEq,nrL];with_reducible exact rfl);all_goals(intro hc;(first|exact C8 hc|try simp only[C0]at hc)))|(with_reducible first|refine Az ?_|refine Ap ?_|refine At ?_|refine Ay ?_|refine Ax ?_|apply Ad)|((with_reducible apply Ae);(focus decide))|fail)
 refine Db [0,3] (by kernel_rfl) 4 (l.length) (H.n) [H.n] [] (fun i e h=>h=H.upd (H.n+1) H.n (.cells [uv (Mb (l.take i))] 85 .ex)) (by simp only[↓pb,An,Oc,Bd S,Ab,irN,nrA,nrM,nrE,reduceIte,reduceCtorEq,nrL]) (by focus exact Bb) (H0:=H) (by focus exact Bm) (by intro b hb hlt;simp at hb ⊢;try omega) ?_ ?_
 rotate_left
 intro i1 e1 h1 hi1 D3 ei1 Ep D9 Mf Hh
 simp only[Ag,Af,and_true]at D3
 try simp only[↓pb,An,Oc,Bd S,Ab,irN,nrA,nrM,nrE,reduceIte,reduceCtorEq,nrL]at D3
 have hn11:=Ep.n;have hn01:=D9.n;try simp only[Ao,A3]at hn11
 replace Ab:=B9p ei1 D3
 rotate_left
 ·rfl
 subst Hh
 have S1:=S2.fr0 D9
 have l1:=S2.lt
 by_cases hi2:i1<l.length
 ·repeat'(first|((with_reducible refine hK _ _ fun e2 Aj=>?_);clear hK K;simp only[A1v,Ag,Af,and_true,↓pb,An,Oc,Bd S,Ab,irN,nrA,nrM,nrE,reduceIte,reduceCtorEq,nrL]at Aj;clear Ab;(try clear eg);have Ab:=Aj;clear Aj;rename Bi=>eg)|((first|((with_reducible first|apply Ac|apply Al|apply Ak);(simp(disch:=try exact dA) only[Bh,Oc,Bd S,Eb S1,S1.rd,S1.el1 rfl,Ab,irN,nrA,nrM,nrE,reduceIte,reduceCtorEq,nrL];with_reducible exact rfl))|((with_reducible first|apply Ar|apply As|apply Aq);(focus exact Ee))|((with_reducible apply Cp);(simp only[↓pb,An,Oc,Bd S,Eb S1,S1.rd,S1.el1 rfl,Ab,irN,nrA,nrM,nrE,reduceIte,reduceCtorEq,nrL];(exact f52 _ _ _ Ch)))|(with_reducible first|refine Ai A1v fun K hK=>?_|refine Aw A1v fun K hK=>?_));try simp only[↓pb,↓pd,Bp,Oc,Bd S,Eb S1,S1.rd,S1.el1 rfl,Ab,irN,nrA,nrM,nrE,reduceIte,reduceCtorEq,nrL])|((with_reducible apply Au);(simp only[↓pb,An,Oc,Bd S,Eb S1,S1.rd,S1.el1 rfl,Ab,irN,nrA,nrM,nrE,reduceIte,reduceCtorEq,nrL];with_reducible exact rfl);all_goals(intro hc;(first|exact C8 hc|try simp only[C0]at hc)))|(with_reducible first|refine Az ?_|refine Ap ?_|refine At ?_|refine Ay ?_|refine Ax ?_|apply Ad)|((with_reducible apply Ae);(focus decide))|fail)
  refine⟨by omega,by simp only[↓pb,An,Oc,Bd S,Ab,irN,nrA,nrM,nrE,reduceIte,reduceCtorEq,nrL];exact congrArg _ (Di (by omega)),hfr _ _, ?_⟩
  rw[H6 hi2,Mb,Mb,List.foldl_append]
  rfl
 ·have e1:i1=l.length:=by omega
  repeat'(first|((with_reducible refine hK _ _ fun e2 Aj=>?_);clear hK K;simp only[A1v,Ag,Af,and_true,↓pb,An,Oc,Bd S,Ab,irN,nrA,nrM,nrE,reduceIte,reduceCtorEq,nrL]at Aj;clear Ab;(try clear eg);have Ab:=Aj;clear Aj;rename Bi=>eg)|((first|((with_reducible first|apply Ac|apply Al|apply Ak);(simp(disch:=try exact dA) only[Bh,Oc,Bd S,Ab,irN,nrA,nrM,nrE,reduceIte,reduceCtorEq,nrL];with_reducible exact rfl))|((with_reducible first|apply Ar|apply As|apply Aq);(focus exact Ee))|(with_reducible first|refine Ai A1v fun K hK=>?_|refine Aw A1v fun K hK=>?_));try simp only[↓pb,↓pd,Bp,Oc,Bd S,Ab,irN,nrA,nrM,nrE,reduceIte,reduceCtorEq,nrL])|((with_reducible apply Au);(simp only[↓pb,An,Oc,Bd S,Ab,irN,nrA,nrM,nrE,reduceIte,reduceCtorEq,nrL];with_reducible exact rfl);all_goals(intro hc;(first|exact C8 hc|try simp only[C0]at hc)))|(with_reducible first|refine Az ?_|refine Ap ?_|refine At ?_|refine Ay ?_|refine Ax ?_|apply Ad)|((with_reducible apply Ae);(focus decide))|fail)
  refine⟨by first|exact .inl rfl|exact .inr rfl, ?_⟩
  rw[Ec Try.results16]
  simp only[↓pb,An,Oc,Bd S,Bo,Bg,Ab,irN,nrA,nrM,nrE,reduceIte,reduceCtorEq,nrL]
  repeat ((with_reducible apply Ac);(simp(disch:=try exact dA) only[Bh,Oc,Bd S,Ab,irN,nrA,nrM,nrE,reduceIte,reduceCtorEq,nrL];exact rfl))
  rw[e1,List.take_length]
theorem GS.fr' {N:Nat}{X:List Nat}{A B:Aa}(hF:Fr N X A B){s n:Nat}{v:Value}{c:List Value}{g:Option Nat}(h:GS A s n v c g)(hg:∀ x,g=some x→x<N)(hx:v=.slice none 0 0∨C4 v∉X):GS B s n v c g:=by
 rcases hx with rfl|hx
 ·cases h with
  | nil hn hv hc=>exact .nil hn hv hc
  | full hv=>cases hv
  | gr hv=>cases hv
 ·exact h.fr hF hg hx
theorem GS.upd_gr {B:Aa}{s n g' e:Nat}{l:Bool}{v:Value}{c d:List Value}{T:TypeId}{g:Option Nat}(G:GS B s n v c g)(hne:g≠some g'):GS (B.upd (B.n+1) B.n (.cells d T (.gr g' e l))) s n v c g:=by
 cases G with
 | nil hn hv hc=>exact .nil hn hv hc
 | full hv hb hg hk hl hc h0=>exact .full hv (Nat.lt_succ_of_lt hb) ((Cr (by omega)).trans hg) hk hl hc h0
 | gr hv hb hgb hg hl hf =>
  refine .gr hv (Nat.lt_succ_of_lt hb) hgb ((Cr (by omega)).trans hg) hl ?_
  intro b' c' T' e' l' hb'
  by_cases e1:b'=B.n
  ·subst e1
   rw[Ch]at hb'
   cases hb'
   exact absurd rfl hne
  ·rw[Cr e1]at hb'
   exact hf b' c' T' e' l' hb'
theorem Jk {H:Aa}{b:Nat}{a0 a1 a2 a3 a4 a5 x y:Value}{T:TypeId}:Mg H b 3 2 (.agg ⟨[x,y]⟩) (.cells [a0,a1,a2,a3,a4,a5] T .ex)=some (H.upd H.n b (.cells [a0,a1,a2,x,y,a5] T .ex)):=by
 rw[A1g,if_pos ⟨rfl,rfl,by simp⟩]
 rfl
theorem Ij {H:Aa}{b k:Nat}{l:List Int}{y:Int}(h:k<l.length):Mg H b (k*1) 1 (iv y) (.cells (Ck l) 3 .ex)=some (H.upd H.n b (.cells (Ck (l.set k y)) 3 .ex)):=by
 rw[Nat.mul_one,← R3]
 exact A1h (by rw[C3];exact h)
theorem B6n (x:Int):max 2 (IntKind.i64.wrap x)<9223372036854775808:=by
 have:=W0 x
 unfold Dz at this
 omega
theorem A0F:∀ (n:Nat)(x:Int)(l:List Spo),(Of n x l).1.length=l.length+n
 | 0,x,l=>rfl
 | n+1,x,l=>by rw[Of,A0F n,List.length_append,List.length_singleton];omega
theorem A0G {m h:Int}:∀ (n:Nat)(x:Int)(l:List Srt),(Og m h n x l).1.length=l.length+n
 | 0,x,l=>rfl
 | n+1,x,l=>by rw[Og,A0G n,List.length_append,List.length_singleton];omega
theorem Yg {l:List Int}{x:Int}:Ck (l ++ [x])=Ck l ++ [iv x]:=by simp[Ck]
theorem Qf.step_take {spots sorts:Nat}{mass hours:Int}{s:Qf}(h1:0<s.lies.getD (Cm (Ej (Cb s.x 4) [0,1,Cm s.x 4]) spots).toNat 0)
  (h2:Cm (Iz (Cb (Cb (Ej (Cb s.x 4) [0,1,Cm s.x 4]) spots) sorts) 1 mass) 5<2) :
  s.step spots sorts mass hours=(let x1:=Cb s.x 4;let hour:=min 72 (min hours (Dz (s.hour+D1 x1 [0,1,Cm s.x 4])));let x2:=Ej x1 [0,1,Cm s.x 4];let spot:=Cm x2 spots;let x3:=Cb x2 spots;let x4:=Cb x3 sorts
   let x5:=Iz x4 1 mass;let lie:=s.lies.getD spot.toNat 0;let x6:=Cb x5 5;let x7:=Iz x6 1 lie;let l:=[lie,Mt x6 1 lie];let k:=D1 x7 l;let r:=Ld mass k (Ej x7 l)
   ⟨r.2,hour,s.lies.set spot.toNat (Dz (lie-k)),s.acts ++ [⟨hour,spot,0,r.1.Min,r.1.Max,true⟩],s.truth ++ [k]⟩):=by
 unfold Qf.step
 simp only[h1,h2,and_self,if_true]
theorem Qf.step_tip1 {spots sorts:Nat}{mass hours:Int}{s:Qf}(h1:0<s.lies.getD (Cm (Ej (Cb s.x 4) [0,1,Cm s.x 4]) spots).toNat 0)
  (h2:¬ Cm (Iz (Cb (Cb (Ej (Cb s.x 4) [0,1,Cm s.x 4]) spots) sorts) 1 mass) 5<2) :
  s.step spots sorts mass hours=(let x1:=Cb s.x 4;let hour:=min 72 (min hours (Dz (s.hour+D1 x1 [0,1,Cm s.x 4])));let x2:=Ej x1 [0,1,Cm s.x 4];let spot:=Cm x2 spots;let x3:=Cb x2 spots;let kind:=Cm x3 sorts;let x4:=Cb x3 sorts
   let n:=Mt x4 1 mass;let x5:=Iz x4 1 mass;let lie:=s.lies.getD spot.toNat 0;let r:=Ld mass n (Cb x5 5)
   ⟨r.2,hour,s.lies.set spot.toNat (Dz (lie+n)),s.acts ++ [⟨hour,spot,kind,r.1.Min,r.1.Max,false⟩],s.truth ++ [n]⟩):=by
 unfold Qf.step
 simp only[h1,h2,and_false,if_false,if_true]
theorem Qf.step_tip0 {spots sorts:Nat}{mass hours:Int}{s:Qf}(h1:¬ 0<s.lies.getD (Cm (Ej (Cb s.x 4) [0,1,Cm s.x 4]) spots).toNat 0) :
  s.step spots sorts mass hours=(let x1:=Cb s.x 4;let hour:=min 72 (min hours (Dz (s.hour+D1 x1 [0,1,Cm s.x 4])));let x2:=Ej x1 [0,1,Cm s.x 4];let spot:=Cm x2 spots;let x3:=Cb x2 spots;let kind:=Cm x3 sorts;let x4:=Cb x3 sorts
   let n:=Mt x4 1 mass;let x5:=Iz x4 1 mass;let lie:=s.lies.getD spot.toNat 0;let r:=Ld mass n x5
   ⟨r.2,hour,s.lies.set spot.toNat (Dz (lie+n)),s.acts ++ [⟨hour,spot,kind,r.1.Min,r.1.Max,false⟩],s.truth ++ [n]⟩):=by
 unfold Qf.step
 simp only[h1,false_and,if_false]
theorem D0 {a b:Int}:Ez Try.prog 131 [(0,iv a),(1,iv b)]=some (k2 a b):=A9Z A1Z B5J sz3 a b
theorem B0D:Try.prog.underlying 128=some (.map 131 3):=by kernel_rfl
theorem B6o {H:Aa}{r:Nat}{l:List Tu}{a b d:Int}(hg:H.get r=.map (Qg l))(hn:Jf a b l 0=none):Fg Try.prog 128 (.map (some r)) (k2 a b) (iv d) H=some (H.upd H.n r (.map (Qg (l ++ [((a,b),d)])))) :=
 A1Q B0D A1Z sz3 ag3 A3N hg hn
theorem f77 (va vb vc:Value)(g:Cv)(H:Aa)(hT:C1 H)(hG:RG H va vb vc g)(hk:g.Spots.length=0∨SK H 3 va)(hn:g.Spots.length≤1000) :
  ∃ v H',C5 (.fn 77) #[.agg ⟨[va,vb,vc]⟩] H v H'∧(∃ r,v=.map (some r)∧H'.get r=.map (Qg (Ig g g.Spots.length))∧H.n≤r∧r<H'.n)∧Fr H.n [] H H':=by
 have l1:=hG.p.lt
 refine Cl.ofW Try.func77 rfl (by kernel_rfl) (by rw[Try.ntmps77];exact Nat.le_of_ble_eq_true rfl) (by kernel_rfl) ?_
 have Ab:True:=trivial
 refine Jx [0] ?_
 intro eg Aj
 simp only[Ag,Af,and_true]at Aj
 try simp only[↓pb,An,Hg,hG.one,Am hG.p,D0,Option.map_none,Option.map_some,Ab,irN,nrA,nrM,nrE,reduceIte,reduceCtorEq,nrL]at Aj
 replace Ab:=Aj;clear Aj
 repeat'(first|((with_reducible refine hK _ _ fun e2 Aj=>?_);clear hK K;simp only[Vo,Ag,Af,and_true,↓pb,An,Hg,hG.one,Am hG.p,D0,Option.map_none,Option.map_some,Ab,irN,nrA,nrM,nrE,reduceIte,reduceCtorEq,nrL]at Aj;clear Ab;(try clear eg);have Ab:=Aj;clear Aj;rename Bi=>eg)|((first|((with_reducible first|apply Ac|apply Al|apply Ak);(simp(disch:=try exact dA) only[Bh,Hg,hG.one,Am hG.p,D0,Option.map_none,Option.map_some,Ab,irN,nrA,nrM,nrE,reduceIte,reduceCtorEq,nrL];with_reducible exact rfl))|(with_reducible first|refine Ai Vo fun K hK=>?_));try simp only[↓pb,↓pd,Bp,Hg,hG.one,Am hG.p,D0,Option.map_none,Option.map_some,Ab,irN,nrA,nrM,nrE,reduceIte,reduceCtorEq,nrL])|((with_reducible apply Au);(simp only[↓pb,An,Hg,hG.one,Am hG.p,D0,Option.map_none,Option.map_some,Ab,irN,nrA,nrM,nrE,reduceIte,reduceCtorEq,nrL];with_reducible exact rfl);all_goals(intro hc;(first|exact C8 hc|try simp only[C0]at hc)))|(with_reducible first|refine Az ?_|refine Ap ?_|refine At ?_|refine Ay ?_|refine Ax ?_|apply Ad)|((with_reducible apply Ae);(focus decide))|fail)
 refine Db [1,3,10,11] (by kernel_rfl) 12 (g.Spots.length) (H.n) [H.n+1] [] (fun i e h=>h.get (H.n+1)=.map (Qg (Ig g i))) (by simp only[↓pb,An,Hg,hG.one,Am hG.p,D0,Option.map_none,Option.map_some,Ab,irN,nrA,nrM,nrE,reduceIte,reduceCtorEq,nrL]) (by focus exact Bb) (H0:=H) (by focus exact Bm) (by intro b hb hlt;simp at hb ⊢;try omega) ?_ ?_
 rotate_left
 intro i1 e1 h1 hi1 D3 ei1 Ep D9 Mf Hh
 simp only[Ag,Af,and_true]at D3
 try simp only[↓pb,An,Hg,hG.one,Am hG.p,D0,Option.map_none,Option.map_some,Ab,irN,nrA,nrM,nrE,reduceIte,reduceCtorEq,nrL]at D3
 have hn11:=Ep.n;have hn01:=D9.n;try simp only[Ao,A3]at hn11
 replace Ab:=B9p ei1 D3
 rotate_left
 ·simp(disch:=try exact dA) only[Bh,Hg,hG.one,Am hG.p,D0,Option.map_none,Option.map_some,Ab,irN,nrA,nrM,nrE,reduceIte,reduceCtorEq,nrL]
  rfl
 have G1:=hG.fr (N:=H.n) (Fr.trans (by exact Bm) D9)
 have r0:h1.rd H.n=some [va,vb,vc]:=by
  rw[Ep.rd (b:=H.n) (by simp only[↓pb,An,Hg,hG.one,Am hG.p,D0,Option.map_none,Option.map_some,Ab,irN,nrA,nrM,nrE,reduceIte,reduceCtorEq,nrL];omega) Lw]
  simp(disch:=try exact dA) only[Bh,Hg,hG.one,Am hG.p,D0,Option.map_none,Option.map_some,Ab,irN,nrA,nrM,nrE,reduceIte,reduceCtorEq,nrL]
 by_cases hi2:i1<g.Spots.length
 ·have l2:=G1.p.lt
  have l1':C4 va<H.n:=by omega
  have K1:SK h1 3 va:=by
   rcases hk with q|q
   ·omega
   ·exact q.fr D9 l1' (by simp)
  have U:∀ (N b:Nat) (o:Dd),C4 va≠b→h1.n≤N→SK (h1.upd N b o) 3 va:=fun N b o q hN=>by
   obtain⟨d,T,k,g1,g2⟩:=K1
   exact⟨d,T,k,(Cr q).trans g1,g2⟩
  have V:∀ (N b:Nat) (o:Dd),C4 va≠b→h1.n≤N→SR (h1.upd N b o) 3 g.Spots.length va (g.Spots.flatMap G7):=fun N b o q hN=>by
   obtain⟨a1,a2,a3,a4⟩:=G1.p
   refine⟨a1,a2, ?_, ?_⟩
   ·rcases a3 with a3|⟨d,b1,b2⟩
    ·exact .inl a3
    ·refine .inr ⟨d, ?_,b2⟩
     rw[Bf,Cr q,← Bf];exact b1
   ·rcases a4 with a4|a4
    ·exact .inl a4
    ·exact .inr (Nat.lt_of_lt_of_le a4 hN)
  have hsl:∀ (N b:Nat) (o:Dd),C4 va≠b→h1.n≤N→Jl Try.prog (h1.upd N b o) 22 va none (some (iv i1)) none=some (sl va i1):=fun N b o q hN=>(A0u Qq A10 (V N b o q hN) (U N b o q hN) hi1 (by omega)).1
  have S2:=(A0u (q:=.i64) Qq A10 G1.p K1 hi1 (by omega)).2
  rw[A0v Dc]at S2
  have hb2:C4 (sl va i1)=C4 va:=B4c hG.p (by omega)
  have ll2:(g.Spots.take i1).length=i1:=by rw[List.length_take];omega
  repeat'(first|((with_reducible refine hK _ _ fun e2 Aj=>?_);clear hK K;simp only[Vo,Ag,Af,and_true,↓pb,An,Hg,hG.one,Am hG.p,D0,Option.map_none,Option.map_some,Ab,irN,nrA,nrM,nrE,reduceIte,reduceCtorEq,nrL]at Aj;clear Ab;(try clear eg);have Ab:=Aj;clear Aj;rename Bi=>eg)|((first|((with_reducible first|apply Ac|apply Al|apply Ak);(simp(disch:=try exact dA) only[Bh,Hg,hG.one,Am hG.p,D0,Option.map_none,Option.map_some,r0,Hw G1.p,G1.p.rd,(G1.p.el Dc rfl),G7,hsl,Am S2,Ab,irN,nrA,nrM,nrE,reduceIte,reduceCtorEq,nrL];with_reducible exact rfl))|(with_reducible first|refine Ai Vo fun K hK=>?_));try simp only[↓pb,↓pd,Bp,Hg,hG.one,Am hG.p,D0,Option.map_none,Option.map_some,r0,Hw G1.p,G1.p.rd,(G1.p.el Dc rfl),G7,hsl,Am S2,Ab,irN,nrA,nrM,nrE,reduceIte,reduceCtorEq,nrL])|((with_reducible apply Au);(simp only[↓pb,An,Hg,hG.one,Am hG.p,D0,Option.map_none,Option.map_some,r0,Hw G1.p,G1.p.rd,(G1.p.el Dc rfl),G7,hsl,Am S2,Ab,irN,nrA,nrM,nrE,reduceIte,reduceCtorEq,nrL];with_reducible exact rfl);all_goals(intro hc;(first|exact C8 hc|try simp only[C0]at hc)))|(with_reducible first|refine Az ?_|refine Ap ?_|refine At ?_|refine Ay ?_|refine Ax ?_|apply Ad)|((with_reducible apply Ae);(focus decide))|fail)
  refine Db [1,3,4,5,10,11,12,20,21] (by kernel_rfl) 22 (i1) (H.n) [H.n+1] [] (fun i e h=>h.get (H.n+1)=.map (Qg (Ig g i1 ++ J4 g i1 i))) (by simp only[↓pb,An,Hg,hG.one,Am hG.p,D0,Option.map_none,Option.map_some,Ab,irN,nrA,nrM,nrE,reduceIte,reduceCtorEq,nrL]) (by focus exact Bb) (H0:=H) (by focus exact Bm) (by intro b hb hlt;simp at hb ⊢;try omega) ?_ ?_
  rotate_left
  intro i2 e2 h2 hi2 Lm ei2 Ol Ji A30 Ov
  simp only[Ag,Af,and_true]at Lm
  try simp only[↓pb,An,Hg,hG.one,Am hG.p,D0,Option.map_none,Option.map_some,Ab,irN,nrA,nrM,nrE,reduceIte,reduceCtorEq,nrL]at Lm
  have hn12:=Ol.n;have hn02:=Ji.n;try simp only[Ao,A3]at hn12
  replace Ab:=B9p ei2 Lm
  rotate_left
  ·simp(disch:=try exact dA) only[Bh,Hg,hG.one,Am hG.p,D0,Option.map_none,Option.map_some,Ab,irN,nrA,nrM,nrE,reduceIte,reduceCtorEq,nrL]
   rw[Hh,J4,List.append_nil]
  have r02:h2.rd H.n=some [va,vb,vc]:=by
   rw[Ol.rd (b:=H.n) (by simp only[↓pb,An,Hg,hG.one,Am hG.p,D0,Option.map_none,Option.map_some,Ab,irN,nrA,nrM,nrE,reduceIte,reduceCtorEq,nrL];omega) Lw]
   simp(disch:=try exact dA) only[Bh,Hg,hG.one,Am hG.p,D0,Option.map_none,Option.map_some,Ab,irN,nrA,nrM,nrE,reduceIte,reduceCtorEq,nrL]
   exact r0
  have B89:Fr H.n [H.n+1] ((H.upd (H.n+1) H.n (.cells [va,vb,vc] 26 .ex)).upd (H.n+2) (H.n+1) (.map [])) h2 :=
   Fr.trans (B:=h1.upd (h1.n+1) h1.n (.cells [iv (g.Spots.getD i1 default).X,iv (g.Spots.getD i1 default).Y,iv (g.Spots.getD i1 default).Area] 78 .ex)) (by exact Bm) Ol
  have r05:h2.rd h1.n=some [iv (g.Spots.getD i1 default).X,iv (g.Spots.getD i1 default).Y,iv (g.Spots.getD i1 default).Area]:=by
   rw[Ol.rd (b:=h1.n) (by simp only[↓pb,An,Hg,hG.one,Am hG.p,D0,Option.map_none,Option.map_some,Ab,irN,nrA,nrM,nrE,reduceIte,reduceCtorEq,nrL];omega) Lw]
   simp(disch:=try exact dA) only[Bh,Hg,hG.one,Am hG.p,D0,Option.map_none,Option.map_some,Ab,irN,nrA,nrM,nrE,reduceIte,reduceCtorEq,nrL]
  have S3:SR h2 3 i1 (sl va i1) ((g.Spots.take i1).flatMap G7):=(S2.fr0 (N:=h1.n) (B:=h1.upd (h1.n+1) h1.n (.cells [iv (g.Spots.getD i1 default).X,iv (g.Spots.getD i1 default).Y,iv (g.Spots.getD i1 default).Area] 78 .ex)) (by exact Bm)).fr Ol (by
   by_cases q:i1=0
   ·exact .inl q
   ·right;rw[hb2];simp;omega)
  by_cases hj2:i2<i1
  ·have l3:C4 (sl va i1)<H.n:=by omega
   have e3:=A7S (l:=g.Spots) hj2
   repeat'(first|((with_reducible refine hK _ _ fun e2 Aj=>?_);clear hK K;simp only[Vo,Ag,Af,and_true,↓pb,An,Hg,hG.one,Am hG.p,D0,Option.map_none,Option.map_some,Ab,irN,nrA,nrM,nrE,reduceIte,reduceCtorEq,nrL]at Aj;clear Ab;(try clear eg);have Ab:=Aj;clear Aj;rename Bi=>eg)|((first|((with_reducible first|apply Ac|apply Al|apply Ak);(simp(disch:=try exact dA) only[Bh,Hg,hG.one,Am hG.p,D0,Option.map_none,Option.map_some,r02,r05,Hw S3,S3.rd,(S3.el Dc ll2.symm),G7,e3,Ab,irN,nrA,nrM,nrE,reduceIte,reduceCtorEq,nrL];with_reducible exact rfl))|(with_reducible first|refine Ai Vo fun K hK=>?_));try simp only[↓pb,↓pd,Bp,Hg,hG.one,Am hG.p,D0,Option.map_none,Option.map_some,r02,r05,Hw S3,S3.rd,(S3.el Dc ll2.symm),G7,e3,Ab,irN,nrA,nrM,nrE,reduceIte,reduceCtorEq,nrL])|((with_reducible apply Au);(simp only[↓pb,An,Hg,hG.one,Am hG.p,D0,Option.map_none,Option.map_some,r02,r05,Hw S3,S3.rd,(S3.el Dc ll2.symm),G7,e3,Ab,irN,nrA,nrM,nrE,reduceIte,reduceCtorEq,nrL];with_reducible exact rfl);all_goals(intro hc;(first|exact C8 hc|try simp only[C0]at hc)))|(with_reducible first|refine Az ?_|refine Ap ?_|refine At ?_|refine Ay ?_|refine Ax ?_|apply Ad)|((with_reducible apply Ae);(focus decide))|fail)
   refine Al (B6o (l:=Ig g i1 ++ J4 g i1 i2) (by simp(disch:=try exact dA) only[Bh,Hg,hG.one,Am hG.p,D0,Option.map_none,Option.map_some,Ab,irN,nrA,nrM,nrE,reduceIte,reduceCtorEq,nrL];exact Ov) A90) ?_
   simp only[↓pb,↓pd,Bp,Hg,hG.one,Am hG.p,D0,Option.map_none,Option.map_some,Ab,irN,nrA,nrM,nrE,reduceIte,reduceCtorEq,nrL]
   repeat'(first|((with_reducible refine hK _ _ fun e2 Aj=>?_);clear hK K;simp only[Vo,Ag,Af,and_true,↓pb,An,Hg,hG.one,Am hG.p,D0,Option.map_none,Option.map_some,Ab,irN,nrA,nrM,nrE,reduceIte,reduceCtorEq,nrL]at Aj;clear Ab;(try clear eg);have Ab:=Aj;clear Aj;rename Bi=>eg)|((first|((with_reducible first|apply Ac|apply Al|apply Ak);(simp(disch:=try exact dA) only[Bh,Hg,hG.one,Am hG.p,D0,Option.map_none,Option.map_some,Ab,irN,nrA,nrM,nrE,reduceIte,reduceCtorEq,nrL];with_reducible exact rfl))|(with_reducible first|refine Ai Vo fun K hK=>?_));try simp only[↓pb,↓pd,Bp,Hg,hG.one,Am hG.p,D0,Option.map_none,Option.map_some,Ab,irN,nrA,nrM,nrE,reduceIte,reduceCtorEq,nrL])|((with_reducible apply Au);(simp only[↓pb,An,Hg,hG.one,Am hG.p,D0,Option.map_none,Option.map_some,Ab,irN,nrA,nrM,nrE,reduceIte,reduceCtorEq,nrL];with_reducible exact rfl);all_goals(intro hc;(first|exact C8 hc|try simp only[C0]at hc)))|(with_reducible first|refine Az ?_|refine Ap ?_|refine At ?_|refine Ay ?_|refine Ax ?_|apply Ad)|((with_reducible apply Ae);(focus decide))|fail)
   refine⟨by omega,by simp only[↓pb,An,Hg,hG.one,Am hG.p,D0,Option.map_none,Option.map_some,Ab,irN,nrA,nrM,nrE,reduceIte,reduceCtorEq,nrL];exact congrArg _ (Di (by omega)),by focus exact Bm, ?_⟩
   simp(disch:=try exact dA) only[Bh,Hg,hG.one,Am hG.p,D0,Option.map_none,Option.map_some,Ab,irN,nrA,nrM,nrE,reduceIte,reduceCtorEq,nrL]
   rw[J4,List.append_assoc]
   rfl
  ·have e2n:i2=i1:=by omega
   subst e2n
   repeat'(first|((with_reducible refine hK _ _ fun e2 Aj=>?_);clear hK K;simp only[Vo,Ag,Af,and_true,↓pb,An,Hg,hG.one,Am hG.p,D0,Option.map_none,Option.map_some,Ab,irN,nrA,nrM,nrE,reduceIte,reduceCtorEq,nrL]at Aj;clear Ab;(try clear eg);have Ab:=Aj;clear Aj;rename Bi=>eg)|((first|((with_reducible first|apply Ac|apply Al|apply Ak);(simp(disch:=try exact dA) only[Bh,Hg,hG.one,Am hG.p,D0,Option.map_none,Option.map_some,Ab,irN,nrA,nrM,nrE,reduceIte,reduceCtorEq,nrL];with_reducible exact rfl))|(with_reducible first|refine Ai Vo fun K hK=>?_));try simp only[↓pb,↓pd,Bp,Hg,hG.one,Am hG.p,D0,Option.map_none,Option.map_some,Ab,irN,nrA,nrM,nrE,reduceIte,reduceCtorEq,nrL])|((with_reducible apply Au);(simp only[↓pb,An,Hg,hG.one,Am hG.p,D0,Option.map_none,Option.map_some,Ab,irN,nrA,nrM,nrE,reduceIte,reduceCtorEq,nrL];with_reducible exact rfl);all_goals(intro hc;(first|exact C8 hc|try simp only[C0]at hc)))|(with_reducible first|refine Az ?_|refine Ap ?_|refine At ?_|refine Ay ?_|refine Ax ?_|apply Ad)|((with_reducible apply Ae);(focus decide))|fail)
   refine⟨by omega,by simp only[↓pb,An,Hg,hG.one,Am hG.p,D0,Option.map_none,Option.map_some,Ab,irN,nrA,nrM,nrE,reduceIte,reduceCtorEq,nrL];exact congrArg _ (Di (by omega)),by focus exact Bm, ?_⟩
   exact Ov
 ·have e1n:i1=g.Spots.length:=by omega
  repeat'(first|((with_reducible refine hK _ _ fun e2 Aj=>?_);clear hK K;simp only[Vo,Ag,Af,and_true,↓pb,An,Hg,hG.one,Am hG.p,D0,Option.map_none,Option.map_some,Ab,irN,nrA,nrM,nrE,reduceIte,reduceCtorEq,nrL]at Aj;clear Ab;(try clear eg);have Ab:=Aj;clear Aj;rename Bi=>eg)|((first|((with_reducible first|apply Ac|apply Al|apply Ak);(simp(disch:=try exact dA) only[Bh,Hg,hG.one,Am hG.p,D0,Option.map_none,Option.map_some,Ab,irN,nrA,nrM,nrE,reduceIte,reduceCtorEq,nrL];with_reducible exact rfl))|(with_reducible first|refine Ai Vo fun K hK=>?_));try simp only[↓pb,↓pd,Bp,Hg,hG.one,Am hG.p,D0,Option.map_none,Option.map_some,Ab,irN,nrA,nrM,nrE,reduceIte,reduceCtorEq,nrL])|((with_reducible apply Au);(simp only[↓pb,An,Hg,hG.one,Am hG.p,D0,Option.map_none,Option.map_some,Ab,irN,nrA,nrM,nrE,reduceIte,reduceCtorEq,nrL];with_reducible exact rfl);all_goals(intro hc;(first|exact C8 hc|try simp only[C0]at hc)))|(with_reducible first|refine Az ?_|refine Ap ?_|refine At ?_|refine Ay ?_|refine Ax ?_|apply Ad)|((with_reducible apply Ae);(focus decide))|fail)
  refine⟨by first|exact .inl rfl|exact .inr rfl, ?_⟩
  rw[Ec Try.results77]
  simp only[↓pb,An,Hg,hG.one,Am hG.p,D0,Option.map_none,Option.map_some,Bo,Bg,Ab,irN,nrA,nrM,nrE,reduceIte,reduceCtorEq,nrL]
  repeat ((with_reducible apply Ac);(simp(disch:=try exact dA) only[Bh,Hg,hG.one,Am hG.p,D0,Option.map_none,Option.map_some,Ab,irN,nrA,nrM,nrE,reduceIte,reduceCtorEq,nrL];exact rfl))
  refine⟨⟨H.n+1,by first|rfl|simp[*],by rw[← e1n];exact Hh,by omega,by omega⟩,(by exact Bm)⟩
theorem f44 (a b:Int)(H:Aa)(hT:C1 H):∃ v H',C5 (.fn 44) #[iv a,iv b] H v H'∧v=.agg ⟨[iv a,iv b]⟩∧Fr H.n [] H H':=by
 refine Cl.ofW Try.func44 rfl (by kernel_rfl) (by rw[Try.ntmps44];exact Nat.le_of_ble_eq_true rfl) (by kernel_rfl) ?_
 have Ab:True:=trivial
 refine Jx [0,1] ?_
 intro eg Aj
 simp only[Ag,Af,and_true]at Aj
 try simp only[↓pb,An,A70,Ab,irN,nrA,nrM,nrE,reduceIte,reduceCtorEq,nrL]at Aj
 replace Ab:=Aj;clear Aj
 repeat'(first|((with_reducible refine hK _ _ fun e2 Aj=>?_);clear hK K;simp only[B5e,Ag,Af,and_true,↓pb,An,A70,Ab,irN,nrA,nrM,nrE,reduceIte,reduceCtorEq,nrL]at Aj;clear Ab;(try clear eg);have Ab:=Aj;clear Aj;rename Bi=>eg)|((first|((with_reducible first|apply Ac|apply Al|apply Ak);(simp(disch:=try exact dA) only[Bh,A70,Ab,irN,nrA,nrM,nrE,reduceIte,reduceCtorEq,nrL];with_reducible exact rfl))|(with_reducible first|refine Ai B5e fun K hK=>?_));try simp only[↓pb,↓pd,Bp,A70,Ab,irN,nrA,nrM,nrE,reduceIte,reduceCtorEq,nrL])|(with_reducible first|refine Az ?_|refine Ay ?_)|fail)
 refine⟨by first|exact .inl rfl|exact .inr rfl, ?_⟩
 rw[Ec Try.results44]
 simp only[↓pb,An,A70,Bo,Bg,Ab,irN,nrA,nrM,nrE,reduceIte,reduceCtorEq,nrL]
 repeat ((with_reducible apply Ac);(simp(disch:=try exact dA) only[Bh,A70,Ab,irN,nrA,nrM,nrE,reduceIte,reduceCtorEq,nrL];exact rfl))
 refine⟨by first|rfl|(simp[*];done), ?_⟩
 try exact Bm
theorem f48 (va vb vc:Value)(g:Cv)(a b:Nat)(s t:Int)(H:Aa)(hT:C1 H)(hG:RG H va vb vc g)(ha:a<g.Spots.length)(hb:b<g.Spots.length)(hs:0≤s∧s<g.Sorts.length)(ht:0≤t∧t<g.Sorts.length) :
  ∃ v H',C5 (.fn 48) #[.agg ⟨[va,vb,vc]⟩,iv a,iv b,iv s,iv t] H v H'∧v=.bool (U3 g a b s t)∧Fr H.n [] H H':=by
 have l1:=hG.p.lt;have l2:=hG.q.lt
 refine Cl.ofW Try.func48 rfl (by kernel_rfl) (by rw[Try.ntmps48];exact Nat.le_of_ble_eq_true rfl) (by kernel_rfl) ?_
 have Ab:True:=trivial
 refine Jx [0,1,2,3,4] ?_
 intro eg Aj
 simp only[Ag,Af,and_true]at Aj
 try simp only[↓pb,An,A71,hG.one,Am hG.p,Bj hG.q,Hw hG.p,Fo hG.q,(hG.p.el Dc rfl),(hG.q.el Cz rfl),G7,Fs,hG.p.rd,hG.q.rd,Ab,irN,nrA,nrM,nrE,reduceIte,reduceCtorEq,nrL]at Aj
 replace Ab:=Aj;clear Aj
 repeat'(first|((with_reducible refine hK _ _ fun e2 Aj=>?_);clear hK K;simp only[B3L,Ag,Af,and_true,↓pb,An,A71,hG.one,Am hG.p,Bj hG.q,Hw hG.p,Fo hG.q,(hG.p.el Dc rfl),(hG.q.el Cz rfl),G7,Fs,hG.p.rd,hG.q.rd,Ab,irN,nrA,nrM,nrE,reduceIte,reduceCtorEq,nrL]at Aj;clear Ab;(try clear eg);have Ab:=Aj;clear Aj;rename Bi=>eg)|((first|((with_reducible first|apply Ac|apply Al|apply Ak);(simp(disch:=try exact dA) only[Bh,A71,hG.one,Am hG.p,Bj hG.q,Hw hG.p,Fo hG.q,(hG.p.el Dc rfl),(hG.q.el Cz rfl),G7,Fs,hG.p.rd,hG.q.rd,Ab,irN,nrA,nrM,nrE,reduceIte,reduceCtorEq,nrL];with_reducible exact rfl))|((with_reducible first|apply Ar|apply As|apply Aq);(focus exact Ee))|(with_reducible first|refine Ai B3L fun K hK=>?_|refine Aw B3L fun K hK=>?_));try simp only[↓pb,↓pd,Bp,A71,hG.one,Am hG.p,Bj hG.q,Hw hG.p,Fo hG.q,(hG.p.el Dc rfl),(hG.q.el Cz rfl),G7,Fs,hG.p.rd,hG.q.rd,Ab,irN,nrA,nrM,nrE,reduceIte,reduceCtorEq,nrL])|(with_reducible first|refine Az ?_|refine Ay ?_)|fail)
 refine⟨by first|exact .inl rfl|exact .inr rfl, ?_⟩
 rw[Ec Try.results48]
 simp only[↓pb,An,A71,hG.one,Am hG.p,Bj hG.q,Hw hG.p,Fo hG.q,(hG.p.el Dc rfl),(hG.q.el Cz rfl),G7,Fs,hG.p.rd,hG.q.rd,Bo,Bg,Ab,irN,nrA,nrM,nrE,reduceIte,reduceCtorEq,nrL]
 repeat ((with_reducible apply Ac);(simp(disch:=try exact dA) only[Bh,A71,hG.one,Am hG.p,Bj hG.q,Hw hG.p,Fo hG.q,(hG.p.el Dc rfl),(hG.q.el Cz rfl),G7,Fs,hG.p.rd,hG.q.rd,Ab,irN,nrA,nrM,nrE,reduceIte,reduceCtorEq,nrL];exact rfl))
 refine⟨by first|rfl|(simp[*];done), ?_⟩
 try exact Bm
theorem f37 (va vb vc vl vt:Value)(g:Cv)(left:List Int)(spot:Int)(H:Aa)(hT:C1 H)(hG:RG H va vb vc g)(S:SR H 1 left.length vl (Ck left))(ho:one vt)(hl:left.length≤g.Acts.length)(hm:left.length<1099511627776) :
  ∃ v H',C5 (.fn 37) #[.agg ⟨[vl,vt]⟩,.agg ⟨[va,vb,vc]⟩,iv spot] H v H'∧v=iv (Lf g.Acts left spot left.length)∧Fr H.n [] H H':=by
 have l2:=hG.r.lt
 have l1:=S.lt
 refine Cl.ofW Try.func37 rfl (by kernel_rfl) (by rw[Try.ntmps37];exact Nat.le_of_ble_eq_true rfl) (by kernel_rfl) ?_
 have Ab:True:=trivial
 refine Jx [0,1,2] ?_
 intro eg Aj
 simp only[Ag,Af,and_true]at Aj
 try simp only[↓pb,An,K5,hG.one,S.one,ho,Bd S,Ab,irN,nrA,nrM,nrE,reduceIte,reduceCtorEq,nrL]at Aj
 replace Ab:=Aj;clear Aj
 repeat'(first|((with_reducible refine hK _ _ fun e2 Aj=>?_);clear hK K;simp only[A7f,Ag,Af,and_true,↓pb,An,K5,hG.one,S.one,ho,Bd S,Ab,irN,nrA,nrM,nrE,reduceIte,reduceCtorEq,nrL]at Aj;clear Ab;(try clear eg);have Ab:=Aj;clear Aj;rename Bi=>eg)|((first|((with_reducible first|apply Ac|apply Al|apply Ak);(simp(disch:=try exact dA) only[Bh,K5,hG.one,S.one,ho,Bd S,Ab,irN,nrA,nrM,nrE,reduceIte,reduceCtorEq,nrL];with_reducible exact rfl))|(with_reducible first|refine Ai A7f fun K hK=>?_));try simp only[↓pb,↓pd,Bp,K5,hG.one,S.one,ho,Bd S,Ab,irN,nrA,nrM,nrE,reduceIte,reduceCtorEq,nrL])|((with_reducible apply Au);(simp only[↓pb,An,K5,hG.one,S.one,ho,Bd S,Ab,irN,nrA,nrM,nrE,reduceIte,reduceCtorEq,nrL];with_reducible exact rfl);all_goals(intro hc;(first|exact C8 hc|try simp only[C0]at hc)))|(with_reducible first|refine Az ?_|refine Ap ?_|refine At ?_|refine Ay ?_|refine Ax ?_|apply Ad)|((with_reducible apply Ae);(focus decide))|fail)
 refine Db [2,3,4] (by kernel_rfl) 8 (left.length) (H.n) [] [] (fun i e h=>e 7=iv (Lf g.Acts left spot i)) (by simp only[↓pb,An,K5,hG.one,S.one,ho,Bd S,Ab,irN,nrA,nrM,nrE,reduceIte,reduceCtorEq,nrL]) (by focus exact Bb) (H0:=H) (by focus exact Bm) (by intro b hb hlt;simp at hb ⊢;try omega) ?_ ?_
 rotate_left
 intro i1 e1 h1 hi1 D3 ei1 Ep D9 Mf Hh
 simp only[Ag,Af,and_true]at D3
 try simp only[↓pb,An,K5,hG.one,S.one,ho,Bd S,Ab,irN,nrA,nrM,nrE,reduceIte,reduceCtorEq,nrL]at D3
 have hn11:=Ep.n;have hn01:=D9.n;try simp only[Ao,A3]at hn11
 replace Ab:=B9p ei1 D3
 rotate_left
 ·simp only[↓pb,An,K5,hG.one,S.one,ho,Bd S,Ab,irN,nrA,nrM,nrE,reduceIte,reduceCtorEq,nrL]
  rfl
 have S2:SR h1 1 left.length vl (left.map iv):=S.fr0 D9
 have G1:=hG.fr D9
 have l3:=S2.lt;have l4:=G1.r.lt
 have ra:h1.rd H.n=some [vl,vt]:=by
  rw[Ep.rd (b:=H.n) (by simp only[↓pb,An,K5,hG.one,S.one,ho,Bd S,Ab,irN,nrA,nrM,nrE,reduceIte,reduceCtorEq,nrL];omega) (by simp)]
  simp(disch:=try exact dA) only[Bh,K5,hG.one,S.one,ho,Bd S,Ab,irN,nrA,nrM,nrE,reduceIte,reduceCtorEq,nrL]
 have rb:h1.rd (H.n+1)=some [va,vb,vc]:=by
  rw[Ep.rd (b:=H.n+1) (by simp only[↓pb,An,K5,hG.one,S.one,ho,Bd S,Ab,irN,nrA,nrM,nrE,reduceIte,reduceCtorEq,nrL];omega) (by simp)]
  simp(disch:=try exact dA) only[Bh,K5,hG.one,S.one,ho,Bd S,Ab,irN,nrA,nrM,nrE,reduceIte,reduceCtorEq,nrL]
 by_cases hi2:i1<left.length
 ·repeat'(first|((with_reducible refine hK _ _ fun e2 Aj=>?_);clear hK K;simp only[A7f,Ag,Af,and_true,↓pb,An,K5,hG.one,S.one,ho,Bd S,Hh,ra,rb,Bd S2,Eb S2,S2.rd,S2.el1 rfl,Ce G1.r,G1.r.rd,(G1.r.el Ba rfl),Bn,Ab,irN,nrA,nrM,nrE,reduceIte,reduceCtorEq,nrL]at Aj;clear Ab;(try clear eg);have Ab:=Aj;clear Aj;rename Bi=>eg)|((first|((with_reducible first|apply Ac|apply Al|apply Ak);(simp(disch:=try exact dA) only[Bh,K5,hG.one,S.one,ho,Bd S,Hh,ra,rb,Bd S2,Eb S2,S2.rd,S2.el1 rfl,Ce G1.r,G1.r.rd,(G1.r.el Ba rfl),Bn,Ab,irN,nrA,nrM,nrE,reduceIte,reduceCtorEq,nrL];with_reducible exact rfl))|(with_reducible first|refine Ai A7f fun K hK=>?_));try simp only[↓pb,↓pd,Bp,K5,hG.one,S.one,ho,Bd S,Hh,ra,rb,Bd S2,Eb S2,S2.rd,S2.el1 rfl,Ce G1.r,G1.r.rd,(G1.r.el Ba rfl),Bn,Ab,irN,nrA,nrM,nrE,reduceIte,reduceCtorEq,nrL])|((with_reducible apply Au);(simp only[↓pb,An,K5,hG.one,S.one,ho,Bd S,Hh,ra,rb,Bd S2,Eb S2,S2.rd,S2.el1 rfl,Ce G1.r,G1.r.rd,(G1.r.el Ba rfl),Bn,Ab,irN,nrA,nrM,nrE,reduceIte,reduceCtorEq,nrL];with_reducible exact rfl);all_goals(intro hc;(first|exact C8 hc|try simp only[C0]at hc)))|(with_reducible first|refine Az ?_|refine Ap ?_|refine At ?_|refine Ay ?_|refine Ax ?_|apply Ad)|((with_reducible apply Ae);(focus decide))|fail)
  ·refine⟨by omega,by simp only[↓pb,An,K5,hG.one,S.one,ho,Bd S,Hh,Ab,irN,nrA,nrM,nrE,reduceIte,reduceCtorEq,nrL];exact congrArg _ (Di (by omega)),by focus exact Bm, ?_⟩
   simp only[↓pb,An,K5,hG.one,S.one,ho,Bd S,Ab,irN,nrA,nrM,nrE,reduceIte,reduceCtorEq,nrL]
   rw[Pi,if_pos hc]
   rfl
  ·refine⟨by omega,by simp only[↓pb,An,K5,hG.one,S.one,ho,Bd S,Hh,Ab,irN,nrA,nrM,nrE,reduceIte,reduceCtorEq,nrL];exact congrArg _ (Di (by omega)),by focus exact Bm, ?_⟩
   simp only[↓pb,An,K5,hG.one,S.one,ho,Bd S,Ab,irN,nrA,nrM,nrE,reduceIte,reduceCtorEq,nrL]
   rw[Pi,if_neg hc]
 ·have e1n:i1=left.length:=by omega
  subst e1n
  repeat'(first|((with_reducible refine hK _ _ fun e2 Aj=>?_);clear hK K;simp only[A7f,Ag,Af,and_true,↓pb,An,K5,hG.one,S.one,ho,Bd S,Hh,ra,rb,Bd S2,Ab,irN,nrA,nrM,nrE,reduceIte,reduceCtorEq,nrL]at Aj;clear Ab;(try clear eg);have Ab:=Aj;clear Aj;rename Bi=>eg)|((first|((with_reducible first|apply Ac|apply Al|apply Ak);(simp(disch:=try exact dA) only[Bh,K5,hG.one,S.one,ho,Bd S,Hh,ra,rb,Bd S2,Ab,irN,nrA,nrM,nrE,reduceIte,reduceCtorEq,nrL];with_reducible exact rfl))|(with_reducible first|refine Ai A7f fun K hK=>?_));try simp only[↓pb,↓pd,Bp,K5,hG.one,S.one,ho,Bd S,Hh,ra,rb,Bd S2,Ab,irN,nrA,nrM,nrE,reduceIte,reduceCtorEq,nrL])|((with_reducible apply Au);(simp only[↓pb,An,K5,hG.one,S.one,ho,Bd S,Hh,ra,rb,Bd S2,Ab,irN,nrA,nrM,nrE,reduceIte,reduceCtorEq,nrL];with_reducible exact rfl);all_goals(intro hc;(first|exact C8 hc|try simp only[C0]at hc)))|(with_reducible first|refine Az ?_|refine Ap ?_|refine At ?_|refine Ay ?_|refine Ax ?_|apply Ad)|((with_reducible apply Ae);(focus decide))|fail)
  refine⟨by first|exact .inl rfl|exact .inr rfl, ?_⟩
  rw[Ec Try.results37]
  simp only[↓pb,An,K5,hG.one,S.one,ho,Bd S,Bo,Bg,Ab,irN,nrA,nrM,nrE,reduceIte,reduceCtorEq,nrL]
  repeat ((with_reducible apply Ac);(simp(disch:=try exact dA) only[Bh,K5,hG.one,S.one,ho,Bd S,Ab,irN,nrA,nrM,nrE,reduceIte,reduceCtorEq,nrL];exact rfl))
  exact Bm
end Go.Proofs.Swa
