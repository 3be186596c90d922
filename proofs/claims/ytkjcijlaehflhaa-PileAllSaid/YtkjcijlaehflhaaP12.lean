/- Part 12. -/
import Derived.Test.YtkjcijlaehflhaaP11
set_option maxRecDepth 20000
set_option linter.unusedVariables false
set_option linter.unusedSimpArgs false
namespace Go.Proofs.Swa
open Go
open Nat renaming reduceAdd → nrA, reduceMul → nrM, reduceEqDiff → nrE, reduceLT → nrL
open Int renaming reduceToNat → irN
attribute [local congr] Ja Gm I8 I9 Jb Hl Hm Hn
theorem A4 {H:Aa}{b k:Nat}{l:List Int}{y:Int}(h:k<l.length):Mg H b k 1 (iv y) (.cells (Ck l) 3 .ex)=some (H.upd H.n b (.cells (Ck (l.set k y)) 3 .ex)):=by
 rw[← R3]
 exact A1h (by rw[C3];exact h)
theorem A6 (n:Nat):List.replicate n (Value.int .i64 0)=Ck (List.replicate n 0):=by simp[Ck]
def Mz (n i:Nat):List Int:=(List.range n).map fun k=>if k<i then -1 else 0
theorem A75 (n i:Nat):(Mz n i).length=n:=by simp[Mz]
theorem A5p (n:Nat):Mz n 0=List.replicate n 0:=by
 refine List.ext_getElem (by simp[Mz]) fun i h1 h2=>?_
 simp[Mz]
theorem A5q (n:Nat):Mz n n=List.replicate n (-1):=by
 refine List.ext_getElem (by simp[Mz]) fun i h1 h2=>?_
 simp[Mz]at h1 ⊢
 omega
theorem A5r {n i:Nat}(h:i<n):(Mz n i).set i (-1)=Mz n (i+1):=by
 refine List.ext_getElem (by simp[Mz]) fun k h1 h2=>?_
 simp only[Mz,List.length_set,List.length_map,List.length_range]at h1
 simp only[Mz,List.getElem_set,List.getElem_map,List.getElem_range]
 by_cases e:i=k
 ·subst e;simp
 ·rw[if_neg e]
  by_cases c:k<i
  ·rw[if_pos c,if_pos (by omega)]
  ·rw[if_neg c,if_neg (by omega)]
theorem A5s (A:List E8)(spot:Int)(s:Int×List Int)(k:Nat):(Ph A spot s k).2.length=s.2.length:=by
 unfold Ph
 split <;> simp
theorem Ui (A:List E8)(spot:Int)(s:Int×List Int):∀ i,(Se A spot i s).2.length=s.2.length
 | 0=>rfl
 | i+1=>by rw[Q9,A5s,Ui A spot s i]
theorem Od (g:Cv)(truth:List Int):∀ n,(Cf g truth n).left.length=g.Acts.length∧(Cf g truth n).last.length=g.Spots.length
 | 0=>by simp[Cf]
 | n+1=>by
  obtain⟨h1,h2⟩:=Od g truth n
  rw[Mw]
  unfold Mv
  split
  ·exact⟨by rw[Ui];exact h1,h2⟩
  ·simp[h1,h2]
set_option maxHeartbeats 4000000 in
theorem f35 (va vb vc vt:Value)(g:Cv)(truth:List Int)(acts:Nat)(hour:Int)(H:Aa)(hT:C1 H)(hG:RG H va vb vc g)(S:SR H 1 truth.length vt (Ck truth))(hl:acts≤truth.length)(ha:acts≤g.Acts.length)(hm:g.Acts.length≤1000)(hn:g.Spots.length≤1000)
  (hsp:∀ u,u<g.Acts.length→0≤(g.Acts.getD u default).Spot∧(g.Acts.getD u default).Spot<g.Spots.length) :
  ∃ v H',C5 (.fn 35) #[.agg ⟨[va,vb,vc]⟩,vt,iv acts,iv hour] H v H'∧(∃ vl vs,v=.agg ⟨[vl,vs]⟩∧SR H' 1 g.Acts.length vl (Ck (Ct g truth acts hour).left)∧SR H' 1 g.Spots.length vs (Ck (Ct g truth acts hour).last))∧Fr H.n [] H H':=by
 have S0:SR H 1 truth.length vt (truth.map iv):=S
 refine Cl.ofW Try.func35 rfl (by kernel_rfl) (by rw[Try.ntmps35];exact Nat.le_of_ble_eq_true rfl) (by kernel_rfl) ?_
 have Ab:True:=trivial
 refine Jx [0,1,2,3] ?_
 intro eg Aj
 simp only[Ag,Af,and_true]at Aj
 try simp only[↓pb,An,C6,hG.one,Am hG.p,Ah hG.r,S.one,A6,Nat.mul_one,Av,A4,S.mapB,hG.r.mapB,hG.p.mapB,Ab,irN,nrA,nrM,nrE,reduceIte,reduceCtorEq,nrL]at Aj
 replace Ab:=Aj;clear Aj
 repeat'(first|((with_reducible refine hK _ _ fun e2 Aj=>?_);clear hK K;simp only[I2,Ag,Af,and_true,↓pb,An,C6,hG.one,Am hG.p,Ah hG.r,S.one,A6,Nat.mul_one,Av,A4,S.mapB,hG.r.mapB,hG.p.mapB,Ab,irN,nrA,nrM,nrE,reduceIte,reduceCtorEq,nrL]at Aj;clear Ab;(try clear eg);have Ab:=Aj;clear Aj;rename Bi=>eg)|((first|((with_reducible first|apply Ac|apply Al|apply Ak);(simp(disch:=try exact dA) only[Bh,C6,hG.one,Am hG.p,Ah hG.r,S.one,A6,Nat.mul_one,Av,A4,S.mapB,hG.r.mapB,hG.p.mapB,Ab,irN,nrA,nrM,nrE,reduceIte,reduceCtorEq,nrL];with_reducible exact rfl))|((with_reducible first|apply Ar|apply As|apply Aq);(focus exact Ee))|(with_reducible first|refine Ai I2 fun K hK=>?_|refine Aw I2 fun K hK=>?_));try simp only[↓pb,↓pd,Bp,C6,hG.one,Am hG.p,Ah hG.r,S.one,A6,Nat.mul_one,Av,A4,S.mapB,hG.r.mapB,hG.p.mapB,Ab,irN,nrA,nrM,nrE,reduceIte,reduceCtorEq,nrL])|((first|((with_reducible first|apply Br|apply Bt|apply Cc|apply Cd);exact rfl)|(with_reducible apply Au));(simp only[↓pb,An,C6,hG.one,Am hG.p,Ah hG.r,S.one,A6,Nat.mul_one,Av,A4,S.mapB,hG.r.mapB,hG.p.mapB,Ab,irN,nrA,nrM,nrE,reduceIte,reduceCtorEq,nrL];with_reducible exact rfl);all_goals(intro hc;(first|exact C8 hc|try simp only[C0]at hc);try((with_reducible first|apply E3|apply Ge);simp only[↓pb,↓pd,Bp,C6,hG.one,Am hG.p,Ah hG.r,S.one,A6,Nat.mul_one,Av,A4,S.mapB,hG.r.mapB,hG.p.mapB,hc,Ab,irN,nrA,nrM,nrE,reduceIte,reduceCtorEq,nrL])))|(with_reducible first|refine Az ?_|refine Ap ?_|refine At ?_|refine Ay ?_|refine Ax ?_|apply Ad)|((with_reducible apply Ae);(focus decide))|fail)
 let LT:Value:=.slice (some ⟨H.n+2,0,none⟩) g.Acts.length g.Acts.length
 let LS:Value:=.slice (some ⟨H.n+3,0,none⟩) g.Spots.length g.Spots.length
 refine Db [1,2,3,4,8,9] (by kernel_rfl) 10 (g.Spots.length) (H.n) [H.n+3] [] (fun i e h=>h.get (H.n+3)=.cells (Ck (Mz g.Spots.length i)) 3 .ex) (by simp only[↓pb,An,C6,hG.one,Am hG.p,Ah hG.r,S.one,A6,Nat.mul_one,Av,A4,S.mapB,hG.r.mapB,hG.p.mapB,Ab,irN,nrA,nrM,nrE,reduceIte,reduceCtorEq,nrL]) (by focus exact Bb) (H0:=H) (by focus exact Bm) (by intro b hb hlt;simp at hb ⊢;try omega) ?_ ?_
 rotate_left
 intro i1 e1 h1 hi1 D3 ei1 Ep D9 Mf Hh
 simp only[Ag,Af,and_true]at D3
 try simp only[↓pb,An,C6,hG.one,Am hG.p,Ah hG.r,S.one,A6,Nat.mul_one,Av,A4,S.mapB,hG.r.mapB,hG.p.mapB,Ab,irN,nrA,nrM,nrE,reduceIte,reduceCtorEq,nrL]at D3
 have hn11:=Ep.n;have hn01:=D9.n;try simp only[Ao,A3]at hn11
 replace Ab:=B9p ei1 D3
 rotate_left
 ·simp(disch:=try exact dA) only[Bh,C6,hG.one,Am hG.p,Ah hG.r,S.one,A6,Nat.mul_one,Av,A4,S.mapB,hG.r.mapB,hG.p.mapB,Ab,irN,nrA,nrM,nrE,reduceIte,reduceCtorEq,nrL]
  rw[A5p]
 have hfl:=A75 g.Spots.length i1
 have r4:h1.rd (H.n+4)=some [LT,LS]:=by
  rw[Ep.rd (b:=H.n+4) (by simp only[↓pb,An,C6,hG.one,Am hG.p,Ah hG.r,S.one,A6,Nat.mul_one,Av,A4,S.mapB,hG.r.mapB,hG.p.mapB,Ab,irN,nrA,nrM,nrE,reduceIte,reduceCtorEq,nrL];omega) Lw]
  simp(disch:=try exact dA) only[Bh,C6,hG.one,Am hG.p,Ah hG.r,S.one,A6,Nat.mul_one,Av,A4,S.mapB,hG.r.mapB,hG.p.mapB,Ab,irN,nrA,nrM,nrE,reduceIte,reduceCtorEq,nrL]
  rfl
 by_cases hi2:i1<g.Spots.length
 ·repeat'(first|((with_reducible refine hK _ _ fun e2 Aj=>?_);clear hK K;simp only[I2,Ag,Af,and_true,↓pb,An,C6,hG.one,Am hG.p,Ah hG.r,S.one,A6,Nat.mul_one,Av,A4,S.mapB,hG.r.mapB,hG.p.mapB,Ab,irN,nrA,nrM,nrE,reduceIte,reduceCtorEq,nrL]at Aj;clear Ab;(try clear eg);have Ab:=Aj;clear Aj;rename Bi=>eg)|((first|((with_reducible first|apply Ac|apply Al|apply Ak);(simp(disch:=try exact dA) only[Bh,C6,hG.one,Am hG.p,Ah hG.r,S.one,A6,Nat.mul_one,Av,A4,S.mapB,hG.r.mapB,hG.p.mapB,r4,LT,LS,Hh,Ab,irN,nrA,nrM,nrE,reduceIte,reduceCtorEq,nrL];with_reducible exact rfl))|((with_reducible first|apply Ar|apply As|apply Aq);(focus exact Ee))|(with_reducible first|refine Ai I2 fun K hK=>?_|refine Aw I2 fun K hK=>?_));try simp only[↓pb,↓pd,Bp,C6,hG.one,Am hG.p,Ah hG.r,S.one,A6,Nat.mul_one,Av,A4,S.mapB,hG.r.mapB,hG.p.mapB,r4,LT,LS,Hh,Ab,irN,nrA,nrM,nrE,reduceIte,reduceCtorEq,nrL])|((first|((with_reducible first|apply Br|apply Bt|apply Cc|apply Cd);exact rfl)|(with_reducible apply Au));(simp only[↓pb,An,C6,hG.one,Am hG.p,Ah hG.r,S.one,A6,Nat.mul_one,Av,A4,S.mapB,hG.r.mapB,hG.p.mapB,r4,LT,LS,Hh,Ab,irN,nrA,nrM,nrE,reduceIte,reduceCtorEq,nrL];with_reducible exact rfl);all_goals(intro hc;(first|exact C8 hc|try simp only[C0]at hc);try((with_reducible first|apply E3|apply Ge);simp only[↓pb,↓pd,Bp,C6,hG.one,Am hG.p,Ah hG.r,S.one,A6,Nat.mul_one,Av,A4,S.mapB,hG.r.mapB,hG.p.mapB,r4,LT,LS,Hh,hc,Ab,irN,nrA,nrM,nrE,reduceIte,reduceCtorEq,nrL])))|(with_reducible first|refine Az ?_|refine Ap ?_|refine At ?_|refine Ay ?_|refine Ax ?_|apply Ad)|((with_reducible apply Ae);(focus decide))|fail)
  refine⟨by omega,by simp only[↓pb,An,C6,hG.one,Am hG.p,Ah hG.r,S.one,A6,Nat.mul_one,Av,A4,S.mapB,hG.r.mapB,hG.p.mapB,Ab,irN,nrA,nrM,nrE,reduceIte,reduceCtorEq,nrL];exact congrArg _ (Di (by omega)),by focus exact Bm, ?_⟩
  simp only[↓pb,An,C6,hG.one,Am hG.p,Ah hG.r,S.one,A6,Nat.mul_one,Av,A4,S.mapB,hG.r.mapB,hG.p.mapB,Ab,irN,nrA,nrM,nrE,reduceIte,reduceCtorEq,nrL]
  rw[A5r hi2]
 have e1n:i1=g.Spots.length:=by omega
 rw[e1n,A5q]at Hh
 have k0:h1.get H.n=.cells [va,vb,vc] 26 .ex:=by
  rw[Ep.old _ (by simp only[↓pb,An,C6,hG.one,Am hG.p,Ah hG.r,S.one,A6,Nat.mul_one,Av,A4,S.mapB,hG.r.mapB,hG.p.mapB,Ab,irN,nrA,nrM,nrE,reduceIte,reduceCtorEq,nrL];omega) Lw]
  simp(disch:=try exact dA) only[Bh,C6,hG.one,Am hG.p,Ah hG.r,S.one,A6,Nat.mul_one,Av,A4,S.mapB,hG.r.mapB,hG.p.mapB,Ab,irN,nrA,nrM,nrE,reduceIte,reduceCtorEq,nrL]
 have k2:h1.get (H.n+2)=.cells (Ck (List.replicate g.Acts.length 0)) 3 .ex:=by
  rw[Ep.old _ (by simp only[↓pb,An,C6,hG.one,Am hG.p,Ah hG.r,S.one,A6,Nat.mul_one,Av,A4,S.mapB,hG.r.mapB,hG.p.mapB,Ab,irN,nrA,nrM,nrE,reduceIte,reduceCtorEq,nrL];omega) Lw]
  simp(disch:=try exact dA) only[Bh,C6,hG.one,Am hG.p,Ah hG.r,S.one,A6,Nat.mul_one,Av,A4,S.mapB,hG.r.mapB,hG.p.mapB,Ab,irN,nrA,nrM,nrE,reduceIte,reduceCtorEq,nrL]
 have k4:h1.get (H.n+4)=.cells [LT,LS] 61 .ex:=by
  rw[Ep.old _ (by simp only[↓pb,An,C6,hG.one,Am hG.p,Ah hG.r,S.one,A6,Nat.mul_one,Av,A4,S.mapB,hG.r.mapB,hG.p.mapB,Ab,irN,nrA,nrM,nrE,reduceIte,reduceCtorEq,nrL];omega) Lw]
  simp(disch:=try exact dA) only[Bh,C6,hG.one,Am hG.p,Ah hG.r,S.one,A6,Nat.mul_one,Av,A4,S.mapB,hG.r.mapB,hG.p.mapB,Ab,irN,nrA,nrM,nrE,reduceIte,reduceCtorEq,nrL]
  rfl
 have k1:h1.get (H.n+1)=.cells [.slice none 0 0,.slice none 0 0] 61 .ex:=by
  rw[Ep.old _ (by simp only[↓pb,An,C6,hG.one,Am hG.p,Ah hG.r,S.one,A6,Nat.mul_one,Av,A4,S.mapB,hG.r.mapB,hG.p.mapB,Ab,irN,nrA,nrM,nrE,reduceIte,reduceCtorEq,nrL];omega) Lw]
  simp(disch:=try exact dA) only[Bh,C6,hG.one,Am hG.p,Ah hG.r,S.one,A6,Nat.mul_one,Av,A4,S.mapB,hG.r.mapB,hG.p.mapB,Ab,irN,nrA,nrM,nrE,reduceIte,reduceCtorEq,nrL]
 have B9a:Fr H.n [] H h1:=D9
 repeat'(first|((with_reducible refine hK _ _ fun e2 Aj=>?_);clear hK K;simp only[I2,Ag,Af,and_true,↓pb,An,C6,hG.one,Am hG.p,Ah hG.r,S.one,A6,Nat.mul_one,Av,A4,S.mapB,hG.r.mapB,hG.p.mapB,Ab,irN,nrA,nrM,nrE,reduceIte,reduceCtorEq,nrL]at Aj;clear Ab;(try clear eg);have Ab:=Aj;clear Aj;rename Bi=>eg)|((first|((with_reducible first|apply Ac|apply Al|apply Ak);(simp(disch:=try exact dA) only[Bh,C6,hG.one,Am hG.p,Ah hG.r,S.one,A6,Nat.mul_one,Av,A4,S.mapB,hG.r.mapB,hG.p.mapB,r4,LT,LS,Ab,irN,nrA,nrM,nrE,reduceIte,reduceCtorEq,nrL];with_reducible exact rfl))|((with_reducible first|apply Ar|apply As|apply Aq);(focus exact Ee))|(with_reducible first|refine Ai I2 fun K hK=>?_|refine Aw I2 fun K hK=>?_));try simp only[↓pb,↓pd,Bp,C6,hG.one,Am hG.p,Ah hG.r,S.one,A6,Nat.mul_one,Av,A4,S.mapB,hG.r.mapB,hG.p.mapB,r4,LT,LS,Ab,irN,nrA,nrM,nrE,reduceIte,reduceCtorEq,nrL])|((first|((with_reducible first|apply Br|apply Bt|apply Cc|apply Cd);exact rfl)|(with_reducible apply Au));(simp only[↓pb,An,C6,hG.one,Am hG.p,Ah hG.r,S.one,A6,Nat.mul_one,Av,A4,S.mapB,hG.r.mapB,hG.p.mapB,r4,LT,LS,Ab,irN,nrA,nrM,nrE,reduceIte,reduceCtorEq,nrL];with_reducible exact rfl);all_goals(intro hc;(first|exact C8 hc|try simp only[C0]at hc);try((with_reducible first|apply E3|apply Ge);simp only[↓pb,↓pd,Bp,C6,hG.one,Am hG.p,Ah hG.r,S.one,A6,Nat.mul_one,Av,A4,S.mapB,hG.r.mapB,hG.p.mapB,r4,LT,LS,hc,Ab,irN,nrA,nrM,nrE,reduceIte,reduceCtorEq,nrL])))|(with_reducible first|refine Az ?_|refine Ap ?_|refine At ?_|refine Ay ?_|refine Ax ?_|apply Ad)|((with_reducible apply Ae);(focus decide))|fail)
 refine Db [1,2,3,4,8,9] (by kernel_rfl) 11 (acts) (H.n) [H.n+2,H.n+3] [] (fun i e h=>h.get (H.n+2)=.cells (Ck (Cf g truth i).left) 3 .ex∧h.get (H.n+3)=.cells (Ck (Cf g truth i).last) 3 .ex∧B5 hour g.Acts=i+B5 hour (g.Acts.drop i)) (by simp only[↓pb,An,C6,hG.one,Am hG.p,Ah hG.r,S.one,A6,Nat.mul_one,Av,A4,S.mapB,hG.r.mapB,hG.p.mapB,Ab,irN,nrA,nrM,nrE,reduceIte,reduceCtorEq,nrL]) (by focus exact Bb) (H0:=H) (by focus exact Bm) (by intro b hb hlt;simp at hb ⊢;try omega) ?_ ?_
 rotate_left
 intro i2 e2 h2 hi2 Lm ei2 Ol Ji A30 Ov
 simp only[Ag,Af,and_true]at Lm
 try simp only[↓pb,An,C6,hG.one,Am hG.p,Ah hG.r,S.one,A6,Nat.mul_one,Av,A4,S.mapB,hG.r.mapB,hG.p.mapB,Ab,irN,nrA,nrM,nrE,reduceIte,reduceCtorEq,nrL]at Lm
 have hn12:=Ol.n;have hn02:=Ji.n;try simp only[Ao,A3]at hn12
 replace Ab:=B9p ei2 Lm
 rotate_left
 ·exact⟨k2,Hh,by simp⟩
 obtain⟨m2,m3,m5⟩:=Ov
 have F2:Fr H.n [] H h2:=Ji
 have dl:=Od g truth i2
 have G2:=hG.fr (N:=H.n) F2
 have S2:SR h2 1 truth.length vt (truth.map iv):=S0.fr0 F2
 have m0:h2.get H.n=.cells [va,vb,vc] 26 .ex:=by rw[Ol.old _ (by omega) Lw];exact k0
 have m4:h2.get (H.n+4)=.cells [LT,LS] 61 .ex:=by rw[Ol.old _ (by omega) Lw];exact k4
 have m1:h2.get (H.n+1)=.cells [.slice none 0 0,.slice none 0 0] 61 .ex:=by rw[Ol.old _ (by omega) Lw];exact k1
 have q0:h2.rd H.n=some [va,vb,vc]:=by rw[Bf,m0];rfl
 have q2:h2.rd (H.n+2)=some (Ck (Cf g truth i2).left):=by rw[Bf,m2];rfl
 have q3:h2.rd (H.n+3)=some (Ck (Cf g truth i2).last):=by rw[Bf,m3];rfl
 have q4:h2.rd (H.n+4)=some [LT,LS]:=by rw[Bf,m4];rfl
 have l1:=S.lt
 have l2:=hG.r.lt
 have l3:=G2.r.lt
 have l4:=S2.lt
 by_cases hi3:i2<acts
 ·have hd:=Ha (l:=g.Acts) (i:=i2) (by omega)
  have spu:=hsp i2 (by omega)
  by_cases hh:(g.Acts.getD i2 default).Hour≤hour
  ·rw[hd,B5,if_pos hh]at m5
   have hstep:=Mw g truth i2
   cases htk:(g.Acts.getD i2 default).Take with
   | false =>
    repeat'(first|((with_reducible refine hK _ _ fun e2 Aj=>?_);clear hK K;simp only[I2,Ag,Af,and_true,↓pb,An,C6,hG.one,Am hG.p,Ah hG.r,S.one,A6,Nat.mul_one,Av,A4,S.mapB,hG.r.mapB,hG.p.mapB,Ab,irN,nrA,nrM,nrE,reduceIte,reduceCtorEq,nrL]at Aj;clear Ab;(try clear eg);have Ab:=Aj;clear Aj;rename Bi=>eg)|((first|((with_reducible first|apply Ac|apply Al|apply Ak);(simp(disch:=try exact dA) only[Bh,C6,hG.one,Am hG.p,Ah hG.r,S.one,A6,Nat.mul_one,Av,A4,S.mapB,hG.r.mapB,hG.p.mapB,q0,q4,LT,LS,Ce G2.r,G2.r.rd,(G2.r.el Ba rfl),Bn,hh,htk,Eb S2,S2.rd,S2.el1 rfl,m2,m3,Ab,irN,nrA,nrM,nrE,reduceIte,reduceCtorEq,nrL];with_reducible exact rfl))|((with_reducible first|apply Ar|apply As|apply Aq);(focus exact Ee))|(with_reducible first|refine Ai I2 fun K hK=>?_|refine Aw I2 fun K hK=>?_));try simp only[↓pb,↓pd,Bp,C6,hG.one,Am hG.p,Ah hG.r,S.one,A6,Nat.mul_one,Av,A4,S.mapB,hG.r.mapB,hG.p.mapB,q0,q4,LT,LS,Ce G2.r,G2.r.rd,(G2.r.el Ba rfl),Bn,hh,htk,Eb S2,S2.rd,S2.el1 rfl,m2,m3,Ab,irN,nrA,nrM,nrE,reduceIte,reduceCtorEq,nrL])|((first|((with_reducible first|apply Br|apply Bt|apply Cc|apply Cd);exact rfl)|(with_reducible apply Au));(simp only[↓pb,An,C6,hG.one,Am hG.p,Ah hG.r,S.one,A6,Nat.mul_one,Av,A4,S.mapB,hG.r.mapB,hG.p.mapB,q0,q4,LT,LS,Ce G2.r,G2.r.rd,(G2.r.el Ba rfl),Bn,hh,htk,Eb S2,S2.rd,S2.el1 rfl,m2,m3,Ab,irN,nrA,nrM,nrE,reduceIte,reduceCtorEq,nrL];with_reducible exact rfl);all_goals(intro hc;(first|exact C8 hc|try simp only[C0]at hc);try((with_reducible first|apply E3|apply Ge);simp only[↓pb,↓pd,Bp,C6,hG.one,Am hG.p,Ah hG.r,S.one,A6,Nat.mul_one,Av,A4,S.mapB,hG.r.mapB,hG.p.mapB,q0,q4,LT,LS,Ce G2.r,G2.r.rd,(G2.r.el Ba rfl),Bn,hh,htk,Eb S2,S2.rd,S2.el1 rfl,m2,m3,hc,Ab,irN,nrA,nrM,nrE,reduceIte,reduceCtorEq,nrL])))|(with_reducible first|refine Az ?_|refine Ap ?_|refine At ?_|refine Ay ?_|refine Ax ?_|apply Ad)|((with_reducible apply Ae);(focus decide))|fail)
    refine⟨by omega,by simp only[↓pb,An,C6,hG.one,Am hG.p,Ah hG.r,S.one,A6,Nat.mul_one,Av,A4,S.mapB,hG.r.mapB,hG.p.mapB,Ab,irN,nrA,nrM,nrE,reduceIte,reduceCtorEq,nrL];exact congrArg _ (Di (by omega)),by focus exact Bm, ?_⟩
    refine⟨?_, ?_,by omega⟩
    ·simp(disch:=try exact dA) only[Bh,C6,hG.one,Am hG.p,Ah hG.r,S.one,A6,Nat.mul_one,Av,A4,S.mapB,hG.r.mapB,hG.p.mapB,Ab,irN,nrA,nrM,nrE,reduceIte,reduceCtorEq,nrL]
     rw[hstep,Mv,if_neg (by rw[htk];simp)]
     rfl
    ·simp(disch:=try exact dA) only[Bh,C6,hG.one,Am hG.p,Ah hG.r,S.one,A6,Nat.mul_one,Av,A4,S.mapB,hG.r.mapB,hG.p.mapB,Ab,irN,nrA,nrM,nrE,reduceIte,reduceCtorEq,nrL]
     rw[hstep,Mv,if_neg (by rw[htk];simp)]
   | true =>
    repeat'(first|((with_reducible refine hK _ _ fun e2 Aj=>?_);clear hK K;simp only[I2,Ag,Af,and_true,↓pb,An,C6,hG.one,Am hG.p,Ah hG.r,S.one,A6,Nat.mul_one,Av,A4,S.mapB,hG.r.mapB,hG.p.mapB,Ab,irN,nrA,nrM,nrE,reduceIte,reduceCtorEq,nrL]at Aj;clear Ab;(try clear eg);have Ab:=Aj;clear Aj;rename Bi=>eg)|((first|((with_reducible first|apply Ac|apply Al|apply Ak);(simp(disch:=try exact dA) only[Bh,C6,hG.one,Am hG.p,Ah hG.r,S.one,A6,Nat.mul_one,Av,A4,S.mapB,hG.r.mapB,hG.p.mapB,q0,q4,LT,LS,Ce G2.r,G2.r.rd,(G2.r.el Ba rfl),Bn,hh,htk,Eb S2,S2.rd,S2.el1 rfl,m2,m3,Ab,irN,nrA,nrM,nrE,reduceIte,reduceCtorEq,nrL];with_reducible exact rfl))|((with_reducible first|apply Ar|apply As|apply Aq);(focus exact Ee))|(with_reducible first|refine Ai I2 fun K hK=>?_|refine Aw I2 fun K hK=>?_));try simp only[↓pb,↓pd,Bp,C6,hG.one,Am hG.p,Ah hG.r,S.one,A6,Nat.mul_one,Av,A4,S.mapB,hG.r.mapB,hG.p.mapB,q0,q4,LT,LS,Ce G2.r,G2.r.rd,(G2.r.el Ba rfl),Bn,hh,htk,Eb S2,S2.rd,S2.el1 rfl,m2,m3,Ab,irN,nrA,nrM,nrE,reduceIte,reduceCtorEq,nrL])|((first|((with_reducible first|apply Br|apply Bt|apply Cc|apply Cd);exact rfl)|(with_reducible apply Au));(simp only[↓pb,An,C6,hG.one,Am hG.p,Ah hG.r,S.one,A6,Nat.mul_one,Av,A4,S.mapB,hG.r.mapB,hG.p.mapB,q0,q4,LT,LS,Ce G2.r,G2.r.rd,(G2.r.el Ba rfl),Bn,hh,htk,Eb S2,S2.rd,S2.el1 rfl,m2,m3,Ab,irN,nrA,nrM,nrE,reduceIte,reduceCtorEq,nrL];with_reducible exact rfl);all_goals(intro hc;(first|exact C8 hc|try simp only[C0]at hc);try((with_reducible first|apply E3|apply Ge);simp only[↓pb,↓pd,Bp,C6,hG.one,Am hG.p,Ah hG.r,S.one,A6,Nat.mul_one,Av,A4,S.mapB,hG.r.mapB,hG.p.mapB,q0,q4,LT,LS,Ce G2.r,G2.r.rd,(G2.r.el Ba rfl),Bn,hh,htk,Eb S2,S2.rd,S2.el1 rfl,m2,m3,hc,Ab,irN,nrA,nrM,nrE,reduceIte,reduceCtorEq,nrL])))|(with_reducible first|refine Az ?_|refine Ap ?_|refine At ?_|refine Ay ?_|refine Ax ?_|apply Ad)|((with_reducible apply Ae);(focus decide))|fail)
    obtain⟨AC,hAC⟩:∃ AC:List Value,AC=[iv (g.Acts.getD i2 default).Hour,iv (g.Acts.getD i2 default).Spot,iv (g.Acts.getD i2 default).Kind,iv (g.Acts.getD i2 default).Min,iv (g.Acts.getD i2 default).Max,.bool true]:=⟨_,rfl⟩
    rw[← hAC]
    obtain⟨spx,hspe⟩:∃ spx,spx=(g.Acts.getD i2 default).Spot:=⟨_,rfl⟩
    obtain⟨tu,htu⟩:∃ tu,tu=truth.getD i2 0:=⟨_,rfl⟩
    obtain⟨lf,hlf⟩:∃ lf,lf=(Cf g truth i2).left:=⟨_,rfl⟩
    refine Db [1,2,3,4,8,9,11,12] (by kernel_rfl) 14 (i2) (H.n) [H.n+2] [] (fun i e h=>∃ s,s=Se g.Acts spx i (tu,lf)∧e 13=iv s.1∧h.get (H.n+2)=.cells (Ck s.2) 3 .ex) (by simp only[↓pb,An,C6,hG.one,Am hG.p,Ah hG.r,S.one,A6,Nat.mul_one,Av,A4,S.mapB,hG.r.mapB,hG.p.mapB,Ab,irN,nrA,nrM,nrE,reduceIte,reduceCtorEq,nrL]) (by focus exact Bb) (H0:=H) (by focus exact Bm) (by intro b hb hlt;simp at hb ⊢;try omega) ?_ ?_
    rotate_left
    intro i3 e3 h3 hi3 hE3 ei3 hF3 Yj B6s hJ3
    simp only[Ag,Af,and_true]at hE3
    try simp only[↓pb,An,C6,hG.one,Am hG.p,Ah hG.r,S.one,A6,Nat.mul_one,Av,A4,S.mapB,hG.r.mapB,hG.p.mapB,Ab,irN,nrA,nrM,nrE,reduceIte,reduceCtorEq,nrL]at hE3
    have hn13:=hF3.n;have hn03:=Yj.n;try simp only[Ao,A3]at hn13
    replace Ab:=B9p ei3 hE3
    rotate_left
    ·refine⟨_,rfl, ?_, ?_⟩
     ·simp only[↓pb,An,C6,hG.one,Am hG.p,Ah hG.r,S.one,A6,Nat.mul_one,Av,A4,S.mapB,hG.r.mapB,hG.p.mapB,Ab,irN,nrA,nrM,nrE,reduceIte,reduceCtorEq,nrL]
      rw[htu]
      rfl
     ·simp(disch:=try exact dA) only[Bh,C6,hG.one,Am hG.p,Ah hG.r,S.one,A6,Nat.mul_one,Av,A4,S.mapB,hG.r.mapB,hG.p.mapB,Ab,irN,nrA,nrM,nrE,reduceIte,reduceCtorEq,nrL]
      rw[m2,hlf]
      rfl
    obtain⟨s,hs,p13,p2⟩:=hJ3
    have ls:s.2.length=g.Acts.length:=by rw[hs,Ui,hlf];exact dl.1
    have F12:Fr H.n [H.n+2,H.n+3] h1 h3:=Fr.trans (B:=h2.upd (h2.n+1) h2.n (.cells AC 30 .ex)) (by exact Bm) (Fr.mono hF3 (Nat.le_refl _) (by intro b hb _;simp at hb ⊢;omega))
    have G3:=G2.fr (N:=H.n) (B:=h2.upd (h2.n+1) h2.n (.cells AC 30 .ex)) (by exact Bm)
    have G4:RG h3 va vb vc g:=hG.fr Yj
    have l5:=G4.r.lt
    have w0:h3.get H.n=.cells [va,vb,vc] 26 .ex:=by
     rw[hF3.old _ (by simp only[↓pb,An,C6,hG.one,Am hG.p,Ah hG.r,S.one,A6,Nat.mul_one,Av,A4,S.mapB,hG.r.mapB,hG.p.mapB,Ab,irN,nrA,nrM,nrE,reduceIte,reduceCtorEq,nrL];omega) Lw]
     simp(disch:=try exact dA) only[Bh,C6,hG.one,Am hG.p,Ah hG.r,S.one,A6,Nat.mul_one,Av,A4,S.mapB,hG.r.mapB,hG.p.mapB,Ab,irN,nrA,nrM,nrE,reduceIte,reduceCtorEq,nrL]
     exact m0
    have w4:h3.get (H.n+4)=.cells [LT,LS] 61 .ex:=by
     rw[hF3.old _ (by simp only[↓pb,An,C6,hG.one,Am hG.p,Ah hG.r,S.one,A6,Nat.mul_one,Av,A4,S.mapB,hG.r.mapB,hG.p.mapB,Ab,irN,nrA,nrM,nrE,reduceIte,reduceCtorEq,nrL];omega) Lw]
     simp(disch:=try exact dA) only[Bh,C6,hG.one,Am hG.p,Ah hG.r,S.one,A6,Nat.mul_one,Av,A4,S.mapB,hG.r.mapB,hG.p.mapB,Ab,irN,nrA,nrM,nrE,reduceIte,reduceCtorEq,nrL]
     exact m4
    have w5:h3.get h2.n=.cells AC 30 .ex:=by
     rw[hF3.old _ (by simp only[↓pb,An,C6,hG.one,Am hG.p,Ah hG.r,S.one,A6,Nat.mul_one,Av,A4,S.mapB,hG.r.mapB,hG.p.mapB,Ab,irN,nrA,nrM,nrE,reduceIte,reduceCtorEq,nrL];omega) Lw]
     simp(disch:=try exact dA) only[Bh,C6,hG.one,Am hG.p,Ah hG.r,S.one,A6,Nat.mul_one,Av,A4,S.mapB,hG.r.mapB,hG.p.mapB,Ab,irN,nrA,nrM,nrE,reduceIte,reduceCtorEq,nrL]
    have v0:h3.rd H.n=some [va,vb,vc]:=by rw[Bf,w0];rfl
    have v4:h3.rd (H.n+4)=some [LT,LS]:=by rw[Bf,w4];rfl
    have v5:h3.rd h2.n=some AC:=by rw[Bf,w5];rfl
    have v2:h3.rd (H.n+2)=some (Ck s.2):=by rw[Bf,p2];rfl
    have hrun:=Q9 g.Acts spx i3 (tu,lf)
    rw[← hs]at hrun
    by_cases hj3:i3<i2
    ·cases hk:(g.Acts.getD i3 default).Take with
     | false =>
      by_cases he:(g.Acts.getD i3 default).Spot=spx
      ·rw[hspe]at he
       repeat'(first|((with_reducible refine hK _ _ fun e2 Aj=>?_);clear hK K;simp only[I2,Ag,Af,and_true,↓pb,An,C6,hG.one,Am hG.p,Ah hG.r,S.one,A6,Nat.mul_one,Av,A4,S.mapB,hG.r.mapB,hG.p.mapB,Ab,irN,nrA,nrM,nrE,reduceIte,reduceCtorEq,nrL]at Aj;clear Ab;(try clear eg);have Ab:=Aj;clear Aj;rename Bi=>eg)|((first|((with_reducible first|apply Ac|apply Al|apply Ak);(simp(disch:=try exact dA) only[Bh,C6,hG.one,Am hG.p,Ah hG.r,S.one,A6,Nat.mul_one,Av,A4,S.mapB,hG.r.mapB,hG.p.mapB,v0,v4,v5,v2,hAC,LT,LS,Ce G4.r,G4.r.rd,(G4.r.el Ba rfl),Bn,hk,p13,p2,he,Ab,irN,nrA,nrM,nrE,reduceIte,reduceCtorEq,nrL];with_reducible exact rfl))|((with_reducible first|apply Ar|apply As|apply Aq);(focus exact Ee))|(with_reducible first|refine Ai I2 fun K hK=>?_|refine Aw I2 fun K hK=>?_));try simp only[↓pb,↓pd,Bp,C6,hG.one,Am hG.p,Ah hG.r,S.one,A6,Nat.mul_one,Av,A4,S.mapB,hG.r.mapB,hG.p.mapB,v0,v4,v5,v2,hAC,LT,LS,Ce G4.r,G4.r.rd,(G4.r.el Ba rfl),Bn,hk,p13,p2,he,Ab,irN,nrA,nrM,nrE,reduceIte,reduceCtorEq,nrL])|((first|((with_reducible first|apply Br|apply Bt|apply Cc|apply Cd);exact rfl)|(with_reducible apply Au));(simp only[↓pb,An,C6,hG.one,Am hG.p,Ah hG.r,S.one,A6,Nat.mul_one,Av,A4,S.mapB,hG.r.mapB,hG.p.mapB,v0,v4,v5,v2,hAC,LT,LS,Ce G4.r,G4.r.rd,(G4.r.el Ba rfl),Bn,hk,p13,p2,he,Ab,irN,nrA,nrM,nrE,reduceIte,reduceCtorEq,nrL];with_reducible exact rfl);all_goals(intro hc;(first|exact C8 hc|try simp only[C0]at hc);try((with_reducible first|apply E3|apply Ge);simp only[↓pb,↓pd,Bp,C6,hG.one,Am hG.p,Ah hG.r,S.one,A6,Nat.mul_one,Av,A4,S.mapB,hG.r.mapB,hG.p.mapB,v0,v4,v5,v2,hAC,LT,LS,Ce G4.r,G4.r.rd,(G4.r.el Ba rfl),Bn,hk,p13,p2,he,hc,Ab,irN,nrA,nrM,nrE,reduceIte,reduceCtorEq,nrL])))|(with_reducible first|refine Az ?_|refine Ap ?_|refine At ?_|refine Ay ?_|refine Ax ?_|apply Ad)|((with_reducible apply Ae);(focus decide))|fail)
       have hst:Ph g.Acts spx s i3=(Dz (s.1-min s.1 (s.2.getD i3 0)),s.2.set i3 (Dz (s.2.getD i3 0-min s.1 (s.2.getD i3 0)))):=if_pos ⟨by rw[hspe];exact he,hk⟩
       refine⟨by omega,by simp only[↓pb,An,C6,hG.one,Am hG.p,Ah hG.r,S.one,A6,Nat.mul_one,Av,A4,S.mapB,hG.r.mapB,hG.p.mapB,Ab,irN,nrA,nrM,nrE,reduceIte,reduceCtorEq,nrL];exact congrArg _ (Di (by omega)),by focus exact Bm, ?_⟩
       refine⟨_,rfl, ?_, ?_⟩
       ·simp only[↓pb,An,C6,hG.one,Am hG.p,Ah hG.r,S.one,A6,Nat.mul_one,Av,A4,S.mapB,hG.r.mapB,hG.p.mapB,Ab,irN,nrA,nrM,nrE,reduceIte,reduceCtorEq,nrL]
        rw[hrun,hst]
        rfl
       ·simp(disch:=try exact dA) only[Bh,C6,hG.one,Am hG.p,Ah hG.r,S.one,A6,Nat.mul_one,Av,A4,S.mapB,hG.r.mapB,hG.p.mapB,Ab,irN,nrA,nrM,nrE,reduceIte,reduceCtorEq,nrL]
        rw[hrun,hst]
        rfl
      ·have hst:Ph g.Acts spx s i3=s:=if_neg fun q=>he q.1
       rw[hspe]at he
       repeat'(first|((with_reducible refine hK _ _ fun e2 Aj=>?_);clear hK K;simp only[I2,Ag,Af,and_true,↓pb,An,C6,hG.one,Am hG.p,Ah hG.r,S.one,A6,Nat.mul_one,Av,A4,S.mapB,hG.r.mapB,hG.p.mapB,Ab,irN,nrA,nrM,nrE,reduceIte,reduceCtorEq,nrL]at Aj;clear Ab;(try clear eg);have Ab:=Aj;clear Aj;rename Bi=>eg)|((first|((with_reducible first|apply Ac|apply Al|apply Ak);(simp(disch:=try exact dA) only[Bh,C6,hG.one,Am hG.p,Ah hG.r,S.one,A6,Nat.mul_one,Av,A4,S.mapB,hG.r.mapB,hG.p.mapB,v0,v4,v5,v2,hAC,LT,LS,Ce G4.r,G4.r.rd,(G4.r.el Ba rfl),Bn,hk,p13,p2,he,Ab,irN,nrA,nrM,nrE,reduceIte,reduceCtorEq,nrL];with_reducible exact rfl))|((with_reducible first|apply Ar|apply As|apply Aq);(focus exact Ee))|(with_reducible first|refine Ai I2 fun K hK=>?_|refine Aw I2 fun K hK=>?_));try simp only[↓pb,↓pd,Bp,C6,hG.one,Am hG.p,Ah hG.r,S.one,A6,Nat.mul_one,Av,A4,S.mapB,hG.r.mapB,hG.p.mapB,v0,v4,v5,v2,hAC,LT,LS,Ce G4.r,G4.r.rd,(G4.r.el Ba rfl),Bn,hk,p13,p2,he,Ab,irN,nrA,nrM,nrE,reduceIte,reduceCtorEq,nrL])|((first|((with_reducible first|apply Br|apply Bt|apply Cc|apply Cd);exact rfl)|(with_reducible apply Au));(simp only[↓pb,An,C6,hG.one,Am hG.p,Ah hG.r,S.one,A6,Nat.mul_one,Av,A4,S.mapB,hG.r.mapB,hG.p.mapB,v0,v4,v5,v2,hAC,LT,LS,Ce G4.r,G4.r.rd,(G4.r.el Ba rfl),Bn,hk,p13,p2,he,Ab,irN,nrA,nrM,nrE,reduceIte,reduceCtorEq,nrL];with_reducible exact rfl);all_goals(intro hc;(first|exact C8 hc|try simp only[C0]at hc);try((with_reducible first|apply E3|apply Ge);simp only[↓pb,↓pd,Bp,C6,hG.one,Am hG.p,Ah hG.r,S.one,A6,Nat.mul_one,Av,A4,S.mapB,hG.r.mapB,hG.p.mapB,v0,v4,v5,v2,hAC,LT,LS,Ce G4.r,G4.r.rd,(G4.r.el Ba rfl),Bn,hk,p13,p2,he,hc,Ab,irN,nrA,nrM,nrE,reduceIte,reduceCtorEq,nrL])))|(with_reducible first|refine Az ?_|refine Ap ?_|refine At ?_|refine Ay ?_|refine Ax ?_|apply Ad)|((with_reducible apply Ae);(focus decide))|fail)
       refine⟨by omega,by simp only[↓pb,An,C6,hG.one,Am hG.p,Ah hG.r,S.one,A6,Nat.mul_one,Av,A4,S.mapB,hG.r.mapB,hG.p.mapB,Ab,irN,nrA,nrM,nrE,reduceIte,reduceCtorEq,nrL];exact congrArg _ (Di (by omega)),by focus exact Bm, ?_⟩
       refine⟨s,by rw[hrun,hst], ?_, ?_⟩
       ·simp only[↓pb,An,C6,hG.one,Am hG.p,Ah hG.r,S.one,A6,Nat.mul_one,Av,A4,S.mapB,hG.r.mapB,hG.p.mapB,p13,Ab,irN,nrA,nrM,nrE,reduceIte,reduceCtorEq,nrL]
       ·exact p2
     | true =>
      have hst:Ph g.Acts spx s i3=s:=if_neg fun q=>by rw[hk]at q;cases q.2
      repeat'(first|((with_reducible refine hK _ _ fun e2 Aj=>?_);clear hK K;simp only[I2,Ag,Af,and_true,↓pb,An,C6,hG.one,Am hG.p,Ah hG.r,S.one,A6,Nat.mul_one,Av,A4,S.mapB,hG.r.mapB,hG.p.mapB,Ab,irN,nrA,nrM,nrE,reduceIte,reduceCtorEq,nrL]at Aj;clear Ab;(try clear eg);have Ab:=Aj;clear Aj;rename Bi=>eg)|((first|((with_reducible first|apply Ac|apply Al|apply Ak);(simp(disch:=try exact dA) only[Bh,C6,hG.one,Am hG.p,Ah hG.r,S.one,A6,Nat.mul_one,Av,A4,S.mapB,hG.r.mapB,hG.p.mapB,v0,v4,v5,v2,hAC,LT,LS,Ce G4.r,G4.r.rd,(G4.r.el Ba rfl),Bn,hk,p13,p2,Ab,irN,nrA,nrM,nrE,reduceIte,reduceCtorEq,nrL];with_reducible exact rfl))|((with_reducible first|apply Ar|apply As|apply Aq);(focus exact Ee))|(with_reducible first|refine Ai I2 fun K hK=>?_|refine Aw I2 fun K hK=>?_));try simp only[↓pb,↓pd,Bp,C6,hG.one,Am hG.p,Ah hG.r,S.one,A6,Nat.mul_one,Av,A4,S.mapB,hG.r.mapB,hG.p.mapB,v0,v4,v5,v2,hAC,LT,LS,Ce G4.r,G4.r.rd,(G4.r.el Ba rfl),Bn,hk,p13,p2,Ab,irN,nrA,nrM,nrE,reduceIte,reduceCtorEq,nrL])|((first|((with_reducible first|apply Br|apply Bt|apply Cc|apply Cd);exact rfl)|(with_reducible apply Au));(simp only[↓pb,An,C6,hG.one,Am hG.p,Ah hG.r,S.one,A6,Nat.mul_one,Av,A4,S.mapB,hG.r.mapB,hG.p.mapB,v0,v4,v5,v2,hAC,LT,LS,Ce G4.r,G4.r.rd,(G4.r.el Ba rfl),Bn,hk,p13,p2,Ab,irN,nrA,nrM,nrE,reduceIte,reduceCtorEq,nrL];with_reducible exact rfl);all_goals(intro hc;(first|exact C8 hc|try simp only[C0]at hc);try((with_reducible first|apply E3|apply Ge);simp only[↓pb,↓pd,Bp,C6,hG.one,Am hG.p,Ah hG.r,S.one,A6,Nat.mul_one,Av,A4,S.mapB,hG.r.mapB,hG.p.mapB,v0,v4,v5,v2,hAC,LT,LS,Ce G4.r,G4.r.rd,(G4.r.el Ba rfl),Bn,hk,p13,p2,hc,Ab,irN,nrA,nrM,nrE,reduceIte,reduceCtorEq,nrL])))|(with_reducible first|refine Az ?_|refine Ap ?_|refine At ?_|refine Ay ?_|refine Ax ?_|apply Ad)|((with_reducible apply Ae);(focus decide))|fail)
      all_goals(
       refine⟨by omega,by simp only[↓pb,An,C6,hG.one,Am hG.p,Ah hG.r,S.one,A6,Nat.mul_one,Av,A4,S.mapB,hG.r.mapB,hG.p.mapB,Ab,irN,nrA,nrM,nrE,reduceIte,reduceCtorEq,nrL];exact congrArg _ (Di (by omega)),by focus exact Bm, ?_⟩)
      all_goals refine⟨s,by rw[hrun,hst], ?_, ?_⟩
      all_goals first|exact p2|(simp only[↓pb,An,C6,hG.one,Am hG.p,Ah hG.r,S.one,A6,Nat.mul_one,Av,A4,S.mapB,hG.r.mapB,hG.p.mapB,p13,Ab,irN,nrA,nrM,nrE,reduceIte,reduceCtorEq,nrL];done)
    ·have e3n:i3=i2:=by omega
     subst e3n
     repeat'(first|((with_reducible refine hK _ _ fun e2 Aj=>?_);clear hK K;simp only[I2,Ag,Af,and_true,↓pb,An,C6,hG.one,Am hG.p,Ah hG.r,S.one,A6,Nat.mul_one,Av,A4,S.mapB,hG.r.mapB,hG.p.mapB,Ab,irN,nrA,nrM,nrE,reduceIte,reduceCtorEq,nrL]at Aj;clear Ab;(try clear eg);have Ab:=Aj;clear Aj;rename Bi=>eg)|((first|((with_reducible first|apply Ac|apply Al|apply Ak);(simp(disch:=try exact dA) only[Bh,C6,hG.one,Am hG.p,Ah hG.r,S.one,A6,Nat.mul_one,Av,A4,S.mapB,hG.r.mapB,hG.p.mapB,Ab,irN,nrA,nrM,nrE,reduceIte,reduceCtorEq,nrL];with_reducible exact rfl))|((with_reducible first|apply Ar|apply As|apply Aq);(focus exact Ee))|(with_reducible first|refine Ai I2 fun K hK=>?_|refine Aw I2 fun K hK=>?_));try simp only[↓pb,↓pd,Bp,C6,hG.one,Am hG.p,Ah hG.r,S.one,A6,Nat.mul_one,Av,A4,S.mapB,hG.r.mapB,hG.p.mapB,Ab,irN,nrA,nrM,nrE,reduceIte,reduceCtorEq,nrL])|((first|((with_reducible first|apply Br|apply Bt|apply Cc|apply Cd);exact rfl)|(with_reducible apply Au));(simp only[↓pb,An,C6,hG.one,Am hG.p,Ah hG.r,S.one,A6,Nat.mul_one,Av,A4,S.mapB,hG.r.mapB,hG.p.mapB,Ab,irN,nrA,nrM,nrE,reduceIte,reduceCtorEq,nrL];with_reducible exact rfl);all_goals(intro hc;(first|exact C8 hc|try simp only[C0]at hc);try((with_reducible first|apply E3|apply Ge);simp only[↓pb,↓pd,Bp,C6,hG.one,Am hG.p,Ah hG.r,S.one,A6,Nat.mul_one,Av,A4,S.mapB,hG.r.mapB,hG.p.mapB,hc,Ab,irN,nrA,nrM,nrE,reduceIte,reduceCtorEq,nrL])))|(with_reducible first|refine Az ?_|refine Ap ?_|refine At ?_|refine Ay ?_|refine Ax ?_|apply Ad)|((with_reducible apply Ae);(focus decide))|fail)
     refine⟨by omega,by simp only[↓pb,An,C6,hG.one,Am hG.p,Ah hG.r,S.one,A6,Nat.mul_one,Av,A4,S.mapB,hG.r.mapB,hG.p.mapB,Ab,irN,nrA,nrM,nrE,reduceIte,reduceCtorEq,nrL];exact congrArg _ (Di (by omega)),F12, ?_⟩
     have hd2:(Cf g truth (i3+1))=⟨s.2,(Cf g truth i3).last⟩:=by
      rw[hstep,Mv,if_pos htk,← hspe,← htu,← hlf,← hs]
     refine⟨by rw[p2,hd2], ?_,by omega⟩
     rw[hF3.old _ (by simp only[↓pb,An,C6,hG.one,Am hG.p,Ah hG.r,S.one,A6,Nat.mul_one,Av,A4,S.mapB,hG.r.mapB,hG.p.mapB,Ab,irN,nrA,nrM,nrE,reduceIte,reduceCtorEq,nrL];omega) Lw,hd2]
     simp(disch:=try exact dA) only[Bh,C6,hG.one,Am hG.p,Ah hG.r,S.one,A6,Nat.mul_one,Av,A4,S.mapB,hG.r.mapB,hG.p.mapB,Ab,irN,nrA,nrM,nrE,reduceIte,reduceCtorEq,nrL]
     exact m3
  ·rw[hd,B5,if_neg hh]at m5
   repeat'(first|((with_reducible refine hK _ _ fun e2 Aj=>?_);clear hK K;simp only[I2,Ag,Af,and_true,↓pb,An,C6,hG.one,Am hG.p,Ah hG.r,S.one,A6,Nat.mul_one,Av,A4,S.mapB,hG.r.mapB,hG.p.mapB,Ab,irN,nrA,nrM,nrE,reduceIte,reduceCtorEq,nrL]at Aj;clear Ab;(try clear eg);have Ab:=Aj;clear Aj;rename Bi=>eg)|((first|((with_reducible first|apply Ac|apply Al|apply Ak);(simp(disch:=try exact dA) only[Bh,C6,hG.one,Am hG.p,Ah hG.r,S.one,A6,Nat.mul_one,Av,A4,S.mapB,hG.r.mapB,hG.p.mapB,q0,q4,LT,LS,Ce G2.r,G2.r.rd,(G2.r.el Ba rfl),Bn,hh,m1,Ab,irN,nrA,nrM,nrE,reduceIte,reduceCtorEq,nrL];with_reducible exact rfl))|((with_reducible first|apply Ar|apply As|apply Aq);(focus exact Ee))|(with_reducible first|refine Ai I2 fun K hK=>?_|refine Aw I2 fun K hK=>?_));try simp only[↓pb,↓pd,Bp,C6,hG.one,Am hG.p,Ah hG.r,S.one,A6,Nat.mul_one,Av,A4,S.mapB,hG.r.mapB,hG.p.mapB,q0,q4,LT,LS,Ce G2.r,G2.r.rd,(G2.r.el Ba rfl),Bn,hh,m1,Ab,irN,nrA,nrM,nrE,reduceIte,reduceCtorEq,nrL])|((first|((with_reducible first|apply Br|apply Bt|apply Cc|apply Cd);exact rfl)|(with_reducible apply Au));(simp only[↓pb,An,C6,hG.one,Am hG.p,Ah hG.r,S.one,A6,Nat.mul_one,Av,A4,S.mapB,hG.r.mapB,hG.p.mapB,q0,q4,LT,LS,Ce G2.r,G2.r.rd,(G2.r.el Ba rfl),Bn,hh,m1,Ab,irN,nrA,nrM,nrE,reduceIte,reduceCtorEq,nrL];with_reducible exact rfl);all_goals(intro hc;(first|exact C8 hc|try simp only[C0]at hc);try((with_reducible first|apply E3|apply Ge);simp only[↓pb,↓pd,Bp,C6,hG.one,Am hG.p,Ah hG.r,S.one,A6,Nat.mul_one,Av,A4,S.mapB,hG.r.mapB,hG.p.mapB,q0,q4,LT,LS,Ce G2.r,G2.r.rd,(G2.r.el Ba rfl),Bn,hh,m1,hc,Ab,irN,nrA,nrM,nrE,reduceIte,reduceCtorEq,nrL])))|(with_reducible first|refine Az ?_|refine Ap ?_|refine At ?_|refine Ay ?_|refine Ax ?_|apply Ad)|((with_reducible apply Ae);(focus decide))|fail)
   refine⟨by first|exact .inl rfl|exact .inr rfl, ?_⟩
   rw[Ec Try.results35]
   simp only[↓pb,An,C6,hG.one,Am hG.p,Ah hG.r,S.one,A6,Nat.mul_one,Av,A4,S.mapB,hG.r.mapB,hG.p.mapB,Bo,Bg,Ab,irN,nrA,nrM,nrE,reduceIte,reduceCtorEq,nrL]
   repeat ((with_reducible apply Ac);(simp(disch:=try exact dA) only[Bh,C6,hG.one,Am hG.p,Ah hG.r,S.one,A6,Nat.mul_one,Av,A4,S.mapB,hG.r.mapB,hG.p.mapB,Ab,irN,nrA,nrM,nrE,reduceIte,reduceCtorEq,nrL];exact rfl))
   have hdo:Ct g truth acts hour=Cf g truth i2:=by
    unfold Ct
    rw[m5,Nat.add_zero,Nat.min_eq_right (by omega)]
   refine⟨⟨LT,LS,rfl, ?_, ?_⟩,(by exact Bm)⟩
   ·rw[hdo]
    refine⟨.inr ⟨_,_,_,rfl,Nat.le_refl _⟩,by rw[C3,dl.1,Nat.mul_one],.inr ⟨Ck (Cf g truth i2).left, ?_, ?_, ?_⟩,.inr ?_⟩
    ·show Aa.rd _ (H.n+2)=_
     simp(disch:=try exact dA) only[Bh,C6,hG.one,Am hG.p,Ah hG.r,S.one,A6,Nat.mul_one,Av,A4,S.mapB,hG.r.mapB,hG.p.mapB,Ab,irN,nrA,nrM,nrE,reduceIte,reduceCtorEq,nrL]
     exact q2
    ·show 0+g.Acts.length*1≤_
     rw[C3,dl.1];omega
    ·show ((Ck _).drop 0).take (g.Acts.length*1)=_
     rw[List.drop_zero,List.take_of_length_le (by rw[C3,dl.1];omega)]
    ·show H.n+2<h2.n
     omega
   ·rw[hdo]
    refine⟨.inr ⟨_,_,_,rfl,Nat.le_refl _⟩,by rw[C3,dl.2,Nat.mul_one],.inr ⟨Ck (Cf g truth i2).last, ?_, ?_, ?_⟩,.inr ?_⟩
    ·show Aa.rd _ (H.n+3)=_
     simp(disch:=try exact dA) only[Bh,C6,hG.one,Am hG.p,Ah hG.r,S.one,A6,Nat.mul_one,Av,A4,S.mapB,hG.r.mapB,hG.p.mapB,Ab,irN,nrA,nrM,nrE,reduceIte,reduceCtorEq,nrL]
     exact q3
    ·show 0+g.Spots.length*1≤_
     rw[C3,dl.2];omega
    ·show ((Ck _).drop 0).take (g.Spots.length*1)=_
     rw[List.drop_zero,List.take_of_length_le (by rw[C3,dl.2];omega)]
    ·show H.n+3<h2.n
     omega
 ·have e2n:i2=acts:=by omega
  repeat'(first|((with_reducible refine hK _ _ fun e2 Aj=>?_);clear hK K;simp only[I2,Ag,Af,and_true,↓pb,An,C6,hG.one,Am hG.p,Ah hG.r,S.one,A6,Nat.mul_one,Av,A4,S.mapB,hG.r.mapB,hG.p.mapB,Ab,irN,nrA,nrM,nrE,reduceIte,reduceCtorEq,nrL]at Aj;clear Ab;(try clear eg);have Ab:=Aj;clear Aj;rename Bi=>eg)|((first|((with_reducible first|apply Ac|apply Al|apply Ak);(simp(disch:=try exact dA) only[Bh,C6,hG.one,Am hG.p,Ah hG.r,S.one,A6,Nat.mul_one,Av,A4,S.mapB,hG.r.mapB,hG.p.mapB,q0,q4,LT,LS,m1,Ab,irN,nrA,nrM,nrE,reduceIte,reduceCtorEq,nrL];with_reducible exact rfl))|((with_reducible first|apply Ar|apply As|apply Aq);(focus exact Ee))|(with_reducible first|refine Ai I2 fun K hK=>?_|refine Aw I2 fun K hK=>?_));try simp only[↓pb,↓pd,Bp,C6,hG.one,Am hG.p,Ah hG.r,S.one,A6,Nat.mul_one,Av,A4,S.mapB,hG.r.mapB,hG.p.mapB,q0,q4,LT,LS,m1,Ab,irN,nrA,nrM,nrE,reduceIte,reduceCtorEq,nrL])|((first|((with_reducible first|apply Br|apply Bt|apply Cc|apply Cd);exact rfl)|(with_reducible apply Au));(simp only[↓pb,An,C6,hG.one,Am hG.p,Ah hG.r,S.one,A6,Nat.mul_one,Av,A4,S.mapB,hG.r.mapB,hG.p.mapB,q0,q4,LT,LS,m1,Ab,irN,nrA,nrM,nrE,reduceIte,reduceCtorEq,nrL];with_reducible exact rfl);all_goals(intro hc;(first|exact C8 hc|try simp only[C0]at hc);try((with_reducible first|apply E3|apply Ge);simp only[↓pb,↓pd,Bp,C6,hG.one,Am hG.p,Ah hG.r,S.one,A6,Nat.mul_one,Av,A4,S.mapB,hG.r.mapB,hG.p.mapB,q0,q4,LT,LS,m1,hc,Ab,irN,nrA,nrM,nrE,reduceIte,reduceCtorEq,nrL])))|(with_reducible first|refine Az ?_|refine Ap ?_|refine At ?_|refine Ay ?_|refine Ax ?_|apply Ad)|((with_reducible apply Ae);(focus decide))|fail)
  refine⟨by first|exact .inl rfl|exact .inr rfl, ?_⟩
  rw[Ec Try.results35]
  simp only[↓pb,An,C6,hG.one,Am hG.p,Ah hG.r,S.one,A6,Nat.mul_one,Av,A4,S.mapB,hG.r.mapB,hG.p.mapB,Bo,Bg,Ab,irN,nrA,nrM,nrE,reduceIte,reduceCtorEq,nrL]
  repeat ((with_reducible apply Ac);(simp(disch:=try exact dA) only[Bh,C6,hG.one,Am hG.p,Ah hG.r,S.one,A6,Nat.mul_one,Av,A4,S.mapB,hG.r.mapB,hG.p.mapB,Ab,irN,nrA,nrM,nrE,reduceIte,reduceCtorEq,nrL];exact rfl))
  have hdo:Ct g truth acts hour=Cf g truth i2:=by
   unfold Ct
   rw[m5,e2n,Nat.min_eq_left (by omega)]
  refine⟨⟨LT,LS,rfl, ?_, ?_⟩,(by exact Bm)⟩
  ·rw[hdo]
   refine⟨.inr ⟨_,_,_,rfl,Nat.le_refl _⟩,by rw[C3,dl.1,Nat.mul_one],.inr ⟨Ck (Cf g truth i2).left, ?_, ?_, ?_⟩,.inr ?_⟩
   ·show Aa.rd _ (H.n+2)=_
    simp(disch:=try exact dA) only[Bh,C6,hG.one,Am hG.p,Ah hG.r,S.one,A6,Nat.mul_one,Av,A4,S.mapB,hG.r.mapB,hG.p.mapB,Ab,irN,nrA,nrM,nrE,reduceIte,reduceCtorEq,nrL]
    exact q2
   ·show 0+g.Acts.length*1≤_
    rw[C3,dl.1];omega
   ·show ((Ck _).drop 0).take (g.Acts.length*1)=_
    rw[List.drop_zero,List.take_of_length_le (by rw[C3,dl.1];omega)]
   ·show H.n+2<h2.n
    omega
  ·rw[hdo]
   refine⟨.inr ⟨_,_,_,rfl,Nat.le_refl _⟩,by rw[C3,dl.2,Nat.mul_one],.inr ⟨Ck (Cf g truth i2).last, ?_, ?_, ?_⟩,.inr ?_⟩
   ·show Aa.rd _ (H.n+3)=_
    simp(disch:=try exact dA) only[Bh,C6,hG.one,Am hG.p,Ah hG.r,S.one,A6,Nat.mul_one,Av,A4,S.mapB,hG.r.mapB,hG.p.mapB,Ab,irN,nrA,nrM,nrE,reduceIte,reduceCtorEq,nrL]
    exact q3
   ·show 0+g.Spots.length*1≤_
    rw[C3,dl.2];omega
   ·show ((Ck _).drop 0).take (g.Spots.length*1)=_
    rw[List.drop_zero,List.take_of_length_le (by rw[C3,dl.2];omega)]
   ·show H.n+3<h2.n
    omega
noncomputable def lkG (o:Dd) (k:Value):Option Value:=match o with
 | .map es=>match Ku Try.prog 131 k es 0 with|some (some (_,v))=>some v|some none=>some (.int .i64 0)|none=>none
 | _=>none
theorem A3Y {H:Aa}{r:Nat}{a b:Int}:Np Try.prog 128 (.map (some r)) (k2 a b) false H=lkG (H.get r) (k2 a b):=by
 unfold Np lkG
 rw[B0D]
 dsimp only
 rw[if_pos (A3z A1Z sz3 ag3 A3N a b),zr3]
 unfold Y7
 dsimp only
 cases H.get r with
 | map es =>
  dsimp only
  rw[if_pos (show dflat (.int .i64 0)=true from rfl)]
  cases Ku Try.prog 131 (k2 a b) es 0 with
  | none=>rfl
  | some x=>cases x <;> rfl
 | _=>rfl
theorem B2B {l:List Tu}{a b d:Int}{i:Nat}(hn:Jf a b l 0=some (i,iv d)):lkG (.map (Qg l)) (k2 a b)=some (iv d):=by
 unfold lkG
 dsimp only
 rw[Xm A1Z sz3 ag3 A3N,hn]
theorem SR.offR {H:Aa}{s n:Nat}{v:Value}{c:List Value}{b:Nat}{u:Value}{T:TypeId}(h:SR H s n v c)(hg:H.get b=.cells [u] T .ex)(hs:2≤s):n=0∨C4 v∉[b]:=by
 by_cases hn:n=0
 ·exact .inl hn
 ·right
  intro hm
  have hm:C4 v=b:=List.mem_singleton.1 hm
  rcases h.cells with q|⟨d,h1,h2,_⟩
  ·exact hn q
  ·rw[hm,Bf,hg]at h1
   cases h1
   have:Gy v+n*s≤1:=h2
   have:1*2≤n*s:=Nat.mul_le_mul (by omega) hs
   omega
theorem RG.frR {N:Nat}{A B:Aa}{b:Nat}{u:Value}{T:TypeId}(hF:Fr N [b] A B)(hg:A.get b=.cells [u] T .ex){va vb vc:Value}{g:Cv}(h:RG A va vb vc g):RG B va vb vc g :=
 ⟨h.p.fr hF (h.p.offR hg (by omega)),h.q.fr hF (h.q.offR hg (by omega)),h.r.fr hF (h.r.offR hg (by omega))⟩
theorem SR.offU {H:Aa}{l:List Int}{v:Value}{b:Nat}{x:Int}{T:TypeId}(h:SR H 1 l.length v (Ck l))(hg:H.get b=.cells [uv x] T .ex):l.length=0∨C4 v∉[b]:=by
 by_cases hn:l.length=0
 ·exact .inl hn
 ·right
  intro hm
  have hm:C4 v=b:=List.mem_singleton.1 hm
  rcases h.cells with q|⟨d,h1,h2,h3⟩
  ·exact hn q
  ·rw[hm,Bf,hg]at h1
   cases h1
   cases l with
   | nil=>exact hn rfl
   | cons y l =>
    have h2:Gy v+(l.length+1)*1≤1:=h2
    have e0:Gy v=0:=by omega
    have e1:l=[]:=List.eq_nil_of_length_eq_zero (by omega)
    subst e1
    rw[e0]at h3
    cases h3
theorem SR.whole {H:Aa}{s n b:Nat}{c:List Value}{T:TypeId}(hb:b<H.n)(hg:H.get b=.cells c T .ex)(hl:c.length=n*s):SR H s n (.slice (some ⟨b,0,none⟩) n n) c:=by
 refine⟨.inr ⟨_,_,_,rfl,Nat.le_refl _⟩,hl,.inr ⟨c, ?_, ?_, ?_⟩,.inr hb⟩
 ·rw[Bf]
  show rdO (H.get b)=_
  rw[hg];rfl
 ·show 0+n*s≤c.length
  omega
 ·show (c.drop 0).take (n*s)=c
  rw[List.drop_zero,List.take_of_length_le (by omega)]
theorem B7Z (b:Nat)(w:Pm)(H:Aa)(hT:C1 H)(hb:b<H.n)(hg:H.get b=.cells (Mi w) 144 .ex):∃ v H',C5 (.fn 111) #[Bc b 0] H v H'∧SR H' 4 1 v ([w].flatMap Mi)∧Fr H.n [] H H':=by
 have hr:H.rd b=some (Mi w):=by rw[Bf,hg];rfl
 have hl:=Gs w
 refine Cl.ofW Try.func111 rfl (by kernel_rfl) (by rw[Try.ntmps111];exact Nat.le_of_ble_eq_true rfl) (by kernel_rfl) ?_
 have Ab:True:=trivial
 refine Jx [0] ?_
 intro eg Aj
 simp only[Ag,Af,and_true]at Aj
 try simp only[↓pb,An,Vi,hr,Ab,irN,nrA,nrM,nrE,reduceIte,reduceCtorEq,nrL]at Aj
 replace Ab:=Aj;clear Aj
 repeat'(first|((with_reducible refine hK _ _ fun e2 Aj=>?_);clear hK K;simp only[B21,Ag,Af,and_true,↓pb,An,Vi,hr,Ab,irN,nrA,nrM,nrE,reduceIte,reduceCtorEq,nrL]at Aj;clear Ab;(try clear eg);have Ab:=Aj;clear Aj;rename Bi=>eg)|((first|((with_reducible first|apply Ac|apply Al|apply Ak);(simp(disch:=try exact dA) only[Bh,Vi,hr,Fq hl,Ab,irN,nrA,nrM,nrE,reduceIte,reduceCtorEq,nrL];with_reducible exact rfl))|(with_reducible first|refine Ai B21 fun K hK=>?_));try simp only[↓pb,↓pd,Bp,Vi,hr,Fq hl,Ab,irN,nrA,nrM,nrE,reduceIte,reduceCtorEq,nrL])|(with_reducible first|refine Az ?_|refine Ay ?_)|fail)
 refine⟨by first|exact .inl rfl|exact .inr rfl, ?_⟩
 rw[Ec Try.results111]
 simp only[↓pb,An,Vi,hr,Bo,Bg,Ab,irN,nrA,nrM,nrE,reduceIte,reduceCtorEq,nrL]
 repeat ((with_reducible apply Ac);(simp(disch:=try exact dA) only[Bh,Vi,hr,Ab,irN,nrA,nrM,nrE,reduceIte,reduceCtorEq,nrL];exact rfl))
 refine⟨SR.whole (by simp only[↓pb,An,Vi,hr,Ab,irN,nrA,nrM,nrE,reduceIte,reduceCtorEq,nrL];omega) (by simp(disch:=try exact dA) only[Bh,Vi,hr,Ab,irN,nrA,nrM,nrE,reduceIte,reduceCtorEq,nrL];rfl) rfl,(by exact Bm)⟩
theorem B4E (w:Pm)(H:Aa)(hT:C1 H):∃ v H',C5 (.fn 104) #[.agg ⟨Mi w⟩] H v H'∧(one v∧∀ E:List Nat,(∀ x,x∈E→x<H.n)→K4 H' E v [w])∧Fr H.n [] H H':=by
 refine Cl.ofW Try.func104 rfl (by kernel_rfl) (by rw[Try.ntmps104];exact Nat.le_of_ble_eq_true rfl) (by kernel_rfl) ?_
 have Ab:True:=trivial
 refine Jx [0] ?_
 intro eg Aj
 simp only[Ag,Af,and_true]at Aj
 try simp only[↓pb,An,Vh,Ab,irN,nrA,nrM,nrE,reduceIte,reduceCtorEq,nrL]at Aj
 replace Ab:=Aj;clear Aj
 repeat'(first|((with_reducible refine hK _ _ fun e2 Aj=>?_);clear hK K;simp only[B2Z,Ag,Af,and_true,↓pb,An,Vh,Ab,irN,nrA,nrM,nrE,reduceIte,reduceCtorEq,nrL]at Aj;clear Ab;(try clear eg);have Ab:=Aj;clear Aj;rename Bi=>eg)|((first|((with_reducible first|apply Ac|apply Al|apply Ak);(simp(disch:=try exact dA) only[Bh,Vh,Ab,irN,nrA,nrM,nrE,reduceIte,reduceCtorEq,nrL];with_reducible exact rfl))|(with_reducible first|refine Ai B2Z fun K hK=>?_));try simp only[↓pb,↓pd,Bp,Vh,Ab,irN,nrA,nrM,nrE,reduceIte,reduceCtorEq,nrL])|(with_reducible first|refine Az ?_|refine Ay ?_)|fail)
 refine⟨by first|exact .inl rfl|exact .inr rfl, ?_⟩
 rw[Ec Try.results104]
 simp only[↓pb,An,Vh,Bo,Bg,Ab,irN,nrA,nrM,nrE,reduceIte,reduceCtorEq,nrL]
 repeat ((with_reducible apply Ac);(simp(disch:=try exact dA) only[Bh,Vh,Ab,irN,nrA,nrM,nrE,reduceIte,reduceCtorEq,nrL];exact rfl))
 exact⟨fun E hE=>.one ⟨fun hm=>Nat.lt_irrefl _ (hE _ hm),by simp only[↓pb,An,Vh,Ab,irN,nrA,nrM,nrE,reduceIte,reduceCtorEq,nrL];omega⟩ (by simp(disch:=try exact dA) only[Bh,Vh,Ab,irN,nrA,nrM,nrE,reduceIte,reduceCtorEq,nrL]),(by exact Bm)⟩
theorem B6p (spot:Nat)(m:On)(H:Aa)(hT:C1 H):∃ v H',C5 (.fn 105) #[iv spot,.agg ⟨Cq m⟩] H v H'∧v=.agg ⟨Mi (Eg spot m)⟩∧Fr H.n [] H H':=by
 refine Cl.ofW Try.func105 rfl (by kernel_rfl) (by rw[Try.ntmps105];exact Nat.le_of_ble_eq_true rfl) (by kernel_rfl) ?_
 have Ab:True:=trivial
 refine Jx [0,1] ?_
 intro eg Aj
 simp only[Ag,Af,and_true]at Aj
 try simp only[↓pb,An,A0E,Cq,Ab,irN,nrA,nrM,nrE,reduceIte,reduceCtorEq,nrL]at Aj
 replace Ab:=Aj;clear Aj
 repeat'(first|((with_reducible refine hK _ _ fun e2 Aj=>?_);clear hK K;simp only[B20,Ag,Af,and_true,↓pb,An,A0E,Cq,Ab,irN,nrA,nrM,nrE,reduceIte,reduceCtorEq,nrL]at Aj;clear Ab;(try clear eg);have Ab:=Aj;clear Aj;rename Bi=>eg)|((first|((with_reducible first|apply Ac|apply Al|apply Ak);(simp(disch:=try exact dA) only[Bh,A0E,Cq,Ab,irN,nrA,nrM,nrE,reduceIte,reduceCtorEq,nrL];with_reducible exact rfl))|(with_reducible first|refine Ai B20 fun K hK=>?_));try simp only[↓pb,↓pd,Bp,A0E,Cq,Ab,irN,nrA,nrM,nrE,reduceIte,reduceCtorEq,nrL])|(with_reducible first|refine Az ?_|refine Ay ?_)|fail)
 refine⟨by first|exact .inl rfl|exact .inr rfl, ?_⟩
 rw[Ec Try.results105]
 simp only[↓pb,An,A0E,Cq,Bo,Bg,Ab,irN,nrA,nrM,nrE,reduceIte,reduceCtorEq,nrL]
 repeat ((with_reducible apply Ac);(simp(disch:=try exact dA) only[Bh,A0E,Cq,Ab,irN,nrA,nrM,nrE,reduceIte,reduceCtorEq,nrL];exact rfl))
 refine⟨by first|rfl|(simp[Mi,Eg, *];done), ?_⟩
 try exact Bm
theorem B70 (b0 b1 b2 b3 a b:Nat)(m n:On)(H:Aa)(hT:C1 H)(h0:b0<H.n)(h1:b1<H.n)(h2:b2<H.n)(h3:b3<H.n)(g0:H.get b0=.cells [iv a] 3 .ex)(g1:H.get b1=.cells (Cq m) 101 .ex)(g2:H.get b2=.cells [iv b] 3 .ex)(g3:H.get b3=.cells (Cq n) 101 .ex) :
  ∃ v H',C5 (.fn 106) #[Bc b0 0,Bc b1 0,Bc b2 0,Bc b3 0] H v H'∧SR H' 4 2 v ([Eg a m,Eg b n].flatMap Mi)∧Fr H.n [] H H':=by
 have r0:H.rd b0=some [iv a]:=by rw[Bf,g0];rfl
 have r1:H.rd b1=some (Cq m):=by rw[Bf,g1];rfl
 have r2:H.rd b2=some [iv b]:=by rw[Bf,g2];rfl
 have r3:H.rd b3=some (Cq n):=by rw[Bf,g3];rfl
 have l1:=J1 m
 have l2:=J1 n
 have w1:=Gs (Eg a m)
 have w2:=Gs (Eg b n)
 refine Cl.ofW Try.func106 rfl (by kernel_rfl) (by rw[Try.ntmps106];exact Nat.le_of_ble_eq_true rfl) (by kernel_rfl) ?_
 have Ab:True:=trivial
 refine Jx [0,1,2,3] ?_
 intro eg Aj
 simp only[Ag,Af,and_true]at Aj
 try simp only[↓pb,An,Sx,r0,r1,r2,r3,Fq l1,Fq l2,Mi,Ab,irN,nrA,nrM,nrE,reduceIte,reduceCtorEq,nrL]at Aj
 replace Ab:=Aj;clear Aj
 repeat'(first|((with_reducible refine hK _ _ fun e2 Aj=>?_);clear hK K;simp only[A9m,Ag,Af,and_true,↓pb,An,Sx,r0,r1,r2,r3,Fq l1,Fq l2,Mi,Ab,irN,nrA,nrM,nrE,reduceIte,reduceCtorEq,nrL]at Aj;clear Ab;(try clear eg);have Ab:=Aj;clear Aj;rename Bi=>eg)|((first|((with_reducible first|apply Ac|apply Al|apply Ak);(simp(disch:=try exact dA) only[Bh,Sx,r0,r1,r2,r3,Fq l1,Fq l2,Mi,Ab,irN,nrA,nrM,nrE,reduceIte,reduceCtorEq,nrL];with_reducible exact rfl))|((with_reducible first|apply Ar|apply As|apply Aq);(focus exact Ee))|((with_reducible apply Bz);(focus exact Bb);(simp only[↓pb,An,Sx,r0,r1,r2,r3,Fq l1,Fq l2,Mi,Ab,irN,nrA,nrM,nrE,reduceIte,reduceCtorEq,nrL];(exact B6p _ _ _ (by exact Bb)));(intro Gq hq Fy;try simp only[Ao,A3]at hq))|(with_reducible first|refine Ai A9m fun K hK=>?_|refine Aw A9m fun K hK=>?_));try simp only[↓pb,↓pd,Bp,Sx,r0,r1,r2,r3,Fq l1,Fq l2,Mi,Ab,irN,nrA,nrM,nrE,reduceIte,reduceCtorEq,nrL])|(with_reducible first|refine Az ?_|refine Ay ?_)|fail)
 refine⟨by first|exact .inl rfl|exact .inr rfl, ?_⟩
 rw[Ec Try.results106]
 simp only[↓pb,An,Sx,r0,r1,r2,r3,Fq l1,Fq l2,Mi,Bo,Bg,Ab,irN,nrA,nrM,nrE,reduceIte,reduceCtorEq,nrL]
 repeat ((with_reducible apply Ac);(simp(disch:=try exact dA) only[Bh,Sx,r0,r1,r2,r3,Fq l1,Fq l2,Mi,Ab,irN,nrA,nrM,nrE,reduceIte,reduceCtorEq,nrL];exact rfl))
 refine⟨SR.whole (by simp only[↓pb,An,Sx,r0,r1,r2,r3,Fq l1,Fq l2,Mi,Ab,irN,nrA,nrM,nrE,reduceIte,reduceCtorEq,nrL];omega) (by simp(disch:=try exact dA) only[Bh,Sx,r0,r1,r2,r3,Fq l1,Fq l2,Mi,Ab,irN,nrA,nrM,nrE,reduceIte,reduceCtorEq,nrL];rfl) rfl,(by exact Bm)⟩
theorem B3h {H:Aa}{E:List Nat}{v:Value}{r:Iy}(h:K4 H E v r)(hT:C1 H):∃ v' H',Gj C5 v #[] H v' H'∧SR H' 4 r.length v' (r.flatMap Mi)∧Fr H.n [] H H':=by
 cases h with
 | one hb hg=>exact B7Z _ _ H hT hb.2 hg
 | pair h0 h1 h2 h3 g0 g1 g2 g3=>exact B70 _ _ _ _ _ _ _ _ H hT h0.2 h1.2 h2.2 h3.2 g0 g1 g2 g3
theorem B2C (p:Hp×Value){a b:Nat}(ha:a<11)(hb:b<11):(Mq p)[a*11+b]? = some (iv (p.1.s.mat a b)):=by
 have:=p.1.s.2
 unfold Mq
 rw[List.getElem?_append_left (by rw[C3];omega),Av (by omega)]
 rfl
theorem f70 (va vb vc vh v:Value)(l:List (Hp×Value))(E:List Nat)(r:Iy)(H:Aa)(hT:C1 H)(ho:one va∧one vb∧one vc)(Sh:RHs H vh l)(hl:l.length<1000)(hR:K4 H E v r)(hk:B0e l.length r)(hrl:r.length<1000) :
  ∃ v' H',C5 (.fn 70) #[.agg ⟨[va,vb,vc,vh]⟩,v] H v' H'∧v'=.bool (Fu (l.map (·.1.s)) r)∧Fr H.n [] H H':=by
 have oh:=Sh.1.one
 refine Cl.ofW Try.func70 rfl (by kernel_rfl) (by rw[Try.ntmps70];exact Nat.le_of_ble_eq_true rfl) (by kernel_rfl) ?_
 have Ab:True:=trivial
 refine Jx [0,1] ?_
 intro eg Aj
 simp only[Ag,Af,and_true]at Aj
 try simp only[↓pb,An,Kp,ho,oh,Ab,irN,nrA,nrM,nrE,reduceIte,reduceCtorEq,nrL]at Aj
 replace Ab:=Aj;clear Aj
 repeat'(first|((with_reducible refine hK _ _ fun e2 Aj=>?_);clear hK K;simp only[Vp,Ag,Af,and_true,↓pb,An,Kp,ho,oh,Ab,irN,nrA,nrM,nrE,reduceIte,reduceCtorEq,nrL]at Aj;clear Ab;(try clear eg);have Ab:=Aj;clear Aj;rename Bi=>eg)|((first|((with_reducible first|apply Ac|apply Al|apply Ak);(simp(disch:=try exact dA) only[Bh,Kp,ho,oh,Ab,irN,nrA,nrM,nrE,reduceIte,reduceCtorEq,nrL];with_reducible exact rfl))|((with_reducible first|apply Ar|apply As|apply Aq);(focus exact Ee))|((with_reducible apply Cy);(focus exact Bb);(simp only[↓pb,An,Kp,ho,oh,Ab,irN,nrA,nrM,nrE,reduceIte,reduceCtorEq,nrL];exact B3h (hR.fr (N:=H.n) (X:=[]) (by exact Bm) (by simp)) (by exact Bb));(rintro vq Gq hq Fy Sw;try simp only[Ao,A3]at hq))|(with_reducible first|refine Ai Vp fun K hK=>?_|refine Aw Vp fun K hK=>?_));try simp only[↓pb,↓pd,Bp,Kp,ho,oh,Ab,irN,nrA,nrM,nrE,reduceIte,reduceCtorEq,nrL])|((with_reducible apply Au);(simp only[↓pb,An,Kp,ho,oh,Ab,irN,nrA,nrM,nrE,reduceIte,reduceCtorEq,nrL];with_reducible exact rfl);all_goals(intro hc;(first|exact C8 hc|try simp only[C0]at hc)))|(with_reducible first|refine Az ?_|refine Ap ?_|refine At ?_|refine Ay ?_|refine Ax ?_|apply Ad)|((with_reducible apply Ae);(focus decide))|fail)
 repeat'(first|((with_reducible refine hK _ _ fun e2 Aj=>?_);clear hK K;simp only[Vp,Ag,Af,and_true,↓pb,An,Kp,ho,oh,Ab,irN,nrA,nrM,nrE,reduceIte,reduceCtorEq,nrL]at Aj;clear Ab;(try clear eg);have Ab:=Aj;clear Aj;rename Bi=>eg)|((first|((with_reducible first|apply Ac|apply Al|apply Ak);(simp(disch:=try exact dA) only[Bh,Kp,ho,oh,Ob Sw,Ab,irN,nrA,nrM,nrE,reduceIte,reduceCtorEq,nrL];with_reducible exact rfl))|((with_reducible first|apply Ar|apply As|apply Aq);(focus exact Ee))|(with_reducible first|refine Ai Vp fun K hK=>?_|refine Aw Vp fun K hK=>?_));try simp only[↓pb,↓pd,Bp,Kp,ho,oh,Ob Sw,Ab,irN,nrA,nrM,nrE,reduceIte,reduceCtorEq,nrL])|((with_reducible apply Au);(simp only[↓pb,An,Kp,ho,oh,Ob Sw,Ab,irN,nrA,nrM,nrE,reduceIte,reduceCtorEq,nrL];with_reducible exact rfl);all_goals(intro hc;(first|exact C8 hc|try simp only[C0]at hc)))|(with_reducible first|refine Az ?_|refine Ap ?_|refine At ?_|refine Ay ?_|refine Ax ?_|apply Ad)|((with_reducible apply Ae);(focus decide))|fail)
 refine Db [2,8,9] (by kernel_rfl) 10 (r.length) (H.n) [] [] (fun i e h=>((r.take i).all fun w=>!w.ok (l.map (·.1.s)))=true) (by simp only[↓pb,An,Kp,ho,oh,Ab,irN,nrA,nrM,nrE,reduceIte,reduceCtorEq,nrL]) (by focus exact Bb) (H0:=H) (by focus exact Bm) (by intro b hb hlt;simp at hb ⊢;try omega) ?_ ?_
 rotate_left
 intro i1 e1 h1 hi1 D3 ei1 Ep D9 Mf Hh
 simp only[Ag,Af,and_true]at D3
 try simp only[↓pb,An,Kp,ho,oh,Ab,irN,nrA,nrM,nrE,reduceIte,reduceCtorEq,nrL]at D3
 have hn11:=Ep.n;have hn01:=D9.n;try simp only[Ao,A3]at hn11
 replace Ab:=B9p ei1 D3
 rotate_left
 ·simp
 have S1:=Sw.fr0 Ep
 have Sh1:=Sh.fr (N:=H.n) D9
 have r2:h1.rd H.n=some [va,vb,vc,vh]:=by
  rw[Ep.rd (b:=H.n) (by simp only[↓pb,An,Kp,ho,oh,Ab,irN,nrA,nrM,nrE,reduceIte,reduceCtorEq,nrL];omega) (by simp)]
  simp(disch:=try exact dA) only[Bh,Kp,ho,oh,Ab,irN,nrA,nrM,nrE,reduceIte,reduceCtorEq,nrL]
 by_cases hi2:i1<r.length
 ·have lS:=S1.lt
  have lh:=Sh1.1.lt
  have hwk:=hk _ (Ib hi2)
  obtain⟨w,hw⟩:∃ w,w=r.getD i1 default:=⟨_,rfl⟩
  rw[← hw]at hwk
  obtain⟨k1,k2,k3⟩:=hwk
  have hen:Mi (r.getD i1 default)=[iv w.spot,iv w.a,iv w.b,iv w.most]:=by rw[← hw];rfl
  have hmat:(Yl h1 vh)[Gy vh+w.spot*122+w.a*11+w.b]? = some (iv ((l.getD w.spot default).1.s.mat w.a w.b)):=by
   rw[Nat.add_assoc _ (w.a*11),(Sh1.1.el Df rfl).1 _ _ k1 (by omega),B2C _ k2 k3]
  have hok:w.ok (l.map (·.1.s))=decide ((l.getD w.spot default).1.s.mat w.a w.b≤w.most):=by
   unfold Pm.ok
   rw[Kk k1]
  repeat'(first|((with_reducible refine hK _ _ fun e2 Aj=>?_);clear hK K;simp only[Vp,Ag,Af,and_true,↓pb,An,Kp,ho,oh,Ab,irN,nrA,nrM,nrE,reduceIte,reduceCtorEq,nrL]at Aj;clear Ab;(try clear eg);have Ab:=Aj;clear Aj;rename Bi=>eg)|((first|((with_reducible first|apply Ac|apply Al|apply Ak);(simp(disch:=try exact dA) only[Bh,Kp,ho,oh,r2,Lh S1,S1.rd,(S1.el Gs rfl),hen,Gx Sh1.1,Sh1.1.rd,hmat,Nat.mul_one,S1.mapB,Sh1.1.mapB,Ab,irN,nrA,nrM,nrE,reduceIte,reduceCtorEq,nrL];with_reducible exact rfl))|((with_reducible first|apply Ar|apply As|apply Aq);(focus exact Ee))|(with_reducible first|refine Ai Vp fun K hK=>?_|refine Aw Vp fun K hK=>?_));try simp only[↓pb,↓pd,Bp,Kp,ho,oh,r2,Lh S1,S1.rd,(S1.el Gs rfl),hen,Gx Sh1.1,Sh1.1.rd,hmat,Nat.mul_one,S1.mapB,Sh1.1.mapB,Ab,irN,nrA,nrM,nrE,reduceIte,reduceCtorEq,nrL])|((with_reducible apply Au);(simp only[↓pb,An,Kp,ho,oh,r2,Lh S1,S1.rd,(S1.el Gs rfl),hen,Gx Sh1.1,Sh1.1.rd,hmat,Nat.mul_one,S1.mapB,Sh1.1.mapB,Ab,irN,nrA,nrM,nrE,reduceIte,reduceCtorEq,nrL];with_reducible exact rfl);all_goals(intro hc;(first|exact C8 hc|try simp only[C0]at hc)))|(with_reducible first|refine Az ?_|refine Ap ?_|refine At ?_|refine Ay ?_|refine Ax ?_|apply Ad)|((with_reducible apply Ae);(focus decide))|fail)
  ·refine⟨by first|exact .inl rfl|exact .inr rfl, ?_⟩
   rw[Ec Try.results70]
   simp only[↓pb,An,Kp,ho,oh,Bo,Bg,Ab,irN,nrA,nrM,nrE,reduceIte,reduceCtorEq,nrL]
   repeat ((with_reducible apply Ac);(simp(disch:=try exact dA) only[Bh,Kp,ho,oh,Ab,irN,nrA,nrM,nrE,reduceIte,reduceCtorEq,nrL];exact rfl))
   refine⟨?_,(by exact Bm)⟩
   congr 1
   unfold Fu
   symm
   rw[← Bool.not_eq_true,List.all_eq_true]
   intro q
   have:=q _ (Ib hi2)
   rw[← hw,hok,decide_eq_true hc]at this
   cases this
  ·refine⟨by omega,by simp only[↓pb,An,Kp,ho,oh,Ab,irN,nrA,nrM,nrE,reduceIte,reduceCtorEq,nrL];exact congrArg _ (Di (by omega)),by focus exact Bm, ?_⟩
   rw[H6 hi2,List.all_append,Hh,← hw]
   show (true && ((!w.ok (l.map (·.1.s))) && true))=true
   rw[hok,decide_eq_false hc]
   rfl
 ·have e1n:i1=r.length:=by omega
  repeat'(first|((with_reducible refine hK _ _ fun e2 Aj=>?_);clear hK K;simp only[Vp,Ag,Af,and_true,↓pb,An,Kp,ho,oh,Ab,irN,nrA,nrM,nrE,reduceIte,reduceCtorEq,nrL]at Aj;clear Ab;(try clear eg);have Ab:=Aj;clear Aj;rename Bi=>eg)|((first|((with_reducible first|apply Ac|apply Al|apply Ak);(simp(disch:=try exact dA) only[Bh,Kp,ho,oh,Ab,irN,nrA,nrM,nrE,reduceIte,reduceCtorEq,nrL];with_reducible exact rfl))|((with_reducible first|apply Ar|apply As|apply Aq);(focus exact Ee))|(with_reducible first|refine Ai Vp fun K hK=>?_|refine Aw Vp fun K hK=>?_));try simp only[↓pb,↓pd,Bp,Kp,ho,oh,Ab,irN,nrA,nrM,nrE,reduceIte,reduceCtorEq,nrL])|((with_reducible apply Au);(simp only[↓pb,An,Kp,ho,oh,Ab,irN,nrA,nrM,nrE,reduceIte,reduceCtorEq,nrL];with_reducible exact rfl);all_goals(intro hc;(first|exact C8 hc|try simp only[C0]at hc)))|(with_reducible first|refine Az ?_|refine Ap ?_|refine At ?_|refine Ay ?_|refine Ax ?_|apply Ad)|((with_reducible apply Ae);(focus decide))|fail)
  refine⟨by first|exact .inl rfl|exact .inr rfl, ?_⟩
  rw[Ec Try.results70]
  simp only[↓pb,An,Kp,ho,oh,Bo,Bg,Ab,irN,nrA,nrM,nrE,reduceIte,reduceCtorEq,nrL]
  repeat ((with_reducible apply Ac);(simp(disch:=try exact dA) only[Bh,Kp,ho,oh,Ab,irN,nrA,nrM,nrE,reduceIte,reduceCtorEq,nrL];exact rfl))
  refine⟨?_,(by exact Bm)⟩
  rw[e1n,List.take_length]at Hh
  unfold Fu
  rw[Hh]
theorem f90 (va vb vc vh v:Value)(l:List (Hp×Value))(E:List Nat)(vs:List Value)(rs:List Iy)(H:Aa)(hT:C1 H)(ho:one va∧one vb∧one vc)(Sh:RHs H vh l)(hl:l.length<1000)(S:SR H 1 rs.length v vs)(hR:D8 H E vs rs)(hk:Ub l.length rs)(hrl:∀ r,r∈rs→r.length<1000)(hrs:rs.length<1000000) :
  ∃ v' H',C5 (.fn 90) #[v,.func (.func 70) #[.agg ⟨[va,vb,vc,vh]⟩] #[]] H v' H'∧(∃ n:Int,v'=iv n∧decide (0≤n)=rs.any (Fu (l.map (·.1.s))))∧Fr H.n [] H H':=by
 refine Cl.ofW Try.func90 rfl (by kernel_rfl) (by rw[Try.ntmps90];exact Nat.le_of_ble_eq_true rfl) (by kernel_rfl) ?_
 have Ab:True:=trivial
 refine Jx [0,1] ?_
 intro eg Aj
 simp only[Ag,Af,and_true]at Aj
 try simp only[↓pb,An,M6,Bx S,Ab,irN,nrA,nrM,nrE,reduceIte,reduceCtorEq,nrL]at Aj
 replace Ab:=Aj;clear Aj
 repeat'(first|((with_reducible refine hK _ _ fun e2 Aj=>?_);clear hK K;simp only[A7h,Ag,Af,and_true,↓pb,An,M6,Bx S,Ab,irN,nrA,nrM,nrE,reduceIte,reduceCtorEq,nrL]at Aj;clear Ab;(try clear eg);have Ab:=Aj;clear Aj;rename Bi=>eg)|((first|((with_reducible first|apply Ac|apply Al|apply Ak);(simp(disch:=try exact dA) only[Bh,M6,Bx S,Ab,irN,nrA,nrM,nrE,reduceIte,reduceCtorEq,nrL];with_reducible exact rfl))|(with_reducible first|refine Ai A7h fun K hK=>?_));try simp only[↓pb,↓pd,Bp,M6,Bx S,Ab,irN,nrA,nrM,nrE,reduceIte,reduceCtorEq,nrL])|((with_reducible apply Au);(simp only[↓pb,An,M6,Bx S,Ab,irN,nrA,nrM,nrE,reduceIte,reduceCtorEq,nrL];with_reducible exact rfl);all_goals(intro hc;(first|exact C8 hc|try simp only[C0]at hc)))|(with_reducible first|refine Az ?_|refine Ap ?_|refine At ?_|refine Ay ?_|refine Ax ?_|apply Ad)|((with_reducible apply Ae);(focus decide))|fail)
 refine Db [0,1,7] (by kernel_rfl) 8 (rs.length) (H.n) [] [] (fun i e h=>((rs.take i).any (Fu (l.map (·.1.s))))=false) (by simp only[↓pb,An,M6,Bx S,Ab,irN,nrA,nrM,nrE,reduceIte,reduceCtorEq,nrL]) (by focus exact Bb) (H0:=H) (by focus exact Bm) (by intro b hb hlt;simp at hb ⊢;try omega) ?_ ?_
 rotate_left
 intro i1 e1 h1 hi1 D3 ei1 Ep D9 Mf Hh
 simp only[Ag,Af,and_true]at D3
 try simp only[↓pb,An,M6,Bx S,Ab,irN,nrA,nrM,nrE,reduceIte,reduceCtorEq,nrL]at D3
 have hn11:=Ep.n;have hn01:=D9.n;try simp only[Ao,A3]at hn11
 replace Ab:=B9p ei1 D3
 rotate_left
 ·simp
 have S1:=S.fr0 D9
 have Sh1:=Sh.fr D9
 have R1:=hR.fr D9 (by simp)
 by_cases hi2:i1<rs.length
 ·have lS:=S1.lt
  obtain⟨u,hu,hru⟩:=R1.at i1 hi2
  have hld:(Yl h1 v)[Gy v+i1]? = some u:=by rw[← Kq,S1.at (j:=i1) (by omega)];exact hu
  have hmem:=Ib hi2
  repeat'(first|((with_reducible refine hK _ _ fun e2 Aj=>?_);clear hK K;simp only[A7h,Ag,Af,and_true,↓pb,An,M6,Bx S,Ab,irN,nrA,nrM,nrE,reduceIte,reduceCtorEq,nrL]at Aj;clear Ab;(try clear eg);have Ab:=Aj;clear Aj;rename Bi=>eg)|((first|((with_reducible first|apply Ac|apply Al|apply Ak);(simp(disch:=try exact dA) only[Bh,M6,Bx S,Px S1,S1.rd,hld,Nat.mul_one,Ab,irN,nrA,nrM,nrE,reduceIte,reduceCtorEq,nrL];with_reducible exact rfl))|((with_reducible apply Bz);(focus exact Bb);(simp only[↓pb,An,M6,Bx S,Px S1,S1.rd,hld,Nat.mul_one,Ab,irN,nrA,nrM,nrE,reduceIte,reduceCtorEq,nrL];(exact f70 _ _ _ _ _ _ _ _ _ (by exact Bb) ho (Sh1.fr (N:=h1.n) (by exact Bm)) hl (hru.fr (N:=h1.n) (X:=[]) (by exact Bm) (by simp)) (hk _ hmem) (hrl _ hmem)));(intro Gq hq Fy;try simp only[Ao,A3]at hq))|(with_reducible first|refine Ai A7h fun K hK=>?_));try simp only[↓pb,↓pd,Bp,M6,Bx S,Px S1,S1.rd,hld,Nat.mul_one,Ab,irN,nrA,nrM,nrE,reduceIte,reduceCtorEq,nrL])|((with_reducible apply Au);(simp only[↓pb,An,M6,Bx S,Px S1,S1.rd,hld,Nat.mul_one,Ab,irN,nrA,nrM,nrE,reduceIte,reduceCtorEq,nrL];with_reducible exact rfl);all_goals(intro hc;(first|exact C8 hc|try simp only[C0]at hc)))|(with_reducible first|refine Az ?_|refine Ap ?_|refine At ?_|refine Ay ?_|refine Ax ?_|apply Ad)|((with_reducible apply Ae);(focus decide))|fail)
  ·refine⟨by first|exact .inl rfl|exact .inr rfl, ?_⟩
   rw[Ec Try.results90]
   simp only[↓pb,An,M6,Bx S,Bo,Bg,Ab,irN,nrA,nrM,nrE,reduceIte,reduceCtorEq,nrL]
   repeat ((with_reducible apply Ac);(simp(disch:=try exact dA) only[Bh,M6,Bx S,Ab,irN,nrA,nrM,nrE,reduceIte,reduceCtorEq,nrL];exact rfl))
   refine⟨⟨i1,rfl, ?_⟩,(by exact Bm)⟩
   have:rs.any (Fu (l.map (·.1.s)))=true:=List.any_eq_true.2 ⟨_,hmem,hc⟩
   rw[this]
   exact decide_eq_true (by omega)
  ·refine⟨by omega,by simp only[↓pb,An,M6,Bx S,Ab,irN,nrA,nrM,nrE,reduceIte,reduceCtorEq,nrL];exact congrArg _ (Di (by omega)),by focus exact Bm, ?_⟩
   rw[H6 hi2,List.any_append,Hh]
   show (false || (Fu (l.map (·.1.s)) (rs.getD i1 default) || false))=false
   rw[hc]
   rfl
 ·have e1n:i1=rs.length:=by omega
  repeat'(first|((with_reducible refine hK _ _ fun e2 Aj=>?_);clear hK K;simp only[A7h,Ag,Af,and_true,↓pb,An,M6,Bx S,Ab,irN,nrA,nrM,nrE,reduceIte,reduceCtorEq,nrL]at Aj;clear Ab;(try clear eg);have Ab:=Aj;clear Aj;rename Bi=>eg)|((first|((with_reducible first|apply Ac|apply Al|apply Ak);(simp(disch:=try exact dA) only[Bh,M6,Bx S,Ab,irN,nrA,nrM,nrE,reduceIte,reduceCtorEq,nrL];with_reducible exact rfl))|(with_reducible first|refine Ai A7h fun K hK=>?_));try simp only[↓pb,↓pd,Bp,M6,Bx S,Ab,irN,nrA,nrM,nrE,reduceIte,reduceCtorEq,nrL])|((with_reducible apply Au);(simp only[↓pb,An,M6,Bx S,Ab,irN,nrA,nrM,nrE,reduceIte,reduceCtorEq,nrL];with_reducible exact rfl);all_goals(intro hc;(first|exact C8 hc|try simp only[C0]at hc)))|(with_reducible first|refine Az ?_|refine Ap ?_|refine At ?_|refine Ay ?_|refine Ax ?_|apply Ad)|((with_reducible apply Ae);(focus decide))|fail)
  refine⟨by first|exact .inl rfl|exact .inr rfl, ?_⟩
  rw[Ec Try.results90]
  simp only[↓pb,An,M6,Bx S,Bo,Bg,Ab,irN,nrA,nrM,nrE,reduceIte,reduceCtorEq,nrL]
  repeat ((with_reducible apply Ac);(simp(disch:=try exact dA) only[Bh,M6,Bx S,Ab,irN,nrA,nrM,nrE,reduceIte,reduceCtorEq,nrL];exact rfl))
  rw[e1n,List.take_length]at Hh
  exact⟨⟨-1,rfl,by rw[Hh];rfl⟩,(by exact Bm)⟩
theorem f69 (va vb vc vh v:Value)(l:List (Hp×Value))(E:List Nat)(vs:List Value)(rs:List Iy)(H:Aa)(hT:C1 H)(ho:one va∧one vb∧one vc)(Sh:RHs H vh l)(hl:l.length<1000)(S:SR H 1 rs.length v vs)(hR:D8 H E vs rs)(hk:Ub l.length rs)(hrl:∀ r,r∈rs→r.length<1000)(hrs:rs.length<1000000) :
  ∃ v' H',C5 (.fn 69) #[v,.func (.func 70) #[.agg ⟨[va,vb,vc,vh]⟩] #[]] H v' H'∧v'=.bool (rs.any (Fu (l.map (·.1.s))))∧Fr H.n [] H H':=by
 refine Cl.ofW Try.func69 rfl (by kernel_rfl) (by rw[Try.ntmps69];exact Nat.le_of_ble_eq_true rfl) (by kernel_rfl) ?_
 have Ab:True:=trivial
 refine Jx [0,1] ?_
 intro eg Aj
 simp only[Ag,Af,and_true]at Aj
 try simp only[↓pb,An,A5l,Ab,irN,nrA,nrM,nrE,reduceIte,reduceCtorEq,nrL]at Aj
 replace Ab:=Aj;clear Aj
 repeat'(first|((with_reducible refine hK _ _ fun e2 Aj=>?_);clear hK K;simp only[B5f,Ag,Af,and_true,↓pb,An,A5l,Ab,irN,nrA,nrM,nrE,reduceIte,reduceCtorEq,nrL]at Aj;clear Ab;(try clear eg);have Ab:=Aj;clear Aj;rename Bi=>eg)|((first|((with_reducible first|apply Ac|apply Al|apply Ak);(simp(disch:=try exact dA) only[Bh,A5l,Ab,irN,nrA,nrM,nrE,reduceIte,reduceCtorEq,nrL];with_reducible exact rfl))|((with_reducible apply Cy);(focus exact Bb);(simp only[↓pb,An,A5l,Ab,irN,nrA,nrM,nrE,reduceIte,reduceCtorEq,nrL];exact f90 _ _ _ _ _ _ _ _ _ _ (by exact Bb) ho (Sh.fr (N:=H.n) (by exact Bm)) hl (S.fr0 (N:=H.n) (by exact Bm)) (hR.fr (N:=H.n) (X:=[]) (by exact Bm) (by simp)) hk hrl hrs);(rintro vq Gq hq Fy ⟨n,rfl,hn⟩;try simp only[Ao,A3]at hq))|(with_reducible first|refine Ai B5f fun K hK=>?_));try simp only[↓pb,↓pd,Bp,A5l,Ab,irN,nrA,nrM,nrE,reduceIte,reduceCtorEq,nrL])|(with_reducible first|refine Az ?_|refine Ay ?_)|fail)
 refine⟨by first|exact .inl rfl|exact .inr rfl, ?_⟩
 rw[Ec Try.results69]
 simp only[↓pb,An,A5l,Bo,Bg,Ab,irN,nrA,nrM,nrE,reduceIte,reduceCtorEq,nrL]
 repeat ((with_reducible apply Ac);(simp(disch:=try exact dA) only[Bh,A5l,Ab,irN,nrA,nrM,nrE,reduceIte,reduceCtorEq,nrL];exact rfl))
 exact⟨by rw[← hn],(by exact Bm)⟩
end Go.Proofs.Swa
