/- Part 10. -/
import Derived.Test.YtkjcijlaehflhaaP09
set_option maxRecDepth 20000
set_option linter.unusedVariables false
set_option linter.unusedSimpArgs false
namespace Go.Proofs.Swa
open Go
open Nat renaming reduceAdd → nrA, reduceMul → nrM, reduceEqDiff → nrE, reduceLT → nrL
open Int renaming reduceToNat → irN
attribute [local congr] Ja Gm I8 I9 Jb Hl Hm Hn
theorem f92 (s:List Int)(hs:s.length=121)(a b:Nat)(ha:a<11)(hb:b<11)(m:Int)(H:Aa)(hT:C1 H) :
  ∃ v H',C5 (.fn 92) #[.agg ⟨Ck s⟩,iv a,iv b,iv m] H v H'∧v=.tuple #[.agg ⟨Ck (know s a b m).1⟩,.bool (know s a b m).2]∧Fr H.n [] H H':=by
 have hl:(Ck s).length=121:=by rw[C3,hs]
 have hz:=Dv 121
 refine Cl.ofW Try.func92 rfl (by kernel_rfl) (by rw[Try.ntmps92];exact Nat.le_of_ble_eq_true rfl) (by kernel_rfl) ?_
 have Ab:True:=trivial
 refine Jx [0,1,2,3] ?_
 intro eg Aj
 simp only[Ag,Af,and_true]at Aj
 try simp only[↓pb,An,Ip,Av,Nat.mul_one,Ab,irN,nrA,nrM,nrE,reduceIte,reduceCtorEq,nrL]at Aj
 replace Ab:=Aj;clear Aj
 repeat'(first|((with_reducible refine hK _ _ fun e2 Aj=>?_);clear hK K;simp only[Vn,Ag,Af,and_true,↓pb,An,Ip,Av,Nat.mul_one,Ab,irN,nrA,nrM,nrE,reduceIte,reduceCtorEq,nrL]at Aj;clear Ab;(try clear eg);have Ab:=Aj;clear Aj;rename Bi=>eg)|((first|((with_reducible first|apply Ac|apply Al|apply Ak);(simp(disch:=try exact dA) only[Bh,Ip,Av,Nat.mul_one,Ab,irN,nrA,nrM,nrE,reduceIte,reduceCtorEq,nrL];with_reducible exact rfl))|((with_reducible first|apply Ar|apply As|apply Aq);(focus exact Ee))|(with_reducible first|refine Ai Vn fun K hK=>?_|refine Aw Vn fun K hK=>?_));try simp only[↓pb,↓pd,Bp,Ip,Av,Nat.mul_one,Ab,irN,nrA,nrM,nrE,reduceIte,reduceCtorEq,nrL])|((first|((with_reducible first|apply Br|apply Bt|apply Cc|apply Cd);exact rfl)|(with_reducible apply Au));(simp only[↓pb,An,Ip,Av,Nat.mul_one,Ab,irN,nrA,nrM,nrE,reduceIte,reduceCtorEq,nrL];with_reducible exact rfl);all_goals(intro hc;(first|exact C8 hc|try simp only[C0]at hc);try((with_reducible first|apply E3|apply Ge);simp only[↓pb,↓pd,Bp,Ip,Av,Nat.mul_one,hc,Ab,irN,nrA,nrM,nrE,reduceIte,reduceCtorEq,nrL])))|(with_reducible first|refine Az ?_|refine Ap ?_|refine At ?_|refine Ay ?_|refine Ax ?_|apply Ad)|((with_reducible apply Ae);(focus decide))|fail)
 ·refine⟨by first|exact .inl rfl|exact .inr rfl, ?_⟩
  rw[Nd Try.results92]
  simp only[↓pb,An,Ip,Av,Nat.mul_one,Bo,Bg,Ab,irN,nrA,nrM,nrE,reduceIte,reduceCtorEq,nrL]
  repeat ((with_reducible apply Ac);(simp(disch:=try exact dA) only[Bh,Ip,Av,Nat.mul_one,Ab,irN,nrA,nrM,nrE,reduceIte,reduceCtorEq,nrL];exact rfl))
  have hc':Dz (mat s b a+m)<0:=hc
  refine⟨by first|rfl|(simp[know, *];done), ?_⟩
  try exact Bm
 ·refine⟨by first|exact .inl rfl|exact .inr rfl, ?_⟩
  rw[Nd Try.results92]
  simp only[↓pb,An,Ip,Av,Nat.mul_one,Bo,Bg,Ab,irN,nrA,nrM,nrE,reduceIte,reduceCtorEq,nrL]
  repeat ((with_reducible apply Ac);(simp(disch:=try exact dA) only[Bh,Ip,Av,Nat.mul_one,Ab,irN,nrA,nrM,nrE,reduceIte,reduceCtorEq,nrL];exact rfl))
  rename_i h1
  have h1':¬ Dz (mat s b a+m)<0:=h1
  have hc':mat s a b≤m:=hc
  refine⟨by first|rfl|(simp[know, *];done), ?_⟩
  try exact Bm
 have hw:know s a b m=(Pb s a b m 11,true):=by
  rename_i h1
  have h1':¬ Dz (mat s b a+m)<0:=h1
  have hc':¬ mat s a b≤m:=hc
  rw[know,if_neg h1',if_neg hc']
 clear hc
 refine Db [1,2,3,4,8,10] (by kernel_rfl) 31 (11) (H.n) [H.n+2] [] (fun i e h=>h.get (H.n+2)=.cells (Ck (Pb s a b m i)) 96 .ex) (by simp only[↓pb,An,Ip,Av,Nat.mul_one,Ab,irN,nrA,nrM,nrE,reduceIte,reduceCtorEq,nrL]) (by focus exact Bb) (H0:=H) (by focus exact Bm) (by intro b hb hlt;simp at hb ⊢;try omega) ?_ ?_
 rotate_left
 intro i1 e1 h1 hi1 D3 ei1 Ep D9 Mf Hh
 simp only[Ag,Af,and_true]at D3
 try simp only[↓pb,An,Ip,Av,Nat.mul_one,Ab,irN,nrA,nrM,nrE,reduceIte,reduceCtorEq,nrL]at D3
 have hn11:=Ep.n;have hn01:=D9.n;try simp only[Ao,A3]at hn11
 replace Ab:=B9p ei1 D3
 rotate_left
 ·simp only[↓pb,An,Ip,Av,Nat.mul_one,Ab,irN,nrA,nrM,nrE,reduceIte,reduceCtorEq,nrL]
  rfl
 have hla:(Pb s a b m i1).length=121:=by rw[R4,hs]
 have hla2:(Ck (Pb s a b m i1)).length=121:=by rw[C3,hla]
 repeat'(first|((with_reducible refine hK _ _ fun e2 Aj=>?_);clear hK K;simp only[Vn,Ag,Af,and_true,↓pb,An,Ip,Av,Nat.mul_one,Ab,irN,nrA,nrM,nrE,reduceIte,reduceCtorEq,nrL]at Aj;clear Ab;(try clear eg);have Ab:=Aj;clear Aj;rename Bi=>eg)|((first|((with_reducible first|apply Ac|apply Al|apply Ak);(simp(disch:=try exact dA) only[Bh,Ip,Av,Nat.mul_one,D3,ei1,Ep.rdX,Ab,irN,nrA,nrM,nrE,reduceIte,reduceCtorEq,nrL];with_reducible exact rfl))|((with_reducible first|apply Ar|apply As|apply Aq);(focus exact Ee))|(with_reducible first|refine Ai Vn fun K hK=>?_|refine Aw Vn fun K hK=>?_));try simp only[↓pb,↓pd,Bp,Ip,Av,Nat.mul_one,D3,ei1,Ep.rdX,Ab,irN,nrA,nrM,nrE,reduceIte,reduceCtorEq,nrL])|((first|((with_reducible first|apply Br|apply Bt|apply Cc|apply Cd);exact rfl)|(with_reducible apply Au));(simp only[↓pb,An,Ip,Av,Nat.mul_one,D3,ei1,Ep.rdX,Ab,irN,nrA,nrM,nrE,reduceIte,reduceCtorEq,nrL];with_reducible exact rfl);all_goals(intro hc;(first|exact C8 hc|try simp only[C0]at hc);try((with_reducible first|apply E3|apply Ge);simp only[↓pb,↓pd,Bp,Ip,Av,Nat.mul_one,D3,ei1,Ep.rdX,hc,Ab,irN,nrA,nrM,nrE,reduceIte,reduceCtorEq,nrL])))|(with_reducible first|refine Az ?_|refine Ap ?_|refine At ?_|refine Ay ?_|refine Ax ?_|apply Ad)|((with_reducible apply Ae);(focus decide))|fail)
 ·refine Db [1,2,3,4,8,10,11,31] (by kernel_rfl) 34 (11) (H.n) [H.n+2] [] (fun i e h=>h.get (H.n+2)=.cells (Ck (Xg s a b m i1 (Pb s a b m i1) i)) 96 .ex) (by simp only[↓pb,An,Ip,Av,Nat.mul_one,D3,ei1,Ab,irN,nrA,nrM,nrE,reduceIte,reduceCtorEq,nrL]) (by focus exact Bb) (H0:=H) (by focus exact Bm) (by intro b hb hlt;simp at hb ⊢;try omega) ?_ ?_
  rotate_left
  intro i2 e2 h2 hi2 Lm ei2 Ol Ji A30 Ov
  simp only[Ag,Af,and_true]at Lm
  try simp only[↓pb,An,Ip,Av,Nat.mul_one,D3,ei1,Ab,irN,nrA,nrM,nrE,reduceIte,reduceCtorEq,nrL]at Lm
  have hn12:=Ol.n;have hn02:=Ji.n;try simp only[Ao,A3]at hn12
  replace Ab:=B9p ei2 Lm
  rotate_left
  ·exact Hh
  have hlb:(Xg s a b m i1 (Pb s a b m i1) i2).length=121:=by rw[Xh,R4,hs]
  have hlb2:(Ck (Xg s a b m i1 (Pb s a b m i1) i2)).length=121:=by rw[C3,hlb]
  have hr2:h2.rd (H.n+2)=some (Ck (Xg s a b m i1 (Pb s a b m i1) i2)):=by rw[Bf,Ov];rfl
  repeat'(first|((with_reducible refine hK _ _ fun e2 Aj=>?_);clear hK K;simp only[Vn,Ag,Af,and_true,↓pb,An,Ip,Av,Nat.mul_one,Ab,irN,nrA,nrM,nrE,reduceIte,reduceCtorEq,nrL]at Aj;clear Ab;(try clear eg);have Ab:=Aj;clear Aj;rename Bi=>eg)|((first|((with_reducible first|apply Ac|apply Al|apply Ak);(simp(disch:=try exact dA) only[Bh,Ip,Av,Nat.mul_one,Lm,ei2,hr2,Ov,Ol.rdX,Ep.rdX,Ab,irN,nrA,nrM,nrE,reduceIte,reduceCtorEq,nrL];with_reducible exact rfl))|((with_reducible first|apply Ar|apply As|apply Aq);(focus exact Ee))|(with_reducible first|refine Ai Vn fun K hK=>?_|refine Aw Vn fun K hK=>?_));try simp only[↓pb,↓pd,Bp,Ip,Av,Nat.mul_one,Lm,ei2,hr2,Ov,Ol.rdX,Ep.rdX,Ab,irN,nrA,nrM,nrE,reduceIte,reduceCtorEq,nrL])|((first|((with_reducible first|apply Br|apply Bt|apply Cc|apply Cd);exact rfl)|(with_reducible apply Au));(simp only[↓pb,An,Ip,Av,Nat.mul_one,Lm,ei2,hr2,Ov,Ol.rdX,Ep.rdX,Ab,irN,nrA,nrM,nrE,reduceIte,reduceCtorEq,nrL];with_reducible exact rfl);all_goals(intro hc;(first|exact C8 hc|try simp only[C0]at hc);try((with_reducible first|apply E3|apply Ge);simp only[↓pb,↓pd,Bp,Ip,Av,Nat.mul_one,Lm,ei2,hr2,Ov,Ol.rdX,Ep.rdX,hc,Ab,irN,nrA,nrM,nrE,reduceIte,reduceCtorEq,nrL])))|(with_reducible first|refine Az ?_|refine Ap ?_|refine At ?_|refine Ay ?_|refine Ax ?_|apply Ad)|((with_reducible apply Ae);(focus decide))|fail)
  ·rename_i h5 _ _ _ _
   have q1:mat s i1 a<far:=by assumption
   have q2:mat s b i2<far:=hc
   refine⟨by omega,by simp only[↓pb,An,Ip,Av,Nat.mul_one,Lm,ei2,Ab,irN,nrA,nrM,nrE,reduceIte,reduceCtorEq,nrL];exact congrArg _ (Di (by omega)),by focus exact Bm, ?_⟩
   simp only[↓pb,An,Ip,Av,Nat.mul_one,Ab,irN,nrA,nrM,nrE,reduceIte,reduceCtorEq,nrL]
   rw[R3,Nk,kIn,if_pos ⟨q1,q2⟩]
   rfl
  ·have q2:¬ mat s b i2<far:=hc
   refine⟨by omega,by simp only[↓pb,An,Ip,Av,Nat.mul_one,Lm,ei2,Ab,irN,nrA,nrM,nrE,reduceIte,reduceCtorEq,nrL];exact congrArg _ (Di (by omega)),by focus exact Bm, ?_⟩
   rw[Ov,Nk,kIn,if_neg (fun h=>q2 h.2)]
  ·have q2:¬ mat s i1 a<far:=by assumption
   refine⟨by omega,by simp only[↓pb,An,Ip,Av,Nat.mul_one,Lm,ei2,Ab,irN,nrA,nrM,nrE,reduceIte,reduceCtorEq,nrL];exact congrArg _ (Di (by omega)),by focus exact Bm, ?_⟩
   rw[Ov,Nk,kIn,if_neg (fun h=>q2 h.1)]
  ·have e11:i2=11:=by omega
   subst e11
   refine⟨by omega,by simp only[↓pb,An,Ip,Av,Nat.mul_one,Lm,ei2,Ab,irN,nrA,nrM,nrE,reduceIte,reduceCtorEq,nrL];exact congrArg _ (Di (by omega)),by focus exact Bm, ?_⟩
   rw[Ov,Tm]
 ·have e11:i1=11:=by omega
  subst e11
  have hr1:h1.rd (H.n+2)=some (Ck (Pb s a b m 11)):=by rw[Bf,Hh];rfl
  repeat'(first|((with_reducible refine hK _ _ fun e2 Aj=>?_);clear hK K;simp only[Vn,Ag,Af,and_true,↓pb,An,Ip,Av,Nat.mul_one,Ab,irN,nrA,nrM,nrE,reduceIte,reduceCtorEq,nrL]at Aj;clear Ab;(try clear eg);have Ab:=Aj;clear Aj;rename Bi=>eg)|((first|((with_reducible first|apply Ac|apply Al|apply Ak);(simp(disch:=try exact dA) only[Bh,Ip,Av,Nat.mul_one,D3,ei1,hr1,Ep.rdX,Ab,irN,nrA,nrM,nrE,reduceIte,reduceCtorEq,nrL];with_reducible exact rfl))|((with_reducible first|apply Ar|apply As|apply Aq);(focus exact Ee))|(with_reducible first|refine Ai Vn fun K hK=>?_|refine Aw Vn fun K hK=>?_));try simp only[↓pb,↓pd,Bp,Ip,Av,Nat.mul_one,D3,ei1,hr1,Ep.rdX,Ab,irN,nrA,nrM,nrE,reduceIte,reduceCtorEq,nrL])|((first|((with_reducible first|apply Br|apply Bt|apply Cc|apply Cd);exact rfl)|(with_reducible apply Au));(simp only[↓pb,An,Ip,Av,Nat.mul_one,D3,ei1,hr1,Ep.rdX,Ab,irN,nrA,nrM,nrE,reduceIte,reduceCtorEq,nrL];with_reducible exact rfl);all_goals(intro hc;(first|exact C8 hc|try simp only[C0]at hc);try((with_reducible first|apply E3|apply Ge);simp only[↓pb,↓pd,Bp,Ip,Av,Nat.mul_one,D3,ei1,hr1,Ep.rdX,hc,Ab,irN,nrA,nrM,nrE,reduceIte,reduceCtorEq,nrL])))|(with_reducible first|refine Az ?_|refine Ap ?_|refine At ?_|refine Ay ?_|refine Ax ?_|apply Ad)|((with_reducible apply Ae);(focus decide))|fail)
  refine⟨by first|exact .inl rfl|exact .inr rfl, ?_⟩
  rw[Nd Try.results92]
  simp only[↓pb,An,Ip,Av,Nat.mul_one,Bo,Bg,D3,Ep.rdX,Ab,irN,nrA,nrM,nrE,reduceIte,reduceCtorEq,nrL]
  repeat ((with_reducible apply Ac);(simp(disch:=try exact dA) only[Bh,Ip,Av,Nat.mul_one,D3,Ep.rdX,Ab,irN,nrA,nrM,nrE,reduceIte,reduceCtorEq,nrL];exact rfl))
  rw[hw]
  refine⟨by first|rfl|(simp[*];done), ?_⟩
  try exact Bm
theorem f71 (a b:Int)(H:Aa):∃ v H',C5 (.fn 71) #[iv a,iv b] H v H'∧v=iv (if a<0∨b<a then b else a)∧H'=H:=by
 refine Cl.ofW Try.func71 rfl (by kernel_rfl) (by rw[Try.ntmps71];exact Nat.le_of_ble_eq_true rfl) (by kernel_rfl) ?_
 have Ab:True:=trivial
 refine Jx [0,1] ?_
 intro eg Aj
 simp only[Ag,Af,and_true]at Aj
 try simp only[↓pb,An,A3V,Ab,irN,nrA,nrM,nrE,reduceIte,reduceCtorEq,nrL]at Aj
 replace Ab:=Aj;clear Aj
 repeat'(first|((with_reducible refine hK _ _ fun e2 Aj=>?_);clear hK K;simp only[B5d,Ag,Af,and_true,↓pb,An,A3V,Ab,irN,nrA,nrM,nrE,reduceIte,reduceCtorEq,nrL]at Aj;clear Ab;(try clear eg);have Ab:=Aj;clear Aj;rename Bi=>eg)|((first|((with_reducible first|apply Ac|apply Al|apply Ak);(simp(disch:=try exact dA) only[Bh,A3V,Ab,irN,nrA,nrM,nrE,reduceIte,reduceCtorEq,nrL];with_reducible exact rfl))|(with_reducible first|refine Ai B5d fun K hK=>?_));try simp only[↓pb,↓pd,Bp,A3V,Ab,irN,nrA,nrM,nrE,reduceIte,reduceCtorEq,nrL])|((first|((with_reducible first|apply Br|apply Bt);exact rfl)|(with_reducible apply Au));(simp only[↓pb,An,A3V,Ab,irN,nrA,nrM,nrE,reduceIte,reduceCtorEq,nrL];with_reducible exact rfl);all_goals(intro hc;(first|exact C8 hc|try simp only[C0]at hc);try((with_reducible apply E3);simp only[↓pb,↓pd,Bp,A3V,hc,Ab,irN,nrA,nrM,nrE,reduceIte,reduceCtorEq,nrL])))|(with_reducible first|refine Az ?_|refine At ?_|refine Ay ?_)|fail)
 all_goals(
  refine⟨by first|exact .inl rfl|exact .inr rfl, ?_⟩
  rw[Ec Try.results71]
  simp only[↓pb,An,A3V,Bo,Bg,Ab,irN,nrA,nrM,nrE,reduceIte,reduceCtorEq,nrL]
  repeat ((with_reducible apply Ac);(simp(disch:=try exact dA) only[Bh,A3V,Ab,irN,nrA,nrM,nrE,reduceIte,reduceCtorEq,nrL];exact rfl)))
 all_goals simp[*]
theorem f57 (s:E1)(vm:Value)(m:On)(H:Aa)(hT:C1 H)(h1:m.tips<11)(h2:m.takes<11)(ho:one vm) :
  ∃ v H',C5 (.fn 57) #[.agg ⟨Ck s.1 ++ [vm]⟩,.agg ⟨Cq m⟩] H v H'∧v=iv (Dz (0-s.mat m.tips m.takes))∧Fr H.n [] H H':=by
 have hl:(Ck s.1).length=121:=by rw[C3,s.2]
 have hl1:=s.2
 have hg:∀ i,i<121→(Ck s.1 ++ [vm])[i]? = some (iv (s.1.getD i 0)):=fun i hi=>by rw[List.getElem?_append_left (by omega),Av (by omega)]
 refine Cl.ofW Try.func57 rfl (by kernel_rfl) (by rw[Try.ntmps57];exact Nat.le_of_ble_eq_true rfl) (by kernel_rfl) ?_
 have Ab:True:=trivial
 refine Jx [0,1] ?_
 intro eg Aj
 simp only[Ag,Af,and_true]at Aj
 try simp only[↓pb,An,A72,Cq,hg,Nat.mul_one,Ab,irN,nrA,nrM,nrE,reduceIte,reduceCtorEq,nrL]at Aj
 replace Ab:=Aj;clear Aj
 repeat'(first|((with_reducible refine hK _ _ fun e2 Aj=>?_);clear hK K;simp only[B3I,Ag,Af,and_true,↓pb,An,A72,Cq,hg,Nat.mul_one,Ab,irN,nrA,nrM,nrE,reduceIte,reduceCtorEq,nrL]at Aj;clear Ab;(try clear eg);have Ab:=Aj;clear Aj;rename Bi=>eg)|((first|((with_reducible first|apply Ac|apply Al|apply Ak);(simp(disch:=try exact dA) only[Bh,A72,Cq,hg,Nat.mul_one,Ab,irN,nrA,nrM,nrE,reduceIte,reduceCtorEq,nrL];with_reducible exact rfl))|((with_reducible first|apply Ar|apply As|apply Aq);(focus exact Ee))|(with_reducible first|refine Ai B3I fun K hK=>?_|refine Aw B3I fun K hK=>?_));try simp only[↓pb,↓pd,Bp,A72,Cq,hg,Nat.mul_one,Ab,irN,nrA,nrM,nrE,reduceIte,reduceCtorEq,nrL])|(with_reducible first|refine Az ?_|refine Ay ?_)|fail)
 all_goals(
  refine⟨by first|exact .inl rfl|exact .inr rfl, ?_⟩
  rw[Ec Try.results57]
  simp only[↓pb,An,A72,Cq,hg,Nat.mul_one,Bo,Bg,Ab,irN,nrA,nrM,nrE,reduceIte,reduceCtorEq,nrL]
  repeat ((with_reducible apply Ac);(simp(disch:=try exact dA) only[Bh,A72,Cq,hg,Nat.mul_one,Ab,irN,nrA,nrM,nrE,reduceIte,reduceCtorEq,nrL];exact rfl)))
 all_goals(
  refine⟨by first|rfl|(simp[*];done), ?_⟩
  try exact Bm)
theorem f58 (s:E1)(vm:Value)(m:On)(H:Aa)(hT:C1 H)(h1:m.tips<11)(h2:m.takes<11)(ho:one vm) :
  ∃ v H',C5 (.fn 58) #[.agg ⟨Ck s.1 ++ [vm]⟩,.agg ⟨Cq m⟩] H v H'∧v=iv (s.mat m.takes m.tips)∧Fr H.n [] H H':=by
 have hl:(Ck s.1).length=121:=by rw[C3,s.2]
 have hl1:=s.2
 have hg:∀ i,i<121→(Ck s.1 ++ [vm])[i]? = some (iv (s.1.getD i 0)):=fun i hi=>by rw[List.getElem?_append_left (by omega),Av (by omega)]
 refine Cl.ofW Try.func58 rfl (by kernel_rfl) (by rw[Try.ntmps58];exact Nat.le_of_ble_eq_true rfl) (by kernel_rfl) ?_
 have Ab:True:=trivial
 refine Jx [0,1] ?_
 intro eg Aj
 simp only[Ag,Af,and_true]at Aj
 try simp only[↓pb,An,A73,Cq,hg,Nat.mul_one,Ab,irN,nrA,nrM,nrE,reduceIte,reduceCtorEq,nrL]at Aj
 replace Ab:=Aj;clear Aj
 repeat'(first|((with_reducible refine hK _ _ fun e2 Aj=>?_);clear hK K;simp only[B3J,Ag,Af,and_true,↓pb,An,A73,Cq,hg,Nat.mul_one,Ab,irN,nrA,nrM,nrE,reduceIte,reduceCtorEq,nrL]at Aj;clear Ab;(try clear eg);have Ab:=Aj;clear Aj;rename Bi=>eg)|((first|((with_reducible first|apply Ac|apply Al|apply Ak);(simp(disch:=try exact dA) only[Bh,A73,Cq,hg,Nat.mul_one,Ab,irN,nrA,nrM,nrE,reduceIte,reduceCtorEq,nrL];with_reducible exact rfl))|((with_reducible first|apply Ar|apply As|apply Aq);(focus exact Ee))|(with_reducible first|refine Ai B3J fun K hK=>?_|refine Aw B3J fun K hK=>?_));try simp only[↓pb,↓pd,Bp,A73,Cq,hg,Nat.mul_one,Ab,irN,nrA,nrM,nrE,reduceIte,reduceCtorEq,nrL])|(with_reducible first|refine Az ?_|refine Ay ?_)|fail)
 all_goals(
  refine⟨by first|exact .inl rfl|exact .inr rfl, ?_⟩
  rw[Ec Try.results58]
  simp only[↓pb,An,A73,Cq,hg,Nat.mul_one,Bo,Bg,Ab,irN,nrA,nrM,nrE,reduceIte,reduceCtorEq,nrL]
  repeat ((with_reducible apply Ac);(simp(disch:=try exact dA) only[Bh,A73,Cq,hg,Nat.mul_one,Ab,irN,nrA,nrM,nrE,reduceIte,reduceCtorEq,nrL];exact rfl)))
 all_goals(
  refine⟨by first|rfl|(simp[*];done), ?_⟩
  try exact Bm)
def B3g (g:Cv)(spot kind:Nat):Int:=Dz ((Dz (Dz ((g.Sorts.getD kind default).High*(g.Sorts.getD kind default).Dense)*(g.Spots.getD spot default).Area)).tdiv 100)
theorem f78 (va vb vc:Value)(g:Cv)(spot kind:Nat)(H:Aa)(hT:C1 H)(hG:RG H va vb vc g)(h1:spot<g.Spots.length)(h2:kind<g.Sorts.length) :
  ∃ v H',C5 (.fn 78) #[.agg ⟨[va,vb,vc]⟩,iv spot,iv kind] H v H'∧v=iv (B3g g spot kind)∧Fr H.n [] H H':=by
 have l1:=hG.p.lt;have l2:=hG.q.lt
 refine Cl.ofW Try.func78 rfl (by kernel_rfl) (by rw[Try.ntmps78];exact Nat.le_of_ble_eq_true rfl) (by kernel_rfl) ?_
 have Ab:True:=trivial
 refine Jx [0,1,2] ?_
 intro eg Aj
 simp only[Ag,Af,and_true]at Aj
 try simp only[↓pb,An,A74,hG.one,Am hG.p,Bj hG.q,Hw hG.p,Fo hG.q,(hG.p.el Dc rfl),(hG.q.el Cz rfl),G7,Fs,hG.p.rd,hG.q.rd,Ab,irN,nrA,nrM,nrE,reduceIte,reduceCtorEq,nrL]at Aj
 replace Ab:=Aj;clear Aj
 repeat'(first|((with_reducible refine hK _ _ fun e2 Aj=>?_);clear hK K;simp only[B3K,Ag,Af,and_true,↓pb,An,A74,hG.one,Am hG.p,Bj hG.q,Hw hG.p,Fo hG.q,(hG.p.el Dc rfl),(hG.q.el Cz rfl),G7,Fs,hG.p.rd,hG.q.rd,Ab,irN,nrA,nrM,nrE,reduceIte,reduceCtorEq,nrL]at Aj;clear Ab;(try clear eg);have Ab:=Aj;clear Aj;rename Bi=>eg)|((first|((with_reducible first|apply Ac|apply Al|apply Ak);(simp(disch:=try exact dA) only[Bh,A74,hG.one,Am hG.p,Bj hG.q,Hw hG.p,Fo hG.q,(hG.p.el Dc rfl),(hG.q.el Cz rfl),G7,Fs,hG.p.rd,hG.q.rd,Ab,irN,nrA,nrM,nrE,reduceIte,reduceCtorEq,nrL];with_reducible exact rfl))|((with_reducible first|apply Ar|apply As|apply Aq);(focus exact Ee))|(with_reducible first|refine Ai B3K fun K hK=>?_|refine Aw B3K fun K hK=>?_));try simp only[↓pb,↓pd,Bp,A74,hG.one,Am hG.p,Bj hG.q,Hw hG.p,Fo hG.q,(hG.p.el Dc rfl),(hG.q.el Cz rfl),G7,Fs,hG.p.rd,hG.q.rd,Ab,irN,nrA,nrM,nrE,reduceIte,reduceCtorEq,nrL])|(with_reducible first|refine Az ?_|refine Ay ?_)|fail)
 all_goals(
  refine⟨by first|exact .inl rfl|exact .inr rfl, ?_⟩
  rw[Ec Try.results78]
  simp only[↓pb,An,A74,hG.one,Am hG.p,Bj hG.q,Hw hG.p,Fo hG.q,(hG.p.el Dc rfl),(hG.q.el Cz rfl),G7,Fs,hG.p.rd,hG.q.rd,Bo,Bg,Ab,irN,nrA,nrM,nrE,reduceIte,reduceCtorEq,nrL]
  repeat ((with_reducible apply Ac);(simp(disch:=try exact dA) only[Bh,A74,hG.one,Am hG.p,Bj hG.q,Hw hG.p,Fo hG.q,(hG.p.el Dc rfl),(hG.q.el Cz rfl),G7,Fs,hG.p.rd,hG.q.rd,Ab,irN,nrA,nrM,nrE,reduceIte,reduceCtorEq,nrL];exact rfl)))
 all_goals(
  refine⟨by first|rfl|(simp[*];done), ?_⟩
  try exact Bm)
theorem A5n (H:Aa)(hT:C1 H):∃ v H',C5 (.fn 100) #[] H v H'∧v=.agg ⟨Ck A0f.1⟩∧Fr H.n [] H H':=by
 have hz:=Dv 121
 have hz0:zs 121=Ck (Q7 0):=by simp[zs,Ck,Q7]
 refine Cl.ofW Try.func100 rfl (by kernel_rfl) (by rw[Try.ntmps100];exact Nat.le_of_ble_eq_true rfl) (by kernel_rfl) ?_
 have Ab:True:=trivial
 repeat'(first|((with_reducible refine hK _ _ fun e2 Aj=>?_);clear hK K;simp only[Uq,Ag,Af,and_true,↓pb,An,Ic,Nat.mul_one,Ab,irN,nrA,nrM,nrE,reduceIte,reduceCtorEq,nrL]at Aj;clear Ab;(try clear eg);have Ab:=Aj;clear Aj;rename Bi=>eg)|((first|((with_reducible first|apply Ac|apply Al|apply Ak);(simp(disch:=try exact dA) only[Bh,Ic,Nat.mul_one,Ab,irN,nrA,nrM,nrE,reduceIte,reduceCtorEq,nrL];with_reducible exact rfl))|(with_reducible first|refine Ai Uq fun K hK=>?_));try simp only[↓pb,↓pd,Bp,Ic,Nat.mul_one,Ab,irN,nrA,nrM,nrE,reduceIte,reduceCtorEq,nrL])|((with_reducible apply Au);(simp only[↓pb,An,Ic,Nat.mul_one,Ab,irN,nrA,nrM,nrE,reduceIte,reduceCtorEq,nrL];with_reducible exact rfl);all_goals(intro hc;(first|exact C8 hc|try simp only[C0]at hc)))|(with_reducible first|refine Az ?_|refine Ap ?_|refine At ?_|refine Ay ?_|refine Ax ?_|apply Ad)|((with_reducible apply Ae);(focus decide))|fail)
 refine Db [0,1] (by kernel_rfl) 4 (11) (H.n) [H.n+1] [] (fun i e h=>h.get (H.n+1)=.cells (Ck (Q7 i)) 96 .ex) (by simp only[↓pb,An,Ic,Nat.mul_one,Ab,irN,nrA,nrM,nrE,reduceIte,reduceCtorEq,nrL]) (by focus exact Bb) (H0:=H) (by focus exact Bm) (by intro b hb hlt;simp at hb ⊢;try omega) ?_ ?_
 rotate_left
 intro i1 e1 h1 hi1 D3 ei1 Ep D9 Mf Hh
 simp only[Ag,Af,and_true]at D3
 try simp only[↓pb,An,Ic,Nat.mul_one,Ab,irN,nrA,nrM,nrE,reduceIte,reduceCtorEq,nrL]at D3
 have hn11:=Ep.n;have hn01:=D9.n;try simp only[Ao,A3]at hn11
 replace Ab:=B9p ei1 D3
 rotate_left
 ·simp only[↓pb,An,Ic,Nat.mul_one,Ab,irN,nrA,nrM,nrE,reduceIte,reduceCtorEq,nrL]
  rw[hz0]
 have hla:(Q7 i1).length=121:=A3o _
 have hla2:(Ck (Q7 i1)).length=121:=by rw[C3,hla]
 repeat'(first|((with_reducible refine hK _ _ fun e2 Aj=>?_);clear hK K;simp only[Uq,Ag,Af,and_true,↓pb,An,Ic,Nat.mul_one,Ab,irN,nrA,nrM,nrE,reduceIte,reduceCtorEq,nrL]at Aj;clear Ab;(try clear eg);have Ab:=Aj;clear Aj;rename Bi=>eg)|((first|((with_reducible first|apply Ac|apply Al|apply Ak);(simp(disch:=try exact dA) only[Bh,Ic,Nat.mul_one,D3,ei1,Ep.rdX,Ab,irN,nrA,nrM,nrE,reduceIte,reduceCtorEq,nrL];with_reducible exact rfl))|(with_reducible first|refine Ai Uq fun K hK=>?_));try simp only[↓pb,↓pd,Bp,Ic,Nat.mul_one,D3,ei1,Ep.rdX,Ab,irN,nrA,nrM,nrE,reduceIte,reduceCtorEq,nrL])|((with_reducible apply Au);(simp only[↓pb,An,Ic,Nat.mul_one,D3,ei1,Ep.rdX,Ab,irN,nrA,nrM,nrE,reduceIte,reduceCtorEq,nrL];with_reducible exact rfl);all_goals(intro hc;(first|exact C8 hc|try simp only[C0]at hc)))|(with_reducible first|refine Az ?_|refine Ap ?_|refine At ?_|refine Ay ?_|refine Ax ?_|apply Ad)|((with_reducible apply Ae);(focus decide))|fail)
 ·refine Db [0,1,2,4] (by kernel_rfl) 7 (11) (H.n) [H.n+1] [] (fun i e h=>h.get (H.n+1)=.cells (Ck (A3m i1 (Q7 i1) i)) 96 .ex) (by simp only[↓pb,An,Ic,Nat.mul_one,D3,ei1,Ab,irN,nrA,nrM,nrE,reduceIte,reduceCtorEq,nrL]) (by focus exact Bb) (H0:=H) (by focus exact Bm) (by intro b hb hlt;simp at hb ⊢;try omega) ?_ ?_
  rotate_left
  intro i2 e2 h2 hi2 Lm ei2 Ol Ji A30 Ov
  simp only[Ag,Af,and_true]at Lm
  try simp only[↓pb,An,Ic,Nat.mul_one,D3,ei1,Ab,irN,nrA,nrM,nrE,reduceIte,reduceCtorEq,nrL]at Lm
  have hn12:=Ol.n;have hn02:=Ji.n;try simp only[Ao,A3]at hn12
  replace Ab:=B9p ei2 Lm
  rotate_left
  ·exact Hh
  have hlb:(A3m i1 (Q7 i1) i2).length=121:=by rw[A3n,hla]
  have hlb2:(Ck (A3m i1 (Q7 i1) i2)).length=121:=by rw[C3,hlb]
  repeat'(first|((with_reducible refine hK _ _ fun e2 Aj=>?_);clear hK K;simp only[Uq,Ag,Af,and_true,↓pb,An,Ic,Nat.mul_one,Ab,irN,nrA,nrM,nrE,reduceIte,reduceCtorEq,nrL]at Aj;clear Ab;(try clear eg);have Ab:=Aj;clear Aj;rename Bi=>eg)|((first|((with_reducible first|apply Ac|apply Al|apply Ak);(simp(disch:=try exact dA) only[Bh,Ic,Nat.mul_one,Lm,ei2,Ov,Ab,irN,nrA,nrM,nrE,reduceIte,reduceCtorEq,nrL];with_reducible exact rfl))|(with_reducible first|refine Ai Uq fun K hK=>?_));try simp only[↓pb,↓pd,Bp,Ic,Nat.mul_one,Lm,ei2,Ov,Ab,irN,nrA,nrM,nrE,reduceIte,reduceCtorEq,nrL])|((with_reducible apply Au);(simp only[↓pb,An,Ic,Nat.mul_one,Lm,ei2,Ov,Ab,irN,nrA,nrM,nrE,reduceIte,reduceCtorEq,nrL];with_reducible exact rfl);all_goals(intro hc;(first|exact C8 hc|try simp only[C0]at hc)))|(with_reducible first|refine Az ?_|refine Ap ?_|refine At ?_|refine Ay ?_|refine Ax ?_|apply Ad)|((with_reducible apply Ae);(focus decide))|fail)
  ·have q:i1≠i2:=by intro e;exact hc (by rw[e])
   refine⟨by omega,by simp only[↓pb,An,Ic,Nat.mul_one,Lm,ei2,Ab,irN,nrA,nrM,nrE,reduceIte,reduceCtorEq,nrL];exact congrArg _ (Di (by omega)),by focus exact Bm, ?_⟩
   simp only[↓pb,An,Ic,Nat.mul_one,Ab,irN,nrA,nrM,nrE,reduceIte,reduceCtorEq,nrL]
   rw[R3,Tn,bIn,if_pos q]
   rfl
  ·have q:¬ i1≠i2:=by omega
   refine⟨by omega,by simp only[↓pb,An,Ic,Nat.mul_one,Lm,ei2,Ab,irN,nrA,nrM,nrE,reduceIte,reduceCtorEq,nrL];exact congrArg _ (Di (by omega)),by focus exact Bm, ?_⟩
   rw[Ov,Tn,bIn,if_neg q]
  ·have e11:i2=11:=by omega
   subst e11
   refine⟨by omega,by simp only[↓pb,An,Ic,Nat.mul_one,Lm,ei2,Ab,irN,nrA,nrM,nrE,reduceIte,reduceCtorEq,nrL];exact congrArg _ (Di (by omega)),by focus exact Bm, ?_⟩
   rw[Ov,A0e]
 ·have e11:i1=11:=by omega
  subst e11
  have hr1:h1.rd (H.n+1)=some (Ck (Q7 11)):=by rw[Bf,Hh];rfl
  repeat'(first|((with_reducible refine hK _ _ fun e2 Aj=>?_);clear hK K;simp only[Uq,Ag,Af,and_true,↓pb,An,Ic,Nat.mul_one,Ab,irN,nrA,nrM,nrE,reduceIte,reduceCtorEq,nrL]at Aj;clear Ab;(try clear eg);have Ab:=Aj;clear Aj;rename Bi=>eg)|((first|((with_reducible first|apply Ac|apply Al|apply Ak);(simp(disch:=try exact dA) only[Bh,Ic,Nat.mul_one,D3,ei1,hr1,Ep.rdX,Ab,irN,nrA,nrM,nrE,reduceIte,reduceCtorEq,nrL];with_reducible exact rfl))|(with_reducible first|refine Ai Uq fun K hK=>?_));try simp only[↓pb,↓pd,Bp,Ic,Nat.mul_one,D3,ei1,hr1,Ep.rdX,Ab,irN,nrA,nrM,nrE,reduceIte,reduceCtorEq,nrL])|((with_reducible apply Au);(simp only[↓pb,An,Ic,Nat.mul_one,D3,ei1,hr1,Ep.rdX,Ab,irN,nrA,nrM,nrE,reduceIte,reduceCtorEq,nrL];with_reducible exact rfl);all_goals(intro hc;(first|exact C8 hc|try simp only[C0]at hc)))|(with_reducible first|refine Az ?_|refine Ap ?_|refine At ?_|refine Ay ?_|refine Ax ?_|apply Ad)|((with_reducible apply Ae);(focus decide))|fail)
  refine⟨by first|exact .inl rfl|exact .inr rfl, ?_⟩
  rw[Ec Try.results100]
  simp only[↓pb,An,Ic,Nat.mul_one,Bo,Bg,D3,Ep.rdX,Ab,irN,nrA,nrM,nrE,reduceIte,reduceCtorEq,nrL]
  repeat ((with_reducible apply Ac);(simp(disch:=try exact dA) only[Bh,Ic,Nat.mul_one,D3,Ep.rdX,Ab,irN,nrA,nrM,nrE,reduceIte,reduceCtorEq,nrL];exact rfl))
  refine⟨by first|rfl|(simp[A0f, *];done), ?_⟩
  try exact Bm
theorem f55 (s:E1)(vm:Value)(ms:List On)(act:Int)(H:Aa)(hT:C1 H)(S:SR H 4 ms.length vm (ms.flatMap Cq))(h0:0<ms.length)(hm:ms.length<1099511627776) :
  ∃ v H',C5 (.fn 55) #[.agg ⟨Ck s.1 ++ [vm]⟩,iv act] H v H'∧v=.agg ⟨Cq (Ft act (ms.getD 0 default) ms)⟩∧Fr H.n [] H H':=by
 have hl:(Ck s.1).length=121:=by rw[C3,s.2]
 have hg:(Ck s.1 ++ [vm])[121]? = some vm:=by rw[List.getElem?_append_right (by omega),hl];rfl
 have l1:=S.lt
 have e0:Gy vm+0*4=Gy vm:=by omega
 have S0:=(S.el J1 rfl).2.2.1 0 h0
 rw[e0]at S0
 refine Cl.ofW Try.func55 rfl (by kernel_rfl) (by rw[Try.ntmps55];exact Nat.le_of_ble_eq_true rfl) (by kernel_rfl) ?_
 have Ab:True:=trivial
 refine Jx [0,1] ?_
 intro eg Aj
 simp only[Ag,Af,and_true]at Aj
 try simp only[↓pb,An,Mj,S.one,hg,Du S,Dp S,S.rd,Ab,irN,nrA,nrM,nrE,reduceIte,reduceCtorEq,nrL]at Aj
 replace Ab:=Aj;clear Aj
 repeat'(first|((with_reducible refine hK _ _ fun e2 Aj=>?_);clear hK K;simp only[A7d,Ag,Af,and_true,↓pb,An,Mj,S.one,hg,Du S,Dp S,S.rd,Ab,irN,nrA,nrM,nrE,reduceIte,reduceCtorEq,nrL]at Aj;clear Ab;(try clear eg);have Ab:=Aj;clear Aj;rename Bi=>eg)|((first|((with_reducible first|apply Ac|apply Al|apply Ak);(simp(disch:=try exact dA) only[Bh,Mj,S.one,hg,Du S,Dp S,S.rd,S0,Cq,Ab,irN,nrA,nrM,nrE,reduceIte,reduceCtorEq,nrL];with_reducible exact rfl))|(with_reducible first|refine Ai A7d fun K hK=>?_));try simp only[↓pb,↓pd,Bp,Mj,S.one,hg,Du S,Dp S,S.rd,S0,Cq,Ab,irN,nrA,nrM,nrE,reduceIte,reduceCtorEq,nrL])|((with_reducible apply Au);(simp only[↓pb,An,Mj,S.one,hg,Du S,Dp S,S.rd,S0,Cq,Ab,irN,nrA,nrM,nrE,reduceIte,reduceCtorEq,nrL];with_reducible exact rfl);all_goals(intro hc;(first|exact C8 hc|try simp only[C0]at hc)))|(with_reducible first|refine Az ?_|refine Ap ?_|refine At ?_|refine Ay ?_|refine Ax ?_|apply Ad)|((with_reducible apply Ae);(focus decide))|fail)
 refine Db [1,4,5,13,14] (by kernel_rfl) 15 (ms.length) (H.n) [H.n+2] [] (fun i e h=>∃ out,h.get (H.n+2)=.cells (Cq out) 101 .ex∧Ft act (ms.getD 0 default) ms=Ft act out (ms.drop i)) (by simp only[↓pb,An,Mj,S.one,hg,Du S,Dp S,S.rd,Ab,irN,nrA,nrM,nrE,reduceIte,reduceCtorEq,nrL]) (by focus exact Bb) (H0:=H) (by focus exact Bm) (by intro b hb hlt;simp at hb ⊢;try omega) ?_ ?_
 rotate_left
 intro i1 e1 h1 hi1 D3 ei1 Ep D9 Mf Hh
 simp only[Ag,Af,and_true]at D3
 try simp only[↓pb,An,Mj,S.one,hg,Du S,Dp S,S.rd,Ab,irN,nrA,nrM,nrE,reduceIte,reduceCtorEq,nrL]at D3
 have hn11:=Ep.n;have hn01:=D9.n;try simp only[Ao,A3]at hn11
 replace Ab:=B9p ei1 D3
 rotate_left
 ·refine⟨ms.getD 0 default, ?_,rfl⟩
  simp only[↓pb,An,Mj,S.one,hg,Du S,Dp S,S.rd,Ab,irN,nrA,nrM,nrE,reduceIte,reduceCtorEq,nrL]
  rfl
 obtain⟨out,hg1,Hh⟩:=Hh
 have hr1:h1.rd (H.n+2)=some (Cq out):=by rw[Bf,hg1];rfl
 have S1:=S.fr0 D9
 have l2:=S1.lt
 by_cases hi2:i1<ms.length
 ·rw[Ha hi2]at Hh
  repeat'(first|((with_reducible refine hK _ _ fun e2 Aj=>?_);clear hK K;simp only[A7d,Ag,Af,and_true,↓pb,An,Mj,S.one,hg,Du S,Dp S,S.rd,Ab,irN,nrA,nrM,nrE,reduceIte,reduceCtorEq,nrL]at Aj;clear Ab;(try clear eg);have Ab:=Aj;clear Aj;rename Bi=>eg)|((first|((with_reducible first|apply Ac|apply Al|apply Ak);(simp(disch:=try exact dA) only[Bh,Mj,S.one,hg,Du S,Dp S,S.rd,D3,ei1,Dp S1,S1.rd,(S1.el J1 rfl),Cq,hg1,Ab,irN,nrA,nrM,nrE,reduceIte,reduceCtorEq,nrL];with_reducible exact rfl))|(with_reducible first|refine Ai A7d fun K hK=>?_));try simp only[↓pb,↓pd,Bp,Mj,S.one,hg,Du S,Dp S,S.rd,D3,ei1,Dp S1,S1.rd,(S1.el J1 rfl),Cq,hg1,Ab,irN,nrA,nrM,nrE,reduceIte,reduceCtorEq,nrL])|((with_reducible apply Au);(simp only[↓pb,An,Mj,S.one,hg,Du S,Dp S,S.rd,D3,ei1,Dp S1,S1.rd,(S1.el J1 rfl),Cq,hg1,Ab,irN,nrA,nrM,nrE,reduceIte,reduceCtorEq,nrL];with_reducible exact rfl);all_goals(intro hc;(first|exact C8 hc|try simp only[C0]at hc)))|(with_reducible first|refine Az ?_|refine Ap ?_|refine At ?_|refine Ay ?_|refine Ax ?_|apply Ad)|((with_reducible apply Ae);(focus decide))|fail)
  ·refine⟨by omega,by simp only[↓pb,An,Mj,S.one,hg,Du S,Dp S,S.rd,D3,ei1,Ab,irN,nrA,nrM,nrE,reduceIte,reduceCtorEq,nrL];exact congrArg _ (Di (by omega)),by focus exact Bm, ?_⟩
   refine⟨ms.getD i1 default,by simp only[↓pb,An,Mj,S.one,hg,Du S,Dp S,S.rd,Ab,irN,nrA,nrM,nrE,reduceIte,reduceCtorEq,nrL];rfl, ?_⟩
   rw[Hh,Ft,if_pos hc]
  ·refine⟨by omega,by simp only[↓pb,An,Mj,S.one,hg,Du S,Dp S,S.rd,D3,ei1,Ab,irN,nrA,nrM,nrE,reduceIte,reduceCtorEq,nrL];exact congrArg _ (Di (by omega)),by focus exact Bm, ?_⟩
   refine⟨out,by simp(disch:=try exact dA) only[Bh,Mj,S.one,hg,Du S,Dp S,S.rd,Ab,irN,nrA,nrM,nrE,reduceIte,reduceCtorEq,nrL];exact hg1, ?_⟩
   rw[Hh,Ft,if_neg hc]
 ·rw[List.drop_of_length_le (by omega),Ft]at Hh
  repeat'(first|((with_reducible refine hK _ _ fun e2 Aj=>?_);clear hK K;simp only[A7d,Ag,Af,and_true,↓pb,An,Mj,S.one,hg,Du S,Dp S,S.rd,Ab,irN,nrA,nrM,nrE,reduceIte,reduceCtorEq,nrL]at Aj;clear Ab;(try clear eg);have Ab:=Aj;clear Aj;rename Bi=>eg)|((first|((with_reducible first|apply Ac|apply Al|apply Ak);(simp(disch:=try exact dA) only[Bh,Mj,S.one,hg,Du S,Dp S,S.rd,D3,ei1,hr1,Ep.rdX,Cq,Ab,irN,nrA,nrM,nrE,reduceIte,reduceCtorEq,nrL];with_reducible exact rfl))|(with_reducible first|refine Ai A7d fun K hK=>?_));try simp only[↓pb,↓pd,Bp,Mj,S.one,hg,Du S,Dp S,S.rd,D3,ei1,hr1,Ep.rdX,Cq,Ab,irN,nrA,nrM,nrE,reduceIte,reduceCtorEq,nrL])|((with_reducible apply Au);(simp only[↓pb,An,Mj,S.one,hg,Du S,Dp S,S.rd,D3,ei1,hr1,Ep.rdX,Cq,Ab,irN,nrA,nrM,nrE,reduceIte,reduceCtorEq,nrL];with_reducible exact rfl);all_goals(intro hc;(first|exact C8 hc|try simp only[C0]at hc)))|(with_reducible first|refine Az ?_|refine Ap ?_|refine At ?_|refine Ay ?_|refine Ax ?_|apply Ad)|((with_reducible apply Ae);(focus decide))|fail)
  refine⟨by first|exact .inl rfl|exact .inr rfl, ?_⟩
  rw[Ec Try.results55]
  simp only[↓pb,An,Mj,S.one,hg,Du S,Dp S,S.rd,Bo,Bg,D3,Cq,Ab,irN,nrA,nrM,nrE,reduceIte,reduceCtorEq,nrL]
  repeat ((with_reducible apply Ac);(simp(disch:=try exact dA) only[Bh,Mj,S.one,hg,Du S,Dp S,S.rd,D3,Cq,Ab,irN,nrA,nrM,nrE,reduceIte,reduceCtorEq,nrL];exact rfl))
  rw[Hh]
  refine⟨by first|rfl|(simp[*];done), ?_⟩
  try exact Bm
theorem f56 (va vb vc vh:Value)(g:Cv)(hour:Int)(H:Aa)(hT:C1 H)(hG:RG H va vb vc g)(hh:one vh)(hm:g.Acts.length<1099511627776) :
  ∃ v H',C5 (.fn 56) #[.agg ⟨[va,vb,vc,vh]⟩,iv hour] H v H'∧v=iv (B5 hour g.Acts)∧Fr H.n [] H H':=by
 refine Cl.ofW Try.func56 rfl (by kernel_rfl) (by rw[Try.ntmps56];exact Nat.le_of_ble_eq_true rfl) (by kernel_rfl) ?_
 have Ab:True:=trivial
 refine Jx [0,1] ?_
 intro eg Aj
 simp only[Ag,Af,and_true]at Aj
 try simp only[↓pb,An,Me,hG.one,hh,Ah hG.r,Ab,irN,nrA,nrM,nrE,reduceIte,reduceCtorEq,nrL]at Aj
 replace Ab:=Aj;clear Aj
 repeat'(first|((with_reducible refine hK _ _ fun e2 Aj=>?_);clear hK K;simp only[A7e,Ag,Af,and_true,↓pb,An,Me,hG.one,hh,Ah hG.r,Ab,irN,nrA,nrM,nrE,reduceIte,reduceCtorEq,nrL]at Aj;clear Ab;(try clear eg);have Ab:=Aj;clear Aj;rename Bi=>eg)|((first|((with_reducible first|apply Ac|apply Al|apply Ak);(simp(disch:=try exact dA) only[Bh,Me,hG.one,hh,Ah hG.r,Ab,irN,nrA,nrM,nrE,reduceIte,reduceCtorEq,nrL];with_reducible exact rfl))|(with_reducible first|refine Ai A7e fun K hK=>?_));try simp only[↓pb,↓pd,Bp,Me,hG.one,hh,Ah hG.r,Ab,irN,nrA,nrM,nrE,reduceIte,reduceCtorEq,nrL])|((first|((with_reducible first|apply Br|apply Bt);exact rfl)|(with_reducible apply Au));(simp only[↓pb,An,Me,hG.one,hh,Ah hG.r,Ab,irN,nrA,nrM,nrE,reduceIte,reduceCtorEq,nrL];with_reducible exact rfl);all_goals(intro hc;(first|exact C8 hc|try simp only[C0]at hc);try((with_reducible apply E3);simp only[↓pb,↓pd,Bp,Me,hG.one,hh,Ah hG.r,hc,Ab,irN,nrA,nrM,nrE,reduceIte,reduceCtorEq,nrL])))|(with_reducible first|refine Az ?_|refine Ap ?_|refine At ?_|refine Ay ?_|refine Ax ?_|apply Ad)|((with_reducible apply Ae);(focus decide))|fail)
 refine Db [1,2] (by kernel_rfl) 5 (g.Acts.length) (H.n) [] [] (fun i e h=>B5 hour g.Acts=i+B5 hour (g.Acts.drop i)) (by simp only[↓pb,An,Me,hG.one,hh,Ah hG.r,Ab,irN,nrA,nrM,nrE,reduceIte,reduceCtorEq,nrL]) (by focus exact Bb) (H0:=H) (by focus exact Bm) (by intro b hb hlt;simp at hb ⊢;try omega) ?_ ?_
 rotate_left
 intro i1 e1 h1 hi1 D3 ei1 Ep D9 Mf Hh
 simp only[Ag,Af,and_true]at D3
 try simp only[↓pb,An,Me,hG.one,hh,Ah hG.r,Ab,irN,nrA,nrM,nrE,reduceIte,reduceCtorEq,nrL]at D3
 have hn11:=Ep.n;have hn01:=D9.n;try simp only[Ao,A3]at hn11
 replace Ab:=B9p ei1 D3
 rotate_left
 ·simp
 have G:=hG.fr D9
 have l2:=G.r.lt
 by_cases hi2:i1<g.Acts.length
 ·rw[Ha hi2,B5]at Hh
  repeat'(first|((with_reducible refine hK _ _ fun e2 Aj=>?_);clear hK K;simp only[A7e,Ag,Af,and_true,↓pb,An,Me,hG.one,hh,Ah hG.r,Ab,irN,nrA,nrM,nrE,reduceIte,reduceCtorEq,nrL]at Aj;clear Ab;(try clear eg);have Ab:=Aj;clear Aj;rename Bi=>eg)|((first|((with_reducible first|apply Ac|apply Al|apply Ak);(simp(disch:=try exact dA) only[Bh,Me,hG.one,hh,Ah hG.r,D3,ei1,Ep.rd0,Ah G.r,Ce G.r,G.r.rd,(G.r.el Ba rfl),Bn,Ab,irN,nrA,nrM,nrE,reduceIte,reduceCtorEq,nrL];with_reducible exact rfl))|(with_reducible first|refine Ai A7e fun K hK=>?_));try simp only[↓pb,↓pd,Bp,Me,hG.one,hh,Ah hG.r,D3,ei1,Ep.rd0,Ah G.r,Ce G.r,G.r.rd,(G.r.el Ba rfl),Bn,Ab,irN,nrA,nrM,nrE,reduceIte,reduceCtorEq,nrL])|((first|((with_reducible first|apply Br|apply Bt);exact rfl)|(with_reducible apply Au));(simp only[↓pb,An,Me,hG.one,hh,Ah hG.r,D3,ei1,Ep.rd0,Ah G.r,Ce G.r,G.r.rd,(G.r.el Ba rfl),Bn,Ab,irN,nrA,nrM,nrE,reduceIte,reduceCtorEq,nrL];with_reducible exact rfl);all_goals(intro hc;(first|exact C8 hc|try simp only[C0]at hc);try((with_reducible apply E3);simp only[↓pb,↓pd,Bp,Me,hG.one,hh,Ah hG.r,D3,ei1,Ep.rd0,Ah G.r,Ce G.r,G.r.rd,(G.r.el Ba rfl),Bn,hc,Ab,irN,nrA,nrM,nrE,reduceIte,reduceCtorEq,nrL])))|(with_reducible first|refine Az ?_|refine Ap ?_|refine At ?_|refine Ay ?_|refine Ax ?_|apply Ad)|((with_reducible apply Ae);(focus decide))|fail)
  ·refine⟨by omega,by simp only[↓pb,An,Me,hG.one,hh,Ah hG.r,D3,ei1,Ab,irN,nrA,nrM,nrE,reduceIte,reduceCtorEq,nrL];exact congrArg _ (Di (by omega)),by focus exact Bm, ?_⟩
   rw[Hh,if_pos hc]
   omega
  ·refine⟨by first|exact .inl rfl|exact .inr rfl, ?_⟩
   rw[Ec Try.results56]
   simp only[↓pb,An,Me,hG.one,hh,Ah hG.r,Bo,Bg,D3,Ab,irN,nrA,nrM,nrE,reduceIte,reduceCtorEq,nrL]
   repeat ((with_reducible apply Ac);(simp(disch:=try exact dA) only[Bh,Me,hG.one,hh,Ah hG.r,D3,Ab,irN,nrA,nrM,nrE,reduceIte,reduceCtorEq,nrL];exact rfl))
   rw[Hh,if_neg (by assumption)]
   refine⟨by first|rfl|(simp[*];done), ?_⟩
   try exact Bm
 ·rw[List.drop_of_length_le (by omega),B5]at Hh
  repeat'(first|((with_reducible refine hK _ _ fun e2 Aj=>?_);clear hK K;simp only[A7e,Ag,Af,and_true,↓pb,An,Me,hG.one,hh,Ah hG.r,Ab,irN,nrA,nrM,nrE,reduceIte,reduceCtorEq,nrL]at Aj;clear Ab;(try clear eg);have Ab:=Aj;clear Aj;rename Bi=>eg)|((first|((with_reducible first|apply Ac|apply Al|apply Ak);(simp(disch:=try exact dA) only[Bh,Me,hG.one,hh,Ah hG.r,D3,ei1,Ep.rd0,Ah G.r,Ab,irN,nrA,nrM,nrE,reduceIte,reduceCtorEq,nrL];with_reducible exact rfl))|(with_reducible first|refine Ai A7e fun K hK=>?_));try simp only[↓pb,↓pd,Bp,Me,hG.one,hh,Ah hG.r,D3,ei1,Ep.rd0,Ah G.r,Ab,irN,nrA,nrM,nrE,reduceIte,reduceCtorEq,nrL])|((first|((with_reducible first|apply Br|apply Bt);exact rfl)|(with_reducible apply Au));(simp only[↓pb,An,Me,hG.one,hh,Ah hG.r,D3,ei1,Ep.rd0,Ah G.r,Ab,irN,nrA,nrM,nrE,reduceIte,reduceCtorEq,nrL];with_reducible exact rfl);all_goals(intro hc;(first|exact C8 hc|try simp only[C0]at hc);try((with_reducible apply E3);simp only[↓pb,↓pd,Bp,Me,hG.one,hh,Ah hG.r,D3,ei1,Ep.rd0,Ah G.r,hc,Ab,irN,nrA,nrM,nrE,reduceIte,reduceCtorEq,nrL])))|(with_reducible first|refine Az ?_|refine Ap ?_|refine At ?_|refine Ay ?_|refine Ax ?_|apply Ad)|((with_reducible apply Ae);(focus decide))|fail)
  refine⟨by first|exact .inl rfl|exact .inr rfl, ?_⟩
  rw[Ec Try.results56]
  simp only[↓pb,An,Me,hG.one,hh,Ah hG.r,Bo,Bg,D3,Ab,irN,nrA,nrM,nrE,reduceIte,reduceCtorEq,nrL]
  repeat ((with_reducible apply Ac);(simp(disch:=try exact dA) only[Bh,Me,hG.one,hh,Ah hG.r,D3,Ab,irN,nrA,nrM,nrE,reduceIte,reduceCtorEq,nrL];exact rfl))
  rw[Hh]
  refine⟨by first|rfl|(simp[*];done), ?_⟩
  try exact Bm
theorem B6k (a b:Nat)(ha:a<11)(hb:b<11)(m:Int)(s:E1)(vm:Value)(ok:Bool)(bi bh:Nat)(H:Aa)(hT:C1 H)(h1:H.get bi=.cells [.bool ok] 4 .ex)(h2:H.get bh=.cells (Ck s.1 ++ [vm]) 99 .ex)
  (hi:bi<H.n)(hh:bh<H.n)(hne:bi≠bh)(ho:one vm) :
  ∃ v H',C5 (.fn 101) #[iv a,iv b,iv m,Bc bi 0,Bc bh 0] H v H'∧v=.tuple #[]∧A7a H (fun K=>(K.upd K.n bh (.cells (Ck (In s ok a b m).1.1 ++ [vm]) 99 .ex)).upd K.n bi (.cells [.bool (In s ok a b m).2] 4 .ex)) H':=by
 have hr1:H.rd bi=some [.bool ok]:=by rw[Bf,h1];rfl
 have hr2:H.rd bh=some (Ck s.1 ++ [vm]):=by rw[Bf,h2];rfl
 have hl:(Ck s.1).length=121:=by rw[C3,s.2]
 have hl2:(Ck (Swa.know s.1 a b m).1).length=121:=by rw[C3,Xi,s.2]
 have ho2:=ho
 refine Cl.ofW Try.func101 rfl (by kernel_rfl) (by rw[Try.ntmps101];exact Nat.le_of_ble_eq_true rfl) (by kernel_rfl) ?_
 have Ab:True:=trivial
 refine Jx [0,1,2,3,4] ?_
 intro eg Aj
 simp only[Ag,Af,and_true]at Aj
 try simp only[↓pb,An,Oj,hr1,hr2,h1,h2,hl,hl2,Ie hl,Hd hl2 hl,Int.toNat_natCast,Dh,Ab,irN,nrA,nrM,nrE,reduceIte,reduceCtorEq,nrL]at Aj
 replace Ab:=Aj;clear Aj
 repeat'(first|((with_reducible refine hK _ _ fun e2 Aj=>?_);clear hK K;simp only[B2X,Ag,Af,and_true,↓pb,An,Oj,hr1,hr2,h1,h2,hl,hl2,Ie hl,Hd hl2 hl,Int.toNat_natCast,Dh,Ab,irN,nrA,nrM,nrE,reduceIte,reduceCtorEq,nrL]at Aj;clear Ab;(try clear eg);have Ab:=Aj;clear Aj;rename Bi=>eg)|((first|((with_reducible first|apply Ac|apply Al|apply Ak);(simp(disch:=try exact dA) only[Bh,Oj,hr1,hr2,h1,h2,hl,hl2,Ie hl,Hd hl2 hl,Int.toNat_natCast,Dh,Ab,irN,nrA,nrM,nrE,reduceIte,reduceCtorEq,nrL];with_reducible exact rfl))|((with_reducible apply Bz);(focus exact Bb);(simp only[↓pb,An,Oj,hr1,hr2,h1,h2,hl,hl2,Ie hl,Hd hl2 hl,Int.toNat_natCast,Dh,Ab,irN,nrA,nrM,nrE,reduceIte,reduceCtorEq,nrL];(exact f92 _ s.2 _ _ ha hb _ _ (by exact Bb)));(intro Gq hq Fy;try simp only[Ao,A3]at hq))|(with_reducible first|refine Ai B2X fun K hK=>?_));try simp only[↓pb,↓pd,Bp,Oj,hr1,hr2,h1,h2,hl,hl2,Ie hl,Hd hl2 hl,Int.toNat_natCast,Dh,Ab,irN,nrA,nrM,nrE,reduceIte,reduceCtorEq,nrL])|((with_reducible apply Au);(simp only[↓pb,An,Oj,hr1,hr2,h1,h2,hl,hl2,Ie hl,Hd hl2 hl,Int.toNat_natCast,Dh,Ab,irN,nrA,nrM,nrE,reduceIte,reduceCtorEq,nrL];with_reducible exact rfl);all_goals(intro hc;(first|exact C8 hc|try simp only[C0]at hc)))|(with_reducible first|refine Az ?_|refine At ?_|refine Ay ?_)|fail)
 ·refine⟨by first|exact .inl rfl|exact .inr rfl, ?_⟩
  rw[B3A Try.results101]
  simp only[↓pb,An,Oj,hr1,hr2,h1,h2,hl,hl2,Ie hl,Hd hl2 hl,Int.toNat_natCast,Dh,Bo,Bg,Ab,irN,nrA,nrM,nrE,reduceIte,reduceCtorEq,nrL]
  repeat ((with_reducible apply Ac);(simp(disch:=try exact dA) only[Bh,Oj,hr1,hr2,h1,h2,hl,hl2,Ie hl,Hd hl2 hl,Int.toNat_natCast,Dh,Ab,irN,nrA,nrM,nrE,reduceIte,reduceCtorEq,nrL];exact rfl))
  have e1:In s true a b m=s.know a b m:=rfl
  subst hc
  rw[e1]
  refine A7a.two (by exact Bm) hT ?_ ?_
  ·simp(disch:=try exact dA) only[Bh,Oj,hr1,hr2,h1,h2,hl,hl2,Ie hl,Hd hl2 hl,Int.toNat_natCast,Dh,Ab,irN,nrA,nrM,nrE,reduceIte,reduceCtorEq,nrL]
   rfl
  ·simp(disch:=try exact dA) only[Bh,Oj,hr1,hr2,h1,h2,hl,hl2,Ie hl,Hd hl2 hl,Int.toNat_natCast,Dh,Ab,irN,nrA,nrM,nrE,reduceIte,reduceCtorEq,nrL]
   rfl
 ·refine⟨by first|exact .inl rfl|exact .inr rfl, ?_⟩
  rw[B3A Try.results101]
  simp only[↓pb,An,Oj,hr1,hr2,h1,h2,hl,hl2,Ie hl,Hd hl2 hl,Int.toNat_natCast,Dh,Bo,Bg,Ab,irN,nrA,nrM,nrE,reduceIte,reduceCtorEq,nrL]
  repeat ((with_reducible apply Ac);(simp(disch:=try exact dA) only[Bh,Oj,hr1,hr2,h1,h2,hl,hl2,Ie hl,Hd hl2 hl,Int.toNat_natCast,Dh,Ab,irN,nrA,nrM,nrE,reduceIte,reduceCtorEq,nrL];exact rfl))
  subst hc
  refine A7a.two (Fr.refl H) hT ?_ ?_
  ·rw[h2];rfl
  ·rw[h1];rfl
theorem A3X (va vb vc:Value)(spot:Int)(H:Aa)(ha:one va)(hb:one vb)(hc:one vc):∃ v H',C5 (.fn 102) #[.agg ⟨[va,vb,vc]⟩,iv spot] H v H'∧v=.func (.func 110) #[] #[Bc H.n 0,Bc (H.n+1) 0]∧H'=(H.upd (H.n+1) H.n (.cells [va,vb,vc] 26 .ex)).upd (H.n+2) (H.n+1) (.cells [iv spot] 3 .ex):=by
 refine Cl.ofW Try.func102 rfl (by kernel_rfl) (by rw[Try.ntmps102];exact Nat.le_of_ble_eq_true rfl) (by kernel_rfl) ?_
 have Ab:True:=trivial
 refine Jx [0,1] ?_
 intro eg Aj
 simp only[Ag,Af,and_true]at Aj
 try simp only[↓pb,An,A0D,ha,hb,hc,Ab,irN,nrA,nrM,nrE,reduceIte,reduceCtorEq,nrL]at Aj
 replace Ab:=Aj;clear Aj
 repeat'(first|((with_reducible refine hK _ _ fun e2 Aj=>?_);clear hK K;simp only[B2Y,Ag,Af,and_true,↓pb,An,A0D,ha,hb,hc,Ab,irN,nrA,nrM,nrE,reduceIte,reduceCtorEq,nrL]at Aj;clear Ab;(try clear eg);have Ab:=Aj;clear Aj;rename Bi=>eg)|((first|((with_reducible first|apply Ac|apply Al|apply Ak);(simp(disch:=try exact dA) only[Bh,A0D,ha,hb,hc,Ab,irN,nrA,nrM,nrE,reduceIte,reduceCtorEq,nrL];with_reducible exact rfl))|(with_reducible first|refine Ai B2Y fun K hK=>?_));try simp only[↓pb,↓pd,Bp,A0D,ha,hb,hc,Ab,irN,nrA,nrM,nrE,reduceIte,reduceCtorEq,nrL])|(with_reducible first|refine Az ?_|refine Ay ?_)|fail)
 refine⟨by first|exact .inl rfl|exact .inr rfl, ?_⟩
 rw[Ec Try.results102]
 simp only[↓pb,An,A0D,ha,hb,hc,Bo,Bg,Ab,irN,nrA,nrM,nrE,reduceIte,reduceCtorEq,nrL]
 repeat ((with_reducible apply Ac);(simp(disch:=try exact dA) only[Bh,A0D,ha,hb,hc,Ab,irN,nrA,nrM,nrE,reduceIte,reduceCtorEq,nrL];exact rfl))
theorem B6l (l bg bs:Nat)(va vb vc:Value)(al:List E8)(spot:Int)(H:Aa)(J:Nat→Aa→Prop)(hl:al.length<1099511627776)(hJ0:J 0 H)
  (hrd:∀ i h,J i h→h.rd bg=some [va,vb,vc]∧h.rd bs=some [iv spot]∧bg<h.n∧bs<h.n∧SR h 6 al.length vc (al.flatMap Bn))
  (hnew:∀ i h c,J i h→J i (h.upd (h.n+1) h.n (.cells c 30 .ex)))
  (hskip:∀ i h,i<al.length→(al.getD i default).Spot≠spot→J i h→J (i+1) h)
  (hround:∀ i h,i<al.length→(al.getD i default).Spot=spot→J i h→∃ H',C5 (.yield l) #[iv i,.agg ⟨Bn (al.getD i default)⟩] h (.bool true) H'∧J (i+1) H') :
  ∃ v H',C5 (.fn 110) #[.func (.yield l) #[] #[],Bc bg 0,Bc bs 0] H v H'∧v=.tuple #[]∧J al.length H':=by
 obtain⟨g1,g2,g3,g4,S⟩:=hrd 0 H hJ0
 refine Cl.ofW Try.func110 rfl (by kernel_rfl) (by rw[Try.ntmps110];exact Nat.le_of_ble_eq_true rfl) (by kernel_rfl) ?_
 have Ab:True:=trivial
 refine Jx [0,1,2] ?_
 intro eg Aj
 simp only[Ag,Af,and_true]at Aj
 try simp only[↓pb,An,Is,g1,Ah S,Ab,irN,nrA,nrM,nrE,reduceIte,reduceCtorEq,nrL]at Aj
 replace Ab:=Aj;clear Aj
 repeat'(first|((with_reducible refine hK _ _ fun e2 Aj=>?_);clear hK K;simp only[Zz,Ag,Af,and_true,↓pb,An,Is,g1,Ah S,Ab,irN,nrA,nrM,nrE,reduceIte,reduceCtorEq,nrL]at Aj;clear Ab;(try clear eg);have Ab:=Aj;clear Aj;rename Bi=>eg)|((first|((with_reducible first|apply Ac|apply Al|apply Ak);(simp(disch:=try exact dA) only[Bh,Is,g1,Ah S,Ab,irN,nrA,nrM,nrE,reduceIte,reduceCtorEq,nrL];with_reducible exact rfl))|(with_reducible first|refine Ai Zz fun K hK=>?_));try simp only[↓pb,↓pd,Bp,Is,g1,Ah S,Ab,irN,nrA,nrM,nrE,reduceIte,reduceCtorEq,nrL])|((first|((with_reducible first|apply Br|apply Bt);exact rfl)|(with_reducible apply Au));(simp only[↓pb,An,Is,g1,Ah S,Ab,irN,nrA,nrM,nrE,reduceIte,reduceCtorEq,nrL];with_reducible exact rfl);all_goals(intro hc;(first|exact C8 hc|try simp only[C0]at hc);try((with_reducible apply E3);simp only[↓pb,↓pd,Bp,Is,g1,Ah S,hc,Ab,irN,nrA,nrM,nrE,reduceIte,reduceCtorEq,nrL])))|(with_reducible first|refine Az ?_|refine Ap ?_|refine At ?_|refine Ay ?_|refine Ax ?_|apply Ad)|((with_reducible apply Ae);(focus decide))|fail)
 refine A1p [0,1,2,7,8] (by kernel_rfl) (fun n e h=>∃ i:Nat,i≤al.length∧n=al.length-i∧e 9=iv i∧J i h) al.length ⟨0,Nat.zero_le _,by omega,by simp only[↓pb,An,Is,g1,Ah S,Ab,irN,nrA,nrM,nrE,reduceIte,reduceCtorEq,nrL];rfl,hJ0⟩ ?_
 rintro n e h hE ⟨i,hi,rfl,e9,hJ⟩
 simp only[Ag,Af,and_true]at hE
 simp only[↓pb,An,Is,g1,Ah S,Ab,irN,nrA,nrM,nrE,reduceIte,reduceCtorEq,nrL]at hE
 obtain⟨k1,k2,k3,k4,S1⟩:=hrd i h hJ
 have l1:=S1.lt
 have hn1:=hnew i h (Bn (al.getD i default)) hJ
 repeat'(first|((with_reducible refine hK _ _ fun e2 Aj=>?_);clear hK K;simp only[Zz,Ag,Af,and_true,↓pb,An,Is,g1,Ah S,Ab,irN,nrA,nrM,nrE,reduceIte,reduceCtorEq,nrL]at Aj;clear Ab;(try clear eg);have Ab:=Aj;clear Aj;rename Bi=>eg)|((first|((with_reducible first|apply Ac|apply Al|apply Ak);(simp(disch:=try exact dA) only[Bh,Is,g1,Ah S,hE,e9,Ce S1,S1.rd,(S1.el Ba rfl),Bn,k1,k2,Ab,irN,nrA,nrM,nrE,reduceIte,reduceCtorEq,nrL];with_reducible exact rfl))|(with_reducible first|refine Ai Zz fun K hK=>?_));try simp only[↓pb,↓pd,Bp,Is,g1,Ah S,hE,e9,Ce S1,S1.rd,(S1.el Ba rfl),Bn,k1,k2,Ab,irN,nrA,nrM,nrE,reduceIte,reduceCtorEq,nrL])|((first|((with_reducible first|apply Br|apply Bt);exact rfl)|(with_reducible apply Au));(simp only[↓pb,An,Is,g1,Ah S,hE,e9,Ce S1,S1.rd,(S1.el Ba rfl),Bn,k1,k2,Ab,irN,nrA,nrM,nrE,reduceIte,reduceCtorEq,nrL];with_reducible exact rfl);all_goals(intro hc;(first|exact C8 hc|try simp only[C0]at hc);try((with_reducible apply E3);simp only[↓pb,↓pd,Bp,Is,g1,Ah S,hE,e9,Ce S1,S1.rd,(S1.el Ba rfl),Bn,k1,k2,hc,Ab,irN,nrA,nrM,nrE,reduceIte,reduceCtorEq,nrL])))|(with_reducible first|refine Az ?_|refine Ap ?_|refine At ?_|refine Ay ?_|refine Ax ?_|apply Ad)|((with_reducible apply Ae);(focus decide))|fail)
 ·have hs:(al.getD i default).Spot=spot:=by assumption
  obtain⟨h2,hc2,Ov⟩:=hround i _ (by omega) hs hn1
  have ee:Bn (al.getD i default)=[iv (al.getD i default).Hour,iv spot,iv (al.getD i default).Kind,iv (al.getD i default).Min,iv (al.getD i default).Max,.bool (al.getD i default).Take]:=by rw[Bn,hs]
  rw[ee]at hc2
  refine A2G (R:=fun v H'=>v=.bool true∧H'=h2) ?_ ?_
  ·simp only[↓pb,An,Is,g1,Ah S,Ab,irN,nrA,nrM,nrE,reduceIte,reduceCtorEq,nrL]
   exact⟨_,_,hc2,rfl,rfl⟩
  rintro v H' ⟨rfl,rfl⟩
  simp only[↓pb,↓pd,Bp,Is,g1,Ah S,Ab,irN,nrA,nrM,nrE,reduceIte,reduceCtorEq,nrL]
  repeat'(first|((with_reducible refine hK _ _ fun e2 Aj=>?_);clear hK K;simp only[Zz,Ag,Af,and_true,↓pb,An,Is,g1,Ah S,Ab,irN,nrA,nrM,nrE,reduceIte,reduceCtorEq,nrL]at Aj;clear Ab;(try clear eg);have Ab:=Aj;clear Aj;rename Bi=>eg)|((first|((with_reducible first|apply Ac|apply Al|apply Ak);(simp(disch:=try exact dA) only[Bh,Is,g1,Ah S,e9,Ab,irN,nrA,nrM,nrE,reduceIte,reduceCtorEq,nrL];with_reducible exact rfl))|(with_reducible first|refine Ai Zz fun K hK=>?_));try simp only[↓pb,↓pd,Bp,Is,g1,Ah S,e9,Ab,irN,nrA,nrM,nrE,reduceIte,reduceCtorEq,nrL])|((first|((with_reducible first|apply Br|apply Bt);exact rfl)|(with_reducible apply Au));(simp only[↓pb,An,Is,g1,Ah S,e9,Ab,irN,nrA,nrM,nrE,reduceIte,reduceCtorEq,nrL];with_reducible exact rfl);all_goals(intro hc;(first|exact C8 hc|try simp only[C0]at hc);try((with_reducible apply E3);simp only[↓pb,↓pd,Bp,Is,g1,Ah S,e9,hc,Ab,irN,nrA,nrM,nrE,reduceIte,reduceCtorEq,nrL])))|(with_reducible first|refine Az ?_|refine Ap ?_|refine At ?_|refine Ay ?_|refine Ax ?_|apply Ad)|((with_reducible apply Ae);(focus decide))|fail)
  refine⟨al.length-(i+1),by omega,i+1,by omega,rfl, ?_,Ov⟩
  simp only[↓pb,An,Is,g1,Ah S,e9,Ab,irN,nrA,nrM,nrE,reduceIte,reduceCtorEq,nrL]
  exact congrArg _ (Di (by omega))
 ·refine⟨al.length-(i+1),by omega,i+1,by omega,rfl, ?_,hskip i _ (by omega) (by assumption) hn1⟩
  simp only[↓pb,An,Is,g1,Ah S,e9,Ab,irN,nrA,nrM,nrE,reduceIte,reduceCtorEq,nrL]
  exact congrArg _ (Di (by omega))
 ·have ei:i=al.length:=by omega
  subst ei
  refine⟨by first|exact .inl rfl|exact .inr rfl, ?_⟩
  rw[B3A Try.results110]
  simp only[↓pb,An,Is,g1,Ah S,Bo,Bg,Ab,irN,nrA,nrM,nrE,reduceIte,reduceCtorEq,nrL]
  repeat ((with_reducible apply Ac);(simp(disch:=try exact dA) only[Bh,Is,g1,Ah S,Ab,irN,nrA,nrM,nrE,reduceIte,reduceCtorEq,nrL];exact rfl))
  exact hJ
set_option maxHeartbeats 4000000 in
theorem f83 (va vb vc:Value)(g:Cv)(spot:Int)(H:Aa)(hT:C1 H)(hG:RG H va vb vc g)(hm:g.Acts.length≤10) :
  ∃ v H',C5 (.fn 83) #[.agg ⟨[va,vb,vc]⟩,iv spot] H v H'∧(∃ vm,v=.tuple #[.agg ⟨Mq ((Co g spot).1,vm)⟩,.bool (Co g spot).2]∧SR H' 4 (Co g spot).1.m.length vm ((Co g spot).1.m.flatMap Cq)∧H.n≤C4 vm)∧Fr H.n [] H H':=by
 have hb0:(Ck A0f.1).length=121:=by rw[C3,A0f.2]
 refine Cl.ofW Try.func83 rfl (by kernel_rfl) (by rw[Try.ntmps83];exact Nat.le_of_ble_eq_true rfl) (by kernel_rfl) ?_
 have Ab:True:=trivial
 refine Jx [0,1] ?_
 intro eg Aj
 simp only[Ag,Af,and_true]at Aj
 try simp only[↓pb,An,Dy,hG.one,hb0,Ab,irN,nrA,nrM,nrE,reduceIte,reduceCtorEq,nrL]at Aj
 replace Ab:=Aj;clear Aj
 repeat'(first|((with_reducible refine hK _ _ fun e2 Aj=>?_);clear hK K;simp only[M0,Ag,Af,and_true,↓pb,An,Dy,hG.one,hb0,Ab,irN,nrA,nrM,nrE,reduceIte,reduceCtorEq,nrL]at Aj;clear Ab;(try clear eg);have Ab:=Aj;clear Aj;rename Bi=>eg)|((first|((with_reducible first|apply Ac|apply Al|apply Ak);(simp(disch:=try exact dA) only[Bh,Dy,hG.one,hb0,Ab,irN,nrA,nrM,nrE,reduceIte,reduceCtorEq,nrL];with_reducible exact rfl))|((with_reducible first|apply Ar|apply As|apply Aq);(focus exact Ee))|((with_reducible apply Cp);(simp only[↓pb,An,Dy,hG.one,hb0,Ab,irN,nrA,nrM,nrE,reduceIte,reduceCtorEq,nrL];(exact A3X _ _ _ _ _ hG.one.1 hG.one.2.1 hG.one.2.2)))|((with_reducible apply Bz);(focus(repeat'(first|with_reducible assumption|((with_reducible refine C1.jn ?_ ?_);rotate_left;(focus with_reducible assumption))|((with_reducible refine C1.upd ?_ ?_ ?_ ?_);rotate_left;(focus((try simp only[Ao,A3]);omega));(focus((try simp only[Ao,A3]);omega));(focus first|trivial|apply Qs|apply Qi|apply Qd|exact⟨by((try simp only[Ao,A3]);omega),by((try simp only[Ao,A3]);omega)⟩)))));(simp only[↓pb,An,Dy,hG.one,hb0,Ab,irN,nrA,nrM,nrE,reduceIte,reduceCtorEq,nrL];(exact A5n _ (by(repeat'(first|with_reducible assumption|((with_reducible refine C1.jn ?_ ?_);rotate_left;(focus with_reducible assumption))|((with_reducible refine C1.upd ?_ ?_ ?_ ?_);rotate_left;(focus((try simp only[Ao,A3]);omega));(focus((try simp only[Ao,A3]);omega));(focus first|trivial|apply Qs|apply Qi|apply Qd|exact⟨by((try simp only[Ao,A3]);omega),by((try simp only[Ao,A3]);omega)⟩)))))));(intro Gq hq Fy;try simp only[Ao,A3]at hq))|(with_reducible first|refine Ai M0 fun K hK=>?_|refine Aw M0 fun K hK=>?_));try simp only[↓pb,↓pd,Bp,Dy,hG.one,hb0,Ab,irN,nrA,nrM,nrE,reduceIte,reduceCtorEq,nrL])|((with_reducible apply Au);(simp only[↓pb,An,Dy,hG.one,hb0,Ab,irN,nrA,nrM,nrE,reduceIte,reduceCtorEq,nrL];with_reducible exact rfl);all_goals(intro hc;(first|exact C8 hc|try simp only[C0]at hc)))|(with_reducible first|refine Az ?_|refine Ap ?_|refine At ?_|refine Ay ?_|apply Ad)|((with_reducible apply Ae);(focus decide))|fail)
 obtain⟨G0,hG0⟩:∃ x,x=Gq:=⟨_,rfl⟩
 subst hG0
 refine A2U fun LO hLO Qd=>?_
 simp only[↓pb,An,Dy,hG.one,hb0,Ab,irN,nrA,nrM,nrE,reduceIte,reduceCtorEq,nrL]
 have hmn:∀ x:E8,Swa.one (Value.int .i64 0):=fun _=>A1q
 let J:Nat→Aa→Prop:=fun i h=>∃ (p:Hb) (vm:Value) (gg:Option Nat),Hb.run spot 0 g.Acts Oo=Hb.run spot i (g.Acts.drop i) p∧(p.next≤i∧p.m.tips≤p.next∧p.m.takes≤p.next∧p.ms.length≤i+1∧0<p.ms.length∧p.ms.getD (p.ms.length-1) default=p.m) ∧
  (GS h 4 p.ms.length vm (p.ms.flatMap Cq) gg∧(∀ x,gg=some x→G0.n≤x)∧(C4 vm=G0.n∨G0.n+7<C4 vm)) ∧
  (h.get (G0.n+1)=.cells (Ck p.s.1 ++ [vm]) 99 .ex∧h.get (G0.n+2)=.cells [.bool p.ok] 4 .ex∧h.get (G0.n+3)=.cells [.func (.func 101) #[] #[Bc (G0.n+2) 0,Bc (G0.n+1) 0]] 154 .ex∧h.get (G0.n+4)=.cells [iv p.next] 3 .ex ∧
   h.get (G0.n+5)=.cells [va,vb,vc] 26 .ex∧h.get (G0.n+6)=.cells [iv spot] 3 .ex∧h.get (G0.n+7)=LO)∧h.get (H.n+1)=.cells (zs 121 ++ [.slice none 0 0]) 99 .ex∧G0.n+7<h.n∧Fr H.n [] H h∧C1 h
 have hfin:∀ h,J g.Acts.length h→∃ (p:Hb) (vm:Value),Co g spot=(⟨p.s,p.ms⟩,p.ok)∧SR h 4 p.ms.length vm (p.ms.flatMap Cq)∧(C4 vm=G0.n∨G0.n+7<C4 vm)∧h.get (G0.n+1)=.cells (Ck p.s.1 ++ [vm]) 99 .ex∧h.get (G0.n+2)=.cells [.bool p.ok] 4 .ex∧h.get (H.n+1)=.cells (zs 121 ++ [.slice none 0 0]) 99 .ex∧G0.n+7<h.n∧Fr H.n [] H h∧C1 h:=by
  rintro h ⟨p,vm,gg,e1,_,⟨G,_,kv⟩,⟨k1,k2,_⟩,k6,k3,k4,k5⟩
  refine⟨p,vm, ?_,G.sr,kv,k1,k2,k6,k3,k4,k5⟩
  rw[List.drop_of_length_le (Nat.le_refl _)]at e1
  rw[Co,e1]
  rfl
 suffices hs:∃ v H1,C5 (.fn 110) #[.func (.yield (G0.n+7)) #[] #[],Bc (G0.n+5) 0,Bc (G0.n+6) 0] _ v H1∧v=.tuple #[]∧J g.Acts.length H1 by
  obtain⟨v,H1,c1,rfl,c2⟩:=hs
  have k7:H1.get (G0.n+7)=LO:=by
   obtain⟨p,vm,gg,_,_,_,⟨_,_,_,_,_,_,k7⟩,_⟩:=c2
   exact k7
  refine⟨_,H1,c1,k7,fun LX Qs=>?_⟩
  obtain⟨p,vm,e1,S,kv,k1,k2,k6,k3,k4,k5⟩:=hfin H1 c2
  have hn4:=k4.n
  have k1r:H1.rd (G0.n+1)=some (Ck p.s.1 ++ [vm]):=by rw[Bf,k1];rfl
  have k2r:H1.rd (G0.n+2)=some [.bool p.ok]:=by rw[Bf,k2];rfl
  have ho:=S.one
  have hps:(Ck p.s.1).length=121:=by rw[C3,p.s.2]
  repeat'(first|((with_reducible refine hK _ _ fun e2 Aj=>?_);clear hK K;simp only[M0,Ag,Af,and_true,↓pb,An,Dy,hG.one,hb0,Ab,irN,nrA,nrM,nrE,reduceIte,reduceCtorEq,nrL]at Aj;clear Ab;(try clear eg);have Ab:=Aj;clear Aj;rename Bi=>eg)|((first|((with_reducible first|apply Ac|apply Al|apply Ak);(simp(disch:=try exact dA) only[Bh,Dy,hG.one,hb0,k1r,k2r,k6,Nw,Ab,irN,nrA,nrM,nrE,reduceIte,reduceCtorEq,nrL];with_reducible exact rfl))|((with_reducible first|apply Ar|apply As|apply Aq);(focus exact Ee))|((with_reducible apply Cp);(simp only[↓pb,An,Dy,hG.one,hb0,k1r,k2r,k6,Nw,Ab,irN,nrA,nrM,nrE,reduceIte,reduceCtorEq,nrL];(exact A3X _ _ _ _ _ hG.one.1 hG.one.2.1 hG.one.2.2)))|((with_reducible apply Bz);(focus(repeat'(first|with_reducible assumption|((with_reducible refine C1.jn ?_ ?_);rotate_left;(focus with_reducible assumption))|((with_reducible refine C1.upd ?_ ?_ ?_ ?_);rotate_left;(focus((try simp only[Ao,A3]);omega));(focus((try simp only[Ao,A3]);omega));(focus first|trivial|apply Qs|apply Qi|apply Qd|exact⟨by((try simp only[Ao,A3]);omega),by((try simp only[Ao,A3]);omega)⟩)))));(simp only[↓pb,An,Dy,hG.one,hb0,k1r,k2r,k6,Nw,Ab,irN,nrA,nrM,nrE,reduceIte,reduceCtorEq,nrL];(exact A5n _ (by(repeat'(first|with_reducible assumption|((with_reducible refine C1.jn ?_ ?_);rotate_left;(focus with_reducible assumption))|((with_reducible refine C1.upd ?_ ?_ ?_ ?_);rotate_left;(focus((try simp only[Ao,A3]);omega));(focus((try simp only[Ao,A3]);omega));(focus first|trivial|apply Qs|apply Qi|apply Qd|exact⟨by((try simp only[Ao,A3]);omega),by((try simp only[Ao,A3]);omega)⟩)))))));(intro Gq hq Fy;try simp only[Ao,A3]at hq))|(with_reducible first|refine Ai M0 fun K hK=>?_|refine Aw M0 fun K hK=>?_));try simp only[↓pb,↓pd,Bp,Dy,hG.one,hb0,k1r,k2r,k6,Nw,Ab,irN,nrA,nrM,nrE,reduceIte,reduceCtorEq,nrL])|((with_reducible apply Au);(simp only[↓pb,An,Dy,hG.one,hb0,k1r,k2r,k6,Nw,Ab,irN,nrA,nrM,nrE,reduceIte,reduceCtorEq,nrL];with_reducible exact rfl);all_goals(intro hc;(first|exact C8 hc|try simp only[C0]at hc)))|(with_reducible first|refine Az ?_|refine Ap ?_|refine At ?_|refine Ay ?_|apply Ad)|((with_reducible apply Ae);(focus decide))|fail)
  refine⟨by first|exact .inl rfl|exact .inr rfl, ?_⟩
  rw[Nd Try.results83]
  simp only[↓pb,An,Dy,hG.one,hb0,Bo,Bg,Ab,irN,nrA,nrM,nrE,reduceIte,reduceCtorEq,nrL]
  repeat ((with_reducible apply Ac);(simp(disch:=try exact dA) only[Bh,Dy,hG.one,hb0,Ab,irN,nrA,nrM,nrE,reduceIte,reduceCtorEq,nrL];exact rfl))
  refine⟨⟨vm,by rw[e1];rfl, ?_,by omega⟩,(by(repeat'(first|with_reducible exact Fr.refl _|with_reducible assumption|((with_reducible apply Fr.trans) <;> with_reducible assumption)|((with_reducible refine Fr.jn ?_ ?_ ?_);rotate_left;(focus with_reducible assumption);(focus((try simp only[Ao,A3]);omega)))|((with_reducible refine Fr.upd ?_ ?_ ?_ ?_ ?_);rotate_left;(focus((try simp only[Ao,A3]);omega));(focus((try simp only[Ao,A3]);omega));(focus first|(left;((try simp only[Ao,A3]);omega))|(right;simp;done));(focus first|trivial|apply Qs|apply Qi|apply Qd|exact⟨by((try simp only[Ao,A3]);omega),by((try simp only[Ao,A3]);omega)⟩)))))⟩
  rw[e1]
  refine S.fr (N:=H.n) (X:=[G0.n+7,H.n+1]) (A:=H1) (by(repeat'(first|with_reducible exact Fr.refl _|with_reducible assumption|((with_reducible apply Fr.trans) <;> with_reducible assumption)|((with_reducible refine Fr.jn ?_ ?_ ?_);rotate_left;(focus with_reducible assumption);(focus((try simp only[Ao,A3]);omega)))|((with_reducible refine Fr.upd ?_ ?_ ?_ ?_ ?_);rotate_left;(focus((try simp only[Ao,A3]);omega));(focus((try simp only[Ao,A3]);omega));(focus first|(left;((try simp only[Ao,A3]);omega))|(right;simp;done));(focus first|trivial|apply Qs|apply Qi|apply Qd|exact⟨by((try simp only[Ao,A3]);omega),by((try simp only[Ao,A3]);omega)⟩))))) (.inr (by simp;omega))
 have hmono:∀ i h h',J i h→Fr h.n [] h h'→J i h':=by
  rintro i h h' ⟨p,vm,gg,e1,e2,⟨G,e3,e4⟩,⟨k1,k2,k3,k4,k5,k6,k7⟩,k8,k9,k10,k11⟩ F
  have hn:=k10.n
  have ho:∀ b,b<h.n→h'.get b=h.get b:=fun b hb=>F.old b hb (by simp)
  refine⟨p,vm,gg,e1,e2,⟨G.fr0 F,e3,e4⟩,⟨?_, ?_, ?_, ?_, ?_, ?_, ?_⟩, ?_,Nat.lt_of_lt_of_le k9 F.n,k10.call F hn,F.top k11⟩
  all_goals rw[ho _ (by omega)];assumption
 refine B6l (G0.n+7) (G0.n+5) (G0.n+6) va vb vc g.Acts spot _ J (by omega) ?_ ?_ ?_ ?_ ?_
 ·refine⟨Oo,.slice (some ⟨G0.n,0,none⟩) 1 1,none,by simp,⟨Nat.le_refl _,Nat.le_refl _,Nat.le_refl _,Nat.le_refl _,Nat.lt_succ_self _,rfl⟩,⟨.full rfl ?_ (k:=.ex) (d:=Cq A4M) (T:=101) ?_ (.inl rfl) (Nat.le_refl _) rfl (fun _=>rfl),by simp,.inl rfl⟩,⟨?_, ?_, ?_, ?_, ?_, ?_, ?_⟩, ?_, ?_, ?_, ?_⟩
  all_goals first|(simp only[Ao];omega;done)|(simp(disch:=try exact dA) only[Bh,Dy,hG.one,hb0,Ab,irN,nrA,nrM,nrE,reduceIte,reduceCtorEq,nrL];done)|(simp(disch:=try exact dA) only[Bh,Dy,hG.one,hb0,Ab,irN,nrA,nrM,nrE,reduceIte,reduceCtorEq,nrL];rfl)|skip
  ·(repeat'(first|with_reducible exact Fr.refl _|with_reducible assumption|((with_reducible apply Fr.trans) <;> with_reducible assumption)|((with_reducible refine Fr.jn ?_ ?_ ?_);rotate_left;(focus with_reducible assumption);(focus((try simp only[Ao,A3]);omega)))|((with_reducible refine Fr.upd ?_ ?_ ?_ ?_ ?_);rotate_left;(focus((try simp only[Ao,A3]);omega));(focus((try simp only[Ao,A3]);omega));(focus first|(left;((try simp only[Ao,A3]);omega))|(right;simp;done));(focus first|trivial|apply Qs|apply Qi|apply Qd|exact⟨by((try simp only[Ao,A3]);omega),by((try simp only[Ao,A3]);omega)⟩))))
  ·(repeat'(first|with_reducible assumption|((with_reducible refine C1.jn ?_ ?_);rotate_left;(focus with_reducible assumption))|((with_reducible refine C1.upd ?_ ?_ ?_ ?_);rotate_left;(focus((try simp only[Ao,A3]);omega));(focus((try simp only[Ao,A3]);omega));(focus first|trivial|apply Qs|apply Qi|apply Qd|exact⟨by((try simp only[Ao,A3]);omega),by((try simp only[Ao,A3]);omega)⟩))))
 ·rintro i h ⟨p,vm,gg,e1,e2,⟨G,e3,e4⟩,⟨k1,k2,k3,k4,k5,k6,k7⟩,k8,k9,k10,k11⟩
  refine⟨by rw[Bf,k5];rfl,by rw[Bf,k6];rfl,by omega,by omega,(hG.fr k10).r⟩
 ·intro i h c hJ
  exact hmono i h _ hJ Fr.ex
 ·rintro i h hi hs ⟨p,vm,gg,e1,⟨e2,e5⟩,er⟩
  rw[Ha hi,Hb.run,if_neg hs]at e1
  exact⟨p,vm,gg,e1,⟨by omega,e5.1,e5.2.1,by omega,e5.2.2.2⟩,er⟩
 ·rintro i h hi hs ⟨p,vm,gg,e1,⟨e2,e3,e4,e5,e6,e7⟩,⟨G,g2,g3⟩,⟨k1,k2,k3,k4,k5,k6,k7⟩,k8,k9,k10,k11⟩
  rw[Ha hi,Hb.run,if_pos hs]at e1
  generalize ha:g.Acts.getD i default=a at *
  have hw:IntKind.i64.wrap ((p.next:Int)+1)=((p.next+1:Nat):Int):=Di (by omega)
  have hw2:IntKind.i64.wrap ((p.ms.length:Int)-1)=((p.ms.length-1:Nat):Int):=by rw[H4 (by omega) (by omega)];omega
  have hq2:=Fy.n
  have hn0:=k10.n
  have ho:=G.one
  have hps:(Ck p.s.1).length=121:=by rw[C3,p.s.2]
  have l1:=G.sr.lt
  have r1:h.rd (G0.n+1)=some (Ck p.s.1 ++ [vm]):=by rw[Bf,k1];rfl
  have r2:h.rd (G0.n+2)=some [.bool p.ok]:=by rw[Bf,k2];rfl
  have r3:h.rd (G0.n+3)=some [.func (.func 101) #[] #[Bc (G0.n+2) 0,Bc (G0.n+1) 0]]:=by rw[Bf,k3];rfl
  have r4:h.rd (G0.n+4)=some [iv p.next]:=by rw[Bf,k4];rfl
  have he:Swa.atN (Yl h vm) (Gy vm+(p.ms.length-1)*4) 4=some (.agg ⟨Cq p.m⟩):=by rw[(G.sr.el J1 rfl).2.2.1 _ (by omega),e7]
  refine A2V hLO k7 rfl (by kernel_rfl) (by kernel_rfl) (by kernel_rfl) (by kernel_rfl) (by kernel_rfl) ?_
  rw[Zw]
  repeat'(first|((with_reducible refine hK _ _ fun e2 Aj=>?_);clear hK K;simp only[M0,Ag,Af,and_true,↓pb,An,Dy,hG.one,hb0,Ab,irN,nrA,nrM,nrE,reduceIte,reduceCtorEq,nrL]at Aj;clear Ab;(try clear eg);have Ab:=Aj;clear Aj;rename Bi=>eg)|((first|((with_reducible first|apply Ac|apply Al|apply Ak);(simp(disch:=try exact dA) only[Bh,Dy,hG.one,hb0,Bn,Ab,irN,nrA,nrM,nrE,reduceIte,reduceCtorEq,nrL];with_reducible exact rfl))|((with_reducible first|apply Ar|apply As|apply Aq);(focus exact Ee))|((with_reducible apply Cp);(simp only[↓pb,An,Dy,hG.one,hb0,Bn,Ab,irN,nrA,nrM,nrE,reduceIte,reduceCtorEq,nrL];(exact A3X _ _ _ _ _ hG.one.1 hG.one.2.1 hG.one.2.2)))|((with_reducible apply Bz);(focus(repeat'(first|with_reducible assumption|((with_reducible refine C1.jn ?_ ?_);rotate_left;(focus with_reducible assumption))|((with_reducible refine C1.upd ?_ ?_ ?_ ?_);rotate_left;(focus((try simp only[Ao,A3]);omega));(focus((try simp only[Ao,A3]);omega));(focus first|trivial|apply Qs|apply Qi|apply Qd|exact⟨by((try simp only[Ao,A3]);omega),by((try simp only[Ao,A3]);omega)⟩)))));(simp only[↓pb,An,Dy,hG.one,hb0,Bn,Ab,irN,nrA,nrM,nrE,reduceIte,reduceCtorEq,nrL];(exact A5n _ (by(repeat'(first|with_reducible assumption|((with_reducible refine C1.jn ?_ ?_);rotate_left;(focus with_reducible assumption))|((with_reducible refine C1.upd ?_ ?_ ?_ ?_);rotate_left;(focus((try simp only[Ao,A3]);omega));(focus((try simp only[Ao,A3]);omega));(focus first|trivial|apply Qs|apply Qi|apply Qd|exact⟨by((try simp only[Ao,A3]);omega),by((try simp only[Ao,A3]);omega)⟩)))))));(intro Gq hq Fy;try simp only[Ao,A3]at hq))|(with_reducible first|refine Ai M0 fun K hK=>?_|refine Aw M0 fun K hK=>?_));try simp only[↓pb,↓pd,Bp,Dy,hG.one,hb0,Bn,Ab,irN,nrA,nrM,nrE,reduceIte,reduceCtorEq,nrL])|((with_reducible apply Au);(simp only[↓pb,An,Dy,hG.one,hb0,Bn,Ab,irN,nrA,nrM,nrE,reduceIte,reduceCtorEq,nrL];with_reducible exact rfl);all_goals(intro hc;(first|exact C8 hc|try simp only[C0]at hc)))|(with_reducible first|refine Az ?_|refine Ap ?_|refine At ?_|refine Ay ?_|apply Ad)|((with_reducible apply Ae);(focus decide))|fail)
  refine⟨rfl,by simp(disch:=try exact dA) only[Bh,Dy,hG.one,hb0,Ab,irN,nrA,nrM,nrE,reduceIte,reduceCtorEq,nrL];exact k7,fun LB Qi=>?_⟩
  by_cases ht:a.Take=true
  ·repeat'(first|((with_reducible refine hK _ _ fun e2 Aj=>?_);clear hK K;simp only[M0,Ag,Af,and_true,↓pb,An,Dy,hG.one,hb0,Ab,irN,nrA,nrM,nrE,reduceIte,reduceCtorEq,nrL]at Aj;clear Ab;(try clear eg);have Ab:=Aj;clear Aj;rename Bi=>eg)|((first|((with_reducible first|apply Ac|apply Al|apply Ak);(simp(disch:=try exact dA) only[Bh,Dy,hG.one,hb0,Bn,r1,r2,r3,r4,k1,k2,k4,Hu,E2,Hv,Du G.sr,hw,hw2,Dp G.sr,G.sr.rd,he,Cq,ht,Ab,irN,nrA,nrM,nrE,reduceIte,reduceCtorEq,nrL];with_reducible exact rfl))|((with_reducible first|apply Ar|apply As|apply Aq);(focus exact Ee))|((with_reducible apply Cp);(simp only[↓pb,An,Dy,hG.one,hb0,Bn,r1,r2,r3,r4,k1,k2,k4,Hu,E2,Hv,Du G.sr,hw,hw2,Dp G.sr,G.sr.rd,he,Cq,ht,Ab,irN,nrA,nrM,nrE,reduceIte,reduceCtorEq,nrL];(exact A3X _ _ _ _ _ hG.one.1 hG.one.2.1 hG.one.2.2)))|((with_reducible apply A2T);(simp only[↓pb,An,Dy,hG.one,hb0,Bn,r1,r2,r3,r4,k1,k2,k4,Hu,E2,Hv,Du G.sr,hw,hw2,Dp G.sr,G.sr.rd,he,Cq,ht,Ab,irN,nrA,nrM,nrE,reduceIte,reduceCtorEq,nrL];(exact B6k _ _ (by omega) (by omega) _ _ vm _ _ _ _ (by(repeat'(first|with_reducible assumption|((with_reducible refine C1.jn ?_ ?_);rotate_left;(focus with_reducible assumption))|((with_reducible refine C1.upd ?_ ?_ ?_ ?_);rotate_left;(focus((try simp only[Ao,A3]);omega));(focus((try simp only[Ao,A3]);omega));(focus first|trivial|apply Qs|apply Qi|apply Qd|exact⟨by((try simp only[Ao,A3]);omega),by((try simp only[Ao,A3]);omega)⟩))))) (by simp(disch:=try exact dA) only[Bh,Dy,hG.one,hb0,Bn,r1,r2,r3,r4,k1,k2,k4,Hu,E2,Hv,Du G.sr,hw,hw2,Dp G.sr,G.sr.rd,he,Cq,ht,Ab,irN,nrA,nrM,nrE,reduceIte,reduceCtorEq,nrL];rfl) (by simp(disch:=try exact dA) only[Bh,Dy,hG.one,hb0,Bn,r1,r2,r3,r4,k1,k2,k4,Hu,E2,Hv,Du G.sr,hw,hw2,Dp G.sr,G.sr.rd,he,Cq,ht,Ab,irN,nrA,nrM,nrE,reduceIte,reduceCtorEq,nrL];rfl) oA oA oA ho));(intro Gq hq Fy;try simp only[Ao,A3]at hq))|((with_reducible apply Bz);(focus(repeat'(first|with_reducible assumption|((with_reducible refine C1.jn ?_ ?_);rotate_left;(focus with_reducible assumption))|((with_reducible refine C1.upd ?_ ?_ ?_ ?_);rotate_left;(focus((try simp only[Ao,A3]);omega));(focus((try simp only[Ao,A3]);omega));(focus first|trivial|apply Qs|apply Qi|apply Qd|exact⟨by((try simp only[Ao,A3]);omega),by((try simp only[Ao,A3]);omega)⟩)))));(simp only[↓pb,An,Dy,hG.one,hb0,Bn,r1,r2,r3,r4,k1,k2,k4,Hu,E2,Hv,Du G.sr,hw,hw2,Dp G.sr,G.sr.rd,he,Cq,ht,Ab,irN,nrA,nrM,nrE,reduceIte,reduceCtorEq,nrL];(exact A5n _ (by(repeat'(first|with_reducible assumption|((with_reducible refine C1.jn ?_ ?_);rotate_left;(focus with_reducible assumption))|((with_reducible refine C1.upd ?_ ?_ ?_ ?_);rotate_left;(focus((try simp only[Ao,A3]);omega));(focus((try simp only[Ao,A3]);omega));(focus first|trivial|apply Qs|apply Qi|apply Qd|exact⟨by((try simp only[Ao,A3]);omega),by((try simp only[Ao,A3]);omega)⟩)))))));(intro Gq hq Fy;try simp only[Ao,A3]at hq))|(with_reducible first|refine Ai M0 fun K hK=>?_|refine Aw M0 fun K hK=>?_));try simp only[↓pb,↓pd,Bp,Dy,hG.one,hb0,Bn,r1,r2,r3,r4,k1,k2,k4,Hu,E2,Hv,Du G.sr,hw,hw2,Dp G.sr,G.sr.rd,he,Cq,ht,Ab,irN,nrA,nrM,nrE,reduceIte,reduceCtorEq,nrL])|((with_reducible apply Au);(simp only[↓pb,An,Dy,hG.one,hb0,Bn,r1,r2,r3,r4,k1,k2,k4,Hu,E2,Hv,Du G.sr,hw,hw2,Dp G.sr,G.sr.rd,he,Cq,ht,Ab,irN,nrA,nrM,nrE,reduceIte,reduceCtorEq,nrL];with_reducible exact rfl);all_goals(intro hc;(first|exact C8 hc|try simp only[C0]at hc)))|(with_reducible first|refine Az ?_|refine Ap ?_|refine At ?_|refine Ay ?_|apply Ad)|((with_reducible apply Ae);(focus decide))|fail)
   refine B6j (n:=p.ms.length) (m:=1) (c:=p.ms.flatMap Cq) (g:=gg) (GS.ex (G.fr (N:=h.n) (X:=[G0.n+1,G0.n+2,G0.n+4,G0.n+7]) (by(repeat'(first|with_reducible exact Fr.refl _|with_reducible assumption|((with_reducible apply Fr.trans) <;> with_reducible assumption)|((with_reducible refine Fr.jn ?_ ?_ ?_);rotate_left;(focus with_reducible assumption);(focus((try simp only[Ao,A3]);omega)))|((with_reducible refine Fr.upd ?_ ?_ ?_ ?_ ?_);rotate_left;(focus((try simp only[Ao,A3]);omega));(focus((try simp only[Ao,A3]);omega));(focus first|(left;((try simp only[Ao,A3]);omega))|(right;simp;done));(focus first|trivial|apply Qs|apply Qi|apply Qd|exact⟨by((try simp only[Ao,A3]);omega),by((try simp only[Ao,A3]);omega)⟩))))) (fun x hx=>by subst hx;exact G.grp_lt) (by simp;omega))) (SR.new rfl) (by omega) (by omega) (by omega) (by(repeat'(first|with_reducible assumption|((with_reducible refine C1.jn ?_ ?_);rotate_left;(focus with_reducible assumption))|((with_reducible refine C1.upd ?_ ?_ ?_ ?_);rotate_left;(focus((try simp only[Ao,A3]);omega));(focus((try simp only[Ao,A3]);omega));(focus first|trivial|apply Qs|apply Qi|apply Qd|exact⟨by((try simp only[Ao,A3]);omega),by((try simp only[Ao,A3]);omega)⟩))))) fun GG=>?_
   rw[Hb.step_take ht]at e1
   simp only[↓pb,↓pd,Bp,Dy,hG.one,hb0,Bn,r1,r2,r3,r4,k1,k2,k4,Hu,E2,Hv,Du G.sr,hw,hw2,Dp G.sr,G.sr.rd,he,Cq,ht,Ab,irN,nrA,nrM,nrE,reduceIte,reduceCtorEq,nrL]
   repeat'(first|((with_reducible refine hK _ _ fun e2 Aj=>?_);clear hK K;simp only[M0,Ag,Af,and_true,↓pb,An,Dy,hG.one,hb0,Ab,irN,nrA,nrM,nrE,reduceIte,reduceCtorEq,nrL]at Aj;clear Ab;(try clear eg);have Ab:=Aj;clear Aj;rename Bi=>eg)|((first|((with_reducible first|apply Ac|apply Al|apply Ak);(simp(disch:=try exact dA) only[Bh,Dy,hG.one,hb0,Bn,r1,r2,r3,r4,k1,k2,k4,Hu,E2,Hv,Du G.sr,hw,hw2,Dp G.sr,G.sr.rd,he,Cq,ht,Ab,irN,nrA,nrM,nrE,reduceIte,reduceCtorEq,nrL];with_reducible exact rfl))|((with_reducible first|apply Ar|apply As|apply Aq);(focus exact Ee))|((with_reducible apply Cp);(simp only[↓pb,An,Dy,hG.one,hb0,Bn,r1,r2,r3,r4,k1,k2,k4,Hu,E2,Hv,Du G.sr,hw,hw2,Dp G.sr,G.sr.rd,he,Cq,ht,Ab,irN,nrA,nrM,nrE,reduceIte,reduceCtorEq,nrL];(exact A3X _ _ _ _ _ hG.one.1 hG.one.2.1 hG.one.2.2)))|((with_reducible apply Bz);(focus(repeat'(first|with_reducible assumption|((with_reducible refine C1.jn ?_ ?_);rotate_left;(focus with_reducible assumption))|((with_reducible refine C1.upd ?_ ?_ ?_ ?_);rotate_left;(focus((try simp only[Ao,A3]);omega));(focus((try simp only[Ao,A3]);omega));(focus first|trivial|apply Qs|apply Qi|apply Qd|exact⟨by((try simp only[Ao,A3]);omega),by((try simp only[Ao,A3]);omega)⟩)))));(simp only[↓pb,An,Dy,hG.one,hb0,Bn,r1,r2,r3,r4,k1,k2,k4,Hu,E2,Hv,Du G.sr,hw,hw2,Dp G.sr,G.sr.rd,he,Cq,ht,Ab,irN,nrA,nrM,nrE,reduceIte,reduceCtorEq,nrL];(exact A5n _ (by(repeat'(first|with_reducible assumption|((with_reducible refine C1.jn ?_ ?_);rotate_left;(focus with_reducible assumption))|((with_reducible refine C1.upd ?_ ?_ ?_ ?_);rotate_left;(focus((try simp only[Ao,A3]);omega));(focus((try simp only[Ao,A3]);omega));(focus first|trivial|apply Qs|apply Qi|apply Qd|exact⟨by((try simp only[Ao,A3]);omega),by((try simp only[Ao,A3]);omega)⟩)))))));(intro Gq hq Fy;try simp only[Ao,A3]at hq))|(with_reducible first|refine Ai M0 fun K hK=>?_|refine Aw M0 fun K hK=>?_));try simp only[↓pb,↓pd,Bp,Dy,hG.one,hb0,Bn,r1,r2,r3,r4,k1,k2,k4,Hu,E2,Hv,Du G.sr,hw,hw2,Dp G.sr,G.sr.rd,he,Cq,ht,Ab,irN,nrA,nrM,nrE,reduceIte,reduceCtorEq,nrL])|((with_reducible apply Au);(simp only[↓pb,An,Dy,hG.one,hb0,Bn,r1,r2,r3,r4,k1,k2,k4,Hu,E2,Hv,Du G.sr,hw,hw2,Dp G.sr,G.sr.rd,he,Cq,ht,Ab,irN,nrA,nrM,nrE,reduceIte,reduceCtorEq,nrL];with_reducible exact rfl);all_goals(intro hc;(first|exact C8 hc|try simp only[C0]at hc)))|(with_reducible first|refine Az ?_|refine Ap ?_|refine At ?_|refine Ay ?_|apply Ad)|((with_reducible apply Ae);(focus decide))|fail)
   refine⟨rfl,by simp(disch:=try exact dA) only[Bh,Dy,hG.one,hb0,Ab,irN,nrA,nrM,nrE,reduceIte,reduceCtorEq,nrL],_,.slice (some ⟨Gq.n+1,0,none⟩) (p.ms.length+1) (p.ms.length+1),some (gg.getD (Gq.n+1)),e1,⟨by dsimp only;omega,by dsimp only;omega,by dsimp only;omega, ?_, ?_, ?_⟩,⟨?_, ?_, ?_⟩,⟨?_, ?_, ?_, ?_, ?_, ?_, ?_⟩, ?_, ?_, ?_, ?_⟩
   all_goals have hgd1:G0.n≤gg.getD (Gq.n+1):=by cases gg with|none=>(show G0.n≤Gq.n+1;omega)|some gx=>exact g2 _ rfl
   all_goals have hgd2:=GG.grp_lt
   all_goals simp only[Ao,A3]at hgd2
   all_goals simp only[Ao,A3,nb]at GG
   ·show (p.ms ++ [_]).length≤i+1+1
    rw[List.length_append,List.length_singleton]
    omega
   ·show 0<(p.ms ++ [_]).length
    rw[List.length_append,List.length_singleton]
    omega
   ·exact A2W
   ·show GS _ 4 (p.ms ++ [_]).length _ ((p.ms ++ [_]).flatMap Cq) _
    rw[List.flatMap_append,List.length_append]
    exact GG.fr (N:=Gq.n+2) (X:=[G0.n+1,G0.n+7]) (by(repeat'(first|with_reducible exact Fr.refl _|with_reducible assumption|((with_reducible apply Fr.trans) <;> with_reducible assumption)|((with_reducible refine Fr.jn ?_ ?_ ?_);rotate_left;(focus with_reducible assumption);(focus((try simp only[Ao,A3]);omega)))|((with_reducible refine Fr.upd ?_ ?_ ?_ ?_ ?_);rotate_left;(focus((try simp only[Ao,A3]);omega));(focus((try simp only[Ao,A3]);omega));(focus first|(left;((try simp only[Ao,A3]);omega))|(right;simp;done));(focus first|trivial|apply Qs|apply Qi|apply Qd|exact⟨by((try simp only[Ao,A3]);omega),by((try simp only[Ao,A3]);omega)⟩))))) (fun x hx=>by have:=GG.grp_lt;cases hx;exact this) (by show Gq.n+1∉[G0.n+1,G0.n+7];simp only[List.mem_cons,List.not_mem_nil,or_false,not_or];omega)
   ·intro x hx
    cases hx
    cases gg with
    | none=>show G0.n≤Gq.n+1;omega
    | some gx=>exact g2 _ rfl
   ·right
    show G0.n+7<Gq.n+1
    omega
   ·simp(disch:=try exact dA) only[Bh,Dy,hG.one,hb0,Ab,irN,nrA,nrM,nrE,reduceIte,reduceCtorEq,nrL]
    rfl
   ·simp(disch:=try exact dA) only[Bh,Dy,hG.one,hb0,Ab,irN,nrA,nrM,nrE,reduceIte,reduceCtorEq,nrL]
    rfl
   ·simp(disch:=try exact dA) only[Bh,Dy,hG.one,hb0,Ab,irN,nrA,nrM,nrE,reduceIte,reduceCtorEq,nrL]
    exact k3
   ·simp(disch:=try exact dA) only[Bh,Dy,hG.one,hb0,Ab,irN,nrA,nrM,nrE,reduceIte,reduceCtorEq,nrL]
   ·simp(disch:=try exact dA) only[Bh,Dy,hG.one,hb0,Ab,irN,nrA,nrM,nrE,reduceIte,reduceCtorEq,nrL]
    exact k5
   ·simp(disch:=try exact dA) only[Bh,Dy,hG.one,hb0,Ab,irN,nrA,nrM,nrE,reduceIte,reduceCtorEq,nrL]
    exact k6
   ·simp(disch:=try exact dA) only[Bh,Dy,hG.one,hb0,Ab,irN,nrA,nrM,nrE,reduceIte,reduceCtorEq,nrL]
   ·simp(disch:=try exact dA) only[Bh,Dy,hG.one,hb0,Ab,irN,nrA,nrM,nrE,reduceIte,reduceCtorEq,nrL]
    exact k8
   ·simp only[Ao,A3]
    omega
   ·(repeat'(first|with_reducible exact Fr.refl _|with_reducible assumption|((with_reducible apply Fr.trans) <;> with_reducible assumption)|((with_reducible refine Fr.jn ?_ ?_ ?_);rotate_left;(focus with_reducible assumption);(focus((try simp only[Ao,A3]);omega)))|((with_reducible refine Fr.upd ?_ ?_ ?_ ?_ ?_);rotate_left;(focus((try simp only[Ao,A3]);omega));(focus((try simp only[Ao,A3]);omega));(focus first|(left;((try simp only[Ao,A3]);omega))|(right;simp;done));(focus first|trivial|apply Qs|apply Qi|apply Qd|exact⟨by((try simp only[Ao,A3]);omega),by((try simp only[Ao,A3]);omega)⟩))))
   ·(repeat'(first|with_reducible assumption|((with_reducible refine C1.jn ?_ ?_);rotate_left;(focus with_reducible assumption))|((with_reducible refine C1.upd ?_ ?_ ?_ ?_);rotate_left;(focus((try simp only[Ao,A3]);omega));(focus((try simp only[Ao,A3]);omega));(focus first|trivial|apply Qs|apply Qi|apply Qd|exact⟨by((try simp only[Ao,A3]);omega),by((try simp only[Ao,A3]);omega)⟩))))
  ·have hf:a.Take=false:=by simpa using ht
   repeat'(first|((with_reducible refine hK _ _ fun e2 Aj=>?_);clear hK K;simp only[M0,Ag,Af,and_true,↓pb,An,Dy,hG.one,hb0,Ab,irN,nrA,nrM,nrE,reduceIte,reduceCtorEq,nrL]at Aj;clear Ab;(try clear eg);have Ab:=Aj;clear Aj;rename Bi=>eg)|((first|((with_reducible first|apply Ac|apply Al|apply Ak);(simp(disch:=try exact dA) only[Bh,Dy,hG.one,hb0,Bn,r1,r2,r3,r4,k1,k2,k4,Hu,E2,Hv,Du G.sr,hw,hw2,Dp G.sr,G.sr.rd,he,Cq,hf,Ab,irN,nrA,nrM,nrE,reduceIte,reduceCtorEq,nrL];with_reducible exact rfl))|((with_reducible first|apply Ar|apply As|apply Aq);(focus exact Ee))|((with_reducible apply Cp);(simp only[↓pb,An,Dy,hG.one,hb0,Bn,r1,r2,r3,r4,k1,k2,k4,Hu,E2,Hv,Du G.sr,hw,hw2,Dp G.sr,G.sr.rd,he,Cq,hf,Ab,irN,nrA,nrM,nrE,reduceIte,reduceCtorEq,nrL];(exact A3X _ _ _ _ _ hG.one.1 hG.one.2.1 hG.one.2.2)))|((with_reducible apply A2T);(simp only[↓pb,An,Dy,hG.one,hb0,Bn,r1,r2,r3,r4,k1,k2,k4,Hu,E2,Hv,Du G.sr,hw,hw2,Dp G.sr,G.sr.rd,he,Cq,hf,Ab,irN,nrA,nrM,nrE,reduceIte,reduceCtorEq,nrL];(exact B6k _ _ (by omega) (by omega) _ _ vm _ _ _ _ (by(repeat'(first|with_reducible assumption|((with_reducible refine C1.jn ?_ ?_);rotate_left;(focus with_reducible assumption))|((with_reducible refine C1.upd ?_ ?_ ?_ ?_);rotate_left;(focus((try simp only[Ao,A3]);omega));(focus((try simp only[Ao,A3]);omega));(focus first|trivial|apply Qs|apply Qi|apply Qd|exact⟨by((try simp only[Ao,A3]);omega),by((try simp only[Ao,A3]);omega)⟩))))) (by simp(disch:=try exact dA) only[Bh,Dy,hG.one,hb0,Bn,r1,r2,r3,r4,k1,k2,k4,Hu,E2,Hv,Du G.sr,hw,hw2,Dp G.sr,G.sr.rd,he,Cq,hf,Ab,irN,nrA,nrM,nrE,reduceIte,reduceCtorEq,nrL];rfl) (by simp(disch:=try exact dA) only[Bh,Dy,hG.one,hb0,Bn,r1,r2,r3,r4,k1,k2,k4,Hu,E2,Hv,Du G.sr,hw,hw2,Dp G.sr,G.sr.rd,he,Cq,hf,Ab,irN,nrA,nrM,nrE,reduceIte,reduceCtorEq,nrL];rfl) oA oA oA ho));(intro Gq hq Fy;try simp only[Ao,A3]at hq))|((with_reducible apply Bz);(focus(repeat'(first|with_reducible assumption|((with_reducible refine C1.jn ?_ ?_);rotate_left;(focus with_reducible assumption))|((with_reducible refine C1.upd ?_ ?_ ?_ ?_);rotate_left;(focus((try simp only[Ao,A3]);omega));(focus((try simp only[Ao,A3]);omega));(focus first|trivial|apply Qs|apply Qi|apply Qd|exact⟨by((try simp only[Ao,A3]);omega),by((try simp only[Ao,A3]);omega)⟩)))));(simp only[↓pb,An,Dy,hG.one,hb0,Bn,r1,r2,r3,r4,k1,k2,k4,Hu,E2,Hv,Du G.sr,hw,hw2,Dp G.sr,G.sr.rd,he,Cq,hf,Ab,irN,nrA,nrM,nrE,reduceIte,reduceCtorEq,nrL];(exact A5n _ (by(repeat'(first|with_reducible assumption|((with_reducible refine C1.jn ?_ ?_);rotate_left;(focus with_reducible assumption))|((with_reducible refine C1.upd ?_ ?_ ?_ ?_);rotate_left;(focus((try simp only[Ao,A3]);omega));(focus((try simp only[Ao,A3]);omega));(focus first|trivial|apply Qs|apply Qi|apply Qd|exact⟨by((try simp only[Ao,A3]);omega),by((try simp only[Ao,A3]);omega)⟩)))))));(intro Gq hq Fy;try simp only[Ao,A3]at hq))|(with_reducible first|refine Ai M0 fun K hK=>?_|refine Aw M0 fun K hK=>?_));try simp only[↓pb,↓pd,Bp,Dy,hG.one,hb0,Bn,r1,r2,r3,r4,k1,k2,k4,Hu,E2,Hv,Du G.sr,hw,hw2,Dp G.sr,G.sr.rd,he,Cq,hf,Ab,irN,nrA,nrM,nrE,reduceIte,reduceCtorEq,nrL])|((with_reducible apply Au);(simp only[↓pb,An,Dy,hG.one,hb0,Bn,r1,r2,r3,r4,k1,k2,k4,Hu,E2,Hv,Du G.sr,hw,hw2,Dp G.sr,G.sr.rd,he,Cq,hf,Ab,irN,nrA,nrM,nrE,reduceIte,reduceCtorEq,nrL];with_reducible exact rfl);all_goals(intro hc;(first|exact C8 hc|try simp only[C0]at hc)))|(with_reducible first|refine Az ?_|refine Ap ?_|refine At ?_|refine Ay ?_|apply Ad)|((with_reducible apply Ae);(focus decide))|fail)
   refine B6j (n:=p.ms.length) (m:=1) (c:=p.ms.flatMap Cq) (g:=gg) (GS.ex (G.fr (N:=h.n) (X:=[G0.n+1,G0.n+2,G0.n+4,G0.n+7]) (by(repeat'(first|with_reducible exact Fr.refl _|with_reducible assumption|((with_reducible apply Fr.trans) <;> with_reducible assumption)|((with_reducible refine Fr.jn ?_ ?_ ?_);rotate_left;(focus with_reducible assumption);(focus((try simp only[Ao,A3]);omega)))|((with_reducible refine Fr.upd ?_ ?_ ?_ ?_ ?_);rotate_left;(focus((try simp only[Ao,A3]);omega));(focus((try simp only[Ao,A3]);omega));(focus first|(left;((try simp only[Ao,A3]);omega))|(right;simp;done));(focus first|trivial|apply Qs|apply Qi|apply Qd|exact⟨by((try simp only[Ao,A3]);omega),by((try simp only[Ao,A3]);omega)⟩))))) (fun x hx=>by subst hx;exact G.grp_lt) (by simp;omega))) (SR.new rfl) (by omega) (by omega) (by omega) (by(repeat'(first|with_reducible assumption|((with_reducible refine C1.jn ?_ ?_);rotate_left;(focus with_reducible assumption))|((with_reducible refine C1.upd ?_ ?_ ?_ ?_);rotate_left;(focus((try simp only[Ao,A3]);omega));(focus((try simp only[Ao,A3]);omega));(focus first|trivial|apply Qs|apply Qi|apply Qd|exact⟨by((try simp only[Ao,A3]);omega),by((try simp only[Ao,A3]);omega)⟩))))) fun GG=>?_
   rw[Hb.step_tip ht]at e1
   simp only[↓pb,↓pd,Bp,Dy,hG.one,hb0,Bn,r1,r2,r3,r4,k1,k2,k4,Hu,E2,Hv,Du G.sr,hw,hw2,Dp G.sr,G.sr.rd,he,Cq,hf,Ab,irN,nrA,nrM,nrE,reduceIte,reduceCtorEq,nrL]
   repeat'(first|((with_reducible refine hK _ _ fun e2 Aj=>?_);clear hK K;simp only[M0,Ag,Af,and_true,↓pb,An,Dy,hG.one,hb0,Ab,irN,nrA,nrM,nrE,reduceIte,reduceCtorEq,nrL]at Aj;clear Ab;(try clear eg);have Ab:=Aj;clear Aj;rename Bi=>eg)|((first|((with_reducible first|apply Ac|apply Al|apply Ak);(simp(disch:=try exact dA) only[Bh,Dy,hG.one,hb0,Bn,r1,r2,r3,r4,k1,k2,k4,Hu,E2,Hv,Du G.sr,hw,hw2,Dp G.sr,G.sr.rd,he,Cq,hf,Ab,irN,nrA,nrM,nrE,reduceIte,reduceCtorEq,nrL];with_reducible exact rfl))|((with_reducible first|apply Ar|apply As|apply Aq);(focus exact Ee))|((with_reducible apply Cp);(simp only[↓pb,An,Dy,hG.one,hb0,Bn,r1,r2,r3,r4,k1,k2,k4,Hu,E2,Hv,Du G.sr,hw,hw2,Dp G.sr,G.sr.rd,he,Cq,hf,Ab,irN,nrA,nrM,nrE,reduceIte,reduceCtorEq,nrL];(exact A3X _ _ _ _ _ hG.one.1 hG.one.2.1 hG.one.2.2)))|((with_reducible apply Bz);(focus(repeat'(first|with_reducible assumption|((with_reducible refine C1.jn ?_ ?_);rotate_left;(focus with_reducible assumption))|((with_reducible refine C1.upd ?_ ?_ ?_ ?_);rotate_left;(focus((try simp only[Ao,A3]);omega));(focus((try simp only[Ao,A3]);omega));(focus first|trivial|apply Qs|apply Qi|apply Qd|exact⟨by((try simp only[Ao,A3]);omega),by((try simp only[Ao,A3]);omega)⟩)))));(simp only[↓pb,An,Dy,hG.one,hb0,Bn,r1,r2,r3,r4,k1,k2,k4,Hu,E2,Hv,Du G.sr,hw,hw2,Dp G.sr,G.sr.rd,he,Cq,hf,Ab,irN,nrA,nrM,nrE,reduceIte,reduceCtorEq,nrL];(exact A5n _ (by(repeat'(first|with_reducible assumption|((with_reducible refine C1.jn ?_ ?_);rotate_left;(focus with_reducible assumption))|((with_reducible refine C1.upd ?_ ?_ ?_ ?_);rotate_left;(focus((try simp only[Ao,A3]);omega));(focus((try simp only[Ao,A3]);omega));(focus first|trivial|apply Qs|apply Qi|apply Qd|exact⟨by((try simp only[Ao,A3]);omega),by((try simp only[Ao,A3]);omega)⟩)))))));(intro Gq hq Fy;try simp only[Ao,A3]at hq))|(with_reducible first|refine Ai M0 fun K hK=>?_|refine Aw M0 fun K hK=>?_));try simp only[↓pb,↓pd,Bp,Dy,hG.one,hb0,Bn,r1,r2,r3,r4,k1,k2,k4,Hu,E2,Hv,Du G.sr,hw,hw2,Dp G.sr,G.sr.rd,he,Cq,hf,Ab,irN,nrA,nrM,nrE,reduceIte,reduceCtorEq,nrL])|((with_reducible apply Au);(simp only[↓pb,An,Dy,hG.one,hb0,Bn,r1,r2,r3,r4,k1,k2,k4,Hu,E2,Hv,Du G.sr,hw,hw2,Dp G.sr,G.sr.rd,he,Cq,hf,Ab,irN,nrA,nrM,nrE,reduceIte,reduceCtorEq,nrL];with_reducible exact rfl);all_goals(intro hc;(first|exact C8 hc|try simp only[C0]at hc)))|(with_reducible first|refine Az ?_|refine Ap ?_|refine At ?_|refine Ay ?_|apply Ad)|((with_reducible apply Ae);(focus decide))|fail)
   refine⟨rfl,by simp(disch:=try exact dA) only[Bh,Dy,hG.one,hb0,Ab,irN,nrA,nrM,nrE,reduceIte,reduceCtorEq,nrL],_,.slice (some ⟨Gq.n+1,0,none⟩) (p.ms.length+1) (p.ms.length+1),some (gg.getD (Gq.n+1)),e1,⟨by dsimp only;omega,by dsimp only;omega,by dsimp only;omega, ?_, ?_, ?_⟩,⟨?_, ?_, ?_⟩,⟨?_, ?_, ?_, ?_, ?_, ?_, ?_⟩, ?_, ?_, ?_, ?_⟩
   all_goals have hgd1:G0.n≤gg.getD (Gq.n+1):=by cases gg with|none=>(show G0.n≤Gq.n+1;omega)|some gx=>exact g2 _ rfl
   all_goals have hgd2:=GG.grp_lt
   all_goals simp only[Ao,A3]at hgd2
   all_goals simp only[Ao,A3,nb]at GG
   ·show (p.ms ++ [_]).length≤i+1+1
    rw[List.length_append,List.length_singleton]
    omega
   ·show 0<(p.ms ++ [_]).length
    rw[List.length_append,List.length_singleton]
    omega
   ·exact A2W
   ·show GS _ 4 (p.ms ++ [_]).length _ ((p.ms ++ [_]).flatMap Cq) _
    rw[List.flatMap_append,List.length_append]
    exact GG.fr (N:=Gq.n+2) (X:=[G0.n+1,G0.n+7]) (by(repeat'(first|with_reducible exact Fr.refl _|with_reducible assumption|((with_reducible apply Fr.trans) <;> with_reducible assumption)|((with_reducible refine Fr.jn ?_ ?_ ?_);rotate_left;(focus with_reducible assumption);(focus((try simp only[Ao,A3]);omega)))|((with_reducible refine Fr.upd ?_ ?_ ?_ ?_ ?_);rotate_left;(focus((try simp only[Ao,A3]);omega));(focus((try simp only[Ao,A3]);omega));(focus first|(left;((try simp only[Ao,A3]);omega))|(right;simp;done));(focus first|trivial|apply Qs|apply Qi|apply Qd|exact⟨by((try simp only[Ao,A3]);omega),by((try simp only[Ao,A3]);omega)⟩))))) (fun x hx=>by have:=GG.grp_lt;cases hx;exact this) (by show Gq.n+1∉[G0.n+1,G0.n+7];simp only[List.mem_cons,List.not_mem_nil,or_false,not_or];omega)
   ·intro x hx
    cases hx
    cases gg with
    | none=>show G0.n≤Gq.n+1;omega
    | some gx=>exact g2 _ rfl
   ·right
    show G0.n+7<Gq.n+1
    omega
   ·simp(disch:=try exact dA) only[Bh,Dy,hG.one,hb0,Ab,irN,nrA,nrM,nrE,reduceIte,reduceCtorEq,nrL]
    rfl
   ·simp(disch:=try exact dA) only[Bh,Dy,hG.one,hb0,Ab,irN,nrA,nrM,nrE,reduceIte,reduceCtorEq,nrL]
    rfl
   ·simp(disch:=try exact dA) only[Bh,Dy,hG.one,hb0,Ab,irN,nrA,nrM,nrE,reduceIte,reduceCtorEq,nrL]
    exact k3
   ·simp(disch:=try exact dA) only[Bh,Dy,hG.one,hb0,Ab,irN,nrA,nrM,nrE,reduceIte,reduceCtorEq,nrL]
   ·simp(disch:=try exact dA) only[Bh,Dy,hG.one,hb0,Ab,irN,nrA,nrM,nrE,reduceIte,reduceCtorEq,nrL]
    exact k5
   ·simp(disch:=try exact dA) only[Bh,Dy,hG.one,hb0,Ab,irN,nrA,nrM,nrE,reduceIte,reduceCtorEq,nrL]
    exact k6
   ·simp(disch:=try exact dA) only[Bh,Dy,hG.one,hb0,Ab,irN,nrA,nrM,nrE,reduceIte,reduceCtorEq,nrL]
   ·simp(disch:=try exact dA) only[Bh,Dy,hG.one,hb0,Ab,irN,nrA,nrM,nrE,reduceIte,reduceCtorEq,nrL]
    exact k8
   ·simp only[Ao,A3]
    omega
   ·(repeat'(first|with_reducible exact Fr.refl _|with_reducible assumption|((with_reducible apply Fr.trans) <;> with_reducible assumption)|((with_reducible refine Fr.jn ?_ ?_ ?_);rotate_left;(focus with_reducible assumption);(focus((try simp only[Ao,A3]);omega)))|((with_reducible refine Fr.upd ?_ ?_ ?_ ?_ ?_);rotate_left;(focus((try simp only[Ao,A3]);omega));(focus((try simp only[Ao,A3]);omega));(focus first|(left;((try simp only[Ao,A3]);omega))|(right;simp;done));(focus first|trivial|apply Qs|apply Qi|apply Qd|exact⟨by((try simp only[Ao,A3]);omega),by((try simp only[Ao,A3]);omega)⟩))))
   ·(repeat'(first|with_reducible assumption|((with_reducible refine C1.jn ?_ ?_);rotate_left;(focus with_reducible assumption))|((with_reducible refine C1.upd ?_ ?_ ?_ ?_);rotate_left;(focus((try simp only[Ao,A3]);omega));(focus((try simp only[Ao,A3]);omega));(focus first|trivial|apply Qs|apply Qi|apply Qd|exact⟨by((try simp only[Ao,A3]);omega),by((try simp only[Ao,A3]);omega)⟩))))
end Go.Proofs.Swa
