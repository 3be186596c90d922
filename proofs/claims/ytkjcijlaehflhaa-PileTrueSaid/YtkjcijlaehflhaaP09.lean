/- Part 9 of a proof. -/
import Derived.Test.YtkjcijlaehflhaaP08
set_option maxRecDepth 20000
set_option linter.unusedVariables false
set_option linter.unusedSimpArgs false
namespace Go.Proofs.Swa
open Go
open Nat renaming reduceAdd → nrA, reduceMul → nrM, reduceEqDiff → nrE, reduceLT → nrL
open Int renaming reduceToNat → irN
attribute [local congr] WO_congr oV_congr oB_congr oH_congr WD_congr oblO_congr oblA_congr oblR_congr
theorem f71 (a b:Int) (H:AHeap):∃ v H',C5 (.fn 71) #[iv a,iv b] H v H'∧v=iv (if a < 0∨b < a then b else a)∧H'=H:=by
 refine Cl.ofW Try.func71 rfl (by kernel_rfl) (by rw [Try.ntmps71];exact Nat.le_of_ble_eq_true rfl) (by kernel_rfl) ?_
 have hEg:True:=trivial
 refine gcW [0,1] ?_
 intro eg hEn
 simp only [forallC,forallL,and_true] at hEn
 try simp only [↓pb,qbs,tb71,hEg,irN,nrA,nrM,nrE,reduceIte,reduceCtorEq,nrL] at hEn
 replace hEg:=hEn;clear hEn
 repeat' (first|((with_reducible refine hK _ _ fun e2 hEn=>?_);clear hK K;simp only [lv71,forallC,forallL,and_true] at hEn;(try simp only [↓pb,qbs,tb71,hEg,irN,nrA,nrM,nrE,reduceIte,reduceCtorEq,nrL] at hEn);clear hEg;(try clear eg);have hEg:=hEn;clear hEn;rename Env=>eg)|((first|((with_reducible first|apply oV_intro|apply oH_intro|apply oB_intro);(simp (disch:=first|exact dA|fail) only [qcs,tb71,hEg,irN,nrA,nrM,nrE,reduceIte,reduceCtorEq,nrL];with_reducible exact rfl))|(with_reducible first|refine W_regionF lv71 fun K hK=>?_));try simp only [↓pb,↓pd,qds,tb71,hEg,irN,nrA,nrM,nrE,reduceIte,reduceCtorEq,nrL])|((first|((with_reducible first|apply WO_gT|apply WO_gF);exact rfl)|(with_reducible apply W_cond));(simp only [↓pb,qbs,tb71,hEg,irN,nrA,nrM,nrE,reduceIte,reduceCtorEq,nrL];with_reducible exact rfl);all_goals (intro hc;(first|exact hcX hc|try simp only [hcs] at hc);try ((with_reducible apply woI);simp only [↓pb,↓pd,qds,tb71,hc,hEg,irN,nrA,nrM,nrE,reduceIte,reduceCtorEq,nrL])))|(with_reducible first|refine W_seq ?_|refine W_skip ?_|refine W_ret ?_)|fail)
 all_goals (
  refine ⟨by first|exact .inl rfl|exact .inr rfl, ?_⟩
  rw [ret1 Try.results71]
  simp only [↓pb,qbs,tb71,rv_tmp,rv_cell,hEg,irN,nrA,nrM,nrE,reduceIte,reduceCtorEq,nrL]
  repeat ((with_reducible apply oV_intro);(simp (disch:=first|exact dA|fail) only [qcs,tb71,hEg,irN,nrA,nrM,nrE,reduceIte,reduceCtorEq,nrL];exact rfl)))
 all_goals simp [*]
theorem f57 (s:Sums) (vm:Value) (m:Mom) (H:AHeap) (hT:Top H) (h1:m.tips < 11) (h2:m.takes < 11) (ho:one vm) :
  ∃ v H',C5 (.fn 57) #[.agg ⟨ints s.1 ++ [vm]⟩,.agg ⟨eMom m⟩] H v H'∧v=iv (w64 (0 - s.mat m.tips m.takes))∧Fr H.n [] H H':=by
 have hl:(ints s.1).length=121:=by rw [ints_len,s.2]
 have hl1:=s.2
 have hg:∀ i,i < 121→(ints s.1 ++ [vm])[i]? = some (iv (s.1.getD i 0)):=fun i hi=>by rw [List.getElem?_append_left (by omega),ints_at (by omega)]
 refine Cl.ofW Try.func57 rfl (by kernel_rfl) (by rw [Try.ntmps57];exact Nat.le_of_ble_eq_true rfl) (by kernel_rfl) ?_
 have hEg:True:=trivial
 refine gcW [0,1] ?_
 intro eg hEn
 simp only [forallC,forallL,and_true] at hEn
 try simp only [↓pb,qbs,tb57,eMom,hg,Nat.mul_one,hEg,irN,nrA,nrM,nrE,reduceIte,reduceCtorEq,nrL] at hEn
 replace hEg:=hEn;clear hEn
 repeat' (first|((with_reducible refine hK _ _ fun e2 hEn=>?_);clear hK K;simp only [lv57,forallC,forallL,and_true] at hEn;(try simp only [↓pb,qbs,tb57,eMom,hg,Nat.mul_one,hEg,irN,nrA,nrM,nrE,reduceIte,reduceCtorEq,nrL] at hEn);clear hEg;(try clear eg);have hEg:=hEn;clear hEn;rename Env=>eg)|((first|((with_reducible first|apply oV_intro|apply oH_intro|apply oB_intro);(simp (disch:=first|exact dA|fail) only [qcs,tb57,eMom,hg,Nat.mul_one,hEg,irN,nrA,nrM,nrE,reduceIte,reduceCtorEq,nrL];with_reducible exact rfl))|((with_reducible first|apply oblA_and|apply oblR_and|apply oblO_and);(focus exact obA))|(with_reducible first|refine W_regionF lv57 fun K hK=>?_|refine W_drawnF lv57 fun K hK=>?_));try simp only [↓pb,↓pd,qds,tb57,eMom,hg,Nat.mul_one,hEg,irN,nrA,nrM,nrE,reduceIte,reduceCtorEq,nrL])|(with_reducible first|refine W_seq ?_|refine W_ret ?_)|fail)
 all_goals (
  refine ⟨by first|exact .inl rfl|exact .inr rfl, ?_⟩
  rw [ret1 Try.results57]
  simp only [↓pb,qbs,tb57,eMom,hg,Nat.mul_one,rv_tmp,rv_cell,hEg,irN,nrA,nrM,nrE,reduceIte,reduceCtorEq,nrL]
  repeat ((with_reducible apply oV_intro);(simp (disch:=first|exact dA|fail) only [qcs,tb57,eMom,hg,Nat.mul_one,hEg,irN,nrA,nrM,nrE,reduceIte,reduceCtorEq,nrL];exact rfl)))
 all_goals (
  refine ⟨by first|rfl|(simp [*];done), ?_⟩
  try exact frA)
theorem f58 (s:Sums) (vm:Value) (m:Mom) (H:AHeap) (hT:Top H) (h1:m.tips < 11) (h2:m.takes < 11) (ho:one vm) :
  ∃ v H',C5 (.fn 58) #[.agg ⟨ints s.1 ++ [vm]⟩,.agg ⟨eMom m⟩] H v H'∧v=iv (s.mat m.takes m.tips)∧Fr H.n [] H H':=by
 have hl:(ints s.1).length=121:=by rw [ints_len,s.2]
 have hl1:=s.2
 have hg:∀ i,i < 121→(ints s.1 ++ [vm])[i]? = some (iv (s.1.getD i 0)):=fun i hi=>by rw [List.getElem?_append_left (by omega),ints_at (by omega)]
 refine Cl.ofW Try.func58 rfl (by kernel_rfl) (by rw [Try.ntmps58];exact Nat.le_of_ble_eq_true rfl) (by kernel_rfl) ?_
 have hEg:True:=trivial
 refine gcW [0,1] ?_
 intro eg hEn
 simp only [forallC,forallL,and_true] at hEn
 try simp only [↓pb,qbs,tb58,eMom,hg,Nat.mul_one,hEg,irN,nrA,nrM,nrE,reduceIte,reduceCtorEq,nrL] at hEn
 replace hEg:=hEn;clear hEn
 repeat' (first|((with_reducible refine hK _ _ fun e2 hEn=>?_);clear hK K;simp only [lv58,forallC,forallL,and_true] at hEn;(try simp only [↓pb,qbs,tb58,eMom,hg,Nat.mul_one,hEg,irN,nrA,nrM,nrE,reduceIte,reduceCtorEq,nrL] at hEn);clear hEg;(try clear eg);have hEg:=hEn;clear hEn;rename Env=>eg)|((first|((with_reducible first|apply oV_intro|apply oH_intro|apply oB_intro);(simp (disch:=first|exact dA|fail) only [qcs,tb58,eMom,hg,Nat.mul_one,hEg,irN,nrA,nrM,nrE,reduceIte,reduceCtorEq,nrL];with_reducible exact rfl))|((with_reducible first|apply oblA_and|apply oblR_and|apply oblO_and);(focus exact obA))|(with_reducible first|refine W_regionF lv58 fun K hK=>?_|refine W_drawnF lv58 fun K hK=>?_));try simp only [↓pb,↓pd,qds,tb58,eMom,hg,Nat.mul_one,hEg,irN,nrA,nrM,nrE,reduceIte,reduceCtorEq,nrL])|(with_reducible first|refine W_seq ?_|refine W_ret ?_)|fail)
 all_goals (
  refine ⟨by first|exact .inl rfl|exact .inr rfl, ?_⟩
  rw [ret1 Try.results58]
  simp only [↓pb,qbs,tb58,eMom,hg,Nat.mul_one,rv_tmp,rv_cell,hEg,irN,nrA,nrM,nrE,reduceIte,reduceCtorEq,nrL]
  repeat ((with_reducible apply oV_intro);(simp (disch:=first|exact dA|fail) only [qcs,tb58,eMom,hg,Nat.mul_one,hEg,irN,nrA,nrM,nrE,reduceIte,reduceCtorEq,nrL];exact rfl)))
 all_goals (
  refine ⟨by first|rfl|(simp [*];done), ?_⟩
  try exact frA)
def holds (g:Gnd) (spot kind:Nat):Int:=w64 ((w64 (w64 ((g.Sorts.getD kind default).High * (g.Sorts.getD kind default).Dense) * (g.Spots.getD spot default).Area)).tdiv 100)
theorem f78 (va vb vc:Value) (g:Gnd) (spot kind:Nat) (H:AHeap) (hT:Top H) (hG:RG H va vb vc g) (h1:spot < g.Spots.length) (h2:kind < g.Sorts.length) :
  ∃ v H',C5 (.fn 78) #[.agg ⟨[va,vb,vc]⟩,iv spot,iv kind] H v H'∧v=iv (holds g spot kind)∧Fr H.n [] H H':=by
 have l1:=hG.p.lt;have l2:=hG.q.lt
 refine Cl.ofW Try.func78 rfl (by kernel_rfl) (by rw [Try.ntmps78];exact Nat.le_of_ble_eq_true rfl) (by kernel_rfl) ?_
 have hEg:True:=trivial
 refine gcW [0,1,2] ?_
 intro eg hEn
 simp only [forallC,forallL,and_true] at hEn
 try simp only [↓pb,qbs,tb78,hG.one,lns22 hG.p,lns23 hG.q,ias22 hG.p,ias23 hG.q,(hG.p.el eSpo_len rfl),(hG.q.el eSrt_len rfl),eSpo,eSrt,hG.p.rd,hG.q.rd,hEg,irN,nrA,nrM,nrE,reduceIte,reduceCtorEq,nrL] at hEn
 replace hEg:=hEn;clear hEn
 repeat' (first|((with_reducible refine hK _ _ fun e2 hEn=>?_);clear hK K;simp only [lv78,forallC,forallL,and_true] at hEn;(try simp only [↓pb,qbs,tb78,hG.one,lns22 hG.p,lns23 hG.q,ias22 hG.p,ias23 hG.q,(hG.p.el eSpo_len rfl),(hG.q.el eSrt_len rfl),eSpo,eSrt,hG.p.rd,hG.q.rd,hEg,irN,nrA,nrM,nrE,reduceIte,reduceCtorEq,nrL] at hEn);clear hEg;(try clear eg);have hEg:=hEn;clear hEn;rename Env=>eg)|((first|((with_reducible first|apply oV_intro|apply oH_intro|apply oB_intro);(simp (disch:=first|exact dA|fail) only [qcs,tb78,hG.one,lns22 hG.p,lns23 hG.q,ias22 hG.p,ias23 hG.q,(hG.p.el eSpo_len rfl),(hG.q.el eSrt_len rfl),eSpo,eSrt,hG.p.rd,hG.q.rd,hEg,irN,nrA,nrM,nrE,reduceIte,reduceCtorEq,nrL];with_reducible exact rfl))|((with_reducible first|apply oblA_and|apply oblR_and|apply oblO_and);(focus exact obA))|(with_reducible first|refine W_regionF lv78 fun K hK=>?_|refine W_drawnF lv78 fun K hK=>?_));try simp only [↓pb,↓pd,qds,tb78,hG.one,lns22 hG.p,lns23 hG.q,ias22 hG.p,ias23 hG.q,(hG.p.el eSpo_len rfl),(hG.q.el eSrt_len rfl),eSpo,eSrt,hG.p.rd,hG.q.rd,hEg,irN,nrA,nrM,nrE,reduceIte,reduceCtorEq,nrL])|(with_reducible first|refine W_seq ?_|refine W_ret ?_)|fail)
 all_goals (
  refine ⟨by first|exact .inl rfl|exact .inr rfl, ?_⟩
  rw [ret1 Try.results78]
  simp only [↓pb,qbs,tb78,hG.one,lns22 hG.p,lns23 hG.q,ias22 hG.p,ias23 hG.q,(hG.p.el eSpo_len rfl),(hG.q.el eSrt_len rfl),eSpo,eSrt,hG.p.rd,hG.q.rd,rv_tmp,rv_cell,hEg,irN,nrA,nrM,nrE,reduceIte,reduceCtorEq,nrL]
  repeat ((with_reducible apply oV_intro);(simp (disch:=first|exact dA|fail) only [qcs,tb78,hG.one,lns22 hG.p,lns23 hG.q,ias22 hG.p,ias23 hG.q,(hG.p.el eSpo_len rfl),(hG.q.el eSrt_len rfl),eSpo,eSrt,hG.p.rd,hG.q.rd,hEg,irN,nrA,nrM,nrE,reduceIte,reduceCtorEq,nrL];exact rfl)))
 all_goals (
  refine ⟨by first|rfl|(simp [*];done), ?_⟩
  try exact frA)
theorem f100 (H:AHeap) (hT:Top H):∃ v H',C5 (.fn 100) #[] H v H'∧v=.agg ⟨ints blank.1⟩∧Fr H.n [] H H':=by
 have hz:=zs_len 121
 have hz0:zs 121=ints (bAll 0):=by simp [zs,ints,bAll]
 refine Cl.ofW Try.func100 rfl (by kernel_rfl) (by rw [Try.ntmps100];exact Nat.le_of_ble_eq_true rfl) (by kernel_rfl) ?_
 have hEg:True:=trivial
 repeat' (first|((with_reducible refine hK _ _ fun e2 hEn=>?_);clear hK K;simp only [lv100,forallC,forallL,and_true] at hEn;(try simp only [↓pb,qbs,tb100,Nat.mul_one,hEg,irN,nrA,nrM,nrE,reduceIte,reduceCtorEq,nrL] at hEn);clear hEg;(try clear eg);have hEg:=hEn;clear hEn;rename Env=>eg)|((first|((with_reducible first|apply oV_intro|apply oH_intro|apply oB_intro);(simp (disch:=first|exact dA|fail) only [qcs,tb100,Nat.mul_one,hEg,irN,nrA,nrM,nrE,reduceIte,reduceCtorEq,nrL];with_reducible exact rfl))|(with_reducible first|refine W_regionF lv100 fun K hK=>?_));try simp only [↓pb,↓pd,qds,tb100,Nat.mul_one,hEg,irN,nrA,nrM,nrE,reduceIte,reduceCtorEq,nrL])|((with_reducible apply W_cond);(simp only [↓pb,qbs,tb100,Nat.mul_one,hEg,irN,nrA,nrM,nrE,reduceIte,reduceCtorEq,nrL];with_reducible exact rfl);all_goals (intro hc;(first|exact hcX hc|try simp only [hcs] at hc)))|(with_reducible first|refine W_seq ?_|refine W_block ?_|refine W_skip ?_|refine W_ret ?_|refine W_exit ?_|apply blockK_exit)|((with_reducible apply blockK_pass);(focus decide))|fail)
 refine W_count [0,1] (by kernel_rfl) 4 (11) (H.n) [H.n + 1] [] (fun i e h=>h.get (H.n + 1)=.cells (ints (bAll i)) 96 .ex) (by simp only [↓pb,qbs,tb100,Nat.mul_one,hEg,irN,nrA,nrM,nrE,reduceIte,reduceCtorEq,nrL]) (by focus exact topA) (H0:=H) (by focus exact frA) (by intro b hb hlt;simp at hb ⊢;try omega) ?_ ?_
 rotate_left
 intro i1 e1 h1 hi1 hE1 ei1 hF1 hF01 hTh1 hJ1
 simp only [forallC,forallL,and_true] at hE1
 try simp only [↓pb,qbs,tb100,Nat.mul_one,hEg,irN,nrA,nrM,nrE,reduceIte,reduceCtorEq,nrL] at hE1
 have hn11:=hF1.n;have hn01:=hF01.n;try simp only [upd_n,jn_n] at hn11
 replace hEg:=And.intro ei1 hE1
 rotate_left
 ·simp only [↓pb,qbs,tb100,Nat.mul_one,hEg,irN,nrA,nrM,nrE,reduceIte,reduceCtorEq,nrL]
  rw [hz0]
 have hla:(bAll i1).length=121:=bAll_len _
 have hla2:(ints (bAll i1)).length=121:=by rw [ints_len,hla]
 repeat' (first|((with_reducible refine hK _ _ fun e2 hEn=>?_);clear hK K;simp only [lv100,forallC,forallL,and_true] at hEn;(try simp only [↓pb,qbs,tb100,Nat.mul_one,hEg,irN,nrA,nrM,nrE,reduceIte,reduceCtorEq,nrL] at hEn);clear hEg;(try clear eg);have hEg:=hEn;clear hEn;rename Env=>eg)|((first|((with_reducible first|apply oV_intro|apply oH_intro|apply oB_intro);(simp (disch:=first|exact dA|fail) only [qcs,tb100,Nat.mul_one,hE1,ei1,hF1.rdX,hEg,irN,nrA,nrM,nrE,reduceIte,reduceCtorEq,nrL];with_reducible exact rfl))|(with_reducible first|refine W_regionF lv100 fun K hK=>?_));try simp only [↓pb,↓pd,qds,tb100,Nat.mul_one,hE1,ei1,hF1.rdX,hEg,irN,nrA,nrM,nrE,reduceIte,reduceCtorEq,nrL])|((with_reducible apply W_cond);(simp only [↓pb,qbs,tb100,Nat.mul_one,hE1,ei1,hF1.rdX,hEg,irN,nrA,nrM,nrE,reduceIte,reduceCtorEq,nrL];with_reducible exact rfl);all_goals (intro hc;(first|exact hcX hc|try simp only [hcs] at hc)))|(with_reducible first|refine W_seq ?_|refine W_block ?_|refine W_skip ?_|refine W_ret ?_|refine W_exit ?_|apply blockK_exit)|((with_reducible apply blockK_pass);(focus decide))|fail)
 ·refine W_count [0,1,2,4] (by kernel_rfl) 7 (11) (H.n) [H.n + 1] [] (fun i e h=>h.get (H.n + 1)=.cells (ints (bRow i1 (bAll i1) i)) 96 .ex) (by simp only [↓pb,qbs,tb100,Nat.mul_one,hE1,ei1,hEg,irN,nrA,nrM,nrE,reduceIte,reduceCtorEq,nrL]) (by focus exact topA) (H0:=H) (by focus exact frA) (by intro b hb hlt;simp at hb ⊢;try omega) ?_ ?_
  rotate_left
  intro i2 e2 h2 hi2 hE2 ei2 hF2 hF02 hTh2 hJ2
  simp only [forallC,forallL,and_true] at hE2
  try simp only [↓pb,qbs,tb100,Nat.mul_one,hE1,ei1,hEg,irN,nrA,nrM,nrE,reduceIte,reduceCtorEq,nrL] at hE2
  have hn12:=hF2.n;have hn02:=hF02.n;try simp only [upd_n,jn_n] at hn12
  replace hEg:=And.intro ei2 hE2
  rotate_left
  ·exact hJ1
  have hlb:(bRow i1 (bAll i1) i2).length=121:=by rw [bRow_len,hla]
  have hlb2:(ints (bRow i1 (bAll i1) i2)).length=121:=by rw [ints_len,hlb]
  repeat' (first|((with_reducible refine hK _ _ fun e2 hEn=>?_);clear hK K;simp only [lv100,forallC,forallL,and_true] at hEn;(try simp only [↓pb,qbs,tb100,Nat.mul_one,hEg,irN,nrA,nrM,nrE,reduceIte,reduceCtorEq,nrL] at hEn);clear hEg;(try clear eg);have hEg:=hEn;clear hEn;rename Env=>eg)|((first|((with_reducible first|apply oV_intro|apply oH_intro|apply oB_intro);(simp (disch:=first|exact dA|fail) only [qcs,tb100,Nat.mul_one,hE2,ei2,hJ2,hEg,irN,nrA,nrM,nrE,reduceIte,reduceCtorEq,nrL];with_reducible exact rfl))|(with_reducible first|refine W_regionF lv100 fun K hK=>?_));try simp only [↓pb,↓pd,qds,tb100,Nat.mul_one,hE2,ei2,hJ2,hEg,irN,nrA,nrM,nrE,reduceIte,reduceCtorEq,nrL])|((with_reducible apply W_cond);(simp only [↓pb,qbs,tb100,Nat.mul_one,hE2,ei2,hJ2,hEg,irN,nrA,nrM,nrE,reduceIte,reduceCtorEq,nrL];with_reducible exact rfl);all_goals (intro hc;(first|exact hcX hc|try simp only [hcs] at hc)))|(with_reducible first|refine W_seq ?_|refine W_block ?_|refine W_skip ?_|refine W_ret ?_|refine W_exit ?_|apply blockK_exit)|((with_reducible apply blockK_pass);(focus decide))|fail)
  ·have q:i1≠i2:=by intro e;exact hc (by rw [e])
   refine ⟨by omega,by simp only [↓pb,qbs,tb100,Nat.mul_one,hE2,ei2,hEg,irN,nrA,nrM,nrE,reduceIte,reduceCtorEq,nrL];exact congrArg _ (inc64 (by omega)),by focus exact frA, ?_⟩
   simp only [↓pb,qbs,tb100,Nat.mul_one,hEg,irN,nrA,nrM,nrE,reduceIte,reduceCtorEq,nrL]
   rw [ints_set,bRow_succ,bIn,if_pos q]
   rfl
  ·have q:¬ i1≠i2:=by omega
   refine ⟨by omega,by simp only [↓pb,qbs,tb100,Nat.mul_one,hE2,ei2,hEg,irN,nrA,nrM,nrE,reduceIte,reduceCtorEq,nrL];exact congrArg _ (inc64 (by omega)),by focus exact frA, ?_⟩
   rw [hJ2,bRow_succ,bIn,if_neg q]
  ·have e11:i2=11:=by omega
   subst e11
   refine ⟨by omega,by simp only [↓pb,qbs,tb100,Nat.mul_one,hE2,ei2,hEg,irN,nrA,nrM,nrE,reduceIte,reduceCtorEq,nrL];exact congrArg _ (inc64 (by omega)),by focus exact frA, ?_⟩
   rw [hJ2,bAll_succ]
 ·have e11:i1=11:=by omega
  subst e11
  have hr1:h1.rd (H.n + 1)=some (ints (bAll 11)):=by rw [rd_def,hJ1];rfl
  repeat' (first|((with_reducible refine hK _ _ fun e2 hEn=>?_);clear hK K;simp only [lv100,forallC,forallL,and_true] at hEn;(try simp only [↓pb,qbs,tb100,Nat.mul_one,hEg,irN,nrA,nrM,nrE,reduceIte,reduceCtorEq,nrL] at hEn);clear hEg;(try clear eg);have hEg:=hEn;clear hEn;rename Env=>eg)|((first|((with_reducible first|apply oV_intro|apply oH_intro|apply oB_intro);(simp (disch:=first|exact dA|fail) only [qcs,tb100,Nat.mul_one,hE1,ei1,hr1,hF1.rdX,hEg,irN,nrA,nrM,nrE,reduceIte,reduceCtorEq,nrL];with_reducible exact rfl))|(with_reducible first|refine W_regionF lv100 fun K hK=>?_));try simp only [↓pb,↓pd,qds,tb100,Nat.mul_one,hE1,ei1,hr1,hF1.rdX,hEg,irN,nrA,nrM,nrE,reduceIte,reduceCtorEq,nrL])|((with_reducible apply W_cond);(simp only [↓pb,qbs,tb100,Nat.mul_one,hE1,ei1,hr1,hF1.rdX,hEg,irN,nrA,nrM,nrE,reduceIte,reduceCtorEq,nrL];with_reducible exact rfl);all_goals (intro hc;(first|exact hcX hc|try simp only [hcs] at hc)))|(with_reducible first|refine W_seq ?_|refine W_block ?_|refine W_skip ?_|refine W_ret ?_|refine W_exit ?_|apply blockK_exit)|((with_reducible apply blockK_pass);(focus decide))|fail)
  refine ⟨by first|exact .inl rfl|exact .inr rfl, ?_⟩
  rw [ret1 Try.results100]
  simp only [↓pb,qbs,tb100,Nat.mul_one,rv_tmp,rv_cell,hE1,hF1.rdX,hEg,irN,nrA,nrM,nrE,reduceIte,reduceCtorEq,nrL]
  repeat ((with_reducible apply oV_intro);(simp (disch:=first|exact dA|fail) only [qcs,tb100,Nat.mul_one,hE1,hF1.rdX,hEg,irN,nrA,nrM,nrE,reduceIte,reduceCtorEq,nrL];exact rfl))
  refine ⟨by first|rfl|(simp [blank, *];done), ?_⟩
  try exact frA
theorem f55 (s:Sums) (vm:Value) (ms:List Mom) (act:Int) (H:AHeap) (hT:Top H) (S:SR H 4 ms.length vm (ms.flatMap eMom)) (h0:0 < ms.length) (hm:ms.length < 1099511627776) :
  ∃ v H',C5 (.fn 55) #[.agg ⟨ints s.1 ++ [vm]⟩,iv act] H v H'∧v=.agg ⟨eMom (beforeL act (ms.getD 0 default) ms)⟩∧Fr H.n [] H H':=by
 have hl:(ints s.1).length=121:=by rw [ints_len,s.2]
 have hg:(ints s.1 ++ [vm])[121]? = some vm:=by rw [List.getElem?_append_right (by omega),hl];rfl
 have l1:=S.lt
 have e0:voff vm + 0 * 4=voff vm:=by omega
 have S0:=(S.el eMom_len rfl).2.2.1 0 h0
 rw [e0] at S0
 refine Cl.ofW Try.func55 rfl (by kernel_rfl) (by rw [Try.ntmps55];exact Nat.le_of_ble_eq_true rfl) (by kernel_rfl) ?_
 have hEg:True:=trivial
 refine gcW [0,1] ?_
 intro eg hEn
 simp only [forallC,forallL,and_true] at hEn
 try simp only [↓pb,qbs,tb55,S.one,hg,lns97 S,ias97 S,S.rd,hEg,irN,nrA,nrM,nrE,reduceIte,reduceCtorEq,nrL] at hEn
 replace hEg:=hEn;clear hEn
 repeat' (first|((with_reducible refine hK _ _ fun e2 hEn=>?_);clear hK K;simp only [lv55,forallC,forallL,and_true] at hEn;(try simp only [↓pb,qbs,tb55,S.one,hg,lns97 S,ias97 S,S.rd,hEg,irN,nrA,nrM,nrE,reduceIte,reduceCtorEq,nrL] at hEn);clear hEg;(try clear eg);have hEg:=hEn;clear hEn;rename Env=>eg)|((first|((with_reducible first|apply oV_intro|apply oH_intro|apply oB_intro);(simp (disch:=first|exact dA|fail) only [qcs,tb55,S.one,hg,lns97 S,ias97 S,S.rd,S0,eMom,hEg,irN,nrA,nrM,nrE,reduceIte,reduceCtorEq,nrL];with_reducible exact rfl))|(with_reducible first|refine W_regionF lv55 fun K hK=>?_));try simp only [↓pb,↓pd,qds,tb55,S.one,hg,lns97 S,ias97 S,S.rd,S0,eMom,hEg,irN,nrA,nrM,nrE,reduceIte,reduceCtorEq,nrL])|((with_reducible apply W_cond);(simp only [↓pb,qbs,tb55,S.one,hg,lns97 S,ias97 S,S.rd,S0,eMom,hEg,irN,nrA,nrM,nrE,reduceIte,reduceCtorEq,nrL];with_reducible exact rfl);all_goals (intro hc;(first|exact hcX hc|try simp only [hcs] at hc)))|(with_reducible first|refine W_seq ?_|refine W_block ?_|refine W_skip ?_|refine W_ret ?_|refine W_exit ?_|apply blockK_exit)|((with_reducible apply blockK_pass);(focus decide))|fail)
 refine W_count [1,4,5,13,14] (by kernel_rfl) 15 (ms.length) (H.n) [H.n + 2] [] (fun i e h=>∃ out,h.get (H.n + 2)=.cells (eMom out) 101 .ex∧beforeL act (ms.getD 0 default) ms=beforeL act out (ms.drop i)) (by simp only [↓pb,qbs,tb55,S.one,hg,lns97 S,ias97 S,S.rd,hEg,irN,nrA,nrM,nrE,reduceIte,reduceCtorEq,nrL]) (by focus exact topA) (H0:=H) (by focus exact frA) (by intro b hb hlt;simp at hb ⊢;try omega) ?_ ?_
 rotate_left
 intro i1 e1 h1 hi1 hE1 ei1 hF1 hF01 hTh1 hJ1
 simp only [forallC,forallL,and_true] at hE1
 try simp only [↓pb,qbs,tb55,S.one,hg,lns97 S,ias97 S,S.rd,hEg,irN,nrA,nrM,nrE,reduceIte,reduceCtorEq,nrL] at hE1
 have hn11:=hF1.n;have hn01:=hF01.n;try simp only [upd_n,jn_n] at hn11
 replace hEg:=And.intro ei1 hE1
 rotate_left
 ·refine ⟨ms.getD 0 default, ?_,rfl⟩
  simp only [↓pb,qbs,tb55,S.one,hg,lns97 S,ias97 S,S.rd,hEg,irN,nrA,nrM,nrE,reduceIte,reduceCtorEq,nrL]
  rfl
 obtain ⟨out,hg1,hJ1⟩:=hJ1
 have hr1:h1.rd (H.n + 2)=some (eMom out):=by rw [rd_def,hg1];rfl
 have S1:=S.fr0 hF01
 have l2:=S1.lt
 by_cases hi2:i1 < ms.length
 ·rw [drop_getD hi2] at hJ1
  repeat' (first|((with_reducible refine hK _ _ fun e2 hEn=>?_);clear hK K;simp only [lv55,forallC,forallL,and_true] at hEn;(try simp only [↓pb,qbs,tb55,S.one,hg,lns97 S,ias97 S,S.rd,hEg,irN,nrA,nrM,nrE,reduceIte,reduceCtorEq,nrL] at hEn);clear hEg;(try clear eg);have hEg:=hEn;clear hEn;rename Env=>eg)|((first|((with_reducible first|apply oV_intro|apply oH_intro|apply oB_intro);(simp (disch:=first|exact dA|fail) only [qcs,tb55,S.one,hg,lns97 S,ias97 S,S.rd,hE1,ei1,ias97 S1,S1.rd,(S1.el eMom_len rfl),eMom,hg1,hEg,irN,nrA,nrM,nrE,reduceIte,reduceCtorEq,nrL];with_reducible exact rfl))|(with_reducible first|refine W_regionF lv55 fun K hK=>?_));try simp only [↓pb,↓pd,qds,tb55,S.one,hg,lns97 S,ias97 S,S.rd,hE1,ei1,ias97 S1,S1.rd,(S1.el eMom_len rfl),eMom,hg1,hEg,irN,nrA,nrM,nrE,reduceIte,reduceCtorEq,nrL])|((with_reducible apply W_cond);(simp only [↓pb,qbs,tb55,S.one,hg,lns97 S,ias97 S,S.rd,hE1,ei1,ias97 S1,S1.rd,(S1.el eMom_len rfl),eMom,hg1,hEg,irN,nrA,nrM,nrE,reduceIte,reduceCtorEq,nrL];with_reducible exact rfl);all_goals (intro hc;(first|exact hcX hc|try simp only [hcs] at hc)))|(with_reducible first|refine W_seq ?_|refine W_block ?_|refine W_skip ?_|refine W_ret ?_|refine W_exit ?_|apply blockK_exit)|((with_reducible apply blockK_pass);(focus decide))|fail)
  ·refine ⟨by omega,by simp only [↓pb,qbs,tb55,S.one,hg,lns97 S,ias97 S,S.rd,hE1,ei1,hEg,irN,nrA,nrM,nrE,reduceIte,reduceCtorEq,nrL];exact congrArg _ (inc64 (by omega)),by focus exact frA, ?_⟩
   refine ⟨ms.getD i1 default,by simp only [↓pb,qbs,tb55,S.one,hg,lns97 S,ias97 S,S.rd,hEg,irN,nrA,nrM,nrE,reduceIte,reduceCtorEq,nrL];rfl, ?_⟩
   rw [hJ1,beforeL,if_pos hc]
  ·refine ⟨by omega,by simp only [↓pb,qbs,tb55,S.one,hg,lns97 S,ias97 S,S.rd,hE1,ei1,hEg,irN,nrA,nrM,nrE,reduceIte,reduceCtorEq,nrL];exact congrArg _ (inc64 (by omega)),by focus exact frA, ?_⟩
   refine ⟨out,by simp (disch:=first|exact dA|fail) only [qcs,tb55,S.one,hg,lns97 S,ias97 S,S.rd,hEg,irN,nrA,nrM,nrE,reduceIte,reduceCtorEq,nrL];exact hg1, ?_⟩
   rw [hJ1,beforeL,if_neg hc]
 ·rw [List.drop_of_length_le (by omega),beforeL] at hJ1
  repeat' (first|((with_reducible refine hK _ _ fun e2 hEn=>?_);clear hK K;simp only [lv55,forallC,forallL,and_true] at hEn;(try simp only [↓pb,qbs,tb55,S.one,hg,lns97 S,ias97 S,S.rd,hEg,irN,nrA,nrM,nrE,reduceIte,reduceCtorEq,nrL] at hEn);clear hEg;(try clear eg);have hEg:=hEn;clear hEn;rename Env=>eg)|((first|((with_reducible first|apply oV_intro|apply oH_intro|apply oB_intro);(simp (disch:=first|exact dA|fail) only [qcs,tb55,S.one,hg,lns97 S,ias97 S,S.rd,hE1,ei1,hr1,hF1.rdX,eMom,hEg,irN,nrA,nrM,nrE,reduceIte,reduceCtorEq,nrL];with_reducible exact rfl))|(with_reducible first|refine W_regionF lv55 fun K hK=>?_));try simp only [↓pb,↓pd,qds,tb55,S.one,hg,lns97 S,ias97 S,S.rd,hE1,ei1,hr1,hF1.rdX,eMom,hEg,irN,nrA,nrM,nrE,reduceIte,reduceCtorEq,nrL])|((with_reducible apply W_cond);(simp only [↓pb,qbs,tb55,S.one,hg,lns97 S,ias97 S,S.rd,hE1,ei1,hr1,hF1.rdX,eMom,hEg,irN,nrA,nrM,nrE,reduceIte,reduceCtorEq,nrL];with_reducible exact rfl);all_goals (intro hc;(first|exact hcX hc|try simp only [hcs] at hc)))|(with_reducible first|refine W_seq ?_|refine W_block ?_|refine W_skip ?_|refine W_ret ?_|refine W_exit ?_|apply blockK_exit)|((with_reducible apply blockK_pass);(focus decide))|fail)
  refine ⟨by first|exact .inl rfl|exact .inr rfl, ?_⟩
  rw [ret1 Try.results55]
  simp only [↓pb,qbs,tb55,S.one,hg,lns97 S,ias97 S,S.rd,rv_tmp,rv_cell,hE1,eMom,hEg,irN,nrA,nrM,nrE,reduceIte,reduceCtorEq,nrL]
  repeat ((with_reducible apply oV_intro);(simp (disch:=first|exact dA|fail) only [qcs,tb55,S.one,hg,lns97 S,ias97 S,S.rd,hE1,eMom,hEg,irN,nrA,nrM,nrE,reduceIte,reduceCtorEq,nrL];exact rfl))
  rw [hJ1]
  refine ⟨by first|rfl|(simp [*];done), ?_⟩
  try exact frA
theorem f56 (va vb vc vh:Value) (g:Gnd) (hour:Int) (H:AHeap) (hT:Top H) (hG:RG H va vb vc g) (hh:one vh) (hm:g.Acts.length < 1099511627776) :
  ∃ v H',C5 (.fn 56) #[.agg ⟨[va,vb,vc,vh]⟩,iv hour] H v H'∧v=iv (untilL hour g.Acts)∧Fr H.n [] H H':=by
 refine Cl.ofW Try.func56 rfl (by kernel_rfl) (by rw [Try.ntmps56];exact Nat.le_of_ble_eq_true rfl) (by kernel_rfl) ?_
 have hEg:True:=trivial
 refine gcW [0,1] ?_
 intro eg hEn
 simp only [forallC,forallL,and_true] at hEn
 try simp only [↓pb,qbs,tb56,hG.one,hh,lns24 hG.r,hEg,irN,nrA,nrM,nrE,reduceIte,reduceCtorEq,nrL] at hEn
 replace hEg:=hEn;clear hEn
 repeat' (first|((with_reducible refine hK _ _ fun e2 hEn=>?_);clear hK K;simp only [lv56,forallC,forallL,and_true] at hEn;(try simp only [↓pb,qbs,tb56,hG.one,hh,lns24 hG.r,hEg,irN,nrA,nrM,nrE,reduceIte,reduceCtorEq,nrL] at hEn);clear hEg;(try clear eg);have hEg:=hEn;clear hEn;rename Env=>eg)|((first|((with_reducible first|apply oV_intro|apply oH_intro|apply oB_intro);(simp (disch:=first|exact dA|fail) only [qcs,tb56,hG.one,hh,lns24 hG.r,hEg,irN,nrA,nrM,nrE,reduceIte,reduceCtorEq,nrL];with_reducible exact rfl))|(with_reducible first|refine W_regionF lv56 fun K hK=>?_));try simp only [↓pb,↓pd,qds,tb56,hG.one,hh,lns24 hG.r,hEg,irN,nrA,nrM,nrE,reduceIte,reduceCtorEq,nrL])|((first|((with_reducible first|apply WO_gT|apply WO_gF);exact rfl)|(with_reducible apply W_cond));(simp only [↓pb,qbs,tb56,hG.one,hh,lns24 hG.r,hEg,irN,nrA,nrM,nrE,reduceIte,reduceCtorEq,nrL];with_reducible exact rfl);all_goals (intro hc;(first|exact hcX hc|try simp only [hcs] at hc);try ((with_reducible apply woI);simp only [↓pb,↓pd,qds,tb56,hG.one,hh,lns24 hG.r,hc,hEg,irN,nrA,nrM,nrE,reduceIte,reduceCtorEq,nrL])))|(with_reducible first|refine W_seq ?_|refine W_block ?_|refine W_skip ?_|refine W_ret ?_|refine W_exit ?_|apply blockK_exit)|((with_reducible apply blockK_pass);(focus decide))|fail)
 refine W_count [1,2] (by kernel_rfl) 5 (g.Acts.length) (H.n) [] [] (fun i e h=>untilL hour g.Acts=i + untilL hour (g.Acts.drop i)) (by simp only [↓pb,qbs,tb56,hG.one,hh,lns24 hG.r,hEg,irN,nrA,nrM,nrE,reduceIte,reduceCtorEq,nrL]) (by focus exact topA) (H0:=H) (by focus exact frA) (by intro b hb hlt;simp at hb ⊢;try omega) ?_ ?_
 rotate_left
 intro i1 e1 h1 hi1 hE1 ei1 hF1 hF01 hTh1 hJ1
 simp only [forallC,forallL,and_true] at hE1
 try simp only [↓pb,qbs,tb56,hG.one,hh,lns24 hG.r,hEg,irN,nrA,nrM,nrE,reduceIte,reduceCtorEq,nrL] at hE1
 have hn11:=hF1.n;have hn01:=hF01.n;try simp only [upd_n,jn_n] at hn11
 replace hEg:=And.intro ei1 hE1
 rotate_left
 ·simp
 have G:=hG.fr hF01
 have l2:=G.r.lt
 by_cases hi2:i1 < g.Acts.length
 ·rw [drop_getD hi2,untilL] at hJ1
  repeat' (first|((with_reducible refine hK _ _ fun e2 hEn=>?_);clear hK K;simp only [lv56,forallC,forallL,and_true] at hEn;(try simp only [↓pb,qbs,tb56,hG.one,hh,lns24 hG.r,hEg,irN,nrA,nrM,nrE,reduceIte,reduceCtorEq,nrL] at hEn);clear hEg;(try clear eg);have hEg:=hEn;clear hEn;rename Env=>eg)|((first|((with_reducible first|apply oV_intro|apply oH_intro|apply oB_intro);(simp (disch:=first|exact dA|fail) only [qcs,tb56,hG.one,hh,lns24 hG.r,hE1,ei1,hF1.rd0,lns24 G.r,ias24 G.r,G.r.rd,(G.r.el eAct_len rfl),eAct,hEg,irN,nrA,nrM,nrE,reduceIte,reduceCtorEq,nrL];with_reducible exact rfl))|(with_reducible first|refine W_regionF lv56 fun K hK=>?_));try simp only [↓pb,↓pd,qds,tb56,hG.one,hh,lns24 hG.r,hE1,ei1,hF1.rd0,lns24 G.r,ias24 G.r,G.r.rd,(G.r.el eAct_len rfl),eAct,hEg,irN,nrA,nrM,nrE,reduceIte,reduceCtorEq,nrL])|((first|((with_reducible first|apply WO_gT|apply WO_gF);exact rfl)|(with_reducible apply W_cond));(simp only [↓pb,qbs,tb56,hG.one,hh,lns24 hG.r,hE1,ei1,hF1.rd0,lns24 G.r,ias24 G.r,G.r.rd,(G.r.el eAct_len rfl),eAct,hEg,irN,nrA,nrM,nrE,reduceIte,reduceCtorEq,nrL];with_reducible exact rfl);all_goals (intro hc;(first|exact hcX hc|try simp only [hcs] at hc);try ((with_reducible apply woI);simp only [↓pb,↓pd,qds,tb56,hG.one,hh,lns24 hG.r,hE1,ei1,hF1.rd0,lns24 G.r,ias24 G.r,G.r.rd,(G.r.el eAct_len rfl),eAct,hc,hEg,irN,nrA,nrM,nrE,reduceIte,reduceCtorEq,nrL])))|(with_reducible first|refine W_seq ?_|refine W_block ?_|refine W_skip ?_|refine W_ret ?_|refine W_exit ?_|apply blockK_exit)|((with_reducible apply blockK_pass);(focus decide))|fail)
  ·refine ⟨by omega,by simp only [↓pb,qbs,tb56,hG.one,hh,lns24 hG.r,hE1,ei1,hEg,irN,nrA,nrM,nrE,reduceIte,reduceCtorEq,nrL];exact congrArg _ (inc64 (by omega)),by focus exact frA, ?_⟩
   rw [hJ1,if_pos hc]
   omega
  ·refine ⟨by first|exact .inl rfl|exact .inr rfl, ?_⟩
   rw [ret1 Try.results56]
   simp only [↓pb,qbs,tb56,hG.one,hh,lns24 hG.r,rv_tmp,rv_cell,hE1,hEg,irN,nrA,nrM,nrE,reduceIte,reduceCtorEq,nrL]
   repeat ((with_reducible apply oV_intro);(simp (disch:=first|exact dA|fail) only [qcs,tb56,hG.one,hh,lns24 hG.r,hE1,hEg,irN,nrA,nrM,nrE,reduceIte,reduceCtorEq,nrL];exact rfl))
   rw [hJ1,if_neg (by assumption)]
   refine ⟨by first|rfl|(simp [*];done), ?_⟩
   try exact frA
 ·rw [List.drop_of_length_le (by omega),untilL] at hJ1
  repeat' (first|((with_reducible refine hK _ _ fun e2 hEn=>?_);clear hK K;simp only [lv56,forallC,forallL,and_true] at hEn;(try simp only [↓pb,qbs,tb56,hG.one,hh,lns24 hG.r,hEg,irN,nrA,nrM,nrE,reduceIte,reduceCtorEq,nrL] at hEn);clear hEg;(try clear eg);have hEg:=hEn;clear hEn;rename Env=>eg)|((first|((with_reducible first|apply oV_intro|apply oH_intro|apply oB_intro);(simp (disch:=first|exact dA|fail) only [qcs,tb56,hG.one,hh,lns24 hG.r,hE1,ei1,hF1.rd0,lns24 G.r,hEg,irN,nrA,nrM,nrE,reduceIte,reduceCtorEq,nrL];with_reducible exact rfl))|(with_reducible first|refine W_regionF lv56 fun K hK=>?_));try simp only [↓pb,↓pd,qds,tb56,hG.one,hh,lns24 hG.r,hE1,ei1,hF1.rd0,lns24 G.r,hEg,irN,nrA,nrM,nrE,reduceIte,reduceCtorEq,nrL])|((first|((with_reducible first|apply WO_gT|apply WO_gF);exact rfl)|(with_reducible apply W_cond));(simp only [↓pb,qbs,tb56,hG.one,hh,lns24 hG.r,hE1,ei1,hF1.rd0,lns24 G.r,hEg,irN,nrA,nrM,nrE,reduceIte,reduceCtorEq,nrL];with_reducible exact rfl);all_goals (intro hc;(first|exact hcX hc|try simp only [hcs] at hc);try ((with_reducible apply woI);simp only [↓pb,↓pd,qds,tb56,hG.one,hh,lns24 hG.r,hE1,ei1,hF1.rd0,lns24 G.r,hc,hEg,irN,nrA,nrM,nrE,reduceIte,reduceCtorEq,nrL])))|(with_reducible first|refine W_seq ?_|refine W_block ?_|refine W_skip ?_|refine W_ret ?_|refine W_exit ?_|apply blockK_exit)|((with_reducible apply blockK_pass);(focus decide))|fail)
  refine ⟨by first|exact .inl rfl|exact .inr rfl, ?_⟩
  rw [ret1 Try.results56]
  simp only [↓pb,qbs,tb56,hG.one,hh,lns24 hG.r,rv_tmp,rv_cell,hE1,hEg,irN,nrA,nrM,nrE,reduceIte,reduceCtorEq,nrL]
  repeat ((with_reducible apply oV_intro);(simp (disch:=first|exact dA|fail) only [qcs,tb56,hG.one,hh,lns24 hG.r,hE1,hEg,irN,nrA,nrM,nrE,reduceIte,reduceCtorEq,nrL];exact rfl))
  rw [hJ1]
  refine ⟨by first|rfl|(simp [*];done), ?_⟩
  try exact frA
theorem f101 (a b:Nat) (ha:a < 11) (hb:b < 11) (m:Int) (s:Sums) (vm:Value) (ok:Bool) (bi bh:Nat) (H:AHeap) (hT:Top H) (h1:H.get bi=.cells [.bool ok] 4 .ex) (h2:H.get bh=.cells (ints s.1 ++ [vm]) 99 .ex)
  (hi:bi < H.n) (hh:bh < H.n) (hne:bi≠bh) (ho:one vm) :
  ∃ v H',C5 (.fn 101) #[iv a,iv b,iv m,vptr bi 0,vptr bh 0] H v H'∧v=.tuple #[]∧Made H (fun K=>(K.upd K.n bh (.cells (ints (knowIf s ok a b m).1.1 ++ [vm]) 99 .ex)).upd K.n bi (.cells [.bool (knowIf s ok a b m).2] 4 .ex)) H':=by
 have hr1:H.rd bi=some [.bool ok]:=by rw [rd_def,h1];rfl
 have hr2:H.rd bh=some (ints s.1 ++ [vm]):=by rw [rd_def,h2];rfl
 have hl:(ints s.1).length=121:=by rw [ints_len,s.2]
 have hl2:(ints (Swa.know s.1 a b m).1).length=121:=by rw [ints_len,know_len,s.2]
 have ho2:=ho
 refine Cl.ofW Try.func101 rfl (by kernel_rfl) (by rw [Try.ntmps101];exact Nat.le_of_ble_eq_true rfl) (by kernel_rfl) ?_
 have hEg:True:=trivial
 refine gcW [0,1,2,3,4] ?_
 intro eg hEn
 simp only [forallC,forallL,and_true] at hEn
 try simp only [↓pb,qbs,tb101,hr1,hr2,h1,h2,hl,hl2,atN_pre hl,stG_pre hl2 hl,Int.toNat_natCast,extract_tup,hEg,irN,nrA,nrM,nrE,reduceIte,reduceCtorEq,nrL] at hEn
 replace hEg:=hEn;clear hEn
 repeat' (first|((with_reducible refine hK _ _ fun e2 hEn=>?_);clear hK K;simp only [lv101,forallC,forallL,and_true] at hEn;(try simp only [↓pb,qbs,tb101,hr1,hr2,h1,h2,hl,hl2,atN_pre hl,stG_pre hl2 hl,Int.toNat_natCast,extract_tup,hEg,irN,nrA,nrM,nrE,reduceIte,reduceCtorEq,nrL] at hEn);clear hEg;(try clear eg);have hEg:=hEn;clear hEn;rename Env=>eg)|((first|((with_reducible first|apply oV_intro|apply oH_intro|apply oB_intro);(simp (disch:=first|exact dA|fail) only [qcs,tb101,hr1,hr2,h1,h2,hl,hl2,atN_pre hl,stG_pre hl2 hl,Int.toNat_natCast,extract_tup,hEg,irN,nrA,nrM,nrE,reduceIte,reduceCtorEq,nrL];with_reducible exact rfl))|((with_reducible apply WO_callV);(focus exact topA);(simp only [↓pb,qbs,tb101,hr1,hr2,h1,h2,hl,hl2,atN_pre hl,stG_pre hl2 hl,Int.toNat_natCast,extract_tup,hEg,irN,nrA,nrM,nrE,reduceIte,reduceCtorEq,nrL];(exact f92 _ s.2 _ _ ha hb _ _ (by exact topA)));(intro Gq hq hJq;try simp only [upd_n,jn_n] at hq))|(with_reducible first|refine W_regionF lv101 fun K hK=>?_));try simp only [↓pb,↓pd,qds,tb101,hr1,hr2,h1,h2,hl,hl2,atN_pre hl,stG_pre hl2 hl,Int.toNat_natCast,extract_tup,hEg,irN,nrA,nrM,nrE,reduceIte,reduceCtorEq,nrL])|((with_reducible apply W_cond);(simp only [↓pb,qbs,tb101,hr1,hr2,h1,h2,hl,hl2,atN_pre hl,stG_pre hl2 hl,Int.toNat_natCast,extract_tup,hEg,irN,nrA,nrM,nrE,reduceIte,reduceCtorEq,nrL];with_reducible exact rfl);all_goals (intro hc;(first|exact hcX hc|try simp only [hcs] at hc)))|(with_reducible first|refine W_seq ?_|refine W_skip ?_|refine W_ret ?_)|fail)
 ·refine ⟨by first|exact .inl rfl|exact .inr rfl, ?_⟩
  rw [ret0 Try.results101]
  simp only [↓pb,qbs,tb101,hr1,hr2,h1,h2,hl,hl2,atN_pre hl,stG_pre hl2 hl,Int.toNat_natCast,extract_tup,rv_tmp,rv_cell,hEg,irN,nrA,nrM,nrE,reduceIte,reduceCtorEq,nrL]
  repeat ((with_reducible apply oV_intro);(simp (disch:=first|exact dA|fail) only [qcs,tb101,hr1,hr2,h1,h2,hl,hl2,atN_pre hl,stG_pre hl2 hl,Int.toNat_natCast,extract_tup,hEg,irN,nrA,nrM,nrE,reduceIte,reduceCtorEq,nrL];exact rfl))
  have e1:knowIf s true a b m=s.know a b m:=rfl
  subst hc
  rw [e1]
  refine Made.two (by exact frA) hT ?_ ?_
  ·simp (disch:=first|exact dA|fail) only [qcs,tb101,hr1,hr2,h1,h2,hl,hl2,atN_pre hl,stG_pre hl2 hl,Int.toNat_natCast,extract_tup,hEg,irN,nrA,nrM,nrE,reduceIte,reduceCtorEq,nrL]
   rfl
  ·simp (disch:=first|exact dA|fail) only [qcs,tb101,hr1,hr2,h1,h2,hl,hl2,atN_pre hl,stG_pre hl2 hl,Int.toNat_natCast,extract_tup,hEg,irN,nrA,nrM,nrE,reduceIte,reduceCtorEq,nrL]
   rfl
 ·refine ⟨by first|exact .inl rfl|exact .inr rfl, ?_⟩
  rw [ret0 Try.results101]
  simp only [↓pb,qbs,tb101,hr1,hr2,h1,h2,hl,hl2,atN_pre hl,stG_pre hl2 hl,Int.toNat_natCast,extract_tup,rv_tmp,rv_cell,hEg,irN,nrA,nrM,nrE,reduceIte,reduceCtorEq,nrL]
  repeat ((with_reducible apply oV_intro);(simp (disch:=first|exact dA|fail) only [qcs,tb101,hr1,hr2,h1,h2,hl,hl2,atN_pre hl,stG_pre hl2 hl,Int.toNat_natCast,extract_tup,hEg,irN,nrA,nrM,nrE,reduceIte,reduceCtorEq,nrL];exact rfl))
  subst hc
  refine Made.two (Fr.refl H) hT ?_ ?_
  ·rw [h2];rfl
  ·rw [h1];rfl
theorem f102 (va vb vc:Value) (spot:Int) (H:AHeap) (ha:one va) (hb:one vb) (hc:one vc):∃ v H',C5 (.fn 102) #[.agg ⟨[va,vb,vc]⟩,iv spot] H v H'∧v=.func (.func 110) #[] #[vptr H.n 0,vptr (H.n + 1) 0]∧H'=(H.upd (H.n + 1) H.n (.cells [va,vb,vc] 26 .ex)).upd (H.n + 2) (H.n + 1) (.cells [iv spot] 3 .ex):=by
 refine Cl.ofW Try.func102 rfl (by kernel_rfl) (by rw [Try.ntmps102];exact Nat.le_of_ble_eq_true rfl) (by kernel_rfl) ?_
 have hEg:True:=trivial
 refine gcW [0,1] ?_
 intro eg hEn
 simp only [forallC,forallL,and_true] at hEn
 try simp only [↓pb,qbs,tb102,ha,hb,hc,hEg,irN,nrA,nrM,nrE,reduceIte,reduceCtorEq,nrL] at hEn
 replace hEg:=hEn;clear hEn
 repeat' (first|((with_reducible refine hK _ _ fun e2 hEn=>?_);clear hK K;simp only [lv102,forallC,forallL,and_true] at hEn;(try simp only [↓pb,qbs,tb102,ha,hb,hc,hEg,irN,nrA,nrM,nrE,reduceIte,reduceCtorEq,nrL] at hEn);clear hEg;(try clear eg);have hEg:=hEn;clear hEn;rename Env=>eg)|((first|((with_reducible first|apply oV_intro|apply oH_intro|apply oB_intro);(simp (disch:=first|exact dA|fail) only [qcs,tb102,ha,hb,hc,hEg,irN,nrA,nrM,nrE,reduceIte,reduceCtorEq,nrL];with_reducible exact rfl))|(with_reducible first|refine W_regionF lv102 fun K hK=>?_));try simp only [↓pb,↓pd,qds,tb102,ha,hb,hc,hEg,irN,nrA,nrM,nrE,reduceIte,reduceCtorEq,nrL])|(with_reducible first|refine W_seq ?_|refine W_ret ?_)|fail)
 refine ⟨by first|exact .inl rfl|exact .inr rfl, ?_⟩
 rw [ret1 Try.results102]
 simp only [↓pb,qbs,tb102,ha,hb,hc,rv_tmp,rv_cell,hEg,irN,nrA,nrM,nrE,reduceIte,reduceCtorEq,nrL]
 repeat ((with_reducible apply oV_intro);(simp (disch:=first|exact dA|fail) only [qcs,tb102,ha,hb,hc,hEg,irN,nrA,nrM,nrE,reduceIte,reduceCtorEq,nrL];exact rfl))
theorem f110 (l bg bs:Nat) (va vb vc:Value) (al:List Act) (spot:Int) (H:AHeap) (J:Nat→AHeap→Prop) (hl:al.length < 1099511627776) (hJ0:J 0 H)
  (hrd:∀ i h,J i h→h.rd bg=some [va,vb,vc]∧h.rd bs=some [iv spot]∧bg < h.n∧bs < h.n∧SR h 6 al.length vc (al.flatMap eAct))
  (hnew:∀ i h c,J i h→J i (h.upd (h.n + 1) h.n (.cells c 30 .ex)))
  (hskip:∀ i h,i < al.length→(al.getD i default).Spot≠spot→J i h→J (i + 1) h)
  (hround:∀ i h,i < al.length→(al.getD i default).Spot=spot→J i h→∃ H',C5 (.yield l) #[iv i,.agg ⟨eAct (al.getD i default)⟩] h (.bool true) H'∧J (i + 1) H') :
  ∃ v H',C5 (.fn 110) #[.func (.yield l) #[] #[],vptr bg 0,vptr bs 0] H v H'∧v=.tuple #[]∧J al.length H':=by
 obtain ⟨g1,g2,g3,g4,S⟩:=hrd 0 H hJ0
 refine Cl.ofW Try.func110 rfl (by kernel_rfl) (by rw [Try.ntmps110];exact Nat.le_of_ble_eq_true rfl) (by kernel_rfl) ?_
 have hEg:True:=trivial
 refine gcW [0,1,2] ?_
 intro eg hEn
 simp only [forallC,forallL,and_true] at hEn
 try simp only [↓pb,qbs,tb110,g1,lns24 S,hEg,irN,nrA,nrM,nrE,reduceIte,reduceCtorEq,nrL] at hEn
 replace hEg:=hEn;clear hEn
 repeat' (first|((with_reducible refine hK _ _ fun e2 hEn=>?_);clear hK K;simp only [lv110,forallC,forallL,and_true] at hEn;(try simp only [↓pb,qbs,tb110,g1,lns24 S,hEg,irN,nrA,nrM,nrE,reduceIte,reduceCtorEq,nrL] at hEn);clear hEg;(try clear eg);have hEg:=hEn;clear hEn;rename Env=>eg)|((first|((with_reducible first|apply oV_intro|apply oH_intro|apply oB_intro);(simp (disch:=first|exact dA|fail) only [qcs,tb110,g1,lns24 S,hEg,irN,nrA,nrM,nrE,reduceIte,reduceCtorEq,nrL];with_reducible exact rfl))|(with_reducible first|refine W_regionF lv110 fun K hK=>?_));try simp only [↓pb,↓pd,qds,tb110,g1,lns24 S,hEg,irN,nrA,nrM,nrE,reduceIte,reduceCtorEq,nrL])|((first|((with_reducible first|apply WO_gT|apply WO_gF);exact rfl)|(with_reducible apply W_cond));(simp only [↓pb,qbs,tb110,g1,lns24 S,hEg,irN,nrA,nrM,nrE,reduceIte,reduceCtorEq,nrL];with_reducible exact rfl);all_goals (intro hc;(first|exact hcX hc|try simp only [hcs] at hc);try ((with_reducible apply woI);simp only [↓pb,↓pd,qds,tb110,g1,lns24 S,hc,hEg,irN,nrA,nrM,nrE,reduceIte,reduceCtorEq,nrL])))|(with_reducible first|refine W_seq ?_|refine W_block ?_|refine W_skip ?_|refine W_ret ?_|refine W_exit ?_|apply blockK_exit)|((with_reducible apply blockK_pass);(focus decide))|fail)
 refine W_loopF [0,1,2,7,8] (by kernel_rfl) (fun n e h=>∃ i:Nat,i≤al.length∧n=al.length - i∧e 9=iv i∧J i h) al.length ⟨0,Nat.zero_le _,by omega,by simp only [↓pb,qbs,tb110,g1,lns24 S,hEg,irN,nrA,nrM,nrE,reduceIte,reduceCtorEq,nrL];rfl,hJ0⟩ ?_
 rintro n e h hE ⟨i,hi,rfl,e9,hJ⟩
 simp only [forallC,forallL,and_true] at hE
 simp only [↓pb,qbs,tb110,g1,lns24 S,hEg,irN,nrA,nrM,nrE,reduceIte,reduceCtorEq,nrL] at hE
 obtain ⟨k1,k2,k3,k4,S1⟩:=hrd i h hJ
 have l1:=S1.lt
 have hn1:=hnew i h (eAct (al.getD i default)) hJ
 repeat' (first|((with_reducible refine hK _ _ fun e2 hEn=>?_);clear hK K;simp only [lv110,forallC,forallL,and_true] at hEn;(try simp only [↓pb,qbs,tb110,g1,lns24 S,hEg,irN,nrA,nrM,nrE,reduceIte,reduceCtorEq,nrL] at hEn);clear hEg;(try clear eg);have hEg:=hEn;clear hEn;rename Env=>eg)|((first|((with_reducible first|apply oV_intro|apply oH_intro|apply oB_intro);(simp (disch:=first|exact dA|fail) only [qcs,tb110,g1,lns24 S,hE,e9,ias24 S1,S1.rd,(S1.el eAct_len rfl),eAct,k1,k2,hEg,irN,nrA,nrM,nrE,reduceIte,reduceCtorEq,nrL];with_reducible exact rfl))|(with_reducible first|refine W_regionF lv110 fun K hK=>?_));try simp only [↓pb,↓pd,qds,tb110,g1,lns24 S,hE,e9,ias24 S1,S1.rd,(S1.el eAct_len rfl),eAct,k1,k2,hEg,irN,nrA,nrM,nrE,reduceIte,reduceCtorEq,nrL])|((first|((with_reducible first|apply WO_gT|apply WO_gF);exact rfl)|(with_reducible apply W_cond));(simp only [↓pb,qbs,tb110,g1,lns24 S,hE,e9,ias24 S1,S1.rd,(S1.el eAct_len rfl),eAct,k1,k2,hEg,irN,nrA,nrM,nrE,reduceIte,reduceCtorEq,nrL];with_reducible exact rfl);all_goals (intro hc;(first|exact hcX hc|try simp only [hcs] at hc);try ((with_reducible apply woI);simp only [↓pb,↓pd,qds,tb110,g1,lns24 S,hE,e9,ias24 S1,S1.rd,(S1.el eAct_len rfl),eAct,k1,k2,hc,hEg,irN,nrA,nrM,nrE,reduceIte,reduceCtorEq,nrL])))|(with_reducible first|refine W_seq ?_|refine W_block ?_|refine W_skip ?_|refine W_ret ?_|refine W_exit ?_|apply blockK_exit)|((with_reducible apply blockK_pass);(focus decide))|fail)
 ·have hs:(al.getD i default).Spot=spot:=by assumption
  obtain ⟨h2,hc2,hJ2⟩:=hround i _ (by omega) hs hn1
  have ee:eAct (al.getD i default)=[iv (al.getD i default).Hour,iv spot,iv (al.getD i default).Kind,iv (al.getD i default).Min,iv (al.getD i default).Max,.bool (al.getD i default).Take]:=by rw [eAct,hs]
  rw [ee] at hc2
  refine WO_callR (R:=fun v H'=>v=.bool true∧H'=h2) ?_ ?_
  ·simp only [↓pb,qbs,tb110,g1,lns24 S,hEg,irN,nrA,nrM,nrE,reduceIte,reduceCtorEq,nrL]
   exact ⟨_,_,hc2,rfl,rfl⟩
  rintro v H' ⟨rfl,rfl⟩
  simp only [↓pb,↓pd,qds,tb110,g1,lns24 S,hEg,irN,nrA,nrM,nrE,reduceIte,reduceCtorEq,nrL]
  repeat' (first|((with_reducible refine hK _ _ fun e2 hEn=>?_);clear hK K;simp only [lv110,forallC,forallL,and_true] at hEn;(try simp only [↓pb,qbs,tb110,g1,lns24 S,hEg,irN,nrA,nrM,nrE,reduceIte,reduceCtorEq,nrL] at hEn);clear hEg;(try clear eg);have hEg:=hEn;clear hEn;rename Env=>eg)|((first|((with_reducible first|apply oV_intro|apply oH_intro|apply oB_intro);(simp (disch:=first|exact dA|fail) only [qcs,tb110,g1,lns24 S,e9,hEg,irN,nrA,nrM,nrE,reduceIte,reduceCtorEq,nrL];with_reducible exact rfl))|(with_reducible first|refine W_regionF lv110 fun K hK=>?_));try simp only [↓pb,↓pd,qds,tb110,g1,lns24 S,e9,hEg,irN,nrA,nrM,nrE,reduceIte,reduceCtorEq,nrL])|((first|((with_reducible first|apply WO_gT|apply WO_gF);exact rfl)|(with_reducible apply W_cond));(simp only [↓pb,qbs,tb110,g1,lns24 S,e9,hEg,irN,nrA,nrM,nrE,reduceIte,reduceCtorEq,nrL];with_reducible exact rfl);all_goals (intro hc;(first|exact hcX hc|try simp only [hcs] at hc);try ((with_reducible apply woI);simp only [↓pb,↓pd,qds,tb110,g1,lns24 S,e9,hc,hEg,irN,nrA,nrM,nrE,reduceIte,reduceCtorEq,nrL])))|(with_reducible first|refine W_seq ?_|refine W_block ?_|refine W_skip ?_|refine W_ret ?_|refine W_exit ?_|apply blockK_exit)|((with_reducible apply blockK_pass);(focus decide))|fail)
  refine ⟨al.length - (i + 1),by omega,i + 1,by omega,rfl, ?_,hJ2⟩
  simp only [↓pb,qbs,tb110,g1,lns24 S,e9,hEg,irN,nrA,nrM,nrE,reduceIte,reduceCtorEq,nrL]
  exact congrArg _ (inc64 (by omega))
 ·refine ⟨al.length - (i + 1),by omega,i + 1,by omega,rfl, ?_,hskip i _ (by omega) (by assumption) hn1⟩
  simp only [↓pb,qbs,tb110,g1,lns24 S,e9,hEg,irN,nrA,nrM,nrE,reduceIte,reduceCtorEq,nrL]
  exact congrArg _ (inc64 (by omega))
 ·have ei:i=al.length:=by omega
  subst ei
  refine ⟨by first|exact .inl rfl|exact .inr rfl, ?_⟩
  rw [ret0 Try.results110]
  simp only [↓pb,qbs,tb110,g1,lns24 S,rv_tmp,rv_cell,hEg,irN,nrA,nrM,nrE,reduceIte,reduceCtorEq,nrL]
  repeat ((with_reducible apply oV_intro);(simp (disch:=first|exact dA|fail) only [qcs,tb110,g1,lns24 S,hEg,irN,nrA,nrM,nrE,reduceIte,reduceCtorEq,nrL];exact rfl))
  exact hJ
set_option maxHeartbeats 4000000 in
theorem f83 (va vb vc:Value) (g:Gnd) (spot:Int) (H:AHeap) (hT:Top H) (hG:RG H va vb vc g) (hm:g.Acts.length≤10) :
  ∃ v H',C5 (.fn 83) #[.agg ⟨[va,vb,vc]⟩,iv spot] H v H'∧(∃ vm,v=.tuple #[.agg ⟨eHp ((pile g spot).1,vm)⟩,.bool (pile g spot).2]∧SR H' 4 (pile g spot).1.m.length vm ((pile g spot).1.m.flatMap eMom)∧H.n≤vblk vm)∧Fr H.n [] H H':=by
 have hb0:(ints blank.1).length=121:=by rw [ints_len,blank.2]
 refine Cl.ofW Try.func83 rfl (by kernel_rfl) (by rw [Try.ntmps83];exact Nat.le_of_ble_eq_true rfl) (by kernel_rfl) ?_
 have hEg:True:=trivial
 refine gcW [0,1] ?_
 intro eg hEn
 simp only [forallC,forallL,and_true] at hEn
 try simp only [↓pb,qbs,tb83,hG.one,hb0,hEg,irN,nrA,nrM,nrE,reduceIte,reduceCtorEq,nrL] at hEn
 replace hEg:=hEn;clear hEn
 repeat' (first|((with_reducible refine hK _ _ fun e2 hEn=>?_);clear hK K;simp only [lv83,forallC,forallL,and_true] at hEn;(try simp only [↓pb,qbs,tb83,hG.one,hb0,hEg,irN,nrA,nrM,nrE,reduceIte,reduceCtorEq,nrL] at hEn);clear hEg;(try clear eg);have hEg:=hEn;clear hEn;rename Env=>eg)|((first|((with_reducible first|apply oV_intro|apply oH_intro|apply oB_intro);(simp (disch:=first|exact dA|fail) only [qcs,tb83,hG.one,hb0,hEg,irN,nrA,nrM,nrE,reduceIte,reduceCtorEq,nrL];with_reducible exact rfl))|((with_reducible first|apply oblA_and|apply oblR_and|apply oblO_and);(focus exact obA))|((with_reducible apply WO_callE);(simp only [↓pb,qbs,tb83,hG.one,hb0,hEg,irN,nrA,nrM,nrE,reduceIte,reduceCtorEq,nrL];(exact f102 _ _ _ _ _ hG.one.1 hG.one.2.1 hG.one.2.2)))|((with_reducible apply WO_callV);(focus (repeat' (first|with_reducible assumption|((with_reducible refine Top.jn ?_ ?_);rotate_left;(focus with_reducible assumption))|((with_reducible refine Top.upd ?_ ?_ ?_ ?_);rotate_left;(focus ((try simp only [upd_n,jn_n]);omega));(focus ((try simp only [upd_n,jn_n]);omega));(focus first|trivial|apply hLX|apply hLB|apply hLg|exact ⟨by ((try simp only [upd_n,jn_n]);omega),by ((try simp only [upd_n,jn_n]);omega)⟩)))));(simp only [↓pb,qbs,tb83,hG.one,hb0,hEg,irN,nrA,nrM,nrE,reduceIte,reduceCtorEq,nrL];(exact f100 _ (by (repeat' (first|with_reducible assumption|((with_reducible refine Top.jn ?_ ?_);rotate_left;(focus with_reducible assumption))|((with_reducible refine Top.upd ?_ ?_ ?_ ?_);rotate_left;(focus ((try simp only [upd_n,jn_n]);omega));(focus ((try simp only [upd_n,jn_n]);omega));(focus first|trivial|apply hLX|apply hLB|apply hLg|exact ⟨by ((try simp only [upd_n,jn_n]);omega),by ((try simp only [upd_n,jn_n]);omega)⟩)))))));(intro Gq hq hJq;try simp only [upd_n,jn_n] at hq))|(with_reducible first|refine W_regionF lv83 fun K hK=>?_|refine W_drawnF lv83 fun K hK=>?_));try simp only [↓pb,↓pd,qds,tb83,hG.one,hb0,hEg,irN,nrA,nrM,nrE,reduceIte,reduceCtorEq,nrL])|((with_reducible apply W_cond);(simp only [↓pb,qbs,tb83,hG.one,hb0,hEg,irN,nrA,nrM,nrE,reduceIte,reduceCtorEq,nrL];with_reducible exact rfl);all_goals (intro hc;(first|exact hcX hc|try simp only [hcs] at hc)))|(with_reducible first|refine W_seq ?_|refine W_block ?_|refine W_skip ?_|refine W_ret ?_|apply blockK_exit)|((with_reducible apply blockK_pass);(focus decide))|fail)
 obtain ⟨G0,hG0⟩:∃ x,x=Gq:=⟨_,rfl⟩
 subst hG0
 refine W_range2 fun LO hLO hLg=>?_
 simp only [↓pb,qbs,tb83,hG.one,hb0,hEg,irN,nrA,nrM,nrE,reduceIte,reduceCtorEq,nrL]
 have hmn:∀ x:Act,Swa.one (Value.int .i64 0):=fun _=>one_int
 let J:Nat→AHeap→Prop:=fun i h=>∃ (p:Pst) (vm:Value) (gg:Option Nat),Pst.run spot 0 g.Acts pst0=Pst.run spot i (g.Acts.drop i) p∧(p.next≤i∧p.m.tips≤p.next∧p.m.takes≤p.next∧p.ms.length≤i + 1∧0 < p.ms.length∧p.ms.getD (p.ms.length - 1) default=p.m) ∧
  (GS h 4 p.ms.length vm (p.ms.flatMap eMom) gg∧(∀ x,gg=some x→G0.n≤x)∧(vblk vm=G0.n∨G0.n + 7 < vblk vm)) ∧
  (h.get (G0.n + 1)=.cells (ints p.s.1 ++ [vm]) 99 .ex∧h.get (G0.n + 2)=.cells [.bool p.ok] 4 .ex∧h.get (G0.n + 3)=.cells [.func (.func 101) #[] #[vptr (G0.n + 2) 0,vptr (G0.n + 1) 0]] 154 .ex∧h.get (G0.n + 4)=.cells [iv p.next] 3 .ex ∧
   h.get (G0.n + 5)=.cells [va,vb,vc] 26 .ex∧h.get (G0.n + 6)=.cells [iv spot] 3 .ex∧h.get (G0.n + 7)=LO)∧h.get (H.n + 1)=.cells (zs 121 ++ [.slice none 0 0]) 99 .ex∧G0.n + 7 < h.n∧Fr H.n [] H h∧Top h
 have hfin:∀ h,J g.Acts.length h→∃ (p:Pst) (vm:Value),pile g spot=(⟨p.s,p.ms⟩,p.ok)∧SR h 4 p.ms.length vm (p.ms.flatMap eMom)∧(vblk vm=G0.n∨G0.n + 7 < vblk vm)∧h.get (G0.n + 1)=.cells (ints p.s.1 ++ [vm]) 99 .ex∧h.get (G0.n + 2)=.cells [.bool p.ok] 4 .ex∧h.get (H.n + 1)=.cells (zs 121 ++ [.slice none 0 0]) 99 .ex∧G0.n + 7 < h.n∧Fr H.n [] H h∧Top h:=by
  rintro h ⟨p,vm,gg,e1,_,⟨G,_,kv⟩,⟨k1,k2,_⟩,k6,k3,k4,k5⟩
  refine ⟨p,vm, ?_,G.sr,kv,k1,k2,k6,k3,k4,k5⟩
  rw [List.drop_of_length_le (Nat.le_refl _)] at e1
  rw [pile,e1]
  rfl
 suffices hs:∃ v H1,C5 (.fn 110) #[.func (.yield (G0.n + 7)) #[] #[],vptr (G0.n + 5) 0,vptr (G0.n + 6) 0] _ v H1∧v=.tuple #[]∧J g.Acts.length H1 by
  obtain ⟨v,H1,c1,rfl,c2⟩:=hs
  have k7:H1.get (G0.n + 7)=LO:=by
   obtain ⟨p,vm,gg,_,_,_,⟨_,_,_,_,_,_,k7⟩,_⟩:=c2
   exact k7
  refine ⟨_,H1,c1,k7,fun LX hLX=>?_⟩
  obtain ⟨p,vm,e1,S,kv,k1,k2,k6,k3,k4,k5⟩:=hfin H1 c2
  have hn4:=k4.n
  have k1r:H1.rd (G0.n + 1)=some (ints p.s.1 ++ [vm]):=by rw [rd_def,k1];rfl
  have k2r:H1.rd (G0.n + 2)=some [.bool p.ok]:=by rw [rd_def,k2];rfl
  have ho:=S.one
  have hps:(ints p.s.1).length=121:=by rw [ints_len,p.s.2]
  repeat' (first|((with_reducible refine hK _ _ fun e2 hEn=>?_);clear hK K;simp only [lv83,forallC,forallL,and_true] at hEn;(try simp only [↓pb,qbs,tb83,hG.one,hb0,hEg,irN,nrA,nrM,nrE,reduceIte,reduceCtorEq,nrL] at hEn);clear hEg;(try clear eg);have hEg:=hEn;clear hEn;rename Env=>eg)|((first|((with_reducible first|apply oV_intro|apply oH_intro|apply oB_intro);(simp (disch:=first|exact dA|fail) only [qcs,tb83,hG.one,hb0,k1r,k2r,k6,stG_agg,hEg,irN,nrA,nrM,nrE,reduceIte,reduceCtorEq,nrL];with_reducible exact rfl))|((with_reducible first|apply oblA_and|apply oblR_and|apply oblO_and);(focus exact obA))|((with_reducible apply WO_callE);(simp only [↓pb,qbs,tb83,hG.one,hb0,k1r,k2r,k6,stG_agg,hEg,irN,nrA,nrM,nrE,reduceIte,reduceCtorEq,nrL];(exact f102 _ _ _ _ _ hG.one.1 hG.one.2.1 hG.one.2.2)))|((with_reducible apply WO_callV);(focus (repeat' (first|with_reducible assumption|((with_reducible refine Top.jn ?_ ?_);rotate_left;(focus with_reducible assumption))|((with_reducible refine Top.upd ?_ ?_ ?_ ?_);rotate_left;(focus ((try simp only [upd_n,jn_n]);omega));(focus ((try simp only [upd_n,jn_n]);omega));(focus first|trivial|apply hLX|apply hLB|apply hLg|exact ⟨by ((try simp only [upd_n,jn_n]);omega),by ((try simp only [upd_n,jn_n]);omega)⟩)))));(simp only [↓pb,qbs,tb83,hG.one,hb0,k1r,k2r,k6,stG_agg,hEg,irN,nrA,nrM,nrE,reduceIte,reduceCtorEq,nrL];(exact f100 _ (by (repeat' (first|with_reducible assumption|((with_reducible refine Top.jn ?_ ?_);rotate_left;(focus with_reducible assumption))|((with_reducible refine Top.upd ?_ ?_ ?_ ?_);rotate_left;(focus ((try simp only [upd_n,jn_n]);omega));(focus ((try simp only [upd_n,jn_n]);omega));(focus first|trivial|apply hLX|apply hLB|apply hLg|exact ⟨by ((try simp only [upd_n,jn_n]);omega),by ((try simp only [upd_n,jn_n]);omega)⟩)))))));(intro Gq hq hJq;try simp only [upd_n,jn_n] at hq))|(with_reducible first|refine W_regionF lv83 fun K hK=>?_|refine W_drawnF lv83 fun K hK=>?_));try simp only [↓pb,↓pd,qds,tb83,hG.one,hb0,k1r,k2r,k6,stG_agg,hEg,irN,nrA,nrM,nrE,reduceIte,reduceCtorEq,nrL])|((with_reducible apply W_cond);(simp only [↓pb,qbs,tb83,hG.one,hb0,k1r,k2r,k6,stG_agg,hEg,irN,nrA,nrM,nrE,reduceIte,reduceCtorEq,nrL];with_reducible exact rfl);all_goals (intro hc;(first|exact hcX hc|try simp only [hcs] at hc)))|(with_reducible first|refine W_seq ?_|refine W_block ?_|refine W_skip ?_|refine W_ret ?_|apply blockK_exit)|((with_reducible apply blockK_pass);(focus decide))|fail)
  refine ⟨by first|exact .inl rfl|exact .inr rfl, ?_⟩
  rw [ret2 Try.results83]
  simp only [↓pb,qbs,tb83,hG.one,hb0,rv_tmp,rv_cell,hEg,irN,nrA,nrM,nrE,reduceIte,reduceCtorEq,nrL]
  repeat ((with_reducible apply oV_intro);(simp (disch:=first|exact dA|fail) only [qcs,tb83,hG.one,hb0,hEg,irN,nrA,nrM,nrE,reduceIte,reduceCtorEq,nrL];exact rfl))
  refine ⟨⟨vm,by rw [e1];rfl, ?_,by omega⟩,(by (repeat' (first|with_reducible exact Fr.refl _|with_reducible assumption|((with_reducible apply Fr.trans) <;> with_reducible assumption)|((with_reducible refine Fr.jn ?_ ?_ ?_);rotate_left;(focus with_reducible assumption);(focus ((try simp only [upd_n,jn_n]);omega)))|((with_reducible refine Fr.upd ?_ ?_ ?_ ?_ ?_);rotate_left;(focus ((try simp only [upd_n,jn_n]);omega));(focus ((try simp only [upd_n,jn_n]);omega));(focus first|(left;((try simp only [upd_n,jn_n]);omega))|(right;simp;done));(focus first|trivial|apply hLX|apply hLB|apply hLg|exact ⟨by ((try simp only [upd_n,jn_n]);omega),by ((try simp only [upd_n,jn_n]);omega)⟩)))))⟩
  rw [e1]
  refine S.fr (N:=H.n) (X:=[G0.n + 7,H.n + 1]) (A:=H1) (by (repeat' (first|with_reducible exact Fr.refl _|with_reducible assumption|((with_reducible apply Fr.trans) <;> with_reducible assumption)|((with_reducible refine Fr.jn ?_ ?_ ?_);rotate_left;(focus with_reducible assumption);(focus ((try simp only [upd_n,jn_n]);omega)))|((with_reducible refine Fr.upd ?_ ?_ ?_ ?_ ?_);rotate_left;(focus ((try simp only [upd_n,jn_n]);omega));(focus ((try simp only [upd_n,jn_n]);omega));(focus first|(left;((try simp only [upd_n,jn_n]);omega))|(right;simp;done));(focus first|trivial|apply hLX|apply hLB|apply hLg|exact ⟨by ((try simp only [upd_n,jn_n]);omega),by ((try simp only [upd_n,jn_n]);omega)⟩))))) (.inr (by simp;omega))
 have hmono:∀ i h h',J i h→Fr h.n [] h h'→J i h':=by
  rintro i h h' ⟨p,vm,gg,e1,e2,⟨G,e3,e4⟩,⟨k1,k2,k3,k4,k5,k6,k7⟩,k8,k9,k10,k11⟩ F
  have hn:=k10.n
  have ho:∀ b,b < h.n→h'.get b=h.get b:=fun b hb=>F.old b hb (by simp)
  refine ⟨p,vm,gg,e1,e2,⟨G.fr0 F,e3,e4⟩,⟨?_, ?_, ?_, ?_, ?_, ?_, ?_⟩, ?_,Nat.lt_of_lt_of_le k9 F.n,k10.call F hn,F.top k11⟩
  all_goals rw [ho _ (by omega)];assumption
 refine f110 (G0.n + 7) (G0.n + 5) (G0.n + 6) va vb vc g.Acts spot _ J (by omega) ?_ ?_ ?_ ?_ ?_
 ·refine ⟨pst0,.slice (some ⟨G0.n,0,none⟩) 1 1,none,by simp,⟨Nat.le_refl _,Nat.le_refl _,Nat.le_refl _,Nat.le_refl _,Nat.lt_succ_self _,rfl⟩,⟨.full rfl ?_ (k:=.ex) (d:=eMom mom0) (T:=101) ?_ (.inl rfl) (Nat.le_refl _) rfl (fun _=>rfl),by simp,.inl rfl⟩,⟨?_, ?_, ?_, ?_, ?_, ?_, ?_⟩, ?_, ?_, ?_, ?_⟩
  all_goals first|(simp only [upd_n];omega;done)|(simp (disch:=first|exact dA|fail) only [qcs,tb83,hG.one,hb0,hEg,irN,nrA,nrM,nrE,reduceIte,reduceCtorEq,nrL];done)|(simp (disch:=first|exact dA|fail) only [qcs,tb83,hG.one,hb0,hEg,irN,nrA,nrM,nrE,reduceIte,reduceCtorEq,nrL];rfl)|skip
  ·(repeat' (first|with_reducible exact Fr.refl _|with_reducible assumption|((with_reducible apply Fr.trans) <;> with_reducible assumption)|((with_reducible refine Fr.jn ?_ ?_ ?_);rotate_left;(focus with_reducible assumption);(focus ((try simp only [upd_n,jn_n]);omega)))|((with_reducible refine Fr.upd ?_ ?_ ?_ ?_ ?_);rotate_left;(focus ((try simp only [upd_n,jn_n]);omega));(focus ((try simp only [upd_n,jn_n]);omega));(focus first|(left;((try simp only [upd_n,jn_n]);omega))|(right;simp;done));(focus first|trivial|apply hLX|apply hLB|apply hLg|exact ⟨by ((try simp only [upd_n,jn_n]);omega),by ((try simp only [upd_n,jn_n]);omega)⟩))))
  ·(repeat' (first|with_reducible assumption|((with_reducible refine Top.jn ?_ ?_);rotate_left;(focus with_reducible assumption))|((with_reducible refine Top.upd ?_ ?_ ?_ ?_);rotate_left;(focus ((try simp only [upd_n,jn_n]);omega));(focus ((try simp only [upd_n,jn_n]);omega));(focus first|trivial|apply hLX|apply hLB|apply hLg|exact ⟨by ((try simp only [upd_n,jn_n]);omega),by ((try simp only [upd_n,jn_n]);omega)⟩))))
 ·rintro i h ⟨p,vm,gg,e1,e2,⟨G,e3,e4⟩,⟨k1,k2,k3,k4,k5,k6,k7⟩,k8,k9,k10,k11⟩
  refine ⟨by rw [rd_def,k5];rfl,by rw [rd_def,k6];rfl,by omega,by omega,(hG.fr k10).r⟩
 ·intro i h c hJ
  exact hmono i h _ hJ Fr.ex
 ·rintro i h hi hs ⟨p,vm,gg,e1,⟨e2,e5⟩,er⟩
  rw [drop_getD hi,Pst.run,if_neg hs] at e1
  exact ⟨p,vm,gg,e1,⟨by omega,e5.1,e5.2.1,by omega,e5.2.2.2⟩,er⟩
 ·rintro i h hi hs ⟨p,vm,gg,e1,⟨e2,e3,e4,e5,e6,e7⟩,⟨G,g2,g3⟩,⟨k1,k2,k3,k4,k5,k6,k7⟩,k8,k9,k10,k11⟩
  rw [drop_getD hi,Pst.run,if_pos hs] at e1
  generalize ha:g.Acts.getD i default=a at *
  have hw:IntKind.i64.wrap ((p.next:Int) + 1)=((p.next + 1:Nat):Int):=inc64 (by omega)
  have hw2:IntKind.i64.wrap ((p.ms.length:Int) - 1)=((p.ms.length - 1:Nat):Int):=by rw [wrap64 (by omega) (by omega)];omega
  have hq2:=hJq.n
  have hn0:=k10.n
  have ho:=G.one
  have hps:(ints p.s.1).length=121:=by rw [ints_len,p.s.2]
  have l1:=G.sr.lt
  have r1:h.rd (G0.n + 1)=some (ints p.s.1 ++ [vm]):=by rw [rd_def,k1];rfl
  have r2:h.rd (G0.n + 2)=some [.bool p.ok]:=by rw [rd_def,k2];rfl
  have r3:h.rd (G0.n + 3)=some [.func (.func 101) #[] #[vptr (G0.n + 2) 0,vptr (G0.n + 1) 0]]:=by rw [rd_def,k3];rfl
  have r4:h.rd (G0.n + 4)=some [iv p.next]:=by rw [rd_def,k4];rfl
  have he:Swa.atN (dOf h vm) (voff vm + (p.ms.length - 1) * 4) 4=some (.agg ⟨eMom p.m⟩):=by rw [(G.sr.el eMom_len rfl).2.2.1 _ (by omega),e7]
  refine round_W2 hLO k7 rfl (by kernel_rfl) (by kernel_rfl) (by kernel_rfl) (by kernel_rfl) (by kernel_rfl) ?_
  rw [roundEnv2]
  repeat' (first|((with_reducible refine hK _ _ fun e2 hEn=>?_);clear hK K;simp only [lv83,forallC,forallL,and_true] at hEn;(try simp only [↓pb,qbs,tb83,hG.one,hb0,hEg,irN,nrA,nrM,nrE,reduceIte,reduceCtorEq,nrL] at hEn);clear hEg;(try clear eg);have hEg:=hEn;clear hEn;rename Env=>eg)|((first|((with_reducible first|apply oV_intro|apply oH_intro|apply oB_intro);(simp (disch:=first|exact dA|fail) only [qcs,tb83,hG.one,hb0,eAct,hEg,irN,nrA,nrM,nrE,reduceIte,reduceCtorEq,nrL];with_reducible exact rfl))|((with_reducible first|apply oblA_and|apply oblR_and|apply oblO_and);(focus exact obA))|((with_reducible apply WO_callE);(simp only [↓pb,qbs,tb83,hG.one,hb0,eAct,hEg,irN,nrA,nrM,nrE,reduceIte,reduceCtorEq,nrL];(exact f102 _ _ _ _ _ hG.one.1 hG.one.2.1 hG.one.2.2)))|((with_reducible apply WO_callV);(focus (repeat' (first|with_reducible assumption|((with_reducible refine Top.jn ?_ ?_);rotate_left;(focus with_reducible assumption))|((with_reducible refine Top.upd ?_ ?_ ?_ ?_);rotate_left;(focus ((try simp only [upd_n,jn_n]);omega));(focus ((try simp only [upd_n,jn_n]);omega));(focus first|trivial|apply hLX|apply hLB|apply hLg|exact ⟨by ((try simp only [upd_n,jn_n]);omega),by ((try simp only [upd_n,jn_n]);omega)⟩)))));(simp only [↓pb,qbs,tb83,hG.one,hb0,eAct,hEg,irN,nrA,nrM,nrE,reduceIte,reduceCtorEq,nrL];(exact f100 _ (by (repeat' (first|with_reducible assumption|((with_reducible refine Top.jn ?_ ?_);rotate_left;(focus with_reducible assumption))|((with_reducible refine Top.upd ?_ ?_ ?_ ?_);rotate_left;(focus ((try simp only [upd_n,jn_n]);omega));(focus ((try simp only [upd_n,jn_n]);omega));(focus first|trivial|apply hLX|apply hLB|apply hLg|exact ⟨by ((try simp only [upd_n,jn_n]);omega),by ((try simp only [upd_n,jn_n]);omega)⟩)))))));(intro Gq hq hJq;try simp only [upd_n,jn_n] at hq))|(with_reducible first|refine W_regionF lv83 fun K hK=>?_|refine W_drawnF lv83 fun K hK=>?_));try simp only [↓pb,↓pd,qds,tb83,hG.one,hb0,eAct,hEg,irN,nrA,nrM,nrE,reduceIte,reduceCtorEq,nrL])|((with_reducible apply W_cond);(simp only [↓pb,qbs,tb83,hG.one,hb0,eAct,hEg,irN,nrA,nrM,nrE,reduceIte,reduceCtorEq,nrL];with_reducible exact rfl);all_goals (intro hc;(first|exact hcX hc|try simp only [hcs] at hc)))|(with_reducible first|refine W_seq ?_|refine W_block ?_|refine W_skip ?_|refine W_ret ?_|apply blockK_exit)|((with_reducible apply blockK_pass);(focus decide))|fail)
  refine ⟨rfl,by simp (disch:=first|exact dA|fail) only [qcs,tb83,hG.one,hb0,hEg,irN,nrA,nrM,nrE,reduceIte,reduceCtorEq,nrL];exact k7,fun LB hLB=>?_⟩
  by_cases ht:a.Take=true
  ·repeat' (first|((with_reducible refine hK _ _ fun e2 hEn=>?_);clear hK K;simp only [lv83,forallC,forallL,and_true] at hEn;(try simp only [↓pb,qbs,tb83,hG.one,hb0,hEg,irN,nrA,nrM,nrE,reduceIte,reduceCtorEq,nrL] at hEn);clear hEg;(try clear eg);have hEg:=hEn;clear hEn;rename Env=>eg)|((first|((with_reducible first|apply oV_intro|apply oH_intro|apply oB_intro);(simp (disch:=first|exact dA|fail) only [qcs,tb83,hG.one,hb0,eAct,r1,r2,r3,r4,k1,k2,k4,at121,set121,st121,lns97 G.sr,hw,hw2,ias97 G.sr,G.sr.rd,he,eMom,ht,hEg,irN,nrA,nrM,nrE,reduceIte,reduceCtorEq,nrL];with_reducible exact rfl))|((with_reducible first|apply oblA_and|apply oblR_and|apply oblO_and);(focus exact obA))|((with_reducible apply WO_callE);(simp only [↓pb,qbs,tb83,hG.one,hb0,eAct,r1,r2,r3,r4,k1,k2,k4,at121,set121,st121,lns97 G.sr,hw,hw2,ias97 G.sr,G.sr.rd,he,eMom,ht,hEg,irN,nrA,nrM,nrE,reduceIte,reduceCtorEq,nrL];(exact f102 _ _ _ _ _ hG.one.1 hG.one.2.1 hG.one.2.2)))|((with_reducible apply WO_callM);(simp only [↓pb,qbs,tb83,hG.one,hb0,eAct,r1,r2,r3,r4,k1,k2,k4,at121,set121,st121,lns97 G.sr,hw,hw2,ias97 G.sr,G.sr.rd,he,eMom,ht,hEg,irN,nrA,nrM,nrE,reduceIte,reduceCtorEq,nrL];(exact f101 _ _ (by omega) (by omega) _ _ vm _ _ _ _ (by (repeat' (first|with_reducible assumption|((with_reducible refine Top.jn ?_ ?_);rotate_left;(focus with_reducible assumption))|((with_reducible refine Top.upd ?_ ?_ ?_ ?_);rotate_left;(focus ((try simp only [upd_n,jn_n]);omega));(focus ((try simp only [upd_n,jn_n]);omega));(focus first|trivial|apply hLX|apply hLB|apply hLg|exact ⟨by ((try simp only [upd_n,jn_n]);omega),by ((try simp only [upd_n,jn_n]);omega)⟩))))) (by simp (disch:=first|exact dA|fail) only [qcs,tb83,hG.one,hb0,eAct,r1,r2,r3,r4,k1,k2,k4,at121,set121,st121,lns97 G.sr,hw,hw2,ias97 G.sr,G.sr.rd,he,eMom,ht,hEg,irN,nrA,nrM,nrE,reduceIte,reduceCtorEq,nrL];rfl) (by simp (disch:=first|exact dA|fail) only [qcs,tb83,hG.one,hb0,eAct,r1,r2,r3,r4,k1,k2,k4,at121,set121,st121,lns97 G.sr,hw,hw2,ias97 G.sr,G.sr.rd,he,eMom,ht,hEg,irN,nrA,nrM,nrE,reduceIte,reduceCtorEq,nrL];rfl) oA oA oA ho));(intro Gq hq hJq;try simp only [upd_n,jn_n] at hq))|((with_reducible apply WO_callV);(focus (repeat' (first|with_reducible assumption|((with_reducible refine Top.jn ?_ ?_);rotate_left;(focus with_reducible assumption))|((with_reducible refine Top.upd ?_ ?_ ?_ ?_);rotate_left;(focus ((try simp only [upd_n,jn_n]);omega));(focus ((try simp only [upd_n,jn_n]);omega));(focus first|trivial|apply hLX|apply hLB|apply hLg|exact ⟨by ((try simp only [upd_n,jn_n]);omega),by ((try simp only [upd_n,jn_n]);omega)⟩)))));(simp only [↓pb,qbs,tb83,hG.one,hb0,eAct,r1,r2,r3,r4,k1,k2,k4,at121,set121,st121,lns97 G.sr,hw,hw2,ias97 G.sr,G.sr.rd,he,eMom,ht,hEg,irN,nrA,nrM,nrE,reduceIte,reduceCtorEq,nrL];(exact f100 _ (by (repeat' (first|with_reducible assumption|((with_reducible refine Top.jn ?_ ?_);rotate_left;(focus with_reducible assumption))|((with_reducible refine Top.upd ?_ ?_ ?_ ?_);rotate_left;(focus ((try simp only [upd_n,jn_n]);omega));(focus ((try simp only [upd_n,jn_n]);omega));(focus first|trivial|apply hLX|apply hLB|apply hLg|exact ⟨by ((try simp only [upd_n,jn_n]);omega),by ((try simp only [upd_n,jn_n]);omega)⟩)))))));(intro Gq hq hJq;try simp only [upd_n,jn_n] at hq))|(with_reducible first|refine W_regionF lv83 fun K hK=>?_|refine W_drawnF lv83 fun K hK=>?_));try simp only [↓pb,↓pd,qds,tb83,hG.one,hb0,eAct,r1,r2,r3,r4,k1,k2,k4,at121,set121,st121,lns97 G.sr,hw,hw2,ias97 G.sr,G.sr.rd,he,eMom,ht,hEg,irN,nrA,nrM,nrE,reduceIte,reduceCtorEq,nrL])|((with_reducible apply W_cond);(simp only [↓pb,qbs,tb83,hG.one,hb0,eAct,r1,r2,r3,r4,k1,k2,k4,at121,set121,st121,lns97 G.sr,hw,hw2,ias97 G.sr,G.sr.rd,he,eMom,ht,hEg,irN,nrA,nrM,nrE,reduceIte,reduceCtorEq,nrL];with_reducible exact rfl);all_goals (intro hc;(first|exact hcX hc|try simp only [hcs] at hc)))|(with_reducible first|refine W_seq ?_|refine W_block ?_|refine W_skip ?_|refine W_ret ?_|apply blockK_exit)|((with_reducible apply blockK_pass);(focus decide))|fail)
   refine pu97 (n:=p.ms.length) (m:=1) (c:=p.ms.flatMap eMom) (g:=gg) (GS.ex (G.fr (N:=h.n) (X:=[G0.n + 1,G0.n + 2,G0.n + 4,G0.n + 7]) (by (repeat' (first|with_reducible exact Fr.refl _|with_reducible assumption|((with_reducible apply Fr.trans) <;> with_reducible assumption)|((with_reducible refine Fr.jn ?_ ?_ ?_);rotate_left;(focus with_reducible assumption);(focus ((try simp only [upd_n,jn_n]);omega)))|((with_reducible refine Fr.upd ?_ ?_ ?_ ?_ ?_);rotate_left;(focus ((try simp only [upd_n,jn_n]);omega));(focus ((try simp only [upd_n,jn_n]);omega));(focus first|(left;((try simp only [upd_n,jn_n]);omega))|(right;simp;done));(focus first|trivial|apply hLX|apply hLB|apply hLg|exact ⟨by ((try simp only [upd_n,jn_n]);omega),by ((try simp only [upd_n,jn_n]);omega)⟩))))) (fun x hx=>by subst hx;exact G.grp_lt) (by simp;omega))) (SR.new rfl) (by omega) (by omega) (by omega) (by (repeat' (first|with_reducible assumption|((with_reducible refine Top.jn ?_ ?_);rotate_left;(focus with_reducible assumption))|((with_reducible refine Top.upd ?_ ?_ ?_ ?_);rotate_left;(focus ((try simp only [upd_n,jn_n]);omega));(focus ((try simp only [upd_n,jn_n]);omega));(focus first|trivial|apply hLX|apply hLB|apply hLg|exact ⟨by ((try simp only [upd_n,jn_n]);omega),by ((try simp only [upd_n,jn_n]);omega)⟩))))) fun GG=>?_
   rw [Pst.step_take ht] at e1
   simp only [↓pb,↓pd,qds,tb83,hG.one,hb0,eAct,r1,r2,r3,r4,k1,k2,k4,at121,set121,st121,lns97 G.sr,hw,hw2,ias97 G.sr,G.sr.rd,he,eMom,ht,hEg,irN,nrA,nrM,nrE,reduceIte,reduceCtorEq,nrL]
   repeat' (first|((with_reducible refine hK _ _ fun e2 hEn=>?_);clear hK K;simp only [lv83,forallC,forallL,and_true] at hEn;(try simp only [↓pb,qbs,tb83,hG.one,hb0,hEg,irN,nrA,nrM,nrE,reduceIte,reduceCtorEq,nrL] at hEn);clear hEg;(try clear eg);have hEg:=hEn;clear hEn;rename Env=>eg)|((first|((with_reducible first|apply oV_intro|apply oH_intro|apply oB_intro);(simp (disch:=first|exact dA|fail) only [qcs,tb83,hG.one,hb0,eAct,r1,r2,r3,r4,k1,k2,k4,at121,set121,st121,lns97 G.sr,hw,hw2,ias97 G.sr,G.sr.rd,he,eMom,ht,hEg,irN,nrA,nrM,nrE,reduceIte,reduceCtorEq,nrL];with_reducible exact rfl))|((with_reducible first|apply oblA_and|apply oblR_and|apply oblO_and);(focus exact obA))|((with_reducible apply WO_callE);(simp only [↓pb,qbs,tb83,hG.one,hb0,eAct,r1,r2,r3,r4,k1,k2,k4,at121,set121,st121,lns97 G.sr,hw,hw2,ias97 G.sr,G.sr.rd,he,eMom,ht,hEg,irN,nrA,nrM,nrE,reduceIte,reduceCtorEq,nrL];(exact f102 _ _ _ _ _ hG.one.1 hG.one.2.1 hG.one.2.2)))|((with_reducible apply WO_callV);(focus (repeat' (first|with_reducible assumption|((with_reducible refine Top.jn ?_ ?_);rotate_left;(focus with_reducible assumption))|((with_reducible refine Top.upd ?_ ?_ ?_ ?_);rotate_left;(focus ((try simp only [upd_n,jn_n]);omega));(focus ((try simp only [upd_n,jn_n]);omega));(focus first|trivial|apply hLX|apply hLB|apply hLg|exact ⟨by ((try simp only [upd_n,jn_n]);omega),by ((try simp only [upd_n,jn_n]);omega)⟩)))));(simp only [↓pb,qbs,tb83,hG.one,hb0,eAct,r1,r2,r3,r4,k1,k2,k4,at121,set121,st121,lns97 G.sr,hw,hw2,ias97 G.sr,G.sr.rd,he,eMom,ht,hEg,irN,nrA,nrM,nrE,reduceIte,reduceCtorEq,nrL];(exact f100 _ (by (repeat' (first|with_reducible assumption|((with_reducible refine Top.jn ?_ ?_);rotate_left;(focus with_reducible assumption))|((with_reducible refine Top.upd ?_ ?_ ?_ ?_);rotate_left;(focus ((try simp only [upd_n,jn_n]);omega));(focus ((try simp only [upd_n,jn_n]);omega));(focus first|trivial|apply hLX|apply hLB|apply hLg|exact ⟨by ((try simp only [upd_n,jn_n]);omega),by ((try simp only [upd_n,jn_n]);omega)⟩)))))));(intro Gq hq hJq;try simp only [upd_n,jn_n] at hq))|(with_reducible first|refine W_regionF lv83 fun K hK=>?_|refine W_drawnF lv83 fun K hK=>?_));try simp only [↓pb,↓pd,qds,tb83,hG.one,hb0,eAct,r1,r2,r3,r4,k1,k2,k4,at121,set121,st121,lns97 G.sr,hw,hw2,ias97 G.sr,G.sr.rd,he,eMom,ht,hEg,irN,nrA,nrM,nrE,reduceIte,reduceCtorEq,nrL])|((with_reducible apply W_cond);(simp only [↓pb,qbs,tb83,hG.one,hb0,eAct,r1,r2,r3,r4,k1,k2,k4,at121,set121,st121,lns97 G.sr,hw,hw2,ias97 G.sr,G.sr.rd,he,eMom,ht,hEg,irN,nrA,nrM,nrE,reduceIte,reduceCtorEq,nrL];with_reducible exact rfl);all_goals (intro hc;(first|exact hcX hc|try simp only [hcs] at hc)))|(with_reducible first|refine W_seq ?_|refine W_block ?_|refine W_skip ?_|refine W_ret ?_|apply blockK_exit)|((with_reducible apply blockK_pass);(focus decide))|fail)
   refine ⟨rfl,by simp (disch:=first|exact dA|fail) only [qcs,tb83,hG.one,hb0,hEg,irN,nrA,nrM,nrE,reduceIte,reduceCtorEq,nrL],_,.slice (some ⟨Gq.n + 1,0,none⟩) (p.ms.length + 1) (p.ms.length + 1),some (gg.getD (Gq.n + 1)),e1,⟨by dsimp only;omega,by dsimp only;omega,by dsimp only;omega, ?_, ?_, ?_⟩,⟨?_, ?_, ?_⟩,⟨?_, ?_, ?_, ?_, ?_, ?_, ?_⟩, ?_, ?_, ?_, ?_⟩
   all_goals have hgd1:G0.n≤gg.getD (Gq.n + 1):=by cases gg with|none=>(show G0.n≤Gq.n + 1;omega)|some gx=>exact g2 _ rfl
   all_goals have hgd2:=GG.grp_lt
   all_goals simp only [upd_n,jn_n] at hgd2
   all_goals simp only [upd_n,jn_n,nb] at GG
   ·show (p.ms ++ [_]).length≤i + 1 + 1
    rw [List.length_append,List.length_singleton]
    omega
   ·show 0 < (p.ms ++ [_]).length
    rw [List.length_append,List.length_singleton]
    omega
   ·exact getD_app
   ·show GS _ 4 (p.ms ++ [_]).length _ ((p.ms ++ [_]).flatMap eMom) _
    rw [List.flatMap_append,List.length_append]
    exact GG.fr (N:=Gq.n + 2) (X:=[G0.n + 1,G0.n + 7]) (by (repeat' (first|with_reducible exact Fr.refl _|with_reducible assumption|((with_reducible apply Fr.trans) <;> with_reducible assumption)|((with_reducible refine Fr.jn ?_ ?_ ?_);rotate_left;(focus with_reducible assumption);(focus ((try simp only [upd_n,jn_n]);omega)))|((with_reducible refine Fr.upd ?_ ?_ ?_ ?_ ?_);rotate_left;(focus ((try simp only [upd_n,jn_n]);omega));(focus ((try simp only [upd_n,jn_n]);omega));(focus first|(left;((try simp only [upd_n,jn_n]);omega))|(right;simp;done));(focus first|trivial|apply hLX|apply hLB|apply hLg|exact ⟨by ((try simp only [upd_n,jn_n]);omega),by ((try simp only [upd_n,jn_n]);omega)⟩))))) (fun x hx=>by have:=GG.grp_lt;cases hx;exact this) (by show Gq.n + 1∉[G0.n + 1,G0.n + 7];simp only [List.mem_cons,List.not_mem_nil,or_false,not_or];omega)
   ·intro x hx
    cases hx
    cases gg with
    | none=>show G0.n≤Gq.n + 1;omega
    | some gx=>exact g2 _ rfl
   ·right
    show G0.n + 7 < Gq.n + 1
    omega
   ·simp (disch:=first|exact dA|fail) only [qcs,tb83,hG.one,hb0,hEg,irN,nrA,nrM,nrE,reduceIte,reduceCtorEq,nrL]
    rfl
   ·simp (disch:=first|exact dA|fail) only [qcs,tb83,hG.one,hb0,hEg,irN,nrA,nrM,nrE,reduceIte,reduceCtorEq,nrL]
    rfl
   ·simp (disch:=first|exact dA|fail) only [qcs,tb83,hG.one,hb0,hEg,irN,nrA,nrM,nrE,reduceIte,reduceCtorEq,nrL]
    exact k3
   ·simp (disch:=first|exact dA|fail) only [qcs,tb83,hG.one,hb0,hEg,irN,nrA,nrM,nrE,reduceIte,reduceCtorEq,nrL]
   ·simp (disch:=first|exact dA|fail) only [qcs,tb83,hG.one,hb0,hEg,irN,nrA,nrM,nrE,reduceIte,reduceCtorEq,nrL]
    exact k5
   ·simp (disch:=first|exact dA|fail) only [qcs,tb83,hG.one,hb0,hEg,irN,nrA,nrM,nrE,reduceIte,reduceCtorEq,nrL]
    exact k6
   ·simp (disch:=first|exact dA|fail) only [qcs,tb83,hG.one,hb0,hEg,irN,nrA,nrM,nrE,reduceIte,reduceCtorEq,nrL]
   ·simp (disch:=first|exact dA|fail) only [qcs,tb83,hG.one,hb0,hEg,irN,nrA,nrM,nrE,reduceIte,reduceCtorEq,nrL]
    exact k8
   ·simp only [upd_n,jn_n]
    omega
   ·(repeat' (first|with_reducible exact Fr.refl _|with_reducible assumption|((with_reducible apply Fr.trans) <;> with_reducible assumption)|((with_reducible refine Fr.jn ?_ ?_ ?_);rotate_left;(focus with_reducible assumption);(focus ((try simp only [upd_n,jn_n]);omega)))|((with_reducible refine Fr.upd ?_ ?_ ?_ ?_ ?_);rotate_left;(focus ((try simp only [upd_n,jn_n]);omega));(focus ((try simp only [upd_n,jn_n]);omega));(focus first|(left;((try simp only [upd_n,jn_n]);omega))|(right;simp;done));(focus first|trivial|apply hLX|apply hLB|apply hLg|exact ⟨by ((try simp only [upd_n,jn_n]);omega),by ((try simp only [upd_n,jn_n]);omega)⟩))))
   ·(repeat' (first|with_reducible assumption|((with_reducible refine Top.jn ?_ ?_);rotate_left;(focus with_reducible assumption))|((with_reducible refine Top.upd ?_ ?_ ?_ ?_);rotate_left;(focus ((try simp only [upd_n,jn_n]);omega));(focus ((try simp only [upd_n,jn_n]);omega));(focus first|trivial|apply hLX|apply hLB|apply hLg|exact ⟨by ((try simp only [upd_n,jn_n]);omega),by ((try simp only [upd_n,jn_n]);omega)⟩))))
  ·have hf:a.Take=false:=by simpa using ht
   repeat' (first|((with_reducible refine hK _ _ fun e2 hEn=>?_);clear hK K;simp only [lv83,forallC,forallL,and_true] at hEn;(try simp only [↓pb,qbs,tb83,hG.one,hb0,hEg,irN,nrA,nrM,nrE,reduceIte,reduceCtorEq,nrL] at hEn);clear hEg;(try clear eg);have hEg:=hEn;clear hEn;rename Env=>eg)|((first|((with_reducible first|apply oV_intro|apply oH_intro|apply oB_intro);(simp (disch:=first|exact dA|fail) only [qcs,tb83,hG.one,hb0,eAct,r1,r2,r3,r4,k1,k2,k4,at121,set121,st121,lns97 G.sr,hw,hw2,ias97 G.sr,G.sr.rd,he,eMom,hf,hEg,irN,nrA,nrM,nrE,reduceIte,reduceCtorEq,nrL];with_reducible exact rfl))|((with_reducible first|apply oblA_and|apply oblR_and|apply oblO_and);(focus exact obA))|((with_reducible apply WO_callE);(simp only [↓pb,qbs,tb83,hG.one,hb0,eAct,r1,r2,r3,r4,k1,k2,k4,at121,set121,st121,lns97 G.sr,hw,hw2,ias97 G.sr,G.sr.rd,he,eMom,hf,hEg,irN,nrA,nrM,nrE,reduceIte,reduceCtorEq,nrL];(exact f102 _ _ _ _ _ hG.one.1 hG.one.2.1 hG.one.2.2)))|((with_reducible apply WO_callM);(simp only [↓pb,qbs,tb83,hG.one,hb0,eAct,r1,r2,r3,r4,k1,k2,k4,at121,set121,st121,lns97 G.sr,hw,hw2,ias97 G.sr,G.sr.rd,he,eMom,hf,hEg,irN,nrA,nrM,nrE,reduceIte,reduceCtorEq,nrL];(exact f101 _ _ (by omega) (by omega) _ _ vm _ _ _ _ (by (repeat' (first|with_reducible assumption|((with_reducible refine Top.jn ?_ ?_);rotate_left;(focus with_reducible assumption))|((with_reducible refine Top.upd ?_ ?_ ?_ ?_);rotate_left;(focus ((try simp only [upd_n,jn_n]);omega));(focus ((try simp only [upd_n,jn_n]);omega));(focus first|trivial|apply hLX|apply hLB|apply hLg|exact ⟨by ((try simp only [upd_n,jn_n]);omega),by ((try simp only [upd_n,jn_n]);omega)⟩))))) (by simp (disch:=first|exact dA|fail) only [qcs,tb83,hG.one,hb0,eAct,r1,r2,r3,r4,k1,k2,k4,at121,set121,st121,lns97 G.sr,hw,hw2,ias97 G.sr,G.sr.rd,he,eMom,hf,hEg,irN,nrA,nrM,nrE,reduceIte,reduceCtorEq,nrL];rfl) (by simp (disch:=first|exact dA|fail) only [qcs,tb83,hG.one,hb0,eAct,r1,r2,r3,r4,k1,k2,k4,at121,set121,st121,lns97 G.sr,hw,hw2,ias97 G.sr,G.sr.rd,he,eMom,hf,hEg,irN,nrA,nrM,nrE,reduceIte,reduceCtorEq,nrL];rfl) oA oA oA ho));(intro Gq hq hJq;try simp only [upd_n,jn_n] at hq))|((with_reducible apply WO_callV);(focus (repeat' (first|with_reducible assumption|((with_reducible refine Top.jn ?_ ?_);rotate_left;(focus with_reducible assumption))|((with_reducible refine Top.upd ?_ ?_ ?_ ?_);rotate_left;(focus ((try simp only [upd_n,jn_n]);omega));(focus ((try simp only [upd_n,jn_n]);omega));(focus first|trivial|apply hLX|apply hLB|apply hLg|exact ⟨by ((try simp only [upd_n,jn_n]);omega),by ((try simp only [upd_n,jn_n]);omega)⟩)))));(simp only [↓pb,qbs,tb83,hG.one,hb0,eAct,r1,r2,r3,r4,k1,k2,k4,at121,set121,st121,lns97 G.sr,hw,hw2,ias97 G.sr,G.sr.rd,he,eMom,hf,hEg,irN,nrA,nrM,nrE,reduceIte,reduceCtorEq,nrL];(exact f100 _ (by (repeat' (first|with_reducible assumption|((with_reducible refine Top.jn ?_ ?_);rotate_left;(focus with_reducible assumption))|((with_reducible refine Top.upd ?_ ?_ ?_ ?_);rotate_left;(focus ((try simp only [upd_n,jn_n]);omega));(focus ((try simp only [upd_n,jn_n]);omega));(focus first|trivial|apply hLX|apply hLB|apply hLg|exact ⟨by ((try simp only [upd_n,jn_n]);omega),by ((try simp only [upd_n,jn_n]);omega)⟩)))))));(intro Gq hq hJq;try simp only [upd_n,jn_n] at hq))|(with_reducible first|refine W_regionF lv83 fun K hK=>?_|refine W_drawnF lv83 fun K hK=>?_));try simp only [↓pb,↓pd,qds,tb83,hG.one,hb0,eAct,r1,r2,r3,r4,k1,k2,k4,at121,set121,st121,lns97 G.sr,hw,hw2,ias97 G.sr,G.sr.rd,he,eMom,hf,hEg,irN,nrA,nrM,nrE,reduceIte,reduceCtorEq,nrL])|((with_reducible apply W_cond);(simp only [↓pb,qbs,tb83,hG.one,hb0,eAct,r1,r2,r3,r4,k1,k2,k4,at121,set121,st121,lns97 G.sr,hw,hw2,ias97 G.sr,G.sr.rd,he,eMom,hf,hEg,irN,nrA,nrM,nrE,reduceIte,reduceCtorEq,nrL];with_reducible exact rfl);all_goals (intro hc;(first|exact hcX hc|try simp only [hcs] at hc)))|(with_reducible first|refine W_seq ?_|refine W_block ?_|refine W_skip ?_|refine W_ret ?_|apply blockK_exit)|((with_reducible apply blockK_pass);(focus decide))|fail)
   refine pu97 (n:=p.ms.length) (m:=1) (c:=p.ms.flatMap eMom) (g:=gg) (GS.ex (G.fr (N:=h.n) (X:=[G0.n + 1,G0.n + 2,G0.n + 4,G0.n + 7]) (by (repeat' (first|with_reducible exact Fr.refl _|with_reducible assumption|((with_reducible apply Fr.trans) <;> with_reducible assumption)|((with_reducible refine Fr.jn ?_ ?_ ?_);rotate_left;(focus with_reducible assumption);(focus ((try simp only [upd_n,jn_n]);omega)))|((with_reducible refine Fr.upd ?_ ?_ ?_ ?_ ?_);rotate_left;(focus ((try simp only [upd_n,jn_n]);omega));(focus ((try simp only [upd_n,jn_n]);omega));(focus first|(left;((try simp only [upd_n,jn_n]);omega))|(right;simp;done));(focus first|trivial|apply hLX|apply hLB|apply hLg|exact ⟨by ((try simp only [upd_n,jn_n]);omega),by ((try simp only [upd_n,jn_n]);omega)⟩))))) (fun x hx=>by subst hx;exact G.grp_lt) (by simp;omega))) (SR.new rfl) (by omega) (by omega) (by omega) (by (repeat' (first|with_reducible assumption|((with_reducible refine Top.jn ?_ ?_);rotate_left;(focus with_reducible assumption))|((with_reducible refine Top.upd ?_ ?_ ?_ ?_);rotate_left;(focus ((try simp only [upd_n,jn_n]);omega));(focus ((try simp only [upd_n,jn_n]);omega));(focus first|trivial|apply hLX|apply hLB|apply hLg|exact ⟨by ((try simp only [upd_n,jn_n]);omega),by ((try simp only [upd_n,jn_n]);omega)⟩))))) fun GG=>?_
   rw [Pst.step_tip ht] at e1
   simp only [↓pb,↓pd,qds,tb83,hG.one,hb0,eAct,r1,r2,r3,r4,k1,k2,k4,at121,set121,st121,lns97 G.sr,hw,hw2,ias97 G.sr,G.sr.rd,he,eMom,hf,hEg,irN,nrA,nrM,nrE,reduceIte,reduceCtorEq,nrL]
   repeat' (first|((with_reducible refine hK _ _ fun e2 hEn=>?_);clear hK K;simp only [lv83,forallC,forallL,and_true] at hEn;(try simp only [↓pb,qbs,tb83,hG.one,hb0,hEg,irN,nrA,nrM,nrE,reduceIte,reduceCtorEq,nrL] at hEn);clear hEg;(try clear eg);have hEg:=hEn;clear hEn;rename Env=>eg)|((first|((with_reducible first|apply oV_intro|apply oH_intro|apply oB_intro);(simp (disch:=first|exact dA|fail) only [qcs,tb83,hG.one,hb0,eAct,r1,r2,r3,r4,k1,k2,k4,at121,set121,st121,lns97 G.sr,hw,hw2,ias97 G.sr,G.sr.rd,he,eMom,hf,hEg,irN,nrA,nrM,nrE,reduceIte,reduceCtorEq,nrL];with_reducible exact rfl))|((with_reducible first|apply oblA_and|apply oblR_and|apply oblO_and);(focus exact obA))|((with_reducible apply WO_callE);(simp only [↓pb,qbs,tb83,hG.one,hb0,eAct,r1,r2,r3,r4,k1,k2,k4,at121,set121,st121,lns97 G.sr,hw,hw2,ias97 G.sr,G.sr.rd,he,eMom,hf,hEg,irN,nrA,nrM,nrE,reduceIte,reduceCtorEq,nrL];(exact f102 _ _ _ _ _ hG.one.1 hG.one.2.1 hG.one.2.2)))|((with_reducible apply WO_callV);(focus (repeat' (first|with_reducible assumption|((with_reducible refine Top.jn ?_ ?_);rotate_left;(focus with_reducible assumption))|((with_reducible refine Top.upd ?_ ?_ ?_ ?_);rotate_left;(focus ((try simp only [upd_n,jn_n]);omega));(focus ((try simp only [upd_n,jn_n]);omega));(focus first|trivial|apply hLX|apply hLB|apply hLg|exact ⟨by ((try simp only [upd_n,jn_n]);omega),by ((try simp only [upd_n,jn_n]);omega)⟩)))));(simp only [↓pb,qbs,tb83,hG.one,hb0,eAct,r1,r2,r3,r4,k1,k2,k4,at121,set121,st121,lns97 G.sr,hw,hw2,ias97 G.sr,G.sr.rd,he,eMom,hf,hEg,irN,nrA,nrM,nrE,reduceIte,reduceCtorEq,nrL];(exact f100 _ (by (repeat' (first|with_reducible assumption|((with_reducible refine Top.jn ?_ ?_);rotate_left;(focus with_reducible assumption))|((with_reducible refine Top.upd ?_ ?_ ?_ ?_);rotate_left;(focus ((try simp only [upd_n,jn_n]);omega));(focus ((try simp only [upd_n,jn_n]);omega));(focus first|trivial|apply hLX|apply hLB|apply hLg|exact ⟨by ((try simp only [upd_n,jn_n]);omega),by ((try simp only [upd_n,jn_n]);omega)⟩)))))));(intro Gq hq hJq;try simp only [upd_n,jn_n] at hq))|(with_reducible first|refine W_regionF lv83 fun K hK=>?_|refine W_drawnF lv83 fun K hK=>?_));try simp only [↓pb,↓pd,qds,tb83,hG.one,hb0,eAct,r1,r2,r3,r4,k1,k2,k4,at121,set121,st121,lns97 G.sr,hw,hw2,ias97 G.sr,G.sr.rd,he,eMom,hf,hEg,irN,nrA,nrM,nrE,reduceIte,reduceCtorEq,nrL])|((with_reducible apply W_cond);(simp only [↓pb,qbs,tb83,hG.one,hb0,eAct,r1,r2,r3,r4,k1,k2,k4,at121,set121,st121,lns97 G.sr,hw,hw2,ias97 G.sr,G.sr.rd,he,eMom,hf,hEg,irN,nrA,nrM,nrE,reduceIte,reduceCtorEq,nrL];with_reducible exact rfl);all_goals (intro hc;(first|exact hcX hc|try simp only [hcs] at hc)))|(with_reducible first|refine W_seq ?_|refine W_block ?_|refine W_skip ?_|refine W_ret ?_|apply blockK_exit)|((with_reducible apply blockK_pass);(focus decide))|fail)
   refine ⟨rfl,by simp (disch:=first|exact dA|fail) only [qcs,tb83,hG.one,hb0,hEg,irN,nrA,nrM,nrE,reduceIte,reduceCtorEq,nrL],_,.slice (some ⟨Gq.n + 1,0,none⟩) (p.ms.length + 1) (p.ms.length + 1),some (gg.getD (Gq.n + 1)),e1,⟨by dsimp only;omega,by dsimp only;omega,by dsimp only;omega, ?_, ?_, ?_⟩,⟨?_, ?_, ?_⟩,⟨?_, ?_, ?_, ?_, ?_, ?_, ?_⟩, ?_, ?_, ?_, ?_⟩
   all_goals have hgd1:G0.n≤gg.getD (Gq.n + 1):=by cases gg with|none=>(show G0.n≤Gq.n + 1;omega)|some gx=>exact g2 _ rfl
   all_goals have hgd2:=GG.grp_lt
   all_goals simp only [upd_n,jn_n] at hgd2
   all_goals simp only [upd_n,jn_n,nb] at GG
   ·show (p.ms ++ [_]).length≤i + 1 + 1
    rw [List.length_append,List.length_singleton]
    omega
   ·show 0 < (p.ms ++ [_]).length
    rw [List.length_append,List.length_singleton]
    omega
   ·exact getD_app
   ·show GS _ 4 (p.ms ++ [_]).length _ ((p.ms ++ [_]).flatMap eMom) _
    rw [List.flatMap_append,List.length_append]
    exact GG.fr (N:=Gq.n + 2) (X:=[G0.n + 1,G0.n + 7]) (by (repeat' (first|with_reducible exact Fr.refl _|with_reducible assumption|((with_reducible apply Fr.trans) <;> with_reducible assumption)|((with_reducible refine Fr.jn ?_ ?_ ?_);rotate_left;(focus with_reducible assumption);(focus ((try simp only [upd_n,jn_n]);omega)))|((with_reducible refine Fr.upd ?_ ?_ ?_ ?_ ?_);rotate_left;(focus ((try simp only [upd_n,jn_n]);omega));(focus ((try simp only [upd_n,jn_n]);omega));(focus first|(left;((try simp only [upd_n,jn_n]);omega))|(right;simp;done));(focus first|trivial|apply hLX|apply hLB|apply hLg|exact ⟨by ((try simp only [upd_n,jn_n]);omega),by ((try simp only [upd_n,jn_n]);omega)⟩))))) (fun x hx=>by have:=GG.grp_lt;cases hx;exact this) (by show Gq.n + 1∉[G0.n + 1,G0.n + 7];simp only [List.mem_cons,List.not_mem_nil,or_false,not_or];omega)
   ·intro x hx
    cases hx
    cases gg with
    | none=>show G0.n≤Gq.n + 1;omega
    | some gx=>exact g2 _ rfl
   ·right
    show G0.n + 7 < Gq.n + 1
    omega
   ·simp (disch:=first|exact dA|fail) only [qcs,tb83,hG.one,hb0,hEg,irN,nrA,nrM,nrE,reduceIte,reduceCtorEq,nrL]
    rfl
   ·simp (disch:=first|exact dA|fail) only [qcs,tb83,hG.one,hb0,hEg,irN,nrA,nrM,nrE,reduceIte,reduceCtorEq,nrL]
    rfl
   ·simp (disch:=first|exact dA|fail) only [qcs,tb83,hG.one,hb0,hEg,irN,nrA,nrM,nrE,reduceIte,reduceCtorEq,nrL]
    exact k3
   ·simp (disch:=first|exact dA|fail) only [qcs,tb83,hG.one,hb0,hEg,irN,nrA,nrM,nrE,reduceIte,reduceCtorEq,nrL]
   ·simp (disch:=first|exact dA|fail) only [qcs,tb83,hG.one,hb0,hEg,irN,nrA,nrM,nrE,reduceIte,reduceCtorEq,nrL]
    exact k5
   ·simp (disch:=first|exact dA|fail) only [qcs,tb83,hG.one,hb0,hEg,irN,nrA,nrM,nrE,reduceIte,reduceCtorEq,nrL]
    exact k6
   ·simp (disch:=first|exact dA|fail) only [qcs,tb83,hG.one,hb0,hEg,irN,nrA,nrM,nrE,reduceIte,reduceCtorEq,nrL]
   ·simp (disch:=first|exact dA|fail) only [qcs,tb83,hG.one,hb0,hEg,irN,nrA,nrM,nrE,reduceIte,reduceCtorEq,nrL]
    exact k8
   ·simp only [upd_n,jn_n]
    omega
   ·(repeat' (first|with_reducible exact Fr.refl _|with_reducible assumption|((with_reducible apply Fr.trans) <;> with_reducible assumption)|((with_reducible refine Fr.jn ?_ ?_ ?_);rotate_left;(focus with_reducible assumption);(focus ((try simp only [upd_n,jn_n]);omega)))|((with_reducible refine Fr.upd ?_ ?_ ?_ ?_ ?_);rotate_left;(focus ((try simp only [upd_n,jn_n]);omega));(focus ((try simp only [upd_n,jn_n]);omega));(focus first|(left;((try simp only [upd_n,jn_n]);omega))|(right;simp;done));(focus first|trivial|apply hLX|apply hLB|apply hLg|exact ⟨by ((try simp only [upd_n,jn_n]);omega),by ((try simp only [upd_n,jn_n]);omega)⟩))))
   ·(repeat' (first|with_reducible assumption|((with_reducible refine Top.jn ?_ ?_);rotate_left;(focus with_reducible assumption))|((with_reducible refine Top.upd ?_ ?_ ?_ ?_);rotate_left;(focus ((try simp only [upd_n,jn_n]);omega));(focus ((try simp only [upd_n,jn_n]);omega));(focus first|trivial|apply hLX|apply hLB|apply hLg|exact ⟨by ((try simp only [upd_n,jn_n]);omega),by ((try simp only [upd_n,jn_n]);omega)⟩))))
theorem GS.nil_len {H:AHeap} {s n:Nat} {c:List Value} {g:Option Nat} (h:GS H s n (.slice none 0 0) c g):n=0:=by
 cases h with
 | nil hn hv hc=>exact hn
 | full hv=>cases hv
 | gr hv=>cases hv
set_option maxHeartbeats 4000000 in
theorem f54 (va vb vc:Value) (g:Gnd) (H:AHeap) (hT:Top H) (hG:RG H va vb vc g) (hm:g.Acts.length≤10) (hs:g.Spots.length≤20) :
  ∃ v H',C5 (.fn 54) #[.agg ⟨[va,vb,vc]⟩] H v H'∧(∃ vh l,v=.tuple #[.agg ⟨[va,vb,vc,vh]⟩,iv (known g).2]∧RHs H' vh l∧l.map (·.1)=(known g).1)∧Fr H.n [] H H':=by
 refine Cl.ofW Try.func54 rfl (by kernel_rfl) (by rw [Try.ntmps54];exact Nat.le_of_ble_eq_true rfl) (by kernel_rfl) ?_
 have hEg:True:=trivial
 refine gcW [0] ?_
 intro eg hEn
 simp only [forallC,forallL,and_true] at hEn
 try simp only [↓pb,qbs,tb54,hG.one,lns22 hG.p,hEg,irN,nrA,nrM,nrE,reduceIte,reduceCtorEq,nrL] at hEn
 replace hEg:=hEn;clear hEn
 repeat' (first|((with_reducible refine hK _ _ fun e2 hEn=>?_);clear hK K;simp only [lv54,forallC,forallL,and_true] at hEn;(try simp only [↓pb,qbs,tb54,hG.one,lns22 hG.p,hEg,irN,nrA,nrM,nrE,reduceIte,reduceCtorEq,nrL] at hEn);clear hEg;(try clear eg);have hEg:=hEn;clear hEn;rename Env=>eg)|((first|((with_reducible first|apply oV_intro|apply oH_intro|apply oB_intro);(simp (disch:=first|exact dA|fail) only [qcs,tb54,hG.one,lns22 hG.p,hEg,irN,nrA,nrM,nrE,reduceIte,reduceCtorEq,nrL];with_reducible exact rfl))|(with_reducible first|refine W_regionF lv54 fun K hK=>?_));try simp only [↓pb,↓pd,qds,tb54,hG.one,lns22 hG.p,hEg,irN,nrA,nrM,nrE,reduceIte,reduceCtorEq,nrL])|((with_reducible apply W_cond);(simp only [↓pb,qbs,tb54,hG.one,lns22 hG.p,hEg,irN,nrA,nrM,nrE,reduceIte,reduceCtorEq,nrL];with_reducible exact rfl);all_goals (intro hc;(first|exact hcX hc|try simp only [hcs] at hc)))|(with_reducible first|refine W_seq ?_|refine W_block ?_|refine W_skip ?_|refine W_ret ?_|refine W_exit ?_|apply blockK_exit)|((with_reducible apply blockK_pass);(focus decide))|fail)
 refine W_count [1,2,4,12] (by kernel_rfl) 13 (g.Spots.length) (H.n) [H.n + 2] [] (fun i e h=>∃ (l:List (Hp×Value)) (vh:Value) (gg:Option Nat),h.get (H.n + 2)=.cells [va,vb,vc,vh] 91 .ex∧GS h 122 l.length vh (l.flatMap eHp) gg∧(∀ x,gg=some x→H.n≤x)∧(vh=.slice none 0 0∨H.n + 2 < vblk vh)∧(∀ j,j < l.length→H.n + 2 < vblk (l.getD j default).2∧SR h 4 (l.getD j default).1.m.length (l.getD j default).2 ((l.getD j default).1.m.flatMap eMom))∧l.length=i∧known g=knownGo g i (g.Spots.length - i) (l.map (·.1))) (by simp only [↓pb,qbs,tb54,hG.one,lns22 hG.p,hEg,irN,nrA,nrM,nrE,reduceIte,reduceCtorEq,nrL]) (by focus exact topA) (H0:=H) (by focus exact frA) (by intro b hb hlt;simp at hb ⊢;try omega) ?_ ?_
 rotate_left
 intro i1 e1 h1 hi1 hE1 ei1 hF1 hF01 hTh1 hJ1
 simp only [forallC,forallL,and_true] at hE1
 try simp only [↓pb,qbs,tb54,hG.one,lns22 hG.p,hEg,irN,nrA,nrM,nrE,reduceIte,reduceCtorEq,nrL] at hE1
 have hn11:=hF1.n;have hn01:=hF01.n;try simp only [upd_n,jn_n] at hn11
 replace hEg:=And.intro ei1 hE1
 rotate_left
 ·refine ⟨[],.slice none 0 0,none,by simp only [↓pb,qbs,tb54,hG.one,lns22 hG.p,hEg,irN,nrA,nrM,nrE,reduceIte,reduceCtorEq,nrL],.nil rfl rfl rfl,by simp,.inl rfl,by simp,rfl,rfl⟩
 obtain ⟨l,vh,gg,k1,G,g2,g3,g4,rfl,k2⟩:=hJ1
 have r1:h1.rd (H.n + 2)=some [va,vb,vc,vh]:=by rw [rd_def,k1];rfl
 have ho:=G.one
 by_cases hi2:l.length < g.Spots.length
 ·obtain ⟨q,hq⟩:∃ q,g.Spots.length - l.length=q + 1:=⟨g.Spots.length - l.length - 1,by omega⟩
  rw [hq,knownGo] at k2
  repeat' (first|((with_reducible refine hK _ _ fun e2 hEn=>?_);clear hK K;simp only [lv54,forallC,forallL,and_true] at hEn;(try simp only [↓pb,qbs,tb54,hG.one,lns22 hG.p,hEg,irN,nrA,nrM,nrE,reduceIte,reduceCtorEq,nrL] at hEn);clear hEg;(try clear eg);have hEg:=hEn;clear hEn;rename Env=>eg)|((first|((with_reducible first|apply oV_intro|apply oH_intro|apply oB_intro);(simp (disch:=first|exact dA|fail) only [qcs,tb54,hG.one,lns22 hG.p,hF1.rdX,r1,k1,hG.one,ho,eHp_len,hEg,irN,nrA,nrM,nrE,reduceIte,reduceCtorEq,nrL];with_reducible exact rfl))|((with_reducible apply WO_callF);(focus exact topA);(simp only [↓pb,qbs,tb54,hG.one,lns22 hG.p,hF1.rdX,r1,k1,hG.one,ho,eHp_len,hEg,irN,nrA,nrM,nrE,reduceIte,reduceCtorEq,nrL];exact f83 _ _ _ _ _ _ (by exact topA) (hG.fr (N:=H.n) (by exact frA)) hm);(rintro vq Gq hq hJq ⟨vm,rfl,Sm⟩;try simp only [upd_n,jn_n] at hq))|(with_reducible first|refine W_regionF lv54 fun K hK=>?_));try simp only [↓pb,↓pd,qds,tb54,hG.one,lns22 hG.p,hF1.rdX,r1,k1,hG.one,ho,eHp_len,hEg,irN,nrA,nrM,nrE,reduceIte,reduceCtorEq,nrL])|((with_reducible apply W_cond);(simp only [↓pb,qbs,tb54,hG.one,lns22 hG.p,hF1.rdX,r1,k1,hG.one,ho,eHp_len,hEg,irN,nrA,nrM,nrE,reduceIte,reduceCtorEq,nrL];with_reducible exact rfl);all_goals (intro hc;(first|exact hcX hc|try simp only [hcs] at hc)))|(with_reducible first|refine W_seq ?_|refine W_block ?_|refine W_skip ?_|refine W_ret ?_|refine W_exit ?_|apply blockK_exit)|((with_reducible apply blockK_pass);(focus decide))|fail)
  ·have hp:(pile g l.length).2=false:=by simpa using hc
   rw [hp] at k2
   refine ⟨by first|exact .inl rfl|exact .inr rfl, ?_⟩
   rw [ret2 Try.results54]
   simp only [↓pb,qbs,tb54,hG.one,lns22 hG.p,rv_tmp,rv_cell,hF1.rdX,hE1,r1,hEg,irN,nrA,nrM,nrE,reduceIte,reduceCtorEq,nrL]
   repeat ((with_reducible apply oV_intro);(simp (disch:=first|exact dA|fail) only [qcs,tb54,hG.one,lns22 hG.p,hF1.rdX,hE1,r1,hEg,irN,nrA,nrM,nrE,reduceIte,reduceCtorEq,nrL];exact rfl))
   refine ⟨⟨vh,l,by rw [k2];rfl,⟨?_, ?_⟩,by rw [k2];rfl⟩,(by exact frA)⟩
   ·exact G.sr.fr (N:=H.n) (X:=[H.n + 1,H.n + 2]) (A:=h1) (by exact frA) (by rcases g3 with rfl|g3;(left;exact G.nil_len);(right;exact nxA))
   ·intro j hj
    obtain ⟨q1,q3⟩:=g4 j hj
    exact q3.fr (N:=H.n) (X:=[H.n + 1,H.n + 2]) (A:=h1) (by exact frA) (.inr nxA)
  ·have hp:(pile g l.length).2=true:=by simpa using hc
   rw [if_pos hp] at k2
   refine pu89 (n:=l.length) (m:=1) (c:=l.flatMap eHp) (g:=gg) (GS.ex (G.fr (N:=h1.n) (X:=[]) (by exact frA) (fun x hx=>by subst hx;exact G.grp_lt) (by simp))) (SR.new (eHp_len _)) (by omega) (by omega) (by omega) (by exact topA) fun GG=>?_
   simp only [↓pb,↓pd,qds,tb54,hG.one,lns22 hG.p,hF1.rdX,r1,k1,hEg,irN,nrA,nrM,nrE,reduceIte,reduceCtorEq,nrL]
   repeat' (first|((with_reducible refine hK _ _ fun e2 hEn=>?_);clear hK K;simp only [lv54,forallC,forallL,and_true] at hEn;(try simp only [↓pb,qbs,tb54,hG.one,lns22 hG.p,hEg,irN,nrA,nrM,nrE,reduceIte,reduceCtorEq,nrL] at hEn);clear hEg;(try clear eg);have hEg:=hEn;clear hEn;rename Env=>eg)|((first|((with_reducible first|apply oV_intro|apply oH_intro|apply oB_intro);(simp (disch:=first|exact dA|fail) only [qcs,tb54,hG.one,lns22 hG.p,hF1.rdX,r1,k1,hEg,irN,nrA,nrM,nrE,reduceIte,reduceCtorEq,nrL];with_reducible exact rfl))|(with_reducible first|refine W_regionF lv54 fun K hK=>?_));try simp only [↓pb,↓pd,qds,tb54,hG.one,lns22 hG.p,hF1.rdX,r1,k1,hEg,irN,nrA,nrM,nrE,reduceIte,reduceCtorEq,nrL])|((with_reducible apply W_cond);(simp only [↓pb,qbs,tb54,hG.one,lns22 hG.p,hF1.rdX,r1,k1,hEg,irN,nrA,nrM,nrE,reduceIte,reduceCtorEq,nrL];with_reducible exact rfl);all_goals (intro hc;(first|exact hcX hc|try simp only [hcs] at hc)))|(with_reducible first|refine W_seq ?_|refine W_block ?_|refine W_skip ?_|refine W_ret ?_|refine W_exit ?_|apply blockK_exit)|((with_reducible apply blockK_pass);(focus decide))|fail)
   have hgd1:=gd_ge g2 (n:=Gq.n + 2) (by omega)
   have hgd2:=GG.grp_lt
   simp only [upd_n,jn_n] at hgd2
   simp only [upd_n,jn_n,nb] at GG
   refine ⟨by omega,by simp only [↓pb,qbs,tb54,hG.one,lns22 hG.p,hEg,irN,nrA,nrM,nrE,reduceIte,reduceCtorEq,nrL];exact congrArg _ (inc64 (by omega)),by focus exact frA, ?_⟩
   refine ⟨l ++ [((pile g l.length).1,vm)],.slice (some ⟨Gq.n + 2,0,none⟩) (l.length + 1) (l.length + 1),some (gg.getD (Gq.n + 2)),by simp (disch:=first|exact dA|fail) only [qcs,tb54,hG.one,lns22 hG.p,hEg,irN,nrA,nrM,nrE,reduceIte,reduceCtorEq,nrL], ?_,gd_all hgd1,.inr (by show H.n + 2 < Gq.n + 2;omega), ?_,by simp, ?_⟩
   ·rw [List.flatMap_append,List.flatMap_singleton,List.length_append]
    exact GG.fr (N:=Gq.n + 3) (X:=[H.n + 2]) (by exact frA) (fun x hx=>by cases hx;exact hgd2) (by show Gq.n + 2∉[H.n + 2];exact nxA)
   ·intro j hj
    rw [List.length_append,List.length_singleton] at hj
    by_cases hjl:j < l.length
    ·rw [getD_appL hjl]
     obtain ⟨q1,q3⟩:=g4 j hjl
     exact ⟨q1,q3.fr (N:=H.n) (X:=[H.n + 2]) (A:=h1) (by exact frA) (.inr nxA)⟩
    ·have ej:j=l.length:=by omega
     subst ej
     rw [getD_appR]
     exact ⟨by show H.n + 2 < vblk vm;omega,Sm.1.fr (N:=H.n) (X:=[H.n + 2]) (by exact frA) (.inr (by show vblk vm∉[H.n + 2];exact nxA))⟩
   ·have e2:g.Spots.length - (l.length + 1)=q:=by omega
    rw [k2,List.map_append,e2]
    rfl
 ·have e3:l.length=g.Spots.length:=by omega
  have e4:g.Spots.length - l.length=0:=by omega
  rw [e4,knownGo] at k2
  repeat' (first|((with_reducible refine hK _ _ fun e2 hEn=>?_);clear hK K;simp only [lv54,forallC,forallL,and_true] at hEn;(try simp only [↓pb,qbs,tb54,hG.one,lns22 hG.p,hEg,irN,nrA,nrM,nrE,reduceIte,reduceCtorEq,nrL] at hEn);clear hEg;(try clear eg);have hEg:=hEn;clear hEn;rename Env=>eg)|((first|((with_reducible first|apply oV_intro|apply oH_intro|apply oB_intro);(simp (disch:=first|exact dA|fail) only [qcs,tb54,hG.one,lns22 hG.p,hF1.rdX,r1,k1,hEg,irN,nrA,nrM,nrE,reduceIte,reduceCtorEq,nrL];with_reducible exact rfl))|(with_reducible first|refine W_regionF lv54 fun K hK=>?_));try simp only [↓pb,↓pd,qds,tb54,hG.one,lns22 hG.p,hF1.rdX,r1,k1,hEg,irN,nrA,nrM,nrE,reduceIte,reduceCtorEq,nrL])|((with_reducible apply W_cond);(simp only [↓pb,qbs,tb54,hG.one,lns22 hG.p,hF1.rdX,r1,k1,hEg,irN,nrA,nrM,nrE,reduceIte,reduceCtorEq,nrL];with_reducible exact rfl);all_goals (intro hc;(first|exact hcX hc|try simp only [hcs] at hc)))|(with_reducible first|refine W_seq ?_|refine W_block ?_|refine W_skip ?_|refine W_ret ?_|refine W_exit ?_|apply blockK_exit)|((with_reducible apply blockK_pass);(focus decide))|fail)
  refine ⟨by first|exact .inl rfl|exact .inr rfl, ?_⟩
  rw [ret2 Try.results54]
  simp only [↓pb,qbs,tb54,hG.one,lns22 hG.p,rv_tmp,rv_cell,hF1.rdX,hE1,r1,hEg,irN,nrA,nrM,nrE,reduceIte,reduceCtorEq,nrL]
  repeat ((with_reducible apply oV_intro);(simp (disch:=first|exact dA|fail) only [qcs,tb54,hG.one,lns22 hG.p,hF1.rdX,hE1,r1,hEg,irN,nrA,nrM,nrE,reduceIte,reduceCtorEq,nrL];exact rfl))
  refine ⟨⟨vh,l,by rw [k2],⟨?_, ?_⟩,by rw [k2]⟩,(by exact frA)⟩
  ·exact G.sr.fr (N:=H.n) (X:=[H.n + 1,H.n + 2]) (A:=h1) (by exact frA) (by rcases g3 with rfl|g3;(left;exact G.nil_len);(right;exact nxA))
  ·intro j hj
   obtain ⟨q1,q3⟩:=g4 j hj
   exact q3.fr (N:=H.n) (X:=[H.n + 1,H.n + 2]) (A:=h1) (by exact frA) (.inr nxA)
end Go.Proofs.Swa
