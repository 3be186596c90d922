/- Part 14 of a proof. -/
import Derived.Test.YtkjcijlaehflhaaP13
import Derived.Test.YtkjcijlaehflhaaRows
import Derived.ProofKit
import Derived.OpenShut
import Derived.JoinedCond
import Derived.Below
import Derived.ChangeSame
set_option maxRecDepth 20000
set_option linter.unusedVariables false
set_option linter.unusedSimpArgs false
namespace Go.Proofs.Swa
open Go
open Nat renaming reduceAdd → nrA, reduceMul → nrM, reduceEqDiff → nrE, reduceLT → nrL
open Int renaming reduceToNat → irN
attribute [local congr] WO_congr oV_congr oB_congr oH_congr WD_congr oblO_congr oblA_congr oblR_congr
theorem f36 (a b n:Int) (H:AHeap) (hT:Top H):∃ v H',C5 (.fn 36) #[.agg ⟨[iv a,iv b]⟩,iv n] H v H'∧v=.bool (decide (a≤n∧n≤b))∧Fr H.n [] H H':=by
 refine Cl.ofW Try.func36 rfl (by kernel_rfl) (by rw [Try.ntmps36];exact Nat.le_of_ble_eq_true rfl) (by kernel_rfl) ?_
 have hEg:True:=trivial
 refine gcW [0,1] ?_
 intro eg hEn
 simp only [forallC,forallL,and_true] at hEn
 try simp only [↓pb,qbs,tb36,hEg,irN,nrA,nrM,nrE,reduceIte,reduceCtorEq,nrL] at hEn
 replace hEg:=hEn;clear hEn
 by_cases h1:a≤n
 all_goals (
  repeat' (first|((with_reducible refine hK _ _ fun e2 hEn=>?_);clear hK K;simp only [lv36,forallC,forallL,and_true] at hEn;(try simp only [↓pb,qbs,tb36,hEg,irN,nrA,nrM,nrE,reduceIte,reduceCtorEq,nrL] at hEn);clear hEg;(try clear eg);have hEg:=hEn;clear hEn;rename Env=>eg)|((first|((with_reducible first|apply oV_intro|apply oH_intro|apply oB_intro);(simp (disch:=try exact dA) only [qcs,tb36,h1,hEg,irN,nrA,nrM,nrE,reduceIte,reduceCtorEq,nrL];with_reducible exact rfl))|(with_reducible first|refine W_regionF lv36 fun K hK=>?_));try simp only [↓pb,↓pd,qds,tb36,h1,hEg,irN,nrA,nrM,nrE,reduceIte,reduceCtorEq,nrL])|(((with_reducible first|apply WO_gT|apply WO_gF);exact rfl);(simp only [↓pb,qbs,tb36,h1,hEg,irN,nrA,nrM,nrE,reduceIte,reduceCtorEq,nrL];with_reducible exact rfl);all_goals (intro hc;(first|exact hcX hc|try simp only [hcs] at hc);try ((with_reducible apply woI);simp only [↓pb,↓pd,qds,tb36,h1,hc,hEg,irN,nrA,nrM,nrE,reduceIte,reduceCtorEq,nrL])))|(with_reducible first|refine W_seq ?_|refine W_ret ?_)|fail))
 all_goals (
 refine ⟨by first|exact .inl rfl|exact .inr rfl, ?_⟩
 rw [ret1 Try.results36]
 simp only [↓pb,qbs,tb36,rv_tmp,rv_cell,hEg,irN,nrA,nrM,nrE,reduceIte,reduceCtorEq,nrL]
 repeat ((with_reducible apply oV_intro);(simp (disch:=try exact dA) only [qcs,tb36,hEg,irN,nrA,nrM,nrE,reduceIte,reduceCtorEq,nrL];exact rfl))
 refine ⟨by simp [h1], ?_⟩
 exact frA
 )
theorem f38 (x:Int) (t:Bool) (H:AHeap) (hT:Top H) (hx:x=1∨x=2∨x=3):∃ v H',C5 (.fn 38) #[iv x,.bool t] H v H'∧v=.bool (fitsV x t)∧H'=H:=by
 refine Cl.ofW Try.func38 rfl (by kernel_rfl) (by rw [Try.ntmps38];exact Nat.le_of_ble_eq_true rfl) (by kernel_rfl) ?_
 have hEg:True:=trivial
 refine gcW [0,1] ?_
 intro eg hEn
 simp only [forallC,forallL,and_true] at hEn
 try simp only [↓pb,qbs,tb38,hEg,irN,nrA,nrM,nrE,reduceIte,reduceCtorEq,nrL] at hEn
 replace hEg:=hEn;clear hEn
 rcases hx with rfl|rfl|rfl <;> cases t
 all_goals (
  repeat' (first|((with_reducible refine hK _ _ fun e2 hEn=>?_);clear hK K;simp only [lv38,forallC,forallL,and_true] at hEn;(try simp only [↓pb,qbs,tb38,hEg,irN,nrA,nrM,nrE,reduceIte,reduceCtorEq,nrL] at hEn);clear hEg;(try clear eg);have hEg:=hEn;clear hEn;rename Env=>eg)|((first|((with_reducible first|apply oV_intro|apply oH_intro|apply oB_intro);(simp (disch:=try exact dA) only [qcs,tb38,hEg,irN,nrA,nrM,nrE,reduceIte,reduceCtorEq,nrL];with_reducible exact rfl))|(with_reducible first|refine W_regionF lv38 fun K hK=>?_));try simp only [↓pb,↓pd,qds,tb38,hEg,irN,nrA,nrM,nrE,reduceIte,reduceCtorEq,nrL])|(((with_reducible first|apply WO_gT|apply WO_gF);exact rfl);(simp only [↓pb,qbs,tb38,hEg,irN,nrA,nrM,nrE,reduceIte,reduceCtorEq,nrL];with_reducible exact rfl);all_goals (intro hc;(first|exact hcX hc|try simp only [hcs] at hc);try ((with_reducible apply woI);simp only [↓pb,↓pd,qds,tb38,hc,hEg,irN,nrA,nrM,nrE,reduceIte,reduceCtorEq,nrL])))|((with_reducible apply WO_gU);exact rfl;(focus (simp only [↓pb,qbs,tb38,hEg,irN,nrA,nrM,nrE,reduceIte,reduceCtorEq,nrL];done));try simp only [↓pb,↓pd,qds,tb38,hEg,irN,nrA,nrM,nrE,reduceIte,reduceCtorEq,nrL])|(with_reducible first|refine W_seq ?_|refine W_ret ?_)|fail))
 all_goals (
 refine ⟨by first|exact .inl rfl|exact .inr rfl, ?_⟩
 rw [ret1 Try.results38]
 simp only [↓pb,qbs,tb38,rv_tmp,rv_cell,hEg,irN,nrA,nrM,nrE,reduceIte,reduceCtorEq,nrL]
 repeat ((with_reducible apply oV_intro);(simp (disch:=try exact dA) only [qcs,tb38,hEg,irN,nrA,nrM,nrE,reduceIte,reduceCtorEq,nrL];exact rfl))
 rfl)
theorem olderD_succ (g:Gnd) (d:DayS) (spot hour age:Int) (n:Nat):olderD g d spot hour age (n + 1)=(olderD g d spot hour age n || decide ((g.Acts.getD n default).Spot=spot) && decide (0 < d.left.getD n 0) && decide (age < w64 (hour - (g.Acts.getD n default).Hour))):=by
 unfold olderD
 rw [List.range_succ,List.any_append]
 simp
set_option maxHeartbeats 4000000 in
theorem f39 (va vb vc vl vt:Value) (g:Gnd) (left last:List Int) (spot hour age:Int) (H:AHeap) (hT:Top H) (hG:RG H va vb vc g) (S:SR H 1 left.length vl (ints left)) (ho:one vt) (hl:left.length≤g.Acts.length) (hm:left.length < 1099511627776) :
  ∃ v H',C5 (.fn 39) #[.agg ⟨[vl,vt]⟩,.agg ⟨[va,vb,vc]⟩,iv spot,iv hour,iv age] H v H'∧v=.bool (olderD g ⟨left,last⟩ spot hour age left.length)∧Fr H.n [] H H':=by
 have l2:=hG.r.lt
 have l1:=S.lt
 refine Cl.ofW Try.func39 rfl (by kernel_rfl) (by rw [Try.ntmps39];exact Nat.le_of_ble_eq_true rfl) (by kernel_rfl) ?_
 have hEg:True:=trivial
 refine gcW [0,1,2,3,4] ?_
 intro eg hEn
 simp only [forallC,forallL,and_true] at hEn
 try simp only [↓pb,qbs,tb39,hG.one,S.one,ho,lns31 S,hEg,irN,nrA,nrM,nrE,reduceIte,reduceCtorEq,nrL] at hEn
 replace hEg:=hEn;clear hEn
 repeat' (first|((with_reducible refine hK _ _ fun e2 hEn=>?_);clear hK K;simp only [lv39,forallC,forallL,and_true] at hEn;(try simp only [↓pb,qbs,tb39,hG.one,S.one,ho,lns31 S,hEg,irN,nrA,nrM,nrE,reduceIte,reduceCtorEq,nrL] at hEn);clear hEg;(try clear eg);have hEg:=hEn;clear hEn;rename Env=>eg)|((first|((with_reducible first|apply oV_intro|apply oH_intro|apply oB_intro);(simp (disch:=try exact dA) only [qcs,tb39,hG.one,S.one,ho,lns31 S,hEg,irN,nrA,nrM,nrE,reduceIte,reduceCtorEq,nrL];with_reducible exact rfl))|(with_reducible first|refine W_regionF lv39 fun K hK=>?_));try simp only [↓pb,↓pd,qds,tb39,hG.one,S.one,ho,lns31 S,hEg,irN,nrA,nrM,nrE,reduceIte,reduceCtorEq,nrL])|((first|((with_reducible first|apply WO_gT|apply WO_gF);exact rfl)|(with_reducible apply W_cond));(simp only [↓pb,qbs,tb39,hG.one,S.one,ho,lns31 S,hEg,irN,nrA,nrM,nrE,reduceIte,reduceCtorEq,nrL];with_reducible exact rfl);all_goals (intro hc;(first|exact hcX hc|try simp only [hcs] at hc);try ((with_reducible apply woI);simp only [↓pb,↓pd,qds,tb39,hG.one,S.one,ho,lns31 S,hc,hEg,irN,nrA,nrM,nrE,reduceIte,reduceCtorEq,nrL])))|(with_reducible first|refine W_seq ?_|refine W_block ?_|refine W_skip ?_|refine W_ret ?_|refine W_exit ?_|apply blockK_exit)|((with_reducible apply blockK_pass);(focus decide))|fail)
 refine W_count [2,3,4,5,6] (by kernel_rfl) 11 (left.length) (H.n) [] [] (fun i e h=>olderD g ⟨left,last⟩ spot hour age i=false) (by simp only [↓pb,qbs,tb39,hG.one,S.one,ho,lns31 S,hEg,irN,nrA,nrM,nrE,reduceIte,reduceCtorEq,nrL]) (by focus exact topA) (H0:=H) (by focus exact frA) (by intro b hb hlt;simp at hb ⊢;try omega) ?_ ?_
 rotate_left
 intro i1 e1 h1 hi1 hE1 ei1 hF1 hF01 hTh1 hJ1
 simp only [forallC,forallL,and_true] at hE1
 try simp only [↓pb,qbs,tb39,hG.one,S.one,ho,lns31 S,hEg,irN,nrA,nrM,nrE,reduceIte,reduceCtorEq,nrL] at hE1
 have hn11:=hF1.n;have hn01:=hF01.n;try simp only [upd_n,jn_n] at hn11
 replace hEg:=And.intro ei1 hE1
 rotate_left
 ·rfl
 have S2:SR h1 1 left.length vl (left.map iv):=S.fr0 hF01
 have G1:=hG.fr hF01
 have l3:=S2.lt;have l4:=G1.r.lt
 have ra:h1.rd H.n=some [vl,vt]:=by
  rw [hF1.rd (b:=H.n) (by simp only [↓pb,qbs,tb39,hG.one,S.one,ho,lns31 S,hEg,irN,nrA,nrM,nrE,reduceIte,reduceCtorEq,nrL];omega) (by simp)]
  simp (disch:=try exact dA) only [qcs,tb39,hG.one,S.one,ho,lns31 S,hEg,irN,nrA,nrM,nrE,reduceIte,reduceCtorEq,nrL]
 have rb:h1.rd (H.n + 1)=some [va,vb,vc]:=by
  rw [hF1.rd (b:=H.n + 1) (by simp only [↓pb,qbs,tb39,hG.one,S.one,ho,lns31 S,hEg,irN,nrA,nrM,nrE,reduceIte,reduceCtorEq,nrL];omega) (by simp)]
  simp (disch:=try exact dA) only [qcs,tb39,hG.one,S.one,ho,lns31 S,hEg,irN,nrA,nrM,nrE,reduceIte,reduceCtorEq,nrL]
 by_cases hi2:i1 < left.length
 ·have hsu:olderD g ⟨left,last⟩ spot hour age (i1 + 1)=(decide ((g.Acts.getD i1 default).Spot=spot) && decide (0 < left.getD i1 0) && decide (age < IntKind.i64.wrap (hour - (g.Acts.getD i1 default).Hour))):=by
   rw [olderD_succ,hJ1,Bool.false_or]
   rfl
  by_cases c1:(g.Acts.getD i1 default).Spot=spot <;> by_cases c2:0 < left.getD i1 0 <;> by_cases c3:age < IntKind.i64.wrap (hour - (g.Acts.getD i1 default).Hour)
  all_goals (
   repeat' (first|((with_reducible refine hK _ _ fun e2 hEn=>?_);clear hK K;simp only [lv39,forallC,forallL,and_true] at hEn;(try simp only [↓pb,qbs,tb39,hG.one,S.one,ho,lns31 S,hEg,irN,nrA,nrM,nrE,reduceIte,reduceCtorEq,nrL] at hEn);clear hEg;(try clear eg);have hEg:=hEn;clear hEn;rename Env=>eg)|((first|((with_reducible first|apply oV_intro|apply oH_intro|apply oB_intro);(simp (disch:=try exact dA) only [qcs,tb39,hG.one,S.one,ho,lns31 S,c1,c2,c3,ra,rb,lns31 S2,ias31 S2,S2.rd,S2.el1 rfl,ias24 G1.r,G1.r.rd,(G1.r.el eAct_len rfl),eAct,hEg,irN,nrA,nrM,nrE,reduceIte,reduceCtorEq,nrL];with_reducible exact rfl))|(with_reducible first|refine W_regionF lv39 fun K hK=>?_));try simp only [↓pb,↓pd,qds,tb39,hG.one,S.one,ho,lns31 S,c1,c2,c3,ra,rb,lns31 S2,ias31 S2,S2.rd,S2.el1 rfl,ias24 G1.r,G1.r.rd,(G1.r.el eAct_len rfl),eAct,hEg,irN,nrA,nrM,nrE,reduceIte,reduceCtorEq,nrL])|((first|((with_reducible first|apply WO_gT|apply WO_gF);exact rfl)|(with_reducible apply W_cond));(simp only [↓pb,qbs,tb39,hG.one,S.one,ho,lns31 S,c1,c2,c3,ra,rb,lns31 S2,ias31 S2,S2.rd,S2.el1 rfl,ias24 G1.r,G1.r.rd,(G1.r.el eAct_len rfl),eAct,hEg,irN,nrA,nrM,nrE,reduceIte,reduceCtorEq,nrL];with_reducible exact rfl);all_goals (intro hc;(first|exact hcX hc|try simp only [hcs] at hc);try ((with_reducible apply woI);simp only [↓pb,↓pd,qds,tb39,hG.one,S.one,ho,lns31 S,c1,c2,c3,ra,rb,lns31 S2,ias31 S2,S2.rd,S2.el1 rfl,ias24 G1.r,G1.r.rd,(G1.r.el eAct_len rfl),eAct,hc,hEg,irN,nrA,nrM,nrE,reduceIte,reduceCtorEq,nrL])))|(with_reducible first|refine W_seq ?_|refine W_block ?_|refine W_skip ?_|refine W_ret ?_|refine W_exit ?_|apply blockK_exit)|((with_reducible apply blockK_pass);(focus decide))|fail))
  ·refine ⟨by first|exact .inl rfl|exact .inr rfl, ?_⟩
   rw [ret1 Try.results39]
   simp only [↓pb,qbs,tb39,hG.one,S.one,ho,lns31 S,rv_tmp,rv_cell,hEg,irN,nrA,nrM,nrE,reduceIte,reduceCtorEq,nrL]
   repeat ((with_reducible apply oV_intro);(simp (disch:=try exact dA) only [qcs,tb39,hG.one,S.one,ho,lns31 S,hEg,irN,nrA,nrM,nrE,reduceIte,reduceCtorEq,nrL];exact rfl))
   have:olderD g ⟨left,last⟩ spot hour age left.length=true:=List.any_eq_true.2 ⟨i1,List.mem_range.2 hi2,by simp only [Bool.and_eq_true,decide_eq_true_eq];exact ⟨⟨c1,c2⟩,c3⟩⟩
   rw [this]
   refine ⟨rfl, ?_⟩
   exact frA
  all_goals (
  refine ⟨by omega,by simp only [↓pb,qbs,tb39,hG.one,S.one,ho,lns31 S,hEg,irN,nrA,nrM,nrE,reduceIte,reduceCtorEq,nrL];exact congrArg _ (inc64 (by omega)),by focus exact frA, ?_⟩
  rw [hsu]
  simp only [c1,c2,c3,decide_true,decide_false,Bool.and_false,Bool.false_and,Bool.and_true])
 ·have e1n:i1=left.length:=by omega
  subst e1n
  repeat' (first|((with_reducible refine hK _ _ fun e2 hEn=>?_);clear hK K;simp only [lv39,forallC,forallL,and_true] at hEn;(try simp only [↓pb,qbs,tb39,hG.one,S.one,ho,lns31 S,hEg,irN,nrA,nrM,nrE,reduceIte,reduceCtorEq,nrL] at hEn);clear hEg;(try clear eg);have hEg:=hEn;clear hEn;rename Env=>eg)|((first|((with_reducible first|apply oV_intro|apply oH_intro|apply oB_intro);(simp (disch:=try exact dA) only [qcs,tb39,hG.one,S.one,ho,lns31 S,ra,rb,lns31 S2,hEg,irN,nrA,nrM,nrE,reduceIte,reduceCtorEq,nrL];with_reducible exact rfl))|(with_reducible first|refine W_regionF lv39 fun K hK=>?_));try simp only [↓pb,↓pd,qds,tb39,hG.one,S.one,ho,lns31 S,ra,rb,lns31 S2,hEg,irN,nrA,nrM,nrE,reduceIte,reduceCtorEq,nrL])|((first|((with_reducible first|apply WO_gT|apply WO_gF);exact rfl)|(with_reducible apply W_cond));(simp only [↓pb,qbs,tb39,hG.one,S.one,ho,lns31 S,ra,rb,lns31 S2,hEg,irN,nrA,nrM,nrE,reduceIte,reduceCtorEq,nrL];with_reducible exact rfl);all_goals (intro hc;(first|exact hcX hc|try simp only [hcs] at hc);try ((with_reducible apply woI);simp only [↓pb,↓pd,qds,tb39,hG.one,S.one,ho,lns31 S,ra,rb,lns31 S2,hc,hEg,irN,nrA,nrM,nrE,reduceIte,reduceCtorEq,nrL])))|(with_reducible first|refine W_seq ?_|refine W_block ?_|refine W_skip ?_|refine W_ret ?_|refine W_exit ?_|apply blockK_exit)|((with_reducible apply blockK_pass);(focus decide))|fail)
  refine ⟨by first|exact .inl rfl|exact .inr rfl, ?_⟩
  rw [ret1 Try.results39]
  simp only [↓pb,qbs,tb39,hG.one,S.one,ho,lns31 S,rv_tmp,rv_cell,hEg,irN,nrA,nrM,nrE,reduceIte,reduceCtorEq,nrL]
  repeat ((with_reducible apply oV_intro);(simp (disch:=try exact dA) only [qcs,tb39,hG.one,S.one,ho,lns31 S,hEg,irN,nrA,nrM,nrE,reduceIte,reduceCtorEq,nrL];exact rfl))
  rw [hJ1]
  refine ⟨rfl, ?_⟩
  exact frA
theorem any_range_succ {p:Nat→Bool} {n:Nat}:(List.range (n + 1)).any p=((List.range n).any p || p n):=by
 rw [List.range_succ,List.any_append]
 simp
theorem any_at {p:Nat→Bool} {n i:Nat} (hi:i < n) (h:p i=true):(List.range n).any p=true:=List.any_eq_true.2 ⟨i,List.mem_range.2 hi,h⟩
structure BkH (g:Gnd) (truth:List Int) (B3 B7:Nat) (va vb vc vt vl vs:Value) (d:DayS) (h:AHeap):Prop where
 g3:h.get B3=.cells [va,vb,vc] 26 .ex
 g7:h.get B7=.cells [vl,vs] 61 .ex
 hG:RG h va vb vc g
 st:SR h 1 truth.length vt (ints truth)
 sl:SR h 1 d.left.length vl (ints d.left)
 ss:SR h 1 d.last.length vs (ints d.last)
 bd:B3 < h.n∧B7 < h.n
theorem BkH.fr {g:Gnd} {truth:List Int} {B3 B7:Nat} {va vb vc vt vl vs:Value} {d:DayS} {N:Nat} {A B:AHeap} (F:Fr N [] A B) (k:BkH g truth B3 B7 va vb vc vt vl vs d A):BkH g truth B3 B7 va vb vc vt vl vs d B:=by
 have:=F.n
 exact ⟨by rw [F.old _ k.bd.1 (by simp)];exact k.g3,by rw [F.old _ k.bd.2 (by simp)];exact k.g7,k.hG.fr F,k.st.fr0 F,k.sl.fr0 F,k.ss.fr0 F,by have:=k.bd;omega⟩
theorem day_lens (g:Gnd) (truth:List Int) (a:Nat) (hour:Int):(dayOf g truth a hour).left.length=g.Acts.length∧(dayOf g truth a hour).last.length=g.Spots.length:=dayRun_len g truth _
theorem True5.lastLt {g:Gnd} {truth:List Int} (T:True5 g truth) (a:Nat) (hour:Int) {j:Nat} (hj:j < g.Spots.length):-1≤(dayOf g truth a hour).last.getD j 0∧(dayOf g truth a hour).last.getD j 0 < g.Acts.length:=by
 have hu:=until_len hour g.Acts
 have D:=T.day (n:=min a (untilL hour g.Acts)) (by omega)
 show -1≤(dayRun g truth _).last.getD j 0∧(dayRun g truth _).last.getD j 0 < _
 rw [D.lst j hj]
 rcases last_kind j g.Acts (min a (untilL hour g.Acts)) with ⟨q,_⟩|⟨q1,q2,_⟩ <;> omega
set_option maxHeartbeats 4000000 in
theorem f80 (va vb vc vt:Value) (g:Gnd) (truth:List Int) (hour:Int) (H:AHeap) (hT:Top H) (hG:RG H va vb vc g) (S:SR H 1 truth.length vt (ints truth)) (T:True5 g truth) :
  ∃ v H',C5 (.fn 80) #[.agg ⟨[va,vb,vc]⟩,vt,iv hour] H v H'∧v=.bool (broken g truth hour)∧Fr H.n [] H H':=by
 have hgo:=hG.one
 have hl:=T.len
 have h10:=T.ok.acts
 have hsl:=T.ok.spots
 have hso:=T.ok.sorts
 have hsp:=T.few.spot
 have hto:=S.one
 obtain ⟨d,hd⟩:∃ d,d=dayOf g truth g.Acts.length hour:=⟨_,rfl⟩
 have f35':=fun (a:Nat) (ha:a≤g.Acts.length) (h:AHeap) (hTh:Top h) (hF:Fr H.n [] H h)=>f35 va vb vc vt g truth a hour h hTh (hG.fr hF) (S.fr0 hF) hl ha (by omega) (by omega) hsp
 refine Cl.ofW Try.func80 rfl (by kernel_rfl) (by rw [Try.ntmps80];exact Nat.le_of_ble_eq_true rfl) (by kernel_rfl) ?_
 have hEg:True:=trivial
 refine gcW [0,1,2] ?_
 intro eg hEn
 simp only [forallC,forallL,and_true] at hEn
 try simp only [↓pb,qbs,tb80,hgo,hto,lns24 hG.r,hEg,irN,nrA,nrM,nrE,reduceIte,reduceCtorEq,nrL] at hEn
 replace hEg:=hEn;clear hEn
 repeat' (first|((with_reducible refine hK _ _ fun e2 hEn=>?_);clear hK K;simp only [lv80,forallC,forallL,and_true] at hEn;(try simp only [↓pb,qbs,tb80,hgo,hto,lns24 hG.r,hEg,irN,nrA,nrM,nrE,reduceIte,reduceCtorEq,nrL] at hEn);clear hEg;(try clear eg);have hEg:=hEn;clear hEn;rename Env=>eg)|((first|((with_reducible first|apply oV_intro|apply oH_intro|apply oB_intro);(simp (disch:=try exact dA) only [qcs,tb80,hgo,hto,lns24 hG.r,hEg,irN,nrA,nrM,nrE,reduceIte,reduceCtorEq,nrL];with_reducible exact rfl))|((with_reducible first|apply oblA_and|apply oblR_and|apply oblO_and);(focus exact obA))|((with_reducible apply WO_callF);(focus exact topA);(simp only [↓pb,qbs,tb80,hgo,hto,lns24 hG.r,hEg,irN,nrA,nrM,nrE,reduceIte,reduceCtorEq,nrL];exact f35' g.Acts.length (Nat.le_refl _) _ (by exact topA) (by exact frA));(rintro vq Gq hq hJq ⟨vl,vs,rfl,Sl,Ss⟩;try simp only [upd_n,jn_n] at hq))|(with_reducible first|refine W_regionF lv80 fun K hK=>?_|refine W_drawnF lv80 fun K hK=>?_));try simp only [↓pb,↓pd,qds,tb80,hgo,hto,lns24 hG.r,hEg,irN,nrA,nrM,nrE,reduceIte,reduceCtorEq,nrL])|((first|((with_reducible first|apply WO_gT|apply WO_gF|apply WD_gT|apply WD_gF);exact rfl)|(with_reducible apply W_cond));(simp only [↓pb,qbs,tb80,hgo,hto,lns24 hG.r,hEg,irN,nrA,nrM,nrE,reduceIte,reduceCtorEq,nrL];with_reducible exact rfl);all_goals (intro hc;(first|exact hcX hc|try simp only [hcs] at hc);try ((with_reducible first|apply woI|apply wdI);simp only [↓pb,↓pd,qds,tb80,hgo,hto,lns24 hG.r,hc,hEg,irN,nrA,nrM,nrE,reduceIte,reduceCtorEq,nrL])))|(with_reducible first|refine W_seq ?_|refine W_block ?_|refine W_skip ?_|refine W_ret ?_|refine W_exit ?_|apply blockK_exit)|((with_reducible apply blockK_pass);(focus decide))|fail)
 rw [← hd] at Sl Ss
 obtain ⟨hdl,hdt⟩:=day_lens g truth g.Acts.length hour
 rw [← hd] at hdl hdt
 rw [← hdl] at Sl
 rw [← hdt] at Ss
 refine W_forget (N:=H.n) (X:=[]) (h0:=H) (fun h=>BkH g truth H.n Gq.n va vb vc vt vl vs d h∧Top h) (by exact frA) ⟨⟨by simp (disch:=try exact dA) only [qcs,tb80,hgo,hto,lns24 hG.r,hEg,irN,nrA,nrM,nrE,reduceIte,reduceCtorEq,nrL],by simp (disch:=try exact dA) only [qcs,tb80,hgo,hto,lns24 hG.r,hEg,irN,nrA,nrM,nrE,reduceIte,reduceCtorEq,nrL],hG.fr (N:=H.n) (by exact frA),S.fr0 (N:=H.n) (by exact frA),Sl.fr0 (N:=0) (by exact frA),Ss.fr0 (N:=0) (by exact frA),by simp only [↓pb,qbs,tb80,hgo,hto,lns24 hG.r,hEg,irN,nrA,nrM,nrE,reduceIte,reduceCtorEq,nrL];omega,by simp only [↓pb,qbs,tb80,hgo,hto,lns24 hG.r,hEg,irN,nrA,nrM,nrE,reduceIte,reduceCtorEq,nrL];omega⟩,(by exact topA)⟩ ?_
 rintro h2 F2 ⟨k2,T2⟩
 obtain ⟨B,hB⟩:∃ B,B=Gq.n:=⟨_,rfl⟩
 rw [← hB] at k2 hEg
 clear Sl Ss hq hJq hB
 have odl:=k2.sl.one
 have ods:=k2.ss.one
 refine W_count [1,2,3,7] (by kernel_rfl) 8 (g.Acts.length) (H.n) [] [] (fun i e h=>(List.range i).any (badAct g truth d hour)=false) (by simp only [↓pb,qbs,tb80,hgo,hto,lns24 hG.r,hEg,irN,nrA,nrM,nrE,reduceIte,reduceCtorEq,nrL]) (by focus exact topA) (H0:=H) (by focus exact frA) (by intro b hb hlt;simp at hb ⊢;try omega) ?_ ?_
 rotate_left
 intro i3 e3 h3 hi3 hE3 ei3 hF3 hF03 hTh3 hJ3
 simp only [forallC,forallL,and_true] at hE3
 try simp only [↓pb,qbs,tb80,hgo,hto,lns24 hG.r,hEg,irN,nrA,nrM,nrE,reduceIte,reduceCtorEq,nrL] at hE3
 have hn13:=hF3.n;have hn03:=hF03.n;try simp only [upd_n,jn_n] at hn13
 replace hEg:=And.intro ei3 hE3
 rotate_left
 ·rfl
 have F3:Fr H.n [] H h3:=hF03
 have k3:=k2.fr hF3
 have q3:h3.rd H.n=some [va,vb,vc]:=by rw [rd_def,k3.g3];rfl
 have z3:=k3.g3
 have p3:=k3.hG.r
 have y3:=p3.lt
 by_cases hi3':i3 < g.Acts.length
 ·obtain ⟨_,A⟩:=T.ok.at hi3'
  have hk:=A.k
  have hs:=A.s
  obtain ⟨a,haa⟩:∃ a,a=g.Acts.getD i3 default:=⟨_,rfl⟩
  have heA:eAct (g.Acts.getD i3 default)=eAct a:=by rw [haa]
  repeat' (first|((with_reducible refine hK _ _ fun e2 hEn=>?_);clear hK K;simp only [lv80,forallC,forallL,and_true] at hEn;(try simp only [↓pb,qbs,tb80,hgo,hto,lns24 hG.r,hEg,irN,nrA,nrM,nrE,reduceIte,reduceCtorEq,nrL] at hEn);clear hEg;(try clear eg);have hEg:=hEn;clear hEn;rename Env=>eg)|((first|((with_reducible first|apply oV_intro|apply oH_intro|apply oB_intro);(simp (disch:=try exact dA) only [qcs,tb80,hgo,hto,lns24 hG.r,q3,z3,lns24 p3,ias24 p3,p3.rd,(p3.el eAct_len rfl),heA,p3.mapB,hgo,hEg,irN,nrA,nrM,nrE,reduceIte,reduceCtorEq,nrL];with_reducible exact rfl))|((with_reducible first|apply oblA_and|apply oblR_and|apply oblO_and);(focus exact obA))|(with_reducible first|refine W_regionE lv80 [6] fun K hK=>?_|refine W_drawnE lv80 [6] fun K hK=>?_));try simp only [↓pb,↓pd,qds,tb80,hgo,hto,lns24 hG.r,q3,z3,lns24 p3,ias24 p3,p3.rd,(p3.el eAct_len rfl),heA,p3.mapB,hgo,hEg,irN,nrA,nrM,nrE,reduceIte,reduceCtorEq,nrL])|((first|((with_reducible first|apply WO_gT|apply WO_gF|apply WD_gT|apply WD_gF);exact rfl)|(with_reducible apply W_cond));(simp only [↓pb,qbs,tb80,hgo,hto,lns24 hG.r,q3,z3,lns24 p3,ias24 p3,p3.rd,(p3.el eAct_len rfl),heA,p3.mapB,hgo,hEg,irN,nrA,nrM,nrE,reduceIte,reduceCtorEq,nrL];with_reducible exact rfl);all_goals (intro hc;(first|exact hcX hc|try simp only [hcs] at hc);try ((with_reducible first|apply woI|apply wdI);simp only [↓pb,↓pd,qds,tb80,hgo,hto,lns24 hG.r,q3,z3,lns24 p3,ias24 p3,p3.rd,(p3.el eAct_len rfl),heA,p3.mapB,hgo,hc,hEg,irN,nrA,nrM,nrE,reduceIte,reduceCtorEq,nrL])))|(with_reducible first|refine W_seq ?_|refine W_block ?_|refine W_skip ?_|refine W_ret ?_|refine W_exit ?_|apply blockK_exit)|((with_reducible apply blockK_pass);(focus decide))|fail)
  have el4:=eAct_len a
  refine W_forget (N:=H.n) (X:=[]) (h0:=h2) (fun h=>BkH g truth H.n B va vb vc vt vl vs d h∧h.get h3.n=.cells (eAct a) 30 .ex∧h3.n < h.n∧Top h) (by exact frA) ⟨k3.fr (N:=h3.n) (by exact frA),by simp (disch:=try exact dA) only [qcs,tb80,hgo,hto,lns24 hG.r,hEg,irN,nrA,nrM,nrE,reduceIte,reduceCtorEq,nrL],by simp only [↓pb,qbs,tb80,hgo,hto,lns24 hG.r,hEg,irN,nrA,nrM,nrE,reduceIte,reduceCtorEq,nrL];omega,(by exact topA)⟩ ?_
  rintro h4 F24 ⟨k4,ga,n4,T4⟩
  have q4:h4.rd H.n=some [va,vb,vc]:=by rw [rd_def,k4.g3];rfl
  have z4:=k4.g3
  have q7:h4.rd B=some [vl,vs]:=by rw [rd_def,k4.g7];rfl
  have z7:=k4.g7
  have qa:h4.rd h3.n=some (eAct a):=by rw [rd_def,ga];rfl
  have Sl4:SR h4 1 d.left.length vl (d.left.map iv):=k4.sl
  have hq4:=k4.hG.q
  have y4:=hq4.lt
  have yl4:=Sl4.lt
  rw [← haa] at hk hs
  refine W_drawnP (fun e h=>h=h4∧e 53=.bool (badOld g d hour i3)∧e 1=vt∧e 2=iv hour∧e 3=vptr H.n 0∧e 7=vptr B 0∧e 8=iv i3∧e 9=vptr h3.n 0) ?_ ?_
  ·simp only [↓pb,↓pd,qds,tb80,hgo,hto,lns24 hG.r,hEg,irN,nrA,nrM,nrE,reduceIte,reduceCtorEq,nrL]
   have hbo:badOld g d hour i3=(decide (0 < d.left.getD i3 0) && decide ((g.Sorts.getD a.Kind.toNat default).Age < IntKind.i64.wrap (hour - a.Hour))):=by rw [haa];rfl
   rw [hbo]
   have hdf:d.left.getD i3 default=d.left.getD i3 0:=rfl
   by_cases c1:0 < d.left.getD i3 0
   all_goals (
    repeat' (first|((with_reducible refine hK _ _ fun e2 hEn=>?_);clear hK K;simp only [lv80,forallC,forallL,and_true] at hEn;(try simp only [↓pb,qbs,tb80,hgo,hto,lns24 hG.r,hEg,irN,nrA,nrM,nrE,reduceIte,reduceCtorEq,nrL] at hEn);clear hEg;(try clear eg);have hEg:=hEn;clear hEn;rename Env=>eg)|((first|((with_reducible first|apply oV_intro|apply oH_intro|apply oB_intro);(simp (disch:=try exact dA) only [qcs,tb80,hgo,hto,lns24 hG.r,c1,hdf,q4,z4,q7,z7,qa,ga,eAct,ias31 Sl4,Sl4.rd,Sl4.el1 rfl,Sl4.mapB,ias23 hq4,hq4.rd,(hq4.el eSrt_len rfl),eSrt,hq4.mapB,decide_true,decide_false,Bool.true_and,Bool.false_and,hEg,irN,nrA,nrM,nrE,reduceIte,reduceCtorEq,nrL];with_reducible exact rfl))|((with_reducible first|apply oblA_and|apply oblR_and|apply oblO_and);(focus exact obA))|(with_reducible first|refine W_regionF lv80 fun K hK=>?_|refine W_drawnF lv80 fun K hK=>?_));try simp only [↓pb,↓pd,qds,tb80,hgo,hto,lns24 hG.r,c1,hdf,q4,z4,q7,z7,qa,ga,eAct,ias31 Sl4,Sl4.rd,Sl4.el1 rfl,Sl4.mapB,ias23 hq4,hq4.rd,(hq4.el eSrt_len rfl),eSrt,hq4.mapB,decide_true,decide_false,Bool.true_and,Bool.false_and,hEg,irN,nrA,nrM,nrE,reduceIte,reduceCtorEq,nrL])|((first|((with_reducible first|apply WO_gT|apply WO_gF|apply WD_gT|apply WD_gF);exact rfl)|(with_reducible apply W_cond));(simp only [↓pb,qbs,tb80,hgo,hto,lns24 hG.r,c1,hdf,q4,z4,q7,z7,qa,ga,eAct,ias31 Sl4,Sl4.rd,Sl4.el1 rfl,Sl4.mapB,ias23 hq4,hq4.rd,(hq4.el eSrt_len rfl),eSrt,hq4.mapB,decide_true,decide_false,Bool.true_and,Bool.false_and,hEg,irN,nrA,nrM,nrE,reduceIte,reduceCtorEq,nrL];with_reducible exact rfl);all_goals (intro hc;(first|exact hcX hc|try simp only [hcs] at hc);try ((with_reducible first|apply woI|apply wdI);simp only [↓pb,↓pd,qds,tb80,hgo,hto,lns24 hG.r,c1,hdf,q4,z4,q7,z7,qa,ga,eAct,ias31 Sl4,Sl4.rd,Sl4.el1 rfl,Sl4.mapB,ias23 hq4,hq4.rd,(hq4.el eSrt_len rfl),eSrt,hq4.mapB,decide_true,decide_false,Bool.true_and,Bool.false_and,hc,hEg,irN,nrA,nrM,nrE,reduceIte,reduceCtorEq,nrL])))|(with_reducible first|refine W_seq ?_|refine W_block ?_|refine W_skip ?_|refine W_ret ?_|refine W_exit ?_|apply blockK_exit)|((with_reducible apply blockK_pass);(focus decide))|fail))
  rintro e6 h6 ⟨rfl,g53,g1,g2,g3,g7,g8,g9⟩
  have hEg:=And.intro g53 (And.intro g1 (And.intro g2 (And.intro g3 (And.intro g7 (And.intro g8 g9)))))
  clear g53 g1 g2 g3 g7 g8 g9
  have F06:Fr H.n [] H h6:=Fr.trans F2 F24
  repeat' (first|((with_reducible refine hK _ _ fun e2 hEn=>?_);clear hK K;simp only [lv80,forallC,forallL,and_true] at hEn;(try simp only [↓pb,qbs,tb80,hgo,hto,lns24 hG.r,hEg,irN,nrA,nrM,nrE,reduceIte,reduceCtorEq,nrL] at hEn);clear hEg;(try clear eg);have hEg:=hEn;clear hEn;rename Env=>eg)|((first|((with_reducible first|apply oV_intro|apply oH_intro|apply oB_intro);(simp (disch:=try exact dA) only [qcs,tb80,hgo,hto,lns24 hG.r,q4,z4,hgo,hto,hEg,irN,nrA,nrM,nrE,reduceIte,reduceCtorEq,nrL];with_reducible exact rfl))|((with_reducible first|apply oblA_and|apply oblR_and|apply oblO_and);(focus exact obA))|((with_reducible apply WO_callF);(focus exact topA);(simp only [↓pb,qbs,tb80,hgo,hto,lns24 hG.r,q4,z4,hgo,hto,hEg,irN,nrA,nrM,nrE,reduceIte,reduceCtorEq,nrL];exact f35' i3 (Nat.le_of_lt hi3') _ (by exact topA) (by exact frA));(rintro vq Gq hq hJq ⟨bl,bs,rfl,Bl,Bs⟩;try simp only [upd_n,jn_n] at hq))|(with_reducible first|refine W_regionE lv80 [9] fun K hK=>?_|refine W_drawnE lv80 [9] fun K hK=>?_));try simp only [↓pb,↓pd,qds,tb80,hgo,hto,lns24 hG.r,q4,z4,hgo,hto,hEg,irN,nrA,nrM,nrE,reduceIte,reduceCtorEq,nrL])|((first|((with_reducible first|apply WO_gT|apply WO_gF|apply WD_gT|apply WD_gF);exact rfl)|(with_reducible apply W_cond));(simp only [↓pb,qbs,tb80,hgo,hto,lns24 hG.r,q4,z4,hgo,hto,hEg,irN,nrA,nrM,nrE,reduceIte,reduceCtorEq,nrL];with_reducible exact rfl);all_goals (intro hc;(first|exact hcX hc|try simp only [hcs] at hc);try ((with_reducible first|apply woI|apply wdI);simp only [↓pb,↓pd,qds,tb80,hgo,hto,lns24 hG.r,q4,z4,hgo,hto,hc,hEg,irN,nrA,nrM,nrE,reduceIte,reduceCtorEq,nrL])))|(with_reducible first|refine W_seq ?_|refine W_block ?_|refine W_skip ?_|refine W_ret ?_|refine W_exit ?_|apply blockK_exit)|((with_reducible apply blockK_pass);(focus decide))|fail)
  ·refine ⟨by first|exact .inl rfl|exact .inr rfl, ?_⟩
   rw [ret1 Try.results80]
   simp only [↓pb,qbs,tb80,hgo,hto,lns24 hG.r,rv_tmp,rv_cell,hEg,irN,nrA,nrM,nrE,reduceIte,reduceCtorEq,nrL]
   repeat ((with_reducible apply oV_intro);(simp (disch:=try exact dA) only [qcs,tb80,hgo,hto,lns24 hG.r,hEg,irN,nrA,nrM,nrE,reduceIte,reduceCtorEq,nrL];exact rfl))
   have hbr:broken g truth hour=true:=by
    unfold broken
    rw [← hd,any_at hi3' (by unfold badAct;rw [hc];rfl)]
    rfl
   rw [hbr]
   exact ⟨rfl,F06⟩
  ·have hb1:badOld g d hour i3=false:=by assumption
   obtain ⟨b,hb⟩:∃ b,b=dayOf g truth i3 hour:=⟨_,rfl⟩
   obtain ⟨hbl,hbt⟩:=day_lens g truth i3 hour
   have hlst:=T.lastLt i3 hour (j:=a.Spot.toNat) (by omega)
   rw [← hb] at Bl Bs hbl hbt hlst
   rw [← hbl] at Bl
   rw [← hbt] at Bs
   refine W_forget (N:=H.n) (X:=[]) (h0:=h2) (fun h=>BkH g truth H.n B va vb vc vt vl vs d h∧BkH g truth H.n Gq.n va vb vc vt bl bs b h∧h.get h3.n=.cells (eAct a) 30 .ex∧h3.n < h.n∧Top h) (by exact frA) ⟨k4.fr (N:=h6.n) (by exact frA),⟨by simp (disch:=try exact dA) only [qcs,tb80,hgo,hto,lns24 hG.r,hEg,irN,nrA,nrM,nrE,reduceIte,reduceCtorEq,nrL];exact z4,by simp (disch:=try exact dA) only [qcs,tb80,hgo,hto,lns24 hG.r,hEg,irN,nrA,nrM,nrE,reduceIte,reduceCtorEq,nrL],k4.hG.fr (N:=h6.n) (by exact frA),k4.st.fr0 (N:=h6.n) (by exact frA),Bl.fr0 (N:=0) (by exact frA),Bs.fr0 (N:=0) (by exact frA),by have:=k4.bd;simp only [↓pb,qbs,tb80,hgo,hto,lns24 hG.r,hEg,irN,nrA,nrM,nrE,reduceIte,reduceCtorEq,nrL];omega,by simp only [↓pb,qbs,tb80,hgo,hto,lns24 hG.r,hEg,irN,nrA,nrM,nrE,reduceIte,reduceCtorEq,nrL];omega⟩,by simp (disch:=try exact dA) only [qcs,tb80,hgo,hto,lns24 hG.r,hEg,irN,nrA,nrM,nrE,reduceIte,reduceCtorEq,nrL];exact ga,by simp only [↓pb,qbs,tb80,hgo,hto,lns24 hG.r,hEg,irN,nrA,nrM,nrE,reduceIte,reduceCtorEq,nrL];omega,(by exact topA)⟩ ?_
   rintro h7 F27 ⟨k7,kb,ga7,n7,T7⟩
   obtain ⟨B2,hB2⟩:∃ B,B=Gq.n:=⟨_,rfl⟩
   rw [← hB2] at kb hEg
   clear Bl Bs hq hJq hB2
   have q7:h7.rd H.n=some [va,vb,vc]:=by rw [rd_def,k7.g3];rfl
   have z7:=k7.g3
   have qb:h7.rd B2=some [bl,bs]:=by rw [rd_def,kb.g7];rfl
   have zb:=kb.g7
   have qa7:h7.rd h3.n=some (eAct a):=by rw [rd_def,ga7];rfl
   have Bs7:SR h7 1 b.last.length bs (b.last.map iv):=kb.ss
   have obs:=kb.ss.one
   have obl:=kb.sl.one
   have p7:=k7.hG.r
   have y7:=p7.lt
   have yb:=Bs7.lt
   have hms:∀ x:Int,massGo g.Acts b.left x b.left.length=b.mass g x:=fun x=>rfl
   have hdf:b.last.getD a.Spot.toNat default=b.last.getD a.Spot.toNat 0:=rfl
   have hbm:badMix g b hour i3=(decide (a.Hour=hour) && !a.Take && decide (0≤b.last.getD a.Spot.toNat 0) && decide ((g.Acts.getD (b.last.getD a.Spot.toNat 0).toNat default).Kind≠a.Kind) && decide (0 < b.mass g a.Spot)):=by rw [haa];rfl
   obtain ⟨lt,hlt⟩:∃ lt,lt=b.last.getD a.Spot.toNat 0:=⟨_,rfl⟩
   rw [← hlt] at hdf hlst hbm
   refine W_drawnP (fun e h=>e 100=.bool (badMix g b hour i3)∧e 1=vt∧e 2=iv hour∧e 3=vptr H.n 0∧e 7=vptr B 0∧e 8=iv i3∧Fr h7.n [] h7 h∧Top h) ?_ ?_
   ·simp only [↓pb,↓pd,qds,tb80,hgo,hto,lns24 hG.r,hEg,irN,nrA,nrM,nrE,reduceIte,reduceCtorEq,nrL]
    rw [hbm]
    have hos:a.Spot < b.last.length:=by omega
    have five:¬ a.Hour=hour∨(a.Hour=hour∧a.Take=true)∨(a.Hour=hour∧a.Take=false∧¬ 0≤lt)∨(a.Hour=hour∧a.Take=false∧0≤lt∧(g.Acts.getD lt.toNat default).Kind=a.Kind)∨(a.Hour=hour∧a.Take=false∧0≤lt∧¬ (g.Acts.getD lt.toNat default).Kind=a.Kind):=by
     by_cases c3:a.Hour=hour
     ·cases c4:a.Take with
      | true=>exact .inr (.inl ⟨c3,rfl⟩)
      | false =>
       by_cases c5:0≤lt
       ·by_cases c6:(g.Acts.getD lt.toNat default).Kind=a.Kind
        ·exact .inr (.inr (.inr (.inl ⟨c3,rfl,c5,c6⟩)))
        ·exact .inr (.inr (.inr (.inr ⟨c3,rfl,c5,c6⟩)))
       ·exact .inr (.inr (.inl ⟨c3,rfl,c5⟩))
     ·exact .inl c3
    rcases five with cc|cc|cc|cc|cc
    all_goals (
     repeat' (first|((with_reducible refine hK _ _ fun e2 hEn=>?_);clear hK K;simp only [lv80,forallC,forallL,and_true] at hEn;(try simp only [↓pb,qbs,tb80,hgo,hto,lns24 hG.r,hEg,irN,nrA,nrM,nrE,reduceIte,reduceCtorEq,nrL] at hEn);clear hEg;(try clear eg);have hEg:=hEn;clear hEn;rename Env=>eg)|((first|((with_reducible first|apply oV_intro|apply oH_intro|apply oB_intro);(simp (disch:=try exact dA) only [qcs,tb80,hgo,hto,lns24 hG.r,cc,hdf,q7,z7,qb,zb,qa7,ga7,eAct,ias31 Bs7,Bs7.rd,Bs7.el1 rfl,Bs7.mapB,ias24 p7,p7.rd,(p7.el eAct_len rfl),p7.mapB,hgo,obs,obl,hms,ne_eq,not_true_eq_false,not_false_eq_true,decide_false,decide_true,hEg,irN,nrA,nrM,nrE,reduceIte,reduceCtorEq,nrL];with_reducible exact rfl))|((with_reducible first|apply oblA_and|apply oblR_and|apply oblO_and);(focus exact obA))|((with_reducible apply WO_callV);(focus exact topA);(simp only [↓pb,qbs,tb80,hgo,hto,lns24 hG.r,cc,hdf,q7,z7,qb,zb,qa7,ga7,eAct,ias31 Bs7,Bs7.rd,Bs7.el1 rfl,Bs7.mapB,ias24 p7,p7.rd,(p7.el eAct_len rfl),p7.mapB,hgo,obs,obl,hms,ne_eq,not_true_eq_false,not_false_eq_true,decide_false,decide_true,hEg,irN,nrA,nrM,nrE,reduceIte,reduceCtorEq,nrL];(exact f37 _ _ _ _ _ _ _ _ _ (by exact topA) (kb.fr (N:=h7.n) (by exact frA)).hG (kb.fr (N:=h7.n) (by exact frA)).sl obs (by omega) (by omega)));(intro Gq hq hJq;try simp only [upd_n,jn_n] at hq))|(with_reducible first|refine W_regionF lv80 fun K hK=>?_|refine W_drawnF lv80 fun K hK=>?_));try simp only [↓pb,↓pd,qds,tb80,hgo,hto,lns24 hG.r,cc,hdf,q7,z7,qb,zb,qa7,ga7,eAct,ias31 Bs7,Bs7.rd,Bs7.el1 rfl,Bs7.mapB,ias24 p7,p7.rd,(p7.el eAct_len rfl),p7.mapB,hgo,obs,obl,hms,ne_eq,not_true_eq_false,not_false_eq_true,decide_false,decide_true,hEg,irN,nrA,nrM,nrE,reduceIte,reduceCtorEq,nrL])|((first|((with_reducible first|apply WO_gT|apply WO_gF|apply WD_gT|apply WD_gF);exact rfl)|(with_reducible apply W_cond));(simp only [↓pb,qbs,tb80,hgo,hto,lns24 hG.r,cc,hdf,q7,z7,qb,zb,qa7,ga7,eAct,ias31 Bs7,Bs7.rd,Bs7.el1 rfl,Bs7.mapB,ias24 p7,p7.rd,(p7.el eAct_len rfl),p7.mapB,hgo,obs,obl,hms,ne_eq,not_true_eq_false,not_false_eq_true,decide_false,decide_true,hEg,irN,nrA,nrM,nrE,reduceIte,reduceCtorEq,nrL];with_reducible exact rfl);all_goals (intro hc;(first|exact hcX hc|try simp only [hcs] at hc);try ((with_reducible first|apply woI|apply wdI);simp only [↓pb,↓pd,qds,tb80,hgo,hto,lns24 hG.r,cc,hdf,q7,z7,qb,zb,qa7,ga7,eAct,ias31 Bs7,Bs7.rd,Bs7.el1 rfl,Bs7.mapB,ias24 p7,p7.rd,(p7.el eAct_len rfl),p7.mapB,hgo,obs,obl,hms,ne_eq,not_true_eq_false,not_false_eq_true,decide_false,decide_true,hc,hEg,irN,nrA,nrM,nrE,reduceIte,reduceCtorEq,nrL])))|(with_reducible first|refine W_seq ?_|refine W_block ?_|refine W_skip ?_|refine W_ret ?_|refine W_exit ?_|apply blockK_exit)|((with_reducible apply blockK_pass);(focus decide))|fail))
    all_goals exact ⟨by simp [cc],(by exact frA),(by exact topA)⟩
   have hba:badAct g truth d hour i3=badMix g b hour i3:=by
    unfold badAct
    rw [hb1,← hb]
    rfl
   clear hbm hdf hlst hms
   rintro e8 h8 ⟨g100,g1,g2,g3,g7,g8,F78,T8⟩
   have hEg:=And.intro g100 (And.intro g1 (And.intro g2 (And.intro g3 (And.intro g7 g8))))
   clear g100 g1 g2 g3 g7 g8
   have F28:Fr H.n [] h2 h8:=Fr.call F27 F78 (Fr.trans F2 F27).n
   repeat' (first|((with_reducible refine hK _ _ fun e2 hEn=>?_);clear hK K;simp only [lv80,forallC,forallL,and_true] at hEn;(try simp only [↓pb,qbs,tb80,hgo,hto,lns24 hG.r,hEg,irN,nrA,nrM,nrE,reduceIte,reduceCtorEq,nrL] at hEn);clear hEg;(try clear eg);have hEg:=hEn;clear hEn;rename Env=>eg)|((first|((with_reducible first|apply oV_intro|apply oH_intro|apply oB_intro);(simp (disch:=try exact dA) only [qcs,tb80,hgo,hto,lns24 hG.r,hEg,irN,nrA,nrM,nrE,reduceIte,reduceCtorEq,nrL];with_reducible exact rfl))|((with_reducible first|apply oblA_and|apply oblR_and|apply oblO_and);(focus exact obA))|(with_reducible first|refine W_regionF lv80 fun K hK=>?_|refine W_drawnF lv80 fun K hK=>?_));try simp only [↓pb,↓pd,qds,tb80,hgo,hto,lns24 hG.r,hEg,irN,nrA,nrM,nrE,reduceIte,reduceCtorEq,nrL])|((first|((with_reducible first|apply WO_gT|apply WO_gF|apply WD_gT|apply WD_gF);exact rfl)|(with_reducible apply W_cond));(simp only [↓pb,qbs,tb80,hgo,hto,lns24 hG.r,hEg,irN,nrA,nrM,nrE,reduceIte,reduceCtorEq,nrL];with_reducible exact rfl);all_goals (intro hc;(first|exact hcX hc|try simp only [hcs] at hc);try ((with_reducible first|apply woI|apply wdI);simp only [↓pb,↓pd,qds,tb80,hgo,hto,lns24 hG.r,hc,hEg,irN,nrA,nrM,nrE,reduceIte,reduceCtorEq,nrL])))|(with_reducible first|refine W_seq ?_|refine W_block ?_|refine W_skip ?_|refine W_ret ?_|refine W_exit ?_|apply blockK_exit)|((with_reducible apply blockK_pass);(focus decide))|fail)
   ·refine ⟨by first|exact .inl rfl|exact .inr rfl, ?_⟩
    rw [ret1 Try.results80]
    simp only [↓pb,qbs,tb80,hgo,hto,lns24 hG.r,rv_tmp,rv_cell,hEg,irN,nrA,nrM,nrE,reduceIte,reduceCtorEq,nrL]
    repeat ((with_reducible apply oV_intro);(simp (disch:=try exact dA) only [qcs,tb80,hgo,hto,lns24 hG.r,hEg,irN,nrA,nrM,nrE,reduceIte,reduceCtorEq,nrL];exact rfl))
    have hbr:broken g truth hour=true:=by
     unfold broken
     rw [← hd,any_at hi3' (by rw [hba,hc])]
     rfl
    rw [hbr]
    exact ⟨rfl,Fr.trans F2 F28⟩
   ·refine ⟨by omega,by simp only [↓pb,qbs,tb80,hgo,hto,lns24 hG.r,hEg,irN,nrA,nrM,nrE,reduceIte,reduceCtorEq,nrL];exact congrArg _ (inc64 (by omega)),by focus exact frA, ?_⟩
    rw [any_range_succ,hJ3,hba,hc]
    rfl
 ·have e3n:i3=g.Acts.length:=by omega
  rw [e3n] at hJ3
  repeat' (first|((with_reducible refine hK _ _ fun e2 hEn=>?_);clear hK K;simp only [lv80,forallC,forallL,and_true] at hEn;(try simp only [↓pb,qbs,tb80,hgo,hto,lns24 hG.r,hEg,irN,nrA,nrM,nrE,reduceIte,reduceCtorEq,nrL] at hEn);clear hEg;(try clear eg);have hEg:=hEn;clear hEn;rename Env=>eg)|((first|((with_reducible first|apply oV_intro|apply oH_intro|apply oB_intro);(simp (disch:=try exact dA) only [qcs,tb80,hgo,hto,lns24 hG.r,q3,z3,lns24 p3,p3.mapB,hgo,hEg,irN,nrA,nrM,nrE,reduceIte,reduceCtorEq,nrL];with_reducible exact rfl))|((with_reducible first|apply oblA_and|apply oblR_and|apply oblO_and);(focus exact obA))|(with_reducible first|refine W_regionF lv80 fun K hK=>?_|refine W_drawnF lv80 fun K hK=>?_));try simp only [↓pb,↓pd,qds,tb80,hgo,hto,lns24 hG.r,q3,z3,lns24 p3,p3.mapB,hgo,hEg,irN,nrA,nrM,nrE,reduceIte,reduceCtorEq,nrL])|((first|((with_reducible first|apply WO_gT|apply WO_gF|apply WD_gT|apply WD_gF);exact rfl)|(with_reducible apply W_cond));(simp only [↓pb,qbs,tb80,hgo,hto,lns24 hG.r,q3,z3,lns24 p3,p3.mapB,hgo,hEg,irN,nrA,nrM,nrE,reduceIte,reduceCtorEq,nrL];with_reducible exact rfl);all_goals (intro hc;(first|exact hcX hc|try simp only [hcs] at hc);try ((with_reducible first|apply woI|apply wdI);simp only [↓pb,↓pd,qds,tb80,hgo,hto,lns24 hG.r,q3,z3,lns24 p3,p3.mapB,hgo,hc,hEg,irN,nrA,nrM,nrE,reduceIte,reduceCtorEq,nrL])))|(with_reducible first|refine W_seq ?_|refine W_block ?_|refine W_skip ?_|refine W_ret ?_|refine W_exit ?_|apply blockK_exit)|((with_reducible apply blockK_pass);(focus decide))|fail)
  refine W_count [3,7] (by kernel_rfl) 11 (g.Spots.length) (H.n) [] [] (fun i e h=>(List.range i).any (badSpot g d)=false) (by simp only [↓pb,qbs,tb80,hgo,hto,lns24 hG.r,hEg,irN,nrA,nrM,nrE,reduceIte,reduceCtorEq,nrL]) (by focus exact topA) (H0:=H) (by focus exact frA) (by intro b hb hlt;simp at hb ⊢;try omega) ?_ ?_
  rotate_left
  intro i5 e5 h5 hi5 hE5 ei5 hF5 hF05 hTh5 hJ5
  simp only [forallC,forallL,and_true] at hE5
  try simp only [↓pb,qbs,tb80,hgo,hto,lns24 hG.r,hEg,irN,nrA,nrM,nrE,reduceIte,reduceCtorEq,nrL] at hE5
  have hn15:=hF5.n;have hn05:=hF05.n;try simp only [upd_n,jn_n] at hn15
  replace hEg:=And.intro ei5 hE5
  rotate_left
  ·rfl
  have F35:=Fr.trans hF3 hF5
  have k5:=k3.fr hF5
  have q5:h5.rd H.n=some [va,vb,vc]:=by rw [rd_def,k5.g3];rfl
  have z5:=k5.g3
  have q57:h5.rd B=some [vl,vs]:=by rw [rd_def,k5.g7];rfl
  have z57:=k5.g7
  have p5:=k5.hG.p
  have hms:∀ x:Int,massGo g.Acts d.left x d.left.length=d.mass g x:=fun x=>rfl
  obtain ⟨u,hu⟩:∃ u,u=min g.Acts.length (untilL hour g.Acts):=⟨_,rfl⟩
  have hul:u≤g.Acts.length:=by omega
  have hdr:d=dayRun g truth u:=by rw [hd,hu];rfl
  by_cases hi5':i5 < g.Spots.length
  ·repeat' (first|((with_reducible refine hK _ _ fun e2 hEn=>?_);clear hK K;simp only [lv80,forallC,forallL,and_true] at hEn;(try simp only [↓pb,qbs,tb80,hgo,hto,lns24 hG.r,hEg,irN,nrA,nrM,nrE,reduceIte,reduceCtorEq,nrL] at hEn);clear hEg;(try clear eg);have hEg:=hEn;clear hEn;rename Env=>eg)|((first|((with_reducible first|apply oV_intro|apply oH_intro|apply oB_intro);(simp (disch:=try exact dA) only [qcs,tb80,hgo,hto,lns24 hG.r,q5,z5,q57,z57,lns22 p5,p5.mapB,hgo,odl,ods,hms,hEg,irN,nrA,nrM,nrE,reduceIte,reduceCtorEq,nrL];with_reducible exact rfl))|((with_reducible first|apply oblA_and|apply oblR_and|apply oblO_and);(focus exact obA))|((with_reducible apply WO_callV);(focus exact topA);(simp only [↓pb,qbs,tb80,hgo,hto,lns24 hG.r,q5,z5,q57,z57,lns22 p5,p5.mapB,hgo,odl,ods,hms,hEg,irN,nrA,nrM,nrE,reduceIte,reduceCtorEq,nrL];(exact f37 _ _ _ _ _ _ _ _ _ (by exact topA) (k5.fr (N:=h5.n) (by exact frA)).hG (k5.fr (N:=h5.n) (by exact frA)).sl ods (by omega) (by omega)));(intro Gq hq hJq;try simp only [upd_n,jn_n] at hq))|(with_reducible first|refine W_regionE lv80 [15] fun K hK=>?_|refine W_drawnE lv80 [15] fun K hK=>?_));try simp only [↓pb,↓pd,qds,tb80,hgo,hto,lns24 hG.r,q5,z5,q57,z57,lns22 p5,p5.mapB,hgo,odl,ods,hms,hEg,irN,nrA,nrM,nrE,reduceIte,reduceCtorEq,nrL])|((first|((with_reducible first|apply WO_gT|apply WO_gF|apply WD_gT|apply WD_gF);exact rfl)|(with_reducible apply W_cond));(simp only [↓pb,qbs,tb80,hgo,hto,lns24 hG.r,q5,z5,q57,z57,lns22 p5,p5.mapB,hgo,odl,ods,hms,hEg,irN,nrA,nrM,nrE,reduceIte,reduceCtorEq,nrL];with_reducible exact rfl);all_goals (intro hc;(first|exact hcX hc|try simp only [hcs] at hc);try ((with_reducible first|apply woI|apply wdI);simp only [↓pb,↓pd,qds,tb80,hgo,hto,lns24 hG.r,q5,z5,q57,z57,lns22 p5,p5.mapB,hgo,odl,ods,hms,hc,hEg,irN,nrA,nrM,nrE,reduceIte,reduceCtorEq,nrL])))|(with_reducible first|refine W_seq ?_|refine W_block ?_|refine W_skip ?_|refine W_ret ?_|refine W_exit ?_|apply blockK_exit)|((with_reducible apply blockK_pass);(focus decide))|fail)
   refine W_forget (N:=H.n) (X:=[]) (h0:=h3) (fun h=>BkH g truth H.n B va vb vc vt vl vs d h∧Top h) (by exact frA) ⟨k5.fr (N:=h5.n) (by exact frA),(by exact topA)⟩ ?_
   rintro h6 F36 ⟨k6,T6⟩
   have F06:=Fr.trans hF03 F36
   have q6:h6.rd H.n=some [va,vb,vc]:=by rw [rd_def,k6.g3];rfl
   have z6:=k6.g3
   have q67:h6.rd B=some [vl,vs]:=by rw [rd_def,k6.g7];rfl
   have z67:=k6.g7
   have Ss6:SR h6 1 d.last.length vs (d.last.map iv):=k6.ss
   have p6:=k6.hG.p
   have r6:=k6.hG.q
   have s6:=k6.hG.r
   have y1:=p6.lt
   have y2:=r6.lt
   have y3':=s6.lt
   have y4:=Ss6.lt
   have hml:=T.last (a:=i5) hi5' hul
   have hkf:=T.kindOf i5 d hul
   rw [← hdr] at hml
   obtain ⟨n,hn⟩:∃ n,n=d.mass g i5:=⟨_,rfl⟩
   rw [← hn] at hEg hml
   by_cases hn0:n=0
   ·repeat' (first|((with_reducible refine hK _ _ fun e2 hEn=>?_);clear hK K;simp only [lv80,forallC,forallL,and_true] at hEn;(try simp only [↓pb,qbs,tb80,hgo,hto,lns24 hG.r,hEg,irN,nrA,nrM,nrE,reduceIte,reduceCtorEq,nrL] at hEn);clear hEg;(try clear eg);have hEg:=hEn;clear hEn;rename Env=>eg)|((first|((with_reducible first|apply oV_intro|apply oH_intro|apply oB_intro);(simp (disch:=try exact dA) only [qcs,tb80,hgo,hto,lns24 hG.r,hn0,hEg,irN,nrA,nrM,nrE,reduceIte,reduceCtorEq,nrL];with_reducible exact rfl))|((with_reducible first|apply oblA_and|apply oblR_and|apply oblO_and);(focus exact obA))|(with_reducible first|refine W_regionF lv80 fun K hK=>?_|refine W_drawnF lv80 fun K hK=>?_));try simp only [↓pb,↓pd,qds,tb80,hgo,hto,lns24 hG.r,hn0,hEg,irN,nrA,nrM,nrE,reduceIte,reduceCtorEq,nrL])|((first|((with_reducible first|apply WO_gT|apply WO_gF|apply WD_gT|apply WD_gF);exact rfl)|(with_reducible apply W_cond));(simp only [↓pb,qbs,tb80,hgo,hto,lns24 hG.r,hn0,hEg,irN,nrA,nrM,nrE,reduceIte,reduceCtorEq,nrL];with_reducible exact rfl);all_goals (intro hc;(first|exact hcX hc|try simp only [hcs] at hc);try ((with_reducible first|apply woI|apply wdI);simp only [↓pb,↓pd,qds,tb80,hgo,hto,lns24 hG.r,hn0,hc,hEg,irN,nrA,nrM,nrE,reduceIte,reduceCtorEq,nrL])))|(with_reducible first|refine W_seq ?_|refine W_block ?_|refine W_skip ?_|refine W_ret ?_|refine W_exit ?_|apply blockK_exit)|((with_reducible apply blockK_pass);(focus decide))|fail)
    refine ⟨by omega,by simp only [↓pb,qbs,tb80,hgo,hto,lns24 hG.r,hEg,irN,nrA,nrM,nrE,reduceIte,reduceCtorEq,nrL];exact congrArg _ (inc64 (by omega)),by focus exact frA, ?_⟩
    rw [any_range_succ,hJ5]
    unfold badSpot
    rw [← hn,hn0]
    rfl
   ·have hll:=hml hn0
    have hkk:=hkf hll
    have hdf:d.last.getD i5 default=d.last.getD i5 0:=rfl
    have hko:kindOf g d i5=(g.Acts.getD (d.last.getD i5 0).toNat default).Kind:=rfl
    obtain ⟨lt,hlt⟩:∃ lt,lt=d.last.getD i5 0:=⟨_,rfl⟩
    rw [← hlt] at hdf hll hko
    obtain ⟨kd,hkd⟩:∃ kd,kd=kindOf g d i5:=⟨_,rfl⟩
    rw [← hkd] at hko hkk
    have hbh:badHigh g d i5=decide (IntKind.i64.wrap (IntKind.i64.wrap ((g.Sorts.getD kd.toNat default).High * (g.Sorts.getD kd.toNat default).Dense) * (g.Spots.getD i5 default).Area) < IntKind.i64.wrap (100 * n)):=by rw [hkd,hn];rfl
    repeat' (first|((with_reducible refine hK _ _ fun e2 hEn=>?_);clear hK K;simp only [lv80,forallC,forallL,and_true] at hEn;(try simp only [↓pb,qbs,tb80,hgo,hto,lns24 hG.r,hEg,irN,nrA,nrM,nrE,reduceIte,reduceCtorEq,nrL] at hEn);clear hEg;(try clear eg);have hEg:=hEn;clear hEn;rename Env=>eg)|((first|((with_reducible first|apply oV_intro|apply oH_intro|apply oB_intro);(simp (disch:=try exact dA) only [qcs,tb80,hgo,hto,lns24 hG.r,hn0,hdf,q6,z6,q67,z67,ias31 Ss6,Ss6.rd,Ss6.el1 rfl,Ss6.mapB,ias24 s6,s6.rd,(s6.el eAct_len rfl),eAct,s6.mapB,← hko,hEg,irN,nrA,nrM,nrE,reduceIte,reduceCtorEq,nrL];with_reducible exact rfl))|((with_reducible first|apply oblA_and|apply oblR_and|apply oblO_and);(focus exact obA))|(with_reducible first|refine W_regionE lv80 [17] fun K hK=>?_|refine W_drawnE lv80 [17] fun K hK=>?_));try simp only [↓pb,↓pd,qds,tb80,hgo,hto,lns24 hG.r,hn0,hdf,q6,z6,q67,z67,ias31 Ss6,Ss6.rd,Ss6.el1 rfl,Ss6.mapB,ias24 s6,s6.rd,(s6.el eAct_len rfl),eAct,s6.mapB,← hko,hEg,irN,nrA,nrM,nrE,reduceIte,reduceCtorEq,nrL])|((first|((with_reducible first|apply WO_gT|apply WO_gF|apply WD_gT|apply WD_gF);exact rfl)|(with_reducible apply W_cond));(simp only [↓pb,qbs,tb80,hgo,hto,lns24 hG.r,hn0,hdf,q6,z6,q67,z67,ias31 Ss6,Ss6.rd,Ss6.el1 rfl,Ss6.mapB,ias24 s6,s6.rd,(s6.el eAct_len rfl),eAct,s6.mapB,← hko,hEg,irN,nrA,nrM,nrE,reduceIte,reduceCtorEq,nrL];with_reducible exact rfl);all_goals (intro hc;(first|exact hcX hc|try simp only [hcs] at hc);try ((with_reducible first|apply woI|apply wdI);simp only [↓pb,↓pd,qds,tb80,hgo,hto,lns24 hG.r,hn0,hdf,q6,z6,q67,z67,ias31 Ss6,Ss6.rd,Ss6.el1 rfl,Ss6.mapB,ias24 s6,s6.rd,(s6.el eAct_len rfl),eAct,s6.mapB,← hko,hc,hEg,irN,nrA,nrM,nrE,reduceIte,reduceCtorEq,nrL])))|(with_reducible first|refine W_seq ?_|refine W_block ?_|refine W_skip ?_|refine W_ret ?_|refine W_exit ?_|apply blockK_exit)|((with_reducible apply blockK_pass);(focus decide))|fail)
    clear hko hdf
    have hsp':badSpot g d i5=(badHigh g d i5 || (List.range i5).any fun b=>badNear g d i5 b):=by
     unfold badSpot
     rw [← hn,decide_eq_false hn0]
     rfl
    repeat' (first|((with_reducible refine hK _ _ fun e2 hEn=>?_);clear hK K;simp only [lv80,forallC,forallL,and_true] at hEn;(try simp only [↓pb,qbs,tb80,hgo,hto,lns24 hG.r,hEg,irN,nrA,nrM,nrE,reduceIte,reduceCtorEq,nrL] at hEn);clear hEg;(try clear eg);have hEg:=hEn;clear hEn;rename Env=>eg)|((first|((with_reducible first|apply oV_intro|apply oH_intro|apply oB_intro);(simp (disch:=try exact dA) only [qcs,tb80,hgo,hto,lns24 hG.r,q6,z6,ias22 p6,p6.rd,(p6.el eSpo_len rfl),eSpo,p6.mapB,ias23 r6,r6.rd,(r6.el eSrt_len rfl),eSrt,r6.mapB,hEg,irN,nrA,nrM,nrE,reduceIte,reduceCtorEq,nrL];with_reducible exact rfl))|((with_reducible first|apply oblA_and|apply oblR_and|apply oblO_and);(focus exact obA))|(with_reducible first|refine W_regionF lv80 fun K hK=>?_|refine W_drawnF lv80 fun K hK=>?_));try simp only [↓pb,↓pd,qds,tb80,hgo,hto,lns24 hG.r,q6,z6,ias22 p6,p6.rd,(p6.el eSpo_len rfl),eSpo,p6.mapB,ias23 r6,r6.rd,(r6.el eSrt_len rfl),eSrt,r6.mapB,hEg,irN,nrA,nrM,nrE,reduceIte,reduceCtorEq,nrL])|((first|((with_reducible first|apply WO_gT|apply WO_gF|apply WD_gT|apply WD_gF);exact rfl)|(with_reducible apply W_cond));(simp only [↓pb,qbs,tb80,hgo,hto,lns24 hG.r,q6,z6,ias22 p6,p6.rd,(p6.el eSpo_len rfl),eSpo,p6.mapB,ias23 r6,r6.rd,(r6.el eSrt_len rfl),eSrt,r6.mapB,hEg,irN,nrA,nrM,nrE,reduceIte,reduceCtorEq,nrL];with_reducible exact rfl);all_goals (intro hc;(first|exact hcX hc|try simp only [hcs] at hc);try ((with_reducible first|apply woI|apply wdI);simp only [↓pb,↓pd,qds,tb80,hgo,hto,lns24 hG.r,q6,z6,ias22 p6,p6.rd,(p6.el eSpo_len rfl),eSpo,p6.mapB,ias23 r6,r6.rd,(r6.el eSrt_len rfl),eSrt,r6.mapB,hc,hEg,irN,nrA,nrM,nrE,reduceIte,reduceCtorEq,nrL])))|(with_reducible first|refine W_seq ?_|refine W_block ?_|refine W_skip ?_|refine W_ret ?_|refine W_exit ?_|apply blockK_exit)|((with_reducible apply blockK_pass);(focus decide))|fail)
    ·refine ⟨by first|exact .inl rfl|exact .inr rfl, ?_⟩
     rw [ret1 Try.results80]
     simp only [↓pb,qbs,tb80,hgo,hto,lns24 hG.r,rv_tmp,rv_cell,hEg,irN,nrA,nrM,nrE,reduceIte,reduceCtorEq,nrL]
     repeat ((with_reducible apply oV_intro);(simp (disch:=try exact dA) only [qcs,tb80,hgo,hto,lns24 hG.r,hEg,irN,nrA,nrM,nrE,reduceIte,reduceCtorEq,nrL];exact rfl))
     have hh:badHigh g d i5=true:=by rw [hbh];exact decide_eq_true hc
     have hbr:broken g truth hour=true:=by
      unfold broken
      rw [← hd,any_at hi5' (p:=fun a=>badSpot g d a) (by rw [hsp',hh];rfl),Bool.or_true]
     rw [hbr]
     exact ⟨rfl,Fr.trans hF03 F36⟩
    ·have hh:badHigh g d i5=false:=by rw [hbh];exact decide_eq_false hc
     refine W_count [3,7,11,13] (by kernel_rfl) 14 (i5) (H.n) [] [] (fun i e h=>(List.range i).any (badNear g d i5)=false) (by simp only [↓pb,qbs,tb80,hgo,hto,lns24 hG.r,hEg,irN,nrA,nrM,nrE,reduceIte,reduceCtorEq,nrL]) (by focus exact topA) (H0:=H) (by focus exact frA) (by intro b hb hlt;simp at hb ⊢;try omega) ?_ ?_
     rotate_left
     intro i7 e7 h7 hi7 hE7 ei7 hF7 hF07 hTh7 hJ7
     simp only [forallC,forallL,and_true] at hE7
     try simp only [↓pb,qbs,tb80,hgo,hto,lns24 hG.r,hEg,irN,nrA,nrM,nrE,reduceIte,reduceCtorEq,nrL] at hE7
     have hn17:=hF7.n;have hn07:=hF07.n;try simp only [upd_n,jn_n] at hn17
     replace hEg:=And.intro ei7 hE7
     rotate_left
     ·rfl
     have k7:=k6.fr hF7
     have q7:h7.rd H.n=some [va,vb,vc]:=by rw [rd_def,k7.g3];rfl
     have z7:=k7.g3
     have q77:h7.rd B=some [vl,vs]:=by rw [rd_def,k7.g7];rfl
     have z77:=k7.g7
     have Ss7:SR h7 1 d.last.length vs (d.last.map iv):=k7.ss
     have s7:=k7.hG.r
     have w3:=s7.lt
     have w4:=Ss7.lt
     obtain ⟨bd1,bd2⟩:=k7.bd
     by_cases hi7':i7 < i5
     ·have hi7s:i7 < g.Spots.length:=by omega
      have hml7:=T.last (a:=i7) hi7s hul
      have hkf7:=T.kindOf i7 d hul
      rw [← hdr] at hml7
      have hdf:d.last.getD i7 default=d.last.getD i7 0:=rfl
      have hko:kindOf g d i7=(g.Acts.getD (d.last.getD i7 0).toNat default).Kind:=rfl
      have hbn:badNear g d i5 i7=(decide (0 < d.mass g i7) && nearS g i5 i7 kd (g.Acts.getD (d.last.getD i7 0).toNat default).Kind):=by rw [hkd];rfl
      obtain ⟨lt7,hlt7⟩:∃ lt,lt=d.last.getD i7 0:=⟨_,rfl⟩
      rw [← hlt7] at hdf hml7 hko hkf7 hbn
      rw [hko] at hkf7
      have thr:¬ 0 < d.mass g i7∨(0 < d.mass g i7∧nearS g i5 i7 kd (g.Acts.getD lt7.toNat default).Kind=true)∨(0 < d.mass g i7∧nearS g i5 i7 kd (g.Acts.getD lt7.toNat default).Kind=false):=by
       by_cases hmp:0 < d.mass g i7
       ·cases hne:nearS g i5 i7 kd (g.Acts.getD lt7.toNat default).Kind with
        | true=>exact .inr (.inl ⟨hmp,rfl⟩)
        | false=>exact .inr (.inr ⟨hmp,rfl⟩)
       ·exact .inl hmp
      have hll7:0 < d.mass g i7→_:=fun q=>hml7 (by omega)
      have hkl7:0 < d.mass g i7→_:=fun q=>hkf7 (hll7 q)
      rcases thr with cc|cc|cc
      all_goals (try have hll8:=hll7 cc.1;have hkl8:=hkl7 cc.1)
      all_goals (
       repeat' (first|((with_reducible refine hK _ _ fun e2 hEn=>?_);clear hK K;simp only [lv80,forallC,forallL,and_true] at hEn;(try simp only [↓pb,qbs,tb80,hgo,hto,lns24 hG.r,hEg,irN,nrA,nrM,nrE,reduceIte,reduceCtorEq,nrL] at hEn);clear hEg;(try clear eg);have hEg:=hEn;clear hEn;rename Env=>eg)|((first|((with_reducible first|apply oV_intro|apply oH_intro|apply oB_intro);(simp (disch:=try exact dA) only [qcs,tb80,hgo,hto,lns24 hG.r,cc,hdf,q7,z7,q77,z77,ias31 Ss7,Ss7.rd,Ss7.el1 rfl,Ss7.mapB,ias24 s7,s7.rd,(s7.el eAct_len rfl),eAct,s7.mapB,hgo,odl,ods,hms,decide_true,decide_false,hEg,irN,nrA,nrM,nrE,reduceIte,reduceCtorEq,nrL];with_reducible exact rfl))|((with_reducible first|apply oblA_and|apply oblR_and|apply oblO_and);(focus exact obA))|((with_reducible apply WO_callV);(focus exact topA);(simp only [↓pb,qbs,tb80,hgo,hto,lns24 hG.r,cc,hdf,q7,z7,q77,z77,ias31 Ss7,Ss7.rd,Ss7.el1 rfl,Ss7.mapB,ias24 s7,s7.rd,(s7.el eAct_len rfl),eAct,s7.mapB,hgo,odl,ods,hms,decide_true,decide_false,hEg,irN,nrA,nrM,nrE,reduceIte,reduceCtorEq,nrL];(first|exact f37 _ _ _ _ _ _ _ _ _ (by exact topA) (k7.fr (N:=h7.n) (by exact frA)).hG (k7.fr (N:=h7.n) (by exact frA)).sl ods (by omega) (by omega)|exact f48 _ _ _ _ _ _ _ _ _ (by exact topA) (k7.fr (N:=h7.n) (by exact frA)).hG hi5' hi7s hkk hkl8));(intro Gq hq hJq;try simp only [upd_n,jn_n] at hq))|(with_reducible first|refine W_regionF lv80 fun K hK=>?_|refine W_drawnF lv80 fun K hK=>?_));try simp only [↓pb,↓pd,qds,tb80,hgo,hto,lns24 hG.r,cc,hdf,q7,z7,q77,z77,ias31 Ss7,Ss7.rd,Ss7.el1 rfl,Ss7.mapB,ias24 s7,s7.rd,(s7.el eAct_len rfl),eAct,s7.mapB,hgo,odl,ods,hms,decide_true,decide_false,hEg,irN,nrA,nrM,nrE,reduceIte,reduceCtorEq,nrL])|((first|((with_reducible first|apply WO_gT|apply WO_gF|apply WD_gT|apply WD_gF);exact rfl)|(with_reducible apply W_cond));(simp only [↓pb,qbs,tb80,hgo,hto,lns24 hG.r,cc,hdf,q7,z7,q77,z77,ias31 Ss7,Ss7.rd,Ss7.el1 rfl,Ss7.mapB,ias24 s7,s7.rd,(s7.el eAct_len rfl),eAct,s7.mapB,hgo,odl,ods,hms,decide_true,decide_false,hEg,irN,nrA,nrM,nrE,reduceIte,reduceCtorEq,nrL];with_reducible exact rfl);all_goals (intro hc;(first|exact hcX hc|try simp only [hcs] at hc);try ((with_reducible first|apply woI|apply wdI);simp only [↓pb,↓pd,qds,tb80,hgo,hto,lns24 hG.r,cc,hdf,q7,z7,q77,z77,ias31 Ss7,Ss7.rd,Ss7.el1 rfl,Ss7.mapB,ias24 s7,s7.rd,(s7.el eAct_len rfl),eAct,s7.mapB,hgo,odl,ods,hms,decide_true,decide_false,hc,hEg,irN,nrA,nrM,nrE,reduceIte,reduceCtorEq,nrL])))|(with_reducible first|refine W_seq ?_|refine W_block ?_|refine W_skip ?_|refine W_ret ?_|refine W_exit ?_|apply blockK_exit)|((with_reducible apply blockK_pass);(focus decide))|fail))
      ·refine ⟨by omega,by simp only [↓pb,qbs,tb80,hgo,hto,lns24 hG.r,hEg,irN,nrA,nrM,nrE,reduceIte,reduceCtorEq,nrL];exact congrArg _ (inc64 (by omega)),by focus exact frA, ?_⟩
       rw [any_range_succ,hJ7,hbn,decide_eq_false cc]
       rfl
      ·refine ⟨by first|exact .inl rfl|exact .inr rfl, ?_⟩
       rw [ret1 Try.results80]
       simp only [↓pb,qbs,tb80,hgo,hto,lns24 hG.r,rv_tmp,rv_cell,hEg,irN,nrA,nrM,nrE,reduceIte,reduceCtorEq,nrL]
       repeat ((with_reducible apply oV_intro);(simp (disch:=try exact dA) only [qcs,tb80,hgo,hto,lns24 hG.r,hEg,irN,nrA,nrM,nrE,reduceIte,reduceCtorEq,nrL];exact rfl))
       have hbr:broken g truth hour=true:=by
        unfold broken
        rw [← hd,any_at hi5' (p:=fun a=>badSpot g d a) (by rw [hsp',any_at hi7' (p:=fun b=>badNear g d i5 b) (by rw [hbn,cc.2,decide_eq_true cc.1];rfl),Bool.or_true]),Bool.or_true]
       rw [hbr]
       refine ⟨rfl, ?_⟩
       exact frA
      ·refine ⟨by omega,by simp only [↓pb,qbs,tb80,hgo,hto,lns24 hG.r,hEg,irN,nrA,nrM,nrE,reduceIte,reduceCtorEq,nrL];exact congrArg _ (inc64 (by omega)),by focus exact frA, ?_⟩
       rw [any_range_succ,hJ7,hbn,cc.2,Bool.and_false]
       rfl
     ·have e7n:i7=i5:=by omega
      rw [e7n] at hJ7
      repeat' (first|((with_reducible refine hK _ _ fun e2 hEn=>?_);clear hK K;simp only [lv80,forallC,forallL,and_true] at hEn;(try simp only [↓pb,qbs,tb80,hgo,hto,lns24 hG.r,hEg,irN,nrA,nrM,nrE,reduceIte,reduceCtorEq,nrL] at hEn);clear hEg;(try clear eg);have hEg:=hEn;clear hEn;rename Env=>eg)|((first|((with_reducible first|apply oV_intro|apply oH_intro|apply oB_intro);(simp (disch:=try exact dA) only [qcs,tb80,hgo,hto,lns24 hG.r,hEg,irN,nrA,nrM,nrE,reduceIte,reduceCtorEq,nrL];with_reducible exact rfl))|((with_reducible first|apply oblA_and|apply oblR_and|apply oblO_and);(focus exact obA))|(with_reducible first|refine W_regionF lv80 fun K hK=>?_|refine W_drawnF lv80 fun K hK=>?_));try simp only [↓pb,↓pd,qds,tb80,hgo,hto,lns24 hG.r,hEg,irN,nrA,nrM,nrE,reduceIte,reduceCtorEq,nrL])|((first|((with_reducible first|apply WO_gT|apply WO_gF|apply WD_gT|apply WD_gF);exact rfl)|(with_reducible apply W_cond));(simp only [↓pb,qbs,tb80,hgo,hto,lns24 hG.r,hEg,irN,nrA,nrM,nrE,reduceIte,reduceCtorEq,nrL];with_reducible exact rfl);all_goals (intro hc;(first|exact hcX hc|try simp only [hcs] at hc);try ((with_reducible first|apply woI|apply wdI);simp only [↓pb,↓pd,qds,tb80,hgo,hto,lns24 hG.r,hc,hEg,irN,nrA,nrM,nrE,reduceIte,reduceCtorEq,nrL])))|(with_reducible first|refine W_seq ?_|refine W_block ?_|refine W_skip ?_|refine W_ret ?_|refine W_exit ?_|apply blockK_exit)|((with_reducible apply blockK_pass);(focus decide))|fail)
      refine ⟨by omega,by simp only [↓pb,qbs,tb80,hgo,hto,lns24 hG.r,hEg,irN,nrA,nrM,nrE,reduceIte,reduceCtorEq,nrL];exact congrArg _ (inc64 (by omega)),by focus exact frA, ?_⟩
      rw [any_range_succ,hJ5,hsp',hh]
      exact hJ7
  ·have e5n:i5=g.Spots.length:=by omega
   rw [e5n] at hJ5
   repeat' (first|((with_reducible refine hK _ _ fun e2 hEn=>?_);clear hK K;simp only [lv80,forallC,forallL,and_true] at hEn;(try simp only [↓pb,qbs,tb80,hgo,hto,lns24 hG.r,hEg,irN,nrA,nrM,nrE,reduceIte,reduceCtorEq,nrL] at hEn);clear hEg;(try clear eg);have hEg:=hEn;clear hEn;rename Env=>eg)|((first|((with_reducible first|apply oV_intro|apply oH_intro|apply oB_intro);(simp (disch:=try exact dA) only [qcs,tb80,hgo,hto,lns24 hG.r,q5,z5,lns22 p5,p5.mapB,hgo,hEg,irN,nrA,nrM,nrE,reduceIte,reduceCtorEq,nrL];with_reducible exact rfl))|((with_reducible first|apply oblA_and|apply oblR_and|apply oblO_and);(focus exact obA))|(with_reducible first|refine W_regionF lv80 fun K hK=>?_|refine W_drawnF lv80 fun K hK=>?_));try simp only [↓pb,↓pd,qds,tb80,hgo,hto,lns24 hG.r,q5,z5,lns22 p5,p5.mapB,hgo,hEg,irN,nrA,nrM,nrE,reduceIte,reduceCtorEq,nrL])|((first|((with_reducible first|apply WO_gT|apply WO_gF|apply WD_gT|apply WD_gF);exact rfl)|(with_reducible apply W_cond));(simp only [↓pb,qbs,tb80,hgo,hto,lns24 hG.r,q5,z5,lns22 p5,p5.mapB,hgo,hEg,irN,nrA,nrM,nrE,reduceIte,reduceCtorEq,nrL];with_reducible exact rfl);all_goals (intro hc;(first|exact hcX hc|try simp only [hcs] at hc);try ((with_reducible first|apply woI|apply wdI);simp only [↓pb,↓pd,qds,tb80,hgo,hto,lns24 hG.r,q5,z5,lns22 p5,p5.mapB,hgo,hc,hEg,irN,nrA,nrM,nrE,reduceIte,reduceCtorEq,nrL])))|(with_reducible first|refine W_seq ?_|refine W_block ?_|refine W_skip ?_|refine W_ret ?_|refine W_exit ?_|apply blockK_exit)|((with_reducible apply blockK_pass);(focus decide))|fail)
   refine ⟨by first|exact .inl rfl|exact .inr rfl, ?_⟩
   rw [ret1 Try.results80]
   simp only [↓pb,qbs,tb80,hgo,hto,lns24 hG.r,rv_tmp,rv_cell,hEg,irN,nrA,nrM,nrE,reduceIte,reduceCtorEq,nrL]
   repeat ((with_reducible apply oV_intro);(simp (disch:=try exact dA) only [qcs,tb80,hgo,hto,lns24 hG.r,hEg,irN,nrA,nrM,nrE,reduceIte,reduceCtorEq,nrL];exact rfl))
   have hbr:broken g truth hour=false:=by
    unfold broken
    rw [← hd,hJ3]
    exact hJ5
   rw [hbr]
   exact ⟨rfl,hF05⟩
theorem f40 (va vb vc vt:Value) (g:Gnd) (truth:List Int) (H:AHeap) (hT:Top H) (hG:RG H va vb vc g) (S:SR H 1 truth.length vt (ints truth)) (T:True5 g truth) :
  ∃ v H',C5 (.fn 40) #[.agg ⟨[va,vb,vc]⟩,vt] H v H'∧v=iv (first g truth)∧Fr H.n [] H H':=by
 have hgo:=hG.one
 have hto:=S.one
 refine Cl.ofW Try.func40 rfl (by kernel_rfl) (by rw [Try.ntmps40];exact Nat.le_of_ble_eq_true rfl) (by kernel_rfl) ?_
 have hEg:True:=trivial
 refine gcW [0,1] ?_
 intro eg hEn
 simp only [forallC,forallL,and_true] at hEn
 try simp only [↓pb,qbs,tb40,hgo,hto,hEg,irN,nrA,nrM,nrE,reduceIte,reduceCtorEq,nrL] at hEn
 replace hEg:=hEn;clear hEn
 repeat' (first|((with_reducible refine hK _ _ fun e2 hEn=>?_);clear hK K;simp only [lv40,forallC,forallL,and_true] at hEn;(try simp only [↓pb,qbs,tb40,hgo,hto,hEg,irN,nrA,nrM,nrE,reduceIte,reduceCtorEq,nrL] at hEn);clear hEg;(try clear eg);have hEg:=hEn;clear hEn;rename Env=>eg)|((first|((with_reducible first|apply oV_intro|apply oH_intro|apply oB_intro);(simp (disch:=try exact dA) only [qcs,tb40,hgo,hto,hEg,irN,nrA,nrM,nrE,reduceIte,reduceCtorEq,nrL];with_reducible exact rfl))|(with_reducible first|refine W_regionF lv40 fun K hK=>?_));try simp only [↓pb,↓pd,qds,tb40,hgo,hto,hEg,irN,nrA,nrM,nrE,reduceIte,reduceCtorEq,nrL])|((with_reducible apply W_cond);(simp only [↓pb,qbs,tb40,hgo,hto,hEg,irN,nrA,nrM,nrE,reduceIte,reduceCtorEq,nrL];with_reducible exact rfl);all_goals (intro hc;(first|exact hcX hc|try simp only [hcs] at hc)))|(with_reducible first|refine W_seq ?_|refine W_block ?_|refine W_skip ?_|refine W_ret ?_|refine W_exit ?_|apply blockK_exit)|((with_reducible apply blockK_pass);(focus decide))|fail)
 refine W_count [1,2] (by kernel_rfl) 5 (73) (H.n) [] [] (fun i e h=>first g truth=firstGo g truth (73 - i) i) (by simp only [↓pb,qbs,tb40,hgo,hto,hEg,irN,nrA,nrM,nrE,reduceIte,reduceCtorEq,nrL]) (by focus exact topA) (H0:=H) (by focus exact frA) (by intro b hb hlt;simp at hb ⊢;try omega) ?_ ?_
 rotate_left
 intro i1 e1 h1 hi1 hE1 ei1 hF1 hF01 hTh1 hJ1
 simp only [forallC,forallL,and_true] at hE1
 try simp only [↓pb,qbs,tb40,hgo,hto,hEg,irN,nrA,nrM,nrE,reduceIte,reduceCtorEq,nrL] at hE1
 have hn11:=hF1.n;have hn01:=hF01.n;try simp only [upd_n,jn_n] at hn11
 replace hEg:=And.intro ei1 hE1
 rotate_left
 ·rfl
 have q1:h1.rd H.n=some [va,vb,vc]:=by
  rw [hF1.rd (b:=H.n) (by simp only [↓pb,qbs,tb40,hgo,hto,hEg,irN,nrA,nrM,nrE,reduceIte,reduceCtorEq,nrL];omega) (by simp)]
  simp (disch:=try exact dA) only [qcs,tb40,hgo,hto,hEg,irN,nrA,nrM,nrE,reduceIte,reduceCtorEq,nrL]
 by_cases hi1':i1 < 73
 ·have hle:(i1:Int)≤72:=by omega
  have hf:first g truth=if broken g truth (i1:Nat)=true then (i1:Int) else firstGo g truth (73 - (i1 + 1)) (i1 + 1):=by
   rw [hJ1,show 73 - i1=(73 - (i1 + 1)) + 1 by omega,firstGo]
  have f80':=fun (h:AHeap) (hTh:Top h) (hF:Fr H.n [] H h)=>f80 va vb vc vt g truth (i1:Nat) h hTh (hG.fr hF) (S.fr0 hF) T
  cases hb:broken g truth (i1:Nat) with
  | true =>
   rw [hb,if_pos rfl] at hf
   repeat' (first|((with_reducible refine hK _ _ fun e2 hEn=>?_);clear hK K;simp only [lv40,forallC,forallL,and_true] at hEn;(try simp only [↓pb,qbs,tb40,hgo,hto,hEg,irN,nrA,nrM,nrE,reduceIte,reduceCtorEq,nrL] at hEn);clear hEg;(try clear eg);have hEg:=hEn;clear hEn;rename Env=>eg)|((first|((with_reducible first|apply oV_intro|apply oH_intro|apply oB_intro);(simp (disch:=try exact dA) only [qcs,tb40,hgo,hto,q1,hle,hb,hEg,irN,nrA,nrM,nrE,reduceIte,reduceCtorEq,nrL];with_reducible exact rfl))|((with_reducible apply WO_callV);(focus exact topA);(simp only [↓pb,qbs,tb40,hgo,hto,q1,hle,hb,hEg,irN,nrA,nrM,nrE,reduceIte,reduceCtorEq,nrL];(exact f80' _ (by exact topA) (by exact frA)));(intro Gq hq hJq;try simp only [upd_n,jn_n] at hq))|(with_reducible first|refine W_regionF lv40 fun K hK=>?_));try simp only [↓pb,↓pd,qds,tb40,hgo,hto,q1,hle,hb,hEg,irN,nrA,nrM,nrE,reduceIte,reduceCtorEq,nrL])|((with_reducible apply W_cond);(simp only [↓pb,qbs,tb40,hgo,hto,q1,hle,hb,hEg,irN,nrA,nrM,nrE,reduceIte,reduceCtorEq,nrL];with_reducible exact rfl);all_goals (intro hc;(first|exact hcX hc|try simp only [hcs] at hc)))|(with_reducible first|refine W_seq ?_|refine W_block ?_|refine W_skip ?_|refine W_ret ?_|refine W_exit ?_|apply blockK_exit)|((with_reducible apply blockK_pass);(focus decide))|fail)
   refine ⟨by first|exact .inl rfl|exact .inr rfl, ?_⟩
   rw [ret1 Try.results40]
   simp only [↓pb,qbs,tb40,hgo,hto,rv_tmp,rv_cell,hEg,irN,nrA,nrM,nrE,reduceIte,reduceCtorEq,nrL]
   repeat ((with_reducible apply oV_intro);(simp (disch:=try exact dA) only [qcs,tb40,hgo,hto,hEg,irN,nrA,nrM,nrE,reduceIte,reduceCtorEq,nrL];exact rfl))
   rw [hf]
   refine ⟨rfl, ?_⟩
   exact frA
  | false =>
   rw [hb,if_neg Bool.false_ne_true] at hf
   repeat' (first|((with_reducible refine hK _ _ fun e2 hEn=>?_);clear hK K;simp only [lv40,forallC,forallL,and_true] at hEn;(try simp only [↓pb,qbs,tb40,hgo,hto,hEg,irN,nrA,nrM,nrE,reduceIte,reduceCtorEq,nrL] at hEn);clear hEg;(try clear eg);have hEg:=hEn;clear hEn;rename Env=>eg)|((first|((with_reducible first|apply oV_intro|apply oH_intro|apply oB_intro);(simp (disch:=try exact dA) only [qcs,tb40,hgo,hto,q1,hle,hb,hEg,irN,nrA,nrM,nrE,reduceIte,reduceCtorEq,nrL];with_reducible exact rfl))|((with_reducible apply WO_callV);(focus exact topA);(simp only [↓pb,qbs,tb40,hgo,hto,q1,hle,hb,hEg,irN,nrA,nrM,nrE,reduceIte,reduceCtorEq,nrL];(exact f80' _ (by exact topA) (by exact frA)));(intro Gq hq hJq;try simp only [upd_n,jn_n] at hq))|(with_reducible first|refine W_regionF lv40 fun K hK=>?_));try simp only [↓pb,↓pd,qds,tb40,hgo,hto,q1,hle,hb,hEg,irN,nrA,nrM,nrE,reduceIte,reduceCtorEq,nrL])|((with_reducible apply W_cond);(simp only [↓pb,qbs,tb40,hgo,hto,q1,hle,hb,hEg,irN,nrA,nrM,nrE,reduceIte,reduceCtorEq,nrL];with_reducible exact rfl);all_goals (intro hc;(first|exact hcX hc|try simp only [hcs] at hc)))|(with_reducible first|refine W_seq ?_|refine W_block ?_|refine W_skip ?_|refine W_ret ?_|refine W_exit ?_|apply blockK_exit)|((with_reducible apply blockK_pass);(focus decide))|fail)
   refine ⟨by omega,by simp only [↓pb,qbs,tb40,hgo,hto,hEg,irN,nrA,nrM,nrE,reduceIte,reduceCtorEq,nrL];exact congrArg _ (inc64 (by omega)),by focus exact frA, ?_⟩
   exact hf
 ·have e1n:i1=73:=by omega
  have hle:¬ (i1:Int)≤72:=by omega
  rw [e1n] at hJ1
  repeat' (first|((with_reducible refine hK _ _ fun e2 hEn=>?_);clear hK K;simp only [lv40,forallC,forallL,and_true] at hEn;(try simp only [↓pb,qbs,tb40,hgo,hto,hEg,irN,nrA,nrM,nrE,reduceIte,reduceCtorEq,nrL] at hEn);clear hEg;(try clear eg);have hEg:=hEn;clear hEn;rename Env=>eg)|((first|((with_reducible first|apply oV_intro|apply oH_intro|apply oB_intro);(simp (disch:=try exact dA) only [qcs,tb40,hgo,hto,hle,hEg,irN,nrA,nrM,nrE,reduceIte,reduceCtorEq,nrL];with_reducible exact rfl))|(with_reducible first|refine W_regionF lv40 fun K hK=>?_));try simp only [↓pb,↓pd,qds,tb40,hgo,hto,hle,hEg,irN,nrA,nrM,nrE,reduceIte,reduceCtorEq,nrL])|((with_reducible apply W_cond);(simp only [↓pb,qbs,tb40,hgo,hto,hle,hEg,irN,nrA,nrM,nrE,reduceIte,reduceCtorEq,nrL];with_reducible exact rfl);all_goals (intro hc;(first|exact hcX hc|try simp only [hcs] at hc)))|(with_reducible first|refine W_seq ?_|refine W_block ?_|refine W_skip ?_|refine W_ret ?_|refine W_exit ?_|apply blockK_exit)|((with_reducible apply blockK_pass);(focus decide))|fail)
  refine ⟨by first|exact .inl rfl|exact .inr rfl, ?_⟩
  rw [ret1 Try.results40]
  simp only [↓pb,qbs,tb40,hgo,hto,rv_tmp,rv_cell,hEg,irN,nrA,nrM,nrE,reduceIte,reduceCtorEq,nrL]
  repeat ((with_reducible apply oV_intro);(simp (disch:=try exact dA) only [qcs,tb40,hgo,hto,hEg,irN,nrA,nrM,nrE,reduceIte,reduceCtorEq,nrL];exact rfl))
  rw [hJ1]
  refine ⟨rfl, ?_⟩
  exact frA
theorem eith3 (x a b c:Int):either x [a,b,c]=a∨either x [a,b,c]=b∨either x [a,b,c]=c:=by
 have:=either_mem x (l:=[a,b,c]) (by simp) (by simp)
 simpa using this
structure MmT (g:Gnd) (truth:List Int) (B4:Nat) (va vb vc vt:Value) (h:AHeap):Prop where
 g4:h.get B4=.cells [va,vb,vc] 26 .ex
 hG:RG h va vb vc g
 hk:g.Spots.length=0∨SK h 3 va
 st:SR h 1 truth.length vt (ints truth)
 bd:B4 < h.n
theorem MmT.fr {g:Gnd} {truth:List Int} {B4:Nat} {va vb vc vt:Value} {N:Nat} {A B:AHeap} (F:Fr N [] A B) (k:MmT g truth B4 va vb vc vt A):MmT g truth B4 va vb vc vt B:=by
 have:=F.n
 have hb:=k.bd
 refine ⟨by rw [F.old _ k.bd (by simp)];exact k.g4,k.hG.fr F, ?_,k.st.fr0 F,by omega⟩
 rcases k.hk with q|q
 ·exact .inl q
 ·rcases k.hG.p.lt with q2|q2
  ·exact .inl q2
  ·exact .inr (q.fr F q2 (by simp))
theorem MmT.feed {g:Gnd} {truth:List Int} {B4:Nat} {va vb vc vt:Value} {N n0:Nat} {x:Int} {A B:AHeap} (F:Fr N [n0] A B) (hg:A.get n0=.cells [uv x] 85 .ex) (o:B4≠n0) (k:MmT g truth B4 va vb vc vt A):MmT g truth B4 va vb vc vt B:=by
 have:=F.n
 have hb:=k.bd
 refine ⟨by rw [F.old _ k.bd (by simpa using o)];exact k.g4,k.hG.frR F hg, ?_,k.st.fr F (k.st.offU hg),by omega⟩
 rcases k.hk with q|q
 ·exact .inl q
 ·rcases k.hG.p.lt with q2|q2
  ·exact .inl q2
  ·rcases k.hG.p.offR hg (by omega) with q3|q3
   ·exact .inl q3
   ·exact .inr (q.fr F q2 q3)
set_option maxHeartbeats 4000000 in
theorem f6 (vl:Value) (l:List Int) (H:AHeap) (hT:Top H) (S:SR H 1 l.length vl (ints l)) (hl:l.length≤9223372036854775807) (M:Made2) (hmade:groundOf (eitherS (feedOf l) [4,40,9000]) 3 3 7 (either (feedOf l) [4,40,9000]) 24=M)
  (t5:True5 M.g M.truth)
  (hw:∀ H,Top H→OrC Try.prog 15 #[] H (.bool true) H):∃ v H',C5 (.fn 6) #[vl] H v H'∧v=.bool true∧Fr H.n [] H H':=by
 refine Cl.ofW Try.func6 rfl (by kernel_rfl) (by rw [Try.ntmps6];exact Nat.le_of_ble_eq_true rfl) (by kernel_rfl) ?_
 have hEg:True:=trivial
 refine gcW [0] ?_
 intro eg hEn
 simp only [forallC,forallL,and_true] at hEn
 try simp only [↓pb,qbs,tb6,hEg,irN,nrA,nrM,nrE,reduceIte,reduceCtorEq,nrL] at hEn
 replace hEg:=hEn;clear hEn
 repeat' (first|((with_reducible refine hK _ _ fun e2 hEn=>?_);clear hK K;simp only [lv6,forallC,forallL,and_true] at hEn;(try simp only [↓pb,qbs,tb6,hEg,irN,nrA,nrM,nrE,reduceIte,reduceCtorEq,nrL] at hEn);clear hEg;(try clear eg);have hEg:=hEn;clear hEn;rename Env=>eg)|((first|((with_reducible first|apply oV_intro|apply oH_intro|apply oB_intro);(simp (disch:=try exact dA) only [qcs,tb6,hEg,irN,nrA,nrM,nrE,reduceIte,reduceCtorEq,nrL];with_reducible exact rfl))|((with_reducible first|apply oblA_and|apply oblR_and|apply oblO_and);(focus exact obA))|((with_reducible apply WO_callE);(simp only [↓pb,qbs,tb6,hEg,irN,nrA,nrM,nrE,reduceIte,reduceCtorEq,nrL];(first|exact f16 _ l _ hT S hl|exact f18 _ _ _ [_,_,_] _ (by simp (disch:=try exact dA) only [qcs,tb6,hEg,irN,nrA,nrM,nrE,reduceIte,reduceCtorEq,nrL];rfl) (SR.new rfl) (.inl (by simp only [vblk];omega)) (by simp))))|(with_reducible first|refine W_regionF lv6 fun K hK=>?_|refine W_drawnF lv6 fun K hK=>?_));try simp only [↓pb,↓pd,qds,tb6,hEg,irN,nrA,nrM,nrE,reduceIte,reduceCtorEq,nrL])|((first|((with_reducible first|apply WO_gT|apply WO_gF|apply WD_gT|apply WD_gF);exact rfl)|(with_reducible apply W_cond));(simp only [↓pb,qbs,tb6,hEg,irN,nrA,nrM,nrE,reduceIte,reduceCtorEq,nrL];with_reducible exact rfl);all_goals (intro hc;(first|exact hcX hc|try simp only [hcs] at hc);try ((with_reducible first|apply woI|apply wdI);simp only [↓pb,↓pd,qds,tb6,hc,hEg,irN,nrA,nrM,nrE,reduceIte,reduceCtorEq,nrL])))|((with_reducible apply WO_gU);exact rfl;(focus (simp only [↓pb,qbs,tb6,hEg,irN,nrA,nrM,nrE,reduceIte,reduceCtorEq,nrL];done));try simp only [↓pb,↓pd,qds,tb6,hEg,irN,nrA,nrM,nrE,reduceIte,reduceCtorEq,nrL])|(with_reducible first|refine W_seq ?_|refine W_block ?_|refine W_skip ?_|refine W_ret ?_|refine W_exit ?_|apply blockK_exit)|((with_reducible apply blockK_pass);(focus decide))|fail)
 have hm:=eith3 (feedOf l) 4 40 9000
 refine WO_callX (X:=[H.n]) (by simp only [↓pb,qbs,tb6,hEg,irN,nrA,nrM,nrE,reduceIte,reduceCtorEq,nrL];exact f17 H.n (eitherS (feedOf l) [4,40,9000]) 3 3 7 (either (feedOf l) [4,40,9000]) 24 _ (by exact topA) (by simp (disch:=try exact dA) only [qcs,tb6,hEg,irN,nrA,nrM,nrE,reduceIte,reduceCtorEq,nrL]) (by simp only [↓pb,qbs,tb6,hEg,irN,nrA,nrM,nrE,reduceIte,reduceCtorEq,nrL];omega) (by omega) (by omega) (by omega) (by omega) (by omega)) ?_
 rintro v3 H3 ⟨va,vb,vc,vt,gg,gt,rfl,hG,GA,hgg,GTr,hx3,hsk⟩ hF3
 have hT3:Top H3:=hF3.top (by exact topA)
 rw [hmade] at hG hx3 GA GTr hsk
 have hF03:Fr H.n [] H H3:=by
  refine Fr.trans' (A:=H) ?_ hF3 (by simp only [↓pb,qbs,tb6,hEg,irN,nrA,nrM,nrE,reduceIte,reduceCtorEq,nrL];omega) (by intro b hb hlt;simp at hb;omega)
  exact frA
 have hn3:=hF3.n
 simp only [upd_n,jn_n] at hn3
 have hgo:=hG.one
 have ho4:=GTr.one
 have okp:=t5.ok.spots
 have okq:=t5.ok.sorts
 have oka:=t5.ok.acts
 simp only [↓pb,↓pd,qds,tb6,hx3,hgo,ho4,hEg,irN,nrA,nrM,nrE,reduceIte,reduceCtorEq,nrL]
 repeat' (first|((with_reducible refine hK _ _ fun e2 hEn=>?_);clear hK K;simp only [lv6,forallC,forallL,and_true] at hEn;(try simp only [↓pb,qbs,tb6,hEg,irN,nrA,nrM,nrE,reduceIte,reduceCtorEq,nrL] at hEn);clear hEg;(try clear eg);have hEg:=hEn;clear hEn;rename Env=>eg)|((first|((with_reducible first|apply oV_intro|apply oH_intro|apply oB_intro);(simp (disch:=try exact dA) only [qcs,tb6,hx3,hgo,ho4,hEg,irN,nrA,nrM,nrE,reduceIte,reduceCtorEq,nrL];with_reducible exact rfl))|((with_reducible first|apply oblA_and|apply oblR_and|apply oblO_and);(focus exact obA))|(with_reducible first|refine W_regionF lv6 fun K hK=>?_|refine W_drawnF lv6 fun K hK=>?_));try simp only [↓pb,↓pd,qds,tb6,hx3,hgo,ho4,hEg,irN,nrA,nrM,nrE,reduceIte,reduceCtorEq,nrL])|((first|((with_reducible first|apply WO_gT|apply WO_gF|apply WD_gT|apply WD_gF);exact rfl)|(with_reducible apply W_cond));(simp only [↓pb,qbs,tb6,hx3,hgo,ho4,hEg,irN,nrA,nrM,nrE,reduceIte,reduceCtorEq,nrL];with_reducible exact rfl);all_goals (intro hc;(first|exact hcX hc|try simp only [hcs] at hc);try ((with_reducible first|apply woI|apply wdI);simp only [↓pb,↓pd,qds,tb6,hx3,hgo,ho4,hc,hEg,irN,nrA,nrM,nrE,reduceIte,reduceCtorEq,nrL])))|((with_reducible apply WO_gU);exact rfl;(focus (simp only [↓pb,qbs,tb6,hx3,hgo,ho4,hEg,irN,nrA,nrM,nrE,reduceIte,reduceCtorEq,nrL];done));try simp only [↓pb,↓pd,qds,tb6,hx3,hgo,ho4,hEg,irN,nrA,nrM,nrE,reduceIte,reduceCtorEq,nrL])|(with_reducible first|refine W_seq ?_|refine W_block ?_|refine W_skip ?_|refine W_ret ?_|refine W_exit ?_|apply blockK_exit)|((with_reducible apply blockK_pass);(focus decide))|fail)
 refine W_forget (N:=H.n) (X:=[]) (h0:=H) (fun h=>MmT M.g M.truth H3.n va vb vc vt h∧h.get H.n=.cells [uv M.x] 85 .ex∧Top h) (by exact frA) ⟨⟨by simp (disch:=try exact dA) only [qcs,tb6,hEg,irN,nrA,nrM,nrE,reduceIte,reduceCtorEq,nrL],hG.fr (N:=H3.n) (by exact frA), ?_,GTr.sr.fr0 (N:=H3.n) (by exact frA),by simp only [↓pb,qbs,tb6,hEg,irN,nrA,nrM,nrE,reduceIte,reduceCtorEq,nrL];omega⟩,by simp (disch:=try exact dA) only [qcs,tb6,hEg,irN,nrA,nrM,nrE,reduceIte,reduceCtorEq,nrL];exact hx3,(by exact topA)⟩ ?_
 ·rcases hsk with q|q
  ·exact .inl q
  ·rcases hG.p.lt with q2|q2
   ·exact .inl q2
   ·exact .inr (q.fr (N:=H3.n) (X:=[]) (by exact frA) q2 (by simp))
 rintro hb Fb ⟨kb,fb,Tb⟩
 clear hG GA GTr hx3 hsk hF3 hT3
 have hH3:H.n < H3.n:=by omega
 refine W_count [3,4,5] (by kernel_rfl) 6 (5) (H.n) [H.n] [] (fun i e h=>∃ x:Int,h.get H.n=.cells [uv x] 85 .ex∧MmT M.g M.truth H3.n va vb vc vt h) (by simp only [↓pb,qbs,tb6,hEg,irN,nrA,nrM,nrE,reduceIte,reduceCtorEq,nrL]) (by focus exact topA) (H0:=H) (by focus exact frA) (by intro b hb hlt;simp at hb ⊢;try omega) ?_ ?_
 rotate_left
 intro i1 e1 h1 hi1 hE1 ei1 hF1 hF01 hTh1 hJ1
 simp only [forallC,forallL,and_true] at hE1
 try simp only [↓pb,qbs,tb6,hEg,irN,nrA,nrM,nrE,reduceIte,reduceCtorEq,nrL] at hE1
 have hn11:=hF1.n;have hn01:=hF01.n;try simp only [upd_n,jn_n] at hn11
 replace hEg:=And.intro ei1 hE1
 rotate_left
 ·exact ⟨M.x,fb,kb⟩
 obtain ⟨x,fx,kx⟩:=hJ1
 have bx:=kx.bd
 by_cases hi1':i1 < 5
 ·repeat' (first|((with_reducible refine hK _ _ fun e2 hEn=>?_);clear hK K;simp only [lv6,forallC,forallL,and_true] at hEn;(try simp only [↓pb,qbs,tb6,hEg,irN,nrA,nrM,nrE,reduceIte,reduceCtorEq,nrL] at hEn);clear hEg;(try clear eg);have hEg:=hEn;clear hEn;rename Env=>eg)|((first|((with_reducible first|apply oV_intro|apply oH_intro|apply oB_intro);(simp (disch:=try exact dA) only [qcs,tb6,fx,hEg,irN,nrA,nrM,nrE,reduceIte,reduceCtorEq,nrL];with_reducible exact rfl))|((with_reducible first|apply oblA_and|apply oblR_and|apply oblO_and);(focus exact obA))|((with_reducible apply WO_callE);(simp only [↓pb,qbs,tb6,fx,hEg,irN,nrA,nrM,nrE,reduceIte,reduceCtorEq,nrL];(exact f20 _ _ _ _ (by simp (disch:=try exact dA) only [qcs,tb6,fx,hEg,irN,nrA,nrM,nrE,reduceIte,reduceCtorEq,nrL];rfl) (by omega))))|(with_reducible first|refine W_regionE lv6 [7] fun K hK=>?_|refine W_drawnE lv6 [7] fun K hK=>?_));try simp only [↓pb,↓pd,qds,tb6,fx,hEg,irN,nrA,nrM,nrE,reduceIte,reduceCtorEq,nrL])|((first|((with_reducible first|apply WO_gT|apply WO_gF|apply WD_gT|apply WD_gF);exact rfl)|(with_reducible apply W_cond));(simp only [↓pb,qbs,tb6,fx,hEg,irN,nrA,nrM,nrE,reduceIte,reduceCtorEq,nrL];with_reducible exact rfl);all_goals (intro hc;(first|exact hcX hc|try simp only [hcs] at hc);try ((with_reducible first|apply woI|apply wdI);simp only [↓pb,↓pd,qds,tb6,fx,hc,hEg,irN,nrA,nrM,nrE,reduceIte,reduceCtorEq,nrL])))|((with_reducible apply WO_gU);exact rfl;(focus (simp only [↓pb,qbs,tb6,fx,hEg,irN,nrA,nrM,nrE,reduceIte,reduceCtorEq,nrL];done));try simp only [↓pb,↓pd,qds,tb6,fx,hEg,irN,nrA,nrM,nrE,reduceIte,reduceCtorEq,nrL])|(with_reducible first|refine W_seq ?_|refine W_block ?_|refine W_skip ?_|refine W_ret ?_|refine W_exit ?_|apply blockK_exit)|((with_reducible apply blockK_pass);(focus decide))|fail)
  refine W_forget (N:=H.n) (X:=[H.n]) (h0:=hb) (fun h=>MmT M.g M.truth H3.n va vb vc vt h∧h.get H.n=.cells [uv (belowS (belowS x 30) 12)] 85 .ex∧Top h) (by exact frA) ⟨kx.feed (N:=0) (n0:=H.n) (by exact frA) fx (by omega),by simp (disch:=try exact dA) only [qcs,tb6,hEg,irN,nrA,nrM,nrE,reduceIte,reduceCtorEq,nrL],(by exact topA)⟩ ?_
  rintro h2 F2 ⟨k2,fx2,T2⟩
  have b2:=k2.bd
  have n2:=F2.n
  have r2:h2.rd H3.n=some [va,vb,vc]:=by rw [rd_def,k2.g4];rfl
  have w2:=k2.g4
  have hb10:=below_in x 30 (by decide) (by decide)
  have hb11:=below_in (belowS x 30) 12 (by decide) (by decide)
  obtain ⟨hour,hh⟩:∃ hour,hour=below x 30:=⟨_,rfl⟩
  obtain ⟨age,hag⟩:∃ age,age=below (belowS x 30) 12:=⟨_,rfl⟩
  rw [← hh,← hag] at hEg
  have hr:0≤hour∧hour < 30:=hh ▸ hb10
  have ha:0≤age∧age < 12:=hag ▸ hb11
  clear hh hag hb10 hb11
  obtain ⟨m0,hml⟩:=t5.masses0 (hour:=hour) hr.1 (by omega)
  have old:∀ i,i < M.g.Spots.length→OldT M.g M.truth hour age i:=fun i hi=>t5.old hr.1 (by omega) ha.1 (by omega) hi
  have lg:(masses M.g hour).1.length=M.g.Spots.length:=by
   obtain ⟨N,X,sp⟩:=t5.nx
   exact ((t5.gd sp).masses hr.1 (by omega)).2.1
  obtain ⟨d,hd⟩:∃ d,d=dayOf M.g M.truth M.g.Acts.length hour:=⟨_,rfl⟩
  have hsp:=t5.few.spot
  have hgr:=k2.hG.r
  have hgp:=k2.hG.p
  have hlt:=t5.len
  repeat' (first|((with_reducible refine hK _ _ fun e2 hEn=>?_);clear hK K;simp only [lv6,forallC,forallL,and_true] at hEn;(try simp only [↓pb,qbs,tb6,hEg,irN,nrA,nrM,nrE,reduceIte,reduceCtorEq,nrL] at hEn);clear hEg;(try clear eg);have hEg:=hEn;clear hEn;rename Env=>eg)|((first|((with_reducible first|apply oV_intro|apply oH_intro|apply oB_intro);(simp (disch:=try exact dA) only [qcs,tb6,r2,w2,hgo,ho4,lns24 hgr,hgr.mapB,hEg,irN,nrA,nrM,nrE,reduceIte,reduceCtorEq,nrL];with_reducible exact rfl))|((with_reducible first|apply oblA_and|apply oblR_and|apply oblO_and);(focus exact obA))|((with_reducible apply WO_callF);(focus exact topA);(simp only [↓pb,qbs,tb6,r2,w2,hgo,ho4,lns24 hgr,hgr.mapB,hEg,irN,nrA,nrM,nrE,reduceIte,reduceCtorEq,nrL];exact f35 va vb vc vt M.g M.truth M.g.Acts.length hour _ (by exact topA) (k2.hG.fr (N:=h2.n) (by exact frA)) (k2.st.fr0 (N:=h2.n) (by exact frA)) hlt (Nat.le_refl _) (by omega) (by omega) hsp);(rintro vq Gq hq hJq ⟨vl,vs,rfl,Sl,Ss⟩;try simp only [upd_n,jn_n] at hq))|(with_reducible first|refine W_regionE lv6 [8] fun K hK=>?_|refine W_drawnE lv6 [8] fun K hK=>?_));try simp only [↓pb,↓pd,qds,tb6,r2,w2,hgo,ho4,lns24 hgr,hgr.mapB,hEg,irN,nrA,nrM,nrE,reduceIte,reduceCtorEq,nrL])|((first|((with_reducible first|apply WO_gT|apply WO_gF|apply WD_gT|apply WD_gF);exact rfl)|(with_reducible apply W_cond));(simp only [↓pb,qbs,tb6,r2,w2,hgo,ho4,lns24 hgr,hgr.mapB,hEg,irN,nrA,nrM,nrE,reduceIte,reduceCtorEq,nrL];with_reducible exact rfl);all_goals (intro hc;(first|exact hcX hc|try simp only [hcs] at hc);try ((with_reducible first|apply woI|apply wdI);simp only [↓pb,↓pd,qds,tb6,r2,w2,hgo,ho4,lns24 hgr,hgr.mapB,hc,hEg,irN,nrA,nrM,nrE,reduceIte,reduceCtorEq,nrL])))|((with_reducible apply WO_gU);exact rfl;(focus (simp only [↓pb,qbs,tb6,r2,w2,hgo,ho4,lns24 hgr,hgr.mapB,hEg,irN,nrA,nrM,nrE,reduceIte,reduceCtorEq,nrL];done));try simp only [↓pb,↓pd,qds,tb6,r2,w2,hgo,ho4,lns24 hgr,hgr.mapB,hEg,irN,nrA,nrM,nrE,reduceIte,reduceCtorEq,nrL])|(with_reducible first|refine W_seq ?_|refine W_block ?_|refine W_skip ?_|refine W_ret ?_|refine W_exit ?_|apply blockK_exit)|((with_reducible apply blockK_pass);(focus decide))|fail)
  obtain ⟨hdl,hdt⟩:=day_lens M.g M.truth M.g.Acts.length hour
  rw [← hd] at Sl Ss hdl hdt
  rw [← hdl] at Sl
  rw [← hdt] at Ss
  refine W_forget (N:=H.n) (X:=[H.n]) (h0:=hb) (fun h=>MmT M.g M.truth H3.n va vb vc vt h∧BkH M.g M.truth H3.n Gq.n va vb vc vt vl vs d h∧h.get H.n=.cells [uv (belowS (belowS x 30) 12)] 85 .ex∧Top h) (by exact frA) ⟨k2.fr (N:=h2.n) (by exact frA),⟨by simp (disch:=try exact dA) only [qcs,tb6,hEg,irN,nrA,nrM,nrE,reduceIte,reduceCtorEq,nrL];exact w2,by simp (disch:=try exact dA) only [qcs,tb6,hEg,irN,nrA,nrM,nrE,reduceIte,reduceCtorEq,nrL],k2.hG.fr (N:=h2.n) (by exact frA),k2.st.fr0 (N:=h2.n) (by exact frA),Sl.fr0 (N:=0) (by exact frA),Ss.fr0 (N:=0) (by exact frA),by simp only [↓pb,qbs,tb6,hEg,irN,nrA,nrM,nrE,reduceIte,reduceCtorEq,nrL];omega,by simp only [↓pb,qbs,tb6,hEg,irN,nrA,nrM,nrE,reduceIte,reduceCtorEq,nrL];omega⟩,by simp (disch:=try exact dA) only [qcs,tb6,hEg,irN,nrA,nrM,nrE,reduceIte,reduceCtorEq,nrL];exact fx2,(by exact topA)⟩ ?_
  rintro h3 F3 ⟨k3,kb3,fx3,T3⟩
  obtain ⟨B,hB⟩:∃ B,B=Gq.n:=⟨_,rfl⟩
  rw [← hB] at kb3 hEg
  clear Sl Ss hq hJq hB hgr hgp r2 w2 k2
  have b3:=k3.bd
  have r3:h3.rd H3.n=some [va,vb,vc]:=by rw [rd_def,k3.g4];rfl
  have w3:=k3.g4
  have F03:Fr H.n [] H h3:=Fr.trans' Fb F3 (Nat.le_refl _) (by intro b hb hlt;simp at hb;omega)
  repeat' (first|((with_reducible refine hK _ _ fun e2 hEn=>?_);clear hK K;simp only [lv6,forallC,forallL,and_true] at hEn;(try simp only [↓pb,qbs,tb6,hEg,irN,nrA,nrM,nrE,reduceIte,reduceCtorEq,nrL] at hEn);clear hEg;(try clear eg);have hEg:=hEn;clear hEn;rename Env=>eg)|((first|((with_reducible first|apply oV_intro|apply oH_intro|apply oB_intro);(simp (disch:=try exact dA) only [qcs,tb6,r3,w3,hgo,ho4,hEg,irN,nrA,nrM,nrE,reduceIte,reduceCtorEq,nrL];with_reducible exact rfl))|((with_reducible first|apply oblA_and|apply oblR_and|apply oblO_and);(focus exact obA))|((with_reducible apply WO_callF);(focus exact topA);(simp only [↓pb,qbs,tb6,r3,w3,hgo,ho4,hEg,irN,nrA,nrM,nrE,reduceIte,reduceCtorEq,nrL];exact f21 _ _ _ M.g _ _ (by exact topA) (k3.hG.fr (N:=h3.n) (by exact frA)) (by omega) (by omega));(rintro vq Gq hq hJq ⟨vr,rfl,Sr⟩;try simp only [upd_n,jn_n] at hq))|(with_reducible first|refine W_regionE lv6 [9] fun K hK=>?_|refine W_drawnE lv6 [9] fun K hK=>?_));try simp only [↓pb,↓pd,qds,tb6,r3,w3,hgo,ho4,hEg,irN,nrA,nrM,nrE,reduceIte,reduceCtorEq,nrL])|((first|((with_reducible first|apply WO_gT|apply WO_gF|apply WD_gT|apply WD_gF);exact rfl)|(with_reducible apply W_cond));(simp only [↓pb,qbs,tb6,r3,w3,hgo,ho4,hEg,irN,nrA,nrM,nrE,reduceIte,reduceCtorEq,nrL];with_reducible exact rfl);all_goals (intro hc;(first|exact hcX hc|try simp only [hcs] at hc);try ((with_reducible first|apply woI|apply wdI);simp only [↓pb,↓pd,qds,tb6,r3,w3,hgo,ho4,hc,hEg,irN,nrA,nrM,nrE,reduceIte,reduceCtorEq,nrL])))|((with_reducible apply WO_gU);exact rfl;(focus (simp only [↓pb,qbs,tb6,r3,w3,hgo,ho4,hEg,irN,nrA,nrM,nrE,reduceIte,reduceCtorEq,nrL];done));try simp only [↓pb,↓pd,qds,tb6,r3,w3,hgo,ho4,hEg,irN,nrA,nrM,nrE,reduceIte,reduceCtorEq,nrL])|(with_reducible first|refine W_seq ?_|refine W_block ?_|refine W_skip ?_|refine W_ret ?_|refine W_exit ?_|apply blockK_exit)|((with_reducible apply blockK_pass);(focus decide))|fail)
  rw [lg] at Sr
  have odr:=Sr.one
  have hgp:=k3.hG.p
  repeat' (first|((with_reducible refine hK _ _ fun e2 hEn=>?_);clear hK K;simp only [lv6,forallC,forallL,and_true] at hEn;(try simp only [↓pb,qbs,tb6,hEg,irN,nrA,nrM,nrE,reduceIte,reduceCtorEq,nrL] at hEn);clear hEg;(try clear eg);have hEg:=hEn;clear hEn;rename Env=>eg)|((first|((with_reducible first|apply oV_intro|apply oH_intro|apply oB_intro);(simp (disch:=try exact dA) only [qcs,tb6,r3,w3,hgo,m0,odr,lns42 Sr,lns22 hgp,hgp.mapB,nzs,hEg,irN,nrA,nrM,nrE,reduceIte,reduceCtorEq,nrL];with_reducible exact rfl))|((with_reducible first|apply oblA_and|apply oblR_and|apply oblO_and);(focus exact obA))|(with_reducible first|refine W_regionF lv6 fun K hK=>?_|refine W_drawnF lv6 fun K hK=>?_));try simp only [↓pb,↓pd,qds,tb6,r3,w3,hgo,m0,odr,lns42 Sr,lns22 hgp,hgp.mapB,nzs,hEg,irN,nrA,nrM,nrE,reduceIte,reduceCtorEq,nrL])|((first|((with_reducible first|apply WO_gT|apply WO_gF|apply WD_gT|apply WD_gF);exact rfl)|(with_reducible apply W_cond));(simp only [↓pb,qbs,tb6,r3,w3,hgo,m0,odr,lns42 Sr,lns22 hgp,hgp.mapB,nzs,hEg,irN,nrA,nrM,nrE,reduceIte,reduceCtorEq,nrL];with_reducible exact rfl);all_goals (intro hc;(first|exact hcX hc|try simp only [hcs] at hc);try ((with_reducible first|apply woI|apply wdI);simp only [↓pb,↓pd,qds,tb6,r3,w3,hgo,m0,odr,lns42 Sr,lns22 hgp,hgp.mapB,nzs,hc,hEg,irN,nrA,nrM,nrE,reduceIte,reduceCtorEq,nrL])))|((with_reducible apply WO_gU);exact rfl;(focus (simp only [↓pb,qbs,tb6,r3,w3,hgo,m0,odr,lns42 Sr,lns22 hgp,hgp.mapB,nzs,hEg,irN,nrA,nrM,nrE,reduceIte,reduceCtorEq,nrL];done));try simp only [↓pb,↓pd,qds,tb6,r3,w3,hgo,m0,odr,lns42 Sr,lns22 hgp,hgp.mapB,nzs,hEg,irN,nrA,nrM,nrE,reduceIte,reduceCtorEq,nrL])|(with_reducible first|refine W_seq ?_|refine W_block ?_|refine W_skip ?_|refine W_ret ?_|refine W_exit ?_|apply blockK_exit)|((with_reducible apply blockK_pass);(focus decide))|fail)
  have n3:=F3.n
  refine W_forget (N:=H.n) (X:=[H.n]) (h0:=hb) (fun h=>MmT M.g M.truth H3.n va vb vc vt h∧BkH M.g M.truth H3.n B va vb vc vt vl vs d h∧SR h 2 M.g.Spots.length vr ((masses M.g hour).1.flatMap eRng)∧h.get H.n=.cells [uv (belowS (belowS x 30) 12)] 85 .ex∧Top h) (by exact frA) ⟨k3.fr (N:=h3.n) (by exact frA),kb3.fr (N:=h3.n) (by exact frA),Sr.fr0 (N:=0) (by exact frA),by simp (disch:=try exact dA) only [qcs,tb6,hEg,irN,nrA,nrM,nrE,reduceIte,reduceCtorEq,nrL];exact fx3,(by exact topA)⟩ ?_
  rintro h4 F4 ⟨k4,kb4,Sr4,fx4,T4⟩
  clear Sr hq hJq k3 kb3 hgp
  have F04:Fr H.n [] H h4:=Fr.trans' Fb F4 (Nat.le_refl _) (by intro b hb hlt;simp at hb;omega)
  have hms:∀ x:Int,massGo M.g.Acts d.left x d.left.length=d.mass M.g x:=fun x=>rfl
  have odl:=kb4.sl.one
  have ods:=kb4.ss.one
  have b4:=k4.bd
  refine W_count [3,4,5,6,7,8,9,10] (by kernel_rfl) 12 (M.g.Spots.length) (H.n) [] [] (fun i e h=>True) (by simp only [↓pb,qbs,tb6,hEg,irN,nrA,nrM,nrE,reduceIte,reduceCtorEq,nrL]) (by focus exact topA) (H0:=H) (by focus exact frA) (by intro b hb hlt;simp at hb ⊢;try omega) ?_ ?_
  rotate_left
  intro i7 e7 h7 hi7 hE7 ei7 hF7 hF07 hTh7 hJ7
  simp only [forallC,forallL,and_true] at hE7
  try simp only [↓pb,qbs,tb6,hEg,irN,nrA,nrM,nrE,reduceIte,reduceCtorEq,nrL] at hE7
  have hn17:=hF7.n;have hn07:=hF07.n;try simp only [upd_n,jn_n] at hn17
  replace hEg:=And.intro ei7 hE7
  rotate_left
  ·trivial
  have k7:=k4.fr hF7
  have kb7:=kb4.fr hF7
  have S7:=Sr4.fr0 hF7
  have r7:h7.rd H3.n=some [va,vb,vc]:=by rw [rd_def,k7.g4];rfl
  have w7:=k7.g4
  have rb7:h7.rd B=some [vl,vs]:=by rw [rd_def,kb7.g7];rfl
  have wb7:=kb7.g7
  obtain ⟨bd1,bd2⟩:=kb7.bd
  have y7:=S7.lt
  by_cases hi7':i7 < M.g.Spots.length
  ·obtain ⟨o1,ov,of,olo,ohi⟩:=old i7 hi7'
   rw [← hd] at of olo ohi
   have din:=decide_eq_true (And.intro olo ohi)
   repeat' (first|((with_reducible refine hK _ _ fun e2 hEn=>?_);clear hK K;simp only [lv6,forallC,forallL,and_true] at hEn;(try simp only [↓pb,qbs,tb6,hEg,irN,nrA,nrM,nrE,reduceIte,reduceCtorEq,nrL] at hEn);clear hEg;(try clear eg);have hEg:=hEn;clear hEn;rename Env=>eg)|((first|((with_reducible first|apply oV_intro|apply oH_intro|apply oB_intro);(simp (disch:=try exact dA) only [qcs,tb6,r7,w7,rb7,wb7,hgo,ho4,odl,ods,odr,o1,hms,din,of,lns42 S7,ias42 S7,S7.rd,(S7.el eRng_len lg.symm),eRng,nzs,hEg,irN,nrA,nrM,nrE,reduceIte,reduceCtorEq,nrL];with_reducible exact rfl))|((with_reducible first|apply oblA_and|apply oblR_and|apply oblO_and);(focus exact obA))|((with_reducible apply WO_callE);(simp only [↓pb,qbs,tb6,r7,w7,rb7,wb7,hgo,ho4,odl,ods,odr,o1,hms,din,of,lns42 S7,ias42 S7,S7.rd,(S7.el eRng_len lg.symm),eRng,nzs,hEg,irN,nrA,nrM,nrE,reduceIte,reduceCtorEq,nrL];(exact f38 _ _ _ (by exact topA) ov)))|((with_reducible apply WO_callV);(focus exact topA);(simp only [↓pb,qbs,tb6,r7,w7,rb7,wb7,hgo,ho4,odl,ods,odr,o1,hms,din,of,lns42 S7,ias42 S7,S7.rd,(S7.el eRng_len lg.symm),eRng,nzs,hEg,irN,nrA,nrM,nrE,reduceIte,reduceCtorEq,nrL];(first|exact f23 _ _ _ M.g _ _ _ _ (by exact topA) (k7.hG.fr (N:=h7.n) (by exact frA)) (by omega) (by omega)|exact f37 _ _ _ _ _ _ _ _ _ (by exact topA) (kb7.fr (N:=h7.n) (by exact frA)).hG (kb7.fr (N:=h7.n) (by exact frA)).sl ods (by omega) (by omega)|exact f36 _ _ _ _ (by exact topA)|exact f39 _ _ _ _ _ _ d.left d.last _ _ _ _ (by exact topA) (kb7.fr (N:=h7.n) (by exact frA)).hG (kb7.fr (N:=h7.n) (by exact frA)).sl ods (by omega) (by omega)));(intro Gq hq hJq;try simp only [upd_n,jn_n] at hq))|(with_reducible first|refine W_regionF lv6 fun K hK=>?_|refine W_drawnF lv6 fun K hK=>?_));try simp only [↓pb,↓pd,qds,tb6,r7,w7,rb7,wb7,hgo,ho4,odl,ods,odr,o1,hms,din,of,lns42 S7,ias42 S7,S7.rd,(S7.el eRng_len lg.symm),eRng,nzs,hEg,irN,nrA,nrM,nrE,reduceIte,reduceCtorEq,nrL])|((first|((with_reducible first|apply WO_gT|apply WO_gF|apply WD_gT|apply WD_gF);exact rfl)|(with_reducible apply W_cond));(simp only [↓pb,qbs,tb6,r7,w7,rb7,wb7,hgo,ho4,odl,ods,odr,o1,hms,din,of,lns42 S7,ias42 S7,S7.rd,(S7.el eRng_len lg.symm),eRng,nzs,hEg,irN,nrA,nrM,nrE,reduceIte,reduceCtorEq,nrL];with_reducible exact rfl);all_goals (intro hc;(first|exact hcX hc|try simp only [hcs] at hc);try ((with_reducible first|apply woI|apply wdI);simp only [↓pb,↓pd,qds,tb6,r7,w7,rb7,wb7,hgo,ho4,odl,ods,odr,o1,hms,din,of,lns42 S7,ias42 S7,S7.rd,(S7.el eRng_len lg.symm),eRng,nzs,hc,hEg,irN,nrA,nrM,nrE,reduceIte,reduceCtorEq,nrL])))|((with_reducible apply WO_gU);exact rfl;(focus (simp only [↓pb,qbs,tb6,r7,w7,rb7,wb7,hgo,ho4,odl,ods,odr,o1,hms,din,of,lns42 S7,ias42 S7,S7.rd,(S7.el eRng_len lg.symm),eRng,nzs,hEg,irN,nrA,nrM,nrE,reduceIte,reduceCtorEq,nrL];done));try simp only [↓pb,↓pd,qds,tb6,r7,w7,rb7,wb7,hgo,ho4,odl,ods,odr,o1,hms,din,of,lns42 S7,ias42 S7,S7.rd,(S7.el eRng_len lg.symm),eRng,nzs,hEg,irN,nrA,nrM,nrE,reduceIte,reduceCtorEq,nrL])|(with_reducible first|refine W_seq ?_|refine W_block ?_|refine W_skip ?_|refine W_ret ?_|refine W_exit ?_|apply blockK_exit)|((with_reducible apply blockK_pass);(focus decide))|fail)
   refine ⟨by omega,by simp only [↓pb,qbs,tb6,hEg,irN,nrA,nrM,nrE,reduceIte,reduceCtorEq,nrL];exact congrArg _ (inc64 (by omega)),by focus exact frA, ?_⟩
   trivial
  ·have F7h:Fr H.n [H.n] hb h7:=Fr.trans F4 (hF7.mono (Nat.le_refl _) (by simp))
   repeat' (first|((with_reducible refine hK _ _ fun e2 hEn=>?_);clear hK K;simp only [lv6,forallC,forallL,and_true] at hEn;(try simp only [↓pb,qbs,tb6,hEg,irN,nrA,nrM,nrE,reduceIte,reduceCtorEq,nrL] at hEn);clear hEg;(try clear eg);have hEg:=hEn;clear hEn;rename Env=>eg)|((first|((with_reducible first|apply oV_intro|apply oH_intro|apply oB_intro);(simp (disch:=try exact dA) only [qcs,tb6,lns42 S7,hEg,irN,nrA,nrM,nrE,reduceIte,reduceCtorEq,nrL];with_reducible exact rfl))|((with_reducible first|apply oblA_and|apply oblR_and|apply oblO_and);(focus exact obA))|(with_reducible first|refine W_regionF lv6 fun K hK=>?_|refine W_drawnF lv6 fun K hK=>?_));try simp only [↓pb,↓pd,qds,tb6,lns42 S7,hEg,irN,nrA,nrM,nrE,reduceIte,reduceCtorEq,nrL])|((first|((with_reducible first|apply WO_gT|apply WO_gF|apply WD_gT|apply WD_gF);exact rfl)|(with_reducible apply W_cond));(simp only [↓pb,qbs,tb6,lns42 S7,hEg,irN,nrA,nrM,nrE,reduceIte,reduceCtorEq,nrL];with_reducible exact rfl);all_goals (intro hc;(first|exact hcX hc|try simp only [hcs] at hc);try ((with_reducible first|apply woI|apply wdI);simp only [↓pb,↓pd,qds,tb6,lns42 S7,hc,hEg,irN,nrA,nrM,nrE,reduceIte,reduceCtorEq,nrL])))|((with_reducible apply WO_gU);exact rfl;(focus (simp only [↓pb,qbs,tb6,lns42 S7,hEg,irN,nrA,nrM,nrE,reduceIte,reduceCtorEq,nrL];done));try simp only [↓pb,↓pd,qds,tb6,lns42 S7,hEg,irN,nrA,nrM,nrE,reduceIte,reduceCtorEq,nrL])|(with_reducible first|refine W_seq ?_|refine W_block ?_|refine W_skip ?_|refine W_ret ?_|refine W_exit ?_|apply blockK_exit)|((with_reducible apply blockK_pass);(focus decide))|fail)
   refine ⟨by omega,by simp only [↓pb,qbs,tb6,hEg,irN,nrA,nrM,nrE,reduceIte,reduceCtorEq,nrL];exact congrArg _ (inc64 (by omega)),by focus exact frA, ?_⟩
   exact ⟨_,by rw [hF7.old _ (by omega) (by simp)];exact fx4,k7⟩
 ·have e1n:i1=5:=by omega
  have hF1':=Fr.trans' Fb hF1 (Nat.le_refl _) (by intro b hb hlt;simp at hb;omega)
  obtain ⟨b0,c1,c2⟩:=t5.breaksT
  have r1:h1.rd H3.n=some [va,vb,vc]:=by rw [rd_def,kx.g4];rfl
  have w1:=kx.g4
  have hFi:=first_first M.g M.truth
  have fr1:=hFi.ge
  clear hFi
  generalize hm1:(breaks M.g).1=m at c1
  generalize hn1:(breaks M.g).2.1=n at c2
  generalize hf1:first M.g M.truth=due at c1 c2 fr1
  have nl:¬ ((i1:Nat):Int) < 5:=by omega
  have cs:(0≤due∧¬ m < 0∧¬ due < m∧0≤n∧¬ due < 0∧¬ n < due)∨(0≤due∧¬ m < 0∧¬ due < m∧¬ 0≤n)∨(¬ 0≤due∧¬ 0≤n):=by omega
  rcases cs with cc|cc|cc
  all_goals (
   repeat' (first|((with_reducible refine hK _ _ fun e2 hEn=>?_);clear hK K;simp only [lv6,forallC,forallL,and_true] at hEn;(try simp only [↓pb,qbs,tb6,hEg,irN,nrA,nrM,nrE,reduceIte,reduceCtorEq,nrL] at hEn);clear hEg;(try clear eg);have hEg:=hEn;clear hEn;rename Env=>eg)|((first|((with_reducible first|apply oV_intro|apply oH_intro|apply oB_intro);(simp (disch:=try exact dA) only [qcs,tb6,nl,r1,w1,hgo,ho4,b0,hm1,hn1,hf1,cc,nzs,hEg,irN,nrA,nrM,nrE,reduceIte,reduceCtorEq,nrL];with_reducible exact rfl))|((with_reducible first|apply oblA_and|apply oblR_and|apply oblO_and);(focus exact obA))|((with_reducible apply WO_callE);(simp only [↓pb,qbs,tb6,nl,r1,w1,hgo,ho4,b0,hm1,hn1,hf1,cc,nzs,hEg,irN,nrA,nrM,nrE,reduceIte,reduceCtorEq,nrL];(exact ⟨_,_,Cl.or (hw _ (by exact topA)),rfl,rfl⟩)))|((with_reducible apply WO_callV);(focus exact topA);(simp only [↓pb,qbs,tb6,nl,r1,w1,hgo,ho4,b0,hm1,hn1,hf1,cc,nzs,hEg,irN,nrA,nrM,nrE,reduceIte,reduceCtorEq,nrL];(first|exact f29 _ _ _ M.g _ (by exact topA) (kx.fr (N:=h1.n) (by exact frA)).hG (kx.fr (N:=h1.n) (by exact frA)).hk (by omega) (by omega)|exact f40 _ _ _ _ M.g M.truth _ (by exact topA) (kx.fr (N:=h1.n) (by exact frA)).hG (kx.fr (N:=h1.n) (by exact frA)).st t5));(intro Gq hq hJq;try simp only [upd_n,jn_n] at hq))|(with_reducible first|refine W_regionF lv6 fun K hK=>?_|refine W_drawnF lv6 fun K hK=>?_));try simp only [↓pb,↓pd,qds,tb6,nl,r1,w1,hgo,ho4,b0,hm1,hn1,hf1,cc,nzs,hEg,irN,nrA,nrM,nrE,reduceIte,reduceCtorEq,nrL])|((first|((with_reducible first|apply WO_gT|apply WO_gF|apply WD_gT|apply WD_gF);exact rfl)|(with_reducible apply W_cond));(simp only [↓pb,qbs,tb6,nl,r1,w1,hgo,ho4,b0,hm1,hn1,hf1,cc,nzs,hEg,irN,nrA,nrM,nrE,reduceIte,reduceCtorEq,nrL];with_reducible exact rfl);all_goals (intro hc;(first|exact hcX hc|try simp only [hcs] at hc);try ((with_reducible first|apply woI|apply wdI);simp only [↓pb,↓pd,qds,tb6,nl,r1,w1,hgo,ho4,b0,hm1,hn1,hf1,cc,nzs,hc,hEg,irN,nrA,nrM,nrE,reduceIte,reduceCtorEq,nrL])))|((with_reducible apply WO_gU);exact rfl;(focus (simp only [↓pb,qbs,tb6,nl,r1,w1,hgo,ho4,b0,hm1,hn1,hf1,cc,nzs,hEg,irN,nrA,nrM,nrE,reduceIte,reduceCtorEq,nrL];done));try simp only [↓pb,↓pd,qds,tb6,nl,r1,w1,hgo,ho4,b0,hm1,hn1,hf1,cc,nzs,hEg,irN,nrA,nrM,nrE,reduceIte,reduceCtorEq,nrL])|(with_reducible first|refine W_seq ?_|refine W_block ?_|refine W_skip ?_|refine W_ret ?_|refine W_exit ?_|apply blockK_exit)|((with_reducible apply blockK_pass);(focus decide))|fail))
  all_goals (
  refine ⟨by first|exact .inl rfl|exact .inr rfl, ?_⟩
  rw [ret1 Try.results6]
  simp only [↓pb,qbs,tb6,rv_tmp,rv_cell,hEg,irN,nrA,nrM,nrE,reduceIte,reduceCtorEq,nrL]
  repeat ((with_reducible apply oV_intro);(simp (disch:=try exact dA) only [qcs,tb6,hEg,irN,nrA,nrM,nrE,reduceIte,reduceCtorEq,nrL];exact rfl))
  first|exact ⟨rfl,(by exact frA)⟩|exact (by exact frA))
end Go.Proofs.Swa
set_option maxRecDepth 20000
set_option linter.unusedVariables false
set_option linter.unusedSimpArgs false
namespace Go.Proofs.Swa
open Go
open Nat renaming reduceAdd → nrA, reduceMul → nrM, reduceEqDiff → nrE, reduceLT → nrL
open Int renaming reduceToNat → irN
theorem SR.castZ {H:AHeap} {s m k:Nat} {v:Value} {c:List Value} (h:SR H s m v c) (e:m=k):SR H s k v c:=e ▸ h
end Go.Proofs.Swa
namespace Go.Proofs.Ytkjcijlaehflhaa
open Go.ChangeShapes Go.WideShapes Go.ChangeAt Go.RowKit
open Go.Proofs.Swa (SR ints iv Top Fr RoB RoOk)
theorem cells3:Try.prog.cellsOf 3=1:=by kernel_rfl
theorem own5:ownKnob Try.prog.godebug=none:=by kernel_rfl
section
variable {H:Type} {enc:TypeId×Value→H} {P:Program}
theorem post_of_below {f:Func} {s:ChangeSpec} {apart fresh handsOn again:Bool} {W W':World} {args:Array Value} {v:Value} {ds gs:List (DataW H)} {before pa pv:List MemPlace}
  (hW:DataW.Whole enc P f.params.toList s.vars apart W args.toList ds gs before)
  (hres:∀ (b:Nat) (sp:Nat→Bool) (hd:Bool),DataW.TrodAll enc P W' b sp hd f.resultTypes.toList (v.resultList f.resultTypes.size) (s.fn H (ds ++ gs)).results [])
  (hargs:∀ sp:Nat→Bool,(∀ p∈before,sp p.block=true)→DataW.TrodAll enc P W' 0 sp true f.params.toList args.toList (s.fn H (ds ++ gs)).args pa)
  (hvars:∀ sp:Nat→Bool,(∀ p∈before,sp p.block=true)→DataW.TrodVars enc P W' sp s.vars (s.fn H (ds ++ gs)).vars pv)
  (hps:before=pa ++ pv) (hb:Below W.heap.size W W')
  (hok:∀ (j:Nat) (t:TypeId) (r:Value),f.resultTypes[j]? = some t→(v.resultList f.resultTypes.size)[j]? = some r→Value.okWide P W' .any 0 t r) :
  s.post enc P f apart fresh handsOn again W args v W':=by
 have hlt:∀ p∈before,p.block < W.heap.size:=fun p hp=>hW.lt p hp
 have hold:∀ p∈before,(fun b=>decide (b < W.heap.size)) p.block=true:=fun p hp=>by simpa using hlt p hp
 refine ⟨ds,gs,before,[],pa,pv,hW,hres _ _ _,hargs _ hold,hvars _ hold,World.keptBut_mono (fun p hp=>⟨hp, ?_⟩) (hb.frame (·∈before)),fun _=>?_⟩
 ·rw [hps,List.mem_append] at hp
  exact Or.inr hp
 ·obtain ⟨_,_,_,_,_,hz,hn⟩:=hW
  refine ⟨hok,_,_,([] ++ pa) ++ pv,⟨[] ++ pa,pv,trodAll_append (hargs _ (fun _ _=>rfl)) (hres _ _ _),hvars _ (fun _ _=>rfl),rfl, ?_, ?_⟩, ?_⟩
  ·intro b off hp
   have hin:MemPlace.cell b off∈before:=by rw [hps];simpa using hp
   rw [hb.frozen (hlt _ hin)]
   exact hz b off hin
  ·intro ha
   have:=hn ha
   rw [hps] at this
   simpa using this
  ·intro p hp _
   rw [hps]
   simpa using hp
end
def LawInts (f:FuncId):Prop:=∀ (vl:Value) (l:List Int) (H:Swa.AHeap),Top H→SR H 1 l.length vl (ints l)→l.length≤9223372036854775807→∃ v H',Swa.Cl Try.prog (Swa.OrC Try.prog) 0 (.fn f) #[vl] H v H'∧v=.bool true∧Fr H.n [] H H'
theorem ints_call {f:FuncId} (hf:LawInts f) {H:Type} {enc:TypeId×Value→H} {W:World} {v0:Value} {d0:DataW H} {p0:List MemPlace} {base0:Nat} (hv:Value.okWide Try.prog W .any base0 31 v0) (h0:DataW.Trod enc Try.prog W 0 (fun _=>true) true 31 v0 d0 p0) :
  Calls Try.prog f #[v0] W fun e W'=>e=.returned (.bool true)∧Below W.heap.size W W':=by
 have hmix:Try.prog.follows .mixedOrders=true:=by kernel_rfl
 obtain ⟨a0,len,cap,rfl⟩:=okWide_slice Try.underlying31 hv
 obtain ⟨fuel,hf0⟩:=h0
 rcases open_ints Try.underlying31 Try.underlying3 cells3 hf0 with ⟨hcs,hx⟩|⟨a,len',cap',zs,hcs,_,hl,hm,hz,hx,hcell,hwz⟩
 ·simp [Value.cells] at hcs
  obtain ⟨rfl,rfl,rfl⟩:=hcs
  refine Swa.law_callsC hmix (L:=[]) (by simp) (Swa.ARel.one (.flat rfl)) ?_
  exact hf _ [] _ (Swa.top_heapOf _) (Swa.GS.nul (s:=1)).sr (by simp)
 ·simp [Value.cells] at hcs
  obtain ⟨rfl,rfl,rfl⟩:=hcs
  simp only [if_true] at hz
  unfold maxLen at hm
  by_cases hc:cap=0
  ·subst hc
   have hl0:len=0:=by omega
   subst hl0
   refine Swa.law_callsC hmix (L:=[]) (by simp) (args:=#[.slice (some ⟨0,1,none⟩) 0 0]) (Swa.ARel.one (.empty (by omega))) ?_
   exact hf _ [] _ (Swa.top_heapOf _) ⟨.inr ⟨_,_,_,rfl,Nat.le_refl _⟩,rfl,.inl rfl,.inl rfl⟩ (by simp)
  ·have hlen:(ints zs).length=zs.length:=Swa.ints_len zs
   have hr:=Swa.roOk_of (w:=W) (a:=a) (cs:=ints zs) (T:=3) (by omega) (fun i hi=>by
    rw [hcell i (by omega)]
    have:(ints zs)[i]=iv (zs.getD i 0):=by
     have hi2:i < zs.length:=by omega
     simp [ints,hi2]
    rw [this]
    exact ⟨rfl,rfl⟩)
   obtain ⟨b,off,spot⟩:=a
   obtain ⟨hr,hsp⟩:=hr
   dsimp only at hsp
   subst hsp
   refine Swa.law_callsC hmix (L:=[⟨b,off,ints zs,3⟩]) (by intro r hrm;rw [List.mem_singleton.1 hrm];exact hr) (args:=#[.slice (some ⟨0,0,none⟩) len cap]) (Swa.ARel.one ?_) ?_
   ·have:=Swa.VRel.slice (ρ:=Swa.renOf W [⟨b,off,ints zs,3⟩]) (b:=0) (o:=0) (n:=len) (c:=cap) (c':=cap) (im:=⟨b,off,Swa.szOf W b,true,false,0,0⟩) rfl (.inr ⟨rfl,rfl⟩) hl
    exact this
   ·have hlt:(zs.take len).length=len:=by rw [List.length_take];omega
    have S:SR (Swa.heapOf [⟨b,off,ints zs,3⟩]) 1 len (.slice (some ⟨0,0,none⟩) len cap) (ints (zs.take len)):=by
     refine ⟨.inr ⟨_,_,_,rfl,hl⟩, ?_,.inr ⟨ints zs,rfl, ?_, ?_⟩,.inr (Nat.lt_succ_self _)⟩
     ·rw [Swa.ints_len,hlt,Nat.mul_one]
     ·show 0 + _≤_
      rw [hlen];omega
     ·show ((ints zs).drop 0).take _=_
      rw [List.drop_zero,Nat.mul_one]
      unfold ints
      rw [← List.map_take]
    exact hf _ (zs.take len) _ (Swa.top_heapOf _) (S.castZ hlt.symm) (by omega)
end Go.Proofs.Ytkjcijlaehflhaa
set_option linter.unusedVariables false
set_option linter.unusedSimpArgs false
namespace Go.Proofs.Swa
open Go
open Nat renaming reduceAdd → nrA, reduceMul → nrM, reduceEqDiff → nrE, reduceLT → nrL
open Int renaming reduceToNat → irN
set_option maxRecDepth 1000000 in
/-- The chapter's examples, by a run that computes. -/
theorem awake_run:topX Try.prog noO 200 15 [] isT=true:=by kernel_rfl
theorem awake_body:Bodied Try.prog 15:=⟨_,_,Try.func15,rfl,by kernel_rfl⟩
theorem awake_or (H:AHeap):OrC Try.prog 15 #[] H (.bool true) H:=orC_run (by kernel_rfl) awake_body awake_run H
end Go.Proofs.Swa
