/- PayHedged states, for every list of numbers, that the law returns true: the plan of Hedged is the first of the best of all plans. -/
import Derived.Test.YtloabbaheifkgaaP10
import Derived.Test.YtloabbaheifkgaaRows
import Derived.ProofKit
import Derived.OpenShut
import Derived.JoinedCond
import Derived.Below
import Derived.ChangeSame
set_option maxRecDepth 20000
set_option linter.unusedVariables false
set_option linter.unusedSimpArgs false
namespace Go.Proofs.Swa
open Go
open Nat renaming reduceAdd → nrA, reduceMul → nrM, reduceEqDiff → nrE, reduceLT → nrL
open Int renaming reduceToNat → irN
attribute [local congr] WO_congr oV_congr oB_congr oH_congr WD_congr oblO_congr oblA_congr oblR_congr
theorem f53 (b:Nat) (x:Int) (H:AHeap) (hT:Top H) (hg:H.get b=.cells [uv x] 111 .ex) (hb:b < H.n) :
  ∃ v H',C8 (.fn 53) #[vptr b 0,iv 4,iv 5] H v H'∧(∃ vs g x',v=.agg ⟨eHdg vs g⟩∧SR H' 2 g.Stock.length vs (g.Stock.flatMap eRg)∧H'.get b=.cells [uv x'] 111 .ex∧HdgV g)∧Fr H.n [b] H H':=by
 have w56:IntKind.i64.wrap (5 + 1)=6:=by decide
 have z1:=btw_spec (x:=x) (lo:=1) (hi:=9) (by omega) (by omega) (by omega)
 have z2:=below_spec (btwS x 1 9) 6 (by omega)
 have w2:IntKind.i64.wrap (2 * btw x 1 9)=2 * btw x 1 9:=wrap64 (by omega) (by omega)
 have w3:IntKind.i64.wrap ((btw x 1 9).tdiv 2)=btw x 1 9 / 2:=by rw [Int.tdiv_eq_ediv_of_nonneg (by omega)];exact wrap64 (by omega) (by omega)
 refine Cl.ofW Try.func53 rfl (by kernel_rfl) (by rw [Try.ntmps53];exact Nat.le_of_ble_eq_true rfl) (by kernel_rfl) ?_
 have hEg:True:=trivial
 refine gcW [0,1,2] ?_
 intro eg hEn
 simp only [forallC,forallL,and_true] at hEn
 try simp only [↓pb,qbs,tb53,hg,w56,w2,w3,hEg,irN,nrA,nrM,nrE,reduceIte,reduceCtorEq,nrL] at hEn
 replace hEg:=hEn;clear hEn
 repeat' (first|((with_reducible refine hK _ _ fun e2 hEn=>?_);clear hK K;simp only [lv53,forallC,forallL,and_true] at hEn;(try simp only [↓pb,qbs,tb53,hg,w56,w2,w3,hEg,irN,nrA,nrM,nrE,reduceIte,reduceCtorEq,nrL] at hEn);clear hEg;(try clear eg);have hEg:=hEn;clear hEn;rename Env=>eg)|((first|((with_reducible first|apply oV_intro|apply oH_intro|apply oB_intro);(simp (disch:=try exact dA) only [qcs,tb53,hg,w56,w2,w3,hEg,irN,nrA,nrM,nrE,reduceIte,reduceCtorEq,nrL];with_reducible exact rfl))|((with_reducible first|apply oblA_and|apply oblR_and|apply oblO_and);(focus exact obA))|((with_reducible apply WO_callE);(simp only [↓pb,qbs,tb53,hg,w56,w2,w3,hEg,irN,nrA,nrM,nrE,reduceIte,reduceCtorEq,nrL];(first|exact f24 _ _ _ _ _ (by simp (disch:=try exact dA) only [qcs,tb53,hg,w56,w2,w3,hEg,irN,nrA,nrM,nrE,reduceIte,reduceCtorEq,nrL];rfl)|exact f19 _ _ _ _ (by simp (disch:=try exact dA) only [qcs,tb53,hg,w56,w2,w3,hEg,irN,nrA,nrM,nrE,reduceIte,reduceCtorEq,nrL];rfl) (by omega))))|(with_reducible first|refine W_regionE lv53 [2] fun K hK=>?_|refine W_drawnE lv53 [2] fun K hK=>?_));try simp only [↓pb,↓pd,qds,tb53,hg,w56,w2,w3,hEg,irN,nrA,nrM,nrE,reduceIte,reduceCtorEq,nrL])|((with_reducible apply W_cond);(simp only [↓pb,qbs,tb53,hg,w56,w2,w3,hEg,irN,nrA,nrM,nrE,reduceIte,reduceCtorEq,nrL];with_reducible exact rfl);all_goals (intro hc;(first|exact hcX hc|try simp only [hcs] at hc)))|(with_reducible first|refine W_seq ?_|refine W_block ?_|refine W_skip ?_|refine W_ret ?_|refine W_exit ?_|apply blockK_exit)|((with_reducible apply blockK_pass);(focus decide))|fail)
 generalize hx1:belowS (btwS x 1 9) 6=x1 at *
 generalize hlo:btw x 1 9=lot at *
 generalize below (btwS x 1 9) 6=held at *
 clear hx1 hlo
 have z3:=btw_spec (x:=x1) (lo:=lot / 2) (hi:=2 * lot) (by omega) (by omega) (by omega)
 repeat' (first|((with_reducible refine hK _ _ fun e2 hEn=>?_);clear hK K;simp only [lv53,forallC,forallL,and_true] at hEn;(try simp only [↓pb,qbs,tb53,hg,w56,w2,w3,hEg,irN,nrA,nrM,nrE,reduceIte,reduceCtorEq,nrL] at hEn);clear hEg;(try clear eg);have hEg:=hEn;clear hEn;rename Env=>eg)|((first|((with_reducible first|apply oV_intro|apply oH_intro|apply oB_intro);(simp (disch:=try exact dA) only [qcs,tb53,hg,w56,w2,w3,hEg,irN,nrA,nrM,nrE,reduceIte,reduceCtorEq,nrL];with_reducible exact rfl))|((with_reducible first|apply oblA_and|apply oblR_and|apply oblO_and);(focus exact obA))|((with_reducible apply WO_callE);(simp only [↓pb,qbs,tb53,hg,w56,w2,w3,hEg,irN,nrA,nrM,nrE,reduceIte,reduceCtorEq,nrL];(exact f24 _ _ _ _ _ (by simp (disch:=try exact dA) only [qcs,tb53,hg,w56,w2,w3,hEg,irN,nrA,nrM,nrE,reduceIte,reduceCtorEq,nrL];rfl))))|(with_reducible first|refine W_regionE lv53 [3] fun K hK=>?_|refine W_drawnE lv53 [3] fun K hK=>?_));try simp only [↓pb,↓pd,qds,tb53,hg,w56,w2,w3,hEg,irN,nrA,nrM,nrE,reduceIte,reduceCtorEq,nrL])|((with_reducible apply W_cond);(simp only [↓pb,qbs,tb53,hg,w56,w2,w3,hEg,irN,nrA,nrM,nrE,reduceIte,reduceCtorEq,nrL];with_reducible exact rfl);all_goals (intro hc;(first|exact hcX hc|try simp only [hcs] at hc)))|(with_reducible first|refine W_seq ?_|refine W_block ?_|refine W_skip ?_|refine W_ret ?_|refine W_exit ?_|apply blockK_exit)|((with_reducible apply blockK_pass);(focus decide))|fail)
 generalize btwS x1 (lot / 2) (2 * lot)=x2 at *
 generalize btw x1 (lot / 2) (2 * lot)=bound at *
 have z4:=btw_spec (x:=x2) (lo:=1) (hi:=4) (by omega) (by omega) (by omega)
 repeat' (first|((with_reducible refine hK _ _ fun e2 hEn=>?_);clear hK K;simp only [lv53,forallC,forallL,and_true] at hEn;(try simp only [↓pb,qbs,tb53,hg,w56,w2,w3,hEg,irN,nrA,nrM,nrE,reduceIte,reduceCtorEq,nrL] at hEn);clear hEg;(try clear eg);have hEg:=hEn;clear hEn;rename Env=>eg)|((first|((with_reducible first|apply oV_intro|apply oH_intro|apply oB_intro);(simp (disch:=try exact dA) only [qcs,tb53,hg,w56,w2,w3,hEg,irN,nrA,nrM,nrE,reduceIte,reduceCtorEq,nrL];with_reducible exact rfl))|((with_reducible first|apply oblA_and|apply oblR_and|apply oblO_and);(focus exact obA))|((with_reducible apply WO_callE);(simp only [↓pb,qbs,tb53,hg,w56,w2,w3,hEg,irN,nrA,nrM,nrE,reduceIte,reduceCtorEq,nrL];(exact f24 _ _ _ _ _ (by simp (disch:=try exact dA) only [qcs,tb53,hg,w56,w2,w3,hEg,irN,nrA,nrM,nrE,reduceIte,reduceCtorEq,nrL];rfl))))|(with_reducible first|refine W_regionF lv53 fun K hK=>?_|refine W_drawnF lv53 fun K hK=>?_));try simp only [↓pb,↓pd,qds,tb53,hg,w56,w2,w3,hEg,irN,nrA,nrM,nrE,reduceIte,reduceCtorEq,nrL])|((with_reducible apply W_cond);(simp only [↓pb,qbs,tb53,hg,w56,w2,w3,hEg,irN,nrA,nrM,nrE,reduceIte,reduceCtorEq,nrL];with_reducible exact rfl);all_goals (intro hc;(first|exact hcX hc|try simp only [hcs] at hc)))|(with_reducible first|refine W_seq ?_|refine W_block ?_|refine W_skip ?_|refine W_ret ?_|refine W_exit ?_|apply blockK_exit)|((with_reducible apply blockK_pass);(focus decide))|fail)
 generalize btwS x2 1 4=x3 at *
 generalize hcn:btw x2 1 4=cnt at *
 clear hcn
 refine W_forget (N:=H.n) (X:=[b]) (h0:=H) (fun h=>Top h∧h.get b=.cells [uv x3] 111 .ex∧h.get (H.n + 1)=.cells [.slice none 0 0,iv lot,iv bound,iv held] 87 .ex∧h.get H.n=.cells [.slice none 0 0,iv 0,iv 0,iv 0] 87 .ex∧H.n + 2≤h.n) (by exact frA) ⟨by exact topA,by simp (disch:=try exact dA) only [qcs,tb53,hg,w56,w2,w3,hEg,irN,nrA,nrM,nrE,reduceIte,reduceCtorEq,nrL],by simp (disch:=try exact dA) only [qcs,tb53,hg,w56,w2,w3,hEg,irN,nrA,nrM,nrE,reduceIte,reduceCtorEq,nrL],by simp (disch:=try exact dA) only [qcs,tb53,hg,w56,w2,w3,hEg,irN,nrA,nrM,nrE,reduceIte,reduceCtorEq,nrL],by simp only [upd_n];omega⟩ ?_
 rintro h0 hF0 ⟨hT0,g0,gh,gz,n0⟩
 refine W_while [0,2,6,7] (by kernel_rfl) (H.n) [b,H.n + 1] [b] (fun s e h=>∃ (i y:Int) (va:Value) (l:List Rg) (gg:Option Nat),e 8=iv i∧i.toNat=s∧i≤4∧(l.length:Int) + i=cnt∧0≤i∧h.get b=.cells [uv y] 111 .ex∧h.get (H.n + 1)=.cells [va,iv lot,iv bound,iv held] 87 .ex∧GS h 2 l.length va (l.flatMap eRg) gg∧(∀ x,gg=some x→H.n≤x)∧(va=.slice none 0 0∨H.n + 1 < vblk va)∧(∀ x,x∈l→(0≤x.1∧x.1≤5 * lot)∧x.1≤x.2∧x.2≤x.1 + bound)) (fun s=>s) (cnt.toNat) (by focus exact topA) (H0:=H) (by focus exact frA) (by intro b hb hlt;simp at hb ⊢;try omega) ?_ ?_
 rotate_left
 intro s1 e1 h1 hE1 hF1 hF01 hTh1 hJ1
 simp only [forallC,forallL,and_true] at hE1
 try simp only [↓pb,qbs,tb53,hg,w56,w2,w3,hEg,irN,nrA,nrM,nrE,reduceIte,reduceCtorEq,nrL] at hE1
 have hn11:=hF1.n;have hn01:=hF01.n;try simp only [upd_n,jn_n] at hn11
 replace hEg:=hE1
 rotate_left
 ·refine ⟨cnt,x3,.slice none 0 0,[],none,by simp only [↓pb,qbs,tb53,hg,w56,w2,w3,hEg,irN,nrA,nrM,nrE,reduceIte,reduceCtorEq,nrL],rfl,by omega,by simp,by omega,g0,gh,.nil rfl rfl rfl,by simp,.inl rfl,fun x hx=>(by cases hx)⟩
 obtain ⟨i1,y1,va,l1,gg,e8,ei,i4,hlen,i0,k1,k2,G,g2,g3,V⟩:=hJ1
 have ho:=G.one
 have r2:h1.rd (H.n + 1)=some [va,iv lot,iv bound,iv held]:=by rw [rd_def,k2];rfl
 by_cases hi2:0 < i1
 ·have w5:IntKind.i64.wrap (IntKind.i64.wrap (lot * 5) + 1)=lot * 5 + 1:=by
   have:IntKind.i64.wrap (lot * 5)=lot * 5:=wrap64 (by omega) (by omega)
   rw [this]
   exact wrap64 (by omega) (by omega)
  have w6:IntKind.i64.wrap (bound + 1)=bound + 1:=wrap64 (by omega) (by omega)
  have c1:=below_spec y1 (lot * 5 + 1) (by omega)
  have c2:=below_spec (belowS y1 (lot * 5 + 1)) (bound + 1) (by omega)
  repeat' (first|((with_reducible refine hK _ _ fun e2 hEn=>?_);clear hK K;simp only [lv53,forallC,forallL,and_true] at hEn;(try simp only [↓pb,qbs,tb53,hg,w56,w2,w3,hEg,irN,nrA,nrM,nrE,reduceIte,reduceCtorEq,nrL] at hEn);clear hEg;(try clear eg);have hEg:=hEn;clear hEn;rename Env=>eg)|((first|((with_reducible first|apply oV_intro|apply oH_intro|apply oB_intro);(simp (disch:=try exact dA) only [qcs,tb53,hg,w56,w2,w3,e8,r2,k1,k2,hi2,w5,w6,ho,hEg,irN,nrA,nrM,nrE,reduceIte,reduceCtorEq,nrL];with_reducible exact rfl))|((with_reducible first|apply oblA_and|apply oblR_and|apply oblO_and);(focus exact obA))|((with_reducible apply WO_callE);(simp only [↓pb,qbs,tb53,hg,w56,w2,w3,e8,r2,k1,k2,hi2,w5,w6,ho,hEg,irN,nrA,nrM,nrE,reduceIte,reduceCtorEq,nrL];(exact f19 _ _ _ _ (by simp (disch:=try exact dA) only [qcs,tb53,hg,w56,w2,w3,e8,r2,k1,k2,hi2,w5,w6,ho,hEg,irN,nrA,nrM,nrE,reduceIte,reduceCtorEq,nrL];rfl) (by omega))))|(with_reducible first|refine W_regionF lv53 fun K hK=>?_|refine W_drawnF lv53 fun K hK=>?_));try simp only [↓pb,↓pd,qds,tb53,hg,w56,w2,w3,e8,r2,k1,k2,hi2,w5,w6,ho,hEg,irN,nrA,nrM,nrE,reduceIte,reduceCtorEq,nrL])|((with_reducible apply W_cond);(simp only [↓pb,qbs,tb53,hg,w56,w2,w3,e8,r2,k1,k2,hi2,w5,w6,ho,hEg,irN,nrA,nrM,nrE,reduceIte,reduceCtorEq,nrL];with_reducible exact rfl);all_goals (intro hc;(first|exact hcX hc|try simp only [hcs] at hc)))|(with_reducible first|refine W_seq ?_|refine W_block ?_|refine W_skip ?_|refine W_ret ?_|refine W_exit ?_|apply blockK_exit)|((with_reducible apply blockK_pass);(focus decide))|fail)
  generalize hq1:below y1 (lot * 5 + 1)=q1 at *
  generalize hq2:below (belowS y1 (lot * 5 + 1)) (bound + 1)=q2 at *
  generalize hy2:belowS (belowS y1 (lot * 5 + 1)) (bound + 1)=y2 at *
  clear hq1 hq2 hy2
  have w7:IntKind.i64.wrap (q1 + q2)=q1 + q2:=wrap64 (by omega) (by omega)
  rw [w7]
  have hvb:va=.slice none 0 0∨vblk va∉[b]:=by
   rcases g3 with g3|g3
   ·exact .inl g3
   ·exact .inr nxA
  refine pu37 (n:=l1.length) (m:=1) (c:=l1.flatMap eRg) (g:=gg) ?a1 (SR.new rfl) (by omega) (by omega) (by omega) ?a3 fun GG=>?a4
  case a1 =>
   refine GS.ex ?_
   refine G.fr' (N:=h1.n) (X:=[b]) ?_ (fun x hx=>by subst hx;exact G.grp_lt) hvb
   exact frA
  case a3 =>
   exact topA
  have hgd1:=gd_ge g2 (n:=h1.n + 1) (by omega)
  have hgd2:=GG.grp_lt
  simp only [upd_n,jn_n] at hgd2
  simp only [upd_n,jn_n,nb] at GG
  simp only [↓pb,↓pd,qds,tb53,hg,w56,w2,w3,e8,k2,r2,hEg,irN,nrA,nrM,nrE,reduceIte,reduceCtorEq,nrL]
  repeat' (first|((with_reducible refine hK _ _ fun e2 hEn=>?_);clear hK K;simp only [lv53,forallC,forallL,and_true] at hEn;(try simp only [↓pb,qbs,tb53,hg,w56,w2,w3,hEg,irN,nrA,nrM,nrE,reduceIte,reduceCtorEq,nrL] at hEn);clear hEg;(try clear eg);have hEg:=hEn;clear hEn;rename Env=>eg)|((first|((with_reducible first|apply oV_intro|apply oH_intro|apply oB_intro);(simp (disch:=try exact dA) only [qcs,tb53,hg,w56,w2,w3,e8,k2,r2,hEg,irN,nrA,nrM,nrE,reduceIte,reduceCtorEq,nrL];with_reducible exact rfl))|((with_reducible first|apply oblA_and|apply oblR_and|apply oblO_and);(focus exact obA))|(with_reducible first|refine W_regionF lv53 fun K hK=>?_|refine W_drawnF lv53 fun K hK=>?_));try simp only [↓pb,↓pd,qds,tb53,hg,w56,w2,w3,e8,k2,r2,hEg,irN,nrA,nrM,nrE,reduceIte,reduceCtorEq,nrL])|((with_reducible apply W_cond);(simp only [↓pb,qbs,tb53,hg,w56,w2,w3,e8,k2,r2,hEg,irN,nrA,nrM,nrE,reduceIte,reduceCtorEq,nrL];with_reducible exact rfl);all_goals (intro hc;(first|exact hcX hc|try simp only [hcs] at hc)))|(with_reducible first|refine W_seq ?_|refine W_block ?_|refine W_skip ?_|refine W_ret ?_|refine W_exit ?_|apply blockK_exit)|((with_reducible apply blockK_pass);(focus decide))|fail)
  have hw:IntKind.i64.wrap (i1 - 1)=i1 - 1:=wrap64 (by omega) (by omega)
  obtain ⟨n2,rfl⟩:∃ n2,s1=n2 + 1:=⟨s1 - 1,by omega⟩
  refine ⟨n2,Nat.lt_succ_self _,(by exact frA),i1 - 1,y2,.slice (some ⟨h1.n + 1,0,none⟩) (l1.length + 1) (l1.length + 1),l1 ++ [(q1,q1 + q2)],some (gg.getD (h1.n + 1)),by simp only [hEg,e8,hw],by omega,by omega, ?_,by omega,by simp (disch:=try exact dA) only [qcs,tb53,hg,w56,w2,w3,hEg,irN,nrA,nrM,nrE,reduceIte,reduceCtorEq,nrL],by simp (disch:=try exact dA) only [qcs,tb53,hg,w56,w2,w3,hEg,irN,nrA,nrM,nrE,reduceIte,reduceCtorEq,nrL], ?_,gd_all hgd1,.inr (by show H.n + 1 < h1.n + 1;omega), ?_⟩
  ·rw [List.length_append,List.length_singleton]
   omega
  ·rw [List.flatMap_append,List.flatMap_singleton,List.length_append]
   exact GG.fr (N:=h1.n + 2) (X:=[b,H.n + 1]) (by exact frA) (fun x hx=>by cases hx;exact hgd2) (by show h1.n + 1∉[b,H.n + 1];exact nxA)
  ·intro x hx
   rcases List.mem_append.1 hx with q|q
   ·exact V x q
   ·rw [List.mem_singleton.1 q]
    dsimp only
    omega
 ·have gz1:h1.get H.n=.cells [.slice none 0 0,iv 0,iv 0,iv 0] 87 .ex:=by rw [hF1.old _ (by omega) (by simp;omega)];exact gz
  repeat' (first|((with_reducible refine hK _ _ fun e2 hEn=>?_);clear hK K;simp only [lv53,forallC,forallL,and_true] at hEn;(try simp only [↓pb,qbs,tb53,hg,w56,w2,w3,hEg,irN,nrA,nrM,nrE,reduceIte,reduceCtorEq,nrL] at hEn);clear hEg;(try clear eg);have hEg:=hEn;clear hEn;rename Env=>eg)|((first|((with_reducible first|apply oV_intro|apply oH_intro|apply oB_intro);(simp (disch:=try exact dA) only [qcs,tb53,hg,w56,w2,w3,e8,r2,k1,k2,hi2,gz1,ho,hEg,irN,nrA,nrM,nrE,reduceIte,reduceCtorEq,nrL];with_reducible exact rfl))|((with_reducible first|apply oblA_and|apply oblR_and|apply oblO_and);(focus exact obA))|(with_reducible first|refine W_regionF lv53 fun K hK=>?_|refine W_drawnF lv53 fun K hK=>?_));try simp only [↓pb,↓pd,qds,tb53,hg,w56,w2,w3,e8,r2,k1,k2,hi2,gz1,ho,hEg,irN,nrA,nrM,nrE,reduceIte,reduceCtorEq,nrL])|((with_reducible apply W_cond);(simp only [↓pb,qbs,tb53,hg,w56,w2,w3,e8,r2,k1,k2,hi2,gz1,ho,hEg,irN,nrA,nrM,nrE,reduceIte,reduceCtorEq,nrL];with_reducible exact rfl);all_goals (intro hc;(first|exact hcX hc|try simp only [hcs] at hc)))|(with_reducible first|refine W_seq ?_|refine W_block ?_|refine W_skip ?_|refine W_ret ?_|refine W_exit ?_|apply blockK_exit)|((with_reducible apply blockK_pass);(focus decide))|fail)
  refine ⟨by first|exact .inl rfl|exact .inr rfl, ?_⟩
  rw [ret1 Try.results53]
  simp only [↓pb,qbs,tb53,hg,w56,w2,w3,rv_tmp,rv_cell,hEg,irN,nrA,nrM,nrE,reduceIte,reduceCtorEq,nrL]
  repeat ((with_reducible apply oV_intro);(simp (disch:=try exact dA) only [qcs,tb53,hg,w56,w2,w3,hEg,irN,nrA,nrM,nrE,reduceIte,reduceCtorEq,nrL];exact rfl))
  have hL1:1≤l1.length∧l1.length≤4:=by omega
  refine ⟨⟨va,⟨l1,lot,bound,held⟩,y1,rfl, ?_, ?_,⟨z1,by dsimp only;omega,by dsimp only;omega,hL1,V⟩⟩,by exact frA⟩
  ·exact G.sr.fr (N:=H.n) (X:=[H.n]) (by exact frA) (by rcases g3 with rfl|g3;(left;exact (G.sr.shape.elim And.right fun ⟨_,_,_,h,_⟩=>by cases h));(right;exact nxA))
  ·rw [upd_get_ne (by omega)]
   exact k1
theorem f55 (vl:Value) (l:List Int) (H:AHeap) (hT:Top H) (S:SR H 1 l.length vl (ints l)) (hl:l.length < 1000000) :
  ∃ v H',C8 (.fn 55) #[vl] H v H'∧(∃ gg,GS H' 1 l.length v (ints l) gg∧(∀ x,gg=some x→H.n≤x)∧H.n≤vblk v)∧Fr H.n [] H H':=by
 have so:=S.one
 refine Cl.ofW Try.func55 rfl (by kernel_rfl) (by rw [Try.ntmps55];exact Nat.le_of_ble_eq_true rfl) (by kernel_rfl) ?_
 have hEg:True:=trivial
 refine gcW [0] ?_
 intro eg hEn
 simp only [forallC,forallL,and_true] at hEn
 try simp only [↓pb,qbs,tb55,so,so.1,so.2,hEg,irN,nrA,nrM,nrE,reduceIte,reduceCtorEq,nrL] at hEn
 replace hEg:=hEn;clear hEn
 repeat' (first|((with_reducible refine hK _ _ fun e2 hEn=>?_);clear hK K;simp only [lv55,forallC,forallL,and_true] at hEn;(try simp only [↓pb,qbs,tb55,so,so.1,so.2,hEg,irN,nrA,nrM,nrE,reduceIte,reduceCtorEq,nrL] at hEn);clear hEg;(try clear eg);have hEg:=hEn;clear hEn;rename Env=>eg)|((first|((with_reducible first|apply oV_intro|apply oH_intro|apply oB_intro);(simp (disch:=try exact dA) only [qcs,tb55,so,so.1,so.2,hEg,irN,nrA,nrM,nrE,reduceIte,reduceCtorEq,nrL];with_reducible exact rfl))|(with_reducible first|refine W_regionF lv55 fun K hK=>?_));try simp only [↓pb,↓pd,qds,tb55,so,so.1,so.2,hEg,irN,nrA,nrM,nrE,reduceIte,reduceCtorEq,nrL])|(with_reducible first|refine W_seq ?_|refine W_ret ?_)|fail)
 refine oB_app (e:=3) (n:=0) (by exact topA) (GS.new rfl) S.ex (fun hm=>ap27 (GS.new rfl) S.ex hm (by omega) (by omega)) (fun hm=>apz27 (GS.new rfl) (S.ex.cast hm)) ?_
 rintro v' G' g' hA G hv
 have o1:=G.one
 have hn:=hA.n
 simp only [upd_n] at hn
 repeat' (first|((with_reducible refine hK _ _ fun e2 hEn=>?_);clear hK K;simp only [lv55,forallC,forallL,and_true] at hEn;(try simp only [↓pb,qbs,tb55,so,so.1,so.2,hEg,irN,nrA,nrM,nrE,reduceIte,reduceCtorEq,nrL] at hEn);clear hEg;(try clear eg);have hEg:=hEn;clear hEn;rename Env=>eg)|((first|((with_reducible first|apply oV_intro|apply oH_intro|apply oB_intro);(simp (disch:=try exact dA) only [qcs,tb55,so,so.1,so.2,o1,hEg,irN,nrA,nrM,nrE,reduceIte,reduceCtorEq,nrL];with_reducible exact rfl))|(with_reducible first|refine W_regionF lv55 fun K hK=>?_));try simp only [↓pb,↓pd,qds,tb55,so,so.1,so.2,o1,hEg,irN,nrA,nrM,nrE,reduceIte,reduceCtorEq,nrL])|(with_reducible first|refine W_seq ?_|refine W_ret ?_)|fail)
 refine ⟨by first|exact .inl rfl|exact .inr rfl, ?_⟩
 rw [ret1 Try.results55]
 simp only [↓pb,qbs,tb55,so,so.1,so.2,rv_tmp,rv_cell,hEg,irN,nrA,nrM,nrE,reduceIte,reduceCtorEq,nrL]
 repeat ((with_reducible apply oV_intro);(simp (disch:=try exact dA) only [qcs,tb55,so,so.1,so.2,hEg,irN,nrA,nrM,nrE,reduceIte,reduceCtorEq,nrL];exact rfl))
 rw [Nat.zero_add] at G
 have hgg:∀ x,g'=some x→H.n≤x:=by
  intro x hx
  rcases hA.grp with ⟨_,q⟩|⟨_,q⟩
  ·rw [q] at hx;cases hx
  ·rw [q] at hx
   cases hx
   simp only [Option.getD_none,upd_n]
   omega
 refine ⟨⟨g',G,hgg, ?_⟩,Fr.trans (Fr.ex (N:=H.n)) (hA.fr H.n (by simp only [upd_n];omega) (by simp))⟩
 rcases hv with rfl|hv
 ·exact Nat.le_refl _
 ·simp only [upd_n] at hv
  omega
structure PlH (bB bF:Nat) (b:List Nat×Int) (h:AHeap):Prop where
 v:∃ vb,h.get bB=.cells [vb] 27 .ex∧SR h 1 b.1.length vb (ints (b.1.map Int.ofNat))∧(b.1.length=0∨(vblk vb≠bB∧vblk vb≠bF))
 f:h.get bF=.cells [iv b.2] 3 .ex
 lt:bB < h.n∧bF < h.n∧bB≠bF
theorem PlH.fr {bB bF N:Nat} {b:List Nat×Int} {A B:AHeap} (k:PlH bB bF b A) (F:Fr N [] A B):PlH bB bF b B:=by
 obtain ⟨⟨vb,g1,S,hd⟩,g2,l1,l2,l3⟩:=k
 have hn:=F.n
 exact ⟨⟨vb,by rw [F.old _ l1 (by simp)];exact g1,S.fr0 F,hd⟩,by rw [F.old _ l2 (by simp)];exact g2,by omega,by omega,l3⟩
set_option maxHeartbeats 4000000 in
theorem f62 (vs:Value) (g:Hdg) (hgl:g.Stock.length < 1000000) (bB bF:Nat):∀ (k:Nat) (pre:List Nat) (vp:Value) (tr:Int) (acc:List Nat×Int) (H:AHeap),g.Stock.length=pre.length + k→Top H→SR H 2 g.Stock.length vs (g.Stock.flatMap eRg)→PlH bB bF acc H→SR H 1 pre.length vp (ints (pre.map Int.ofNat))→(pre.length=0∨(vblk vp≠bB∧vblk vp≠bF)) →
  ∃ v H',C8 (.fn 62) #[.agg ⟨eHdg vs g⟩,vp,iv tr,iv 9,vptr bB 0,vptr bF 0] H v H'∧(v=.tuple #[]∧PlH bB bF (plansGo g k pre tr acc) H')∧Fr H.n [bB,bF] H H':=by
 intro k
 induction k with
 | zero =>
  intro pre vp tr acc H hk hT S P Sp hp
  obtain ⟨⟨vb,g1,Sb,hd⟩,g2,l1,l2,l3⟩:=P
  have so:=S.one
  have op:=Sp.one
  have he:((pre.length:Nat):Int)=((g.Stock.length:Nat):Int):=by omega
  have r2:H.rd bF=some [iv acc.2]:=by rw [rd_def,g2];rfl
  have hst:∀ (h:AHeap) (w:Value),stG h bB 0 1 vp (.cells [w] 27 .ex)=some (h.upd h.n bB (.cells [vp] 27 .ex)):=fun h w=>stG_one op.2 op.1 Nat.one_pos
  have e0:plansGo g 0 pre tr acc=if tr < acc.2 then (pre,tr) else acc:=rfl
  refine Cl.ofW Try.func62 rfl (by kernel_rfl) (by rw [Try.ntmps62];exact Nat.le_of_ble_eq_true rfl) (by kernel_rfl) ?_
  have hEg:True:=trivial
  refine gcW [0,1,2,3,4,5] ?_
  intro eg hEn
  simp only [forallC,forallL,and_true] at hEn
  try simp only [↓pb,qbs,tb62,eHdg,so,so.1,so.2,op,lns37 S,lns27 Sp,he,g1,g2,r2,hst,hEg,irN,nrA,nrM,nrE,reduceIte,reduceCtorEq,nrL] at hEn
  replace hEg:=hEn;clear hEn
  repeat' (first|((with_reducible refine hK _ _ fun e2 hEn=>?_);clear hK K;simp only [lv62,forallC,forallL,and_true] at hEn;(try simp only [↓pb,qbs,tb62,eHdg,so,so.1,so.2,op,lns37 S,lns27 Sp,he,g1,g2,r2,hst,hEg,irN,nrA,nrM,nrE,reduceIte,reduceCtorEq,nrL] at hEn);clear hEg;(try clear eg);have hEg:=hEn;clear hEn;rename Env=>eg)|((first|((with_reducible first|apply oV_intro|apply oH_intro|apply oB_intro);(simp (disch:=try exact dA) only [qcs,tb62,eHdg,so,so.1,so.2,op,lns37 S,lns27 Sp,he,g1,g2,r2,hst,hEg,irN,nrA,nrM,nrE,reduceIte,reduceCtorEq,nrL];with_reducible exact rfl))|((with_reducible first|apply oblA_and|apply oblR_and|apply oblO_and);(focus exact obA))|(with_reducible first|refine W_regionF lv62 fun K hK=>?_|refine W_drawnF lv62 fun K hK=>?_));try simp only [↓pb,↓pd,qds,tb62,eHdg,so,so.1,so.2,op,lns37 S,lns27 Sp,he,g1,g2,r2,hst,hEg,irN,nrA,nrM,nrE,reduceIte,reduceCtorEq,nrL])|((first|((with_reducible first|apply WO_gT|apply WO_gF|apply WD_gT|apply WD_gF);exact rfl)|(with_reducible apply W_cond));(simp only [↓pb,qbs,tb62,eHdg,so,so.1,so.2,op,lns37 S,lns27 Sp,he,g1,g2,r2,hst,hEg,irN,nrA,nrM,nrE,reduceIte,reduceCtorEq,nrL];with_reducible exact rfl);all_goals (intro hc;(first|exact hcX hc|try simp only [hcs] at hc);try ((with_reducible first|apply woI|apply wdI);simp only [↓pb,↓pd,qds,tb62,eHdg,so,so.1,so.2,op,lns37 S,lns27 Sp,he,g1,g2,r2,hst,hc,hEg,irN,nrA,nrM,nrE,reduceIte,reduceCtorEq,nrL])))|(with_reducible first|refine W_seq ?_|refine W_block ?_|refine W_skip ?_|refine W_ret ?_|refine W_exit ?_|apply blockK_exit)|((with_reducible apply blockK_pass);(focus decide))|fail)
  ·refine ⟨by first|exact .inl rfl|exact .inr rfl, ?_⟩
   rw [ret0 Try.results62]
   simp only [↓pb,qbs,tb62,eHdg,so,so.1,so.2,op,lns37 S,lns27 Sp,he,g1,g2,r2,hst,rv_tmp,rv_cell,hEg,irN,nrA,nrM,nrE,reduceIte,reduceCtorEq,nrL]
   repeat ((with_reducible apply oV_intro);(simp (disch:=try exact dA) only [qcs,tb62,eHdg,so,so.1,so.2,op,lns37 S,lns27 Sp,he,g1,g2,r2,hst,hEg,irN,nrA,nrM,nrE,reduceIte,reduceCtorEq,nrL];exact rfl))
   rw [e0,if_pos hc]
   refine ⟨⟨⟨vp, ?_, ?_,hp⟩, ?_, ?_⟩,by exact frA⟩
   ·simp (disch:=try exact dA) only [qcs,tb62,eHdg,so,so.1,so.2,op,lns37 S,lns27 Sp,he,g1,g2,r2,hst,hEg,irN,nrA,nrM,nrE,reduceIte,reduceCtorEq,nrL]
   ·exact Sp.fr (N:=H.n) (X:=[bB,bF]) (by exact frA) (by rcases hp with q|q;exact .inl q;right;simp only [List.mem_cons,List.not_mem_nil,or_false,not_or];exact q)
   ·simp (disch:=try exact dA) only [qcs,tb62,eHdg,so,so.1,so.2,op,lns37 S,lns27 Sp,he,g1,g2,r2,hst,hEg,irN,nrA,nrM,nrE,reduceIte,reduceCtorEq,nrL]
   ·simp only [upd_n]
    omega
  ·refine ⟨by first|exact .inl rfl|exact .inr rfl, ?_⟩
   rw [ret0 Try.results62]
   simp only [↓pb,qbs,tb62,eHdg,so,so.1,so.2,op,lns37 S,lns27 Sp,he,g1,g2,r2,hst,rv_tmp,rv_cell,hEg,irN,nrA,nrM,nrE,reduceIte,reduceCtorEq,nrL]
   repeat ((with_reducible apply oV_intro);(simp (disch:=try exact dA) only [qcs,tb62,eHdg,so,so.1,so.2,op,lns37 S,lns27 Sp,he,g1,g2,r2,hst,hEg,irN,nrA,nrM,nrE,reduceIte,reduceCtorEq,nrL];exact rfl))
   rw [e0,if_neg hc]
   exact ⟨PlH.fr (N:=H.n) ⟨⟨vb,g1,Sb,hd⟩,g2,l1,l2,l3⟩ (by exact frA),by exact frA⟩
 | succ k ih =>
  intro pre vp tr acc H hk hT S P Sp hp
  have so:=S.one
  have op:=Sp.one
  have hpl:pre.length < g.Stock.length:=by omega
  have he:¬ ((pre.length:Nat):Int)=((g.Stock.length:Nat):Int):=by omega
  have e0:=S.el eRg_len rfl
  have lS:=S.lt
  have lp:=Sp.lt
  have P0:=P
  obtain ⟨⟨vb,g1,Sb,hd⟩,g2,l1,l2,l3⟩:=P
  refine Cl.ofW Try.func62 rfl (by kernel_rfl) (by rw [Try.ntmps62];exact Nat.le_of_ble_eq_true rfl) (by kernel_rfl) ?_
  have hEg:True:=trivial
  refine gcW [0,1,2,3,4,5] ?_
  intro eg hEn
  simp only [forallC,forallL,and_true] at hEn
  try simp only [↓pb,qbs,tb62,eHdg,so,so.1,so.2,op,lns37 S,lns27 Sp,he,hEg,irN,nrA,nrM,nrE,reduceIte,reduceCtorEq,nrL] at hEn
  replace hEg:=hEn;clear hEn
  repeat' (first|((with_reducible refine hK _ _ fun e2 hEn=>?_);clear hK K;simp only [lv62,forallC,forallL,and_true] at hEn;(try simp only [↓pb,qbs,tb62,eHdg,so,so.1,so.2,op,lns37 S,lns27 Sp,he,hEg,irN,nrA,nrM,nrE,reduceIte,reduceCtorEq,nrL] at hEn);clear hEg;(try clear eg);have hEg:=hEn;clear hEn;rename Env=>eg)|((first|((with_reducible first|apply oV_intro|apply oH_intro|apply oB_intro);(simp (disch:=try exact dA) only [qcs,tb62,eHdg,so,so.1,so.2,op,lns37 S,lns27 Sp,he,hEg,irN,nrA,nrM,nrE,reduceIte,reduceCtorEq,nrL];with_reducible exact rfl))|((with_reducible first|apply oblA_and|apply oblR_and|apply oblO_and);(focus exact obA))|(with_reducible first|refine W_regionE lv62 [5] fun K hK=>?_|refine W_drawnE lv62 [5] fun K hK=>?_));try simp only [↓pb,↓pd,qds,tb62,eHdg,so,so.1,so.2,op,lns37 S,lns27 Sp,he,hEg,irN,nrA,nrM,nrE,reduceIte,reduceCtorEq,nrL])|((first|((with_reducible first|apply WO_gT|apply WO_gF|apply WD_gT|apply WD_gF);exact rfl)|(with_reducible apply W_cond));(simp only [↓pb,qbs,tb62,eHdg,so,so.1,so.2,op,lns37 S,lns27 Sp,he,hEg,irN,nrA,nrM,nrE,reduceIte,reduceCtorEq,nrL];with_reducible exact rfl);all_goals (intro hc;(first|exact hcX hc|try simp only [hcs] at hc);try ((with_reducible first|apply woI|apply wdI);simp only [↓pb,↓pd,qds,tb62,eHdg,so,so.1,so.2,op,lns37 S,lns27 Sp,he,hc,hEg,irN,nrA,nrM,nrE,reduceIte,reduceCtorEq,nrL])))|(with_reducible first|refine W_seq ?_|refine W_block ?_|refine W_skip ?_|refine W_ret ?_|refine W_exit ?_|apply blockK_exit)|((with_reducible apply blockK_pass);(focus decide))|fail)
  have Sp2:SR H 1 pre.length vp ((pre.map Int.ofNat).map iv):=Sp
  generalize hh:AHeap.upd _ _ _ _=h0 at *
  have hF0:Fr H.n [] H h0:=by
   rw [← hh]
   exact frA
  have hT0:Top h0:=by
   rw [← hh]
   exact topA
  have r0:h0.rd H.n=some [vs,iv g.Lot,iv g.Bound,iv g.Held]:=by
   rw [← hh]
   simp (disch:=try exact dA) only [qcs,tb62,eHdg,so,so.1,so.2,op,lns37 S,lns27 Sp,he,hEg,irN,nrA,nrM,nrE,reduceIte,reduceCtorEq,nrL]
  have n0:H.n + 1=h0.n:=by
   rw [← hh]
   rfl
  clear hh
  have P1:=P0.fr hF0
  have S1:=S.fr0 hF0
  have e1:=S1.el eRg_len rfl
  have Q1:=Sp.fr0 hF0
  have Q2:=Sp2.fr0 hF0
  have hlp:=Q1.lt
  have hlS:=S1.lt
  refine W_both (fun e h=>h=h0∧e 1=vp∧e 2=iv tr∧e 3=iv 9∧e 4=vptr bB 0∧e 5=vptr bF 0∧e 6=vptr H.n 0∧e 12=iv (befP g pre)) ?_ ?_
  ·by_cases hp0:pre.length=0
   ·have hc0:¬ (0:Int) < ((pre.length:Nat):Int):=by omega
    repeat' (first|((with_reducible refine hK _ _ fun e2 hEn=>?_);clear hK K;simp only [lv62,forallC,forallL,and_true] at hEn;(try simp only [↓pb,qbs,tb62,eHdg,so,so.1,so.2,op,lns37 S,lns27 Sp,he,hEg,irN,nrA,nrM,nrE,reduceIte,reduceCtorEq,nrL] at hEn);clear hEg;(try clear eg);have hEg:=hEn;clear hEn;rename Env=>eg)|((first|((with_reducible first|apply oV_intro|apply oH_intro|apply oB_intro);(simp (disch:=try exact dA) only [qcs,tb62,eHdg,so,so.1,so.2,op,lns37 S,lns27 Sp,he,hc0,lns27 Q1,hEg,irN,nrA,nrM,nrE,reduceIte,reduceCtorEq,nrL];with_reducible exact rfl))|((with_reducible first|apply oblA_and|apply oblR_and|apply oblO_and);(focus exact obA))|(with_reducible first|refine W_regionF lv62 fun K hK=>?_|refine W_drawnF lv62 fun K hK=>?_));try simp only [↓pb,↓pd,qds,tb62,eHdg,so,so.1,so.2,op,lns37 S,lns27 Sp,he,hc0,lns27 Q1,hEg,irN,nrA,nrM,nrE,reduceIte,reduceCtorEq,nrL])|((first|((with_reducible first|apply WO_gT|apply WO_gF|apply WD_gT|apply WD_gF);exact rfl)|(with_reducible apply W_cond));(simp only [↓pb,qbs,tb62,eHdg,so,so.1,so.2,op,lns37 S,lns27 Sp,he,hc0,lns27 Q1,hEg,irN,nrA,nrM,nrE,reduceIte,reduceCtorEq,nrL];with_reducible exact rfl);all_goals (intro hc;(first|exact hcX hc|try simp only [hcs] at hc);try ((with_reducible first|apply woI|apply wdI);simp only [↓pb,↓pd,qds,tb62,eHdg,so,so.1,so.2,op,lns37 S,lns27 Sp,he,hc0,lns27 Q1,hc,hEg,irN,nrA,nrM,nrE,reduceIte,reduceCtorEq,nrL])))|(with_reducible first|refine W_seq ?_|refine W_block ?_|refine W_skip ?_|refine W_ret ?_|refine W_exit ?_|apply blockK_exit)|((with_reducible apply blockK_pass);(focus decide))|fail)
    have eb:befP g pre=g.Held:=by rw [befP,if_pos hp0]
    rw [eb]
    exact ⟨rfl,rfl,hEg.1,hEg.2.1,hEg.2.2.1,hEg.2.2.2.1,hEg.2.2.2.2.1,hEg.2.2.2.2.2.1,hEg.2.2.2.2.2.2.1⟩
   ·have hc0:(0:Int) < ((pre.length:Nat):Int):=by omega
    have hw:IntKind.i64.wrap (((pre.length:Nat):Int) - 1)=((pre.length - 1:Nat):Int):=by rw [wrap64 (by omega) (by omega)];omega
    have el:=Q2.el1 (by simp)
    repeat' (first|((with_reducible refine hK _ _ fun e2 hEn=>?_);clear hK K;simp only [lv62,forallC,forallL,and_true] at hEn;(try simp only [↓pb,qbs,tb62,eHdg,so,so.1,so.2,op,lns37 S,lns27 Sp,he,hEg,irN,nrA,nrM,nrE,reduceIte,reduceCtorEq,nrL] at hEn);clear hEg;(try clear eg);have hEg:=hEn;clear hEn;rename Env=>eg)|((first|((with_reducible first|apply oV_intro|apply oH_intro|apply oB_intro);(simp (disch:=try exact dA) only [qcs,tb62,eHdg,so,so.1,so.2,op,lns37 S,lns27 Sp,he,hc0,lns27 Q1,hw,ias27 Q1,Q1.rd,el,Nat.mul_one,hEg,irN,nrA,nrM,nrE,reduceIte,reduceCtorEq,nrL];with_reducible exact rfl))|((with_reducible first|apply oblA_and|apply oblR_and|apply oblO_and);(focus exact obA))|(with_reducible first|refine W_regionF lv62 fun K hK=>?_|refine W_drawnF lv62 fun K hK=>?_));try simp only [↓pb,↓pd,qds,tb62,eHdg,so,so.1,so.2,op,lns37 S,lns27 Sp,he,hc0,lns27 Q1,hw,ias27 Q1,Q1.rd,el,Nat.mul_one,hEg,irN,nrA,nrM,nrE,reduceIte,reduceCtorEq,nrL])|((first|((with_reducible first|apply WO_gT|apply WO_gF|apply WD_gT|apply WD_gF);exact rfl)|(with_reducible apply W_cond));(simp only [↓pb,qbs,tb62,eHdg,so,so.1,so.2,op,lns37 S,lns27 Sp,he,hc0,lns27 Q1,hw,ias27 Q1,Q1.rd,el,Nat.mul_one,hEg,irN,nrA,nrM,nrE,reduceIte,reduceCtorEq,nrL];with_reducible exact rfl);all_goals (intro hc;(first|exact hcX hc|try simp only [hcs] at hc);try ((with_reducible first|apply woI|apply wdI);simp only [↓pb,↓pd,qds,tb62,eHdg,so,so.1,so.2,op,lns37 S,lns27 Sp,he,hc0,lns27 Q1,hw,ias27 Q1,Q1.rd,el,Nat.mul_one,hc,hEg,irN,nrA,nrM,nrE,reduceIte,reduceCtorEq,nrL])))|(with_reducible first|refine W_seq ?_|refine W_block ?_|refine W_skip ?_|refine W_ret ?_|refine W_exit ?_|apply blockK_exit)|((with_reducible apply blockK_pass);(focus decide))|fail)
    have eb:befP g pre=(pre.map Int.ofNat).getD (pre.length - 1) default:=by
     rw [befP,if_neg hp0,List.getD_eq_getElem?_getD,List.getD_eq_getElem?_getD,List.getElem?_map,List.getElem?_eq_getElem (by omega)]
     rfl
    rw [eb]
    exact ⟨rfl,rfl,hEg.1,hEg.2.1,hEg.2.2.1,hEg.2.2.2.1,hEg.2.2.2.2.1,hEg.2.2.2.2.2.1,hEg.2.2.2.2.2.2⟩
  rintro e3 h3 ⟨rfl,k1,k2,k3,k4,k5,k6,k12⟩
  clear hEg
  have hEg:=And.intro k1 (And.intro k2 (And.intro k3 (And.intro k4 (And.intro k5 (And.intro k6 k12)))))
  have he3:(((pre.length:Nat):Int)) < ((g.Stock.length:Nat):Int):=by omega
  repeat' (first|((with_reducible refine hK _ _ fun e2 hEn=>?_);clear hK K;simp only [lv62,forallC,forallL,and_true] at hEn;(try simp only [↓pb,qbs,tb62,eHdg,so,so.1,so.2,op,lns37 S,lns27 Sp,he,hEg,irN,nrA,nrM,nrE,reduceIte,reduceCtorEq,nrL] at hEn);clear hEg;(try clear eg);have hEg:=hEn;clear hEn;rename Env=>eg)|((first|((with_reducible first|apply oV_intro|apply oH_intro|apply oB_intro);(simp (disch:=try exact dA) only [qcs,tb62,eHdg,so,so.1,so.2,op,lns37 S,lns27 Sp,he,r0,ias37 S1,S1.rd,e1,lns27 Q1,eRg,op,hEg,irN,nrA,nrM,nrE,reduceIte,reduceCtorEq,nrL];with_reducible exact rfl))|((with_reducible first|apply oblA_and|apply oblR_and|apply oblO_and);(focus exact obA))|(with_reducible first|refine W_regionF lv62 fun K hK=>?_|refine W_drawnF lv62 fun K hK=>?_));try simp only [↓pb,↓pd,qds,tb62,eHdg,so,so.1,so.2,op,lns37 S,lns27 Sp,he,r0,ias37 S1,S1.rd,e1,lns27 Q1,eRg,op,hEg,irN,nrA,nrM,nrE,reduceIte,reduceCtorEq,nrL])|((first|((with_reducible first|apply WO_gT|apply WO_gF|apply WD_gT|apply WD_gF);exact rfl)|(with_reducible apply W_cond));(simp only [↓pb,qbs,tb62,eHdg,so,so.1,so.2,op,lns37 S,lns27 Sp,he,r0,ias37 S1,S1.rd,e1,lns27 Q1,eRg,op,hEg,irN,nrA,nrM,nrE,reduceIte,reduceCtorEq,nrL];with_reducible exact rfl);all_goals (intro hc;(first|exact hcX hc|try simp only [hcs] at hc);try ((with_reducible first|apply woI|apply wdI);simp only [↓pb,↓pd,qds,tb62,eHdg,so,so.1,so.2,op,lns37 S,lns27 Sp,he,r0,ias37 S1,S1.rd,e1,lns27 Q1,eRg,op,hc,hEg,irN,nrA,nrM,nrE,reduceIte,reduceCtorEq,nrL])))|(with_reducible first|refine W_seq ?_|refine W_block ?_|refine W_skip ?_|refine W_ret ?_|refine W_exit ?_|apply blockK_exit)|((with_reducible apply blockK_pass);(focus decide))|fail)
  generalize hh:AHeap.upd _ _ _ _=h4 at *
  have hF4:Fr H.n [] H h4:=by
   rw [← hh]
   exact frA
  have hT4:Top h4:=by
   rw [← hh]
   exact topA
  have r4:h4.rd H.n=some [vs,iv g.Lot,iv g.Bound,iv g.Held]:=by
   rw [← hh]
   simp (disch:=try exact dA) only [qcs,tb62,eHdg,so,so.1,so.2,op,lns37 S,lns27 Sp,he,hEg,irN,nrA,nrM,nrE,reduceIte,reduceCtorEq,nrL]
   exact r0
  have r5:h4.rd h3.n=some [iv (g.Stock.getD pre.length default).1,iv (g.Stock.getD pre.length default).2]:=by
   rw [← hh]
   simp (disch:=try exact dA) only [qcs,tb62,eHdg,so,so.1,so.2,op,lns37 S,lns27 Sp,he,hEg,irN,nrA,nrM,nrE,reduceIte,reduceCtorEq,nrL]
  have n4:h3.n + 1=h4.n:=by
   rw [← hh]
   rfl
  have P4:PlH bB bF acc h4:=P0.fr hF4
  clear hh
  generalize h3.n=b13 at *
  have hF4X:Fr H.n [bB,bF] H h4:=hF4.mono (Nat.le_refl _) (by simp)
  have hvs:g.Stock.length=0∨vblk vs∉[bB,bF]:=by
   rcases S.offR g1 (by omega) with q|q
   ·exact .inl q
   ·rcases S.offR g2 (by omega) with q2|q2
    ·exact .inl q2
    ·right
     simp only [List.mem_cons,List.not_mem_nil,or_false,not_or] at q q2 ⊢
     exact ⟨q,q2⟩
  have hvp:pre.length=0∨vblk vp∉[bB,bF]:=by
   rcases hp with q|q
   ·exact .inl q
   ·right
    simp only [List.mem_cons,List.not_mem_nil,or_false,not_or]
    exact q
  refine W_while [1,2,3,4,5,6,12,13] (by kernel_rfl) (H.n) [bB,bF] [bB,bF] (fun s e h=>e 14=iv (s.1:Nat)∧s.1≤10∧PlH bB bF s.2 h∧plansGo g (k + 1) pre tr acc=(List.range' s.1 (10 - s.1)).foldl (plStep g k pre tr) s.2) (fun s=>10 - s.1) (((0:Nat),acc)) (by focus exact topA) (H0:=H) (by focus exact frA) (by intro b hb hlt;simp at hb ⊢;try omega) ?_ ?_
  rotate_left
  intro s5 e5 h5 hE5 hF5 hF05 hTh5 hJ5
  simp only [forallC,forallL,and_true] at hE5
  try simp only [↓pb,qbs,tb62,eHdg,so,so.1,so.2,op,lns37 S,lns27 Sp,he,hEg,irN,nrA,nrM,nrE,reduceIte,reduceCtorEq,nrL] at hE5
  have hn15:=hF5.n;have hn05:=hF05.n;try simp only [upd_n,jn_n] at hn15
  replace hEg:=hE5
  rotate_left
  ·exact ⟨by simp only [↓pb,qbs,tb62,eHdg,so,so.1,so.2,op,lns37 S,lns27 Sp,he,hEg,irN,nrA,nrM,nrE,reduceIte,reduceCtorEq,nrL];rfl,Nat.zero_le _,P4,rfl⟩
  obtain ⟨n,a⟩:=s5
  obtain ⟨q14,q10,P5,hgo⟩:=hJ5
  dsimp only at q14 q10 P5 hgo
  have r5a:h5.rd H.n=some [vs,iv g.Lot,iv g.Bound,iv g.Held]:=by
   rw [rd_def,hF5.old _ (by omega) (by simp;omega),← rd_def]
   exact r4
  have r5b:h5.rd b13=some [iv (g.Stock.getD pre.length default).1,iv (g.Stock.getD pre.length default).2]:=by
   rw [rd_def,hF5.old _ (by omega) (by simp;omega),← rd_def]
   exact r5
  have S5:=S.fr hF05 hvs
  have Q5:=Sp.fr hF05 hvp
  have l5:=P5.lt
  by_cases hn:n≤9
  ·have hn2:(n:Int)≤9:=by omega
   obtain ⟨m,hm⟩:∃ m,10 - n=m + 1:=⟨10 - n - 1,by omega⟩
   rw [hm,foldl_range'_succ] at hgo
   repeat' (first|((with_reducible refine hK _ _ fun e2 hEn=>?_);clear hK K;simp only [lv62,forallC,forallL,and_true] at hEn;(try simp only [↓pb,qbs,tb62,eHdg,so,so.1,so.2,op,lns37 S,lns27 Sp,he,hEg,irN,nrA,nrM,nrE,reduceIte,reduceCtorEq,nrL] at hEn);clear hEg;(try clear eg);have hEg:=hEn;clear hEn;rename Env=>eg)|((first|((with_reducible first|apply oV_intro|apply oH_intro|apply oB_intro);(simp (disch:=try exact dA) only [qcs,tb62,eHdg,so,so.1,so.2,op,lns37 S,lns27 Sp,he,q14,r5a,r5b,hn2,hEg,irN,nrA,nrM,nrE,reduceIte,reduceCtorEq,nrL];with_reducible exact rfl))|((with_reducible first|apply oblA_and|apply oblR_and|apply oblO_and);(focus exact obA))|(with_reducible first|refine W_regionE lv62 [12] fun K hK=>?_));try simp only [↓pb,↓pd,qds,tb62,eHdg,so,so.1,so.2,op,lns37 S,lns27 Sp,he,q14,r5a,r5b,hn2,hEg,irN,nrA,nrM,nrE,reduceIte,reduceCtorEq,nrL])|((first|((with_reducible first|apply WO_gT|apply WO_gF|apply WD_gT|apply WD_gF);exact rfl)|(with_reducible apply W_cond));(simp only [↓pb,qbs,tb62,eHdg,so,so.1,so.2,op,lns37 S,lns27 Sp,he,q14,r5a,r5b,hn2,hEg,irN,nrA,nrM,nrE,reduceIte,reduceCtorEq,nrL];with_reducible exact rfl);all_goals (intro hc;(first|exact hcX hc|try simp only [hcs] at hc);try ((with_reducible first|apply woI|apply wdI);simp only [↓pb,↓pd,qds,tb62,eHdg,so,so.1,so.2,op,lns37 S,lns27 Sp,he,q14,r5a,r5b,hn2,hc,hEg,irN,nrA,nrM,nrE,reduceIte,reduceCtorEq,nrL])))|(with_reducible first|refine W_seq ?_|refine W_block ?_|refine W_skip ?_|refine W_ret ?_|refine W_exit ?_|apply blockK_exit)|((with_reducible apply blockK_pass);(focus decide))|fail)
   rotate_left
   ·have hfit:fitD g pre.length n=false:=by
     have q2:¬ w64 (-g.Bound)≤(expP g pre.length n).1:=by rw [← Int.zero_sub];exact hc
     unfold fitD
     rw [decide_eq_false q2,Bool.and_false]
    rw [plStep,if_neg (by rw [hfit];exact Bool.false_ne_true)] at hgo
    refine ⟨(n + 1,a),by dsimp only;omega,by exact frA,by simp only [hEg];exact congrArg _ (inc64 (by omega)),by dsimp only;omega,P5, ?_⟩
    have e1:10 - (n + 1)=m:=by omega
    dsimp only
    rw [e1,hgo]
   ·have hfit:fitD g pre.length n=false:=by
     have q2:¬ (expP g pre.length n).2≤g.Bound:=by first|assumption|(intro q;exact absurd q (by assumption))
     unfold fitD
     rw [decide_eq_false q2,Bool.false_and]
    rw [plStep,if_neg (by rw [hfit];exact Bool.false_ne_true)] at hgo
    repeat' (first|((with_reducible refine hK _ _ fun e2 hEn=>?_);clear hK K;simp only [lv62,forallC,forallL,and_true] at hEn;(try simp only [↓pb,qbs,tb62,eHdg,so,so.1,so.2,op,lns37 S,lns27 Sp,he,hEg,irN,nrA,nrM,nrE,reduceIte,reduceCtorEq,nrL] at hEn);clear hEg;(try clear eg);have hEg:=hEn;clear hEn;rename Env=>eg)|((first|((with_reducible first|apply oV_intro|apply oH_intro|apply oB_intro);(simp (disch:=try exact dA) only [qcs,tb62,eHdg,so,so.1,so.2,op,lns37 S,lns27 Sp,he,q14,hEg,irN,nrA,nrM,nrE,reduceIte,reduceCtorEq,nrL];with_reducible exact rfl))|((with_reducible first|apply oblA_and|apply oblR_and|apply oblO_and);(focus exact obA))|(with_reducible first|refine W_regionF lv62 fun K hK=>?_|refine W_drawnF lv62 fun K hK=>?_));try simp only [↓pb,↓pd,qds,tb62,eHdg,so,so.1,so.2,op,lns37 S,lns27 Sp,he,q14,hEg,irN,nrA,nrM,nrE,reduceIte,reduceCtorEq,nrL])|((first|((with_reducible first|apply WO_gT|apply WO_gF|apply WD_gT|apply WD_gF);exact rfl)|(with_reducible apply W_cond));(simp only [↓pb,qbs,tb62,eHdg,so,so.1,so.2,op,lns37 S,lns27 Sp,he,q14,hEg,irN,nrA,nrM,nrE,reduceIte,reduceCtorEq,nrL];with_reducible exact rfl);all_goals (intro hc;(first|exact hcX hc|try simp only [hcs] at hc);try ((with_reducible first|apply woI|apply wdI);simp only [↓pb,↓pd,qds,tb62,eHdg,so,so.1,so.2,op,lns37 S,lns27 Sp,he,q14,hc,hEg,irN,nrA,nrM,nrE,reduceIte,reduceCtorEq,nrL])))|(with_reducible first|refine W_seq ?_|refine W_block ?_|refine W_skip ?_|refine W_ret ?_|refine W_exit ?_|apply blockK_exit)|((with_reducible apply blockK_pass);(focus decide))|fail)
    refine ⟨(n + 1,a),by dsimp only;omega,by exact frA,by simp only [hEg];exact congrArg _ (inc64 (by omega)),by dsimp only;omega,P5, ?_⟩
    have e1:10 - (n + 1)=m:=by omega
    dsimp only
    rw [e1,hgo]
   have hfit:fitD g pre.length n=true:=by
    have q1:(expP g pre.length n).2≤g.Bound:=by assumption
    have q2:w64 (-g.Bound)≤(expP g pre.length n).1:=by rw [← Int.zero_sub];exact hc
    unfold fitD
    rw [decide_eq_true q1,decide_eq_true q2]
    rfl
   rw [plStep,if_pos hfit] at hgo
   have Q6:SR h5 1 (pre.map Int.ofNat).length vp (ints (pre.map Int.ofNat)):=by rw [List.length_map];exact Q5
   have hpl2:(pre.map Int.ofNat).length < 1000000:=by rw [List.length_map];omega
   repeat' (first|((with_reducible refine hK _ _ fun e2 hEn=>?_);clear hK K;simp only [lv62,forallC,forallL,and_true] at hEn;(try simp only [↓pb,qbs,tb62,eHdg,so,so.1,so.2,op,lns37 S,lns27 Sp,he,hEg,irN,nrA,nrM,nrE,reduceIte,reduceCtorEq,nrL] at hEn);clear hEg;(try clear eg);have hEg:=hEn;clear hEn;rename Env=>eg)|((first|((with_reducible first|apply oV_intro|apply oH_intro|apply oB_intro);(simp (disch:=try exact dA) only [qcs,tb62,eHdg,so,so.1,so.2,op,lns37 S,lns27 Sp,he,q14,r5a,op,hEg,irN,nrA,nrM,nrE,reduceIte,reduceCtorEq,nrL];with_reducible exact rfl))|((with_reducible first|apply oblA_and|apply oblR_and|apply oblO_and);(focus exact obA))|((with_reducible apply WO_callF);(focus exact topA);(simp only [↓pb,qbs,tb62,eHdg,so,so.1,so.2,op,lns37 S,lns27 Sp,he,q14,r5a,op,hEg,irN,nrA,nrM,nrE,reduceIte,reduceCtorEq,nrL];exact f55 vp (pre.map Int.ofNat) _ (by exact topA) Q6 hpl2);(rintro vq Gq hq hJq ⟨gg,G,hgg,hvb⟩;try simp only [upd_n,jn_n] at hq))|(with_reducible first|refine W_regionF lv62 fun K hK=>?_|refine W_drawnF lv62 fun K hK=>?_));try simp only [↓pb,↓pd,qds,tb62,eHdg,so,so.1,so.2,op,lns37 S,lns27 Sp,he,q14,r5a,op,hEg,irN,nrA,nrM,nrE,reduceIte,reduceCtorEq,nrL])|((first|((with_reducible first|apply WO_gT|apply WO_gF|apply WD_gT|apply WD_gF);exact rfl)|(with_reducible apply W_cond));(simp only [↓pb,qbs,tb62,eHdg,so,so.1,so.2,op,lns37 S,lns27 Sp,he,q14,r5a,op,hEg,irN,nrA,nrM,nrE,reduceIte,reduceCtorEq,nrL];with_reducible exact rfl);all_goals (intro hc;(first|exact hcX hc|try simp only [hcs] at hc);try ((with_reducible first|apply woI|apply wdI);simp only [↓pb,↓pd,qds,tb62,eHdg,so,so.1,so.2,op,lns37 S,lns27 Sp,he,q14,r5a,op,hc,hEg,irN,nrA,nrM,nrE,reduceIte,reduceCtorEq,nrL])))|(with_reducible first|refine W_seq ?_|refine W_block ?_|refine W_skip ?_|refine W_ret ?_|refine W_exit ?_|apply blockK_exit)|((with_reducible apply blockK_pass);(focus decide))|fail)
   have hgd1:h5.n≤gg.getD (Gq.n + 1):=gd_ge hgg (by omega)
   refine pu27 (n:=(pre.map Int.ofNat).length) (m:=1) (c:=ints (pre.map Int.ofNat)) (g:=gg) G.ex (SR.new rfl) (by omega) (by omega) (by omega) (by exact topA) fun GG=>?_
   have hgd2:=GG.grp_lt
   simp only [upd_n,jn_n] at hgd2
   simp only [upd_n,jn_n,nb] at GG
   simp only [↓pb,↓pd,qds,tb62,eHdg,so,so.1,so.2,op,lns37 S,lns27 Sp,he,q14,hEg,irN,nrA,nrM,nrE,reduceIte,reduceCtorEq,nrL]
   repeat' (first|((with_reducible refine hK _ _ fun e2 hEn=>?_);clear hK K;simp only [lv62,forallC,forallL,and_true] at hEn;(try simp only [↓pb,qbs,tb62,eHdg,so,so.1,so.2,op,lns37 S,lns27 Sp,he,hEg,irN,nrA,nrM,nrE,reduceIte,reduceCtorEq,nrL] at hEn);clear hEg;(try clear eg);have hEg:=hEn;clear hEn;rename Env=>eg)|((first|((with_reducible first|apply oV_intro|apply oH_intro|apply oB_intro);(simp (disch:=try exact dA) only [qcs,tb62,eHdg,so,so.1,so.2,op,lns37 S,lns27 Sp,he,q14,r5a,hEg,irN,nrA,nrM,nrE,reduceIte,reduceCtorEq,nrL];with_reducible exact rfl))|((with_reducible first|apply oblA_and|apply oblR_and|apply oblO_and);(focus exact obA))|(with_reducible first|refine W_regionF lv62 fun K hK=>?_|refine W_drawnF lv62 fun K hK=>?_));try simp only [↓pb,↓pd,qds,tb62,eHdg,so,so.1,so.2,op,lns37 S,lns27 Sp,he,q14,r5a,hEg,irN,nrA,nrM,nrE,reduceIte,reduceCtorEq,nrL])|((first|((with_reducible first|apply WO_gT|apply WO_gF|apply WD_gT|apply WD_gF);exact rfl)|(with_reducible apply W_cond));(simp only [↓pb,qbs,tb62,eHdg,so,so.1,so.2,op,lns37 S,lns27 Sp,he,q14,r5a,hEg,irN,nrA,nrM,nrE,reduceIte,reduceCtorEq,nrL];with_reducible exact rfl);all_goals (intro hc;(first|exact hcX hc|try simp only [hcs] at hc);try ((with_reducible first|apply woI|apply wdI);simp only [↓pb,↓pd,qds,tb62,eHdg,so,so.1,so.2,op,lns37 S,lns27 Sp,he,q14,r5a,hc,hEg,irN,nrA,nrM,nrE,reduceIte,reduceCtorEq,nrL])))|(with_reducible first|refine W_seq ?_|refine W_block ?_|refine W_skip ?_|refine W_ret ?_|refine W_exit ?_|apply blockK_exit)|((with_reducible apply blockK_pass);(focus decide))|fail)
   have hEx:ints ((pre ++ [n]).map Int.ofNat)=ints (pre.map Int.ofNat) ++ [iv n]:=by simp [ints]
   have hlx:(pre.map Int.ofNat).length + 1=(pre ++ [n]).length:=by simp
   rw [hlx]
   rw [hlx,← hEx] at GG
   generalize hHX:AHeap.upd _ _ _ (AObj.cells _ _ (Kd.gr _ _ _))=hX
   rw [hEx,hHX] at GG
   have hFx:Fr h5.n [] h5 hX:=by
    rw [← hHX]
    exact frA
   have hTx:Top hX:=by
    rw [← hHX]
    exact topA
   have nx:hX.n=Gq.n + 2:=by
    rw [← hHX]
    rfl
   have hcall:=ih (pre ++ [n]) (.slice (some ⟨Gq.n + 1,0,none⟩) (pre ++ [n]).length (pre ++ [n]).length) (w64 (tr + apartP n (befP g pre))) a hX (by rw [List.length_append,List.length_singleton];omega) hTx (S5.fr0 hFx) (P5.fr hFx) (by rw [hEx];exact GG.sr) (.inr ⟨by show Gq.n + 1≠bB;omega,by show Gq.n + 1≠bF;omega⟩)
   refine WO_callX (X:=[bB,bF]) (by simp only [↓pb,qbs,tb62,eHdg,so,so.1,so.2,op,lns37 S,lns27 Sp,he,hEg,irN,nrA,nrM,nrE,reduceIte,reduceCtorEq,nrL];exact hcall) ?_
   rintro v' G' ⟨rfl,PX⟩ hFX
   have nX:=hFX.n
   rw [WO_nil]
   refine ⟨⟨.inr ?_,.inr ?_,trivial⟩, ?_⟩
   ·exact hFX.old _ (by omega) (by simp;omega)
   ·exact hFX.old _ (by omega) (by simp;omega)
   have hF45:Fr H.n [bB,bF] h4 hX:=hF5.trans (hFx.mono (by omega) (by simp))
   have hF46:Fr H.n [bB,bF] h4 G':=hF45.trans' hFX (by omega) (by simp)
   have hF06:Fr H.n [bB,bF] H G':=hF4X.trans' hF46 (Nat.le_refl _) (by simp)
   have hTg:Top G':=hFX.top hTx
   clear hHX
   repeat' (first|((with_reducible refine hK _ _ fun e2 hEn=>?_);clear hK K;simp only [lv62,forallC,forallL,and_true] at hEn;(try simp only [↓pb,qbs,tb62,eHdg,so,so.1,so.2,op,lns37 S,lns27 Sp,he,hEg,irN,nrA,nrM,nrE,reduceIte,reduceCtorEq,nrL] at hEn);clear hEg;(try clear eg);have hEg:=hEn;clear hEn;rename Env=>eg)|((first|((with_reducible first|apply oV_intro|apply oH_intro|apply oB_intro);(simp (disch:=try exact dA) only [qcs,tb62,eHdg,so,so.1,so.2,op,lns37 S,lns27 Sp,he,q14,hEg,irN,nrA,nrM,nrE,reduceIte,reduceCtorEq,nrL];with_reducible exact rfl))|((with_reducible first|apply oblA_and|apply oblR_and|apply oblO_and);(focus exact obA))|(with_reducible first|refine W_regionF lv62 fun K hK=>?_|refine W_drawnF lv62 fun K hK=>?_));try simp only [↓pb,↓pd,qds,tb62,eHdg,so,so.1,so.2,op,lns37 S,lns27 Sp,he,q14,hEg,irN,nrA,nrM,nrE,reduceIte,reduceCtorEq,nrL])|((first|((with_reducible first|apply WO_gT|apply WO_gF|apply WD_gT|apply WD_gF);exact rfl)|(with_reducible apply W_cond));(simp only [↓pb,qbs,tb62,eHdg,so,so.1,so.2,op,lns37 S,lns27 Sp,he,q14,hEg,irN,nrA,nrM,nrE,reduceIte,reduceCtorEq,nrL];with_reducible exact rfl);all_goals (intro hc;(first|exact hcX hc|try simp only [hcs] at hc);try ((with_reducible first|apply woI|apply wdI);simp only [↓pb,↓pd,qds,tb62,eHdg,so,so.1,so.2,op,lns37 S,lns27 Sp,he,q14,hc,hEg,irN,nrA,nrM,nrE,reduceIte,reduceCtorEq,nrL])))|(with_reducible first|refine W_seq ?_|refine W_block ?_|refine W_skip ?_|refine W_ret ?_|refine W_exit ?_|apply blockK_exit)|((with_reducible apply blockK_pass);(focus decide))|fail)
   refine ⟨(n + 1,_),by dsimp only;omega,hF46,by simp only [hEg];exact congrArg _ (inc64 (by omega)),by dsimp only;omega,PX, ?_⟩
   have e1:10 - (n + 1)=m:=by omega
   dsimp only
   rw [e1,hgo]
  ·repeat' (first|((with_reducible refine hK _ _ fun e2 hEn=>?_);clear hK K;simp only [lv62,forallC,forallL,and_true] at hEn;(try simp only [↓pb,qbs,tb62,eHdg,so,so.1,so.2,op,lns37 S,lns27 Sp,he,hEg,irN,nrA,nrM,nrE,reduceIte,reduceCtorEq,nrL] at hEn);clear hEg;(try clear eg);have hEg:=hEn;clear hEn;rename Env=>eg)|((first|((with_reducible first|apply oV_intro|apply oH_intro|apply oB_intro);(simp (disch:=try exact dA) only [qcs,tb62,eHdg,so,so.1,so.2,op,lns37 S,lns27 Sp,he,q14,hn,hEg,irN,nrA,nrM,nrE,reduceIte,reduceCtorEq,nrL];with_reducible exact rfl))|((with_reducible first|apply oblA_and|apply oblR_and|apply oblO_and);(focus exact obA))|(with_reducible first|refine W_regionF lv62 fun K hK=>?_|refine W_drawnF lv62 fun K hK=>?_));try simp only [↓pb,↓pd,qds,tb62,eHdg,so,so.1,so.2,op,lns37 S,lns27 Sp,he,q14,hn,hEg,irN,nrA,nrM,nrE,reduceIte,reduceCtorEq,nrL])|((first|((with_reducible first|apply WO_gT|apply WO_gF|apply WD_gT|apply WD_gF);exact rfl)|(with_reducible apply W_cond));(simp only [↓pb,qbs,tb62,eHdg,so,so.1,so.2,op,lns37 S,lns27 Sp,he,q14,hn,hEg,irN,nrA,nrM,nrE,reduceIte,reduceCtorEq,nrL];with_reducible exact rfl);all_goals (intro hc;(first|exact hcX hc|try simp only [hcs] at hc);try ((with_reducible first|apply woI|apply wdI);simp only [↓pb,↓pd,qds,tb62,eHdg,so,so.1,so.2,op,lns37 S,lns27 Sp,he,q14,hn,hc,hEg,irN,nrA,nrM,nrE,reduceIte,reduceCtorEq,nrL])))|(with_reducible first|refine W_seq ?_|refine W_block ?_|refine W_skip ?_|refine W_ret ?_|refine W_exit ?_|apply blockK_exit)|((with_reducible apply blockK_pass);(focus decide))|fail)
   refine ⟨by first|exact .inl rfl|exact .inr rfl, ?_⟩
   rw [ret0 Try.results62]
   simp only [↓pb,qbs,tb62,eHdg,so,so.1,so.2,op,lns37 S,lns27 Sp,he,rv_tmp,rv_cell,hEg,irN,nrA,nrM,nrE,reduceIte,reduceCtorEq,nrL]
   repeat ((with_reducible apply oV_intro);(simp (disch:=try exact dA) only [qcs,tb62,eHdg,so,so.1,so.2,op,lns37 S,lns27 Sp,he,hEg,irN,nrA,nrM,nrE,reduceIte,reduceCtorEq,nrL];exact rfl))
   have e0:10 - n=0:=by omega
   rw [e0] at hgo
   have hgo:plansGo g (k + 1) pre tr acc=a:=hgo
   rw [hgo]
   exact ⟨P5,hF05⟩
theorem f99 (n:Int) (H:AHeap):∃ v H',C8 (.fn 99) #[iv n] H v H'∧v=.bool (offP n)∧H'=H:=by
 refine Cl.ofW Try.func99 rfl (by kernel_rfl) (by rw [Try.ntmps99];exact Nat.le_of_ble_eq_true rfl) (by kernel_rfl) ?_
 have hEg:True:=trivial
 refine gcW [0] ?_
 intro eg hEn
 simp only [forallC,forallL,and_true] at hEn
 try simp only [↓pb,qbs,tb99,hEg,irN,nrA,nrM,nrE,reduceIte,reduceCtorEq,nrL] at hEn
 replace hEg:=hEn;clear hEn
 repeat' (first|((with_reducible refine hK _ _ fun e2 hEn=>?_);clear hK K;simp only [lv99,forallC,forallL,and_true] at hEn;(try simp only [↓pb,qbs,tb99,hEg,irN,nrA,nrM,nrE,reduceIte,reduceCtorEq,nrL] at hEn);clear hEg;(try clear eg);have hEg:=hEn;clear hEn;rename Env=>eg)|((first|((with_reducible first|apply oV_intro|apply oH_intro|apply oB_intro);(simp (disch:=try exact dA) only [qcs,tb99,hEg,irN,nrA,nrM,nrE,reduceIte,reduceCtorEq,nrL];with_reducible exact rfl))|((with_reducible apply WO_callE);(simp only [↓pb,qbs,tb99,hEg,irN,nrA,nrM,nrE,reduceIte,reduceCtorEq,nrL];(exact f75 _ _ _ _)))|(with_reducible first|refine W_regionF lv99 fun K hK=>?_));try simp only [↓pb,↓pd,qds,tb99,hEg,irN,nrA,nrM,nrE,reduceIte,reduceCtorEq,nrL])|(with_reducible first|refine W_seq ?_|refine W_ret ?_)|fail)
 refine ⟨by first|exact .inl rfl|exact .inr rfl, ?_⟩
 rw [ret1 Try.results99]
 simp only [↓pb,qbs,tb99,rv_tmp,rv_cell,hEg,irN,nrA,nrM,nrE,reduceIte,reduceCtorEq,nrL]
 repeat ((with_reducible apply oV_intro);(simp (disch:=try exact dA) only [qcs,tb99,hEg,irN,nrA,nrM,nrE,reduceIte,reduceCtorEq,nrL];exact rfl))
 rfl
theorem f122 (vl:Value) (l:List Int) (H:AHeap) (hT:Top H) (S:SR H 1 l.length vl (ints l)) (hl:l.length < 1000000) :
  ∃ v H',C8 (.fn 122) #[vl,.func (.func 99) #[] #[]] H v H'∧(∃ i:Int,v=iv i∧(0≤i↔l.any offP=true))∧Fr H.n [] H H':=by
 have so:=S.one
 have S':SR H 1 l.length vl (l.map iv):=S
 refine Cl.ofW Try.func122 rfl (by kernel_rfl) (by rw [Try.ntmps122];exact Nat.le_of_ble_eq_true rfl) (by kernel_rfl) ?_
 have hEg:True:=trivial
 refine gcW [0,1] ?_
 intro eg hEn
 simp only [forallC,forallL,and_true] at hEn
 try simp only [↓pb,qbs,tb122,so,so.1,so.2,lns27 S,hEg,irN,nrA,nrM,nrE,reduceIte,reduceCtorEq,nrL] at hEn
 replace hEg:=hEn;clear hEn
 repeat' (first|((with_reducible refine hK _ _ fun e2 hEn=>?_);clear hK K;simp only [lv122,forallC,forallL,and_true] at hEn;(try simp only [↓pb,qbs,tb122,so,so.1,so.2,lns27 S,hEg,irN,nrA,nrM,nrE,reduceIte,reduceCtorEq,nrL] at hEn);clear hEg;(try clear eg);have hEg:=hEn;clear hEn;rename Env=>eg)|((first|((with_reducible first|apply oV_intro|apply oH_intro|apply oB_intro);(simp (disch:=try exact dA) only [qcs,tb122,so,so.1,so.2,lns27 S,hEg,irN,nrA,nrM,nrE,reduceIte,reduceCtorEq,nrL];with_reducible exact rfl))|(with_reducible first|refine W_regionF lv122 fun K hK=>?_));try simp only [↓pb,↓pd,qds,tb122,so,so.1,so.2,lns27 S,hEg,irN,nrA,nrM,nrE,reduceIte,reduceCtorEq,nrL])|((with_reducible apply W_cond);(simp only [↓pb,qbs,tb122,so,so.1,so.2,lns27 S,hEg,irN,nrA,nrM,nrE,reduceIte,reduceCtorEq,nrL];with_reducible exact rfl);all_goals (intro hc;(first|exact hcX hc|try simp only [hcs] at hc)))|(with_reducible first|refine W_seq ?_|refine W_block ?_|refine W_skip ?_|refine W_ret ?_|refine W_exit ?_|apply blockK_exit)|((with_reducible apply blockK_pass);(focus decide))|fail)
 refine W_count [0,1,7] (by kernel_rfl) 8 (l.length) (H.n) [] [] (fun i e h=>(l.take i).any offP=false) (by simp only [↓pb,qbs,tb122,so,so.1,so.2,lns27 S,hEg,irN,nrA,nrM,nrE,reduceIte,reduceCtorEq,nrL]) (by focus exact topA) (H0:=H) (by focus exact frA) (by intro b hb hlt;simp at hb ⊢;try omega) ?_ ?_
 rotate_left
 intro i1 e1 h1 hi1 hE1 ei1 hF1 hF01 hTh1 hJ1
 simp only [forallC,forallL,and_true] at hE1
 try simp only [↓pb,qbs,tb122,so,so.1,so.2,lns27 S,hEg,irN,nrA,nrM,nrE,reduceIte,reduceCtorEq,nrL] at hE1
 have hn11:=hF1.n;have hn01:=hF01.n;try simp only [upd_n,jn_n] at hn11
 replace hEg:=And.intro ei1 hE1
 rotate_left
 ·rfl
 have S1:=S'.fr0 hF01
 have l1:=S1.lt
 have e0:=S1.el1 rfl
 by_cases hi:i1 < l.length
 ·have ht:(l.take (i1 + 1)).any offP=((l.take i1).any offP || offP (l.getD i1 default)):=by rw [take_getD hi,List.any_append];simp
  repeat' (first|((with_reducible refine hK _ _ fun e2 hEn=>?_);clear hK K;simp only [lv122,forallC,forallL,and_true] at hEn;(try simp only [↓pb,qbs,tb122,so,so.1,so.2,lns27 S,hEg,irN,nrA,nrM,nrE,reduceIte,reduceCtorEq,nrL] at hEn);clear hEg;(try clear eg);have hEg:=hEn;clear hEn;rename Env=>eg)|((first|((with_reducible first|apply oV_intro|apply oH_intro|apply oB_intro);(simp (disch:=try exact dA) only [qcs,tb122,so,so.1,so.2,lns27 S,ias27 S1,S1.rd,e0,hEg,irN,nrA,nrM,nrE,reduceIte,reduceCtorEq,nrL];with_reducible exact rfl))|((with_reducible apply WO_callE);(simp only [↓pb,qbs,tb122,so,so.1,so.2,lns27 S,ias27 S1,S1.rd,e0,hEg,irN,nrA,nrM,nrE,reduceIte,reduceCtorEq,nrL];(exact f99 _ _)))|(with_reducible first|refine W_regionF lv122 fun K hK=>?_));try simp only [↓pb,↓pd,qds,tb122,so,so.1,so.2,lns27 S,ias27 S1,S1.rd,e0,hEg,irN,nrA,nrM,nrE,reduceIte,reduceCtorEq,nrL])|((with_reducible apply W_cond);(simp only [↓pb,qbs,tb122,so,so.1,so.2,lns27 S,ias27 S1,S1.rd,e0,hEg,irN,nrA,nrM,nrE,reduceIte,reduceCtorEq,nrL];with_reducible exact rfl);all_goals (intro hc;(first|exact hcX hc|try simp only [hcs] at hc)))|(with_reducible first|refine W_seq ?_|refine W_block ?_|refine W_skip ?_|refine W_ret ?_|refine W_exit ?_|apply blockK_exit)|((with_reducible apply blockK_pass);(focus decide))|fail)
  ·refine ⟨by first|exact .inl rfl|exact .inr rfl, ?_⟩
   rw [ret1 Try.results122]
   simp only [↓pb,qbs,tb122,so,so.1,so.2,lns27 S,rv_tmp,rv_cell,hEg,irN,nrA,nrM,nrE,reduceIte,reduceCtorEq,nrL]
   repeat ((with_reducible apply oV_intro);(simp (disch:=try exact dA) only [qcs,tb122,so,so.1,so.2,lns27 S,hEg,irN,nrA,nrM,nrE,reduceIte,reduceCtorEq,nrL];exact rfl))
   refine ⟨⟨i1,rfl,fun _=>?_,fun _=>by omega⟩,by exact frA⟩
   rw [← List.take_append_drop (i1 + 1) l,List.any_append,ht,hc]
   simp
  ·refine ⟨by omega,by simp only [↓pb,qbs,tb122,so,so.1,so.2,lns27 S,hEg,irN,nrA,nrM,nrE,reduceIte,reduceCtorEq,nrL];exact congrArg _ (inc64 (by omega)),by focus exact frA, ?_⟩
   rw [ht,hJ1,hc]
   rfl
 ·have ei:i1=l.length:=by omega
  subst ei
  rw [List.take_length] at hJ1
  repeat' (first|((with_reducible refine hK _ _ fun e2 hEn=>?_);clear hK K;simp only [lv122,forallC,forallL,and_true] at hEn;(try simp only [↓pb,qbs,tb122,so,so.1,so.2,lns27 S,hEg,irN,nrA,nrM,nrE,reduceIte,reduceCtorEq,nrL] at hEn);clear hEg;(try clear eg);have hEg:=hEn;clear hEn;rename Env=>eg)|((first|((with_reducible first|apply oV_intro|apply oH_intro|apply oB_intro);(simp (disch:=try exact dA) only [qcs,tb122,so,so.1,so.2,lns27 S,hEg,irN,nrA,nrM,nrE,reduceIte,reduceCtorEq,nrL];with_reducible exact rfl))|(with_reducible first|refine W_regionF lv122 fun K hK=>?_));try simp only [↓pb,↓pd,qds,tb122,so,so.1,so.2,lns27 S,hEg,irN,nrA,nrM,nrE,reduceIte,reduceCtorEq,nrL])|((with_reducible apply W_cond);(simp only [↓pb,qbs,tb122,so,so.1,so.2,lns27 S,hEg,irN,nrA,nrM,nrE,reduceIte,reduceCtorEq,nrL];with_reducible exact rfl);all_goals (intro hc;(first|exact hcX hc|try simp only [hcs] at hc)))|(with_reducible first|refine W_seq ?_|refine W_block ?_|refine W_skip ?_|refine W_ret ?_|refine W_exit ?_|apply blockK_exit)|((with_reducible apply blockK_pass);(focus decide))|fail)
  refine ⟨by first|exact .inl rfl|exact .inr rfl, ?_⟩
  rw [ret1 Try.results122]
  simp only [↓pb,qbs,tb122,so,so.1,so.2,lns27 S,rv_tmp,rv_cell,hEg,irN,nrA,nrM,nrE,reduceIte,reduceCtorEq,nrL]
  repeat ((with_reducible apply oV_intro);(simp (disch:=try exact dA) only [qcs,tb122,so,so.1,so.2,lns27 S,hEg,irN,nrA,nrM,nrE,reduceIte,reduceCtorEq,nrL];exact rfl))
  refine ⟨⟨-1,rfl,fun q=>by omega,fun q=>?_⟩,hF01⟩
  rw [hJ1] at q
  cases q
theorem f98 (vl:Value) (l:List Int) (H:AHeap) (hT:Top H) (S:SR H 1 l.length vl (ints l)) (hl:l.length < 1000000) :
  ∃ v H',C8 (.fn 98) #[vl,.func (.func 99) #[] #[]] H v H'∧v=.bool (l.any offP)∧Fr H.n [] H H':=by
 have so:=S.one
 refine Cl.ofW Try.func98 rfl (by kernel_rfl) (by rw [Try.ntmps98];exact Nat.le_of_ble_eq_true rfl) (by kernel_rfl) ?_
 have hEg:True:=trivial
 refine gcW [0,1] ?_
 intro eg hEn
 simp only [forallC,forallL,and_true] at hEn
 try simp only [↓pb,qbs,tb98,so,so.1,so.2,hEg,irN,nrA,nrM,nrE,reduceIte,reduceCtorEq,nrL] at hEn
 replace hEg:=hEn;clear hEn
 repeat' (first|((with_reducible refine hK _ _ fun e2 hEn=>?_);clear hK K;simp only [lv98,forallC,forallL,and_true] at hEn;(try simp only [↓pb,qbs,tb98,so,so.1,so.2,hEg,irN,nrA,nrM,nrE,reduceIte,reduceCtorEq,nrL] at hEn);clear hEg;(try clear eg);have hEg:=hEn;clear hEn;rename Env=>eg)|((first|((with_reducible first|apply oV_intro|apply oH_intro|apply oB_intro);(simp (disch:=try exact dA) only [qcs,tb98,so,so.1,so.2,hEg,irN,nrA,nrM,nrE,reduceIte,reduceCtorEq,nrL];with_reducible exact rfl))|((with_reducible apply WO_callF);(focus exact topA);(simp only [↓pb,qbs,tb98,so,so.1,so.2,hEg,irN,nrA,nrM,nrE,reduceIte,reduceCtorEq,nrL];exact f122 vl l _ (by exact topA) S hl);(rintro vq Gq hq hJq ⟨i,rfl,hi⟩;try simp only [upd_n,jn_n] at hq))|(with_reducible first|refine W_regionF lv98 fun K hK=>?_));try simp only [↓pb,↓pd,qds,tb98,so,so.1,so.2,hEg,irN,nrA,nrM,nrE,reduceIte,reduceCtorEq,nrL])|(with_reducible first|refine W_seq ?_|refine W_ret ?_)|fail)
 refine ⟨by first|exact .inl rfl|exact .inr rfl, ?_⟩
 rw [ret1 Try.results98]
 simp only [↓pb,qbs,tb98,so,so.1,so.2,rv_tmp,rv_cell,hEg,irN,nrA,nrM,nrE,reduceIte,reduceCtorEq,nrL]
 repeat ((with_reducible apply oV_intro);(simp (disch:=try exact dA) only [qcs,tb98,so,so.1,so.2,hEg,irN,nrA,nrM,nrE,reduceIte,reduceCtorEq,nrL];exact rfl))
 refine ⟨?_,by exact frA⟩
 congr 1
 cases hq:l.any offP with
 | true=>exact decide_eq_true (hi.2 hq)
 | false=>exact decide_eq_false fun q=>by rw [hi.1 q] at hq;cases hq
theorem f56 (vs vp:Value) (g:Hdg) (plan:List Int) (H:AHeap) (hT:Top H) (S:SR H 2 g.Stock.length vs (g.Stock.flatMap eRg)) (Sp:SR H 1 plan.length vp (ints plan)) (hl:g.Stock.length < 1000000) (hpl:plan.length < 1000000) :
  ∃ v H',C8 (.fn 56) #[.agg ⟨eHdg vs g⟩,vp] H v H'∧(∃ vl,v=.tuple #[vl,iv (expoP g plan).2]∧SR H' 2 (expoP g plan).1.length vl ((expoP g plan).1.flatMap eRg))∧Fr H.n [] H H':=by
 have so:=S.one
 have op:=Sp.one
 refine Cl.ofW Try.func56 rfl (by kernel_rfl) (by rw [Try.ntmps56];exact Nat.le_of_ble_eq_true rfl) (by kernel_rfl) ?_
 have hEg:True:=trivial
 refine gcW [0,1] ?_
 intro eg hEn
 simp only [forallC,forallL,and_true] at hEn
 try simp only [↓pb,qbs,tb56,eHdg,so,so.1,so.2,op,lns27 Sp,lns37 S,hEg,irN,nrA,nrM,nrE,reduceIte,reduceCtorEq,nrL] at hEn
 replace hEg:=hEn;clear hEn
 repeat' (first|((with_reducible refine hK _ _ fun e2 hEn=>?_);clear hK K;simp only [lv56,forallC,forallL,and_true] at hEn;(try simp only [↓pb,qbs,tb56,eHdg,so,so.1,so.2,op,lns27 Sp,lns37 S,hEg,irN,nrA,nrM,nrE,reduceIte,reduceCtorEq,nrL] at hEn);clear hEg;(try clear eg);have hEg:=hEn;clear hEn;rename Env=>eg)|((first|((with_reducible first|apply oV_intro|apply oH_intro|apply oB_intro);(simp (disch:=try exact dA) only [qcs,tb56,eHdg,so,so.1,so.2,op,lns27 Sp,lns37 S,hEg,irN,nrA,nrM,nrE,reduceIte,reduceCtorEq,nrL];with_reducible exact rfl))|((with_reducible apply WO_callV);(focus exact topA);(simp only [↓pb,qbs,tb56,eHdg,so,so.1,so.2,op,lns27 Sp,lns37 S,hEg,irN,nrA,nrM,nrE,reduceIte,reduceCtorEq,nrL];(first|exact f97 vs g _ (by exact topA) (S.fr0 (N:=H.n) (by exact frA)) hl|exact f98 vp plan _ (by exact topA) (Sp.fr0 (N:=H.n) (by exact frA)) hpl));(intro Gq hq hJq;try simp only [upd_n,jn_n] at hq))|(with_reducible first|refine W_regionF lv56 fun K hK=>?_));try simp only [↓pb,↓pd,qds,tb56,eHdg,so,so.1,so.2,op,lns27 Sp,lns37 S,hEg,irN,nrA,nrM,nrE,reduceIte,reduceCtorEq,nrL])|((with_reducible apply W_cond);(simp only [↓pb,qbs,tb56,eHdg,so,so.1,so.2,op,lns27 Sp,lns37 S,hEg,irN,nrA,nrM,nrE,reduceIte,reduceCtorEq,nrL];with_reducible exact rfl);all_goals (intro hc;(first|exact hcX hc|try simp only [hcs] at hc)))|(with_reducible first|refine W_seq ?_|refine W_block ?_|refine W_skip ?_|refine W_ret ?_|refine W_exit ?_|apply blockK_exit)|((with_reducible apply blockK_pass);(focus decide))|fail)
 ·refine ⟨by first|exact .inl rfl|exact .inr rfl, ?_⟩
  rw [ret2 Try.results56]
  simp only [↓pb,qbs,tb56,eHdg,so,so.1,so.2,op,lns27 Sp,lns37 S,rv_tmp,rv_cell,hEg,irN,nrA,nrM,nrE,reduceIte,reduceCtorEq,nrL]
  repeat ((with_reducible apply oV_intro);(simp (disch:=try exact dA) only [qcs,tb56,eHdg,so,so.1,so.2,op,lns27 Sp,lns37 S,hEg,irN,nrA,nrM,nrE,reduceIte,reduceCtorEq,nrL];exact rfl))
  have e:expoP g plan=([],hedgeErr g):=by rw [expoP,if_pos (by assumption)]
  rw [e]
  exact ⟨⟨_,rfl,GS.nul.sr⟩,by exact frA⟩
 ·refine ⟨by first|exact .inl rfl|exact .inr rfl, ?_⟩
  rw [ret2 Try.results56]
  simp only [↓pb,qbs,tb56,eHdg,so,so.1,so.2,op,lns27 Sp,lns37 S,rv_tmp,rv_cell,hEg,irN,nrA,nrM,nrE,reduceIte,reduceCtorEq,nrL]
  repeat ((with_reducible apply oV_intro);(simp (disch:=try exact dA) only [qcs,tb56,eHdg,so,so.1,so.2,op,lns27 Sp,lns37 S,hEg,irN,nrA,nrM,nrE,reduceIte,reduceCtorEq,nrL];exact rfl))
  have e:expoP g plan=([],2):=by rw [expoP,if_neg (by omega),if_pos (by omega)]
  rw [e]
  exact ⟨⟨_,rfl,GS.nul.sr⟩,by exact frA⟩
 ·refine ⟨by first|exact .inl rfl|exact .inr rfl, ?_⟩
  rw [ret2 Try.results56]
  simp only [↓pb,qbs,tb56,eHdg,so,so.1,so.2,op,lns27 Sp,lns37 S,rv_tmp,rv_cell,hEg,irN,nrA,nrM,nrE,reduceIte,reduceCtorEq,nrL]
  repeat ((with_reducible apply oV_intro);(simp (disch:=try exact dA) only [qcs,tb56,eHdg,so,so.1,so.2,op,lns27 Sp,lns37 S,hEg,irN,nrA,nrM,nrE,reduceIte,reduceCtorEq,nrL];exact rfl))
  have e:expoP g plan=([],1):=by rw [expoP,if_neg (by omega),if_neg (by omega),if_pos (by assumption)]
  rw [e]
  exact ⟨⟨_,rfl,GS.nul.sr⟩,by exact frA⟩
 have hE:hedgeErr g=0:=by omega
 have hL:plan.length=g.Stock.length:=by omega
 have e:expoP g plan=(expoL g plan plan.length,0):=by rw [expoP,if_neg (by omega),if_neg (by omega),if_neg (by simp [*])]
 rw [e]
 generalize hh:AHeap.jn _ Gq=h0 at *
 have hF0:Fr H.n [] H h0:=by
  rw [← hh]
  exact frA
 have hT0:Top h0:=by
  rw [← hh]
  exact topA
 have r0:h0.rd H.n=some (eHdg vs g):=by
  rw [← hh]
  simp (disch:=try exact dA) only [qcs,tb56,eHdg,so,so.1,so.2,op,lns27 Sp,lns37 S,hEg,irN,nrA,nrM,nrE,reduceIte,reduceCtorEq,nrL]
 rw [eHdg] at r0
 have n0:H.n + 1≤h0.n:=by
  rw [← hh]
  show H.n + 1≤Gq.n
  omega
 clear hh
 have Sp2:SR H 1 plan.length vp (plan.map iv):=Sp
 refine W_count [2,25,26] (by kernel_rfl) 27 (plan.length) (H.n) [] [] (fun i e h=>∃ (vo:Value) (gg:Option Nat),e 7=vo∧GS h 2 (expoL g plan i).length vo ((expoL g plan i).flatMap eRg) gg∧(∀ x,gg=some x→H.n≤x)) (by simp only [↓pb,qbs,tb56,eHdg,so,so.1,so.2,op,lns27 Sp,lns37 S,hEg,irN,nrA,nrM,nrE,reduceIte,reduceCtorEq,nrL]) (by focus exact topA) (H0:=H) (by focus exact frA) (by intro b hb hlt;simp at hb ⊢;try omega) ?_ ?_
 rotate_left
 intro i1 e1 h1 hi1 hE1 ei1 hF1 hF01 hTh1 hJ1
 simp only [forallC,forallL,and_true] at hE1
 try simp only [↓pb,qbs,tb56,eHdg,so,so.1,so.2,op,lns27 Sp,lns37 S,hEg,irN,nrA,nrM,nrE,reduceIte,reduceCtorEq,nrL] at hE1
 have hn11:=hF1.n;have hn01:=hF01.n;try simp only [upd_n,jn_n] at hn11
 replace hEg:=And.intro ei1 hE1
 rotate_left
 ·exact ⟨.slice none 0 0,none,by simp only [↓pb,qbs,tb56,eHdg,so,so.1,so.2,op,lns27 Sp,lns37 S,hEg,irN,nrA,nrM,nrE,reduceIte,reduceCtorEq,nrL],GS.nul,by simp⟩
 obtain ⟨vo,gg,e7,G,hgg⟩:=hJ1
 have S1:=S.fr0 hF01
 have Q1:=Sp2.fr0 hF01
 have hlp:=Q1.lt
 have e0:=Q1.el1 rfl
 have r1:h1.rd H.n=some [vs,iv g.Lot,iv g.Bound,iv g.Held]:=by
  rw [rd_def,hF1.old _ (by omega) (by simp),← rd_def]
  exact r0
 have oo:=G.one
 have hxl:=expoL_len g plan i1
 rw [hxl] at G
 by_cases hi:i1 < plan.length
 ·repeat' (first|((with_reducible refine hK _ _ fun e2 hEn=>?_);clear hK K;simp only [lv56,forallC,forallL,and_true] at hEn;(try simp only [↓pb,qbs,tb56,eHdg,so,so.1,so.2,op,lns27 Sp,lns37 S,hEg,irN,nrA,nrM,nrE,reduceIte,reduceCtorEq,nrL] at hEn);clear hEg;(try clear eg);have hEg:=hEn;clear hEn;rename Env=>eg)|((first|((with_reducible first|apply oV_intro|apply oH_intro|apply oB_intro);(simp (disch:=try exact dA) only [qcs,tb56,eHdg,so,so.1,so.2,op,lns27 Sp,lns37 S,e7,r1,ias27 Q1,Q1.rd,e0,oo,hEg,irN,nrA,nrM,nrE,reduceIte,reduceCtorEq,nrL];with_reducible exact rfl))|((with_reducible apply WO_callV);(focus exact topA);(simp only [↓pb,qbs,tb56,eHdg,so,so.1,so.2,op,lns27 Sp,lns37 S,e7,r1,ias27 Q1,Q1.rd,e0,oo,hEg,irN,nrA,nrM,nrE,reduceIte,reduceCtorEq,nrL];(exact f100 vs g i1 (plan.getD i1 default) _ (by exact topA) (S.fr0 (N:=H.n) (by exact frA)) (by omega)));(intro Gq hq hJq;try simp only [upd_n,jn_n] at hq))|(with_reducible first|refine W_regionF lv56 fun K hK=>?_));try simp only [↓pb,↓pd,qds,tb56,eHdg,so,so.1,so.2,op,lns27 Sp,lns37 S,e7,r1,ias27 Q1,Q1.rd,e0,oo,hEg,irN,nrA,nrM,nrE,reduceIte,reduceCtorEq,nrL])|((with_reducible apply W_cond);(simp only [↓pb,qbs,tb56,eHdg,so,so.1,so.2,op,lns27 Sp,lns37 S,e7,r1,ias27 Q1,Q1.rd,e0,oo,hEg,irN,nrA,nrM,nrE,reduceIte,reduceCtorEq,nrL];with_reducible exact rfl);all_goals (intro hc;(first|exact hcX hc|try simp only [hcs] at hc)))|(with_reducible first|refine W_seq ?_|refine W_block ?_|refine W_skip ?_|refine W_ret ?_|refine W_exit ?_|apply blockK_exit)|((with_reducible apply blockK_pass);(focus decide))|fail)
  refine pu37 (n:=i1) (m:=1) (c:=(expoL g plan i1).flatMap eRg) (g:=gg) (G.jn hJq).ex (SR.new rfl) (by omega) (by omega) (by omega) (by exact topA) fun GG=>?_
  have hgd:=gd_ge (n:=Gq.n + 1) hgg (by omega)
  have hgd2:=GG.grp_lt
  simp only [upd_n,jn_n] at hgd2
  simp only [upd_n,jn_n,nb] at GG
  simp only [upd_n,jn_n,nb]
  repeat' (first|((with_reducible refine hK _ _ fun e2 hEn=>?_);clear hK K;simp only [lv56,forallC,forallL,and_true] at hEn;(try simp only [↓pb,qbs,tb56,eHdg,so,so.1,so.2,op,lns27 Sp,lns37 S,hEg,irN,nrA,nrM,nrE,reduceIte,reduceCtorEq,nrL] at hEn);clear hEg;(try clear eg);have hEg:=hEn;clear hEn;rename Env=>eg)|((first|((with_reducible first|apply oV_intro|apply oH_intro|apply oB_intro);(simp (disch:=try exact dA) only [qcs,tb56,eHdg,so,so.1,so.2,op,lns27 Sp,lns37 S,hEg,irN,nrA,nrM,nrE,reduceIte,reduceCtorEq,nrL];with_reducible exact rfl))|(with_reducible first|refine W_regionF lv56 fun K hK=>?_));try simp only [↓pb,↓pd,qds,tb56,eHdg,so,so.1,so.2,op,lns27 Sp,lns37 S,hEg,irN,nrA,nrM,nrE,reduceIte,reduceCtorEq,nrL])|((with_reducible apply W_cond);(simp only [↓pb,qbs,tb56,eHdg,so,so.1,so.2,op,lns27 Sp,lns37 S,hEg,irN,nrA,nrM,nrE,reduceIte,reduceCtorEq,nrL];with_reducible exact rfl);all_goals (intro hc;(first|exact hcX hc|try simp only [hcs] at hc)))|(with_reducible first|refine W_seq ?_|refine W_block ?_|refine W_skip ?_|refine W_ret ?_|refine W_exit ?_|apply blockK_exit)|((with_reducible apply blockK_pass);(focus decide))|fail)
  refine ⟨by omega,by simp only [↓pb,qbs,tb56,eHdg,so,so.1,so.2,op,lns27 Sp,lns37 S,hEg,irN,nrA,nrM,nrE,reduceIte,reduceCtorEq,nrL];exact congrArg _ (inc64 (by omega)),by focus exact frA, ?_⟩
  rw [expoL_len,expoL,List.flatMap_append,List.flatMap_singleton]
  exact ⟨_,_,by simp only [hEg],GG,fun x hx=>by cases hx;exact hgd⟩
 ·have ei:i1=plan.length:=by omega
  subst ei
  repeat' (first|((with_reducible refine hK _ _ fun e2 hEn=>?_);clear hK K;simp only [lv56,forallC,forallL,and_true] at hEn;(try simp only [↓pb,qbs,tb56,eHdg,so,so.1,so.2,op,lns27 Sp,lns37 S,hEg,irN,nrA,nrM,nrE,reduceIte,reduceCtorEq,nrL] at hEn);clear hEg;(try clear eg);have hEg:=hEn;clear hEn;rename Env=>eg)|((first|((with_reducible first|apply oV_intro|apply oH_intro|apply oB_intro);(simp (disch:=try exact dA) only [qcs,tb56,eHdg,so,so.1,so.2,op,lns27 Sp,lns37 S,e7,oo,hEg,irN,nrA,nrM,nrE,reduceIte,reduceCtorEq,nrL];with_reducible exact rfl))|(with_reducible first|refine W_regionF lv56 fun K hK=>?_));try simp only [↓pb,↓pd,qds,tb56,eHdg,so,so.1,so.2,op,lns27 Sp,lns37 S,e7,oo,hEg,irN,nrA,nrM,nrE,reduceIte,reduceCtorEq,nrL])|((with_reducible apply W_cond);(simp only [↓pb,qbs,tb56,eHdg,so,so.1,so.2,op,lns27 Sp,lns37 S,e7,oo,hEg,irN,nrA,nrM,nrE,reduceIte,reduceCtorEq,nrL];with_reducible exact rfl);all_goals (intro hc;(first|exact hcX hc|try simp only [hcs] at hc)))|(with_reducible first|refine W_seq ?_|refine W_block ?_|refine W_skip ?_|refine W_ret ?_|refine W_exit ?_|apply blockK_exit)|((with_reducible apply blockK_pass);(focus decide))|fail)
  refine ⟨by first|exact .inl rfl|exact .inr rfl, ?_⟩
  rw [ret2 Try.results56]
  simp only [↓pb,qbs,tb56,eHdg,so,so.1,so.2,op,lns27 Sp,lns37 S,rv_tmp,rv_cell,hEg,irN,nrA,nrM,nrE,reduceIte,reduceCtorEq,nrL]
  repeat ((with_reducible apply oV_intro);(simp (disch:=try exact dA) only [qcs,tb56,eHdg,so,so.1,so.2,op,lns27 Sp,lns37 S,hEg,irN,nrA,nrM,nrE,reduceIte,reduceCtorEq,nrL];exact rfl))
  exact ⟨⟨vo,rfl,by rw [expoL_len];exact G.sr⟩,hF01⟩
set_option maxHeartbeats 4000000 in
theorem f12 (vl:Value) (l:List Int) (H:AHeap) (hT:Top H) (S:SR H 1 l.length vl (ints l)) (hl:l.length≤9223372036854775807):∃ v H',C8 (.fn 12) #[vl] H v H'∧v=.bool true∧Fr H.n [] H H':=by
 refine Cl.ofW Try.func12 rfl (by kernel_rfl) (by rw [Try.ntmps12];exact Nat.le_of_ble_eq_true rfl) (by kernel_rfl) ?_
 have hEg:True:=trivial
 refine gcW [0] ?_
 intro eg hEn
 simp only [forallC,forallL,and_true] at hEn
 try simp only [↓pb,qbs,tb12,hEg,irN,nrA,nrM,nrE,reduceIte,reduceCtorEq,nrL] at hEn
 replace hEg:=hEn;clear hEn
 repeat' (first|((with_reducible refine hK _ _ fun e2 hEn=>?_);clear hK K;simp only [lv12,forallC,forallL,and_true] at hEn;(try simp only [↓pb,qbs,tb12,hEg,irN,nrA,nrM,nrE,reduceIte,reduceCtorEq,nrL] at hEn);clear hEg;(try clear eg);have hEg:=hEn;clear hEn;rename Env=>eg)|((first|((with_reducible first|apply oV_intro|apply oH_intro|apply oB_intro);(simp (disch:=try exact dA) only [qcs,tb12,hEg,irN,nrA,nrM,nrE,reduceIte,reduceCtorEq,nrL];with_reducible exact rfl))|((with_reducible first|apply oblA_and|apply oblR_and|apply oblO_and);(focus exact obA))|((with_reducible apply WO_callE);(simp only [↓pb,qbs,tb12,hEg,irN,nrA,nrM,nrE,reduceIte,reduceCtorEq,nrL];(exact f16 _ l _ hT S hl)))|(with_reducible first|refine W_regionF lv12 fun K hK=>?_|refine W_drawnF lv12 fun K hK=>?_));try simp only [↓pb,↓pd,qds,tb12,hEg,irN,nrA,nrM,nrE,reduceIte,reduceCtorEq,nrL])|((first|((with_reducible first|apply WO_gT|apply WO_gF|apply WD_gT|apply WD_gF);exact rfl)|(with_reducible apply W_cond));(simp only [↓pb,qbs,tb12,hEg,irN,nrA,nrM,nrE,reduceIte,reduceCtorEq,nrL];with_reducible exact rfl);all_goals (intro hc;(first|exact hcX hc|try simp only [hcs] at hc);try ((with_reducible first|apply woI|apply wdI);simp only [↓pb,↓pd,qds,tb12,hc,hEg,irN,nrA,nrM,nrE,reduceIte,reduceCtorEq,nrL])))|(with_reducible first|refine W_seq ?_|refine W_block ?_|refine W_skip ?_|refine W_ret ?_|refine W_exit ?_|apply blockK_exit)|((with_reducible apply blockK_pass);(focus decide))|fail)
 refine WO_callX (X:=[H.n]) (by simp only [↓pb,qbs,tb12,hEg,irN,nrA,nrM,nrE,reduceIte,reduceCtorEq,nrL];exact f53 H.n (feedOf l) _ (by exact topA) (by simp (disch:=try exact dA) only [qcs,tb12,hEg,irN,nrA,nrM,nrE,reduceIte,reduceCtorEq,nrL]) (by simp only [↓pb,qbs,tb12,hEg,irN,nrA,nrM,nrE,reduceIte,reduceCtorEq,nrL];omega)) ?_
 rintro v3 H3 ⟨vs,g,x1,rfl,SG,hx3,V⟩ hF3
 have hT3:Top H3:=hF3.top (by exact topA)
 have n3:=hF3.n
 simp only [upd_n] at n3
 have hF03:Fr H.n [] H H3:=by
  refine Fr.trans' (A:=H) ?_ hF3 (by simp only [↓pb,qbs,tb12,hEg,irN,nrA,nrM,nrE,reduceIte,reduceCtorEq,nrL];omega) (by intro b hb hlt;simp at hb;omega)
  exact frA
 have so:=SG.one
 have hgl:g.Stock.length < 1000000:=by have:=V.len;omega
 simp only [↓pb,↓pd,qds,tb12,eHdg,so,hEg,irN,nrA,nrM,nrE,reduceIte,reduceCtorEq,nrL]
 repeat' (first|((with_reducible refine hK _ _ fun e2 hEn=>?_);clear hK K;simp only [lv12,forallC,forallL,and_true] at hEn;(try simp only [↓pb,qbs,tb12,hEg,irN,nrA,nrM,nrE,reduceIte,reduceCtorEq,nrL] at hEn);clear hEg;(try clear eg);have hEg:=hEn;clear hEn;rename Env=>eg)|((first|((with_reducible first|apply oV_intro|apply oH_intro|apply oB_intro);(simp (disch:=try exact dA) only [qcs,tb12,eHdg,so,so.1,so.2,hEg,irN,nrA,nrM,nrE,reduceIte,reduceCtorEq,nrL];with_reducible exact rfl))|((with_reducible first|apply oblA_and|apply oblR_and|apply oblO_and);(focus exact obA))|((with_reducible apply WO_callF);(focus exact topA);(simp only [↓pb,qbs,tb12,eHdg,so,so.1,so.2,hEg,irN,nrA,nrM,nrE,reduceIte,reduceCtorEq,nrL];exact f58 vs g _ (by exact topA) (SG.fr0 (N:=H.n) (by exact frA)) hgl);(rintro vq Gq hq hJq ⟨vp,rfl,Sp⟩;try simp only [upd_n,jn_n] at hq))|(with_reducible first|refine W_regionE lv12 [5] fun K hK=>?_|refine W_drawnE lv12 [5] fun K hK=>?_));try simp only [↓pb,↓pd,qds,tb12,eHdg,so,so.1,so.2,hEg,irN,nrA,nrM,nrE,reduceIte,reduceCtorEq,nrL])|((first|((with_reducible first|apply WO_gT|apply WO_gF|apply WD_gT|apply WD_gF);exact rfl)|(with_reducible apply W_cond));(simp only [↓pb,qbs,tb12,eHdg,so,so.1,so.2,hEg,irN,nrA,nrM,nrE,reduceIte,reduceCtorEq,nrL];with_reducible exact rfl);all_goals (intro hc;(first|exact hcX hc|try simp only [hcs] at hc);try ((with_reducible first|apply woI|apply wdI);simp only [↓pb,↓pd,qds,tb12,eHdg,so,so.1,so.2,hc,hEg,irN,nrA,nrM,nrE,reduceIte,reduceCtorEq,nrL])))|(with_reducible first|refine W_seq ?_|refine W_block ?_|refine W_skip ?_|refine W_ret ?_|refine W_exit ?_|apply blockK_exit)|((with_reducible apply blockK_pass);(focus decide))|fail)
 have op:=Sp.one
 have hN:H3.n < Gq.n:=by omega
 refine W_forget (N:=H.n) (X:=[]) (h0:=H) (fun h=>Top h∧h.rd H3.n=some [vs,iv g.Lot,iv g.Bound,iv g.Held]∧PlH Gq.n (Gq.n + 1) ([],1073741824) h∧SR h 2 g.Stock.length vs (g.Stock.flatMap eRg)∧SR h 1 (hedgedP g).1.length vp (ints ((hedgedP g).1.map Int.ofNat))∧((hedgedP g).1.length=0∨vblk vp < Gq.n)) (by exact frA) ⟨by exact topA,by simp (disch:=try exact dA) only [qcs,tb12,hEg,irN,nrA,nrM,nrE,reduceIte,reduceCtorEq,nrL],⟨⟨_,by simp (disch:=try exact dA) only [qcs,tb12,hEg,irN,nrA,nrM,nrE,reduceIte,reduceCtorEq,nrL],GS.nul.sr,.inl rfl⟩,by simp (disch:=try exact dA) only [qcs,tb12,hEg,irN,nrA,nrM,nrE,reduceIte,reduceCtorEq,nrL],by simp only [upd_n];omega⟩,SG.fr0 (N:=H.n) (by exact frA),Sp.fr0 (N:=H.n) (by exact frA),Sp.lt⟩ ?_
 rintro h4 hF4 ⟨hT4,r4,P4,S4,Q4,dv⟩
 generalize Gq.n=b7 at *
 have n4:=P4.lt
 repeat' (first|((with_reducible refine hK _ _ fun e2 hEn=>?_);clear hK K;simp only [lv12,forallC,forallL,and_true] at hEn;(try simp only [↓pb,qbs,tb12,hEg,irN,nrA,nrM,nrE,reduceIte,reduceCtorEq,nrL] at hEn);clear hEg;(try clear eg);have hEg:=hEn;clear hEn;rename Env=>eg)|((first|((with_reducible first|apply oV_intro|apply oH_intro|apply oB_intro);(simp (disch:=try exact dA) only [qcs,tb12,r4,eHdg,hEg,irN,nrA,nrM,nrE,reduceIte,reduceCtorEq,nrL];with_reducible exact rfl))|((with_reducible first|apply oblA_and|apply oblR_and|apply oblO_and);(focus exact obA))|(with_reducible first|refine W_regionF lv12 fun K hK=>?_|refine W_drawnF lv12 fun K hK=>?_));try simp only [↓pb,↓pd,qds,tb12,r4,eHdg,hEg,irN,nrA,nrM,nrE,reduceIte,reduceCtorEq,nrL])|((first|((with_reducible first|apply WO_gT|apply WO_gF|apply WD_gT|apply WD_gF);exact rfl)|(with_reducible apply W_cond));(simp only [↓pb,qbs,tb12,r4,eHdg,hEg,irN,nrA,nrM,nrE,reduceIte,reduceCtorEq,nrL];with_reducible exact rfl);all_goals (intro hc;(first|exact hcX hc|try simp only [hcs] at hc);try ((with_reducible first|apply woI|apply wdI);simp only [↓pb,↓pd,qds,tb12,r4,eHdg,hc,hEg,irN,nrA,nrM,nrE,reduceIte,reduceCtorEq,nrL])))|(with_reducible first|refine W_seq ?_|refine W_block ?_|refine W_skip ?_|refine W_ret ?_|refine W_exit ?_|apply blockK_exit)|((with_reducible apply blockK_pass);(focus decide))|fail)
 have hcall:=f62 vs g hgl b7 (b7 + 1) g.Stock.length [] (.slice none 0 0) 0 ([],1073741824) h4 (by simp) hT4 S4 P4 GS.nul.sr (.inl rfl)
 refine WO_callX (X:=[b7,b7 + 1]) (by simp only [↓pb,qbs,tb12,hEg,irN,nrA,nrM,nrE,reduceIte,reduceCtorEq,nrL];exact hcall) ?_
 rintro v5 h5 ⟨rfl,P5⟩ hF5
 have n5:=hF5.n
 have hF05:Fr H.n [] H h5:=hF4.trans' hF5 (by omega) (by intro b hb hlt;simp at hb;omega)
 have hT5:=hF5.top hT4
 have r5:h5.rd H3.n=some [vs,iv g.Lot,iv g.Bound,iv g.Held]:=by
  rw [rd_def,hF5.old _ (by omega) (by simp;omega),← rd_def]
  exact r4
 rw [plans_all V] at P5
 have Q5:=Q4.fr hF5 (by
  rcases dv with q|q
  ·exact .inl q
  ·exact .inr (by simp;omega))
 have S5:=S4.fr hF5 (by
  rcases SG.lt with q|q
  ·exact .inl q
  ·exact .inr (by simp;omega))
 rw [WO_nil]
 obtain ⟨⟨vb,g7,Sb,hdv⟩,g8,l7,l8,_⟩:=P5
 have r8:h5.rd (b7 + 1)=some [iv (if restP g 0 g.Held.toNat < never then (planP g,restP g 0 g.Held.toNat) else ([],1073741824)).2]:=by rw [rd_def,g8];rfl
 have r7:h5.rd b7=some [vb]:=by rw [rd_def,g7];rfl
 have ob:=Sb.one
 have hh:=V.held
 have hE:=V.ok
 by_cases hr:restP g 0 g.Held.toNat < never
 ·have eh:hedgedP g=(planP g,restP g 0 g.Held.toNat,0):=by rw [hedgedP,if_neg (by omega),if_neg (by omega)]
  rw [if_pos hr] at r8 Sb
  rw [eh] at Q5 hEg
  dsimp only at r8 Sb Q5 hEg
  have hne:¬ restP g 0 g.Held.toNat=1073741824:=by unfold never at hr;omega
  obtain ⟨hx,hfit⟩:=expo_plan V hr
  have hpl:(planP g).length=g.Stock.length:=planGo_len _ _ _
  have Q6:SR h5 1 ((planP g).map Int.ofNat).length vp (ints ((planP g).map Int.ofNat)):=by rw [List.length_map];exact Q5
  have B6:SR h5 1 ((planP g).map Int.ofNat).length vb (ints ((planP g).map Int.ofNat)):=by rw [List.length_map];exact Sb
  have hl2:((planP g).map Int.ofNat).length < 1000000:=by rw [List.length_map];omega
  generalize restP g 0 g.Held.toNat=R at *
  repeat' (first|((with_reducible refine hK _ _ fun e2 hEn=>?_);clear hK K;simp only [lv12,forallC,forallL,and_true] at hEn;(try simp only [↓pb,qbs,tb12,hEg,irN,nrA,nrM,nrE,reduceIte,reduceCtorEq,nrL] at hEn);clear hEg;(try clear eg);have hEg:=hEn;clear hEn;rename Env=>eg)|((first|((with_reducible first|apply oV_intro|apply oH_intro|apply oB_intro);(simp (disch:=try exact dA) only [qcs,tb12,r5,r7,r8,hne,eHdg,hEg,irN,nrA,nrM,nrE,reduceIte,reduceCtorEq,nrL];with_reducible exact rfl))|((with_reducible first|apply oblA_and|apply oblR_and|apply oblO_and);(focus exact obA))|((with_reducible apply WO_callF);(focus exact topA);(simp only [↓pb,qbs,tb12,r5,r7,r8,hne,eHdg,hEg,irN,nrA,nrM,nrE,reduceIte,reduceCtorEq,nrL];exact f56 vs vp g ((planP g).map Int.ofNat) _ (by exact topA) (S5.fr0 (N:=H.n) (by exact frA)) (Q6.fr0 (N:=H.n) (by exact frA)) hgl hl2);(rintro vq Gq hq hJq ⟨vx,rfl,Sx⟩;try simp only [upd_n,jn_n] at hq))|(with_reducible first|refine W_regionE lv12 [9] fun K hK=>?_|refine W_drawnE lv12 [9] fun K hK=>?_));try simp only [↓pb,↓pd,qds,tb12,r5,r7,r8,hne,eHdg,hEg,irN,nrA,nrM,nrE,reduceIte,reduceCtorEq,nrL])|((first|((with_reducible first|apply WO_gT|apply WO_gF|apply WD_gT|apply WD_gF);exact rfl)|(with_reducible apply W_cond));(simp only [↓pb,qbs,tb12,r5,r7,r8,hne,eHdg,hEg,irN,nrA,nrM,nrE,reduceIte,reduceCtorEq,nrL];with_reducible exact rfl);all_goals (intro hc;(first|exact hcX hc|try simp only [hcs] at hc);try ((with_reducible first|apply woI|apply wdI);simp only [↓pb,↓pd,qds,tb12,r5,r7,r8,hne,eHdg,hc,hEg,irN,nrA,nrM,nrE,reduceIte,reduceCtorEq,nrL])))|(with_reducible first|refine W_seq ?_|refine W_block ?_|refine W_skip ?_|refine W_ret ?_|refine W_exit ?_|apply blockK_exit)|((with_reducible apply blockK_pass);(focus decide))|fail)
  rw [hx] at Sx hEg
  dsimp only at Sx hEg
  rw [expoL_len] at Sx
  have hself:decide ((planP g).map Int.ofNat=(planP g).map Int.ofNat)=true:=decide_eq_true rfl
  have hpl3:((planP g).length:Int)=(g.Stock.length:Int):=by omega
  refine W_forget (N:=H.n) (X:=[]) (h0:=H) (fun h=>Top h∧h.rd H3.n=some [vs,iv g.Lot,iv g.Bound,iv g.Held]∧h.rd b7=some [vb]∧h.rd (b7 + 1)=some [iv R]∧SR h 2 g.Stock.length vx ((expoL g ((planP g).map Int.ofNat) g.Stock.length).flatMap eRg)∧SR h 1 ((planP g).map Int.ofNat).length vp (ints ((planP g).map Int.ofNat))∧SR h 1 ((planP g).map Int.ofNat).length vb (ints ((planP g).map Int.ofNat))∧H3.n < h.n∧b7 + 1 < h.n) (by exact frA) ⟨by exact topA,by simp (disch:=try exact dA) only [qcs,tb12,hEg,irN,nrA,nrM,nrE,reduceIte,reduceCtorEq,nrL];exact r5,by simp (disch:=try exact dA) only [qcs,tb12,hEg,irN,nrA,nrM,nrE,reduceIte,reduceCtorEq,nrL];exact r7,by simp (disch:=try exact dA) only [qcs,tb12,hEg,irN,nrA,nrM,nrE,reduceIte,reduceCtorEq,nrL];exact r8,Sx,Q6.fr0 (N:=H.n) (by exact frA),B6.fr0 (N:=H.n) (by exact frA),by simp only [jn_n];omega,by simp only [jn_n];omega⟩ ?_
  rintro h6 hF6 ⟨hT6,r6a,r6b,r6c,S6,Q7,B7,n6a,n6b⟩
  have lnp:∀ h,lenV Try.prog 27 vp h=some (.int .i64 (g.Stock.length:Nat)):=fun h=>by rw [lns27 Q7,List.length_map,hpl]
  have hxl:(expoL g ((planP g).map Int.ofNat) g.Stock.length).length=g.Stock.length:=expoL_len _ _ _
  generalize (planP g).map Int.ofNat=pl at *
  generalize expoL g pl g.Stock.length=xl at *
  repeat' (first|((with_reducible refine hK _ _ fun e2 hEn=>?_);clear hK K;simp only [lv12,forallC,forallL,and_true] at hEn;(try simp only [↓pb,qbs,tb12,hEg,irN,nrA,nrM,nrE,reduceIte,reduceCtorEq,nrL] at hEn);clear hEg;(try clear eg);have hEg:=hEn;clear hEn;rename Env=>eg)|((first|((with_reducible first|apply oV_intro|apply oH_intro|apply oB_intro);(simp (disch:=try exact dA) only [qcs,tb12,r6a,r6b,r6c,ob,op,lns37 S6,lnp,hself,nzs,hEg,irN,nrA,nrM,nrE,reduceIte,reduceCtorEq,nrL];with_reducible exact rfl))|((with_reducible first|apply oblA_and|apply oblR_and|apply oblO_and);(focus exact obA))|((with_reducible apply WO_callE);(simp only [↓pb,qbs,tb12,r6a,r6b,r6c,ob,op,lns37 S6,lnp,hself,nzs,hEg,irN,nrA,nrM,nrE,reduceIte,reduceCtorEq,nrL];(exact f45 vp vb pl pl _ (by exact topA) (Q7.fr0 (N:=H.n) (by exact frA)) (B7.fr0 (N:=H.n) (by exact frA)) (by omega))))|(with_reducible first|refine W_regionE lv12 [12] fun K hK=>?_|refine W_drawnE lv12 [12] fun K hK=>?_));try simp only [↓pb,↓pd,qds,tb12,r6a,r6b,r6c,ob,op,lns37 S6,lnp,hself,nzs,hEg,irN,nrA,nrM,nrE,reduceIte,reduceCtorEq,nrL])|((first|((with_reducible first|apply WO_gT|apply WO_gF|apply WD_gT|apply WD_gF);exact rfl)|(with_reducible apply W_cond));(simp only [↓pb,qbs,tb12,r6a,r6b,r6c,ob,op,lns37 S6,lnp,hself,nzs,hEg,irN,nrA,nrM,nrE,reduceIte,reduceCtorEq,nrL];with_reducible exact rfl);all_goals (intro hc;(first|exact hcX hc|try simp only [hcs] at hc);try ((with_reducible first|apply woI|apply wdI);simp only [↓pb,↓pd,qds,tb12,r6a,r6b,r6c,ob,op,lns37 S6,lnp,hself,nzs,hc,hEg,irN,nrA,nrM,nrE,reduceIte,reduceCtorEq,nrL])))|(with_reducible first|refine W_seq ?_|refine W_block ?_|refine W_skip ?_|refine W_ret ?_|refine W_exit ?_|apply blockK_exit)|((with_reducible apply blockK_pass);(focus decide))|fail)
  repeat' (first|((with_reducible refine hK _ _ fun e2 hEn=>?_);clear hK K;simp only [lv12,forallC,forallL,and_true] at hEn;(try simp only [↓pb,qbs,tb12,hEg,irN,nrA,nrM,nrE,reduceIte,reduceCtorEq,nrL] at hEn);clear hEg;(try clear eg);have hEg:=hEn;clear hEn;rename Env=>eg)|((first|((with_reducible first|apply oV_intro|apply oH_intro|apply oB_intro);(simp (disch:=try exact dA) only [qcs,tb12,hEg,irN,nrA,nrM,nrE,reduceIte,reduceCtorEq,nrL];with_reducible exact rfl))|((with_reducible first|apply oblA_and|apply oblR_and|apply oblO_and);(focus exact obA))|(with_reducible first|refine W_regionF lv12 fun K hK=>?_|refine W_drawnF lv12 fun K hK=>?_));try simp only [↓pb,↓pd,qds,tb12,hEg,irN,nrA,nrM,nrE,reduceIte,reduceCtorEq,nrL])|((first|((with_reducible first|apply WO_gT|apply WO_gF|apply WD_gT|apply WD_gF);exact rfl)|(with_reducible apply W_cond));(simp only [↓pb,qbs,tb12,hEg,irN,nrA,nrM,nrE,reduceIte,reduceCtorEq,nrL];with_reducible exact rfl);all_goals (intro hc;(first|exact hcX hc|try simp only [hcs] at hc);try ((with_reducible first|apply woI|apply wdI);simp only [↓pb,↓pd,qds,tb12,hc,hEg,irN,nrA,nrM,nrE,reduceIte,reduceCtorEq,nrL])))|(with_reducible first|refine W_seq ?_|refine W_block ?_|refine W_skip ?_|refine W_ret ?_|refine W_exit ?_|apply blockK_exit)|((with_reducible apply blockK_pass);(focus decide))|fail)
  refine W_count [3,9] (by kernel_rfl) 11 (g.Stock.length) (H.n) [] [] (fun i e h=>True) (by simp only [↓pb,qbs,tb12,hEg,irN,nrA,nrM,nrE,reduceIte,reduceCtorEq,nrL]) (by focus exact topA) (H0:=H) (by focus exact frA) (by intro b hb hlt;simp at hb ⊢;try omega) ?_ ?_
  rotate_left
  intro i1 e1 h1 hi1 hE1 ei1 hF1 hF01 hTh1 hJ1
  simp only [forallC,forallL,and_true] at hE1
  try simp only [↓pb,qbs,tb12,hEg,irN,nrA,nrM,nrE,reduceIte,reduceCtorEq,nrL] at hE1
  have hn11:=hF1.n;have hn01:=hF01.n;try simp only [upd_n,jn_n] at hn11
  replace hEg:=And.intro ei1 hE1
  rotate_left
  ·trivial
  have S1:=S6.fr0 hF1
  have l1:=S1.lt
  have e0:=S1.el eRg_len hxl.symm
  have r1:h1.rd H3.n=some [vs,iv g.Lot,iv g.Bound,iv g.Held]:=by
   rw [rd_def,hF1.old _ (by omega) (by simp),← rd_def]
   exact r6a
  by_cases hi:i1 < g.Stock.length
  ·obtain ⟨f1,f2⟩:=hfit i1 hi
   rw [← Int.zero_sub] at f1
   have f1:¬ (xl.getD i1 default).1 < IntKind.i64.wrap (0 - g.Bound):=by
    have f1:IntKind.i64.wrap (0 - g.Bound)≤(xl.getD i1 default).1:=f1
    omega
   have f2:¬ g.Bound < (xl.getD i1 default).2:=by omega
   repeat' (first|((with_reducible refine hK _ _ fun e2 hEn=>?_);clear hK K;simp only [lv12,forallC,forallL,and_true] at hEn;(try simp only [↓pb,qbs,tb12,hEg,irN,nrA,nrM,nrE,reduceIte,reduceCtorEq,nrL] at hEn);clear hEg;(try clear eg);have hEg:=hEn;clear hEn;rename Env=>eg)|((first|((with_reducible first|apply oV_intro|apply oH_intro|apply oB_intro);(simp (disch:=try exact dA) only [qcs,tb12,r1,lns37 S1,ias37 S1,S1.rd,e0,eRg,f1,f2,hEg,irN,nrA,nrM,nrE,reduceIte,reduceCtorEq,nrL];with_reducible exact rfl))|((with_reducible first|apply oblA_and|apply oblR_and|apply oblO_and);(focus exact obA))|(with_reducible first|refine W_regionF lv12 fun K hK=>?_|refine W_drawnF lv12 fun K hK=>?_));try simp only [↓pb,↓pd,qds,tb12,r1,lns37 S1,ias37 S1,S1.rd,e0,eRg,f1,f2,hEg,irN,nrA,nrM,nrE,reduceIte,reduceCtorEq,nrL])|((first|((with_reducible first|apply WO_gT|apply WO_gF|apply WD_gT|apply WD_gF);exact rfl)|(with_reducible apply W_cond));(simp only [↓pb,qbs,tb12,r1,lns37 S1,ias37 S1,S1.rd,e0,eRg,f1,f2,hEg,irN,nrA,nrM,nrE,reduceIte,reduceCtorEq,nrL];with_reducible exact rfl);all_goals (intro hc;(first|exact hcX hc|try simp only [hcs] at hc);try ((with_reducible first|apply woI|apply wdI);simp only [↓pb,↓pd,qds,tb12,r1,lns37 S1,ias37 S1,S1.rd,e0,eRg,f1,f2,hc,hEg,irN,nrA,nrM,nrE,reduceIte,reduceCtorEq,nrL])))|(with_reducible first|refine W_seq ?_|refine W_block ?_|refine W_skip ?_|refine W_ret ?_|refine W_exit ?_|apply blockK_exit)|((with_reducible apply blockK_pass);(focus decide))|fail)
   exact ⟨hi,by simp only [hEg];exact congrArg _ (inc64 (by omega)),hF1,trivial⟩
  ·have ei:i1=g.Stock.length:=by omega
   subst ei
   repeat' (first|((with_reducible refine hK _ _ fun e2 hEn=>?_);clear hK K;simp only [lv12,forallC,forallL,and_true] at hEn;(try simp only [↓pb,qbs,tb12,hEg,irN,nrA,nrM,nrE,reduceIte,reduceCtorEq,nrL] at hEn);clear hEg;(try clear eg);have hEg:=hEn;clear hEn;rename Env=>eg)|((first|((with_reducible first|apply oV_intro|apply oH_intro|apply oB_intro);(simp (disch:=try exact dA) only [qcs,tb12,lns37 S1,hEg,irN,nrA,nrM,nrE,reduceIte,reduceCtorEq,nrL];with_reducible exact rfl))|((with_reducible first|apply oblA_and|apply oblR_and|apply oblO_and);(focus exact obA))|((with_reducible apply WO_callV);(focus exact topA);(simp only [↓pb,qbs,tb12,lns37 S1,hEg,irN,nrA,nrM,nrE,reduceIte,reduceCtorEq,nrL];(exact f15 _ (by exact topA)));(intro Gq hq hJq;try simp only [upd_n,jn_n] at hq))|(with_reducible first|refine W_regionF lv12 fun K hK=>?_|refine W_drawnF lv12 fun K hK=>?_));try simp only [↓pb,↓pd,qds,tb12,lns37 S1,hEg,irN,nrA,nrM,nrE,reduceIte,reduceCtorEq,nrL])|((first|((with_reducible first|apply WO_gT|apply WO_gF|apply WD_gT|apply WD_gF);exact rfl)|(with_reducible apply W_cond));(simp only [↓pb,qbs,tb12,lns37 S1,hEg,irN,nrA,nrM,nrE,reduceIte,reduceCtorEq,nrL];with_reducible exact rfl);all_goals (intro hc;(first|exact hcX hc|try simp only [hcs] at hc);try ((with_reducible first|apply woI|apply wdI);simp only [↓pb,↓pd,qds,tb12,lns37 S1,hc,hEg,irN,nrA,nrM,nrE,reduceIte,reduceCtorEq,nrL])))|(with_reducible first|refine W_seq ?_|refine W_block ?_|refine W_skip ?_|refine W_ret ?_|refine W_exit ?_|apply blockK_exit)|((with_reducible apply blockK_pass);(focus decide))|fail)
   refine ⟨by first|exact .inl rfl|exact .inr rfl, ?_⟩
   rw [ret1 Try.results12]
   simp only [↓pb,qbs,tb12,rv_tmp,rv_cell,hEg,irN,nrA,nrM,nrE,reduceIte,reduceCtorEq,nrL]
   repeat ((with_reducible apply oV_intro);(simp (disch:=try exact dA) only [qcs,tb12,hEg,irN,nrA,nrM,nrE,reduceIte,reduceCtorEq,nrL];exact rfl))
   exact frA
 ·have eh:hedgedP g=([],0,13):=by rw [hedgedP,if_neg (by omega),if_pos (by omega)]
  rw [if_neg hr] at r8
  rw [eh] at Q5 hEg
  dsimp only at r8 Q5 hEg
  repeat' (first|((with_reducible refine hK _ _ fun e2 hEn=>?_);clear hK K;simp only [lv12,forallC,forallL,and_true] at hEn;(try simp only [↓pb,qbs,tb12,hEg,irN,nrA,nrM,nrE,reduceIte,reduceCtorEq,nrL] at hEn);clear hEg;(try clear eg);have hEg:=hEn;clear hEn;rename Env=>eg)|((first|((with_reducible first|apply oV_intro|apply oH_intro|apply oB_intro);(simp (disch:=try exact dA) only [qcs,tb12,r8,lns27 Q5,nzs,hEg,irN,nrA,nrM,nrE,reduceIte,reduceCtorEq,nrL];with_reducible exact rfl))|((with_reducible first|apply oblA_and|apply oblR_and|apply oblO_and);(focus exact obA))|((with_reducible apply WO_callV);(focus exact topA);(simp only [↓pb,qbs,tb12,r8,lns27 Q5,nzs,hEg,irN,nrA,nrM,nrE,reduceIte,reduceCtorEq,nrL];(exact f15 _ (by exact topA)));(intro Gq hq hJq;try simp only [upd_n,jn_n] at hq))|(with_reducible first|refine W_regionF lv12 fun K hK=>?_|refine W_drawnF lv12 fun K hK=>?_));try simp only [↓pb,↓pd,qds,tb12,r8,lns27 Q5,nzs,hEg,irN,nrA,nrM,nrE,reduceIte,reduceCtorEq,nrL])|((first|((with_reducible first|apply WO_gT|apply WO_gF|apply WD_gT|apply WD_gF);exact rfl)|(with_reducible apply W_cond));(simp only [↓pb,qbs,tb12,r8,lns27 Q5,nzs,hEg,irN,nrA,nrM,nrE,reduceIte,reduceCtorEq,nrL];with_reducible exact rfl);all_goals (intro hc;(first|exact hcX hc|try simp only [hcs] at hc);try ((with_reducible first|apply woI|apply wdI);simp only [↓pb,↓pd,qds,tb12,r8,lns27 Q5,nzs,hc,hEg,irN,nrA,nrM,nrE,reduceIte,reduceCtorEq,nrL])))|(with_reducible first|refine W_seq ?_|refine W_block ?_|refine W_skip ?_|refine W_ret ?_|refine W_exit ?_|apply blockK_exit)|((with_reducible apply blockK_pass);(focus decide))|fail)
  refine ⟨by first|exact .inl rfl|exact .inr rfl, ?_⟩
  rw [ret1 Try.results12]
  simp only [↓pb,qbs,tb12,rv_tmp,rv_cell,hEg,irN,nrA,nrM,nrE,reduceIte,reduceCtorEq,nrL]
  repeat ((with_reducible apply oV_intro);(simp (disch:=try exact dA) only [qcs,tb12,hEg,irN,nrA,nrM,nrE,reduceIte,reduceCtorEq,nrL];exact rfl))
  exact frA
end Go.Proofs.Swa
set_option maxRecDepth 20000
set_option linter.unusedVariables false
set_option linter.unusedSimpArgs false
namespace Go.Proofs.Swa
open Go
open Nat renaming reduceAdd → nrA, reduceMul → nrM, reduceEqDiff → nrE, reduceLT → nrL
open Int renaming reduceToNat → irN
theorem SR.castZ {H:AHeap} {s m k:Nat} {v:Value} {c:List Value} (h:SR H s m v c) (e:m=k):SR H s k v c:=e ▸ h
end Go.Proofs.Swa
namespace Go.Proofs.Ytloabbaheifkgaa
open Go.ChangeShapes Go.WideShapes Go.ChangeAt Go.RowKit
open Go.Proofs.Swa (SR ints iv Top Fr RoB RoOk)
theorem cells3:Try.prog.cellsOf 3=1:=by kernel_rfl
theorem own5:ownKnob Try.prog.godebug=none:=by kernel_rfl
section
variable {H:Type} {enc:TypeId×Value→H} {P:Program}
theorem post_of_below {f:Func} {s:ChangeSpec} {apart fresh handsOn again:Bool} {W W':World} {args:Array Value} {v:Value} {ds gs:List (DataW H)} {before pa pv:List MemPlace}
  (hW:DataW.Whole enc P f.params.toList s.vars apart W args.toList ds gs before)
  (hres:∀ (b:Nat) (sp:Nat→Bool) (hd:Bool),DataW.TrodAll enc P W' b sp hd f.resultTypes.toList (v.resultList f.resultTypes.size) (s.fn H (ds ++ gs)).results [])
  (hargs:∀ sp:Nat→Bool,(∀ p∈before,sp p.block=true)→DataW.TrodAll enc P W' 0 sp true f.params.toList args.toList (s.fn H (ds ++ gs)).args pa)
  (hvars:∀ sp:Nat→Bool,(∀ p∈before,sp p.block=true)→DataW.TrodVars enc P W' sp s.vars (s.fn H (ds ++ gs)).vars pv)
  (hps:before=pa ++ pv) (hb:Below W.heap.size W W')
  (hok:∀ (j:Nat) (t:TypeId) (r:Value),f.resultTypes[j]? = some t→(v.resultList f.resultTypes.size)[j]? = some r→Value.okWide P W' .any 0 t r) :
  s.post enc P f apart fresh handsOn again W args v W':=by
 have hlt:∀ p∈before,p.block < W.heap.size:=fun p hp=>hW.lt p hp
 have hold:∀ p∈before,(fun b=>decide (b < W.heap.size)) p.block=true:=fun p hp=>by simpa using hlt p hp
 refine ⟨ds,gs,before,[],pa,pv,hW,hres _ _ _,hargs _ hold,hvars _ hold,World.keptBut_mono (fun p hp=>⟨hp, ?_⟩) (hb.frame (·∈before)),fun _=>?_⟩
 ·rw [hps,List.mem_append] at hp
  exact Or.inr hp
 ·obtain ⟨_,_,_,_,_,hz,hn⟩:=hW
  refine ⟨hok,_,_,([] ++ pa) ++ pv,⟨[] ++ pa,pv,trodAll_append (hargs _ (fun _ _=>rfl)) (hres _ _ _),hvars _ (fun _ _=>rfl),rfl, ?_, ?_⟩, ?_⟩
  ·intro b off hp
   have hin:MemPlace.cell b off∈before:=by rw [hps];simpa using hp
   rw [hb.frozen (hlt _ hin)]
   exact hz b off hin
  ·intro ha
   have:=hn ha
   rw [hps] at this
   simpa using this
  ·intro p hp _
   rw [hps]
   simpa using hp
end
def LawInts (f:FuncId):Prop:=∀ (vl:Value) (l:List Int) (H:Swa.AHeap),Top H→SR H 1 l.length vl (ints l)→l.length≤9223372036854775807→∃ v H',Swa.Cl Try.prog (Swa.OrC Try.prog) 0 (.fn f) #[vl] H v H'∧v=.bool true∧Fr H.n [] H H'
theorem ints_call {f:FuncId} (hf:LawInts f) {H:Type} {enc:TypeId×Value→H} {W:World} {v0:Value} {d0:DataW H} {p0:List MemPlace} {base0:Nat} (hv:Value.okWide Try.prog W .any base0 27 v0) (h0:DataW.Trod enc Try.prog W 0 (fun _=>true) true 27 v0 d0 p0) :
  Calls Try.prog f #[v0] W fun e W'=>e=.returned (.bool true)∧Below W.heap.size W W':=by
 have hmix:Try.prog.follows .mixedOrders=true:=by kernel_rfl
 obtain ⟨a0,len,cap,rfl⟩:=okWide_slice Try.underlying27 hv
 obtain ⟨fuel,hf0⟩:=h0
 rcases open_ints Try.underlying27 Try.underlying3 cells3 hf0 with ⟨hcs,hx⟩|⟨a,len',cap',zs,hcs,_,hl,hm,hz,hx,hcell,hwz⟩
 ·simp [Value.cells] at hcs
  obtain ⟨rfl,rfl,rfl⟩:=hcs
  refine Swa.law_callsC hmix (L:=[]) (by simp) (Swa.ARel.one (.flat rfl)) ?_
  exact hf _ [] _ (Swa.top_heapOf _) (Swa.GS.nul (s:=1)).sr (by simp)
 ·simp [Value.cells] at hcs
  obtain ⟨rfl,rfl,rfl⟩:=hcs
  simp only [if_true] at hz
  unfold maxLen at hm
  by_cases hc:cap=0
  ·subst hc
   have hl0:len=0:=by omega
   subst hl0
   refine Swa.law_callsC hmix (L:=[]) (by simp) (args:=#[.slice (some ⟨0,1,none⟩) 0 0]) (Swa.ARel.one (.empty (by omega))) ?_
   exact hf _ [] _ (Swa.top_heapOf _) ⟨.inr ⟨_,_,_,rfl,Nat.le_refl _⟩,rfl,.inl rfl,.inl rfl⟩ (by simp)
  ·have hlen:(ints zs).length=zs.length:=Swa.ints_len zs
   have hr:=Swa.roOk_of (w:=W) (a:=a) (cs:=ints zs) (T:=3) (by omega) (fun i hi=>by
    rw [hcell i (by omega)]
    have:(ints zs)[i]=iv (zs.getD i 0):=by
     have hi2:i < zs.length:=by omega
     simp [ints,hi2]
    rw [this]
    exact ⟨rfl,rfl⟩)
   obtain ⟨b,off,spot⟩:=a
   obtain ⟨hr,hsp⟩:=hr
   dsimp only at hsp
   subst hsp
   refine Swa.law_callsC hmix (L:=[⟨b,off,ints zs,3⟩]) (by intro r hrm;rw [List.mem_singleton.1 hrm];exact hr) (args:=#[.slice (some ⟨0,0,none⟩) len cap]) (Swa.ARel.one ?_) ?_
   ·have:=Swa.VRel.slice (ρ:=Swa.renOf W [⟨b,off,ints zs,3⟩]) (b:=0) (o:=0) (n:=len) (c:=cap) (c':=cap) (im:=⟨b,off,Swa.szOf W b,true,false,0,0⟩) rfl (.inr ⟨rfl,rfl⟩) hl
    exact this
   ·have hlt:(zs.take len).length=len:=by rw [List.length_take];omega
    have S:SR (Swa.heapOf [⟨b,off,ints zs,3⟩]) 1 len (.slice (some ⟨0,0,none⟩) len cap) (ints (zs.take len)):=by
     refine ⟨.inr ⟨_,_,_,rfl,hl⟩, ?_,.inr ⟨ints zs,rfl, ?_, ?_⟩,.inr (Nat.lt_succ_self _)⟩
     ·rw [Swa.ints_len,hlt,Nat.mul_one]
     ·show 0 + _≤_
      rw [hlen];omega
     ·show ((ints zs).drop 0).take _=_
      rw [List.drop_zero,Nat.mul_one]
      unfold ints
      rw [← List.map_take]
    exact hf _ (zs.take len) _ (Swa.top_heapOf _) (S.castZ hlt.symm) (by omega)
end Go.Proofs.Ytloabbaheifkgaa
set_option maxRecDepth 20000
set_option linter.unusedVariables false
set_option linter.unusedSimpArgs false
namespace Go.Proofs.Ytloabbaheifkgaa
open Go Go.ChangeShapes Go.WideShapes Go.ChangeAt Go.RowKit
open Go.Proofs.Swa (SR ints iv Top Fr RoB RoOk)
theorem law12:LawInts 12:=fun vl l H hT S hl=>Swa.f12 vl l H hT S hl
set_option maxRecDepth 100000 in
theorem payHedged_lifted (os:Os) (started:os.Started) (H:Type) (enc:TypeId×Value→H) :
  ReturnsInHanded {} Try.checked os 12 .any (Rows.payHedgedSpec.pre6 enc Try.prog Try.f12 Rows.payHedgedRow.domain false) (Rows.payHedgedSpec.post enc Try.prog Try.f12 false true false false):=by
 refine returnsInHanded_of_change (C:=Try.checked) own5 started (by kernel_rfl) Try.func12
  (ChangeSpec.witness6 (enc:=enc) (C:=Try.checked) false ⟨#[],#[.slice none 0 0],[]⟩ 8 (by kernel_rfl) (by kernel_rfl) (by kernel_rfl) (by kernel_rfl)) ?_
 intro W base args ds gs before hval0 hW hcnd _
 have hval:∀ (j:Nat) t v,Try.f12.params[j]? = some t→args[j]? = some v→Value.okWide Try.prog W .any base t v:=hval0
 have hW':=hW
 have hlt:=hW.lt
 obtain ⟨p,q,hA0,hV,rfl,hfz,hnd⟩:=hW
 have hA:DataW.TrodAll enc Try.prog W 0 (fun _=>true) true Try.f12.params.toList args.toList ds p:=hA0
 rw [Try.params12] at hA hval
 obtain ⟨v0,vs0,d0,ds0,p0,q0,hargs,rfl,rfl,h0,r0⟩:=trodAll_cons hA
 obtain ⟨rfl,rfl,rfl⟩:=trodAll_nil r0
 obtain rfl:args = #[v0]:=by cases args;simp_all
 obtain ⟨rfl,rfl⟩:=trodVars_none hV
 clear hA0 hval0
 simp only [List.append_nil] at hW' hlt
 refine (ints_call law12 (hval 0 27 v0 rfl rfl) h0).mono fun e W' ⟨he,hb⟩=>?_
 subst he
 have again:∀ sp:Nat→Bool,(∀ x∈p0,sp x.block=true)→DataW.Trod enc Try.prog W' 0 sp true 27 v0 d0 p0:=fun sp hsp =>
  WideElems.Trod_stays (by kernel_rfl) (by kernel_rfl) (of_decide_eq_true (by kernel_rfl)) h0 (fun x hx=>hb.same (hlt x hx)) hsp
 exact ⟨_,rfl,post_of_below (pa:=p0) (pv:=[]) hW' (fun _ _ _=>(trodAll_cons_mk (shut_bool Try.underlying4 _) trodAll_mk0)) (fun sp hsp=>trodAll_mk1 (again sp hsp)) (fun _ _=>rfl) (by simp) hb (ok_one (by kernel_rfl) rfl (okWide_bool_mk Try.underlying4 _))⟩
theorem payHedged_holds:Rows.PayHedgedSaid :=
 OpenClaim.holds_of_wide 12 Try.f12 rfl rfl rfl rfl rfl rfl rfl ⟨rfl,rfl,rfl,rfl,rfl⟩ rfl rfl rfl rfl rfl (by kernel_rfl) Try.func12 (by kernel_rfl)
  (of_decide_eq_true (by kernel_rfl)) (by unfold Func.isWrapper;first|(rw [if_pos (by decide +kernel)];kernel_rfl)|(rw [if_neg (by decide +kernel)];exact ⟨rfl,rfl⟩))
  (fun os started H enc _=>payHedged_lifted os started H enc)
end Go.Proofs.Ytloabbaheifkgaa
