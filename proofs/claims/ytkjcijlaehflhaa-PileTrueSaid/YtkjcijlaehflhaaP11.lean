/- Part 11 of a proof. -/
import Derived.Test.YtkjcijlaehflhaaP10
set_option maxRecDepth 20000
set_option linter.unusedVariables false
set_option linter.unusedSimpArgs false
namespace Go.Proofs.Swa
open Go
open Nat renaming reduceAdd → nrA, reduceMul → nrM, reduceEqDiff → nrE, reduceLT → nrL
open Int renaming reduceToNat → irN
attribute [local congr] WO_congr oV_congr oB_congr oH_congr WD_congr oblO_congr oblA_congr oblR_congr
theorem bd131 {a b:Int}:buildA Try.prog 131 [(0,iv a),(1,iv b)]=some (k2 a b):=build_k2 und131 zr131 sz3 a b
theorem und128:Try.prog.underlying 128=some (.map 131 3):=by kernel_rfl
theorem mu128 {H:AHeap} {r:Nat} {l:List Ent2} {a b d:Int} (hg:H.get r=.map (entK l)) (hn:findE a b l 0=none):mapUpdateA Try.prog 128 (.map (some r)) (k2 a b) (iv d) H=some (H.upd H.n r (.map (entK (l ++ [((a,b),d)])))) :=
 mapUpdate_k2 und128 und131 sz3 ag3 und3 hg hn
theorem f77 (va vb vc:Value) (g:Gnd) (H:AHeap) (hT:Top H) (hG:RG H va vb vc g) (hk:g.Spots.length=0∨SK H 3 va) (hn:g.Spots.length≤1000) :
  ∃ v H',C5 (.fn 77) #[.agg ⟨[va,vb,vc]⟩] H v H'∧(∃ r,v=.map (some r)∧H'.get r=.map (entK (nearAll g g.Spots.length))∧H.n≤r∧r < H'.n)∧Fr H.n [] H H':=by
 have l1:=hG.p.lt
 refine Cl.ofW Try.func77 rfl (by kernel_rfl) (by rw [Try.ntmps77];exact Nat.le_of_ble_eq_true rfl) (by kernel_rfl) ?_
 have hEg:True:=trivial
 refine gcW [0] ?_
 intro eg hEn
 simp only [forallC,forallL,and_true] at hEn
 try simp only [↓pb,qbs,tb77,hG.one,lns22 hG.p,bd131,Option.map_none,Option.map_some,hEg,irN,nrA,nrM,nrE,reduceIte,reduceCtorEq,nrL] at hEn
 replace hEg:=hEn;clear hEn
 repeat' (first|((with_reducible refine hK _ _ fun e2 hEn=>?_);clear hK K;simp only [lv77,forallC,forallL,and_true] at hEn;(try simp only [↓pb,qbs,tb77,hG.one,lns22 hG.p,bd131,Option.map_none,Option.map_some,hEg,irN,nrA,nrM,nrE,reduceIte,reduceCtorEq,nrL] at hEn);clear hEg;(try clear eg);have hEg:=hEn;clear hEn;rename Env=>eg)|((first|((with_reducible first|apply oV_intro|apply oH_intro|apply oB_intro);(simp (disch:=first|exact dA|fail) only [qcs,tb77,hG.one,lns22 hG.p,bd131,Option.map_none,Option.map_some,hEg,irN,nrA,nrM,nrE,reduceIte,reduceCtorEq,nrL];with_reducible exact rfl))|(with_reducible first|refine W_regionF lv77 fun K hK=>?_));try simp only [↓pb,↓pd,qds,tb77,hG.one,lns22 hG.p,bd131,Option.map_none,Option.map_some,hEg,irN,nrA,nrM,nrE,reduceIte,reduceCtorEq,nrL])|((with_reducible apply W_cond);(simp only [↓pb,qbs,tb77,hG.one,lns22 hG.p,bd131,Option.map_none,Option.map_some,hEg,irN,nrA,nrM,nrE,reduceIte,reduceCtorEq,nrL];with_reducible exact rfl);all_goals (intro hc;(first|exact hcX hc|try simp only [hcs] at hc)))|(with_reducible first|refine W_seq ?_|refine W_block ?_|refine W_skip ?_|refine W_ret ?_|refine W_exit ?_|apply blockK_exit)|((with_reducible apply blockK_pass);(focus decide))|fail)
 refine W_count [1,3,10,11] (by kernel_rfl) 12 (g.Spots.length) (H.n) [H.n + 1] [] (fun i e h=>h.get (H.n + 1)=.map (entK (nearAll g i))) (by simp only [↓pb,qbs,tb77,hG.one,lns22 hG.p,bd131,Option.map_none,Option.map_some,hEg,irN,nrA,nrM,nrE,reduceIte,reduceCtorEq,nrL]) (by focus exact topA) (H0:=H) (by focus exact frA) (by intro b hb hlt;simp at hb ⊢;try omega) ?_ ?_
 rotate_left
 intro i1 e1 h1 hi1 hE1 ei1 hF1 hF01 hTh1 hJ1
 simp only [forallC,forallL,and_true] at hE1
 try simp only [↓pb,qbs,tb77,hG.one,lns22 hG.p,bd131,Option.map_none,Option.map_some,hEg,irN,nrA,nrM,nrE,reduceIte,reduceCtorEq,nrL] at hE1
 have hn11:=hF1.n;have hn01:=hF01.n;try simp only [upd_n,jn_n] at hn11
 replace hEg:=And.intro ei1 hE1
 rotate_left
 ·simp (disch:=first|exact dA|fail) only [qcs,tb77,hG.one,lns22 hG.p,bd131,Option.map_none,Option.map_some,hEg,irN,nrA,nrM,nrE,reduceIte,reduceCtorEq,nrL]
  rfl
 have G1:=hG.fr (N:=H.n) (Fr.trans (by exact frA) hF01)
 have r0:h1.rd H.n=some [va,vb,vc]:=by
  rw [hF1.rd (b:=H.n) (by simp only [↓pb,qbs,tb77,hG.one,lns22 hG.p,bd131,Option.map_none,Option.map_some,hEg,irN,nrA,nrM,nrE,reduceIte,reduceCtorEq,nrL];omega) nxA]
  simp (disch:=first|exact dA|fail) only [qcs,tb77,hG.one,lns22 hG.p,bd131,Option.map_none,Option.map_some,hEg,irN,nrA,nrM,nrE,reduceIte,reduceCtorEq,nrL]
 by_cases hi2:i1 < g.Spots.length
 ·have l2:=G1.p.lt
  have l1':vblk va < H.n:=by omega
  have K1:SK h1 3 va:=by
   rcases hk with q|q
   ·omega
   ·exact q.fr hF01 l1' (by simp)
  have U:∀ (N b:Nat) (o:AObj),vblk va≠b→h1.n≤N→SK (h1.upd N b o) 3 va:=fun N b o q hN=>by
   obtain ⟨d,T,k,g1,g2⟩:=K1
   exact ⟨d,T,k,(upd_get_ne q).trans g1,g2⟩
  have V:∀ (N b:Nat) (o:AObj),vblk va≠b→h1.n≤N→SR (h1.upd N b o) 3 g.Spots.length va (g.Spots.flatMap eSpo):=fun N b o q hN=>by
   obtain ⟨a1,a2,a3,a4⟩:=G1.p
   refine ⟨a1,a2, ?_, ?_⟩
   ·rcases a3 with a3|⟨d,b1,b2⟩
    ·exact .inl a3
    ·refine .inr ⟨d, ?_,b2⟩
     rw [rd_def,upd_get_ne q,← rd_def];exact b1
   ·rcases a4 with a4|a4
    ·exact .inl a4
    ·exact .inr (Nat.lt_of_lt_of_le a4 hN)
  have hsl:∀ (N b:Nat) (o:AObj),vblk va≠b→h1.n≤N→sliceA Try.prog (h1.upd N b o) 22 va none (some (iv i1)) none=some (sl va i1):=fun N b o q hN=>(slice_pre und22 sz78 (V N b o q hN) (U N b o q hN) hi1 (by omega)).1
  have S2:=(slice_pre (q:=.i64) und22 sz78 G1.p K1 hi1 (by omega)).2
  rw [flat_take eSpo_len] at S2
  have hb2:vblk (sl va i1)=vblk va:=sl_blk hG.p (by omega)
  have ll2:(g.Spots.take i1).length=i1:=by rw [List.length_take];omega
  repeat' (first|((with_reducible refine hK _ _ fun e2 hEn=>?_);clear hK K;simp only [lv77,forallC,forallL,and_true] at hEn;(try simp only [↓pb,qbs,tb77,hG.one,lns22 hG.p,bd131,Option.map_none,Option.map_some,hEg,irN,nrA,nrM,nrE,reduceIte,reduceCtorEq,nrL] at hEn);clear hEg;(try clear eg);have hEg:=hEn;clear hEn;rename Env=>eg)|((first|((with_reducible first|apply oV_intro|apply oH_intro|apply oB_intro);(simp (disch:=first|exact dA|fail) only [qcs,tb77,hG.one,lns22 hG.p,bd131,Option.map_none,Option.map_some,r0,ias22 G1.p,G1.p.rd,(G1.p.el eSpo_len rfl),eSpo,hsl,lns22 S2,hEg,irN,nrA,nrM,nrE,reduceIte,reduceCtorEq,nrL];with_reducible exact rfl))|(with_reducible first|refine W_regionF lv77 fun K hK=>?_));try simp only [↓pb,↓pd,qds,tb77,hG.one,lns22 hG.p,bd131,Option.map_none,Option.map_some,r0,ias22 G1.p,G1.p.rd,(G1.p.el eSpo_len rfl),eSpo,hsl,lns22 S2,hEg,irN,nrA,nrM,nrE,reduceIte,reduceCtorEq,nrL])|((with_reducible apply W_cond);(simp only [↓pb,qbs,tb77,hG.one,lns22 hG.p,bd131,Option.map_none,Option.map_some,r0,ias22 G1.p,G1.p.rd,(G1.p.el eSpo_len rfl),eSpo,hsl,lns22 S2,hEg,irN,nrA,nrM,nrE,reduceIte,reduceCtorEq,nrL];with_reducible exact rfl);all_goals (intro hc;(first|exact hcX hc|try simp only [hcs] at hc)))|(with_reducible first|refine W_seq ?_|refine W_block ?_|refine W_skip ?_|refine W_ret ?_|refine W_exit ?_|apply blockK_exit)|((with_reducible apply blockK_pass);(focus decide))|fail)
  refine W_count [1,3,4,5,10,11,12,20,21] (by kernel_rfl) 22 (i1) (H.n) [H.n + 1] [] (fun i e h=>h.get (H.n + 1)=.map (entK (nearAll g i1 ++ nearRow g i1 i))) (by simp only [↓pb,qbs,tb77,hG.one,lns22 hG.p,bd131,Option.map_none,Option.map_some,hEg,irN,nrA,nrM,nrE,reduceIte,reduceCtorEq,nrL]) (by focus exact topA) (H0:=H) (by focus exact frA) (by intro b hb hlt;simp at hb ⊢;try omega) ?_ ?_
  rotate_left
  intro i2 e2 h2 hi2 hE2 ei2 hF2 hF02 hTh2 hJ2
  simp only [forallC,forallL,and_true] at hE2
  try simp only [↓pb,qbs,tb77,hG.one,lns22 hG.p,bd131,Option.map_none,Option.map_some,hEg,irN,nrA,nrM,nrE,reduceIte,reduceCtorEq,nrL] at hE2
  have hn12:=hF2.n;have hn02:=hF02.n;try simp only [upd_n,jn_n] at hn12
  replace hEg:=And.intro ei2 hE2
  rotate_left
  ·simp (disch:=first|exact dA|fail) only [qcs,tb77,hG.one,lns22 hG.p,bd131,Option.map_none,Option.map_some,hEg,irN,nrA,nrM,nrE,reduceIte,reduceCtorEq,nrL]
   rw [hJ1,nearRow,List.append_nil]
  have r02:h2.rd H.n=some [va,vb,vc]:=by
   rw [hF2.rd (b:=H.n) (by simp only [↓pb,qbs,tb77,hG.one,lns22 hG.p,bd131,Option.map_none,Option.map_some,hEg,irN,nrA,nrM,nrE,reduceIte,reduceCtorEq,nrL];omega) nxA]
   simp (disch:=first|exact dA|fail) only [qcs,tb77,hG.one,lns22 hG.p,bd131,Option.map_none,Option.map_some,hEg,irN,nrA,nrM,nrE,reduceIte,reduceCtorEq,nrL]
   exact r0
  have hF12:Fr H.n [H.n + 1] ((H.upd (H.n + 1) H.n (.cells [va,vb,vc] 26 .ex)).upd (H.n + 2) (H.n + 1) (.map [])) h2 :=
   Fr.trans (B:=h1.upd (h1.n + 1) h1.n (.cells [iv (g.Spots.getD i1 default).X,iv (g.Spots.getD i1 default).Y,iv (g.Spots.getD i1 default).Area] 78 .ex)) (by exact frA) hF2
  have r05:h2.rd h1.n=some [iv (g.Spots.getD i1 default).X,iv (g.Spots.getD i1 default).Y,iv (g.Spots.getD i1 default).Area]:=by
   rw [hF2.rd (b:=h1.n) (by simp only [↓pb,qbs,tb77,hG.one,lns22 hG.p,bd131,Option.map_none,Option.map_some,hEg,irN,nrA,nrM,nrE,reduceIte,reduceCtorEq,nrL];omega) nxA]
   simp (disch:=first|exact dA|fail) only [qcs,tb77,hG.one,lns22 hG.p,bd131,Option.map_none,Option.map_some,hEg,irN,nrA,nrM,nrE,reduceIte,reduceCtorEq,nrL]
  have S3:SR h2 3 i1 (sl va i1) ((g.Spots.take i1).flatMap eSpo):=(S2.fr0 (N:=h1.n) (B:=h1.upd (h1.n + 1) h1.n (.cells [iv (g.Spots.getD i1 default).X,iv (g.Spots.getD i1 default).Y,iv (g.Spots.getD i1 default).Area] 78 .ex)) (by exact frA)).fr hF2 (by
   by_cases q:i1=0
   ·exact .inl q
   ·right;rw [hb2];simp;omega)
  by_cases hj2:i2 < i1
  ·have l3:vblk (sl va i1) < H.n:=by omega
   have e3:=getD_take (l:=g.Spots) hj2
   repeat' (first|((with_reducible refine hK _ _ fun e2 hEn=>?_);clear hK K;simp only [lv77,forallC,forallL,and_true] at hEn;(try simp only [↓pb,qbs,tb77,hG.one,lns22 hG.p,bd131,Option.map_none,Option.map_some,hEg,irN,nrA,nrM,nrE,reduceIte,reduceCtorEq,nrL] at hEn);clear hEg;(try clear eg);have hEg:=hEn;clear hEn;rename Env=>eg)|((first|((with_reducible first|apply oV_intro|apply oH_intro|apply oB_intro);(simp (disch:=first|exact dA|fail) only [qcs,tb77,hG.one,lns22 hG.p,bd131,Option.map_none,Option.map_some,r02,r05,ias22 S3,S3.rd,(S3.el eSpo_len ll2.symm),eSpo,e3,hEg,irN,nrA,nrM,nrE,reduceIte,reduceCtorEq,nrL];with_reducible exact rfl))|(with_reducible first|refine W_regionF lv77 fun K hK=>?_));try simp only [↓pb,↓pd,qds,tb77,hG.one,lns22 hG.p,bd131,Option.map_none,Option.map_some,r02,r05,ias22 S3,S3.rd,(S3.el eSpo_len ll2.symm),eSpo,e3,hEg,irN,nrA,nrM,nrE,reduceIte,reduceCtorEq,nrL])|((with_reducible apply W_cond);(simp only [↓pb,qbs,tb77,hG.one,lns22 hG.p,bd131,Option.map_none,Option.map_some,r02,r05,ias22 S3,S3.rd,(S3.el eSpo_len ll2.symm),eSpo,e3,hEg,irN,nrA,nrM,nrE,reduceIte,reduceCtorEq,nrL];with_reducible exact rfl);all_goals (intro hc;(first|exact hcX hc|try simp only [hcs] at hc)))|(with_reducible first|refine W_seq ?_|refine W_block ?_|refine W_skip ?_|refine W_ret ?_|refine W_exit ?_|apply blockK_exit)|((with_reducible apply blockK_pass);(focus decide))|fail)
   refine oH_intro (mu128 (l:=nearAll g i1 ++ nearRow g i1 i2) (by simp (disch:=first|exact dA|fail) only [qcs,tb77,hG.one,lns22 hG.p,bd131,Option.map_none,Option.map_some,hEg,irN,nrA,nrM,nrE,reduceIte,reduceCtorEq,nrL];exact hJ2) near_new) ?_
   simp only [↓pb,↓pd,qds,tb77,hG.one,lns22 hG.p,bd131,Option.map_none,Option.map_some,hEg,irN,nrA,nrM,nrE,reduceIte,reduceCtorEq,nrL]
   repeat' (first|((with_reducible refine hK _ _ fun e2 hEn=>?_);clear hK K;simp only [lv77,forallC,forallL,and_true] at hEn;(try simp only [↓pb,qbs,tb77,hG.one,lns22 hG.p,bd131,Option.map_none,Option.map_some,hEg,irN,nrA,nrM,nrE,reduceIte,reduceCtorEq,nrL] at hEn);clear hEg;(try clear eg);have hEg:=hEn;clear hEn;rename Env=>eg)|((first|((with_reducible first|apply oV_intro|apply oH_intro|apply oB_intro);(simp (disch:=first|exact dA|fail) only [qcs,tb77,hG.one,lns22 hG.p,bd131,Option.map_none,Option.map_some,hEg,irN,nrA,nrM,nrE,reduceIte,reduceCtorEq,nrL];with_reducible exact rfl))|(with_reducible first|refine W_regionF lv77 fun K hK=>?_));try simp only [↓pb,↓pd,qds,tb77,hG.one,lns22 hG.p,bd131,Option.map_none,Option.map_some,hEg,irN,nrA,nrM,nrE,reduceIte,reduceCtorEq,nrL])|((with_reducible apply W_cond);(simp only [↓pb,qbs,tb77,hG.one,lns22 hG.p,bd131,Option.map_none,Option.map_some,hEg,irN,nrA,nrM,nrE,reduceIte,reduceCtorEq,nrL];with_reducible exact rfl);all_goals (intro hc;(first|exact hcX hc|try simp only [hcs] at hc)))|(with_reducible first|refine W_seq ?_|refine W_block ?_|refine W_skip ?_|refine W_ret ?_|refine W_exit ?_|apply blockK_exit)|((with_reducible apply blockK_pass);(focus decide))|fail)
   refine ⟨by omega,by simp only [↓pb,qbs,tb77,hG.one,lns22 hG.p,bd131,Option.map_none,Option.map_some,hEg,irN,nrA,nrM,nrE,reduceIte,reduceCtorEq,nrL];exact congrArg _ (inc64 (by omega)),by focus exact frA, ?_⟩
   simp (disch:=first|exact dA|fail) only [qcs,tb77,hG.one,lns22 hG.p,bd131,Option.map_none,Option.map_some,hEg,irN,nrA,nrM,nrE,reduceIte,reduceCtorEq,nrL]
   rw [nearRow,List.append_assoc]
   rfl
  ·have e2n:i2=i1:=by omega
   subst e2n
   repeat' (first|((with_reducible refine hK _ _ fun e2 hEn=>?_);clear hK K;simp only [lv77,forallC,forallL,and_true] at hEn;(try simp only [↓pb,qbs,tb77,hG.one,lns22 hG.p,bd131,Option.map_none,Option.map_some,hEg,irN,nrA,nrM,nrE,reduceIte,reduceCtorEq,nrL] at hEn);clear hEg;(try clear eg);have hEg:=hEn;clear hEn;rename Env=>eg)|((first|((with_reducible first|apply oV_intro|apply oH_intro|apply oB_intro);(simp (disch:=first|exact dA|fail) only [qcs,tb77,hG.one,lns22 hG.p,bd131,Option.map_none,Option.map_some,hEg,irN,nrA,nrM,nrE,reduceIte,reduceCtorEq,nrL];with_reducible exact rfl))|(with_reducible first|refine W_regionF lv77 fun K hK=>?_));try simp only [↓pb,↓pd,qds,tb77,hG.one,lns22 hG.p,bd131,Option.map_none,Option.map_some,hEg,irN,nrA,nrM,nrE,reduceIte,reduceCtorEq,nrL])|((with_reducible apply W_cond);(simp only [↓pb,qbs,tb77,hG.one,lns22 hG.p,bd131,Option.map_none,Option.map_some,hEg,irN,nrA,nrM,nrE,reduceIte,reduceCtorEq,nrL];with_reducible exact rfl);all_goals (intro hc;(first|exact hcX hc|try simp only [hcs] at hc)))|(with_reducible first|refine W_seq ?_|refine W_block ?_|refine W_skip ?_|refine W_ret ?_|refine W_exit ?_|apply blockK_exit)|((with_reducible apply blockK_pass);(focus decide))|fail)
   refine ⟨by omega,by simp only [↓pb,qbs,tb77,hG.one,lns22 hG.p,bd131,Option.map_none,Option.map_some,hEg,irN,nrA,nrM,nrE,reduceIte,reduceCtorEq,nrL];exact congrArg _ (inc64 (by omega)),by focus exact frA, ?_⟩
   exact hJ2
 ·have e1n:i1=g.Spots.length:=by omega
  repeat' (first|((with_reducible refine hK _ _ fun e2 hEn=>?_);clear hK K;simp only [lv77,forallC,forallL,and_true] at hEn;(try simp only [↓pb,qbs,tb77,hG.one,lns22 hG.p,bd131,Option.map_none,Option.map_some,hEg,irN,nrA,nrM,nrE,reduceIte,reduceCtorEq,nrL] at hEn);clear hEg;(try clear eg);have hEg:=hEn;clear hEn;rename Env=>eg)|((first|((with_reducible first|apply oV_intro|apply oH_intro|apply oB_intro);(simp (disch:=first|exact dA|fail) only [qcs,tb77,hG.one,lns22 hG.p,bd131,Option.map_none,Option.map_some,hEg,irN,nrA,nrM,nrE,reduceIte,reduceCtorEq,nrL];with_reducible exact rfl))|(with_reducible first|refine W_regionF lv77 fun K hK=>?_));try simp only [↓pb,↓pd,qds,tb77,hG.one,lns22 hG.p,bd131,Option.map_none,Option.map_some,hEg,irN,nrA,nrM,nrE,reduceIte,reduceCtorEq,nrL])|((with_reducible apply W_cond);(simp only [↓pb,qbs,tb77,hG.one,lns22 hG.p,bd131,Option.map_none,Option.map_some,hEg,irN,nrA,nrM,nrE,reduceIte,reduceCtorEq,nrL];with_reducible exact rfl);all_goals (intro hc;(first|exact hcX hc|try simp only [hcs] at hc)))|(with_reducible first|refine W_seq ?_|refine W_block ?_|refine W_skip ?_|refine W_ret ?_|refine W_exit ?_|apply blockK_exit)|((with_reducible apply blockK_pass);(focus decide))|fail)
  refine ⟨by first|exact .inl rfl|exact .inr rfl, ?_⟩
  rw [ret1 Try.results77]
  simp only [↓pb,qbs,tb77,hG.one,lns22 hG.p,bd131,Option.map_none,Option.map_some,rv_tmp,rv_cell,hEg,irN,nrA,nrM,nrE,reduceIte,reduceCtorEq,nrL]
  repeat ((with_reducible apply oV_intro);(simp (disch:=first|exact dA|fail) only [qcs,tb77,hG.one,lns22 hG.p,bd131,Option.map_none,Option.map_some,hEg,irN,nrA,nrM,nrE,reduceIte,reduceCtorEq,nrL];exact rfl))
  refine ⟨⟨H.n + 1,by first|rfl|simp [*],by rw [← e1n];exact hJ1,by omega,by omega⟩,(by exact frA)⟩
theorem f48 (va vb vc:Value) (g:Gnd) (a b:Nat) (s t:Int) (H:AHeap) (hT:Top H) (hG:RG H va vb vc g) (ha:a < g.Spots.length) (hb:b < g.Spots.length) (hs:0≤s∧s < g.Sorts.length) (ht:0≤t∧t < g.Sorts.length) :
  ∃ v H',C5 (.fn 48) #[.agg ⟨[va,vb,vc]⟩,iv a,iv b,iv s,iv t] H v H'∧v=.bool (nearS g a b s t)∧Fr H.n [] H H':=by
 have l1:=hG.p.lt;have l2:=hG.q.lt
 refine Cl.ofW Try.func48 rfl (by kernel_rfl) (by rw [Try.ntmps48];exact Nat.le_of_ble_eq_true rfl) (by kernel_rfl) ?_
 have hEg:True:=trivial
 refine gcW [0,1,2,3,4] ?_
 intro eg hEn
 simp only [forallC,forallL,and_true] at hEn
 try simp only [↓pb,qbs,tb48,hG.one,lns22 hG.p,lns23 hG.q,ias22 hG.p,ias23 hG.q,(hG.p.el eSpo_len rfl),(hG.q.el eSrt_len rfl),eSpo,eSrt,hG.p.rd,hG.q.rd,hEg,irN,nrA,nrM,nrE,reduceIte,reduceCtorEq,nrL] at hEn
 replace hEg:=hEn;clear hEn
 repeat' (first|((with_reducible refine hK _ _ fun e2 hEn=>?_);clear hK K;simp only [lv48,forallC,forallL,and_true] at hEn;(try simp only [↓pb,qbs,tb48,hG.one,lns22 hG.p,lns23 hG.q,ias22 hG.p,ias23 hG.q,(hG.p.el eSpo_len rfl),(hG.q.el eSrt_len rfl),eSpo,eSrt,hG.p.rd,hG.q.rd,hEg,irN,nrA,nrM,nrE,reduceIte,reduceCtorEq,nrL] at hEn);clear hEg;(try clear eg);have hEg:=hEn;clear hEn;rename Env=>eg)|((first|((with_reducible first|apply oV_intro|apply oH_intro|apply oB_intro);(simp (disch:=first|exact dA|fail) only [qcs,tb48,hG.one,lns22 hG.p,lns23 hG.q,ias22 hG.p,ias23 hG.q,(hG.p.el eSpo_len rfl),(hG.q.el eSrt_len rfl),eSpo,eSrt,hG.p.rd,hG.q.rd,hEg,irN,nrA,nrM,nrE,reduceIte,reduceCtorEq,nrL];with_reducible exact rfl))|((with_reducible first|apply oblA_and|apply oblR_and|apply oblO_and);(focus exact obA))|(with_reducible first|refine W_regionF lv48 fun K hK=>?_|refine W_drawnF lv48 fun K hK=>?_));try simp only [↓pb,↓pd,qds,tb48,hG.one,lns22 hG.p,lns23 hG.q,ias22 hG.p,ias23 hG.q,(hG.p.el eSpo_len rfl),(hG.q.el eSrt_len rfl),eSpo,eSrt,hG.p.rd,hG.q.rd,hEg,irN,nrA,nrM,nrE,reduceIte,reduceCtorEq,nrL])|(with_reducible first|refine W_seq ?_|refine W_ret ?_)|fail)
 refine ⟨by first|exact .inl rfl|exact .inr rfl, ?_⟩
 rw [ret1 Try.results48]
 simp only [↓pb,qbs,tb48,hG.one,lns22 hG.p,lns23 hG.q,ias22 hG.p,ias23 hG.q,(hG.p.el eSpo_len rfl),(hG.q.el eSrt_len rfl),eSpo,eSrt,hG.p.rd,hG.q.rd,rv_tmp,rv_cell,hEg,irN,nrA,nrM,nrE,reduceIte,reduceCtorEq,nrL]
 repeat ((with_reducible apply oV_intro);(simp (disch:=first|exact dA|fail) only [qcs,tb48,hG.one,lns22 hG.p,lns23 hG.q,ias22 hG.p,ias23 hG.q,(hG.p.el eSpo_len rfl),(hG.q.el eSrt_len rfl),eSpo,eSrt,hG.p.rd,hG.q.rd,hEg,irN,nrA,nrM,nrE,reduceIte,reduceCtorEq,nrL];exact rfl))
 refine ⟨by first|rfl|(simp [*];done), ?_⟩
 try exact frA
theorem f37 (va vb vc vl vt:Value) (g:Gnd) (left:List Int) (spot:Int) (H:AHeap) (hT:Top H) (hG:RG H va vb vc g) (S:SR H 1 left.length vl (ints left)) (ho:one vt) (hl:left.length≤g.Acts.length) (hm:left.length < 1099511627776) :
  ∃ v H',C5 (.fn 37) #[.agg ⟨[vl,vt]⟩,.agg ⟨[va,vb,vc]⟩,iv spot] H v H'∧v=iv (massGo g.Acts left spot left.length)∧Fr H.n [] H H':=by
 have l2:=hG.r.lt
 have l1:=S.lt
 refine Cl.ofW Try.func37 rfl (by kernel_rfl) (by rw [Try.ntmps37];exact Nat.le_of_ble_eq_true rfl) (by kernel_rfl) ?_
 have hEg:True:=trivial
 refine gcW [0,1,2] ?_
 intro eg hEn
 simp only [forallC,forallL,and_true] at hEn
 try simp only [↓pb,qbs,tb37,hG.one,S.one,ho,lns31 S,hEg,irN,nrA,nrM,nrE,reduceIte,reduceCtorEq,nrL] at hEn
 replace hEg:=hEn;clear hEn
 repeat' (first|((with_reducible refine hK _ _ fun e2 hEn=>?_);clear hK K;simp only [lv37,forallC,forallL,and_true] at hEn;(try simp only [↓pb,qbs,tb37,hG.one,S.one,ho,lns31 S,hEg,irN,nrA,nrM,nrE,reduceIte,reduceCtorEq,nrL] at hEn);clear hEg;(try clear eg);have hEg:=hEn;clear hEn;rename Env=>eg)|((first|((with_reducible first|apply oV_intro|apply oH_intro|apply oB_intro);(simp (disch:=first|exact dA|fail) only [qcs,tb37,hG.one,S.one,ho,lns31 S,hEg,irN,nrA,nrM,nrE,reduceIte,reduceCtorEq,nrL];with_reducible exact rfl))|(with_reducible first|refine W_regionF lv37 fun K hK=>?_));try simp only [↓pb,↓pd,qds,tb37,hG.one,S.one,ho,lns31 S,hEg,irN,nrA,nrM,nrE,reduceIte,reduceCtorEq,nrL])|((with_reducible apply W_cond);(simp only [↓pb,qbs,tb37,hG.one,S.one,ho,lns31 S,hEg,irN,nrA,nrM,nrE,reduceIte,reduceCtorEq,nrL];with_reducible exact rfl);all_goals (intro hc;(first|exact hcX hc|try simp only [hcs] at hc)))|(with_reducible first|refine W_seq ?_|refine W_block ?_|refine W_skip ?_|refine W_ret ?_|refine W_exit ?_|apply blockK_exit)|((with_reducible apply blockK_pass);(focus decide))|fail)
 refine W_count [2,3,4] (by kernel_rfl) 8 (left.length) (H.n) [] [] (fun i e h=>e 7=iv (massGo g.Acts left spot i)) (by simp only [↓pb,qbs,tb37,hG.one,S.one,ho,lns31 S,hEg,irN,nrA,nrM,nrE,reduceIte,reduceCtorEq,nrL]) (by focus exact topA) (H0:=H) (by focus exact frA) (by intro b hb hlt;simp at hb ⊢;try omega) ?_ ?_
 rotate_left
 intro i1 e1 h1 hi1 hE1 ei1 hF1 hF01 hTh1 hJ1
 simp only [forallC,forallL,and_true] at hE1
 try simp only [↓pb,qbs,tb37,hG.one,S.one,ho,lns31 S,hEg,irN,nrA,nrM,nrE,reduceIte,reduceCtorEq,nrL] at hE1
 have hn11:=hF1.n;have hn01:=hF01.n;try simp only [upd_n,jn_n] at hn11
 replace hEg:=And.intro ei1 hE1
 rotate_left
 ·simp only [↓pb,qbs,tb37,hG.one,S.one,ho,lns31 S,hEg,irN,nrA,nrM,nrE,reduceIte,reduceCtorEq,nrL]
  rfl
 have S2:SR h1 1 left.length vl (left.map iv):=S.fr0 hF01
 have G1:=hG.fr hF01
 have l3:=S2.lt;have l4:=G1.r.lt
 have ra:h1.rd H.n=some [vl,vt]:=by
  rw [hF1.rd (b:=H.n) (by simp only [↓pb,qbs,tb37,hG.one,S.one,ho,lns31 S,hEg,irN,nrA,nrM,nrE,reduceIte,reduceCtorEq,nrL];omega) (by simp)]
  simp (disch:=first|exact dA|fail) only [qcs,tb37,hG.one,S.one,ho,lns31 S,hEg,irN,nrA,nrM,nrE,reduceIte,reduceCtorEq,nrL]
 have rb:h1.rd (H.n + 1)=some [va,vb,vc]:=by
  rw [hF1.rd (b:=H.n + 1) (by simp only [↓pb,qbs,tb37,hG.one,S.one,ho,lns31 S,hEg,irN,nrA,nrM,nrE,reduceIte,reduceCtorEq,nrL];omega) (by simp)]
  simp (disch:=first|exact dA|fail) only [qcs,tb37,hG.one,S.one,ho,lns31 S,hEg,irN,nrA,nrM,nrE,reduceIte,reduceCtorEq,nrL]
 by_cases hi2:i1 < left.length
 ·repeat' (first|((with_reducible refine hK _ _ fun e2 hEn=>?_);clear hK K;simp only [lv37,forallC,forallL,and_true] at hEn;(try simp only [↓pb,qbs,tb37,hG.one,S.one,ho,lns31 S,hJ1,ra,rb,lns31 S2,ias31 S2,S2.rd,S2.el1 rfl,ias24 G1.r,G1.r.rd,(G1.r.el eAct_len rfl),eAct,hEg,irN,nrA,nrM,nrE,reduceIte,reduceCtorEq,nrL] at hEn);clear hEg;(try clear eg);have hEg:=hEn;clear hEn;rename Env=>eg)|((first|((with_reducible first|apply oV_intro|apply oH_intro|apply oB_intro);(simp (disch:=first|exact dA|fail) only [qcs,tb37,hG.one,S.one,ho,lns31 S,hJ1,ra,rb,lns31 S2,ias31 S2,S2.rd,S2.el1 rfl,ias24 G1.r,G1.r.rd,(G1.r.el eAct_len rfl),eAct,hEg,irN,nrA,nrM,nrE,reduceIte,reduceCtorEq,nrL];with_reducible exact rfl))|(with_reducible first|refine W_regionF lv37 fun K hK=>?_));try simp only [↓pb,↓pd,qds,tb37,hG.one,S.one,ho,lns31 S,hJ1,ra,rb,lns31 S2,ias31 S2,S2.rd,S2.el1 rfl,ias24 G1.r,G1.r.rd,(G1.r.el eAct_len rfl),eAct,hEg,irN,nrA,nrM,nrE,reduceIte,reduceCtorEq,nrL])|((with_reducible apply W_cond);(simp only [↓pb,qbs,tb37,hG.one,S.one,ho,lns31 S,hJ1,ra,rb,lns31 S2,ias31 S2,S2.rd,S2.el1 rfl,ias24 G1.r,G1.r.rd,(G1.r.el eAct_len rfl),eAct,hEg,irN,nrA,nrM,nrE,reduceIte,reduceCtorEq,nrL];with_reducible exact rfl);all_goals (intro hc;(first|exact hcX hc|try simp only [hcs] at hc)))|(with_reducible first|refine W_seq ?_|refine W_block ?_|refine W_skip ?_|refine W_ret ?_|refine W_exit ?_|apply blockK_exit)|((with_reducible apply blockK_pass);(focus decide))|fail)
  ·refine ⟨by omega,by simp only [↓pb,qbs,tb37,hG.one,S.one,ho,lns31 S,hJ1,hEg,irN,nrA,nrM,nrE,reduceIte,reduceCtorEq,nrL];exact congrArg _ (inc64 (by omega)),by focus exact frA, ?_⟩
   simp only [↓pb,qbs,tb37,hG.one,S.one,ho,lns31 S,hEg,irN,nrA,nrM,nrE,reduceIte,reduceCtorEq,nrL]
   rw [massGo_succ,if_pos hc]
   rfl
  ·refine ⟨by omega,by simp only [↓pb,qbs,tb37,hG.one,S.one,ho,lns31 S,hJ1,hEg,irN,nrA,nrM,nrE,reduceIte,reduceCtorEq,nrL];exact congrArg _ (inc64 (by omega)),by focus exact frA, ?_⟩
   simp only [↓pb,qbs,tb37,hG.one,S.one,ho,lns31 S,hEg,irN,nrA,nrM,nrE,reduceIte,reduceCtorEq,nrL]
   rw [massGo_succ,if_neg hc]
 ·have e1n:i1=left.length:=by omega
  subst e1n
  repeat' (first|((with_reducible refine hK _ _ fun e2 hEn=>?_);clear hK K;simp only [lv37,forallC,forallL,and_true] at hEn;(try simp only [↓pb,qbs,tb37,hG.one,S.one,ho,lns31 S,hJ1,ra,rb,lns31 S2,hEg,irN,nrA,nrM,nrE,reduceIte,reduceCtorEq,nrL] at hEn);clear hEg;(try clear eg);have hEg:=hEn;clear hEn;rename Env=>eg)|((first|((with_reducible first|apply oV_intro|apply oH_intro|apply oB_intro);(simp (disch:=first|exact dA|fail) only [qcs,tb37,hG.one,S.one,ho,lns31 S,hJ1,ra,rb,lns31 S2,hEg,irN,nrA,nrM,nrE,reduceIte,reduceCtorEq,nrL];with_reducible exact rfl))|(with_reducible first|refine W_regionF lv37 fun K hK=>?_));try simp only [↓pb,↓pd,qds,tb37,hG.one,S.one,ho,lns31 S,hJ1,ra,rb,lns31 S2,hEg,irN,nrA,nrM,nrE,reduceIte,reduceCtorEq,nrL])|((with_reducible apply W_cond);(simp only [↓pb,qbs,tb37,hG.one,S.one,ho,lns31 S,hJ1,ra,rb,lns31 S2,hEg,irN,nrA,nrM,nrE,reduceIte,reduceCtorEq,nrL];with_reducible exact rfl);all_goals (intro hc;(first|exact hcX hc|try simp only [hcs] at hc)))|(with_reducible first|refine W_seq ?_|refine W_block ?_|refine W_skip ?_|refine W_ret ?_|refine W_exit ?_|apply blockK_exit)|((with_reducible apply blockK_pass);(focus decide))|fail)
  refine ⟨by first|exact .inl rfl|exact .inr rfl, ?_⟩
  rw [ret1 Try.results37]
  simp only [↓pb,qbs,tb37,hG.one,S.one,ho,lns31 S,rv_tmp,rv_cell,hEg,irN,nrA,nrM,nrE,reduceIte,reduceCtorEq,nrL]
  repeat ((with_reducible apply oV_intro);(simp (disch:=first|exact dA|fail) only [qcs,tb37,hG.one,S.one,ho,lns31 S,hEg,irN,nrA,nrM,nrE,reduceIte,reduceCtorEq,nrL];exact rfl))
  exact frA
theorem stG_int0 {H:AHeap} {b k:Nat} {l:List Int} {y:Int} (h:k < l.length):stG H b k 1 (iv y) (.cells (ints l) 3 .ex)=some (H.upd H.n b (.cells (ints (l.set k y)) 3 .ex)):=by
 rw [← ints_set]
 exact stG_int (by rw [ints_len];exact h)
theorem rep_ints (n:Nat):List.replicate n (Value.int .i64 0)=ints (List.replicate n 0):=by simp [ints]
def fillM (n i:Nat):List Int:=(List.range n).map fun k=>if k < i then -1 else 0
theorem fillM_len (n i:Nat):(fillM n i).length=n:=by simp [fillM]
theorem fillM_zero (n:Nat):fillM n 0=List.replicate n 0:=by
 refine List.ext_getElem (by simp [fillM]) fun i h1 h2=>?_
 simp [fillM]
theorem fillM_full (n:Nat):fillM n n=List.replicate n (-1):=by
 refine List.ext_getElem (by simp [fillM]) fun i h1 h2=>?_
 simp [fillM] at h1 ⊢
 omega
theorem fillM_succ {n i:Nat} (h:i < n):(fillM n i).set i (-1)=fillM n (i + 1):=by
 refine List.ext_getElem (by simp [fillM]) fun k h1 h2=>?_
 simp only [fillM,List.length_set,List.length_map,List.length_range] at h1
 simp only [fillM,List.getElem_set,List.getElem_map,List.getElem_range]
 by_cases e:i=k
 ·subst e;simp
 ·rw [if_neg e]
  by_cases c:k < i
  ·rw [if_pos c,if_pos (by omega)]
  ·rw [if_neg c,if_neg (by omega)]
theorem tkStep_len (A:List Act) (spot:Int) (s:Int×List Int) (k:Nat):(tkStep A spot s k).2.length=s.2.length:=by
 unfold tkStep
 split <;> simp
theorem tkRun_len (A:List Act) (spot:Int) (s:Int×List Int):∀ i,(tkRun A spot i s).2.length=s.2.length
 | 0=>rfl
 | i + 1=>by rw [tkRun_succ,tkStep_len,tkRun_len A spot s i]
theorem dayRun_len (g:Gnd) (truth:List Int):∀ n,(dayRun g truth n).left.length=g.Acts.length∧(dayRun g truth n).last.length=g.Spots.length
 | 0=>by simp [dayRun]
 | n + 1=>by
  obtain ⟨h1,h2⟩:=dayRun_len g truth n
  rw [dayRun_succ]
  unfold dayStep
  split
  ·exact ⟨by rw [tkRun_len];exact h1,h2⟩
  ·simp [h1,h2]
set_option maxHeartbeats 4000000 in
theorem f35 (va vb vc vt:Value) (g:Gnd) (truth:List Int) (acts:Nat) (hour:Int) (H:AHeap) (hT:Top H) (hG:RG H va vb vc g) (S:SR H 1 truth.length vt (ints truth)) (hl:truth.length=g.Acts.length) (ha:acts≤g.Acts.length) (hm:g.Acts.length≤1000) (hn:g.Spots.length≤1000)
  (hsp:∀ u,u < g.Acts.length→0≤(g.Acts.getD u default).Spot∧(g.Acts.getD u default).Spot < g.Spots.length) :
  ∃ v H',C5 (.fn 35) #[.agg ⟨[va,vb,vc]⟩,vt,iv acts,iv hour] H v H'∧(∃ vl vs,v=.agg ⟨[vl,vs]⟩∧SR H' 1 g.Acts.length vl (ints (dayOf g truth acts hour).left)∧SR H' 1 g.Spots.length vs (ints (dayOf g truth acts hour).last))∧Fr H.n [] H H':=by
 have S0:SR H 1 truth.length vt (truth.map iv):=S
 refine Cl.ofW Try.func35 rfl (by kernel_rfl) (by rw [Try.ntmps35];exact Nat.le_of_ble_eq_true rfl) (by kernel_rfl) ?_
 have hEg:True:=trivial
 refine gcW [0,1,2,3] ?_
 intro eg hEn
 simp only [forallC,forallL,and_true] at hEn
 try simp only [↓pb,qbs,tb35,hG.one,lns22 hG.p,lns24 hG.r,S.one,rep_ints,Nat.mul_one,ints_at,stG_int0,S.mapB,hG.r.mapB,hG.p.mapB,hEg,irN,nrA,nrM,nrE,reduceIte,reduceCtorEq,nrL] at hEn
 replace hEg:=hEn;clear hEn
 repeat' (first|((with_reducible refine hK _ _ fun e2 hEn=>?_);clear hK K;simp only [lv35,forallC,forallL,and_true] at hEn;(try simp only [↓pb,qbs,tb35,hG.one,lns22 hG.p,lns24 hG.r,S.one,rep_ints,Nat.mul_one,ints_at,stG_int0,S.mapB,hG.r.mapB,hG.p.mapB,hEg,irN,nrA,nrM,nrE,reduceIte,reduceCtorEq,nrL] at hEn);clear hEg;(try clear eg);have hEg:=hEn;clear hEn;rename Env=>eg)|((first|((with_reducible first|apply oV_intro|apply oH_intro|apply oB_intro);(simp (disch:=first|exact dA|fail) only [qcs,tb35,hG.one,lns22 hG.p,lns24 hG.r,S.one,rep_ints,Nat.mul_one,ints_at,stG_int0,S.mapB,hG.r.mapB,hG.p.mapB,hEg,irN,nrA,nrM,nrE,reduceIte,reduceCtorEq,nrL];with_reducible exact rfl))|((with_reducible first|apply oblA_and|apply oblR_and|apply oblO_and);(focus exact obA))|(with_reducible first|refine W_regionF lv35 fun K hK=>?_|refine W_drawnF lv35 fun K hK=>?_));try simp only [↓pb,↓pd,qds,tb35,hG.one,lns22 hG.p,lns24 hG.r,S.one,rep_ints,Nat.mul_one,ints_at,stG_int0,S.mapB,hG.r.mapB,hG.p.mapB,hEg,irN,nrA,nrM,nrE,reduceIte,reduceCtorEq,nrL])|((first|((with_reducible first|apply WO_gT|apply WO_gF|apply WD_gT|apply WD_gF);exact rfl)|(with_reducible apply W_cond));(simp only [↓pb,qbs,tb35,hG.one,lns22 hG.p,lns24 hG.r,S.one,rep_ints,Nat.mul_one,ints_at,stG_int0,S.mapB,hG.r.mapB,hG.p.mapB,hEg,irN,nrA,nrM,nrE,reduceIte,reduceCtorEq,nrL];with_reducible exact rfl);all_goals (intro hc;(first|exact hcX hc|try simp only [hcs] at hc);try ((with_reducible first|apply woI|apply wdI);simp only [↓pb,↓pd,qds,tb35,hG.one,lns22 hG.p,lns24 hG.r,S.one,rep_ints,Nat.mul_one,ints_at,stG_int0,S.mapB,hG.r.mapB,hG.p.mapB,hc,hEg,irN,nrA,nrM,nrE,reduceIte,reduceCtorEq,nrL])))|(with_reducible first|refine W_seq ?_|refine W_block ?_|refine W_skip ?_|refine W_ret ?_|refine W_exit ?_|apply blockK_exit)|((with_reducible apply blockK_pass);(focus decide))|fail)
 let LT:Value:=.slice (some ⟨H.n + 2,0,none⟩) g.Acts.length g.Acts.length
 let LS:Value:=.slice (some ⟨H.n + 3,0,none⟩) g.Spots.length g.Spots.length
 refine W_count [1,2,3,4,8,9] (by kernel_rfl) 10 (g.Spots.length) (H.n) [H.n + 3] [] (fun i e h=>h.get (H.n + 3)=.cells (ints (fillM g.Spots.length i)) 3 .ex) (by simp only [↓pb,qbs,tb35,hG.one,lns22 hG.p,lns24 hG.r,S.one,rep_ints,Nat.mul_one,ints_at,stG_int0,S.mapB,hG.r.mapB,hG.p.mapB,hEg,irN,nrA,nrM,nrE,reduceIte,reduceCtorEq,nrL]) (by focus exact topA) (H0:=H) (by focus exact frA) (by intro b hb hlt;simp at hb ⊢;try omega) ?_ ?_
 rotate_left
 intro i1 e1 h1 hi1 hE1 ei1 hF1 hF01 hTh1 hJ1
 simp only [forallC,forallL,and_true] at hE1
 try simp only [↓pb,qbs,tb35,hG.one,lns22 hG.p,lns24 hG.r,S.one,rep_ints,Nat.mul_one,ints_at,stG_int0,S.mapB,hG.r.mapB,hG.p.mapB,hEg,irN,nrA,nrM,nrE,reduceIte,reduceCtorEq,nrL] at hE1
 have hn11:=hF1.n;have hn01:=hF01.n;try simp only [upd_n,jn_n] at hn11
 replace hEg:=And.intro ei1 hE1
 rotate_left
 ·simp (disch:=first|exact dA|fail) only [qcs,tb35,hG.one,lns22 hG.p,lns24 hG.r,S.one,rep_ints,Nat.mul_one,ints_at,stG_int0,S.mapB,hG.r.mapB,hG.p.mapB,hEg,irN,nrA,nrM,nrE,reduceIte,reduceCtorEq,nrL]
  rw [fillM_zero]
 have hfl:=fillM_len g.Spots.length i1
 have r4:h1.rd (H.n + 4)=some [LT,LS]:=by
  rw [hF1.rd (b:=H.n + 4) (by simp only [↓pb,qbs,tb35,hG.one,lns22 hG.p,lns24 hG.r,S.one,rep_ints,Nat.mul_one,ints_at,stG_int0,S.mapB,hG.r.mapB,hG.p.mapB,hEg,irN,nrA,nrM,nrE,reduceIte,reduceCtorEq,nrL];omega) nxA]
  simp (disch:=first|exact dA|fail) only [qcs,tb35,hG.one,lns22 hG.p,lns24 hG.r,S.one,rep_ints,Nat.mul_one,ints_at,stG_int0,S.mapB,hG.r.mapB,hG.p.mapB,hEg,irN,nrA,nrM,nrE,reduceIte,reduceCtorEq,nrL]
  rfl
 by_cases hi2:i1 < g.Spots.length
 ·repeat' (first|((with_reducible refine hK _ _ fun e2 hEn=>?_);clear hK K;simp only [lv35,forallC,forallL,and_true] at hEn;(try simp only [↓pb,qbs,tb35,hG.one,lns22 hG.p,lns24 hG.r,S.one,rep_ints,Nat.mul_one,ints_at,stG_int0,S.mapB,hG.r.mapB,hG.p.mapB,hEg,irN,nrA,nrM,nrE,reduceIte,reduceCtorEq,nrL] at hEn);clear hEg;(try clear eg);have hEg:=hEn;clear hEn;rename Env=>eg)|((first|((with_reducible first|apply oV_intro|apply oH_intro|apply oB_intro);(simp (disch:=first|exact dA|fail) only [qcs,tb35,hG.one,lns22 hG.p,lns24 hG.r,S.one,rep_ints,Nat.mul_one,ints_at,stG_int0,S.mapB,hG.r.mapB,hG.p.mapB,r4,LT,LS,hJ1,hEg,irN,nrA,nrM,nrE,reduceIte,reduceCtorEq,nrL];with_reducible exact rfl))|((with_reducible first|apply oblA_and|apply oblR_and|apply oblO_and);(focus exact obA))|(with_reducible first|refine W_regionF lv35 fun K hK=>?_|refine W_drawnF lv35 fun K hK=>?_));try simp only [↓pb,↓pd,qds,tb35,hG.one,lns22 hG.p,lns24 hG.r,S.one,rep_ints,Nat.mul_one,ints_at,stG_int0,S.mapB,hG.r.mapB,hG.p.mapB,r4,LT,LS,hJ1,hEg,irN,nrA,nrM,nrE,reduceIte,reduceCtorEq,nrL])|((first|((with_reducible first|apply WO_gT|apply WO_gF|apply WD_gT|apply WD_gF);exact rfl)|(with_reducible apply W_cond));(simp only [↓pb,qbs,tb35,hG.one,lns22 hG.p,lns24 hG.r,S.one,rep_ints,Nat.mul_one,ints_at,stG_int0,S.mapB,hG.r.mapB,hG.p.mapB,r4,LT,LS,hJ1,hEg,irN,nrA,nrM,nrE,reduceIte,reduceCtorEq,nrL];with_reducible exact rfl);all_goals (intro hc;(first|exact hcX hc|try simp only [hcs] at hc);try ((with_reducible first|apply woI|apply wdI);simp only [↓pb,↓pd,qds,tb35,hG.one,lns22 hG.p,lns24 hG.r,S.one,rep_ints,Nat.mul_one,ints_at,stG_int0,S.mapB,hG.r.mapB,hG.p.mapB,r4,LT,LS,hJ1,hc,hEg,irN,nrA,nrM,nrE,reduceIte,reduceCtorEq,nrL])))|(with_reducible first|refine W_seq ?_|refine W_block ?_|refine W_skip ?_|refine W_ret ?_|refine W_exit ?_|apply blockK_exit)|((with_reducible apply blockK_pass);(focus decide))|fail)
  refine ⟨by omega,by simp only [↓pb,qbs,tb35,hG.one,lns22 hG.p,lns24 hG.r,S.one,rep_ints,Nat.mul_one,ints_at,stG_int0,S.mapB,hG.r.mapB,hG.p.mapB,hEg,irN,nrA,nrM,nrE,reduceIte,reduceCtorEq,nrL];exact congrArg _ (inc64 (by omega)),by focus exact frA, ?_⟩
  simp only [↓pb,qbs,tb35,hG.one,lns22 hG.p,lns24 hG.r,S.one,rep_ints,Nat.mul_one,ints_at,stG_int0,S.mapB,hG.r.mapB,hG.p.mapB,hEg,irN,nrA,nrM,nrE,reduceIte,reduceCtorEq,nrL]
  rw [fillM_succ hi2]
 have e1n:i1=g.Spots.length:=by omega
 rw [e1n,fillM_full] at hJ1
 have k0:h1.get H.n=.cells [va,vb,vc] 26 .ex:=by
  rw [hF1.old _ (by simp only [↓pb,qbs,tb35,hG.one,lns22 hG.p,lns24 hG.r,S.one,rep_ints,Nat.mul_one,ints_at,stG_int0,S.mapB,hG.r.mapB,hG.p.mapB,hEg,irN,nrA,nrM,nrE,reduceIte,reduceCtorEq,nrL];omega) nxA]
  simp (disch:=first|exact dA|fail) only [qcs,tb35,hG.one,lns22 hG.p,lns24 hG.r,S.one,rep_ints,Nat.mul_one,ints_at,stG_int0,S.mapB,hG.r.mapB,hG.p.mapB,hEg,irN,nrA,nrM,nrE,reduceIte,reduceCtorEq,nrL]
 have k2:h1.get (H.n + 2)=.cells (ints (List.replicate g.Acts.length 0)) 3 .ex:=by
  rw [hF1.old _ (by simp only [↓pb,qbs,tb35,hG.one,lns22 hG.p,lns24 hG.r,S.one,rep_ints,Nat.mul_one,ints_at,stG_int0,S.mapB,hG.r.mapB,hG.p.mapB,hEg,irN,nrA,nrM,nrE,reduceIte,reduceCtorEq,nrL];omega) nxA]
  simp (disch:=first|exact dA|fail) only [qcs,tb35,hG.one,lns22 hG.p,lns24 hG.r,S.one,rep_ints,Nat.mul_one,ints_at,stG_int0,S.mapB,hG.r.mapB,hG.p.mapB,hEg,irN,nrA,nrM,nrE,reduceIte,reduceCtorEq,nrL]
 have k4:h1.get (H.n + 4)=.cells [LT,LS] 61 .ex:=by
  rw [hF1.old _ (by simp only [↓pb,qbs,tb35,hG.one,lns22 hG.p,lns24 hG.r,S.one,rep_ints,Nat.mul_one,ints_at,stG_int0,S.mapB,hG.r.mapB,hG.p.mapB,hEg,irN,nrA,nrM,nrE,reduceIte,reduceCtorEq,nrL];omega) nxA]
  simp (disch:=first|exact dA|fail) only [qcs,tb35,hG.one,lns22 hG.p,lns24 hG.r,S.one,rep_ints,Nat.mul_one,ints_at,stG_int0,S.mapB,hG.r.mapB,hG.p.mapB,hEg,irN,nrA,nrM,nrE,reduceIte,reduceCtorEq,nrL]
  rfl
 have k1:h1.get (H.n + 1)=.cells [.slice none 0 0,.slice none 0 0] 61 .ex:=by
  rw [hF1.old _ (by simp only [↓pb,qbs,tb35,hG.one,lns22 hG.p,lns24 hG.r,S.one,rep_ints,Nat.mul_one,ints_at,stG_int0,S.mapB,hG.r.mapB,hG.p.mapB,hEg,irN,nrA,nrM,nrE,reduceIte,reduceCtorEq,nrL];omega) nxA]
  simp (disch:=first|exact dA|fail) only [qcs,tb35,hG.one,lns22 hG.p,lns24 hG.r,S.one,rep_ints,Nat.mul_one,ints_at,stG_int0,S.mapB,hG.r.mapB,hG.p.mapB,hEg,irN,nrA,nrM,nrE,reduceIte,reduceCtorEq,nrL]
 have hFr1:Fr H.n [] H h1:=hF01
 repeat' (first|((with_reducible refine hK _ _ fun e2 hEn=>?_);clear hK K;simp only [lv35,forallC,forallL,and_true] at hEn;(try simp only [↓pb,qbs,tb35,hG.one,lns22 hG.p,lns24 hG.r,S.one,rep_ints,Nat.mul_one,ints_at,stG_int0,S.mapB,hG.r.mapB,hG.p.mapB,hEg,irN,nrA,nrM,nrE,reduceIte,reduceCtorEq,nrL] at hEn);clear hEg;(try clear eg);have hEg:=hEn;clear hEn;rename Env=>eg)|((first|((with_reducible first|apply oV_intro|apply oH_intro|apply oB_intro);(simp (disch:=first|exact dA|fail) only [qcs,tb35,hG.one,lns22 hG.p,lns24 hG.r,S.one,rep_ints,Nat.mul_one,ints_at,stG_int0,S.mapB,hG.r.mapB,hG.p.mapB,r4,LT,LS,hEg,irN,nrA,nrM,nrE,reduceIte,reduceCtorEq,nrL];with_reducible exact rfl))|((with_reducible first|apply oblA_and|apply oblR_and|apply oblO_and);(focus exact obA))|(with_reducible first|refine W_regionF lv35 fun K hK=>?_|refine W_drawnF lv35 fun K hK=>?_));try simp only [↓pb,↓pd,qds,tb35,hG.one,lns22 hG.p,lns24 hG.r,S.one,rep_ints,Nat.mul_one,ints_at,stG_int0,S.mapB,hG.r.mapB,hG.p.mapB,r4,LT,LS,hEg,irN,nrA,nrM,nrE,reduceIte,reduceCtorEq,nrL])|((first|((with_reducible first|apply WO_gT|apply WO_gF|apply WD_gT|apply WD_gF);exact rfl)|(with_reducible apply W_cond));(simp only [↓pb,qbs,tb35,hG.one,lns22 hG.p,lns24 hG.r,S.one,rep_ints,Nat.mul_one,ints_at,stG_int0,S.mapB,hG.r.mapB,hG.p.mapB,r4,LT,LS,hEg,irN,nrA,nrM,nrE,reduceIte,reduceCtorEq,nrL];with_reducible exact rfl);all_goals (intro hc;(first|exact hcX hc|try simp only [hcs] at hc);try ((with_reducible first|apply woI|apply wdI);simp only [↓pb,↓pd,qds,tb35,hG.one,lns22 hG.p,lns24 hG.r,S.one,rep_ints,Nat.mul_one,ints_at,stG_int0,S.mapB,hG.r.mapB,hG.p.mapB,r4,LT,LS,hc,hEg,irN,nrA,nrM,nrE,reduceIte,reduceCtorEq,nrL])))|(with_reducible first|refine W_seq ?_|refine W_block ?_|refine W_skip ?_|refine W_ret ?_|refine W_exit ?_|apply blockK_exit)|((with_reducible apply blockK_pass);(focus decide))|fail)
 refine W_count [1,2,3,4,8,9] (by kernel_rfl) 11 (acts) (H.n) [H.n + 2,H.n + 3] [] (fun i e h=>h.get (H.n + 2)=.cells (ints (dayRun g truth i).left) 3 .ex∧h.get (H.n + 3)=.cells (ints (dayRun g truth i).last) 3 .ex∧untilL hour g.Acts=i + untilL hour (g.Acts.drop i)) (by simp only [↓pb,qbs,tb35,hG.one,lns22 hG.p,lns24 hG.r,S.one,rep_ints,Nat.mul_one,ints_at,stG_int0,S.mapB,hG.r.mapB,hG.p.mapB,hEg,irN,nrA,nrM,nrE,reduceIte,reduceCtorEq,nrL]) (by focus exact topA) (H0:=H) (by focus exact frA) (by intro b hb hlt;simp at hb ⊢;try omega) ?_ ?_
 rotate_left
 intro i2 e2 h2 hi2 hE2 ei2 hF2 hF02 hTh2 hJ2
 simp only [forallC,forallL,and_true] at hE2
 try simp only [↓pb,qbs,tb35,hG.one,lns22 hG.p,lns24 hG.r,S.one,rep_ints,Nat.mul_one,ints_at,stG_int0,S.mapB,hG.r.mapB,hG.p.mapB,hEg,irN,nrA,nrM,nrE,reduceIte,reduceCtorEq,nrL] at hE2
 have hn12:=hF2.n;have hn02:=hF02.n;try simp only [upd_n,jn_n] at hn12
 replace hEg:=And.intro ei2 hE2
 rotate_left
 ·exact ⟨k2,hJ1,by simp⟩
 obtain ⟨m2,m3,m5⟩:=hJ2
 have F2:Fr H.n [] H h2:=hF02
 have dl:=dayRun_len g truth i2
 have G2:=hG.fr (N:=H.n) F2
 have S2:SR h2 1 truth.length vt (truth.map iv):=S0.fr0 F2
 have m0:h2.get H.n=.cells [va,vb,vc] 26 .ex:=by rw [hF2.old _ (by omega) nxA];exact k0
 have m4:h2.get (H.n + 4)=.cells [LT,LS] 61 .ex:=by rw [hF2.old _ (by omega) nxA];exact k4
 have m1:h2.get (H.n + 1)=.cells [.slice none 0 0,.slice none 0 0] 61 .ex:=by rw [hF2.old _ (by omega) nxA];exact k1
 have q0:h2.rd H.n=some [va,vb,vc]:=by rw [rd_def,m0];rfl
 have q2:h2.rd (H.n + 2)=some (ints (dayRun g truth i2).left):=by rw [rd_def,m2];rfl
 have q3:h2.rd (H.n + 3)=some (ints (dayRun g truth i2).last):=by rw [rd_def,m3];rfl
 have q4:h2.rd (H.n + 4)=some [LT,LS]:=by rw [rd_def,m4];rfl
 have l1:=S.lt
 have l2:=hG.r.lt
 have l3:=G2.r.lt
 have l4:=S2.lt
 by_cases hi3:i2 < acts
 ·have hd:=drop_getD (l:=g.Acts) (i:=i2) (by omega)
  have spu:=hsp i2 (by omega)
  by_cases hh:(g.Acts.getD i2 default).Hour≤hour
  ·rw [hd,untilL,if_pos hh] at m5
   have hstep:=dayRun_succ g truth i2
   cases htk:(g.Acts.getD i2 default).Take with
   | false =>
    repeat' (first|((with_reducible refine hK _ _ fun e2 hEn=>?_);clear hK K;simp only [lv35,forallC,forallL,and_true] at hEn;(try simp only [↓pb,qbs,tb35,hG.one,lns22 hG.p,lns24 hG.r,S.one,rep_ints,Nat.mul_one,ints_at,stG_int0,S.mapB,hG.r.mapB,hG.p.mapB,hEg,irN,nrA,nrM,nrE,reduceIte,reduceCtorEq,nrL] at hEn);clear hEg;(try clear eg);have hEg:=hEn;clear hEn;rename Env=>eg)|((first|((with_reducible first|apply oV_intro|apply oH_intro|apply oB_intro);(simp (disch:=first|exact dA|fail) only [qcs,tb35,hG.one,lns22 hG.p,lns24 hG.r,S.one,rep_ints,Nat.mul_one,ints_at,stG_int0,S.mapB,hG.r.mapB,hG.p.mapB,q0,q4,LT,LS,ias24 G2.r,G2.r.rd,(G2.r.el eAct_len rfl),eAct,hh,htk,ias31 S2,S2.rd,S2.el1 rfl,m2,m3,hEg,irN,nrA,nrM,nrE,reduceIte,reduceCtorEq,nrL];with_reducible exact rfl))|((with_reducible first|apply oblA_and|apply oblR_and|apply oblO_and);(focus exact obA))|(with_reducible first|refine W_regionF lv35 fun K hK=>?_|refine W_drawnF lv35 fun K hK=>?_));try simp only [↓pb,↓pd,qds,tb35,hG.one,lns22 hG.p,lns24 hG.r,S.one,rep_ints,Nat.mul_one,ints_at,stG_int0,S.mapB,hG.r.mapB,hG.p.mapB,q0,q4,LT,LS,ias24 G2.r,G2.r.rd,(G2.r.el eAct_len rfl),eAct,hh,htk,ias31 S2,S2.rd,S2.el1 rfl,m2,m3,hEg,irN,nrA,nrM,nrE,reduceIte,reduceCtorEq,nrL])|((first|((with_reducible first|apply WO_gT|apply WO_gF|apply WD_gT|apply WD_gF);exact rfl)|(with_reducible apply W_cond));(simp only [↓pb,qbs,tb35,hG.one,lns22 hG.p,lns24 hG.r,S.one,rep_ints,Nat.mul_one,ints_at,stG_int0,S.mapB,hG.r.mapB,hG.p.mapB,q0,q4,LT,LS,ias24 G2.r,G2.r.rd,(G2.r.el eAct_len rfl),eAct,hh,htk,ias31 S2,S2.rd,S2.el1 rfl,m2,m3,hEg,irN,nrA,nrM,nrE,reduceIte,reduceCtorEq,nrL];with_reducible exact rfl);all_goals (intro hc;(first|exact hcX hc|try simp only [hcs] at hc);try ((with_reducible first|apply woI|apply wdI);simp only [↓pb,↓pd,qds,tb35,hG.one,lns22 hG.p,lns24 hG.r,S.one,rep_ints,Nat.mul_one,ints_at,stG_int0,S.mapB,hG.r.mapB,hG.p.mapB,q0,q4,LT,LS,ias24 G2.r,G2.r.rd,(G2.r.el eAct_len rfl),eAct,hh,htk,ias31 S2,S2.rd,S2.el1 rfl,m2,m3,hc,hEg,irN,nrA,nrM,nrE,reduceIte,reduceCtorEq,nrL])))|(with_reducible first|refine W_seq ?_|refine W_block ?_|refine W_skip ?_|refine W_ret ?_|refine W_exit ?_|apply blockK_exit)|((with_reducible apply blockK_pass);(focus decide))|fail)
    refine ⟨by omega,by simp only [↓pb,qbs,tb35,hG.one,lns22 hG.p,lns24 hG.r,S.one,rep_ints,Nat.mul_one,ints_at,stG_int0,S.mapB,hG.r.mapB,hG.p.mapB,hEg,irN,nrA,nrM,nrE,reduceIte,reduceCtorEq,nrL];exact congrArg _ (inc64 (by omega)),by focus exact frA, ?_⟩
    refine ⟨?_, ?_,by omega⟩
    ·simp (disch:=first|exact dA|fail) only [qcs,tb35,hG.one,lns22 hG.p,lns24 hG.r,S.one,rep_ints,Nat.mul_one,ints_at,stG_int0,S.mapB,hG.r.mapB,hG.p.mapB,hEg,irN,nrA,nrM,nrE,reduceIte,reduceCtorEq,nrL]
     rw [hstep,dayStep,if_neg (by rw [htk];simp)]
     rfl
    ·simp (disch:=first|exact dA|fail) only [qcs,tb35,hG.one,lns22 hG.p,lns24 hG.r,S.one,rep_ints,Nat.mul_one,ints_at,stG_int0,S.mapB,hG.r.mapB,hG.p.mapB,hEg,irN,nrA,nrM,nrE,reduceIte,reduceCtorEq,nrL]
     rw [hstep,dayStep,if_neg (by rw [htk];simp)]
   | true =>
    repeat' (first|((with_reducible refine hK _ _ fun e2 hEn=>?_);clear hK K;simp only [lv35,forallC,forallL,and_true] at hEn;(try simp only [↓pb,qbs,tb35,hG.one,lns22 hG.p,lns24 hG.r,S.one,rep_ints,Nat.mul_one,ints_at,stG_int0,S.mapB,hG.r.mapB,hG.p.mapB,hEg,irN,nrA,nrM,nrE,reduceIte,reduceCtorEq,nrL] at hEn);clear hEg;(try clear eg);have hEg:=hEn;clear hEn;rename Env=>eg)|((first|((with_reducible first|apply oV_intro|apply oH_intro|apply oB_intro);(simp (disch:=first|exact dA|fail) only [qcs,tb35,hG.one,lns22 hG.p,lns24 hG.r,S.one,rep_ints,Nat.mul_one,ints_at,stG_int0,S.mapB,hG.r.mapB,hG.p.mapB,q0,q4,LT,LS,ias24 G2.r,G2.r.rd,(G2.r.el eAct_len rfl),eAct,hh,htk,ias31 S2,S2.rd,S2.el1 rfl,m2,m3,hEg,irN,nrA,nrM,nrE,reduceIte,reduceCtorEq,nrL];with_reducible exact rfl))|((with_reducible first|apply oblA_and|apply oblR_and|apply oblO_and);(focus exact obA))|(with_reducible first|refine W_regionF lv35 fun K hK=>?_|refine W_drawnF lv35 fun K hK=>?_));try simp only [↓pb,↓pd,qds,tb35,hG.one,lns22 hG.p,lns24 hG.r,S.one,rep_ints,Nat.mul_one,ints_at,stG_int0,S.mapB,hG.r.mapB,hG.p.mapB,q0,q4,LT,LS,ias24 G2.r,G2.r.rd,(G2.r.el eAct_len rfl),eAct,hh,htk,ias31 S2,S2.rd,S2.el1 rfl,m2,m3,hEg,irN,nrA,nrM,nrE,reduceIte,reduceCtorEq,nrL])|((first|((with_reducible first|apply WO_gT|apply WO_gF|apply WD_gT|apply WD_gF);exact rfl)|(with_reducible apply W_cond));(simp only [↓pb,qbs,tb35,hG.one,lns22 hG.p,lns24 hG.r,S.one,rep_ints,Nat.mul_one,ints_at,stG_int0,S.mapB,hG.r.mapB,hG.p.mapB,q0,q4,LT,LS,ias24 G2.r,G2.r.rd,(G2.r.el eAct_len rfl),eAct,hh,htk,ias31 S2,S2.rd,S2.el1 rfl,m2,m3,hEg,irN,nrA,nrM,nrE,reduceIte,reduceCtorEq,nrL];with_reducible exact rfl);all_goals (intro hc;(first|exact hcX hc|try simp only [hcs] at hc);try ((with_reducible first|apply woI|apply wdI);simp only [↓pb,↓pd,qds,tb35,hG.one,lns22 hG.p,lns24 hG.r,S.one,rep_ints,Nat.mul_one,ints_at,stG_int0,S.mapB,hG.r.mapB,hG.p.mapB,q0,q4,LT,LS,ias24 G2.r,G2.r.rd,(G2.r.el eAct_len rfl),eAct,hh,htk,ias31 S2,S2.rd,S2.el1 rfl,m2,m3,hc,hEg,irN,nrA,nrM,nrE,reduceIte,reduceCtorEq,nrL])))|(with_reducible first|refine W_seq ?_|refine W_block ?_|refine W_skip ?_|refine W_ret ?_|refine W_exit ?_|apply blockK_exit)|((with_reducible apply blockK_pass);(focus decide))|fail)
    obtain ⟨AC,hAC⟩:∃ AC:List Value,AC=[iv (g.Acts.getD i2 default).Hour,iv (g.Acts.getD i2 default).Spot,iv (g.Acts.getD i2 default).Kind,iv (g.Acts.getD i2 default).Min,iv (g.Acts.getD i2 default).Max,.bool true]:=⟨_,rfl⟩
    rw [← hAC]
    obtain ⟨spx,hspe⟩:∃ spx,spx=(g.Acts.getD i2 default).Spot:=⟨_,rfl⟩
    obtain ⟨tu,htu⟩:∃ tu,tu=truth.getD i2 0:=⟨_,rfl⟩
    obtain ⟨lf,hlf⟩:∃ lf,lf=(dayRun g truth i2).left:=⟨_,rfl⟩
    refine W_count [1,2,3,4,8,9,11,12] (by kernel_rfl) 14 (i2) (H.n) [H.n + 2] [] (fun i e h=>∃ s,s=tkRun g.Acts spx i (tu,lf)∧e 13=iv s.1∧h.get (H.n + 2)=.cells (ints s.2) 3 .ex) (by simp only [↓pb,qbs,tb35,hG.one,lns22 hG.p,lns24 hG.r,S.one,rep_ints,Nat.mul_one,ints_at,stG_int0,S.mapB,hG.r.mapB,hG.p.mapB,hEg,irN,nrA,nrM,nrE,reduceIte,reduceCtorEq,nrL]) (by focus exact topA) (H0:=H) (by focus exact frA) (by intro b hb hlt;simp at hb ⊢;try omega) ?_ ?_
    rotate_left
    intro i3 e3 h3 hi3 hE3 ei3 hF3 hF03 hTh3 hJ3
    simp only [forallC,forallL,and_true] at hE3
    try simp only [↓pb,qbs,tb35,hG.one,lns22 hG.p,lns24 hG.r,S.one,rep_ints,Nat.mul_one,ints_at,stG_int0,S.mapB,hG.r.mapB,hG.p.mapB,hEg,irN,nrA,nrM,nrE,reduceIte,reduceCtorEq,nrL] at hE3
    have hn13:=hF3.n;have hn03:=hF03.n;try simp only [upd_n,jn_n] at hn13
    replace hEg:=And.intro ei3 hE3
    rotate_left
    ·refine ⟨_,rfl, ?_, ?_⟩
     ·simp only [↓pb,qbs,tb35,hG.one,lns22 hG.p,lns24 hG.r,S.one,rep_ints,Nat.mul_one,ints_at,stG_int0,S.mapB,hG.r.mapB,hG.p.mapB,hEg,irN,nrA,nrM,nrE,reduceIte,reduceCtorEq,nrL]
      rw [htu]
      rfl
     ·simp (disch:=first|exact dA|fail) only [qcs,tb35,hG.one,lns22 hG.p,lns24 hG.r,S.one,rep_ints,Nat.mul_one,ints_at,stG_int0,S.mapB,hG.r.mapB,hG.p.mapB,hEg,irN,nrA,nrM,nrE,reduceIte,reduceCtorEq,nrL]
      rw [m2,hlf]
      rfl
    obtain ⟨s,hs,p13,p2⟩:=hJ3
    have ls:s.2.length=g.Acts.length:=by rw [hs,tkRun_len,hlf];exact dl.1
    have F12:Fr H.n [H.n + 2,H.n + 3] h1 h3:=Fr.trans (B:=h2.upd (h2.n + 1) h2.n (.cells AC 30 .ex)) (by exact frA) (Fr.mono hF3 (Nat.le_refl _) (by intro b hb _;simp at hb ⊢;omega))
    have G3:=G2.fr (N:=H.n) (B:=h2.upd (h2.n + 1) h2.n (.cells AC 30 .ex)) (by exact frA)
    have G4:RG h3 va vb vc g:=hG.fr hF03
    have l5:=G4.r.lt
    have w0:h3.get H.n=.cells [va,vb,vc] 26 .ex:=by
     rw [hF3.old _ (by simp only [↓pb,qbs,tb35,hG.one,lns22 hG.p,lns24 hG.r,S.one,rep_ints,Nat.mul_one,ints_at,stG_int0,S.mapB,hG.r.mapB,hG.p.mapB,hEg,irN,nrA,nrM,nrE,reduceIte,reduceCtorEq,nrL];omega) nxA]
     simp (disch:=first|exact dA|fail) only [qcs,tb35,hG.one,lns22 hG.p,lns24 hG.r,S.one,rep_ints,Nat.mul_one,ints_at,stG_int0,S.mapB,hG.r.mapB,hG.p.mapB,hEg,irN,nrA,nrM,nrE,reduceIte,reduceCtorEq,nrL]
     exact m0
    have w4:h3.get (H.n + 4)=.cells [LT,LS] 61 .ex:=by
     rw [hF3.old _ (by simp only [↓pb,qbs,tb35,hG.one,lns22 hG.p,lns24 hG.r,S.one,rep_ints,Nat.mul_one,ints_at,stG_int0,S.mapB,hG.r.mapB,hG.p.mapB,hEg,irN,nrA,nrM,nrE,reduceIte,reduceCtorEq,nrL];omega) nxA]
     simp (disch:=first|exact dA|fail) only [qcs,tb35,hG.one,lns22 hG.p,lns24 hG.r,S.one,rep_ints,Nat.mul_one,ints_at,stG_int0,S.mapB,hG.r.mapB,hG.p.mapB,hEg,irN,nrA,nrM,nrE,reduceIte,reduceCtorEq,nrL]
     exact m4
    have w5:h3.get h2.n=.cells AC 30 .ex:=by
     rw [hF3.old _ (by simp only [↓pb,qbs,tb35,hG.one,lns22 hG.p,lns24 hG.r,S.one,rep_ints,Nat.mul_one,ints_at,stG_int0,S.mapB,hG.r.mapB,hG.p.mapB,hEg,irN,nrA,nrM,nrE,reduceIte,reduceCtorEq,nrL];omega) nxA]
     simp (disch:=first|exact dA|fail) only [qcs,tb35,hG.one,lns22 hG.p,lns24 hG.r,S.one,rep_ints,Nat.mul_one,ints_at,stG_int0,S.mapB,hG.r.mapB,hG.p.mapB,hEg,irN,nrA,nrM,nrE,reduceIte,reduceCtorEq,nrL]
    have v0:h3.rd H.n=some [va,vb,vc]:=by rw [rd_def,w0];rfl
    have v4:h3.rd (H.n + 4)=some [LT,LS]:=by rw [rd_def,w4];rfl
    have v5:h3.rd h2.n=some AC:=by rw [rd_def,w5];rfl
    have v2:h3.rd (H.n + 2)=some (ints s.2):=by rw [rd_def,p2];rfl
    have hrun:=tkRun_succ g.Acts spx i3 (tu,lf)
    rw [← hs] at hrun
    by_cases hj3:i3 < i2
    ·cases hk:(g.Acts.getD i3 default).Take with
     | false =>
      by_cases he:(g.Acts.getD i3 default).Spot=spx
      ·rw [hspe] at he
       repeat' (first|((with_reducible refine hK _ _ fun e2 hEn=>?_);clear hK K;simp only [lv35,forallC,forallL,and_true] at hEn;(try simp only [↓pb,qbs,tb35,hG.one,lns22 hG.p,lns24 hG.r,S.one,rep_ints,Nat.mul_one,ints_at,stG_int0,S.mapB,hG.r.mapB,hG.p.mapB,hEg,irN,nrA,nrM,nrE,reduceIte,reduceCtorEq,nrL] at hEn);clear hEg;(try clear eg);have hEg:=hEn;clear hEn;rename Env=>eg)|((first|((with_reducible first|apply oV_intro|apply oH_intro|apply oB_intro);(simp (disch:=first|exact dA|fail) only [qcs,tb35,hG.one,lns22 hG.p,lns24 hG.r,S.one,rep_ints,Nat.mul_one,ints_at,stG_int0,S.mapB,hG.r.mapB,hG.p.mapB,v0,v4,v5,v2,hAC,LT,LS,ias24 G4.r,G4.r.rd,(G4.r.el eAct_len rfl),eAct,hk,p13,p2,he,hEg,irN,nrA,nrM,nrE,reduceIte,reduceCtorEq,nrL];with_reducible exact rfl))|((with_reducible first|apply oblA_and|apply oblR_and|apply oblO_and);(focus exact obA))|(with_reducible first|refine W_regionF lv35 fun K hK=>?_|refine W_drawnF lv35 fun K hK=>?_));try simp only [↓pb,↓pd,qds,tb35,hG.one,lns22 hG.p,lns24 hG.r,S.one,rep_ints,Nat.mul_one,ints_at,stG_int0,S.mapB,hG.r.mapB,hG.p.mapB,v0,v4,v5,v2,hAC,LT,LS,ias24 G4.r,G4.r.rd,(G4.r.el eAct_len rfl),eAct,hk,p13,p2,he,hEg,irN,nrA,nrM,nrE,reduceIte,reduceCtorEq,nrL])|((first|((with_reducible first|apply WO_gT|apply WO_gF|apply WD_gT|apply WD_gF);exact rfl)|(with_reducible apply W_cond));(simp only [↓pb,qbs,tb35,hG.one,lns22 hG.p,lns24 hG.r,S.one,rep_ints,Nat.mul_one,ints_at,stG_int0,S.mapB,hG.r.mapB,hG.p.mapB,v0,v4,v5,v2,hAC,LT,LS,ias24 G4.r,G4.r.rd,(G4.r.el eAct_len rfl),eAct,hk,p13,p2,he,hEg,irN,nrA,nrM,nrE,reduceIte,reduceCtorEq,nrL];with_reducible exact rfl);all_goals (intro hc;(first|exact hcX hc|try simp only [hcs] at hc);try ((with_reducible first|apply woI|apply wdI);simp only [↓pb,↓pd,qds,tb35,hG.one,lns22 hG.p,lns24 hG.r,S.one,rep_ints,Nat.mul_one,ints_at,stG_int0,S.mapB,hG.r.mapB,hG.p.mapB,v0,v4,v5,v2,hAC,LT,LS,ias24 G4.r,G4.r.rd,(G4.r.el eAct_len rfl),eAct,hk,p13,p2,he,hc,hEg,irN,nrA,nrM,nrE,reduceIte,reduceCtorEq,nrL])))|(with_reducible first|refine W_seq ?_|refine W_block ?_|refine W_skip ?_|refine W_ret ?_|refine W_exit ?_|apply blockK_exit)|((with_reducible apply blockK_pass);(focus decide))|fail)
       have hst:tkStep g.Acts spx s i3=(w64 (s.1 - min s.1 (s.2.getD i3 0)),s.2.set i3 (w64 (s.2.getD i3 0 - min s.1 (s.2.getD i3 0)))):=if_pos ⟨by rw [hspe];exact he,hk⟩
       refine ⟨by omega,by simp only [↓pb,qbs,tb35,hG.one,lns22 hG.p,lns24 hG.r,S.one,rep_ints,Nat.mul_one,ints_at,stG_int0,S.mapB,hG.r.mapB,hG.p.mapB,hEg,irN,nrA,nrM,nrE,reduceIte,reduceCtorEq,nrL];exact congrArg _ (inc64 (by omega)),by focus exact frA, ?_⟩
       refine ⟨_,rfl, ?_, ?_⟩
       ·simp only [↓pb,qbs,tb35,hG.one,lns22 hG.p,lns24 hG.r,S.one,rep_ints,Nat.mul_one,ints_at,stG_int0,S.mapB,hG.r.mapB,hG.p.mapB,hEg,irN,nrA,nrM,nrE,reduceIte,reduceCtorEq,nrL]
        rw [hrun,hst]
        rfl
       ·simp (disch:=first|exact dA|fail) only [qcs,tb35,hG.one,lns22 hG.p,lns24 hG.r,S.one,rep_ints,Nat.mul_one,ints_at,stG_int0,S.mapB,hG.r.mapB,hG.p.mapB,hEg,irN,nrA,nrM,nrE,reduceIte,reduceCtorEq,nrL]
        rw [hrun,hst]
        rfl
      ·have hst:tkStep g.Acts spx s i3=s:=if_neg fun q=>he q.1
       rw [hspe] at he
       repeat' (first|((with_reducible refine hK _ _ fun e2 hEn=>?_);clear hK K;simp only [lv35,forallC,forallL,and_true] at hEn;(try simp only [↓pb,qbs,tb35,hG.one,lns22 hG.p,lns24 hG.r,S.one,rep_ints,Nat.mul_one,ints_at,stG_int0,S.mapB,hG.r.mapB,hG.p.mapB,hEg,irN,nrA,nrM,nrE,reduceIte,reduceCtorEq,nrL] at hEn);clear hEg;(try clear eg);have hEg:=hEn;clear hEn;rename Env=>eg)|((first|((with_reducible first|apply oV_intro|apply oH_intro|apply oB_intro);(simp (disch:=first|exact dA|fail) only [qcs,tb35,hG.one,lns22 hG.p,lns24 hG.r,S.one,rep_ints,Nat.mul_one,ints_at,stG_int0,S.mapB,hG.r.mapB,hG.p.mapB,v0,v4,v5,v2,hAC,LT,LS,ias24 G4.r,G4.r.rd,(G4.r.el eAct_len rfl),eAct,hk,p13,p2,he,hEg,irN,nrA,nrM,nrE,reduceIte,reduceCtorEq,nrL];with_reducible exact rfl))|((with_reducible first|apply oblA_and|apply oblR_and|apply oblO_and);(focus exact obA))|(with_reducible first|refine W_regionF lv35 fun K hK=>?_|refine W_drawnF lv35 fun K hK=>?_));try simp only [↓pb,↓pd,qds,tb35,hG.one,lns22 hG.p,lns24 hG.r,S.one,rep_ints,Nat.mul_one,ints_at,stG_int0,S.mapB,hG.r.mapB,hG.p.mapB,v0,v4,v5,v2,hAC,LT,LS,ias24 G4.r,G4.r.rd,(G4.r.el eAct_len rfl),eAct,hk,p13,p2,he,hEg,irN,nrA,nrM,nrE,reduceIte,reduceCtorEq,nrL])|((first|((with_reducible first|apply WO_gT|apply WO_gF|apply WD_gT|apply WD_gF);exact rfl)|(with_reducible apply W_cond));(simp only [↓pb,qbs,tb35,hG.one,lns22 hG.p,lns24 hG.r,S.one,rep_ints,Nat.mul_one,ints_at,stG_int0,S.mapB,hG.r.mapB,hG.p.mapB,v0,v4,v5,v2,hAC,LT,LS,ias24 G4.r,G4.r.rd,(G4.r.el eAct_len rfl),eAct,hk,p13,p2,he,hEg,irN,nrA,nrM,nrE,reduceIte,reduceCtorEq,nrL];with_reducible exact rfl);all_goals (intro hc;(first|exact hcX hc|try simp only [hcs] at hc);try ((with_reducible first|apply woI|apply wdI);simp only [↓pb,↓pd,qds,tb35,hG.one,lns22 hG.p,lns24 hG.r,S.one,rep_ints,Nat.mul_one,ints_at,stG_int0,S.mapB,hG.r.mapB,hG.p.mapB,v0,v4,v5,v2,hAC,LT,LS,ias24 G4.r,G4.r.rd,(G4.r.el eAct_len rfl),eAct,hk,p13,p2,he,hc,hEg,irN,nrA,nrM,nrE,reduceIte,reduceCtorEq,nrL])))|(with_reducible first|refine W_seq ?_|refine W_block ?_|refine W_skip ?_|refine W_ret ?_|refine W_exit ?_|apply blockK_exit)|((with_reducible apply blockK_pass);(focus decide))|fail)
       refine ⟨by omega,by simp only [↓pb,qbs,tb35,hG.one,lns22 hG.p,lns24 hG.r,S.one,rep_ints,Nat.mul_one,ints_at,stG_int0,S.mapB,hG.r.mapB,hG.p.mapB,hEg,irN,nrA,nrM,nrE,reduceIte,reduceCtorEq,nrL];exact congrArg _ (inc64 (by omega)),by focus exact frA, ?_⟩
       refine ⟨s,by rw [hrun,hst], ?_, ?_⟩
       ·simp only [↓pb,qbs,tb35,hG.one,lns22 hG.p,lns24 hG.r,S.one,rep_ints,Nat.mul_one,ints_at,stG_int0,S.mapB,hG.r.mapB,hG.p.mapB,p13,hEg,irN,nrA,nrM,nrE,reduceIte,reduceCtorEq,nrL]
       ·exact p2
     | true =>
      have hst:tkStep g.Acts spx s i3=s:=if_neg fun q=>by rw [hk] at q;cases q.2
      repeat' (first|((with_reducible refine hK _ _ fun e2 hEn=>?_);clear hK K;simp only [lv35,forallC,forallL,and_true] at hEn;(try simp only [↓pb,qbs,tb35,hG.one,lns22 hG.p,lns24 hG.r,S.one,rep_ints,Nat.mul_one,ints_at,stG_int0,S.mapB,hG.r.mapB,hG.p.mapB,hEg,irN,nrA,nrM,nrE,reduceIte,reduceCtorEq,nrL] at hEn);clear hEg;(try clear eg);have hEg:=hEn;clear hEn;rename Env=>eg)|((first|((with_reducible first|apply oV_intro|apply oH_intro|apply oB_intro);(simp (disch:=first|exact dA|fail) only [qcs,tb35,hG.one,lns22 hG.p,lns24 hG.r,S.one,rep_ints,Nat.mul_one,ints_at,stG_int0,S.mapB,hG.r.mapB,hG.p.mapB,v0,v4,v5,v2,hAC,LT,LS,ias24 G4.r,G4.r.rd,(G4.r.el eAct_len rfl),eAct,hk,p13,p2,hEg,irN,nrA,nrM,nrE,reduceIte,reduceCtorEq,nrL];with_reducible exact rfl))|((with_reducible first|apply oblA_and|apply oblR_and|apply oblO_and);(focus exact obA))|(with_reducible first|refine W_regionF lv35 fun K hK=>?_|refine W_drawnF lv35 fun K hK=>?_));try simp only [↓pb,↓pd,qds,tb35,hG.one,lns22 hG.p,lns24 hG.r,S.one,rep_ints,Nat.mul_one,ints_at,stG_int0,S.mapB,hG.r.mapB,hG.p.mapB,v0,v4,v5,v2,hAC,LT,LS,ias24 G4.r,G4.r.rd,(G4.r.el eAct_len rfl),eAct,hk,p13,p2,hEg,irN,nrA,nrM,nrE,reduceIte,reduceCtorEq,nrL])|((first|((with_reducible first|apply WO_gT|apply WO_gF|apply WD_gT|apply WD_gF);exact rfl)|(with_reducible apply W_cond));(simp only [↓pb,qbs,tb35,hG.one,lns22 hG.p,lns24 hG.r,S.one,rep_ints,Nat.mul_one,ints_at,stG_int0,S.mapB,hG.r.mapB,hG.p.mapB,v0,v4,v5,v2,hAC,LT,LS,ias24 G4.r,G4.r.rd,(G4.r.el eAct_len rfl),eAct,hk,p13,p2,hEg,irN,nrA,nrM,nrE,reduceIte,reduceCtorEq,nrL];with_reducible exact rfl);all_goals (intro hc;(first|exact hcX hc|try simp only [hcs] at hc);try ((with_reducible first|apply woI|apply wdI);simp only [↓pb,↓pd,qds,tb35,hG.one,lns22 hG.p,lns24 hG.r,S.one,rep_ints,Nat.mul_one,ints_at,stG_int0,S.mapB,hG.r.mapB,hG.p.mapB,v0,v4,v5,v2,hAC,LT,LS,ias24 G4.r,G4.r.rd,(G4.r.el eAct_len rfl),eAct,hk,p13,p2,hc,hEg,irN,nrA,nrM,nrE,reduceIte,reduceCtorEq,nrL])))|(with_reducible first|refine W_seq ?_|refine W_block ?_|refine W_skip ?_|refine W_ret ?_|refine W_exit ?_|apply blockK_exit)|((with_reducible apply blockK_pass);(focus decide))|fail)
      all_goals (
       refine ⟨by omega,by simp only [↓pb,qbs,tb35,hG.one,lns22 hG.p,lns24 hG.r,S.one,rep_ints,Nat.mul_one,ints_at,stG_int0,S.mapB,hG.r.mapB,hG.p.mapB,hEg,irN,nrA,nrM,nrE,reduceIte,reduceCtorEq,nrL];exact congrArg _ (inc64 (by omega)),by focus exact frA, ?_⟩)
      all_goals refine ⟨s,by rw [hrun,hst], ?_, ?_⟩
      all_goals first|exact p2|(simp only [↓pb,qbs,tb35,hG.one,lns22 hG.p,lns24 hG.r,S.one,rep_ints,Nat.mul_one,ints_at,stG_int0,S.mapB,hG.r.mapB,hG.p.mapB,p13,hEg,irN,nrA,nrM,nrE,reduceIte,reduceCtorEq,nrL];done)
    ·have e3n:i3=i2:=by omega
     subst e3n
     repeat' (first|((with_reducible refine hK _ _ fun e2 hEn=>?_);clear hK K;simp only [lv35,forallC,forallL,and_true] at hEn;(try simp only [↓pb,qbs,tb35,hG.one,lns22 hG.p,lns24 hG.r,S.one,rep_ints,Nat.mul_one,ints_at,stG_int0,S.mapB,hG.r.mapB,hG.p.mapB,hEg,irN,nrA,nrM,nrE,reduceIte,reduceCtorEq,nrL] at hEn);clear hEg;(try clear eg);have hEg:=hEn;clear hEn;rename Env=>eg)|((first|((with_reducible first|apply oV_intro|apply oH_intro|apply oB_intro);(simp (disch:=first|exact dA|fail) only [qcs,tb35,hG.one,lns22 hG.p,lns24 hG.r,S.one,rep_ints,Nat.mul_one,ints_at,stG_int0,S.mapB,hG.r.mapB,hG.p.mapB,hEg,irN,nrA,nrM,nrE,reduceIte,reduceCtorEq,nrL];with_reducible exact rfl))|((with_reducible first|apply oblA_and|apply oblR_and|apply oblO_and);(focus exact obA))|(with_reducible first|refine W_regionF lv35 fun K hK=>?_|refine W_drawnF lv35 fun K hK=>?_));try simp only [↓pb,↓pd,qds,tb35,hG.one,lns22 hG.p,lns24 hG.r,S.one,rep_ints,Nat.mul_one,ints_at,stG_int0,S.mapB,hG.r.mapB,hG.p.mapB,hEg,irN,nrA,nrM,nrE,reduceIte,reduceCtorEq,nrL])|((first|((with_reducible first|apply WO_gT|apply WO_gF|apply WD_gT|apply WD_gF);exact rfl)|(with_reducible apply W_cond));(simp only [↓pb,qbs,tb35,hG.one,lns22 hG.p,lns24 hG.r,S.one,rep_ints,Nat.mul_one,ints_at,stG_int0,S.mapB,hG.r.mapB,hG.p.mapB,hEg,irN,nrA,nrM,nrE,reduceIte,reduceCtorEq,nrL];with_reducible exact rfl);all_goals (intro hc;(first|exact hcX hc|try simp only [hcs] at hc);try ((with_reducible first|apply woI|apply wdI);simp only [↓pb,↓pd,qds,tb35,hG.one,lns22 hG.p,lns24 hG.r,S.one,rep_ints,Nat.mul_one,ints_at,stG_int0,S.mapB,hG.r.mapB,hG.p.mapB,hc,hEg,irN,nrA,nrM,nrE,reduceIte,reduceCtorEq,nrL])))|(with_reducible first|refine W_seq ?_|refine W_block ?_|refine W_skip ?_|refine W_ret ?_|refine W_exit ?_|apply blockK_exit)|((with_reducible apply blockK_pass);(focus decide))|fail)
     refine ⟨by omega,by simp only [↓pb,qbs,tb35,hG.one,lns22 hG.p,lns24 hG.r,S.one,rep_ints,Nat.mul_one,ints_at,stG_int0,S.mapB,hG.r.mapB,hG.p.mapB,hEg,irN,nrA,nrM,nrE,reduceIte,reduceCtorEq,nrL];exact congrArg _ (inc64 (by omega)),F12, ?_⟩
     have hd2:(dayRun g truth (i3 + 1))=⟨s.2,(dayRun g truth i3).last⟩:=by
      rw [hstep,dayStep,if_pos htk,← hspe,← htu,← hlf,← hs]
     refine ⟨by rw [p2,hd2], ?_,by omega⟩
     rw [hF3.old _ (by simp only [↓pb,qbs,tb35,hG.one,lns22 hG.p,lns24 hG.r,S.one,rep_ints,Nat.mul_one,ints_at,stG_int0,S.mapB,hG.r.mapB,hG.p.mapB,hEg,irN,nrA,nrM,nrE,reduceIte,reduceCtorEq,nrL];omega) nxA,hd2]
     simp (disch:=first|exact dA|fail) only [qcs,tb35,hG.one,lns22 hG.p,lns24 hG.r,S.one,rep_ints,Nat.mul_one,ints_at,stG_int0,S.mapB,hG.r.mapB,hG.p.mapB,hEg,irN,nrA,nrM,nrE,reduceIte,reduceCtorEq,nrL]
     exact m3
  ·rw [hd,untilL,if_neg hh] at m5
   repeat' (first|((with_reducible refine hK _ _ fun e2 hEn=>?_);clear hK K;simp only [lv35,forallC,forallL,and_true] at hEn;(try simp only [↓pb,qbs,tb35,hG.one,lns22 hG.p,lns24 hG.r,S.one,rep_ints,Nat.mul_one,ints_at,stG_int0,S.mapB,hG.r.mapB,hG.p.mapB,hEg,irN,nrA,nrM,nrE,reduceIte,reduceCtorEq,nrL] at hEn);clear hEg;(try clear eg);have hEg:=hEn;clear hEn;rename Env=>eg)|((first|((with_reducible first|apply oV_intro|apply oH_intro|apply oB_intro);(simp (disch:=first|exact dA|fail) only [qcs,tb35,hG.one,lns22 hG.p,lns24 hG.r,S.one,rep_ints,Nat.mul_one,ints_at,stG_int0,S.mapB,hG.r.mapB,hG.p.mapB,q0,q4,LT,LS,ias24 G2.r,G2.r.rd,(G2.r.el eAct_len rfl),eAct,hh,m1,hEg,irN,nrA,nrM,nrE,reduceIte,reduceCtorEq,nrL];with_reducible exact rfl))|((with_reducible first|apply oblA_and|apply oblR_and|apply oblO_and);(focus exact obA))|(with_reducible first|refine W_regionF lv35 fun K hK=>?_|refine W_drawnF lv35 fun K hK=>?_));try simp only [↓pb,↓pd,qds,tb35,hG.one,lns22 hG.p,lns24 hG.r,S.one,rep_ints,Nat.mul_one,ints_at,stG_int0,S.mapB,hG.r.mapB,hG.p.mapB,q0,q4,LT,LS,ias24 G2.r,G2.r.rd,(G2.r.el eAct_len rfl),eAct,hh,m1,hEg,irN,nrA,nrM,nrE,reduceIte,reduceCtorEq,nrL])|((first|((with_reducible first|apply WO_gT|apply WO_gF|apply WD_gT|apply WD_gF);exact rfl)|(with_reducible apply W_cond));(simp only [↓pb,qbs,tb35,hG.one,lns22 hG.p,lns24 hG.r,S.one,rep_ints,Nat.mul_one,ints_at,stG_int0,S.mapB,hG.r.mapB,hG.p.mapB,q0,q4,LT,LS,ias24 G2.r,G2.r.rd,(G2.r.el eAct_len rfl),eAct,hh,m1,hEg,irN,nrA,nrM,nrE,reduceIte,reduceCtorEq,nrL];with_reducible exact rfl);all_goals (intro hc;(first|exact hcX hc|try simp only [hcs] at hc);try ((with_reducible first|apply woI|apply wdI);simp only [↓pb,↓pd,qds,tb35,hG.one,lns22 hG.p,lns24 hG.r,S.one,rep_ints,Nat.mul_one,ints_at,stG_int0,S.mapB,hG.r.mapB,hG.p.mapB,q0,q4,LT,LS,ias24 G2.r,G2.r.rd,(G2.r.el eAct_len rfl),eAct,hh,m1,hc,hEg,irN,nrA,nrM,nrE,reduceIte,reduceCtorEq,nrL])))|(with_reducible first|refine W_seq ?_|refine W_block ?_|refine W_skip ?_|refine W_ret ?_|refine W_exit ?_|apply blockK_exit)|((with_reducible apply blockK_pass);(focus decide))|fail)
   refine ⟨by first|exact .inl rfl|exact .inr rfl, ?_⟩
   rw [ret1 Try.results35]
   simp only [↓pb,qbs,tb35,hG.one,lns22 hG.p,lns24 hG.r,S.one,rep_ints,Nat.mul_one,ints_at,stG_int0,S.mapB,hG.r.mapB,hG.p.mapB,rv_tmp,rv_cell,hEg,irN,nrA,nrM,nrE,reduceIte,reduceCtorEq,nrL]
   repeat ((with_reducible apply oV_intro);(simp (disch:=first|exact dA|fail) only [qcs,tb35,hG.one,lns22 hG.p,lns24 hG.r,S.one,rep_ints,Nat.mul_one,ints_at,stG_int0,S.mapB,hG.r.mapB,hG.p.mapB,hEg,irN,nrA,nrM,nrE,reduceIte,reduceCtorEq,nrL];exact rfl))
   have hdo:dayOf g truth acts hour=dayRun g truth i2:=by
    unfold dayOf
    rw [m5,Nat.add_zero,Nat.min_eq_right (by omega)]
   refine ⟨⟨LT,LS,rfl, ?_, ?_⟩,(by exact frA)⟩
   ·rw [hdo]
    refine ⟨.inr ⟨_,_,_,rfl,Nat.le_refl _⟩,by rw [ints_len,dl.1,Nat.mul_one],.inr ⟨ints (dayRun g truth i2).left, ?_, ?_, ?_⟩,.inr ?_⟩
    ·show AHeap.rd _ (H.n + 2)=_
     simp (disch:=first|exact dA|fail) only [qcs,tb35,hG.one,lns22 hG.p,lns24 hG.r,S.one,rep_ints,Nat.mul_one,ints_at,stG_int0,S.mapB,hG.r.mapB,hG.p.mapB,hEg,irN,nrA,nrM,nrE,reduceIte,reduceCtorEq,nrL]
     exact q2
    ·show 0 + g.Acts.length * 1≤_
     rw [ints_len,dl.1];omega
    ·show ((ints _).drop 0).take (g.Acts.length * 1)=_
     rw [List.drop_zero,List.take_of_length_le (by rw [ints_len,dl.1];omega)]
    ·show H.n + 2 < h2.n
     omega
   ·rw [hdo]
    refine ⟨.inr ⟨_,_,_,rfl,Nat.le_refl _⟩,by rw [ints_len,dl.2,Nat.mul_one],.inr ⟨ints (dayRun g truth i2).last, ?_, ?_, ?_⟩,.inr ?_⟩
    ·show AHeap.rd _ (H.n + 3)=_
     simp (disch:=first|exact dA|fail) only [qcs,tb35,hG.one,lns22 hG.p,lns24 hG.r,S.one,rep_ints,Nat.mul_one,ints_at,stG_int0,S.mapB,hG.r.mapB,hG.p.mapB,hEg,irN,nrA,nrM,nrE,reduceIte,reduceCtorEq,nrL]
     exact q3
    ·show 0 + g.Spots.length * 1≤_
     rw [ints_len,dl.2];omega
    ·show ((ints _).drop 0).take (g.Spots.length * 1)=_
     rw [List.drop_zero,List.take_of_length_le (by rw [ints_len,dl.2];omega)]
    ·show H.n + 3 < h2.n
     omega
 ·have e2n:i2=acts:=by omega
  repeat' (first|((with_reducible refine hK _ _ fun e2 hEn=>?_);clear hK K;simp only [lv35,forallC,forallL,and_true] at hEn;(try simp only [↓pb,qbs,tb35,hG.one,lns22 hG.p,lns24 hG.r,S.one,rep_ints,Nat.mul_one,ints_at,stG_int0,S.mapB,hG.r.mapB,hG.p.mapB,hEg,irN,nrA,nrM,nrE,reduceIte,reduceCtorEq,nrL] at hEn);clear hEg;(try clear eg);have hEg:=hEn;clear hEn;rename Env=>eg)|((first|((with_reducible first|apply oV_intro|apply oH_intro|apply oB_intro);(simp (disch:=first|exact dA|fail) only [qcs,tb35,hG.one,lns22 hG.p,lns24 hG.r,S.one,rep_ints,Nat.mul_one,ints_at,stG_int0,S.mapB,hG.r.mapB,hG.p.mapB,q0,q4,LT,LS,m1,hEg,irN,nrA,nrM,nrE,reduceIte,reduceCtorEq,nrL];with_reducible exact rfl))|((with_reducible first|apply oblA_and|apply oblR_and|apply oblO_and);(focus exact obA))|(with_reducible first|refine W_regionF lv35 fun K hK=>?_|refine W_drawnF lv35 fun K hK=>?_));try simp only [↓pb,↓pd,qds,tb35,hG.one,lns22 hG.p,lns24 hG.r,S.one,rep_ints,Nat.mul_one,ints_at,stG_int0,S.mapB,hG.r.mapB,hG.p.mapB,q0,q4,LT,LS,m1,hEg,irN,nrA,nrM,nrE,reduceIte,reduceCtorEq,nrL])|((first|((with_reducible first|apply WO_gT|apply WO_gF|apply WD_gT|apply WD_gF);exact rfl)|(with_reducible apply W_cond));(simp only [↓pb,qbs,tb35,hG.one,lns22 hG.p,lns24 hG.r,S.one,rep_ints,Nat.mul_one,ints_at,stG_int0,S.mapB,hG.r.mapB,hG.p.mapB,q0,q4,LT,LS,m1,hEg,irN,nrA,nrM,nrE,reduceIte,reduceCtorEq,nrL];with_reducible exact rfl);all_goals (intro hc;(first|exact hcX hc|try simp only [hcs] at hc);try ((with_reducible first|apply woI|apply wdI);simp only [↓pb,↓pd,qds,tb35,hG.one,lns22 hG.p,lns24 hG.r,S.one,rep_ints,Nat.mul_one,ints_at,stG_int0,S.mapB,hG.r.mapB,hG.p.mapB,q0,q4,LT,LS,m1,hc,hEg,irN,nrA,nrM,nrE,reduceIte,reduceCtorEq,nrL])))|(with_reducible first|refine W_seq ?_|refine W_block ?_|refine W_skip ?_|refine W_ret ?_|refine W_exit ?_|apply blockK_exit)|((with_reducible apply blockK_pass);(focus decide))|fail)
  refine ⟨by first|exact .inl rfl|exact .inr rfl, ?_⟩
  rw [ret1 Try.results35]
  simp only [↓pb,qbs,tb35,hG.one,lns22 hG.p,lns24 hG.r,S.one,rep_ints,Nat.mul_one,ints_at,stG_int0,S.mapB,hG.r.mapB,hG.p.mapB,rv_tmp,rv_cell,hEg,irN,nrA,nrM,nrE,reduceIte,reduceCtorEq,nrL]
  repeat ((with_reducible apply oV_intro);(simp (disch:=first|exact dA|fail) only [qcs,tb35,hG.one,lns22 hG.p,lns24 hG.r,S.one,rep_ints,Nat.mul_one,ints_at,stG_int0,S.mapB,hG.r.mapB,hG.p.mapB,hEg,irN,nrA,nrM,nrE,reduceIte,reduceCtorEq,nrL];exact rfl))
  have hdo:dayOf g truth acts hour=dayRun g truth i2:=by
   unfold dayOf
   rw [m5,e2n,Nat.min_eq_left (by omega)]
  refine ⟨⟨LT,LS,rfl, ?_, ?_⟩,(by exact frA)⟩
  ·rw [hdo]
   refine ⟨.inr ⟨_,_,_,rfl,Nat.le_refl _⟩,by rw [ints_len,dl.1,Nat.mul_one],.inr ⟨ints (dayRun g truth i2).left, ?_, ?_, ?_⟩,.inr ?_⟩
   ·show AHeap.rd _ (H.n + 2)=_
    simp (disch:=first|exact dA|fail) only [qcs,tb35,hG.one,lns22 hG.p,lns24 hG.r,S.one,rep_ints,Nat.mul_one,ints_at,stG_int0,S.mapB,hG.r.mapB,hG.p.mapB,hEg,irN,nrA,nrM,nrE,reduceIte,reduceCtorEq,nrL]
    exact q2
   ·show 0 + g.Acts.length * 1≤_
    rw [ints_len,dl.1];omega
   ·show ((ints _).drop 0).take (g.Acts.length * 1)=_
    rw [List.drop_zero,List.take_of_length_le (by rw [ints_len,dl.1];omega)]
   ·show H.n + 2 < h2.n
    omega
  ·rw [hdo]
   refine ⟨.inr ⟨_,_,_,rfl,Nat.le_refl _⟩,by rw [ints_len,dl.2,Nat.mul_one],.inr ⟨ints (dayRun g truth i2).last, ?_, ?_, ?_⟩,.inr ?_⟩
   ·show AHeap.rd _ (H.n + 3)=_
    simp (disch:=first|exact dA|fail) only [qcs,tb35,hG.one,lns22 hG.p,lns24 hG.r,S.one,rep_ints,Nat.mul_one,ints_at,stG_int0,S.mapB,hG.r.mapB,hG.p.mapB,hEg,irN,nrA,nrM,nrE,reduceIte,reduceCtorEq,nrL]
    exact q3
   ·show 0 + g.Spots.length * 1≤_
    rw [ints_len,dl.2];omega
   ·show ((ints _).drop 0).take (g.Spots.length * 1)=_
    rw [List.drop_zero,List.take_of_length_le (by rw [ints_len,dl.2];omega)]
   ·show H.n + 3 < h2.n
    omega
noncomputable def lkG (o:AObj) (k:Value):Option Value:=match o with
 | .map es=>match findM Try.prog 131 k es 0 with|some (some (_,v))=>some v|some none=>some (.int .i64 0)|none=>none
 | _=>none
theorem lk_of {H:AHeap} {r:Nat} {a b:Int}:lookupA Try.prog 128 (.map (some r)) (k2 a b) false H=lkG (H.get r) (k2 a b):=by
 unfold lookupA lkG
 rw [und128]
 dsimp only
 rw [if_pos (keyOk_k2 und131 sz3 ag3 und3 a b),zr3]
 unfold entsA
 dsimp only
 cases H.get r with
 | map es =>
  dsimp only
  rw [if_pos (show dflat (.int .i64 0)=true from rfl)]
  cases findM Try.prog 131 (k2 a b) es 0 with
  | none=>rfl
  | some x=>cases x <;> rfl
 | _=>rfl
theorem lkG_hit {l:List Ent2} {a b d:Int} {i:Nat} (hn:findE a b l 0=some (i,iv d)):lkG (.map (entK l)) (k2 a b)=some (iv d):=by
 unfold lkG
 dsimp only
 rw [findM_k2 und131 sz3 ag3 und3,hn]

theorem SR.offR {H:AHeap} {s n:Nat} {v:Value} {c:List Value} {b:Nat} {u:Value} {T:TypeId} (h:SR H s n v c) (hg:H.get b=.cells [u] T .ex) (hs:2≤s):n=0∨vblk v∉[b]:=by
 by_cases hn:n=0
 ·exact .inl hn
 ·right
  intro hm
  have hm:vblk v=b:=List.mem_singleton.1 hm
  rcases h.cells with q|⟨d,h1,h2,_⟩
  ·exact hn q
  ·rw [hm,rd_def,hg] at h1
   cases h1
   have:voff v + n * s≤1:=h2
   have:1 * 2≤n * s:=Nat.mul_le_mul (by omega) hs
   omega
theorem RG.frR {N:Nat} {A B:AHeap} {b:Nat} {u:Value} {T:TypeId} (hF:Fr N [b] A B) (hg:A.get b=.cells [u] T .ex) {va vb vc:Value} {g:Gnd} (h:RG A va vb vc g):RG B va vb vc g :=
 ⟨h.p.fr hF (h.p.offR hg (by omega)),h.q.fr hF (h.q.offR hg (by omega)),h.r.fr hF (h.r.offR hg (by omega))⟩
theorem SR.offU {H:AHeap} {l:List Int} {v:Value} {b:Nat} {x:Int} {T:TypeId} (h:SR H 1 l.length v (ints l)) (hg:H.get b=.cells [uv x] T .ex):l.length=0∨vblk v∉[b]:=by
 by_cases hn:l.length=0
 ·exact .inl hn
 ·right
  intro hm
  have hm:vblk v=b:=List.mem_singleton.1 hm
  rcases h.cells with q|⟨d,h1,h2,h3⟩
  ·exact hn q
  ·rw [hm,rd_def,hg] at h1
   cases h1
   cases l with
   | nil=>exact hn rfl
   | cons y l =>
    have h2:voff v + (l.length + 1) * 1≤1:=h2
    have e0:voff v=0:=by omega
    have e1:l=[]:=List.eq_nil_of_length_eq_zero (by omega)
    subst e1
    rw [e0] at h3
    cases h3
theorem SR.whole {H:AHeap} {s n b:Nat} {c:List Value} {T:TypeId} (hb:b < H.n) (hg:H.get b=.cells c T .ex) (hl:c.length=n * s):SR H s n (.slice (some ⟨b,0,none⟩) n n) c:=by
 refine ⟨.inr ⟨_,_,_,rfl,Nat.le_refl _⟩,hl,.inr ⟨c, ?_, ?_, ?_⟩,.inr hb⟩
 ·rw [rd_def]
  show rdO (H.get b)=_
  rw [hg];rfl
 ·show 0 + n * s≤c.length
  omega
 ·show (c.drop 0).take (n * s)=c
  rw [List.drop_zero,List.take_of_length_le (by omega)]
theorem f111 (b:Nat) (w:Way) (H:AHeap) (hT:Top H) (hb:b < H.n) (hg:H.get b=.cells (eWay w) 144 .ex):∃ v H',C5 (.fn 111) #[vptr b 0] H v H'∧SR H' 4 1 v ([w].flatMap eWay)∧Fr H.n [] H H':=by
 have hr:H.rd b=some (eWay w):=by rw [rd_def,hg];rfl
 have hl:=eWay_len w
 refine Cl.ofW Try.func111 rfl (by kernel_rfl) (by rw [Try.ntmps111];exact Nat.le_of_ble_eq_true rfl) (by kernel_rfl) ?_
 have hEg:True:=trivial
 refine gcW [0] ?_
 intro eg hEn
 simp only [forallC,forallL,and_true] at hEn
 try simp only [↓pb,qbs,tb111,hr,hEg,irN,nrA,nrM,nrE,reduceIte,reduceCtorEq,nrL] at hEn
 replace hEg:=hEn;clear hEn
 repeat' (first|((with_reducible refine hK _ _ fun e2 hEn=>?_);clear hK K;simp only [lv111,forallC,forallL,and_true] at hEn;(try simp only [↓pb,qbs,tb111,hr,hEg,irN,nrA,nrM,nrE,reduceIte,reduceCtorEq,nrL] at hEn);clear hEg;(try clear eg);have hEg:=hEn;clear hEn;rename Env=>eg)|((first|((with_reducible first|apply oV_intro|apply oH_intro|apply oB_intro);(simp (disch:=first|exact dA|fail) only [qcs,tb111,hr,atN_all hl,hEg,irN,nrA,nrM,nrE,reduceIte,reduceCtorEq,nrL];with_reducible exact rfl))|(with_reducible first|refine W_regionF lv111 fun K hK=>?_));try simp only [↓pb,↓pd,qds,tb111,hr,atN_all hl,hEg,irN,nrA,nrM,nrE,reduceIte,reduceCtorEq,nrL])|(with_reducible first|refine W_seq ?_|refine W_ret ?_)|fail)
 refine ⟨by first|exact .inl rfl|exact .inr rfl, ?_⟩
 rw [ret1 Try.results111]
 simp only [↓pb,qbs,tb111,hr,rv_tmp,rv_cell,hEg,irN,nrA,nrM,nrE,reduceIte,reduceCtorEq,nrL]
 repeat ((with_reducible apply oV_intro);(simp (disch:=first|exact dA|fail) only [qcs,tb111,hr,hEg,irN,nrA,nrM,nrE,reduceIte,reduceCtorEq,nrL];exact rfl))
 refine ⟨SR.whole (by simp only [↓pb,qbs,tb111,hr,hEg,irN,nrA,nrM,nrE,reduceIte,reduceCtorEq,nrL];omega) (by simp (disch:=first|exact dA|fail) only [qcs,tb111,hr,hEg,irN,nrA,nrM,nrE,reduceIte,reduceCtorEq,nrL];rfl) rfl,(by exact frA)⟩
theorem f104 (w:Way) (H:AHeap) (hT:Top H):∃ v H',C5 (.fn 104) #[.agg ⟨eWay w⟩] H v H'∧(one v∧∀ E:List Nat,(∀ x,x∈E→x < H.n)→RuleV H' E v [w])∧Fr H.n [] H H':=by
 refine Cl.ofW Try.func104 rfl (by kernel_rfl) (by rw [Try.ntmps104];exact Nat.le_of_ble_eq_true rfl) (by kernel_rfl) ?_
 have hEg:True:=trivial
 refine gcW [0] ?_
 intro eg hEn
 simp only [forallC,forallL,and_true] at hEn
 try simp only [↓pb,qbs,tb104,hEg,irN,nrA,nrM,nrE,reduceIte,reduceCtorEq,nrL] at hEn
 replace hEg:=hEn;clear hEn
 repeat' (first|((with_reducible refine hK _ _ fun e2 hEn=>?_);clear hK K;simp only [lv104,forallC,forallL,and_true] at hEn;(try simp only [↓pb,qbs,tb104,hEg,irN,nrA,nrM,nrE,reduceIte,reduceCtorEq,nrL] at hEn);clear hEg;(try clear eg);have hEg:=hEn;clear hEn;rename Env=>eg)|((first|((with_reducible first|apply oV_intro|apply oH_intro|apply oB_intro);(simp (disch:=first|exact dA|fail) only [qcs,tb104,hEg,irN,nrA,nrM,nrE,reduceIte,reduceCtorEq,nrL];with_reducible exact rfl))|(with_reducible first|refine W_regionF lv104 fun K hK=>?_));try simp only [↓pb,↓pd,qds,tb104,hEg,irN,nrA,nrM,nrE,reduceIte,reduceCtorEq,nrL])|(with_reducible first|refine W_seq ?_|refine W_ret ?_)|fail)
 refine ⟨by first|exact .inl rfl|exact .inr rfl, ?_⟩
 rw [ret1 Try.results104]
 simp only [↓pb,qbs,tb104,rv_tmp,rv_cell,hEg,irN,nrA,nrM,nrE,reduceIte,reduceCtorEq,nrL]
 repeat ((with_reducible apply oV_intro);(simp (disch:=first|exact dA|fail) only [qcs,tb104,hEg,irN,nrA,nrM,nrE,reduceIte,reduceCtorEq,nrL];exact rfl))
 exact ⟨fun E hE=>.one ⟨fun hm=>Nat.lt_irrefl _ (hE _ hm),by simp only [↓pb,qbs,tb104,hEg,irN,nrA,nrM,nrE,reduceIte,reduceCtorEq,nrL];omega⟩ (by simp (disch:=first|exact dA|fail) only [qcs,tb104,hEg,irN,nrA,nrM,nrE,reduceIte,reduceCtorEq,nrL]),(by exact frA)⟩
theorem f105 (spot:Nat) (m:Mom) (H:AHeap) (hT:Top H):∃ v H',C5 (.fn 105) #[iv spot,.agg ⟨eMom m⟩] H v H'∧v=.agg ⟨eWay (emptyW spot m)⟩∧Fr H.n [] H H':=by
 refine Cl.ofW Try.func105 rfl (by kernel_rfl) (by rw [Try.ntmps105];exact Nat.le_of_ble_eq_true rfl) (by kernel_rfl) ?_
 have hEg:True:=trivial
 refine gcW [0,1] ?_
 intro eg hEn
 simp only [forallC,forallL,and_true] at hEn
 try simp only [↓pb,qbs,tb105,eMom,hEg,irN,nrA,nrM,nrE,reduceIte,reduceCtorEq,nrL] at hEn
 replace hEg:=hEn;clear hEn
 repeat' (first|((with_reducible refine hK _ _ fun e2 hEn=>?_);clear hK K;simp only [lv105,forallC,forallL,and_true] at hEn;(try simp only [↓pb,qbs,tb105,eMom,hEg,irN,nrA,nrM,nrE,reduceIte,reduceCtorEq,nrL] at hEn);clear hEg;(try clear eg);have hEg:=hEn;clear hEn;rename Env=>eg)|((first|((with_reducible first|apply oV_intro|apply oH_intro|apply oB_intro);(simp (disch:=first|exact dA|fail) only [qcs,tb105,eMom,hEg,irN,nrA,nrM,nrE,reduceIte,reduceCtorEq,nrL];with_reducible exact rfl))|(with_reducible first|refine W_regionF lv105 fun K hK=>?_));try simp only [↓pb,↓pd,qds,tb105,eMom,hEg,irN,nrA,nrM,nrE,reduceIte,reduceCtorEq,nrL])|(with_reducible first|refine W_seq ?_|refine W_ret ?_)|fail)
 refine ⟨by first|exact .inl rfl|exact .inr rfl, ?_⟩
 rw [ret1 Try.results105]
 simp only [↓pb,qbs,tb105,eMom,rv_tmp,rv_cell,hEg,irN,nrA,nrM,nrE,reduceIte,reduceCtorEq,nrL]
 repeat ((with_reducible apply oV_intro);(simp (disch:=first|exact dA|fail) only [qcs,tb105,eMom,hEg,irN,nrA,nrM,nrE,reduceIte,reduceCtorEq,nrL];exact rfl))
 refine ⟨by first|rfl|(simp [eWay,emptyW, *];done), ?_⟩
 try exact frA
theorem f106 (b0 b1 b2 b3 a b:Nat) (m n:Mom) (H:AHeap) (hT:Top H) (h0:b0 < H.n) (h1:b1 < H.n) (h2:b2 < H.n) (h3:b3 < H.n) (g0:H.get b0=.cells [iv a] 3 .ex) (g1:H.get b1=.cells (eMom m) 101 .ex) (g2:H.get b2=.cells [iv b] 3 .ex) (g3:H.get b3=.cells (eMom n) 101 .ex) :
  ∃ v H',C5 (.fn 106) #[vptr b0 0,vptr b1 0,vptr b2 0,vptr b3 0] H v H'∧SR H' 4 2 v ([emptyW a m,emptyW b n].flatMap eWay)∧Fr H.n [] H H':=by
 have r0:H.rd b0=some [iv a]:=by rw [rd_def,g0];rfl
 have r1:H.rd b1=some (eMom m):=by rw [rd_def,g1];rfl
 have r2:H.rd b2=some [iv b]:=by rw [rd_def,g2];rfl
 have r3:H.rd b3=some (eMom n):=by rw [rd_def,g3];rfl
 have l1:=eMom_len m
 have l2:=eMom_len n
 have w1:=eWay_len (emptyW a m)
 have w2:=eWay_len (emptyW b n)
 refine Cl.ofW Try.func106 rfl (by kernel_rfl) (by rw [Try.ntmps106];exact Nat.le_of_ble_eq_true rfl) (by kernel_rfl) ?_
 have hEg:True:=trivial
 refine gcW [0,1,2,3] ?_
 intro eg hEn
 simp only [forallC,forallL,and_true] at hEn
 try simp only [↓pb,qbs,tb106,r0,r1,r2,r3,atN_all l1,atN_all l2,eWay,hEg,irN,nrA,nrM,nrE,reduceIte,reduceCtorEq,nrL] at hEn
 replace hEg:=hEn;clear hEn
 repeat' (first|((with_reducible refine hK _ _ fun e2 hEn=>?_);clear hK K;simp only [lv106,forallC,forallL,and_true] at hEn;(try simp only [↓pb,qbs,tb106,r0,r1,r2,r3,atN_all l1,atN_all l2,eWay,hEg,irN,nrA,nrM,nrE,reduceIte,reduceCtorEq,nrL] at hEn);clear hEg;(try clear eg);have hEg:=hEn;clear hEn;rename Env=>eg)|((first|((with_reducible first|apply oV_intro|apply oH_intro|apply oB_intro);(simp (disch:=first|exact dA|fail) only [qcs,tb106,r0,r1,r2,r3,atN_all l1,atN_all l2,eWay,hEg,irN,nrA,nrM,nrE,reduceIte,reduceCtorEq,nrL];with_reducible exact rfl))|((with_reducible first|apply oblA_and|apply oblR_and|apply oblO_and);(focus exact obA))|((with_reducible apply WO_callV);(focus exact topA);(simp only [↓pb,qbs,tb106,r0,r1,r2,r3,atN_all l1,atN_all l2,eWay,hEg,irN,nrA,nrM,nrE,reduceIte,reduceCtorEq,nrL];(exact f105 _ _ _ (by exact topA)));(intro Gq hq hJq;try simp only [upd_n,jn_n] at hq))|(with_reducible first|refine W_regionF lv106 fun K hK=>?_|refine W_drawnF lv106 fun K hK=>?_));try simp only [↓pb,↓pd,qds,tb106,r0,r1,r2,r3,atN_all l1,atN_all l2,eWay,hEg,irN,nrA,nrM,nrE,reduceIte,reduceCtorEq,nrL])|(with_reducible first|refine W_seq ?_|refine W_ret ?_)|fail)
 refine ⟨by first|exact .inl rfl|exact .inr rfl, ?_⟩
 rw [ret1 Try.results106]
 simp only [↓pb,qbs,tb106,r0,r1,r2,r3,atN_all l1,atN_all l2,eWay,rv_tmp,rv_cell,hEg,irN,nrA,nrM,nrE,reduceIte,reduceCtorEq,nrL]
 repeat ((with_reducible apply oV_intro);(simp (disch:=first|exact dA|fail) only [qcs,tb106,r0,r1,r2,r3,atN_all l1,atN_all l2,eWay,hEg,irN,nrA,nrM,nrE,reduceIte,reduceCtorEq,nrL];exact rfl))
 refine ⟨SR.whole (by simp only [↓pb,qbs,tb106,r0,r1,r2,r3,atN_all l1,atN_all l2,eWay,hEg,irN,nrA,nrM,nrE,reduceIte,reduceCtorEq,nrL];omega) (by simp (disch:=first|exact dA|fail) only [qcs,tb106,r0,r1,r2,r3,atN_all l1,atN_all l2,eWay,hEg,irN,nrA,nrM,nrE,reduceIte,reduceCtorEq,nrL];rfl) rfl,(by exact frA)⟩
theorem fRule {H:AHeap} {E:List Nat} {v:Value} {r:Rul} (h:RuleV H E v r) (hT:Top H):∃ v' H',callV C5 v #[] H v' H'∧SR H' 4 r.length v' (r.flatMap eWay)∧Fr H.n [] H H':=by
 cases h with
 | one hb hg=>exact f111 _ _ H hT hb.2 hg
 | pair h0 h1 h2 h3 g0 g1 g2 g3=>exact f106 _ _ _ _ _ _ _ _ H hT h0.2 h1.2 h2.2 h3.2 g0 g1 g2 g3
theorem eHp_mat (p:Hp×Value) {a b:Nat} (ha:a < 11) (hb:b < 11):(eHp p)[a * 11 + b]? = some (iv (p.1.s.mat a b)):=by
 have:=p.1.s.2
 unfold eHp
 rw [List.getElem?_append_left (by rw [ints_len];omega),ints_at (by omega)]
 rfl
theorem f70 (va vb vc vh v:Value) (l:List (Hp×Value)) (E:List Nat) (r:Rul) (H:AHeap) (hT:Top H) (ho:one va∧one vb∧one vc) (Sh:RHs H vh l) (hl:l.length < 1000) (hR:RuleV H E v r) (hk:RulOk l.length r) (hrl:r.length < 1000) :
  ∃ v' H',C5 (.fn 70) #[.agg ⟨[va,vb,vc,vh]⟩,v] H v' H'∧v'=.bool (breaksR (l.map (·.1.s)) r)∧Fr H.n [] H H':=by
 have oh:=Sh.1.one
 refine Cl.ofW Try.func70 rfl (by kernel_rfl) (by rw [Try.ntmps70];exact Nat.le_of_ble_eq_true rfl) (by kernel_rfl) ?_
 have hEg:True:=trivial
 refine gcW [0,1] ?_
 intro eg hEn
 simp only [forallC,forallL,and_true] at hEn
 try simp only [↓pb,qbs,tb70,ho,oh,hEg,irN,nrA,nrM,nrE,reduceIte,reduceCtorEq,nrL] at hEn
 replace hEg:=hEn;clear hEn
 repeat' (first|((with_reducible refine hK _ _ fun e2 hEn=>?_);clear hK K;simp only [lv70,forallC,forallL,and_true] at hEn;(try simp only [↓pb,qbs,tb70,ho,oh,hEg,irN,nrA,nrM,nrE,reduceIte,reduceCtorEq,nrL] at hEn);clear hEg;(try clear eg);have hEg:=hEn;clear hEn;rename Env=>eg)|((first|((with_reducible first|apply oV_intro|apply oH_intro|apply oB_intro);(simp (disch:=first|exact dA|fail) only [qcs,tb70,ho,oh,hEg,irN,nrA,nrM,nrE,reduceIte,reduceCtorEq,nrL];with_reducible exact rfl))|((with_reducible first|apply oblA_and|apply oblR_and|apply oblO_and);(focus exact obA))|((with_reducible apply WO_callF);(focus exact topA);(simp only [↓pb,qbs,tb70,ho,oh,hEg,irN,nrA,nrM,nrE,reduceIte,reduceCtorEq,nrL];exact fRule (hR.fr (N:=H.n) (X:=[]) (by exact frA) (by simp)) (by exact topA));(rintro vq Gq hq hJq Sw;try simp only [upd_n,jn_n] at hq))|(with_reducible first|refine W_regionF lv70 fun K hK=>?_|refine W_drawnF lv70 fun K hK=>?_));try simp only [↓pb,↓pd,qds,tb70,ho,oh,hEg,irN,nrA,nrM,nrE,reduceIte,reduceCtorEq,nrL])|((with_reducible apply W_cond);(simp only [↓pb,qbs,tb70,ho,oh,hEg,irN,nrA,nrM,nrE,reduceIte,reduceCtorEq,nrL];with_reducible exact rfl);all_goals (intro hc;(first|exact hcX hc|try simp only [hcs] at hc)))|(with_reducible first|refine W_seq ?_|refine W_block ?_|refine W_skip ?_|refine W_ret ?_|refine W_exit ?_|apply blockK_exit)|((with_reducible apply blockK_pass);(focus decide))|fail)
 repeat' (first|((with_reducible refine hK _ _ fun e2 hEn=>?_);clear hK K;simp only [lv70,forallC,forallL,and_true] at hEn;(try simp only [↓pb,qbs,tb70,ho,oh,hEg,irN,nrA,nrM,nrE,reduceIte,reduceCtorEq,nrL] at hEn);clear hEg;(try clear eg);have hEg:=hEn;clear hEn;rename Env=>eg)|((first|((with_reducible first|apply oV_intro|apply oH_intro|apply oB_intro);(simp (disch:=first|exact dA|fail) only [qcs,tb70,ho,oh,lns142 Sw,hEg,irN,nrA,nrM,nrE,reduceIte,reduceCtorEq,nrL];with_reducible exact rfl))|((with_reducible first|apply oblA_and|apply oblR_and|apply oblO_and);(focus exact obA))|(with_reducible first|refine W_regionF lv70 fun K hK=>?_|refine W_drawnF lv70 fun K hK=>?_));try simp only [↓pb,↓pd,qds,tb70,ho,oh,lns142 Sw,hEg,irN,nrA,nrM,nrE,reduceIte,reduceCtorEq,nrL])|((with_reducible apply W_cond);(simp only [↓pb,qbs,tb70,ho,oh,lns142 Sw,hEg,irN,nrA,nrM,nrE,reduceIte,reduceCtorEq,nrL];with_reducible exact rfl);all_goals (intro hc;(first|exact hcX hc|try simp only [hcs] at hc)))|(with_reducible first|refine W_seq ?_|refine W_block ?_|refine W_skip ?_|refine W_ret ?_|refine W_exit ?_|apply blockK_exit)|((with_reducible apply blockK_pass);(focus decide))|fail)
 refine W_count [2,8,9] (by kernel_rfl) 10 (r.length) (H.n) [] [] (fun i e h=>((r.take i).all fun w=>!w.ok (l.map (·.1.s)))=true) (by simp only [↓pb,qbs,tb70,ho,oh,hEg,irN,nrA,nrM,nrE,reduceIte,reduceCtorEq,nrL]) (by focus exact topA) (H0:=H) (by focus exact frA) (by intro b hb hlt;simp at hb ⊢;try omega) ?_ ?_
 rotate_left
 intro i1 e1 h1 hi1 hE1 ei1 hF1 hF01 hTh1 hJ1
 simp only [forallC,forallL,and_true] at hE1
 try simp only [↓pb,qbs,tb70,ho,oh,hEg,irN,nrA,nrM,nrE,reduceIte,reduceCtorEq,nrL] at hE1
 have hn11:=hF1.n;have hn01:=hF01.n;try simp only [upd_n,jn_n] at hn11
 replace hEg:=And.intro ei1 hE1
 rotate_left
 ·simp
 have S1:=Sw.fr0 hF1
 have Sh1:=Sh.fr (N:=H.n) hF01
 have r2:h1.rd H.n=some [va,vb,vc,vh]:=by
  rw [hF1.rd (b:=H.n) (by simp only [↓pb,qbs,tb70,ho,oh,hEg,irN,nrA,nrM,nrE,reduceIte,reduceCtorEq,nrL];omega) (by simp)]
  simp (disch:=first|exact dA|fail) only [qcs,tb70,ho,oh,hEg,irN,nrA,nrM,nrE,reduceIte,reduceCtorEq,nrL]
 by_cases hi2:i1 < r.length
 ·have lS:=S1.lt
  have lh:=Sh1.1.lt
  have hwk:=hk _ (getD_mem hi2)
  obtain ⟨w,hw⟩:∃ w,w=r.getD i1 default:=⟨_,rfl⟩
  rw [← hw] at hwk
  obtain ⟨k1,k2,k3⟩:=hwk
  have hen:eWay (r.getD i1 default)=[iv w.spot,iv w.a,iv w.b,iv w.most]:=by rw [← hw];rfl
  have hmat:(dOf h1 vh)[voff vh + w.spot * 122 + w.a * 11 + w.b]? = some (iv ((l.getD w.spot default).1.s.mat w.a w.b)):=by
   rw [Nat.add_assoc _ (w.a * 11),(Sh1.1.el eHp_len rfl).1 _ _ k1 (by omega),eHp_mat _ k2 k3]
  have hok:w.ok (l.map (·.1.s))=decide ((l.getD w.spot default).1.s.mat w.a w.b≤w.most):=by
   unfold Way.ok
   rw [getD_mapA k1]
  repeat' (first|((with_reducible refine hK _ _ fun e2 hEn=>?_);clear hK K;simp only [lv70,forallC,forallL,and_true] at hEn;(try simp only [↓pb,qbs,tb70,ho,oh,hEg,irN,nrA,nrM,nrE,reduceIte,reduceCtorEq,nrL] at hEn);clear hEg;(try clear eg);have hEg:=hEn;clear hEn;rename Env=>eg)|((first|((with_reducible first|apply oV_intro|apply oH_intro|apply oB_intro);(simp (disch:=first|exact dA|fail) only [qcs,tb70,ho,oh,r2,ias142 S1,S1.rd,(S1.el eWay_len rfl),hen,ias89 Sh1.1,Sh1.1.rd,hmat,Nat.mul_one,S1.mapB,Sh1.1.mapB,hEg,irN,nrA,nrM,nrE,reduceIte,reduceCtorEq,nrL];with_reducible exact rfl))|((with_reducible first|apply oblA_and|apply oblR_and|apply oblO_and);(focus exact obA))|(with_reducible first|refine W_regionF lv70 fun K hK=>?_|refine W_drawnF lv70 fun K hK=>?_));try simp only [↓pb,↓pd,qds,tb70,ho,oh,r2,ias142 S1,S1.rd,(S1.el eWay_len rfl),hen,ias89 Sh1.1,Sh1.1.rd,hmat,Nat.mul_one,S1.mapB,Sh1.1.mapB,hEg,irN,nrA,nrM,nrE,reduceIte,reduceCtorEq,nrL])|((with_reducible apply W_cond);(simp only [↓pb,qbs,tb70,ho,oh,r2,ias142 S1,S1.rd,(S1.el eWay_len rfl),hen,ias89 Sh1.1,Sh1.1.rd,hmat,Nat.mul_one,S1.mapB,Sh1.1.mapB,hEg,irN,nrA,nrM,nrE,reduceIte,reduceCtorEq,nrL];with_reducible exact rfl);all_goals (intro hc;(first|exact hcX hc|try simp only [hcs] at hc)))|(with_reducible first|refine W_seq ?_|refine W_block ?_|refine W_skip ?_|refine W_ret ?_|refine W_exit ?_|apply blockK_exit)|((with_reducible apply blockK_pass);(focus decide))|fail)
  ·refine ⟨by first|exact .inl rfl|exact .inr rfl, ?_⟩
   rw [ret1 Try.results70]
   simp only [↓pb,qbs,tb70,ho,oh,rv_tmp,rv_cell,hEg,irN,nrA,nrM,nrE,reduceIte,reduceCtorEq,nrL]
   repeat ((with_reducible apply oV_intro);(simp (disch:=first|exact dA|fail) only [qcs,tb70,ho,oh,hEg,irN,nrA,nrM,nrE,reduceIte,reduceCtorEq,nrL];exact rfl))
   refine ⟨?_,(by exact frA)⟩
   congr 1
   unfold breaksR
   symm
   rw [← Bool.not_eq_true,List.all_eq_true]
   intro q
   have:=q _ (getD_mem hi2)
   rw [← hw,hok,decide_eq_true hc] at this
   cases this
  ·refine ⟨by omega,by simp only [↓pb,qbs,tb70,ho,oh,hEg,irN,nrA,nrM,nrE,reduceIte,reduceCtorEq,nrL];exact congrArg _ (inc64 (by omega)),by focus exact frA, ?_⟩
   rw [take_getD hi2,List.all_append,hJ1,← hw]
   show (true && ((!w.ok (l.map (·.1.s))) && true))=true
   rw [hok,decide_eq_false hc]
   rfl
 ·have e1n:i1=r.length:=by omega
  repeat' (first|((with_reducible refine hK _ _ fun e2 hEn=>?_);clear hK K;simp only [lv70,forallC,forallL,and_true] at hEn;(try simp only [↓pb,qbs,tb70,ho,oh,hEg,irN,nrA,nrM,nrE,reduceIte,reduceCtorEq,nrL] at hEn);clear hEg;(try clear eg);have hEg:=hEn;clear hEn;rename Env=>eg)|((first|((with_reducible first|apply oV_intro|apply oH_intro|apply oB_intro);(simp (disch:=first|exact dA|fail) only [qcs,tb70,ho,oh,hEg,irN,nrA,nrM,nrE,reduceIte,reduceCtorEq,nrL];with_reducible exact rfl))|((with_reducible first|apply oblA_and|apply oblR_and|apply oblO_and);(focus exact obA))|(with_reducible first|refine W_regionF lv70 fun K hK=>?_|refine W_drawnF lv70 fun K hK=>?_));try simp only [↓pb,↓pd,qds,tb70,ho,oh,hEg,irN,nrA,nrM,nrE,reduceIte,reduceCtorEq,nrL])|((with_reducible apply W_cond);(simp only [↓pb,qbs,tb70,ho,oh,hEg,irN,nrA,nrM,nrE,reduceIte,reduceCtorEq,nrL];with_reducible exact rfl);all_goals (intro hc;(first|exact hcX hc|try simp only [hcs] at hc)))|(with_reducible first|refine W_seq ?_|refine W_block ?_|refine W_skip ?_|refine W_ret ?_|refine W_exit ?_|apply blockK_exit)|((with_reducible apply blockK_pass);(focus decide))|fail)
  refine ⟨by first|exact .inl rfl|exact .inr rfl, ?_⟩
  rw [ret1 Try.results70]
  simp only [↓pb,qbs,tb70,ho,oh,rv_tmp,rv_cell,hEg,irN,nrA,nrM,nrE,reduceIte,reduceCtorEq,nrL]
  repeat ((with_reducible apply oV_intro);(simp (disch:=first|exact dA|fail) only [qcs,tb70,ho,oh,hEg,irN,nrA,nrM,nrE,reduceIte,reduceCtorEq,nrL];exact rfl))
  refine ⟨?_,(by exact frA)⟩
  rw [e1n,List.take_length] at hJ1
  unfold breaksR
  rw [hJ1]
theorem f90 (va vb vc vh v:Value) (l:List (Hp×Value)) (E:List Nat) (vs:List Value) (rs:List Rul) (H:AHeap) (hT:Top H) (ho:one va∧one vb∧one vc) (Sh:RHs H vh l) (hl:l.length < 1000) (S:SR H 1 rs.length v vs) (hR:RulesV H E vs rs) (hk:RulsOk l.length rs) (hrl:∀ r,r∈rs→r.length < 1000) (hrs:rs.length < 1000000) :
  ∃ v' H',C5 (.fn 90) #[v,.func (.func 70) #[.agg ⟨[va,vb,vc,vh]⟩] #[]] H v' H'∧(∃ n:Int,v'=iv n∧decide (0≤n)=rs.any (breaksR (l.map (·.1.s))))∧Fr H.n [] H H':=by
 refine Cl.ofW Try.func90 rfl (by kernel_rfl) (by rw [Try.ntmps90];exact Nat.le_of_ble_eq_true rfl) (by kernel_rfl) ?_
 have hEg:True:=trivial
 refine gcW [0,1] ?_
 intro eg hEn
 simp only [forallC,forallL,and_true] at hEn
 try simp only [↓pb,qbs,tb90,lns114 S,hEg,irN,nrA,nrM,nrE,reduceIte,reduceCtorEq,nrL] at hEn
 replace hEg:=hEn;clear hEn
 repeat' (first|((with_reducible refine hK _ _ fun e2 hEn=>?_);clear hK K;simp only [lv90,forallC,forallL,and_true] at hEn;(try simp only [↓pb,qbs,tb90,lns114 S,hEg,irN,nrA,nrM,nrE,reduceIte,reduceCtorEq,nrL] at hEn);clear hEg;(try clear eg);have hEg:=hEn;clear hEn;rename Env=>eg)|((first|((with_reducible first|apply oV_intro|apply oH_intro|apply oB_intro);(simp (disch:=first|exact dA|fail) only [qcs,tb90,lns114 S,hEg,irN,nrA,nrM,nrE,reduceIte,reduceCtorEq,nrL];with_reducible exact rfl))|(with_reducible first|refine W_regionF lv90 fun K hK=>?_));try simp only [↓pb,↓pd,qds,tb90,lns114 S,hEg,irN,nrA,nrM,nrE,reduceIte,reduceCtorEq,nrL])|((with_reducible apply W_cond);(simp only [↓pb,qbs,tb90,lns114 S,hEg,irN,nrA,nrM,nrE,reduceIte,reduceCtorEq,nrL];with_reducible exact rfl);all_goals (intro hc;(first|exact hcX hc|try simp only [hcs] at hc)))|(with_reducible first|refine W_seq ?_|refine W_block ?_|refine W_skip ?_|refine W_ret ?_|refine W_exit ?_|apply blockK_exit)|((with_reducible apply blockK_pass);(focus decide))|fail)
 refine W_count [0,1,7] (by kernel_rfl) 8 (rs.length) (H.n) [] [] (fun i e h=>((rs.take i).any (breaksR (l.map (·.1.s))))=false) (by simp only [↓pb,qbs,tb90,lns114 S,hEg,irN,nrA,nrM,nrE,reduceIte,reduceCtorEq,nrL]) (by focus exact topA) (H0:=H) (by focus exact frA) (by intro b hb hlt;simp at hb ⊢;try omega) ?_ ?_
 rotate_left
 intro i1 e1 h1 hi1 hE1 ei1 hF1 hF01 hTh1 hJ1
 simp only [forallC,forallL,and_true] at hE1
 try simp only [↓pb,qbs,tb90,lns114 S,hEg,irN,nrA,nrM,nrE,reduceIte,reduceCtorEq,nrL] at hE1
 have hn11:=hF1.n;have hn01:=hF01.n;try simp only [upd_n,jn_n] at hn11
 replace hEg:=And.intro ei1 hE1
 rotate_left
 ·simp
 have S1:=S.fr0 hF01
 have Sh1:=Sh.fr hF01
 have R1:=hR.fr hF01 (by simp)
 by_cases hi2:i1 < rs.length
 ·have lS:=S1.lt
  obtain ⟨u,hu,hru⟩:=R1.at i1 hi2
  have hld:(dOf h1 v)[voff v + i1]? = some u:=by rw [← at1_def,S1.at (j:=i1) (by omega)];exact hu
  have hmem:=getD_mem hi2
  repeat' (first|((with_reducible refine hK _ _ fun e2 hEn=>?_);clear hK K;simp only [lv90,forallC,forallL,and_true] at hEn;(try simp only [↓pb,qbs,tb90,lns114 S,hEg,irN,nrA,nrM,nrE,reduceIte,reduceCtorEq,nrL] at hEn);clear hEg;(try clear eg);have hEg:=hEn;clear hEn;rename Env=>eg)|((first|((with_reducible first|apply oV_intro|apply oH_intro|apply oB_intro);(simp (disch:=first|exact dA|fail) only [qcs,tb90,lns114 S,ias114 S1,S1.rd,hld,Nat.mul_one,hEg,irN,nrA,nrM,nrE,reduceIte,reduceCtorEq,nrL];with_reducible exact rfl))|((with_reducible apply WO_callV);(focus exact topA);(simp only [↓pb,qbs,tb90,lns114 S,ias114 S1,S1.rd,hld,Nat.mul_one,hEg,irN,nrA,nrM,nrE,reduceIte,reduceCtorEq,nrL];(exact f70 _ _ _ _ _ _ _ _ _ (by exact topA) ho (Sh1.fr (N:=h1.n) (by exact frA)) hl (hru.fr (N:=h1.n) (X:=[]) (by exact frA) (by simp)) (hk _ hmem) (hrl _ hmem)));(intro Gq hq hJq;try simp only [upd_n,jn_n] at hq))|(with_reducible first|refine W_regionF lv90 fun K hK=>?_));try simp only [↓pb,↓pd,qds,tb90,lns114 S,ias114 S1,S1.rd,hld,Nat.mul_one,hEg,irN,nrA,nrM,nrE,reduceIte,reduceCtorEq,nrL])|((with_reducible apply W_cond);(simp only [↓pb,qbs,tb90,lns114 S,ias114 S1,S1.rd,hld,Nat.mul_one,hEg,irN,nrA,nrM,nrE,reduceIte,reduceCtorEq,nrL];with_reducible exact rfl);all_goals (intro hc;(first|exact hcX hc|try simp only [hcs] at hc)))|(with_reducible first|refine W_seq ?_|refine W_block ?_|refine W_skip ?_|refine W_ret ?_|refine W_exit ?_|apply blockK_exit)|((with_reducible apply blockK_pass);(focus decide))|fail)
  ·refine ⟨by first|exact .inl rfl|exact .inr rfl, ?_⟩
   rw [ret1 Try.results90]
   simp only [↓pb,qbs,tb90,lns114 S,rv_tmp,rv_cell,hEg,irN,nrA,nrM,nrE,reduceIte,reduceCtorEq,nrL]
   repeat ((with_reducible apply oV_intro);(simp (disch:=first|exact dA|fail) only [qcs,tb90,lns114 S,hEg,irN,nrA,nrM,nrE,reduceIte,reduceCtorEq,nrL];exact rfl))
   refine ⟨⟨i1,rfl, ?_⟩,(by exact frA)⟩
   have:rs.any (breaksR (l.map (·.1.s)))=true:=List.any_eq_true.2 ⟨_,hmem,hc⟩
   rw [this]
   exact decide_eq_true (by omega)
  ·refine ⟨by omega,by simp only [↓pb,qbs,tb90,lns114 S,hEg,irN,nrA,nrM,nrE,reduceIte,reduceCtorEq,nrL];exact congrArg _ (inc64 (by omega)),by focus exact frA, ?_⟩
   rw [take_getD hi2,List.any_append,hJ1]
   show (false || (breaksR (l.map (·.1.s)) (rs.getD i1 default) || false))=false
   rw [hc]
   rfl
 ·have e1n:i1=rs.length:=by omega
  repeat' (first|((with_reducible refine hK _ _ fun e2 hEn=>?_);clear hK K;simp only [lv90,forallC,forallL,and_true] at hEn;(try simp only [↓pb,qbs,tb90,lns114 S,hEg,irN,nrA,nrM,nrE,reduceIte,reduceCtorEq,nrL] at hEn);clear hEg;(try clear eg);have hEg:=hEn;clear hEn;rename Env=>eg)|((first|((with_reducible first|apply oV_intro|apply oH_intro|apply oB_intro);(simp (disch:=first|exact dA|fail) only [qcs,tb90,lns114 S,hEg,irN,nrA,nrM,nrE,reduceIte,reduceCtorEq,nrL];with_reducible exact rfl))|(with_reducible first|refine W_regionF lv90 fun K hK=>?_));try simp only [↓pb,↓pd,qds,tb90,lns114 S,hEg,irN,nrA,nrM,nrE,reduceIte,reduceCtorEq,nrL])|((with_reducible apply W_cond);(simp only [↓pb,qbs,tb90,lns114 S,hEg,irN,nrA,nrM,nrE,reduceIte,reduceCtorEq,nrL];with_reducible exact rfl);all_goals (intro hc;(first|exact hcX hc|try simp only [hcs] at hc)))|(with_reducible first|refine W_seq ?_|refine W_block ?_|refine W_skip ?_|refine W_ret ?_|refine W_exit ?_|apply blockK_exit)|((with_reducible apply blockK_pass);(focus decide))|fail)
  refine ⟨by first|exact .inl rfl|exact .inr rfl, ?_⟩
  rw [ret1 Try.results90]
  simp only [↓pb,qbs,tb90,lns114 S,rv_tmp,rv_cell,hEg,irN,nrA,nrM,nrE,reduceIte,reduceCtorEq,nrL]
  repeat ((with_reducible apply oV_intro);(simp (disch:=first|exact dA|fail) only [qcs,tb90,lns114 S,hEg,irN,nrA,nrM,nrE,reduceIte,reduceCtorEq,nrL];exact rfl))
  rw [e1n,List.take_length] at hJ1
  exact ⟨⟨-1,rfl,by rw [hJ1];rfl⟩,(by exact frA)⟩
theorem f69 (va vb vc vh v:Value) (l:List (Hp×Value)) (E:List Nat) (vs:List Value) (rs:List Rul) (H:AHeap) (hT:Top H) (ho:one va∧one vb∧one vc) (Sh:RHs H vh l) (hl:l.length < 1000) (S:SR H 1 rs.length v vs) (hR:RulesV H E vs rs) (hk:RulsOk l.length rs) (hrl:∀ r,r∈rs→r.length < 1000) (hrs:rs.length < 1000000) :
  ∃ v' H',C5 (.fn 69) #[v,.func (.func 70) #[.agg ⟨[va,vb,vc,vh]⟩] #[]] H v' H'∧v'=.bool (rs.any (breaksR (l.map (·.1.s))))∧Fr H.n [] H H':=by
 refine Cl.ofW Try.func69 rfl (by kernel_rfl) (by rw [Try.ntmps69];exact Nat.le_of_ble_eq_true rfl) (by kernel_rfl) ?_
 have hEg:True:=trivial
 refine gcW [0,1] ?_
 intro eg hEn
 simp only [forallC,forallL,and_true] at hEn
 try simp only [↓pb,qbs,tb69,hEg,irN,nrA,nrM,nrE,reduceIte,reduceCtorEq,nrL] at hEn
 replace hEg:=hEn;clear hEn
 repeat' (first|((with_reducible refine hK _ _ fun e2 hEn=>?_);clear hK K;simp only [lv69,forallC,forallL,and_true] at hEn;(try simp only [↓pb,qbs,tb69,hEg,irN,nrA,nrM,nrE,reduceIte,reduceCtorEq,nrL] at hEn);clear hEg;(try clear eg);have hEg:=hEn;clear hEn;rename Env=>eg)|((first|((with_reducible first|apply oV_intro|apply oH_intro|apply oB_intro);(simp (disch:=first|exact dA|fail) only [qcs,tb69,hEg,irN,nrA,nrM,nrE,reduceIte,reduceCtorEq,nrL];with_reducible exact rfl))|((with_reducible apply WO_callF);(focus exact topA);(simp only [↓pb,qbs,tb69,hEg,irN,nrA,nrM,nrE,reduceIte,reduceCtorEq,nrL];exact f90 _ _ _ _ _ _ _ _ _ _ (by exact topA) ho (Sh.fr (N:=H.n) (by exact frA)) hl (S.fr0 (N:=H.n) (by exact frA)) (hR.fr (N:=H.n) (X:=[]) (by exact frA) (by simp)) hk hrl hrs);(rintro vq Gq hq hJq ⟨n,rfl,hn⟩;try simp only [upd_n,jn_n] at hq))|(with_reducible first|refine W_regionF lv69 fun K hK=>?_));try simp only [↓pb,↓pd,qds,tb69,hEg,irN,nrA,nrM,nrE,reduceIte,reduceCtorEq,nrL])|(with_reducible first|refine W_seq ?_|refine W_ret ?_)|fail)
 refine ⟨by first|exact .inl rfl|exact .inr rfl, ?_⟩
 rw [ret1 Try.results69]
 simp only [↓pb,qbs,tb69,rv_tmp,rv_cell,hEg,irN,nrA,nrM,nrE,reduceIte,reduceCtorEq,nrL]
 repeat ((with_reducible apply oV_intro);(simp (disch:=first|exact dA|fail) only [qcs,tb69,hEg,irN,nrA,nrM,nrE,reduceIte,reduceCtorEq,nrL];exact rfl))
 exact ⟨by rw [← hn],(by exact frA)⟩
end Go.Proofs.Swa
