/- Part 11 of a proof. -/
import Derived.Test.YtkjcijlaehflhaaP10
set_option maxRecDepth 20000
set_option linter.unusedVariables false
set_option linter.unusedSimpArgs false
namespace Go.Proofs.Swa
open Go
open Nat renaming reduceAdd → nrA, reduceMul → nrM, reduceEqDiff → nrE, reduceLT → nrL
open Int renaming reduceToNat → irN
attribute [local congr] WO_congr oV_congr oB_congr oH_congr WD_congr oblO_congr oblA_congr oblR_congr
theorem bd131 {a b : Int} : buildA Try.prog 131 [(0,iv a),(1,iv b)] = some (k2 a b):=build_k2 und131 zr131 sz3 a b
theorem und128 : Try.prog.underlying 128 = some (.map 131 3):=by kernel_rfl
theorem mu128 {H : AHeap} {r : Nat} {l : List Ent2} {a b d : Int} (hg : H.get r = .map (entK l)) (hn : findE a b l 0 = none) : mapUpdateA Try.prog 128 (.map (some r)) (k2 a b) (iv d) H = some (H.upd H.n r (.map (entK (l ++ [((a,b),d)])))) :=
 mapUpdate_k2 und128 und131 sz3 ag3 und3 hg hn
theorem f77 (va vb vc : Value) (g : Gnd) (H : AHeap) (hT : Top H) (hG : RG H va vb vc g) (hk : g.Spots.length = 0 ∨ SK H 3 va) (hn : g.Spots.length ≤ 1000) :
  ∃ v H',C5 (.fn 77) #[.agg ⟨[va,vb,vc]⟩] H v H' ∧ (∃ r,v = .map (some r) ∧ H'.get r = .map (entK (nearAll g g.Spots.length)) ∧ H.n ≤ r ∧ r < H'.n) ∧ Fr H.n [] H H':=by
 have l1:=hG.p.lt
 refine Cl.ofW Try.func77 rfl (by kernel_rfl) (by rw [Try.ntmps77];exact Nat.le_of_ble_eq_true rfl) (by kernel_rfl) ?_
 have hEg : True:=trivial
 refine gcW [0] ?_
 intro eg hEn
 simp only [forallC,forallL,and_true] at hEn
 try simp only [↓pb,qbs,tb77,hG.one,lns22 hG.p,bd131,Option.map_none,Option.map_some,hEg,irN,nrA,nrM,nrE,reduceIte,reduceCtorEq,nrL] at hEn
 replace hEg:=hEn;clear hEn
 repeat' (first | ((with_reducible refine hK _ _ fun e2 hEn => ?_);clear hK K;simp only [lv77,forallC,forallL,and_true] at hEn;(try simp only [↓pb,qbs,tb77,hG.one,lns22 hG.p,bd131,Option.map_none,Option.map_some,hEg,irN,nrA,nrM,nrE,reduceIte,reduceCtorEq,nrL] at hEn);clear hEg;(try clear eg);have hEg:=hEn;clear hEn;rename Env => eg) | ((first | ((with_reducible first | apply oV_intro | apply oH_intro | apply oB_intro);(simp (disch:=first | exact dA | fail) only [qcs,tb77,hG.one,lns22 hG.p,bd131,Option.map_none,Option.map_some,hEg,irN,nrA,nrM,nrE,reduceIte,reduceCtorEq,nrL];with_reducible exact rfl)) | (with_reducible first | refine W_regionF lv77 fun K hK => ?_));try simp only [↓pb,↓pd,qds,tb77,hG.one,lns22 hG.p,bd131,Option.map_none,Option.map_some,hEg,irN,nrA,nrM,nrE,reduceIte,reduceCtorEq,nrL]) | ((with_reducible apply W_cond);(simp only [↓pb,qbs,tb77,hG.one,lns22 hG.p,bd131,Option.map_none,Option.map_some,hEg,irN,nrA,nrM,nrE,reduceIte,reduceCtorEq,nrL];with_reducible exact rfl);all_goals (intro hc;(first | exact hcX hc | try simp only [hcs] at hc))) | (with_reducible first | refine W_seq ?_ | refine W_block ?_ | refine W_skip ?_ | refine W_ret ?_ | refine W_exit ?_ | apply blockK_exit) | ((with_reducible apply blockK_pass);(focus decide)) | fail)
 refine W_count [1,3,10,11] (by kernel_rfl) 12 (g.Spots.length) (H.n) [H.n + 1] [] (fun i e h => h.get (H.n + 1) = .map (entK (nearAll g i))) (by simp only [↓pb,qbs,tb77,hG.one,lns22 hG.p,bd131,Option.map_none,Option.map_some,hEg,irN,nrA,nrM,nrE,reduceIte,reduceCtorEq,nrL]) (by focus exact topA) (H0:=H) (by focus exact frA) (by intro b hb hlt;simp at hb ⊢;try omega) ?_ ?_
 rotate_left
 intro i1 e1 h1 hi1 hE1 ei1 hF1 hF01 hTh1 hJ1
 simp only [forallC,forallL,and_true] at hE1
 try simp only [↓pb,qbs,tb77,hG.one,lns22 hG.p,bd131,Option.map_none,Option.map_some,hEg,irN,nrA,nrM,nrE,reduceIte,reduceCtorEq,nrL] at hE1
 have hn11:=hF1.n;have hn01:=hF01.n;try simp only [upd_n,jn_n] at hn11
 replace hEg:=And.intro ei1 hE1
 rotate_left
 ·simp (disch:=first | exact dA | fail) only [qcs,tb77,hG.one,lns22 hG.p,bd131,Option.map_none,Option.map_some,hEg,irN,nrA,nrM,nrE,reduceIte,reduceCtorEq,nrL]
  rfl
 have G1:=hG.fr (N:=H.n) (Fr.trans (by exact frA) hF01)
 have r0 : h1.rd H.n = some [va,vb,vc]:=by
  rw [hF1.rd (b:=H.n) (by simp only [↓pb,qbs,tb77,hG.one,lns22 hG.p,bd131,Option.map_none,Option.map_some,hEg,irN,nrA,nrM,nrE,reduceIte,reduceCtorEq,nrL];omega) nxA]
  simp (disch:=first | exact dA | fail) only [qcs,tb77,hG.one,lns22 hG.p,bd131,Option.map_none,Option.map_some,hEg,irN,nrA,nrM,nrE,reduceIte,reduceCtorEq,nrL]
 by_cases hi2 : i1 < g.Spots.length
 ·have l2:=G1.p.lt
  have l1' : vblk va < H.n:=by omega
  have K1 : SK h1 3 va:=by
   rcases hk with q | q
   ·omega
   ·exact q.fr hF01 l1' (by simp)
  have U : ∀ (N b : Nat) (o : AObj),vblk va ≠ b → h1.n ≤ N → SK (h1.upd N b o) 3 va:=fun N b o q hN => by
   obtain ⟨d,T,k,g1,g2⟩:=K1
   exact ⟨d,T,k,(upd_get_ne q).trans g1,g2⟩
  have V : ∀ (N b : Nat) (o : AObj),vblk va ≠ b → h1.n ≤ N → SR (h1.upd N b o) 3 g.Spots.length va (g.Spots.flatMap eSpo):=fun N b o q hN => by
   obtain ⟨a1,a2,a3,a4⟩:=G1.p
   refine ⟨a1,a2, ?_, ?_⟩
   ·rcases a3 with a3 | ⟨d,b1,b2⟩
    ·exact .inl a3
    ·refine .inr ⟨d, ?_,b2⟩
     rw [rd_def,upd_get_ne q,← rd_def];exact b1
   ·rcases a4 with a4 | a4
    ·exact .inl a4
    ·exact .inr (Nat.lt_of_lt_of_le a4 hN)
  have hsl : ∀ (N b : Nat) (o : AObj),vblk va ≠ b → h1.n ≤ N → sliceA Try.prog (h1.upd N b o) 22 va none (some (iv i1)) none = some (sl va i1):=fun N b o q hN => (slice_pre und22 sz78 (V N b o q hN) (U N b o q hN) hi1 (by omega)).1
  have S2:=(slice_pre (q:=.i64) und22 sz78 G1.p K1 hi1 (by omega)).2
  rw [flat_take eSpo_len] at S2
  have hb2 : vblk (sl va i1) = vblk va:=sl_blk hG.p (by omega)
  have ll2 : (g.Spots.take i1).length = i1:=by rw [List.length_take];omega
  repeat' (first | ((with_reducible refine hK _ _ fun e2 hEn => ?_);clear hK K;simp only [lv77,forallC,forallL,and_true] at hEn;(try simp only [↓pb,qbs,tb77,hG.one,lns22 hG.p,bd131,Option.map_none,Option.map_some,r0,ias22 G1.p,G1.p.rd,(G1.p.el eSpo_len rfl),eSpo,hsl,lns22 S2,hEg,irN,nrA,nrM,nrE,reduceIte,reduceCtorEq,nrL] at hEn);clear hEg;(try clear eg);have hEg:=hEn;clear hEn;rename Env => eg) | ((first | ((with_reducible first | apply oV_intro | apply oH_intro | apply oB_intro);(simp (disch:=first | exact dA | fail) only [qcs,tb77,hG.one,lns22 hG.p,bd131,Option.map_none,Option.map_some,r0,ias22 G1.p,G1.p.rd,(G1.p.el eSpo_len rfl),eSpo,hsl,lns22 S2,hEg,irN,nrA,nrM,nrE,reduceIte,reduceCtorEq,nrL];with_reducible exact rfl)) | (with_reducible first | refine W_regionF lv77 fun K hK => ?_));try simp only [↓pb,↓pd,qds,tb77,hG.one,lns22 hG.p,bd131,Option.map_none,Option.map_some,r0,ias22 G1.p,G1.p.rd,(G1.p.el eSpo_len rfl),eSpo,hsl,lns22 S2,hEg,irN,nrA,nrM,nrE,reduceIte,reduceCtorEq,nrL]) | ((with_reducible apply W_cond);(simp only [↓pb,qbs,tb77,hG.one,lns22 hG.p,bd131,Option.map_none,Option.map_some,r0,ias22 G1.p,G1.p.rd,(G1.p.el eSpo_len rfl),eSpo,hsl,lns22 S2,hEg,irN,nrA,nrM,nrE,reduceIte,reduceCtorEq,nrL];with_reducible exact rfl);all_goals (intro hc;(first | exact hcX hc | try simp only [hcs] at hc))) | (with_reducible first | refine W_seq ?_ | refine W_block ?_ | refine W_skip ?_ | refine W_ret ?_ | refine W_exit ?_ | apply blockK_exit) | ((with_reducible apply blockK_pass);(focus decide)) | fail)
  refine W_count [1,3,4,5,10,11,12,20,21] (by kernel_rfl) 22 (i1) (H.n) [H.n + 1] [] (fun i e h => h.get (H.n + 1) = .map (entK (nearAll g i1 ++ nearRow g i1 i))) (by simp only [↓pb,qbs,tb77,hG.one,lns22 hG.p,bd131,Option.map_none,Option.map_some,hEg,irN,nrA,nrM,nrE,reduceIte,reduceCtorEq,nrL]) (by focus exact topA) (H0:=H) (by focus exact frA) (by intro b hb hlt;simp at hb ⊢;try omega) ?_ ?_
  rotate_left
  intro i2 e2 h2 hi2 hE2 ei2 hF2 hF02 hTh2 hJ2
  simp only [forallC,forallL,and_true] at hE2
  try simp only [↓pb,qbs,tb77,hG.one,lns22 hG.p,bd131,Option.map_none,Option.map_some,hEg,irN,nrA,nrM,nrE,reduceIte,reduceCtorEq,nrL] at hE2
  have hn12:=hF2.n;have hn02:=hF02.n;try simp only [upd_n,jn_n] at hn12
  replace hEg:=And.intro ei2 hE2
  rotate_left
  ·simp (disch:=first | exact dA | fail) only [qcs,tb77,hG.one,lns22 hG.p,bd131,Option.map_none,Option.map_some,hEg,irN,nrA,nrM,nrE,reduceIte,reduceCtorEq,nrL]
   rw [hJ1,nearRow,List.append_nil]
  have r02 : h2.rd H.n = some [va,vb,vc]:=by
   rw [hF2.rd (b:=H.n) (by simp only [↓pb,qbs,tb77,hG.one,lns22 hG.p,bd131,Option.map_none,Option.map_some,hEg,irN,nrA,nrM,nrE,reduceIte,reduceCtorEq,nrL];omega) nxA]
   simp (disch:=first | exact dA | fail) only [qcs,tb77,hG.one,lns22 hG.p,bd131,Option.map_none,Option.map_some,hEg,irN,nrA,nrM,nrE,reduceIte,reduceCtorEq,nrL]
   exact r0
  have hF12 : Fr H.n [H.n + 1] ((H.upd (H.n + 1) H.n (.cells [va,vb,vc] 26 .ex)).upd (H.n + 2) (H.n + 1) (.map [])) h2 :=
   Fr.trans (B:=h1.upd (h1.n + 1) h1.n (.cells [iv (g.Spots.getD i1 default).X,iv (g.Spots.getD i1 default).Y,iv (g.Spots.getD i1 default).Area] 78 .ex)) (by exact frA) hF2
  have r05 : h2.rd h1.n = some [iv (g.Spots.getD i1 default).X,iv (g.Spots.getD i1 default).Y,iv (g.Spots.getD i1 default).Area]:=by
   rw [hF2.rd (b:=h1.n) (by simp only [↓pb,qbs,tb77,hG.one,lns22 hG.p,bd131,Option.map_none,Option.map_some,hEg,irN,nrA,nrM,nrE,reduceIte,reduceCtorEq,nrL];omega) nxA]
   simp (disch:=first | exact dA | fail) only [qcs,tb77,hG.one,lns22 hG.p,bd131,Option.map_none,Option.map_some,hEg,irN,nrA,nrM,nrE,reduceIte,reduceCtorEq,nrL]
  have S3 : SR h2 3 i1 (sl va i1) ((g.Spots.take i1).flatMap eSpo):=(S2.fr0 (N:=h1.n) (B:=h1.upd (h1.n + 1) h1.n (.cells [iv (g.Spots.getD i1 default).X,iv (g.Spots.getD i1 default).Y,iv (g.Spots.getD i1 default).Area] 78 .ex)) (by exact frA)).fr hF2 (by
   by_cases q : i1 = 0
   ·exact .inl q
   ·right;rw [hb2];simp;omega)
  by_cases hj2 : i2 < i1
  ·have l3 : vblk (sl va i1) < H.n:=by omega
   have e3:=getD_take (l:=g.Spots) hj2
   repeat' (first | ((with_reducible refine hK _ _ fun e2 hEn => ?_);clear hK K;simp only [lv77,forallC,forallL,and_true] at hEn;(try simp only [↓pb,qbs,tb77,hG.one,lns22 hG.p,bd131,Option.map_none,Option.map_some,r02,r05,ias22 S3,S3.rd,(S3.el eSpo_len ll2.symm),eSpo,e3,hEg,irN,nrA,nrM,nrE,reduceIte,reduceCtorEq,nrL] at hEn);clear hEg;(try clear eg);have hEg:=hEn;clear hEn;rename Env => eg) | ((first | ((with_reducible first | apply oV_intro | apply oH_intro | apply oB_intro);(simp (disch:=first | exact dA | fail) only [qcs,tb77,hG.one,lns22 hG.p,bd131,Option.map_none,Option.map_some,r02,r05,ias22 S3,S3.rd,(S3.el eSpo_len ll2.symm),eSpo,e3,hEg,irN,nrA,nrM,nrE,reduceIte,reduceCtorEq,nrL];with_reducible exact rfl)) | (with_reducible first | refine W_regionF lv77 fun K hK => ?_));try simp only [↓pb,↓pd,qds,tb77,hG.one,lns22 hG.p,bd131,Option.map_none,Option.map_some,r02,r05,ias22 S3,S3.rd,(S3.el eSpo_len ll2.symm),eSpo,e3,hEg,irN,nrA,nrM,nrE,reduceIte,reduceCtorEq,nrL]) | ((with_reducible apply W_cond);(simp only [↓pb,qbs,tb77,hG.one,lns22 hG.p,bd131,Option.map_none,Option.map_some,r02,r05,ias22 S3,S3.rd,(S3.el eSpo_len ll2.symm),eSpo,e3,hEg,irN,nrA,nrM,nrE,reduceIte,reduceCtorEq,nrL];with_reducible exact rfl);all_goals (intro hc;(first | exact hcX hc | try simp only [hcs] at hc))) | (with_reducible first | refine W_seq ?_ | refine W_block ?_ | refine W_skip ?_ | refine W_ret ?_ | refine W_exit ?_ | apply blockK_exit) | ((with_reducible apply blockK_pass);(focus decide)) | fail)
   refine oH_intro (mu128 (l:=nearAll g i1 ++ nearRow g i1 i2) (by simp (disch:=first | exact dA | fail) only [qcs,tb77,hG.one,lns22 hG.p,bd131,Option.map_none,Option.map_some,hEg,irN,nrA,nrM,nrE,reduceIte,reduceCtorEq,nrL];exact hJ2) near_new) ?_
   simp only [↓pb,↓pd,qds,tb77,hG.one,lns22 hG.p,bd131,Option.map_none,Option.map_some,hEg,irN,nrA,nrM,nrE,reduceIte,reduceCtorEq,nrL]
   repeat' (first | ((with_reducible refine hK _ _ fun e2 hEn => ?_);clear hK K;simp only [lv77,forallC,forallL,and_true] at hEn;(try simp only [↓pb,qbs,tb77,hG.one,lns22 hG.p,bd131,Option.map_none,Option.map_some,hEg,irN,nrA,nrM,nrE,reduceIte,reduceCtorEq,nrL] at hEn);clear hEg;(try clear eg);have hEg:=hEn;clear hEn;rename Env => eg) | ((first | ((with_reducible first | apply oV_intro | apply oH_intro | apply oB_intro);(simp (disch:=first | exact dA | fail) only [qcs,tb77,hG.one,lns22 hG.p,bd131,Option.map_none,Option.map_some,hEg,irN,nrA,nrM,nrE,reduceIte,reduceCtorEq,nrL];with_reducible exact rfl)) | (with_reducible first | refine W_regionF lv77 fun K hK => ?_));try simp only [↓pb,↓pd,qds,tb77,hG.one,lns22 hG.p,bd131,Option.map_none,Option.map_some,hEg,irN,nrA,nrM,nrE,reduceIte,reduceCtorEq,nrL]) | ((with_reducible apply W_cond);(simp only [↓pb,qbs,tb77,hG.one,lns22 hG.p,bd131,Option.map_none,Option.map_some,hEg,irN,nrA,nrM,nrE,reduceIte,reduceCtorEq,nrL];with_reducible exact rfl);all_goals (intro hc;(first | exact hcX hc | try simp only [hcs] at hc))) | (with_reducible first | refine W_seq ?_ | refine W_block ?_ | refine W_skip ?_ | refine W_ret ?_ | refine W_exit ?_ | apply blockK_exit) | ((with_reducible apply blockK_pass);(focus decide)) | fail)
   refine ⟨by omega,by simp only [↓pb,qbs,tb77,hG.one,lns22 hG.p,bd131,Option.map_none,Option.map_some,hEg,irN,nrA,nrM,nrE,reduceIte,reduceCtorEq,nrL];exact congrArg _ (inc64 (by omega)),by focus exact frA, ?_⟩
   simp (disch:=first | exact dA | fail) only [qcs,tb77,hG.one,lns22 hG.p,bd131,Option.map_none,Option.map_some,hEg,irN,nrA,nrM,nrE,reduceIte,reduceCtorEq,nrL]
   rw [nearRow,List.append_assoc]
   rfl
  ·have e2n : i2 = i1:=by omega
   subst e2n
   repeat' (first | ((with_reducible refine hK _ _ fun e2 hEn => ?_);clear hK K;simp only [lv77,forallC,forallL,and_true] at hEn;(try simp only [↓pb,qbs,tb77,hG.one,lns22 hG.p,bd131,Option.map_none,Option.map_some,hEg,irN,nrA,nrM,nrE,reduceIte,reduceCtorEq,nrL] at hEn);clear hEg;(try clear eg);have hEg:=hEn;clear hEn;rename Env => eg) | ((first | ((with_reducible first | apply oV_intro | apply oH_intro | apply oB_intro);(simp (disch:=first | exact dA | fail) only [qcs,tb77,hG.one,lns22 hG.p,bd131,Option.map_none,Option.map_some,hEg,irN,nrA,nrM,nrE,reduceIte,reduceCtorEq,nrL];with_reducible exact rfl)) | (with_reducible first | refine W_regionF lv77 fun K hK => ?_));try simp only [↓pb,↓pd,qds,tb77,hG.one,lns22 hG.p,bd131,Option.map_none,Option.map_some,hEg,irN,nrA,nrM,nrE,reduceIte,reduceCtorEq,nrL]) | ((with_reducible apply W_cond);(simp only [↓pb,qbs,tb77,hG.one,lns22 hG.p,bd131,Option.map_none,Option.map_some,hEg,irN,nrA,nrM,nrE,reduceIte,reduceCtorEq,nrL];with_reducible exact rfl);all_goals (intro hc;(first | exact hcX hc | try simp only [hcs] at hc))) | (with_reducible first | refine W_seq ?_ | refine W_block ?_ | refine W_skip ?_ | refine W_ret ?_ | refine W_exit ?_ | apply blockK_exit) | ((with_reducible apply blockK_pass);(focus decide)) | fail)
   refine ⟨by omega,by simp only [↓pb,qbs,tb77,hG.one,lns22 hG.p,bd131,Option.map_none,Option.map_some,hEg,irN,nrA,nrM,nrE,reduceIte,reduceCtorEq,nrL];exact congrArg _ (inc64 (by omega)),by focus exact frA, ?_⟩
   exact hJ2
 ·have e1n : i1 = g.Spots.length:=by omega
  repeat' (first | ((with_reducible refine hK _ _ fun e2 hEn => ?_);clear hK K;simp only [lv77,forallC,forallL,and_true] at hEn;(try simp only [↓pb,qbs,tb77,hG.one,lns22 hG.p,bd131,Option.map_none,Option.map_some,hEg,irN,nrA,nrM,nrE,reduceIte,reduceCtorEq,nrL] at hEn);clear hEg;(try clear eg);have hEg:=hEn;clear hEn;rename Env => eg) | ((first | ((with_reducible first | apply oV_intro | apply oH_intro | apply oB_intro);(simp (disch:=first | exact dA | fail) only [qcs,tb77,hG.one,lns22 hG.p,bd131,Option.map_none,Option.map_some,hEg,irN,nrA,nrM,nrE,reduceIte,reduceCtorEq,nrL];with_reducible exact rfl)) | (with_reducible first | refine W_regionF lv77 fun K hK => ?_));try simp only [↓pb,↓pd,qds,tb77,hG.one,lns22 hG.p,bd131,Option.map_none,Option.map_some,hEg,irN,nrA,nrM,nrE,reduceIte,reduceCtorEq,nrL]) | ((with_reducible apply W_cond);(simp only [↓pb,qbs,tb77,hG.one,lns22 hG.p,bd131,Option.map_none,Option.map_some,hEg,irN,nrA,nrM,nrE,reduceIte,reduceCtorEq,nrL];with_reducible exact rfl);all_goals (intro hc;(first | exact hcX hc | try simp only [hcs] at hc))) | (with_reducible first | refine W_seq ?_ | refine W_block ?_ | refine W_skip ?_ | refine W_ret ?_ | refine W_exit ?_ | apply blockK_exit) | ((with_reducible apply blockK_pass);(focus decide)) | fail)
  refine ⟨by first | exact .inl rfl | exact .inr rfl, ?_⟩
  rw [ret1 Try.results77]
  simp only [↓pb,qbs,tb77,hG.one,lns22 hG.p,bd131,Option.map_none,Option.map_some,rv_tmp,rv_cell,hEg,irN,nrA,nrM,nrE,reduceIte,reduceCtorEq,nrL]
  repeat ((with_reducible apply oV_intro);(simp (disch:=first | exact dA | fail) only [qcs,tb77,hG.one,lns22 hG.p,bd131,Option.map_none,Option.map_some,hEg,irN,nrA,nrM,nrE,reduceIte,reduceCtorEq,nrL];exact rfl))
  refine ⟨⟨H.n + 1,by first | rfl | simp [*],by rw [← e1n];exact hJ1,by omega,by omega⟩,(by exact frA)⟩


noncomputable def lkG (o : AObj) (k : Value) : Option Value:=match o with
 | .map es => match findM Try.prog 131 k es 0 with | some (some (_,v)) => some v | some none => some (.int .i64 0) | none => none
 | _ => none
theorem lk_of {H : AHeap} {r : Nat} {a b : Int} : lookupA Try.prog 128 (.map (some r)) (k2 a b) false H = lkG (H.get r) (k2 a b):=by
 unfold lookupA lkG
 rw [und128]
 dsimp only
 rw [if_pos (keyOk_k2 und131 sz3 ag3 und3 a b),zr3]
 unfold entsA
 dsimp only
 cases H.get r with
 | map es =>
  dsimp only
  rw [if_pos (show dflat (.int .i64 0) = true from rfl)]
  cases findM Try.prog 131 (k2 a b) es 0 with
  | none => rfl
  | some x => cases x <;> rfl
 | _ => rfl
theorem lkG_hit {l : List Ent2} {a b d : Int} {i : Nat} (hn : findE a b l 0 = some (i,iv d)) : lkG (.map (entK l)) (k2 a b) = some (iv d):=by
 unfold lkG
 dsimp only
 rw [findM_k2 und131 sz3 ag3 und3,hn]
theorem f19s (va vb vc : Value) (g : Gnd) (H : AHeap) (hT : Top H) (hG : RG H va vb vc g) (h1 : g.Spots.length < 1000000) (h2 : g.Sorts.length < 1000000) (h3 : g.Acts.length < 1000000) :
  ∃ v H',C5 (.fn 19) #[.agg ⟨[va,vb,vc]⟩] H v H' ∧ (∃ a b c,v = .agg ⟨[a,b,c]⟩ ∧ RG H' a b c g ∧ (g.Spots.length = 0 ∨ SK H' 3 a) ∧
   (g.Acts.length = 0 ∨ ∃ r,c = .slice (some ⟨r,0,none⟩) g.Acts.length g.Acts.length ∧ H'.get r = .cells (g.Acts.flatMap eAct) 30 (.gr r 6 true) ∧ Sole H' r ∧ H.n ≤ r ∧ r < H'.n ∧ (g.Spots.length = 0 ∨ vblk a ≠ r) ∧ (g.Sorts.length = 0 ∨ vblk b ≠ r))) ∧ Fr H.n [] H H':=by
 have hgo:=hG.one
 refine Cl.ofW Try.func19 rfl (by kernel_rfl) (by rw [Try.ntmps19];exact Nat.le_of_ble_eq_true rfl) (by kernel_rfl) ?_
 have hEg : True:=trivial
 refine gcW [0] ?_
 intro eg hEn
 simp only [forallC,forallL,and_true] at hEn
 try simp only [↓pb,qbs,tb19,hgo,hEg,irN,nrA,nrM,nrE,reduceIte,reduceCtorEq,nrL] at hEn
 replace hEg:=hEn;clear hEn
 repeat' (first | ((with_reducible refine hK _ _ fun e2 hEn => ?_);clear hK K;simp only [lv19,forallC,forallL,and_true] at hEn;(try simp only [↓pb,qbs,tb19,hgo,hEg,irN,nrA,nrM,nrE,reduceIte,reduceCtorEq,nrL] at hEn);clear hEg;(try clear eg);have hEg:=hEn;clear hEn;rename Env => eg) | ((first | ((with_reducible first | apply oV_intro | apply oH_intro | apply oB_intro);(simp (disch:=first | exact dA | fail) only [qcs,tb19,hgo,hEg,irN,nrA,nrM,nrE,reduceIte,reduceCtorEq,nrL];with_reducible exact rfl)) | ((with_reducible first | apply oblA_and | apply oblR_and | apply oblO_and);(focus exact obA)) | (with_reducible first | refine W_regionF lv19 fun K hK => ?_ | refine W_drawnF lv19 fun K hK => ?_));try simp only [↓pb,↓pd,qds,tb19,hgo,hEg,irN,nrA,nrM,nrE,reduceIte,reduceCtorEq,nrL]) | (with_reducible first | refine W_seq ?_ | refine W_ret ?_) | fail)
 have S1 : ∀ h,Fr H.n [] H h → SR h 3 g.Spots.length va (g.Spots.flatMap eSpo):=fun h hF => hG.p.fr0 hF
 refine oB_appS (s:=3) (e:=78) (n:=0) (m:=g.Spots.length) (c:=[]) (new:=g.Spots.flatMap eSpo) (by exact topA) (GS.new rfl) (S1 _ (by exact frA)) (fun hm => ap22 (GS.new rfl) (S1 _ (by exact frA)) hm (by omega) (by omega)) (fun hm => apz22 (GS.new rfl) ((S1 _ (by exact frA)).cast hm)) ?_
 rintro v1 G1 gg1 hq1 hJ1 GG1 hg1 hv1 hb1 so1
 clear so1
 simp only [upd_n,jn_n,nb] at hq1 hg1 hv1
 have o1:=GG1.one
 simp only [↓pb,↓pd,qds,tb19,hgo,o1,hEg,irN,nrA,nrM,nrE,reduceIte,reduceCtorEq,nrL]
 repeat' (first | ((with_reducible refine hK _ _ fun e2 hEn => ?_);clear hK K;simp only [lv19,forallC,forallL,and_true] at hEn;(try simp only [↓pb,qbs,tb19,hgo,o1,hEg,irN,nrA,nrM,nrE,reduceIte,reduceCtorEq,nrL] at hEn);clear hEg;(try clear eg);have hEg:=hEn;clear hEn;rename Env => eg) | ((first | ((with_reducible first | apply oV_intro | apply oH_intro | apply oB_intro);(simp (disch:=first | exact dA | fail) only [qcs,tb19,hgo,o1,hEg,irN,nrA,nrM,nrE,reduceIte,reduceCtorEq,nrL];with_reducible exact rfl)) | ((with_reducible first | apply oblA_and | apply oblR_and | apply oblO_and);(focus exact obA)) | (with_reducible first | refine W_regionF lv19 fun K hK => ?_ | refine W_drawnF lv19 fun K hK => ?_));try simp only [↓pb,↓pd,qds,tb19,hgo,o1,hEg,irN,nrA,nrM,nrE,reduceIte,reduceCtorEq,nrL]) | (with_reducible first | refine W_seq ?_ | refine W_ret ?_) | fail)
 have S2 : ∀ h,Fr H.n [] H h → SR h 4 g.Sorts.length vb (g.Sorts.flatMap eSrt):=fun h hF => hG.q.fr0 hF
 refine oB_appS (s:=4) (e:=76) (n:=0) (m:=g.Sorts.length) (c:=[]) (new:=g.Sorts.flatMap eSrt) (by exact topA) (GS.new rfl) (S2 _ (by exact frA)) (fun hm => ap23 (GS.new rfl) (S2 _ (by exact frA)) hm (by omega) (by omega)) (fun hm => apz23 (GS.new rfl) ((S2 _ (by exact frA)).cast hm)) ?_
 rintro v2 G2 gg2 hq2 hJ2 GG2 hg2 hv2 hb2 so2
 clear so2
 simp only [upd_n,jn_n,nb] at hq2 hg2 hv2
 have o2:=GG2.one
 simp only [↓pb,↓pd,qds,tb19,hgo,o1,o2,hEg,irN,nrA,nrM,nrE,reduceIte,reduceCtorEq,nrL]
 repeat' (first | ((with_reducible refine hK _ _ fun e2 hEn => ?_);clear hK K;simp only [lv19,forallC,forallL,and_true] at hEn;(try simp only [↓pb,qbs,tb19,hgo,o1,o2,hEg,irN,nrA,nrM,nrE,reduceIte,reduceCtorEq,nrL] at hEn);clear hEg;(try clear eg);have hEg:=hEn;clear hEn;rename Env => eg) | ((first | ((with_reducible first | apply oV_intro | apply oH_intro | apply oB_intro);(simp (disch:=first | exact dA | fail) only [qcs,tb19,hgo,o1,o2,hEg,irN,nrA,nrM,nrE,reduceIte,reduceCtorEq,nrL];with_reducible exact rfl)) | ((with_reducible first | apply oblA_and | apply oblR_and | apply oblO_and);(focus exact obA)) | (with_reducible first | refine W_regionF lv19 fun K hK => ?_ | refine W_drawnF lv19 fun K hK => ?_));try simp only [↓pb,↓pd,qds,tb19,hgo,o1,o2,hEg,irN,nrA,nrM,nrE,reduceIte,reduceCtorEq,nrL]) | (with_reducible first | refine W_seq ?_ | refine W_ret ?_) | fail)
 have S3 : ∀ h,Fr H.n [] H h → SR h 6 g.Acts.length vc (g.Acts.flatMap eAct):=fun h hF => hG.r.fr0 hF
 refine oB_appS (s:=6) (e:=30) (n:=0) (m:=g.Acts.length) (c:=[]) (new:=g.Acts.flatMap eAct) (by exact topA) (GS.new rfl) (S3 _ (by exact frA)) (fun hm => ap24 (GS.new rfl) (S3 _ (by exact frA)) hm (by omega) (by omega)) (fun hm => apz24 (GS.new rfl) ((S3 _ (by exact frA)).cast hm)) ?_
 rintro v3 G3 gg3 hq3 hJ3 GG3 hg3 hv3 hb3 so3
 simp only [upd_n,jn_n,nb] at hq3 hg3 hv3
 have o3:=GG3.one
 simp only [↓pb,↓pd,qds,tb19,hgo,o1,o2,o3,hEg,irN,nrA,nrM,nrE,reduceIte,reduceCtorEq,nrL]
 repeat' (first | ((with_reducible refine hK _ _ fun e2 hEn => ?_);clear hK K;simp only [lv19,forallC,forallL,and_true] at hEn;(try simp only [↓pb,qbs,tb19,hgo,o1,o2,o3,hEg,irN,nrA,nrM,nrE,reduceIte,reduceCtorEq,nrL] at hEn);clear hEg;(try clear eg);have hEg:=hEn;clear hEn;rename Env => eg) | ((first | ((with_reducible first | apply oV_intro | apply oH_intro | apply oB_intro);(simp (disch:=first | exact dA | fail) only [qcs,tb19,hgo,o1,o2,o3,hEg,irN,nrA,nrM,nrE,reduceIte,reduceCtorEq,nrL];with_reducible exact rfl)) | ((with_reducible first | apply oblA_and | apply oblR_and | apply oblO_and);(focus exact obA)) | (with_reducible first | refine W_regionF lv19 fun K hK => ?_ | refine W_drawnF lv19 fun K hK => ?_));try simp only [↓pb,↓pd,qds,tb19,hgo,o1,o2,o3,hEg,irN,nrA,nrM,nrE,reduceIte,reduceCtorEq,nrL]) | (with_reducible first | refine W_seq ?_ | refine W_ret ?_) | fail)
 refine ⟨by first | exact .inl rfl | exact .inr rfl, ?_⟩
 rw [ret1 Try.results19]
 simp only [↓pb,qbs,tb19,hgo,rv_tmp,rv_cell,hEg,irN,nrA,nrM,nrE,reduceIte,reduceCtorEq,nrL]
 repeat ((with_reducible apply oV_intro);(simp (disch:=first | exact dA | fail) only [qcs,tb19,hgo,hEg,irN,nrA,nrM,nrE,reduceIte,reduceCtorEq,nrL];exact rfl))
 have b1 : H.n + 2 ≤ vblk v1:=by
  rcases hv1 with rfl | e
  ·exact Nat.le_refl _
  ·omega
 have b2 : H.n + 2 ≤ vblk v2:=by
  rcases hv2 with rfl | e
  ·show H.n + 2 ≤ G1.n;omega
  ·omega
 have b3 : H.n + 2 ≤ vblk v3:=by
  rcases hv3 with rfl | e
  ·show H.n + 2 ≤ G2.n;omega
  ·omega
 rw [Nat.zero_add,List.nil_append] at GG1 GG2 GG3
 have l1:=GG1.sr.lt
 have l2:=GG2.sr.lt
 simp only [jn_n] at l1 l2
 refine ⟨⟨v1,v2,v3,rfl,⟨?_, ?_, ?_⟩, ?_, ?_⟩,(by exact frA)⟩
 ·exact GG1.sr.fr (N:=H.n) (X:=[H.n + 1]) (by exact frA) (.inr nxA)
 ·exact GG2.sr.fr (N:=H.n) (X:=[H.n + 1]) (by exact frA) (.inr nxA)
 ·exact GG3.sr.fr (N:=H.n) (X:=[H.n + 1]) (by exact frA) (.inr nxA)
 ·rcases GG1.sk with q | q
  ·exact .inl q
  ·rcases l1 with q2 | q2
   ·exact .inl q2
   ·exact .inr (q.fr (N:=H.n) (X:=[H.n + 1]) (by exact frA) (by simp only [jn_n];omega) nxA)
 ·by_cases hz : g.Acts.length = 0
  ·exact .inl hz
  ·right
   obtain ⟨e1,e2,e3,e4⟩:=so3 (by omega)
   rw [Nat.zero_add] at e1
   rw [List.nil_append] at e2
   simp only [upd_n,jn_n,nb] at e1 e4
   refine ⟨G2.n + 1,e1, ?_, ?_,by omega,by omega, ?_, ?_⟩
   ·rw [upd_get_ne (by omega)]
    exact e2
   ·exact Sole.upd e3 (fun _ _ _ _ hh => by cases hh)
   ·rcases l1 with q | q
    ·exact .inl q
    ·right;omega
   ·rcases l2 with q | q
    ·exact .inl q
    ·right;omega
theorem SR.offR {H : AHeap} {s n : Nat} {v : Value} {c : List Value} {b : Nat} {u : Value} {T : TypeId} (h : SR H s n v c) (hg : H.get b = .cells [u] T .ex) (hs : 2 ≤ s) : n = 0 ∨ vblk v ∉ [b]:=by
 by_cases hn : n = 0
 ·exact .inl hn
 ·right
  intro hm
  have hm : vblk v = b:=List.mem_singleton.1 hm
  rcases h.cells with q | ⟨d,h1,h2,_⟩
  ·exact hn q
  ·rw [hm,rd_def,hg] at h1
   cases h1
   have : voff v + n * s ≤ 1:=h2
   have : 1 * 2 ≤ n * s:=Nat.mul_le_mul (by omega) hs
   omega
theorem RG.frR {N : Nat} {A B : AHeap} {b : Nat} {u : Value} {T : TypeId} (hF : Fr N [b] A B) (hg : A.get b = .cells [u] T .ex) {va vb vc : Value} {g : Gnd} (h : RG A va vb vc g) : RG B va vb vc g :=
 ⟨h.p.fr hF (h.p.offR hg (by omega)),h.q.fr hF (h.q.offR hg (by omega)),h.r.fr hF (h.r.offR hg (by omega))⟩
theorem eith2 (x a b : Int) : either x [a,b] = a ∨ either x [a,b] = b:=either2 x a b
theorem SR.whole {H : AHeap} {s n b : Nat} {c : List Value} {T : TypeId} (hb : b < H.n) (hg : H.get b = .cells c T .ex) (hl : c.length = n * s) : SR H s n (.slice (some ⟨b,0,none⟩) n n) c:=by
 refine ⟨.inr ⟨_,_,_,rfl,Nat.le_refl _⟩,hl,.inr ⟨c, ?_, ?_, ?_⟩,.inr hb⟩
 ·rw [rd_def]
  show rdO (H.get b) = _
  rw [hg];rfl
 ·show 0 + n * s ≤ c.length
  omega
 ·show (c.drop 0).take (n * s) = c
  rw [List.drop_zero,List.take_of_length_le (by omega)]
theorem f111 (b : Nat) (w : Way) (H : AHeap) (hT : Top H) (hb : b < H.n) (hg : H.get b = .cells (eWay w) 144 .ex) : ∃ v H',C5 (.fn 111) #[vptr b 0] H v H' ∧ SR H' 4 1 v ([w].flatMap eWay) ∧ Fr H.n [] H H':=by
 have hr : H.rd b = some (eWay w):=by rw [rd_def,hg];rfl
 have hl:=eWay_len w
 refine Cl.ofW Try.func111 rfl (by kernel_rfl) (by rw [Try.ntmps111];exact Nat.le_of_ble_eq_true rfl) (by kernel_rfl) ?_
 have hEg : True:=trivial
 refine gcW [0] ?_
 intro eg hEn
 simp only [forallC,forallL,and_true] at hEn
 try simp only [↓pb,qbs,tb111,hr,hEg,irN,nrA,nrM,nrE,reduceIte,reduceCtorEq,nrL] at hEn
 replace hEg:=hEn;clear hEn
 repeat' (first | ((with_reducible refine hK _ _ fun e2 hEn => ?_);clear hK K;simp only [lv111,forallC,forallL,and_true] at hEn;(try simp only [↓pb,qbs,tb111,hr,atN_all hl,hEg,irN,nrA,nrM,nrE,reduceIte,reduceCtorEq,nrL] at hEn);clear hEg;(try clear eg);have hEg:=hEn;clear hEn;rename Env => eg) | ((first | ((with_reducible first | apply oV_intro | apply oH_intro | apply oB_intro);(simp (disch:=first | exact dA | fail) only [qcs,tb111,hr,atN_all hl,hEg,irN,nrA,nrM,nrE,reduceIte,reduceCtorEq,nrL];with_reducible exact rfl)) | (with_reducible first | refine W_regionF lv111 fun K hK => ?_));try simp only [↓pb,↓pd,qds,tb111,hr,atN_all hl,hEg,irN,nrA,nrM,nrE,reduceIte,reduceCtorEq,nrL]) | (with_reducible first | refine W_seq ?_ | refine W_ret ?_) | fail)
 refine ⟨by first | exact .inl rfl | exact .inr rfl, ?_⟩
 rw [ret1 Try.results111]
 simp only [↓pb,qbs,tb111,hr,rv_tmp,rv_cell,hEg,irN,nrA,nrM,nrE,reduceIte,reduceCtorEq,nrL]
 repeat ((with_reducible apply oV_intro);(simp (disch:=first | exact dA | fail) only [qcs,tb111,hr,hEg,irN,nrA,nrM,nrE,reduceIte,reduceCtorEq,nrL];exact rfl))
 refine ⟨SR.whole (by simp only [↓pb,qbs,tb111,hr,hEg,irN,nrA,nrM,nrE,reduceIte,reduceCtorEq,nrL];omega) (by simp (disch:=first | exact dA | fail) only [qcs,tb111,hr,hEg,irN,nrA,nrM,nrE,reduceIte,reduceCtorEq,nrL];rfl) rfl,(by exact frA)⟩
theorem f104 (w : Way) (H : AHeap) (hT : Top H) : ∃ v H',C5 (.fn 104) #[.agg ⟨eWay w⟩] H v H' ∧ (one v ∧ ∀ E : List Nat,(∀ x,x ∈ E → x < H.n) → RuleV H' E v [w]) ∧ Fr H.n [] H H':=by
 refine Cl.ofW Try.func104 rfl (by kernel_rfl) (by rw [Try.ntmps104];exact Nat.le_of_ble_eq_true rfl) (by kernel_rfl) ?_
 have hEg : True:=trivial
 refine gcW [0] ?_
 intro eg hEn
 simp only [forallC,forallL,and_true] at hEn
 try simp only [↓pb,qbs,tb104,hEg,irN,nrA,nrM,nrE,reduceIte,reduceCtorEq,nrL] at hEn
 replace hEg:=hEn;clear hEn
 repeat' (first | ((with_reducible refine hK _ _ fun e2 hEn => ?_);clear hK K;simp only [lv104,forallC,forallL,and_true] at hEn;(try simp only [↓pb,qbs,tb104,hEg,irN,nrA,nrM,nrE,reduceIte,reduceCtorEq,nrL] at hEn);clear hEg;(try clear eg);have hEg:=hEn;clear hEn;rename Env => eg) | ((first | ((with_reducible first | apply oV_intro | apply oH_intro | apply oB_intro);(simp (disch:=first | exact dA | fail) only [qcs,tb104,hEg,irN,nrA,nrM,nrE,reduceIte,reduceCtorEq,nrL];with_reducible exact rfl)) | (with_reducible first | refine W_regionF lv104 fun K hK => ?_));try simp only [↓pb,↓pd,qds,tb104,hEg,irN,nrA,nrM,nrE,reduceIte,reduceCtorEq,nrL]) | (with_reducible first | refine W_seq ?_ | refine W_ret ?_) | fail)
 refine ⟨by first | exact .inl rfl | exact .inr rfl, ?_⟩
 rw [ret1 Try.results104]
 simp only [↓pb,qbs,tb104,rv_tmp,rv_cell,hEg,irN,nrA,nrM,nrE,reduceIte,reduceCtorEq,nrL]
 repeat ((with_reducible apply oV_intro);(simp (disch:=first | exact dA | fail) only [qcs,tb104,hEg,irN,nrA,nrM,nrE,reduceIte,reduceCtorEq,nrL];exact rfl))
 exact ⟨fun E hE => .one ⟨fun hm => Nat.lt_irrefl _ (hE _ hm),by simp only [↓pb,qbs,tb104,hEg,irN,nrA,nrM,nrE,reduceIte,reduceCtorEq,nrL];omega⟩ (by simp (disch:=first | exact dA | fail) only [qcs,tb104,hEg,irN,nrA,nrM,nrE,reduceIte,reduceCtorEq,nrL]),(by exact frA)⟩
theorem f105 (spot : Nat) (m : Mom) (H : AHeap) (hT : Top H) : ∃ v H',C5 (.fn 105) #[iv spot,.agg ⟨eMom m⟩] H v H' ∧ v = .agg ⟨eWay (emptyW spot m)⟩ ∧ Fr H.n [] H H':=by
 refine Cl.ofW Try.func105 rfl (by kernel_rfl) (by rw [Try.ntmps105];exact Nat.le_of_ble_eq_true rfl) (by kernel_rfl) ?_
 have hEg : True:=trivial
 refine gcW [0,1] ?_
 intro eg hEn
 simp only [forallC,forallL,and_true] at hEn
 try simp only [↓pb,qbs,tb105,eMom,hEg,irN,nrA,nrM,nrE,reduceIte,reduceCtorEq,nrL] at hEn
 replace hEg:=hEn;clear hEn
 repeat' (first | ((with_reducible refine hK _ _ fun e2 hEn => ?_);clear hK K;simp only [lv105,forallC,forallL,and_true] at hEn;(try simp only [↓pb,qbs,tb105,eMom,hEg,irN,nrA,nrM,nrE,reduceIte,reduceCtorEq,nrL] at hEn);clear hEg;(try clear eg);have hEg:=hEn;clear hEn;rename Env => eg) | ((first | ((with_reducible first | apply oV_intro | apply oH_intro | apply oB_intro);(simp (disch:=first | exact dA | fail) only [qcs,tb105,eMom,hEg,irN,nrA,nrM,nrE,reduceIte,reduceCtorEq,nrL];with_reducible exact rfl)) | (with_reducible first | refine W_regionF lv105 fun K hK => ?_));try simp only [↓pb,↓pd,qds,tb105,eMom,hEg,irN,nrA,nrM,nrE,reduceIte,reduceCtorEq,nrL]) | (with_reducible first | refine W_seq ?_ | refine W_ret ?_) | fail)
 refine ⟨by first | exact .inl rfl | exact .inr rfl, ?_⟩
 rw [ret1 Try.results105]
 simp only [↓pb,qbs,tb105,eMom,rv_tmp,rv_cell,hEg,irN,nrA,nrM,nrE,reduceIte,reduceCtorEq,nrL]
 repeat ((with_reducible apply oV_intro);(simp (disch:=first | exact dA | fail) only [qcs,tb105,eMom,hEg,irN,nrA,nrM,nrE,reduceIte,reduceCtorEq,nrL];exact rfl))
 refine ⟨by first | rfl | (simp [eWay,emptyW, *];done), ?_⟩
 try exact frA
theorem f106 (b0 b1 b2 b3 a b : Nat) (m n : Mom) (H : AHeap) (hT : Top H) (h0 : b0 < H.n) (h1 : b1 < H.n) (h2 : b2 < H.n) (h3 : b3 < H.n) (g0 : H.get b0 = .cells [iv a] 3 .ex) (g1 : H.get b1 = .cells (eMom m) 101 .ex) (g2 : H.get b2 = .cells [iv b] 3 .ex) (g3 : H.get b3 = .cells (eMom n) 101 .ex) :
  ∃ v H',C5 (.fn 106) #[vptr b0 0,vptr b1 0,vptr b2 0,vptr b3 0] H v H' ∧ SR H' 4 2 v ([emptyW a m,emptyW b n].flatMap eWay) ∧ Fr H.n [] H H':=by
 have r0 : H.rd b0 = some [iv a]:=by rw [rd_def,g0];rfl
 have r1 : H.rd b1 = some (eMom m):=by rw [rd_def,g1];rfl
 have r2 : H.rd b2 = some [iv b]:=by rw [rd_def,g2];rfl
 have r3 : H.rd b3 = some (eMom n):=by rw [rd_def,g3];rfl
 have l1:=eMom_len m
 have l2:=eMom_len n
 have w1:=eWay_len (emptyW a m)
 have w2:=eWay_len (emptyW b n)
 refine Cl.ofW Try.func106 rfl (by kernel_rfl) (by rw [Try.ntmps106];exact Nat.le_of_ble_eq_true rfl) (by kernel_rfl) ?_
 have hEg : True:=trivial
 refine gcW [0,1,2,3] ?_
 intro eg hEn
 simp only [forallC,forallL,and_true] at hEn
 try simp only [↓pb,qbs,tb106,r0,r1,r2,r3,atN_all l1,atN_all l2,eWay,hEg,irN,nrA,nrM,nrE,reduceIte,reduceCtorEq,nrL] at hEn
 replace hEg:=hEn;clear hEn
 repeat' (first | ((with_reducible refine hK _ _ fun e2 hEn => ?_);clear hK K;simp only [lv106,forallC,forallL,and_true] at hEn;(try simp only [↓pb,qbs,tb106,r0,r1,r2,r3,atN_all l1,atN_all l2,eWay,hEg,irN,nrA,nrM,nrE,reduceIte,reduceCtorEq,nrL] at hEn);clear hEg;(try clear eg);have hEg:=hEn;clear hEn;rename Env => eg) | ((first | ((with_reducible first | apply oV_intro | apply oH_intro | apply oB_intro);(simp (disch:=first | exact dA | fail) only [qcs,tb106,r0,r1,r2,r3,atN_all l1,atN_all l2,eWay,hEg,irN,nrA,nrM,nrE,reduceIte,reduceCtorEq,nrL];with_reducible exact rfl)) | ((with_reducible first | apply oblA_and | apply oblR_and | apply oblO_and);(focus exact obA)) | ((with_reducible apply WO_callV);(focus exact topA);(simp only [↓pb,qbs,tb106,r0,r1,r2,r3,atN_all l1,atN_all l2,eWay,hEg,irN,nrA,nrM,nrE,reduceIte,reduceCtorEq,nrL];(exact f105 _ _ _ (by exact topA)));(intro Gq hq hJq;try simp only [upd_n,jn_n] at hq)) | (with_reducible first | refine W_regionF lv106 fun K hK => ?_ | refine W_drawnF lv106 fun K hK => ?_));try simp only [↓pb,↓pd,qds,tb106,r0,r1,r2,r3,atN_all l1,atN_all l2,eWay,hEg,irN,nrA,nrM,nrE,reduceIte,reduceCtorEq,nrL]) | (with_reducible first | refine W_seq ?_ | refine W_ret ?_) | fail)
 refine ⟨by first | exact .inl rfl | exact .inr rfl, ?_⟩
 rw [ret1 Try.results106]
 simp only [↓pb,qbs,tb106,r0,r1,r2,r3,atN_all l1,atN_all l2,eWay,rv_tmp,rv_cell,hEg,irN,nrA,nrM,nrE,reduceIte,reduceCtorEq,nrL]
 repeat ((with_reducible apply oV_intro);(simp (disch:=first | exact dA | fail) only [qcs,tb106,r0,r1,r2,r3,atN_all l1,atN_all l2,eWay,hEg,irN,nrA,nrM,nrE,reduceIte,reduceCtorEq,nrL];exact rfl))
 refine ⟨SR.whole (by simp only [↓pb,qbs,tb106,r0,r1,r2,r3,atN_all l1,atN_all l2,eWay,hEg,irN,nrA,nrM,nrE,reduceIte,reduceCtorEq,nrL];omega) (by simp (disch:=first | exact dA | fail) only [qcs,tb106,r0,r1,r2,r3,atN_all l1,atN_all l2,eWay,hEg,irN,nrA,nrM,nrE,reduceIte,reduceCtorEq,nrL];rfl) rfl,(by exact frA)⟩
theorem fRule {H : AHeap} {E : List Nat} {v : Value} {r : Rul} (h : RuleV H E v r) (hT : Top H) : ∃ v' H',callV C5 v #[] H v' H' ∧ SR H' 4 r.length v' (r.flatMap eWay) ∧ Fr H.n [] H H':=by
 cases h with
 | one hb hg => exact f111 _ _ H hT hb.2 hg
 | pair h0 h1 h2 h3 g0 g1 g2 g3 => exact f106 _ _ _ _ _ _ _ _ H hT h0.2 h1.2 h2.2 h3.2 g0 g1 g2 g3
theorem eHp_mat (p : Hp × Value) {a b : Nat} (ha : a < 11) (hb : b < 11) : (eHp p)[a * 11 + b]? = some (iv (p.1.s.mat a b)):=by
 have:=p.1.s.2
 unfold eHp
 rw [List.getElem?_append_left (by rw [ints_len];omega),ints_at (by omega)]
 rfl
theorem f70 (va vb vc vh v : Value) (l : List (Hp × Value)) (E : List Nat) (r : Rul) (H : AHeap) (hT : Top H) (ho : one va ∧ one vb ∧ one vc) (Sh : RHs H vh l) (hl : l.length < 1000) (hR : RuleV H E v r) (hk : RulOk l.length r) (hrl : r.length < 1000) :
  ∃ v' H',C5 (.fn 70) #[.agg ⟨[va,vb,vc,vh]⟩,v] H v' H' ∧ v' = .bool (breaksR (l.map (·.1.s)) r) ∧ Fr H.n [] H H':=by
 have oh:=Sh.1.one
 refine Cl.ofW Try.func70 rfl (by kernel_rfl) (by rw [Try.ntmps70];exact Nat.le_of_ble_eq_true rfl) (by kernel_rfl) ?_
 have hEg : True:=trivial
 refine gcW [0,1] ?_
 intro eg hEn
 simp only [forallC,forallL,and_true] at hEn
 try simp only [↓pb,qbs,tb70,ho,oh,hEg,irN,nrA,nrM,nrE,reduceIte,reduceCtorEq,nrL] at hEn
 replace hEg:=hEn;clear hEn
 repeat' (first | ((with_reducible refine hK _ _ fun e2 hEn => ?_);clear hK K;simp only [lv70,forallC,forallL,and_true] at hEn;(try simp only [↓pb,qbs,tb70,ho,oh,hEg,irN,nrA,nrM,nrE,reduceIte,reduceCtorEq,nrL] at hEn);clear hEg;(try clear eg);have hEg:=hEn;clear hEn;rename Env => eg) | ((first | ((with_reducible first | apply oV_intro | apply oH_intro | apply oB_intro);(simp (disch:=first | exact dA | fail) only [qcs,tb70,ho,oh,hEg,irN,nrA,nrM,nrE,reduceIte,reduceCtorEq,nrL];with_reducible exact rfl)) | ((with_reducible first | apply oblA_and | apply oblR_and | apply oblO_and);(focus exact obA)) | ((with_reducible apply WO_callF);(focus exact topA);(simp only [↓pb,qbs,tb70,ho,oh,hEg,irN,nrA,nrM,nrE,reduceIte,reduceCtorEq,nrL];exact fRule (hR.fr (N:=H.n) (X:=[]) (by exact frA) (by simp)) (by exact topA));(rintro vq Gq hq hJq Sw;try simp only [upd_n,jn_n] at hq)) | (with_reducible first | refine W_regionF lv70 fun K hK => ?_ | refine W_drawnF lv70 fun K hK => ?_));try simp only [↓pb,↓pd,qds,tb70,ho,oh,hEg,irN,nrA,nrM,nrE,reduceIte,reduceCtorEq,nrL]) | ((with_reducible apply W_cond);(simp only [↓pb,qbs,tb70,ho,oh,hEg,irN,nrA,nrM,nrE,reduceIte,reduceCtorEq,nrL];with_reducible exact rfl);all_goals (intro hc;(first | exact hcX hc | try simp only [hcs] at hc))) | (with_reducible first | refine W_seq ?_ | refine W_block ?_ | refine W_skip ?_ | refine W_ret ?_ | refine W_exit ?_ | apply blockK_exit) | ((with_reducible apply blockK_pass);(focus decide)) | fail)
 repeat' (first | ((with_reducible refine hK _ _ fun e2 hEn => ?_);clear hK K;simp only [lv70,forallC,forallL,and_true] at hEn;(try simp only [↓pb,qbs,tb70,ho,oh,lns142 Sw,hEg,irN,nrA,nrM,nrE,reduceIte,reduceCtorEq,nrL] at hEn);clear hEg;(try clear eg);have hEg:=hEn;clear hEn;rename Env => eg) | ((first | ((with_reducible first | apply oV_intro | apply oH_intro | apply oB_intro);(simp (disch:=first | exact dA | fail) only [qcs,tb70,ho,oh,lns142 Sw,hEg,irN,nrA,nrM,nrE,reduceIte,reduceCtorEq,nrL];with_reducible exact rfl)) | ((with_reducible first | apply oblA_and | apply oblR_and | apply oblO_and);(focus exact obA)) | (with_reducible first | refine W_regionF lv70 fun K hK => ?_ | refine W_drawnF lv70 fun K hK => ?_));try simp only [↓pb,↓pd,qds,tb70,ho,oh,lns142 Sw,hEg,irN,nrA,nrM,nrE,reduceIte,reduceCtorEq,nrL]) | ((with_reducible apply W_cond);(simp only [↓pb,qbs,tb70,ho,oh,lns142 Sw,hEg,irN,nrA,nrM,nrE,reduceIte,reduceCtorEq,nrL];with_reducible exact rfl);all_goals (intro hc;(first | exact hcX hc | try simp only [hcs] at hc))) | (with_reducible first | refine W_seq ?_ | refine W_block ?_ | refine W_skip ?_ | refine W_ret ?_ | refine W_exit ?_ | apply blockK_exit) | ((with_reducible apply blockK_pass);(focus decide)) | fail)
 refine W_count [2,8,9] (by kernel_rfl) 10 (r.length) (H.n) [] [] (fun i e h => ((r.take i).all fun w => !w.ok (l.map (·.1.s))) = true) (by simp only [↓pb,qbs,tb70,ho,oh,hEg,irN,nrA,nrM,nrE,reduceIte,reduceCtorEq,nrL]) (by focus exact topA) (H0:=H) (by focus exact frA) (by intro b hb hlt;simp at hb ⊢;try omega) ?_ ?_
 rotate_left
 intro i1 e1 h1 hi1 hE1 ei1 hF1 hF01 hTh1 hJ1
 simp only [forallC,forallL,and_true] at hE1
 try simp only [↓pb,qbs,tb70,ho,oh,hEg,irN,nrA,nrM,nrE,reduceIte,reduceCtorEq,nrL] at hE1
 have hn11:=hF1.n;have hn01:=hF01.n;try simp only [upd_n,jn_n] at hn11
 replace hEg:=And.intro ei1 hE1
 rotate_left
 ·simp
 have S1:=Sw.fr0 hF1
 have Sh1:=Sh.fr (N:=H.n) hF01
 have r2 : h1.rd H.n = some [va,vb,vc,vh]:=by
  rw [hF1.rd (b:=H.n) (by simp only [↓pb,qbs,tb70,ho,oh,hEg,irN,nrA,nrM,nrE,reduceIte,reduceCtorEq,nrL];omega) (by simp)]
  simp (disch:=first | exact dA | fail) only [qcs,tb70,ho,oh,hEg,irN,nrA,nrM,nrE,reduceIte,reduceCtorEq,nrL]
 by_cases hi2 : i1 < r.length
 ·have lS:=S1.lt
  have lh:=Sh1.1.lt
  have hwk:=hk _ (getD_mem hi2)
  obtain ⟨w,hw⟩ : ∃ w,w = r.getD i1 default:=⟨_,rfl⟩
  rw [← hw] at hwk
  obtain ⟨k1,k2,k3⟩:=hwk
  have hen : eWay (r.getD i1 default) = [iv w.spot,iv w.a,iv w.b,iv w.most]:=by rw [← hw];rfl
  have hmat : (dOf h1 vh)[voff vh + w.spot * 122 + w.a * 11 + w.b]? = some (iv ((l.getD w.spot default).1.s.mat w.a w.b)):=by
   rw [Nat.add_assoc _ (w.a * 11),(Sh1.1.el eHp_len rfl).1 _ _ k1 (by omega),eHp_mat _ k2 k3]
  have hok : w.ok (l.map (·.1.s)) = decide ((l.getD w.spot default).1.s.mat w.a w.b ≤ w.most):=by
   unfold Way.ok
   rw [getD_mapA k1]
  repeat' (first | ((with_reducible refine hK _ _ fun e2 hEn => ?_);clear hK K;simp only [lv70,forallC,forallL,and_true] at hEn;(try simp only [↓pb,qbs,tb70,ho,oh,r2,ias142 S1,S1.rd,(S1.el eWay_len rfl),hen,ias89 Sh1.1,Sh1.1.rd,hmat,Nat.mul_one,S1.mapB,Sh1.1.mapB,hEg,irN,nrA,nrM,nrE,reduceIte,reduceCtorEq,nrL] at hEn);clear hEg;(try clear eg);have hEg:=hEn;clear hEn;rename Env => eg) | ((first | ((with_reducible first | apply oV_intro | apply oH_intro | apply oB_intro);(simp (disch:=first | exact dA | fail) only [qcs,tb70,ho,oh,r2,ias142 S1,S1.rd,(S1.el eWay_len rfl),hen,ias89 Sh1.1,Sh1.1.rd,hmat,Nat.mul_one,S1.mapB,Sh1.1.mapB,hEg,irN,nrA,nrM,nrE,reduceIte,reduceCtorEq,nrL];with_reducible exact rfl)) | ((with_reducible first | apply oblA_and | apply oblR_and | apply oblO_and);(focus exact obA)) | (with_reducible first | refine W_regionF lv70 fun K hK => ?_ | refine W_drawnF lv70 fun K hK => ?_));try simp only [↓pb,↓pd,qds,tb70,ho,oh,r2,ias142 S1,S1.rd,(S1.el eWay_len rfl),hen,ias89 Sh1.1,Sh1.1.rd,hmat,Nat.mul_one,S1.mapB,Sh1.1.mapB,hEg,irN,nrA,nrM,nrE,reduceIte,reduceCtorEq,nrL]) | ((with_reducible apply W_cond);(simp only [↓pb,qbs,tb70,ho,oh,r2,ias142 S1,S1.rd,(S1.el eWay_len rfl),hen,ias89 Sh1.1,Sh1.1.rd,hmat,Nat.mul_one,S1.mapB,Sh1.1.mapB,hEg,irN,nrA,nrM,nrE,reduceIte,reduceCtorEq,nrL];with_reducible exact rfl);all_goals (intro hc;(first | exact hcX hc | try simp only [hcs] at hc))) | (with_reducible first | refine W_seq ?_ | refine W_block ?_ | refine W_skip ?_ | refine W_ret ?_ | refine W_exit ?_ | apply blockK_exit) | ((with_reducible apply blockK_pass);(focus decide)) | fail)
  ·refine ⟨by first | exact .inl rfl | exact .inr rfl, ?_⟩
   rw [ret1 Try.results70]
   simp only [↓pb,qbs,tb70,ho,oh,rv_tmp,rv_cell,hEg,irN,nrA,nrM,nrE,reduceIte,reduceCtorEq,nrL]
   repeat ((with_reducible apply oV_intro);(simp (disch:=first | exact dA | fail) only [qcs,tb70,ho,oh,hEg,irN,nrA,nrM,nrE,reduceIte,reduceCtorEq,nrL];exact rfl))
   refine ⟨?_,(by exact frA)⟩
   congr 1
   unfold breaksR
   symm
   rw [← Bool.not_eq_true,List.all_eq_true]
   intro q
   have:=q _ (getD_mem hi2)
   rw [← hw,hok,decide_eq_true hc] at this
   cases this
  ·refine ⟨by omega,by simp only [↓pb,qbs,tb70,ho,oh,hEg,irN,nrA,nrM,nrE,reduceIte,reduceCtorEq,nrL];exact congrArg _ (inc64 (by omega)),by focus exact frA, ?_⟩
   rw [take_getD hi2,List.all_append,hJ1,← hw]
   show (true && ((!w.ok (l.map (·.1.s))) && true)) = true
   rw [hok,decide_eq_false hc]
   rfl
 ·have e1n : i1 = r.length:=by omega
  repeat' (first | ((with_reducible refine hK _ _ fun e2 hEn => ?_);clear hK K;simp only [lv70,forallC,forallL,and_true] at hEn;(try simp only [↓pb,qbs,tb70,ho,oh,hEg,irN,nrA,nrM,nrE,reduceIte,reduceCtorEq,nrL] at hEn);clear hEg;(try clear eg);have hEg:=hEn;clear hEn;rename Env => eg) | ((first | ((with_reducible first | apply oV_intro | apply oH_intro | apply oB_intro);(simp (disch:=first | exact dA | fail) only [qcs,tb70,ho,oh,hEg,irN,nrA,nrM,nrE,reduceIte,reduceCtorEq,nrL];with_reducible exact rfl)) | ((with_reducible first | apply oblA_and | apply oblR_and | apply oblO_and);(focus exact obA)) | (with_reducible first | refine W_regionF lv70 fun K hK => ?_ | refine W_drawnF lv70 fun K hK => ?_));try simp only [↓pb,↓pd,qds,tb70,ho,oh,hEg,irN,nrA,nrM,nrE,reduceIte,reduceCtorEq,nrL]) | ((with_reducible apply W_cond);(simp only [↓pb,qbs,tb70,ho,oh,hEg,irN,nrA,nrM,nrE,reduceIte,reduceCtorEq,nrL];with_reducible exact rfl);all_goals (intro hc;(first | exact hcX hc | try simp only [hcs] at hc))) | (with_reducible first | refine W_seq ?_ | refine W_block ?_ | refine W_skip ?_ | refine W_ret ?_ | refine W_exit ?_ | apply blockK_exit) | ((with_reducible apply blockK_pass);(focus decide)) | fail)
  refine ⟨by first | exact .inl rfl | exact .inr rfl, ?_⟩
  rw [ret1 Try.results70]
  simp only [↓pb,qbs,tb70,ho,oh,rv_tmp,rv_cell,hEg,irN,nrA,nrM,nrE,reduceIte,reduceCtorEq,nrL]
  repeat ((with_reducible apply oV_intro);(simp (disch:=first | exact dA | fail) only [qcs,tb70,ho,oh,hEg,irN,nrA,nrM,nrE,reduceIte,reduceCtorEq,nrL];exact rfl))
  refine ⟨?_,(by exact frA)⟩
  rw [e1n,List.take_length] at hJ1
  unfold breaksR
  rw [hJ1]
theorem f90 (va vb vc vh v : Value) (l : List (Hp × Value)) (E : List Nat) (vs : List Value) (rs : List Rul) (H : AHeap) (hT : Top H) (ho : one va ∧ one vb ∧ one vc) (Sh : RHs H vh l) (hl : l.length < 1000) (S : SR H 1 rs.length v vs) (hR : RulesV H E vs rs) (hk : RulsOk l.length rs) (hrl : ∀ r,r ∈ rs → r.length < 1000) (hrs : rs.length < 1000000) :
  ∃ v' H',C5 (.fn 90) #[v,.func (.func 70) #[.agg ⟨[va,vb,vc,vh]⟩] #[]] H v' H' ∧ (∃ n : Int,v' = iv n ∧ decide (0 ≤ n) = rs.any (breaksR (l.map (·.1.s)))) ∧ Fr H.n [] H H':=by
 refine Cl.ofW Try.func90 rfl (by kernel_rfl) (by rw [Try.ntmps90];exact Nat.le_of_ble_eq_true rfl) (by kernel_rfl) ?_
 have hEg : True:=trivial
 refine gcW [0,1] ?_
 intro eg hEn
 simp only [forallC,forallL,and_true] at hEn
 try simp only [↓pb,qbs,tb90,lns114 S,hEg,irN,nrA,nrM,nrE,reduceIte,reduceCtorEq,nrL] at hEn
 replace hEg:=hEn;clear hEn
 repeat' (first | ((with_reducible refine hK _ _ fun e2 hEn => ?_);clear hK K;simp only [lv90,forallC,forallL,and_true] at hEn;(try simp only [↓pb,qbs,tb90,lns114 S,hEg,irN,nrA,nrM,nrE,reduceIte,reduceCtorEq,nrL] at hEn);clear hEg;(try clear eg);have hEg:=hEn;clear hEn;rename Env => eg) | ((first | ((with_reducible first | apply oV_intro | apply oH_intro | apply oB_intro);(simp (disch:=first | exact dA | fail) only [qcs,tb90,lns114 S,hEg,irN,nrA,nrM,nrE,reduceIte,reduceCtorEq,nrL];with_reducible exact rfl)) | (with_reducible first | refine W_regionF lv90 fun K hK => ?_));try simp only [↓pb,↓pd,qds,tb90,lns114 S,hEg,irN,nrA,nrM,nrE,reduceIte,reduceCtorEq,nrL]) | ((with_reducible apply W_cond);(simp only [↓pb,qbs,tb90,lns114 S,hEg,irN,nrA,nrM,nrE,reduceIte,reduceCtorEq,nrL];with_reducible exact rfl);all_goals (intro hc;(first | exact hcX hc | try simp only [hcs] at hc))) | (with_reducible first | refine W_seq ?_ | refine W_block ?_ | refine W_skip ?_ | refine W_ret ?_ | refine W_exit ?_ | apply blockK_exit) | ((with_reducible apply blockK_pass);(focus decide)) | fail)
 refine W_count [0,1,7] (by kernel_rfl) 8 (rs.length) (H.n) [] [] (fun i e h => ((rs.take i).any (breaksR (l.map (·.1.s)))) = false) (by simp only [↓pb,qbs,tb90,lns114 S,hEg,irN,nrA,nrM,nrE,reduceIte,reduceCtorEq,nrL]) (by focus exact topA) (H0:=H) (by focus exact frA) (by intro b hb hlt;simp at hb ⊢;try omega) ?_ ?_
 rotate_left
 intro i1 e1 h1 hi1 hE1 ei1 hF1 hF01 hTh1 hJ1
 simp only [forallC,forallL,and_true] at hE1
 try simp only [↓pb,qbs,tb90,lns114 S,hEg,irN,nrA,nrM,nrE,reduceIte,reduceCtorEq,nrL] at hE1
 have hn11:=hF1.n;have hn01:=hF01.n;try simp only [upd_n,jn_n] at hn11
 replace hEg:=And.intro ei1 hE1
 rotate_left
 ·simp
 have S1:=S.fr0 hF01
 have Sh1:=Sh.fr hF01
 have R1:=hR.fr hF01 (by simp)
 by_cases hi2 : i1 < rs.length
 ·have lS:=S1.lt
  obtain ⟨u,hu,hru⟩:=R1.at i1 hi2
  have hld : (dOf h1 v)[voff v + i1]? = some u:=by rw [← at1_def,S1.at (j:=i1) (by omega)];exact hu
  have hmem:=getD_mem hi2
  repeat' (first | ((with_reducible refine hK _ _ fun e2 hEn => ?_);clear hK K;simp only [lv90,forallC,forallL,and_true] at hEn;(try simp only [↓pb,qbs,tb90,lns114 S,ias114 S1,S1.rd,hld,Nat.mul_one,hEg,irN,nrA,nrM,nrE,reduceIte,reduceCtorEq,nrL] at hEn);clear hEg;(try clear eg);have hEg:=hEn;clear hEn;rename Env => eg) | ((first | ((with_reducible first | apply oV_intro | apply oH_intro | apply oB_intro);(simp (disch:=first | exact dA | fail) only [qcs,tb90,lns114 S,ias114 S1,S1.rd,hld,Nat.mul_one,hEg,irN,nrA,nrM,nrE,reduceIte,reduceCtorEq,nrL];with_reducible exact rfl)) | ((with_reducible apply WO_callV);(focus exact topA);(simp only [↓pb,qbs,tb90,lns114 S,ias114 S1,S1.rd,hld,Nat.mul_one,hEg,irN,nrA,nrM,nrE,reduceIte,reduceCtorEq,nrL];(exact f70 _ _ _ _ _ _ _ _ _ (by exact topA) ho (Sh1.fr (N:=h1.n) (by exact frA)) hl (hru.fr (N:=h1.n) (X:=[]) (by exact frA) (by simp)) (hk _ hmem) (hrl _ hmem)));(intro Gq hq hJq;try simp only [upd_n,jn_n] at hq)) | (with_reducible first | refine W_regionF lv90 fun K hK => ?_));try simp only [↓pb,↓pd,qds,tb90,lns114 S,ias114 S1,S1.rd,hld,Nat.mul_one,hEg,irN,nrA,nrM,nrE,reduceIte,reduceCtorEq,nrL]) | ((with_reducible apply W_cond);(simp only [↓pb,qbs,tb90,lns114 S,ias114 S1,S1.rd,hld,Nat.mul_one,hEg,irN,nrA,nrM,nrE,reduceIte,reduceCtorEq,nrL];with_reducible exact rfl);all_goals (intro hc;(first | exact hcX hc | try simp only [hcs] at hc))) | (with_reducible first | refine W_seq ?_ | refine W_block ?_ | refine W_skip ?_ | refine W_ret ?_ | refine W_exit ?_ | apply blockK_exit) | ((with_reducible apply blockK_pass);(focus decide)) | fail)
  ·refine ⟨by first | exact .inl rfl | exact .inr rfl, ?_⟩
   rw [ret1 Try.results90]
   simp only [↓pb,qbs,tb90,lns114 S,rv_tmp,rv_cell,hEg,irN,nrA,nrM,nrE,reduceIte,reduceCtorEq,nrL]
   repeat ((with_reducible apply oV_intro);(simp (disch:=first | exact dA | fail) only [qcs,tb90,lns114 S,hEg,irN,nrA,nrM,nrE,reduceIte,reduceCtorEq,nrL];exact rfl))
   refine ⟨⟨i1,rfl, ?_⟩,(by exact frA)⟩
   have : rs.any (breaksR (l.map (·.1.s))) = true:=List.any_eq_true.2 ⟨_,hmem,hc⟩
   rw [this]
   exact decide_eq_true (by omega)
  ·refine ⟨by omega,by simp only [↓pb,qbs,tb90,lns114 S,hEg,irN,nrA,nrM,nrE,reduceIte,reduceCtorEq,nrL];exact congrArg _ (inc64 (by omega)),by focus exact frA, ?_⟩
   rw [take_getD hi2,List.any_append,hJ1]
   show (false || (breaksR (l.map (·.1.s)) (rs.getD i1 default) || false)) = false
   rw [hc]
   rfl
 ·have e1n : i1 = rs.length:=by omega
  repeat' (first | ((with_reducible refine hK _ _ fun e2 hEn => ?_);clear hK K;simp only [lv90,forallC,forallL,and_true] at hEn;(try simp only [↓pb,qbs,tb90,lns114 S,hEg,irN,nrA,nrM,nrE,reduceIte,reduceCtorEq,nrL] at hEn);clear hEg;(try clear eg);have hEg:=hEn;clear hEn;rename Env => eg) | ((first | ((with_reducible first | apply oV_intro | apply oH_intro | apply oB_intro);(simp (disch:=first | exact dA | fail) only [qcs,tb90,lns114 S,hEg,irN,nrA,nrM,nrE,reduceIte,reduceCtorEq,nrL];with_reducible exact rfl)) | (with_reducible first | refine W_regionF lv90 fun K hK => ?_));try simp only [↓pb,↓pd,qds,tb90,lns114 S,hEg,irN,nrA,nrM,nrE,reduceIte,reduceCtorEq,nrL]) | ((with_reducible apply W_cond);(simp only [↓pb,qbs,tb90,lns114 S,hEg,irN,nrA,nrM,nrE,reduceIte,reduceCtorEq,nrL];with_reducible exact rfl);all_goals (intro hc;(first | exact hcX hc | try simp only [hcs] at hc))) | (with_reducible first | refine W_seq ?_ | refine W_block ?_ | refine W_skip ?_ | refine W_ret ?_ | refine W_exit ?_ | apply blockK_exit) | ((with_reducible apply blockK_pass);(focus decide)) | fail)
  refine ⟨by first | exact .inl rfl | exact .inr rfl, ?_⟩
  rw [ret1 Try.results90]
  simp only [↓pb,qbs,tb90,lns114 S,rv_tmp,rv_cell,hEg,irN,nrA,nrM,nrE,reduceIte,reduceCtorEq,nrL]
  repeat ((with_reducible apply oV_intro);(simp (disch:=first | exact dA | fail) only [qcs,tb90,lns114 S,hEg,irN,nrA,nrM,nrE,reduceIte,reduceCtorEq,nrL];exact rfl))
  rw [e1n,List.take_length] at hJ1
  exact ⟨⟨-1,rfl,by rw [hJ1];rfl⟩,(by exact frA)⟩
theorem f69 (va vb vc vh v : Value) (l : List (Hp × Value)) (E : List Nat) (vs : List Value) (rs : List Rul) (H : AHeap) (hT : Top H) (ho : one va ∧ one vb ∧ one vc) (Sh : RHs H vh l) (hl : l.length < 1000) (S : SR H 1 rs.length v vs) (hR : RulesV H E vs rs) (hk : RulsOk l.length rs) (hrl : ∀ r,r ∈ rs → r.length < 1000) (hrs : rs.length < 1000000) :
  ∃ v' H',C5 (.fn 69) #[v,.func (.func 70) #[.agg ⟨[va,vb,vc,vh]⟩] #[]] H v' H' ∧ v' = .bool (rs.any (breaksR (l.map (·.1.s)))) ∧ Fr H.n [] H H':=by
 refine Cl.ofW Try.func69 rfl (by kernel_rfl) (by rw [Try.ntmps69];exact Nat.le_of_ble_eq_true rfl) (by kernel_rfl) ?_
 have hEg : True:=trivial
 refine gcW [0,1] ?_
 intro eg hEn
 simp only [forallC,forallL,and_true] at hEn
 try simp only [↓pb,qbs,tb69,hEg,irN,nrA,nrM,nrE,reduceIte,reduceCtorEq,nrL] at hEn
 replace hEg:=hEn;clear hEn
 repeat' (first | ((with_reducible refine hK _ _ fun e2 hEn => ?_);clear hK K;simp only [lv69,forallC,forallL,and_true] at hEn;(try simp only [↓pb,qbs,tb69,hEg,irN,nrA,nrM,nrE,reduceIte,reduceCtorEq,nrL] at hEn);clear hEg;(try clear eg);have hEg:=hEn;clear hEn;rename Env => eg) | ((first | ((with_reducible first | apply oV_intro | apply oH_intro | apply oB_intro);(simp (disch:=first | exact dA | fail) only [qcs,tb69,hEg,irN,nrA,nrM,nrE,reduceIte,reduceCtorEq,nrL];with_reducible exact rfl)) | ((with_reducible apply WO_callF);(focus exact topA);(simp only [↓pb,qbs,tb69,hEg,irN,nrA,nrM,nrE,reduceIte,reduceCtorEq,nrL];exact f90 _ _ _ _ _ _ _ _ _ _ (by exact topA) ho (Sh.fr (N:=H.n) (by exact frA)) hl (S.fr0 (N:=H.n) (by exact frA)) (hR.fr (N:=H.n) (X:=[]) (by exact frA) (by simp)) hk hrl hrs);(rintro vq Gq hq hJq ⟨n,rfl,hn⟩;try simp only [upd_n,jn_n] at hq)) | (with_reducible first | refine W_regionF lv69 fun K hK => ?_));try simp only [↓pb,↓pd,qds,tb69,hEg,irN,nrA,nrM,nrE,reduceIte,reduceCtorEq,nrL]) | (with_reducible first | refine W_seq ?_ | refine W_ret ?_) | fail)
 refine ⟨by first | exact .inl rfl | exact .inr rfl, ?_⟩
 rw [ret1 Try.results69]
 simp only [↓pb,qbs,tb69,rv_tmp,rv_cell,hEg,irN,nrA,nrM,nrE,reduceIte,reduceCtorEq,nrL]
 repeat ((with_reducible apply oV_intro);(simp (disch:=first | exact dA | fail) only [qcs,tb69,hEg,irN,nrA,nrM,nrE,reduceIte,reduceCtorEq,nrL];exact rfl))
 exact ⟨by rw [← hn],(by exact frA)⟩
theorem at03 {a b c d : Value} : atN [a,b,c,d] 0 3 = some (.agg ⟨[a,b,c]⟩):=rfl
set_option maxHeartbeats 4000000 in
theorem f88 (va vb vc vh : Value) (g : Gnd) (l : List (Hp × Value)) (spot : Nat) (hour : Int) (H : AHeap) (hT : Top H) (hG : RG H va vb vc g) (Sh : RHs H vh l) (ok : Ok g) (el : l.map (·.1) = (known g).1) (hll : l.length = g.Spots.length) (hs : spot < l.length) (hho : 0 ≤ hour ∧ hour ≤ 72) :
  ∃ v H',C5 (.fn 88) #[.agg ⟨[va,vb,vc,vh]⟩,iv spot,iv hour] H v H' ∧ (∃ vs gg,GS H' 1 (heapRules g (l.getD spot default).1 spot hour).length v vs gg ∧ (∀ x,gg = some x → H.n ≤ x) ∧ H.n ≤ vblk v ∧ RulesV H' [] vs (heapRules g (l.getD spot default).1 spot hour)) ∧ Fr H.n [] H H':=by
 have hx : (l.getD spot default).1 ∈ (known g).1:=by
  rw [← el]
  refine List.mem_map.2 ⟨_, ?_,rfl⟩
  simp [List.getD,List.getElem?_eq_getElem hs]
 have hal:=ok.acts
 have hf:=known_few hal _ hx
 have S2:=Sh.2 spot hs
 have l1:=Sh.1.lt
 have hfp:=hf.pos
 have hfl:=hf.len
 have hgo:=hG.one
 have hb1:=hf.before (untilL hour g.Acts)
 have hgx : (known g).1.getD spot default = (l.getD spot default).1:=by rw [← el,getD_mapA hs]
 have hul:=until_len hour g.Acts
 have hkn:=known_kind ok (g:=g) (j:=spot) (by rw [← el,List.length_map];exact hs) hul
 rw [hgx] at hkn
 obtain ⟨p,hp⟩ : ∃ p,p = l.getD spot default:=⟨_,rfl⟩
 rw [← hp] at S2 hf hfp hfl hb1 hkn hgx ⊢
 obtain ⟨now,hnow⟩ : ∃ now,now = nowOf g p.1 hour:=⟨_,rfl⟩
 have hnow2 : beforeL (↑(untilL hour g.Acts)) (p.1.m.getD 0 default) p.1.m = now:=hnow.symm
 have hnow3 : p.1.before (untilL hour g.Acts) = now:=hnow.symm
 rw [hnow3] at hb1 hkn
 have hen : (eHp (l.getD spot default)) = eHp p:=by rw [hp]
 have hlp : (eHp p).length = 122:=eHp_len p
 obtain ⟨kn,hknn⟩ : ∃ kn : Nat,now.kind = kn:=⟨now.kind.toNat,by omega⟩
 have hhp : holds g spot kn = holdsP g spot kn:=rfl
 have hp2 : l.getD spot default = p:=hp.symm
 refine Cl.ofW Try.func88 rfl (by kernel_rfl) (by rw [Try.ntmps88];exact Nat.le_of_ble_eq_true rfl) (by kernel_rfl) ?_
 have hEg : True:=trivial
 refine gcW [0,1,2] ?_
 intro eg hEn
 simp only [forallC,forallL,and_true] at hEn
 try simp only [↓pb,qbs,tb88,hgo,Sh.1.one,hEg,irN,nrA,nrM,nrE,reduceIte,reduceCtorEq,nrL] at hEn
 replace hEg:=hEn;clear hEn
 repeat' (first | ((with_reducible refine hK _ _ fun e2 hEn => ?_);clear hK K;simp only [lv88,forallC,forallL,and_true] at hEn;(try simp only [↓pb,qbs,tb88,hgo,Sh.1.one,lns89 Sh.1,Sh.1.one,ias89 Sh.1,Sh.1.rd,(Sh.1.el eHp_len rfl),hgo,S2.one,Nat.mul_one,hen,hp2,at03,hnow2,hknn,hhp,eHp,eMom,hEg,irN,nrA,nrM,nrE,reduceIte,reduceCtorEq,nrL] at hEn);clear hEg;(try clear eg);have hEg:=hEn;clear hEn;rename Env => eg) | ((first | ((with_reducible first | apply oV_intro | apply oH_intro | apply oB_intro);(simp (disch:=first | exact dA | fail) only [qcs,tb88,hgo,Sh.1.one,lns89 Sh.1,Sh.1.one,ias89 Sh.1,Sh.1.rd,(Sh.1.el eHp_len rfl),hgo,S2.one,Nat.mul_one,hen,hp2,at03,hnow2,hknn,hhp,eHp,eMom,hEg,irN,nrA,nrM,nrE,reduceIte,reduceCtorEq,nrL];with_reducible exact rfl)) | ((with_reducible first | apply oblA_and | apply oblR_and | apply oblO_and);(focus exact obA)) | ((with_reducible apply WO_callF);(focus exact topA);(simp only [↓pb,qbs,tb88,hgo,Sh.1.one,lns89 Sh.1,Sh.1.one,ias89 Sh.1,Sh.1.rd,(Sh.1.el eHp_len rfl),hgo,S2.one,Nat.mul_one,hen,hp2,at03,hnow2,hknn,hhp,eHp,eMom,hEg,irN,nrA,nrM,nrE,reduceIte,reduceCtorEq,nrL];exact f104 ⟨spot,now.takes,now.tips,holdsP g spot kn⟩ _ (by exact topA));(rintro vq Gq hq hJq ⟨or,hor⟩;try simp only [upd_n,jn_n] at hq)) | ((with_reducible apply WO_callV);(focus exact topA);(simp only [↓pb,qbs,tb88,hgo,Sh.1.one,lns89 Sh.1,Sh.1.one,ias89 Sh.1,Sh.1.rd,(Sh.1.el eHp_len rfl),hgo,S2.one,Nat.mul_one,hen,hp2,at03,hnow2,hknn,hhp,eHp,eMom,hEg,irN,nrA,nrM,nrE,reduceIte,reduceCtorEq,nrL];(first | exact f56 _ _ _ _ _ _ _ (by exact topA) (hG.fr (N:=H.n) (by exact frA)) Sh.1.one (by omega) | exact f55 _ _ _ _ _ (by exact topA) (S2.fr0 (N:=0) (by exact frA)) hfp (by omega) | exact f78 _ _ _ _ _ _ _ (by exact topA) (hG.fr (N:=H.n) (by exact frA)) (by omega) (by omega)));(intro Gq hq hJq;try simp only [upd_n,jn_n] at hq)) | (with_reducible first | refine W_regionE lv88 [5] fun K hK => ?_ | refine W_drawnE lv88 [5] fun K hK => ?_));try simp only [↓pb,↓pd,qds,tb88,hgo,Sh.1.one,lns89 Sh.1,Sh.1.one,ias89 Sh.1,Sh.1.rd,(Sh.1.el eHp_len rfl),hgo,S2.one,Nat.mul_one,hen,hp2,at03,hnow2,hknn,hhp,eHp,eMom,hEg,irN,nrA,nrM,nrE,reduceIte,reduceCtorEq,nrL]) | ((first | ((with_reducible first | apply WO_gT | apply WO_gF | apply WD_gT | apply WD_gF);exact rfl) | (with_reducible apply W_cond));(simp only [↓pb,qbs,tb88,hgo,Sh.1.one,lns89 Sh.1,Sh.1.one,ias89 Sh.1,Sh.1.rd,(Sh.1.el eHp_len rfl),hgo,S2.one,Nat.mul_one,hen,hp2,at03,hnow2,hknn,hhp,eHp,eMom,hEg,irN,nrA,nrM,nrE,reduceIte,reduceCtorEq,nrL];with_reducible exact rfl);all_goals (intro hc;(first | exact hcX hc | try simp only [hcs] at hc);try ((with_reducible first | apply woI | apply wdI);simp only [↓pb,↓pd,qds,tb88,hgo,Sh.1.one,lns89 Sh.1,Sh.1.one,ias89 Sh.1,Sh.1.rd,(Sh.1.el eHp_len rfl),hgo,S2.one,Nat.mul_one,hen,hp2,at03,hnow2,hknn,hhp,eHp,eMom,hc,hEg,irN,nrA,nrM,nrE,reduceIte,reduceCtorEq,nrL]))) | (with_reducible first | refine W_seq ?_ | refine W_block ?_ | refine W_skip ?_ | refine W_ret ?_ | refine W_exit ?_ | apply blockK_exit) | ((with_reducible apply blockK_pass);(focus decide)) | fail)
 rename_i g56 q56 j56 g55 q55 j55 g78 q78 j78
 refine W_forget (N:=H.n) (X:=[]) (h0:=H) (fun h => (h.get H.n = .cells [va,vb,vc,vh] 91 .ex ∧ h.get (H.n + 1) = .cells [iv spot] 3 .ex ∧ h.get (H.n + 2) = .cells [iv hour] 3 .ex ∧ h.get (H.n + 3) = .cells (eHp p) 99 .ex) ∧ (h.get g55.n = .cells (eMom now) 101 .ex ∧ h.get (Gq.n + 1) = .cells [.slice (some ⟨Gq.n,0,none⟩) 1 1] 114 .ex ∧ h.get (Gq.n + 2) = .cells [iv (0 : Nat)] 3 .ex ∧ h.get (Gq.n + 3) = .cells [iv (0 : Nat)] 3 .ex) ∧ GS h 1 1 (.slice (some ⟨Gq.n,0,none⟩) 1 1) [vq] none ∧ (∀ x,Gq.n ≤ x → RuleV h [Gq.n + 1,Gq.n + 2,Gq.n + 3,x] vq [⟨spot,now.takes,now.tips,holdsP g spot kn⟩]) ∧ Gq.n + 3 < h.n ∧ Top h) (by exact frA) ⟨⟨by simp (disch:=first | exact dA | fail) only [qcs,tb88,hgo,Sh.1.one,hEg,irN,nrA,nrM,nrE,reduceIte,reduceCtorEq,nrL],by simp (disch:=first | exact dA | fail) only [qcs,tb88,hgo,Sh.1.one,hEg,irN,nrA,nrM,nrE,reduceIte,reduceCtorEq,nrL],by simp (disch:=first | exact dA | fail) only [qcs,tb88,hgo,Sh.1.one,hEg,irN,nrA,nrM,nrE,reduceIte,reduceCtorEq,nrL],by simp (disch:=first | exact dA | fail) only [qcs,tb88,hgo,Sh.1.one,hEg,irN,nrA,nrM,nrE,reduceIte,reduceCtorEq,nrL];rfl⟩,⟨by simp (disch:=first | exact dA | fail) only [qcs,tb88,hgo,Sh.1.one,hEg,irN,nrA,nrM,nrE,reduceIte,reduceCtorEq,nrL];rw [eMom,hknn],by simp (disch:=first | exact dA | fail) only [qcs,tb88,hgo,Sh.1.one,hEg,irN,nrA,nrM,nrE,reduceIte,reduceCtorEq,nrL],by simp (disch:=first | exact dA | fail) only [qcs,tb88,hgo,Sh.1.one,hEg,irN,nrA,nrM,nrE,reduceIte,reduceCtorEq,nrL];rfl,by simp (disch:=first | exact dA | fail) only [qcs,tb88,hgo,Sh.1.one,hEg,irN,nrA,nrM,nrE,reduceIte,reduceCtorEq,nrL];rfl⟩, ?_, ?_,by simp only [↓pb,qbs,tb88,hgo,Sh.1.one,hEg,irN,nrA,nrM,nrE,reduceIte,reduceCtorEq,nrL];omega,(by exact topA)⟩ ?_
 ·refine .full rfl ?_ (k:=.ex) (d:=[vq]) (T:=119) ?_ (.inl rfl) (Nat.le_refl _) rfl (fun _ => rfl)
  ·simp only [↓pb,qbs,tb88,hgo,Sh.1.one,hEg,irN,nrA,nrM,nrE,reduceIte,reduceCtorEq,nrL]
   omega
  ·simp (disch:=first | exact dA | fail) only [qcs,tb88,hgo,Sh.1.one,hEg,irN,nrA,nrM,nrE,reduceIte,reduceCtorEq,nrL]
 ·intro x hx
  have h1:=hor [] (by simp)
  have h2:=h1.ex (E':=[Gq.n + 1,Gq.n + 2,Gq.n + 3,x]) (by
   intro b hb hlt
   simp only [List.mem_cons,List.not_mem_nil,or_false,jn_n] at hb hlt
   omega)
  exact h2.fr (N:=Gq.n) (X:=[]) (by exact frA) (by simp)
 rintro hb Fb ⟨⟨y0,y1,y2,y3⟩,⟨y4,y5,y6,y7⟩,Gb,Rb,nb1,Tb⟩
 clear hor hJq j56 j55 j78
 obtain ⟨GO,hGO⟩ : ∃ GO,Gq.n = GO:=⟨_,rfl⟩
 rw [hGO] at y5 y6 y7 Gb Rb nb1 hq hEg
 have ry0 : hb.rd H.n = some [va,vb,vc,vh]:=by rw [rd_def,y0];rfl
 have ry1 : hb.rd (H.n + 1) = some [iv spot]:=by rw [rd_def,y1];rfl
 repeat' (first | ((with_reducible refine hK _ _ fun e2 hEn => ?_);clear hK K;simp only [lv88,forallC,forallL,and_true] at hEn;(try simp only [↓pb,qbs,tb88,hgo,Sh.1.one,ry0,ry1,y0,y1,hgo,at03,hEg,irN,nrA,nrM,nrE,reduceIte,reduceCtorEq,nrL] at hEn);clear hEg;(try clear eg);have hEg:=hEn;clear hEn;rename Env => eg) | ((first | ((with_reducible first | apply oV_intro | apply oH_intro | apply oB_intro);(simp (disch:=first | exact dA | fail) only [qcs,tb88,hgo,Sh.1.one,ry0,ry1,y0,y1,hgo,at03,hEg,irN,nrA,nrM,nrE,reduceIte,reduceCtorEq,nrL];with_reducible exact rfl)) | ((with_reducible first | apply oblA_and | apply oblR_and | apply oblO_and);(focus exact obA)) | ((with_reducible apply WO_callE);(simp only [↓pb,qbs,tb88,hgo,Sh.1.one,ry0,ry1,y0,y1,hgo,at03,hEg,irN,nrA,nrM,nrE,reduceIte,reduceCtorEq,nrL];(exact f102 _ _ _ _ _ hgo.1 hgo.2.1 hgo.2.2))) | (with_reducible first | refine W_regionF lv88 fun K hK => ?_ | refine W_drawnF lv88 fun K hK => ?_));try simp only [↓pb,↓pd,qds,tb88,hgo,Sh.1.one,ry0,ry1,y0,y1,hgo,at03,hEg,irN,nrA,nrM,nrE,reduceIte,reduceCtorEq,nrL]) | ((first | ((with_reducible first | apply WO_gT | apply WO_gF | apply WD_gT | apply WD_gF);exact rfl) | (with_reducible apply W_cond));(simp only [↓pb,qbs,tb88,hgo,Sh.1.one,ry0,ry1,y0,y1,hgo,at03,hEg,irN,nrA,nrM,nrE,reduceIte,reduceCtorEq,nrL];with_reducible exact rfl);all_goals (intro hc;(first | exact hcX hc | try simp only [hcs] at hc);try ((with_reducible first | apply woI | apply wdI);simp only [↓pb,↓pd,qds,tb88,hgo,Sh.1.one,ry0,ry1,y0,y1,hgo,at03,hc,hEg,irN,nrA,nrM,nrE,reduceIte,reduceCtorEq,nrL]))) | (with_reducible first | refine W_seq ?_ | refine W_block ?_ | refine W_skip ?_ | refine W_ret ?_ | refine W_exit ?_ | apply blockK_exit) | ((with_reducible apply blockK_pass);(focus decide)) | fail)
 refine W_range2 fun LO hLO hLg => ?_
 simp only [↓pb,qbs,tb88,hgo,Sh.1.one,hEg,irN,nrA,nrM,nrE,reduceIte,reduceCtorEq,nrL]
 have hrow : InRow H.n g55.n (GO + 1) (GO + 2) (GO + 3) hb.n (hb.n + 1) (hb.n + 2):=by
  unfold InRow
  omega
 let w0 : Way:=⟨spot,now.takes,now.tips,holdsP g spot kn⟩
 let J : AObj → Nat → AHeap → Prop:=fun LX i h => ∃ (s : Hst) (vo : Value) (vs : List Value) (gg : Option Nat),HeapR H h va vb vc vh spot hour p now g55.n (GO + 1) (GO + 2) (GO + 3) hb.n (hb.n + 1) (hb.n + 2) LX s.out s.before s.tips vo vs gg ∧ hRun g p.1 spot hour now 0 g.Acts ⟨[[w0]],0,0⟩ = hRun g p.1 spot hour now i (g.Acts.drop i) s ∧ s.before < 11 ∧ s.tips < 11 ∧ s.out.length ≤ 1 + 2 * i
 have hHr : (heapRules g p.1 spot hour) = (hRun g p.1 spot hour now 0 g.Acts ⟨[[w0]],0,0⟩).out:=by
  unfold heapRules
  rw [← hnow]
  dsimp only
  rw [hknn,Int.toNat_natCast]
 suffices hsf : ∃ v H1,C5 (.fn 110) #[.func (.yield (hb.n + 2)) #[] #[],vptr hb.n 0,vptr (hb.n + 1) 0] _ v H1 ∧ v = .tuple #[] ∧ J LO g.Acts.length H1 by
  obtain ⟨v,H1,c1,rfl,s,vo,vs,gg,k,e1,e2,e3,e4⟩:=hsf
  refine ⟨_,H1,c1,k.lo,fun LX hLX => ?_⟩
  have k2:=k.setL hrow (by have:=Fb.n;omega) hLX
  have ko:=k2.G.one
  have ro : (H1.upd H1.n (hb.n + 2) LX).rd (GO + 1) = some [vo]:=by rw [rd_def,k2.o];rfl
  rw [List.drop_of_length_le (Nat.le_refl _)] at e1
  generalize (H1.upd H1.n (hb.n + 2) LX) = h2 at k2 ro ko ⊢
  repeat' (first | ((with_reducible refine hK _ _ fun e2 hEn => ?_);clear hK K;simp only [lv88,forallC,forallL,and_true] at hEn;(try simp only [↓pb,qbs,tb88,hgo,Sh.1.one,ro,k2.o,hEg,irN,nrA,nrM,nrE,reduceIte,reduceCtorEq,nrL] at hEn);clear hEg;(try clear eg);have hEg:=hEn;clear hEn;rename Env => eg) | ((first | ((with_reducible first | apply oV_intro | apply oH_intro | apply oB_intro);(simp (disch:=first | exact dA | fail) only [qcs,tb88,hgo,Sh.1.one,ro,k2.o,hEg,irN,nrA,nrM,nrE,reduceIte,reduceCtorEq,nrL];with_reducible exact rfl)) | ((with_reducible first | apply oblA_and | apply oblR_and | apply oblO_and);(focus exact obA)) | (with_reducible first | refine W_regionF lv88 fun K hK => ?_ | refine W_drawnF lv88 fun K hK => ?_));try simp only [↓pb,↓pd,qds,tb88,hgo,Sh.1.one,ro,k2.o,hEg,irN,nrA,nrM,nrE,reduceIte,reduceCtorEq,nrL]) | ((first | ((with_reducible first | apply WO_gT | apply WO_gF | apply WD_gT | apply WD_gF);exact rfl) | (with_reducible apply W_cond));(simp only [↓pb,qbs,tb88,hgo,Sh.1.one,ro,k2.o,hEg,irN,nrA,nrM,nrE,reduceIte,reduceCtorEq,nrL];with_reducible exact rfl);all_goals (intro hc;(first | exact hcX hc | try simp only [hcs] at hc);try ((with_reducible first | apply woI | apply wdI);simp only [↓pb,↓pd,qds,tb88,hgo,Sh.1.one,ro,k2.o,hc,hEg,irN,nrA,nrM,nrE,reduceIte,reduceCtorEq,nrL]))) | (with_reducible first | refine W_seq ?_ | refine W_block ?_ | refine W_skip ?_ | refine W_ret ?_ | refine W_exit ?_ | apply blockK_exit) | ((with_reducible apply blockK_pass);(focus decide)) | fail)
  refine ⟨by first | exact .inl rfl | exact .inr rfl, ?_⟩
  rw [ret1 Try.results88]
  simp only [↓pb,qbs,tb88,hgo,Sh.1.one,rv_tmp,rv_cell,hEg,irN,nrA,nrM,nrE,reduceIte,reduceCtorEq,nrL]
  repeat ((with_reducible apply oV_intro);(simp (disch:=first | exact dA | fail) only [qcs,tb88,hgo,Sh.1.one,hEg,irN,nrA,nrM,nrE,reduceIte,reduceCtorEq,nrL];exact rfl))
  rw [hHr,e1]
  exact ⟨⟨vs,gg,k2.G,k2.gr,k2.vb.2,k2.R.ex (by simp)⟩,k2.F⟩
 refine f110 (hb.n + 2) hb.n (hb.n + 1) va vb vc g.Acts spot _ (J LO) (by omega) ?_ ?_ ?_ ?_ ?_
 ·have hn:=Fb.n
  have F2 : Fr hb.n [] hb ((hb.upd (hb.n + 1) hb.n (AObj.cells [va,vb,vc] 26 Kd.ex)).upd (hb.n + 2) (hb.n + 1) (AObj.cells [iv ↑spot] 3 Kd.ex)):=by exact frA
  have F3 : Fr hb.n [] hb (((hb.upd (hb.n + 1) hb.n (AObj.cells [va,vb,vc] 26 Kd.ex)).upd (hb.n + 2) (hb.n + 1) (AObj.cells [iv ↑spot] 3 Kd.ex)).upd (hb.n + 3) (hb.n + 2) LO):=F2.upd (Nat.le_succ _) (Nat.lt_succ_self _) (.inl (Nat.le_add_right _ _)) (hLg _ _)
  refine ⟨⟨[[w0]],0,0⟩,.slice (some ⟨GO,0,none⟩) 1 1,[vq],none,⟨?_, ?_, ?_, ?_, ?_, ?_, ?_, ?_, ?_, ?_, ?_, ?_, ?_, ?_, ?_, ?_, ?_, ?_⟩,by rw [List.drop_zero],by show 0 < 11;omega,by show 0 < 11;omega,by simp⟩
  all_goals first | (simp (disch:=first | exact dA | fail) only [qcs,tb88,hgo,Sh.1.one,hEg,irN,nrA,nrM,nrE,reduceIte,reduceCtorEq,nrL];done) | (simp (disch:=first | exact dA | fail) only [qcs,tb88,hgo,Sh.1.one,hEg,irN,nrA,nrM,nrE,reduceIte,reduceCtorEq,nrL];first | assumption | rfl) | skip
  ·exact Gb.fr F3 (by simp) (by simp)
  ·simp
  ·exact ⟨by show GO ∉ _;simp only [List.mem_cons,List.not_mem_nil,or_false,not_or];omega,by show H.n ≤ GO;omega⟩
  ·exact ⟨(Rb _ (by omega)).fr F3 (by simp),trivial⟩
  ·exact Fb.call F3 hn
  ·exact F3.top Tb
  ·simp only [upd_n]
   omega
 ·rintro i h ⟨s,vo,vs,gg,k,e1,e2,e3,e4⟩
  exact ⟨by rw [rd_def,k.g];rfl,by rw [rd_def,k.sb];rfl,by have:=k.lt;omega,by have:=k.lt;omega,(hG.fr k.F).r⟩
 ·rintro i h c ⟨s,vo,vs,gg,k,e1,e2⟩
  exact ⟨s,vo,vs,gg,k.mono hrow Fr.ex k.F.n,e1,e2⟩
 ·rintro i h hi hsp ⟨s,vo,vs,gg,k,e1,e2,e3,e4⟩
  rw [drop_getD hi,hRun,if_neg hsp] at e1
  exact ⟨s,vo,vs,gg,k,e1,e2,e3,by omega⟩
 ·rintro i h hi hsp ⟨s,vo,vs,gg,k,e1,e2,e3,e4⟩
  rw [drop_getD hi,hRun,if_pos hsp] at e1
  obtain ⟨last,hA⟩:=ok.at hi
  generalize ha : g.Acts.getD i default = a at hsp e1 hA ⊢
  have hn0:=k.F.n
  have hnb:=Fb.n
  have l2:=k.lt
  refine round_W2 hLO k.lo rfl (by kernel_rfl) (by kernel_rfl) (by kernel_rfl) (by kernel_rfl) (by kernel_rfl) ?_
  rw [roundEnv2]
  repeat' (first | ((with_reducible refine hK _ _ fun e2 hEn => ?_);clear hK K;simp only [lv88,forallC,forallL,and_true] at hEn;(try simp only [↓pb,qbs,tb88,hgo,Sh.1.one,eAct,hEg,irN,nrA,nrM,nrE,reduceIte,reduceCtorEq,nrL] at hEn);clear hEg;(try clear eg);have hEg:=hEn;clear hEn;rename Env => eg) | ((first | ((with_reducible first | apply oV_intro | apply oH_intro | apply oB_intro);(simp (disch:=first | exact dA | fail) only [qcs,tb88,hgo,Sh.1.one,eAct,hEg,irN,nrA,nrM,nrE,reduceIte,reduceCtorEq,nrL];with_reducible exact rfl)) | ((with_reducible first | apply oblA_and | apply oblR_and | apply oblO_and);(focus exact obA)) | (with_reducible first | refine W_regionF lv88 fun K hK => ?_ | refine W_drawnF lv88 fun K hK => ?_));try simp only [↓pb,↓pd,qds,tb88,hgo,Sh.1.one,eAct,hEg,irN,nrA,nrM,nrE,reduceIte,reduceCtorEq,nrL]) | ((first | ((with_reducible first | apply WO_gT | apply WO_gF | apply WD_gT | apply WD_gF);exact rfl) | (with_reducible apply W_cond));(simp only [↓pb,qbs,tb88,hgo,Sh.1.one,eAct,hEg,irN,nrA,nrM,nrE,reduceIte,reduceCtorEq,nrL];with_reducible exact rfl);all_goals (intro hc;(first | exact hcX hc | try simp only [hcs] at hc);try ((with_reducible first | apply woI | apply wdI);simp only [↓pb,↓pd,qds,tb88,hgo,Sh.1.one,eAct,hc,hEg,irN,nrA,nrM,nrE,reduceIte,reduceCtorEq,nrL]))) | (with_reducible first | refine W_seq ?_ | refine W_block ?_ | refine W_skip ?_ | refine W_ret ?_ | refine W_exit ?_ | apply blockK_exit) | ((with_reducible apply blockK_pass);(focus decide)) | fail)
  refine ⟨rfl,by simp (disch:=first | exact dA | fail) only [qcs,tb88,hgo,Sh.1.one,hEg,irN,nrA,nrM,nrE,reduceIte,reduceCtorEq,nrL];exact k.lo,fun LB hLB => ?_⟩
  refine W_forget (N:=H.n) (X:=[]) (h0:=H) (fun h' => HeapR H h' va vb vc vh spot hour p now g55.n (GO + 1) (GO + 2) (GO + 3) hb.n (hb.n + 1) (hb.n + 2) LB s.out s.before s.tips vo vs gg ∧ h'.get h.n = .cells (eAct a) 30 .ex ∧ h.n < h'.n) ?_ ⟨HeapR.setL (k.mono hrow Fr.ex k.F.n) hrow (by omega) hLB,by simp (disch:=first | exact dA | fail) only [qcs,tb88,hgo,Sh.1.one,hEg,irN,nrA,nrM,nrE,reduceIte,reduceCtorEq,nrL];rfl,by simp only [upd_n];omega⟩ ?_
  ·exact (HeapR.setL (k.mono hrow Fr.ex k.F.n) hrow (by omega) hLB).F
  rintro h2 F2 ⟨k2,a2,n2⟩
  have hra : h2.rd h.n = some (eAct a):=by rw [rd_def,a2];rfl
  have hr5 : h2.rd (H.n + 2) = some [iv hour]:=by rw [rd_def,k2.t];rfl
  have hr7 : h2.rd (H.n + 3) = some (eHp p):=by rw [rd_def,k2.hp];rfl
  by_cases hsk : a.Take = true ∨ hour < a.Hour
  ·have hst : hStep g p.1 spot hour now s i a = s:=by unfold hStep;rw [if_pos hsk]
   rw [hst] at e1
   rcases hsk with hsk | hsk
   all_goals (
    repeat' (first | ((with_reducible refine hK _ _ fun e2 hEn => ?_);clear hK K;simp only [lv88,forallC,forallL,and_true] at hEn;(try simp only [↓pb,qbs,tb88,hgo,Sh.1.one,hra,hr5,eAct,hsk,hEg,irN,nrA,nrM,nrE,reduceIte,reduceCtorEq,nrL] at hEn);clear hEg;(try clear eg);have hEg:=hEn;clear hEn;rename Env => eg) | ((first | ((with_reducible first | apply oV_intro | apply oH_intro | apply oB_intro);(simp (disch:=first | exact dA | fail) only [qcs,tb88,hgo,Sh.1.one,hra,hr5,eAct,hsk,hEg,irN,nrA,nrM,nrE,reduceIte,reduceCtorEq,nrL];with_reducible exact rfl)) | ((with_reducible first | apply oblA_and | apply oblR_and | apply oblO_and);(focus exact obA)) | (with_reducible first | refine W_regionF lv88 fun K hK => ?_ | refine W_drawnF lv88 fun K hK => ?_));try simp only [↓pb,↓pd,qds,tb88,hgo,Sh.1.one,hra,hr5,eAct,hsk,hEg,irN,nrA,nrM,nrE,reduceIte,reduceCtorEq,nrL]) | ((first | ((with_reducible first | apply WO_gT | apply WO_gF | apply WD_gT | apply WD_gF);exact rfl) | (with_reducible apply W_cond));(simp only [↓pb,qbs,tb88,hgo,Sh.1.one,hra,hr5,eAct,hsk,hEg,irN,nrA,nrM,nrE,reduceIte,reduceCtorEq,nrL];with_reducible exact rfl);all_goals (intro hc;(first | exact hcX hc | try simp only [hcs] at hc);try ((with_reducible first | apply woI | apply wdI);simp only [↓pb,↓pd,qds,tb88,hgo,Sh.1.one,hra,hr5,eAct,hsk,hc,hEg,irN,nrA,nrM,nrE,reduceIte,reduceCtorEq,nrL]))) | (with_reducible first | refine W_seq ?_ | refine W_block ?_ | refine W_skip ?_ | refine W_ret ?_ | refine W_exit ?_ | apply blockK_exit) | ((with_reducible apply blockK_pass);(focus decide)) | fail))
   all_goals exact ⟨rfl,k2.lo,s,vo,vs,gg,k2.setL hrow (by omega) hLg,e1,e2,e3,by omega⟩
  ·have hta : a.Take = false:=by
    cases hq : a.Take with
    | false => rfl
    | true => exact absurd (.inl hq) hsk
   have hah : ¬ hour < a.Hour:=fun q => hsk (.inr q)
   obtain ⟨m,hm⟩ : ∃ m,m = p.1.before (i : Nat):=⟨_,rfl⟩
   obtain ⟨m',hm'⟩ : ∃ m',m' = p.1.before (i + 1 : Nat):=⟨_,rfl⟩
   have hm2 : beforeL (↑i) (p.1.m.getD 0 default) p.1.m = m:=hm.symm
   have hm3 : beforeL (↑(i + 1 : Nat)) (p.1.m.getD 0 default) p.1.m = m':=hm'.symm
   have hbm : m'.tips < 11 ∧ m'.takes < 11:=by rw [hm'];exact hf.before _
   have hw1 : IntKind.i64.wrap ((i : Int) + 1) = ((i + 1 : Nat) : Int):=inc64 (by omega)
   have S3:=S2.fr0 k2.F
   have l3:=k2.lt
   have T2:=k2.T
   repeat' (first | ((with_reducible refine hK _ _ fun e2 hEn => ?_);clear hK K;simp only [lv88,forallC,forallL,and_true] at hEn;(try simp only [↓pb,qbs,tb88,hgo,Sh.1.one,k2.tp,hra,hr5,hr7,hta,hah,eAct,S2.one,eHp,hm2,hm3,hw1,eMom,hEg,irN,nrA,nrM,nrE,reduceIte,reduceCtorEq,nrL] at hEn);clear hEg;(try clear eg);have hEg:=hEn;clear hEn;rename Env => eg) | ((first | ((with_reducible first | apply oV_intro | apply oH_intro | apply oB_intro);(simp (disch:=first | exact dA | fail) only [qcs,tb88,hgo,Sh.1.one,k2.tp,hra,hr5,hr7,hta,hah,eAct,S2.one,eHp,hm2,hm3,hw1,eMom,hEg,irN,nrA,nrM,nrE,reduceIte,reduceCtorEq,nrL];with_reducible exact rfl)) | ((with_reducible first | apply oblA_and | apply oblR_and | apply oblO_and);(focus exact obA)) | ((with_reducible apply WO_callV);(focus exact topA);(simp only [↓pb,qbs,tb88,hgo,Sh.1.one,k2.tp,hra,hr5,hr7,hta,hah,eAct,S2.one,eHp,hm2,hm3,hw1,eMom,hEg,irN,nrA,nrM,nrE,reduceIte,reduceCtorEq,nrL];(exact f55 _ _ _ _ _ (by exact topA) (S3.fr0 (N:=0) (by exact frA)) hfp (by omega)));(intro Gq hq hJq;try simp only [upd_n,jn_n] at hq)) | (with_reducible first | refine W_regionE lv88 [11] fun K hK => ?_ | refine W_drawnE lv88 [11] fun K hK => ?_));try simp only [↓pb,↓pd,qds,tb88,hgo,Sh.1.one,k2.tp,hra,hr5,hr7,hta,hah,eAct,S2.one,eHp,hm2,hm3,hw1,eMom,hEg,irN,nrA,nrM,nrE,reduceIte,reduceCtorEq,nrL]) | ((first | ((with_reducible first | apply WO_gT | apply WO_gF | apply WD_gT | apply WD_gF);exact rfl) | (with_reducible apply W_cond));(simp only [↓pb,qbs,tb88,hgo,Sh.1.one,k2.tp,hra,hr5,hr7,hta,hah,eAct,S2.one,eHp,hm2,hm3,hw1,eMom,hEg,irN,nrA,nrM,nrE,reduceIte,reduceCtorEq,nrL];with_reducible exact rfl);all_goals (intro hc;(first | exact hcX hc | try simp only [hcs] at hc);try ((with_reducible first | apply woI | apply wdI);simp only [↓pb,↓pd,qds,tb88,hgo,Sh.1.one,k2.tp,hra,hr5,hr7,hta,hah,eAct,S2.one,eHp,hm2,hm3,hw1,eMom,hc,hEg,irN,nrA,nrM,nrE,reduceIte,reduceCtorEq,nrL]))) | (with_reducible first | refine W_seq ?_ | refine W_block ?_ | refine W_skip ?_ | refine W_ret ?_ | refine W_exit ?_ | apply blockK_exit) | ((with_reducible apply blockK_pass);(focus decide)) | fail)
   rename_i gm qm jm
   refine W_forget (N:=H.n) (X:=[]) (h0:=H) (fun h' => HeapR H h' va vb vc vh spot hour p now g55.n (GO + 1) (GO + 2) (GO + 3) hb.n (hb.n + 1) (hb.n + 2) LB s.out s.before m'.tips vo vs gg ∧ h'.get h.n = .cells (eAct a) 30 .ex ∧ h'.get gm.n = .cells (eMom m) 101 .ex ∧ h.n < h'.n ∧ gm.n < h'.n) ?_ ⟨HeapR.setT (k2.mono hrow (by exact frA) k2.F.n) hrow (by omega) _,by simp (disch:=first | exact dA | fail) only [qcs,tb88,hgo,Sh.1.one,hEg,irN,nrA,nrM,nrE,reduceIte,reduceCtorEq,nrL];exact a2,by simp (disch:=first | exact dA | fail) only [qcs,tb88,hgo,Sh.1.one,hEg,irN,nrA,nrM,nrE,reduceIte,reduceCtorEq,nrL];rfl,by simp only [upd_n,jn_n];omega,by simp only [upd_n,jn_n];omega⟩ ?_
   ·exact (HeapR.setT (k2.mono hrow (by exact frA) k2.F.n) hrow (by omega) _).F
   rintro h3 F3 ⟨k3,a3,b3,n3,n4⟩
   clear hJq jm
   have hgm : hb.n + 2 < gm.n:=by omega
   have hgh : hb.n + 2 < h.n:=l2
   have hr3 : h3.rd H.n = some [va,vb,vc,vh]:=by rw [rd_def,k3.y];rfl
   have hr4 : h3.rd (H.n + 1) = some [iv spot]:=by rw [rd_def,k3.s];rfl
   have hr5 : h3.rd (H.n + 2) = some [iv hour]:=by rw [rd_def,k3.t];rfl
   have hr8 : h3.rd g55.n = some (eMom now):=by rw [rd_def,k3.now];rfl
   have hr9 : h3.rd (GO + 1) = some [vo]:=by rw [rd_def,k3.o];rfl
   have hr11 : h3.rd (GO + 3) = some [iv m'.tips]:=by rw [rd_def,k3.tp];rfl
   have hra : h3.rd h.n = some (eAct a):=by rw [rd_def,a3];rfl
   have hq3:=(hG.fr k3.F).q
   obtain ⟨ak,hak⟩ : ∃ ak : Nat,a.Kind = ak:=⟨a.Kind.toNat,by have:=hA.k;omega⟩
   have hakl : ak < g.Sorts.length:=by have:=hA.k;omega
   obtain ⟨W,hW⟩ : ∃ W,W = w64 (a.Hour + (g.Sorts.getD ak default).Age):=⟨_,rfl⟩
   have hW2 : IntKind.i64.wrap (a.Hour + (g.Sorts.getD ak default).Age) = W:=hW.symm
   have T3:=k3.T
   have l4:=k3.lt
   have lq3:=hq3.lt
   have G3:=k3.G
   have og3:=G3.one
   refine W_both (fun e h' => (e 4 = vptr (H.n + 1) 0 ∧ e 5 = vptr (H.n + 2) 0 ∧ e 9 = vptr (GO + 1) 0 ∧ e 10 = vptr (GO + 2) 0 ∧ e 11 = vptr (GO + 3) 0 ∧ e 13 = vptr h.n 0 ∧ e 14 = vptr gm.n 0) ∧ (∃ vo vs gg,HeapR H h' va vb vc vh spot hour p now g55.n (GO + 1) (GO + 2) (GO + 3) hb.n (hb.n + 1) (hb.n + 2) LB (if W < hour then s.out ++ [[⟨spot,now.takes,m'.tips,0⟩]] else s.out) s.before m'.tips vo vs gg) ∧ h'.get h.n = .cells (eAct a) 30 .ex ∧ h'.get gm.n = .cells (eMom m) 101 .ex ∧ h.n < h'.n ∧ gm.n < h'.n) ?_ ?_
   ·repeat' (first | ((with_reducible refine hK _ _ fun e2 hEn => ?_);clear hK K;simp only [lv88,forallC,forallL,and_true] at hEn;(try simp only [↓pb,qbs,tb88,hgo,Sh.1.one,hr3,hr4,hr5,hr8,hr9,hr11,hra,eAct,hak,ias23 hq3,hq3.rd,(hq3.el eSrt_len rfl),eSrt,hW2,eMom,og3,hEg,irN,nrA,nrM,nrE,reduceIte,reduceCtorEq,nrL] at hEn);clear hEg;(try clear eg);have hEg:=hEn;clear hEn;rename Env => eg) | ((first | ((with_reducible first | apply oV_intro | apply oH_intro | apply oB_intro);(simp (disch:=first | exact dA | fail) only [qcs,tb88,hgo,Sh.1.one,hr3,hr4,hr5,hr8,hr9,hr11,hra,eAct,hak,ias23 hq3,hq3.rd,(hq3.el eSrt_len rfl),eSrt,hW2,eMom,og3,hEg,irN,nrA,nrM,nrE,reduceIte,reduceCtorEq,nrL];with_reducible exact rfl)) | ((with_reducible first | apply oblA_and | apply oblR_and | apply oblO_and);(focus exact obA)) | ((with_reducible apply WO_callF);(focus exact topA);(simp only [↓pb,qbs,tb88,hgo,Sh.1.one,hr3,hr4,hr5,hr8,hr9,hr11,hra,eAct,hak,ias23 hq3,hq3.rd,(hq3.el eSrt_len rfl),eSrt,hW2,eMom,og3,hEg,irN,nrA,nrM,nrE,reduceIte,reduceCtorEq,nrL];exact f104 ⟨spot,now.takes,m'.tips,0⟩ _ (by exact topA));(rintro vq Gq hq hJq ⟨or2,hor2⟩;try simp only [upd_n,jn_n] at hq)) | (with_reducible first | refine W_regionF lv88 fun K hK => ?_ | refine W_drawnF lv88 fun K hK => ?_));try simp only [↓pb,↓pd,qds,tb88,hgo,Sh.1.one,hr3,hr4,hr5,hr8,hr9,hr11,hra,eAct,hak,ias23 hq3,hq3.rd,(hq3.el eSrt_len rfl),eSrt,hW2,eMom,og3,hEg,irN,nrA,nrM,nrE,reduceIte,reduceCtorEq,nrL]) | ((first | ((with_reducible first | apply WO_gT | apply WO_gF | apply WD_gT | apply WD_gF);exact rfl) | (with_reducible apply W_cond));(simp only [↓pb,qbs,tb88,hgo,Sh.1.one,hr3,hr4,hr5,hr8,hr9,hr11,hra,eAct,hak,ias23 hq3,hq3.rd,(hq3.el eSrt_len rfl),eSrt,hW2,eMom,og3,hEg,irN,nrA,nrM,nrE,reduceIte,reduceCtorEq,nrL];with_reducible exact rfl);all_goals (intro hc;(first | exact hcX hc | try simp only [hcs] at hc);try ((with_reducible first | apply woI | apply wdI);simp only [↓pb,↓pd,qds,tb88,hgo,Sh.1.one,hr3,hr4,hr5,hr8,hr9,hr11,hra,eAct,hak,ias23 hq3,hq3.rd,(hq3.el eSrt_len rfl),eSrt,hW2,eMom,og3,hc,hEg,irN,nrA,nrM,nrE,reduceIte,reduceCtorEq,nrL]))) | (with_reducible first | refine W_seq ?_ | refine W_block ?_ | refine W_skip ?_ | refine W_ret ?_ | refine W_exit ?_ | apply blockK_exit) | ((with_reducible apply blockK_pass);(focus decide)) | fail)
    ·rename_i hc
     refine pu114 (n:=s.out.length) (m:=1) (c:=vs) (g:=gg) (GS.ex (G3.fr (N:=h3.n) (X:=[]) (by exact frA) (fun x hx => by subst hx;exact G3.grp_lt) (by simp))) (SR.new rfl) (by omega) (by omega) (by omega) (by exact topA) fun GG => ?_
     simp only [↓pb,↓pd,qds,tb88,hgo,Sh.1.one,k3.o,hEg,irN,nrA,nrM,nrE,reduceIte,reduceCtorEq,nrL]
     repeat' (first | ((with_reducible refine hK _ _ fun e2 hEn => ?_);clear hK K;simp only [lv88,forallC,forallL,and_true] at hEn;(try simp only [↓pb,qbs,tb88,hgo,Sh.1.one,k3.o,hEg,irN,nrA,nrM,nrE,reduceIte,reduceCtorEq,nrL] at hEn);clear hEg;(try clear eg);have hEg:=hEn;clear hEn;rename Env => eg) | ((first | ((with_reducible first | apply oV_intro | apply oH_intro | apply oB_intro);(simp (disch:=first | exact dA | fail) only [qcs,tb88,hgo,Sh.1.one,k3.o,hEg,irN,nrA,nrM,nrE,reduceIte,reduceCtorEq,nrL];with_reducible exact rfl)) | ((with_reducible first | apply oblA_and | apply oblR_and | apply oblO_and);(focus exact obA)) | (with_reducible first | refine W_regionF lv88 fun K hK => ?_ | refine W_drawnF lv88 fun K hK => ?_));try simp only [↓pb,↓pd,qds,tb88,hgo,Sh.1.one,k3.o,hEg,irN,nrA,nrM,nrE,reduceIte,reduceCtorEq,nrL]) | ((first | ((with_reducible first | apply WO_gT | apply WO_gF | apply WD_gT | apply WD_gF);exact rfl) | (with_reducible apply W_cond));(simp only [↓pb,qbs,tb88,hgo,Sh.1.one,k3.o,hEg,irN,nrA,nrM,nrE,reduceIte,reduceCtorEq,nrL];with_reducible exact rfl);all_goals (intro hc;(first | exact hcX hc | try simp only [hcs] at hc);try ((with_reducible first | apply woI | apply wdI);simp only [↓pb,↓pd,qds,tb88,hgo,Sh.1.one,k3.o,hc,hEg,irN,nrA,nrM,nrE,reduceIte,reduceCtorEq,nrL]))) | (with_reducible first | refine W_seq ?_ | refine W_block ?_ | refine W_skip ?_ | refine W_ret ?_ | refine W_exit ?_ | apply blockK_exit) | ((with_reducible apply blockK_pass);(focus decide)) | fail)
     refine ⟨rfl,by simp only [hEg,and_self], ?_, ?_, ?_, ?_, ?_⟩
     ·rw [if_pos hc]
      exact ⟨_,_,_,k3.add hrow (by omega) (hA:=(h3.jn Gq).upd (Gq.n + 1) Gq.n (.cells [vq] 119 .ex)) (by exact frA) (by exact topA) ((hor2 [GO + 1,GO + 2,GO + 3,hb.n + 2] (by intro x hx;simp only [List.mem_cons,List.not_mem_nil,or_false] at hx;omega)).fr (N:=Gq.n) (X:=[]) (by exact frA) (by simp)) rfl GG⟩
     ·simp (disch:=first | exact dA | fail) only [qcs,tb88,hgo,Sh.1.one,hEg,irN,nrA,nrM,nrE,reduceIte,reduceCtorEq,nrL]
      exact a3
     ·simp (disch:=first | exact dA | fail) only [qcs,tb88,hgo,Sh.1.one,hEg,irN,nrA,nrM,nrE,reduceIte,reduceCtorEq,nrL]
      exact b3
     ·simp only [upd_n,jn_n]
      omega
     ·simp only [upd_n,jn_n]
      omega
    ·rename_i hc
     exact ⟨rfl,by simp only [hEg,and_self],⟨vo,vs,gg,by rw [if_neg hc];exact k3⟩,a3,b3,n3,n4⟩
   ·rintro e4 h4 ⟨⟨j4,j5,j9,j10,j11,j13,j14⟩,⟨vo4,vs4,gg4,k4⟩,a4,b4,n5,n6⟩
    obtain ⟨o1,ho1⟩ : ∃ o1,o1 = if W < hour then s.out ++ [[⟨spot,now.takes,m'.tips,0⟩]] else s.out:=⟨_,rfl⟩
    rw [← ho1] at k4
    have hol : o1.length ≤ 2 + 2 * i:=by
     rw [ho1]
     split
     ·rw [List.length_append,List.length_singleton]
      omega
     ·omega
    clear hr3 hr4 hr5 hr8 hr9 hr11 hra hq3 T3 l4 lq3 G3 og3 a3 b3 n3 n4 F3
    clear k3 hEg
    have hEg:=And.intro j4 (And.intro j5 (And.intro j9 (And.intro j10 (And.intro j11 (And.intro j13 j14)))))
    clear j4 j5 j9 j10 j11 j13 j14
    have hr4 : h4.rd (H.n + 1) = some [iv spot]:=by rw [rd_def,k4.s];rfl
    have hr5 : h4.rd (H.n + 2) = some [iv hour]:=by rw [rd_def,k4.t];rfl
    have hr9 : h4.rd (GO + 1) = some [vo4]:=by rw [rd_def,k4.o];rfl
    have hr10 : h4.rd (GO + 2) = some [iv s.before]:=by rw [rd_def,k4.b];rfl
    have hra : h4.rd h.n = some (eAct a):=by rw [rd_def,a4];rfl
    have hrm : h4.rd gm.n = some (eMom m):=by rw [rd_def,b4];rfl
    have T4:=k4.T
    have l4:=k4.lt
    have G4:=k4.G
    have og4:=G4.one
    repeat' (first | ((with_reducible refine hK _ _ fun e2 hEn => ?_);clear hK K;simp only [lv88,forallC,forallL,and_true] at hEn;(try simp only [↓pb,qbs,tb88,hgo,Sh.1.one,hEg,irN,nrA,nrM,nrE,reduceIte,reduceCtorEq,nrL] at hEn);clear hEg;(try clear eg);have hEg:=hEn;clear hEn;rename Env => eg) | ((first | ((with_reducible first | apply oV_intro | apply oH_intro | apply oB_intro);(simp (disch:=first | exact dA | fail) only [qcs,tb88,hgo,Sh.1.one,hEg,irN,nrA,nrM,nrE,reduceIte,reduceCtorEq,nrL];with_reducible exact rfl)) | ((with_reducible first | apply oblA_and | apply oblR_and | apply oblO_and);(focus exact obA)) | (with_reducible first | refine W_regionE lv88 [13] fun K hK => ?_ | refine W_drawnE lv88 [13] fun K hK => ?_));try simp only [↓pb,↓pd,qds,tb88,hgo,Sh.1.one,hEg,irN,nrA,nrM,nrE,reduceIte,reduceCtorEq,nrL]) | ((first | ((with_reducible first | apply WO_gT | apply WO_gF | apply WD_gT | apply WD_gF);exact rfl) | (with_reducible apply W_cond));(simp only [↓pb,qbs,tb88,hgo,Sh.1.one,hEg,irN,nrA,nrM,nrE,reduceIte,reduceCtorEq,nrL];with_reducible exact rfl);all_goals (intro hc;(first | exact hcX hc | try simp only [hcs] at hc);try ((with_reducible first | apply woI | apply wdI);simp only [↓pb,↓pd,qds,tb88,hgo,Sh.1.one,hc,hEg,irN,nrA,nrM,nrE,reduceIte,reduceCtorEq,nrL]))) | (with_reducible first | refine W_seq ?_ | refine W_block ?_ | refine W_skip ?_ | refine W_ret ?_ | refine W_exit ?_ | apply blockK_exit) | ((with_reducible apply blockK_pass);(focus decide)) | fail)
    refine W_both (fun e h' => (e 10 = vptr (GO + 2) 0 ∧ e 11 = vptr (GO + 3) 0) ∧ (∃ vo vs gg,HeapR H h' va vb vc vh spot hour p now g55.n (GO + 1) (GO + 2) (GO + 3) hb.n (hb.n + 1) (hb.n + 2) LB (if a.Hour = hour ∧ 0 < s.before ∧ m.kind ≠ a.Kind then o1 ++ [[emptyW spot m]] else o1) s.before m'.tips vo vs gg)) ?_ ?_
    ·repeat' (first | ((with_reducible refine hK _ _ fun e2 hEn => ?_);clear hK K;simp only [lv88,forallC,forallL,and_true] at hEn;(try simp only [↓pb,qbs,tb88,hgo,Sh.1.one,hr4,hr5,hr9,hr10,hra,hrm,eAct,eMom,og4,hEg,irN,nrA,nrM,nrE,reduceIte,reduceCtorEq,nrL] at hEn);clear hEg;(try clear eg);have hEg:=hEn;clear hEn;rename Env => eg) | ((first | ((with_reducible first | apply oV_intro | apply oH_intro | apply oB_intro);(simp (disch:=first | exact dA | fail) only [qcs,tb88,hgo,Sh.1.one,hr4,hr5,hr9,hr10,hra,hrm,eAct,eMom,og4,hEg,irN,nrA,nrM,nrE,reduceIte,reduceCtorEq,nrL];with_reducible exact rfl)) | ((with_reducible first | apply oblA_and | apply oblR_and | apply oblO_and);(focus exact obA)) | ((with_reducible apply WO_callF);(focus exact topA);(simp only [↓pb,qbs,tb88,hgo,Sh.1.one,hr4,hr5,hr9,hr10,hra,hrm,eAct,eMom,og4,hEg,irN,nrA,nrM,nrE,reduceIte,reduceCtorEq,nrL];exact f104 (emptyW spot m) _ (by exact topA));(rintro vq Gq hq hJq ⟨or2,hor2⟩;try simp only [upd_n,jn_n] at hq)) | ((with_reducible apply WO_callV);(focus exact topA);(simp only [↓pb,qbs,tb88,hgo,Sh.1.one,hr4,hr5,hr9,hr10,hra,hrm,eAct,eMom,og4,hEg,irN,nrA,nrM,nrE,reduceIte,reduceCtorEq,nrL];(exact f105 _ _ _ (by exact topA)));(intro Gq hq hJq;try simp only [upd_n,jn_n] at hq)) | (with_reducible first | refine W_regionF lv88 fun K hK => ?_ | refine W_drawnF lv88 fun K hK => ?_));try simp only [↓pb,↓pd,qds,tb88,hgo,Sh.1.one,hr4,hr5,hr9,hr10,hra,hrm,eAct,eMom,og4,hEg,irN,nrA,nrM,nrE,reduceIte,reduceCtorEq,nrL]) | ((first | ((with_reducible first | apply WO_gT | apply WO_gF | apply WD_gT | apply WD_gF);exact rfl) | (with_reducible apply W_cond));(simp only [↓pb,qbs,tb88,hgo,Sh.1.one,hr4,hr5,hr9,hr10,hra,hrm,eAct,eMom,og4,hEg,irN,nrA,nrM,nrE,reduceIte,reduceCtorEq,nrL];with_reducible exact rfl);all_goals (intro hc;(first | exact hcX hc | try simp only [hcs] at hc);try ((with_reducible first | apply woI | apply wdI);simp only [↓pb,↓pd,qds,tb88,hgo,Sh.1.one,hr4,hr5,hr9,hr10,hra,hrm,eAct,eMom,og4,hc,hEg,irN,nrA,nrM,nrE,reduceIte,reduceCtorEq,nrL]))) | (with_reducible first | refine W_seq ?_ | refine W_block ?_ | refine W_skip ?_ | refine W_ret ?_ | refine W_exit ?_ | apply blockK_exit) | ((with_reducible apply blockK_pass);(focus decide)) | fail)
     ·rename_i gq5 qq5 jq5
      have hcond : a.Hour = hour ∧ 0 < s.before ∧ m.kind ≠ a.Kind:=⟨by assumption,by omega,hc⟩
      refine pu114 (n:=o1.length) (m:=1) (c:=vs4) (g:=gg4) (GS.ex (G4.fr (N:=h4.n) (X:=[]) (by exact frA) (fun x hx => by subst hx;exact G4.grp_lt) (by simp))) (SR.new rfl) (by omega) (by omega) (by omega) (by exact topA) fun GG => ?_
      simp only [↓pb,↓pd,qds,tb88,hgo,Sh.1.one,k4.o,hEg,irN,nrA,nrM,nrE,reduceIte,reduceCtorEq,nrL]
      repeat' (first | ((with_reducible refine hK _ _ fun e2 hEn => ?_);clear hK K;simp only [lv88,forallC,forallL,and_true] at hEn;(try simp only [↓pb,qbs,tb88,hgo,Sh.1.one,k4.o,hEg,irN,nrA,nrM,nrE,reduceIte,reduceCtorEq,nrL] at hEn);clear hEg;(try clear eg);have hEg:=hEn;clear hEn;rename Env => eg) | ((first | ((with_reducible first | apply oV_intro | apply oH_intro | apply oB_intro);(simp (disch:=first | exact dA | fail) only [qcs,tb88,hgo,Sh.1.one,k4.o,hEg,irN,nrA,nrM,nrE,reduceIte,reduceCtorEq,nrL];with_reducible exact rfl)) | ((with_reducible first | apply oblA_and | apply oblR_and | apply oblO_and);(focus exact obA)) | (with_reducible first | refine W_regionF lv88 fun K hK => ?_ | refine W_drawnF lv88 fun K hK => ?_));try simp only [↓pb,↓pd,qds,tb88,hgo,Sh.1.one,k4.o,hEg,irN,nrA,nrM,nrE,reduceIte,reduceCtorEq,nrL]) | ((first | ((with_reducible first | apply WO_gT | apply WO_gF | apply WD_gT | apply WD_gF);exact rfl) | (with_reducible apply W_cond));(simp only [↓pb,qbs,tb88,hgo,Sh.1.one,k4.o,hEg,irN,nrA,nrM,nrE,reduceIte,reduceCtorEq,nrL];with_reducible exact rfl);all_goals (intro hc;(first | exact hcX hc | try simp only [hcs] at hc);try ((with_reducible first | apply woI | apply wdI);simp only [↓pb,↓pd,qds,tb88,hgo,Sh.1.one,k4.o,hc,hEg,irN,nrA,nrM,nrE,reduceIte,reduceCtorEq,nrL]))) | (with_reducible first | refine W_seq ?_ | refine W_block ?_ | refine W_skip ?_ | refine W_ret ?_ | refine W_exit ?_ | apply blockK_exit) | ((with_reducible apply blockK_pass);(focus decide)) | fail)
      refine ⟨rfl,by simp only [hEg,and_self], ?_⟩
      rw [if_pos hcond]
      exact ⟨_,_,_,k4.add hrow (by omega) (hA:=((h4.jn gq5).jn Gq).upd (Gq.n + 1) Gq.n (.cells [vq] 119 .ex)) (by exact frA) (by exact topA) ((hor2 [GO + 1,GO + 2,GO + 3,hb.n + 2] (by intro x hx;simp only [List.mem_cons,List.not_mem_nil,or_false] at hx;show x < gq5.n;omega)).fr (N:=Gq.n) (X:=[]) (by exact frA) (by simp)) rfl GG⟩
     all_goals
      have hcn : ¬(a.Hour = hour ∧ 0 < s.before ∧ m.kind ≠ a.Kind):=by
       rintro ⟨q1,q2,q3⟩
       first | contradiction | omega | exact hc q3
      exact ⟨rfl,by simp only [hEg,and_self],vo4,vs4,gg4,by rw [if_neg hcn];exact k4⟩
    ·rintro e5 h5 ⟨⟨j10,j11⟩,vo5,vs5,gg5,k5⟩
     clear hr4 hr5 hr9 hr10 hra hrm T4 l4 G4 og4 hEg
     have hEg:=And.intro j10 j11
     have hst : hStep g p.1 spot hour now s i a = ⟨if a.Hour = hour ∧ 0 < s.before ∧ m.kind ≠ a.Kind then o1 ++ [[emptyW spot m]] else o1,m'.tips,m'.tips⟩:=by
      unfold hStep
      rw [if_neg hsk]
      simp only [hak,Int.toNat_natCast,← hm,← hm',← hW,← ho1]
     rw [hst] at e1
     have hr11 : h5.rd (GO + 3) = some [iv m'.tips]:=by rw [rd_def,k5.tp];rfl
     have l5:=k5.lt
     repeat' (first | ((with_reducible refine hK _ _ fun e2 hEn => ?_);clear hK K;simp only [lv88,forallC,forallL,and_true] at hEn;(try simp only [↓pb,qbs,tb88,hgo,Sh.1.one,hr11,k5.b,hEg,irN,nrA,nrM,nrE,reduceIte,reduceCtorEq,nrL] at hEn);clear hEg;(try clear eg);have hEg:=hEn;clear hEn;rename Env => eg) | ((first | ((with_reducible first | apply oV_intro | apply oH_intro | apply oB_intro);(simp (disch:=first | exact dA | fail) only [qcs,tb88,hgo,Sh.1.one,hr11,k5.b,hEg,irN,nrA,nrM,nrE,reduceIte,reduceCtorEq,nrL];with_reducible exact rfl)) | ((with_reducible first | apply oblA_and | apply oblR_and | apply oblO_and);(focus exact obA)) | (with_reducible first | refine W_regionF lv88 fun K hK => ?_ | refine W_drawnF lv88 fun K hK => ?_));try simp only [↓pb,↓pd,qds,tb88,hgo,Sh.1.one,hr11,k5.b,hEg,irN,nrA,nrM,nrE,reduceIte,reduceCtorEq,nrL]) | ((first | ((with_reducible first | apply WO_gT | apply WO_gF | apply WD_gT | apply WD_gF);exact rfl) | (with_reducible apply W_cond));(simp only [↓pb,qbs,tb88,hgo,Sh.1.one,hr11,k5.b,hEg,irN,nrA,nrM,nrE,reduceIte,reduceCtorEq,nrL];with_reducible exact rfl);all_goals (intro hc;(first | exact hcX hc | try simp only [hcs] at hc);try ((with_reducible first | apply woI | apply wdI);simp only [↓pb,↓pd,qds,tb88,hgo,Sh.1.one,hr11,k5.b,hc,hEg,irN,nrA,nrM,nrE,reduceIte,reduceCtorEq,nrL]))) | (with_reducible first | refine W_seq ?_ | refine W_block ?_ | refine W_skip ?_ | refine W_ret ?_ | refine W_exit ?_ | apply blockK_exit) | ((with_reducible apply blockK_pass);(focus decide)) | fail)
     have k6:=k5.setB hrow (by omega) m'.tips
     refine ⟨rfl,k6.lo,_,vo5,vs5,gg5,k6.setL hrow (by omega) hLg,e1,hbm.1,hbm.1, ?_⟩
     show (if a.Hour = hour ∧ 0 < s.before ∧ m.kind ≠ a.Kind then o1 ++ [[emptyW spot m]] else o1).length ≤ 1 + 2 * (i + 1)
     split
     ·rw [List.length_append,List.length_singleton]
      omega
     ·omega
end Go.Proofs.Swa
