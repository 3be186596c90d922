/- Part 10 of a proof. -/
import Derived.Test.YtkjcijlaehflhaaP09
set_option maxRecDepth 20000
set_option linter.unusedVariables false
set_option linter.unusedSimpArgs false
namespace Go.Proofs.Swa
open Go
open Nat renaming reduceAdd → nrA, reduceMul → nrM, reduceEqDiff → nrE, reduceLT → nrL
open Int renaming reduceToNat → irN
attribute [local congr] WO_congr oV_congr oB_congr oH_congr WD_congr oblO_congr oblA_congr oblR_congr
set_option maxHeartbeats 4000000 in
theorem f21 (va vb vc:Value) (g:Gnd) (hour:Int) (H:AHeap) (hT:Top H) (hG:RG H va vb vc g) (hs:g.Spots.length≤20) (hs2:g.Sorts.length≤20) :
  ∃ v H',C5 (.fn 21) #[.agg ⟨[va,vb,vc]⟩,iv hour] H v H'∧(∃ vr,v=.tuple #[vr,iv (masses g hour).2]∧SR H' 2 (masses g hour).1.length vr ((masses g hour).1.flatMap eRng))∧Fr H.n [] H H':=by
 have hgo:=hG.one
 have hnil:∀ h,SR h 2 ([]:List Rng).length (.slice none 0 0) (([]:List Rng).flatMap eRng):=fun h=>(GS.nul (s:=2)).sr
 by_cases hck:check g=0
 ·have hok:=check_ok hck
  have hal:=hok.acts
  refine Cl.ofW Try.func21 rfl (by kernel_rfl) (by rw [Try.ntmps21];exact Nat.le_of_ble_eq_true rfl) (by kernel_rfl) ?_
  have hEg:True:=trivial
  refine gcW [0,1] ?_
  intro eg hEn
  simp only [forallC,forallL,and_true] at hEn
  try simp only [↓pb,qbs,tb21,hgo,hEg,irN,nrA,nrM,nrE,reduceIte,reduceCtorEq,nrL] at hEn
  replace hEg:=hEn;clear hEn
  repeat' (first|((with_reducible refine hK _ _ fun e2 hEn=>?_);clear hK K;simp only [lv21,forallC,forallL,and_true] at hEn;(try simp only [↓pb,qbs,tb21,hgo,hEg,irN,nrA,nrM,nrE,reduceIte,reduceCtorEq,nrL] at hEn);clear hEg;(try clear eg);have hEg:=hEn;clear hEn;rename Env=>eg)|((first|((with_reducible first|apply oV_intro|apply oH_intro|apply oB_intro);(simp (disch:=first|exact dA|fail) only [qcs,tb21,hgo,hck,hEg,irN,nrA,nrM,nrE,reduceIte,reduceCtorEq,nrL];with_reducible exact rfl))|((with_reducible first|apply oblA_and|apply oblR_and|apply oblO_and);(focus exact obA))|((with_reducible apply WO_callF);(focus exact topA);(simp only [↓pb,qbs,tb21,hgo,hck,hEg,irN,nrA,nrM,nrE,reduceIte,reduceCtorEq,nrL];exact f54 _ _ _ _ _ (by exact topA) (hG.fr (N:=H.n) (by exact frA)) hok.acts (by omega));(rintro vq Gq hq hJq ⟨vh,l,rfl,Sh,el⟩;try simp only [upd_n,jn_n] at hq))|((with_reducible apply WO_callE);(simp only [↓pb,qbs,tb21,hgo,hck,hEg,irN,nrA,nrM,nrE,reduceIte,reduceCtorEq,nrL];(exact f53 _ _ _ _)))|((with_reducible apply WO_callV);(focus exact topA);(simp only [↓pb,qbs,tb21,hgo,hck,hEg,irN,nrA,nrM,nrE,reduceIte,reduceCtorEq,nrL];(exact f25 _ _ _ _ _ (by exact topA) (hG.fr (N:=H.n) (by exact frA)) (by omega) (by omega)));(intro Gq hq hJq;try simp only [upd_n,jn_n] at hq))|(with_reducible first|refine W_regionF lv21 fun K hK=>?_|refine W_drawnF lv21 fun K hK=>?_));try simp only [↓pb,↓pd,qds,tb21,hgo,hck,hEg,irN,nrA,nrM,nrE,reduceIte,reduceCtorEq,nrL])|((with_reducible apply W_cond);(simp only [↓pb,qbs,tb21,hgo,hck,hEg,irN,nrA,nrM,nrE,reduceIte,reduceCtorEq,nrL];with_reducible exact rfl);all_goals (intro hc;(first|exact hcX hc|try simp only [hcs] at hc)))|(with_reducible first|refine W_seq ?_|refine W_block ?_|refine W_skip ?_|refine W_ret ?_|refine W_exit ?_|apply blockK_exit)|((with_reducible apply blockK_pass);(focus decide))|fail)
  ·refine ⟨by first|exact .inl rfl|exact .inr rfl, ?_⟩
   rw [ret2 Try.results21]
   simp only [↓pb,qbs,tb21,hgo,rv_tmp,rv_cell,hEg,irN,nrA,nrM,nrE,reduceIte,reduceCtorEq,nrL]
   repeat ((with_reducible apply oV_intro);(simp (disch:=first|exact dA|fail) only [qcs,tb21,hgo,hEg,irN,nrA,nrM,nrE,reduceIte,reduceCtorEq,nrL];exact rfl))
   refine ⟨⟨_,by rw [masses,if_neg (by simp [hck]),if_neg (by simpa [inB] using hc)], ?_⟩,(by exact frA)⟩
   rw [masses,if_neg (by simp [hck]),if_neg (by simpa [inB] using hc)]
   exact hnil _
  ·refine ⟨by first|exact .inl rfl|exact .inr rfl, ?_⟩
   rw [ret2 Try.results21]
   simp only [↓pb,qbs,tb21,hgo,rv_tmp,rv_cell,hEg,irN,nrA,nrM,nrE,reduceIte,reduceCtorEq,nrL]
   repeat ((with_reducible apply oV_intro);(simp (disch:=first|exact dA|fail) only [qcs,tb21,hgo,hEg,irN,nrA,nrM,nrE,reduceIte,reduceCtorEq,nrL];exact rfl))
   refine ⟨⟨_,by rw [masses,if_neg (by simp [hck]),if_pos (by simpa [inB] using ‹0≤hour∧hour≤72›),if_pos hc], ?_⟩,(by exact frA)⟩
   rw [masses,if_neg (by simp [hck]),if_pos (by simpa [inB] using ‹0≤hour∧hour≤72›),if_pos hc]
   exact hnil _
  have hm:masses g hour=((known g).1.map (massAt g hour),0):=by
   rw [masses,if_neg (by simp [hck]),if_pos (by simpa [inB] using ‹0≤hour∧hour≤72›),if_neg hc]
  repeat' (first|((with_reducible refine hK _ _ fun e2 hEn=>?_);clear hK K;simp only [lv21,forallC,forallL,and_true] at hEn;(try simp only [↓pb,qbs,tb21,hgo,hEg,irN,nrA,nrM,nrE,reduceIte,reduceCtorEq,nrL] at hEn);clear hEg;(try clear eg);have hEg:=hEn;clear hEn;rename Env=>eg)|((first|((with_reducible first|apply oV_intro|apply oH_intro|apply oB_intro);(simp (disch:=first|exact dA|fail) only [qcs,tb21,hgo,lns89 Sh.1,Sh.1.one,hEg,irN,nrA,nrM,nrE,reduceIte,reduceCtorEq,nrL];with_reducible exact rfl))|((with_reducible first|apply oblA_and|apply oblR_and|apply oblO_and);(focus exact obA))|((with_reducible apply WO_callF);(focus exact topA);(simp only [↓pb,qbs,tb21,hgo,lns89 Sh.1,Sh.1.one,hEg,irN,nrA,nrM,nrE,reduceIte,reduceCtorEq,nrL];exact f54 _ _ _ _ _ (by exact topA) (hG.fr (N:=H.n) (by exact frA)) hok.acts (by omega));(rintro vq Gq hq hJq ⟨vh,l,rfl,Sh,el⟩;try simp only [upd_n,jn_n] at hq))|((with_reducible apply WO_callE);(simp only [↓pb,qbs,tb21,hgo,lns89 Sh.1,Sh.1.one,hEg,irN,nrA,nrM,nrE,reduceIte,reduceCtorEq,nrL];(exact f53 _ _ _ _)))|((with_reducible apply WO_callV);(focus exact topA);(simp only [↓pb,qbs,tb21,hgo,lns89 Sh.1,Sh.1.one,hEg,irN,nrA,nrM,nrE,reduceIte,reduceCtorEq,nrL];(exact f25 _ _ _ _ _ (by exact topA) (hG.fr (N:=H.n) (by exact frA)) (by omega) (by omega)));(intro Gq hq hJq;try simp only [upd_n,jn_n] at hq))|(with_reducible first|refine W_regionF lv21 fun K hK=>?_|refine W_drawnF lv21 fun K hK=>?_));try simp only [↓pb,↓pd,qds,tb21,hgo,lns89 Sh.1,Sh.1.one,hEg,irN,nrA,nrM,nrE,reduceIte,reduceCtorEq,nrL])|((with_reducible apply W_cond);(simp only [↓pb,qbs,tb21,hgo,lns89 Sh.1,Sh.1.one,hEg,irN,nrA,nrM,nrE,reduceIte,reduceCtorEq,nrL];with_reducible exact rfl);all_goals (intro hc;(first|exact hcX hc|try simp only [hcs] at hc)))|(with_reducible first|refine W_seq ?_|refine W_block ?_|refine W_skip ?_|refine W_ret ?_|refine W_exit ?_|apply blockK_exit)|((with_reducible apply blockK_pass);(focus decide))|fail)
  refine W_count [1,7,30,31] (by kernel_rfl) 32 (l.length) (H.n) [] [] (fun i e h=>∃ vr gg,e 9=vr∧GS h 2 i vr (((l.take i).map fun p=>massAt g hour p.1).flatMap eRng) gg∧∀ x,gg=some x→H.n≤x) (by simp only [↓pb,qbs,tb21,hgo,hEg,irN,nrA,nrM,nrE,reduceIte,reduceCtorEq,nrL]) (by focus exact topA) (H0:=H) (by focus exact frA) (by intro b hb hlt;simp at hb ⊢;try omega) ?_ ?_
  rotate_left
  intro i1 e1 h1 hi1 hE1 ei1 hF1 hF01 hTh1 hJ1
  simp only [forallC,forallL,and_true] at hE1
  try simp only [↓pb,qbs,tb21,hgo,hEg,irN,nrA,nrM,nrE,reduceIte,reduceCtorEq,nrL] at hE1
  have hn11:=hF1.n;have hn01:=hF01.n;try simp only [upd_n,jn_n] at hn11
  replace hEg:=And.intro ei1 hE1
  rotate_left
  ·exact ⟨_,none,by simp only [↓pb,qbs,tb21,hgo,hEg,irN,nrA,nrM,nrE,reduceIte,reduceCtorEq,nrL],.nil rfl rfl rfl,by simp⟩
  obtain ⟨vr,gg,e9,G,g2⟩:=hJ1
  have S1:=Sh.fr (N:=H.n) (B:=h1) (Fr.trans (by exact frA) hF1)
  have hll:l.length≤20:=by have:=known_len (g:=g);rw [← el,List.length_map] at this;omega
  by_cases hi2:i1 < l.length
  ·have hx:(l.getD i1 default).1∈(known g).1:=by
    rw [← el]
    refine List.mem_map.2 ⟨_, ?_,rfl⟩
    simp [List.getD,List.getElem?_eq_getElem hi2]
   have hf:=known_few hok.acts _ hx
   have S2:=S1.2 i1 hi2
   have hbf:=hf.before (untilL hour g.Acts)
   have hl:=S1.1.lt
   have hfp:=hf.pos
   have hfl:=hf.len
   repeat' (first|((with_reducible refine hK _ _ fun e2 hEn=>?_);clear hK K;simp only [lv21,forallC,forallL,and_true] at hEn;(try simp only [↓pb,qbs,tb21,hgo,hEg,irN,nrA,nrM,nrE,reduceIte,reduceCtorEq,nrL] at hEn);clear hEg;(try clear eg);have hEg:=hEn;clear hEn;rename Env=>eg)|((first|((with_reducible first|apply oV_intro|apply oH_intro|apply oB_intro);(simp (disch:=first|exact dA|fail) only [qcs,tb21,hgo,e9,hF1.rd0,ias89 S1.1,S1.1.rd,(S1.1.el eHp_len rfl),eHp,hgo,S1.1.one,S2.one,hEg,irN,nrA,nrM,nrE,reduceIte,reduceCtorEq,nrL];with_reducible exact rfl))|((with_reducible first|apply oblA_and|apply oblR_and|apply oblO_and);(focus exact obA))|((with_reducible apply WO_callF);(focus exact topA);(simp only [↓pb,qbs,tb21,hgo,e9,hF1.rd0,ias89 S1.1,S1.1.rd,(S1.1.el eHp_len rfl),eHp,hgo,S1.1.one,S2.one,hEg,irN,nrA,nrM,nrE,reduceIte,reduceCtorEq,nrL];exact f54 _ _ _ _ _ (by exact topA) (hG.fr (N:=H.n) (by exact frA)) hok.acts (by omega));(rintro vq Gq hq hJq ⟨vh,l,rfl,Sh,el⟩;try simp only [upd_n,jn_n] at hq))|((with_reducible apply WO_callE);(simp only [↓pb,qbs,tb21,hgo,e9,hF1.rd0,ias89 S1.1,S1.1.rd,(S1.1.el eHp_len rfl),eHp,hgo,S1.1.one,S2.one,hEg,irN,nrA,nrM,nrE,reduceIte,reduceCtorEq,nrL];(exact f53 _ _ _ _)))|((with_reducible apply WO_callV);(focus exact topA);(simp only [↓pb,qbs,tb21,hgo,e9,hF1.rd0,ias89 S1.1,S1.1.rd,(S1.1.el eHp_len rfl),eHp,hgo,S1.1.one,S2.one,hEg,irN,nrA,nrM,nrE,reduceIte,reduceCtorEq,nrL];(first|exact f56 _ _ _ _ _ _ _ (by exact topA) (hG.fr (N:=H.n) (by exact frA)) S1.1.one (by omega)|exact f55 _ _ _ _ _ (by exact topA) (S2.fr0 (N:=0) (by exact frA)) hfp (by omega)|exact f57 _ _ _ _ (by exact topA) hbf.1 hbf.2 S2.one|exact f58 _ _ _ _ (by exact topA) hbf.1 hbf.2 S2.one|exact f25 _ _ _ _ _ (by exact topA) (hG.fr (N:=H.n) (by exact frA)) (by omega) (by omega)));(intro Gq hq hJq;try simp only [upd_n,jn_n] at hq))|(with_reducible first|refine W_regionF lv21 fun K hK=>?_|refine W_drawnF lv21 fun K hK=>?_));try simp only [↓pb,↓pd,qds,tb21,hgo,e9,hF1.rd0,ias89 S1.1,S1.1.rd,(S1.1.el eHp_len rfl),eHp,hgo,S1.1.one,S2.one,hEg,irN,nrA,nrM,nrE,reduceIte,reduceCtorEq,nrL])|((with_reducible apply W_cond);(simp only [↓pb,qbs,tb21,hgo,e9,hF1.rd0,ias89 S1.1,S1.1.rd,(S1.1.el eHp_len rfl),eHp,hgo,S1.1.one,S2.one,hEg,irN,nrA,nrM,nrE,reduceIte,reduceCtorEq,nrL];with_reducible exact rfl);all_goals (intro hc;(first|exact hcX hc|try simp only [hcs] at hc)))|(with_reducible first|refine W_seq ?_|refine W_block ?_|refine W_skip ?_|refine W_ret ?_|refine W_exit ?_|apply blockK_exit)|((with_reducible apply blockK_pass);(focus decide))|fail)
   refine pu42 (n:=i1) (m:=1) (c:=((l.take i1).map fun p=>massAt g hour p.1).flatMap eRng) (g:=gg) ?a1 (SR.new rfl) (by omega) (by omega) (by omega) ?a3 fun GG=>?a4
   case a1 =>
    refine GS.ex ?_
    refine G.fr (N:=h1.n) (X:=[]) ?_ (fun x hx=>by subst hx;exact G.grp_lt) (by simp)
    exact frA
   case a3 =>
    exact topA
   have hgd1:=gd_ge g2 (n:=Gq.n + 1) (by omega)
   have hgd2:=GG.grp_lt
   simp only [upd_n,jn_n] at hgd2
   simp only [upd_n,jn_n,nb] at GG
   simp only [↓pb,↓pd,qds,tb21,hgo,e9,hEg,irN,nrA,nrM,nrE,reduceIte,reduceCtorEq,nrL]
   repeat' (first|((with_reducible refine hK _ _ fun e2 hEn=>?_);clear hK K;simp only [lv21,forallC,forallL,and_true] at hEn;(try simp only [↓pb,qbs,tb21,hgo,hEg,irN,nrA,nrM,nrE,reduceIte,reduceCtorEq,nrL] at hEn);clear hEg;(try clear eg);have hEg:=hEn;clear hEn;rename Env=>eg)|((first|((with_reducible first|apply oV_intro|apply oH_intro|apply oB_intro);(simp (disch:=first|exact dA|fail) only [qcs,tb21,hgo,e9,hEg,irN,nrA,nrM,nrE,reduceIte,reduceCtorEq,nrL];with_reducible exact rfl))|((with_reducible first|apply oblA_and|apply oblR_and|apply oblO_and);(focus exact obA))|((with_reducible apply WO_callF);(focus exact topA);(simp only [↓pb,qbs,tb21,hgo,e9,hEg,irN,nrA,nrM,nrE,reduceIte,reduceCtorEq,nrL];exact f54 _ _ _ _ _ (by exact topA) (hG.fr (N:=H.n) (by exact frA)) hok.acts (by omega));(rintro vq Gq hq hJq ⟨vh,l,rfl,Sh,el⟩;try simp only [upd_n,jn_n] at hq))|((with_reducible apply WO_callE);(simp only [↓pb,qbs,tb21,hgo,e9,hEg,irN,nrA,nrM,nrE,reduceIte,reduceCtorEq,nrL];(exact f53 _ _ _ _)))|((with_reducible apply WO_callV);(focus exact topA);(simp only [↓pb,qbs,tb21,hgo,e9,hEg,irN,nrA,nrM,nrE,reduceIte,reduceCtorEq,nrL];(exact f25 _ _ _ _ _ (by exact topA) (hG.fr (N:=H.n) (by exact frA)) (by omega) (by omega)));(intro Gq hq hJq;try simp only [upd_n,jn_n] at hq))|(with_reducible first|refine W_regionF lv21 fun K hK=>?_|refine W_drawnF lv21 fun K hK=>?_));try simp only [↓pb,↓pd,qds,tb21,hgo,e9,hEg,irN,nrA,nrM,nrE,reduceIte,reduceCtorEq,nrL])|((with_reducible apply W_cond);(simp only [↓pb,qbs,tb21,hgo,e9,hEg,irN,nrA,nrM,nrE,reduceIte,reduceCtorEq,nrL];with_reducible exact rfl);all_goals (intro hc;(first|exact hcX hc|try simp only [hcs] at hc)))|(with_reducible first|refine W_seq ?_|refine W_block ?_|refine W_skip ?_|refine W_ret ?_|refine W_exit ?_|apply blockK_exit)|((with_reducible apply blockK_pass);(focus decide))|fail)
   refine ⟨by omega,by simp only [↓pb,qbs,tb21,hgo,hEg,irN,nrA,nrM,nrE,reduceIte,reduceCtorEq,nrL];exact congrArg _ (inc64 (by omega)),by focus exact frA, ?_⟩
   refine ⟨.slice (some ⟨Gq.n + 1,0,none⟩) (i1 + 1) (i1 + 1),some (gg.getD (Gq.n + 1)),by simp only [↓pb,qbs,tb21,hgo,hEg,irN,nrA,nrM,nrE,reduceIte,reduceCtorEq,nrL], ?_,gd_all hgd1⟩
   rw [take_getD hi2,List.map_append,List.flatMap_append]
   exact GG
  ·have e3:i1=l.length:=by omega
   repeat' (first|((with_reducible refine hK _ _ fun e2 hEn=>?_);clear hK K;simp only [lv21,forallC,forallL,and_true] at hEn;(try simp only [↓pb,qbs,tb21,hgo,hEg,irN,nrA,nrM,nrE,reduceIte,reduceCtorEq,nrL] at hEn);clear hEg;(try clear eg);have hEg:=hEn;clear hEn;rename Env=>eg)|((first|((with_reducible first|apply oV_intro|apply oH_intro|apply oB_intro);(simp (disch:=first|exact dA|fail) only [qcs,tb21,hgo,e9,hEg,irN,nrA,nrM,nrE,reduceIte,reduceCtorEq,nrL];with_reducible exact rfl))|((with_reducible first|apply oblA_and|apply oblR_and|apply oblO_and);(focus exact obA))|((with_reducible apply WO_callF);(focus exact topA);(simp only [↓pb,qbs,tb21,hgo,e9,hEg,irN,nrA,nrM,nrE,reduceIte,reduceCtorEq,nrL];exact f54 _ _ _ _ _ (by exact topA) (hG.fr (N:=H.n) (by exact frA)) hok.acts (by omega));(rintro vq Gq hq hJq ⟨vh,l,rfl,Sh,el⟩;try simp only [upd_n,jn_n] at hq))|((with_reducible apply WO_callE);(simp only [↓pb,qbs,tb21,hgo,e9,hEg,irN,nrA,nrM,nrE,reduceIte,reduceCtorEq,nrL];(exact f53 _ _ _ _)))|((with_reducible apply WO_callV);(focus exact topA);(simp only [↓pb,qbs,tb21,hgo,e9,hEg,irN,nrA,nrM,nrE,reduceIte,reduceCtorEq,nrL];(exact f25 _ _ _ _ _ (by exact topA) (hG.fr (N:=H.n) (by exact frA)) (by omega) (by omega)));(intro Gq hq hJq;try simp only [upd_n,jn_n] at hq))|(with_reducible first|refine W_regionF lv21 fun K hK=>?_|refine W_drawnF lv21 fun K hK=>?_));try simp only [↓pb,↓pd,qds,tb21,hgo,e9,hEg,irN,nrA,nrM,nrE,reduceIte,reduceCtorEq,nrL])|((with_reducible apply W_cond);(simp only [↓pb,qbs,tb21,hgo,e9,hEg,irN,nrA,nrM,nrE,reduceIte,reduceCtorEq,nrL];with_reducible exact rfl);all_goals (intro hc;(first|exact hcX hc|try simp only [hcs] at hc)))|(with_reducible first|refine W_seq ?_|refine W_block ?_|refine W_skip ?_|refine W_ret ?_|refine W_exit ?_|apply blockK_exit)|((with_reducible apply blockK_pass);(focus decide))|fail)
   refine ⟨by first|exact .inl rfl|exact .inr rfl, ?_⟩
   rw [ret2 Try.results21]
   simp only [↓pb,qbs,tb21,hgo,rv_tmp,rv_cell,hEg,irN,nrA,nrM,nrE,reduceIte,reduceCtorEq,nrL]
   repeat ((with_reducible apply oV_intro);(simp (disch:=first|exact dA|fail) only [qcs,tb21,hgo,hEg,irN,nrA,nrM,nrE,reduceIte,reduceCtorEq,nrL];exact rfl))
   rw [hm]
   refine ⟨⟨vr,rfl, ?_⟩,(by exact frA)⟩
   show SR _ 2 ((known g).1.map (massAt g hour)).length vr (((known g).1.map (massAt g hour)).flatMap eRng)
   rw [← el,List.map_map,List.length_map]
   have G3:=G.sr
   rw [e3,List.take_length] at G3
   exact G3
 ·have hck':=hck
  refine Cl.ofW Try.func21 rfl (by kernel_rfl) (by rw [Try.ntmps21];exact Nat.le_of_ble_eq_true rfl) (by kernel_rfl) ?_
  have hEg:True:=trivial
  refine gcW [0,1] ?_
  intro eg hEn
  simp only [forallC,forallL,and_true] at hEn
  try simp only [↓pb,qbs,tb21,hgo,hEg,irN,nrA,nrM,nrE,reduceIte,reduceCtorEq,nrL] at hEn
  replace hEg:=hEn;clear hEn
  repeat' (first|((with_reducible refine hK _ _ fun e2 hEn=>?_);clear hK K;simp only [lv21,forallC,forallL,and_true] at hEn;(try simp only [↓pb,qbs,tb21,hgo,hEg,irN,nrA,nrM,nrE,reduceIte,reduceCtorEq,nrL] at hEn);clear hEg;(try clear eg);have hEg:=hEn;clear hEn;rename Env=>eg)|((first|((with_reducible first|apply oV_intro|apply oH_intro|apply oB_intro);(simp (disch:=first|exact dA|fail) only [qcs,tb21,hgo,hEg,irN,nrA,nrM,nrE,reduceIte,reduceCtorEq,nrL];with_reducible exact rfl))|((with_reducible first|apply oblA_and|apply oblR_and|apply oblO_and);(focus exact obA))|((with_reducible apply WO_callV);(focus exact topA);(simp only [↓pb,qbs,tb21,hgo,hEg,irN,nrA,nrM,nrE,reduceIte,reduceCtorEq,nrL];(exact f25 _ _ _ _ _ (by exact topA) (hG.fr (N:=H.n) (by exact frA)) (by omega) (by omega)));(intro Gq hq hJq;try simp only [upd_n,jn_n] at hq))|(with_reducible first|refine W_regionF lv21 fun K hK=>?_|refine W_drawnF lv21 fun K hK=>?_));try simp only [↓pb,↓pd,qds,tb21,hgo,hEg,irN,nrA,nrM,nrE,reduceIte,reduceCtorEq,nrL])|((with_reducible apply W_cond);(simp only [↓pb,qbs,tb21,hgo,hEg,irN,nrA,nrM,nrE,reduceIte,reduceCtorEq,nrL];with_reducible exact rfl);all_goals (intro hc;(first|exact hcX hc|try simp only [hcs] at hc)))|(with_reducible first|refine W_seq ?_|refine W_block ?_|refine W_skip ?_|refine W_ret ?_|refine W_exit ?_|apply blockK_exit)|((with_reducible apply blockK_pass);(focus decide))|fail)
  refine ⟨by first|exact .inl rfl|exact .inr rfl, ?_⟩
  rw [ret2 Try.results21]
  simp only [↓pb,qbs,tb21,hgo,rv_tmp,rv_cell,hEg,irN,nrA,nrM,nrE,reduceIte,reduceCtorEq,nrL]
  repeat ((with_reducible apply oV_intro);(simp (disch:=first|exact dA|fail) only [qcs,tb21,hgo,hEg,irN,nrA,nrM,nrE,reduceIte,reduceCtorEq,nrL];exact rfl))
  refine ⟨⟨_,by rw [masses,if_pos hck], ?_⟩,(by exact frA)⟩
  rw [masses,if_pos hck]
  exact hnil _
theorem atS {s:Sums} {v:Value} {i:Nat} (h:i < 121):(ints s.1 ++ [v])[i]? = some (iv (s.1.getD i 0)):=by
 rw [List.getElem?_append_left (by rw [sums_len];exact h),ints_at (by rw [s.2];exact h)]
theorem knownGo_full {g:Gnd}:∀ (n i:Nat) (acc:List Hp),(knownGo g i n acc).2=0→(knownGo g i n acc).1.length=acc.length + n
 | 0,i,acc,_=>rfl
 | n + 1,i,acc,h=>by
  rw [knownGo] at h ⊢
  split at h
  ·rename_i hp
   rw [if_pos hp]
   rw [knownGo_full n (i + 1) _ h,List.length_append,List.length_singleton]
   omega
  ·exact absurd h (by simp)
theorem known_full {g:Gnd} (h:(known g).2=0):(known g).1.length=g.Spots.length:=by
 have:=knownGo_full g.Spots.length 0 [] h
 rw [List.length_nil,Nat.zero_add] at this
 exact this
set_option maxHeartbeats 4000000 in
theorem f23 (va vb vc:Value) (g:Gnd) (spot hour age:Int) (H:AHeap) (hT:Top H) (hG:RG H va vb vc g) (hs:g.Spots.length≤20) (hs2:g.Sorts.length≤20) :
  ∃ v H',C5 (.fn 23) #[.agg ⟨[va,vb,vc]⟩,iv spot,iv hour,iv age] H v H'∧v=.tuple #[iv (older g spot hour age).1,iv (older g spot hour age).2]∧Fr H.n [] H H':=by
 have hgo:=hG.one
 by_cases hck:check g=0
 ·have hok:=check_ok hck
  have hal:=hok.acts
  have hsl:=hok.spots
  have hwl:IntKind.i64.wrap ((g.Spots.length:Int) - 1)=((g.Spots.length - 1:Nat):Int):=by rw [wrap64 (by omega) (by omega)];omega
  refine Cl.ofW Try.func23 rfl (by kernel_rfl) (by rw [Try.ntmps23];exact Nat.le_of_ble_eq_true rfl) (by kernel_rfl) ?_
  have hEg:True:=trivial
  refine gcW [0,1,2,3] ?_
  intro eg hEn
  simp only [forallC,forallL,and_true] at hEn
  try simp only [↓pb,qbs,tb23,hgo,lns22 hG.p,hwl,hEg,irN,nrA,nrM,nrE,reduceIte,reduceCtorEq,nrL] at hEn
  replace hEg:=hEn;clear hEn
  repeat' (first|((with_reducible refine hK _ _ fun e2 hEn=>?_);clear hK K;simp only [lv23,forallC,forallL,and_true] at hEn;(try simp only [↓pb,qbs,tb23,hgo,lns22 hG.p,hwl,hEg,irN,nrA,nrM,nrE,reduceIte,reduceCtorEq,nrL] at hEn);clear hEg;(try clear eg);have hEg:=hEn;clear hEn;rename Env=>eg)|((first|((with_reducible first|apply oV_intro|apply oH_intro|apply oB_intro);(simp (disch:=first|exact dA|fail) only [qcs,tb23,hgo,lns22 hG.p,hwl,hck,hEg,irN,nrA,nrM,nrE,reduceIte,reduceCtorEq,nrL];with_reducible exact rfl))|((with_reducible first|apply oblA_and|apply oblR_and|apply oblO_and);(focus exact obA))|((with_reducible apply WO_callF);(focus exact topA);(simp only [↓pb,qbs,tb23,hgo,lns22 hG.p,hwl,hck,hEg,irN,nrA,nrM,nrE,reduceIte,reduceCtorEq,nrL];exact f54 _ _ _ _ _ (by exact topA) (hG.fr (N:=H.n) (by exact frA)) hok.acts (by omega));(rintro vq Gq hq hJq ⟨vh,l,rfl,Sh,el⟩;try simp only [upd_n,jn_n] at hq))|((with_reducible apply WO_callE);(simp only [↓pb,qbs,tb23,hgo,lns22 hG.p,hwl,hck,hEg,irN,nrA,nrM,nrE,reduceIte,reduceCtorEq,nrL];(exact f53 _ _ _ _)))|((with_reducible apply WO_callV);(focus exact topA);(simp only [↓pb,qbs,tb23,hgo,lns22 hG.p,hwl,hck,hEg,irN,nrA,nrM,nrE,reduceIte,reduceCtorEq,nrL];(exact f25 _ _ _ _ _ (by exact topA) (hG.fr (N:=H.n) (by exact frA)) (by omega) (by omega)));(intro Gq hq hJq;try simp only [upd_n,jn_n] at hq))|(with_reducible first|refine W_regionF lv23 fun K hK=>?_|refine W_drawnF lv23 fun K hK=>?_));try simp only [↓pb,↓pd,qds,tb23,hgo,lns22 hG.p,hwl,hck,hEg,irN,nrA,nrM,nrE,reduceIte,reduceCtorEq,nrL])|((with_reducible apply W_cond);(simp only [↓pb,qbs,tb23,hgo,lns22 hG.p,hwl,hck,hEg,irN,nrA,nrM,nrE,reduceIte,reduceCtorEq,nrL];with_reducible exact rfl);all_goals (intro hc;(first|exact hcX hc|try simp only [hcs] at hc)))|(with_reducible first|refine W_seq ?_|refine W_block ?_|refine W_skip ?_|refine W_ret ?_|apply blockK_exit)|((with_reducible apply blockK_pass);(focus decide))|fail)
  ·refine ⟨by first|exact .inl rfl|exact .inr rfl, ?_⟩
   rw [ret2 Try.results23]
   simp only [↓pb,qbs,tb23,hgo,lns22 hG.p,hwl,rv_tmp,rv_cell,hEg,irN,nrA,nrM,nrE,reduceIte,reduceCtorEq,nrL]
   repeat ((with_reducible apply oV_intro);(simp (disch:=first|exact dA|fail) only [qcs,tb23,hgo,lns22 hG.p,hwl,hEg,irN,nrA,nrM,nrE,reduceIte,reduceCtorEq,nrL];exact rfl))
   refine ⟨by first|rfl|(simp [older,inB,w64, *];done), ?_⟩
   try exact frA
  ·refine ⟨by first|exact .inl rfl|exact .inr rfl, ?_⟩
   rw [ret2 Try.results23]
   simp only [↓pb,qbs,tb23,hgo,lns22 hG.p,hwl,rv_tmp,rv_cell,hEg,irN,nrA,nrM,nrE,reduceIte,reduceCtorEq,nrL]
   repeat ((with_reducible apply oV_intro);(simp (disch:=first|exact dA|fail) only [qcs,tb23,hgo,lns22 hG.p,hwl,hEg,irN,nrA,nrM,nrE,reduceIte,reduceCtorEq,nrL];exact rfl))
   refine ⟨by first|rfl|(simp [older,inB,w64, *];done), ?_⟩
   try exact frA
  ·refine ⟨by first|exact .inl rfl|exact .inr rfl, ?_⟩
   rw [ret2 Try.results23]
   simp only [↓pb,qbs,tb23,hgo,lns22 hG.p,hwl,rv_tmp,rv_cell,hEg,irN,nrA,nrM,nrE,reduceIte,reduceCtorEq,nrL]
   repeat ((with_reducible apply oV_intro);(simp (disch:=first|exact dA|fail) only [qcs,tb23,hgo,lns22 hG.p,hwl,hEg,irN,nrA,nrM,nrE,reduceIte,reduceCtorEq,nrL];exact rfl))
   refine ⟨by first|rfl|(simp [older,inB,w64, *];done), ?_⟩
   try exact frA
  ·refine ⟨by first|exact .inl rfl|exact .inr rfl, ?_⟩
   rw [ret2 Try.results23]
   simp only [↓pb,qbs,tb23,hgo,lns22 hG.p,hwl,rv_tmp,rv_cell,hEg,irN,nrA,nrM,nrE,reduceIte,reduceCtorEq,nrL]
   repeat ((with_reducible apply oV_intro);(simp (disch:=first|exact dA|fail) only [qcs,tb23,hgo,lns22 hG.p,hwl,hEg,irN,nrA,nrM,nrE,reduceIte,reduceCtorEq,nrL];exact rfl))
   refine ⟨by first|rfl|(simp [older,inB,w64, *];done), ?_⟩
   try exact frA
  have hk0:(known g).2=0:=by simpa using hc
  have hlk:=known_full hk0
  have hll:l.length=g.Spots.length:=by rw [← hlk,← el,List.length_map]
  have hsp:(0:Int)≤spot∧spot≤((g.Spots.length - 1:Nat):Int):=by assumption
  have hi2:spot.toNat < l.length:=by omega
  have hx:(l.getD spot.toNat default).1∈(known g).1:=by
   rw [← el]
   refine List.mem_map.2 ⟨_, ?_,rfl⟩
   simp [List.getD,List.getElem?_eq_getElem hi2]
  have hxe:(known g).1.getD spot.toNat default=(l.getD spot.toNat default).1:=by
   rw [← el]
   simp [List.getD,List.getElem?_eq_getElem hi2]
  have hf:=known_few hal _ hx
  have S2:=Sh.2 spot.toNat hi2
  have hb1:=hf.before (untilL hour g.Acts)
  have hb2:=hf.before (untilL (IntKind.i64.wrap (IntKind.i64.wrap (hour - age) - 1)) g.Acts)
  have hl:=Sh.1.lt
  have hl2:=S2.lt
  simp only [upd_n,jn_n] at hl hl2
  have hfp:=hf.pos
  have hfl:=hf.len
  have ho:older g spot hour age=if (l.getD spot.toNat default).1.s.mat ((l.getD spot.toNat default).1.before (untilL (w64 (w64 (hour - age) - 1)) g.Acts)).tips ((l.getD spot.toNat default).1.before (untilL hour g.Acts)).takes < 0 then (1,0)
    else if (l.getD spot.toNat default).1.s.mat ((l.getD spot.toNat default).1.before (untilL hour g.Acts)).takes ((l.getD spot.toNat default).1.before (untilL (w64 (w64 (hour - age) - 1)) g.Acts)).tips≤0 then (2,0) else (3,0):=by
   have q1:inB spot 0 (w64 (g.Spots.length - 1))=true:=by unfold w64;rw [hwl];simpa [inB] using hsp
   have q2:inB hour 0 72=true:=by simpa [inB] using ‹0≤hour∧hour≤72›
   have q3:inB age 0 72=true:=by simpa [inB] using ‹0≤age∧age≤72›
   rw [older,if_neg (by simp [hck]),if_pos q1,if_pos ⟨q2,q3⟩,if_neg (by simp [hk0]),hxe]
  unfold Hp.before at hb1 hb2
  repeat' (first|((with_reducible refine hK _ _ fun e2 hEn=>?_);clear hK K;simp only [lv23,forallC,forallL,and_true] at hEn;(try simp only [↓pb,qbs,tb23,hgo,lns22 hG.p,hwl,hEg,irN,nrA,nrM,nrE,reduceIte,reduceCtorEq,nrL] at hEn);clear hEg;(try clear eg);have hEg:=hEn;clear hEn;rename Env=>eg)|((first|((with_reducible first|apply oV_intro|apply oH_intro|apply oB_intro);(simp (disch:=first|exact dA|fail) only [qcs,tb23,hgo,lns22 hG.p,hwl,lns89 Sh.1,Sh.1.one,ias89 Sh.1,Sh.1.rd,(Sh.1.el eHp_len rfl),eHp,hgo,S2.one,atS,eMom,Nat.mul_one,hEg,irN,nrA,nrM,nrE,reduceIte,reduceCtorEq,nrL];with_reducible exact rfl))|((with_reducible first|apply oblA_and|apply oblR_and|apply oblO_and);(focus exact obA))|((with_reducible apply WO_callF);(focus exact topA);(simp only [↓pb,qbs,tb23,hgo,lns22 hG.p,hwl,lns89 Sh.1,Sh.1.one,ias89 Sh.1,Sh.1.rd,(Sh.1.el eHp_len rfl),eHp,hgo,S2.one,atS,eMom,Nat.mul_one,hEg,irN,nrA,nrM,nrE,reduceIte,reduceCtorEq,nrL];exact f54 _ _ _ _ _ (by exact topA) (hG.fr (N:=H.n) (by exact frA)) hok.acts (by omega));(rintro vq Gq hq hJq ⟨vh,l,rfl,Sh,el⟩;try simp only [upd_n,jn_n] at hq))|((with_reducible apply WO_callE);(simp only [↓pb,qbs,tb23,hgo,lns22 hG.p,hwl,lns89 Sh.1,Sh.1.one,ias89 Sh.1,Sh.1.rd,(Sh.1.el eHp_len rfl),eHp,hgo,S2.one,atS,eMom,Nat.mul_one,hEg,irN,nrA,nrM,nrE,reduceIte,reduceCtorEq,nrL];(exact f53 _ _ _ _)))|((with_reducible apply WO_callV);(focus exact topA);(simp only [↓pb,qbs,tb23,hgo,lns22 hG.p,hwl,lns89 Sh.1,Sh.1.one,ias89 Sh.1,Sh.1.rd,(Sh.1.el eHp_len rfl),eHp,hgo,S2.one,atS,eMom,Nat.mul_one,hEg,irN,nrA,nrM,nrE,reduceIte,reduceCtorEq,nrL];(first|exact f56 _ _ _ _ _ _ _ (by exact topA) (hG.fr (N:=H.n) (by exact frA)) Sh.1.one (by omega)|exact f55 _ _ _ _ _ (by exact topA) (S2.fr0 (N:=0) (by exact frA)) hfp (by omega)|exact f25 _ _ _ _ _ (by exact topA) (hG.fr (N:=H.n) (by exact frA)) (by omega) (by omega)));(intro Gq hq hJq;try simp only [upd_n,jn_n] at hq))|(with_reducible first|refine W_regionF lv23 fun K hK=>?_|refine W_drawnF lv23 fun K hK=>?_));try simp only [↓pb,↓pd,qds,tb23,hgo,lns22 hG.p,hwl,lns89 Sh.1,Sh.1.one,ias89 Sh.1,Sh.1.rd,(Sh.1.el eHp_len rfl),eHp,hgo,S2.one,atS,eMom,Nat.mul_one,hEg,irN,nrA,nrM,nrE,reduceIte,reduceCtorEq,nrL])|((with_reducible apply W_cond);(simp only [↓pb,qbs,tb23,hgo,lns22 hG.p,hwl,lns89 Sh.1,Sh.1.one,ias89 Sh.1,Sh.1.rd,(Sh.1.el eHp_len rfl),eHp,hgo,S2.one,atS,eMom,Nat.mul_one,hEg,irN,nrA,nrM,nrE,reduceIte,reduceCtorEq,nrL];with_reducible exact rfl);all_goals (intro hc;(first|exact hcX hc|try simp only [hcs] at hc)))|(with_reducible first|refine W_seq ?_|refine W_block ?_|refine W_skip ?_|refine W_ret ?_|apply blockK_exit)|((with_reducible apply blockK_pass);(focus decide))|fail)
  ·refine ⟨by first|exact .inl rfl|exact .inr rfl, ?_⟩
   rw [ret2 Try.results23]
   simp only [↓pb,qbs,tb23,hgo,lns22 hG.p,hwl,rv_tmp,rv_cell,hEg,irN,nrA,nrM,nrE,reduceIte,reduceCtorEq,nrL]
   repeat ((with_reducible apply oV_intro);(simp (disch:=first|exact dA|fail) only [qcs,tb23,hgo,lns22 hG.p,hwl,hEg,irN,nrA,nrM,nrE,reduceIte,reduceCtorEq,nrL];exact rfl))
   have e1:older g spot hour age=(1,0):=ho.trans (if_pos hc)
   rw [e1]
   refine ⟨by first|rfl|(simp [*];done), ?_⟩
   try exact frA
  ·refine ⟨by first|exact .inl rfl|exact .inr rfl, ?_⟩
   rw [ret2 Try.results23]
   simp only [↓pb,qbs,tb23,hgo,lns22 hG.p,hwl,rv_tmp,rv_cell,hEg,irN,nrA,nrM,nrE,reduceIte,reduceCtorEq,nrL]
   repeat ((with_reducible apply oV_intro);(simp (disch:=first|exact dA|fail) only [qcs,tb23,hgo,lns22 hG.p,hwl,hEg,irN,nrA,nrM,nrE,reduceIte,reduceCtorEq,nrL];exact rfl))
   rename_i h7
   have e1:older g spot hour age=(2,0):=ho.trans ((if_neg h7).trans (if_pos hc))
   rw [e1]
   refine ⟨by first|rfl|(simp [*];done), ?_⟩
   try exact frA
  ·refine ⟨by first|exact .inl rfl|exact .inr rfl, ?_⟩
   rw [ret2 Try.results23]
   simp only [↓pb,qbs,tb23,hgo,lns22 hG.p,hwl,rv_tmp,rv_cell,hEg,irN,nrA,nrM,nrE,reduceIte,reduceCtorEq,nrL]
   repeat ((with_reducible apply oV_intro);(simp (disch:=first|exact dA|fail) only [qcs,tb23,hgo,lns22 hG.p,hwl,hEg,irN,nrA,nrM,nrE,reduceIte,reduceCtorEq,nrL];exact rfl))
   rename_i h7
   have e1:older g spot hour age=(3,0):=ho.trans ((if_neg h7).trans (if_neg hc))
   rw [e1]
   refine ⟨by first|rfl|(simp [*];done), ?_⟩
   try exact frA
 ·have hck':=hck
  refine Cl.ofW Try.func23 rfl (by kernel_rfl) (by rw [Try.ntmps23];exact Nat.le_of_ble_eq_true rfl) (by kernel_rfl) ?_
  have hEg:True:=trivial
  refine gcW [0,1,2,3] ?_
  intro eg hEn
  simp only [forallC,forallL,and_true] at hEn
  try simp only [↓pb,qbs,tb23,hgo,hEg,irN,nrA,nrM,nrE,reduceIte,reduceCtorEq,nrL] at hEn
  replace hEg:=hEn;clear hEn
  repeat' (first|((with_reducible refine hK _ _ fun e2 hEn=>?_);clear hK K;simp only [lv23,forallC,forallL,and_true] at hEn;(try simp only [↓pb,qbs,tb23,hgo,hEg,irN,nrA,nrM,nrE,reduceIte,reduceCtorEq,nrL] at hEn);clear hEg;(try clear eg);have hEg:=hEn;clear hEn;rename Env=>eg)|((first|((with_reducible first|apply oV_intro|apply oH_intro|apply oB_intro);(simp (disch:=first|exact dA|fail) only [qcs,tb23,hgo,hEg,irN,nrA,nrM,nrE,reduceIte,reduceCtorEq,nrL];with_reducible exact rfl))|((with_reducible first|apply oblA_and|apply oblR_and|apply oblO_and);(focus exact obA))|((with_reducible apply WO_callV);(focus exact topA);(simp only [↓pb,qbs,tb23,hgo,hEg,irN,nrA,nrM,nrE,reduceIte,reduceCtorEq,nrL];(exact f25 _ _ _ _ _ (by exact topA) (hG.fr (N:=H.n) (by exact frA)) (by omega) (by omega)));(intro Gq hq hJq;try simp only [upd_n,jn_n] at hq))|(with_reducible first|refine W_regionF lv23 fun K hK=>?_|refine W_drawnF lv23 fun K hK=>?_));try simp only [↓pb,↓pd,qds,tb23,hgo,hEg,irN,nrA,nrM,nrE,reduceIte,reduceCtorEq,nrL])|((with_reducible apply W_cond);(simp only [↓pb,qbs,tb23,hgo,hEg,irN,nrA,nrM,nrE,reduceIte,reduceCtorEq,nrL];with_reducible exact rfl);all_goals (intro hc;(first|exact hcX hc|try simp only [hcs] at hc)))|(with_reducible first|refine W_seq ?_|refine W_block ?_|refine W_skip ?_|refine W_ret ?_|apply blockK_exit)|((with_reducible apply blockK_pass);(focus decide))|fail)
  refine ⟨by first|exact .inl rfl|exact .inr rfl, ?_⟩
  rw [ret2 Try.results23]
  simp only [↓pb,qbs,tb23,hgo,rv_tmp,rv_cell,hEg,irN,nrA,nrM,nrE,reduceIte,reduceCtorEq,nrL]
  repeat ((with_reducible apply oV_intro);(simp (disch:=first|exact dA|fail) only [qcs,tb23,hgo,hEg,irN,nrA,nrM,nrE,reduceIte,reduceCtorEq,nrL];exact rfl))
  rw [older,if_pos hck]
  refine ⟨by first|rfl|(simp [*];done), ?_⟩
  try exact frA
abbrev fh (H:AHeap) (b:Nat) (x:Int):AHeap:=H.upd H.n b (.cells [uv x] 85 .ex)
theorem fh_same {H:AHeap} {b:Nat} {x:Int} (hg:H.get b=.cells [uv x] 85 .ex):H.upd H.n b (.cells [uv x] 85 .ex)=H:=by
 unfold AHeap.upd
 show (⟨H.n,_⟩:AHeap)=⟨H.n,H.get⟩
 congr 1
 funext c
 split
 ·rename_i e;rw [e,hg]
 ·rfl
theorem f52 (b:Nat) (x:Int) (H:AHeap) (hg:H.get b=.cells [uv x] 85 .ex):∃ v H',C5 (.fn 52) #[vptr b 0] H v H'∧v=uv (fOut x)∧H'=fh H b (fSt x):=by
 have hr:H.rd b=some [uv x]:=by rw [rd_def,hg];rfl
 refine Cl.ofW Try.func52 rfl (by kernel_rfl) (by rw [Try.ntmps52];exact Nat.le_of_ble_eq_true rfl) (by kernel_rfl) ?_
 have hEg:True:=trivial
 refine gcW [0] ?_
 intro eg hEn
 simp only [forallC,forallL,and_true] at hEn
 try simp only [↓pb,qbs,tb52,hg,hr,hEg,irN,nrA,nrM,nrE,reduceIte,reduceCtorEq,nrL] at hEn
 replace hEg:=hEn;clear hEn
 repeat' (first|((with_reducible refine hK _ _ fun e2 hEn=>?_);clear hK K;simp only [lv52,forallC,forallL,and_true] at hEn;(try simp only [↓pb,qbs,tb52,hg,hr,hEg,irN,nrA,nrM,nrE,reduceIte,reduceCtorEq,nrL] at hEn);clear hEg;(try clear eg);have hEg:=hEn;clear hEn;rename Env=>eg)|((first|((with_reducible first|apply oV_intro|apply oH_intro|apply oB_intro);(simp (disch:=first|exact dA|fail) only [qcs,tb52,hg,hr,hEg,irN,nrA,nrM,nrE,reduceIte,reduceCtorEq,nrL];with_reducible exact rfl))|((with_reducible first|apply oblA_and|apply oblR_and|apply oblO_and);(focus exact obA))|(with_reducible first|refine W_regionF lv52 fun K hK=>?_|refine W_drawnF lv52 fun K hK=>?_));try simp only [↓pb,↓pd,qds,tb52,hg,hr,hEg,irN,nrA,nrM,nrE,reduceIte,reduceCtorEq,nrL])|((with_reducible apply W_cond);(simp only [↓pb,qbs,tb52,hg,hr,hEg,irN,nrA,nrM,nrE,reduceIte,reduceCtorEq,nrL];with_reducible exact rfl);all_goals (intro hc;(first|exact hcX hc|try simp only [hcs] at hc)))|(with_reducible first|refine W_seq ?_|refine W_skip ?_|refine W_ret ?_)|fail)
 ·refine ⟨by first|exact .inl rfl|exact .inr rfl, ?_⟩
  rw [ret1 Try.results52]
  simp only [↓pb,qbs,tb52,hg,hr,rv_tmp,rv_cell,hEg,irN,nrA,nrM,nrE,reduceIte,reduceCtorEq,nrL]
  repeat ((with_reducible apply oV_intro);(simp (disch:=first|exact dA|fail) only [qcs,tb52,hg,hr,hEg,irN,nrA,nrM,nrE,reduceIte,reduceCtorEq,nrL];exact rfl))
  subst hc
  exact ⟨rfl,rfl⟩
 ·refine ⟨by first|exact .inl rfl|exact .inr rfl, ?_⟩
  rw [ret1 Try.results52]
  simp only [↓pb,qbs,tb52,hg,hr,rv_tmp,rv_cell,hEg,irN,nrA,nrM,nrE,reduceIte,reduceCtorEq,nrL]
  repeat ((with_reducible apply oV_intro);(simp (disch:=first|exact dA|fail) only [qcs,tb52,hg,hr,hEg,irN,nrA,nrM,nrE,reduceIte,reduceCtorEq,nrL];exact rfl))
  have h0:fS0 x=x:=if_neg hc
  unfold fOut fSt
  rw [h0]
  exact ⟨rfl,rfl⟩
theorem f20 (b:Nat) (x n:Int) (H:AHeap) (hg:H.get b=.cells [uv x] 85 .ex) (hn:n < 9223372036854775808):∃ v H',C5 (.fn 20) #[vptr b 0,iv n] H v H'∧v=iv (below x n)∧H'=fh H b (belowS x n):=by
 by_cases h2:n < 2
 ·have hu:=fh_same hg
  refine Cl.ofW Try.func20 rfl (by kernel_rfl) (by rw [Try.ntmps20];exact Nat.le_of_ble_eq_true rfl) (by kernel_rfl) ?_
  have hEg:True:=trivial
  refine gcW [0,1] ?_
  intro eg hEn
  simp only [forallC,forallL,and_true] at hEn
  try simp only [↓pb,qbs,tb20,h2,hEg,irN,nrA,nrM,nrE,reduceIte,reduceCtorEq,nrL] at hEn
  replace hEg:=hEn;clear hEn
  repeat' (first|((with_reducible refine hK _ _ fun e2 hEn=>?_);clear hK K;simp only [lv20,forallC,forallL,and_true] at hEn;(try simp only [↓pb,qbs,tb20,h2,hEg,irN,nrA,nrM,nrE,reduceIte,reduceCtorEq,nrL] at hEn);clear hEg;(try clear eg);have hEg:=hEn;clear hEn;rename Env=>eg)|((first|((with_reducible first|apply oV_intro|apply oH_intro|apply oB_intro);(simp (disch:=first|exact dA|fail) only [qcs,tb20,h2,hEg,irN,nrA,nrM,nrE,reduceIte,reduceCtorEq,nrL];with_reducible exact rfl))|(with_reducible first|refine W_regionF lv20 fun K hK=>?_));try simp only [↓pb,↓pd,qds,tb20,h2,hEg,irN,nrA,nrM,nrE,reduceIte,reduceCtorEq,nrL])|((with_reducible apply W_cond);(simp only [↓pb,qbs,tb20,h2,hEg,irN,nrA,nrM,nrE,reduceIte,reduceCtorEq,nrL];with_reducible exact rfl);all_goals (intro hc;(first|exact hcX hc|try simp only [hcs] at hc)))|(with_reducible first|refine W_seq ?_|refine W_skip ?_|refine W_ret ?_)|fail)
  refine ⟨by first|exact .inl rfl|exact .inr rfl, ?_⟩
  rw [ret1 Try.results20]
  simp only [↓pb,qbs,tb20,h2,rv_tmp,rv_cell,hEg,irN,nrA,nrM,nrE,reduceIte,reduceCtorEq,nrL]
  repeat ((with_reducible apply oV_intro);(simp (disch:=first|exact dA|fail) only [qcs,tb20,h2,hEg,irN,nrA,nrM,nrE,reduceIte,reduceCtorEq,nrL];exact rfl))
  simp only [below,belowS,h2,if_true,hu,and_self]
 ·have hw:=u64_id (n:=n) (by omega) (by omega)
  refine Cl.ofW Try.func20 rfl (by kernel_rfl) (by rw [Try.ntmps20];exact Nat.le_of_ble_eq_true rfl) (by kernel_rfl) ?_
  have hEg:True:=trivial
  refine gcW [0,1] ?_
  intro eg hEn
  simp only [forallC,forallL,and_true] at hEn
  try simp only [↓pb,qbs,tb20,hg,hw,h2,hEg,irN,nrA,nrM,nrE,reduceIte,reduceCtorEq,nrL] at hEn
  replace hEg:=hEn;clear hEn
  repeat' (first|((with_reducible refine hK _ _ fun e2 hEn=>?_);clear hK K;simp only [lv20,forallC,forallL,and_true] at hEn;(try simp only [↓pb,qbs,tb20,hg,hw,h2,hEg,irN,nrA,nrM,nrE,reduceIte,reduceCtorEq,nrL] at hEn);clear hEg;(try clear eg);have hEg:=hEn;clear hEn;rename Env=>eg)|((first|((with_reducible first|apply oV_intro|apply oH_intro|apply oB_intro);(simp (disch:=first|exact dA|fail) only [qcs,tb20,hg,hw,h2,hEg,irN,nrA,nrM,nrE,reduceIte,reduceCtorEq,nrL];with_reducible exact rfl))|((with_reducible apply WO_callE);(simp only [↓pb,qbs,tb20,hg,hw,h2,hEg,irN,nrA,nrM,nrE,reduceIte,reduceCtorEq,nrL];(exact f52 _ _ _ hg)))|(with_reducible first|refine W_regionF lv20 fun K hK=>?_));try simp only [↓pb,↓pd,qds,tb20,hg,hw,h2,hEg,irN,nrA,nrM,nrE,reduceIte,reduceCtorEq,nrL])|((with_reducible apply W_cond);(simp only [↓pb,qbs,tb20,hg,hw,h2,hEg,irN,nrA,nrM,nrE,reduceIte,reduceCtorEq,nrL];with_reducible exact rfl);all_goals (intro hc;(first|exact hcX hc|try simp only [hcs] at hc)))|(with_reducible first|refine W_seq ?_|refine W_skip ?_|refine W_ret ?_)|fail)
  refine ⟨by first|exact .inl rfl|exact .inr rfl, ?_⟩
  rw [ret1 Try.results20]
  simp only [↓pb,qbs,tb20,hg,hw,h2,rv_tmp,rv_cell,hEg,irN,nrA,nrM,nrE,reduceIte,reduceCtorEq,nrL]
  repeat ((with_reducible apply oV_intro);(simp (disch:=first|exact dA|fail) only [qcs,tb20,hg,hw,h2,hEg,irN,nrA,nrM,nrE,reduceIte,reduceCtorEq,nrL];exact rfl))
  simp only [below,belowS,h2,if_false,and_self]
theorem f31 (b:Nat) (x lo hi:Int) (H:AHeap) (hg:H.get b=.cells [uv x] 85 .ex):∃ v H',C5 (.fn 31) #[vptr b 0,iv lo,iv hi] H v H'∧v=iv (btw x lo hi)∧H'=fh H b (btwS x lo hi):=by
 refine Cl.ofW Try.func31 rfl (by kernel_rfl) (by rw [Try.ntmps31];exact Nat.le_of_ble_eq_true rfl) (by kernel_rfl) ?_
 have hEg:True:=trivial
 refine gcW [0,1,2] ?_
 intro eg hEn
 simp only [forallC,forallL,and_true] at hEn
 try simp only [↓pb,qbs,tb31,hg,hEg,irN,nrA,nrM,nrE,reduceIte,reduceCtorEq,nrL] at hEn
 replace hEg:=hEn;clear hEn
 repeat' (first|((with_reducible refine hK _ _ fun e2 hEn=>?_);clear hK K;simp only [lv31,forallC,forallL,and_true] at hEn;(try simp only [↓pb,qbs,tb31,hg,hEg,irN,nrA,nrM,nrE,reduceIte,reduceCtorEq,nrL] at hEn);clear hEg;(try clear eg);have hEg:=hEn;clear hEn;rename Env=>eg)|((first|((with_reducible first|apply oV_intro|apply oH_intro|apply oB_intro);(simp (disch:=first|exact dA|fail) only [qcs,tb31,hg,hEg,irN,nrA,nrM,nrE,reduceIte,reduceCtorEq,nrL];with_reducible exact rfl))|((with_reducible apply WO_callE);(simp only [↓pb,qbs,tb31,hg,hEg,irN,nrA,nrM,nrE,reduceIte,reduceCtorEq,nrL];(exact f20 _ _ _ _ hg (btwArg_lt _ _))))|(with_reducible first|refine W_regionF lv31 fun K hK=>?_));try simp only [↓pb,↓pd,qds,tb31,hg,hEg,irN,nrA,nrM,nrE,reduceIte,reduceCtorEq,nrL])|(with_reducible first|refine W_seq ?_|refine W_ret ?_)|fail)
 refine ⟨by first|exact .inl rfl|exact .inr rfl, ?_⟩
 rw [ret1 Try.results31]
 simp only [↓pb,qbs,tb31,hg,rv_tmp,rv_cell,hEg,irN,nrA,nrM,nrE,reduceIte,reduceCtorEq,nrL]
 repeat ((with_reducible apply oV_intro);(simp (disch:=first|exact dA|fail) only [qcs,tb31,hg,hEg,irN,nrA,nrM,nrE,reduceIte,reduceCtorEq,nrL];exact rfl))
 exact ⟨rfl,rfl⟩
theorem f41 (b:Nat) (x n m:Int) (H:AHeap) (hg:H.get b=.cells [uv x] 85 .ex) (hm:m < 9223372036854775808):∃ v H',C5 (.fn 41) #[vptr b 0,iv n,iv m] H v H'∧v=.bool (decide (below x m < n))∧H'=fh H b (belowS x m):=by
 refine Cl.ofW Try.func41 rfl (by kernel_rfl) (by rw [Try.ntmps41];exact Nat.le_of_ble_eq_true rfl) (by kernel_rfl) ?_
 have hEg:True:=trivial
 refine gcW [0,1,2] ?_
 intro eg hEn
 simp only [forallC,forallL,and_true] at hEn
 try simp only [↓pb,qbs,tb41,hg,hEg,irN,nrA,nrM,nrE,reduceIte,reduceCtorEq,nrL] at hEn
 replace hEg:=hEn;clear hEn
 repeat' (first|((with_reducible refine hK _ _ fun e2 hEn=>?_);clear hK K;simp only [lv41,forallC,forallL,and_true] at hEn;(try simp only [↓pb,qbs,tb41,hg,hEg,irN,nrA,nrM,nrE,reduceIte,reduceCtorEq,nrL] at hEn);clear hEg;(try clear eg);have hEg:=hEn;clear hEn;rename Env=>eg)|((first|((with_reducible first|apply oV_intro|apply oH_intro|apply oB_intro);(simp (disch:=first|exact dA|fail) only [qcs,tb41,hg,hEg,irN,nrA,nrM,nrE,reduceIte,reduceCtorEq,nrL];with_reducible exact rfl))|((with_reducible apply WO_callE);(simp only [↓pb,qbs,tb41,hg,hEg,irN,nrA,nrM,nrE,reduceIte,reduceCtorEq,nrL];(exact f20 _ _ _ _ hg hm)))|(with_reducible first|refine W_regionF lv41 fun K hK=>?_));try simp only [↓pb,↓pd,qds,tb41,hg,hEg,irN,nrA,nrM,nrE,reduceIte,reduceCtorEq,nrL])|(with_reducible first|refine W_seq ?_|refine W_ret ?_)|fail)
 refine ⟨by first|exact .inl rfl|exact .inr rfl, ?_⟩
 rw [ret1 Try.results41]
 simp only [↓pb,qbs,tb41,hg,rv_tmp,rv_cell,hEg,irN,nrA,nrM,nrE,reduceIte,reduceCtorEq,nrL]
 repeat ((with_reducible apply oV_intro);(simp (disch:=first|exact dA|fail) only [qcs,tb41,hg,hEg,irN,nrA,nrM,nrE,reduceIte,reduceCtorEq,nrL];exact rfl))
theorem f18 (b:Nat) (x:Int) (vl:Value) (l:List Int) (H:AHeap) (hg:H.get b=.cells [uv x] 85 .ex) (S:SR H 1 l.length vl (ints l)) (hne:vblk vl≠b∨l.length=0) (hl:l.length < 1099511627776) :
  ∃ v H',C5 (.fn 18) #[vptr b 0,vl] H v H'∧v=iv (either x l)∧H'=fh H b (eitherS x l):=by
 have S2:SR H 1 l.length vl (l.map iv):=S
 have hlt:=S.lt
 by_cases h0:l.length=0
 ·have hu:=fh_same hg
  have h0':(l.length:Int)=0:=by omega
  refine Cl.ofW Try.func18 rfl (by kernel_rfl) (by rw [Try.ntmps18];exact Nat.le_of_ble_eq_true rfl) (by kernel_rfl) ?_
  have hEg:True:=trivial
  refine gcW [0,1] ?_
  intro eg hEn
  simp only [forallC,forallL,and_true] at hEn
  try simp only [↓pb,qbs,tb18,lns31 S,h0',hEg,irN,nrA,nrM,nrE,reduceIte,reduceCtorEq,nrL] at hEn
  replace hEg:=hEn;clear hEn
  repeat' (first|((with_reducible refine hK _ _ fun e2 hEn=>?_);clear hK K;simp only [lv18,forallC,forallL,and_true] at hEn;(try simp only [↓pb,qbs,tb18,lns31 S,h0',hEg,irN,nrA,nrM,nrE,reduceIte,reduceCtorEq,nrL] at hEn);clear hEg;(try clear eg);have hEg:=hEn;clear hEn;rename Env=>eg)|((first|((with_reducible first|apply oV_intro|apply oH_intro|apply oB_intro);(simp (disch:=first|exact dA|fail) only [qcs,tb18,lns31 S,h0',hEg,irN,nrA,nrM,nrE,reduceIte,reduceCtorEq,nrL];with_reducible exact rfl))|(with_reducible first|refine W_regionF lv18 fun K hK=>?_));try simp only [↓pb,↓pd,qds,tb18,lns31 S,h0',hEg,irN,nrA,nrM,nrE,reduceIte,reduceCtorEq,nrL])|((with_reducible apply W_cond);(simp only [↓pb,qbs,tb18,lns31 S,h0',hEg,irN,nrA,nrM,nrE,reduceIte,reduceCtorEq,nrL];with_reducible exact rfl);all_goals (intro hc;(first|exact hcX hc|try simp only [hcs] at hc)))|(with_reducible first|refine W_seq ?_|refine W_skip ?_|refine W_ret ?_)|fail)
  refine ⟨by first|exact .inl rfl|exact .inr rfl, ?_⟩
  rw [ret1 Try.results18]
  simp only [↓pb,qbs,tb18,lns31 S,h0',rv_tmp,rv_cell,hEg,irN,nrA,nrM,nrE,reduceIte,reduceCtorEq,nrL]
  repeat ((with_reducible apply oV_intro);(simp (disch:=first|exact dA|fail) only [qcs,tb18,lns31 S,h0',hEg,irN,nrA,nrM,nrE,reduceIte,reduceCtorEq,nrL];exact rfl))
  simp only [either,eitherS,h0,if_true,hu,and_self]
 ·have hb:=below_spec x l.length (by omega)
  have h0':¬ ((l.length:Int)=0):=by omega
  have hb2:=hb.2.1 (by omega)
  refine Cl.ofW Try.func18 rfl (by kernel_rfl) (by rw [Try.ntmps18];exact Nat.le_of_ble_eq_true rfl) (by kernel_rfl) ?_
  have hEg:True:=trivial
  refine gcW [0,1] ?_
  intro eg hEn
  simp only [forallC,forallL,and_true] at hEn
  try simp only [↓pb,qbs,tb18,lns31 S,h0',ias31 S,S.rd,S2.el1 rfl,hEg,irN,nrA,nrM,nrE,reduceIte,reduceCtorEq,nrL] at hEn
  replace hEg:=hEn;clear hEn
  repeat' (first|((with_reducible refine hK _ _ fun e2 hEn=>?_);clear hK K;simp only [lv18,forallC,forallL,and_true] at hEn;(try simp only [↓pb,qbs,tb18,lns31 S,h0',ias31 S,S.rd,S2.el1 rfl,hEg,irN,nrA,nrM,nrE,reduceIte,reduceCtorEq,nrL] at hEn);clear hEg;(try clear eg);have hEg:=hEn;clear hEn;rename Env=>eg)|((first|((with_reducible first|apply oV_intro|apply oH_intro|apply oB_intro);(simp (disch:=first|exact dA|fail) only [qcs,tb18,lns31 S,h0',ias31 S,S.rd,S2.el1 rfl,hEg,irN,nrA,nrM,nrE,reduceIte,reduceCtorEq,nrL];with_reducible exact rfl))|((with_reducible apply WO_callE);(simp only [↓pb,qbs,tb18,lns31 S,h0',ias31 S,S.rd,S2.el1 rfl,hEg,irN,nrA,nrM,nrE,reduceIte,reduceCtorEq,nrL];(exact f20 _ _ _ _ hg (by omega))))|(with_reducible first|refine W_regionF lv18 fun K hK=>?_));try simp only [↓pb,↓pd,qds,tb18,lns31 S,h0',ias31 S,S.rd,S2.el1 rfl,hEg,irN,nrA,nrM,nrE,reduceIte,reduceCtorEq,nrL])|((with_reducible apply W_cond);(simp only [↓pb,qbs,tb18,lns31 S,h0',ias31 S,S.rd,S2.el1 rfl,hEg,irN,nrA,nrM,nrE,reduceIte,reduceCtorEq,nrL];with_reducible exact rfl);all_goals (intro hc;(first|exact hcX hc|try simp only [hcs] at hc)))|(with_reducible first|refine W_seq ?_|refine W_skip ?_|refine W_ret ?_)|fail)
  refine ⟨by first|exact .inl rfl|exact .inr rfl, ?_⟩
  rw [ret1 Try.results18]
  simp only [↓pb,qbs,tb18,lns31 S,h0',ias31 S,S.rd,S2.el1 rfl,rv_tmp,rv_cell,hEg,irN,nrA,nrM,nrE,reduceIte,reduceCtorEq,nrL]
  repeat ((with_reducible apply oV_intro);(simp (disch:=first|exact dA|fail) only [qcs,tb18,lns31 S,h0',ias31 S,S.rd,S2.el1 rfl,hEg,irN,nrA,nrM,nrE,reduceIte,reduceCtorEq,nrL];exact rfl))
  simp only [either,eitherS,h0,if_false,and_self]
  exact ⟨rfl,trivial⟩

theorem f16 (vl:Value) (l:List Int) (H:AHeap) (hT:Top H) (S:SR H 1 l.length vl (ints l)) (hl:l.length≤9223372036854775807) :
  ∃ v H',C5 (.fn 16) #[vl] H v H'∧v=vptr H.n 0∧H'=H.upd (H.n + 1) H.n (.cells [uv (feedOf l)] 85 .ex):=by
 have S2:SR H 1 l.length vl (l.map iv):=S
 have hfr:∀ o o',Fr H.n [H.n] (H.upd (H.n + 1) H.n (.cells o 85 .ex)) (H.upd (H.n + 1) H.n (.cells o' 85 .ex)):=fun o o'=>by
  have:=(Fr.refl (N:=H.n) (X:=[H.n]) (H.upd (H.n + 1) H.n (.cells o 85 .ex))).upd (n:=H.n + 1) (b:=H.n) (o:=.cells o' 85 .ex) (Nat.le_refl _) (Nat.lt_succ_self _) (.inr (by simp)) trivial
  rw [upd_upd] at this
  exact this
 refine Cl.ofW Try.func16 rfl (by kernel_rfl) (by rw [Try.ntmps16];exact Nat.le_of_ble_eq_true rfl) (by kernel_rfl) ?_
 have hEg:True:=trivial
 refine gcW [0] ?_
 intro eg hEn
 simp only [forallC,forallL,and_true] at hEn
 try simp only [↓pb,qbs,tb16,lns31 S,hEg,irN,nrA,nrM,nrE,reduceIte,reduceCtorEq,nrL] at hEn
 replace hEg:=hEn;clear hEn
 repeat' (first|((with_reducible refine hK _ _ fun e2 hEn=>?_);clear hK K;simp only [lv16,forallC,forallL,and_true] at hEn;(try simp only [↓pb,qbs,tb16,lns31 S,hEg,irN,nrA,nrM,nrE,reduceIte,reduceCtorEq,nrL] at hEn);clear hEg;(try clear eg);have hEg:=hEn;clear hEn;rename Env=>eg)|((first|((with_reducible first|apply oV_intro|apply oH_intro|apply oB_intro);(simp (disch:=first|exact dA|fail) only [qcs,tb16,lns31 S,hEg,irN,nrA,nrM,nrE,reduceIte,reduceCtorEq,nrL];with_reducible exact rfl))|((with_reducible first|apply oblA_and|apply oblR_and|apply oblO_and);(focus exact obA))|(with_reducible first|refine W_regionF lv16 fun K hK=>?_|refine W_drawnF lv16 fun K hK=>?_));try simp only [↓pb,↓pd,qds,tb16,lns31 S,hEg,irN,nrA,nrM,nrE,reduceIte,reduceCtorEq,nrL])|((with_reducible apply W_cond);(simp only [↓pb,qbs,tb16,lns31 S,hEg,irN,nrA,nrM,nrE,reduceIte,reduceCtorEq,nrL];with_reducible exact rfl);all_goals (intro hc;(first|exact hcX hc|try simp only [hcs] at hc)))|(with_reducible first|refine W_seq ?_|refine W_block ?_|refine W_skip ?_|refine W_ret ?_|refine W_exit ?_|apply blockK_exit)|((with_reducible apply blockK_pass);(focus decide))|fail)
 refine W_count [0,3] (by kernel_rfl) 4 (l.length) (H.n) [H.n] [] (fun i e h=>h=H.upd (H.n + 1) H.n (.cells [uv (feedOf (l.take i))] 85 .ex)) (by simp only [↓pb,qbs,tb16,lns31 S,hEg,irN,nrA,nrM,nrE,reduceIte,reduceCtorEq,nrL]) (by focus exact topA) (H0:=H) (by focus exact frA) (by intro b hb hlt;simp at hb ⊢;try omega) ?_ ?_
 rotate_left
 intro i1 e1 h1 hi1 hE1 ei1 hF1 hF01 hTh1 hJ1
 simp only [forallC,forallL,and_true] at hE1
 try simp only [↓pb,qbs,tb16,lns31 S,hEg,irN,nrA,nrM,nrE,reduceIte,reduceCtorEq,nrL] at hE1
 have hn11:=hF1.n;have hn01:=hF01.n;try simp only [upd_n,jn_n] at hn11
 replace hEg:=And.intro ei1 hE1
 rotate_left
 ·rfl
 subst hJ1
 have S1:=S2.fr0 hF01
 have l1:=S2.lt
 by_cases hi2:i1 < l.length
 ·repeat' (first|((with_reducible refine hK _ _ fun e2 hEn=>?_);clear hK K;simp only [lv16,forallC,forallL,and_true] at hEn;(try simp only [↓pb,qbs,tb16,lns31 S,hEg,irN,nrA,nrM,nrE,reduceIte,reduceCtorEq,nrL] at hEn);clear hEg;(try clear eg);have hEg:=hEn;clear hEn;rename Env=>eg)|((first|((with_reducible first|apply oV_intro|apply oH_intro|apply oB_intro);(simp (disch:=first|exact dA|fail) only [qcs,tb16,lns31 S,ias31 S1,S1.rd,S1.el1 rfl,hEg,irN,nrA,nrM,nrE,reduceIte,reduceCtorEq,nrL];with_reducible exact rfl))|((with_reducible first|apply oblA_and|apply oblR_and|apply oblO_and);(focus exact obA))|((with_reducible apply WO_callE);(simp only [↓pb,qbs,tb16,lns31 S,ias31 S1,S1.rd,S1.el1 rfl,hEg,irN,nrA,nrM,nrE,reduceIte,reduceCtorEq,nrL];(exact f52 _ _ _ upd_get_same)))|(with_reducible first|refine W_regionF lv16 fun K hK=>?_|refine W_drawnF lv16 fun K hK=>?_));try simp only [↓pb,↓pd,qds,tb16,lns31 S,ias31 S1,S1.rd,S1.el1 rfl,hEg,irN,nrA,nrM,nrE,reduceIte,reduceCtorEq,nrL])|((with_reducible apply W_cond);(simp only [↓pb,qbs,tb16,lns31 S,ias31 S1,S1.rd,S1.el1 rfl,hEg,irN,nrA,nrM,nrE,reduceIte,reduceCtorEq,nrL];with_reducible exact rfl);all_goals (intro hc;(first|exact hcX hc|try simp only [hcs] at hc)))|(with_reducible first|refine W_seq ?_|refine W_block ?_|refine W_skip ?_|refine W_ret ?_|refine W_exit ?_|apply blockK_exit)|((with_reducible apply blockK_pass);(focus decide))|fail)
  refine ⟨by omega,by simp only [↓pb,qbs,tb16,lns31 S,hEg,irN,nrA,nrM,nrE,reduceIte,reduceCtorEq,nrL];exact congrArg _ (inc64 (by omega)),hfr _ _, ?_⟩
  rw [take_getD hi2,feedOf,feedOf,List.foldl_append]
  rfl
 ·have e1:i1=l.length:=by omega
  repeat' (first|((with_reducible refine hK _ _ fun e2 hEn=>?_);clear hK K;simp only [lv16,forallC,forallL,and_true] at hEn;(try simp only [↓pb,qbs,tb16,lns31 S,hEg,irN,nrA,nrM,nrE,reduceIte,reduceCtorEq,nrL] at hEn);clear hEg;(try clear eg);have hEg:=hEn;clear hEn;rename Env=>eg)|((first|((with_reducible first|apply oV_intro|apply oH_intro|apply oB_intro);(simp (disch:=first|exact dA|fail) only [qcs,tb16,lns31 S,hEg,irN,nrA,nrM,nrE,reduceIte,reduceCtorEq,nrL];with_reducible exact rfl))|((with_reducible first|apply oblA_and|apply oblR_and|apply oblO_and);(focus exact obA))|(with_reducible first|refine W_regionF lv16 fun K hK=>?_|refine W_drawnF lv16 fun K hK=>?_));try simp only [↓pb,↓pd,qds,tb16,lns31 S,hEg,irN,nrA,nrM,nrE,reduceIte,reduceCtorEq,nrL])|((with_reducible apply W_cond);(simp only [↓pb,qbs,tb16,lns31 S,hEg,irN,nrA,nrM,nrE,reduceIte,reduceCtorEq,nrL];with_reducible exact rfl);all_goals (intro hc;(first|exact hcX hc|try simp only [hcs] at hc)))|(with_reducible first|refine W_seq ?_|refine W_block ?_|refine W_skip ?_|refine W_ret ?_|refine W_exit ?_|apply blockK_exit)|((with_reducible apply blockK_pass);(focus decide))|fail)
  refine ⟨by first|exact .inl rfl|exact .inr rfl, ?_⟩
  rw [ret1 Try.results16]
  simp only [↓pb,qbs,tb16,lns31 S,rv_tmp,rv_cell,hEg,irN,nrA,nrM,nrE,reduceIte,reduceCtorEq,nrL]
  repeat ((with_reducible apply oV_intro);(simp (disch:=first|exact dA|fail) only [qcs,tb16,lns31 S,hEg,irN,nrA,nrM,nrE,reduceIte,reduceCtorEq,nrL];exact rfl))
  rw [e1,List.take_length]
theorem GS.fr' {N:Nat} {X:List Nat} {A B:AHeap} (hF:Fr N X A B) {s n:Nat} {v:Value} {c:List Value} {g:Option Nat} (h:GS A s n v c g) (hg:∀ x,g=some x→x < N) (hx:v=.slice none 0 0∨vblk v∉X):GS B s n v c g:=by
 rcases hx with rfl|hx
 ·cases h with
  | nil hn hv hc=>exact .nil hn hv hc
  | full hv=>cases hv
  | gr hv=>cases hv
 ·exact h.fr hF hg hx
theorem GS.upd_gr {B:AHeap} {s n g' e:Nat} {l:Bool} {v:Value} {c d:List Value} {T:TypeId} {g:Option Nat} (G:GS B s n v c g) (hne:g≠some g'):GS (B.upd (B.n + 1) B.n (.cells d T (.gr g' e l))) s n v c g:=by
 cases G with
 | nil hn hv hc=>exact .nil hn hv hc
 | full hv hb hg hk hl hc h0=>exact .full hv (Nat.lt_succ_of_lt hb) ((upd_get_ne (by omega)).trans hg) hk hl hc h0
 | gr hv hb hgb hg hl hf =>
  refine .gr hv (Nat.lt_succ_of_lt hb) hgb ((upd_get_ne (by omega)).trans hg) hl ?_
  intro b' c' T' e' l' hb'
  by_cases e1:b'=B.n
  ·subst e1
   rw [upd_get_same] at hb'
   cases hb'
   exact absurd rfl hne
  ·rw [upd_get_ne e1] at hb'
   exact hf b' c' T' e' l' hb'
theorem stG_3_2 {H:AHeap} {b:Nat} {a0 a1 a2 a3 a4 a5 x y:Value} {T:TypeId}:stG H b 3 2 (.agg ⟨[x,y]⟩) (.cells [a0,a1,a2,a3,a4,a5] T .ex)=some (H.upd H.n b (.cells [a0,a1,a2,x,y,a5] T .ex)):=by
 rw [stG_ex,if_pos ⟨rfl,rfl,by simp⟩]
 rfl
theorem stG_int1 {H:AHeap} {b k:Nat} {l:List Int} {y:Int} (h:k < l.length):stG H b (k * 1) 1 (iv y) (.cells (ints l) 3 .ex)=some (H.upd H.n b (.cells (ints (l.set k y)) 3 .ex)):=by
 rw [Nat.mul_one,← ints_set]
 exact stG_int (by rw [ints_len];exact h)
theorem mx_lt (x:Int):max 2 (IntKind.i64.wrap x) < 9223372036854775808:=by
 have:=w64_lt x
 unfold w64 at this
 omega
theorem goSpo_len:∀ (n:Nat) (x:Int) (l:List Spo),(goSpo n x l).1.length=l.length + n
 | 0,x,l=>rfl
 | n + 1,x,l=>by rw [goSpo,goSpo_len n,List.length_append,List.length_singleton];omega
theorem goSrt_len {m h:Int}:∀ (n:Nat) (x:Int) (l:List Srt),(goSrt m h n x l).1.length=l.length + n
 | 0,x,l=>rfl
 | n + 1,x,l=>by rw [goSrt,goSrt_len n,List.length_append,List.length_singleton];omega
theorem ints_app {l:List Int} {x:Int}:ints (l ++ [x])=ints l ++ [iv x]:=by simp [ints]
theorem Gst.step_take {spots sorts:Nat} {mass hours:Int} {s:Gst} (h1:0 < s.lies.getD (below (eitherS (belowS s.x 4) [0,1,below s.x 4]) spots).toNat 0)
  (h2:below (btwS (belowS (belowS (eitherS (belowS s.x 4) [0,1,below s.x 4]) spots) sorts) 1 mass) 5 < 2) :
  s.step spots sorts mass hours=(let x1:=belowS s.x 4;let hour:=min 72 (min hours (w64 (s.hour + either x1 [0,1,below s.x 4])));let x2:=eitherS x1 [0,1,below s.x 4];let spot:=below x2 spots;let x3:=belowS x2 spots;let x4:=belowS x3 sorts
   let x5:=btwS x4 1 mass;let lie:=s.lies.getD spot.toNat 0;let x6:=belowS x5 5;let x7:=btwS x6 1 lie;let l:=[lie,btw x6 1 lie];let k:=either x7 l;let r:=spread mass k (eitherS x7 l)
   ⟨r.2,hour,s.lies.set spot.toNat (w64 (lie - k)),s.acts ++ [⟨hour,spot,0,r.1.Min,r.1.Max,true⟩],s.truth ++ [k]⟩):=by
 unfold Gst.step
 simp only [h1,h2,and_self,if_true]
theorem Gst.step_tip1 {spots sorts:Nat} {mass hours:Int} {s:Gst} (h1:0 < s.lies.getD (below (eitherS (belowS s.x 4) [0,1,below s.x 4]) spots).toNat 0)
  (h2:¬ below (btwS (belowS (belowS (eitherS (belowS s.x 4) [0,1,below s.x 4]) spots) sorts) 1 mass) 5 < 2) :
  s.step spots sorts mass hours=(let x1:=belowS s.x 4;let hour:=min 72 (min hours (w64 (s.hour + either x1 [0,1,below s.x 4])));let x2:=eitherS x1 [0,1,below s.x 4];let spot:=below x2 spots;let x3:=belowS x2 spots;let kind:=below x3 sorts;let x4:=belowS x3 sorts
   let n:=btw x4 1 mass;let x5:=btwS x4 1 mass;let lie:=s.lies.getD spot.toNat 0;let r:=spread mass n (belowS x5 5)
   ⟨r.2,hour,s.lies.set spot.toNat (w64 (lie + n)),s.acts ++ [⟨hour,spot,kind,r.1.Min,r.1.Max,false⟩],s.truth ++ [n]⟩):=by
 unfold Gst.step
 simp only [h1,h2,and_false,if_false,if_true]
theorem Gst.step_tip0 {spots sorts:Nat} {mass hours:Int} {s:Gst} (h1:¬ 0 < s.lies.getD (below (eitherS (belowS s.x 4) [0,1,below s.x 4]) spots).toNat 0) :
  s.step spots sorts mass hours=(let x1:=belowS s.x 4;let hour:=min 72 (min hours (w64 (s.hour + either x1 [0,1,below s.x 4])));let x2:=eitherS x1 [0,1,below s.x 4];let spot:=below x2 spots;let x3:=belowS x2 spots;let kind:=below x3 sorts;let x4:=belowS x3 sorts
   let n:=btw x4 1 mass;let x5:=btwS x4 1 mass;let lie:=s.lies.getD spot.toNat 0;let r:=spread mass n x5
   ⟨r.2,hour,s.lies.set spot.toNat (w64 (lie + n)),s.acts ++ [⟨hour,spot,kind,r.1.Min,r.1.Max,false⟩],s.truth ++ [n]⟩):=by
 unfold Gst.step
 simp only [h1,false_and,if_false]
set_option maxHeartbeats 4000000 in
theorem f17 (b:Nat) (x spots sorts acts mass hours:Int) (H:AHeap) (hT:Top H) (hg:H.get b=.cells [uv x] 85 .ex) (hb:b < H.n) (q1:1≤spots∧spots≤100) (q2:1≤sorts∧sorts≤100) (q3:0≤acts∧acts≤1000) (q4:1≤mass∧mass≤1000000) (q5:0≤hours∧hours≤10000) :
  ∃ v H',C5 (.fn 17) #[vptr b 0,iv spots,iv sorts,iv acts,iv mass,iv hours] H v H' ∧
   (∃ va vb vc vt gg gt,v=.tuple #[.agg ⟨[va,vb,vc]⟩,vt]∧RG H' va vb vc (groundOf x spots sorts acts mass hours).g∧GS H' 6 (groundOf x spots sorts acts mass hours).g.Acts.length vc ((groundOf x spots sorts acts mass hours).g.Acts.flatMap eAct) gg∧(∀ x,gg=some x→H.n≤x) ∧
    GS H' 1 (groundOf x spots sorts acts mass hours).truth.length vt (ints (groundOf x spots sorts acts mass hours).truth) gt∧H'.get b=.cells [uv (groundOf x spots sorts acts mass hours).x] 85 .ex∧((groundOf x spots sorts acts mass hours).g.Spots.length=0∨SK H' 3 va))∧Fr H.n [b] H H':=by
 have w1:=btw_spec (x:=x) (lo:=1) (hi:=spots) (by omega) (by omega) (by omega)
 refine Cl.ofW Try.func17 rfl (by kernel_rfl) (by rw [Try.ntmps17];exact Nat.le_of_ble_eq_true rfl) (by kernel_rfl) ?_
 have hEg:True:=trivial
 refine gcW [0,1,2,3,4,5] ?_
 intro eg hEn
 simp only [forallC,forallL,and_true] at hEn
 try simp only [↓pb,qbx,tb17,hg,hEg,irN,nrA,nrM,nrE,reduceIte,reduceCtorEq,nrL] at hEn
 replace hEg:=hEn;clear hEn
 repeat' (first|((with_reducible refine hK _ _ fun e2 hEn=>?_);clear hK K;simp only [lv17,forallC,forallL,and_true] at hEn;(try simp only [↓pb,qbx,tb17,hg,hEg,irN,nrA,nrM,nrE,reduceIte,reduceCtorEq,nrL] at hEn);clear hEg;(try clear eg);have hEg:=hEn;clear hEn;rename Env=>eg)|((first|((with_reducible first|apply oV_intro|apply oH_intro|apply oB_intro);(simp (disch:=first|exact dA|fail) only [qcx,tb17,hg,hEg,irN,nrA,nrM,nrE,reduceIte,reduceCtorEq,nrL];with_reducible exact rfl))|((with_reducible first|apply oblA_and|apply oblR_and|apply oblO_and);(focus exact obA))|((with_reducible apply WO_callE);(simp only [↓pb,qbx,tb17,hg,hEg,irN,nrA,nrM,nrE,reduceIte,reduceCtorEq,nrL];(exact f31 _ _ _ _ _ (by simp (disch:=first|exact dA|fail) only [qcx,tb17,hg,hEg,irN,nrA,nrM,nrE,reduceIte,reduceCtorEq,nrL];rfl))))|(with_reducible first|refine W_regionF lv17 fun K hK=>?_|refine W_drawnF lv17 fun K hK=>?_));try simp only [↓pb,↓pd,qdx,tb17,hg,hEg,irN,nrA,nrM,nrE,reduceIte,reduceCtorEq,nrL])|((first|((with_reducible first|apply WO_gT|apply WO_gF|apply WD_gT|apply WD_gF);exact rfl)|(with_reducible apply W_cond));(simp only [↓pb,qbx,tb17,hg,hEg,irN,nrA,nrM,nrE,reduceIte,reduceCtorEq,nrL];with_reducible exact rfl);all_goals (intro hc;(first|exact hcX hc|try simp only [hcs] at hc);try ((with_reducible first|apply woI|apply wdI);simp only [↓pb,↓pd,qdx,tb17,hg,hc,hEg,irN,nrA,nrM,nrE,reduceIte,reduceCtorEq,nrL])))|(with_reducible first|refine W_seq ?_|refine W_block ?_|refine W_skip ?_|refine W_ret ?_|refine W_exit ?_|apply blockK_exit)|((with_reducible apply blockK_pass);(focus decide))|fail)
 refine W_while [0,2,3,4,5,12,14] (by kernel_rfl) (H.n) [b,H.n + 1] [b] (fun s e h=>∃ (i:Int) (va:Value) (gg:Option Nat),e 15=iv i∧i.toNat=s.1∧i≤100∧h.get b=.cells [uv s.2.1] 85 .ex∧h.get (H.n + 1)=.cells [va,.slice none 0 0,.slice none 0 0] 26 .ex∧GS h 3 s.2.2.length va (s.2.2.flatMap eSpo) gg∧(∀ x,gg=some x→H.n≤x)∧(va=.slice none 0 0∨H.n + 1 < vblk va)∧s.2.2.length + s.1≤100∧goSpo (btw x 1 spots).toNat (btwS x 1 spots) []=goSpo s.1 s.2.1 s.2.2) (fun s=>s.1) (((btw x 1 spots).toNat,btwS x 1 spots,([]:List Spo))) (by focus exact topA) (H0:=H) (by focus exact frA) (by intro b hb hlt;simp at hb ⊢;try omega) ?_ ?_
 rotate_left
 intro s1 e1 h1 hE1 hF1 hF01 hTh1 hJ1
 simp only [forallC,forallL,and_true] at hE1
 try simp only [↓pb,qbx,tb17,hg,hEg,irN,nrA,nrM,nrE,reduceIte,reduceCtorEq,nrL] at hE1
 have hn11:=hF1.n;have hn01:=hF01.n;try simp only [upd_n,jn_n] at hn11
 replace hEg:=hE1
 rotate_left
 ·refine ⟨btw x 1 spots,.slice none 0 0,none,by simp only [↓pb,qbx,tb17,hg,hEg,irN,nrA,nrM,nrE,reduceIte,reduceCtorEq,nrL],rfl,by omega,by simp (disch:=first|exact dA|fail) only [qcx,tb17,hg,hEg,irN,nrA,nrM,nrE,reduceIte,reduceCtorEq,nrL],by simp (disch:=first|exact dA|fail) only [qcx,tb17,hg,hEg,irN,nrA,nrM,nrE,reduceIte,reduceCtorEq,nrL],.nil rfl rfl rfl,by simp,.inl rfl, ?_,rfl⟩
  show 0 + (btw x 1 spots).toNat≤100
  omega
 obtain ⟨n1,x1,l1⟩:=s1
 obtain ⟨i1,va,gg,e15,ei,ilt,k1,k2,G,g2,g3,g4,g5⟩:=hJ1
 dsimp only at ei k1 G g4 g5
 have ho:=G.one
 have r2:h1.rd (H.n + 1)=some [va,.slice none 0 0,.slice none 0 0]:=by rw [rd_def,k2];rfl
 by_cases hi2:0 < i1
 ·repeat' (first|((with_reducible refine hK _ _ fun e2 hEn=>?_);clear hK K;simp only [lv17,forallC,forallL,and_true] at hEn;(try simp only [↓pb,qbx,tb17,hg,e15,r2,k1,k2,eSpo,hEg,irN,nrA,nrM,nrE,reduceIte,reduceCtorEq,nrL] at hEn);clear hEg;(try clear eg);have hEg:=hEn;clear hEn;rename Env=>eg)|((first|((with_reducible first|apply oV_intro|apply oH_intro|apply oB_intro);(simp (disch:=first|exact dA|fail) only [qcx,tb17,hg,e15,r2,k1,k2,eSpo,hEg,irN,nrA,nrM,nrE,reduceIte,reduceCtorEq,nrL];with_reducible exact rfl))|((with_reducible first|apply oblA_and|apply oblR_and|apply oblO_and);(focus exact obA))|((with_reducible apply WO_callE);(simp only [↓pb,qbx,tb17,hg,e15,r2,k1,k2,eSpo,hEg,irN,nrA,nrM,nrE,reduceIte,reduceCtorEq,nrL];(first|exact f20 _ _ _ _ (by simp (disch:=first|exact dA|fail) only [qcx,tb17,hg,e15,r2,k1,k2,eSpo,hEg,irN,nrA,nrM,nrE,reduceIte,reduceCtorEq,nrL];rfl) (by omega)|exact f31 _ _ _ _ _ (by simp (disch:=first|exact dA|fail) only [qcx,tb17,hg,e15,r2,k1,k2,eSpo,hEg,irN,nrA,nrM,nrE,reduceIte,reduceCtorEq,nrL];rfl))))|(with_reducible first|refine W_regionF lv17 fun K hK=>?_|refine W_drawnF lv17 fun K hK=>?_));try simp only [↓pb,↓pd,qdx,tb17,hg,e15,r2,k1,k2,eSpo,hEg,irN,nrA,nrM,nrE,reduceIte,reduceCtorEq,nrL])|((first|((with_reducible first|apply WO_gT|apply WO_gF|apply WD_gT|apply WD_gF);exact rfl)|(with_reducible apply W_cond));(simp only [↓pb,qbx,tb17,hg,e15,r2,k1,k2,eSpo,hEg,irN,nrA,nrM,nrE,reduceIte,reduceCtorEq,nrL];with_reducible exact rfl);all_goals (intro hc;(first|exact hcX hc|try simp only [hcs] at hc);try ((with_reducible first|apply woI|apply wdI);simp only [↓pb,↓pd,qdx,tb17,hg,e15,r2,k1,k2,eSpo,hc,hEg,irN,nrA,nrM,nrE,reduceIte,reduceCtorEq,nrL])))|(with_reducible first|refine W_seq ?_|refine W_block ?_|refine W_skip ?_|refine W_ret ?_|refine W_exit ?_|apply blockK_exit)|((with_reducible apply blockK_pass);(focus decide))|fail)
  have hvb:va=.slice none 0 0∨vblk va∉[b]:=by
   rcases g3 with g3|g3
   ·exact .inl g3
   ·exact .inr nxA
  refine pu22 (n:=l1.length) (m:=1) (c:=l1.flatMap eSpo) (g:=gg) ?a1 (SR.new rfl) (by omega) (by omega) (by omega) ?a3 fun GG=>?a4
  case a1 =>
   refine GS.ex ?_
   refine G.fr' (N:=h1.n) (X:=[b]) ?_ (fun x hx=>by subst hx;exact G.grp_lt) hvb
   exact frA
  case a3 =>
   exact topA
  have hgd1:=gd_ge g2 (n:=h1.n + 1) (by omega)
  have hgd2:=GG.grp_lt
  simp only [upd_n,jn_n] at hgd2
  simp only [upd_n,jn_n,nb] at GG
  simp only [↓pb,↓pd,qdx,tb17,hg,e15,k2,hEg,irN,nrA,nrM,nrE,reduceIte,reduceCtorEq,nrL]
  repeat' (first|((with_reducible refine hK _ _ fun e2 hEn=>?_);clear hK K;simp only [lv17,forallC,forallL,and_true] at hEn;(try simp only [↓pb,qbx,tb17,hg,e15,k2,hEg,irN,nrA,nrM,nrE,reduceIte,reduceCtorEq,nrL] at hEn);clear hEg;(try clear eg);have hEg:=hEn;clear hEn;rename Env=>eg)|((first|((with_reducible first|apply oV_intro|apply oH_intro|apply oB_intro);(simp (disch:=first|exact dA|fail) only [qcx,tb17,hg,e15,k2,hEg,irN,nrA,nrM,nrE,reduceIte,reduceCtorEq,nrL];with_reducible exact rfl))|((with_reducible first|apply oblA_and|apply oblR_and|apply oblO_and);(focus exact obA))|(with_reducible first|refine W_regionF lv17 fun K hK=>?_|refine W_drawnF lv17 fun K hK=>?_));try simp only [↓pb,↓pd,qdx,tb17,hg,e15,k2,hEg,irN,nrA,nrM,nrE,reduceIte,reduceCtorEq,nrL])|((first|((with_reducible first|apply WO_gT|apply WO_gF|apply WD_gT|apply WD_gF);exact rfl)|(with_reducible apply W_cond));(simp only [↓pb,qbx,tb17,hg,e15,k2,hEg,irN,nrA,nrM,nrE,reduceIte,reduceCtorEq,nrL];with_reducible exact rfl);all_goals (intro hc;(first|exact hcX hc|try simp only [hcs] at hc);try ((with_reducible first|apply woI|apply wdI);simp only [↓pb,↓pd,qdx,tb17,hg,e15,k2,hc,hEg,irN,nrA,nrM,nrE,reduceIte,reduceCtorEq,nrL])))|(with_reducible first|refine W_seq ?_|refine W_block ?_|refine W_skip ?_|refine W_ret ?_|refine W_exit ?_|apply blockK_exit)|((with_reducible apply blockK_pass);(focus decide))|fail)
  have hw:IntKind.i64.wrap (i1 - 1)=i1 - 1:=wrap64 (by omega) (by omega)
  obtain ⟨n2,rfl⟩:∃ n2,n1=n2 + 1:=⟨n1 - 1,by omega⟩
  refine ⟨(n2,(mkSpo x1).2,l1 ++ [(mkSpo x1).1]),Nat.lt_succ_self _,(by exact frA),i1 - 1,.slice (some ⟨h1.n + 1,0,none⟩) (l1.length + 1) (l1.length + 1),some (gg.getD (h1.n + 1)),by simp only [↓pb,qbx,tb17,hg,hEg,irN,nrA,nrM,nrE,reduceIte,reduceCtorEq,nrL];rw [hw],by dsimp only;omega,by omega,by simp (disch:=first|exact dA|fail) only [qcx,tb17,hg,hEg,irN,nrA,nrM,nrE,reduceIte,reduceCtorEq,nrL];rfl,by simp (disch:=first|exact dA|fail) only [qcx,tb17,hg,hEg,irN,nrA,nrM,nrE,reduceIte,reduceCtorEq,nrL], ?_,gd_all hgd1,.inr (by show H.n + 1 < h1.n + 1;omega), ?_, ?_⟩
  ·dsimp only
   rw [List.flatMap_append,List.flatMap_singleton,List.length_append]
   exact GG.fr (N:=h1.n + 2) (X:=[b,H.n + 1]) (by exact frA) (fun x hx=>by cases hx;exact hgd2) (by show h1.n + 1∉[b,H.n + 1];exact nxA)
  ·dsimp only
   rw [List.length_append,List.length_singleton];omega
  ·rw [g5];rfl
 ·have e0:n1=0:=by omega
  subst e0
  repeat' (first|((with_reducible refine hK _ _ fun e2 hEn=>?_);clear hK K;simp only [lv17,forallC,forallL,and_true] at hEn;(try simp only [↓pb,qbx,tb17,hg,e15,r2,k1,k2,hEg,irN,nrA,nrM,nrE,reduceIte,reduceCtorEq,nrL] at hEn);clear hEg;(try clear eg);have hEg:=hEn;clear hEn;rename Env=>eg)|((first|((with_reducible first|apply oV_intro|apply oH_intro|apply oB_intro);(simp (disch:=first|exact dA|fail) only [qcx,tb17,hg,e15,r2,k1,k2,hEg,irN,nrA,nrM,nrE,reduceIte,reduceCtorEq,nrL];with_reducible exact rfl))|((with_reducible first|apply oblA_and|apply oblR_and|apply oblO_and);(focus exact obA))|((with_reducible apply WO_callE);(simp only [↓pb,qbx,tb17,hg,e15,r2,k1,k2,hEg,irN,nrA,nrM,nrE,reduceIte,reduceCtorEq,nrL];(exact f31 _ _ _ _ _ (by simp (disch:=first|exact dA|fail) only [qcx,tb17,hg,e15,r2,k1,k2,hEg,irN,nrA,nrM,nrE,reduceIte,reduceCtorEq,nrL];rfl))))|(with_reducible first|refine W_regionF lv17 fun K hK=>?_|refine W_drawnF lv17 fun K hK=>?_));try simp only [↓pb,↓pd,qdx,tb17,hg,e15,r2,k1,k2,hEg,irN,nrA,nrM,nrE,reduceIte,reduceCtorEq,nrL])|((first|((with_reducible first|apply WO_gT|apply WO_gF|apply WD_gT|apply WD_gF);exact rfl)|(with_reducible apply W_cond));(simp only [↓pb,qbx,tb17,hg,e15,r2,k1,k2,hEg,irN,nrA,nrM,nrE,reduceIte,reduceCtorEq,nrL];with_reducible exact rfl);all_goals (intro hc;(first|exact hcX hc|try simp only [hcs] at hc);try ((with_reducible first|apply woI|apply wdI);simp only [↓pb,↓pd,qdx,tb17,hg,e15,r2,k1,k2,hc,hEg,irN,nrA,nrM,nrE,reduceIte,reduceCtorEq,nrL])))|(with_reducible first|refine W_seq ?_|refine W_block ?_|refine W_skip ?_|refine W_ret ?_|refine W_exit ?_|apply blockK_exit)|((with_reducible apply blockK_pass);(focus decide))|fail)
  have ga:(goSpo (btw x 1 spots).toNat (btwS x 1 spots) [])=(l1,x1):=g5
  have w2:=btw_spec (x:=x1) (lo:=1) (hi:=sorts) (by omega) (by omega) (by omega)
  have hx1:=hE1
  refine W_while [0,3,4,5,12,14] (by kernel_rfl) (H.n) [b,H.n + 1] [b] (fun s e h=>∃ (i:Int) (vb:Value) (gb:Option Nat),e 16=iv i∧i.toNat=s.1∧i≤100∧h.get b=.cells [uv s.2.1] 85 .ex∧h.get (H.n + 1)=.cells [va,vb,.slice none 0 0] 26 .ex∧SR h 3 l1.length va (l1.flatMap eSpo)∧GS h 4 s.2.2.length vb (s.2.2.flatMap eSrt) gb∧(∀ x,gb=some x→H.n≤x)∧(vb=.slice none 0 0∨H.n + 1 < vblk vb)∧s.2.2.length + s.1≤100∧goSrt mass hours (btw x1 1 sorts).toNat (btwS x1 1 sorts) []=goSrt mass hours s.1 s.2.1 s.2.2) (fun s=>s.1) (((btw x1 1 sorts).toNat,btwS x1 1 sorts,([]:List Srt))) (by focus exact topA) (H0:=H) (by focus exact frA) (by intro b hb hlt;simp at hb ⊢;try omega) ?_ ?_
  rotate_left
  intro s2 e2 h2 hE2 hF2 hF02 hTh2 hJ2
  simp only [forallC,forallL,and_true] at hE2
  try simp only [↓pb,qbx,tb17,hg,hx1,hEg,irN,nrA,nrM,nrE,reduceIte,reduceCtorEq,nrL] at hE2
  have hn12:=hF2.n;have hn02:=hF02.n;try simp only [upd_n,jn_n] at hn12
  replace hEg:=hE2
  rotate_left
  ·refine ⟨btw x1 1 sorts,.slice none 0 0,none,by simp only [↓pb,qbx,tb17,hg,hEg,irN,nrA,nrM,nrE,reduceIte,reduceCtorEq,nrL],rfl,by omega,by simp (disch:=first|exact dA|fail) only [qcx,tb17,hg,hEg,irN,nrA,nrM,nrE,reduceIte,reduceCtorEq,nrL],by simp (disch:=first|exact dA|fail) only [qcx,tb17,hg,hEg,irN,nrA,nrM,nrE,reduceIte,reduceCtorEq,nrL];exact k2, ?_,.nil rfl rfl rfl,by simp,.inl rfl, ?_,rfl⟩
   ·have:=G.fr' (N:=h1.n) (X:=[b]) (B:=fh h1 b (btwS x1 1 sorts)) (by exact frA) (fun x hx=>by subst hx;exact G.grp_lt) (by rcases g3 with g3|g3;exact .inl g3;exact .inr nxA)
    exact this.sr
   ·show 0 + (btw x1 1 sorts).toNat≤100
    omega
  have hskA:l1.length=0∨SK h1 3 va:=G.sk
  have hltA:l1.length=0∨vblk va < h1.n:=G.sr.lt
  clear G g2 k1 k2 r2
  obtain ⟨n2,x2,l2⟩:=s2
  obtain ⟨i2,vb,gb,e16,ei2,ilt2,k1,k2,Sa,G,g2,g6,g7,g8⟩:=hJ2
  dsimp only at ei2 k1 G g7 g8
  have ho2:=G.one
  have hoa:=Sa.one
  have r2:h2.rd (H.n + 1)=some [va,vb,.slice none 0 0]:=by rw [rd_def,k2];rfl
  by_cases hj2:0 < i2
  ·have e20:w64 (mass.tdiv 20)=IntKind.i64.wrap (mass.tdiv 20):=rfl
   repeat' (first|((with_reducible refine hK _ _ fun e2 hEn=>?_);clear hK K;simp only [lv17,forallC,forallL,and_true] at hEn;(try simp only [↓pb,qbx,tb17,hg,e16,r2,k1,k2,eSrt,hEg,irN,nrA,nrM,nrE,reduceIte,reduceCtorEq,nrL] at hEn);clear hEg;(try clear eg);have hEg:=hEn;clear hEn;rename Env=>eg)|((first|((with_reducible first|apply oV_intro|apply oH_intro|apply oB_intro);(simp (disch:=first|exact dA|fail) only [qcx,tb17,hg,e16,r2,k1,k2,eSrt,hEg,irN,nrA,nrM,nrE,reduceIte,reduceCtorEq,nrL];with_reducible exact rfl))|((with_reducible first|apply oblA_and|apply oblR_and|apply oblO_and);(focus exact obA))|((with_reducible apply WO_callE);(simp only [↓pb,qbx,tb17,hg,e16,r2,k1,k2,eSrt,hEg,irN,nrA,nrM,nrE,reduceIte,reduceCtorEq,nrL];(first|exact f20 _ _ _ _ (by simp (disch:=first|exact dA|fail) only [qcx,tb17,hg,e16,r2,k1,k2,eSrt,hEg,irN,nrA,nrM,nrE,reduceIte,reduceCtorEq,nrL];rfl) (by omega)|exact f20 _ _ _ _ (by simp (disch:=first|exact dA|fail) only [qcx,tb17,hg,e16,r2,k1,k2,eSrt,hEg,irN,nrA,nrM,nrE,reduceIte,reduceCtorEq,nrL];rfl) (w64_lt _)|exact f31 _ _ _ _ _ (by simp (disch:=first|exact dA|fail) only [qcx,tb17,hg,e16,r2,k1,k2,eSrt,hEg,irN,nrA,nrM,nrE,reduceIte,reduceCtorEq,nrL];rfl)|exact f18 _ _ _ [_,_] _ (by simp (disch:=first|exact dA|fail) only [qcx,tb17,hg,e16,r2,k1,k2,eSrt,hEg,irN,nrA,nrM,nrE,reduceIte,reduceCtorEq,nrL];rfl) (SR.new rfl) (.inl (by simp only [vblk];omega)) (by simp)|exact f18 _ _ _ [_,_,_,_] _ (by simp (disch:=first|exact dA|fail) only [qcx,tb17,hg,e16,r2,k1,k2,eSrt,hEg,irN,nrA,nrM,nrE,reduceIte,reduceCtorEq,nrL];rfl) (SR.new rfl) (.inl (by simp only [vblk];omega)) (by simp))))|(with_reducible first|refine W_regionF lv17 fun K hK=>?_|refine W_drawnF lv17 fun K hK=>?_));try simp only [↓pb,↓pd,qdx,tb17,hg,e16,r2,k1,k2,eSrt,hEg,irN,nrA,nrM,nrE,reduceIte,reduceCtorEq,nrL])|((first|((with_reducible first|apply WO_gT|apply WO_gF|apply WD_gT|apply WD_gF);exact rfl)|(with_reducible apply W_cond));(simp only [↓pb,qbx,tb17,hg,e16,r2,k1,k2,eSrt,hEg,irN,nrA,nrM,nrE,reduceIte,reduceCtorEq,nrL];with_reducible exact rfl);all_goals (intro hc;(first|exact hcX hc|try simp only [hcs] at hc);try ((with_reducible first|apply woI|apply wdI);simp only [↓pb,↓pd,qdx,tb17,hg,e16,r2,k1,k2,eSrt,hc,hEg,irN,nrA,nrM,nrE,reduceIte,reduceCtorEq,nrL])))|(with_reducible first|refine W_seq ?_|refine W_block ?_|refine W_skip ?_|refine W_ret ?_|refine W_exit ?_|apply blockK_exit)|((with_reducible apply blockK_pass);(focus decide))|fail)
   have hvb:vb=.slice none 0 0∨vblk vb∉[b]:=by
    rcases g6 with g6|g6
    ·exact .inl g6
    ·exact .inr nxA
   refine pu23 (n:=l2.length) (m:=1) (c:=l2.flatMap eSrt) (g:=gb) ?b1 (SR.new rfl) (by omega) (by omega) (by omega) ?b3 fun GG=>?b4
   case b1 =>
    refine GS.ex ?_
    refine G.fr' (N:=h2.n) (X:=[b]) ?_ (fun x hx=>by subst hx;exact G.grp_lt) hvb
    exact frA
   case b3 =>
    exact topA
   have hgd2:=GG.grp_lt
   simp only [upd_n,jn_n,nb] at hgd2
   simp only [upd_n,jn_n,nb] at GG
   simp only [↓pb,↓pd,qdx,tb17,hg,e16,k2,hEg,irN,nrA,nrM,nrE,reduceIte,reduceCtorEq,nrL]
   repeat' (first|((with_reducible refine hK _ _ fun e2 hEn=>?_);clear hK K;simp only [lv17,forallC,forallL,and_true] at hEn;(try simp only [↓pb,qbx,tb17,hg,e16,k2,hEg,irN,nrA,nrM,nrE,reduceIte,reduceCtorEq,nrL] at hEn);clear hEg;(try clear eg);have hEg:=hEn;clear hEn;rename Env=>eg)|((first|((with_reducible first|apply oV_intro|apply oH_intro|apply oB_intro);(simp (disch:=first|exact dA|fail) only [qcx,tb17,hg,e16,k2,hEg,irN,nrA,nrM,nrE,reduceIte,reduceCtorEq,nrL];with_reducible exact rfl))|((with_reducible first|apply oblA_and|apply oblR_and|apply oblO_and);(focus exact obA))|(with_reducible first|refine W_regionF lv17 fun K hK=>?_|refine W_drawnF lv17 fun K hK=>?_));try simp only [↓pb,↓pd,qdx,tb17,hg,e16,k2,hEg,irN,nrA,nrM,nrE,reduceIte,reduceCtorEq,nrL])|((first|((with_reducible first|apply WO_gT|apply WO_gF|apply WD_gT|apply WD_gF);exact rfl)|(with_reducible apply W_cond));(simp only [↓pb,qbx,tb17,hg,e16,k2,hEg,irN,nrA,nrM,nrE,reduceIte,reduceCtorEq,nrL];with_reducible exact rfl);all_goals (intro hc;(first|exact hcX hc|try simp only [hcs] at hc);try ((with_reducible first|apply woI|apply wdI);simp only [↓pb,↓pd,qdx,tb17,hg,e16,k2,hc,hEg,irN,nrA,nrM,nrE,reduceIte,reduceCtorEq,nrL])))|(with_reducible first|refine W_seq ?_|refine W_block ?_|refine W_skip ?_|refine W_ret ?_|refine W_exit ?_|apply blockK_exit)|((with_reducible apply blockK_pass);(focus decide))|fail)
   have hgd1:=gd_ge g2 (n:=h2.n + 5) (by omega)
   have hw:IntKind.i64.wrap (i2 - 1)=i2 - 1:=wrap64 (by omega) (by omega)
   obtain ⟨n3,rfl⟩:∃ n3,n2=n3 + 1:=⟨n2 - 1,by omega⟩
   refine ⟨(n3,(mkSrt mass hours x2).2,l2 ++ [(mkSrt mass hours x2).1]),Nat.lt_succ_self _,(by exact frA),i2 - 1,.slice (some ⟨h2.n + 5,0,none⟩) (l2.length + 1) (l2.length + 1),some (gb.getD (h2.n + 5)),by simp only [↓pb,qbx,tb17,hg,hEg,irN,nrA,nrM,nrE,reduceIte,reduceCtorEq,nrL];rw [hw],by dsimp only;omega,by omega,by simp (disch:=first|exact dA|fail) only [qcx,tb17,hg,hEg,irN,nrA,nrM,nrE,reduceIte,reduceCtorEq,nrL];rfl,by simp (disch:=first|exact dA|fail) only [qcx,tb17,hg,hEg,irN,nrA,nrM,nrE,reduceIte,reduceCtorEq,nrL], ?_, ?_,gd_all hgd1,.inr (by show H.n + 1 < h2.n + 5;omega), ?_, ?_⟩
   ·exact Sa.fr (N:=H.n) (X:=[b,H.n + 1]) (by exact frA) (by rcases g3 with rfl|g3;(left;exact (Sa.shape.elim And.right fun ⟨_,_,_,h,_⟩=>by cases h));(right;exact nxA))
   ·dsimp only
    rw [List.flatMap_append,List.flatMap_singleton,List.length_append]
    exact GG.fr (N:=h2.n + 6) (X:=[b,H.n + 1]) (by exact frA) (fun x hx=>by cases hx;exact hgd2) (by show h2.n + 5∉[b,H.n + 1];exact nxA)
   ·dsimp only
    rw [List.length_append,List.length_singleton];omega
   ·rw [g8];rfl
  ·have e0:n2=0:=by omega
   subst e0
   have gb2:goSrt mass hours (btw x1 1 sorts).toNat (btwS x1 1 sorts) []=(l2,x2):=g8
   repeat' (first|((with_reducible refine hK _ _ fun e2 hEn=>?_);clear hK K;simp only [lv17,forallC,forallL,and_true] at hEn;(try simp only [↓pb,qbx,tb17,hg,e16,r2,k1,k2,lns22 Sa,hEg,irN,nrA,nrM,nrE,reduceIte,reduceCtorEq,nrL] at hEn);clear hEg;(try clear eg);have hEg:=hEn;clear hEn;rename Env=>eg)|((first|((with_reducible first|apply oV_intro|apply oH_intro|apply oB_intro);(simp (disch:=first|exact dA|fail) only [qcx,tb17,hg,e16,r2,k1,k2,lns22 Sa,hEg,irN,nrA,nrM,nrE,reduceIte,reduceCtorEq,nrL];with_reducible exact rfl))|((with_reducible first|apply oblA_and|apply oblR_and|apply oblO_and);(focus exact obA))|((with_reducible apply WO_callE);(simp only [↓pb,qbx,tb17,hg,e16,r2,k1,k2,lns22 Sa,hEg,irN,nrA,nrM,nrE,reduceIte,reduceCtorEq,nrL];(exact f20 _ _ _ _ (by simp (disch:=first|exact dA|fail) only [qcx,tb17,hg,e16,r2,k1,k2,lns22 Sa,hEg,irN,nrA,nrM,nrE,reduceIte,reduceCtorEq,nrL];rfl) (w64_lt _))))|(with_reducible first|refine W_regionF lv17 fun K hK=>?_|refine W_drawnF lv17 fun K hK=>?_));try simp only [↓pb,↓pd,qdx,tb17,hg,e16,r2,k1,k2,lns22 Sa,hEg,irN,nrA,nrM,nrE,reduceIte,reduceCtorEq,nrL])|((first|((with_reducible first|apply WO_gT|apply WO_gF|apply WD_gT|apply WD_gF);exact rfl)|(with_reducible apply W_cond));(simp only [↓pb,qbx,tb17,hg,e16,r2,k1,k2,lns22 Sa,hEg,irN,nrA,nrM,nrE,reduceIte,reduceCtorEq,nrL];with_reducible exact rfl);all_goals (intro hc;(first|exact hcX hc|try simp only [hcs] at hc);try ((with_reducible first|apply woI|apply wdI);simp only [↓pb,↓pd,qdx,tb17,hg,e16,r2,k1,k2,lns22 Sa,hc,hEg,irN,nrA,nrM,nrE,reduceIte,reduceCtorEq,nrL])))|(with_reducible first|refine W_seq ?_|refine W_block ?_|refine W_skip ?_|refine W_ret ?_|refine W_exit ?_|apply blockK_exit)|((with_reducible apply blockK_pass);(focus decide))|fail)
   have hL1:1≤l1.length:=by have:=goSpo_len (btw x 1 spots).toNat (btwS x 1 spots) [];rw [ga] at this;simp at this;omega
   have hL2:1≤l2.length:=by have:=goSrt_len (m:=mass) (h:=hours) (btw x1 1 sorts).toNat (btwS x1 1 sorts) [];rw [gb2] at this;simp at this;omega
   have ew:IntKind.i64.wrap (acts + 1)=acts + 1:=wrap64 (by omega) (by omega)
   have w3:=below_spec x2 (IntKind.i64.wrap (acts + 1)) (w64_lt _)
   rw [ew] at w3
   have w4:=w3.2.1 (by omega)
   have hx2:=hE2
   have hva:l1.length=0∨vblk va∉[b]:=by rcases g3 with rfl|g3;(left;exact (Sa.shape.elim And.right fun ⟨_,_,_,h,_⟩=>by cases h));(right;exact nxA)
   have hvb:vb=.slice none 0 0∨vblk vb∉[b]:=by
    rcases g6 with g6|g6
    ·exact .inl g6
    ·exact .inr nxA
   have Sb:SR (fh (h2.upd (h2.n + 1) h2.n (.cells (List.replicate l1.length (iv 0)) 3 .ex)) b (belowS x2 (IntKind.i64.wrap (acts + 1)))) 4 l2.length vb (l2.flatMap eSrt):=(G.fr' (N:=h2.n) (X:=[b]) (by exact frA) (fun x hx=>by subst hx;exact G.grp_lt) hvb).sr
   refine W_while [0,4,5,12,14,17] (by kernel_rfl) (H.n) [b,H.n + 1,h2.n] [b] (fun s e h=>∃ (i:Int) (vc vt:Value) (gc gt:Option Nat),e 20=iv i∧i.toNat=s.1∧i≤1001∧e 18=iv s.2.hour∧e 19=vt∧h.get b=.cells [uv s.2.x] 85 .ex∧h.get (H.n + 1)=.cells [va,vb,vc] 26 .ex∧h.get h2.n=.cells (ints s.2.lies) 3 .ex∧s.2.lies.length=l1.length∧SR h 3 l1.length va (l1.flatMap eSpo)∧SR h 4 l2.length vb (l2.flatMap eSrt)∧GS h 6 s.2.acts.length vc (s.2.acts.flatMap eAct) gc∧(∀ x,gc=some x→H.n≤x)∧(vc=.slice none 0 0∨h2.n < vblk vc)∧GS h 1 s.2.truth.length vt (ints s.2.truth) gt∧(∀ x,gt=some x→H.n≤x)∧(vt=.slice none 0 0∨h2.n < vblk vt)∧(∀ y,gc=some y→gt≠some y)∧s.2.acts.length + s.1≤1001∧s.2.truth.length=s.2.acts.length∧Gst.run l1.length l2.length mass hours (below x2 (IntKind.i64.wrap (acts + 1))).toNat ⟨belowS x2 (IntKind.i64.wrap (acts + 1)),0,List.replicate l1.length 0,[],[]⟩=Gst.run l1.length l2.length mass hours s.1 s.2) (fun s=>s.1) (((below x2 (IntKind.i64.wrap (acts + 1))).toNat,(⟨belowS x2 (IntKind.i64.wrap (acts + 1)),0,List.replicate l1.length 0,[],[]⟩:Gst))) (by focus exact topA) (H0:=H) (by focus exact frA) (by intro b hb hlt;simp at hb ⊢;try omega) ?_ ?_
   rotate_left
   intro s3 e3 h3 hE3 hF3 hF03 hTh3 hJ3
   simp only [forallC,forallL,and_true] at hE3
   try simp only [↓pb,qbx,tb17,hg,hx2,hEg,irN,nrA,nrM,nrE,reduceIte,reduceCtorEq,nrL] at hE3
   have hn13:=hF3.n;have hn03:=hF03.n;try simp only [upd_n,jn_n] at hn13
   replace hEg:=hE3
   rotate_left
   ·have w5:0≤below x2 (IntKind.i64.wrap (acts + 1))∧below x2 (IntKind.i64.wrap (acts + 1)) < acts + 1:=by rw [ew];exact ⟨w3.1,w4⟩
    refine ⟨below x2 (IntKind.i64.wrap (acts + 1)),.slice none 0 0,.slice none 0 0,none,none,by simp only [↓pb,qbx,tb17,hg,hEg,irN,nrA,nrM,nrE,reduceIte,reduceCtorEq,nrL],rfl,by omega,by simp only [↓pb,qbx,tb17,hg,hEg,irN,nrA,nrM,nrE,reduceIte,reduceCtorEq,nrL],by simp only [↓pb,qbx,tb17,hg,hEg,irN,nrA,nrM,nrE,reduceIte,reduceCtorEq,nrL],by simp (disch:=first|exact dA|fail) only [qcx,tb17,hg,hEg,irN,nrA,nrM,nrE,reduceIte,reduceCtorEq,nrL],by simp (disch:=first|exact dA|fail) only [qcx,tb17,hg,hEg,irN,nrA,nrM,nrE,reduceIte,reduceCtorEq,nrL];exact k2, ?_,by simp, ?_,Sb,.nil rfl rfl rfl,by simp,.inl rfl,.nil rfl rfl rfl,by simp,.inl rfl,by simp, ?_,rfl,rfl⟩
    ·simp (disch:=first|exact dA|fail) only [qcx,tb17,hg,hEg,irN,nrA,nrM,nrE,reduceIte,reduceCtorEq,nrL]
     simp [ints]
    ·exact Sa.fr (N:=H.n) (X:=[b]) (by exact frA) hva
    ·show 0 + (below x2 (IntKind.i64.wrap (acts + 1))).toNat≤1001
     omega
   have hva4:l1.length=0∨vblk va∉[b,H.n + 1,h2.n]:=by
    rcases g3 with rfl|g3
    ·left;exact (Sa.shape.elim And.right fun ⟨_,_,_,h,_⟩=>by cases h)
    ·have hlt:=Sa.lt
     rcases hlt with hlt|hlt
     ·exact .inl hlt
     ·right;exact nxA
   have hvb4:l2.length=0∨vblk vb∉[b,H.n + 1,h2.n]:=by
    rcases g6 with rfl|g6
    ·left;exact (G.sr.shape.elim And.right fun ⟨_,_,_,h,_⟩=>by cases h)
    ·have hlt:=G.sr.lt
     rcases hlt with hlt|hlt
     ·exact .inl hlt
     ·right;exact nxA
   obtain ⟨n3,st⟩:=s3
   obtain ⟨i3,vc,vt,gc,gt,e20,ei3,ilt3,e18,e19,m1,m2,m3,m4,Sa3,Sb3,Gc,c1,c2,Gt,t1,t2,ne,bd,le,run⟩:=hJ3
   dsimp only at ei3 e18 m1 m3 m4 Gc Gt bd le run
   have hoa3:=Sa3.one;have hob3:=Sb3.one;have hoc3:=Gc.one;have hot3:=Gt.one
   have r2:h3.rd (H.n + 1)=some [va,vb,vc]:=by rw [rd_def,m2];rfl
   have r3:h3.rd h2.n=some (ints st.lies):=by rw [rd_def,m3];rfl
   by_cases hj3:0 < i3
   ·obtain ⟨n4,rfl⟩:∃ n4,n3=n4 + 1:=⟨n3 - 1,by omega⟩
    rw [Gst.run] at run
    have hvc:vc=.slice none 0 0∨vblk vc∉[b,h2.n]:=by
     rcases c2 with c2|c2
     ·exact .inl c2
     ·exact .inr nxA
    have hvt:vt=.slice none 0 0∨vblk vt∉[b,h2.n]:=by
     rcases t2 with t2|t2
     ·exact .inl t2
     ·exact .inr nxA
    have hw:IntKind.i64.wrap (i3 - 1)=i3 - 1:=wrap64 (by omega) (by omega)
    have hva3:l1.length=0∨vblk va∉[b,H.n + 1,h2.n]:=hva4
    have hvb3:l2.length=0∨vblk vb∉[b,H.n + 1,h2.n]:=hvb4
    have gne:∀ k,h3.n≤k→gt≠some (gc.getD k):=by
     intro k hk hh
     cases gc with
     | none=>subst hh;have:=Gt.grp_lt;simp at this;omega
     | some y=>exact ne y rfl hh
    have sp:=below_spec (eitherS (belowS st.x 4) [0,1,below st.x 4]) (l1.length:Int) (by omega)
    have sp1:=sp.2.1 (by omega)
    obtain ⟨p,ep⟩:∃ p,p=below (eitherS (belowS st.x 4) [0,1,below st.x 4]) ↑l1.length:=⟨_,rfl⟩
    have li:(ints st.lies)[p.toNat * 1]? = some (iv (st.lies.getD p.toNat 0)):=by
     rw [Nat.mul_one];exact ints_at (by omega)
    rw [ep] at li
    repeat' (first|((with_reducible refine hK _ _ fun e2 hEn=>?_);clear hK K;simp only [lv17,forallC,forallL,and_true] at hEn;(try simp only [↓pb,qbx,tb17,hg,e20,e18,e19,m1,m2,r2,r3,m3,lns22 Sa3,lns23 Sb3,Sa3.mapB,Sb3.mapB,stG_3_2,ia31 sp.1 sp1,li,stG_int1,hEg,irN,nrA,nrM,nrE,reduceIte,reduceCtorEq,nrL] at hEn);clear hEg;(try clear eg);have hEg:=hEn;clear hEn;rename Env=>eg)|((first|((with_reducible first|apply oV_intro|apply oH_intro|apply oB_intro);(simp (disch:=first|exact dA|fail) only [qcx,tb17,hg,e20,e18,e19,m1,m2,r2,r3,m3,lns22 Sa3,lns23 Sb3,Sa3.mapB,Sb3.mapB,stG_3_2,ia31 sp.1 sp1,li,stG_int1,hEg,irN,nrA,nrM,nrE,reduceIte,reduceCtorEq,nrL];with_reducible exact rfl))|((with_reducible first|apply oblA_and|apply oblR_and|apply oblO_and);(focus exact obA))|((with_reducible apply WO_callE);(simp only [↓pb,qbx,tb17,hg,e20,e18,e19,m1,m2,r2,r3,m3,lns22 Sa3,lns23 Sb3,Sa3.mapB,Sb3.mapB,stG_3_2,ia31 sp.1 sp1,li,stG_int1,hEg,irN,nrA,nrM,nrE,reduceIte,reduceCtorEq,nrL];(first|exact f20 _ _ _ _ (by simp (disch:=first|exact dA|fail) only [qcx,tb17,hg,e20,e18,e19,m1,m2,r2,r3,m3,lns22 Sa3,lns23 Sb3,Sa3.mapB,Sb3.mapB,stG_3_2,ia31 sp.1 sp1,li,stG_int1,hEg,irN,nrA,nrM,nrE,reduceIte,reduceCtorEq,nrL];rfl) (by omega)|exact f20 _ _ _ _ (by simp (disch:=first|exact dA|fail) only [qcx,tb17,hg,e20,e18,e19,m1,m2,r2,r3,m3,lns22 Sa3,lns23 Sb3,Sa3.mapB,Sb3.mapB,stG_3_2,ia31 sp.1 sp1,li,stG_int1,hEg,irN,nrA,nrM,nrE,reduceIte,reduceCtorEq,nrL];rfl) (mx_lt _)|exact f31 _ _ _ _ _ (by simp (disch:=first|exact dA|fail) only [qcx,tb17,hg,e20,e18,e19,m1,m2,r2,r3,m3,lns22 Sa3,lns23 Sb3,Sa3.mapB,Sb3.mapB,stG_3_2,ia31 sp.1 sp1,li,stG_int1,hEg,irN,nrA,nrM,nrE,reduceIte,reduceCtorEq,nrL];rfl)|exact f18 _ _ _ [_,_] _ (by simp (disch:=first|exact dA|fail) only [qcx,tb17,hg,e20,e18,e19,m1,m2,r2,r3,m3,lns22 Sa3,lns23 Sb3,Sa3.mapB,Sb3.mapB,stG_3_2,ia31 sp.1 sp1,li,stG_int1,hEg,irN,nrA,nrM,nrE,reduceIte,reduceCtorEq,nrL];rfl) (SR.new rfl) (.inl (by simp only [vblk];omega)) (by simp)|exact f18 _ _ _ [_,_,_] _ (by simp (disch:=first|exact dA|fail) only [qcx,tb17,hg,e20,e18,e19,m1,m2,r2,r3,m3,lns22 Sa3,lns23 Sb3,Sa3.mapB,Sb3.mapB,stG_3_2,ia31 sp.1 sp1,li,stG_int1,hEg,irN,nrA,nrM,nrE,reduceIte,reduceCtorEq,nrL];rfl) (SR.new rfl) (.inl (by simp only [vblk];omega)) (by simp)|exact f41 _ _ _ _ _ (by simp (disch:=first|exact dA|fail) only [qcx,tb17,hg,e20,e18,e19,m1,m2,r2,r3,m3,lns22 Sa3,lns23 Sb3,Sa3.mapB,Sb3.mapB,stG_3_2,ia31 sp.1 sp1,li,stG_int1,hEg,irN,nrA,nrM,nrE,reduceIte,reduceCtorEq,nrL];rfl) (by omega))))|(with_reducible first|refine W_regionF lv17 fun K hK=>?_|refine W_drawnF lv17 fun K hK=>?_));try simp only [↓pb,↓pd,qdx,tb17,hg,e20,e18,e19,m1,m2,r2,r3,m3,lns22 Sa3,lns23 Sb3,Sa3.mapB,Sb3.mapB,stG_3_2,ia31 sp.1 sp1,li,stG_int1,hEg,irN,nrA,nrM,nrE,reduceIte,reduceCtorEq,nrL])|((first|((with_reducible first|apply WO_gT|apply WO_gF|apply WD_gT|apply WD_gF);exact rfl)|(with_reducible apply W_cond));(simp only [↓pb,qbx,tb17,hg,e20,e18,e19,m1,m2,r2,r3,m3,lns22 Sa3,lns23 Sb3,Sa3.mapB,Sb3.mapB,stG_3_2,ia31 sp.1 sp1,li,stG_int1,hEg,irN,nrA,nrM,nrE,reduceIte,reduceCtorEq,nrL];with_reducible exact rfl);all_goals (intro hc;(first|exact hcX hc|try simp only [hcs] at hc);try ((with_reducible first|apply woI|apply wdI);simp only [↓pb,↓pd,qdx,tb17,hg,e20,e18,e19,m1,m2,r2,r3,m3,lns22 Sa3,lns23 Sb3,Sa3.mapB,Sb3.mapB,stG_3_2,ia31 sp.1 sp1,li,stG_int1,hc,hEg,irN,nrA,nrM,nrE,reduceIte,reduceCtorEq,nrL])))|(with_reducible first|refine W_seq ?_|refine W_block ?_|refine W_skip ?_|refine W_ret ?_|refine W_exit ?_|apply blockK_exit)|((with_reducible apply blockK_pass);(focus decide))|fail)
    all_goals
     refine pu24 (n:=st.acts.length) (m:=1) (c:=st.acts.flatMap eAct) (g:=gc) ?_ (SR.new rfl) (by omega) (by omega) (by omega) ?_ fun GG=>?_
     ·refine GS.ex ?_
      refine Gc.fr' (N:=h3.n) (X:=[b,h2.n]) ?_ (fun x hx=>by subst hx;exact Gc.grp_lt) hvc
      exact frA
     ·exact topA
     have hgd2:=GG.grp_lt
     simp only [upd_n,jn_n,nb] at hgd2
     simp only [upd_n,jn_n,nb] at GG
     simp only [↓pb,↓pd,qdx,tb17,hg,m2,hEg,irN,nrA,nrM,nrE,reduceIte,reduceCtorEq,nrL]
     repeat' (first|((with_reducible refine hK _ _ fun e2 hEn=>?_);clear hK K;simp only [lv17,forallC,forallL,and_true] at hEn;(try simp only [↓pb,qbx,tb17,hg,m2,hEg,irN,nrA,nrM,nrE,reduceIte,reduceCtorEq,nrL] at hEn);clear hEg;(try clear eg);have hEg:=hEn;clear hEn;rename Env=>eg)|((first|((with_reducible first|apply oV_intro|apply oH_intro|apply oB_intro);(simp (disch:=first|exact dA|fail) only [qcx,tb17,hg,m2,hEg,irN,nrA,nrM,nrE,reduceIte,reduceCtorEq,nrL];with_reducible exact rfl))|((with_reducible first|apply oblA_and|apply oblR_and|apply oblO_and);(focus exact obA))|(with_reducible first|refine W_regionF lv17 fun K hK=>?_|refine W_drawnF lv17 fun K hK=>?_));try simp only [↓pb,↓pd,qdx,tb17,hg,m2,hEg,irN,nrA,nrM,nrE,reduceIte,reduceCtorEq,nrL])|((first|((with_reducible first|apply WO_gT|apply WO_gF|apply WD_gT|apply WD_gF);exact rfl)|(with_reducible apply W_cond));(simp only [↓pb,qbx,tb17,hg,m2,hEg,irN,nrA,nrM,nrE,reduceIte,reduceCtorEq,nrL];with_reducible exact rfl);all_goals (intro hc;(first|exact hcX hc|try simp only [hcs] at hc);try ((with_reducible first|apply woI|apply wdI);simp only [↓pb,↓pd,qdx,tb17,hg,m2,hc,hEg,irN,nrA,nrM,nrE,reduceIte,reduceCtorEq,nrL])))|(with_reducible first|refine W_seq ?_|refine W_block ?_|refine W_skip ?_|refine W_ret ?_|refine W_exit ?_|apply blockK_exit)|((with_reducible apply blockK_pass);(focus decide))|fail)
     refine pu31 (n:=st.truth.length) (m:=1) (c:=ints st.truth) (g:=gt) ?_ (SR.new rfl) (by omega) (by omega) (by omega) ?_ fun GT=>?_
     ·refine GS.ex (GS.upd_gr (GS.ex (Gt.fr' (N:=h3.n) (X:=[b,h2.n]) ?_ (fun x hx=>by subst hx;exact Gt.grp_lt) hvt)) ?_)
      ·exact frA
      ·exact gne _ (by omega)
     ·exact topA
     have hgd3:=GT.grp_lt
     simp only [upd_n,jn_n,nb] at hgd3
     simp only [upd_n,jn_n,nb] at GT
     have GC2:=fun c' T d T2 g' e l hne=>GS.upd_gr (d:=d) (T:=T2) (g':=g') (e:=e) (l:=l) (GS.ex (c':=c') (T:=T) GG) hne
     simp only [upd_n,jn_n,nb] at GC2
     simp only [↓pb,↓pd,qdx,tb17,hg,m2,hEg,irN,nrA,nrM,nrE,reduceIte,reduceCtorEq,nrL]
     repeat' (first|((with_reducible refine hK _ _ fun e2 hEn=>?_);clear hK K;simp only [lv17,forallC,forallL,and_true] at hEn;(try simp only [↓pb,qbx,tb17,hg,m2,hEg,irN,nrA,nrM,nrE,reduceIte,reduceCtorEq,nrL] at hEn);clear hEg;(try clear eg);have hEg:=hEn;clear hEn;rename Env=>eg)|((first|((with_reducible first|apply oV_intro|apply oH_intro|apply oB_intro);(simp (disch:=first|exact dA|fail) only [qcx,tb17,hg,m2,hEg,irN,nrA,nrM,nrE,reduceIte,reduceCtorEq,nrL];with_reducible exact rfl))|((with_reducible first|apply oblA_and|apply oblR_and|apply oblO_and);(focus exact obA))|(with_reducible first|refine W_regionF lv17 fun K hK=>?_|refine W_drawnF lv17 fun K hK=>?_));try simp only [↓pb,↓pd,qdx,tb17,hg,m2,hEg,irN,nrA,nrM,nrE,reduceIte,reduceCtorEq,nrL])|((first|((with_reducible first|apply WO_gT|apply WO_gF|apply WD_gT|apply WD_gF);exact rfl)|(with_reducible apply W_cond));(simp only [↓pb,qbx,tb17,hg,m2,hEg,irN,nrA,nrM,nrE,reduceIte,reduceCtorEq,nrL];with_reducible exact rfl);all_goals (intro hc;(first|exact hcX hc|try simp only [hcs] at hc);try ((with_reducible first|apply woI|apply wdI);simp only [↓pb,↓pd,qdx,tb17,hg,m2,hc,hEg,irN,nrA,nrM,nrE,reduceIte,reduceCtorEq,nrL])))|(with_reducible first|refine W_seq ?_|refine W_block ?_|refine W_skip ?_|refine W_ret ?_|refine W_exit ?_|apply blockK_exit)|((with_reducible apply blockK_pass);(focus decide))|fail)
    ·have hst:=Gst.step_take (spots:=l1.length) (sorts:=l2.length) (mass:=mass) (hours:=hours) (s:=st) (by assumption) (by assumption)
     dsimp only at hst
     rw [hst] at run
     have hgA1:=gd_ge c1 (n:=h3.n + 6) (by omega)
     have hgT1:=gd_ge t1 (n:=h3.n + 8) (by omega)
     have hgA:∀ x,some (gc.getD (h3.n + 6))=some x→H.n≤x:=gd_all (gd_ge c1 (n:=h3.n + 6) (by omega))
     have hgT:∀ x,some (gt.getD (h3.n + 8))=some x→H.n≤x:=gd_all (gd_ge t1 (n:=h3.n + 8) (by omega))
     have hne2:some (gc.getD (h3.n + 6))≠some (gt.getD (h3.n + 8)):=by
      intro hh
      cases gc with
      | none =>
       cases gt with
       | none=>simp at hh
       | some z=>have:=Gt.grp_lt;simp at hh;omega
      | some y =>
       cases gt with
       | none=>have:=Gc.grp_lt;simp at hh;omega
       | some z=>exact ne y rfl hh.symm
     refine ⟨(n4,_),Nat.lt_succ_self _,(by exact frA),i3 - 1,.slice (some ⟨h3.n + 6,0,none⟩) (st.acts.length + 1) (st.acts.length + 1),.slice (some ⟨h3.n + 8,0,none⟩) (st.truth.length + 1) (st.truth.length + 1),some (gc.getD (h3.n + 6)),some (gt.getD (h3.n + 8)),by simp only [↓pb,qbx,tb17,hg,hEg,irN,nrA,nrM,nrE,reduceIte,reduceCtorEq,nrL];rw [hw],
      by dsimp only;omega,by omega, ?_,(by simp only [↓pb,qbx,tb17,hg,hEg,irN,nrA,nrM,nrE,reduceIte,reduceCtorEq,nrL];done), ?_,(by simp (disch:=first|exact dA|fail) only [qcx,tb17,hg,hEg,irN,nrA,nrM,nrE,reduceIte,reduceCtorEq,nrL];done), ?_, ?_, ?_, ?_, ?_,hgA,.inr (by show h2.n < h3.n + 6;omega), ?_,hgT,.inr (by show h2.n < h3.n + 8;omega), ?_, ?_, ?_,run⟩
     ·simp only [↓pb,qbx,tb17,hg,hEg,irN,nrA,nrM,nrE,reduceIte,reduceCtorEq,nrL]
      rfl
     ·simp (disch:=first|exact dA|fail) only [qcx,tb17,hg,hEg,irN,nrA,nrM,nrE,reduceIte,reduceCtorEq,nrL]
      rfl
     ·simp (disch:=first|exact dA|fail) only [qcx,tb17,hg,hEg,irN,nrA,nrM,nrE,reduceIte,reduceCtorEq,nrL]
      rfl
     ·dsimp only
      rw [List.length_set]
      exact m4
     ·exact Sa3.fr (N:=H.n) (X:=[b,H.n + 1,h2.n]) (by exact frA) hva3
     ·exact Sb3.fr (N:=H.n) (X:=[b,H.n + 1,h2.n]) (by exact frA) hvb3
     ·dsimp only
      rw [List.flatMap_append,List.flatMap_singleton,List.length_append]
      exact (GC2 _ _ _ _ _ _ _ hne2).fr (N:=h3.n + 20) (X:=[b,H.n + 1]) (by exact frA) (fun x hx=>by cases hx;omega) (by show h3.n + 6∉[b,H.n + 1];exact nxA)
     ·dsimp only
      rw [ints_app,List.length_append]
      exact GT.fr (N:=h3.n + 20) (X:=[b,H.n + 1]) (by exact frA) (fun x hx=>by cases hx;omega) (by show h3.n + 8∉[b,H.n + 1];exact nxA)
     ·intro y hy
      rw [← hy]
      exact fun hh=>hne2 hh.symm
     ·dsimp only
      rw [List.length_append,List.length_singleton];omega
     ·dsimp only
      rw [List.length_append,List.length_append,le];rfl
    ·have hst:=Gst.step_tip1 (spots:=l1.length) (sorts:=l2.length) (mass:=mass) (hours:=hours) (s:=st) (by assumption) (by assumption)
     dsimp only at hst
     rw [hst] at run
     have hgA1:=gd_ge c1 (n:=h3.n + 5) (by omega)
     have hgT1:=gd_ge t1 (n:=h3.n + 7) (by omega)
     have hgA:∀ x,some (gc.getD (h3.n + 5))=some x→H.n≤x:=gd_all (gd_ge c1 (n:=h3.n + 5) (by omega))
     have hgT:∀ x,some (gt.getD (h3.n + 7))=some x→H.n≤x:=gd_all (gd_ge t1 (n:=h3.n + 7) (by omega))
     have hne2:some (gc.getD (h3.n + 5))≠some (gt.getD (h3.n + 7)):=by
      intro hh
      cases gc with
      | none =>
       cases gt with
       | none=>simp at hh
       | some z=>have:=Gt.grp_lt;simp at hh;omega
      | some y =>
       cases gt with
       | none=>have:=Gc.grp_lt;simp at hh;omega
       | some z=>exact ne y rfl hh.symm
     refine ⟨(n4,_),Nat.lt_succ_self _,(by exact frA),i3 - 1,.slice (some ⟨h3.n + 5,0,none⟩) (st.acts.length + 1) (st.acts.length + 1),.slice (some ⟨h3.n + 7,0,none⟩) (st.truth.length + 1) (st.truth.length + 1),some (gc.getD (h3.n + 5)),some (gt.getD (h3.n + 7)),by simp only [↓pb,qbx,tb17,hg,hEg,irN,nrA,nrM,nrE,reduceIte,reduceCtorEq,nrL];rw [hw],
      by dsimp only;omega,by omega, ?_,(by simp only [↓pb,qbx,tb17,hg,hEg,irN,nrA,nrM,nrE,reduceIte,reduceCtorEq,nrL];done), ?_,(by simp (disch:=first|exact dA|fail) only [qcx,tb17,hg,hEg,irN,nrA,nrM,nrE,reduceIte,reduceCtorEq,nrL];done), ?_, ?_, ?_, ?_, ?_,hgA,.inr (by show h2.n < h3.n + 5;omega), ?_,hgT,.inr (by show h2.n < h3.n + 7;omega), ?_, ?_, ?_,run⟩
     ·simp only [↓pb,qbx,tb17,hg,hEg,irN,nrA,nrM,nrE,reduceIte,reduceCtorEq,nrL]
      rfl
     ·simp (disch:=first|exact dA|fail) only [qcx,tb17,hg,hEg,irN,nrA,nrM,nrE,reduceIte,reduceCtorEq,nrL]
      rfl
     ·simp (disch:=first|exact dA|fail) only [qcx,tb17,hg,hEg,irN,nrA,nrM,nrE,reduceIte,reduceCtorEq,nrL]
      rfl
     ·dsimp only
      rw [List.length_set]
      exact m4
     ·exact Sa3.fr (N:=H.n) (X:=[b,H.n + 1,h2.n]) (by exact frA) hva3
     ·exact Sb3.fr (N:=H.n) (X:=[b,H.n + 1,h2.n]) (by exact frA) hvb3
     ·dsimp only
      rw [List.flatMap_append,List.flatMap_singleton,List.length_append]
      exact (GC2 _ _ _ _ _ _ _ hne2).fr (N:=h3.n + 20) (X:=[b,H.n + 1]) (by exact frA) (fun x hx=>by cases hx;omega) (by show h3.n + 5∉[b,H.n + 1];exact nxA)
     ·dsimp only
      rw [ints_app,List.length_append]
      exact GT.fr (N:=h3.n + 20) (X:=[b,H.n + 1]) (by exact frA) (fun x hx=>by cases hx;omega) (by show h3.n + 7∉[b,H.n + 1];exact nxA)
     ·intro y hy
      rw [← hy]
      exact fun hh=>hne2 hh.symm
     ·dsimp only
      rw [List.length_append,List.length_singleton];omega
     ·dsimp only
      rw [List.length_append,List.length_append,le];rfl
    ·have hst:=Gst.step_tip0 (spots:=l1.length) (sorts:=l2.length) (mass:=mass) (hours:=hours) (s:=st) (by assumption)
     dsimp only at hst
     rw [hst] at run
     have hgA1:=gd_ge c1 (n:=h3.n + 5) (by omega)
     have hgT1:=gd_ge t1 (n:=h3.n + 7) (by omega)
     have hgA:∀ x,some (gc.getD (h3.n + 5))=some x→H.n≤x:=gd_all (gd_ge c1 (n:=h3.n + 5) (by omega))
     have hgT:∀ x,some (gt.getD (h3.n + 7))=some x→H.n≤x:=gd_all (gd_ge t1 (n:=h3.n + 7) (by omega))
     have hne2:some (gc.getD (h3.n + 5))≠some (gt.getD (h3.n + 7)):=by
      intro hh
      cases gc with
      | none =>
       cases gt with
       | none=>simp at hh
       | some z=>have:=Gt.grp_lt;simp at hh;omega
      | some y =>
       cases gt with
       | none=>have:=Gc.grp_lt;simp at hh;omega
       | some z=>exact ne y rfl hh.symm
     refine ⟨(n4,_),Nat.lt_succ_self _,(by exact frA),i3 - 1,.slice (some ⟨h3.n + 5,0,none⟩) (st.acts.length + 1) (st.acts.length + 1),.slice (some ⟨h3.n + 7,0,none⟩) (st.truth.length + 1) (st.truth.length + 1),some (gc.getD (h3.n + 5)),some (gt.getD (h3.n + 7)),by simp only [↓pb,qbx,tb17,hg,hEg,irN,nrA,nrM,nrE,reduceIte,reduceCtorEq,nrL];rw [hw],
      by dsimp only;omega,by omega, ?_,(by simp only [↓pb,qbx,tb17,hg,hEg,irN,nrA,nrM,nrE,reduceIte,reduceCtorEq,nrL];done), ?_,(by simp (disch:=first|exact dA|fail) only [qcx,tb17,hg,hEg,irN,nrA,nrM,nrE,reduceIte,reduceCtorEq,nrL];done), ?_, ?_, ?_, ?_, ?_,hgA,.inr (by show h2.n < h3.n + 5;omega), ?_,hgT,.inr (by show h2.n < h3.n + 7;omega), ?_, ?_, ?_,run⟩
     ·simp only [↓pb,qbx,tb17,hg,hEg,irN,nrA,nrM,nrE,reduceIte,reduceCtorEq,nrL]
      rfl
     ·simp (disch:=first|exact dA|fail) only [qcx,tb17,hg,hEg,irN,nrA,nrM,nrE,reduceIte,reduceCtorEq,nrL]
      rfl
     ·simp (disch:=first|exact dA|fail) only [qcx,tb17,hg,hEg,irN,nrA,nrM,nrE,reduceIte,reduceCtorEq,nrL]
      rfl
     ·dsimp only
      rw [List.length_set]
      exact m4
     ·exact Sa3.fr (N:=H.n) (X:=[b,H.n + 1,h2.n]) (by exact frA) hva3
     ·exact Sb3.fr (N:=H.n) (X:=[b,H.n + 1,h2.n]) (by exact frA) hvb3
     ·dsimp only
      rw [List.flatMap_append,List.flatMap_singleton,List.length_append]
      exact (GC2 _ _ _ _ _ _ _ hne2).fr (N:=h3.n + 20) (X:=[b,H.n + 1]) (by exact frA) (fun x hx=>by cases hx;omega) (by show h3.n + 5∉[b,H.n + 1];exact nxA)
     ·dsimp only
      rw [ints_app,List.length_append]
      exact GT.fr (N:=h3.n + 20) (X:=[b,H.n + 1]) (by exact frA) (fun x hx=>by cases hx;omega) (by show h3.n + 7∉[b,H.n + 1];exact nxA)
     ·intro y hy
      rw [← hy]
      exact fun hh=>hne2 hh.symm
     ·dsimp only
      rw [List.length_append,List.length_singleton];omega
     ·dsimp only
      rw [List.length_append,List.length_append,le];rfl
   ·have e0:n3=0:=by omega
    subst e0
    have hgo:groundOf x spots sorts acts mass hours=⟨⟨l1,l2,st.acts⟩,st.truth,st.x⟩:=by
     unfold groundOf
     simp only [ga,gb2]
     have run:Gst.run l1.length l2.length mass hours (below x2 (w64 (acts + 1))).toNat ⟨belowS x2 (w64 (acts + 1)),0,List.replicate l1.length 0,[],[]⟩=st:=run
     rw [run]
    have k0:h1.get H.n=.cells [.slice none 0 0,.slice none 0 0,.slice none 0 0] 26 .ex:=by
     rw [hF1.old H.n (by simp only [↓pb,qbx,tb17,hg,hEg,irN,nrA,nrM,nrE,reduceIte,reduceCtorEq,nrL];omega) nxA]
     simp (disch:=first|exact dA|fail) only [qcx,tb17,hg,hEg,irN,nrA,nrM,nrE,reduceIte,reduceCtorEq,nrL]
    have k1:h2.get H.n=.cells [.slice none 0 0,.slice none 0 0,.slice none 0 0] 26 .ex:=by
     rw [hF2.old H.n (by simp only [↓pb,qbx,tb17,hg,hEg,irN,nrA,nrM,nrE,reduceIte,reduceCtorEq,nrL];omega) nxA]
     simp (disch:=first|exact dA|fail) only [qcx,tb17,hg,k0,hEg,irN,nrA,nrM,nrE,reduceIte,reduceCtorEq,nrL]
    have k2:h3.get H.n=.cells [.slice none 0 0,.slice none 0 0,.slice none 0 0] 26 .ex:=by
     rw [hF3.old H.n (by simp only [↓pb,qbx,tb17,hg,hEg,irN,nrA,nrM,nrE,reduceIte,reduceCtorEq,nrL];omega) nxA]
     simp (disch:=first|exact dA|fail) only [qcx,tb17,hg,k1,hEg,irN,nrA,nrM,nrE,reduceIte,reduceCtorEq,nrL]
    repeat' (first|((with_reducible refine hK _ _ fun e2 hEn=>?_);clear hK K;simp only [lv17,forallC,forallL,and_true] at hEn;(try simp only [↓pb,qbx,tb17,hg,e20,e19,m2,r2,k2,hEg,irN,nrA,nrM,nrE,reduceIte,reduceCtorEq,nrL] at hEn);clear hEg;(try clear eg);have hEg:=hEn;clear hEn;rename Env=>eg)|((first|((with_reducible first|apply oV_intro|apply oH_intro|apply oB_intro);(simp (disch:=first|exact dA|fail) only [qcx,tb17,hg,e20,e19,m2,r2,k2,hEg,irN,nrA,nrM,nrE,reduceIte,reduceCtorEq,nrL];with_reducible exact rfl))|((with_reducible first|apply oblA_and|apply oblR_and|apply oblO_and);(focus exact obA))|(with_reducible first|refine W_regionF lv17 fun K hK=>?_|refine W_drawnF lv17 fun K hK=>?_));try simp only [↓pb,↓pd,qdx,tb17,hg,e20,e19,m2,r2,k2,hEg,irN,nrA,nrM,nrE,reduceIte,reduceCtorEq,nrL])|((first|((with_reducible first|apply WO_gT|apply WO_gF|apply WD_gT|apply WD_gF);exact rfl)|(with_reducible apply W_cond));(simp only [↓pb,qbx,tb17,hg,e20,e19,m2,r2,k2,hEg,irN,nrA,nrM,nrE,reduceIte,reduceCtorEq,nrL];with_reducible exact rfl);all_goals (intro hc;(first|exact hcX hc|try simp only [hcs] at hc);try ((with_reducible first|apply woI|apply wdI);simp only [↓pb,↓pd,qdx,tb17,hg,e20,e19,m2,r2,k2,hc,hEg,irN,nrA,nrM,nrE,reduceIte,reduceCtorEq,nrL])))|(with_reducible first|refine W_seq ?_|refine W_block ?_|refine W_skip ?_|refine W_ret ?_|refine W_exit ?_|apply blockK_exit)|((with_reducible apply blockK_pass);(focus decide))|fail)
    refine ⟨by first|exact .inl rfl|exact .inr rfl, ?_⟩
    rw [ret2 Try.results17]
    simp only [↓pb,qbx,tb17,hg,rv_tmp,rv_cell,e19,m2,r2,k2,hEg,irN,nrA,nrM,nrE,reduceIte,reduceCtorEq,nrL]
    repeat ((with_reducible apply oV_intro);(simp (disch:=first|exact dA|fail) only [qcx,tb17,hg,e19,m2,r2,k2,hEg,irN,nrA,nrM,nrE,reduceIte,reduceCtorEq,nrL];exact rfl))
    rw [hgo]
    have F9:Fr h3.n [H.n] h3 (h3.upd h3.n H.n (AObj.cells [va,vb,vc] 26 Kd.ex)):=by exact frA
    have hcx:vc=.slice none 0 0∨vblk vc∉[H.n]:=by
     rcases c2 with c2|c2
     ·exact .inl c2
     ·exact .inr nxA
    have htx:vt=.slice none 0 0∨vblk vt∉[H.n]:=by
     rcases t2 with t2|t2
     ·exact .inl t2
     ·exact .inr nxA
    have hax:l1.length=0∨vblk va∉[H.n]:=by
     rcases g3 with rfl|g3
     ·left;exact (Sa3.shape.elim And.right fun ⟨_,_,_,h,_⟩=>by cases h)
     ·right;exact nxA
    have hbx:l2.length=0∨vblk vb∉[H.n]:=by
     rcases g6 with rfl|g6
     ·left;exact (Sb3.shape.elim And.right fun ⟨_,_,_,h,_⟩=>by cases h)
     ·right;exact nxA
    have Gc9:=Gc.fr' F9 (fun x hx=>by subst hx;exact Gc.grp_lt) hcx
    have Gt9:=Gt.fr' F9 (fun x hx=>by subst hx;exact Gt.grp_lt) htx
    have hk9:l1.length=0∨SK (h3.upd h3.n H.n (AObj.cells [va,vb,vc] 26 Kd.ex)) 3 va:=by
     rcases hskA with q|⟨d,T,k,q1,q2⟩
     ·exact .inl q
     ·rcases hltA with q|q
      ·exact .inl q
      ·rcases g3 with rfl|g3
       ·left;exact (Sa3.shape.elim And.right fun ⟨_,_,_,h,_⟩=>by cases h)
       ·right
        refine ⟨d,T,k, ?_,q2⟩
        have z1:h2.get (vblk va)=h1.get (vblk va):=by
         rw [hF2.old (vblk va) (by simp only [↓pb,qbx,tb17,hg,hEg,irN,nrA,nrM,nrE,reduceIte,reduceCtorEq,nrL];omega) nxA]
         simp (disch:=first|exact dA|fail) only [qcx,tb17,hg,hEg,irN,nrA,nrM,nrE,reduceIte,reduceCtorEq,nrL]
        have z2:h3.get (vblk va)=h2.get (vblk va):=by
         rw [hF3.old (vblk va) (by simp only [↓pb,qbx,tb17,hg,hEg,irN,nrA,nrM,nrE,reduceIte,reduceCtorEq,nrL];omega) nxA]
         simp (disch:=first|exact dA|fail) only [qcx,tb17,hg,hEg,irN,nrA,nrM,nrE,reduceIte,reduceCtorEq,nrL]
        rw [upd_get_ne (by omega),z2,z1]
        exact q1
    refine ⟨⟨va,vb,vc,vt,gc,gt,rfl,⟨Sa3.fr F9 hax,Sb3.fr F9 hbx,Gc9.sr⟩,Gc9,c1,Gt9,by simp (disch:=first|exact dA|fail) only [qcx,tb17,hg,hEg,irN,nrA,nrM,nrE,reduceIte,reduceCtorEq,nrL];exact m1,hk9⟩, ?_⟩
    exact frA
end Go.Proofs.Swa
