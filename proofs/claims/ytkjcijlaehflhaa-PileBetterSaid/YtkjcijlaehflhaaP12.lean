/- Part 12 of a proof. -/
import Derived.Test.YtkjcijlaehflhaaP11
set_option maxRecDepth 20000
set_option linter.unusedVariables false
set_option linter.unusedSimpArgs false
namespace Go.Proofs.Swa
open Go
open Nat renaming reduceAdd → nrA, reduceMul → nrM, reduceEqDiff → nrE, reduceLT → nrL
open Int renaming reduceToNat → irN
attribute [local congr] WO_congr oV_congr oB_congr oH_congr WD_congr oblO_congr oblA_congr oblR_congr
set_option maxHeartbeats 4000000 in
theorem f89 (va vb vc vh : Value) (g : Gnd) (l : List (Hp × Value)) (hour : Int) (H : AHeap) (hT : Top H) (hG : RG H va vb vc g) (hsk : g.Spots.length = 0 ∨ SK H 3 va) (Sh : RHs H vh l) (ok : Ok g) (el : l.map (·.1) = (known g).1) (hll : l.length = g.Spots.length) (hho : 0 ≤ hour ∧ hour ≤ 72) :
  ∃ v H',C5 (.fn 89) #[.agg ⟨[va,vb,vc,vh]⟩,iv hour] H v H' ∧ (∃ vs gg,GS H' 1 (pairRules g (known g).1 hour g.Spots.length).length v vs gg ∧ (∀ x,gg = some x → H.n ≤ x) ∧ (v = .slice none 0 0 ∨ H.n ≤ vblk v) ∧ RulesV H' [] vs (pairRules g (known g).1 hour g.Spots.length)) ∧ Fr H.n [] H H':=by
 have hgo:=hG.one
 have hsp:=ok.spots
 have hul:=until_len hour g.Acts
 have hal:=ok.acts
 have hvb : g.Spots.length = 0 ∨ vblk va < H.n:=hG.p.lt
 have hsk0 : ∀ h,Fr H.n [] H h → g.Spots.length = 0 ∨ SK h 3 va:=fun h hF => by
  rcases hsk with q | q
  ·exact .inl q
  ·rcases hvb with q2 | q2
   ·exact .inl q2
   ·exact .inr (q.fr hF q2 (by simp))
 have hkn1 : (known g).1.length = l.length:=by rw [← el,List.length_map]
 have hall : ∀ j,j < l.length → 0 < (l.getD j default).1.m.length ∧ (l.getD j default).1.m.length ≤ 11 ∧ (known g).1.getD j default = (l.getD j default).1 ∧ 0 ≤ (nowOf g (l.getD j default).1 hour).kind ∧ (nowOf g (l.getD j default).1 hour).kind < g.Sorts.length:=fun j hj => by
  have hx : (l.getD j default).1 ∈ (known g).1:=by
   rw [← el]
   refine List.mem_map.2 ⟨_, ?_,rfl⟩
   simp [List.getD,List.getElem?_eq_getElem hj]
  have hf:=known_few hal _ hx
  have hgx : (known g).1.getD j default = (l.getD j default).1:=by rw [← el,getD_mapA hj]
  have hkn:=known_kind ok (g:=g) (j:=j) (by omega) hul
  rw [hgx] at hkn
  exact ⟨hf.pos,hf.len,hgx,hkn.1,hkn.2⟩
 refine Cl.ofW Try.func89 rfl (by kernel_rfl) (by rw [Try.ntmps89];exact Nat.le_of_ble_eq_true rfl) (by kernel_rfl) ?_
 have hEg : True:=trivial
 refine gcW [0,1] ?_
 intro eg hEn
 simp only [forallC,forallL,and_true] at hEn
 try simp only [↓pb,qbs,tb89,hgo,Sh.1.one,hEg,irN,nrA,nrM,nrE,reduceIte,reduceCtorEq,nrL] at hEn
 replace hEg:=hEn;clear hEn
 repeat' (first | ((with_reducible refine hK _ _ fun e2 hEn => ?_);clear hK K;simp only [lv89,forallC,forallL,and_true] at hEn;(try simp only [↓pb,qbs,tb89,hgo,Sh.1.one,hgo,at03,Sh.1.one,hEg,irN,nrA,nrM,nrE,reduceIte,reduceCtorEq,nrL] at hEn);clear hEg;(try clear eg);have hEg:=hEn;clear hEn;rename Env => eg) | ((first | ((with_reducible first | apply oV_intro | apply oH_intro | apply oB_intro);(simp (disch:=first | exact dA | fail) only [qcs,tb89,hgo,Sh.1.one,hgo,at03,Sh.1.one,hEg,irN,nrA,nrM,nrE,reduceIte,reduceCtorEq,nrL];with_reducible exact rfl)) | ((with_reducible first | apply oblA_and | apply oblR_and | apply oblO_and);(focus exact obA)) | ((with_reducible apply WO_callF);(focus exact topA);(simp only [↓pb,qbs,tb89,hgo,Sh.1.one,hgo,at03,Sh.1.one,hEg,irN,nrA,nrM,nrE,reduceIte,reduceCtorEq,nrL];exact f77 _ _ _ _ _ (by exact topA) (hG.fr (N:=H.n) (by exact frA)) (hsk0 _ (by exact frA)) (by omega));(rintro vq Gq hq hJq ⟨mr,rfl,mg,mr1,mr2⟩;try simp only [upd_n,jn_n] at hq)) | (with_reducible first | refine W_regionE lv89 [3] fun K hK => ?_ | refine W_drawnE lv89 [3] fun K hK => ?_));try simp only [↓pb,↓pd,qds,tb89,hgo,Sh.1.one,hgo,at03,Sh.1.one,hEg,irN,nrA,nrM,nrE,reduceIte,reduceCtorEq,nrL]) | ((first | ((with_reducible first | apply WO_gT | apply WO_gF | apply WD_gT | apply WD_gF);exact rfl) | (with_reducible apply W_cond));(simp only [↓pb,qbs,tb89,hgo,Sh.1.one,hgo,at03,Sh.1.one,hEg,irN,nrA,nrM,nrE,reduceIte,reduceCtorEq,nrL];with_reducible exact rfl);all_goals (intro hc;(first | exact hcX hc | try simp only [hcs] at hc);try ((with_reducible first | apply woI | apply wdI);simp only [↓pb,↓pd,qds,tb89,hgo,Sh.1.one,hgo,at03,Sh.1.one,hc,hEg,irN,nrA,nrM,nrE,reduceIte,reduceCtorEq,nrL]))) | (with_reducible first | refine W_seq ?_ | refine W_block ?_ | refine W_skip ?_ | refine W_ret ?_ | refine W_exit ?_ | apply blockK_exit) | ((with_reducible apply blockK_pass);(focus decide)) | fail)
 refine W_forget (N:=H.n) (X:=[]) (h0:=H) (fun h => h.get H.n = .cells [va,vb,vc,vh] 91 .ex ∧ h.get mr = .map (entK (nearAll g g.Spots.length)) ∧ RHs h vh l ∧ H.n < mr ∧ mr < h.n ∧ Top h) (by exact frA) ⟨by simp (disch:=first | exact dA | fail) only [qcs,tb89,hgo,Sh.1.one,hEg,irN,nrA,nrM,nrE,reduceIte,reduceCtorEq,nrL],mg,Sh.fr (N:=H.n) (by exact frA),by simp only [upd_n] at mr1;omega,mr2,(by exact topA)⟩ ?_
 rintro hb Fb ⟨b0,b2,Sb,c2,c3,Tb⟩
 clear mg mr1 mr2 hq hJq
 have rb0 : hb.rd H.n = some [va,vb,vc,vh]:=by rw [rd_def,b0];rfl
 have Gb:=hG.fr Fb
 repeat' (first | ((with_reducible refine hK _ _ fun e2 hEn => ?_);clear hK K;simp only [lv89,forallC,forallL,and_true] at hEn;(try simp only [↓pb,qbs,tb89,hgo,Sh.1.one,rb0,b0,lns22 Gb.p,hEg,irN,nrA,nrM,nrE,reduceIte,reduceCtorEq,nrL] at hEn);clear hEg;(try clear eg);have hEg:=hEn;clear hEn;rename Env => eg) | ((first | ((with_reducible first | apply oV_intro | apply oH_intro | apply oB_intro);(simp (disch:=first | exact dA | fail) only [qcs,tb89,hgo,Sh.1.one,rb0,b0,lns22 Gb.p,hEg,irN,nrA,nrM,nrE,reduceIte,reduceCtorEq,nrL];with_reducible exact rfl)) | ((with_reducible first | apply oblA_and | apply oblR_and | apply oblO_and);(focus exact obA)) | (with_reducible first | refine W_regionF lv89 fun K hK => ?_ | refine W_drawnF lv89 fun K hK => ?_));try simp only [↓pb,↓pd,qds,tb89,hgo,Sh.1.one,rb0,b0,lns22 Gb.p,hEg,irN,nrA,nrM,nrE,reduceIte,reduceCtorEq,nrL]) | ((first | ((with_reducible first | apply WO_gT | apply WO_gF | apply WD_gT | apply WD_gF);exact rfl) | (with_reducible apply W_cond));(simp only [↓pb,qbs,tb89,hgo,Sh.1.one,rb0,b0,lns22 Gb.p,hEg,irN,nrA,nrM,nrE,reduceIte,reduceCtorEq,nrL];with_reducible exact rfl);all_goals (intro hc;(first | exact hcX hc | try simp only [hcs] at hc);try ((with_reducible first | apply woI | apply wdI);simp only [↓pb,↓pd,qds,tb89,hgo,Sh.1.one,rb0,b0,lns22 Gb.p,hc,hEg,irN,nrA,nrM,nrE,reduceIte,reduceCtorEq,nrL]))) | (with_reducible first | refine W_seq ?_ | refine W_block ?_ | refine W_skip ?_ | refine W_ret ?_ | refine W_exit ?_ | apply blockK_exit) | ((with_reducible apply blockK_pass);(focus decide)) | fail)
 refine W_count [1,2,6,17] (by kernel_rfl) 18 (g.Spots.length) (H.n) [] [] (fun i e h => ∃ vo vs gg,e 5 = vo ∧ GS h 1 (pairRules g (known g).1 hour i).length vo vs gg ∧ (∀ x,gg = some x → H.n ≤ x) ∧ (vo = .slice none 0 0 ∨ H.n ≤ vblk vo) ∧ RulesV h [] vs (pairRules g (known g).1 hour i) ∧ (pairRules g (known g).1 hour i).length ≤ 4 * i) (by simp only [↓pb,qbs,tb89,hgo,Sh.1.one,hEg,irN,nrA,nrM,nrE,reduceIte,reduceCtorEq,nrL]) (by focus exact topA) (H0:=H) (by focus exact frA) (by intro b hb hlt;simp at hb ⊢;try omega) ?_ ?_
 rotate_left
 intro i1 e1 h1 hi1 hE1 ei1 hF1 hF01 hTh1 hJ1
 simp only [forallC,forallL,and_true] at hE1
 try simp only [↓pb,qbs,tb89,hgo,Sh.1.one,hEg,irN,nrA,nrM,nrE,reduceIte,reduceCtorEq,nrL] at hE1
 have hn11:=hF1.n;have hn01:=hF01.n;try simp only [upd_n,jn_n] at hn11
 replace hEg:=And.intro ei1 hE1
 rotate_left
 ·exact ⟨_,[],none,by simp only [↓pb,qbs,tb89,hgo,Sh.1.one,hEg,irN,nrA,nrM,nrE,reduceIte,reduceCtorEq,nrL],.nil rfl rfl rfl,by simp,.inl rfl,trivial,Nat.le_refl _⟩
 obtain ⟨vo,vs,gg,e5,G,gg2,gv,R,len⟩:=hJ1
 have S1:=Sb.fr hF1
 have G1:=hG.fr hF01
 have d0 : h1.get H.n = .cells [va,vb,vc,vh] 91 .ex:=by rw [hF1.old _ (by omega) (by simp)];exact b0
 have d2 : h1.get mr = .map (entK (nearAll g g.Spots.length)):=by rw [hF1.old _ (by omega) (by simp)];exact b2
 by_cases hi1b : i1 < g.Spots.length
 ·repeat' (first | ((with_reducible refine hK _ _ fun e2 hEn => ?_);clear hK K;simp only [lv89,forallC,forallL,and_true] at hEn;(try simp only [↓pb,qbs,tb89,hgo,Sh.1.one,e5,hEg,irN,nrA,nrM,nrE,reduceIte,reduceCtorEq,nrL] at hEn);clear hEg;(try clear eg);have hEg:=hEn;clear hEn;rename Env => eg) | ((first | ((with_reducible first | apply oV_intro | apply oH_intro | apply oB_intro);(simp (disch:=first | exact dA | fail) only [qcs,tb89,hgo,Sh.1.one,e5,hEg,irN,nrA,nrM,nrE,reduceIte,reduceCtorEq,nrL];with_reducible exact rfl)) | ((with_reducible first | apply oblA_and | apply oblR_and | apply oblO_and);(focus exact obA)) | (with_reducible first | refine W_regionF lv89 fun K hK => ?_ | refine W_drawnF lv89 fun K hK => ?_));try simp only [↓pb,↓pd,qds,tb89,hgo,Sh.1.one,e5,hEg,irN,nrA,nrM,nrE,reduceIte,reduceCtorEq,nrL]) | ((first | ((with_reducible first | apply WO_gT | apply WO_gF | apply WD_gT | apply WD_gF);exact rfl) | (with_reducible apply W_cond));(simp only [↓pb,qbs,tb89,hgo,Sh.1.one,e5,hEg,irN,nrA,nrM,nrE,reduceIte,reduceCtorEq,nrL];with_reducible exact rfl);all_goals (intro hc;(first | exact hcX hc | try simp only [hcs] at hc);try ((with_reducible first | apply woI | apply wdI);simp only [↓pb,↓pd,qds,tb89,hgo,Sh.1.one,e5,hc,hEg,irN,nrA,nrM,nrE,reduceIte,reduceCtorEq,nrL]))) | (with_reducible first | refine W_seq ?_ | refine W_block ?_ | refine W_skip ?_ | refine W_ret ?_ | refine W_exit ?_ | apply blockK_exit) | ((with_reducible apply blockK_pass);(focus decide)) | fail)
  refine W_count [1,2,6,7,17,18,21] (by kernel_rfl) 22 (i1) (H.n) [] [] (fun i e h => ∃ vo vs gg,e 5 = vo ∧ GS h 1 (pairRules g (known g).1 hour i1 ++ pairRow g (known g).1 hour i1 i).length vo vs gg ∧ (∀ x,gg = some x → H.n ≤ x) ∧ (vo = .slice none 0 0 ∨ H.n ≤ vblk vo) ∧ RulesV h [] vs (pairRules g (known g).1 hour i1 ++ pairRow g (known g).1 hour i1 i) ∧ (pairRow g (known g).1 hour i1 i).length ≤ i) (by simp only [↓pb,qbs,tb89,hgo,Sh.1.one,hEg,irN,nrA,nrM,nrE,reduceIte,reduceCtorEq,nrL]) (by focus exact topA) (H0:=H) (by focus exact frA) (by intro b hb hlt;simp at hb ⊢;try omega) ?_ ?_
  rotate_left
  intro i2 e2 h2 hi2 hE2 ei2 hF2 hF02 hTh2 hJ2
  simp only [forallC,forallL,and_true] at hE2
  try simp only [↓pb,qbs,tb89,hgo,Sh.1.one,hEg,irN,nrA,nrM,nrE,reduceIte,reduceCtorEq,nrL] at hE2
  have hn12:=hF2.n;have hn02:=hF02.n;try simp only [upd_n,jn_n] at hn12
  replace hEg:=And.intro ei2 hE2
  rotate_left
  ·refine ⟨vo,vs,gg,by simp only [↓pb,qbs,tb89,hgo,Sh.1.one,hEg,irN,nrA,nrM,nrE,reduceIte,reduceCtorEq,nrL], ?_,gg2,gv, ?_,Nat.le_refl _⟩
   ·rw [pairRow,List.append_nil]
    exact G.fr (N:=h1.n) (X:=[]) (by exact frA) (fun x hx => by subst hx;exact G.grp_lt) (by simp)
   ·rw [pairRow,List.append_nil]
    exact R.fr (N:=h1.n) (X:=[]) (by exact frA) (by simp)
  obtain ⟨vo2,vs2,gg3,e52,G2,gg4,gv2,R2,len2⟩:=hJ2
  have F2 : Fr h1.n [] h1 (h1.upd (h1.n + 1) h1.n (.cells [iv i1] 3 .ex)):=by exact frA
  have n12 : h1.n + 1 ≤ h2.n:=hF2.n
  have F12 : Fr H.n [] h1 h2:=Fr.call (N:=H.n) (by exact frA) hF2 (by omega)
  by_cases hj : i2 < i1
  ·have k0 : h2.get H.n = .cells [va,vb,vc,vh] 91 .ex:=by rw [F12.old _ (by omega) (by simp)];exact d0
   have km : h2.get mr = .map (entK (nearAll g g.Spots.length)):=by rw [F12.old _ (by omega) (by simp)];exact d2
   have k7 : h2.get h1.n = .cells [iv i1] 3 .ex:=by
    rw [hF2.old h1.n (by simp only [↓pb,qbs,tb89,hgo,Sh.1.one,hEg,irN,nrA,nrM,nrE,reduceIte,reduceCtorEq,nrL];omega) (by simp)]
    simp (disch:=first | exact dA | fail) only [qcs,tb89,hgo,Sh.1.one,hEg,irN,nrA,nrM,nrE,reduceIte,reduceCtorEq,nrL]
   have S3:=Sh.fr hF02
   have G3:=hG.fr hF02
   have q0 : h2.rd H.n = some [va,vb,vc,vh]:=by rw [rd_def,k0];rfl
   have q7 : h2.rd h1.n = some [iv i1]:=by rw [rd_def,k7];rfl
   obtain ⟨pa1,pa2,pa3,pa4,pa5⟩:=hall i2 (by omega)
   obtain ⟨pb1,pb2,pb3,pb4,pb5⟩:=hall i1 (by omega)
   have S4:=S3.2 i2 (by omega)
   have S5:=S3.2 i1 (by omega)
   obtain ⟨na,hna⟩ : ∃ na,na = nowOf g (l.getD i2 default).1 hour:=⟨_,rfl⟩
   obtain ⟨nb',hnb⟩ : ∃ nb',nb' = nowOf g (l.getD i1 default).1 hour:=⟨_,rfl⟩
   have hma : beforeL (↑(untilL hour g.Acts)) ((l.getD i2 default).1.m.getD 0 default) (l.getD i2 default).1.m = na:=hna.symm
   have hmb : beforeL (↑(untilL hour g.Acts)) ((l.getD i1 default).1.m.getD 0 default) (l.getD i1 default).1.m = nb':=hnb.symm
   rw [← hna] at pa4 pa5
   rw [← hnb] at pb4 pb5
   have lS:=S3.1.lt
   have G2o:=G2.one
   repeat' (first | ((with_reducible refine hK _ _ fun e2 hEn => ?_);clear hK K;simp only [lv89,forallC,forallL,and_true] at hEn;(try simp only [↓pb,qbs,tb89,hgo,Sh.1.one,e52,k0,q0,q7,ias89 S3.1,S3.1.rd,(S3.1.el eHp_len rfl),eHp,hgo,S3.1.one,S4.one,S5.one,hma,hmb,hEg,irN,nrA,nrM,nrE,reduceIte,reduceCtorEq,nrL] at hEn);clear hEg;(try clear eg);have hEg:=hEn;clear hEn;rename Env => eg) | ((first | ((with_reducible first | apply oV_intro | apply oH_intro | apply oB_intro);(simp (disch:=first | exact dA | fail) only [qcs,tb89,hgo,Sh.1.one,e52,k0,q0,q7,ias89 S3.1,S3.1.rd,(S3.1.el eHp_len rfl),eHp,hgo,S3.1.one,S4.one,S5.one,hma,hmb,hEg,irN,nrA,nrM,nrE,reduceIte,reduceCtorEq,nrL];with_reducible exact rfl)) | ((with_reducible first | apply oblA_and | apply oblR_and | apply oblO_and);(focus exact obA)) | ((with_reducible apply WO_callV);(focus exact topA);(simp only [↓pb,qbs,tb89,hgo,Sh.1.one,e52,k0,q0,q7,ias89 S3.1,S3.1.rd,(S3.1.el eHp_len rfl),eHp,hgo,S3.1.one,S4.one,S5.one,hma,hmb,hEg,irN,nrA,nrM,nrE,reduceIte,reduceCtorEq,nrL];(first | exact f56 _ _ _ _ _ _ _ (by exact topA) (hG.fr (N:=H.n) (by exact frA)) S3.1.one (by omega) | exact f55 _ _ _ _ _ (by exact topA) (S4.fr0 (N:=0) (by exact frA)) pa1 (by omega) | exact f55 _ _ _ _ _ (by exact topA) (S5.fr0 (N:=0) (by exact frA)) pb1 (by omega)));(intro Gq hq hJq;try simp only [upd_n,jn_n] at hq)) | (with_reducible first | refine W_regionE lv89 [10] fun K hK => ?_ | refine W_drawnE lv89 [10] fun K hK => ?_));try simp only [↓pb,↓pd,qds,tb89,hgo,Sh.1.one,e52,k0,q0,q7,ias89 S3.1,S3.1.rd,(S3.1.el eHp_len rfl),eHp,hgo,S3.1.one,S4.one,S5.one,hma,hmb,hEg,irN,nrA,nrM,nrE,reduceIte,reduceCtorEq,nrL]) | ((first | ((with_reducible first | apply WO_gT | apply WO_gF | apply WD_gT | apply WD_gF);exact rfl) | (with_reducible apply W_cond));(simp only [↓pb,qbs,tb89,hgo,Sh.1.one,e52,k0,q0,q7,ias89 S3.1,S3.1.rd,(S3.1.el eHp_len rfl),eHp,hgo,S3.1.one,S4.one,S5.one,hma,hmb,hEg,irN,nrA,nrM,nrE,reduceIte,reduceCtorEq,nrL];with_reducible exact rfl);all_goals (intro hc;(first | exact hcX hc | try simp only [hcs] at hc);try ((with_reducible first | apply woI | apply wdI);simp only [↓pb,↓pd,qds,tb89,hgo,Sh.1.one,e52,k0,q0,q7,ias89 S3.1,S3.1.rd,(S3.1.el eHp_len rfl),eHp,hgo,S3.1.one,S4.one,S5.one,hma,hmb,hc,hEg,irN,nrA,nrM,nrE,reduceIte,reduceCtorEq,nrL]))) | (with_reducible first | refine W_seq ?_ | refine W_block ?_ | refine W_skip ?_ | refine W_ret ?_ | refine W_exit ?_ | apply blockK_exit) | ((with_reducible apply blockK_pass);(focus decide)) | fail)
   rename_i g1q z1 j1 g2q z2 j2 g3q z3 j3
   refine W_forget (N:=h2.n) (X:=[]) (h0:=h2) (fun h => h.get h2.n = .cells [iv i2] 3 .ex ∧ h.get Gq.n = .cells (eMom na) 101 .ex ∧ h.get (Gq.n + 1) = .cells (eMom nb') 101 .ex ∧ h2.n < Gq.n ∧ Gq.n + 1 < h.n ∧ Top h) (by exact frA) ⟨by simp (disch:=first | exact dA | fail) only [qcs,tb89,hgo,Sh.1.one,hEg,irN,nrA,nrM,nrE,reduceIte,reduceCtorEq,nrL],by simp (disch:=first | exact dA | fail) only [qcs,tb89,hgo,Sh.1.one,hEg,irN,nrA,nrM,nrE,reduceIte,reduceCtorEq,nrL],by simp (disch:=first | exact dA | fail) only [qcs,tb89,hgo,Sh.1.one,hEg,irN,nrA,nrM,nrE,reduceIte,reduceCtorEq,nrL],by omega,by simp only [↓pb,qbs,tb89,hgo,Sh.1.one,hEg,irN,nrA,nrM,nrE,reduceIte,reduceCtorEq,nrL];omega,(by exact topA)⟩ ?_
   rintro h5 F5 ⟨m8,m9,m10,n5,n6,T5⟩
   clear hJq j1 j2 j3
   have n25:=F5.n
   have F15 : Fr H.n [] (h1.upd (h1.n + 1) h1.n (AObj.cells [Value.int IntKind.i64 ↑i1] 3 Kd.ex)) h5:=Fr.call hF2 F5 hF02.n
   have F05 : Fr H.n [] H h5:=Fr.call hF02 F5 hF02.n
   have u0 : h5.get H.n = .cells [va,vb,vc,vh] 91 .ex:=by rw [F5.old _ (by omega) (by simp)];exact k0
   have u2 : h5.get mr = .map (entK (nearAll g g.Spots.length)):=by rw [F5.old _ (by omega) (by simp)];exact km
   have u7 : h5.get h1.n = .cells [iv i1] 3 .ex:=by rw [F5.old _ (by omega) (by simp)];exact k7
   have w0 : h5.rd H.n = some [va,vb,vc,vh]:=by rw [rd_def,u0];rfl
   have w7 : h5.rd h1.n = some [iv i1]:=by rw [rd_def,u7];rfl
   have w8 : h5.rd h2.n = some [iv i2]:=by rw [rd_def,m8];rfl
   have w9 : h5.rd Gq.n = some (eMom na):=by rw [rd_def,m9];rfl
   have w10 : h5.rd (Gq.n + 1) = some (eMom nb'):=by rw [rd_def,m10];rfl
   obtain ⟨ka,hka⟩ : ∃ ka : Nat,na.kind = ka:=⟨na.kind.toNat,by omega⟩
   obtain ⟨kb,hkb⟩ : ∃ kb : Nat,nb'.kind = kb:=⟨nb'.kind.toNat,by omega⟩
   have hkal : ka < g.Sorts.length:=by omega
   have hkbl : kb < g.Sorts.length:=by omega
   have hq5:=(hG.fr F05).q
   have lq5:=hq5.lt
   obtain ⟨qq,hqq⟩:=near_hit (g:=g) (a:=i2) (b:=i1) hj (n:=g.Spots.length) hi1b
   have hlk : lkG (.map (entK (nearAll g g.Spots.length))) (k2 (i2 : Int) (i1 : Int)) = some (iv (dist g i2 i1)):=lkG_hit hqq
   have G5:=G2.fr F5 (fun x hx => by subst hx;exact G2.grp_lt) (by simp)
   have R5:=R2.fr F5 (by simp)
   obtain ⟨GB,hGB⟩ : ∃ GB,Gq.n = GB:=⟨_,rfl⟩
   rw [hGB] at m9 m10 n5 n6 w9 w10 hEg
   refine W_drawnP (fun e h => h = h5 ∧ e 75 = .bool (decide (na.tips = 0) || decide (nb'.tips = 0) || decide (fireMax g na.kind nb'.kind ≤ dist g i2 i1)) ∧ e 1 = iv hour ∧ e 2 = vptr H.n 0 ∧ e 5 = vo2 ∧ e 6 = .map (some mr) ∧ e 7 = vptr h1.n 0 ∧ e 8 = vptr h2.n 0 ∧ e 9 = vptr GB 0 ∧ e 10 = vptr (GB + 1) 0 ∧ e 17 = iv g.Spots.length ∧ e 18 = iv i1 ∧ e 21 = iv i1 ∧ e 22 = iv i2) ?_ ?_
   ·simp only [↓pb,↓pd,qds,tb89,hgo,Sh.1.one,hEg,irN,nrA,nrM,nrE,reduceIte,reduceCtorEq,nrL]
    repeat' (first | ((with_reducible refine hK _ _ fun e2 hEn => ?_);clear hK K;simp only [lv89,forallC,forallL,and_true] at hEn;(try simp only [↓pb,qbs,tb89,hgo,Sh.1.one,w0,w7,w8,w9,w10,u0,u2,eMom,hka,hkb,lk_of,hlk,bd131,ias23 hq5,hq5.rd,(hq5.el eSrt_len rfl),eSrt,hgo,hEg,irN,nrA,nrM,nrE,reduceIte,reduceCtorEq,nrL] at hEn);clear hEg;(try clear eg);have hEg:=hEn;clear hEn;rename Env => eg) | ((first | ((with_reducible first | apply oV_intro | apply oH_intro | apply oB_intro);(simp (disch:=first | exact dA | fail) only [qcs,tb89,hgo,Sh.1.one,w0,w7,w8,w9,w10,u0,u2,eMom,hka,hkb,lk_of,hlk,bd131,ias23 hq5,hq5.rd,(hq5.el eSrt_len rfl),eSrt,hgo,hEg,irN,nrA,nrM,nrE,reduceIte,reduceCtorEq,nrL];with_reducible exact rfl)) | ((with_reducible first | apply oblA_and | apply oblR_and | apply oblO_and);(focus exact obA)) | (with_reducible first | refine W_regionF lv89 fun K hK => ?_ | refine W_drawnF lv89 fun K hK => ?_));try simp only [↓pb,↓pd,qds,tb89,hgo,Sh.1.one,w0,w7,w8,w9,w10,u0,u2,eMom,hka,hkb,lk_of,hlk,bd131,ias23 hq5,hq5.rd,(hq5.el eSrt_len rfl),eSrt,hgo,hEg,irN,nrA,nrM,nrE,reduceIte,reduceCtorEq,nrL]) | ((first | ((with_reducible first | apply WO_gT | apply WO_gF | apply WD_gT | apply WD_gF);exact rfl) | (with_reducible apply W_cond));(simp only [↓pb,qbs,tb89,hgo,Sh.1.one,w0,w7,w8,w9,w10,u0,u2,eMom,hka,hkb,lk_of,hlk,bd131,ias23 hq5,hq5.rd,(hq5.el eSrt_len rfl),eSrt,hgo,hEg,irN,nrA,nrM,nrE,reduceIte,reduceCtorEq,nrL];with_reducible exact rfl);all_goals (intro hc;(first | exact hcX hc | try simp only [hcs] at hc);try ((with_reducible first | apply woI | apply wdI);simp only [↓pb,↓pd,qds,tb89,hgo,Sh.1.one,w0,w7,w8,w9,w10,u0,u2,eMom,hka,hkb,lk_of,hlk,bd131,ias23 hq5,hq5.rd,(hq5.el eSrt_len rfl),eSrt,hgo,hc,hEg,irN,nrA,nrM,nrE,reduceIte,reduceCtorEq,nrL]))) | (with_reducible first | refine W_seq ?_ | refine W_block ?_ | refine W_skip ?_ | refine W_ret ?_ | refine W_exit ?_ | apply blockK_exit) | ((with_reducible apply blockK_pass);(focus decide)) | fail)
    ·have q1 : ¬ (na.tips : Int) = 0:=by assumption
     have q2 : ¬ (nb'.tips : Int) = 0:=by assumption
     rw [decide_eq_false (show ¬ na.tips = 0 by omega),decide_eq_false (show ¬ nb'.tips = 0 by omega)]
     unfold fireMax
     rw [Int.toNat_natCast,Int.toNat_natCast]
     rfl
    ·have q2 : (nb'.tips : Int) = 0:=by assumption
     rw [decide_eq_true (show nb'.tips = 0 by omega),Bool.or_true,Bool.true_or]
    ·have q1 : (na.tips : Int) = 0:=by assumption
     rw [decide_eq_true (show na.tips = 0 by omega),Bool.true_or,Bool.true_or]
   ·rintro e6 h6 ⟨rfl,g75,g1,g2,g5,g6,g7,g8,g9,g10,g17,g18,g21,g22⟩
    have hEg:=And.intro g75 (And.intro g1 (And.intro g2 (And.intro g5 (And.intro g6 (And.intro g7 (And.intro g8 (And.intro g9 (And.intro g10 (And.intro g17 (And.intro g18 (And.intro g21 g22)))))))))))
    clear g75 g1 g2 g5 g6 g7 g8 g9 g10 g17 g18 g21 g22
    have hrow1 : pairRow g (known g).1 hour i1 (i2 + 1) = pairRow g (known g).1 hour i1 i2 ++ (if na.tips = 0 ∨ nb'.tips = 0 ∨ fireMax g na.kind nb'.kind ≤ dist g i2 i1 then [] else [[emptyW i2 na,emptyW i1 nb']]):=by
     rw [pairRow,pairOne]
     simp only [pa3,pb3,← hna,← hnb]
    repeat' (first | ((with_reducible refine hK _ _ fun e2 hEn => ?_);clear hK K;simp only [lv89,forallC,forallL,and_true] at hEn;(try simp only [↓pb,qbs,tb89,hgo,Sh.1.one,hEg,irN,nrA,nrM,nrE,reduceIte,reduceCtorEq,nrL] at hEn);clear hEg;(try clear eg);have hEg:=hEn;clear hEn;rename Env => eg) | ((first | ((with_reducible first | apply oV_intro | apply oH_intro | apply oB_intro);(simp (disch:=first | exact dA | fail) only [qcs,tb89,hgo,Sh.1.one,hEg,irN,nrA,nrM,nrE,reduceIte,reduceCtorEq,nrL];with_reducible exact rfl)) | ((with_reducible first | apply oblA_and | apply oblR_and | apply oblO_and);(focus exact obA)) | (with_reducible first | refine W_regionF lv89 fun K hK => ?_ | refine W_drawnF lv89 fun K hK => ?_));try simp only [↓pb,↓pd,qds,tb89,hgo,Sh.1.one,hEg,irN,nrA,nrM,nrE,reduceIte,reduceCtorEq,nrL]) | ((first | ((with_reducible first | apply WO_gT | apply WO_gF | apply WD_gT | apply WD_gF);exact rfl) | (with_reducible apply W_cond));(simp only [↓pb,qbs,tb89,hgo,Sh.1.one,hEg,irN,nrA,nrM,nrE,reduceIte,reduceCtorEq,nrL];with_reducible exact rfl);all_goals (intro hc;(first | exact hcX hc | try simp only [hcs] at hc);try ((with_reducible first | apply woI | apply wdI);simp only [↓pb,↓pd,qds,tb89,hgo,Sh.1.one,hc,hEg,irN,nrA,nrM,nrE,reduceIte,reduceCtorEq,nrL]))) | (with_reducible first | refine W_seq ?_ | refine W_block ?_ | refine W_skip ?_ | refine W_ret ?_ | refine W_exit ?_ | apply blockK_exit) | ((with_reducible apply blockK_pass);(focus decide)) | fail)
    ·have hrc : na.tips = 0 ∨ nb'.tips = 0 ∨ fireMax g na.kind nb'.kind ≤ dist g i2 i1:=by
      simpa only [Bool.or_eq_true,decide_eq_true_eq,or_assoc] using hc
     rw [if_pos hrc,List.append_nil] at hrow1
     refine ⟨by omega,by simp only [↓pb,qbs,tb89,hgo,Sh.1.one,hEg,irN,nrA,nrM,nrE,reduceIte,reduceCtorEq,nrL];exact congrArg _ (inc64 (by omega)),by focus exact frA, ?_⟩
     refine ⟨vo2,vs2,gg3,by simp only [hEg], ?_,gg4,gv2, ?_, ?_⟩
     ·rw [hrow1]
      exact G5
     ·rw [hrow1]
      exact R5
     ·rw [hrow1]
      omega
    ·have hrc : ¬(na.tips = 0 ∨ nb'.tips = 0 ∨ fireMax g na.kind nb'.kind ≤ dist g i2 i1):=by
      rw [← Bool.not_eq_true] at hc
      simpa only [Bool.or_eq_true,decide_eq_true_eq,or_assoc] using hc
     rw [if_neg hrc] at hrow1
     have hln : (pairRules g (known g).1 hour i1 ++ pairRow g (known g).1 hour i1 i2).length ≤ 20:=by
      rw [List.length_append]
      omega
     refine pu114 (n:=(pairRules g (known g).1 hour i1 ++ pairRow g (known g).1 hour i1 i2).length) (m:=1) (c:=vs2) (g:=gg3) (GS.ex (G5.fr (N:=h6.n) (X:=[]) (by exact frA) (fun x hx => by subst hx;exact G5.grp_lt) (by simp))) (SR.new rfl) (by omega) (by omega) (by omega) (by exact topA) fun GG => ?_
     simp only [↓pb,↓pd,qds,tb89,hgo,Sh.1.one,hEg,irN,nrA,nrM,nrE,reduceIte,reduceCtorEq,nrL]
     repeat' (first | ((with_reducible refine hK _ _ fun e2 hEn => ?_);clear hK K;simp only [lv89,forallC,forallL,and_true] at hEn;(try simp only [↓pb,qbs,tb89,hgo,Sh.1.one,hEg,irN,nrA,nrM,nrE,reduceIte,reduceCtorEq,nrL] at hEn);clear hEg;(try clear eg);have hEg:=hEn;clear hEn;rename Env => eg) | ((first | ((with_reducible first | apply oV_intro | apply oH_intro | apply oB_intro);(simp (disch:=first | exact dA | fail) only [qcs,tb89,hgo,Sh.1.one,hEg,irN,nrA,nrM,nrE,reduceIte,reduceCtorEq,nrL];with_reducible exact rfl)) | ((with_reducible first | apply oblA_and | apply oblR_and | apply oblO_and);(focus exact obA)) | (with_reducible first | refine W_regionF lv89 fun K hK => ?_ | refine W_drawnF lv89 fun K hK => ?_));try simp only [↓pb,↓pd,qds,tb89,hgo,Sh.1.one,hEg,irN,nrA,nrM,nrE,reduceIte,reduceCtorEq,nrL]) | ((first | ((with_reducible first | apply WO_gT | apply WO_gF | apply WD_gT | apply WD_gF);exact rfl) | (with_reducible apply W_cond));(simp only [↓pb,qbs,tb89,hgo,Sh.1.one,hEg,irN,nrA,nrM,nrE,reduceIte,reduceCtorEq,nrL];with_reducible exact rfl);all_goals (intro hc;(first | exact hcX hc | try simp only [hcs] at hc);try ((with_reducible first | apply woI | apply wdI);simp only [↓pb,↓pd,qds,tb89,hgo,Sh.1.one,hc,hEg,irN,nrA,nrM,nrE,reduceIte,reduceCtorEq,nrL]))) | (with_reducible first | refine W_seq ?_ | refine W_block ?_ | refine W_skip ?_ | refine W_ret ?_ | refine W_exit ?_ | apply blockK_exit) | ((with_reducible apply blockK_pass);(focus decide)) | fail)
     have hgd1:=gd_ge gg4 (n:=h6.n + 1) (by omega)
     have hgd2:=GG.grp_lt
     simp only [upd_n,jn_n] at hgd2
     refine ⟨by omega,by simp only [↓pb,qbs,tb89,hgo,Sh.1.one,hEg,irN,nrA,nrM,nrE,reduceIte,reduceCtorEq,nrL];exact congrArg _ (inc64 (by omega)),by focus exact frA, ?_⟩
     refine ⟨.slice (some ⟨h6.n + 1,0,none⟩) ((pairRules g (known g).1 hour i1 ++ pairRow g (known g).1 hour i1 i2).length + 1) ((pairRules g (known g).1 hour i1 ++ pairRow g (known g).1 hour i1 i2).length + 1),vs2 ++ [.func (.func 106) #[] #[vptr h2.n 0,vptr GB 0,vptr h1.n 0,vptr (GB + 1) 0]],some (gg3.getD (h6.n + 1)),by simp only [hEg], ?_,gd_all hgd1,.inr (by show H.n ≤ h6.n + 1;omega), ?_, ?_⟩
     ·rw [hrow1,← List.append_assoc,List.length_append,List.length_singleton]
      exact GG
     ·rw [hrow1,← List.append_assoc]
      exact (R5.fr (N:=H.n) (X:=[]) (by exact frA) (by simp)).app ⟨.pair ⟨List.not_mem_nil,by simp only [upd_n];omega⟩ ⟨List.not_mem_nil,by simp only [upd_n];omega⟩ ⟨List.not_mem_nil,by simp only [upd_n];omega⟩ ⟨List.not_mem_nil,by simp only [upd_n];omega⟩ (by simp (disch:=first | exact dA | fail) only [qcs,tb89,hgo,Sh.1.one,hEg,irN,nrA,nrM,nrE,reduceIte,reduceCtorEq,nrL];exact m8) (by simp (disch:=first | exact dA | fail) only [qcs,tb89,hgo,Sh.1.one,hEg,irN,nrA,nrM,nrE,reduceIte,reduceCtorEq,nrL];exact m9) (by simp (disch:=first | exact dA | fail) only [qcs,tb89,hgo,Sh.1.one,hEg,irN,nrA,nrM,nrE,reduceIte,reduceCtorEq,nrL];exact u7) (by simp (disch:=first | exact dA | fail) only [qcs,tb89,hgo,Sh.1.one,hEg,irN,nrA,nrM,nrE,reduceIte,reduceCtorEq,nrL];exact m10),trivial⟩
     ·rw [hrow1,List.length_append,List.length_singleton]
      omega
  ·have e2n : i2 = i1:=by omega
   subst e2n
   repeat' (first | ((with_reducible refine hK _ _ fun e2 hEn => ?_);clear hK K;simp only [lv89,forallC,forallL,and_true] at hEn;(try simp only [↓pb,qbs,tb89,hgo,Sh.1.one,hEg,irN,nrA,nrM,nrE,reduceIte,reduceCtorEq,nrL] at hEn);clear hEg;(try clear eg);have hEg:=hEn;clear hEn;rename Env => eg) | ((first | ((with_reducible first | apply oV_intro | apply oH_intro | apply oB_intro);(simp (disch:=first | exact dA | fail) only [qcs,tb89,hgo,Sh.1.one,hEg,irN,nrA,nrM,nrE,reduceIte,reduceCtorEq,nrL];with_reducible exact rfl)) | ((with_reducible first | apply oblA_and | apply oblR_and | apply oblO_and);(focus exact obA)) | (with_reducible first | refine W_regionF lv89 fun K hK => ?_ | refine W_drawnF lv89 fun K hK => ?_));try simp only [↓pb,↓pd,qds,tb89,hgo,Sh.1.one,hEg,irN,nrA,nrM,nrE,reduceIte,reduceCtorEq,nrL]) | ((first | ((with_reducible first | apply WO_gT | apply WO_gF | apply WD_gT | apply WD_gF);exact rfl) | (with_reducible apply W_cond));(simp only [↓pb,qbs,tb89,hgo,Sh.1.one,hEg,irN,nrA,nrM,nrE,reduceIte,reduceCtorEq,nrL];with_reducible exact rfl);all_goals (intro hc;(first | exact hcX hc | try simp only [hcs] at hc);try ((with_reducible first | apply woI | apply wdI);simp only [↓pb,↓pd,qds,tb89,hgo,Sh.1.one,hc,hEg,irN,nrA,nrM,nrE,reduceIte,reduceCtorEq,nrL]))) | (with_reducible first | refine W_seq ?_ | refine W_block ?_ | refine W_skip ?_ | refine W_ret ?_ | refine W_exit ?_ | apply blockK_exit) | ((with_reducible apply blockK_pass);(focus decide)) | fail)
   refine ⟨by omega,by simp only [↓pb,qbs,tb89,hgo,Sh.1.one,hEg,irN,nrA,nrM,nrE,reduceIte,reduceCtorEq,nrL];exact congrArg _ (inc64 (by omega)),by focus exact frA, ?_⟩
   exact ⟨vo2,vs2,gg3,by simp only [hEg,e52],G2,gg4,gv2,R2,by show (_ ++ _ : List Rul).length ≤ _;rw [List.length_append];omega⟩
 ·have e1n : i1 = g.Spots.length:=by omega
  repeat' (first | ((with_reducible refine hK _ _ fun e2 hEn => ?_);clear hK K;simp only [lv89,forallC,forallL,and_true] at hEn;(try simp only [↓pb,qbs,tb89,hgo,Sh.1.one,hEg,irN,nrA,nrM,nrE,reduceIte,reduceCtorEq,nrL] at hEn);clear hEg;(try clear eg);have hEg:=hEn;clear hEn;rename Env => eg) | ((first | ((with_reducible first | apply oV_intro | apply oH_intro | apply oB_intro);(simp (disch:=first | exact dA | fail) only [qcs,tb89,hgo,Sh.1.one,hEg,irN,nrA,nrM,nrE,reduceIte,reduceCtorEq,nrL];with_reducible exact rfl)) | ((with_reducible first | apply oblA_and | apply oblR_and | apply oblO_and);(focus exact obA)) | (with_reducible first | refine W_regionF lv89 fun K hK => ?_ | refine W_drawnF lv89 fun K hK => ?_));try simp only [↓pb,↓pd,qds,tb89,hgo,Sh.1.one,hEg,irN,nrA,nrM,nrE,reduceIte,reduceCtorEq,nrL]) | ((first | ((with_reducible first | apply WO_gT | apply WO_gF | apply WD_gT | apply WD_gF);exact rfl) | (with_reducible apply W_cond));(simp only [↓pb,qbs,tb89,hgo,Sh.1.one,hEg,irN,nrA,nrM,nrE,reduceIte,reduceCtorEq,nrL];with_reducible exact rfl);all_goals (intro hc;(first | exact hcX hc | try simp only [hcs] at hc);try ((with_reducible first | apply woI | apply wdI);simp only [↓pb,↓pd,qds,tb89,hgo,Sh.1.one,hc,hEg,irN,nrA,nrM,nrE,reduceIte,reduceCtorEq,nrL]))) | (with_reducible first | refine W_seq ?_ | refine W_block ?_ | refine W_skip ?_ | refine W_ret ?_ | refine W_exit ?_ | apply blockK_exit) | ((with_reducible apply blockK_pass);(focus decide)) | fail)
  refine ⟨by first | exact .inl rfl | exact .inr rfl, ?_⟩
  rw [ret1 Try.results89]
  simp only [↓pb,qbs,tb89,hgo,Sh.1.one,rv_tmp,rv_cell,hEg,irN,nrA,nrM,nrE,reduceIte,reduceCtorEq,nrL]
  repeat ((with_reducible apply oV_intro);(simp (disch:=first | exact dA | fail) only [qcs,tb89,hgo,Sh.1.one,hEg,irN,nrA,nrM,nrE,reduceIte,reduceCtorEq,nrL];exact rfl))
  rw [e1n] at G R
  exact ⟨⟨vs,gg,by rw [e5];exact G,gg2,by rw [e5];exact gv,R⟩,(by exact frA)⟩
theorem RS114 {H : AHeap} {N1 N2 : Nat} {v x : Value} {rs ss : List Rul} {g g2 : Option Nat} {K : Value → AHeap → Prop} (ht : Top H) (A : RS H N1 v rs g) (B : RS H N2 x ss g2) (hN : N1 ≤ H.n) (hl : rs.length + ss.length ≤ 1000000)
  (k : ∀ v' G' g',App H G' g g' ss.length → RS G' N1 v' (rs ++ ss) g' → K v' G') : oB (appendOp Try.prog #[114,114] [v,x] H) K :=
 A.app ht B hN (fun c new G S hm => ap114 G S hm (by omega) (by omega)) (fun c new G S => apz114 G S) k
set_option maxHeartbeats 4000000 in
theorem f68 (va vb vc vh : Value) (g : Gnd) (l : List (Hp × Value)) (hour : Int) (H : AHeap) (hT : Top H) (hG : RG H va vb vc g) (hsk : g.Spots.length = 0 ∨ SK H 3 va) (Sh : RHs H vh l) (ok : Ok g) (el : l.map (·.1) = (known g).1) (hll : l.length = g.Spots.length) (hho : 0 ≤ hour ∧ hour ≤ 72) :
  ∃ v H',C5 (.fn 68) #[.agg ⟨[va,vb,vc,vh]⟩,iv hour] H v H' ∧ (∃ v1 v2 g1 g2,v = .tuple #[v1,v2] ∧ RS H' H.n v1 (heapsR g (known g).1 hour g.Spots.length) g1 ∧ RS H' H.n v2 (pairRules g (known g).1 hour g.Spots.length) g2 ∧ ∀ x,g1 = some x → g2 ≠ some x) ∧ Fr H.n [] H H':=by
 have hgo:=hG.one
 have hsp:=ok.spots
 have hal:=ok.acts
 have hvb : g.Spots.length = 0 ∨ vblk va < H.n:=hG.p.lt
 have hsk0 : ∀ h,Fr H.n [] H h → g.Spots.length = 0 ∨ SK h 3 va:=fun h hF => by
  rcases hsk with q | q
  ·exact .inl q
  ·rcases hvb with q2 | q2
   ·exact .inl q2
   ·exact .inr (q.fr hF q2 (by simp))
 have hso:=Sh.1.one
 refine Cl.ofW Try.func68 rfl (by kernel_rfl) (by rw [Try.ntmps68];exact Nat.le_of_ble_eq_true rfl) (by kernel_rfl) ?_
 have hEg : True:=trivial
 refine gcW [0,1] ?_
 intro eg hEn
 simp only [forallC,forallL,and_true] at hEn
 try simp only [↓pb,qbs,tb68,hgo,hso,lns22 hG.p,hEg,irN,nrA,nrM,nrE,reduceIte,reduceCtorEq,nrL] at hEn
 replace hEg:=hEn;clear hEn
 repeat' (first | ((with_reducible refine hK _ _ fun e2 hEn => ?_);clear hK K;simp only [lv68,forallC,forallL,and_true] at hEn;(try simp only [↓pb,qbs,tb68,hgo,hso,lns22 hG.p,hEg,irN,nrA,nrM,nrE,reduceIte,reduceCtorEq,nrL] at hEn);clear hEg;(try clear eg);have hEg:=hEn;clear hEn;rename Env => eg) | ((first | ((with_reducible first | apply oV_intro | apply oH_intro | apply oB_intro);(simp (disch:=first | exact dA | fail) only [qcs,tb68,hgo,hso,lns22 hG.p,hEg,irN,nrA,nrM,nrE,reduceIte,reduceCtorEq,nrL];with_reducible exact rfl)) | (with_reducible first | refine W_regionF lv68 fun K hK => ?_));try simp only [↓pb,↓pd,qds,tb68,hgo,hso,lns22 hG.p,hEg,irN,nrA,nrM,nrE,reduceIte,reduceCtorEq,nrL]) | ((with_reducible apply W_cond);(simp only [↓pb,qbs,tb68,hgo,hso,lns22 hG.p,hEg,irN,nrA,nrM,nrE,reduceIte,reduceCtorEq,nrL];with_reducible exact rfl);all_goals (intro hc;(first | exact hcX hc | try simp only [hcs] at hc))) | (with_reducible first | refine W_seq ?_ | refine W_block ?_ | refine W_skip ?_ | refine W_ret ?_ | refine W_exit ?_ | apply blockK_exit) | ((with_reducible apply blockK_pass);(focus decide)) | fail)
 refine W_count [1,2,10] (by kernel_rfl) 11 (g.Spots.length) (H.n) [] [] (fun i e h => ∃ v1 g1,e 4 = v1 ∧ RS h H.n v1 (heapsR g (known g).1 hour i) g1) (by simp only [↓pb,qbs,tb68,hgo,hso,lns22 hG.p,hEg,irN,nrA,nrM,nrE,reduceIte,reduceCtorEq,nrL]) (by focus exact topA) (H0:=H) (by focus exact frA) (by intro b hb hlt;simp at hb ⊢;try omega) ?_ ?_
 rotate_left
 intro i1 e1 h1 hi1 hE1 ei1 hF1 hF01 hTh1 hJ1
 simp only [forallC,forallL,and_true] at hE1
 try simp only [↓pb,qbs,tb68,hgo,hso,lns22 hG.p,hEg,irN,nrA,nrM,nrE,reduceIte,reduceCtorEq,nrL] at hE1
 have hn11:=hF1.n;have hn01:=hF01.n;try simp only [upd_n,jn_n] at hn11
 replace hEg:=And.intro ei1 hE1
 rotate_left
 ·exact ⟨_,none,by simp only [↓pb,qbs,tb68,hgo,hso,lns22 hG.p,hEg,irN,nrA,nrM,nrE,reduceIte,reduceCtorEq,nrL],RS.nul⟩
 obtain ⟨v1,g1,e4,R1⟩:=hJ1
 have o1:=R1.one
 have r0 : h1.rd H.n = some [va,vb,vc,vh]:=by
  rw [hF1.rd (b:=H.n) (by simp only [↓pb,qbs,tb68,hgo,hso,lns22 hG.p,hEg,irN,nrA,nrM,nrE,reduceIte,reduceCtorEq,nrL];omega) (by simp)]
  simp (disch:=first | exact dA | fail) only [qcs,tb68,hgo,hso,lns22 hG.p,hEg,irN,nrA,nrM,nrE,reduceIte,reduceCtorEq,nrL]
 have S1:=Sh.fr hF01
 have G1:=hG.fr hF01
 by_cases hi2 : i1 < g.Spots.length
 ·have hgx : (known g).1.getD i1 default = (l.getD i1 default).1:=by rw [← el,getD_mapA (by omega)]
  repeat' (first | ((with_reducible refine hK _ _ fun e2 hEn => ?_);clear hK K;simp only [lv68,forallC,forallL,and_true] at hEn;(try simp only [↓pb,qbs,tb68,hgo,hso,lns22 hG.p,e4,r0,hgo,hso,hEg,irN,nrA,nrM,nrE,reduceIte,reduceCtorEq,nrL] at hEn);clear hEg;(try clear eg);have hEg:=hEn;clear hEn;rename Env => eg) | ((first | ((with_reducible first | apply oV_intro | apply oH_intro | apply oB_intro);(simp (disch:=first | exact dA | fail) only [qcs,tb68,hgo,hso,lns22 hG.p,e4,r0,hgo,hso,hEg,irN,nrA,nrM,nrE,reduceIte,reduceCtorEq,nrL];with_reducible exact rfl)) | ((with_reducible apply WO_callF);(focus exact topA);(simp only [↓pb,qbs,tb68,hgo,hso,lns22 hG.p,e4,r0,hgo,hso,hEg,irN,nrA,nrM,nrE,reduceIte,reduceCtorEq,nrL];exact f88 _ _ _ _ _ _ _ _ _ (by exact topA) (G1.fr (N:=h1.n) (by exact frA)) (S1.fr (N:=h1.n) (by exact frA)) ok el hll (by omega) hho);(rintro vq Gq hq hJq ⟨us,gu,GU,gu2,bu,RU⟩;try simp only [upd_n,jn_n] at hq)) | (with_reducible first | refine W_regionF lv68 fun K hK => ?_));try simp only [↓pb,↓pd,qds,tb68,hgo,hso,lns22 hG.p,e4,r0,hgo,hso,hEg,irN,nrA,nrM,nrE,reduceIte,reduceCtorEq,nrL]) | ((with_reducible apply W_cond);(simp only [↓pb,qbs,tb68,hgo,hso,lns22 hG.p,e4,r0,hgo,hso,hEg,irN,nrA,nrM,nrE,reduceIte,reduceCtorEq,nrL];with_reducible exact rfl);all_goals (intro hc;(first | exact hcX hc | try simp only [hcs] at hc))) | (with_reducible first | refine W_seq ?_ | refine W_block ?_ | refine W_skip ?_ | refine W_ret ?_ | refine W_exit ?_ | apply blockK_exit) | ((with_reducible apply blockK_pass);(focus decide)) | fail)
  have hlh:=heapRules_len g (l.getD i1 default).1 i1 hour
  have hls:=heapsR_len g (known g).1 hour i1
  have hm4 : i1 * (1 + 2 * g.Acts.length) ≤ 4 * 21:=Nat.mul_le_mul (by omega) (by omega)
  have hg1 : ∀ x,g1 = some x → H.n ≤ x:=by
   obtain ⟨vs,a1,a2,a3⟩:=R1
   exact a2
  refine RS114 (by exact topA) (R1.fr0 (by exact frA)) (⟨us,GU,gu2,RU⟩ : RS (h1.jn Gq) h1.n _ _ gu) (by simp only [jn_n];omega) (by omega) fun v' G' g' AP R' => ?_
  have FA : Fr H.n [] (h1.jn Gq) G':=AP.fr H.n (by simp only [jn_n];omega) hg1
  have FB : Fr H.n [] (H.upd (H.n + 1) H.n (.cells [va,vb,vc,vh] 91 .ex)) G':=Fr.trans (B:=h1.jn Gq) (by exact frA) FA
  have TA:=AP.top
  have o2:=R'.one
  have nA:=AP.n
  simp only [jn_n] at nA
  repeat' (first | ((with_reducible refine hK _ _ fun e2 hEn => ?_);clear hK K;simp only [lv68,forallC,forallL,and_true] at hEn;(try simp only [↓pb,qbs,tb68,hgo,hso,lns22 hG.p,o2,hEg,irN,nrA,nrM,nrE,reduceIte,reduceCtorEq,nrL] at hEn);clear hEg;(try clear eg);have hEg:=hEn;clear hEn;rename Env => eg) | ((first | ((with_reducible first | apply oV_intro | apply oH_intro | apply oB_intro);(simp (disch:=first | exact dA | fail) only [qcs,tb68,hgo,hso,lns22 hG.p,o2,hEg,irN,nrA,nrM,nrE,reduceIte,reduceCtorEq,nrL];with_reducible exact rfl)) | (with_reducible first | refine W_regionF lv68 fun K hK => ?_));try simp only [↓pb,↓pd,qds,tb68,hgo,hso,lns22 hG.p,o2,hEg,irN,nrA,nrM,nrE,reduceIte,reduceCtorEq,nrL]) | ((with_reducible apply W_cond);(simp only [↓pb,qbs,tb68,hgo,hso,lns22 hG.p,o2,hEg,irN,nrA,nrM,nrE,reduceIte,reduceCtorEq,nrL];with_reducible exact rfl);all_goals (intro hc;(first | exact hcX hc | try simp only [hcs] at hc))) | (with_reducible first | refine W_seq ?_ | refine W_block ?_ | refine W_skip ?_ | refine W_ret ?_ | refine W_exit ?_ | apply blockK_exit) | ((with_reducible apply blockK_pass);(focus decide)) | fail)
  refine ⟨by omega,by simp only [↓pb,qbs,tb68,hgo,hso,lns22 hG.p,hEg,irN,nrA,nrM,nrE,reduceIte,reduceCtorEq,nrL];exact congrArg _ (inc64 (by omega)),by focus exact frA, ?_⟩
  refine ⟨v',g',by simp only [hEg], ?_⟩
  rw [heapsR,hgx]
  exact R'
 ·have e1n : i1 = g.Spots.length:=by omega
  subst e1n
  repeat' (first | ((with_reducible refine hK _ _ fun e2 hEn => ?_);clear hK K;simp only [lv68,forallC,forallL,and_true] at hEn;(try simp only [↓pb,qbs,tb68,hgo,hso,lns22 hG.p,e4,r0,hgo,hso,hEg,irN,nrA,nrM,nrE,reduceIte,reduceCtorEq,nrL] at hEn);clear hEg;(try clear eg);have hEg:=hEn;clear hEn;rename Env => eg) | ((first | ((with_reducible first | apply oV_intro | apply oH_intro | apply oB_intro);(simp (disch:=first | exact dA | fail) only [qcs,tb68,hgo,hso,lns22 hG.p,e4,r0,hgo,hso,hEg,irN,nrA,nrM,nrE,reduceIte,reduceCtorEq,nrL];with_reducible exact rfl)) | ((with_reducible apply WO_callF);(focus exact topA);(simp only [↓pb,qbs,tb68,hgo,hso,lns22 hG.p,e4,r0,hgo,hso,hEg,irN,nrA,nrM,nrE,reduceIte,reduceCtorEq,nrL];exact f89 _ _ _ _ _ _ _ _ (by exact topA) (G1.fr (N:=h1.n) (by exact frA)) (hsk0 _ (by exact frA)) (S1.fr (N:=h1.n) (by exact frA)) ok el hll hho);(rintro vq Gq hq hJq ⟨us,gu,GU,gu2,bu,RU⟩;try simp only [upd_n,jn_n] at hq)) | (with_reducible first | refine W_regionF lv68 fun K hK => ?_));try simp only [↓pb,↓pd,qds,tb68,hgo,hso,lns22 hG.p,e4,r0,hgo,hso,hEg,irN,nrA,nrM,nrE,reduceIte,reduceCtorEq,nrL]) | ((with_reducible apply W_cond);(simp only [↓pb,qbs,tb68,hgo,hso,lns22 hG.p,e4,r0,hgo,hso,hEg,irN,nrA,nrM,nrE,reduceIte,reduceCtorEq,nrL];with_reducible exact rfl);all_goals (intro hc;(first | exact hcX hc | try simp only [hcs] at hc))) | (with_reducible first | refine W_seq ?_ | refine W_block ?_ | refine W_skip ?_ | refine W_ret ?_ | refine W_exit ?_ | apply blockK_exit) | ((with_reducible apply blockK_pass);(focus decide)) | fail)
  refine ⟨by first | exact .inl rfl | exact .inr rfl, ?_⟩
  rw [ret2 Try.results68]
  simp only [↓pb,qbs,tb68,hgo,hso,lns22 hG.p,rv_tmp,rv_cell,hEg,irN,nrA,nrM,nrE,reduceIte,reduceCtorEq,nrL]
  repeat ((with_reducible apply oV_intro);(simp (disch:=first | exact dA | fail) only [qcs,tb68,hgo,hso,lns22 hG.p,hEg,irN,nrA,nrM,nrE,reduceIte,reduceCtorEq,nrL];exact rfl))
  refine ⟨⟨v1,_,g1,gu,rfl,R1.fr0 (by exact frA),⟨us,GU,fun x hx => Nat.le_trans hn01 (gu2 x hx),RU⟩, ?_⟩,(by exact frA)⟩
  intro x hx hy
  have:=R1.gn x hx
  have:=gu2 x hy
  omega
def eS (s : Sums) : List Value:=ints s.1
theorem eS_len (s : Sums) : (eS s).length = 121:=by rw [eS,ints_len,s.2]
theorem SR.nn {H : AHeap} {s n : Nat} {v : Value} {c : List Value} (h : SR H s n v c) (hn : 0 < n) : ∃ b o k,v = .slice (some ⟨b,o,none⟩) n k:=by
 rcases h.shape with ⟨q,_⟩ | ⟨b,o,k,e,_⟩
 ·omega
 ·exact ⟨b,o,k,e⟩
theorem eq146 {x y : Operand} {a : Addr} {n k : Nat} : bopA Try.prog .eql 146 x y (.slice (some a) n k) (.slice none 0 0) = some (.bool false):=by
 unfold bopA
 rw [und146]
 rfl
theorem f93 (va : Value) (all : List Sums) (H : AHeap) (hT : Top H) (S : SR H 121 all.length va (all.flatMap eS)) (hp : 0 < all.length) (hl : all.length ≤ 20) :
  ∃ v H',C5 (.fn 93) #[va] H v H' ∧ (∃ b,v = .slice (some ⟨b,0,none⟩) all.length all.length ∧ H'.get b = .cells (all.flatMap eS) 96 (.gr b 121 true) ∧ Sole H' b ∧ H.n ≤ b ∧ b < H'.n) ∧ Fr H.n [] H H':=by
 obtain ⟨b,o,k,rfl⟩:=S.nn hp
 refine Cl.ofW Try.func93 rfl (by kernel_rfl) (by rw [Try.ntmps93];exact Nat.le_of_ble_eq_true rfl) (by kernel_rfl) ?_
 have hEg : True:=trivial
 refine gcW [0] ?_
 intro eg hEn
 simp only [forallC,forallL,and_true] at hEn
 try simp only [↓pb,qbs,tb93,hEg,irN,nrA,nrM,nrE,reduceIte,reduceCtorEq,nrL] at hEn
 replace hEg:=hEn;clear hEn
 repeat' (first | ((with_reducible refine hK _ _ fun e2 hEn => ?_);clear hK K;simp only [lv93,forallC,forallL,and_true] at hEn;(try simp only [↓pb,qbs,tb93,eq146,hEg,irN,nrA,nrM,nrE,reduceIte,reduceCtorEq,nrL] at hEn);clear hEg;(try clear eg);have hEg:=hEn;clear hEn;rename Env => eg) | ((first | ((with_reducible first | apply oV_intro | apply oH_intro | apply oB_intro);(simp (disch:=first | exact dA | fail) only [qcs,tb93,eq146,hEg,irN,nrA,nrM,nrE,reduceIte,reduceCtorEq,nrL];with_reducible exact rfl)) | (with_reducible first | refine W_regionF lv93 fun K hK => ?_));try simp only [↓pb,↓pd,qds,tb93,eq146,hEg,irN,nrA,nrM,nrE,reduceIte,reduceCtorEq,nrL]) | ((with_reducible apply W_cond);(simp only [↓pb,qbs,tb93,eq146,hEg,irN,nrA,nrM,nrE,reduceIte,reduceCtorEq,nrL];with_reducible exact rfl);all_goals (intro hc;(first | exact hcX hc | try simp only [hcs] at hc))) | (with_reducible first | refine W_seq ?_ | refine W_skip ?_ | refine W_ret ?_) | fail)
 refine oB_appS (s:=121) (e:=96) (n:=0) (m:=all.length) (c:=[]) (new:=all.flatMap eS) (by exact topA) (GS.new rfl) (S.fr0 (N:=H.n) (by exact frA)) (fun hm => ap146 (GS.new rfl) (S.fr0 (N:=H.n) (by exact frA)) hm (by omega) (by omega)) (fun hm => by omega) ?_
 rintro v1 G1 gg1 hq1 hJ1 GG1 hg1 hv1 hb1 so1
 obtain ⟨rfl,so2,so3,so4⟩:=so1 hp
 simp only [upd_n,jn_n,nb] at hq1 hg1
 repeat' (first | ((with_reducible refine hK _ _ fun e2 hEn => ?_);clear hK K;simp only [lv93,forallC,forallL,and_true] at hEn;(try simp only [↓pb,qbs,tb93,hEg,irN,nrA,nrM,nrE,reduceIte,reduceCtorEq,nrL] at hEn);clear hEg;(try clear eg);have hEg:=hEn;clear hEn;rename Env => eg) | ((first | ((with_reducible first | apply oV_intro | apply oH_intro | apply oB_intro);(simp (disch:=first | exact dA | fail) only [qcs,tb93,hEg,irN,nrA,nrM,nrE,reduceIte,reduceCtorEq,nrL];with_reducible exact rfl)) | (with_reducible first | refine W_regionF lv93 fun K hK => ?_));try simp only [↓pb,↓pd,qds,tb93,hEg,irN,nrA,nrM,nrE,reduceIte,reduceCtorEq,nrL]) | ((with_reducible apply W_cond);(simp only [↓pb,qbs,tb93,hEg,irN,nrA,nrM,nrE,reduceIte,reduceCtorEq,nrL];with_reducible exact rfl);all_goals (intro hc;(first | exact hcX hc | try simp only [hcs] at hc))) | (with_reducible first | refine W_seq ?_ | refine W_skip ?_ | refine W_ret ?_) | fail)
 refine ⟨by first | exact .inl rfl | exact .inr rfl, ?_⟩
 rw [ret1 Try.results93]
 simp only [↓pb,qbs,tb93,rv_tmp,rv_cell,hEg,irN,nrA,nrM,nrE,reduceIte,reduceCtorEq,nrL]
 repeat ((with_reducible apply oV_intro);(simp (disch:=first | exact dA | fail) only [qcs,tb93,hEg,irN,nrA,nrM,nrE,reduceIte,reduceCtorEq,nrL];exact rfl))
 refine ⟨⟨_,rfl,so2,so3,Nat.le_succ _,so4⟩,(by exact frA)⟩
def nf (n : Nat) : List Value:=zeros [.nilFunc] n
theorem nf_len (n : Nat) : (nf n).length = n * 1:=zeros_len rfl n
theorem apmk114 {H : AHeap} {n : Nat} (h0 : 0 < n) (hn : n ≤ 1000000) : appendOp Try.prog #[114,3] [.slice none 0 0,.int .i64 n] H = some (.slice (some ⟨H.n,0,none⟩) n n,H.upd (H.n + 1) H.n (.cells (nf n) 119 (.gr H.n 1 true))):=by
 unfold appendOp
 simp only [und114,und3,by119,zr119]
 rw [if_pos ⟨by omega,by omega,by omega,rfl⟩,Int.toNat_natCast]
 have:=GS.push (H:=H) (m:=n) (new:=nf n) und114 sz119 by119 zr119 (by kernel_rfl) (by kernel_rfl) (by decide) GS.nul (nf_len n) h0 (by omega) (by omega)
 simp only [Nat.zero_add,List.nil_append,Option.getD_none] at this
 exact this
theorem sole_new {H : AHeap} {c : List Value} {T : TypeId} {e : Nat} (ht : Top H) : Sole (H.upd (H.n + 1) H.n (.cells c T (.gr H.n e true))) H.n:=by
 intro b' c' T' e' l' hg
 by_cases q : b' = H.n
 ·exact q
 ·rw [upd_get_ne q] at hg
  have h1:=ht.2 b' _ _ _ _ _ hg
  by_cases q2 : H.n ≤ b'
  ·rw [ht.1 b' q2] at hg
   cases hg
  ·omega
theorem cut0 {H : AHeap} {b n : Nat} (hg : H.get b = .cells (nf n) 119 (.gr b 1 true)) : sliceA Try.prog H 114 (.slice (some ⟨b,0,none⟩) n n) none (some (.int .i64 0)) none = some (.slice (some ⟨b,0,none⟩) 0 n):=by
 unfold sliceA
 simp only [und114]
 have hb : bndsA n n none (some (.int .i64 0)) none = some (0,0,n):=by
  unfold bndsA bndO bnd1
  simp
 rw [hb]
 simp [sz119,hg]
theorem cutnil {H : AHeap} : sliceA Try.prog H 114 (.slice none 0 0) none (some (.int .i64 0)) none = some (.slice none 0 0):=by
 unfold sliceA
 simp only [und114]
 have hb : bndsA 0 0 none (some (.int .i64 0)) none = some (0,0,0):=rfl
 rw [hb]
 simp [sz119]
theorem capnil {H : AHeap} : capA Try.prog 114 (.slice none 0 0) H = some (.int .i64 0):=by
 unfold capA
 rw [und114]
 rfl
theorem f94 (n : Nat) (H : AHeap) (hT : Top H) (h0 : 0 < n) (hn : n ≤ 1000000) :
  ∃ v H',C5 (.fn 94) #[.slice none 0 0,iv n] H v H' ∧ (v = .slice (some ⟨H.n,0,none⟩) 0 n ∧ H'.get H.n = .cells (nf n) 119 (.gr H.n 1 true) ∧ Sole H' H.n ∧ H.n < H'.n) ∧ Fr H.n [] H H':=by
 have hw0 : IntKind.i64.wrap ((0 : Int) - ((0 : Nat) : Int)) = 0:=rfl
 have hw1 : IntKind.i64.wrap ((n : Int) - 0) = n:=by rw [wrap64 (by omega) (by omega)];omega
 have hpos : (0 : Int) < n:=by omega
 have hneg : ¬ (n : Int) < 0:=by omega
 refine Cl.ofW Try.func94 rfl (by kernel_rfl) (by rw [Try.ntmps94];exact Nat.le_of_ble_eq_true rfl) (by kernel_rfl) ?_
 have hEg : True:=trivial
 refine gcW [0,1] ?_
 intro eg hEn
 simp only [forallC,forallL,and_true] at hEn
 try simp only [↓pb,qbs,tb94,capnil,hEg,irN,nrA,nrM,nrE,reduceIte,reduceCtorEq,nrL] at hEn
 replace hEg:=hEn;clear hEn
 repeat' (first | ((with_reducible refine hK _ _ fun e2 hEn => ?_);clear hK K;simp only [lv94,forallC,forallL,and_true] at hEn;(try simp only [↓pb,qbs,tb94,capnil,cutnil,capnil,hw0,hw1,hpos,hneg,Option.map_none,Option.map_some,hEg,irN,nrA,nrM,nrE,reduceIte,reduceCtorEq,nrL] at hEn);clear hEg;(try clear eg);have hEg:=hEn;clear hEn;rename Env => eg) | ((first | ((with_reducible first | apply oV_intro | apply oH_intro | apply oB_intro);(simp (disch:=first | exact dA | fail) only [qcs,tb94,capnil,cutnil,capnil,hw0,hw1,hpos,hneg,Option.map_none,Option.map_some,hEg,irN,nrA,nrM,nrE,reduceIte,reduceCtorEq,nrL];with_reducible exact rfl)) | (with_reducible first | refine W_regionF lv94 fun K hK => ?_));try simp only [↓pb,↓pd,qds,tb94,capnil,cutnil,capnil,hw0,hw1,hpos,hneg,Option.map_none,Option.map_some,hEg,irN,nrA,nrM,nrE,reduceIte,reduceCtorEq,nrL]) | ((with_reducible apply W_cond);(simp only [↓pb,qbs,tb94,capnil,cutnil,capnil,hw0,hw1,hpos,hneg,Option.map_none,Option.map_some,hEg,irN,nrA,nrM,nrE,reduceIte,reduceCtorEq,nrL];with_reducible exact rfl);all_goals (intro hc;(first | exact hcX hc | try simp only [hcs] at hc))) | (with_reducible first | refine W_seq ?_ | refine W_skip ?_ | refine W_ret ?_) | fail)
 refine oB_intro (apmk114 h0 hn) ?_
 have hcut : sliceA Try.prog (H.upd (H.n + 1) H.n (.cells (nf n) 119 (.gr H.n 1 true))) 114 (.slice (some ⟨H.n,0,none⟩) n n) none (some (.int .i64 ((0 : Nat) : Int))) none = some (.slice (some ⟨H.n,0,none⟩) 0 n):=cut0 upd_get_same
 repeat' (first | ((with_reducible refine hK _ _ fun e2 hEn => ?_);clear hK K;simp only [lv94,forallC,forallL,and_true] at hEn;(try simp only [↓pb,qbs,tb94,capnil,hcut,Option.map_none,Option.map_some,hEg,irN,nrA,nrM,nrE,reduceIte,reduceCtorEq,nrL] at hEn);clear hEg;(try clear eg);have hEg:=hEn;clear hEn;rename Env => eg) | ((first | ((with_reducible first | apply oV_intro | apply oH_intro | apply oB_intro);(simp (disch:=first | exact dA | fail) only [qcs,tb94,capnil,hcut,Option.map_none,Option.map_some,hEg,irN,nrA,nrM,nrE,reduceIte,reduceCtorEq,nrL];with_reducible exact rfl)) | (with_reducible first | refine W_regionF lv94 fun K hK => ?_));try simp only [↓pb,↓pd,qds,tb94,capnil,hcut,Option.map_none,Option.map_some,hEg,irN,nrA,nrM,nrE,reduceIte,reduceCtorEq,nrL]) | ((with_reducible apply W_cond);(simp only [↓pb,qbs,tb94,capnil,hcut,Option.map_none,Option.map_some,hEg,irN,nrA,nrM,nrE,reduceIte,reduceCtorEq,nrL];with_reducible exact rfl);all_goals (intro hc;(first | exact hcX hc | try simp only [hcs] at hc))) | (with_reducible first | refine W_seq ?_ | refine W_skip ?_ | refine W_ret ?_) | fail)
 refine ⟨by first | exact .inl rfl | exact .inr rfl, ?_⟩
 rw [ret1 Try.results94]
 simp only [↓pb,qbs,tb94,capnil,rv_tmp,rv_cell,hEg,irN,nrA,nrM,nrE,reduceIte,reduceCtorEq,nrL]
 repeat ((with_reducible apply oV_intro);(simp (disch:=first | exact dA | fail) only [qcs,tb94,capnil,hEg,irN,nrA,nrM,nrE,reduceIte,reduceCtorEq,nrL];exact rfl))
 exact ⟨⟨sole_new hT,Nat.lt_succ_self _⟩,(by exact frA)⟩
theorem cut_sole {H : AHeap} {b : Nat} {z : List Value} {T : TypeId} {e : Nat} (hg : H.get b = .cells z T (.gr b e true)) (so : Sole H b) (hz : 0 < z.length) : H.cut b 0 = H.upd H.n b (.cells z T (.gr b e false)):=by
 unfold AHeap.cut AHeap.upd
 congr 1
 funext c
 by_cases q : c = b
 ·subst q
  rw [if_neg (Nat.lt_irrefl _),if_pos rfl,hg]
  show (if _ then _ else _) = _
  rw [if_pos ⟨rfl,hz⟩]
 ·rw [if_neg q]
  split
  ·rfl
  ·cases hh : H.get c with
   | cells d T' k =>
    cases k with
    | gr g' e' l =>
     show (if _ then _ else _) = _
     rw [if_neg]
     rintro ⟨rfl,_⟩
     exact q (so _ _ _ _ _ hh)
    | ex => rfl
    | ro => rfl
   | _ => rfl
theorem grown114 {H : AHeap} {b k m : Nat} {x : Value} {new z : List Value} (hg : H.get b = .cells z 119 (.gr b 1 true)) (so : Sole H b) (hz : 0 < z.length) (S : SR H 1 m x new) (hm : 0 < m) (hb : m ≤ 1000000) :
  appendOp Try.prog #[114,114] [.slice (some ⟨b,0,none⟩) 0 k,x] H = some (.slice (some ⟨H.n,0,none⟩) m m,(H.upd H.n b (.cells z 119 (.gr b 1 false))).upd (H.n + 1) H.n (.cells new 119 (.gr b 1 true))):=by
 rw [appendOp_of und114 und114 sz119 S]
 unfold appendA
 simp only [und114,sz119,by119,zr119]
 rw [if_pos ⟨by kernel_rfl,by kernel_rfl,by decide,S.len⟩]
 have hm0 : m ≠ 0:=by omega
 simp only [hm0,false_and,if_false,ne_eq,not_true_eq_false,hg]
 rw [if_pos ⟨rfl,by omega,by omega,by omega⟩]
 simp only [and_self,if_true,Nat.zero_mul,List.take_zero,List.nil_append,Nat.zero_add]
 rw [cut_sole hg so hz]
 rfl
def LFro (H : AHeap) (g p : Nat) : Prop:=∀ b c T e,H.get b = .cells c T (.gr g e true) → c.length ≤ p
theorem LFro.cut {H : AHeap} {g p : Nat} (h : LFro H g p) : H.cut g p = H:=by
 unfold AHeap.cut
 show (⟨H.n,_⟩ : AHeap) = ⟨H.n,H.get⟩
 congr 1
 funext c
 split
 ·rfl
 ·cases hh : H.get c with
  | cells d T' k =>
   cases k with
   | gr g' e' l =>
    show (if _ then _ else _) = _
    split
    ·rename_i q
     cases l with
     | false => rfl
     | true =>
      have:=h c d T' e' (q.1 ▸ hh)
      omega
    ·rfl
   | ex => rfl
   | ro => rfl
  | _ => rfl
theorem app_live {H : AHeap} {b0 B n m : Nat} {x : Value} {c new : List Value} (hg : H.get B = .cells c 119 (.gr b0 1 true)) (hl : c.length = n) (lf : LFro H b0 n) (S : SR H 1 m x new) (hm : 0 < m) (hb : n + m ≤ 1000000) :
  appendOp Try.prog #[114,114] [.slice (some ⟨B,0,none⟩) n n,x] H = some (.slice (some ⟨H.n,0,none⟩) (n + m) (n + m),H.upd (H.n + 1) H.n (.cells (c ++ new) 119 (.gr b0 1 true))):=by
 rw [appendOp_of und114 und114 sz119 S]
 unfold appendA
 simp only [und114,sz119,by119,zr119]
 rw [if_pos ⟨by kernel_rfl,by kernel_rfl,by decide,S.len⟩]
 have hm0 : m ≠ 0:=by omega
 simp only [hm0,false_and,if_false,ne_eq,not_true_eq_false,hg]
 rw [if_pos ⟨rfl,by omega,by omega,by omega⟩]
 simp only [and_self,if_true,Nat.mul_one]
 rw [lf.cut,← hl,List.take_length]
 rfl
theorem app_live0 {H : AHeap} {B n : Nat} {x : Value} {new : List Value} (S : SR H 1 0 x new) : appendOp Try.prog #[114,114] [.slice (some ⟨B,0,none⟩) n n,x] H = some (.slice (some ⟨B,0,none⟩) n n,H):=by
 rw [appendOp_of und114 und114 sz119 S]
 unfold appendA
 simp only [und114,sz119,by119,zr119]
 rw [if_pos ⟨by kernel_rfl,by kernel_rfl,by decide,S.len⟩]
 simp
theorem SR.wholeR {H : AHeap} {s n b : Nat} {c : List Value} (hb : b < H.n) (hg : H.rd b = some c) (hl : c.length = n * s) : SR H s n (.slice (some ⟨b,0,none⟩) n n) c:=by
 refine ⟨.inr ⟨_,_,_,rfl,Nat.le_refl _⟩,hl,.inr ⟨c,hg, ?_, ?_⟩,.inr hb⟩
 ·show 0 + n * s ≤ c.length
  omega
 ·show (c.drop 0).take (n * s) = c
  rw [List.drop_zero,List.take_of_length_le (by omega)]
set_option maxHeartbeats 2000000 in
theorem f73 (b : Nat) (v1 v2 : Value) (rs ss : List Rul) (g1 g2 : Option Nat) (N1 N2 : Nat) (H : AHeap) (hT : Top H) (hb : b < H.n) (hg : H.get b = .cells [v1,v2] 114 .ex) (R1 : RS H N1 v1 rs g1) (R2 : RS H N2 v2 ss g2) (h0 : 0 < rs.length) (hl : rs.length + ss.length ≤ 1000000) :
  ∃ v H',C5 (.fn 73) #[.slice (some ⟨b,0,none⟩) 2 2] H v H' ∧ (∃ vs,SR H' 1 (rs ++ ss).length v vs ∧ RulesV H' [] vs (rs ++ ss) ∧ H.n ≤ vblk v) ∧ Fr H.n [] H H':=by
 obtain ⟨vi,hvi⟩ : ∃ vi : Nat → Value,vi = fun i => if i = 0 then v1 else v2:=⟨_,rfl⟩
 obtain ⟨li,hli⟩ : ∃ li : Nat → List Rul,li = fun i => if i = 0 then rs else ss:=⟨_,rfl⟩
 obtain ⟨sm,hsm⟩ : ∃ sm : Nat → Nat,sm = fun i => if i = 0 then 0 else if i = 1 then rs.length else rs.length + ss.length:=⟨_,rfl⟩
 have hs0 : sm 0 = 0:=by subst hsm;rfl
 have hs2 : sm 2 = rs.length + ss.length:=by subst hsm;rfl
 have hss : ∀ i,i < 2 → sm (i + 1) = sm i + (li i).length:=fun i hi => by
  subst hsm hli
  rcases (by omega : i = 0 ∨ i = 1) with rfl | rfl
  ·show rs.length = 0 + rs.length
   omega
  ·rfl
 have hRv : ∀ i,i < 2 → ∃ vs,∀ h,Fr H.n [] H h → SR h 1 (li i).length (vi i) vs ∧ RulesV h [] vs (li i):=fun i hi => by
  subst hvi hli
  rcases (by omega : i = 0 ∨ i = 1) with rfl | rfl
  ·obtain ⟨vs,a1,a2,a3⟩:=R1
   exact ⟨vs,fun h F => ⟨a1.sr.fr0 F,a3.fr F (by simp)⟩⟩
  ·obtain ⟨vs,a1,a2,a3⟩:=R2
   exact ⟨vs,fun h F => ⟨a1.sr.fr0 F,a3.fr F (by simp)⟩⟩
 have S0 : SR H 1 2 (.slice (some ⟨b,0,none⟩) 2 2) [v1,v2]:=SR.whole hb hg rfl
 have hat : ∀ i,i < 2 → ([v1,v2] : List Value)[i]? = some (vi i):=fun i hi => by
  subst hvi
  rcases (by omega : i = 0 ∨ i = 1) with rfl | rfl <;> rfl
 have hsb : ∀ i,i ≤ 2 → sm i ≤ rs.length + ss.length:=fun i hi => by
  subst hsm
  rcases (by omega : i = 0 ∨ i = 1 ∨ i = 2) with rfl | rfl | rfl
  ·show 0 ≤ _
   omega
  ·show rs.length ≤ _
   omega
  ·exact Nat.le_refl _
 have hvb : vblk (.slice (some ⟨b,0,none⟩) 2 2) = b:=rfl
 have hvo : voff (.slice (some ⟨b,0,none⟩) 2 2) = 0:=rfl
 refine Cl.ofW Try.func73 rfl (by kernel_rfl) (by rw [Try.ntmps73];exact Nat.le_of_ble_eq_true rfl) (by kernel_rfl) ?_
 have hEg : True:=trivial
 refine gcW [0] ?_
 intro eg hEn
 simp only [forallC,forallL,and_true] at hEn
 try simp only [↓pb,qbs,tb73,lns150 S0,hEg,irN,nrA,nrM,nrE,reduceIte,reduceCtorEq,nrL] at hEn
 replace hEg:=hEn;clear hEn
 repeat' (first | ((with_reducible refine hK _ _ fun e2 hEn => ?_);clear hK K;simp only [lv73,forallC,forallL,and_true] at hEn;(try simp only [↓pb,qbs,tb73,lns150 S0,hEg,irN,nrA,nrM,nrE,reduceIte,reduceCtorEq,nrL] at hEn);clear hEg;(try clear eg);have hEg:=hEn;clear hEn;rename Env => eg) | ((first | ((with_reducible first | apply oV_intro | apply oH_intro | apply oB_intro);(simp (disch:=first | exact dA | fail) only [qcs,tb73,lns150 S0,hEg,irN,nrA,nrM,nrE,reduceIte,reduceCtorEq,nrL];with_reducible exact rfl)) | (with_reducible first | refine W_regionF lv73 fun K hK => ?_));try simp only [↓pb,↓pd,qds,tb73,lns150 S0,hEg,irN,nrA,nrM,nrE,reduceIte,reduceCtorEq,nrL]) | ((with_reducible apply W_cond);(simp only [↓pb,qbs,tb73,lns150 S0,hEg,irN,nrA,nrM,nrE,reduceIte,reduceCtorEq,nrL];with_reducible exact rfl);all_goals (intro hc;(first | exact hcX hc | try simp only [hcs] at hc))) | (with_reducible first | refine W_seq ?_ | refine W_block ?_ | refine W_skip ?_ | refine W_ret ?_ | refine W_exit ?_ | apply blockK_exit) | ((with_reducible apply blockK_pass);(focus decide)) | fail)
 refine W_count [0,9,10] (by kernel_rfl) 11 (2) (H.n) [] [] (fun i e h => e 3 = iv (sm i)) (by simp only [↓pb,qbs,tb73,lns150 S0,hEg,irN,nrA,nrM,nrE,reduceIte,reduceCtorEq,nrL]) (by focus exact topA) (H0:=H) (by focus exact frA) (by intro b hb hlt;simp at hb ⊢;try omega) ?_ ?_
 rotate_left
 intro i1 e1 h1 hi1 hE1 ei1 hF1 hF01 hTh1 hJ1
 simp only [forallC,forallL,and_true] at hE1
 try simp only [↓pb,qbs,tb73,lns150 S0,hEg,irN,nrA,nrM,nrE,reduceIte,reduceCtorEq,nrL] at hE1
 have hn11:=hF1.n;have hn01:=hF01.n;try simp only [upd_n,jn_n] at hn11
 replace hEg:=And.intro ei1 hE1
 rotate_left
 ·simp only [↓pb,qbs,tb73,lns150 S0,hEg,irN,nrA,nrM,nrE,reduceIte,reduceCtorEq,nrL]
  rw [hs0]
  rfl
 by_cases hi2 : i1 < 2
 ·have S1:=S0.fr0 hF1
  have hrd : h1.rd b = some [v1,v2]:=by rw [hF1.rd hb (by simp),rd_def,hg];rfl
  obtain ⟨vs,TT⟩:=hRv i1 hi2
  have T1:=(TT h1 hF01).1
  have hwr : IntKind.i64.wrap ((sm i1 : Int) + ((li i1).length : Int)) = ((sm (i1 + 1) : Nat) : Int):=by
   have q1:=hss i1 hi2
   have q2:=hsb (i1 + 1) (by omega)
   rw [wrap64 (by omega) (by omega)]
   omega
  have hneg : ¬ ((sm (i1 + 1) : Nat) : Int) < 0:=by omega
  repeat' (first | ((with_reducible refine hK _ _ fun e2 hEn => ?_);clear hK K;simp only [lv73,forallC,forallL,and_true] at hEn;(try simp only [↓pb,qbs,tb73,lns150 S0,hJ1,ias150 S1,hrd,hat i1 hi2,lns114 T1,hwr,Nat.mul_one,hvb,hvo,hneg,hEg,irN,nrA,nrM,nrE,reduceIte,reduceCtorEq,nrL] at hEn);clear hEg;(try clear eg);have hEg:=hEn;clear hEn;rename Env => eg) | ((first | ((with_reducible first | apply oV_intro | apply oH_intro | apply oB_intro);(simp (disch:=first | exact dA | fail) only [qcs,tb73,lns150 S0,hJ1,ias150 S1,hrd,hat i1 hi2,lns114 T1,hwr,Nat.mul_one,hvb,hvo,hneg,hEg,irN,nrA,nrM,nrE,reduceIte,reduceCtorEq,nrL];with_reducible exact rfl)) | (with_reducible first | refine W_regionF lv73 fun K hK => ?_));try simp only [↓pb,↓pd,qds,tb73,lns150 S0,hJ1,ias150 S1,hrd,hat i1 hi2,lns114 T1,hwr,Nat.mul_one,hvb,hvo,hneg,hEg,irN,nrA,nrM,nrE,reduceIte,reduceCtorEq,nrL]) | ((with_reducible apply W_cond);(simp only [↓pb,qbs,tb73,lns150 S0,hJ1,ias150 S1,hrd,hat i1 hi2,lns114 T1,hwr,Nat.mul_one,hvb,hvo,hneg,hEg,irN,nrA,nrM,nrE,reduceIte,reduceCtorEq,nrL];with_reducible exact rfl);all_goals (intro hc;(first | exact hcX hc | try simp only [hcs] at hc))) | (with_reducible first | refine W_seq ?_ | refine W_block ?_ | refine W_skip ?_ | refine W_ret ?_ | refine W_exit ?_ | apply blockK_exit) | ((with_reducible apply blockK_pass);(focus decide)) | fail)
  refine ⟨by omega,by simp only [↓pb,qbs,tb73,lns150 S0,hEg,irN,nrA,nrM,nrE,reduceIte,reduceCtorEq,nrL];exact congrArg _ (inc64 (by omega)),by focus exact frA, ?_⟩
  simp only [hEg]
 ·have e1n : i1 = 2:=by omega
  subst e1n
  rw [hs2] at hJ1
  have S1:=S0.fr0 hF1
  repeat' (first | ((with_reducible refine hK _ _ fun e2 hEn => ?_);clear hK K;simp only [lv73,forallC,forallL,and_true] at hEn;(try simp only [↓pb,qbs,tb73,lns150 S0,hJ1,lns150 S1,hEg,irN,nrA,nrM,nrE,reduceIte,reduceCtorEq,nrL] at hEn);clear hEg;(try clear eg);have hEg:=hEn;clear hEn;rename Env => eg) | ((first | ((with_reducible first | apply oV_intro | apply oH_intro | apply oB_intro);(simp (disch:=first | exact dA | fail) only [qcs,tb73,lns150 S0,hJ1,lns150 S1,hEg,irN,nrA,nrM,nrE,reduceIte,reduceCtorEq,nrL];with_reducible exact rfl)) | ((with_reducible apply WO_callF);(focus exact topA);(simp only [↓pb,qbs,tb73,lns150 S0,hJ1,lns150 S1,hEg,irN,nrA,nrM,nrE,reduceIte,reduceCtorEq,nrL];exact f94 _ _ (by exact topA) (by omega) (by omega));(rintro vq Gq hq hJq ⟨rfl,q1,q2,q3⟩;try simp only [upd_n,jn_n] at hq)) | (with_reducible first | refine W_regionF lv73 fun K hK => ?_));try simp only [↓pb,↓pd,qds,tb73,lns150 S0,hJ1,lns150 S1,hEg,irN,nrA,nrM,nrE,reduceIte,reduceCtorEq,nrL]) | ((with_reducible apply W_cond);(simp only [↓pb,qbs,tb73,lns150 S0,hJ1,lns150 S1,hEg,irN,nrA,nrM,nrE,reduceIte,reduceCtorEq,nrL];with_reducible exact rfl);all_goals (intro hc;(first | exact hcX hc | try simp only [hcs] at hc))) | (with_reducible first | refine W_seq ?_ | refine W_block ?_ | refine W_skip ?_ | refine W_ret ?_ | refine W_exit ?_ | apply blockK_exit) | ((with_reducible apply blockK_pass);(focus decide)) | fail)
  obtain ⟨GB,hGB⟩ : ∃ GB,GB = h1.n:=⟨_,rfl⟩
  rw [← hGB] at q1 q2 q3 hEg
  repeat' (first | ((with_reducible refine hK _ _ fun e2 hEn => ?_);clear hK K;simp only [lv73,forallC,forallL,and_true] at hEn;(try simp only [↓pb,qbs,tb73,lns150 S0,lns150 S1,hEg,irN,nrA,nrM,nrE,reduceIte,reduceCtorEq,nrL] at hEn);clear hEg;(try clear eg);have hEg:=hEn;clear hEn;rename Env => eg) | ((first | ((with_reducible first | apply oV_intro | apply oH_intro | apply oB_intro);(simp (disch:=first | exact dA | fail) only [qcs,tb73,lns150 S0,lns150 S1,hEg,irN,nrA,nrM,nrE,reduceIte,reduceCtorEq,nrL];with_reducible exact rfl)) | (with_reducible first | refine W_regionF lv73 fun K hK => ?_));try simp only [↓pb,↓pd,qds,tb73,lns150 S0,lns150 S1,hEg,irN,nrA,nrM,nrE,reduceIte,reduceCtorEq,nrL]) | ((with_reducible apply W_cond);(simp only [↓pb,qbs,tb73,lns150 S0,lns150 S1,hEg,irN,nrA,nrM,nrE,reduceIte,reduceCtorEq,nrL];with_reducible exact rfl);all_goals (intro hc;(first | exact hcX hc | try simp only [hcs] at hc))) | (with_reducible first | refine W_seq ?_ | refine W_block ?_ | refine W_skip ?_ | refine W_ret ?_ | refine W_exit ?_ | apply blockK_exit) | ((with_reducible apply blockK_pass);(focus decide)) | fail)
  refine W_count [25,26] (by kernel_rfl) 27 (2) (H.n) [GB] [] (fun i e h => (i = 0 → e 6 = .slice (some ⟨GB,0,none⟩) 0 (rs.length + ss.length) ∧ h.get GB = .cells (nf (rs.length + ss.length)) 119 (.gr GB 1 true) ∧ Sole h GB) ∧ (i = 1 → ∃ c B1,e 6 = .slice (some ⟨B1,0,none⟩) rs.length rs.length ∧ h.get B1 = .cells c 119 (.gr GB 1 true) ∧ c.length = rs.length ∧ LFro h GB rs.length ∧ RulesV h [] c rs ∧ H.n ≤ B1 ∧ B1 < h.n) ∧ (i = 2 → ∃ c v,e 6 = v ∧ SR h 1 (rs ++ ss).length v c ∧ RulesV h [] c (rs ++ ss) ∧ H.n ≤ vblk v)) (by simp only [↓pb,qbs,tb73,lns150 S0,hEg,irN,nrA,nrM,nrE,reduceIte,reduceCtorEq,nrL]) (by focus exact topA) (H0:=H) (by focus exact frA) (by intro b hb hlt;simp at hb ⊢;try omega) ?_ ?_
  rotate_left
  intro i2 e2 h2 hi2 hE2 ei2 hF2 hF02 hTh2 hJ2
  simp only [forallC,forallL,and_true] at hE2
  try simp only [↓pb,qbs,tb73,lns150 S0,hEg,irN,nrA,nrM,nrE,reduceIte,reduceCtorEq,nrL] at hE2
  have hn12:=hF2.n;have hn02:=hF02.n;try simp only [upd_n,jn_n] at hn12
  replace hEg:=And.intro ei2 hE2
  rotate_left
  ·exact ⟨fun _ => ⟨by simp only [↓pb,qbs,tb73,lns150 S0,hEg,irN,nrA,nrM,nrE,reduceIte,reduceCtorEq,nrL],q1,q2⟩,fun q => by omega,fun q => by omega⟩
  have hGl : GB < h2.n:=Nat.lt_of_lt_of_le q3 hF2.n
  have hGH : H.n ≤ GB:=by omega
  have S2:=S0.fr0 hF02
  have hrd2 : h2.rd b = some [v1,v2]:=by rw [hF02.rd hb (by simp),rd_def,hg];rfl
  by_cases hz : i2 = 0
  ·obtain ⟨e6,k1,so⟩:=hJ2.1 hz
   obtain ⟨vs,TT⟩:=hRv i2 (by omega)
   have hl2 : li i2 = rs:=by rw [hli,hz];rfl
   rw [hl2] at TT
   have T1:=(TT h2 hF02).1
   repeat' (first | ((with_reducible refine hK _ _ fun e2 hEn => ?_);clear hK K;simp only [lv73,forallC,forallL,and_true] at hEn;(try simp only [↓pb,qbs,tb73,lns150 S0,e6,ias150 S2,hrd2,hat i2 (by omega),hvb,hvo,Nat.mul_one,hEg,irN,nrA,nrM,nrE,reduceIte,reduceCtorEq,nrL] at hEn);clear hEg;(try clear eg);have hEg:=hEn;clear hEn;rename Env => eg) | ((first | ((with_reducible first | apply oV_intro | apply oH_intro | apply oB_intro);(simp (disch:=first | exact dA | fail) only [qcs,tb73,lns150 S0,e6,ias150 S2,hrd2,hat i2 (by omega),hvb,hvo,Nat.mul_one,hEg,irN,nrA,nrM,nrE,reduceIte,reduceCtorEq,nrL];with_reducible exact rfl)) | (with_reducible first | refine W_regionF lv73 fun K hK => ?_));try simp only [↓pb,↓pd,qds,tb73,lns150 S0,e6,ias150 S2,hrd2,hat i2 (by omega),hvb,hvo,Nat.mul_one,hEg,irN,nrA,nrM,nrE,reduceIte,reduceCtorEq,nrL]) | ((with_reducible apply W_cond);(simp only [↓pb,qbs,tb73,lns150 S0,e6,ias150 S2,hrd2,hat i2 (by omega),hvb,hvo,Nat.mul_one,hEg,irN,nrA,nrM,nrE,reduceIte,reduceCtorEq,nrL];with_reducible exact rfl);all_goals (intro hc;(first | exact hcX hc | try simp only [hcs] at hc))) | (with_reducible first | refine W_seq ?_ | refine W_block ?_ | refine W_skip ?_ | refine W_ret ?_ | refine W_exit ?_ | apply blockK_exit) | ((with_reducible apply blockK_pass);(focus decide)) | fail)
   refine oB_intro (grown114 k1 so (by rw [nf_len];omega) T1 h0 (by omega)) ?_
   have F3 : Fr H.n [] H ((h2.upd h2.n GB (.cells (nf (rs.length + ss.length)) 119 (.gr GB 1 false))).upd (h2.n + 1) h2.n (.cells vs 119 (.gr GB 1 true))):=by exact frA
   repeat' (first | ((with_reducible refine hK _ _ fun e2 hEn => ?_);clear hK K;simp only [lv73,forallC,forallL,and_true] at hEn;(try simp only [↓pb,qbs,tb73,lns150 S0,hEg,irN,nrA,nrM,nrE,reduceIte,reduceCtorEq,nrL] at hEn);clear hEg;(try clear eg);have hEg:=hEn;clear hEn;rename Env => eg) | ((first | ((with_reducible first | apply oV_intro | apply oH_intro | apply oB_intro);(simp (disch:=first | exact dA | fail) only [qcs,tb73,lns150 S0,hEg,irN,nrA,nrM,nrE,reduceIte,reduceCtorEq,nrL];with_reducible exact rfl)) | (with_reducible first | refine W_regionF lv73 fun K hK => ?_));try simp only [↓pb,↓pd,qds,tb73,lns150 S0,hEg,irN,nrA,nrM,nrE,reduceIte,reduceCtorEq,nrL]) | ((with_reducible apply W_cond);(simp only [↓pb,qbs,tb73,lns150 S0,hEg,irN,nrA,nrM,nrE,reduceIte,reduceCtorEq,nrL];with_reducible exact rfl);all_goals (intro hc;(first | exact hcX hc | try simp only [hcs] at hc))) | (with_reducible first | refine W_seq ?_ | refine W_block ?_ | refine W_skip ?_ | refine W_ret ?_ | refine W_exit ?_ | apply blockK_exit) | ((with_reducible apply blockK_pass);(focus decide)) | fail)
   refine ⟨by omega,by simp only [↓pb,qbs,tb73,lns150 S0,hEg,irN,nrA,nrM,nrE,reduceIte,reduceCtorEq,nrL];exact congrArg _ (inc64 (by omega)),by focus exact frA, ?_⟩
   refine ⟨fun q => by omega,fun _ => ⟨vs,h2.n,by simp only [hEg],upd_get_same,by have:=T1.len;omega, ?_,(TT _ F3).2,by omega,Nat.lt_succ_self _⟩,fun q => by omega⟩
   intro b' c T e hg'
   have hlv:=T1.len
   by_cases q : b' = h2.n
   ·subst q
    rw [upd_get_same] at hg'
    cases hg'
    omega
   ·rw [upd_get_ne q] at hg'
    by_cases q2 : b' = GB
    ·subst q2
     rw [upd_get_same] at hg'
     cases hg'
    ·rw [upd_get_ne q2] at hg'
     exact absurd (so _ _ _ _ _ hg') q2
  by_cases hz1 : i2 = 1
  ·obtain ⟨c,B1,e6,k1,k2,lf,RV,hB1,hB2⟩:=hJ2.2.1 hz1
   obtain ⟨vs,TT⟩:=hRv i2 (by omega)
   have hl2 : li i2 = ss:=by rw [hli,hz1];rfl
   rw [hl2] at TT
   have T1:=(TT h2 hF02).1
   repeat' (first | ((with_reducible refine hK _ _ fun e2 hEn => ?_);clear hK K;simp only [lv73,forallC,forallL,and_true] at hEn;(try simp only [↓pb,qbs,tb73,lns150 S0,e6,ias150 S2,hrd2,hat i2 (by omega),hvb,hvo,Nat.mul_one,hEg,irN,nrA,nrM,nrE,reduceIte,reduceCtorEq,nrL] at hEn);clear hEg;(try clear eg);have hEg:=hEn;clear hEn;rename Env => eg) | ((first | ((with_reducible first | apply oV_intro | apply oH_intro | apply oB_intro);(simp (disch:=first | exact dA | fail) only [qcs,tb73,lns150 S0,e6,ias150 S2,hrd2,hat i2 (by omega),hvb,hvo,Nat.mul_one,hEg,irN,nrA,nrM,nrE,reduceIte,reduceCtorEq,nrL];with_reducible exact rfl)) | (with_reducible first | refine W_regionF lv73 fun K hK => ?_));try simp only [↓pb,↓pd,qds,tb73,lns150 S0,e6,ias150 S2,hrd2,hat i2 (by omega),hvb,hvo,Nat.mul_one,hEg,irN,nrA,nrM,nrE,reduceIte,reduceCtorEq,nrL]) | ((with_reducible apply W_cond);(simp only [↓pb,qbs,tb73,lns150 S0,e6,ias150 S2,hrd2,hat i2 (by omega),hvb,hvo,Nat.mul_one,hEg,irN,nrA,nrM,nrE,reduceIte,reduceCtorEq,nrL];with_reducible exact rfl);all_goals (intro hc;(first | exact hcX hc | try simp only [hcs] at hc))) | (with_reducible first | refine W_seq ?_ | refine W_block ?_ | refine W_skip ?_ | refine W_ret ?_ | refine W_exit ?_ | apply blockK_exit) | ((with_reducible apply blockK_pass);(focus decide)) | fail)
   by_cases hm : ss.length = 0
   ·refine oB_intro (app_live0 (by rw [← hm];exact T1)) ?_
    repeat' (first | ((with_reducible refine hK _ _ fun e2 hEn => ?_);clear hK K;simp only [lv73,forallC,forallL,and_true] at hEn;(try simp only [↓pb,qbs,tb73,lns150 S0,hEg,irN,nrA,nrM,nrE,reduceIte,reduceCtorEq,nrL] at hEn);clear hEg;(try clear eg);have hEg:=hEn;clear hEn;rename Env => eg) | ((first | ((with_reducible first | apply oV_intro | apply oH_intro | apply oB_intro);(simp (disch:=first | exact dA | fail) only [qcs,tb73,lns150 S0,hEg,irN,nrA,nrM,nrE,reduceIte,reduceCtorEq,nrL];with_reducible exact rfl)) | (with_reducible first | refine W_regionF lv73 fun K hK => ?_));try simp only [↓pb,↓pd,qds,tb73,lns150 S0,hEg,irN,nrA,nrM,nrE,reduceIte,reduceCtorEq,nrL]) | ((with_reducible apply W_cond);(simp only [↓pb,qbs,tb73,lns150 S0,hEg,irN,nrA,nrM,nrE,reduceIte,reduceCtorEq,nrL];with_reducible exact rfl);all_goals (intro hc;(first | exact hcX hc | try simp only [hcs] at hc))) | (with_reducible first | refine W_seq ?_ | refine W_block ?_ | refine W_skip ?_ | refine W_ret ?_ | refine W_exit ?_ | apply blockK_exit) | ((with_reducible apply blockK_pass);(focus decide)) | fail)
    refine ⟨by omega,by simp only [↓pb,qbs,tb73,lns150 S0,hEg,irN,nrA,nrM,nrE,reduceIte,reduceCtorEq,nrL];exact congrArg _ (inc64 (by omega)),by focus exact frA, ?_⟩
    have hs0 : ss = []:=List.eq_nil_of_length_eq_zero hm
    refine ⟨fun q => by omega,fun q => by omega,fun _ => ⟨c,.slice (some ⟨B1,0,none⟩) rs.length rs.length,by simp only [hEg,e6], ?_, ?_,hB1⟩⟩
    ·rw [hs0,List.append_nil]
     exact SR.wholeR hB2 (by rw [rd_def,k1];rfl) (by omega)
    ·rw [hs0,List.append_nil]
     exact RV
   ·refine oB_intro (app_live k1 k2 lf T1 (by omega) (by omega)) ?_
    have F3 : Fr H.n [] H (h2.upd (h2.n + 1) h2.n (.cells (c ++ vs) 119 (.gr GB 1 true))):=by exact frA
    have F4 : Fr H.n [] h2 (h2.upd (h2.n + 1) h2.n (.cells (c ++ vs) 119 (.gr GB 1 true))):=by exact frA
    repeat' (first | ((with_reducible refine hK _ _ fun e2 hEn => ?_);clear hK K;simp only [lv73,forallC,forallL,and_true] at hEn;(try simp only [↓pb,qbs,tb73,lns150 S0,hEg,irN,nrA,nrM,nrE,reduceIte,reduceCtorEq,nrL] at hEn);clear hEg;(try clear eg);have hEg:=hEn;clear hEn;rename Env => eg) | ((first | ((with_reducible first | apply oV_intro | apply oH_intro | apply oB_intro);(simp (disch:=first | exact dA | fail) only [qcs,tb73,lns150 S0,hEg,irN,nrA,nrM,nrE,reduceIte,reduceCtorEq,nrL];with_reducible exact rfl)) | (with_reducible first | refine W_regionF lv73 fun K hK => ?_));try simp only [↓pb,↓pd,qds,tb73,lns150 S0,hEg,irN,nrA,nrM,nrE,reduceIte,reduceCtorEq,nrL]) | ((with_reducible apply W_cond);(simp only [↓pb,qbs,tb73,lns150 S0,hEg,irN,nrA,nrM,nrE,reduceIte,reduceCtorEq,nrL];with_reducible exact rfl);all_goals (intro hc;(first | exact hcX hc | try simp only [hcs] at hc))) | (with_reducible first | refine W_seq ?_ | refine W_block ?_ | refine W_skip ?_ | refine W_ret ?_ | refine W_exit ?_ | apply blockK_exit) | ((with_reducible apply blockK_pass);(focus decide)) | fail)
    refine ⟨by omega,by simp only [↓pb,qbs,tb73,lns150 S0,hEg,irN,nrA,nrM,nrE,reduceIte,reduceCtorEq,nrL];exact congrArg _ (inc64 (by omega)),by focus exact frA, ?_⟩
    refine ⟨fun q => by omega,fun q => by omega,fun _ => ⟨c ++ vs,.slice (some ⟨h2.n,0,none⟩) (rs.length + ss.length) (rs.length + ss.length),by simp only [hEg,e6], ?_, ?_,by show H.n ≤ h2.n;omega⟩⟩
    ·rw [List.length_append]
     exact SR.wholeR (Nat.lt_succ_self _) (by rw [rd_def,upd_get_same];rfl) (by have:=T1.len;rw [List.length_append];omega)
    ·exact (RV.fr F4 (by simp)).app (TT _ F3).2
  ·have e2n : i2 = 2:=by omega
   obtain ⟨c,v,e6,k1,k2,k3⟩:=hJ2.2.2 e2n
   subst e2n
   have o1:=k1.one
   repeat' (first | ((with_reducible refine hK _ _ fun e2 hEn => ?_);clear hK K;simp only [lv73,forallC,forallL,and_true] at hEn;(try simp only [↓pb,qbs,tb73,lns150 S0,e6,o1,hEg,irN,nrA,nrM,nrE,reduceIte,reduceCtorEq,nrL] at hEn);clear hEg;(try clear eg);have hEg:=hEn;clear hEn;rename Env => eg) | ((first | ((with_reducible first | apply oV_intro | apply oH_intro | apply oB_intro);(simp (disch:=first | exact dA | fail) only [qcs,tb73,lns150 S0,e6,o1,hEg,irN,nrA,nrM,nrE,reduceIte,reduceCtorEq,nrL];with_reducible exact rfl)) | (with_reducible first | refine W_regionF lv73 fun K hK => ?_));try simp only [↓pb,↓pd,qds,tb73,lns150 S0,e6,o1,hEg,irN,nrA,nrM,nrE,reduceIte,reduceCtorEq,nrL]) | ((with_reducible apply W_cond);(simp only [↓pb,qbs,tb73,lns150 S0,e6,o1,hEg,irN,nrA,nrM,nrE,reduceIte,reduceCtorEq,nrL];with_reducible exact rfl);all_goals (intro hc;(first | exact hcX hc | try simp only [hcs] at hc))) | (with_reducible first | refine W_seq ?_ | refine W_block ?_ | refine W_skip ?_ | refine W_ret ?_ | refine W_exit ?_ | apply blockK_exit) | ((with_reducible apply blockK_pass);(focus decide)) | fail)
   refine ⟨by first | exact .inl rfl | exact .inr rfl, ?_⟩
   rw [ret1 Try.results73]
   simp only [↓pb,qbs,tb73,lns150 S0,rv_tmp,rv_cell,hEg,irN,nrA,nrM,nrE,reduceIte,reduceCtorEq,nrL]
   repeat ((with_reducible apply oV_intro);(simp (disch:=first | exact dA | fail) only [qcs,tb73,lns150 S0,hEg,irN,nrA,nrM,nrE,reduceIte,reduceCtorEq,nrL];exact rfl))
   exact ⟨⟨c,k1,k2,k3⟩,(by exact frA)⟩
theorem splice_at {α : Type} {enc : α → List Value} {s : Nat} (hs : ∀ a,(enc a).length = s) : ∀ (l : List α) (i : Nat) (x : α),i < l.length → splice (l.flatMap enc) (i * s) (enc x) = (l.set i x).flatMap enc
 | [],i,x,h => by simp at h
 | a :: l,0,x,h => by
  rw [Nat.zero_mul]
  show splice (enc a ++ l.flatMap enc) 0 (enc x) = enc x ++ l.flatMap enc
  unfold splice
  rw [List.take_zero,List.nil_append,Nat.zero_add,List.drop_left' (by rw [hs,hs])]
 | a :: l,i + 1,x,h => by
  have ih:=splice_at hs l i x (by simpa using h)
  rw [List.flatMap_cons,show (i + 1) * s = (enc a).length + i * s by rw [hs,Nat.add_mul,Nat.one_mul,Nat.add_comm],splice_off,ih]
  rfl
theorem eS_mat (s : Sums) {a b : Nat} (ha : a < 11) (hb : b < 11) : (eS s)[a * 11 + b]? = some (iv (s.mat a b)):=by
 have:=s.2
 unfold eS
 rw [ints_at (by omega)]
 rfl
set_option maxHeartbeats 4000000 in
theorem f91 (bR bF : Nat) (vr : Value) (vs : List Value) (rules : List Rul) (hrl : rules.length ≤ 1000000) (hr2 : ∀ r,r ∈ rules → r.length ≤ 1000) : ∀ (n next : Nat) (va : Value) (all : List Sums) (H : AHeap),rules.length - next = n → next ≤ rules.length → Top H → bR < H.n → bF < H.n → H.get bR = .cells [vr] 114 .ex → H.get bF = .cells [.func (.func 91) #[] #[vptr bR 0,vptr bF 0]] 145 .ex → SR H 1 rules.length vr vs → RulesV H [] vs rules → SR H 121 all.length va (all.flatMap eS) → 0 < all.length → all.length ≤ 20 → RulsOk all.length rules →
  ∃ v H',C5 (.fn 91) #[iv next,va,vptr bR 0,vptr bF 0] H v H' ∧ v = .bool (keptL (rules.drop next) all) ∧ Fr H.n [] H H':=by
 intro n
 induction n with
 | zero =>
  intro next va all H hn hnx hT hR hF gR gF S RV SA ha0 ha1 hok
  have e1 : next = rules.length:=by omega
  subst e1
  have rR : H.rd bR = some [vr]:=by rw [rd_def,gR];rfl
  have o1:=S.one
  have o2:=SA.one
  refine Cl.ofW Try.func91 rfl (by kernel_rfl) (by rw [Try.ntmps91];exact Nat.le_of_ble_eq_true rfl) (by kernel_rfl) ?_
  have hEg : True:=trivial
  refine gcW [0,1,2,3] ?_
  intro eg hEn
  simp only [forallC,forallL,and_true] at hEn
  try simp only [↓pb,qbs,tb91,rR,lns114 S,hEg,irN,nrA,nrM,nrE,reduceIte,reduceCtorEq,nrL] at hEn
  replace hEg:=hEn;clear hEn
  repeat' (first | ((with_reducible refine hK _ _ fun e2 hEn => ?_);clear hK K;simp only [lv91,forallC,forallL,and_true] at hEn;(try simp only [↓pb,qbs,tb91,rR,lns114 S,hEg,irN,nrA,nrM,nrE,reduceIte,reduceCtorEq,nrL] at hEn);clear hEg;(try clear eg);have hEg:=hEn;clear hEn;rename Env => eg) | ((first | ((with_reducible first | apply oV_intro | apply oH_intro | apply oB_intro);(simp (disch:=first | exact dA | fail) only [qcs,tb91,rR,lns114 S,hEg,irN,nrA,nrM,nrE,reduceIte,reduceCtorEq,nrL];with_reducible exact rfl)) | ((with_reducible first | apply oblA_and | apply oblR_and | apply oblO_and);(focus exact obA)) | (with_reducible first | refine W_regionF lv91 fun K hK => ?_ | refine W_drawnF lv91 fun K hK => ?_));try simp only [↓pb,↓pd,qds,tb91,rR,lns114 S,hEg,irN,nrA,nrM,nrE,reduceIte,reduceCtorEq,nrL]) | ((with_reducible apply W_cond);(simp only [↓pb,qbs,tb91,rR,lns114 S,hEg,irN,nrA,nrM,nrE,reduceIte,reduceCtorEq,nrL];with_reducible exact rfl);all_goals (intro hc;(first | exact hcX hc | try simp only [hcs] at hc))) | (with_reducible first | refine W_seq ?_ | refine W_block ?_ | refine W_skip ?_ | refine W_ret ?_ | refine W_exit ?_ | apply blockK_exit) | ((with_reducible apply blockK_pass);(focus decide)) | fail)
  refine ⟨by first | exact .inl rfl | exact .inr rfl, ?_⟩
  rw [ret1 Try.results91]
  simp only [↓pb,qbs,tb91,rR,lns114 S,rv_tmp,rv_cell,hEg,irN,nrA,nrM,nrE,reduceIte,reduceCtorEq,nrL]
  repeat ((with_reducible apply oV_intro);(simp (disch:=first | exact dA | fail) only [qcs,tb91,rR,lns114 S,hEg,irN,nrA,nrM,nrE,reduceIte,reduceCtorEq,nrL];exact rfl))
  refine ⟨?_,(by exact frA)⟩
  rw [List.drop_of_length_le (Nat.le_refl _)]
  rfl
 | succ n ih =>
  intro next va all H hn hnx hT hR hF gR gF S RV SA ha0 ha1 hok
  have hnl : next < rules.length:=by omega
  have hne : ¬ (next : Int) = (rules.length : Int):=by omega
  have rR : H.rd bR = some [vr]:=by rw [rd_def,gR];rfl
  have rF : H.rd bF = some [.func (.func 91) #[] #[vptr bR 0,vptr bF 0]]:=by rw [rd_def,gF];rfl
  have o1:=S.one
  have o2:=SA.one
  obtain ⟨r,hr⟩ : ∃ r,r = rules.getD next default:=⟨_,rfl⟩
  have hmem : r ∈ rules:=hr ▸ getD_mem hnl
  have hkr:=hok r hmem
  have hlr:=hr2 r hmem
  have hdr : rules.drop next = r :: rules.drop (next + 1):=by rw [hr];exact drop_getD hnl
  obtain ⟨u,hu,hru⟩:=RV.at next hnl
  rw [← hr] at hru
  have lS:=S.lt
  have hld : (dOf H vr)[voff vr + next]? = some u:=by rw [← at1_def,S.at (j:=next) (by omega)];exact hu
  have hou:=hru.one'
  have hw1 : IntKind.i64.wrap ((next : Int) + 1) = ((next + 1 : Nat) : Int):=inc64 (by omega)
  refine Cl.ofW Try.func91 rfl (by kernel_rfl) (by rw [Try.ntmps91];exact Nat.le_of_ble_eq_true rfl) (by kernel_rfl) ?_
  have hEg : True:=trivial
  refine gcW [0,1,2,3] ?_
  intro eg hEn
  simp only [forallC,forallL,and_true] at hEn
  try simp only [↓pb,qbs,tb91,rR,lns114 S,hne,hEg,irN,nrA,nrM,nrE,reduceIte,reduceCtorEq,nrL] at hEn
  replace hEg:=hEn;clear hEn
  repeat' (first | ((with_reducible refine hK _ _ fun e2 hEn => ?_);clear hK K;simp only [lv91,forallC,forallL,and_true] at hEn;(try simp only [↓pb,qbs,tb91,rR,lns114 S,hne,ias114 S,S.rd,hld,Nat.mul_one,hne,hou,hEg,irN,nrA,nrM,nrE,reduceIte,reduceCtorEq,nrL] at hEn);clear hEg;(try clear eg);have hEg:=hEn;clear hEn;rename Env => eg) | ((first | ((with_reducible first | apply oV_intro | apply oH_intro | apply oB_intro);(simp (disch:=first | exact dA | fail) only [qcs,tb91,rR,lns114 S,hne,ias114 S,S.rd,hld,Nat.mul_one,hne,hou,hEg,irN,nrA,nrM,nrE,reduceIte,reduceCtorEq,nrL];with_reducible exact rfl)) | ((with_reducible first | apply oblA_and | apply oblR_and | apply oblO_and);(focus exact obA)) | ((with_reducible apply WO_callF);(focus exact topA);(simp only [↓pb,qbs,tb91,rR,lns114 S,hne,ias114 S,S.rd,hld,Nat.mul_one,hne,hou,hEg,irN,nrA,nrM,nrE,reduceIte,reduceCtorEq,nrL];exact fRule (hru.fr (N:=H.n) (X:=[]) (by exact frA) (by simp)) (by exact topA));(rintro vq Gq hq hJq Sw;try simp only [upd_n,jn_n] at hq)) | (with_reducible first | refine W_regionF lv91 fun K hK => ?_ | refine W_drawnF lv91 fun K hK => ?_));try simp only [↓pb,↓pd,qds,tb91,rR,lns114 S,hne,ias114 S,S.rd,hld,Nat.mul_one,hne,hou,hEg,irN,nrA,nrM,nrE,reduceIte,reduceCtorEq,nrL]) | ((with_reducible apply W_cond);(simp only [↓pb,qbs,tb91,rR,lns114 S,hne,ias114 S,S.rd,hld,Nat.mul_one,hne,hou,hEg,irN,nrA,nrM,nrE,reduceIte,reduceCtorEq,nrL];with_reducible exact rfl);all_goals (intro hc;(first | exact hcX hc | try simp only [hcs] at hc))) | (with_reducible first | refine W_seq ?_ | refine W_block ?_ | refine W_skip ?_ | refine W_ret ?_ | refine W_exit ?_ | apply blockK_exit) | ((with_reducible apply blockK_pass);(focus decide)) | fail)
  have oq:=Sw.one
  repeat' (first | ((with_reducible refine hK _ _ fun e2 hEn => ?_);clear hK K;simp only [lv91,forallC,forallL,and_true] at hEn;(try simp only [↓pb,qbs,tb91,rR,lns114 S,hne,lns142 Sw,hEg,irN,nrA,nrM,nrE,reduceIte,reduceCtorEq,nrL] at hEn);clear hEg;(try clear eg);have hEg:=hEn;clear hEn;rename Env => eg) | ((first | ((with_reducible first | apply oV_intro | apply oH_intro | apply oB_intro);(simp (disch:=first | exact dA | fail) only [qcs,tb91,rR,lns114 S,hne,lns142 Sw,hEg,irN,nrA,nrM,nrE,reduceIte,reduceCtorEq,nrL];with_reducible exact rfl)) | ((with_reducible first | apply oblA_and | apply oblR_and | apply oblO_and);(focus exact obA)) | (with_reducible first | refine W_regionF lv91 fun K hK => ?_ | refine W_drawnF lv91 fun K hK => ?_));try simp only [↓pb,↓pd,qds,tb91,rR,lns114 S,hne,lns142 Sw,hEg,irN,nrA,nrM,nrE,reduceIte,reduceCtorEq,nrL]) | ((with_reducible apply W_cond);(simp only [↓pb,qbs,tb91,rR,lns114 S,hne,lns142 Sw,hEg,irN,nrA,nrM,nrE,reduceIte,reduceCtorEq,nrL];with_reducible exact rfl);all_goals (intro hc;(first | exact hcX hc | try simp only [hcs] at hc))) | (with_reducible first | refine W_seq ?_ | refine W_block ?_ | refine W_skip ?_ | refine W_ret ?_ | refine W_exit ?_ | apply blockK_exit) | ((with_reducible apply blockK_pass);(focus decide)) | fail)
  have hext : ∀ h,Fr H.n [] H h → h.get bR = .cells [vr] 114 .ex ∧ h.get bF = .cells [.func (.func 91) #[] #[vptr bR 0,vptr bF 0]] 145 .ex ∧ SR h 1 rules.length vr vs ∧ RulesV h [] vs rules:=fun h F => ⟨by rw [F.old _ hR (by simp)];exact gR,by rw [F.old _ hF (by simp)];exact gF,S.fr0 F,RV.fr F (by simp)⟩
  have ih2 : ∀ (va : Value) (al : List Sums) (h : AHeap),Fr H.n [] H h → Top h → SR h 121 al.length va (al.flatMap eS) → al.length = all.length → ∃ v H',C5 (.fn 91) #[iv (next + 1 : Nat),va,vptr bR 0,vptr bF 0] h v H' ∧ v = .bool (keptL (rules.drop (next + 1)) al) ∧ Fr h.n [] h H':=fun va al h F T A e => by
   obtain ⟨x1,x2,x3,x4⟩:=hext h F
   have:=F.n
   exact ih (next + 1) va al h (by omega) (by omega) T (by omega) (by omega) x1 x2 x3 x4 A (by omega) (by omega) (by rw [e];exact hok)
  refine W_count [0,1,3,7,24,25] (by kernel_rfl) 26 (r.length) (H.n) [] [] (fun i e h => (r.take i).any (fun w => w.ok all) = false) (by simp only [↓pb,qbs,tb91,rR,lns114 S,hne,hEg,irN,nrA,nrM,nrE,reduceIte,reduceCtorEq,nrL]) (by focus exact topA) (H0:=H) (by focus exact frA) (by intro b hb hlt;simp at hb ⊢;try omega) ?_ ?_
  rotate_left
  intro i1 e1 h1 hi1 hE1 ei1 hF1 hF01 hTh1 hJ1
  simp only [forallC,forallL,and_true] at hE1
  try simp only [↓pb,qbs,tb91,rR,lns114 S,hne,hEg,irN,nrA,nrM,nrE,reduceIte,reduceCtorEq,nrL] at hE1
  have hn11:=hF1.n;have hn01:=hF01.n;try simp only [upd_n,jn_n] at hn11
  replace hEg:=And.intro ei1 hE1
  rotate_left
  ·simp
  have S1:=Sw.fr0 hF1
  obtain ⟨x1,x2,x3,x4⟩:=hext h1 hF01
  have A1:=SA.fr0 hF01
  have q1 : h1.rd bR = some [vr]:=by rw [rd_def,x1];rfl
  have q2 : h1.rd bF = some [.func (.func 91) #[] #[vptr bR 0,vptr bF 0]]:=by rw [rd_def,x2];rfl
  have lw:=S1.lt
  have lA:=A1.lt
  have hn1:=hF01.n
  by_cases hi2 : i1 < r.length
  ·obtain ⟨w,hw⟩ : ∃ w,w = r.getD i1 default:=⟨_,rfl⟩
   have hwk:=hkr _ (getD_mem hi2)
   rw [← hw] at hwk
   obtain ⟨k1,k2,k3⟩:=hwk
   have hen : eWay (r.getD i1 default) = [iv w.spot,iv w.a,iv w.b,iv w.most]:=by rw [← hw];rfl
   have hmat : (dOf h1 va)[voff va + w.spot * 121 + w.a * 11 + w.b]? = some (iv ((all.getD w.spot default).mat w.a w.b)):=by
    rw [Nat.add_assoc _ (w.a * 11),(A1.el eS_len rfl).1 _ _ k1 (by omega),eS_mat _ k2 k3]
   have hokw : w.ok all = decide ((all.getD w.spot default).mat w.a w.b ≤ w.most):=rfl
   repeat' (first | ((with_reducible refine hK _ _ fun e2 hEn => ?_);clear hK K;simp only [lv91,forallC,forallL,and_true] at hEn;(try simp only [↓pb,qbs,tb91,rR,lns114 S,hne,ias142 S1,S1.rd,(S1.el eWay_len rfl),hen,ias146 A1,A1.rd,hmat,Nat.mul_one,S1.mapB,A1.mapB,q2,hw1,o2,hEg,irN,nrA,nrM,nrE,reduceIte,reduceCtorEq,nrL] at hEn);clear hEg;(try clear eg);have hEg:=hEn;clear hEn;rename Env => eg) | ((first | ((with_reducible first | apply oV_intro | apply oH_intro | apply oB_intro);(simp (disch:=first | exact dA | fail) only [qcs,tb91,rR,lns114 S,hne,ias142 S1,S1.rd,(S1.el eWay_len rfl),hen,ias146 A1,A1.rd,hmat,Nat.mul_one,S1.mapB,A1.mapB,q2,hw1,o2,hEg,irN,nrA,nrM,nrE,reduceIte,reduceCtorEq,nrL];with_reducible exact rfl)) | ((with_reducible first | apply oblA_and | apply oblR_and | apply oblO_and);(focus exact obA)) | ((with_reducible apply WO_callV);(focus exact topA);(simp only [↓pb,qbs,tb91,rR,lns114 S,hne,ias142 S1,S1.rd,(S1.el eWay_len rfl),hen,ias146 A1,A1.rd,hmat,Nat.mul_one,S1.mapB,A1.mapB,q2,hw1,o2,hEg,irN,nrA,nrM,nrE,reduceIte,reduceCtorEq,nrL];(exact ih2 _ _ _ (by exact frA) (by exact topA) (A1.fr0 (N:=H.n) (by exact frA)) rfl));(intro Gq hq hJq;try simp only [upd_n,jn_n] at hq)) | (with_reducible first | refine W_regionF lv91 fun K hK => ?_ | refine W_drawnF lv91 fun K hK => ?_));try simp only [↓pb,↓pd,qds,tb91,rR,lns114 S,hne,ias142 S1,S1.rd,(S1.el eWay_len rfl),hen,ias146 A1,A1.rd,hmat,Nat.mul_one,S1.mapB,A1.mapB,q2,hw1,o2,hEg,irN,nrA,nrM,nrE,reduceIte,reduceCtorEq,nrL]) | ((with_reducible apply W_cond);(simp only [↓pb,qbs,tb91,rR,lns114 S,hne,ias142 S1,S1.rd,(S1.el eWay_len rfl),hen,ias146 A1,A1.rd,hmat,Nat.mul_one,S1.mapB,A1.mapB,q2,hw1,o2,hEg,irN,nrA,nrM,nrE,reduceIte,reduceCtorEq,nrL];with_reducible exact rfl);all_goals (intro hc;(first | exact hcX hc | try simp only [hcs] at hc))) | (with_reducible first | refine W_seq ?_ | refine W_block ?_ | refine W_skip ?_ | refine W_ret ?_ | refine W_exit ?_ | apply blockK_exit) | ((with_reducible apply blockK_pass);(focus decide)) | fail)
   ·refine ⟨by first | exact .inl rfl | exact .inr rfl, ?_⟩
    rw [ret1 Try.results91]
    simp only [↓pb,qbs,tb91,rR,lns114 S,hne,rv_tmp,rv_cell,hEg,irN,nrA,nrM,nrE,reduceIte,reduceCtorEq,nrL]
    repeat ((with_reducible apply oV_intro);(simp (disch:=first | exact dA | fail) only [qcs,tb91,rR,lns114 S,hne,hEg,irN,nrA,nrM,nrE,reduceIte,reduceCtorEq,nrL];exact rfl))
    refine ⟨?_,(by exact frA)⟩
    rw [hdr,keptL,if_pos]
    exact List.any_eq_true.2 ⟨w,hw ▸ getD_mem hi2,by rw [hokw,decide_eq_true hc]⟩
   ·refine ⟨by omega,by simp only [↓pb,qbs,tb91,rR,lns114 S,hne,hEg,irN,nrA,nrM,nrE,reduceIte,reduceCtorEq,nrL];exact congrArg _ (inc64 (by omega)),by focus exact frA, ?_⟩
    rw [take_getD hi2,List.any_append,hJ1,← hw]
    show (false || (w.ok all || false)) = false
    rw [hokw,decide_eq_false hc]
    rfl
  ·have e1n : i1 = r.length:=by omega
   rw [e1n,List.take_length] at hJ1
   have hkp : keptL (rules.drop next) all = r.any fun w => ((all.getD w.spot default).know w.a w.b w.most).2 && keptL (rules.drop (next + 1)) (all.set w.spot ((all.getD w.spot default).know w.a w.b w.most).1):=by
    rw [hdr,keptL,if_neg (by rw [hJ1];simp)]
   repeat' (first | ((with_reducible refine hK _ _ fun e2 hEn => ?_);clear hK K;simp only [lv91,forallC,forallL,and_true] at hEn;(try simp only [↓pb,qbs,tb91,rR,lns114 S,hne,lns142 S1,hEg,irN,nrA,nrM,nrE,reduceIte,reduceCtorEq,nrL] at hEn);clear hEg;(try clear eg);have hEg:=hEn;clear hEn;rename Env => eg) | ((first | ((with_reducible first | apply oV_intro | apply oH_intro | apply oB_intro);(simp (disch:=first | exact dA | fail) only [qcs,tb91,rR,lns114 S,hne,lns142 S1,hEg,irN,nrA,nrM,nrE,reduceIte,reduceCtorEq,nrL];with_reducible exact rfl)) | ((with_reducible first | apply oblA_and | apply oblR_and | apply oblO_and);(focus exact obA)) | (with_reducible first | refine W_regionF lv91 fun K hK => ?_ | refine W_drawnF lv91 fun K hK => ?_));try simp only [↓pb,↓pd,qds,tb91,rR,lns114 S,hne,lns142 S1,hEg,irN,nrA,nrM,nrE,reduceIte,reduceCtorEq,nrL]) | ((with_reducible apply W_cond);(simp only [↓pb,qbs,tb91,rR,lns114 S,hne,lns142 S1,hEg,irN,nrA,nrM,nrE,reduceIte,reduceCtorEq,nrL];with_reducible exact rfl);all_goals (intro hc;(first | exact hcX hc | try simp only [hcs] at hc))) | (with_reducible first | refine W_seq ?_ | refine W_block ?_ | refine W_skip ?_ | refine W_ret ?_ | refine W_exit ?_ | apply blockK_exit) | ((with_reducible apply blockK_pass);(focus decide)) | fail)
   refine W_count [0,1,3,50,51] (by kernel_rfl) 52 (r.length) (H.n) [] [] (fun i e h => (r.take i).any (fun w => ((all.getD w.spot default).know w.a w.b w.most).2 && keptL (rules.drop (next + 1)) (all.set w.spot ((all.getD w.spot default).know w.a w.b w.most).1)) = false) (by simp only [↓pb,qbs,tb91,rR,lns114 S,hne,hEg,irN,nrA,nrM,nrE,reduceIte,reduceCtorEq,nrL]) (by focus exact topA) (H0:=H) (by focus exact frA) (by intro b hb hlt;simp at hb ⊢;try omega) ?_ ?_
   rotate_left
   intro i2 e2 h2 hi2 hE2 ei2 hF2 hF02 hTh2 hJ2
   simp only [forallC,forallL,and_true] at hE2
   try simp only [↓pb,qbs,tb91,rR,lns114 S,hne,hEg,irN,nrA,nrM,nrE,reduceIte,reduceCtorEq,nrL] at hE2
   have hn12:=hF2.n;have hn02:=hF02.n;try simp only [upd_n,jn_n] at hn12
   replace hEg:=And.intro ei2 hE2
   rotate_left
   ·simp
   have S2:=S1.fr0 hF2
   obtain ⟨y1,y2,y3,y4⟩:=hext h2 hF02
   have A2:=SA.fr0 hF02
   have p1 : h2.rd bR = some [vr]:=by rw [rd_def,y1];rfl
   have p2 : h2.rd bF = some [.func (.func 91) #[] #[vptr bR 0,vptr bF 0]]:=by rw [rd_def,y2];rfl
   have lw2:=S2.lt
   have lA2:=A2.lt
   have hn2:=hF02.n
   by_cases hj2 : i2 < r.length
   ·obtain ⟨w,hw⟩ : ∃ w,w = r.getD i2 default:=⟨_,rfl⟩
    have hwk:=hkr _ (getD_mem hj2)
    rw [← hw] at hwk
    obtain ⟨k1,k2,k3⟩:=hwk
    have hen : eWay (r.getD i2 default) = [iv w.spot,iv w.a,iv w.b,iv w.most]:=by rw [← hw];rfl
    obtain ⟨sm,hsm⟩ : ∃ sm,sm = all.getD w.spot default:=⟨_,rfl⟩
    have hat : Swa.atN (dOf h2 va) (voff va + w.spot * 121) 121 = some (.agg ⟨ints sm.1⟩):=by
     rw [(A2.el eS_len rfl).2.2.1 _ k1,← hsm]
     rfl
    have hl : (ints sm.1).length = 121:=by rw [ints_len,sm.2]
    have hl2 : (ints (Swa.know sm.1 w.a w.b w.most).1).length = 121:=by rw [ints_len,know_len,sm.2]
    have hz:=zs_len 121
    repeat' (first | ((with_reducible refine hK _ _ fun e2 hEn => ?_);clear hK K;simp only [lv91,forallC,forallL,and_true] at hEn;(try simp only [↓pb,qbs,tb91,rR,lns114 S,hne,ias142 S2,S2.rd,(S2.el eWay_len rfl),hen,ias146 A2,A2.rd,hat,Nat.mul_one,S2.mapB,A2.mapB,p2,hw1,o2,hl,hl2,hz,extract_tup,stG_pre hl2 hz,hEg,irN,nrA,nrM,nrE,reduceIte,reduceCtorEq,nrL] at hEn);clear hEg;(try clear eg);have hEg:=hEn;clear hEn;rename Env => eg) | ((first | ((with_reducible first | apply oV_intro | apply oH_intro | apply oB_intro);(simp (disch:=first | exact dA | fail) only [qcs,tb91,rR,lns114 S,hne,ias142 S2,S2.rd,(S2.el eWay_len rfl),hen,ias146 A2,A2.rd,hat,Nat.mul_one,S2.mapB,A2.mapB,p2,hw1,o2,hl,hl2,hz,extract_tup,stG_pre hl2 hz,hEg,irN,nrA,nrM,nrE,reduceIte,reduceCtorEq,nrL];with_reducible exact rfl)) | ((with_reducible first | apply oblA_and | apply oblR_and | apply oblO_and);(focus exact obA)) | ((with_reducible apply WO_callF);(focus exact topA);(simp only [↓pb,qbs,tb91,rR,lns114 S,hne,ias142 S2,S2.rd,(S2.el eWay_len rfl),hen,ias146 A2,A2.rd,hat,Nat.mul_one,S2.mapB,A2.mapB,p2,hw1,o2,hl,hl2,hz,extract_tup,stG_pre hl2 hz,hEg,irN,nrA,nrM,nrE,reduceIte,reduceCtorEq,nrL];exact f93 _ _ _ (by exact topA) (A2.fr0 (N:=H.n) (by exact frA)) ha0 ha1);(rintro vq Gq hq hJq ⟨bC,rfl,z1,so,z2,z3⟩;try simp only [upd_n,jn_n] at hq)) | ((with_reducible apply WO_callV);(focus exact topA);(simp only [↓pb,qbs,tb91,rR,lns114 S,hne,ias142 S2,S2.rd,(S2.el eWay_len rfl),hen,ias146 A2,A2.rd,hat,Nat.mul_one,S2.mapB,A2.mapB,p2,hw1,o2,hl,hl2,hz,extract_tup,stG_pre hl2 hz,hEg,irN,nrA,nrM,nrE,reduceIte,reduceCtorEq,nrL];(exact f92 _ sm.2 _ _ k2 k3 _ _ (by exact topA)));(intro Gq hq hJq;try simp only [upd_n,jn_n] at hq)) | (with_reducible first | refine W_regionF lv91 fun K hK => ?_ | refine W_drawnF lv91 fun K hK => ?_));try simp only [↓pb,↓pd,qds,tb91,rR,lns114 S,hne,ias142 S2,S2.rd,(S2.el eWay_len rfl),hen,ias146 A2,A2.rd,hat,Nat.mul_one,S2.mapB,A2.mapB,p2,hw1,o2,hl,hl2,hz,extract_tup,stG_pre hl2 hz,hEg,irN,nrA,nrM,nrE,reduceIte,reduceCtorEq,nrL]) | ((with_reducible apply W_cond);(simp only [↓pb,qbs,tb91,rR,lns114 S,hne,ias142 S2,S2.rd,(S2.el eWay_len rfl),hen,ias146 A2,A2.rd,hat,Nat.mul_one,S2.mapB,A2.mapB,p2,hw1,o2,hl,hl2,hz,extract_tup,stG_pre hl2 hz,hEg,irN,nrA,nrM,nrE,reduceIte,reduceCtorEq,nrL];with_reducible exact rfl);all_goals (intro hc;(first | exact hcX hc | try simp only [hcs] at hc))) | (with_reducible first | refine W_seq ?_ | refine W_block ?_ | refine W_skip ?_ | refine W_ret ?_ | refine W_exit ?_ | apply blockK_exit) | ((with_reducible apply blockK_pass);(focus decide)) | fail)
    ·have hkn : (sm.know w.a w.b w.most).2 = false:=by
      have : (Swa.know sm.1 w.a w.b w.most).2 = (sm.know w.a w.b w.most).2:=rfl
      rw [← this]
      simpa using hc
     refine ⟨by omega,by simp only [↓pb,qbs,tb91,rR,lns114 S,hne,hEg,irN,nrA,nrM,nrE,reduceIte,reduceCtorEq,nrL];exact congrArg _ (inc64 (by omega)),by focus exact frA, ?_⟩
     rw [take_getD hj2,List.any_append,hJ2,← hw]
     show (false || (((all.getD w.spot default).know w.a w.b w.most).2 && _ || false)) = false
     rw [← hsm,hkn]
     rfl
    ·have hkn : (sm.know w.a w.b w.most).2 = true:=by
      have : (Swa.know sm.1 w.a w.b w.most).2 = (sm.know w.a w.b w.most).2:=rfl
      rw [← this]
      simpa using hc
     obtain ⟨s',hs'⟩ : ∃ s',s' = (sm.know w.a w.b w.most).1:=⟨_,rfl⟩
     have hs2 : ints (Swa.know sm.1 w.a w.b w.most).1 = eS s':=by rw [hs'];rfl
     rw [hs2] at hl2 z1 so z2 z3 hJq ⊢
     have hfl : (all.flatMap eS).length = all.length * 121:=A2.len
     have hsp : splice (all.flatMap eS) (w.spot * 121) (eS s') = (all.set w.spot s').flatMap eS:=splice_at eS_len all w.spot s' k1
     refine oH_intro (by rw [z1];exact stG_sole so rfl (by show (eS s').toArray.size = 121;simpa using hl2) (by omega)) ?_
     repeat' (first | ((with_reducible refine hK _ _ fun e2 hEn => ?_);clear hK K;simp only [lv91,forallC,forallL,and_true] at hEn;(try simp only [↓pb,qbs,tb91,rR,lns114 S,hne,hEg,irN,nrA,nrM,nrE,reduceIte,reduceCtorEq,nrL] at hEn);clear hEg;(try clear eg);have hEg:=hEn;clear hEn;rename Env => eg) | ((first | ((with_reducible first | apply oV_intro | apply oH_intro | apply oB_intro);(simp (disch:=first | exact dA | fail) only [qcs,tb91,rR,lns114 S,hne,hEg,irN,nrA,nrM,nrE,reduceIte,reduceCtorEq,nrL];with_reducible exact rfl)) | ((with_reducible first | apply oblA_and | apply oblR_and | apply oblO_and);(focus exact obA)) | (with_reducible first | refine W_regionE lv91 [17] fun K hK => ?_ | refine W_drawnE lv91 [17] fun K hK => ?_));try simp only [↓pb,↓pd,qds,tb91,rR,lns114 S,hne,hEg,irN,nrA,nrM,nrE,reduceIte,reduceCtorEq,nrL]) | ((with_reducible apply W_cond);(simp only [↓pb,qbs,tb91,rR,lns114 S,hne,hEg,irN,nrA,nrM,nrE,reduceIte,reduceCtorEq,nrL];with_reducible exact rfl);all_goals (intro hc;(first | exact hcX hc | try simp only [hcs] at hc))) | (with_reducible first | refine W_seq ?_ | refine W_block ?_ | refine W_skip ?_ | refine W_ret ?_ | refine W_exit ?_ | apply blockK_exit) | ((with_reducible apply blockK_pass);(focus decide)) | fail)
     rename_i g92 q92 j92
     simp only [upd_n,jn_n] at z2 z3
     refine W_forget (N:=H.n) (X:=[]) (h0:=h1) (fun h => h.get bC = .cells ((all.set w.spot s').flatMap eS) 96 (.gr bC 121 true) ∧ bC < h.n ∧ Top h) (by exact frA) ⟨by rw [← hsp];exact upd_get_same,by simp only [upd_n,jn_n];omega,(by exact topA)⟩ ?_
     rintro h5 F5 ⟨m1,m2,T5⟩
     clear z1 so hJq j92
     have F05 : Fr H.n [] H h5:=hF01.trans F5
     obtain ⟨_,w2,_,_⟩:=hext h5 F05
     have p5 : h5.rd bF = some [.func (.func 91) #[] #[vptr bR 0,vptr bF 0]]:=by rw [rd_def,w2];rfl
     have hfl2 : ((all.set w.spot s').flatMap eS).length = (all.set w.spot s').length * 121:=by
      rw [← hsp,splice_length (by rw [hl2];omega),hfl,List.length_set]
     have A5 : SR h5 121 (all.set w.spot s').length (.slice (some ⟨bC,0,none⟩) all.length all.length) ((all.set w.spot s').flatMap eS):=by
      have:=SR.wholeR m2 (n:=(all.set w.spot s').length) (s:=121) (by rw [rd_def,m1];rfl) hfl2
      rw [List.length_set] at this ⊢
      exact this
     repeat' (first | ((with_reducible refine hK _ _ fun e2 hEn => ?_);clear hK K;simp only [lv91,forallC,forallL,and_true] at hEn;(try simp only [↓pb,qbs,tb91,rR,lns114 S,hne,p5,hw1,hEg,irN,nrA,nrM,nrE,reduceIte,reduceCtorEq,nrL] at hEn);clear hEg;(try clear eg);have hEg:=hEn;clear hEn;rename Env => eg) | ((first | ((with_reducible first | apply oV_intro | apply oH_intro | apply oB_intro);(simp (disch:=first | exact dA | fail) only [qcs,tb91,rR,lns114 S,hne,p5,hw1,hEg,irN,nrA,nrM,nrE,reduceIte,reduceCtorEq,nrL];with_reducible exact rfl)) | ((with_reducible first | apply oblA_and | apply oblR_and | apply oblO_and);(focus exact obA)) | ((with_reducible apply WO_callV);(focus exact topA);(simp only [↓pb,qbs,tb91,rR,lns114 S,hne,p5,hw1,hEg,irN,nrA,nrM,nrE,reduceIte,reduceCtorEq,nrL];(exact ih2 _ _ _ F05 T5 A5 List.length_set));(intro Gq hq hJq;try simp only [upd_n,jn_n] at hq)) | (with_reducible first | refine W_regionF lv91 fun K hK => ?_ | refine W_drawnF lv91 fun K hK => ?_));try simp only [↓pb,↓pd,qds,tb91,rR,lns114 S,hne,p5,hw1,hEg,irN,nrA,nrM,nrE,reduceIte,reduceCtorEq,nrL]) | ((with_reducible apply W_cond);(simp only [↓pb,qbs,tb91,rR,lns114 S,hne,p5,hw1,hEg,irN,nrA,nrM,nrE,reduceIte,reduceCtorEq,nrL];with_reducible exact rfl);all_goals (intro hc;(first | exact hcX hc | try simp only [hcs] at hc))) | (with_reducible first | refine W_seq ?_ | refine W_block ?_ | refine W_skip ?_ | refine W_ret ?_ | refine W_exit ?_ | apply blockK_exit) | ((with_reducible apply blockK_pass);(focus decide)) | fail)
     ·refine ⟨by first | exact .inl rfl | exact .inr rfl, ?_⟩
      rw [ret1 Try.results91]
      simp only [↓pb,qbs,tb91,rR,lns114 S,hne,rv_tmp,rv_cell,hEg,irN,nrA,nrM,nrE,reduceIte,reduceCtorEq,nrL]
      repeat ((with_reducible apply oV_intro);(simp (disch:=first | exact dA | fail) only [qcs,tb91,rR,lns114 S,hne,hEg,irN,nrA,nrM,nrE,reduceIte,reduceCtorEq,nrL];exact rfl))
      refine ⟨?_,(by exact frA)⟩
      rw [hkp]
      symm
      refine congrArg Value.bool ?_
      refine List.any_eq_true.2 ⟨w,hw ▸ getD_mem hj2, ?_⟩
      rw [← hsm,hkn,Bool.true_and,← hs']
      exact hc
     ·refine ⟨by omega,by simp only [↓pb,qbs,tb91,rR,lns114 S,hne,hEg,irN,nrA,nrM,nrE,reduceIte,reduceCtorEq,nrL];exact congrArg _ (inc64 (by omega)),by focus exact frA, ?_⟩
      rw [take_getD hj2,List.any_append,hJ2,← hw]
      show (false || (((all.getD w.spot default).know w.a w.b w.most).2 && keptL _ (all.set w.spot ((all.getD w.spot default).know w.a w.b w.most).1) || false)) = false
      rw [← hsm,← hs',hkn,hc]
      rfl
   ·have e2n : i2 = r.length:=by omega
    rw [e2n,List.take_length] at hJ2
    repeat' (first | ((with_reducible refine hK _ _ fun e2 hEn => ?_);clear hK K;simp only [lv91,forallC,forallL,and_true] at hEn;(try simp only [↓pb,qbs,tb91,rR,lns114 S,hne,hEg,irN,nrA,nrM,nrE,reduceIte,reduceCtorEq,nrL] at hEn);clear hEg;(try clear eg);have hEg:=hEn;clear hEn;rename Env => eg) | ((first | ((with_reducible first | apply oV_intro | apply oH_intro | apply oB_intro);(simp (disch:=first | exact dA | fail) only [qcs,tb91,rR,lns114 S,hne,hEg,irN,nrA,nrM,nrE,reduceIte,reduceCtorEq,nrL];with_reducible exact rfl)) | ((with_reducible first | apply oblA_and | apply oblR_and | apply oblO_and);(focus exact obA)) | (with_reducible first | refine W_regionF lv91 fun K hK => ?_ | refine W_drawnF lv91 fun K hK => ?_));try simp only [↓pb,↓pd,qds,tb91,rR,lns114 S,hne,hEg,irN,nrA,nrM,nrE,reduceIte,reduceCtorEq,nrL]) | ((with_reducible apply W_cond);(simp only [↓pb,qbs,tb91,rR,lns114 S,hne,hEg,irN,nrA,nrM,nrE,reduceIte,reduceCtorEq,nrL];with_reducible exact rfl);all_goals (intro hc;(first | exact hcX hc | try simp only [hcs] at hc))) | (with_reducible first | refine W_seq ?_ | refine W_block ?_ | refine W_skip ?_ | refine W_ret ?_ | refine W_exit ?_ | apply blockK_exit) | ((with_reducible apply blockK_pass);(focus decide)) | fail)
    refine ⟨by first | exact .inl rfl | exact .inr rfl, ?_⟩
    rw [ret1 Try.results91]
    simp only [↓pb,qbs,tb91,rR,lns114 S,hne,rv_tmp,rv_cell,hEg,irN,nrA,nrM,nrE,reduceIte,reduceCtorEq,nrL]
    repeat ((with_reducible apply oV_intro);(simp (disch:=first | exact dA | fail) only [qcs,tb91,rR,lns114 S,hne,hEg,irN,nrA,nrM,nrE,reduceIte,reduceCtorEq,nrL];exact rfl))
    exact ⟨by rw [hkp,hJ2],(by exact frA)⟩
end Go.Proofs.Swa
