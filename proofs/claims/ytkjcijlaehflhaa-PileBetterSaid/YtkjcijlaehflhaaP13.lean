/- Part 13 of a proof. -/
import Derived.Test.YtkjcijlaehflhaaP12
import Derived.Test.YtkjcijlaehflhaaRows
import Derived.ProofKit
import Derived.OpenShut
import Derived.JoinedCond
import Derived.Below
import Derived.ChangeSame
set_option maxRecDepth 20000
set_option linter.unusedVariables false
set_option linter.unusedSimpArgs false
namespace Go.Proofs.Swa
open Go
open Nat renaming reduceAdd → nrA, reduceMul → nrM, reduceEqDiff → nrE, reduceLT → nrL
open Int renaming reduceToNat → irN
attribute [local congr] WO_congr oV_congr oB_congr oH_congr WD_congr oblO_congr oblA_congr oblR_congr
set_option maxHeartbeats 4000000 in
theorem f72 (va vb vc vh vr : Value) (l : List (Hp × Value)) (vs : List Value) (rules : List Rul) (H : AHeap) (hT : Top H) (ho : one va ∧ one vb ∧ one vc) (Sh : RHs H vh l) (hl : 0 < l.length ∧ l.length ≤ 20) (S : SR H 1 rules.length vr vs) (RV : RulesV H [] vs rules) (hrl : rules.length ≤ 1000000) (hr2 : ∀ r,r ∈ rules → r.length ≤ 1000) (hok : RulsOk l.length rules) :
  ∃ v H',C5 (.fn 72) #[.agg ⟨[va,vb,vc,vh]⟩,vr] H v H' ∧ v = .bool (keptL rules (l.map (·.1.s))) ∧ Fr H.n [] H H':=by
 have oh:=Sh.1.one
 have orr:=S.one
 refine Cl.ofW Try.func72 rfl (by kernel_rfl) (by rw [Try.ntmps72];exact Nat.le_of_ble_eq_true rfl) (by kernel_rfl) ?_
 have hEg : True:=trivial
 refine gcW [0,1] ?_
 intro eg hEn
 simp only [forallC,forallL,and_true] at hEn
 try simp only [↓pb,qbs,tb72,ho,oh,orr.1,orr.2,hEg,irN,nrA,nrM,nrE,reduceIte,reduceCtorEq,nrL] at hEn
 replace hEg:=hEn;clear hEn
 repeat' (first | ((with_reducible refine hK _ _ fun e2 hEn => ?_);clear hK K;simp only [lv72,forallC,forallL,and_true] at hEn;(try simp only [↓pb,qbs,tb72,ho,oh,orr.1,orr.2,lns89 Sh.1,oh,orr.1,orr.2,hEg,irN,nrA,nrM,nrE,reduceIte,reduceCtorEq,nrL] at hEn);clear hEg;(try clear eg);have hEg:=hEn;clear hEn;rename Env => eg) | ((first | ((with_reducible first | apply oV_intro | apply oH_intro | apply oB_intro);(simp (disch:=first | exact dA | fail) only [qcs,tb72,ho,oh,orr.1,orr.2,lns89 Sh.1,oh,orr.1,orr.2,hEg,irN,nrA,nrM,nrE,reduceIte,reduceCtorEq,nrL];with_reducible exact rfl)) | (with_reducible first | refine W_regionF lv72 fun K hK => ?_));try simp only [↓pb,↓pd,qds,tb72,ho,oh,orr.1,orr.2,lns89 Sh.1,oh,orr.1,orr.2,hEg,irN,nrA,nrM,nrE,reduceIte,reduceCtorEq,nrL]) | ((with_reducible apply W_cond);(simp only [↓pb,qbs,tb72,ho,oh,orr.1,orr.2,lns89 Sh.1,oh,orr.1,orr.2,hEg,irN,nrA,nrM,nrE,reduceIte,reduceCtorEq,nrL];with_reducible exact rfl);all_goals (intro hc;(first | exact hcX hc | try simp only [hcs] at hc))) | (with_reducible first | refine W_seq ?_ | refine W_block ?_ | refine W_skip ?_ | refine W_ret ?_ | refine W_exit ?_ | apply blockK_exit) | ((with_reducible apply blockK_pass);(focus decide)) | fail)
 refine W_count [5,11,12] (by kernel_rfl) 13 (l.length) (H.n) [] [] (fun i e h => h.get (H.n + 1) = .cells [vr] 114 .ex ∧ h.get (H.n + 2) = .cells [.func (.func 91) #[] #[vptr (H.n + 1) 0,vptr (H.n + 2) 0]] 145 .ex ∧ ∃ v6 g6,e 6 = v6 ∧ GS h 121 i v6 (((l.map (·.1.s)).take i).flatMap eS) g6 ∧ ∀ x,g6 = some x → H.n ≤ x) (by simp only [↓pb,qbs,tb72,ho,oh,orr.1,orr.2,hEg,irN,nrA,nrM,nrE,reduceIte,reduceCtorEq,nrL]) (by focus exact topA) (H0:=H) (by focus exact frA) (by intro b hb hlt;simp at hb ⊢;try omega) ?_ ?_
 rotate_left
 intro i1 e1 h1 hi1 hE1 ei1 hF1 hF01 hTh1 hJ1
 simp only [forallC,forallL,and_true] at hE1
 try simp only [↓pb,qbs,tb72,ho,oh,orr.1,orr.2,hEg,irN,nrA,nrM,nrE,reduceIte,reduceCtorEq,nrL] at hE1
 have hn11:=hF1.n;have hn01:=hF01.n;try simp only [upd_n,jn_n] at hn11
 replace hEg:=And.intro ei1 hE1
 rotate_left
 ·refine ⟨by simp (disch:=first | exact dA | fail) only [qcs,tb72,ho,oh,orr.1,orr.2,hEg,irN,nrA,nrM,nrE,reduceIte,reduceCtorEq,nrL],by simp (disch:=first | exact dA | fail) only [qcs,tb72,ho,oh,orr.1,orr.2,hEg,irN,nrA,nrM,nrE,reduceIte,reduceCtorEq,nrL],_,none,by simp only [↓pb,qbs,tb72,ho,oh,orr.1,orr.2,hEg,irN,nrA,nrM,nrE,reduceIte,reduceCtorEq,nrL],.nil rfl rfl (by simp),by simp⟩
 obtain ⟨k1,k2,v6,g6,e6,G6,gx⟩:=hJ1
 have S1:=Sh.fr hF01
 have o6:=G6.one
 have lh:=S1.1.lt
 have r2 : h1.rd (H.n + 2) = some [.func (.func 91) #[] #[vptr (H.n + 1) 0,vptr (H.n + 2) 0]]:=by rw [rd_def,k2];rfl
 by_cases hi2 : i1 < l.length
 ·obtain ⟨p,hp⟩ : ∃ p,p = l.getD i1 default:=⟨_,rfl⟩
  have hen : eHp (l.getD i1 default) = ints p.1.s.1 ++ [p.2]:=by rw [← hp];rfl
  have S2:=S1.2 i1 hi2
  rw [← hp] at S2
  have o2:=S2.one
  have hl121 : (ints p.1.s.1).length = 121:=by rw [ints_len,p.1.s.2]
  repeat' (first | ((with_reducible refine hK _ _ fun e2 hEn => ?_);clear hK K;simp only [lv72,forallC,forallL,and_true] at hEn;(try simp only [↓pb,qbs,tb72,ho,oh,orr.1,orr.2,e6,ias89 S1.1,S1.1.rd,(S1.1.el eHp_len rfl),hen,atN_pre hl121,hl121,o2,o6,oh,Nat.mul_one,hEg,irN,nrA,nrM,nrE,reduceIte,reduceCtorEq,nrL] at hEn);clear hEg;(try clear eg);have hEg:=hEn;clear hEn;rename Env => eg) | ((first | ((with_reducible first | apply oV_intro | apply oH_intro | apply oB_intro);(simp (disch:=first | exact dA | fail) only [qcs,tb72,ho,oh,orr.1,orr.2,e6,ias89 S1.1,S1.1.rd,(S1.1.el eHp_len rfl),hen,atN_pre hl121,hl121,o2,o6,oh,Nat.mul_one,hEg,irN,nrA,nrM,nrE,reduceIte,reduceCtorEq,nrL];with_reducible exact rfl)) | (with_reducible first | refine W_regionF lv72 fun K hK => ?_));try simp only [↓pb,↓pd,qds,tb72,ho,oh,orr.1,orr.2,e6,ias89 S1.1,S1.1.rd,(S1.1.el eHp_len rfl),hen,atN_pre hl121,hl121,o2,o6,oh,Nat.mul_one,hEg,irN,nrA,nrM,nrE,reduceIte,reduceCtorEq,nrL]) | ((with_reducible apply W_cond);(simp only [↓pb,qbs,tb72,ho,oh,orr.1,orr.2,e6,ias89 S1.1,S1.1.rd,(S1.1.el eHp_len rfl),hen,atN_pre hl121,hl121,o2,o6,oh,Nat.mul_one,hEg,irN,nrA,nrM,nrE,reduceIte,reduceCtorEq,nrL];with_reducible exact rfl);all_goals (intro hc;(first | exact hcX hc | try simp only [hcs] at hc))) | (with_reducible first | refine W_seq ?_ | refine W_block ?_ | refine W_skip ?_ | refine W_ret ?_ | refine W_exit ?_ | apply blockK_exit) | ((with_reducible apply blockK_pass);(focus decide)) | fail)
  refine pu146 (n:=i1) (m:=1) (c:=((l.map (·.1.s)).take i1).flatMap eS) (g:=g6) (GS.ex (G6.fr (N:=h1.n) (X:=[]) (by exact frA) (fun x hx => by subst hx;exact G6.grp_lt) (by simp))) (SR.new hl121) (by omega) (by omega) (by omega) (by exact topA) fun GG => ?_
  have hgd1:=gd_ge gx (n:=h1.n + 2) (by omega)
  have hgd2:=GG.grp_lt
  simp only [upd_n,jn_n,nb] at hgd2 GG
  repeat' (first | ((with_reducible refine hK _ _ fun e2 hEn => ?_);clear hK K;simp only [lv72,forallC,forallL,and_true] at hEn;(try simp only [↓pb,qbs,tb72,ho,oh,orr.1,orr.2,hEg,irN,nrA,nrM,nrE,reduceIte,reduceCtorEq,nrL] at hEn);clear hEg;(try clear eg);have hEg:=hEn;clear hEn;rename Env => eg) | ((first | ((with_reducible first | apply oV_intro | apply oH_intro | apply oB_intro);(simp (disch:=first | exact dA | fail) only [qcs,tb72,ho,oh,orr.1,orr.2,hEg,irN,nrA,nrM,nrE,reduceIte,reduceCtorEq,nrL];with_reducible exact rfl)) | (with_reducible first | refine W_regionF lv72 fun K hK => ?_));try simp only [↓pb,↓pd,qds,tb72,ho,oh,orr.1,orr.2,hEg,irN,nrA,nrM,nrE,reduceIte,reduceCtorEq,nrL]) | ((with_reducible apply W_cond);(simp only [↓pb,qbs,tb72,ho,oh,orr.1,orr.2,hEg,irN,nrA,nrM,nrE,reduceIte,reduceCtorEq,nrL];with_reducible exact rfl);all_goals (intro hc;(first | exact hcX hc | try simp only [hcs] at hc))) | (with_reducible first | refine W_seq ?_ | refine W_block ?_ | refine W_skip ?_ | refine W_ret ?_ | refine W_exit ?_ | apply blockK_exit) | ((with_reducible apply blockK_pass);(focus decide)) | fail)
  refine ⟨by omega,by simp only [↓pb,qbs,tb72,ho,oh,orr.1,orr.2,hEg,irN,nrA,nrM,nrE,reduceIte,reduceCtorEq,nrL];exact congrArg _ (inc64 (by omega)),by focus exact frA, ?_⟩
  have htk : (l.map (·.1.s)).take (i1 + 1) = (l.map (·.1.s)).take i1 ++ [p.1.s]:=by
   rw [take_getD (by rw [List.length_map];exact hi2),getD_mapA hi2,← hp]
  refine ⟨by simp (disch:=first | exact dA | fail) only [qcs,tb72,ho,oh,orr.1,orr.2,hEg,irN,nrA,nrM,nrE,reduceIte,reduceCtorEq,nrL];exact k1,by simp (disch:=first | exact dA | fail) only [qcs,tb72,ho,oh,orr.1,orr.2,hEg,irN,nrA,nrM,nrE,reduceIte,reduceCtorEq,nrL];exact k2,.slice (some ⟨h1.n + 2,0,none⟩) (i1 + 1) (i1 + 1),some (g6.getD (h1.n + 2)),by simp only [hEg], ?_,gd_all hgd1⟩
  rw [htk,List.flatMap_append,List.flatMap_singleton]
  exact GG
 ·have e1n : i1 = l.length:=by omega
  subst e1n
  rw [List.take_of_length_le (by rw [List.length_map];exact Nat.le_refl _)] at G6
  have SA : SR h1 121 (l.map (·.1.s)).length v6 ((l.map (·.1.s)).flatMap eS):=by rw [List.length_map];exact G6.sr
  have hok2 : RulsOk (l.map (·.1.s)).length rules:=by rw [List.length_map];exact hok
  have hm1 : 0 < (l.map (·.1.s)).length:=by rw [List.length_map];exact hl.1
  have hm2 : (l.map (·.1.s)).length ≤ 20:=by rw [List.length_map];exact hl.2
  have b1 : H.n + 1 < h1.n:=Nat.lt_of_lt_of_le (by simp only [↓pb,qbs,tb72,ho,oh,orr.1,orr.2,hEg,irN,nrA,nrM,nrE,reduceIte,reduceCtorEq,nrL];omega) hF1.n
  have b2 : H.n + 2 < h1.n:=Nat.lt_of_lt_of_le (by simp only [↓pb,qbs,tb72,ho,oh,orr.1,orr.2,hEg,irN,nrA,nrM,nrE,reduceIte,reduceCtorEq,nrL];omega) hF1.n
  repeat' (first | ((with_reducible refine hK _ _ fun e2 hEn => ?_);clear hK K;simp only [lv72,forallC,forallL,and_true] at hEn;(try simp only [↓pb,qbs,tb72,ho,oh,orr.1,orr.2,e6,r2,o6,hEg,irN,nrA,nrM,nrE,reduceIte,reduceCtorEq,nrL] at hEn);clear hEg;(try clear eg);have hEg:=hEn;clear hEn;rename Env => eg) | ((first | ((with_reducible first | apply oV_intro | apply oH_intro | apply oB_intro);(simp (disch:=first | exact dA | fail) only [qcs,tb72,ho,oh,orr.1,orr.2,e6,r2,o6,hEg,irN,nrA,nrM,nrE,reduceIte,reduceCtorEq,nrL];with_reducible exact rfl)) | ((with_reducible apply WO_callV);(focus exact topA);(simp only [↓pb,qbs,tb72,ho,oh,orr.1,orr.2,e6,r2,o6,hEg,irN,nrA,nrM,nrE,reduceIte,reduceCtorEq,nrL];(exact f91 (H.n + 1) (H.n + 2) vr vs rules hrl hr2 rules.length 0 v6 (l.map (·.1.s)) _ rfl (Nat.zero_le _) (by exact topA) b1 b2 k1 k2 (S.fr0 hF01) (RV.fr hF01 (by simp)) SA hm1 hm2 hok2));(intro Gq hq hJq;try simp only [upd_n,jn_n] at hq)) | (with_reducible first | refine W_regionF lv72 fun K hK => ?_));try simp only [↓pb,↓pd,qds,tb72,ho,oh,orr.1,orr.2,e6,r2,o6,hEg,irN,nrA,nrM,nrE,reduceIte,reduceCtorEq,nrL]) | ((with_reducible apply W_cond);(simp only [↓pb,qbs,tb72,ho,oh,orr.1,orr.2,e6,r2,o6,hEg,irN,nrA,nrM,nrE,reduceIte,reduceCtorEq,nrL];with_reducible exact rfl);all_goals (intro hc;(first | exact hcX hc | try simp only [hcs] at hc))) | (with_reducible first | refine W_seq ?_ | refine W_block ?_ | refine W_skip ?_ | refine W_ret ?_ | refine W_exit ?_ | apply blockK_exit) | ((with_reducible apply blockK_pass);(focus decide)) | fail)
  refine ⟨by first | exact .inl rfl | exact .inr rfl, ?_⟩
  rw [ret1 Try.results72]
  simp only [↓pb,qbs,tb72,ho,oh,orr.1,orr.2,rv_tmp,rv_cell,hEg,irN,nrA,nrM,nrE,reduceIte,reduceCtorEq,nrL]
  repeat ((with_reducible apply oV_intro);(simp (disch:=first | exact dA | fail) only [qcs,tb72,ho,oh,orr.1,orr.2,hEg,irN,nrA,nrM,nrE,reduceIte,reduceCtorEq,nrL];exact rfl))
  exact ⟨by rw [List.drop_zero],(by exact frA)⟩
set_option maxHeartbeats 4000000 in
theorem f29 (va vb vc : Value) (g : Gnd) (H : AHeap) (hT : Top H) (hG : RG H va vb vc g) (hsk : g.Spots.length = 0 ∨ SK H 3 va) (hs : g.Spots.length ≤ 20) (hs2 : g.Sorts.length ≤ 20) :
  ∃ v H',C5 (.fn 29) #[.agg ⟨[va,vb,vc]⟩] H v H' ∧ v = .tuple #[iv (breaks g).1,iv (breaks g).2.1,iv (breaks g).2.2] ∧ Fr H.n [] H H':=by
 have hgo:=hG.one
 by_cases hck : check g = 0
 ·have ok:=check_ok hck
  have hal:=ok.acts
  have hsp:=ok.spots
  have hso:=ok.sorts
  have hvb : g.Spots.length = 0 ∨ vblk va < H.n:=hG.p.lt
  have hsk0 : ∀ h,Fr H.n [] H h → g.Spots.length = 0 ∨ SK h 3 va:=fun h hF => by
   rcases hsk with q | q
   ·exact .inl q
   ·rcases hvb with q2 | q2
    ·exact .inl q2
    ·exact .inr (q.fr hF q2 (by simp))
  refine Cl.ofW Try.func29 rfl (by kernel_rfl) (by rw [Try.ntmps29];exact Nat.le_of_ble_eq_true rfl) (by kernel_rfl) ?_
  have hEg : True:=trivial
  refine gcW [0] ?_
  intro eg hEn
  simp only [forallC,forallL,and_true] at hEn
  try simp only [↓pb,qbs,tb29,hgo,hEg,irN,nrA,nrM,nrE,reduceIte,reduceCtorEq,nrL] at hEn
  replace hEg:=hEn;clear hEn
  repeat' (first | ((with_reducible refine hK _ _ fun e2 hEn => ?_);clear hK K;simp only [lv29,forallC,forallL,and_true] at hEn;(try simp only [↓pb,qbs,tb29,hgo,hck,hEg,irN,nrA,nrM,nrE,reduceIte,reduceCtorEq,nrL] at hEn);clear hEg;(try clear eg);have hEg:=hEn;clear hEn;rename Env => eg) | ((first | ((with_reducible first | apply oV_intro | apply oH_intro | apply oB_intro);(simp (disch:=first | exact dA | fail) only [qcs,tb29,hgo,hck,hEg,irN,nrA,nrM,nrE,reduceIte,reduceCtorEq,nrL];with_reducible exact rfl)) | ((with_reducible first | apply oblA_and | apply oblR_and | apply oblO_and);(focus exact obA)) | ((with_reducible apply WO_callF);(focus exact topA);(simp only [↓pb,qbs,tb29,hgo,hck,hEg,irN,nrA,nrM,nrE,reduceIte,reduceCtorEq,nrL];exact f54 _ _ _ _ _ (by exact topA) (hG.fr (N:=H.n) (by exact frA)) ok.acts (by omega));(rintro vq Gq hq hJq ⟨vh,l,rfl,Sh,el⟩;try simp only [upd_n,jn_n] at hq)) | ((with_reducible apply WO_callV);(focus exact topA);(simp only [↓pb,qbs,tb29,hgo,hck,hEg,irN,nrA,nrM,nrE,reduceIte,reduceCtorEq,nrL];(exact f25 _ _ _ _ _ (by exact topA) (hG.fr (N:=H.n) (by exact frA)) (by omega) (by omega)));(intro Gq hq hJq;try simp only [upd_n,jn_n] at hq)) | (with_reducible first | refine W_regionF lv29 fun K hK => ?_ | refine W_drawnF lv29 fun K hK => ?_));try simp only [↓pb,↓pd,qds,tb29,hgo,hck,hEg,irN,nrA,nrM,nrE,reduceIte,reduceCtorEq,nrL]) | ((first | ((with_reducible first | apply WO_gT | apply WO_gF | apply WD_gT | apply WD_gF);exact rfl) | (with_reducible apply W_cond));(simp only [↓pb,qbs,tb29,hgo,hck,hEg,irN,nrA,nrM,nrE,reduceIte,reduceCtorEq,nrL];with_reducible exact rfl);all_goals (intro hc;(first | exact hcX hc | try simp only [hcs] at hc);try ((with_reducible first | apply woI | apply wdI);simp only [↓pb,↓pd,qds,tb29,hgo,hck,hc,hEg,irN,nrA,nrM,nrE,reduceIte,reduceCtorEq,nrL]))) | (with_reducible first | refine W_seq ?_ | refine W_block ?_ | refine W_skip ?_ | refine W_ret ?_ | refine W_exit ?_ | apply blockK_exit) | ((with_reducible apply blockK_pass);(focus decide)) | fail)
  ·refine ⟨by first | exact .inl rfl | exact .inr rfl, ?_⟩
   rw [ret3 Try.results29]
   simp only [↓pb,qbs,tb29,hgo,rv_tmp,rv_cell,hEg,irN,nrA,nrM,nrE,reduceIte,reduceCtorEq,nrL]
   repeat ((with_reducible apply oV_intro);(simp (disch:=first | exact dA | fail) only [qcs,tb29,hgo,hEg,irN,nrA,nrM,nrE,reduceIte,reduceCtorEq,nrL];exact rfl))
   refine ⟨?_,(by exact frA)⟩
   unfold breaks
   rw [if_neg (fun q => q hck),if_pos hc]
  have hk0 : (known g).2 = 0:=Decidable.not_not.1 hc
  have hll : l.length = g.Spots.length:=by rw [← known_full hk0,← el,List.length_map]
  refine W_forget (N:=H.n) (X:=[]) (h0:=H) (fun h => h.get Gq.n = .cells [va,vb,vc,vh] 91 .ex ∧ RHs h vh l ∧ H.n < Gq.n ∧ Gq.n < h.n ∧ Top h) (by exact frA) ⟨by simp (disch:=first | exact dA | fail) only [qcs,tb29,hgo,hEg,irN,nrA,nrM,nrE,reduceIte,reduceCtorEq,nrL],Sh.fr (N:=Gq.n) (by exact frA),by omega,by simp only [↓pb,qbs,tb29,hgo,hEg,irN,nrA,nrM,nrE,reduceIte,reduceCtorEq,nrL];omega,(by exact topA)⟩ ?_
  rintro hb Fb ⟨b0,Sb,c1,c2,Tb⟩
  obtain ⟨GB,hGB⟩ : ∃ GB,GB = Gq.n:=⟨_,rfl⟩
  rw [← hGB] at b0 c1 c2 hEg
  clear Sh hq hJq hGB
  have dn : Dis none none:=by intro x hx;cases hx
  have hfew : ∀ j,j < l.length → Few ((known g).1.getD j default):=fun j hj => known_few hal _ (getD_mem (by rw [← el,List.length_map];exact hj))
  have hal2 : l.map (·.1.s) = (known g).1.map (·.s):=by rw [← el,List.map_map];rfl
  refine W_count [6] (by kernel_rfl) 25 (73) (H.n) [] [] (fun i e h => ∃ (s : Bst) (v7 v8 : Value) (g7 g8 : Option Nat),e 7 = v7 ∧ e 8 = v8 ∧ e 2 = iv s.perhaps ∧ e 3 = iv (-1) ∧ RS h H.n v7 s.singles g7 ∧ RS h H.n v8 s.doubles g8 ∧ Dis g7 g8 ∧ bGo g (known g).1 73 0 ⟨-1,[],[]⟩ = bGo g (known g).1 (73 - i) i s ∧ Fine l.length s.singles ∧ Fine l.length s.doubles ∧ s.singles.length ≤ 100 * i ∧ s.doubles.length ≤ 100 * i) (by simp only [↓pb,qbs,tb29,hgo,hEg,irN,nrA,nrM,nrE,reduceIte,reduceCtorEq,nrL]) (by focus exact topA) (H0:=H) (by focus exact frA) (by intro b hb hlt;simp at hb ⊢;try omega) ?_ ?_
  rotate_left
  intro i1 e1 h1 hi1 hE1 ei1 hF1 hF01 hTh1 hJ1
  simp only [forallC,forallL,and_true] at hE1
  try simp only [↓pb,qbs,tb29,hgo,hEg,irN,nrA,nrM,nrE,reduceIte,reduceCtorEq,nrL] at hE1
  have hn11:=hF1.n;have hn01:=hF01.n;try simp only [upd_n,jn_n] at hn11
  replace hEg:=And.intro ei1 hE1
  rotate_left
  ·exact ⟨⟨-1,[],[]⟩,_,_,none,none,by simp only [↓pb,qbs,tb29,hgo,hEg,irN,nrA,nrM,nrE,reduceIte,reduceCtorEq,nrL],by simp only [↓pb,qbs,tb29,hgo,hEg,irN,nrA,nrM,nrE,reduceIte,reduceCtorEq,nrL],by simp only [↓pb,qbs,tb29,hgo,hEg,irN,nrA,nrM,nrE,reduceIte,reduceCtorEq,nrL],by simp only [↓pb,qbs,tb29,hgo,hEg,irN,nrA,nrM,nrE,reduceIte,reduceCtorEq,nrL],RS.nul,RS.nul,dn,rfl,Fine.nil,Fine.nil,Nat.le_refl _,Nat.le_refl _⟩
  obtain ⟨s,v7,v8,g7,g8,e7,e8,ee2,e3,R7,R8,D78,hgo1,fi7,fi8,ln7,ln8⟩:=hJ1
  have o7:=R7.one
  have o8:=R8.one
  have S1:=Sb.fr hF1
  have G1:=hG.fr hF01
  have d0 : h1.get GB = .cells [va,vb,vc,vh] 91 .ex:=by rw [hF1.old _ (by omega) (by simp)];exact b0
  have r0 : h1.rd GB = some [va,vb,vc,vh]:=by rw [rd_def,d0];rfl
  have oh:=S1.1.one
  by_cases hi2 : i1 < 73
  ·repeat' (first | ((with_reducible refine hK _ _ fun e2 hEn => ?_);clear hK K;simp only [lv29,forallC,forallL,and_true] at hEn;(try simp only [↓pb,qbs,tb29,hgo,e7,e8,ee2,e3,r0,hgo,oh,hEg,irN,nrA,nrM,nrE,reduceIte,reduceCtorEq,nrL] at hEn);clear hEg;(try clear eg);have hEg:=hEn;clear hEn;rename Env => eg) | ((first | ((with_reducible first | apply oV_intro | apply oH_intro | apply oB_intro);(simp (disch:=first | exact dA | fail) only [qcs,tb29,hgo,e7,e8,ee2,e3,r0,hgo,oh,hEg,irN,nrA,nrM,nrE,reduceIte,reduceCtorEq,nrL];with_reducible exact rfl)) | ((with_reducible first | apply oblA_and | apply oblR_and | apply oblO_and);(focus exact obA)) | ((with_reducible apply WO_callF);(focus exact topA);(simp only [↓pb,qbs,tb29,hgo,e7,e8,ee2,e3,r0,hgo,oh,hEg,irN,nrA,nrM,nrE,reduceIte,reduceCtorEq,nrL];exact f68 _ _ _ _ _ _ _ _ (by exact topA) (G1.fr (N:=h1.n) (by exact frA)) (hsk0 _ (by exact frA)) (S1.fr (N:=h1.n) (by exact frA)) ok el hll (by omega));(rintro vq Gq hq hJq ⟨vp,vq2,gh,gp,rfl,RH,RP,DHP⟩;try simp only [upd_n,jn_n] at hq)) | ((with_reducible apply WO_callF);(focus exact topA);(simp only [↓pb,qbs,tb29,hgo,e7,e8,ee2,e3,r0,hgo,oh,hEg,irN,nrA,nrM,nrE,reduceIte,reduceCtorEq,nrL];exact f54 _ _ _ _ _ (by exact topA) (hG.fr (N:=H.n) (by exact frA)) ok.acts (by omega));(rintro vq Gq hq hJq ⟨vh,l,rfl,Sh,el⟩;try simp only [upd_n,jn_n] at hq)) | ((with_reducible apply WO_callV);(focus exact topA);(simp only [↓pb,qbs,tb29,hgo,e7,e8,ee2,e3,r0,hgo,oh,hEg,irN,nrA,nrM,nrE,reduceIte,reduceCtorEq,nrL];(exact f25 _ _ _ _ _ (by exact topA) (hG.fr (N:=H.n) (by exact frA)) (by omega) (by omega)));(intro Gq hq hJq;try simp only [upd_n,jn_n] at hq)) | (with_reducible first | refine W_regionF lv29 fun K hK => ?_ | refine W_drawnF lv29 fun K hK => ?_));try simp only [↓pb,↓pd,qds,tb29,hgo,e7,e8,ee2,e3,r0,hgo,oh,hEg,irN,nrA,nrM,nrE,reduceIte,reduceCtorEq,nrL]) | ((first | ((with_reducible first | apply WO_gT | apply WO_gF | apply WD_gT | apply WD_gF);exact rfl) | (with_reducible apply W_cond));(simp only [↓pb,qbs,tb29,hgo,e7,e8,ee2,e3,r0,hgo,oh,hEg,irN,nrA,nrM,nrE,reduceIte,reduceCtorEq,nrL];with_reducible exact rfl);all_goals (intro hc;(first | exact hcX hc | try simp only [hcs] at hc);try ((with_reducible first | apply woI | apply wdI);simp only [↓pb,↓pd,qds,tb29,hgo,e7,e8,ee2,e3,r0,hgo,oh,hc,hEg,irN,nrA,nrM,nrE,reduceIte,reduceCtorEq,nrL]))) | (with_reducible first | refine W_seq ?_ | refine W_block ?_ | refine W_skip ?_ | refine W_ret ?_ | refine W_exit ?_ | apply blockK_exit) | ((with_reducible apply blockK_pass);(focus decide)) | fail)
   have FX : Fr h1.n [] h1 (h1.jn Gq):=by exact frA
   have TX : Top (h1.jn Gq):=by exact topA
   generalize h1.jn Gq = X at RH RP FX TX ⊢
   clear hJq hq
   have nX:=FX.n
   have R7x:=R7.fr0 FX
   have R8x:=R8.fr0 FX
   have lh:=heapsR_len g (known g).1 i1 g.Spots.length
   have lp:=pairRules_len g (known g).1 i1 g.Spots.length
   have m1 : g.Spots.length * (1 + 2 * g.Acts.length) ≤ 4 * 21:=Nat.mul_le_mul (by omega) (by omega)
   have m2 : g.Spots.length * g.Spots.length ≤ 4 * 4:=Nat.mul_le_mul (by omega) (by omega)
   have bh : ∀ x,gh = some x → h1.n ≤ x:=by obtain ⟨_,_,q,_⟩:=RH;exact q
   have bp : ∀ x,gp = some x → h1.n ≤ x:=by obtain ⟨_,_,q,_⟩:=RP;exact q
   have b7 : ∀ x,g7 = some x → H.n ≤ x:=by obtain ⟨_,_,q,_⟩:=R7;exact q
   have b8 : ∀ x,g8 = some x → H.n ≤ x:=by obtain ⟨_,_,q,_⟩:=R8;exact q
   have D7h : Dis g7 gh:=Dis.far R7.gn bh
   have D7p : Dis g7 gp:=Dis.far R7.gn bp
   have D8h : Dis g8 gh:=Dis.far R8.gn bh
   have D8p : Dis g8 gp:=Dis.far R8.gn bp
   refine RS114 TX R7x RH (by omega) (by omega) fun w7 Y k7 A7 R7y => ?_
   have R8y:=R8x.keep A7 (D78.symm.ne R8x.gn)
   have RHy:=RH.keep A7 (D7h.symm.ne RH.gn)
   have RPy:=RP.keep A7 (D7p.symm.ne RP.gn)
   have E78:=D78.app A7 R8x.gn
   have E7h:=D7h.app A7 RH.gn
   have nY:=A7.n
   have FY:=A7.fr H.n (by omega) b7
   have TY:=A7.top
   have p7:=R7y.one
   repeat' (first | ((with_reducible refine hK _ _ fun e2 hEn => ?_);clear hK K;simp only [lv29,forallC,forallL,and_true] at hEn;(try simp only [↓pb,qbs,tb29,hgo,e8,p7,hEg,irN,nrA,nrM,nrE,reduceIte,reduceCtorEq,nrL] at hEn);clear hEg;(try clear eg);have hEg:=hEn;clear hEn;rename Env => eg) | ((first | ((with_reducible first | apply oV_intro | apply oH_intro | apply oB_intro);(simp (disch:=first | exact dA | fail) only [qcs,tb29,hgo,e8,p7,hEg,irN,nrA,nrM,nrE,reduceIte,reduceCtorEq,nrL];with_reducible exact rfl)) | ((with_reducible first | apply oblA_and | apply oblR_and | apply oblO_and);(focus exact obA)) | ((with_reducible apply WO_callF);(focus exact topA);(simp only [↓pb,qbs,tb29,hgo,e8,p7,hEg,irN,nrA,nrM,nrE,reduceIte,reduceCtorEq,nrL];exact f54 _ _ _ _ _ (by exact topA) (hG.fr (N:=H.n) (by exact frA)) ok.acts (by omega));(rintro vq Gq hq hJq ⟨vh,l,rfl,Sh,el⟩;try simp only [upd_n,jn_n] at hq)) | ((with_reducible apply WO_callV);(focus exact topA);(simp only [↓pb,qbs,tb29,hgo,e8,p7,hEg,irN,nrA,nrM,nrE,reduceIte,reduceCtorEq,nrL];(exact f25 _ _ _ _ _ (by exact topA) (hG.fr (N:=H.n) (by exact frA)) (by omega) (by omega)));(intro Gq hq hJq;try simp only [upd_n,jn_n] at hq)) | (with_reducible first | refine W_regionF lv29 fun K hK => ?_ | refine W_drawnF lv29 fun K hK => ?_));try simp only [↓pb,↓pd,qds,tb29,hgo,e8,p7,hEg,irN,nrA,nrM,nrE,reduceIte,reduceCtorEq,nrL]) | ((first | ((with_reducible first | apply WO_gT | apply WO_gF | apply WD_gT | apply WD_gF);exact rfl) | (with_reducible apply W_cond));(simp only [↓pb,qbs,tb29,hgo,e8,p7,hEg,irN,nrA,nrM,nrE,reduceIte,reduceCtorEq,nrL];with_reducible exact rfl);all_goals (intro hc;(first | exact hcX hc | try simp only [hcs] at hc);try ((with_reducible first | apply woI | apply wdI);simp only [↓pb,↓pd,qds,tb29,hgo,e8,p7,hc,hEg,irN,nrA,nrM,nrE,reduceIte,reduceCtorEq,nrL]))) | (with_reducible first | refine W_seq ?_ | refine W_block ?_ | refine W_skip ?_ | refine W_ret ?_ | refine W_exit ?_ | apply blockK_exit) | ((with_reducible apply blockK_pass);(focus decide)) | fail)
   refine RS114 TY R8y RPy (by omega) (by omega) fun w8 Z k8 A8 R8z => ?_
   have R7z:=R7y.keep A8 (E78.ne R7y.gn)
   have RHz:=RHy.keep A8 (D8h.symm.ne RHy.gn)
   have RPz:=RPy.keep A8 (D8p.symm.ne RPy.gn)
   have E87:=E78.symm.app A8 R7y.gn
   have E8h:=D8h.app A8 RHy.gn
   have nZ:=A8.n
   have FZ:=A8.fr H.n (by omega) b8
   have TZ:=A8.top
   have p8:=R8z.one
   repeat' (first | ((with_reducible refine hK _ _ fun e2 hEn => ?_);clear hK K;simp only [lv29,forallC,forallL,and_true] at hEn;(try simp only [↓pb,qbs,tb29,hgo,p7,p8,hEg,irN,nrA,nrM,nrE,reduceIte,reduceCtorEq,nrL] at hEn);clear hEg;(try clear eg);have hEg:=hEn;clear hEn;rename Env => eg) | ((first | ((with_reducible first | apply oV_intro | apply oH_intro | apply oB_intro);(simp (disch:=first | exact dA | fail) only [qcs,tb29,hgo,p7,p8,hEg,irN,nrA,nrM,nrE,reduceIte,reduceCtorEq,nrL];with_reducible exact rfl)) | ((with_reducible first | apply oblA_and | apply oblR_and | apply oblO_and);(focus exact obA)) | ((with_reducible apply WO_callF);(focus exact topA);(simp only [↓pb,qbs,tb29,hgo,p7,p8,hEg,irN,nrA,nrM,nrE,reduceIte,reduceCtorEq,nrL];exact f54 _ _ _ _ _ (by exact topA) (hG.fr (N:=H.n) (by exact frA)) ok.acts (by omega));(rintro vq Gq hq hJq ⟨vh,l,rfl,Sh,el⟩;try simp only [upd_n,jn_n] at hq)) | ((with_reducible apply WO_callV);(focus exact topA);(simp only [↓pb,qbs,tb29,hgo,p7,p8,hEg,irN,nrA,nrM,nrE,reduceIte,reduceCtorEq,nrL];(exact f25 _ _ _ _ _ (by exact topA) (hG.fr (N:=H.n) (by exact frA)) (by omega) (by omega)));(intro Gq hq hJq;try simp only [upd_n,jn_n] at hq)) | (with_reducible first | refine W_regionE lv29 [14] fun K hK => ?_ | refine W_drawnE lv29 [14] fun K hK => ?_));try simp only [↓pb,↓pd,qds,tb29,hgo,p7,p8,hEg,irN,nrA,nrM,nrE,reduceIte,reduceCtorEq,nrL]) | ((first | ((with_reducible first | apply WO_gT | apply WO_gF | apply WD_gT | apply WD_gF);exact rfl) | (with_reducible apply W_cond));(simp only [↓pb,qbs,tb29,hgo,p7,p8,hEg,irN,nrA,nrM,nrE,reduceIte,reduceCtorEq,nrL];with_reducible exact rfl);all_goals (intro hc;(first | exact hcX hc | try simp only [hcs] at hc);try ((with_reducible first | apply woI | apply wdI);simp only [↓pb,↓pd,qds,tb29,hgo,p7,p8,hc,hEg,irN,nrA,nrM,nrE,reduceIte,reduceCtorEq,nrL]))) | (with_reducible first | refine W_seq ?_ | refine W_block ?_ | refine W_skip ?_ | refine W_ret ?_ | refine W_exit ?_ | apply blockK_exit) | ((with_reducible apply blockK_pass);(focus decide)) | fail)
   have FhZ : Fr H.n [] h1 Z:=(FX.down hn01).trans (FY.trans FZ)
   have F0Z : Fr H.n [] H Z:=hF01.trans FhZ
   have FbZ : Fr H.n [] hb Z:=hF1.trans FhZ
   have dZ : Z.get GB = .cells [va,vb,vc,vh] 91 .ex:=by rw [FhZ.old _ (by omega) (by simp)];exact d0
   obtain ⟨pp,hpp⟩ : ∃ pp,pp = if (heapsR g (known g).1 i1 g.Spots.length ++ pairRules g (known g).1 i1 g.Spots.length).any (breaksR (l.map (·.1.s))) = true then earlierI s.perhaps i1 else s.perhaps:=⟨_,rfl⟩
   have fih:=heapsR_fine (g:=g) hfew i1 g.Spots.length (by omega)
   have fip:=pairRules_fine (g:=g) hfew i1 g.Spots.length (by omega)
   have fia:=fih.app fip
   refine W_both (fun e h => (e 2 = iv pp ∧ e 3 = iv (-1) ∧ e 6 = vptr GB 0 ∧ e 7 = w7 ∧ e 8 = w8 ∧ e 9 = iv i1 ∧ e 25 = iv i1) ∧ Fr H.n [] Z h ∧ RS h H.n w7 (s.singles ++ heapsR g (known g).1 i1 g.Spots.length) k7 ∧ RS h H.n w8 (s.doubles ++ pairRules g (known g).1 i1 g.Spots.length) k8) ?_ ?_
   ·repeat' (first | ((with_reducible refine hK _ _ fun e2 hEn => ?_);clear hK K;simp only [lv29,forallC,forallL,and_true] at hEn;(try simp only [↓pb,qbs,tb29,hgo,hEg,irN,nrA,nrM,nrE,reduceIte,reduceCtorEq,nrL] at hEn);clear hEg;(try clear eg);have hEg:=hEn;clear hEn;rename Env => eg) | ((first | ((with_reducible first | apply oV_intro | apply oH_intro | apply oB_intro);(simp (disch:=first | exact dA | fail) only [qcs,tb29,hgo,hEg,irN,nrA,nrM,nrE,reduceIte,reduceCtorEq,nrL];with_reducible exact rfl)) | ((with_reducible first | apply oblA_and | apply oblR_and | apply oblO_and);(focus exact obA)) | ((with_reducible apply WO_callF);(focus exact topA);(simp only [↓pb,qbs,tb29,hgo,hEg,irN,nrA,nrM,nrE,reduceIte,reduceCtorEq,nrL];exact f54 _ _ _ _ _ (by exact topA) (hG.fr (N:=H.n) (by exact frA)) ok.acts (by omega));(rintro vq Gq hq hJq ⟨vh,l,rfl,Sh,el⟩;try simp only [upd_n,jn_n] at hq)) | ((with_reducible apply WO_callV);(focus exact topA);(simp only [↓pb,qbs,tb29,hgo,hEg,irN,nrA,nrM,nrE,reduceIte,reduceCtorEq,nrL];(exact f25 _ _ _ _ _ (by exact topA) (hG.fr (N:=H.n) (by exact frA)) (by omega) (by omega)));(intro Gq hq hJq;try simp only [upd_n,jn_n] at hq)) | (with_reducible first | refine W_regionF lv29 fun K hK => ?_ | refine W_drawnF lv29 fun K hK => ?_));try simp only [↓pb,↓pd,qds,tb29,hgo,hEg,irN,nrA,nrM,nrE,reduceIte,reduceCtorEq,nrL]) | ((first | ((with_reducible first | apply WO_gT | apply WO_gF | apply WD_gT | apply WD_gF);exact rfl) | (with_reducible apply W_cond));(simp only [↓pb,qbs,tb29,hgo,hEg,irN,nrA,nrM,nrE,reduceIte,reduceCtorEq,nrL];with_reducible exact rfl);all_goals (intro hc;(first | exact hcX hc | try simp only [hcs] at hc);try ((with_reducible first | apply woI | apply wdI);simp only [↓pb,↓pd,qds,tb29,hgo,hc,hEg,irN,nrA,nrM,nrE,reduceIte,reduceCtorEq,nrL]))) | (with_reducible first | refine W_seq ?_ | refine W_block ?_ | refine W_skip ?_ | refine W_ret ?_ | refine W_exit ?_ | apply blockK_exit) | ((with_reducible apply blockK_pass);(focus decide)) | fail)
    refine RS114 TZ RHz RPz (by omega) (by omega) fun w9 V k9 A9 R9 => ?_
    have R7v:=R7z.keep A9 ((E7h).ne R7z.gn)
    have R8v:=R8z.keep A9 (E8h.ne R8z.gn)
    have nV:=A9.n
    have FV:=A9.fr H.n (by omega) (fun x hx => Nat.le_trans hn01 (bh x hx))
    have TV:=A9.top
    have F0V:=F0Z.trans FV
    have gV : V.get GB = Z.get GB:=A9.old GB (by omega)
    have rV : V.rd GB = some [va,vb,vc,vh]:=by rw [rd_def,gV,dZ];rfl
    obtain ⟨vs9,a9,_,c9⟩:=R9
    have p9:=R8v.one
    have ShV:=Sb.fr (Fr.trans FbZ FV)
    have o9:=a9.one
    have hr10 : ∀ r,r ∈ heapsR g (known g).1 i1 g.Spots.length ++ pairRules g (known g).1 i1 g.Spots.length → r.length < 1000:=fun r hr => by have:=(fia r hr).2;omega
    have hl9 : (heapsR g (known g).1 i1 g.Spots.length ++ pairRules g (known g).1 i1 g.Spots.length).length < 1000000:=by rw [List.length_append];omega
    refine ⟨⟨.inr gV,trivial⟩, ?_⟩
    repeat' (first | ((with_reducible refine hK _ _ fun e2 hEn => ?_);clear hK K;simp only [lv29,forallC,forallL,and_true] at hEn;(try simp only [↓pb,qbs,tb29,hgo,rV,hgo,oh,o9,hEg,irN,nrA,nrM,nrE,reduceIte,reduceCtorEq,nrL] at hEn);clear hEg;(try clear eg);have hEg:=hEn;clear hEn;rename Env => eg) | ((first | ((with_reducible first | apply oV_intro | apply oH_intro | apply oB_intro);(simp (disch:=first | exact dA | fail) only [qcs,tb29,hgo,rV,hgo,oh,o9,hEg,irN,nrA,nrM,nrE,reduceIte,reduceCtorEq,nrL];with_reducible exact rfl)) | ((with_reducible first | apply oblA_and | apply oblR_and | apply oblO_and);(focus exact obA)) | ((with_reducible apply WO_callF);(focus exact topA);(simp only [↓pb,qbs,tb29,hgo,rV,hgo,oh,o9,hEg,irN,nrA,nrM,nrE,reduceIte,reduceCtorEq,nrL];exact f54 _ _ _ _ _ (by exact topA) (hG.fr (N:=H.n) (by exact frA)) ok.acts (by omega));(rintro vq Gq hq hJq ⟨vh,l,rfl,Sh,el⟩;try simp only [upd_n,jn_n] at hq)) | ((with_reducible apply WO_callE);(simp only [↓pb,qbs,tb29,hgo,rV,hgo,oh,o9,hEg,irN,nrA,nrM,nrE,reduceIte,reduceCtorEq,nrL];(exact f71 _ _ _))) | ((with_reducible apply WO_callV);(focus exact topA);(simp only [↓pb,qbs,tb29,hgo,rV,hgo,oh,o9,hEg,irN,nrA,nrM,nrE,reduceIte,reduceCtorEq,nrL];(first | exact f69 _ _ _ _ _ l [] vs9 _ _ (by exact topA) hgo ShV (by omega) a9.sr c9 fia.ok hr10 hl9 | exact f25 _ _ _ _ _ (by exact topA) (hG.fr (N:=H.n) (by exact frA)) (by omega) (by omega)));(intro Gq hq hJq;try simp only [upd_n,jn_n] at hq)) | (with_reducible first | refine W_regionF lv29 fun K hK => ?_ | refine W_drawnF lv29 fun K hK => ?_));try simp only [↓pb,↓pd,qds,tb29,hgo,rV,hgo,oh,o9,hEg,irN,nrA,nrM,nrE,reduceIte,reduceCtorEq,nrL]) | ((first | ((with_reducible first | apply WO_gT | apply WO_gF | apply WD_gT | apply WD_gF);exact rfl) | (with_reducible apply W_cond));(simp only [↓pb,qbs,tb29,hgo,rV,hgo,oh,o9,hEg,irN,nrA,nrM,nrE,reduceIte,reduceCtorEq,nrL];with_reducible exact rfl);all_goals (intro hc;(first | exact hcX hc | try simp only [hcs] at hc);try ((with_reducible first | apply woI | apply wdI);simp only [↓pb,↓pd,qds,tb29,hgo,rV,hgo,oh,o9,hc,hEg,irN,nrA,nrM,nrE,reduceIte,reduceCtorEq,nrL]))) | (with_reducible first | refine W_seq ?_ | refine W_block ?_ | refine W_skip ?_ | refine W_ret ?_ | refine W_exit ?_ | apply blockK_exit) | ((with_reducible apply blockK_pass);(focus decide)) | fail)
    ·refine ⟨rfl, ?_,(by exact frA),R7v.fr0 (by exact frA),R8v.fr0 (by exact frA)⟩
     rw [hpp,if_pos hc]
     simp only [hEg,earlierI,and_self]
    ·refine ⟨rfl, ?_,(by exact frA),R7v.fr0 (by exact frA),R8v.fr0 (by exact frA)⟩
     rw [hpp,if_neg (by rw [hc];simp)]
     simp only [hEg,and_self]
   ·rintro e5 h5 ⟨⟨j2,j3,j6,j7,j8,j9,j25⟩,F5,R7w,R8w⟩
    clear hEg R7x R8x R8y RHy RPy R7y R7z RHz RPz R8z TX TY
    have hEg:=And.intro j2 (And.intro j3 (And.intro j6 (And.intro j7 (And.intro j8 (And.intro j9 j25)))))
    clear j2 j3 j6 j7 j8 j9 j25
    have Fh5:=FhZ.trans F5
    have F05:=F0Z.trans F5
    have Fb5:=FbZ.trans F5
    have T5:=F5.top TZ
    have d5 : h5.get GB = .cells [va,vb,vc,vh] 91 .ex:=by rw [F5.old _ (by omega) (by simp)];exact dZ
    have r5 : h5.rd GB = some [va,vb,vc,vh]:=by rw [rd_def,d5];rfl
    have Sh5:=Sb.fr Fb5
    have o7w:=R7w.one
    have o8w:=R8w.one
    have n5:=Fh5.n
    have hp7 : 0 < (s.singles ++ heapsR g (known g).1 i1 g.Spots.length).length:=by rw [List.length_append];omega
    have hl78 : (s.singles ++ heapsR g (known g).1 i1 g.Spots.length).length + (s.doubles ++ pairRules g (known g).1 i1 g.Spots.length).length ≤ 1000000:=by rw [List.length_append,List.length_append];omega
    have hl78' : ((s.singles ++ heapsR g (known g).1 i1 g.Spots.length) ++ (s.doubles ++ pairRules g (known g).1 i1 g.Spots.length)).length ≤ 1000000:=by rw [List.length_append];exact hl78
    have fi7':=fi7.app fih
    have fi8':=fi8.app fip
    have fi78:=fi7'.app fi8'
    have hr78 : ∀ r,r ∈ (s.singles ++ heapsR g (known g).1 i1 g.Spots.length) ++ (s.doubles ++ pairRules g (known g).1 i1 g.Spots.length) → r.length ≤ 1000:=fun r hr => by have:=(fi78 r hr).2;omega
    have hbs : bStep g (known g).1 s i1 = (⟨pp,s.singles ++ heapsR g (known g).1 i1 g.Spots.length,s.doubles ++ pairRules g (known g).1 i1 g.Spots.length⟩,decide (0 ≤ pp) && !keptL ((s.singles ++ heapsR g (known g).1 i1 g.Spots.length) ++ (s.doubles ++ pairRules g (known g).1 i1 g.Spots.length)) (l.map (·.1.s))):=by
     unfold bStep
     dsimp only
     rw [← hal2,← hpp]
    have hstep : bGo g (known g).1 (73 - i1) i1 s = if (bStep g (known g).1 s i1).2 = true then ((bStep g (known g).1 s i1).1.perhaps,(i1 : Int)) else bGo g (known g).1 (72 - i1) (i1 + 1) (bStep g (known g).1 s i1).1:=by
     rw [show 73 - i1 = (72 - i1) + 1 by omega,bGo]
    repeat' (first | ((with_reducible refine hK _ _ fun e2 hEn => ?_);clear hK K;simp only [lv29,forallC,forallL,and_true] at hEn;(try simp only [↓pb,qbs,tb29,hgo,r5,hgo,oh,o7w,o8w,hEg,irN,nrA,nrM,nrE,reduceIte,reduceCtorEq,nrL] at hEn);clear hEg;(try clear eg);have hEg:=hEn;clear hEn;rename Env => eg) | ((first | ((with_reducible first | apply oV_intro | apply oH_intro | apply oB_intro);(simp (disch:=first | exact dA | fail) only [qcs,tb29,hgo,r5,hgo,oh,o7w,o8w,hEg,irN,nrA,nrM,nrE,reduceIte,reduceCtorEq,nrL];with_reducible exact rfl)) | ((with_reducible first | apply oblA_and | apply oblR_and | apply oblO_and);(focus exact obA)) | ((with_reducible apply WO_callF);(focus exact topA);(simp only [↓pb,qbs,tb29,hgo,r5,hgo,oh,o7w,o8w,hEg,irN,nrA,nrM,nrE,reduceIte,reduceCtorEq,nrL];exact f73 _ _ _ _ _ _ _ _ _ _ (by exact topA) (Nat.lt_succ_self _) upd_get_same (R7w.fr0 (by exact frA)) (R8w.fr0 (by exact frA)) hp7 hl78);(rintro vq Gq hq hJq ⟨vsK,SC,RVK,bK⟩;try simp only [upd_n,jn_n] at hq)) | ((with_reducible apply WO_callF);(focus exact topA);(simp only [↓pb,qbs,tb29,hgo,r5,hgo,oh,o7w,o8w,hEg,irN,nrA,nrM,nrE,reduceIte,reduceCtorEq,nrL];exact f54 _ _ _ _ _ (by exact topA) (hG.fr (N:=H.n) (by exact frA)) ok.acts (by omega));(rintro vq Gq hq hJq ⟨vh,l,rfl,Sh,el⟩;try simp only [upd_n,jn_n] at hq)) | ((with_reducible apply WO_callV);(focus exact topA);(simp only [↓pb,qbs,tb29,hgo,r5,hgo,oh,o7w,o8w,hEg,irN,nrA,nrM,nrE,reduceIte,reduceCtorEq,nrL];(first | exact f72 _ _ _ _ _ l vsK _ _ (by exact topA) hgo (Sh5.fr (N:=h5.n) (by exact frA)) ⟨by omega,by omega⟩ SC RVK hl78' hr78 fi78.ok | exact f25 _ _ _ _ _ (by exact topA) (hG.fr (N:=H.n) (by exact frA)) (by omega) (by omega)));(intro Gq hq hJq;try simp only [upd_n,jn_n] at hq)) | (with_reducible first | refine W_regionF lv29 fun K hK => ?_ | refine W_drawnF lv29 fun K hK => ?_));try simp only [↓pb,↓pd,qds,tb29,hgo,r5,hgo,oh,o7w,o8w,hEg,irN,nrA,nrM,nrE,reduceIte,reduceCtorEq,nrL]) | ((first | ((with_reducible first | apply WO_gT | apply WO_gF | apply WD_gT | apply WD_gF);exact rfl) | (with_reducible apply W_cond));(simp only [↓pb,qbs,tb29,hgo,r5,hgo,oh,o7w,o8w,hEg,irN,nrA,nrM,nrE,reduceIte,reduceCtorEq,nrL];with_reducible exact rfl);all_goals (intro hc;(first | exact hcX hc | try simp only [hcs] at hc);try ((with_reducible first | apply woI | apply wdI);simp only [↓pb,↓pd,qds,tb29,hgo,r5,hgo,oh,o7w,o8w,hc,hEg,irN,nrA,nrM,nrE,reduceIte,reduceCtorEq,nrL]))) | (with_reducible first | refine W_seq ?_ | refine W_block ?_ | refine W_skip ?_ | refine W_ret ?_ | refine W_exit ?_ | apply blockK_exit) | ((with_reducible apply blockK_pass);(focus decide)) | fail)
    ·have hkf : keptL ((s.singles ++ heapsR g (known g).1 i1 g.Spots.length) ++ (s.doubles ++ pairRules g (known g).1 i1 g.Spots.length)) (l.map (·.1.s)) = false:=by simpa using hc
     have h0p : 0 ≤ pp:=by assumption
     refine ⟨by first | exact .inl rfl | exact .inr rfl, ?_⟩
     rw [ret3 Try.results29]
     simp only [↓pb,qbs,tb29,hgo,rv_tmp,rv_cell,hEg,irN,nrA,nrM,nrE,reduceIte,reduceCtorEq,nrL]
     repeat ((with_reducible apply oV_intro);(simp (disch:=first | exact dA | fail) only [qcs,tb29,hgo,hEg,irN,nrA,nrM,nrE,reduceIte,reduceCtorEq,nrL];exact rfl))
     refine ⟨?_,(by exact frA)⟩
     unfold breaks
     rw [if_neg (fun q => q hck),if_neg (fun q => q hk0),hgo1,hstep,if_pos (by rw [hbs,hkf,decide_eq_true h0p];rfl),hbs]
    ·have hkf : keptL ((s.singles ++ heapsR g (known g).1 i1 g.Spots.length) ++ (s.doubles ++ pairRules g (known g).1 i1 g.Spots.length)) (l.map (·.1.s)) = true:=by simpa using hc
     refine ⟨by omega,by simp only [↓pb,qbs,tb29,hgo,hEg,irN,nrA,nrM,nrE,reduceIte,reduceCtorEq,nrL];exact congrArg _ (inc64 (by omega)),by focus exact frA, ?_⟩
     refine ⟨⟨pp,s.singles ++ heapsR g (known g).1 i1 g.Spots.length,s.doubles ++ pairRules g (known g).1 i1 g.Spots.length⟩,w7,w8,k7,k8,by simp only [hEg],by simp only [hEg],by simp only [hEg],by simp only [hEg],R7w.fr0 (by exact frA),R8w.fr0 (by exact frA),E87.symm, ?_,fi7',fi8', ?_, ?_⟩
     ·rw [hgo1,hstep,if_neg (by rw [hbs,hkf];simp),hbs,show 72 - i1 = 73 - (i1 + 1) by omega]
     ·rw [List.length_append]
      omega
     ·rw [List.length_append]
      omega
    ·have h0p : ¬ 0 ≤ pp:=by assumption
     refine ⟨by omega,by simp only [↓pb,qbs,tb29,hgo,hEg,irN,nrA,nrM,nrE,reduceIte,reduceCtorEq,nrL];exact congrArg _ (inc64 (by omega)),by focus exact frA, ?_⟩
     refine ⟨⟨pp,s.singles ++ heapsR g (known g).1 i1 g.Spots.length,s.doubles ++ pairRules g (known g).1 i1 g.Spots.length⟩,w7,w8,k7,k8,by simp only [hEg],by simp only [hEg],by simp only [hEg],by simp only [hEg],R7w,R8w,E87.symm, ?_,fi7',fi8', ?_, ?_⟩
     ·rw [hgo1,hstep,if_neg (by rw [hbs,decide_eq_false h0p];simp),hbs,show 72 - i1 = 73 - (i1 + 1) by omega]
     ·rw [List.length_append]
      omega
     ·rw [List.length_append]
      omega
  ·have e1n : i1 = 73:=by omega
   subst e1n
   repeat' (first | ((with_reducible refine hK _ _ fun e2 hEn => ?_);clear hK K;simp only [lv29,forallC,forallL,and_true] at hEn;(try simp only [↓pb,qbs,tb29,hgo,ee2,e3,hEg,irN,nrA,nrM,nrE,reduceIte,reduceCtorEq,nrL] at hEn);clear hEg;(try clear eg);have hEg:=hEn;clear hEn;rename Env => eg) | ((first | ((with_reducible first | apply oV_intro | apply oH_intro | apply oB_intro);(simp (disch:=first | exact dA | fail) only [qcs,tb29,hgo,ee2,e3,hEg,irN,nrA,nrM,nrE,reduceIte,reduceCtorEq,nrL];with_reducible exact rfl)) | ((with_reducible first | apply oblA_and | apply oblR_and | apply oblO_and);(focus exact obA)) | ((with_reducible apply WO_callF);(focus exact topA);(simp only [↓pb,qbs,tb29,hgo,ee2,e3,hEg,irN,nrA,nrM,nrE,reduceIte,reduceCtorEq,nrL];exact f54 _ _ _ _ _ (by exact topA) (hG.fr (N:=H.n) (by exact frA)) ok.acts (by omega));(rintro vq Gq hq hJq ⟨vh,l,rfl,Sh,el⟩;try simp only [upd_n,jn_n] at hq)) | ((with_reducible apply WO_callV);(focus exact topA);(simp only [↓pb,qbs,tb29,hgo,ee2,e3,hEg,irN,nrA,nrM,nrE,reduceIte,reduceCtorEq,nrL];(exact f25 _ _ _ _ _ (by exact topA) (hG.fr (N:=H.n) (by exact frA)) (by omega) (by omega)));(intro Gq hq hJq;try simp only [upd_n,jn_n] at hq)) | (with_reducible first | refine W_regionF lv29 fun K hK => ?_ | refine W_drawnF lv29 fun K hK => ?_));try simp only [↓pb,↓pd,qds,tb29,hgo,ee2,e3,hEg,irN,nrA,nrM,nrE,reduceIte,reduceCtorEq,nrL]) | ((first | ((with_reducible first | apply WO_gT | apply WO_gF | apply WD_gT | apply WD_gF);exact rfl) | (with_reducible apply W_cond));(simp only [↓pb,qbs,tb29,hgo,ee2,e3,hEg,irN,nrA,nrM,nrE,reduceIte,reduceCtorEq,nrL];with_reducible exact rfl);all_goals (intro hc;(first | exact hcX hc | try simp only [hcs] at hc);try ((with_reducible first | apply woI | apply wdI);simp only [↓pb,↓pd,qds,tb29,hgo,ee2,e3,hc,hEg,irN,nrA,nrM,nrE,reduceIte,reduceCtorEq,nrL]))) | (with_reducible first | refine W_seq ?_ | refine W_block ?_ | refine W_skip ?_ | refine W_ret ?_ | refine W_exit ?_ | apply blockK_exit) | ((with_reducible apply blockK_pass);(focus decide)) | fail)
   refine ⟨by first | exact .inl rfl | exact .inr rfl, ?_⟩
   rw [ret3 Try.results29]
   simp only [↓pb,qbs,tb29,hgo,rv_tmp,rv_cell,hEg,irN,nrA,nrM,nrE,reduceIte,reduceCtorEq,nrL]
   repeat ((with_reducible apply oV_intro);(simp (disch:=first | exact dA | fail) only [qcs,tb29,hgo,hEg,irN,nrA,nrM,nrE,reduceIte,reduceCtorEq,nrL];exact rfl))
   refine ⟨?_,(by exact frA)⟩
   unfold breaks
   rw [if_neg (fun q => q hck),if_neg (fun q => q hk0),hgo1]
   rfl
 ·refine Cl.ofW Try.func29 rfl (by kernel_rfl) (by rw [Try.ntmps29];exact Nat.le_of_ble_eq_true rfl) (by kernel_rfl) ?_
  have hEg : True:=trivial
  refine gcW [0] ?_
  intro eg hEn
  simp only [forallC,forallL,and_true] at hEn
  try simp only [↓pb,qbs,tb29,hgo,hEg,irN,nrA,nrM,nrE,reduceIte,reduceCtorEq,nrL] at hEn
  replace hEg:=hEn;clear hEn
  repeat' (first | ((with_reducible refine hK _ _ fun e2 hEn => ?_);clear hK K;simp only [lv29,forallC,forallL,and_true] at hEn;(try simp only [↓pb,qbs,tb29,hgo,hck,hEg,irN,nrA,nrM,nrE,reduceIte,reduceCtorEq,nrL] at hEn);clear hEg;(try clear eg);have hEg:=hEn;clear hEn;rename Env => eg) | ((first | ((with_reducible first | apply oV_intro | apply oH_intro | apply oB_intro);(simp (disch:=first | exact dA | fail) only [qcs,tb29,hgo,hck,hEg,irN,nrA,nrM,nrE,reduceIte,reduceCtorEq,nrL];with_reducible exact rfl)) | ((with_reducible first | apply oblA_and | apply oblR_and | apply oblO_and);(focus exact obA)) | ((with_reducible apply WO_callV);(focus exact topA);(simp only [↓pb,qbs,tb29,hgo,hck,hEg,irN,nrA,nrM,nrE,reduceIte,reduceCtorEq,nrL];(exact f25 _ _ _ _ _ (by exact topA) (hG.fr (N:=H.n) (by exact frA)) (by omega) (by omega)));(intro Gq hq hJq;try simp only [upd_n,jn_n] at hq)) | (with_reducible first | refine W_regionF lv29 fun K hK => ?_ | refine W_drawnF lv29 fun K hK => ?_));try simp only [↓pb,↓pd,qds,tb29,hgo,hck,hEg,irN,nrA,nrM,nrE,reduceIte,reduceCtorEq,nrL]) | ((first | ((with_reducible first | apply WO_gT | apply WO_gF | apply WD_gT | apply WD_gF);exact rfl) | (with_reducible apply W_cond));(simp only [↓pb,qbs,tb29,hgo,hck,hEg,irN,nrA,nrM,nrE,reduceIte,reduceCtorEq,nrL];with_reducible exact rfl);all_goals (intro hc;(first | exact hcX hc | try simp only [hcs] at hc);try ((with_reducible first | apply woI | apply wdI);simp only [↓pb,↓pd,qds,tb29,hgo,hck,hc,hEg,irN,nrA,nrM,nrE,reduceIte,reduceCtorEq,nrL]))) | (with_reducible first | refine W_seq ?_ | refine W_block ?_ | refine W_skip ?_ | refine W_ret ?_ | refine W_exit ?_ | apply blockK_exit) | ((with_reducible apply blockK_pass);(focus decide)) | fail)
  refine ⟨by first | exact .inl rfl | exact .inr rfl, ?_⟩
  rw [ret3 Try.results29]
  simp only [↓pb,qbs,tb29,hgo,rv_tmp,rv_cell,hEg,irN,nrA,nrM,nrE,reduceIte,reduceCtorEq,nrL]
  repeat ((with_reducible apply oV_intro);(simp (disch:=first | exact dA | fail) only [qcs,tb29,hgo,hEg,irN,nrA,nrM,nrE,reduceIte,reduceCtorEq,nrL];exact rfl))
  refine ⟨?_,(by exact frA)⟩
  unfold breaks
  rw [if_pos hck]

theorem CpF.feed {g : Gnd} {B4 B6 rr n0 : Nat} {va vb vc xa xb xc : Value} {al : List Act} {h h' : AHeap} {u : Value} {T : TypeId} (k : CpF g B4 B6 rr va vb vc xa xb xc al h) (F : Fr 0 [n0] h h') (hg : h.get n0 = .cells [u] T .ex) (o2 : n0 ≠ B4) (o3 : n0 ≠ B6) (o4 : n0 ≠ rr) (so : Sole h rr → Sole h' rr) : CpF g B4 B6 rr va vb vc xa xb xc al h':=by
 obtain ⟨b2,b3,b4⟩:=k.bd
 have hn:=F.n
 refine ⟨by rw [F.old _ b2 (by simpa using Ne.symm o2)];exact k.g4,by rw [F.old _ b3 (by simpa using Ne.symm o3)];exact k.g6,k.hG.frR F hg, ?_,k.xp.fr F (k.xp.offR hg (by omega)),k.xq.fr F (k.xq.offR hg (by omega)), ?_,by omega, ?_⟩
 ·rcases k.hk with q | q
  ·exact .inl q
  ·rcases k.hG.p.lt with q2 | q2
   ·exact .inl q2
   ·rcases k.hG.p.offR hg (by omega) with q3 | q3
    ·exact .inl q3
    ·exact .inr (q.fr F q2 q3)
 ·rcases k.xk with q | q
  ·exact .inl q
  ·rcases k.xp.lt with q2 | q2
   ·exact .inl q2
   ·rcases k.xp.offR hg (by omega) with q3 | q3
    ·exact .inl q3
    ·exact .inr (q.fr F q2 q3)
 ·rcases k.xr with q | ⟨q0,q1,q2⟩
  ·exact .inl q
  ·rcases b4 with q3 | q3
   ·exact .inl q3
   ·exact .inr ⟨q0,by rw [F.old _ q3 (by simpa using Ne.symm o4)];exact q1,so q2⟩

theorem WO_gU {P : Program} {C : CallRel} {ops : Array Oper} {os : List Oper} {K : Env → AHeap → Prop} {env : Env} {H : AHeap} {dst : Option Tmp} {ty : TypeId} {pos : String} {aft : Array Edge} {op : Op} {j : Nat} {d : Tmp} {b : Bool} (hd : (ops[j]?).bind (·.dst) = some d) (hv : env d = undef) (h : WO P C ops os K (env.set dst undef) H) :
  WO P C ops (⟨dst,op,ty,pos,aft,some (j,b)⟩ :: os) K env H:=by
 rw [WO_guard]
 have : yieldedA ops env j = none:=by
  unfold yieldedA
  rw [hd]
  simp only [hv]
  rfl
 rw [this,if_neg (by simp)]
 exact h
theorem f46 (a b : Int) (H : AHeap) (hT : Top H) : ∃ v H',C5 (.fn 46) #[iv a,iv b] H v H' ∧ v = .bool (decide (a < 0 ∨ (0 ≤ b ∧ b ≤ a))) ∧ H' = H:=by
 refine Cl.ofW Try.func46 rfl (by kernel_rfl) (by rw [Try.ntmps46];exact Nat.le_of_ble_eq_true rfl) (by kernel_rfl) ?_
 have hEg : True:=trivial
 refine gcW [0,1] ?_
 intro eg hEn
 simp only [forallC,forallL,and_true] at hEn
 try simp only [↓pb,qbs,tb46,hEg,irN,nrA,nrM,nrE,reduceIte,reduceCtorEq,nrL] at hEn
 replace hEg:=hEn;clear hEn
 by_cases h1 : a < 0
 ·repeat' (first | ((with_reducible refine hK _ _ fun e2 hEn => ?_);clear hK K;simp only [lv46,forallC,forallL,and_true] at hEn;(try simp only [↓pb,qbs,tb46,h1,hEg,irN,nrA,nrM,nrE,reduceIte,reduceCtorEq,nrL] at hEn);clear hEg;(try clear eg);have hEg:=hEn;clear hEn;rename Env => eg) | ((first | ((with_reducible first | apply oV_intro | apply oH_intro | apply oB_intro);(simp (disch:=first | exact dA | fail) only [qcs,tb46,h1,hEg,irN,nrA,nrM,nrE,reduceIte,reduceCtorEq,nrL];with_reducible exact rfl)) | (with_reducible first | refine W_regionF lv46 fun K hK => ?_));try simp only [↓pb,↓pd,qds,tb46,h1,hEg,irN,nrA,nrM,nrE,reduceIte,reduceCtorEq,nrL]) | (((with_reducible first | apply WO_gT | apply WO_gF);exact rfl);(simp only [↓pb,qbs,tb46,h1,hEg,irN,nrA,nrM,nrE,reduceIte,reduceCtorEq,nrL];with_reducible exact rfl);all_goals (intro hc;(first | exact hcX hc | try simp only [hcs] at hc);try ((with_reducible apply woI);simp only [↓pb,↓pd,qds,tb46,h1,hc,hEg,irN,nrA,nrM,nrE,reduceIte,reduceCtorEq,nrL]))) | (with_reducible first | refine W_seq ?_ | refine W_ret ?_) | fail)
  iterate 3 (refine WO_gU rfl (by simp only [↓pb,qbs,tb46,hEg,irN,nrA,nrM,nrE,reduceIte,reduceCtorEq,nrL]) ?_;simp only [↓pb,↓pd,qds,tb46,hEg,irN,nrA,nrM,nrE,reduceIte,reduceCtorEq,nrL])
  repeat' (first | ((with_reducible refine hK _ _ fun e2 hEn => ?_);clear hK K;simp only [lv46,forallC,forallL,and_true] at hEn;(try simp only [↓pb,qbs,tb46,h1,hEg,irN,nrA,nrM,nrE,reduceIte,reduceCtorEq,nrL] at hEn);clear hEg;(try clear eg);have hEg:=hEn;clear hEn;rename Env => eg) | ((first | ((with_reducible first | apply oV_intro | apply oH_intro | apply oB_intro);(simp (disch:=first | exact dA | fail) only [qcs,tb46,h1,hEg,irN,nrA,nrM,nrE,reduceIte,reduceCtorEq,nrL];with_reducible exact rfl)) | (with_reducible first | refine W_regionF lv46 fun K hK => ?_));try simp only [↓pb,↓pd,qds,tb46,h1,hEg,irN,nrA,nrM,nrE,reduceIte,reduceCtorEq,nrL]) | (((with_reducible first | apply WO_gT | apply WO_gF);exact rfl);(simp only [↓pb,qbs,tb46,h1,hEg,irN,nrA,nrM,nrE,reduceIte,reduceCtorEq,nrL];with_reducible exact rfl);all_goals (intro hc;(first | exact hcX hc | try simp only [hcs] at hc);try ((with_reducible apply woI);simp only [↓pb,↓pd,qds,tb46,h1,hc,hEg,irN,nrA,nrM,nrE,reduceIte,reduceCtorEq,nrL]))) | (with_reducible first | refine W_seq ?_ | refine W_ret ?_) | fail)
  refine ⟨by first | exact .inl rfl | exact .inr rfl, ?_⟩
  rw [ret1 Try.results46]
  simp only [↓pb,qbs,tb46,rv_tmp,rv_cell,hEg,irN,nrA,nrM,nrE,reduceIte,reduceCtorEq,nrL]
  repeat ((with_reducible apply oV_intro);(simp (disch:=first | exact dA | fail) only [qcs,tb46,hEg,irN,nrA,nrM,nrE,reduceIte,reduceCtorEq,nrL];exact rfl))
  simp [h1]
 ·by_cases h2 : 0 ≤ b
  ·repeat' (first | ((with_reducible refine hK _ _ fun e2 hEn => ?_);clear hK K;simp only [lv46,forallC,forallL,and_true] at hEn;(try simp only [↓pb,qbs,tb46,h1,h2,hEg,irN,nrA,nrM,nrE,reduceIte,reduceCtorEq,nrL] at hEn);clear hEg;(try clear eg);have hEg:=hEn;clear hEn;rename Env => eg) | ((first | ((with_reducible first | apply oV_intro | apply oH_intro | apply oB_intro);(simp (disch:=first | exact dA | fail) only [qcs,tb46,h1,h2,hEg,irN,nrA,nrM,nrE,reduceIte,reduceCtorEq,nrL];with_reducible exact rfl)) | (with_reducible first | refine W_regionF lv46 fun K hK => ?_));try simp only [↓pb,↓pd,qds,tb46,h1,h2,hEg,irN,nrA,nrM,nrE,reduceIte,reduceCtorEq,nrL]) | (((with_reducible first | apply WO_gT | apply WO_gF);exact rfl);(simp only [↓pb,qbs,tb46,h1,h2,hEg,irN,nrA,nrM,nrE,reduceIte,reduceCtorEq,nrL];with_reducible exact rfl);all_goals (intro hc;(first | exact hcX hc | try simp only [hcs] at hc);try ((with_reducible apply woI);simp only [↓pb,↓pd,qds,tb46,h1,h2,hc,hEg,irN,nrA,nrM,nrE,reduceIte,reduceCtorEq,nrL]))) | (with_reducible first | refine W_seq ?_ | refine W_ret ?_) | fail)
   refine ⟨by first | exact .inl rfl | exact .inr rfl, ?_⟩
   rw [ret1 Try.results46]
   simp only [↓pb,qbs,tb46,rv_tmp,rv_cell,hEg,irN,nrA,nrM,nrE,reduceIte,reduceCtorEq,nrL]
   repeat ((with_reducible apply oV_intro);(simp (disch:=first | exact dA | fail) only [qcs,tb46,hEg,irN,nrA,nrM,nrE,reduceIte,reduceCtorEq,nrL];exact rfl))
   simp [h1,h2]
  ·repeat' (first | ((with_reducible refine hK _ _ fun e2 hEn => ?_);clear hK K;simp only [lv46,forallC,forallL,and_true] at hEn;(try simp only [↓pb,qbs,tb46,h1,h2,hEg,irN,nrA,nrM,nrE,reduceIte,reduceCtorEq,nrL] at hEn);clear hEg;(try clear eg);have hEg:=hEn;clear hEn;rename Env => eg) | ((first | ((with_reducible first | apply oV_intro | apply oH_intro | apply oB_intro);(simp (disch:=first | exact dA | fail) only [qcs,tb46,h1,h2,hEg,irN,nrA,nrM,nrE,reduceIte,reduceCtorEq,nrL];with_reducible exact rfl)) | (with_reducible first | refine W_regionF lv46 fun K hK => ?_));try simp only [↓pb,↓pd,qds,tb46,h1,h2,hEg,irN,nrA,nrM,nrE,reduceIte,reduceCtorEq,nrL]) | (((with_reducible first | apply WO_gT | apply WO_gF);exact rfl);(simp only [↓pb,qbs,tb46,h1,h2,hEg,irN,nrA,nrM,nrE,reduceIte,reduceCtorEq,nrL];with_reducible exact rfl);all_goals (intro hc;(first | exact hcX hc | try simp only [hcs] at hc);try ((with_reducible apply woI);simp only [↓pb,↓pd,qds,tb46,h1,h2,hc,hEg,irN,nrA,nrM,nrE,reduceIte,reduceCtorEq,nrL]))) | (with_reducible first | refine W_seq ?_ | refine W_ret ?_) | fail)
   refine ⟨by first | exact .inl rfl | exact .inr rfl, ?_⟩
   rw [ret1 Try.results46]
   simp only [↓pb,qbs,tb46,rv_tmp,rv_cell,hEg,irN,nrA,nrM,nrE,reduceIte,reduceCtorEq,nrL]
   repeat ((with_reducible apply oV_intro);(simp (disch:=first | exact dA | fail) only [qcs,tb46,hEg,irN,nrA,nrM,nrE,reduceIte,reduceCtorEq,nrL];exact rfl))
   simp [h1,h2]
theorem f47 (a b c d : Int) (H : AHeap) (hT : Top H) : ∃ v H',C5 (.fn 47) #[.agg ⟨[iv a,iv b]⟩,.agg ⟨[iv c,iv d]⟩] H v H' ∧ v = .bool (decide (c ≤ a ∧ b ≤ d)) ∧ Fr H.n [] H H':=by
 by_cases h1 : c ≤ a
 ·refine Cl.ofW Try.func47 rfl (by kernel_rfl) (by rw [Try.ntmps47];exact Nat.le_of_ble_eq_true rfl) (by kernel_rfl) ?_
  have hEg : True:=trivial
  refine gcW [0,1] ?_
  intro eg hEn
  simp only [forallC,forallL,and_true] at hEn
  try simp only [↓pb,qbs,tb47,hEg,irN,nrA,nrM,nrE,reduceIte,reduceCtorEq,nrL] at hEn
  replace hEg:=hEn;clear hEn
  repeat' (first | ((with_reducible refine hK _ _ fun e2 hEn => ?_);clear hK K;simp only [lv47,forallC,forallL,and_true] at hEn;(try simp only [↓pb,qbs,tb47,h1,hEg,irN,nrA,nrM,nrE,reduceIte,reduceCtorEq,nrL] at hEn);clear hEg;(try clear eg);have hEg:=hEn;clear hEn;rename Env => eg) | ((first | ((with_reducible first | apply oV_intro | apply oH_intro | apply oB_intro);(simp (disch:=first | exact dA | fail) only [qcs,tb47,h1,hEg,irN,nrA,nrM,nrE,reduceIte,reduceCtorEq,nrL];with_reducible exact rfl)) | (with_reducible first | refine W_regionF lv47 fun K hK => ?_));try simp only [↓pb,↓pd,qds,tb47,h1,hEg,irN,nrA,nrM,nrE,reduceIte,reduceCtorEq,nrL]) | (((with_reducible first | apply WO_gT | apply WO_gF);exact rfl);(simp only [↓pb,qbs,tb47,h1,hEg,irN,nrA,nrM,nrE,reduceIte,reduceCtorEq,nrL];with_reducible exact rfl);all_goals (intro hc;(first | exact hcX hc | try simp only [hcs] at hc);try ((with_reducible apply woI);simp only [↓pb,↓pd,qds,tb47,h1,hc,hEg,irN,nrA,nrM,nrE,reduceIte,reduceCtorEq,nrL]))) | (with_reducible first | refine W_seq ?_ | refine W_ret ?_) | fail)
  refine ⟨by first | exact .inl rfl | exact .inr rfl, ?_⟩
  rw [ret1 Try.results47]
  simp only [↓pb,qbs,tb47,rv_tmp,rv_cell,hEg,irN,nrA,nrM,nrE,reduceIte,reduceCtorEq,nrL]
  repeat ((with_reducible apply oV_intro);(simp (disch:=first | exact dA | fail) only [qcs,tb47,hEg,irN,nrA,nrM,nrE,reduceIte,reduceCtorEq,nrL];exact rfl))
  refine ⟨by simp [h1], ?_⟩
  exact frA
 ·refine Cl.ofW Try.func47 rfl (by kernel_rfl) (by rw [Try.ntmps47];exact Nat.le_of_ble_eq_true rfl) (by kernel_rfl) ?_
  have hEg : True:=trivial
  refine gcW [0,1] ?_
  intro eg hEn
  simp only [forallC,forallL,and_true] at hEn
  try simp only [↓pb,qbs,tb47,hEg,irN,nrA,nrM,nrE,reduceIte,reduceCtorEq,nrL] at hEn
  replace hEg:=hEn;clear hEn
  repeat' (first | ((with_reducible refine hK _ _ fun e2 hEn => ?_);clear hK K;simp only [lv47,forallC,forallL,and_true] at hEn;(try simp only [↓pb,qbs,tb47,h1,hEg,irN,nrA,nrM,nrE,reduceIte,reduceCtorEq,nrL] at hEn);clear hEg;(try clear eg);have hEg:=hEn;clear hEn;rename Env => eg) | ((first | ((with_reducible first | apply oV_intro | apply oH_intro | apply oB_intro);(simp (disch:=first | exact dA | fail) only [qcs,tb47,h1,hEg,irN,nrA,nrM,nrE,reduceIte,reduceCtorEq,nrL];with_reducible exact rfl)) | (with_reducible first | refine W_regionF lv47 fun K hK => ?_));try simp only [↓pb,↓pd,qds,tb47,h1,hEg,irN,nrA,nrM,nrE,reduceIte,reduceCtorEq,nrL]) | (((with_reducible first | apply WO_gT | apply WO_gF);exact rfl);(simp only [↓pb,qbs,tb47,h1,hEg,irN,nrA,nrM,nrE,reduceIte,reduceCtorEq,nrL];with_reducible exact rfl);all_goals (intro hc;(first | exact hcX hc | try simp only [hcs] at hc);try ((with_reducible apply woI);simp only [↓pb,↓pd,qds,tb47,h1,hc,hEg,irN,nrA,nrM,nrE,reduceIte,reduceCtorEq,nrL]))) | (with_reducible first | refine W_seq ?_ | refine W_ret ?_) | fail)
  refine ⟨by first | exact .inl rfl | exact .inr rfl, ?_⟩
  rw [ret1 Try.results47]
  simp only [↓pb,qbs,tb47,rv_tmp,rv_cell,hEg,irN,nrA,nrM,nrE,reduceIte,reduceCtorEq,nrL]
  repeat ((with_reducible apply oV_intro);(simp (disch:=first | exact dA | fail) only [qcs,tb47,hEg,irN,nrA,nrM,nrE,reduceIte,reduceCtorEq,nrL];exact rfl))
  refine ⟨by simp [h1], ?_⟩
  exact frA
def inH (H : AHeap) (b : Nat) (x lo hi : Int) : AHeap:=fh ((fh (H.upd (H.n + 1) H.n (.cells [iv lo,iv hi] 28 .ex)) b (btwS (btwS x lo hi) lo hi)).upd (H.n + 2) (H.n + 1) (.cells (ints (inL x lo hi)) 3 .ex)) b (inS x lo hi)
theorem f82 (b : Nat) (x lo hi : Int) (H : AHeap) (hb : b < H.n) (hg : H.get b = .cells [uv x] 85 .ex) : ∃ v H',C5 (.fn 82) #[vptr b 0,.agg ⟨[iv lo,iv hi]⟩] H v H' ∧ v = iv (inV x lo hi) ∧ H' = inH H b x lo hi:=by
 refine Cl.ofW Try.func82 rfl (by kernel_rfl) (by rw [Try.ntmps82];exact Nat.le_of_ble_eq_true rfl) (by kernel_rfl) ?_
 have hEg : True:=trivial
 refine gcW [0,1] ?_
 intro eg hEn
 simp only [forallC,forallL,and_true] at hEn
 try simp only [↓pb,qbs,tb82,hg,hEg,irN,nrA,nrM,nrE,reduceIte,reduceCtorEq,nrL] at hEn
 replace hEg:=hEn;clear hEn
 repeat' (first | ((with_reducible refine hK _ _ fun e2 hEn => ?_);clear hK K;simp only [lv82,forallC,forallL,and_true] at hEn;(try simp only [↓pb,qbs,tb82,hg,hEg,irN,nrA,nrM,nrE,reduceIte,reduceCtorEq,nrL] at hEn);clear hEg;(try clear eg);have hEg:=hEn;clear hEn;rename Env => eg) | ((first | ((with_reducible first | apply oV_intro | apply oH_intro | apply oB_intro);(simp (disch:=first | exact dA | fail) only [qcs,tb82,hg,hEg,irN,nrA,nrM,nrE,reduceIte,reduceCtorEq,nrL];with_reducible exact rfl)) | ((with_reducible first | apply oblA_and | apply oblR_and | apply oblO_and);(focus exact obA)) | ((with_reducible apply WO_callE);(simp only [↓pb,qbs,tb82,hg,hEg,irN,nrA,nrM,nrE,reduceIte,reduceCtorEq,nrL];(first | exact f31 _ _ _ _ _ (by simp (disch:=first | exact dA | fail) only [qcs,tb82,hg,hEg,irN,nrA,nrM,nrE,reduceIte,reduceCtorEq,nrL];rfl) | exact f18 _ _ _ [_,_,_,_] _ (by simp (disch:=first | exact dA | fail) only [qcs,tb82,hg,hEg,irN,nrA,nrM,nrE,reduceIte,reduceCtorEq,nrL];rfl) (SR.new rfl) (.inl (by simp only [vblk];omega)) (by simp)))) | (with_reducible first | refine W_regionF lv82 fun K hK => ?_ | refine W_drawnF lv82 fun K hK => ?_));try simp only [↓pb,↓pd,qds,tb82,hg,hEg,irN,nrA,nrM,nrE,reduceIte,reduceCtorEq,nrL]) | (with_reducible first | refine W_seq ?_ | refine W_ret ?_) | fail)
 refine ⟨by first | exact .inl rfl | exact .inr rfl, ?_⟩
 rw [ret1 Try.results82]
 simp only [↓pb,qbs,tb82,hg,rv_tmp,rv_cell,hEg,irN,nrA,nrM,nrE,reduceIte,reduceCtorEq,nrL]
 repeat ((with_reducible apply oV_intro);(simp (disch:=first | exact dA | fail) only [qcs,tb82,hg,hEg,irN,nrA,nrM,nrE,reduceIte,reduceCtorEq,nrL];exact rfl))
 exact ⟨rfl,rfl⟩
def tiH3 (H : AHeap) (b : Nat) (x lo hi : Int) : AHeap:=inH ((H.upd (H.n + 1) H.n (.cells [iv lo,iv hi] 28 .ex)).upd (H.n + 2) (H.n + 1) (.cells [iv 0,iv 0] 28 .ex)) b x lo hi
def tiH (H : AHeap) (b : Nat) (x lo hi : Int) : AHeap :=
 (fh ((fh ((tiH3 H b x lo hi).upd (H.n + 5) (H.n + 4) (.cells (ints [lo,inV x lo hi]) 3 .ex)) b (tiY x lo hi)).upd (H.n + 6) (H.n + 5) (.cells (ints (tiL x lo hi)) 3 .ex)) b (tiS x lo hi)).upd (H.n + 6) (H.n + 1) (.cells [iv (tiA x lo hi),iv (tiB x lo hi)] 28 .ex)
theorem f45 (b : Nat) (x lo hi : Int) (H : AHeap) (hb : b < H.n) (hg : H.get b = .cells [uv x] 85 .ex) : ∃ v H',C5 (.fn 45) #[vptr b 0,.agg ⟨[iv lo,iv hi]⟩] H v H' ∧ v = .agg ⟨[iv (tiA x lo hi),iv (tiB x lo hi)]⟩ ∧ H' = tiH H b x lo hi:=by
 refine Cl.ofW Try.func45 rfl (by kernel_rfl) (by rw [Try.ntmps45];exact Nat.le_of_ble_eq_true rfl) (by kernel_rfl) ?_
 have hEg : True:=trivial
 refine gcW [0,1] ?_
 intro eg hEn
 simp only [forallC,forallL,and_true] at hEn
 try simp only [↓pb,qbs,tb45,hg,inH,hEg,irN,nrA,nrM,nrE,reduceIte,reduceCtorEq,nrL] at hEn
 replace hEg:=hEn;clear hEn
 repeat' (first | ((with_reducible refine hK _ _ fun e2 hEn => ?_);clear hK K;simp only [lv45,forallC,forallL,and_true] at hEn;(try simp only [↓pb,qbs,tb45,hg,inH,hEg,irN,nrA,nrM,nrE,reduceIte,reduceCtorEq,nrL] at hEn);clear hEg;(try clear eg);have hEg:=hEn;clear hEn;rename Env => eg) | ((first | ((with_reducible first | apply oV_intro | apply oH_intro | apply oB_intro);(simp (disch:=first | exact dA | fail) only [qcs,tb45,hg,inH,hEg,irN,nrA,nrM,nrE,reduceIte,reduceCtorEq,nrL];with_reducible exact rfl)) | ((with_reducible first | apply oblA_and | apply oblR_and | apply oblO_and);(focus exact obA)) | ((with_reducible apply WO_callE);(simp only [↓pb,qbs,tb45,hg,inH,hEg,irN,nrA,nrM,nrE,reduceIte,reduceCtorEq,nrL];(first | exact f82 _ _ _ _ _ oA (by simp (disch:=first | exact dA | fail) only [qcs,tb45,hg,inH,hEg,irN,nrA,nrM,nrE,reduceIte,reduceCtorEq,nrL];rfl) | exact f31 _ _ _ _ _ (by simp (disch:=first | exact dA | fail) only [qcs,tb45,hg,inH,hEg,irN,nrA,nrM,nrE,reduceIte,reduceCtorEq,nrL];rfl) | exact f18 _ _ _ [_,_] _ (by simp (disch:=first | exact dA | fail) only [qcs,tb45,hg,inH,hEg,irN,nrA,nrM,nrE,reduceIte,reduceCtorEq,nrL];rfl) (SR.new rfl) (.inl (by simp only [vblk];omega)) (by simp)))) | (with_reducible first | refine W_regionF lv45 fun K hK => ?_ | refine W_drawnF lv45 fun K hK => ?_));try simp only [↓pb,↓pd,qds,tb45,hg,inH,hEg,irN,nrA,nrM,nrE,reduceIte,reduceCtorEq,nrL]) | (with_reducible first | refine W_seq ?_ | refine W_ret ?_) | fail)
 refine ⟨by first | exact .inl rfl | exact .inr rfl, ?_⟩
 rw [ret1 Try.results45]
 simp only [↓pb,qbs,tb45,hg,inH,rv_tmp,rv_cell,hEg,irN,nrA,nrM,nrE,reduceIte,reduceCtorEq,nrL]
 repeat ((with_reducible apply oV_intro);(simp (disch:=first | exact dA | fail) only [qcs,tb45,hg,inH,hEg,irN,nrA,nrM,nrE,reduceIte,reduceCtorEq,nrL];exact rfl))
 exact ⟨rfl,rfl⟩
set_option maxHeartbeats 4000000 in
theorem f8 (vl : Value) (l : List Int) (H : AHeap) (hT : Top H) (S : SR H 1 l.length vl (ints l)) (hl : l.length ≤ 9223372036854775807) (M : Made2) (hmade : groundOf (eitherS (feedOf l) [4,40]) 3 2 6 (either (feedOf l) [4,40]) 16 = M)
  (t5 : True5 M.g M.truth)
  (hw : ∀ H,Top H → OrC Try.prog 15 #[] H (.bool true) H) : ∃ v H',C5 (.fn 8) #[vl] H v H' ∧ v = .bool true ∧ Fr H.n [] H H':=by
 refine Cl.ofW Try.func8 rfl (by kernel_rfl) (by rw [Try.ntmps8];exact Nat.le_of_ble_eq_true rfl) (by kernel_rfl) ?_
 have hEg : True:=trivial
 refine gcW [0] ?_
 intro eg hEn
 simp only [forallC,forallL,and_true] at hEn
 try simp only [↓pb,qbs,tb8,hEg,irN,nrA,nrM,nrE,reduceIte,reduceCtorEq,nrL] at hEn
 replace hEg:=hEn;clear hEn
 repeat' (first | ((with_reducible refine hK _ _ fun e2 hEn => ?_);clear hK K;simp only [lv8,forallC,forallL,and_true] at hEn;(try simp only [↓pb,qbs,tb8,hEg,irN,nrA,nrM,nrE,reduceIte,reduceCtorEq,nrL] at hEn);clear hEg;(try clear eg);have hEg:=hEn;clear hEn;rename Env => eg) | ((first | ((with_reducible first | apply oV_intro | apply oH_intro | apply oB_intro);(simp (disch:=first | exact dA | fail) only [qcs,tb8,hEg,irN,nrA,nrM,nrE,reduceIte,reduceCtorEq,nrL];with_reducible exact rfl)) | ((with_reducible first | apply oblA_and | apply oblR_and | apply oblO_and);(focus exact obA)) | ((with_reducible apply WO_callE);(simp only [↓pb,qbs,tb8,hEg,irN,nrA,nrM,nrE,reduceIte,reduceCtorEq,nrL];(first | exact f16 _ l _ hT S hl | exact f18 _ _ _ [_,_] _ (by simp (disch:=first | exact dA | fail) only [qcs,tb8,hEg,irN,nrA,nrM,nrE,reduceIte,reduceCtorEq,nrL];rfl) (SR.new rfl) (.inl (by simp only [vblk];omega)) (by simp)))) | (with_reducible first | refine W_regionF lv8 fun K hK => ?_ | refine W_drawnF lv8 fun K hK => ?_));try simp only [↓pb,↓pd,qds,tb8,hEg,irN,nrA,nrM,nrE,reduceIte,reduceCtorEq,nrL]) | ((first | ((with_reducible first | apply WO_gT | apply WO_gF | apply WD_gT | apply WD_gF);exact rfl) | (with_reducible apply W_cond));(simp only [↓pb,qbs,tb8,hEg,irN,nrA,nrM,nrE,reduceIte,reduceCtorEq,nrL];with_reducible exact rfl);all_goals (intro hc;(first | exact hcX hc | try simp only [hcs] at hc);try ((with_reducible first | apply woI | apply wdI);simp only [↓pb,↓pd,qds,tb8,hc,hEg,irN,nrA,nrM,nrE,reduceIte,reduceCtorEq,nrL]))) | (with_reducible first | refine W_seq ?_ | refine W_block ?_ | refine W_skip ?_ | refine W_ret ?_ | refine W_exit ?_ | apply blockK_exit) | ((with_reducible apply blockK_pass);(focus decide)) | fail)
 have hm:=eith2 (feedOf l) 4 40
 refine WO_callX (X:=[H.n]) (by simp only [↓pb,qbs,tb8,hEg,irN,nrA,nrM,nrE,reduceIte,reduceCtorEq,nrL];exact f17 H.n (eitherS (feedOf l) [4,40]) 3 2 6 (either (feedOf l) [4,40]) 16 _ (by exact topA) (by simp (disch:=first | exact dA | fail) only [qcs,tb8,hEg,irN,nrA,nrM,nrE,reduceIte,reduceCtorEq,nrL]) (by simp only [↓pb,qbs,tb8,hEg,irN,nrA,nrM,nrE,reduceIte,reduceCtorEq,nrL];omega) (by omega) (by omega) (by omega) (by omega) (by omega)) ?_
 rintro v3 H3 ⟨va,vb,vc,vt,gg,gt,rfl,hG,GA,hgg,GTr,hx3,hsk⟩ hF3
 have hT3 : Top H3:=hF3.top (by exact topA)
 rw [hmade] at hG hx3 GA GTr hsk
 have hF03 : Fr H.n [] H H3:=by
  refine Fr.trans' (A:=H) ?_ hF3 (by simp only [↓pb,qbs,tb8,hEg,irN,nrA,nrM,nrE,reduceIte,reduceCtorEq,nrL];omega) (by intro b hb hlt;simp at hb;omega)
  exact frA
 have hn3:=hF3.n
 simp only [upd_n,jn_n] at hn3
 have hgo:=hG.one
 have ho4:=GTr.one
 have okp:=t5.ok.spots
 have okq:=t5.ok.sorts
 have oka:=t5.ok.acts
 simp only [↓pb,↓pd,qds,tb8,hx3,hgo,ho4,hEg,irN,nrA,nrM,nrE,reduceIte,reduceCtorEq,nrL]
 repeat' (first | ((with_reducible refine hK _ _ fun e2 hEn => ?_);clear hK K;simp only [lv8,forallC,forallL,and_true] at hEn;(try simp only [↓pb,qbs,tb8,hx3,hgo,ho4,hEg,irN,nrA,nrM,nrE,reduceIte,reduceCtorEq,nrL] at hEn);clear hEg;(try clear eg);have hEg:=hEn;clear hEn;rename Env => eg) | ((first | ((with_reducible first | apply oV_intro | apply oH_intro | apply oB_intro);(simp (disch:=first | exact dA | fail) only [qcs,tb8,hx3,hgo,ho4,hEg,irN,nrA,nrM,nrE,reduceIte,reduceCtorEq,nrL];with_reducible exact rfl)) | ((with_reducible first | apply oblA_and | apply oblR_and | apply oblO_and);(focus exact obA)) | ((with_reducible apply WO_callF);(focus exact topA);(simp only [↓pb,qbs,tb8,hx3,hgo,ho4,hEg,irN,nrA,nrM,nrE,reduceIte,reduceCtorEq,nrL];exact f19s _ _ _ _ _ (by exact topA) (hG.frR (b:=H.n) (N:=H3.n) (by exact frA) hx3) (by omega) (by omega) (by omega));(rintro vq Gq hq hJq ⟨xa,xb,xc,rfl,hX,hXk,hXs⟩;try simp only [upd_n,jn_n] at hq)) | (with_reducible first | refine W_regionF lv8 fun K hK => ?_ | refine W_drawnF lv8 fun K hK => ?_));try simp only [↓pb,↓pd,qds,tb8,hx3,hgo,ho4,hEg,irN,nrA,nrM,nrE,reduceIte,reduceCtorEq,nrL]) | ((first | ((with_reducible first | apply WO_gT | apply WO_gF | apply WD_gT | apply WD_gF);exact rfl) | (with_reducible apply W_cond));(simp only [↓pb,qbs,tb8,hx3,hgo,ho4,hEg,irN,nrA,nrM,nrE,reduceIte,reduceCtorEq,nrL];with_reducible exact rfl);all_goals (intro hc;(first | exact hcX hc | try simp only [hcs] at hc);try ((with_reducible first | apply woI | apply wdI);simp only [↓pb,↓pd,qds,tb8,hx3,hgo,ho4,hc,hEg,irN,nrA,nrM,nrE,reduceIte,reduceCtorEq,nrL]))) | (with_reducible first | refine W_seq ?_ | refine W_block ?_ | refine W_skip ?_ | refine W_ret ?_ | refine W_exit ?_ | apply blockK_exit) | ((with_reducible apply blockK_pass);(focus decide)) | fail)
 obtain ⟨GX,hGX⟩ : ∃ x,x = Gq:=⟨_,rfl⟩
 subst hGX
 obtain ⟨rr,hrr1,hrr⟩ : ∃ rr,H3.n + 1 ≤ rr ∧ (M.g.Acts.length = 0 ∨ (xc = .slice (some ⟨rr,0,none⟩) M.g.Acts.length M.g.Acts.length ∧ ((H3.upd (H3.n + 1) H3.n (AObj.cells [va,vb,vc] 26 Kd.ex)).jn GX).get rr = .cells (M.g.Acts.flatMap eAct) 30 (.gr rr 6 true) ∧ Sole ((H3.upd (H3.n + 1) H3.n (AObj.cells [va,vb,vc] 26 Kd.ex)).jn GX) rr ∧ rr < GX.n ∧
   (M.g.Spots.length = 0 ∨ vblk xa ≠ rr) ∧ (M.g.Sorts.length = 0 ∨ vblk xb ≠ rr))):=by
  rcases hXs with q | ⟨r,q1,q2,q3,q4,q5,q6,q7⟩
  ·exact ⟨H3.n + 1,Nat.le_refl _,.inl q⟩
  ·exact ⟨r,q4,.inr ⟨q1,q2,q3,q5,q6,q7⟩⟩
 clear hXs
 have lva:=hG.p.lt
 have lvb:=hG.q.lt
 have lvc:=hG.r.lt
 have lxa:=hX.p.lt
 have lxb:=hX.q.lt
 simp only [jn_n] at lxa lxb
 have hox:=hX.one
 have hxs:=hX.r.shape
 refine W_forget (N:=H.n) (X:=[]) (h0:=H) (fun h => CpF M.g H3.n GX.n rr va vb vc xa xb xc M.g.Acts h ∧ h.get H.n = .cells [uv M.x] 85 .ex ∧ Top h) (by exact frA) ⟨?_,by simp (disch:=first | exact dA | fail) only [qcs,tb8,hEg,irN,nrA,nrM,nrE,reduceIte,reduceCtorEq,nrL];exact hx3,(by exact topA)⟩ ?_
 ·have F1 : Fr H3.n [H.n] H3 (((H3.upd (H3.n + 1) H3.n (AObj.cells [va,vb,vc] 26 Kd.ex)).jn GX).upd (GX.n + 1) GX.n (AObj.cells [xa,xb,xc] 26 Kd.ex)):=by exact frA
  have F2 : Fr (GX.n) [] ((H3.upd (H3.n + 1) H3.n (AObj.cells [va,vb,vc] 26 Kd.ex)).jn GX) (((H3.upd (H3.n + 1) H3.n (AObj.cells [va,vb,vc] 26 Kd.ex)).jn GX).upd (GX.n + 1) GX.n (AObj.cells [xa,xb,xc] 26 Kd.ex)):=by exact frA
  refine ⟨by simp (disch:=first | exact dA | fail) only [qcs,tb8,hEg,irN,nrA,nrM,nrE,reduceIte,reduceCtorEq,nrL],by simp (disch:=first | exact dA | fail) only [qcs,tb8,hEg,irN,nrA,nrM,nrE,reduceIte,reduceCtorEq,nrL],hG.frR F1 hx3, ?_,hX.p.fr0 F2,hX.q.fr0 F2, ?_,⟨by simp only [↓pb,qbs,tb8,hEg,irN,nrA,nrM,nrE,reduceIte,reduceCtorEq,nrL];omega,by simp only [↓pb,qbs,tb8,hEg,irN,nrA,nrM,nrE,reduceIte,reduceCtorEq,nrL];omega, ?_⟩, ?_⟩
  ·rcases hsk with q | q
   ·exact .inl q
   ·rcases lva with q2 | q2
    ·exact .inl q2
    ·rcases hG.p.offR hx3 (by omega) with q3 | q3
     ·exact .inl q3
     ·exact .inr (q.fr F1 q2 q3)
  ·rcases hXk with q | q
   ·exact .inl q
   ·rcases lxa with q2 | q2
    ·exact .inl q2
    ·exact .inr (q.fr F2 q2 (by simp))
  ·rcases hrr with q | ⟨_,_,_,q,_⟩
   ·exact .inl q
   ·exact .inr (by simp only [↓pb,qbs,tb8,hEg,irN,nrA,nrM,nrE,reduceIte,reduceCtorEq,nrL];omega)
  ·rcases hrr with q | ⟨q0,q1,q2,q,_⟩
   ·exact .inl q
   ·right
    refine ⟨q0, ?_,q2.fr F2 q⟩
    rw [F2.old _ q (by simp)]
    exact q1
 rintro hb Fb ⟨kb,fb,Tb⟩
 obtain ⟨bb2,bb3,bb4⟩:=kb.bd
 refine W_count [3,4,6] (by kernel_rfl) 7 (M.g.Acts.length) (H.n) [rr,H.n] [] (fun i e h => ∃ (L : List Act) (x : Int),NrL M.g.Acts L i ∧ h.get H.n = .cells [uv x] 85 .ex ∧ CpF M.g H3.n GX.n rr va vb vc xa xb xc L h) (by simp only [↓pb,qbs,tb8,hEg,irN,nrA,nrM,nrE,reduceIte,reduceCtorEq,nrL]) (by focus exact topA) (H0:=H) (by focus exact frA) (by intro b hb hlt;simp at hb ⊢;try omega) ?_ ?_
 rotate_left
 intro i1 e1 h1 hi1 hE1 ei1 hF1 hF01 hTh1 hJ1
 simp only [forallC,forallL,and_true] at hE1
 try simp only [↓pb,qbs,tb8,hEg,irN,nrA,nrM,nrE,reduceIte,reduceCtorEq,nrL] at hE1
 have hn11:=hF1.n;have hn01:=hF01.n;try simp only [upd_n,jn_n] at hn11
 replace hEg:=And.intro ei1 hE1
 rotate_left
 ·exact ⟨M.g.Acts,M.x,NrL.start t5.ok,fb,kb⟩
 obtain ⟨L,x,EL,fx,kx⟩:=hJ1
 have lL : L.length = M.g.Acts.length:=EL.len
 have w6:=kx.g6
 have q6 : h1.rd GX.n = some [xa,xb,xc]:=by rw [rd_def,w6];rfl
 have hx1:=kx.done lL hxs
 have S6 : SR h1 6 M.g.Acts.length xc (L.flatMap eAct):=by
  have:=hx1.r
  rw [← lL]
  exact this
 have lS6:=S6.lt
 by_cases hi2 : i1 < M.g.Acts.length
 ·obtain ⟨hxc,g1,g2,g3,g4,g5⟩:=hrr.resolve_left (by omega)
  have xr:=kx.xr.resolve_left (by omega)
  have hvc : vblk vc ≠ rr:=by
   have:=lvc.resolve_left (show ¬ M.g.Acts.length = 0 by omega)
   omega
  have hvx : vblk xc = rr:=by rw [hxc];rfl
  have hox3 : voff xc = 0:=by rw [hxc];rfl
  have w4:=kx.g4
  have r4 : h1.rd H3.n = some [va,vb,vc]:=by rw [rd_def,w4];rfl
  have hg3:=kx.hG.r
  have lg3:=hg3.lt
  repeat' (first | ((with_reducible refine hK _ _ fun e2 hEn => ?_);clear hK K;simp only [lv8,forallC,forallL,and_true] at hEn;(try simp only [↓pb,qbs,tb8,fx,w6,q6,w4,r4,lns24 hX.r,ias24 S6,kx.xp.mapB,hvx,hox3,ias24 hg3,hg3.rd,(hg3.el eAct_len rfl),eAct,tiH,tiH3,inH,hEg,irN,nrA,nrM,nrE,reduceIte,reduceCtorEq,nrL] at hEn);clear hEg;(try clear eg);have hEg:=hEn;clear hEn;rename Env => eg) | ((first | ((with_reducible first | apply oV_intro | apply oH_intro | apply oB_intro);(simp (disch:=first | exact dA | fail) only [qcs,tb8,fx,w6,q6,w4,r4,lns24 hX.r,ias24 S6,kx.xp.mapB,hvx,hox3,ias24 hg3,hg3.rd,(hg3.el eAct_len rfl),eAct,tiH,tiH3,inH,hEg,irN,nrA,nrM,nrE,reduceIte,reduceCtorEq,nrL];with_reducible exact rfl)) | ((with_reducible first | apply oblA_and | apply oblR_and | apply oblO_and);(focus exact obA)) | ((with_reducible apply WO_callE);(simp only [↓pb,qbs,tb8,fx,w6,q6,w4,r4,lns24 hX.r,ias24 S6,kx.xp.mapB,hvx,hox3,ias24 hg3,hg3.rd,(hg3.el eAct_len rfl),eAct,tiH,tiH3,inH,hEg,irN,nrA,nrM,nrE,reduceIte,reduceCtorEq,nrL];(exact f45 _ _ _ _ _ oA (by simp (disch:=first | exact dA | fail) only [qcs,tb8,fx,w6,q6,w4,r4,lns24 hX.r,ias24 S6,kx.xp.mapB,hvx,hox3,ias24 hg3,hg3.rd,(hg3.el eAct_len rfl),eAct,tiH,tiH3,inH,hEg,irN,nrA,nrM,nrE,reduceIte,reduceCtorEq,nrL];rfl)))) | (with_reducible first | refine W_regionF lv8 fun K hK => ?_ | refine W_drawnF lv8 fun K hK => ?_));try simp only [↓pb,↓pd,qds,tb8,fx,w6,q6,w4,r4,lns24 hX.r,ias24 S6,kx.xp.mapB,hvx,hox3,ias24 hg3,hg3.rd,(hg3.el eAct_len rfl),eAct,tiH,tiH3,inH,hEg,irN,nrA,nrM,nrE,reduceIte,reduceCtorEq,nrL]) | ((first | ((with_reducible first | apply WO_gT | apply WO_gF | apply WD_gT | apply WD_gF);exact rfl) | (with_reducible apply W_cond));(simp only [↓pb,qbs,tb8,fx,w6,q6,w4,r4,lns24 hX.r,ias24 S6,kx.xp.mapB,hvx,hox3,ias24 hg3,hg3.rd,(hg3.el eAct_len rfl),eAct,tiH,tiH3,inH,hEg,irN,nrA,nrM,nrE,reduceIte,reduceCtorEq,nrL];with_reducible exact rfl);all_goals (intro hc;(first | exact hcX hc | try simp only [hcs] at hc);try ((with_reducible first | apply woI | apply wdI);simp only [↓pb,↓pd,qds,tb8,fx,w6,q6,w4,r4,lns24 hX.r,ias24 S6,kx.xp.mapB,hvx,hox3,ias24 hg3,hg3.rd,(hg3.el eAct_len rfl),eAct,tiH,tiH3,inH,hc,hEg,irN,nrA,nrM,nrE,reduceIte,reduceCtorEq,nrL]))) | (with_reducible first | refine W_seq ?_ | refine W_block ?_ | refine W_skip ?_ | refine W_ret ?_ | refine W_exit ?_ | apply blockK_exit) | ((with_reducible apply blockK_pass);(focus decide)) | fail)
  have hma:=t5.ok.mass hi2
  have ti:=ti_in x (show 0 ≤ (M.g.Acts.getD i1 default).Min by omega) hma.2.1 hma.2.2
  generalize hlo : (M.g.Acts.getD i1 default).Min = lo at ti ⊢
  generalize hhi : (M.g.Acts.getD i1 default).Max = hi at ti ⊢
  obtain ⟨z1,hz1⟩ : ∃ z,z = tiA x lo hi:=⟨_,rfl⟩
  obtain ⟨z2,hz2⟩ : ∃ z,z = tiB x lo hi:=⟨_,rfl⟩
  rw [← hz1,← hz2] at ti ⊢
  have ln : (L.flatMap eAct).length = M.g.Acts.length * 6:=by rw [flat_len eAct_len,lL]
  refine oH_intro (by simp (disch:=first | exact dA | fail) only [qcs,tb8,hEg,irN,nrA,nrM,nrE,reduceIte,reduceCtorEq,nrL];rw [xr.2.1];exact stG_sole (Sole.fr (N:=h1.n) (X:=[H.n]) (A:=h1) (by exact frA) xr.2.2 (by omega)) rfl rfl (by rw [ln];omega)) ?_
  rw [show (Value.agg ⟨[iv z1,iv z2]⟩).cells.toList = [iv z1,iv z2] from rfl,splice_mass L i1 z1 z2 (by omega)]
  repeat' (first | ((with_reducible refine hK _ _ fun e2 hEn => ?_);clear hK K;simp only [lv8,forallC,forallL,and_true] at hEn;(try simp only [↓pb,qbs,tb8,fx,w6,q6,kx.xp.mapB,hvx,hox3,hEg,irN,nrA,nrM,nrE,reduceIte,reduceCtorEq,nrL] at hEn);clear hEg;(try clear eg);have hEg:=hEn;clear hEn;rename Env => eg) | ((first | ((with_reducible first | apply oV_intro | apply oH_intro | apply oB_intro);(simp (disch:=first | exact dA | fail) only [qcs,tb8,fx,w6,q6,kx.xp.mapB,hvx,hox3,hEg,irN,nrA,nrM,nrE,reduceIte,reduceCtorEq,nrL];with_reducible exact rfl)) | ((with_reducible first | apply oblA_and | apply oblR_and | apply oblO_and);(focus exact obA)) | (with_reducible first | refine W_regionF lv8 fun K hK => ?_ | refine W_drawnF lv8 fun K hK => ?_));try simp only [↓pb,↓pd,qds,tb8,fx,w6,q6,kx.xp.mapB,hvx,hox3,hEg,irN,nrA,nrM,nrE,reduceIte,reduceCtorEq,nrL]) | ((first | ((with_reducible first | apply WO_gT | apply WO_gF | apply WD_gT | apply WD_gF);exact rfl) | (with_reducible apply W_cond));(simp only [↓pb,qbs,tb8,fx,w6,q6,kx.xp.mapB,hvx,hox3,hEg,irN,nrA,nrM,nrE,reduceIte,reduceCtorEq,nrL];with_reducible exact rfl);all_goals (intro hc;(first | exact hcX hc | try simp only [hcs] at hc);try ((with_reducible first | apply woI | apply wdI);simp only [↓pb,↓pd,qds,tb8,fx,w6,q6,kx.xp.mapB,hvx,hox3,hc,hEg,irN,nrA,nrM,nrE,reduceIte,reduceCtorEq,nrL]))) | (with_reducible first | refine W_seq ?_ | refine W_block ?_ | refine W_skip ?_ | refine W_ret ?_ | refine W_exit ?_ | apply blockK_exit) | ((with_reducible apply blockK_pass);(focus decide)) | fail)
  refine ⟨by omega,by simp only [↓pb,qbs,tb8,hEg,irN,nrA,nrM,nrE,reduceIte,reduceCtorEq,nrL];exact congrArg _ (inc64 (by omega)),by focus exact frA, ?_⟩
  have nv : ∀ {n : Nat} {v : Value},(n = 0 ∨ vblk v < H3.n) → n = 0 ∨ vblk v ≠ rr:=fun q => by
   rcases q with q | q
   ·exact .inl q
   ·exact .inr (by omega)
  refine ⟨L.set i1 (massA (L.getD i1 default) z1 z2),tiS x lo hi,EL.step t5.ok hi2 (by rw [hlo,hhi];exact ti),by simp (disch:=first | exact dA | fail) only [qcs,tb8,hEg,irN,nrA,nrM,nrE,reduceIte,reduceCtorEq,nrL], ?_⟩
  refine CpF.store (al':=L.set i1 (massA (L.getD i1 default) z1 z2)) (CpF.feed (n0:=H.n) (u:=uv x) (T:=85) kx (h':=(fh
      ((fh
         ((fh
            ((fh
               (((h1.upd (h1.n + 1) h1.n (AObj.cells [iv lo,iv hi] 28 Kd.ex)).upd
                  (h1.n + 2) (h1.n + 1) (AObj.cells [iv 0,iv 0] 28 Kd.ex)).upd
                 (h1.n + 3) (h1.n + 2) (AObj.cells [iv lo,iv hi] 28 Kd.ex))
               H.n
               (btwS (btwS x lo hi) lo hi)).upd
              (h1.n + 4) (h1.n + 3) (AObj.cells (ints (inL x lo hi)) 3 Kd.ex))
            H.n (inS x lo hi)).upd
           (h1.n + 5) (h1.n + 4) (AObj.cells (ints [lo,inV x lo hi]) 3 Kd.ex))
         H.n (tiY x lo hi)).upd
        (h1.n + 6) (h1.n + 5) (AObj.cells (ints (tiL x lo hi)) 3 Kd.ex))
      H.n (tiS x lo hi)).upd
    (h1.n + 6) (h1.n + 1) (AObj.cells [iv z1,iv z2] 28 Kd.ex)) ?_ fx (by omega) (by omega) (by omega) ?_) (by omega) (by omega) (by omega) (nv lva) (nv lvb) hvc g4 g5
  ·exact frA
  ·exact fun so => Sole.fr (N:=h1.n) (X:=[H.n]) (A:=h1) (by exact frA) so (by omega)
 have e1n : i1 = M.g.Acts.length:=by omega
 have hF1':=Fr.trans' Fb hF1 (Nat.le_refl _) (by intro b hb hlt;simp at hb;omega)
 have NG:=EL.g
 have ckk:=NG.check t5.ck
 have ksp : (⟨M.g.Spots,M.g.Sorts,L⟩ : Gnd).Spots.length = M.g.Spots.length:=rfl
 have kso : (⟨M.g.Spots,M.g.Sorts,L⟩ : Gnd).Sorts.length = M.g.Sorts.length:=rfl
 have hnl : ¬ ((i1 : Nat) : Int) < (M.g.Acts.length : Int):=by omega
 have hq24:=hX.r
 have hmp:=hX.p.mapB
 repeat' (first | ((with_reducible refine hK _ _ fun e2 hEn => ?_);clear hK K;simp only [lv8,forallC,forallL,and_true] at hEn;(try simp only [↓pb,qbs,tb8,fx,w6,q6,lns24 hq24,hnl,hEg,irN,nrA,nrM,nrE,reduceIte,reduceCtorEq,nrL] at hEn);clear hEg;(try clear eg);have hEg:=hEn;clear hEn;rename Env => eg) | ((first | ((with_reducible first | apply oV_intro | apply oH_intro | apply oB_intro);(simp (disch:=first | exact dA | fail) only [qcs,tb8,fx,w6,q6,lns24 hq24,hnl,hEg,irN,nrA,nrM,nrE,reduceIte,reduceCtorEq,nrL];with_reducible exact rfl)) | ((with_reducible first | apply oblA_and | apply oblR_and | apply oblO_and);(focus exact obA)) | ((with_reducible apply WO_callE);(simp only [↓pb,qbs,tb8,fx,w6,q6,lns24 hq24,hnl,hEg,irN,nrA,nrM,nrE,reduceIte,reduceCtorEq,nrL];(exact f20 _ _ _ _ (by simp (disch:=first | exact dA | fail) only [qcs,tb8,fx,w6,q6,lns24 hq24,hnl,hEg,irN,nrA,nrM,nrE,reduceIte,reduceCtorEq,nrL];rfl) (by omega)))) | (with_reducible first | refine W_regionE lv8 [9] fun K hK => ?_ | refine W_drawnE lv8 [9] fun K hK => ?_));try simp only [↓pb,↓pd,qds,tb8,fx,w6,q6,lns24 hq24,hnl,hEg,irN,nrA,nrM,nrE,reduceIte,reduceCtorEq,nrL]) | ((first | ((with_reducible first | apply WO_gT | apply WO_gF | apply WD_gT | apply WD_gF);exact rfl) | (with_reducible apply W_cond));(simp only [↓pb,qbs,tb8,fx,w6,q6,lns24 hq24,hnl,hEg,irN,nrA,nrM,nrE,reduceIte,reduceCtorEq,nrL];with_reducible exact rfl);all_goals (intro hc;(first | exact hcX hc | try simp only [hcs] at hc);try ((with_reducible first | apply woI | apply wdI);simp only [↓pb,↓pd,qds,tb8,fx,w6,q6,lns24 hq24,hnl,hc,hEg,irN,nrA,nrM,nrE,reduceIte,reduceCtorEq,nrL]))) | (with_reducible first | refine W_seq ?_ | refine W_block ?_ | refine W_skip ?_ | refine W_ret ?_ | refine W_exit ?_ | apply blockK_exit) | ((with_reducible apply blockK_pass);(focus decide)) | fail)
 refine W_forget (N:=H.n) (X:=[]) (h0:=H) (fun h => CpF M.g H3.n GX.n rr va vb vc xa xb xc L h ∧ Top h) (by exact frA) ⟨?_,(by exact topA)⟩ ?_
 ·exact CpF.feed (n0:=H.n) (u:=uv x) (T:=85) kx ((Fr.refl _).upd (Nat.le_refl _) (by omega) (.inr (by simp)) trivial) fx (by omega) (by omega) (by omega) (fun so => so.upd fun _ _ _ _ e => by cases e)
 rintro h2 F2 ⟨k2,T2⟩
 have hx2:=k2.done lL hxs
 have hkk:=k2.hk
 have hkx : (⟨M.g.Spots,M.g.Sorts,L⟩ : Gnd).Spots.length = 0 ∨ SK h2 3 xa:=k2.xk
 have hGg:=k2.hG
 have w4:=k2.g4
 have w62:=k2.g6
 have r4 : h2.rd H3.n = some [va,vb,vc]:=by rw [rd_def,w4];rfl
 have q62 : h2.rd GX.n = some [xa,xb,xc]:=by rw [rd_def,w62];rfl
 have hbd:=k2.bd
 clear k2 S6 lS6 hx1 kx
 generalize (⟨M.g.Spots,M.g.Sorts,L⟩ : Gnd) = k at hx2 NG ckk ksp kso hkx
 have skf : ∀ h,Fr h2.n [] h2 h → (RG h va vb vc M.g ∧ (M.g.Spots.length = 0 ∨ SK h 3 va)) ∧ (RG h xa xb xc k ∧ (k.Spots.length = 0 ∨ SK h 3 xa)):=fun h F => by
  refine ⟨⟨hGg.fr F, ?_⟩,hx2.fr F, ?_⟩
  ·rcases hkk with q | q
   ·exact .inl q
   ·rcases hGg.p.lt with q2 | q2
    ·exact .inl q2
    ·exact .inr (q.fr F q2 (by simp))
  ·rcases hkx with q | q
   ·exact .inl q
   ·rcases hx2.p.lt with q2 | q2
    ·exact .inl q2
    ·exact .inr (q.fr F q2 (by simp))
 have hb10:=below_in x 20 (by decide) (by decide)
 have hb11:=below_in (belowS x 20) 10 (by decide) (by decide)
 obtain ⟨hour,hh⟩ : ∃ hour,hour = below x 20:=⟨_,rfl⟩
 obtain ⟨age,hag⟩ : ∃ age,age = below (belowS x 20) 10:=⟨_,rfl⟩
 rw [← hh,← hag] at hEg
 have hr : 0 ≤ hour ∧ hour < 20:=hh ▸ hb10
 have ha : 0 ≤ age ∧ age < 10:=hag ▸ hb11
 clear hh hag hb10 hb11
 obtain ⟨m0,hml⟩:=t5.masses0 (hour:=hour) hr.1 (by omega)
 by_cases hkn : (known k).2 = 0
 ·obtain ⟨G,K⟩:=NG.gds t5.ck hkn
  obtain ⟨b0,b1,lp,lq⟩:=NG.breaks G K
  have dp:=decide_eq_true lp
  have dq:=decide_eq_true lq
  obtain ⟨_,lg,_⟩:=G.masses hr.1 (show hour ≤ 72 by omega)
  obtain ⟨mk,lk,_⟩:=K.masses hr.1 (show hour ≤ 72 by omega)
  rw [ksp] at lk
  have onx : ∀ i,i < M.g.Spots.length → _:=fun i hi => NG.one G K hr.1 (show hour ≤ 72 by omega) ha.1 (show age ≤ 72 by omega) hi
  clear lp lq
  have nz : decide ((9 : Int) = 0) = false:=rfl
  repeat' (first | ((with_reducible refine hK _ _ fun e2 hEn => ?_);clear hK K;simp only [lv8,forallC,forallL,and_true] at hEn;(try simp only [↓pb,qbs,tb8,w62,q62,w4,r4,hgo,hox,m0,mk,hEg,irN,nrA,nrM,nrE,reduceIte,reduceCtorEq,nrL] at hEn);clear hEg;(try clear eg);have hEg:=hEn;clear hEn;rename Env => eg) | ((first | ((with_reducible first | apply oV_intro | apply oH_intro | apply oB_intro);(simp (disch:=first | exact dA | fail) only [qcs,tb8,w62,q62,w4,r4,hgo,hox,m0,mk,hEg,irN,nrA,nrM,nrE,reduceIte,reduceCtorEq,nrL];with_reducible exact rfl)) | ((with_reducible first | apply oblA_and | apply oblR_and | apply oblO_and);(focus exact obA)) | ((with_reducible apply WO_callF);(focus exact topA);(simp only [↓pb,qbs,tb8,w62,q62,w4,r4,hgo,hox,m0,mk,hEg,irN,nrA,nrM,nrE,reduceIte,reduceCtorEq,nrL];exact f21 _ _ _ M.g _ _ (by exact topA) (skf _ (by exact frA)).1.1 (by omega) (by omega));(rintro vq Gq hq hJq ⟨vr,rfl,Sr⟩;try simp only [upd_n,jn_n] at hq)) | ((with_reducible apply WO_callF);(focus exact topA);(simp only [↓pb,qbs,tb8,w62,q62,w4,r4,hgo,hox,m0,mk,hEg,irN,nrA,nrM,nrE,reduceIte,reduceCtorEq,nrL];exact f21 _ _ _ k _ _ (by exact topA) (skf _ (by exact frA)).2.1 (by omega) (by omega));(rintro vq Gq hq hJq ⟨vs,rfl,Ss⟩;try simp only [upd_n,jn_n] at hq)) | (with_reducible first | refine W_regionE lv8 [13] fun K hK => ?_ | refine W_drawnE lv8 [13] fun K hK => ?_));try simp only [↓pb,↓pd,qds,tb8,w62,q62,w4,r4,hgo,hox,m0,mk,hEg,irN,nrA,nrM,nrE,reduceIte,reduceCtorEq,nrL]) | ((first | ((with_reducible first | apply WO_gT | apply WO_gF | apply WD_gT | apply WD_gF);exact rfl) | (with_reducible apply W_cond));(simp only [↓pb,qbs,tb8,w62,q62,w4,r4,hgo,hox,m0,mk,hEg,irN,nrA,nrM,nrE,reduceIte,reduceCtorEq,nrL];with_reducible exact rfl);all_goals (intro hc;(first | exact hcX hc | try simp only [hcs] at hc);try ((with_reducible first | apply woI | apply wdI);simp only [↓pb,↓pd,qds,tb8,w62,q62,w4,r4,hgo,hox,m0,mk,hc,hEg,irN,nrA,nrM,nrE,reduceIte,reduceCtorEq,nrL]))) | (with_reducible first | refine W_seq ?_ | refine W_block ?_ | refine W_skip ?_ | refine W_ret ?_ | refine W_exit ?_ | apply blockK_exit) | ((with_reducible apply blockK_pass);(focus decide)) | fail)
  rw [lg] at Sr
  rw [lk] at Ss
  have odr:=Sr.one
  have ods:=Ss.one
  have hgp:=hGg.p
  repeat' (first | ((with_reducible refine hK _ _ fun e2 hEn => ?_);clear hK K;simp only [lv8,forallC,forallL,and_true] at hEn;(try simp only [↓pb,qbs,tb8,w62,q62,w4,r4,hgo,hox,odr,ods,m0,mk,b0,b1,dp,dq,lns42 Sr,lns42 Ss,lns22 hgp,ne_eq,not_true_eq_false,decide_false,decide_true,Bool.false_eq_true,hEg,irN,nrA,nrM,nrE,reduceIte,reduceCtorEq,nrL] at hEn);clear hEg;(try clear eg);have hEg:=hEn;clear hEn;rename Env => eg) | ((first | ((with_reducible first | apply oV_intro | apply oH_intro | apply oB_intro);(simp (disch:=first | exact dA | fail) only [qcs,tb8,w62,q62,w4,r4,hgo,hox,odr,ods,m0,mk,b0,b1,dp,dq,lns42 Sr,lns42 Ss,lns22 hgp,ne_eq,not_true_eq_false,decide_false,decide_true,Bool.false_eq_true,hEg,irN,nrA,nrM,nrE,reduceIte,reduceCtorEq,nrL];with_reducible exact rfl)) | ((with_reducible first | apply oblA_and | apply oblR_and | apply oblO_and);(focus exact obA)) | ((with_reducible apply WO_callE);(simp only [↓pb,qbs,tb8,w62,q62,w4,r4,hgo,hox,odr,ods,m0,mk,b0,b1,dp,dq,lns42 Sr,lns42 Ss,lns22 hgp,ne_eq,not_true_eq_false,decide_false,decide_true,Bool.false_eq_true,hEg,irN,nrA,nrM,nrE,reduceIte,reduceCtorEq,nrL];(exact f46 _ _ _ (by exact topA)))) | ((with_reducible apply WO_callV);(focus exact topA);(simp only [↓pb,qbs,tb8,w62,q62,w4,r4,hgo,hox,odr,ods,m0,mk,b0,b1,dp,dq,lns42 Sr,lns42 Ss,lns22 hgp,ne_eq,not_true_eq_false,decide_false,decide_true,Bool.false_eq_true,hEg,irN,nrA,nrM,nrE,reduceIte,reduceCtorEq,nrL];(first | exact f29 _ _ _ M.g _ (by exact topA) (skf _ (by exact frA)).1.1 (skf _ (by exact frA)).1.2 (by omega) (by omega) | exact f29 _ _ _ k _ (by exact topA) (skf _ (by exact frA)).2.1 (skf _ (by exact frA)).2.2 (by omega) (by omega)));(intro Gq hq hJq;try simp only [upd_n,jn_n] at hq)) | (with_reducible first | refine W_regionF lv8 fun K hK => ?_ | refine W_drawnF lv8 fun K hK => ?_));try simp only [↓pb,↓pd,qds,tb8,w62,q62,w4,r4,hgo,hox,odr,ods,m0,mk,b0,b1,dp,dq,lns42 Sr,lns42 Ss,lns22 hgp,ne_eq,not_true_eq_false,decide_false,decide_true,Bool.false_eq_true,hEg,irN,nrA,nrM,nrE,reduceIte,reduceCtorEq,nrL]) | ((first | ((with_reducible first | apply WO_gT | apply WO_gF | apply WD_gT | apply WD_gF);exact rfl) | (with_reducible apply W_cond));(simp only [↓pb,qbs,tb8,w62,q62,w4,r4,hgo,hox,odr,ods,m0,mk,b0,b1,dp,dq,lns42 Sr,lns42 Ss,lns22 hgp,ne_eq,not_true_eq_false,decide_false,decide_true,Bool.false_eq_true,hEg,irN,nrA,nrM,nrE,reduceIte,reduceCtorEq,nrL];with_reducible exact rfl);all_goals (intro hc;(first | exact hcX hc | try simp only [hcs] at hc);try ((with_reducible first | apply woI | apply wdI);simp only [↓pb,↓pd,qds,tb8,w62,q62,w4,r4,hgo,hox,odr,ods,m0,mk,b0,b1,dp,dq,lns42 Sr,lns42 Ss,lns22 hgp,ne_eq,not_true_eq_false,decide_false,decide_true,Bool.false_eq_true,hc,hEg,irN,nrA,nrM,nrE,reduceIte,reduceCtorEq,nrL]))) | (with_reducible first | refine W_seq ?_ | refine W_block ?_ | refine W_skip ?_ | refine W_ret ?_ | refine W_exit ?_ | apply blockK_exit) | ((with_reducible apply blockK_pass);(focus decide)) | fail)
  refine W_forget (N:=H.n) (X:=[]) (h0:=H) (fun h => RG h va vb vc M.g ∧ RG h xa xb xc k ∧ h.get H3.n = .cells [va,vb,vc] 26 .ex ∧ h.get GX.n = .cells [xa,xb,xc] 26 .ex ∧ H3.n < h.n ∧ GX.n < h.n ∧ SR h 2 M.g.Spots.length vr ((masses M.g hour).1.flatMap eRng) ∧ SR h 2 M.g.Spots.length vs ((masses k hour).1.flatMap eRng) ∧ Top h) (by exact frA) ⟨(skf _ (by exact frA)).1.1,(skf _ (by exact frA)).2.1,(by simp (disch:=first | exact dA | fail) only [qcs,tb8,hEg,irN,nrA,nrM,nrE,reduceIte,reduceCtorEq,nrL];exact w4),(by simp (disch:=first | exact dA | fail) only [qcs,tb8,hEg,irN,nrA,nrM,nrE,reduceIte,reduceCtorEq,nrL];exact w62),(by simp only [↓pb,qbs,tb8,hEg,irN,nrA,nrM,nrE,reduceIte,reduceCtorEq,nrL];omega),(by simp only [↓pb,qbs,tb8,hEg,irN,nrA,nrM,nrE,reduceIte,reduceCtorEq,nrL];omega),Sr.fr0 (N:=0) (by exact frA),Ss.fr0 (N:=0) (by exact frA),(by exact topA)⟩ ?_
  clear skf hGg hx2 hkk hkx Sr Ss
  rintro h5 F5 ⟨hG5,hK5,w45,w65,b45,b65,Sr5,Ss5,T5⟩
  refine W_count [4,6,8,9,10,12] (by kernel_rfl) 20 (M.g.Spots.length) (H.n) [] [] (fun i e h => True) (by simp only [↓pb,qbs,tb8,hEg,irN,nrA,nrM,nrE,reduceIte,reduceCtorEq,nrL]) (by focus exact topA) (H0:=H) (by focus exact frA) (by intro b hb hlt;simp at hb ⊢;try omega) ?_ ?_
  rotate_left
  intro i7 e7 h7 hi7 hE7 ei7 hF7 hF07 hTh7 hJ7
  simp only [forallC,forallL,and_true] at hE7
  try simp only [↓pb,qbs,tb8,hEg,irN,nrA,nrM,nrE,reduceIte,reduceCtorEq,nrL] at hE7
  have hn17:=hF7.n;have hn07:=hF07.n;try simp only [upd_n,jn_n] at hn17
  replace hEg:=And.intro ei7 hE7
  rotate_left
  ·trivial
  have G7:=hG5.fr hF7
  have K7:=hK5.fr hF7
  have S7:=Sr5.fr0 hF7
  have U7:=Ss5.fr0 hF7
  have ra : h7.get H3.n = .cells [va,vb,vc] 26 .ex:=by rw [hF7.old _ b45 (by simp)];exact w45
  have rb : h7.get GX.n = .cells [xa,xb,xc] 26 .ex:=by rw [hF7.old _ b65 (by simp)];exact w65
  have ra' : h7.rd H3.n = some [va,vb,vc]:=by rw [rd_def,ra];rfl
  have rb' : h7.rd GX.n = some [xa,xb,xc]:=by rw [rd_def,rb];rfl
  have l7:=S7.lt
  have m7:=U7.lt
  by_cases hi7' : i7 < M.g.Spots.length
  ·obtain ⟨o1,o2,o3,o4,o5⟩:=onx i7 hi7'
   have dpt:=decide_eq_true (And.intro o4 o5)
   by_cases hv : (older M.g i7 hour age).1 = 3
   ·repeat' (first | ((with_reducible refine hK _ _ fun e2 hEn => ?_);clear hK K;simp only [lv8,forallC,forallL,and_true] at hEn;(try simp only [↓pb,qbs,tb8,ra,rb,ra',rb',hgo,hox,odr,ods,o1,o2,hv,dpt,lns42 S7,lns42 U7,ias42 S7,ias42 U7,S7.rd,U7.rd,(S7.el eRng_len lg.symm),(U7.el eRng_len lk.symm),eRng,ne_eq,not_true_eq_false,decide_false,decide_true,Bool.false_eq_true,hEg,irN,nrA,nrM,nrE,reduceIte,reduceCtorEq,nrL] at hEn);clear hEg;(try clear eg);have hEg:=hEn;clear hEn;rename Env => eg) | ((first | ((with_reducible first | apply oV_intro | apply oH_intro | apply oB_intro);(simp (disch:=first | exact dA | fail) only [qcs,tb8,ra,rb,ra',rb',hgo,hox,odr,ods,o1,o2,hv,dpt,lns42 S7,lns42 U7,ias42 S7,ias42 U7,S7.rd,U7.rd,(S7.el eRng_len lg.symm),(U7.el eRng_len lk.symm),eRng,ne_eq,not_true_eq_false,decide_false,decide_true,Bool.false_eq_true,hEg,irN,nrA,nrM,nrE,reduceIte,reduceCtorEq,nrL];with_reducible exact rfl)) | ((with_reducible first | apply oblA_and | apply oblR_and | apply oblO_and);(focus exact obA)) | ((with_reducible apply WO_callV);(focus exact topA);(simp only [↓pb,qbs,tb8,ra,rb,ra',rb',hgo,hox,odr,ods,o1,o2,hv,dpt,lns42 S7,lns42 U7,ias42 S7,ias42 U7,S7.rd,U7.rd,(S7.el eRng_len lg.symm),(U7.el eRng_len lk.symm),eRng,ne_eq,not_true_eq_false,decide_false,decide_true,Bool.false_eq_true,hEg,irN,nrA,nrM,nrE,reduceIte,reduceCtorEq,nrL];(first | exact f23 _ _ _ M.g _ _ _ _ (by exact topA) (G7.fr (N:=H.n) (by exact frA)) (by omega) (by omega) | exact f23 _ _ _ k _ _ _ _ (by exact topA) (K7.fr (N:=H.n) (by exact frA)) (by omega) (by omega) | exact f47 _ _ _ _ _ (by exact topA)));(intro Gq hq hJq;try simp only [upd_n,jn_n] at hq)) | (with_reducible first | refine W_regionF lv8 fun K hK => ?_ | refine W_drawnF lv8 fun K hK => ?_));try simp only [↓pb,↓pd,qds,tb8,ra,rb,ra',rb',hgo,hox,odr,ods,o1,o2,hv,dpt,lns42 S7,lns42 U7,ias42 S7,ias42 U7,S7.rd,U7.rd,(S7.el eRng_len lg.symm),(U7.el eRng_len lk.symm),eRng,ne_eq,not_true_eq_false,decide_false,decide_true,Bool.false_eq_true,hEg,irN,nrA,nrM,nrE,reduceIte,reduceCtorEq,nrL]) | ((first | ((with_reducible first | apply WO_gT | apply WO_gF | apply WD_gT | apply WD_gF);exact rfl) | (with_reducible apply W_cond));(simp only [↓pb,qbs,tb8,ra,rb,ra',rb',hgo,hox,odr,ods,o1,o2,hv,dpt,lns42 S7,lns42 U7,ias42 S7,ias42 U7,S7.rd,U7.rd,(S7.el eRng_len lg.symm),(U7.el eRng_len lk.symm),eRng,ne_eq,not_true_eq_false,decide_false,decide_true,Bool.false_eq_true,hEg,irN,nrA,nrM,nrE,reduceIte,reduceCtorEq,nrL];with_reducible exact rfl);all_goals (intro hc;(first | exact hcX hc | try simp only [hcs] at hc);try ((with_reducible first | apply woI | apply wdI);simp only [↓pb,↓pd,qds,tb8,ra,rb,ra',rb',hgo,hox,odr,ods,o1,o2,hv,dpt,lns42 S7,lns42 U7,ias42 S7,ias42 U7,S7.rd,U7.rd,(S7.el eRng_len lg.symm),(U7.el eRng_len lk.symm),eRng,ne_eq,not_true_eq_false,decide_false,decide_true,Bool.false_eq_true,hc,hEg,irN,nrA,nrM,nrE,reduceIte,reduceCtorEq,nrL]))) | (with_reducible first | refine W_seq ?_ | refine W_block ?_ | refine W_skip ?_ | refine W_ret ?_ | refine W_exit ?_ | apply blockK_exit) | ((with_reducible apply blockK_pass);(focus decide)) | fail)
    refine ⟨by omega,by simp only [↓pb,qbs,tb8,hEg,irN,nrA,nrM,nrE,reduceIte,reduceCtorEq,nrL];exact congrArg _ (inc64 (by omega)),by focus exact frA, ?_⟩
    trivial
   ·have hv2:=o3 hv
    repeat' (first | ((with_reducible refine hK _ _ fun e2 hEn => ?_);clear hK K;simp only [lv8,forallC,forallL,and_true] at hEn;(try simp only [↓pb,qbs,tb8,ra,rb,ra',rb',hgo,hox,odr,ods,o1,o2,hv,hv2,dpt,lns42 S7,lns42 U7,ias42 S7,ias42 U7,S7.rd,U7.rd,(S7.el eRng_len lg.symm),(U7.el eRng_len lk.symm),eRng,ne_eq,not_true_eq_false,decide_false,decide_true,Bool.false_eq_true,hEg,irN,nrA,nrM,nrE,reduceIte,reduceCtorEq,nrL] at hEn);clear hEg;(try clear eg);have hEg:=hEn;clear hEn;rename Env => eg) | ((first | ((with_reducible first | apply oV_intro | apply oH_intro | apply oB_intro);(simp (disch:=first | exact dA | fail) only [qcs,tb8,ra,rb,ra',rb',hgo,hox,odr,ods,o1,o2,hv,hv2,dpt,lns42 S7,lns42 U7,ias42 S7,ias42 U7,S7.rd,U7.rd,(S7.el eRng_len lg.symm),(U7.el eRng_len lk.symm),eRng,ne_eq,not_true_eq_false,decide_false,decide_true,Bool.false_eq_true,hEg,irN,nrA,nrM,nrE,reduceIte,reduceCtorEq,nrL];with_reducible exact rfl)) | ((with_reducible first | apply oblA_and | apply oblR_and | apply oblO_and);(focus exact obA)) | ((with_reducible apply WO_callV);(focus exact topA);(simp only [↓pb,qbs,tb8,ra,rb,ra',rb',hgo,hox,odr,ods,o1,o2,hv,hv2,dpt,lns42 S7,lns42 U7,ias42 S7,ias42 U7,S7.rd,U7.rd,(S7.el eRng_len lg.symm),(U7.el eRng_len lk.symm),eRng,ne_eq,not_true_eq_false,decide_false,decide_true,Bool.false_eq_true,hEg,irN,nrA,nrM,nrE,reduceIte,reduceCtorEq,nrL];(first | exact f23 _ _ _ M.g _ _ _ _ (by exact topA) (G7.fr (N:=H.n) (by exact frA)) (by omega) (by omega) | exact f23 _ _ _ k _ _ _ _ (by exact topA) (K7.fr (N:=H.n) (by exact frA)) (by omega) (by omega) | exact f47 _ _ _ _ _ (by exact topA)));(intro Gq hq hJq;try simp only [upd_n,jn_n] at hq)) | (with_reducible first | refine W_regionF lv8 fun K hK => ?_ | refine W_drawnF lv8 fun K hK => ?_));try simp only [↓pb,↓pd,qds,tb8,ra,rb,ra',rb',hgo,hox,odr,ods,o1,o2,hv,hv2,dpt,lns42 S7,lns42 U7,ias42 S7,ias42 U7,S7.rd,U7.rd,(S7.el eRng_len lg.symm),(U7.el eRng_len lk.symm),eRng,ne_eq,not_true_eq_false,decide_false,decide_true,Bool.false_eq_true,hEg,irN,nrA,nrM,nrE,reduceIte,reduceCtorEq,nrL]) | ((first | ((with_reducible first | apply WO_gT | apply WO_gF | apply WD_gT | apply WD_gF);exact rfl) | (with_reducible apply W_cond));(simp only [↓pb,qbs,tb8,ra,rb,ra',rb',hgo,hox,odr,ods,o1,o2,hv,hv2,dpt,lns42 S7,lns42 U7,ias42 S7,ias42 U7,S7.rd,U7.rd,(S7.el eRng_len lg.symm),(U7.el eRng_len lk.symm),eRng,ne_eq,not_true_eq_false,decide_false,decide_true,Bool.false_eq_true,hEg,irN,nrA,nrM,nrE,reduceIte,reduceCtorEq,nrL];with_reducible exact rfl);all_goals (intro hc;(first | exact hcX hc | try simp only [hcs] at hc);try ((with_reducible first | apply woI | apply wdI);simp only [↓pb,↓pd,qds,tb8,ra,rb,ra',rb',hgo,hox,odr,ods,o1,o2,hv,hv2,dpt,lns42 S7,lns42 U7,ias42 S7,ias42 U7,S7.rd,U7.rd,(S7.el eRng_len lg.symm),(U7.el eRng_len lk.symm),eRng,ne_eq,not_true_eq_false,decide_false,decide_true,Bool.false_eq_true,hc,hEg,irN,nrA,nrM,nrE,reduceIte,reduceCtorEq,nrL]))) | (with_reducible first | refine W_seq ?_ | refine W_block ?_ | refine W_skip ?_ | refine W_ret ?_ | refine W_exit ?_ | apply blockK_exit) | ((with_reducible apply blockK_pass);(focus decide)) | fail)
    refine ⟨by omega,by simp only [↓pb,qbs,tb8,hEg,irN,nrA,nrM,nrE,reduceIte,reduceCtorEq,nrL];exact congrArg _ (inc64 (by omega)),by focus exact frA, ?_⟩
    trivial
  ·repeat' (first | ((with_reducible refine hK _ _ fun e2 hEn => ?_);clear hK K;simp only [lv8,forallC,forallL,and_true] at hEn;(try simp only [↓pb,qbs,tb8,ra,rb,ra',rb',lns42 S7,lns42 U7,hEg,irN,nrA,nrM,nrE,reduceIte,reduceCtorEq,nrL] at hEn);clear hEg;(try clear eg);have hEg:=hEn;clear hEn;rename Env => eg) | ((first | ((with_reducible first | apply oV_intro | apply oH_intro | apply oB_intro);(simp (disch:=first | exact dA | fail) only [qcs,tb8,ra,rb,ra',rb',lns42 S7,lns42 U7,hEg,irN,nrA,nrM,nrE,reduceIte,reduceCtorEq,nrL];with_reducible exact rfl)) | ((with_reducible first | apply oblA_and | apply oblR_and | apply oblO_and);(focus exact obA)) | ((with_reducible apply WO_callE);(simp only [↓pb,qbs,tb8,ra,rb,ra',rb',lns42 S7,lns42 U7,hEg,irN,nrA,nrM,nrE,reduceIte,reduceCtorEq,nrL];(exact ⟨_,_,Cl.or (hw _ (by exact topA)),rfl,rfl⟩))) | (with_reducible first | refine W_regionF lv8 fun K hK => ?_ | refine W_drawnF lv8 fun K hK => ?_));try simp only [↓pb,↓pd,qds,tb8,ra,rb,ra',rb',lns42 S7,lns42 U7,hEg,irN,nrA,nrM,nrE,reduceIte,reduceCtorEq,nrL]) | ((first | ((with_reducible first | apply WO_gT | apply WO_gF | apply WD_gT | apply WD_gF);exact rfl) | (with_reducible apply W_cond));(simp only [↓pb,qbs,tb8,ra,rb,ra',rb',lns42 S7,lns42 U7,hEg,irN,nrA,nrM,nrE,reduceIte,reduceCtorEq,nrL];with_reducible exact rfl);all_goals (intro hc;(first | exact hcX hc | try simp only [hcs] at hc);try ((with_reducible first | apply woI | apply wdI);simp only [↓pb,↓pd,qds,tb8,ra,rb,ra',rb',lns42 S7,lns42 U7,hc,hEg,irN,nrA,nrM,nrE,reduceIte,reduceCtorEq,nrL]))) | (with_reducible first | refine W_seq ?_ | refine W_block ?_ | refine W_skip ?_ | refine W_ret ?_ | refine W_exit ?_ | apply blockK_exit) | ((with_reducible apply blockK_pass);(focus decide)) | fail)
   refine ⟨by first | exact .inl rfl | exact .inr rfl, ?_⟩
   rw [ret1 Try.results8]
   simp only [↓pb,qbs,tb8,rv_tmp,rv_cell,hEg,irN,nrA,nrM,nrE,reduceIte,reduceCtorEq,nrL]
   repeat ((with_reducible apply oV_intro);(simp (disch:=first | exact dA | fail) only [qcs,tb8,hEg,irN,nrA,nrM,nrE,reduceIte,reduceCtorEq,nrL];exact rfl))
   first | exact ⟨rfl,(by exact frA)⟩ | exact (by exact frA)
 ·obtain ⟨e9,_⟩:=masses_err ckk hr.1 (show hour ≤ 72 by omega) hkn
  repeat' (first | ((with_reducible refine hK _ _ fun e2 hEn => ?_);clear hK K;simp only [lv8,forallC,forallL,and_true] at hEn;(try simp only [↓pb,qbs,tb8,w62,q62,w4,r4,hgo,hox,m0,e9,hEg,irN,nrA,nrM,nrE,reduceIte,reduceCtorEq,nrL] at hEn);clear hEg;(try clear eg);have hEg:=hEn;clear hEn;rename Env => eg) | ((first | ((with_reducible first | apply oV_intro | apply oH_intro | apply oB_intro);(simp (disch:=first | exact dA | fail) only [qcs,tb8,w62,q62,w4,r4,hgo,hox,m0,e9,hEg,irN,nrA,nrM,nrE,reduceIte,reduceCtorEq,nrL];with_reducible exact rfl)) | ((with_reducible first | apply oblA_and | apply oblR_and | apply oblO_and);(focus exact obA)) | ((with_reducible apply WO_callF);(focus exact topA);(simp only [↓pb,qbs,tb8,w62,q62,w4,r4,hgo,hox,m0,e9,hEg,irN,nrA,nrM,nrE,reduceIte,reduceCtorEq,nrL];exact f21 _ _ _ M.g _ _ (by exact topA) (skf _ (by exact frA)).1.1 (by omega) (by omega));(rintro vq Gq hq hJq ⟨vr,rfl,Sr⟩;try simp only [upd_n,jn_n] at hq)) | ((with_reducible apply WO_callF);(focus exact topA);(simp only [↓pb,qbs,tb8,w62,q62,w4,r4,hgo,hox,m0,e9,hEg,irN,nrA,nrM,nrE,reduceIte,reduceCtorEq,nrL];exact f21 _ _ _ k _ _ (by exact topA) (skf _ (by exact frA)).2.1 (by omega) (by omega));(rintro vq Gq hq hJq ⟨vs,rfl,Ss⟩;try simp only [upd_n,jn_n] at hq)) | ((with_reducible apply WO_callE);(simp only [↓pb,qbs,tb8,w62,q62,w4,r4,hgo,hox,m0,e9,hEg,irN,nrA,nrM,nrE,reduceIte,reduceCtorEq,nrL];(exact ⟨_,_,Cl.or (hw _ (by exact topA)),rfl,rfl⟩))) | (with_reducible first | refine W_regionF lv8 fun K hK => ?_ | refine W_drawnF lv8 fun K hK => ?_));try simp only [↓pb,↓pd,qds,tb8,w62,q62,w4,r4,hgo,hox,m0,e9,hEg,irN,nrA,nrM,nrE,reduceIte,reduceCtorEq,nrL]) | ((first | ((with_reducible first | apply WO_gT | apply WO_gF | apply WD_gT | apply WD_gF);exact rfl) | (with_reducible apply W_cond));(simp only [↓pb,qbs,tb8,w62,q62,w4,r4,hgo,hox,m0,e9,hEg,irN,nrA,nrM,nrE,reduceIte,reduceCtorEq,nrL];with_reducible exact rfl);all_goals (intro hc;(first | exact hcX hc | try simp only [hcs] at hc);try ((with_reducible first | apply woI | apply wdI);simp only [↓pb,↓pd,qds,tb8,w62,q62,w4,r4,hgo,hox,m0,e9,hc,hEg,irN,nrA,nrM,nrE,reduceIte,reduceCtorEq,nrL]))) | (with_reducible first | refine W_seq ?_ | refine W_block ?_ | refine W_skip ?_ | refine W_ret ?_ | refine W_exit ?_ | apply blockK_exit) | ((with_reducible apply blockK_pass);(focus decide)) | fail)
  refine ⟨by first | exact .inl rfl | exact .inr rfl, ?_⟩
  rw [ret1 Try.results8]
  simp only [↓pb,qbs,tb8,rv_tmp,rv_cell,hEg,irN,nrA,nrM,nrE,reduceIte,reduceCtorEq,nrL]
  repeat ((with_reducible apply oV_intro);(simp (disch:=first | exact dA | fail) only [qcs,tb8,hEg,irN,nrA,nrM,nrE,reduceIte,reduceCtorEq,nrL];exact rfl))
  first | exact ⟨rfl,(by exact frA)⟩ | exact (by exact frA)
end Go.Proofs.Swa
set_option maxRecDepth 20000
set_option linter.unusedVariables false
set_option linter.unusedSimpArgs false
namespace Go.Proofs.Swa
open Go
open Nat renaming reduceAdd → nrA, reduceMul → nrM, reduceEqDiff → nrE, reduceLT → nrL
open Int renaming reduceToNat → irN
theorem SR.castZ {H : AHeap} {s m k : Nat} {v : Value} {c : List Value} (h : SR H s m v c) (e : m = k) : SR H s k v c:=e ▸ h
end Go.Proofs.Swa
namespace Go.Proofs.Ytkjcijlaehflhaa
open Go.ChangeShapes Go.WideShapes Go.ChangeAt Go.RowKit
open Go.Proofs.Swa (SR ints iv Top Fr RoB RoOk)
theorem cells3 : Try.prog.cellsOf 3 = 1:=by kernel_rfl
theorem own5 : ownKnob Try.prog.godebug = none:=by kernel_rfl
section
variable {H : Type} {enc : TypeId × Value → H} {P : Program}
theorem post_of_below {f : Func} {s : ChangeSpec} {apart fresh handsOn again : Bool} {W W' : World} {args : Array Value} {v : Value} {ds gs : List (DataW H)} {before pa pv : List MemPlace}
  (hW : DataW.Whole enc P f.params.toList s.vars apart W args.toList ds gs before)
  (hres : ∀ (b : Nat) (sp : Nat → Bool) (hd : Bool),DataW.TrodAll enc P W' b sp hd f.resultTypes.toList (v.resultList f.resultTypes.size) (s.fn H (ds ++ gs)).results [])
  (hargs : ∀ sp : Nat → Bool,(∀ p ∈ before,sp p.block = true) → DataW.TrodAll enc P W' 0 sp true f.params.toList args.toList (s.fn H (ds ++ gs)).args pa)
  (hvars : ∀ sp : Nat → Bool,(∀ p ∈ before,sp p.block = true) → DataW.TrodVars enc P W' sp s.vars (s.fn H (ds ++ gs)).vars pv)
  (hps : before = pa ++ pv) (hb : Below W.heap.size W W')
  (hok : ∀ (j : Nat) (t : TypeId) (r : Value),f.resultTypes[j]? = some t → (v.resultList f.resultTypes.size)[j]? = some r → Value.okWide P W' .any 0 t r) :
  s.post enc P f apart fresh handsOn again W args v W':=by
 have hlt : ∀ p ∈ before,p.block < W.heap.size:=fun p hp => hW.lt p hp
 have hold : ∀ p ∈ before,(fun b => decide (b < W.heap.size)) p.block = true:=fun p hp => by simpa using hlt p hp
 refine ⟨ds,gs,before,[],pa,pv,hW,hres _ _ _,hargs _ hold,hvars _ hold,World.keptBut_mono (fun p hp => ⟨hp, ?_⟩) (hb.frame (· ∈ before)),fun _ => ?_⟩
 ·rw [hps,List.mem_append] at hp
  exact Or.inr hp
 ·obtain ⟨_,_,_,_,_,hz,hn⟩:=hW
  refine ⟨hok,_,_,([] ++ pa) ++ pv,⟨[] ++ pa,pv,trodAll_append (hargs _ (fun _ _ => rfl)) (hres _ _ _),hvars _ (fun _ _ => rfl),rfl, ?_, ?_⟩, ?_⟩
  ·intro b off hp
   have hin : MemPlace.cell b off ∈ before:=by rw [hps];simpa using hp
   rw [hb.frozen (hlt _ hin)]
   exact hz b off hin
  ·intro ha
   have:=hn ha
   rw [hps] at this
   simpa using this
  ·intro p hp _
   rw [hps]
   simpa using hp
end
def LawInts (f : FuncId) : Prop:=∀ (vl : Value) (l : List Int) (H : Swa.AHeap),Top H → SR H 1 l.length vl (ints l) → l.length ≤ 9223372036854775807 → ∃ v H',Swa.Cl Try.prog (Swa.OrC Try.prog) 0 (.fn f) #[vl] H v H' ∧ v = .bool true ∧ Fr H.n [] H H'
theorem ints_call {f : FuncId} (hf : LawInts f) {H : Type} {enc : TypeId × Value → H} {W : World} {v0 : Value} {d0 : DataW H} {p0 : List MemPlace} {base0 : Nat} (hv : Value.okWide Try.prog W .any base0 31 v0) (h0 : DataW.Trod enc Try.prog W 0 (fun _ => true) true 31 v0 d0 p0) :
  Calls Try.prog f #[v0] W fun e W' => e = .returned (.bool true) ∧ Below W.heap.size W W':=by
 have hmix : Try.prog.follows .mixedOrders = true:=by kernel_rfl
 obtain ⟨a0,len,cap,rfl⟩:=okWide_slice Try.underlying31 hv
 obtain ⟨fuel,hf0⟩:=h0
 rcases open_ints Try.underlying31 Try.underlying3 cells3 hf0 with ⟨hcs,hx⟩ | ⟨a,len',cap',zs,hcs,_,hl,hm,hz,hx,hcell,hwz⟩
 ·simp [Value.cells] at hcs
  obtain ⟨rfl,rfl,rfl⟩:=hcs
  refine Swa.law_callsC hmix (L:=[]) (by simp) (Swa.ARel.one (.flat rfl)) ?_
  exact hf _ [] _ (Swa.top_heapOf _) (Swa.GS.nul (s:=1)).sr (by simp)
 ·simp [Value.cells] at hcs
  obtain ⟨rfl,rfl,rfl⟩:=hcs
  simp only [if_true] at hz
  unfold maxLen at hm
  by_cases hc : cap = 0
  ·subst hc
   have hl0 : len = 0:=by omega
   subst hl0
   refine Swa.law_callsC hmix (L:=[]) (by simp) (args:=#[.slice (some ⟨0,1,none⟩) 0 0]) (Swa.ARel.one (.empty (by omega))) ?_
   exact hf _ [] _ (Swa.top_heapOf _) ⟨.inr ⟨_,_,_,rfl,Nat.le_refl _⟩,rfl,.inl rfl,.inl rfl⟩ (by simp)
  ·have hlen : (ints zs).length = zs.length:=Swa.ints_len zs
   have hr:=Swa.roOk_of (w:=W) (a:=a) (cs:=ints zs) (T:=3) (by omega) (fun i hi => by
    rw [hcell i (by omega)]
    have : (ints zs)[i] = iv (zs.getD i 0):=by
     have hi2 : i < zs.length:=by omega
     simp [ints,hi2]
    rw [this]
    exact ⟨rfl,rfl⟩)
   obtain ⟨b,off,spot⟩:=a
   obtain ⟨hr,hsp⟩:=hr
   dsimp only at hsp
   subst hsp
   refine Swa.law_callsC hmix (L:=[⟨b,off,ints zs,3⟩]) (by intro r hrm;rw [List.mem_singleton.1 hrm];exact hr) (args:=#[.slice (some ⟨0,0,none⟩) len cap]) (Swa.ARel.one ?_) ?_
   ·have:=Swa.VRel.slice (ρ:=Swa.renOf W [⟨b,off,ints zs,3⟩]) (b:=0) (o:=0) (n:=len) (c:=cap) (c':=cap) (im:=⟨b,off,Swa.szOf W b,true,false,0,0⟩) rfl (.inr ⟨rfl,rfl⟩) hl
    exact this
   ·have hlt : (zs.take len).length = len:=by rw [List.length_take];omega
    have S : SR (Swa.heapOf [⟨b,off,ints zs,3⟩]) 1 len (.slice (some ⟨0,0,none⟩) len cap) (ints (zs.take len)):=by
     refine ⟨.inr ⟨_,_,_,rfl,hl⟩, ?_,.inr ⟨ints zs,rfl, ?_, ?_⟩,.inr (Nat.lt_succ_self _)⟩
     ·rw [Swa.ints_len,hlt,Nat.mul_one]
     ·show 0 + _ ≤ _
      rw [hlen];omega
     ·show ((ints zs).drop 0).take _ = _
      rw [List.drop_zero,Nat.mul_one]
      unfold ints
      rw [← List.map_take]
    exact hf _ (zs.take len) _ (Swa.top_heapOf _) (S.castZ hlt.symm) (by omega)
end Go.Proofs.Ytkjcijlaehflhaa
set_option linter.unusedVariables false
set_option linter.unusedSimpArgs false
namespace Go.Proofs.Swa
open Go
open Nat renaming reduceAdd → nrA, reduceMul → nrM, reduceEqDiff → nrE, reduceLT → nrL
open Int renaming reduceToNat → irN
set_option maxRecDepth 1000000 in
/-- The chapter's examples, by a run that computes. -/
theorem awake_run : topX Try.prog noO 200 15 [] isT = true:=by kernel_rfl
theorem awake_body : Bodied Try.prog 15:=⟨_,_,Try.func15,rfl,by kernel_rfl⟩
theorem awake_or (H : AHeap) : OrC Try.prog 15 #[] H (.bool true) H:=orC_run (by kernel_rfl) awake_body awake_run H
end Go.Proofs.Swa
