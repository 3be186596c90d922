/- Part 9 of a proof. -/
import Derived.Test.YtloabbaheifkgaaP08
set_option maxRecDepth 20000
set_option linter.unusedVariables false
set_option linter.unusedSimpArgs false
namespace Go.Proofs.Swa
open Go
open Nat renaming reduceAdd → nrA, reduceMul → nrM, reduceEqDiff → nrE, reduceLT → nrL
open Int renaming reduceToNat → irN
attribute [local congr] WO_congr oV_congr oB_congr oH_congr WD_congr oblO_congr oblA_congr oblR_congr
theorem TbH.fr {A B:AHeap} {b n N:Nat} {T:Nat→Nat→Int} {X:List Nat} (t:TbH A b n T) (hF:Fr N X A B) (hb:b < A.n) (hx:b∉X):TbH B b n T:=by
 obtain ⟨c,gc,cl,ce⟩:=t
 exact ⟨c,by rw [hF.old _ hb hx];exact gc,cl,ce⟩
theorem TbH.congr {A:AHeap} {b n:Nat} {T T':Nat→Nat→Int} (t:TbH A b n T) (e:∀ d l,d < n→l < 51→T d l=T' d l):TbH A b n T':=by
 obtain ⟨c,gc,cl,ce⟩:=t
 exact ⟨c,gc,cl,fun d l h1 h2=>by rw [ce d l h1 h2,e d l h1 h2]⟩
theorem zeros_zs {s:Nat}:∀ (n:Nat),zeros (zs s) n=zs (n * s)
 | 0=>by rw [Nat.zero_mul];rfl
 | n + 1=>by
  unfold zeros
  rw [List.range_succ,List.flatMap_append]
  show zeros (zs s) n ++ List.flatMap (fun _=>zs s) [n]=_
  rw [zeros_zs n]
  unfold zs
  rw [List.flatMap_cons,List.flatMap_nil,List.append_nil,List.replicate_append_replicate,Nat.succ_mul]
theorem TbH.made {A:AHeap} {b n:Nat} (h:A.get b=.cells (zeros (zs 51) n) 148 .ex):TbH A b n fun _ _=>0:=by
 rw [zeros_zs] at h
 refine ⟨_,h,zs_len _,fun d l h1 h2=>?_⟩
 have:d * 51 + l < n * 51:=by omega
 unfold zs
 rw [List.getElem?_replicate,if_pos this]
theorem TbH.put {A:AHeap} {b n d l N:Nat} {x:Int} {T:Nat→Nat→Int} (t:TbH A b n T) (hd:d < n) (hl:l < 51) {c:List Value} (hc:A.get b=.cells c 148 .ex):TbH (A.upd N b (.cells (c.set (d * 51 + l) (iv x)) 148 .ex)) b n (fun d' l'=>if d'=d∧l'=l then x else T d' l'):=by
 obtain ⟨c',gc,cl,ce⟩:=t
 rw [hc] at gc
 cases gc
 refine ⟨_,upd_get_same,by rw [List.length_set];exact cl,fun d' l' h1 h2=>?_⟩
 dsimp only
 by_cases e:d'=d∧l'=l
 ·obtain ⟨rfl,rfl⟩:=e
  rw [if_pos ⟨rfl,rfl⟩,List.getElem?_set_self (by omega)]
 ·rw [if_neg e,List.getElem?_set_ne (by omega)]
  exact ce _ _ h1 h2
theorem sl_tip {H:AHeap} {n:Nat} {v:Value} {c:List Value} {gg:Option Nat} {q q':IntKind} (G:GS H 1 n v c gg) (h0:0 < n∨v=.slice none 0 0):sliceA Try.prog H 27 v none (some (.int q n)) (some (.int q' n))=some v:=by
 have hb:bndsA n n none (some (.int q n)) (some (.int q' n))=some (0,n,n):=by
  unfold bndsA bndO bnd1
  dsimp only
  rw [if_pos ⟨by omega,by omega⟩]
  simp
 have hN:∀ m:Nat,m=0→sliceA Try.prog H 27 (.slice none 0 0) none (some (.int q m)) (some (.int q' m))=some (.slice none 0 0):=by
  intro m hm
  subst hm
  unfold sliceA
  rw [und27]
  dsimp only
  have hb:bndsA 0 0 none (some (.int q (0:Nat))) (some (.int q' (0:Nat)))=some (0,0,0):=by
   unfold bndsA bndO bnd1
   simp
  rw [hb,sz3]
 cases G with
 | nil hn hv hc =>
  rw [hv]
  exact hN _ hn
 | full hv hbb hg hk hl hc hz =>
  subst hv
  rcases h0 with h0|h0
  ·unfold sliceA
   rw [und27]
   dsimp only
   rw [hb,sz3,hg]
   rcases hk with rfl|rfl
   all_goals (
   dsimp only
   rw [if_neg (by omega)]
   simp
   )
  ·cases h0
 | gr hv hbb hgb hg hl hf =>
  subst hv
  rcases h0 with h0|h0
  ·unfold sliceA
   rw [und27]
   dsimp only
   rw [hb,sz3,hg]
   dsimp only
   rw [if_pos ⟨rfl,.inr (by omega)⟩]
   simp
  ·cases h0
structure HdS (vs:Value) (g:Hdg) (a N:Nat) (h:AHeap):Prop where
 g0:h.get a=.cells (eHdg vs g) 87 .ex
 g6:h.get (N + 1)=.cells [.slice (some ⟨N,0,none⟩) (g.Stock.length + 1) (g.Stock.length + 1)] 147 .ex
 lt:a < N∧N + 1 < h.n
theorem HdS.fr {vs:Value} {g:Hdg} {a N M:Nat} {A B:AHeap} {X:List Nat} (k:HdS vs g a N A) (hF:Fr M X A B) (h1:a∉X) (h2:N + 1∉X):HdS vs g a N B :=
 ⟨by rw [hF.old _ (by have:=k.lt;omega) h1];exact k.g0,by rw [hF.old _ k.lt.2 h2];exact k.g6,k.lt.1,Nat.lt_of_lt_of_le k.lt.2 hF.n⟩
theorem f58 (vs:Value) (g:Hdg) (H:AHeap) (hT:Top H) (S:SR H 2 g.Stock.length vs (g.Stock.flatMap eRg)) (hl:g.Stock.length < 1000000) :
  ∃ v H',C8 (.fn 58) #[.agg ⟨eHdg vs g⟩] H v H'∧(∃ vp,v=.tuple #[vp,iv (hedgedP g).2.1,iv (hedgedP g).2.2]∧SR H' 1 (hedgedP g).1.length vp (ints ((hedgedP g).1.map Int.ofNat)))∧Fr H.n [] H H':=by
 have so:=S.one
 refine Cl.ofW Try.func58 rfl (by kernel_rfl) (by rw [Try.ntmps58];exact Nat.le_of_ble_eq_true rfl) (by kernel_rfl) ?_
 have hEg:True:=trivial
 refine gcW [0] ?_
 intro eg hEn
 simp only [forallC,forallL,and_true] at hEn
 try simp only [↓pb,qbs,tb58,eHdg,so,so.1,so.2,lns37 S,hEg,irN,nrA,nrM,nrE,reduceIte,reduceCtorEq,nrL] at hEn
 replace hEg:=hEn;clear hEn
 repeat' (first|((with_reducible refine hK _ _ fun e2 hEn=>?_);clear hK K;simp only [lv58,forallC,forallL,and_true] at hEn;(try simp only [↓pb,qbs,tb58,eHdg,so,so.1,so.2,lns37 S,hEg,irN,nrA,nrM,nrE,reduceIte,reduceCtorEq,nrL] at hEn);clear hEg;(try clear eg);have hEg:=hEn;clear hEn;rename Env=>eg)|((first|((with_reducible first|apply oV_intro|apply oH_intro|apply oB_intro);(simp (disch:=try exact dA) only [qcs,tb58,eHdg,so,so.1,so.2,lns37 S,hEg,irN,nrA,nrM,nrE,reduceIte,reduceCtorEq,nrL];with_reducible exact rfl))|((with_reducible first|apply oblA_and|apply oblR_and|apply oblO_and);(focus exact obA))|((with_reducible apply WO_callV);(focus exact topA);(simp only [↓pb,qbs,tb58,eHdg,so,so.1,so.2,lns37 S,hEg,irN,nrA,nrM,nrE,reduceIte,reduceCtorEq,nrL];(exact f97 vs g _ (by exact topA) (S.fr0 (N:=H.n) (by exact frA)) hl));(intro Gq hq hJq;try simp only [upd_n,jn_n] at hq))|(with_reducible first|refine W_regionF lv58 fun K hK=>?_|refine W_drawnF lv58 fun K hK=>?_));try simp only [↓pb,↓pd,qds,tb58,eHdg,so,so.1,so.2,lns37 S,hEg,irN,nrA,nrM,nrE,reduceIte,reduceCtorEq,nrL])|((with_reducible apply W_cond);(simp only [↓pb,qbs,tb58,eHdg,so,so.1,so.2,lns37 S,hEg,irN,nrA,nrM,nrE,reduceIte,reduceCtorEq,nrL];with_reducible exact rfl);all_goals (intro hc;(first|exact hcX hc|try simp only [hcs] at hc)))|(with_reducible first|refine W_seq ?_|refine W_block ?_|refine W_skip ?_|refine W_ret ?_|refine W_exit ?_|apply blockK_exit)|((with_reducible apply blockK_pass);(focus decide))|fail)
 ·refine ⟨by first|exact .inl rfl|exact .inr rfl, ?_⟩
  rw [ret3 Try.results58]
  simp only [↓pb,qbs,tb58,eHdg,so,so.1,so.2,lns37 S,rv_tmp,rv_cell,hEg,irN,nrA,nrM,nrE,reduceIte,reduceCtorEq,nrL]
  repeat ((with_reducible apply oV_intro);(simp (disch:=try exact dA) only [qcs,tb58,eHdg,so,so.1,so.2,lns37 S,hEg,irN,nrA,nrM,nrE,reduceIte,reduceCtorEq,nrL];exact rfl))
  have e:hedgedP g=([],0,hedgeErr g):=by rw [hedgedP,if_pos (by assumption)]
  rw [e]
  refine ⟨⟨_,rfl,GS.nul.sr⟩, ?_⟩
  exact frA
 have hE:hedgeErr g=0:=by omega
 obtain ⟨hp,hm,hh0,hh5⟩:=hedgeErr_ok hE
 have hw:IntKind.i64.wrap ((g.Stock.length:Int) + 1)=((g.Stock.length + 1:Nat):Int):=inc64 (by omega)
 rw [hw,ms147 (by omega) (by omega) (by omega) (by omega)]
 simp only [↓pb,↓pd,qds,tb58,eHdg,so,so.1,so.2,lns37 S,hEg,irN,nrA,nrM,nrE,reduceIte,reduceCtorEq,nrL]
 repeat' (first|((with_reducible refine hK _ _ fun e2 hEn=>?_);clear hK K;simp only [lv58,forallC,forallL,and_true] at hEn;(try simp only [↓pb,qbs,tb58,eHdg,so,so.1,so.2,lns37 S,hEg,irN,nrA,nrM,nrE,reduceIte,reduceCtorEq,nrL] at hEn);clear hEg;(try clear eg);have hEg:=hEn;clear hEn;rename Env=>eg)|((first|((with_reducible first|apply oV_intro|apply oH_intro|apply oB_intro);(simp (disch:=try exact dA) only [qcs,tb58,eHdg,so,so.1,so.2,lns37 S,hEg,irN,nrA,nrM,nrE,reduceIte,reduceCtorEq,nrL];with_reducible exact rfl))|((with_reducible first|apply oblA_and|apply oblR_and|apply oblO_and);(focus exact obA))|(with_reducible first|refine W_regionF lv58 fun K hK=>?_|refine W_drawnF lv58 fun K hK=>?_));try simp only [↓pb,↓pd,qds,tb58,eHdg,so,so.1,so.2,lns37 S,hEg,irN,nrA,nrM,nrE,reduceIte,reduceCtorEq,nrL])|((with_reducible apply W_cond);(simp only [↓pb,qbs,tb58,eHdg,so,so.1,so.2,lns37 S,hEg,irN,nrA,nrM,nrE,reduceIte,reduceCtorEq,nrL];with_reducible exact rfl);all_goals (intro hc;(first|exact hcX hc|try simp only [hcs] at hc)))|(with_reducible first|refine W_seq ?_|refine W_block ?_|refine W_skip ?_|refine W_ret ?_|refine W_exit ?_|apply blockK_exit)|((with_reducible apply blockK_pass);(focus decide))|fail)
 generalize hN:Gq.n=N at *
 refine W_forget (N:=H.n) (X:=[]) (h0:=H) (fun h=>HdS vs g H.n N h∧TbH h N (g.Stock.length + 1) (fun _ _=>0)∧Top h) (by exact frA) ⟨⟨by simp (disch:=try exact dA) only [qcs,tb58,eHdg,so,so.1,so.2,lns37 S,hEg,irN,nrA,nrM,nrE,reduceIte,reduceCtorEq,nrL],by simp (disch:=try exact dA) only [qcs,tb58,eHdg,so,so.1,so.2,lns37 S,hEg,irN,nrA,nrM,nrE,reduceIte,reduceCtorEq,nrL],by simp only [upd_n,jn_n];omega⟩,TbH.made (by simp (disch:=try exact dA) only [qcs,tb58,eHdg,so,so.1,so.2,lns37 S,hEg,irN,nrA,nrM,nrE,reduceIte,reduceCtorEq,nrL]),(by exact topA)⟩ ?_
 rintro h0 F0 ⟨k0,t0,T0⟩
 have n0:=F0.n
 have hw1:IntKind.i64.wrap ((g.Stock.length:Int) - 1)=(g.Stock.length:Int) - 1:=wrap64 (by omega) (by omega)
 rw [hw1] at hEg
 have kl:=k0.lt
 refine W_while [1,2,6,7] (by kernel_rfl) (H.n) [N] [] (fun s e h=>e 8=iv (Int.ofNat s - 1)∧s≤g.Stock.length∧∃ T,TbH h N (g.Stock.length + 1) T∧∀ d l,s≤d→d≤g.Stock.length→l < 51→T d l=restP g d l) (fun s=>s) (g.Stock.length) (by focus exact topA) (H0:=H) (by focus exact frA) (by intro b hb hlt;simp at hb ⊢;try omega) ?_ ?_
 rotate_left
 intro s1 e1 h1 hE1 hF1 hF01 hTh1 hJ1
 simp only [forallC,forallL,and_true] at hE1
 try simp only [↓pb,qbs,tb58,eHdg,so,so.1,so.2,lns37 S,hEg,irN,nrA,nrM,nrE,reduceIte,reduceCtorEq,nrL] at hE1
 have hn11:=hF1.n;have hn01:=hF01.n;try simp only [upd_n,jn_n] at hn11
 replace hEg:=hE1
 rotate_left
 ·refine ⟨by simp only [↓pb,qbs,tb58,eHdg,so,so.1,so.2,lns37 S,hEg,irN,nrA,nrM,nrE,reduceIte,reduceCtorEq,nrL];rfl,Nat.le_refl _,_,t0,fun d l h1 h2 h3=>?_⟩
  have:d=g.Stock.length:=by omega
  subst this
  rw [restP_end]
 obtain ⟨e8,hs1,T1,t1,tr1⟩:=hJ1
 have k1:=k0.fr hF1 (by simp;omega) (by simp)
 have r0:h1.rd H.n=some (eHdg vs g):=by rw [rd_def,k1.g0];rfl
 have r6:h1.rd (N + 1)=some [.slice (some ⟨N,0,none⟩) (g.Stock.length + 1) (g.Stock.length + 1)]:=by rw [rd_def,k1.g6];rfl
 rw [eHdg] at r0
 cases s1 with
 | zero =>
  have e8:e1 8=iv (-1):=by rw [e8];rfl
  have hge:¬ (0:Int)≤-1:=by omega
  obtain ⟨c,gc,cl,ce⟩:=t1
  have rN:h1.rd N=some c:=by rw [rd_def,gc];rfl
  have c0:=ce 0 g.Held.toNat (by omega) (by omega)
  rw [tr1 0 _ (by omega) (by omega) (by omega),Nat.zero_mul,Nat.zero_add] at c0
  repeat' (first|((with_reducible refine hK _ _ fun e2 hEn=>?_);clear hK K;simp only [lv58,forallC,forallL,and_true] at hEn;(try simp only [↓pb,qbs,tb58,eHdg,so,so.1,so.2,lns37 S,hEg,irN,nrA,nrM,nrE,reduceIte,reduceCtorEq,nrL] at hEn);clear hEg;(try clear eg);have hEg:=hEn;clear hEn;rename Env=>eg)|((first|((with_reducible first|apply oV_intro|apply oH_intro|apply oB_intro);(simp (disch:=try exact dA) only [qcs,tb58,eHdg,so,so.1,so.2,lns37 S,e8,r0,r6,hge,rN,c0,Nat.mul_one,Nat.zero_add,Nat.zero_mul,hEg,irN,nrA,nrM,nrE,reduceIte,reduceCtorEq,nrL];with_reducible exact rfl))|((with_reducible first|apply oblA_and|apply oblR_and|apply oblO_and);(focus exact obA))|(with_reducible first|refine W_regionF lv58 fun K hK=>?_|refine W_drawnF lv58 fun K hK=>?_));try simp only [↓pb,↓pd,qds,tb58,eHdg,so,so.1,so.2,lns37 S,e8,r0,r6,hge,rN,c0,Nat.mul_one,Nat.zero_add,Nat.zero_mul,hEg,irN,nrA,nrM,nrE,reduceIte,reduceCtorEq,nrL])|((with_reducible apply W_cond);(simp only [↓pb,qbs,tb58,eHdg,so,so.1,so.2,lns37 S,e8,r0,r6,hge,rN,c0,Nat.mul_one,Nat.zero_add,Nat.zero_mul,hEg,irN,nrA,nrM,nrE,reduceIte,reduceCtorEq,nrL];with_reducible exact rfl);all_goals (intro hc;(first|exact hcX hc|try simp only [hcs] at hc)))|(with_reducible first|refine W_seq ?_|refine W_block ?_|refine W_skip ?_|refine W_ret ?_|refine W_exit ?_|apply blockK_exit)|((with_reducible apply blockK_pass);(focus decide))|fail)
  ·refine ⟨by first|exact .inl rfl|exact .inr rfl, ?_⟩
   rw [ret3 Try.results58]
   simp only [↓pb,qbs,tb58,eHdg,so,so.1,so.2,lns37 S,rv_tmp,rv_cell,hEg,irN,nrA,nrM,nrE,reduceIte,reduceCtorEq,nrL]
   repeat ((with_reducible apply oV_intro);(simp (disch:=try exact dA) only [qcs,tb58,eHdg,so,so.1,so.2,lns37 S,hEg,irN,nrA,nrM,nrE,reduceIte,reduceCtorEq,nrL];exact rfl))
   have hc2:never≤restP g 0 g.Held.toNat:=by assumption
   have e:hedgedP g=([],0,13):=by rw [hedgedP,if_neg (by omega),if_pos hc2]
   rw [e]
   refine ⟨⟨_,rfl,GS.nul.sr⟩,hF01⟩
  have hr0:restP g 0 g.Held.toNat < never:=by unfold never;omega
  have hhe:g.Held=(g.Held.toNat:Int):=by omega
  refine W_count [3,6,7,68] (by kernel_rfl) 69 (g.Stock.length) (H.n) [] [] (fun i e h=>∃ (pre:List Nat) (b:Nat) (vp:Value) (gg:Option Nat),e 2=vp∧e 12=iv b∧b < 51∧pre.length=i∧GS h 1 i vp (ints (pre.map Int.ofNat)) gg∧(∀ x,gg=some x→H.n≤x)∧(0 < i∨vp=.slice none 0 0)∧(i < g.Stock.length→restP g i b < never)∧planP g=pre ++ planGo g (g.Stock.length - i) i b) (by simp only [↓pb,qbs,tb58,eHdg,so,so.1,so.2,lns37 S,hEg,irN,nrA,nrM,nrE,reduceIte,reduceCtorEq,nrL]) (by focus exact topA) (H0:=H) (by focus exact frA) (by intro b hb hlt;simp at hb ⊢;try omega) ?_ ?_
  rotate_left
  intro i4 e4 h4 hi4 hE4 ei4 hF4 hF04 hTh4 hJ4
  simp only [forallC,forallL,and_true] at hE4
  try simp only [↓pb,qbs,tb58,eHdg,so,so.1,so.2,lns37 S,hEg,irN,nrA,nrM,nrE,reduceIte,reduceCtorEq,nrL] at hE4
  have hn14:=hF4.n;have hn04:=hF04.n;try simp only [upd_n,jn_n] at hn14
  replace hEg:=And.intro ei4 hE4
  rotate_left
  ·refine ⟨[],g.Held.toNat,.slice none 0 0,none,by simp only [↓pb,qbs,tb58,eHdg,so,so.1,so.2,lns37 S,hEg,irN,nrA,nrM,nrE,reduceIte,reduceCtorEq,nrL], ?_,by omega,rfl,GS.nul,by simp,.inr rfl,fun _=>hr0,rfl⟩
   simp only [hEg]
   exact congrArg _ hhe
  obtain ⟨pre,b,vp,gg,f2,f12,hb,hpl,G4,hgg,hv0,hrb,hpp⟩:=hJ4
  have k4:=k1.fr hF4 (by simp) (by simp)
  have g4:h4.get N=.cells c 148 .ex:=by rw [hF4.old _ (by have:=k1.lt;omega) (by simp)];exact gc
  have r4:h4.rd N=some c:=by rw [rd_def,g4];rfl
  have q0:h4.rd H.n=some (eHdg vs g):=by rw [rd_def,k4.g0];rfl
  have q6:h4.rd (N + 1)=some [.slice (some ⟨N,0,none⟩) (g.Stock.length + 1) (g.Stock.length + 1)]:=by rw [rd_def,k4.g6];rfl
  rw [eHdg] at q0
  have o4:=G4.one
  by_cases hi:i4 < g.Stock.length
  ·have d0:=ce i4 b (by omega) hb
   rw [tr1 i4 _ (by omega) (by omega) hb] at d0
   obtain ⟨L,hL1,hL2,hL3,hL4,hL5⟩:=first_ok hi hb (hrb hi)
   repeat' (first|((with_reducible refine hK _ _ fun e2 hEn=>?_);clear hK K;simp only [lv58,forallC,forallL,and_true] at hEn;(try simp only [↓pb,qbs,tb58,eHdg,so,so.1,so.2,lns37 S,hEg,irN,nrA,nrM,nrE,reduceIte,reduceCtorEq,nrL] at hEn);clear hEg;(try clear eg);have hEg:=hEn;clear hEn;rename Env=>eg)|((first|((with_reducible first|apply oV_intro|apply oH_intro|apply oB_intro);(simp (disch:=try exact dA) only [qcs,tb58,eHdg,so,so.1,so.2,lns37 S,f2,f12,q0,q6,r4,d0,o4,Nat.mul_one,Nat.zero_add,hEg,irN,nrA,nrM,nrE,reduceIte,reduceCtorEq,nrL];with_reducible exact rfl))|((with_reducible first|apply oblA_and|apply oblR_and|apply oblO_and);(focus exact obA))|(with_reducible first|refine W_regionF lv58 fun K hK=>?_|refine W_drawnF lv58 fun K hK=>?_));try simp only [↓pb,↓pd,qds,tb58,eHdg,so,so.1,so.2,lns37 S,f2,f12,q0,q6,r4,d0,o4,Nat.mul_one,Nat.zero_add,hEg,irN,nrA,nrM,nrE,reduceIte,reduceCtorEq,nrL])|((with_reducible apply W_cond);(simp only [↓pb,qbs,tb58,eHdg,so,so.1,so.2,lns37 S,f2,f12,q0,q6,r4,d0,o4,Nat.mul_one,Nat.zero_add,hEg,irN,nrA,nrM,nrE,reduceIte,reduceCtorEq,nrL];with_reducible exact rfl);all_goals (intro hc;(first|exact hcX hc|try simp only [hcs] at hc)))|(with_reducible first|refine W_seq ?_|refine W_block ?_|refine W_skip ?_|refine W_ret ?_|refine W_exit ?_|apply blockK_exit)|((with_reducible apply blockK_pass);(focus decide))|fail)
   refine W_while [2,3,6,7,12,13,14,68,69] (by kernel_rfl) (H.n) [] [] (fun s e h=>e 15=iv (Int.ofNat (L - s))∧s≤L∧GS h 1 i4 vp (ints (pre.map Int.ofNat)) gg) (fun s=>s) (L) (by focus exact topA) (H0:=H) (by focus exact frA) (by intro b hb hlt;simp at hb ⊢;try omega) ?_ ?_
   rotate_left
   intro s5 e5 h5 hE5 hF5 hF05 hTh5 hJ5
   simp only [forallC,forallL,and_true] at hE5
   try simp only [↓pb,qbs,tb58,eHdg,so,so.1,so.2,lns37 S,hEg,irN,nrA,nrM,nrE,reduceIte,reduceCtorEq,nrL] at hE5
   have hn15:=hF5.n;have hn05:=hF05.n;try simp only [upd_n,jn_n] at hn15
   replace hEg:=hE5
   rotate_left
   ·refine ⟨?_,Nat.le_refl _,G4⟩
    simp only [hEg,Nat.sub_self]
    rfl
   obtain ⟨f15,hsL,G5⟩:=hJ5
   have k5:=k4.fr hF5 (by simp) (by simp)
   have g5:h5.get N=.cells c 148 .ex:=by rw [hF5.old _ (by have:=k4.lt;omega) (by simp)];exact g4
   have t5:TbH h5 N (g.Stock.length + 1) (restP g):=TbH.congr ⟨c,g5,cl,ce⟩ fun d l a1 a2=>tr1 d l (Nat.zero_le _) (by omega) a2
   have q0:h5.rd H.n=some (eHdg vs g):=by rw [rd_def,k5.g0];rfl
   have q6:h5.rd (N + 1)=some [.slice (some ⟨N,0,none⟩) (g.Stock.length + 1) (g.Stock.length + 1)]:=by rw [rd_def,k5.g6];rfl
   have l5:=k5.lt
   cases s5 with
   | succ s =>
    have f15:e5 15=iv ((L - (s + 1):Nat):Int):=f15
    have hne:=hL4 (L - (s + 1)) (by omega)
    repeat' (first|((with_reducible refine hK _ _ fun e2 hEn=>?_);clear hK K;simp only [lv58,forallC,forallL,and_true] at hEn;(try simp only [↓pb,qbs,tb58,eHdg,so,so.1,so.2,lns37 S,hEg,irN,nrA,nrM,nrE,reduceIte,reduceCtorEq,nrL] at hEn);clear hEg;(try clear eg);have hEg:=hEn;clear hEn;rename Env=>eg)|((first|((with_reducible first|apply oV_intro|apply oH_intro|apply oB_intro);(simp (disch:=try exact dA) only [qcs,tb58,eHdg,so,so.1,so.2,lns37 S,f15,f12,hne,hEg,irN,nrA,nrM,nrE,reduceIte,reduceCtorEq,nrL];with_reducible exact rfl))|((with_reducible first|apply oblA_and|apply oblR_and|apply oblO_and);(focus exact obA))|((with_reducible apply WO_callV);(focus exact topA);(simp only [↓pb,qbs,tb58,eHdg,so,so.1,so.2,lns37 S,f15,f12,hne,hEg,irN,nrA,nrM,nrE,reduceIte,reduceCtorEq,nrL];(exact f103 vs g i4 b (L - (s + 1)) H.n (N + 1) N 0 (restP g) h5 (by exact topA) (S.fr0 hF05) hi hl (by omega) hb q0 q6 ⟨by omega,by omega,by omega⟩ t5));(intro Gq hq hJq;try simp only [upd_n,jn_n] at hq))|(with_reducible first|refine W_regionF lv58 fun K hK=>?_|refine W_drawnF lv58 fun K hK=>?_));try simp only [↓pb,↓pd,qds,tb58,eHdg,so,so.1,so.2,lns37 S,f15,f12,hne,hEg,irN,nrA,nrM,nrE,reduceIte,reduceCtorEq,nrL])|((with_reducible apply W_cond);(simp only [↓pb,qbs,tb58,eHdg,so,so.1,so.2,lns37 S,f15,f12,hne,hEg,irN,nrA,nrM,nrE,reduceIte,reduceCtorEq,nrL];with_reducible exact rfl);all_goals (intro hc;(first|exact hcX hc|try simp only [hcs] at hc)))|(with_reducible first|refine W_seq ?_|refine W_block ?_|refine W_skip ?_|refine W_ret ?_|refine W_exit ?_|apply blockK_exit)|((with_reducible apply blockK_pass);(focus decide))|fail)
    refine ⟨s,by omega,by exact frA, ?_,by omega,G5.jn hJq⟩
    simp only [hEg]
    refine congrArg iv ?_
    have e:((L - (s + 1):Nat):Int) + 1=((L - s:Nat):Int):=by omega
    show IntKind.i64.wrap (((L - (s + 1):Nat):Int) + 1)=((L - s:Nat):Int)
    rw [wrap64 (by omega) (by omega),e]
   | zero =>
    have f15:e5 15=iv (L:Int):=f15
    repeat' (first|((with_reducible refine hK _ _ fun e2 hEn=>?_);clear hK K;simp only [lv58,forallC,forallL,and_true] at hEn;(try simp only [↓pb,qbs,tb58,eHdg,so,so.1,so.2,lns37 S,hEg,irN,nrA,nrM,nrE,reduceIte,reduceCtorEq,nrL] at hEn);clear hEg;(try clear eg);have hEg:=hEn;clear hEn;rename Env=>eg)|((first|((with_reducible first|apply oV_intro|apply oH_intro|apply oB_intro);(simp (disch:=try exact dA) only [qcs,tb58,eHdg,so,so.1,so.2,lns37 S,f15,f12,f2,hL3,ne_eq,not_true_eq_false,decide_false,hEg,irN,nrA,nrM,nrE,reduceIte,reduceCtorEq,nrL];with_reducible exact rfl))|((with_reducible first|apply oblA_and|apply oblR_and|apply oblO_and);(focus exact obA))|((with_reducible apply WO_callV);(focus exact topA);(simp only [↓pb,qbs,tb58,eHdg,so,so.1,so.2,lns37 S,f15,f12,f2,hL3,ne_eq,not_true_eq_false,decide_false,hEg,irN,nrA,nrM,nrE,reduceIte,reduceCtorEq,nrL];(exact f103 vs g i4 b L H.n (N + 1) N 0 (restP g) h5 (by exact topA) (S.fr0 hF05) hi hl (by omega) hb q0 q6 ⟨by omega,by omega,by omega⟩ t5));(intro Gq hq hJq;try simp only [upd_n,jn_n] at hq))|(with_reducible first|refine W_regionF lv58 fun K hK=>?_|refine W_drawnF lv58 fun K hK=>?_));try simp only [↓pb,↓pd,qds,tb58,eHdg,so,so.1,so.2,lns37 S,f15,f12,f2,hL3,ne_eq,not_true_eq_false,decide_false,hEg,irN,nrA,nrM,nrE,reduceIte,reduceCtorEq,nrL])|((with_reducible apply W_cond);(simp only [↓pb,qbs,tb58,eHdg,so,so.1,so.2,lns37 S,f15,f12,f2,hL3,ne_eq,not_true_eq_false,decide_false,hEg,irN,nrA,nrM,nrE,reduceIte,reduceCtorEq,nrL];with_reducible exact rfl);all_goals (intro hc;(first|exact hcX hc|try simp only [hcs] at hc)))|(with_reducible first|refine W_seq ?_|refine W_block ?_|refine W_skip ?_|refine W_ret ?_|refine W_exit ?_|apply blockK_exit)|((with_reducible apply blockK_pass);(focus decide))|fail)
    have GQ:=G5.jn hJq
    rw [show ∀ A B C:Option Value,A=none→B=some (iv i4)→C=some (iv i4)→sliceA Try.prog (h5.jn Gq) 27 vp A B C=some vp from fun A B C a b c=>by subst a b c;exact sl_tip GQ hv0]
    rotate_left
    ·rfl
    ·refine congrArg some ?_
     simp only [↓pb,qbs,tb58,eHdg,so,so.1,so.2,lns37 S,hEg,irN,nrA,nrM,nrE,reduceIte,reduceCtorEq,nrL]
    ·refine congrArg some ?_
     simp only [↓pb,qbs,tb58,eHdg,so,so.1,so.2,lns37 S,hEg,irN,nrA,nrM,nrE,reduceIte,reduceCtorEq,nrL]
    have hF15:Fr H.n [] h1 h5:=hF4.trans hF5
    have hgd:=gd_ge (n:=Gq.n + 1) hgg (by omega)
    refine pu27 (n:=i4) (m:=1) (GQ.fr0 Fr.ex) (SR.new rfl) (by omega) (by omega) (by omega) (by exact topA) fun GG=>?_
    have hgd2:=GG.grp_lt
    simp only [upd_n,jn_n] at hgd2
    simp only [upd_n,jn_n,nb] at GG
    simp only [upd_n,jn_n,nb]
    repeat' (first|((with_reducible refine hK _ _ fun e2 hEn=>?_);clear hK K;simp only [lv58,forallC,forallL,and_true] at hEn;(try simp only [↓pb,qbs,tb58,eHdg,so,so.1,so.2,lns37 S,hEg,irN,nrA,nrM,nrE,reduceIte,reduceCtorEq,nrL] at hEn);clear hEg;(try clear eg);have hEg:=hEn;clear hEn;rename Env=>eg)|((first|((with_reducible first|apply oV_intro|apply oH_intro|apply oB_intro);(simp (disch:=try exact dA) only [qcs,tb58,eHdg,so,so.1,so.2,lns37 S,hEg,irN,nrA,nrM,nrE,reduceIte,reduceCtorEq,nrL];with_reducible exact rfl))|((with_reducible first|apply oblA_and|apply oblR_and|apply oblO_and);(focus exact obA))|(with_reducible first|refine W_regionF lv58 fun K hK=>?_|refine W_drawnF lv58 fun K hK=>?_));try simp only [↓pb,↓pd,qds,tb58,eHdg,so,so.1,so.2,lns37 S,hEg,irN,nrA,nrM,nrE,reduceIte,reduceCtorEq,nrL])|((with_reducible apply W_cond);(simp only [↓pb,qbs,tb58,eHdg,so,so.1,so.2,lns37 S,hEg,irN,nrA,nrM,nrE,reduceIte,reduceCtorEq,nrL];with_reducible exact rfl);all_goals (intro hc;(first|exact hcX hc|try simp only [hcs] at hc)))|(with_reducible first|refine W_seq ?_|refine W_block ?_|refine W_skip ?_|refine W_ret ?_|refine W_exit ?_|apply blockK_exit)|((with_reducible apply blockK_pass);(focus decide))|fail)
    refine ⟨by omega,by simp only [↓pb,qbs,tb58,eHdg,so,so.1,so.2,lns37 S,hEg,irN,nrA,nrM,nrE,reduceIte,reduceCtorEq,nrL];exact congrArg _ (inc64 (by omega)),by focus exact frA, ?_⟩
    have e1:ints ((pre ++ [L]).map Int.ofNat)=ints (pre.map Int.ofNat) ++ [iv (L:Int)]:=by unfold ints;rw [List.map_append,List.map_append];rfl
    refine ⟨pre ++ [L],L,_,_,rfl,by simp only [hEg,f15],hL1,by rw [List.length_append,hpl];rfl,by simp only [hEg];rw [e1];exact GG,fun x hx=>by cases hx;exact hgd,.inl (by omega),fun _=>hL5, ?_⟩
    rw [hpp,List.append_assoc]
    obtain ⟨m,hm⟩:∃ m,g.Stock.length - i4=m + 1:=⟨g.Stock.length - i4 - 1,by omega⟩
    have hm2:g.Stock.length - (i4 + 1)=m:=by omega
    rw [hm,hm2]
    show pre ++ (firstL g i4 b (restP g i4 b) 51 0 :: planGo g m (i4 + 1) (firstL g i4 b (restP g i4 b) 51 0))=_
    rw [hL2]
    rfl
  ·have ei:i4=g.Stock.length:=by omega
   rw [ei,Nat.sub_self] at hpp
   have hpp:planP g=pre ++ []:=hpp
   rw [List.append_nil] at hpp
   have f3:e4 3=iv (restP g 0 g.Held.toNat):=by simp only [hEg]
   repeat' (first|((with_reducible refine hK _ _ fun e2 hEn=>?_);clear hK K;simp only [lv58,forallC,forallL,and_true] at hEn;(try simp only [↓pb,qbs,tb58,eHdg,so,so.1,so.2,lns37 S,hEg,irN,nrA,nrM,nrE,reduceIte,reduceCtorEq,nrL] at hEn);clear hEg;(try clear eg);have hEg:=hEn;clear hEn;rename Env=>eg)|((first|((with_reducible first|apply oV_intro|apply oH_intro|apply oB_intro);(simp (disch:=try exact dA) only [qcs,tb58,eHdg,so,so.1,so.2,lns37 S,f2,f3,o4,hEg,irN,nrA,nrM,nrE,reduceIte,reduceCtorEq,nrL];with_reducible exact rfl))|((with_reducible first|apply oblA_and|apply oblR_and|apply oblO_and);(focus exact obA))|(with_reducible first|refine W_regionF lv58 fun K hK=>?_|refine W_drawnF lv58 fun K hK=>?_));try simp only [↓pb,↓pd,qds,tb58,eHdg,so,so.1,so.2,lns37 S,f2,f3,o4,hEg,irN,nrA,nrM,nrE,reduceIte,reduceCtorEq,nrL])|((with_reducible apply W_cond);(simp only [↓pb,qbs,tb58,eHdg,so,so.1,so.2,lns37 S,f2,f3,o4,hEg,irN,nrA,nrM,nrE,reduceIte,reduceCtorEq,nrL];with_reducible exact rfl);all_goals (intro hc;(first|exact hcX hc|try simp only [hcs] at hc)))|(with_reducible first|refine W_seq ?_|refine W_block ?_|refine W_skip ?_|refine W_ret ?_|refine W_exit ?_|apply blockK_exit)|((with_reducible apply blockK_pass);(focus decide))|fail)
   refine ⟨by first|exact .inl rfl|exact .inr rfl, ?_⟩
   rw [ret3 Try.results58]
   simp only [↓pb,qbs,tb58,eHdg,so,so.1,so.2,lns37 S,rv_tmp,rv_cell,hEg,irN,nrA,nrM,nrE,reduceIte,reduceCtorEq,nrL]
   repeat ((with_reducible apply oV_intro);(simp (disch:=try exact dA) only [qcs,tb58,eHdg,so,so.1,so.2,lns37 S,hEg,irN,nrA,nrM,nrE,reduceIte,reduceCtorEq,nrL];exact rfl))
   have e:hedgedP g=(planP g,restP g 0 g.Held.toNat,0):=by rw [hedgedP,if_neg (by omega),if_neg (by unfold never;omega)]
   rw [e]
   refine ⟨⟨_,rfl, ?_⟩,hF04⟩
   rw [hpp]
   dsimp only
   rw [hpl]
   exact G4.sr
 | succ k =>
  have e8:e1 8=iv k:=by rw [e8];exact congrArg iv (show ((k + 1:Nat):Int) - 1=k by omega)
  have hge:(0:Int)≤k:=by omega
  repeat' (first|((with_reducible refine hK _ _ fun e2 hEn=>?_);clear hK K;simp only [lv58,forallC,forallL,and_true] at hEn;(try simp only [↓pb,qbs,tb58,eHdg,so,so.1,so.2,lns37 S,hEg,irN,nrA,nrM,nrE,reduceIte,reduceCtorEq,nrL] at hEn);clear hEg;(try clear eg);have hEg:=hEn;clear hEn;rename Env=>eg)|((first|((with_reducible first|apply oV_intro|apply oH_intro|apply oB_intro);(simp (disch:=try exact dA) only [qcs,tb58,eHdg,so,so.1,so.2,lns37 S,e8,r0,r6,hge,hEg,irN,nrA,nrM,nrE,reduceIte,reduceCtorEq,nrL];with_reducible exact rfl))|((with_reducible first|apply oblA_and|apply oblR_and|apply oblO_and);(focus exact obA))|(with_reducible first|refine W_regionF lv58 fun K hK=>?_|refine W_drawnF lv58 fun K hK=>?_));try simp only [↓pb,↓pd,qds,tb58,eHdg,so,so.1,so.2,lns37 S,e8,r0,r6,hge,hEg,irN,nrA,nrM,nrE,reduceIte,reduceCtorEq,nrL])|((with_reducible apply W_cond);(simp only [↓pb,qbs,tb58,eHdg,so,so.1,so.2,lns37 S,e8,r0,r6,hge,hEg,irN,nrA,nrM,nrE,reduceIte,reduceCtorEq,nrL];with_reducible exact rfl);all_goals (intro hc;(first|exact hcX hc|try simp only [hcs] at hc)))|(with_reducible first|refine W_seq ?_|refine W_block ?_|refine W_skip ?_|refine W_ret ?_|refine W_exit ?_|apply blockK_exit)|((with_reducible apply blockK_pass);(focus decide))|fail)
  refine W_count [1,2,6,7,8] (by kernel_rfl) 35 (51) (H.n) [N] [] (fun i e h=>∃ T,TbH h N (g.Stock.length + 1) T∧(∀ d l,k + 1≤d→d≤g.Stock.length→l < 51→T d l=restP g d l)∧∀ l,l < i→T k l=restP g k l) (by simp only [↓pb,qbs,tb58,eHdg,so,so.1,so.2,lns37 S,hEg,irN,nrA,nrM,nrE,reduceIte,reduceCtorEq,nrL]) (by focus exact topA) (H0:=H) (by focus exact frA) (by intro b hb hlt;simp at hb ⊢;try omega) ?_ ?_
  rotate_left
  intro i2 e2 h2 hi2 hE2 ei2 hF2 hF02 hTh2 hJ2
  simp only [forallC,forallL,and_true] at hE2
  try simp only [↓pb,qbs,tb58,eHdg,so,so.1,so.2,lns37 S,hEg,irN,nrA,nrM,nrE,reduceIte,reduceCtorEq,nrL] at hE2
  have hn12:=hF2.n;have hn02:=hF02.n;try simp only [upd_n,jn_n] at hn12
  replace hEg:=And.intro ei2 hE2
  rotate_left
  ·exact ⟨T1,t1,tr1,fun l q=>by omega⟩
  obtain ⟨T2,t2,tr2,tk2⟩:=hJ2
  have k2:=k1.fr hF2 (by simp;omega) (by simp)
  have q0:h2.rd H.n=some (eHdg vs g):=by rw [rd_def,k2.g0];rfl
  have q6:h2.rd (N + 1)=some [.slice (some ⟨N,0,none⟩) (g.Stock.length + 1) (g.Stock.length + 1)]:=by rw [rd_def,k2.g6];rfl
  rw [eHdg] at q0
  by_cases hi:i2 < 51
  ·repeat' (first|((with_reducible refine hK _ _ fun e2 hEn=>?_);clear hK K;simp only [lv58,forallC,forallL,and_true] at hEn;(try simp only [↓pb,qbs,tb58,eHdg,so,so.1,so.2,lns37 S,hEg,irN,nrA,nrM,nrE,reduceIte,reduceCtorEq,nrL] at hEn);clear hEg;(try clear eg);have hEg:=hEn;clear hEn;rename Env=>eg)|((first|((with_reducible first|apply oV_intro|apply oH_intro|apply oB_intro);(simp (disch:=try exact dA) only [qcs,tb58,eHdg,so,so.1,so.2,lns37 S,e8,q0,q6,hEg,irN,nrA,nrM,nrE,reduceIte,reduceCtorEq,nrL];with_reducible exact rfl))|((with_reducible first|apply oblA_and|apply oblR_and|apply oblO_and);(focus exact obA))|(with_reducible first|refine W_regionF lv58 fun K hK=>?_|refine W_drawnF lv58 fun K hK=>?_));try simp only [↓pb,↓pd,qds,tb58,eHdg,so,so.1,so.2,lns37 S,e8,q0,q6,hEg,irN,nrA,nrM,nrE,reduceIte,reduceCtorEq,nrL])|((with_reducible apply W_cond);(simp only [↓pb,qbs,tb58,eHdg,so,so.1,so.2,lns37 S,e8,q0,q6,hEg,irN,nrA,nrM,nrE,reduceIte,reduceCtorEq,nrL];with_reducible exact rfl);all_goals (intro hc;(first|exact hcX hc|try simp only [hcs] at hc)))|(with_reducible first|refine W_seq ?_|refine W_block ?_|refine W_skip ?_|refine W_ret ?_|refine W_exit ?_|apply blockK_exit)|((with_reducible apply blockK_pass);(focus decide))|fail)
   refine W_count [1,2,6,7,8,9,35] (by kernel_rfl) 38 (51) (H.n) [] [] (fun i e h=>e 10=iv (bestP g T2 k i2 i)) (by simp only [↓pb,qbs,tb58,eHdg,so,so.1,so.2,lns37 S,hEg,irN,nrA,nrM,nrE,reduceIte,reduceCtorEq,nrL]) (by focus exact topA) (H0:=H) (by focus exact frA) (by intro b hb hlt;simp at hb ⊢;try omega) ?_ ?_
   rotate_left
   intro i3 e3 h3 hi3 hE3 ei3 hF3 hF03 hTh3 hJ3
   simp only [forallC,forallL,and_true] at hE3
   try simp only [↓pb,qbs,tb58,eHdg,so,so.1,so.2,lns37 S,hEg,irN,nrA,nrM,nrE,reduceIte,reduceCtorEq,nrL] at hE3
   have hn13:=hF3.n;have hn03:=hF03.n;try simp only [upd_n,jn_n] at hn13
   replace hEg:=And.intro ei3 hE3
   rotate_left
   ·simp only [↓pb,qbs,tb58,eHdg,so,so.1,so.2,lns37 S,hEg,irN,nrA,nrM,nrE,reduceIte,reduceCtorEq,nrL]
    rfl
   have k3:=k2.fr hF3 (by simp) (by simp)
   have t3:=t2.fr hF3 (by omega) (by simp)
   have q0:h3.rd H.n=some (eHdg vs g):=by rw [rd_def,k3.g0];rfl
   have q6:h3.rd (N + 1)=some [.slice (some ⟨N,0,none⟩) (g.Stock.length + 1) (g.Stock.length + 1)]:=by rw [rd_def,k3.g6];rfl
   have l3:=k3.lt
   by_cases hi:i3 < 51
   ·repeat' (first|((with_reducible refine hK _ _ fun e2 hEn=>?_);clear hK K;simp only [lv58,forallC,forallL,and_true] at hEn;(try simp only [↓pb,qbs,tb58,eHdg,so,so.1,so.2,lns37 S,hEg,irN,nrA,nrM,nrE,reduceIte,reduceCtorEq,nrL] at hEn);clear hEg;(try clear eg);have hEg:=hEn;clear hEn;rename Env=>eg)|((first|((with_reducible first|apply oV_intro|apply oH_intro|apply oB_intro);(simp (disch:=try exact dA) only [qcs,tb58,eHdg,so,so.1,so.2,lns37 S,e8,hJ3,hEg,irN,nrA,nrM,nrE,reduceIte,reduceCtorEq,nrL];with_reducible exact rfl))|((with_reducible first|apply oblA_and|apply oblR_and|apply oblO_and);(focus exact obA))|((with_reducible apply WO_callV);(focus exact topA);(simp only [↓pb,qbs,tb58,eHdg,so,so.1,so.2,lns37 S,e8,hJ3,hEg,irN,nrA,nrM,nrE,reduceIte,reduceCtorEq,nrL];(exact f103 vs g k i2 i3 H.n (N + 1) N 0 T2 h3 (by exact topA) (S.fr0 hF03) (by omega) hl hi (by omega) q0 q6 ⟨by omega,by omega,by omega⟩ t3));(intro Gq hq hJq;try simp only [upd_n,jn_n] at hq))|(with_reducible first|refine W_regionF lv58 fun K hK=>?_|refine W_drawnF lv58 fun K hK=>?_));try simp only [↓pb,↓pd,qds,tb58,eHdg,so,so.1,so.2,lns37 S,e8,hJ3,hEg,irN,nrA,nrM,nrE,reduceIte,reduceCtorEq,nrL])|((with_reducible apply W_cond);(simp only [↓pb,qbs,tb58,eHdg,so,so.1,so.2,lns37 S,e8,hJ3,hEg,irN,nrA,nrM,nrE,reduceIte,reduceCtorEq,nrL];with_reducible exact rfl);all_goals (intro hc;(first|exact hcX hc|try simp only [hcs] at hc)))|(with_reducible first|refine W_seq ?_|refine W_block ?_|refine W_skip ?_|refine W_ret ?_|refine W_exit ?_|apply blockK_exit)|((with_reducible apply blockK_pass);(focus decide))|fail)
    refine ⟨by omega,by simp only [↓pb,qbs,tb58,eHdg,so,so.1,so.2,lns37 S,hEg,irN,nrA,nrM,nrE,reduceIte,reduceCtorEq,nrL];exact congrArg _ (inc64 (by omega)),by focus exact frA, ?_⟩
    simp only [hEg]
    rfl
   ·have e51:i3=51:=by omega
    subst e51
    have hF13:Fr H.n [N] h1 h3:=hF2.trans (hF3.mono (Nat.le_refl _) (by simp))
    obtain ⟨c,gc,cl,ce⟩:=t3
    have qN:h3.rd N=some c:=by rw [rd_def,gc];rfl
    have hlt:k * 51 + i2 < c.length:=by omega
    repeat' (first|((with_reducible refine hK _ _ fun e2 hEn=>?_);clear hK K;simp only [lv58,forallC,forallL,and_true] at hEn;(try simp only [↓pb,qbs,tb58,eHdg,so,so.1,so.2,lns37 S,hEg,irN,nrA,nrM,nrE,reduceIte,reduceCtorEq,nrL] at hEn);clear hEg;(try clear eg);have hEg:=hEn;clear hEn;rename Env=>eg)|((first|((with_reducible first|apply oV_intro|apply oH_intro|apply oB_intro);(simp (disch:=try exact dA) only [qcs,tb58,eHdg,so,so.1,so.2,lns37 S,e8,q0,q6,hJ3,qN,gc,Nat.mul_one,Nat.zero_add,hEg,irN,nrA,nrM,nrE,reduceIte,reduceCtorEq,nrL];with_reducible exact rfl))|((with_reducible first|apply oblA_and|apply oblR_and|apply oblO_and);(focus exact obA))|(with_reducible first|refine W_regionF lv58 fun K hK=>?_|refine W_drawnF lv58 fun K hK=>?_));try simp only [↓pb,↓pd,qds,tb58,eHdg,so,so.1,so.2,lns37 S,e8,q0,q6,hJ3,qN,gc,Nat.mul_one,Nat.zero_add,hEg,irN,nrA,nrM,nrE,reduceIte,reduceCtorEq,nrL])|((with_reducible apply W_cond);(simp only [↓pb,qbs,tb58,eHdg,so,so.1,so.2,lns37 S,e8,q0,q6,hJ3,qN,gc,Nat.mul_one,Nat.zero_add,hEg,irN,nrA,nrM,nrE,reduceIte,reduceCtorEq,nrL];with_reducible exact rfl);all_goals (intro hc;(first|exact hcX hc|try simp only [hcs] at hc)))|(with_reducible first|refine W_seq ?_|refine W_block ?_|refine W_skip ?_|refine W_ret ?_|refine W_exit ?_|apply blockK_exit)|((with_reducible apply blockK_pass);(focus decide))|fail)
    refine ⟨by omega,by simp only [↓pb,qbs,tb58,eHdg,so,so.1,so.2,lns37 S,hEg,irN,nrA,nrM,nrE,reduceIte,reduceCtorEq,nrL];exact congrArg _ (inc64 (by omega)),by focus exact frA, ?_⟩
    have tp:TbH h3 N (g.Stock.length + 1) T2:=⟨c,gc,cl,ce⟩
    refine ⟨_,tp.put (d:=k) (l:=i2) (x:=bestP g T2 k i2 51) (by omega) (by omega) gc, ?_, ?_⟩
    ·intro d l h1 h2 h3
     rw [if_neg (by omega)]
     exact tr2 d l h1 h2 h3
    ·intro l hl
     by_cases e:l=i2
     ·rw [if_pos ⟨rfl,e⟩,e,restP_eq (by omega)]
      exact bestP_congr fun m hm=>tr2 (k + 1) m (by omega) (by omega) hm
     ·rw [if_neg (by omega)]
      exact tk2 l (by omega)
  ·have e51:i2=51:=by omega
   subst e51
   repeat' (first|((with_reducible refine hK _ _ fun e2 hEn=>?_);clear hK K;simp only [lv58,forallC,forallL,and_true] at hEn;(try simp only [↓pb,qbs,tb58,eHdg,so,so.1,so.2,lns37 S,hEg,irN,nrA,nrM,nrE,reduceIte,reduceCtorEq,nrL] at hEn);clear hEg;(try clear eg);have hEg:=hEn;clear hEn;rename Env=>eg)|((first|((with_reducible first|apply oV_intro|apply oH_intro|apply oB_intro);(simp (disch:=try exact dA) only [qcs,tb58,eHdg,so,so.1,so.2,lns37 S,e8,hEg,irN,nrA,nrM,nrE,reduceIte,reduceCtorEq,nrL];with_reducible exact rfl))|((with_reducible first|apply oblA_and|apply oblR_and|apply oblO_and);(focus exact obA))|(with_reducible first|refine W_regionF lv58 fun K hK=>?_|refine W_drawnF lv58 fun K hK=>?_));try simp only [↓pb,↓pd,qds,tb58,eHdg,so,so.1,so.2,lns37 S,e8,hEg,irN,nrA,nrM,nrE,reduceIte,reduceCtorEq,nrL])|((with_reducible apply W_cond);(simp only [↓pb,qbs,tb58,eHdg,so,so.1,so.2,lns37 S,e8,hEg,irN,nrA,nrM,nrE,reduceIte,reduceCtorEq,nrL];with_reducible exact rfl);all_goals (intro hc;(first|exact hcX hc|try simp only [hcs] at hc)))|(with_reducible first|refine W_seq ?_|refine W_block ?_|refine W_skip ?_|refine W_ret ?_|refine W_exit ?_|apply blockK_exit)|((with_reducible apply blockK_pass);(focus decide))|fail)
   refine ⟨k,by omega,by exact frA, ?_,by omega,T2,t2,fun d l h1 h2 h3=>?_⟩
   ·simp only [hEg]
    exact congrArg _ (wrap64 (by omega) (by omega))
   ·by_cases e:d=k
    ·subst e
     exact tk2 l h3
    ·exact tr2 d l (by omega) h2 h3
theorem ba_get {s:ByteArray} {i:Nat} (h:i < s.size):s[i]? = some (s.data.toList.getD i 0):=by
 have h2:i < s.data.toList.length:=by simpa using h
 rw [List.getD_eq_getElem?_getD,List.getElem?_eq_getElem h2,Option.getD_some,getElem?_pos s i h]
 simp [ByteArray.getElem_eq_getElem_data]
theorem ixs {s:ByteArray} {i:Nat} {k:IntKind} (h:i < s.size):indexA Try.prog 9 (.string s) (.int k i)=some (.int .u8 (chr s i)):=by
 unfold indexA
 rw [und9]
 dsimp only
 rw [if_pos (by omega),Int.toNat_natCast,ba_get h]
 rfl
theorem f89 (code read:ByteArray) (H:AHeap) (hT:Top H) (hc:code.size < 1000000):∃ v H',C8 (.fn 89) #[.string code,.string read] H v H'∧v=.bool (fitP code read)∧H'=H:=by
 refine Cl.ofW Try.func89 rfl (by kernel_rfl) (by rw [Try.ntmps89];exact Nat.le_of_ble_eq_true rfl) (by kernel_rfl) ?_
 have hEg:True:=trivial
 refine gcW [0,1] ?_
 intro eg hEn
 simp only [forallC,forallL,and_true] at hEn
 try simp only [↓pb,qbs,tb89,hEg,irN,nrA,nrM,nrE,reduceIte,reduceCtorEq,nrL] at hEn
 replace hEg:=hEn;clear hEn
 repeat' (first|((with_reducible refine hK _ _ fun e2 hEn=>?_);clear hK K;simp only [lv89,forallC,forallL,and_true] at hEn;(try simp only [↓pb,qbs,tb89,hEg,irN,nrA,nrM,nrE,reduceIte,reduceCtorEq,nrL] at hEn);clear hEg;(try clear eg);have hEg:=hEn;clear hEn;rename Env=>eg)|((first|((with_reducible first|apply oV_intro|apply oH_intro|apply oB_intro);(simp (disch:=try exact dA) only [qcs,tb89,hEg,irN,nrA,nrM,nrE,reduceIte,reduceCtorEq,nrL];with_reducible exact rfl))|((with_reducible first|apply oblA_and|apply oblR_and|apply oblO_and);(focus exact obA))|(with_reducible first|refine W_regionF lv89 fun K hK=>?_|refine W_drawnF lv89 fun K hK=>?_));try simp only [↓pb,↓pd,qds,tb89,hEg,irN,nrA,nrM,nrE,reduceIte,reduceCtorEq,nrL])|((first|((with_reducible first|apply WO_gT|apply WO_gF|apply WD_gT|apply WD_gF);exact rfl)|(with_reducible apply W_cond));(simp only [↓pb,qbs,tb89,hEg,irN,nrA,nrM,nrE,reduceIte,reduceCtorEq,nrL];with_reducible exact rfl);all_goals (intro hc;(first|exact hcX hc|try simp only [hcs] at hc);try ((with_reducible first|apply woI|apply wdI);simp only [↓pb,↓pd,qds,tb89,hc,hEg,irN,nrA,nrM,nrE,reduceIte,reduceCtorEq,nrL])))|(with_reducible first|refine W_seq ?_|refine W_block ?_|refine W_skip ?_|refine W_ret ?_|refine W_exit ?_|apply blockK_exit)|((with_reducible apply blockK_pass);(focus decide))|fail)
 refine W_while [0,1] (by kernel_rfl) (H.n) [] [] (fun s e h=>e 6=iv (Int.ofNat (code.size - s))∧s≤code.size∧h=H∧e 5=.bool (decide (code.size=read.size) && fitGo code read (code.size - s))) (fun s=>s) (code.size) (by focus exact topA) (H0:=H) (by focus exact frA) (by intro b hb hlt;simp at hb ⊢;try omega) ?_ ?_
 rotate_left
 intro s1 e1 h1 hE1 hF1 hF01 hTh1 hJ1
 simp only [forallC,forallL,and_true] at hE1
 try simp only [↓pb,qbs,tb89,hEg,irN,nrA,nrM,nrE,reduceIte,reduceCtorEq,nrL] at hE1
 have hn11:=hF1.n;have hn01:=hF01.n;try simp only [upd_n,jn_n] at hn11
 replace hEg:=hE1
 rotate_left
 ·refine ⟨?_,Nat.le_refl _,rfl, ?_⟩
  ·simp only [hEg,Nat.sub_self]
   rfl
  ·simp only [hEg,Nat.sub_self,fitGo,Bool.and_true]
   congr 1
   simp only [Int.natCast_inj]
 obtain ⟨f6,hs,rfl,f5⟩:=hJ1
 have f6:e1 6=iv ((code.size - s1:Nat):Int):=f6
 cases hv:(decide (code.size=read.size) && fitGo code read (code.size - s1)) with
 | false =>
  rw [hv] at f5
  repeat' (first|((with_reducible refine hK _ _ fun e2 hEn=>?_);clear hK K;simp only [lv89,forallC,forallL,and_true] at hEn;(try simp only [↓pb,qbs,tb89,hEg,irN,nrA,nrM,nrE,reduceIte,reduceCtorEq,nrL] at hEn);clear hEg;(try clear eg);have hEg:=hEn;clear hEn;rename Env=>eg)|((first|((with_reducible first|apply oV_intro|apply oH_intro|apply oB_intro);(simp (disch:=try exact dA) only [qcs,tb89,f5,f6,hEg,irN,nrA,nrM,nrE,reduceIte,reduceCtorEq,nrL];with_reducible exact rfl))|((with_reducible first|apply oblA_and|apply oblR_and|apply oblO_and);(focus exact obA))|(with_reducible first|refine W_regionF lv89 fun K hK=>?_|refine W_drawnF lv89 fun K hK=>?_));try simp only [↓pb,↓pd,qds,tb89,f5,f6,hEg,irN,nrA,nrM,nrE,reduceIte,reduceCtorEq,nrL])|((first|((with_reducible first|apply WO_gT|apply WO_gF|apply WD_gT|apply WD_gF);exact rfl)|(with_reducible apply W_cond));(simp only [↓pb,qbs,tb89,f5,f6,hEg,irN,nrA,nrM,nrE,reduceIte,reduceCtorEq,nrL];with_reducible exact rfl);all_goals (intro hc;(first|exact hcX hc|try simp only [hcs] at hc);try ((with_reducible first|apply woI|apply wdI);simp only [↓pb,↓pd,qds,tb89,f5,f6,hc,hEg,irN,nrA,nrM,nrE,reduceIte,reduceCtorEq,nrL])))|(with_reducible first|refine W_seq ?_|refine W_block ?_|refine W_skip ?_|refine W_ret ?_|refine W_exit ?_|apply blockK_exit)|((with_reducible apply blockK_pass);(focus decide))|fail)
  refine ⟨by first|exact .inl rfl|exact .inr rfl, ?_⟩
  rw [ret1 Try.results89]
  simp only [↓pb,qbs,tb89,rv_tmp,rv_cell,hEg,irN,nrA,nrM,nrE,reduceIte,reduceCtorEq,nrL]
  repeat ((with_reducible apply oV_intro);(simp (disch:=try exact dA) only [qcs,tb89,hEg,irN,nrA,nrM,nrE,reduceIte,reduceCtorEq,nrL];exact rfl))
  have e:fitP code read=false:=by
   unfold fitP
   cases hd:decide (code.size=read.size) with
   | false=>rfl
   | true =>
    rw [hd] at hv
    exact fitGo_false hv (by omega)
  rw [e]
 | true =>
  rw [hv] at f5
  obtain ⟨v1,v2⟩:=Bool.and_eq_true_iff.1 hv
  have v1:=of_decide_eq_true v1
  cases s1 with
  | zero =>
   have hcc:¬ ((code.size - 0:Nat):Int) < code.size:=by omega
   repeat' (first|((with_reducible refine hK _ _ fun e2 hEn=>?_);clear hK K;simp only [lv89,forallC,forallL,and_true] at hEn;(try simp only [↓pb,qbs,tb89,hEg,irN,nrA,nrM,nrE,reduceIte,reduceCtorEq,nrL] at hEn);clear hEg;(try clear eg);have hEg:=hEn;clear hEn;rename Env=>eg)|((first|((with_reducible first|apply oV_intro|apply oH_intro|apply oB_intro);(simp (disch:=try exact dA) only [qcs,tb89,f5,f6,hcc,hEg,irN,nrA,nrM,nrE,reduceIte,reduceCtorEq,nrL];with_reducible exact rfl))|((with_reducible first|apply oblA_and|apply oblR_and|apply oblO_and);(focus exact obA))|(with_reducible first|refine W_regionF lv89 fun K hK=>?_|refine W_drawnF lv89 fun K hK=>?_));try simp only [↓pb,↓pd,qds,tb89,f5,f6,hcc,hEg,irN,nrA,nrM,nrE,reduceIte,reduceCtorEq,nrL])|((first|((with_reducible first|apply WO_gT|apply WO_gF|apply WD_gT|apply WD_gF);exact rfl)|(with_reducible apply W_cond));(simp only [↓pb,qbs,tb89,f5,f6,hcc,hEg,irN,nrA,nrM,nrE,reduceIte,reduceCtorEq,nrL];with_reducible exact rfl);all_goals (intro hc;(first|exact hcX hc|try simp only [hcs] at hc);try ((with_reducible first|apply woI|apply wdI);simp only [↓pb,↓pd,qds,tb89,f5,f6,hcc,hc,hEg,irN,nrA,nrM,nrE,reduceIte,reduceCtorEq,nrL])))|(with_reducible first|refine W_seq ?_|refine W_block ?_|refine W_skip ?_|refine W_ret ?_|refine W_exit ?_|apply blockK_exit)|((with_reducible apply blockK_pass);(focus decide))|fail)
   refine ⟨by first|exact .inl rfl|exact .inr rfl, ?_⟩
   rw [ret1 Try.results89]
   simp only [↓pb,qbs,tb89,rv_tmp,rv_cell,hEg,irN,nrA,nrM,nrE,reduceIte,reduceCtorEq,nrL]
   repeat ((with_reducible apply oV_intro);(simp (disch:=try exact dA) only [qcs,tb89,hEg,irN,nrA,nrM,nrE,reduceIte,reduceCtorEq,nrL];exact rfl))
   have e:fitP code read=true:=by
    unfold fitP
    rw [decide_eq_true v1]
    exact v2
   rw [e]
  | succ s =>
   have hcc:((code.size - (s + 1):Nat):Int) < code.size:=by omega
   repeat' (first|((with_reducible refine hK _ _ fun e2 hEn=>?_);clear hK K;simp only [lv89,forallC,forallL,and_true] at hEn;(try simp only [↓pb,qbs,tb89,hEg,irN,nrA,nrM,nrE,reduceIte,reduceCtorEq,nrL] at hEn);clear hEg;(try clear eg);have hEg:=hEn;clear hEn;rename Env=>eg)|((first|((with_reducible first|apply oV_intro|apply oH_intro|apply oB_intro);(simp (disch:=try exact dA) only [qcs,tb89,f5,f6,hcc,ixs (s:=code) (i:=code.size - (s + 1)) (by omega),ixs (s:=read) (i:=code.size - (s + 1)) (by omega),hEg,irN,nrA,nrM,nrE,reduceIte,reduceCtorEq,nrL];with_reducible exact rfl))|((with_reducible first|apply oblA_and|apply oblR_and|apply oblO_and);(focus exact obA))|(with_reducible first|refine W_regionF lv89 fun K hK=>?_|refine W_drawnF lv89 fun K hK=>?_));try simp only [↓pb,↓pd,qds,tb89,f5,f6,hcc,ixs (s:=code) (i:=code.size - (s + 1)) (by omega),ixs (s:=read) (i:=code.size - (s + 1)) (by omega),hEg,irN,nrA,nrM,nrE,reduceIte,reduceCtorEq,nrL])|((first|((with_reducible first|apply WO_gT|apply WO_gF|apply WD_gT|apply WD_gF);exact rfl)|(with_reducible apply W_cond));(simp only [↓pb,qbs,tb89,f5,f6,hcc,ixs (s:=code) (i:=code.size - (s + 1)) (by omega),ixs (s:=read) (i:=code.size - (s + 1)) (by omega),hEg,irN,nrA,nrM,nrE,reduceIte,reduceCtorEq,nrL];with_reducible exact rfl);all_goals (intro hc;(first|exact hcX hc|try simp only [hcs] at hc);try ((with_reducible first|apply woI|apply wdI);simp only [↓pb,↓pd,qds,tb89,f5,f6,hcc,ixs (s:=code) (i:=code.size - (s + 1)) (by omega),ixs (s:=read) (i:=code.size - (s + 1)) (by omega),hc,hEg,irN,nrA,nrM,nrE,reduceIte,reduceCtorEq,nrL])))|(with_reducible first|refine W_seq ?_|refine W_block ?_|refine W_skip ?_|refine W_ret ?_|refine W_exit ?_|apply blockK_exit)|((with_reducible apply blockK_pass);(focus decide))|fail)
   all_goals (
   have en:code.size - s=(code.size - (s + 1)) + 1:=by omega
   refine ⟨s,by omega,Fr.refl _, ?_,by omega,rfl, ?_⟩
   ·simp only [hEg]
    refine congrArg iv ?_
    show IntKind.i64.wrap (((code.size - (s + 1):Nat):Int) + 1)=((code.size - s:Nat):Int)
    rw [wrap64 (by omega) (by omega)]
    omega
   ·simp only [hEg]
    rw [en,fitGo,v2,decide_eq_true v1]
    simp only [Bool.true_and]
    first
     | (rw [decide_eq_true (show chr read (code.size - (s + 1))=63 by omega)];rfl)
     | (rw [decide_eq_false (show ¬ chr read (code.size - (s + 1))=63 by omega)];simp only [Bool.false_or,Int.natCast_inj])
   )
structure ByH (H h:AHeap) (o:List UInt8):Prop where
 n:h.n=H.n + 1
 old:∀ c,c≠H.n→h.get c=H.get c
 g:h.get H.n=.cells (u8s o) 5 (.gr H.n 1 true)
theorem ByH.top {H h:AHeap} {o:List UInt8} (k:ByH H h o) (hT:Top H):Top h:=by
 refine ⟨fun b hb=>?_,fun b=>?_⟩
 ·have:=k.n
  rw [k.old b (by omega)]
  exact hT.1 b (by omega)
 ·intro d T g e l hh
  by_cases e:b=H.n
  ·subst e
   rw [k.g] at hh
   cases hh
   exact Nat.le_refl _
  ·rw [k.old b e] at hh
   exact hT.2 b _ _ _ _ _ hh
theorem ByH.fr {H h h':AHeap} {o o':List UInt8} (k:ByH H h o) (k':ByH H h' o') (hT:Top H):Fr H.n [H.n] h h':=by
 refine ⟨by rw [k.n,k'.n];exact Nat.le_refl _,fun b hb hx=>?_,fun b c T g e l hg hl=>?_,fun _=>k'.top hT⟩
 ·have hx:b≠H.n:=by simpa using hx
  rw [k'.old b hx,k.old b hx]
 ·by_cases e:b=H.n
  ·subst e
   rw [k'.g] at hg
   cases hg
   omega
  ·rw [k'.old b e] at hg
   rw [k'.old b e,k.old b e]
theorem ByH.fr0 {H h:AHeap} {o:List UInt8} (k:ByH H h o) (hT:Top H):Fr H.n [] H h:=by
 refine ⟨by rw [k.n];exact Nat.le_succ _,fun b hb hx=>k.old b (by omega),fun b c T g e l hg hl=>?_,fun _=>k.top hT⟩
 by_cases e:b=H.n
 ·subst e
  rw [k.g] at hg
  cases hg
  omega
 ·rw [k.old b e]
theorem u8s_splice {o:List UInt8} {i:Nat} {x:UInt8} (hi:i < o.length):splice (u8s o) i [.int .u8 x.toNat]=u8s (o.set i x):=by
 unfold splice u8s
 rw [List.set_eq_take_append_cons_drop,if_pos hi]
 simp
theorem ByH.put {H h:AHeap} {o:List UInt8} (k:ByH H h o) (hT:Top H) {i:Nat} {x:UInt8} (hi:i < o.length):ByH H (kp h H.n H.n (.cells (splice (u8s o) i [.int .u8 x.toNat]) 5 (.gr H.n 1 true))) (o.set i x):=by
 refine ⟨k.n,fun c hc=>?_, ?_⟩
 ·rw [kp_not hc,k.old c hc]
  intro d T e l q
  rw [k.old c hc] at q
  have:=hT.2 c _ _ _ _ _ q
  by_cases hcn:c < H.n
  ·omega
  ·rw [hT.1 c (by omega)] at q
   cases q
 ·rw [kp_same,u8s_splice hi]
theorem u8s_at {o:List UInt8} {i:Nat} (hi:i < o.length):(u8s o)[i]? = some (.int .u8 (oAt o i)):=by
 unfold u8s oAt
 rw [List.getElem?_map,List.getElem?_eq_getElem hi,List.getD_eq_getElem?_getD,List.getElem?_eq_getElem hi]
 rfl
theorem f88w (vr:Value) (R:List ByteArray) (L:List RoB) (S:SR (heapOf L) 1 R.length vr (R.map .string)) (h0:0 < R.length) (hl:R.length < 1000000) (hz:∀ i,i < R.length→(R.getD i default).size=(R.getD 0 default).size) (hz0:(R.getD 0 default).size < 1000000)
  {w:World} {args':Array Value} (hL:∀ r,r∈L→RoOk w r) (ha:ARel (renOf w L) #[vr] args') :
  Calls Try.prog 88 args' w fun e w'=>e=.returned (mVal (mergedP R))∧Go.RowKit.Below w.heap.size w w':=by
 have hT:=top_heapOf L
 have so:=S.one
 have sel:∀ i,i < R.length→(R.map Value.string)[i]? = some (.string (R.getD i default)):=fun i hi=>by rw [List.getElem?_map,List.getElem?_eq_getElem hi,List.getD_eq_getElem?_getD,List.getElem?_eq_getElem hi];rfl
 generalize hH:heapOf L=H at hT S
 -- F88
 refine dw_calls (C:=C8) Try.func88 rfl (by rw [Try.ntmps88];exact Nat.le_of_ble_eq_true rfl) (by kernel_rfl) (by unfold mVal;split <;> simp [flatR,dflat,flat]) hL ha ?_
 rw [hH]
 refine DW.seqW mix8 C8.sim C8.top ?_
 have hEg:True:=trivial
 refine gcW [0] ?_
 intro eg hEn
 simp only [forallC,forallL,and_true] at hEn
 simp only [↓pb,qbs,tb88,so,so.1,so.2,lns63 S,hEg,irN,nrA,nrM,nrE,reduceIte,reduceCtorEq,nrL] at hEn
 replace hEg:=hEn
 clear hEn
 repeat' (first|((with_reducible refine hK _ _ fun e2 hEn=>?_);clear hK K;simp only [lv88,forallC,forallL,and_true] at hEn;(try simp only [↓pb,qbs,tb88,so,so.1,so.2,lns63 S,hEg,irN,nrA,nrM,nrE,reduceIte,reduceCtorEq,nrL] at hEn);clear hEg;(try clear eg);have hEg:=hEn;clear hEn;rename Env=>eg)|((first|((with_reducible first|apply oV_intro|apply oH_intro|apply oB_intro);(simp (disch:=try exact dA) only [qcs,tb88,so,so.1,so.2,lns63 S,hEg,irN,nrA,nrM,nrE,reduceIte,reduceCtorEq,nrL];with_reducible exact rfl))|((with_reducible first|apply oblA_and|apply oblR_and|apply oblO_and);(focus exact obA))|(with_reducible first|refine W_regionF lv88 fun K hK=>?_|refine W_drawnF lv88 fun K hK=>?_));try simp only [↓pb,↓pd,qds,tb88,so,so.1,so.2,lns63 S,hEg,irN,nrA,nrM,nrE,reduceIte,reduceCtorEq,nrL])|((first|((with_reducible first|apply WO_gT|apply WO_gF|apply WD_gT|apply WD_gF);exact rfl)|(with_reducible apply W_cond));(simp only [↓pb,qbs,tb88,so,so.1,so.2,lns63 S,hEg,irN,nrA,nrM,nrE,reduceIte,reduceCtorEq,nrL];with_reducible exact rfl);all_goals (intro hc;(first|exact hcX hc|try simp only [hcs] at hc);try ((with_reducible first|apply woI|apply wdI);simp only [↓pb,↓pd,qds,tb88,so,so.1,so.2,lns63 S,hc,hEg,irN,nrA,nrM,nrE,reduceIte,reduceCtorEq,nrL])))|(with_reducible first|refine W_seq ?_|refine W_block ?_|refine W_skip ?_|refine W_ret ?_|refine W_exit ?_|apply blockK_exit)|((with_reducible apply blockK_pass);(focus decide))|fail)
 refine ⟨rfl, ?_⟩
 refine DW.seq (DW.s2b C8.sim C8.top (pre:=[_,_,_]) (post:=[_]) rfl rfl rfl und9 und131 und5 (WO.intro fun K hK=>?_))
 have e0:=S.el1 rfl
 have hn0:(0:Int) < R.length:=by omega
 have e00:(dOf H vr)[voff vr]? = some (.string (R.getD 0 default)):=by have:=e0.2 0 h0;rwa [Nat.add_zero] at this
 have r00:H.rd (vblk vr)=some (dOf H vr):=S.rd (by omega)
 simp only [↓pb,↓pd,qds,tb88,so,so.1,so.2,lns63 S,ias63 S,r00,e00,hEg,irN,nrA,nrM,nrE,reduceIte,reduceCtorEq,nrL]
 repeat' (first|((with_reducible refine hK _ _ fun e2 hEn=>?_);clear hK K;simp only [lv88,forallC,forallL,and_true] at hEn;(try simp only [↓pb,qbs,tb88,so,so.1,so.2,lns63 S,hEg,irN,nrA,nrM,nrE,reduceIte,reduceCtorEq,nrL] at hEn);clear hEg;(try clear eg);have hEg:=hEn;clear hEn;rename Env=>eg)|((first|((with_reducible first|apply oV_intro|apply oH_intro|apply oB_intro);(simp (disch:=try exact dA) only [qcs,tb88,so,so.1,so.2,lns63 S,ias63 S,r00,e00,hEg,irN,nrA,nrM,nrE,reduceIte,reduceCtorEq,nrL];with_reducible exact rfl))|((with_reducible first|apply oblA_and|apply oblR_and|apply oblO_and);(focus exact obA))|(with_reducible first|refine W_regionF lv88 fun K hK=>?_|refine W_drawnF lv88 fun K hK=>?_));try simp only [↓pb,↓pd,qds,tb88,so,so.1,so.2,lns63 S,ias63 S,r00,e00,hEg,irN,nrA,nrM,nrE,reduceIte,reduceCtorEq,nrL])|((first|((with_reducible first|apply WO_gT|apply WO_gF|apply WD_gT|apply WD_gF);exact rfl)|(with_reducible apply W_cond));(simp only [↓pb,qbs,tb88,so,so.1,so.2,lns63 S,ias63 S,r00,e00,hEg,irN,nrA,nrM,nrE,reduceIte,reduceCtorEq,nrL];with_reducible exact rfl);all_goals (intro hc;(first|exact hcX hc|try simp only [hcs] at hc);try ((with_reducible first|apply woI|apply wdI);simp only [↓pb,↓pd,qds,tb88,so,so.1,so.2,lns63 S,ias63 S,r00,e00,hc,hEg,irN,nrA,nrM,nrE,reduceIte,reduceCtorEq,nrL])))|(with_reducible first|refine W_seq ?_|refine W_block ?_|refine W_skip ?_|refine W_ret ?_|refine W_exit ?_|apply blockK_exit)|((with_reducible apply blockK_pass);(focus decide))|fail)
 refine hK _ _ ⟨R.getD 0 default, ?_, ?_⟩
 ·simp only [↓pb,qbs,tb88,so,so.1,so.2,lns63 S,hEg,irN,nrA,nrM,nrE,reduceIte,reduceCtorEq,nrL]
 clear hK
 refine WO.intro fun K hK=>?_
 simp only [↓pb,↓pd,qds,tb88,so,so.1,so.2,lns63 S,hEg,irN,nrA,nrM,nrE,reduceIte,reduceCtorEq,nrL]
 refine hK _ _ ⟨fun _=>?_,fun h=>absurd rfl h⟩
 clear hK
 obtain ⟨hh,hE⟩:∃ hh,hh=H.upd (H.n + 1) H.n (AObj.cells (u8s (R.getD 0 default).data.toList) 5 (Kd.gr H.n 1 true)):=⟨_,rfl⟩
 have kb:ByH H hh (R.getD 0 default).data.toList:=by
  subst hE
  exact ⟨rfl,fun c hc=>upd_get_ne hc,upd_get_same⟩
 rw [← hE]
 clear hE
 generalize hEv:Env.put _ _ _=e0
 have f0:e0 0=vr:=by rw [← hEv];simp only [↓pb,qbs,tb88,so,so.1,so.2,lns63 S,hEg,irN,nrA,nrM,nrE,reduceIte,reduceCtorEq,nrL]
 have f4:e0 4=.slice (some ⟨H.n,0,none⟩) (R.getD 0 default).size (R.getD 0 default).size:=by rw [← hEv];simp only [↓pb,qbs,tb88,so,so.1,so.2,lns63 S,hEg,irN,nrA,nrM,nrE,reduceIte,reduceCtorEq,nrL]
 clear hEv hEg
 have hEg:=And.intro f0 f4
 refine DW.seq (DW.ofW mix8 C8.sim C8.top ?_)
 have kT:=kb.top hT
 have hFb:=kb.fr0 hT
 repeat' (first|((with_reducible refine hK _ _ fun e2 hEn=>?_);clear hK K;simp only [lv88,forallC,forallL,and_true] at hEn;(try simp only [↓pb,qbs,tb88,so,so.1,so.2,lns63 S,hEg,irN,nrA,nrM,nrE,reduceIte,reduceCtorEq,nrL] at hEn);clear hEg;(try clear eg);have hEg:=hEn;clear hEn;rename Env=>eg)|((first|((with_reducible first|apply oV_intro|apply oH_intro|apply oB_intro);(simp (disch:=try exact dA) only [qcs,tb88,so,so.1,so.2,lns63 S,hEg,irN,nrA,nrM,nrE,reduceIte,reduceCtorEq,nrL];with_reducible exact rfl))|((with_reducible first|apply oblA_and|apply oblR_and|apply oblO_and);(focus exact obA))|(with_reducible first|refine W_regionF lv88 fun K hK=>?_|refine W_drawnF lv88 fun K hK=>?_));try simp only [↓pb,↓pd,qds,tb88,so,so.1,so.2,lns63 S,hEg,irN,nrA,nrM,nrE,reduceIte,reduceCtorEq,nrL])|((first|((with_reducible first|apply WO_gT|apply WO_gF|apply WD_gT|apply WD_gF);exact rfl)|(with_reducible apply W_cond));(simp only [↓pb,qbs,tb88,so,so.1,so.2,lns63 S,hEg,irN,nrA,nrM,nrE,reduceIte,reduceCtorEq,nrL];with_reducible exact rfl);all_goals (intro hc;(first|exact hcX hc|try simp only [hcs] at hc);try ((with_reducible first|apply woI|apply wdI);simp only [↓pb,↓pd,qds,tb88,so,so.1,so.2,lns63 S,hc,hEg,irN,nrA,nrM,nrE,reduceIte,reduceCtorEq,nrL])))|(with_reducible first|refine W_seq ?_|refine W_block ?_|refine W_skip ?_|refine W_ret ?_|refine W_exit ?_|apply blockK_exit)|((with_reducible apply blockK_pass);(focus decide))|fail)
 refine W_count [4,12,13] (by kernel_rfl) 14 (R.length) (H.n) [H.n] [] (fun i e h=>∃ o,mAll R (R.getD 0 default).data.toList i=some o∧ByH H h o) (by simp only [↓pb,qbs,tb88,so,so.1,so.2,lns63 S,hEg,irN,nrA,nrM,nrE,reduceIte,reduceCtorEq,nrL]) (by focus exact topA) (H0:=H) (by focus exact frA) (by intro b hb hlt;simp at hb ⊢;try omega) ?_ ?_
 rotate_left
 intro i1 e1 h1 hi1 hE1 ei1 hF1 hF01 hTh1 hJ1
 simp only [forallC,forallL,and_true] at hE1
 try simp only [↓pb,qbs,tb88,so,so.1,so.2,lns63 S,hEg,irN,nrA,nrM,nrE,reduceIte,reduceCtorEq,nrL] at hE1
 have hn11:=hF1.n;have hn01:=hF01.n;try simp only [upd_n,jn_n] at hn11
 replace hEg:=And.intro ei1 hE1
 rotate_left
 ·exact ⟨_,rfl,kb⟩
 obtain ⟨o,ho,kh⟩:=hJ1
 have S1:=S.fr0 (kh.fr0 hT)
 have l1:=S1.lt
 have e1s:=S1.el1 rfl
 by_cases hi:i1 < R.length
 ·have hsz:=hz i1 hi
  have hol:=mAll_len ho
  have hol:o.length=(R.getD 0 default).size:=by rw [hol];simp
  repeat' (first|((with_reducible refine hK _ _ fun e2 hEn=>?_);clear hK K;simp only [lv88,forallC,forallL,and_true] at hEn;(try simp only [↓pb,qbs,tb88,so,so.1,so.2,lns63 S,hEg,irN,nrA,nrM,nrE,reduceIte,reduceCtorEq,nrL] at hEn);clear hEg;(try clear eg);have hEg:=hEn;clear hEn;rename Env=>eg)|((first|((with_reducible first|apply oV_intro|apply oH_intro|apply oB_intro);(simp (disch:=try exact dA) only [qcs,tb88,so,so.1,so.2,lns63 S,ias63 S1,S1.rd,e1s,hEg,irN,nrA,nrM,nrE,reduceIte,reduceCtorEq,nrL];with_reducible exact rfl))|((with_reducible first|apply oblA_and|apply oblR_and|apply oblO_and);(focus exact obA))|(with_reducible first|refine W_regionF lv88 fun K hK=>?_|refine W_drawnF lv88 fun K hK=>?_));try simp only [↓pb,↓pd,qds,tb88,so,so.1,so.2,lns63 S,ias63 S1,S1.rd,e1s,hEg,irN,nrA,nrM,nrE,reduceIte,reduceCtorEq,nrL])|((first|((with_reducible first|apply WO_gT|apply WO_gF|apply WD_gT|apply WD_gF);exact rfl)|(with_reducible apply W_cond));(simp only [↓pb,qbs,tb88,so,so.1,so.2,lns63 S,ias63 S1,S1.rd,e1s,hEg,irN,nrA,nrM,nrE,reduceIte,reduceCtorEq,nrL];with_reducible exact rfl);all_goals (intro hc;(first|exact hcX hc|try simp only [hcs] at hc);try ((with_reducible first|apply woI|apply wdI);simp only [↓pb,↓pd,qds,tb88,so,so.1,so.2,lns63 S,ias63 S1,S1.rd,e1s,hc,hEg,irN,nrA,nrM,nrE,reduceIte,reduceCtorEq,nrL])))|(with_reducible first|refine W_seq ?_|refine W_block ?_|refine W_skip ?_|refine W_ret ?_|refine W_exit ?_|apply blockK_exit)|((with_reducible apply blockK_pass);(focus decide))|fail)
  refine W_count [4,6,12,13,14,19] (by kernel_rfl) 20 ((R.getD i1 default).size) (H.n) [H.n] [] (fun i e h=>∃ o2,mRow (R.getD i1 default) o i=some o2∧ByH H h o2) (by simp only [↓pb,qbs,tb88,so,so.1,so.2,lns63 S,hEg,irN,nrA,nrM,nrE,reduceIte,reduceCtorEq,nrL]) (by focus exact topA) (H0:=H) (by focus exact frA) (by intro b hb hlt;simp at hb ⊢;try omega) ?_ ?_
  rotate_left
  intro i2 e2 h2 hi2 hE2 ei2 hF2 hF02 hTh2 hJ2
  simp only [forallC,forallL,and_true] at hE2
  try simp only [↓pb,qbs,tb88,so,so.1,so.2,lns63 S,hEg,irN,nrA,nrM,nrE,reduceIte,reduceCtorEq,nrL] at hE2
  have hn12:=hF2.n;have hn02:=hF02.n;try simp only [upd_n,jn_n] at hn12
  replace hEg:=And.intro ei2 hE2
  rotate_left
  ·exact ⟨o,rfl,kh⟩
  obtain ⟨o2,ho2,k2⟩:=hJ2
  have hl2:o2.length=(R.getD 0 default).size:=by rw [mRow_len ho2,hol]
  have hF12:=kh.fr k2 hT
  by_cases hi2:i2 < (R.getD i1 default).size
  ·have hstep:mRow (R.getD i1 default) o (i2 + 1)=mStep (R.getD i1 default) o2 i2:=by
    show (mRow _ _ _).bind _=_
    rw [ho2]
    rfl
   have rb:h2.rd H.n=some (u8s o2):=by rw [rd_def,k2.g];rfl
   have eb:=u8s_at (o:=o2) (i:=i2) (by omega)
   have gb:=k2.g
   have x1:=ixs (s:=R.getD i1 default) (i:=i2) (k:=.i64) hi2
   have x2:∀ c:Nat,indexAddrA Try.prog 131 (.slice (some ⟨H.n,0,none⟩) (R.getD 0 default).size c) (.int .i64 i2)=some (vptr H.n (0 + (i2:Int).toNat * 1)):=fun c=>indexAddrA_sl und131 sz5 (by omega) (by omega)
   repeat' (first|((with_reducible refine hK _ _ fun e2 hEn=>?_);clear hK K;simp only [lv88,forallC,forallL,and_true] at hEn;(try simp only [↓pb,qbs,tb88,so,so.1,so.2,lns63 S,hEg,irN,nrA,nrM,nrE,reduceIte,reduceCtorEq,nrL] at hEn);clear hEg;(try clear eg);have hEg:=hEn;clear hEn;rename Env=>eg)|((first|((with_reducible first|apply oV_intro|apply oH_intro|apply oB_intro);(simp (disch:=try exact dA) only [qcs,tb88,so,so.1,so.2,lns63 S,x1,x2,rb,eb,gb,Nat.mul_one,Nat.zero_add,Int.toNat_natCast,hEg,irN,nrA,nrM,nrE,reduceIte,reduceCtorEq,nrL];with_reducible exact rfl))|((with_reducible first|apply oblA_and|apply oblR_and|apply oblO_and);(focus exact obA))|(with_reducible first|refine W_regionF lv88 fun K hK=>?_|refine W_drawnF lv88 fun K hK=>?_));try simp only [↓pb,↓pd,qds,tb88,so,so.1,so.2,lns63 S,x1,x2,rb,eb,gb,Nat.mul_one,Nat.zero_add,Int.toNat_natCast,hEg,irN,nrA,nrM,nrE,reduceIte,reduceCtorEq,nrL])|((first|((with_reducible first|apply WO_gT|apply WO_gF|apply WD_gT|apply WD_gF);exact rfl)|(with_reducible apply W_cond));(simp only [↓pb,qbs,tb88,so,so.1,so.2,lns63 S,x1,x2,rb,eb,gb,Nat.mul_one,Nat.zero_add,Int.toNat_natCast,hEg,irN,nrA,nrM,nrE,reduceIte,reduceCtorEq,nrL];with_reducible exact rfl);all_goals (intro hc;(first|exact hcX hc|try simp only [hcs] at hc);try ((with_reducible first|apply woI|apply wdI);simp only [↓pb,↓pd,qds,tb88,so,so.1,so.2,lns63 S,x1,x2,rb,eb,gb,Nat.mul_one,Nat.zero_add,Int.toNat_natCast,hc,hEg,irN,nrA,nrM,nrE,reduceIte,reduceCtorEq,nrL])))|(with_reducible first|refine W_seq ?_|refine W_block ?_|refine W_skip ?_|refine W_ret ?_|refine W_exit ?_|apply blockK_exit)|((with_reducible apply blockK_pass);(focus decide))|fail)
   ·refine ⟨by omega,by simp only [↓pb,qbs,tb88,so,so.1,so.2,lns63 S,hEg,irN,nrA,nrM,nrE,reduceIte,reduceCtorEq,nrL];exact congrArg _ (inc64 (by omega)),by focus exact frA, ?_⟩
    exact ⟨o2,by rw [hstep,mStep,if_pos (.inr (by omega))],k2⟩
   ·have k3:=k2.put hT (x:=(R.getD i1 default).data.toList.getD i2 0) (i:=i2) (by omega)
    have hF13:=kh.fr k3 hT
    rw [stG_gr (s:=1) (x:=.int .u8 (chr (R.getD i1 default) i2)) (c:=u8s o2) rfl rfl (by unfold u8s;rw [List.length_map];omega)]
    simp only [↓pb,↓pd,qds,tb88,so,so.1,so.2,lns63 S,hEg,irN,nrA,nrM,nrE,reduceIte,reduceCtorEq,nrL]
    repeat' (first|((with_reducible refine hK _ _ fun e2 hEn=>?_);clear hK K;simp only [lv88,forallC,forallL,and_true] at hEn;(try simp only [↓pb,qbs,tb88,so,so.1,so.2,lns63 S,hEg,irN,nrA,nrM,nrE,reduceIte,reduceCtorEq,nrL] at hEn);clear hEg;(try clear eg);have hEg:=hEn;clear hEn;rename Env=>eg)|((first|((with_reducible first|apply oV_intro|apply oH_intro|apply oB_intro);(simp (disch:=try exact dA) only [qcs,tb88,so,so.1,so.2,lns63 S,hEg,irN,nrA,nrM,nrE,reduceIte,reduceCtorEq,nrL];with_reducible exact rfl))|((with_reducible first|apply oblA_and|apply oblR_and|apply oblO_and);(focus exact obA))|(with_reducible first|refine W_regionF lv88 fun K hK=>?_|refine W_drawnF lv88 fun K hK=>?_));try simp only [↓pb,↓pd,qds,tb88,so,so.1,so.2,lns63 S,hEg,irN,nrA,nrM,nrE,reduceIte,reduceCtorEq,nrL])|((first|((with_reducible first|apply WO_gT|apply WO_gF|apply WD_gT|apply WD_gF);exact rfl)|(with_reducible apply W_cond));(simp only [↓pb,qbs,tb88,so,so.1,so.2,lns63 S,hEg,irN,nrA,nrM,nrE,reduceIte,reduceCtorEq,nrL];with_reducible exact rfl);all_goals (intro hc;(first|exact hcX hc|try simp only [hcs] at hc);try ((with_reducible first|apply woI|apply wdI);simp only [↓pb,↓pd,qds,tb88,so,so.1,so.2,lns63 S,hc,hEg,irN,nrA,nrM,nrE,reduceIte,reduceCtorEq,nrL])))|(with_reducible first|refine W_seq ?_|refine W_block ?_|refine W_skip ?_|refine W_ret ?_|refine W_exit ?_|apply blockK_exit)|((with_reducible apply blockK_pass);(focus decide))|fail)
    refine ⟨by omega,by simp only [hEg];exact congrArg _ (inc64 (by omega)),hF13,_, ?_,k3⟩
    rw [hstep,mStep,if_neg (by omega),if_pos (by omega)]
   ·refine ⟨fun q=>(by cases q),fun _=>⟨.inr rfl, ?_⟩⟩
    have hn:mergedP R=none:=by
     refine mAll_none (k:=i1 + 1) ?_ hi
     show (mAll _ _ _).bind _=_
     rw [ho]
     refine mRow_none (k:=i2 + 1) ?_ hi2
     rw [hstep,mStep,if_neg (by omega),if_neg (by omega)]
    rw [ret2 Try.results88,hn]
    simp only [↓pb,qbs,tb88,so,so.1,so.2,lns63 S,rv_tmp,hEg,irN,nrA,nrM,nrE,reduceIte,reduceCtorEq,nrL]
    rfl
   ·refine ⟨by omega,by simp only [↓pb,qbs,tb88,so,so.1,so.2,lns63 S,hEg,irN,nrA,nrM,nrE,reduceIte,reduceCtorEq,nrL];exact congrArg _ (inc64 (by omega)),by focus exact frA, ?_⟩
    exact ⟨o2,by rw [hstep,mStep,if_pos (.inl (by omega))],k2⟩
  ·have e2n:i2=(R.getD i1 default).size:=by omega
   have hF02':=kb.fr k2 hT
   subst e2n
   repeat' (first|((with_reducible refine hK _ _ fun e2 hEn=>?_);clear hK K;simp only [lv88,forallC,forallL,and_true] at hEn;(try simp only [↓pb,qbs,tb88,so,so.1,so.2,lns63 S,hEg,irN,nrA,nrM,nrE,reduceIte,reduceCtorEq,nrL] at hEn);clear hEg;(try clear eg);have hEg:=hEn;clear hEn;rename Env=>eg)|((first|((with_reducible first|apply oV_intro|apply oH_intro|apply oB_intro);(simp (disch:=try exact dA) only [qcs,tb88,so,so.1,so.2,lns63 S,hEg,irN,nrA,nrM,nrE,reduceIte,reduceCtorEq,nrL];with_reducible exact rfl))|((with_reducible first|apply oblA_and|apply oblR_and|apply oblO_and);(focus exact obA))|(with_reducible first|refine W_regionF lv88 fun K hK=>?_|refine W_drawnF lv88 fun K hK=>?_));try simp only [↓pb,↓pd,qds,tb88,so,so.1,so.2,lns63 S,hEg,irN,nrA,nrM,nrE,reduceIte,reduceCtorEq,nrL])|((first|((with_reducible first|apply WO_gT|apply WO_gF|apply WD_gT|apply WD_gF);exact rfl)|(with_reducible apply W_cond));(simp only [↓pb,qbs,tb88,so,so.1,so.2,lns63 S,hEg,irN,nrA,nrM,nrE,reduceIte,reduceCtorEq,nrL];with_reducible exact rfl);all_goals (intro hc;(first|exact hcX hc|try simp only [hcs] at hc);try ((with_reducible first|apply woI|apply wdI);simp only [↓pb,↓pd,qds,tb88,so,so.1,so.2,lns63 S,hc,hEg,irN,nrA,nrM,nrE,reduceIte,reduceCtorEq,nrL])))|(with_reducible first|refine W_seq ?_|refine W_block ?_|refine W_skip ?_|refine W_ret ?_|refine W_exit ?_|apply blockK_exit)|((with_reducible apply blockK_pass);(focus decide))|fail)
   refine ⟨by omega,by simp only [↓pb,qbs,tb88,so,so.1,so.2,lns63 S,hEg,irN,nrA,nrM,nrE,reduceIte,reduceCtorEq,nrL];exact congrArg _ (inc64 (by omega)),by focus exact frA, ?_⟩
   refine ⟨o2, ?_,k2⟩
   show (mAll _ _ _).bind _=_
   rw [ho]
   exact ho2
 ·have e1n:i1=R.length:=by omega
  subst e1n
  repeat' (first|((with_reducible refine hK _ _ fun e2 hEn=>?_);clear hK K;simp only [lv88,forallC,forallL,and_true] at hEn;(try simp only [↓pb,qbs,tb88,so,so.1,so.2,lns63 S,hEg,irN,nrA,nrM,nrE,reduceIte,reduceCtorEq,nrL] at hEn);clear hEg;(try clear eg);have hEg:=hEn;clear hEn;rename Env=>eg)|((first|((with_reducible first|apply oV_intro|apply oH_intro|apply oB_intro);(simp (disch:=try exact dA) only [qcs,tb88,so,so.1,so.2,lns63 S,hEg,irN,nrA,nrM,nrE,reduceIte,reduceCtorEq,nrL];with_reducible exact rfl))|((with_reducible first|apply oblA_and|apply oblR_and|apply oblO_and);(focus exact obA))|(with_reducible first|refine W_regionF lv88 fun K hK=>?_|refine W_drawnF lv88 fun K hK=>?_));try simp only [↓pb,↓pd,qds,tb88,so,so.1,so.2,lns63 S,hEg,irN,nrA,nrM,nrE,reduceIte,reduceCtorEq,nrL])|((first|((with_reducible first|apply WO_gT|apply WO_gF|apply WD_gT|apply WD_gF);exact rfl)|(with_reducible apply W_cond));(simp only [↓pb,qbs,tb88,so,so.1,so.2,lns63 S,hEg,irN,nrA,nrM,nrE,reduceIte,reduceCtorEq,nrL];with_reducible exact rfl);all_goals (intro hc;(first|exact hcX hc|try simp only [hcs] at hc);try ((with_reducible first|apply woI|apply wdI);simp only [↓pb,↓pd,qds,tb88,so,so.1,so.2,lns63 S,hc,hEg,irN,nrA,nrM,nrE,reduceIte,reduceCtorEq,nrL])))|(with_reducible first|refine W_seq ?_|refine W_block ?_|refine W_skip ?_|refine W_ret ?_|refine W_exit ?_|apply blockK_exit)|((with_reducible apply blockK_pass);(focus decide))|fail)
  refine ⟨fun _=>?_,fun h=>absurd rfl h⟩
  refine DW.seq (DW.b2s C8.sim C8.top (pre:=[_]) (post:=[_,_]) rfl rfl rfl und131 und9 und5 (WO.intro fun K hK=>?_))
  simp only [↓pb,↓pd,qds,tb88,so,so.1,so.2,lns63 S,hEg,irN,nrA,nrM,nrE,reduceIte,reduceCtorEq,nrL]
  have hol:=mAll_len ho
  have hol:o.length=(R.getD 0 default).size:=by rw [hol];simp
  refine hK _ _ ⟨o,some ⟨H.n,0,none⟩,(R.getD 0 default).size, ?_, ?_,WO.intro fun K hK=>?_⟩
  ·simp only [↓pb,qbs,tb88,so,so.1,so.2,lns63 S,hEg,irN,nrA,nrM,nrE,reduceIte,reduceCtorEq,nrL]
   rw [hol]
  ·have SB:SR h1 1 (R.getD 0 default).size (.slice (some ⟨H.n,0,none⟩) (R.getD 0 default).size (R.getD 0 default).size) (u8s o):=by
    refine ⟨.inr ⟨_,_,_,rfl,Nat.le_refl _⟩,by simp [u8s,hol],.inr ⟨u8s o, ?_, ?_, ?_⟩,.inr ?_⟩
    ·show h1.rd H.n=_
     rw [rd_def,kh.g]
     rfl
    ·show 0 + _ * 1≤(u8s o).length
     simp [u8s,hol]
    ·show ((u8s o).drop 0).take _=_
     rw [List.drop_zero,List.take_of_length_le (by simp [u8s,hol])]
    ·show H.n < h1.n
     have:=kh.n
     omega
   simp only [↓pb,qbs,tb88,so,so.1,so.2,lns63 S,hEg,irN,nrA,nrM,nrE,reduceIte,reduceCtorEq,nrL]
   exact srcA_of SB
  simp only [↓pb,↓pd,qds,tb88,so,so.1,so.2,lns63 S,hEg,irN,nrA,nrM,nrE,reduceIte,reduceCtorEq,nrL]
  refine hK _ _ ⟨fun _=>?_,fun h=>absurd rfl h⟩
  refine DW.ofW mix8 C8.sim C8.top ?_
  repeat' (first|((with_reducible refine hK _ _ fun e2 hEn=>?_);clear hK K;simp only [lv88,forallC,forallL,and_true] at hEn;(try simp only [↓pb,qbs,tb88,so,so.1,so.2,lns63 S,hEg,irN,nrA,nrM,nrE,reduceIte,reduceCtorEq,nrL] at hEn);clear hEg;(try clear eg);have hEg:=hEn;clear hEn;rename Env=>eg)|((first|((with_reducible first|apply oV_intro|apply oH_intro|apply oB_intro);(simp (disch:=try exact dA) only [qcs,tb88,so,so.1,so.2,lns63 S,hEg,irN,nrA,nrM,nrE,reduceIte,reduceCtorEq,nrL];with_reducible exact rfl))|((with_reducible first|apply oblA_and|apply oblR_and|apply oblO_and);(focus exact obA))|(with_reducible first|refine W_regionF lv88 fun K hK=>?_|refine W_drawnF lv88 fun K hK=>?_));try simp only [↓pb,↓pd,qds,tb88,so,so.1,so.2,lns63 S,hEg,irN,nrA,nrM,nrE,reduceIte,reduceCtorEq,nrL])|((first|((with_reducible first|apply WO_gT|apply WO_gF|apply WD_gT|apply WD_gF);exact rfl)|(with_reducible apply W_cond));(simp only [↓pb,qbs,tb88,so,so.1,so.2,lns63 S,hEg,irN,nrA,nrM,nrE,reduceIte,reduceCtorEq,nrL];with_reducible exact rfl);all_goals (intro hc;(first|exact hcX hc|try simp only [hcs] at hc);try ((with_reducible first|apply woI|apply wdI);simp only [↓pb,↓pd,qds,tb88,so,so.1,so.2,lns63 S,hc,hEg,irN,nrA,nrM,nrE,reduceIte,reduceCtorEq,nrL])))|(with_reducible first|refine W_seq ?_|refine W_block ?_|refine W_skip ?_|refine W_ret ?_|refine W_exit ?_|apply blockK_exit)|((with_reducible apply blockK_pass);(focus decide))|fail)
  refine ⟨.inr rfl, ?_⟩
  have hm:mergedP R=some o:=ho
  rw [ret2 Try.results88,hm]
  simp only [↓pb,qbs,tb88,so,so.1,so.2,lns63 S,rv_tmp,hEg,irN,nrA,nrM,nrE,reduceIte,reduceCtorEq,nrL]
  rfl
theorem f88 (vr:Value) (R:List ByteArray) (H:AHeap) (S:SR H 1 R.length vr (R.map .string)) (h0:0 < R.length) (hl:R.length < 1000000) (hz:∀ i,i < R.length→(R.getD i default).size=(R.getD 0 default).size) (hz0:(R.getD 0 default).size < 1000000) :
  OrC Try.prog 88 #[vr] H (mVal (mergedP R)) H:=by
 refine ⟨rfl,by unfold mVal;split <;> simp [flatR,dflat,flat],⟨Try.f88,_,Try.func88,rfl,by kernel_rfl⟩,fun n0 ρ w args' hr ha=>?_⟩
 obtain ⟨a1,l1,rfl,h1,ha⟩:=ha.cons_inv
 obtain ⟨M,va,hL,hv,S1⟩:=S.carry hr h1 (fun x hx=>by obtain ⟨s,_,rfl⟩:=List.mem_map.1 hx;rfl) 0 [] (by simp)
 cases ha.nil_inv
 exact f88w va R _ S1 h0 hl hz hz0 hL (ARel.cons_mk hv (ARel.nil _))
theorem f115 (c:Int) (H:AHeap):∃ v H',C8 (.fn 115) #[.int .i32 c] H v H'∧v=.bool (signB c)∧H'=H:=by
 refine Cl.ofW Try.func115 rfl (by kernel_rfl) (by rw [Try.ntmps115];exact Nat.le_of_ble_eq_true rfl) (by kernel_rfl) ?_
 have hEg:True:=trivial
 refine gcW [0] ?_
 intro eg hEn
 simp only [forallC,forallL,and_true] at hEn
 try simp only [↓pb,qbs,tb115,hEg,irN,nrA,nrM,nrE,reduceIte,reduceCtorEq,nrL] at hEn
 replace hEg:=hEn;clear hEn
 repeat' (first|((with_reducible refine hK _ _ fun e2 hEn=>?_);clear hK K;simp only [lv115,forallC,forallL,and_true] at hEn;(try simp only [↓pb,qbs,tb115,hEg,irN,nrA,nrM,nrE,reduceIte,reduceCtorEq,nrL] at hEn);clear hEg;(try clear eg);have hEg:=hEn;clear hEn;rename Env=>eg)|((first|((with_reducible first|apply oV_intro|apply oH_intro|apply oB_intro);(simp (disch:=try exact dA) only [qcs,tb115,hEg,irN,nrA,nrM,nrE,reduceIte,reduceCtorEq,nrL];with_reducible exact rfl))|(with_reducible first|refine W_regionF lv115 fun K hK=>?_));try simp only [↓pb,↓pd,qds,tb115,hEg,irN,nrA,nrM,nrE,reduceIte,reduceCtorEq,nrL])|(((with_reducible first|apply WO_gT|apply WO_gF);exact rfl);(simp only [↓pb,qbs,tb115,hEg,irN,nrA,nrM,nrE,reduceIte,reduceCtorEq,nrL];with_reducible exact rfl);all_goals (intro hc;(first|exact hcX hc|try simp only [hcs] at hc);try ((with_reducible apply woI);simp only [↓pb,↓pd,qds,tb115,hc,hEg,irN,nrA,nrM,nrE,reduceIte,reduceCtorEq,nrL])))|((with_reducible apply WO_gU);exact rfl;(focus (simp only [↓pb,qbs,tb115,hEg,irN,nrA,nrM,nrE,reduceIte,reduceCtorEq,nrL];done));try simp only [↓pb,↓pd,qds,tb115,hEg,irN,nrA,nrM,nrE,reduceIte,reduceCtorEq,nrL])|(with_reducible first|refine W_seq ?_|refine W_ret ?_)|fail)
 all_goals (
  refine ⟨by first|exact .inl rfl|exact .inr rfl, ?_⟩
  rw [ret1 Try.results115]
  simp only [↓pb,qbs,tb115,rv_tmp,rv_cell,hEg,irN,nrA,nrM,nrE,reduceIte,reduceCtorEq,nrL]
  repeat ((with_reducible apply oV_intro);(simp (disch:=try exact dA) only [qcs,tb115,hEg,irN,nrA,nrM,nrE,reduceIte,reduceCtorEq,nrL];exact rfl)))
 all_goals simp [signB, *]
theorem f119 (c:Int) (H:AHeap):∃ v H',C8 (.fn 119) #[.int .i32 c] H v H'∧v=.bool (partB c)∧H'=H:=by
 refine Cl.ofW Try.func119 rfl (by kernel_rfl) (by rw [Try.ntmps119];exact Nat.le_of_ble_eq_true rfl) (by kernel_rfl) ?_
 have hEg:True:=trivial
 refine gcW [0] ?_
 intro eg hEn
 simp only [forallC,forallL,and_true] at hEn
 try simp only [↓pb,qbs,tb119,hEg,irN,nrA,nrM,nrE,reduceIte,reduceCtorEq,nrL] at hEn
 replace hEg:=hEn;clear hEn
 repeat' (first|((with_reducible refine hK _ _ fun e2 hEn=>?_);clear hK K;simp only [lv119,forallC,forallL,and_true] at hEn;(try simp only [↓pb,qbs,tb119,hEg,irN,nrA,nrM,nrE,reduceIte,reduceCtorEq,nrL] at hEn);clear hEg;(try clear eg);have hEg:=hEn;clear hEn;rename Env=>eg)|((first|((with_reducible first|apply oV_intro|apply oH_intro|apply oB_intro);(simp (disch:=try exact dA) only [qcs,tb119,hEg,irN,nrA,nrM,nrE,reduceIte,reduceCtorEq,nrL];with_reducible exact rfl))|((with_reducible apply WO_callE);(simp only [↓pb,qbs,tb119,hEg,irN,nrA,nrM,nrE,reduceIte,reduceCtorEq,nrL];(exact f115 _ _)))|(with_reducible first|refine W_regionF lv119 fun K hK=>?_));try simp only [↓pb,↓pd,qds,tb119,hEg,irN,nrA,nrM,nrE,reduceIte,reduceCtorEq,nrL])|(((with_reducible first|apply WO_gT|apply WO_gF);exact rfl);(simp only [↓pb,qbs,tb119,hEg,irN,nrA,nrM,nrE,reduceIte,reduceCtorEq,nrL];with_reducible exact rfl);all_goals (intro hc;(first|exact hcX hc|try simp only [hcs] at hc);try ((with_reducible apply woI);simp only [↓pb,↓pd,qds,tb119,hc,hEg,irN,nrA,nrM,nrE,reduceIte,reduceCtorEq,nrL])))|((with_reducible apply WO_gU);exact rfl;(focus (simp only [↓pb,qbs,tb119,hEg,irN,nrA,nrM,nrE,reduceIte,reduceCtorEq,nrL];done));try simp only [↓pb,↓pd,qds,tb119,hEg,irN,nrA,nrM,nrE,reduceIte,reduceCtorEq,nrL])|(with_reducible first|refine W_seq ?_|refine W_ret ?_)|fail)
 all_goals (
  refine ⟨by first|exact .inl rfl|exact .inr rfl, ?_⟩
  rw [ret1 Try.results119]
  simp only [↓pb,qbs,tb119,rv_tmp,rv_cell,hEg,irN,nrA,nrM,nrE,reduceIte,reduceCtorEq,nrL]
  repeat ((with_reducible apply oV_intro);(simp (disch:=try exact dA) only [qcs,tb119,hEg,irN,nrA,nrM,nrE,reduceIte,reduceCtorEq,nrL];exact rfl)))
 all_goals simp [partB, *]
theorem f126 (k:Nat) (hk:k=115∨k=119) (c:Int) (bp:Nat) (H:AHeap) (hx:H.rd bp=some [.func (.func k) #[] #[]]):∃ v H',C8 (.fn 126) #[.int .i32 c,vptr bp 0] H v H'∧v=.bool (!mayB k c)∧H'=H:=by
 rcases hk with rfl|rfl
 ·refine Cl.ofW Try.func126 rfl (by kernel_rfl) (by rw [Try.ntmps126];exact Nat.le_of_ble_eq_true rfl) (by kernel_rfl) ?_
  have hEg:True:=trivial
  refine gcW [0,1] ?_
  intro eg hEn
  simp only [forallC,forallL,and_true] at hEn
  try simp only [↓pb,qbs,tb126,hx,hEg,irN,nrA,nrM,nrE,reduceIte,reduceCtorEq,nrL] at hEn
  replace hEg:=hEn;clear hEn
  repeat' (first|((with_reducible refine hK _ _ fun e2 hEn=>?_);clear hK K;simp only [lv126,forallC,forallL,and_true] at hEn;(try simp only [↓pb,qbs,tb126,hx,hEg,irN,nrA,nrM,nrE,reduceIte,reduceCtorEq,nrL] at hEn);clear hEg;(try clear eg);have hEg:=hEn;clear hEn;rename Env=>eg)|((first|((with_reducible first|apply oV_intro|apply oH_intro|apply oB_intro);(simp (disch:=try exact dA) only [qcs,tb126,hx,hEg,irN,nrA,nrM,nrE,reduceIte,reduceCtorEq,nrL];with_reducible exact rfl))|((with_reducible apply WO_callE);(simp only [↓pb,qbs,tb126,hx,hEg,irN,nrA,nrM,nrE,reduceIte,reduceCtorEq,nrL];(exact f115 _ _)))|(with_reducible first|refine W_regionF lv126 fun K hK=>?_));try simp only [↓pb,↓pd,qds,tb126,hx,hEg,irN,nrA,nrM,nrE,reduceIte,reduceCtorEq,nrL])|(with_reducible first|refine W_seq ?_|refine W_ret ?_)|fail)
  refine ⟨by first|exact .inl rfl|exact .inr rfl, ?_⟩
  rw [ret1 Try.results126]
  simp only [↓pb,qbs,tb126,hx,rv_tmp,rv_cell,hEg,irN,nrA,nrM,nrE,reduceIte,reduceCtorEq,nrL]
  repeat ((with_reducible apply oV_intro);(simp (disch:=try exact dA) only [qcs,tb126,hx,hEg,irN,nrA,nrM,nrE,reduceIte,reduceCtorEq,nrL];exact rfl))
  rfl
 ·refine Cl.ofW Try.func126 rfl (by kernel_rfl) (by rw [Try.ntmps126];exact Nat.le_of_ble_eq_true rfl) (by kernel_rfl) ?_
  have hEg:True:=trivial
  refine gcW [0,1] ?_
  intro eg hEn
  simp only [forallC,forallL,and_true] at hEn
  try simp only [↓pb,qbs,tb126,hx,hEg,irN,nrA,nrM,nrE,reduceIte,reduceCtorEq,nrL] at hEn
  replace hEg:=hEn;clear hEn
  repeat' (first|((with_reducible refine hK _ _ fun e2 hEn=>?_);clear hK K;simp only [lv126,forallC,forallL,and_true] at hEn;(try simp only [↓pb,qbs,tb126,hx,hEg,irN,nrA,nrM,nrE,reduceIte,reduceCtorEq,nrL] at hEn);clear hEg;(try clear eg);have hEg:=hEn;clear hEn;rename Env=>eg)|((first|((with_reducible first|apply oV_intro|apply oH_intro|apply oB_intro);(simp (disch:=try exact dA) only [qcs,tb126,hx,hEg,irN,nrA,nrM,nrE,reduceIte,reduceCtorEq,nrL];with_reducible exact rfl))|((with_reducible apply WO_callE);(simp only [↓pb,qbs,tb126,hx,hEg,irN,nrA,nrM,nrE,reduceIte,reduceCtorEq,nrL];(exact f119 _ _)))|(with_reducible first|refine W_regionF lv126 fun K hK=>?_));try simp only [↓pb,↓pd,qds,tb126,hx,hEg,irN,nrA,nrM,nrE,reduceIte,reduceCtorEq,nrL])|(with_reducible first|refine W_seq ?_|refine W_ret ?_)|fail)
  refine ⟨by first|exact .inl rfl|exact .inr rfl, ?_⟩
  rw [ret1 Try.results126]
  simp only [↓pb,qbs,tb126,hx,rv_tmp,rv_cell,hEg,irN,nrA,nrM,nrE,reduceIte,reduceCtorEq,nrL]
  repeat ((with_reducible apply oV_intro);(simp (disch:=try exact dA) only [qcs,tb126,hx,hEg,irN,nrA,nrM,nrE,reduceIte,reduceCtorEq,nrL];exact rfl))
  rfl
theorem f135 (w:ByteArray) (k:Nat) (hk:k=115∨k=119) (bp:Nat) (H:AHeap) (hT:Top H) (hb:bp < H.n) (hx:H.rd bp=some [.func (.func k) #[] #[]]):∃ v H',C8 (.fn 135) #[.string w,.func (.func 126) #[] #[vptr bp 0],.bool true] H v H'∧(∃ i:Int,v=iv i∧(0≤i↔badFrom (mayB k) w w.size 0=true))∧Fr H.n [] H H':=by
 refine Cl.ofW Try.func135 rfl (by kernel_rfl) (by rw [Try.ntmps135];exact Nat.le_of_ble_eq_true rfl) (by kernel_rfl) ?_
 have hEg:True:=trivial
 refine gcW [0,1,2] ?_
 intro eg hEn
 simp only [forallC,forallL,and_true] at hEn
 try simp only [↓pb,qbs,tb135,und9,hEg,irN,nrA,nrM,nrE,reduceIte,reduceCtorEq,nrL] at hEn
 replace hEg:=hEn;clear hEn
 repeat' (first|((with_reducible refine hK _ _ fun e2 hEn=>?_);clear hK K;simp only [lv135,forallC,forallL,and_true] at hEn;(try simp only [↓pb,qbs,tb135,und9,hEg,irN,nrA,nrM,nrE,reduceIte,reduceCtorEq,nrL] at hEn);clear hEg;(try clear eg);have hEg:=hEn;clear hEn;rename Env=>eg)|((first|((with_reducible first|apply oV_intro|apply oH_intro|apply oB_intro);(simp (disch:=try exact dA) only [qcs,tb135,und9,hEg,irN,nrA,nrM,nrE,reduceIte,reduceCtorEq,nrL];with_reducible exact rfl))|(with_reducible first|refine W_regionF lv135 fun K hK=>?_));try simp only [↓pb,↓pd,qds,tb135,und9,hEg,irN,nrA,nrM,nrE,reduceIte,reduceCtorEq,nrL])|((with_reducible apply W_cond);(simp only [↓pb,qbs,tb135,und9,hEg,irN,nrA,nrM,nrE,reduceIte,reduceCtorEq,nrL];with_reducible exact rfl);all_goals (intro hc;(first|exact hcX hc|try simp only [hcs] at hc)))|(with_reducible first|refine W_seq ?_|refine W_block ?_|refine W_skip ?_|refine W_ret ?_|refine W_exit ?_|apply blockK_exit)|((with_reducible apply blockK_pass);(focus decide))|fail)
 refine W_while [1,2,10] (by kernel_rfl) (H.n) [H.n] [] (fun s e h=>h.get H.n=.iter w s.2∧w.size≤s.2 + s.1∧badFrom (mayB k) w w.size 0=badFrom (mayB k) w s.1 s.2) (fun s=>s.1) ((w.size,0)) (by focus exact topA) (H0:=H) (by focus exact frA) (by intro b hb hlt;simp at hb ⊢;try omega) ?_ ?_
 rotate_left
 intro s1 e1 h1 hE1 hF1 hF01 hTh1 hJ1
 simp only [forallC,forallL,and_true] at hE1
 try simp only [↓pb,qbs,tb135,und9,hEg,irN,nrA,nrM,nrE,reduceIte,reduceCtorEq,nrL] at hE1
 have hn11:=hF1.n;have hn01:=hF01.n;try simp only [upd_n,jn_n] at hn11
 replace hEg:=hE1
 rotate_left
 ·refine ⟨by simp (disch:=try exact dA) only [qcs,tb135,und9,hEg,irN,nrA,nrM,nrE,reduceIte,reduceCtorEq,nrL],by omega,rfl⟩
 obtain ⟨j1,j2,j3⟩:=hJ1
 obtain ⟨f,p⟩:=s1
 dsimp only at j1 j2 j3
 have hx1:h1.rd bp=some [.func (.func k) #[] #[]]:=by rw [rd_def,hF01.old _ hb (by simp),← rd_def];exact hx
 by_cases hp:p < w.size
 ·obtain ⟨m,rfl⟩:∃ m,f=m + 1:=⟨f - 1,by omega⟩
  rw [badFrom,if_pos hp] at j3
  have d1:=dec_pos w p
  have hx2:∀ o,(h1.upd h1.n H.n o).rd bp=some [.func (.func k) #[] #[]]:=fun o=>by
   rw [rd_def,upd_get_ne (by omega),← rd_def]
   exact hx1
  repeat' (first|((with_reducible refine hK _ _ fun e2 hEn=>?_);clear hK K;simp only [lv135,forallC,forallL,and_true] at hEn;(try simp only [↓pb,qbs,tb135,und9,hEg,irN,nrA,nrM,nrE,reduceIte,reduceCtorEq,nrL] at hEn);clear hEg;(try clear eg);have hEg:=hEn;clear hEn;rename Env=>eg)|((first|((with_reducible first|apply oV_intro|apply oH_intro|apply oB_intro);(simp (disch:=try exact dA) only [qcs,tb135,und9,nextIn j1 hp,hx1,hEg,irN,nrA,nrM,nrE,reduceIte,reduceCtorEq,nrL];with_reducible exact rfl))|((with_reducible apply WO_callE);(simp only [↓pb,qbs,tb135,und9,nextIn j1 hp,hx1,hEg,irN,nrA,nrM,nrE,reduceIte,reduceCtorEq,nrL];(exact f126 k hk _ bp _ (hx2 _))))|(with_reducible first|refine W_regionF lv135 fun K hK=>?_));try simp only [↓pb,↓pd,qds,tb135,und9,nextIn j1 hp,hx1,hEg,irN,nrA,nrM,nrE,reduceIte,reduceCtorEq,nrL])|((with_reducible apply W_cond);(simp only [↓pb,qbs,tb135,und9,nextIn j1 hp,hx1,hEg,irN,nrA,nrM,nrE,reduceIte,reduceCtorEq,nrL];with_reducible exact rfl);all_goals (intro hc;(first|exact hcX hc|try simp only [hcs] at hc)))|(with_reducible first|refine W_seq ?_|refine W_block ?_|refine W_skip ?_|refine W_ret ?_|refine W_exit ?_|apply blockK_exit)|((with_reducible apply blockK_pass);(focus decide))|fail)
  ·refine ⟨by first|exact .inl rfl|exact .inr rfl, ?_⟩
   rw [ret1 Try.results135]
   simp only [↓pb,qbs,tb135,und9,rv_tmp,rv_cell,hEg,irN,nrA,nrM,nrE,reduceIte,reduceCtorEq,nrL]
   repeat ((with_reducible apply oV_intro);(simp (disch:=try exact dA) only [qcs,tb135,und9,hEg,irN,nrA,nrM,nrE,reduceIte,reduceCtorEq,nrL];exact rfl))
   refine ⟨⟨p,rfl,fun _=>?_,fun _=>by omega⟩,by exact frA⟩
   rw [j3]
   simp_all
  ·refine ⟨(m,p + (Utf8.decode w p).2),Nat.lt_succ_self _,by exact frA,by simp (disch:=try exact dA) only [qcs,tb135,und9,hEg,irN,nrA,nrM,nrE,reduceIte,reduceCtorEq,nrL],by dsimp only;omega, ?_⟩
   rw [j3]
   simp_all
 ·rw [badFrom_end hp] at j3
  repeat' (first|((with_reducible refine hK _ _ fun e2 hEn=>?_);clear hK K;simp only [lv135,forallC,forallL,and_true] at hEn;(try simp only [↓pb,qbs,tb135,und9,hEg,irN,nrA,nrM,nrE,reduceIte,reduceCtorEq,nrL] at hEn);clear hEg;(try clear eg);have hEg:=hEn;clear hEn;rename Env=>eg)|((first|((with_reducible first|apply oV_intro|apply oH_intro|apply oB_intro);(simp (disch:=try exact dA) only [qcs,tb135,und9,nextOut j1 hp,hEg,irN,nrA,nrM,nrE,reduceIte,reduceCtorEq,nrL];with_reducible exact rfl))|(with_reducible first|refine W_regionF lv135 fun K hK=>?_));try simp only [↓pb,↓pd,qds,tb135,und9,nextOut j1 hp,hEg,irN,nrA,nrM,nrE,reduceIte,reduceCtorEq,nrL])|((with_reducible apply W_cond);(simp only [↓pb,qbs,tb135,und9,nextOut j1 hp,hEg,irN,nrA,nrM,nrE,reduceIte,reduceCtorEq,nrL];with_reducible exact rfl);all_goals (intro hc;(first|exact hcX hc|try simp only [hcs] at hc)))|(with_reducible first|refine W_seq ?_|refine W_block ?_|refine W_skip ?_|refine W_ret ?_|refine W_exit ?_|apply blockK_exit)|((with_reducible apply blockK_pass);(focus decide))|fail)
  refine ⟨by first|exact .inl rfl|exact .inr rfl, ?_⟩
  rw [ret1 Try.results135]
  simp only [↓pb,qbs,tb135,und9,rv_tmp,rv_cell,hEg,irN,nrA,nrM,nrE,reduceIte,reduceCtorEq,nrL]
  repeat ((with_reducible apply oV_intro);(simp (disch:=try exact dA) only [qcs,tb135,und9,hEg,irN,nrA,nrM,nrE,reduceIte,reduceCtorEq,nrL];exact rfl))
  refine ⟨⟨-1,rfl,fun q=>by omega,fun q=>?_⟩,by exact frA⟩
  rw [j3] at q
  cases q
theorem f125 (w:ByteArray) (k:Nat) (hk:k=115∨k=119) (bp:Nat) (H:AHeap) (hT:Top H) (hb:bp < H.n) (hx:H.rd bp=some [.func (.func k) #[] #[]]):∃ v H',C8 (.fn 125) #[.string w,.func (.func 126) #[] #[vptr bp 0]] H v H'∧v=.bool (badFrom (mayB k) w w.size 0)∧Fr H.n [] H H':=by
 have q130:∃ v H',C8 (.fn 130) #[.string w,.func (.func 126) #[] #[vptr bp 0]] H v H'∧(∃ i:Int,v=iv i∧(0≤i↔badFrom (mayB k) w w.size 0=true))∧Fr H.n [] H H':=by
  refine Cl.ofW Try.func130 rfl (by kernel_rfl) (by rw [Try.ntmps130];exact Nat.le_of_ble_eq_true rfl) (by kernel_rfl) ?_
  have hEg:True:=trivial
  refine gcW [0,1] ?_
  intro eg hEn
  simp only [forallC,forallL,and_true] at hEn
  try simp only [↓pb,qbs,tb130,hEg,irN,nrA,nrM,nrE,reduceIte,reduceCtorEq,nrL] at hEn
  replace hEg:=hEn;clear hEn
  repeat' (first|((with_reducible refine hK _ _ fun e2 hEn=>?_);clear hK K;simp only [lv130,forallC,forallL,and_true] at hEn;(try simp only [↓pb,qbs,tb130,hEg,irN,nrA,nrM,nrE,reduceIte,reduceCtorEq,nrL] at hEn);clear hEg;(try clear eg);have hEg:=hEn;clear hEn;rename Env=>eg)|((first|((with_reducible first|apply oV_intro|apply oH_intro|apply oB_intro);(simp (disch:=try exact dA) only [qcs,tb130,hEg,irN,nrA,nrM,nrE,reduceIte,reduceCtorEq,nrL];with_reducible exact rfl))|((with_reducible apply WO_callF);(focus exact topA);(simp only [↓pb,qbs,tb130,hEg,irN,nrA,nrM,nrE,reduceIte,reduceCtorEq,nrL];exact f135 w k hk bp _ (by exact topA) hb hx);(rintro vq Gq hq hJq ⟨i,rfl,hi⟩;try simp only [upd_n,jn_n] at hq))|(with_reducible first|refine W_regionF lv130 fun K hK=>?_));try simp only [↓pb,↓pd,qds,tb130,hEg,irN,nrA,nrM,nrE,reduceIte,reduceCtorEq,nrL])|(with_reducible first|refine W_seq ?_|refine W_ret ?_)|fail)
  refine ⟨by first|exact .inl rfl|exact .inr rfl, ?_⟩
  rw [ret1 Try.results130]
  simp only [↓pb,qbs,tb130,rv_tmp,rv_cell,hEg,irN,nrA,nrM,nrE,reduceIte,reduceCtorEq,nrL]
  repeat ((with_reducible apply oV_intro);(simp (disch:=try exact dA) only [qcs,tb130,hEg,irN,nrA,nrM,nrE,reduceIte,reduceCtorEq,nrL];exact rfl))
  exact ⟨⟨i,rfl,hi⟩,by exact frA⟩
 refine Cl.ofW Try.func125 rfl (by kernel_rfl) (by rw [Try.ntmps125];exact Nat.le_of_ble_eq_true rfl) (by kernel_rfl) ?_
 have hEg:True:=trivial
 refine gcW [0,1] ?_
 intro eg hEn
 simp only [forallC,forallL,and_true] at hEn
 try simp only [↓pb,qbs,tb125,hEg,irN,nrA,nrM,nrE,reduceIte,reduceCtorEq,nrL] at hEn
 replace hEg:=hEn;clear hEn
 repeat' (first|((with_reducible refine hK _ _ fun e2 hEn=>?_);clear hK K;simp only [lv125,forallC,forallL,and_true] at hEn;(try simp only [↓pb,qbs,tb125,hEg,irN,nrA,nrM,nrE,reduceIte,reduceCtorEq,nrL] at hEn);clear hEg;(try clear eg);have hEg:=hEn;clear hEn;rename Env=>eg)|((first|((with_reducible first|apply oV_intro|apply oH_intro|apply oB_intro);(simp (disch:=try exact dA) only [qcs,tb125,hEg,irN,nrA,nrM,nrE,reduceIte,reduceCtorEq,nrL];with_reducible exact rfl))|((with_reducible apply WO_callF);(focus exact topA);(simp only [↓pb,qbs,tb125,hEg,irN,nrA,nrM,nrE,reduceIte,reduceCtorEq,nrL];exact q130);(rintro vq Gq hq hJq ⟨i,rfl,hi⟩;try simp only [upd_n,jn_n] at hq))|(with_reducible first|refine W_regionF lv125 fun K hK=>?_));try simp only [↓pb,↓pd,qds,tb125,hEg,irN,nrA,nrM,nrE,reduceIte,reduceCtorEq,nrL])|(with_reducible first|refine W_seq ?_|refine W_ret ?_)|fail)
 refine ⟨by first|exact .inl rfl|exact .inr rfl, ?_⟩
 rw [ret1 Try.results125]
 simp only [↓pb,qbs,tb125,rv_tmp,rv_cell,hEg,irN,nrA,nrM,nrE,reduceIte,reduceCtorEq,nrL]
 repeat ((with_reducible apply oV_intro);(simp (disch:=try exact dA) only [qcs,tb125,hEg,irN,nrA,nrM,nrE,reduceIte,reduceCtorEq,nrL];exact rfl))
 refine ⟨?_,by exact frA⟩
 congr 1
 cases hq:badFrom (mayB k) w w.size 0 with
 | true=>exact decide_eq_true (hi.2 hq)
 | false=>exact decide_eq_false fun q=>by rw [hi.1 q] at hq;cases hq
theorem f116 (w:ByteArray) (k:Nat) (hk:k=115∨k=119) (H:AHeap) (hT:Top H):∃ v H',C8 (.fn 116) #[.agg ⟨[.func (.func k) #[] #[]]⟩,.string w] H v H'∧v=.bool (readsP (mayB k) w)∧Fr H.n [] H H':=by
 refine Cl.ofW Try.func116 rfl (by kernel_rfl) (by rw [Try.ntmps116];exact Nat.le_of_ble_eq_true rfl) (by kernel_rfl) ?_
 have hEg:True:=trivial
 refine gcW [0,1] ?_
 intro eg hEn
 simp only [forallC,forallL,and_true] at hEn
 try simp only [↓pb,qbs,tb116,hEg,irN,nrA,nrM,nrE,reduceIte,reduceCtorEq,nrL] at hEn
 replace hEg:=hEn;clear hEn
 repeat' (first|((with_reducible refine hK _ _ fun e2 hEn=>?_);clear hK K;simp only [lv116,forallC,forallL,and_true] at hEn;(try simp only [↓pb,qbs,tb116,hEg,irN,nrA,nrM,nrE,reduceIte,reduceCtorEq,nrL] at hEn);clear hEg;(try clear eg);have hEg:=hEn;clear hEn;rename Env=>eg)|((first|((with_reducible first|apply oV_intro|apply oH_intro|apply oB_intro);(simp (disch:=try exact dA) only [qcs,tb116,hEg,irN,nrA,nrM,nrE,reduceIte,reduceCtorEq,nrL];with_reducible exact rfl))|((with_reducible apply WO_callE);(simp only [↓pb,qbs,tb116,hEg,irN,nrA,nrM,nrE,reduceIte,reduceCtorEq,nrL];(exact f75 _ _ _ _)))|((with_reducible apply WO_callV);(focus exact topA);(simp only [↓pb,qbs,tb116,hEg,irN,nrA,nrM,nrE,reduceIte,reduceCtorEq,nrL];(exact f125 w k hk H.n _ (by exact topA) oA (by simp (disch:=try exact dA) only [qcs,tb116,hEg,irN,nrA,nrM,nrE,reduceIte,reduceCtorEq,nrL])));(intro Gq hq hJq;try simp only [upd_n,jn_n] at hq))|(with_reducible first|refine W_regionF lv116 fun K hK=>?_));try simp only [↓pb,↓pd,qds,tb116,hEg,irN,nrA,nrM,nrE,reduceIte,reduceCtorEq,nrL])|(((with_reducible first|apply WO_gT|apply WO_gF);exact rfl);(simp only [↓pb,qbs,tb116,hEg,irN,nrA,nrM,nrE,reduceIte,reduceCtorEq,nrL];with_reducible exact rfl);all_goals (intro hc;(first|exact hcX hc|try simp only [hcs] at hc);try ((with_reducible apply woI);simp only [↓pb,↓pd,qds,tb116,hc,hEg,irN,nrA,nrM,nrE,reduceIte,reduceCtorEq,nrL])))|((with_reducible apply WO_gU);exact rfl;(focus (simp only [↓pb,qbs,tb116,hEg,irN,nrA,nrM,nrE,reduceIte,reduceCtorEq,nrL];done));try simp only [↓pb,↓pd,qds,tb116,hEg,irN,nrA,nrM,nrE,reduceIte,reduceCtorEq,nrL])|(with_reducible first|refine W_seq ?_|refine W_ret ?_)|fail)
 all_goals (
  refine ⟨by first|exact .inl rfl|exact .inr rfl, ?_⟩
  rw [ret1 Try.results116]
  simp only [↓pb,qbs,tb116,rv_tmp,rv_cell,hEg,irN,nrA,nrM,nrE,reduceIte,reduceCtorEq,nrL]
  repeat ((with_reducible apply oV_intro);(simp (disch:=try exact dA) only [qcs,tb116,hEg,irN,nrA,nrM,nrE,reduceIte,reduceCtorEq,nrL];exact rfl)))
 all_goals refine ⟨?_,by exact frA⟩
 all_goals simp [readsP, *]
end Go.Proofs.Swa
