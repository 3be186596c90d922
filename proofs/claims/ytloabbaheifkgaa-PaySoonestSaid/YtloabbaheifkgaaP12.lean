/- Part 12 of a proof. -/
import Derived.Test.YtloabbaheifkgaaP11
set_option maxRecDepth 20000
set_option linter.unusedVariables false
set_option linter.unusedSimpArgs false
namespace Go.Proofs.Swa
open Go
open Nat renaming reduceAdd → nrA, reduceMul → nrM, reduceEqDiff → nrE, reduceLT → nrL
open Int renaming reduceToNat → irN
attribute [local congr] WO_congr oV_congr oB_congr oH_congr WD_congr oblO_congr oblA_congr oblR_congr
set_option maxHeartbeats 4000000 in
theorem f29 (b:Nat) (x nm:Int) (du:Nat) (H:AHeap) (hT:Top H) (hg:H.get b=.cells [uv x] 111 .ex) (hb:b < H.n) (hnm:1≤nm∧nm≤8) (hdu:du≤20) :
  ∃ v H',C8 (.fn 29) #[vptr b 0,iv nm,iv du] H v H'∧(∃ vl vd t x',v=.agg ⟨[iv t.Names,iv t.Limit,iv t.Window,vl,vd]⟩∧SR H' 3 t.Links.length vl (t.Links.flatMap eLnk)∧(t.Links.length=0∨SK H' 3 vl)∧SR H' 4 t.Dues.length vd (t.Dues.flatMap eDue)∧H'.get b=.cells [uv x'] 111 .ex∧TillV t du∧t.Names≤nm)∧Fr H.n [b] H H':=by
 have z1:=btw_spec (x:=x) (lo:=1) (hi:=nm) (by omega) (by omega) (by omega)
 have z2:=below_spec (btwS x 1 nm) 40 (by omega)
 refine Cl.ofW Try.func29 rfl (by kernel_rfl) (by rw [Try.ntmps29];exact Nat.le_of_ble_eq_true rfl) (by kernel_rfl) ?_
 have hEg:True:=trivial
 refine gcW [0,1,2] ?_
 intro eg hEn
 simp only [forallC,forallL,and_true] at hEn
 try simp only [↓pb,qbs,tb29,hg,hEg,irN,nrA,nrM,nrE,reduceIte,reduceCtorEq,nrL] at hEn
 replace hEg:=hEn;clear hEn
 repeat' (first|((with_reducible refine hK _ _ fun e2 hEn=>?_);clear hK K;simp only [lv29,forallC,forallL,and_true] at hEn;(try simp only [↓pb,qbs,tb29,hg,hEg,irN,nrA,nrM,nrE,reduceIte,reduceCtorEq,nrL] at hEn);clear hEg;(try clear eg);have hEg:=hEn;clear hEn;rename Env=>eg)|((first|((with_reducible first|apply oV_intro|apply oH_intro|apply oB_intro);(simp (disch:=try exact dA) only [qcs,tb29,hg,hEg,irN,nrA,nrM,nrE,reduceIte,reduceCtorEq,nrL];with_reducible exact rfl))|((with_reducible first|apply oblA_and|apply oblR_and|apply oblO_and);(focus exact obA))|((with_reducible apply WO_callE);(simp only [↓pb,qbs,tb29,hg,hEg,irN,nrA,nrM,nrE,reduceIte,reduceCtorEq,nrL];(first|exact f24 _ _ _ _ _ (by simp (disch:=try exact dA) only [qcs,tb29,hg,hEg,irN,nrA,nrM,nrE,reduceIte,reduceCtorEq,nrL];rfl)|exact f19 _ _ _ _ (by simp (disch:=try exact dA) only [qcs,tb29,hg,hEg,irN,nrA,nrM,nrE,reduceIte,reduceCtorEq,nrL];rfl) (by omega)|exact f21 _ _ _ [_,_,_] _ (by simp (disch:=try exact dA) only [qcs,tb29,hg,hEg,irN,nrA,nrM,nrE,reduceIte,reduceCtorEq,nrL];rfl) (SR.new rfl) (.inl (by simp only [vblk];omega)) (by simp))))|(with_reducible first|refine W_regionE lv29 [2] fun K hK=>?_|refine W_drawnE lv29 [2] fun K hK=>?_));try simp only [↓pb,↓pd,qds,tb29,hg,hEg,irN,nrA,nrM,nrE,reduceIte,reduceCtorEq,nrL])|((first|((with_reducible first|apply WO_gT|apply WO_gF|apply WD_gT|apply WD_gF);exact rfl)|(with_reducible apply W_cond));(simp only [↓pb,qbs,tb29,hg,hEg,irN,nrA,nrM,nrE,reduceIte,reduceCtorEq,nrL];with_reducible exact rfl);all_goals (intro hc;(first|exact hcX hc|try simp only [hcs] at hc);try ((with_reducible first|apply woI|apply wdI);simp only [↓pb,↓pd,qds,tb29,hg,hc,hEg,irN,nrA,nrM,nrE,reduceIte,reduceCtorEq,nrL])))|((with_reducible apply WO_gU);exact rfl;(focus (simp only [↓pb,qbs,tb29,hg,hEg,irN,nrA,nrM,nrE,reduceIte,reduceCtorEq,nrL];done));try simp only [↓pb,↓pd,qds,tb29,hg,hEg,irN,nrA,nrM,nrE,reduceIte,reduceCtorEq,nrL])|(with_reducible first|refine W_seq ?_|refine W_block ?_|refine W_skip ?_|refine W_ret ?_|refine W_exit ?_|apply blockK_exit)|((with_reducible apply blockK_pass);(focus decide))|fail)
 have z3:=btw_spec (x:=eitherS (belowS (btwS x 1 nm) 40) [10,below (btwS x 1 nm) 40,1000]) (lo:=1) (hi:=6) (by omega) (by omega) (by omega)
 have z4:=either_in (x:=belowS (btwS x 1 nm) 40) (lo:=0) (hi:=1000) (l:=[10,below (btwS x 1 nm) 40,1000]) (by simp) (by simp) fun y hy=>by
  generalize below (btwS x 1 nm) 40=q at z2 hy
  simp only [List.mem_cons,List.not_mem_nil,or_false] at hy
  omega
 have z5:=either_in (x:=btwS (eitherS (belowS (btwS x 1 nm) 40) [10,below (btwS x 1 nm) 40,1000]) 1 6) (lo:=1) (hi:=6) (l:=[1,3,btw (eitherS (belowS (btwS x 1 nm) 40) [10,below (btwS x 1 nm) 40,1000]) 1 6]) (by simp) (by simp) fun y hy=>by
  generalize btw (eitherS (belowS (btwS x 1 nm) 40) [10,below (btwS x 1 nm) 40,1000]) 1 6=q at z3 hy
  simp only [List.mem_cons,List.not_mem_nil,or_false] at hy
  omega
 generalize hw5:either (btwS (eitherS (belowS (btwS x 1 nm) 40) [10,below (btwS x 1 nm) 40,1000]) 1 6) [1,3,btw (eitherS (belowS (btwS x 1 nm) 40) [10,below (btwS x 1 nm) 40,1000]) 1 6]=win at *
 generalize hx5:eitherS (btwS (eitherS (belowS (btwS x 1 nm) 40) [10,below (btwS x 1 nm) 40,1000]) 1 6) [1,3,btw (eitherS (belowS (btwS x 1 nm) 40) [10,below (btwS x 1 nm) 40,1000]) 1 6]=x5 at *
 generalize hw4:either (belowS (btwS x 1 nm) 40) [10,below (btwS x 1 nm) 40,1000]=lim at *
 generalize hw1:btw x 1 nm=names at *
 clear hw5 hx5 hw4 hw1 z2 z3
 refine W_forget (N:=H.n) (X:=[b]) (h0:=H) (fun h=>Top h∧h.get b=.cells [uv x5] 111 .ex∧h.get (H.n + 3)=.cells [iv names,iv lim,iv win,.slice none 0 0,.slice none 0 0] 48 .ex∧h.get H.n=.cells [iv 0,iv 0,iv 0,.slice none 0 0,.slice none 0 0] 48 .ex∧H.n + 4≤h.n) (by exact frA) ⟨by exact topA,by simp (disch:=try exact dA) only [qcs,tb29,hg,hEg,irN,nrA,nrM,nrE,reduceIte,reduceCtorEq,nrL],by simp (disch:=try exact dA) only [qcs,tb29,hg,hEg,irN,nrA,nrM,nrE,reduceIte,reduceCtorEq,nrL],by simp (disch:=try exact dA) only [qcs,tb29,hg,hEg,irN,nrA,nrM,nrE,reduceIte,reduceCtorEq,nrL],by simp only [upd_n];omega⟩ ?_
 rintro h0 hF0 ⟨hT0,g0,gh,gz,n0⟩
 have r0:h0.rd (H.n + 3)=some [iv names,iv lim,iv win,.slice none 0 0,.slice none 0 0]:=by rw [rd_def,gh];rfl
 have w1:IntKind.i64.wrap (names + 1)=names + 1:=wrap64 (by omega) (by omega)
 have c0:=below_spec x5 (min 6 (names + 1)) (by omega)
 repeat' (first|((with_reducible refine hK _ _ fun e2 hEn=>?_);clear hK K;simp only [lv29,forallC,forallL,and_true] at hEn;(try simp only [↓pb,qbs,tb29,hg,hEg,irN,nrA,nrM,nrE,reduceIte,reduceCtorEq,nrL] at hEn);clear hEg;(try clear eg);have hEg:=hEn;clear hEn;rename Env=>eg)|((first|((with_reducible first|apply oV_intro|apply oH_intro|apply oB_intro);(simp (disch:=try exact dA) only [qcs,tb29,hg,r0,g0,w1,hEg,irN,nrA,nrM,nrE,reduceIte,reduceCtorEq,nrL];with_reducible exact rfl))|((with_reducible first|apply oblA_and|apply oblR_and|apply oblO_and);(focus exact obA))|((with_reducible apply WO_callE);(simp only [↓pb,qbs,tb29,hg,r0,g0,w1,hEg,irN,nrA,nrM,nrE,reduceIte,reduceCtorEq,nrL];(exact f19 _ _ _ _ (by simp (disch:=try exact dA) only [qcs,tb29,hg,r0,g0,w1,hEg,irN,nrA,nrM,nrE,reduceIte,reduceCtorEq,nrL];rfl) (by omega))))|(with_reducible first|refine W_regionF lv29 fun K hK=>?_|refine W_drawnF lv29 fun K hK=>?_));try simp only [↓pb,↓pd,qds,tb29,hg,r0,g0,w1,hEg,irN,nrA,nrM,nrE,reduceIte,reduceCtorEq,nrL])|((first|((with_reducible first|apply WO_gT|apply WO_gF|apply WD_gT|apply WD_gF);exact rfl)|(with_reducible apply W_cond));(simp only [↓pb,qbs,tb29,hg,r0,g0,w1,hEg,irN,nrA,nrM,nrE,reduceIte,reduceCtorEq,nrL];with_reducible exact rfl);all_goals (intro hc;(first|exact hcX hc|try simp only [hcs] at hc);try ((with_reducible first|apply woI|apply wdI);simp only [↓pb,↓pd,qds,tb29,hg,r0,g0,w1,hc,hEg,irN,nrA,nrM,nrE,reduceIte,reduceCtorEq,nrL])))|((with_reducible apply WO_gU);exact rfl;(focus (simp only [↓pb,qbs,tb29,hg,r0,g0,w1,hEg,irN,nrA,nrM,nrE,reduceIte,reduceCtorEq,nrL];done));try simp only [↓pb,↓pd,qds,tb29,hg,r0,g0,w1,hEg,irN,nrA,nrM,nrE,reduceIte,reduceCtorEq,nrL])|(with_reducible first|refine W_seq ?_|refine W_block ?_|refine W_skip ?_|refine W_ret ?_|refine W_exit ?_|apply blockK_exit)|((with_reducible apply blockK_pass);(focus decide))|fail)
 generalize hx6:belowS x5 (min 6 (names + 1))=x6 at *
 generalize hcn:below x5 (min 6 (names + 1))=cnt at *
 clear hx6 hcn
 refine W_while [0,2,6,7] (by kernel_rfl) (H.n) [b,H.n + 3] [b] (fun s e h=>∃ (i y:Int) (va:Value) (l:List Lnk) (gg:Option Nat),e 8=iv i∧i.toNat=s∧(0≤i∧i≤6)∧(l.length:Int) + i≤6∧h.get b=.cells [uv y] 111 .ex∧h.get (H.n + 3)=.cells [iv names,iv lim,iv win,va,.slice none 0 0] 48 .ex∧GS h 3 l.length va (l.flatMap eLnk) gg∧(∀ x,gg=some x→H.n≤x)∧(va=.slice none 0 0∨H.n + 3 < vblk va)∧lnksErr (names - 1) [] l=0) (fun s=>s) (cnt.toNat) (by focus exact topA) (H0:=H) (by focus exact frA) (by intro b hb hlt;simp at hb ⊢;try omega) ?_ ?_
 rotate_left
 intro s1 e1 h1 hE1 hF1 hF01 hTh1 hJ1
 simp only [forallC,forallL,and_true] at hE1
 try simp only [↓pb,qbs,tb29,hg,hEg,irN,nrA,nrM,nrE,reduceIte,reduceCtorEq,nrL] at hE1
 have hn11:=hF1.n;have hn01:=hF01.n;try simp only [upd_n,jn_n] at hn11
 replace hEg:=hE1
 rotate_left
 ·refine ⟨cnt,x6,.slice none 0 0,[],none,by simp only [↓pb,qbs,tb29,hg,hEg,irN,nrA,nrM,nrE,reduceIte,reduceCtorEq,nrL],rfl,⟨by omega,by omega⟩,by simp;omega,by simp (disch:=try exact dA) only [qcs,tb29,hg,hEg,irN,nrA,nrM,nrE,reduceIte,reduceCtorEq,nrL],by simp (disch:=try exact dA) only [qcs,tb29,hg,hEg,irN,nrA,nrM,nrE,reduceIte,reduceCtorEq,nrL];exact gh,.nil rfl rfl rfl,by simp,.inl rfl,rfl⟩
 obtain ⟨i1,y1,va,l1,gg,e8,ei,i6,hlen,k1,k2,G,g2,g3,V⟩:=hJ1
 have ho:=G.one
 have r2:h1.rd (H.n + 3)=some [iv names,iv lim,iv win,va,.slice none 0 0]:=by rw [rd_def,k2];rfl
 by_cases hi2:0 < i1
 ·have c1:=below_spec y1 names (by omega)
  have c2:=below_spec (belowS y1 names) names (by omega)
  repeat' (first|((with_reducible refine hK _ _ fun e2 hEn=>?_);clear hK K;simp only [lv29,forallC,forallL,and_true] at hEn;(try simp only [↓pb,qbs,tb29,hg,hEg,irN,nrA,nrM,nrE,reduceIte,reduceCtorEq,nrL] at hEn);clear hEg;(try clear eg);have hEg:=hEn;clear hEn;rename Env=>eg)|((first|((with_reducible first|apply oV_intro|apply oH_intro|apply oB_intro);(simp (disch:=try exact dA) only [qcs,tb29,hg,e8,r2,k1,k2,hi2,ho,hEg,irN,nrA,nrM,nrE,reduceIte,reduceCtorEq,nrL];with_reducible exact rfl))|((with_reducible first|apply oblA_and|apply oblR_and|apply oblO_and);(focus exact obA))|((with_reducible apply WO_callE);(simp only [↓pb,qbs,tb29,hg,e8,r2,k1,k2,hi2,ho,hEg,irN,nrA,nrM,nrE,reduceIte,reduceCtorEq,nrL];(first|exact f19 _ _ _ _ (by simp (disch:=try exact dA) only [qcs,tb29,hg,e8,r2,k1,k2,hi2,ho,hEg,irN,nrA,nrM,nrE,reduceIte,reduceCtorEq,nrL];rfl) (by omega)|exact f78 _ _ _ _ _ (by simp (disch:=try exact dA) only [qcs,tb29,hg,e8,r2,k1,k2,hi2,ho,hEg,irN,nrA,nrM,nrE,reduceIte,reduceCtorEq,nrL];rfl) (by omega))))|(with_reducible first|refine W_regionF lv29 fun K hK=>?_|refine W_drawnF lv29 fun K hK=>?_));try simp only [↓pb,↓pd,qds,tb29,hg,e8,r2,k1,k2,hi2,ho,hEg,irN,nrA,nrM,nrE,reduceIte,reduceCtorEq,nrL])|((first|((with_reducible first|apply WO_gT|apply WO_gF|apply WD_gT|apply WD_gF);exact rfl)|(with_reducible apply W_cond));(simp only [↓pb,qbs,tb29,hg,e8,r2,k1,k2,hi2,ho,hEg,irN,nrA,nrM,nrE,reduceIte,reduceCtorEq,nrL];with_reducible exact rfl);all_goals (intro hc;(first|exact hcX hc|try simp only [hcs] at hc);try ((with_reducible first|apply woI|apply wdI);simp only [↓pb,↓pd,qds,tb29,hg,e8,r2,k1,k2,hi2,ho,hc,hEg,irN,nrA,nrM,nrE,reduceIte,reduceCtorEq,nrL])))|((with_reducible apply WO_gU);exact rfl;(focus (simp only [↓pb,qbs,tb29,hg,e8,r2,k1,k2,hi2,ho,hEg,irN,nrA,nrM,nrE,reduceIte,reduceCtorEq,nrL];done));try simp only [↓pb,↓pd,qds,tb29,hg,e8,r2,k1,k2,hi2,ho,hEg,irN,nrA,nrM,nrE,reduceIte,reduceCtorEq,nrL])|(with_reducible first|refine W_seq ?_|refine W_block ?_|refine W_skip ?_|refine W_ret ?_|refine W_exit ?_|apply blockK_exit)|((with_reducible apply blockK_pass);(focus decide))|fail)
  generalize hA:below y1 names=A at *
  generalize hB:below (belowS y1 names) names=B at *
  generalize hS:decide (below (belowS (belowS y1 names) names) 2 < 1)=sr at *
  generalize hy2:belowS (belowS (belowS y1 names) names) 2=y2 at *
  clear hA hB hS hy2
  have hvb:va=.slice none 0 0∨vblk va∉[b]:=by
   rcases g3 with g3|g3
   ·exact .inl g3
   ·exact .inr nxA
  refine W_forget (N:=H.n) (X:=[b]) (h0:=h1) (fun h=>Top h∧h.get b=.cells [uv y2] 111 .ex∧h.get (H.n + 3)=.cells [iv names,iv lim,iv win,va,.slice none 0 0] 48 .ex∧h.get h1.n=.cells [iv A,iv B,.bool sr] 84 .ex∧GS h 3 l1.length va (l1.flatMap eLnk) gg∧h1.n < h.n) (by exact frA) ⟨by exact topA,by simp (disch:=try exact dA) only [qcs,tb29,hg,hEg,irN,nrA,nrM,nrE,reduceIte,reduceCtorEq,nrL],by simp (disch:=try exact dA) only [qcs,tb29,hg,hEg,irN,nrA,nrM,nrE,reduceIte,reduceCtorEq,nrL];exact k2,upd_get_same,GS.ex (G.fr' (N:=h1.n) (X:=[b]) (by exact frA) (fun x hx=>by subst hx;exact G.grp_lt) hvb),by simp only [upd_n];omega⟩ ?_
  rintro h2 hF2 ⟨hT2,m1,m2,m3,G2,m4⟩
  have hF02:Fr H.n [b] H h2:=hF01.trans' hF2 (Nat.le_refl _) (by simp)
  have r2a:h2.rd (H.n + 3)=some [iv names,iv lim,iv win,va,.slice none 0 0]:=by rw [rd_def,m2];rfl
  have hlt:=G2.sr.lt
  have w64e:∀ h,lenV Try.prog 45 va h=some (.int .i64 (l1.length:Nat)):=fun h=>lns45 G2.sr
  refine W_count [0,2,6,7,8,9] (by kernel_rfl) 11 (l1.length) (H.n) [] [b] (fun i e h=>e 10=.bool (decide (A≠B) && !(l1.take i).any (fun o=>sameL o ⟨A,B,sr⟩))∧GS h 3 l1.length va (l1.flatMap eLnk) gg) (by simp only [↓pb,qbs,tb29,hg,hEg,irN,nrA,nrM,nrE,reduceIte,reduceCtorEq,nrL]) (by focus exact topA) (H0:=H) (by focus exact frA) (by intro b hb hlt;simp at hb ⊢;try omega) ?_ ?_
  rotate_left
  intro i3 e3 h3 hi3 hE3 ei3 hF3 hF03 hTh3 hJ3
  simp only [forallC,forallL,and_true] at hE3
  try simp only [↓pb,qbs,tb29,hg,hEg,irN,nrA,nrM,nrE,reduceIte,reduceCtorEq,nrL] at hE3
  have hn13:=hF3.n;have hn03:=hF03.n;try simp only [upd_n,jn_n] at hn13
  replace hEg:=And.intro ei3 hE3
  rotate_left
  ·exact ⟨by simp only [hEg,List.take_zero,List.any_nil,Bool.not_false,Bool.and_true],G2⟩
  obtain ⟨hJ3,G3⟩:=hJ3
  have S3:=G2.sr.fr0 hF3
  have l3:=S3.lt
  have e0:=S3.el eLnk_len rfl
  have r3:h3.rd (H.n + 3)=some [iv names,iv lim,iv win,va,.slice none 0 0]:=by rw [rd_def,hF3.old _ (by omega) (by simp),← rd_def];exact r2a
  have r3b:h3.rd h1.n=some [iv A,iv B,.bool sr]:=by rw [rd_def,hF3.old _ (by omega) (by simp),m3];rfl
  by_cases hi3:i3 < l1.length
  ·have ht:(l1.take (i3 + 1)).any (fun o=>sameL o ⟨A,B,sr⟩)=((l1.take i3).any (fun o=>sameL o ⟨A,B,sr⟩) || sameL (l1.getD i3 default) ⟨A,B,sr⟩):=by rw [take_getD hi3,List.any_append];simp
   rw [ht]
   have hI:∀ q:Bool,(decide (A≠B) && !((l1.take i3).any (fun o=>sameL o ⟨A,B,sr⟩) || q))=((decide (A≠B) && !(l1.take i3).any (fun o=>sameL o ⟨A,B,sr⟩)) && !q):=fun q=>by rw [Bool.not_or,Bool.and_assoc]
   rw [hI]
   generalize (decide (A≠B) && !(l1.take i3).any (fun o=>sameL o ⟨A,B,sr⟩))=isv at *
   generalize hx:l1.getD i3 default=o at *
   cases isv
   ·repeat' (first|((with_reducible refine hK _ _ fun e2 hEn=>?_);clear hK K;simp only [lv29,forallC,forallL,and_true] at hEn;(try simp only [↓pb,qbs,tb29,hg,hEg,irN,nrA,nrM,nrE,reduceIte,reduceCtorEq,nrL] at hEn);clear hEg;(try clear eg);have hEg:=hEn;clear hEn;rename Env=>eg)|((first|((with_reducible first|apply oV_intro|apply oH_intro|apply oB_intro);(simp (disch:=try exact dA) only [qcs,tb29,hg,hJ3,r3,w64e,ias45 S3,S3.rd,e0,hx,eLnk,hEg,irN,nrA,nrM,nrE,reduceIte,reduceCtorEq,nrL];with_reducible exact rfl))|((with_reducible first|apply oblA_and|apply oblR_and|apply oblO_and);(focus exact obA))|(with_reducible first|refine W_regionF lv29 fun K hK=>?_|refine W_drawnF lv29 fun K hK=>?_));try simp only [↓pb,↓pd,qds,tb29,hg,hJ3,r3,w64e,ias45 S3,S3.rd,e0,hx,eLnk,hEg,irN,nrA,nrM,nrE,reduceIte,reduceCtorEq,nrL])|((first|((with_reducible first|apply WO_gT|apply WO_gF|apply WD_gT|apply WD_gF);exact rfl)|(with_reducible apply W_cond));(simp only [↓pb,qbs,tb29,hg,hJ3,r3,w64e,ias45 S3,S3.rd,e0,hx,eLnk,hEg,irN,nrA,nrM,nrE,reduceIte,reduceCtorEq,nrL];with_reducible exact rfl);all_goals (intro hc;(first|exact hcX hc|try simp only [hcs] at hc);try ((with_reducible first|apply woI|apply wdI);simp only [↓pb,↓pd,qds,tb29,hg,hJ3,r3,w64e,ias45 S3,S3.rd,e0,hx,eLnk,hc,hEg,irN,nrA,nrM,nrE,reduceIte,reduceCtorEq,nrL])))|((with_reducible apply WO_gU);exact rfl;(focus (simp only [↓pb,qbs,tb29,hg,hJ3,r3,w64e,ias45 S3,S3.rd,e0,hx,eLnk,hEg,irN,nrA,nrM,nrE,reduceIte,reduceCtorEq,nrL];done));try simp only [↓pb,↓pd,qds,tb29,hg,hJ3,r3,w64e,ias45 S3,S3.rd,e0,hx,eLnk,hEg,irN,nrA,nrM,nrE,reduceIte,reduceCtorEq,nrL])|(with_reducible first|refine W_seq ?_|refine W_block ?_|refine W_skip ?_|refine W_ret ?_|refine W_exit ?_|apply blockK_exit)|((with_reducible apply blockK_pass);(focus decide))|fail)
    refine ⟨hi3,by simp only [hEg];exact congrArg _ (inc64 (by omega)),by exact frA, ?_,G3.ex⟩
    simp only [hEg,Bool.false_and]
   ·repeat' (first|((with_reducible refine hK _ _ fun e2 hEn=>?_);clear hK K;simp only [lv29,forallC,forallL,and_true] at hEn;(try simp only [↓pb,qbs,tb29,hg,hEg,irN,nrA,nrM,nrE,reduceIte,reduceCtorEq,nrL] at hEn);clear hEg;(try clear eg);have hEg:=hEn;clear hEn;rename Env=>eg)|((first|((with_reducible first|apply oV_intro|apply oH_intro|apply oB_intro);(simp (disch:=try exact dA) only [qcs,tb29,hg,hJ3,r3,r3b,w64e,ias45 S3,S3.rd,e0,hx,eLnk,hEg,irN,nrA,nrM,nrE,reduceIte,reduceCtorEq,nrL];with_reducible exact rfl))|((with_reducible first|apply oblA_and|apply oblR_and|apply oblO_and);(focus exact obA))|(with_reducible first|refine W_regionF lv29 fun K hK=>?_|refine W_drawnF lv29 fun K hK=>?_));try simp only [↓pb,↓pd,qds,tb29,hg,hJ3,r3,r3b,w64e,ias45 S3,S3.rd,e0,hx,eLnk,hEg,irN,nrA,nrM,nrE,reduceIte,reduceCtorEq,nrL])|((first|((with_reducible first|apply WO_gT|apply WO_gF|apply WD_gT|apply WD_gF);exact rfl)|(with_reducible apply W_cond));(simp only [↓pb,qbs,tb29,hg,hJ3,r3,r3b,w64e,ias45 S3,S3.rd,e0,hx,eLnk,hEg,irN,nrA,nrM,nrE,reduceIte,reduceCtorEq,nrL];with_reducible exact rfl);all_goals (intro hc;(first|exact hcX hc|try simp only [hcs] at hc);try ((with_reducible first|apply woI|apply wdI);simp only [↓pb,↓pd,qds,tb29,hg,hJ3,r3,r3b,w64e,ias45 S3,S3.rd,e0,hx,eLnk,hc,hEg,irN,nrA,nrM,nrE,reduceIte,reduceCtorEq,nrL])))|((with_reducible apply WO_gU);exact rfl;(focus (simp only [↓pb,qbs,tb29,hg,hJ3,r3,r3b,w64e,ias45 S3,S3.rd,e0,hx,eLnk,hEg,irN,nrA,nrM,nrE,reduceIte,reduceCtorEq,nrL];done));try simp only [↓pb,↓pd,qds,tb29,hg,hJ3,r3,r3b,w64e,ias45 S3,S3.rd,e0,hx,eLnk,hEg,irN,nrA,nrM,nrE,reduceIte,reduceCtorEq,nrL])|(with_reducible first|refine W_seq ?_|refine W_block ?_|refine W_skip ?_|refine W_ret ?_|refine W_exit ?_|apply blockK_exit)|((with_reducible apply blockK_pass);(focus decide))|fail)
    all_goals (
     refine ⟨hi3,by simp only [hEg];exact congrArg _ (inc64 (by omega)),by exact frA, ?_,G3.ex⟩
     simp only [hEg]
     congr 1
     rw [Bool.true_and]
     unfold sameL
     dsimp only
     by_cases a1:o.A=A <;> by_cases a2:o.B=B <;> by_cases a3:o.A=B <;> by_cases a4:o.B=A <;> first|(exfalso;omega)|(simp [a1,a2,a3,a4];done)|(simp [a1,a2,a3,a4];omega))
  ·have e3l:i3=l1.length:=by omega
   subst e3l
   rw [List.take_length] at hJ3
   repeat' (first|((with_reducible refine hK _ _ fun e2 hEn=>?_);clear hK K;simp only [lv29,forallC,forallL,and_true] at hEn;(try simp only [↓pb,qbs,tb29,hg,hEg,irN,nrA,nrM,nrE,reduceIte,reduceCtorEq,nrL] at hEn);clear hEg;(try clear eg);have hEg:=hEn;clear hEn;rename Env=>eg)|((first|((with_reducible first|apply oV_intro|apply oH_intro|apply oB_intro);(simp (disch:=try exact dA) only [qcs,tb29,hg,hJ3,r3,w64e,hEg,irN,nrA,nrM,nrE,reduceIte,reduceCtorEq,nrL];with_reducible exact rfl))|((with_reducible first|apply oblA_and|apply oblR_and|apply oblO_and);(focus exact obA))|(with_reducible first|refine W_regionE lv29 [12] fun K hK=>?_|refine W_drawnE lv29 [12] fun K hK=>?_));try simp only [↓pb,↓pd,qds,tb29,hg,hJ3,r3,w64e,hEg,irN,nrA,nrM,nrE,reduceIte,reduceCtorEq,nrL])|((first|((with_reducible first|apply WO_gT|apply WO_gF|apply WD_gT|apply WD_gF);exact rfl)|(with_reducible apply W_cond));(simp only [↓pb,qbs,tb29,hg,hJ3,r3,w64e,hEg,irN,nrA,nrM,nrE,reduceIte,reduceCtorEq,nrL];with_reducible exact rfl);all_goals (intro hc;(first|exact hcX hc|try simp only [hcs] at hc);try ((with_reducible first|apply woI|apply wdI);simp only [↓pb,↓pd,qds,tb29,hg,hJ3,r3,w64e,hc,hEg,irN,nrA,nrM,nrE,reduceIte,reduceCtorEq,nrL])))|((with_reducible apply WO_gU);exact rfl;(focus (simp only [↓pb,qbs,tb29,hg,hJ3,r3,w64e,hEg,irN,nrA,nrM,nrE,reduceIte,reduceCtorEq,nrL];done));try simp only [↓pb,↓pd,qds,tb29,hg,hJ3,r3,w64e,hEg,irN,nrA,nrM,nrE,reduceIte,reduceCtorEq,nrL])|(with_reducible first|refine W_seq ?_|refine W_block ?_|refine W_skip ?_|refine W_ret ?_|refine W_exit ?_|apply blockK_exit)|((with_reducible apply blockK_pass);(focus decide))|fail)
   generalize hiv:(decide (A≠B) && !l1.any (fun o=>sameL o ⟨A,B,sr⟩))=isv at *
   have hw:IntKind.i64.wrap (i1 - 1)=i1 - 1:=wrap64 (by omega) (by omega)
   obtain ⟨n2,rfl⟩:∃ n2,s1=n2 + 1:=⟨s1 - 1,by omega⟩
   have k3:h3.get b=.cells [uv y2] 111 .ex:=by rw [hF3.old _ (by omega) (by simp)];exact m1
   have k4:h3.get (H.n + 3)=.cells [iv names,iv lim,iv win,va,.slice none 0 0] 48 .ex:=by rw [hF3.old _ (by omega) (by simp)];exact m2
   have hF13:Fr H.n [b,H.n + 3] (fh h0 b x6) h3:=(hF1.trans' hF2 (Nat.le_refl _) (by simp)).trans' hF3 (Nat.le_refl _) (by simp)
   cases isv
   ·repeat' (first|((with_reducible refine hK _ _ fun e2 hEn=>?_);clear hK K;simp only [lv29,forallC,forallL,and_true] at hEn;(try simp only [↓pb,qbs,tb29,hg,hEg,irN,nrA,nrM,nrE,reduceIte,reduceCtorEq,nrL] at hEn);clear hEg;(try clear eg);have hEg:=hEn;clear hEn;rename Env=>eg)|((first|((with_reducible first|apply oV_intro|apply oH_intro|apply oB_intro);(simp (disch:=try exact dA) only [qcs,tb29,hg,hJ3,e8,hEg,irN,nrA,nrM,nrE,reduceIte,reduceCtorEq,nrL];with_reducible exact rfl))|((with_reducible first|apply oblA_and|apply oblR_and|apply oblO_and);(focus exact obA))|(with_reducible first|refine W_regionF lv29 fun K hK=>?_|refine W_drawnF lv29 fun K hK=>?_));try simp only [↓pb,↓pd,qds,tb29,hg,hJ3,e8,hEg,irN,nrA,nrM,nrE,reduceIte,reduceCtorEq,nrL])|((first|((with_reducible first|apply WO_gT|apply WO_gF|apply WD_gT|apply WD_gF);exact rfl)|(with_reducible apply W_cond));(simp only [↓pb,qbs,tb29,hg,hJ3,e8,hEg,irN,nrA,nrM,nrE,reduceIte,reduceCtorEq,nrL];with_reducible exact rfl);all_goals (intro hc;(first|exact hcX hc|try simp only [hcs] at hc);try ((with_reducible first|apply woI|apply wdI);simp only [↓pb,↓pd,qds,tb29,hg,hJ3,e8,hc,hEg,irN,nrA,nrM,nrE,reduceIte,reduceCtorEq,nrL])))|((with_reducible apply WO_gU);exact rfl;(focus (simp only [↓pb,qbs,tb29,hg,hJ3,e8,hEg,irN,nrA,nrM,nrE,reduceIte,reduceCtorEq,nrL];done));try simp only [↓pb,↓pd,qds,tb29,hg,hJ3,e8,hEg,irN,nrA,nrM,nrE,reduceIte,reduceCtorEq,nrL])|(with_reducible first|refine W_seq ?_|refine W_block ?_|refine W_skip ?_|refine W_ret ?_|refine W_exit ?_|apply blockK_exit)|((with_reducible apply blockK_pass);(focus decide))|fail)
    refine ⟨n2,Nat.lt_succ_self _,hF13,i1 - 1,y2,va,l1,gg,by simp only [hEg,e8,hw],by omega,⟨by omega,by omega⟩,by omega,k3,k4,G3,g2,g3,V⟩
   ·repeat' (first|((with_reducible refine hK _ _ fun e2 hEn=>?_);clear hK K;simp only [lv29,forallC,forallL,and_true] at hEn;(try simp only [↓pb,qbs,tb29,hg,hEg,irN,nrA,nrM,nrE,reduceIte,reduceCtorEq,nrL] at hEn);clear hEg;(try clear eg);have hEg:=hEn;clear hEn;rename Env=>eg)|((first|((with_reducible first|apply oV_intro|apply oH_intro|apply oB_intro);(simp (disch:=try exact dA) only [qcs,tb29,hg,hJ3,e8,r3,r3b,k4,hEg,irN,nrA,nrM,nrE,reduceIte,reduceCtorEq,nrL];with_reducible exact rfl))|((with_reducible first|apply oblA_and|apply oblR_and|apply oblO_and);(focus exact obA))|(with_reducible first|refine W_regionF lv29 fun K hK=>?_|refine W_drawnF lv29 fun K hK=>?_));try simp only [↓pb,↓pd,qds,tb29,hg,hJ3,e8,r3,r3b,k4,hEg,irN,nrA,nrM,nrE,reduceIte,reduceCtorEq,nrL])|((first|((with_reducible first|apply WO_gT|apply WO_gF|apply WD_gT|apply WD_gF);exact rfl)|(with_reducible apply W_cond));(simp only [↓pb,qbs,tb29,hg,hJ3,e8,r3,r3b,k4,hEg,irN,nrA,nrM,nrE,reduceIte,reduceCtorEq,nrL];with_reducible exact rfl);all_goals (intro hc;(first|exact hcX hc|try simp only [hcs] at hc);try ((with_reducible first|apply woI|apply wdI);simp only [↓pb,↓pd,qds,tb29,hg,hJ3,e8,r3,r3b,k4,hc,hEg,irN,nrA,nrM,nrE,reduceIte,reduceCtorEq,nrL])))|((with_reducible apply WO_gU);exact rfl;(focus (simp only [↓pb,qbs,tb29,hg,hJ3,e8,r3,r3b,k4,hEg,irN,nrA,nrM,nrE,reduceIte,reduceCtorEq,nrL];done));try simp only [↓pb,↓pd,qds,tb29,hg,hJ3,e8,r3,r3b,k4,hEg,irN,nrA,nrM,nrE,reduceIte,reduceCtorEq,nrL])|(with_reducible first|refine W_seq ?_|refine W_block ?_|refine W_skip ?_|refine W_ret ?_|refine W_exit ?_|apply blockK_exit)|((with_reducible apply blockK_pass);(focus decide))|fail)
    refine pu45 (n:=l1.length) (m:=1) (c:=l1.flatMap eLnk) (g:=gg) G3.ex (SR.new rfl) (by omega) (by omega) (by omega) (by exact topA) fun GG=>?_
    have hgd1:=gd_ge g2 (n:=h3.n + 1) (by omega)
    have hgd2:=GG.grp_lt
    simp only [upd_n,jn_n] at hgd2
    simp only [upd_n,jn_n,nb] at GG
    simp only [↓pb,↓pd,qds,tb29,hg,e8,k4,hEg,irN,nrA,nrM,nrE,reduceIte,reduceCtorEq,nrL]
    repeat' (first|((with_reducible refine hK _ _ fun e2 hEn=>?_);clear hK K;simp only [lv29,forallC,forallL,and_true] at hEn;(try simp only [↓pb,qbs,tb29,hg,hEg,irN,nrA,nrM,nrE,reduceIte,reduceCtorEq,nrL] at hEn);clear hEg;(try clear eg);have hEg:=hEn;clear hEn;rename Env=>eg)|((first|((with_reducible first|apply oV_intro|apply oH_intro|apply oB_intro);(simp (disch:=try exact dA) only [qcs,tb29,hg,e8,k4,hEg,irN,nrA,nrM,nrE,reduceIte,reduceCtorEq,nrL];with_reducible exact rfl))|((with_reducible first|apply oblA_and|apply oblR_and|apply oblO_and);(focus exact obA))|(with_reducible first|refine W_regionF lv29 fun K hK=>?_|refine W_drawnF lv29 fun K hK=>?_));try simp only [↓pb,↓pd,qds,tb29,hg,e8,k4,hEg,irN,nrA,nrM,nrE,reduceIte,reduceCtorEq,nrL])|((first|((with_reducible first|apply WO_gT|apply WO_gF|apply WD_gT|apply WD_gF);exact rfl)|(with_reducible apply W_cond));(simp only [↓pb,qbs,tb29,hg,e8,k4,hEg,irN,nrA,nrM,nrE,reduceIte,reduceCtorEq,nrL];with_reducible exact rfl);all_goals (intro hc;(first|exact hcX hc|try simp only [hcs] at hc);try ((with_reducible first|apply woI|apply wdI);simp only [↓pb,↓pd,qds,tb29,hg,e8,k4,hc,hEg,irN,nrA,nrM,nrE,reduceIte,reduceCtorEq,nrL])))|((with_reducible apply WO_gU);exact rfl;(focus (simp only [↓pb,qbs,tb29,hg,e8,k4,hEg,irN,nrA,nrM,nrE,reduceIte,reduceCtorEq,nrL];done));try simp only [↓pb,↓pd,qds,tb29,hg,e8,k4,hEg,irN,nrA,nrM,nrE,reduceIte,reduceCtorEq,nrL])|(with_reducible first|refine W_seq ?_|refine W_block ?_|refine W_skip ?_|refine W_ret ?_|refine W_exit ?_|apply blockK_exit)|((with_reducible apply blockK_pass);(focus decide))|fail)
    have hiv2:¬ A=B∧l1.any (fun o=>sameL o ⟨A,B,sr⟩)=false:=by
     rw [Bool.and_eq_true,decide_eq_true_eq,Bool.not_eq_true'] at hiv
     exact hiv
    refine ⟨n2,Nat.lt_succ_self _,(by exact frA),i1 - 1,y2,.slice (some ⟨h3.n + 1,0,none⟩) (l1.length + 1) (l1.length + 1),l1 ++ [⟨A,B,sr⟩],some (gg.getD (h3.n + 1)),by simp only [hEg,e8,hw],by omega,⟨by omega,by omega⟩, ?_,by simp (disch:=try exact dA) only [qcs,tb29,hg,hEg,irN,nrA,nrM,nrE,reduceIte,reduceCtorEq,nrL];exact k3,by simp (disch:=try exact dA) only [qcs,tb29,hg,hEg,irN,nrA,nrM,nrE,reduceIte,reduceCtorEq,nrL], ?_,gd_all hgd1,.inr (by show H.n + 3 < h3.n + 1;omega),lnksErr_snoc V (by rw [List.nil_append];exact lnkBad_mk (by dsimp only;omega) (by dsimp only;omega) hiv2.1 hiv2.2)⟩
    ·rw [List.length_append,List.length_singleton]
     omega
    ·rw [List.flatMap_append,List.flatMap_singleton,List.length_append]
     exact GG.fr (N:=h3.n + 2) (X:=[H.n + 3]) (by exact frA) (fun x hx=>by cases hx;exact hgd2) (by show h3.n + 1∉[H.n + 3];exact nxA)
 ·have e0:s1=0:=by omega
  repeat' (first|((with_reducible refine hK _ _ fun e2 hEn=>?_);clear hK K;simp only [lv29,forallC,forallL,and_true] at hEn;(try simp only [↓pb,qbs,tb29,hg,hEg,irN,nrA,nrM,nrE,reduceIte,reduceCtorEq,nrL] at hEn);clear hEg;(try clear eg);have hEg:=hEn;clear hEn;rename Env=>eg)|((first|((with_reducible first|apply oV_intro|apply oH_intro|apply oB_intro);(simp (disch:=try exact dA) only [qcs,tb29,hg,e8,r2,k1,k2,hi2,ho,hEg,irN,nrA,nrM,nrE,reduceIte,reduceCtorEq,nrL];with_reducible exact rfl))|((with_reducible first|apply oblA_and|apply oblR_and|apply oblO_and);(focus exact obA))|(with_reducible first|refine W_regionE lv29 [14] fun K hK=>?_|refine W_drawnE lv29 [14] fun K hK=>?_));try simp only [↓pb,↓pd,qds,tb29,hg,e8,r2,k1,k2,hi2,ho,hEg,irN,nrA,nrM,nrE,reduceIte,reduceCtorEq,nrL])|((first|((with_reducible first|apply WO_gT|apply WO_gF|apply WD_gT|apply WD_gF);exact rfl)|(with_reducible apply W_cond));(simp only [↓pb,qbs,tb29,hg,e8,r2,k1,k2,hi2,ho,hEg,irN,nrA,nrM,nrE,reduceIte,reduceCtorEq,nrL];with_reducible exact rfl);all_goals (intro hc;(first|exact hcX hc|try simp only [hcs] at hc);try ((with_reducible first|apply woI|apply wdI);simp only [↓pb,↓pd,qds,tb29,hg,e8,r2,k1,k2,hi2,ho,hc,hEg,irN,nrA,nrM,nrE,reduceIte,reduceCtorEq,nrL])))|((with_reducible apply WO_gU);exact rfl;(focus (simp only [↓pb,qbs,tb29,hg,e8,r2,k1,k2,hi2,ho,hEg,irN,nrA,nrM,nrE,reduceIte,reduceCtorEq,nrL];done));try simp only [↓pb,↓pd,qds,tb29,hg,e8,r2,k1,k2,hi2,ho,hEg,irN,nrA,nrM,nrE,reduceIte,reduceCtorEq,nrL])|(with_reducible first|refine W_seq ?_|refine W_block ?_|refine W_skip ?_|refine W_ret ?_|refine W_exit ?_|apply blockK_exit)|((with_reducible apply blockK_pass);(focus decide))|fail)
  have wd:IntKind.i64.wrap ((du:Int) + 1)=du + 1:=wrap64 (by omega) (by omega)
  have c1:=below_spec y1 5 (by omega)
  have c2:=below_spec (belowS y1 5) ((du:Int) + 1) (by omega)
  repeat' (first|((with_reducible refine hK _ _ fun e2 hEn=>?_);clear hK K;simp only [lv29,forallC,forallL,and_true] at hEn;(try simp only [↓pb,qbs,tb29,hg,hEg,irN,nrA,nrM,nrE,reduceIte,reduceCtorEq,nrL] at hEn);clear hEg;(try clear eg);have hEg:=hEn;clear hEn;rename Env=>eg)|((first|((with_reducible first|apply oV_intro|apply oH_intro|apply oB_intro);(simp (disch:=try exact dA) only [qcs,tb29,hg,k1,wd,hEg,irN,nrA,nrM,nrE,reduceIte,reduceCtorEq,nrL];with_reducible exact rfl))|((with_reducible first|apply oblA_and|apply oblR_and|apply oblO_and);(focus exact obA))|((with_reducible apply WO_callE);(simp only [↓pb,qbs,tb29,hg,k1,wd,hEg,irN,nrA,nrM,nrE,reduceIte,reduceCtorEq,nrL];(exact f19 _ _ _ _ (by simp (disch:=try exact dA) only [qcs,tb29,hg,k1,wd,hEg,irN,nrA,nrM,nrE,reduceIte,reduceCtorEq,nrL];rfl) (by omega))))|(with_reducible first|refine W_regionF lv29 fun K hK=>?_|refine W_drawnF lv29 fun K hK=>?_));try simp only [↓pb,↓pd,qds,tb29,hg,k1,wd,hEg,irN,nrA,nrM,nrE,reduceIte,reduceCtorEq,nrL])|((first|((with_reducible first|apply WO_gT|apply WO_gF|apply WD_gT|apply WD_gF);exact rfl)|(with_reducible apply W_cond));(simp only [↓pb,qbs,tb29,hg,k1,wd,hEg,irN,nrA,nrM,nrE,reduceIte,reduceCtorEq,nrL];with_reducible exact rfl);all_goals (intro hc;(first|exact hcX hc|try simp only [hcs] at hc);try ((with_reducible first|apply woI|apply wdI);simp only [↓pb,↓pd,qds,tb29,hg,k1,wd,hc,hEg,irN,nrA,nrM,nrE,reduceIte,reduceCtorEq,nrL])))|((with_reducible apply WO_gU);exact rfl;(focus (simp only [↓pb,qbs,tb29,hg,k1,wd,hEg,irN,nrA,nrM,nrE,reduceIte,reduceCtorEq,nrL];done));try simp only [↓pb,↓pd,qds,tb29,hg,k1,wd,hEg,irN,nrA,nrM,nrE,reduceIte,reduceCtorEq,nrL])|(with_reducible first|refine W_seq ?_|refine W_block ?_|refine W_skip ?_|refine W_ret ?_|refine W_exit ?_|apply blockK_exit)|((with_reducible apply blockK_pass);(focus decide))|fail)
  generalize below y1 5=d0 at *
  generalize hq2:below (belowS y1 5) ((du:Int) + 1)=cn2 at *
  generalize hq3:belowS (belowS y1 5) ((du:Int) + 1)=x7 at *
  clear hq2 hq3
  have hvb:l1.length=0∨vblk va∉[b,H.n + 3]:=by
   rcases g3 with rfl|g3
   ·left;exact (G.sr.shape.elim And.right fun ⟨_,_,_,h,_⟩=>by cases h)
   ·exact .inr nxA
  have hFX:Fr H.n [b,H.n + 3] h1 (fh h1 b x7):=by exact frA
  have Sv:SR (fh h1 b x7) 3 l1.length va (l1.flatMap eLnk):=G.sr.fr hFX hvb
  have Kv:l1.length=0∨SK (fh h1 b x7) 3 va:=by
   rcases G.sk with q|q
   ·exact .inl q
   ·rcases G.sr.lt with q2|q2
    ·exact .inl q2
    ·rcases hvb with q3|q3
     ·exact .inl q3
     ·exact .inr (q.fr hFX q2 q3)
  refine W_while [0,6,7] (by kernel_rfl) (H.n) [b,H.n + 3] [b] (fun s e h=>∃ (i y d:Int) (vb:Value) (l:List Due) (gg:Option Nat),e 14=iv i∧i.toNat=s∧(0≤i∧(l.length:Int) + i≤du)∧e 13=iv d∧0≤d∧d≤4 + 4 * l.length∧h.get b=.cells [uv y] 111 .ex∧h.get (H.n + 3)=.cells [iv names,iv lim,iv win,va,vb] 48 .ex∧SR h 3 l1.length va (l1.flatMap eLnk)∧(l1.length=0∨SK h 3 va)∧GS h 4 l.length vb (l.flatMap eDue) gg∧(∀ x,gg=some x→H.n≤x)∧(vb=.slice none 0 0∨H.n + 3 < vblk vb)∧duesErr (names - 1) none l=0∧(∀ x,x∈l→x.Day≤d∧x.Cents≤1001)) (fun s=>s) (cn2.toNat) (by focus exact topA) (H0:=H) (by focus exact frA) (by intro b hb hlt;simp at hb ⊢;try omega) ?_ ?_
  rotate_left
  intro s4 e4 h4 hE4 hF4 hF04 hTh4 hJ4
  simp only [forallC,forallL,and_true] at hE4
  try simp only [↓pb,qbs,tb29,hg,hEg,irN,nrA,nrM,nrE,reduceIte,reduceCtorEq,nrL] at hE4
  have hn14:=hF4.n;have hn04:=hF04.n;try simp only [upd_n,jn_n] at hn14
  replace hEg:=hE4
  rotate_left
  ·refine ⟨cn2,x7,d0,.slice none 0 0,[],none,by simp only [↓pb,qbs,tb29,hg,hEg,irN,nrA,nrM,nrE,reduceIte,reduceCtorEq,nrL],rfl,⟨by omega,by simp;omega⟩,by simp only [↓pb,qbs,tb29,hg,hEg,irN,nrA,nrM,nrE,reduceIte,reduceCtorEq,nrL],by omega,by simp;omega,by simp (disch:=try exact dA) only [qcs,tb29,hg,hEg,irN,nrA,nrM,nrE,reduceIte,reduceCtorEq,nrL],by simp (disch:=try exact dA) only [qcs,tb29,hg,hEg,irN,nrA,nrM,nrE,reduceIte,reduceCtorEq,nrL];exact k2,Sv,Kv,.nil rfl rfl rfl,by simp,.inl rfl,rfl,fun x hx=>(by cases hx)⟩
  obtain ⟨i4,y4,d4,vb,dl,g5,q14,qi,qlen,q13,qd0,qd1,p1,p2,Sa,Ka,Gd,g6,g7,Vd,Vb⟩:=hJ4
  have hod:=Gd.one
  have hoa:=Sa.one
  have r4:h4.rd (H.n + 3)=some [iv names,iv lim,iv win,va,vb]:=by rw [rd_def,p2];rfl
  by_cases hi4:0 < i4
  ·have u1:=below_spec y4 names (by omega)
   have w2:IntKind.i64.wrap (lim.tdiv 2)=lim / 2:=by rw [Int.tdiv_eq_ediv_of_nonneg (by omega)];exact wrap64 (by omega) (by omega)
   have w3:IntKind.i64.wrap (1 + lim / 2)=1 + lim / 2:=wrap64 (by omega) (by omega)
   have w4:IntKind.i64.wrap (lim.tdiv 4)=lim / 4:=by rw [Int.tdiv_eq_ediv_of_nonneg (by omega)];exact wrap64 (by omega) (by omega)
   have w5:IntKind.i64.wrap (1 + lim / 4)=1 + lim / 4:=wrap64 (by omega) (by omega)
   have w6:IntKind.i64.wrap (lim + 2)=lim + 2:=wrap64 (by omega) (by omega)
   have u2:=below_spec (belowS y4 names) (1 + lim / 2) (by omega)
   have u3:=below_spec (belowS (belowS y4 names) (1 + lim / 2)) (1 + lim / 4) (by omega)
   have u4:=below_spec (belowS (belowS (belowS y4 names) (1 + lim / 2)) (1 + lim / 4)) (lim + 2) (by omega)
   repeat' (first|((with_reducible refine hK _ _ fun e2 hEn=>?_);clear hK K;simp only [lv29,forallC,forallL,and_true] at hEn;(try simp only [↓pb,qbs,tb29,hg,hEg,irN,nrA,nrM,nrE,reduceIte,reduceCtorEq,nrL] at hEn);clear hEg;(try clear eg);have hEg:=hEn;clear hEn;rename Env=>eg)|((first|((with_reducible first|apply oV_intro|apply oH_intro|apply oB_intro);(simp (disch:=try exact dA) only [qcs,tb29,hg,w2,w3,w4,w5,w6,q14,q13,r4,p1,p2,hi4,hod,hoa,hEg,irN,nrA,nrM,nrE,reduceIte,reduceCtorEq,nrL];with_reducible exact rfl))|((with_reducible first|apply oblA_and|apply oblR_and|apply oblO_and);(focus exact obA))|((with_reducible apply WO_callE);(simp only [↓pb,qbs,tb29,hg,w2,w3,w4,w5,w6,q14,q13,r4,p1,p2,hi4,hod,hoa,hEg,irN,nrA,nrM,nrE,reduceIte,reduceCtorEq,nrL];(first|exact f19 _ _ _ _ (by simp (disch:=try exact dA) only [qcs,tb29,hg,w2,w3,w4,w5,w6,q14,q13,r4,p1,p2,hi4,hod,hoa,hEg,irN,nrA,nrM,nrE,reduceIte,reduceCtorEq,nrL];rfl) (by omega)|exact f21 _ _ _ [_,_,_,_] _ (by simp (disch:=try exact dA) only [qcs,tb29,hg,w2,w3,w4,w5,w6,q14,q13,r4,p1,p2,hi4,hod,hoa,hEg,irN,nrA,nrM,nrE,reduceIte,reduceCtorEq,nrL];rfl) (SR.new rfl) (.inl (by simp only [vblk];omega)) (by simp)|exact f78 _ _ _ _ _ (by simp (disch:=try exact dA) only [qcs,tb29,hg,w2,w3,w4,w5,w6,q14,q13,r4,p1,p2,hi4,hod,hoa,hEg,irN,nrA,nrM,nrE,reduceIte,reduceCtorEq,nrL];rfl) (by omega))))|(with_reducible first|refine W_regionF lv29 fun K hK=>?_|refine W_drawnF lv29 fun K hK=>?_));try simp only [↓pb,↓pd,qds,tb29,hg,w2,w3,w4,w5,w6,q14,q13,r4,p1,p2,hi4,hod,hoa,hEg,irN,nrA,nrM,nrE,reduceIte,reduceCtorEq,nrL])|((first|((with_reducible first|apply WO_gT|apply WO_gF|apply WD_gT|apply WD_gF);exact rfl)|(with_reducible apply W_cond));(simp only [↓pb,qbs,tb29,hg,w2,w3,w4,w5,w6,q14,q13,r4,p1,p2,hi4,hod,hoa,hEg,irN,nrA,nrM,nrE,reduceIte,reduceCtorEq,nrL];with_reducible exact rfl);all_goals (intro hc;(first|exact hcX hc|try simp only [hcs] at hc);try ((with_reducible first|apply woI|apply wdI);simp only [↓pb,↓pd,qds,tb29,hg,w2,w3,w4,w5,w6,q14,q13,r4,p1,p2,hi4,hod,hoa,hc,hEg,irN,nrA,nrM,nrE,reduceIte,reduceCtorEq,nrL])))|((with_reducible apply WO_gU);exact rfl;(focus (simp only [↓pb,qbs,tb29,hg,w2,w3,w4,w5,w6,q14,q13,r4,p1,p2,hi4,hod,hoa,hEg,irN,nrA,nrM,nrE,reduceIte,reduceCtorEq,nrL];done));try simp only [↓pb,↓pd,qds,tb29,hg,w2,w3,w4,w5,w6,q14,q13,r4,p1,p2,hi4,hod,hoa,hEg,irN,nrA,nrM,nrE,reduceIte,reduceCtorEq,nrL])|(with_reducible first|refine W_seq ?_|refine W_block ?_|refine W_skip ?_|refine W_ret ?_|refine W_exit ?_|apply blockK_exit)|((with_reducible apply blockK_pass);(focus decide))|fail)
   have u5:=either_in (x:=belowS (belowS (belowS (belowS y4 names) (1 + lim / 2)) (1 + lim / 4)) (lim + 2)) (lo:=0) (hi:=1001) (l:=[0,below (belowS y4 names) (1 + lim / 2),below (belowS (belowS y4 names) (1 + lim / 2)) (1 + lim / 4),below (belowS (belowS (belowS y4 names) (1 + lim / 2)) (1 + lim / 4)) (lim + 2)]) (by simp) (by simp) fun y hy=>by
    clear hK
    generalize below (belowS (belowS (belowS y4 names) (1 + lim / 2)) (1 + lim / 4)) (lim + 2)=q4 at u4 hy
    generalize below (belowS (belowS y4 names) (1 + lim / 2)) (1 + lim / 4)=q3 at u3 hy
    generalize below (belowS y4 names) (1 + lim / 2)=q2 at u2 hy
    simp only [List.mem_cons,List.not_mem_nil,or_false] at hy
    omega
   generalize hcc:either (belowS (belowS (belowS (belowS y4 names) (1 + lim / 2)) (1 + lim / 4)) (lim + 2)) [0,below (belowS y4 names) (1 + lim / 2),below (belowS (belowS y4 names) (1 + lim / 2)) (1 + lim / 4),below (belowS (belowS (belowS y4 names) (1 + lim / 2)) (1 + lim / 4)) (lim + 2)]=cc at *
   generalize hy6:eitherS (belowS (belowS (belowS (belowS y4 names) (1 + lim / 2)) (1 + lim / 4)) (lim + 2)) [0,below (belowS y4 names) (1 + lim / 2),below (belowS (belowS y4 names) (1 + lim / 2)) (1 + lim / 4),below (belowS (belowS (belowS y4 names) (1 + lim / 2)) (1 + lim / 4)) (lim + 2)]=y6 at *
   generalize hm1:below y4 names=m1 at *
   generalize hch:decide (below y6 5 < 4)=ch at *
   clear hcc hy6 hm1 hch u2 u3 u4
   have hvb4:vb=.slice none 0 0∨vblk vb∉[b]:=by
    rcases g7 with g7|g7
    ·exact .inl g7
    ·exact .inr nxA
   refine pu46 (n:=dl.length) (m:=1) (c:=dl.flatMap eDue) (g:=g5) ?a1 (SR.new rfl) (by omega) (by omega) (by omega) ?a3 fun GG=>?a4
   case a1 =>
    refine GS.ex ?_
    refine Gd.fr' (N:=h4.n) (X:=[b]) ?_ (fun x hx=>by subst hx;exact Gd.grp_lt) hvb4
    exact frA
   case a3 =>
    exact topA
   have hgd1:=gd_ge g6 (n:=h4.n + 2) (by omega)
   have hgd2:=GG.grp_lt
   simp only [upd_n,jn_n] at hgd2
   simp only [upd_n,jn_n,nb] at GG
   simp only [↓pb,↓pd,qds,tb29,hg,q14,q13,p2,r4,hEg,irN,nrA,nrM,nrE,reduceIte,reduceCtorEq,nrL]
   repeat' (first|((with_reducible refine hK _ _ fun e2 hEn=>?_);clear hK K;simp only [lv29,forallC,forallL,and_true] at hEn;(try simp only [↓pb,qbs,tb29,hg,hEg,irN,nrA,nrM,nrE,reduceIte,reduceCtorEq,nrL] at hEn);clear hEg;(try clear eg);have hEg:=hEn;clear hEn;rename Env=>eg)|((first|((with_reducible first|apply oV_intro|apply oH_intro|apply oB_intro);(simp (disch:=try exact dA) only [qcs,tb29,hg,q14,q13,p2,r4,hEg,irN,nrA,nrM,nrE,reduceIte,reduceCtorEq,nrL];with_reducible exact rfl))|((with_reducible first|apply oblA_and|apply oblR_and|apply oblO_and);(focus exact obA))|((with_reducible apply WO_callE);(simp only [↓pb,qbs,tb29,hg,q14,q13,p2,r4,hEg,irN,nrA,nrM,nrE,reduceIte,reduceCtorEq,nrL];(first|exact f19 _ _ _ _ (by simp (disch:=try exact dA) only [qcs,tb29,hg,q14,q13,p2,r4,hEg,irN,nrA,nrM,nrE,reduceIte,reduceCtorEq,nrL];rfl) (by omega)|exact f21 _ _ _ [_,_,_] _ (by simp (disch:=try exact dA) only [qcs,tb29,hg,q14,q13,p2,r4,hEg,irN,nrA,nrM,nrE,reduceIte,reduceCtorEq,nrL];rfl) (SR.new rfl) (.inl (by simp only [vblk];omega)) (by simp))))|(with_reducible first|refine W_regionF lv29 fun K hK=>?_|refine W_drawnF lv29 fun K hK=>?_));try simp only [↓pb,↓pd,qds,tb29,hg,q14,q13,p2,r4,hEg,irN,nrA,nrM,nrE,reduceIte,reduceCtorEq,nrL])|((first|((with_reducible first|apply WO_gT|apply WO_gF|apply WD_gT|apply WD_gF);exact rfl)|(with_reducible apply W_cond));(simp only [↓pb,qbs,tb29,hg,q14,q13,p2,r4,hEg,irN,nrA,nrM,nrE,reduceIte,reduceCtorEq,nrL];with_reducible exact rfl);all_goals (intro hc;(first|exact hcX hc|try simp only [hcs] at hc);try ((with_reducible first|apply woI|apply wdI);simp only [↓pb,↓pd,qds,tb29,hg,q14,q13,p2,r4,hc,hEg,irN,nrA,nrM,nrE,reduceIte,reduceCtorEq,nrL])))|((with_reducible apply WO_gU);exact rfl;(focus (simp only [↓pb,qbs,tb29,hg,q14,q13,p2,r4,hEg,irN,nrA,nrM,nrE,reduceIte,reduceCtorEq,nrL];done));try simp only [↓pb,↓pd,qds,tb29,hg,q14,q13,p2,r4,hEg,irN,nrA,nrM,nrE,reduceIte,reduceCtorEq,nrL])|(with_reducible first|refine W_seq ?_|refine W_block ?_|refine W_skip ?_|refine W_ret ?_|refine W_exit ?_|apply blockK_exit)|((with_reducible apply blockK_pass);(focus decide))|fail)
   have u6:=below_spec (belowS y6 5) 5 (by omega)
   have u7:=either_in (x:=belowS (belowS y6 5) 5) (lo:=0) (hi:=4) (l:=[0,1,below (belowS y6 5) 5]) (by simp) (by simp) fun y hy=>by
    generalize below (belowS y6 5) 5=q4 at u6 hy
    simp only [List.mem_cons,List.not_mem_nil,or_false] at hy
    omega
   generalize hst:either (belowS (belowS y6 5) 5) [0,1,below (belowS y6 5) 5]=stp at *
   generalize hyf:eitherS (belowS (belowS y6 5) 5) [0,1,below (belowS y6 5) 5]=y8 at *
   clear hst hyf
   have hw:IntKind.i64.wrap (i4 - 1)=i4 - 1:=wrap64 (by omega) (by omega)
   have hw2:IntKind.i64.wrap (d4 + stp)=d4 + stp:=wrap64 (by omega) (by omega)
   obtain ⟨n2,rfl⟩:∃ n2,s4=n2 + 1:=⟨s4 - 1,by omega⟩
   have hva5:l1.length=0∨vblk va∉[b,H.n + 3]:=hvb
   refine ⟨n2,Nat.lt_succ_self _,(by exact frA),i4 - 1,y8,d4 + stp,.slice (some ⟨h4.n + 2,0,none⟩) (dl.length + 1) (dl.length + 1),dl ++ [⟨d4,m1,cc,ch⟩],some (g5.getD (h4.n + 2)),by simp only [hEg,q14,hw],by omega,⟨by omega, ?_⟩,by simp only [hEg,q13,hw2],by omega, ?_,by simp (disch:=try exact dA) only [qcs,tb29,hg,hEg,irN,nrA,nrM,nrE,reduceIte,reduceCtorEq,nrL],by simp (disch:=try exact dA) only [qcs,tb29,hg,hEg,irN,nrA,nrM,nrE,reduceIte,reduceCtorEq,nrL],Sa.fr (N:=H.n) (X:=[b,H.n + 3]) (by exact frA) hva5, ?_, ?_,gd_all hgd1,.inr (by show H.n + 3 < h4.n + 2;omega),duesErr_snoc (by dsimp only;omega) (by dsimp only;omega) (by dsimp only;omega) Vd (fun x hx=>(Vb x hx).1) (fun q hq=>by cases hq), ?_⟩
   ·rw [List.length_append,List.length_singleton]
    omega
   ·rw [List.length_append,List.length_singleton]
    omega
   ·rcases Ka with q|q
    ·exact .inl q
    ·rcases Sa.lt with q2|q2
     ·exact .inl q2
     ·rcases hva5 with q3|q3
      ·exact .inl q3
      ·exact .inr (q.fr (N:=H.n) (X:=[b,H.n + 3]) (by exact frA) q2 q3)
   ·rw [List.flatMap_append,List.flatMap_singleton,List.length_append]
    exact GG.fr (N:=h4.n + 3) (X:=[b,H.n + 3]) (by exact frA) (fun x hx=>by cases hx;exact hgd2) (by show h4.n + 2∉[b,H.n + 3];exact nxA)
   ·intro x hx
    rcases List.mem_append.1 hx with q|q
    ·have:=Vb x q
     omega
    ·rw [List.mem_singleton.1 q]
     dsimp only
     omega
  ·have gz1:h4.get H.n=.cells [iv 0,iv 0,iv 0,.slice none 0 0,.slice none 0 0] 48 .ex:=by
    have n1:=hF1.n
    rw [hF4.old _ (by show H.n < h1.n;omega) (by simp;omega),upd_get_ne (by omega),hF1.old _ (by show H.n < h0.n;omega) (by simp;omega),upd_get_ne (by omega)]
    exact gz
   repeat' (first|((with_reducible refine hK _ _ fun e2 hEn=>?_);clear hK K;simp only [lv29,forallC,forallL,and_true] at hEn;(try simp only [↓pb,qbs,tb29,hg,hEg,irN,nrA,nrM,nrE,reduceIte,reduceCtorEq,nrL] at hEn);clear hEg;(try clear eg);have hEg:=hEn;clear hEn;rename Env=>eg)|((first|((with_reducible first|apply oV_intro|apply oH_intro|apply oB_intro);(simp (disch:=try exact dA) only [qcs,tb29,hg,q14,r4,p1,p2,hi4,hod,hoa,gz1,hEg,irN,nrA,nrM,nrE,reduceIte,reduceCtorEq,nrL];with_reducible exact rfl))|((with_reducible first|apply oblA_and|apply oblR_and|apply oblO_and);(focus exact obA))|(with_reducible first|refine W_regionF lv29 fun K hK=>?_|refine W_drawnF lv29 fun K hK=>?_));try simp only [↓pb,↓pd,qds,tb29,hg,q14,r4,p1,p2,hi4,hod,hoa,gz1,hEg,irN,nrA,nrM,nrE,reduceIte,reduceCtorEq,nrL])|((first|((with_reducible first|apply WO_gT|apply WO_gF|apply WD_gT|apply WD_gF);exact rfl)|(with_reducible apply W_cond));(simp only [↓pb,qbs,tb29,hg,q14,r4,p1,p2,hi4,hod,hoa,gz1,hEg,irN,nrA,nrM,nrE,reduceIte,reduceCtorEq,nrL];with_reducible exact rfl);all_goals (intro hc;(first|exact hcX hc|try simp only [hcs] at hc);try ((with_reducible first|apply woI|apply wdI);simp only [↓pb,↓pd,qds,tb29,hg,q14,r4,p1,p2,hi4,hod,hoa,gz1,hc,hEg,irN,nrA,nrM,nrE,reduceIte,reduceCtorEq,nrL])))|((with_reducible apply WO_gU);exact rfl;(focus (simp only [↓pb,qbs,tb29,hg,q14,r4,p1,p2,hi4,hod,hoa,gz1,hEg,irN,nrA,nrM,nrE,reduceIte,reduceCtorEq,nrL];done));try simp only [↓pb,↓pd,qds,tb29,hg,q14,r4,p1,p2,hi4,hod,hoa,gz1,hEg,irN,nrA,nrM,nrE,reduceIte,reduceCtorEq,nrL])|(with_reducible first|refine W_seq ?_|refine W_block ?_|refine W_skip ?_|refine W_ret ?_|refine W_exit ?_|apply blockK_exit)|((with_reducible apply blockK_pass);(focus decide))|fail)
   refine ⟨by first|exact .inl rfl|exact .inr rfl, ?_⟩
   rw [ret1 Try.results29]
   simp only [↓pb,qbs,tb29,hg,rv_tmp,rv_cell,hEg,irN,nrA,nrM,nrE,reduceIte,reduceCtorEq,nrL]
   repeat ((with_reducible apply oV_intro);(simp (disch:=try exact dA) only [qcs,tb29,hg,hEg,irN,nrA,nrM,nrE,reduceIte,reduceCtorEq,nrL];exact rfl))
   have hva5:l1.length=0∨vblk va∉[H.n]:=by
    rcases hvb with q|q
    ·exact .inl q
    ·rcases g3 with rfl|g3
     ·left;exact (G.sr.shape.elim And.right fun ⟨_,_,_,h,_⟩=>by cases h)
     ·exact .inr nxA
   have hF5:Fr H.n [H.n] h4 (h4.upd h4.n H.n (.cells [iv names,iv lim,iv win,va,vb] 48 .ex)):=by exact frA
   refine ⟨⟨va,vb,⟨names,lim,win,l1,dl⟩,y4,rfl,Sa.fr hF5 hva5, ?_, ?_, ?_,⟨by dsimp only;omega,z4,z5,V,by dsimp only;omega,Vd,by dsimp only;omega,fun d hd=>?_⟩,z1.2⟩,by exact frA⟩
   ·rcases Ka with q|q
    ·exact .inl q
    ·rcases Sa.lt with q2|q2
     ·exact .inl q2
     ·rcases hva5 with q3|q3
      ·exact .inl q3
      ·exact .inr (q.fr hF5 q2 q3)
   ·exact Gd.sr.fr hF5 (by rcases g7 with rfl|g7;(left;exact (Gd.sr.shape.elim And.right fun ⟨_,_,_,h,_⟩=>by cases h));(right;exact nxA))
   ·rw [upd_get_ne (by omega)]
    exact p1
   ·have:=Vb d hd
    omega
theorem f30 (a b c:Int) (vl vd:Value) (dl:List Due) (H:AHeap) (hT:Top H) (ol:one vl) (Sd:SR H 4 dl.length vd (dl.flatMap eDue)) (hd:dl.length < 1000000) :
  ∃ v H',C8 (.fn 30) #[.agg ⟨[iv a,iv b,iv c,vl,vd]⟩] H v H'∧v=iv (lastD dl)∧Fr H.n [] H H':=by
 have sd:=Sd.one
 have l1:=Sd.lt
 have e0:=Sd.el eDue_len rfl
 by_cases h0:dl.length=0
 ·have hz:((dl.length:Nat):Int)=0:=by omega
  refine Cl.ofW Try.func30 rfl (by kernel_rfl) (by rw [Try.ntmps30];exact Nat.le_of_ble_eq_true rfl) (by kernel_rfl) ?_
  have hEg:True:=trivial
  refine gcW [0] ?_
  intro eg hEn
  simp only [forallC,forallL,and_true] at hEn
  try simp only [↓pb,qbs,tb30,ol,sd,sd.1,sd.2,lns46 Sd,hz,hEg,irN,nrA,nrM,nrE,reduceIte,reduceCtorEq,nrL] at hEn
  replace hEg:=hEn;clear hEn
  repeat' (first|((with_reducible refine hK _ _ fun e2 hEn=>?_);clear hK K;simp only [lv30,forallC,forallL,and_true] at hEn;(try simp only [↓pb,qbs,tb30,ol,sd,sd.1,sd.2,lns46 Sd,hz,hEg,irN,nrA,nrM,nrE,reduceIte,reduceCtorEq,nrL] at hEn);clear hEg;(try clear eg);have hEg:=hEn;clear hEn;rename Env=>eg)|((first|((with_reducible first|apply oV_intro|apply oH_intro|apply oB_intro);(simp (disch:=try exact dA) only [qcs,tb30,ol,sd,sd.1,sd.2,lns46 Sd,hz,hEg,irN,nrA,nrM,nrE,reduceIte,reduceCtorEq,nrL];with_reducible exact rfl))|(with_reducible first|refine W_regionF lv30 fun K hK=>?_));try simp only [↓pb,↓pd,qds,tb30,ol,sd,sd.1,sd.2,lns46 Sd,hz,hEg,irN,nrA,nrM,nrE,reduceIte,reduceCtorEq,nrL])|((with_reducible apply W_cond);(simp only [↓pb,qbs,tb30,ol,sd,sd.1,sd.2,lns46 Sd,hz,hEg,irN,nrA,nrM,nrE,reduceIte,reduceCtorEq,nrL];with_reducible exact rfl);all_goals (intro hc;(first|exact hcX hc|try simp only [hcs] at hc)))|(with_reducible first|refine W_seq ?_|refine W_skip ?_|refine W_ret ?_)|fail)
  refine ⟨by first|exact .inl rfl|exact .inr rfl, ?_⟩
  rw [ret1 Try.results30]
  simp only [↓pb,qbs,tb30,ol,sd,sd.1,sd.2,lns46 Sd,hz,rv_tmp,rv_cell,hEg,irN,nrA,nrM,nrE,reduceIte,reduceCtorEq,nrL]
  repeat ((with_reducible apply oV_intro);(simp (disch:=try exact dA) only [qcs,tb30,ol,sd,sd.1,sd.2,lns46 Sd,hz,hEg,irN,nrA,nrM,nrE,reduceIte,reduceCtorEq,nrL];exact rfl))
  refine ⟨by rw [lastD,if_pos h0],by exact frA⟩
 ·have hw:IntKind.i64.wrap ((dl.length:Int) - 1)=((dl.length - 1:Nat):Int):=by rw [wrap64 (by omega) (by omega)];omega
  have hp:(0:Int) < dl.length:=by omega
  refine Cl.ofW Try.func30 rfl (by kernel_rfl) (by rw [Try.ntmps30];exact Nat.le_of_ble_eq_true rfl) (by kernel_rfl) ?_
  have hEg:True:=trivial
  refine gcW [0] ?_
  intro eg hEn
  simp only [forallC,forallL,and_true] at hEn
  try simp only [↓pb,qbs,tb30,ol,sd,sd.1,sd.2,lns46 Sd,hw,hp,ias46 Sd,Sd.rd,e0,eDue,hEg,irN,nrA,nrM,nrE,reduceIte,reduceCtorEq,nrL] at hEn
  replace hEg:=hEn;clear hEn
  repeat' (first|((with_reducible refine hK _ _ fun e2 hEn=>?_);clear hK K;simp only [lv30,forallC,forallL,and_true] at hEn;(try simp only [↓pb,qbs,tb30,ol,sd,sd.1,sd.2,lns46 Sd,hw,hp,ias46 Sd,Sd.rd,e0,eDue,hEg,irN,nrA,nrM,nrE,reduceIte,reduceCtorEq,nrL] at hEn);clear hEg;(try clear eg);have hEg:=hEn;clear hEn;rename Env=>eg)|((first|((with_reducible first|apply oV_intro|apply oH_intro|apply oB_intro);(simp (disch:=try exact dA) only [qcs,tb30,ol,sd,sd.1,sd.2,lns46 Sd,hw,hp,ias46 Sd,Sd.rd,e0,eDue,hEg,irN,nrA,nrM,nrE,reduceIte,reduceCtorEq,nrL];with_reducible exact rfl))|(with_reducible first|refine W_regionF lv30 fun K hK=>?_));try simp only [↓pb,↓pd,qds,tb30,ol,sd,sd.1,sd.2,lns46 Sd,hw,hp,ias46 Sd,Sd.rd,e0,eDue,hEg,irN,nrA,nrM,nrE,reduceIte,reduceCtorEq,nrL])|((with_reducible apply W_cond);(simp only [↓pb,qbs,tb30,ol,sd,sd.1,sd.2,lns46 Sd,hw,hp,ias46 Sd,Sd.rd,e0,eDue,hEg,irN,nrA,nrM,nrE,reduceIte,reduceCtorEq,nrL];with_reducible exact rfl);all_goals (intro hc;(first|exact hcX hc|try simp only [hcs] at hc)))|(with_reducible first|refine W_seq ?_|refine W_skip ?_|refine W_ret ?_)|fail)
  refine ⟨by first|exact .inl rfl|exact .inr rfl, ?_⟩
  rw [ret1 Try.results30]
  simp only [↓pb,qbs,tb30,ol,sd,sd.1,sd.2,lns46 Sd,hw,hp,ias46 Sd,Sd.rd,e0,eDue,rv_tmp,rv_cell,hEg,irN,nrA,nrM,nrE,reduceIte,reduceCtorEq,nrL]
  repeat ((with_reducible apply oV_intro);(simp (disch:=try exact dA) only [qcs,tb30,ol,sd,sd.1,sd.2,lns46 Sd,hw,hp,ias46 Sd,Sd.rd,e0,eDue,hEg,irN,nrA,nrM,nrE,reduceIte,reduceCtorEq,nrL];exact rfl))
  refine ⟨by rw [lastD,if_neg h0],by exact frA⟩
theorem f31 (vl vd:Value) (t:Tll) (H:AHeap) (hT:Top H) (Sl:SR H 3 t.Links.length vl (t.Links.flatMap eLnk)) (Sd:SR H 4 t.Dues.length vd (t.Dues.flatMap eDue)) (hl:t.Links.length < 1000000) (hd:t.Dues.length < 1000000) :
  ∃ v H',C8 (.fn 31) #[.agg ⟨[iv t.Names,iv t.Limit,iv t.Window,vl,vd]⟩] H v H'∧(∃ a b gg,v=.agg ⟨[iv t.Names,iv t.Limit,iv t.Window,a,b]⟩∧SR H' 3 t.Links.length a (t.Links.flatMap eLnk)∧(t.Links.length=0∨SK H' 3 a)∧GS H' 4 t.Dues.length b (t.Dues.flatMap eDue) gg∧(∀ x,gg=some x→H.n≤x)∧H.n≤vblk a∧H.n≤vblk b)∧Fr H.n [] H H':=by
 have so:=Sl.one
 have sd:=Sd.one
 refine Cl.ofW Try.func31 rfl (by kernel_rfl) (by rw [Try.ntmps31];exact Nat.le_of_ble_eq_true rfl) (by kernel_rfl) ?_
 have hEg:True:=trivial
 refine gcW [0] ?_
 intro eg hEn
 simp only [forallC,forallL,and_true] at hEn
 try simp only [↓pb,qbs,tb31,so,so.1,so.2,sd,sd.1,sd.2,hEg,irN,nrA,nrM,nrE,reduceIte,reduceCtorEq,nrL] at hEn
 replace hEg:=hEn;clear hEn
 repeat' (first|((with_reducible refine hK _ _ fun e2 hEn=>?_);clear hK K;simp only [lv31,forallC,forallL,and_true] at hEn;(try simp only [↓pb,qbs,tb31,so,so.1,so.2,sd,sd.1,sd.2,hEg,irN,nrA,nrM,nrE,reduceIte,reduceCtorEq,nrL] at hEn);clear hEg;(try clear eg);have hEg:=hEn;clear hEn;rename Env=>eg)|((first|((with_reducible first|apply oV_intro|apply oH_intro|apply oB_intro);(simp (disch:=try exact dA) only [qcs,tb31,so,so.1,so.2,sd,sd.1,sd.2,hEg,irN,nrA,nrM,nrE,reduceIte,reduceCtorEq,nrL];with_reducible exact rfl))|((with_reducible first|apply oblA_and|apply oblR_and|apply oblO_and);(focus exact obA))|(with_reducible first|refine W_regionF lv31 fun K hK=>?_|refine W_drawnF lv31 fun K hK=>?_));try simp only [↓pb,↓pd,qds,tb31,so,so.1,so.2,sd,sd.1,sd.2,hEg,irN,nrA,nrM,nrE,reduceIte,reduceCtorEq,nrL])|(with_reducible first|refine W_seq ?_|refine W_ret ?_)|fail)
 have S1:∀ h,Fr H.n [] H h→SR h 3 t.Links.length vl (t.Links.flatMap eLnk):=fun h hF=>Sl.fr0 hF
 refine oB_appJ (s:=3) (e:=84) (n:=0) (m:=t.Links.length) (c:=[]) (new:=t.Links.flatMap eLnk) (by exact topA) (GS.new rfl) (S1 _ (by exact frA)) (fun hm=>ap45 (GS.new rfl) (S1 _ (by exact frA)) hm (by omega) (by omega)) (fun hm=>apz45 (GS.new rfl) ((S1 _ (by exact frA)).cast hm)) ?_
 rintro v1 G1 gg1 hq1 hJ1 GG1 hg1 hv1 hb1
 simp only [upd_n,jn_n,nb] at hq1 hg1 hv1
 have o1:=GG1.one
 simp only [↓pb,↓pd,qds,tb31,so,so.1,so.2,sd,sd.1,sd.2,o1,hEg,irN,nrA,nrM,nrE,reduceIte,reduceCtorEq,nrL]
 repeat' (first|((with_reducible refine hK _ _ fun e2 hEn=>?_);clear hK K;simp only [lv31,forallC,forallL,and_true] at hEn;(try simp only [↓pb,qbs,tb31,so,so.1,so.2,sd,sd.1,sd.2,hEg,irN,nrA,nrM,nrE,reduceIte,reduceCtorEq,nrL] at hEn);clear hEg;(try clear eg);have hEg:=hEn;clear hEn;rename Env=>eg)|((first|((with_reducible first|apply oV_intro|apply oH_intro|apply oB_intro);(simp (disch:=try exact dA) only [qcs,tb31,so,so.1,so.2,sd,sd.1,sd.2,o1,hEg,irN,nrA,nrM,nrE,reduceIte,reduceCtorEq,nrL];with_reducible exact rfl))|((with_reducible first|apply oblA_and|apply oblR_and|apply oblO_and);(focus exact obA))|(with_reducible first|refine W_regionF lv31 fun K hK=>?_|refine W_drawnF lv31 fun K hK=>?_));try simp only [↓pb,↓pd,qds,tb31,so,so.1,so.2,sd,sd.1,sd.2,o1,hEg,irN,nrA,nrM,nrE,reduceIte,reduceCtorEq,nrL])|(with_reducible first|refine W_seq ?_|refine W_ret ?_)|fail)
 have S2:∀ h,Fr H.n [] H h→SR h 4 t.Dues.length vd (t.Dues.flatMap eDue):=fun h hF=>Sd.fr0 hF
 refine oB_appJ (s:=4) (e:=61) (n:=0) (m:=t.Dues.length) (c:=[]) (new:=t.Dues.flatMap eDue) (by exact topA) (GS.new rfl) (S2 _ (by exact frA)) (fun hm=>ap46 (GS.new rfl) (S2 _ (by exact frA)) hm (by omega) (by omega)) (fun hm=>apz46 (GS.new rfl) ((S2 _ (by exact frA)).cast hm)) ?_
 rintro v2 G2 gg2 hq2 hJ2 GG2 hg2 hv2 hb2
 simp only [upd_n,jn_n,nb] at hq2 hg2 hv2
 have o2:=GG2.one
 have s1:=fun (h:AHeap) (b k:Nat) (l:List Value) (T:TypeId) (hk:k < l.length)=>stG_one (H:=h) (b:=b) (o:=k) (l:=l) (T:=T) o1.2 o1.1 hk
 have s2:=fun (h:AHeap) (b k:Nat) (l:List Value) (T:TypeId) (hk:k < l.length)=>stG_one (H:=h) (b:=b) (o:=k) (l:=l) (T:=T) o2.2 o2.1 hk
 repeat' (first|((with_reducible refine hK _ _ fun e2 hEn=>?_);clear hK K;simp only [lv31,forallC,forallL,and_true] at hEn;(try simp only [↓pb,qbs,tb31,so,so.1,so.2,sd,sd.1,sd.2,hEg,irN,nrA,nrM,nrE,reduceIte,reduceCtorEq,nrL] at hEn);clear hEg;(try clear eg);have hEg:=hEn;clear hEn;rename Env=>eg)|((first|((with_reducible first|apply oV_intro|apply oH_intro|apply oB_intro);(simp (disch:=try exact dA) only [qcs,tb31,so,so.1,so.2,sd,sd.1,sd.2,o1,o2,s1,s2,hEg,irN,nrA,nrM,nrE,reduceIte,reduceCtorEq,nrL];with_reducible exact rfl))|((with_reducible first|apply oblA_and|apply oblR_and|apply oblO_and);(focus exact obA))|(with_reducible first|refine W_regionF lv31 fun K hK=>?_|refine W_drawnF lv31 fun K hK=>?_));try simp only [↓pb,↓pd,qds,tb31,so,so.1,so.2,sd,sd.1,sd.2,o1,o2,s1,s2,hEg,irN,nrA,nrM,nrE,reduceIte,reduceCtorEq,nrL])|(with_reducible first|refine W_seq ?_|refine W_ret ?_)|fail)
 refine ⟨by first|exact .inl rfl|exact .inr rfl, ?_⟩
 rw [ret1 Try.results31]
 simp only [↓pb,qbs,tb31,so,so.1,so.2,sd,sd.1,sd.2,rv_tmp,rv_cell,hEg,irN,nrA,nrM,nrE,reduceIte,reduceCtorEq,nrL]
 repeat ((with_reducible apply oV_intro);(simp (disch:=try exact dA) only [qcs,tb31,so,so.1,so.2,sd,sd.1,sd.2,hEg,irN,nrA,nrM,nrE,reduceIte,reduceCtorEq,nrL];exact rfl))
 have b1:H.n + 2≤vblk v1:=by
  rcases hv1 with rfl|e
  ·exact Nat.le_refl _
  ·omega
 have b2:H.n + 2≤vblk v2:=by
  rcases hv2 with rfl|e
  ·show H.n + 2≤G1.n;omega
  ·omega
 rw [Nat.zero_add,List.nil_append] at GG1 GG2
 refine ⟨⟨v1,v2,gg2,rfl, ?_, ?_, ?_,fun x hx=>by have:=hg2 x hx;omega,by omega,by omega⟩,by exact frA⟩
 ·exact GG1.sr.fr (N:=H.n) (X:=[H.n,H.n + 1]) (by exact frA) (.inr nxA)
 ·rcases GG1.sk with q|q
  ·exact .inl q
  ·rcases GG1.sr.lt with q2|q2
   ·exact .inl q2
   ·exact .inr (q.fr (N:=H.n) (X:=[H.n,H.n + 1]) (by exact frA) q2 nxA)
 ·exact GG2.fr (N:=G2.n) (X:=[H.n,H.n + 1]) (by exact frA) (fun x hx=>by subst hx;exact GG2.grp_lt) nxA
structure TlH (N b:Nat) (x:Int) (vl vd:Value) (t:Tll) (h:AHeap):Prop where
 top:Top h
 lt:N < b∧b < h.n
 feed:h.get N=.cells [uv x] 111 .ex
 tl:h.get b=.cells [iv t.Names,iv t.Limit,iv t.Window,vl,vd] 48 .ex
 l:SR h 3 t.Links.length vl (t.Links.flatMap eLnk)
 k:t.Links.length=0∨SK h 3 vl
 d:SR h 4 t.Dues.length vd (t.Dues.flatMap eDue)
theorem TlH.fr {N b N':Nat} {x:Int} {vl vd:Value} {t:Tll} {A B:AHeap} (h:TlH N b x vl vd t A) (F:Fr N' [] A B):TlH N b x vl vd t B:=by
 have hn:=F.n
 have hl:=h.lt
 refine ⟨F.top h.top,by omega,by rw [F.old _ (by omega) (by simp)];exact h.feed,by rw [F.old _ (by omega) (by simp)];exact h.tl,h.l.fr0 F, ?_,h.d.fr0 F⟩
 rcases h.k with q|q
 ·exact .inl q
 ·rcases h.l.lt with q2|q2
  ·exact .inl q2
  ·exact .inr (q.fr F q2 (by simp))
theorem TlH.step {N b N':Nat} {x x' lim win:Int} {vl vd:Value} {t:Tll} {A B:AHeap} (h:TlH N b x vl vd t A) (F:Fr N' [N,b] A B) (hg:B.get N=.cells [uv x'] 111 .ex) (ht:B.get b=.cells [iv t.Names,iv lim,iv win,vl,vd] 48 .ex) (hb:t.Links.length=0∨vblk vl≠b) (hb2:t.Dues.length=0∨vblk vd≠b):TlH N b x' vl vd ⟨t.Names,lim,win,t.Links,t.Dues⟩ B:=by
 have hn:=F.n
 have hl:=h.lt
 have o1:t.Links.length=0∨vblk vl∉[N,b]:=by
  rcases h.l.offR h.feed (by omega) with q|q
  ·exact .inl q
  ·rcases hb with q2|q2
   ·exact .inl q2
   ·right
    simp only [List.mem_cons,List.not_mem_nil,or_false,not_or] at q ⊢
    exact ⟨q,q2⟩
 have o2:t.Dues.length=0∨vblk vd∉[N,b]:=by
  rcases h.d.offR h.feed (by omega) with q|q
  ·exact .inl q
  ·rcases hb2 with q2|q2
   ·exact .inl q2
   ·right
    simp only [List.mem_cons,List.not_mem_nil,or_false,not_or] at q ⊢
    exact ⟨q,q2⟩
 refine ⟨F.top h.top,by omega,hg,ht,h.l.fr F o1, ?_,h.d.fr F o2⟩
 rcases h.k with q|q
 ·exact .inl q
 ·rcases h.l.lt with q2|q2
  ·exact .inl q2
  ·rcases o1 with q3|q3
   ·exact .inl q3
   ·exact .inr (q.fr F q2 q3)
end Go.Proofs.Swa
