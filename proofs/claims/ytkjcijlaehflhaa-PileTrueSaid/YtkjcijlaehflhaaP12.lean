/- Part 12 of a proof. -/
import Derived.Test.YtkjcijlaehflhaaP11
set_option maxRecDepth 20000
set_option linter.unusedVariables false
set_option linter.unusedSimpArgs false
namespace Go.Proofs.Swa
open Go
open Nat renaming reduceAdd → nrA, reduceMul → nrM, reduceEqDiff → nrE, reduceLT → nrL
open Int renaming reduceToNat → irN
attribute [local congr] WO_congr oV_congr oB_congr oH_congr WD_congr oblO_congr oblA_congr oblR_congr
theorem at03 {a b c d:Value}:atN [a,b,c,d] 0 3=some (.agg ⟨[a,b,c]⟩):=rfl
set_option maxHeartbeats 4000000 in
theorem f88 (va vb vc vh:Value) (g:Gnd) (l:List (Hp×Value)) (spot:Nat) (hour:Int) (H:AHeap) (hT:Top H) (hG:RG H va vb vc g) (Sh:RHs H vh l) (ok:Ok g) (el:l.map (·.1)=(known g).1) (hll:l.length=g.Spots.length) (hs:spot < l.length) (hho:0≤hour∧hour≤72) :
  ∃ v H',C5 (.fn 88) #[.agg ⟨[va,vb,vc,vh]⟩,iv spot,iv hour] H v H'∧(∃ vs gg,GS H' 1 (heapRules g (l.getD spot default).1 spot hour).length v vs gg∧(∀ x,gg=some x→H.n≤x)∧H.n≤vblk v∧RulesV H' [] vs (heapRules g (l.getD spot default).1 spot hour))∧Fr H.n [] H H':=by
 have hx:(l.getD spot default).1∈(known g).1:=by
  rw [← el]
  refine List.mem_map.2 ⟨_, ?_,rfl⟩
  simp [List.getD,List.getElem?_eq_getElem hs]
 have hal:=ok.acts
 have hf:=known_few hal _ hx
 have S2:=Sh.2 spot hs
 have l1:=Sh.1.lt
 have hfp:=hf.pos
 have hfl:=hf.len
 have hgo:=hG.one
 have hb1:=hf.before (untilL hour g.Acts)
 have hgx:(known g).1.getD spot default=(l.getD spot default).1:=by rw [← el,getD_mapA hs]
 have hul:=until_len hour g.Acts
 have hkn:=known_kind ok (g:=g) (j:=spot) (by rw [← el,List.length_map];exact hs) hul
 rw [hgx] at hkn
 obtain ⟨p,hp⟩:∃ p,p=l.getD spot default:=⟨_,rfl⟩
 rw [← hp] at S2 hf hfp hfl hb1 hkn hgx ⊢
 obtain ⟨now,hnow⟩:∃ now,now=nowOf g p.1 hour:=⟨_,rfl⟩
 have hnow2:beforeL (↑(untilL hour g.Acts)) (p.1.m.getD 0 default) p.1.m=now:=hnow.symm
 have hnow3:p.1.before (untilL hour g.Acts)=now:=hnow.symm
 rw [hnow3] at hb1 hkn
 have hen:(eHp (l.getD spot default))=eHp p:=by rw [hp]
 have hlp:(eHp p).length=122:=eHp_len p
 obtain ⟨kn,hknn⟩:∃ kn:Nat,now.kind=kn:=⟨now.kind.toNat,by omega⟩
 have hhp:holds g spot kn=holdsP g spot kn:=rfl
 have hp2:l.getD spot default=p:=hp.symm
 refine Cl.ofW Try.func88 rfl (by kernel_rfl) (by rw [Try.ntmps88];exact Nat.le_of_ble_eq_true rfl) (by kernel_rfl) ?_
 have hEg:True:=trivial
 refine gcW [0,1,2] ?_
 intro eg hEn
 simp only [forallC,forallL,and_true] at hEn
 try simp only [↓pb,qbs,tb88,hgo,Sh.1.one,hEg,irN,nrA,nrM,nrE,reduceIte,reduceCtorEq,nrL] at hEn
 replace hEg:=hEn;clear hEn
 repeat' (first|((with_reducible refine hK _ _ fun e2 hEn=>?_);clear hK K;simp only [lv88,forallC,forallL,and_true] at hEn;(try simp only [↓pb,qbs,tb88,hgo,Sh.1.one,hEg,irN,nrA,nrM,nrE,reduceIte,reduceCtorEq,nrL] at hEn);clear hEg;(try clear eg);have hEg:=hEn;clear hEn;rename Env=>eg)|((first|((with_reducible first|apply oV_intro|apply oH_intro|apply oB_intro);(simp (disch:=first|exact dA|fail) only [qcs,tb88,hgo,Sh.1.one,lns89 Sh.1,Sh.1.one,ias89 Sh.1,Sh.1.rd,(Sh.1.el eHp_len rfl),hgo,S2.one,Nat.mul_one,hen,hp2,at03,hnow2,hknn,hhp,eHp,eMom,hEg,irN,nrA,nrM,nrE,reduceIte,reduceCtorEq,nrL];with_reducible exact rfl))|((with_reducible first|apply oblA_and|apply oblR_and|apply oblO_and);(focus exact obA))|((with_reducible apply WO_callF);(focus exact topA);(simp only [↓pb,qbs,tb88,hgo,Sh.1.one,lns89 Sh.1,Sh.1.one,ias89 Sh.1,Sh.1.rd,(Sh.1.el eHp_len rfl),hgo,S2.one,Nat.mul_one,hen,hp2,at03,hnow2,hknn,hhp,eHp,eMom,hEg,irN,nrA,nrM,nrE,reduceIte,reduceCtorEq,nrL];exact f104 ⟨spot,now.takes,now.tips,holdsP g spot kn⟩ _ (by exact topA));(rintro vq Gq hq hJq ⟨or,hor⟩;try simp only [upd_n,jn_n] at hq))|((with_reducible apply WO_callV);(focus exact topA);(simp only [↓pb,qbs,tb88,hgo,Sh.1.one,lns89 Sh.1,Sh.1.one,ias89 Sh.1,Sh.1.rd,(Sh.1.el eHp_len rfl),hgo,S2.one,Nat.mul_one,hen,hp2,at03,hnow2,hknn,hhp,eHp,eMom,hEg,irN,nrA,nrM,nrE,reduceIte,reduceCtorEq,nrL];(first|exact f56 _ _ _ _ _ _ _ (by exact topA) (hG.fr (N:=H.n) (by exact frA)) Sh.1.one (by omega)|exact f55 _ _ _ _ _ (by exact topA) (S2.fr0 (N:=0) (by exact frA)) hfp (by omega)|exact f78 _ _ _ _ _ _ _ (by exact topA) (hG.fr (N:=H.n) (by exact frA)) (by omega) (by omega)));(intro Gq hq hJq;try simp only [upd_n,jn_n] at hq))|(with_reducible first|refine W_regionE lv88 [5] fun K hK=>?_|refine W_drawnE lv88 [5] fun K hK=>?_));try simp only [↓pb,↓pd,qds,tb88,hgo,Sh.1.one,lns89 Sh.1,Sh.1.one,ias89 Sh.1,Sh.1.rd,(Sh.1.el eHp_len rfl),hgo,S2.one,Nat.mul_one,hen,hp2,at03,hnow2,hknn,hhp,eHp,eMom,hEg,irN,nrA,nrM,nrE,reduceIte,reduceCtorEq,nrL])|((first|((with_reducible first|apply WO_gT|apply WO_gF|apply WD_gT|apply WD_gF);exact rfl)|(with_reducible apply W_cond));(simp only [↓pb,qbs,tb88,hgo,Sh.1.one,lns89 Sh.1,Sh.1.one,ias89 Sh.1,Sh.1.rd,(Sh.1.el eHp_len rfl),hgo,S2.one,Nat.mul_one,hen,hp2,at03,hnow2,hknn,hhp,eHp,eMom,hEg,irN,nrA,nrM,nrE,reduceIte,reduceCtorEq,nrL];with_reducible exact rfl);all_goals (intro hc;(first|exact hcX hc|try simp only [hcs] at hc);try ((with_reducible first|apply woI|apply wdI);simp only [↓pb,↓pd,qds,tb88,hgo,Sh.1.one,lns89 Sh.1,Sh.1.one,ias89 Sh.1,Sh.1.rd,(Sh.1.el eHp_len rfl),hgo,S2.one,Nat.mul_one,hen,hp2,at03,hnow2,hknn,hhp,eHp,eMom,hc,hEg,irN,nrA,nrM,nrE,reduceIte,reduceCtorEq,nrL])))|(with_reducible first|refine W_seq ?_|refine W_block ?_|refine W_skip ?_|refine W_ret ?_|refine W_exit ?_|apply blockK_exit)|((with_reducible apply blockK_pass);(focus decide))|fail)
 rename_i g56 q56 j56 g55 q55 j55 g78 q78 j78
 refine W_forget (N:=H.n) (X:=[]) (h0:=H) (fun h=>(h.get H.n=.cells [va,vb,vc,vh] 91 .ex∧h.get (H.n + 1)=.cells [iv spot] 3 .ex∧h.get (H.n + 2)=.cells [iv hour] 3 .ex∧h.get (H.n + 3)=.cells (eHp p) 99 .ex)∧(h.get g55.n=.cells (eMom now) 101 .ex∧h.get (Gq.n + 1)=.cells [.slice (some ⟨Gq.n,0,none⟩) 1 1] 114 .ex∧h.get (Gq.n + 2)=.cells [iv (0:Nat)] 3 .ex∧h.get (Gq.n + 3)=.cells [iv (0:Nat)] 3 .ex)∧GS h 1 1 (.slice (some ⟨Gq.n,0,none⟩) 1 1) [vq] none∧(∀ x,Gq.n≤x→RuleV h [Gq.n + 1,Gq.n + 2,Gq.n + 3,x] vq [⟨spot,now.takes,now.tips,holdsP g spot kn⟩])∧Gq.n + 3 < h.n∧Top h) (by exact frA) ⟨⟨by simp (disch:=first|exact dA|fail) only [qcs,tb88,hgo,Sh.1.one,hEg,irN,nrA,nrM,nrE,reduceIte,reduceCtorEq,nrL],by simp (disch:=first|exact dA|fail) only [qcs,tb88,hgo,Sh.1.one,hEg,irN,nrA,nrM,nrE,reduceIte,reduceCtorEq,nrL],by simp (disch:=first|exact dA|fail) only [qcs,tb88,hgo,Sh.1.one,hEg,irN,nrA,nrM,nrE,reduceIte,reduceCtorEq,nrL],by simp (disch:=first|exact dA|fail) only [qcs,tb88,hgo,Sh.1.one,hEg,irN,nrA,nrM,nrE,reduceIte,reduceCtorEq,nrL];rfl⟩,⟨by simp (disch:=first|exact dA|fail) only [qcs,tb88,hgo,Sh.1.one,hEg,irN,nrA,nrM,nrE,reduceIte,reduceCtorEq,nrL];rw [eMom,hknn],by simp (disch:=first|exact dA|fail) only [qcs,tb88,hgo,Sh.1.one,hEg,irN,nrA,nrM,nrE,reduceIte,reduceCtorEq,nrL],by simp (disch:=first|exact dA|fail) only [qcs,tb88,hgo,Sh.1.one,hEg,irN,nrA,nrM,nrE,reduceIte,reduceCtorEq,nrL];rfl,by simp (disch:=first|exact dA|fail) only [qcs,tb88,hgo,Sh.1.one,hEg,irN,nrA,nrM,nrE,reduceIte,reduceCtorEq,nrL];rfl⟩, ?_, ?_,by simp only [↓pb,qbs,tb88,hgo,Sh.1.one,hEg,irN,nrA,nrM,nrE,reduceIte,reduceCtorEq,nrL];omega,(by exact topA)⟩ ?_
 ·refine .full rfl ?_ (k:=.ex) (d:=[vq]) (T:=119) ?_ (.inl rfl) (Nat.le_refl _) rfl (fun _=>rfl)
  ·simp only [↓pb,qbs,tb88,hgo,Sh.1.one,hEg,irN,nrA,nrM,nrE,reduceIte,reduceCtorEq,nrL]
   omega
  ·simp (disch:=first|exact dA|fail) only [qcs,tb88,hgo,Sh.1.one,hEg,irN,nrA,nrM,nrE,reduceIte,reduceCtorEq,nrL]
 ·intro x hx
  have h1:=hor [] (by simp)
  have h2:=h1.ex (E':=[Gq.n + 1,Gq.n + 2,Gq.n + 3,x]) (by
   intro b hb hlt
   simp only [List.mem_cons,List.not_mem_nil,or_false,jn_n] at hb hlt
   omega)
  exact h2.fr (N:=Gq.n) (X:=[]) (by exact frA) (by simp)
 rintro hb Fb ⟨⟨y0,y1,y2,y3⟩,⟨y4,y5,y6,y7⟩,Gb,Rb,nb1,Tb⟩
 clear hor hJq j56 j55 j78
 obtain ⟨GO,hGO⟩:∃ GO,Gq.n=GO:=⟨_,rfl⟩
 rw [hGO] at y5 y6 y7 Gb Rb nb1 hq hEg
 have ry0:hb.rd H.n=some [va,vb,vc,vh]:=by rw [rd_def,y0];rfl
 have ry1:hb.rd (H.n + 1)=some [iv spot]:=by rw [rd_def,y1];rfl
 repeat' (first|((with_reducible refine hK _ _ fun e2 hEn=>?_);clear hK K;simp only [lv88,forallC,forallL,and_true] at hEn;(try simp only [↓pb,qbs,tb88,hgo,Sh.1.one,hEg,irN,nrA,nrM,nrE,reduceIte,reduceCtorEq,nrL] at hEn);clear hEg;(try clear eg);have hEg:=hEn;clear hEn;rename Env=>eg)|((first|((with_reducible first|apply oV_intro|apply oH_intro|apply oB_intro);(simp (disch:=first|exact dA|fail) only [qcs,tb88,hgo,Sh.1.one,ry0,ry1,y0,y1,hgo,at03,hEg,irN,nrA,nrM,nrE,reduceIte,reduceCtorEq,nrL];with_reducible exact rfl))|((with_reducible first|apply oblA_and|apply oblR_and|apply oblO_and);(focus exact obA))|((with_reducible apply WO_callE);(simp only [↓pb,qbs,tb88,hgo,Sh.1.one,ry0,ry1,y0,y1,hgo,at03,hEg,irN,nrA,nrM,nrE,reduceIte,reduceCtorEq,nrL];(exact f102 _ _ _ _ _ hgo.1 hgo.2.1 hgo.2.2)))|(with_reducible first|refine W_regionF lv88 fun K hK=>?_|refine W_drawnF lv88 fun K hK=>?_));try simp only [↓pb,↓pd,qds,tb88,hgo,Sh.1.one,ry0,ry1,y0,y1,hgo,at03,hEg,irN,nrA,nrM,nrE,reduceIte,reduceCtorEq,nrL])|((first|((with_reducible first|apply WO_gT|apply WO_gF|apply WD_gT|apply WD_gF);exact rfl)|(with_reducible apply W_cond));(simp only [↓pb,qbs,tb88,hgo,Sh.1.one,ry0,ry1,y0,y1,hgo,at03,hEg,irN,nrA,nrM,nrE,reduceIte,reduceCtorEq,nrL];with_reducible exact rfl);all_goals (intro hc;(first|exact hcX hc|try simp only [hcs] at hc);try ((with_reducible first|apply woI|apply wdI);simp only [↓pb,↓pd,qds,tb88,hgo,Sh.1.one,ry0,ry1,y0,y1,hgo,at03,hc,hEg,irN,nrA,nrM,nrE,reduceIte,reduceCtorEq,nrL])))|(with_reducible first|refine W_seq ?_|refine W_block ?_|refine W_skip ?_|refine W_ret ?_|refine W_exit ?_|apply blockK_exit)|((with_reducible apply blockK_pass);(focus decide))|fail)
 refine W_range2 fun LO hLO hLg=>?_
 simp only [↓pb,qbs,tb88,hgo,Sh.1.one,hEg,irN,nrA,nrM,nrE,reduceIte,reduceCtorEq,nrL]
 have hrow:InRow H.n g55.n (GO + 1) (GO + 2) (GO + 3) hb.n (hb.n + 1) (hb.n + 2):=by
  unfold InRow
  omega
 let w0:Way:=⟨spot,now.takes,now.tips,holdsP g spot kn⟩
 let J:AObj→Nat→AHeap→Prop:=fun LX i h=>∃ (s:Hst) (vo:Value) (vs:List Value) (gg:Option Nat),HeapR H h va vb vc vh spot hour p now g55.n (GO + 1) (GO + 2) (GO + 3) hb.n (hb.n + 1) (hb.n + 2) LX s.out s.before s.tips vo vs gg∧hRun g p.1 spot hour now 0 g.Acts ⟨[[w0]],0,0⟩=hRun g p.1 spot hour now i (g.Acts.drop i) s∧s.before < 11∧s.tips < 11∧s.out.length≤1 + 2 * i
 have hHr:(heapRules g p.1 spot hour)=(hRun g p.1 spot hour now 0 g.Acts ⟨[[w0]],0,0⟩).out:=by
  unfold heapRules
  rw [← hnow]
  dsimp only
  rw [hknn,Int.toNat_natCast]
 suffices hsf:∃ v H1,C5 (.fn 110) #[.func (.yield (hb.n + 2)) #[] #[],vptr hb.n 0,vptr (hb.n + 1) 0] _ v H1∧v=.tuple #[]∧J LO g.Acts.length H1 by
  obtain ⟨v,H1,c1,rfl,s,vo,vs,gg,k,e1,e2,e3,e4⟩:=hsf
  refine ⟨_,H1,c1,k.lo,fun LX hLX=>?_⟩
  have k2:=k.setL hrow (by have:=Fb.n;omega) hLX
  have ko:=k2.G.one
  have ro:(H1.upd H1.n (hb.n + 2) LX).rd (GO + 1)=some [vo]:=by rw [rd_def,k2.o];rfl
  rw [List.drop_of_length_le (Nat.le_refl _)] at e1
  generalize (H1.upd H1.n (hb.n + 2) LX)=h2 at k2 ro ko ⊢
  repeat' (first|((with_reducible refine hK _ _ fun e2 hEn=>?_);clear hK K;simp only [lv88,forallC,forallL,and_true] at hEn;(try simp only [↓pb,qbs,tb88,hgo,Sh.1.one,hEg,irN,nrA,nrM,nrE,reduceIte,reduceCtorEq,nrL] at hEn);clear hEg;(try clear eg);have hEg:=hEn;clear hEn;rename Env=>eg)|((first|((with_reducible first|apply oV_intro|apply oH_intro|apply oB_intro);(simp (disch:=first|exact dA|fail) only [qcs,tb88,hgo,Sh.1.one,ro,k2.o,hEg,irN,nrA,nrM,nrE,reduceIte,reduceCtorEq,nrL];with_reducible exact rfl))|((with_reducible first|apply oblA_and|apply oblR_and|apply oblO_and);(focus exact obA))|(with_reducible first|refine W_regionF lv88 fun K hK=>?_|refine W_drawnF lv88 fun K hK=>?_));try simp only [↓pb,↓pd,qds,tb88,hgo,Sh.1.one,ro,k2.o,hEg,irN,nrA,nrM,nrE,reduceIte,reduceCtorEq,nrL])|((first|((with_reducible first|apply WO_gT|apply WO_gF|apply WD_gT|apply WD_gF);exact rfl)|(with_reducible apply W_cond));(simp only [↓pb,qbs,tb88,hgo,Sh.1.one,ro,k2.o,hEg,irN,nrA,nrM,nrE,reduceIte,reduceCtorEq,nrL];with_reducible exact rfl);all_goals (intro hc;(first|exact hcX hc|try simp only [hcs] at hc);try ((with_reducible first|apply woI|apply wdI);simp only [↓pb,↓pd,qds,tb88,hgo,Sh.1.one,ro,k2.o,hc,hEg,irN,nrA,nrM,nrE,reduceIte,reduceCtorEq,nrL])))|(with_reducible first|refine W_seq ?_|refine W_block ?_|refine W_skip ?_|refine W_ret ?_|refine W_exit ?_|apply blockK_exit)|((with_reducible apply blockK_pass);(focus decide))|fail)
  refine ⟨by first|exact .inl rfl|exact .inr rfl, ?_⟩
  rw [ret1 Try.results88]
  simp only [↓pb,qbs,tb88,hgo,Sh.1.one,rv_tmp,rv_cell,hEg,irN,nrA,nrM,nrE,reduceIte,reduceCtorEq,nrL]
  repeat ((with_reducible apply oV_intro);(simp (disch:=first|exact dA|fail) only [qcs,tb88,hgo,Sh.1.one,hEg,irN,nrA,nrM,nrE,reduceIte,reduceCtorEq,nrL];exact rfl))
  rw [hHr,e1]
  exact ⟨⟨vs,gg,k2.G,k2.gr,k2.vb.2,k2.R.ex (by simp)⟩,k2.F⟩
 refine f110 (hb.n + 2) hb.n (hb.n + 1) va vb vc g.Acts spot _ (J LO) (by omega) ?_ ?_ ?_ ?_ ?_
 ·have hn:=Fb.n
  have F2:Fr hb.n [] hb ((hb.upd (hb.n + 1) hb.n (AObj.cells [va,vb,vc] 26 Kd.ex)).upd (hb.n + 2) (hb.n + 1) (AObj.cells [iv ↑spot] 3 Kd.ex)):=by exact frA
  have F3:Fr hb.n [] hb (((hb.upd (hb.n + 1) hb.n (AObj.cells [va,vb,vc] 26 Kd.ex)).upd (hb.n + 2) (hb.n + 1) (AObj.cells [iv ↑spot] 3 Kd.ex)).upd (hb.n + 3) (hb.n + 2) LO):=F2.upd (Nat.le_succ _) (Nat.lt_succ_self _) (.inl (Nat.le_add_right _ _)) (hLg _ _)
  refine ⟨⟨[[w0]],0,0⟩,.slice (some ⟨GO,0,none⟩) 1 1,[vq],none,⟨?_, ?_, ?_, ?_, ?_, ?_, ?_, ?_, ?_, ?_, ?_, ?_, ?_, ?_, ?_, ?_, ?_, ?_⟩,by rw [List.drop_zero],by show 0 < 11;omega,by show 0 < 11;omega,by simp⟩
  all_goals first|(simp (disch:=first|exact dA|fail) only [qcs,tb88,hgo,Sh.1.one,hEg,irN,nrA,nrM,nrE,reduceIte,reduceCtorEq,nrL];done)|(simp (disch:=first|exact dA|fail) only [qcs,tb88,hgo,Sh.1.one,hEg,irN,nrA,nrM,nrE,reduceIte,reduceCtorEq,nrL];first|assumption|rfl)|skip
  ·exact Gb.fr F3 (by simp) (by simp)
  ·simp
  ·exact ⟨by show GO∉_;simp only [List.mem_cons,List.not_mem_nil,or_false,not_or];omega,by show H.n≤GO;omega⟩
  ·exact ⟨(Rb _ (by omega)).fr F3 (by simp),trivial⟩
  ·exact Fb.call F3 hn
  ·exact F3.top Tb
  ·simp only [upd_n]
   omega
 ·rintro i h ⟨s,vo,vs,gg,k,e1,e2,e3,e4⟩
  exact ⟨by rw [rd_def,k.g];rfl,by rw [rd_def,k.sb];rfl,by have:=k.lt;omega,by have:=k.lt;omega,(hG.fr k.F).r⟩
 ·rintro i h c ⟨s,vo,vs,gg,k,e1,e2⟩
  exact ⟨s,vo,vs,gg,k.mono hrow Fr.ex k.F.n,e1,e2⟩
 ·rintro i h hi hsp ⟨s,vo,vs,gg,k,e1,e2,e3,e4⟩
  rw [drop_getD hi,hRun,if_neg hsp] at e1
  exact ⟨s,vo,vs,gg,k,e1,e2,e3,by omega⟩
 ·rintro i h hi hsp ⟨s,vo,vs,gg,k,e1,e2,e3,e4⟩
  rw [drop_getD hi,hRun,if_pos hsp] at e1
  obtain ⟨last,hA⟩:=ok.at hi
  generalize ha:g.Acts.getD i default=a at hsp e1 hA ⊢
  have hn0:=k.F.n
  have hnb:=Fb.n
  have l2:=k.lt
  refine round_W2 hLO k.lo rfl (by kernel_rfl) (by kernel_rfl) (by kernel_rfl) (by kernel_rfl) (by kernel_rfl) ?_
  rw [roundEnv2]
  repeat' (first|((with_reducible refine hK _ _ fun e2 hEn=>?_);clear hK K;simp only [lv88,forallC,forallL,and_true] at hEn;(try simp only [↓pb,qbs,tb88,hgo,Sh.1.one,hEg,irN,nrA,nrM,nrE,reduceIte,reduceCtorEq,nrL] at hEn);clear hEg;(try clear eg);have hEg:=hEn;clear hEn;rename Env=>eg)|((first|((with_reducible first|apply oV_intro|apply oH_intro|apply oB_intro);(simp (disch:=first|exact dA|fail) only [qcs,tb88,hgo,Sh.1.one,eAct,hEg,irN,nrA,nrM,nrE,reduceIte,reduceCtorEq,nrL];with_reducible exact rfl))|((with_reducible first|apply oblA_and|apply oblR_and|apply oblO_and);(focus exact obA))|(with_reducible first|refine W_regionF lv88 fun K hK=>?_|refine W_drawnF lv88 fun K hK=>?_));try simp only [↓pb,↓pd,qds,tb88,hgo,Sh.1.one,eAct,hEg,irN,nrA,nrM,nrE,reduceIte,reduceCtorEq,nrL])|((first|((with_reducible first|apply WO_gT|apply WO_gF|apply WD_gT|apply WD_gF);exact rfl)|(with_reducible apply W_cond));(simp only [↓pb,qbs,tb88,hgo,Sh.1.one,eAct,hEg,irN,nrA,nrM,nrE,reduceIte,reduceCtorEq,nrL];with_reducible exact rfl);all_goals (intro hc;(first|exact hcX hc|try simp only [hcs] at hc);try ((with_reducible first|apply woI|apply wdI);simp only [↓pb,↓pd,qds,tb88,hgo,Sh.1.one,eAct,hc,hEg,irN,nrA,nrM,nrE,reduceIte,reduceCtorEq,nrL])))|(with_reducible first|refine W_seq ?_|refine W_block ?_|refine W_skip ?_|refine W_ret ?_|refine W_exit ?_|apply blockK_exit)|((with_reducible apply blockK_pass);(focus decide))|fail)
  refine ⟨rfl,by simp (disch:=first|exact dA|fail) only [qcs,tb88,hgo,Sh.1.one,hEg,irN,nrA,nrM,nrE,reduceIte,reduceCtorEq,nrL];exact k.lo,fun LB hLB=>?_⟩
  refine W_forget (N:=H.n) (X:=[]) (h0:=H) (fun h'=>HeapR H h' va vb vc vh spot hour p now g55.n (GO + 1) (GO + 2) (GO + 3) hb.n (hb.n + 1) (hb.n + 2) LB s.out s.before s.tips vo vs gg∧h'.get h.n=.cells (eAct a) 30 .ex∧h.n < h'.n) ?_ ⟨HeapR.setL (k.mono hrow Fr.ex k.F.n) hrow (by omega) hLB,by simp (disch:=first|exact dA|fail) only [qcs,tb88,hgo,Sh.1.one,hEg,irN,nrA,nrM,nrE,reduceIte,reduceCtorEq,nrL];rfl,by simp only [upd_n];omega⟩ ?_
  ·exact (HeapR.setL (k.mono hrow Fr.ex k.F.n) hrow (by omega) hLB).F
  rintro h2 F2 ⟨k2,a2,n2⟩
  have hra:h2.rd h.n=some (eAct a):=by rw [rd_def,a2];rfl
  have hr5:h2.rd (H.n + 2)=some [iv hour]:=by rw [rd_def,k2.t];rfl
  have hr7:h2.rd (H.n + 3)=some (eHp p):=by rw [rd_def,k2.hp];rfl
  by_cases hsk:a.Take=true∨hour < a.Hour
  ·have hst:hStep g p.1 spot hour now s i a=s:=by unfold hStep;rw [if_pos hsk]
   rw [hst] at e1
   rcases hsk with hsk|hsk
   all_goals (
    repeat' (first|((with_reducible refine hK _ _ fun e2 hEn=>?_);clear hK K;simp only [lv88,forallC,forallL,and_true] at hEn;(try simp only [↓pb,qbs,tb88,hgo,Sh.1.one,hEg,irN,nrA,nrM,nrE,reduceIte,reduceCtorEq,nrL] at hEn);clear hEg;(try clear eg);have hEg:=hEn;clear hEn;rename Env=>eg)|((first|((with_reducible first|apply oV_intro|apply oH_intro|apply oB_intro);(simp (disch:=first|exact dA|fail) only [qcs,tb88,hgo,Sh.1.one,hra,hr5,eAct,hsk,hEg,irN,nrA,nrM,nrE,reduceIte,reduceCtorEq,nrL];with_reducible exact rfl))|((with_reducible first|apply oblA_and|apply oblR_and|apply oblO_and);(focus exact obA))|(with_reducible first|refine W_regionF lv88 fun K hK=>?_|refine W_drawnF lv88 fun K hK=>?_));try simp only [↓pb,↓pd,qds,tb88,hgo,Sh.1.one,hra,hr5,eAct,hsk,hEg,irN,nrA,nrM,nrE,reduceIte,reduceCtorEq,nrL])|((first|((with_reducible first|apply WO_gT|apply WO_gF|apply WD_gT|apply WD_gF);exact rfl)|(with_reducible apply W_cond));(simp only [↓pb,qbs,tb88,hgo,Sh.1.one,hra,hr5,eAct,hsk,hEg,irN,nrA,nrM,nrE,reduceIte,reduceCtorEq,nrL];with_reducible exact rfl);all_goals (intro hc;(first|exact hcX hc|try simp only [hcs] at hc);try ((with_reducible first|apply woI|apply wdI);simp only [↓pb,↓pd,qds,tb88,hgo,Sh.1.one,hra,hr5,eAct,hsk,hc,hEg,irN,nrA,nrM,nrE,reduceIte,reduceCtorEq,nrL])))|(with_reducible first|refine W_seq ?_|refine W_block ?_|refine W_skip ?_|refine W_ret ?_|refine W_exit ?_|apply blockK_exit)|((with_reducible apply blockK_pass);(focus decide))|fail))
   all_goals exact ⟨rfl,k2.lo,s,vo,vs,gg,k2.setL hrow (by omega) hLg,e1,e2,e3,by omega⟩
  ·have hta:a.Take=false:=by
    cases hq:a.Take with
    | false=>rfl
    | true=>exact absurd (.inl hq) hsk
   have hah:¬ hour < a.Hour:=fun q=>hsk (.inr q)
   obtain ⟨m,hm⟩:∃ m,m=p.1.before (i:Nat):=⟨_,rfl⟩
   obtain ⟨m',hm'⟩:∃ m',m'=p.1.before (i + 1:Nat):=⟨_,rfl⟩
   have hm2:beforeL (↑i) (p.1.m.getD 0 default) p.1.m=m:=hm.symm
   have hm3:beforeL (↑(i + 1:Nat)) (p.1.m.getD 0 default) p.1.m=m':=hm'.symm
   have hbm:m'.tips < 11∧m'.takes < 11:=by rw [hm'];exact hf.before _
   have hw1:IntKind.i64.wrap ((i:Int) + 1)=((i + 1:Nat):Int):=inc64 (by omega)
   have S3:=S2.fr0 k2.F
   have l3:=k2.lt
   have T2:=k2.T
   repeat' (first|((with_reducible refine hK _ _ fun e2 hEn=>?_);clear hK K;simp only [lv88,forallC,forallL,and_true] at hEn;(try simp only [↓pb,qbs,tb88,hgo,Sh.1.one,hEg,irN,nrA,nrM,nrE,reduceIte,reduceCtorEq,nrL] at hEn);clear hEg;(try clear eg);have hEg:=hEn;clear hEn;rename Env=>eg)|((first|((with_reducible first|apply oV_intro|apply oH_intro|apply oB_intro);(simp (disch:=first|exact dA|fail) only [qcs,tb88,hgo,Sh.1.one,k2.tp,hra,hr5,hr7,hta,hah,eAct,S2.one,eHp,hm2,hm3,hw1,eMom,hEg,irN,nrA,nrM,nrE,reduceIte,reduceCtorEq,nrL];with_reducible exact rfl))|((with_reducible first|apply oblA_and|apply oblR_and|apply oblO_and);(focus exact obA))|((with_reducible apply WO_callV);(focus exact topA);(simp only [↓pb,qbs,tb88,hgo,Sh.1.one,k2.tp,hra,hr5,hr7,hta,hah,eAct,S2.one,eHp,hm2,hm3,hw1,eMom,hEg,irN,nrA,nrM,nrE,reduceIte,reduceCtorEq,nrL];(exact f55 _ _ _ _ _ (by exact topA) (S3.fr0 (N:=0) (by exact frA)) hfp (by omega)));(intro Gq hq hJq;try simp only [upd_n,jn_n] at hq))|(with_reducible first|refine W_regionE lv88 [11] fun K hK=>?_|refine W_drawnE lv88 [11] fun K hK=>?_));try simp only [↓pb,↓pd,qds,tb88,hgo,Sh.1.one,k2.tp,hra,hr5,hr7,hta,hah,eAct,S2.one,eHp,hm2,hm3,hw1,eMom,hEg,irN,nrA,nrM,nrE,reduceIte,reduceCtorEq,nrL])|((first|((with_reducible first|apply WO_gT|apply WO_gF|apply WD_gT|apply WD_gF);exact rfl)|(with_reducible apply W_cond));(simp only [↓pb,qbs,tb88,hgo,Sh.1.one,k2.tp,hra,hr5,hr7,hta,hah,eAct,S2.one,eHp,hm2,hm3,hw1,eMom,hEg,irN,nrA,nrM,nrE,reduceIte,reduceCtorEq,nrL];with_reducible exact rfl);all_goals (intro hc;(first|exact hcX hc|try simp only [hcs] at hc);try ((with_reducible first|apply woI|apply wdI);simp only [↓pb,↓pd,qds,tb88,hgo,Sh.1.one,k2.tp,hra,hr5,hr7,hta,hah,eAct,S2.one,eHp,hm2,hm3,hw1,eMom,hc,hEg,irN,nrA,nrM,nrE,reduceIte,reduceCtorEq,nrL])))|(with_reducible first|refine W_seq ?_|refine W_block ?_|refine W_skip ?_|refine W_ret ?_|refine W_exit ?_|apply blockK_exit)|((with_reducible apply blockK_pass);(focus decide))|fail)
   rename_i gm qm jm
   refine W_forget (N:=H.n) (X:=[]) (h0:=H) (fun h'=>HeapR H h' va vb vc vh spot hour p now g55.n (GO + 1) (GO + 2) (GO + 3) hb.n (hb.n + 1) (hb.n + 2) LB s.out s.before m'.tips vo vs gg∧h'.get h.n=.cells (eAct a) 30 .ex∧h'.get gm.n=.cells (eMom m) 101 .ex∧h.n < h'.n∧gm.n < h'.n) ?_ ⟨HeapR.setT (k2.mono hrow (by exact frA) k2.F.n) hrow (by omega) _,by simp (disch:=first|exact dA|fail) only [qcs,tb88,hgo,Sh.1.one,hEg,irN,nrA,nrM,nrE,reduceIte,reduceCtorEq,nrL];exact a2,by simp (disch:=first|exact dA|fail) only [qcs,tb88,hgo,Sh.1.one,hEg,irN,nrA,nrM,nrE,reduceIte,reduceCtorEq,nrL];rfl,by simp only [upd_n,jn_n];omega,by simp only [upd_n,jn_n];omega⟩ ?_
   ·exact (HeapR.setT (k2.mono hrow (by exact frA) k2.F.n) hrow (by omega) _).F
   rintro h3 F3 ⟨k3,a3,b3,n3,n4⟩
   clear hJq jm
   have hgm:hb.n + 2 < gm.n:=by omega
   have hgh:hb.n + 2 < h.n:=l2
   have hr3:h3.rd H.n=some [va,vb,vc,vh]:=by rw [rd_def,k3.y];rfl
   have hr4:h3.rd (H.n + 1)=some [iv spot]:=by rw [rd_def,k3.s];rfl
   have hr5:h3.rd (H.n + 2)=some [iv hour]:=by rw [rd_def,k3.t];rfl
   have hr8:h3.rd g55.n=some (eMom now):=by rw [rd_def,k3.now];rfl
   have hr9:h3.rd (GO + 1)=some [vo]:=by rw [rd_def,k3.o];rfl
   have hr11:h3.rd (GO + 3)=some [iv m'.tips]:=by rw [rd_def,k3.tp];rfl
   have hra:h3.rd h.n=some (eAct a):=by rw [rd_def,a3];rfl
   have hq3:=(hG.fr k3.F).q
   obtain ⟨ak,hak⟩:∃ ak:Nat,a.Kind=ak:=⟨a.Kind.toNat,by have:=hA.k;omega⟩
   have hakl:ak < g.Sorts.length:=by have:=hA.k;omega
   obtain ⟨W,hW⟩:∃ W,W=w64 (a.Hour + (g.Sorts.getD ak default).Age):=⟨_,rfl⟩
   have hW2:IntKind.i64.wrap (a.Hour + (g.Sorts.getD ak default).Age)=W:=hW.symm
   have T3:=k3.T
   have l4:=k3.lt
   have lq3:=hq3.lt
   have G3:=k3.G
   have og3:=G3.one
   refine W_both (fun e h'=>(e 4=vptr (H.n + 1) 0∧e 5=vptr (H.n + 2) 0∧e 9=vptr (GO + 1) 0∧e 10=vptr (GO + 2) 0∧e 11=vptr (GO + 3) 0∧e 13=vptr h.n 0∧e 14=vptr gm.n 0)∧(∃ vo vs gg,HeapR H h' va vb vc vh spot hour p now g55.n (GO + 1) (GO + 2) (GO + 3) hb.n (hb.n + 1) (hb.n + 2) LB (if W < hour then s.out ++ [[⟨spot,now.takes,m'.tips,0⟩]] else s.out) s.before m'.tips vo vs gg)∧h'.get h.n=.cells (eAct a) 30 .ex∧h'.get gm.n=.cells (eMom m) 101 .ex∧h.n < h'.n∧gm.n < h'.n) ?_ ?_
   ·repeat' (first|((with_reducible refine hK _ _ fun e2 hEn=>?_);clear hK K;simp only [lv88,forallC,forallL,and_true] at hEn;(try simp only [↓pb,qbs,tb88,hgo,Sh.1.one,hEg,irN,nrA,nrM,nrE,reduceIte,reduceCtorEq,nrL] at hEn);clear hEg;(try clear eg);have hEg:=hEn;clear hEn;rename Env=>eg)|((first|((with_reducible first|apply oV_intro|apply oH_intro|apply oB_intro);(simp (disch:=first|exact dA|fail) only [qcs,tb88,hgo,Sh.1.one,hr3,hr4,hr5,hr8,hr9,hr11,hra,eAct,hak,ias23 hq3,hq3.rd,(hq3.el eSrt_len rfl),eSrt,hW2,eMom,og3,hEg,irN,nrA,nrM,nrE,reduceIte,reduceCtorEq,nrL];with_reducible exact rfl))|((with_reducible first|apply oblA_and|apply oblR_and|apply oblO_and);(focus exact obA))|((with_reducible apply WO_callF);(focus exact topA);(simp only [↓pb,qbs,tb88,hgo,Sh.1.one,hr3,hr4,hr5,hr8,hr9,hr11,hra,eAct,hak,ias23 hq3,hq3.rd,(hq3.el eSrt_len rfl),eSrt,hW2,eMom,og3,hEg,irN,nrA,nrM,nrE,reduceIte,reduceCtorEq,nrL];exact f104 ⟨spot,now.takes,m'.tips,0⟩ _ (by exact topA));(rintro vq Gq hq hJq ⟨or2,hor2⟩;try simp only [upd_n,jn_n] at hq))|(with_reducible first|refine W_regionF lv88 fun K hK=>?_|refine W_drawnF lv88 fun K hK=>?_));try simp only [↓pb,↓pd,qds,tb88,hgo,Sh.1.one,hr3,hr4,hr5,hr8,hr9,hr11,hra,eAct,hak,ias23 hq3,hq3.rd,(hq3.el eSrt_len rfl),eSrt,hW2,eMom,og3,hEg,irN,nrA,nrM,nrE,reduceIte,reduceCtorEq,nrL])|((first|((with_reducible first|apply WO_gT|apply WO_gF|apply WD_gT|apply WD_gF);exact rfl)|(with_reducible apply W_cond));(simp only [↓pb,qbs,tb88,hgo,Sh.1.one,hr3,hr4,hr5,hr8,hr9,hr11,hra,eAct,hak,ias23 hq3,hq3.rd,(hq3.el eSrt_len rfl),eSrt,hW2,eMom,og3,hEg,irN,nrA,nrM,nrE,reduceIte,reduceCtorEq,nrL];with_reducible exact rfl);all_goals (intro hc;(first|exact hcX hc|try simp only [hcs] at hc);try ((with_reducible first|apply woI|apply wdI);simp only [↓pb,↓pd,qds,tb88,hgo,Sh.1.one,hr3,hr4,hr5,hr8,hr9,hr11,hra,eAct,hak,ias23 hq3,hq3.rd,(hq3.el eSrt_len rfl),eSrt,hW2,eMom,og3,hc,hEg,irN,nrA,nrM,nrE,reduceIte,reduceCtorEq,nrL])))|(with_reducible first|refine W_seq ?_|refine W_block ?_|refine W_skip ?_|refine W_ret ?_|refine W_exit ?_|apply blockK_exit)|((with_reducible apply blockK_pass);(focus decide))|fail)
    ·rename_i hc
     refine pu114 (n:=s.out.length) (m:=1) (c:=vs) (g:=gg) (GS.ex (G3.fr (N:=h3.n) (X:=[]) (by exact frA) (fun x hx=>by subst hx;exact G3.grp_lt) (by simp))) (SR.new rfl) (by omega) (by omega) (by omega) (by exact topA) fun GG=>?_
     simp only [↓pb,↓pd,qds,tb88,hgo,Sh.1.one,k3.o,hEg,irN,nrA,nrM,nrE,reduceIte,reduceCtorEq,nrL]
     repeat' (first|((with_reducible refine hK _ _ fun e2 hEn=>?_);clear hK K;simp only [lv88,forallC,forallL,and_true] at hEn;(try simp only [↓pb,qbs,tb88,hgo,Sh.1.one,hEg,irN,nrA,nrM,nrE,reduceIte,reduceCtorEq,nrL] at hEn);clear hEg;(try clear eg);have hEg:=hEn;clear hEn;rename Env=>eg)|((first|((with_reducible first|apply oV_intro|apply oH_intro|apply oB_intro);(simp (disch:=first|exact dA|fail) only [qcs,tb88,hgo,Sh.1.one,k3.o,hEg,irN,nrA,nrM,nrE,reduceIte,reduceCtorEq,nrL];with_reducible exact rfl))|((with_reducible first|apply oblA_and|apply oblR_and|apply oblO_and);(focus exact obA))|(with_reducible first|refine W_regionF lv88 fun K hK=>?_|refine W_drawnF lv88 fun K hK=>?_));try simp only [↓pb,↓pd,qds,tb88,hgo,Sh.1.one,k3.o,hEg,irN,nrA,nrM,nrE,reduceIte,reduceCtorEq,nrL])|((first|((with_reducible first|apply WO_gT|apply WO_gF|apply WD_gT|apply WD_gF);exact rfl)|(with_reducible apply W_cond));(simp only [↓pb,qbs,tb88,hgo,Sh.1.one,k3.o,hEg,irN,nrA,nrM,nrE,reduceIte,reduceCtorEq,nrL];with_reducible exact rfl);all_goals (intro hc;(first|exact hcX hc|try simp only [hcs] at hc);try ((with_reducible first|apply woI|apply wdI);simp only [↓pb,↓pd,qds,tb88,hgo,Sh.1.one,k3.o,hc,hEg,irN,nrA,nrM,nrE,reduceIte,reduceCtorEq,nrL])))|(with_reducible first|refine W_seq ?_|refine W_block ?_|refine W_skip ?_|refine W_ret ?_|refine W_exit ?_|apply blockK_exit)|((with_reducible apply blockK_pass);(focus decide))|fail)
     refine ⟨rfl,by simp only [hEg,and_self], ?_, ?_, ?_, ?_, ?_⟩
     ·rw [if_pos hc]
      exact ⟨_,_,_,k3.add hrow (by omega) (hA:=(h3.jn Gq).upd (Gq.n + 1) Gq.n (.cells [vq] 119 .ex)) (by exact frA) (by exact topA) ((hor2 [GO + 1,GO + 2,GO + 3,hb.n + 2] (by intro x hx;simp only [List.mem_cons,List.not_mem_nil,or_false] at hx;omega)).fr (N:=Gq.n) (X:=[]) (by exact frA) (by simp)) rfl GG⟩
     ·simp (disch:=first|exact dA|fail) only [qcs,tb88,hgo,Sh.1.one,hEg,irN,nrA,nrM,nrE,reduceIte,reduceCtorEq,nrL]
      exact a3
     ·simp (disch:=first|exact dA|fail) only [qcs,tb88,hgo,Sh.1.one,hEg,irN,nrA,nrM,nrE,reduceIte,reduceCtorEq,nrL]
      exact b3
     ·simp only [upd_n,jn_n]
      omega
     ·simp only [upd_n,jn_n]
      omega
    ·rename_i hc
     exact ⟨rfl,by simp only [hEg,and_self],⟨vo,vs,gg,by rw [if_neg hc];exact k3⟩,a3,b3,n3,n4⟩
   ·rintro e4 h4 ⟨⟨j4,j5,j9,j10,j11,j13,j14⟩,⟨vo4,vs4,gg4,k4⟩,a4,b4,n5,n6⟩
    obtain ⟨o1,ho1⟩:∃ o1,o1=if W < hour then s.out ++ [[⟨spot,now.takes,m'.tips,0⟩]] else s.out:=⟨_,rfl⟩
    rw [← ho1] at k4
    have hol:o1.length≤2 + 2 * i:=by
     rw [ho1]
     split
     ·rw [List.length_append,List.length_singleton]
      omega
     ·omega
    clear hr3 hr4 hr5 hr8 hr9 hr11 hra hq3 T3 l4 lq3 G3 og3 a3 b3 n3 n4 F3
    clear k3 hEg
    have hEg:=And.intro j4 (And.intro j5 (And.intro j9 (And.intro j10 (And.intro j11 (And.intro j13 j14)))))
    clear j4 j5 j9 j10 j11 j13 j14
    have hr4:h4.rd (H.n + 1)=some [iv spot]:=by rw [rd_def,k4.s];rfl
    have hr5:h4.rd (H.n + 2)=some [iv hour]:=by rw [rd_def,k4.t];rfl
    have hr9:h4.rd (GO + 1)=some [vo4]:=by rw [rd_def,k4.o];rfl
    have hr10:h4.rd (GO + 2)=some [iv s.before]:=by rw [rd_def,k4.b];rfl
    have hra:h4.rd h.n=some (eAct a):=by rw [rd_def,a4];rfl
    have hrm:h4.rd gm.n=some (eMom m):=by rw [rd_def,b4];rfl
    have T4:=k4.T
    have l4:=k4.lt
    have G4:=k4.G
    have og4:=G4.one
    repeat' (first|((with_reducible refine hK _ _ fun e2 hEn=>?_);clear hK K;simp only [lv88,forallC,forallL,and_true] at hEn;(try simp only [↓pb,qbs,tb88,hgo,Sh.1.one,hEg,irN,nrA,nrM,nrE,reduceIte,reduceCtorEq,nrL] at hEn);clear hEg;(try clear eg);have hEg:=hEn;clear hEn;rename Env=>eg)|((first|((with_reducible first|apply oV_intro|apply oH_intro|apply oB_intro);(simp (disch:=first|exact dA|fail) only [qcs,tb88,hgo,Sh.1.one,hEg,irN,nrA,nrM,nrE,reduceIte,reduceCtorEq,nrL];with_reducible exact rfl))|((with_reducible first|apply oblA_and|apply oblR_and|apply oblO_and);(focus exact obA))|(with_reducible first|refine W_regionE lv88 [13] fun K hK=>?_|refine W_drawnE lv88 [13] fun K hK=>?_));try simp only [↓pb,↓pd,qds,tb88,hgo,Sh.1.one,hEg,irN,nrA,nrM,nrE,reduceIte,reduceCtorEq,nrL])|((first|((with_reducible first|apply WO_gT|apply WO_gF|apply WD_gT|apply WD_gF);exact rfl)|(with_reducible apply W_cond));(simp only [↓pb,qbs,tb88,hgo,Sh.1.one,hEg,irN,nrA,nrM,nrE,reduceIte,reduceCtorEq,nrL];with_reducible exact rfl);all_goals (intro hc;(first|exact hcX hc|try simp only [hcs] at hc);try ((with_reducible first|apply woI|apply wdI);simp only [↓pb,↓pd,qds,tb88,hgo,Sh.1.one,hc,hEg,irN,nrA,nrM,nrE,reduceIte,reduceCtorEq,nrL])))|(with_reducible first|refine W_seq ?_|refine W_block ?_|refine W_skip ?_|refine W_ret ?_|refine W_exit ?_|apply blockK_exit)|((with_reducible apply blockK_pass);(focus decide))|fail)
    refine W_both (fun e h'=>(e 10=vptr (GO + 2) 0∧e 11=vptr (GO + 3) 0)∧(∃ vo vs gg,HeapR H h' va vb vc vh spot hour p now g55.n (GO + 1) (GO + 2) (GO + 3) hb.n (hb.n + 1) (hb.n + 2) LB (if a.Hour=hour∧0 < s.before∧m.kind≠a.Kind then o1 ++ [[emptyW spot m]] else o1) s.before m'.tips vo vs gg)) ?_ ?_
    ·repeat' (first|((with_reducible refine hK _ _ fun e2 hEn=>?_);clear hK K;simp only [lv88,forallC,forallL,and_true] at hEn;(try simp only [↓pb,qbs,tb88,hgo,Sh.1.one,hEg,irN,nrA,nrM,nrE,reduceIte,reduceCtorEq,nrL] at hEn);clear hEg;(try clear eg);have hEg:=hEn;clear hEn;rename Env=>eg)|((first|((with_reducible first|apply oV_intro|apply oH_intro|apply oB_intro);(simp (disch:=first|exact dA|fail) only [qcs,tb88,hgo,Sh.1.one,hr4,hr5,hr9,hr10,hra,hrm,eAct,eMom,og4,hEg,irN,nrA,nrM,nrE,reduceIte,reduceCtorEq,nrL];with_reducible exact rfl))|((with_reducible first|apply oblA_and|apply oblR_and|apply oblO_and);(focus exact obA))|((with_reducible apply WO_callF);(focus exact topA);(simp only [↓pb,qbs,tb88,hgo,Sh.1.one,hr4,hr5,hr9,hr10,hra,hrm,eAct,eMom,og4,hEg,irN,nrA,nrM,nrE,reduceIte,reduceCtorEq,nrL];exact f104 (emptyW spot m) _ (by exact topA));(rintro vq Gq hq hJq ⟨or2,hor2⟩;try simp only [upd_n,jn_n] at hq))|((with_reducible apply WO_callV);(focus exact topA);(simp only [↓pb,qbs,tb88,hgo,Sh.1.one,hr4,hr5,hr9,hr10,hra,hrm,eAct,eMom,og4,hEg,irN,nrA,nrM,nrE,reduceIte,reduceCtorEq,nrL];(exact f105 _ _ _ (by exact topA)));(intro Gq hq hJq;try simp only [upd_n,jn_n] at hq))|(with_reducible first|refine W_regionF lv88 fun K hK=>?_|refine W_drawnF lv88 fun K hK=>?_));try simp only [↓pb,↓pd,qds,tb88,hgo,Sh.1.one,hr4,hr5,hr9,hr10,hra,hrm,eAct,eMom,og4,hEg,irN,nrA,nrM,nrE,reduceIte,reduceCtorEq,nrL])|((first|((with_reducible first|apply WO_gT|apply WO_gF|apply WD_gT|apply WD_gF);exact rfl)|(with_reducible apply W_cond));(simp only [↓pb,qbs,tb88,hgo,Sh.1.one,hr4,hr5,hr9,hr10,hra,hrm,eAct,eMom,og4,hEg,irN,nrA,nrM,nrE,reduceIte,reduceCtorEq,nrL];with_reducible exact rfl);all_goals (intro hc;(first|exact hcX hc|try simp only [hcs] at hc);try ((with_reducible first|apply woI|apply wdI);simp only [↓pb,↓pd,qds,tb88,hgo,Sh.1.one,hr4,hr5,hr9,hr10,hra,hrm,eAct,eMom,og4,hc,hEg,irN,nrA,nrM,nrE,reduceIte,reduceCtorEq,nrL])))|(with_reducible first|refine W_seq ?_|refine W_block ?_|refine W_skip ?_|refine W_ret ?_|refine W_exit ?_|apply blockK_exit)|((with_reducible apply blockK_pass);(focus decide))|fail)
     ·rename_i gq5 qq5 jq5
      have hcond:a.Hour=hour∧0 < s.before∧m.kind≠a.Kind:=⟨by assumption,by omega,hc⟩
      refine pu114 (n:=o1.length) (m:=1) (c:=vs4) (g:=gg4) (GS.ex (G4.fr (N:=h4.n) (X:=[]) (by exact frA) (fun x hx=>by subst hx;exact G4.grp_lt) (by simp))) (SR.new rfl) (by omega) (by omega) (by omega) (by exact topA) fun GG=>?_
      simp only [↓pb,↓pd,qds,tb88,hgo,Sh.1.one,k4.o,hEg,irN,nrA,nrM,nrE,reduceIte,reduceCtorEq,nrL]
      repeat' (first|((with_reducible refine hK _ _ fun e2 hEn=>?_);clear hK K;simp only [lv88,forallC,forallL,and_true] at hEn;(try simp only [↓pb,qbs,tb88,hgo,Sh.1.one,hEg,irN,nrA,nrM,nrE,reduceIte,reduceCtorEq,nrL] at hEn);clear hEg;(try clear eg);have hEg:=hEn;clear hEn;rename Env=>eg)|((first|((with_reducible first|apply oV_intro|apply oH_intro|apply oB_intro);(simp (disch:=first|exact dA|fail) only [qcs,tb88,hgo,Sh.1.one,k4.o,hEg,irN,nrA,nrM,nrE,reduceIte,reduceCtorEq,nrL];with_reducible exact rfl))|((with_reducible first|apply oblA_and|apply oblR_and|apply oblO_and);(focus exact obA))|(with_reducible first|refine W_regionF lv88 fun K hK=>?_|refine W_drawnF lv88 fun K hK=>?_));try simp only [↓pb,↓pd,qds,tb88,hgo,Sh.1.one,k4.o,hEg,irN,nrA,nrM,nrE,reduceIte,reduceCtorEq,nrL])|((first|((with_reducible first|apply WO_gT|apply WO_gF|apply WD_gT|apply WD_gF);exact rfl)|(with_reducible apply W_cond));(simp only [↓pb,qbs,tb88,hgo,Sh.1.one,k4.o,hEg,irN,nrA,nrM,nrE,reduceIte,reduceCtorEq,nrL];with_reducible exact rfl);all_goals (intro hc;(first|exact hcX hc|try simp only [hcs] at hc);try ((with_reducible first|apply woI|apply wdI);simp only [↓pb,↓pd,qds,tb88,hgo,Sh.1.one,k4.o,hc,hEg,irN,nrA,nrM,nrE,reduceIte,reduceCtorEq,nrL])))|(with_reducible first|refine W_seq ?_|refine W_block ?_|refine W_skip ?_|refine W_ret ?_|refine W_exit ?_|apply blockK_exit)|((with_reducible apply blockK_pass);(focus decide))|fail)
      refine ⟨rfl,by simp only [hEg,and_self], ?_⟩
      rw [if_pos hcond]
      exact ⟨_,_,_,k4.add hrow (by omega) (hA:=((h4.jn gq5).jn Gq).upd (Gq.n + 1) Gq.n (.cells [vq] 119 .ex)) (by exact frA) (by exact topA) ((hor2 [GO + 1,GO + 2,GO + 3,hb.n + 2] (by intro x hx;simp only [List.mem_cons,List.not_mem_nil,or_false] at hx;show x < gq5.n;omega)).fr (N:=Gq.n) (X:=[]) (by exact frA) (by simp)) rfl GG⟩
     all_goals
      have hcn:¬(a.Hour=hour∧0 < s.before∧m.kind≠a.Kind):=by
       rintro ⟨q1,q2,q3⟩
       first|contradiction|omega|exact hc q3
      exact ⟨rfl,by simp only [hEg,and_self],vo4,vs4,gg4,by rw [if_neg hcn];exact k4⟩
    ·rintro e5 h5 ⟨⟨j10,j11⟩,vo5,vs5,gg5,k5⟩
     clear hr4 hr5 hr9 hr10 hra hrm T4 l4 G4 og4 hEg
     have hEg:=And.intro j10 j11
     have hst:hStep g p.1 spot hour now s i a=⟨if a.Hour=hour∧0 < s.before∧m.kind≠a.Kind then o1 ++ [[emptyW spot m]] else o1,m'.tips,m'.tips⟩:=by
      unfold hStep
      rw [if_neg hsk]
      simp only [hak,Int.toNat_natCast,← hm,← hm',← hW,← ho1]
     rw [hst] at e1
     have hr11:h5.rd (GO + 3)=some [iv m'.tips]:=by rw [rd_def,k5.tp];rfl
     have l5:=k5.lt
     repeat' (first|((with_reducible refine hK _ _ fun e2 hEn=>?_);clear hK K;simp only [lv88,forallC,forallL,and_true] at hEn;(try simp only [↓pb,qbs,tb88,hgo,Sh.1.one,hEg,irN,nrA,nrM,nrE,reduceIte,reduceCtorEq,nrL] at hEn);clear hEg;(try clear eg);have hEg:=hEn;clear hEn;rename Env=>eg)|((first|((with_reducible first|apply oV_intro|apply oH_intro|apply oB_intro);(simp (disch:=first|exact dA|fail) only [qcs,tb88,hgo,Sh.1.one,hr11,k5.b,hEg,irN,nrA,nrM,nrE,reduceIte,reduceCtorEq,nrL];with_reducible exact rfl))|((with_reducible first|apply oblA_and|apply oblR_and|apply oblO_and);(focus exact obA))|(with_reducible first|refine W_regionF lv88 fun K hK=>?_|refine W_drawnF lv88 fun K hK=>?_));try simp only [↓pb,↓pd,qds,tb88,hgo,Sh.1.one,hr11,k5.b,hEg,irN,nrA,nrM,nrE,reduceIte,reduceCtorEq,nrL])|((first|((with_reducible first|apply WO_gT|apply WO_gF|apply WD_gT|apply WD_gF);exact rfl)|(with_reducible apply W_cond));(simp only [↓pb,qbs,tb88,hgo,Sh.1.one,hr11,k5.b,hEg,irN,nrA,nrM,nrE,reduceIte,reduceCtorEq,nrL];with_reducible exact rfl);all_goals (intro hc;(first|exact hcX hc|try simp only [hcs] at hc);try ((with_reducible first|apply woI|apply wdI);simp only [↓pb,↓pd,qds,tb88,hgo,Sh.1.one,hr11,k5.b,hc,hEg,irN,nrA,nrM,nrE,reduceIte,reduceCtorEq,nrL])))|(with_reducible first|refine W_seq ?_|refine W_block ?_|refine W_skip ?_|refine W_ret ?_|refine W_exit ?_|apply blockK_exit)|((with_reducible apply blockK_pass);(focus decide))|fail)
     have k6:=k5.setB hrow (by omega) m'.tips
     refine ⟨rfl,k6.lo,_,vo5,vs5,gg5,k6.setL hrow (by omega) hLg,e1,hbm.1,hbm.1, ?_⟩
     show (if a.Hour=hour∧0 < s.before∧m.kind≠a.Kind then o1 ++ [[emptyW spot m]] else o1).length≤1 + 2 * (i + 1)
     split
     ·rw [List.length_append,List.length_singleton]
      omega
     ·omega
set_option maxHeartbeats 4000000 in
theorem f89 (va vb vc vh:Value) (g:Gnd) (l:List (Hp×Value)) (hour:Int) (H:AHeap) (hT:Top H) (hG:RG H va vb vc g) (hsk:g.Spots.length=0∨SK H 3 va) (Sh:RHs H vh l) (ok:Ok g) (el:l.map (·.1)=(known g).1) (hll:l.length=g.Spots.length) (hho:0≤hour∧hour≤72) :
  ∃ v H',C5 (.fn 89) #[.agg ⟨[va,vb,vc,vh]⟩,iv hour] H v H'∧(∃ vs gg,GS H' 1 (pairRules g (known g).1 hour g.Spots.length).length v vs gg∧(∀ x,gg=some x→H.n≤x)∧(v=.slice none 0 0∨H.n≤vblk v)∧RulesV H' [] vs (pairRules g (known g).1 hour g.Spots.length))∧Fr H.n [] H H':=by
 have hgo:=hG.one
 have hsp:=ok.spots
 have hul:=until_len hour g.Acts
 have hal:=ok.acts
 have hvb:g.Spots.length=0∨vblk va < H.n:=hG.p.lt
 have hsk0:∀ h,Fr H.n [] H h→g.Spots.length=0∨SK h 3 va:=fun h hF=>by
  rcases hsk with q|q
  ·exact .inl q
  ·rcases hvb with q2|q2
   ·exact .inl q2
   ·exact .inr (q.fr hF q2 (by simp))
 have hkn1:(known g).1.length=l.length:=by rw [← el,List.length_map]
 have hall:∀ j,j < l.length→0 < (l.getD j default).1.m.length∧(l.getD j default).1.m.length≤11∧(known g).1.getD j default=(l.getD j default).1∧0≤(nowOf g (l.getD j default).1 hour).kind∧(nowOf g (l.getD j default).1 hour).kind < g.Sorts.length:=fun j hj=>by
  have hx:(l.getD j default).1∈(known g).1:=by
   rw [← el]
   refine List.mem_map.2 ⟨_, ?_,rfl⟩
   simp [List.getD,List.getElem?_eq_getElem hj]
  have hf:=known_few hal _ hx
  have hgx:(known g).1.getD j default=(l.getD j default).1:=by rw [← el,getD_mapA hj]
  have hkn:=known_kind ok (g:=g) (j:=j) (by omega) hul
  rw [hgx] at hkn
  exact ⟨hf.pos,hf.len,hgx,hkn.1,hkn.2⟩
 refine Cl.ofW Try.func89 rfl (by kernel_rfl) (by rw [Try.ntmps89];exact Nat.le_of_ble_eq_true rfl) (by kernel_rfl) ?_
 have hEg:True:=trivial
 refine gcW [0,1] ?_
 intro eg hEn
 simp only [forallC,forallL,and_true] at hEn
 try simp only [↓pb,qbs,tb89,hgo,Sh.1.one,hEg,irN,nrA,nrM,nrE,reduceIte,reduceCtorEq,nrL] at hEn
 replace hEg:=hEn;clear hEn
 repeat' (first|((with_reducible refine hK _ _ fun e2 hEn=>?_);clear hK K;simp only [lv89,forallC,forallL,and_true] at hEn;(try simp only [↓pb,qbs,tb89,hgo,Sh.1.one,hgo,at03,Sh.1.one,hEg,irN,nrA,nrM,nrE,reduceIte,reduceCtorEq,nrL] at hEn);clear hEg;(try clear eg);have hEg:=hEn;clear hEn;rename Env=>eg)|((first|((with_reducible first|apply oV_intro|apply oH_intro|apply oB_intro);(simp (disch:=first|exact dA|fail) only [qcs,tb89,hgo,Sh.1.one,hgo,at03,Sh.1.one,hEg,irN,nrA,nrM,nrE,reduceIte,reduceCtorEq,nrL];with_reducible exact rfl))|((with_reducible first|apply oblA_and|apply oblR_and|apply oblO_and);(focus exact obA))|((with_reducible apply WO_callF);(focus exact topA);(simp only [↓pb,qbs,tb89,hgo,Sh.1.one,hgo,at03,Sh.1.one,hEg,irN,nrA,nrM,nrE,reduceIte,reduceCtorEq,nrL];exact f77 _ _ _ _ _ (by exact topA) (hG.fr (N:=H.n) (by exact frA)) (hsk0 _ (by exact frA)) (by omega));(rintro vq Gq hq hJq ⟨mr,rfl,mg,mr1,mr2⟩;try simp only [upd_n,jn_n] at hq))|(with_reducible first|refine W_regionE lv89 [3] fun K hK=>?_|refine W_drawnE lv89 [3] fun K hK=>?_));try simp only [↓pb,↓pd,qds,tb89,hgo,Sh.1.one,hgo,at03,Sh.1.one,hEg,irN,nrA,nrM,nrE,reduceIte,reduceCtorEq,nrL])|((first|((with_reducible first|apply WO_gT|apply WO_gF|apply WD_gT|apply WD_gF);exact rfl)|(with_reducible apply W_cond));(simp only [↓pb,qbs,tb89,hgo,Sh.1.one,hgo,at03,Sh.1.one,hEg,irN,nrA,nrM,nrE,reduceIte,reduceCtorEq,nrL];with_reducible exact rfl);all_goals (intro hc;(first|exact hcX hc|try simp only [hcs] at hc);try ((with_reducible first|apply woI|apply wdI);simp only [↓pb,↓pd,qds,tb89,hgo,Sh.1.one,hgo,at03,Sh.1.one,hc,hEg,irN,nrA,nrM,nrE,reduceIte,reduceCtorEq,nrL])))|(with_reducible first|refine W_seq ?_|refine W_block ?_|refine W_skip ?_|refine W_ret ?_|refine W_exit ?_|apply blockK_exit)|((with_reducible apply blockK_pass);(focus decide))|fail)
 refine W_forget (N:=H.n) (X:=[]) (h0:=H) (fun h=>h.get H.n=.cells [va,vb,vc,vh] 91 .ex∧h.get mr=.map (entK (nearAll g g.Spots.length))∧RHs h vh l∧H.n < mr∧mr < h.n∧Top h) (by exact frA) ⟨by simp (disch:=first|exact dA|fail) only [qcs,tb89,hgo,Sh.1.one,hEg,irN,nrA,nrM,nrE,reduceIte,reduceCtorEq,nrL],mg,Sh.fr (N:=H.n) (by exact frA),by simp only [upd_n] at mr1;omega,mr2,(by exact topA)⟩ ?_
 rintro hb Fb ⟨b0,b2,Sb,c2,c3,Tb⟩
 clear mg mr1 mr2 hq hJq
 have rb0:hb.rd H.n=some [va,vb,vc,vh]:=by rw [rd_def,b0];rfl
 have Gb:=hG.fr Fb
 repeat' (first|((with_reducible refine hK _ _ fun e2 hEn=>?_);clear hK K;simp only [lv89,forallC,forallL,and_true] at hEn;(try simp only [↓pb,qbs,tb89,hgo,Sh.1.one,rb0,b0,lns22 Gb.p,hEg,irN,nrA,nrM,nrE,reduceIte,reduceCtorEq,nrL] at hEn);clear hEg;(try clear eg);have hEg:=hEn;clear hEn;rename Env=>eg)|((first|((with_reducible first|apply oV_intro|apply oH_intro|apply oB_intro);(simp (disch:=first|exact dA|fail) only [qcs,tb89,hgo,Sh.1.one,rb0,b0,lns22 Gb.p,hEg,irN,nrA,nrM,nrE,reduceIte,reduceCtorEq,nrL];with_reducible exact rfl))|((with_reducible first|apply oblA_and|apply oblR_and|apply oblO_and);(focus exact obA))|(with_reducible first|refine W_regionF lv89 fun K hK=>?_|refine W_drawnF lv89 fun K hK=>?_));try simp only [↓pb,↓pd,qds,tb89,hgo,Sh.1.one,rb0,b0,lns22 Gb.p,hEg,irN,nrA,nrM,nrE,reduceIte,reduceCtorEq,nrL])|((first|((with_reducible first|apply WO_gT|apply WO_gF|apply WD_gT|apply WD_gF);exact rfl)|(with_reducible apply W_cond));(simp only [↓pb,qbs,tb89,hgo,Sh.1.one,rb0,b0,lns22 Gb.p,hEg,irN,nrA,nrM,nrE,reduceIte,reduceCtorEq,nrL];with_reducible exact rfl);all_goals (intro hc;(first|exact hcX hc|try simp only [hcs] at hc);try ((with_reducible first|apply woI|apply wdI);simp only [↓pb,↓pd,qds,tb89,hgo,Sh.1.one,rb0,b0,lns22 Gb.p,hc,hEg,irN,nrA,nrM,nrE,reduceIte,reduceCtorEq,nrL])))|(with_reducible first|refine W_seq ?_|refine W_block ?_|refine W_skip ?_|refine W_ret ?_|refine W_exit ?_|apply blockK_exit)|((with_reducible apply blockK_pass);(focus decide))|fail)
 refine W_count [1,2,6,17] (by kernel_rfl) 18 (g.Spots.length) (H.n) [] [] (fun i e h=>∃ vo vs gg,e 5=vo∧GS h 1 (pairRules g (known g).1 hour i).length vo vs gg∧(∀ x,gg=some x→H.n≤x)∧(vo=.slice none 0 0∨H.n≤vblk vo)∧RulesV h [] vs (pairRules g (known g).1 hour i)∧(pairRules g (known g).1 hour i).length≤4 * i) (by simp only [↓pb,qbs,tb89,hgo,Sh.1.one,hEg,irN,nrA,nrM,nrE,reduceIte,reduceCtorEq,nrL]) (by focus exact topA) (H0:=H) (by focus exact frA) (by intro b hb hlt;simp at hb ⊢;try omega) ?_ ?_
 rotate_left
 intro i1 e1 h1 hi1 hE1 ei1 hF1 hF01 hTh1 hJ1
 simp only [forallC,forallL,and_true] at hE1
 try simp only [↓pb,qbs,tb89,hgo,Sh.1.one,hEg,irN,nrA,nrM,nrE,reduceIte,reduceCtorEq,nrL] at hE1
 have hn11:=hF1.n;have hn01:=hF01.n;try simp only [upd_n,jn_n] at hn11
 replace hEg:=And.intro ei1 hE1
 rotate_left
 ·exact ⟨_,[],none,by simp only [↓pb,qbs,tb89,hgo,Sh.1.one,hEg,irN,nrA,nrM,nrE,reduceIte,reduceCtorEq,nrL],.nil rfl rfl rfl,by simp,.inl rfl,trivial,Nat.le_refl _⟩
 obtain ⟨vo,vs,gg,e5,G,gg2,gv,R,len⟩:=hJ1
 have S1:=Sb.fr hF1
 have G1:=hG.fr hF01
 have d0:h1.get H.n=.cells [va,vb,vc,vh] 91 .ex:=by rw [hF1.old _ (by omega) (by simp)];exact b0
 have d2:h1.get mr=.map (entK (nearAll g g.Spots.length)):=by rw [hF1.old _ (by omega) (by simp)];exact b2
 by_cases hi1b:i1 < g.Spots.length
 ·repeat' (first|((with_reducible refine hK _ _ fun e2 hEn=>?_);clear hK K;simp only [lv89,forallC,forallL,and_true] at hEn;(try simp only [↓pb,qbs,tb89,hgo,Sh.1.one,e5,hEg,irN,nrA,nrM,nrE,reduceIte,reduceCtorEq,nrL] at hEn);clear hEg;(try clear eg);have hEg:=hEn;clear hEn;rename Env=>eg)|((first|((with_reducible first|apply oV_intro|apply oH_intro|apply oB_intro);(simp (disch:=first|exact dA|fail) only [qcs,tb89,hgo,Sh.1.one,e5,hEg,irN,nrA,nrM,nrE,reduceIte,reduceCtorEq,nrL];with_reducible exact rfl))|((with_reducible first|apply oblA_and|apply oblR_and|apply oblO_and);(focus exact obA))|(with_reducible first|refine W_regionF lv89 fun K hK=>?_|refine W_drawnF lv89 fun K hK=>?_));try simp only [↓pb,↓pd,qds,tb89,hgo,Sh.1.one,e5,hEg,irN,nrA,nrM,nrE,reduceIte,reduceCtorEq,nrL])|((first|((with_reducible first|apply WO_gT|apply WO_gF|apply WD_gT|apply WD_gF);exact rfl)|(with_reducible apply W_cond));(simp only [↓pb,qbs,tb89,hgo,Sh.1.one,e5,hEg,irN,nrA,nrM,nrE,reduceIte,reduceCtorEq,nrL];with_reducible exact rfl);all_goals (intro hc;(first|exact hcX hc|try simp only [hcs] at hc);try ((with_reducible first|apply woI|apply wdI);simp only [↓pb,↓pd,qds,tb89,hgo,Sh.1.one,e5,hc,hEg,irN,nrA,nrM,nrE,reduceIte,reduceCtorEq,nrL])))|(with_reducible first|refine W_seq ?_|refine W_block ?_|refine W_skip ?_|refine W_ret ?_|refine W_exit ?_|apply blockK_exit)|((with_reducible apply blockK_pass);(focus decide))|fail)
  refine W_count [1,2,6,7,17,18,21] (by kernel_rfl) 22 (i1) (H.n) [] [] (fun i e h=>∃ vo vs gg,e 5=vo∧GS h 1 (pairRules g (known g).1 hour i1 ++ pairRow g (known g).1 hour i1 i).length vo vs gg∧(∀ x,gg=some x→H.n≤x)∧(vo=.slice none 0 0∨H.n≤vblk vo)∧RulesV h [] vs (pairRules g (known g).1 hour i1 ++ pairRow g (known g).1 hour i1 i)∧(pairRow g (known g).1 hour i1 i).length≤i) (by simp only [↓pb,qbs,tb89,hgo,Sh.1.one,hEg,irN,nrA,nrM,nrE,reduceIte,reduceCtorEq,nrL]) (by focus exact topA) (H0:=H) (by focus exact frA) (by intro b hb hlt;simp at hb ⊢;try omega) ?_ ?_
  rotate_left
  intro i2 e2 h2 hi2 hE2 ei2 hF2 hF02 hTh2 hJ2
  simp only [forallC,forallL,and_true] at hE2
  try simp only [↓pb,qbs,tb89,hgo,Sh.1.one,hEg,irN,nrA,nrM,nrE,reduceIte,reduceCtorEq,nrL] at hE2
  have hn12:=hF2.n;have hn02:=hF02.n;try simp only [upd_n,jn_n] at hn12
  replace hEg:=And.intro ei2 hE2
  rotate_left
  ·refine ⟨vo,vs,gg,by simp only [↓pb,qbs,tb89,hgo,Sh.1.one,hEg,irN,nrA,nrM,nrE,reduceIte,reduceCtorEq,nrL], ?_,gg2,gv, ?_,Nat.le_refl _⟩
   ·rw [pairRow,List.append_nil]
    exact G.fr (N:=h1.n) (X:=[]) (by exact frA) (fun x hx=>by subst hx;exact G.grp_lt) (by simp)
   ·rw [pairRow,List.append_nil]
    exact R.fr (N:=h1.n) (X:=[]) (by exact frA) (by simp)
  obtain ⟨vo2,vs2,gg3,e52,G2,gg4,gv2,R2,len2⟩:=hJ2
  have F2:Fr h1.n [] h1 (h1.upd (h1.n + 1) h1.n (.cells [iv i1] 3 .ex)):=by exact frA
  have n12:h1.n + 1≤h2.n:=hF2.n
  have F12:Fr H.n [] h1 h2:=Fr.call (N:=H.n) (by exact frA) hF2 (by omega)
  by_cases hj:i2 < i1
  ·have k0:h2.get H.n=.cells [va,vb,vc,vh] 91 .ex:=by rw [F12.old _ (by omega) (by simp)];exact d0
   have km:h2.get mr=.map (entK (nearAll g g.Spots.length)):=by rw [F12.old _ (by omega) (by simp)];exact d2
   have k7:h2.get h1.n=.cells [iv i1] 3 .ex:=by
    rw [hF2.old h1.n (by simp only [↓pb,qbs,tb89,hgo,Sh.1.one,hEg,irN,nrA,nrM,nrE,reduceIte,reduceCtorEq,nrL];omega) (by simp)]
    simp (disch:=first|exact dA|fail) only [qcs,tb89,hgo,Sh.1.one,hEg,irN,nrA,nrM,nrE,reduceIte,reduceCtorEq,nrL]
   have S3:=Sh.fr hF02
   have G3:=hG.fr hF02
   have q0:h2.rd H.n=some [va,vb,vc,vh]:=by rw [rd_def,k0];rfl
   have q7:h2.rd h1.n=some [iv i1]:=by rw [rd_def,k7];rfl
   obtain ⟨pa1,pa2,pa3,pa4,pa5⟩:=hall i2 (by omega)
   obtain ⟨pb1,pb2,pb3,pb4,pb5⟩:=hall i1 (by omega)
   have S4:=S3.2 i2 (by omega)
   have S5:=S3.2 i1 (by omega)
   obtain ⟨na,hna⟩:∃ na,na=nowOf g (l.getD i2 default).1 hour:=⟨_,rfl⟩
   obtain ⟨nb',hnb⟩:∃ nb',nb'=nowOf g (l.getD i1 default).1 hour:=⟨_,rfl⟩
   have hma:beforeL (↑(untilL hour g.Acts)) ((l.getD i2 default).1.m.getD 0 default) (l.getD i2 default).1.m=na:=hna.symm
   have hmb:beforeL (↑(untilL hour g.Acts)) ((l.getD i1 default).1.m.getD 0 default) (l.getD i1 default).1.m=nb':=hnb.symm
   rw [← hna] at pa4 pa5
   rw [← hnb] at pb4 pb5
   have lS:=S3.1.lt
   have G2o:=G2.one
   repeat' (first|((with_reducible refine hK _ _ fun e2 hEn=>?_);clear hK K;simp only [lv89,forallC,forallL,and_true] at hEn;(try simp only [↓pb,qbs,tb89,hgo,Sh.1.one,e52,k0,q0,q7,ias89 S3.1,S3.1.rd,(S3.1.el eHp_len rfl),eHp,hgo,S3.1.one,S4.one,S5.one,hma,hmb,hEg,irN,nrA,nrM,nrE,reduceIte,reduceCtorEq,nrL] at hEn);clear hEg;(try clear eg);have hEg:=hEn;clear hEn;rename Env=>eg)|((first|((with_reducible first|apply oV_intro|apply oH_intro|apply oB_intro);(simp (disch:=first|exact dA|fail) only [qcs,tb89,hgo,Sh.1.one,e52,k0,q0,q7,ias89 S3.1,S3.1.rd,(S3.1.el eHp_len rfl),eHp,hgo,S3.1.one,S4.one,S5.one,hma,hmb,hEg,irN,nrA,nrM,nrE,reduceIte,reduceCtorEq,nrL];with_reducible exact rfl))|((with_reducible first|apply oblA_and|apply oblR_and|apply oblO_and);(focus exact obA))|((with_reducible apply WO_callV);(focus exact topA);(simp only [↓pb,qbs,tb89,hgo,Sh.1.one,e52,k0,q0,q7,ias89 S3.1,S3.1.rd,(S3.1.el eHp_len rfl),eHp,hgo,S3.1.one,S4.one,S5.one,hma,hmb,hEg,irN,nrA,nrM,nrE,reduceIte,reduceCtorEq,nrL];(first|exact f56 _ _ _ _ _ _ _ (by exact topA) (hG.fr (N:=H.n) (by exact frA)) S3.1.one (by omega)|exact f55 _ _ _ _ _ (by exact topA) (S4.fr0 (N:=0) (by exact frA)) pa1 (by omega)|exact f55 _ _ _ _ _ (by exact topA) (S5.fr0 (N:=0) (by exact frA)) pb1 (by omega)));(intro Gq hq hJq;try simp only [upd_n,jn_n] at hq))|(with_reducible first|refine W_regionE lv89 [10] fun K hK=>?_|refine W_drawnE lv89 [10] fun K hK=>?_));try simp only [↓pb,↓pd,qds,tb89,hgo,Sh.1.one,e52,k0,q0,q7,ias89 S3.1,S3.1.rd,(S3.1.el eHp_len rfl),eHp,hgo,S3.1.one,S4.one,S5.one,hma,hmb,hEg,irN,nrA,nrM,nrE,reduceIte,reduceCtorEq,nrL])|((first|((with_reducible first|apply WO_gT|apply WO_gF|apply WD_gT|apply WD_gF);exact rfl)|(with_reducible apply W_cond));(simp only [↓pb,qbs,tb89,hgo,Sh.1.one,e52,k0,q0,q7,ias89 S3.1,S3.1.rd,(S3.1.el eHp_len rfl),eHp,hgo,S3.1.one,S4.one,S5.one,hma,hmb,hEg,irN,nrA,nrM,nrE,reduceIte,reduceCtorEq,nrL];with_reducible exact rfl);all_goals (intro hc;(first|exact hcX hc|try simp only [hcs] at hc);try ((with_reducible first|apply woI|apply wdI);simp only [↓pb,↓pd,qds,tb89,hgo,Sh.1.one,e52,k0,q0,q7,ias89 S3.1,S3.1.rd,(S3.1.el eHp_len rfl),eHp,hgo,S3.1.one,S4.one,S5.one,hma,hmb,hc,hEg,irN,nrA,nrM,nrE,reduceIte,reduceCtorEq,nrL])))|(with_reducible first|refine W_seq ?_|refine W_block ?_|refine W_skip ?_|refine W_ret ?_|refine W_exit ?_|apply blockK_exit)|((with_reducible apply blockK_pass);(focus decide))|fail)
   rename_i g1q z1 j1 g2q z2 j2 g3q z3 j3
   refine W_forget (N:=h2.n) (X:=[]) (h0:=h2) (fun h=>h.get h2.n=.cells [iv i2] 3 .ex∧h.get Gq.n=.cells (eMom na) 101 .ex∧h.get (Gq.n + 1)=.cells (eMom nb') 101 .ex∧h2.n < Gq.n∧Gq.n + 1 < h.n∧Top h) (by exact frA) ⟨by simp (disch:=first|exact dA|fail) only [qcs,tb89,hgo,Sh.1.one,hEg,irN,nrA,nrM,nrE,reduceIte,reduceCtorEq,nrL],by simp (disch:=first|exact dA|fail) only [qcs,tb89,hgo,Sh.1.one,hEg,irN,nrA,nrM,nrE,reduceIte,reduceCtorEq,nrL],by simp (disch:=first|exact dA|fail) only [qcs,tb89,hgo,Sh.1.one,hEg,irN,nrA,nrM,nrE,reduceIte,reduceCtorEq,nrL],by omega,by simp only [↓pb,qbs,tb89,hgo,Sh.1.one,hEg,irN,nrA,nrM,nrE,reduceIte,reduceCtorEq,nrL];omega,(by exact topA)⟩ ?_
   rintro h5 F5 ⟨m8,m9,m10,n5,n6,T5⟩
   clear hJq j1 j2 j3
   have n25:=F5.n
   have F15:Fr H.n [] (h1.upd (h1.n + 1) h1.n (AObj.cells [Value.int IntKind.i64 ↑i1] 3 Kd.ex)) h5:=Fr.call hF2 F5 hF02.n
   have F05:Fr H.n [] H h5:=Fr.call hF02 F5 hF02.n
   have u0:h5.get H.n=.cells [va,vb,vc,vh] 91 .ex:=by rw [F5.old _ (by omega) (by simp)];exact k0
   have u2:h5.get mr=.map (entK (nearAll g g.Spots.length)):=by rw [F5.old _ (by omega) (by simp)];exact km
   have u7:h5.get h1.n=.cells [iv i1] 3 .ex:=by rw [F5.old _ (by omega) (by simp)];exact k7
   have w0:h5.rd H.n=some [va,vb,vc,vh]:=by rw [rd_def,u0];rfl
   have w7:h5.rd h1.n=some [iv i1]:=by rw [rd_def,u7];rfl
   have w8:h5.rd h2.n=some [iv i2]:=by rw [rd_def,m8];rfl
   have w9:h5.rd Gq.n=some (eMom na):=by rw [rd_def,m9];rfl
   have w10:h5.rd (Gq.n + 1)=some (eMom nb'):=by rw [rd_def,m10];rfl
   obtain ⟨ka,hka⟩:∃ ka:Nat,na.kind=ka:=⟨na.kind.toNat,by omega⟩
   obtain ⟨kb,hkb⟩:∃ kb:Nat,nb'.kind=kb:=⟨nb'.kind.toNat,by omega⟩
   have hkal:ka < g.Sorts.length:=by omega
   have hkbl:kb < g.Sorts.length:=by omega
   have hq5:=(hG.fr F05).q
   have lq5:=hq5.lt
   obtain ⟨qq,hqq⟩:=near_hit (g:=g) (a:=i2) (b:=i1) hj (n:=g.Spots.length) hi1b
   have hlk:lkG (.map (entK (nearAll g g.Spots.length))) (k2 (i2:Int) (i1:Int))=some (iv (dist g i2 i1)):=lkG_hit hqq
   have G5:=G2.fr F5 (fun x hx=>by subst hx;exact G2.grp_lt) (by simp)
   have R5:=R2.fr F5 (by simp)
   obtain ⟨GB,hGB⟩:∃ GB,Gq.n=GB:=⟨_,rfl⟩
   rw [hGB] at m9 m10 n5 n6 w9 w10 hEg
   refine W_drawnP (fun e h=>h=h5∧e 75=.bool (decide (na.tips=0) || decide (nb'.tips=0) || decide (fireMax g na.kind nb'.kind≤dist g i2 i1))∧e 1=iv hour∧e 2=vptr H.n 0∧e 5=vo2∧e 6=.map (some mr)∧e 7=vptr h1.n 0∧e 8=vptr h2.n 0∧e 9=vptr GB 0∧e 10=vptr (GB + 1) 0∧e 17=iv g.Spots.length∧e 18=iv i1∧e 21=iv i1∧e 22=iv i2) ?_ ?_
   ·simp only [↓pb,↓pd,qds,tb89,hgo,Sh.1.one,hEg,irN,nrA,nrM,nrE,reduceIte,reduceCtorEq,nrL]
    repeat' (first|((with_reducible refine hK _ _ fun e2 hEn=>?_);clear hK K;simp only [lv89,forallC,forallL,and_true] at hEn;(try simp only [↓pb,qbs,tb89,hgo,Sh.1.one,w0,w7,w8,w9,w10,u0,u2,eMom,hka,hkb,lk_of,hlk,bd131,ias23 hq5,hq5.rd,(hq5.el eSrt_len rfl),eSrt,hgo,hEg,irN,nrA,nrM,nrE,reduceIte,reduceCtorEq,nrL] at hEn);clear hEg;(try clear eg);have hEg:=hEn;clear hEn;rename Env=>eg)|((first|((with_reducible first|apply oV_intro|apply oH_intro|apply oB_intro);(simp (disch:=first|exact dA|fail) only [qcs,tb89,hgo,Sh.1.one,w0,w7,w8,w9,w10,u0,u2,eMom,hka,hkb,lk_of,hlk,bd131,ias23 hq5,hq5.rd,(hq5.el eSrt_len rfl),eSrt,hgo,hEg,irN,nrA,nrM,nrE,reduceIte,reduceCtorEq,nrL];with_reducible exact rfl))|((with_reducible first|apply oblA_and|apply oblR_and|apply oblO_and);(focus exact obA))|(with_reducible first|refine W_regionF lv89 fun K hK=>?_|refine W_drawnF lv89 fun K hK=>?_));try simp only [↓pb,↓pd,qds,tb89,hgo,Sh.1.one,w0,w7,w8,w9,w10,u0,u2,eMom,hka,hkb,lk_of,hlk,bd131,ias23 hq5,hq5.rd,(hq5.el eSrt_len rfl),eSrt,hgo,hEg,irN,nrA,nrM,nrE,reduceIte,reduceCtorEq,nrL])|((first|((with_reducible first|apply WO_gT|apply WO_gF|apply WD_gT|apply WD_gF);exact rfl)|(with_reducible apply W_cond));(simp only [↓pb,qbs,tb89,hgo,Sh.1.one,w0,w7,w8,w9,w10,u0,u2,eMom,hka,hkb,lk_of,hlk,bd131,ias23 hq5,hq5.rd,(hq5.el eSrt_len rfl),eSrt,hgo,hEg,irN,nrA,nrM,nrE,reduceIte,reduceCtorEq,nrL];with_reducible exact rfl);all_goals (intro hc;(first|exact hcX hc|try simp only [hcs] at hc);try ((with_reducible first|apply woI|apply wdI);simp only [↓pb,↓pd,qds,tb89,hgo,Sh.1.one,w0,w7,w8,w9,w10,u0,u2,eMom,hka,hkb,lk_of,hlk,bd131,ias23 hq5,hq5.rd,(hq5.el eSrt_len rfl),eSrt,hgo,hc,hEg,irN,nrA,nrM,nrE,reduceIte,reduceCtorEq,nrL])))|(with_reducible first|refine W_seq ?_|refine W_block ?_|refine W_skip ?_|refine W_ret ?_|refine W_exit ?_|apply blockK_exit)|((with_reducible apply blockK_pass);(focus decide))|fail)
    ·have q1:¬ (na.tips:Int)=0:=by assumption
     have q2:¬ (nb'.tips:Int)=0:=by assumption
     rw [decide_eq_false (show ¬ na.tips=0 by omega),decide_eq_false (show ¬ nb'.tips=0 by omega)]
     unfold fireMax
     rw [Int.toNat_natCast,Int.toNat_natCast]
     rfl
    ·have q2:(nb'.tips:Int)=0:=by assumption
     rw [decide_eq_true (show nb'.tips=0 by omega),Bool.or_true,Bool.true_or]
    ·have q1:(na.tips:Int)=0:=by assumption
     rw [decide_eq_true (show na.tips=0 by omega),Bool.true_or,Bool.true_or]
   ·rintro e6 h6 ⟨rfl,g75,g1,g2,g5,g6,g7,g8,g9,g10,g17,g18,g21,g22⟩
    have hEg:=And.intro g75 (And.intro g1 (And.intro g2 (And.intro g5 (And.intro g6 (And.intro g7 (And.intro g8 (And.intro g9 (And.intro g10 (And.intro g17 (And.intro g18 (And.intro g21 g22)))))))))))
    clear g75 g1 g2 g5 g6 g7 g8 g9 g10 g17 g18 g21 g22
    have hrow1:pairRow g (known g).1 hour i1 (i2 + 1)=pairRow g (known g).1 hour i1 i2 ++ (if na.tips=0∨nb'.tips=0∨fireMax g na.kind nb'.kind≤dist g i2 i1 then [] else [[emptyW i2 na,emptyW i1 nb']]):=by
     rw [pairRow,pairOne]
     simp only [pa3,pb3,← hna,← hnb]
    repeat' (first|((with_reducible refine hK _ _ fun e2 hEn=>?_);clear hK K;simp only [lv89,forallC,forallL,and_true] at hEn;(try simp only [↓pb,qbs,tb89,hgo,Sh.1.one,hEg,irN,nrA,nrM,nrE,reduceIte,reduceCtorEq,nrL] at hEn);clear hEg;(try clear eg);have hEg:=hEn;clear hEn;rename Env=>eg)|((first|((with_reducible first|apply oV_intro|apply oH_intro|apply oB_intro);(simp (disch:=first|exact dA|fail) only [qcs,tb89,hgo,Sh.1.one,hEg,irN,nrA,nrM,nrE,reduceIte,reduceCtorEq,nrL];with_reducible exact rfl))|((with_reducible first|apply oblA_and|apply oblR_and|apply oblO_and);(focus exact obA))|(with_reducible first|refine W_regionF lv89 fun K hK=>?_|refine W_drawnF lv89 fun K hK=>?_));try simp only [↓pb,↓pd,qds,tb89,hgo,Sh.1.one,hEg,irN,nrA,nrM,nrE,reduceIte,reduceCtorEq,nrL])|((first|((with_reducible first|apply WO_gT|apply WO_gF|apply WD_gT|apply WD_gF);exact rfl)|(with_reducible apply W_cond));(simp only [↓pb,qbs,tb89,hgo,Sh.1.one,hEg,irN,nrA,nrM,nrE,reduceIte,reduceCtorEq,nrL];with_reducible exact rfl);all_goals (intro hc;(first|exact hcX hc|try simp only [hcs] at hc);try ((with_reducible first|apply woI|apply wdI);simp only [↓pb,↓pd,qds,tb89,hgo,Sh.1.one,hc,hEg,irN,nrA,nrM,nrE,reduceIte,reduceCtorEq,nrL])))|(with_reducible first|refine W_seq ?_|refine W_block ?_|refine W_skip ?_|refine W_ret ?_|refine W_exit ?_|apply blockK_exit)|((with_reducible apply blockK_pass);(focus decide))|fail)
    ·have hrc:na.tips=0∨nb'.tips=0∨fireMax g na.kind nb'.kind≤dist g i2 i1:=by
      simpa only [Bool.or_eq_true,decide_eq_true_eq,or_assoc] using hc
     rw [if_pos hrc,List.append_nil] at hrow1
     refine ⟨by omega,by simp only [↓pb,qbs,tb89,hgo,Sh.1.one,hEg,irN,nrA,nrM,nrE,reduceIte,reduceCtorEq,nrL];exact congrArg _ (inc64 (by omega)),by focus exact frA, ?_⟩
     refine ⟨vo2,vs2,gg3,by simp only [hEg], ?_,gg4,gv2, ?_, ?_⟩
     ·rw [hrow1]
      exact G5
     ·rw [hrow1]
      exact R5
     ·rw [hrow1]
      omega
    ·have hrc:¬(na.tips=0∨nb'.tips=0∨fireMax g na.kind nb'.kind≤dist g i2 i1):=by
      rw [← Bool.not_eq_true] at hc
      simpa only [Bool.or_eq_true,decide_eq_true_eq,or_assoc] using hc
     rw [if_neg hrc] at hrow1
     have hln:(pairRules g (known g).1 hour i1 ++ pairRow g (known g).1 hour i1 i2).length≤20:=by
      rw [List.length_append]
      omega
     refine pu114 (n:=(pairRules g (known g).1 hour i1 ++ pairRow g (known g).1 hour i1 i2).length) (m:=1) (c:=vs2) (g:=gg3) (GS.ex (G5.fr (N:=h6.n) (X:=[]) (by exact frA) (fun x hx=>by subst hx;exact G5.grp_lt) (by simp))) (SR.new rfl) (by omega) (by omega) (by omega) (by exact topA) fun GG=>?_
     simp only [↓pb,↓pd,qds,tb89,hgo,Sh.1.one,hEg,irN,nrA,nrM,nrE,reduceIte,reduceCtorEq,nrL]
     repeat' (first|((with_reducible refine hK _ _ fun e2 hEn=>?_);clear hK K;simp only [lv89,forallC,forallL,and_true] at hEn;(try simp only [↓pb,qbs,tb89,hgo,Sh.1.one,hEg,irN,nrA,nrM,nrE,reduceIte,reduceCtorEq,nrL] at hEn);clear hEg;(try clear eg);have hEg:=hEn;clear hEn;rename Env=>eg)|((first|((with_reducible first|apply oV_intro|apply oH_intro|apply oB_intro);(simp (disch:=first|exact dA|fail) only [qcs,tb89,hgo,Sh.1.one,hEg,irN,nrA,nrM,nrE,reduceIte,reduceCtorEq,nrL];with_reducible exact rfl))|((with_reducible first|apply oblA_and|apply oblR_and|apply oblO_and);(focus exact obA))|(with_reducible first|refine W_regionF lv89 fun K hK=>?_|refine W_drawnF lv89 fun K hK=>?_));try simp only [↓pb,↓pd,qds,tb89,hgo,Sh.1.one,hEg,irN,nrA,nrM,nrE,reduceIte,reduceCtorEq,nrL])|((first|((with_reducible first|apply WO_gT|apply WO_gF|apply WD_gT|apply WD_gF);exact rfl)|(with_reducible apply W_cond));(simp only [↓pb,qbs,tb89,hgo,Sh.1.one,hEg,irN,nrA,nrM,nrE,reduceIte,reduceCtorEq,nrL];with_reducible exact rfl);all_goals (intro hc;(first|exact hcX hc|try simp only [hcs] at hc);try ((with_reducible first|apply woI|apply wdI);simp only [↓pb,↓pd,qds,tb89,hgo,Sh.1.one,hc,hEg,irN,nrA,nrM,nrE,reduceIte,reduceCtorEq,nrL])))|(with_reducible first|refine W_seq ?_|refine W_block ?_|refine W_skip ?_|refine W_ret ?_|refine W_exit ?_|apply blockK_exit)|((with_reducible apply blockK_pass);(focus decide))|fail)
     have hgd1:=gd_ge gg4 (n:=h6.n + 1) (by omega)
     have hgd2:=GG.grp_lt
     simp only [upd_n,jn_n] at hgd2
     refine ⟨by omega,by simp only [↓pb,qbs,tb89,hgo,Sh.1.one,hEg,irN,nrA,nrM,nrE,reduceIte,reduceCtorEq,nrL];exact congrArg _ (inc64 (by omega)),by focus exact frA, ?_⟩
     refine ⟨.slice (some ⟨h6.n + 1,0,none⟩) ((pairRules g (known g).1 hour i1 ++ pairRow g (known g).1 hour i1 i2).length + 1) ((pairRules g (known g).1 hour i1 ++ pairRow g (known g).1 hour i1 i2).length + 1),vs2 ++ [.func (.func 106) #[] #[vptr h2.n 0,vptr GB 0,vptr h1.n 0,vptr (GB + 1) 0]],some (gg3.getD (h6.n + 1)),by simp only [hEg], ?_,gd_all hgd1,.inr (by show H.n≤h6.n + 1;omega), ?_, ?_⟩
     ·rw [hrow1,← List.append_assoc,List.length_append,List.length_singleton]
      exact GG
     ·rw [hrow1,← List.append_assoc]
      exact (R5.fr (N:=H.n) (X:=[]) (by exact frA) (by simp)).app ⟨.pair ⟨List.not_mem_nil,by simp only [upd_n];omega⟩ ⟨List.not_mem_nil,by simp only [upd_n];omega⟩ ⟨List.not_mem_nil,by simp only [upd_n];omega⟩ ⟨List.not_mem_nil,by simp only [upd_n];omega⟩ (by simp (disch:=first|exact dA|fail) only [qcs,tb89,hgo,Sh.1.one,hEg,irN,nrA,nrM,nrE,reduceIte,reduceCtorEq,nrL];exact m8) (by simp (disch:=first|exact dA|fail) only [qcs,tb89,hgo,Sh.1.one,hEg,irN,nrA,nrM,nrE,reduceIte,reduceCtorEq,nrL];exact m9) (by simp (disch:=first|exact dA|fail) only [qcs,tb89,hgo,Sh.1.one,hEg,irN,nrA,nrM,nrE,reduceIte,reduceCtorEq,nrL];exact u7) (by simp (disch:=first|exact dA|fail) only [qcs,tb89,hgo,Sh.1.one,hEg,irN,nrA,nrM,nrE,reduceIte,reduceCtorEq,nrL];exact m10),trivial⟩
     ·rw [hrow1,List.length_append,List.length_singleton]
      omega
  ·have e2n:i2=i1:=by omega
   subst e2n
   repeat' (first|((with_reducible refine hK _ _ fun e2 hEn=>?_);clear hK K;simp only [lv89,forallC,forallL,and_true] at hEn;(try simp only [↓pb,qbs,tb89,hgo,Sh.1.one,hEg,irN,nrA,nrM,nrE,reduceIte,reduceCtorEq,nrL] at hEn);clear hEg;(try clear eg);have hEg:=hEn;clear hEn;rename Env=>eg)|((first|((with_reducible first|apply oV_intro|apply oH_intro|apply oB_intro);(simp (disch:=first|exact dA|fail) only [qcs,tb89,hgo,Sh.1.one,hEg,irN,nrA,nrM,nrE,reduceIte,reduceCtorEq,nrL];with_reducible exact rfl))|((with_reducible first|apply oblA_and|apply oblR_and|apply oblO_and);(focus exact obA))|(with_reducible first|refine W_regionF lv89 fun K hK=>?_|refine W_drawnF lv89 fun K hK=>?_));try simp only [↓pb,↓pd,qds,tb89,hgo,Sh.1.one,hEg,irN,nrA,nrM,nrE,reduceIte,reduceCtorEq,nrL])|((first|((with_reducible first|apply WO_gT|apply WO_gF|apply WD_gT|apply WD_gF);exact rfl)|(with_reducible apply W_cond));(simp only [↓pb,qbs,tb89,hgo,Sh.1.one,hEg,irN,nrA,nrM,nrE,reduceIte,reduceCtorEq,nrL];with_reducible exact rfl);all_goals (intro hc;(first|exact hcX hc|try simp only [hcs] at hc);try ((with_reducible first|apply woI|apply wdI);simp only [↓pb,↓pd,qds,tb89,hgo,Sh.1.one,hc,hEg,irN,nrA,nrM,nrE,reduceIte,reduceCtorEq,nrL])))|(with_reducible first|refine W_seq ?_|refine W_block ?_|refine W_skip ?_|refine W_ret ?_|refine W_exit ?_|apply blockK_exit)|((with_reducible apply blockK_pass);(focus decide))|fail)
   refine ⟨by omega,by simp only [↓pb,qbs,tb89,hgo,Sh.1.one,hEg,irN,nrA,nrM,nrE,reduceIte,reduceCtorEq,nrL];exact congrArg _ (inc64 (by omega)),by focus exact frA, ?_⟩
   exact ⟨vo2,vs2,gg3,by simp only [hEg,e52],G2,gg4,gv2,R2,by show (_ ++ _:List Rul).length≤_;rw [List.length_append];omega⟩
 ·have e1n:i1=g.Spots.length:=by omega
  repeat' (first|((with_reducible refine hK _ _ fun e2 hEn=>?_);clear hK K;simp only [lv89,forallC,forallL,and_true] at hEn;(try simp only [↓pb,qbs,tb89,hgo,Sh.1.one,hEg,irN,nrA,nrM,nrE,reduceIte,reduceCtorEq,nrL] at hEn);clear hEg;(try clear eg);have hEg:=hEn;clear hEn;rename Env=>eg)|((first|((with_reducible first|apply oV_intro|apply oH_intro|apply oB_intro);(simp (disch:=first|exact dA|fail) only [qcs,tb89,hgo,Sh.1.one,hEg,irN,nrA,nrM,nrE,reduceIte,reduceCtorEq,nrL];with_reducible exact rfl))|((with_reducible first|apply oblA_and|apply oblR_and|apply oblO_and);(focus exact obA))|(with_reducible first|refine W_regionF lv89 fun K hK=>?_|refine W_drawnF lv89 fun K hK=>?_));try simp only [↓pb,↓pd,qds,tb89,hgo,Sh.1.one,hEg,irN,nrA,nrM,nrE,reduceIte,reduceCtorEq,nrL])|((first|((with_reducible first|apply WO_gT|apply WO_gF|apply WD_gT|apply WD_gF);exact rfl)|(with_reducible apply W_cond));(simp only [↓pb,qbs,tb89,hgo,Sh.1.one,hEg,irN,nrA,nrM,nrE,reduceIte,reduceCtorEq,nrL];with_reducible exact rfl);all_goals (intro hc;(first|exact hcX hc|try simp only [hcs] at hc);try ((with_reducible first|apply woI|apply wdI);simp only [↓pb,↓pd,qds,tb89,hgo,Sh.1.one,hc,hEg,irN,nrA,nrM,nrE,reduceIte,reduceCtorEq,nrL])))|(with_reducible first|refine W_seq ?_|refine W_block ?_|refine W_skip ?_|refine W_ret ?_|refine W_exit ?_|apply blockK_exit)|((with_reducible apply blockK_pass);(focus decide))|fail)
  refine ⟨by first|exact .inl rfl|exact .inr rfl, ?_⟩
  rw [ret1 Try.results89]
  simp only [↓pb,qbs,tb89,hgo,Sh.1.one,rv_tmp,rv_cell,hEg,irN,nrA,nrM,nrE,reduceIte,reduceCtorEq,nrL]
  repeat ((with_reducible apply oV_intro);(simp (disch:=first|exact dA|fail) only [qcs,tb89,hgo,Sh.1.one,hEg,irN,nrA,nrM,nrE,reduceIte,reduceCtorEq,nrL];exact rfl))
  rw [e1n] at G R
  exact ⟨⟨vs,gg,by rw [e5];exact G,gg2,by rw [e5];exact gv,R⟩,(by exact frA)⟩
theorem RS114 {H:AHeap} {N1 N2:Nat} {v x:Value} {rs ss:List Rul} {g g2:Option Nat} {K:Value→AHeap→Prop} (ht:Top H) (A:RS H N1 v rs g) (B:RS H N2 x ss g2) (hN:N1≤H.n) (hl:rs.length + ss.length≤1000000)
  (k:∀ v' G' g',App H G' g g' ss.length→RS G' N1 v' (rs ++ ss) g'→K v' G'):oB (appendOp Try.prog #[114,114] [v,x] H) K :=
 A.app ht B hN (fun c new G S hm=>ap114 G S hm (by omega) (by omega)) (fun c new G S=>apz114 G S) k
set_option maxHeartbeats 4000000 in
theorem f68 (va vb vc vh:Value) (g:Gnd) (l:List (Hp×Value)) (hour:Int) (H:AHeap) (hT:Top H) (hG:RG H va vb vc g) (hsk:g.Spots.length=0∨SK H 3 va) (Sh:RHs H vh l) (ok:Ok g) (el:l.map (·.1)=(known g).1) (hll:l.length=g.Spots.length) (hho:0≤hour∧hour≤72) :
  ∃ v H',C5 (.fn 68) #[.agg ⟨[va,vb,vc,vh]⟩,iv hour] H v H'∧(∃ v1 v2 g1 g2,v=.tuple #[v1,v2]∧RS H' H.n v1 (heapsR g (known g).1 hour g.Spots.length) g1∧RS H' H.n v2 (pairRules g (known g).1 hour g.Spots.length) g2∧∀ x,g1=some x→g2≠some x)∧Fr H.n [] H H':=by
 have hgo:=hG.one
 have hsp:=ok.spots
 have hal:=ok.acts
 have hvb:g.Spots.length=0∨vblk va < H.n:=hG.p.lt
 have hsk0:∀ h,Fr H.n [] H h→g.Spots.length=0∨SK h 3 va:=fun h hF=>by
  rcases hsk with q|q
  ·exact .inl q
  ·rcases hvb with q2|q2
   ·exact .inl q2
   ·exact .inr (q.fr hF q2 (by simp))
 have hso:=Sh.1.one
 refine Cl.ofW Try.func68 rfl (by kernel_rfl) (by rw [Try.ntmps68];exact Nat.le_of_ble_eq_true rfl) (by kernel_rfl) ?_
 have hEg:True:=trivial
 refine gcW [0,1] ?_
 intro eg hEn
 simp only [forallC,forallL,and_true] at hEn
 try simp only [↓pb,qbs,tb68,hgo,hso,lns22 hG.p,hEg,irN,nrA,nrM,nrE,reduceIte,reduceCtorEq,nrL] at hEn
 replace hEg:=hEn;clear hEn
 repeat' (first|((with_reducible refine hK _ _ fun e2 hEn=>?_);clear hK K;simp only [lv68,forallC,forallL,and_true] at hEn;(try simp only [↓pb,qbs,tb68,hgo,hso,lns22 hG.p,hEg,irN,nrA,nrM,nrE,reduceIte,reduceCtorEq,nrL] at hEn);clear hEg;(try clear eg);have hEg:=hEn;clear hEn;rename Env=>eg)|((first|((with_reducible first|apply oV_intro|apply oH_intro|apply oB_intro);(simp (disch:=first|exact dA|fail) only [qcs,tb68,hgo,hso,lns22 hG.p,hEg,irN,nrA,nrM,nrE,reduceIte,reduceCtorEq,nrL];with_reducible exact rfl))|(with_reducible first|refine W_regionF lv68 fun K hK=>?_));try simp only [↓pb,↓pd,qds,tb68,hgo,hso,lns22 hG.p,hEg,irN,nrA,nrM,nrE,reduceIte,reduceCtorEq,nrL])|((with_reducible apply W_cond);(simp only [↓pb,qbs,tb68,hgo,hso,lns22 hG.p,hEg,irN,nrA,nrM,nrE,reduceIte,reduceCtorEq,nrL];with_reducible exact rfl);all_goals (intro hc;(first|exact hcX hc|try simp only [hcs] at hc)))|(with_reducible first|refine W_seq ?_|refine W_block ?_|refine W_skip ?_|refine W_ret ?_|refine W_exit ?_|apply blockK_exit)|((with_reducible apply blockK_pass);(focus decide))|fail)
 refine W_count [1,2,10] (by kernel_rfl) 11 (g.Spots.length) (H.n) [] [] (fun i e h=>∃ v1 g1,e 4=v1∧RS h H.n v1 (heapsR g (known g).1 hour i) g1) (by simp only [↓pb,qbs,tb68,hgo,hso,lns22 hG.p,hEg,irN,nrA,nrM,nrE,reduceIte,reduceCtorEq,nrL]) (by focus exact topA) (H0:=H) (by focus exact frA) (by intro b hb hlt;simp at hb ⊢;try omega) ?_ ?_
 rotate_left
 intro i1 e1 h1 hi1 hE1 ei1 hF1 hF01 hTh1 hJ1
 simp only [forallC,forallL,and_true] at hE1
 try simp only [↓pb,qbs,tb68,hgo,hso,lns22 hG.p,hEg,irN,nrA,nrM,nrE,reduceIte,reduceCtorEq,nrL] at hE1
 have hn11:=hF1.n;have hn01:=hF01.n;try simp only [upd_n,jn_n] at hn11
 replace hEg:=And.intro ei1 hE1
 rotate_left
 ·exact ⟨_,none,by simp only [↓pb,qbs,tb68,hgo,hso,lns22 hG.p,hEg,irN,nrA,nrM,nrE,reduceIte,reduceCtorEq,nrL],RS.nul⟩
 obtain ⟨v1,g1,e4,R1⟩:=hJ1
 have o1:=R1.one
 have r0:h1.rd H.n=some [va,vb,vc,vh]:=by
  rw [hF1.rd (b:=H.n) (by simp only [↓pb,qbs,tb68,hgo,hso,lns22 hG.p,hEg,irN,nrA,nrM,nrE,reduceIte,reduceCtorEq,nrL];omega) (by simp)]
  simp (disch:=first|exact dA|fail) only [qcs,tb68,hgo,hso,lns22 hG.p,hEg,irN,nrA,nrM,nrE,reduceIte,reduceCtorEq,nrL]
 have S1:=Sh.fr hF01
 have G1:=hG.fr hF01
 by_cases hi2:i1 < g.Spots.length
 ·have hgx:(known g).1.getD i1 default=(l.getD i1 default).1:=by rw [← el,getD_mapA (by omega)]
  repeat' (first|((with_reducible refine hK _ _ fun e2 hEn=>?_);clear hK K;simp only [lv68,forallC,forallL,and_true] at hEn;(try simp only [↓pb,qbs,tb68,hgo,hso,lns22 hG.p,hEg,irN,nrA,nrM,nrE,reduceIte,reduceCtorEq,nrL] at hEn);clear hEg;(try clear eg);have hEg:=hEn;clear hEn;rename Env=>eg)|((first|((with_reducible first|apply oV_intro|apply oH_intro|apply oB_intro);(simp (disch:=first|exact dA|fail) only [qcs,tb68,hgo,hso,lns22 hG.p,e4,r0,hgo,hso,hEg,irN,nrA,nrM,nrE,reduceIte,reduceCtorEq,nrL];with_reducible exact rfl))|((with_reducible apply WO_callF);(focus exact topA);(simp only [↓pb,qbs,tb68,hgo,hso,lns22 hG.p,e4,r0,hgo,hso,hEg,irN,nrA,nrM,nrE,reduceIte,reduceCtorEq,nrL];exact f88 _ _ _ _ _ _ _ _ _ (by exact topA) (G1.fr (N:=h1.n) (by exact frA)) (S1.fr (N:=h1.n) (by exact frA)) ok el hll (by omega) hho);(rintro vq Gq hq hJq ⟨us,gu,GU,gu2,bu,RU⟩;try simp only [upd_n,jn_n] at hq))|(with_reducible first|refine W_regionF lv68 fun K hK=>?_));try simp only [↓pb,↓pd,qds,tb68,hgo,hso,lns22 hG.p,e4,r0,hgo,hso,hEg,irN,nrA,nrM,nrE,reduceIte,reduceCtorEq,nrL])|((with_reducible apply W_cond);(simp only [↓pb,qbs,tb68,hgo,hso,lns22 hG.p,e4,r0,hgo,hso,hEg,irN,nrA,nrM,nrE,reduceIte,reduceCtorEq,nrL];with_reducible exact rfl);all_goals (intro hc;(first|exact hcX hc|try simp only [hcs] at hc)))|(with_reducible first|refine W_seq ?_|refine W_block ?_|refine W_skip ?_|refine W_ret ?_|refine W_exit ?_|apply blockK_exit)|((with_reducible apply blockK_pass);(focus decide))|fail)
  have hlh:=heapRules_len g (l.getD i1 default).1 i1 hour
  have hls:=heapsR_len g (known g).1 hour i1
  have hm4:i1 * (1 + 2 * g.Acts.length)≤4 * 21:=Nat.mul_le_mul (by omega) (by omega)
  have hg1:∀ x,g1=some x→H.n≤x:=by
   obtain ⟨vs,a1,a2,a3⟩:=R1
   exact a2
  refine RS114 (by exact topA) (R1.fr0 (by exact frA)) (⟨us,GU,gu2,RU⟩:RS (h1.jn Gq) h1.n _ _ gu) (by simp only [jn_n];omega) (by omega) fun v' G' g' AP R'=>?_
  have FA:Fr H.n [] (h1.jn Gq) G':=AP.fr H.n (by simp only [jn_n];omega) hg1
  have FB:Fr H.n [] (H.upd (H.n + 1) H.n (.cells [va,vb,vc,vh] 91 .ex)) G':=Fr.trans (B:=h1.jn Gq) (by exact frA) FA
  have TA:=AP.top
  have o2:=R'.one
  have nA:=AP.n
  simp only [jn_n] at nA
  repeat' (first|((with_reducible refine hK _ _ fun e2 hEn=>?_);clear hK K;simp only [lv68,forallC,forallL,and_true] at hEn;(try simp only [↓pb,qbs,tb68,hgo,hso,lns22 hG.p,hEg,irN,nrA,nrM,nrE,reduceIte,reduceCtorEq,nrL] at hEn);clear hEg;(try clear eg);have hEg:=hEn;clear hEn;rename Env=>eg)|((first|((with_reducible first|apply oV_intro|apply oH_intro|apply oB_intro);(simp (disch:=first|exact dA|fail) only [qcs,tb68,hgo,hso,lns22 hG.p,o2,hEg,irN,nrA,nrM,nrE,reduceIte,reduceCtorEq,nrL];with_reducible exact rfl))|(with_reducible first|refine W_regionF lv68 fun K hK=>?_));try simp only [↓pb,↓pd,qds,tb68,hgo,hso,lns22 hG.p,o2,hEg,irN,nrA,nrM,nrE,reduceIte,reduceCtorEq,nrL])|((with_reducible apply W_cond);(simp only [↓pb,qbs,tb68,hgo,hso,lns22 hG.p,o2,hEg,irN,nrA,nrM,nrE,reduceIte,reduceCtorEq,nrL];with_reducible exact rfl);all_goals (intro hc;(first|exact hcX hc|try simp only [hcs] at hc)))|(with_reducible first|refine W_seq ?_|refine W_block ?_|refine W_skip ?_|refine W_ret ?_|refine W_exit ?_|apply blockK_exit)|((with_reducible apply blockK_pass);(focus decide))|fail)
  refine ⟨by omega,by simp only [↓pb,qbs,tb68,hgo,hso,lns22 hG.p,hEg,irN,nrA,nrM,nrE,reduceIte,reduceCtorEq,nrL];exact congrArg _ (inc64 (by omega)),by focus exact frA, ?_⟩
  refine ⟨v',g',by simp only [hEg], ?_⟩
  rw [heapsR,hgx]
  exact R'
 ·have e1n:i1=g.Spots.length:=by omega
  subst e1n
  repeat' (first|((with_reducible refine hK _ _ fun e2 hEn=>?_);clear hK K;simp only [lv68,forallC,forallL,and_true] at hEn;(try simp only [↓pb,qbs,tb68,hgo,hso,lns22 hG.p,hEg,irN,nrA,nrM,nrE,reduceIte,reduceCtorEq,nrL] at hEn);clear hEg;(try clear eg);have hEg:=hEn;clear hEn;rename Env=>eg)|((first|((with_reducible first|apply oV_intro|apply oH_intro|apply oB_intro);(simp (disch:=first|exact dA|fail) only [qcs,tb68,hgo,hso,lns22 hG.p,e4,r0,hgo,hso,hEg,irN,nrA,nrM,nrE,reduceIte,reduceCtorEq,nrL];with_reducible exact rfl))|((with_reducible apply WO_callF);(focus exact topA);(simp only [↓pb,qbs,tb68,hgo,hso,lns22 hG.p,e4,r0,hgo,hso,hEg,irN,nrA,nrM,nrE,reduceIte,reduceCtorEq,nrL];exact f89 _ _ _ _ _ _ _ _ (by exact topA) (G1.fr (N:=h1.n) (by exact frA)) (hsk0 _ (by exact frA)) (S1.fr (N:=h1.n) (by exact frA)) ok el hll hho);(rintro vq Gq hq hJq ⟨us,gu,GU,gu2,bu,RU⟩;try simp only [upd_n,jn_n] at hq))|(with_reducible first|refine W_regionF lv68 fun K hK=>?_));try simp only [↓pb,↓pd,qds,tb68,hgo,hso,lns22 hG.p,e4,r0,hgo,hso,hEg,irN,nrA,nrM,nrE,reduceIte,reduceCtorEq,nrL])|((with_reducible apply W_cond);(simp only [↓pb,qbs,tb68,hgo,hso,lns22 hG.p,e4,r0,hgo,hso,hEg,irN,nrA,nrM,nrE,reduceIte,reduceCtorEq,nrL];with_reducible exact rfl);all_goals (intro hc;(first|exact hcX hc|try simp only [hcs] at hc)))|(with_reducible first|refine W_seq ?_|refine W_block ?_|refine W_skip ?_|refine W_ret ?_|refine W_exit ?_|apply blockK_exit)|((with_reducible apply blockK_pass);(focus decide))|fail)
  refine ⟨by first|exact .inl rfl|exact .inr rfl, ?_⟩
  rw [ret2 Try.results68]
  simp only [↓pb,qbs,tb68,hgo,hso,lns22 hG.p,rv_tmp,rv_cell,hEg,irN,nrA,nrM,nrE,reduceIte,reduceCtorEq,nrL]
  repeat ((with_reducible apply oV_intro);(simp (disch:=first|exact dA|fail) only [qcs,tb68,hgo,hso,lns22 hG.p,hEg,irN,nrA,nrM,nrE,reduceIte,reduceCtorEq,nrL];exact rfl))
  refine ⟨⟨v1,_,g1,gu,rfl,R1.fr0 (by exact frA),⟨us,GU,fun x hx=>Nat.le_trans hn01 (gu2 x hx),RU⟩, ?_⟩,(by exact frA)⟩
  intro x hx hy
  have:=R1.gn x hx
  have:=gu2 x hy
  omega
end Go.Proofs.Swa
