/- Part 13. -/
import Derived.Test.YtkjcijlaehflhaaP12
set_option maxRecDepth 20000
set_option linter.unusedVariables false
set_option linter.unusedSimpArgs false
namespace Go.Proofs.Swa
open Go
open Nat renaming reduceAdd → nrA, reduceMul → nrM, reduceEqDiff → nrE, reduceLT → nrL
open Int renaming reduceToNat → irN
attribute [local congr] Ja Gm I8 I9 Jb Hl Hm Hn
theorem Py {a b c d:Value}:atN [a,b,c,d] 0 3=some (.agg ⟨[a,b,c]⟩):=rfl
set_option maxHeartbeats 4000000 in
theorem f88 (va vb vc vh:Value)(g:Cv)(l:List (Hp×Value))(spot:Nat)(hour:Int)(H:Aa)(hT:C1 H)(hG:RG H va vb vc g)(Sh:RHs H vh l)(ok:Ok g)(el:l.map (·.1)=(known g).1)(hll:l.length=g.Spots.length)(hs:spot<l.length)(hho:0≤hour∧hour≤72) :
  ∃ v H',C5 (.fn 88) #[.agg ⟨[va,vb,vc,vh]⟩,iv spot,iv hour] H v H'∧(∃ vs gg,GS H' 1 (Fl g (l.getD spot default).1 spot hour).length v vs gg∧(∀ x,gg=some x→H.n≤x)∧H.n≤C4 v∧D8 H' [] vs (Fl g (l.getD spot default).1 spot hour))∧Fr H.n [] H H':=by
 have hx:(l.getD spot default).1∈(known g).1:=by
  rw[← el]
  refine List.mem_map.2 ⟨_, ?_,rfl⟩
  simp[List.getD,List.getElem?_eq_getElem hs]
 have hal:=ok.acts
 have hf:=Nn hal _ hx
 have S2:=Sh.2 spot hs
 have l1:=Sh.1.lt
 have hfp:=hf.pos
 have hfl:=hf.len
 have hgo:=hG.one
 have hb1:=hf.before (B5 hour g.Acts)
 have hgx:(known g).1.getD spot default=(l.getD spot default).1:=by rw[← el,Kk hs]
 have hul:=E4 hour g.Acts
 have hkn:=Xo ok (g:=g) (j:=spot) (by rw[← el,List.length_map];exact hs) hul
 rw[hgx]at hkn
 obtain⟨p,hp⟩:∃ p,p=l.getD spot default:=⟨_,rfl⟩
 rw[← hp]at S2 hf hfp hfl hb1 hkn hgx ⊢
 obtain⟨now,hnow⟩:∃ now,now=Gw g p.1 hour:=⟨_,rfl⟩
 have hnow2:Ft (↑(B5 hour g.Acts)) (p.1.m.getD 0 default) p.1.m=now:=hnow.symm
 have hnow3:p.1.before (B5 hour g.Acts)=now:=hnow.symm
 rw[hnow3]at hb1 hkn
 have hen:(Mq (l.getD spot default))=Mq p:=by rw[hp]
 have hlp:(Mq p).length=122:=Df p
 obtain⟨kn,hknn⟩:∃ kn:Nat,now.kind=kn:=⟨now.kind.toNat,by omega⟩
 have hhp:B3g g spot kn=Lg g spot kn:=rfl
 have hp2:l.getD spot default=p:=hp.symm
 refine Cl.ofW Try.func88 rfl (by kernel_rfl) (by rw[Try.ntmps88];exact Nat.le_of_ble_eq_true rfl) (by kernel_rfl) ?_
 have Ab:True:=trivial
 refine Jx [0,1,2] ?_
 intro eg Aj
 simp only[Ag,Af,and_true]at Aj
 try simp only[↓pb,An,De,hgo,Sh.1.one,Ab,irN,nrA,nrM,nrE,reduceIte,reduceCtorEq,nrL]at Aj
 replace Ab:=Aj;clear Aj
 repeat'(first|((with_reducible refine hK _ _ fun e2 Aj=>?_);clear hK K;simp only[It,Ag,Af,and_true,↓pb,An,De,hgo,Sh.1.one,Ab,irN,nrA,nrM,nrE,reduceIte,reduceCtorEq,nrL]at Aj;clear Ab;(try clear eg);have Ab:=Aj;clear Aj;rename Bi=>eg)|((first|((with_reducible first|apply Ac|apply Al|apply Ak);(simp(disch:=try exact dA) only[Bh,De,hgo,Sh.1.one,Jh Sh.1,Sh.1.one,Gx Sh.1,Sh.1.rd,(Sh.1.el Df rfl),hgo,S2.one,Nat.mul_one,hen,hp2,Py,hnow2,hknn,hhp,Mq,Cq,Ab,irN,nrA,nrM,nrE,reduceIte,reduceCtorEq,nrL];with_reducible exact rfl))|((with_reducible first|apply Ar|apply As|apply Aq);(focus exact Ee))|((with_reducible apply Cy);(focus exact Bb);(simp only[↓pb,An,De,hgo,Sh.1.one,Jh Sh.1,Sh.1.one,Gx Sh.1,Sh.1.rd,(Sh.1.el Df rfl),hgo,S2.one,Nat.mul_one,hen,hp2,Py,hnow2,hknn,hhp,Mq,Cq,Ab,irN,nrA,nrM,nrE,reduceIte,reduceCtorEq,nrL];exact B4E ⟨spot,now.takes,now.tips,Lg g spot kn⟩ _ (by exact Bb));(rintro vq Gq hq Fy ⟨or,hor⟩;try simp only[Ao,A3]at hq))|((with_reducible apply Bz);(focus exact Bb);(simp only[↓pb,An,De,hgo,Sh.1.one,Jh Sh.1,Sh.1.one,Gx Sh.1,Sh.1.rd,(Sh.1.el Df rfl),hgo,S2.one,Nat.mul_one,hen,hp2,Py,hnow2,hknn,hhp,Mq,Cq,Ab,irN,nrA,nrM,nrE,reduceIte,reduceCtorEq,nrL];(first|exact f56 _ _ _ _ _ _ _ (by exact Bb) (hG.fr (N:=H.n) (by exact Bm)) Sh.1.one (by omega)|exact f55 _ _ _ _ _ (by exact Bb) (S2.fr0 (N:=0) (by exact Bm)) hfp (by omega)|exact f78 _ _ _ _ _ _ _ (by exact Bb) (hG.fr (N:=H.n) (by exact Bm)) (by omega) (by omega)));(intro Gq hq Fy;try simp only[Ao,A3]at hq))|(with_reducible first|refine Eu It [5] fun K hK=>?_|refine Fx It [5] fun K hK=>?_));try simp only[↓pb,↓pd,Bp,De,hgo,Sh.1.one,Jh Sh.1,Sh.1.one,Gx Sh.1,Sh.1.rd,(Sh.1.el Df rfl),hgo,S2.one,Nat.mul_one,hen,hp2,Py,hnow2,hknn,hhp,Mq,Cq,Ab,irN,nrA,nrM,nrE,reduceIte,reduceCtorEq,nrL])|((first|((with_reducible first|apply Br|apply Bt|apply Cc|apply Cd);exact rfl)|(with_reducible apply Au));(simp only[↓pb,An,De,hgo,Sh.1.one,Jh Sh.1,Sh.1.one,Gx Sh.1,Sh.1.rd,(Sh.1.el Df rfl),hgo,S2.one,Nat.mul_one,hen,hp2,Py,hnow2,hknn,hhp,Mq,Cq,Ab,irN,nrA,nrM,nrE,reduceIte,reduceCtorEq,nrL];with_reducible exact rfl);all_goals(intro hc;(first|exact C8 hc|try simp only[C0]at hc);try((with_reducible first|apply E3|apply Ge);simp only[↓pb,↓pd,Bp,De,hgo,Sh.1.one,Jh Sh.1,Sh.1.one,Gx Sh.1,Sh.1.rd,(Sh.1.el Df rfl),hgo,S2.one,Nat.mul_one,hen,hp2,Py,hnow2,hknn,hhp,Mq,Cq,hc,Ab,irN,nrA,nrM,nrE,reduceIte,reduceCtorEq,nrL])))|(with_reducible first|refine Az ?_|refine Ap ?_|refine At ?_|refine Ay ?_|refine Ax ?_|apply Ad)|((with_reducible apply Ae);(focus decide))|fail)
 rename_i g56 q56 j56 g55 q55 j55 g78 q78 j78
 refine Ga (N:=H.n) (X:=[]) (h0:=H) (fun h=>(h.get H.n=.cells [va,vb,vc,vh] 91 .ex∧h.get (H.n+1)=.cells [iv spot] 3 .ex∧h.get (H.n+2)=.cells [iv hour] 3 .ex∧h.get (H.n+3)=.cells (Mq p) 99 .ex)∧(h.get g55.n=.cells (Cq now) 101 .ex∧h.get (Gq.n+1)=.cells [.slice (some ⟨Gq.n,0,none⟩) 1 1] 114 .ex∧h.get (Gq.n+2)=.cells [iv (0:Nat)] 3 .ex∧h.get (Gq.n+3)=.cells [iv (0:Nat)] 3 .ex)∧GS h 1 1 (.slice (some ⟨Gq.n,0,none⟩) 1 1) [vq] none∧(∀ x,Gq.n≤x→K4 h [Gq.n+1,Gq.n+2,Gq.n+3,x] vq [⟨spot,now.takes,now.tips,Lg g spot kn⟩])∧Gq.n+3<h.n∧C1 h) (by exact Bm) ⟨⟨by simp(disch:=try exact dA) only[Bh,De,hgo,Sh.1.one,Ab,irN,nrA,nrM,nrE,reduceIte,reduceCtorEq,nrL],by simp(disch:=try exact dA) only[Bh,De,hgo,Sh.1.one,Ab,irN,nrA,nrM,nrE,reduceIte,reduceCtorEq,nrL],by simp(disch:=try exact dA) only[Bh,De,hgo,Sh.1.one,Ab,irN,nrA,nrM,nrE,reduceIte,reduceCtorEq,nrL],by simp(disch:=try exact dA) only[Bh,De,hgo,Sh.1.one,Ab,irN,nrA,nrM,nrE,reduceIte,reduceCtorEq,nrL];rfl⟩,⟨by simp(disch:=try exact dA) only[Bh,De,hgo,Sh.1.one,Ab,irN,nrA,nrM,nrE,reduceIte,reduceCtorEq,nrL];rw[Cq,hknn],by simp(disch:=try exact dA) only[Bh,De,hgo,Sh.1.one,Ab,irN,nrA,nrM,nrE,reduceIte,reduceCtorEq,nrL],by simp(disch:=try exact dA) only[Bh,De,hgo,Sh.1.one,Ab,irN,nrA,nrM,nrE,reduceIte,reduceCtorEq,nrL];rfl,by simp(disch:=try exact dA) only[Bh,De,hgo,Sh.1.one,Ab,irN,nrA,nrM,nrE,reduceIte,reduceCtorEq,nrL];rfl⟩, ?_, ?_,by simp only[↓pb,An,De,hgo,Sh.1.one,Ab,irN,nrA,nrM,nrE,reduceIte,reduceCtorEq,nrL];omega,(by exact Bb)⟩ ?_
 ·refine .full rfl ?_ (k:=.ex) (d:=[vq]) (T:=119) ?_ (.inl rfl) (Nat.le_refl _) rfl (fun _=>rfl)
  ·simp only[↓pb,An,De,hgo,Sh.1.one,Ab,irN,nrA,nrM,nrE,reduceIte,reduceCtorEq,nrL]
   omega
  ·simp(disch:=try exact dA) only[Bh,De,hgo,Sh.1.one,Ab,irN,nrA,nrM,nrE,reduceIte,reduceCtorEq,nrL]
 ·intro x hx
  have h1:=hor [] (by simp)
  have h2:=h1.ex (E':=[Gq.n+1,Gq.n+2,Gq.n+3,x]) (by
   intro b hb hlt
   simp only[List.mem_cons,List.not_mem_nil,or_false,A3]at hb hlt
   omega)
  exact h2.fr (N:=Gq.n) (X:=[]) (by exact Bm) (by simp)
 rintro hb Fb ⟨⟨y0,y1,y2,y3⟩,⟨y4,y5,y6,y7⟩,Gb,Rb,nb1,Tb⟩
 clear hor Fy j56 j55 j78
 obtain⟨GO,hGO⟩:∃ GO,Gq.n=GO:=⟨_,rfl⟩
 rw[hGO]at y5 y6 y7 Gb Rb nb1 hq Ab
 have ry0:hb.rd H.n=some [va,vb,vc,vh]:=by rw[Bf,y0];rfl
 have ry1:hb.rd (H.n+1)=some [iv spot]:=by rw[Bf,y1];rfl
 repeat'(first|((with_reducible refine hK _ _ fun e2 Aj=>?_);clear hK K;simp only[It,Ag,Af,and_true,↓pb,An,De,hgo,Sh.1.one,Ab,irN,nrA,nrM,nrE,reduceIte,reduceCtorEq,nrL]at Aj;clear Ab;(try clear eg);have Ab:=Aj;clear Aj;rename Bi=>eg)|((first|((with_reducible first|apply Ac|apply Al|apply Ak);(simp(disch:=try exact dA) only[Bh,De,hgo,Sh.1.one,ry0,ry1,y0,y1,hgo,Py,Ab,irN,nrA,nrM,nrE,reduceIte,reduceCtorEq,nrL];with_reducible exact rfl))|((with_reducible first|apply Ar|apply As|apply Aq);(focus exact Ee))|((with_reducible apply Cp);(simp only[↓pb,An,De,hgo,Sh.1.one,ry0,ry1,y0,y1,hgo,Py,Ab,irN,nrA,nrM,nrE,reduceIte,reduceCtorEq,nrL];(exact A3X _ _ _ _ _ hgo.1 hgo.2.1 hgo.2.2)))|(with_reducible first|refine Ai It fun K hK=>?_|refine Aw It fun K hK=>?_));try simp only[↓pb,↓pd,Bp,De,hgo,Sh.1.one,ry0,ry1,y0,y1,hgo,Py,Ab,irN,nrA,nrM,nrE,reduceIte,reduceCtorEq,nrL])|((first|((with_reducible first|apply Br|apply Bt|apply Cc|apply Cd);exact rfl)|(with_reducible apply Au));(simp only[↓pb,An,De,hgo,Sh.1.one,ry0,ry1,y0,y1,hgo,Py,Ab,irN,nrA,nrM,nrE,reduceIte,reduceCtorEq,nrL];with_reducible exact rfl);all_goals(intro hc;(first|exact C8 hc|try simp only[C0]at hc);try((with_reducible first|apply E3|apply Ge);simp only[↓pb,↓pd,Bp,De,hgo,Sh.1.one,ry0,ry1,y0,y1,hgo,Py,hc,Ab,irN,nrA,nrM,nrE,reduceIte,reduceCtorEq,nrL])))|(with_reducible first|refine Az ?_|refine Ap ?_|refine At ?_|refine Ay ?_|refine Ax ?_|apply Ad)|((with_reducible apply Ae);(focus decide))|fail)
 refine A2U fun LO hLO Qd=>?_
 simp only[↓pb,An,De,hgo,Sh.1.one,Ab,irN,nrA,nrM,nrE,reduceIte,reduceCtorEq,nrL]
 have hrow:X1 H.n g55.n (GO+1) (GO+2) (GO+3) hb.n (hb.n+1) (hb.n+2):=by
  unfold X1
  omega
 let w0:Pm:=⟨spot,now.takes,now.tips,Lg g spot kn⟩
 let J:Dd→Nat→Aa→Prop:=fun LX i h=>∃ (s:Hst) (vo:Value) (vs:List Value) (gg:Option Nat),Ir H h va vb vc vh spot hour p now g55.n (GO+1) (GO+2) (GO+3) hb.n (hb.n+1) (hb.n+2) LX s.out s.before s.tips vo vs gg∧Ot g p.1 spot hour now 0 g.Acts ⟨[[w0]],0,0⟩=Ot g p.1 spot hour now i (g.Acts.drop i) s∧s.before<11∧s.tips<11∧s.out.length≤1+2*i
 have hHr:(Fl g p.1 spot hour)=(Ot g p.1 spot hour now 0 g.Acts ⟨[[w0]],0,0⟩).out:=by
  unfold Fl
  rw[← hnow]
  dsimp only
  rw[hknn,Int.toNat_natCast]
 suffices hsf:∃ v H1,C5 (.fn 110) #[.func (.yield (hb.n+2)) #[] #[],Bc hb.n 0,Bc (hb.n+1) 0] _ v H1∧v=.tuple #[]∧J LO g.Acts.length H1 by
  obtain⟨v,H1,c1,rfl,s,vo,vs,gg,k,e1,e2,e3,e4⟩:=hsf
  refine⟨_,H1,c1,k.lo,fun LX Qs=>?_⟩
  have k2:=k.setL hrow (by have:=Fb.n;omega) Qs
  have ko:=k2.G.one
  have ro:(H1.upd H1.n (hb.n+2) LX).rd (GO+1)=some [vo]:=by rw[Bf,k2.o];rfl
  rw[List.drop_of_length_le (Nat.le_refl _)]at e1
  generalize (H1.upd H1.n (hb.n+2) LX)=h2 at k2 ro ko ⊢
  repeat'(first|((with_reducible refine hK _ _ fun e2 Aj=>?_);clear hK K;simp only[It,Ag,Af,and_true,↓pb,An,De,hgo,Sh.1.one,Ab,irN,nrA,nrM,nrE,reduceIte,reduceCtorEq,nrL]at Aj;clear Ab;(try clear eg);have Ab:=Aj;clear Aj;rename Bi=>eg)|((first|((with_reducible first|apply Ac|apply Al|apply Ak);(simp(disch:=try exact dA) only[Bh,De,hgo,Sh.1.one,ro,k2.o,Ab,irN,nrA,nrM,nrE,reduceIte,reduceCtorEq,nrL];with_reducible exact rfl))|((with_reducible first|apply Ar|apply As|apply Aq);(focus exact Ee))|(with_reducible first|refine Ai It fun K hK=>?_|refine Aw It fun K hK=>?_));try simp only[↓pb,↓pd,Bp,De,hgo,Sh.1.one,ro,k2.o,Ab,irN,nrA,nrM,nrE,reduceIte,reduceCtorEq,nrL])|((first|((with_reducible first|apply Br|apply Bt|apply Cc|apply Cd);exact rfl)|(with_reducible apply Au));(simp only[↓pb,An,De,hgo,Sh.1.one,ro,k2.o,Ab,irN,nrA,nrM,nrE,reduceIte,reduceCtorEq,nrL];with_reducible exact rfl);all_goals(intro hc;(first|exact C8 hc|try simp only[C0]at hc);try((with_reducible first|apply E3|apply Ge);simp only[↓pb,↓pd,Bp,De,hgo,Sh.1.one,ro,k2.o,hc,Ab,irN,nrA,nrM,nrE,reduceIte,reduceCtorEq,nrL])))|(with_reducible first|refine Az ?_|refine Ap ?_|refine At ?_|refine Ay ?_|refine Ax ?_|apply Ad)|((with_reducible apply Ae);(focus decide))|fail)
  refine⟨by first|exact .inl rfl|exact .inr rfl, ?_⟩
  rw[Ec Try.results88]
  simp only[↓pb,An,De,hgo,Sh.1.one,Bo,Bg,Ab,irN,nrA,nrM,nrE,reduceIte,reduceCtorEq,nrL]
  repeat ((with_reducible apply Ac);(simp(disch:=try exact dA) only[Bh,De,hgo,Sh.1.one,Ab,irN,nrA,nrM,nrE,reduceIte,reduceCtorEq,nrL];exact rfl))
  rw[hHr,e1]
  exact⟨⟨vs,gg,k2.G,k2.gr,k2.vb.2,k2.R.ex (by simp)⟩,k2.F⟩
 refine B6l (hb.n+2) hb.n (hb.n+1) va vb vc g.Acts spot _ (J LO) (by omega) ?_ ?_ ?_ ?_ ?_
 ·have hn:=Fb.n
  have F2:Fr hb.n [] hb ((hb.upd (hb.n+1) hb.n (Dd.cells [va,vb,vc] 26 Kd.ex)).upd (hb.n+2) (hb.n+1) (Dd.cells [iv ↑spot] 3 Kd.ex)):=by exact Bm
  have F3:Fr hb.n [] hb (((hb.upd (hb.n+1) hb.n (Dd.cells [va,vb,vc] 26 Kd.ex)).upd (hb.n+2) (hb.n+1) (Dd.cells [iv ↑spot] 3 Kd.ex)).upd (hb.n+3) (hb.n+2) LO):=F2.upd (Nat.le_succ _) (Nat.lt_succ_self _) (.inl (Nat.le_add_right _ _)) (Qd _ _)
  refine⟨⟨[[w0]],0,0⟩,.slice (some ⟨GO,0,none⟩) 1 1,[vq],none,⟨?_, ?_, ?_, ?_, ?_, ?_, ?_, ?_, ?_, ?_, ?_, ?_, ?_, ?_, ?_, ?_, ?_, ?_⟩,by rw[List.drop_zero],by show 0<11;omega,by show 0<11;omega,by simp⟩
  all_goals first|(simp(disch:=try exact dA) only[Bh,De,hgo,Sh.1.one,Ab,irN,nrA,nrM,nrE,reduceIte,reduceCtorEq,nrL];done)|(simp(disch:=try exact dA) only[Bh,De,hgo,Sh.1.one,Ab,irN,nrA,nrM,nrE,reduceIte,reduceCtorEq,nrL];first|assumption|rfl)|skip
  ·exact Gb.fr F3 (by simp) (by simp)
  ·simp
  ·exact⟨by show GO∉_;simp only[List.mem_cons,List.not_mem_nil,or_false,not_or];omega,by show H.n≤GO;omega⟩
  ·exact⟨(Rb _ (by omega)).fr F3 (by simp),trivial⟩
  ·exact Fb.call F3 hn
  ·exact F3.top Tb
  ·simp only[Ao]
   omega
 ·rintro i h ⟨s,vo,vs,gg,k,e1,e2,e3,e4⟩
  exact⟨by rw[Bf,k.g];rfl,by rw[Bf,k.sb];rfl,by have:=k.lt;omega,by have:=k.lt;omega,(hG.fr k.F).r⟩
 ·rintro i h c ⟨s,vo,vs,gg,k,e1,e2⟩
  exact⟨s,vo,vs,gg,k.mono hrow Fr.ex k.F.n,e1,e2⟩
 ·rintro i h hi hsp ⟨s,vo,vs,gg,k,e1,e2,e3,e4⟩
  rw[Ha hi,Ot,if_neg hsp]at e1
  exact⟨s,vo,vs,gg,k,e1,e2,e3,by omega⟩
 ·rintro i h hi hsp ⟨s,vo,vs,gg,k,e1,e2,e3,e4⟩
  rw[Ha hi,Ot,if_pos hsp]at e1
  obtain⟨last,hA⟩:=ok.at hi
  generalize ha:g.Acts.getD i default=a at hsp e1 hA ⊢
  have hn0:=k.F.n
  have hnb:=Fb.n
  have l2:=k.lt
  refine A2V hLO k.lo rfl (by kernel_rfl) (by kernel_rfl) (by kernel_rfl) (by kernel_rfl) (by kernel_rfl) ?_
  rw[Zw]
  repeat'(first|((with_reducible refine hK _ _ fun e2 Aj=>?_);clear hK K;simp only[It,Ag,Af,and_true,↓pb,An,De,hgo,Sh.1.one,Ab,irN,nrA,nrM,nrE,reduceIte,reduceCtorEq,nrL]at Aj;clear Ab;(try clear eg);have Ab:=Aj;clear Aj;rename Bi=>eg)|((first|((with_reducible first|apply Ac|apply Al|apply Ak);(simp(disch:=try exact dA) only[Bh,De,hgo,Sh.1.one,Bn,Ab,irN,nrA,nrM,nrE,reduceIte,reduceCtorEq,nrL];with_reducible exact rfl))|((with_reducible first|apply Ar|apply As|apply Aq);(focus exact Ee))|(with_reducible first|refine Ai It fun K hK=>?_|refine Aw It fun K hK=>?_));try simp only[↓pb,↓pd,Bp,De,hgo,Sh.1.one,Bn,Ab,irN,nrA,nrM,nrE,reduceIte,reduceCtorEq,nrL])|((first|((with_reducible first|apply Br|apply Bt|apply Cc|apply Cd);exact rfl)|(with_reducible apply Au));(simp only[↓pb,An,De,hgo,Sh.1.one,Bn,Ab,irN,nrA,nrM,nrE,reduceIte,reduceCtorEq,nrL];with_reducible exact rfl);all_goals(intro hc;(first|exact C8 hc|try simp only[C0]at hc);try((with_reducible first|apply E3|apply Ge);simp only[↓pb,↓pd,Bp,De,hgo,Sh.1.one,Bn,hc,Ab,irN,nrA,nrM,nrE,reduceIte,reduceCtorEq,nrL])))|(with_reducible first|refine Az ?_|refine Ap ?_|refine At ?_|refine Ay ?_|refine Ax ?_|apply Ad)|((with_reducible apply Ae);(focus decide))|fail)
  refine⟨rfl,by simp(disch:=try exact dA) only[Bh,De,hgo,Sh.1.one,Ab,irN,nrA,nrM,nrE,reduceIte,reduceCtorEq,nrL];exact k.lo,fun LB Qi=>?_⟩
  refine Ga (N:=H.n) (X:=[]) (h0:=H) (fun h'=>Ir H h' va vb vc vh spot hour p now g55.n (GO+1) (GO+2) (GO+3) hb.n (hb.n+1) (hb.n+2) LB s.out s.before s.tips vo vs gg∧h'.get h.n=.cells (Bn a) 30 .ex∧h.n<h'.n) ?_ ⟨Ir.setL (k.mono hrow Fr.ex k.F.n) hrow (by omega) Qi,by simp(disch:=try exact dA) only[Bh,De,hgo,Sh.1.one,Ab,irN,nrA,nrM,nrE,reduceIte,reduceCtorEq,nrL];rfl,by simp only[Ao];omega⟩ ?_
  ·exact(Ir.setL (k.mono hrow Fr.ex k.F.n) hrow (by omega) Qi).F
  rintro h2 F2 ⟨k2,a2,n2⟩
  have hra:h2.rd h.n=some (Bn a):=by rw[Bf,a2];rfl
  have hr5:h2.rd (H.n+2)=some [iv hour]:=by rw[Bf,k2.t];rfl
  have hr7:h2.rd (H.n+3)=some (Mq p):=by rw[Bf,k2.hp];rfl
  by_cases hsk:a.Take=true∨hour<a.Hour
  ·have hst:Oh g p.1 spot hour now s i a=s:=by unfold Oh;rw[if_pos hsk]
   rw[hst]at e1
   rcases hsk with hsk|hsk
   all_goals(
    repeat'(first|((with_reducible refine hK _ _ fun e2 Aj=>?_);clear hK K;simp only[It,Ag,Af,and_true,↓pb,An,De,hgo,Sh.1.one,Ab,irN,nrA,nrM,nrE,reduceIte,reduceCtorEq,nrL]at Aj;clear Ab;(try clear eg);have Ab:=Aj;clear Aj;rename Bi=>eg)|((first|((with_reducible first|apply Ac|apply Al|apply Ak);(simp(disch:=try exact dA) only[Bh,De,hgo,Sh.1.one,hra,hr5,Bn,hsk,Ab,irN,nrA,nrM,nrE,reduceIte,reduceCtorEq,nrL];with_reducible exact rfl))|((with_reducible first|apply Ar|apply As|apply Aq);(focus exact Ee))|(with_reducible first|refine Ai It fun K hK=>?_|refine Aw It fun K hK=>?_));try simp only[↓pb,↓pd,Bp,De,hgo,Sh.1.one,hra,hr5,Bn,hsk,Ab,irN,nrA,nrM,nrE,reduceIte,reduceCtorEq,nrL])|((first|((with_reducible first|apply Br|apply Bt|apply Cc|apply Cd);exact rfl)|(with_reducible apply Au));(simp only[↓pb,An,De,hgo,Sh.1.one,hra,hr5,Bn,hsk,Ab,irN,nrA,nrM,nrE,reduceIte,reduceCtorEq,nrL];with_reducible exact rfl);all_goals(intro hc;(first|exact C8 hc|try simp only[C0]at hc);try((with_reducible first|apply E3|apply Ge);simp only[↓pb,↓pd,Bp,De,hgo,Sh.1.one,hra,hr5,Bn,hsk,hc,Ab,irN,nrA,nrM,nrE,reduceIte,reduceCtorEq,nrL])))|(with_reducible first|refine Az ?_|refine Ap ?_|refine At ?_|refine Ay ?_|refine Ax ?_|apply Ad)|((with_reducible apply Ae);(focus decide))|fail))
   all_goals exact⟨rfl,k2.lo,s,vo,vs,gg,k2.setL hrow (by omega) Qd,e1,e2,e3,by omega⟩
  ·have hta:a.Take=false:=by
    cases hq:a.Take with
    | false=>rfl
    | true=>exact absurd (.inl hq) hsk
   have hah:¬ hour<a.Hour:=fun q=>hsk (.inr q)
   obtain⟨m,hm⟩:∃ m,m=p.1.before (i:Nat):=⟨_,rfl⟩
   obtain⟨m',hm'⟩:∃ m',m'=p.1.before (i+1:Nat):=⟨_,rfl⟩
   have hm2:Ft (↑i) (p.1.m.getD 0 default) p.1.m=m:=hm.symm
   have hm3:Ft (↑(i+1:Nat)) (p.1.m.getD 0 default) p.1.m=m':=hm'.symm
   have hbm:m'.tips<11∧m'.takes<11:=by rw[hm'];exact hf.before _
   have hw1:IntKind.i64.wrap ((i:Int)+1)=((i+1:Nat):Int):=Di (by omega)
   have S3:=S2.fr0 k2.F
   have l3:=k2.lt
   have T2:=k2.T
   repeat'(first|((with_reducible refine hK _ _ fun e2 Aj=>?_);clear hK K;simp only[It,Ag,Af,and_true,↓pb,An,De,hgo,Sh.1.one,Ab,irN,nrA,nrM,nrE,reduceIte,reduceCtorEq,nrL]at Aj;clear Ab;(try clear eg);have Ab:=Aj;clear Aj;rename Bi=>eg)|((first|((with_reducible first|apply Ac|apply Al|apply Ak);(simp(disch:=try exact dA) only[Bh,De,hgo,Sh.1.one,k2.tp,hra,hr5,hr7,hta,hah,Bn,S2.one,Mq,hm2,hm3,hw1,Cq,Ab,irN,nrA,nrM,nrE,reduceIte,reduceCtorEq,nrL];with_reducible exact rfl))|((with_reducible first|apply Ar|apply As|apply Aq);(focus exact Ee))|((with_reducible apply Bz);(focus exact Bb);(simp only[↓pb,An,De,hgo,Sh.1.one,k2.tp,hra,hr5,hr7,hta,hah,Bn,S2.one,Mq,hm2,hm3,hw1,Cq,Ab,irN,nrA,nrM,nrE,reduceIte,reduceCtorEq,nrL];(exact f55 _ _ _ _ _ (by exact Bb) (S3.fr0 (N:=0) (by exact Bm)) hfp (by omega)));(intro Gq hq Fy;try simp only[Ao,A3]at hq))|(with_reducible first|refine Eu It [11] fun K hK=>?_|refine Fx It [11] fun K hK=>?_));try simp only[↓pb,↓pd,Bp,De,hgo,Sh.1.one,k2.tp,hra,hr5,hr7,hta,hah,Bn,S2.one,Mq,hm2,hm3,hw1,Cq,Ab,irN,nrA,nrM,nrE,reduceIte,reduceCtorEq,nrL])|((first|((with_reducible first|apply Br|apply Bt|apply Cc|apply Cd);exact rfl)|(with_reducible apply Au));(simp only[↓pb,An,De,hgo,Sh.1.one,k2.tp,hra,hr5,hr7,hta,hah,Bn,S2.one,Mq,hm2,hm3,hw1,Cq,Ab,irN,nrA,nrM,nrE,reduceIte,reduceCtorEq,nrL];with_reducible exact rfl);all_goals(intro hc;(first|exact C8 hc|try simp only[C0]at hc);try((with_reducible first|apply E3|apply Ge);simp only[↓pb,↓pd,Bp,De,hgo,Sh.1.one,k2.tp,hra,hr5,hr7,hta,hah,Bn,S2.one,Mq,hm2,hm3,hw1,Cq,hc,Ab,irN,nrA,nrM,nrE,reduceIte,reduceCtorEq,nrL])))|(with_reducible first|refine Az ?_|refine Ap ?_|refine At ?_|refine Ay ?_|refine Ax ?_|apply Ad)|((with_reducible apply Ae);(focus decide))|fail)
   rename_i gm qm jm
   refine Ga (N:=H.n) (X:=[]) (h0:=H) (fun h'=>Ir H h' va vb vc vh spot hour p now g55.n (GO+1) (GO+2) (GO+3) hb.n (hb.n+1) (hb.n+2) LB s.out s.before m'.tips vo vs gg∧h'.get h.n=.cells (Bn a) 30 .ex∧h'.get gm.n=.cells (Cq m) 101 .ex∧h.n<h'.n∧gm.n<h'.n) ?_ ⟨Ir.setT (k2.mono hrow (by exact Bm) k2.F.n) hrow (by omega) _,by simp(disch:=try exact dA) only[Bh,De,hgo,Sh.1.one,Ab,irN,nrA,nrM,nrE,reduceIte,reduceCtorEq,nrL];exact a2,by simp(disch:=try exact dA) only[Bh,De,hgo,Sh.1.one,Ab,irN,nrA,nrM,nrE,reduceIte,reduceCtorEq,nrL];rfl,by simp only[Ao,A3];omega,by simp only[Ao,A3];omega⟩ ?_
   ·exact(Ir.setT (k2.mono hrow (by exact Bm) k2.F.n) hrow (by omega) _).F
   rintro h3 F3 ⟨k3,a3,b3,n3,n4⟩
   clear Fy jm
   have hgm:hb.n+2<gm.n:=by omega
   have hgh:hb.n+2<h.n:=l2
   have hr3:h3.rd H.n=some [va,vb,vc,vh]:=by rw[Bf,k3.y];rfl
   have hr4:h3.rd (H.n+1)=some [iv spot]:=by rw[Bf,k3.s];rfl
   have hr5:h3.rd (H.n+2)=some [iv hour]:=by rw[Bf,k3.t];rfl
   have hr8:h3.rd g55.n=some (Cq now):=by rw[Bf,k3.now];rfl
   have hr9:h3.rd (GO+1)=some [vo]:=by rw[Bf,k3.o];rfl
   have hr11:h3.rd (GO+3)=some [iv m'.tips]:=by rw[Bf,k3.tp];rfl
   have hra:h3.rd h.n=some (Bn a):=by rw[Bf,a3];rfl
   have hq3:=(hG.fr k3.F).q
   obtain⟨ak,hak⟩:∃ ak:Nat,a.Kind=ak:=⟨a.Kind.toNat,by have:=hA.k;omega⟩
   have hakl:ak<g.Sorts.length:=by have:=hA.k;omega
   obtain⟨W,hW⟩:∃ W,W=Dz (a.Hour+(g.Sorts.getD ak default).Age):=⟨_,rfl⟩
   have hW2:IntKind.i64.wrap (a.Hour+(g.Sorts.getD ak default).Age)=W:=hW.symm
   have T3:=k3.T
   have l4:=k3.lt
   have lq3:=hq3.lt
   have G3:=k3.G
   have og3:=G3.one
   refine A1W (fun e h'=>(e 4=Bc (H.n+1) 0∧e 5=Bc (H.n+2) 0∧e 9=Bc (GO+1) 0∧e 10=Bc (GO+2) 0∧e 11=Bc (GO+3) 0∧e 13=Bc h.n 0∧e 14=Bc gm.n 0)∧(∃ vo vs gg,Ir H h' va vb vc vh spot hour p now g55.n (GO+1) (GO+2) (GO+3) hb.n (hb.n+1) (hb.n+2) LB (if W<hour then s.out ++ [[⟨spot,now.takes,m'.tips,0⟩]] else s.out) s.before m'.tips vo vs gg)∧h'.get h.n=.cells (Bn a) 30 .ex∧h'.get gm.n=.cells (Cq m) 101 .ex∧h.n<h'.n∧gm.n<h'.n) ?_ ?_
   ·repeat'(first|((with_reducible refine hK _ _ fun e2 Aj=>?_);clear hK K;simp only[It,Ag,Af,and_true,↓pb,An,De,hgo,Sh.1.one,Ab,irN,nrA,nrM,nrE,reduceIte,reduceCtorEq,nrL]at Aj;clear Ab;(try clear eg);have Ab:=Aj;clear Aj;rename Bi=>eg)|((first|((with_reducible first|apply Ac|apply Al|apply Ak);(simp(disch:=try exact dA) only[Bh,De,hgo,Sh.1.one,hr3,hr4,hr5,hr8,hr9,hr11,hra,Bn,hak,Fo hq3,hq3.rd,(hq3.el Cz rfl),Fs,hW2,Cq,og3,Ab,irN,nrA,nrM,nrE,reduceIte,reduceCtorEq,nrL];with_reducible exact rfl))|((with_reducible first|apply Ar|apply As|apply Aq);(focus exact Ee))|((with_reducible apply Cy);(focus exact Bb);(simp only[↓pb,An,De,hgo,Sh.1.one,hr3,hr4,hr5,hr8,hr9,hr11,hra,Bn,hak,Fo hq3,hq3.rd,(hq3.el Cz rfl),Fs,hW2,Cq,og3,Ab,irN,nrA,nrM,nrE,reduceIte,reduceCtorEq,nrL];exact B4E ⟨spot,now.takes,m'.tips,0⟩ _ (by exact Bb));(rintro vq Gq hq Fy ⟨or2,hor2⟩;try simp only[Ao,A3]at hq))|(with_reducible first|refine Ai It fun K hK=>?_|refine Aw It fun K hK=>?_));try simp only[↓pb,↓pd,Bp,De,hgo,Sh.1.one,hr3,hr4,hr5,hr8,hr9,hr11,hra,Bn,hak,Fo hq3,hq3.rd,(hq3.el Cz rfl),Fs,hW2,Cq,og3,Ab,irN,nrA,nrM,nrE,reduceIte,reduceCtorEq,nrL])|((first|((with_reducible first|apply Br|apply Bt|apply Cc|apply Cd);exact rfl)|(with_reducible apply Au));(simp only[↓pb,An,De,hgo,Sh.1.one,hr3,hr4,hr5,hr8,hr9,hr11,hra,Bn,hak,Fo hq3,hq3.rd,(hq3.el Cz rfl),Fs,hW2,Cq,og3,Ab,irN,nrA,nrM,nrE,reduceIte,reduceCtorEq,nrL];with_reducible exact rfl);all_goals(intro hc;(first|exact C8 hc|try simp only[C0]at hc);try((with_reducible first|apply E3|apply Ge);simp only[↓pb,↓pd,Bp,De,hgo,Sh.1.one,hr3,hr4,hr5,hr8,hr9,hr11,hra,Bn,hak,Fo hq3,hq3.rd,(hq3.el Cz rfl),Fs,hW2,Cq,og3,hc,Ab,irN,nrA,nrM,nrE,reduceIte,reduceCtorEq,nrL])))|(with_reducible first|refine Az ?_|refine Ap ?_|refine At ?_|refine Ay ?_|refine Ax ?_|apply Ad)|((with_reducible apply Ae);(focus decide))|fail)
    ·rename_i hc
     refine B0A (n:=s.out.length) (m:=1) (c:=vs) (g:=gg) (GS.ex (G3.fr (N:=h3.n) (X:=[]) (by exact Bm) (fun x hx=>by subst hx;exact G3.grp_lt) (by simp))) (SR.new rfl) (by omega) (by omega) (by omega) (by exact Bb) fun GG=>?_
     simp only[↓pb,↓pd,Bp,De,hgo,Sh.1.one,k3.o,Ab,irN,nrA,nrM,nrE,reduceIte,reduceCtorEq,nrL]
     repeat'(first|((with_reducible refine hK _ _ fun e2 Aj=>?_);clear hK K;simp only[It,Ag,Af,and_true,↓pb,An,De,hgo,Sh.1.one,Ab,irN,nrA,nrM,nrE,reduceIte,reduceCtorEq,nrL]at Aj;clear Ab;(try clear eg);have Ab:=Aj;clear Aj;rename Bi=>eg)|((first|((with_reducible first|apply Ac|apply Al|apply Ak);(simp(disch:=try exact dA) only[Bh,De,hgo,Sh.1.one,k3.o,Ab,irN,nrA,nrM,nrE,reduceIte,reduceCtorEq,nrL];with_reducible exact rfl))|((with_reducible first|apply Ar|apply As|apply Aq);(focus exact Ee))|(with_reducible first|refine Ai It fun K hK=>?_|refine Aw It fun K hK=>?_));try simp only[↓pb,↓pd,Bp,De,hgo,Sh.1.one,k3.o,Ab,irN,nrA,nrM,nrE,reduceIte,reduceCtorEq,nrL])|((first|((with_reducible first|apply Br|apply Bt|apply Cc|apply Cd);exact rfl)|(with_reducible apply Au));(simp only[↓pb,An,De,hgo,Sh.1.one,k3.o,Ab,irN,nrA,nrM,nrE,reduceIte,reduceCtorEq,nrL];with_reducible exact rfl);all_goals(intro hc;(first|exact C8 hc|try simp only[C0]at hc);try((with_reducible first|apply E3|apply Ge);simp only[↓pb,↓pd,Bp,De,hgo,Sh.1.one,k3.o,hc,Ab,irN,nrA,nrM,nrE,reduceIte,reduceCtorEq,nrL])))|(with_reducible first|refine Az ?_|refine Ap ?_|refine At ?_|refine Ay ?_|refine Ax ?_|apply Ad)|((with_reducible apply Ae);(focus decide))|fail)
     refine⟨rfl,by simp only[Ab,and_self], ?_, ?_, ?_, ?_, ?_⟩
     ·rw[if_pos hc]
      exact⟨_,_,_,k3.add hrow (by omega) (hA:=(h3.jn Gq).upd (Gq.n+1) Gq.n (.cells [vq] 119 .ex)) (by exact Bm) (by exact Bb) ((hor2 [GO+1,GO+2,GO+3,hb.n+2] (by intro x hx;simp only[List.mem_cons,List.not_mem_nil,or_false]at hx;omega)).fr (N:=Gq.n) (X:=[]) (by exact Bm) (by simp)) rfl GG⟩
     ·simp(disch:=try exact dA) only[Bh,De,hgo,Sh.1.one,Ab,irN,nrA,nrM,nrE,reduceIte,reduceCtorEq,nrL]
      exact a3
     ·simp(disch:=try exact dA) only[Bh,De,hgo,Sh.1.one,Ab,irN,nrA,nrM,nrE,reduceIte,reduceCtorEq,nrL]
      exact b3
     ·simp only[Ao,A3]
      omega
     ·simp only[Ao,A3]
      omega
    ·rename_i hc
     exact⟨rfl,by simp only[Ab,and_self],⟨vo,vs,gg,by rw[if_neg hc];exact k3⟩,a3,b3,n3,n4⟩
   ·rintro e4 h4 ⟨⟨j4,j5,j9,j10,j11,j13,j14⟩,⟨vo4,vs4,gg4,k4⟩,a4,b4,n5,n6⟩
    obtain⟨o1,ho1⟩:∃ o1,o1=if W<hour then s.out ++ [[⟨spot,now.takes,m'.tips,0⟩]] else s.out:=⟨_,rfl⟩
    rw[← ho1]at k4
    have hol:o1.length≤2+2*i:=by
     rw[ho1]
     split
     ·rw[List.length_append,List.length_singleton]
      omega
     ·omega
    clear hr3 hr4 hr5 hr8 hr9 hr11 hra hq3 T3 l4 lq3 G3 og3 a3 b3 n3 n4 F3
    clear k3 Ab
    have Ab:=B9p j4 (B9p j5 (B9p j9 (B9p j10 (B9p j11 (B9p j13 j14)))))
    clear j4 j5 j9 j10 j11 j13 j14
    have hr4:h4.rd (H.n+1)=some [iv spot]:=by rw[Bf,k4.s];rfl
    have hr5:h4.rd (H.n+2)=some [iv hour]:=by rw[Bf,k4.t];rfl
    have hr9:h4.rd (GO+1)=some [vo4]:=by rw[Bf,k4.o];rfl
    have hr10:h4.rd (GO+2)=some [iv s.before]:=by rw[Bf,k4.b];rfl
    have hra:h4.rd h.n=some (Bn a):=by rw[Bf,a4];rfl
    have hrm:h4.rd gm.n=some (Cq m):=by rw[Bf,b4];rfl
    have T4:=k4.T
    have l4:=k4.lt
    have G4:=k4.G
    have og4:=G4.one
    repeat'(first|((with_reducible refine hK _ _ fun e2 Aj=>?_);clear hK K;simp only[It,Ag,Af,and_true,↓pb,An,De,hgo,Sh.1.one,Ab,irN,nrA,nrM,nrE,reduceIte,reduceCtorEq,nrL]at Aj;clear Ab;(try clear eg);have Ab:=Aj;clear Aj;rename Bi=>eg)|((first|((with_reducible first|apply Ac|apply Al|apply Ak);(simp(disch:=try exact dA) only[Bh,De,hgo,Sh.1.one,Ab,irN,nrA,nrM,nrE,reduceIte,reduceCtorEq,nrL];with_reducible exact rfl))|((with_reducible first|apply Ar|apply As|apply Aq);(focus exact Ee))|(with_reducible first|refine Eu It [13] fun K hK=>?_|refine Fx It [13] fun K hK=>?_));try simp only[↓pb,↓pd,Bp,De,hgo,Sh.1.one,Ab,irN,nrA,nrM,nrE,reduceIte,reduceCtorEq,nrL])|((first|((with_reducible first|apply Br|apply Bt|apply Cc|apply Cd);exact rfl)|(with_reducible apply Au));(simp only[↓pb,An,De,hgo,Sh.1.one,Ab,irN,nrA,nrM,nrE,reduceIte,reduceCtorEq,nrL];with_reducible exact rfl);all_goals(intro hc;(first|exact C8 hc|try simp only[C0]at hc);try((with_reducible first|apply E3|apply Ge);simp only[↓pb,↓pd,Bp,De,hgo,Sh.1.one,hc,Ab,irN,nrA,nrM,nrE,reduceIte,reduceCtorEq,nrL])))|(with_reducible first|refine Az ?_|refine Ap ?_|refine At ?_|refine Ay ?_|refine Ax ?_|apply Ad)|((with_reducible apply Ae);(focus decide))|fail)
    refine A1W (fun e h'=>(e 10=Bc (GO+2) 0∧e 11=Bc (GO+3) 0)∧(∃ vo vs gg,Ir H h' va vb vc vh spot hour p now g55.n (GO+1) (GO+2) (GO+3) hb.n (hb.n+1) (hb.n+2) LB (if a.Hour=hour∧0<s.before∧m.kind≠a.Kind then o1 ++ [[Eg spot m]] else o1) s.before m'.tips vo vs gg)) ?_ ?_
    ·repeat'(first|((with_reducible refine hK _ _ fun e2 Aj=>?_);clear hK K;simp only[It,Ag,Af,and_true,↓pb,An,De,hgo,Sh.1.one,Ab,irN,nrA,nrM,nrE,reduceIte,reduceCtorEq,nrL]at Aj;clear Ab;(try clear eg);have Ab:=Aj;clear Aj;rename Bi=>eg)|((first|((with_reducible first|apply Ac|apply Al|apply Ak);(simp(disch:=try exact dA) only[Bh,De,hgo,Sh.1.one,hr4,hr5,hr9,hr10,hra,hrm,Bn,Cq,og4,Ab,irN,nrA,nrM,nrE,reduceIte,reduceCtorEq,nrL];with_reducible exact rfl))|((with_reducible first|apply Ar|apply As|apply Aq);(focus exact Ee))|((with_reducible apply Cy);(focus exact Bb);(simp only[↓pb,An,De,hgo,Sh.1.one,hr4,hr5,hr9,hr10,hra,hrm,Bn,Cq,og4,Ab,irN,nrA,nrM,nrE,reduceIte,reduceCtorEq,nrL];exact B4E (Eg spot m) _ (by exact Bb));(rintro vq Gq hq Fy ⟨or2,hor2⟩;try simp only[Ao,A3]at hq))|((with_reducible apply Bz);(focus exact Bb);(simp only[↓pb,An,De,hgo,Sh.1.one,hr4,hr5,hr9,hr10,hra,hrm,Bn,Cq,og4,Ab,irN,nrA,nrM,nrE,reduceIte,reduceCtorEq,nrL];(exact B6p _ _ _ (by exact Bb)));(intro Gq hq Fy;try simp only[Ao,A3]at hq))|(with_reducible first|refine Ai It fun K hK=>?_|refine Aw It fun K hK=>?_));try simp only[↓pb,↓pd,Bp,De,hgo,Sh.1.one,hr4,hr5,hr9,hr10,hra,hrm,Bn,Cq,og4,Ab,irN,nrA,nrM,nrE,reduceIte,reduceCtorEq,nrL])|((first|((with_reducible first|apply Br|apply Bt|apply Cc|apply Cd);exact rfl)|(with_reducible apply Au));(simp only[↓pb,An,De,hgo,Sh.1.one,hr4,hr5,hr9,hr10,hra,hrm,Bn,Cq,og4,Ab,irN,nrA,nrM,nrE,reduceIte,reduceCtorEq,nrL];with_reducible exact rfl);all_goals(intro hc;(first|exact C8 hc|try simp only[C0]at hc);try((with_reducible first|apply E3|apply Ge);simp only[↓pb,↓pd,Bp,De,hgo,Sh.1.one,hr4,hr5,hr9,hr10,hra,hrm,Bn,Cq,og4,hc,Ab,irN,nrA,nrM,nrE,reduceIte,reduceCtorEq,nrL])))|(with_reducible first|refine Az ?_|refine Ap ?_|refine At ?_|refine Ay ?_|refine Ax ?_|apply Ad)|((with_reducible apply Ae);(focus decide))|fail)
     ·rename_i gq5 qq5 jq5
      have hcond:a.Hour=hour∧0<s.before∧m.kind≠a.Kind:=⟨by assumption,by omega,hc⟩
      refine B0A (n:=o1.length) (m:=1) (c:=vs4) (g:=gg4) (GS.ex (G4.fr (N:=h4.n) (X:=[]) (by exact Bm) (fun x hx=>by subst hx;exact G4.grp_lt) (by simp))) (SR.new rfl) (by omega) (by omega) (by omega) (by exact Bb) fun GG=>?_
      simp only[↓pb,↓pd,Bp,De,hgo,Sh.1.one,k4.o,Ab,irN,nrA,nrM,nrE,reduceIte,reduceCtorEq,nrL]
      repeat'(first|((with_reducible refine hK _ _ fun e2 Aj=>?_);clear hK K;simp only[It,Ag,Af,and_true,↓pb,An,De,hgo,Sh.1.one,Ab,irN,nrA,nrM,nrE,reduceIte,reduceCtorEq,nrL]at Aj;clear Ab;(try clear eg);have Ab:=Aj;clear Aj;rename Bi=>eg)|((first|((with_reducible first|apply Ac|apply Al|apply Ak);(simp(disch:=try exact dA) only[Bh,De,hgo,Sh.1.one,k4.o,Ab,irN,nrA,nrM,nrE,reduceIte,reduceCtorEq,nrL];with_reducible exact rfl))|((with_reducible first|apply Ar|apply As|apply Aq);(focus exact Ee))|(with_reducible first|refine Ai It fun K hK=>?_|refine Aw It fun K hK=>?_));try simp only[↓pb,↓pd,Bp,De,hgo,Sh.1.one,k4.o,Ab,irN,nrA,nrM,nrE,reduceIte,reduceCtorEq,nrL])|((first|((with_reducible first|apply Br|apply Bt|apply Cc|apply Cd);exact rfl)|(with_reducible apply Au));(simp only[↓pb,An,De,hgo,Sh.1.one,k4.o,Ab,irN,nrA,nrM,nrE,reduceIte,reduceCtorEq,nrL];with_reducible exact rfl);all_goals(intro hc;(first|exact C8 hc|try simp only[C0]at hc);try((with_reducible first|apply E3|apply Ge);simp only[↓pb,↓pd,Bp,De,hgo,Sh.1.one,k4.o,hc,Ab,irN,nrA,nrM,nrE,reduceIte,reduceCtorEq,nrL])))|(with_reducible first|refine Az ?_|refine Ap ?_|refine At ?_|refine Ay ?_|refine Ax ?_|apply Ad)|((with_reducible apply Ae);(focus decide))|fail)
      refine⟨rfl,by simp only[Ab,and_self], ?_⟩
      rw[if_pos hcond]
      exact⟨_,_,_,k4.add hrow (by omega) (hA:=((h4.jn gq5).jn Gq).upd (Gq.n+1) Gq.n (.cells [vq] 119 .ex)) (by exact Bm) (by exact Bb) ((hor2 [GO+1,GO+2,GO+3,hb.n+2] (by intro x hx;simp only[List.mem_cons,List.not_mem_nil,or_false]at hx;show x<gq5.n;omega)).fr (N:=Gq.n) (X:=[]) (by exact Bm) (by simp)) rfl GG⟩
     all_goals
      have hcn:¬(a.Hour=hour∧0<s.before∧m.kind≠a.Kind):=by
       rintro⟨q1,q2,q3⟩
       first|contradiction|omega|exact hc q3
      exact⟨rfl,by simp only[Ab,and_self],vo4,vs4,gg4,by rw[if_neg hcn];exact k4⟩
    ·rintro e5 h5 ⟨⟨j10,j11⟩,vo5,vs5,gg5,k5⟩
     clear hr4 hr5 hr9 hr10 hra hrm T4 l4 G4 og4 Ab
     have Ab:=B9p j10 j11
     have hst:Oh g p.1 spot hour now s i a=⟨if a.Hour=hour∧0<s.before∧m.kind≠a.Kind then o1 ++ [[Eg spot m]] else o1,m'.tips,m'.tips⟩:=by
      unfold Oh
      rw[if_neg hsk]
      simp only[hak,Int.toNat_natCast,← hm,← hm',← hW,← ho1]
     rw[hst]at e1
     have hr11:h5.rd (GO+3)=some [iv m'.tips]:=by rw[Bf,k5.tp];rfl
     have l5:=k5.lt
     repeat'(first|((with_reducible refine hK _ _ fun e2 Aj=>?_);clear hK K;simp only[It,Ag,Af,and_true,↓pb,An,De,hgo,Sh.1.one,Ab,irN,nrA,nrM,nrE,reduceIte,reduceCtorEq,nrL]at Aj;clear Ab;(try clear eg);have Ab:=Aj;clear Aj;rename Bi=>eg)|((first|((with_reducible first|apply Ac|apply Al|apply Ak);(simp(disch:=try exact dA) only[Bh,De,hgo,Sh.1.one,hr11,k5.b,Ab,irN,nrA,nrM,nrE,reduceIte,reduceCtorEq,nrL];with_reducible exact rfl))|((with_reducible first|apply Ar|apply As|apply Aq);(focus exact Ee))|(with_reducible first|refine Ai It fun K hK=>?_|refine Aw It fun K hK=>?_));try simp only[↓pb,↓pd,Bp,De,hgo,Sh.1.one,hr11,k5.b,Ab,irN,nrA,nrM,nrE,reduceIte,reduceCtorEq,nrL])|((first|((with_reducible first|apply Br|apply Bt|apply Cc|apply Cd);exact rfl)|(with_reducible apply Au));(simp only[↓pb,An,De,hgo,Sh.1.one,hr11,k5.b,Ab,irN,nrA,nrM,nrE,reduceIte,reduceCtorEq,nrL];with_reducible exact rfl);all_goals(intro hc;(first|exact C8 hc|try simp only[C0]at hc);try((with_reducible first|apply E3|apply Ge);simp only[↓pb,↓pd,Bp,De,hgo,Sh.1.one,hr11,k5.b,hc,Ab,irN,nrA,nrM,nrE,reduceIte,reduceCtorEq,nrL])))|(with_reducible first|refine Az ?_|refine Ap ?_|refine At ?_|refine Ay ?_|refine Ax ?_|apply Ad)|((with_reducible apply Ae);(focus decide))|fail)
     have k6:=k5.setB hrow (by omega) m'.tips
     refine⟨rfl,k6.lo,_,vo5,vs5,gg5,k6.setL hrow (by omega) Qd,e1,hbm.1,hbm.1, ?_⟩
     show (if a.Hour=hour∧0<s.before∧m.kind≠a.Kind then o1 ++ [[Eg spot m]] else o1).length≤1+2*(i+1)
     split
     ·rw[List.length_append,List.length_singleton]
      omega
     ·omega
set_option maxHeartbeats 4000000 in
theorem f89 (va vb vc vh:Value)(g:Cv)(l:List (Hp×Value))(hour:Int)(H:Aa)(hT:C1 H)(hG:RG H va vb vc g)(hsk:g.Spots.length=0∨SK H 3 va)(Sh:RHs H vh l)(ok:Ok g)(el:l.map (·.1)=(known g).1)(hll:l.length=g.Spots.length)(hho:0≤hour∧hour≤72) :
  ∃ v H',C5 (.fn 89) #[.agg ⟨[va,vb,vc,vh]⟩,iv hour] H v H'∧(∃ vs gg,GS H' 1 (Ci g (known g).1 hour g.Spots.length).length v vs gg∧(∀ x,gg=some x→H.n≤x)∧(v=.slice none 0 0∨H.n≤C4 v)∧D8 H' [] vs (Ci g (known g).1 hour g.Spots.length))∧Fr H.n [] H H':=by
 have hgo:=hG.one
 have hsp:=ok.spots
 have hul:=E4 hour g.Acts
 have hal:=ok.acts
 have hvb:g.Spots.length=0∨C4 va<H.n:=hG.p.lt
 have hsk0:∀ h,Fr H.n [] H h→g.Spots.length=0∨SK h 3 va:=fun h hF=>by
  rcases hsk with q|q
  ·exact .inl q
  ·rcases hvb with q2|q2
   ·exact .inl q2
   ·exact .inr (q.fr hF q2 (by simp))
 have hkn1:(known g).1.length=l.length:=by rw[← el,List.length_map]
 have hall:∀ j,j<l.length→0<(l.getD j default).1.m.length∧(l.getD j default).1.m.length≤11∧(known g).1.getD j default=(l.getD j default).1∧0≤(Gw g (l.getD j default).1 hour).kind∧(Gw g (l.getD j default).1 hour).kind<g.Sorts.length:=fun j hj=>by
  have hx:(l.getD j default).1∈(known g).1:=by
   rw[← el]
   refine List.mem_map.2 ⟨_, ?_,rfl⟩
   simp[List.getD,List.getElem?_eq_getElem hj]
  have hf:=Nn hal _ hx
  have hgx:(known g).1.getD j default=(l.getD j default).1:=by rw[← el,Kk hj]
  have hkn:=Xo ok (g:=g) (j:=j) (by omega) hul
  rw[hgx]at hkn
  exact⟨hf.pos,hf.len,hgx,hkn.1,hkn.2⟩
 refine Cl.ofW Try.func89 rfl (by kernel_rfl) (by rw[Try.ntmps89];exact Nat.le_of_ble_eq_true rfl) (by kernel_rfl) ?_
 have Ab:True:=trivial
 refine Jx [0,1] ?_
 intro eg Aj
 simp only[Ag,Af,and_true]at Aj
 try simp only[↓pb,An,D2,hgo,Sh.1.one,Ab,irN,nrA,nrM,nrE,reduceIte,reduceCtorEq,nrL]at Aj
 replace Ab:=Aj;clear Aj
 repeat'(first|((with_reducible refine hK _ _ fun e2 Aj=>?_);clear hK K;simp only[Kg,Ag,Af,and_true,↓pb,An,D2,hgo,Sh.1.one,hgo,Py,Sh.1.one,Ab,irN,nrA,nrM,nrE,reduceIte,reduceCtorEq,nrL]at Aj;clear Ab;(try clear eg);have Ab:=Aj;clear Aj;rename Bi=>eg)|((first|((with_reducible first|apply Ac|apply Al|apply Ak);(simp(disch:=try exact dA) only[Bh,D2,hgo,Sh.1.one,hgo,Py,Sh.1.one,Ab,irN,nrA,nrM,nrE,reduceIte,reduceCtorEq,nrL];with_reducible exact rfl))|((with_reducible first|apply Ar|apply As|apply Aq);(focus exact Ee))|((with_reducible apply Cy);(focus exact Bb);(simp only[↓pb,An,D2,hgo,Sh.1.one,hgo,Py,Sh.1.one,Ab,irN,nrA,nrM,nrE,reduceIte,reduceCtorEq,nrL];exact f77 _ _ _ _ _ (by exact Bb) (hG.fr (N:=H.n) (by exact Bm)) (hsk0 _ (by exact Bm)) (by omega));(rintro vq Gq hq Fy ⟨mr,rfl,mg,mr1,mr2⟩;try simp only[Ao,A3]at hq))|(with_reducible first|refine Eu Kg [3] fun K hK=>?_|refine Fx Kg [3] fun K hK=>?_));try simp only[↓pb,↓pd,Bp,D2,hgo,Sh.1.one,hgo,Py,Sh.1.one,Ab,irN,nrA,nrM,nrE,reduceIte,reduceCtorEq,nrL])|((first|((with_reducible first|apply Br|apply Bt|apply Cc|apply Cd);exact rfl)|(with_reducible apply Au));(simp only[↓pb,An,D2,hgo,Sh.1.one,hgo,Py,Sh.1.one,Ab,irN,nrA,nrM,nrE,reduceIte,reduceCtorEq,nrL];with_reducible exact rfl);all_goals(intro hc;(first|exact C8 hc|try simp only[C0]at hc);try((with_reducible first|apply E3|apply Ge);simp only[↓pb,↓pd,Bp,D2,hgo,Sh.1.one,hgo,Py,Sh.1.one,hc,Ab,irN,nrA,nrM,nrE,reduceIte,reduceCtorEq,nrL])))|(with_reducible first|refine Az ?_|refine Ap ?_|refine At ?_|refine Ay ?_|refine Ax ?_|apply Ad)|((with_reducible apply Ae);(focus decide))|fail)
 refine Ga (N:=H.n) (X:=[]) (h0:=H) (fun h=>h.get H.n=.cells [va,vb,vc,vh] 91 .ex∧h.get mr=.map (Qg (Ig g g.Spots.length))∧RHs h vh l∧H.n<mr∧mr<h.n∧C1 h) (by exact Bm) ⟨by simp(disch:=try exact dA) only[Bh,D2,hgo,Sh.1.one,Ab,irN,nrA,nrM,nrE,reduceIte,reduceCtorEq,nrL],mg,Sh.fr (N:=H.n) (by exact Bm),by simp only[Ao]at mr1;omega,mr2,(by exact Bb)⟩ ?_
 rintro hb Fb ⟨b0,b2,Sb,c2,c3,Tb⟩
 clear mg mr1 mr2 hq Fy
 have rb0:hb.rd H.n=some [va,vb,vc,vh]:=by rw[Bf,b0];rfl
 have Gb:=hG.fr Fb
 repeat'(first|((with_reducible refine hK _ _ fun e2 Aj=>?_);clear hK K;simp only[Kg,Ag,Af,and_true,↓pb,An,D2,hgo,Sh.1.one,rb0,b0,Am Gb.p,Ab,irN,nrA,nrM,nrE,reduceIte,reduceCtorEq,nrL]at Aj;clear Ab;(try clear eg);have Ab:=Aj;clear Aj;rename Bi=>eg)|((first|((with_reducible first|apply Ac|apply Al|apply Ak);(simp(disch:=try exact dA) only[Bh,D2,hgo,Sh.1.one,rb0,b0,Am Gb.p,Ab,irN,nrA,nrM,nrE,reduceIte,reduceCtorEq,nrL];with_reducible exact rfl))|((with_reducible first|apply Ar|apply As|apply Aq);(focus exact Ee))|(with_reducible first|refine Ai Kg fun K hK=>?_|refine Aw Kg fun K hK=>?_));try simp only[↓pb,↓pd,Bp,D2,hgo,Sh.1.one,rb0,b0,Am Gb.p,Ab,irN,nrA,nrM,nrE,reduceIte,reduceCtorEq,nrL])|((first|((with_reducible first|apply Br|apply Bt|apply Cc|apply Cd);exact rfl)|(with_reducible apply Au));(simp only[↓pb,An,D2,hgo,Sh.1.one,rb0,b0,Am Gb.p,Ab,irN,nrA,nrM,nrE,reduceIte,reduceCtorEq,nrL];with_reducible exact rfl);all_goals(intro hc;(first|exact C8 hc|try simp only[C0]at hc);try((with_reducible first|apply E3|apply Ge);simp only[↓pb,↓pd,Bp,D2,hgo,Sh.1.one,rb0,b0,Am Gb.p,hc,Ab,irN,nrA,nrM,nrE,reduceIte,reduceCtorEq,nrL])))|(with_reducible first|refine Az ?_|refine Ap ?_|refine At ?_|refine Ay ?_|refine Ax ?_|apply Ad)|((with_reducible apply Ae);(focus decide))|fail)
 refine Db [1,2,6,17] (by kernel_rfl) 18 (g.Spots.length) (H.n) [] [] (fun i e h=>∃ vo vs gg,e 5=vo∧GS h 1 (Ci g (known g).1 hour i).length vo vs gg∧(∀ x,gg=some x→H.n≤x)∧(vo=.slice none 0 0∨H.n≤C4 vo)∧D8 h [] vs (Ci g (known g).1 hour i)∧(Ci g (known g).1 hour i).length≤4*i) (by simp only[↓pb,An,D2,hgo,Sh.1.one,Ab,irN,nrA,nrM,nrE,reduceIte,reduceCtorEq,nrL]) (by focus exact Bb) (H0:=H) (by focus exact Bm) (by intro b hb hlt;simp at hb ⊢;try omega) ?_ ?_
 rotate_left
 intro i1 e1 h1 hi1 D3 ei1 Ep D9 Mf Hh
 simp only[Ag,Af,and_true]at D3
 try simp only[↓pb,An,D2,hgo,Sh.1.one,Ab,irN,nrA,nrM,nrE,reduceIte,reduceCtorEq,nrL]at D3
 have hn11:=Ep.n;have hn01:=D9.n;try simp only[Ao,A3]at hn11
 replace Ab:=B9p ei1 D3
 rotate_left
 ·exact⟨_,[],none,by simp only[↓pb,An,D2,hgo,Sh.1.one,Ab,irN,nrA,nrM,nrE,reduceIte,reduceCtorEq,nrL],.nil rfl rfl rfl,by simp,.inl rfl,trivial,Nat.le_refl _⟩
 obtain⟨vo,vs,gg,e5,G,gg2,gv,R,len⟩:=Hh
 have S1:=Sb.fr Ep
 have G1:=hG.fr D9
 have d0:h1.get H.n=.cells [va,vb,vc,vh] 91 .ex:=by rw[Ep.old _ (by omega) (by simp)];exact b0
 have d2:h1.get mr=.map (Qg (Ig g g.Spots.length)):=by rw[Ep.old _ (by omega) (by simp)];exact b2
 by_cases hi1b:i1<g.Spots.length
 ·repeat'(first|((with_reducible refine hK _ _ fun e2 Aj=>?_);clear hK K;simp only[Kg,Ag,Af,and_true,↓pb,An,D2,hgo,Sh.1.one,e5,Ab,irN,nrA,nrM,nrE,reduceIte,reduceCtorEq,nrL]at Aj;clear Ab;(try clear eg);have Ab:=Aj;clear Aj;rename Bi=>eg)|((first|((with_reducible first|apply Ac|apply Al|apply Ak);(simp(disch:=try exact dA) only[Bh,D2,hgo,Sh.1.one,e5,Ab,irN,nrA,nrM,nrE,reduceIte,reduceCtorEq,nrL];with_reducible exact rfl))|((with_reducible first|apply Ar|apply As|apply Aq);(focus exact Ee))|(with_reducible first|refine Ai Kg fun K hK=>?_|refine Aw Kg fun K hK=>?_));try simp only[↓pb,↓pd,Bp,D2,hgo,Sh.1.one,e5,Ab,irN,nrA,nrM,nrE,reduceIte,reduceCtorEq,nrL])|((first|((with_reducible first|apply Br|apply Bt|apply Cc|apply Cd);exact rfl)|(with_reducible apply Au));(simp only[↓pb,An,D2,hgo,Sh.1.one,e5,Ab,irN,nrA,nrM,nrE,reduceIte,reduceCtorEq,nrL];with_reducible exact rfl);all_goals(intro hc;(first|exact C8 hc|try simp only[C0]at hc);try((with_reducible first|apply E3|apply Ge);simp only[↓pb,↓pd,Bp,D2,hgo,Sh.1.one,e5,hc,Ab,irN,nrA,nrM,nrE,reduceIte,reduceCtorEq,nrL])))|(with_reducible first|refine Az ?_|refine Ap ?_|refine At ?_|refine Ay ?_|refine Ax ?_|apply Ad)|((with_reducible apply Ae);(focus decide))|fail)
  refine Db [1,2,6,7,17,18,21] (by kernel_rfl) 22 (i1) (H.n) [] [] (fun i e h=>∃ vo vs gg,e 5=vo∧GS h 1 (Ci g (known g).1 hour i1 ++ Gf g (known g).1 hour i1 i).length vo vs gg∧(∀ x,gg=some x→H.n≤x)∧(vo=.slice none 0 0∨H.n≤C4 vo)∧D8 h [] vs (Ci g (known g).1 hour i1 ++ Gf g (known g).1 hour i1 i)∧(Gf g (known g).1 hour i1 i).length≤i) (by simp only[↓pb,An,D2,hgo,Sh.1.one,Ab,irN,nrA,nrM,nrE,reduceIte,reduceCtorEq,nrL]) (by focus exact Bb) (H0:=H) (by focus exact Bm) (by intro b hb hlt;simp at hb ⊢;try omega) ?_ ?_
  rotate_left
  intro i2 e2 h2 hi2 Lm ei2 Ol Ji A30 Ov
  simp only[Ag,Af,and_true]at Lm
  try simp only[↓pb,An,D2,hgo,Sh.1.one,Ab,irN,nrA,nrM,nrE,reduceIte,reduceCtorEq,nrL]at Lm
  have hn12:=Ol.n;have hn02:=Ji.n;try simp only[Ao,A3]at hn12
  replace Ab:=B9p ei2 Lm
  rotate_left
  ·refine⟨vo,vs,gg,by simp only[↓pb,An,D2,hgo,Sh.1.one,Ab,irN,nrA,nrM,nrE,reduceIte,reduceCtorEq,nrL], ?_,gg2,gv, ?_,Nat.le_refl _⟩
   ·rw[Gf,List.append_nil]
    exact G.fr (N:=h1.n) (X:=[]) (by exact Bm) (fun x hx=>by subst hx;exact G.grp_lt) (by simp)
   ·rw[Gf,List.append_nil]
    exact R.fr (N:=h1.n) (X:=[]) (by exact Bm) (by simp)
  obtain⟨vo2,vs2,gg3,e52,G2,gg4,gv2,R2,len2⟩:=Ov
  have F2:Fr h1.n [] h1 (h1.upd (h1.n+1) h1.n (.cells [iv i1] 3 .ex)):=by exact Bm
  have n12:h1.n+1≤h2.n:=Ol.n
  have F12:Fr H.n [] h1 h2:=Fr.call (N:=H.n) (by exact Bm) Ol (by omega)
  by_cases hj:i2<i1
  ·have k0:h2.get H.n=.cells [va,vb,vc,vh] 91 .ex:=by rw[F12.old _ (by omega) (by simp)];exact d0
   have km:h2.get mr=.map (Qg (Ig g g.Spots.length)):=by rw[F12.old _ (by omega) (by simp)];exact d2
   have k7:h2.get h1.n=.cells [iv i1] 3 .ex:=by
    rw[Ol.old h1.n (by simp only[↓pb,An,D2,hgo,Sh.1.one,Ab,irN,nrA,nrM,nrE,reduceIte,reduceCtorEq,nrL];omega) (by simp)]
    simp(disch:=try exact dA) only[Bh,D2,hgo,Sh.1.one,Ab,irN,nrA,nrM,nrE,reduceIte,reduceCtorEq,nrL]
   have S3:=Sh.fr Ji
   have G3:=hG.fr Ji
   have q0:h2.rd H.n=some [va,vb,vc,vh]:=by rw[Bf,k0];rfl
   have q7:h2.rd h1.n=some [iv i1]:=by rw[Bf,k7];rfl
   obtain⟨pa1,pa2,pa3,pa4,pa5⟩:=hall i2 (by omega)
   obtain⟨pb1,pb2,pb3,pb4,pb5⟩:=hall i1 (by omega)
   have S4:=S3.2 i2 (by omega)
   have S5:=S3.2 i1 (by omega)
   obtain⟨na,hna⟩:∃ na,na=Gw g (l.getD i2 default).1 hour:=⟨_,rfl⟩
   obtain⟨nb',hnb⟩:∃ nb',nb'=Gw g (l.getD i1 default).1 hour:=⟨_,rfl⟩
   have hma:Ft (↑(B5 hour g.Acts)) ((l.getD i2 default).1.m.getD 0 default) (l.getD i2 default).1.m=na:=hna.symm
   have hmb:Ft (↑(B5 hour g.Acts)) ((l.getD i1 default).1.m.getD 0 default) (l.getD i1 default).1.m=nb':=hnb.symm
   rw[← hna]at pa4 pa5
   rw[← hnb]at pb4 pb5
   have lS:=S3.1.lt
   have G2o:=G2.one
   repeat'(first|((with_reducible refine hK _ _ fun e2 Aj=>?_);clear hK K;simp only[Kg,Ag,Af,and_true,↓pb,An,D2,hgo,Sh.1.one,e52,k0,q0,q7,Gx S3.1,S3.1.rd,(S3.1.el Df rfl),Mq,hgo,S3.1.one,S4.one,S5.one,hma,hmb,Ab,irN,nrA,nrM,nrE,reduceIte,reduceCtorEq,nrL]at Aj;clear Ab;(try clear eg);have Ab:=Aj;clear Aj;rename Bi=>eg)|((first|((with_reducible first|apply Ac|apply Al|apply Ak);(simp(disch:=try exact dA) only[Bh,D2,hgo,Sh.1.one,e52,k0,q0,q7,Gx S3.1,S3.1.rd,(S3.1.el Df rfl),Mq,hgo,S3.1.one,S4.one,S5.one,hma,hmb,Ab,irN,nrA,nrM,nrE,reduceIte,reduceCtorEq,nrL];with_reducible exact rfl))|((with_reducible first|apply Ar|apply As|apply Aq);(focus exact Ee))|((with_reducible apply Bz);(focus exact Bb);(simp only[↓pb,An,D2,hgo,Sh.1.one,e52,k0,q0,q7,Gx S3.1,S3.1.rd,(S3.1.el Df rfl),Mq,hgo,S3.1.one,S4.one,S5.one,hma,hmb,Ab,irN,nrA,nrM,nrE,reduceIte,reduceCtorEq,nrL];(first|exact f56 _ _ _ _ _ _ _ (by exact Bb) (hG.fr (N:=H.n) (by exact Bm)) S3.1.one (by omega)|exact f55 _ _ _ _ _ (by exact Bb) (S4.fr0 (N:=0) (by exact Bm)) pa1 (by omega)|exact f55 _ _ _ _ _ (by exact Bb) (S5.fr0 (N:=0) (by exact Bm)) pb1 (by omega)));(intro Gq hq Fy;try simp only[Ao,A3]at hq))|(with_reducible first|refine Eu Kg [10] fun K hK=>?_|refine Fx Kg [10] fun K hK=>?_));try simp only[↓pb,↓pd,Bp,D2,hgo,Sh.1.one,e52,k0,q0,q7,Gx S3.1,S3.1.rd,(S3.1.el Df rfl),Mq,hgo,S3.1.one,S4.one,S5.one,hma,hmb,Ab,irN,nrA,nrM,nrE,reduceIte,reduceCtorEq,nrL])|((first|((with_reducible first|apply Br|apply Bt|apply Cc|apply Cd);exact rfl)|(with_reducible apply Au));(simp only[↓pb,An,D2,hgo,Sh.1.one,e52,k0,q0,q7,Gx S3.1,S3.1.rd,(S3.1.el Df rfl),Mq,hgo,S3.1.one,S4.one,S5.one,hma,hmb,Ab,irN,nrA,nrM,nrE,reduceIte,reduceCtorEq,nrL];with_reducible exact rfl);all_goals(intro hc;(first|exact C8 hc|try simp only[C0]at hc);try((with_reducible first|apply E3|apply Ge);simp only[↓pb,↓pd,Bp,D2,hgo,Sh.1.one,e52,k0,q0,q7,Gx S3.1,S3.1.rd,(S3.1.el Df rfl),Mq,hgo,S3.1.one,S4.one,S5.one,hma,hmb,hc,Ab,irN,nrA,nrM,nrE,reduceIte,reduceCtorEq,nrL])))|(with_reducible first|refine Az ?_|refine Ap ?_|refine At ?_|refine Ay ?_|refine Ax ?_|apply Ad)|((with_reducible apply Ae);(focus decide))|fail)
   rename_i g1q z1 j1 g2q z2 j2 g3q z3 j3
   refine Ga (N:=h2.n) (X:=[]) (h0:=h2) (fun h=>h.get h2.n=.cells [iv i2] 3 .ex∧h.get Gq.n=.cells (Cq na) 101 .ex∧h.get (Gq.n+1)=.cells (Cq nb') 101 .ex∧h2.n<Gq.n∧Gq.n+1<h.n∧C1 h) (by exact Bm) ⟨by simp(disch:=try exact dA) only[Bh,D2,hgo,Sh.1.one,Ab,irN,nrA,nrM,nrE,reduceIte,reduceCtorEq,nrL],by simp(disch:=try exact dA) only[Bh,D2,hgo,Sh.1.one,Ab,irN,nrA,nrM,nrE,reduceIte,reduceCtorEq,nrL],by simp(disch:=try exact dA) only[Bh,D2,hgo,Sh.1.one,Ab,irN,nrA,nrM,nrE,reduceIte,reduceCtorEq,nrL],by omega,by simp only[↓pb,An,D2,hgo,Sh.1.one,Ab,irN,nrA,nrM,nrE,reduceIte,reduceCtorEq,nrL];omega,(by exact Bb)⟩ ?_
   rintro h5 F5 ⟨m8,m9,m10,n5,n6,T5⟩
   clear Fy j1 j2 j3
   have n25:=F5.n
   have F15:Fr H.n [] (h1.upd (h1.n+1) h1.n (Dd.cells [Value.int IntKind.i64 ↑i1] 3 Kd.ex)) h5:=Fr.call Ol F5 Ji.n
   have F05:Fr H.n [] H h5:=Fr.call Ji F5 Ji.n
   have u0:h5.get H.n=.cells [va,vb,vc,vh] 91 .ex:=by rw[F5.old _ (by omega) (by simp)];exact k0
   have u2:h5.get mr=.map (Qg (Ig g g.Spots.length)):=by rw[F5.old _ (by omega) (by simp)];exact km
   have u7:h5.get h1.n=.cells [iv i1] 3 .ex:=by rw[F5.old _ (by omega) (by simp)];exact k7
   have w0:h5.rd H.n=some [va,vb,vc,vh]:=by rw[Bf,u0];rfl
   have w7:h5.rd h1.n=some [iv i1]:=by rw[Bf,u7];rfl
   have w8:h5.rd h2.n=some [iv i2]:=by rw[Bf,m8];rfl
   have w9:h5.rd Gq.n=some (Cq na):=by rw[Bf,m9];rfl
   have w10:h5.rd (Gq.n+1)=some (Cq nb'):=by rw[Bf,m10];rfl
   obtain⟨ka,hka⟩:∃ ka:Nat,na.kind=ka:=⟨na.kind.toNat,by omega⟩
   obtain⟨kb,hkb⟩:∃ kb:Nat,nb'.kind=kb:=⟨nb'.kind.toNat,by omega⟩
   have hkal:ka<g.Sorts.length:=by omega
   have hkbl:kb<g.Sorts.length:=by omega
   have hq5:=(hG.fr F05).q
   have lq5:=hq5.lt
   obtain⟨qq,hqq⟩:=A3A (g:=g) (a:=i2) (b:=i1) hj (n:=g.Spots.length) hi1b
   have hlk:lkG (.map (Qg (Ig g g.Spots.length))) (k2 (i2:Int) (i1:Int))=some (iv (Sf g i2 i1)):=B2B hqq
   have G5:=G2.fr F5 (fun x hx=>by subst hx;exact G2.grp_lt) (by simp)
   have R5:=R2.fr F5 (by simp)
   obtain⟨GB,hGB⟩:∃ GB,Gq.n=GB:=⟨_,rfl⟩
   rw[hGB]at m9 m10 n5 n6 w9 w10 Ab
   refine Xz (fun e h=>h=h5∧e 75=.bool (decide (na.tips=0) || decide (nb'.tips=0) || decide (J5 g na.kind nb'.kind≤Sf g i2 i1))∧e 1=iv hour∧e 2=Bc H.n 0∧e 5=vo2∧e 6=.map (some mr)∧e 7=Bc h1.n 0∧e 8=Bc h2.n 0∧e 9=Bc GB 0∧e 10=Bc (GB+1) 0∧e 17=iv g.Spots.length∧e 18=iv i1∧e 21=iv i1∧e 22=iv i2) ?_ ?_
   ·simp only[↓pb,↓pd,Bp,D2,hgo,Sh.1.one,Ab,irN,nrA,nrM,nrE,reduceIte,reduceCtorEq,nrL]
    repeat'(first|((with_reducible refine hK _ _ fun e2 Aj=>?_);clear hK K;simp only[Kg,Ag,Af,and_true,↓pb,An,D2,hgo,Sh.1.one,w0,w7,w8,w9,w10,u0,u2,Cq,hka,hkb,A3Y,hlk,D0,Fo hq5,hq5.rd,(hq5.el Cz rfl),Fs,hgo,Ab,irN,nrA,nrM,nrE,reduceIte,reduceCtorEq,nrL]at Aj;clear Ab;(try clear eg);have Ab:=Aj;clear Aj;rename Bi=>eg)|((first|((with_reducible first|apply Ac|apply Al|apply Ak);(simp(disch:=try exact dA) only[Bh,D2,hgo,Sh.1.one,w0,w7,w8,w9,w10,u0,u2,Cq,hka,hkb,A3Y,hlk,D0,Fo hq5,hq5.rd,(hq5.el Cz rfl),Fs,hgo,Ab,irN,nrA,nrM,nrE,reduceIte,reduceCtorEq,nrL];with_reducible exact rfl))|((with_reducible first|apply Ar|apply As|apply Aq);(focus exact Ee))|(with_reducible first|refine Ai Kg fun K hK=>?_|refine Aw Kg fun K hK=>?_));try simp only[↓pb,↓pd,Bp,D2,hgo,Sh.1.one,w0,w7,w8,w9,w10,u0,u2,Cq,hka,hkb,A3Y,hlk,D0,Fo hq5,hq5.rd,(hq5.el Cz rfl),Fs,hgo,Ab,irN,nrA,nrM,nrE,reduceIte,reduceCtorEq,nrL])|((first|((with_reducible first|apply Br|apply Bt|apply Cc|apply Cd);exact rfl)|(with_reducible apply Au));(simp only[↓pb,An,D2,hgo,Sh.1.one,w0,w7,w8,w9,w10,u0,u2,Cq,hka,hkb,A3Y,hlk,D0,Fo hq5,hq5.rd,(hq5.el Cz rfl),Fs,hgo,Ab,irN,nrA,nrM,nrE,reduceIte,reduceCtorEq,nrL];with_reducible exact rfl);all_goals(intro hc;(first|exact C8 hc|try simp only[C0]at hc);try((with_reducible first|apply E3|apply Ge);simp only[↓pb,↓pd,Bp,D2,hgo,Sh.1.one,w0,w7,w8,w9,w10,u0,u2,Cq,hka,hkb,A3Y,hlk,D0,Fo hq5,hq5.rd,(hq5.el Cz rfl),Fs,hgo,hc,Ab,irN,nrA,nrM,nrE,reduceIte,reduceCtorEq,nrL])))|(with_reducible first|refine Az ?_|refine Ap ?_|refine At ?_|refine Ay ?_|refine Ax ?_|apply Ad)|((with_reducible apply Ae);(focus decide))|fail)
    ·have q1:¬ (na.tips:Int)=0:=by assumption
     have q2:¬ (nb'.tips:Int)=0:=by assumption
     rw[decide_eq_false (show ¬ na.tips=0 by omega),decide_eq_false (show ¬ nb'.tips=0 by omega)]
     unfold J5
     rw[Int.toNat_natCast,Int.toNat_natCast]
     rfl
    ·have q2:(nb'.tips:Int)=0:=by assumption
     rw[decide_eq_true (show nb'.tips=0 by omega),Bool.or_true,Bool.true_or]
    ·have q1:(na.tips:Int)=0:=by assumption
     rw[decide_eq_true (show na.tips=0 by omega),Bool.true_or,Bool.true_or]
   ·rintro e6 h6 ⟨rfl,g75,g1,g2,g5,g6,g7,g8,g9,g10,g17,g18,g21,g22⟩
    have Ab:=B9p g75 (B9p g1 (B9p g2 (B9p g5 (B9p g6 (B9p g7 (B9p g8 (B9p g9 (B9p g10 (B9p g17 (B9p g18 (B9p g21 g22)))))))))))
    clear g75 g1 g2 g5 g6 g7 g8 g9 g10 g17 g18 g21 g22
    have hrow1:Gf g (known g).1 hour i1 (i2+1)=Gf g (known g).1 hour i1 i2 ++ (if na.tips=0∨nb'.tips=0∨J5 g na.kind nb'.kind≤Sf g i2 i1 then [] else [[Eg i2 na,Eg i1 nb']]):=by
     rw[Gf,Lu]
     simp only[pa3,pb3,← hna,← hnb]
    repeat'(first|((with_reducible refine hK _ _ fun e2 Aj=>?_);clear hK K;simp only[Kg,Ag,Af,and_true,↓pb,An,D2,hgo,Sh.1.one,Ab,irN,nrA,nrM,nrE,reduceIte,reduceCtorEq,nrL]at Aj;clear Ab;(try clear eg);have Ab:=Aj;clear Aj;rename Bi=>eg)|((first|((with_reducible first|apply Ac|apply Al|apply Ak);(simp(disch:=try exact dA) only[Bh,D2,hgo,Sh.1.one,Ab,irN,nrA,nrM,nrE,reduceIte,reduceCtorEq,nrL];with_reducible exact rfl))|((with_reducible first|apply Ar|apply As|apply Aq);(focus exact Ee))|(with_reducible first|refine Ai Kg fun K hK=>?_|refine Aw Kg fun K hK=>?_));try simp only[↓pb,↓pd,Bp,D2,hgo,Sh.1.one,Ab,irN,nrA,nrM,nrE,reduceIte,reduceCtorEq,nrL])|((first|((with_reducible first|apply Br|apply Bt|apply Cc|apply Cd);exact rfl)|(with_reducible apply Au));(simp only[↓pb,An,D2,hgo,Sh.1.one,Ab,irN,nrA,nrM,nrE,reduceIte,reduceCtorEq,nrL];with_reducible exact rfl);all_goals(intro hc;(first|exact C8 hc|try simp only[C0]at hc);try((with_reducible first|apply E3|apply Ge);simp only[↓pb,↓pd,Bp,D2,hgo,Sh.1.one,hc,Ab,irN,nrA,nrM,nrE,reduceIte,reduceCtorEq,nrL])))|(with_reducible first|refine Az ?_|refine Ap ?_|refine At ?_|refine Ay ?_|refine Ax ?_|apply Ad)|((with_reducible apply Ae);(focus decide))|fail)
    ·have hrc:na.tips=0∨nb'.tips=0∨J5 g na.kind nb'.kind≤Sf g i2 i1:=by
      simpa only[Bool.or_eq_true,decide_eq_true_eq,or_assoc] using hc
     rw[if_pos hrc,List.append_nil]at hrow1
     refine⟨by omega,by simp only[↓pb,An,D2,hgo,Sh.1.one,Ab,irN,nrA,nrM,nrE,reduceIte,reduceCtorEq,nrL];exact congrArg _ (Di (by omega)),by focus exact Bm, ?_⟩
     refine⟨vo2,vs2,gg3,by simp only[Ab], ?_,gg4,gv2, ?_, ?_⟩
     ·rw[hrow1]
      exact G5
     ·rw[hrow1]
      exact R5
     ·rw[hrow1]
      omega
    ·have hrc:¬(na.tips=0∨nb'.tips=0∨J5 g na.kind nb'.kind≤Sf g i2 i1):=by
      rw[← Bool.not_eq_true]at hc
      simpa only[Bool.or_eq_true,decide_eq_true_eq,or_assoc] using hc
     rw[if_neg hrc]at hrow1
     have hln:(Ci g (known g).1 hour i1 ++ Gf g (known g).1 hour i1 i2).length≤20:=by
      rw[List.length_append]
      omega
     refine B0A (n:=(Ci g (known g).1 hour i1 ++ Gf g (known g).1 hour i1 i2).length) (m:=1) (c:=vs2) (g:=gg3) (GS.ex (G5.fr (N:=h6.n) (X:=[]) (by exact Bm) (fun x hx=>by subst hx;exact G5.grp_lt) (by simp))) (SR.new rfl) (by omega) (by omega) (by omega) (by exact Bb) fun GG=>?_
     simp only[↓pb,↓pd,Bp,D2,hgo,Sh.1.one,Ab,irN,nrA,nrM,nrE,reduceIte,reduceCtorEq,nrL]
     repeat'(first|((with_reducible refine hK _ _ fun e2 Aj=>?_);clear hK K;simp only[Kg,Ag,Af,and_true,↓pb,An,D2,hgo,Sh.1.one,Ab,irN,nrA,nrM,nrE,reduceIte,reduceCtorEq,nrL]at Aj;clear Ab;(try clear eg);have Ab:=Aj;clear Aj;rename Bi=>eg)|((first|((with_reducible first|apply Ac|apply Al|apply Ak);(simp(disch:=try exact dA) only[Bh,D2,hgo,Sh.1.one,Ab,irN,nrA,nrM,nrE,reduceIte,reduceCtorEq,nrL];with_reducible exact rfl))|((with_reducible first|apply Ar|apply As|apply Aq);(focus exact Ee))|(with_reducible first|refine Ai Kg fun K hK=>?_|refine Aw Kg fun K hK=>?_));try simp only[↓pb,↓pd,Bp,D2,hgo,Sh.1.one,Ab,irN,nrA,nrM,nrE,reduceIte,reduceCtorEq,nrL])|((first|((with_reducible first|apply Br|apply Bt|apply Cc|apply Cd);exact rfl)|(with_reducible apply Au));(simp only[↓pb,An,D2,hgo,Sh.1.one,Ab,irN,nrA,nrM,nrE,reduceIte,reduceCtorEq,nrL];with_reducible exact rfl);all_goals(intro hc;(first|exact C8 hc|try simp only[C0]at hc);try((with_reducible first|apply E3|apply Ge);simp only[↓pb,↓pd,Bp,D2,hgo,Sh.1.one,hc,Ab,irN,nrA,nrM,nrE,reduceIte,reduceCtorEq,nrL])))|(with_reducible first|refine Az ?_|refine Ap ?_|refine At ?_|refine Ay ?_|refine Ax ?_|apply Ad)|((with_reducible apply Ae);(focus decide))|fail)
     have hgd1:=Je gg4 (n:=h6.n+1) (by omega)
     have hgd2:=GG.grp_lt
     simp only[Ao,A3]at hgd2
     refine⟨by omega,by simp only[↓pb,An,D2,hgo,Sh.1.one,Ab,irN,nrA,nrM,nrE,reduceIte,reduceCtorEq,nrL];exact congrArg _ (Di (by omega)),by focus exact Bm, ?_⟩
     refine⟨.slice (some ⟨h6.n+1,0,none⟩) ((Ci g (known g).1 hour i1 ++ Gf g (known g).1 hour i1 i2).length+1) ((Ci g (known g).1 hour i1 ++ Gf g (known g).1 hour i1 i2).length+1),vs2 ++ [.func (.func 106) #[] #[Bc h2.n 0,Bc GB 0,Bc h1.n 0,Bc (GB+1) 0]],some (gg3.getD (h6.n+1)),by simp only[Ab], ?_,La hgd1,.inr (by show H.n≤h6.n+1;omega), ?_, ?_⟩
     ·rw[hrow1,← List.append_assoc,List.length_append,List.length_singleton]
      exact GG
     ·rw[hrow1,← List.append_assoc]
      exact(R5.fr (N:=H.n) (X:=[]) (by exact Bm) (by simp)).app ⟨.pair ⟨List.not_mem_nil,by simp only[Ao];omega⟩ ⟨List.not_mem_nil,by simp only[Ao];omega⟩ ⟨List.not_mem_nil,by simp only[Ao];omega⟩ ⟨List.not_mem_nil,by simp only[Ao];omega⟩ (by simp(disch:=try exact dA) only[Bh,D2,hgo,Sh.1.one,Ab,irN,nrA,nrM,nrE,reduceIte,reduceCtorEq,nrL];exact m8) (by simp(disch:=try exact dA) only[Bh,D2,hgo,Sh.1.one,Ab,irN,nrA,nrM,nrE,reduceIte,reduceCtorEq,nrL];exact m9) (by simp(disch:=try exact dA) only[Bh,D2,hgo,Sh.1.one,Ab,irN,nrA,nrM,nrE,reduceIte,reduceCtorEq,nrL];exact u7) (by simp(disch:=try exact dA) only[Bh,D2,hgo,Sh.1.one,Ab,irN,nrA,nrM,nrE,reduceIte,reduceCtorEq,nrL];exact m10),trivial⟩
     ·rw[hrow1,List.length_append,List.length_singleton]
      omega
  ·have e2n:i2=i1:=by omega
   subst e2n
   repeat'(first|((with_reducible refine hK _ _ fun e2 Aj=>?_);clear hK K;simp only[Kg,Ag,Af,and_true,↓pb,An,D2,hgo,Sh.1.one,Ab,irN,nrA,nrM,nrE,reduceIte,reduceCtorEq,nrL]at Aj;clear Ab;(try clear eg);have Ab:=Aj;clear Aj;rename Bi=>eg)|((first|((with_reducible first|apply Ac|apply Al|apply Ak);(simp(disch:=try exact dA) only[Bh,D2,hgo,Sh.1.one,Ab,irN,nrA,nrM,nrE,reduceIte,reduceCtorEq,nrL];with_reducible exact rfl))|((with_reducible first|apply Ar|apply As|apply Aq);(focus exact Ee))|(with_reducible first|refine Ai Kg fun K hK=>?_|refine Aw Kg fun K hK=>?_));try simp only[↓pb,↓pd,Bp,D2,hgo,Sh.1.one,Ab,irN,nrA,nrM,nrE,reduceIte,reduceCtorEq,nrL])|((first|((with_reducible first|apply Br|apply Bt|apply Cc|apply Cd);exact rfl)|(with_reducible apply Au));(simp only[↓pb,An,D2,hgo,Sh.1.one,Ab,irN,nrA,nrM,nrE,reduceIte,reduceCtorEq,nrL];with_reducible exact rfl);all_goals(intro hc;(first|exact C8 hc|try simp only[C0]at hc);try((with_reducible first|apply E3|apply Ge);simp only[↓pb,↓pd,Bp,D2,hgo,Sh.1.one,hc,Ab,irN,nrA,nrM,nrE,reduceIte,reduceCtorEq,nrL])))|(with_reducible first|refine Az ?_|refine Ap ?_|refine At ?_|refine Ay ?_|refine Ax ?_|apply Ad)|((with_reducible apply Ae);(focus decide))|fail)
   refine⟨by omega,by simp only[↓pb,An,D2,hgo,Sh.1.one,Ab,irN,nrA,nrM,nrE,reduceIte,reduceCtorEq,nrL];exact congrArg _ (Di (by omega)),by focus exact Bm, ?_⟩
   exact⟨vo2,vs2,gg3,by simp only[Ab,e52],G2,gg4,gv2,R2,by show (_ ++ _:List Iy).length≤_;rw[List.length_append];omega⟩
 ·have e1n:i1=g.Spots.length:=by omega
  repeat'(first|((with_reducible refine hK _ _ fun e2 Aj=>?_);clear hK K;simp only[Kg,Ag,Af,and_true,↓pb,An,D2,hgo,Sh.1.one,Ab,irN,nrA,nrM,nrE,reduceIte,reduceCtorEq,nrL]at Aj;clear Ab;(try clear eg);have Ab:=Aj;clear Aj;rename Bi=>eg)|((first|((with_reducible first|apply Ac|apply Al|apply Ak);(simp(disch:=try exact dA) only[Bh,D2,hgo,Sh.1.one,Ab,irN,nrA,nrM,nrE,reduceIte,reduceCtorEq,nrL];with_reducible exact rfl))|((with_reducible first|apply Ar|apply As|apply Aq);(focus exact Ee))|(with_reducible first|refine Ai Kg fun K hK=>?_|refine Aw Kg fun K hK=>?_));try simp only[↓pb,↓pd,Bp,D2,hgo,Sh.1.one,Ab,irN,nrA,nrM,nrE,reduceIte,reduceCtorEq,nrL])|((first|((with_reducible first|apply Br|apply Bt|apply Cc|apply Cd);exact rfl)|(with_reducible apply Au));(simp only[↓pb,An,D2,hgo,Sh.1.one,Ab,irN,nrA,nrM,nrE,reduceIte,reduceCtorEq,nrL];with_reducible exact rfl);all_goals(intro hc;(first|exact C8 hc|try simp only[C0]at hc);try((with_reducible first|apply E3|apply Ge);simp only[↓pb,↓pd,Bp,D2,hgo,Sh.1.one,hc,Ab,irN,nrA,nrM,nrE,reduceIte,reduceCtorEq,nrL])))|(with_reducible first|refine Az ?_|refine Ap ?_|refine At ?_|refine Ay ?_|refine Ax ?_|apply Ad)|((with_reducible apply Ae);(focus decide))|fail)
  refine⟨by first|exact .inl rfl|exact .inr rfl, ?_⟩
  rw[Ec Try.results89]
  simp only[↓pb,An,D2,hgo,Sh.1.one,Bo,Bg,Ab,irN,nrA,nrM,nrE,reduceIte,reduceCtorEq,nrL]
  repeat ((with_reducible apply Ac);(simp(disch:=try exact dA) only[Bh,D2,hgo,Sh.1.one,Ab,irN,nrA,nrM,nrE,reduceIte,reduceCtorEq,nrL];exact rfl))
  rw[e1n]at G R
  exact⟨⟨vs,gg,by rw[e5];exact G,gg2,by rw[e5];exact gv,R⟩,(by exact Bm)⟩
theorem A6z {H:Aa}{N1 N2:Nat}{v x:Value}{rs ss:List Iy}{g g2:Option Nat}{K:Value→Aa→Prop}(ht:C1 H)(A:RS H N1 v rs g)(B:RS H N2 x ss g2)(hN:N1≤H.n)(hl:rs.length+ss.length≤1000000)
  (k:∀ v' G' g',App H G' g g' ss.length→RS G' N1 v' (rs ++ ss) g'→K v' G'):oB (Cg Try.prog #[114,114] [v,x] H) K :=
 A.app ht B hN (fun c new G S hm=>B3e G S hm (by omega) (by omega)) (fun c new G S=>B4A G S) k
set_option maxHeartbeats 4000000 in
theorem f68 (va vb vc vh:Value)(g:Cv)(l:List (Hp×Value))(hour:Int)(H:Aa)(hT:C1 H)(hG:RG H va vb vc g)(hsk:g.Spots.length=0∨SK H 3 va)(Sh:RHs H vh l)(ok:Ok g)(el:l.map (·.1)=(known g).1)(hll:l.length=g.Spots.length)(hho:0≤hour∧hour≤72) :
  ∃ v H',C5 (.fn 68) #[.agg ⟨[va,vb,vc,vh]⟩,iv hour] H v H'∧(∃ v1 v2 g1 g2,v=.tuple #[v1,v2]∧RS H' H.n v1 (Eh g (known g).1 hour g.Spots.length) g1∧RS H' H.n v2 (Ci g (known g).1 hour g.Spots.length) g2∧∀ x,g1=some x→g2≠some x)∧Fr H.n [] H H':=by
 have hgo:=hG.one
 have hsp:=ok.spots
 have hal:=ok.acts
 have hvb:g.Spots.length=0∨C4 va<H.n:=hG.p.lt
 have hsk0:∀ h,Fr H.n [] H h→g.Spots.length=0∨SK h 3 va:=fun h hF=>by
  rcases hsk with q|q
  ·exact .inl q
  ·rcases hvb with q2|q2
   ·exact .inl q2
   ·exact .inr (q.fr hF q2 (by simp))
 have hso:=Sh.1.one
 refine Cl.ofW Try.func68 rfl (by kernel_rfl) (by rw[Try.ntmps68];exact Nat.le_of_ble_eq_true rfl) (by kernel_rfl) ?_
 have Ab:True:=trivial
 refine Jx [0,1] ?_
 intro eg Aj
 simp only[Ag,Af,and_true]at Aj
 try simp only[↓pb,An,Ko,hgo,hso,Am hG.p,Ab,irN,nrA,nrM,nrE,reduceIte,reduceCtorEq,nrL]at Aj
 replace Ab:=Aj;clear Aj
 repeat'(first|((with_reducible refine hK _ _ fun e2 Aj=>?_);clear hK K;simp only[A20,Ag,Af,and_true,↓pb,An,Ko,hgo,hso,Am hG.p,Ab,irN,nrA,nrM,nrE,reduceIte,reduceCtorEq,nrL]at Aj;clear Ab;(try clear eg);have Ab:=Aj;clear Aj;rename Bi=>eg)|((first|((with_reducible first|apply Ac|apply Al|apply Ak);(simp(disch:=try exact dA) only[Bh,Ko,hgo,hso,Am hG.p,Ab,irN,nrA,nrM,nrE,reduceIte,reduceCtorEq,nrL];with_reducible exact rfl))|(with_reducible first|refine Ai A20 fun K hK=>?_));try simp only[↓pb,↓pd,Bp,Ko,hgo,hso,Am hG.p,Ab,irN,nrA,nrM,nrE,reduceIte,reduceCtorEq,nrL])|((with_reducible apply Au);(simp only[↓pb,An,Ko,hgo,hso,Am hG.p,Ab,irN,nrA,nrM,nrE,reduceIte,reduceCtorEq,nrL];with_reducible exact rfl);all_goals(intro hc;(first|exact C8 hc|try simp only[C0]at hc)))|(with_reducible first|refine Az ?_|refine Ap ?_|refine At ?_|refine Ay ?_|refine Ax ?_|apply Ad)|((with_reducible apply Ae);(focus decide))|fail)
 refine Db [1,2,10] (by kernel_rfl) 11 (g.Spots.length) (H.n) [] [] (fun i e h=>∃ v1 g1,e 4=v1∧RS h H.n v1 (Eh g (known g).1 hour i) g1) (by simp only[↓pb,An,Ko,hgo,hso,Am hG.p,Ab,irN,nrA,nrM,nrE,reduceIte,reduceCtorEq,nrL]) (by focus exact Bb) (H0:=H) (by focus exact Bm) (by intro b hb hlt;simp at hb ⊢;try omega) ?_ ?_
 rotate_left
 intro i1 e1 h1 hi1 D3 ei1 Ep D9 Mf Hh
 simp only[Ag,Af,and_true]at D3
 try simp only[↓pb,An,Ko,hgo,hso,Am hG.p,Ab,irN,nrA,nrM,nrE,reduceIte,reduceCtorEq,nrL]at D3
 have hn11:=Ep.n;have hn01:=D9.n;try simp only[Ao,A3]at hn11
 replace Ab:=B9p ei1 D3
 rotate_left
 ·exact⟨_,none,by simp only[↓pb,An,Ko,hgo,hso,Am hG.p,Ab,irN,nrA,nrM,nrE,reduceIte,reduceCtorEq,nrL],RS.nul⟩
 obtain⟨v1,g1,e4,R1⟩:=Hh
 have o1:=R1.one
 have r0:h1.rd H.n=some [va,vb,vc,vh]:=by
  rw[Ep.rd (b:=H.n) (by simp only[↓pb,An,Ko,hgo,hso,Am hG.p,Ab,irN,nrA,nrM,nrE,reduceIte,reduceCtorEq,nrL];omega) (by simp)]
  simp(disch:=try exact dA) only[Bh,Ko,hgo,hso,Am hG.p,Ab,irN,nrA,nrM,nrE,reduceIte,reduceCtorEq,nrL]
 have S1:=Sh.fr D9
 have G1:=hG.fr D9
 by_cases hi2:i1<g.Spots.length
 ·have hgx:(known g).1.getD i1 default=(l.getD i1 default).1:=by rw[← el,Kk (by omega)]
  repeat'(first|((with_reducible refine hK _ _ fun e2 Aj=>?_);clear hK K;simp only[A20,Ag,Af,and_true,↓pb,An,Ko,hgo,hso,Am hG.p,Ab,irN,nrA,nrM,nrE,reduceIte,reduceCtorEq,nrL]at Aj;clear Ab;(try clear eg);have Ab:=Aj;clear Aj;rename Bi=>eg)|((first|((with_reducible first|apply Ac|apply Al|apply Ak);(simp(disch:=try exact dA) only[Bh,Ko,hgo,hso,Am hG.p,e4,r0,hgo,hso,Ab,irN,nrA,nrM,nrE,reduceIte,reduceCtorEq,nrL];with_reducible exact rfl))|((with_reducible apply Cy);(focus exact Bb);(simp only[↓pb,An,Ko,hgo,hso,Am hG.p,e4,r0,hgo,hso,Ab,irN,nrA,nrM,nrE,reduceIte,reduceCtorEq,nrL];exact f88 _ _ _ _ _ _ _ _ _ (by exact Bb) (G1.fr (N:=h1.n) (by exact Bm)) (S1.fr (N:=h1.n) (by exact Bm)) ok el hll (by omega) hho);(rintro vq Gq hq Fy ⟨us,gu,GU,gu2,bu,RU⟩;try simp only[Ao,A3]at hq))|(with_reducible first|refine Ai A20 fun K hK=>?_));try simp only[↓pb,↓pd,Bp,Ko,hgo,hso,Am hG.p,e4,r0,hgo,hso,Ab,irN,nrA,nrM,nrE,reduceIte,reduceCtorEq,nrL])|((with_reducible apply Au);(simp only[↓pb,An,Ko,hgo,hso,Am hG.p,e4,r0,hgo,hso,Ab,irN,nrA,nrM,nrE,reduceIte,reduceCtorEq,nrL];with_reducible exact rfl);all_goals(intro hc;(first|exact C8 hc|try simp only[C0]at hc)))|(with_reducible first|refine Az ?_|refine Ap ?_|refine At ?_|refine Ay ?_|refine Ax ?_|apply Ad)|((with_reducible apply Ae);(focus decide))|fail)
  have hlh:=Qo g (l.getD i1 default).1 i1 hour
  have hls:=Rf g (known g).1 hour i1
  have hm4:i1*(1+2*g.Acts.length)≤4*21:=Nat.mul_le_mul (by omega) (by omega)
  have hg1:∀ x,g1=some x→H.n≤x:=by
   obtain⟨vs,a1,a2,a3⟩:=R1
   exact a2
  refine A6z (by exact Bb) (R1.fr0 (by exact Bm)) (⟨us,GU,gu2,RU⟩:RS (h1.jn Gq) h1.n _ _ gu) (by simp only[A3];omega) (by omega) fun v' G' g' AP R'=>?_
  have FA:Fr H.n [] (h1.jn Gq) G':=AP.fr H.n (by simp only[A3];omega) hg1
  have FB:Fr H.n [] (H.upd (H.n+1) H.n (.cells [va,vb,vc,vh] 91 .ex)) G':=Fr.trans (B:=h1.jn Gq) (by exact Bm) FA
  have TA:=AP.top
  have o2:=R'.one
  have nA:=AP.n
  simp only[A3]at nA
  repeat'(first|((with_reducible refine hK _ _ fun e2 Aj=>?_);clear hK K;simp only[A20,Ag,Af,and_true,↓pb,An,Ko,hgo,hso,Am hG.p,Ab,irN,nrA,nrM,nrE,reduceIte,reduceCtorEq,nrL]at Aj;clear Ab;(try clear eg);have Ab:=Aj;clear Aj;rename Bi=>eg)|((first|((with_reducible first|apply Ac|apply Al|apply Ak);(simp(disch:=try exact dA) only[Bh,Ko,hgo,hso,Am hG.p,o2,Ab,irN,nrA,nrM,nrE,reduceIte,reduceCtorEq,nrL];with_reducible exact rfl))|(with_reducible first|refine Ai A20 fun K hK=>?_));try simp only[↓pb,↓pd,Bp,Ko,hgo,hso,Am hG.p,o2,Ab,irN,nrA,nrM,nrE,reduceIte,reduceCtorEq,nrL])|((with_reducible apply Au);(simp only[↓pb,An,Ko,hgo,hso,Am hG.p,o2,Ab,irN,nrA,nrM,nrE,reduceIte,reduceCtorEq,nrL];with_reducible exact rfl);all_goals(intro hc;(first|exact C8 hc|try simp only[C0]at hc)))|(with_reducible first|refine Az ?_|refine Ap ?_|refine At ?_|refine Ay ?_|refine Ax ?_|apply Ad)|((with_reducible apply Ae);(focus decide))|fail)
  refine⟨by omega,by simp only[↓pb,An,Ko,hgo,hso,Am hG.p,Ab,irN,nrA,nrM,nrE,reduceIte,reduceCtorEq,nrL];exact congrArg _ (Di (by omega)),by focus exact Bm, ?_⟩
  refine⟨v',g',by simp only[Ab], ?_⟩
  rw[Eh,hgx]
  exact R'
 ·have e1n:i1=g.Spots.length:=by omega
  subst e1n
  repeat'(first|((with_reducible refine hK _ _ fun e2 Aj=>?_);clear hK K;simp only[A20,Ag,Af,and_true,↓pb,An,Ko,hgo,hso,Am hG.p,Ab,irN,nrA,nrM,nrE,reduceIte,reduceCtorEq,nrL]at Aj;clear Ab;(try clear eg);have Ab:=Aj;clear Aj;rename Bi=>eg)|((first|((with_reducible first|apply Ac|apply Al|apply Ak);(simp(disch:=try exact dA) only[Bh,Ko,hgo,hso,Am hG.p,e4,r0,hgo,hso,Ab,irN,nrA,nrM,nrE,reduceIte,reduceCtorEq,nrL];with_reducible exact rfl))|((with_reducible apply Cy);(focus exact Bb);(simp only[↓pb,An,Ko,hgo,hso,Am hG.p,e4,r0,hgo,hso,Ab,irN,nrA,nrM,nrE,reduceIte,reduceCtorEq,nrL];exact f89 _ _ _ _ _ _ _ _ (by exact Bb) (G1.fr (N:=h1.n) (by exact Bm)) (hsk0 _ (by exact Bm)) (S1.fr (N:=h1.n) (by exact Bm)) ok el hll hho);(rintro vq Gq hq Fy ⟨us,gu,GU,gu2,bu,RU⟩;try simp only[Ao,A3]at hq))|(with_reducible first|refine Ai A20 fun K hK=>?_));try simp only[↓pb,↓pd,Bp,Ko,hgo,hso,Am hG.p,e4,r0,hgo,hso,Ab,irN,nrA,nrM,nrE,reduceIte,reduceCtorEq,nrL])|((with_reducible apply Au);(simp only[↓pb,An,Ko,hgo,hso,Am hG.p,e4,r0,hgo,hso,Ab,irN,nrA,nrM,nrE,reduceIte,reduceCtorEq,nrL];with_reducible exact rfl);all_goals(intro hc;(first|exact C8 hc|try simp only[C0]at hc)))|(with_reducible first|refine Az ?_|refine Ap ?_|refine At ?_|refine Ay ?_|refine Ax ?_|apply Ad)|((with_reducible apply Ae);(focus decide))|fail)
  refine⟨by first|exact .inl rfl|exact .inr rfl, ?_⟩
  rw[Nd Try.results68]
  simp only[↓pb,An,Ko,hgo,hso,Am hG.p,Bo,Bg,Ab,irN,nrA,nrM,nrE,reduceIte,reduceCtorEq,nrL]
  repeat ((with_reducible apply Ac);(simp(disch:=try exact dA) only[Bh,Ko,hgo,hso,Am hG.p,Ab,irN,nrA,nrM,nrE,reduceIte,reduceCtorEq,nrL];exact rfl))
  refine⟨⟨v1,_,g1,gu,rfl,R1.fr0 (by exact Bm),⟨us,GU,fun x hx=>Nat.le_trans hn01 (gu2 x hx),RU⟩, ?_⟩,(by exact Bm)⟩
  intro x hx hy
  have:=R1.gn x hx
  have:=gu2 x hy
  omega
end Go.Proofs.Swa
