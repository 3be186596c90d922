/- Part 15. -/
import Derived.Test.YtkjcijlaehflhaaP14
set_option maxRecDepth 20000
set_option linter.unusedVariables false
set_option linter.unusedSimpArgs false
namespace Go.Proofs.Swa
open Go
open Nat renaming reduceAdd → nrA, reduceMul → nrM, reduceEqDiff → nrE, reduceLT → nrL
open Int renaming reduceToNat → irN
attribute [local congr] Ja Gm I8 I9 Jb Hl Hm Hn
theorem A3Z (g:Cv)(d:M4)(spot hour age:Int)(n:Nat):Gg g d spot hour age (n+1)=(Gg g d spot hour age n || decide ((g.Acts.getD n default).Spot=spot) && decide (0<d.left.getD n 0) && decide (age<Dz (hour-(g.Acts.getD n default).Hour))):=by
 unfold Gg
 rw[List.range_succ,List.any_append]
 simp
set_option maxHeartbeats 4000000 in
theorem f39 (va vb vc vl vt:Value)(g:Cv)(left last:List Int)(spot hour age:Int)(H:Aa)(hT:C1 H)(hG:RG H va vb vc g)(S:SR H 1 left.length vl (Ck left))(ho:one vt)(hl:left.length≤g.Acts.length)(hm:left.length<1099511627776) :
  ∃ v H',C5 (.fn 39) #[.agg ⟨[vl,vt]⟩,.agg ⟨[va,vb,vc]⟩,iv spot,iv hour,iv age] H v H'∧v=.bool (Gg g ⟨left,last⟩ spot hour age left.length)∧Fr H.n [] H H':=by
 have l2:=hG.r.lt
 have l1:=S.lt
 refine Cl.ofW Try.func39 rfl (by kernel_rfl) (by rw[Try.ntmps39];exact Nat.le_of_ble_eq_true rfl) (by kernel_rfl) ?_
 have Ab:True:=trivial
 refine Jx [0,1,2,3,4] ?_
 intro eg Aj
 simp only[Ag,Af,and_true]at Aj
 try simp only[↓pb,An,Km,hG.one,S.one,ho,Bd S,Ab,irN,nrA,nrM,nrE,reduceIte,reduceCtorEq,nrL]at Aj
 replace Ab:=Aj;clear Aj
 repeat'(first|((with_reducible refine hK _ _ fun e2 Aj=>?_);clear hK K;simp only[A7g,Ag,Af,and_true,↓pb,An,Km,hG.one,S.one,ho,Bd S,Ab,irN,nrA,nrM,nrE,reduceIte,reduceCtorEq,nrL]at Aj;clear Ab;(try clear eg);have Ab:=Aj;clear Aj;rename Bi=>eg)|((first|((with_reducible first|apply Ac|apply Al|apply Ak);(simp(disch:=try exact dA) only[Bh,Km,hG.one,S.one,ho,Bd S,Ab,irN,nrA,nrM,nrE,reduceIte,reduceCtorEq,nrL];with_reducible exact rfl))|(with_reducible first|refine Ai A7g fun K hK=>?_));try simp only[↓pb,↓pd,Bp,Km,hG.one,S.one,ho,Bd S,Ab,irN,nrA,nrM,nrE,reduceIte,reduceCtorEq,nrL])|((first|((with_reducible first|apply Br|apply Bt);exact rfl)|(with_reducible apply Au));(simp only[↓pb,An,Km,hG.one,S.one,ho,Bd S,Ab,irN,nrA,nrM,nrE,reduceIte,reduceCtorEq,nrL];with_reducible exact rfl);all_goals(intro hc;(first|exact C8 hc|try simp only[C0]at hc);try((with_reducible apply E3);simp only[↓pb,↓pd,Bp,Km,hG.one,S.one,ho,Bd S,hc,Ab,irN,nrA,nrM,nrE,reduceIte,reduceCtorEq,nrL])))|(with_reducible first|refine Az ?_|refine Ap ?_|refine At ?_|refine Ay ?_|refine Ax ?_|apply Ad)|((with_reducible apply Ae);(focus decide))|fail)
 refine Db [2,3,4,5,6] (by kernel_rfl) 11 (left.length) (H.n) [] [] (fun i e h=>Gg g ⟨left,last⟩ spot hour age i=false) (by simp only[↓pb,An,Km,hG.one,S.one,ho,Bd S,Ab,irN,nrA,nrM,nrE,reduceIte,reduceCtorEq,nrL]) (by focus exact Bb) (H0:=H) (by focus exact Bm) (by intro b hb hlt;simp at hb ⊢;try omega) ?_ ?_
 rotate_left
 intro i1 e1 h1 hi1 D3 ei1 Ep D9 Mf Hh
 simp only[Ag,Af,and_true]at D3
 try simp only[↓pb,An,Km,hG.one,S.one,ho,Bd S,Ab,irN,nrA,nrM,nrE,reduceIte,reduceCtorEq,nrL]at D3
 have hn11:=Ep.n;have hn01:=D9.n;try simp only[Ao,A3]at hn11
 replace Ab:=B9p ei1 D3
 rotate_left
 ·rfl
 have S2:SR h1 1 left.length vl (left.map iv):=S.fr0 D9
 have G1:=hG.fr D9
 have l3:=S2.lt;have l4:=G1.r.lt
 have ra:h1.rd H.n=some [vl,vt]:=by
  rw[Ep.rd (b:=H.n) (by simp only[↓pb,An,Km,hG.one,S.one,ho,Bd S,Ab,irN,nrA,nrM,nrE,reduceIte,reduceCtorEq,nrL];omega) (by simp)]
  simp(disch:=try exact dA) only[Bh,Km,hG.one,S.one,ho,Bd S,Ab,irN,nrA,nrM,nrE,reduceIte,reduceCtorEq,nrL]
 have rb:h1.rd (H.n+1)=some [va,vb,vc]:=by
  rw[Ep.rd (b:=H.n+1) (by simp only[↓pb,An,Km,hG.one,S.one,ho,Bd S,Ab,irN,nrA,nrM,nrE,reduceIte,reduceCtorEq,nrL];omega) (by simp)]
  simp(disch:=try exact dA) only[Bh,Km,hG.one,S.one,ho,Bd S,Ab,irN,nrA,nrM,nrE,reduceIte,reduceCtorEq,nrL]
 by_cases hi2:i1<left.length
 ·have hsu:Gg g ⟨left,last⟩ spot hour age (i1+1)=(decide ((g.Acts.getD i1 default).Spot=spot) && decide (0<left.getD i1 0) && decide (age<IntKind.i64.wrap (hour-(g.Acts.getD i1 default).Hour))):=by
   rw[A3Z,Hh,Bool.false_or]
   rfl
  by_cases c1:(g.Acts.getD i1 default).Spot=spot <;> by_cases c2:0<left.getD i1 0 <;> by_cases c3:age<IntKind.i64.wrap (hour-(g.Acts.getD i1 default).Hour)
  all_goals(
   repeat'(first|((with_reducible refine hK _ _ fun e2 Aj=>?_);clear hK K;simp only[A7g,Ag,Af,and_true,↓pb,An,Km,hG.one,S.one,ho,Bd S,Ab,irN,nrA,nrM,nrE,reduceIte,reduceCtorEq,nrL]at Aj;clear Ab;(try clear eg);have Ab:=Aj;clear Aj;rename Bi=>eg)|((first|((with_reducible first|apply Ac|apply Al|apply Ak);(simp(disch:=try exact dA) only[Bh,Km,hG.one,S.one,ho,Bd S,c1,c2,c3,ra,rb,Bd S2,Eb S2,S2.rd,S2.el1 rfl,Ce G1.r,G1.r.rd,(G1.r.el Ba rfl),Bn,Ab,irN,nrA,nrM,nrE,reduceIte,reduceCtorEq,nrL];with_reducible exact rfl))|(with_reducible first|refine Ai A7g fun K hK=>?_));try simp only[↓pb,↓pd,Bp,Km,hG.one,S.one,ho,Bd S,c1,c2,c3,ra,rb,Bd S2,Eb S2,S2.rd,S2.el1 rfl,Ce G1.r,G1.r.rd,(G1.r.el Ba rfl),Bn,Ab,irN,nrA,nrM,nrE,reduceIte,reduceCtorEq,nrL])|((first|((with_reducible first|apply Br|apply Bt);exact rfl)|(with_reducible apply Au));(simp only[↓pb,An,Km,hG.one,S.one,ho,Bd S,c1,c2,c3,ra,rb,Bd S2,Eb S2,S2.rd,S2.el1 rfl,Ce G1.r,G1.r.rd,(G1.r.el Ba rfl),Bn,Ab,irN,nrA,nrM,nrE,reduceIte,reduceCtorEq,nrL];with_reducible exact rfl);all_goals(intro hc;(first|exact C8 hc|try simp only[C0]at hc);try((with_reducible apply E3);simp only[↓pb,↓pd,Bp,Km,hG.one,S.one,ho,Bd S,c1,c2,c3,ra,rb,Bd S2,Eb S2,S2.rd,S2.el1 rfl,Ce G1.r,G1.r.rd,(G1.r.el Ba rfl),Bn,hc,Ab,irN,nrA,nrM,nrE,reduceIte,reduceCtorEq,nrL])))|(with_reducible first|refine Az ?_|refine Ap ?_|refine At ?_|refine Ay ?_|refine Ax ?_|apply Ad)|((with_reducible apply Ae);(focus decide))|fail))
  ·refine⟨by first|exact .inl rfl|exact .inr rfl, ?_⟩
   rw[Ec Try.results39]
   simp only[↓pb,An,Km,hG.one,S.one,ho,Bd S,Bo,Bg,Ab,irN,nrA,nrM,nrE,reduceIte,reduceCtorEq,nrL]
   repeat ((with_reducible apply Ac);(simp(disch:=try exact dA) only[Bh,Km,hG.one,S.one,ho,Bd S,Ab,irN,nrA,nrM,nrE,reduceIte,reduceCtorEq,nrL];exact rfl))
   have:Gg g ⟨left,last⟩ spot hour age left.length=true:=List.any_eq_true.2 ⟨i1,List.mem_range.2 hi2,by simp only[Bool.and_eq_true,decide_eq_true_eq];exact⟨⟨c1,c2⟩,c3⟩⟩
   rw[this]
   refine⟨rfl, ?_⟩
   exact Bm
  all_goals(
  refine⟨by omega,by simp only[↓pb,An,Km,hG.one,S.one,ho,Bd S,Ab,irN,nrA,nrM,nrE,reduceIte,reduceCtorEq,nrL];exact congrArg _ (Di (by omega)),by focus exact Bm, ?_⟩
  rw[hsu]
  simp only[c1,c2,c3,decide_true,decide_false,Bool.and_false,Bool.false_and,Bool.and_true])
 ·have e1n:i1=left.length:=by omega
  subst e1n
  repeat'(first|((with_reducible refine hK _ _ fun e2 Aj=>?_);clear hK K;simp only[A7g,Ag,Af,and_true,↓pb,An,Km,hG.one,S.one,ho,Bd S,Ab,irN,nrA,nrM,nrE,reduceIte,reduceCtorEq,nrL]at Aj;clear Ab;(try clear eg);have Ab:=Aj;clear Aj;rename Bi=>eg)|((first|((with_reducible first|apply Ac|apply Al|apply Ak);(simp(disch:=try exact dA) only[Bh,Km,hG.one,S.one,ho,Bd S,ra,rb,Bd S2,Ab,irN,nrA,nrM,nrE,reduceIte,reduceCtorEq,nrL];with_reducible exact rfl))|(with_reducible first|refine Ai A7g fun K hK=>?_));try simp only[↓pb,↓pd,Bp,Km,hG.one,S.one,ho,Bd S,ra,rb,Bd S2,Ab,irN,nrA,nrM,nrE,reduceIte,reduceCtorEq,nrL])|((first|((with_reducible first|apply Br|apply Bt);exact rfl)|(with_reducible apply Au));(simp only[↓pb,An,Km,hG.one,S.one,ho,Bd S,ra,rb,Bd S2,Ab,irN,nrA,nrM,nrE,reduceIte,reduceCtorEq,nrL];with_reducible exact rfl);all_goals(intro hc;(first|exact C8 hc|try simp only[C0]at hc);try((with_reducible apply E3);simp only[↓pb,↓pd,Bp,Km,hG.one,S.one,ho,Bd S,ra,rb,Bd S2,hc,Ab,irN,nrA,nrM,nrE,reduceIte,reduceCtorEq,nrL])))|(with_reducible first|refine Az ?_|refine Ap ?_|refine At ?_|refine Ay ?_|refine Ax ?_|apply Ad)|((with_reducible apply Ae);(focus decide))|fail)
  refine⟨by first|exact .inl rfl|exact .inr rfl, ?_⟩
  rw[Ec Try.results39]
  simp only[↓pb,An,Km,hG.one,S.one,ho,Bd S,Bo,Bg,Ab,irN,nrA,nrM,nrE,reduceIte,reduceCtorEq,nrL]
  repeat ((with_reducible apply Ac);(simp(disch:=try exact dA) only[Bh,Km,hG.one,S.one,ho,Bd S,Ab,irN,nrA,nrM,nrE,reduceIte,reduceCtorEq,nrL];exact rfl))
  rw[Hh]
  refine⟨rfl, ?_⟩
  exact Bm
theorem Ix {p:Nat→Bool}{n:Nat}:(List.range (n+1)).any p=((List.range n).any p || p n):=by
 rw[List.range_succ,List.any_append]
 simp
theorem Yh {p:Nat→Bool}{n i:Nat}(hi:i<n)(h:p i=true):(List.range n).any p=true:=List.any_eq_true.2 ⟨i,List.mem_range.2 hi,h⟩
structure BkH (g:Cv)(truth:List Int)(B3 B7:Nat)(va vb vc vt vl vs:Value)(d:M4)(h:Aa):Prop where
 g3:h.get B3=.cells [va,vb,vc] 26 .ex
 g7:h.get B7=.cells [vl,vs] 61 .ex
 hG:RG h va vb vc g
 st:SR h 1 truth.length vt (Ck truth)
 sl:SR h 1 d.left.length vl (Ck d.left)
 ss:SR h 1 d.last.length vs (Ck d.last)
 bd:B3<h.n∧B7<h.n
theorem BkH.fr {g:Cv}{truth:List Int}{B3 B7:Nat}{va vb vc vt vl vs:Value}{d:M4}{N:Nat}{A B:Aa}(F:Fr N [] A B)(k:BkH g truth B3 B7 va vb vc vt vl vs d A):BkH g truth B3 B7 va vb vc vt vl vs d B:=by
 have:=F.n
 exact⟨by rw[F.old _ k.bd.1 (by simp)];exact k.g3,by rw[F.old _ k.bd.2 (by simp)];exact k.g7,k.hG.fr F,k.st.fr0 F,k.sl.fr0 F,k.ss.fr0 F,by have:=k.bd;omega⟩
theorem Sz (g:Cv)(truth:List Int)(a:Nat)(hour:Int):(Ct g truth a hour).left.length=g.Acts.length∧(Ct g truth a hour).last.length=g.Spots.length:=Od g truth _
theorem Da.lastLt {g:Cv}{truth:List Int}(T:Da g truth)(a:Nat)(hour:Int){j:Nat}(hj:j<g.Spots.length):-1≤(Ct g truth a hour).last.getD j 0∧(Ct g truth a hour).last.getD j 0<g.Acts.length:=by
 have hu:=E4 hour g.Acts
 have D:=T.day (n:=min a (B5 hour g.Acts)) (by omega)
 show -1≤(Cf g truth _).last.getD j 0∧(Cf g truth _).last.getD j 0<_
 rw[D.lst j hj]
 rcases Qb j g.Acts (min a (B5 hour g.Acts)) with⟨q,_⟩|⟨q1,q2,_⟩ <;> omega
set_option maxHeartbeats 4000000 in
theorem f80 (va vb vc vt:Value)(g:Cv)(truth:List Int)(hour:Int)(H:Aa)(hT:C1 H)(hG:RG H va vb vc g)(S:SR H 1 truth.length vt (Ck truth))(T:Da g truth) :
  ∃ v H',C5 (.fn 80) #[.agg ⟨[va,vb,vc]⟩,vt,iv hour] H v H'∧v=.bool (G8 g truth hour)∧Fr H.n [] H H':=by
 have hgo:=hG.one
 have hl:=T.len
 have h10:=T.ok.acts
 have hsl:=T.ok.spots
 have hso:=T.ok.sorts
 have hsp:=T.few.spot
 have hto:=S.one
 obtain⟨d,hd⟩:∃ d,d=Ct g truth g.Acts.length hour:=⟨_,rfl⟩
 have f35':=fun(a:Nat) (ha:a≤g.Acts.length) (h:Aa) (hTh:C1 h) (hF:Fr H.n [] H h)=>f35 va vb vc vt g truth a hour h hTh (hG.fr hF) (S.fr0 hF) (by omega) ha (by omega) (by omega) hsp
 refine Cl.ofW Try.func80 rfl (by kernel_rfl) (by rw[Try.ntmps80];exact Nat.le_of_ble_eq_true rfl) (by kernel_rfl) ?_
 have Ab:True:=trivial
 refine Jx [0,1,2] ?_
 intro eg Aj
 simp only[Ag,Af,and_true]at Aj
 try simp only[↓pb,An,C2,hgo,hto,Ah hG.r,Ab,irN,nrA,nrM,nrE,reduceIte,reduceCtorEq,nrL]at Aj
 replace Ab:=Aj;clear Aj
 repeat'(first|((with_reducible refine hK _ _ fun e2 Aj=>?_);clear hK K;simp only[Hx,Ag,Af,and_true,↓pb,An,C2,hgo,hto,Ah hG.r,Ab,irN,nrA,nrM,nrE,reduceIte,reduceCtorEq,nrL]at Aj;clear Ab;(try clear eg);have Ab:=Aj;clear Aj;rename Bi=>eg)|((first|((with_reducible first|apply Ac|apply Al|apply Ak);(simp(disch:=try exact dA) only[Bh,C2,hgo,hto,Ah hG.r,Ab,irN,nrA,nrM,nrE,reduceIte,reduceCtorEq,nrL];with_reducible exact rfl))|((with_reducible first|apply Ar|apply As|apply Aq);(focus exact Ee))|((with_reducible apply Cy);(focus exact Bb);(simp only[↓pb,An,C2,hgo,hto,Ah hG.r,Ab,irN,nrA,nrM,nrE,reduceIte,reduceCtorEq,nrL];exact f35' g.Acts.length (Nat.le_refl _) _ (by exact Bb) (by exact Bm));(rintro vq Gq hq Fy ⟨vl,vs,rfl,Sl,Ss⟩;try simp only[Ao,A3]at hq))|(with_reducible first|refine Ai Hx fun K hK=>?_|refine Aw Hx fun K hK=>?_));try simp only[↓pb,↓pd,Bp,C2,hgo,hto,Ah hG.r,Ab,irN,nrA,nrM,nrE,reduceIte,reduceCtorEq,nrL])|((first|((with_reducible first|apply Br|apply Bt|apply Cc|apply Cd);exact rfl)|(with_reducible apply Au));(simp only[↓pb,An,C2,hgo,hto,Ah hG.r,Ab,irN,nrA,nrM,nrE,reduceIte,reduceCtorEq,nrL];with_reducible exact rfl);all_goals(intro hc;(first|exact C8 hc|try simp only[C0]at hc);try((with_reducible first|apply E3|apply Ge);simp only[↓pb,↓pd,Bp,C2,hgo,hto,Ah hG.r,hc,Ab,irN,nrA,nrM,nrE,reduceIte,reduceCtorEq,nrL])))|(with_reducible first|refine Az ?_|refine Ap ?_|refine At ?_|refine Ay ?_|refine Ax ?_|apply Ad)|((with_reducible apply Ae);(focus decide))|fail)
 rw[← hd]at Sl Ss
 obtain⟨hdl,hdt⟩:=Sz g truth g.Acts.length hour
 rw[← hd]at hdl hdt
 rw[← hdl]at Sl
 rw[← hdt]at Ss
 refine Ga (N:=H.n) (X:=[]) (h0:=H) (fun h=>BkH g truth H.n Gq.n va vb vc vt vl vs d h∧C1 h) (by exact Bm) ⟨⟨by simp(disch:=try exact dA) only[Bh,C2,hgo,hto,Ah hG.r,Ab,irN,nrA,nrM,nrE,reduceIte,reduceCtorEq,nrL],by simp(disch:=try exact dA) only[Bh,C2,hgo,hto,Ah hG.r,Ab,irN,nrA,nrM,nrE,reduceIte,reduceCtorEq,nrL],hG.fr (N:=H.n) (by exact Bm),S.fr0 (N:=H.n) (by exact Bm),Sl.fr0 (N:=0) (by exact Bm),Ss.fr0 (N:=0) (by exact Bm),by simp only[↓pb,An,C2,hgo,hto,Ah hG.r,Ab,irN,nrA,nrM,nrE,reduceIte,reduceCtorEq,nrL];omega,by simp only[↓pb,An,C2,hgo,hto,Ah hG.r,Ab,irN,nrA,nrM,nrE,reduceIte,reduceCtorEq,nrL];omega⟩,(by exact Bb)⟩ ?_
 rintro h2 F2 ⟨k2,T2⟩
 obtain⟨B,hB⟩:∃ B,B=Gq.n:=⟨_,rfl⟩
 rw[← hB]at k2 Ab
 clear Sl Ss hq Fy hB
 have odl:=k2.sl.one
 have ods:=k2.ss.one
 refine Db [1,2,3,7] (by kernel_rfl) 8 (g.Acts.length) (H.n) [] [] (fun i e h=>(List.range i).any (Rc g truth d hour)=false) (by simp only[↓pb,An,C2,hgo,hto,Ah hG.r,Ab,irN,nrA,nrM,nrE,reduceIte,reduceCtorEq,nrL]) (by focus exact Bb) (H0:=H) (by focus exact Bm) (by intro b hb hlt;simp at hb ⊢;try omega) ?_ ?_
 rotate_left
 intro i3 e3 h3 hi3 hE3 ei3 hF3 Yj B6s hJ3
 simp only[Ag,Af,and_true]at hE3
 try simp only[↓pb,An,C2,hgo,hto,Ah hG.r,Ab,irN,nrA,nrM,nrE,reduceIte,reduceCtorEq,nrL]at hE3
 have hn13:=hF3.n;have hn03:=Yj.n;try simp only[Ao,A3]at hn13
 replace Ab:=B9p ei3 hE3
 rotate_left
 ·rfl
 have F3:Fr H.n [] H h3:=Yj
 have k3:=k2.fr hF3
 have q3:h3.rd H.n=some [va,vb,vc]:=by rw[Bf,k3.g3];rfl
 have z3:=k3.g3
 have p3:=k3.hG.r
 have y3:=p3.lt
 by_cases hi3':i3<g.Acts.length
 ·obtain⟨_,A⟩:=T.ok.at hi3'
  have hk:=A.k
  have hs:=A.s
  obtain⟨a,haa⟩:∃ a,a=g.Acts.getD i3 default:=⟨_,rfl⟩
  have heA:Bn (g.Acts.getD i3 default)=Bn a:=by rw[haa]
  repeat'(first|((with_reducible refine hK _ _ fun e2 Aj=>?_);clear hK K;simp only[Hx,Ag,Af,and_true,↓pb,An,C2,hgo,hto,Ah hG.r,Ab,irN,nrA,nrM,nrE,reduceIte,reduceCtorEq,nrL]at Aj;clear Ab;(try clear eg);have Ab:=Aj;clear Aj;rename Bi=>eg)|((first|((with_reducible first|apply Ac|apply Al|apply Ak);(simp(disch:=try exact dA) only[Bh,C2,hgo,hto,Ah hG.r,q3,z3,Ah p3,Ce p3,p3.rd,(p3.el Ba rfl),heA,p3.mapB,hgo,Ab,irN,nrA,nrM,nrE,reduceIte,reduceCtorEq,nrL];with_reducible exact rfl))|((with_reducible first|apply Ar|apply As|apply Aq);(focus exact Ee))|(with_reducible first|refine Eu Hx [6] fun K hK=>?_|refine Fx Hx [6] fun K hK=>?_));try simp only[↓pb,↓pd,Bp,C2,hgo,hto,Ah hG.r,q3,z3,Ah p3,Ce p3,p3.rd,(p3.el Ba rfl),heA,p3.mapB,hgo,Ab,irN,nrA,nrM,nrE,reduceIte,reduceCtorEq,nrL])|((first|((with_reducible first|apply Br|apply Bt|apply Cc|apply Cd);exact rfl)|(with_reducible apply Au));(simp only[↓pb,An,C2,hgo,hto,Ah hG.r,q3,z3,Ah p3,Ce p3,p3.rd,(p3.el Ba rfl),heA,p3.mapB,hgo,Ab,irN,nrA,nrM,nrE,reduceIte,reduceCtorEq,nrL];with_reducible exact rfl);all_goals(intro hc;(first|exact C8 hc|try simp only[C0]at hc);try((with_reducible first|apply E3|apply Ge);simp only[↓pb,↓pd,Bp,C2,hgo,hto,Ah hG.r,q3,z3,Ah p3,Ce p3,p3.rd,(p3.el Ba rfl),heA,p3.mapB,hgo,hc,Ab,irN,nrA,nrM,nrE,reduceIte,reduceCtorEq,nrL])))|(with_reducible first|refine Az ?_|refine Ap ?_|refine At ?_|refine Ay ?_|refine Ax ?_|apply Ad)|((with_reducible apply Ae);(focus decide))|fail)
  have el4:=Ba a
  refine Ga (N:=H.n) (X:=[]) (h0:=h2) (fun h=>BkH g truth H.n B va vb vc vt vl vs d h∧h.get h3.n=.cells (Bn a) 30 .ex∧h3.n<h.n∧C1 h) (by exact Bm) ⟨k3.fr (N:=h3.n) (by exact Bm),by simp(disch:=try exact dA) only[Bh,C2,hgo,hto,Ah hG.r,Ab,irN,nrA,nrM,nrE,reduceIte,reduceCtorEq,nrL],by simp only[↓pb,An,C2,hgo,hto,Ah hG.r,Ab,irN,nrA,nrM,nrE,reduceIte,reduceCtorEq,nrL];omega,(by exact Bb)⟩ ?_
  rintro h4 F24 ⟨k4,ga,n4,T4⟩
  have q4:h4.rd H.n=some [va,vb,vc]:=by rw[Bf,k4.g3];rfl
  have z4:=k4.g3
  have q7:h4.rd B=some [vl,vs]:=by rw[Bf,k4.g7];rfl
  have z7:=k4.g7
  have qa:h4.rd h3.n=some (Bn a):=by rw[Bf,ga];rfl
  have Sl4:SR h4 1 d.left.length vl (d.left.map iv):=k4.sl
  have hq4:=k4.hG.q
  have y4:=hq4.lt
  have yl4:=Sl4.lt
  rw[← haa]at hk hs
  refine Xz (fun e h=>h=h4∧e 53=.bool (Tz g d hour i3)∧e 1=vt∧e 2=iv hour∧e 3=Bc H.n 0∧e 7=Bc B 0∧e 8=iv i3∧e 9=Bc h3.n 0) ?_ ?_
  ·simp only[↓pb,↓pd,Bp,C2,hgo,hto,Ah hG.r,Ab,irN,nrA,nrM,nrE,reduceIte,reduceCtorEq,nrL]
   have hbo:Tz g d hour i3=(decide (0<d.left.getD i3 0) && decide ((g.Sorts.getD a.Kind.toNat default).Age<IntKind.i64.wrap (hour-a.Hour))):=by rw[haa];rfl
   rw[hbo]
   have hdf:d.left.getD i3 default=d.left.getD i3 0:=rfl
   by_cases c1:0<d.left.getD i3 0
   all_goals(
    repeat'(first|((with_reducible refine hK _ _ fun e2 Aj=>?_);clear hK K;simp only[Hx,Ag,Af,and_true,↓pb,An,C2,hgo,hto,Ah hG.r,Ab,irN,nrA,nrM,nrE,reduceIte,reduceCtorEq,nrL]at Aj;clear Ab;(try clear eg);have Ab:=Aj;clear Aj;rename Bi=>eg)|((first|((with_reducible first|apply Ac|apply Al|apply Ak);(simp(disch:=try exact dA) only[Bh,C2,hgo,hto,Ah hG.r,c1,hdf,q4,z4,q7,z7,qa,ga,Bn,Eb Sl4,Sl4.rd,Sl4.el1 rfl,Sl4.mapB,Fo hq4,hq4.rd,(hq4.el Cz rfl),Fs,hq4.mapB,decide_true,decide_false,Bool.true_and,Bool.false_and,Ab,irN,nrA,nrM,nrE,reduceIte,reduceCtorEq,nrL];with_reducible exact rfl))|((with_reducible first|apply Ar|apply As|apply Aq);(focus exact Ee))|(with_reducible first|refine Ai Hx fun K hK=>?_|refine Aw Hx fun K hK=>?_));try simp only[↓pb,↓pd,Bp,C2,hgo,hto,Ah hG.r,c1,hdf,q4,z4,q7,z7,qa,ga,Bn,Eb Sl4,Sl4.rd,Sl4.el1 rfl,Sl4.mapB,Fo hq4,hq4.rd,(hq4.el Cz rfl),Fs,hq4.mapB,decide_true,decide_false,Bool.true_and,Bool.false_and,Ab,irN,nrA,nrM,nrE,reduceIte,reduceCtorEq,nrL])|((first|((with_reducible first|apply Br|apply Bt|apply Cc|apply Cd);exact rfl)|(with_reducible apply Au));(simp only[↓pb,An,C2,hgo,hto,Ah hG.r,c1,hdf,q4,z4,q7,z7,qa,ga,Bn,Eb Sl4,Sl4.rd,Sl4.el1 rfl,Sl4.mapB,Fo hq4,hq4.rd,(hq4.el Cz rfl),Fs,hq4.mapB,decide_true,decide_false,Bool.true_and,Bool.false_and,Ab,irN,nrA,nrM,nrE,reduceIte,reduceCtorEq,nrL];with_reducible exact rfl);all_goals(intro hc;(first|exact C8 hc|try simp only[C0]at hc);try((with_reducible first|apply E3|apply Ge);simp only[↓pb,↓pd,Bp,C2,hgo,hto,Ah hG.r,c1,hdf,q4,z4,q7,z7,qa,ga,Bn,Eb Sl4,Sl4.rd,Sl4.el1 rfl,Sl4.mapB,Fo hq4,hq4.rd,(hq4.el Cz rfl),Fs,hq4.mapB,decide_true,decide_false,Bool.true_and,Bool.false_and,hc,Ab,irN,nrA,nrM,nrE,reduceIte,reduceCtorEq,nrL])))|(with_reducible first|refine Az ?_|refine Ap ?_|refine At ?_|refine Ay ?_|refine Ax ?_|apply Ad)|((with_reducible apply Ae);(focus decide))|fail))
  rintro e6 h6 ⟨rfl,g53,g1,g2,g3,g7,g8,g9⟩
  have Ab:=B9p g53 (B9p g1 (B9p g2 (B9p g3 (B9p g7 (B9p g8 g9)))))
  clear g53 g1 g2 g3 g7 g8 g9
  have F06:Fr H.n [] H h6:=Fr.trans F2 F24
  repeat'(first|((with_reducible refine hK _ _ fun e2 Aj=>?_);clear hK K;simp only[Hx,Ag,Af,and_true,↓pb,An,C2,hgo,hto,Ah hG.r,Ab,irN,nrA,nrM,nrE,reduceIte,reduceCtorEq,nrL]at Aj;clear Ab;(try clear eg);have Ab:=Aj;clear Aj;rename Bi=>eg)|((first|((with_reducible first|apply Ac|apply Al|apply Ak);(simp(disch:=try exact dA) only[Bh,C2,hgo,hto,Ah hG.r,q4,z4,hgo,hto,Ab,irN,nrA,nrM,nrE,reduceIte,reduceCtorEq,nrL];with_reducible exact rfl))|((with_reducible first|apply Ar|apply As|apply Aq);(focus exact Ee))|((with_reducible apply Cy);(focus exact Bb);(simp only[↓pb,An,C2,hgo,hto,Ah hG.r,q4,z4,hgo,hto,Ab,irN,nrA,nrM,nrE,reduceIte,reduceCtorEq,nrL];exact f35' i3 (Nat.le_of_lt hi3') _ (by exact Bb) (by exact Bm));(rintro vq Gq hq Fy ⟨bl,bs,rfl,Bl,Bs⟩;try simp only[Ao,A3]at hq))|(with_reducible first|refine Eu Hx [9] fun K hK=>?_|refine Fx Hx [9] fun K hK=>?_));try simp only[↓pb,↓pd,Bp,C2,hgo,hto,Ah hG.r,q4,z4,hgo,hto,Ab,irN,nrA,nrM,nrE,reduceIte,reduceCtorEq,nrL])|((first|((with_reducible first|apply Br|apply Bt|apply Cc|apply Cd);exact rfl)|(with_reducible apply Au));(simp only[↓pb,An,C2,hgo,hto,Ah hG.r,q4,z4,hgo,hto,Ab,irN,nrA,nrM,nrE,reduceIte,reduceCtorEq,nrL];with_reducible exact rfl);all_goals(intro hc;(first|exact C8 hc|try simp only[C0]at hc);try((with_reducible first|apply E3|apply Ge);simp only[↓pb,↓pd,Bp,C2,hgo,hto,Ah hG.r,q4,z4,hgo,hto,hc,Ab,irN,nrA,nrM,nrE,reduceIte,reduceCtorEq,nrL])))|(with_reducible first|refine Az ?_|refine Ap ?_|refine At ?_|refine Ay ?_|refine Ax ?_|apply Ad)|((with_reducible apply Ae);(focus decide))|fail)
  ·refine⟨by first|exact .inl rfl|exact .inr rfl, ?_⟩
   rw[Ec Try.results80]
   simp only[↓pb,An,C2,hgo,hto,Ah hG.r,Bo,Bg,Ab,irN,nrA,nrM,nrE,reduceIte,reduceCtorEq,nrL]
   repeat ((with_reducible apply Ac);(simp(disch:=try exact dA) only[Bh,C2,hgo,hto,Ah hG.r,Ab,irN,nrA,nrM,nrE,reduceIte,reduceCtorEq,nrL];exact rfl))
   have hbr:G8 g truth hour=true:=by
    unfold G8
    rw[← hd,Yh hi3' (by unfold Rc;rw[hc];rfl)]
    rfl
   rw[hbr]
   exact⟨rfl,F06⟩
  ·have hb1:Tz g d hour i3=false:=by assumption
   obtain⟨b,hb⟩:∃ b,b=Ct g truth i3 hour:=⟨_,rfl⟩
   obtain⟨hbl,hbt⟩:=Sz g truth i3 hour
   have hlst:=T.lastLt i3 hour (j:=a.Spot.toNat) (by omega)
   rw[← hb]at Bl Bs hbl hbt hlst
   rw[← hbl]at Bl
   rw[← hbt]at Bs
   refine Ga (N:=H.n) (X:=[]) (h0:=h2) (fun h=>BkH g truth H.n B va vb vc vt vl vs d h∧BkH g truth H.n Gq.n va vb vc vt bl bs b h∧h.get h3.n=.cells (Bn a) 30 .ex∧h3.n<h.n∧C1 h) (by exact Bm) ⟨k4.fr (N:=h6.n) (by exact Bm),⟨by simp(disch:=try exact dA) only[Bh,C2,hgo,hto,Ah hG.r,Ab,irN,nrA,nrM,nrE,reduceIte,reduceCtorEq,nrL];exact z4,by simp(disch:=try exact dA) only[Bh,C2,hgo,hto,Ah hG.r,Ab,irN,nrA,nrM,nrE,reduceIte,reduceCtorEq,nrL],k4.hG.fr (N:=h6.n) (by exact Bm),k4.st.fr0 (N:=h6.n) (by exact Bm),Bl.fr0 (N:=0) (by exact Bm),Bs.fr0 (N:=0) (by exact Bm),by have:=k4.bd;simp only[↓pb,An,C2,hgo,hto,Ah hG.r,Ab,irN,nrA,nrM,nrE,reduceIte,reduceCtorEq,nrL];omega,by simp only[↓pb,An,C2,hgo,hto,Ah hG.r,Ab,irN,nrA,nrM,nrE,reduceIte,reduceCtorEq,nrL];omega⟩,by simp(disch:=try exact dA) only[Bh,C2,hgo,hto,Ah hG.r,Ab,irN,nrA,nrM,nrE,reduceIte,reduceCtorEq,nrL];exact ga,by simp only[↓pb,An,C2,hgo,hto,Ah hG.r,Ab,irN,nrA,nrM,nrE,reduceIte,reduceCtorEq,nrL];omega,(by exact Bb)⟩ ?_
   rintro h7 F27 ⟨k7,kb,ga7,n7,T7⟩
   obtain⟨B2,hB2⟩:∃ B,B=Gq.n:=⟨_,rfl⟩
   rw[← hB2]at kb Ab
   clear Bl Bs hq Fy hB2
   have q7:h7.rd H.n=some [va,vb,vc]:=by rw[Bf,k7.g3];rfl
   have z7:=k7.g3
   have qb:h7.rd B2=some [bl,bs]:=by rw[Bf,kb.g7];rfl
   have zb:=kb.g7
   have qa7:h7.rd h3.n=some (Bn a):=by rw[Bf,ga7];rfl
   have Bs7:SR h7 1 b.last.length bs (b.last.map iv):=kb.ss
   have obs:=kb.ss.one
   have obl:=kb.sl.one
   have p7:=k7.hG.r
   have y7:=p7.lt
   have yb:=Bs7.lt
   have hms:∀ x:Int,Lf g.Acts b.left x b.left.length=b.mass g x:=fun x=>rfl
   have hdf:b.last.getD a.Spot.toNat default=b.last.getD a.Spot.toNat 0:=rfl
   have hbm:T9 g b hour i3=(decide (a.Hour=hour) && !a.Take && decide (0≤b.last.getD a.Spot.toNat 0) && decide ((g.Acts.getD (b.last.getD a.Spot.toNat 0).toNat default).Kind≠a.Kind) && decide (0<b.mass g a.Spot)):=by rw[haa];rfl
   obtain⟨lt,hlt⟩:∃ lt,lt=b.last.getD a.Spot.toNat 0:=⟨_,rfl⟩
   rw[← hlt]at hdf hlst hbm
   refine Xz (fun e h=>e 100=.bool (T9 g b hour i3)∧e 1=vt∧e 2=iv hour∧e 3=Bc H.n 0∧e 7=Bc B 0∧e 8=iv i3∧Fr h7.n [] h7 h∧C1 h) ?_ ?_
   ·simp only[↓pb,↓pd,Bp,C2,hgo,hto,Ah hG.r,Ab,irN,nrA,nrM,nrE,reduceIte,reduceCtorEq,nrL]
    rw[hbm]
    have hos:a.Spot<b.last.length:=by omega
    have five:¬ a.Hour=hour∨(a.Hour=hour∧a.Take=true)∨(a.Hour=hour∧a.Take=false∧¬ 0≤lt)∨(a.Hour=hour∧a.Take=false∧0≤lt∧(g.Acts.getD lt.toNat default).Kind=a.Kind)∨(a.Hour=hour∧a.Take=false∧0≤lt∧¬ (g.Acts.getD lt.toNat default).Kind=a.Kind):=by
     by_cases c3:a.Hour=hour
     ·cases c4:a.Take with
      | true=>exact .inr (.inl ⟨c3,rfl⟩)
      | false =>
       by_cases c5:0≤lt
       ·by_cases c6:(g.Acts.getD lt.toNat default).Kind=a.Kind
        ·exact .inr (.inr (.inr (.inl ⟨c3,rfl,c5,c6⟩)))
        ·exact .inr (.inr (.inr (.inr ⟨c3,rfl,c5,c6⟩)))
       ·exact .inr (.inr (.inl ⟨c3,rfl,c5⟩))
     ·exact .inl c3
    rcases five with cc|cc|cc|cc|cc
    all_goals(
     repeat'(first|((with_reducible refine hK _ _ fun e2 Aj=>?_);clear hK K;simp only[Hx,Ag,Af,and_true,↓pb,An,C2,hgo,hto,Ah hG.r,Ab,irN,nrA,nrM,nrE,reduceIte,reduceCtorEq,nrL]at Aj;clear Ab;(try clear eg);have Ab:=Aj;clear Aj;rename Bi=>eg)|((first|((with_reducible first|apply Ac|apply Al|apply Ak);(simp(disch:=try exact dA) only[Bh,C2,hgo,hto,Ah hG.r,cc,hdf,q7,z7,qb,zb,qa7,ga7,Bn,Eb Bs7,Bs7.rd,Bs7.el1 rfl,Bs7.mapB,Ce p7,p7.rd,(p7.el Ba rfl),p7.mapB,hgo,obs,obl,hms,ne_eq,not_true_eq_false,not_false_eq_true,decide_false,decide_true,Ab,irN,nrA,nrM,nrE,reduceIte,reduceCtorEq,nrL];with_reducible exact rfl))|((with_reducible first|apply Ar|apply As|apply Aq);(focus exact Ee))|((with_reducible apply Bz);(focus exact Bb);(simp only[↓pb,An,C2,hgo,hto,Ah hG.r,cc,hdf,q7,z7,qb,zb,qa7,ga7,Bn,Eb Bs7,Bs7.rd,Bs7.el1 rfl,Bs7.mapB,Ce p7,p7.rd,(p7.el Ba rfl),p7.mapB,hgo,obs,obl,hms,ne_eq,not_true_eq_false,not_false_eq_true,decide_false,decide_true,Ab,irN,nrA,nrM,nrE,reduceIte,reduceCtorEq,nrL];(exact f37 _ _ _ _ _ _ _ _ _ (by exact Bb) (kb.fr (N:=h7.n) (by exact Bm)).hG (kb.fr (N:=h7.n) (by exact Bm)).sl obs (by omega) (by omega)));(intro Gq hq Fy;try simp only[Ao,A3]at hq))|(with_reducible first|refine Ai Hx fun K hK=>?_|refine Aw Hx fun K hK=>?_));try simp only[↓pb,↓pd,Bp,C2,hgo,hto,Ah hG.r,cc,hdf,q7,z7,qb,zb,qa7,ga7,Bn,Eb Bs7,Bs7.rd,Bs7.el1 rfl,Bs7.mapB,Ce p7,p7.rd,(p7.el Ba rfl),p7.mapB,hgo,obs,obl,hms,ne_eq,not_true_eq_false,not_false_eq_true,decide_false,decide_true,Ab,irN,nrA,nrM,nrE,reduceIte,reduceCtorEq,nrL])|((first|((with_reducible first|apply Br|apply Bt|apply Cc|apply Cd);exact rfl)|(with_reducible apply Au));(simp only[↓pb,An,C2,hgo,hto,Ah hG.r,cc,hdf,q7,z7,qb,zb,qa7,ga7,Bn,Eb Bs7,Bs7.rd,Bs7.el1 rfl,Bs7.mapB,Ce p7,p7.rd,(p7.el Ba rfl),p7.mapB,hgo,obs,obl,hms,ne_eq,not_true_eq_false,not_false_eq_true,decide_false,decide_true,Ab,irN,nrA,nrM,nrE,reduceIte,reduceCtorEq,nrL];with_reducible exact rfl);all_goals(intro hc;(first|exact C8 hc|try simp only[C0]at hc);try((with_reducible first|apply E3|apply Ge);simp only[↓pb,↓pd,Bp,C2,hgo,hto,Ah hG.r,cc,hdf,q7,z7,qb,zb,qa7,ga7,Bn,Eb Bs7,Bs7.rd,Bs7.el1 rfl,Bs7.mapB,Ce p7,p7.rd,(p7.el Ba rfl),p7.mapB,hgo,obs,obl,hms,ne_eq,not_true_eq_false,not_false_eq_true,decide_false,decide_true,hc,Ab,irN,nrA,nrM,nrE,reduceIte,reduceCtorEq,nrL])))|(with_reducible first|refine Az ?_|refine Ap ?_|refine At ?_|refine Ay ?_|refine Ax ?_|apply Ad)|((with_reducible apply Ae);(focus decide))|fail))
    all_goals exact⟨by simp[cc],(by exact Bm),(by exact Bb)⟩
   have hba:Rc g truth d hour i3=T9 g b hour i3:=by
    unfold Rc
    rw[hb1,← hb]
    rfl
   clear hbm hdf hlst hms
   rintro e8 h8 ⟨g100,g1,g2,g3,g7,g8,F78,T8⟩
   have Ab:=B9p g100 (B9p g1 (B9p g2 (B9p g3 (B9p g7 g8))))
   clear g100 g1 g2 g3 g7 g8
   have F28:Fr H.n [] h2 h8:=Fr.call F27 F78 (Fr.trans F2 F27).n
   repeat'(first|((with_reducible refine hK _ _ fun e2 Aj=>?_);clear hK K;simp only[Hx,Ag,Af,and_true,↓pb,An,C2,hgo,hto,Ah hG.r,Ab,irN,nrA,nrM,nrE,reduceIte,reduceCtorEq,nrL]at Aj;clear Ab;(try clear eg);have Ab:=Aj;clear Aj;rename Bi=>eg)|((first|((with_reducible first|apply Ac|apply Al|apply Ak);(simp(disch:=try exact dA) only[Bh,C2,hgo,hto,Ah hG.r,Ab,irN,nrA,nrM,nrE,reduceIte,reduceCtorEq,nrL];with_reducible exact rfl))|((with_reducible first|apply Ar|apply As|apply Aq);(focus exact Ee))|(with_reducible first|refine Ai Hx fun K hK=>?_|refine Aw Hx fun K hK=>?_));try simp only[↓pb,↓pd,Bp,C2,hgo,hto,Ah hG.r,Ab,irN,nrA,nrM,nrE,reduceIte,reduceCtorEq,nrL])|((first|((with_reducible first|apply Br|apply Bt|apply Cc|apply Cd);exact rfl)|(with_reducible apply Au));(simp only[↓pb,An,C2,hgo,hto,Ah hG.r,Ab,irN,nrA,nrM,nrE,reduceIte,reduceCtorEq,nrL];with_reducible exact rfl);all_goals(intro hc;(first|exact C8 hc|try simp only[C0]at hc);try((with_reducible first|apply E3|apply Ge);simp only[↓pb,↓pd,Bp,C2,hgo,hto,Ah hG.r,hc,Ab,irN,nrA,nrM,nrE,reduceIte,reduceCtorEq,nrL])))|(with_reducible first|refine Az ?_|refine Ap ?_|refine At ?_|refine Ay ?_|refine Ax ?_|apply Ad)|((with_reducible apply Ae);(focus decide))|fail)
   ·refine⟨by first|exact .inl rfl|exact .inr rfl, ?_⟩
    rw[Ec Try.results80]
    simp only[↓pb,An,C2,hgo,hto,Ah hG.r,Bo,Bg,Ab,irN,nrA,nrM,nrE,reduceIte,reduceCtorEq,nrL]
    repeat ((with_reducible apply Ac);(simp(disch:=try exact dA) only[Bh,C2,hgo,hto,Ah hG.r,Ab,irN,nrA,nrM,nrE,reduceIte,reduceCtorEq,nrL];exact rfl))
    have hbr:G8 g truth hour=true:=by
     unfold G8
     rw[← hd,Yh hi3' (by rw[hba,hc])]
     rfl
    rw[hbr]
    exact⟨rfl,Fr.trans F2 F28⟩
   ·refine⟨by omega,by simp only[↓pb,An,C2,hgo,hto,Ah hG.r,Ab,irN,nrA,nrM,nrE,reduceIte,reduceCtorEq,nrL];exact congrArg _ (Di (by omega)),by focus exact Bm, ?_⟩
    rw[Ix,hJ3,hba,hc]
    rfl
 ·have e3n:i3=g.Acts.length:=by omega
  rw[e3n]at hJ3
  repeat'(first|((with_reducible refine hK _ _ fun e2 Aj=>?_);clear hK K;simp only[Hx,Ag,Af,and_true,↓pb,An,C2,hgo,hto,Ah hG.r,Ab,irN,nrA,nrM,nrE,reduceIte,reduceCtorEq,nrL]at Aj;clear Ab;(try clear eg);have Ab:=Aj;clear Aj;rename Bi=>eg)|((first|((with_reducible first|apply Ac|apply Al|apply Ak);(simp(disch:=try exact dA) only[Bh,C2,hgo,hto,Ah hG.r,q3,z3,Ah p3,p3.mapB,hgo,Ab,irN,nrA,nrM,nrE,reduceIte,reduceCtorEq,nrL];with_reducible exact rfl))|((with_reducible first|apply Ar|apply As|apply Aq);(focus exact Ee))|(with_reducible first|refine Ai Hx fun K hK=>?_|refine Aw Hx fun K hK=>?_));try simp only[↓pb,↓pd,Bp,C2,hgo,hto,Ah hG.r,q3,z3,Ah p3,p3.mapB,hgo,Ab,irN,nrA,nrM,nrE,reduceIte,reduceCtorEq,nrL])|((first|((with_reducible first|apply Br|apply Bt|apply Cc|apply Cd);exact rfl)|(with_reducible apply Au));(simp only[↓pb,An,C2,hgo,hto,Ah hG.r,q3,z3,Ah p3,p3.mapB,hgo,Ab,irN,nrA,nrM,nrE,reduceIte,reduceCtorEq,nrL];with_reducible exact rfl);all_goals(intro hc;(first|exact C8 hc|try simp only[C0]at hc);try((with_reducible first|apply E3|apply Ge);simp only[↓pb,↓pd,Bp,C2,hgo,hto,Ah hG.r,q3,z3,Ah p3,p3.mapB,hgo,hc,Ab,irN,nrA,nrM,nrE,reduceIte,reduceCtorEq,nrL])))|(with_reducible first|refine Az ?_|refine Ap ?_|refine At ?_|refine Ay ?_|refine Ax ?_|apply Ad)|((with_reducible apply Ae);(focus decide))|fail)
  refine Db [3,7] (by kernel_rfl) 11 (g.Spots.length) (H.n) [] [] (fun i e h=>(List.range i).any (Ks g d)=false) (by simp only[↓pb,An,C2,hgo,hto,Ah hG.r,Ab,irN,nrA,nrM,nrE,reduceIte,reduceCtorEq,nrL]) (by focus exact Bb) (H0:=H) (by focus exact Bm) (by intro b hb hlt;simp at hb ⊢;try omega) ?_ ?_
  rotate_left
  intro i5 e5 h5 hi5 hE5 ei5 hF5 B6u B9e hJ5
  simp only[Ag,Af,and_true]at hE5
  try simp only[↓pb,An,C2,hgo,hto,Ah hG.r,Ab,irN,nrA,nrM,nrE,reduceIte,reduceCtorEq,nrL]at hE5
  have hn15:=hF5.n;have hn05:=B6u.n;try simp only[Ao,A3]at hn15
  replace Ab:=B9p ei5 hE5
  rotate_left
  ·rfl
  have F35:=Fr.trans hF3 hF5
  have k5:=k3.fr hF5
  have q5:h5.rd H.n=some [va,vb,vc]:=by rw[Bf,k5.g3];rfl
  have z5:=k5.g3
  have q57:h5.rd B=some [vl,vs]:=by rw[Bf,k5.g7];rfl
  have z57:=k5.g7
  have p5:=k5.hG.p
  have hms:∀ x:Int,Lf g.Acts d.left x d.left.length=d.mass g x:=fun x=>rfl
  obtain⟨u,hu⟩:∃ u,u=min g.Acts.length (B5 hour g.Acts):=⟨_,rfl⟩
  have hul:u≤g.Acts.length:=by omega
  have hdr:d=Cf g truth u:=by rw[hd,hu];rfl
  by_cases hi5':i5<g.Spots.length
  ·repeat'(first|((with_reducible refine hK _ _ fun e2 Aj=>?_);clear hK K;simp only[Hx,Ag,Af,and_true,↓pb,An,C2,hgo,hto,Ah hG.r,Ab,irN,nrA,nrM,nrE,reduceIte,reduceCtorEq,nrL]at Aj;clear Ab;(try clear eg);have Ab:=Aj;clear Aj;rename Bi=>eg)|((first|((with_reducible first|apply Ac|apply Al|apply Ak);(simp(disch:=try exact dA) only[Bh,C2,hgo,hto,Ah hG.r,q5,z5,q57,z57,Am p5,p5.mapB,hgo,odl,ods,hms,Ab,irN,nrA,nrM,nrE,reduceIte,reduceCtorEq,nrL];with_reducible exact rfl))|((with_reducible first|apply Ar|apply As|apply Aq);(focus exact Ee))|((with_reducible apply Bz);(focus exact Bb);(simp only[↓pb,An,C2,hgo,hto,Ah hG.r,q5,z5,q57,z57,Am p5,p5.mapB,hgo,odl,ods,hms,Ab,irN,nrA,nrM,nrE,reduceIte,reduceCtorEq,nrL];(exact f37 _ _ _ _ _ _ _ _ _ (by exact Bb) (k5.fr (N:=h5.n) (by exact Bm)).hG (k5.fr (N:=h5.n) (by exact Bm)).sl ods (by omega) (by omega)));(intro Gq hq Fy;try simp only[Ao,A3]at hq))|(with_reducible first|refine Eu Hx [15] fun K hK=>?_|refine Fx Hx [15] fun K hK=>?_));try simp only[↓pb,↓pd,Bp,C2,hgo,hto,Ah hG.r,q5,z5,q57,z57,Am p5,p5.mapB,hgo,odl,ods,hms,Ab,irN,nrA,nrM,nrE,reduceIte,reduceCtorEq,nrL])|((first|((with_reducible first|apply Br|apply Bt|apply Cc|apply Cd);exact rfl)|(with_reducible apply Au));(simp only[↓pb,An,C2,hgo,hto,Ah hG.r,q5,z5,q57,z57,Am p5,p5.mapB,hgo,odl,ods,hms,Ab,irN,nrA,nrM,nrE,reduceIte,reduceCtorEq,nrL];with_reducible exact rfl);all_goals(intro hc;(first|exact C8 hc|try simp only[C0]at hc);try((with_reducible first|apply E3|apply Ge);simp only[↓pb,↓pd,Bp,C2,hgo,hto,Ah hG.r,q5,z5,q57,z57,Am p5,p5.mapB,hgo,odl,ods,hms,hc,Ab,irN,nrA,nrM,nrE,reduceIte,reduceCtorEq,nrL])))|(with_reducible first|refine Az ?_|refine Ap ?_|refine At ?_|refine Ay ?_|refine Ax ?_|apply Ad)|((with_reducible apply Ae);(focus decide))|fail)
   refine Ga (N:=H.n) (X:=[]) (h0:=h3) (fun h=>BkH g truth H.n B va vb vc vt vl vs d h∧C1 h) (by exact Bm) ⟨k5.fr (N:=h5.n) (by exact Bm),(by exact Bb)⟩ ?_
   rintro h6 F36 ⟨k6,T6⟩
   have F06:=Fr.trans Yj F36
   have q6:h6.rd H.n=some [va,vb,vc]:=by rw[Bf,k6.g3];rfl
   have z6:=k6.g3
   have q67:h6.rd B=some [vl,vs]:=by rw[Bf,k6.g7];rfl
   have z67:=k6.g7
   have Ss6:SR h6 1 d.last.length vs (d.last.map iv):=k6.ss
   have p6:=k6.hG.p
   have r6:=k6.hG.q
   have s6:=k6.hG.r
   have y1:=p6.lt
   have y2:=r6.lt
   have y3':=s6.lt
   have y4:=Ss6.lt
   have hml:=T.last (a:=i5) hi5' hul
   have hkf:=T.kindOf i5 d hul
   rw[← hdr]at hml
   obtain⟨n,hn⟩:∃ n,n=d.mass g i5:=⟨_,rfl⟩
   rw[← hn]at Ab hml
   by_cases hn0:n=0
   ·repeat'(first|((with_reducible refine hK _ _ fun e2 Aj=>?_);clear hK K;simp only[Hx,Ag,Af,and_true,↓pb,An,C2,hgo,hto,Ah hG.r,Ab,irN,nrA,nrM,nrE,reduceIte,reduceCtorEq,nrL]at Aj;clear Ab;(try clear eg);have Ab:=Aj;clear Aj;rename Bi=>eg)|((first|((with_reducible first|apply Ac|apply Al|apply Ak);(simp(disch:=try exact dA) only[Bh,C2,hgo,hto,Ah hG.r,hn0,Ab,irN,nrA,nrM,nrE,reduceIte,reduceCtorEq,nrL];with_reducible exact rfl))|((with_reducible first|apply Ar|apply As|apply Aq);(focus exact Ee))|(with_reducible first|refine Ai Hx fun K hK=>?_|refine Aw Hx fun K hK=>?_));try simp only[↓pb,↓pd,Bp,C2,hgo,hto,Ah hG.r,hn0,Ab,irN,nrA,nrM,nrE,reduceIte,reduceCtorEq,nrL])|((first|((with_reducible first|apply Br|apply Bt|apply Cc|apply Cd);exact rfl)|(with_reducible apply Au));(simp only[↓pb,An,C2,hgo,hto,Ah hG.r,hn0,Ab,irN,nrA,nrM,nrE,reduceIte,reduceCtorEq,nrL];with_reducible exact rfl);all_goals(intro hc;(first|exact C8 hc|try simp only[C0]at hc);try((with_reducible first|apply E3|apply Ge);simp only[↓pb,↓pd,Bp,C2,hgo,hto,Ah hG.r,hn0,hc,Ab,irN,nrA,nrM,nrE,reduceIte,reduceCtorEq,nrL])))|(with_reducible first|refine Az ?_|refine Ap ?_|refine At ?_|refine Ay ?_|refine Ax ?_|apply Ad)|((with_reducible apply Ae);(focus decide))|fail)
    refine⟨by omega,by simp only[↓pb,An,C2,hgo,hto,Ah hG.r,Ab,irN,nrA,nrM,nrE,reduceIte,reduceCtorEq,nrL];exact congrArg _ (Di (by omega)),by focus exact Bm, ?_⟩
    rw[Ix,hJ5]
    unfold Ks
    rw[← hn,hn0]
    rfl
   ·have hll:=hml hn0
    have hkk:=hkf hll
    have hdf:d.last.getD i5 default=d.last.getD i5 0:=rfl
    have hko:kindOf g d i5=(g.Acts.getD (d.last.getD i5 0).toNat default).Kind:=rfl
    obtain⟨lt,hlt⟩:∃ lt,lt=d.last.getD i5 0:=⟨_,rfl⟩
    rw[← hlt]at hdf hll hko
    obtain⟨kd,hkd⟩:∃ kd,kd=kindOf g d i5:=⟨_,rfl⟩
    rw[← hkd]at hko hkk
    have hbh:N5 g d i5=decide (IntKind.i64.wrap (IntKind.i64.wrap ((g.Sorts.getD kd.toNat default).High*(g.Sorts.getD kd.toNat default).Dense)*(g.Spots.getD i5 default).Area)<IntKind.i64.wrap (100*n)):=by rw[hkd,hn];rfl
    repeat'(first|((with_reducible refine hK _ _ fun e2 Aj=>?_);clear hK K;simp only[Hx,Ag,Af,and_true,↓pb,An,C2,hgo,hto,Ah hG.r,Ab,irN,nrA,nrM,nrE,reduceIte,reduceCtorEq,nrL]at Aj;clear Ab;(try clear eg);have Ab:=Aj;clear Aj;rename Bi=>eg)|((first|((with_reducible first|apply Ac|apply Al|apply Ak);(simp(disch:=try exact dA) only[Bh,C2,hgo,hto,Ah hG.r,hn0,hdf,q6,z6,q67,z67,Eb Ss6,Ss6.rd,Ss6.el1 rfl,Ss6.mapB,Ce s6,s6.rd,(s6.el Ba rfl),Bn,s6.mapB,← hko,Ab,irN,nrA,nrM,nrE,reduceIte,reduceCtorEq,nrL];with_reducible exact rfl))|((with_reducible first|apply Ar|apply As|apply Aq);(focus exact Ee))|(with_reducible first|refine Eu Hx [17] fun K hK=>?_|refine Fx Hx [17] fun K hK=>?_));try simp only[↓pb,↓pd,Bp,C2,hgo,hto,Ah hG.r,hn0,hdf,q6,z6,q67,z67,Eb Ss6,Ss6.rd,Ss6.el1 rfl,Ss6.mapB,Ce s6,s6.rd,(s6.el Ba rfl),Bn,s6.mapB,← hko,Ab,irN,nrA,nrM,nrE,reduceIte,reduceCtorEq,nrL])|((first|((with_reducible first|apply Br|apply Bt|apply Cc|apply Cd);exact rfl)|(with_reducible apply Au));(simp only[↓pb,An,C2,hgo,hto,Ah hG.r,hn0,hdf,q6,z6,q67,z67,Eb Ss6,Ss6.rd,Ss6.el1 rfl,Ss6.mapB,Ce s6,s6.rd,(s6.el Ba rfl),Bn,s6.mapB,← hko,Ab,irN,nrA,nrM,nrE,reduceIte,reduceCtorEq,nrL];with_reducible exact rfl);all_goals(intro hc;(first|exact C8 hc|try simp only[C0]at hc);try((with_reducible first|apply E3|apply Ge);simp only[↓pb,↓pd,Bp,C2,hgo,hto,Ah hG.r,hn0,hdf,q6,z6,q67,z67,Eb Ss6,Ss6.rd,Ss6.el1 rfl,Ss6.mapB,Ce s6,s6.rd,(s6.el Ba rfl),Bn,s6.mapB,← hko,hc,Ab,irN,nrA,nrM,nrE,reduceIte,reduceCtorEq,nrL])))|(with_reducible first|refine Az ?_|refine Ap ?_|refine At ?_|refine Ay ?_|refine Ax ?_|apply Ad)|((with_reducible apply Ae);(focus decide))|fail)
    clear hko hdf
    have hsp':Ks g d i5=(N5 g d i5 || (List.range i5).any fun b=>N6 g d i5 b):=by
     unfold Ks
     rw[← hn,decide_eq_false hn0]
     rfl
    repeat'(first|((with_reducible refine hK _ _ fun e2 Aj=>?_);clear hK K;simp only[Hx,Ag,Af,and_true,↓pb,An,C2,hgo,hto,Ah hG.r,Ab,irN,nrA,nrM,nrE,reduceIte,reduceCtorEq,nrL]at Aj;clear Ab;(try clear eg);have Ab:=Aj;clear Aj;rename Bi=>eg)|((first|((with_reducible first|apply Ac|apply Al|apply Ak);(simp(disch:=try exact dA) only[Bh,C2,hgo,hto,Ah hG.r,q6,z6,Hw p6,p6.rd,(p6.el Dc rfl),G7,p6.mapB,Fo r6,r6.rd,(r6.el Cz rfl),Fs,r6.mapB,Ab,irN,nrA,nrM,nrE,reduceIte,reduceCtorEq,nrL];with_reducible exact rfl))|((with_reducible first|apply Ar|apply As|apply Aq);(focus exact Ee))|(with_reducible first|refine Ai Hx fun K hK=>?_|refine Aw Hx fun K hK=>?_));try simp only[↓pb,↓pd,Bp,C2,hgo,hto,Ah hG.r,q6,z6,Hw p6,p6.rd,(p6.el Dc rfl),G7,p6.mapB,Fo r6,r6.rd,(r6.el Cz rfl),Fs,r6.mapB,Ab,irN,nrA,nrM,nrE,reduceIte,reduceCtorEq,nrL])|((first|((with_reducible first|apply Br|apply Bt|apply Cc|apply Cd);exact rfl)|(with_reducible apply Au));(simp only[↓pb,An,C2,hgo,hto,Ah hG.r,q6,z6,Hw p6,p6.rd,(p6.el Dc rfl),G7,p6.mapB,Fo r6,r6.rd,(r6.el Cz rfl),Fs,r6.mapB,Ab,irN,nrA,nrM,nrE,reduceIte,reduceCtorEq,nrL];with_reducible exact rfl);all_goals(intro hc;(first|exact C8 hc|try simp only[C0]at hc);try((with_reducible first|apply E3|apply Ge);simp only[↓pb,↓pd,Bp,C2,hgo,hto,Ah hG.r,q6,z6,Hw p6,p6.rd,(p6.el Dc rfl),G7,p6.mapB,Fo r6,r6.rd,(r6.el Cz rfl),Fs,r6.mapB,hc,Ab,irN,nrA,nrM,nrE,reduceIte,reduceCtorEq,nrL])))|(with_reducible first|refine Az ?_|refine Ap ?_|refine At ?_|refine Ay ?_|refine Ax ?_|apply Ad)|((with_reducible apply Ae);(focus decide))|fail)
    ·refine⟨by first|exact .inl rfl|exact .inr rfl, ?_⟩
     rw[Ec Try.results80]
     simp only[↓pb,An,C2,hgo,hto,Ah hG.r,Bo,Bg,Ab,irN,nrA,nrM,nrE,reduceIte,reduceCtorEq,nrL]
     repeat ((with_reducible apply Ac);(simp(disch:=try exact dA) only[Bh,C2,hgo,hto,Ah hG.r,Ab,irN,nrA,nrM,nrE,reduceIte,reduceCtorEq,nrL];exact rfl))
     have hh:N5 g d i5=true:=by rw[hbh];exact decide_eq_true hc
     have hbr:G8 g truth hour=true:=by
      unfold G8
      rw[← hd,Yh hi5' (p:=fun a=>Ks g d a) (by rw[hsp',hh];rfl),Bool.or_true]
     rw[hbr]
     exact⟨rfl,Fr.trans Yj F36⟩
    ·have hh:N5 g d i5=false:=by rw[hbh];exact decide_eq_false hc
     refine Db [3,7,11,13] (by kernel_rfl) 14 (i5) (H.n) [] [] (fun i e h=>(List.range i).any (N6 g d i5)=false) (by simp only[↓pb,An,C2,hgo,hto,Ah hG.r,Ab,irN,nrA,nrM,nrE,reduceIte,reduceCtorEq,nrL]) (by focus exact Bb) (H0:=H) (by focus exact Bm) (by intro b hb hlt;simp at hb ⊢;try omega) ?_ ?_
     rotate_left
     intro i7 e7 h7 hi7 hE7 ei7 hF7 B4K B79 Y5
     simp only[Ag,Af,and_true]at hE7
     try simp only[↓pb,An,C2,hgo,hto,Ah hG.r,Ab,irN,nrA,nrM,nrE,reduceIte,reduceCtorEq,nrL]at hE7
     have hn17:=hF7.n;have hn07:=B4K.n;try simp only[Ao,A3]at hn17
     replace Ab:=B9p ei7 hE7
     rotate_left
     ·rfl
     have k7:=k6.fr hF7
     have q7:h7.rd H.n=some [va,vb,vc]:=by rw[Bf,k7.g3];rfl
     have z7:=k7.g3
     have q77:h7.rd B=some [vl,vs]:=by rw[Bf,k7.g7];rfl
     have z77:=k7.g7
     have Ss7:SR h7 1 d.last.length vs (d.last.map iv):=k7.ss
     have s7:=k7.hG.r
     have w3:=s7.lt
     have w4:=Ss7.lt
     obtain⟨bd1,bd2⟩:=k7.bd
     by_cases hi7':i7<i5
     ·have hi7s:i7<g.Spots.length:=by omega
      have hml7:=T.last (a:=i7) hi7s hul
      have hkf7:=T.kindOf i7 d hul
      rw[← hdr]at hml7
      have hdf:d.last.getD i7 default=d.last.getD i7 0:=rfl
      have hko:kindOf g d i7=(g.Acts.getD (d.last.getD i7 0).toNat default).Kind:=rfl
      have hbn:N6 g d i5 i7=(decide (0<d.mass g i7) && U3 g i5 i7 kd (g.Acts.getD (d.last.getD i7 0).toNat default).Kind):=by rw[hkd];rfl
      obtain⟨lt7,hlt7⟩:∃ lt,lt=d.last.getD i7 0:=⟨_,rfl⟩
      rw[← hlt7]at hdf hml7 hko hkf7 hbn
      rw[hko]at hkf7
      have thr:¬ 0<d.mass g i7∨(0<d.mass g i7∧U3 g i5 i7 kd (g.Acts.getD lt7.toNat default).Kind=true)∨(0<d.mass g i7∧U3 g i5 i7 kd (g.Acts.getD lt7.toNat default).Kind=false):=by
       by_cases hmp:0<d.mass g i7
       ·cases hne:U3 g i5 i7 kd (g.Acts.getD lt7.toNat default).Kind with
        | true=>exact .inr (.inl ⟨hmp,rfl⟩)
        | false=>exact .inr (.inr ⟨hmp,rfl⟩)
       ·exact .inl hmp
      have hll7:0<d.mass g i7→_:=fun q=>hml7 (by omega)
      have hkl7:0<d.mass g i7→_:=fun q=>hkf7 (hll7 q)
      rcases thr with cc|cc|cc
      all_goals(try have hll8:=hll7 cc.1;have hkl8:=hkl7 cc.1)
      all_goals(
       repeat'(first|((with_reducible refine hK _ _ fun e2 Aj=>?_);clear hK K;simp only[Hx,Ag,Af,and_true,↓pb,An,C2,hgo,hto,Ah hG.r,Ab,irN,nrA,nrM,nrE,reduceIte,reduceCtorEq,nrL]at Aj;clear Ab;(try clear eg);have Ab:=Aj;clear Aj;rename Bi=>eg)|((first|((with_reducible first|apply Ac|apply Al|apply Ak);(simp(disch:=try exact dA) only[Bh,C2,hgo,hto,Ah hG.r,cc,hdf,q7,z7,q77,z77,Eb Ss7,Ss7.rd,Ss7.el1 rfl,Ss7.mapB,Ce s7,s7.rd,(s7.el Ba rfl),Bn,s7.mapB,hgo,odl,ods,hms,decide_true,decide_false,Ab,irN,nrA,nrM,nrE,reduceIte,reduceCtorEq,nrL];with_reducible exact rfl))|((with_reducible first|apply Ar|apply As|apply Aq);(focus exact Ee))|((with_reducible apply Bz);(focus exact Bb);(simp only[↓pb,An,C2,hgo,hto,Ah hG.r,cc,hdf,q7,z7,q77,z77,Eb Ss7,Ss7.rd,Ss7.el1 rfl,Ss7.mapB,Ce s7,s7.rd,(s7.el Ba rfl),Bn,s7.mapB,hgo,odl,ods,hms,decide_true,decide_false,Ab,irN,nrA,nrM,nrE,reduceIte,reduceCtorEq,nrL];(first|exact f37 _ _ _ _ _ _ _ _ _ (by exact Bb) (k7.fr (N:=h7.n) (by exact Bm)).hG (k7.fr (N:=h7.n) (by exact Bm)).sl ods (by omega) (by omega)|exact f48 _ _ _ _ _ _ _ _ _ (by exact Bb) (k7.fr (N:=h7.n) (by exact Bm)).hG hi5' hi7s hkk hkl8));(intro Gq hq Fy;try simp only[Ao,A3]at hq))|(with_reducible first|refine Ai Hx fun K hK=>?_|refine Aw Hx fun K hK=>?_));try simp only[↓pb,↓pd,Bp,C2,hgo,hto,Ah hG.r,cc,hdf,q7,z7,q77,z77,Eb Ss7,Ss7.rd,Ss7.el1 rfl,Ss7.mapB,Ce s7,s7.rd,(s7.el Ba rfl),Bn,s7.mapB,hgo,odl,ods,hms,decide_true,decide_false,Ab,irN,nrA,nrM,nrE,reduceIte,reduceCtorEq,nrL])|((first|((with_reducible first|apply Br|apply Bt|apply Cc|apply Cd);exact rfl)|(with_reducible apply Au));(simp only[↓pb,An,C2,hgo,hto,Ah hG.r,cc,hdf,q7,z7,q77,z77,Eb Ss7,Ss7.rd,Ss7.el1 rfl,Ss7.mapB,Ce s7,s7.rd,(s7.el Ba rfl),Bn,s7.mapB,hgo,odl,ods,hms,decide_true,decide_false,Ab,irN,nrA,nrM,nrE,reduceIte,reduceCtorEq,nrL];with_reducible exact rfl);all_goals(intro hc;(first|exact C8 hc|try simp only[C0]at hc);try((with_reducible first|apply E3|apply Ge);simp only[↓pb,↓pd,Bp,C2,hgo,hto,Ah hG.r,cc,hdf,q7,z7,q77,z77,Eb Ss7,Ss7.rd,Ss7.el1 rfl,Ss7.mapB,Ce s7,s7.rd,(s7.el Ba rfl),Bn,s7.mapB,hgo,odl,ods,hms,decide_true,decide_false,hc,Ab,irN,nrA,nrM,nrE,reduceIte,reduceCtorEq,nrL])))|(with_reducible first|refine Az ?_|refine Ap ?_|refine At ?_|refine Ay ?_|refine Ax ?_|apply Ad)|((with_reducible apply Ae);(focus decide))|fail))
      ·refine⟨by omega,by simp only[↓pb,An,C2,hgo,hto,Ah hG.r,Ab,irN,nrA,nrM,nrE,reduceIte,reduceCtorEq,nrL];exact congrArg _ (Di (by omega)),by focus exact Bm, ?_⟩
       rw[Ix,Y5,hbn,decide_eq_false cc]
       rfl
      ·refine⟨by first|exact .inl rfl|exact .inr rfl, ?_⟩
       rw[Ec Try.results80]
       simp only[↓pb,An,C2,hgo,hto,Ah hG.r,Bo,Bg,Ab,irN,nrA,nrM,nrE,reduceIte,reduceCtorEq,nrL]
       repeat ((with_reducible apply Ac);(simp(disch:=try exact dA) only[Bh,C2,hgo,hto,Ah hG.r,Ab,irN,nrA,nrM,nrE,reduceIte,reduceCtorEq,nrL];exact rfl))
       have hbr:G8 g truth hour=true:=by
        unfold G8
        rw[← hd,Yh hi5' (p:=fun a=>Ks g d a) (by rw[hsp',Yh hi7' (p:=fun b=>N6 g d i5 b) (by rw[hbn,cc.2,decide_eq_true cc.1];rfl),Bool.or_true]),Bool.or_true]
       rw[hbr]
       refine⟨rfl, ?_⟩
       exact Bm
      ·refine⟨by omega,by simp only[↓pb,An,C2,hgo,hto,Ah hG.r,Ab,irN,nrA,nrM,nrE,reduceIte,reduceCtorEq,nrL];exact congrArg _ (Di (by omega)),by focus exact Bm, ?_⟩
       rw[Ix,Y5,hbn,cc.2,Bool.and_false]
       rfl
     ·have e7n:i7=i5:=by omega
      rw[e7n]at Y5
      repeat'(first|((with_reducible refine hK _ _ fun e2 Aj=>?_);clear hK K;simp only[Hx,Ag,Af,and_true,↓pb,An,C2,hgo,hto,Ah hG.r,Ab,irN,nrA,nrM,nrE,reduceIte,reduceCtorEq,nrL]at Aj;clear Ab;(try clear eg);have Ab:=Aj;clear Aj;rename Bi=>eg)|((first|((with_reducible first|apply Ac|apply Al|apply Ak);(simp(disch:=try exact dA) only[Bh,C2,hgo,hto,Ah hG.r,Ab,irN,nrA,nrM,nrE,reduceIte,reduceCtorEq,nrL];with_reducible exact rfl))|((with_reducible first|apply Ar|apply As|apply Aq);(focus exact Ee))|(with_reducible first|refine Ai Hx fun K hK=>?_|refine Aw Hx fun K hK=>?_));try simp only[↓pb,↓pd,Bp,C2,hgo,hto,Ah hG.r,Ab,irN,nrA,nrM,nrE,reduceIte,reduceCtorEq,nrL])|((first|((with_reducible first|apply Br|apply Bt|apply Cc|apply Cd);exact rfl)|(with_reducible apply Au));(simp only[↓pb,An,C2,hgo,hto,Ah hG.r,Ab,irN,nrA,nrM,nrE,reduceIte,reduceCtorEq,nrL];with_reducible exact rfl);all_goals(intro hc;(first|exact C8 hc|try simp only[C0]at hc);try((with_reducible first|apply E3|apply Ge);simp only[↓pb,↓pd,Bp,C2,hgo,hto,Ah hG.r,hc,Ab,irN,nrA,nrM,nrE,reduceIte,reduceCtorEq,nrL])))|(with_reducible first|refine Az ?_|refine Ap ?_|refine At ?_|refine Ay ?_|refine Ax ?_|apply Ad)|((with_reducible apply Ae);(focus decide))|fail)
      refine⟨by omega,by simp only[↓pb,An,C2,hgo,hto,Ah hG.r,Ab,irN,nrA,nrM,nrE,reduceIte,reduceCtorEq,nrL];exact congrArg _ (Di (by omega)),by focus exact Bm, ?_⟩
      rw[Ix,hJ5,hsp',hh]
      exact Y5
  ·have e5n:i5=g.Spots.length:=by omega
   rw[e5n]at hJ5
   repeat'(first|((with_reducible refine hK _ _ fun e2 Aj=>?_);clear hK K;simp only[Hx,Ag,Af,and_true,↓pb,An,C2,hgo,hto,Ah hG.r,Ab,irN,nrA,nrM,nrE,reduceIte,reduceCtorEq,nrL]at Aj;clear Ab;(try clear eg);have Ab:=Aj;clear Aj;rename Bi=>eg)|((first|((with_reducible first|apply Ac|apply Al|apply Ak);(simp(disch:=try exact dA) only[Bh,C2,hgo,hto,Ah hG.r,q5,z5,Am p5,p5.mapB,hgo,Ab,irN,nrA,nrM,nrE,reduceIte,reduceCtorEq,nrL];with_reducible exact rfl))|((with_reducible first|apply Ar|apply As|apply Aq);(focus exact Ee))|(with_reducible first|refine Ai Hx fun K hK=>?_|refine Aw Hx fun K hK=>?_));try simp only[↓pb,↓pd,Bp,C2,hgo,hto,Ah hG.r,q5,z5,Am p5,p5.mapB,hgo,Ab,irN,nrA,nrM,nrE,reduceIte,reduceCtorEq,nrL])|((first|((with_reducible first|apply Br|apply Bt|apply Cc|apply Cd);exact rfl)|(with_reducible apply Au));(simp only[↓pb,An,C2,hgo,hto,Ah hG.r,q5,z5,Am p5,p5.mapB,hgo,Ab,irN,nrA,nrM,nrE,reduceIte,reduceCtorEq,nrL];with_reducible exact rfl);all_goals(intro hc;(first|exact C8 hc|try simp only[C0]at hc);try((with_reducible first|apply E3|apply Ge);simp only[↓pb,↓pd,Bp,C2,hgo,hto,Ah hG.r,q5,z5,Am p5,p5.mapB,hgo,hc,Ab,irN,nrA,nrM,nrE,reduceIte,reduceCtorEq,nrL])))|(with_reducible first|refine Az ?_|refine Ap ?_|refine At ?_|refine Ay ?_|refine Ax ?_|apply Ad)|((with_reducible apply Ae);(focus decide))|fail)
   refine⟨by first|exact .inl rfl|exact .inr rfl, ?_⟩
   rw[Ec Try.results80]
   simp only[↓pb,An,C2,hgo,hto,Ah hG.r,Bo,Bg,Ab,irN,nrA,nrM,nrE,reduceIte,reduceCtorEq,nrL]
   repeat ((with_reducible apply Ac);(simp(disch:=try exact dA) only[Bh,C2,hgo,hto,Ah hG.r,Ab,irN,nrA,nrM,nrE,reduceIte,reduceCtorEq,nrL];exact rfl))
   have hbr:G8 g truth hour=false:=by
    unfold G8
    rw[← hd,hJ3]
    exact hJ5
   rw[hbr]
   exact⟨rfl,B6u⟩
theorem f40 (va vb vc vt:Value)(g:Cv)(truth:List Int)(H:Aa)(hT:C1 H)(hG:RG H va vb vc g)(S:SR H 1 truth.length vt (Ck truth))(T:Da g truth) :
  ∃ v H',C5 (.fn 40) #[.agg ⟨[va,vb,vc]⟩,vt] H v H'∧v=iv (first g truth)∧Fr H.n [] H H':=by
 have hgo:=hG.one
 have hto:=S.one
 refine Cl.ofW Try.func40 rfl (by kernel_rfl) (by rw[Try.ntmps40];exact Nat.le_of_ble_eq_true rfl) (by kernel_rfl) ?_
 have Ab:True:=trivial
 refine Jx [0,1] ?_
 intro eg Aj
 simp only[Ag,Af,and_true]at Aj
 try simp only[↓pb,An,J9,hgo,hto,Ab,irN,nrA,nrM,nrE,reduceIte,reduceCtorEq,nrL]at Aj
 replace Ab:=Aj;clear Aj
 repeat'(first|((with_reducible refine hK _ _ fun e2 Aj=>?_);clear hK K;simp only[A2Z,Ag,Af,and_true,↓pb,An,J9,hgo,hto,Ab,irN,nrA,nrM,nrE,reduceIte,reduceCtorEq,nrL]at Aj;clear Ab;(try clear eg);have Ab:=Aj;clear Aj;rename Bi=>eg)|((first|((with_reducible first|apply Ac|apply Al|apply Ak);(simp(disch:=try exact dA) only[Bh,J9,hgo,hto,Ab,irN,nrA,nrM,nrE,reduceIte,reduceCtorEq,nrL];with_reducible exact rfl))|(with_reducible first|refine Ai A2Z fun K hK=>?_));try simp only[↓pb,↓pd,Bp,J9,hgo,hto,Ab,irN,nrA,nrM,nrE,reduceIte,reduceCtorEq,nrL])|((with_reducible apply Au);(simp only[↓pb,An,J9,hgo,hto,Ab,irN,nrA,nrM,nrE,reduceIte,reduceCtorEq,nrL];with_reducible exact rfl);all_goals(intro hc;(first|exact C8 hc|try simp only[C0]at hc)))|(with_reducible first|refine Az ?_|refine Ap ?_|refine At ?_|refine Ay ?_|refine Ax ?_|apply Ad)|((with_reducible apply Ae);(focus decide))|fail)
 refine Db [1,2] (by kernel_rfl) 5 (73) (H.n) [] [] (fun i e h=>first g truth=N7 g truth (73-i) i) (by simp only[↓pb,An,J9,hgo,hto,Ab,irN,nrA,nrM,nrE,reduceIte,reduceCtorEq,nrL]) (by focus exact Bb) (H0:=H) (by focus exact Bm) (by intro b hb hlt;simp at hb ⊢;try omega) ?_ ?_
 rotate_left
 intro i1 e1 h1 hi1 D3 ei1 Ep D9 Mf Hh
 simp only[Ag,Af,and_true]at D3
 try simp only[↓pb,An,J9,hgo,hto,Ab,irN,nrA,nrM,nrE,reduceIte,reduceCtorEq,nrL]at D3
 have hn11:=Ep.n;have hn01:=D9.n;try simp only[Ao,A3]at hn11
 replace Ab:=B9p ei1 D3
 rotate_left
 ·rfl
 have q1:h1.rd H.n=some [va,vb,vc]:=by
  rw[Ep.rd (b:=H.n) (by simp only[↓pb,An,J9,hgo,hto,Ab,irN,nrA,nrM,nrE,reduceIte,reduceCtorEq,nrL];omega) (by simp)]
  simp(disch:=try exact dA) only[Bh,J9,hgo,hto,Ab,irN,nrA,nrM,nrE,reduceIte,reduceCtorEq,nrL]
 by_cases hi1':i1<73
 ·have hle:(i1:Int)≤72:=by omega
  have hf:first g truth=if G8 g truth (i1:Nat)=true then (i1:Int) else N7 g truth (73-(i1+1)) (i1+1):=by
   rw[Hh,show 73-i1=(73-(i1+1))+1 by omega,N7]
  have f80':=fun(h:Aa) (hTh:C1 h) (hF:Fr H.n [] H h)=>f80 va vb vc vt g truth (i1:Nat) h hTh (hG.fr hF) (S.fr0 hF) T
  cases hb:G8 g truth (i1:Nat) with
  | true =>
   rw[hb,if_pos rfl]at hf
   repeat'(first|((with_reducible refine hK _ _ fun e2 Aj=>?_);clear hK K;simp only[A2Z,Ag,Af,and_true,↓pb,An,J9,hgo,hto,Ab,irN,nrA,nrM,nrE,reduceIte,reduceCtorEq,nrL]at Aj;clear Ab;(try clear eg);have Ab:=Aj;clear Aj;rename Bi=>eg)|((first|((with_reducible first|apply Ac|apply Al|apply Ak);(simp(disch:=try exact dA) only[Bh,J9,hgo,hto,q1,hle,hb,Ab,irN,nrA,nrM,nrE,reduceIte,reduceCtorEq,nrL];with_reducible exact rfl))|((with_reducible apply Bz);(focus exact Bb);(simp only[↓pb,An,J9,hgo,hto,q1,hle,hb,Ab,irN,nrA,nrM,nrE,reduceIte,reduceCtorEq,nrL];(exact f80' _ (by exact Bb) (by exact Bm)));(intro Gq hq Fy;try simp only[Ao,A3]at hq))|(with_reducible first|refine Ai A2Z fun K hK=>?_));try simp only[↓pb,↓pd,Bp,J9,hgo,hto,q1,hle,hb,Ab,irN,nrA,nrM,nrE,reduceIte,reduceCtorEq,nrL])|((with_reducible apply Au);(simp only[↓pb,An,J9,hgo,hto,q1,hle,hb,Ab,irN,nrA,nrM,nrE,reduceIte,reduceCtorEq,nrL];with_reducible exact rfl);all_goals(intro hc;(first|exact C8 hc|try simp only[C0]at hc)))|(with_reducible first|refine Az ?_|refine Ap ?_|refine At ?_|refine Ay ?_|refine Ax ?_|apply Ad)|((with_reducible apply Ae);(focus decide))|fail)
   refine⟨by first|exact .inl rfl|exact .inr rfl, ?_⟩
   rw[Ec Try.results40]
   simp only[↓pb,An,J9,hgo,hto,Bo,Bg,Ab,irN,nrA,nrM,nrE,reduceIte,reduceCtorEq,nrL]
   repeat ((with_reducible apply Ac);(simp(disch:=try exact dA) only[Bh,J9,hgo,hto,Ab,irN,nrA,nrM,nrE,reduceIte,reduceCtorEq,nrL];exact rfl))
   rw[hf]
   refine⟨rfl, ?_⟩
   exact Bm
  | false =>
   rw[hb,if_neg Bool.false_ne_true]at hf
   repeat'(first|((with_reducible refine hK _ _ fun e2 Aj=>?_);clear hK K;simp only[A2Z,Ag,Af,and_true,↓pb,An,J9,hgo,hto,Ab,irN,nrA,nrM,nrE,reduceIte,reduceCtorEq,nrL]at Aj;clear Ab;(try clear eg);have Ab:=Aj;clear Aj;rename Bi=>eg)|((first|((with_reducible first|apply Ac|apply Al|apply Ak);(simp(disch:=try exact dA) only[Bh,J9,hgo,hto,q1,hle,hb,Ab,irN,nrA,nrM,nrE,reduceIte,reduceCtorEq,nrL];with_reducible exact rfl))|((with_reducible apply Bz);(focus exact Bb);(simp only[↓pb,An,J9,hgo,hto,q1,hle,hb,Ab,irN,nrA,nrM,nrE,reduceIte,reduceCtorEq,nrL];(exact f80' _ (by exact Bb) (by exact Bm)));(intro Gq hq Fy;try simp only[Ao,A3]at hq))|(with_reducible first|refine Ai A2Z fun K hK=>?_));try simp only[↓pb,↓pd,Bp,J9,hgo,hto,q1,hle,hb,Ab,irN,nrA,nrM,nrE,reduceIte,reduceCtorEq,nrL])|((with_reducible apply Au);(simp only[↓pb,An,J9,hgo,hto,q1,hle,hb,Ab,irN,nrA,nrM,nrE,reduceIte,reduceCtorEq,nrL];with_reducible exact rfl);all_goals(intro hc;(first|exact C8 hc|try simp only[C0]at hc)))|(with_reducible first|refine Az ?_|refine Ap ?_|refine At ?_|refine Ay ?_|refine Ax ?_|apply Ad)|((with_reducible apply Ae);(focus decide))|fail)
   refine⟨by omega,by simp only[↓pb,An,J9,hgo,hto,Ab,irN,nrA,nrM,nrE,reduceIte,reduceCtorEq,nrL];exact congrArg _ (Di (by omega)),by focus exact Bm, ?_⟩
   exact hf
 ·have e1n:i1=73:=by omega
  have hle:¬ (i1:Int)≤72:=by omega
  rw[e1n]at Hh
  repeat'(first|((with_reducible refine hK _ _ fun e2 Aj=>?_);clear hK K;simp only[A2Z,Ag,Af,and_true,↓pb,An,J9,hgo,hto,Ab,irN,nrA,nrM,nrE,reduceIte,reduceCtorEq,nrL]at Aj;clear Ab;(try clear eg);have Ab:=Aj;clear Aj;rename Bi=>eg)|((first|((with_reducible first|apply Ac|apply Al|apply Ak);(simp(disch:=try exact dA) only[Bh,J9,hgo,hto,hle,Ab,irN,nrA,nrM,nrE,reduceIte,reduceCtorEq,nrL];with_reducible exact rfl))|(with_reducible first|refine Ai A2Z fun K hK=>?_));try simp only[↓pb,↓pd,Bp,J9,hgo,hto,hle,Ab,irN,nrA,nrM,nrE,reduceIte,reduceCtorEq,nrL])|((with_reducible apply Au);(simp only[↓pb,An,J9,hgo,hto,hle,Ab,irN,nrA,nrM,nrE,reduceIte,reduceCtorEq,nrL];with_reducible exact rfl);all_goals(intro hc;(first|exact C8 hc|try simp only[C0]at hc)))|(with_reducible first|refine Az ?_|refine Ap ?_|refine At ?_|refine Ay ?_|refine Ax ?_|apply Ad)|((with_reducible apply Ae);(focus decide))|fail)
  refine⟨by first|exact .inl rfl|exact .inr rfl, ?_⟩
  rw[Ec Try.results40]
  simp only[↓pb,An,J9,hgo,hto,Bo,Bg,Ab,irN,nrA,nrM,nrE,reduceIte,reduceCtorEq,nrL]
  repeat ((with_reducible apply Ac);(simp(disch:=try exact dA) only[Bh,J9,hgo,hto,Ab,irN,nrA,nrM,nrE,reduceIte,reduceCtorEq,nrL];exact rfl))
  rw[Hh]
  refine⟨rfl, ?_⟩
  exact Bm
theorem B6q (x a b c:Int):D1 x [a,b,c]=a∨D1 x [a,b,c]=b∨D1 x [a,b,c]=c:=by
 have:=Jp x (l:=[a,b,c]) (by simp) (by simp)
 simpa using this
structure MmT (g:Cv)(truth:List Int)(B4:Nat)(va vb vc vt:Value)(h:Aa):Prop where
 g4:h.get B4=.cells [va,vb,vc] 26 .ex
 hG:RG h va vb vc g
 hk:g.Spots.length=0∨SK h 3 va
 st:SR h 1 truth.length vt (Ck truth)
 bd:B4<h.n
theorem MmT.fr {g:Cv}{truth:List Int}{B4:Nat}{va vb vc vt:Value}{N:Nat}{A B:Aa}(F:Fr N [] A B)(k:MmT g truth B4 va vb vc vt A):MmT g truth B4 va vb vc vt B:=by
 have:=F.n
 have hb:=k.bd
 refine⟨by rw[F.old _ k.bd (by simp)];exact k.g4,k.hG.fr F, ?_,k.st.fr0 F,by omega⟩
 rcases k.hk with q|q
 ·exact .inl q
 ·rcases k.hG.p.lt with q2|q2
  ·exact .inl q2
  ·exact .inr (q.fr F q2 (by simp))
theorem MmT.feed {g:Cv}{truth:List Int}{B4:Nat}{va vb vc vt:Value}{N n0:Nat}{x:Int}{A B:Aa}(F:Fr N [n0] A B)(hg:A.get n0=.cells [uv x] 85 .ex)(o:B4≠n0)(k:MmT g truth B4 va vb vc vt A):MmT g truth B4 va vb vc vt B:=by
 have:=F.n
 have hb:=k.bd
 refine⟨by rw[F.old _ k.bd (by simpa using o)];exact k.g4,k.hG.frR F hg, ?_,k.st.fr F (k.st.offU hg),by omega⟩
 rcases k.hk with q|q
 ·exact .inl q
 ·rcases k.hG.p.lt with q2|q2
  ·exact .inl q2
  ·rcases k.hG.p.offR hg (by omega) with q3|q3
   ·exact .inl q3
   ·exact .inr (q.fr F q2 q3)
end Go.Proofs.Swa
