/- Proves PileAll, for every list of numbers: what is said of a ground is just what all its truths say. -/
import Derived.Test.YtkjcijlaehflhaaP16
import Derived.Test.YtkjcijlaehflhaaRows
import Derived.ProofKit
import Derived.OpenShut
import Derived.JoinedCond
import Derived.Below
import Derived.ChangeSame
set_option maxRecDepth 20000
set_option linter.unusedVariables false
set_option linter.unusedSimpArgs false
namespace Go.Proofs.Swa
open Go
open Nat renaming reduceAdd → nrA, reduceMul → nrM, reduceEqDiff → nrE, reduceLT → nrL
open Int renaming reduceToNat → irN
attribute [local congr] Ja Gm I8 I9 Jb Hl Hm Hn
theorem B0L (x:Int):1≤Y3 x 1 8∧Y3 x 1 8≤rgB x 1 8∧rgB x 1 8≤8:=by
 have a:=A96 (x:=x) (show (0:Int)≤1 by omega) (show (1:Int)≤8 by omega) (by omega)
 have h:Y3 x 1 8=Mt x 1 8:=rfl
 rw[← h]at a
 have b:=A96 (x:=Cb (rgX x 1 8) 4) (show 0≤Y3 x 1 8 by omega) a.2 (by omega)
 have c:=Xr (rgX x 1 8) 4 (by decide) (by decide)
 have w:IntKind.i64.wrap (Y3 x 1 8+Cm (rgX x 1 8) 4)=Y3 x 1 8+Cm (rgX x 1 8) 4:=H4 (by omega) (by omega)
 rcases B6q (rgY x 1 8) (Y3 x 1 8) (min 8 (IntKind.i64.wrap (Y3 x 1 8+Cm (rgX x 1 8) 4))) (Mt (Cb (rgX x 1 8) 4) (Y3 x 1 8) 8) with e|e|e <;> (unfold rgB rgL;rw[e];omega)
theorem Vv.feed {g:Cv}{al:List E8}{B4 gg bc:Nat}{T:TypeId}{va vb vc:Value}{N n0:Nat}{x:Int}{A B:Aa}(F:Fr N [n0] A B)(hg:A.get n0=.cells [uv x] 85 .ex)(h1:B4≠n0)(h2:bc≠n0)(k:Vv g al B4 gg bc T va vb vc A):Vv g al B4 gg bc T va vb vc B:=by
 obtain⟨b1,b2,b3⟩:=k.bd
 have hn:=F.n
 refine⟨by rw[F.old _ b1 (by simpa using h1)];exact k.g4,k.p.fr F (k.p.offR hg (by omega)),k.q.fr F (k.q.offR hg (by omega)), ?_,k.len, ?_,k.la,k.lb,by omega⟩
 ·rcases k.hk with q|q
  ·exact .inl q
  ·rcases k.p.lt with q2|q2
   ·exact .inl q2
   ·rcases k.p.offR hg (by omega) with q3|q3
    ·exact .inl q3
    ·exact .inr (q.fr F q2 q3)
 ·rcases k.xr with q|⟨q0,q1,q2,q3⟩
  ·exact .inl q
  ·exact .inr ⟨q0,by rw[F.old _ q3 (by simpa using h2)];exact q1,q2,by omega⟩
theorem B0M {f:List Int→Int}(l:List (List Int))(t:List Int)(a:Int×Int):mmF f (l ++ [t]) a=(min (mmF f l a).1 (f t),max (mmF f l a).2 (f t)):=by
 unfold mmF
 rw[List.foldl_append]
 rfl
theorem A77 (p:List Int→Bool)(l:List (List Int))(t:List Int):Qh p (l ++ [t])=Qh p l+if p t=true then 1 else 0:=by
 unfold Qh
 rw[List.filter_append,List.length_append]
 cases h:p t <;> simp[h]
theorem A5v (f:List Int→Int)(l:List (List Int))(t:List Int)(s:Int):Qn f (l ++ [t]) s=if 0≤f t∧(Qn f l s<0∨f t<Qn f l s) then f t else Qn f l s:=by
 unfold Qn
 rw[List.foldl_append]
 rfl
theorem A78 (f:List Int→Int)(l:List (List Int))(t:List Int)(s:Int):A3K f (l ++ [t]) s=max (A3K f l s) (f t):=by
 unfold A3K
 rw[List.foldl_append]
 rfl
theorem A79 (f:List Int→Int)(l:List (List Int))(t:List Int):Y0 f (l ++ [t])=(Y0 f l || decide (f t<0)):=by
 unfold Y0
 rw[List.any_append]
 simp
theorem LL.feed {N:Nat}{A B:Aa}{n0:Nat}{x:Int}(F:Fr N [n0] A B)(hg:A.get n0=.cells [uv x] 85 .ex):∀ {vs:List Value}{ls:List (List Int)},LL A vs ls→LL B vs ls
 | [],[],_=>trivial
 | v :: vs,r :: rs,h=>⟨h.1.fr F (h.1.offU hg),LL.feed F hg h.2⟩
 | [],_ :: _,h=>h.elim
 | _ :: _,[],h=>h.elim
theorem LL.off {H:Aa}{ls:List (List Int)}{vs:List Value}{v:Value}{b:Nat}{x:Int}{T:TypeId}(h:SR H 1 ls.length v vs)(L:LL H vs ls)(hg:H.get b=.cells [uv x] T .ex):ls.length=0∨C4 v∉[b]:=by
 by_cases hn:ls.length=0
 ·exact .inl hn
 ·right
  intro hm
  have hm:C4 v=b:=List.mem_singleton.1 hm
  rcases h.cells with q|⟨d,h1,h2,h3⟩
  ·exact hn q
  ·rw[hm,Bf,hg]at h1
   cases h1
   cases ls with
   | nil=>exact hn rfl
   | cons y ls =>
    have h2:Gy v+(ls.length+1)*1≤1:=h2
    have e0:Gy v=0:=by omega
    have e1:ls=[]:=List.eq_nil_of_length_eq_zero (by omega)
    subst e1
    rw[e0]at h3
    cases h3
    rcases L.1.shape with⟨q,_⟩|⟨_,_,_,q,_⟩ <;> cases q
set_option maxHeartbeats 40000000 in
theorem f7 (vl:Value)(l:List Int)(H:Aa)(hT:C1 H)(S:SR H 1 l.length vl (Ck l))(hl:l.length≤9223372036854775807)(M:A9P)(hmade:Es (Mb l) 3 2 5 4 8=M)
  (t5:Da M.g M.truth)
  (hw:∀ H,C1 H→OrC Try.prog 15 #[] H (.bool true) H):∃ v H',C5 (.fn 7) #[vl] H v H'∧v=.bool true∧Fr H.n [] H H':=by
 refine Cl.ofW Try.func7 rfl (by kernel_rfl) (by rw[Try.ntmps7];exact Nat.le_of_ble_eq_true rfl) (by kernel_rfl) ?_
 have Ab:True:=trivial
 refine Jx [0] ?_
 intro eg Aj
 simp only[Ag,Af,and_true]at Aj
 try simp only[↓pb,An,C9,Ab,irN,nrA,nrM,nrE,reduceIte,reduceCtorEq,nrL]at Aj
 replace Ab:=Aj;clear Aj
 repeat'(first|((with_reducible refine hK _ _ fun e2 Aj=>?_);clear hK K;simp only[Jo,Ag,Af,and_true,↓pb,An,C9,Ab,irN,nrA,nrM,nrE,reduceIte,reduceCtorEq,nrL]at Aj;clear Ab;(try clear eg);have Ab:=Aj;clear Aj;rename Bi=>eg)|((first|((with_reducible first|apply Ac|apply Al|apply Ak);(simp(disch:=try exact dA) only[Bh,C9,Ab,irN,nrA,nrM,nrE,reduceIte,reduceCtorEq,nrL];with_reducible exact rfl))|((with_reducible first|apply Ar|apply As|apply Aq);(focus exact Ee))|((with_reducible apply Cp);(simp only[↓pb,An,C9,Ab,irN,nrA,nrM,nrE,reduceIte,reduceCtorEq,nrL];(exact f16 _ l _ hT S hl)))|(with_reducible first|refine Ai Jo fun K hK=>?_|refine Aw Jo fun K hK=>?_));try simp only[↓pb,↓pd,Bp,C9,Ab,irN,nrA,nrM,nrE,reduceIte,reduceCtorEq,nrL])|((first|((with_reducible first|apply Br|apply Bt|apply Cc|apply Cd);exact rfl)|(with_reducible apply Au));(simp only[↓pb,An,C9,Ab,irN,nrA,nrM,nrE,reduceIte,reduceCtorEq,nrL];with_reducible exact rfl);all_goals(intro hc;(first|exact C8 hc|try simp only[C0]at hc);try((with_reducible first|apply E3|apply Ge);simp only[↓pb,↓pd,Bp,C9,hc,Ab,irN,nrA,nrM,nrE,reduceIte,reduceCtorEq,nrL])))|((with_reducible apply Jg);exact rfl;(focus(simp only[↓pb,An,C9,Ab,irN,nrA,nrM,nrE,reduceIte,reduceCtorEq,nrL];done));try simp only[↓pb,↓pd,Bp,C9,Ab,irN,nrA,nrM,nrE,reduceIte,reduceCtorEq,nrL])|(with_reducible first|refine Az ?_|refine Ap ?_|refine At ?_|refine Ay ?_|refine Ax ?_|apply Ad)|((with_reducible apply Ae);(focus decide))|fail)
 refine A9h (X:=[H.n]) (by simp only[↓pb,An,C9,Ab,irN,nrA,nrM,nrE,reduceIte,reduceCtorEq,nrL];exact B72 H.n (Mb l) 3 2 5 4 8 _ (by exact Bb) (by simp(disch:=try exact dA) only[Bh,C9,Ab,irN,nrA,nrM,nrE,reduceIte,reduceCtorEq,nrL]) (by simp only[↓pb,An,C9,Ab,irN,nrA,nrM,nrE,reduceIte,reduceCtorEq,nrL];omega) (by omega) (by omega) (by omega) (by omega) (by omega)) ?_
 rintro v3 H3 ⟨va,vb,vc,vt,gg,gt,rfl,hG,GA,hgg,GTr,hx3,hsk,hgp,hgn⟩ hF3
 have hT3:C1 H3:=hF3.top (by exact Bb)
 rw[hmade]at hG hx3 GA GTr hsk hgp
 have Yj:Fr H.n [] H H3:=by
  refine Fr.trans' (A:=H) ?_ hF3 (by simp only[↓pb,An,C9,Ab,irN,nrA,nrM,nrE,reduceIte,reduceCtorEq,nrL];omega) (by intro b hb hlt;simp at hb;omega)
  exact Bm
 have hn3:=hF3.n
 simp only[Ao,A3]at hn3
 have hgo:=hG.one
 have ho4:=GTr.one
 have okp:=t5.ok.spots
 have okq:=t5.ok.sorts
 have oka:=t5.ok.acts
 obtain⟨gq,bc,T,hxr,hla,hlb,hq1,hq2,hq3,hq4⟩:∃ gq bc T,((M.g.Acts.length=0∧vc=.slice none 0 0)∨(vc=.slice (some ⟨bc,0,none⟩) M.g.Acts.length M.g.Acts.length∧H3.get bc=.cells (M.g.Acts.flatMap Bn) T (.gr gq 6 true)∧gq≤bc∧bc<H3.n))∧(M.g.Spots.length=0∨C4 va<gq)∧(M.g.Sorts.length=0∨C4 vb<gq)∧H.n<gq∧gq≤H3.n∧bc≠H3.n∧bc≠H.n:=by
  cases GA with
  | nil hn hv hc=>exact⟨H3.n,H3.n+1,30,.inl ⟨hn,hv⟩,hG.p.lt,hG.q.lt,by omega,Nat.le_refl _,by omega,by omega⟩
  | full hv hb hg hk hl hc h0 =>
   have:=hgn rfl
   rw[hv]at this
   cases this
  | gr hv hb hgb hg hl hf =>
   have q:=hgp _ rfl
   have q2:=hgg _ rfl
   simp only[Ao,A3]at q2
   exact⟨_,_,_,.inr ⟨hv,hg,hgb,hb⟩,q.1,q.2.1,by omega,by omega,by omega,by omega⟩
 simp only[↓pb,↓pd,Bp,C9,hx3,hgo,ho4,Ab,irN,nrA,nrM,nrE,reduceIte,reduceCtorEq,nrL]
 repeat'(first|((with_reducible refine hK _ _ fun e2 Aj=>?_);clear hK K;simp only[Jo,Ag,Af,and_true,↓pb,An,C9,Ab,irN,nrA,nrM,nrE,reduceIte,reduceCtorEq,nrL]at Aj;clear Ab;(try clear eg);have Ab:=Aj;clear Aj;rename Bi=>eg)|((first|((with_reducible first|apply Ac|apply Al|apply Ak);(simp(disch:=try exact dA) only[Bh,C9,hx3,hgo,ho4,Ab,irN,nrA,nrM,nrE,reduceIte,reduceCtorEq,nrL];with_reducible exact rfl))|((with_reducible first|apply Ar|apply As|apply Aq);(focus exact Ee))|(with_reducible first|refine Eu Jo [3] fun K hK=>?_|refine Fx Jo [3] fun K hK=>?_));try simp only[↓pb,↓pd,Bp,C9,hx3,hgo,ho4,Ab,irN,nrA,nrM,nrE,reduceIte,reduceCtorEq,nrL])|((first|((with_reducible first|apply Br|apply Bt|apply Cc|apply Cd);exact rfl)|(with_reducible apply Au));(simp only[↓pb,An,C9,hx3,hgo,ho4,Ab,irN,nrA,nrM,nrE,reduceIte,reduceCtorEq,nrL];with_reducible exact rfl);all_goals(intro hc;(first|exact C8 hc|try simp only[C0]at hc);try((with_reducible first|apply E3|apply Ge);simp only[↓pb,↓pd,Bp,C9,hx3,hgo,ho4,hc,Ab,irN,nrA,nrM,nrE,reduceIte,reduceCtorEq,nrL])))|((with_reducible apply Jg);exact rfl;(focus(simp only[↓pb,An,C9,hx3,hgo,ho4,Ab,irN,nrA,nrM,nrE,reduceIte,reduceCtorEq,nrL];done));try simp only[↓pb,↓pd,Bp,C9,hx3,hgo,ho4,Ab,irN,nrA,nrM,nrE,reduceIte,reduceCtorEq,nrL])|(with_reducible first|refine Az ?_|refine Ap ?_|refine At ?_|refine Ay ?_|refine Ax ?_|apply Ad)|((with_reducible apply Ae);(focus decide))|fail)
 refine Ga (N:=H.n) (X:=[]) (h0:=H) (fun h=>Vv M.g M.g.Acts H3.n gq bc T va vb vc h∧h.get H.n=.cells [uv M.x] 85 .ex∧C1 h) (by exact Bm) ⟨⟨by simp(disch:=try exact dA) only[Bh,C9,Ab,irN,nrA,nrM,nrE,reduceIte,reduceCtorEq,nrL],hG.p.fr0 (N:=H3.n) (by exact Bm),hG.q.fr0 (N:=H3.n) (by exact Bm), ?_,rfl, ?_,hla,hlb,by simp only[↓pb,An,C9,Ab,irN,nrA,nrM,nrE,reduceIte,reduceCtorEq,nrL];omega⟩,by simp(disch:=try exact dA) only[Bh,C9,Ab,irN,nrA,nrM,nrE,reduceIte,reduceCtorEq,nrL];exact hx3,(by exact Bb)⟩ ?_
 ·rcases hsk with q|q
  ·exact .inl q
  ·rcases hG.p.lt with q2|q2
   ·exact .inl q2
   ·exact .inr (q.fr (N:=H3.n) (X:=[]) (by exact Bm) q2 (by simp))
 ·rcases hxr with q|⟨p0,p1,p2,p3⟩
  ·exact .inl q
  ·exact .inr ⟨p0,by rw[Cr hq3];exact p1,p2,by simp only[↓pb,An,C9,Ab,irN,nrA,nrM,nrE,reduceIte,reduceCtorEq,nrL];omega⟩
 rintro hb Fb ⟨kb,fb,Tb⟩
 have r4:hb.rd H3.n=some [va,vb,vc]:=by rw[Bf,kb.g4];rfl
 have w4:=kb.g4
 have hr:SR hb 6 M.g.Acts.length vc (M.g.Acts.flatMap Bn):=kb.rg.r
 have nb:=Fb.n
 have lr:=hr.lt
 obtain⟨bd1,bd2,bd3⟩:=kb.bd
 refine A1W (fun e h=>(e 3=Bc H.n 0∧e 4=Bc H3.n 0)∧Fr H.n [] H h∧C1 h∧∃ (L:List E8) (x:Int),MsL M.g.Acts L 0∧h.get H.n=.cells [uv x] 85 .ex∧Vv M.g L H3.n gq bc T va vb vc h) ?_ ?_
 ·have C0:(¬ (0:Int)<M.g.Acts.length)∨((0:Int)<M.g.Acts.length∧¬ Cm M.x 4<1)∨((0:Int)<M.g.Acts.length∧Cm M.x 4<1):=by omega
  rcases C0 with cc|cc|cc
  ·repeat'(first|((with_reducible refine hK _ _ fun e2 Aj=>?_);clear hK K;simp only[Jo,Ag,Af,and_true,↓pb,An,C9,Ab,irN,nrA,nrM,nrE,reduceIte,reduceCtorEq,nrL]at Aj;clear Ab;(try clear eg);have Ab:=Aj;clear Aj;rename Bi=>eg)|((first|((with_reducible first|apply Ac|apply Al|apply Ak);(simp(disch:=try exact dA) only[Bh,C9,r4,w4,fb,Ah hr,hr.mapB,cc,Ab,irN,nrA,nrM,nrE,reduceIte,reduceCtorEq,nrL];with_reducible exact rfl))|((with_reducible first|apply Ar|apply As|apply Aq);(focus exact Ee))|((with_reducible apply Cp);(simp only[↓pb,An,C9,r4,w4,fb,Ah hr,hr.mapB,cc,Ab,irN,nrA,nrM,nrE,reduceIte,reduceCtorEq,nrL];(exact f41 _ _ _ _ _ (by simp(disch:=try exact dA) only[Bh,C9,r4,w4,fb,Ah hr,hr.mapB,cc,Ab,irN,nrA,nrM,nrE,reduceIte,reduceCtorEq,nrL];rfl) (by omega))))|(with_reducible first|refine Ai Jo fun K hK=>?_|refine Aw Jo fun K hK=>?_));try simp only[↓pb,↓pd,Bp,C9,r4,w4,fb,Ah hr,hr.mapB,cc,Ab,irN,nrA,nrM,nrE,reduceIte,reduceCtorEq,nrL])|((first|((with_reducible first|apply Br|apply Bt|apply Cc|apply Cd);exact rfl)|(with_reducible apply Au));(simp only[↓pb,An,C9,r4,w4,fb,Ah hr,hr.mapB,cc,Ab,irN,nrA,nrM,nrE,reduceIte,reduceCtorEq,nrL];with_reducible exact rfl);all_goals(intro hc;(first|exact C8 hc|try simp only[C0]at hc);try((with_reducible first|apply E3|apply Ge);simp only[↓pb,↓pd,Bp,C9,r4,w4,fb,Ah hr,hr.mapB,cc,hc,Ab,irN,nrA,nrM,nrE,reduceIte,reduceCtorEq,nrL])))|((with_reducible apply Jg);exact rfl;(focus(simp only[↓pb,An,C9,r4,w4,fb,Ah hr,hr.mapB,cc,Ab,irN,nrA,nrM,nrE,reduceIte,reduceCtorEq,nrL];done));try simp only[↓pb,↓pd,Bp,C9,r4,w4,fb,Ah hr,hr.mapB,cc,Ab,irN,nrA,nrM,nrE,reduceIte,reduceCtorEq,nrL])|(with_reducible first|refine Az ?_|refine Ap ?_|refine At ?_|refine Ay ?_|refine Ax ?_|apply Ad)|((with_reducible apply Ae);(focus decide))|fail)
   exact⟨rfl,by simp only[Ab,and_self],Fb,Tb,_,_,MsL.start t5.ok,fb,kb⟩
  ·repeat'(first|((with_reducible refine hK _ _ fun e2 Aj=>?_);clear hK K;simp only[Jo,Ag,Af,and_true,↓pb,An,C9,Ab,irN,nrA,nrM,nrE,reduceIte,reduceCtorEq,nrL]at Aj;clear Ab;(try clear eg);have Ab:=Aj;clear Aj;rename Bi=>eg)|((first|((with_reducible first|apply Ac|apply Al|apply Ak);(simp(disch:=try exact dA) only[Bh,C9,r4,w4,fb,Ah hr,hr.mapB,cc,Ab,irN,nrA,nrM,nrE,reduceIte,reduceCtorEq,nrL];with_reducible exact rfl))|((with_reducible first|apply Ar|apply As|apply Aq);(focus exact Ee))|((with_reducible apply Cp);(simp only[↓pb,An,C9,r4,w4,fb,Ah hr,hr.mapB,cc,Ab,irN,nrA,nrM,nrE,reduceIte,reduceCtorEq,nrL];(exact f41 _ _ _ _ _ (by simp(disch:=try exact dA) only[Bh,C9,r4,w4,fb,Ah hr,hr.mapB,cc,Ab,irN,nrA,nrM,nrE,reduceIte,reduceCtorEq,nrL];rfl) (by omega))))|(with_reducible first|refine Ai Jo fun K hK=>?_|refine Aw Jo fun K hK=>?_));try simp only[↓pb,↓pd,Bp,C9,r4,w4,fb,Ah hr,hr.mapB,cc,Ab,irN,nrA,nrM,nrE,reduceIte,reduceCtorEq,nrL])|((first|((with_reducible first|apply Br|apply Bt|apply Cc|apply Cd);exact rfl)|(with_reducible apply Au));(simp only[↓pb,An,C9,r4,w4,fb,Ah hr,hr.mapB,cc,Ab,irN,nrA,nrM,nrE,reduceIte,reduceCtorEq,nrL];with_reducible exact rfl);all_goals(intro hc;(first|exact C8 hc|try simp only[C0]at hc);try((with_reducible first|apply E3|apply Ge);simp only[↓pb,↓pd,Bp,C9,r4,w4,fb,Ah hr,hr.mapB,cc,hc,Ab,irN,nrA,nrM,nrE,reduceIte,reduceCtorEq,nrL])))|((with_reducible apply Jg);exact rfl;(focus(simp only[↓pb,An,C9,r4,w4,fb,Ah hr,hr.mapB,cc,Ab,irN,nrA,nrM,nrE,reduceIte,reduceCtorEq,nrL];done));try simp only[↓pb,↓pd,Bp,C9,r4,w4,fb,Ah hr,hr.mapB,cc,Ab,irN,nrA,nrM,nrE,reduceIte,reduceCtorEq,nrL])|(with_reducible first|refine Az ?_|refine Ap ?_|refine At ?_|refine Ay ?_|refine Ax ?_|apply Ad)|((with_reducible apply Ae);(focus decide))|fail)
   unfold fh
   refine⟨rfl,by simp only[Ab,and_self],by exact Bm,by exact Bb,_,Cb M.x 4,MsL.start t5.ok,by simp(disch:=try exact dA) only[Bh,C9,Ab,irN,nrA,nrM,nrE,reduceIte,reduceCtorEq,nrL],kb.feed (N:=0) (n0:=H.n) (by exact Bm) fb (by omega) hq4⟩
  ·have pn0:=Dw (Cb M.x 4) (M.g.Acts.length:Int) (by omega)
   have pn:=B9p pn0.1 (pn0.2.1 (by omega))
   clear pn0
   obtain⟨z,hz⟩:∃ z,z=Cb M.x 4:=⟨_,rfl⟩
   obtain⟨p,hp⟩:∃ p,p=Cm z M.g.Acts.length:=⟨_,rfl⟩
   rw[← hz,← hp]at pn
   repeat'(first|((with_reducible refine hK _ _ fun e2 Aj=>?_);clear hK K;simp only[Jo,Ag,Af,and_true,↓pb,An,C9,Ab,irN,nrA,nrM,nrE,reduceIte,reduceCtorEq,nrL]at Aj;clear Ab;(try clear eg);have Ab:=Aj;clear Aj;rename Bi=>eg)|((first|((with_reducible first|apply Ac|apply Al|apply Ak);(simp(disch:=try exact dA) only[Bh,C9,r4,w4,fb,Ah hr,hr.mapB,cc,← hz,← hp,rgH,Ce hr,Ab,irN,nrA,nrM,nrE,reduceIte,reduceCtorEq,nrL];with_reducible exact rfl))|((with_reducible first|apply Ar|apply As|apply Aq);(focus exact Ee))|((with_reducible apply Cp);(simp only[↓pb,An,C9,r4,w4,fb,Ah hr,hr.mapB,cc,← hz,← hp,rgH,Ce hr,Ab,irN,nrA,nrM,nrE,reduceIte,reduceCtorEq,nrL];(first|exact f41 _ _ _ _ _ (by simp(disch:=try exact dA) only[Bh,C9,r4,w4,fb,Ah hr,hr.mapB,cc,← hz,← hp,rgH,Ce hr,Ab,irN,nrA,nrM,nrE,reduceIte,reduceCtorEq,nrL];rfl) (by omega)|exact f20 _ _ _ _ (by simp(disch:=try exact dA) only[Bh,C9,r4,w4,fb,Ah hr,hr.mapB,cc,← hz,← hp,rgH,Ce hr,Ab,irN,nrA,nrM,nrE,reduceIte,reduceCtorEq,nrL];rfl) (by omega)|exact f42 _ _ _ _ _ oA (by simp(disch:=try exact dA) only[Bh,C9,r4,w4,fb,Ah hr,hr.mapB,cc,← hz,← hp,rgH,Ce hr,Ab,irN,nrA,nrM,nrE,reduceIte,reduceCtorEq,nrL];rfl))))|(with_reducible first|refine Ai Jo fun K hK=>?_|refine Aw Jo fun K hK=>?_));try simp only[↓pb,↓pd,Bp,C9,r4,w4,fb,Ah hr,hr.mapB,cc,← hz,← hp,rgH,Ce hr,Ab,irN,nrA,nrM,nrE,reduceIte,reduceCtorEq,nrL])|((first|((with_reducible first|apply Br|apply Bt|apply Cc|apply Cd);exact rfl)|(with_reducible apply Au));(simp only[↓pb,An,C9,r4,w4,fb,Ah hr,hr.mapB,cc,← hz,← hp,rgH,Ce hr,Ab,irN,nrA,nrM,nrE,reduceIte,reduceCtorEq,nrL];with_reducible exact rfl);all_goals(intro hc;(first|exact C8 hc|try simp only[C0]at hc);try((with_reducible first|apply E3|apply Ge);simp only[↓pb,↓pd,Bp,C9,r4,w4,fb,Ah hr,hr.mapB,cc,← hz,← hp,rgH,Ce hr,hc,Ab,irN,nrA,nrM,nrE,reduceIte,reduceCtorEq,nrL])))|((with_reducible apply Jg);exact rfl;(focus(simp only[↓pb,An,C9,r4,w4,fb,Ah hr,hr.mapB,cc,← hz,← hp,rgH,Ce hr,Ab,irN,nrA,nrM,nrE,reduceIte,reduceCtorEq,nrL];done));try simp only[↓pb,↓pd,Bp,C9,r4,w4,fb,Ah hr,hr.mapB,cc,← hz,← hp,rgH,Ce hr,Ab,irN,nrA,nrM,nrE,reduceIte,reduceCtorEq,nrL])|(with_reducible first|refine Az ?_|refine Ap ?_|refine At ?_|refine Ay ?_|refine Ax ?_|apply Ad)|((with_reducible apply Ae);(focus decide))|fail)
   have c1:=cc.1
   clear cc hz hp
   obtain⟨p0,p1,p2,p3⟩:=kb.xr.resolve_left (by omega)
   have hvb:C4 vc=bc:=by rw[p0];rfl
   have hvo:Gy vc=0:=by rw[p0];rfl
   have ln:(M.g.Acts.flatMap Bn).length=M.g.Acts.length*6:=Wt Ba _
   have rin:∀ x,1≤Y3 x 1 8∧Y3 x 1 8≤rgB x 1 8∧rgB x 1 8≤1000000:=fun x=>⟨(B0L x).1,(B0L x).2.1,Int.le_trans (B0L x).2.2 (by decide)⟩
   unfold fh
   rw[hvb,hvo]
   refine Al (by simp(disch:=try exact dA) only[Bh,C9,Ab,irN,nrA,nrM,nrE,reduceIte,reduceCtorEq,nrL];rw[p1];exact B0f rfl rfl (by rw[ln];omega)) ?_
   rw[Nat.zero_add,show ∀ a b:Int,(Value.agg ⟨[iv a,iv b]⟩).cells.toList=[iv a,iv b] from fun _ _=>rfl,U7 M.g.Acts p.toNat _ _ (by omega)]
   refine⟨⟨.inr (by rw[B0g (by omega) (d:=[va,vb,vc]) (T:=26) (by simp(disch:=try exact dA) only[Bh,C9,Ab,irN,nrA,nrM,nrE,reduceIte,reduceCtorEq,nrL];exact w4)];simp(disch:=try exact dA) only[Bh,C9,Ab,irN,nrA,nrM,nrE,reduceIte,reduceCtorEq,nrL];exact w4.symm),trivial⟩, ?_⟩
   repeat'(first|((with_reducible refine hK _ _ fun e2 Aj=>?_);clear hK K;simp only[Jo,Ag,Af,and_true,↓pb,An,C9,Ab,irN,nrA,nrM,nrE,reduceIte,reduceCtorEq,nrL]at Aj;clear Ab;(try clear eg);have Ab:=Aj;clear Aj;rename Bi=>eg)|((first|((with_reducible first|apply Ac|apply Al|apply Ak);(simp(disch:=try exact dA) only[Bh,C9,Ab,irN,nrA,nrM,nrE,reduceIte,reduceCtorEq,nrL];with_reducible exact rfl))|((with_reducible first|apply Ar|apply As|apply Aq);(focus exact Ee))|(with_reducible first|refine Ai Jo fun K hK=>?_|refine Aw Jo fun K hK=>?_));try simp only[↓pb,↓pd,Bp,C9,Ab,irN,nrA,nrM,nrE,reduceIte,reduceCtorEq,nrL])|((first|((with_reducible first|apply Br|apply Bt|apply Cc|apply Cd);exact rfl)|(with_reducible apply Au));(simp only[↓pb,An,C9,Ab,irN,nrA,nrM,nrE,reduceIte,reduceCtorEq,nrL];with_reducible exact rfl);all_goals(intro hc;(first|exact C8 hc|try simp only[C0]at hc);try((with_reducible first|apply E3|apply Ge);simp only[↓pb,↓pd,Bp,C9,hc,Ab,irN,nrA,nrM,nrE,reduceIte,reduceCtorEq,nrL])))|((with_reducible apply Jg);exact rfl;(focus(simp only[↓pb,An,C9,Ab,irN,nrA,nrM,nrE,reduceIte,reduceCtorEq,nrL];done));try simp only[↓pb,↓pd,Bp,C9,Ab,irN,nrA,nrM,nrE,reduceIte,reduceCtorEq,nrL])|(with_reducible first|refine Az ?_|refine Ap ?_|refine At ?_|refine Ay ?_|refine Ax ?_|apply Ad)|((with_reducible apply Ae);(focus decide))|fail)
   refine⟨rfl,by simp only[Ab,and_self],Fr.kp (by exact Bm) (by omega) (by omega) (by simp only[↓pb,An,C9,Ab,irN,nrA,nrM,nrE,reduceIte,reduceCtorEq,nrL];omega) p2,C1.kp (by exact Bb) (by simp only[↓pb,An,C9,Ab,irN,nrA,nrM,nrE,reduceIte,reduceCtorEq,nrL];omega) p2,_,rgS (Cb z M.g.Acts.length) 1 8,(MsL.start t5.ok).put (i:=p.toNat) (by omega) (rin _), ?_,Vv.store (kb.feed (N:=0) (n0:=H.n) (by exact Bm) fb (by omega) hq4) (by omega) (by rw[List.length_set])⟩
   rw[A0z (by omega) (by omega)]
   simp(disch:=try exact dA) only[Bh,C9,Ab,irN,nrA,nrM,nrE,reduceIte,reduceCtorEq,nrL]
 rintro e2 h2 ⟨⟨j3,j4⟩,F2,T2,L0,x0,ML0,fx0,A0⟩
 clear Ab
 have Ab:=B9p j3 j4
 clear j3 j4 kb fb Tb r4 w4 hr lr hxr hG GA GTr hx3 hsk hgp hgn hF3 hT3
 have n2:=F2.n
 have F2r:Fr H.n (List.range h2.n) H h2:=F2.mono (Nat.le_refl _) (by intro b hb;simp at hb)
 repeat'(first|((with_reducible refine hK _ _ fun e2 Aj=>?_);clear hK K;simp only[Jo,Ag,Af,and_true,↓pb,An,C9,Ab,irN,nrA,nrM,nrE,reduceIte,reduceCtorEq,nrL]at Aj;clear Ab;(try clear eg);have Ab:=Aj;clear Aj;rename Bi=>eg)|((first|((with_reducible first|apply Ac|apply Al|apply Ak);(simp(disch:=try exact dA) only[Bh,C9,Ab,irN,nrA,nrM,nrE,reduceIte,reduceCtorEq,nrL];with_reducible exact rfl))|((with_reducible first|apply Ar|apply As|apply Aq);(focus exact Ee))|(with_reducible first|refine Ai Jo fun K hK=>?_|refine Aw Jo fun K hK=>?_));try simp only[↓pb,↓pd,Bp,C9,Ab,irN,nrA,nrM,nrE,reduceIte,reduceCtorEq,nrL])|((first|((with_reducible first|apply Br|apply Bt|apply Cc|apply Cd);exact rfl)|(with_reducible apply Au));(simp only[↓pb,An,C9,Ab,irN,nrA,nrM,nrE,reduceIte,reduceCtorEq,nrL];with_reducible exact rfl);all_goals(intro hc;(first|exact C8 hc|try simp only[C0]at hc);try((with_reducible first|apply E3|apply Ge);simp only[↓pb,↓pd,Bp,C9,hc,Ab,irN,nrA,nrM,nrE,reduceIte,reduceCtorEq,nrL])))|((with_reducible apply Jg);exact rfl;(focus(simp only[↓pb,An,C9,Ab,irN,nrA,nrM,nrE,reduceIte,reduceCtorEq,nrL];done));try simp only[↓pb,↓pd,Bp,C9,Ab,irN,nrA,nrM,nrE,reduceIte,reduceCtorEq,nrL])|(with_reducible first|refine Az ?_|refine Ap ?_|refine At ?_|refine Ay ?_|refine Ax ?_|apply Ad)|((with_reducible apply Ae);(focus decide))|fail)
 refine Db [3,4] (by kernel_rfl) 7 (M.g.Acts.length) (H.n) (List.range h2.n) (List.range h2.n) (fun i e h=>∃ (L:List E8),MsL M.g.Acts L i∧h.get H.n=.cells [uv x0] 85 .ex∧Vv M.g L H3.n gq bc T va vb vc h∧Fr H.n [] H h) (by simp only[↓pb,An,C9,Ab,irN,nrA,nrM,nrE,reduceIte,reduceCtorEq,nrL]) (by focus exact Bb) (H0:=H) (by focus exact Bm) (by intro b hb hlt;simp at hb ⊢;try omega) ?_ ?_
 rotate_left
 intro i1 e1 h1 hi1 D3 ei1 Ep D9 Mf Hh
 simp only[Ag,Af,and_true]at D3
 try simp only[↓pb,An,C9,Ab,irN,nrA,nrM,nrE,reduceIte,reduceCtorEq,nrL]at D3
 have hn11:=Ep.n;have hn01:=D9.n;try simp only[Ao,A3]at hn11
 replace Ab:=B9p ei1 D3
 rotate_left
 ·exact⟨L0,ML0,fx0,A0,F2⟩
 obtain⟨L,ML,fx,A,Fh⟩:=Hh
 have lL:L.length=M.g.Acts.length:=ML.len
 have r4:h1.rd H3.n=some [va,vb,vc]:=by rw[Bf,A.g4];rfl
 have w4:=A.g4
 obtain⟨bd1,bd2,bd3⟩:=A.bd
 have S6:SR h1 6 M.g.Acts.length vc (L.flatMap Bn):=by
  have:=A.rg.r
  rw[← lL]
  exact this
 have lS6:=S6.lt
 have nh:=Fh.n
 by_cases hi2:i1<M.g.Acts.length
 ·obtain⟨p0,p1,p2,p3⟩:=A.xr.resolve_left (by omega)
  have hvb:C4 vc=bc:=by rw[p0];rfl
  have hvo:Gy vc=0:=by rw[p0];rfl
  have ln:(L.flatMap Bn).length=M.g.Acts.length*6:=by rw[Wt Ba,lL]
  repeat'(first|((with_reducible refine hK _ _ fun e2 Aj=>?_);clear hK K;simp only[Jo,Ag,Af,and_true,↓pb,An,C9,Ab,irN,nrA,nrM,nrE,reduceIte,reduceCtorEq,nrL]at Aj;clear Ab;(try clear eg);have Ab:=Aj;clear Aj;rename Bi=>eg)|((first|((with_reducible first|apply Ac|apply Al|apply Ak);(simp(disch:=try exact dA) only[Bh,C9,r4,w4,Ah S6,S6.mapB,Ce S6,S6.rd,(S6.el Ba lL.symm),Bn,Ab,irN,nrA,nrM,nrE,reduceIte,reduceCtorEq,nrL];with_reducible exact rfl))|((with_reducible first|apply Ar|apply As|apply Aq);(focus exact Ee))|(with_reducible first|refine Ai Jo fun K hK=>?_|refine Aw Jo fun K hK=>?_));try simp only[↓pb,↓pd,Bp,C9,r4,w4,Ah S6,S6.mapB,Ce S6,S6.rd,(S6.el Ba lL.symm),Bn,Ab,irN,nrA,nrM,nrE,reduceIte,reduceCtorEq,nrL])|((first|((with_reducible first|apply Br|apply Bt|apply Cc|apply Cd);exact rfl)|(with_reducible apply Au));(simp only[↓pb,An,C9,r4,w4,Ah S6,S6.mapB,Ce S6,S6.rd,(S6.el Ba lL.symm),Bn,Ab,irN,nrA,nrM,nrE,reduceIte,reduceCtorEq,nrL];with_reducible exact rfl);all_goals(intro hc;(first|exact C8 hc|try simp only[C0]at hc);try((with_reducible first|apply E3|apply Ge);simp only[↓pb,↓pd,Bp,C9,r4,w4,Ah S6,S6.mapB,Ce S6,S6.rd,(S6.el Ba lL.symm),Bn,hc,Ab,irN,nrA,nrM,nrE,reduceIte,reduceCtorEq,nrL])))|((with_reducible apply Jg);exact rfl;(focus(simp only[↓pb,An,C9,r4,w4,Ah S6,S6.mapB,Ce S6,S6.rd,(S6.el Ba lL.symm),Bn,Ab,irN,nrA,nrM,nrE,reduceIte,reduceCtorEq,nrL];done));try simp only[↓pb,↓pd,Bp,C9,r4,w4,Ah S6,S6.mapB,Ce S6,S6.rd,(S6.el Ba lL.symm),Bn,Ab,irN,nrA,nrM,nrE,reduceIte,reduceCtorEq,nrL])|(with_reducible first|refine Az ?_|refine Ap ?_|refine At ?_|refine Ay ?_|refine Ax ?_|apply Ad)|((with_reducible apply Ae);(focus decide))|fail)
  have sp:=X3 L i1 (min (L.getD i1 default).Max (IntKind.i64.wrap ((L.getD i1 default).Min+3))) (by omega)
  rw[hvb,hvo,Nat.zero_add]
  refine Al (by rw[p1];exact B0f rfl rfl (by rw[ln];omega)) ?_
  rw[show ∀ y:Int,(Value.int IntKind.i64 y).cells.toList=[iv y] from fun _=>rfl,sp]
  have q:∀ o,o=Dd.cells ((L.set i1 (X2 (L.getD i1 default) (L.getD i1 default).Min (min (L.getD i1 default).Max (IntKind.i64.wrap ((L.getD i1 default).Min+3))))).flatMap Bn) T (.gr gq 6 true)→(kp h1 gq bc o).get H3.n=h1.get H3.n:=fun o _=>by rw[B0g (by omega) w4];exact w4.symm
  refine⟨⟨.inl (by show Gh _ 16 22=true;decide),.inr (q _ rfl),.inl (by show Gh _ 9 22=true;decide),.inr (q _ rfl),.inr (q _ rfl),trivial⟩, ?_⟩
  repeat'(first|((with_reducible refine hK _ _ fun e2 Aj=>?_);clear hK K;simp only[Jo,Ag,Af,and_true,↓pb,An,C9,Ab,irN,nrA,nrM,nrE,reduceIte,reduceCtorEq,nrL]at Aj;clear Ab;(try clear eg);have Ab:=Aj;clear Aj;rename Bi=>eg)|((first|((with_reducible first|apply Ac|apply Al|apply Ak);(simp(disch:=try exact dA) only[Bh,C9,Ab,irN,nrA,nrM,nrE,reduceIte,reduceCtorEq,nrL];with_reducible exact rfl))|((with_reducible first|apply Ar|apply As|apply Aq);(focus exact Ee))|(with_reducible first|refine Ai Jo fun K hK=>?_|refine Aw Jo fun K hK=>?_));try simp only[↓pb,↓pd,Bp,C9,Ab,irN,nrA,nrM,nrE,reduceIte,reduceCtorEq,nrL])|((first|((with_reducible first|apply Br|apply Bt|apply Cc|apply Cd);exact rfl)|(with_reducible apply Au));(simp only[↓pb,An,C9,Ab,irN,nrA,nrM,nrE,reduceIte,reduceCtorEq,nrL];with_reducible exact rfl);all_goals(intro hc;(first|exact C8 hc|try simp only[C0]at hc);try((with_reducible first|apply E3|apply Ge);simp only[↓pb,↓pd,Bp,C9,hc,Ab,irN,nrA,nrM,nrE,reduceIte,reduceCtorEq,nrL])))|((with_reducible apply Jg);exact rfl;(focus(simp only[↓pb,An,C9,Ab,irN,nrA,nrM,nrE,reduceIte,reduceCtorEq,nrL];done));try simp only[↓pb,↓pd,Bp,C9,Ab,irN,nrA,nrM,nrE,reduceIte,reduceCtorEq,nrL])|(with_reducible first|refine Az ?_|refine Ap ?_|refine At ?_|refine Ay ?_|refine Ax ?_|apply Ad)|((with_reducible apply Ae);(focus decide))|fail)
  refine⟨by omega,by simp only[↓pb,An,C9,Ab,irN,nrA,nrM,nrE,reduceIte,reduceCtorEq,nrL];exact congrArg _ (Di (by omega)),Fr.all F2 hT (Fr.kp Fh (by omega) (by omega) (by omega) p2) hn11 (C1.kp Mf (by omega) p2),_,ML.clamp hi2, ?_,A.store (by omega) (by rw[List.length_set]),Fr.kp Fh (by omega) (by omega) (by omega) p2⟩
  rw[A0z (by omega) (by omega)]
  exact fx
 ·have e1n:i1=M.g.Acts.length:=by omega
  subst e1n
  repeat'(first|((with_reducible refine hK _ _ fun e2 Aj=>?_);clear hK K;simp only[Jo,Ag,Af,and_true,↓pb,An,C9,Ab,irN,nrA,nrM,nrE,reduceIte,reduceCtorEq,nrL]at Aj;clear Ab;(try clear eg);have Ab:=Aj;clear Aj;rename Bi=>eg)|((first|((with_reducible first|apply Ac|apply Al|apply Ak);(simp(disch:=try exact dA) only[Bh,C9,r4,w4,Ah S6,S6.mapB,Ab,irN,nrA,nrM,nrE,reduceIte,reduceCtorEq,nrL];with_reducible exact rfl))|((with_reducible first|apply Ar|apply As|apply Aq);(focus exact Ee))|(with_reducible first|refine Eu Jo [10] fun K hK=>?_|refine Fx Jo [10] fun K hK=>?_));try simp only[↓pb,↓pd,Bp,C9,r4,w4,Ah S6,S6.mapB,Ab,irN,nrA,nrM,nrE,reduceIte,reduceCtorEq,nrL])|((first|((with_reducible first|apply Br|apply Bt|apply Cc|apply Cd);exact rfl)|(with_reducible apply Au));(simp only[↓pb,An,C9,r4,w4,Ah S6,S6.mapB,Ab,irN,nrA,nrM,nrE,reduceIte,reduceCtorEq,nrL];with_reducible exact rfl);all_goals(intro hc;(first|exact C8 hc|try simp only[C0]at hc);try((with_reducible first|apply E3|apply Ge);simp only[↓pb,↓pd,Bp,C9,r4,w4,Ah S6,S6.mapB,hc,Ab,irN,nrA,nrM,nrE,reduceIte,reduceCtorEq,nrL])))|((with_reducible apply Jg);exact rfl;(focus(simp only[↓pb,An,C9,r4,w4,Ah S6,S6.mapB,Ab,irN,nrA,nrM,nrE,reduceIte,reduceCtorEq,nrL];done));try simp only[↓pb,↓pd,Bp,C9,r4,w4,Ah S6,S6.mapB,Ab,irN,nrA,nrM,nrE,reduceIte,reduceCtorEq,nrL])|(with_reducible first|refine Az ?_|refine Ap ?_|refine At ?_|refine Ay ?_|refine Ax ?_|apply Ad)|((with_reducible apply Ae);(focus decide))|fail)
  have ckA:check ⟨M.g.Spots,M.g.Sorts,L⟩=0:=ML.check t5.ck
  have clA:=ML.cl
  have Y3:=A.rg
  have skA:=A.hk
  have eP:(⟨M.g.Spots,M.g.Sorts,L⟩:Cv).Spots.length=M.g.Spots.length:=rfl
  have eL:(⟨M.g.Spots,M.g.Sorts,L⟩:Cv).Acts.length=M.g.Acts.length:=lL
  have eL2:(⟨M.g.Spots,M.g.Sorts,L⟩:Cv).Acts=L:=rfl
  rw[← lL,← eL2]at clA
  rw[← eP]at skA
  generalize (⟨M.g.Spots,M.g.Sorts,L⟩:Cv)=gA at ckA clA Y3 skA eP eL eL2
  have okA:=Nm ckA
  have k1:MmT gA [] H3.n va vb vc (.slice none 0 0) h1:=⟨A.g4,Y3,skA,(GS.nul (s:=1)).sr,bd1⟩
  have hT1:=Mf
  clear A ML Y3 skA fx0 A0 ML0 Ep D9 F2r S6 lS6 eP eL2 Yj lL
  have aP:=okA.spots
  have aQ:=okA.sorts
  have aA:=okA.acts
  have aS:∀ u,u<gA.Acts.length→0≤(gA.Acts.getD u default).Spot∧(gA.Acts.getD u default).Spot<gA.Spots.length:=fun u hu=>by
   obtain⟨_,a⟩:=okA.at hu
   exact a.s
  have aM:∀ u,u<gA.Acts.length→-1000000≤(gA.Acts.getD u default).Min∧(gA.Acts.getD u default).Min≤1000000∧(gA.Acts.getD u default).Max≤1000000:=fun u hu=>by
   have:=okA.mass hu
   omega
  have aL:(trS gA gA.Acts.length []).length≤1048576:=A99 okA clA
  have aB:([]:List (List Int)).length+(trS gA gA.Acts.length []).length≤1000000000:=by rw[List.length_nil];omega
  repeat'(first|((with_reducible refine hK _ _ fun e2 Aj=>?_);clear hK K;simp only[Jo,Ag,Af,and_true,↓pb,An,C9,Ab,irN,nrA,nrM,nrE,reduceIte,reduceCtorEq,nrL]at Aj;clear Ab;(try clear eg);have Ab:=Aj;clear Aj;rename Bi=>eg)|((first|((with_reducible first|apply Ac|apply Al|apply Ak);(simp(disch:=try exact dA) only[Bh,C9,r4,w4,hgo,Ab,irN,nrA,nrM,nrE,reduceIte,reduceCtorEq,nrL];with_reducible exact rfl))|((with_reducible first|apply Ar|apply As|apply Aq);(focus exact Ee))|((with_reducible apply Cy);(focus exact Bb);(simp only[↓pb,An,C9,r4,w4,hgo,Ab,irN,nrA,nrM,nrE,reduceIte,reduceCtorEq,nrL];exact f43 va vb vc gA _ aA (by omega) aS aM gA.Acts.length [] [] _ _ none _ (Nat.zero_add _) (Nat.le_refl _) (by exact Bb) (k1.fr (N:=h1.n) (by exact Bm)).hG (GS.nul (s:=1)).sr TS.nul aB);(rintro vq Gq hq Fy ⟨gt',Tt⟩;try simp only[Ao,A3]at hq))|(with_reducible first|refine Eu Jo [11] fun K hK=>?_|refine Fx Jo [11] fun K hK=>?_));try simp only[↓pb,↓pd,Bp,C9,r4,w4,hgo,Ab,irN,nrA,nrM,nrE,reduceIte,reduceCtorEq,nrL])|((first|((with_reducible first|apply Br|apply Bt|apply Cc|apply Cd);exact rfl)|(with_reducible apply Au));(simp only[↓pb,An,C9,r4,w4,hgo,Ab,irN,nrA,nrM,nrE,reduceIte,reduceCtorEq,nrL];with_reducible exact rfl);all_goals(intro hc;(first|exact C8 hc|try simp only[C0]at hc);try((with_reducible first|apply E3|apply Ge);simp only[↓pb,↓pd,Bp,C9,r4,w4,hgo,hc,Ab,irN,nrA,nrM,nrE,reduceIte,reduceCtorEq,nrL])))|((with_reducible apply Jg);exact rfl;(focus(simp only[↓pb,An,C9,r4,w4,hgo,Ab,irN,nrA,nrM,nrE,reduceIte,reduceCtorEq,nrL];done));try simp only[↓pb,↓pd,Bp,C9,r4,w4,hgo,Ab,irN,nrA,nrM,nrE,reduceIte,reduceCtorEq,nrL])|(with_reducible first|refine Az ?_|refine Ap ?_|refine At ?_|refine Ay ?_|refine Ax ?_|apply Ad)|((with_reducible apply Ae);(focus decide))|fail)
  have ot:=Tt.one
  have hT2:C1 (h1.jn Gq):=by exact Bb
  refine Ga (N:=H.n) (X:=[]) (h0:=H) (fun h=>MmT gA [] H3.n va vb vc (.slice none 0 0) h∧(∃ vs,SR h 1 (J8 gA).length vq vs∧LL h vs (J8 gA))∧h.get H.n=.cells [uv x0] 85 .ex∧C1 h) (by exact Bm) ⟨k1.fr (N:=h1.n) (by exact Bm), ?_,by simp(disch:=try exact dA) only[Bh,C9,Ab,irN,nrA,nrM,nrE,reduceIte,reduceCtorEq,nrL];exact fx,hT2⟩ ?_
  ·obtain⟨vs,z1,_,z2⟩:=Tt
   exact⟨vs,z1.sr,z2⟩
  rintro h3 F3 ⟨k3,⟨vs,Sv,Lv⟩,fx3,T3⟩
  have aT:(J8 gA).length≤1048576:=aL
  clear Tt hT2 Fy hq k1 hT1 fx Fh nh
  obtain⟨AL,hAL⟩:∃ AL,AL=J8 gA:=⟨_,rfl⟩
  rw[← hAL]at Sv Lv aT
  have r3:h3.rd H3.n=some [va,vb,vc]:=by rw[Bf,k3.g4];rfl
  have w3:=k3.g4
  have b3:=k3.bd
  have gp3:=k3.hG.p
  have n3:=F3.n
  clear r4 w4
  repeat'(first|((with_reducible refine hK _ _ fun e2 Aj=>?_);clear hK K;simp only[Jo,Ag,Af,and_true,↓pb,An,C9,Ab,irN,nrA,nrM,nrE,reduceIte,reduceCtorEq,nrL]at Aj;clear Ab;(try clear eg);have Ab:=Aj;clear Aj;rename Bi=>eg)|((first|((with_reducible first|apply Ac|apply Al|apply Ak);(simp(disch:=try exact dA) only[Bh,C9,fx3,r3,w3,Am gp3,gp3.mapB,hgo,Ab,irN,nrA,nrM,nrE,reduceIte,reduceCtorEq,nrL];with_reducible exact rfl))|((with_reducible first|apply Ar|apply As|apply Aq);(focus exact Ee))|((with_reducible apply Cp);(simp only[↓pb,An,C9,fx3,r3,w3,Am gp3,gp3.mapB,hgo,Ab,irN,nrA,nrM,nrE,reduceIte,reduceCtorEq,nrL];(exact f20 _ _ _ _ (by simp(disch:=try exact dA) only[Bh,C9,fx3,r3,w3,Am gp3,gp3.mapB,hgo,Ab,irN,nrA,nrM,nrE,reduceIte,reduceCtorEq,nrL];rfl) (by omega))))|(with_reducible first|refine Eu Jo [12] fun K hK=>?_|refine Fx Jo [12] fun K hK=>?_));try simp only[↓pb,↓pd,Bp,C9,fx3,r3,w3,Am gp3,gp3.mapB,hgo,Ab,irN,nrA,nrM,nrE,reduceIte,reduceCtorEq,nrL])|((first|((with_reducible first|apply Br|apply Bt|apply Cc|apply Cd);exact rfl)|(with_reducible apply Au));(simp only[↓pb,An,C9,fx3,r3,w3,Am gp3,gp3.mapB,hgo,Ab,irN,nrA,nrM,nrE,reduceIte,reduceCtorEq,nrL];with_reducible exact rfl);all_goals(intro hc;(first|exact C8 hc|try simp only[C0]at hc);try((with_reducible first|apply E3|apply Ge);simp only[↓pb,↓pd,Bp,C9,fx3,r3,w3,Am gp3,gp3.mapB,hgo,hc,Ab,irN,nrA,nrM,nrE,reduceIte,reduceCtorEq,nrL])))|((with_reducible apply Jg);exact rfl;(focus(simp only[↓pb,An,C9,fx3,r3,w3,Am gp3,gp3.mapB,hgo,Ab,irN,nrA,nrM,nrE,reduceIte,reduceCtorEq,nrL];done));try simp only[↓pb,↓pd,Bp,C9,fx3,r3,w3,Am gp3,gp3.mapB,hgo,Ab,irN,nrA,nrM,nrE,reduceIte,reduceCtorEq,nrL])|(with_reducible first|refine Az ?_|refine Ap ?_|refine At ?_|refine Ay ?_|refine Ax ?_|apply Ad)|((with_reducible apply Ae);(focus decide))|fail)
  obtain⟨hour,hh⟩:∃ hour,hour=Cm x0 12:=⟨_,rfl⟩
  obtain⟨age,ha⟩:∃ age,age=Cm (Cb x0 12) 8:=⟨_,rfl⟩
  obtain⟨spt,hs⟩:∃ spt,spt=Cm (Cb (Cb x0 12) 8) gA.Spots.length:=⟨_,rfl⟩
  rw[← hh,← ha,← hs]at Ab
  have hr:0≤hour∧hour<12:=hh ▸ Xr x0 12 (by decide) (by decide)
  have hg:0≤age∧age<8:=ha ▸ Xr (Cb x0 12) 8 (by decide) (by decide)
  have hp:0≤spt∧spt<gA.Spots.length:=by
   have q:=Dw (Cb (Cb x0 12) 8) (gA.Spots.length:Int) (Int.lt_of_le_of_lt (Int.ofNat_le.2 aP.2) (by decide))
   rw[← hs]at q
   exact⟨q.1,q.2.1 (Int.ofNat_lt.2 aP.1)⟩
  clear hh ha hs
  refine Ga (N:=H.n) (X:=[]) (h0:=H) (fun h=>MmT gA [] H3.n va vb vc (.slice none 0 0) h∧(∃ vs,SR h 1 AL.length vq vs∧LL h vs AL)∧C1 h) (by exact Bm) ⟨k3.feed (N:=0) (n0:=H.n) (by exact Bm) fx3 (by omega),⟨vs,Sv.fr (N:=0) (X:=[H.n]) (by exact Bm) (LL.off Sv Lv fx3),Lv.feed (N:=0) (n0:=H.n) (by exact Bm) fx3⟩,by exact Bb⟩ ?_
  clear k3 Sv Lv T3 fx3 r3 w3 b3 gp3
  rintro h4 F4 ⟨k4,⟨vs,Sv,Lv⟩,T4⟩
  have r4:h4.rd H3.n=some [va,vb,vc]:=by rw[Bf,k4.g4];rfl
  have w4:=k4.g4
  have b4:=k4.bd
  have gp4:=k4.hG.p
  have n4:=F4.n
  repeat'(first|((with_reducible refine hK _ _ fun e2 Aj=>?_);clear hK K;simp only[Jo,Ag,Af,and_true,↓pb,An,C9,Ab,irN,nrA,nrM,nrE,reduceIte,reduceCtorEq,nrL]at Aj;clear Ab;(try clear eg);have Ab:=Aj;clear Aj;rename Bi=>eg)|((first|((with_reducible first|apply Ac|apply Al|apply Ak);(simp(disch:=try exact dA) only[Bh,C9,r4,w4,hgo,Ab,irN,nrA,nrM,nrE,reduceIte,reduceCtorEq,nrL];with_reducible exact rfl))|((with_reducible first|apply Ar|apply As|apply Aq);(focus exact Ee))|((with_reducible apply Cy);(focus exact Bb);(simp only[↓pb,An,C9,r4,w4,hgo,Ab,irN,nrA,nrM,nrE,reduceIte,reduceCtorEq,nrL];exact f21 _ _ _ gA hour _ (by exact Bb) (k4.hG.fr (N:=h4.n) (by exact Bm)) (by omega) (by omega));(rintro vq Gq hq Fy ⟨vr,rfl,Sr⟩;try simp only[Ao,A3]at hq))|((with_reducible apply Bz);(focus exact Bb);(simp only[↓pb,An,C9,r4,w4,hgo,Ab,irN,nrA,nrM,nrE,reduceIte,reduceCtorEq,nrL];(first|exact f23 _ _ _ gA _ _ _ _ (by exact Bb) (k4.hG.fr (N:=h4.n) (by exact Bm)) (by omega) (by omega)|exact f29 _ _ _ gA _ (by exact Bb) (k4.fr (N:=h4.n) (by exact Bm)).hG (k4.fr (N:=h4.n) (by exact Bm)).hk (by omega) (by omega)));(intro Gq hq Fy;try simp only[Ao,A3]at hq))|(with_reducible first|refine Eu Jo [15] fun K hK=>?_|refine Fx Jo [15] fun K hK=>?_));try simp only[↓pb,↓pd,Bp,C9,r4,w4,hgo,Ab,irN,nrA,nrM,nrE,reduceIte,reduceCtorEq,nrL])|((first|((with_reducible first|apply Br|apply Bt|apply Cc|apply Cd);exact rfl)|(with_reducible apply Au));(simp only[↓pb,An,C9,r4,w4,hgo,Ab,irN,nrA,nrM,nrE,reduceIte,reduceCtorEq,nrL];with_reducible exact rfl);all_goals(intro hc;(first|exact C8 hc|try simp only[C0]at hc);try((with_reducible first|apply E3|apply Ge);simp only[↓pb,↓pd,Bp,C9,r4,w4,hgo,hc,Ab,irN,nrA,nrM,nrE,reduceIte,reduceCtorEq,nrL])))|((with_reducible apply Jg);exact rfl;(focus(simp only[↓pb,An,C9,r4,w4,hgo,Ab,irN,nrA,nrM,nrE,reduceIte,reduceCtorEq,nrL];done));try simp only[↓pb,↓pd,Bp,C9,r4,w4,hgo,Ab,irN,nrA,nrM,nrE,reduceIte,reduceCtorEq,nrL])|(with_reducible first|refine Az ?_|refine Ap ?_|refine At ?_|refine Ay ?_|refine Ax ?_|apply Ad)|((with_reducible apply Ae);(focus decide))|fail)
  refine Ga (N:=H.n) (X:=[]) (h0:=H) (fun h=>MmT gA [] H3.n va vb vc (.slice none 0 0) h∧SR h 2 (masses gA hour).1.length vr ((masses gA hour).1.flatMap To)∧(∃ vs,SR h 1 AL.length vq vs∧LL h vs AL)∧C1 h) (by exact Bm) ⟨k4.fr (N:=h4.n) (by exact Bm),Sr.fr0 (N:=0) (by exact Bm),⟨vs,Sv.fr0 (N:=0) (by exact Bm),Lv.fr (N:=0) (by exact Bm)⟩,by exact Bb⟩ ?_
  clear k4 Sv Lv T4 r4 w4 b4 gp4 Sr
  rintro h5 F5 ⟨k5,Sr,⟨vs,Sv,Lv⟩,T5⟩
  have r5:h5.rd H3.n=some [va,vb,vc]:=by rw[Bf,k5.g4];rfl
  have w5:=k5.g4
  have b5:=k5.bd
  have gp5:=k5.hG.p
  have n5:=F5.n
  have or:=Sr.one
  by_cases hkn:(known gA).2=0
  ·have K:Kn gA:=⟨okA,ckA,hkn⟩
   obtain⟨i,rfl⟩:∃ i:Nat,spt=i:=⟨spt.toNat,by omega⟩
   have said:=K.said hr.1 (show hour≤72 by omega) hg.1 (show age≤72 by omega) (i:=i) (by omega)
   have m0:=said.ms
   have o0:=said.oe
   have b0:=said.be
   have ml:=said.len
   have ne0:¬ (AL.length:Int)=0:=by
    have:=K.ne
    rw[← hAL]at this
    omega
   repeat'(first|((with_reducible refine hK _ _ fun e2 Aj=>?_);clear hK K;simp only[Jo,Ag,Af,and_true,↓pb,An,C9,Ab,irN,nrA,nrM,nrE,reduceIte,reduceCtorEq,nrL]at Aj;clear Ab;(try clear eg);have Ab:=Aj;clear Aj;rename Bi=>eg)|((first|((with_reducible first|apply Ac|apply Al|apply Ak);(simp(disch:=try exact dA) only[Bh,C9,r5,w5,hgo,or,ne0,m0,o0,b0,J6 Sr,ml,Am gp5,En Sv,gp5.mapB,Sr.mapB,Sv.mapB,U6,Ab,irN,nrA,nrM,nrE,reduceIte,reduceCtorEq,nrL];with_reducible exact rfl))|((with_reducible first|apply Ar|apply As|apply Aq);(focus exact Ee))|(with_reducible first|refine Ai Jo fun K hK=>?_|refine Aw Jo fun K hK=>?_));try simp only[↓pb,↓pd,Bp,C9,r5,w5,hgo,or,ne0,m0,o0,b0,J6 Sr,ml,Am gp5,En Sv,gp5.mapB,Sr.mapB,Sv.mapB,U6,Ab,irN,nrA,nrM,nrE,reduceIte,reduceCtorEq,nrL])|((first|((with_reducible first|apply Br|apply Bt|apply Cc|apply Cd);exact rfl)|(with_reducible apply Au));(simp only[↓pb,An,C9,r5,w5,hgo,or,ne0,m0,o0,b0,J6 Sr,ml,Am gp5,En Sv,gp5.mapB,Sr.mapB,Sv.mapB,U6,Ab,irN,nrA,nrM,nrE,reduceIte,reduceCtorEq,nrL];with_reducible exact rfl);all_goals(intro hc;(first|exact C8 hc|try simp only[C0]at hc);try((with_reducible first|apply E3|apply Ge);simp only[↓pb,↓pd,Bp,C9,r5,w5,hgo,or,ne0,m0,o0,b0,J6 Sr,ml,Am gp5,En Sv,gp5.mapB,Sr.mapB,Sv.mapB,U6,hc,Ab,irN,nrA,nrM,nrE,reduceIte,reduceCtorEq,nrL])))|((with_reducible apply Jg);exact rfl;(focus(simp only[↓pb,An,C9,r5,w5,hgo,or,ne0,m0,o0,b0,J6 Sr,ml,Am gp5,En Sv,gp5.mapB,Sr.mapB,Sv.mapB,U6,Ab,irN,nrA,nrM,nrE,reduceIte,reduceCtorEq,nrL];done));try simp only[↓pb,↓pd,Bp,C9,r5,w5,hgo,or,ne0,m0,o0,b0,J6 Sr,ml,Am gp5,En Sv,gp5.mapB,Sr.mapB,Sv.mapB,U6,Ab,irN,nrA,nrM,nrE,reduceIte,reduceCtorEq,nrL])|(with_reducible first|refine Az ?_|refine Ap ?_|refine At ?_|refine Ay ?_|refine Ax ?_|apply Ad)|((with_reducible apply Ae);(focus decide))|fail)
   have tm:∀ k,k<AL.length→Da gA (AL.getD k []):=fun k hk=>(So okA ckA).1 (by rw[← hAL];exact Ib hk)
   refine Db [4,8,9,10,11,12,14,16,17] (by kernel_rfl) 19 (gA.Spots.length) (H.n) [] [] (fun i e h=>True) (by simp only[↓pb,An,C9,Ab,irN,nrA,nrM,nrE,reduceIte,reduceCtorEq,nrL]) (by focus exact Bb) (H0:=H) (by focus exact Bm) (by intro b hb hlt;simp at hb ⊢;try omega) ?_ ?_
   rotate_left
   intro i6 e6 h6 hi6 hE6 ei6 hF6 B6w B9h hJ6
   simp only[Ag,Af,and_true]at hE6
   try simp only[↓pb,An,C9,Ab,irN,nrA,nrM,nrE,reduceIte,reduceCtorEq,nrL]at hE6
   have hn16:=hF6.n;have hn06:=B6w.n;try simp only[Ao,A3]at hn16
   replace Ab:=B9p ei6 hE6
   rotate_left
   ·trivial
   have k6:=k5.fr hF6
   have S6:=Sr.fr0 hF6
   have V6:=Sv.fr0 hF6
   have L6:=Lv.fr hF6
   have r6:h6.rd H3.n=some [va,vb,vc]:=by rw[Bf,k6.g4];rfl
   have w6:=k6.g4
   have b6:=k6.bd
   have y6:=S6.lt
   by_cases hi6':i6<gA.Spots.length
   ·repeat'(first|((with_reducible refine hK _ _ fun e2 Aj=>?_);clear hK K;simp only[Jo,Ag,Af,and_true,↓pb,An,C9,Ab,irN,nrA,nrM,nrE,reduceIte,reduceCtorEq,nrL]at Aj;clear Ab;(try clear eg);have Ab:=Aj;clear Aj;rename Bi=>eg)|((first|((with_reducible first|apply Ac|apply Al|apply Ak);(simp(disch:=try exact dA) only[Bh,C9,r6,w6,hgo,or,J6 S6,ml,Ab,irN,nrA,nrM,nrE,reduceIte,reduceCtorEq,nrL];with_reducible exact rfl))|((with_reducible first|apply Ar|apply As|apply Aq);(focus exact Ee))|((with_reducible apply Bz);(focus exact Bb);(simp only[↓pb,An,C9,r6,w6,hgo,or,J6 S6,ml,Ab,irN,nrA,nrM,nrE,reduceIte,reduceCtorEq,nrL];(exact f44 _ _ _ (by exact Bb)));(intro Gq hq Fy;try simp only[Ao,A3]at hq))|(with_reducible first|refine Ai Jo fun K hK=>?_|refine Aw Jo fun K hK=>?_));try simp only[↓pb,↓pd,Bp,C9,r6,w6,hgo,or,J6 S6,ml,Ab,irN,nrA,nrM,nrE,reduceIte,reduceCtorEq,nrL])|((first|((with_reducible first|apply Br|apply Bt|apply Cc|apply Cd);exact rfl)|(with_reducible apply Au));(simp only[↓pb,An,C9,r6,w6,hgo,or,J6 S6,ml,Ab,irN,nrA,nrM,nrE,reduceIte,reduceCtorEq,nrL];with_reducible exact rfl);all_goals(intro hc;(first|exact C8 hc|try simp only[C0]at hc);try((with_reducible first|apply E3|apply Ge);simp only[↓pb,↓pd,Bp,C9,r6,w6,hgo,or,J6 S6,ml,hc,Ab,irN,nrA,nrM,nrE,reduceIte,reduceCtorEq,nrL])))|((with_reducible apply Jg);exact rfl;(focus(simp only[↓pb,An,C9,r6,w6,hgo,or,J6 S6,ml,Ab,irN,nrA,nrM,nrE,reduceIte,reduceCtorEq,nrL];done));try simp only[↓pb,↓pd,Bp,C9,r6,w6,hgo,or,J6 S6,ml,Ab,irN,nrA,nrM,nrE,reduceIte,reduceCtorEq,nrL])|(with_reducible first|refine Az ?_|refine Ap ?_|refine At ?_|refine Ay ?_|refine Ax ?_|apply Ad)|((with_reducible apply Ae);(focus decide))|fail)
    obtain⟨f,hf⟩:∃ f:List Int→Int,f=fun t=>(Ct gA t gA.Acts.length hour).mass gA i6:=⟨_,rfl⟩
    have mm:=said.mm i6 hi6'
    rw[← hf,← hAL]at mm
    obtain⟨B,hB⟩:∃ B,B=Gq.n:=⟨_,rfl⟩
    rw[← hB]at Ab hq ⊢
    refine Db [4,8,9,10,11,12,14,16,17,19,20] (by kernel_rfl) 21 (AL.length) (H.n) [B] [] (fun i e h=>h.get B=.cells [iv (mmF f (AL.take i) (1073741824,-1)).1,iv (mmF f (AL.take i) (1073741824,-1)).2] 28 .ex) (by simp only[↓pb,An,C9,Ab,irN,nrA,nrM,nrE,reduceIte,reduceCtorEq,nrL]) (by focus exact Bb) (H0:=H) (by focus exact Bm) (by intro b hb hlt;simp at hb ⊢;try omega) ?_ ?_
    rotate_left
    intro i7 e7 h7 hi7 hE7 ei7 hF7 B4K B79 Y5
    simp only[Ag,Af,and_true]at hE7
    try simp only[↓pb,An,C9,Ab,irN,nrA,nrM,nrE,reduceIte,reduceCtorEq,nrL]at hE7
    have hn17:=hF7.n;have hn07:=B4K.n;try simp only[Ao,A3]at hn17
    replace Ab:=B9p ei7 hE7
    rotate_left
    ·simp(disch:=try exact dA) only[Bh,C9,Ab,irN,nrA,nrM,nrE,reduceIte,reduceCtorEq,nrL]
     rfl
    have F67:Fr H.n [] h6 h7:=Fr.trans' (A:=h6) (by exact Bm) hF7 (Nat.le_refl _) (by intro b hb hlt;simp at hb;omega)
    have k7:=k6.fr F67
    have S7:=S6.fr0 F67
    have V7:=V6.fr0 F67
    have L7:=L6.fr F67
    have r7:h7.rd H3.n=some [va,vb,vc]:=by rw[Bf,k7.g4];rfl
    have w7:=k7.g4
    have b7:=k7.bd
    have g7:h7.rd B=some [iv (mmF f (AL.take i7) (1073741824,-1)).1,iv (mmF f (AL.take i7) (1073741824,-1)).2]:=by rw[Bf,Y5];rfl
    have gr7:=k7.hG.r
    have n67:=F67.n
    have lV:=V7.lt
    have ovq:=V7.one
    by_cases hi7':i7<AL.length
    ·obtain⟨v0,hv0,S0⟩:=L7.at i7 hi7'
     have T0:=tm i7 hi7'
     have htk:=H6 hi7'
     obtain⟨t,ht⟩:∃ t,t=AL.getD i7 []:=⟨_,rfl⟩
     have ht2:AL.getD i7 default=t:=ht.symm
     rw[ht2]at htk
     rw[← ht]at S0 T0
     have tl:=T0.len
     have o0:=S0.one
     obtain⟨hdl,hdt⟩:=Sz gA t gA.Acts.length hour
     have hld:(Yl h7 vq)[Gy vq+i7]? = some v0:=by rw[← Kq,V7.at (j:=i7) (by omega)];exact hv0
     have hms:Lf gA.Acts (Ct gA t gA.Acts.length hour).left (i6:Int) (Ct gA t gA.Acts.length hour).left.length=f t:=by rw[hf];rfl
     repeat'(first|((with_reducible refine hK _ _ fun e2 Aj=>?_);clear hK K;simp only[Jo,Ag,Af,and_true,↓pb,An,C9,Ab,irN,nrA,nrM,nrE,reduceIte,reduceCtorEq,nrL]at Aj;clear Ab;(try clear eg);have Ab:=Aj;clear Aj;rename Bi=>eg)|((first|((with_reducible first|apply Ac|apply Al|apply Ak);(simp(disch:=try exact dA) only[Bh,C9,r7,w7,hgo,ovq,o0,En V7,Ll V7,V7.rd,hld,Nat.mul_one,Ah gr7,gr7.mapB,hms,g7,Y5,Ab,irN,nrA,nrM,nrE,reduceIte,reduceCtorEq,nrL];with_reducible exact rfl))|((with_reducible first|apply Ar|apply As|apply Aq);(focus exact Ee))|((with_reducible apply Cy);(focus exact Bb);(simp only[↓pb,An,C9,r7,w7,hgo,ovq,o0,En V7,Ll V7,V7.rd,hld,Nat.mul_one,Ah gr7,gr7.mapB,hms,g7,Y5,Ab,irN,nrA,nrM,nrE,reduceIte,reduceCtorEq,nrL];exact f35 va vb vc v0 gA t gA.Acts.length hour _ (by exact Bb) (k7.fr (N:=h7.n) (by exact Bm)).hG (S0.fr0 (N:=h7.n) (by exact Bm)) (by omega) (Nat.le_refl _) (by omega) (by omega) aS);(rintro vq Gq hq Fy ⟨dl,ds,rfl,Sl,Ss⟩;try simp only[Ao,A3]at hq))|((with_reducible apply Bz);(focus exact Bb);(simp only[↓pb,An,C9,r7,w7,hgo,ovq,o0,En V7,Ll V7,V7.rd,hld,Nat.mul_one,Ah gr7,gr7.mapB,hms,g7,Y5,Ab,irN,nrA,nrM,nrE,reduceIte,reduceCtorEq,nrL];(first|exact f37 _ _ _ _ _ gA (Ct gA t gA.Acts.length hour).left _ _ (by exact Bb) (k7.fr (N:=h7.n) (by exact Bm)).hG ((Sl.cast hdl.symm).fr0 (N:=0) (by exact Bm)) Ss.one (by omega) (by omega)|exact f44 _ _ _ (by exact Bb)));(intro Gq hq Fy;try simp only[Ao,A3]at hq))|(with_reducible first|refine Ai Jo fun K hK=>?_|refine Aw Jo fun K hK=>?_));try simp only[↓pb,↓pd,Bp,C9,r7,w7,hgo,ovq,o0,En V7,Ll V7,V7.rd,hld,Nat.mul_one,Ah gr7,gr7.mapB,hms,g7,Y5,Ab,irN,nrA,nrM,nrE,reduceIte,reduceCtorEq,nrL])|((first|((with_reducible first|apply Br|apply Bt|apply Cc|apply Cd);exact rfl)|(with_reducible apply Au));(simp only[↓pb,An,C9,r7,w7,hgo,ovq,o0,En V7,Ll V7,V7.rd,hld,Nat.mul_one,Ah gr7,gr7.mapB,hms,g7,Y5,Ab,irN,nrA,nrM,nrE,reduceIte,reduceCtorEq,nrL];with_reducible exact rfl);all_goals(intro hc;(first|exact C8 hc|try simp only[C0]at hc);try((with_reducible first|apply E3|apply Ge);simp only[↓pb,↓pd,Bp,C9,r7,w7,hgo,ovq,o0,En V7,Ll V7,V7.rd,hld,Nat.mul_one,Ah gr7,gr7.mapB,hms,g7,Y5,hc,Ab,irN,nrA,nrM,nrE,reduceIte,reduceCtorEq,nrL])))|((with_reducible apply Jg);exact rfl;(focus(simp only[↓pb,An,C9,r7,w7,hgo,ovq,o0,En V7,Ll V7,V7.rd,hld,Nat.mul_one,Ah gr7,gr7.mapB,hms,g7,Y5,Ab,irN,nrA,nrM,nrE,reduceIte,reduceCtorEq,nrL];done));try simp only[↓pb,↓pd,Bp,C9,r7,w7,hgo,ovq,o0,En V7,Ll V7,V7.rd,hld,Nat.mul_one,Ah gr7,gr7.mapB,hms,g7,Y5,Ab,irN,nrA,nrM,nrE,reduceIte,reduceCtorEq,nrL])|(with_reducible first|refine Az ?_|refine Ap ?_|refine At ?_|refine Ay ?_|refine Ax ?_|apply Ad)|((with_reducible apply Ae);(focus decide))|fail)
     refine⟨by omega,by simp only[↓pb,An,C9,Ab,irN,nrA,nrM,nrE,reduceIte,reduceCtorEq,nrL];exact congrArg _ (Di (by omega)),by focus exact Bm, ?_⟩
     simp(disch:=try exact dA) only[Bh,C9,Ab,irN,nrA,nrM,nrE,reduceIte,reduceCtorEq,nrL]
     rw[htk,B0M]
    ·have e7n:i7=AL.length:=by omega
     rw[e7n,List.take_length,mm]at Y5 g7
     have ml2:gA.Spots.length=(masses gA hour).1.length:=ml.symm
     have y7:=S7.lt
     repeat'(first|((with_reducible refine hK _ _ fun e2 Aj=>?_);clear hK K;simp only[Jo,Ag,Af,and_true,↓pb,An,C9,Ab,irN,nrA,nrM,nrE,reduceIte,reduceCtorEq,nrL]at Aj;clear Ab;(try clear eg);have Ab:=Aj;clear Aj;rename Bi=>eg)|((first|((with_reducible first|apply Ac|apply Al|apply Ak);(simp(disch:=try exact dA) only[Bh,C9,r7,w7,hgo,ovq,or,En V7,A0C S7,S7.rd,(S7.el Ky rfl),To,g7,Y5,ml,U6,Ab,irN,nrA,nrM,nrE,reduceIte,reduceCtorEq,nrL];with_reducible exact rfl))|((with_reducible first|apply Ar|apply As|apply Aq);(focus exact Ee))|(with_reducible first|refine Ai Jo fun K hK=>?_|refine Aw Jo fun K hK=>?_));try simp only[↓pb,↓pd,Bp,C9,r7,w7,hgo,ovq,or,En V7,A0C S7,S7.rd,(S7.el Ky rfl),To,g7,Y5,ml,U6,Ab,irN,nrA,nrM,nrE,reduceIte,reduceCtorEq,nrL])|((first|((with_reducible first|apply Br|apply Bt|apply Cc|apply Cd);exact rfl)|(with_reducible apply Au));(simp only[↓pb,An,C9,r7,w7,hgo,ovq,or,En V7,A0C S7,S7.rd,(S7.el Ky rfl),To,g7,Y5,ml,U6,Ab,irN,nrA,nrM,nrE,reduceIte,reduceCtorEq,nrL];with_reducible exact rfl);all_goals(intro hc;(first|exact C8 hc|try simp only[C0]at hc);try((with_reducible first|apply E3|apply Ge);simp only[↓pb,↓pd,Bp,C9,r7,w7,hgo,ovq,or,En V7,A0C S7,S7.rd,(S7.el Ky rfl),To,g7,Y5,ml,U6,hc,Ab,irN,nrA,nrM,nrE,reduceIte,reduceCtorEq,nrL])))|((with_reducible apply Jg);exact rfl;(focus(simp only[↓pb,An,C9,r7,w7,hgo,ovq,or,En V7,A0C S7,S7.rd,(S7.el Ky rfl),To,g7,Y5,ml,U6,Ab,irN,nrA,nrM,nrE,reduceIte,reduceCtorEq,nrL];done));try simp only[↓pb,↓pd,Bp,C9,r7,w7,hgo,ovq,or,En V7,A0C S7,S7.rd,(S7.el Ky rfl),To,g7,Y5,ml,U6,Ab,irN,nrA,nrM,nrE,reduceIte,reduceCtorEq,nrL])|(with_reducible first|refine Az ?_|refine Ap ?_|refine At ?_|refine Ay ?_|refine Ax ?_|apply Ad)|((with_reducible apply Ae);(focus decide))|fail)
     refine⟨by omega,by simp only[↓pb,An,C9,Ab,irN,nrA,nrM,nrE,reduceIte,reduceCtorEq,nrL];exact congrArg _ (Di (by omega)),hF6.trans F67,trivial⟩
   ·repeat'(first|((with_reducible refine hK _ _ fun e2 Aj=>?_);clear hK K;simp only[Jo,Ag,Af,and_true,↓pb,An,C9,Ab,irN,nrA,nrM,nrE,reduceIte,reduceCtorEq,nrL]at Aj;clear Ab;(try clear eg);have Ab:=Aj;clear Aj;rename Bi=>eg)|((first|((with_reducible first|apply Ac|apply Al|apply Ak);(simp(disch:=try exact dA) only[Bh,C9,J6 S6,ml,Ab,irN,nrA,nrM,nrE,reduceIte,reduceCtorEq,nrL];with_reducible exact rfl))|((with_reducible first|apply Ar|apply As|apply Aq);(focus exact Ee))|(with_reducible first|refine Ai Jo fun K hK=>?_|refine Aw Jo fun K hK=>?_));try simp only[↓pb,↓pd,Bp,C9,J6 S6,ml,Ab,irN,nrA,nrM,nrE,reduceIte,reduceCtorEq,nrL])|((first|((with_reducible first|apply Br|apply Bt|apply Cc|apply Cd);exact rfl)|(with_reducible apply Au));(simp only[↓pb,An,C9,J6 S6,ml,Ab,irN,nrA,nrM,nrE,reduceIte,reduceCtorEq,nrL];with_reducible exact rfl);all_goals(intro hc;(first|exact C8 hc|try simp only[C0]at hc);try((with_reducible first|apply E3|apply Ge);simp only[↓pb,↓pd,Bp,C9,J6 S6,ml,hc,Ab,irN,nrA,nrM,nrE,reduceIte,reduceCtorEq,nrL])))|((with_reducible apply Jg);exact rfl;(focus(simp only[↓pb,An,C9,J6 S6,ml,Ab,irN,nrA,nrM,nrE,reduceIte,reduceCtorEq,nrL];done));try simp only[↓pb,↓pd,Bp,C9,J6 S6,ml,Ab,irN,nrA,nrM,nrE,reduceIte,reduceCtorEq,nrL])|(with_reducible first|refine Az ?_|refine Ap ?_|refine At ?_|refine Ay ?_|refine Ax ?_|apply Ad)|((with_reducible apply Ae);(focus decide))|fail)
    have F56:Fr H.n [] H h6:=B6w
    obtain⟨p,hpd⟩:∃ p:List Int→Bool,p=fun t=>Gg gA (Ct gA t gA.Acts.length hour) i hour age (Ct gA t gA.Acts.length hour).left.length:=⟨_,rfl⟩
    refine Db [4,8,9,10,11,14,16,17] (by kernel_rfl) 27 (AL.length) (H.n) [] [] (fun i e h=>e 23=iv (Qh p (AL.take i):Nat)∧e 24=iv (Qn (first gA) (AL.take i) (-1))∧e 25=iv (A3K (first gA) (AL.take i) (-1))∧e 26=.bool (Y0 (first gA) (AL.take i))) (by simp only[↓pb,An,C9,Ab,irN,nrA,nrM,nrE,reduceIte,reduceCtorEq,nrL]) (by focus exact Bb) (H0:=H) (by focus exact Bm) (by intro b hb hlt;simp at hb ⊢;try omega) ?_ ?_
    rotate_left
    intro i8 e8 h8 hi8 hE8 ei8 hF8 B8c B9i hJ8
    simp only[Ag,Af,and_true]at hE8
    try simp only[↓pb,An,C9,Ab,irN,nrA,nrM,nrE,reduceIte,reduceCtorEq,nrL]at hE8
    have hn18:=hF8.n;have hn08:=B8c.n;try simp only[Ao,A3]at hn18
    replace Ab:=B9p ei8 hE8
    rotate_left
    ·simp only[↓pb,An,C9,Ab,irN,nrA,nrM,nrE,reduceIte,reduceCtorEq,nrL]
     exact⟨rfl,rfl,rfl,rfl⟩
    obtain⟨j23,j24,j25,j26⟩:=hJ8
    replace Ab:=B9p Ab (B9p j23 (B9p j24 (B9p j25 j26)))
    clear j23 j24 j25 j26
    have k8:=k6.fr hF8
    have V8:=V6.fr0 hF8
    have L8:=L6.fr hF8
    have r8:h8.rd H3.n=some [va,vb,vc]:=by rw[Bf,k8.g4];rfl
    have w8:=k8.g4
    have b8:=k8.bd
    have gr8:=k8.hG.r
    have n68:=hF8.n
    have lV:=V8.lt
    have ovq:=V8.one
    have cle:Qh p (AL.take i8)≤1048576:=by
     have a:=A6g (p:=p) (l:=AL.take i8)
     have b:=List.length_take_le i8 AL
     omega
    by_cases hi8':i8<AL.length
    ·obtain⟨v0,hv0,S0⟩:=L8.at i8 hi8'
     have T0:=tm i8 hi8'
     have htk:=H6 hi8'
     obtain⟨t,ht⟩:∃ t,t=AL.getD i8 []:=⟨_,rfl⟩
     have ht2:AL.getD i8 default=t:=ht.symm
     rw[ht2]at htk
     rw[← ht]at S0 T0
     have tl:=T0.len
     have o0:=S0.one
     obtain⟨hdl,hdt⟩:=Sz gA t gA.Acts.length hour
     have hld:(Yl h8 vq)[Gy vq+i8]? = some v0:=by rw[← Kq,V8.at (j:=i8) (by omega)];exact hv0
     have hold:Gg gA (Ct gA t gA.Acts.length hour) i hour age (Ct gA t gA.Acts.length hour).left.length=p t:=by rw[hpd]
     have c1:=A77 p (AL.take i8) t
     have c2:=A5v (first gA) (AL.take i8) t (-1)
     have c3:=A78 (first gA) (AL.take i8) t (-1)
     have c4:=A79 (first gA) (AL.take i8) t
     rw[← htk]at c1 c2 c3 c4
     generalize Qh p (AL.take i8)=cn at Ab cle c1
     generalize Qn (first gA) (AL.take i8) (-1)=sn at Ab c2
     generalize A3K (first gA) (AL.take i8) (-1)=la at Ab c3
     generalize Y0 (first gA) (AL.take i8)=nv at Ab c4
     have hf0:∃ f,f=first gA t:=⟨_,rfl⟩
     obtain⟨f,hf⟩:=hf0
     have hf2:=hf.symm
     rw[hf2]at c2 c3 c4
     have cs:(f<0∧¬ 0≤f)∨(¬ f<0∧0≤f∧sn<0)∨(¬ f<0∧0≤f∧¬ sn<0∧f<sn)∨(¬ f<0∧0≤f∧¬ sn<0∧¬ f<sn):=by omega
     cases nv <;> rcases cs with cc|cc|cc|cc
     all_goals(
      repeat'(first|((with_reducible refine hK _ _ fun e2 Aj=>?_);clear hK K;simp only[Jo,Ag,Af,and_true,↓pb,An,C9,Ab,irN,nrA,nrM,nrE,reduceIte,reduceCtorEq,nrL]at Aj;clear Ab;(try clear eg);have Ab:=Aj;clear Aj;rename Bi=>eg)|((first|((with_reducible first|apply Ac|apply Al|apply Ak);(simp(disch:=try exact dA) only[Bh,C9,r8,w8,hgo,ovq,o0,En V8,Ll V8,V8.rd,hld,Nat.mul_one,Ah gr8,gr8.mapB,hold,hf2,cc,Ab,irN,nrA,nrM,nrE,reduceIte,reduceCtorEq,nrL];with_reducible exact rfl))|((with_reducible first|apply Ar|apply As|apply Aq);(focus exact Ee))|((with_reducible apply Cy);(focus exact Bb);(simp only[↓pb,An,C9,r8,w8,hgo,ovq,o0,En V8,Ll V8,V8.rd,hld,Nat.mul_one,Ah gr8,gr8.mapB,hold,hf2,cc,Ab,irN,nrA,nrM,nrE,reduceIte,reduceCtorEq,nrL];exact f35 va vb vc v0 gA t gA.Acts.length hour _ (by exact Bb) (k8.fr (N:=h8.n) (by exact Bm)).hG (S0.fr0 (N:=h8.n) (by exact Bm)) (by omega) (Nat.le_refl _) (by omega) (by omega) aS);(rintro vq Gq hq Fy ⟨dl,ds,rfl,Sl,Ss⟩;try simp only[Ao,A3]at hq))|((with_reducible apply Bz);(focus exact Bb);(simp only[↓pb,An,C9,r8,w8,hgo,ovq,o0,En V8,Ll V8,V8.rd,hld,Nat.mul_one,Ah gr8,gr8.mapB,hold,hf2,cc,Ab,irN,nrA,nrM,nrE,reduceIte,reduceCtorEq,nrL];(first|exact f39 _ _ _ _ _ gA (Ct gA t gA.Acts.length hour).left (Ct gA t gA.Acts.length hour).last _ _ _ _ (by exact Bb) (k8.fr (N:=h8.n) (by exact Bm)).hG ((Sl.cast hdl.symm).fr0 (N:=0) (by exact Bm)) Ss.one (by omega) (by omega)|exact f40 _ _ _ _ gA t _ (by exact Bb) (k8.fr (N:=h8.n) (by exact Bm)).hG (S0.fr0 (N:=h8.n) (by exact Bm)) T0));(intro Gq hq Fy;try simp only[Ao,A3]at hq))|(with_reducible first|refine Ai Jo fun K hK=>?_|refine Aw Jo fun K hK=>?_));try simp only[↓pb,↓pd,Bp,C9,r8,w8,hgo,ovq,o0,En V8,Ll V8,V8.rd,hld,Nat.mul_one,Ah gr8,gr8.mapB,hold,hf2,cc,Ab,irN,nrA,nrM,nrE,reduceIte,reduceCtorEq,nrL])|((first|((with_reducible first|apply Br|apply Bt|apply Cc|apply Cd);exact rfl)|(with_reducible apply Au));(simp only[↓pb,An,C9,r8,w8,hgo,ovq,o0,En V8,Ll V8,V8.rd,hld,Nat.mul_one,Ah gr8,gr8.mapB,hold,hf2,cc,Ab,irN,nrA,nrM,nrE,reduceIte,reduceCtorEq,nrL];with_reducible exact rfl);all_goals(intro hc;(first|exact C8 hc|try simp only[C0]at hc);try((with_reducible first|apply E3|apply Ge);simp only[↓pb,↓pd,Bp,C9,r8,w8,hgo,ovq,o0,En V8,Ll V8,V8.rd,hld,Nat.mul_one,Ah gr8,gr8.mapB,hold,hf2,cc,hc,Ab,irN,nrA,nrM,nrE,reduceIte,reduceCtorEq,nrL])))|((with_reducible apply Jg);exact rfl;(focus(simp only[↓pb,An,C9,r8,w8,hgo,ovq,o0,En V8,Ll V8,V8.rd,hld,Nat.mul_one,Ah gr8,gr8.mapB,hold,hf2,cc,Ab,irN,nrA,nrM,nrE,reduceIte,reduceCtorEq,nrL];done));try simp only[↓pb,↓pd,Bp,C9,r8,w8,hgo,ovq,o0,En V8,Ll V8,V8.rd,hld,Nat.mul_one,Ah gr8,gr8.mapB,hold,hf2,cc,Ab,irN,nrA,nrM,nrE,reduceIte,reduceCtorEq,nrL])|(with_reducible first|refine Az ?_|refine Ap ?_|refine At ?_|refine Ay ?_|refine Ax ?_|apply Ad)|((with_reducible apply Ae);(focus decide))|fail))
     all_goals(
     refine⟨by omega,by simp only[↓pb,An,C9,Ab,irN,nrA,nrM,nrE,reduceIte,reduceCtorEq,nrL];exact congrArg _ (Di (by omega)),by focus exact Bm, ?_⟩
     first|rw[if_pos ‹p t=true›]at c1|rw[if_neg (Bool.eq_false_iff.1 ‹p t=false›)]at c1
     simp only[cc,true_and,false_and,and_false,and_true,or_false,or_true,true_or,false_or,if_true,if_false,decide_true,decide_false,Bool.or_false,Bool.or_true,Bool.false_or,Bool.true_or,Nat.add_zero]at c1 c2 c4
     rw[c1,c2,c3,c4]
     simp only[Ab]
     refine⟨?_, ?_, ?_, ?_⟩ <;> first|rfl|trivial|exact congrArg _ (Di (by omega)))
    ·have e8n:i8=AL.length:=by omega
     rw[e8n,List.take_length]at Ab cle
     have ov:=said.ov
     have bs:=said.bs
     have bl:=said.bl
     rw[← hAL,← hpd]at ov
     rw[← hAL]at bs bl
     generalize Qh p AL=cn at Ab cle ov
     generalize Qn (first gA) AL (-1)=sn at Ab bs
     generalize A3K (first gA) AL (-1)=la at Ab bl
     generalize Y0 (first gA) AL=nv at Ab bl
     have bs2:=bs.symm
     have bl2:=bl.symm
     have ne1:¬ AL.length=0:=by omega
     have cs:(cn=0∧¬ cn=AL.length∧((cn:Nat):Int)=0∧¬ ((cn:Nat):Int)=AL.length)∨(¬ cn=0∧cn=AL.length∧¬ ((cn:Nat):Int)=0∧((cn:Nat):Int)=AL.length)∨(¬ cn=0∧¬ cn=AL.length∧¬ ((cn:Nat):Int)=0∧¬ ((cn:Nat):Int)=AL.length):=by omega
     cases nv <;> rcases cs with cc|cc|cc
     all_goals(
     simp only[cc,if_true,if_false,Bool.false_eq_true]at ov bl2)
     all_goals(
      repeat'(first|((with_reducible refine hK _ _ fun e2 Aj=>?_);clear hK K;simp only[Jo,Ag,Af,and_true,↓pb,An,C9,Ab,irN,nrA,nrM,nrE,reduceIte,reduceCtorEq,nrL]at Aj;clear Ab;(try clear eg);have Ab:=Aj;clear Aj;rename Bi=>eg)|((first|((with_reducible first|apply Ac|apply Al|apply Ak);(simp(disch:=try exact dA) only[Bh,C9,r8,w8,hgo,ovq,En V8,V8.mapB,ov,bs2,bl2,cc,U6,Ab,irN,nrA,nrM,nrE,reduceIte,reduceCtorEq,nrL];with_reducible exact rfl))|((with_reducible first|apply Ar|apply As|apply Aq);(focus exact Ee))|((with_reducible apply Cp);(simp only[↓pb,An,C9,r8,w8,hgo,ovq,En V8,V8.mapB,ov,bs2,bl2,cc,U6,Ab,irN,nrA,nrM,nrE,reduceIte,reduceCtorEq,nrL];(exact⟨_,_,Cl.or (hw _ (by exact Bb)),rfl,rfl⟩)))|(with_reducible first|refine Ai Jo fun K hK=>?_|refine Aw Jo fun K hK=>?_));try simp only[↓pb,↓pd,Bp,C9,r8,w8,hgo,ovq,En V8,V8.mapB,ov,bs2,bl2,cc,U6,Ab,irN,nrA,nrM,nrE,reduceIte,reduceCtorEq,nrL])|((first|((with_reducible first|apply Br|apply Bt|apply Cc|apply Cd);exact rfl)|(with_reducible apply Au));(simp only[↓pb,An,C9,r8,w8,hgo,ovq,En V8,V8.mapB,ov,bs2,bl2,cc,U6,Ab,irN,nrA,nrM,nrE,reduceIte,reduceCtorEq,nrL];with_reducible exact rfl);all_goals(intro hc;(first|exact C8 hc|try simp only[C0]at hc);try((with_reducible first|apply E3|apply Ge);simp only[↓pb,↓pd,Bp,C9,r8,w8,hgo,ovq,En V8,V8.mapB,ov,bs2,bl2,cc,U6,hc,Ab,irN,nrA,nrM,nrE,reduceIte,reduceCtorEq,nrL])))|((with_reducible apply Jg);exact rfl;(focus(simp only[↓pb,An,C9,r8,w8,hgo,ovq,En V8,V8.mapB,ov,bs2,bl2,cc,U6,Ab,irN,nrA,nrM,nrE,reduceIte,reduceCtorEq,nrL];done));try simp only[↓pb,↓pd,Bp,C9,r8,w8,hgo,ovq,En V8,V8.mapB,ov,bs2,bl2,cc,U6,Ab,irN,nrA,nrM,nrE,reduceIte,reduceCtorEq,nrL])|(with_reducible first|refine Az ?_|refine Ap ?_|refine At ?_|refine Ay ?_|refine Ax ?_|apply Ad)|((with_reducible apply Ae);(focus decide))|fail))
     all_goals(
     refine⟨by first|exact .inl rfl|exact .inr rfl, ?_⟩
     rw[Ec Try.results7]
     simp only[↓pb,An,C9,Bo,Bg,Ab,irN,nrA,nrM,nrE,reduceIte,reduceCtorEq,nrL]
     repeat ((with_reducible apply Ac);(simp(disch:=try exact dA) only[Bh,C9,Ab,irN,nrA,nrM,nrE,reduceIte,reduceCtorEq,nrL];exact rfl))
     first|exact⟨rfl,(by exact Bm)⟩|exact(by exact Bm))
  ·have m0:=(A4S ckA hr.1 (show hour≤72 by omega) hkn).1
   have o0:=A7T ckA okA hp hr.1 (show hour≤72 by omega) hg.1 (show age≤72 by omega) hkn
   have b0:=A4U ckA hkn
   have z0:(AL.length:Int)=0:=by rw[hAL,A7R okA ckA hkn];rfl
   repeat'(first|((with_reducible refine hK _ _ fun e2 Aj=>?_);clear hK K;simp only[Jo,Ag,Af,and_true,↓pb,An,C9,Ab,irN,nrA,nrM,nrE,reduceIte,reduceCtorEq,nrL]at Aj;clear Ab;(try clear eg);have Ab:=Aj;clear Aj;rename Bi=>eg)|((first|((with_reducible first|apply Ac|apply Al|apply Ak);(simp(disch:=try exact dA) only[Bh,C9,r5,w5,hgo,or,z0,m0,o0,b0,En Sv,U6,Ab,irN,nrA,nrM,nrE,reduceIte,reduceCtorEq,nrL];with_reducible exact rfl))|((with_reducible first|apply Ar|apply As|apply Aq);(focus exact Ee))|((with_reducible apply Cp);(simp only[↓pb,An,C9,r5,w5,hgo,or,z0,m0,o0,b0,En Sv,U6,Ab,irN,nrA,nrM,nrE,reduceIte,reduceCtorEq,nrL];(exact⟨_,_,Cl.or (hw _ (by exact Bb)),rfl,rfl⟩)))|(with_reducible first|refine Ai Jo fun K hK=>?_|refine Aw Jo fun K hK=>?_));try simp only[↓pb,↓pd,Bp,C9,r5,w5,hgo,or,z0,m0,o0,b0,En Sv,U6,Ab,irN,nrA,nrM,nrE,reduceIte,reduceCtorEq,nrL])|((first|((with_reducible first|apply Br|apply Bt|apply Cc|apply Cd);exact rfl)|(with_reducible apply Au));(simp only[↓pb,An,C9,r5,w5,hgo,or,z0,m0,o0,b0,En Sv,U6,Ab,irN,nrA,nrM,nrE,reduceIte,reduceCtorEq,nrL];with_reducible exact rfl);all_goals(intro hc;(first|exact C8 hc|try simp only[C0]at hc);try((with_reducible first|apply E3|apply Ge);simp only[↓pb,↓pd,Bp,C9,r5,w5,hgo,or,z0,m0,o0,b0,En Sv,U6,hc,Ab,irN,nrA,nrM,nrE,reduceIte,reduceCtorEq,nrL])))|((with_reducible apply Jg);exact rfl;(focus(simp only[↓pb,An,C9,r5,w5,hgo,or,z0,m0,o0,b0,En Sv,U6,Ab,irN,nrA,nrM,nrE,reduceIte,reduceCtorEq,nrL];done));try simp only[↓pb,↓pd,Bp,C9,r5,w5,hgo,or,z0,m0,o0,b0,En Sv,U6,Ab,irN,nrA,nrM,nrE,reduceIte,reduceCtorEq,nrL])|(with_reducible first|refine Az ?_|refine Ap ?_|refine At ?_|refine Ay ?_|refine Ax ?_|apply Ad)|((with_reducible apply Ae);(focus decide))|fail)
   refine⟨by first|exact .inl rfl|exact .inr rfl, ?_⟩
   rw[Ec Try.results7]
   simp only[↓pb,An,C9,Bo,Bg,Ab,irN,nrA,nrM,nrE,reduceIte,reduceCtorEq,nrL]
   repeat ((with_reducible apply Ac);(simp(disch:=try exact dA) only[Bh,C9,Ab,irN,nrA,nrM,nrE,reduceIte,reduceCtorEq,nrL];exact rfl))
   first|exact⟨rfl,(by exact Bm)⟩|exact(by exact Bm)
end Go.Proofs.Swa
set_option maxRecDepth 20000
set_option linter.unusedVariables false
set_option linter.unusedSimpArgs false
namespace Go.Proofs.Swa
open Go
open Nat renaming reduceAdd → nrA, reduceMul → nrM, reduceEqDiff → nrE, reduceLT → nrL
open Int renaming reduceToNat → irN
theorem SR.castZ {H:Aa}{s m k:Nat}{v:Value}{c:List Value}(h:SR H s m v c)(e:m=k):SR H s k v c:=e ▸ h
end Go.Proofs.Swa
namespace Go.Proofs.Ytkjcijlaehflhaa
open Go.ChangeShapes Go.WideShapes Go.ChangeAt Go.RowKit
open Go.Proofs.Swa (SR Ck iv C1 Fr RoB A7i)
theorem B4H:Try.prog.cellsOf 3=1:=by kernel_rfl
theorem B73:ownKnob Try.prog.godebug=none:=by kernel_rfl
section
variable {H:Type} {enc:TypeId×Value→H} {P:Program}
theorem Y4 {f:Func}{s:ChangeSpec}{apart fresh handsOn again:Bool}{W W':World}{args:Array Value}{v:Value}{ds gs:List (DataW H)}{before pa pv:List MemPlace}
  (hW:DataW.Whole enc P f.params.toList s.vars apart W args.toList ds gs before)
  (hres:∀ (b:Nat)(sp:Nat→Bool)(hd:Bool),DataW.TrodAll enc P W' b sp hd f.resultTypes.toList (v.resultList f.resultTypes.size) (s.fn H (ds ++ gs)).results [])
  (hargs:∀ sp:Nat→Bool,(∀ p∈before,sp p.block=true)→DataW.TrodAll enc P W' 0 sp true f.params.toList args.toList (s.fn H (ds ++ gs)).args pa)
  (hvars:∀ sp:Nat→Bool,(∀ p∈before,sp p.block=true)→DataW.TrodVars enc P W' sp s.vars (s.fn H (ds ++ gs)).vars pv)
  (hps:before=pa ++ pv)(hb:Below W.heap.size W W')
  (hok:∀ (j:Nat)(t:TypeId)(r:Value),f.resultTypes[j]? = some t→(v.resultList f.resultTypes.size)[j]? = some r→Value.okWide P W' .any 0 t r) :
  s.post enc P f apart fresh handsOn again W args v W':=by
 have hlt:∀ p∈before,p.block<W.heap.size:=fun p hp=>hW.lt p hp
 have hold:∀ p∈before,(fun b=>decide (b<W.heap.size)) p.block=true:=fun p hp=>by simpa using hlt p hp
 refine⟨ds,gs,before,[],pa,pv,hW,hres _ _ _,hargs _ hold,hvars _ hold,World.keptBut_mono (fun p hp=>⟨hp, ?_⟩) (hb.frame (·∈before)),fun _=>?_⟩
 ·rw[hps,List.mem_append]at hp
  exact Or.inr hp
 ·obtain⟨_,_,_,_,_,hz,hn⟩:=hW
  refine⟨hok,_,_,([] ++ pa) ++ pv,⟨[] ++ pa,pv,trodAll_append (hargs _ (fun _ _=>rfl)) (hres _ _ _),hvars _ (fun _ _=>rfl),rfl, ?_, ?_⟩, ?_⟩
  ·intro b off hp
   have hin:MemPlace.cell b off∈before:=by rw[hps];simpa using hp
   rw[hb.frozen (hlt _ hin)]
   exact hz b off hin
  ·intro ha
   have:=hn ha
   rw[hps]at this
   simpa using this
  ·intro p hp _
   rw[hps]
   simpa using hp
end
def A6A (f:FuncId):Prop:=∀ (vl:Value)(l:List Int)(H:Swa.Aa),C1 H→SR H 1 l.length vl (Ck l)→l.length≤9223372036854775807→∃ v H',Swa.Cl Try.prog (Swa.OrC Try.prog) 0 (.fn f) #[vl] H v H'∧v=.bool true∧Fr H.n [] H H'
theorem A8a {f:FuncId}(hf:A6A f){H:Type}{enc:TypeId×Value→H}{W:World}{v0:Value}{d0:DataW H}{p0:List MemPlace}{base0:Nat}(hv:Value.okWide Try.prog W .any base0 31 v0)(h0:DataW.Trod enc Try.prog W 0 (fun _=>true) true 31 v0 d0 p0) :
  Calls Try.prog f #[v0] W fun e W'=>e=.returned (.bool true)∧Below W.heap.size W W':=by
 have hmix:Try.prog.follows .mixedOrders=true:=by kernel_rfl
 obtain⟨a0,len,cap,rfl⟩:=okWide_slice Try.underlying31 hv
 obtain⟨fuel,hf0⟩:=h0
 rcases open_ints Try.underlying31 Try.underlying3 B4H hf0 with⟨C0,hx⟩|⟨a,len',cap',zs,C0,_,hl,hm,hz,hx,hcell,hwz⟩
 ·simp[Value.cells]at C0
  obtain⟨rfl,rfl,rfl⟩:=C0
  refine Swa.Q6 hmix (L:=[]) (by simp) (Swa.E6.one (.flat rfl)) ?_
  exact hf _ [] _ (Swa.L9 _) (Swa.GS.nul (s:=1)).sr (by simp)
 ·simp[Value.cells]at C0
  obtain⟨rfl,rfl,rfl⟩:=C0
  simp only[if_true]at hz
  unfold maxLen at hm
  by_cases hc:cap=0
  ·subst hc
   have hl0:len=0:=by omega
   subst hl0
   refine Swa.Q6 hmix (L:=[]) (by simp) (args:=#[.slice (some ⟨0,1,none⟩) 0 0]) (Swa.E6.one (.empty (by omega))) ?_
   exact hf _ [] _ (Swa.L9 _) ⟨.inr ⟨_,_,_,rfl,Nat.le_refl _⟩,rfl,.inl rfl,.inl rfl⟩ (by simp)
  ·have hlen:(Ck zs).length=zs.length:=Swa.C3 zs
   have hr:=Swa.B1O (w:=W) (a:=a) (cs:=Ck zs) (T:=3) (by omega) (fun i hi=>by
    rw[hcell i (by omega)]
    have:(Ck zs)[i]=iv (zs.getD i 0):=by
     have hi2:i<zs.length:=by omega
     simp[Ck,hi2]
    rw[this]
    exact⟨rfl,rfl⟩)
   obtain⟨b,off,spot⟩:=a
   obtain⟨hr,hsp⟩:=hr
   dsimp only at hsp
   subst hsp
   refine Swa.Q6 hmix (L:=[⟨b,off,Ck zs,3⟩]) (by intro r hrm;rw[List.mem_singleton.1 hrm];exact hr) (args:=#[.slice (some ⟨0,0,none⟩) len cap]) (Swa.E6.one ?_) ?_
   ·have:=Swa.Bu.slice (ρ:=Swa.O9 W [⟨b,off,Ck zs,3⟩]) (b:=0) (o:=0) (n:=len) (c:=cap) (c':=cap) (im:=⟨b,off,Swa.A9n W b,true,false,0,0⟩) rfl (.inr ⟨rfl,rfl⟩) hl
    exact this
   ·have hlt:(zs.take len).length=len:=by rw[List.length_take];omega
    have S:SR (Swa.L5 [⟨b,off,Ck zs,3⟩]) 1 len (.slice (some ⟨0,0,none⟩) len cap) (Ck (zs.take len)):=by
     refine⟨.inr ⟨_,_,_,rfl,hl⟩, ?_,.inr ⟨Ck zs,rfl, ?_, ?_⟩,.inr (Nat.lt_succ_self _)⟩
     ·rw[Swa.C3,hlt,Nat.mul_one]
     ·show 0+_≤_
      rw[hlen];omega
     ·show ((Ck zs).drop 0).take _=_
      rw[List.drop_zero,Nat.mul_one]
      unfold Ck
      rw[← List.map_take]
    exact hf _ (zs.take len) _ (Swa.L9 _) (S.castZ hlt.symm) (by omega)
end Go.Proofs.Ytkjcijlaehflhaa
set_option linter.unusedVariables false
set_option linter.unusedSimpArgs false
namespace Go.Proofs.Swa
open Go
open Nat renaming reduceAdd → nrA, reduceMul → nrM, reduceEqDiff → nrE, reduceLT → nrL
open Int renaming reduceToNat → irN
set_option maxRecDepth 1000000 in
/-- The chapter's examples, by a run that computes. -/
theorem A8b:B12 Try.prog noO 200 15 [] isT=true:=by kernel_rfl
theorem A5w:W1 Try.prog 15:=⟨_,_,Try.func15,rfl,by kernel_rfl⟩
theorem B0N (H:Aa):OrC Try.prog 15 #[] H (.bool true) H:=B13 (by kernel_rfl) A5w A8b H
end Go.Proofs.Swa
set_option maxRecDepth 20000
set_option linter.unusedVariables false
set_option linter.unusedSimpArgs false
namespace Go.Proofs.Swa
open Go
open Nat renaming reduceAdd → nrA, reduceMul → nrM, reduceEqDiff → nrE, reduceLT → nrL
open Int renaming reduceToNat → irN
theorem A8c (vl:Value)(l:List Int)(H:Aa)(hT:C1 H)(S:SR H 1 l.length vl (Ck l))(hl:l.length≤9223372036854775807)(M:A9P)(hmade:Es (Mb l) 3 2 5 4 8=M)(T:Da M.g M.truth):∃ v H',C5 (.fn 7) #[vl] H v H'∧v=.bool true∧Fr H.n [] H H' :=
 f7 vl l H hT S hl M hmade T fun H _=>B0N H
theorem B0O (l:List Int):Da (Es (Mb l) 3 2 5 4 8).g (Es (Mb l) 3 2 5 4 8).truth :=
 A3C (x:=Mb l) (spots:=3) (sorts:=2) (acts:=5) (mass:=4) (hours:=8) (by omega) (by omega) (by omega) (by omega) (by omega)
theorem B0P (vl:Value)(l:List Int)(H:Aa)(hT:C1 H)(S:SR H 1 l.length vl (Ck l))(hl:l.length≤9223372036854775807):∃ v H',C5 (.fn 7) #[vl] H v H'∧v=.bool true∧Fr H.n [] H H' :=
 A8c vl l H hT S hl (Es (Mb l) 3 2 5 4 8) rfl (B0O l)
end Go.Proofs.Swa
namespace Go.Proofs.Ytkjcijlaehflhaa
open Go.ChangeShapes Go.WideShapes Go.ChangeAt Go.RowKit
open Go.Proofs.Swa (SR Ck iv C1 Fr RoB A7i)
theorem B74:A6A 7:=fun vl l H hT S hl=>Swa.B0P vl l H hT S hl
set_option maxRecDepth 100000 in
theorem Yi (os:Os)(started:os.Started)(H:Type)(enc:TypeId×Value→H) :
  ReturnsInHanded {} Try.checked os 7 .any (Rows.pileAllSpec.pre6 enc Try.prog Try.f7 Rows.pileAllRow.domain false) (Rows.pileAllSpec.post enc Try.prog Try.f7 false true false false):=by
 refine returnsInHanded_of_change (C:=Try.checked) B73 started (by kernel_rfl) Try.func7
  (ChangeSpec.witness6 (enc:=enc) (C:=Try.checked) false ⟨#[],#[.slice none 0 0],[]⟩ 8 (by kernel_rfl) (by kernel_rfl) (by kernel_rfl) (by kernel_rfl)) ?_
 intro W base args ds gs before hval0 hW hcnd _
 have hval:∀ (j:Nat) t v,Try.f7.params[j]? = some t→args[j]? = some v→Value.okWide Try.prog W .any base t v:=hval0
 have hW':=hW
 have hlt:=hW.lt
 obtain⟨p,q,hA0,hV,rfl,hfz,hnd⟩:=hW
 have hA:DataW.TrodAll enc Try.prog W 0 (fun _=>true) true Try.f7.params.toList args.toList ds p:=hA0
 rw[Try.params7]at hA hval
 obtain⟨v0,vs0,d0,ds0,p0,q0,hargs,rfl,rfl,h0,r0⟩:=trodAll_cons hA
 obtain⟨rfl,rfl,rfl⟩:=trodAll_nil r0
 obtain rfl:args = #[v0]:=by cases args;simp_all
 obtain⟨rfl,rfl⟩:=trodVars_none hV
 clear hA0 hval0
 simp only[List.append_nil]at hW' hlt
 refine(A8a B74 (hval 0 31 v0 rfl rfl) h0).mono fun e W' ⟨he,hb⟩=>?_
 subst he
 have again:∀ sp:Nat→Bool,(∀ x∈p0,sp x.block=true)→DataW.Trod enc Try.prog W' 0 sp true 31 v0 d0 p0:=fun sp hsp =>
  WideElems.Trod_stays (by kernel_rfl) (by kernel_rfl) (of_decide_eq_true (by kernel_rfl)) h0 (fun x hx=>hb.same (hlt x hx)) hsp
 exact⟨_,rfl,Y4 (pa:=p0) (pv:=[]) hW' (fun _ _ _=>(trodAll_cons_mk (shut_bool Try.underlying4 _) trodAll_mk0)) (fun sp hsp=>trodAll_mk1 (again sp hsp)) (fun _ _=>rfl) (by simp) hb (ok_one (by kernel_rfl) rfl (okWide_bool_mk Try.underlying4 _))⟩
theorem pileAll_holds:Rows.PileAllSaid :=
 OpenClaim.holds_of_wide 7 Try.f7 rfl rfl rfl rfl rfl rfl rfl ⟨rfl,rfl,rfl,rfl,rfl⟩ rfl rfl rfl rfl rfl (by kernel_rfl) Try.func7 (by kernel_rfl)
  (of_decide_eq_true (by kernel_rfl)) (by unfold Func.isWrapper;first|(rw[if_pos (by decide +kernel)];kernel_rfl)|(rw[if_neg (by decide +kernel)];exact⟨rfl,rfl⟩))
  (fun os started H enc _=>Yi os started H enc)
end Go.Proofs.Ytkjcijlaehflhaa
