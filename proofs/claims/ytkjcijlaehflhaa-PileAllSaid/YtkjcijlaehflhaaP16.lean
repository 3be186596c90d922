/- Part 16. -/
import Derived.Test.YtkjcijlaehflhaaP15
set_option maxRecDepth 20000
set_option linter.unusedVariables false
set_option linter.unusedSimpArgs false
namespace Go.Proofs.Swa
open Go
open Nat renaming reduceAdd → nrA, reduceMul → nrM, reduceEqDiff → nrE, reduceLT → nrL
open Int renaming reduceToNat → irN
attribute [local congr] Ja Gm I8 I9 Jb Hl Hm Hn
set_option maxHeartbeats 4000000 in
theorem B72 (b:Nat)(x spots sorts acts mass hours:Int)(H:Aa)(hT:C1 H)(hg:H.get b=.cells [uv x] 85 .ex)(hb:b<H.n)(q1:1≤spots∧spots≤100)(q2:1≤sorts∧sorts≤100)(q3:0≤acts∧acts≤1000)(q4:1≤mass∧mass≤1000000)(q5:0≤hours∧hours≤10000) :
  ∃ v H',C5 (.fn 17) #[Bc b 0,iv spots,iv sorts,iv acts,iv mass,iv hours] H v H' ∧
   (∃ va vb vc vt gg gt,v=.tuple #[.agg ⟨[va,vb,vc]⟩,vt]∧RG H' va vb vc (Es x spots sorts acts mass hours).g∧GS H' 6 (Es x spots sorts acts mass hours).g.Acts.length vc ((Es x spots sorts acts mass hours).g.Acts.flatMap Bn) gg∧(∀ x,gg=some x→H.n≤x) ∧
    GS H' 1 (Es x spots sorts acts mass hours).truth.length vt (Ck (Es x spots sorts acts mass hours).truth) gt∧H'.get b=.cells [uv (Es x spots sorts acts mass hours).x] 85 .ex∧((Es x spots sorts acts mass hours).g.Spots.length=0∨SK H' 3 va)∧(∀ x',gg=some x'→((Es x spots sorts acts mass hours).g.Spots.length=0∨C4 va<x')∧((Es x spots sorts acts mass hours).g.Sorts.length=0∨C4 vb<x')∧gt≠some x')∧(gg=none→vc=.slice none 0 0))∧Fr H.n [b] H H':=by
 have w1:=J2 (x:=x) (lo:=1) (hi:=spots) (by omega) (by omega) (by omega)
 refine Cl.ofW Try.func17 rfl (by kernel_rfl) (by rw[Try.ntmps17];exact Nat.le_of_ble_eq_true rfl) (by kernel_rfl) ?_
 have Ab:True:=trivial
 refine Jx [0,1,2,3,4,5] ?_
 intro eg Aj
 simp only[Ag,Af,and_true]at Aj
 try simp only[↓pb,An,Cn,hg,Ab,irN,nrA,nrM,nrE,reduceIte,reduceCtorEq,nrL]at Aj
 replace Ab:=Aj;clear Aj
 repeat'(first|((with_reducible refine hK _ _ fun e2 Aj=>?_);clear hK K;simp only[I1,Ag,Af,and_true,↓pb,An,Cn,hg,Ab,irN,nrA,nrM,nrE,reduceIte,reduceCtorEq,nrL]at Aj;clear Ab;(try clear eg);have Ab:=Aj;clear Aj;rename Bi=>eg)|((first|((with_reducible first|apply Ac|apply Al|apply Ak);(simp(disch:=try exact dA) only[Bh,Cn,hg,Ab,irN,nrA,nrM,nrE,reduceIte,reduceCtorEq,nrL];with_reducible exact rfl))|((with_reducible first|apply Ar|apply As|apply Aq);(focus exact Ee))|((with_reducible apply Cp);(simp only[↓pb,An,Cn,hg,Ab,irN,nrA,nrM,nrE,reduceIte,reduceCtorEq,nrL];(exact f31 _ _ _ _ _ (by simp(disch:=try exact dA) only[Bh,Cn,hg,Ab,irN,nrA,nrM,nrE,reduceIte,reduceCtorEq,nrL];rfl))))|(with_reducible first|refine Ai I1 fun K hK=>?_|refine Aw I1 fun K hK=>?_));try simp only[↓pb,↓pd,Bp,Cn,hg,Ab,irN,nrA,nrM,nrE,reduceIte,reduceCtorEq,nrL])|((first|((with_reducible first|apply Br|apply Bt|apply Cc|apply Cd);exact rfl)|(with_reducible apply Au));(simp only[↓pb,An,Cn,hg,Ab,irN,nrA,nrM,nrE,reduceIte,reduceCtorEq,nrL];with_reducible exact rfl);all_goals(intro hc;(first|exact C8 hc|try simp only[C0]at hc);try((with_reducible first|apply E3|apply Ge);simp only[↓pb,↓pd,Bp,Cn,hg,hc,Ab,irN,nrA,nrM,nrE,reduceIte,reduceCtorEq,nrL])))|(with_reducible first|refine Az ?_|refine Ap ?_|refine At ?_|refine Ay ?_|refine Ax ?_|apply Ad)|((with_reducible apply Ae);(focus decide))|fail)
 refine Vx [0,2,3,4,5,12,14] (by kernel_rfl) (H.n) [b,H.n+1] [b] (fun s e h=>∃ (i:Int) (va:Value) (gg:Option Nat),e 15=iv i∧i.toNat=s.1∧i≤100∧h.get b=.cells [uv s.2.1] 85 .ex∧h.get (H.n+1)=.cells [va,.slice none 0 0,.slice none 0 0] 26 .ex∧GS h 3 s.2.2.length va (s.2.2.flatMap G7) gg∧(∀ x,gg=some x→H.n≤x)∧(va=.slice none 0 0∨H.n+1<C4 va)∧s.2.2.length+s.1≤100∧Of (Mt x 1 spots).toNat (Iz x 1 spots) []=Of s.1 s.2.1 s.2.2) (fun s=>s.1) (((Mt x 1 spots).toNat,Iz x 1 spots,([]:List Spo))) (by focus exact Bb) (H0:=H) (by focus exact Bm) (by intro b hb hlt;simp at hb ⊢;try omega) ?_ ?_
 rotate_left
 intro s1 e1 h1 D3 Ep D9 Mf Hh
 simp only[Ag,Af,and_true]at D3
 try simp only[↓pb,An,Cn,hg,Ab,irN,nrA,nrM,nrE,reduceIte,reduceCtorEq,nrL]at D3
 have hn11:=Ep.n;have hn01:=D9.n;try simp only[Ao,A3]at hn11
 replace Ab:=D3
 rotate_left
 ·refine⟨Mt x 1 spots,.slice none 0 0,none,by simp only[↓pb,An,Cn,hg,Ab,irN,nrA,nrM,nrE,reduceIte,reduceCtorEq,nrL],rfl,by omega,by simp(disch:=try exact dA) only[Bh,Cn,hg,Ab,irN,nrA,nrM,nrE,reduceIte,reduceCtorEq,nrL],by simp(disch:=try exact dA) only[Bh,Cn,hg,Ab,irN,nrA,nrM,nrE,reduceIte,reduceCtorEq,nrL],.nil rfl rfl rfl,by simp,.inl rfl, ?_,rfl⟩
  show 0+(Mt x 1 spots).toNat≤100
  omega
 obtain⟨n1,x1,l1⟩:=s1
 obtain⟨i1,va,gg,e15,ei,ilt,k1,k2,G,g2,g3,g4,g5⟩:=Hh
 dsimp only at ei k1 G g4 g5
 have ho:=G.one
 have r2:h1.rd (H.n+1)=some [va,.slice none 0 0,.slice none 0 0]:=by rw[Bf,k2];rfl
 by_cases hi2:0<i1
 ·repeat'(first|((with_reducible refine hK _ _ fun e2 Aj=>?_);clear hK K;simp only[I1,Ag,Af,and_true,↓pb,An,Cn,hg,e15,r2,k1,k2,G7,Ab,irN,nrA,nrM,nrE,reduceIte,reduceCtorEq,nrL]at Aj;clear Ab;(try clear eg);have Ab:=Aj;clear Aj;rename Bi=>eg)|((first|((with_reducible first|apply Ac|apply Al|apply Ak);(simp(disch:=try exact dA) only[Bh,Cn,hg,e15,r2,k1,k2,G7,Ab,irN,nrA,nrM,nrE,reduceIte,reduceCtorEq,nrL];with_reducible exact rfl))|((with_reducible first|apply Ar|apply As|apply Aq);(focus exact Ee))|((with_reducible apply Cp);(simp only[↓pb,An,Cn,hg,e15,r2,k1,k2,G7,Ab,irN,nrA,nrM,nrE,reduceIte,reduceCtorEq,nrL];(first|exact f20 _ _ _ _ (by simp(disch:=try exact dA) only[Bh,Cn,hg,e15,r2,k1,k2,G7,Ab,irN,nrA,nrM,nrE,reduceIte,reduceCtorEq,nrL];rfl) (by omega)|exact f31 _ _ _ _ _ (by simp(disch:=try exact dA) only[Bh,Cn,hg,e15,r2,k1,k2,G7,Ab,irN,nrA,nrM,nrE,reduceIte,reduceCtorEq,nrL];rfl))))|(with_reducible first|refine Ai I1 fun K hK=>?_|refine Aw I1 fun K hK=>?_));try simp only[↓pb,↓pd,Bp,Cn,hg,e15,r2,k1,k2,G7,Ab,irN,nrA,nrM,nrE,reduceIte,reduceCtorEq,nrL])|((first|((with_reducible first|apply Br|apply Bt|apply Cc|apply Cd);exact rfl)|(with_reducible apply Au));(simp only[↓pb,An,Cn,hg,e15,r2,k1,k2,G7,Ab,irN,nrA,nrM,nrE,reduceIte,reduceCtorEq,nrL];with_reducible exact rfl);all_goals(intro hc;(first|exact C8 hc|try simp only[C0]at hc);try((with_reducible first|apply E3|apply Ge);simp only[↓pb,↓pd,Bp,Cn,hg,e15,r2,k1,k2,G7,hc,Ab,irN,nrA,nrM,nrE,reduceIte,reduceCtorEq,nrL])))|(with_reducible first|refine Az ?_|refine Ap ?_|refine At ?_|refine Ay ?_|refine Ax ?_|apply Ad)|((with_reducible apply Ae);(focus decide))|fail)
  have hvb:va=.slice none 0 0∨C4 va∉[b]:=by
   rcases g3 with g3|g3
   ·exact .inl g3
   ·exact .inr Lw
  refine B7U (n:=l1.length) (m:=1) (c:=l1.flatMap G7) (g:=gg) ?a1 (SR.new rfl) (by omega) (by omega) (by omega) ?a3 fun GG=>?a4
  case a1 =>
   refine GS.ex ?_
   refine G.fr' (N:=h1.n) (X:=[b]) ?_ (fun x hx=>by subst hx;exact G.grp_lt) hvb
   exact Bm
  case a3 =>
   exact Bb
  have hgd1:=Je g2 (n:=h1.n+1) (by omega)
  have hgd2:=GG.grp_lt
  simp only[Ao,A3]at hgd2
  simp only[Ao,A3,nb]at GG
  simp only[↓pb,↓pd,Bp,Cn,hg,e15,k2,Ab,irN,nrA,nrM,nrE,reduceIte,reduceCtorEq,nrL]
  repeat'(first|((with_reducible refine hK _ _ fun e2 Aj=>?_);clear hK K;simp only[I1,Ag,Af,and_true,↓pb,An,Cn,hg,e15,k2,Ab,irN,nrA,nrM,nrE,reduceIte,reduceCtorEq,nrL]at Aj;clear Ab;(try clear eg);have Ab:=Aj;clear Aj;rename Bi=>eg)|((first|((with_reducible first|apply Ac|apply Al|apply Ak);(simp(disch:=try exact dA) only[Bh,Cn,hg,e15,k2,Ab,irN,nrA,nrM,nrE,reduceIte,reduceCtorEq,nrL];with_reducible exact rfl))|((with_reducible first|apply Ar|apply As|apply Aq);(focus exact Ee))|(with_reducible first|refine Ai I1 fun K hK=>?_|refine Aw I1 fun K hK=>?_));try simp only[↓pb,↓pd,Bp,Cn,hg,e15,k2,Ab,irN,nrA,nrM,nrE,reduceIte,reduceCtorEq,nrL])|((first|((with_reducible first|apply Br|apply Bt|apply Cc|apply Cd);exact rfl)|(with_reducible apply Au));(simp only[↓pb,An,Cn,hg,e15,k2,Ab,irN,nrA,nrM,nrE,reduceIte,reduceCtorEq,nrL];with_reducible exact rfl);all_goals(intro hc;(first|exact C8 hc|try simp only[C0]at hc);try((with_reducible first|apply E3|apply Ge);simp only[↓pb,↓pd,Bp,Cn,hg,e15,k2,hc,Ab,irN,nrA,nrM,nrE,reduceIte,reduceCtorEq,nrL])))|(with_reducible first|refine Az ?_|refine Ap ?_|refine At ?_|refine Ay ?_|refine Ax ?_|apply Ad)|((with_reducible apply Ae);(focus decide))|fail)
  have hw:IntKind.i64.wrap (i1-1)=i1-1:=H4 (by omega) (by omega)
  obtain⟨n2,rfl⟩:∃ n2,n1=n2+1:=⟨n1-1,by omega⟩
  refine⟨(n2,(A0h x1).2,l1 ++ [(A0h x1).1]),Nat.lt_succ_self _,(by exact Bm),i1-1,.slice (some ⟨h1.n+1,0,none⟩) (l1.length+1) (l1.length+1),some (gg.getD (h1.n+1)),by simp only[↓pb,An,Cn,hg,Ab,irN,nrA,nrM,nrE,reduceIte,reduceCtorEq,nrL];rw[hw],by dsimp only;omega,by omega,by simp(disch:=try exact dA) only[Bh,Cn,hg,Ab,irN,nrA,nrM,nrE,reduceIte,reduceCtorEq,nrL];rfl,by simp(disch:=try exact dA) only[Bh,Cn,hg,Ab,irN,nrA,nrM,nrE,reduceIte,reduceCtorEq,nrL], ?_,La hgd1,.inr (by show H.n+1<h1.n+1;omega), ?_, ?_⟩
  ·dsimp only
   rw[List.flatMap_append,List.flatMap_singleton,List.length_append]
   exact GG.fr (N:=h1.n+2) (X:=[b,H.n+1]) (by exact Bm) (fun x hx=>by cases hx;exact hgd2) (by show h1.n+1∉[b,H.n+1];exact Lw)
  ·dsimp only
   rw[List.length_append,List.length_singleton];omega
  ·rw[g5];rfl
 ·have e0:n1=0:=by omega
  subst e0
  repeat'(first|((with_reducible refine hK _ _ fun e2 Aj=>?_);clear hK K;simp only[I1,Ag,Af,and_true,↓pb,An,Cn,hg,e15,r2,k1,k2,Ab,irN,nrA,nrM,nrE,reduceIte,reduceCtorEq,nrL]at Aj;clear Ab;(try clear eg);have Ab:=Aj;clear Aj;rename Bi=>eg)|((first|((with_reducible first|apply Ac|apply Al|apply Ak);(simp(disch:=try exact dA) only[Bh,Cn,hg,e15,r2,k1,k2,Ab,irN,nrA,nrM,nrE,reduceIte,reduceCtorEq,nrL];with_reducible exact rfl))|((with_reducible first|apply Ar|apply As|apply Aq);(focus exact Ee))|((with_reducible apply Cp);(simp only[↓pb,An,Cn,hg,e15,r2,k1,k2,Ab,irN,nrA,nrM,nrE,reduceIte,reduceCtorEq,nrL];(exact f31 _ _ _ _ _ (by simp(disch:=try exact dA) only[Bh,Cn,hg,e15,r2,k1,k2,Ab,irN,nrA,nrM,nrE,reduceIte,reduceCtorEq,nrL];rfl))))|(with_reducible first|refine Ai I1 fun K hK=>?_|refine Aw I1 fun K hK=>?_));try simp only[↓pb,↓pd,Bp,Cn,hg,e15,r2,k1,k2,Ab,irN,nrA,nrM,nrE,reduceIte,reduceCtorEq,nrL])|((first|((with_reducible first|apply Br|apply Bt|apply Cc|apply Cd);exact rfl)|(with_reducible apply Au));(simp only[↓pb,An,Cn,hg,e15,r2,k1,k2,Ab,irN,nrA,nrM,nrE,reduceIte,reduceCtorEq,nrL];with_reducible exact rfl);all_goals(intro hc;(first|exact C8 hc|try simp only[C0]at hc);try((with_reducible first|apply E3|apply Ge);simp only[↓pb,↓pd,Bp,Cn,hg,e15,r2,k1,k2,hc,Ab,irN,nrA,nrM,nrE,reduceIte,reduceCtorEq,nrL])))|(with_reducible first|refine Az ?_|refine Ap ?_|refine At ?_|refine Ay ?_|refine Ax ?_|apply Ad)|((with_reducible apply Ae);(focus decide))|fail)
  have ga:(Of (Mt x 1 spots).toNat (Iz x 1 spots) [])=(l1,x1):=g5
  have w2:=J2 (x:=x1) (lo:=1) (hi:=sorts) (by omega) (by omega) (by omega)
  have hx1:=D3
  refine Vx [0,3,4,5,12,14] (by kernel_rfl) (H.n) [b,H.n+1] [b] (fun s e h=>∃ (i:Int) (vb:Value) (gb:Option Nat),e 16=iv i∧i.toNat=s.1∧i≤100∧h.get b=.cells [uv s.2.1] 85 .ex∧h.get (H.n+1)=.cells [va,vb,.slice none 0 0] 26 .ex∧SR h 3 l1.length va (l1.flatMap G7)∧GS h 4 s.2.2.length vb (s.2.2.flatMap Fs) gb∧(∀ x,gb=some x→H.n≤x)∧(vb=.slice none 0 0∨H.n+1<C4 vb)∧s.2.2.length+s.1≤100∧Og mass hours (Mt x1 1 sorts).toNat (Iz x1 1 sorts) []=Og mass hours s.1 s.2.1 s.2.2) (fun s=>s.1) (((Mt x1 1 sorts).toNat,Iz x1 1 sorts,([]:List Srt))) (by focus exact Bb) (H0:=H) (by focus exact Bm) (by intro b hb hlt;simp at hb ⊢;try omega) ?_ ?_
  rotate_left
  intro s2 e2 h2 Lm Ol Ji A30 Ov
  simp only[Ag,Af,and_true]at Lm
  try simp only[↓pb,An,Cn,hg,hx1,Ab,irN,nrA,nrM,nrE,reduceIte,reduceCtorEq,nrL]at Lm
  have hn12:=Ol.n;have hn02:=Ji.n;try simp only[Ao,A3]at hn12
  replace Ab:=Lm
  rotate_left
  ·refine⟨Mt x1 1 sorts,.slice none 0 0,none,by simp only[↓pb,An,Cn,hg,Ab,irN,nrA,nrM,nrE,reduceIte,reduceCtorEq,nrL],rfl,by omega,by simp(disch:=try exact dA) only[Bh,Cn,hg,Ab,irN,nrA,nrM,nrE,reduceIte,reduceCtorEq,nrL],by simp(disch:=try exact dA) only[Bh,Cn,hg,Ab,irN,nrA,nrM,nrE,reduceIte,reduceCtorEq,nrL];exact k2, ?_,.nil rfl rfl rfl,by simp,.inl rfl, ?_,rfl⟩
   ·have:=G.fr' (N:=h1.n) (X:=[b]) (B:=fh h1 b (Iz x1 1 sorts)) (by exact Bm) (fun x hx=>by subst hx;exact G.grp_lt) (by rcases g3 with g3|g3;exact .inl g3;exact .inr Lw)
    exact this.sr
   ·show 0+(Mt x1 1 sorts).toNat≤100
    omega
  have hskA:l1.length=0∨SK h1 3 va:=G.sk
  have hltA:l1.length=0∨C4 va<h1.n:=G.sr.lt
  clear G g2 k1 k2 r2
  obtain⟨n2,x2,l2⟩:=s2
  obtain⟨i2,vb,gb,e16,ei2,ilt2,k1,k2,Sa,G,g2,g6,g7,g8⟩:=Ov
  dsimp only at ei2 k1 G g7 g8
  have ho2:=G.one
  have hoa:=Sa.one
  have r2:h2.rd (H.n+1)=some [va,vb,.slice none 0 0]:=by rw[Bf,k2];rfl
  by_cases hj2:0<i2
  ·have e20:Dz (mass.tdiv 20)=IntKind.i64.wrap (mass.tdiv 20):=rfl
   repeat'(first|((with_reducible refine hK _ _ fun e2 Aj=>?_);clear hK K;simp only[I1,Ag,Af,and_true,↓pb,An,Cn,hg,e16,r2,k1,k2,Fs,Ab,irN,nrA,nrM,nrE,reduceIte,reduceCtorEq,nrL]at Aj;clear Ab;(try clear eg);have Ab:=Aj;clear Aj;rename Bi=>eg)|((first|((with_reducible first|apply Ac|apply Al|apply Ak);(simp(disch:=try exact dA) only[Bh,Cn,hg,e16,r2,k1,k2,Fs,Ab,irN,nrA,nrM,nrE,reduceIte,reduceCtorEq,nrL];with_reducible exact rfl))|((with_reducible first|apply Ar|apply As|apply Aq);(focus exact Ee))|((with_reducible apply Cp);(simp only[↓pb,An,Cn,hg,e16,r2,k1,k2,Fs,Ab,irN,nrA,nrM,nrE,reduceIte,reduceCtorEq,nrL];(first|exact f20 _ _ _ _ (by simp(disch:=try exact dA) only[Bh,Cn,hg,e16,r2,k1,k2,Fs,Ab,irN,nrA,nrM,nrE,reduceIte,reduceCtorEq,nrL];rfl) (by omega)|exact f20 _ _ _ _ (by simp(disch:=try exact dA) only[Bh,Cn,hg,e16,r2,k1,k2,Fs,Ab,irN,nrA,nrM,nrE,reduceIte,reduceCtorEq,nrL];rfl) (W0 _)|exact f31 _ _ _ _ _ (by simp(disch:=try exact dA) only[Bh,Cn,hg,e16,r2,k1,k2,Fs,Ab,irN,nrA,nrM,nrE,reduceIte,reduceCtorEq,nrL];rfl)|exact f18 _ _ _ [_,_] _ (by simp(disch:=try exact dA) only[Bh,Cn,hg,e16,r2,k1,k2,Fs,Ab,irN,nrA,nrM,nrE,reduceIte,reduceCtorEq,nrL];rfl) (SR.new rfl) (.inl (by simp only[C4];omega)) (by simp)|exact f18 _ _ _ [_,_,_,_] _ (by simp(disch:=try exact dA) only[Bh,Cn,hg,e16,r2,k1,k2,Fs,Ab,irN,nrA,nrM,nrE,reduceIte,reduceCtorEq,nrL];rfl) (SR.new rfl) (.inl (by simp only[C4];omega)) (by simp))))|(with_reducible first|refine Ai I1 fun K hK=>?_|refine Aw I1 fun K hK=>?_));try simp only[↓pb,↓pd,Bp,Cn,hg,e16,r2,k1,k2,Fs,Ab,irN,nrA,nrM,nrE,reduceIte,reduceCtorEq,nrL])|((first|((with_reducible first|apply Br|apply Bt|apply Cc|apply Cd);exact rfl)|(with_reducible apply Au));(simp only[↓pb,An,Cn,hg,e16,r2,k1,k2,Fs,Ab,irN,nrA,nrM,nrE,reduceIte,reduceCtorEq,nrL];with_reducible exact rfl);all_goals(intro hc;(first|exact C8 hc|try simp only[C0]at hc);try((with_reducible first|apply E3|apply Ge);simp only[↓pb,↓pd,Bp,Cn,hg,e16,r2,k1,k2,Fs,hc,Ab,irN,nrA,nrM,nrE,reduceIte,reduceCtorEq,nrL])))|(with_reducible first|refine Az ?_|refine Ap ?_|refine At ?_|refine Ay ?_|refine Ax ?_|apply Ad)|((with_reducible apply Ae);(focus decide))|fail)
   have hvb:vb=.slice none 0 0∨C4 vb∉[b]:=by
    rcases g6 with g6|g6
    ·exact .inl g6
    ·exact .inr Lw
   refine B7V (n:=l2.length) (m:=1) (c:=l2.flatMap Fs) (g:=gb) ?b1 (SR.new rfl) (by omega) (by omega) (by omega) ?b3 fun GG=>?b4
   case b1 =>
    refine GS.ex ?_
    refine G.fr' (N:=h2.n) (X:=[b]) ?_ (fun x hx=>by subst hx;exact G.grp_lt) hvb
    exact Bm
   case b3 =>
    exact Bb
   have hgd2:=GG.grp_lt
   simp only[Ao,A3,nb]at hgd2
   simp only[Ao,A3,nb]at GG
   simp only[↓pb,↓pd,Bp,Cn,hg,e16,k2,Ab,irN,nrA,nrM,nrE,reduceIte,reduceCtorEq,nrL]
   repeat'(first|((with_reducible refine hK _ _ fun e2 Aj=>?_);clear hK K;simp only[I1,Ag,Af,and_true,↓pb,An,Cn,hg,e16,k2,Ab,irN,nrA,nrM,nrE,reduceIte,reduceCtorEq,nrL]at Aj;clear Ab;(try clear eg);have Ab:=Aj;clear Aj;rename Bi=>eg)|((first|((with_reducible first|apply Ac|apply Al|apply Ak);(simp(disch:=try exact dA) only[Bh,Cn,hg,e16,k2,Ab,irN,nrA,nrM,nrE,reduceIte,reduceCtorEq,nrL];with_reducible exact rfl))|((with_reducible first|apply Ar|apply As|apply Aq);(focus exact Ee))|(with_reducible first|refine Ai I1 fun K hK=>?_|refine Aw I1 fun K hK=>?_));try simp only[↓pb,↓pd,Bp,Cn,hg,e16,k2,Ab,irN,nrA,nrM,nrE,reduceIte,reduceCtorEq,nrL])|((first|((with_reducible first|apply Br|apply Bt|apply Cc|apply Cd);exact rfl)|(with_reducible apply Au));(simp only[↓pb,An,Cn,hg,e16,k2,Ab,irN,nrA,nrM,nrE,reduceIte,reduceCtorEq,nrL];with_reducible exact rfl);all_goals(intro hc;(first|exact C8 hc|try simp only[C0]at hc);try((with_reducible first|apply E3|apply Ge);simp only[↓pb,↓pd,Bp,Cn,hg,e16,k2,hc,Ab,irN,nrA,nrM,nrE,reduceIte,reduceCtorEq,nrL])))|(with_reducible first|refine Az ?_|refine Ap ?_|refine At ?_|refine Ay ?_|refine Ax ?_|apply Ad)|((with_reducible apply Ae);(focus decide))|fail)
   have hgd1:=Je g2 (n:=h2.n+5) (by omega)
   have hw:IntKind.i64.wrap (i2-1)=i2-1:=H4 (by omega) (by omega)
   obtain⟨n3,rfl⟩:∃ n3,n2=n3+1:=⟨n2-1,by omega⟩
   refine⟨(n3,(A3p mass hours x2).2,l2 ++ [(A3p mass hours x2).1]),Nat.lt_succ_self _,(by exact Bm),i2-1,.slice (some ⟨h2.n+5,0,none⟩) (l2.length+1) (l2.length+1),some (gb.getD (h2.n+5)),by simp only[↓pb,An,Cn,hg,Ab,irN,nrA,nrM,nrE,reduceIte,reduceCtorEq,nrL];rw[hw],by dsimp only;omega,by omega,by simp(disch:=try exact dA) only[Bh,Cn,hg,Ab,irN,nrA,nrM,nrE,reduceIte,reduceCtorEq,nrL];rfl,by simp(disch:=try exact dA) only[Bh,Cn,hg,Ab,irN,nrA,nrM,nrE,reduceIte,reduceCtorEq,nrL], ?_, ?_,La hgd1,.inr (by show H.n+1<h2.n+5;omega), ?_, ?_⟩
   ·exact Sa.fr (N:=H.n) (X:=[b,H.n+1]) (by exact Bm) (by rcases g3 with rfl|g3;(left;exact(Sa.shape.elim And.right fun ⟨_,_,_,h,_⟩=>by cases h));(right;exact Lw))
   ·dsimp only
    rw[List.flatMap_append,List.flatMap_singleton,List.length_append]
    exact GG.fr (N:=h2.n+6) (X:=[b,H.n+1]) (by exact Bm) (fun x hx=>by cases hx;exact hgd2) (by show h2.n+5∉[b,H.n+1];exact Lw)
   ·dsimp only
    rw[List.length_append,List.length_singleton];omega
   ·rw[g8];rfl
  ·have e0:n2=0:=by omega
   subst e0
   have gb2:Og mass hours (Mt x1 1 sorts).toNat (Iz x1 1 sorts) []=(l2,x2):=g8
   repeat'(first|((with_reducible refine hK _ _ fun e2 Aj=>?_);clear hK K;simp only[I1,Ag,Af,and_true,↓pb,An,Cn,hg,e16,r2,k1,k2,Am Sa,Ab,irN,nrA,nrM,nrE,reduceIte,reduceCtorEq,nrL]at Aj;clear Ab;(try clear eg);have Ab:=Aj;clear Aj;rename Bi=>eg)|((first|((with_reducible first|apply Ac|apply Al|apply Ak);(simp(disch:=try exact dA) only[Bh,Cn,hg,e16,r2,k1,k2,Am Sa,Ab,irN,nrA,nrM,nrE,reduceIte,reduceCtorEq,nrL];with_reducible exact rfl))|((with_reducible first|apply Ar|apply As|apply Aq);(focus exact Ee))|((with_reducible apply Cp);(simp only[↓pb,An,Cn,hg,e16,r2,k1,k2,Am Sa,Ab,irN,nrA,nrM,nrE,reduceIte,reduceCtorEq,nrL];(exact f20 _ _ _ _ (by simp(disch:=try exact dA) only[Bh,Cn,hg,e16,r2,k1,k2,Am Sa,Ab,irN,nrA,nrM,nrE,reduceIte,reduceCtorEq,nrL];rfl) (W0 _))))|(with_reducible first|refine Ai I1 fun K hK=>?_|refine Aw I1 fun K hK=>?_));try simp only[↓pb,↓pd,Bp,Cn,hg,e16,r2,k1,k2,Am Sa,Ab,irN,nrA,nrM,nrE,reduceIte,reduceCtorEq,nrL])|((first|((with_reducible first|apply Br|apply Bt|apply Cc|apply Cd);exact rfl)|(with_reducible apply Au));(simp only[↓pb,An,Cn,hg,e16,r2,k1,k2,Am Sa,Ab,irN,nrA,nrM,nrE,reduceIte,reduceCtorEq,nrL];with_reducible exact rfl);all_goals(intro hc;(first|exact C8 hc|try simp only[C0]at hc);try((with_reducible first|apply E3|apply Ge);simp only[↓pb,↓pd,Bp,Cn,hg,e16,r2,k1,k2,Am Sa,hc,Ab,irN,nrA,nrM,nrE,reduceIte,reduceCtorEq,nrL])))|(with_reducible first|refine Az ?_|refine Ap ?_|refine At ?_|refine Ay ?_|refine Ax ?_|apply Ad)|((with_reducible apply Ae);(focus decide))|fail)
   have hL1:1≤l1.length:=by have:=A0F (Mt x 1 spots).toNat (Iz x 1 spots) [];rw[ga]at this;simp at this;omega
   have hL2:1≤l2.length:=by have:=A0G (m:=mass) (h:=hours) (Mt x1 1 sorts).toNat (Iz x1 1 sorts) [];rw[gb2]at this;simp at this;omega
   have ew:IntKind.i64.wrap (acts+1)=acts+1:=H4 (by omega) (by omega)
   have w3:=Dw x2 (IntKind.i64.wrap (acts+1)) (W0 _)
   rw[ew]at w3
   have w4:=w3.2.1 (by omega)
   have hx2:=Lm
   have hva:l1.length=0∨C4 va∉[b]:=by rcases g3 with rfl|g3;(left;exact(Sa.shape.elim And.right fun ⟨_,_,_,h,_⟩=>by cases h));(right;exact Lw)
   have hvb:vb=.slice none 0 0∨C4 vb∉[b]:=by
    rcases g6 with g6|g6
    ·exact .inl g6
    ·exact .inr Lw
   have Sb:SR (fh (h2.upd (h2.n+1) h2.n (.cells (List.replicate l1.length (iv 0)) 3 .ex)) b (Cb x2 (IntKind.i64.wrap (acts+1)))) 4 l2.length vb (l2.flatMap Fs):=(G.fr' (N:=h2.n) (X:=[b]) (by exact Bm) (fun x hx=>by subst hx;exact G.grp_lt) hvb).sr
   refine Vx [0,4,5,12,14,17] (by kernel_rfl) (H.n) [b,H.n+1,h2.n] [b] (fun s e h=>∃ (i:Int) (vc vt:Value) (gc gt:Option Nat),e 20=iv i∧i.toNat=s.1∧i≤1001∧e 18=iv s.2.hour∧e 19=vt∧h.get b=.cells [uv s.2.x] 85 .ex∧h.get (H.n+1)=.cells [va,vb,vc] 26 .ex∧h.get h2.n=.cells (Ck s.2.lies) 3 .ex∧s.2.lies.length=l1.length∧SR h 3 l1.length va (l1.flatMap G7)∧SR h 4 l2.length vb (l2.flatMap Fs)∧GS h 6 s.2.acts.length vc (s.2.acts.flatMap Bn) gc∧((∀ x,gc=some x→h2.n≤x)∧(gc=none→vc=.slice none 0 0))∧(vc=.slice none 0 0∨h2.n<C4 vc)∧GS h 1 s.2.truth.length vt (Ck s.2.truth) gt∧(∀ x,gt=some x→H.n≤x)∧(vt=.slice none 0 0∨h2.n<C4 vt)∧(∀ y,gc=some y→gt≠some y)∧s.2.acts.length+s.1≤1001∧s.2.truth.length=s.2.acts.length∧Qf.run l1.length l2.length mass hours (Cm x2 (IntKind.i64.wrap (acts+1))).toNat ⟨Cb x2 (IntKind.i64.wrap (acts+1)),0,List.replicate l1.length 0,[],[]⟩=Qf.run l1.length l2.length mass hours s.1 s.2) (fun s=>s.1) (((Cm x2 (IntKind.i64.wrap (acts+1))).toNat,(⟨Cb x2 (IntKind.i64.wrap (acts+1)),0,List.replicate l1.length 0,[],[]⟩:Qf))) (by focus exact Bb) (H0:=H) (by focus exact Bm) (by intro b hb hlt;simp at hb ⊢;try omega) ?_ ?_
   rotate_left
   intro s3 e3 h3 hE3 hF3 Yj B6s hJ3
   simp only[Ag,Af,and_true]at hE3
   try simp only[↓pb,An,Cn,hg,hx2,Ab,irN,nrA,nrM,nrE,reduceIte,reduceCtorEq,nrL]at hE3
   have hn13:=hF3.n;have hn03:=Yj.n;try simp only[Ao,A3]at hn13
   replace Ab:=hE3
   rotate_left
   ·have w5:0≤Cm x2 (IntKind.i64.wrap (acts+1))∧Cm x2 (IntKind.i64.wrap (acts+1))<acts+1:=by rw[ew];exact⟨w3.1,w4⟩
    refine⟨Cm x2 (IntKind.i64.wrap (acts+1)),.slice none 0 0,.slice none 0 0,none,none,by simp only[↓pb,An,Cn,hg,Ab,irN,nrA,nrM,nrE,reduceIte,reduceCtorEq,nrL],rfl,by omega,by simp only[↓pb,An,Cn,hg,Ab,irN,nrA,nrM,nrE,reduceIte,reduceCtorEq,nrL],by simp only[↓pb,An,Cn,hg,Ab,irN,nrA,nrM,nrE,reduceIte,reduceCtorEq,nrL],by simp(disch:=try exact dA) only[Bh,Cn,hg,Ab,irN,nrA,nrM,nrE,reduceIte,reduceCtorEq,nrL],by simp(disch:=try exact dA) only[Bh,Cn,hg,Ab,irN,nrA,nrM,nrE,reduceIte,reduceCtorEq,nrL];exact k2, ?_,by simp, ?_,Sb,.nil rfl rfl rfl,⟨by simp,fun _=>rfl⟩,.inl rfl,.nil rfl rfl rfl,by simp,.inl rfl,by simp, ?_,rfl,rfl⟩
    ·simp(disch:=try exact dA) only[Bh,Cn,hg,Ab,irN,nrA,nrM,nrE,reduceIte,reduceCtorEq,nrL]
     simp[Ck]
    ·exact Sa.fr (N:=H.n) (X:=[b]) (by exact Bm) hva
    ·show 0+(Cm x2 (IntKind.i64.wrap (acts+1))).toNat≤1001
     omega
   have hva4:l1.length=0∨C4 va∉[b,H.n+1,h2.n]:=by
    rcases g3 with rfl|g3
    ·left;exact(Sa.shape.elim And.right fun ⟨_,_,_,h,_⟩=>by cases h)
    ·have hlt:=Sa.lt
     rcases hlt with hlt|hlt
     ·exact .inl hlt
     ·right;exact Lw
   have hvb4:l2.length=0∨C4 vb∉[b,H.n+1,h2.n]:=by
    rcases g6 with rfl|g6
    ·left;exact(G.sr.shape.elim And.right fun ⟨_,_,_,h,_⟩=>by cases h)
    ·have hlt:=G.sr.lt
     rcases hlt with hlt|hlt
     ·exact .inl hlt
     ·right;exact Lw
   obtain⟨n3,st⟩:=s3
   obtain⟨i3,vc,vt,gc,gt,e20,ei3,ilt3,e18,e19,m1,m2,m3,m4,Sa3,Sb3,Gc,⟨c1,c1n⟩,c2,Gt,t1,t2,ne,bd,le,run⟩:=hJ3
   dsimp only at ei3 e18 m1 m3 m4 Gc Gt bd le run
   have hoa3:=Sa3.one;have hob3:=Sb3.one;have hoc3:=Gc.one;have hot3:=Gt.one
   have r2:h3.rd (H.n+1)=some [va,vb,vc]:=by rw[Bf,m2];rfl
   have r3:h3.rd h2.n=some (Ck st.lies):=by rw[Bf,m3];rfl
   by_cases hj3:0<i3
   ·obtain⟨n4,rfl⟩:∃ n4,n3=n4+1:=⟨n3-1,by omega⟩
    rw[Qf.run]at run
    have hvc:vc=.slice none 0 0∨C4 vc∉[b,h2.n]:=by
     rcases c2 with c2|c2
     ·exact .inl c2
     ·exact .inr Lw
    have hvt:vt=.slice none 0 0∨C4 vt∉[b,h2.n]:=by
     rcases t2 with t2|t2
     ·exact .inl t2
     ·exact .inr Lw
    have hw:IntKind.i64.wrap (i3-1)=i3-1:=H4 (by omega) (by omega)
    have hva3:l1.length=0∨C4 va∉[b,H.n+1,h2.n]:=hva4
    have hvb3:l2.length=0∨C4 vb∉[b,H.n+1,h2.n]:=hvb4
    have gne:∀ k,h3.n≤k→gt≠some (gc.getD k):=by
     intro k hk hh
     cases gc with
     | none=>subst hh;have:=Gt.grp_lt;simp at this;omega
     | some y=>exact ne y rfl hh
    have sp:=Dw (Ej (Cb st.x 4) [0,1,Cm st.x 4]) (l1.length:Int) (by omega)
    have sp1:=sp.2.1 (by omega)
    obtain⟨p,ep⟩:∃ p,p=Cm (Ej (Cb st.x 4) [0,1,Cm st.x 4]) ↑l1.length:=⟨_,rfl⟩
    have li:(Ck st.lies)[p.toNat*1]? = some (iv (st.lies.getD p.toNat 0)):=by
     rw[Nat.mul_one];exact Av (by omega)
    rw[ep]at li
    repeat'(first|((with_reducible refine hK _ _ fun e2 Aj=>?_);clear hK K;simp only[I1,Ag,Af,and_true,↓pb,An,Cn,hg,e20,e18,e19,m1,m2,r2,r3,m3,Am Sa3,Bj Sb3,Sa3.mapB,Sb3.mapB,Jk,N8 sp.1 sp1,li,Ij,Ab,irN,nrA,nrM,nrE,reduceIte,reduceCtorEq,nrL]at Aj;clear Ab;(try clear eg);have Ab:=Aj;clear Aj;rename Bi=>eg)|((first|((with_reducible first|apply Ac|apply Al|apply Ak);(simp(disch:=try exact dA) only[Bh,Cn,hg,e20,e18,e19,m1,m2,r2,r3,m3,Am Sa3,Bj Sb3,Sa3.mapB,Sb3.mapB,Jk,N8 sp.1 sp1,li,Ij,Ab,irN,nrA,nrM,nrE,reduceIte,reduceCtorEq,nrL];with_reducible exact rfl))|((with_reducible first|apply Ar|apply As|apply Aq);(focus exact Ee))|((with_reducible apply Cp);(simp only[↓pb,An,Cn,hg,e20,e18,e19,m1,m2,r2,r3,m3,Am Sa3,Bj Sb3,Sa3.mapB,Sb3.mapB,Jk,N8 sp.1 sp1,li,Ij,Ab,irN,nrA,nrM,nrE,reduceIte,reduceCtorEq,nrL];(first|exact f20 _ _ _ _ (by simp(disch:=try exact dA) only[Bh,Cn,hg,e20,e18,e19,m1,m2,r2,r3,m3,Am Sa3,Bj Sb3,Sa3.mapB,Sb3.mapB,Jk,N8 sp.1 sp1,li,Ij,Ab,irN,nrA,nrM,nrE,reduceIte,reduceCtorEq,nrL];rfl) (by omega)|exact f20 _ _ _ _ (by simp(disch:=try exact dA) only[Bh,Cn,hg,e20,e18,e19,m1,m2,r2,r3,m3,Am Sa3,Bj Sb3,Sa3.mapB,Sb3.mapB,Jk,N8 sp.1 sp1,li,Ij,Ab,irN,nrA,nrM,nrE,reduceIte,reduceCtorEq,nrL];rfl) (B6n _)|exact f31 _ _ _ _ _ (by simp(disch:=try exact dA) only[Bh,Cn,hg,e20,e18,e19,m1,m2,r2,r3,m3,Am Sa3,Bj Sb3,Sa3.mapB,Sb3.mapB,Jk,N8 sp.1 sp1,li,Ij,Ab,irN,nrA,nrM,nrE,reduceIte,reduceCtorEq,nrL];rfl)|exact f18 _ _ _ [_,_] _ (by simp(disch:=try exact dA) only[Bh,Cn,hg,e20,e18,e19,m1,m2,r2,r3,m3,Am Sa3,Bj Sb3,Sa3.mapB,Sb3.mapB,Jk,N8 sp.1 sp1,li,Ij,Ab,irN,nrA,nrM,nrE,reduceIte,reduceCtorEq,nrL];rfl) (SR.new rfl) (.inl (by simp only[C4];omega)) (by simp)|exact f18 _ _ _ [_,_,_] _ (by simp(disch:=try exact dA) only[Bh,Cn,hg,e20,e18,e19,m1,m2,r2,r3,m3,Am Sa3,Bj Sb3,Sa3.mapB,Sb3.mapB,Jk,N8 sp.1 sp1,li,Ij,Ab,irN,nrA,nrM,nrE,reduceIte,reduceCtorEq,nrL];rfl) (SR.new rfl) (.inl (by simp only[C4];omega)) (by simp)|exact f41 _ _ _ _ _ (by simp(disch:=try exact dA) only[Bh,Cn,hg,e20,e18,e19,m1,m2,r2,r3,m3,Am Sa3,Bj Sb3,Sa3.mapB,Sb3.mapB,Jk,N8 sp.1 sp1,li,Ij,Ab,irN,nrA,nrM,nrE,reduceIte,reduceCtorEq,nrL];rfl) (by omega))))|(with_reducible first|refine Ai I1 fun K hK=>?_|refine Aw I1 fun K hK=>?_));try simp only[↓pb,↓pd,Bp,Cn,hg,e20,e18,e19,m1,m2,r2,r3,m3,Am Sa3,Bj Sb3,Sa3.mapB,Sb3.mapB,Jk,N8 sp.1 sp1,li,Ij,Ab,irN,nrA,nrM,nrE,reduceIte,reduceCtorEq,nrL])|((first|((with_reducible first|apply Br|apply Bt|apply Cc|apply Cd);exact rfl)|(with_reducible apply Au));(simp only[↓pb,An,Cn,hg,e20,e18,e19,m1,m2,r2,r3,m3,Am Sa3,Bj Sb3,Sa3.mapB,Sb3.mapB,Jk,N8 sp.1 sp1,li,Ij,Ab,irN,nrA,nrM,nrE,reduceIte,reduceCtorEq,nrL];with_reducible exact rfl);all_goals(intro hc;(first|exact C8 hc|try simp only[C0]at hc);try((with_reducible first|apply E3|apply Ge);simp only[↓pb,↓pd,Bp,Cn,hg,e20,e18,e19,m1,m2,r2,r3,m3,Am Sa3,Bj Sb3,Sa3.mapB,Sb3.mapB,Jk,N8 sp.1 sp1,li,Ij,hc,Ab,irN,nrA,nrM,nrE,reduceIte,reduceCtorEq,nrL])))|(with_reducible first|refine Az ?_|refine Ap ?_|refine At ?_|refine Ay ?_|refine Ax ?_|apply Ad)|((with_reducible apply Ae);(focus decide))|fail)
    all_goals
     refine B7T (n:=st.acts.length) (m:=1) (c:=st.acts.flatMap Bn) (g:=gc) ?_ (SR.new rfl) (by omega) (by omega) (by omega) ?_ fun GG=>?_
     ·refine GS.ex ?_
      refine Gc.fr' (N:=h3.n) (X:=[b,h2.n]) ?_ (fun x hx=>by subst hx;exact Gc.grp_lt) hvc
      exact Bm
     ·exact Bb
     have hgd2:=GG.grp_lt
     simp only[Ao,A3,nb]at hgd2
     simp only[Ao,A3,nb]at GG
     simp only[↓pb,↓pd,Bp,Cn,hg,m2,Ab,irN,nrA,nrM,nrE,reduceIte,reduceCtorEq,nrL]
     repeat'(first|((with_reducible refine hK _ _ fun e2 Aj=>?_);clear hK K;simp only[I1,Ag,Af,and_true,↓pb,An,Cn,hg,m2,Ab,irN,nrA,nrM,nrE,reduceIte,reduceCtorEq,nrL]at Aj;clear Ab;(try clear eg);have Ab:=Aj;clear Aj;rename Bi=>eg)|((first|((with_reducible first|apply Ac|apply Al|apply Ak);(simp(disch:=try exact dA) only[Bh,Cn,hg,m2,Ab,irN,nrA,nrM,nrE,reduceIte,reduceCtorEq,nrL];with_reducible exact rfl))|((with_reducible first|apply Ar|apply As|apply Aq);(focus exact Ee))|(with_reducible first|refine Ai I1 fun K hK=>?_|refine Aw I1 fun K hK=>?_));try simp only[↓pb,↓pd,Bp,Cn,hg,m2,Ab,irN,nrA,nrM,nrE,reduceIte,reduceCtorEq,nrL])|((first|((with_reducible first|apply Br|apply Bt|apply Cc|apply Cd);exact rfl)|(with_reducible apply Au));(simp only[↓pb,An,Cn,hg,m2,Ab,irN,nrA,nrM,nrE,reduceIte,reduceCtorEq,nrL];with_reducible exact rfl);all_goals(intro hc;(first|exact C8 hc|try simp only[C0]at hc);try((with_reducible first|apply E3|apply Ge);simp only[↓pb,↓pd,Bp,Cn,hg,m2,hc,Ab,irN,nrA,nrM,nrE,reduceIte,reduceCtorEq,nrL])))|(with_reducible first|refine Az ?_|refine Ap ?_|refine At ?_|refine Ay ?_|refine Ax ?_|apply Ad)|((with_reducible apply Ae);(focus decide))|fail)
     refine B6h (n:=st.truth.length) (m:=1) (c:=Ck st.truth) (g:=gt) ?_ (SR.new rfl) (by omega) (by omega) (by omega) ?_ fun GT=>?_
     ·refine GS.ex (GS.upd_gr (GS.ex (Gt.fr' (N:=h3.n) (X:=[b,h2.n]) ?_ (fun x hx=>by subst hx;exact Gt.grp_lt) hvt)) ?_)
      ·exact Bm
      ·exact gne _ (by omega)
     ·exact Bb
     have hgd3:=GT.grp_lt
     simp only[Ao,A3,nb]at hgd3
     simp only[Ao,A3,nb]at GT
     have GC2:=fun c' T d T2 g' e l hne=>GS.upd_gr (d:=d) (T:=T2) (g':=g') (e:=e) (l:=l) (GS.ex (c':=c') (T:=T) GG) hne
     simp only[Ao,A3,nb]at GC2
     simp only[↓pb,↓pd,Bp,Cn,hg,m2,Ab,irN,nrA,nrM,nrE,reduceIte,reduceCtorEq,nrL]
     repeat'(first|((with_reducible refine hK _ _ fun e2 Aj=>?_);clear hK K;simp only[I1,Ag,Af,and_true,↓pb,An,Cn,hg,m2,Ab,irN,nrA,nrM,nrE,reduceIte,reduceCtorEq,nrL]at Aj;clear Ab;(try clear eg);have Ab:=Aj;clear Aj;rename Bi=>eg)|((first|((with_reducible first|apply Ac|apply Al|apply Ak);(simp(disch:=try exact dA) only[Bh,Cn,hg,m2,Ab,irN,nrA,nrM,nrE,reduceIte,reduceCtorEq,nrL];with_reducible exact rfl))|((with_reducible first|apply Ar|apply As|apply Aq);(focus exact Ee))|(with_reducible first|refine Ai I1 fun K hK=>?_|refine Aw I1 fun K hK=>?_));try simp only[↓pb,↓pd,Bp,Cn,hg,m2,Ab,irN,nrA,nrM,nrE,reduceIte,reduceCtorEq,nrL])|((first|((with_reducible first|apply Br|apply Bt|apply Cc|apply Cd);exact rfl)|(with_reducible apply Au));(simp only[↓pb,An,Cn,hg,m2,Ab,irN,nrA,nrM,nrE,reduceIte,reduceCtorEq,nrL];with_reducible exact rfl);all_goals(intro hc;(first|exact C8 hc|try simp only[C0]at hc);try((with_reducible first|apply E3|apply Ge);simp only[↓pb,↓pd,Bp,Cn,hg,m2,hc,Ab,irN,nrA,nrM,nrE,reduceIte,reduceCtorEq,nrL])))|(with_reducible first|refine Az ?_|refine Ap ?_|refine At ?_|refine Ay ?_|refine Ax ?_|apply Ad)|((with_reducible apply Ae);(focus decide))|fail)
    ·have hst:=Qf.step_take (spots:=l1.length) (sorts:=l2.length) (mass:=mass) (hours:=hours) (s:=st) (by assumption) (by assumption)
     dsimp only at hst
     rw[hst]at run
     have hgA1:=Je c1 (n:=h3.n+6) (by omega)
     have hgT1:=Je t1 (n:=h3.n+8) (by omega)
     have hgA:∀ x,some (gc.getD (h3.n+6))=some x→h2.n≤x:=La (Je c1 (n:=h3.n+6) (by omega))
     have hgT:∀ x,some (gt.getD (h3.n+8))=some x→H.n≤x:=La (Je t1 (n:=h3.n+8) (by omega))
     have hne2:some (gc.getD (h3.n+6))≠some (gt.getD (h3.n+8)):=by
      intro hh
      cases gc with
      | none =>
       cases gt with
       | none=>simp at hh
       | some z=>have:=Gt.grp_lt;simp at hh;omega
      | some y =>
       cases gt with
       | none=>have:=Gc.grp_lt;simp at hh;omega
       | some z=>exact ne y rfl hh.symm
     refine⟨(n4,_),Nat.lt_succ_self _,(by exact Bm),i3-1,.slice (some ⟨h3.n+6,0,none⟩) (st.acts.length+1) (st.acts.length+1),.slice (some ⟨h3.n+8,0,none⟩) (st.truth.length+1) (st.truth.length+1),some (gc.getD (h3.n+6)),some (gt.getD (h3.n+8)),by simp only[↓pb,An,Cn,hg,Ab,irN,nrA,nrM,nrE,reduceIte,reduceCtorEq,nrL];rw[hw],
      by dsimp only;omega,by omega, ?_,(by simp only[↓pb,An,Cn,hg,Ab,irN,nrA,nrM,nrE,reduceIte,reduceCtorEq,nrL];done), ?_,(by simp(disch:=try exact dA) only[Bh,Cn,hg,Ab,irN,nrA,nrM,nrE,reduceIte,reduceCtorEq,nrL];done), ?_, ?_, ?_, ?_, ?_,⟨hgA,fun q=>by cases q⟩,.inr (by show h2.n<h3.n+6;omega), ?_,hgT,.inr (by show h2.n<h3.n+8;omega), ?_, ?_, ?_,run⟩
     ·simp only[↓pb,An,Cn,hg,Ab,irN,nrA,nrM,nrE,reduceIte,reduceCtorEq,nrL]
      rfl
     ·simp(disch:=try exact dA) only[Bh,Cn,hg,Ab,irN,nrA,nrM,nrE,reduceIte,reduceCtorEq,nrL]
      rfl
     ·simp(disch:=try exact dA) only[Bh,Cn,hg,Ab,irN,nrA,nrM,nrE,reduceIte,reduceCtorEq,nrL]
      rfl
     ·dsimp only
      rw[List.length_set]
      exact m4
     ·exact Sa3.fr (N:=H.n) (X:=[b,H.n+1,h2.n]) (by exact Bm) hva3
     ·exact Sb3.fr (N:=H.n) (X:=[b,H.n+1,h2.n]) (by exact Bm) hvb3
     ·dsimp only
      rw[List.flatMap_append,List.flatMap_singleton,List.length_append]
      exact(GC2 _ _ _ _ _ _ _ hne2).fr (N:=h3.n+20) (X:=[b,H.n+1]) (by exact Bm) (fun x hx=>by cases hx;omega) (by show h3.n+6∉[b,H.n+1];exact Lw)
     ·dsimp only
      rw[Yg,List.length_append]
      exact GT.fr (N:=h3.n+20) (X:=[b,H.n+1]) (by exact Bm) (fun x hx=>by cases hx;omega) (by show h3.n+8∉[b,H.n+1];exact Lw)
     ·intro y hy
      rw[← hy]
      exact fun hh=>hne2 hh.symm
     ·dsimp only
      rw[List.length_append,List.length_singleton];omega
     ·dsimp only
      rw[List.length_append,List.length_append,le];rfl
    ·have hst:=Qf.step_tip1 (spots:=l1.length) (sorts:=l2.length) (mass:=mass) (hours:=hours) (s:=st) (by assumption) (by assumption)
     dsimp only at hst
     rw[hst]at run
     have hgA1:=Je c1 (n:=h3.n+5) (by omega)
     have hgT1:=Je t1 (n:=h3.n+7) (by omega)
     have hgA:∀ x,some (gc.getD (h3.n+5))=some x→h2.n≤x:=La (Je c1 (n:=h3.n+5) (by omega))
     have hgT:∀ x,some (gt.getD (h3.n+7))=some x→H.n≤x:=La (Je t1 (n:=h3.n+7) (by omega))
     have hne2:some (gc.getD (h3.n+5))≠some (gt.getD (h3.n+7)):=by
      intro hh
      cases gc with
      | none =>
       cases gt with
       | none=>simp at hh
       | some z=>have:=Gt.grp_lt;simp at hh;omega
      | some y =>
       cases gt with
       | none=>have:=Gc.grp_lt;simp at hh;omega
       | some z=>exact ne y rfl hh.symm
     refine⟨(n4,_),Nat.lt_succ_self _,(by exact Bm),i3-1,.slice (some ⟨h3.n+5,0,none⟩) (st.acts.length+1) (st.acts.length+1),.slice (some ⟨h3.n+7,0,none⟩) (st.truth.length+1) (st.truth.length+1),some (gc.getD (h3.n+5)),some (gt.getD (h3.n+7)),by simp only[↓pb,An,Cn,hg,Ab,irN,nrA,nrM,nrE,reduceIte,reduceCtorEq,nrL];rw[hw],
      by dsimp only;omega,by omega, ?_,(by simp only[↓pb,An,Cn,hg,Ab,irN,nrA,nrM,nrE,reduceIte,reduceCtorEq,nrL];done), ?_,(by simp(disch:=try exact dA) only[Bh,Cn,hg,Ab,irN,nrA,nrM,nrE,reduceIte,reduceCtorEq,nrL];done), ?_, ?_, ?_, ?_, ?_,⟨hgA,fun q=>by cases q⟩,.inr (by show h2.n<h3.n+5;omega), ?_,hgT,.inr (by show h2.n<h3.n+7;omega), ?_, ?_, ?_,run⟩
     ·simp only[↓pb,An,Cn,hg,Ab,irN,nrA,nrM,nrE,reduceIte,reduceCtorEq,nrL]
      rfl
     ·simp(disch:=try exact dA) only[Bh,Cn,hg,Ab,irN,nrA,nrM,nrE,reduceIte,reduceCtorEq,nrL]
      rfl
     ·simp(disch:=try exact dA) only[Bh,Cn,hg,Ab,irN,nrA,nrM,nrE,reduceIte,reduceCtorEq,nrL]
      rfl
     ·dsimp only
      rw[List.length_set]
      exact m4
     ·exact Sa3.fr (N:=H.n) (X:=[b,H.n+1,h2.n]) (by exact Bm) hva3
     ·exact Sb3.fr (N:=H.n) (X:=[b,H.n+1,h2.n]) (by exact Bm) hvb3
     ·dsimp only
      rw[List.flatMap_append,List.flatMap_singleton,List.length_append]
      exact(GC2 _ _ _ _ _ _ _ hne2).fr (N:=h3.n+20) (X:=[b,H.n+1]) (by exact Bm) (fun x hx=>by cases hx;omega) (by show h3.n+5∉[b,H.n+1];exact Lw)
     ·dsimp only
      rw[Yg,List.length_append]
      exact GT.fr (N:=h3.n+20) (X:=[b,H.n+1]) (by exact Bm) (fun x hx=>by cases hx;omega) (by show h3.n+7∉[b,H.n+1];exact Lw)
     ·intro y hy
      rw[← hy]
      exact fun hh=>hne2 hh.symm
     ·dsimp only
      rw[List.length_append,List.length_singleton];omega
     ·dsimp only
      rw[List.length_append,List.length_append,le];rfl
    ·have hst:=Qf.step_tip0 (spots:=l1.length) (sorts:=l2.length) (mass:=mass) (hours:=hours) (s:=st) (by assumption)
     dsimp only at hst
     rw[hst]at run
     have hgA1:=Je c1 (n:=h3.n+5) (by omega)
     have hgT1:=Je t1 (n:=h3.n+7) (by omega)
     have hgA:∀ x,some (gc.getD (h3.n+5))=some x→h2.n≤x:=La (Je c1 (n:=h3.n+5) (by omega))
     have hgT:∀ x,some (gt.getD (h3.n+7))=some x→H.n≤x:=La (Je t1 (n:=h3.n+7) (by omega))
     have hne2:some (gc.getD (h3.n+5))≠some (gt.getD (h3.n+7)):=by
      intro hh
      cases gc with
      | none =>
       cases gt with
       | none=>simp at hh
       | some z=>have:=Gt.grp_lt;simp at hh;omega
      | some y =>
       cases gt with
       | none=>have:=Gc.grp_lt;simp at hh;omega
       | some z=>exact ne y rfl hh.symm
     refine⟨(n4,_),Nat.lt_succ_self _,(by exact Bm),i3-1,.slice (some ⟨h3.n+5,0,none⟩) (st.acts.length+1) (st.acts.length+1),.slice (some ⟨h3.n+7,0,none⟩) (st.truth.length+1) (st.truth.length+1),some (gc.getD (h3.n+5)),some (gt.getD (h3.n+7)),by simp only[↓pb,An,Cn,hg,Ab,irN,nrA,nrM,nrE,reduceIte,reduceCtorEq,nrL];rw[hw],
      by dsimp only;omega,by omega, ?_,(by simp only[↓pb,An,Cn,hg,Ab,irN,nrA,nrM,nrE,reduceIte,reduceCtorEq,nrL];done), ?_,(by simp(disch:=try exact dA) only[Bh,Cn,hg,Ab,irN,nrA,nrM,nrE,reduceIte,reduceCtorEq,nrL];done), ?_, ?_, ?_, ?_, ?_,⟨hgA,fun q=>by cases q⟩,.inr (by show h2.n<h3.n+5;omega), ?_,hgT,.inr (by show h2.n<h3.n+7;omega), ?_, ?_, ?_,run⟩
     ·simp only[↓pb,An,Cn,hg,Ab,irN,nrA,nrM,nrE,reduceIte,reduceCtorEq,nrL]
      rfl
     ·simp(disch:=try exact dA) only[Bh,Cn,hg,Ab,irN,nrA,nrM,nrE,reduceIte,reduceCtorEq,nrL]
      rfl
     ·simp(disch:=try exact dA) only[Bh,Cn,hg,Ab,irN,nrA,nrM,nrE,reduceIte,reduceCtorEq,nrL]
      rfl
     ·dsimp only
      rw[List.length_set]
      exact m4
     ·exact Sa3.fr (N:=H.n) (X:=[b,H.n+1,h2.n]) (by exact Bm) hva3
     ·exact Sb3.fr (N:=H.n) (X:=[b,H.n+1,h2.n]) (by exact Bm) hvb3
     ·dsimp only
      rw[List.flatMap_append,List.flatMap_singleton,List.length_append]
      exact(GC2 _ _ _ _ _ _ _ hne2).fr (N:=h3.n+20) (X:=[b,H.n+1]) (by exact Bm) (fun x hx=>by cases hx;omega) (by show h3.n+5∉[b,H.n+1];exact Lw)
     ·dsimp only
      rw[Yg,List.length_append]
      exact GT.fr (N:=h3.n+20) (X:=[b,H.n+1]) (by exact Bm) (fun x hx=>by cases hx;omega) (by show h3.n+7∉[b,H.n+1];exact Lw)
     ·intro y hy
      rw[← hy]
      exact fun hh=>hne2 hh.symm
     ·dsimp only
      rw[List.length_append,List.length_singleton];omega
     ·dsimp only
      rw[List.length_append,List.length_append,le];rfl
   ·have e0:n3=0:=by omega
    subst e0
    have hgo:Es x spots sorts acts mass hours=⟨⟨l1,l2,st.acts⟩,st.truth,st.x⟩:=by
     unfold Es
     simp only[ga,gb2]
     have run:Qf.run l1.length l2.length mass hours (Cm x2 (Dz (acts+1))).toNat ⟨Cb x2 (Dz (acts+1)),0,List.replicate l1.length 0,[],[]⟩=st:=run
     rw[run]
    have k0:h1.get H.n=.cells [.slice none 0 0,.slice none 0 0,.slice none 0 0] 26 .ex:=by
     rw[Ep.old H.n (by simp only[↓pb,An,Cn,hg,Ab,irN,nrA,nrM,nrE,reduceIte,reduceCtorEq,nrL];omega) Lw]
     simp(disch:=try exact dA) only[Bh,Cn,hg,Ab,irN,nrA,nrM,nrE,reduceIte,reduceCtorEq,nrL]
    have k1:h2.get H.n=.cells [.slice none 0 0,.slice none 0 0,.slice none 0 0] 26 .ex:=by
     rw[Ol.old H.n (by simp only[↓pb,An,Cn,hg,Ab,irN,nrA,nrM,nrE,reduceIte,reduceCtorEq,nrL];omega) Lw]
     simp(disch:=try exact dA) only[Bh,Cn,hg,k0,Ab,irN,nrA,nrM,nrE,reduceIte,reduceCtorEq,nrL]
    have k2:h3.get H.n=.cells [.slice none 0 0,.slice none 0 0,.slice none 0 0] 26 .ex:=by
     rw[hF3.old H.n (by simp only[↓pb,An,Cn,hg,Ab,irN,nrA,nrM,nrE,reduceIte,reduceCtorEq,nrL];omega) Lw]
     simp(disch:=try exact dA) only[Bh,Cn,hg,k1,Ab,irN,nrA,nrM,nrE,reduceIte,reduceCtorEq,nrL]
    repeat'(first|((with_reducible refine hK _ _ fun e2 Aj=>?_);clear hK K;simp only[I1,Ag,Af,and_true,↓pb,An,Cn,hg,e20,e19,m2,r2,k2,Ab,irN,nrA,nrM,nrE,reduceIte,reduceCtorEq,nrL]at Aj;clear Ab;(try clear eg);have Ab:=Aj;clear Aj;rename Bi=>eg)|((first|((with_reducible first|apply Ac|apply Al|apply Ak);(simp(disch:=try exact dA) only[Bh,Cn,hg,e20,e19,m2,r2,k2,Ab,irN,nrA,nrM,nrE,reduceIte,reduceCtorEq,nrL];with_reducible exact rfl))|((with_reducible first|apply Ar|apply As|apply Aq);(focus exact Ee))|(with_reducible first|refine Ai I1 fun K hK=>?_|refine Aw I1 fun K hK=>?_));try simp only[↓pb,↓pd,Bp,Cn,hg,e20,e19,m2,r2,k2,Ab,irN,nrA,nrM,nrE,reduceIte,reduceCtorEq,nrL])|((first|((with_reducible first|apply Br|apply Bt|apply Cc|apply Cd);exact rfl)|(with_reducible apply Au));(simp only[↓pb,An,Cn,hg,e20,e19,m2,r2,k2,Ab,irN,nrA,nrM,nrE,reduceIte,reduceCtorEq,nrL];with_reducible exact rfl);all_goals(intro hc;(first|exact C8 hc|try simp only[C0]at hc);try((with_reducible first|apply E3|apply Ge);simp only[↓pb,↓pd,Bp,Cn,hg,e20,e19,m2,r2,k2,hc,Ab,irN,nrA,nrM,nrE,reduceIte,reduceCtorEq,nrL])))|(with_reducible first|refine Az ?_|refine Ap ?_|refine At ?_|refine Ay ?_|refine Ax ?_|apply Ad)|((with_reducible apply Ae);(focus decide))|fail)
    refine⟨by first|exact .inl rfl|exact .inr rfl, ?_⟩
    rw[Nd Try.results17]
    simp only[↓pb,An,Cn,hg,Bo,Bg,e19,m2,r2,k2,Ab,irN,nrA,nrM,nrE,reduceIte,reduceCtorEq,nrL]
    repeat ((with_reducible apply Ac);(simp(disch:=try exact dA) only[Bh,Cn,hg,e19,m2,r2,k2,Ab,irN,nrA,nrM,nrE,reduceIte,reduceCtorEq,nrL];exact rfl))
    rw[hgo]
    have F9:Fr h3.n [H.n] h3 (h3.upd h3.n H.n (Dd.cells [va,vb,vc] 26 Kd.ex)):=by exact Bm
    have hcx:vc=.slice none 0 0∨C4 vc∉[H.n]:=by
     rcases c2 with c2|c2
     ·exact .inl c2
     ·exact .inr Lw
    have htx:vt=.slice none 0 0∨C4 vt∉[H.n]:=by
     rcases t2 with t2|t2
     ·exact .inl t2
     ·exact .inr Lw
    have hax:l1.length=0∨C4 va∉[H.n]:=by
     rcases g3 with rfl|g3
     ·left;exact(Sa3.shape.elim And.right fun ⟨_,_,_,h,_⟩=>by cases h)
     ·right;exact Lw
    have hbx:l2.length=0∨C4 vb∉[H.n]:=by
     rcases g6 with rfl|g6
     ·left;exact(Sb3.shape.elim And.right fun ⟨_,_,_,h,_⟩=>by cases h)
     ·right;exact Lw
    have Gc9:=Gc.fr' F9 (fun x hx=>by subst hx;exact Gc.grp_lt) hcx
    have Gt9:=Gt.fr' F9 (fun x hx=>by subst hx;exact Gt.grp_lt) htx
    have hk9:l1.length=0∨SK (h3.upd h3.n H.n (Dd.cells [va,vb,vc] 26 Kd.ex)) 3 va:=by
     rcases hskA with q|⟨d,T,k,q1,q2⟩
     ·exact .inl q
     ·rcases hltA with q|q
      ·exact .inl q
      ·rcases g3 with rfl|g3
       ·left;exact(Sa3.shape.elim And.right fun ⟨_,_,_,h,_⟩=>by cases h)
       ·right
        refine⟨d,T,k, ?_,q2⟩
        have z1:h2.get (C4 va)=h1.get (C4 va):=by
         rw[Ol.old (C4 va) (by simp only[↓pb,An,Cn,hg,Ab,irN,nrA,nrM,nrE,reduceIte,reduceCtorEq,nrL];omega) Lw]
         simp(disch:=try exact dA) only[Bh,Cn,hg,Ab,irN,nrA,nrM,nrE,reduceIte,reduceCtorEq,nrL]
        have z2:h3.get (C4 va)=h2.get (C4 va):=by
         rw[hF3.old (C4 va) (by simp only[↓pb,An,Cn,hg,Ab,irN,nrA,nrM,nrE,reduceIte,reduceCtorEq,nrL];omega) Lw]
         simp(disch:=try exact dA) only[Bh,Cn,hg,Ab,irN,nrA,nrM,nrE,reduceIte,reduceCtorEq,nrL]
        rw[Cr (by omega),z2,z1]
        exact q1
    refine⟨⟨va,vb,vc,vt,gc,gt,rfl,⟨Sa3.fr F9 hax,Sb3.fr F9 hbx,Gc9.sr⟩,Gc9,fun x hx=>Nat.le_trans (by omega) (c1 x hx),Gt9,by simp(disch:=try exact dA) only[Bh,Cn,hg,Ab,irN,nrA,nrM,nrE,reduceIte,reduceCtorEq,nrL];exact m1,hk9,fun x hx=>⟨?_, ?_,ne x hx⟩,c1n⟩, ?_⟩
    ·have:=c1 x hx
     rcases Sa.lt with q|q
     ·exact .inl q
     ·exact .inr (by omega)
    ·have:=c1 x hx
     rcases G.sr.lt with q|q
     ·exact .inl q
     ·exact .inr (by omega)
    exact Bm
def rgX (x lo hi:Int):Int:=Iz x lo hi
def Y3 (x lo hi:Int):Int:=Mt x lo hi
def rgY (x lo hi:Int):Int:=Iz (Cb (rgX x lo hi) 4) (Y3 x lo hi) hi
def rgL (x lo hi:Int):List Int:=[Y3 x lo hi,min hi (IntKind.i64.wrap (Y3 x lo hi+Cm (rgX x lo hi) 4)),Mt (Cb (rgX x lo hi) 4) (Y3 x lo hi) hi]
def rgB (x lo hi:Int):Int:=D1 (rgY x lo hi) (rgL x lo hi)
def rgS (x lo hi:Int):Int:=Ej (rgY x lo hi) (rgL x lo hi)
def rgH (H:Aa)(b:Nat)(x lo hi:Int):Aa:=(fh ((fh (H.upd (H.n+1) H.n (.cells [iv 0,iv 0] 28 .ex)) b (rgY x lo hi)).upd (H.n+2) (H.n+1) (.cells (Ck (rgL x lo hi)) 3 .ex)) b (rgS x lo hi)).upd (H.n+2) H.n (.cells [iv (Y3 x lo hi),iv (rgB x lo hi)] 28 .ex)
theorem f42 (b:Nat)(x lo hi:Int)(H:Aa)(hb:b<H.n)(hg:H.get b=.cells [uv x] 85 .ex):∃ v H',C5 (.fn 42) #[Bc b 0,iv lo,iv hi] H v H'∧v=.agg ⟨[iv (Y3 x lo hi),iv (rgB x lo hi)]⟩∧H'=rgH H b x lo hi:=by
 refine Cl.ofW Try.func42 rfl (by kernel_rfl) (by rw[Try.ntmps42];exact Nat.le_of_ble_eq_true rfl) (by kernel_rfl) ?_
 have Ab:True:=trivial
 refine Jx [0,1,2] ?_
 intro eg Aj
 simp only[Ag,Af,and_true]at Aj
 try simp only[↓pb,An,Y2,hg,Ab,irN,nrA,nrM,nrE,reduceIte,reduceCtorEq,nrL]at Aj
 replace Ab:=Aj;clear Aj
 repeat'(first|((with_reducible refine hK _ _ fun e2 Aj=>?_);clear hK K;simp only[B5g,Ag,Af,and_true,↓pb,An,Y2,hg,Ab,irN,nrA,nrM,nrE,reduceIte,reduceCtorEq,nrL]at Aj;clear Ab;(try clear eg);have Ab:=Aj;clear Aj;rename Bi=>eg)|((first|((with_reducible first|apply Ac|apply Al|apply Ak);(simp(disch:=try exact dA) only[Bh,Y2,hg,Ab,irN,nrA,nrM,nrE,reduceIte,reduceCtorEq,nrL];with_reducible exact rfl))|((with_reducible apply Cp);(simp only[↓pb,An,Y2,hg,Ab,irN,nrA,nrM,nrE,reduceIte,reduceCtorEq,nrL];(first|exact f31 _ _ _ _ _ (by simp(disch:=try exact dA) only[Bh,Y2,hg,Ab,irN,nrA,nrM,nrE,reduceIte,reduceCtorEq,nrL];rfl)|exact f20 _ _ _ _ (by simp(disch:=try exact dA) only[Bh,Y2,hg,Ab,irN,nrA,nrM,nrE,reduceIte,reduceCtorEq,nrL];rfl) (by omega)|exact f18 _ _ _ [_,_,_] _ (by simp(disch:=try exact dA) only[Bh,Y2,hg,Ab,irN,nrA,nrM,nrE,reduceIte,reduceCtorEq,nrL];rfl) (SR.new rfl) (.inl (by simp only[C4];omega)) (by simp))))|(with_reducible first|refine Ai B5g fun K hK=>?_));try simp only[↓pb,↓pd,Bp,Y2,hg,Ab,irN,nrA,nrM,nrE,reduceIte,reduceCtorEq,nrL])|(with_reducible first|refine Az ?_|refine Ay ?_)|fail)
 refine⟨by first|exact .inl rfl|exact .inr rfl, ?_⟩
 rw[Ec Try.results42]
 simp only[↓pb,An,Y2,hg,Bo,Bg,Ab,irN,nrA,nrM,nrE,reduceIte,reduceCtorEq,nrL]
 repeat ((with_reducible apply Ac);(simp(disch:=try exact dA) only[Bh,Y2,hg,Ab,irN,nrA,nrM,nrE,reduceIte,reduceCtorEq,nrL];exact rfl))
 exact⟨rfl,rfl⟩
theorem f81 (vl:Value)(l:List Int)(H:Aa)(hT:C1 H)(S:SR H 1 l.length vl (Ck l))(hl:l.length<1000000):∃ v H',C5 (.fn 81) #[vl] H v H'∧(∃ gg,GS H' 1 l.length v (Ck l) gg∧∀ x,gg=some x→H.n≤x)∧Fr H.n [] H H':=by
 have ho:=S.one
 refine Cl.ofW Try.func81 rfl (by kernel_rfl) (by rw[Try.ntmps81];exact Nat.le_of_ble_eq_true rfl) (by kernel_rfl) ?_
 have Ab:True:=trivial
 refine Jx [0] ?_
 intro eg Aj
 simp only[Ag,Af,and_true]at Aj
 try simp only[↓pb,An,A2a,ho,Ab,irN,nrA,nrM,nrE,reduceIte,reduceCtorEq,nrL]at Aj
 replace Ab:=Aj;clear Aj
 repeat'(first|((with_reducible refine hK _ _ fun e2 Aj=>?_);clear hK K;simp only[B1M,Ag,Af,and_true,↓pb,An,A2a,ho,Ab,irN,nrA,nrM,nrE,reduceIte,reduceCtorEq,nrL]at Aj;clear Ab;(try clear eg);have Ab:=Aj;clear Aj;rename Bi=>eg)|((first|((with_reducible first|apply Ac|apply Al|apply Ak);(simp(disch:=try exact dA) only[Bh,A2a,ho,Ab,irN,nrA,nrM,nrE,reduceIte,reduceCtorEq,nrL];with_reducible exact rfl))|(with_reducible first|refine Ai B1M fun K hK=>?_));try simp only[↓pb,↓pd,Bp,A2a,ho,Ab,irN,nrA,nrM,nrE,reduceIte,reduceCtorEq,nrL])|(with_reducible first|refine Az ?_|refine Ay ?_)|fail)
 have S1:∀ h,Fr H.n [] H h→SR h 1 l.length vl (Ck l):=fun h hF=>S.fr0 hF
 refine A6h (s:=1) (e:=3) (n:=0) (m:=l.length) (c:=[]) (new:=Ck l) (by exact Bb) (GS.new rfl) (S1 _ (by exact Bm)) (fun hm=>B6f (GS.new rfl) (S1 _ (by exact Bm)) hm (by omega) (by omega)) (fun hm=>B6g (GS.new rfl) ((S1 _ (by exact Bm)).cast hm)) ?_
 rintro v1 G1 gg1 hq1 Hh GG1 hg1 hv1 hb1 so1
 simp only[Ao,A3,nb]at hq1 hg1 hv1
 have o1:=GG1.one
 repeat'(first|((with_reducible refine hK _ _ fun e2 Aj=>?_);clear hK K;simp only[B1M,Ag,Af,and_true,↓pb,An,A2a,ho,Ab,irN,nrA,nrM,nrE,reduceIte,reduceCtorEq,nrL]at Aj;clear Ab;(try clear eg);have Ab:=Aj;clear Aj;rename Bi=>eg)|((first|((with_reducible first|apply Ac|apply Al|apply Ak);(simp(disch:=try exact dA) only[Bh,A2a,ho,o1,Ab,irN,nrA,nrM,nrE,reduceIte,reduceCtorEq,nrL];with_reducible exact rfl))|(with_reducible first|refine Ai B1M fun K hK=>?_));try simp only[↓pb,↓pd,Bp,A2a,ho,o1,Ab,irN,nrA,nrM,nrE,reduceIte,reduceCtorEq,nrL])|(with_reducible first|refine Az ?_|refine Ay ?_)|fail)
 refine⟨by first|exact .inl rfl|exact .inr rfl, ?_⟩
 rw[Ec Try.results81]
 simp only[↓pb,An,A2a,ho,Bo,Bg,Ab,irN,nrA,nrM,nrE,reduceIte,reduceCtorEq,nrL]
 repeat ((with_reducible apply Ac);(simp(disch:=try exact dA) only[Bh,A2a,ho,Ab,irN,nrA,nrM,nrE,reduceIte,reduceCtorEq,nrL];exact rfl))
 rw[Nat.zero_add,List.nil_append]at GG1
 refine⟨⟨gg1,GG1,fun x hx=>by have:=hg1 x hx;omega⟩,(by exact Bm)⟩
set_option maxHeartbeats 4000000 in
theorem f43 (va vb vc:Value)(g:Cv)(N:Nat)(ha:g.Acts.length≤10)(hn:g.Spots.length≤1000)(hsp:∀ u,u<g.Acts.length→0≤(g.Acts.getD u default).Spot∧(g.Acts.getD u default).Spot<g.Spots.length)
  (hm:∀ u,u<g.Acts.length→-1000000≤(g.Acts.getD u default).Min∧(g.Acts.getD u default).Min≤1000000∧(g.Acts.getD u default).Max≤1000000):∀ (k:Nat)(l:List Int)(out:List (List Int))(vl vo:Value)(gg:Option Nat)(H:Aa),l.length+k=g.Acts.length→N≤H.n→C1 H→RG H va vb vc g→SR H 1 l.length vl (Ck l)→TS H N vo out gg→out.length+(trS g k l).length≤1000000000 →
  ∃ v H',C5 (.fn 43) #[.agg ⟨[va,vb,vc]⟩,vl,vo] H v H'∧(∃ gg',TS H' N v (out ++ trS g k l) gg')∧Fr N [] H H':=by
 intro k
 induction k with
 | zero =>
  intro l out vl vo gg H hlk hN hT hG S T hb
  obtain⟨vs,G,hgg,L⟩:=T
  have e1:l.length=g.Acts.length:=by omega
  have hgo:=hG.one
  have o1:=S.one
  have o2:=G.one
  refine Cl.ofW Try.func43 rfl (by kernel_rfl) (by rw[Try.ntmps43];exact Nat.le_of_ble_eq_true rfl) (by kernel_rfl) ?_
  have Ab:True:=trivial
  refine Jx [0,1,2] ?_
  intro eg Aj
  simp only[Ag,Af,and_true]at Aj
  try simp only[↓pb,An,Ea,hgo,o1,o2,Bd S,Ah hG.r,e1,Ab,irN,nrA,nrM,nrE,reduceIte,reduceCtorEq,nrL]at Aj
  replace Ab:=Aj;clear Aj
  repeat'(first|((with_reducible refine hK _ _ fun e2 Aj=>?_);clear hK K;simp only[Ki,Ag,Af,and_true,↓pb,An,Ea,hgo,o1,o2,Bd S,Ah hG.r,e1,Ab,irN,nrA,nrM,nrE,reduceIte,reduceCtorEq,nrL]at Aj;clear Ab;(try clear eg);have Ab:=Aj;clear Aj;rename Bi=>eg)|((first|((with_reducible first|apply Ac|apply Al|apply Ak);(simp(disch:=try exact dA) only[Bh,Ea,hgo,o1,o2,Bd S,Ah hG.r,e1,Ab,irN,nrA,nrM,nrE,reduceIte,reduceCtorEq,nrL];with_reducible exact rfl))|((with_reducible first|apply Ar|apply As|apply Aq);(focus exact Ee))|(with_reducible first|refine Ai Ki fun K hK=>?_|refine Aw Ki fun K hK=>?_));try simp only[↓pb,↓pd,Bp,Ea,hgo,o1,o2,Bd S,Ah hG.r,e1,Ab,irN,nrA,nrM,nrE,reduceIte,reduceCtorEq,nrL])|((first|((with_reducible first|apply Br|apply Bt|apply Cc|apply Cd);exact rfl)|(with_reducible apply Au));(simp only[↓pb,An,Ea,hgo,o1,o2,Bd S,Ah hG.r,e1,Ab,irN,nrA,nrM,nrE,reduceIte,reduceCtorEq,nrL];with_reducible exact rfl);all_goals(intro hc;(first|exact C8 hc|try simp only[C0]at hc);try((with_reducible first|apply E3|apply Ge);simp only[↓pb,↓pd,Bp,Ea,hgo,o1,o2,Bd S,Ah hG.r,e1,hc,Ab,irN,nrA,nrM,nrE,reduceIte,reduceCtorEq,nrL])))|(with_reducible first|refine Az ?_|refine Ap ?_|refine At ?_|refine Ay ?_|refine Ax ?_|apply Ad)|((with_reducible apply Ae);(focus decide))|fail)
  refine B7X (n:=out.length) (m:=1) (c:=vs) (g:=gg) (G.fr0 (by exact Bm)) (SR.new rfl) (by omega) (by omega) (by omega) (by exact Bb) fun GG=>?_
  have hgd:=Je hgg (n:=H.n+2) (by omega)
  have hgd2:=GG.grp_lt
  simp only[Ao,A3]at hgd2
  simp only[Ao,A3,nb]at GG
  repeat'(first|((with_reducible refine hK _ _ fun e2 Aj=>?_);clear hK K;simp only[Ki,Ag,Af,and_true,↓pb,An,Ea,hgo,o1,o2,Bd S,Ah hG.r,e1,Ab,irN,nrA,nrM,nrE,reduceIte,reduceCtorEq,nrL]at Aj;clear Ab;(try clear eg);have Ab:=Aj;clear Aj;rename Bi=>eg)|((first|((with_reducible first|apply Ac|apply Al|apply Ak);(simp(disch:=try exact dA) only[Bh,Ea,hgo,o1,o2,Bd S,Ah hG.r,e1,Ab,irN,nrA,nrM,nrE,reduceIte,reduceCtorEq,nrL];with_reducible exact rfl))|((with_reducible first|apply Ar|apply As|apply Aq);(focus exact Ee))|(with_reducible first|refine Ai Ki fun K hK=>?_|refine Aw Ki fun K hK=>?_));try simp only[↓pb,↓pd,Bp,Ea,hgo,o1,o2,Bd S,Ah hG.r,e1,Ab,irN,nrA,nrM,nrE,reduceIte,reduceCtorEq,nrL])|((first|((with_reducible first|apply Br|apply Bt|apply Cc|apply Cd);exact rfl)|(with_reducible apply Au));(simp only[↓pb,An,Ea,hgo,o1,o2,Bd S,Ah hG.r,e1,Ab,irN,nrA,nrM,nrE,reduceIte,reduceCtorEq,nrL];with_reducible exact rfl);all_goals(intro hc;(first|exact C8 hc|try simp only[C0]at hc);try((with_reducible first|apply E3|apply Ge);simp only[↓pb,↓pd,Bp,Ea,hgo,o1,o2,Bd S,Ah hG.r,e1,hc,Ab,irN,nrA,nrM,nrE,reduceIte,reduceCtorEq,nrL])))|(with_reducible first|refine Az ?_|refine Ap ?_|refine At ?_|refine Ay ?_|refine Ax ?_|apply Ad)|((with_reducible apply Ae);(focus decide))|fail)
  refine⟨by first|exact .inl rfl|exact .inr rfl, ?_⟩
  rw[Ec Try.results43]
  simp only[↓pb,An,Ea,hgo,o1,o2,Bd S,Ah hG.r,e1,Bo,Bg,Ab,irN,nrA,nrM,nrE,reduceIte,reduceCtorEq,nrL]
  repeat ((with_reducible apply Ac);(simp(disch:=try exact dA) only[Bh,Ea,hgo,o1,o2,Bd S,Ah hG.r,e1,Ab,irN,nrA,nrM,nrE,reduceIte,reduceCtorEq,nrL];exact rfl))
  refine⟨⟨_,_,by rw[List.length_append];exact GG,fun x hx=>by cases hx;exact hgd,(L.fr (N:=0) (by exact Bm)).snoc (S.fr0 (N:=0) (by exact Bm))⟩,(by exact Bm)⟩
 | succ k ih =>
  intro l out vl vo gg H hlk hN hT hG S T hb
  have hu:l.length<g.Acts.length:=by omega
  have hne:¬ (l.length:Int)=(g.Acts.length:Int):=by omega
  obtain⟨m1,m2,m3⟩:=hm _ hu
  have hspu:=hsp _ hu
  have hgo:=hG.one
  have o1:=S.one
  have o2:=T.one
  have lr:=hG.r.lt
  refine Cl.ofW Try.func43 rfl (by kernel_rfl) (by rw[Try.ntmps43];exact Nat.le_of_ble_eq_true rfl) (by kernel_rfl) ?_
  have Ab:True:=trivial
  refine Jx [0,1,2] ?_
  intro eg Aj
  simp only[Ag,Af,and_true]at Aj
  try simp only[↓pb,An,Ea,hgo,o1,Bd S,Ah hG.r,hne,Ab,irN,nrA,nrM,nrE,reduceIte,reduceCtorEq,nrL]at Aj
  replace Ab:=Aj;clear Aj
  repeat'(first|((with_reducible refine hK _ _ fun e2 Aj=>?_);clear hK K;simp only[Ki,Ag,Af,and_true,↓pb,An,Ea,hgo,o1,Bd S,Ah hG.r,hne,Ab,irN,nrA,nrM,nrE,reduceIte,reduceCtorEq,nrL]at Aj;clear Ab;(try clear eg);have Ab:=Aj;clear Aj;rename Bi=>eg)|((first|((with_reducible first|apply Ac|apply Al|apply Ak);(simp(disch:=try exact dA) only[Bh,Ea,hgo,o1,Bd S,Ah hG.r,hne,o2,Ce hG.r,hG.r.rd,(hG.r.el Ba rfl),Bn,Ab,irN,nrA,nrM,nrE,reduceIte,reduceCtorEq,nrL];with_reducible exact rfl))|((with_reducible first|apply Ar|apply As|apply Aq);(focus exact Ee))|(with_reducible first|refine Ai Ki fun K hK=>?_|refine Aw Ki fun K hK=>?_));try simp only[↓pb,↓pd,Bp,Ea,hgo,o1,Bd S,Ah hG.r,hne,o2,Ce hG.r,hG.r.rd,(hG.r.el Ba rfl),Bn,Ab,irN,nrA,nrM,nrE,reduceIte,reduceCtorEq,nrL])|((first|((with_reducible first|apply Br|apply Bt|apply Cc|apply Cd);exact rfl)|(with_reducible apply Au));(simp only[↓pb,An,Ea,hgo,o1,Bd S,Ah hG.r,hne,o2,Ce hG.r,hG.r.rd,(hG.r.el Ba rfl),Bn,Ab,irN,nrA,nrM,nrE,reduceIte,reduceCtorEq,nrL];with_reducible exact rfl);all_goals(intro hc;(first|exact C8 hc|try simp only[C0]at hc);try((with_reducible first|apply E3|apply Ge);simp only[↓pb,↓pd,Bp,Ea,hgo,o1,Bd S,Ah hG.r,hne,o2,Ce hG.r,hG.r.rd,(hG.r.el Ba rfl),Bn,hc,Ab,irN,nrA,nrM,nrE,reduceIte,reduceCtorEq,nrL])))|(with_reducible first|refine Az ?_|refine Ap ?_|refine At ?_|refine Ay ?_|refine Ax ?_|apply Ad)|((with_reducible apply Ae);(focus decide))|fail)
  refine Vx [1,3,7] (by kernel_rfl) (N) [] [] (fun s e h=>∃ (vo:Value) (gg:Option Nat),e 8=iv s.1∧e 2=vo∧TS h N vo (out ++ s.2) gg∧(g.Acts.getD l.length default).Min≤s.1∧s.1≤1000001∧s.2 ++ (Pr (Rd g l) ((g.Acts.getD l.length default).Max-s.1+1).toNat s.1).flatMap (fun n=>trS g k (l ++ [n]))=trS g (k+1) l) (fun s=>((g.Acts.getD l.length default).Max-s.1+1).toNat) (((g.Acts.getD l.length default).Min,([]:List (List Int)))) (by focus exact Bb) (H0:=H) (by focus exact Bm) (by intro b hb hlt;simp at hb ⊢;try omega) ?_ ?_
  rotate_left
  intro s2 e2 h2 Lm Ol Ji A30 Ov
  simp only[Ag,Af,and_true]at Lm
  try simp only[↓pb,An,Ea,hgo,o1,Bd S,Ah hG.r,hne,Ab,irN,nrA,nrM,nrE,reduceIte,reduceCtorEq,nrL]at Lm
  have hn12:=Ol.n;have hn02:=Ji.n;try simp only[Ao,A3]at hn12
  replace Ab:=Lm
  rotate_left
  ·refine⟨vo,gg,by simp only[↓pb,An,Ea,hgo,o1,Bd S,Ah hG.r,hne,Ab,irN,nrA,nrM,nrE,reduceIte,reduceCtorEq,nrL],by simp only[↓pb,An,Ea,hgo,o1,Bd S,Ah hG.r,hne,Ab,irN,nrA,nrM,nrE,reduceIte,reduceCtorEq,nrL], ?_,Int.le_refl _,by dsimp only;omega,rfl⟩
   rw[List.append_nil]
   exact T.fr0 (by exact Bm)
  obtain⟨n,done⟩:=s2
  obtain⟨vo2,gg2,e8,e2,T2,b1,b2,hqq⟩:=Ov
  dsimp only at e8 T2 b1 b2 hqq ⊢
  have ov:=T2.one
  have G2:=hG.fr (N:=N) Ji
  have S2:=S.fr0 Ji
  have l3:=G2.r.lt
  have l4:=S2.lt
  have q0:h2.rd H.n=some [va,vb,vc]:=by
   rw[Ol.rd (b:=H.n) (by simp only[↓pb,An,Ea,hgo,o1,Bd S,Ah hG.r,hne,Ab,irN,nrA,nrM,nrE,reduceIte,reduceCtorEq,nrL];omega) (by simp)]
   simp(disch:=try exact dA) only[Bh,Ea,hgo,o1,Bd S,Ah hG.r,hne,Ab,irN,nrA,nrM,nrE,reduceIte,reduceCtorEq,nrL]
  by_cases hle:n≤(g.Acts.getD l.length default).Max
  ·have hcl:Pr (Rd g l) ((g.Acts.getD l.length default).Max-n+1).toNat n=if Rd g l n=true then n :: Pr (Rd g l) ((g.Acts.getD l.length default).Max-(n+1)+1).toNat (n+1) else []:=by
    rw[show ((g.Acts.getD l.length default).Max-n+1).toNat=((g.Acts.getD l.length default).Max-(n+1)+1).toNat+1 by omega,Pr]
   obtain⟨hdl,hdt⟩:(Ct g l l.length 72).left.length=g.Acts.length∧(Ct g l l.length 72).last.length=g.Spots.length:=Od g l _
   have f35':=fun(h:Aa) (hTh:C1 h) (hF:Fr N [] h2 h)=>f35 va vb vc vl g l l.length 72 h hTh (G2.fr hF) (S2.fr0 hF) (Nat.le_refl _) (by omega) (by omega) (by omega) hsp
   by_cases hcap:Rd g l n=true
   ·rw[hcl,if_pos hcap,List.flatMap_cons]at hqq
    have hql:=congrArg List.length hqq
    rw[List.length_append,List.length_append]at hql
    have hcc:(g.Acts.getD l.length default).Take=false∨((g.Acts.getD l.length default).Take=true∧¬ Lf g.Acts (Ct g l l.length 72).left (g.Acts.getD l.length default).Spot (Ct g l l.length 72).left.length<n):=by
     cases h:(g.Acts.getD l.length default).Take with
     | false=>exact .inl rfl
     | true =>
      refine .inr ⟨rfl,fun q=>?_⟩
      unfold Rd at hcap
      rw[h,Bool.true_and,Bool.not_eq_true',decide_eq_false_iff_not]at hcap
      exact hcap q
    rcases hcc with cc|cc
    all_goals(
     repeat'(first|((with_reducible refine hK _ _ fun e2 Aj=>?_);clear hK K;simp only[Ki,Ag,Af,and_true,↓pb,An,Ea,hgo,o1,Bd S,Ah hG.r,hne,Ab,irN,nrA,nrM,nrE,reduceIte,reduceCtorEq,nrL]at Aj;clear Ab;(try clear eg);have Ab:=Aj;clear Aj;rename Bi=>eg)|((first|((with_reducible first|apply Ac|apply Al|apply Ak);(simp(disch:=try exact dA) only[Bh,Ea,hgo,o1,Bd S,Ah hG.r,hne,e8,e2,ov,q0,hle,cc,Ce G2.r,G2.r.rd,(G2.r.el Ba rfl),Bn,Ab,irN,nrA,nrM,nrE,reduceIte,reduceCtorEq,nrL];with_reducible exact rfl))|((with_reducible first|apply Ar|apply As|apply Aq);(focus exact Ee))|((with_reducible apply Cy);(focus exact Bb);(simp only[↓pb,An,Ea,hgo,o1,Bd S,Ah hG.r,hne,e8,e2,ov,q0,hle,cc,Ce G2.r,G2.r.rd,(G2.r.el Ba rfl),Bn,Ab,irN,nrA,nrM,nrE,reduceIte,reduceCtorEq,nrL];exact f35' _ (by exact Bb) (by exact Bm));(rintro vq Gq hq Fy ⟨dl,ds,rfl,Sl,Ss⟩;try simp only[Ao,A3]at hq))|((with_reducible apply Bz);(focus exact Bb);(simp only[↓pb,An,Ea,hgo,o1,Bd S,Ah hG.r,hne,e8,e2,ov,q0,hle,cc,Ce G2.r,G2.r.rd,(G2.r.el Ba rfl),Bn,Ab,irN,nrA,nrM,nrE,reduceIte,reduceCtorEq,nrL];(exact f37 _ _ _ _ _ g (Ct g l l.length 72).left _ _ (by exact Bb) (G2.fr (N:=N) (by exact Bm)) ((Sl.cast hdl.symm).fr0 (N:=N) (by exact Bm)) Ss.one (by omega) (by omega)));(intro Gq hq Fy;try simp only[Ao,A3]at hq))|(with_reducible first|refine Eu Ki [8] fun K hK=>?_|refine Fx Ki [8] fun K hK=>?_));try simp only[↓pb,↓pd,Bp,Ea,hgo,o1,Bd S,Ah hG.r,hne,e8,e2,ov,q0,hle,cc,Ce G2.r,G2.r.rd,(G2.r.el Ba rfl),Bn,Ab,irN,nrA,nrM,nrE,reduceIte,reduceCtorEq,nrL])|((first|((with_reducible first|apply Br|apply Bt|apply Cc|apply Cd);exact rfl)|(with_reducible apply Au));(simp only[↓pb,An,Ea,hgo,o1,Bd S,Ah hG.r,hne,e8,e2,ov,q0,hle,cc,Ce G2.r,G2.r.rd,(G2.r.el Ba rfl),Bn,Ab,irN,nrA,nrM,nrE,reduceIte,reduceCtorEq,nrL];with_reducible exact rfl);all_goals(intro hc;(first|exact C8 hc|try simp only[C0]at hc);try((with_reducible first|apply E3|apply Ge);simp only[↓pb,↓pd,Bp,Ea,hgo,o1,Bd S,Ah hG.r,hne,e8,e2,ov,q0,hle,cc,Ce G2.r,G2.r.rd,(G2.r.el Ba rfl),Bn,hc,Ab,irN,nrA,nrM,nrE,reduceIte,reduceCtorEq,nrL])))|(with_reducible first|refine Az ?_|refine Ap ?_|refine At ?_|refine Ay ?_|refine Ax ?_|apply Ad)|((with_reducible apply Ae);(focus decide))|fail))
    all_goals refine Ga (N:=h2.n) (X:=[]) (h0:=h2) (fun h=>C1 h) (by exact Bm) (by exact Bb) ?_
    all_goals rintro h3 F3 T3
    all_goals have n3:=F3.n
    all_goals have q3:h3.rd H.n=some [va,vb,vc]:=by rw[F3.rd (by omega) (by simp)];exact q0
    all_goals(
     repeat'(first|((with_reducible refine hK _ _ fun e2 Aj=>?_);clear hK K;simp only[Ki,Ag,Af,and_true,↓pb,An,Ea,hgo,o1,Bd S,Ah hG.r,hne,Ab,irN,nrA,nrM,nrE,reduceIte,reduceCtorEq,nrL]at Aj;clear Ab;(try clear eg);have Ab:=Aj;clear Aj;rename Bi=>eg)|((first|((with_reducible first|apply Ac|apply Al|apply Ak);(simp(disch:=try exact dA) only[Bh,Ea,hgo,o1,Bd S,Ah hG.r,hne,e8,e2,ov,q3,Ab,irN,nrA,nrM,nrE,reduceIte,reduceCtorEq,nrL];with_reducible exact rfl))|((with_reducible first|apply Ar|apply As|apply Aq);(focus exact Ee))|((with_reducible apply Cy);(focus exact Bb);(simp only[↓pb,An,Ea,hgo,o1,Bd S,Ah hG.r,hne,e8,e2,ov,q3,Ab,irN,nrA,nrM,nrE,reduceIte,reduceCtorEq,nrL];exact f81 _ _ _ (by exact Bb) (S2.fr0 (N:=h2.n) (by exact Bm)) (by omega));(rintro vq Gq hq Fy ⟨gi,Gi,gi0⟩;try simp only[Ao,A3]at hq))|(with_reducible first|refine Ai Ki fun K hK=>?_|refine Aw Ki fun K hK=>?_));try simp only[↓pb,↓pd,Bp,Ea,hgo,o1,Bd S,Ah hG.r,hne,e8,e2,ov,q3,Ab,irN,nrA,nrM,nrE,reduceIte,reduceCtorEq,nrL])|((first|((with_reducible first|apply Br|apply Bt|apply Cc|apply Cd);exact rfl)|(with_reducible apply Au));(simp only[↓pb,An,Ea,hgo,o1,Bd S,Ah hG.r,hne,e8,e2,ov,q3,Ab,irN,nrA,nrM,nrE,reduceIte,reduceCtorEq,nrL];with_reducible exact rfl);all_goals(intro hc;(first|exact C8 hc|try simp only[C0]at hc);try((with_reducible first|apply E3|apply Ge);simp only[↓pb,↓pd,Bp,Ea,hgo,o1,Bd S,Ah hG.r,hne,e8,e2,ov,q3,hc,Ab,irN,nrA,nrM,nrE,reduceIte,reduceCtorEq,nrL])))|(with_reducible first|refine Az ?_|refine Ap ?_|refine At ?_|refine Ay ?_|refine Ax ?_|apply Ad)|((with_reducible apply Ae);(focus decide))|fail))
    all_goals refine B6h (n:=l.length) (m:=1) (c:=Ck l) (g:=gi) (Gi.fr0 (by exact Bm)) (SR.new rfl) (by omega) (by omega) (by omega) (by exact Bb) fun GG=>?_
    all_goals have gd1:=Je gi0 (n:=Gq.n+1) (by omega)
    all_goals have gd2:=GG.grp_lt
    all_goals simp only[Ao,A3]at gd2
    all_goals simp only[Ao,A3,nb]at GG
    all_goals(
     repeat'(first|((with_reducible refine hK _ _ fun e2 Aj=>?_);clear hK K;simp only[Ki,Ag,Af,and_true,↓pb,An,Ea,hgo,o1,Bd S,Ah hG.r,hne,Ab,irN,nrA,nrM,nrE,reduceIte,reduceCtorEq,nrL]at Aj;clear Ab;(try clear eg);have Ab:=Aj;clear Aj;rename Bi=>eg)|((first|((with_reducible first|apply Ac|apply Al|apply Ak);(simp(disch:=try exact dA) only[Bh,Ea,hgo,o1,Bd S,Ah hG.r,hne,Ab,irN,nrA,nrM,nrE,reduceIte,reduceCtorEq,nrL];with_reducible exact rfl))|((with_reducible first|apply Ar|apply As|apply Aq);(focus exact Ee))|(with_reducible first|refine Ai Ki fun K hK=>?_|refine Aw Ki fun K hK=>?_));try simp only[↓pb,↓pd,Bp,Ea,hgo,o1,Bd S,Ah hG.r,hne,Ab,irN,nrA,nrM,nrE,reduceIte,reduceCtorEq,nrL])|((first|((with_reducible first|apply Br|apply Bt|apply Cc|apply Cd);exact rfl)|(with_reducible apply Au));(simp only[↓pb,An,Ea,hgo,o1,Bd S,Ah hG.r,hne,Ab,irN,nrA,nrM,nrE,reduceIte,reduceCtorEq,nrL];with_reducible exact rfl);all_goals(intro hc;(first|exact C8 hc|try simp only[C0]at hc);try((with_reducible first|apply E3|apply Ge);simp only[↓pb,↓pd,Bp,Ea,hgo,o1,Bd S,Ah hG.r,hne,hc,Ab,irN,nrA,nrM,nrE,reduceIte,reduceCtorEq,nrL])))|(with_reducible first|refine Az ?_|refine Ap ?_|refine At ?_|refine Ay ?_|refine Ax ?_|apply Ad)|((with_reducible apply Ae);(focus decide))|fail))
    all_goals have hl1:(l ++ [n]).length=l.length+1:=by rw[List.length_append];rfl
    all_goals have hi1:Ck (l ++ [n])=Ck l ++ [iv n]:=by unfold Ck;rw[List.map_append];rfl
    all_goals refine A2G (by simp only[↓pb,An,Ea,hgo,o1,Bd S,Ah hG.r,hne,Ab,irN,nrA,nrM,nrE,reduceIte,reduceCtorEq,nrL];exact ih (l ++ [n]) (out ++ done) _ _ _ _ (by omega) (by simp only[↓pb,An,Ea,hgo,o1,Bd S,Ah hG.r,hne,Ab,irN,nrA,nrM,nrE,reduceIte,reduceCtorEq,nrL];omega) (by exact Bb) (G2.fr (N:=h2.n) (by exact Bm)) (by rw[hl1,hi1];exact GG.sr) (T2.fr0 (by exact Bm)) (by rw[List.length_append];omega)) ?_
    all_goals rintro v4 h4 ⟨⟨gg4,T4⟩,F4⟩
    all_goals have F24:=Fr.trans (Fr.trans Ol (Fr.trans (F3.down (by omega)) (by exact Bm))) F4
    all_goals have n4:=F4.n
    all_goals simp only[Ao,A3]at n4
    all_goals have o4:=T4.one
    all_goals(
     simp only[↓pb,↓pd,Bp,Ea,hgo,o1,Bd S,Ah hG.r,hne,o4,Ab,irN,nrA,nrM,nrE,reduceIte,reduceCtorEq,nrL])
    all_goals refine⟨⟨.inr (F4.old _ (by simp only[↓pb,An,Ea,hgo,o1,Bd S,Ah hG.r,hne,Ab,irN,nrA,nrM,nrE,reduceIte,reduceCtorEq,nrL];omega) (by simp)),.inr (F4.old _ (by simp only[↓pb,An,Ea,hgo,o1,Bd S,Ah hG.r,hne,Ab,irN,nrA,nrM,nrE,reduceIte,reduceCtorEq,nrL];omega) (by simp)),trivial⟩, ?_⟩
    all_goals(
     repeat'(first|((with_reducible refine hK _ _ fun e2 Aj=>?_);clear hK K;simp only[Ki,Ag,Af,and_true,↓pb,An,Ea,hgo,o1,Bd S,Ah hG.r,hne,Ab,irN,nrA,nrM,nrE,reduceIte,reduceCtorEq,nrL]at Aj;clear Ab;(try clear eg);have Ab:=Aj;clear Aj;rename Bi=>eg)|((first|((with_reducible first|apply Ac|apply Al|apply Ak);(simp(disch:=try exact dA) only[Bh,Ea,hgo,o1,Bd S,Ah hG.r,hne,e8,o4,Ab,irN,nrA,nrM,nrE,reduceIte,reduceCtorEq,nrL];with_reducible exact rfl))|((with_reducible first|apply Ar|apply As|apply Aq);(focus exact Ee))|(with_reducible first|refine Ai Ki fun K hK=>?_|refine Aw Ki fun K hK=>?_));try simp only[↓pb,↓pd,Bp,Ea,hgo,o1,Bd S,Ah hG.r,hne,e8,o4,Ab,irN,nrA,nrM,nrE,reduceIte,reduceCtorEq,nrL])|((first|((with_reducible first|apply Br|apply Bt|apply Cc|apply Cd);exact rfl)|(with_reducible apply Au));(simp only[↓pb,An,Ea,hgo,o1,Bd S,Ah hG.r,hne,e8,o4,Ab,irN,nrA,nrM,nrE,reduceIte,reduceCtorEq,nrL];with_reducible exact rfl);all_goals(intro hc;(first|exact C8 hc|try simp only[C0]at hc);try((with_reducible first|apply E3|apply Ge);simp only[↓pb,↓pd,Bp,Ea,hgo,o1,Bd S,Ah hG.r,hne,e8,o4,hc,Ab,irN,nrA,nrM,nrE,reduceIte,reduceCtorEq,nrL])))|(with_reducible first|refine Az ?_|refine Ap ?_|refine At ?_|refine Ay ?_|refine Ax ?_|apply Ad)|((with_reducible apply Ae);(focus decide))|fail))
    all_goals have hw:IntKind.i64.wrap (n+1)=n+1:=H4 (by omega) (by omega)
    all_goals refine⟨(n+1,done ++ trS g k (l ++ [n])),by dsimp only;omega,F24,v4,gg4,by simp only[↓pb,An,Ea,hgo,o1,Bd S,Ah hG.r,hne,e8,Ab,irN,nrA,nrM,nrE,reduceIte,reduceCtorEq,nrL];rw[hw],by simp only[↓pb,An,Ea,hgo,o1,Bd S,Ah hG.r,hne,Ab,irN,nrA,nrM,nrE,reduceIte,reduceCtorEq,nrL],by dsimp only;rw[← List.append_assoc];exact T4,by dsimp only;omega,by dsimp only;omega,by dsimp only;rw[List.append_assoc];exact hqq⟩
   ·have htk:(g.Acts.getD l.length default).Take=true:=by
     unfold Rd at hcap
     cases h:(g.Acts.getD l.length default).Take with
     | true=>rfl
     | false=>rw[h]at hcap;exact absurd rfl hcap
    have hlie:Lf g.Acts (Ct g l l.length 72).left (g.Acts.getD l.length default).Spot (Ct g l l.length 72).left.length<n:=by
     refine Decidable.not_not.1 fun q=>hcap ?_
     unfold Rd
     rw[htk,Bool.true_and,Bool.not_eq_true',decide_eq_false_iff_not]
     exact q
    rw[hcl,if_neg hcap,List.flatMap_nil,List.append_nil]at hqq
    repeat'(first|((with_reducible refine hK _ _ fun e2 Aj=>?_);clear hK K;simp only[Ki,Ag,Af,and_true,↓pb,An,Ea,hgo,o1,Bd S,Ah hG.r,hne,Ab,irN,nrA,nrM,nrE,reduceIte,reduceCtorEq,nrL]at Aj;clear Ab;(try clear eg);have Ab:=Aj;clear Aj;rename Bi=>eg)|((first|((with_reducible first|apply Ac|apply Al|apply Ak);(simp(disch:=try exact dA) only[Bh,Ea,hgo,o1,Bd S,Ah hG.r,hne,e8,e2,ov,q0,hle,htk,hlie,Ce G2.r,G2.r.rd,(G2.r.el Ba rfl),Bn,Ab,irN,nrA,nrM,nrE,reduceIte,reduceCtorEq,nrL];with_reducible exact rfl))|((with_reducible first|apply Ar|apply As|apply Aq);(focus exact Ee))|((with_reducible apply Cy);(focus exact Bb);(simp only[↓pb,An,Ea,hgo,o1,Bd S,Ah hG.r,hne,e8,e2,ov,q0,hle,htk,hlie,Ce G2.r,G2.r.rd,(G2.r.el Ba rfl),Bn,Ab,irN,nrA,nrM,nrE,reduceIte,reduceCtorEq,nrL];exact f35' _ (by exact Bb) (by exact Bm));(rintro vq Gq hq Fy ⟨dl,ds,rfl,Sl,Ss⟩;try simp only[Ao,A3]at hq))|((with_reducible apply Bz);(focus exact Bb);(simp only[↓pb,An,Ea,hgo,o1,Bd S,Ah hG.r,hne,e8,e2,ov,q0,hle,htk,hlie,Ce G2.r,G2.r.rd,(G2.r.el Ba rfl),Bn,Ab,irN,nrA,nrM,nrE,reduceIte,reduceCtorEq,nrL];(exact f37 _ _ _ _ _ g (Ct g l l.length 72).left _ _ (by exact Bb) (G2.fr (N:=N) (by exact Bm)) ((Sl.cast hdl.symm).fr0 (N:=N) (by exact Bm)) Ss.one (by omega) (by omega)));(intro Gq hq Fy;try simp only[Ao,A3]at hq))|(with_reducible first|refine Ai Ki fun K hK=>?_|refine Aw Ki fun K hK=>?_));try simp only[↓pb,↓pd,Bp,Ea,hgo,o1,Bd S,Ah hG.r,hne,e8,e2,ov,q0,hle,htk,hlie,Ce G2.r,G2.r.rd,(G2.r.el Ba rfl),Bn,Ab,irN,nrA,nrM,nrE,reduceIte,reduceCtorEq,nrL])|((first|((with_reducible first|apply Br|apply Bt|apply Cc|apply Cd);exact rfl)|(with_reducible apply Au));(simp only[↓pb,An,Ea,hgo,o1,Bd S,Ah hG.r,hne,e8,e2,ov,q0,hle,htk,hlie,Ce G2.r,G2.r.rd,(G2.r.el Ba rfl),Bn,Ab,irN,nrA,nrM,nrE,reduceIte,reduceCtorEq,nrL];with_reducible exact rfl);all_goals(intro hc;(first|exact C8 hc|try simp only[C0]at hc);try((with_reducible first|apply E3|apply Ge);simp only[↓pb,↓pd,Bp,Ea,hgo,o1,Bd S,Ah hG.r,hne,e8,e2,ov,q0,hle,htk,hlie,Ce G2.r,G2.r.rd,(G2.r.el Ba rfl),Bn,hc,Ab,irN,nrA,nrM,nrE,reduceIte,reduceCtorEq,nrL])))|(with_reducible first|refine Az ?_|refine Ap ?_|refine At ?_|refine Ay ?_|refine Ax ?_|apply Ad)|((with_reducible apply Ae);(focus decide))|fail)
    refine⟨by first|exact .inl rfl|exact .inr rfl, ?_⟩
    rw[Ec Try.results43]
    simp only[↓pb,An,Ea,hgo,o1,Bd S,Ah hG.r,hne,Bo,Bg,Ab,irN,nrA,nrM,nrE,reduceIte,reduceCtorEq,nrL]
    repeat ((with_reducible apply Ac);(simp(disch:=try exact dA) only[Bh,Ea,hgo,o1,Bd S,Ah hG.r,hne,Ab,irN,nrA,nrM,nrE,reduceIte,reduceCtorEq,nrL];exact rfl))
    rw[hqq]at T2
    refine⟨⟨_,T2.fr0 (by exact Bm)⟩,(by exact Bm)⟩
  ·have e0:((g.Acts.getD l.length default).Max-n+1).toNat=0:=by omega
   rw[e0,Pr,List.flatMap_nil,List.append_nil]at hqq
   repeat'(first|((with_reducible refine hK _ _ fun e2 Aj=>?_);clear hK K;simp only[Ki,Ag,Af,and_true,↓pb,An,Ea,hgo,o1,Bd S,Ah hG.r,hne,Ab,irN,nrA,nrM,nrE,reduceIte,reduceCtorEq,nrL]at Aj;clear Ab;(try clear eg);have Ab:=Aj;clear Aj;rename Bi=>eg)|((first|((with_reducible first|apply Ac|apply Al|apply Ak);(simp(disch:=try exact dA) only[Bh,Ea,hgo,o1,Bd S,Ah hG.r,hne,e8,e2,ov,q0,hle,Ce G2.r,G2.r.rd,(G2.r.el Ba rfl),Bn,Ab,irN,nrA,nrM,nrE,reduceIte,reduceCtorEq,nrL];with_reducible exact rfl))|((with_reducible first|apply Ar|apply As|apply Aq);(focus exact Ee))|(with_reducible first|refine Ai Ki fun K hK=>?_|refine Aw Ki fun K hK=>?_));try simp only[↓pb,↓pd,Bp,Ea,hgo,o1,Bd S,Ah hG.r,hne,e8,e2,ov,q0,hle,Ce G2.r,G2.r.rd,(G2.r.el Ba rfl),Bn,Ab,irN,nrA,nrM,nrE,reduceIte,reduceCtorEq,nrL])|((first|((with_reducible first|apply Br|apply Bt|apply Cc|apply Cd);exact rfl)|(with_reducible apply Au));(simp only[↓pb,An,Ea,hgo,o1,Bd S,Ah hG.r,hne,e8,e2,ov,q0,hle,Ce G2.r,G2.r.rd,(G2.r.el Ba rfl),Bn,Ab,irN,nrA,nrM,nrE,reduceIte,reduceCtorEq,nrL];with_reducible exact rfl);all_goals(intro hc;(first|exact C8 hc|try simp only[C0]at hc);try((with_reducible first|apply E3|apply Ge);simp only[↓pb,↓pd,Bp,Ea,hgo,o1,Bd S,Ah hG.r,hne,e8,e2,ov,q0,hle,Ce G2.r,G2.r.rd,(G2.r.el Ba rfl),Bn,hc,Ab,irN,nrA,nrM,nrE,reduceIte,reduceCtorEq,nrL])))|(with_reducible first|refine Az ?_|refine Ap ?_|refine At ?_|refine Ay ?_|refine Ax ?_|apply Ad)|((with_reducible apply Ae);(focus decide))|fail)
   refine⟨by first|exact .inl rfl|exact .inr rfl, ?_⟩
   rw[Ec Try.results43]
   simp only[↓pb,An,Ea,hgo,o1,Bd S,Ah hG.r,hne,Bo,Bg,Ab,irN,nrA,nrM,nrE,reduceIte,reduceCtorEq,nrL]
   repeat ((with_reducible apply Ac);(simp(disch:=try exact dA) only[Bh,Ea,hgo,o1,Bd S,Ah hG.r,hne,Ab,irN,nrA,nrM,nrE,reduceIte,reduceCtorEq,nrL];exact rfl))
   rw[hqq]at T2
   refine⟨⟨_,T2⟩,(by exact Bm)⟩
end Go.Proofs.Swa
