/- Part 14. -/
import Derived.Test.YtkjcijlaehflhaaP13
set_option maxRecDepth 20000
set_option linter.unusedVariables false
set_option linter.unusedSimpArgs false
namespace Go.Proofs.Swa
open Go
open Nat renaming reduceAdd → nrA, reduceMul → nrM, reduceEqDiff → nrE, reduceLT → nrL
open Int renaming reduceToNat → irN
attribute [local congr] Ja Gm I8 I9 Jb Hl Hm Hn
def eS (s:E1):List Value:=Ck s.1
theorem A5t (s:E1):(eS s).length=121:=by rw[eS,C3,s.2]
theorem SR.nn {H:Aa}{s n:Nat}{v:Value}{c:List Value}(h:SR H s n v c)(hn:0<n):∃ b o k,v=.slice (some ⟨b,o,none⟩) n k:=by
 rcases h.shape with⟨q,_⟩|⟨b,o,k,e,_⟩
 ·omega
 ·exact⟨b,o,k,e⟩
theorem B0E {x y:Operand}{a:Addr}{n k:Nat}:Fj Try.prog .eql 146 x y (.slice (some a) n k) (.slice none 0 0)=some (.bool false):=by
 unfold Fj
 rw[Pu]
 rfl
theorem f93 (va:Value)(all:List E1)(H:Aa)(hT:C1 H)(S:SR H 121 all.length va (all.flatMap eS))(hp:0<all.length)(hl:all.length≤20) :
  ∃ v H',C5 (.fn 93) #[va] H v H'∧(∃ b,v=.slice (some ⟨b,0,none⟩) all.length all.length∧H'.get b=.cells (all.flatMap eS) 96 (.gr b 121 true)∧Ua H' b∧H.n≤b∧b<H'.n)∧Fr H.n [] H H':=by
 obtain⟨b,o,k,rfl⟩:=S.nn hp
 refine Cl.ofW Try.func93 rfl (by kernel_rfl) (by rw[Try.ntmps93];exact Nat.le_of_ble_eq_true rfl) (by kernel_rfl) ?_
 have Ab:True:=trivial
 refine Jx [0] ?_
 intro eg Aj
 simp only[Ag,Af,and_true]at Aj
 try simp only[↓pb,An,Yc,Ab,irN,nrA,nrM,nrE,reduceIte,reduceCtorEq,nrL]at Aj
 replace Ab:=Aj;clear Aj
 repeat'(first|((with_reducible refine hK _ _ fun e2 Aj=>?_);clear hK K;simp only[B1K,Ag,Af,and_true,↓pb,An,Yc,Ab,irN,nrA,nrM,nrE,reduceIte,reduceCtorEq,nrL]at Aj;clear Ab;(try clear eg);have Ab:=Aj;clear Aj;rename Bi=>eg)|((first|((with_reducible first|apply Ac|apply Al|apply Ak);(simp(disch:=try exact dA) only[Bh,Yc,B0E,Ab,irN,nrA,nrM,nrE,reduceIte,reduceCtorEq,nrL];with_reducible exact rfl))|(with_reducible first|refine Ai B1K fun K hK=>?_));try simp only[↓pb,↓pd,Bp,Yc,B0E,Ab,irN,nrA,nrM,nrE,reduceIte,reduceCtorEq,nrL])|((with_reducible apply Au);(simp only[↓pb,An,Yc,B0E,Ab,irN,nrA,nrM,nrE,reduceIte,reduceCtorEq,nrL];with_reducible exact rfl);all_goals(intro hc;(first|exact C8 hc|try simp only[C0]at hc)))|(with_reducible first|refine Az ?_|refine At ?_|refine Ay ?_)|fail)
 refine A6h (s:=121) (e:=96) (n:=0) (m:=all.length) (c:=[]) (new:=all.flatMap eS) (by exact Bb) (GS.new rfl) (S.fr0 (N:=H.n) (by exact Bm)) (fun hm=>B3f (GS.new rfl) (S.fr0 (N:=H.n) (by exact Bm)) hm (by omega) (by omega)) (fun hm=>by omega) ?_
 rintro v1 G1 gg1 hq1 Hh GG1 hg1 hv1 hb1 so1
 obtain⟨rfl,so2,so3,so4⟩:=so1 hp
 simp only[Ao,A3,nb]at hq1 hg1
 repeat'(first|((with_reducible refine hK _ _ fun e2 Aj=>?_);clear hK K;simp only[B1K,Ag,Af,and_true,↓pb,An,Yc,Ab,irN,nrA,nrM,nrE,reduceIte,reduceCtorEq,nrL]at Aj;clear Ab;(try clear eg);have Ab:=Aj;clear Aj;rename Bi=>eg)|((first|((with_reducible first|apply Ac|apply Al|apply Ak);(simp(disch:=try exact dA) only[Bh,Yc,Ab,irN,nrA,nrM,nrE,reduceIte,reduceCtorEq,nrL];with_reducible exact rfl))|(with_reducible first|refine Ai B1K fun K hK=>?_));try simp only[↓pb,↓pd,Bp,Yc,Ab,irN,nrA,nrM,nrE,reduceIte,reduceCtorEq,nrL])|((with_reducible apply Au);(simp only[↓pb,An,Yc,Ab,irN,nrA,nrM,nrE,reduceIte,reduceCtorEq,nrL];with_reducible exact rfl);all_goals(intro hc;(first|exact C8 hc|try simp only[C0]at hc)))|(with_reducible first|refine Az ?_|refine At ?_|refine Ay ?_)|fail)
 refine⟨by first|exact .inl rfl|exact .inr rfl, ?_⟩
 rw[Ec Try.results93]
 simp only[↓pb,An,Yc,Bo,Bg,Ab,irN,nrA,nrM,nrE,reduceIte,reduceCtorEq,nrL]
 repeat ((with_reducible apply Ac);(simp(disch:=try exact dA) only[Bh,Yc,Ab,irN,nrA,nrM,nrE,reduceIte,reduceCtorEq,nrL];exact rfl))
 refine⟨⟨_,rfl,so2,so3,Nat.le_succ _,so4⟩,(by exact Bm)⟩
def nf (n:Nat):List Value:=Hy [.nilFunc] n
theorem B0F (n:Nat):(nf n).length=n*1:=Zv rfl n
theorem B2D {H:Aa}{n:Nat}(h0:0<n)(hn:n≤1000000):Cg Try.prog #[114,3] [.slice none 0 0,.int .i64 n] H=some (.slice (some ⟨H.n,0,none⟩) n n,H.upd (H.n+1) H.n (.cells (nf n) 119 (.gr H.n 1 true))):=by
 unfold Cg
 simp only[F7,A3N,X8,Vg]
 rw[if_pos ⟨by omega,by omega,by omega,rfl⟩,Int.toNat_natCast]
 have:=GS.push (H:=H) (m:=n) (new:=nf n) F7 Lk X8 Vg (by kernel_rfl) (by kernel_rfl) (by decide) GS.nul (B0F n) h0 (by omega) (by omega)
 simp only[Nat.zero_add,List.nil_append,Option.getD_none]at this
 exact this
theorem B0G {H:Aa}{c:List Value}{T:TypeId}{e:Nat}(ht:C1 H):Ua (H.upd (H.n+1) H.n (.cells c T (.gr H.n e true))) H.n:=by
 intro b' c' T' e' l' hg
 by_cases q:b'=H.n
 ·exact q
 ·rw[Cr q]at hg
  have h1:=ht.2 b' _ _ _ _ _ hg
  by_cases q2:H.n≤b'
  ·rw[ht.1 b' q2]at hg
   cases hg
  ·omega
theorem B71 {H:Aa}{b n:Nat}(hg:H.get b=.cells (nf n) 119 (.gr b 1 true)):Jl Try.prog H 114 (.slice (some ⟨b,0,none⟩) n n) none (some (.int .i64 0)) none=some (.slice (some ⟨b,0,none⟩) 0 n):=by
 unfold Jl
 simp only[F7]
 have hb:M9 n n none (some (.int .i64 0)) none=some (0,0,n):=by
  unfold M9 Tc A6B
  simp
 rw[hb]
 simp[Lk,hg]
theorem A5u {H:Aa}:Jl Try.prog H 114 (.slice none 0 0) none (some (.int .i64 0)) none=some (.slice none 0 0):=by
 unfold Jl
 simp only[F7]
 have hb:M9 0 0 none (some (.int .i64 0)) none=some (0,0,0):=rfl
 rw[hb]
 simp[Lk]
theorem J7 {H:Aa}:A33 Try.prog 114 (.slice none 0 0) H=some (.int .i64 0):=by
 unfold A33
 rw[F7]
 rfl
theorem f94 (n:Nat)(H:Aa)(hT:C1 H)(h0:0<n)(hn:n≤1000000) :
  ∃ v H',C5 (.fn 94) #[.slice none 0 0,iv n] H v H'∧(v=.slice (some ⟨H.n,0,none⟩) 0 n∧H'.get H.n=.cells (nf n) 119 (.gr H.n 1 true)∧Ua H' H.n∧H.n<H'.n)∧Fr H.n [] H H':=by
 have hw0:IntKind.i64.wrap ((0:Int)-((0:Nat):Int))=0:=rfl
 have hw1:IntKind.i64.wrap ((n:Int)-0)=n:=by rw[H4 (by omega) (by omega)];omega
 have hpos:(0:Int)<n:=by omega
 have hneg:¬ (n:Int)<0:=by omega
 refine Cl.ofW Try.func94 rfl (by kernel_rfl) (by rw[Try.ntmps94];exact Nat.le_of_ble_eq_true rfl) (by kernel_rfl) ?_
 have Ab:True:=trivial
 refine Jx [0,1] ?_
 intro eg Aj
 simp only[Ag,Af,and_true]at Aj
 try simp only[↓pb,An,Ye,J7,Ab,irN,nrA,nrM,nrE,reduceIte,reduceCtorEq,nrL]at Aj
 replace Ab:=Aj;clear Aj
 repeat'(first|((with_reducible refine hK _ _ fun e2 Aj=>?_);clear hK K;simp only[B1L,Ag,Af,and_true,↓pb,An,Ye,J7,Ab,irN,nrA,nrM,nrE,reduceIte,reduceCtorEq,nrL]at Aj;clear Ab;(try clear eg);have Ab:=Aj;clear Aj;rename Bi=>eg)|((first|((with_reducible first|apply Ac|apply Al|apply Ak);(simp(disch:=try exact dA) only[Bh,Ye,J7,A5u,J7,hw0,hw1,hpos,hneg,Option.map_none,Option.map_some,Ab,irN,nrA,nrM,nrE,reduceIte,reduceCtorEq,nrL];with_reducible exact rfl))|(with_reducible first|refine Ai B1L fun K hK=>?_));try simp only[↓pb,↓pd,Bp,Ye,J7,A5u,J7,hw0,hw1,hpos,hneg,Option.map_none,Option.map_some,Ab,irN,nrA,nrM,nrE,reduceIte,reduceCtorEq,nrL])|((with_reducible apply Au);(simp only[↓pb,An,Ye,J7,A5u,J7,hw0,hw1,hpos,hneg,Option.map_none,Option.map_some,Ab,irN,nrA,nrM,nrE,reduceIte,reduceCtorEq,nrL];with_reducible exact rfl);all_goals(intro hc;(first|exact C8 hc|try simp only[C0]at hc)))|(with_reducible first|refine Az ?_|refine At ?_|refine Ay ?_)|fail)
 refine Ak (B2D h0 hn) ?_
 have hcut:Jl Try.prog (H.upd (H.n+1) H.n (.cells (nf n) 119 (.gr H.n 1 true))) 114 (.slice (some ⟨H.n,0,none⟩) n n) none (some (.int .i64 ((0:Nat):Int))) none=some (.slice (some ⟨H.n,0,none⟩) 0 n):=B71 Ch
 repeat'(first|((with_reducible refine hK _ _ fun e2 Aj=>?_);clear hK K;simp only[B1L,Ag,Af,and_true,↓pb,An,Ye,J7,Ab,irN,nrA,nrM,nrE,reduceIte,reduceCtorEq,nrL]at Aj;clear Ab;(try clear eg);have Ab:=Aj;clear Aj;rename Bi=>eg)|((first|((with_reducible first|apply Ac|apply Al|apply Ak);(simp(disch:=try exact dA) only[Bh,Ye,J7,hcut,Option.map_none,Option.map_some,Ab,irN,nrA,nrM,nrE,reduceIte,reduceCtorEq,nrL];with_reducible exact rfl))|(with_reducible first|refine Ai B1L fun K hK=>?_));try simp only[↓pb,↓pd,Bp,Ye,J7,hcut,Option.map_none,Option.map_some,Ab,irN,nrA,nrM,nrE,reduceIte,reduceCtorEq,nrL])|((with_reducible apply Au);(simp only[↓pb,An,Ye,J7,hcut,Option.map_none,Option.map_some,Ab,irN,nrA,nrM,nrE,reduceIte,reduceCtorEq,nrL];with_reducible exact rfl);all_goals(intro hc;(first|exact C8 hc|try simp only[C0]at hc)))|(with_reducible first|refine Az ?_|refine At ?_|refine Ay ?_)|fail)
 refine⟨by first|exact .inl rfl|exact .inr rfl, ?_⟩
 rw[Ec Try.results94]
 simp only[↓pb,An,Ye,J7,Bo,Bg,Ab,irN,nrA,nrM,nrE,reduceIte,reduceCtorEq,nrL]
 repeat ((with_reducible apply Ac);(simp(disch:=try exact dA) only[Bh,Ye,J7,Ab,irN,nrA,nrM,nrE,reduceIte,reduceCtorEq,nrL];exact rfl))
 exact⟨⟨B0G hT,Nat.lt_succ_self _⟩,(by exact Bm)⟩
theorem B0H {H:Aa}{b:Nat}{z:List Value}{T:TypeId}{e:Nat}(hg:H.get b=.cells z T (.gr b e true))(so:Ua H b)(hz:0<z.length):H.cut b 0=H.upd H.n b (.cells z T (.gr b e false)):=by
 unfold Aa.cut Aa.upd
 congr 1
 funext c
 by_cases q:c=b
 ·subst q
  rw[if_neg (Nat.lt_irrefl _),if_pos rfl,hg]
  show (if _ then _ else _)=_
  rw[if_pos ⟨rfl,hz⟩]
 ·rw[if_neg q]
  split
  ·rfl
  ·cases hh:H.get c with
   | cells d T' k =>
    cases k with
    | gr g' e' l =>
     show (if _ then _ else _)=_
     rw[if_neg]
     rintro⟨rfl,_⟩
     exact q (so _ _ _ _ _ hh)
    | ex=>rfl
    | ro=>rfl
   | _=>rfl
theorem B0I {H:Aa}{b k m:Nat}{x:Value}{new z:List Value}(hg:H.get b=.cells z 119 (.gr b 1 true))(so:Ua H b)(hz:0<z.length)(S:SR H 1 m x new)(hm:0<m)(hb:m≤1000000) :
  Cg Try.prog #[114,114] [.slice (some ⟨b,0,none⟩) 0 k,x] H=some (.slice (some ⟨H.n,0,none⟩) m m,(H.upd H.n b (.cells z 119 (.gr b 1 false))).upd (H.n+1) H.n (.cells new 119 (.gr b 1 true))):=by
 rw[D7 F7 F7 Lk S]
 unfold Gu
 simp only[F7,Lk,X8,Vg]
 rw[if_pos ⟨by kernel_rfl,by kernel_rfl,by decide,S.len⟩]
 have hm0:m≠0:=by omega
 simp only[hm0,false_and,if_false,ne_eq,not_true_eq_false,hg]
 rw[if_pos ⟨rfl,by omega,by omega,by omega⟩]
 simp only[and_self,if_true,Nat.zero_mul,List.take_zero,List.nil_append,Nat.zero_add]
 rw[B0H hg so hz]
 rfl
def B2E (H:Aa)(g p:Nat):Prop:=∀ b c T e,H.get b=.cells c T (.gr g e true)→c.length≤p
theorem B2E.cut {H:Aa}{g p:Nat}(h:B2E H g p):H.cut g p=H:=by
 unfold Aa.cut
 show (⟨H.n,_⟩:Aa)=⟨H.n,H.get⟩
 congr 1
 funext c
 split
 ·rfl
 ·cases hh:H.get c with
  | cells d T' k =>
   cases k with
   | gr g' e' l =>
    show (if _ then _ else _)=_
    split
    ·rename_i q
     cases l with
     | false=>rfl
     | true =>
      have:=h c d T' e' (q.1 ▸ hh)
      omega
    ·rfl
   | ex=>rfl
   | ro=>rfl
  | _=>rfl
theorem B0J {H:Aa}{b0 B n m:Nat}{x:Value}{c new:List Value}(hg:H.get B=.cells c 119 (.gr b0 1 true))(hl:c.length=n)(lf:B2E H b0 n)(S:SR H 1 m x new)(hm:0<m)(hb:n+m≤1000000) :
  Cg Try.prog #[114,114] [.slice (some ⟨B,0,none⟩) n n,x] H=some (.slice (some ⟨H.n,0,none⟩) (n+m) (n+m),H.upd (H.n+1) H.n (.cells (c ++ new) 119 (.gr b0 1 true))):=by
 rw[D7 F7 F7 Lk S]
 unfold Gu
 simp only[F7,Lk,X8,Vg]
 rw[if_pos ⟨by kernel_rfl,by kernel_rfl,by decide,S.len⟩]
 have hm0:m≠0:=by omega
 simp only[hm0,false_and,if_false,ne_eq,not_true_eq_false,hg]
 rw[if_pos ⟨rfl,by omega,by omega,by omega⟩]
 simp only[and_self,if_true,Nat.mul_one]
 rw[lf.cut,← hl,List.take_length]
 rfl
theorem A76 {H:Aa}{B n:Nat}{x:Value}{new:List Value}(S:SR H 1 0 x new):Cg Try.prog #[114,114] [.slice (some ⟨B,0,none⟩) n n,x] H=some (.slice (some ⟨B,0,none⟩) n n,H):=by
 rw[D7 F7 F7 Lk S]
 unfold Gu
 simp only[F7,Lk,X8,Vg]
 rw[if_pos ⟨by kernel_rfl,by kernel_rfl,by decide,S.len⟩]
 simp
theorem SR.wholeR {H:Aa}{s n b:Nat}{c:List Value}(hb:b<H.n)(hg:H.rd b=some c)(hl:c.length=n*s):SR H s n (.slice (some ⟨b,0,none⟩) n n) c:=by
 refine⟨.inr ⟨_,_,_,rfl,Nat.le_refl _⟩,hl,.inr ⟨c,hg, ?_, ?_⟩,.inr hb⟩
 ·show 0+n*s≤c.length
  omega
 ·show (c.drop 0).take (n*s)=c
  rw[List.drop_zero,List.take_of_length_le (by omega)]
set_option maxHeartbeats 2000000 in
theorem f73 (b:Nat)(v1 v2:Value)(rs ss:List Iy)(g1 g2:Option Nat)(N1 N2:Nat)(H:Aa)(hT:C1 H)(hb:b<H.n)(hg:H.get b=.cells [v1,v2] 114 .ex)(R1:RS H N1 v1 rs g1)(R2:RS H N2 v2 ss g2)(h0:0<rs.length)(hl:rs.length+ss.length≤1000000) :
  ∃ v H',C5 (.fn 73) #[.slice (some ⟨b,0,none⟩) 2 2] H v H'∧(∃ vs,SR H' 1 (rs ++ ss).length v vs∧D8 H' [] vs (rs ++ ss)∧H.n≤C4 v)∧Fr H.n [] H H':=by
 obtain⟨vi,hvi⟩:∃ vi:Nat→Value,vi=fun i=>if i=0 then v1 else v2:=⟨_,rfl⟩
 obtain⟨li,hli⟩:∃ li:Nat→List Iy,li=fun i=>if i=0 then rs else ss:=⟨_,rfl⟩
 obtain⟨sm,hsm⟩:∃ sm:Nat→Nat,sm=fun i=>if i=0 then 0 else if i=1 then rs.length else rs.length+ss.length:=⟨_,rfl⟩
 have hs0:sm 0=0:=by subst hsm;rfl
 have hs2:sm 2=rs.length+ss.length:=by subst hsm;rfl
 have hss:∀ i,i<2→sm (i+1)=sm i+(li i).length:=fun i hi=>by
  subst hsm hli
  rcases (by omega:i=0∨i=1) with rfl|rfl
  ·show rs.length=0+rs.length
   omega
  ·rfl
 have hRv:∀ i,i<2→∃ vs,∀ h,Fr H.n [] H h→SR h 1 (li i).length (vi i) vs∧D8 h [] vs (li i):=fun i hi=>by
  subst hvi hli
  rcases (by omega:i=0∨i=1) with rfl|rfl
  ·obtain⟨vs,a1,a2,a3⟩:=R1
   exact⟨vs,fun h F=>⟨a1.sr.fr0 F,a3.fr F (by simp)⟩⟩
  ·obtain⟨vs,a1,a2,a3⟩:=R2
   exact⟨vs,fun h F=>⟨a1.sr.fr0 F,a3.fr F (by simp)⟩⟩
 have S0:SR H 1 2 (.slice (some ⟨b,0,none⟩) 2 2) [v1,v2]:=SR.whole hb hg rfl
 have hat:∀ i,i<2→([v1,v2]:List Value)[i]? = some (vi i):=fun i hi=>by
  subst hvi
  rcases (by omega:i=0∨i=1) with rfl|rfl <;> rfl
 have hsb:∀ i,i≤2→sm i≤rs.length+ss.length:=fun i hi=>by
  subst hsm
  rcases (by omega:i=0∨i=1∨i=2) with rfl|rfl|rfl
  ·show 0≤_
   omega
  ·show rs.length≤_
   omega
  ·exact Nat.le_refl _
 have hvb:C4 (.slice (some ⟨b,0,none⟩) 2 2)=b:=rfl
 have hvo:Gy (.slice (some ⟨b,0,none⟩) 2 2)=0:=rfl
 refine Cl.ofW Try.func73 rfl (by kernel_rfl) (by rw[Try.ntmps73];exact Nat.le_of_ble_eq_true rfl) (by kernel_rfl) ?_
 have Ab:True:=trivial
 refine Jx [0] ?_
 intro eg Aj
 simp only[Ag,Af,and_true]at Aj
 try simp only[↓pb,An,Fv,Cs S0,Ab,irN,nrA,nrM,nrE,reduceIte,reduceCtorEq,nrL]at Aj
 replace Ab:=Aj;clear Aj
 repeat'(first|((with_reducible refine hK _ _ fun e2 Aj=>?_);clear hK K;simp only[Ng,Ag,Af,and_true,↓pb,An,Fv,Cs S0,Ab,irN,nrA,nrM,nrE,reduceIte,reduceCtorEq,nrL]at Aj;clear Ab;(try clear eg);have Ab:=Aj;clear Aj;rename Bi=>eg)|((first|((with_reducible first|apply Ac|apply Al|apply Ak);(simp(disch:=try exact dA) only[Bh,Fv,Cs S0,Ab,irN,nrA,nrM,nrE,reduceIte,reduceCtorEq,nrL];with_reducible exact rfl))|(with_reducible first|refine Ai Ng fun K hK=>?_));try simp only[↓pb,↓pd,Bp,Fv,Cs S0,Ab,irN,nrA,nrM,nrE,reduceIte,reduceCtorEq,nrL])|((with_reducible apply Au);(simp only[↓pb,An,Fv,Cs S0,Ab,irN,nrA,nrM,nrE,reduceIte,reduceCtorEq,nrL];with_reducible exact rfl);all_goals(intro hc;(first|exact C8 hc|try simp only[C0]at hc)))|(with_reducible first|refine Az ?_|refine Ap ?_|refine At ?_|refine Ay ?_|refine Ax ?_|apply Ad)|((with_reducible apply Ae);(focus decide))|fail)
 refine Db [0,9,10] (by kernel_rfl) 11 (2) (H.n) [] [] (fun i e h=>e 3=iv (sm i)) (by simp only[↓pb,An,Fv,Cs S0,Ab,irN,nrA,nrM,nrE,reduceIte,reduceCtorEq,nrL]) (by focus exact Bb) (H0:=H) (by focus exact Bm) (by intro b hb hlt;simp at hb ⊢;try omega) ?_ ?_
 rotate_left
 intro i1 e1 h1 hi1 D3 ei1 Ep D9 Mf Hh
 simp only[Ag,Af,and_true]at D3
 try simp only[↓pb,An,Fv,Cs S0,Ab,irN,nrA,nrM,nrE,reduceIte,reduceCtorEq,nrL]at D3
 have hn11:=Ep.n;have hn01:=D9.n;try simp only[Ao,A3]at hn11
 replace Ab:=B9p ei1 D3
 rotate_left
 ·simp only[↓pb,An,Fv,Cs S0,Ab,irN,nrA,nrM,nrE,reduceIte,reduceCtorEq,nrL]
  rw[hs0]
  rfl
 by_cases hi2:i1<2
 ·have S1:=S0.fr0 Ep
  have hrd:h1.rd b=some [v1,v2]:=by rw[Ep.rd hb (by simp),Bf,hg];rfl
  obtain⟨vs,TT⟩:=hRv i1 hi2
  have T1:=(TT h1 D9).1
  have hwr:IntKind.i64.wrap ((sm i1:Int)+((li i1).length:Int))=((sm (i1+1):Nat):Int):=by
   have q1:=hss i1 hi2
   have q2:=hsb (i1+1) (by omega)
   rw[H4 (by omega) (by omega)]
   omega
  have hneg:¬ ((sm (i1+1):Nat):Int)<0:=by omega
  repeat'(first|((with_reducible refine hK _ _ fun e2 Aj=>?_);clear hK K;simp only[Ng,Ag,Af,and_true,↓pb,An,Fv,Cs S0,Ab,irN,nrA,nrM,nrE,reduceIte,reduceCtorEq,nrL]at Aj;clear Ab;(try clear eg);have Ab:=Aj;clear Aj;rename Bi=>eg)|((first|((with_reducible first|apply Ac|apply Al|apply Ak);(simp(disch:=try exact dA) only[Bh,Fv,Cs S0,Hh,N9 S1,hrd,hat i1 hi2,Bx T1,hwr,Nat.mul_one,hvb,hvo,hneg,Ab,irN,nrA,nrM,nrE,reduceIte,reduceCtorEq,nrL];with_reducible exact rfl))|(with_reducible first|refine Ai Ng fun K hK=>?_));try simp only[↓pb,↓pd,Bp,Fv,Cs S0,Hh,N9 S1,hrd,hat i1 hi2,Bx T1,hwr,Nat.mul_one,hvb,hvo,hneg,Ab,irN,nrA,nrM,nrE,reduceIte,reduceCtorEq,nrL])|((with_reducible apply Au);(simp only[↓pb,An,Fv,Cs S0,Hh,N9 S1,hrd,hat i1 hi2,Bx T1,hwr,Nat.mul_one,hvb,hvo,hneg,Ab,irN,nrA,nrM,nrE,reduceIte,reduceCtorEq,nrL];with_reducible exact rfl);all_goals(intro hc;(first|exact C8 hc|try simp only[C0]at hc)))|(with_reducible first|refine Az ?_|refine Ap ?_|refine At ?_|refine Ay ?_|refine Ax ?_|apply Ad)|((with_reducible apply Ae);(focus decide))|fail)
  refine⟨by omega,by simp only[↓pb,An,Fv,Cs S0,Ab,irN,nrA,nrM,nrE,reduceIte,reduceCtorEq,nrL];exact congrArg _ (Di (by omega)),by focus exact Bm, ?_⟩
  simp only[Ab]
 ·have e1n:i1=2:=by omega
  subst e1n
  rw[hs2]at Hh
  have S1:=S0.fr0 Ep
  repeat'(first|((with_reducible refine hK _ _ fun e2 Aj=>?_);clear hK K;simp only[Ng,Ag,Af,and_true,↓pb,An,Fv,Cs S0,Ab,irN,nrA,nrM,nrE,reduceIte,reduceCtorEq,nrL]at Aj;clear Ab;(try clear eg);have Ab:=Aj;clear Aj;rename Bi=>eg)|((first|((with_reducible first|apply Ac|apply Al|apply Ak);(simp(disch:=try exact dA) only[Bh,Fv,Cs S0,Hh,Cs S1,Ab,irN,nrA,nrM,nrE,reduceIte,reduceCtorEq,nrL];with_reducible exact rfl))|((with_reducible apply Cy);(focus exact Bb);(simp only[↓pb,An,Fv,Cs S0,Hh,Cs S1,Ab,irN,nrA,nrM,nrE,reduceIte,reduceCtorEq,nrL];exact f94 _ _ (by exact Bb) (by omega) (by omega));(rintro vq Gq hq Fy ⟨rfl,q1,q2,q3⟩;try simp only[Ao,A3]at hq))|(with_reducible first|refine Ai Ng fun K hK=>?_));try simp only[↓pb,↓pd,Bp,Fv,Cs S0,Hh,Cs S1,Ab,irN,nrA,nrM,nrE,reduceIte,reduceCtorEq,nrL])|((with_reducible apply Au);(simp only[↓pb,An,Fv,Cs S0,Hh,Cs S1,Ab,irN,nrA,nrM,nrE,reduceIte,reduceCtorEq,nrL];with_reducible exact rfl);all_goals(intro hc;(first|exact C8 hc|try simp only[C0]at hc)))|(with_reducible first|refine Az ?_|refine Ap ?_|refine At ?_|refine Ay ?_|refine Ax ?_|apply Ad)|((with_reducible apply Ae);(focus decide))|fail)
  obtain⟨GB,hGB⟩:∃ GB,GB=h1.n:=⟨_,rfl⟩
  rw[← hGB]at q1 q2 q3 Ab
  repeat'(first|((with_reducible refine hK _ _ fun e2 Aj=>?_);clear hK K;simp only[Ng,Ag,Af,and_true,↓pb,An,Fv,Cs S0,Ab,irN,nrA,nrM,nrE,reduceIte,reduceCtorEq,nrL]at Aj;clear Ab;(try clear eg);have Ab:=Aj;clear Aj;rename Bi=>eg)|((first|((with_reducible first|apply Ac|apply Al|apply Ak);(simp(disch:=try exact dA) only[Bh,Fv,Cs S0,Cs S1,Ab,irN,nrA,nrM,nrE,reduceIte,reduceCtorEq,nrL];with_reducible exact rfl))|(with_reducible first|refine Ai Ng fun K hK=>?_));try simp only[↓pb,↓pd,Bp,Fv,Cs S0,Cs S1,Ab,irN,nrA,nrM,nrE,reduceIte,reduceCtorEq,nrL])|((with_reducible apply Au);(simp only[↓pb,An,Fv,Cs S0,Cs S1,Ab,irN,nrA,nrM,nrE,reduceIte,reduceCtorEq,nrL];with_reducible exact rfl);all_goals(intro hc;(first|exact C8 hc|try simp only[C0]at hc)))|(with_reducible first|refine Az ?_|refine Ap ?_|refine At ?_|refine Ay ?_|refine Ax ?_|apply Ad)|((with_reducible apply Ae);(focus decide))|fail)
  refine Db [25,26] (by kernel_rfl) 27 (2) (H.n) [GB] [] (fun i e h=>(i=0→e 6=.slice (some ⟨GB,0,none⟩) 0 (rs.length+ss.length)∧h.get GB=.cells (nf (rs.length+ss.length)) 119 (.gr GB 1 true)∧Ua h GB)∧(i=1→∃ c B1,e 6=.slice (some ⟨B1,0,none⟩) rs.length rs.length∧h.get B1=.cells c 119 (.gr GB 1 true)∧c.length=rs.length∧B2E h GB rs.length∧D8 h [] c rs∧H.n≤B1∧B1<h.n)∧(i=2→∃ c v,e 6=v∧SR h 1 (rs ++ ss).length v c∧D8 h [] c (rs ++ ss)∧H.n≤C4 v)) (by simp only[↓pb,An,Fv,Cs S0,Ab,irN,nrA,nrM,nrE,reduceIte,reduceCtorEq,nrL]) (by focus exact Bb) (H0:=H) (by focus exact Bm) (by intro b hb hlt;simp at hb ⊢;try omega) ?_ ?_
  rotate_left
  intro i2 e2 h2 hi2 Lm ei2 Ol Ji A30 Ov
  simp only[Ag,Af,and_true]at Lm
  try simp only[↓pb,An,Fv,Cs S0,Ab,irN,nrA,nrM,nrE,reduceIte,reduceCtorEq,nrL]at Lm
  have hn12:=Ol.n;have hn02:=Ji.n;try simp only[Ao,A3]at hn12
  replace Ab:=B9p ei2 Lm
  rotate_left
  ·exact⟨fun _=>⟨by simp only[↓pb,An,Fv,Cs S0,Ab,irN,nrA,nrM,nrE,reduceIte,reduceCtorEq,nrL],q1,q2⟩,fun q=>by omega,fun q=>by omega⟩
  have hGl:GB<h2.n:=Nat.lt_of_lt_of_le q3 Ol.n
  have hGH:H.n≤GB:=by omega
  have S2:=S0.fr0 Ji
  have hrd2:h2.rd b=some [v1,v2]:=by rw[Ji.rd hb (by simp),Bf,hg];rfl
  by_cases hz:i2=0
  ·obtain⟨e6,k1,so⟩:=Ov.1 hz
   obtain⟨vs,TT⟩:=hRv i2 (by omega)
   have hl2:li i2=rs:=by rw[hli,hz];rfl
   rw[hl2]at TT
   have T1:=(TT h2 Ji).1
   repeat'(first|((with_reducible refine hK _ _ fun e2 Aj=>?_);clear hK K;simp only[Ng,Ag,Af,and_true,↓pb,An,Fv,Cs S0,Ab,irN,nrA,nrM,nrE,reduceIte,reduceCtorEq,nrL]at Aj;clear Ab;(try clear eg);have Ab:=Aj;clear Aj;rename Bi=>eg)|((first|((with_reducible first|apply Ac|apply Al|apply Ak);(simp(disch:=try exact dA) only[Bh,Fv,Cs S0,e6,N9 S2,hrd2,hat i2 (by omega),hvb,hvo,Nat.mul_one,Ab,irN,nrA,nrM,nrE,reduceIte,reduceCtorEq,nrL];with_reducible exact rfl))|(with_reducible first|refine Ai Ng fun K hK=>?_));try simp only[↓pb,↓pd,Bp,Fv,Cs S0,e6,N9 S2,hrd2,hat i2 (by omega),hvb,hvo,Nat.mul_one,Ab,irN,nrA,nrM,nrE,reduceIte,reduceCtorEq,nrL])|((with_reducible apply Au);(simp only[↓pb,An,Fv,Cs S0,e6,N9 S2,hrd2,hat i2 (by omega),hvb,hvo,Nat.mul_one,Ab,irN,nrA,nrM,nrE,reduceIte,reduceCtorEq,nrL];with_reducible exact rfl);all_goals(intro hc;(first|exact C8 hc|try simp only[C0]at hc)))|(with_reducible first|refine Az ?_|refine Ap ?_|refine At ?_|refine Ay ?_|refine Ax ?_|apply Ad)|((with_reducible apply Ae);(focus decide))|fail)
   refine Ak (B0I k1 so (by rw[B0F];omega) T1 h0 (by omega)) ?_
   have F3:Fr H.n [] H ((h2.upd h2.n GB (.cells (nf (rs.length+ss.length)) 119 (.gr GB 1 false))).upd (h2.n+1) h2.n (.cells vs 119 (.gr GB 1 true))):=by exact Bm
   repeat'(first|((with_reducible refine hK _ _ fun e2 Aj=>?_);clear hK K;simp only[Ng,Ag,Af,and_true,↓pb,An,Fv,Cs S0,Ab,irN,nrA,nrM,nrE,reduceIte,reduceCtorEq,nrL]at Aj;clear Ab;(try clear eg);have Ab:=Aj;clear Aj;rename Bi=>eg)|((first|((with_reducible first|apply Ac|apply Al|apply Ak);(simp(disch:=try exact dA) only[Bh,Fv,Cs S0,Ab,irN,nrA,nrM,nrE,reduceIte,reduceCtorEq,nrL];with_reducible exact rfl))|(with_reducible first|refine Ai Ng fun K hK=>?_));try simp only[↓pb,↓pd,Bp,Fv,Cs S0,Ab,irN,nrA,nrM,nrE,reduceIte,reduceCtorEq,nrL])|((with_reducible apply Au);(simp only[↓pb,An,Fv,Cs S0,Ab,irN,nrA,nrM,nrE,reduceIte,reduceCtorEq,nrL];with_reducible exact rfl);all_goals(intro hc;(first|exact C8 hc|try simp only[C0]at hc)))|(with_reducible first|refine Az ?_|refine Ap ?_|refine At ?_|refine Ay ?_|refine Ax ?_|apply Ad)|((with_reducible apply Ae);(focus decide))|fail)
   refine⟨by omega,by simp only[↓pb,An,Fv,Cs S0,Ab,irN,nrA,nrM,nrE,reduceIte,reduceCtorEq,nrL];exact congrArg _ (Di (by omega)),by focus exact Bm, ?_⟩
   refine⟨fun q=>by omega,fun _=>⟨vs,h2.n,by simp only[Ab],Ch,by have:=T1.len;omega, ?_,(TT _ F3).2,by omega,Nat.lt_succ_self _⟩,fun q=>by omega⟩
   intro b' c T e hg'
   have hlv:=T1.len
   by_cases q:b'=h2.n
   ·subst q
    rw[Ch]at hg'
    cases hg'
    omega
   ·rw[Cr q]at hg'
    by_cases q2:b'=GB
    ·subst q2
     rw[Ch]at hg'
     cases hg'
    ·rw[Cr q2]at hg'
     exact absurd (so _ _ _ _ _ hg') q2
  by_cases hz1:i2=1
  ·obtain⟨c,B1,e6,k1,k2,lf,RV,hB1,hB2⟩:=Ov.2.1 hz1
   obtain⟨vs,TT⟩:=hRv i2 (by omega)
   have hl2:li i2=ss:=by rw[hli,hz1];rfl
   rw[hl2]at TT
   have T1:=(TT h2 Ji).1
   repeat'(first|((with_reducible refine hK _ _ fun e2 Aj=>?_);clear hK K;simp only[Ng,Ag,Af,and_true,↓pb,An,Fv,Cs S0,Ab,irN,nrA,nrM,nrE,reduceIte,reduceCtorEq,nrL]at Aj;clear Ab;(try clear eg);have Ab:=Aj;clear Aj;rename Bi=>eg)|((first|((with_reducible first|apply Ac|apply Al|apply Ak);(simp(disch:=try exact dA) only[Bh,Fv,Cs S0,e6,N9 S2,hrd2,hat i2 (by omega),hvb,hvo,Nat.mul_one,Ab,irN,nrA,nrM,nrE,reduceIte,reduceCtorEq,nrL];with_reducible exact rfl))|(with_reducible first|refine Ai Ng fun K hK=>?_));try simp only[↓pb,↓pd,Bp,Fv,Cs S0,e6,N9 S2,hrd2,hat i2 (by omega),hvb,hvo,Nat.mul_one,Ab,irN,nrA,nrM,nrE,reduceIte,reduceCtorEq,nrL])|((with_reducible apply Au);(simp only[↓pb,An,Fv,Cs S0,e6,N9 S2,hrd2,hat i2 (by omega),hvb,hvo,Nat.mul_one,Ab,irN,nrA,nrM,nrE,reduceIte,reduceCtorEq,nrL];with_reducible exact rfl);all_goals(intro hc;(first|exact C8 hc|try simp only[C0]at hc)))|(with_reducible first|refine Az ?_|refine Ap ?_|refine At ?_|refine Ay ?_|refine Ax ?_|apply Ad)|((with_reducible apply Ae);(focus decide))|fail)
   by_cases hm:ss.length=0
   ·refine Ak (A76 (by rw[← hm];exact T1)) ?_
    repeat'(first|((with_reducible refine hK _ _ fun e2 Aj=>?_);clear hK K;simp only[Ng,Ag,Af,and_true,↓pb,An,Fv,Cs S0,Ab,irN,nrA,nrM,nrE,reduceIte,reduceCtorEq,nrL]at Aj;clear Ab;(try clear eg);have Ab:=Aj;clear Aj;rename Bi=>eg)|((first|((with_reducible first|apply Ac|apply Al|apply Ak);(simp(disch:=try exact dA) only[Bh,Fv,Cs S0,Ab,irN,nrA,nrM,nrE,reduceIte,reduceCtorEq,nrL];with_reducible exact rfl))|(with_reducible first|refine Ai Ng fun K hK=>?_));try simp only[↓pb,↓pd,Bp,Fv,Cs S0,Ab,irN,nrA,nrM,nrE,reduceIte,reduceCtorEq,nrL])|((with_reducible apply Au);(simp only[↓pb,An,Fv,Cs S0,Ab,irN,nrA,nrM,nrE,reduceIte,reduceCtorEq,nrL];with_reducible exact rfl);all_goals(intro hc;(first|exact C8 hc|try simp only[C0]at hc)))|(with_reducible first|refine Az ?_|refine Ap ?_|refine At ?_|refine Ay ?_|refine Ax ?_|apply Ad)|((with_reducible apply Ae);(focus decide))|fail)
    refine⟨by omega,by simp only[↓pb,An,Fv,Cs S0,Ab,irN,nrA,nrM,nrE,reduceIte,reduceCtorEq,nrL];exact congrArg _ (Di (by omega)),by focus exact Bm, ?_⟩
    have hs0:ss=[]:=List.eq_nil_of_length_eq_zero hm
    refine⟨fun q=>by omega,fun q=>by omega,fun _=>⟨c,.slice (some ⟨B1,0,none⟩) rs.length rs.length,by simp only[Ab,e6], ?_, ?_,hB1⟩⟩
    ·rw[hs0,List.append_nil]
     exact SR.wholeR hB2 (by rw[Bf,k1];rfl) (by omega)
    ·rw[hs0,List.append_nil]
     exact RV
   ·refine Ak (B0J k1 k2 lf T1 (by omega) (by omega)) ?_
    have F3:Fr H.n [] H (h2.upd (h2.n+1) h2.n (.cells (c ++ vs) 119 (.gr GB 1 true))):=by exact Bm
    have F4:Fr H.n [] h2 (h2.upd (h2.n+1) h2.n (.cells (c ++ vs) 119 (.gr GB 1 true))):=by exact Bm
    repeat'(first|((with_reducible refine hK _ _ fun e2 Aj=>?_);clear hK K;simp only[Ng,Ag,Af,and_true,↓pb,An,Fv,Cs S0,Ab,irN,nrA,nrM,nrE,reduceIte,reduceCtorEq,nrL]at Aj;clear Ab;(try clear eg);have Ab:=Aj;clear Aj;rename Bi=>eg)|((first|((with_reducible first|apply Ac|apply Al|apply Ak);(simp(disch:=try exact dA) only[Bh,Fv,Cs S0,Ab,irN,nrA,nrM,nrE,reduceIte,reduceCtorEq,nrL];with_reducible exact rfl))|(with_reducible first|refine Ai Ng fun K hK=>?_));try simp only[↓pb,↓pd,Bp,Fv,Cs S0,Ab,irN,nrA,nrM,nrE,reduceIte,reduceCtorEq,nrL])|((with_reducible apply Au);(simp only[↓pb,An,Fv,Cs S0,Ab,irN,nrA,nrM,nrE,reduceIte,reduceCtorEq,nrL];with_reducible exact rfl);all_goals(intro hc;(first|exact C8 hc|try simp only[C0]at hc)))|(with_reducible first|refine Az ?_|refine Ap ?_|refine At ?_|refine Ay ?_|refine Ax ?_|apply Ad)|((with_reducible apply Ae);(focus decide))|fail)
    refine⟨by omega,by simp only[↓pb,An,Fv,Cs S0,Ab,irN,nrA,nrM,nrE,reduceIte,reduceCtorEq,nrL];exact congrArg _ (Di (by omega)),by focus exact Bm, ?_⟩
    refine⟨fun q=>by omega,fun q=>by omega,fun _=>⟨c ++ vs,.slice (some ⟨h2.n,0,none⟩) (rs.length+ss.length) (rs.length+ss.length),by simp only[Ab,e6], ?_, ?_,by show H.n≤h2.n;omega⟩⟩
    ·rw[List.length_append]
     exact SR.wholeR (Nat.lt_succ_self _) (by rw[Bf,Ch];rfl) (by have:=T1.len;rw[List.length_append];omega)
    ·exact(RV.fr F4 (by simp)).app (TT _ F3).2
  ·have e2n:i2=2:=by omega
   obtain⟨c,v,e6,k1,k2,k3⟩:=Ov.2.2 e2n
   subst e2n
   have o1:=k1.one
   repeat'(first|((with_reducible refine hK _ _ fun e2 Aj=>?_);clear hK K;simp only[Ng,Ag,Af,and_true,↓pb,An,Fv,Cs S0,Ab,irN,nrA,nrM,nrE,reduceIte,reduceCtorEq,nrL]at Aj;clear Ab;(try clear eg);have Ab:=Aj;clear Aj;rename Bi=>eg)|((first|((with_reducible first|apply Ac|apply Al|apply Ak);(simp(disch:=try exact dA) only[Bh,Fv,Cs S0,e6,o1,Ab,irN,nrA,nrM,nrE,reduceIte,reduceCtorEq,nrL];with_reducible exact rfl))|(with_reducible first|refine Ai Ng fun K hK=>?_));try simp only[↓pb,↓pd,Bp,Fv,Cs S0,e6,o1,Ab,irN,nrA,nrM,nrE,reduceIte,reduceCtorEq,nrL])|((with_reducible apply Au);(simp only[↓pb,An,Fv,Cs S0,e6,o1,Ab,irN,nrA,nrM,nrE,reduceIte,reduceCtorEq,nrL];with_reducible exact rfl);all_goals(intro hc;(first|exact C8 hc|try simp only[C0]at hc)))|(with_reducible first|refine Az ?_|refine Ap ?_|refine At ?_|refine Ay ?_|refine Ax ?_|apply Ad)|((with_reducible apply Ae);(focus decide))|fail)
   refine⟨by first|exact .inl rfl|exact .inr rfl, ?_⟩
   rw[Ec Try.results73]
   simp only[↓pb,An,Fv,Cs S0,Bo,Bg,Ab,irN,nrA,nrM,nrE,reduceIte,reduceCtorEq,nrL]
   repeat ((with_reducible apply Ac);(simp(disch:=try exact dA) only[Bh,Fv,Cs S0,Ab,irN,nrA,nrM,nrE,reduceIte,reduceCtorEq,nrL];exact rfl))
   exact⟨⟨c,k1,k2,k3⟩,(by exact Bm)⟩
theorem A0H {α:Type}{enc:α→List Value}{s:Nat}(hs:∀ a,(enc a).length=s):∀ (l:List α)(i:Nat)(x:α),i<l.length→splice (l.flatMap enc) (i*s) (enc x)=(l.set i x).flatMap enc
 | [],i,x,h=>by simp at h
 | a :: l,0,x,h=>by
  rw[Nat.zero_mul]
  show splice (enc a ++ l.flatMap enc) 0 (enc x)=enc x ++ l.flatMap enc
  unfold splice
  rw[List.take_zero,List.nil_append,Nat.zero_add,List.drop_left' (by rw[hs,hs])]
 | a :: l,i+1,x,h=>by
  have ih:=A0H hs l i x (by simpa using h)
  rw[List.flatMap_cons,show (i+1)*s=(enc a).length+i*s by rw[hs,Nat.add_mul,Nat.one_mul,Nat.add_comm],Re,ih]
  rfl
theorem B4F (s:E1){a b:Nat}(ha:a<11)(hb:b<11):(eS s)[a*11+b]? = some (iv (s.mat a b)):=by
 have:=s.2
 unfold eS
 rw[Av (by omega)]
 rfl
set_option maxHeartbeats 4000000 in
theorem f91 (bR bF:Nat)(vr:Value)(vs:List Value)(rules:List Iy)(hrl:rules.length≤1000000)(hr2:∀ r,r∈rules→r.length≤1000):∀ (n next:Nat)(va:Value)(all:List E1)(H:Aa),rules.length-next=n→next≤rules.length→C1 H→bR<H.n→bF<H.n→H.get bR=.cells [vr] 114 .ex→H.get bF=.cells [.func (.func 91) #[] #[Bc bR 0,Bc bF 0]] 145 .ex→SR H 1 rules.length vr vs→D8 H [] vs rules→SR H 121 all.length va (all.flatMap eS)→0<all.length→all.length≤20→Ub all.length rules →
  ∃ v H',C5 (.fn 91) #[iv next,va,Bc bR 0,Bc bF 0] H v H'∧v=.bool (Iw (rules.drop next) all)∧Fr H.n [] H H':=by
 intro n
 induction n with
 | zero =>
  intro next va all H hn hnx hT hR hF gR gF S RV SA ha0 ha1 hok
  have e1:next=rules.length:=by omega
  subst e1
  have rR:H.rd bR=some [vr]:=by rw[Bf,gR];rfl
  have o1:=S.one
  have o2:=SA.one
  refine Cl.ofW Try.func91 rfl (by kernel_rfl) (by rw[Try.ntmps91];exact Nat.le_of_ble_eq_true rfl) (by kernel_rfl) ?_
  have Ab:True:=trivial
  refine Jx [0,1,2,3] ?_
  intro eg Aj
  simp only[Ag,Af,and_true]at Aj
  try simp only[↓pb,An,E5,rR,Bx S,Ab,irN,nrA,nrM,nrE,reduceIte,reduceCtorEq,nrL]at Aj
  replace Ab:=Aj;clear Aj
  repeat'(first|((with_reducible refine hK _ _ fun e2 Aj=>?_);clear hK K;simp only[Kh,Ag,Af,and_true,↓pb,An,E5,rR,Bx S,Ab,irN,nrA,nrM,nrE,reduceIte,reduceCtorEq,nrL]at Aj;clear Ab;(try clear eg);have Ab:=Aj;clear Aj;rename Bi=>eg)|((first|((with_reducible first|apply Ac|apply Al|apply Ak);(simp(disch:=try exact dA) only[Bh,E5,rR,Bx S,Ab,irN,nrA,nrM,nrE,reduceIte,reduceCtorEq,nrL];with_reducible exact rfl))|((with_reducible first|apply Ar|apply As|apply Aq);(focus exact Ee))|(with_reducible first|refine Ai Kh fun K hK=>?_|refine Aw Kh fun K hK=>?_));try simp only[↓pb,↓pd,Bp,E5,rR,Bx S,Ab,irN,nrA,nrM,nrE,reduceIte,reduceCtorEq,nrL])|((with_reducible apply Au);(simp only[↓pb,An,E5,rR,Bx S,Ab,irN,nrA,nrM,nrE,reduceIte,reduceCtorEq,nrL];with_reducible exact rfl);all_goals(intro hc;(first|exact C8 hc|try simp only[C0]at hc)))|(with_reducible first|refine Az ?_|refine Ap ?_|refine At ?_|refine Ay ?_|refine Ax ?_|apply Ad)|((with_reducible apply Ae);(focus decide))|fail)
  refine⟨by first|exact .inl rfl|exact .inr rfl, ?_⟩
  rw[Ec Try.results91]
  simp only[↓pb,An,E5,rR,Bx S,Bo,Bg,Ab,irN,nrA,nrM,nrE,reduceIte,reduceCtorEq,nrL]
  repeat ((with_reducible apply Ac);(simp(disch:=try exact dA) only[Bh,E5,rR,Bx S,Ab,irN,nrA,nrM,nrE,reduceIte,reduceCtorEq,nrL];exact rfl))
  refine⟨?_,(by exact Bm)⟩
  rw[List.drop_of_length_le (Nat.le_refl _)]
  rfl
 | succ n ih =>
  intro next va all H hn hnx hT hR hF gR gF S RV SA ha0 ha1 hok
  have hnl:next<rules.length:=by omega
  have hne:¬ (next:Int)=(rules.length:Int):=by omega
  have rR:H.rd bR=some [vr]:=by rw[Bf,gR];rfl
  have rF:H.rd bF=some [.func (.func 91) #[] #[Bc bR 0,Bc bF 0]]:=by rw[Bf,gF];rfl
  have o1:=S.one
  have o2:=SA.one
  obtain⟨r,hr⟩:∃ r,r=rules.getD next default:=⟨_,rfl⟩
  have hmem:r∈rules:=hr ▸ Ib hnl
  have hkr:=hok r hmem
  have hlr:=hr2 r hmem
  have hdr:rules.drop next=r :: rules.drop (next+1):=by rw[hr];exact Ha hnl
  obtain⟨u,hu,hru⟩:=RV.at next hnl
  rw[← hr]at hru
  have lS:=S.lt
  have hld:(Yl H vr)[Gy vr+next]? = some u:=by rw[← Kq,S.at (j:=next) (by omega)];exact hu
  have hou:=hru.one'
  have hw1:IntKind.i64.wrap ((next:Int)+1)=((next+1:Nat):Int):=Di (by omega)
  refine Cl.ofW Try.func91 rfl (by kernel_rfl) (by rw[Try.ntmps91];exact Nat.le_of_ble_eq_true rfl) (by kernel_rfl) ?_
  have Ab:True:=trivial
  refine Jx [0,1,2,3] ?_
  intro eg Aj
  simp only[Ag,Af,and_true]at Aj
  try simp only[↓pb,An,E5,rR,Bx S,hne,Ab,irN,nrA,nrM,nrE,reduceIte,reduceCtorEq,nrL]at Aj
  replace Ab:=Aj;clear Aj
  repeat'(first|((with_reducible refine hK _ _ fun e2 Aj=>?_);clear hK K;simp only[Kh,Ag,Af,and_true,↓pb,An,E5,rR,Bx S,hne,Ab,irN,nrA,nrM,nrE,reduceIte,reduceCtorEq,nrL]at Aj;clear Ab;(try clear eg);have Ab:=Aj;clear Aj;rename Bi=>eg)|((first|((with_reducible first|apply Ac|apply Al|apply Ak);(simp(disch:=try exact dA) only[Bh,E5,rR,Bx S,hne,Px S,S.rd,hld,Nat.mul_one,hne,hou,Ab,irN,nrA,nrM,nrE,reduceIte,reduceCtorEq,nrL];with_reducible exact rfl))|((with_reducible first|apply Ar|apply As|apply Aq);(focus exact Ee))|((with_reducible apply Cy);(focus exact Bb);(simp only[↓pb,An,E5,rR,Bx S,hne,Px S,S.rd,hld,Nat.mul_one,hne,hou,Ab,irN,nrA,nrM,nrE,reduceIte,reduceCtorEq,nrL];exact B3h (hru.fr (N:=H.n) (X:=[]) (by exact Bm) (by simp)) (by exact Bb));(rintro vq Gq hq Fy Sw;try simp only[Ao,A3]at hq))|(with_reducible first|refine Ai Kh fun K hK=>?_|refine Aw Kh fun K hK=>?_));try simp only[↓pb,↓pd,Bp,E5,rR,Bx S,hne,Px S,S.rd,hld,Nat.mul_one,hne,hou,Ab,irN,nrA,nrM,nrE,reduceIte,reduceCtorEq,nrL])|((with_reducible apply Au);(simp only[↓pb,An,E5,rR,Bx S,hne,Px S,S.rd,hld,Nat.mul_one,hne,hou,Ab,irN,nrA,nrM,nrE,reduceIte,reduceCtorEq,nrL];with_reducible exact rfl);all_goals(intro hc;(first|exact C8 hc|try simp only[C0]at hc)))|(with_reducible first|refine Az ?_|refine Ap ?_|refine At ?_|refine Ay ?_|refine Ax ?_|apply Ad)|((with_reducible apply Ae);(focus decide))|fail)
  have oq:=Sw.one
  repeat'(first|((with_reducible refine hK _ _ fun e2 Aj=>?_);clear hK K;simp only[Kh,Ag,Af,and_true,↓pb,An,E5,rR,Bx S,hne,Ab,irN,nrA,nrM,nrE,reduceIte,reduceCtorEq,nrL]at Aj;clear Ab;(try clear eg);have Ab:=Aj;clear Aj;rename Bi=>eg)|((first|((with_reducible first|apply Ac|apply Al|apply Ak);(simp(disch:=try exact dA) only[Bh,E5,rR,Bx S,hne,Ob Sw,Ab,irN,nrA,nrM,nrE,reduceIte,reduceCtorEq,nrL];with_reducible exact rfl))|((with_reducible first|apply Ar|apply As|apply Aq);(focus exact Ee))|(with_reducible first|refine Ai Kh fun K hK=>?_|refine Aw Kh fun K hK=>?_));try simp only[↓pb,↓pd,Bp,E5,rR,Bx S,hne,Ob Sw,Ab,irN,nrA,nrM,nrE,reduceIte,reduceCtorEq,nrL])|((with_reducible apply Au);(simp only[↓pb,An,E5,rR,Bx S,hne,Ob Sw,Ab,irN,nrA,nrM,nrE,reduceIte,reduceCtorEq,nrL];with_reducible exact rfl);all_goals(intro hc;(first|exact C8 hc|try simp only[C0]at hc)))|(with_reducible first|refine Az ?_|refine Ap ?_|refine At ?_|refine Ay ?_|refine Ax ?_|apply Ad)|((with_reducible apply Ae);(focus decide))|fail)
  have hext:∀ h,Fr H.n [] H h→h.get bR=.cells [vr] 114 .ex∧h.get bF=.cells [.func (.func 91) #[] #[Bc bR 0,Bc bF 0]] 145 .ex∧SR h 1 rules.length vr vs∧D8 h [] vs rules:=fun h F=>⟨by rw[F.old _ hR (by simp)];exact gR,by rw[F.old _ hF (by simp)];exact gF,S.fr0 F,RV.fr F (by simp)⟩
  have ih2:∀ (va:Value) (al:List E1) (h:Aa),Fr H.n [] H h→C1 h→SR h 121 al.length va (al.flatMap eS)→al.length=all.length→∃ v H',C5 (.fn 91) #[iv (next+1:Nat),va,Bc bR 0,Bc bF 0] h v H'∧v=.bool (Iw (rules.drop (next+1)) al)∧Fr h.n [] h H':=fun va al h F T A e=>by
   obtain⟨x1,x2,x3,x4⟩:=hext h F
   have:=F.n
   exact ih (next+1) va al h (by omega) (by omega) T (by omega) (by omega) x1 x2 x3 x4 A (by omega) (by omega) (by rw[e];exact hok)
  refine Db [0,1,3,7,24,25] (by kernel_rfl) 26 (r.length) (H.n) [] [] (fun i e h=>(r.take i).any (fun w=>w.ok all)=false) (by simp only[↓pb,An,E5,rR,Bx S,hne,Ab,irN,nrA,nrM,nrE,reduceIte,reduceCtorEq,nrL]) (by focus exact Bb) (H0:=H) (by focus exact Bm) (by intro b hb hlt;simp at hb ⊢;try omega) ?_ ?_
  rotate_left
  intro i1 e1 h1 hi1 D3 ei1 Ep D9 Mf Hh
  simp only[Ag,Af,and_true]at D3
  try simp only[↓pb,An,E5,rR,Bx S,hne,Ab,irN,nrA,nrM,nrE,reduceIte,reduceCtorEq,nrL]at D3
  have hn11:=Ep.n;have hn01:=D9.n;try simp only[Ao,A3]at hn11
  replace Ab:=B9p ei1 D3
  rotate_left
  ·simp
  have S1:=Sw.fr0 Ep
  obtain⟨x1,x2,x3,x4⟩:=hext h1 D9
  have A1:=SA.fr0 D9
  have q1:h1.rd bR=some [vr]:=by rw[Bf,x1];rfl
  have q2:h1.rd bF=some [.func (.func 91) #[] #[Bc bR 0,Bc bF 0]]:=by rw[Bf,x2];rfl
  have lw:=S1.lt
  have lA:=A1.lt
  have hn1:=D9.n
  by_cases hi2:i1<r.length
  ·obtain⟨w,hw⟩:∃ w,w=r.getD i1 default:=⟨_,rfl⟩
   have hwk:=hkr _ (Ib hi2)
   rw[← hw]at hwk
   obtain⟨k1,k2,k3⟩:=hwk
   have hen:Mi (r.getD i1 default)=[iv w.spot,iv w.a,iv w.b,iv w.most]:=by rw[← hw];rfl
   have hmat:(Yl h1 va)[Gy va+w.spot*121+w.a*11+w.b]? = some (iv ((all.getD w.spot default).mat w.a w.b)):=by
    rw[Nat.add_assoc _ (w.a*11),(A1.el A5t rfl).1 _ _ k1 (by omega),B4F _ k2 k3]
   have hokw:w.ok all=decide ((all.getD w.spot default).mat w.a w.b≤w.most):=rfl
   repeat'(first|((with_reducible refine hK _ _ fun e2 Aj=>?_);clear hK K;simp only[Kh,Ag,Af,and_true,↓pb,An,E5,rR,Bx S,hne,Ab,irN,nrA,nrM,nrE,reduceIte,reduceCtorEq,nrL]at Aj;clear Ab;(try clear eg);have Ab:=Aj;clear Aj;rename Bi=>eg)|((first|((with_reducible first|apply Ac|apply Al|apply Ak);(simp(disch:=try exact dA) only[Bh,E5,rR,Bx S,hne,Lh S1,S1.rd,(S1.el Gs rfl),hen,Oa A1,A1.rd,hmat,Nat.mul_one,S1.mapB,A1.mapB,q2,hw1,o2,Ab,irN,nrA,nrM,nrE,reduceIte,reduceCtorEq,nrL];with_reducible exact rfl))|((with_reducible first|apply Ar|apply As|apply Aq);(focus exact Ee))|((with_reducible apply Bz);(focus exact Bb);(simp only[↓pb,An,E5,rR,Bx S,hne,Lh S1,S1.rd,(S1.el Gs rfl),hen,Oa A1,A1.rd,hmat,Nat.mul_one,S1.mapB,A1.mapB,q2,hw1,o2,Ab,irN,nrA,nrM,nrE,reduceIte,reduceCtorEq,nrL];(exact ih2 _ _ _ (by exact Bm) (by exact Bb) (A1.fr0 (N:=H.n) (by exact Bm)) rfl));(intro Gq hq Fy;try simp only[Ao,A3]at hq))|(with_reducible first|refine Ai Kh fun K hK=>?_|refine Aw Kh fun K hK=>?_));try simp only[↓pb,↓pd,Bp,E5,rR,Bx S,hne,Lh S1,S1.rd,(S1.el Gs rfl),hen,Oa A1,A1.rd,hmat,Nat.mul_one,S1.mapB,A1.mapB,q2,hw1,o2,Ab,irN,nrA,nrM,nrE,reduceIte,reduceCtorEq,nrL])|((with_reducible apply Au);(simp only[↓pb,An,E5,rR,Bx S,hne,Lh S1,S1.rd,(S1.el Gs rfl),hen,Oa A1,A1.rd,hmat,Nat.mul_one,S1.mapB,A1.mapB,q2,hw1,o2,Ab,irN,nrA,nrM,nrE,reduceIte,reduceCtorEq,nrL];with_reducible exact rfl);all_goals(intro hc;(first|exact C8 hc|try simp only[C0]at hc)))|(with_reducible first|refine Az ?_|refine Ap ?_|refine At ?_|refine Ay ?_|refine Ax ?_|apply Ad)|((with_reducible apply Ae);(focus decide))|fail)
   ·refine⟨by first|exact .inl rfl|exact .inr rfl, ?_⟩
    rw[Ec Try.results91]
    simp only[↓pb,An,E5,rR,Bx S,hne,Bo,Bg,Ab,irN,nrA,nrM,nrE,reduceIte,reduceCtorEq,nrL]
    repeat ((with_reducible apply Ac);(simp(disch:=try exact dA) only[Bh,E5,rR,Bx S,hne,Ab,irN,nrA,nrM,nrE,reduceIte,reduceCtorEq,nrL];exact rfl))
    refine⟨?_,(by exact Bm)⟩
    rw[hdr,Iw,if_pos]
    exact List.any_eq_true.2 ⟨w,hw ▸ Ib hi2,by rw[hokw,decide_eq_true hc]⟩
   ·refine⟨by omega,by simp only[↓pb,An,E5,rR,Bx S,hne,Ab,irN,nrA,nrM,nrE,reduceIte,reduceCtorEq,nrL];exact congrArg _ (Di (by omega)),by focus exact Bm, ?_⟩
    rw[H6 hi2,List.any_append,Hh,← hw]
    show (false || (w.ok all || false))=false
    rw[hokw,decide_eq_false hc]
    rfl
  ·have e1n:i1=r.length:=by omega
   rw[e1n,List.take_length]at Hh
   have hkp:Iw (rules.drop next) all=r.any fun w=>((all.getD w.spot default).know w.a w.b w.most).2 && Iw (rules.drop (next+1)) (all.set w.spot ((all.getD w.spot default).know w.a w.b w.most).1):=by
    rw[hdr,Iw,if_neg (by rw[Hh];simp)]
   repeat'(first|((with_reducible refine hK _ _ fun e2 Aj=>?_);clear hK K;simp only[Kh,Ag,Af,and_true,↓pb,An,E5,rR,Bx S,hne,Ab,irN,nrA,nrM,nrE,reduceIte,reduceCtorEq,nrL]at Aj;clear Ab;(try clear eg);have Ab:=Aj;clear Aj;rename Bi=>eg)|((first|((with_reducible first|apply Ac|apply Al|apply Ak);(simp(disch:=try exact dA) only[Bh,E5,rR,Bx S,hne,Ob S1,Ab,irN,nrA,nrM,nrE,reduceIte,reduceCtorEq,nrL];with_reducible exact rfl))|((with_reducible first|apply Ar|apply As|apply Aq);(focus exact Ee))|(with_reducible first|refine Ai Kh fun K hK=>?_|refine Aw Kh fun K hK=>?_));try simp only[↓pb,↓pd,Bp,E5,rR,Bx S,hne,Ob S1,Ab,irN,nrA,nrM,nrE,reduceIte,reduceCtorEq,nrL])|((with_reducible apply Au);(simp only[↓pb,An,E5,rR,Bx S,hne,Ob S1,Ab,irN,nrA,nrM,nrE,reduceIte,reduceCtorEq,nrL];with_reducible exact rfl);all_goals(intro hc;(first|exact C8 hc|try simp only[C0]at hc)))|(with_reducible first|refine Az ?_|refine Ap ?_|refine At ?_|refine Ay ?_|refine Ax ?_|apply Ad)|((with_reducible apply Ae);(focus decide))|fail)
   refine Db [0,1,3,50,51] (by kernel_rfl) 52 (r.length) (H.n) [] [] (fun i e h=>(r.take i).any (fun w=>((all.getD w.spot default).know w.a w.b w.most).2 && Iw (rules.drop (next+1)) (all.set w.spot ((all.getD w.spot default).know w.a w.b w.most).1))=false) (by simp only[↓pb,An,E5,rR,Bx S,hne,Ab,irN,nrA,nrM,nrE,reduceIte,reduceCtorEq,nrL]) (by focus exact Bb) (H0:=H) (by focus exact Bm) (by intro b hb hlt;simp at hb ⊢;try omega) ?_ ?_
   rotate_left
   intro i2 e2 h2 hi2 Lm ei2 Ol Ji A30 Ov
   simp only[Ag,Af,and_true]at Lm
   try simp only[↓pb,An,E5,rR,Bx S,hne,Ab,irN,nrA,nrM,nrE,reduceIte,reduceCtorEq,nrL]at Lm
   have hn12:=Ol.n;have hn02:=Ji.n;try simp only[Ao,A3]at hn12
   replace Ab:=B9p ei2 Lm
   rotate_left
   ·simp
   have S2:=S1.fr0 Ol
   obtain⟨y1,y2,y3,y4⟩:=hext h2 Ji
   have A2:=SA.fr0 Ji
   have p1:h2.rd bR=some [vr]:=by rw[Bf,y1];rfl
   have p2:h2.rd bF=some [.func (.func 91) #[] #[Bc bR 0,Bc bF 0]]:=by rw[Bf,y2];rfl
   have lw2:=S2.lt
   have lA2:=A2.lt
   have hn2:=Ji.n
   by_cases hj2:i2<r.length
   ·obtain⟨w,hw⟩:∃ w,w=r.getD i2 default:=⟨_,rfl⟩
    have hwk:=hkr _ (Ib hj2)
    rw[← hw]at hwk
    obtain⟨k1,k2,k3⟩:=hwk
    have hen:Mi (r.getD i2 default)=[iv w.spot,iv w.a,iv w.b,iv w.most]:=by rw[← hw];rfl
    obtain⟨sm,hsm⟩:∃ sm,sm=all.getD w.spot default:=⟨_,rfl⟩
    have hat:Swa.atN (Yl h2 va) (Gy va+w.spot*121) 121=some (.agg ⟨Ck sm.1⟩):=by
     rw[(A2.el A5t rfl).2.2.1 _ k1,← hsm]
     rfl
    have hl:(Ck sm.1).length=121:=by rw[C3,sm.2]
    have hl2:(Ck (Swa.know sm.1 w.a w.b w.most).1).length=121:=by rw[C3,Xi,sm.2]
    have hz:=Dv 121
    repeat'(first|((with_reducible refine hK _ _ fun e2 Aj=>?_);clear hK K;simp only[Kh,Ag,Af,and_true,↓pb,An,E5,rR,Bx S,hne,Ab,irN,nrA,nrM,nrE,reduceIte,reduceCtorEq,nrL]at Aj;clear Ab;(try clear eg);have Ab:=Aj;clear Aj;rename Bi=>eg)|((first|((with_reducible first|apply Ac|apply Al|apply Ak);(simp(disch:=try exact dA) only[Bh,E5,rR,Bx S,hne,Lh S2,S2.rd,(S2.el Gs rfl),hen,Oa A2,A2.rd,hat,Nat.mul_one,S2.mapB,A2.mapB,p2,hw1,o2,hl,hl2,hz,Dh,Hd hl2 hz,Ab,irN,nrA,nrM,nrE,reduceIte,reduceCtorEq,nrL];with_reducible exact rfl))|((with_reducible first|apply Ar|apply As|apply Aq);(focus exact Ee))|((with_reducible apply Cy);(focus exact Bb);(simp only[↓pb,An,E5,rR,Bx S,hne,Lh S2,S2.rd,(S2.el Gs rfl),hen,Oa A2,A2.rd,hat,Nat.mul_one,S2.mapB,A2.mapB,p2,hw1,o2,hl,hl2,hz,Dh,Hd hl2 hz,Ab,irN,nrA,nrM,nrE,reduceIte,reduceCtorEq,nrL];exact f93 _ _ _ (by exact Bb) (A2.fr0 (N:=H.n) (by exact Bm)) ha0 ha1);(rintro vq Gq hq Fy ⟨bC,rfl,z1,so,z2,z3⟩;try simp only[Ao,A3]at hq))|((with_reducible apply Bz);(focus exact Bb);(simp only[↓pb,An,E5,rR,Bx S,hne,Lh S2,S2.rd,(S2.el Gs rfl),hen,Oa A2,A2.rd,hat,Nat.mul_one,S2.mapB,A2.mapB,p2,hw1,o2,hl,hl2,hz,Dh,Hd hl2 hz,Ab,irN,nrA,nrM,nrE,reduceIte,reduceCtorEq,nrL];(exact f92 _ sm.2 _ _ k2 k3 _ _ (by exact Bb)));(intro Gq hq Fy;try simp only[Ao,A3]at hq))|(with_reducible first|refine Ai Kh fun K hK=>?_|refine Aw Kh fun K hK=>?_));try simp only[↓pb,↓pd,Bp,E5,rR,Bx S,hne,Lh S2,S2.rd,(S2.el Gs rfl),hen,Oa A2,A2.rd,hat,Nat.mul_one,S2.mapB,A2.mapB,p2,hw1,o2,hl,hl2,hz,Dh,Hd hl2 hz,Ab,irN,nrA,nrM,nrE,reduceIte,reduceCtorEq,nrL])|((with_reducible apply Au);(simp only[↓pb,An,E5,rR,Bx S,hne,Lh S2,S2.rd,(S2.el Gs rfl),hen,Oa A2,A2.rd,hat,Nat.mul_one,S2.mapB,A2.mapB,p2,hw1,o2,hl,hl2,hz,Dh,Hd hl2 hz,Ab,irN,nrA,nrM,nrE,reduceIte,reduceCtorEq,nrL];with_reducible exact rfl);all_goals(intro hc;(first|exact C8 hc|try simp only[C0]at hc)))|(with_reducible first|refine Az ?_|refine Ap ?_|refine At ?_|refine Ay ?_|refine Ax ?_|apply Ad)|((with_reducible apply Ae);(focus decide))|fail)
    ·have hkn:(sm.know w.a w.b w.most).2=false:=by
      have:(Swa.know sm.1 w.a w.b w.most).2=(sm.know w.a w.b w.most).2:=rfl
      rw[← this]
      simpa using hc
     refine⟨by omega,by simp only[↓pb,An,E5,rR,Bx S,hne,Ab,irN,nrA,nrM,nrE,reduceIte,reduceCtorEq,nrL];exact congrArg _ (Di (by omega)),by focus exact Bm, ?_⟩
     rw[H6 hj2,List.any_append,Ov,← hw]
     show (false || (((all.getD w.spot default).know w.a w.b w.most).2 && _ || false))=false
     rw[← hsm,hkn]
     rfl
    ·have hkn:(sm.know w.a w.b w.most).2=true:=by
      have:(Swa.know sm.1 w.a w.b w.most).2=(sm.know w.a w.b w.most).2:=rfl
      rw[← this]
      simpa using hc
     obtain⟨s',hs'⟩:∃ s',s'=(sm.know w.a w.b w.most).1:=⟨_,rfl⟩
     have hs2:Ck (Swa.know sm.1 w.a w.b w.most).1=eS s':=by rw[hs'];rfl
     rw[hs2]at hl2 z1 so z2 z3 Fy ⊢
     have hfl:(all.flatMap eS).length=all.length*121:=A2.len
     have hsp:splice (all.flatMap eS) (w.spot*121) (eS s')=(all.set w.spot s').flatMap eS:=A0H A5t all w.spot s' k1
     refine Al (by rw[z1];exact B0d so rfl (by show (eS s').toArray.size=121;simpa using hl2) (by omega)) ?_
     repeat'(first|((with_reducible refine hK _ _ fun e2 Aj=>?_);clear hK K;simp only[Kh,Ag,Af,and_true,↓pb,An,E5,rR,Bx S,hne,Ab,irN,nrA,nrM,nrE,reduceIte,reduceCtorEq,nrL]at Aj;clear Ab;(try clear eg);have Ab:=Aj;clear Aj;rename Bi=>eg)|((first|((with_reducible first|apply Ac|apply Al|apply Ak);(simp(disch:=try exact dA) only[Bh,E5,rR,Bx S,hne,Ab,irN,nrA,nrM,nrE,reduceIte,reduceCtorEq,nrL];with_reducible exact rfl))|((with_reducible first|apply Ar|apply As|apply Aq);(focus exact Ee))|(with_reducible first|refine Eu Kh [17] fun K hK=>?_|refine Fx Kh [17] fun K hK=>?_));try simp only[↓pb,↓pd,Bp,E5,rR,Bx S,hne,Ab,irN,nrA,nrM,nrE,reduceIte,reduceCtorEq,nrL])|((with_reducible apply Au);(simp only[↓pb,An,E5,rR,Bx S,hne,Ab,irN,nrA,nrM,nrE,reduceIte,reduceCtorEq,nrL];with_reducible exact rfl);all_goals(intro hc;(first|exact C8 hc|try simp only[C0]at hc)))|(with_reducible first|refine Az ?_|refine Ap ?_|refine At ?_|refine Ay ?_|refine Ax ?_|apply Ad)|((with_reducible apply Ae);(focus decide))|fail)
     rename_i g92 q92 j92
     simp only[Ao,A3]at z2 z3
     refine Ga (N:=H.n) (X:=[]) (h0:=h1) (fun h=>h.get bC=.cells ((all.set w.spot s').flatMap eS) 96 (.gr bC 121 true)∧bC<h.n∧C1 h) (by exact Bm) ⟨by rw[← hsp];exact Ch,by simp only[Ao,A3];omega,(by exact Bb)⟩ ?_
     rintro h5 F5 ⟨m1,m2,T5⟩
     clear z1 so Fy j92
     have F05:Fr H.n [] H h5:=D9.trans F5
     obtain⟨_,w2,_,_⟩:=hext h5 F05
     have p5:h5.rd bF=some [.func (.func 91) #[] #[Bc bR 0,Bc bF 0]]:=by rw[Bf,w2];rfl
     have hfl2:((all.set w.spot s').flatMap eS).length=(all.set w.spot s').length*121:=by
      rw[← hsp,Bq (by rw[hl2];omega),hfl,List.length_set]
     have A5:SR h5 121 (all.set w.spot s').length (.slice (some ⟨bC,0,none⟩) all.length all.length) ((all.set w.spot s').flatMap eS):=by
      have:=SR.wholeR m2 (n:=(all.set w.spot s').length) (s:=121) (by rw[Bf,m1];rfl) hfl2
      rw[List.length_set]at this ⊢
      exact this
     repeat'(first|((with_reducible refine hK _ _ fun e2 Aj=>?_);clear hK K;simp only[Kh,Ag,Af,and_true,↓pb,An,E5,rR,Bx S,hne,Ab,irN,nrA,nrM,nrE,reduceIte,reduceCtorEq,nrL]at Aj;clear Ab;(try clear eg);have Ab:=Aj;clear Aj;rename Bi=>eg)|((first|((with_reducible first|apply Ac|apply Al|apply Ak);(simp(disch:=try exact dA) only[Bh,E5,rR,Bx S,hne,p5,hw1,Ab,irN,nrA,nrM,nrE,reduceIte,reduceCtorEq,nrL];with_reducible exact rfl))|((with_reducible first|apply Ar|apply As|apply Aq);(focus exact Ee))|((with_reducible apply Bz);(focus exact Bb);(simp only[↓pb,An,E5,rR,Bx S,hne,p5,hw1,Ab,irN,nrA,nrM,nrE,reduceIte,reduceCtorEq,nrL];(exact ih2 _ _ _ F05 T5 A5 List.length_set));(intro Gq hq Fy;try simp only[Ao,A3]at hq))|(with_reducible first|refine Ai Kh fun K hK=>?_|refine Aw Kh fun K hK=>?_));try simp only[↓pb,↓pd,Bp,E5,rR,Bx S,hne,p5,hw1,Ab,irN,nrA,nrM,nrE,reduceIte,reduceCtorEq,nrL])|((with_reducible apply Au);(simp only[↓pb,An,E5,rR,Bx S,hne,p5,hw1,Ab,irN,nrA,nrM,nrE,reduceIte,reduceCtorEq,nrL];with_reducible exact rfl);all_goals(intro hc;(first|exact C8 hc|try simp only[C0]at hc)))|(with_reducible first|refine Az ?_|refine Ap ?_|refine At ?_|refine Ay ?_|refine Ax ?_|apply Ad)|((with_reducible apply Ae);(focus decide))|fail)
     ·refine⟨by first|exact .inl rfl|exact .inr rfl, ?_⟩
      rw[Ec Try.results91]
      simp only[↓pb,An,E5,rR,Bx S,hne,Bo,Bg,Ab,irN,nrA,nrM,nrE,reduceIte,reduceCtorEq,nrL]
      repeat ((with_reducible apply Ac);(simp(disch:=try exact dA) only[Bh,E5,rR,Bx S,hne,Ab,irN,nrA,nrM,nrE,reduceIte,reduceCtorEq,nrL];exact rfl))
      refine⟨?_,(by exact Bm)⟩
      rw[hkp]
      symm
      refine congrArg Value.bool ?_
      refine List.any_eq_true.2 ⟨w,hw ▸ Ib hj2, ?_⟩
      rw[← hsm,hkn,Bool.true_and,← hs']
      exact hc
     ·refine⟨by omega,by simp only[↓pb,An,E5,rR,Bx S,hne,Ab,irN,nrA,nrM,nrE,reduceIte,reduceCtorEq,nrL];exact congrArg _ (Di (by omega)),by focus exact Bm, ?_⟩
      rw[H6 hj2,List.any_append,Ov,← hw]
      show (false || (((all.getD w.spot default).know w.a w.b w.most).2 && Iw _ (all.set w.spot ((all.getD w.spot default).know w.a w.b w.most).1) || false))=false
      rw[← hsm,← hs',hkn,hc]
      rfl
   ·have e2n:i2=r.length:=by omega
    rw[e2n,List.take_length]at Ov
    repeat'(first|((with_reducible refine hK _ _ fun e2 Aj=>?_);clear hK K;simp only[Kh,Ag,Af,and_true,↓pb,An,E5,rR,Bx S,hne,Ab,irN,nrA,nrM,nrE,reduceIte,reduceCtorEq,nrL]at Aj;clear Ab;(try clear eg);have Ab:=Aj;clear Aj;rename Bi=>eg)|((first|((with_reducible first|apply Ac|apply Al|apply Ak);(simp(disch:=try exact dA) only[Bh,E5,rR,Bx S,hne,Ab,irN,nrA,nrM,nrE,reduceIte,reduceCtorEq,nrL];with_reducible exact rfl))|((with_reducible first|apply Ar|apply As|apply Aq);(focus exact Ee))|(with_reducible first|refine Ai Kh fun K hK=>?_|refine Aw Kh fun K hK=>?_));try simp only[↓pb,↓pd,Bp,E5,rR,Bx S,hne,Ab,irN,nrA,nrM,nrE,reduceIte,reduceCtorEq,nrL])|((with_reducible apply Au);(simp only[↓pb,An,E5,rR,Bx S,hne,Ab,irN,nrA,nrM,nrE,reduceIte,reduceCtorEq,nrL];with_reducible exact rfl);all_goals(intro hc;(first|exact C8 hc|try simp only[C0]at hc)))|(with_reducible first|refine Az ?_|refine Ap ?_|refine At ?_|refine Ay ?_|refine Ax ?_|apply Ad)|((with_reducible apply Ae);(focus decide))|fail)
    refine⟨by first|exact .inl rfl|exact .inr rfl, ?_⟩
    rw[Ec Try.results91]
    simp only[↓pb,An,E5,rR,Bx S,hne,Bo,Bg,Ab,irN,nrA,nrM,nrE,reduceIte,reduceCtorEq,nrL]
    repeat ((with_reducible apply Ac);(simp(disch:=try exact dA) only[Bh,E5,rR,Bx S,hne,Ab,irN,nrA,nrM,nrE,reduceIte,reduceCtorEq,nrL];exact rfl))
    exact⟨by rw[hkp,Ov],(by exact Bm)⟩
set_option maxHeartbeats 4000000 in
theorem f72 (va vb vc vh vr:Value)(l:List (Hp×Value))(vs:List Value)(rules:List Iy)(H:Aa)(hT:C1 H)(ho:one va∧one vb∧one vc)(Sh:RHs H vh l)(hl:0<l.length∧l.length≤20)(S:SR H 1 rules.length vr vs)(RV:D8 H [] vs rules)(hrl:rules.length≤1000000)(hr2:∀ r,r∈rules→r.length≤1000)(hok:Ub l.length rules) :
  ∃ v H',C5 (.fn 72) #[.agg ⟨[va,vb,vc,vh]⟩,vr] H v H'∧v=.bool (Iw rules (l.map (·.1.s)))∧Fr H.n [] H H':=by
 have oh:=Sh.1.one
 have orr:=S.one
 refine Cl.ofW Try.func72 rfl (by kernel_rfl) (by rw[Try.ntmps72];exact Nat.le_of_ble_eq_true rfl) (by kernel_rfl) ?_
 have Ab:True:=trivial
 refine Jx [0,1] ?_
 intro eg Aj
 simp only[Ag,Af,and_true]at Aj
 try simp only[↓pb,An,Ju,ho,oh,orr.1,orr.2,Ab,irN,nrA,nrM,nrE,reduceIte,reduceCtorEq,nrL]at Aj
 replace Ab:=Aj;clear Aj
 repeat'(first|((with_reducible refine hK _ _ fun e2 Aj=>?_);clear hK K;simp only[A21,Ag,Af,and_true,↓pb,An,Ju,ho,oh,orr.1,orr.2,Ab,irN,nrA,nrM,nrE,reduceIte,reduceCtorEq,nrL]at Aj;clear Ab;(try clear eg);have Ab:=Aj;clear Aj;rename Bi=>eg)|((first|((with_reducible first|apply Ac|apply Al|apply Ak);(simp(disch:=try exact dA) only[Bh,Ju,ho,oh,orr.1,orr.2,Jh Sh.1,oh,orr.1,orr.2,Ab,irN,nrA,nrM,nrE,reduceIte,reduceCtorEq,nrL];with_reducible exact rfl))|(with_reducible first|refine Ai A21 fun K hK=>?_));try simp only[↓pb,↓pd,Bp,Ju,ho,oh,orr.1,orr.2,Jh Sh.1,oh,orr.1,orr.2,Ab,irN,nrA,nrM,nrE,reduceIte,reduceCtorEq,nrL])|((with_reducible apply Au);(simp only[↓pb,An,Ju,ho,oh,orr.1,orr.2,Jh Sh.1,oh,orr.1,orr.2,Ab,irN,nrA,nrM,nrE,reduceIte,reduceCtorEq,nrL];with_reducible exact rfl);all_goals(intro hc;(first|exact C8 hc|try simp only[C0]at hc)))|(with_reducible first|refine Az ?_|refine Ap ?_|refine At ?_|refine Ay ?_|refine Ax ?_|apply Ad)|((with_reducible apply Ae);(focus decide))|fail)
 refine Db [5,11,12] (by kernel_rfl) 13 (l.length) (H.n) [] [] (fun i e h=>h.get (H.n+1)=.cells [vr] 114 .ex∧h.get (H.n+2)=.cells [.func (.func 91) #[] #[Bc (H.n+1) 0,Bc (H.n+2) 0]] 145 .ex∧∃ v6 g6,e 6=v6∧GS h 121 i v6 (((l.map (·.1.s)).take i).flatMap eS) g6∧∀ x,g6=some x→H.n≤x) (by simp only[↓pb,An,Ju,ho,oh,orr.1,orr.2,Ab,irN,nrA,nrM,nrE,reduceIte,reduceCtorEq,nrL]) (by focus exact Bb) (H0:=H) (by focus exact Bm) (by intro b hb hlt;simp at hb ⊢;try omega) ?_ ?_
 rotate_left
 intro i1 e1 h1 hi1 D3 ei1 Ep D9 Mf Hh
 simp only[Ag,Af,and_true]at D3
 try simp only[↓pb,An,Ju,ho,oh,orr.1,orr.2,Ab,irN,nrA,nrM,nrE,reduceIte,reduceCtorEq,nrL]at D3
 have hn11:=Ep.n;have hn01:=D9.n;try simp only[Ao,A3]at hn11
 replace Ab:=B9p ei1 D3
 rotate_left
 ·refine⟨by simp(disch:=try exact dA) only[Bh,Ju,ho,oh,orr.1,orr.2,Ab,irN,nrA,nrM,nrE,reduceIte,reduceCtorEq,nrL],by simp(disch:=try exact dA) only[Bh,Ju,ho,oh,orr.1,orr.2,Ab,irN,nrA,nrM,nrE,reduceIte,reduceCtorEq,nrL],_,none,by simp only[↓pb,An,Ju,ho,oh,orr.1,orr.2,Ab,irN,nrA,nrM,nrE,reduceIte,reduceCtorEq,nrL],.nil rfl rfl (by simp),by simp⟩
 obtain⟨k1,k2,v6,g6,e6,G6,gx⟩:=Hh
 have S1:=Sh.fr D9
 have o6:=G6.one
 have lh:=S1.1.lt
 have r2:h1.rd (H.n+2)=some [.func (.func 91) #[] #[Bc (H.n+1) 0,Bc (H.n+2) 0]]:=by rw[Bf,k2];rfl
 by_cases hi2:i1<l.length
 ·obtain⟨p,hp⟩:∃ p,p=l.getD i1 default:=⟨_,rfl⟩
  have hen:Mq (l.getD i1 default)=Ck p.1.s.1 ++ [p.2]:=by rw[← hp];rfl
  have S2:=S1.2 i1 hi2
  rw[← hp]at S2
  have o2:=S2.one
  have hl121:(Ck p.1.s.1).length=121:=by rw[C3,p.1.s.2]
  repeat'(first|((with_reducible refine hK _ _ fun e2 Aj=>?_);clear hK K;simp only[A21,Ag,Af,and_true,↓pb,An,Ju,ho,oh,orr.1,orr.2,Ab,irN,nrA,nrM,nrE,reduceIte,reduceCtorEq,nrL]at Aj;clear Ab;(try clear eg);have Ab:=Aj;clear Aj;rename Bi=>eg)|((first|((with_reducible first|apply Ac|apply Al|apply Ak);(simp(disch:=try exact dA) only[Bh,Ju,ho,oh,orr.1,orr.2,e6,Gx S1.1,S1.1.rd,(S1.1.el Df rfl),hen,Ie hl121,hl121,o2,o6,oh,Nat.mul_one,Ab,irN,nrA,nrM,nrE,reduceIte,reduceCtorEq,nrL];with_reducible exact rfl))|(with_reducible first|refine Ai A21 fun K hK=>?_));try simp only[↓pb,↓pd,Bp,Ju,ho,oh,orr.1,orr.2,e6,Gx S1.1,S1.1.rd,(S1.1.el Df rfl),hen,Ie hl121,hl121,o2,o6,oh,Nat.mul_one,Ab,irN,nrA,nrM,nrE,reduceIte,reduceCtorEq,nrL])|((with_reducible apply Au);(simp only[↓pb,An,Ju,ho,oh,orr.1,orr.2,e6,Gx S1.1,S1.1.rd,(S1.1.el Df rfl),hen,Ie hl121,hl121,o2,o6,oh,Nat.mul_one,Ab,irN,nrA,nrM,nrE,reduceIte,reduceCtorEq,nrL];with_reducible exact rfl);all_goals(intro hc;(first|exact C8 hc|try simp only[C0]at hc)))|(with_reducible first|refine Az ?_|refine Ap ?_|refine At ?_|refine Ay ?_|refine Ax ?_|apply Ad)|((with_reducible apply Ae);(focus decide))|fail)
  refine B6i (n:=i1) (m:=1) (c:=((l.map (·.1.s)).take i1).flatMap eS) (g:=g6) (GS.ex (G6.fr (N:=h1.n) (X:=[]) (by exact Bm) (fun x hx=>by subst hx;exact G6.grp_lt) (by simp))) (SR.new hl121) (by omega) (by omega) (by omega) (by exact Bb) fun GG=>?_
  have hgd1:=Je gx (n:=h1.n+2) (by omega)
  have hgd2:=GG.grp_lt
  simp only[Ao,A3,nb]at hgd2 GG
  repeat'(first|((with_reducible refine hK _ _ fun e2 Aj=>?_);clear hK K;simp only[A21,Ag,Af,and_true,↓pb,An,Ju,ho,oh,orr.1,orr.2,Ab,irN,nrA,nrM,nrE,reduceIte,reduceCtorEq,nrL]at Aj;clear Ab;(try clear eg);have Ab:=Aj;clear Aj;rename Bi=>eg)|((first|((with_reducible first|apply Ac|apply Al|apply Ak);(simp(disch:=try exact dA) only[Bh,Ju,ho,oh,orr.1,orr.2,Ab,irN,nrA,nrM,nrE,reduceIte,reduceCtorEq,nrL];with_reducible exact rfl))|(with_reducible first|refine Ai A21 fun K hK=>?_));try simp only[↓pb,↓pd,Bp,Ju,ho,oh,orr.1,orr.2,Ab,irN,nrA,nrM,nrE,reduceIte,reduceCtorEq,nrL])|((with_reducible apply Au);(simp only[↓pb,An,Ju,ho,oh,orr.1,orr.2,Ab,irN,nrA,nrM,nrE,reduceIte,reduceCtorEq,nrL];with_reducible exact rfl);all_goals(intro hc;(first|exact C8 hc|try simp only[C0]at hc)))|(with_reducible first|refine Az ?_|refine Ap ?_|refine At ?_|refine Ay ?_|refine Ax ?_|apply Ad)|((with_reducible apply Ae);(focus decide))|fail)
  refine⟨by omega,by simp only[↓pb,An,Ju,ho,oh,orr.1,orr.2,Ab,irN,nrA,nrM,nrE,reduceIte,reduceCtorEq,nrL];exact congrArg _ (Di (by omega)),by focus exact Bm, ?_⟩
  have htk:(l.map (·.1.s)).take (i1+1)=(l.map (·.1.s)).take i1 ++ [p.1.s]:=by
   rw[H6 (by rw[List.length_map];exact hi2),Kk hi2,← hp]
  refine⟨by simp(disch:=try exact dA) only[Bh,Ju,ho,oh,orr.1,orr.2,Ab,irN,nrA,nrM,nrE,reduceIte,reduceCtorEq,nrL];exact k1,by simp(disch:=try exact dA) only[Bh,Ju,ho,oh,orr.1,orr.2,Ab,irN,nrA,nrM,nrE,reduceIte,reduceCtorEq,nrL];exact k2,.slice (some ⟨h1.n+2,0,none⟩) (i1+1) (i1+1),some (g6.getD (h1.n+2)),by simp only[Ab], ?_,La hgd1⟩
  rw[htk,List.flatMap_append,List.flatMap_singleton]
  exact GG
 ·have e1n:i1=l.length:=by omega
  subst e1n
  rw[List.take_of_length_le (by rw[List.length_map];exact Nat.le_refl _)]at G6
  have SA:SR h1 121 (l.map (·.1.s)).length v6 ((l.map (·.1.s)).flatMap eS):=by rw[List.length_map];exact G6.sr
  have hok2:Ub (l.map (·.1.s)).length rules:=by rw[List.length_map];exact hok
  have hm1:0<(l.map (·.1.s)).length:=by rw[List.length_map];exact hl.1
  have hm2:(l.map (·.1.s)).length≤20:=by rw[List.length_map];exact hl.2
  have b1:H.n+1<h1.n:=Nat.lt_of_lt_of_le (by simp only[↓pb,An,Ju,ho,oh,orr.1,orr.2,Ab,irN,nrA,nrM,nrE,reduceIte,reduceCtorEq,nrL];omega) Ep.n
  have b2:H.n+2<h1.n:=Nat.lt_of_lt_of_le (by simp only[↓pb,An,Ju,ho,oh,orr.1,orr.2,Ab,irN,nrA,nrM,nrE,reduceIte,reduceCtorEq,nrL];omega) Ep.n
  repeat'(first|((with_reducible refine hK _ _ fun e2 Aj=>?_);clear hK K;simp only[A21,Ag,Af,and_true,↓pb,An,Ju,ho,oh,orr.1,orr.2,Ab,irN,nrA,nrM,nrE,reduceIte,reduceCtorEq,nrL]at Aj;clear Ab;(try clear eg);have Ab:=Aj;clear Aj;rename Bi=>eg)|((first|((with_reducible first|apply Ac|apply Al|apply Ak);(simp(disch:=try exact dA) only[Bh,Ju,ho,oh,orr.1,orr.2,e6,r2,o6,Ab,irN,nrA,nrM,nrE,reduceIte,reduceCtorEq,nrL];with_reducible exact rfl))|((with_reducible apply Bz);(focus exact Bb);(simp only[↓pb,An,Ju,ho,oh,orr.1,orr.2,e6,r2,o6,Ab,irN,nrA,nrM,nrE,reduceIte,reduceCtorEq,nrL];(exact f91 (H.n+1) (H.n+2) vr vs rules hrl hr2 rules.length 0 v6 (l.map (·.1.s)) _ rfl (Nat.zero_le _) (by exact Bb) b1 b2 k1 k2 (S.fr0 D9) (RV.fr D9 (by simp)) SA hm1 hm2 hok2));(intro Gq hq Fy;try simp only[Ao,A3]at hq))|(with_reducible first|refine Ai A21 fun K hK=>?_));try simp only[↓pb,↓pd,Bp,Ju,ho,oh,orr.1,orr.2,e6,r2,o6,Ab,irN,nrA,nrM,nrE,reduceIte,reduceCtorEq,nrL])|((with_reducible apply Au);(simp only[↓pb,An,Ju,ho,oh,orr.1,orr.2,e6,r2,o6,Ab,irN,nrA,nrM,nrE,reduceIte,reduceCtorEq,nrL];with_reducible exact rfl);all_goals(intro hc;(first|exact C8 hc|try simp only[C0]at hc)))|(with_reducible first|refine Az ?_|refine Ap ?_|refine At ?_|refine Ay ?_|refine Ax ?_|apply Ad)|((with_reducible apply Ae);(focus decide))|fail)
  refine⟨by first|exact .inl rfl|exact .inr rfl, ?_⟩
  rw[Ec Try.results72]
  simp only[↓pb,An,Ju,ho,oh,orr.1,orr.2,Bo,Bg,Ab,irN,nrA,nrM,nrE,reduceIte,reduceCtorEq,nrL]
  repeat ((with_reducible apply Ac);(simp(disch:=try exact dA) only[Bh,Ju,ho,oh,orr.1,orr.2,Ab,irN,nrA,nrM,nrE,reduceIte,reduceCtorEq,nrL];exact rfl))
  exact⟨by rw[List.drop_zero],(by exact Bm)⟩
set_option maxHeartbeats 4000000 in
theorem f29 (va vb vc:Value)(g:Cv)(H:Aa)(hT:C1 H)(hG:RG H va vb vc g)(hsk:g.Spots.length=0∨SK H 3 va)(hs:g.Spots.length≤20)(hs2:g.Sorts.length≤20) :
  ∃ v H',C5 (.fn 29) #[.agg ⟨[va,vb,vc]⟩] H v H'∧v=.tuple #[iv (breaks g).1,iv (breaks g).2.1,iv (breaks g).2.2]∧Fr H.n [] H H':=by
 have hgo:=hG.one
 by_cases hck:check g=0
 ·have ok:=Nm hck
  have hal:=ok.acts
  have hsp:=ok.spots
  have hso:=ok.sorts
  have hvb:g.Spots.length=0∨C4 va<H.n:=hG.p.lt
  have hsk0:∀ h,Fr H.n [] H h→g.Spots.length=0∨SK h 3 va:=fun h hF=>by
   rcases hsk with q|q
   ·exact .inl q
   ·rcases hvb with q2|q2
    ·exact .inl q2
    ·exact .inr (q.fr hF q2 (by simp))
  refine Cl.ofW Try.func29 rfl (by kernel_rfl) (by rw[Try.ntmps29];exact Nat.le_of_ble_eq_true rfl) (by kernel_rfl) ?_
  have Ab:True:=trivial
  refine Jx [0] ?_
  intro eg Aj
  simp only[Ag,Af,and_true]at Aj
  try simp only[↓pb,An,Dn,hgo,Ab,irN,nrA,nrM,nrE,reduceIte,reduceCtorEq,nrL]at Aj
  replace Ab:=Aj;clear Aj
  repeat'(first|((with_reducible refine hK _ _ fun e2 Aj=>?_);clear hK K;simp only[Kf,Ag,Af,and_true,↓pb,An,Dn,hgo,hck,Ab,irN,nrA,nrM,nrE,reduceIte,reduceCtorEq,nrL]at Aj;clear Ab;(try clear eg);have Ab:=Aj;clear Aj;rename Bi=>eg)|((first|((with_reducible first|apply Ac|apply Al|apply Ak);(simp(disch:=try exact dA) only[Bh,Dn,hgo,hck,Ab,irN,nrA,nrM,nrE,reduceIte,reduceCtorEq,nrL];with_reducible exact rfl))|((with_reducible first|apply Ar|apply As|apply Aq);(focus exact Ee))|((with_reducible apply Cy);(focus exact Bb);(simp only[↓pb,An,Dn,hgo,hck,Ab,irN,nrA,nrM,nrE,reduceIte,reduceCtorEq,nrL];exact f54 _ _ _ _ _ (by exact Bb) (hG.fr (N:=H.n) (by exact Bm)) ok.acts (by omega));(rintro vq Gq hq Fy ⟨vh,l,rfl,Sh,el⟩;try simp only[Ao,A3]at hq))|((with_reducible apply Bz);(focus exact Bb);(simp only[↓pb,An,Dn,hgo,hck,Ab,irN,nrA,nrM,nrE,reduceIte,reduceCtorEq,nrL];(exact f25 _ _ _ _ _ (by exact Bb) (hG.fr (N:=H.n) (by exact Bm)) (by omega) (by omega)));(intro Gq hq Fy;try simp only[Ao,A3]at hq))|(with_reducible first|refine Ai Kf fun K hK=>?_|refine Aw Kf fun K hK=>?_));try simp only[↓pb,↓pd,Bp,Dn,hgo,hck,Ab,irN,nrA,nrM,nrE,reduceIte,reduceCtorEq,nrL])|((first|((with_reducible first|apply Br|apply Bt|apply Cc|apply Cd);exact rfl)|(with_reducible apply Au));(simp only[↓pb,An,Dn,hgo,hck,Ab,irN,nrA,nrM,nrE,reduceIte,reduceCtorEq,nrL];with_reducible exact rfl);all_goals(intro hc;(first|exact C8 hc|try simp only[C0]at hc);try((with_reducible first|apply E3|apply Ge);simp only[↓pb,↓pd,Bp,Dn,hgo,hck,hc,Ab,irN,nrA,nrM,nrE,reduceIte,reduceCtorEq,nrL])))|(with_reducible first|refine Az ?_|refine Ap ?_|refine At ?_|refine Ay ?_|refine Ax ?_|apply Ad)|((with_reducible apply Ae);(focus decide))|fail)
  ·refine⟨by first|exact .inl rfl|exact .inr rfl, ?_⟩
   rw[B1u Try.results29]
   simp only[↓pb,An,Dn,hgo,Bo,Bg,Ab,irN,nrA,nrM,nrE,reduceIte,reduceCtorEq,nrL]
   repeat ((with_reducible apply Ac);(simp(disch:=try exact dA) only[Bh,Dn,hgo,Ab,irN,nrA,nrM,nrE,reduceIte,reduceCtorEq,nrL];exact rfl))
   refine⟨?_,(by exact Bm)⟩
   unfold breaks
   rw[if_neg (fun q=>q hck),if_pos hc]
  have hk0:(known g).2=0:=Decidable.not_not.1 hc
  have hll:l.length=g.Spots.length:=by rw[← Yf hk0,← el,List.length_map]
  refine Ga (N:=H.n) (X:=[]) (h0:=H) (fun h=>h.get Gq.n=.cells [va,vb,vc,vh] 91 .ex∧RHs h vh l∧H.n<Gq.n∧Gq.n<h.n∧C1 h) (by exact Bm) ⟨by simp(disch:=try exact dA) only[Bh,Dn,hgo,Ab,irN,nrA,nrM,nrE,reduceIte,reduceCtorEq,nrL],Sh.fr (N:=Gq.n) (by exact Bm),by omega,by simp only[↓pb,An,Dn,hgo,Ab,irN,nrA,nrM,nrE,reduceIte,reduceCtorEq,nrL];omega,(by exact Bb)⟩ ?_
  rintro hb Fb ⟨b0,Sb,c1,c2,Tb⟩
  obtain⟨GB,hGB⟩:∃ GB,GB=Gq.n:=⟨_,rfl⟩
  rw[← hGB]at b0 c1 c2 Ab
  clear Sh hq Fy hGB
  have dn:Dis none none:=by intro x hx;cases hx
  have hfew:∀ j,j<l.length→Few ((known g).1.getD j default):=fun j hj=>Nn hal _ (Ib (by rw[← el,List.length_map];exact hj))
  have hal2:l.map (·.1.s)=(known g).1.map (·.s):=by rw[← el,List.map_map];rfl
  refine Db [6] (by kernel_rfl) 25 (73) (H.n) [] [] (fun i e h=>∃ (s:Bst) (v7 v8:Value) (g7 g8:Option Nat),e 7=v7∧e 8=v8∧e 2=iv s.perhaps∧e 3=iv (-1)∧RS h H.n v7 s.singles g7∧RS h H.n v8 s.doubles g8∧Dis g7 g8∧bGo g (known g).1 73 0 ⟨-1,[],[]⟩=bGo g (known g).1 (73-i) i s∧I4 l.length s.singles∧I4 l.length s.doubles∧s.singles.length≤100*i∧s.doubles.length≤100*i) (by simp only[↓pb,An,Dn,hgo,Ab,irN,nrA,nrM,nrE,reduceIte,reduceCtorEq,nrL]) (by focus exact Bb) (H0:=H) (by focus exact Bm) (by intro b hb hlt;simp at hb ⊢;try omega) ?_ ?_
  rotate_left
  intro i1 e1 h1 hi1 D3 ei1 Ep D9 Mf Hh
  simp only[Ag,Af,and_true]at D3
  try simp only[↓pb,An,Dn,hgo,Ab,irN,nrA,nrM,nrE,reduceIte,reduceCtorEq,nrL]at D3
  have hn11:=Ep.n;have hn01:=D9.n;try simp only[Ao,A3]at hn11
  replace Ab:=B9p ei1 D3
  rotate_left
  ·exact⟨⟨-1,[],[]⟩,_,_,none,none,by simp only[↓pb,An,Dn,hgo,Ab,irN,nrA,nrM,nrE,reduceIte,reduceCtorEq,nrL],by simp only[↓pb,An,Dn,hgo,Ab,irN,nrA,nrM,nrE,reduceIte,reduceCtorEq,nrL],by simp only[↓pb,An,Dn,hgo,Ab,irN,nrA,nrM,nrE,reduceIte,reduceCtorEq,nrL],by simp only[↓pb,An,Dn,hgo,Ab,irN,nrA,nrM,nrE,reduceIte,reduceCtorEq,nrL],RS.nul,RS.nul,dn,rfl,I4.nil,I4.nil,Nat.le_refl _,Nat.le_refl _⟩
  obtain⟨s,v7,v8,g7,g8,e7,e8,ee2,e3,R7,R8,D78,hgo1,fi7,fi8,ln7,ln8⟩:=Hh
  have o7:=R7.one
  have o8:=R8.one
  have S1:=Sb.fr Ep
  have G1:=hG.fr D9
  have d0:h1.get GB=.cells [va,vb,vc,vh] 91 .ex:=by rw[Ep.old _ (by omega) (by simp)];exact b0
  have r0:h1.rd GB=some [va,vb,vc,vh]:=by rw[Bf,d0];rfl
  have oh:=S1.1.one
  by_cases hi2:i1<73
  ·repeat'(first|((with_reducible refine hK _ _ fun e2 Aj=>?_);clear hK K;simp only[Kf,Ag,Af,and_true,↓pb,An,Dn,hgo,e7,e8,ee2,e3,r0,hgo,oh,Ab,irN,nrA,nrM,nrE,reduceIte,reduceCtorEq,nrL]at Aj;clear Ab;(try clear eg);have Ab:=Aj;clear Aj;rename Bi=>eg)|((first|((with_reducible first|apply Ac|apply Al|apply Ak);(simp(disch:=try exact dA) only[Bh,Dn,hgo,e7,e8,ee2,e3,r0,hgo,oh,Ab,irN,nrA,nrM,nrE,reduceIte,reduceCtorEq,nrL];with_reducible exact rfl))|((with_reducible first|apply Ar|apply As|apply Aq);(focus exact Ee))|((with_reducible apply Cy);(focus exact Bb);(simp only[↓pb,An,Dn,hgo,e7,e8,ee2,e3,r0,hgo,oh,Ab,irN,nrA,nrM,nrE,reduceIte,reduceCtorEq,nrL];exact f68 _ _ _ _ _ _ _ _ (by exact Bb) (G1.fr (N:=h1.n) (by exact Bm)) (hsk0 _ (by exact Bm)) (S1.fr (N:=h1.n) (by exact Bm)) ok el hll (by omega));(rintro vq Gq hq Fy ⟨vp,vq2,gh,gp,rfl,RH,RP,DHP⟩;try simp only[Ao,A3]at hq))|((with_reducible apply Cy);(focus exact Bb);(simp only[↓pb,An,Dn,hgo,e7,e8,ee2,e3,r0,hgo,oh,Ab,irN,nrA,nrM,nrE,reduceIte,reduceCtorEq,nrL];exact f54 _ _ _ _ _ (by exact Bb) (hG.fr (N:=H.n) (by exact Bm)) ok.acts (by omega));(rintro vq Gq hq Fy ⟨vh,l,rfl,Sh,el⟩;try simp only[Ao,A3]at hq))|((with_reducible apply Bz);(focus exact Bb);(simp only[↓pb,An,Dn,hgo,e7,e8,ee2,e3,r0,hgo,oh,Ab,irN,nrA,nrM,nrE,reduceIte,reduceCtorEq,nrL];(exact f25 _ _ _ _ _ (by exact Bb) (hG.fr (N:=H.n) (by exact Bm)) (by omega) (by omega)));(intro Gq hq Fy;try simp only[Ao,A3]at hq))|(with_reducible first|refine Ai Kf fun K hK=>?_|refine Aw Kf fun K hK=>?_));try simp only[↓pb,↓pd,Bp,Dn,hgo,e7,e8,ee2,e3,r0,hgo,oh,Ab,irN,nrA,nrM,nrE,reduceIte,reduceCtorEq,nrL])|((first|((with_reducible first|apply Br|apply Bt|apply Cc|apply Cd);exact rfl)|(with_reducible apply Au));(simp only[↓pb,An,Dn,hgo,e7,e8,ee2,e3,r0,hgo,oh,Ab,irN,nrA,nrM,nrE,reduceIte,reduceCtorEq,nrL];with_reducible exact rfl);all_goals(intro hc;(first|exact C8 hc|try simp only[C0]at hc);try((with_reducible first|apply E3|apply Ge);simp only[↓pb,↓pd,Bp,Dn,hgo,e7,e8,ee2,e3,r0,hgo,oh,hc,Ab,irN,nrA,nrM,nrE,reduceIte,reduceCtorEq,nrL])))|(with_reducible first|refine Az ?_|refine Ap ?_|refine At ?_|refine Ay ?_|refine Ax ?_|apply Ad)|((with_reducible apply Ae);(focus decide))|fail)
   have FX:Fr h1.n [] h1 (h1.jn Gq):=by exact Bm
   have TX:C1 (h1.jn Gq):=by exact Bb
   generalize h1.jn Gq=X at RH RP FX TX ⊢
   clear Fy hq
   have nX:=FX.n
   have R7x:=R7.fr0 FX
   have R8x:=R8.fr0 FX
   have lh:=Rf g (known g).1 i1 g.Spots.length
   have lp:=Qp g (known g).1 i1 g.Spots.length
   have m1:g.Spots.length*(1+2*g.Acts.length)≤4*21:=Nat.mul_le_mul (by omega) (by omega)
   have m2:g.Spots.length*g.Spots.length≤4*4:=Nat.mul_le_mul (by omega) (by omega)
   have bh:∀ x,gh=some x→h1.n≤x:=by obtain⟨_,_,q,_⟩:=RH;exact q
   have bp:∀ x,gp=some x→h1.n≤x:=by obtain⟨_,_,q,_⟩:=RP;exact q
   have b7:∀ x,g7=some x→H.n≤x:=by obtain⟨_,_,q,_⟩:=R7;exact q
   have b8:∀ x,g8=some x→H.n≤x:=by obtain⟨_,_,q,_⟩:=R8;exact q
   have D7h:Dis g7 gh:=Dis.far R7.gn bh
   have D7p:Dis g7 gp:=Dis.far R7.gn bp
   have D8h:Dis g8 gh:=Dis.far R8.gn bh
   have D8p:Dis g8 gp:=Dis.far R8.gn bp
   refine A6z TX R7x RH (by omega) (by omega) fun w7 Y k7 A7 R7y=>?_
   have R8y:=R8x.keep A7 (D78.symm.ne R8x.gn)
   have RHy:=RH.keep A7 (D7h.symm.ne RH.gn)
   have RPy:=RP.keep A7 (D7p.symm.ne RP.gn)
   have E78:=D78.app A7 R8x.gn
   have E7h:=D7h.app A7 RH.gn
   have nY:=A7.n
   have FY:=A7.fr H.n (by omega) b7
   have TY:=A7.top
   have p7:=R7y.one
   repeat'(first|((with_reducible refine hK _ _ fun e2 Aj=>?_);clear hK K;simp only[Kf,Ag,Af,and_true,↓pb,An,Dn,hgo,e8,p7,Ab,irN,nrA,nrM,nrE,reduceIte,reduceCtorEq,nrL]at Aj;clear Ab;(try clear eg);have Ab:=Aj;clear Aj;rename Bi=>eg)|((first|((with_reducible first|apply Ac|apply Al|apply Ak);(simp(disch:=try exact dA) only[Bh,Dn,hgo,e8,p7,Ab,irN,nrA,nrM,nrE,reduceIte,reduceCtorEq,nrL];with_reducible exact rfl))|((with_reducible first|apply Ar|apply As|apply Aq);(focus exact Ee))|((with_reducible apply Cy);(focus exact Bb);(simp only[↓pb,An,Dn,hgo,e8,p7,Ab,irN,nrA,nrM,nrE,reduceIte,reduceCtorEq,nrL];exact f54 _ _ _ _ _ (by exact Bb) (hG.fr (N:=H.n) (by exact Bm)) ok.acts (by omega));(rintro vq Gq hq Fy ⟨vh,l,rfl,Sh,el⟩;try simp only[Ao,A3]at hq))|((with_reducible apply Bz);(focus exact Bb);(simp only[↓pb,An,Dn,hgo,e8,p7,Ab,irN,nrA,nrM,nrE,reduceIte,reduceCtorEq,nrL];(exact f25 _ _ _ _ _ (by exact Bb) (hG.fr (N:=H.n) (by exact Bm)) (by omega) (by omega)));(intro Gq hq Fy;try simp only[Ao,A3]at hq))|(with_reducible first|refine Ai Kf fun K hK=>?_|refine Aw Kf fun K hK=>?_));try simp only[↓pb,↓pd,Bp,Dn,hgo,e8,p7,Ab,irN,nrA,nrM,nrE,reduceIte,reduceCtorEq,nrL])|((first|((with_reducible first|apply Br|apply Bt|apply Cc|apply Cd);exact rfl)|(with_reducible apply Au));(simp only[↓pb,An,Dn,hgo,e8,p7,Ab,irN,nrA,nrM,nrE,reduceIte,reduceCtorEq,nrL];with_reducible exact rfl);all_goals(intro hc;(first|exact C8 hc|try simp only[C0]at hc);try((with_reducible first|apply E3|apply Ge);simp only[↓pb,↓pd,Bp,Dn,hgo,e8,p7,hc,Ab,irN,nrA,nrM,nrE,reduceIte,reduceCtorEq,nrL])))|(with_reducible first|refine Az ?_|refine Ap ?_|refine At ?_|refine Ay ?_|refine Ax ?_|apply Ad)|((with_reducible apply Ae);(focus decide))|fail)
   refine A6z TY R8y RPy (by omega) (by omega) fun w8 Z k8 A8 R8z=>?_
   have R7z:=R7y.keep A8 (E78.ne R7y.gn)
   have RHz:=RHy.keep A8 (D8h.symm.ne RHy.gn)
   have RPz:=RPy.keep A8 (D8p.symm.ne RPy.gn)
   have E87:=E78.symm.app A8 R7y.gn
   have E8h:=D8h.app A8 RHy.gn
   have nZ:=A8.n
   have FZ:=A8.fr H.n (by omega) b8
   have TZ:=A8.top
   have p8:=R8z.one
   repeat'(first|((with_reducible refine hK _ _ fun e2 Aj=>?_);clear hK K;simp only[Kf,Ag,Af,and_true,↓pb,An,Dn,hgo,p7,p8,Ab,irN,nrA,nrM,nrE,reduceIte,reduceCtorEq,nrL]at Aj;clear Ab;(try clear eg);have Ab:=Aj;clear Aj;rename Bi=>eg)|((first|((with_reducible first|apply Ac|apply Al|apply Ak);(simp(disch:=try exact dA) only[Bh,Dn,hgo,p7,p8,Ab,irN,nrA,nrM,nrE,reduceIte,reduceCtorEq,nrL];with_reducible exact rfl))|((with_reducible first|apply Ar|apply As|apply Aq);(focus exact Ee))|((with_reducible apply Cy);(focus exact Bb);(simp only[↓pb,An,Dn,hgo,p7,p8,Ab,irN,nrA,nrM,nrE,reduceIte,reduceCtorEq,nrL];exact f54 _ _ _ _ _ (by exact Bb) (hG.fr (N:=H.n) (by exact Bm)) ok.acts (by omega));(rintro vq Gq hq Fy ⟨vh,l,rfl,Sh,el⟩;try simp only[Ao,A3]at hq))|((with_reducible apply Bz);(focus exact Bb);(simp only[↓pb,An,Dn,hgo,p7,p8,Ab,irN,nrA,nrM,nrE,reduceIte,reduceCtorEq,nrL];(exact f25 _ _ _ _ _ (by exact Bb) (hG.fr (N:=H.n) (by exact Bm)) (by omega) (by omega)));(intro Gq hq Fy;try simp only[Ao,A3]at hq))|(with_reducible first|refine Eu Kf [14] fun K hK=>?_|refine Fx Kf [14] fun K hK=>?_));try simp only[↓pb,↓pd,Bp,Dn,hgo,p7,p8,Ab,irN,nrA,nrM,nrE,reduceIte,reduceCtorEq,nrL])|((first|((with_reducible first|apply Br|apply Bt|apply Cc|apply Cd);exact rfl)|(with_reducible apply Au));(simp only[↓pb,An,Dn,hgo,p7,p8,Ab,irN,nrA,nrM,nrE,reduceIte,reduceCtorEq,nrL];with_reducible exact rfl);all_goals(intro hc;(first|exact C8 hc|try simp only[C0]at hc);try((with_reducible first|apply E3|apply Ge);simp only[↓pb,↓pd,Bp,Dn,hgo,p7,p8,hc,Ab,irN,nrA,nrM,nrE,reduceIte,reduceCtorEq,nrL])))|(with_reducible first|refine Az ?_|refine Ap ?_|refine At ?_|refine Ay ?_|refine Ax ?_|apply Ad)|((with_reducible apply Ae);(focus decide))|fail)
   have FhZ:Fr H.n [] h1 Z:=(FX.down hn01).trans (FY.trans FZ)
   have F0Z:Fr H.n [] H Z:=D9.trans FhZ
   have FbZ:Fr H.n [] hb Z:=Ep.trans FhZ
   have dZ:Z.get GB=.cells [va,vb,vc,vh] 91 .ex:=by rw[FhZ.old _ (by omega) (by simp)];exact d0
   obtain⟨pp,hpp⟩:∃ pp,pp=if (Eh g (known g).1 i1 g.Spots.length ++ Ci g (known g).1 i1 g.Spots.length).any (Fu (l.map (·.1.s)))=true then Pn s.perhaps i1 else s.perhaps:=⟨_,rfl⟩
   have fih:=U9 (g:=g) hfew i1 g.Spots.length (by omega)
   have fip:=Pt (g:=g) hfew i1 g.Spots.length (by omega)
   have fia:=fih.app fip
   refine A1W (fun e h=>(e 2=iv pp∧e 3=iv (-1)∧e 6=Bc GB 0∧e 7=w7∧e 8=w8∧e 9=iv i1∧e 25=iv i1)∧Fr H.n [] Z h∧RS h H.n w7 (s.singles ++ Eh g (known g).1 i1 g.Spots.length) k7∧RS h H.n w8 (s.doubles ++ Ci g (known g).1 i1 g.Spots.length) k8) ?_ ?_
   ·repeat'(first|((with_reducible refine hK _ _ fun e2 Aj=>?_);clear hK K;simp only[Kf,Ag,Af,and_true,↓pb,An,Dn,hgo,Ab,irN,nrA,nrM,nrE,reduceIte,reduceCtorEq,nrL]at Aj;clear Ab;(try clear eg);have Ab:=Aj;clear Aj;rename Bi=>eg)|((first|((with_reducible first|apply Ac|apply Al|apply Ak);(simp(disch:=try exact dA) only[Bh,Dn,hgo,Ab,irN,nrA,nrM,nrE,reduceIte,reduceCtorEq,nrL];with_reducible exact rfl))|((with_reducible first|apply Ar|apply As|apply Aq);(focus exact Ee))|((with_reducible apply Cy);(focus exact Bb);(simp only[↓pb,An,Dn,hgo,Ab,irN,nrA,nrM,nrE,reduceIte,reduceCtorEq,nrL];exact f54 _ _ _ _ _ (by exact Bb) (hG.fr (N:=H.n) (by exact Bm)) ok.acts (by omega));(rintro vq Gq hq Fy ⟨vh,l,rfl,Sh,el⟩;try simp only[Ao,A3]at hq))|((with_reducible apply Bz);(focus exact Bb);(simp only[↓pb,An,Dn,hgo,Ab,irN,nrA,nrM,nrE,reduceIte,reduceCtorEq,nrL];(exact f25 _ _ _ _ _ (by exact Bb) (hG.fr (N:=H.n) (by exact Bm)) (by omega) (by omega)));(intro Gq hq Fy;try simp only[Ao,A3]at hq))|(with_reducible first|refine Ai Kf fun K hK=>?_|refine Aw Kf fun K hK=>?_));try simp only[↓pb,↓pd,Bp,Dn,hgo,Ab,irN,nrA,nrM,nrE,reduceIte,reduceCtorEq,nrL])|((first|((with_reducible first|apply Br|apply Bt|apply Cc|apply Cd);exact rfl)|(with_reducible apply Au));(simp only[↓pb,An,Dn,hgo,Ab,irN,nrA,nrM,nrE,reduceIte,reduceCtorEq,nrL];with_reducible exact rfl);all_goals(intro hc;(first|exact C8 hc|try simp only[C0]at hc);try((with_reducible first|apply E3|apply Ge);simp only[↓pb,↓pd,Bp,Dn,hgo,hc,Ab,irN,nrA,nrM,nrE,reduceIte,reduceCtorEq,nrL])))|(with_reducible first|refine Az ?_|refine Ap ?_|refine At ?_|refine Ay ?_|refine Ax ?_|apply Ad)|((with_reducible apply Ae);(focus decide))|fail)
    refine A6z TZ RHz RPz (by omega) (by omega) fun w9 V k9 A9 R9=>?_
    have R7v:=R7z.keep A9 ((E7h).ne R7z.gn)
    have R8v:=R8z.keep A9 (E8h.ne R8z.gn)
    have nV:=A9.n
    have FV:=A9.fr H.n (by omega) (fun x hx=>Nat.le_trans hn01 (bh x hx))
    have TV:=A9.top
    have F0V:=F0Z.trans FV
    have gV:V.get GB=Z.get GB:=A9.old GB (by omega)
    have rV:V.rd GB=some [va,vb,vc,vh]:=by rw[Bf,gV,dZ];rfl
    obtain⟨vs9,a9,_,c9⟩:=R9
    have p9:=R8v.one
    have ShV:=Sb.fr (Fr.trans FbZ FV)
    have o9:=a9.one
    have hr10:∀ r,r∈Eh g (known g).1 i1 g.Spots.length ++ Ci g (known g).1 i1 g.Spots.length→r.length<1000:=fun r hr=>by have:=(fia r hr).2;omega
    have hl9:(Eh g (known g).1 i1 g.Spots.length ++ Ci g (known g).1 i1 g.Spots.length).length<1000000:=by rw[List.length_append];omega
    refine⟨⟨.inr gV,trivial⟩, ?_⟩
    repeat'(first|((with_reducible refine hK _ _ fun e2 Aj=>?_);clear hK K;simp only[Kf,Ag,Af,and_true,↓pb,An,Dn,hgo,rV,hgo,oh,o9,Ab,irN,nrA,nrM,nrE,reduceIte,reduceCtorEq,nrL]at Aj;clear Ab;(try clear eg);have Ab:=Aj;clear Aj;rename Bi=>eg)|((first|((with_reducible first|apply Ac|apply Al|apply Ak);(simp(disch:=try exact dA) only[Bh,Dn,hgo,rV,hgo,oh,o9,Ab,irN,nrA,nrM,nrE,reduceIte,reduceCtorEq,nrL];with_reducible exact rfl))|((with_reducible first|apply Ar|apply As|apply Aq);(focus exact Ee))|((with_reducible apply Cy);(focus exact Bb);(simp only[↓pb,An,Dn,hgo,rV,hgo,oh,o9,Ab,irN,nrA,nrM,nrE,reduceIte,reduceCtorEq,nrL];exact f54 _ _ _ _ _ (by exact Bb) (hG.fr (N:=H.n) (by exact Bm)) ok.acts (by omega));(rintro vq Gq hq Fy ⟨vh,l,rfl,Sh,el⟩;try simp only[Ao,A3]at hq))|((with_reducible apply Cp);(simp only[↓pb,An,Dn,hgo,rV,hgo,oh,o9,Ab,irN,nrA,nrM,nrE,reduceIte,reduceCtorEq,nrL];(exact f71 _ _ _)))|((with_reducible apply Bz);(focus exact Bb);(simp only[↓pb,An,Dn,hgo,rV,hgo,oh,o9,Ab,irN,nrA,nrM,nrE,reduceIte,reduceCtorEq,nrL];(first|exact f69 _ _ _ _ _ l [] vs9 _ _ (by exact Bb) hgo ShV (by omega) a9.sr c9 fia.ok hr10 hl9|exact f25 _ _ _ _ _ (by exact Bb) (hG.fr (N:=H.n) (by exact Bm)) (by omega) (by omega)));(intro Gq hq Fy;try simp only[Ao,A3]at hq))|(with_reducible first|refine Ai Kf fun K hK=>?_|refine Aw Kf fun K hK=>?_));try simp only[↓pb,↓pd,Bp,Dn,hgo,rV,hgo,oh,o9,Ab,irN,nrA,nrM,nrE,reduceIte,reduceCtorEq,nrL])|((first|((with_reducible first|apply Br|apply Bt|apply Cc|apply Cd);exact rfl)|(with_reducible apply Au));(simp only[↓pb,An,Dn,hgo,rV,hgo,oh,o9,Ab,irN,nrA,nrM,nrE,reduceIte,reduceCtorEq,nrL];with_reducible exact rfl);all_goals(intro hc;(first|exact C8 hc|try simp only[C0]at hc);try((with_reducible first|apply E3|apply Ge);simp only[↓pb,↓pd,Bp,Dn,hgo,rV,hgo,oh,o9,hc,Ab,irN,nrA,nrM,nrE,reduceIte,reduceCtorEq,nrL])))|(with_reducible first|refine Az ?_|refine Ap ?_|refine At ?_|refine Ay ?_|refine Ax ?_|apply Ad)|((with_reducible apply Ae);(focus decide))|fail)
    ·refine⟨rfl, ?_,(by exact Bm),R7v.fr0 (by exact Bm),R8v.fr0 (by exact Bm)⟩
     rw[hpp,if_pos hc]
     simp only[Ab,Pn,and_self]
    ·refine⟨rfl, ?_,(by exact Bm),R7v.fr0 (by exact Bm),R8v.fr0 (by exact Bm)⟩
     rw[hpp,if_neg (by rw[hc];simp)]
     simp only[Ab,and_self]
   ·rintro e5 h5 ⟨⟨j2,j3,j6,j7,j8,j9,j25⟩,F5,R7w,R8w⟩
    clear Ab R7x R8x R8y RHy RPy R7y R7z RHz RPz R8z TX TY
    have Ab:=B9p j2 (B9p j3 (B9p j6 (B9p j7 (B9p j8 (B9p j9 j25)))))
    clear j2 j3 j6 j7 j8 j9 j25
    have Fh5:=FhZ.trans F5
    have F05:=F0Z.trans F5
    have Fb5:=FbZ.trans F5
    have T5:=F5.top TZ
    have d5:h5.get GB=.cells [va,vb,vc,vh] 91 .ex:=by rw[F5.old _ (by omega) (by simp)];exact dZ
    have r5:h5.rd GB=some [va,vb,vc,vh]:=by rw[Bf,d5];rfl
    have Sh5:=Sb.fr Fb5
    have o7w:=R7w.one
    have o8w:=R8w.one
    have n5:=Fh5.n
    have hp7:0<(s.singles ++ Eh g (known g).1 i1 g.Spots.length).length:=by rw[List.length_append];omega
    have hl78:(s.singles ++ Eh g (known g).1 i1 g.Spots.length).length+(s.doubles ++ Ci g (known g).1 i1 g.Spots.length).length≤1000000:=by rw[List.length_append,List.length_append];omega
    have hl78':((s.singles ++ Eh g (known g).1 i1 g.Spots.length) ++ (s.doubles ++ Ci g (known g).1 i1 g.Spots.length)).length≤1000000:=by rw[List.length_append];exact hl78
    have fi7':=fi7.app fih
    have fi8':=fi8.app fip
    have fi78:=fi7'.app fi8'
    have hr78:∀ r,r∈(s.singles ++ Eh g (known g).1 i1 g.Spots.length) ++ (s.doubles ++ Ci g (known g).1 i1 g.Spots.length)→r.length≤1000:=fun r hr=>by have:=(fi78 r hr).2;omega
    have hbs:Oi g (known g).1 s i1=(⟨pp,s.singles ++ Eh g (known g).1 i1 g.Spots.length,s.doubles ++ Ci g (known g).1 i1 g.Spots.length⟩,decide (0≤pp) && !Iw ((s.singles ++ Eh g (known g).1 i1 g.Spots.length) ++ (s.doubles ++ Ci g (known g).1 i1 g.Spots.length)) (l.map (·.1.s))):=by
     unfold Oi
     dsimp only
     rw[← hal2,← hpp]
    have hstep:bGo g (known g).1 (73-i1) i1 s=if (Oi g (known g).1 s i1).2=true then ((Oi g (known g).1 s i1).1.perhaps,(i1:Int)) else bGo g (known g).1 (72-i1) (i1+1) (Oi g (known g).1 s i1).1:=by
     rw[show 73-i1=(72-i1)+1 by omega,bGo]
    repeat'(first|((with_reducible refine hK _ _ fun e2 Aj=>?_);clear hK K;simp only[Kf,Ag,Af,and_true,↓pb,An,Dn,hgo,r5,hgo,oh,o7w,o8w,Ab,irN,nrA,nrM,nrE,reduceIte,reduceCtorEq,nrL]at Aj;clear Ab;(try clear eg);have Ab:=Aj;clear Aj;rename Bi=>eg)|((first|((with_reducible first|apply Ac|apply Al|apply Ak);(simp(disch:=try exact dA) only[Bh,Dn,hgo,r5,hgo,oh,o7w,o8w,Ab,irN,nrA,nrM,nrE,reduceIte,reduceCtorEq,nrL];with_reducible exact rfl))|((with_reducible first|apply Ar|apply As|apply Aq);(focus exact Ee))|((with_reducible apply Cy);(focus exact Bb);(simp only[↓pb,An,Dn,hgo,r5,hgo,oh,o7w,o8w,Ab,irN,nrA,nrM,nrE,reduceIte,reduceCtorEq,nrL];exact f73 _ _ _ _ _ _ _ _ _ _ (by exact Bb) (Nat.lt_succ_self _) Ch (R7w.fr0 (by exact Bm)) (R8w.fr0 (by exact Bm)) hp7 hl78);(rintro vq Gq hq Fy ⟨vsK,SC,RVK,bK⟩;try simp only[Ao,A3]at hq))|((with_reducible apply Cy);(focus exact Bb);(simp only[↓pb,An,Dn,hgo,r5,hgo,oh,o7w,o8w,Ab,irN,nrA,nrM,nrE,reduceIte,reduceCtorEq,nrL];exact f54 _ _ _ _ _ (by exact Bb) (hG.fr (N:=H.n) (by exact Bm)) ok.acts (by omega));(rintro vq Gq hq Fy ⟨vh,l,rfl,Sh,el⟩;try simp only[Ao,A3]at hq))|((with_reducible apply Bz);(focus exact Bb);(simp only[↓pb,An,Dn,hgo,r5,hgo,oh,o7w,o8w,Ab,irN,nrA,nrM,nrE,reduceIte,reduceCtorEq,nrL];(first|exact f72 _ _ _ _ _ l vsK _ _ (by exact Bb) hgo (Sh5.fr (N:=h5.n) (by exact Bm)) ⟨by omega,by omega⟩ SC RVK hl78' hr78 fi78.ok|exact f25 _ _ _ _ _ (by exact Bb) (hG.fr (N:=H.n) (by exact Bm)) (by omega) (by omega)));(intro Gq hq Fy;try simp only[Ao,A3]at hq))|(with_reducible first|refine Ai Kf fun K hK=>?_|refine Aw Kf fun K hK=>?_));try simp only[↓pb,↓pd,Bp,Dn,hgo,r5,hgo,oh,o7w,o8w,Ab,irN,nrA,nrM,nrE,reduceIte,reduceCtorEq,nrL])|((first|((with_reducible first|apply Br|apply Bt|apply Cc|apply Cd);exact rfl)|(with_reducible apply Au));(simp only[↓pb,An,Dn,hgo,r5,hgo,oh,o7w,o8w,Ab,irN,nrA,nrM,nrE,reduceIte,reduceCtorEq,nrL];with_reducible exact rfl);all_goals(intro hc;(first|exact C8 hc|try simp only[C0]at hc);try((with_reducible first|apply E3|apply Ge);simp only[↓pb,↓pd,Bp,Dn,hgo,r5,hgo,oh,o7w,o8w,hc,Ab,irN,nrA,nrM,nrE,reduceIte,reduceCtorEq,nrL])))|(with_reducible first|refine Az ?_|refine Ap ?_|refine At ?_|refine Ay ?_|refine Ax ?_|apply Ad)|((with_reducible apply Ae);(focus decide))|fail)
    ·have hkf:Iw ((s.singles ++ Eh g (known g).1 i1 g.Spots.length) ++ (s.doubles ++ Ci g (known g).1 i1 g.Spots.length)) (l.map (·.1.s))=false:=by simpa using hc
     have h0p:0≤pp:=by assumption
     refine⟨by first|exact .inl rfl|exact .inr rfl, ?_⟩
     rw[B1u Try.results29]
     simp only[↓pb,An,Dn,hgo,Bo,Bg,Ab,irN,nrA,nrM,nrE,reduceIte,reduceCtorEq,nrL]
     repeat ((with_reducible apply Ac);(simp(disch:=try exact dA) only[Bh,Dn,hgo,Ab,irN,nrA,nrM,nrE,reduceIte,reduceCtorEq,nrL];exact rfl))
     refine⟨?_,(by exact Bm)⟩
     unfold breaks
     rw[if_neg (fun q=>q hck),if_neg (fun q=>q hk0),hgo1,hstep,if_pos (by rw[hbs,hkf,decide_eq_true h0p];rfl),hbs]
    ·have hkf:Iw ((s.singles ++ Eh g (known g).1 i1 g.Spots.length) ++ (s.doubles ++ Ci g (known g).1 i1 g.Spots.length)) (l.map (·.1.s))=true:=by simpa using hc
     refine⟨by omega,by simp only[↓pb,An,Dn,hgo,Ab,irN,nrA,nrM,nrE,reduceIte,reduceCtorEq,nrL];exact congrArg _ (Di (by omega)),by focus exact Bm, ?_⟩
     refine⟨⟨pp,s.singles ++ Eh g (known g).1 i1 g.Spots.length,s.doubles ++ Ci g (known g).1 i1 g.Spots.length⟩,w7,w8,k7,k8,by simp only[Ab],by simp only[Ab],by simp only[Ab],by simp only[Ab],R7w.fr0 (by exact Bm),R8w.fr0 (by exact Bm),E87.symm, ?_,fi7',fi8', ?_, ?_⟩
     ·rw[hgo1,hstep,if_neg (by rw[hbs,hkf];simp),hbs,show 72-i1=73-(i1+1) by omega]
     ·rw[List.length_append]
      omega
     ·rw[List.length_append]
      omega
    ·have h0p:¬ 0≤pp:=by assumption
     refine⟨by omega,by simp only[↓pb,An,Dn,hgo,Ab,irN,nrA,nrM,nrE,reduceIte,reduceCtorEq,nrL];exact congrArg _ (Di (by omega)),by focus exact Bm, ?_⟩
     refine⟨⟨pp,s.singles ++ Eh g (known g).1 i1 g.Spots.length,s.doubles ++ Ci g (known g).1 i1 g.Spots.length⟩,w7,w8,k7,k8,by simp only[Ab],by simp only[Ab],by simp only[Ab],by simp only[Ab],R7w,R8w,E87.symm, ?_,fi7',fi8', ?_, ?_⟩
     ·rw[hgo1,hstep,if_neg (by rw[hbs,decide_eq_false h0p];simp),hbs,show 72-i1=73-(i1+1) by omega]
     ·rw[List.length_append]
      omega
     ·rw[List.length_append]
      omega
  ·have e1n:i1=73:=by omega
   subst e1n
   repeat'(first|((with_reducible refine hK _ _ fun e2 Aj=>?_);clear hK K;simp only[Kf,Ag,Af,and_true,↓pb,An,Dn,hgo,ee2,e3,Ab,irN,nrA,nrM,nrE,reduceIte,reduceCtorEq,nrL]at Aj;clear Ab;(try clear eg);have Ab:=Aj;clear Aj;rename Bi=>eg)|((first|((with_reducible first|apply Ac|apply Al|apply Ak);(simp(disch:=try exact dA) only[Bh,Dn,hgo,ee2,e3,Ab,irN,nrA,nrM,nrE,reduceIte,reduceCtorEq,nrL];with_reducible exact rfl))|((with_reducible first|apply Ar|apply As|apply Aq);(focus exact Ee))|((with_reducible apply Cy);(focus exact Bb);(simp only[↓pb,An,Dn,hgo,ee2,e3,Ab,irN,nrA,nrM,nrE,reduceIte,reduceCtorEq,nrL];exact f54 _ _ _ _ _ (by exact Bb) (hG.fr (N:=H.n) (by exact Bm)) ok.acts (by omega));(rintro vq Gq hq Fy ⟨vh,l,rfl,Sh,el⟩;try simp only[Ao,A3]at hq))|((with_reducible apply Bz);(focus exact Bb);(simp only[↓pb,An,Dn,hgo,ee2,e3,Ab,irN,nrA,nrM,nrE,reduceIte,reduceCtorEq,nrL];(exact f25 _ _ _ _ _ (by exact Bb) (hG.fr (N:=H.n) (by exact Bm)) (by omega) (by omega)));(intro Gq hq Fy;try simp only[Ao,A3]at hq))|(with_reducible first|refine Ai Kf fun K hK=>?_|refine Aw Kf fun K hK=>?_));try simp only[↓pb,↓pd,Bp,Dn,hgo,ee2,e3,Ab,irN,nrA,nrM,nrE,reduceIte,reduceCtorEq,nrL])|((first|((with_reducible first|apply Br|apply Bt|apply Cc|apply Cd);exact rfl)|(with_reducible apply Au));(simp only[↓pb,An,Dn,hgo,ee2,e3,Ab,irN,nrA,nrM,nrE,reduceIte,reduceCtorEq,nrL];with_reducible exact rfl);all_goals(intro hc;(first|exact C8 hc|try simp only[C0]at hc);try((with_reducible first|apply E3|apply Ge);simp only[↓pb,↓pd,Bp,Dn,hgo,ee2,e3,hc,Ab,irN,nrA,nrM,nrE,reduceIte,reduceCtorEq,nrL])))|(with_reducible first|refine Az ?_|refine Ap ?_|refine At ?_|refine Ay ?_|refine Ax ?_|apply Ad)|((with_reducible apply Ae);(focus decide))|fail)
   refine⟨by first|exact .inl rfl|exact .inr rfl, ?_⟩
   rw[B1u Try.results29]
   simp only[↓pb,An,Dn,hgo,Bo,Bg,Ab,irN,nrA,nrM,nrE,reduceIte,reduceCtorEq,nrL]
   repeat ((with_reducible apply Ac);(simp(disch:=try exact dA) only[Bh,Dn,hgo,Ab,irN,nrA,nrM,nrE,reduceIte,reduceCtorEq,nrL];exact rfl))
   refine⟨?_,(by exact Bm)⟩
   unfold breaks
   rw[if_neg (fun q=>q hck),if_neg (fun q=>q hk0),hgo1]
   rfl
 ·refine Cl.ofW Try.func29 rfl (by kernel_rfl) (by rw[Try.ntmps29];exact Nat.le_of_ble_eq_true rfl) (by kernel_rfl) ?_
  have Ab:True:=trivial
  refine Jx [0] ?_
  intro eg Aj
  simp only[Ag,Af,and_true]at Aj
  try simp only[↓pb,An,Dn,hgo,Ab,irN,nrA,nrM,nrE,reduceIte,reduceCtorEq,nrL]at Aj
  replace Ab:=Aj;clear Aj
  repeat'(first|((with_reducible refine hK _ _ fun e2 Aj=>?_);clear hK K;simp only[Kf,Ag,Af,and_true,↓pb,An,Dn,hgo,hck,Ab,irN,nrA,nrM,nrE,reduceIte,reduceCtorEq,nrL]at Aj;clear Ab;(try clear eg);have Ab:=Aj;clear Aj;rename Bi=>eg)|((first|((with_reducible first|apply Ac|apply Al|apply Ak);(simp(disch:=try exact dA) only[Bh,Dn,hgo,hck,Ab,irN,nrA,nrM,nrE,reduceIte,reduceCtorEq,nrL];with_reducible exact rfl))|((with_reducible first|apply Ar|apply As|apply Aq);(focus exact Ee))|((with_reducible apply Bz);(focus exact Bb);(simp only[↓pb,An,Dn,hgo,hck,Ab,irN,nrA,nrM,nrE,reduceIte,reduceCtorEq,nrL];(exact f25 _ _ _ _ _ (by exact Bb) (hG.fr (N:=H.n) (by exact Bm)) (by omega) (by omega)));(intro Gq hq Fy;try simp only[Ao,A3]at hq))|(with_reducible first|refine Ai Kf fun K hK=>?_|refine Aw Kf fun K hK=>?_));try simp only[↓pb,↓pd,Bp,Dn,hgo,hck,Ab,irN,nrA,nrM,nrE,reduceIte,reduceCtorEq,nrL])|((first|((with_reducible first|apply Br|apply Bt|apply Cc|apply Cd);exact rfl)|(with_reducible apply Au));(simp only[↓pb,An,Dn,hgo,hck,Ab,irN,nrA,nrM,nrE,reduceIte,reduceCtorEq,nrL];with_reducible exact rfl);all_goals(intro hc;(first|exact C8 hc|try simp only[C0]at hc);try((with_reducible first|apply E3|apply Ge);simp only[↓pb,↓pd,Bp,Dn,hgo,hck,hc,Ab,irN,nrA,nrM,nrE,reduceIte,reduceCtorEq,nrL])))|(with_reducible first|refine Az ?_|refine Ap ?_|refine At ?_|refine Ay ?_|refine Ax ?_|apply Ad)|((with_reducible apply Ae);(focus decide))|fail)
  refine⟨by first|exact .inl rfl|exact .inr rfl, ?_⟩
  rw[B1u Try.results29]
  simp only[↓pb,An,Dn,hgo,Bo,Bg,Ab,irN,nrA,nrM,nrE,reduceIte,reduceCtorEq,nrL]
  repeat ((with_reducible apply Ac);(simp(disch:=try exact dA) only[Bh,Dn,hgo,Ab,irN,nrA,nrM,nrE,reduceIte,reduceCtorEq,nrL];exact rfl))
  refine⟨?_,(by exact Bm)⟩
  unfold breaks
  rw[if_pos hck]
end Go.Proofs.Swa
