/- Part 13 of a proof. -/
import Derived.Test.YtkjcijlaehflhaaP12
set_option maxRecDepth 20000
set_option linter.unusedVariables false
set_option linter.unusedSimpArgs false
namespace Go.Proofs.Swa
open Go
open Nat renaming reduceAdd → nrA, reduceMul → nrM, reduceEqDiff → nrE, reduceLT → nrL
open Int renaming reduceToNat → irN
attribute [local congr] WO_congr oV_congr oB_congr oH_congr WD_congr oblO_congr oblA_congr oblR_congr
def eS (s:Sums):List Value:=ints s.1
theorem eS_len (s:Sums):(eS s).length=121:=by rw [eS,ints_len,s.2]
theorem SR.nn {H:AHeap} {s n:Nat} {v:Value} {c:List Value} (h:SR H s n v c) (hn:0 < n):∃ b o k,v=.slice (some ⟨b,o,none⟩) n k:=by
 rcases h.shape with ⟨q,_⟩|⟨b,o,k,e,_⟩
 ·omega
 ·exact ⟨b,o,k,e⟩
theorem eq146 {x y:Operand} {a:Addr} {n k:Nat}:bopA Try.prog .eql 146 x y (.slice (some a) n k) (.slice none 0 0)=some (.bool false):=by
 unfold bopA
 rw [und146]
 rfl
theorem f93 (va:Value) (all:List Sums) (H:AHeap) (hT:Top H) (S:SR H 121 all.length va (all.flatMap eS)) (hp:0 < all.length) (hl:all.length≤20) :
  ∃ v H',C5 (.fn 93) #[va] H v H'∧(∃ b,v=.slice (some ⟨b,0,none⟩) all.length all.length∧H'.get b=.cells (all.flatMap eS) 96 (.gr b 121 true)∧Sole H' b∧H.n≤b∧b < H'.n)∧Fr H.n [] H H':=by
 obtain ⟨b,o,k,rfl⟩:=S.nn hp
 refine Cl.ofW Try.func93 rfl (by kernel_rfl) (by rw [Try.ntmps93];exact Nat.le_of_ble_eq_true rfl) (by kernel_rfl) ?_
 have hEg:True:=trivial
 refine gcW [0] ?_
 intro eg hEn
 simp only [forallC,forallL,and_true] at hEn
 try simp only [↓pb,qbs,tb93,hEg,irN,nrA,nrM,nrE,reduceIte,reduceCtorEq,nrL] at hEn
 replace hEg:=hEn;clear hEn
 repeat' (first|((with_reducible refine hK _ _ fun e2 hEn=>?_);clear hK K;simp only [lv93,forallC,forallL,and_true] at hEn;(try simp only [↓pb,qbs,tb93,hEg,irN,nrA,nrM,nrE,reduceIte,reduceCtorEq,nrL] at hEn);clear hEg;(try clear eg);have hEg:=hEn;clear hEn;rename Env=>eg)|((first|((with_reducible first|apply oV_intro|apply oH_intro|apply oB_intro);(simp (disch:=first|exact dA|fail) only [qcs,tb93,eq146,hEg,irN,nrA,nrM,nrE,reduceIte,reduceCtorEq,nrL];with_reducible exact rfl))|(with_reducible first|refine W_regionF lv93 fun K hK=>?_));try simp only [↓pb,↓pd,qds,tb93,eq146,hEg,irN,nrA,nrM,nrE,reduceIte,reduceCtorEq,nrL])|((with_reducible apply W_cond);(simp only [↓pb,qbs,tb93,eq146,hEg,irN,nrA,nrM,nrE,reduceIte,reduceCtorEq,nrL];with_reducible exact rfl);all_goals (intro hc;(first|exact hcX hc|try simp only [hcs] at hc)))|(with_reducible first|refine W_seq ?_|refine W_skip ?_|refine W_ret ?_)|fail)
 refine oB_appS (s:=121) (e:=96) (n:=0) (m:=all.length) (c:=[]) (new:=all.flatMap eS) (by exact topA) (GS.new rfl) (S.fr0 (N:=H.n) (by exact frA)) (fun hm=>ap146 (GS.new rfl) (S.fr0 (N:=H.n) (by exact frA)) hm (by omega) (by omega)) (fun hm=>by omega) ?_
 rintro v1 G1 gg1 hq1 hJ1 GG1 hg1 hv1 hb1 so1
 obtain ⟨rfl,so2,so3,so4⟩:=so1 hp
 simp only [upd_n,jn_n,nb] at hq1 hg1
 repeat' (first|((with_reducible refine hK _ _ fun e2 hEn=>?_);clear hK K;simp only [lv93,forallC,forallL,and_true] at hEn;(try simp only [↓pb,qbs,tb93,hEg,irN,nrA,nrM,nrE,reduceIte,reduceCtorEq,nrL] at hEn);clear hEg;(try clear eg);have hEg:=hEn;clear hEn;rename Env=>eg)|((first|((with_reducible first|apply oV_intro|apply oH_intro|apply oB_intro);(simp (disch:=first|exact dA|fail) only [qcs,tb93,hEg,irN,nrA,nrM,nrE,reduceIte,reduceCtorEq,nrL];with_reducible exact rfl))|(with_reducible first|refine W_regionF lv93 fun K hK=>?_));try simp only [↓pb,↓pd,qds,tb93,hEg,irN,nrA,nrM,nrE,reduceIte,reduceCtorEq,nrL])|((with_reducible apply W_cond);(simp only [↓pb,qbs,tb93,hEg,irN,nrA,nrM,nrE,reduceIte,reduceCtorEq,nrL];with_reducible exact rfl);all_goals (intro hc;(first|exact hcX hc|try simp only [hcs] at hc)))|(with_reducible first|refine W_seq ?_|refine W_skip ?_|refine W_ret ?_)|fail)
 refine ⟨by first|exact .inl rfl|exact .inr rfl, ?_⟩
 rw [ret1 Try.results93]
 simp only [↓pb,qbs,tb93,rv_tmp,rv_cell,hEg,irN,nrA,nrM,nrE,reduceIte,reduceCtorEq,nrL]
 repeat ((with_reducible apply oV_intro);(simp (disch:=first|exact dA|fail) only [qcs,tb93,hEg,irN,nrA,nrM,nrE,reduceIte,reduceCtorEq,nrL];exact rfl))
 refine ⟨⟨_,rfl,so2,so3,Nat.le_succ _,so4⟩,(by exact frA)⟩
def nf (n:Nat):List Value:=zeros [.nilFunc] n
theorem nf_len (n:Nat):(nf n).length=n * 1:=zeros_len rfl n
theorem apmk114 {H:AHeap} {n:Nat} (h0:0 < n) (hn:n≤1000000):appendOp Try.prog #[114,3] [.slice none 0 0,.int .i64 n] H=some (.slice (some ⟨H.n,0,none⟩) n n,H.upd (H.n + 1) H.n (.cells (nf n) 119 (.gr H.n 1 true))):=by
 unfold appendOp
 simp only [und114,und3,by119,zr119]
 rw [if_pos ⟨by omega,by omega,by omega,rfl⟩,Int.toNat_natCast]
 have:=GS.push (H:=H) (m:=n) (new:=nf n) und114 sz119 by119 zr119 (by kernel_rfl) (by kernel_rfl) (by decide) GS.nul (nf_len n) h0 (by omega) (by omega)
 simp only [Nat.zero_add,List.nil_append,Option.getD_none] at this
 exact this
theorem sole_new {H:AHeap} {c:List Value} {T:TypeId} {e:Nat} (ht:Top H):Sole (H.upd (H.n + 1) H.n (.cells c T (.gr H.n e true))) H.n:=by
 intro b' c' T' e' l' hg
 by_cases q:b'=H.n
 ·exact q
 ·rw [upd_get_ne q] at hg
  have h1:=ht.2 b' _ _ _ _ _ hg
  by_cases q2:H.n≤b'
  ·rw [ht.1 b' q2] at hg
   cases hg
  ·omega
theorem cut0 {H:AHeap} {b n:Nat} (hg:H.get b=.cells (nf n) 119 (.gr b 1 true)):sliceA Try.prog H 114 (.slice (some ⟨b,0,none⟩) n n) none (some (.int .i64 0)) none=some (.slice (some ⟨b,0,none⟩) 0 n):=by
 unfold sliceA
 simp only [und114]
 have hb:bndsA n n none (some (.int .i64 0)) none=some (0,0,n):=by
  unfold bndsA bndO bnd1
  simp
 rw [hb]
 simp [sz119,hg]
theorem cutnil {H:AHeap}:sliceA Try.prog H 114 (.slice none 0 0) none (some (.int .i64 0)) none=some (.slice none 0 0):=by
 unfold sliceA
 simp only [und114]
 have hb:bndsA 0 0 none (some (.int .i64 0)) none=some (0,0,0):=rfl
 rw [hb]
 simp [sz119]
theorem capnil {H:AHeap}:capA Try.prog 114 (.slice none 0 0) H=some (.int .i64 0):=by
 unfold capA
 rw [und114]
 rfl
theorem f94 (n:Nat) (H:AHeap) (hT:Top H) (h0:0 < n) (hn:n≤1000000) :
  ∃ v H',C5 (.fn 94) #[.slice none 0 0,iv n] H v H'∧(v=.slice (some ⟨H.n,0,none⟩) 0 n∧H'.get H.n=.cells (nf n) 119 (.gr H.n 1 true)∧Sole H' H.n∧H.n < H'.n)∧Fr H.n [] H H':=by
 have hw0:IntKind.i64.wrap ((0:Int) - ((0:Nat):Int))=0:=rfl
 have hw1:IntKind.i64.wrap ((n:Int) - 0)=n:=by rw [wrap64 (by omega) (by omega)];omega
 have hpos:(0:Int) < n:=by omega
 have hneg:¬ (n:Int) < 0:=by omega
 refine Cl.ofW Try.func94 rfl (by kernel_rfl) (by rw [Try.ntmps94];exact Nat.le_of_ble_eq_true rfl) (by kernel_rfl) ?_
 have hEg:True:=trivial
 refine gcW [0,1] ?_
 intro eg hEn
 simp only [forallC,forallL,and_true] at hEn
 try simp only [↓pb,qbs,tb94,capnil,hEg,irN,nrA,nrM,nrE,reduceIte,reduceCtorEq,nrL] at hEn
 replace hEg:=hEn;clear hEn
 repeat' (first|((with_reducible refine hK _ _ fun e2 hEn=>?_);clear hK K;simp only [lv94,forallC,forallL,and_true] at hEn;(try simp only [↓pb,qbs,tb94,capnil,hEg,irN,nrA,nrM,nrE,reduceIte,reduceCtorEq,nrL] at hEn);clear hEg;(try clear eg);have hEg:=hEn;clear hEn;rename Env=>eg)|((first|((with_reducible first|apply oV_intro|apply oH_intro|apply oB_intro);(simp (disch:=first|exact dA|fail) only [qcs,tb94,capnil,cutnil,capnil,hw0,hw1,hpos,hneg,Option.map_none,Option.map_some,hEg,irN,nrA,nrM,nrE,reduceIte,reduceCtorEq,nrL];with_reducible exact rfl))|(with_reducible first|refine W_regionF lv94 fun K hK=>?_));try simp only [↓pb,↓pd,qds,tb94,capnil,cutnil,capnil,hw0,hw1,hpos,hneg,Option.map_none,Option.map_some,hEg,irN,nrA,nrM,nrE,reduceIte,reduceCtorEq,nrL])|((with_reducible apply W_cond);(simp only [↓pb,qbs,tb94,capnil,cutnil,capnil,hw0,hw1,hpos,hneg,Option.map_none,Option.map_some,hEg,irN,nrA,nrM,nrE,reduceIte,reduceCtorEq,nrL];with_reducible exact rfl);all_goals (intro hc;(first|exact hcX hc|try simp only [hcs] at hc)))|(with_reducible first|refine W_seq ?_|refine W_skip ?_|refine W_ret ?_)|fail)
 refine oB_intro (apmk114 h0 hn) ?_
 have hcut:sliceA Try.prog (H.upd (H.n + 1) H.n (.cells (nf n) 119 (.gr H.n 1 true))) 114 (.slice (some ⟨H.n,0,none⟩) n n) none (some (.int .i64 ((0:Nat):Int))) none=some (.slice (some ⟨H.n,0,none⟩) 0 n):=cut0 upd_get_same
 repeat' (first|((with_reducible refine hK _ _ fun e2 hEn=>?_);clear hK K;simp only [lv94,forallC,forallL,and_true] at hEn;(try simp only [↓pb,qbs,tb94,capnil,hEg,irN,nrA,nrM,nrE,reduceIte,reduceCtorEq,nrL] at hEn);clear hEg;(try clear eg);have hEg:=hEn;clear hEn;rename Env=>eg)|((first|((with_reducible first|apply oV_intro|apply oH_intro|apply oB_intro);(simp (disch:=first|exact dA|fail) only [qcs,tb94,capnil,hcut,Option.map_none,Option.map_some,hEg,irN,nrA,nrM,nrE,reduceIte,reduceCtorEq,nrL];with_reducible exact rfl))|(with_reducible first|refine W_regionF lv94 fun K hK=>?_));try simp only [↓pb,↓pd,qds,tb94,capnil,hcut,Option.map_none,Option.map_some,hEg,irN,nrA,nrM,nrE,reduceIte,reduceCtorEq,nrL])|((with_reducible apply W_cond);(simp only [↓pb,qbs,tb94,capnil,hcut,Option.map_none,Option.map_some,hEg,irN,nrA,nrM,nrE,reduceIte,reduceCtorEq,nrL];with_reducible exact rfl);all_goals (intro hc;(first|exact hcX hc|try simp only [hcs] at hc)))|(with_reducible first|refine W_seq ?_|refine W_skip ?_|refine W_ret ?_)|fail)
 refine ⟨by first|exact .inl rfl|exact .inr rfl, ?_⟩
 rw [ret1 Try.results94]
 simp only [↓pb,qbs,tb94,capnil,rv_tmp,rv_cell,hEg,irN,nrA,nrM,nrE,reduceIte,reduceCtorEq,nrL]
 repeat ((with_reducible apply oV_intro);(simp (disch:=first|exact dA|fail) only [qcs,tb94,capnil,hEg,irN,nrA,nrM,nrE,reduceIte,reduceCtorEq,nrL];exact rfl))
 exact ⟨⟨sole_new hT,Nat.lt_succ_self _⟩,(by exact frA)⟩
theorem cut_sole {H:AHeap} {b:Nat} {z:List Value} {T:TypeId} {e:Nat} (hg:H.get b=.cells z T (.gr b e true)) (so:Sole H b) (hz:0 < z.length):H.cut b 0=H.upd H.n b (.cells z T (.gr b e false)):=by
 unfold AHeap.cut AHeap.upd
 congr 1
 funext c
 by_cases q:c=b
 ·subst q
  rw [if_neg (Nat.lt_irrefl _),if_pos rfl,hg]
  show (if _ then _ else _)=_
  rw [if_pos ⟨rfl,hz⟩]
 ·rw [if_neg q]
  split
  ·rfl
  ·cases hh:H.get c with
   | cells d T' k =>
    cases k with
    | gr g' e' l =>
     show (if _ then _ else _)=_
     rw [if_neg]
     rintro ⟨rfl,_⟩
     exact q (so _ _ _ _ _ hh)
    | ex=>rfl
    | ro=>rfl
   | _=>rfl
theorem grown114 {H:AHeap} {b k m:Nat} {x:Value} {new z:List Value} (hg:H.get b=.cells z 119 (.gr b 1 true)) (so:Sole H b) (hz:0 < z.length) (S:SR H 1 m x new) (hm:0 < m) (hb:m≤1000000) :
  appendOp Try.prog #[114,114] [.slice (some ⟨b,0,none⟩) 0 k,x] H=some (.slice (some ⟨H.n,0,none⟩) m m,(H.upd H.n b (.cells z 119 (.gr b 1 false))).upd (H.n + 1) H.n (.cells new 119 (.gr b 1 true))):=by
 rw [appendOp_of und114 und114 sz119 S]
 unfold appendA
 simp only [und114,sz119,by119,zr119]
 rw [if_pos ⟨by kernel_rfl,by kernel_rfl,by decide,S.len⟩]
 have hm0:m≠0:=by omega
 simp only [hm0,false_and,if_false,ne_eq,not_true_eq_false,hg]
 rw [if_pos ⟨rfl,by omega,by omega,by omega⟩]
 simp only [and_self,if_true,Nat.zero_mul,List.take_zero,List.nil_append,Nat.zero_add]
 rw [cut_sole hg so hz]
 rfl
def LFro (H:AHeap) (g p:Nat):Prop:=∀ b c T e,H.get b=.cells c T (.gr g e true)→c.length≤p
theorem LFro.cut {H:AHeap} {g p:Nat} (h:LFro H g p):H.cut g p=H:=by
 unfold AHeap.cut
 show (⟨H.n,_⟩:AHeap)=⟨H.n,H.get⟩
 congr 1
 funext c
 split
 ·rfl
 ·cases hh:H.get c with
  | cells d T' k =>
   cases k with
   | gr g' e' l =>
    show (if _ then _ else _)=_
    split
    ·rename_i q
     cases l with
     | false=>rfl
     | true =>
      have:=h c d T' e' (q.1 ▸ hh)
      omega
    ·rfl
   | ex=>rfl
   | ro=>rfl
  | _=>rfl
theorem app_live {H:AHeap} {b0 B n m:Nat} {x:Value} {c new:List Value} (hg:H.get B=.cells c 119 (.gr b0 1 true)) (hl:c.length=n) (lf:LFro H b0 n) (S:SR H 1 m x new) (hm:0 < m) (hb:n + m≤1000000) :
  appendOp Try.prog #[114,114] [.slice (some ⟨B,0,none⟩) n n,x] H=some (.slice (some ⟨H.n,0,none⟩) (n + m) (n + m),H.upd (H.n + 1) H.n (.cells (c ++ new) 119 (.gr b0 1 true))):=by
 rw [appendOp_of und114 und114 sz119 S]
 unfold appendA
 simp only [und114,sz119,by119,zr119]
 rw [if_pos ⟨by kernel_rfl,by kernel_rfl,by decide,S.len⟩]
 have hm0:m≠0:=by omega
 simp only [hm0,false_and,if_false,ne_eq,not_true_eq_false,hg]
 rw [if_pos ⟨rfl,by omega,by omega,by omega⟩]
 simp only [and_self,if_true,Nat.mul_one]
 rw [lf.cut,← hl,List.take_length]
 rfl
theorem app_live0 {H:AHeap} {B n:Nat} {x:Value} {new:List Value} (S:SR H 1 0 x new):appendOp Try.prog #[114,114] [.slice (some ⟨B,0,none⟩) n n,x] H=some (.slice (some ⟨B,0,none⟩) n n,H):=by
 rw [appendOp_of und114 und114 sz119 S]
 unfold appendA
 simp only [und114,sz119,by119,zr119]
 rw [if_pos ⟨by kernel_rfl,by kernel_rfl,by decide,S.len⟩]
 simp
theorem SR.wholeR {H:AHeap} {s n b:Nat} {c:List Value} (hb:b < H.n) (hg:H.rd b=some c) (hl:c.length=n * s):SR H s n (.slice (some ⟨b,0,none⟩) n n) c:=by
 refine ⟨.inr ⟨_,_,_,rfl,Nat.le_refl _⟩,hl,.inr ⟨c,hg, ?_, ?_⟩,.inr hb⟩
 ·show 0 + n * s≤c.length
  omega
 ·show (c.drop 0).take (n * s)=c
  rw [List.drop_zero,List.take_of_length_le (by omega)]
set_option maxHeartbeats 2000000 in
theorem f73 (b:Nat) (v1 v2:Value) (rs ss:List Rul) (g1 g2:Option Nat) (N1 N2:Nat) (H:AHeap) (hT:Top H) (hb:b < H.n) (hg:H.get b=.cells [v1,v2] 114 .ex) (R1:RS H N1 v1 rs g1) (R2:RS H N2 v2 ss g2) (h0:0 < rs.length) (hl:rs.length + ss.length≤1000000) :
  ∃ v H',C5 (.fn 73) #[.slice (some ⟨b,0,none⟩) 2 2] H v H'∧(∃ vs,SR H' 1 (rs ++ ss).length v vs∧RulesV H' [] vs (rs ++ ss)∧H.n≤vblk v)∧Fr H.n [] H H':=by
 obtain ⟨vi,hvi⟩:∃ vi:Nat→Value,vi=fun i=>if i=0 then v1 else v2:=⟨_,rfl⟩
 obtain ⟨li,hli⟩:∃ li:Nat→List Rul,li=fun i=>if i=0 then rs else ss:=⟨_,rfl⟩
 obtain ⟨sm,hsm⟩:∃ sm:Nat→Nat,sm=fun i=>if i=0 then 0 else if i=1 then rs.length else rs.length + ss.length:=⟨_,rfl⟩
 have hs0:sm 0=0:=by subst hsm;rfl
 have hs2:sm 2=rs.length + ss.length:=by subst hsm;rfl
 have hss:∀ i,i < 2→sm (i + 1)=sm i + (li i).length:=fun i hi=>by
  subst hsm hli
  rcases (by omega:i=0∨i=1) with rfl|rfl
  ·show rs.length=0 + rs.length
   omega
  ·rfl
 have hRv:∀ i,i < 2→∃ vs,∀ h,Fr H.n [] H h→SR h 1 (li i).length (vi i) vs∧RulesV h [] vs (li i):=fun i hi=>by
  subst hvi hli
  rcases (by omega:i=0∨i=1) with rfl|rfl
  ·obtain ⟨vs,a1,a2,a3⟩:=R1
   exact ⟨vs,fun h F=>⟨a1.sr.fr0 F,a3.fr F (by simp)⟩⟩
  ·obtain ⟨vs,a1,a2,a3⟩:=R2
   exact ⟨vs,fun h F=>⟨a1.sr.fr0 F,a3.fr F (by simp)⟩⟩
 have S0:SR H 1 2 (.slice (some ⟨b,0,none⟩) 2 2) [v1,v2]:=SR.whole hb hg rfl
 have hat:∀ i,i < 2→([v1,v2]:List Value)[i]? = some (vi i):=fun i hi=>by
  subst hvi
  rcases (by omega:i=0∨i=1) with rfl|rfl <;> rfl
 have hsb:∀ i,i≤2→sm i≤rs.length + ss.length:=fun i hi=>by
  subst hsm
  rcases (by omega:i=0∨i=1∨i=2) with rfl|rfl|rfl
  ·show 0≤_
   omega
  ·show rs.length≤_
   omega
  ·exact Nat.le_refl _
 have hvb:vblk (.slice (some ⟨b,0,none⟩) 2 2)=b:=rfl
 have hvo:voff (.slice (some ⟨b,0,none⟩) 2 2)=0:=rfl
 refine Cl.ofW Try.func73 rfl (by kernel_rfl) (by rw [Try.ntmps73];exact Nat.le_of_ble_eq_true rfl) (by kernel_rfl) ?_
 have hEg:True:=trivial
 refine gcW [0] ?_
 intro eg hEn
 simp only [forallC,forallL,and_true] at hEn
 try simp only [↓pb,qbs,tb73,lns150 S0,hEg,irN,nrA,nrM,nrE,reduceIte,reduceCtorEq,nrL] at hEn
 replace hEg:=hEn;clear hEn
 repeat' (first|((with_reducible refine hK _ _ fun e2 hEn=>?_);clear hK K;simp only [lv73,forallC,forallL,and_true] at hEn;(try simp only [↓pb,qbs,tb73,lns150 S0,hEg,irN,nrA,nrM,nrE,reduceIte,reduceCtorEq,nrL] at hEn);clear hEg;(try clear eg);have hEg:=hEn;clear hEn;rename Env=>eg)|((first|((with_reducible first|apply oV_intro|apply oH_intro|apply oB_intro);(simp (disch:=first|exact dA|fail) only [qcs,tb73,lns150 S0,hEg,irN,nrA,nrM,nrE,reduceIte,reduceCtorEq,nrL];with_reducible exact rfl))|(with_reducible first|refine W_regionF lv73 fun K hK=>?_));try simp only [↓pb,↓pd,qds,tb73,lns150 S0,hEg,irN,nrA,nrM,nrE,reduceIte,reduceCtorEq,nrL])|((with_reducible apply W_cond);(simp only [↓pb,qbs,tb73,lns150 S0,hEg,irN,nrA,nrM,nrE,reduceIte,reduceCtorEq,nrL];with_reducible exact rfl);all_goals (intro hc;(first|exact hcX hc|try simp only [hcs] at hc)))|(with_reducible first|refine W_seq ?_|refine W_block ?_|refine W_skip ?_|refine W_ret ?_|refine W_exit ?_|apply blockK_exit)|((with_reducible apply blockK_pass);(focus decide))|fail)
 refine W_count [0,9,10] (by kernel_rfl) 11 (2) (H.n) [] [] (fun i e h=>e 3=iv (sm i)) (by simp only [↓pb,qbs,tb73,lns150 S0,hEg,irN,nrA,nrM,nrE,reduceIte,reduceCtorEq,nrL]) (by focus exact topA) (H0:=H) (by focus exact frA) (by intro b hb hlt;simp at hb ⊢;try omega) ?_ ?_
 rotate_left
 intro i1 e1 h1 hi1 hE1 ei1 hF1 hF01 hTh1 hJ1
 simp only [forallC,forallL,and_true] at hE1
 try simp only [↓pb,qbs,tb73,lns150 S0,hEg,irN,nrA,nrM,nrE,reduceIte,reduceCtorEq,nrL] at hE1
 have hn11:=hF1.n;have hn01:=hF01.n;try simp only [upd_n,jn_n] at hn11
 replace hEg:=And.intro ei1 hE1
 rotate_left
 ·simp only [↓pb,qbs,tb73,lns150 S0,hEg,irN,nrA,nrM,nrE,reduceIte,reduceCtorEq,nrL]
  rw [hs0]
  rfl
 by_cases hi2:i1 < 2
 ·have S1:=S0.fr0 hF1
  have hrd:h1.rd b=some [v1,v2]:=by rw [hF1.rd hb (by simp),rd_def,hg];rfl
  obtain ⟨vs,TT⟩:=hRv i1 hi2
  have T1:=(TT h1 hF01).1
  have hwr:IntKind.i64.wrap ((sm i1:Int) + ((li i1).length:Int))=((sm (i1 + 1):Nat):Int):=by
   have q1:=hss i1 hi2
   have q2:=hsb (i1 + 1) (by omega)
   rw [wrap64 (by omega) (by omega)]
   omega
  have hneg:¬ ((sm (i1 + 1):Nat):Int) < 0:=by omega
  repeat' (first|((with_reducible refine hK _ _ fun e2 hEn=>?_);clear hK K;simp only [lv73,forallC,forallL,and_true] at hEn;(try simp only [↓pb,qbs,tb73,lns150 S0,hEg,irN,nrA,nrM,nrE,reduceIte,reduceCtorEq,nrL] at hEn);clear hEg;(try clear eg);have hEg:=hEn;clear hEn;rename Env=>eg)|((first|((with_reducible first|apply oV_intro|apply oH_intro|apply oB_intro);(simp (disch:=first|exact dA|fail) only [qcs,tb73,lns150 S0,hJ1,ias150 S1,hrd,hat i1 hi2,lns114 T1,hwr,Nat.mul_one,hvb,hvo,hneg,hEg,irN,nrA,nrM,nrE,reduceIte,reduceCtorEq,nrL];with_reducible exact rfl))|(with_reducible first|refine W_regionF lv73 fun K hK=>?_));try simp only [↓pb,↓pd,qds,tb73,lns150 S0,hJ1,ias150 S1,hrd,hat i1 hi2,lns114 T1,hwr,Nat.mul_one,hvb,hvo,hneg,hEg,irN,nrA,nrM,nrE,reduceIte,reduceCtorEq,nrL])|((with_reducible apply W_cond);(simp only [↓pb,qbs,tb73,lns150 S0,hJ1,ias150 S1,hrd,hat i1 hi2,lns114 T1,hwr,Nat.mul_one,hvb,hvo,hneg,hEg,irN,nrA,nrM,nrE,reduceIte,reduceCtorEq,nrL];with_reducible exact rfl);all_goals (intro hc;(first|exact hcX hc|try simp only [hcs] at hc)))|(with_reducible first|refine W_seq ?_|refine W_block ?_|refine W_skip ?_|refine W_ret ?_|refine W_exit ?_|apply blockK_exit)|((with_reducible apply blockK_pass);(focus decide))|fail)
  refine ⟨by omega,by simp only [↓pb,qbs,tb73,lns150 S0,hEg,irN,nrA,nrM,nrE,reduceIte,reduceCtorEq,nrL];exact congrArg _ (inc64 (by omega)),by focus exact frA, ?_⟩
  simp only [hEg]
 ·have e1n:i1=2:=by omega
  subst e1n
  rw [hs2] at hJ1
  have S1:=S0.fr0 hF1
  repeat' (first|((with_reducible refine hK _ _ fun e2 hEn=>?_);clear hK K;simp only [lv73,forallC,forallL,and_true] at hEn;(try simp only [↓pb,qbs,tb73,lns150 S0,hEg,irN,nrA,nrM,nrE,reduceIte,reduceCtorEq,nrL] at hEn);clear hEg;(try clear eg);have hEg:=hEn;clear hEn;rename Env=>eg)|((first|((with_reducible first|apply oV_intro|apply oH_intro|apply oB_intro);(simp (disch:=first|exact dA|fail) only [qcs,tb73,lns150 S0,hJ1,lns150 S1,hEg,irN,nrA,nrM,nrE,reduceIte,reduceCtorEq,nrL];with_reducible exact rfl))|((with_reducible apply WO_callF);(focus exact topA);(simp only [↓pb,qbs,tb73,lns150 S0,hJ1,lns150 S1,hEg,irN,nrA,nrM,nrE,reduceIte,reduceCtorEq,nrL];exact f94 _ _ (by exact topA) (by omega) (by omega));(rintro vq Gq hq hJq ⟨rfl,q1,q2,q3⟩;try simp only [upd_n,jn_n] at hq))|(with_reducible first|refine W_regionF lv73 fun K hK=>?_));try simp only [↓pb,↓pd,qds,tb73,lns150 S0,hJ1,lns150 S1,hEg,irN,nrA,nrM,nrE,reduceIte,reduceCtorEq,nrL])|((with_reducible apply W_cond);(simp only [↓pb,qbs,tb73,lns150 S0,hJ1,lns150 S1,hEg,irN,nrA,nrM,nrE,reduceIte,reduceCtorEq,nrL];with_reducible exact rfl);all_goals (intro hc;(first|exact hcX hc|try simp only [hcs] at hc)))|(with_reducible first|refine W_seq ?_|refine W_block ?_|refine W_skip ?_|refine W_ret ?_|refine W_exit ?_|apply blockK_exit)|((with_reducible apply blockK_pass);(focus decide))|fail)
  obtain ⟨GB,hGB⟩:∃ GB,GB=h1.n:=⟨_,rfl⟩
  rw [← hGB] at q1 q2 q3 hEg
  repeat' (first|((with_reducible refine hK _ _ fun e2 hEn=>?_);clear hK K;simp only [lv73,forallC,forallL,and_true] at hEn;(try simp only [↓pb,qbs,tb73,lns150 S0,hEg,irN,nrA,nrM,nrE,reduceIte,reduceCtorEq,nrL] at hEn);clear hEg;(try clear eg);have hEg:=hEn;clear hEn;rename Env=>eg)|((first|((with_reducible first|apply oV_intro|apply oH_intro|apply oB_intro);(simp (disch:=first|exact dA|fail) only [qcs,tb73,lns150 S0,lns150 S1,hEg,irN,nrA,nrM,nrE,reduceIte,reduceCtorEq,nrL];with_reducible exact rfl))|(with_reducible first|refine W_regionF lv73 fun K hK=>?_));try simp only [↓pb,↓pd,qds,tb73,lns150 S0,lns150 S1,hEg,irN,nrA,nrM,nrE,reduceIte,reduceCtorEq,nrL])|((with_reducible apply W_cond);(simp only [↓pb,qbs,tb73,lns150 S0,lns150 S1,hEg,irN,nrA,nrM,nrE,reduceIte,reduceCtorEq,nrL];with_reducible exact rfl);all_goals (intro hc;(first|exact hcX hc|try simp only [hcs] at hc)))|(with_reducible first|refine W_seq ?_|refine W_block ?_|refine W_skip ?_|refine W_ret ?_|refine W_exit ?_|apply blockK_exit)|((with_reducible apply blockK_pass);(focus decide))|fail)
  refine W_count [25,26] (by kernel_rfl) 27 (2) (H.n) [GB] [] (fun i e h=>(i=0→e 6=.slice (some ⟨GB,0,none⟩) 0 (rs.length + ss.length)∧h.get GB=.cells (nf (rs.length + ss.length)) 119 (.gr GB 1 true)∧Sole h GB)∧(i=1→∃ c B1,e 6=.slice (some ⟨B1,0,none⟩) rs.length rs.length∧h.get B1=.cells c 119 (.gr GB 1 true)∧c.length=rs.length∧LFro h GB rs.length∧RulesV h [] c rs∧H.n≤B1∧B1 < h.n)∧(i=2→∃ c v,e 6=v∧SR h 1 (rs ++ ss).length v c∧RulesV h [] c (rs ++ ss)∧H.n≤vblk v)) (by simp only [↓pb,qbs,tb73,lns150 S0,hEg,irN,nrA,nrM,nrE,reduceIte,reduceCtorEq,nrL]) (by focus exact topA) (H0:=H) (by focus exact frA) (by intro b hb hlt;simp at hb ⊢;try omega) ?_ ?_
  rotate_left
  intro i2 e2 h2 hi2 hE2 ei2 hF2 hF02 hTh2 hJ2
  simp only [forallC,forallL,and_true] at hE2
  try simp only [↓pb,qbs,tb73,lns150 S0,hEg,irN,nrA,nrM,nrE,reduceIte,reduceCtorEq,nrL] at hE2
  have hn12:=hF2.n;have hn02:=hF02.n;try simp only [upd_n,jn_n] at hn12
  replace hEg:=And.intro ei2 hE2
  rotate_left
  ·exact ⟨fun _=>⟨by simp only [↓pb,qbs,tb73,lns150 S0,hEg,irN,nrA,nrM,nrE,reduceIte,reduceCtorEq,nrL],q1,q2⟩,fun q=>by omega,fun q=>by omega⟩
  have hGl:GB < h2.n:=Nat.lt_of_lt_of_le q3 hF2.n
  have hGH:H.n≤GB:=by omega
  have S2:=S0.fr0 hF02
  have hrd2:h2.rd b=some [v1,v2]:=by rw [hF02.rd hb (by simp),rd_def,hg];rfl
  by_cases hz:i2=0
  ·obtain ⟨e6,k1,so⟩:=hJ2.1 hz
   obtain ⟨vs,TT⟩:=hRv i2 (by omega)
   have hl2:li i2=rs:=by rw [hli,hz];rfl
   rw [hl2] at TT
   have T1:=(TT h2 hF02).1
   repeat' (first|((with_reducible refine hK _ _ fun e2 hEn=>?_);clear hK K;simp only [lv73,forallC,forallL,and_true] at hEn;(try simp only [↓pb,qbs,tb73,lns150 S0,hEg,irN,nrA,nrM,nrE,reduceIte,reduceCtorEq,nrL] at hEn);clear hEg;(try clear eg);have hEg:=hEn;clear hEn;rename Env=>eg)|((first|((with_reducible first|apply oV_intro|apply oH_intro|apply oB_intro);(simp (disch:=first|exact dA|fail) only [qcs,tb73,lns150 S0,e6,ias150 S2,hrd2,hat i2 (by omega),hvb,hvo,Nat.mul_one,hEg,irN,nrA,nrM,nrE,reduceIte,reduceCtorEq,nrL];with_reducible exact rfl))|(with_reducible first|refine W_regionF lv73 fun K hK=>?_));try simp only [↓pb,↓pd,qds,tb73,lns150 S0,e6,ias150 S2,hrd2,hat i2 (by omega),hvb,hvo,Nat.mul_one,hEg,irN,nrA,nrM,nrE,reduceIte,reduceCtorEq,nrL])|((with_reducible apply W_cond);(simp only [↓pb,qbs,tb73,lns150 S0,e6,ias150 S2,hrd2,hat i2 (by omega),hvb,hvo,Nat.mul_one,hEg,irN,nrA,nrM,nrE,reduceIte,reduceCtorEq,nrL];with_reducible exact rfl);all_goals (intro hc;(first|exact hcX hc|try simp only [hcs] at hc)))|(with_reducible first|refine W_seq ?_|refine W_block ?_|refine W_skip ?_|refine W_ret ?_|refine W_exit ?_|apply blockK_exit)|((with_reducible apply blockK_pass);(focus decide))|fail)
   refine oB_intro (grown114 k1 so (by rw [nf_len];omega) T1 h0 (by omega)) ?_
   have F3:Fr H.n [] H ((h2.upd h2.n GB (.cells (nf (rs.length + ss.length)) 119 (.gr GB 1 false))).upd (h2.n + 1) h2.n (.cells vs 119 (.gr GB 1 true))):=by exact frA
   repeat' (first|((with_reducible refine hK _ _ fun e2 hEn=>?_);clear hK K;simp only [lv73,forallC,forallL,and_true] at hEn;(try simp only [↓pb,qbs,tb73,lns150 S0,hEg,irN,nrA,nrM,nrE,reduceIte,reduceCtorEq,nrL] at hEn);clear hEg;(try clear eg);have hEg:=hEn;clear hEn;rename Env=>eg)|((first|((with_reducible first|apply oV_intro|apply oH_intro|apply oB_intro);(simp (disch:=first|exact dA|fail) only [qcs,tb73,lns150 S0,hEg,irN,nrA,nrM,nrE,reduceIte,reduceCtorEq,nrL];with_reducible exact rfl))|(with_reducible first|refine W_regionF lv73 fun K hK=>?_));try simp only [↓pb,↓pd,qds,tb73,lns150 S0,hEg,irN,nrA,nrM,nrE,reduceIte,reduceCtorEq,nrL])|((with_reducible apply W_cond);(simp only [↓pb,qbs,tb73,lns150 S0,hEg,irN,nrA,nrM,nrE,reduceIte,reduceCtorEq,nrL];with_reducible exact rfl);all_goals (intro hc;(first|exact hcX hc|try simp only [hcs] at hc)))|(with_reducible first|refine W_seq ?_|refine W_block ?_|refine W_skip ?_|refine W_ret ?_|refine W_exit ?_|apply blockK_exit)|((with_reducible apply blockK_pass);(focus decide))|fail)
   refine ⟨by omega,by simp only [↓pb,qbs,tb73,lns150 S0,hEg,irN,nrA,nrM,nrE,reduceIte,reduceCtorEq,nrL];exact congrArg _ (inc64 (by omega)),by focus exact frA, ?_⟩
   refine ⟨fun q=>by omega,fun _=>⟨vs,h2.n,by simp only [hEg],upd_get_same,by have:=T1.len;omega, ?_,(TT _ F3).2,by omega,Nat.lt_succ_self _⟩,fun q=>by omega⟩
   intro b' c T e hg'
   have hlv:=T1.len
   by_cases q:b'=h2.n
   ·subst q
    rw [upd_get_same] at hg'
    cases hg'
    omega
   ·rw [upd_get_ne q] at hg'
    by_cases q2:b'=GB
    ·subst q2
     rw [upd_get_same] at hg'
     cases hg'
    ·rw [upd_get_ne q2] at hg'
     exact absurd (so _ _ _ _ _ hg') q2
  by_cases hz1:i2=1
  ·obtain ⟨c,B1,e6,k1,k2,lf,RV,hB1,hB2⟩:=hJ2.2.1 hz1
   obtain ⟨vs,TT⟩:=hRv i2 (by omega)
   have hl2:li i2=ss:=by rw [hli,hz1];rfl
   rw [hl2] at TT
   have T1:=(TT h2 hF02).1
   repeat' (first|((with_reducible refine hK _ _ fun e2 hEn=>?_);clear hK K;simp only [lv73,forallC,forallL,and_true] at hEn;(try simp only [↓pb,qbs,tb73,lns150 S0,hEg,irN,nrA,nrM,nrE,reduceIte,reduceCtorEq,nrL] at hEn);clear hEg;(try clear eg);have hEg:=hEn;clear hEn;rename Env=>eg)|((first|((with_reducible first|apply oV_intro|apply oH_intro|apply oB_intro);(simp (disch:=first|exact dA|fail) only [qcs,tb73,lns150 S0,e6,ias150 S2,hrd2,hat i2 (by omega),hvb,hvo,Nat.mul_one,hEg,irN,nrA,nrM,nrE,reduceIte,reduceCtorEq,nrL];with_reducible exact rfl))|(with_reducible first|refine W_regionF lv73 fun K hK=>?_));try simp only [↓pb,↓pd,qds,tb73,lns150 S0,e6,ias150 S2,hrd2,hat i2 (by omega),hvb,hvo,Nat.mul_one,hEg,irN,nrA,nrM,nrE,reduceIte,reduceCtorEq,nrL])|((with_reducible apply W_cond);(simp only [↓pb,qbs,tb73,lns150 S0,e6,ias150 S2,hrd2,hat i2 (by omega),hvb,hvo,Nat.mul_one,hEg,irN,nrA,nrM,nrE,reduceIte,reduceCtorEq,nrL];with_reducible exact rfl);all_goals (intro hc;(first|exact hcX hc|try simp only [hcs] at hc)))|(with_reducible first|refine W_seq ?_|refine W_block ?_|refine W_skip ?_|refine W_ret ?_|refine W_exit ?_|apply blockK_exit)|((with_reducible apply blockK_pass);(focus decide))|fail)
   by_cases hm:ss.length=0
   ·refine oB_intro (app_live0 (by rw [← hm];exact T1)) ?_
    repeat' (first|((with_reducible refine hK _ _ fun e2 hEn=>?_);clear hK K;simp only [lv73,forallC,forallL,and_true] at hEn;(try simp only [↓pb,qbs,tb73,lns150 S0,hEg,irN,nrA,nrM,nrE,reduceIte,reduceCtorEq,nrL] at hEn);clear hEg;(try clear eg);have hEg:=hEn;clear hEn;rename Env=>eg)|((first|((with_reducible first|apply oV_intro|apply oH_intro|apply oB_intro);(simp (disch:=first|exact dA|fail) only [qcs,tb73,lns150 S0,hEg,irN,nrA,nrM,nrE,reduceIte,reduceCtorEq,nrL];with_reducible exact rfl))|(with_reducible first|refine W_regionF lv73 fun K hK=>?_));try simp only [↓pb,↓pd,qds,tb73,lns150 S0,hEg,irN,nrA,nrM,nrE,reduceIte,reduceCtorEq,nrL])|((with_reducible apply W_cond);(simp only [↓pb,qbs,tb73,lns150 S0,hEg,irN,nrA,nrM,nrE,reduceIte,reduceCtorEq,nrL];with_reducible exact rfl);all_goals (intro hc;(first|exact hcX hc|try simp only [hcs] at hc)))|(with_reducible first|refine W_seq ?_|refine W_block ?_|refine W_skip ?_|refine W_ret ?_|refine W_exit ?_|apply blockK_exit)|((with_reducible apply blockK_pass);(focus decide))|fail)
    refine ⟨by omega,by simp only [↓pb,qbs,tb73,lns150 S0,hEg,irN,nrA,nrM,nrE,reduceIte,reduceCtorEq,nrL];exact congrArg _ (inc64 (by omega)),by focus exact frA, ?_⟩
    have hs0:ss=[]:=List.eq_nil_of_length_eq_zero hm
    refine ⟨fun q=>by omega,fun q=>by omega,fun _=>⟨c,.slice (some ⟨B1,0,none⟩) rs.length rs.length,by simp only [hEg,e6], ?_, ?_,hB1⟩⟩
    ·rw [hs0,List.append_nil]
     exact SR.wholeR hB2 (by rw [rd_def,k1];rfl) (by omega)
    ·rw [hs0,List.append_nil]
     exact RV
   ·refine oB_intro (app_live k1 k2 lf T1 (by omega) (by omega)) ?_
    have F3:Fr H.n [] H (h2.upd (h2.n + 1) h2.n (.cells (c ++ vs) 119 (.gr GB 1 true))):=by exact frA
    have F4:Fr H.n [] h2 (h2.upd (h2.n + 1) h2.n (.cells (c ++ vs) 119 (.gr GB 1 true))):=by exact frA
    repeat' (first|((with_reducible refine hK _ _ fun e2 hEn=>?_);clear hK K;simp only [lv73,forallC,forallL,and_true] at hEn;(try simp only [↓pb,qbs,tb73,lns150 S0,hEg,irN,nrA,nrM,nrE,reduceIte,reduceCtorEq,nrL] at hEn);clear hEg;(try clear eg);have hEg:=hEn;clear hEn;rename Env=>eg)|((first|((with_reducible first|apply oV_intro|apply oH_intro|apply oB_intro);(simp (disch:=first|exact dA|fail) only [qcs,tb73,lns150 S0,hEg,irN,nrA,nrM,nrE,reduceIte,reduceCtorEq,nrL];with_reducible exact rfl))|(with_reducible first|refine W_regionF lv73 fun K hK=>?_));try simp only [↓pb,↓pd,qds,tb73,lns150 S0,hEg,irN,nrA,nrM,nrE,reduceIte,reduceCtorEq,nrL])|((with_reducible apply W_cond);(simp only [↓pb,qbs,tb73,lns150 S0,hEg,irN,nrA,nrM,nrE,reduceIte,reduceCtorEq,nrL];with_reducible exact rfl);all_goals (intro hc;(first|exact hcX hc|try simp only [hcs] at hc)))|(with_reducible first|refine W_seq ?_|refine W_block ?_|refine W_skip ?_|refine W_ret ?_|refine W_exit ?_|apply blockK_exit)|((with_reducible apply blockK_pass);(focus decide))|fail)
    refine ⟨by omega,by simp only [↓pb,qbs,tb73,lns150 S0,hEg,irN,nrA,nrM,nrE,reduceIte,reduceCtorEq,nrL];exact congrArg _ (inc64 (by omega)),by focus exact frA, ?_⟩
    refine ⟨fun q=>by omega,fun q=>by omega,fun _=>⟨c ++ vs,.slice (some ⟨h2.n,0,none⟩) (rs.length + ss.length) (rs.length + ss.length),by simp only [hEg,e6], ?_, ?_,by show H.n≤h2.n;omega⟩⟩
    ·rw [List.length_append]
     exact SR.wholeR (Nat.lt_succ_self _) (by rw [rd_def,upd_get_same];rfl) (by have:=T1.len;rw [List.length_append];omega)
    ·exact (RV.fr F4 (by simp)).app (TT _ F3).2
  ·have e2n:i2=2:=by omega
   obtain ⟨c,v,e6,k1,k2,k3⟩:=hJ2.2.2 e2n
   subst e2n
   have o1:=k1.one
   repeat' (first|((with_reducible refine hK _ _ fun e2 hEn=>?_);clear hK K;simp only [lv73,forallC,forallL,and_true] at hEn;(try simp only [↓pb,qbs,tb73,lns150 S0,hEg,irN,nrA,nrM,nrE,reduceIte,reduceCtorEq,nrL] at hEn);clear hEg;(try clear eg);have hEg:=hEn;clear hEn;rename Env=>eg)|((first|((with_reducible first|apply oV_intro|apply oH_intro|apply oB_intro);(simp (disch:=first|exact dA|fail) only [qcs,tb73,lns150 S0,e6,o1,hEg,irN,nrA,nrM,nrE,reduceIte,reduceCtorEq,nrL];with_reducible exact rfl))|(with_reducible first|refine W_regionF lv73 fun K hK=>?_));try simp only [↓pb,↓pd,qds,tb73,lns150 S0,e6,o1,hEg,irN,nrA,nrM,nrE,reduceIte,reduceCtorEq,nrL])|((with_reducible apply W_cond);(simp only [↓pb,qbs,tb73,lns150 S0,e6,o1,hEg,irN,nrA,nrM,nrE,reduceIte,reduceCtorEq,nrL];with_reducible exact rfl);all_goals (intro hc;(first|exact hcX hc|try simp only [hcs] at hc)))|(with_reducible first|refine W_seq ?_|refine W_block ?_|refine W_skip ?_|refine W_ret ?_|refine W_exit ?_|apply blockK_exit)|((with_reducible apply blockK_pass);(focus decide))|fail)
   refine ⟨by first|exact .inl rfl|exact .inr rfl, ?_⟩
   rw [ret1 Try.results73]
   simp only [↓pb,qbs,tb73,lns150 S0,rv_tmp,rv_cell,hEg,irN,nrA,nrM,nrE,reduceIte,reduceCtorEq,nrL]
   repeat ((with_reducible apply oV_intro);(simp (disch:=first|exact dA|fail) only [qcs,tb73,lns150 S0,hEg,irN,nrA,nrM,nrE,reduceIte,reduceCtorEq,nrL];exact rfl))
   exact ⟨⟨c,k1,k2,k3⟩,(by exact frA)⟩
theorem splice_at {α:Type} {enc:α→List Value} {s:Nat} (hs:∀ a,(enc a).length=s):∀ (l:List α) (i:Nat) (x:α),i < l.length→splice (l.flatMap enc) (i * s) (enc x)=(l.set i x).flatMap enc
 | [],i,x,h=>by simp at h
 | a :: l,0,x,h=>by
  rw [Nat.zero_mul]
  show splice (enc a ++ l.flatMap enc) 0 (enc x)=enc x ++ l.flatMap enc
  unfold splice
  rw [List.take_zero,List.nil_append,Nat.zero_add,List.drop_left' (by rw [hs,hs])]
 | a :: l,i + 1,x,h=>by
  have ih:=splice_at hs l i x (by simpa using h)
  rw [List.flatMap_cons,show (i + 1) * s=(enc a).length + i * s by rw [hs,Nat.add_mul,Nat.one_mul,Nat.add_comm],splice_off,ih]
  rfl
theorem eS_mat (s:Sums) {a b:Nat} (ha:a < 11) (hb:b < 11):(eS s)[a * 11 + b]? = some (iv (s.mat a b)):=by
 have:=s.2
 unfold eS
 rw [ints_at (by omega)]
 rfl
set_option maxHeartbeats 4000000 in
theorem f91 (bR bF:Nat) (vr:Value) (vs:List Value) (rules:List Rul) (hrl:rules.length≤1000000) (hr2:∀ r,r∈rules→r.length≤1000):∀ (n next:Nat) (va:Value) (all:List Sums) (H:AHeap),rules.length - next=n→next≤rules.length→Top H→bR < H.n→bF < H.n→H.get bR=.cells [vr] 114 .ex→H.get bF=.cells [.func (.func 91) #[] #[vptr bR 0,vptr bF 0]] 145 .ex→SR H 1 rules.length vr vs→RulesV H [] vs rules→SR H 121 all.length va (all.flatMap eS)→0 < all.length→all.length≤20→RulsOk all.length rules →
  ∃ v H',C5 (.fn 91) #[iv next,va,vptr bR 0,vptr bF 0] H v H'∧v=.bool (keptL (rules.drop next) all)∧Fr H.n [] H H':=by
 intro n
 induction n with
 | zero =>
  intro next va all H hn hnx hT hR hF gR gF S RV SA ha0 ha1 hok
  have e1:next=rules.length:=by omega
  subst e1
  have rR:H.rd bR=some [vr]:=by rw [rd_def,gR];rfl
  have o1:=S.one
  have o2:=SA.one
  refine Cl.ofW Try.func91 rfl (by kernel_rfl) (by rw [Try.ntmps91];exact Nat.le_of_ble_eq_true rfl) (by kernel_rfl) ?_
  have hEg:True:=trivial
  refine gcW [0,1,2,3] ?_
  intro eg hEn
  simp only [forallC,forallL,and_true] at hEn
  try simp only [↓pb,qbs,tb91,rR,lns114 S,hEg,irN,nrA,nrM,nrE,reduceIte,reduceCtorEq,nrL] at hEn
  replace hEg:=hEn;clear hEn
  repeat' (first|((with_reducible refine hK _ _ fun e2 hEn=>?_);clear hK K;simp only [lv91,forallC,forallL,and_true] at hEn;(try simp only [↓pb,qbs,tb91,rR,lns114 S,hEg,irN,nrA,nrM,nrE,reduceIte,reduceCtorEq,nrL] at hEn);clear hEg;(try clear eg);have hEg:=hEn;clear hEn;rename Env=>eg)|((first|((with_reducible first|apply oV_intro|apply oH_intro|apply oB_intro);(simp (disch:=first|exact dA|fail) only [qcs,tb91,rR,lns114 S,hEg,irN,nrA,nrM,nrE,reduceIte,reduceCtorEq,nrL];with_reducible exact rfl))|((with_reducible first|apply oblA_and|apply oblR_and|apply oblO_and);(focus exact obA))|(with_reducible first|refine W_regionF lv91 fun K hK=>?_|refine W_drawnF lv91 fun K hK=>?_));try simp only [↓pb,↓pd,qds,tb91,rR,lns114 S,hEg,irN,nrA,nrM,nrE,reduceIte,reduceCtorEq,nrL])|((with_reducible apply W_cond);(simp only [↓pb,qbs,tb91,rR,lns114 S,hEg,irN,nrA,nrM,nrE,reduceIte,reduceCtorEq,nrL];with_reducible exact rfl);all_goals (intro hc;(first|exact hcX hc|try simp only [hcs] at hc)))|(with_reducible first|refine W_seq ?_|refine W_block ?_|refine W_skip ?_|refine W_ret ?_|refine W_exit ?_|apply blockK_exit)|((with_reducible apply blockK_pass);(focus decide))|fail)
  refine ⟨by first|exact .inl rfl|exact .inr rfl, ?_⟩
  rw [ret1 Try.results91]
  simp only [↓pb,qbs,tb91,rR,lns114 S,rv_tmp,rv_cell,hEg,irN,nrA,nrM,nrE,reduceIte,reduceCtorEq,nrL]
  repeat ((with_reducible apply oV_intro);(simp (disch:=first|exact dA|fail) only [qcs,tb91,rR,lns114 S,hEg,irN,nrA,nrM,nrE,reduceIte,reduceCtorEq,nrL];exact rfl))
  refine ⟨?_,(by exact frA)⟩
  rw [List.drop_of_length_le (Nat.le_refl _)]
  rfl
 | succ n ih =>
  intro next va all H hn hnx hT hR hF gR gF S RV SA ha0 ha1 hok
  have hnl:next < rules.length:=by omega
  have hne:¬ (next:Int)=(rules.length:Int):=by omega
  have rR:H.rd bR=some [vr]:=by rw [rd_def,gR];rfl
  have rF:H.rd bF=some [.func (.func 91) #[] #[vptr bR 0,vptr bF 0]]:=by rw [rd_def,gF];rfl
  have o1:=S.one
  have o2:=SA.one
  obtain ⟨r,hr⟩:∃ r,r=rules.getD next default:=⟨_,rfl⟩
  have hmem:r∈rules:=hr ▸ getD_mem hnl
  have hkr:=hok r hmem
  have hlr:=hr2 r hmem
  have hdr:rules.drop next=r :: rules.drop (next + 1):=by rw [hr];exact drop_getD hnl
  obtain ⟨u,hu,hru⟩:=RV.at next hnl
  rw [← hr] at hru
  have lS:=S.lt
  have hld:(dOf H vr)[voff vr + next]? = some u:=by rw [← at1_def,S.at (j:=next) (by omega)];exact hu
  have hou:=hru.one'
  have hw1:IntKind.i64.wrap ((next:Int) + 1)=((next + 1:Nat):Int):=inc64 (by omega)
  refine Cl.ofW Try.func91 rfl (by kernel_rfl) (by rw [Try.ntmps91];exact Nat.le_of_ble_eq_true rfl) (by kernel_rfl) ?_
  have hEg:True:=trivial
  refine gcW [0,1,2,3] ?_
  intro eg hEn
  simp only [forallC,forallL,and_true] at hEn
  try simp only [↓pb,qbs,tb91,rR,lns114 S,hne,hEg,irN,nrA,nrM,nrE,reduceIte,reduceCtorEq,nrL] at hEn
  replace hEg:=hEn;clear hEn
  repeat' (first|((with_reducible refine hK _ _ fun e2 hEn=>?_);clear hK K;simp only [lv91,forallC,forallL,and_true] at hEn;(try simp only [↓pb,qbs,tb91,rR,lns114 S,hne,hEg,irN,nrA,nrM,nrE,reduceIte,reduceCtorEq,nrL] at hEn);clear hEg;(try clear eg);have hEg:=hEn;clear hEn;rename Env=>eg)|((first|((with_reducible first|apply oV_intro|apply oH_intro|apply oB_intro);(simp (disch:=first|exact dA|fail) only [qcs,tb91,rR,lns114 S,hne,ias114 S,S.rd,hld,Nat.mul_one,hne,hou,hEg,irN,nrA,nrM,nrE,reduceIte,reduceCtorEq,nrL];with_reducible exact rfl))|((with_reducible first|apply oblA_and|apply oblR_and|apply oblO_and);(focus exact obA))|((with_reducible apply WO_callF);(focus exact topA);(simp only [↓pb,qbs,tb91,rR,lns114 S,hne,ias114 S,S.rd,hld,Nat.mul_one,hne,hou,hEg,irN,nrA,nrM,nrE,reduceIte,reduceCtorEq,nrL];exact fRule (hru.fr (N:=H.n) (X:=[]) (by exact frA) (by simp)) (by exact topA));(rintro vq Gq hq hJq Sw;try simp only [upd_n,jn_n] at hq))|(with_reducible first|refine W_regionF lv91 fun K hK=>?_|refine W_drawnF lv91 fun K hK=>?_));try simp only [↓pb,↓pd,qds,tb91,rR,lns114 S,hne,ias114 S,S.rd,hld,Nat.mul_one,hne,hou,hEg,irN,nrA,nrM,nrE,reduceIte,reduceCtorEq,nrL])|((with_reducible apply W_cond);(simp only [↓pb,qbs,tb91,rR,lns114 S,hne,ias114 S,S.rd,hld,Nat.mul_one,hne,hou,hEg,irN,nrA,nrM,nrE,reduceIte,reduceCtorEq,nrL];with_reducible exact rfl);all_goals (intro hc;(first|exact hcX hc|try simp only [hcs] at hc)))|(with_reducible first|refine W_seq ?_|refine W_block ?_|refine W_skip ?_|refine W_ret ?_|refine W_exit ?_|apply blockK_exit)|((with_reducible apply blockK_pass);(focus decide))|fail)
  have oq:=Sw.one
  repeat' (first|((with_reducible refine hK _ _ fun e2 hEn=>?_);clear hK K;simp only [lv91,forallC,forallL,and_true] at hEn;(try simp only [↓pb,qbs,tb91,rR,lns114 S,hne,hEg,irN,nrA,nrM,nrE,reduceIte,reduceCtorEq,nrL] at hEn);clear hEg;(try clear eg);have hEg:=hEn;clear hEn;rename Env=>eg)|((first|((with_reducible first|apply oV_intro|apply oH_intro|apply oB_intro);(simp (disch:=first|exact dA|fail) only [qcs,tb91,rR,lns114 S,hne,lns142 Sw,hEg,irN,nrA,nrM,nrE,reduceIte,reduceCtorEq,nrL];with_reducible exact rfl))|((with_reducible first|apply oblA_and|apply oblR_and|apply oblO_and);(focus exact obA))|(with_reducible first|refine W_regionF lv91 fun K hK=>?_|refine W_drawnF lv91 fun K hK=>?_));try simp only [↓pb,↓pd,qds,tb91,rR,lns114 S,hne,lns142 Sw,hEg,irN,nrA,nrM,nrE,reduceIte,reduceCtorEq,nrL])|((with_reducible apply W_cond);(simp only [↓pb,qbs,tb91,rR,lns114 S,hne,lns142 Sw,hEg,irN,nrA,nrM,nrE,reduceIte,reduceCtorEq,nrL];with_reducible exact rfl);all_goals (intro hc;(first|exact hcX hc|try simp only [hcs] at hc)))|(with_reducible first|refine W_seq ?_|refine W_block ?_|refine W_skip ?_|refine W_ret ?_|refine W_exit ?_|apply blockK_exit)|((with_reducible apply blockK_pass);(focus decide))|fail)
  have hext:∀ h,Fr H.n [] H h→h.get bR=.cells [vr] 114 .ex∧h.get bF=.cells [.func (.func 91) #[] #[vptr bR 0,vptr bF 0]] 145 .ex∧SR h 1 rules.length vr vs∧RulesV h [] vs rules:=fun h F=>⟨by rw [F.old _ hR (by simp)];exact gR,by rw [F.old _ hF (by simp)];exact gF,S.fr0 F,RV.fr F (by simp)⟩
  have ih2:∀ (va:Value) (al:List Sums) (h:AHeap),Fr H.n [] H h→Top h→SR h 121 al.length va (al.flatMap eS)→al.length=all.length→∃ v H',C5 (.fn 91) #[iv (next + 1:Nat),va,vptr bR 0,vptr bF 0] h v H'∧v=.bool (keptL (rules.drop (next + 1)) al)∧Fr h.n [] h H':=fun va al h F T A e=>by
   obtain ⟨x1,x2,x3,x4⟩:=hext h F
   have:=F.n
   exact ih (next + 1) va al h (by omega) (by omega) T (by omega) (by omega) x1 x2 x3 x4 A (by omega) (by omega) (by rw [e];exact hok)
  refine W_count [0,1,3,7,24,25] (by kernel_rfl) 26 (r.length) (H.n) [] [] (fun i e h=>(r.take i).any (fun w=>w.ok all)=false) (by simp only [↓pb,qbs,tb91,rR,lns114 S,hne,hEg,irN,nrA,nrM,nrE,reduceIte,reduceCtorEq,nrL]) (by focus exact topA) (H0:=H) (by focus exact frA) (by intro b hb hlt;simp at hb ⊢;try omega) ?_ ?_
  rotate_left
  intro i1 e1 h1 hi1 hE1 ei1 hF1 hF01 hTh1 hJ1
  simp only [forallC,forallL,and_true] at hE1
  try simp only [↓pb,qbs,tb91,rR,lns114 S,hne,hEg,irN,nrA,nrM,nrE,reduceIte,reduceCtorEq,nrL] at hE1
  have hn11:=hF1.n;have hn01:=hF01.n;try simp only [upd_n,jn_n] at hn11
  replace hEg:=And.intro ei1 hE1
  rotate_left
  ·simp
  have S1:=Sw.fr0 hF1
  obtain ⟨x1,x2,x3,x4⟩:=hext h1 hF01
  have A1:=SA.fr0 hF01
  have q1:h1.rd bR=some [vr]:=by rw [rd_def,x1];rfl
  have q2:h1.rd bF=some [.func (.func 91) #[] #[vptr bR 0,vptr bF 0]]:=by rw [rd_def,x2];rfl
  have lw:=S1.lt
  have lA:=A1.lt
  have hn1:=hF01.n
  by_cases hi2:i1 < r.length
  ·obtain ⟨w,hw⟩:∃ w,w=r.getD i1 default:=⟨_,rfl⟩
   have hwk:=hkr _ (getD_mem hi2)
   rw [← hw] at hwk
   obtain ⟨k1,k2,k3⟩:=hwk
   have hen:eWay (r.getD i1 default)=[iv w.spot,iv w.a,iv w.b,iv w.most]:=by rw [← hw];rfl
   have hmat:(dOf h1 va)[voff va + w.spot * 121 + w.a * 11 + w.b]? = some (iv ((all.getD w.spot default).mat w.a w.b)):=by
    rw [Nat.add_assoc _ (w.a * 11),(A1.el eS_len rfl).1 _ _ k1 (by omega),eS_mat _ k2 k3]
   have hokw:w.ok all=decide ((all.getD w.spot default).mat w.a w.b≤w.most):=rfl
   repeat' (first|((with_reducible refine hK _ _ fun e2 hEn=>?_);clear hK K;simp only [lv91,forallC,forallL,and_true] at hEn;(try simp only [↓pb,qbs,tb91,rR,lns114 S,hne,hEg,irN,nrA,nrM,nrE,reduceIte,reduceCtorEq,nrL] at hEn);clear hEg;(try clear eg);have hEg:=hEn;clear hEn;rename Env=>eg)|((first|((with_reducible first|apply oV_intro|apply oH_intro|apply oB_intro);(simp (disch:=first|exact dA|fail) only [qcs,tb91,rR,lns114 S,hne,ias142 S1,S1.rd,(S1.el eWay_len rfl),hen,ias146 A1,A1.rd,hmat,Nat.mul_one,S1.mapB,A1.mapB,q2,hw1,o2,hEg,irN,nrA,nrM,nrE,reduceIte,reduceCtorEq,nrL];with_reducible exact rfl))|((with_reducible first|apply oblA_and|apply oblR_and|apply oblO_and);(focus exact obA))|((with_reducible apply WO_callV);(focus exact topA);(simp only [↓pb,qbs,tb91,rR,lns114 S,hne,ias142 S1,S1.rd,(S1.el eWay_len rfl),hen,ias146 A1,A1.rd,hmat,Nat.mul_one,S1.mapB,A1.mapB,q2,hw1,o2,hEg,irN,nrA,nrM,nrE,reduceIte,reduceCtorEq,nrL];(exact ih2 _ _ _ (by exact frA) (by exact topA) (A1.fr0 (N:=H.n) (by exact frA)) rfl));(intro Gq hq hJq;try simp only [upd_n,jn_n] at hq))|(with_reducible first|refine W_regionF lv91 fun K hK=>?_|refine W_drawnF lv91 fun K hK=>?_));try simp only [↓pb,↓pd,qds,tb91,rR,lns114 S,hne,ias142 S1,S1.rd,(S1.el eWay_len rfl),hen,ias146 A1,A1.rd,hmat,Nat.mul_one,S1.mapB,A1.mapB,q2,hw1,o2,hEg,irN,nrA,nrM,nrE,reduceIte,reduceCtorEq,nrL])|((with_reducible apply W_cond);(simp only [↓pb,qbs,tb91,rR,lns114 S,hne,ias142 S1,S1.rd,(S1.el eWay_len rfl),hen,ias146 A1,A1.rd,hmat,Nat.mul_one,S1.mapB,A1.mapB,q2,hw1,o2,hEg,irN,nrA,nrM,nrE,reduceIte,reduceCtorEq,nrL];with_reducible exact rfl);all_goals (intro hc;(first|exact hcX hc|try simp only [hcs] at hc)))|(with_reducible first|refine W_seq ?_|refine W_block ?_|refine W_skip ?_|refine W_ret ?_|refine W_exit ?_|apply blockK_exit)|((with_reducible apply blockK_pass);(focus decide))|fail)
   ·refine ⟨by first|exact .inl rfl|exact .inr rfl, ?_⟩
    rw [ret1 Try.results91]
    simp only [↓pb,qbs,tb91,rR,lns114 S,hne,rv_tmp,rv_cell,hEg,irN,nrA,nrM,nrE,reduceIte,reduceCtorEq,nrL]
    repeat ((with_reducible apply oV_intro);(simp (disch:=first|exact dA|fail) only [qcs,tb91,rR,lns114 S,hne,hEg,irN,nrA,nrM,nrE,reduceIte,reduceCtorEq,nrL];exact rfl))
    refine ⟨?_,(by exact frA)⟩
    rw [hdr,keptL,if_pos]
    exact List.any_eq_true.2 ⟨w,hw ▸ getD_mem hi2,by rw [hokw,decide_eq_true hc]⟩
   ·refine ⟨by omega,by simp only [↓pb,qbs,tb91,rR,lns114 S,hne,hEg,irN,nrA,nrM,nrE,reduceIte,reduceCtorEq,nrL];exact congrArg _ (inc64 (by omega)),by focus exact frA, ?_⟩
    rw [take_getD hi2,List.any_append,hJ1,← hw]
    show (false || (w.ok all || false))=false
    rw [hokw,decide_eq_false hc]
    rfl
  ·have e1n:i1=r.length:=by omega
   rw [e1n,List.take_length] at hJ1
   have hkp:keptL (rules.drop next) all=r.any fun w=>((all.getD w.spot default).know w.a w.b w.most).2 && keptL (rules.drop (next + 1)) (all.set w.spot ((all.getD w.spot default).know w.a w.b w.most).1):=by
    rw [hdr,keptL,if_neg (by rw [hJ1];simp)]
   repeat' (first|((with_reducible refine hK _ _ fun e2 hEn=>?_);clear hK K;simp only [lv91,forallC,forallL,and_true] at hEn;(try simp only [↓pb,qbs,tb91,rR,lns114 S,hne,hEg,irN,nrA,nrM,nrE,reduceIte,reduceCtorEq,nrL] at hEn);clear hEg;(try clear eg);have hEg:=hEn;clear hEn;rename Env=>eg)|((first|((with_reducible first|apply oV_intro|apply oH_intro|apply oB_intro);(simp (disch:=first|exact dA|fail) only [qcs,tb91,rR,lns114 S,hne,lns142 S1,hEg,irN,nrA,nrM,nrE,reduceIte,reduceCtorEq,nrL];with_reducible exact rfl))|((with_reducible first|apply oblA_and|apply oblR_and|apply oblO_and);(focus exact obA))|(with_reducible first|refine W_regionF lv91 fun K hK=>?_|refine W_drawnF lv91 fun K hK=>?_));try simp only [↓pb,↓pd,qds,tb91,rR,lns114 S,hne,lns142 S1,hEg,irN,nrA,nrM,nrE,reduceIte,reduceCtorEq,nrL])|((with_reducible apply W_cond);(simp only [↓pb,qbs,tb91,rR,lns114 S,hne,lns142 S1,hEg,irN,nrA,nrM,nrE,reduceIte,reduceCtorEq,nrL];with_reducible exact rfl);all_goals (intro hc;(first|exact hcX hc|try simp only [hcs] at hc)))|(with_reducible first|refine W_seq ?_|refine W_block ?_|refine W_skip ?_|refine W_ret ?_|refine W_exit ?_|apply blockK_exit)|((with_reducible apply blockK_pass);(focus decide))|fail)
   refine W_count [0,1,3,50,51] (by kernel_rfl) 52 (r.length) (H.n) [] [] (fun i e h=>(r.take i).any (fun w=>((all.getD w.spot default).know w.a w.b w.most).2 && keptL (rules.drop (next + 1)) (all.set w.spot ((all.getD w.spot default).know w.a w.b w.most).1))=false) (by simp only [↓pb,qbs,tb91,rR,lns114 S,hne,hEg,irN,nrA,nrM,nrE,reduceIte,reduceCtorEq,nrL]) (by focus exact topA) (H0:=H) (by focus exact frA) (by intro b hb hlt;simp at hb ⊢;try omega) ?_ ?_
   rotate_left
   intro i2 e2 h2 hi2 hE2 ei2 hF2 hF02 hTh2 hJ2
   simp only [forallC,forallL,and_true] at hE2
   try simp only [↓pb,qbs,tb91,rR,lns114 S,hne,hEg,irN,nrA,nrM,nrE,reduceIte,reduceCtorEq,nrL] at hE2
   have hn12:=hF2.n;have hn02:=hF02.n;try simp only [upd_n,jn_n] at hn12
   replace hEg:=And.intro ei2 hE2
   rotate_left
   ·simp
   have S2:=S1.fr0 hF2
   obtain ⟨y1,y2,y3,y4⟩:=hext h2 hF02
   have A2:=SA.fr0 hF02
   have p1:h2.rd bR=some [vr]:=by rw [rd_def,y1];rfl
   have p2:h2.rd bF=some [.func (.func 91) #[] #[vptr bR 0,vptr bF 0]]:=by rw [rd_def,y2];rfl
   have lw2:=S2.lt
   have lA2:=A2.lt
   have hn2:=hF02.n
   by_cases hj2:i2 < r.length
   ·obtain ⟨w,hw⟩:∃ w,w=r.getD i2 default:=⟨_,rfl⟩
    have hwk:=hkr _ (getD_mem hj2)
    rw [← hw] at hwk
    obtain ⟨k1,k2,k3⟩:=hwk
    have hen:eWay (r.getD i2 default)=[iv w.spot,iv w.a,iv w.b,iv w.most]:=by rw [← hw];rfl
    obtain ⟨sm,hsm⟩:∃ sm,sm=all.getD w.spot default:=⟨_,rfl⟩
    have hat:Swa.atN (dOf h2 va) (voff va + w.spot * 121) 121=some (.agg ⟨ints sm.1⟩):=by
     rw [(A2.el eS_len rfl).2.2.1 _ k1,← hsm]
     rfl
    have hl:(ints sm.1).length=121:=by rw [ints_len,sm.2]
    have hl2:(ints (Swa.know sm.1 w.a w.b w.most).1).length=121:=by rw [ints_len,know_len,sm.2]
    have hz:=zs_len 121
    repeat' (first|((with_reducible refine hK _ _ fun e2 hEn=>?_);clear hK K;simp only [lv91,forallC,forallL,and_true] at hEn;(try simp only [↓pb,qbs,tb91,rR,lns114 S,hne,hEg,irN,nrA,nrM,nrE,reduceIte,reduceCtorEq,nrL] at hEn);clear hEg;(try clear eg);have hEg:=hEn;clear hEn;rename Env=>eg)|((first|((with_reducible first|apply oV_intro|apply oH_intro|apply oB_intro);(simp (disch:=first|exact dA|fail) only [qcs,tb91,rR,lns114 S,hne,ias142 S2,S2.rd,(S2.el eWay_len rfl),hen,ias146 A2,A2.rd,hat,Nat.mul_one,S2.mapB,A2.mapB,p2,hw1,o2,hl,hl2,hz,extract_tup,stG_pre hl2 hz,hEg,irN,nrA,nrM,nrE,reduceIte,reduceCtorEq,nrL];with_reducible exact rfl))|((with_reducible first|apply oblA_and|apply oblR_and|apply oblO_and);(focus exact obA))|((with_reducible apply WO_callF);(focus exact topA);(simp only [↓pb,qbs,tb91,rR,lns114 S,hne,ias142 S2,S2.rd,(S2.el eWay_len rfl),hen,ias146 A2,A2.rd,hat,Nat.mul_one,S2.mapB,A2.mapB,p2,hw1,o2,hl,hl2,hz,extract_tup,stG_pre hl2 hz,hEg,irN,nrA,nrM,nrE,reduceIte,reduceCtorEq,nrL];exact f93 _ _ _ (by exact topA) (A2.fr0 (N:=H.n) (by exact frA)) ha0 ha1);(rintro vq Gq hq hJq ⟨bC,rfl,z1,so,z2,z3⟩;try simp only [upd_n,jn_n] at hq))|((with_reducible apply WO_callV);(focus exact topA);(simp only [↓pb,qbs,tb91,rR,lns114 S,hne,ias142 S2,S2.rd,(S2.el eWay_len rfl),hen,ias146 A2,A2.rd,hat,Nat.mul_one,S2.mapB,A2.mapB,p2,hw1,o2,hl,hl2,hz,extract_tup,stG_pre hl2 hz,hEg,irN,nrA,nrM,nrE,reduceIte,reduceCtorEq,nrL];(exact f92 _ sm.2 _ _ k2 k3 _ _ (by exact topA)));(intro Gq hq hJq;try simp only [upd_n,jn_n] at hq))|(with_reducible first|refine W_regionF lv91 fun K hK=>?_|refine W_drawnF lv91 fun K hK=>?_));try simp only [↓pb,↓pd,qds,tb91,rR,lns114 S,hne,ias142 S2,S2.rd,(S2.el eWay_len rfl),hen,ias146 A2,A2.rd,hat,Nat.mul_one,S2.mapB,A2.mapB,p2,hw1,o2,hl,hl2,hz,extract_tup,stG_pre hl2 hz,hEg,irN,nrA,nrM,nrE,reduceIte,reduceCtorEq,nrL])|((with_reducible apply W_cond);(simp only [↓pb,qbs,tb91,rR,lns114 S,hne,ias142 S2,S2.rd,(S2.el eWay_len rfl),hen,ias146 A2,A2.rd,hat,Nat.mul_one,S2.mapB,A2.mapB,p2,hw1,o2,hl,hl2,hz,extract_tup,stG_pre hl2 hz,hEg,irN,nrA,nrM,nrE,reduceIte,reduceCtorEq,nrL];with_reducible exact rfl);all_goals (intro hc;(first|exact hcX hc|try simp only [hcs] at hc)))|(with_reducible first|refine W_seq ?_|refine W_block ?_|refine W_skip ?_|refine W_ret ?_|refine W_exit ?_|apply blockK_exit)|((with_reducible apply blockK_pass);(focus decide))|fail)
    ·have hkn:(sm.know w.a w.b w.most).2=false:=by
      have:(Swa.know sm.1 w.a w.b w.most).2=(sm.know w.a w.b w.most).2:=rfl
      rw [← this]
      simpa using hc
     refine ⟨by omega,by simp only [↓pb,qbs,tb91,rR,lns114 S,hne,hEg,irN,nrA,nrM,nrE,reduceIte,reduceCtorEq,nrL];exact congrArg _ (inc64 (by omega)),by focus exact frA, ?_⟩
     rw [take_getD hj2,List.any_append,hJ2,← hw]
     show (false || (((all.getD w.spot default).know w.a w.b w.most).2 && _ || false))=false
     rw [← hsm,hkn]
     rfl
    ·have hkn:(sm.know w.a w.b w.most).2=true:=by
      have:(Swa.know sm.1 w.a w.b w.most).2=(sm.know w.a w.b w.most).2:=rfl
      rw [← this]
      simpa using hc
     obtain ⟨s',hs'⟩:∃ s',s'=(sm.know w.a w.b w.most).1:=⟨_,rfl⟩
     have hs2:ints (Swa.know sm.1 w.a w.b w.most).1=eS s':=by rw [hs'];rfl
     rw [hs2] at hl2 z1 so z2 z3 hJq ⊢
     have hfl:(all.flatMap eS).length=all.length * 121:=A2.len
     have hsp:splice (all.flatMap eS) (w.spot * 121) (eS s')=(all.set w.spot s').flatMap eS:=splice_at eS_len all w.spot s' k1
     refine oH_intro (by rw [z1];exact stG_sole so rfl (by show (eS s').toArray.size=121;simpa using hl2) (by omega)) ?_
     repeat' (first|((with_reducible refine hK _ _ fun e2 hEn=>?_);clear hK K;simp only [lv91,forallC,forallL,and_true] at hEn;(try simp only [↓pb,qbs,tb91,rR,lns114 S,hne,hEg,irN,nrA,nrM,nrE,reduceIte,reduceCtorEq,nrL] at hEn);clear hEg;(try clear eg);have hEg:=hEn;clear hEn;rename Env=>eg)|((first|((with_reducible first|apply oV_intro|apply oH_intro|apply oB_intro);(simp (disch:=first|exact dA|fail) only [qcs,tb91,rR,lns114 S,hne,hEg,irN,nrA,nrM,nrE,reduceIte,reduceCtorEq,nrL];with_reducible exact rfl))|((with_reducible first|apply oblA_and|apply oblR_and|apply oblO_and);(focus exact obA))|(with_reducible first|refine W_regionE lv91 [17] fun K hK=>?_|refine W_drawnE lv91 [17] fun K hK=>?_));try simp only [↓pb,↓pd,qds,tb91,rR,lns114 S,hne,hEg,irN,nrA,nrM,nrE,reduceIte,reduceCtorEq,nrL])|((with_reducible apply W_cond);(simp only [↓pb,qbs,tb91,rR,lns114 S,hne,hEg,irN,nrA,nrM,nrE,reduceIte,reduceCtorEq,nrL];with_reducible exact rfl);all_goals (intro hc;(first|exact hcX hc|try simp only [hcs] at hc)))|(with_reducible first|refine W_seq ?_|refine W_block ?_|refine W_skip ?_|refine W_ret ?_|refine W_exit ?_|apply blockK_exit)|((with_reducible apply blockK_pass);(focus decide))|fail)
     rename_i g92 q92 j92
     simp only [upd_n,jn_n] at z2 z3
     refine W_forget (N:=H.n) (X:=[]) (h0:=h1) (fun h=>h.get bC=.cells ((all.set w.spot s').flatMap eS) 96 (.gr bC 121 true)∧bC < h.n∧Top h) (by exact frA) ⟨by rw [← hsp];exact upd_get_same,by simp only [upd_n,jn_n];omega,(by exact topA)⟩ ?_
     rintro h5 F5 ⟨m1,m2,T5⟩
     clear z1 so hJq j92
     have F05:Fr H.n [] H h5:=hF01.trans F5
     obtain ⟨_,w2,_,_⟩:=hext h5 F05
     have p5:h5.rd bF=some [.func (.func 91) #[] #[vptr bR 0,vptr bF 0]]:=by rw [rd_def,w2];rfl
     have hfl2:((all.set w.spot s').flatMap eS).length=(all.set w.spot s').length * 121:=by
      rw [← hsp,splice_length (by rw [hl2];omega),hfl,List.length_set]
     have A5:SR h5 121 (all.set w.spot s').length (.slice (some ⟨bC,0,none⟩) all.length all.length) ((all.set w.spot s').flatMap eS):=by
      have:=SR.wholeR m2 (n:=(all.set w.spot s').length) (s:=121) (by rw [rd_def,m1];rfl) hfl2
      rw [List.length_set] at this ⊢
      exact this
     repeat' (first|((with_reducible refine hK _ _ fun e2 hEn=>?_);clear hK K;simp only [lv91,forallC,forallL,and_true] at hEn;(try simp only [↓pb,qbs,tb91,rR,lns114 S,hne,hEg,irN,nrA,nrM,nrE,reduceIte,reduceCtorEq,nrL] at hEn);clear hEg;(try clear eg);have hEg:=hEn;clear hEn;rename Env=>eg)|((first|((with_reducible first|apply oV_intro|apply oH_intro|apply oB_intro);(simp (disch:=first|exact dA|fail) only [qcs,tb91,rR,lns114 S,hne,p5,hw1,hEg,irN,nrA,nrM,nrE,reduceIte,reduceCtorEq,nrL];with_reducible exact rfl))|((with_reducible first|apply oblA_and|apply oblR_and|apply oblO_and);(focus exact obA))|((with_reducible apply WO_callV);(focus exact topA);(simp only [↓pb,qbs,tb91,rR,lns114 S,hne,p5,hw1,hEg,irN,nrA,nrM,nrE,reduceIte,reduceCtorEq,nrL];(exact ih2 _ _ _ F05 T5 A5 List.length_set));(intro Gq hq hJq;try simp only [upd_n,jn_n] at hq))|(with_reducible first|refine W_regionF lv91 fun K hK=>?_|refine W_drawnF lv91 fun K hK=>?_));try simp only [↓pb,↓pd,qds,tb91,rR,lns114 S,hne,p5,hw1,hEg,irN,nrA,nrM,nrE,reduceIte,reduceCtorEq,nrL])|((with_reducible apply W_cond);(simp only [↓pb,qbs,tb91,rR,lns114 S,hne,p5,hw1,hEg,irN,nrA,nrM,nrE,reduceIte,reduceCtorEq,nrL];with_reducible exact rfl);all_goals (intro hc;(first|exact hcX hc|try simp only [hcs] at hc)))|(with_reducible first|refine W_seq ?_|refine W_block ?_|refine W_skip ?_|refine W_ret ?_|refine W_exit ?_|apply blockK_exit)|((with_reducible apply blockK_pass);(focus decide))|fail)
     ·refine ⟨by first|exact .inl rfl|exact .inr rfl, ?_⟩
      rw [ret1 Try.results91]
      simp only [↓pb,qbs,tb91,rR,lns114 S,hne,rv_tmp,rv_cell,hEg,irN,nrA,nrM,nrE,reduceIte,reduceCtorEq,nrL]
      repeat ((with_reducible apply oV_intro);(simp (disch:=first|exact dA|fail) only [qcs,tb91,rR,lns114 S,hne,hEg,irN,nrA,nrM,nrE,reduceIte,reduceCtorEq,nrL];exact rfl))
      refine ⟨?_,(by exact frA)⟩
      rw [hkp]
      symm
      refine congrArg Value.bool ?_
      refine List.any_eq_true.2 ⟨w,hw ▸ getD_mem hj2, ?_⟩
      rw [← hsm,hkn,Bool.true_and,← hs']
      exact hc
     ·refine ⟨by omega,by simp only [↓pb,qbs,tb91,rR,lns114 S,hne,hEg,irN,nrA,nrM,nrE,reduceIte,reduceCtorEq,nrL];exact congrArg _ (inc64 (by omega)),by focus exact frA, ?_⟩
      rw [take_getD hj2,List.any_append,hJ2,← hw]
      show (false || (((all.getD w.spot default).know w.a w.b w.most).2 && keptL _ (all.set w.spot ((all.getD w.spot default).know w.a w.b w.most).1) || false))=false
      rw [← hsm,← hs',hkn,hc]
      rfl
   ·have e2n:i2=r.length:=by omega
    rw [e2n,List.take_length] at hJ2
    repeat' (first|((with_reducible refine hK _ _ fun e2 hEn=>?_);clear hK K;simp only [lv91,forallC,forallL,and_true] at hEn;(try simp only [↓pb,qbs,tb91,rR,lns114 S,hne,hEg,irN,nrA,nrM,nrE,reduceIte,reduceCtorEq,nrL] at hEn);clear hEg;(try clear eg);have hEg:=hEn;clear hEn;rename Env=>eg)|((first|((with_reducible first|apply oV_intro|apply oH_intro|apply oB_intro);(simp (disch:=first|exact dA|fail) only [qcs,tb91,rR,lns114 S,hne,hEg,irN,nrA,nrM,nrE,reduceIte,reduceCtorEq,nrL];with_reducible exact rfl))|((with_reducible first|apply oblA_and|apply oblR_and|apply oblO_and);(focus exact obA))|(with_reducible first|refine W_regionF lv91 fun K hK=>?_|refine W_drawnF lv91 fun K hK=>?_));try simp only [↓pb,↓pd,qds,tb91,rR,lns114 S,hne,hEg,irN,nrA,nrM,nrE,reduceIte,reduceCtorEq,nrL])|((with_reducible apply W_cond);(simp only [↓pb,qbs,tb91,rR,lns114 S,hne,hEg,irN,nrA,nrM,nrE,reduceIte,reduceCtorEq,nrL];with_reducible exact rfl);all_goals (intro hc;(first|exact hcX hc|try simp only [hcs] at hc)))|(with_reducible first|refine W_seq ?_|refine W_block ?_|refine W_skip ?_|refine W_ret ?_|refine W_exit ?_|apply blockK_exit)|((with_reducible apply blockK_pass);(focus decide))|fail)
    refine ⟨by first|exact .inl rfl|exact .inr rfl, ?_⟩
    rw [ret1 Try.results91]
    simp only [↓pb,qbs,tb91,rR,lns114 S,hne,rv_tmp,rv_cell,hEg,irN,nrA,nrM,nrE,reduceIte,reduceCtorEq,nrL]
    repeat ((with_reducible apply oV_intro);(simp (disch:=first|exact dA|fail) only [qcs,tb91,rR,lns114 S,hne,hEg,irN,nrA,nrM,nrE,reduceIte,reduceCtorEq,nrL];exact rfl))
    exact ⟨by rw [hkp,hJ2],(by exact frA)⟩
set_option maxHeartbeats 4000000 in
theorem f72 (va vb vc vh vr:Value) (l:List (Hp×Value)) (vs:List Value) (rules:List Rul) (H:AHeap) (hT:Top H) (ho:one va∧one vb∧one vc) (Sh:RHs H vh l) (hl:0 < l.length∧l.length≤20) (S:SR H 1 rules.length vr vs) (RV:RulesV H [] vs rules) (hrl:rules.length≤1000000) (hr2:∀ r,r∈rules→r.length≤1000) (hok:RulsOk l.length rules) :
  ∃ v H',C5 (.fn 72) #[.agg ⟨[va,vb,vc,vh]⟩,vr] H v H'∧v=.bool (keptL rules (l.map (·.1.s)))∧Fr H.n [] H H':=by
 have oh:=Sh.1.one
 have orr:=S.one
 refine Cl.ofW Try.func72 rfl (by kernel_rfl) (by rw [Try.ntmps72];exact Nat.le_of_ble_eq_true rfl) (by kernel_rfl) ?_
 have hEg:True:=trivial
 refine gcW [0,1] ?_
 intro eg hEn
 simp only [forallC,forallL,and_true] at hEn
 try simp only [↓pb,qbs,tb72,ho,oh,orr.1,orr.2,hEg,irN,nrA,nrM,nrE,reduceIte,reduceCtorEq,nrL] at hEn
 replace hEg:=hEn;clear hEn
 repeat' (first|((with_reducible refine hK _ _ fun e2 hEn=>?_);clear hK K;simp only [lv72,forallC,forallL,and_true] at hEn;(try simp only [↓pb,qbs,tb72,ho,oh,orr.1,orr.2,hEg,irN,nrA,nrM,nrE,reduceIte,reduceCtorEq,nrL] at hEn);clear hEg;(try clear eg);have hEg:=hEn;clear hEn;rename Env=>eg)|((first|((with_reducible first|apply oV_intro|apply oH_intro|apply oB_intro);(simp (disch:=first|exact dA|fail) only [qcs,tb72,ho,oh,orr.1,orr.2,lns89 Sh.1,oh,orr.1,orr.2,hEg,irN,nrA,nrM,nrE,reduceIte,reduceCtorEq,nrL];with_reducible exact rfl))|(with_reducible first|refine W_regionF lv72 fun K hK=>?_));try simp only [↓pb,↓pd,qds,tb72,ho,oh,orr.1,orr.2,lns89 Sh.1,oh,orr.1,orr.2,hEg,irN,nrA,nrM,nrE,reduceIte,reduceCtorEq,nrL])|((with_reducible apply W_cond);(simp only [↓pb,qbs,tb72,ho,oh,orr.1,orr.2,lns89 Sh.1,oh,orr.1,orr.2,hEg,irN,nrA,nrM,nrE,reduceIte,reduceCtorEq,nrL];with_reducible exact rfl);all_goals (intro hc;(first|exact hcX hc|try simp only [hcs] at hc)))|(with_reducible first|refine W_seq ?_|refine W_block ?_|refine W_skip ?_|refine W_ret ?_|refine W_exit ?_|apply blockK_exit)|((with_reducible apply blockK_pass);(focus decide))|fail)
 refine W_count [5,11,12] (by kernel_rfl) 13 (l.length) (H.n) [] [] (fun i e h=>h.get (H.n + 1)=.cells [vr] 114 .ex∧h.get (H.n + 2)=.cells [.func (.func 91) #[] #[vptr (H.n + 1) 0,vptr (H.n + 2) 0]] 145 .ex∧∃ v6 g6,e 6=v6∧GS h 121 i v6 (((l.map (·.1.s)).take i).flatMap eS) g6∧∀ x,g6=some x→H.n≤x) (by simp only [↓pb,qbs,tb72,ho,oh,orr.1,orr.2,hEg,irN,nrA,nrM,nrE,reduceIte,reduceCtorEq,nrL]) (by focus exact topA) (H0:=H) (by focus exact frA) (by intro b hb hlt;simp at hb ⊢;try omega) ?_ ?_
 rotate_left
 intro i1 e1 h1 hi1 hE1 ei1 hF1 hF01 hTh1 hJ1
 simp only [forallC,forallL,and_true] at hE1
 try simp only [↓pb,qbs,tb72,ho,oh,orr.1,orr.2,hEg,irN,nrA,nrM,nrE,reduceIte,reduceCtorEq,nrL] at hE1
 have hn11:=hF1.n;have hn01:=hF01.n;try simp only [upd_n,jn_n] at hn11
 replace hEg:=And.intro ei1 hE1
 rotate_left
 ·refine ⟨by simp (disch:=first|exact dA|fail) only [qcs,tb72,ho,oh,orr.1,orr.2,hEg,irN,nrA,nrM,nrE,reduceIte,reduceCtorEq,nrL],by simp (disch:=first|exact dA|fail) only [qcs,tb72,ho,oh,orr.1,orr.2,hEg,irN,nrA,nrM,nrE,reduceIte,reduceCtorEq,nrL],_,none,by simp only [↓pb,qbs,tb72,ho,oh,orr.1,orr.2,hEg,irN,nrA,nrM,nrE,reduceIte,reduceCtorEq,nrL],.nil rfl rfl (by simp),by simp⟩
 obtain ⟨k1,k2,v6,g6,e6,G6,gx⟩:=hJ1
 have S1:=Sh.fr hF01
 have o6:=G6.one
 have lh:=S1.1.lt
 have r2:h1.rd (H.n + 2)=some [.func (.func 91) #[] #[vptr (H.n + 1) 0,vptr (H.n + 2) 0]]:=by rw [rd_def,k2];rfl
 by_cases hi2:i1 < l.length
 ·obtain ⟨p,hp⟩:∃ p,p=l.getD i1 default:=⟨_,rfl⟩
  have hen:eHp (l.getD i1 default)=ints p.1.s.1 ++ [p.2]:=by rw [← hp];rfl
  have S2:=S1.2 i1 hi2
  rw [← hp] at S2
  have o2:=S2.one
  have hl121:(ints p.1.s.1).length=121:=by rw [ints_len,p.1.s.2]
  repeat' (first|((with_reducible refine hK _ _ fun e2 hEn=>?_);clear hK K;simp only [lv72,forallC,forallL,and_true] at hEn;(try simp only [↓pb,qbs,tb72,ho,oh,orr.1,orr.2,hEg,irN,nrA,nrM,nrE,reduceIte,reduceCtorEq,nrL] at hEn);clear hEg;(try clear eg);have hEg:=hEn;clear hEn;rename Env=>eg)|((first|((with_reducible first|apply oV_intro|apply oH_intro|apply oB_intro);(simp (disch:=first|exact dA|fail) only [qcs,tb72,ho,oh,orr.1,orr.2,e6,ias89 S1.1,S1.1.rd,(S1.1.el eHp_len rfl),hen,atN_pre hl121,hl121,o2,o6,oh,Nat.mul_one,hEg,irN,nrA,nrM,nrE,reduceIte,reduceCtorEq,nrL];with_reducible exact rfl))|(with_reducible first|refine W_regionF lv72 fun K hK=>?_));try simp only [↓pb,↓pd,qds,tb72,ho,oh,orr.1,orr.2,e6,ias89 S1.1,S1.1.rd,(S1.1.el eHp_len rfl),hen,atN_pre hl121,hl121,o2,o6,oh,Nat.mul_one,hEg,irN,nrA,nrM,nrE,reduceIte,reduceCtorEq,nrL])|((with_reducible apply W_cond);(simp only [↓pb,qbs,tb72,ho,oh,orr.1,orr.2,e6,ias89 S1.1,S1.1.rd,(S1.1.el eHp_len rfl),hen,atN_pre hl121,hl121,o2,o6,oh,Nat.mul_one,hEg,irN,nrA,nrM,nrE,reduceIte,reduceCtorEq,nrL];with_reducible exact rfl);all_goals (intro hc;(first|exact hcX hc|try simp only [hcs] at hc)))|(with_reducible first|refine W_seq ?_|refine W_block ?_|refine W_skip ?_|refine W_ret ?_|refine W_exit ?_|apply blockK_exit)|((with_reducible apply blockK_pass);(focus decide))|fail)
  refine pu146 (n:=i1) (m:=1) (c:=((l.map (·.1.s)).take i1).flatMap eS) (g:=g6) (GS.ex (G6.fr (N:=h1.n) (X:=[]) (by exact frA) (fun x hx=>by subst hx;exact G6.grp_lt) (by simp))) (SR.new hl121) (by omega) (by omega) (by omega) (by exact topA) fun GG=>?_
  have hgd1:=gd_ge gx (n:=h1.n + 2) (by omega)
  have hgd2:=GG.grp_lt
  simp only [upd_n,jn_n,nb] at hgd2 GG
  repeat' (first|((with_reducible refine hK _ _ fun e2 hEn=>?_);clear hK K;simp only [lv72,forallC,forallL,and_true] at hEn;(try simp only [↓pb,qbs,tb72,ho,oh,orr.1,orr.2,hEg,irN,nrA,nrM,nrE,reduceIte,reduceCtorEq,nrL] at hEn);clear hEg;(try clear eg);have hEg:=hEn;clear hEn;rename Env=>eg)|((first|((with_reducible first|apply oV_intro|apply oH_intro|apply oB_intro);(simp (disch:=first|exact dA|fail) only [qcs,tb72,ho,oh,orr.1,orr.2,hEg,irN,nrA,nrM,nrE,reduceIte,reduceCtorEq,nrL];with_reducible exact rfl))|(with_reducible first|refine W_regionF lv72 fun K hK=>?_));try simp only [↓pb,↓pd,qds,tb72,ho,oh,orr.1,orr.2,hEg,irN,nrA,nrM,nrE,reduceIte,reduceCtorEq,nrL])|((with_reducible apply W_cond);(simp only [↓pb,qbs,tb72,ho,oh,orr.1,orr.2,hEg,irN,nrA,nrM,nrE,reduceIte,reduceCtorEq,nrL];with_reducible exact rfl);all_goals (intro hc;(first|exact hcX hc|try simp only [hcs] at hc)))|(with_reducible first|refine W_seq ?_|refine W_block ?_|refine W_skip ?_|refine W_ret ?_|refine W_exit ?_|apply blockK_exit)|((with_reducible apply blockK_pass);(focus decide))|fail)
  refine ⟨by omega,by simp only [↓pb,qbs,tb72,ho,oh,orr.1,orr.2,hEg,irN,nrA,nrM,nrE,reduceIte,reduceCtorEq,nrL];exact congrArg _ (inc64 (by omega)),by focus exact frA, ?_⟩
  have htk:(l.map (·.1.s)).take (i1 + 1)=(l.map (·.1.s)).take i1 ++ [p.1.s]:=by
   rw [take_getD (by rw [List.length_map];exact hi2),getD_mapA hi2,← hp]
  refine ⟨by simp (disch:=first|exact dA|fail) only [qcs,tb72,ho,oh,orr.1,orr.2,hEg,irN,nrA,nrM,nrE,reduceIte,reduceCtorEq,nrL];exact k1,by simp (disch:=first|exact dA|fail) only [qcs,tb72,ho,oh,orr.1,orr.2,hEg,irN,nrA,nrM,nrE,reduceIte,reduceCtorEq,nrL];exact k2,.slice (some ⟨h1.n + 2,0,none⟩) (i1 + 1) (i1 + 1),some (g6.getD (h1.n + 2)),by simp only [hEg], ?_,gd_all hgd1⟩
  rw [htk,List.flatMap_append,List.flatMap_singleton]
  exact GG
 ·have e1n:i1=l.length:=by omega
  subst e1n
  rw [List.take_of_length_le (by rw [List.length_map];exact Nat.le_refl _)] at G6
  have SA:SR h1 121 (l.map (·.1.s)).length v6 ((l.map (·.1.s)).flatMap eS):=by rw [List.length_map];exact G6.sr
  have hok2:RulsOk (l.map (·.1.s)).length rules:=by rw [List.length_map];exact hok
  have hm1:0 < (l.map (·.1.s)).length:=by rw [List.length_map];exact hl.1
  have hm2:(l.map (·.1.s)).length≤20:=by rw [List.length_map];exact hl.2
  have b1:H.n + 1 < h1.n:=Nat.lt_of_lt_of_le (by simp only [↓pb,qbs,tb72,ho,oh,orr.1,orr.2,hEg,irN,nrA,nrM,nrE,reduceIte,reduceCtorEq,nrL];omega) hF1.n
  have b2:H.n + 2 < h1.n:=Nat.lt_of_lt_of_le (by simp only [↓pb,qbs,tb72,ho,oh,orr.1,orr.2,hEg,irN,nrA,nrM,nrE,reduceIte,reduceCtorEq,nrL];omega) hF1.n
  repeat' (first|((with_reducible refine hK _ _ fun e2 hEn=>?_);clear hK K;simp only [lv72,forallC,forallL,and_true] at hEn;(try simp only [↓pb,qbs,tb72,ho,oh,orr.1,orr.2,hEg,irN,nrA,nrM,nrE,reduceIte,reduceCtorEq,nrL] at hEn);clear hEg;(try clear eg);have hEg:=hEn;clear hEn;rename Env=>eg)|((first|((with_reducible first|apply oV_intro|apply oH_intro|apply oB_intro);(simp (disch:=first|exact dA|fail) only [qcs,tb72,ho,oh,orr.1,orr.2,e6,r2,o6,hEg,irN,nrA,nrM,nrE,reduceIte,reduceCtorEq,nrL];with_reducible exact rfl))|((with_reducible apply WO_callV);(focus exact topA);(simp only [↓pb,qbs,tb72,ho,oh,orr.1,orr.2,e6,r2,o6,hEg,irN,nrA,nrM,nrE,reduceIte,reduceCtorEq,nrL];(exact f91 (H.n + 1) (H.n + 2) vr vs rules hrl hr2 rules.length 0 v6 (l.map (·.1.s)) _ rfl (Nat.zero_le _) (by exact topA) b1 b2 k1 k2 (S.fr0 hF01) (RV.fr hF01 (by simp)) SA hm1 hm2 hok2));(intro Gq hq hJq;try simp only [upd_n,jn_n] at hq))|(with_reducible first|refine W_regionF lv72 fun K hK=>?_));try simp only [↓pb,↓pd,qds,tb72,ho,oh,orr.1,orr.2,e6,r2,o6,hEg,irN,nrA,nrM,nrE,reduceIte,reduceCtorEq,nrL])|((with_reducible apply W_cond);(simp only [↓pb,qbs,tb72,ho,oh,orr.1,orr.2,e6,r2,o6,hEg,irN,nrA,nrM,nrE,reduceIte,reduceCtorEq,nrL];with_reducible exact rfl);all_goals (intro hc;(first|exact hcX hc|try simp only [hcs] at hc)))|(with_reducible first|refine W_seq ?_|refine W_block ?_|refine W_skip ?_|refine W_ret ?_|refine W_exit ?_|apply blockK_exit)|((with_reducible apply blockK_pass);(focus decide))|fail)
  refine ⟨by first|exact .inl rfl|exact .inr rfl, ?_⟩
  rw [ret1 Try.results72]
  simp only [↓pb,qbs,tb72,ho,oh,orr.1,orr.2,rv_tmp,rv_cell,hEg,irN,nrA,nrM,nrE,reduceIte,reduceCtorEq,nrL]
  repeat ((with_reducible apply oV_intro);(simp (disch:=first|exact dA|fail) only [qcs,tb72,ho,oh,orr.1,orr.2,hEg,irN,nrA,nrM,nrE,reduceIte,reduceCtorEq,nrL];exact rfl))
  exact ⟨by rw [List.drop_zero],(by exact frA)⟩
set_option maxHeartbeats 4000000 in
theorem f29 (va vb vc:Value) (g:Gnd) (H:AHeap) (hT:Top H) (hG:RG H va vb vc g) (hsk:g.Spots.length=0∨SK H 3 va) (hs:g.Spots.length≤20) (hs2:g.Sorts.length≤20) :
  ∃ v H',C5 (.fn 29) #[.agg ⟨[va,vb,vc]⟩] H v H'∧v=.tuple #[iv (breaks g).1,iv (breaks g).2.1,iv (breaks g).2.2]∧Fr H.n [] H H':=by
 have hgo:=hG.one
 by_cases hck:check g=0
 ·have ok:=check_ok hck
  have hal:=ok.acts
  have hsp:=ok.spots
  have hso:=ok.sorts
  have hvb:g.Spots.length=0∨vblk va < H.n:=hG.p.lt
  have hsk0:∀ h,Fr H.n [] H h→g.Spots.length=0∨SK h 3 va:=fun h hF=>by
   rcases hsk with q|q
   ·exact .inl q
   ·rcases hvb with q2|q2
    ·exact .inl q2
    ·exact .inr (q.fr hF q2 (by simp))
  refine Cl.ofW Try.func29 rfl (by kernel_rfl) (by rw [Try.ntmps29];exact Nat.le_of_ble_eq_true rfl) (by kernel_rfl) ?_
  have hEg:True:=trivial
  refine gcW [0] ?_
  intro eg hEn
  simp only [forallC,forallL,and_true] at hEn
  try simp only [↓pb,qbs,tb29,hgo,hEg,irN,nrA,nrM,nrE,reduceIte,reduceCtorEq,nrL] at hEn
  replace hEg:=hEn;clear hEn
  repeat' (first|((with_reducible refine hK _ _ fun e2 hEn=>?_);clear hK K;simp only [lv29,forallC,forallL,and_true] at hEn;(try simp only [↓pb,qbs,tb29,hgo,hck,hEg,irN,nrA,nrM,nrE,reduceIte,reduceCtorEq,nrL] at hEn);clear hEg;(try clear eg);have hEg:=hEn;clear hEn;rename Env=>eg)|((first|((with_reducible first|apply oV_intro|apply oH_intro|apply oB_intro);(simp (disch:=first|exact dA|fail) only [qcs,tb29,hgo,hck,hEg,irN,nrA,nrM,nrE,reduceIte,reduceCtorEq,nrL];with_reducible exact rfl))|((with_reducible first|apply oblA_and|apply oblR_and|apply oblO_and);(focus exact obA))|((with_reducible apply WO_callF);(focus exact topA);(simp only [↓pb,qbs,tb29,hgo,hck,hEg,irN,nrA,nrM,nrE,reduceIte,reduceCtorEq,nrL];exact f54 _ _ _ _ _ (by exact topA) (hG.fr (N:=H.n) (by exact frA)) ok.acts (by omega));(rintro vq Gq hq hJq ⟨vh,l,rfl,Sh,el⟩;try simp only [upd_n,jn_n] at hq))|((with_reducible apply WO_callV);(focus exact topA);(simp only [↓pb,qbs,tb29,hgo,hck,hEg,irN,nrA,nrM,nrE,reduceIte,reduceCtorEq,nrL];(exact f25 _ _ _ _ _ (by exact topA) (hG.fr (N:=H.n) (by exact frA)) (by omega) (by omega)));(intro Gq hq hJq;try simp only [upd_n,jn_n] at hq))|(with_reducible first|refine W_regionF lv29 fun K hK=>?_|refine W_drawnF lv29 fun K hK=>?_));try simp only [↓pb,↓pd,qds,tb29,hgo,hck,hEg,irN,nrA,nrM,nrE,reduceIte,reduceCtorEq,nrL])|((first|((with_reducible first|apply WO_gT|apply WO_gF|apply WD_gT|apply WD_gF);exact rfl)|(with_reducible apply W_cond));(simp only [↓pb,qbs,tb29,hgo,hck,hEg,irN,nrA,nrM,nrE,reduceIte,reduceCtorEq,nrL];with_reducible exact rfl);all_goals (intro hc;(first|exact hcX hc|try simp only [hcs] at hc);try ((with_reducible first|apply woI|apply wdI);simp only [↓pb,↓pd,qds,tb29,hgo,hck,hc,hEg,irN,nrA,nrM,nrE,reduceIte,reduceCtorEq,nrL])))|(with_reducible first|refine W_seq ?_|refine W_block ?_|refine W_skip ?_|refine W_ret ?_|refine W_exit ?_|apply blockK_exit)|((with_reducible apply blockK_pass);(focus decide))|fail)
  ·refine ⟨by first|exact .inl rfl|exact .inr rfl, ?_⟩
   rw [ret3 Try.results29]
   simp only [↓pb,qbs,tb29,hgo,rv_tmp,rv_cell,hEg,irN,nrA,nrM,nrE,reduceIte,reduceCtorEq,nrL]
   repeat ((with_reducible apply oV_intro);(simp (disch:=first|exact dA|fail) only [qcs,tb29,hgo,hEg,irN,nrA,nrM,nrE,reduceIte,reduceCtorEq,nrL];exact rfl))
   refine ⟨?_,(by exact frA)⟩
   unfold breaks
   rw [if_neg (fun q=>q hck),if_pos hc]
  have hk0:(known g).2=0:=Decidable.not_not.1 hc
  have hll:l.length=g.Spots.length:=by rw [← known_full hk0,← el,List.length_map]
  refine W_forget (N:=H.n) (X:=[]) (h0:=H) (fun h=>h.get Gq.n=.cells [va,vb,vc,vh] 91 .ex∧RHs h vh l∧H.n < Gq.n∧Gq.n < h.n∧Top h) (by exact frA) ⟨by simp (disch:=first|exact dA|fail) only [qcs,tb29,hgo,hEg,irN,nrA,nrM,nrE,reduceIte,reduceCtorEq,nrL],Sh.fr (N:=Gq.n) (by exact frA),by omega,by simp only [↓pb,qbs,tb29,hgo,hEg,irN,nrA,nrM,nrE,reduceIte,reduceCtorEq,nrL];omega,(by exact topA)⟩ ?_
  rintro hb Fb ⟨b0,Sb,c1,c2,Tb⟩
  obtain ⟨GB,hGB⟩:∃ GB,GB=Gq.n:=⟨_,rfl⟩
  rw [← hGB] at b0 c1 c2 hEg
  clear Sh hq hJq hGB
  have dn:Dis none none:=by intro x hx;cases hx
  have hfew:∀ j,j < l.length→Few ((known g).1.getD j default):=fun j hj=>known_few hal _ (getD_mem (by rw [← el,List.length_map];exact hj))
  have hal2:l.map (·.1.s)=(known g).1.map (·.s):=by rw [← el,List.map_map];rfl
  refine W_count [6] (by kernel_rfl) 25 (73) (H.n) [] [] (fun i e h=>∃ (s:Bst) (v7 v8:Value) (g7 g8:Option Nat),e 7=v7∧e 8=v8∧e 2=iv s.perhaps∧e 3=iv (-1)∧RS h H.n v7 s.singles g7∧RS h H.n v8 s.doubles g8∧Dis g7 g8∧bGo g (known g).1 73 0 ⟨-1,[],[]⟩=bGo g (known g).1 (73 - i) i s∧Fine l.length s.singles∧Fine l.length s.doubles∧s.singles.length≤100 * i∧s.doubles.length≤100 * i) (by simp only [↓pb,qbs,tb29,hgo,hEg,irN,nrA,nrM,nrE,reduceIte,reduceCtorEq,nrL]) (by focus exact topA) (H0:=H) (by focus exact frA) (by intro b hb hlt;simp at hb ⊢;try omega) ?_ ?_
  rotate_left
  intro i1 e1 h1 hi1 hE1 ei1 hF1 hF01 hTh1 hJ1
  simp only [forallC,forallL,and_true] at hE1
  try simp only [↓pb,qbs,tb29,hgo,hEg,irN,nrA,nrM,nrE,reduceIte,reduceCtorEq,nrL] at hE1
  have hn11:=hF1.n;have hn01:=hF01.n;try simp only [upd_n,jn_n] at hn11
  replace hEg:=And.intro ei1 hE1
  rotate_left
  ·exact ⟨⟨-1,[],[]⟩,_,_,none,none,by simp only [↓pb,qbs,tb29,hgo,hEg,irN,nrA,nrM,nrE,reduceIte,reduceCtorEq,nrL],by simp only [↓pb,qbs,tb29,hgo,hEg,irN,nrA,nrM,nrE,reduceIte,reduceCtorEq,nrL],by simp only [↓pb,qbs,tb29,hgo,hEg,irN,nrA,nrM,nrE,reduceIte,reduceCtorEq,nrL],by simp only [↓pb,qbs,tb29,hgo,hEg,irN,nrA,nrM,nrE,reduceIte,reduceCtorEq,nrL],RS.nul,RS.nul,dn,rfl,Fine.nil,Fine.nil,Nat.le_refl _,Nat.le_refl _⟩
  obtain ⟨s,v7,v8,g7,g8,e7,e8,ee2,e3,R7,R8,D78,hgo1,fi7,fi8,ln7,ln8⟩:=hJ1
  have o7:=R7.one
  have o8:=R8.one
  have S1:=Sb.fr hF1
  have G1:=hG.fr hF01
  have d0:h1.get GB=.cells [va,vb,vc,vh] 91 .ex:=by rw [hF1.old _ (by omega) (by simp)];exact b0
  have r0:h1.rd GB=some [va,vb,vc,vh]:=by rw [rd_def,d0];rfl
  have oh:=S1.1.one
  by_cases hi2:i1 < 73
  ·repeat' (first|((with_reducible refine hK _ _ fun e2 hEn=>?_);clear hK K;simp only [lv29,forallC,forallL,and_true] at hEn;(try simp only [↓pb,qbs,tb29,hgo,e7,e8,ee2,e3,r0,hgo,oh,hEg,irN,nrA,nrM,nrE,reduceIte,reduceCtorEq,nrL] at hEn);clear hEg;(try clear eg);have hEg:=hEn;clear hEn;rename Env=>eg)|((first|((with_reducible first|apply oV_intro|apply oH_intro|apply oB_intro);(simp (disch:=first|exact dA|fail) only [qcs,tb29,hgo,e7,e8,ee2,e3,r0,hgo,oh,hEg,irN,nrA,nrM,nrE,reduceIte,reduceCtorEq,nrL];with_reducible exact rfl))|((with_reducible first|apply oblA_and|apply oblR_and|apply oblO_and);(focus exact obA))|((with_reducible apply WO_callF);(focus exact topA);(simp only [↓pb,qbs,tb29,hgo,e7,e8,ee2,e3,r0,hgo,oh,hEg,irN,nrA,nrM,nrE,reduceIte,reduceCtorEq,nrL];exact f68 _ _ _ _ _ _ _ _ (by exact topA) (G1.fr (N:=h1.n) (by exact frA)) (hsk0 _ (by exact frA)) (S1.fr (N:=h1.n) (by exact frA)) ok el hll (by omega));(rintro vq Gq hq hJq ⟨vp,vq2,gh,gp,rfl,RH,RP,DHP⟩;try simp only [upd_n,jn_n] at hq))|((with_reducible apply WO_callF);(focus exact topA);(simp only [↓pb,qbs,tb29,hgo,e7,e8,ee2,e3,r0,hgo,oh,hEg,irN,nrA,nrM,nrE,reduceIte,reduceCtorEq,nrL];exact f54 _ _ _ _ _ (by exact topA) (hG.fr (N:=H.n) (by exact frA)) ok.acts (by omega));(rintro vq Gq hq hJq ⟨vh,l,rfl,Sh,el⟩;try simp only [upd_n,jn_n] at hq))|((with_reducible apply WO_callV);(focus exact topA);(simp only [↓pb,qbs,tb29,hgo,e7,e8,ee2,e3,r0,hgo,oh,hEg,irN,nrA,nrM,nrE,reduceIte,reduceCtorEq,nrL];(exact f25 _ _ _ _ _ (by exact topA) (hG.fr (N:=H.n) (by exact frA)) (by omega) (by omega)));(intro Gq hq hJq;try simp only [upd_n,jn_n] at hq))|(with_reducible first|refine W_regionF lv29 fun K hK=>?_|refine W_drawnF lv29 fun K hK=>?_));try simp only [↓pb,↓pd,qds,tb29,hgo,e7,e8,ee2,e3,r0,hgo,oh,hEg,irN,nrA,nrM,nrE,reduceIte,reduceCtorEq,nrL])|((first|((with_reducible first|apply WO_gT|apply WO_gF|apply WD_gT|apply WD_gF);exact rfl)|(with_reducible apply W_cond));(simp only [↓pb,qbs,tb29,hgo,e7,e8,ee2,e3,r0,hgo,oh,hEg,irN,nrA,nrM,nrE,reduceIte,reduceCtorEq,nrL];with_reducible exact rfl);all_goals (intro hc;(first|exact hcX hc|try simp only [hcs] at hc);try ((with_reducible first|apply woI|apply wdI);simp only [↓pb,↓pd,qds,tb29,hgo,e7,e8,ee2,e3,r0,hgo,oh,hc,hEg,irN,nrA,nrM,nrE,reduceIte,reduceCtorEq,nrL])))|(with_reducible first|refine W_seq ?_|refine W_block ?_|refine W_skip ?_|refine W_ret ?_|refine W_exit ?_|apply blockK_exit)|((with_reducible apply blockK_pass);(focus decide))|fail)
   have FX:Fr h1.n [] h1 (h1.jn Gq):=by exact frA
   have TX:Top (h1.jn Gq):=by exact topA
   generalize h1.jn Gq=X at RH RP FX TX ⊢
   clear hJq hq
   have nX:=FX.n
   have R7x:=R7.fr0 FX
   have R8x:=R8.fr0 FX
   have lh:=heapsR_len g (known g).1 i1 g.Spots.length
   have lp:=pairRules_len g (known g).1 i1 g.Spots.length
   have m1:g.Spots.length * (1 + 2 * g.Acts.length)≤4 * 21:=Nat.mul_le_mul (by omega) (by omega)
   have m2:g.Spots.length * g.Spots.length≤4 * 4:=Nat.mul_le_mul (by omega) (by omega)
   have bh:∀ x,gh=some x→h1.n≤x:=by obtain ⟨_,_,q,_⟩:=RH;exact q
   have bp:∀ x,gp=some x→h1.n≤x:=by obtain ⟨_,_,q,_⟩:=RP;exact q
   have b7:∀ x,g7=some x→H.n≤x:=by obtain ⟨_,_,q,_⟩:=R7;exact q
   have b8:∀ x,g8=some x→H.n≤x:=by obtain ⟨_,_,q,_⟩:=R8;exact q
   have D7h:Dis g7 gh:=Dis.far R7.gn bh
   have D7p:Dis g7 gp:=Dis.far R7.gn bp
   have D8h:Dis g8 gh:=Dis.far R8.gn bh
   have D8p:Dis g8 gp:=Dis.far R8.gn bp
   refine RS114 TX R7x RH (by omega) (by omega) fun w7 Y k7 A7 R7y=>?_
   have R8y:=R8x.keep A7 (D78.symm.ne R8x.gn)
   have RHy:=RH.keep A7 (D7h.symm.ne RH.gn)
   have RPy:=RP.keep A7 (D7p.symm.ne RP.gn)
   have E78:=D78.app A7 R8x.gn
   have E7h:=D7h.app A7 RH.gn
   have nY:=A7.n
   have FY:=A7.fr H.n (by omega) b7
   have TY:=A7.top
   have p7:=R7y.one
   repeat' (first|((with_reducible refine hK _ _ fun e2 hEn=>?_);clear hK K;simp only [lv29,forallC,forallL,and_true] at hEn;(try simp only [↓pb,qbs,tb29,hgo,e8,p7,hEg,irN,nrA,nrM,nrE,reduceIte,reduceCtorEq,nrL] at hEn);clear hEg;(try clear eg);have hEg:=hEn;clear hEn;rename Env=>eg)|((first|((with_reducible first|apply oV_intro|apply oH_intro|apply oB_intro);(simp (disch:=first|exact dA|fail) only [qcs,tb29,hgo,e8,p7,hEg,irN,nrA,nrM,nrE,reduceIte,reduceCtorEq,nrL];with_reducible exact rfl))|((with_reducible first|apply oblA_and|apply oblR_and|apply oblO_and);(focus exact obA))|((with_reducible apply WO_callF);(focus exact topA);(simp only [↓pb,qbs,tb29,hgo,e8,p7,hEg,irN,nrA,nrM,nrE,reduceIte,reduceCtorEq,nrL];exact f54 _ _ _ _ _ (by exact topA) (hG.fr (N:=H.n) (by exact frA)) ok.acts (by omega));(rintro vq Gq hq hJq ⟨vh,l,rfl,Sh,el⟩;try simp only [upd_n,jn_n] at hq))|((with_reducible apply WO_callV);(focus exact topA);(simp only [↓pb,qbs,tb29,hgo,e8,p7,hEg,irN,nrA,nrM,nrE,reduceIte,reduceCtorEq,nrL];(exact f25 _ _ _ _ _ (by exact topA) (hG.fr (N:=H.n) (by exact frA)) (by omega) (by omega)));(intro Gq hq hJq;try simp only [upd_n,jn_n] at hq))|(with_reducible first|refine W_regionF lv29 fun K hK=>?_|refine W_drawnF lv29 fun K hK=>?_));try simp only [↓pb,↓pd,qds,tb29,hgo,e8,p7,hEg,irN,nrA,nrM,nrE,reduceIte,reduceCtorEq,nrL])|((first|((with_reducible first|apply WO_gT|apply WO_gF|apply WD_gT|apply WD_gF);exact rfl)|(with_reducible apply W_cond));(simp only [↓pb,qbs,tb29,hgo,e8,p7,hEg,irN,nrA,nrM,nrE,reduceIte,reduceCtorEq,nrL];with_reducible exact rfl);all_goals (intro hc;(first|exact hcX hc|try simp only [hcs] at hc);try ((with_reducible first|apply woI|apply wdI);simp only [↓pb,↓pd,qds,tb29,hgo,e8,p7,hc,hEg,irN,nrA,nrM,nrE,reduceIte,reduceCtorEq,nrL])))|(with_reducible first|refine W_seq ?_|refine W_block ?_|refine W_skip ?_|refine W_ret ?_|refine W_exit ?_|apply blockK_exit)|((with_reducible apply blockK_pass);(focus decide))|fail)
   refine RS114 TY R8y RPy (by omega) (by omega) fun w8 Z k8 A8 R8z=>?_
   have R7z:=R7y.keep A8 (E78.ne R7y.gn)
   have RHz:=RHy.keep A8 (D8h.symm.ne RHy.gn)
   have RPz:=RPy.keep A8 (D8p.symm.ne RPy.gn)
   have E87:=E78.symm.app A8 R7y.gn
   have E8h:=D8h.app A8 RHy.gn
   have nZ:=A8.n
   have FZ:=A8.fr H.n (by omega) b8
   have TZ:=A8.top
   have p8:=R8z.one
   repeat' (first|((with_reducible refine hK _ _ fun e2 hEn=>?_);clear hK K;simp only [lv29,forallC,forallL,and_true] at hEn;(try simp only [↓pb,qbs,tb29,hgo,p7,p8,hEg,irN,nrA,nrM,nrE,reduceIte,reduceCtorEq,nrL] at hEn);clear hEg;(try clear eg);have hEg:=hEn;clear hEn;rename Env=>eg)|((first|((with_reducible first|apply oV_intro|apply oH_intro|apply oB_intro);(simp (disch:=first|exact dA|fail) only [qcs,tb29,hgo,p7,p8,hEg,irN,nrA,nrM,nrE,reduceIte,reduceCtorEq,nrL];with_reducible exact rfl))|((with_reducible first|apply oblA_and|apply oblR_and|apply oblO_and);(focus exact obA))|((with_reducible apply WO_callF);(focus exact topA);(simp only [↓pb,qbs,tb29,hgo,p7,p8,hEg,irN,nrA,nrM,nrE,reduceIte,reduceCtorEq,nrL];exact f54 _ _ _ _ _ (by exact topA) (hG.fr (N:=H.n) (by exact frA)) ok.acts (by omega));(rintro vq Gq hq hJq ⟨vh,l,rfl,Sh,el⟩;try simp only [upd_n,jn_n] at hq))|((with_reducible apply WO_callV);(focus exact topA);(simp only [↓pb,qbs,tb29,hgo,p7,p8,hEg,irN,nrA,nrM,nrE,reduceIte,reduceCtorEq,nrL];(exact f25 _ _ _ _ _ (by exact topA) (hG.fr (N:=H.n) (by exact frA)) (by omega) (by omega)));(intro Gq hq hJq;try simp only [upd_n,jn_n] at hq))|(with_reducible first|refine W_regionE lv29 [14] fun K hK=>?_|refine W_drawnE lv29 [14] fun K hK=>?_));try simp only [↓pb,↓pd,qds,tb29,hgo,p7,p8,hEg,irN,nrA,nrM,nrE,reduceIte,reduceCtorEq,nrL])|((first|((with_reducible first|apply WO_gT|apply WO_gF|apply WD_gT|apply WD_gF);exact rfl)|(with_reducible apply W_cond));(simp only [↓pb,qbs,tb29,hgo,p7,p8,hEg,irN,nrA,nrM,nrE,reduceIte,reduceCtorEq,nrL];with_reducible exact rfl);all_goals (intro hc;(first|exact hcX hc|try simp only [hcs] at hc);try ((with_reducible first|apply woI|apply wdI);simp only [↓pb,↓pd,qds,tb29,hgo,p7,p8,hc,hEg,irN,nrA,nrM,nrE,reduceIte,reduceCtorEq,nrL])))|(with_reducible first|refine W_seq ?_|refine W_block ?_|refine W_skip ?_|refine W_ret ?_|refine W_exit ?_|apply blockK_exit)|((with_reducible apply blockK_pass);(focus decide))|fail)
   have FhZ:Fr H.n [] h1 Z:=(FX.down hn01).trans (FY.trans FZ)
   have F0Z:Fr H.n [] H Z:=hF01.trans FhZ
   have FbZ:Fr H.n [] hb Z:=hF1.trans FhZ
   have dZ:Z.get GB=.cells [va,vb,vc,vh] 91 .ex:=by rw [FhZ.old _ (by omega) (by simp)];exact d0
   obtain ⟨pp,hpp⟩:∃ pp,pp=if (heapsR g (known g).1 i1 g.Spots.length ++ pairRules g (known g).1 i1 g.Spots.length).any (breaksR (l.map (·.1.s)))=true then earlierI s.perhaps i1 else s.perhaps:=⟨_,rfl⟩
   have fih:=heapsR_fine (g:=g) hfew i1 g.Spots.length (by omega)
   have fip:=pairRules_fine (g:=g) hfew i1 g.Spots.length (by omega)
   have fia:=fih.app fip
   refine W_both (fun e h=>(e 2=iv pp∧e 3=iv (-1)∧e 6=vptr GB 0∧e 7=w7∧e 8=w8∧e 9=iv i1∧e 25=iv i1)∧Fr H.n [] Z h∧RS h H.n w7 (s.singles ++ heapsR g (known g).1 i1 g.Spots.length) k7∧RS h H.n w8 (s.doubles ++ pairRules g (known g).1 i1 g.Spots.length) k8) ?_ ?_
   ·repeat' (first|((with_reducible refine hK _ _ fun e2 hEn=>?_);clear hK K;simp only [lv29,forallC,forallL,and_true] at hEn;(try simp only [↓pb,qbs,tb29,hgo,hEg,irN,nrA,nrM,nrE,reduceIte,reduceCtorEq,nrL] at hEn);clear hEg;(try clear eg);have hEg:=hEn;clear hEn;rename Env=>eg)|((first|((with_reducible first|apply oV_intro|apply oH_intro|apply oB_intro);(simp (disch:=first|exact dA|fail) only [qcs,tb29,hgo,hEg,irN,nrA,nrM,nrE,reduceIte,reduceCtorEq,nrL];with_reducible exact rfl))|((with_reducible first|apply oblA_and|apply oblR_and|apply oblO_and);(focus exact obA))|((with_reducible apply WO_callF);(focus exact topA);(simp only [↓pb,qbs,tb29,hgo,hEg,irN,nrA,nrM,nrE,reduceIte,reduceCtorEq,nrL];exact f54 _ _ _ _ _ (by exact topA) (hG.fr (N:=H.n) (by exact frA)) ok.acts (by omega));(rintro vq Gq hq hJq ⟨vh,l,rfl,Sh,el⟩;try simp only [upd_n,jn_n] at hq))|((with_reducible apply WO_callV);(focus exact topA);(simp only [↓pb,qbs,tb29,hgo,hEg,irN,nrA,nrM,nrE,reduceIte,reduceCtorEq,nrL];(exact f25 _ _ _ _ _ (by exact topA) (hG.fr (N:=H.n) (by exact frA)) (by omega) (by omega)));(intro Gq hq hJq;try simp only [upd_n,jn_n] at hq))|(with_reducible first|refine W_regionF lv29 fun K hK=>?_|refine W_drawnF lv29 fun K hK=>?_));try simp only [↓pb,↓pd,qds,tb29,hgo,hEg,irN,nrA,nrM,nrE,reduceIte,reduceCtorEq,nrL])|((first|((with_reducible first|apply WO_gT|apply WO_gF|apply WD_gT|apply WD_gF);exact rfl)|(with_reducible apply W_cond));(simp only [↓pb,qbs,tb29,hgo,hEg,irN,nrA,nrM,nrE,reduceIte,reduceCtorEq,nrL];with_reducible exact rfl);all_goals (intro hc;(first|exact hcX hc|try simp only [hcs] at hc);try ((with_reducible first|apply woI|apply wdI);simp only [↓pb,↓pd,qds,tb29,hgo,hc,hEg,irN,nrA,nrM,nrE,reduceIte,reduceCtorEq,nrL])))|(with_reducible first|refine W_seq ?_|refine W_block ?_|refine W_skip ?_|refine W_ret ?_|refine W_exit ?_|apply blockK_exit)|((with_reducible apply blockK_pass);(focus decide))|fail)
    refine RS114 TZ RHz RPz (by omega) (by omega) fun w9 V k9 A9 R9=>?_
    have R7v:=R7z.keep A9 ((E7h).ne R7z.gn)
    have R8v:=R8z.keep A9 (E8h.ne R8z.gn)
    have nV:=A9.n
    have FV:=A9.fr H.n (by omega) (fun x hx=>Nat.le_trans hn01 (bh x hx))
    have TV:=A9.top
    have F0V:=F0Z.trans FV
    have gV:V.get GB=Z.get GB:=A9.old GB (by omega)
    have rV:V.rd GB=some [va,vb,vc,vh]:=by rw [rd_def,gV,dZ];rfl
    obtain ⟨vs9,a9,_,c9⟩:=R9
    have p9:=R8v.one
    have ShV:=Sb.fr (Fr.trans FbZ FV)
    have o9:=a9.one
    have hr10:∀ r,r∈heapsR g (known g).1 i1 g.Spots.length ++ pairRules g (known g).1 i1 g.Spots.length→r.length < 1000:=fun r hr=>by have:=(fia r hr).2;omega
    have hl9:(heapsR g (known g).1 i1 g.Spots.length ++ pairRules g (known g).1 i1 g.Spots.length).length < 1000000:=by rw [List.length_append];omega
    refine ⟨⟨.inr gV,trivial⟩, ?_⟩
    repeat' (first|((with_reducible refine hK _ _ fun e2 hEn=>?_);clear hK K;simp only [lv29,forallC,forallL,and_true] at hEn;(try simp only [↓pb,qbs,tb29,hgo,rV,hgo,oh,o9,hEg,irN,nrA,nrM,nrE,reduceIte,reduceCtorEq,nrL] at hEn);clear hEg;(try clear eg);have hEg:=hEn;clear hEn;rename Env=>eg)|((first|((with_reducible first|apply oV_intro|apply oH_intro|apply oB_intro);(simp (disch:=first|exact dA|fail) only [qcs,tb29,hgo,rV,hgo,oh,o9,hEg,irN,nrA,nrM,nrE,reduceIte,reduceCtorEq,nrL];with_reducible exact rfl))|((with_reducible first|apply oblA_and|apply oblR_and|apply oblO_and);(focus exact obA))|((with_reducible apply WO_callF);(focus exact topA);(simp only [↓pb,qbs,tb29,hgo,rV,hgo,oh,o9,hEg,irN,nrA,nrM,nrE,reduceIte,reduceCtorEq,nrL];exact f54 _ _ _ _ _ (by exact topA) (hG.fr (N:=H.n) (by exact frA)) ok.acts (by omega));(rintro vq Gq hq hJq ⟨vh,l,rfl,Sh,el⟩;try simp only [upd_n,jn_n] at hq))|((with_reducible apply WO_callE);(simp only [↓pb,qbs,tb29,hgo,rV,hgo,oh,o9,hEg,irN,nrA,nrM,nrE,reduceIte,reduceCtorEq,nrL];(exact f71 _ _ _)))|((with_reducible apply WO_callV);(focus exact topA);(simp only [↓pb,qbs,tb29,hgo,rV,hgo,oh,o9,hEg,irN,nrA,nrM,nrE,reduceIte,reduceCtorEq,nrL];(first|exact f69 _ _ _ _ _ l [] vs9 _ _ (by exact topA) hgo ShV (by omega) a9.sr c9 fia.ok hr10 hl9|exact f25 _ _ _ _ _ (by exact topA) (hG.fr (N:=H.n) (by exact frA)) (by omega) (by omega)));(intro Gq hq hJq;try simp only [upd_n,jn_n] at hq))|(with_reducible first|refine W_regionF lv29 fun K hK=>?_|refine W_drawnF lv29 fun K hK=>?_));try simp only [↓pb,↓pd,qds,tb29,hgo,rV,hgo,oh,o9,hEg,irN,nrA,nrM,nrE,reduceIte,reduceCtorEq,nrL])|((first|((with_reducible first|apply WO_gT|apply WO_gF|apply WD_gT|apply WD_gF);exact rfl)|(with_reducible apply W_cond));(simp only [↓pb,qbs,tb29,hgo,rV,hgo,oh,o9,hEg,irN,nrA,nrM,nrE,reduceIte,reduceCtorEq,nrL];with_reducible exact rfl);all_goals (intro hc;(first|exact hcX hc|try simp only [hcs] at hc);try ((with_reducible first|apply woI|apply wdI);simp only [↓pb,↓pd,qds,tb29,hgo,rV,hgo,oh,o9,hc,hEg,irN,nrA,nrM,nrE,reduceIte,reduceCtorEq,nrL])))|(with_reducible first|refine W_seq ?_|refine W_block ?_|refine W_skip ?_|refine W_ret ?_|refine W_exit ?_|apply blockK_exit)|((with_reducible apply blockK_pass);(focus decide))|fail)
    ·refine ⟨rfl, ?_,(by exact frA),R7v.fr0 (by exact frA),R8v.fr0 (by exact frA)⟩
     rw [hpp,if_pos hc]
     simp only [hEg,earlierI,and_self]
    ·refine ⟨rfl, ?_,(by exact frA),R7v.fr0 (by exact frA),R8v.fr0 (by exact frA)⟩
     rw [hpp,if_neg (by rw [hc];simp)]
     simp only [hEg,and_self]
   ·rintro e5 h5 ⟨⟨j2,j3,j6,j7,j8,j9,j25⟩,F5,R7w,R8w⟩
    clear hEg R7x R8x R8y RHy RPy R7y R7z RHz RPz R8z TX TY
    have hEg:=And.intro j2 (And.intro j3 (And.intro j6 (And.intro j7 (And.intro j8 (And.intro j9 j25)))))
    clear j2 j3 j6 j7 j8 j9 j25
    have Fh5:=FhZ.trans F5
    have F05:=F0Z.trans F5
    have Fb5:=FbZ.trans F5
    have T5:=F5.top TZ
    have d5:h5.get GB=.cells [va,vb,vc,vh] 91 .ex:=by rw [F5.old _ (by omega) (by simp)];exact dZ
    have r5:h5.rd GB=some [va,vb,vc,vh]:=by rw [rd_def,d5];rfl
    have Sh5:=Sb.fr Fb5
    have o7w:=R7w.one
    have o8w:=R8w.one
    have n5:=Fh5.n
    have hp7:0 < (s.singles ++ heapsR g (known g).1 i1 g.Spots.length).length:=by rw [List.length_append];omega
    have hl78:(s.singles ++ heapsR g (known g).1 i1 g.Spots.length).length + (s.doubles ++ pairRules g (known g).1 i1 g.Spots.length).length≤1000000:=by rw [List.length_append,List.length_append];omega
    have hl78':((s.singles ++ heapsR g (known g).1 i1 g.Spots.length) ++ (s.doubles ++ pairRules g (known g).1 i1 g.Spots.length)).length≤1000000:=by rw [List.length_append];exact hl78
    have fi7':=fi7.app fih
    have fi8':=fi8.app fip
    have fi78:=fi7'.app fi8'
    have hr78:∀ r,r∈(s.singles ++ heapsR g (known g).1 i1 g.Spots.length) ++ (s.doubles ++ pairRules g (known g).1 i1 g.Spots.length)→r.length≤1000:=fun r hr=>by have:=(fi78 r hr).2;omega
    have hbs:bStep g (known g).1 s i1=(⟨pp,s.singles ++ heapsR g (known g).1 i1 g.Spots.length,s.doubles ++ pairRules g (known g).1 i1 g.Spots.length⟩,decide (0≤pp) && !keptL ((s.singles ++ heapsR g (known g).1 i1 g.Spots.length) ++ (s.doubles ++ pairRules g (known g).1 i1 g.Spots.length)) (l.map (·.1.s))):=by
     unfold bStep
     dsimp only
     rw [← hal2,← hpp]
    have hstep:bGo g (known g).1 (73 - i1) i1 s=if (bStep g (known g).1 s i1).2=true then ((bStep g (known g).1 s i1).1.perhaps,(i1:Int)) else bGo g (known g).1 (72 - i1) (i1 + 1) (bStep g (known g).1 s i1).1:=by
     rw [show 73 - i1=(72 - i1) + 1 by omega,bGo]
    repeat' (first|((with_reducible refine hK _ _ fun e2 hEn=>?_);clear hK K;simp only [lv29,forallC,forallL,and_true] at hEn;(try simp only [↓pb,qbs,tb29,hgo,r5,hgo,oh,o7w,o8w,hEg,irN,nrA,nrM,nrE,reduceIte,reduceCtorEq,nrL] at hEn);clear hEg;(try clear eg);have hEg:=hEn;clear hEn;rename Env=>eg)|((first|((with_reducible first|apply oV_intro|apply oH_intro|apply oB_intro);(simp (disch:=first|exact dA|fail) only [qcs,tb29,hgo,r5,hgo,oh,o7w,o8w,hEg,irN,nrA,nrM,nrE,reduceIte,reduceCtorEq,nrL];with_reducible exact rfl))|((with_reducible first|apply oblA_and|apply oblR_and|apply oblO_and);(focus exact obA))|((with_reducible apply WO_callF);(focus exact topA);(simp only [↓pb,qbs,tb29,hgo,r5,hgo,oh,o7w,o8w,hEg,irN,nrA,nrM,nrE,reduceIte,reduceCtorEq,nrL];exact f73 _ _ _ _ _ _ _ _ _ _ (by exact topA) (Nat.lt_succ_self _) upd_get_same (R7w.fr0 (by exact frA)) (R8w.fr0 (by exact frA)) hp7 hl78);(rintro vq Gq hq hJq ⟨vsK,SC,RVK,bK⟩;try simp only [upd_n,jn_n] at hq))|((with_reducible apply WO_callF);(focus exact topA);(simp only [↓pb,qbs,tb29,hgo,r5,hgo,oh,o7w,o8w,hEg,irN,nrA,nrM,nrE,reduceIte,reduceCtorEq,nrL];exact f54 _ _ _ _ _ (by exact topA) (hG.fr (N:=H.n) (by exact frA)) ok.acts (by omega));(rintro vq Gq hq hJq ⟨vh,l,rfl,Sh,el⟩;try simp only [upd_n,jn_n] at hq))|((with_reducible apply WO_callV);(focus exact topA);(simp only [↓pb,qbs,tb29,hgo,r5,hgo,oh,o7w,o8w,hEg,irN,nrA,nrM,nrE,reduceIte,reduceCtorEq,nrL];(first|exact f72 _ _ _ _ _ l vsK _ _ (by exact topA) hgo (Sh5.fr (N:=h5.n) (by exact frA)) ⟨by omega,by omega⟩ SC RVK hl78' hr78 fi78.ok|exact f25 _ _ _ _ _ (by exact topA) (hG.fr (N:=H.n) (by exact frA)) (by omega) (by omega)));(intro Gq hq hJq;try simp only [upd_n,jn_n] at hq))|(with_reducible first|refine W_regionF lv29 fun K hK=>?_|refine W_drawnF lv29 fun K hK=>?_));try simp only [↓pb,↓pd,qds,tb29,hgo,r5,hgo,oh,o7w,o8w,hEg,irN,nrA,nrM,nrE,reduceIte,reduceCtorEq,nrL])|((first|((with_reducible first|apply WO_gT|apply WO_gF|apply WD_gT|apply WD_gF);exact rfl)|(with_reducible apply W_cond));(simp only [↓pb,qbs,tb29,hgo,r5,hgo,oh,o7w,o8w,hEg,irN,nrA,nrM,nrE,reduceIte,reduceCtorEq,nrL];with_reducible exact rfl);all_goals (intro hc;(first|exact hcX hc|try simp only [hcs] at hc);try ((with_reducible first|apply woI|apply wdI);simp only [↓pb,↓pd,qds,tb29,hgo,r5,hgo,oh,o7w,o8w,hc,hEg,irN,nrA,nrM,nrE,reduceIte,reduceCtorEq,nrL])))|(with_reducible first|refine W_seq ?_|refine W_block ?_|refine W_skip ?_|refine W_ret ?_|refine W_exit ?_|apply blockK_exit)|((with_reducible apply blockK_pass);(focus decide))|fail)
    ·have hkf:keptL ((s.singles ++ heapsR g (known g).1 i1 g.Spots.length) ++ (s.doubles ++ pairRules g (known g).1 i1 g.Spots.length)) (l.map (·.1.s))=false:=by simpa using hc
     have h0p:0≤pp:=by assumption
     refine ⟨by first|exact .inl rfl|exact .inr rfl, ?_⟩
     rw [ret3 Try.results29]
     simp only [↓pb,qbs,tb29,hgo,rv_tmp,rv_cell,hEg,irN,nrA,nrM,nrE,reduceIte,reduceCtorEq,nrL]
     repeat ((with_reducible apply oV_intro);(simp (disch:=first|exact dA|fail) only [qcs,tb29,hgo,hEg,irN,nrA,nrM,nrE,reduceIte,reduceCtorEq,nrL];exact rfl))
     refine ⟨?_,(by exact frA)⟩
     unfold breaks
     rw [if_neg (fun q=>q hck),if_neg (fun q=>q hk0),hgo1,hstep,if_pos (by rw [hbs,hkf,decide_eq_true h0p];rfl),hbs]
    ·have hkf:keptL ((s.singles ++ heapsR g (known g).1 i1 g.Spots.length) ++ (s.doubles ++ pairRules g (known g).1 i1 g.Spots.length)) (l.map (·.1.s))=true:=by simpa using hc
     refine ⟨by omega,by simp only [↓pb,qbs,tb29,hgo,hEg,irN,nrA,nrM,nrE,reduceIte,reduceCtorEq,nrL];exact congrArg _ (inc64 (by omega)),by focus exact frA, ?_⟩
     refine ⟨⟨pp,s.singles ++ heapsR g (known g).1 i1 g.Spots.length,s.doubles ++ pairRules g (known g).1 i1 g.Spots.length⟩,w7,w8,k7,k8,by simp only [hEg],by simp only [hEg],by simp only [hEg],by simp only [hEg],R7w.fr0 (by exact frA),R8w.fr0 (by exact frA),E87.symm, ?_,fi7',fi8', ?_, ?_⟩
     ·rw [hgo1,hstep,if_neg (by rw [hbs,hkf];simp),hbs,show 72 - i1=73 - (i1 + 1) by omega]
     ·rw [List.length_append]
      omega
     ·rw [List.length_append]
      omega
    ·have h0p:¬ 0≤pp:=by assumption
     refine ⟨by omega,by simp only [↓pb,qbs,tb29,hgo,hEg,irN,nrA,nrM,nrE,reduceIte,reduceCtorEq,nrL];exact congrArg _ (inc64 (by omega)),by focus exact frA, ?_⟩
     refine ⟨⟨pp,s.singles ++ heapsR g (known g).1 i1 g.Spots.length,s.doubles ++ pairRules g (known g).1 i1 g.Spots.length⟩,w7,w8,k7,k8,by simp only [hEg],by simp only [hEg],by simp only [hEg],by simp only [hEg],R7w,R8w,E87.symm, ?_,fi7',fi8', ?_, ?_⟩
     ·rw [hgo1,hstep,if_neg (by rw [hbs,decide_eq_false h0p];simp),hbs,show 72 - i1=73 - (i1 + 1) by omega]
     ·rw [List.length_append]
      omega
     ·rw [List.length_append]
      omega
  ·have e1n:i1=73:=by omega
   subst e1n
   repeat' (first|((with_reducible refine hK _ _ fun e2 hEn=>?_);clear hK K;simp only [lv29,forallC,forallL,and_true] at hEn;(try simp only [↓pb,qbs,tb29,hgo,ee2,e3,hEg,irN,nrA,nrM,nrE,reduceIte,reduceCtorEq,nrL] at hEn);clear hEg;(try clear eg);have hEg:=hEn;clear hEn;rename Env=>eg)|((first|((with_reducible first|apply oV_intro|apply oH_intro|apply oB_intro);(simp (disch:=first|exact dA|fail) only [qcs,tb29,hgo,ee2,e3,hEg,irN,nrA,nrM,nrE,reduceIte,reduceCtorEq,nrL];with_reducible exact rfl))|((with_reducible first|apply oblA_and|apply oblR_and|apply oblO_and);(focus exact obA))|((with_reducible apply WO_callF);(focus exact topA);(simp only [↓pb,qbs,tb29,hgo,ee2,e3,hEg,irN,nrA,nrM,nrE,reduceIte,reduceCtorEq,nrL];exact f54 _ _ _ _ _ (by exact topA) (hG.fr (N:=H.n) (by exact frA)) ok.acts (by omega));(rintro vq Gq hq hJq ⟨vh,l,rfl,Sh,el⟩;try simp only [upd_n,jn_n] at hq))|((with_reducible apply WO_callV);(focus exact topA);(simp only [↓pb,qbs,tb29,hgo,ee2,e3,hEg,irN,nrA,nrM,nrE,reduceIte,reduceCtorEq,nrL];(exact f25 _ _ _ _ _ (by exact topA) (hG.fr (N:=H.n) (by exact frA)) (by omega) (by omega)));(intro Gq hq hJq;try simp only [upd_n,jn_n] at hq))|(with_reducible first|refine W_regionF lv29 fun K hK=>?_|refine W_drawnF lv29 fun K hK=>?_));try simp only [↓pb,↓pd,qds,tb29,hgo,ee2,e3,hEg,irN,nrA,nrM,nrE,reduceIte,reduceCtorEq,nrL])|((first|((with_reducible first|apply WO_gT|apply WO_gF|apply WD_gT|apply WD_gF);exact rfl)|(with_reducible apply W_cond));(simp only [↓pb,qbs,tb29,hgo,ee2,e3,hEg,irN,nrA,nrM,nrE,reduceIte,reduceCtorEq,nrL];with_reducible exact rfl);all_goals (intro hc;(first|exact hcX hc|try simp only [hcs] at hc);try ((with_reducible first|apply woI|apply wdI);simp only [↓pb,↓pd,qds,tb29,hgo,ee2,e3,hc,hEg,irN,nrA,nrM,nrE,reduceIte,reduceCtorEq,nrL])))|(with_reducible first|refine W_seq ?_|refine W_block ?_|refine W_skip ?_|refine W_ret ?_|refine W_exit ?_|apply blockK_exit)|((with_reducible apply blockK_pass);(focus decide))|fail)
   refine ⟨by first|exact .inl rfl|exact .inr rfl, ?_⟩
   rw [ret3 Try.results29]
   simp only [↓pb,qbs,tb29,hgo,rv_tmp,rv_cell,hEg,irN,nrA,nrM,nrE,reduceIte,reduceCtorEq,nrL]
   repeat ((with_reducible apply oV_intro);(simp (disch:=first|exact dA|fail) only [qcs,tb29,hgo,hEg,irN,nrA,nrM,nrE,reduceIte,reduceCtorEq,nrL];exact rfl))
   refine ⟨?_,(by exact frA)⟩
   unfold breaks
   rw [if_neg (fun q=>q hck),if_neg (fun q=>q hk0),hgo1]
   rfl
 ·refine Cl.ofW Try.func29 rfl (by kernel_rfl) (by rw [Try.ntmps29];exact Nat.le_of_ble_eq_true rfl) (by kernel_rfl) ?_
  have hEg:True:=trivial
  refine gcW [0] ?_
  intro eg hEn
  simp only [forallC,forallL,and_true] at hEn
  try simp only [↓pb,qbs,tb29,hgo,hEg,irN,nrA,nrM,nrE,reduceIte,reduceCtorEq,nrL] at hEn
  replace hEg:=hEn;clear hEn
  repeat' (first|((with_reducible refine hK _ _ fun e2 hEn=>?_);clear hK K;simp only [lv29,forallC,forallL,and_true] at hEn;(try simp only [↓pb,qbs,tb29,hgo,hck,hEg,irN,nrA,nrM,nrE,reduceIte,reduceCtorEq,nrL] at hEn);clear hEg;(try clear eg);have hEg:=hEn;clear hEn;rename Env=>eg)|((first|((with_reducible first|apply oV_intro|apply oH_intro|apply oB_intro);(simp (disch:=first|exact dA|fail) only [qcs,tb29,hgo,hck,hEg,irN,nrA,nrM,nrE,reduceIte,reduceCtorEq,nrL];with_reducible exact rfl))|((with_reducible first|apply oblA_and|apply oblR_and|apply oblO_and);(focus exact obA))|((with_reducible apply WO_callV);(focus exact topA);(simp only [↓pb,qbs,tb29,hgo,hck,hEg,irN,nrA,nrM,nrE,reduceIte,reduceCtorEq,nrL];(exact f25 _ _ _ _ _ (by exact topA) (hG.fr (N:=H.n) (by exact frA)) (by omega) (by omega)));(intro Gq hq hJq;try simp only [upd_n,jn_n] at hq))|(with_reducible first|refine W_regionF lv29 fun K hK=>?_|refine W_drawnF lv29 fun K hK=>?_));try simp only [↓pb,↓pd,qds,tb29,hgo,hck,hEg,irN,nrA,nrM,nrE,reduceIte,reduceCtorEq,nrL])|((first|((with_reducible first|apply WO_gT|apply WO_gF|apply WD_gT|apply WD_gF);exact rfl)|(with_reducible apply W_cond));(simp only [↓pb,qbs,tb29,hgo,hck,hEg,irN,nrA,nrM,nrE,reduceIte,reduceCtorEq,nrL];with_reducible exact rfl);all_goals (intro hc;(first|exact hcX hc|try simp only [hcs] at hc);try ((with_reducible first|apply woI|apply wdI);simp only [↓pb,↓pd,qds,tb29,hgo,hck,hc,hEg,irN,nrA,nrM,nrE,reduceIte,reduceCtorEq,nrL])))|(with_reducible first|refine W_seq ?_|refine W_block ?_|refine W_skip ?_|refine W_ret ?_|refine W_exit ?_|apply blockK_exit)|((with_reducible apply blockK_pass);(focus decide))|fail)
  refine ⟨by first|exact .inl rfl|exact .inr rfl, ?_⟩
  rw [ret3 Try.results29]
  simp only [↓pb,qbs,tb29,hgo,rv_tmp,rv_cell,hEg,irN,nrA,nrM,nrE,reduceIte,reduceCtorEq,nrL]
  repeat ((with_reducible apply oV_intro);(simp (disch:=first|exact dA|fail) only [qcs,tb29,hgo,hEg,irN,nrA,nrM,nrE,reduceIte,reduceCtorEq,nrL];exact rfl))
  refine ⟨?_,(by exact frA)⟩
  unfold breaks
  rw [if_pos hck]




end Go.Proofs.Swa
