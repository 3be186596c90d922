/- Part 8 of a proof. -/
import Derived.Test.YtloabbaheifkgaaP07
set_option maxRecDepth 20000
set_option linter.unusedVariables false
set_option linter.unusedSimpArgs false
namespace Go.Proofs.Swa
open Go
open Nat renaming reduceAdd → nrA, reduceMul → nrM, reduceEqDiff → nrE, reduceLT → nrL
open Int renaming reduceToNat → irN
attribute [local congr] WO_congr oV_congr oB_congr oH_congr WD_congr oblO_congr oblA_congr oblR_congr
theorem und127:Try.prog.underlying 127=some (.map 129 3):=by kernel_rfl
theorem key129 (a b:Int):keyOk Try.prog 129 (k2 a b)=true:=by kernel_rfl
theorem keq129 (a b c d:Int):pr Try.prog (Op.equal 129 (k2 a b) (k2 c d))=some (decide (a=c∧b=d)):=by
 show pr Try.prog (Op.equalIn (9999 + 1) 129 (k2 a b) (k2 c d))=_
 rw [pr_equal_struct und129 (by kernel_rfl)]
 have e:eqList fs129=[(3,0),(3,1)]:=by kernel_rfl
 rw [e,eqPs_int (a:=a) (b:=c) ag3 und3 rfl rfl,eqPs_int (a:=b) (b:=d) ag3 und3 rfl rfl,eqPs_nil]
 by_cases h1:a=c <;> by_cases h2:b=d <;> simp [h1,h2]
theorem mu127 {H:AHeap} {r:Nat} {l:List Ent2} {a b d:Int} (hg:H.get r=.map (entK l)) (hn:findE a b l 0=none):mapUpdateA Try.prog 127 (.map (some r)) (k2 a b) (iv d) H=some (H.upd H.n r (.map (entK (l ++ [((a,b),d)])))) :=
 mapUpdate_s2 und127 key129 keq129 hg hn
theorem lk127n {H:AHeap} {r:Nat} {l:List Ent2} {a b:Int} (hg:H.get r=.map (entK l)) (hn:findE a b l 0=none):lookupA Try.prog 127 (.map (some r)) (k2 a b) true H=some (.tuple #[iv 0,.bool false]):=by
 rw [lookup_s2 und127 key129 keq129 zr3 hg,hn]
theorem lk127s {H:AHeap} {r:Nat} {l:List Ent2} {a b:Int} {y:Nat×Value} (hg:H.get r=.map (entK l)) (hn:findE a b l 0=some y):lookupA Try.prog 127 (.map (some r)) (k2 a b) true H=some (.tuple #[y.2,.bool true]):=by
 rw [lookup_s2 und127 key129 keq129 zr3 hg,hn]
structure PaidH (names lim win:Int) (vl vdt vd:Value) (B:List Bool) (N:Nat) (LO:AObj) (h:AHeap):Prop where
 g0:h.get N=.cells (eTill names lim win vl vdt) 48 .ex
 g1:h.get (N + 1)=.cells [vd] 46 .ex
 g2:h.get (N + 2)=.cells (B.map .bool) 121 .ex
 g4:h.get (N + 4)=.cells [.map (some (N + 3))] 127 .ex
 g5:h.get (N + 5)=.cells [vd] 46 .ex
 g6:h.get (N + 6)=LO
 n:N + 6 < h.n
theorem f114 (vl vdt vd:Value) (names:Nat) (lim win:Int) (B:List Bool) (l:List Due) (H:AHeap) (hT:Top H) (hvl:one vl) (hvt:one vdt) (S:SR H 4 l.length vd (l.flatMap eDue)) (hl:l.length < 1000000) (hB:B.length=64) (hn:names≤8) (hd:∀ i,i < l.length→0≤(l.getD i default).Name∧(l.getD i default).Name < 8) :
  ∃ v H',C8 (.fn 114) #[.agg ⟨eTill names lim win vl vdt⟩,vd,.agg ⟨B.map .bool⟩] H v H'∧(∃ r,v=.map (some r)∧H'.get r=.map (entK (paidGo (fun n d=>wGo B win n d l) names l []))∧H.n≤r∧r < H'.n)∧Fr H.n [] H H':=by
 have so:=S.one
 have hBat:Swa.atN (B.map Value.bool) 0 64=some (.agg ⟨B.map .bool⟩):=by
  unfold Swa.atN
  rw [if_pos (by rw [List.length_map];omega),List.drop_zero,List.take_of_length_le (by rw [List.length_map];omega)]
 refine Cl.ofW Try.func114 rfl (by kernel_rfl) (by rw [Try.ntmps114];exact Nat.le_of_ble_eq_true rfl) (by kernel_rfl) ?_
 have hEg:True:=trivial
 refine gcW [0,1,2] ?_
 intro eg hEn
 simp only [forallC,forallL,and_true] at hEn
 try simp only [↓pb,qbs,tb114,eTill,hvl,hvt,so,so.1,so.2,Option.map_none,Option.map_some,hEg,irN,nrA,nrM,nrE,reduceIte,reduceCtorEq,nrL] at hEn
 replace hEg:=hEn;clear hEn
 repeat' (first|((with_reducible refine hK _ _ fun e2 hEn=>?_);clear hK K;simp only [lv114,forallC,forallL,and_true] at hEn;(try simp only [↓pb,qbs,tb114,eTill,hvl,hvt,so,so.1,so.2,Option.map_none,Option.map_some,hEg,irN,nrA,nrM,nrE,reduceIte,reduceCtorEq,nrL] at hEn);clear hEg;(try clear eg);have hEg:=hEn;clear hEn;rename Env=>eg)|((first|((with_reducible first|apply oV_intro|apply oH_intro|apply oB_intro);(simp (disch:=try exact dA) only [qcs,tb114,eTill,hvl,hvt,so,so.1,so.2,Option.map_none,Option.map_some,hEg,irN,nrA,nrM,nrE,reduceIte,reduceCtorEq,nrL];with_reducible exact rfl))|((with_reducible first|apply oblA_and|apply oblR_and|apply oblO_and);(focus exact obA))|((with_reducible apply WO_callE);(simp only [↓pb,qbs,tb114,eTill,hvl,hvt,so,so.1,so.2,Option.map_none,Option.map_some,hEg,irN,nrA,nrM,nrE,reduceIte,reduceCtorEq,nrL];(exact f112 _ _ so)))|(with_reducible first|refine W_regionF lv114 fun K hK=>?_|refine W_drawnF lv114 fun K hK=>?_));try simp only [↓pb,↓pd,qds,tb114,eTill,hvl,hvt,so,so.1,so.2,Option.map_none,Option.map_some,hEg,irN,nrA,nrM,nrE,reduceIte,reduceCtorEq,nrL])|((with_reducible apply W_cond);(simp only [↓pb,qbs,tb114,eTill,hvl,hvt,so,so.1,so.2,Option.map_none,Option.map_some,hEg,irN,nrA,nrM,nrE,reduceIte,reduceCtorEq,nrL];with_reducible exact rfl);all_goals (intro hc;(first|exact hcX hc|try simp only [hcs] at hc)))|(with_reducible first|refine W_seq ?_|refine W_block ?_|refine W_skip ?_|refine W_ret ?_|refine W_exit ?_|apply blockK_exit)|((with_reducible apply blockK_pass);(focus decide))|fail)
 refine W_range2 fun LO hLO hLg=>?_
 simp only [↓pb,qbs,tb114,eTill,hvl,hvt,so,so.1,so.2,Option.map_none,Option.map_some,hEg,irN,nrA,nrM,nrE,reduceIte,reduceCtorEq,nrL]
 obtain ⟨f,hf⟩:∃ f:Int→Int→Int,f=fun n d=>wGo B win n d l:=⟨_,rfl⟩
 rw [← hf]
 let J:Nat→AHeap→Prop:=fun i h=>h.get (H.n + 3)=.map (entK (paidGo f names (l.take i) []))∧PaidH names lim win vl vdt vd B H.n LO h∧Fr H.n [] H h∧Top h
 suffices hs:∃ v H1,C8 (.fn 124) #[.func (.yield (H.n + 6)) #[] #[],vptr (H.n + 5) 0] _ v H1∧v=.tuple #[]∧J l.length H1 by
  obtain ⟨v,H1,c1,rfl,j1,j2,j3,j4⟩:=hs
  refine ⟨_,H1,c1,j2.g6,fun LX hLX=>?_⟩
  have r4:H1.rd (H.n + 4)=some [.map (some (H.n + 3))]:=by rw [rd_def,j2.g4];rfl
  have jn:=j2.n
  rw [List.take_length] at j1
  repeat' (first|((with_reducible refine hK _ _ fun e2 hEn=>?_);clear hK K;simp only [lv114,forallC,forallL,and_true] at hEn;(try simp only [↓pb,qbs,tb114,eTill,hvl,hvt,so,so.1,so.2,Option.map_none,Option.map_some,hEg,irN,nrA,nrM,nrE,reduceIte,reduceCtorEq,nrL] at hEn);clear hEg;(try clear eg);have hEg:=hEn;clear hEn;rename Env=>eg)|((first|((with_reducible first|apply oV_intro|apply oH_intro|apply oB_intro);(simp (disch:=try exact dA) only [qcs,tb114,eTill,hvl,hvt,so,so.1,so.2,Option.map_none,Option.map_some,r4,hEg,irN,nrA,nrM,nrE,reduceIte,reduceCtorEq,nrL];with_reducible exact rfl))|((with_reducible first|apply oblA_and|apply oblR_and|apply oblO_and);(focus exact obA))|((with_reducible apply WO_callE);(simp only [↓pb,qbs,tb114,eTill,hvl,hvt,so,so.1,so.2,Option.map_none,Option.map_some,r4,hEg,irN,nrA,nrM,nrE,reduceIte,reduceCtorEq,nrL];(exact f112 _ _ so)))|(with_reducible first|refine W_regionF lv114 fun K hK=>?_|refine W_drawnF lv114 fun K hK=>?_));try simp only [↓pb,↓pd,qds,tb114,eTill,hvl,hvt,so,so.1,so.2,Option.map_none,Option.map_some,r4,hEg,irN,nrA,nrM,nrE,reduceIte,reduceCtorEq,nrL])|((with_reducible apply W_cond);(simp only [↓pb,qbs,tb114,eTill,hvl,hvt,so,so.1,so.2,Option.map_none,Option.map_some,r4,hEg,irN,nrA,nrM,nrE,reduceIte,reduceCtorEq,nrL];with_reducible exact rfl);all_goals (intro hc;(first|exact hcX hc|try simp only [hcs] at hc)))|(with_reducible first|refine W_seq ?_|refine W_block ?_|refine W_skip ?_|refine W_ret ?_|refine W_exit ?_|apply blockK_exit)|((with_reducible apply blockK_pass);(focus decide))|fail)
  refine ⟨by first|exact .inl rfl|exact .inr rfl, ?_⟩
  rw [ret1 Try.results114]
  simp only [↓pb,qbs,tb114,eTill,hvl,hvt,so,so.1,so.2,Option.map_none,Option.map_some,rv_tmp,rv_cell,hEg,irN,nrA,nrM,nrE,reduceIte,reduceCtorEq,nrL]
  repeat ((with_reducible apply oV_intro);(simp (disch:=try exact dA) only [qcs,tb114,eTill,hvl,hvt,so,so.1,so.2,Option.map_none,Option.map_some,hEg,irN,nrA,nrM,nrE,reduceIte,reduceCtorEq,nrL];exact rfl))
  refine ⟨⟨H.n + 3,by first|rfl|simp [*],by simp (disch:=try exact dA) only [qcs,tb114,eTill,hvl,hvt,so,so.1,so.2,Option.map_none,Option.map_some,hEg,irN,nrA,nrM,nrE,reduceIte,reduceCtorEq,nrL];exact j1,by omega,by first|omega|(simp only [upd_n];omega)⟩, ?_⟩
  (repeat' (first|with_reducible exact Fr.refl _|with_reducible assumption|((with_reducible apply Fr.trans) <;> with_reducible assumption)|((with_reducible refine Fr.jn ?_ ?_ ?_);rotate_left;(focus with_reducible assumption);(focus ((try simp only [upd_n,jn_n]);omega)))|((with_reducible refine Fr.upd ?_ ?_ ?_ ?_ ?_);rotate_left;(focus ((try simp only [upd_n,jn_n]);omega));(focus ((try simp only [upd_n,jn_n]);omega));(focus first|(left;((try simp only [upd_n,jn_n]);omega))|(right;simp;done));(focus first|trivial|apply hLX|apply hLB|apply hLg|exact ⟨by ((try simp only [upd_n,jn_n]);omega),by ((try simp only [upd_n,jn_n]);omega)⟩))))
 have hmono:∀ i h h',J i h→Fr h.n [] h h'→J i h':=by
  rintro i h h' ⟨j1,j2,j3,j4⟩ F
  have hn:=j2.n
  have ho:∀ b,b < h.n→h'.get b=h.get b:=fun b hb=>F.old b hb (by simp)
  refine ⟨by rw [ho _ (by omega)];exact j1,⟨?_, ?_, ?_, ?_, ?_, ?_,Nat.lt_of_lt_of_le hn F.n⟩,j3.call F j3.n,F.top j4⟩
  ·rw [ho _ (by omega)];exact j2.g0
  ·rw [ho _ (by omega)];exact j2.g1
  ·rw [ho _ (by omega)];exact j2.g2
  ·rw [ho _ (by omega)];exact j2.g4
  ·rw [ho _ (by omega)];exact j2.g5
  ·rw [ho _ (by omega)];exact j2.g6
 refine f124 (H.n + 6) (H.n + 5) vd l _ J (by omega) ?_ ?_ ?_ ?_ ?_
 ·refine ⟨?_,⟨?_, ?_, ?_, ?_, ?_, ?_, ?_⟩, ?_, ?_⟩
  all_goals first|(simp only [upd_n];omega;done)|(simp (disch:=try exact dA) only [qcs,tb114,eTill,hvl,hvt,so,so.1,so.2,Option.map_none,Option.map_some,hEg,irN,nrA,nrM,nrE,reduceIte,reduceCtorEq,nrL];done)|(simp (disch:=try exact dA) only [qcs,tb114,eTill,hvl,hvt,so,so.1,so.2,Option.map_none,Option.map_some,hEg,irN,nrA,nrM,nrE,reduceIte,reduceCtorEq,nrL];rfl)|skip
  ·(repeat' (first|with_reducible exact Fr.refl _|with_reducible assumption|((with_reducible apply Fr.trans) <;> with_reducible assumption)|((with_reducible refine Fr.jn ?_ ?_ ?_);rotate_left;(focus with_reducible assumption);(focus ((try simp only [upd_n,jn_n]);omega)))|((with_reducible refine Fr.upd ?_ ?_ ?_ ?_ ?_);rotate_left;(focus ((try simp only [upd_n,jn_n]);omega));(focus ((try simp only [upd_n,jn_n]);omega));(focus first|(left;((try simp only [upd_n,jn_n]);omega))|(right;simp;done));(focus first|trivial|apply hLX|apply hLB|apply hLg|exact ⟨by ((try simp only [upd_n,jn_n]);omega),by ((try simp only [upd_n,jn_n]);omega)⟩))))
  ·(repeat' (first|with_reducible assumption|((with_reducible refine Top.jn ?_ ?_);rotate_left;(focus with_reducible assumption))|((with_reducible refine Top.upd ?_ ?_ ?_ ?_);rotate_left;(focus ((try simp only [upd_n,jn_n]);omega));(focus ((try simp only [upd_n,jn_n]);omega));(focus first|trivial|apply hLX|apply hLB|apply hLg|exact ⟨by ((try simp only [upd_n,jn_n]);omega),by ((try simp only [upd_n,jn_n]);omega)⟩))))
 ·rintro i h ⟨j1,j2,j3,j4⟩
  have hn:=j2.n
  exact ⟨by rw [rd_def,j2.g5];rfl,by omega,S.fr0 j3⟩
 ·intro i h c hJ
  exact hmono i h _ hJ Fr.ex
 ·rintro i h hi hs ⟨j1,j2⟩
  refine ⟨?_,j2⟩
  rw [take_getD hi,paidGo_snoc,if_neg (by rw [hs];exact Bool.false_ne_true)]
  exact j1
 ·rintro i h hi hs ⟨j1,⟨g0,g1,g2,g4,g5,g6,gn⟩,j3,j4⟩
  have e1:paidGo f names (l.take (i + 1)) []=paidRow f (l.getD i default).Day names (paidGo f names (l.take i) []):=by
   rw [take_getD hi,paidGo_snoc,if_pos hs]
  generalize paidGo f names (l.take i) []=es at j1 e1
  generalize l.getD i default=d at *
  have r0:h.rd H.n=some [iv names,iv lim,iv win,vl,vdt]:=by rw [rd_def,g0];rfl
  have hn0:=j3.n
  refine round_W2 hLO g6 rfl (by kernel_rfl) (by kernel_rfl) (by kernel_rfl) (by kernel_rfl) (by kernel_rfl) ?_
  rw [roundEnv2]
  repeat' (first|((with_reducible refine hK _ _ fun e2 hEn=>?_);clear hK K;simp only [lv114,forallC,forallL,and_true] at hEn;(try simp only [↓pb,qbs,tb114,eTill,hvl,hvt,so,so.1,so.2,Option.map_none,Option.map_some,hEg,irN,nrA,nrM,nrE,reduceIte,reduceCtorEq,nrL] at hEn);clear hEg;(try clear eg);have hEg:=hEn;clear hEn;rename Env=>eg)|((first|((with_reducible first|apply oV_intro|apply oH_intro|apply oB_intro);(simp (disch:=try exact dA) only [qcs,tb114,eTill,hvl,hvt,so,so.1,so.2,Option.map_none,Option.map_some,eDue,hEg,irN,nrA,nrM,nrE,reduceIte,reduceCtorEq,nrL];with_reducible exact rfl))|((with_reducible first|apply oblA_and|apply oblR_and|apply oblO_and);(focus exact obA))|((with_reducible apply WO_callE);(simp only [↓pb,qbs,tb114,eTill,hvl,hvt,so,so.1,so.2,Option.map_none,Option.map_some,eDue,hEg,irN,nrA,nrM,nrE,reduceIte,reduceCtorEq,nrL];(exact f112 _ _ so)))|(with_reducible first|refine W_regionF lv114 fun K hK=>?_|refine W_drawnF lv114 fun K hK=>?_));try simp only [↓pb,↓pd,qds,tb114,eTill,hvl,hvt,so,so.1,so.2,Option.map_none,Option.map_some,eDue,hEg,irN,nrA,nrM,nrE,reduceIte,reduceCtorEq,nrL])|((with_reducible apply W_cond);(simp only [↓pb,qbs,tb114,eTill,hvl,hvt,so,so.1,so.2,Option.map_none,Option.map_some,eDue,hEg,irN,nrA,nrM,nrE,reduceIte,reduceCtorEq,nrL];with_reducible exact rfl);all_goals (intro hc;(first|exact hcX hc|try simp only [hcs] at hc)))|(with_reducible first|refine W_seq ?_|refine W_block ?_|refine W_skip ?_|refine W_ret ?_|refine W_exit ?_|apply blockK_exit)|((with_reducible apply blockK_pass);(focus decide))|fail)
  refine ⟨rfl,by simp (disch:=try exact dA) only [qcs,tb114,eTill,hvl,hvt,so,so.1,so.2,Option.map_none,Option.map_some,hEg,irN,nrA,nrM,nrE,reduceIte,reduceCtorEq,nrL];exact g6,fun LB hLB=>?_⟩
  repeat' (first|((with_reducible refine hK _ _ fun e2 hEn=>?_);clear hK K;simp only [lv114,forallC,forallL,and_true] at hEn;(try simp only [↓pb,qbs,tb114,eTill,hvl,hvt,so,so.1,so.2,Option.map_none,Option.map_some,hEg,irN,nrA,nrM,nrE,reduceIte,reduceCtorEq,nrL] at hEn);clear hEg;(try clear eg);have hEg:=hEn;clear hEn;rename Env=>eg)|((first|((with_reducible first|apply oV_intro|apply oH_intro|apply oB_intro);(simp (disch:=try exact dA) only [qcs,tb114,eTill,hvl,hvt,so,so.1,so.2,Option.map_none,Option.map_some,eDue,r0,hEg,irN,nrA,nrM,nrE,reduceIte,reduceCtorEq,nrL];with_reducible exact rfl))|((with_reducible first|apply oblA_and|apply oblR_and|apply oblO_and);(focus exact obA))|((with_reducible apply WO_callE);(simp only [↓pb,qbs,tb114,eTill,hvl,hvt,so,so.1,so.2,Option.map_none,Option.map_some,eDue,r0,hEg,irN,nrA,nrM,nrE,reduceIte,reduceCtorEq,nrL];(exact f112 _ _ so)))|(with_reducible first|refine W_regionF lv114 fun K hK=>?_|refine W_drawnF lv114 fun K hK=>?_));try simp only [↓pb,↓pd,qds,tb114,eTill,hvl,hvt,so,so.1,so.2,Option.map_none,Option.map_some,eDue,r0,hEg,irN,nrA,nrM,nrE,reduceIte,reduceCtorEq,nrL])|((with_reducible apply W_cond);(simp only [↓pb,qbs,tb114,eTill,hvl,hvt,so,so.1,so.2,Option.map_none,Option.map_some,eDue,r0,hEg,irN,nrA,nrM,nrE,reduceIte,reduceCtorEq,nrL];with_reducible exact rfl);all_goals (intro hc;(first|exact hcX hc|try simp only [hcs] at hc)))|(with_reducible first|refine W_seq ?_|refine W_block ?_|refine W_skip ?_|refine W_ret ?_|refine W_exit ?_|apply blockK_exit)|((with_reducible apply blockK_pass);(focus decide))|fail)
  have rr:∀ b,b < h.n→b≠H.n + 6→∀ c T,h.get b=.cells c T .ex→h.rd b=some c:=fun b _ _ c T q=>by rw [rd_def,q];rfl
  refine W_count [3,4,5,7,9,20] (by kernel_rfl) 21 (names) (H.n) [H.n + 3] [] (fun i e h=>h.get (H.n + 3)=.map (entK (paidRow f d.Day i es))) (by simp only [↓pb,qbs,tb114,eTill,hvl,hvt,so,so.1,so.2,Option.map_none,Option.map_some,hEg,irN,nrA,nrM,nrE,reduceIte,reduceCtorEq,nrL]) (by focus (repeat' (first|with_reducible assumption|((with_reducible refine Top.jn ?_ ?_);rotate_left;(focus with_reducible assumption))|((with_reducible refine Top.upd ?_ ?_ ?_ ?_);rotate_left;(focus ((try simp only [upd_n,jn_n]);omega));(focus ((try simp only [upd_n,jn_n]);omega));(focus first|trivial|apply hLX|apply hLB|apply hLg|exact ⟨by ((try simp only [upd_n,jn_n]);omega),by ((try simp only [upd_n,jn_n]);omega)⟩))))) (H0:=H) (by focus (repeat' (first|with_reducible exact Fr.refl _|with_reducible assumption|((with_reducible apply Fr.trans) <;> with_reducible assumption)|((with_reducible refine Fr.jn ?_ ?_ ?_);rotate_left;(focus with_reducible assumption);(focus ((try simp only [upd_n,jn_n]);omega)))|((with_reducible refine Fr.upd ?_ ?_ ?_ ?_ ?_);rotate_left;(focus ((try simp only [upd_n,jn_n]);omega));(focus ((try simp only [upd_n,jn_n]);omega));(focus first|(left;((try simp only [upd_n,jn_n]);omega))|(right;simp;done));(focus first|trivial|apply hLX|apply hLB|apply hLg|exact ⟨by ((try simp only [upd_n,jn_n]);omega),by ((try simp only [upd_n,jn_n]);omega)⟩))))) (by intro b hb hlt;simp at hb ⊢;try omega) ?_ ?_
  rotate_left
  intro i2 e2 h2 hi2 hE2 ei2 hF2 hF02 hTh2 hJ2
  simp only [forallC,forallL,and_true] at hE2
  try simp only [↓pb,qbs,tb114,eTill,hvl,hvt,so,so.1,so.2,Option.map_none,Option.map_some,hEg,irN,nrA,nrM,nrE,reduceIte,reduceCtorEq,nrL] at hE2
  have hn12:=hF2.n;have hn02:=hF02.n;try simp only [upd_n,jn_n] at hn12
  replace hEg:=And.intro ei2 hE2
  rotate_left
  ·simp (disch:=try exact dA) only [qcs,tb114,eTill,hvl,hvt,so,so.1,so.2,Option.map_none,Option.map_some,hEg,irN,nrA,nrM,nrE,reduceIte,reduceCtorEq,nrL]
   exact j1
  have q0:h2.rd H.n=some [iv names,iv lim,iv win,vl,vdt]:=by
   rw [hF2.rd (b:=H.n) (by simp only [↓pb,qbs,tb114,eTill,hvl,hvt,so,so.1,so.2,Option.map_none,Option.map_some,hEg,irN,nrA,nrM,nrE,reduceIte,reduceCtorEq,nrL];omega) nxA]
   simp (disch:=try exact dA) only [qcs,tb114,eTill,hvl,hvt,so,so.1,so.2,Option.map_none,Option.map_some,hEg,irN,nrA,nrM,nrE,reduceIte,reduceCtorEq,nrL]
   exact r0
  have q1:h2.rd (H.n + 1)=some [vd]:=by
   rw [hF2.rd (b:=H.n + 1) (by simp only [↓pb,qbs,tb114,eTill,hvl,hvt,so,so.1,so.2,Option.map_none,Option.map_some,hEg,irN,nrA,nrM,nrE,reduceIte,reduceCtorEq,nrL];omega) nxA]
   simp (disch:=try exact dA) only [qcs,tb114,eTill,hvl,hvt,so,so.1,so.2,Option.map_none,Option.map_some,hEg,irN,nrA,nrM,nrE,reduceIte,reduceCtorEq,nrL]
   rw [rd_def,g1];rfl
  have q2:h2.rd (H.n + 2)=some (B.map .bool):=by
   rw [hF2.rd (b:=H.n + 2) (by simp only [↓pb,qbs,tb114,eTill,hvl,hvt,so,so.1,so.2,Option.map_none,Option.map_some,hEg,irN,nrA,nrM,nrE,reduceIte,reduceCtorEq,nrL];omega) nxA]
   simp (disch:=try exact dA) only [qcs,tb114,eTill,hvl,hvt,so,so.1,so.2,Option.map_none,Option.map_some,hEg,irN,nrA,nrM,nrE,reduceIte,reduceCtorEq,nrL]
   rw [rd_def,g2];rfl
  have q4:h2.rd (H.n + 4)=some [.map (some (H.n + 3))]:=by
   rw [hF2.rd (b:=H.n + 4) (by simp only [↓pb,qbs,tb114,eTill,hvl,hvt,so,so.1,so.2,Option.map_none,Option.map_some,hEg,irN,nrA,nrM,nrE,reduceIte,reduceCtorEq,nrL];omega) nxA]
   simp (disch:=try exact dA) only [qcs,tb114,eTill,hvl,hvt,so,so.1,so.2,Option.map_none,Option.map_some,hEg,irN,nrA,nrM,nrE,reduceIte,reduceCtorEq,nrL]
   rw [rd_def,g4];rfl
  have q9:h2.rd h.n=some [iv d.Day,iv d.Name,iv d.Cents,.bool d.Cash]:=by
   rw [hF2.rd (b:=h.n) (by simp only [↓pb,qbs,tb114,eTill,hvl,hvt,so,so.1,so.2,Option.map_none,Option.map_some,hEg,irN,nrA,nrM,nrE,reduceIte,reduceCtorEq,nrL];omega) nxA]
   simp (disch:=try exact dA) only [qcs,tb114,eTill,hvl,hvt,so,so.1,so.2,Option.map_none,Option.map_some,hEg,irN,nrA,nrM,nrE,reduceIte,reduceCtorEq,nrL]
  have S2:=S.fr0 hF02
  by_cases hj:i2 < names
  ·repeat' (first|((with_reducible refine hK _ _ fun e2 hEn=>?_);clear hK K;simp only [lv114,forallC,forallL,and_true] at hEn;(try simp only [↓pb,qbs,tb114,eTill,hvl,hvt,so,so.1,so.2,Option.map_none,Option.map_some,hEg,irN,nrA,nrM,nrE,reduceIte,reduceCtorEq,nrL] at hEn);clear hEg;(try clear eg);have hEg:=hEn;clear hEn;rename Env=>eg)|((first|((with_reducible first|apply oV_intro|apply oH_intro|apply oB_intro);(simp (disch:=try exact dA) only [qcs,tb114,eTill,hvl,hvt,so,so.1,so.2,Option.map_none,Option.map_some,q0,q4,q9,hEg,irN,nrA,nrM,nrE,reduceIte,reduceCtorEq,nrL];with_reducible exact rfl))|((with_reducible first|apply oblA_and|apply oblR_and|apply oblO_and);(focus exact obA))|((with_reducible apply WO_callE);(simp only [↓pb,qbs,tb114,eTill,hvl,hvt,so,so.1,so.2,Option.map_none,Option.map_some,q0,q4,q9,hEg,irN,nrA,nrM,nrE,reduceIte,reduceCtorEq,nrL];(exact f112 _ _ so)))|(with_reducible first|refine W_regionF lv114 fun K hK=>?_|refine W_drawnF lv114 fun K hK=>?_));try simp only [↓pb,↓pd,qds,tb114,eTill,hvl,hvt,so,so.1,so.2,Option.map_none,Option.map_some,q0,q4,q9,hEg,irN,nrA,nrM,nrE,reduceIte,reduceCtorEq,nrL])|((with_reducible apply W_cond);(simp only [↓pb,qbs,tb114,eTill,hvl,hvt,so,so.1,so.2,Option.map_none,Option.map_some,q0,q4,q9,hEg,irN,nrA,nrM,nrE,reduceIte,reduceCtorEq,nrL];with_reducible exact rfl);all_goals (intro hc;(first|exact hcX hc|try simp only [hcs] at hc)))|(with_reducible first|refine W_seq ?_|refine W_block ?_|refine W_skip ?_|refine W_ret ?_|refine W_exit ?_|apply blockK_exit)|((with_reducible apply blockK_pass);(focus decide))|fail)
   have l2:=S2.lt
   have rw1:paidRow f d.Day (i2 + 1) es=if findE i2 d.Day (paidRow f d.Day i2 es) 0=none then paidRow f d.Day i2 es ++ [(((i2:Int),d.Day),f i2 d.Day)] else paidRow f d.Day i2 es:=rfl
   cases hfe:findE i2 d.Day (paidRow f d.Day i2 es) 0 with
   | none =>
    rw [if_pos hfe] at rw1
    have hfi:f i2 d.Day=wGo B win i2 d.Day l:=by rw [hf]
    refine oV_intro (lk127n (by simp (disch:=try exact dA) only [qcs,tb114,eTill,hvl,hvt,so,so.1,so.2,Option.map_none,Option.map_some,hEg,irN,nrA,nrM,nrE,reduceIte,reduceCtorEq,nrL];exact hJ2) hfe) ?_
    repeat' (first|((with_reducible refine hK _ _ fun e2 hEn=>?_);clear hK K;simp only [lv114,forallC,forallL,and_true] at hEn;(try simp only [↓pb,qbs,tb114,eTill,hvl,hvt,so,so.1,so.2,Option.map_none,Option.map_some,hEg,irN,nrA,nrM,nrE,reduceIte,reduceCtorEq,nrL] at hEn);clear hEg;(try clear eg);have hEg:=hEn;clear hEn;rename Env=>eg)|((first|((with_reducible first|apply oV_intro|apply oH_intro|apply oB_intro);(simp (disch:=try exact dA) only [qcs,tb114,eTill,hvl,hvt,so,so.1,so.2,Option.map_none,Option.map_some,q0,q1,q2,q4,q9,extract_tup,hBat,hEg,irN,nrA,nrM,nrE,reduceIte,reduceCtorEq,nrL];with_reducible exact rfl))|((with_reducible first|apply oblA_and|apply oblR_and|apply oblO_and);(focus exact obA))|((with_reducible apply WO_callE);(simp only [↓pb,qbs,tb114,eTill,hvl,hvt,so,so.1,so.2,Option.map_none,Option.map_some,q0,q1,q2,q4,q9,extract_tup,hBat,hEg,irN,nrA,nrM,nrE,reduceIte,reduceCtorEq,nrL];(exact f112 _ _ so)))|((with_reducible apply WO_callV);(focus (repeat' (first|with_reducible assumption|((with_reducible refine Top.jn ?_ ?_);rotate_left;(focus with_reducible assumption))|((with_reducible refine Top.upd ?_ ?_ ?_ ?_);rotate_left;(focus ((try simp only [upd_n,jn_n]);omega));(focus ((try simp only [upd_n,jn_n]);omega));(focus first|trivial|apply hLX|apply hLB|apply hLg|exact ⟨by ((try simp only [upd_n,jn_n]);omega),by ((try simp only [upd_n,jn_n]);omega)⟩)))));(simp only [↓pb,qbs,tb114,eTill,hvl,hvt,so,so.1,so.2,Option.map_none,Option.map_some,q0,q1,q2,q4,q9,extract_tup,hBat,hEg,irN,nrA,nrM,nrE,reduceIte,reduceCtorEq,nrL];(exact f80 vl vdt vd names lim win i2 d.Day B l _ (by (repeat' (first|with_reducible assumption|((with_reducible refine Top.jn ?_ ?_);rotate_left;(focus with_reducible assumption))|((with_reducible refine Top.upd ?_ ?_ ?_ ?_);rotate_left;(focus ((try simp only [upd_n,jn_n]);omega));(focus ((try simp only [upd_n,jn_n]);omega));(focus first|trivial|apply hLX|apply hLB|apply hLg|exact ⟨by ((try simp only [upd_n,jn_n]);omega),by ((try simp only [upd_n,jn_n]);omega)⟩))))) hvl hvt (S2.fr0 (N:=h2.n) (by (repeat' (first|with_reducible exact Fr.refl _|with_reducible assumption|((with_reducible apply Fr.trans) <;> with_reducible assumption)|((with_reducible refine Fr.jn ?_ ?_ ?_);rotate_left;(focus with_reducible assumption);(focus ((try simp only [upd_n,jn_n]);omega)))|((with_reducible refine Fr.upd ?_ ?_ ?_ ?_ ?_);rotate_left;(focus ((try simp only [upd_n,jn_n]);omega));(focus ((try simp only [upd_n,jn_n]);omega));(focus first|(left;((try simp only [upd_n,jn_n]);omega))|(right;simp;done));(focus first|trivial|apply hLX|apply hLB|apply hLg|exact ⟨by ((try simp only [upd_n,jn_n]);omega),by ((try simp only [upd_n,jn_n]);omega)⟩)))))) hl hB (by omega) hd));(intro Gq hq hJq;try simp only [upd_n,jn_n] at hq))|(with_reducible first|refine W_regionF lv114 fun K hK=>?_|refine W_drawnF lv114 fun K hK=>?_));try simp only [↓pb,↓pd,qds,tb114,eTill,hvl,hvt,so,so.1,so.2,Option.map_none,Option.map_some,q0,q1,q2,q4,q9,extract_tup,hBat,hEg,irN,nrA,nrM,nrE,reduceIte,reduceCtorEq,nrL])|((with_reducible apply W_cond);(simp only [↓pb,qbs,tb114,eTill,hvl,hvt,so,so.1,so.2,Option.map_none,Option.map_some,q0,q1,q2,q4,q9,extract_tup,hBat,hEg,irN,nrA,nrM,nrE,reduceIte,reduceCtorEq,nrL];with_reducible exact rfl);all_goals (intro hc;(first|exact hcX hc|try simp only [hcs] at hc)))|(with_reducible first|refine W_seq ?_|refine W_block ?_|refine W_skip ?_|refine W_ret ?_|refine W_exit ?_|apply blockK_exit)|((with_reducible apply blockK_pass);(focus decide))|fail)
    refine oH_intro (mu127 (l:=paidRow f d.Day i2 es) (by simp (disch:=try exact dA) only [qcs,tb114,eTill,hvl,hvt,so,so.1,so.2,Option.map_none,Option.map_some,hEg,irN,nrA,nrM,nrE,reduceIte,reduceCtorEq,nrL];exact hJ2) hfe) ?_
    repeat' (first|((with_reducible refine hK _ _ fun e2 hEn=>?_);clear hK K;simp only [lv114,forallC,forallL,and_true] at hEn;(try simp only [↓pb,qbs,tb114,eTill,hvl,hvt,so,so.1,so.2,Option.map_none,Option.map_some,hEg,irN,nrA,nrM,nrE,reduceIte,reduceCtorEq,nrL] at hEn);clear hEg;(try clear eg);have hEg:=hEn;clear hEn;rename Env=>eg)|((first|((with_reducible first|apply oV_intro|apply oH_intro|apply oB_intro);(simp (disch:=try exact dA) only [qcs,tb114,eTill,hvl,hvt,so,so.1,so.2,Option.map_none,Option.map_some,hEg,irN,nrA,nrM,nrE,reduceIte,reduceCtorEq,nrL];with_reducible exact rfl))|((with_reducible first|apply oblA_and|apply oblR_and|apply oblO_and);(focus exact obA))|((with_reducible apply WO_callE);(simp only [↓pb,qbs,tb114,eTill,hvl,hvt,so,so.1,so.2,Option.map_none,Option.map_some,hEg,irN,nrA,nrM,nrE,reduceIte,reduceCtorEq,nrL];(exact f112 _ _ so)))|(with_reducible first|refine W_regionF lv114 fun K hK=>?_|refine W_drawnF lv114 fun K hK=>?_));try simp only [↓pb,↓pd,qds,tb114,eTill,hvl,hvt,so,so.1,so.2,Option.map_none,Option.map_some,hEg,irN,nrA,nrM,nrE,reduceIte,reduceCtorEq,nrL])|((with_reducible apply W_cond);(simp only [↓pb,qbs,tb114,eTill,hvl,hvt,so,so.1,so.2,Option.map_none,Option.map_some,hEg,irN,nrA,nrM,nrE,reduceIte,reduceCtorEq,nrL];with_reducible exact rfl);all_goals (intro hc;(first|exact hcX hc|try simp only [hcs] at hc)))|(with_reducible first|refine W_seq ?_|refine W_block ?_|refine W_skip ?_|refine W_ret ?_|refine W_exit ?_|apply blockK_exit)|((with_reducible apply blockK_pass);(focus decide))|fail)
    refine ⟨by omega,by simp only [↓pb,qbs,tb114,eTill,hvl,hvt,so,so.1,so.2,Option.map_none,Option.map_some,hEg,irN,nrA,nrM,nrE,reduceIte,reduceCtorEq,nrL];exact congrArg _ (inc64 (by omega)),by focus (repeat' (first|with_reducible exact Fr.refl _|with_reducible assumption|((with_reducible apply Fr.trans) <;> with_reducible assumption)|((with_reducible refine Fr.jn ?_ ?_ ?_);rotate_left;(focus with_reducible assumption);(focus ((try simp only [upd_n,jn_n]);omega)))|((with_reducible refine Fr.upd ?_ ?_ ?_ ?_ ?_);rotate_left;(focus ((try simp only [upd_n,jn_n]);omega));(focus ((try simp only [upd_n,jn_n]);omega));(focus first|(left;((try simp only [upd_n,jn_n]);omega))|(right;simp;done));(focus first|trivial|apply hLX|apply hLB|apply hLg|exact ⟨by ((try simp only [upd_n,jn_n]);omega),by ((try simp only [upd_n,jn_n]);omega)⟩)))), ?_⟩
    simp (disch:=try exact dA) only [qcs,tb114,eTill,hvl,hvt,so,so.1,so.2,Option.map_none,Option.map_some,hEg,irN,nrA,nrM,nrE,reduceIte,reduceCtorEq,nrL]
    rw [rw1,hfi]
   | some y =>
    rw [if_neg (by rw [hfe];simp)] at rw1
    refine oV_intro (lk127s (by simp (disch:=try exact dA) only [qcs,tb114,eTill,hvl,hvt,so,so.1,so.2,Option.map_none,Option.map_some,hEg,irN,nrA,nrM,nrE,reduceIte,reduceCtorEq,nrL];exact hJ2) hfe) ?_
    repeat' (first|((with_reducible refine hK _ _ fun e2 hEn=>?_);clear hK K;simp only [lv114,forallC,forallL,and_true] at hEn;(try simp only [↓pb,qbs,tb114,eTill,hvl,hvt,so,so.1,so.2,Option.map_none,Option.map_some,hEg,irN,nrA,nrM,nrE,reduceIte,reduceCtorEq,nrL] at hEn);clear hEg;(try clear eg);have hEg:=hEn;clear hEn;rename Env=>eg)|((first|((with_reducible first|apply oV_intro|apply oH_intro|apply oB_intro);(simp (disch:=try exact dA) only [qcs,tb114,eTill,hvl,hvt,so,so.1,so.2,Option.map_none,Option.map_some,extract_tup,hEg,irN,nrA,nrM,nrE,reduceIte,reduceCtorEq,nrL];with_reducible exact rfl))|((with_reducible first|apply oblA_and|apply oblR_and|apply oblO_and);(focus exact obA))|((with_reducible apply WO_callE);(simp only [↓pb,qbs,tb114,eTill,hvl,hvt,so,so.1,so.2,Option.map_none,Option.map_some,extract_tup,hEg,irN,nrA,nrM,nrE,reduceIte,reduceCtorEq,nrL];(exact f112 _ _ so)))|(with_reducible first|refine W_regionF lv114 fun K hK=>?_|refine W_drawnF lv114 fun K hK=>?_));try simp only [↓pb,↓pd,qds,tb114,eTill,hvl,hvt,so,so.1,so.2,Option.map_none,Option.map_some,extract_tup,hEg,irN,nrA,nrM,nrE,reduceIte,reduceCtorEq,nrL])|((with_reducible apply W_cond);(simp only [↓pb,qbs,tb114,eTill,hvl,hvt,so,so.1,so.2,Option.map_none,Option.map_some,extract_tup,hEg,irN,nrA,nrM,nrE,reduceIte,reduceCtorEq,nrL];with_reducible exact rfl);all_goals (intro hc;(first|exact hcX hc|try simp only [hcs] at hc)))|(with_reducible first|refine W_seq ?_|refine W_block ?_|refine W_skip ?_|refine W_ret ?_|refine W_exit ?_|apply blockK_exit)|((with_reducible apply blockK_pass);(focus decide))|fail)
    refine ⟨by omega,by simp only [↓pb,qbs,tb114,eTill,hvl,hvt,so,so.1,so.2,Option.map_none,Option.map_some,hEg,irN,nrA,nrM,nrE,reduceIte,reduceCtorEq,nrL];exact congrArg _ (inc64 (by omega)),by focus (repeat' (first|with_reducible exact Fr.refl _|with_reducible assumption|((with_reducible apply Fr.trans) <;> with_reducible assumption)|((with_reducible refine Fr.jn ?_ ?_ ?_);rotate_left;(focus with_reducible assumption);(focus ((try simp only [upd_n,jn_n]);omega)))|((with_reducible refine Fr.upd ?_ ?_ ?_ ?_ ?_);rotate_left;(focus ((try simp only [upd_n,jn_n]);omega));(focus ((try simp only [upd_n,jn_n]);omega));(focus first|(left;((try simp only [upd_n,jn_n]);omega))|(right;simp;done));(focus first|trivial|apply hLX|apply hLB|apply hLg|exact ⟨by ((try simp only [upd_n,jn_n]);omega),by ((try simp only [upd_n,jn_n]);omega)⟩)))), ?_⟩
    simp (disch:=try exact dA) only [qcs,tb114,eTill,hvl,hvt,so,so.1,so.2,Option.map_none,Option.map_some,hEg,irN,nrA,nrM,nrE,reduceIte,reduceCtorEq,nrL]
    rw [rw1]
    exact hJ2
  ·have e2n:i2=names:=by omega
   subst e2n
   repeat' (first|((with_reducible refine hK _ _ fun e2 hEn=>?_);clear hK K;simp only [lv114,forallC,forallL,and_true] at hEn;(try simp only [↓pb,qbs,tb114,eTill,hvl,hvt,so,so.1,so.2,Option.map_none,Option.map_some,hEg,irN,nrA,nrM,nrE,reduceIte,reduceCtorEq,nrL] at hEn);clear hEg;(try clear eg);have hEg:=hEn;clear hEn;rename Env=>eg)|((first|((with_reducible first|apply oV_intro|apply oH_intro|apply oB_intro);(simp (disch:=try exact dA) only [qcs,tb114,eTill,hvl,hvt,so,so.1,so.2,Option.map_none,Option.map_some,hEg,irN,nrA,nrM,nrE,reduceIte,reduceCtorEq,nrL];with_reducible exact rfl))|((with_reducible first|apply oblA_and|apply oblR_and|apply oblO_and);(focus exact obA))|((with_reducible apply WO_callE);(simp only [↓pb,qbs,tb114,eTill,hvl,hvt,so,so.1,so.2,Option.map_none,Option.map_some,hEg,irN,nrA,nrM,nrE,reduceIte,reduceCtorEq,nrL];(exact f112 _ _ so)))|(with_reducible first|refine W_regionF lv114 fun K hK=>?_|refine W_drawnF lv114 fun K hK=>?_));try simp only [↓pb,↓pd,qds,tb114,eTill,hvl,hvt,so,so.1,so.2,Option.map_none,Option.map_some,hEg,irN,nrA,nrM,nrE,reduceIte,reduceCtorEq,nrL])|((with_reducible apply W_cond);(simp only [↓pb,qbs,tb114,eTill,hvl,hvt,so,so.1,so.2,Option.map_none,Option.map_some,hEg,irN,nrA,nrM,nrE,reduceIte,reduceCtorEq,nrL];with_reducible exact rfl);all_goals (intro hc;(first|exact hcX hc|try simp only [hcs] at hc)))|(with_reducible first|refine W_seq ?_|refine W_block ?_|refine W_skip ?_|refine W_ret ?_|refine W_exit ?_|apply blockK_exit)|((with_reducible apply blockK_pass);(focus decide))|fail)
   have old:∀ b,b < h.n→b≠H.n + 3→b≠H.n + 6→h2.get b=h.get b:=fun b q1 q2 q3=>by
    rw [hF2.old b (by simp only [↓pb,qbs,tb114,eTill,hvl,hvt,so,so.1,so.2,Option.map_none,Option.map_some,hEg,irN,nrA,nrM,nrE,reduceIte,reduceCtorEq,nrL];omega) (by simpa using q2)]
    simp (disch:=try exact dA) only [qcs,tb114,eTill,hvl,hvt,so,so.1,so.2,Option.map_none,Option.map_some,hEg,irN,nrA,nrM,nrE,reduceIte,reduceCtorEq,nrL]
   refine ⟨rfl,by rw [hF2.old _ (by simp only [↓pb,qbs,tb114,eTill,hvl,hvt,so,so.1,so.2,Option.map_none,Option.map_some,hEg,irN,nrA,nrM,nrE,reduceIte,reduceCtorEq,nrL];omega) nxA];simp (disch:=try exact dA) only [qcs,tb114,eTill,hvl,hvt,so,so.1,so.2,Option.map_none,Option.map_some,hEg,irN,nrA,nrM,nrE,reduceIte,reduceCtorEq,nrL], ?_,⟨?_, ?_, ?_, ?_, ?_, ?_, ?_⟩, ?_, ?_⟩
   ·simp (disch:=try exact dA) only [qcs,tb114,eTill,hvl,hvt,so,so.1,so.2,Option.map_none,Option.map_some,hEg,irN,nrA,nrM,nrE,reduceIte,reduceCtorEq,nrL]
    rw [e1]
    exact hJ2
   ·rw [upd_get_ne (by omega),old _ (by omega) (by omega) (by omega)];exact g0
   ·rw [upd_get_ne (by omega),old _ (by omega) (by omega) (by omega)];exact g1
   ·rw [upd_get_ne (by omega),old _ (by omega) (by omega) (by omega)];exact g2
   ·rw [upd_get_ne (by omega),old _ (by omega) (by omega) (by omega)];exact g4
   ·rw [upd_get_ne (by omega),old _ (by omega) (by omega) (by omega)];exact g5
   ·exact upd_get_same
   ·simp only [upd_n]
    omega
   ·have F1:Fr H.n [] H h2:=hF02
    (repeat' (first|with_reducible exact Fr.refl _|with_reducible assumption|((with_reducible apply Fr.trans) <;> with_reducible assumption)|((with_reducible refine Fr.jn ?_ ?_ ?_);rotate_left;(focus with_reducible assumption);(focus ((try simp only [upd_n,jn_n]);omega)))|((with_reducible refine Fr.upd ?_ ?_ ?_ ?_ ?_);rotate_left;(focus ((try simp only [upd_n,jn_n]);omega));(focus ((try simp only [upd_n,jn_n]);omega));(focus first|(left;((try simp only [upd_n,jn_n]);omega))|(right;simp;done));(focus first|trivial|apply hLX|apply hLB|apply hLg|exact ⟨by ((try simp only [upd_n,jn_n]);omega),by ((try simp only [upd_n,jn_n]);omega)⟩))))
   ·(repeat' (first|with_reducible assumption|((with_reducible refine Top.jn ?_ ?_);rotate_left;(focus with_reducible assumption))|((with_reducible refine Top.upd ?_ ?_ ?_ ?_);rotate_left;(focus ((try simp only [upd_n,jn_n]);omega));(focus ((try simp only [upd_n,jn_n]);omega));(focus first|trivial|apply hLX|apply hLB|apply hLg|exact ⟨by ((try simp only [upd_n,jn_n]);omega),by ((try simp only [upd_n,jn_n]);omega)⟩))))
theorem mix8:Try.prog.follows .mixedOrders=true:=by kernel_rfl
theorem C8.sim:CallSim Try.prog 0 C8:=Cl.sim mix8 OrC.top OrC.sim
theorem C8.top:CallTop C8:=Cl.top OrC.top
theorem f86w (vl vdt vd:Value) (names:Nat) (lim win:Int) (B:List Bool) (l:List Due) (L:List RoB) (hvl:one vl) (hvt:one vdt) (S:SR (heapOf L) 4 l.length vd (l.flatMap eDue)) (hl:l.length < 1000000) (hB:B.length=64) (hn:names≤8) (hd:∀ i,i < l.length→0≤(l.getD i default).Name∧(l.getD i default).Name < 8)
  {w:World} {args':Array Value} (hL:∀ r,r∈L→RoOk w r) (ha:ARel (renOf w L) #[.agg ⟨eTill names lim win vl vdt⟩,vd,.agg ⟨B.map .bool⟩] args') :
  Calls Try.prog 86 args' w fun e w'=>e=.returned (.bool (keptP (fun n d=>wGo B win n d l) names lim l))∧Go.RowKit.Below w.heap.size w w':=by
 have hT:=top_heapOf L
 have so:=S.one
 generalize hH:heapOf L=H at hT S
 -- F86
 refine dw_calls (C:=C8) Try.func86 rfl (by rw [Try.ntmps86];exact Nat.le_of_ble_eq_true rfl) (by kernel_rfl) rfl hL ha ?_
 rw [hH]
 refine DW.seqW mix8 C8.sim C8.top ?_
 have hEg:True:=trivial
 refine gcW [0,1,2] ?_
 intro eg hEn
 simp only [forallC,forallL,and_true] at hEn
 simp only [↓pb,qbs,tb86,eTill,hvl,hvt,so,so.1,so.2,hEg,irN,nrA,nrM,nrE,reduceIte,reduceCtorEq,nrL] at hEn
 replace hEg:=hEn
 clear hEn
 repeat' (first|((with_reducible refine hK _ _ fun e2 hEn=>?_);clear hK K;simp only [lv86,forallC,forallL,and_true] at hEn;(try simp only [↓pb,qbs,tb86,eTill,hvl,hvt,so,so.1,so.2,hEg,irN,nrA,nrM,nrE,reduceIte,reduceCtorEq,nrL] at hEn);clear hEg;(try clear eg);have hEg:=hEn;clear hEn;rename Env=>eg)|((first|((with_reducible first|apply oV_intro|apply oH_intro|apply oB_intro);(simp (disch:=try exact dA) only [qcs,tb86,eTill,hvl,hvt,so,so.1,so.2,hEg,irN,nrA,nrM,nrE,reduceIte,reduceCtorEq,nrL];with_reducible exact rfl))|(with_reducible first|refine W_regionF lv86 fun K hK=>?_));try simp only [↓pb,↓pd,qds,tb86,eTill,hvl,hvt,so,so.1,so.2,hEg,irN,nrA,nrM,nrE,reduceIte,reduceCtorEq,nrL])|((with_reducible apply W_cond);(simp only [↓pb,qbs,tb86,eTill,hvl,hvt,so,so.1,so.2,hEg,irN,nrA,nrM,nrE,reduceIte,reduceCtorEq,nrL];with_reducible exact rfl);all_goals (intro hc;(first|exact hcX hc|try simp only [hcs] at hc)))|(with_reducible first|refine W_seq ?_|refine W_block ?_|refine W_skip ?_|refine W_ret ?_|refine W_exit ?_|apply blockK_exit)|((with_reducible apply blockK_pass);(focus decide))|fail)
 refine ⟨rfl, ?_⟩
 refine DW.seq (DW.seq (DW.rangeM C8.sim C8.top (pre:=[_,_,_,_]) (post:=[]) rfl rfl rfl und127 (WO.intro fun K hK=>?_)))
 have hBat:Swa.atN (B.map Value.bool) 0 64=some (.agg ⟨B.map .bool⟩):=by
  unfold Swa.atN
  rw [if_pos (by rw [List.length_map];omega),List.drop_zero,List.take_of_length_le (by rw [List.length_map];omega)]
 simp only [↓pb,↓pd,qds,tb86,eTill,hvl,hvt,so,so.1,so.2,hBat,hEg,irN,nrA,nrM,nrE,reduceIte,reduceCtorEq,nrL]
 repeat' (first|((with_reducible refine hK _ _ fun e2 hEn=>?_);clear hK K;simp only [lv86,forallC,forallL,and_true] at hEn;(try simp only [↓pb,qbs,tb86,eTill,hvl,hvt,so,so.1,so.2,hEg,irN,nrA,nrM,nrE,reduceIte,reduceCtorEq,nrL] at hEn);clear hEg;(try clear eg);have hEg:=hEn;clear hEn;rename Env=>eg)|((first|((with_reducible first|apply oV_intro|apply oH_intro|apply oB_intro);(simp (disch:=try exact dA) only [qcs,tb86,eTill,hvl,hvt,so,so.1,so.2,hBat,hEg,irN,nrA,nrM,nrE,reduceIte,reduceCtorEq,nrL];with_reducible exact rfl))|((with_reducible apply WO_callF);(focus exact topA);(simp only [↓pb,qbs,tb86,eTill,hvl,hvt,so,so.1,so.2,hBat,hEg,irN,nrA,nrM,nrE,reduceIte,reduceCtorEq,nrL];exact f114 vl vdt vd names lim win B l _ (by exact topA) hvl hvt (S.fr0 (N:=H.n) (by exact frA)) hl hB hn hd);(rintro vq Gq hq hJq ⟨r,rfl,hr1,hr2,hr3⟩;try simp only [upd_n,jn_n] at hq))|(with_reducible first|refine W_regionF lv86 fun K hK=>?_));try simp only [↓pb,↓pd,qds,tb86,eTill,hvl,hvt,so,so.1,so.2,hBat,hEg,irN,nrA,nrM,nrE,reduceIte,reduceCtorEq,nrL])|((with_reducible apply W_cond);(simp only [↓pb,qbs,tb86,eTill,hvl,hvt,so,so.1,so.2,hBat,hEg,irN,nrA,nrM,nrE,reduceIte,reduceCtorEq,nrL];with_reducible exact rfl);all_goals (intro hc;(first|exact hcX hc|try simp only [hcs] at hc)))|(with_reducible first|refine W_seq ?_|refine W_block ?_|refine W_skip ?_|refine W_ret ?_|refine W_exit ?_|apply blockK_exit)|((with_reducible apply blockK_pass);(focus decide))|fail)
 simp only [upd_n] at hr2
 refine hK _ _ ⟨r,_, ?_,hr1,by omega,WO.done ?_⟩
 ·simp only [↓pb,qbs,tb86,eTill,hvl,hvt,so,so.1,so.2,hEg,irN,nrA,nrM,nrE,reduceIte,reduceCtorEq,nrL]
 refine ⟨fun _=>?_,fun h=>absurd rfl h⟩
 generalize hit:AHeap.n (AHeap.jn _ _)=it0
 generalize hE:Env.set _ _ _=e0
 generalize hh:AHeap.rng _ _=h0
 have e3:e0 3=vptr H.n 0:=by rw [← hE];simp only [↓pb,qbs,tb86,eTill,hvl,hvt,so,so.1,so.2,hEg,irN,nrA,nrM,nrE,reduceIte,reduceCtorEq,nrL]
 have e13:e0 13=vptr it0 0:=by rw [← hE];rfl
 have r0:h0.rd H.n=some [iv names,iv lim,iv win,vl,vdt]:=by
  have:h0.get H.n=.cells [iv names,iv lim,iv win,vl,vdt] 48 .ex:=by
   rw [← hh]
   show (if H.n=r then AObj.dead else _)=_
   rw [if_neg (by omega)]
   simp (disch:=try exact dA) only [qcs,tb86,eTill,hvl,hvt,so,so.1,so.2,hEg,irN,nrA,nrM,nrE,reduceIte,reduceCtorEq,nrL]
  rw [rd_def,this]
  rfl
 clear hE hh hK hEg hr1 hq hJq
 obtain ⟨E,hEd⟩:∃ E,E=paidGo (fun n d=>wGo B win n d l) names l []:=⟨_,rfl⟩
 unfold keptP
 rw [← hEd]
 refine DW.block (DW.mapLoop (fun seen e h=>(e 3=vptr H.n 0∧e 13=vptr it0 0)∧h=h0∧∀ i,i∈seen→i < E.length∧(E.getD i default).2≤lim) ?_ _ [] e0 h0 (Nat.le_refl _) ⟨⟨e3,e13⟩,rfl,fun i hi=>by cases hi⟩)
 rintro seen e h ⟨hEg,rfl,hs⟩
 have hk:∀ p,p∈entK E→dflat p.1=true:=by
  intro p hp
  obtain ⟨x,_,rfl⟩:=List.mem_map.1 hp
  exact dflat_k2 _ _
 have hlen:(entK E).length=E.length:=List.length_map ..
 refine DW.seq (DW.nextM C8.sim C8.top (post:=[_]) rfl rfl rfl hk hEg.2 (fun i hi hns=>WO.intro fun K hK=>?_) fun hall=>WO.intro fun K hK=>?_)
 ·have hie:(entK E)[i]=(k2 (E.getD i default).1.1 (E.getD i default).1.2,iv (E.getD i default).2):=by
   have hi2:i < E.length:=by omega
   simp [entK,hi2]
  have hi2:i < E.length:=by omega
  have all:(∀ j,j∈i :: seen→j < E.length∧(E.getD j default).2≤lim)∨lim < (E.getD i default).2:=by
   by_cases c:lim < (E.getD i default).2
   ·exact .inr c
   ·refine .inl fun j hj=>?_
    rcases List.mem_cons.1 hj with rfl|hj
    ·exact ⟨hi2,by omega⟩
    ·exact hs j hj
  rw [hie]
  simp only [↓pb,↓pd,qds,tb86,eTill,hvl,hvt,so,so.1,so.2,extract_tup,hEg,irN,nrA,nrM,nrE,reduceIte,reduceCtorEq,nrL]
  repeat' (first|((with_reducible refine hK _ _ fun e2 hEn=>?_);clear hK K;simp only [lv86,forallC,forallL,and_true] at hEn;(try simp only [↓pb,qbs,tb86,eTill,hvl,hvt,so,so.1,so.2,hEg,irN,nrA,nrM,nrE,reduceIte,reduceCtorEq,nrL] at hEn);clear hEg;(try clear eg);have hEg:=hEn;clear hEn;rename Env=>eg)|((first|((with_reducible first|apply oV_intro|apply oH_intro|apply oB_intro);(simp (disch:=try exact dA) only [qcs,tb86,eTill,hvl,hvt,so,so.1,so.2,extract_tup,hEg,irN,nrA,nrM,nrE,reduceIte,reduceCtorEq,nrL];with_reducible exact rfl))|(with_reducible first|refine W_regionF lv86 fun K hK=>?_));try simp only [↓pb,↓pd,qds,tb86,eTill,hvl,hvt,so,so.1,so.2,extract_tup,hEg,irN,nrA,nrM,nrE,reduceIte,reduceCtorEq,nrL])|((with_reducible apply W_cond);(simp only [↓pb,qbs,tb86,eTill,hvl,hvt,so,so.1,so.2,extract_tup,hEg,irN,nrA,nrM,nrE,reduceIte,reduceCtorEq,nrL];with_reducible exact rfl);all_goals (intro hc;(first|exact hcX hc|try simp only [hcs] at hc)))|(with_reducible first|refine W_seq ?_|refine W_block ?_|refine W_skip ?_|refine W_ret ?_|refine W_exit ?_|apply blockK_exit)|((with_reducible apply blockK_pass);(focus decide))|fail)
  refine hK _ _ ⟨fun _=>?_,fun h=>absurd rfl h⟩
  clear hK
  refine DW.seqW mix8 C8.sim C8.top ?_
  repeat' (first|((with_reducible refine hK _ _ fun e2 hEn=>?_);clear hK K;simp only [lv86,forallC,forallL,and_true] at hEn;(try simp only [↓pb,qbs,tb86,eTill,hvl,hvt,so,so.1,so.2,hEg,irN,nrA,nrM,nrE,reduceIte,reduceCtorEq,nrL] at hEn);clear hEg;(try clear eg);have hEg:=hEn;clear hEn;rename Env=>eg)|((first|((with_reducible first|apply oV_intro|apply oH_intro|apply oB_intro);(simp (disch:=try exact dA) only [qcs,tb86,eTill,hvl,hvt,so,so.1,so.2,hEg,irN,nrA,nrM,nrE,reduceIte,reduceCtorEq,nrL];with_reducible exact rfl))|(with_reducible first|refine W_regionF lv86 fun K hK=>?_));try simp only [↓pb,↓pd,qds,tb86,eTill,hvl,hvt,so,so.1,so.2,hEg,irN,nrA,nrM,nrE,reduceIte,reduceCtorEq,nrL])|((with_reducible apply W_cond);(simp only [↓pb,qbs,tb86,eTill,hvl,hvt,so,so.1,so.2,hEg,irN,nrA,nrM,nrE,reduceIte,reduceCtorEq,nrL];with_reducible exact rfl);all_goals (intro hc;(first|exact hcX hc|try simp only [hcs] at hc)))|(with_reducible first|refine W_seq ?_|refine W_block ?_|refine W_skip ?_|refine W_ret ?_|refine W_exit ?_|apply blockK_exit)|((with_reducible apply blockK_pass);(focus decide))|fail)
  refine ⟨rfl, ?_⟩
  refine DW.block (DW.seq (DW.entryM C8.sim C8.top (post:=[_,_]) rfl rfl rfl hk ?_ fun hi=>WO.intro fun K hK=>?_))
  ·simp only [↓pb,qbs,tb86,eTill,hvl,hvt,so,so.1,so.2,hEg,irN,nrA,nrM,nrE,reduceIte,reduceCtorEq,nrL]
  rw [hie]
  simp only [↓pb,↓pd,qds,tb86,eTill,hvl,hvt,so,so.1,so.2,extract_tup,hEg,irN,nrA,nrM,nrE,reduceIte,reduceCtorEq,nrL]
  repeat' (first|((with_reducible refine hK _ _ fun e2 hEn=>?_);clear hK K;simp only [lv86,forallC,forallL,and_true] at hEn;(try simp only [↓pb,qbs,tb86,eTill,hvl,hvt,so,so.1,so.2,hEg,irN,nrA,nrM,nrE,reduceIte,reduceCtorEq,nrL] at hEn);clear hEg;(try clear eg);have hEg:=hEn;clear hEn;rename Env=>eg)|((first|((with_reducible first|apply oV_intro|apply oH_intro|apply oB_intro);(simp (disch:=try exact dA) only [qcs,tb86,eTill,hvl,hvt,so,so.1,so.2,extract_tup,hEg,irN,nrA,nrM,nrE,reduceIte,reduceCtorEq,nrL];with_reducible exact rfl))|(with_reducible first|refine W_regionF lv86 fun K hK=>?_));try simp only [↓pb,↓pd,qds,tb86,eTill,hvl,hvt,so,so.1,so.2,extract_tup,hEg,irN,nrA,nrM,nrE,reduceIte,reduceCtorEq,nrL])|((with_reducible apply W_cond);(simp only [↓pb,qbs,tb86,eTill,hvl,hvt,so,so.1,so.2,extract_tup,hEg,irN,nrA,nrM,nrE,reduceIte,reduceCtorEq,nrL];with_reducible exact rfl);all_goals (intro hc;(first|exact hcX hc|try simp only [hcs] at hc)))|(with_reducible first|refine W_seq ?_|refine W_block ?_|refine W_skip ?_|refine W_ret ?_|refine W_exit ?_|apply blockK_exit)|((with_reducible apply blockK_pass);(focus decide))|fail)
  refine hK _ _ ⟨fun _=>?_,fun h=>absurd rfl h⟩
  clear hK
  generalize hv:(E.getD i default).2=v at all
  refine DW.ofW mix8 C8.sim C8.top ?_
  repeat' (first|((with_reducible refine hK _ _ fun e2 hEn=>?_);clear hK K;simp only [lv86,forallC,forallL,and_true] at hEn;(try simp only [↓pb,qbs,tb86,eTill,hvl,hvt,so,so.1,so.2,hEg,irN,nrA,nrM,nrE,reduceIte,reduceCtorEq,nrL] at hEn);clear hEg;(try clear eg);have hEg:=hEn;clear hEn;rename Env=>eg)|((first|((with_reducible first|apply oV_intro|apply oH_intro|apply oB_intro);(simp (disch:=try exact dA) only [qcs,tb86,eTill,hvl,hvt,so,so.1,so.2,r0,hEg,irN,nrA,nrM,nrE,reduceIte,reduceCtorEq,nrL];with_reducible exact rfl))|(with_reducible first|refine W_regionF lv86 fun K hK=>?_));try simp only [↓pb,↓pd,qds,tb86,eTill,hvl,hvt,so,so.1,so.2,r0,hEg,irN,nrA,nrM,nrE,reduceIte,reduceCtorEq,nrL])|((with_reducible apply W_cond);(simp only [↓pb,qbs,tb86,eTill,hvl,hvt,so,so.1,so.2,r0,hEg,irN,nrA,nrM,nrE,reduceIte,reduceCtorEq,nrL];with_reducible exact rfl);all_goals (intro hc;(first|exact hcX hc|try simp only [hcs] at hc)))|(with_reducible first|refine W_seq ?_|refine W_block ?_|refine W_skip ?_|refine W_ret ?_|refine W_exit ?_|apply blockK_exit)|((with_reducible apply blockK_pass);(focus decide))|fail)
  ·refine ⟨fun q=>by simp at q,fun _=>⟨fun q=>by simp at q,fun _=>⟨.inr rfl, ?_⟩⟩⟩
   have ha:(E.all fun e=>decide (e.2≤lim))=false:=by
    rw [List.all_eq_false]
    refine ⟨E.getD i default,by rw [List.getD_eq_getElem?_getD,List.getElem?_eq_getElem hi2];exact List.getElem_mem _, ?_⟩
    simp only [decide_eq_true_eq]
    omega
   rw [ret1 Try.results86,ha]
   simp only [↓pb,qbs,tb86,eTill,hvl,hvt,so,so.1,so.2,rv_tmp,hEg,irN,nrA,nrM,nrE,reduceIte,reduceCtorEq,nrL]
  ·refine ⟨fun _=>⟨i,hi,hns,rfl,by simp only [hEg,and_self],rfl,all.resolve_right (by omega)⟩,fun q=>absurd rfl q⟩
 ·simp only [↓pb,↓pd,qds,tb86,eTill,hvl,hvt,so,so.1,so.2,extract_tup,hEg,irN,nrA,nrM,nrE,reduceIte,reduceCtorEq,nrL]
  repeat' (first|((with_reducible refine hK _ _ fun e2 hEn=>?_);clear hK K;simp only [lv86,forallC,forallL,and_true] at hEn;(try simp only [↓pb,qbs,tb86,eTill,hvl,hvt,so,so.1,so.2,hEg,irN,nrA,nrM,nrE,reduceIte,reduceCtorEq,nrL] at hEn);clear hEg;(try clear eg);have hEg:=hEn;clear hEn;rename Env=>eg)|((first|((with_reducible first|apply oV_intro|apply oH_intro|apply oB_intro);(simp (disch:=try exact dA) only [qcs,tb86,eTill,hvl,hvt,so,so.1,so.2,extract_tup,hEg,irN,nrA,nrM,nrE,reduceIte,reduceCtorEq,nrL];with_reducible exact rfl))|(with_reducible first|refine W_regionF lv86 fun K hK=>?_));try simp only [↓pb,↓pd,qds,tb86,eTill,hvl,hvt,so,so.1,so.2,extract_tup,hEg,irN,nrA,nrM,nrE,reduceIte,reduceCtorEq,nrL])|((with_reducible apply W_cond);(simp only [↓pb,qbs,tb86,eTill,hvl,hvt,so,so.1,so.2,extract_tup,hEg,irN,nrA,nrM,nrE,reduceIte,reduceCtorEq,nrL];with_reducible exact rfl);all_goals (intro hc;(first|exact hcX hc|try simp only [hcs] at hc)))|(with_reducible first|refine W_seq ?_|refine W_block ?_|refine W_skip ?_|refine W_ret ?_|refine W_exit ?_|apply blockK_exit)|((with_reducible apply blockK_pass);(focus decide))|fail)
  refine hK _ _ ⟨fun _=>?_,fun h=>absurd rfl h⟩
  clear hK
  refine DW.ofW mix8 C8.sim C8.top ?_
  repeat' (first|((with_reducible refine hK _ _ fun e2 hEn=>?_);clear hK K;simp only [lv86,forallC,forallL,and_true] at hEn;(try simp only [↓pb,qbs,tb86,eTill,hvl,hvt,so,so.1,so.2,hEg,irN,nrA,nrM,nrE,reduceIte,reduceCtorEq,nrL] at hEn);clear hEg;(try clear eg);have hEg:=hEn;clear hEn;rename Env=>eg)|((first|((with_reducible first|apply oV_intro|apply oH_intro|apply oB_intro);(simp (disch:=try exact dA) only [qcs,tb86,eTill,hvl,hvt,so,so.1,so.2,hEg,irN,nrA,nrM,nrE,reduceIte,reduceCtorEq,nrL];with_reducible exact rfl))|(with_reducible first|refine W_regionF lv86 fun K hK=>?_));try simp only [↓pb,↓pd,qds,tb86,eTill,hvl,hvt,so,so.1,so.2,hEg,irN,nrA,nrM,nrE,reduceIte,reduceCtorEq,nrL])|((with_reducible apply W_cond);(simp only [↓pb,qbs,tb86,eTill,hvl,hvt,so,so.1,so.2,hEg,irN,nrA,nrM,nrE,reduceIte,reduceCtorEq,nrL];with_reducible exact rfl);all_goals (intro hc;(first|exact hcX hc|try simp only [hcs] at hc)))|(with_reducible first|refine W_seq ?_|refine W_block ?_|refine W_skip ?_|refine W_ret ?_|refine W_exit ?_|apply blockK_exit)|((with_reducible apply blockK_pass);(focus decide))|fail)
  refine ⟨fun q=>(by cases q),fun _=>⟨fun _=>?_,fun q=>absurd rfl q⟩⟩
  refine DW.ofW mix8 C8.sim C8.top ?_
  repeat' (first|((with_reducible refine hK _ _ fun e2 hEn=>?_);clear hK K;simp only [lv86,forallC,forallL,and_true] at hEn;(try simp only [↓pb,qbs,tb86,eTill,hvl,hvt,so,so.1,so.2,hEg,irN,nrA,nrM,nrE,reduceIte,reduceCtorEq,nrL] at hEn);clear hEg;(try clear eg);have hEg:=hEn;clear hEn;rename Env=>eg)|((first|((with_reducible first|apply oV_intro|apply oH_intro|apply oB_intro);(simp (disch:=try exact dA) only [qcs,tb86,eTill,hvl,hvt,so,so.1,so.2,hEg,irN,nrA,nrM,nrE,reduceIte,reduceCtorEq,nrL];with_reducible exact rfl))|(with_reducible first|refine W_regionF lv86 fun K hK=>?_));try simp only [↓pb,↓pd,qds,tb86,eTill,hvl,hvt,so,so.1,so.2,hEg,irN,nrA,nrM,nrE,reduceIte,reduceCtorEq,nrL])|((with_reducible apply W_cond);(simp only [↓pb,qbs,tb86,eTill,hvl,hvt,so,so.1,so.2,hEg,irN,nrA,nrM,nrE,reduceIte,reduceCtorEq,nrL];with_reducible exact rfl);all_goals (intro hc;(first|exact hcX hc|try simp only [hcs] at hc)))|(with_reducible first|refine W_seq ?_|refine W_block ?_|refine W_skip ?_|refine W_ret ?_|refine W_exit ?_|apply blockK_exit)|((with_reducible apply blockK_pass);(focus decide))|fail)
  have ha:(E.all fun e=>decide (e.2≤lim))=true:=by
   rw [List.all_eq_true]
   intro x hx
   obtain ⟨j,hj,rfl⟩:=List.getElem_of_mem hx
   have q:=(hs j (hall j (by omega))).2
   rw [List.getD_eq_getElem?_getD,List.getElem?_eq_getElem hj] at q
   exact decide_eq_true q
  refine ⟨.inr rfl, ?_⟩
  rw [ret1 Try.results86,ha]
  simp only [↓pb,qbs,tb86,eTill,hvl,hvt,so,so.1,so.2,rv_tmp,hEg,irN,nrA,nrM,nrE,reduceIte,reduceCtorEq,nrL]
def vVal (p:(Int×Int)×Int):Value:=.tuple #[.agg ⟨[iv p.1.1,iv p.1.2]⟩,iv p.2]
theorem res22 {e:Env} {h:AHeap} {p q:Nat} {a b c:Int} (e8:e 8=vptr p 0) (e9:e 9=vptr q 0) (r1:h.rd p=some [iv a,iv b]) (r2:h.rd q=some [iv c]):resultsA Try.prog Try.f22 e h=some (vVal ((a,b),c)):=by
 rw [ret2 Try.results22,rv_cell,rv_cell,e8,e9,ld24,ld38,r1,r2]
 rfl
set_option maxHeartbeats 4000000 in
theorem f22w (vf:Value) (l:List Fix) (day kmin kmax share:Int) (L:List RoB) (S:SR (heapOf L) 2 l.length vf (l.flatMap eFix)) (hl:l.length < 1000000)
  {w:World} {args':Array Value} (hL:∀ r,r∈L→RoOk w r) (ha:ARel (renOf w L) #[vf,iv day,.agg ⟨[iv kmin,iv kmax]⟩,iv share] args') :
  Calls Try.prog 22 args' w fun e w'=>e=.returned (vVal (valueP l day kmin kmax share))∧Go.RowKit.Below w.heap.size w w':=by
 have hT:=top_heapOf L
 have so:=S.one
 generalize hH:heapOf L=H at hT S
 -- F22
 refine def_calls (C:=C8) (pre:=[_]) (R:=fun v _=>v=vVal (valueP l day kmin kmax share)) mix8 C8.sim C8.top Try.func22 rfl (by rw [Try.ntmps22];exact Nat.le_of_ble_eq_true rfl) (by kernel_rfl) (by kernel_rfl) (by kernel_rfl) (by kernel_rfl) rfl (by kernel_rfl) rfl rfl rfl (by kernel_rfl) Try.func74 rfl (by kernel_rfl) (by kernel_rfl) (by simp [vVal,flatR,dflat,flat]) hL ha ?_ (fun v H q=>q)
 rw [hH]
 unfold DefW
 have hEg:True:=trivial
 refine gcW [0,1,2,3] ?_
 intro eg hEn
 simp only [forallC,forallL,and_true] at hEn
 simp only [↓pb,qbs,tb22,so,so.1,so.2,lns22 S,hEg,irN,nrA,nrM,nrE,reduceIte,reduceCtorEq,nrL] at hEn
 replace hEg:=hEn
 clear hEn
 repeat' (first|((with_reducible refine hK _ _ fun e2 hEn=>?_);clear hK K;simp only [lv22,forallC,forallL,and_true] at hEn;(try simp only [↓pb,qbs,tb22,so,so.1,so.2,lns22 S,hEg,irN,nrA,nrM,nrE,reduceIte,reduceCtorEq,nrL] at hEn);clear hEg;(try clear eg);have hEg:=hEn;clear hEn;rename Env=>eg)|((first|((with_reducible first|apply oV_intro|apply oH_intro|apply oB_intro);(simp (disch:=try exact dA) only [qcs,tb22,so,so.1,so.2,lns22 S,hEg,irN,nrA,nrM,nrE,reduceIte,reduceCtorEq,nrL];with_reducible exact rfl))|((with_reducible first|apply oblA_and|apply oblR_and|apply oblO_and);(focus exact obA))|(with_reducible first|refine W_regionF lv22 fun K hK=>?_|refine W_drawnF lv22 fun K hK=>?_));try simp only [↓pb,↓pd,qds,tb22,so,so.1,so.2,lns22 S,hEg,irN,nrA,nrM,nrE,reduceIte,reduceCtorEq,nrL])|((first|((with_reducible first|apply WO_gT|apply WO_gF|apply WD_gT|apply WD_gF);exact rfl)|(with_reducible apply W_cond));(simp only [↓pb,qbs,tb22,so,so.1,so.2,lns22 S,hEg,irN,nrA,nrM,nrE,reduceIte,reduceCtorEq,nrL];with_reducible exact rfl);all_goals (intro hc;(first|exact hcX hc|try simp only [hcs] at hc);try ((with_reducible first|apply woI|apply wdI);simp only [↓pb,↓pd,qds,tb22,so,so.1,so.2,lns22 S,hc,hEg,irN,nrA,nrM,nrE,reduceIte,reduceCtorEq,nrL])))|(with_reducible first|refine W_seq ?_|refine W_block ?_|refine W_skip ?_|refine W_ret ?_|refine W_exit ?_|apply blockK_exit)|((with_reducible apply blockK_pass);(focus decide))|fail)
 refine ⟨rfl,WO.intro fun K hK=>?_⟩
 simp only [↓pb,↓pd,qds,tb22,so,so.1,so.2,lns22 S,hEg,irN,nrA,nrM,nrE,reduceIte,reduceCtorEq,nrL]
 repeat' (first|((with_reducible refine hK _ _ fun e2 hEn=>?_);clear hK K;simp only [lv22,forallC,forallL,and_true] at hEn;(try simp only [↓pb,qbs,tb22,so,so.1,so.2,lns22 S,hEg,irN,nrA,nrM,nrE,reduceIte,reduceCtorEq,nrL] at hEn);clear hEg;(try clear eg);have hEg:=hEn;clear hEn;rename Env=>eg)|((first|((with_reducible first|apply oV_intro|apply oH_intro|apply oB_intro);(simp (disch:=try exact dA) only [qcs,tb22,so,so.1,so.2,lns22 S,hEg,irN,nrA,nrM,nrE,reduceIte,reduceCtorEq,nrL];with_reducible exact rfl))|((with_reducible first|apply oblA_and|apply oblR_and|apply oblO_and);(focus exact obA))|(with_reducible first|refine W_regionF lv22 fun K hK=>?_|refine W_drawnF lv22 fun K hK=>?_));try simp only [↓pb,↓pd,qds,tb22,so,so.1,so.2,lns22 S,hEg,irN,nrA,nrM,nrE,reduceIte,reduceCtorEq,nrL])|((first|((with_reducible first|apply WO_gT|apply WO_gF|apply WD_gT|apply WD_gF);exact rfl)|(with_reducible apply W_cond));(simp only [↓pb,qbs,tb22,so,so.1,so.2,lns22 S,hEg,irN,nrA,nrM,nrE,reduceIte,reduceCtorEq,nrL];with_reducible exact rfl);all_goals (intro hc;(first|exact hcX hc|try simp only [hcs] at hc);try ((with_reducible first|apply woI|apply wdI);simp only [↓pb,↓pd,qds,tb22,so,so.1,so.2,lns22 S,hc,hEg,irN,nrA,nrM,nrE,reduceIte,reduceCtorEq,nrL])))|(with_reducible first|refine W_seq ?_|refine W_block ?_|refine W_skip ?_|refine W_ret ?_|refine W_exit ?_|apply blockK_exit)|((with_reducible apply blockK_pass);(focus decide))|fail)
 refine hK _ _ ⟨#[],#[vptr (H.n + 2) 0,vptr (H.n + 1) 0], ?_,by rw [Try.ntmps74];exact Nat.le_of_ble_eq_true rfl, ?_⟩
 ·simp only [↓pb,qbs,tb22,so,so.1,so.2,lns22 S,hEg,irN,nrA,nrM,nrE,reduceIte,reduceCtorEq,nrL]
 clear hK
 refine W_mono (Q:=fun x e h=>(x=.normal∨x=.ret)∧(e 8=vptr (H.n + 1) 0∧e 9=vptr (H.n + 2) 0)∧∃ a b c,h.get (H.n + 1)=.cells [iv a,iv b] 24 .ex∧h.get (H.n + 2)=.cells [iv c] 38 .ex∧Top h∧H.n + 2 < h.n∧valueP l day kmin kmax share=if c≠0 then ((0,0),c) else ((a,b),c)) ?_ ?_
 rotate_left
 ·rintro x e h ⟨hx,⟨e8,e9⟩,a,b,c,g1,g2,hTh,hnh,hv⟩
  refine ⟨hx, ?_⟩
  rw [hv]
  have r1:h.rd (H.n + 1)=some [iv a,iv b]:=by rw [rd_def,g1];rfl
  have r2:h.rd (H.n + 2)=some [iv c]:=by rw [rd_def,g2];rfl
  clear hEg hv
  have hEg:True:=trivial
  -- F74
  refine gcW [0,1] ?_
  intro eg2 hEn
  simp only [forallC,forallL,and_true] at hEn
  simp only [↓pb,qbs,tb74,r1,r2,g1,g2,hEg,irN,nrA,nrM,nrE,reduceIte,reduceCtorEq,nrL] at hEn
  replace hEg:=hEn
  clear hEn
  repeat' (first|((with_reducible refine hK _ _ fun e2 hEn=>?_);clear hK K;simp only [lv74,forallC,forallL,and_true] at hEn;(try simp only [↓pb,qbs,tb74,r1,r2,g1,g2,hEg,irN,nrA,nrM,nrE,reduceIte,reduceCtorEq,nrL] at hEn);clear hEg;(try clear eg);have hEg:=hEn;clear hEn;rename Env=>eg)|((first|((with_reducible first|apply oV_intro|apply oH_intro|apply oB_intro);(simp (disch:=try exact dA) only [qcs,tb74,r1,r2,g1,g2,hEg,irN,nrA,nrM,nrE,reduceIte,reduceCtorEq,nrL];with_reducible exact rfl))|(with_reducible first|refine W_regionF lv74 fun K hK=>?_));try simp only [↓pb,↓pd,qds,tb74,r1,r2,g1,g2,hEg,irN,nrA,nrM,nrE,reduceIte,reduceCtorEq,nrL])|((with_reducible apply W_cond);(simp only [↓pb,qbs,tb74,r1,r2,g1,g2,hEg,irN,nrA,nrM,nrE,reduceIte,reduceCtorEq,nrL];with_reducible exact rfl);all_goals (intro hc;(first|exact hcX hc|try simp only [hcs] at hc)))|(with_reducible first|refine W_seq ?_|refine W_skip ?_|refine W_ret ?_)|fail)
  ·refine ⟨.inl rfl,⟨_,ret0 Try.results74⟩,_,res22 (a:=0) (b:=0) (c:=c) e8 e9 ?_ ?_, ?_⟩
   ·simp (disch:=try exact dA) only [qcs,tb74,r1,r2,g1,g2,hEg,irN,nrA,nrM,nrE,reduceIte,reduceCtorEq,nrL]
   ·simp (disch:=try exact dA) only [qcs,tb74,r1,r2,g1,g2,hEg,irN,nrA,nrM,nrE,reduceIte,reduceCtorEq,nrL]
   ·simp only [ne_eq,hc,not_false_eq_true,if_true]
  ·refine ⟨.inl rfl,⟨_,ret0 Try.results74⟩,_,res22 (a:=a) (b:=b) (c:=c) e8 e9 r1 r2, ?_⟩
   simp only [ne_eq,hc,not_true_eq_false,if_false]
 -- F22
 have vE:∀ c,c≠0→valErr l day kmin kmax share=c→valueP l day kmin kmax share=if c≠0 then ((0,0),c) else ((0,0),c):=by
  intro c h1 h2
  rw [valueP,h2,if_pos h1,if_pos h1]
 repeat' (first|((with_reducible refine hK _ _ fun e2 hEn=>?_);clear hK K;simp only [lv22,forallC,forallL,and_true] at hEn;(try simp only [↓pb,qbs,tb22,so,so.1,so.2,lns22 S,hEg,irN,nrA,nrM,nrE,reduceIte,reduceCtorEq,nrL] at hEn);clear hEg;(try clear eg);have hEg:=hEn;clear hEn;rename Env=>eg)|((first|((with_reducible first|apply oV_intro|apply oH_intro|apply oB_intro);(simp (disch:=try exact dA) only [qcs,tb22,so,so.1,so.2,lns22 S,hEg,irN,nrA,nrM,nrE,reduceIte,reduceCtorEq,nrL];with_reducible exact rfl))|((with_reducible first|apply oblA_and|apply oblR_and|apply oblO_and);(focus exact obA))|((with_reducible apply WO_callE);(simp only [↓pb,qbs,tb22,so,so.1,so.2,lns22 S,hEg,irN,nrA,nrM,nrE,reduceIte,reduceCtorEq,nrL];(exact f75 _ _ _ _)))|(with_reducible first|refine W_regionF lv22 fun K hK=>?_|refine W_drawnF lv22 fun K hK=>?_));try simp only [↓pb,↓pd,qds,tb22,so,so.1,so.2,lns22 S,hEg,irN,nrA,nrM,nrE,reduceIte,reduceCtorEq,nrL])|((first|((with_reducible first|apply WO_gT|apply WO_gF|apply WD_gT|apply WD_gF);exact rfl)|(with_reducible apply W_cond));(simp only [↓pb,qbs,tb22,so,so.1,so.2,lns22 S,hEg,irN,nrA,nrM,nrE,reduceIte,reduceCtorEq,nrL];with_reducible exact rfl);all_goals (intro hc;(first|exact hcX hc|try simp only [hcs] at hc);try ((with_reducible first|apply woI|apply wdI);simp only [↓pb,↓pd,qds,tb22,so,so.1,so.2,lns22 S,hc,hEg,irN,nrA,nrM,nrE,reduceIte,reduceCtorEq,nrL])))|(with_reducible first|refine W_seq ?_|refine W_block ?_|refine W_skip ?_|refine W_ret ?_|refine W_exit ?_|apply blockK_exit)|((with_reducible apply blockK_pass);(focus decide))|fail)
 ·refine ⟨.inr rfl,by simp only [hEg,and_self],0,0,6, ?_, ?_, ?_, ?_,vE 6 (by decide) ?_⟩
  ·simp (disch:=try exact dA) only [qcs,tb22,so,so.1,so.2,lns22 S,hEg,irN,nrA,nrM,nrE,reduceIte,reduceCtorEq,nrL]
  ·simp (disch:=try exact dA) only [qcs,tb22,so,so.1,so.2,lns22 S,hEg,irN,nrA,nrM,nrE,reduceIte,reduceCtorEq,nrL]
  ·exact topA
  ·simp only [upd_n]
   omega
  ·rw [valErr,if_pos (by omega)]
 have hlen:¬ 20 < l.length:=by omega
 refine W_count [0,1,3,6,8,9,19,20] (by kernel_rfl) 21 (l.length) (H.n) [] [] (fun i e h=>fixesErr none l=fixesErr (prevD l i) (l.drop i)) (by simp only [↓pb,qbs,tb22,so,so.1,so.2,lns22 S,hEg,irN,nrA,nrM,nrE,reduceIte,reduceCtorEq,nrL]) (by focus exact topA) (H0:=H) (by focus exact frA) (by intro b hb hlt;simp at hb ⊢;try omega) ?_ ?_
 rotate_left
 intro i1 e1 h1 hi1 hE1 ei1 hF1 hF01 hTh1 hJ1
 simp only [forallC,forallL,and_true] at hE1
 try simp only [↓pb,qbs,tb22,so,so.1,so.2,lns22 S,hEg,irN,nrA,nrM,nrE,reduceIte,reduceCtorEq,nrL] at hE1
 have hn11:=hF1.n;have hn01:=hF01.n;try simp only [upd_n,jn_n] at hn11
 replace hEg:=And.intro ei1 hE1
 rotate_left
 ·rfl
 have S1:=S.fr0 hF01
 have g0:h1.get H.n=.cells [iv kmin,iv kmax] 24 .ex:=by
  rw [hF1.old _ (by simp only [↓pb,qbs,tb22,so,so.1,so.2,lns22 S,hEg,irN,nrA,nrM,nrE,reduceIte,reduceCtorEq,nrL];omega) (by simp)]
  simp (disch:=try exact dA) only [qcs,tb22,so,so.1,so.2,lns22 S,hEg,irN,nrA,nrM,nrE,reduceIte,reduceCtorEq,nrL]
 have g1:h1.get (H.n + 1)=.cells [iv 0,iv 0] 24 .ex:=by
  rw [hF1.old _ (by simp only [↓pb,qbs,tb22,so,so.1,so.2,lns22 S,hEg,irN,nrA,nrM,nrE,reduceIte,reduceCtorEq,nrL];omega) (by simp)]
  simp (disch:=try exact dA) only [qcs,tb22,so,so.1,so.2,lns22 S,hEg,irN,nrA,nrM,nrE,reduceIte,reduceCtorEq,nrL]
 have g2:h1.get (H.n + 2)=.cells [iv 0] 38 .ex:=by
  rw [hF1.old _ (by simp only [↓pb,qbs,tb22,so,so.1,so.2,lns22 S,hEg,irN,nrA,nrM,nrE,reduceIte,reduceCtorEq,nrL];omega) (by simp)]
  simp (disch:=try exact dA) only [qcs,tb22,so,so.1,so.2,lns22 S,hEg,irN,nrA,nrM,nrE,reduceIte,reduceCtorEq,nrL]
 have r0:h1.rd H.n=some [iv kmin,iv kmax]:=by rw [rd_def,g0];rfl
 have r1:h1.rd (H.n + 1)=some [iv 0,iv 0]:=by rw [rd_def,g1];rfl
 have r2:h1.rd (H.n + 2)=some [iv 0]:=by rw [rd_def,g2];rfl
 have l1:=S1.lt
 have bad:∀ (e2:Env) (c:Int),c≠0→fixesErr none l=c→valueP l day kmin kmax share=if c≠0 then ((0,0),c) else ((0,0),c):=by
  intro e2 c h1 h2
  refine vE c h1 ?_
  rw [valErr,if_neg hlen,if_pos (by rw [h2];exact h1),h2]
 by_cases hi2:i1 < l.length
 ·rw [drop_getD hi2,fixesErr] at hJ1
  have e0:=(S1.el eFix_len rfl)
  have hw:0 < i1→IntKind.i64.wrap ((i1:Int) - 1)=((i1 - 1:Nat):Int):=fun q=>by rw [wrap64 (by omega) (by omega)];omega
  have hcs:(i1=0∧¬ (0:Int) < i1)∨((0:Int) < i1∧IntKind.i64.wrap ((i1:Int) - 1)=((i1 - 1:Nat):Int)):=by
   rcases Nat.eq_zero_or_pos i1 with q|q
   ·exact .inl ⟨q,by omega⟩
   ·exact .inr ⟨by omega,hw q⟩
  have hpv:0 < i1→prevD l i1=some (l.getD (i1 - 1) default).Day:=by
   intro q
   cases i1 with
   | zero=>omega
   | succ k=>rfl
  have c1:(¬ (0≤(l.getD i1 default).Day∧(l.getD i1 default).Day≤4000)∨¬ (0≤(l.getD i1 default).Cents∧(l.getD i1 default).Cents≤100000000))→fixesErr none l=1:=by
   intro q
   have e:fixBad (prevD l i1) (l.getD i1 default)=1:=by
    unfold fixBad
    rw [if_pos]
    rcases q with q|q
    ·have q:inB (l.getD i1 default).Day 0 4000=false:=decide_eq_false q
     rw [q]
     rfl
    ·have q:inB (l.getD i1 default).Cents 0 100000000=false:=decide_eq_false q
     rw [q]
     simp
   rw [hJ1,e]
   rfl
  have good:(0≤(l.getD i1 default).Day∧(l.getD i1 default).Day≤4000)→(0≤(l.getD i1 default).Cents∧(l.getD i1 default).Cents≤100000000)→fixBad (prevD l i1) (l.getD i1 default)=match prevD l i1 with|some p=>if (l.getD i1 default).Day≤p then 5 else 0|none=>0:=by
   intro q1 q2
   have q1:inB (l.getD i1 default).Day 0 4000=true:=decide_eq_true q1
   have q2:inB (l.getD i1 default).Cents 0 100000000=true:=decide_eq_true q2
   unfold fixBad
   rw [q1,q2]
   rfl
  have c5:(0≤(l.getD i1 default).Day∧(l.getD i1 default).Day≤4000)→(0≤(l.getD i1 default).Cents∧(l.getD i1 default).Cents≤100000000)→0 < i1→(l.getD i1 default).Day≤(l.getD (i1 - 1) default).Day→fixesErr none l=5:=by
   intro q1 q2 q3 q4
   have e:=good q1 q2
   rw [hpv q3] at e
   simp only [q4,if_true] at e
   rw [hpv q3] at hJ1
   rw [hJ1,e]
   rfl
  have c0:(0≤(l.getD i1 default).Day∧(l.getD i1 default).Day≤4000)→(0≤(l.getD i1 default).Cents∧(l.getD i1 default).Cents≤100000000)→(i1=0∨(0 < i1∧¬ (l.getD i1 default).Day≤(l.getD (i1 - 1) default).Day))→fixesErr none l=fixesErr (prevD l (i1 + 1)) (l.drop (i1 + 1)):=by
   intro q1 q2 q3
   have e:=good q1 q2
   have e2:fixBad (prevD l i1) (l.getD i1 default)=0:=by
    rcases q3 with q|⟨q,q4⟩
    ·subst q
     rw [e]
     rfl
    ·rw [hpv q] at e ⊢
     simp only [q4,if_false] at e
     exact e
   rw [hJ1,if_pos e2]
   rfl
  clear hJ1 good hpv
  rcases hcs with ⟨hz,cc⟩|cc
  all_goals (
   repeat' (first|((with_reducible refine hK _ _ fun e2 hEn=>?_);clear hK K;simp only [lv22,forallC,forallL,and_true] at hEn;(try simp only [↓pb,qbs,tb22,so,so.1,so.2,lns22 S,hEg,irN,nrA,nrM,nrE,reduceIte,reduceCtorEq,nrL] at hEn);clear hEg;(try clear eg);have hEg:=hEn;clear hEn;rename Env=>eg)|((first|((with_reducible first|apply oV_intro|apply oH_intro|apply oB_intro);(simp (disch:=try exact dA) only [qcs,tb22,so,so.1,so.2,lns22 S,ias22 S1,S1.rd,e0,eFix,r1,r2,g1,g2,cc,hEg,irN,nrA,nrM,nrE,reduceIte,reduceCtorEq,nrL];with_reducible exact rfl))|((with_reducible first|apply oblA_and|apply oblR_and|apply oblO_and);(focus exact obA))|((with_reducible apply WO_callE);(simp only [↓pb,qbs,tb22,so,so.1,so.2,lns22 S,ias22 S1,S1.rd,e0,eFix,r1,r2,g1,g2,cc,hEg,irN,nrA,nrM,nrE,reduceIte,reduceCtorEq,nrL];(exact f75 _ _ _ _)))|(with_reducible first|refine W_regionF lv22 fun K hK=>?_|refine W_drawnF lv22 fun K hK=>?_));try simp only [↓pb,↓pd,qds,tb22,so,so.1,so.2,lns22 S,ias22 S1,S1.rd,e0,eFix,r1,r2,g1,g2,cc,hEg,irN,nrA,nrM,nrE,reduceIte,reduceCtorEq,nrL])|((first|((with_reducible first|apply WO_gT|apply WO_gF|apply WD_gT|apply WD_gF);exact rfl)|(with_reducible apply W_cond));(simp only [↓pb,qbs,tb22,so,so.1,so.2,lns22 S,ias22 S1,S1.rd,e0,eFix,r1,r2,g1,g2,cc,hEg,irN,nrA,nrM,nrE,reduceIte,reduceCtorEq,nrL];with_reducible exact rfl);all_goals (intro hc;(first|exact hcX hc|try simp only [hcs] at hc);try ((with_reducible first|apply woI|apply wdI);simp only [↓pb,↓pd,qds,tb22,so,so.1,so.2,lns22 S,ias22 S1,S1.rd,e0,eFix,r1,r2,g1,g2,cc,hc,hEg,irN,nrA,nrM,nrE,reduceIte,reduceCtorEq,nrL])))|(with_reducible first|refine W_seq ?_|refine W_block ?_|refine W_skip ?_|refine W_ret ?_|refine W_exit ?_|apply blockK_exit)|((with_reducible apply blockK_pass);(focus decide))|fail))
  all_goals first
   | (refine ⟨.inr rfl,by simp only [hEg,and_self],0,0,1,by simp (disch:=try exact dA) only [qcs,tb22,so,so.1,so.2,lns22 S,hEg,irN,nrA,nrM,nrE,reduceIte,reduceCtorEq,nrL],by simp (disch:=try exact dA) only [qcs,tb22,so,so.1,so.2,lns22 S,hEg,irN,nrA,nrM,nrE,reduceIte,reduceCtorEq,nrL], ?_,by simp only [upd_n];omega,bad eg 1 (by decide) (c1 (by omega))⟩
      exact topA)
   | (refine ⟨.inr rfl,by simp only [hEg,and_self],0,0,5,by simp (disch:=try exact dA) only [qcs,tb22,so,so.1,so.2,lns22 S,hEg,irN,nrA,nrM,nrE,reduceIte,reduceCtorEq,nrL],by simp (disch:=try exact dA) only [qcs,tb22,so,so.1,so.2,lns22 S,hEg,irN,nrA,nrM,nrE,reduceIte,reduceCtorEq,nrL], ?_,by simp only [upd_n];omega,bad eg 5 (by decide) (c5 (by omega) (by omega) (by omega) (by omega))⟩
      exact topA)
   | (refine ⟨by omega,by simp only [↓pb,qbs,tb22,so,so.1,so.2,lns22 S,hEg,irN,nrA,nrM,nrE,reduceIte,reduceCtorEq,nrL];exact congrArg _ (inc64 (by omega)),by focus exact frA, ?_⟩
      exact c0 (by omega) (by omega) (by omega))
 ·have e1n:i1=l.length:=by omega
  have hfe:fixesErr none l=0:=by
   rw [hJ1,e1n,List.drop_length]
   rfl
  clear hJ1
  subst e1n
  have vb:valErr l day kmin kmax share=if !inB day 0 4000 || (!inB kmin 0 1000000 || !inB kmax 0 1000000) then 1 else if kmax < kmin then 5 else if !inB share 0 1000 then 1 else 0:=by
   rw [valErr,if_neg hlen,if_neg (by rw [hfe];simp)]
  have bT:∀ {a b c:Int},b≤a∧a≤c→inB a b c=true:=fun h=>decide_eq_true h
  have bF:∀ {a b c:Int},¬ (b≤a∧a≤c)→inB a b c=false:=fun h=>decide_eq_false h
  have v1:(¬ (0≤day∧day≤4000)∨¬ (0≤kmin∧kmin≤1000000)∨¬ (0≤kmax∧kmax≤1000000))→valErr l day kmin kmax share=1:=by
   intro q
   rw [vb,if_pos]
   rcases q with q|q|q
   ·rw [bF q];rfl
   ·rw [bF q];simp
   ·rw [bF q];simp
  have v2:(0≤day∧day≤4000)→(0≤kmin∧kmin≤1000000)→(0≤kmax∧kmax≤1000000)→valErr l day kmin kmax share=if kmax < kmin then 5 else if !inB share 0 1000 then 1 else 0:=by
   intro q1 q2 q3
   rw [vb,bT q1,bT q2,bT q3]
   rfl
  have v5:(0≤day∧day≤4000)→(0≤kmin∧kmin≤1000000)→(0≤kmax∧kmax≤1000000)→kmax < kmin→valErr l day kmin kmax share=5:=fun q1 q2 q3 q=>by rw [v2 q1 q2 q3,if_pos q]
  have v6:(0≤day∧day≤4000)→(0≤kmin∧kmin≤1000000)→(0≤kmax∧kmax≤1000000)→¬ kmax < kmin→¬ (0≤share∧share≤1000)→valErr l day kmin kmax share=1:=fun q1 q2 q3 q q5=>by rw [v2 q1 q2 q3,if_neg q,bF q5];rfl
  have v0:(0≤day∧day≤4000)→(0≤kmin∧kmin≤1000000)→(0≤kmax∧kmax≤1000000)→¬ kmax < kmin→(0≤share∧share≤1000)→valErr l day kmin kmax share=0:=fun q1 q2 q3 q q5=>by rw [v2 q1 q2 q3,if_neg q,bT q5];rfl
  clear vb v2 bT bF
  repeat' (first|((with_reducible refine hK _ _ fun e2 hEn=>?_);clear hK K;simp only [lv22,forallC,forallL,and_true] at hEn;(try simp only [↓pb,qbs,tb22,so,so.1,so.2,lns22 S,hEg,irN,nrA,nrM,nrE,reduceIte,reduceCtorEq,nrL] at hEn);clear hEg;(try clear eg);have hEg:=hEn;clear hEn;rename Env=>eg)|((first|((with_reducible first|apply oV_intro|apply oH_intro|apply oB_intro);(simp (disch:=try exact dA) only [qcs,tb22,so,so.1,so.2,lns22 S,r0,r1,r2,g1,g2,hEg,irN,nrA,nrM,nrE,reduceIte,reduceCtorEq,nrL];with_reducible exact rfl))|((with_reducible first|apply oblA_and|apply oblR_and|apply oblO_and);(focus exact obA))|((with_reducible apply WO_callE);(simp only [↓pb,qbs,tb22,so,so.1,so.2,lns22 S,r0,r1,r2,g1,g2,hEg,irN,nrA,nrM,nrE,reduceIte,reduceCtorEq,nrL];(exact f75 _ _ _ _)))|(with_reducible first|refine W_regionF lv22 fun K hK=>?_|refine W_drawnF lv22 fun K hK=>?_));try simp only [↓pb,↓pd,qds,tb22,so,so.1,so.2,lns22 S,r0,r1,r2,g1,g2,hEg,irN,nrA,nrM,nrE,reduceIte,reduceCtorEq,nrL])|((first|((with_reducible first|apply WO_gT|apply WO_gF|apply WD_gT|apply WD_gF);exact rfl)|(with_reducible apply W_cond));(simp only [↓pb,qbs,tb22,so,so.1,so.2,lns22 S,r0,r1,r2,g1,g2,hEg,irN,nrA,nrM,nrE,reduceIte,reduceCtorEq,nrL];with_reducible exact rfl);all_goals (intro hc;(first|exact hcX hc|try simp only [hcs] at hc);try ((with_reducible first|apply woI|apply wdI);simp only [↓pb,↓pd,qds,tb22,so,so.1,so.2,lns22 S,r0,r1,r2,g1,g2,hc,hEg,irN,nrA,nrM,nrE,reduceIte,reduceCtorEq,nrL])))|(with_reducible first|refine W_seq ?_|refine W_block ?_|refine W_skip ?_|refine W_ret ?_|refine W_exit ?_|apply blockK_exit)|((with_reducible apply blockK_pass);(focus decide))|fail)
  rotate_left 5
  ·have ve:=v0 (by omega) (by omega) (by omega) (by omega) (by omega)
   have vp:valueP l day kmin kmax share=valAt kmin kmax share (priceL day l):=by rw [valueP,ve];rfl
   clear v0 v1 v5 v6 ve vE bad
   refine W_count [1,3,6,8,9,77,78] (by kernel_rfl) 79 (l.length) (H.n) [H.n + 1,H.n + 2] [] (fun i e h=>∃ a b c,h.get (H.n + 1)=.cells [iv a,iv b] 24 .ex∧h.get (H.n + 2)=.cells [iv c] 38 .ex∧((a,b),c)=valAt kmin kmax share (priceL day (l.take i))) (by simp only [↓pb,qbs,tb22,so,so.1,so.2,lns22 S,hEg,irN,nrA,nrM,nrE,reduceIte,reduceCtorEq,nrL]) (by focus exact topA) (H0:=H) (by focus exact frA) (by intro b hb hlt;simp at hb ⊢;try omega) ?_ ?_
   rotate_left
   intro i2 e2 h2 hi2 hE2 ei2 hF2 hF02 hTh2 hJ2
   simp only [forallC,forallL,and_true] at hE2
   try simp only [↓pb,qbs,tb22,so,so.1,so.2,lns22 S,hEg,irN,nrA,nrM,nrE,reduceIte,reduceCtorEq,nrL] at hE2
   have hn12:=hF2.n;have hn02:=hF02.n;try simp only [upd_n,jn_n] at hn12
   replace hEg:=And.intro ei2 hE2
   rotate_left
   ·refine ⟨0,0,3, ?_, ?_,rfl⟩
    ·simp (disch:=try exact dA) only [qcs,tb22,so,so.1,so.2,lns22 S,hEg,irN,nrA,nrM,nrE,reduceIte,reduceCtorEq,nrL]
     exact g1
    ·simp (disch:=try exact dA) only [qcs,tb22,so,so.1,so.2,lns22 S,hEg,irN,nrA,nrM,nrE,reduceIte,reduceCtorEq,nrL]
   obtain ⟨a,b,c,k1,k2,kv⟩:=hJ2
   have S2:=S.fr0 hF02
   have l2:=S2.lt
   have q1:h2.rd (H.n + 1)=some [iv a,iv b]:=by rw [rd_def,k1];rfl
   have q2:h2.rd (H.n + 2)=some [iv c]:=by rw [rd_def,k2];rfl
   have q0:h2.rd H.n=some [iv kmin,iv kmax]:=by
    rw [hF2.rd (b:=H.n) (by simp only [↓pb,qbs,tb22,so,so.1,so.2,lns22 S,hEg,irN,nrA,nrM,nrE,reduceIte,reduceCtorEq,nrL];omega) nxA]
    simp (disch:=try exact dA) only [qcs,tb22,so,so.1,so.2,lns22 S,hEg,irN,nrA,nrM,nrE,reduceIte,reduceCtorEq,nrL]
    exact r0
   by_cases hi3:i2 < l.length
   ·have e0:=(S2.el eFix_len rfl)
    have pz:=priceL_snoc day (l.take i2) (l.getD i2 default)
    rw [← take_getD hi3] at pz
    repeat' (first|((with_reducible refine hK _ _ fun e2 hEn=>?_);clear hK K;simp only [lv22,forallC,forallL,and_true] at hEn;(try simp only [↓pb,qbs,tb22,so,so.1,so.2,lns22 S,hEg,irN,nrA,nrM,nrE,reduceIte,reduceCtorEq,nrL] at hEn);clear hEg;(try clear eg);have hEg:=hEn;clear hEn;rename Env=>eg)|((first|((with_reducible first|apply oV_intro|apply oH_intro|apply oB_intro);(simp (disch:=try exact dA) only [qcs,tb22,so,so.1,so.2,lns22 S,ias22 S2,S2.rd,e0,eFix,q0,q1,q2,k1,k2,hEg,irN,nrA,nrM,nrE,reduceIte,reduceCtorEq,nrL];with_reducible exact rfl))|((with_reducible first|apply oblA_and|apply oblR_and|apply oblO_and);(focus exact obA))|(with_reducible first|refine W_regionF lv22 fun K hK=>?_|refine W_drawnF lv22 fun K hK=>?_));try simp only [↓pb,↓pd,qds,tb22,so,so.1,so.2,lns22 S,ias22 S2,S2.rd,e0,eFix,q0,q1,q2,k1,k2,hEg,irN,nrA,nrM,nrE,reduceIte,reduceCtorEq,nrL])|((first|((with_reducible first|apply WO_gT|apply WO_gF|apply WD_gT|apply WD_gF);exact rfl)|(with_reducible apply W_cond));(simp only [↓pb,qbs,tb22,so,so.1,so.2,lns22 S,ias22 S2,S2.rd,e0,eFix,q0,q1,q2,k1,k2,hEg,irN,nrA,nrM,nrE,reduceIte,reduceCtorEq,nrL];with_reducible exact rfl);all_goals (intro hc;(first|exact hcX hc|try simp only [hcs] at hc);try ((with_reducible first|apply woI|apply wdI);simp only [↓pb,↓pd,qds,tb22,so,so.1,so.2,lns22 S,ias22 S2,S2.rd,e0,eFix,q0,q1,q2,k1,k2,hc,hEg,irN,nrA,nrM,nrE,reduceIte,reduceCtorEq,nrL])))|(with_reducible first|refine W_seq ?_|refine W_block ?_|refine W_skip ?_|refine W_ret ?_|refine W_exit ?_|apply blockK_exit)|((with_reducible apply blockK_pass);(focus decide))|fail)
    ·refine ⟨by omega,by simp only [↓pb,qbs,tb22,so,so.1,so.2,lns22 S,hEg,irN,nrA,nrM,nrE,reduceIte,reduceCtorEq,nrL];exact congrArg _ (inc64 (by omega)),by focus exact frA, ?_⟩
     rw [pz,if_pos ‹_›]
     refine ⟨worth kmin (l.getD i2 default).Cents share,worth kmax (l.getD i2 default).Cents share,0, ?_, ?_,rfl⟩
     ·simp (disch:=try exact dA) only [qcs,tb22,so,so.1,so.2,lns22 S,hEg,irN,nrA,nrM,nrE,reduceIte,reduceCtorEq,nrL]
      rfl
     ·simp (disch:=try exact dA) only [qcs,tb22,so,so.1,so.2,lns22 S,hEg,irN,nrA,nrM,nrE,reduceIte,reduceCtorEq,nrL]
    ·refine ⟨by omega,by simp only [↓pb,qbs,tb22,so,so.1,so.2,lns22 S,hEg,irN,nrA,nrM,nrE,reduceIte,reduceCtorEq,nrL];exact congrArg _ (inc64 (by omega)),by focus exact frA, ?_⟩
     rw [pz,if_neg ‹_›]
     refine ⟨a,b,c, ?_, ?_,kv⟩
     ·simp (disch:=try exact dA) only [qcs,tb22,so,so.1,so.2,lns22 S,hEg,irN,nrA,nrM,nrE,reduceIte,reduceCtorEq,nrL]
      exact k1
     ·simp (disch:=try exact dA) only [qcs,tb22,so,so.1,so.2,lns22 S,hEg,irN,nrA,nrM,nrE,reduceIte,reduceCtorEq,nrL]
      exact k2
   ·have e2n:i2=l.length:=by omega
    rw [e2n,List.take_length] at kv
    repeat' (first|((with_reducible refine hK _ _ fun e2 hEn=>?_);clear hK K;simp only [lv22,forallC,forallL,and_true] at hEn;(try simp only [↓pb,qbs,tb22,so,so.1,so.2,lns22 S,hEg,irN,nrA,nrM,nrE,reduceIte,reduceCtorEq,nrL] at hEn);clear hEg;(try clear eg);have hEg:=hEn;clear hEn;rename Env=>eg)|((first|((with_reducible first|apply oV_intro|apply oH_intro|apply oB_intro);(simp (disch:=try exact dA) only [qcs,tb22,so,so.1,so.2,lns22 S,q1,q2,k1,k2,hEg,irN,nrA,nrM,nrE,reduceIte,reduceCtorEq,nrL];with_reducible exact rfl))|((with_reducible first|apply oblA_and|apply oblR_and|apply oblO_and);(focus exact obA))|(with_reducible first|refine W_regionF lv22 fun K hK=>?_|refine W_drawnF lv22 fun K hK=>?_));try simp only [↓pb,↓pd,qds,tb22,so,so.1,so.2,lns22 S,q1,q2,k1,k2,hEg,irN,nrA,nrM,nrE,reduceIte,reduceCtorEq,nrL])|((first|((with_reducible first|apply WO_gT|apply WO_gF|apply WD_gT|apply WD_gF);exact rfl)|(with_reducible apply W_cond));(simp only [↓pb,qbs,tb22,so,so.1,so.2,lns22 S,q1,q2,k1,k2,hEg,irN,nrA,nrM,nrE,reduceIte,reduceCtorEq,nrL];with_reducible exact rfl);all_goals (intro hc;(first|exact hcX hc|try simp only [hcs] at hc);try ((with_reducible first|apply woI|apply wdI);simp only [↓pb,↓pd,qds,tb22,so,so.1,so.2,lns22 S,q1,q2,k1,k2,hc,hEg,irN,nrA,nrM,nrE,reduceIte,reduceCtorEq,nrL])))|(with_reducible first|refine W_seq ?_|refine W_block ?_|refine W_skip ?_|refine W_ret ?_|refine W_exit ?_|apply blockK_exit)|((with_reducible apply blockK_pass);(focus decide))|fail)
    refine ⟨.inr rfl,by simp only [hEg,and_self],a,b,c,by simp (disch:=try exact dA) only [qcs,tb22,so,so.1,so.2,lns22 S,hEg,irN,nrA,nrM,nrE,reduceIte,reduceCtorEq,nrL],by simp (disch:=try exact dA) only [qcs,tb22,so,so.1,so.2,lns22 S,hEg,irN,nrA,nrM,nrE,reduceIte,reduceCtorEq,nrL], ?_,by simp only [upd_n];omega, ?_⟩
    ·exact topA
    ·rw [vp,← kv]
     cases hpr:priceL day l with
     | none =>
      rw [hpr] at kv
      cases kv
      rfl
     | some p =>
      rw [hpr] at kv
      cases kv
      rfl
  all_goals first
   | (refine ⟨.inr rfl,by simp only [hEg,and_self],0,0,1,by simp (disch:=try exact dA) only [qcs,tb22,so,so.1,so.2,lns22 S,hEg,irN,nrA,nrM,nrE,reduceIte,reduceCtorEq,nrL],by simp (disch:=try exact dA) only [qcs,tb22,so,so.1,so.2,lns22 S,hEg,irN,nrA,nrM,nrE,reduceIte,reduceCtorEq,nrL], ?_,by simp only [upd_n];omega,vE 1 (by decide) (v1 (by omega))⟩
      exact topA)
   | (refine ⟨.inr rfl,by simp only [hEg,and_self],0,0,1,by simp (disch:=try exact dA) only [qcs,tb22,so,so.1,so.2,lns22 S,hEg,irN,nrA,nrM,nrE,reduceIte,reduceCtorEq,nrL],by simp (disch:=try exact dA) only [qcs,tb22,so,so.1,so.2,lns22 S,hEg,irN,nrA,nrM,nrE,reduceIte,reduceCtorEq,nrL], ?_,by simp only [upd_n];omega,vE 1 (by decide) (v6 (by omega) (by omega) (by omega) (by omega) (by omega))⟩
      exact topA)
   | (refine ⟨.inr rfl,by simp only [hEg,and_self],0,0,5,by simp (disch:=try exact dA) only [qcs,tb22,so,so.1,so.2,lns22 S,hEg,irN,nrA,nrM,nrE,reduceIte,reduceCtorEq,nrL],by simp (disch:=try exact dA) only [qcs,tb22,so,so.1,so.2,lns22 S,hEg,irN,nrA,nrM,nrE,reduceIte,reduceCtorEq,nrL], ?_,by simp only [upd_n];omega,vE 5 (by decide) (v5 (by omega) (by omega) (by omega) (by omega))⟩
      exact topA)
end Go.Proofs.Swa
set_option maxRecDepth 20000
set_option linter.unusedVariables false
set_option linter.unusedSimpArgs false
namespace Go.Proofs.Swa
open Go
open Nat renaming reduceAdd → nrA, reduceMul → nrM, reduceEqDiff → nrE, reduceLT → nrL
open Int renaming reduceToNat → irN
theorem flat_eDue {l:List Due}:∀ x,x∈l.flatMap eDue→flat x=true:=by
 intro x hx
 obtain ⟨d,_,h⟩:=List.mem_flatMap.1 hx
 simp only [eDue,List.mem_cons,List.not_mem_nil,or_false] at h
 rcases h with rfl|rfl|rfl|rfl <;> rfl
theorem flat_eFix {l:List Fix}:∀ x,x∈l.flatMap eFix→flat x=true:=by
 intro x hx
 obtain ⟨d,_,h⟩:=List.mem_flatMap.1 hx
 simp only [eFix,List.mem_cons,List.not_mem_nil,or_false] at h
 rcases h with rfl|rfl <;> rfl
theorem flat_int {ρ:Ren} {a:Int}:VRel ρ (iv a) (iv a):=.flat rfl
theorem f22 (vf:Value) (l:List Fix) (day kmin kmax share:Int) (H:AHeap) (S:SR H 2 l.length vf (l.flatMap eFix)) (hl:l.length < 1000000) :
  OrC Try.prog 22 #[vf,iv day,.agg ⟨[iv kmin,iv kmax]⟩,iv share] H (vVal (valueP l day kmin kmax share)) H:=by
 refine ⟨rfl,by simp [vVal,flatR,dflat,flat],⟨Try.f22,_,Try.func22,rfl,by kernel_rfl⟩,fun n0 ρ w args' hr ha=>?_⟩
 obtain ⟨a1,l1,rfl,h1,ha⟩:=ha.cons_inv
 obtain ⟨M,va,hL,hv,S1⟩:=S.carry hr h1 flat_eFix 0 [] (by simp)
 cases ha.of_dflat (by simp [dflat,flat])
 exact f22w va l day kmin kmax share _ S1 hl hL (ARel.cons_mk hv (ARel.dflat (by simp [dflat,flat])))
theorem f86 (vl vdt vd:Value) (names:Nat) (lim win:Int) (B:List Bool) (l:List Due) (nl nd:Nat) (cl cd:List Value) (H:AHeap) (Sl:SR H 3 nl vl cl) (fl:∀ x,x∈cl→flat x=true) (St:SR H 4 nd vdt cd) (ft:∀ x,x∈cd→flat x=true)
  (S:SR H 4 l.length vd (l.flatMap eDue)) (hl:l.length < 1000000) (hB:B.length=64) (hn:names≤8) (hd:∀ i,i < l.length→0≤(l.getD i default).Name∧(l.getD i default).Name < 8) :
  OrC Try.prog 86 #[.agg ⟨eTill names lim win vl vdt⟩,vd,.agg ⟨B.map .bool⟩] H (.bool (keptP (fun n d=>wGo B win n d l) names lim l)) H:=by
 have fB:dflat (.agg ⟨B.map Value.bool⟩)=true:=by
  simp only [dflat]
  rw [Array.all_eq_true]
  intro i hi
  simp [flat]
 refine ⟨rfl,rfl,⟨Try.f86,_,Try.func86,rfl,by kernel_rfl⟩,fun n0 ρ w args' hr ha=>?_⟩
 obtain ⟨a1,l1,rfl,h1,ha1⟩:=ha.cons_inv
 obtain ⟨a2,l2,e2,h2,ha2⟩:=ha1.cons_inv
 cases e2
 cases ha2.of_dflat (by simpa using fB)
 obtain ⟨c1,rfl,hc⟩:=h1.agg_cells
 obtain ⟨b1,m1,e3,q1,hc1⟩:=hc.cons_inv
 cases e3
 obtain ⟨b2,m2,e3,q2,hc2⟩:=hc1.cons_inv
 cases e3
 obtain ⟨b3,m3,e3,q3,hc3⟩:=hc2.cons_inv
 cases e3
 obtain ⟨b4,m4,e3,q4,hc4⟩:=hc3.cons_inv
 cases e3
 obtain ⟨b5,m5,e3,q5,hc5⟩:=hc4.cons_inv
 cases e3
 cases hc5.nil_inv
 obtain rfl:=q1.of_flat rfl
 obtain rfl:=q2.of_flat rfl
 obtain rfl:=q3.of_flat rfl
 obtain ⟨M1,va1,k1,v1,s1⟩:=Sl.carry hr q4 fl 0 [] (by simp)
 obtain ⟨M2,va2,k2,v2,s2⟩:=St.carry hr q5 ft 0 ([] ++ M1) k1
 obtain ⟨M3,va3,k3,v3,s3⟩:=S.carry hr h2 flat_eDue 0 ([] ++ M1 ++ M2) k2
 have o1:=s1.one
 have o2:=s2.one
 refine f86w va1 va2 va3 names lim win B l _ o1 o2 s3 hl hB hn hd k3 (ARel.cons_mk ?_ (ARel.cons_mk v3 (ARel.dflat (by simpa using fB))))
 refine VRel.agg_mk (ARel.cons_mk flat_int (ARel.cons_mk flat_int (ARel.cons_mk flat_int (ARel.cons_mk (renOf_mono (renOf_mono v1)) (ARel.cons_mk (renOf_mono v2) (ARel.nil _)))))) ?_
 have sc:∀ {H:AHeap} {s n:Nat} {v:Value} {c:List Value},SR H s n v c→scalar v=true:=by
  intro H s n v c S
  rcases S.shape with ⟨rfl,_⟩|⟨_,_,_,rfl,_⟩ <;> rfl
 intro x hx
 have hx:x∈[iv names,iv lim,iv win,va1,va2]:=hx
 simp only [List.mem_cons,List.not_mem_nil,or_false] at hx
 rcases hx with rfl|rfl|rfl|rfl|rfl
 ·rfl
 ·rfl
 ·rfl
 ·exact sc s1
 ·exact sc s2
end Go.Proofs.Swa
set_option maxRecDepth 20000
set_option linter.unusedVariables false
set_option linter.unusedSimpArgs false
namespace Go.Proofs.Swa
open Go
open Nat renaming reduceAdd → nrA, reduceMul → nrM, reduceEqDiff → nrE, reduceLT → nrL
open Int renaming reduceToNat → irN
attribute [local congr] WO_congr oV_congr oB_congr oH_congr WD_congr oblO_congr oblA_congr oblR_congr
theorem f104 (a b:Int) (H:AHeap):∃ v H',C8 (.fn 104) #[iv a,iv b] H v H'∧v=iv (apartP a b)∧H'=H:=by
 refine Cl.ofW Try.func104 rfl (by kernel_rfl) (by rw [Try.ntmps104];exact Nat.le_of_ble_eq_true rfl) (by kernel_rfl) ?_
 have hEg:True:=trivial
 refine gcW [0,1] ?_
 intro eg hEn
 simp only [forallC,forallL,and_true] at hEn
 try simp only [↓pb,qbs,tb104,hEg,irN,nrA,nrM,nrE,reduceIte,reduceCtorEq,nrL] at hEn
 replace hEg:=hEn;clear hEn
 repeat' (first|((with_reducible refine hK _ _ fun e2 hEn=>?_);clear hK K;simp only [lv104,forallC,forallL,and_true] at hEn;(try simp only [↓pb,qbs,tb104,hEg,irN,nrA,nrM,nrE,reduceIte,reduceCtorEq,nrL] at hEn);clear hEg;(try clear eg);have hEg:=hEn;clear hEn;rename Env=>eg)|((first|((with_reducible first|apply oV_intro|apply oH_intro|apply oB_intro);(simp (disch:=try exact dA) only [qcs,tb104,hEg,irN,nrA,nrM,nrE,reduceIte,reduceCtorEq,nrL];with_reducible exact rfl))|(with_reducible first|refine W_regionF lv104 fun K hK=>?_));try simp only [↓pb,↓pd,qds,tb104,hEg,irN,nrA,nrM,nrE,reduceIte,reduceCtorEq,nrL])|(with_reducible first|refine W_seq ?_|refine W_ret ?_)|fail)
 refine ⟨by first|exact .inl rfl|exact .inr rfl, ?_⟩
 rw [ret1 Try.results104]
 simp only [↓pb,qbs,tb104,rv_tmp,rv_cell,hEg,irN,nrA,nrM,nrE,reduceIte,reduceCtorEq,nrL]
 repeat ((with_reducible apply oV_intro);(simp (disch:=try exact dA) only [qcs,tb104,hEg,irN,nrA,nrM,nrE,reduceIte,reduceCtorEq,nrL];exact rfl))
 rfl
theorem f100 (vs:Value) (h:Hdg) (day:Nat) (lots:Int) (H:AHeap) (hT:Top H) (S:SR H 2 h.Stock.length vs (h.Stock.flatMap eRg)) (hd:day < h.Stock.length) :
  ∃ v H',C8 (.fn 100) #[.agg ⟨eHdg vs h⟩,iv day,iv lots] H v H'∧v=.agg ⟨[iv (expP h day lots).1,iv (expP h day lots).2]⟩∧Fr H.n [] H H':=by
 have so:=S.one
 have l1:=S.lt
 have e0:=(S.el eRg_len rfl)
 refine Cl.ofW Try.func100 rfl (by kernel_rfl) (by rw [Try.ntmps100];exact Nat.le_of_ble_eq_true rfl) (by kernel_rfl) ?_
 have hEg:True:=trivial
 refine gcW [0,1,2] ?_
 intro eg hEn
 simp only [forallC,forallL,and_true] at hEn
 try simp only [↓pb,qbs,tb100,eHdg,so,so.1,so.2,ias37 S,S.rd,e0,eRg,hEg,irN,nrA,nrM,nrE,reduceIte,reduceCtorEq,nrL] at hEn
 replace hEg:=hEn;clear hEn
 repeat' (first|((with_reducible refine hK _ _ fun e2 hEn=>?_);clear hK K;simp only [lv100,forallC,forallL,and_true] at hEn;(try simp only [↓pb,qbs,tb100,eHdg,so,so.1,so.2,ias37 S,S.rd,e0,eRg,hEg,irN,nrA,nrM,nrE,reduceIte,reduceCtorEq,nrL] at hEn);clear hEg;(try clear eg);have hEg:=hEn;clear hEn;rename Env=>eg)|((first|((with_reducible first|apply oV_intro|apply oH_intro|apply oB_intro);(simp (disch:=try exact dA) only [qcs,tb100,eHdg,so,so.1,so.2,ias37 S,S.rd,e0,eRg,hEg,irN,nrA,nrM,nrE,reduceIte,reduceCtorEq,nrL];with_reducible exact rfl))|((with_reducible first|apply oblA_and|apply oblR_and|apply oblO_and);(focus exact obA))|(with_reducible first|refine W_regionF lv100 fun K hK=>?_|refine W_drawnF lv100 fun K hK=>?_));try simp only [↓pb,↓pd,qds,tb100,eHdg,so,so.1,so.2,ias37 S,S.rd,e0,eRg,hEg,irN,nrA,nrM,nrE,reduceIte,reduceCtorEq,nrL])|(with_reducible first|refine W_seq ?_|refine W_ret ?_)|fail)
 refine ⟨by first|exact .inl rfl|exact .inr rfl, ?_⟩
 rw [ret1 Try.results100]
 simp only [↓pb,qbs,tb100,eHdg,so,so.1,so.2,ias37 S,S.rd,e0,eRg,rv_tmp,rv_cell,hEg,irN,nrA,nrM,nrE,reduceIte,reduceCtorEq,nrL]
 repeat ((with_reducible apply oV_intro);(simp (disch:=try exact dA) only [qcs,tb100,eHdg,so,so.1,so.2,ias37 S,S.rd,e0,eRg,hEg,irN,nrA,nrM,nrE,reduceIte,reduceCtorEq,nrL];exact rfl))
 refine ⟨rfl, ?_⟩
 exact frA
def TbH (h:AHeap) (b n:Nat) (T:Nat→Nat→Int):Prop:=∃ c,h.get b=.cells c 148 .ex∧c.length=n * 51∧∀ d l,d < n→l < 51→c[d * 51 + l]? = some (iv (T d l))
theorem f103 (vs:Value) (h:Hdg) (day before lots bh br bt n:Nat) (T:Nat→Nat→Int) (H:AHeap) (hT:Top H) (S:SR H 2 h.Stock.length vs (h.Stock.flatMap eRg)) (hd:day < h.Stock.length) (hl:h.Stock.length < 1000000) (hlt:lots < 51) (hbf:before < 51)
  (g1:H.rd bh=some (eHdg vs h)) (g2:H.rd br=some [.slice (some ⟨bt,0,none⟩) (h.Stock.length + 1) (h.Stock.length + 1)]) (hb:bh < H.n∧br < H.n∧bt < H.n) (t:TbH H bt (h.Stock.length + 1) T) :
  ∃ v H',C8 (.fn 103) #[iv day,iv before,iv lots,vptr bh 0,vptr br 0] H v H'∧v=iv (costP h T day before lots)∧Fr H.n [] H H':=by
 have so:=S.one
 have l1:=S.lt
 obtain ⟨b1,b2,b3⟩:=hb
 obtain ⟨c,gc,cl,ce⟩:=t
 have hw:IntKind.i64.wrap ((day:Int) + 1)=((day + 1:Nat):Int):=inc64 (by omega)
 have r0:H.rd bt=some c:=by rw [rd_def,gc];rfl
 have e0:=ce (day + 1) lots (by omega) hlt
 refine Cl.ofW Try.func103 rfl (by kernel_rfl) (by rw [Try.ntmps103];exact Nat.le_of_ble_eq_true rfl) (by kernel_rfl) ?_
 have hEg:True:=trivial
 refine gcW [0,1,2,3,4] ?_
 intro eg hEn
 simp only [forallC,forallL,and_true] at hEn
 try simp only [↓pb,qbs,tb103,eHdg,g1,g2,r0,e0,hw,so,so.1,so.2,Nat.mul_one,Nat.zero_add,hEg,irN,nrA,nrM,nrE,reduceIte,reduceCtorEq,nrL] at hEn
 replace hEg:=hEn;clear hEn
 repeat' (first|((with_reducible refine hK _ _ fun e2 hEn=>?_);clear hK K;simp only [lv103,forallC,forallL,and_true] at hEn;(try simp only [↓pb,qbs,tb103,eHdg,g1,g2,r0,e0,hw,so,so.1,so.2,Nat.mul_one,Nat.zero_add,hEg,irN,nrA,nrM,nrE,reduceIte,reduceCtorEq,nrL] at hEn);clear hEg;(try clear eg);have hEg:=hEn;clear hEn;rename Env=>eg)|((first|((with_reducible first|apply oV_intro|apply oH_intro|apply oB_intro);(simp (disch:=try exact dA) only [qcs,tb103,eHdg,g1,g2,r0,e0,hw,so,so.1,so.2,Nat.mul_one,Nat.zero_add,hEg,irN,nrA,nrM,nrE,reduceIte,reduceCtorEq,nrL];with_reducible exact rfl))|((with_reducible first|apply oblA_and|apply oblR_and|apply oblO_and);(focus exact obA))|((with_reducible apply WO_callE);(simp only [↓pb,qbs,tb103,eHdg,g1,g2,r0,e0,hw,so,so.1,so.2,Nat.mul_one,Nat.zero_add,hEg,irN,nrA,nrM,nrE,reduceIte,reduceCtorEq,nrL];(exact f104 _ _ _)))|((with_reducible apply WO_callV);(focus exact topA);(simp only [↓pb,qbs,tb103,eHdg,g1,g2,r0,e0,hw,so,so.1,so.2,Nat.mul_one,Nat.zero_add,hEg,irN,nrA,nrM,nrE,reduceIte,reduceCtorEq,nrL];(exact f100 _ _ _ _ _ (by exact topA) S hd));(intro Gq hq hJq;try simp only [upd_n,jn_n] at hq))|(with_reducible first|refine W_regionF lv103 fun K hK=>?_|refine W_drawnF lv103 fun K hK=>?_));try simp only [↓pb,↓pd,qds,tb103,eHdg,g1,g2,r0,e0,hw,so,so.1,so.2,Nat.mul_one,Nat.zero_add,hEg,irN,nrA,nrM,nrE,reduceIte,reduceCtorEq,nrL])|((first|((with_reducible first|apply WO_gT|apply WO_gF|apply WD_gT|apply WD_gF);exact rfl)|(with_reducible apply W_cond));(simp only [↓pb,qbs,tb103,eHdg,g1,g2,r0,e0,hw,so,so.1,so.2,Nat.mul_one,Nat.zero_add,hEg,irN,nrA,nrM,nrE,reduceIte,reduceCtorEq,nrL];with_reducible exact rfl);all_goals (intro hc;(first|exact hcX hc|try simp only [hcs] at hc);try ((with_reducible first|apply woI|apply wdI);simp only [↓pb,↓pd,qds,tb103,eHdg,g1,g2,r0,e0,hw,so,so.1,so.2,Nat.mul_one,Nat.zero_add,hc,hEg,irN,nrA,nrM,nrE,reduceIte,reduceCtorEq,nrL])))|(with_reducible first|refine W_seq ?_|refine W_skip ?_|refine W_ret ?_)|fail)
 all_goals (
  refine ⟨by first|exact .inl rfl|exact .inr rfl, ?_⟩
  rw [ret1 Try.results103]
  simp only [↓pb,qbs,tb103,eHdg,g1,g2,r0,e0,hw,so,so.1,so.2,Nat.mul_one,Nat.zero_add,rv_tmp,rv_cell,hEg,irN,nrA,nrM,nrE,reduceIte,reduceCtorEq,nrL]
  repeat ((with_reducible apply oV_intro);(simp (disch:=try exact dA) only [qcs,tb103,eHdg,g1,g2,r0,e0,hw,so,so.1,so.2,Nat.mul_one,Nat.zero_add,hEg,irN,nrA,nrM,nrE,reduceIte,reduceCtorEq,nrL];exact rfl)))
 all_goals (
 refine ⟨?_, ?_⟩
 ·have hneg:w64 (-h.Bound)=IntKind.i64.wrap (0 - h.Bound):=by rw [Int.zero_sub];rfl
  unfold costP
  rw [hneg]
  first
   | (rw [if_pos (by omega)];rfl)
   | (rw [if_neg (by omega)];rfl)
 ·exact frA
 )
theorem f97 (vs:Value) (g:Hdg) (H:AHeap) (hT:Top H) (S:SR H 2 g.Stock.length vs (g.Stock.flatMap eRg)) (hl:g.Stock.length < 1000000) :
  ∃ v H',C8 (.fn 97) #[.agg ⟨eHdg vs g⟩] H v H'∧v=iv (hedgeErr g)∧Fr H.n [] H H':=by
 have so:=S.one
 refine Cl.ofW Try.func97 rfl (by kernel_rfl) (by rw [Try.ntmps97];exact Nat.le_of_ble_eq_true rfl) (by kernel_rfl) ?_
 have hEg:True:=trivial
 refine gcW [0] ?_
 intro eg hEn
 simp only [forallC,forallL,and_true] at hEn
 try simp only [↓pb,qbs,tb97,eHdg,so,so.1,so.2,lns37 S,hEg,irN,nrA,nrM,nrE,reduceIte,reduceCtorEq,nrL] at hEn
 replace hEg:=hEn;clear hEn
 repeat' (first|((with_reducible refine hK _ _ fun e2 hEn=>?_);clear hK K;simp only [lv97,forallC,forallL,and_true] at hEn;(try simp only [↓pb,qbs,tb97,eHdg,so,so.1,so.2,lns37 S,hEg,irN,nrA,nrM,nrE,reduceIte,reduceCtorEq,nrL] at hEn);clear hEg;(try clear eg);have hEg:=hEn;clear hEn;rename Env=>eg)|((first|((with_reducible first|apply oV_intro|apply oH_intro|apply oB_intro);(simp (disch:=try exact dA) only [qcs,tb97,eHdg,so,so.1,so.2,lns37 S,hEg,irN,nrA,nrM,nrE,reduceIte,reduceCtorEq,nrL];with_reducible exact rfl))|(with_reducible first|refine W_regionF lv97 fun K hK=>?_));try simp only [↓pb,↓pd,qds,tb97,eHdg,so,so.1,so.2,lns37 S,hEg,irN,nrA,nrM,nrE,reduceIte,reduceCtorEq,nrL])|((first|((with_reducible first|apply WO_gT|apply WO_gF);exact rfl)|(with_reducible apply W_cond));(simp only [↓pb,qbs,tb97,eHdg,so,so.1,so.2,lns37 S,hEg,irN,nrA,nrM,nrE,reduceIte,reduceCtorEq,nrL];with_reducible exact rfl);all_goals (intro hc;(first|exact hcX hc|try simp only [hcs] at hc);try ((with_reducible apply woI);simp only [↓pb,↓pd,qds,tb97,eHdg,so,so.1,so.2,lns37 S,hc,hEg,irN,nrA,nrM,nrE,reduceIte,reduceCtorEq,nrL])))|(with_reducible first|refine W_seq ?_|refine W_block ?_|refine W_skip ?_|refine W_ret ?_|refine W_exit ?_|apply blockK_exit)|((with_reducible apply blockK_pass);(focus decide))|fail)
 ·refine ⟨by first|exact .inl rfl|exact .inr rfl, ?_⟩
  rw [ret1 Try.results97]
  simp only [↓pb,qbs,tb97,eHdg,so,so.1,so.2,lns37 S,rv_tmp,rv_cell,hEg,irN,nrA,nrM,nrE,reduceIte,reduceCtorEq,nrL]
  repeat ((with_reducible apply oV_intro);(simp (disch:=try exact dA) only [qcs,tb97,eHdg,so,so.1,so.2,lns37 S,hEg,irN,nrA,nrM,nrE,reduceIte,reduceCtorEq,nrL];exact rfl))
  refine ⟨by rw [hedgeErr,if_pos (by omega)], ?_⟩
  exact frA
 ·refine ⟨by first|exact .inl rfl|exact .inr rfl, ?_⟩
  rw [ret1 Try.results97]
  simp only [↓pb,qbs,tb97,eHdg,so,so.1,so.2,lns37 S,rv_tmp,rv_cell,hEg,irN,nrA,nrM,nrE,reduceIte,reduceCtorEq,nrL]
  repeat ((with_reducible apply oV_intro);(simp (disch:=try exact dA) only [qcs,tb97,eHdg,so,so.1,so.2,lns37 S,hEg,irN,nrA,nrM,nrE,reduceIte,reduceCtorEq,nrL];exact rfl))
  refine ⟨by rw [hedgeErr,if_neg (by omega),if_pos (by omega)], ?_⟩
  exact frA
 have hE0:hedgeErr g=if stockErr g.Stock≠0 then stockErr g.Stock else if !inB g.Lot 1 1000000 || (!inB g.Bound 0 1000000 || !inB g.Held 0 50) then 1 else 0:=by
  rw [hedgeErr,if_neg (by omega),if_neg (by omega)]
 refine W_count [1,16,17] (by kernel_rfl) 18 (g.Stock.length) (H.n) [] [] (fun i e h=>stockErr g.Stock=stockErr (g.Stock.drop i)) (by simp only [↓pb,qbs,tb97,eHdg,so,so.1,so.2,lns37 S,hEg,irN,nrA,nrM,nrE,reduceIte,reduceCtorEq,nrL]) (by focus exact topA) (H0:=H) (by focus exact frA) (by intro b hb hlt;simp at hb ⊢;try omega) ?_ ?_
 rotate_left
 intro i1 e1 h1 hi1 hE1 ei1 hF1 hF01 hTh1 hJ1
 simp only [forallC,forallL,and_true] at hE1
 try simp only [↓pb,qbs,tb97,eHdg,so,so.1,so.2,lns37 S,hEg,irN,nrA,nrM,nrE,reduceIte,reduceCtorEq,nrL] at hE1
 have hn11:=hF1.n;have hn01:=hF01.n;try simp only [upd_n,jn_n] at hn11
 replace hEg:=And.intro ei1 hE1
 rotate_left
 ·rfl
 have S1:=S.fr0 hF01
 have l1:=S1.lt
 by_cases hi2:i1 < g.Stock.length
 ·rw [drop_getD hi2,stockErr] at hJ1
  have e0:=(S1.el eRg_len rfl)
  have bad:∀ c:Int,c≠0→rgBad (g.Stock.getD i1 default)=c→hedgeErr g=c:=by
   intro c q1 q2
   have q3:stockErr g.Stock=c:=by rw [hJ1,q2,if_neg q1]
   rw [hE0,q3,if_pos q1]
  have c1:(¬ (0≤(g.Stock.getD i1 default).1∧(g.Stock.getD i1 default).1≤1000000)∨¬ (0≤(g.Stock.getD i1 default).2∧(g.Stock.getD i1 default).2≤1000000))→hedgeErr g=1:=by
   intro q
   refine bad 1 (by decide) ?_
   unfold rgBad
   rw [if_pos]
   rcases q with q|q
   ·have q:inB (g.Stock.getD i1 default).1 0 1000000=false:=decide_eq_false q
    rw [q]
    rfl
   ·have q:inB (g.Stock.getD i1 default).2 0 1000000=false:=decide_eq_false q
    rw [q]
    simp
  have good:(0≤(g.Stock.getD i1 default).1∧(g.Stock.getD i1 default).1≤1000000)→(0≤(g.Stock.getD i1 default).2∧(g.Stock.getD i1 default).2≤1000000)→rgBad (g.Stock.getD i1 default)=if (g.Stock.getD i1 default).2 < (g.Stock.getD i1 default).1 then 5 else 0:=by
   intro q1 q2
   have q1:inB (g.Stock.getD i1 default).1 0 1000000=true:=decide_eq_true q1
   have q2:inB (g.Stock.getD i1 default).2 0 1000000=true:=decide_eq_true q2
   unfold rgBad
   rw [q1,q2]
   rfl
  repeat' (first|((with_reducible refine hK _ _ fun e2 hEn=>?_);clear hK K;simp only [lv97,forallC,forallL,and_true] at hEn;(try simp only [↓pb,qbs,tb97,eHdg,so,so.1,so.2,lns37 S,hEg,irN,nrA,nrM,nrE,reduceIte,reduceCtorEq,nrL] at hEn);clear hEg;(try clear eg);have hEg:=hEn;clear hEn;rename Env=>eg)|((first|((with_reducible first|apply oV_intro|apply oH_intro|apply oB_intro);(simp (disch:=try exact dA) only [qcs,tb97,eHdg,so,so.1,so.2,lns37 S,ias37 S1,S1.rd,e0,eRg,hEg,irN,nrA,nrM,nrE,reduceIte,reduceCtorEq,nrL];with_reducible exact rfl))|((with_reducible apply WO_callE);(simp only [↓pb,qbs,tb97,eHdg,so,so.1,so.2,lns37 S,ias37 S1,S1.rd,e0,eRg,hEg,irN,nrA,nrM,nrE,reduceIte,reduceCtorEq,nrL];(exact f75 _ _ _ _)))|(with_reducible first|refine W_regionF lv97 fun K hK=>?_));try simp only [↓pb,↓pd,qds,tb97,eHdg,so,so.1,so.2,lns37 S,ias37 S1,S1.rd,e0,eRg,hEg,irN,nrA,nrM,nrE,reduceIte,reduceCtorEq,nrL])|((first|((with_reducible first|apply WO_gT|apply WO_gF);exact rfl)|(with_reducible apply W_cond));(simp only [↓pb,qbs,tb97,eHdg,so,so.1,so.2,lns37 S,ias37 S1,S1.rd,e0,eRg,hEg,irN,nrA,nrM,nrE,reduceIte,reduceCtorEq,nrL];with_reducible exact rfl);all_goals (intro hc;(first|exact hcX hc|try simp only [hcs] at hc);try ((with_reducible apply woI);simp only [↓pb,↓pd,qds,tb97,eHdg,so,so.1,so.2,lns37 S,ias37 S1,S1.rd,e0,eRg,hc,hEg,irN,nrA,nrM,nrE,reduceIte,reduceCtorEq,nrL])))|(with_reducible first|refine W_seq ?_|refine W_block ?_|refine W_skip ?_|refine W_ret ?_|refine W_exit ?_|apply blockK_exit)|((with_reducible apply blockK_pass);(focus decide))|fail)
  rotate_right
  ·refine ⟨by omega,by simp only [↓pb,qbs,tb97,eHdg,so,so.1,so.2,lns37 S,hEg,irN,nrA,nrM,nrE,reduceIte,reduceCtorEq,nrL];exact congrArg _ (inc64 (by omega)),by focus exact frA, ?_⟩
   rw [hJ1,if_pos (by rw [good (by omega) (by omega),if_neg (by omega)])]
  all_goals (
   refine ⟨by first|exact .inl rfl|exact .inr rfl, ?_⟩
   rw [ret1 Try.results97]
   simp only [↓pb,qbs,tb97,eHdg,so,so.1,so.2,lns37 S,rv_tmp,rv_cell,hEg,irN,nrA,nrM,nrE,reduceIte,reduceCtorEq,nrL]
   repeat ((with_reducible apply oV_intro);(simp (disch:=try exact dA) only [qcs,tb97,eHdg,so,so.1,so.2,lns37 S,hEg,irN,nrA,nrM,nrE,reduceIte,reduceCtorEq,nrL];exact rfl)))
  all_goals (
  refine ⟨?_, ?_⟩
  ·first
    | rw [c1 (by omega)]
    | rw [bad 5 (by decide) (by rw [good (by omega) (by omega),if_pos (by omega)])]
  ·exact frA
  )
 ·have e1n:i1=g.Stock.length:=by omega
  have hfe:stockErr g.Stock=0:=by
   rw [hJ1,e1n,List.drop_length]
   rfl
  clear hJ1
  rw [hfe,if_neg (by simp)] at hE0
  have bT:∀ {a b c:Int},b≤a∧a≤c→inB a b c=true:=fun h=>decide_eq_true h
  have bF:∀ {a b c:Int},¬ (b≤a∧a≤c)→inB a b c=false:=fun h=>decide_eq_false h
  have r0:h1.rd H.n=some (eHdg vs g):=by
   rw [rd_def,hF1.old _ (by simp only [↓pb,qbs,tb97,eHdg,so,so.1,so.2,lns37 S,hEg,irN,nrA,nrM,nrE,reduceIte,reduceCtorEq,nrL];omega) (by simp)]
   simp (disch:=try exact dA) only [qcs,tb97,eHdg,so,so.1,so.2,lns37 S,hEg,irN,nrA,nrM,nrE,reduceIte,reduceCtorEq,nrL]
  rw [eHdg] at r0
  repeat' (first|((with_reducible refine hK _ _ fun e2 hEn=>?_);clear hK K;simp only [lv97,forallC,forallL,and_true] at hEn;(try simp only [↓pb,qbs,tb97,eHdg,so,so.1,so.2,lns37 S,r0,hEg,irN,nrA,nrM,nrE,reduceIte,reduceCtorEq,nrL] at hEn);clear hEg;(try clear eg);have hEg:=hEn;clear hEn;rename Env=>eg)|((first|((with_reducible first|apply oV_intro|apply oH_intro|apply oB_intro);(simp (disch:=try exact dA) only [qcs,tb97,eHdg,so,so.1,so.2,lns37 S,r0,hEg,irN,nrA,nrM,nrE,reduceIte,reduceCtorEq,nrL];with_reducible exact rfl))|((with_reducible apply WO_callE);(simp only [↓pb,qbs,tb97,eHdg,so,so.1,so.2,lns37 S,r0,hEg,irN,nrA,nrM,nrE,reduceIte,reduceCtorEq,nrL];(exact f75 _ _ _ _)))|(with_reducible first|refine W_regionF lv97 fun K hK=>?_));try simp only [↓pb,↓pd,qds,tb97,eHdg,so,so.1,so.2,lns37 S,r0,hEg,irN,nrA,nrM,nrE,reduceIte,reduceCtorEq,nrL])|((first|((with_reducible first|apply WO_gT|apply WO_gF);exact rfl)|(with_reducible apply W_cond));(simp only [↓pb,qbs,tb97,eHdg,so,so.1,so.2,lns37 S,r0,hEg,irN,nrA,nrM,nrE,reduceIte,reduceCtorEq,nrL];with_reducible exact rfl);all_goals (intro hc;(first|exact hcX hc|try simp only [hcs] at hc);try ((with_reducible apply woI);simp only [↓pb,↓pd,qds,tb97,eHdg,so,so.1,so.2,lns37 S,r0,hc,hEg,irN,nrA,nrM,nrE,reduceIte,reduceCtorEq,nrL])))|(with_reducible first|refine W_seq ?_|refine W_block ?_|refine W_skip ?_|refine W_ret ?_|refine W_exit ?_|apply blockK_exit)|((with_reducible apply blockK_pass);(focus decide))|fail)
  all_goals (
   refine ⟨by first|exact .inl rfl|exact .inr rfl, ?_⟩
   rw [ret1 Try.results97]
   simp only [↓pb,qbs,tb97,eHdg,so,so.1,so.2,lns37 S,rv_tmp,rv_cell,hEg,irN,nrA,nrM,nrE,reduceIte,reduceCtorEq,nrL]
   repeat ((with_reducible apply oV_intro);(simp (disch:=try exact dA) only [qcs,tb97,eHdg,so,so.1,so.2,lns37 S,hEg,irN,nrA,nrM,nrE,reduceIte,reduceCtorEq,nrL];exact rfl)))
  all_goals (
  refine ⟨?_,hF01⟩
  rw [hE0]
  first
   | rw [if_neg (by rw [bT (a:=g.Lot) (by omega),bT (a:=g.Bound) (by omega),bT (a:=g.Held) (by omega)];simp)]
   | rw [if_pos (by rw [bF (a:=g.Lot) (by omega)];rfl)]
   | rw [if_pos (by rw [bF (a:=g.Bound) (by omega)];simp)]
   | rw [if_pos (by rw [bF (a:=g.Held) (by omega)];simp)]
  )
end Go.Proofs.Swa
