/- Part 11 of a proof. -/
import Derived.Test.YtloabbaheifkgaaP10
set_option maxRecDepth 20000
set_option linter.unusedVariables false
set_option linter.unusedSimpArgs false
namespace Go.Proofs.Swa
open Go
open Nat renaming reduceAdd → nrA, reduceMul → nrM, reduceEqDiff → nrE, reduceLT → nrL
open Int renaming reduceToNat → irN
attribute [local congr] WO_congr oV_congr oB_congr oH_congr WD_congr oblO_congr oblA_congr oblR_congr
set_option maxHeartbeats 4000000 in
theorem f67 (vl vd:Value) (t:Tll) (H:AHeap) (hT:Top H) (Sl:SR H 3 t.Links.length vl (t.Links.flatMap eLnk)) (hk:t.Links.length=0∨SK H 3 vl) (Sd:SR H 4 t.Dues.length vd (t.Dues.flatMap eDue)) (hl:t.Links.length < 1000000) (hd:t.Dues.length < 1000000) :
  ∃ v H',C8 (.fn 67) #[.agg ⟨eTill t.Names t.Limit t.Window vl vd⟩] H v H'∧v=iv (tillErr t)∧Fr H.n [] H H':=by
 have so:=Sl.one
 have sd:=Sd.one
 refine Cl.ofW Try.func67 rfl (by kernel_rfl) (by rw [Try.ntmps67];exact Nat.le_of_ble_eq_true rfl) (by kernel_rfl) ?_
 have hEg:True:=trivial
 refine gcW [0] ?_
 intro eg hEn
 simp only [forallC,forallL,and_true] at hEn
 try simp only [↓pb,qbs,tb67,eTill,so,so.1,so.2,sd,sd.1,sd.2,lns45 Sl,lns46 Sd,hEg,irN,nrA,nrM,nrE,reduceIte,reduceCtorEq,nrL] at hEn
 replace hEg:=hEn;clear hEn
 have bT:∀ {a b c:Int},b≤a∧a≤c→inB a b c=true:=fun h=>decide_eq_true h
 have bF:∀ {a b c:Int},¬ (b≤a∧a≤c)→inB a b c=false:=fun h=>decide_eq_false h
 repeat' (first|((with_reducible refine hK _ _ fun e2 hEn=>?_);clear hK K;simp only [lv67,forallC,forallL,and_true] at hEn;(try simp only [↓pb,qbs,tb67,eTill,so,so.1,so.2,sd,sd.1,sd.2,lns45 Sl,lns46 Sd,hEg,irN,nrA,nrM,nrE,reduceIte,reduceCtorEq,nrL] at hEn);clear hEg;(try clear eg);have hEg:=hEn;clear hEn;rename Env=>eg)|((first|((with_reducible first|apply oV_intro|apply oH_intro|apply oB_intro);(simp (disch:=try exact dA) only [qcs,tb67,eTill,so,so.1,so.2,sd,sd.1,sd.2,lns45 Sl,lns46 Sd,hEg,irN,nrA,nrM,nrE,reduceIte,reduceCtorEq,nrL];with_reducible exact rfl))|((with_reducible first|apply oblA_and|apply oblR_and|apply oblO_and);(focus exact obA))|((with_reducible apply WO_callE);(simp only [↓pb,qbs,tb67,eTill,so,so.1,so.2,sd,sd.1,sd.2,lns45 Sl,lns46 Sd,hEg,irN,nrA,nrM,nrE,reduceIte,reduceCtorEq,nrL];(exact f75 _ _ _ _)))|(with_reducible first|refine W_regionF lv67 fun K hK=>?_|refine W_drawnF lv67 fun K hK=>?_));try simp only [↓pb,↓pd,qds,tb67,eTill,so,so.1,so.2,sd,sd.1,sd.2,lns45 Sl,lns46 Sd,hEg,irN,nrA,nrM,nrE,reduceIte,reduceCtorEq,nrL])|((first|((with_reducible first|apply WO_gT|apply WO_gF|apply WD_gT|apply WD_gF);exact rfl)|(with_reducible apply W_cond));(simp only [↓pb,qbs,tb67,eTill,so,so.1,so.2,sd,sd.1,sd.2,lns45 Sl,lns46 Sd,hEg,irN,nrA,nrM,nrE,reduceIte,reduceCtorEq,nrL];with_reducible exact rfl);all_goals (intro hc;(first|exact hcX hc|try simp only [hcs] at hc);try ((with_reducible first|apply woI|apply wdI);simp only [↓pb,↓pd,qds,tb67,eTill,so,so.1,so.2,sd,sd.1,sd.2,lns45 Sl,lns46 Sd,hc,hEg,irN,nrA,nrM,nrE,reduceIte,reduceCtorEq,nrL])))|(with_reducible first|refine W_seq ?_|refine W_block ?_|refine W_skip ?_|refine W_ret ?_|refine W_exit ?_|apply blockK_exit)|((with_reducible apply blockK_pass);(focus decide))|fail)
 rotate_left 5
 ·have hE0:tillErr t=if lnksErr (w64 (t.Names - 1)) [] t.Links≠0 then lnksErr (w64 (t.Names - 1)) [] t.Links else if 20 < t.Dues.length then 6 else duesErr (w64 (t.Names - 1)) none t.Dues:=by
   rw [tillErr,if_neg (by omega),if_neg (by omega),if_neg (by rw [bT (a:=t.Limit) (by omega),bT (a:=t.Window) (by omega)];simp),if_neg (by omega)]
  have hla:∀ x,IntKind.i64.wrap x=w64 x:=fun _=>rfl
  rw [hla] at hEg
  clear hla
  generalize w64 (t.Names - 1)=last at hE0 hEg
  refine W_count [1,3,34,35] (by kernel_rfl) 36 (t.Links.length) (H.n) [] [] (fun i e h=>lnksErr last [] t.Links=lnksErr last (t.Links.take i) (t.Links.drop i)) (by simp only [↓pb,qbs,tb67,eTill,so,so.1,so.2,sd,sd.1,sd.2,lns45 Sl,lns46 Sd,hEg,irN,nrA,nrM,nrE,reduceIte,reduceCtorEq,nrL]) (by focus exact topA) (H0:=H) (by focus exact frA) (by intro b hb hlt;simp at hb ⊢;try omega) ?_ ?_
  rotate_left
  intro i1 e1 h1 hi1 hE1 ei1 hF1 hF01 hTh1 hJ1
  simp only [forallC,forallL,and_true] at hE1
  try simp only [↓pb,qbs,tb67,eTill,so,so.1,so.2,sd,sd.1,sd.2,lns45 Sl,lns46 Sd,hEg,irN,nrA,nrM,nrE,reduceIte,reduceCtorEq,nrL] at hE1
  have hn11:=hF1.n;have hn01:=hF01.n;try simp only [upd_n,jn_n] at hn11
  replace hEg:=And.intro ei1 hE1
  rotate_left
  ·rfl
  have S1:=Sl.fr0 hF01
  have l1:=S1.lt
  have r0:h1.rd H.n=some (eTill t.Names t.Limit t.Window vl vd):=by
   rw [rd_def,hF1.old _ (by simp only [↓pb,qbs,tb67,eTill,so,so.1,so.2,sd,sd.1,sd.2,lns45 Sl,lns46 Sd,hEg,irN,nrA,nrM,nrE,reduceIte,reduceCtorEq,nrL];omega) (by simp)]
   simp (disch:=try exact dA) only [qcs,tb67,eTill,so,so.1,so.2,sd,sd.1,sd.2,lns45 Sl,lns46 Sd,hEg,irN,nrA,nrM,nrE,reduceIte,reduceCtorEq,nrL]
  rw [eTill] at r0
  by_cases hi2:i1 < t.Links.length
  ·rw [drop_getD hi2,lnksErr,← take_getD hi2] at hJ1
   have e0:=S1.el eLnk_len rfl
   have K1:SK h1 3 vl:=(hk.resolve_left (by omega)).fr hF01 (Sl.lt.resolve_left (by omega)) (by simp)
   have hlen:(t.Links.take i1).length=i1:=by rw [List.length_take];omega
   have sp:=fun c:List Value=>slice_pre (q:=.i64) und45 sz84 (S1.fr0 (N:=0) Fr.ex) (K1.fr (Fr.ex (N:=0) (X:=[]) (c:=c) (T:=84)) (l1.resolve_left (by omega)) (by simp)) hi1 (by omega)
   have hsl:=fun c:List Value=>(sp c).1
   have hS:∀ c:List Value,SR (h1.upd (h1.n + 1) h1.n (.cells c 84 .ex)) 3 (t.Links.take i1).length (sl vl i1) ((t.Links.take i1).flatMap eLnk):=fun c=>by
    rw [hlen,← flat_take eLnk_len]
    exact (sp c).2
   have osl:=(hS []).one
   generalize hx:t.Links.getD i1 default=x at *
   have bad:∀ c:Int,c≠0→lnkBad last (t.Links.take i1) x=c→tillErr t=c:=by
    intro c q1 q2
    have q3:lnksErr last [] t.Links=c:=by rw [hJ1,q2,if_neg q1]
    rw [hE0,q3,if_pos q1]
   have hrd:(h1.upd (h1.n + 1) h1.n (.cells [.int .i64 x.A,.int .i64 x.B,.bool x.Sure] 84 .ex)).rd h1.n=some (eLnk x):=by rw [rd_def,upd_get_same];rfl
   have htl:(t.Links.take i1).length < 1000000:=by omega
   repeat' (first|((with_reducible refine hK _ _ fun e2 hEn=>?_);clear hK K;simp only [lv67,forallC,forallL,and_true] at hEn;(try simp only [↓pb,qbs,tb67,eTill,so,so.1,so.2,sd,sd.1,sd.2,lns45 Sl,lns46 Sd,hEg,irN,nrA,nrM,nrE,reduceIte,reduceCtorEq,nrL] at hEn);clear hEg;(try clear eg);have hEg:=hEn;clear hEn;rename Env=>eg)|((first|((with_reducible first|apply oV_intro|apply oH_intro|apply oB_intro);(simp (disch:=try exact dA) only [qcs,tb67,eTill,so,so.1,so.2,sd,sd.1,sd.2,lns45 Sl,lns46 Sd,ias45 S1,S1.rd,e0,eLnk,hx,r0,hsl,osl,Option.map_none,Option.map_some,hEg,irN,nrA,nrM,nrE,reduceIte,reduceCtorEq,nrL];with_reducible exact rfl))|((with_reducible first|apply oblA_and|apply oblR_and|apply oblO_and);(focus exact obA))|((with_reducible apply WO_callE);(simp only [↓pb,qbs,tb67,eTill,so,so.1,so.2,sd,sd.1,sd.2,lns45 Sl,lns46 Sd,ias45 S1,S1.rd,e0,eLnk,hx,r0,hsl,osl,Option.map_none,Option.map_some,hEg,irN,nrA,nrM,nrE,reduceIte,reduceCtorEq,nrL];(exact f75 _ _ _ _)))|((with_reducible apply WO_callV);(focus exact topA);(simp only [↓pb,qbs,tb67,eTill,so,so.1,so.2,sd,sd.1,sd.2,lns45 Sl,lns46 Sd,ias45 S1,S1.rd,e0,eLnk,hx,r0,hsl,osl,Option.map_none,Option.map_some,hEg,irN,nrA,nrM,nrE,reduceIte,reduceCtorEq,nrL];(exact f109 (sl vl i1) (t.Links.take i1) x h1.n _ (by exact topA) (hS _) htl oA hrd));(intro Gq hq hJq;try simp only [upd_n,jn_n] at hq))|(with_reducible first|refine W_regionF lv67 fun K hK=>?_|refine W_drawnF lv67 fun K hK=>?_));try simp only [↓pb,↓pd,qds,tb67,eTill,so,so.1,so.2,sd,sd.1,sd.2,lns45 Sl,lns46 Sd,ias45 S1,S1.rd,e0,eLnk,hx,r0,hsl,osl,Option.map_none,Option.map_some,hEg,irN,nrA,nrM,nrE,reduceIte,reduceCtorEq,nrL])|((first|((with_reducible first|apply WO_gT|apply WO_gF|apply WD_gT|apply WD_gF);exact rfl)|(with_reducible apply W_cond));(simp only [↓pb,qbs,tb67,eTill,so,so.1,so.2,sd,sd.1,sd.2,lns45 Sl,lns46 Sd,ias45 S1,S1.rd,e0,eLnk,hx,r0,hsl,osl,Option.map_none,Option.map_some,hEg,irN,nrA,nrM,nrE,reduceIte,reduceCtorEq,nrL];with_reducible exact rfl);all_goals (intro hc;(first|exact hcX hc|try simp only [hcs] at hc);try ((with_reducible first|apply woI|apply wdI);simp only [↓pb,↓pd,qds,tb67,eTill,so,so.1,so.2,sd,sd.1,sd.2,lns45 Sl,lns46 Sd,ias45 S1,S1.rd,e0,eLnk,hx,r0,hsl,osl,Option.map_none,Option.map_some,hc,hEg,irN,nrA,nrM,nrE,reduceIte,reduceCtorEq,nrL])))|(with_reducible first|refine W_seq ?_|refine W_block ?_|refine W_skip ?_|refine W_ret ?_|refine W_exit ?_|apply blockK_exit)|((with_reducible apply blockK_pass);(focus decide))|fail)
   rotate_right
   ·refine ⟨by omega,by simp only [↓pb,qbs,tb67,eTill,so,so.1,so.2,sd,sd.1,sd.2,lns45 Sl,lns46 Sd,hEg,irN,nrA,nrM,nrE,reduceIte,reduceCtorEq,nrL];exact congrArg _ (inc64 (by omega)),by focus exact frA, ?_⟩
    rw [hJ1,if_pos]
    rw [lnkBad,if_neg (by rw [bT (a:=x.A) (by omega),bT (a:=x.B) (by omega)];simp),if_neg (by omega),if_neg (by rw [hc];exact Bool.false_ne_true)]
   all_goals (
    refine ⟨by first|exact .inl rfl|exact .inr rfl, ?_⟩
    rw [ret1 Try.results67]
    simp only [↓pb,qbs,tb67,eTill,so,so.1,so.2,sd,sd.1,sd.2,lns45 Sl,lns46 Sd,rv_tmp,rv_cell,hEg,irN,nrA,nrM,nrE,reduceIte,reduceCtorEq,nrL]
    repeat ((with_reducible apply oV_intro);(simp (disch:=try exact dA) only [qcs,tb67,eTill,so,so.1,so.2,sd,sd.1,sd.2,lns45 Sl,lns46 Sd,hEg,irN,nrA,nrM,nrE,reduceIte,reduceCtorEq,nrL];exact rfl)))
   all_goals refine ⟨?_,by exact frA⟩
   ·rw [bad 3 (by decide) (by rw [lnkBad,if_pos (by rw [bF (a:=x.A) (by omega)];rfl)])]
   ·rw [bad 3 (by decide) (by rw [lnkBad,if_pos (by rw [bF (a:=x.B) (by omega)];simp)])]
   ·rw [bad 2 (by decide) (by rw [lnkBad,if_neg (by rw [bT (a:=x.A) (by omega),bT (a:=x.B) (by omega)];simp),if_pos (by omega)])]
   ·rw [bad 4 (by decide) (by rw [lnkBad,if_neg (by rw [bT (a:=x.A) (by omega),bT (a:=x.B) (by omega)];simp),if_neg (by omega),if_pos hc])]
  ·have e1n:i1=t.Links.length:=by omega
   have hfe:lnksErr last [] t.Links=0:=by
    rw [hJ1,e1n,List.drop_length,lnksErr]
   rw [hfe,if_neg (by simp)] at hE0
   clear hJ1
   subst e1n
   repeat' (first|((with_reducible refine hK _ _ fun e2 hEn=>?_);clear hK K;simp only [lv67,forallC,forallL,and_true] at hEn;(try simp only [↓pb,qbs,tb67,eTill,so,so.1,so.2,sd,sd.1,sd.2,lns45 Sl,lns46 Sd,hEg,irN,nrA,nrM,nrE,reduceIte,reduceCtorEq,nrL] at hEn);clear hEg;(try clear eg);have hEg:=hEn;clear hEn;rename Env=>eg)|((first|((with_reducible first|apply oV_intro|apply oH_intro|apply oB_intro);(simp (disch:=try exact dA) only [qcs,tb67,eTill,so,so.1,so.2,sd,sd.1,sd.2,lns45 Sl,lns46 Sd,r0,hEg,irN,nrA,nrM,nrE,reduceIte,reduceCtorEq,nrL];with_reducible exact rfl))|((with_reducible first|apply oblA_and|apply oblR_and|apply oblO_and);(focus exact obA))|((with_reducible apply WO_callE);(simp only [↓pb,qbs,tb67,eTill,so,so.1,so.2,sd,sd.1,sd.2,lns45 Sl,lns46 Sd,r0,hEg,irN,nrA,nrM,nrE,reduceIte,reduceCtorEq,nrL];(exact f75 _ _ _ _)))|(with_reducible first|refine W_regionF lv67 fun K hK=>?_|refine W_drawnF lv67 fun K hK=>?_));try simp only [↓pb,↓pd,qds,tb67,eTill,so,so.1,so.2,sd,sd.1,sd.2,lns45 Sl,lns46 Sd,r0,hEg,irN,nrA,nrM,nrE,reduceIte,reduceCtorEq,nrL])|((first|((with_reducible first|apply WO_gT|apply WO_gF|apply WD_gT|apply WD_gF);exact rfl)|(with_reducible apply W_cond));(simp only [↓pb,qbs,tb67,eTill,so,so.1,so.2,sd,sd.1,sd.2,lns45 Sl,lns46 Sd,r0,hEg,irN,nrA,nrM,nrE,reduceIte,reduceCtorEq,nrL];with_reducible exact rfl);all_goals (intro hc;(first|exact hcX hc|try simp only [hcs] at hc);try ((with_reducible first|apply woI|apply wdI);simp only [↓pb,↓pd,qds,tb67,eTill,so,so.1,so.2,sd,sd.1,sd.2,lns45 Sl,lns46 Sd,r0,hc,hEg,irN,nrA,nrM,nrE,reduceIte,reduceCtorEq,nrL])))|(with_reducible first|refine W_seq ?_|refine W_block ?_|refine W_skip ?_|refine W_ret ?_|refine W_exit ?_|apply blockK_exit)|((with_reducible apply blockK_pass);(focus decide))|fail)
   ·refine ⟨by first|exact .inl rfl|exact .inr rfl, ?_⟩
    rw [ret1 Try.results67]
    simp only [↓pb,qbs,tb67,eTill,so,so.1,so.2,sd,sd.1,sd.2,lns45 Sl,lns46 Sd,rv_tmp,rv_cell,hEg,irN,nrA,nrM,nrE,reduceIte,reduceCtorEq,nrL]
    repeat ((with_reducible apply oV_intro);(simp (disch:=try exact dA) only [qcs,tb67,eTill,so,so.1,so.2,sd,sd.1,sd.2,lns45 Sl,lns46 Sd,hEg,irN,nrA,nrM,nrE,reduceIte,reduceCtorEq,nrL];exact rfl))
    exact ⟨by rw [hE0,if_pos (by omega)],hF01⟩
   rw [if_neg (by omega)] at hE0
   refine W_count [1,3,71,72] (by kernel_rfl) 73 (t.Dues.length) (H.n) [] [] (fun i e h=>duesErr last none t.Dues=duesErr last (prevU t.Dues i) (t.Dues.drop i)) (by simp only [↓pb,qbs,tb67,eTill,so,so.1,so.2,sd,sd.1,sd.2,lns45 Sl,lns46 Sd,hEg,irN,nrA,nrM,nrE,reduceIte,reduceCtorEq,nrL]) (by focus exact topA) (H0:=H) (by focus exact frA) (by intro b hb hlt;simp at hb ⊢;try omega) ?_ ?_
   rotate_left
   intro i2 e2 h2 hi2 hE2 ei2 hF2 hF02 hTh2 hJ2
   simp only [forallC,forallL,and_true] at hE2
   try simp only [↓pb,qbs,tb67,eTill,so,so.1,so.2,sd,sd.1,sd.2,lns45 Sl,lns46 Sd,hEg,irN,nrA,nrM,nrE,reduceIte,reduceCtorEq,nrL] at hE2
   have hn12:=hF2.n;have hn02:=hF02.n;try simp only [upd_n,jn_n] at hn12
   replace hEg:=And.intro ei2 hE2
   rotate_left
   ·rfl
   have S2:=Sd.fr0 hF02
   have l2:=S2.lt
   have r2:h2.rd H.n=some [iv t.Names,iv t.Limit,iv t.Window,vl,vd]:=by
    rw [rd_def,hF2.old _ (by omega) (by simp),← rd_def]
    exact r0
   by_cases hi3:i2 < t.Dues.length
   ·rw [drop_getD hi3,duesErr] at hJ2
    have e0:=S2.el eDue_len rfl
    have hcs:(i2=0∧¬ (0:Int) < i2)∨((0:Int) < i2∧IntKind.i64.wrap ((i2:Int) - 1)=((i2 - 1:Nat):Int)):=by
     rcases Nat.eq_zero_or_pos i2 with q|q
     ·exact .inl ⟨q,by omega⟩
     ·exact .inr ⟨by omega,by rw [wrap64 (by omega) (by omega)];omega⟩
    have hpv:0 < i2→prevU t.Dues i2=some (t.Dues.getD (i2 - 1) default).Day:=by
     intro q
     cases i2 with
     | zero=>omega
     | succ k=>rfl
    have bad:∀ c:Int,c≠0→dueBad last (prevU t.Dues i2) (t.Dues.getD i2 default)=c→tillErr t=c:=by
     intro c q1 q2
     rw [hE0,hJ2,q2,if_neg q1]
    have d1:¬ (0≤(t.Dues.getD i2 default).Day∧(t.Dues.getD i2 default).Day≤4000)→tillErr t=1:=fun q=>bad 1 (by decide) (by unfold dueBad;rw [bF q];rfl)
    have d5:(0≤(t.Dues.getD i2 default).Day∧(t.Dues.getD i2 default).Day≤4000)→0 < i2→(t.Dues.getD i2 default).Day < (t.Dues.getD (i2 - 1) default).Day→tillErr t=5:=fun q q1 q2=>bad 5 (by decide) (by
     unfold dueBad
     have h5:ordBad (t.Dues.getD i2 default).Day (some (t.Dues.getD (i2 - 1) default).Day)=true:=decide_eq_true q2
     rw [bT q,hpv q1,h5]
     rfl)
    have ord:(i2=0∨(0 < i2∧¬ (t.Dues.getD i2 default).Day < (t.Dues.getD (i2 - 1) default).Day))→ordBad (t.Dues.getD i2 default).Day (prevU t.Dues i2)=false:=by
     rintro (q|⟨q,q2⟩)
     ·subst q
      rfl
     ·rw [hpv q]
      exact decide_eq_false q2
    have dd:(0≤(t.Dues.getD i2 default).Day∧(t.Dues.getD i2 default).Day≤4000)→(i2=0∨(0 < i2∧¬ (t.Dues.getD i2 default).Day < (t.Dues.getD (i2 - 1) default).Day))→dueBad last (prevU t.Dues i2) (t.Dues.getD i2 default)=if !inB (t.Dues.getD i2 default).Name 0 last then 3 else if !inB (t.Dues.getD i2 default).Cents 0 100000000 then 1 else 0:=fun q q1=>by
     unfold dueBad
     rw [bT q,ord q1]
     rfl
    clear ord hpv
    rcases hcs with ⟨hz,cc⟩|cc
    all_goals (
     repeat' (first|((with_reducible refine hK _ _ fun e2 hEn=>?_);clear hK K;simp only [lv67,forallC,forallL,and_true] at hEn;(try simp only [↓pb,qbs,tb67,eTill,so,so.1,so.2,sd,sd.1,sd.2,lns45 Sl,lns46 Sd,hEg,irN,nrA,nrM,nrE,reduceIte,reduceCtorEq,nrL] at hEn);clear hEg;(try clear eg);have hEg:=hEn;clear hEn;rename Env=>eg)|((first|((with_reducible first|apply oV_intro|apply oH_intro|apply oB_intro);(simp (disch:=try exact dA) only [qcs,tb67,eTill,so,so.1,so.2,sd,sd.1,sd.2,lns45 Sl,lns46 Sd,ias46 S2,S2.rd,e0,eDue,r2,cc,hEg,irN,nrA,nrM,nrE,reduceIte,reduceCtorEq,nrL];with_reducible exact rfl))|((with_reducible first|apply oblA_and|apply oblR_and|apply oblO_and);(focus exact obA))|((with_reducible apply WO_callE);(simp only [↓pb,qbs,tb67,eTill,so,so.1,so.2,sd,sd.1,sd.2,lns45 Sl,lns46 Sd,ias46 S2,S2.rd,e0,eDue,r2,cc,hEg,irN,nrA,nrM,nrE,reduceIte,reduceCtorEq,nrL];(exact f75 _ _ _ _)))|(with_reducible first|refine W_regionF lv67 fun K hK=>?_|refine W_drawnF lv67 fun K hK=>?_));try simp only [↓pb,↓pd,qds,tb67,eTill,so,so.1,so.2,sd,sd.1,sd.2,lns45 Sl,lns46 Sd,ias46 S2,S2.rd,e0,eDue,r2,cc,hEg,irN,nrA,nrM,nrE,reduceIte,reduceCtorEq,nrL])|((first|((with_reducible first|apply WO_gT|apply WO_gF|apply WD_gT|apply WD_gF);exact rfl)|(with_reducible apply W_cond));(simp only [↓pb,qbs,tb67,eTill,so,so.1,so.2,sd,sd.1,sd.2,lns45 Sl,lns46 Sd,ias46 S2,S2.rd,e0,eDue,r2,cc,hEg,irN,nrA,nrM,nrE,reduceIte,reduceCtorEq,nrL];with_reducible exact rfl);all_goals (intro hc;(first|exact hcX hc|try simp only [hcs] at hc);try ((with_reducible first|apply woI|apply wdI);simp only [↓pb,↓pd,qds,tb67,eTill,so,so.1,so.2,sd,sd.1,sd.2,lns45 Sl,lns46 Sd,ias46 S2,S2.rd,e0,eDue,r2,cc,hc,hEg,irN,nrA,nrM,nrE,reduceIte,reduceCtorEq,nrL])))|(with_reducible first|refine W_seq ?_|refine W_block ?_|refine W_skip ?_|refine W_ret ?_|refine W_exit ?_|apply blockK_exit)|((with_reducible apply blockK_pass);(focus decide))|fail))
    ·refine ⟨by first|exact .inl rfl|exact .inr rfl, ?_⟩
     rw [ret1 Try.results67]
     simp only [↓pb,qbs,tb67,eTill,so,so.1,so.2,sd,sd.1,sd.2,lns45 Sl,lns46 Sd,rv_tmp,rv_cell,hEg,irN,nrA,nrM,nrE,reduceIte,reduceCtorEq,nrL]
     repeat ((with_reducible apply oV_intro);(simp (disch:=try exact dA) only [qcs,tb67,eTill,so,so.1,so.2,sd,sd.1,sd.2,lns45 Sl,lns46 Sd,hEg,irN,nrA,nrM,nrE,reduceIte,reduceCtorEq,nrL];exact rfl))
     exact ⟨by rw [d1 (by omega)],by exact frA⟩
    ·refine ⟨by first|exact .inl rfl|exact .inr rfl, ?_⟩
     rw [ret1 Try.results67]
     simp only [↓pb,qbs,tb67,eTill,so,so.1,so.2,sd,sd.1,sd.2,lns45 Sl,lns46 Sd,rv_tmp,rv_cell,hEg,irN,nrA,nrM,nrE,reduceIte,reduceCtorEq,nrL]
     repeat ((with_reducible apply oV_intro);(simp (disch:=try exact dA) only [qcs,tb67,eTill,so,so.1,so.2,sd,sd.1,sd.2,lns45 Sl,lns46 Sd,hEg,irN,nrA,nrM,nrE,reduceIte,reduceCtorEq,nrL];exact rfl))
     exact ⟨by rw [bad 3 (by decide) (by rw [dd (by omega) (by omega),if_pos (by rw [bF (a:=(t.Dues.getD i2 default).Name) (by omega)];rfl)])],by exact frA⟩
    ·refine ⟨by first|exact .inl rfl|exact .inr rfl, ?_⟩
     rw [ret1 Try.results67]
     simp only [↓pb,qbs,tb67,eTill,so,so.1,so.2,sd,sd.1,sd.2,lns45 Sl,lns46 Sd,rv_tmp,rv_cell,hEg,irN,nrA,nrM,nrE,reduceIte,reduceCtorEq,nrL]
     repeat ((with_reducible apply oV_intro);(simp (disch:=try exact dA) only [qcs,tb67,eTill,so,so.1,so.2,sd,sd.1,sd.2,lns45 Sl,lns46 Sd,hEg,irN,nrA,nrM,nrE,reduceIte,reduceCtorEq,nrL];exact rfl))
     exact ⟨by rw [bad 1 (by decide) (by rw [dd (by omega) (by omega),if_neg (by rw [bT (a:=(t.Dues.getD i2 default).Name) (by omega)];simp),if_pos (by rw [bF (a:=(t.Dues.getD i2 default).Cents) (by omega)];rfl)])],by exact frA⟩
    ·refine ⟨by omega,by simp only [↓pb,qbs,tb67,eTill,so,so.1,so.2,sd,sd.1,sd.2,lns45 Sl,lns46 Sd,hEg,irN,nrA,nrM,nrE,reduceIte,reduceCtorEq,nrL];exact congrArg _ (inc64 (by omega)),by focus exact frA, ?_⟩
     rw [hJ2,if_pos (by rw [dd (by omega) (by omega),if_neg (by rw [bT (a:=(t.Dues.getD i2 default).Name) (by omega)];simp),if_neg (by rw [bT (a:=(t.Dues.getD i2 default).Cents) (by omega)];simp)])]
     rfl
    ·refine ⟨by first|exact .inl rfl|exact .inr rfl, ?_⟩
     rw [ret1 Try.results67]
     simp only [↓pb,qbs,tb67,eTill,so,so.1,so.2,sd,sd.1,sd.2,lns45 Sl,lns46 Sd,rv_tmp,rv_cell,hEg,irN,nrA,nrM,nrE,reduceIte,reduceCtorEq,nrL]
     repeat ((with_reducible apply oV_intro);(simp (disch:=try exact dA) only [qcs,tb67,eTill,so,so.1,so.2,sd,sd.1,sd.2,lns45 Sl,lns46 Sd,hEg,irN,nrA,nrM,nrE,reduceIte,reduceCtorEq,nrL];exact rfl))
     exact ⟨by rw [d1 (by omega)],by exact frA⟩
    ·refine ⟨by first|exact .inl rfl|exact .inr rfl, ?_⟩
     rw [ret1 Try.results67]
     simp only [↓pb,qbs,tb67,eTill,so,so.1,so.2,sd,sd.1,sd.2,lns45 Sl,lns46 Sd,rv_tmp,rv_cell,hEg,irN,nrA,nrM,nrE,reduceIte,reduceCtorEq,nrL]
     repeat ((with_reducible apply oV_intro);(simp (disch:=try exact dA) only [qcs,tb67,eTill,so,so.1,so.2,sd,sd.1,sd.2,lns45 Sl,lns46 Sd,hEg,irN,nrA,nrM,nrE,reduceIte,reduceCtorEq,nrL];exact rfl))
     exact ⟨by rw [d5 (by omega) (by omega) (by omega)],by exact frA⟩
    ·refine ⟨by first|exact .inl rfl|exact .inr rfl, ?_⟩
     rw [ret1 Try.results67]
     simp only [↓pb,qbs,tb67,eTill,so,so.1,so.2,sd,sd.1,sd.2,lns45 Sl,lns46 Sd,rv_tmp,rv_cell,hEg,irN,nrA,nrM,nrE,reduceIte,reduceCtorEq,nrL]
     repeat ((with_reducible apply oV_intro);(simp (disch:=try exact dA) only [qcs,tb67,eTill,so,so.1,so.2,sd,sd.1,sd.2,lns45 Sl,lns46 Sd,hEg,irN,nrA,nrM,nrE,reduceIte,reduceCtorEq,nrL];exact rfl))
     exact ⟨by rw [bad 3 (by decide) (by rw [dd (by omega) (by omega),if_pos (by rw [bF (a:=(t.Dues.getD i2 default).Name) (by omega)];rfl)])],by exact frA⟩
    ·refine ⟨by first|exact .inl rfl|exact .inr rfl, ?_⟩
     rw [ret1 Try.results67]
     simp only [↓pb,qbs,tb67,eTill,so,so.1,so.2,sd,sd.1,sd.2,lns45 Sl,lns46 Sd,rv_tmp,rv_cell,hEg,irN,nrA,nrM,nrE,reduceIte,reduceCtorEq,nrL]
     repeat ((with_reducible apply oV_intro);(simp (disch:=try exact dA) only [qcs,tb67,eTill,so,so.1,so.2,sd,sd.1,sd.2,lns45 Sl,lns46 Sd,hEg,irN,nrA,nrM,nrE,reduceIte,reduceCtorEq,nrL];exact rfl))
     exact ⟨by rw [bad 1 (by decide) (by rw [dd (by omega) (by omega),if_neg (by rw [bT (a:=(t.Dues.getD i2 default).Name) (by omega)];simp),if_pos (by rw [bF (a:=(t.Dues.getD i2 default).Cents) (by omega)];rfl)])],by exact frA⟩
    ·refine ⟨by omega,by simp only [↓pb,qbs,tb67,eTill,so,so.1,so.2,sd,sd.1,sd.2,lns45 Sl,lns46 Sd,hEg,irN,nrA,nrM,nrE,reduceIte,reduceCtorEq,nrL];exact congrArg _ (inc64 (by omega)),by focus exact frA, ?_⟩
     rw [hJ2,if_pos (by rw [dd (by omega) (by omega),if_neg (by rw [bT (a:=(t.Dues.getD i2 default).Name) (by omega)];simp),if_neg (by rw [bT (a:=(t.Dues.getD i2 default).Cents) (by omega)];simp)])]
     rfl
   ·have e2n:i2=t.Dues.length:=by omega
    have hde:duesErr last none t.Dues=0:=by
     rw [hJ2,e2n,List.drop_length,duesErr]
    clear hJ2
    subst e2n
    repeat' (first|((with_reducible refine hK _ _ fun e2 hEn=>?_);clear hK K;simp only [lv67,forallC,forallL,and_true] at hEn;(try simp only [↓pb,qbs,tb67,eTill,so,so.1,so.2,sd,sd.1,sd.2,lns45 Sl,lns46 Sd,hEg,irN,nrA,nrM,nrE,reduceIte,reduceCtorEq,nrL] at hEn);clear hEg;(try clear eg);have hEg:=hEn;clear hEn;rename Env=>eg)|((first|((with_reducible first|apply oV_intro|apply oH_intro|apply oB_intro);(simp (disch:=try exact dA) only [qcs,tb67,eTill,so,so.1,so.2,sd,sd.1,sd.2,lns45 Sl,lns46 Sd,hEg,irN,nrA,nrM,nrE,reduceIte,reduceCtorEq,nrL];with_reducible exact rfl))|((with_reducible first|apply oblA_and|apply oblR_and|apply oblO_and);(focus exact obA))|((with_reducible apply WO_callE);(simp only [↓pb,qbs,tb67,eTill,so,so.1,so.2,sd,sd.1,sd.2,lns45 Sl,lns46 Sd,hEg,irN,nrA,nrM,nrE,reduceIte,reduceCtorEq,nrL];(exact f75 _ _ _ _)))|(with_reducible first|refine W_regionF lv67 fun K hK=>?_|refine W_drawnF lv67 fun K hK=>?_));try simp only [↓pb,↓pd,qds,tb67,eTill,so,so.1,so.2,sd,sd.1,sd.2,lns45 Sl,lns46 Sd,hEg,irN,nrA,nrM,nrE,reduceIte,reduceCtorEq,nrL])|((first|((with_reducible first|apply WO_gT|apply WO_gF|apply WD_gT|apply WD_gF);exact rfl)|(with_reducible apply W_cond));(simp only [↓pb,qbs,tb67,eTill,so,so.1,so.2,sd,sd.1,sd.2,lns45 Sl,lns46 Sd,hEg,irN,nrA,nrM,nrE,reduceIte,reduceCtorEq,nrL];with_reducible exact rfl);all_goals (intro hc;(first|exact hcX hc|try simp only [hcs] at hc);try ((with_reducible first|apply woI|apply wdI);simp only [↓pb,↓pd,qds,tb67,eTill,so,so.1,so.2,sd,sd.1,sd.2,lns45 Sl,lns46 Sd,hc,hEg,irN,nrA,nrM,nrE,reduceIte,reduceCtorEq,nrL])))|(with_reducible first|refine W_seq ?_|refine W_block ?_|refine W_skip ?_|refine W_ret ?_|refine W_exit ?_|apply blockK_exit)|((with_reducible apply blockK_pass);(focus decide))|fail)
    refine ⟨by first|exact .inl rfl|exact .inr rfl, ?_⟩
    rw [ret1 Try.results67]
    simp only [↓pb,qbs,tb67,eTill,so,so.1,so.2,sd,sd.1,sd.2,lns45 Sl,lns46 Sd,rv_tmp,rv_cell,hEg,irN,nrA,nrM,nrE,reduceIte,reduceCtorEq,nrL]
    repeat ((with_reducible apply oV_intro);(simp (disch:=try exact dA) only [qcs,tb67,eTill,so,so.1,so.2,sd,sd.1,sd.2,lns45 Sl,lns46 Sd,hEg,irN,nrA,nrM,nrE,reduceIte,reduceCtorEq,nrL];exact rfl))
    exact ⟨by rw [hE0,hde],hF02⟩
 all_goals (
  refine ⟨by first|exact .inl rfl|exact .inr rfl, ?_⟩
  rw [ret1 Try.results67]
  simp only [↓pb,qbs,tb67,eTill,so,so.1,so.2,sd,sd.1,sd.2,lns45 Sl,lns46 Sd,rv_tmp,rv_cell,hEg,irN,nrA,nrM,nrE,reduceIte,reduceCtorEq,nrL]
  repeat ((with_reducible apply oV_intro);(simp (disch:=try exact dA) only [qcs,tb67,eTill,so,so.1,so.2,sd,sd.1,sd.2,lns45 Sl,lns46 Sd,hEg,irN,nrA,nrM,nrE,reduceIte,reduceCtorEq,nrL];exact rfl)))
 all_goals refine ⟨?_,by exact frA⟩
 ·rw [tillErr,if_pos (by omega)]
 ·rw [tillErr,if_neg (by omega),if_pos (by omega)]
 ·rw [tillErr,if_neg (by omega),if_neg (by omega),if_pos (by rw [bF (a:=t.Limit) (by omega)];rfl)]
 ·rw [tillErr,if_neg (by omega),if_neg (by omega),if_pos (by rw [bF (a:=t.Window) (by omega)];simp)]
 ·rw [tillErr,if_neg (by omega),if_neg (by omega),if_neg (by rw [bT (a:=t.Limit) (by omega),bT (a:=t.Window) (by omega)];simp),if_pos (by omega)]
theorem fl_of {α:Type} {enc:α→List Value} {l:List α} (h:∀ a x,x∈enc a→flat x=true):∀ x,x∈l.flatMap enc→flat x=true:=by
 intro x hx
 obtain ⟨a,_,q⟩:=List.mem_flatMap.1 hx
 exact h a x q
theorem flat_eLnk {l:List Lnk}:∀ x,x∈l.flatMap eLnk→flat x=true:=fl_of fun a x hx=>by
 simp only [eLnk,List.mem_cons,List.not_mem_nil,or_false] at hx
 rcases hx with rfl|rfl|rfl <;> rfl
theorem f86t (vl vd vd2:Value) (t:Tll) (l:List Due) (all:Bool) (h:AHeap) (ok:tillErr t=0) (Sl:SR h 3 t.Links.length vl (t.Links.flatMap eLnk)) (Sd:SR h 4 t.Dues.length vd (t.Dues.flatMap eDue)) (S:SR h 4 l.length vd2 (l.flatMap eDue)) (hl:l.length < 1000000) (hd:∀ x,x∈l→0≤x.Name∧x.Name < t.Names) :
  ∃ v H',C8 (.fn 86) #[.agg ⟨[iv t.Names,iv t.Limit,iv t.Window,vl,vd]⟩,vd2,.agg ⟨(tiesP all t.Links).map .bool⟩] h v H'∧v=.bool (keptT t all l)∧H'=h:=by
 have k:=tillErr_ok ok
 have e:(t.Names.toNat:Int)=t.Names:=by omega
 have q:=f86 vl vd vd2 t.Names.toNat t.Limit t.Window (tiesP all t.Links) l _ _ _ _ h Sl flat_eLnk Sd flat_eDue S hl tiesP_len (by omega) fun i hi=>by
  have:=mem_at hd i hi
  omega
 rw [eTill,e] at q
 exact E_or q
theorem f37 (vl vd:Value) (t:Tll) (H:AHeap) (hT:Top H) (Sl:SR H 3 t.Links.length vl (t.Links.flatMap eLnk)) (hk:t.Links.length=0∨SK H 3 vl) (Sd:SR H 4 t.Dues.length vd (t.Dues.flatMap eDue)) (hl:t.Links.length < 1000000) (hd:t.Dues.length < 1000000) :
  ∃ v H',C8 (.fn 37) #[.agg ⟨[iv t.Names,iv t.Limit,iv t.Window,vl,vd]⟩] H v H'∧v=.tuple #[iv (lawfulP t).1,iv (lawfulP t).2]∧Fr H.n [] H H':=by
 have so:=Sl.one
 have sd:=Sd.one
 have hT1:∀ c:List Value,SK (H.upd (H.n + 1) H.n (.cells c 48 .ex)) 3 vl∨t.Links.length=0:=fun c=>by
  rcases hk with q|q
  ·exact .inr q
  ·rcases Sl.lt with q2|q2
   ·exact .inr q2
   ·exact .inl (q.fr (Fr.ex (N:=0) (X:=[]) (c:=c) (T:=48)) q2 (by simp))
 refine Cl.ofW Try.func37 rfl (by kernel_rfl) (by rw [Try.ntmps37];exact Nat.le_of_ble_eq_true rfl) (by kernel_rfl) ?_
 have hEg:True:=trivial
 refine gcW [0] ?_
 intro eg hEn
 simp only [forallC,forallL,and_true] at hEn
 try simp only [↓pb,qbs,tb37,so,so.1,so.2,sd,sd.1,sd.2,hEg,irN,nrA,nrM,nrE,reduceIte,reduceCtorEq,nrL] at hEn
 replace hEg:=hEn;clear hEn
 repeat' (first|((with_reducible refine hK _ _ fun e2 hEn=>?_);clear hK K;simp only [lv37,forallC,forallL,and_true] at hEn;(try simp only [↓pb,qbs,tb37,so,so.1,so.2,sd,sd.1,sd.2,hEg,irN,nrA,nrM,nrE,reduceIte,reduceCtorEq,nrL] at hEn);clear hEg;(try clear eg);have hEg:=hEn;clear hEn;rename Env=>eg)|((first|((with_reducible first|apply oV_intro|apply oH_intro|apply oB_intro);(simp (disch:=try exact dA) only [qcs,tb37,so,so.1,so.2,sd,sd.1,sd.2,hEg,irN,nrA,nrM,nrE,reduceIte,reduceCtorEq,nrL];with_reducible exact rfl))|((with_reducible first|apply oblA_and|apply oblR_and|apply oblO_and);(focus exact obA))|((with_reducible apply WO_callV);(focus exact topA);(simp only [↓pb,qbs,tb37,so,so.1,so.2,sd,sd.1,sd.2,hEg,irN,nrA,nrM,nrE,reduceIte,reduceCtorEq,nrL];(exact f67 vl vd t _ (by exact topA) (Sl.fr0 (N:=H.n) (by exact frA)) (hT1 _).symm (Sd.fr0 (N:=H.n) (by exact frA)) hl hd));(intro Gq hq hJq;try simp only [upd_n,jn_n] at hq))|(with_reducible first|refine W_regionF lv37 fun K hK=>?_|refine W_drawnF lv37 fun K hK=>?_));try simp only [↓pb,↓pd,qds,tb37,so,so.1,so.2,sd,sd.1,sd.2,hEg,irN,nrA,nrM,nrE,reduceIte,reduceCtorEq,nrL])|((with_reducible apply W_cond);(simp only [↓pb,qbs,tb37,so,so.1,so.2,sd,sd.1,sd.2,hEg,irN,nrA,nrM,nrE,reduceIte,reduceCtorEq,nrL];with_reducible exact rfl);all_goals (intro hc;(first|exact hcX hc|try simp only [hcs] at hc)))|(with_reducible first|refine W_seq ?_|refine W_block ?_|refine W_skip ?_|refine W_ret ?_|apply blockK_exit)|((with_reducible apply blockK_pass);(focus decide))|fail)
 ·refine ⟨by first|exact .inl rfl|exact .inr rfl, ?_⟩
  rw [ret2 Try.results37]
  simp only [↓pb,qbs,tb37,so,so.1,so.2,sd,sd.1,sd.2,rv_tmp,rv_cell,hEg,irN,nrA,nrM,nrE,reduceIte,reduceCtorEq,nrL]
  repeat ((with_reducible apply oV_intro);(simp (disch:=try exact dA) only [qcs,tb37,so,so.1,so.2,sd,sd.1,sd.2,hEg,irN,nrA,nrM,nrE,reduceIte,reduceCtorEq,nrL];exact rfl))
  have e:lawfulP t=(0,tillErr t):=by rw [lawfulP,if_pos (by assumption)]
  rw [e]
  exact ⟨rfl,by exact frA⟩
 have ok:tillErr t=0:=by omega
 have k:=tillErr_ok ok
 have hok:∀ i,i < t.Links.length→0≤(t.Links.getD i default).A∧(t.Links.getD i default).A < 8∧0≤(t.Links.getD i default).B∧(t.Links.getD i default).B < 8:=fun i hi=>by
  have:=mem_at k.2.2.2.2.2.1 i hi
  omega
 have hdn:∀ x,x∈t.Dues→0≤x.Name∧x.Name < t.Names:=fun x hx=>(k.2.2.2.2.2.2 x hx).2.1
 repeat' (first|((with_reducible refine hK _ _ fun e2 hEn=>?_);clear hK K;simp only [lv37,forallC,forallL,and_true] at hEn;(try simp only [↓pb,qbs,tb37,so,so.1,so.2,sd,sd.1,sd.2,hEg,irN,nrA,nrM,nrE,reduceIte,reduceCtorEq,nrL] at hEn);clear hEg;(try clear eg);have hEg:=hEn;clear hEn;rename Env=>eg)|((first|((with_reducible first|apply oV_intro|apply oH_intro|apply oB_intro);(simp (disch:=try exact dA) only [qcs,tb37,so,so.1,so.2,sd,sd.1,sd.2,hEg,irN,nrA,nrM,nrE,reduceIte,reduceCtorEq,nrL];with_reducible exact rfl))|((with_reducible first|apply oblA_and|apply oblR_and|apply oblO_and);(focus exact obA))|((with_reducible apply WO_callE);(simp only [↓pb,qbs,tb37,so,so.1,so.2,sd,sd.1,sd.2,hEg,irN,nrA,nrM,nrE,reduceIte,reduceCtorEq,nrL];(first|exact f86t vl vd vd t t.Dues true _ ok (Sl.fr0 (N:=H.n) (by exact frA)) (Sd.fr0 (N:=H.n) (by exact frA)) (Sd.fr0 (N:=H.n) (by exact frA)) hd hdn|exact f86t vl vd vd t t.Dues false _ ok (Sl.fr0 (N:=H.n) (by exact frA)) (Sd.fr0 (N:=H.n) (by exact frA)) (Sd.fr0 (N:=H.n) (by exact frA)) hd hdn)))|((with_reducible apply WO_callV);(focus exact topA);(simp only [↓pb,qbs,tb37,so,so.1,so.2,sd,sd.1,sd.2,hEg,irN,nrA,nrM,nrE,reduceIte,reduceCtorEq,nrL];(first|exact f81 vl vd t.Names t.Limit t.Window true t.Links _ (by exact topA) sd (Sl.fr0 (N:=H.n) (by exact frA)) hl hok|exact f81 vl vd t.Names t.Limit t.Window false t.Links _ (by exact topA) sd (Sl.fr0 (N:=H.n) (by exact frA)) hl hok));(intro Gq hq hJq;try simp only [upd_n,jn_n] at hq))|(with_reducible first|refine W_regionF lv37 fun K hK=>?_|refine W_drawnF lv37 fun K hK=>?_));try simp only [↓pb,↓pd,qds,tb37,so,so.1,so.2,sd,sd.1,sd.2,hEg,irN,nrA,nrM,nrE,reduceIte,reduceCtorEq,nrL])|((with_reducible apply W_cond);(simp only [↓pb,qbs,tb37,so,so.1,so.2,sd,sd.1,sd.2,hEg,irN,nrA,nrM,nrE,reduceIte,reduceCtorEq,nrL];with_reducible exact rfl);all_goals (intro hc;(first|exact hcX hc|try simp only [hcs] at hc)))|(with_reducible first|refine W_seq ?_|refine W_block ?_|refine W_skip ?_|refine W_ret ?_|apply blockK_exit)|((with_reducible apply blockK_pass);(focus decide))|fail)
 all_goals (
  refine ⟨by first|exact .inl rfl|exact .inr rfl, ?_⟩
  rw [ret2 Try.results37]
  simp only [↓pb,qbs,tb37,so,so.1,so.2,sd,sd.1,sd.2,rv_tmp,rv_cell,hEg,irN,nrA,nrM,nrE,reduceIte,reduceCtorEq,nrL]
  repeat ((with_reducible apply oV_intro);(simp (disch:=try exact dA) only [qcs,tb37,so,so.1,so.2,sd,sd.1,sd.2,hEg,irN,nrA,nrM,nrE,reduceIte,reduceCtorEq,nrL];exact rfl)))
 all_goals refine ⟨?_,by exact frA⟩
 ·have e:lawfulP t=(1,0):=by rw [lawfulP,if_neg (by omega),if_pos hc]
  rw [e]
 ·have e:lawfulP t=(3,0):=by
   rename_i q
   rw [lawfulP,if_neg (by omega),if_neg (by simp [*]),if_pos hc]
  rw [e]
 ·have e:lawfulP t=(2,0):=by rw [lawfulP,if_neg (by omega),if_neg (by simp [*]),if_neg (by simp [*])]
  rw [e]
theorem f79 (vl vd:Value) (t:Tll) (name day:Int) (fine:Bool) (H:AHeap) (hT:Top H) (Sl:SR H 3 t.Links.length vl (t.Links.flatMap eLnk)) (hk:t.Links.length=0∨SK H 3 vl) (Sd:SR H 4 t.Dues.length vd (t.Dues.flatMap eDue)) (hl:t.Links.length < 1000000) (hd:t.Dues.length < 1000000) :
  ∃ v H',C8 (.fn 79) #[.agg ⟨[iv t.Names,iv t.Limit,iv t.Window,vl,vd]⟩,iv name,iv day,.bool fine] H v H'∧v=iv (dayErr t name day fine)∧Fr H.n [] H H':=by
 have so:=Sl.one
 have sd:=Sd.one
 have hT1:∀ c:List Value,SK (H.upd (H.n + 1) H.n (.cells c 48 .ex)) 3 vl∨t.Links.length=0:=fun c=>by
  rcases hk with q|q
  ·exact .inr q
  ·rcases Sl.lt with q2|q2
   ·exact .inr q2
   ·exact .inl (q.fr (Fr.ex (N:=0) (X:=[]) (c:=c) (T:=48)) q2 (by simp))
 refine Cl.ofW Try.func79 rfl (by kernel_rfl) (by rw [Try.ntmps79];exact Nat.le_of_ble_eq_true rfl) (by kernel_rfl) ?_
 have hEg:True:=trivial
 refine gcW [0,1,2,3] ?_
 intro eg hEn
 simp only [forallC,forallL,and_true] at hEn
 try simp only [↓pb,qbs,tb79,so,so.1,so.2,sd,sd.1,sd.2,lns46 Sd,hEg,irN,nrA,nrM,nrE,reduceIte,reduceCtorEq,nrL] at hEn
 replace hEg:=hEn;clear hEn
 repeat' (first|((with_reducible refine hK _ _ fun e2 hEn=>?_);clear hK K;simp only [lv79,forallC,forallL,and_true] at hEn;(try simp only [↓pb,qbs,tb79,so,so.1,so.2,sd,sd.1,sd.2,lns46 Sd,hEg,irN,nrA,nrM,nrE,reduceIte,reduceCtorEq,nrL] at hEn);clear hEg;(try clear eg);have hEg:=hEn;clear hEn;rename Env=>eg)|((first|((with_reducible first|apply oV_intro|apply oH_intro|apply oB_intro);(simp (disch:=try exact dA) only [qcs,tb79,so,so.1,so.2,sd,sd.1,sd.2,lns46 Sd,hEg,irN,nrA,nrM,nrE,reduceIte,reduceCtorEq,nrL];with_reducible exact rfl))|((with_reducible first|apply oblA_and|apply oblR_and|apply oblO_and);(focus exact obA))|((with_reducible apply WO_callV);(focus exact topA);(simp only [↓pb,qbs,tb79,so,so.1,so.2,sd,sd.1,sd.2,lns46 Sd,hEg,irN,nrA,nrM,nrE,reduceIte,reduceCtorEq,nrL];(exact f67 vl vd t _ (by exact topA) (Sl.fr0 (N:=H.n) (by exact frA)) (hT1 _).symm (Sd.fr0 (N:=H.n) (by exact frA)) hl hd));(intro Gq hq hJq;try simp only [upd_n,jn_n] at hq))|(with_reducible first|refine W_regionF lv79 fun K hK=>?_|refine W_drawnF lv79 fun K hK=>?_));try simp only [↓pb,↓pd,qds,tb79,so,so.1,so.2,sd,sd.1,sd.2,lns46 Sd,hEg,irN,nrA,nrM,nrE,reduceIte,reduceCtorEq,nrL])|((first|((with_reducible first|apply WO_gT|apply WO_gF|apply WD_gT|apply WD_gF);exact rfl)|(with_reducible apply W_cond));(simp only [↓pb,qbs,tb79,so,so.1,so.2,sd,sd.1,sd.2,lns46 Sd,hEg,irN,nrA,nrM,nrE,reduceIte,reduceCtorEq,nrL];with_reducible exact rfl);all_goals (intro hc;(first|exact hcX hc|try simp only [hcs] at hc);try ((with_reducible first|apply woI|apply wdI);simp only [↓pb,↓pd,qds,tb79,so,so.1,so.2,sd,sd.1,sd.2,lns46 Sd,hc,hEg,irN,nrA,nrM,nrE,reduceIte,reduceCtorEq,nrL])))|((with_reducible apply WO_gU);exact rfl;(focus (simp only [↓pb,qbs,tb79,so,so.1,so.2,sd,sd.1,sd.2,lns46 Sd,hEg,irN,nrA,nrM,nrE,reduceIte,reduceCtorEq,nrL];done));try simp only [↓pb,↓pd,qds,tb79,so,so.1,so.2,sd,sd.1,sd.2,lns46 Sd,hEg,irN,nrA,nrM,nrE,reduceIte,reduceCtorEq,nrL])|(with_reducible first|refine W_seq ?_|refine W_block ?_|refine W_skip ?_|refine W_ret ?_|apply blockK_exit)|((with_reducible apply blockK_pass);(focus decide))|fail)
 ·refine ⟨by first|exact .inl rfl|exact .inr rfl, ?_⟩
  rw [ret1 Try.results79]
  simp only [↓pb,qbs,tb79,so,so.1,so.2,sd,sd.1,sd.2,lns46 Sd,rv_tmp,rv_cell,hEg,irN,nrA,nrM,nrE,reduceIte,reduceCtorEq,nrL]
  repeat ((with_reducible apply oV_intro);(simp (disch:=try exact dA) only [qcs,tb79,so,so.1,so.2,sd,sd.1,sd.2,lns46 Sd,hEg,irN,nrA,nrM,nrE,reduceIte,reduceCtorEq,nrL];exact rfl))
  refine ⟨by rw [dayErr,if_pos (by assumption)],by exact frA⟩
 have ok:tillErr t=0:=by omega
 have k:=tillErr_ok ok
 have hok:∀ i,i < t.Links.length→0≤(t.Links.getD i default).A∧(t.Links.getD i default).A < 8∧0≤(t.Links.getD i default).B∧(t.Links.getD i default).B < 8:=fun i hi=>by
  have:=mem_at k.2.2.2.2.2.1 i hi
  omega
 have hdn:∀ x,x∈t.Dues→0≤x.Name∧x.Name < t.Names:=fun x hx=>(k.2.2.2.2.2.2 x hx).2.1
 generalize hh:AHeap.jn _ _=h at *
 have hF:Fr H.n [] H h:=by
  rw [← hh]
  exact frA
 have hTh:Top h:=by
  rw [← hh]
  exact topA
 have r0:h.rd H.n=some [iv t.Names,iv t.Limit,iv t.Window,vl,vd]:=by
  rw [← hh]
  simp (disch:=try exact dA) only [qcs,tb79,so,so.1,so.2,sd,sd.1,sd.2,lns46 Sd,hEg,irN,nrA,nrM,nrE,reduceIte,reduceCtorEq,nrL]
 have hlt:H.n < h.n:=by
  rw [← hh]
  simp only [upd_n,jn_n]
  omega
 clear hh
 have S1:=Sd.fr0 hF
 have L1:=Sl.fr0 hF
 have l1:=S1.lt
 have e0:=S1.el eDue_len rfl
 have hcs:(t.Dues.length=0∧¬ (0:Int) < t.Dues.length)∨((0:Int) < t.Dues.length∧IntKind.i64.wrap ((t.Dues.length:Int) - 1)=((t.Dues.length - 1:Nat):Int)):=by
  rcases Nat.eq_zero_or_pos t.Dues.length with q|q
  ·exact .inl ⟨q,by omega⟩
  ·exact .inr ⟨by omega,by rw [wrap64 (by omega) (by omega)];omega⟩
 have hE:early t.Dues day=true↔0 < t.Dues.length∧day < (t.Dues.getD (t.Dues.length - 1) default).Day:=by
  unfold early
  cases hn:t.Dues.length with
  | zero=>exact ⟨fun q=>(by cases q),fun q=>(by omega)⟩
  | succ m=>exact ⟨fun q=>⟨by omega,of_decide_eq_true q⟩,fun q=>decide_eq_true q.2⟩
 have hw:IntKind.i64.wrap (t.Names - 1)=w64 (t.Names - 1):=rfl
 have hD:dayErr t name day fine=if ¬ (0≤name∧name≤w64 (t.Names - 1)) then 3 else if ¬ (0≤day∧day≤4000)∨fine=false then 1 else if early t.Dues day=true then 12 else if keptT t true t.Dues=false then 13 else 0:=by
  rw [dayErr,if_neg (by omega)]
 cases fine
 all_goals rcases hcs with ⟨hz,cc⟩|cc
 all_goals (
  repeat' (first|((with_reducible refine hK _ _ fun e2 hEn=>?_);clear hK K;simp only [lv79,forallC,forallL,and_true] at hEn;(try simp only [↓pb,qbs,tb79,so,so.1,so.2,sd,sd.1,sd.2,lns46 Sd,hEg,irN,nrA,nrM,nrE,reduceIte,reduceCtorEq,nrL] at hEn);clear hEg;(try clear eg);have hEg:=hEn;clear hEn;rename Env=>eg)|((first|((with_reducible first|apply oV_intro|apply oH_intro|apply oB_intro);(simp (disch:=try exact dA) only [qcs,tb79,so,so.1,so.2,sd,sd.1,sd.2,lns46 Sd,hw,r0,cc,ias46 S1,S1.rd,e0,eDue,hEg,irN,nrA,nrM,nrE,reduceIte,reduceCtorEq,nrL];with_reducible exact rfl))|((with_reducible first|apply oblA_and|apply oblR_and|apply oblO_and);(focus exact obA))|((with_reducible apply WO_callE);(simp only [↓pb,qbs,tb79,so,so.1,so.2,sd,sd.1,sd.2,lns46 Sd,hw,r0,cc,ias46 S1,S1.rd,e0,eDue,hEg,irN,nrA,nrM,nrE,reduceIte,reduceCtorEq,nrL];(first|exact f75 _ _ _ _|exact f86t vl vd vd t t.Dues true _ ok (Sl.fr0 (N:=H.n) (by exact frA)) (Sd.fr0 (N:=H.n) (by exact frA)) (Sd.fr0 (N:=H.n) (by exact frA)) hd hdn)))|((with_reducible apply WO_callV);(focus exact topA);(simp only [↓pb,qbs,tb79,so,so.1,so.2,sd,sd.1,sd.2,lns46 Sd,hw,r0,cc,ias46 S1,S1.rd,e0,eDue,hEg,irN,nrA,nrM,nrE,reduceIte,reduceCtorEq,nrL];(exact f81 vl vd t.Names t.Limit t.Window true t.Links _ (by exact topA) sd (Sl.fr0 (N:=H.n) (by exact frA)) hl hok));(intro Gq hq hJq;try simp only [upd_n,jn_n] at hq))|(with_reducible first|refine W_regionF lv79 fun K hK=>?_|refine W_drawnF lv79 fun K hK=>?_));try simp only [↓pb,↓pd,qds,tb79,so,so.1,so.2,sd,sd.1,sd.2,lns46 Sd,hw,r0,cc,ias46 S1,S1.rd,e0,eDue,hEg,irN,nrA,nrM,nrE,reduceIte,reduceCtorEq,nrL])|((first|((with_reducible first|apply WO_gT|apply WO_gF|apply WD_gT|apply WD_gF);exact rfl)|(with_reducible apply W_cond));(simp only [↓pb,qbs,tb79,so,so.1,so.2,sd,sd.1,sd.2,lns46 Sd,hw,r0,cc,ias46 S1,S1.rd,e0,eDue,hEg,irN,nrA,nrM,nrE,reduceIte,reduceCtorEq,nrL];with_reducible exact rfl);all_goals (intro hc;(first|exact hcX hc|try simp only [hcs] at hc);try ((with_reducible first|apply woI|apply wdI);simp only [↓pb,↓pd,qds,tb79,so,so.1,so.2,sd,sd.1,sd.2,lns46 Sd,hw,r0,cc,ias46 S1,S1.rd,e0,eDue,hc,hEg,irN,nrA,nrM,nrE,reduceIte,reduceCtorEq,nrL])))|((with_reducible apply WO_gU);exact rfl;(focus (simp only [↓pb,qbs,tb79,so,so.1,so.2,sd,sd.1,sd.2,lns46 Sd,hw,r0,cc,ias46 S1,S1.rd,e0,eDue,hEg,irN,nrA,nrM,nrE,reduceIte,reduceCtorEq,nrL];done));try simp only [↓pb,↓pd,qds,tb79,so,so.1,so.2,sd,sd.1,sd.2,lns46 Sd,hw,r0,cc,ias46 S1,S1.rd,e0,eDue,hEg,irN,nrA,nrM,nrE,reduceIte,reduceCtorEq,nrL])|(with_reducible first|refine W_seq ?_|refine W_block ?_|refine W_skip ?_|refine W_ret ?_|apply blockK_exit)|((with_reducible apply blockK_pass);(focus decide))|fail))
 all_goals (
  refine ⟨by first|exact .inl rfl|exact .inr rfl, ?_⟩
  rw [ret1 Try.results79]
  simp only [↓pb,qbs,tb79,so,so.1,so.2,sd,sd.1,sd.2,lns46 Sd,rv_tmp,rv_cell,hEg,irN,nrA,nrM,nrE,reduceIte,reduceCtorEq,nrL]
  repeat ((with_reducible apply oV_intro);(simp (disch:=try exact dA) only [qcs,tb79,so,so.1,so.2,sd,sd.1,sd.2,lns46 Sd,hEg,irN,nrA,nrM,nrE,reduceIte,reduceCtorEq,nrL];exact rfl)))
 all_goals refine ⟨?_,by exact frA⟩
 all_goals first
  | rw [hD,if_pos (by omega)]
  | rw [hD,if_neg (by omega),if_pos (.inl (by omega))]
  | rw [hD,if_neg (by omega),if_pos (.inr rfl)]
  | rw [hD,if_neg (by omega),if_neg (fun q=>by rcases q with q|q;exact q ‹_›;cases q),if_pos (hE.2 ⟨by omega,by omega⟩)]
  | rw [hD,if_neg (by omega),if_neg (fun q=>by rcases q with q|q;exact q ‹_›;cases q),if_neg (fun q=>by have:=hE.1 q;omega),if_pos ‹_›]
  | rw [hD,if_neg (by omega),if_neg (fun q=>by rcases q with q|q;exact q ‹_›;cases q),if_neg (fun q=>by have:=hE.1 q;omega),if_neg (by simp [*])]
theorem f32 (vl vd:Value) (t:Tll) (name day:Int) (H:AHeap) (hT:Top H) (Sl:SR H 3 t.Links.length vl (t.Links.flatMap eLnk)) (hk:t.Links.length=0∨SK H 3 vl) (Sd:SR H 4 t.Dues.length vd (t.Dues.flatMap eDue)) (hl:t.Links.length < 1000000) (hd:t.Dues.length < 1000000) :
  ∃ v H',C8 (.fn 32) #[.agg ⟨[iv t.Names,iv t.Limit,iv t.Window,vl,vd]⟩,iv name,iv day] H v H'∧v=.tuple #[iv (roomP t name day).1,iv (roomP t name day).2]∧Fr H.n [] H H':=by
 have so:=Sl.one
 have sd:=Sd.one
 have hT1:∀ c:List Value,SK (H.upd (H.n + 1) H.n (.cells c 48 .ex)) 3 vl∨t.Links.length=0:=fun c=>by
  rcases hk with q|q
  ·exact .inr q
  ·rcases Sl.lt with q2|q2
   ·exact .inr q2
   ·exact .inl (q.fr (Fr.ex (N:=0) (X:=[]) (c:=c) (T:=48)) q2 (by simp))
 refine Cl.ofW Try.func32 rfl (by kernel_rfl) (by rw [Try.ntmps32];exact Nat.le_of_ble_eq_true rfl) (by kernel_rfl) ?_
 have hEg:True:=trivial
 refine gcW [0,1,2] ?_
 intro eg hEn
 simp only [forallC,forallL,and_true] at hEn
 try simp only [↓pb,qbs,tb32,so,so.1,so.2,sd,sd.1,sd.2,hEg,irN,nrA,nrM,nrE,reduceIte,reduceCtorEq,nrL] at hEn
 replace hEg:=hEn;clear hEn
 repeat' (first|((with_reducible refine hK _ _ fun e2 hEn=>?_);clear hK K;simp only [lv32,forallC,forallL,and_true] at hEn;(try simp only [↓pb,qbs,tb32,so,so.1,so.2,sd,sd.1,sd.2,hEg,irN,nrA,nrM,nrE,reduceIte,reduceCtorEq,nrL] at hEn);clear hEg;(try clear eg);have hEg:=hEn;clear hEn;rename Env=>eg)|((first|((with_reducible first|apply oV_intro|apply oH_intro|apply oB_intro);(simp (disch:=try exact dA) only [qcs,tb32,so,so.1,so.2,sd,sd.1,sd.2,hEg,irN,nrA,nrM,nrE,reduceIte,reduceCtorEq,nrL];with_reducible exact rfl))|((with_reducible first|apply oblA_and|apply oblR_and|apply oblO_and);(focus exact obA))|((with_reducible apply WO_callV);(focus exact topA);(simp only [↓pb,qbs,tb32,so,so.1,so.2,sd,sd.1,sd.2,hEg,irN,nrA,nrM,nrE,reduceIte,reduceCtorEq,nrL];(exact f79 vl vd t name day true _ (by exact topA) (Sl.fr0 (N:=H.n) (by exact frA)) (hT1 _).symm (Sd.fr0 (N:=H.n) (by exact frA)) hl hd));(intro Gq hq hJq;try simp only [upd_n,jn_n] at hq))|(with_reducible first|refine W_regionF lv32 fun K hK=>?_|refine W_drawnF lv32 fun K hK=>?_));try simp only [↓pb,↓pd,qds,tb32,so,so.1,so.2,sd,sd.1,sd.2,hEg,irN,nrA,nrM,nrE,reduceIte,reduceCtorEq,nrL])|((with_reducible apply W_cond);(simp only [↓pb,qbs,tb32,so,so.1,so.2,sd,sd.1,sd.2,hEg,irN,nrA,nrM,nrE,reduceIte,reduceCtorEq,nrL];with_reducible exact rfl);all_goals (intro hc;(first|exact hcX hc|try simp only [hcs] at hc)))|(with_reducible first|refine W_seq ?_|refine W_skip ?_|refine W_ret ?_)|fail)
 ·refine ⟨by first|exact .inl rfl|exact .inr rfl, ?_⟩
  rw [ret2 Try.results32]
  simp only [↓pb,qbs,tb32,so,so.1,so.2,sd,sd.1,sd.2,rv_tmp,rv_cell,hEg,irN,nrA,nrM,nrE,reduceIte,reduceCtorEq,nrL]
  repeat ((with_reducible apply oV_intro);(simp (disch:=try exact dA) only [qcs,tb32,so,so.1,so.2,sd,sd.1,sd.2,hEg,irN,nrA,nrM,nrE,reduceIte,reduceCtorEq,nrL];exact rfl))
  have e:roomP t name day=(0,dayErr t name day true):=by rw [roomP,if_pos (by assumption)]
  rw [e]
  exact ⟨rfl,by exact frA⟩
 have ok:dayErr t name day true=0:=by omega
 obtain ⟨ok1,hnm,hdy,_,_⟩:=dayErr_ok ok
 have k:=tillErr_ok ok1
 have hok:∀ i,i < t.Links.length→0≤(t.Links.getD i default).A∧(t.Links.getD i default).A < 8∧0≤(t.Links.getD i default).B∧(t.Links.getD i default).B < 8:=fun i hi=>by
  have:=mem_at k.2.2.2.2.2.1 i hi
  omega
 have hdn:∀ i,i < t.Dues.length→0≤(t.Dues.getD i default).Name∧(t.Dues.getD i default).Name < 8:=fun i hi=>by
  have:=mem_at k.2.2.2.2.2.2 i hi
  omega
 have hnm8:0≤name∧name < 8:=by omega
 repeat' (first|((with_reducible refine hK _ _ fun e2 hEn=>?_);clear hK K;simp only [lv32,forallC,forallL,and_true] at hEn;(try simp only [↓pb,qbs,tb32,so,so.1,so.2,sd,sd.1,sd.2,hEg,irN,nrA,nrM,nrE,reduceIte,reduceCtorEq,nrL] at hEn);clear hEg;(try clear eg);have hEg:=hEn;clear hEn;rename Env=>eg)|((first|((with_reducible first|apply oV_intro|apply oH_intro|apply oB_intro);(simp (disch:=try exact dA) only [qcs,tb32,so,so.1,so.2,sd,sd.1,sd.2,hEg,irN,nrA,nrM,nrE,reduceIte,reduceCtorEq,nrL];with_reducible exact rfl))|((with_reducible first|apply oblA_and|apply oblR_and|apply oblO_and);(focus exact obA))|((with_reducible apply WO_callV);(focus exact topA);(simp only [↓pb,qbs,tb32,so,so.1,so.2,sd,sd.1,sd.2,hEg,irN,nrA,nrM,nrE,reduceIte,reduceCtorEq,nrL];(first|exact f81 vl vd t.Names t.Limit t.Window true t.Links _ (by exact topA) sd (Sl.fr0 (N:=H.n) (by exact frA)) hl hok|exact f80 vl vd vd t.Names t.Limit t.Window name day (tiesP true t.Links) t.Dues _ (by exact topA) so sd (Sd.fr0 (N:=H.n) (by exact frA)) hd tiesP_len hnm8 hdn));(intro Gq hq hJq;try simp only [upd_n,jn_n] at hq))|(with_reducible first|refine W_regionF lv32 fun K hK=>?_|refine W_drawnF lv32 fun K hK=>?_));try simp only [↓pb,↓pd,qds,tb32,so,so.1,so.2,sd,sd.1,sd.2,hEg,irN,nrA,nrM,nrE,reduceIte,reduceCtorEq,nrL])|((with_reducible apply W_cond);(simp only [↓pb,qbs,tb32,so,so.1,so.2,sd,sd.1,sd.2,hEg,irN,nrA,nrM,nrE,reduceIte,reduceCtorEq,nrL];with_reducible exact rfl);all_goals (intro hc;(first|exact hcX hc|try simp only [hcs] at hc)))|(with_reducible first|refine W_seq ?_|refine W_skip ?_|refine W_ret ?_)|fail)
 refine ⟨by first|exact .inl rfl|exact .inr rfl, ?_⟩
 rw [ret2 Try.results32]
 simp only [↓pb,qbs,tb32,so,so.1,so.2,sd,sd.1,sd.2,rv_tmp,rv_cell,hEg,irN,nrA,nrM,nrE,reduceIte,reduceCtorEq,nrL]
 repeat ((with_reducible apply oV_intro);(simp (disch:=try exact dA) only [qcs,tb32,so,so.1,so.2,sd,sd.1,sd.2,hEg,irN,nrA,nrM,nrE,reduceIte,reduceCtorEq,nrL];exact rfl))
 have e:roomP t name day=(w64 (t.Limit - wGo (tiesP true t.Links) t.Window name day t.Dues),0):=by rw [roomP,if_neg (by omega)]
 rw [e]
 exact ⟨rfl,by exact frA⟩
theorem f26 (a b:Int) (H:AHeap) (hT:Top H):∃ v H',C8 (.fn 26) #[iv a,iv b] H v H'∧v=.agg ⟨[iv a,iv b]⟩∧Fr H.n [] H H':=by
 refine Cl.ofW Try.func26 rfl (by kernel_rfl) (by rw [Try.ntmps26];exact Nat.le_of_ble_eq_true rfl) (by kernel_rfl) ?_
 have hEg:True:=trivial
 refine gcW [0,1] ?_
 intro eg hEn
 simp only [forallC,forallL,and_true] at hEn
 try simp only [↓pb,qbs,tb26,hEg,irN,nrA,nrM,nrE,reduceIte,reduceCtorEq,nrL] at hEn
 replace hEg:=hEn;clear hEn
 repeat' (first|((with_reducible refine hK _ _ fun e2 hEn=>?_);clear hK K;simp only [lv26,forallC,forallL,and_true] at hEn;(try simp only [↓pb,qbs,tb26,hEg,irN,nrA,nrM,nrE,reduceIte,reduceCtorEq,nrL] at hEn);clear hEg;(try clear eg);have hEg:=hEn;clear hEn;rename Env=>eg)|((first|((with_reducible first|apply oV_intro|apply oH_intro|apply oB_intro);(simp (disch:=try exact dA) only [qcs,tb26,hEg,irN,nrA,nrM,nrE,reduceIte,reduceCtorEq,nrL];with_reducible exact rfl))|(with_reducible first|refine W_regionF lv26 fun K hK=>?_));try simp only [↓pb,↓pd,qds,tb26,hEg,irN,nrA,nrM,nrE,reduceIte,reduceCtorEq,nrL])|(with_reducible first|refine W_seq ?_|refine W_ret ?_)|fail)
 refine ⟨by first|exact .inl rfl|exact .inr rfl, ?_⟩
 rw [ret1 Try.results26]
 simp only [↓pb,qbs,tb26,rv_tmp,rv_cell,hEg,irN,nrA,nrM,nrE,reduceIte,reduceCtorEq,nrL]
 repeat ((with_reducible apply oV_intro);(simp (disch:=try exact dA) only [qcs,tb26,hEg,irN,nrA,nrM,nrE,reduceIte,reduceCtorEq,nrL];exact rfl))
 exact ⟨rfl,by exact frA⟩
def exFixes:List Fix:=[⟨10,200000⟩,⟨12,210000⟩]
theorem f72 (H:AHeap) (hT:Top H):∃ v H',C8 (.fn 72) #[] H v H'∧SR H' 2 2 v (exFixes.flatMap eFix)∧Fr H.n [] H H':=by
 refine Cl.ofW Try.func72 rfl (by kernel_rfl) (by rw [Try.ntmps72];exact Nat.le_of_ble_eq_true rfl) (by kernel_rfl) ?_
 have hEg:True:=trivial
 repeat' (first|((with_reducible refine hK _ _ fun e2 hEn=>?_);clear hK K;simp only [lv72,forallC,forallL,and_true] at hEn;(try simp only [↓pb,qbs,tb72,hEg,irN,nrA,nrM,nrE,reduceIte,reduceCtorEq,nrL] at hEn);clear hEg;(try clear eg);have hEg:=hEn;clear hEn;rename Env=>eg)|((first|((with_reducible first|apply oV_intro|apply oH_intro|apply oB_intro);(simp (disch:=try exact dA) only [qcs,tb72,hEg,irN,nrA,nrM,nrE,reduceIte,reduceCtorEq,nrL];with_reducible exact rfl))|(with_reducible first|refine W_regionF lv72 fun K hK=>?_));try simp only [↓pb,↓pd,qds,tb72,hEg,irN,nrA,nrM,nrE,reduceIte,reduceCtorEq,nrL])|(with_reducible first|refine W_seq ?_|refine W_ret ?_)|fail)
 refine ⟨by first|exact .inl rfl|exact .inr rfl, ?_⟩
 rw [ret1 Try.results72]
 simp only [↓pb,qbs,tb72,rv_tmp,rv_cell,hEg,irN,nrA,nrM,nrE,reduceIte,reduceCtorEq,nrL]
 repeat ((with_reducible apply oV_intro);(simp (disch:=try exact dA) only [qcs,tb72,hEg,irN,nrA,nrM,nrE,reduceIte,reduceCtorEq,nrL];exact rfl))
 exact ⟨SR.new rfl,by exact frA⟩
def exTags:List Tag:=[⟨⟨#[65,66,49,50]⟩,10⟩,⟨⟨#[65,66,57,57]⟩,3⟩,⟨⟨#[90,90]⟩,5⟩]
theorem f70 (H:AHeap) (hT:Top H):∃ v H',C8 (.fn 70) #[] H v H'∧(v=.slice (some ⟨H.n,0,none⟩) 3 3∧H'=H.upd (H.n + 1) H.n (.cells (exTags.flatMap eTag) 77 .ex)):=by
 refine Cl.ofW Try.func70 rfl (by kernel_rfl) (by rw [Try.ntmps70];exact Nat.le_of_ble_eq_true rfl) (by kernel_rfl) ?_
 have hEg:True:=trivial
 repeat' (first|((with_reducible refine hK _ _ fun e2 hEn=>?_);clear hK K;simp only [lv70,forallC,forallL,and_true] at hEn;(try simp only [↓pb,qbs,tb70,hEg,irN,nrA,nrM,nrE,reduceIte,reduceCtorEq,nrL] at hEn);clear hEg;(try clear eg);have hEg:=hEn;clear hEn;rename Env=>eg)|((first|((with_reducible first|apply oV_intro|apply oH_intro|apply oB_intro);(simp (disch:=try exact dA) only [qcs,tb70,hEg,irN,nrA,nrM,nrE,reduceIte,reduceCtorEq,nrL];with_reducible exact rfl))|(with_reducible first|refine W_regionF lv70 fun K hK=>?_));try simp only [↓pb,↓pd,qds,tb70,hEg,irN,nrA,nrM,nrE,reduceIte,reduceCtorEq,nrL])|(with_reducible first|refine W_seq ?_|refine W_ret ?_)|fail)
 refine ⟨by first|exact .inl rfl|exact .inr rfl, ?_⟩
 rw [ret1 Try.results70]
 simp only [↓pb,qbs,tb70,rv_tmp,rv_cell,hEg,irN,nrA,nrM,nrE,reduceIte,reduceCtorEq,nrL]
 repeat ((with_reducible apply oV_intro);(simp (disch:=try exact dA) only [qcs,tb70,hEg,irN,nrA,nrM,nrE,reduceIte,reduceCtorEq,nrL];exact rfl))
 rfl
def exTill (limit:Int):Tll:=⟨4,limit,3,[⟨0,1,true⟩,⟨1,2,false⟩],[⟨0,0,400,true⟩,⟨1,2,500,true⟩,⟨1,3,900,false⟩,⟨2,1,300,true⟩,⟨4,0,500,true⟩]⟩
theorem f69 (limit:Int) (H:AHeap) (hT:Top H):∃ v H',C8 (.fn 69) #[iv limit] H v H'∧(∃ vl vd,v=.agg ⟨[iv 4,iv limit,iv 3,vl,vd]⟩∧SR H' 3 2 vl ((exTill limit).Links.flatMap eLnk)∧SK H' 3 vl∧SR H' 4 5 vd ((exTill limit).Dues.flatMap eDue))∧Fr H.n [] H H':=by
 refine Cl.ofW Try.func69 rfl (by kernel_rfl) (by rw [Try.ntmps69];exact Nat.le_of_ble_eq_true rfl) (by kernel_rfl) ?_
 have hEg:True:=trivial
 refine gcW [0] ?_
 intro eg hEn
 simp only [forallC,forallL,and_true] at hEn
 try simp only [↓pb,qbs,tb69,hEg,irN,nrA,nrM,nrE,reduceIte,reduceCtorEq,nrL] at hEn
 replace hEg:=hEn;clear hEn
 repeat' (first|((with_reducible refine hK _ _ fun e2 hEn=>?_);clear hK K;simp only [lv69,forallC,forallL,and_true] at hEn;(try simp only [↓pb,qbs,tb69,hEg,irN,nrA,nrM,nrE,reduceIte,reduceCtorEq,nrL] at hEn);clear hEg;(try clear eg);have hEg:=hEn;clear hEn;rename Env=>eg)|((first|((with_reducible first|apply oV_intro|apply oH_intro|apply oB_intro);(simp (disch:=try exact dA) only [qcs,tb69,hEg,irN,nrA,nrM,nrE,reduceIte,reduceCtorEq,nrL];with_reducible exact rfl))|(with_reducible first|refine W_regionF lv69 fun K hK=>?_));try simp only [↓pb,↓pd,qds,tb69,hEg,irN,nrA,nrM,nrE,reduceIte,reduceCtorEq,nrL])|(with_reducible first|refine W_seq ?_|refine W_ret ?_)|fail)
 refine ⟨by first|exact .inl rfl|exact .inr rfl, ?_⟩
 rw [ret1 Try.results69]
 simp only [↓pb,qbs,tb69,rv_tmp,rv_cell,hEg,irN,nrA,nrM,nrE,reduceIte,reduceCtorEq,nrL]
 repeat ((with_reducible apply oV_intro);(simp (disch:=try exact dA) only [qcs,tb69,hEg,irN,nrA,nrM,nrE,reduceIte,reduceCtorEq,nrL];exact rfl))
 refine ⟨⟨_,_,rfl, ?_, ?_, ?_⟩,by exact frA⟩
 ·refine ⟨.inr ⟨_,_,_,rfl,Nat.le_refl _⟩,rfl,.inr ⟨(exTill limit).Links.flatMap eLnk, ?_, ?_,rfl⟩,.inr ?_⟩
  ·show AHeap.rd _ (H.n + 1)=_
   simp (disch:=try exact dA) only [qcs,tb69,hEg,irN,nrA,nrM,nrE,reduceIte,reduceCtorEq,nrL]
   rfl
  ·exact Nat.le_of_ble_eq_true rfl
  ·show H.n + 1 < _
   simp only [upd_n]
   omega
 ·refine ⟨(exTill limit).Links.flatMap eLnk,84,.ex, ?_,fun _ _ _ q=>(by cases q)⟩
  show AHeap.get _ (H.n + 1)=_
  simp (disch:=try exact dA) only [qcs,tb69,hEg,irN,nrA,nrM,nrE,reduceIte,reduceCtorEq,nrL]
  rfl
 ·refine ⟨.inr ⟨_,_,_,rfl,Nat.le_refl _⟩,rfl,.inr ⟨(exTill limit).Dues.flatMap eDue, ?_, ?_,rfl⟩,.inr ?_⟩
  ·show AHeap.rd _ (H.n + 2)=_
   simp (disch:=try exact dA) only [qcs,tb69,hEg,irN,nrA,nrM,nrE,reduceIte,reduceCtorEq,nrL]
   rfl
  ·exact Nat.le_of_ble_eq_true rfl
  ·show H.n + 2 < _
   simp only [upd_n]
   omega
def exHedge (bound:Int):Hdg:=⟨[(90,110),(140,160),(100,120)],25,bound,4⟩
theorem f71 (bound:Int) (H:AHeap) (hT:Top H):∃ v H',C8 (.fn 71) #[iv bound] H v H'∧(∃ vs,v=.agg ⟨eHdg vs (exHedge bound)⟩∧SR H' 2 3 vs ((exHedge bound).Stock.flatMap eRg))∧Fr H.n [] H H':=by
 refine Cl.ofW Try.func71 rfl (by kernel_rfl) (by rw [Try.ntmps71];exact Nat.le_of_ble_eq_true rfl) (by kernel_rfl) ?_
 have hEg:True:=trivial
 refine gcW [0] ?_
 intro eg hEn
 simp only [forallC,forallL,and_true] at hEn
 try simp only [↓pb,qbs,tb71,hEg,irN,nrA,nrM,nrE,reduceIte,reduceCtorEq,nrL] at hEn
 replace hEg:=hEn;clear hEn
 repeat' (first|((with_reducible refine hK _ _ fun e2 hEn=>?_);clear hK K;simp only [lv71,forallC,forallL,and_true] at hEn;(try simp only [↓pb,qbs,tb71,hEg,irN,nrA,nrM,nrE,reduceIte,reduceCtorEq,nrL] at hEn);clear hEg;(try clear eg);have hEg:=hEn;clear hEn;rename Env=>eg)|((first|((with_reducible first|apply oV_intro|apply oH_intro|apply oB_intro);(simp (disch:=try exact dA) only [qcs,tb71,hEg,irN,nrA,nrM,nrE,reduceIte,reduceCtorEq,nrL];with_reducible exact rfl))|((with_reducible apply WO_callV);(focus exact topA);(simp only [↓pb,qbs,tb71,hEg,irN,nrA,nrM,nrE,reduceIte,reduceCtorEq,nrL];(exact f26 _ _ _ (by exact topA)));(intro Gq hq hJq;try simp only [upd_n,jn_n] at hq))|(with_reducible first|refine W_regionF lv71 fun K hK=>?_));try simp only [↓pb,↓pd,qds,tb71,hEg,irN,nrA,nrM,nrE,reduceIte,reduceCtorEq,nrL])|(with_reducible first|refine W_seq ?_|refine W_ret ?_)|fail)
 refine ⟨by first|exact .inl rfl|exact .inr rfl, ?_⟩
 rw [ret1 Try.results71]
 simp only [↓pb,qbs,tb71,rv_tmp,rv_cell,hEg,irN,nrA,nrM,nrE,reduceIte,reduceCtorEq,nrL]
 repeat ((with_reducible apply oV_intro);(simp (disch:=try exact dA) only [qcs,tb71,hEg,irN,nrA,nrM,nrE,reduceIte,reduceCtorEq,nrL];exact rfl))
 refine ⟨⟨_,rfl, ?_⟩,by exact frA⟩
 refine ⟨.inr ⟨_,_,_,rfl,Nat.le_refl _⟩,rfl,.inr ⟨(exHedge bound).Stock.flatMap eRg, ?_, ?_,rfl⟩,.inr ?_⟩
 ·show AHeap.rd _ Gq.n=_
  simp (disch:=try exact dA) only [qcs,tb71,hEg,irN,nrA,nrM,nrE,reduceIte,reduceCtorEq,nrL]
  rfl
 ·exact Nat.le_of_ble_eq_true rfl
 ·show Gq.n < _
  simp only [upd_n]
  omega
theorem f45 (va vb:Value) (a b:List Int) (H:AHeap) (hT:Top H) (S:SR H 1 a.length va (ints a)) (U:SR H 1 b.length vb (ints b)) (ha:a.length < 1099511627776) :
  ∃ v H',C8 (.fn 45) #[va,vb] H v H'∧v=.bool (decide (a=b))∧H'=H:=by
 have S2:SR H 1 a.length va (a.map iv):=S
 have U2:SR H 1 b.length vb (b.map iv):=U
 refine Cl.ofW Try.func45 rfl (by kernel_rfl) (by rw [Try.ntmps45];exact Nat.le_of_ble_eq_true rfl) (by kernel_rfl) ?_
 have hEg:True:=trivial
 refine gcW [0,1] ?_
 intro eg hEn
 simp only [forallC,forallL,and_true] at hEn
 try simp only [↓pb,qbs,tb45,lns27 S,lns27 U,hEg,irN,nrA,nrM,nrE,reduceIte,reduceCtorEq,nrL] at hEn
 replace hEg:=hEn;clear hEn
 repeat' (first|((with_reducible refine hK _ _ fun e2 hEn=>?_);clear hK K;simp only [lv45,forallC,forallL,and_true] at hEn;(try simp only [↓pb,qbs,tb45,lns27 S,lns27 U,hEg,irN,nrA,nrM,nrE,reduceIte,reduceCtorEq,nrL] at hEn);clear hEg;(try clear eg);have hEg:=hEn;clear hEn;rename Env=>eg)|((first|((with_reducible first|apply oV_intro|apply oH_intro|apply oB_intro);(simp (disch:=try exact dA) only [qcs,tb45,lns27 S,lns27 U,hEg,irN,nrA,nrM,nrE,reduceIte,reduceCtorEq,nrL];with_reducible exact rfl))|((with_reducible first|apply oblA_and|apply oblR_and|apply oblO_and);(focus exact obA))|(with_reducible first|refine W_regionF lv45 fun K hK=>?_|refine W_drawnF lv45 fun K hK=>?_));try simp only [↓pb,↓pd,qds,tb45,lns27 S,lns27 U,hEg,irN,nrA,nrM,nrE,reduceIte,reduceCtorEq,nrL])|((first|((with_reducible first|apply WO_gT|apply WO_gF|apply WD_gT|apply WD_gF);exact rfl)|(with_reducible apply W_cond));(simp only [↓pb,qbs,tb45,lns27 S,lns27 U,hEg,irN,nrA,nrM,nrE,reduceIte,reduceCtorEq,nrL];with_reducible exact rfl);all_goals (intro hc;(first|exact hcX hc|try simp only [hcs] at hc);try ((with_reducible first|apply woI|apply wdI);simp only [↓pb,↓pd,qds,tb45,lns27 S,lns27 U,hc,hEg,irN,nrA,nrM,nrE,reduceIte,reduceCtorEq,nrL])))|(with_reducible first|refine W_seq ?_|refine W_block ?_|refine W_skip ?_|refine W_ret ?_|refine W_exit ?_|apply blockK_exit)|((with_reducible apply blockK_pass);(focus decide))|fail)
 refine W_count [0,1] (by kernel_rfl) 6 (a.length) (H.n) [] [] (fun i e h=>∃ is,e 5=.bool is∧(is=true→a.length=b.length∧a.take i=b.take i)∧(is=false→a≠b)∧h=H) (by simp only [↓pb,qbs,tb45,lns27 S,lns27 U,hEg,irN,nrA,nrM,nrE,reduceIte,reduceCtorEq,nrL]) (by focus exact topA) (H0:=H) (by focus exact frA) (by intro b hb hlt;simp at hb ⊢;try omega) ?_ ?_
 rotate_left
 intro i1 e1 h1 hi1 hE1 ei1 hF1 hF01 hTh1 hJ1
 simp only [forallC,forallL,and_true] at hE1
 try simp only [↓pb,qbs,tb45,lns27 S,lns27 U,hEg,irN,nrA,nrM,nrE,reduceIte,reduceCtorEq,nrL] at hE1
 have hn11:=hF1.n;have hn01:=hF01.n;try simp only [upd_n,jn_n] at hn11
 replace hEg:=And.intro ei1 hE1
 rotate_left
 ·refine ⟨decide ((a.length:Int)=b.length),by simp only [↓pb,qbs,tb45,lns27 S,lns27 U,hEg,irN,nrA,nrM,nrE,reduceIte,reduceCtorEq,nrL],fun h=>⟨?_,rfl⟩,fun h e=>?_,rfl⟩
  ·have:=of_decide_eq_true h;omega
  ·have:=of_decide_eq_false h;exact this (by rw [e])
 obtain ⟨is,e5,j1,j2,rfl⟩:=hJ1
 cases is with
 | false =>
  repeat' (first|((with_reducible refine hK _ _ fun e2 hEn=>?_);clear hK K;simp only [lv45,forallC,forallL,and_true] at hEn;(try simp only [↓pb,qbs,tb45,lns27 S,lns27 U,hEg,irN,nrA,nrM,nrE,reduceIte,reduceCtorEq,nrL] at hEn);clear hEg;(try clear eg);have hEg:=hEn;clear hEn;rename Env=>eg)|((first|((with_reducible first|apply oV_intro|apply oH_intro|apply oB_intro);(simp (disch:=try exact dA) only [qcs,tb45,lns27 S,lns27 U,e5,hEg,irN,nrA,nrM,nrE,reduceIte,reduceCtorEq,nrL];with_reducible exact rfl))|((with_reducible first|apply oblA_and|apply oblR_and|apply oblO_and);(focus exact obA))|(with_reducible first|refine W_regionF lv45 fun K hK=>?_|refine W_drawnF lv45 fun K hK=>?_));try simp only [↓pb,↓pd,qds,tb45,lns27 S,lns27 U,e5,hEg,irN,nrA,nrM,nrE,reduceIte,reduceCtorEq,nrL])|((first|((with_reducible first|apply WO_gT|apply WO_gF|apply WD_gT|apply WD_gF);exact rfl)|(with_reducible apply W_cond));(simp only [↓pb,qbs,tb45,lns27 S,lns27 U,e5,hEg,irN,nrA,nrM,nrE,reduceIte,reduceCtorEq,nrL];with_reducible exact rfl);all_goals (intro hc;(first|exact hcX hc|try simp only [hcs] at hc);try ((with_reducible first|apply woI|apply wdI);simp only [↓pb,↓pd,qds,tb45,lns27 S,lns27 U,e5,hc,hEg,irN,nrA,nrM,nrE,reduceIte,reduceCtorEq,nrL])))|(with_reducible first|refine W_seq ?_|refine W_block ?_|refine W_skip ?_|refine W_ret ?_|refine W_exit ?_|apply blockK_exit)|((with_reducible apply blockK_pass);(focus decide))|fail)
  refine ⟨by first|exact .inl rfl|exact .inr rfl, ?_⟩
  rw [ret1 Try.results45]
  simp only [↓pb,qbs,tb45,lns27 S,lns27 U,rv_tmp,rv_cell,hEg,irN,nrA,nrM,nrE,reduceIte,reduceCtorEq,nrL]
  repeat ((with_reducible apply oV_intro);(simp (disch:=try exact dA) only [qcs,tb45,lns27 S,lns27 U,hEg,irN,nrA,nrM,nrE,reduceIte,reduceCtorEq,nrL];exact rfl))
  simp [j2 rfl]
 | true =>
  obtain ⟨j3,j4⟩:=j1 rfl
  have l1:=S.lt;have l2:=U.lt
  by_cases hi2:i1 < a.length
  ·repeat' (first|((with_reducible refine hK _ _ fun e2 hEn=>?_);clear hK K;simp only [lv45,forallC,forallL,and_true] at hEn;(try simp only [↓pb,qbs,tb45,lns27 S,lns27 U,hEg,irN,nrA,nrM,nrE,reduceIte,reduceCtorEq,nrL] at hEn);clear hEg;(try clear eg);have hEg:=hEn;clear hEn;rename Env=>eg)|((first|((with_reducible first|apply oV_intro|apply oH_intro|apply oB_intro);(simp (disch:=try exact dA) only [qcs,tb45,lns27 S,lns27 U,e5,lns27 S,lns27 U,ias27 S,ias27 U,S.rd,U.rd,S2.el1 rfl,U2.el1 rfl,hEg,irN,nrA,nrM,nrE,reduceIte,reduceCtorEq,nrL];with_reducible exact rfl))|((with_reducible first|apply oblA_and|apply oblR_and|apply oblO_and);(focus exact obA))|(with_reducible first|refine W_regionF lv45 fun K hK=>?_|refine W_drawnF lv45 fun K hK=>?_));try simp only [↓pb,↓pd,qds,tb45,lns27 S,lns27 U,e5,lns27 S,lns27 U,ias27 S,ias27 U,S.rd,U.rd,S2.el1 rfl,U2.el1 rfl,hEg,irN,nrA,nrM,nrE,reduceIte,reduceCtorEq,nrL])|((first|((with_reducible first|apply WO_gT|apply WO_gF|apply WD_gT|apply WD_gF);exact rfl)|(with_reducible apply W_cond));(simp only [↓pb,qbs,tb45,lns27 S,lns27 U,e5,lns27 S,lns27 U,ias27 S,ias27 U,S.rd,U.rd,S2.el1 rfl,U2.el1 rfl,hEg,irN,nrA,nrM,nrE,reduceIte,reduceCtorEq,nrL];with_reducible exact rfl);all_goals (intro hc;(first|exact hcX hc|try simp only [hcs] at hc);try ((with_reducible first|apply woI|apply wdI);simp only [↓pb,↓pd,qds,tb45,lns27 S,lns27 U,e5,lns27 S,lns27 U,ias27 S,ias27 U,S.rd,U.rd,S2.el1 rfl,U2.el1 rfl,hc,hEg,irN,nrA,nrM,nrE,reduceIte,reduceCtorEq,nrL])))|(with_reducible first|refine W_seq ?_|refine W_block ?_|refine W_skip ?_|refine W_ret ?_|refine W_exit ?_|apply blockK_exit)|((with_reducible apply blockK_pass);(focus decide))|fail)
   refine ⟨by omega,by simp only [↓pb,qbs,tb45,lns27 S,lns27 U,hEg,irN,nrA,nrM,nrE,reduceIte,reduceCtorEq,nrL];exact congrArg _ (inc64 (by omega)),Fr.refl _,decide (a.getD i1 default=b.getD i1 default),by simp only [↓pb,qbs,tb45,lns27 S,lns27 U,hEg,irN,nrA,nrM,nrE,reduceIte,reduceCtorEq,nrL],fun h=>?_,fun h=>?_,rfl⟩
   ·exact ⟨j3,eq_step j3 hi2 j4 (of_decide_eq_true h)⟩
   ·exact ne_step (of_decide_eq_false h)
  ·repeat' (first|((with_reducible refine hK _ _ fun e2 hEn=>?_);clear hK K;simp only [lv45,forallC,forallL,and_true] at hEn;(try simp only [↓pb,qbs,tb45,lns27 S,lns27 U,hEg,irN,nrA,nrM,nrE,reduceIte,reduceCtorEq,nrL] at hEn);clear hEg;(try clear eg);have hEg:=hEn;clear hEn;rename Env=>eg)|((first|((with_reducible first|apply oV_intro|apply oH_intro|apply oB_intro);(simp (disch:=try exact dA) only [qcs,tb45,lns27 S,lns27 U,e5,lns27 S,hEg,irN,nrA,nrM,nrE,reduceIte,reduceCtorEq,nrL];with_reducible exact rfl))|((with_reducible first|apply oblA_and|apply oblR_and|apply oblO_and);(focus exact obA))|(with_reducible first|refine W_regionF lv45 fun K hK=>?_|refine W_drawnF lv45 fun K hK=>?_));try simp only [↓pb,↓pd,qds,tb45,lns27 S,lns27 U,e5,lns27 S,hEg,irN,nrA,nrM,nrE,reduceIte,reduceCtorEq,nrL])|((first|((with_reducible first|apply WO_gT|apply WO_gF|apply WD_gT|apply WD_gF);exact rfl)|(with_reducible apply W_cond));(simp only [↓pb,qbs,tb45,lns27 S,lns27 U,e5,lns27 S,hEg,irN,nrA,nrM,nrE,reduceIte,reduceCtorEq,nrL];with_reducible exact rfl);all_goals (intro hc;(first|exact hcX hc|try simp only [hcs] at hc);try ((with_reducible first|apply woI|apply wdI);simp only [↓pb,↓pd,qds,tb45,lns27 S,lns27 U,e5,lns27 S,hc,hEg,irN,nrA,nrM,nrE,reduceIte,reduceCtorEq,nrL])))|(with_reducible first|refine W_seq ?_|refine W_block ?_|refine W_skip ?_|refine W_ret ?_|refine W_exit ?_|apply blockK_exit)|((with_reducible apply blockK_pass);(focus decide))|fail)
   refine ⟨by first|exact .inl rfl|exact .inr rfl, ?_⟩
   rw [ret1 Try.results45]
   simp only [↓pb,qbs,tb45,lns27 S,lns27 U,rv_tmp,rv_cell,hEg,irN,nrA,nrM,nrE,reduceIte,reduceCtorEq,nrL]
   repeat ((with_reducible apply oV_intro);(simp (disch:=try exact dA) only [qcs,tb45,lns27 S,lns27 U,hEg,irN,nrA,nrM,nrE,reduceIte,reduceCtorEq,nrL];exact rfl))
   have e1:i1=a.length:=by omega
   subst e1
   rw [List.take_length,j3,List.take_length] at j4
   simp [j4]
theorem lk127d {H:AHeap} {r:Nat} {l:List Ent2} {a b:Int} (hg:H.get r=.map (entK l)):lookupA Try.prog 127 (.map (some r)) (k2 a b) false H=some (iv (lkE l a b)):=by
 rw [lookup0_s2 und127 key129 keq129 zr3 hg]
 exact congrArg some (lkE_find a b l 0)
theorem f35 (vl vd:Value) (t:Tll) (name day cents:Int) (H:AHeap) (hT:Top H) (Sl:SR H 3 t.Links.length vl (t.Links.flatMap eLnk)) (hk:t.Links.length=0∨SK H 3 vl) (Sd:SR H 4 t.Dues.length vd (t.Dues.flatMap eDue)) (hl:t.Links.length < 1000000) (hd:t.Dues.length < 1000000) :
  ∃ v H',C8 (.fn 35) #[.agg ⟨[iv t.Names,iv t.Limit,iv t.Window,vl,vd]⟩,iv name,iv day,iv cents] H v H'∧v=.tuple #[iv (soonP t name day cents).1,iv (soonP t name day cents).2]∧Fr H.n [] H H':=by
 have so:=Sl.one
 have sd:=Sd.one
 have hT1:∀ c:List Value,SK (H.upd (H.n + 1) H.n (.cells c 48 .ex)) 3 vl∨t.Links.length=0:=fun c=>by
  rcases hk with q|q
  ·exact .inr q
  ·rcases Sl.lt with q2|q2
   ·exact .inr q2
   ·exact .inl (q.fr (Fr.ex (N:=0) (X:=[]) (c:=c) (T:=48)) q2 (by simp))
 refine Cl.ofW Try.func35 rfl (by kernel_rfl) (by rw [Try.ntmps35];exact Nat.le_of_ble_eq_true rfl) (by kernel_rfl) ?_
 have hEg:True:=trivial
 refine gcW [0,1,2,3] ?_
 intro eg hEn
 simp only [forallC,forallL,and_true] at hEn
 try simp only [↓pb,qbs,tb35,so,so.1,so.2,sd,sd.1,sd.2,hEg,irN,nrA,nrM,nrE,reduceIte,reduceCtorEq,nrL] at hEn
 replace hEg:=hEn;clear hEn
 repeat' (first|((with_reducible refine hK _ _ fun e2 hEn=>?_);clear hK K;simp only [lv35,forallC,forallL,and_true] at hEn;(try simp only [↓pb,qbs,tb35,so,so.1,so.2,sd,sd.1,sd.2,hEg,irN,nrA,nrM,nrE,reduceIte,reduceCtorEq,nrL] at hEn);clear hEg;(try clear eg);have hEg:=hEn;clear hEn;rename Env=>eg)|((first|((with_reducible first|apply oV_intro|apply oH_intro|apply oB_intro);(simp (disch:=try exact dA) only [qcs,tb35,so,so.1,so.2,sd,sd.1,sd.2,hEg,irN,nrA,nrM,nrE,reduceIte,reduceCtorEq,nrL];with_reducible exact rfl))|((with_reducible first|apply oblA_and|apply oblR_and|apply oblO_and);(focus exact obA))|((with_reducible apply WO_callE);(simp only [↓pb,qbs,tb35,so,so.1,so.2,sd,sd.1,sd.2,hEg,irN,nrA,nrM,nrE,reduceIte,reduceCtorEq,nrL];(exact f75 _ _ _ _)))|((with_reducible apply WO_callV);(focus exact topA);(simp only [↓pb,qbs,tb35,so,so.1,so.2,sd,sd.1,sd.2,hEg,irN,nrA,nrM,nrE,reduceIte,reduceCtorEq,nrL];(exact f79 vl vd t name day (inB cents 0 100000000) _ (by exact topA) (Sl.fr0 (N:=H.n) (by exact frA)) (hT1 _).symm (Sd.fr0 (N:=H.n) (by exact frA)) hl hd));(intro Gq hq hJq;try simp only [upd_n,jn_n] at hq))|(with_reducible first|refine W_regionF lv35 fun K hK=>?_|refine W_drawnF lv35 fun K hK=>?_));try simp only [↓pb,↓pd,qds,tb35,so,so.1,so.2,sd,sd.1,sd.2,hEg,irN,nrA,nrM,nrE,reduceIte,reduceCtorEq,nrL])|((with_reducible apply W_cond);(simp only [↓pb,qbs,tb35,so,so.1,so.2,sd,sd.1,sd.2,hEg,irN,nrA,nrM,nrE,reduceIte,reduceCtorEq,nrL];with_reducible exact rfl);all_goals (intro hc;(first|exact hcX hc|try simp only [hcs] at hc)))|(with_reducible first|refine W_seq ?_|refine W_block ?_|refine W_skip ?_|refine W_ret ?_|refine W_exit ?_|apply blockK_exit)|((with_reducible apply blockK_pass);(focus decide))|fail)
 ·refine ⟨by first|exact .inl rfl|exact .inr rfl, ?_⟩
  rw [ret2 Try.results35]
  simp only [↓pb,qbs,tb35,so,so.1,so.2,sd,sd.1,sd.2,rv_tmp,rv_cell,hEg,irN,nrA,nrM,nrE,reduceIte,reduceCtorEq,nrL]
  repeat ((with_reducible apply oV_intro);(simp (disch:=try exact dA) only [qcs,tb35,so,so.1,so.2,sd,sd.1,sd.2,hEg,irN,nrA,nrM,nrE,reduceIte,reduceCtorEq,nrL];exact rfl))
  have e:soonP t name day cents=(0,dayErr t name day (inB cents 0 100000000)):=by rw [soonP,if_pos (by assumption)]
  rw [e]
  exact ⟨rfl,by exact frA⟩
 have ok:dayErr t name day (inB cents 0 100000000)=0:=by omega
 have hS:soonP t name day cents=soonGo t name (4001 - day).toNat day cents []:=by rw [soonP,if_neg (by omega)]
 obtain ⟨ok1,hnm,hdy,_,_⟩:=dayErr_ok ok
 have k:=tillErr_ok ok1
 have hok:∀ i,i < t.Links.length→0≤(t.Links.getD i default).A∧(t.Links.getD i default).A < 8∧0≤(t.Links.getD i default).B∧(t.Links.getD i default).B < 8:=fun i hi=>by
  have:=mem_at k.2.2.2.2.2.1 i hi
  omega
 have hdn:∀ i,i < t.Dues.length→0≤(t.Dues.getD i default).Name∧(t.Dues.getD i default).Name < 8:=fun i hi=>by
  have:=mem_at k.2.2.2.2.2.2 i hi
  omega
 have hnm8:0≤name∧name < 8:=by omega
 have hst:∀ (h:AHeap) (b:Nat),_:=fun (h:AHeap) (b:Nat)=>stZ (H:=h) (b:=b) (c:=(tiesP true t.Links).map .bool) (by rw [List.length_map];exact tiesP_len)
 repeat' (first|((with_reducible refine hK _ _ fun e2 hEn=>?_);clear hK K;simp only [lv35,forallC,forallL,and_true] at hEn;(try simp only [↓pb,qbs,tb35,so,so.1,so.2,sd,sd.1,sd.2,hEg,irN,nrA,nrM,nrE,reduceIte,reduceCtorEq,nrL] at hEn);clear hEg;(try clear eg);have hEg:=hEn;clear hEn;rename Env=>eg)|((first|((with_reducible first|apply oV_intro|apply oH_intro|apply oB_intro);(simp (disch:=try exact dA) only [qcs,tb35,so,so.1,so.2,sd,sd.1,sd.2,hst,hEg,irN,nrA,nrM,nrE,reduceIte,reduceCtorEq,nrL];with_reducible exact rfl))|((with_reducible first|apply oblA_and|apply oblR_and|apply oblO_and);(focus exact obA))|((with_reducible apply WO_callV);(focus exact topA);(simp only [↓pb,qbs,tb35,so,so.1,so.2,sd,sd.1,sd.2,hst,hEg,irN,nrA,nrM,nrE,reduceIte,reduceCtorEq,nrL];(exact f81 vl vd t.Names t.Limit t.Window true t.Links _ (by exact topA) sd (Sl.fr0 (N:=H.n) (by exact frA)) hl hok));(intro Gq hq hJq;try simp only [upd_n,jn_n] at hq))|(with_reducible first|refine W_regionF lv35 fun K hK=>?_|refine W_drawnF lv35 fun K hK=>?_));try simp only [↓pb,↓pd,qds,tb35,so,so.1,so.2,sd,sd.1,sd.2,hst,hEg,irN,nrA,nrM,nrE,reduceIte,reduceCtorEq,nrL])|((with_reducible apply W_cond);(simp only [↓pb,qbs,tb35,so,so.1,so.2,sd,sd.1,sd.2,hst,hEg,irN,nrA,nrM,nrE,reduceIte,reduceCtorEq,nrL];with_reducible exact rfl);all_goals (intro hc;(first|exact hcX hc|try simp only [hcs] at hc)))|(with_reducible first|refine W_seq ?_|refine W_block ?_|refine W_skip ?_|refine W_ret ?_|refine W_exit ?_|apply blockK_exit)|((with_reducible apply blockK_pass);(focus decide))|fail)
 generalize hh:AHeap.upd _ _ _ (AObj.map [])=h0 at *
 have hF:Fr H.n [] H h0:=by
  rw [← hh]
  exact frA
 have hTh:Top h0:=by
  rw [← hh]
  exact topA
 have g0:h0.get H.n=.cells [iv t.Names,iv t.Limit,iv t.Window,vl,vd] 48 .ex:=by
  rw [← hh]
  simp (disch:=try exact dA) only [qcs,tb35,so,so.1,so.2,sd,sd.1,sd.2,hEg,irN,nrA,nrM,nrE,reduceIte,reduceCtorEq,nrL]
 have g1:h0.get Gq.n=.cells ((tiesP true t.Links).map .bool) 121 .ex:=by
  rw [← hh]
  simp (disch:=try exact dA) only [qcs,tb35,so,so.1,so.2,sd,sd.1,sd.2,hEg,irN,nrA,nrM,nrE,reduceIte,reduceCtorEq,nrL]
 have g2:h0.get (Gq.n + 1)=.map (entK []):=by
  rw [← hh]
  simp (disch:=try exact dA) only [qcs,tb35,so,so.1,so.2,sd,sd.1,sd.2,hEg,irN,nrA,nrM,nrE,reduceIte,reduceCtorEq,nrL]
  rfl
 have hn0:H.n < Gq.n∧Gq.n + 2=h0.n:=by
  refine ⟨by omega, ?_⟩
  rw [← hh]
  rfl
 clear hh hJq hq hst
 generalize Gq.n=b1 at *
 clear Gq
 have hwin:=k.2.2.1
 have SA:=Sd.fr0 hF
 refine W_while [1,4,11,12] (by kernel_rfl) (H.n) [b1 + 1] [] (fun s e h=>e 3=iv s.2.1∧e 13=iv s.1∧day≤s.1∧h.get (b1 + 1)=.map (entK s.2.2)∧(∀ x,x∈s.2.2→x.1.2 < s.1)∧soonP t name day cents=soonGo t name (4001 - s.1).toNat s.1 s.2.1 s.2.2) (fun s=>(4001 - s.1).toNat) ((day,cents,([]:List Ent2))) (by focus exact topA) (H0:=H) (by focus exact frA) (by intro b hb hlt;simp at hb ⊢;try omega) ?_ ?_
 rotate_left
 intro s1 e1 h1 hE1 hF1 hF01 hTh1 hJ1
 simp only [forallC,forallL,and_true] at hE1
 try simp only [↓pb,qbs,tb35,so,so.1,so.2,sd,sd.1,sd.2,hEg,irN,nrA,nrM,nrE,reduceIte,reduceCtorEq,nrL] at hE1
 have hn11:=hF1.n;have hn01:=hF01.n;try simp only [upd_n,jn_n] at hn11
 replace hEg:=hE1
 rotate_left
 ·exact ⟨by simp only [↓pb,qbs,tb35,so,so.1,so.2,sd,sd.1,sd.2,hEg,irN,nrA,nrM,nrE,reduceIte,reduceCtorEq,nrL],by simp only [↓pb,qbs,tb35,so,so.1,so.2,sd,sd.1,sd.2,hEg,irN,nrA,nrM,nrE,reduceIte,reduceCtorEq,nrL],Int.le_refl _,g2,fun x hx=>(by cases hx),hS⟩
 obtain ⟨j3,j13,jd,jg,jk,js⟩:=hJ1
 obtain ⟨d,c,es⟩:=s1
 dsimp only at j3 j13 jd jg jk js
 have r0:h1.rd H.n=some [iv t.Names,iv t.Limit,iv t.Window,vl,vd]:=by
  rw [rd_def,hF1.old _ (by omega) (by simp;omega),g0]
  rfl
 have r1:h1.rd b1=some ((tiesP true t.Links).map .bool):=by
  rw [rd_def,hF1.old _ (by omega) (by simp),g1]
  rfl
 have hat:=atB (tiesP_len (all:=true) (l:=t.Links))
 have S1:=Sd.fr0 hF01
 by_cases hd2:d≤4000
 ·have w1:IntKind.i64.wrap (d - t.Window)=d - t.Window:=wrap64 (by omega) (by omega)
  have w2:IntKind.i64.wrap (d - t.Window + 1)=d - t.Window + 1:=wrap64 (by omega) (by omega)
  repeat' (first|((with_reducible refine hK _ _ fun e2 hEn=>?_);clear hK K;simp only [lv35,forallC,forallL,and_true] at hEn;(try simp only [↓pb,qbs,tb35,so,so.1,so.2,sd,sd.1,sd.2,hEg,irN,nrA,nrM,nrE,reduceIte,reduceCtorEq,nrL] at hEn);clear hEg;(try clear eg);have hEg:=hEn;clear hEn;rename Env=>eg)|((first|((with_reducible first|apply oV_intro|apply oH_intro|apply oB_intro);(simp (disch:=try exact dA) only [qcs,tb35,so,so.1,so.2,sd,sd.1,sd.2,r0,r1,hat,j3,j13,hd2,hEg,irN,nrA,nrM,nrE,reduceIte,reduceCtorEq,nrL];with_reducible exact rfl))|((with_reducible first|apply oblA_and|apply oblR_and|apply oblO_and);(focus exact obA))|((with_reducible apply WO_callV);(focus exact topA);(simp only [↓pb,qbs,tb35,so,so.1,so.2,sd,sd.1,sd.2,r0,r1,hat,j3,j13,hd2,hEg,irN,nrA,nrM,nrE,reduceIte,reduceCtorEq,nrL];(exact f80 vl vd vd t.Names t.Limit t.Window name d (tiesP true t.Links) t.Dues _ (by exact topA) so sd (Sd.fr0 (N:=H.n) (by exact frA)) hd tiesP_len hnm8 hdn));(intro Gq hq hJq;try simp only [upd_n,jn_n] at hq))|(with_reducible first|refine W_regionF lv35 fun K hK=>?_|refine W_drawnF lv35 fun K hK=>?_));try simp only [↓pb,↓pd,qds,tb35,so,so.1,so.2,sd,sd.1,sd.2,r0,r1,hat,j3,j13,hd2,hEg,irN,nrA,nrM,nrE,reduceIte,reduceCtorEq,nrL])|((with_reducible apply W_cond);(simp only [↓pb,qbs,tb35,so,so.1,so.2,sd,sd.1,sd.2,r0,r1,hat,j3,j13,hd2,hEg,irN,nrA,nrM,nrE,reduceIte,reduceCtorEq,nrL];with_reducible exact rfl);all_goals (intro hc;(first|exact hcX hc|try simp only [hcs] at hc)))|(with_reducible first|refine W_seq ?_|refine W_block ?_|refine W_skip ?_|refine W_ret ?_|refine W_exit ?_|apply blockK_exit)|((with_reducible apply blockK_pass);(focus decide))|fail)
  simp only [j3,j13,w1,w2] at hEg
  have hF2:Fr H.n [b1 + 1] h0 (h1.jn Gq):=by exact frA
  have hF02:Fr H.n [] H (h1.jn Gq):=by exact frA
  have hT2:Top (h1.jn Gq):=by exact topA
  have jg2:(h1.jn Gq).get (b1 + 1)=.map (entK es):=by simp (disch:=try exact dA) only [qcs,tb35,so,so.1,so.2,sd,sd.1,sd.2,hEg,irN,nrA,nrM,nrE,reduceIte,reduceCtorEq,nrL];exact jg
  have hn2:h1.n≤(h1.jn Gq).n:=hq
  generalize h1.jn Gq=h2 at *
  clear hJq hq
  obtain ⟨kf,hkf⟩:∃ x:Nat,x=(4000 - d).toNat:=⟨_,rfl⟩
  have hf:(4001 - d).toNat=kf + 1:=by omega
  rw [hf,soonGo] at js
  have hR:roomAt t es name d=leftGo es name (d - (d - t.Window + 1)).toNat (d - t.Window + 1) (IntKind.i64.wrap (t.Limit - wGo (tiesP true t.Links) t.Window name d t.Dues)):=by
   rw [roomAt,w64,w64,w64,w1,w2]
  refine W_while [1,3,4,11,12,13] (by kernel_rfl) (H.n) [] [] (fun s e h=>e 15=iv s.1∧e 14=iv s.2∧d - t.Window + 1≤s.1∧s.1≤d∧roomAt t es name d=leftGo es name (d - s.1).toNat s.1 s.2) (fun s=>(d - s.1).toNat) ((d - t.Window + 1,IntKind.i64.wrap (t.Limit - wGo (tiesP true t.Links) t.Window name d t.Dues))) (by focus exact topA) (H0:=H) (by focus exact frA) (by intro b hb hlt;simp at hb ⊢;try omega) ?_ ?_
  rotate_left
  intro s3 e3 h3 hE3 hF3 hF03 hTh3 hJ3
  simp only [forallC,forallL,and_true] at hE3
  try simp only [↓pb,qbs,tb35,so,so.1,so.2,sd,sd.1,sd.2,hEg,irN,nrA,nrM,nrE,reduceIte,reduceCtorEq,nrL] at hE3
  have hn13:=hF3.n;have hn03:=hF03.n;try simp only [upd_n,jn_n] at hn13
  replace hEg:=hE3
  rotate_left
  ·exact ⟨by simp only [↓pb,qbs,tb35,so,so.1,so.2,sd,sd.1,sd.2,hEg,irN,nrA,nrM,nrE,reduceIte,reduceCtorEq,nrL],by simp only [↓pb,qbs,tb35,so,so.1,so.2,sd,sd.1,sd.2,hEg,irN,nrA,nrM,nrE,reduceIte,reduceCtorEq,nrL],by dsimp only;omega,by dsimp only;omega,hR⟩
  obtain ⟨q15,q14,qa,qb,qr⟩:=hJ3
  obtain ⟨kk,r⟩:=s3
  dsimp only at q15 q14 qa qb qr
  have hF13:Fr H.n [b1 + 1] h0 h3:=hF2.trans (hF3.mono (Nat.le_refl _) (by simp))
  have jg3:h3.get (b1 + 1)=.map (entK es):=by rw [hF3.old _ (by omega) (by simp)];exact jg2
  by_cases hk3:kk < d
  ·repeat' (first|((with_reducible refine hK _ _ fun e2 hEn=>?_);clear hK K;simp only [lv35,forallC,forallL,and_true] at hEn;(try simp only [↓pb,qbs,tb35,so,so.1,so.2,sd,sd.1,sd.2,hEg,irN,nrA,nrM,nrE,reduceIte,reduceCtorEq,nrL] at hEn);clear hEg;(try clear eg);have hEg:=hEn;clear hEn;rename Env=>eg)|((first|((with_reducible first|apply oV_intro|apply oH_intro|apply oB_intro);(simp (disch:=try exact dA) only [qcs,tb35,so,so.1,so.2,sd,sd.1,sd.2,q15,q14,hk3,lk127d jg3,hEg,irN,nrA,nrM,nrE,reduceIte,reduceCtorEq,nrL];with_reducible exact rfl))|((with_reducible first|apply oblA_and|apply oblR_and|apply oblO_and);(focus exact obA))|(with_reducible first|refine W_regionF lv35 fun K hK=>?_|refine W_drawnF lv35 fun K hK=>?_));try simp only [↓pb,↓pd,qds,tb35,so,so.1,so.2,sd,sd.1,sd.2,q15,q14,hk3,lk127d jg3,hEg,irN,nrA,nrM,nrE,reduceIte,reduceCtorEq,nrL])|((with_reducible apply W_cond);(simp only [↓pb,qbs,tb35,so,so.1,so.2,sd,sd.1,sd.2,q15,q14,hk3,lk127d jg3,hEg,irN,nrA,nrM,nrE,reduceIte,reduceCtorEq,nrL];with_reducible exact rfl);all_goals (intro hc;(first|exact hcX hc|try simp only [hcs] at hc)))|(with_reducible first|refine W_seq ?_|refine W_block ?_|refine W_skip ?_|refine W_ret ?_|refine W_exit ?_|apply blockK_exit)|((with_reducible apply blockK_pass);(focus decide))|fail)
   refine ⟨(kk + 1,w64 (r - lkE es name kk)),by dsimp only;omega,by exact frA,by simp only [hEg];exact congrArg _ (wrap64 (by omega) (by omega)),by simp only [hEg];rfl,by dsimp only;omega,by dsimp only;omega, ?_⟩
   dsimp only
   obtain ⟨z,hz⟩:∃ z,(d - kk).toNat=z + 1:=⟨(d - kk).toNat - 1,by omega⟩
   rw [qr,hz,leftGo]
   have:(d - (kk + 1)).toNat=z:=by omega
   rw [this]
  ·have ek:(d - kk).toNat=0:=by omega
   rw [ek,leftGo] at qr
   rw [qr] at js
   repeat' (first|((with_reducible refine hK _ _ fun e2 hEn=>?_);clear hK K;simp only [lv35,forallC,forallL,and_true] at hEn;(try simp only [↓pb,qbs,tb35,so,so.1,so.2,sd,sd.1,sd.2,hEg,irN,nrA,nrM,nrE,reduceIte,reduceCtorEq,nrL] at hEn);clear hEg;(try clear eg);have hEg:=hEn;clear hEn;rename Env=>eg)|((first|((with_reducible first|apply oV_intro|apply oH_intro|apply oB_intro);(simp (disch:=try exact dA) only [qcs,tb35,so,so.1,so.2,sd,sd.1,sd.2,q15,q14,hk3,mu127 jg3 (findE_new jk),hEg,irN,nrA,nrM,nrE,reduceIte,reduceCtorEq,nrL];with_reducible exact rfl))|((with_reducible first|apply oblA_and|apply oblR_and|apply oblO_and);(focus exact obA))|(with_reducible first|refine W_regionF lv35 fun K hK=>?_|refine W_drawnF lv35 fun K hK=>?_));try simp only [↓pb,↓pd,qds,tb35,so,so.1,so.2,sd,sd.1,sd.2,q15,q14,hk3,mu127 jg3 (findE_new jk),hEg,irN,nrA,nrM,nrE,reduceIte,reduceCtorEq,nrL])|((with_reducible apply W_cond);(simp only [↓pb,qbs,tb35,so,so.1,so.2,sd,sd.1,sd.2,q15,q14,hk3,mu127 jg3 (findE_new jk),hEg,irN,nrA,nrM,nrE,reduceIte,reduceCtorEq,nrL];with_reducible exact rfl);all_goals (intro hc;(first|exact hcX hc|try simp only [hcs] at hc)))|(with_reducible first|refine W_seq ?_|refine W_block ?_|refine W_skip ?_|refine W_ret ?_|refine W_exit ?_|apply blockK_exit)|((with_reducible apply blockK_pass);(focus decide))|fail)
   ·refine ⟨by first|exact .inl rfl|exact .inr rfl, ?_⟩
    rw [ret2 Try.results35]
    simp only [↓pb,qbs,tb35,so,so.1,so.2,sd,sd.1,sd.2,rv_tmp,rv_cell,hEg,irN,nrA,nrM,nrE,reduceIte,reduceCtorEq,nrL]
    repeat ((with_reducible apply oV_intro);(simp (disch:=try exact dA) only [qcs,tb35,so,so.1,so.2,sd,sd.1,sd.2,hEg,irN,nrA,nrM,nrE,reduceIte,reduceCtorEq,nrL];exact rfl))
    rw [js,if_pos (by assumption)]
    exact ⟨rfl,by exact frA⟩
   ·rw [if_neg (by assumption)] at js
    refine ⟨(d + 1,w64 (c - r),es ++ [((name,d),r)]),by dsimp only;omega,by exact frA,by simp only [hEg];rfl,by simp only [hEg];exact congrArg _ (wrap64 (by omega) (by omega)),by dsimp only;omega,by simp (disch:=try exact dA) only [qcs,tb35,so,so.1,so.2,sd,sd.1,sd.2,hEg,irN,nrA,nrM,nrE,reduceIte,reduceCtorEq,nrL], ?_, ?_⟩
    ·intro x hx
     dsimp only at hx ⊢
     rcases List.mem_append.1 hx with q|q
     ·have:=jk x q
      omega
     ·rw [List.mem_singleton.1 q]
      dsimp only
      omega
    ·dsimp only
     have:(4001 - (d + 1)).toNat=kf:=by omega
     rw [js,this]
 ·have ek:(4001 - d).toNat=0:=by omega
  rw [ek,soonGo] at js
  repeat' (first|((with_reducible refine hK _ _ fun e2 hEn=>?_);clear hK K;simp only [lv35,forallC,forallL,and_true] at hEn;(try simp only [↓pb,qbs,tb35,so,so.1,so.2,sd,sd.1,sd.2,hEg,irN,nrA,nrM,nrE,reduceIte,reduceCtorEq,nrL] at hEn);clear hEg;(try clear eg);have hEg:=hEn;clear hEn;rename Env=>eg)|((first|((with_reducible first|apply oV_intro|apply oH_intro|apply oB_intro);(simp (disch:=try exact dA) only [qcs,tb35,so,so.1,so.2,sd,sd.1,sd.2,j13,hd2,hEg,irN,nrA,nrM,nrE,reduceIte,reduceCtorEq,nrL];with_reducible exact rfl))|((with_reducible first|apply oblA_and|apply oblR_and|apply oblO_and);(focus exact obA))|(with_reducible first|refine W_regionF lv35 fun K hK=>?_|refine W_drawnF lv35 fun K hK=>?_));try simp only [↓pb,↓pd,qds,tb35,so,so.1,so.2,sd,sd.1,sd.2,j13,hd2,hEg,irN,nrA,nrM,nrE,reduceIte,reduceCtorEq,nrL])|((with_reducible apply W_cond);(simp only [↓pb,qbs,tb35,so,so.1,so.2,sd,sd.1,sd.2,j13,hd2,hEg,irN,nrA,nrM,nrE,reduceIte,reduceCtorEq,nrL];with_reducible exact rfl);all_goals (intro hc;(first|exact hcX hc|try simp only [hcs] at hc)))|(with_reducible first|refine W_seq ?_|refine W_block ?_|refine W_skip ?_|refine W_ret ?_|refine W_exit ?_|apply blockK_exit)|((with_reducible apply blockK_pass);(focus decide))|fail)
  refine ⟨by first|exact .inl rfl|exact .inr rfl, ?_⟩
  rw [ret2 Try.results35]
  simp only [↓pb,qbs,tb35,so,so.1,so.2,sd,sd.1,sd.2,rv_tmp,rv_cell,hEg,irN,nrA,nrM,nrE,reduceIte,reduceCtorEq,nrL]
  repeat ((with_reducible apply oV_intro);(simp (disch:=try exact dA) only [qcs,tb35,so,so.1,so.2,sd,sd.1,sd.2,hEg,irN,nrA,nrM,nrE,reduceIte,reduceCtorEq,nrL];exact rfl))
  rw [js]
  exact ⟨rfl,by exact frA⟩
def exReads:List ByteArray:=[⟨#[65,66,63,63]⟩,⟨#[63,63,57,63]⟩]
theorem ev1:lawfulP (exTill 1000)=(3,0):=by kernel_rfl
theorem ev2:soonP (exTill 1500) 0 4 2000=(7,0):=by kernel_rfl
theorem ev3:matchP exTags exReads (goodsErr exTags exReads) (decide (0≤Lib.indexByte (readP exReads).data.toList 63))=(3,[1],0):=by kernel_rfl
theorem ev4:hedgedP (exHedge 30)=([4,6,5],3,0):=by kernel_rfl
theorem ev5:valueP exFixes 12 1000 1500 900=((189000,283500),0):=by kernel_rfl
theorem W_gen {C:CallRel} {nt:Nat} {c:Code} {env:Env} {h:AHeap} {Q:Post} {N:Nat} {X:List Nat} {h0:AHeap} (p:AHeap→Prop) (F:Fr N X h0 h) (hp:p h) (k:∀ h',Fr N X h0 h'→p h'→W Try.prog C 0 nt c env h' Q):W Try.prog C 0 nt c env h Q:=k h F hp
theorem f15 (H:AHeap) (hT:Top H):∃ v H',C8 (.fn 15) #[] H v H'∧v=.bool true∧Fr H.n [] H H':=by
 refine Cl.ofW Try.func15 rfl (by kernel_rfl) (by rw [Try.ntmps15];exact Nat.le_of_ble_eq_true rfl) (by kernel_rfl) ?_
 have hEg:True:=trivial
 repeat' (first|((with_reducible refine hK _ _ fun e2 hEn=>?_);clear hK K;simp only [lv15,forallC,forallL,and_true] at hEn;(try simp only [↓pb,qbs,tb15,hEg,irN,nrA,nrM,nrE,reduceIte,reduceCtorEq,nrL] at hEn);clear hEg;(try clear eg);have hEg:=hEn;clear hEn;rename Env=>eg)|((first|((with_reducible first|apply oV_intro|apply oH_intro|apply oB_intro);(simp (disch:=try exact dA) only [qcs,tb15,ev1,hEg,irN,nrA,nrM,nrE,reduceIte,reduceCtorEq,nrL];with_reducible exact rfl))|((with_reducible first|apply oblA_and|apply oblR_and|apply oblO_and);(focus exact obA))|((with_reducible apply WO_callF);(focus exact topA);(simp only [↓pb,qbs,tb15,ev1,hEg,irN,nrA,nrM,nrE,reduceIte,reduceCtorEq,nrL];exact f69 _ _ (by exact topA));(rintro vq Gq hq hJq ⟨vl,vd,rfl,Sl,Kl,Sd⟩;try simp only [upd_n,jn_n] at hq))|((with_reducible apply WO_callV);(focus exact topA);(simp only [↓pb,qbs,tb15,ev1,hEg,irN,nrA,nrM,nrE,reduceIte,reduceCtorEq,nrL];(exact f37 vl vd (exTill 1000) _ (by exact topA) Sl (.inr Kl) Sd (by decide) (by decide)));(intro Gq hq hJq;try simp only [upd_n,jn_n] at hq))|(with_reducible first|refine W_regionE lv15 [2] fun K hK=>?_|refine W_drawnE lv15 [2] fun K hK=>?_));try simp only [↓pb,↓pd,qds,tb15,ev1,hEg,irN,nrA,nrM,nrE,reduceIte,reduceCtorEq,nrL])|(((with_reducible first|apply WO_gT|apply WO_gF|apply WD_gT|apply WD_gF);exact rfl);(simp only [↓pb,qbs,tb15,ev1,hEg,irN,nrA,nrM,nrE,reduceIte,reduceCtorEq,nrL];with_reducible exact rfl);all_goals (intro hc;(first|exact hcX hc|try simp only [hcs] at hc);try ((with_reducible first|apply woI|apply wdI);simp only [↓pb,↓pd,qds,tb15,ev1,hc,hEg,irN,nrA,nrM,nrE,reduceIte,reduceCtorEq,nrL])))|(with_reducible first|refine W_seq ?_|refine W_ret ?_)|fail)
 refine W_gen (N:=H.n) (X:=[]) (h0:=H) Top (by exact frA) (by exact topA) fun h1 hF1 hT1=>?_
 have n1:=hF1.n
 repeat' (first|((with_reducible refine hK _ _ fun e2 hEn=>?_);clear hK K;simp only [lv15,forallC,forallL,and_true] at hEn;(try simp only [↓pb,qbs,tb15,hEg,irN,nrA,nrM,nrE,reduceIte,reduceCtorEq,nrL] at hEn);clear hEg;(try clear eg);have hEg:=hEn;clear hEn;rename Env=>eg)|((first|((with_reducible first|apply oV_intro|apply oH_intro|apply oB_intro);(simp (disch:=try exact dA) only [qcs,tb15,ev2,hEg,irN,nrA,nrM,nrE,reduceIte,reduceCtorEq,nrL];with_reducible exact rfl))|((with_reducible first|apply oblA_and|apply oblR_and|apply oblO_and);(focus exact obA))|((with_reducible apply WO_callF);(focus exact topA);(simp only [↓pb,qbs,tb15,ev2,hEg,irN,nrA,nrM,nrE,reduceIte,reduceCtorEq,nrL];exact f69 _ _ (by exact topA));(rintro vq Gq hq hJq ⟨vl,vd,rfl,Sl,Kl,Sd⟩;try simp only [upd_n,jn_n] at hq))|((with_reducible apply WO_callV);(focus exact topA);(simp only [↓pb,qbs,tb15,ev2,hEg,irN,nrA,nrM,nrE,reduceIte,reduceCtorEq,nrL];(exact f35 vl vd (exTill 1500) 0 4 2000 _ (by exact topA) Sl (.inr Kl) Sd (by decide) (by decide)));(intro Gq hq hJq;try simp only [upd_n,jn_n] at hq))|(with_reducible first|refine W_regionE lv15 [3] fun K hK=>?_|refine W_drawnE lv15 [3] fun K hK=>?_));try simp only [↓pb,↓pd,qds,tb15,ev2,hEg,irN,nrA,nrM,nrE,reduceIte,reduceCtorEq,nrL])|(((with_reducible first|apply WO_gT|apply WO_gF|apply WD_gT|apply WD_gF);exact rfl);(simp only [↓pb,qbs,tb15,ev2,hEg,irN,nrA,nrM,nrE,reduceIte,reduceCtorEq,nrL];with_reducible exact rfl);all_goals (intro hc;(first|exact hcX hc|try simp only [hcs] at hc);try ((with_reducible first|apply woI|apply wdI);simp only [↓pb,↓pd,qds,tb15,ev2,hc,hEg,irN,nrA,nrM,nrE,reduceIte,reduceCtorEq,nrL])))|(with_reducible first|refine W_seq ?_|refine W_ret ?_)|fail)
 refine W_gen (N:=H.n) (X:=[]) (h0:=H) Top (by exact frA) (by exact topA) fun h2 hF2 hT2=>?_
 have n2:=hF2.n
 have ST:SR ((h2.upd (h2.n + 1) h2.n (.cells (exTags.flatMap eTag) 77 .ex)).upd (h2.n + 2) (h2.n + 1) (.cells (exReads.map .string) 9 .ex)) 2 exTags.length (.slice (some ⟨h2.n,0,none⟩) 3 3) (exTags.flatMap eTag):=(SR.new rfl).fr0 (N:=0) (by exact frA)
 have KT:SK ((h2.upd (h2.n + 1) h2.n (.cells (exTags.flatMap eTag) 77 .ex)).upd (h2.n + 2) (h2.n + 1) (.cells (exReads.map .string) 9 .ex)) 2 (.slice (some ⟨h2.n,0,none⟩) 3 3):=⟨exTags.flatMap eTag,77,.ex,(upd_get_ne (by show h2.n≠h2.n + 1;omega)).trans upd_get_same,fun _ _ _ q=>(by cases q)⟩
 have SD:SR ((h2.upd (h2.n + 1) h2.n (.cells (exTags.flatMap eTag) 77 .ex)).upd (h2.n + 2) (h2.n + 1) (.cells (exReads.map .string) 9 .ex)) 1 exReads.length (.slice (some ⟨h2.n + 1,0,none⟩) 2 2) (exReads.map .string):=SR.new rfl
 have hls:∀ i,i < exTags.length→(exTags.getD i default).Code.size < 1000000:=by decide
 repeat' (first|((with_reducible refine hK _ _ fun e2 hEn=>?_);clear hK K;simp only [lv15,forallC,forallL,and_true] at hEn;(try simp only [↓pb,qbs,tb15,hEg,irN,nrA,nrM,nrE,reduceIte,reduceCtorEq,nrL] at hEn);clear hEg;(try clear eg);have hEg:=hEn;clear hEn;rename Env=>eg)|((first|((with_reducible first|apply oV_intro|apply oH_intro|apply oB_intro);(simp (disch:=try exact dA) only [qcs,tb15,ev3,hEg,irN,nrA,nrM,nrE,reduceIte,reduceCtorEq,nrL];with_reducible exact rfl))|((with_reducible first|apply oblA_and|apply oblR_and|apply oblO_and);(focus exact obA))|((with_reducible apply WO_callF);(focus exact topA);(simp only [↓pb,qbs,tb15,ev3,hEg,irN,nrA,nrM,nrE,reduceIte,reduceCtorEq,nrL];exact f41 _ _ exTags exReads _ (by exact topA) ST (by decide) hls SD (by decide) (.inr KT));(rintro vq Gq hq hJq ⟨vp,gg,rfl,G,hgg⟩;try simp only [upd_n,jn_n] at hq))|((with_reducible apply WO_callE);(simp only [↓pb,qbs,tb15,ev3,hEg,irN,nrA,nrM,nrE,reduceIte,reduceCtorEq,nrL];(exact f70 _ (by exact topA))))|(with_reducible first|refine W_regionE lv15 [4] fun K hK=>?_|refine W_drawnE lv15 [4] fun K hK=>?_));try simp only [↓pb,↓pd,qds,tb15,ev3,hEg,irN,nrA,nrM,nrE,reduceIte,reduceCtorEq,nrL])|(((with_reducible first|apply WO_gT|apply WO_gF|apply WD_gT|apply WD_gF);exact rfl);(simp only [↓pb,qbs,tb15,ev3,hEg,irN,nrA,nrM,nrE,reduceIte,reduceCtorEq,nrL];with_reducible exact rfl);all_goals (intro hc;(first|exact hcX hc|try simp only [hcs] at hc);try ((with_reducible first|apply woI|apply wdI);simp only [↓pb,↓pd,qds,tb15,ev3,hc,hEg,irN,nrA,nrM,nrE,reduceIte,reduceCtorEq,nrL])))|(with_reducible first|refine W_seq ?_|refine W_ret ?_)|fail)
 rw [ev3] at G
 refine W_gen (N:=H.n) (X:=[]) (h0:=H) (fun h=>Top h∧SR h 1 1 vp (ints [1])) (by exact frA) ⟨by exact topA,G.sr⟩ ?_
 rintro h3 hF3 ⟨hT3,S3⟩
 have n3:=hF3.n
 repeat' (first|((with_reducible refine hK _ _ fun e2 hEn=>?_);clear hK K;simp only [lv15,forallC,forallL,and_true] at hEn;(try simp only [↓pb,qbs,tb15,hEg,irN,nrA,nrM,nrE,reduceIte,reduceCtorEq,nrL] at hEn);clear hEg;(try clear eg);have hEg:=hEn;clear hEn;rename Env=>eg)|((first|((with_reducible first|apply oV_intro|apply oH_intro|apply oB_intro);(simp (disch:=try exact dA) only [qcs,tb15,ev4,hEg,irN,nrA,nrM,nrE,reduceIte,reduceCtorEq,nrL];with_reducible exact rfl))|((with_reducible first|apply oblA_and|apply oblR_and|apply oblO_and);(focus exact obA))|((with_reducible apply WO_callF);(focus exact topA);(simp only [↓pb,qbs,tb15,ev4,hEg,irN,nrA,nrM,nrE,reduceIte,reduceCtorEq,nrL];exact f71 30 _ (by exact topA));(rintro vq Gq hq hJq ⟨vs,rfl,Sh⟩;try simp only [upd_n,jn_n] at hq))|((with_reducible apply WO_callF);(focus exact topA);(simp only [↓pb,qbs,tb15,ev4,hEg,irN,nrA,nrM,nrE,reduceIte,reduceCtorEq,nrL];exact f58 vs (exHedge 30) _ (by exact topA) Sh (by decide));(rintro vq Gq hq hJq ⟨vq,rfl,Sp⟩;try simp only [upd_n,jn_n] at hq))|(with_reducible first|refine W_regionE lv15 [5] fun K hK=>?_|refine W_drawnE lv15 [5] fun K hK=>?_));try simp only [↓pb,↓pd,qds,tb15,ev4,hEg,irN,nrA,nrM,nrE,reduceIte,reduceCtorEq,nrL])|(((with_reducible first|apply WO_gT|apply WO_gF|apply WD_gT|apply WD_gF);exact rfl);(simp only [↓pb,qbs,tb15,ev4,hEg,irN,nrA,nrM,nrE,reduceIte,reduceCtorEq,nrL];with_reducible exact rfl);all_goals (intro hc;(first|exact hcX hc|try simp only [hcs] at hc);try ((with_reducible first|apply woI|apply wdI);simp only [↓pb,↓pd,qds,tb15,ev4,hc,hEg,irN,nrA,nrM,nrE,reduceIte,reduceCtorEq,nrL])))|(with_reducible first|refine W_seq ?_|refine W_ret ?_)|fail)
 rw [ev4] at Sp
 refine W_gen (N:=H.n) (X:=[]) (h0:=H) (fun h=>Top h∧SR h 1 1 vp (ints [1])∧SR h 1 3 vq (ints [4,6,5])) (by exact frA) ⟨by exact topA,S3.fr0 (N:=H.n) (by exact frA),Sp⟩ ?_
 rintro h4 hF4 ⟨hT4,S4,U4⟩
 obtain ⟨vw,hvw⟩:∃ x,x=vq:=⟨_,rfl⟩
 rw [← hvw] at U4 hEg
 have n4:=hF4.n
 repeat' (first|((with_reducible refine hK _ _ fun e2 hEn=>?_);clear hK K;simp only [lv15,forallC,forallL,and_true] at hEn;(try simp only [↓pb,qbs,tb15,hEg,irN,nrA,nrM,nrE,reduceIte,reduceCtorEq,nrL] at hEn);clear hEg;(try clear eg);have hEg:=hEn;clear hEn;rename Env=>eg)|((first|((with_reducible first|apply oV_intro|apply oH_intro|apply oB_intro);(simp (disch:=try exact dA) only [qcs,tb15,ev5,vVal,hEg,irN,nrA,nrM,nrE,reduceIte,reduceCtorEq,nrL];with_reducible exact rfl))|((with_reducible first|apply oblA_and|apply oblR_and|apply oblO_and);(focus exact obA))|((with_reducible apply WO_callF);(focus exact topA);(simp only [↓pb,qbs,tb15,ev5,vVal,hEg,irN,nrA,nrM,nrE,reduceIte,reduceCtorEq,nrL];exact f72 _ (by exact topA));(rintro vq Gq hq hJq Sx;try simp only [upd_n,jn_n] at hq))|((with_reducible apply WO_callE);(simp only [↓pb,qbs,tb15,ev5,vVal,hEg,irN,nrA,nrM,nrE,reduceIte,reduceCtorEq,nrL];(exact E_or (f22 _ exFixes 12 1000 1500 900 _ (Sx.fr0 (N:=H.n) (by exact frA)) (by decide)))))|((with_reducible apply WO_callV);(focus exact topA);(simp only [↓pb,qbs,tb15,ev5,vVal,hEg,irN,nrA,nrM,nrE,reduceIte,reduceCtorEq,nrL];(exact f26 _ _ _ (by exact topA)));(intro Gq hq hJq;try simp only [upd_n,jn_n] at hq))|(with_reducible first|refine W_regionE lv15 [6] fun K hK=>?_));try simp only [↓pb,↓pd,qds,tb15,ev5,vVal,hEg,irN,nrA,nrM,nrE,reduceIte,reduceCtorEq,nrL])|(((with_reducible first|apply WO_gT|apply WO_gF|apply WD_gT|apply WD_gF);exact rfl);(simp only [↓pb,qbs,tb15,ev5,vVal,hEg,irN,nrA,nrM,nrE,reduceIte,reduceCtorEq,nrL];with_reducible exact rfl);all_goals (intro hc;(first|exact hcX hc|try simp only [hcs] at hc);try ((with_reducible first|apply woI|apply wdI);simp only [↓pb,↓pd,qds,tb15,ev5,vVal,hc,hEg,irN,nrA,nrM,nrE,reduceIte,reduceCtorEq,nrL])))|(with_reducible first|refine W_seq ?_|refine W_ret ?_)|fail)
 refine W_gen (N:=H.n) (X:=[]) (h0:=H) (fun h=>Top h∧SR h 1 1 vp (ints [1])∧SR h 1 3 vw (ints [4,6,5])∧h.rd Gq.n=some [iv 189000,iv 283500]∧Gq.n < h.n) (by exact frA) ⟨by exact topA,S4.fr0 (N:=H.n) (by exact frA),U4.fr0 (N:=H.n) (by exact frA),by rw [rd_def,upd_get_same];rfl,Nat.lt_succ_self _⟩ ?_
 rintro h5 hF5 ⟨hT5,S5,U5,r5,n5⟩
 have m5:=hF5.n
 generalize Gq.n=b at *
 repeat' (first|((with_reducible refine hK _ _ fun e2 hEn=>?_);clear hK K;simp only [lv15,forallC,forallL,and_true] at hEn;(try simp only [↓pb,qbs,tb15,hEg,irN,nrA,nrM,nrE,reduceIte,reduceCtorEq,nrL] at hEn);clear hEg;(try clear eg);have hEg:=hEn;clear hEn;rename Env=>eg)|((first|((with_reducible first|apply oV_intro|apply oH_intro|apply oB_intro);(simp (disch:=try exact dA) only [qcs,tb15,r5,hEg,irN,nrA,nrM,nrE,reduceIte,reduceCtorEq,nrL];with_reducible exact rfl))|((with_reducible first|apply oblA_and|apply oblR_and|apply oblO_and);(focus exact obA))|((with_reducible apply WO_callE);(simp only [↓pb,qbs,tb15,r5,hEg,irN,nrA,nrM,nrE,reduceIte,reduceCtorEq,nrL];(first|exact f45 vp _ [1] [1] _ (by exact topA) (S5.fr0 (N:=0) (by exact frA)) (SR.new rfl) (by decide)|exact f45 vw _ [4,6,5] [4,6,5] _ (by exact topA) (U5.fr0 (N:=0) (by exact frA)) (SR.new rfl) (by decide))))|((with_reducible apply WO_callV);(focus exact topA);(simp only [↓pb,qbs,tb15,r5,hEg,irN,nrA,nrM,nrE,reduceIte,reduceCtorEq,nrL];(exact f26 _ _ _ (by exact topA)));(intro Gq hq hJq;try simp only [upd_n,jn_n] at hq))|(with_reducible first|refine W_regionF lv15 fun K hK=>?_|refine W_drawnF lv15 fun K hK=>?_));try simp only [↓pb,↓pd,qds,tb15,r5,hEg,irN,nrA,nrM,nrE,reduceIte,reduceCtorEq,nrL])|(((with_reducible first|apply WO_gT|apply WO_gF|apply WD_gT|apply WD_gF);exact rfl);(simp only [↓pb,qbs,tb15,r5,hEg,irN,nrA,nrM,nrE,reduceIte,reduceCtorEq,nrL];with_reducible exact rfl);all_goals (intro hc;(first|exact hcX hc|try simp only [hcs] at hc);try ((with_reducible first|apply woI|apply wdI);simp only [↓pb,↓pd,qds,tb15,r5,hc,hEg,irN,nrA,nrM,nrE,reduceIte,reduceCtorEq,nrL])))|(with_reducible first|refine W_seq ?_|refine W_ret ?_)|fail)
 refine ⟨by first|exact .inl rfl|exact .inr rfl, ?_⟩
 rw [ret1 Try.results15]
 simp only [↓pb,qbs,tb15,rv_tmp,rv_cell,hEg,irN,nrA,nrM,nrE,reduceIte,reduceCtorEq,nrL]
 repeat ((with_reducible apply oV_intro);(simp (disch:=try exact dA) only [qcs,tb15,hEg,irN,nrA,nrM,nrE,reduceIte,reduceCtorEq,nrL];exact rfl))
 exact ⟨rfl,by exact frA⟩

end Go.Proofs.Swa
