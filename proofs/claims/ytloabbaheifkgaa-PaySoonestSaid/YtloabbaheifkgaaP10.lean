/- Part 10 of a proof. -/
import Derived.Test.YtloabbaheifkgaaP09
set_option maxRecDepth 20000
set_option linter.unusedVariables false
set_option linter.unusedSimpArgs false
namespace Go.Proofs.Swa
open Go
open Nat renaming reduceAdd → nrA, reduceMul → nrM, reduceEqDiff → nrE, reduceLT → nrL
open Int renaming reduceToNat → irN
attribute [local congr] WO_congr oV_congr oB_congr oH_congr WD_congr oblO_congr oblA_congr oblR_congr
theorem E_or {f:FuncId} {args:Array Value} {H:AHeap} {v:Value} (h:OrC Try.prog f args H v H):∃ v' H',C8 (.fn f) args H v' H'∧v'=v∧H'=H:=⟨v,H,Cl.or h,rfl,rfl⟩
theorem f88e (vr:Value) (R:List ByteArray) (H:AHeap) (S:SR H 1 R.length vr (R.map .string)) (h:0 < R.length∧R.length < 1000000∧(∀ i,i < R.length→(R.getD i default).size=(R.getD 0 default).size)∧(R.getD 0 default).size < 1000000) :
  OrC Try.prog 88 #[vr] H (.tuple #[.string (readP R),.bool (mergedP R).isSome]) H:=by
 rw [← mVal_eq]
 exact f88 vr R H S h.1 h.2.1 h.2.2.1 h.2.2.2
theorem mem_at {α:Type} [Inhabited α] {l:List α} {p:α→Prop} (h:∀ x,x∈l→p x) (i:Nat) (hi:i < l.length):p (l.getD i default):=by
 rw [List.getD_eq_getElem?_getD,List.getElem?_eq_getElem hi]
 exact h _ (List.getElem_mem hi)
theorem f118 (o t:Tag) (bp:Nat) (H:AHeap) (hT:Top H) (hb:bp < H.n) (hx:H.rd bp=some (eTag t)):∃ v H',C8 (.fn 118) #[.agg ⟨eTag o⟩,vptr bp 0] H v H'∧v=.bool (decide (o.Code=t.Code))∧Fr H.n [] H H':=by
 rw [eTag] at hx
 refine Cl.ofW Try.func118 rfl (by kernel_rfl) (by rw [Try.ntmps118];exact Nat.le_of_ble_eq_true rfl) (by kernel_rfl) ?_
 have hEg:True:=trivial
 refine gcW [0,1] ?_
 intro eg hEn
 simp only [forallC,forallL,and_true] at hEn
 try simp only [↓pb,qbs,tb118,eTag,hx,bop_str,hEg,irN,nrA,nrM,nrE,reduceIte,reduceCtorEq,nrL] at hEn
 replace hEg:=hEn;clear hEn
 repeat' (first|((with_reducible refine hK _ _ fun e2 hEn=>?_);clear hK K;simp only [lv118,forallC,forallL,and_true] at hEn;(try simp only [↓pb,qbs,tb118,eTag,hx,bop_str,hEg,irN,nrA,nrM,nrE,reduceIte,reduceCtorEq,nrL] at hEn);clear hEg;(try clear eg);have hEg:=hEn;clear hEn;rename Env=>eg)|((first|((with_reducible first|apply oV_intro|apply oH_intro|apply oB_intro);(simp (disch:=try exact dA) only [qcs,tb118,eTag,hx,bop_str,hEg,irN,nrA,nrM,nrE,reduceIte,reduceCtorEq,nrL];with_reducible exact rfl))|(with_reducible first|refine W_regionF lv118 fun K hK=>?_));try simp only [↓pb,↓pd,qds,tb118,eTag,hx,bop_str,hEg,irN,nrA,nrM,nrE,reduceIte,reduceCtorEq,nrL])|(with_reducible first|refine W_seq ?_|refine W_ret ?_)|fail)
 refine ⟨by first|exact .inl rfl|exact .inr rfl, ?_⟩
 rw [ret1 Try.results118]
 simp only [↓pb,qbs,tb118,eTag,hx,bop_str,rv_tmp,rv_cell,hEg,irN,nrA,nrM,nrE,reduceIte,reduceCtorEq,nrL]
 repeat ((with_reducible apply oV_intro);(simp (disch:=try exact dA) only [qcs,tb118,eTag,hx,bop_str,hEg,irN,nrA,nrM,nrE,reduceIte,reduceCtorEq,nrL];exact rfl))
 exact frA
theorem f127 (vl:Value) (l:List Tag) (t:Tag) (bp:Nat) (H:AHeap) (hT:Top H) (S:SR H 2 l.length vl (l.flatMap eTag)) (hl:l.length < 1000000) (hb:bp < H.n) (hx:H.rd bp=some (eTag t)) :
  ∃ v H',C8 (.fn 127) #[vl,.func (.func 118) #[] #[vptr bp 0]] H v H'∧(∃ i:Int,v=iv i∧(0≤i↔l.any (fun o=>decide (o.Code=t.Code))=true))∧Fr H.n [] H H':=by
 have so:=S.one
 refine Cl.ofW Try.func127 rfl (by kernel_rfl) (by rw [Try.ntmps127];exact Nat.le_of_ble_eq_true rfl) (by kernel_rfl) ?_
 have hEg:True:=trivial
 refine gcW [0,1] ?_
 intro eg hEn
 simp only [forallC,forallL,and_true] at hEn
 try simp only [↓pb,qbs,tb127,so,so.1,so.2,lns62 S,hEg,irN,nrA,nrM,nrE,reduceIte,reduceCtorEq,nrL] at hEn
 replace hEg:=hEn;clear hEn
 repeat' (first|((with_reducible refine hK _ _ fun e2 hEn=>?_);clear hK K;simp only [lv127,forallC,forallL,and_true] at hEn;(try simp only [↓pb,qbs,tb127,so,so.1,so.2,lns62 S,hEg,irN,nrA,nrM,nrE,reduceIte,reduceCtorEq,nrL] at hEn);clear hEg;(try clear eg);have hEg:=hEn;clear hEn;rename Env=>eg)|((first|((with_reducible first|apply oV_intro|apply oH_intro|apply oB_intro);(simp (disch:=try exact dA) only [qcs,tb127,so,so.1,so.2,lns62 S,hEg,irN,nrA,nrM,nrE,reduceIte,reduceCtorEq,nrL];with_reducible exact rfl))|(with_reducible first|refine W_regionF lv127 fun K hK=>?_));try simp only [↓pb,↓pd,qds,tb127,so,so.1,so.2,lns62 S,hEg,irN,nrA,nrM,nrE,reduceIte,reduceCtorEq,nrL])|((with_reducible apply W_cond);(simp only [↓pb,qbs,tb127,so,so.1,so.2,lns62 S,hEg,irN,nrA,nrM,nrE,reduceIte,reduceCtorEq,nrL];with_reducible exact rfl);all_goals (intro hc;(first|exact hcX hc|try simp only [hcs] at hc)))|(with_reducible first|refine W_seq ?_|refine W_block ?_|refine W_skip ?_|refine W_ret ?_|refine W_exit ?_|apply blockK_exit)|((with_reducible apply blockK_pass);(focus decide))|fail)
 refine W_count [0,1,7] (by kernel_rfl) 8 (l.length) (H.n) [] [] (fun i e h=>(l.take i).any (fun o=>decide (o.Code=t.Code))=false) (by simp only [↓pb,qbs,tb127,so,so.1,so.2,lns62 S,hEg,irN,nrA,nrM,nrE,reduceIte,reduceCtorEq,nrL]) (by focus exact topA) (H0:=H) (by focus exact frA) (by intro b hb hlt;simp at hb ⊢;try omega) ?_ ?_
 rotate_left
 intro i1 e1 h1 hi1 hE1 ei1 hF1 hF01 hTh1 hJ1
 simp only [forallC,forallL,and_true] at hE1
 try simp only [↓pb,qbs,tb127,so,so.1,so.2,lns62 S,hEg,irN,nrA,nrM,nrE,reduceIte,reduceCtorEq,nrL] at hE1
 have hn11:=hF1.n;have hn01:=hF01.n;try simp only [upd_n,jn_n] at hn11
 replace hEg:=And.intro ei1 hE1
 rotate_left
 ·rfl
 have S1:=S.fr0 hF01
 have l1:=S1.lt
 have e0:=S1.el eTag_len rfl
 have hx1:h1.rd bp=some (eTag t):=by rw [rd_def,hF01.old _ hb (by simp),← rd_def];exact hx
 by_cases hi:i1 < l.length
 ·have ht:(l.take (i1 + 1)).any (fun o=>decide (o.Code=t.Code))=((l.take i1).any (fun o=>decide (o.Code=t.Code)) || decide ((l.getD i1 default).Code=t.Code)):=by rw [take_getD hi,List.any_append];simp
  repeat' (first|((with_reducible refine hK _ _ fun e2 hEn=>?_);clear hK K;simp only [lv127,forallC,forallL,and_true] at hEn;(try simp only [↓pb,qbs,tb127,so,so.1,so.2,lns62 S,hEg,irN,nrA,nrM,nrE,reduceIte,reduceCtorEq,nrL] at hEn);clear hEg;(try clear eg);have hEg:=hEn;clear hEn;rename Env=>eg)|((first|((with_reducible first|apply oV_intro|apply oH_intro|apply oB_intro);(simp (disch:=try exact dA) only [qcs,tb127,so,so.1,so.2,lns62 S,ias62 S1,S1.rd,e0,hEg,irN,nrA,nrM,nrE,reduceIte,reduceCtorEq,nrL];with_reducible exact rfl))|((with_reducible apply WO_callV);(focus exact topA);(simp only [↓pb,qbs,tb127,so,so.1,so.2,lns62 S,ias62 S1,S1.rd,e0,hEg,irN,nrA,nrM,nrE,reduceIte,reduceCtorEq,nrL];(exact f118 (l.getD i1 default) t bp _ (by exact topA) (by omega) hx1));(intro Gq hq hJq;try simp only [upd_n,jn_n] at hq))|(with_reducible first|refine W_regionF lv127 fun K hK=>?_));try simp only [↓pb,↓pd,qds,tb127,so,so.1,so.2,lns62 S,ias62 S1,S1.rd,e0,hEg,irN,nrA,nrM,nrE,reduceIte,reduceCtorEq,nrL])|((with_reducible apply W_cond);(simp only [↓pb,qbs,tb127,so,so.1,so.2,lns62 S,ias62 S1,S1.rd,e0,hEg,irN,nrA,nrM,nrE,reduceIte,reduceCtorEq,nrL];with_reducible exact rfl);all_goals (intro hc;(first|exact hcX hc|try simp only [hcs] at hc)))|(with_reducible first|refine W_seq ?_|refine W_block ?_|refine W_skip ?_|refine W_ret ?_|refine W_exit ?_|apply blockK_exit)|((with_reducible apply blockK_pass);(focus decide))|fail)
  ·refine ⟨by first|exact .inl rfl|exact .inr rfl, ?_⟩
   rw [ret1 Try.results127]
   simp only [↓pb,qbs,tb127,so,so.1,so.2,lns62 S,rv_tmp,rv_cell,hEg,irN,nrA,nrM,nrE,reduceIte,reduceCtorEq,nrL]
   repeat ((with_reducible apply oV_intro);(simp (disch:=try exact dA) only [qcs,tb127,so,so.1,so.2,lns62 S,hEg,irN,nrA,nrM,nrE,reduceIte,reduceCtorEq,nrL];exact rfl))
   refine ⟨⟨i1,rfl,fun _=>?_,fun _=>by omega⟩,by exact frA⟩
   rw [← List.take_append_drop (i1 + 1) l,List.any_append,ht,decide_eq_true hc]
   simp
  ·refine ⟨by omega,by simp only [↓pb,qbs,tb127,so,so.1,so.2,lns62 S,hEg,irN,nrA,nrM,nrE,reduceIte,reduceCtorEq,nrL];exact congrArg _ (inc64 (by omega)),by focus exact frA, ?_⟩
   rw [ht,hJ1,decide_eq_false hc]
   rfl
 ·have ei:i1=l.length:=by omega
  subst ei
  rw [List.take_length] at hJ1
  repeat' (first|((with_reducible refine hK _ _ fun e2 hEn=>?_);clear hK K;simp only [lv127,forallC,forallL,and_true] at hEn;(try simp only [↓pb,qbs,tb127,so,so.1,so.2,lns62 S,hEg,irN,nrA,nrM,nrE,reduceIte,reduceCtorEq,nrL] at hEn);clear hEg;(try clear eg);have hEg:=hEn;clear hEn;rename Env=>eg)|((first|((with_reducible first|apply oV_intro|apply oH_intro|apply oB_intro);(simp (disch:=try exact dA) only [qcs,tb127,so,so.1,so.2,lns62 S,hEg,irN,nrA,nrM,nrE,reduceIte,reduceCtorEq,nrL];with_reducible exact rfl))|(with_reducible first|refine W_regionF lv127 fun K hK=>?_));try simp only [↓pb,↓pd,qds,tb127,so,so.1,so.2,lns62 S,hEg,irN,nrA,nrM,nrE,reduceIte,reduceCtorEq,nrL])|((with_reducible apply W_cond);(simp only [↓pb,qbs,tb127,so,so.1,so.2,lns62 S,hEg,irN,nrA,nrM,nrE,reduceIte,reduceCtorEq,nrL];with_reducible exact rfl);all_goals (intro hc;(first|exact hcX hc|try simp only [hcs] at hc)))|(with_reducible first|refine W_seq ?_|refine W_block ?_|refine W_skip ?_|refine W_ret ?_|refine W_exit ?_|apply blockK_exit)|((with_reducible apply blockK_pass);(focus decide))|fail)
  refine ⟨by first|exact .inl rfl|exact .inr rfl, ?_⟩
  rw [ret1 Try.results127]
  simp only [↓pb,qbs,tb127,so,so.1,so.2,lns62 S,rv_tmp,rv_cell,hEg,irN,nrA,nrM,nrE,reduceIte,reduceCtorEq,nrL]
  repeat ((with_reducible apply oV_intro);(simp (disch:=try exact dA) only [qcs,tb127,so,so.1,so.2,lns62 S,hEg,irN,nrA,nrM,nrE,reduceIte,reduceCtorEq,nrL];exact rfl))
  refine ⟨⟨-1,rfl,fun q=>by omega,fun q=>?_⟩,hF01⟩
  rw [hJ1] at q
  cases q
theorem f117 (vl:Value) (l:List Tag) (t:Tag) (bp:Nat) (H:AHeap) (hT:Top H) (S:SR H 2 l.length vl (l.flatMap eTag)) (hl:l.length < 1000000) (hb:bp < H.n) (hx:H.rd bp=some (eTag t)) :
  ∃ v H',C8 (.fn 117) #[vl,.func (.func 118) #[] #[vptr bp 0]] H v H'∧v=.bool (l.any fun o=>decide (o.Code=t.Code))∧Fr H.n [] H H':=by
 have so:=S.one
 refine Cl.ofW Try.func117 rfl (by kernel_rfl) (by rw [Try.ntmps117];exact Nat.le_of_ble_eq_true rfl) (by kernel_rfl) ?_
 have hEg:True:=trivial
 refine gcW [0,1] ?_
 intro eg hEn
 simp only [forallC,forallL,and_true] at hEn
 try simp only [↓pb,qbs,tb117,so,so.1,so.2,hEg,irN,nrA,nrM,nrE,reduceIte,reduceCtorEq,nrL] at hEn
 replace hEg:=hEn;clear hEn
 repeat' (first|((with_reducible refine hK _ _ fun e2 hEn=>?_);clear hK K;simp only [lv117,forallC,forallL,and_true] at hEn;(try simp only [↓pb,qbs,tb117,so,so.1,so.2,hEg,irN,nrA,nrM,nrE,reduceIte,reduceCtorEq,nrL] at hEn);clear hEg;(try clear eg);have hEg:=hEn;clear hEn;rename Env=>eg)|((first|((with_reducible first|apply oV_intro|apply oH_intro|apply oB_intro);(simp (disch:=try exact dA) only [qcs,tb117,so,so.1,so.2,hEg,irN,nrA,nrM,nrE,reduceIte,reduceCtorEq,nrL];with_reducible exact rfl))|((with_reducible apply WO_callF);(focus exact topA);(simp only [↓pb,qbs,tb117,so,so.1,so.2,hEg,irN,nrA,nrM,nrE,reduceIte,reduceCtorEq,nrL];exact f127 vl l t bp _ (by exact topA) S hl hb hx);(rintro vq Gq hq hJq ⟨i,rfl,hi⟩;try simp only [upd_n,jn_n] at hq))|(with_reducible first|refine W_regionF lv117 fun K hK=>?_));try simp only [↓pb,↓pd,qds,tb117,so,so.1,so.2,hEg,irN,nrA,nrM,nrE,reduceIte,reduceCtorEq,nrL])|(with_reducible first|refine W_seq ?_|refine W_ret ?_)|fail)
 refine ⟨by first|exact .inl rfl|exact .inr rfl, ?_⟩
 rw [ret1 Try.results117]
 simp only [↓pb,qbs,tb117,so,so.1,so.2,rv_tmp,rv_cell,hEg,irN,nrA,nrM,nrE,reduceIte,reduceCtorEq,nrL]
 repeat ((with_reducible apply oV_intro);(simp (disch:=try exact dA) only [qcs,tb117,so,so.1,so.2,hEg,irN,nrA,nrM,nrE,reduceIte,reduceCtorEq,nrL];exact rfl))
 refine ⟨?_,by exact frA⟩
 congr 1
 cases hq:l.any (fun o=>decide (o.Code=t.Code)) with
 | true=>exact decide_eq_true (hi.2 hq)
 | false=>exact decide_eq_false fun q=>by rw [hi.1 q] at hq;cases hq
theorem f87 (vl vr:Value) (l:List Tag) (R:List ByteArray) (H:AHeap) (hT:Top H) (S:SR H 2 l.length vl (l.flatMap eTag)) (hk:l.length=0∨SK H 2 vl) (hl:l.length < 1000000)
  (SRd:SR H 1 R.length vr (R.map .string)) (hR:R.length < 1000000) :
  ∃ v H',C8 (.fn 87) #[vl,vr] H v H'∧v=iv (goodsErr l R)∧Fr H.n [] H H':=by
 have so:=S.one
 have sr:=SRd.one
 refine Cl.ofW Try.func87 rfl (by kernel_rfl) (by rw [Try.ntmps87];exact Nat.le_of_ble_eq_true rfl) (by kernel_rfl) ?_
 have hEg:True:=trivial
 refine gcW [0,1] ?_
 intro eg hEn
 simp only [forallC,forallL,and_true] at hEn
 try simp only [↓pb,qbs,tb87,so,so.1,so.2,sr,sr.1,sr.2,lns62 S,lns63 SRd,Option.map_none,Option.map_some,hEg,irN,nrA,nrM,nrE,reduceIte,reduceCtorEq,nrL] at hEn
 replace hEg:=hEn;clear hEn
 repeat' (first|((with_reducible refine hK _ _ fun e2 hEn=>?_);clear hK K;simp only [lv87,forallC,forallL,and_true] at hEn;(try simp only [↓pb,qbs,tb87,so,so.1,so.2,sr,sr.1,sr.2,lns62 S,lns63 SRd,Option.map_none,Option.map_some,hEg,irN,nrA,nrM,nrE,reduceIte,reduceCtorEq,nrL] at hEn);clear hEg;(try clear eg);have hEg:=hEn;clear hEn;rename Env=>eg)|((first|((with_reducible first|apply oV_intro|apply oH_intro|apply oB_intro);(simp (disch:=try exact dA) only [qcs,tb87,so,so.1,so.2,sr,sr.1,sr.2,lns62 S,lns63 SRd,Option.map_none,Option.map_some,hEg,irN,nrA,nrM,nrE,reduceIte,reduceCtorEq,nrL];with_reducible exact rfl))|(with_reducible first|refine W_regionF lv87 fun K hK=>?_));try simp only [↓pb,↓pd,qds,tb87,so,so.1,so.2,sr,sr.1,sr.2,lns62 S,lns63 SRd,Option.map_none,Option.map_some,hEg,irN,nrA,nrM,nrE,reduceIte,reduceCtorEq,nrL])|((first|((with_reducible first|apply WO_gT|apply WO_gF);exact rfl)|(with_reducible apply W_cond));(simp only [↓pb,qbs,tb87,so,so.1,so.2,sr,sr.1,sr.2,lns62 S,lns63 SRd,Option.map_none,Option.map_some,hEg,irN,nrA,nrM,nrE,reduceIte,reduceCtorEq,nrL];with_reducible exact rfl);all_goals (intro hc;(first|exact hcX hc|try simp only [hcs] at hc);try ((with_reducible apply woI);simp only [↓pb,↓pd,qds,tb87,so,so.1,so.2,sr,sr.1,sr.2,lns62 S,lns63 SRd,Option.map_none,Option.map_some,hc,hEg,irN,nrA,nrM,nrE,reduceIte,reduceCtorEq,nrL])))|((with_reducible apply WO_gU);exact rfl;(focus (simp only [↓pb,qbs,tb87,so,so.1,so.2,sr,sr.1,sr.2,lns62 S,lns63 SRd,Option.map_none,Option.map_some,hEg,irN,nrA,nrM,nrE,reduceIte,reduceCtorEq,nrL];done));try simp only [↓pb,↓pd,qds,tb87,so,so.1,so.2,sr,sr.1,sr.2,lns62 S,lns63 SRd,Option.map_none,Option.map_some,hEg,irN,nrA,nrM,nrE,reduceIte,reduceCtorEq,nrL])|(with_reducible first|refine W_seq ?_|refine W_block ?_|refine W_skip ?_|refine W_ret ?_|refine W_exit ?_|apply blockK_exit)|((with_reducible apply blockK_pass);(focus decide))|fail)
 ·refine ⟨by first|exact .inl rfl|exact .inr rfl, ?_⟩
  rw [ret1 Try.results87]
  simp only [↓pb,qbs,tb87,so,so.1,so.2,sr,sr.1,sr.2,lns62 S,lns63 SRd,Option.map_none,Option.map_some,rv_tmp,rv_cell,hEg,irN,nrA,nrM,nrE,reduceIte,reduceCtorEq,nrL]
  repeat ((with_reducible apply oV_intro);(simp (disch:=try exact dA) only [qcs,tb87,so,so.1,so.2,sr,sr.1,sr.2,lns62 S,lns63 SRd,Option.map_none,Option.map_some,hEg,irN,nrA,nrM,nrE,reduceIte,reduceCtorEq,nrL];exact rfl))
  exact ⟨by rw [goodsErr,if_pos (by omega)],Fr.refl H⟩
 have hE0:goodsErr l R=if tagsErr [] l≠0 then tagsErr [] l else if R.length=0 then 7 else if 4 < R.length then 6 else if R.all (partOk R)=false then 2 else if (mergedP R).isSome=false then 9 else 0:=by
  rw [goodsErr,if_neg (by omega)]
 refine W_count [0,1,15,16] (by kernel_rfl) 17 (l.length) (H.n) [] [] (fun i e h=>tagsErr [] l=tagsErr (l.take i) (l.drop i)) (by simp only [↓pb,qbs,tb87,so,so.1,so.2,sr,sr.1,sr.2,lns62 S,lns63 SRd,Option.map_none,Option.map_some,hEg,irN,nrA,nrM,nrE,reduceIte,reduceCtorEq,nrL]) (by focus exact topA) (H0:=H) (by focus exact frA) (by intro b hb hlt;simp at hb ⊢;try omega) ?_ ?_
 rotate_left
 intro i1 e1 h1 hi1 hE1 ei1 hF1 hF01 hTh1 hJ1
 simp only [forallC,forallL,and_true] at hE1
 try simp only [↓pb,qbs,tb87,so,so.1,so.2,sr,sr.1,sr.2,lns62 S,lns63 SRd,Option.map_none,Option.map_some,hEg,irN,nrA,nrM,nrE,reduceIte,reduceCtorEq,nrL] at hE1
 have hn11:=hF1.n;have hn01:=hF01.n;try simp only [upd_n,jn_n] at hn11
 replace hEg:=And.intro ei1 hE1
 rotate_left
 ·rfl
 have S1:=S.fr0 hF01
 have l1:=S1.lt
 by_cases hi2:i1 < l.length
 ·rw [drop_getD hi2,tagsErr,← take_getD hi2] at hJ1
  have e0:=S1.el eTag_len rfl
  have K1:SK h1 2 vl:=(hk.resolve_left (by omega)).fr hF01 (S.lt.resolve_left (by omega)) (by simp)
  have hlen:(l.take i1).length=i1:=by rw [List.length_take];omega
  generalize hx:l.getD i1 default=x at *
  have bad:∀ c:Int,c≠0→tagBad (l.take i1) x=c→goodsErr l R=c:=by
   intro c q1 q2
   have q3:tagsErr [] l=c:=by rw [hJ1,q2,if_neg q1]
   rw [hE0,q3,if_pos q1]
  repeat' (first|((with_reducible refine hK _ _ fun e2 hEn=>?_);clear hK K;simp only [lv87,forallC,forallL,and_true] at hEn;(try simp only [↓pb,qbs,tb87,so,so.1,so.2,sr,sr.1,sr.2,lns62 S,lns63 SRd,Option.map_none,Option.map_some,hEg,irN,nrA,nrM,nrE,reduceIte,reduceCtorEq,nrL] at hEn);clear hEg;(try clear eg);have hEg:=hEn;clear hEn;rename Env=>eg)|((first|((with_reducible first|apply oV_intro|apply oH_intro|apply oB_intro);(simp (disch:=try exact dA) only [qcs,tb87,so,so.1,so.2,sr,sr.1,sr.2,lns62 S,lns63 SRd,Option.map_none,Option.map_some,ias62 S1,S1.rd,e0,eTag,hx,hEg,irN,nrA,nrM,nrE,reduceIte,reduceCtorEq,nrL];with_reducible exact rfl))|((with_reducible apply WO_callE);(simp only [↓pb,qbs,tb87,so,so.1,so.2,sr,sr.1,sr.2,lns62 S,lns63 SRd,Option.map_none,Option.map_some,ias62 S1,S1.rd,e0,eTag,hx,hEg,irN,nrA,nrM,nrE,reduceIte,reduceCtorEq,nrL];(exact f75 _ _ _ _)))|((with_reducible apply WO_callV);(focus exact topA);(simp only [↓pb,qbs,tb87,so,so.1,so.2,sr,sr.1,sr.2,lns62 S,lns63 SRd,Option.map_none,Option.map_some,ias62 S1,S1.rd,e0,eTag,hx,hEg,irN,nrA,nrM,nrE,reduceIte,reduceCtorEq,nrL];(exact f116 _ 115 (.inl rfl) _ (by exact topA)));(intro Gq hq hJq;try simp only [upd_n,jn_n] at hq))|(with_reducible first|refine W_regionF lv87 fun K hK=>?_));try simp only [↓pb,↓pd,qds,tb87,so,so.1,so.2,sr,sr.1,sr.2,lns62 S,lns63 SRd,Option.map_none,Option.map_some,ias62 S1,S1.rd,e0,eTag,hx,hEg,irN,nrA,nrM,nrE,reduceIte,reduceCtorEq,nrL])|((first|((with_reducible first|apply WO_gT|apply WO_gF);exact rfl)|(with_reducible apply W_cond));(simp only [↓pb,qbs,tb87,so,so.1,so.2,sr,sr.1,sr.2,lns62 S,lns63 SRd,Option.map_none,Option.map_some,ias62 S1,S1.rd,e0,eTag,hx,hEg,irN,nrA,nrM,nrE,reduceIte,reduceCtorEq,nrL];with_reducible exact rfl);all_goals (intro hc;(first|exact hcX hc|try simp only [hcs] at hc);try ((with_reducible apply woI);simp only [↓pb,↓pd,qds,tb87,so,so.1,so.2,sr,sr.1,sr.2,lns62 S,lns63 SRd,Option.map_none,Option.map_some,ias62 S1,S1.rd,e0,eTag,hx,hc,hEg,irN,nrA,nrM,nrE,reduceIte,reduceCtorEq,nrL])))|((with_reducible apply WO_gU);exact rfl;(focus (simp only [↓pb,qbs,tb87,so,so.1,so.2,sr,sr.1,sr.2,lns62 S,lns63 SRd,Option.map_none,Option.map_some,ias62 S1,S1.rd,e0,eTag,hx,hEg,irN,nrA,nrM,nrE,reduceIte,reduceCtorEq,nrL];done));try simp only [↓pb,↓pd,qds,tb87,so,so.1,so.2,sr,sr.1,sr.2,lns62 S,lns63 SRd,Option.map_none,Option.map_some,ias62 S1,S1.rd,e0,eTag,hx,hEg,irN,nrA,nrM,nrE,reduceIte,reduceCtorEq,nrL])|(with_reducible first|refine W_seq ?_|refine W_block ?_|refine W_skip ?_|refine W_ret ?_|refine W_exit ?_|apply blockK_exit)|((with_reducible apply blockK_pass);(focus decide))|fail)
  rotate_right
  ·have S2:SR ((h1.upd (h1.n + 1) h1.n (.cells [.string x.Code,.int .i64 x.Hold] 77 .ex)).jn Gq) 2 l.length vl (l.flatMap eTag):=S1.fr0 (N:=0) (by exact frA)
   have K2:SK ((h1.upd (h1.n + 1) h1.n (.cells [.string x.Code,.int .i64 x.Hold] 77 .ex)).jn Gq) 2 vl:=K1.fr (N:=0) (X:=[]) (by exact frA) (l1.resolve_left (by omega)) (by simp)
   have sp:=slice_pre (q:=.i64) und62 sz77 S2 K2 hi1 (by omega)
   have hS:=sp.2
   rw [flat_take eTag_len] at hS
   have hS:SR ((h1.upd (h1.n + 1) h1.n (.cells [.string x.Code,.int .i64 x.Hold] 77 .ex)).jn Gq) 2 (l.take i1).length (sl vl i1) ((l.take i1).flatMap eTag):=by rw [hlen];exact hS
   have osl:=hS.one
   have htl:(l.take i1).length < 1000000:=by omega
   have hrd:((h1.upd (h1.n + 1) h1.n (.cells [.string x.Code,.int .i64 x.Hold] 77 .ex)).jn Gq).rd h1.n=some (eTag x):=by simp (disch:=try exact dA) only [qcs,tb87,so,so.1,so.2,sr,sr.1,sr.2,lns62 S,lns63 SRd,Option.map_none,Option.map_some,hEg,irN,nrA,nrM,nrE,reduceIte,reduceCtorEq,nrL];rfl
   repeat' (first|((with_reducible refine hK _ _ fun e2 hEn=>?_);clear hK K;simp only [lv87,forallC,forallL,and_true] at hEn;(try simp only [↓pb,qbs,tb87,so,so.1,so.2,sr,sr.1,sr.2,lns62 S,lns63 SRd,Option.map_none,Option.map_some,hEg,irN,nrA,nrM,nrE,reduceIte,reduceCtorEq,nrL] at hEn);clear hEg;(try clear eg);have hEg:=hEn;clear hEn;rename Env=>eg)|((first|((with_reducible first|apply oV_intro|apply oH_intro|apply oB_intro);(simp (disch:=try exact dA) only [qcs,tb87,so,so.1,so.2,sr,sr.1,sr.2,lns62 S,lns63 SRd,Option.map_none,Option.map_some,sp.1,osl,hx,Option.map_none,Option.map_some,hEg,irN,nrA,nrM,nrE,reduceIte,reduceCtorEq,nrL];with_reducible exact rfl))|((with_reducible apply WO_callV);(focus exact topA);(simp only [↓pb,qbs,tb87,so,so.1,so.2,sr,sr.1,sr.2,lns62 S,lns63 SRd,Option.map_none,Option.map_some,sp.1,osl,hx,Option.map_none,Option.map_some,hEg,irN,nrA,nrM,nrE,reduceIte,reduceCtorEq,nrL];(exact f117 (sl vl i1) (l.take i1) x h1.n _ (by exact topA) hS htl oA hrd));(intro Gq hq hJq;try simp only [upd_n,jn_n] at hq))|(with_reducible first|refine W_regionF lv87 fun K hK=>?_));try simp only [↓pb,↓pd,qds,tb87,so,so.1,so.2,sr,sr.1,sr.2,lns62 S,lns63 SRd,Option.map_none,Option.map_some,sp.1,osl,hx,Option.map_none,Option.map_some,hEg,irN,nrA,nrM,nrE,reduceIte,reduceCtorEq,nrL])|((first|((with_reducible first|apply WO_gT|apply WO_gF);exact rfl)|(with_reducible apply W_cond));(simp only [↓pb,qbs,tb87,so,so.1,so.2,sr,sr.1,sr.2,lns62 S,lns63 SRd,Option.map_none,Option.map_some,sp.1,osl,hx,Option.map_none,Option.map_some,hEg,irN,nrA,nrM,nrE,reduceIte,reduceCtorEq,nrL];with_reducible exact rfl);all_goals (intro hc;(first|exact hcX hc|try simp only [hcs] at hc);try ((with_reducible apply woI);simp only [↓pb,↓pd,qds,tb87,so,so.1,so.2,sr,sr.1,sr.2,lns62 S,lns63 SRd,Option.map_none,Option.map_some,sp.1,osl,hx,Option.map_none,Option.map_some,hc,hEg,irN,nrA,nrM,nrE,reduceIte,reduceCtorEq,nrL])))|((with_reducible apply WO_gU);exact rfl;(focus (simp only [↓pb,qbs,tb87,so,so.1,so.2,sr,sr.1,sr.2,lns62 S,lns63 SRd,Option.map_none,Option.map_some,sp.1,osl,hx,Option.map_none,Option.map_some,hEg,irN,nrA,nrM,nrE,reduceIte,reduceCtorEq,nrL];done));try simp only [↓pb,↓pd,qds,tb87,so,so.1,so.2,sr,sr.1,sr.2,lns62 S,lns63 SRd,Option.map_none,Option.map_some,sp.1,osl,hx,Option.map_none,Option.map_some,hEg,irN,nrA,nrM,nrE,reduceIte,reduceCtorEq,nrL])|(with_reducible first|refine W_seq ?_|refine W_block ?_|refine W_skip ?_|refine W_ret ?_|refine W_exit ?_|apply blockK_exit)|((with_reducible apply blockK_pass);(focus decide))|fail)
   ·refine ⟨by first|exact .inl rfl|exact .inr rfl, ?_⟩
    rw [ret1 Try.results87]
    simp only [↓pb,qbs,tb87,so,so.1,so.2,sr,sr.1,sr.2,lns62 S,lns63 SRd,Option.map_none,Option.map_some,rv_tmp,rv_cell,hEg,irN,nrA,nrM,nrE,reduceIte,reduceCtorEq,nrL]
    repeat ((with_reducible apply oV_intro);(simp (disch:=try exact dA) only [qcs,tb87,so,so.1,so.2,sr,sr.1,sr.2,lns62 S,lns63 SRd,Option.map_none,Option.map_some,hEg,irN,nrA,nrM,nrE,reduceIte,reduceCtorEq,nrL];exact rfl))
    refine ⟨?_,by exact frA⟩
    rw [bad 4 (by decide) (by rw [tagBad,if_neg (by rw [show readsP signB x.Code=true from ‹readsP (mayB 115) x.Code=true›];simp),if_neg (by omega),if_pos hc])]
   ·refine ⟨by omega,by simp only [↓pb,qbs,tb87,so,so.1,so.2,sr,sr.1,sr.2,lns62 S,lns63 SRd,Option.map_none,Option.map_some,hEg,irN,nrA,nrM,nrE,reduceIte,reduceCtorEq,nrL];exact congrArg _ (inc64 (by omega)),by focus exact frA, ?_⟩
    rw [hJ1,if_pos]
    rw [tagBad,if_neg (by rw [show readsP signB x.Code=true from ‹readsP (mayB 115) x.Code=true›];simp),if_neg (by omega),if_neg (by rw [hc];exact Bool.false_ne_true)]
  all_goals (
   refine ⟨by first|exact .inl rfl|exact .inr rfl, ?_⟩
   rw [ret1 Try.results87]
   simp only [↓pb,qbs,tb87,so,so.1,so.2,sr,sr.1,sr.2,lns62 S,lns63 SRd,Option.map_none,Option.map_some,rv_tmp,rv_cell,hEg,irN,nrA,nrM,nrE,reduceIte,reduceCtorEq,nrL]
   repeat ((with_reducible apply oV_intro);(simp (disch:=try exact dA) only [qcs,tb87,so,so.1,so.2,sr,sr.1,sr.2,lns62 S,lns63 SRd,Option.map_none,Option.map_some,hEg,irN,nrA,nrM,nrE,reduceIte,reduceCtorEq,nrL];exact rfl)))
  all_goals refine ⟨?_,by exact frA⟩
  ·rw [bad 2 (by decide) (by rw [tagBad,if_pos (show readsP signB x.Code=false from hc)])]
  ·rw [bad 1 (by decide) (by rw [tagBad,if_neg (by rw [show readsP signB x.Code=true from ‹readsP (mayB 115) x.Code=true›];simp),if_pos hc])]
 ·have e1n:i1=l.length:=by omega
  have hfe:tagsErr [] l=0:=by rw [hJ1,e1n,List.drop_length,tagsErr]
  rw [hfe,if_neg (by simp)] at hE0
  clear hJ1
  subst e1n
  have Q1:=SRd.fr0 hF01
  repeat' (first|((with_reducible refine hK _ _ fun e2 hEn=>?_);clear hK K;simp only [lv87,forallC,forallL,and_true] at hEn;(try simp only [↓pb,qbs,tb87,so,so.1,so.2,sr,sr.1,sr.2,lns62 S,lns63 SRd,Option.map_none,Option.map_some,hEg,irN,nrA,nrM,nrE,reduceIte,reduceCtorEq,nrL] at hEn);clear hEg;(try clear eg);have hEg:=hEn;clear hEn;rename Env=>eg)|((first|((with_reducible first|apply oV_intro|apply oH_intro|apply oB_intro);(simp (disch:=try exact dA) only [qcs,tb87,so,so.1,so.2,sr,sr.1,sr.2,lns62 S,lns63 SRd,Option.map_none,Option.map_some,hEg,irN,nrA,nrM,nrE,reduceIte,reduceCtorEq,nrL];with_reducible exact rfl))|(with_reducible first|refine W_regionF lv87 fun K hK=>?_));try simp only [↓pb,↓pd,qds,tb87,so,so.1,so.2,sr,sr.1,sr.2,lns62 S,lns63 SRd,Option.map_none,Option.map_some,hEg,irN,nrA,nrM,nrE,reduceIte,reduceCtorEq,nrL])|((first|((with_reducible first|apply WO_gT|apply WO_gF);exact rfl)|(with_reducible apply W_cond));(simp only [↓pb,qbs,tb87,so,so.1,so.2,sr,sr.1,sr.2,lns62 S,lns63 SRd,Option.map_none,Option.map_some,hEg,irN,nrA,nrM,nrE,reduceIte,reduceCtorEq,nrL];with_reducible exact rfl);all_goals (intro hc;(first|exact hcX hc|try simp only [hcs] at hc);try ((with_reducible apply woI);simp only [↓pb,↓pd,qds,tb87,so,so.1,so.2,sr,sr.1,sr.2,lns62 S,lns63 SRd,Option.map_none,Option.map_some,hc,hEg,irN,nrA,nrM,nrE,reduceIte,reduceCtorEq,nrL])))|((with_reducible apply WO_gU);exact rfl;(focus (simp only [↓pb,qbs,tb87,so,so.1,so.2,sr,sr.1,sr.2,lns62 S,lns63 SRd,Option.map_none,Option.map_some,hEg,irN,nrA,nrM,nrE,reduceIte,reduceCtorEq,nrL];done));try simp only [↓pb,↓pd,qds,tb87,so,so.1,so.2,sr,sr.1,sr.2,lns62 S,lns63 SRd,Option.map_none,Option.map_some,hEg,irN,nrA,nrM,nrE,reduceIte,reduceCtorEq,nrL])|(with_reducible first|refine W_seq ?_|refine W_block ?_|refine W_skip ?_|refine W_ret ?_|refine W_exit ?_|apply blockK_exit)|((with_reducible apply blockK_pass);(focus decide))|fail)
  ·refine ⟨by first|exact .inl rfl|exact .inr rfl, ?_⟩
   rw [ret1 Try.results87]
   simp only [↓pb,qbs,tb87,so,so.1,so.2,sr,sr.1,sr.2,lns62 S,lns63 SRd,Option.map_none,Option.map_some,rv_tmp,rv_cell,hEg,irN,nrA,nrM,nrE,reduceIte,reduceCtorEq,nrL]
   repeat ((with_reducible apply oV_intro);(simp (disch:=try exact dA) only [qcs,tb87,so,so.1,so.2,sr,sr.1,sr.2,lns62 S,lns63 SRd,Option.map_none,Option.map_some,hEg,irN,nrA,nrM,nrE,reduceIte,reduceCtorEq,nrL];exact rfl))
   exact ⟨by rw [hE0,if_pos (by omega)],hF01⟩
  ·refine ⟨by first|exact .inl rfl|exact .inr rfl, ?_⟩
   rw [ret1 Try.results87]
   simp only [↓pb,qbs,tb87,so,so.1,so.2,sr,sr.1,sr.2,lns62 S,lns63 SRd,Option.map_none,Option.map_some,rv_tmp,rv_cell,hEg,irN,nrA,nrM,nrE,reduceIte,reduceCtorEq,nrL]
   repeat ((with_reducible apply oV_intro);(simp (disch:=try exact dA) only [qcs,tb87,so,so.1,so.2,sr,sr.1,sr.2,lns62 S,lns63 SRd,Option.map_none,Option.map_some,hEg,irN,nrA,nrM,nrE,reduceIte,reduceCtorEq,nrL];exact rfl))
   exact ⟨by rw [hE0,if_neg (by omega),if_pos (by omega)],hF01⟩
  rw [if_neg (by omega),if_neg (by omega)] at hE0
  refine W_count [1,7,49,50] (by kernel_rfl) 51 (R.length) (H.n) [] [] (fun i e h=>(R.take i).all (partOk R)=true) (by simp only [↓pb,qbs,tb87,so,so.1,so.2,sr,sr.1,sr.2,lns62 S,lns63 SRd,Option.map_none,Option.map_some,hEg,irN,nrA,nrM,nrE,reduceIte,reduceCtorEq,nrL]) (by focus exact topA) (H0:=H) (by focus exact frA) (by intro b hb hlt;simp at hb ⊢;try omega) ?_ ?_
  rotate_left
  intro i2 e2 h2 hi2 hE2 ei2 hF2 hF02 hTh2 hJ2
  simp only [forallC,forallL,and_true] at hE2
  try simp only [↓pb,qbs,tb87,so,so.1,so.2,sr,sr.1,sr.2,lns62 S,lns63 SRd,Option.map_none,Option.map_some,hEg,irN,nrA,nrM,nrE,reduceIte,reduceCtorEq,nrL] at hE2
  have hn12:=hF2.n;have hn02:=hF02.n;try simp only [upd_n,jn_n] at hn12
  replace hEg:=And.intro ei2 hE2
  rotate_left
  ·rfl
  have Q2:=SRd.fr0 hF02
  have q2:=Q2.lt
  have eq:=Q2.el1 rfl
  have r7:h2.rd h1.n=some [.func (.func 119) #[] #[]]:=by
   rw [rd_def,hF2.old _ (by simp only [upd_n];omega) (by simp),upd_get_same]
   rfl
  by_cases hi3:i2 < R.length
  ·have ht:(R.take (i2 + 1)).all (partOk R)=partOk R (R.getD i2 default):=by rw [take_getD hi3,List.all_append,hJ2];simp
   have eq0:(dOf h2 vr)[voff vr]? = some (Value.string (R.getD 0 default)):=eq.2 0 (by omega)
   have hP:partOk R (R.getD i2 default)=(readsP (mayB 119) (R.getD i2 default) && decide ((R.getD i2 default).size=(R.getD 0 default).size)):=rfl
   have all0:partOk R (R.getD i2 default)=false→R.all (partOk R)=false:=by
    intro q
    cases q2:R.all (partOk R) with
    | false=>rfl
    | true=>rw [mem_at (fun x hx=>List.all_eq_true.1 q2 x hx) i2 hi3] at q;cases q
   cases cc:readsP (mayB 119) (R.getD i2 default)
   all_goals rw [cc] at hP
   ·repeat' (first|((with_reducible refine hK _ _ fun e2 hEn=>?_);clear hK K;simp only [lv87,forallC,forallL,and_true] at hEn;(try simp only [↓pb,qbs,tb87,so,so.1,so.2,sr,sr.1,sr.2,lns62 S,lns63 SRd,Option.map_none,Option.map_some,hEg,irN,nrA,nrM,nrE,reduceIte,reduceCtorEq,nrL] at hEn);clear hEg;(try clear eg);have hEg:=hEn;clear hEn;rename Env=>eg)|((first|((with_reducible first|apply oV_intro|apply oH_intro|apply oB_intro);(simp (disch:=try exact dA) only [qcs,tb87,so,so.1,so.2,sr,sr.1,sr.2,lns62 S,lns63 SRd,Option.map_none,Option.map_some,ias63 Q2,Q2.rd,eq,r7,eq0,cc,hEg,irN,nrA,nrM,nrE,reduceIte,reduceCtorEq,nrL];with_reducible exact rfl))|((with_reducible apply WO_callV);(focus exact topA);(simp only [↓pb,qbs,tb87,so,so.1,so.2,sr,sr.1,sr.2,lns62 S,lns63 SRd,Option.map_none,Option.map_some,ias63 Q2,Q2.rd,eq,r7,eq0,cc,hEg,irN,nrA,nrM,nrE,reduceIte,reduceCtorEq,nrL];(exact f116 _ 119 (.inr rfl) _ (by exact topA)));(intro Gq hq hJq;try simp only [upd_n,jn_n] at hq))|(with_reducible first|refine W_regionF lv87 fun K hK=>?_));try simp only [↓pb,↓pd,qds,tb87,so,so.1,so.2,sr,sr.1,sr.2,lns62 S,lns63 SRd,Option.map_none,Option.map_some,ias63 Q2,Q2.rd,eq,r7,eq0,cc,hEg,irN,nrA,nrM,nrE,reduceIte,reduceCtorEq,nrL])|((first|((with_reducible first|apply WO_gT|apply WO_gF);exact rfl)|(with_reducible apply W_cond));(simp only [↓pb,qbs,tb87,so,so.1,so.2,sr,sr.1,sr.2,lns62 S,lns63 SRd,Option.map_none,Option.map_some,ias63 Q2,Q2.rd,eq,r7,eq0,cc,hEg,irN,nrA,nrM,nrE,reduceIte,reduceCtorEq,nrL];with_reducible exact rfl);all_goals (intro hc;(first|exact hcX hc|try simp only [hcs] at hc);try ((with_reducible apply woI);simp only [↓pb,↓pd,qds,tb87,so,so.1,so.2,sr,sr.1,sr.2,lns62 S,lns63 SRd,Option.map_none,Option.map_some,ias63 Q2,Q2.rd,eq,r7,eq0,cc,hc,hEg,irN,nrA,nrM,nrE,reduceIte,reduceCtorEq,nrL])))|((with_reducible apply WO_gU);exact rfl;(focus (simp only [↓pb,qbs,tb87,so,so.1,so.2,sr,sr.1,sr.2,lns62 S,lns63 SRd,Option.map_none,Option.map_some,ias63 Q2,Q2.rd,eq,r7,eq0,cc,hEg,irN,nrA,nrM,nrE,reduceIte,reduceCtorEq,nrL];done));try simp only [↓pb,↓pd,qds,tb87,so,so.1,so.2,sr,sr.1,sr.2,lns62 S,lns63 SRd,Option.map_none,Option.map_some,ias63 Q2,Q2.rd,eq,r7,eq0,cc,hEg,irN,nrA,nrM,nrE,reduceIte,reduceCtorEq,nrL])|(with_reducible first|refine W_seq ?_|refine W_block ?_|refine W_skip ?_|refine W_ret ?_|refine W_exit ?_|apply blockK_exit)|((with_reducible apply blockK_pass);(focus decide))|fail)
    refine ⟨by first|exact .inl rfl|exact .inr rfl, ?_⟩
    rw [ret1 Try.results87]
    simp only [↓pb,qbs,tb87,so,so.1,so.2,sr,sr.1,sr.2,lns62 S,lns63 SRd,Option.map_none,Option.map_some,rv_tmp,rv_cell,hEg,irN,nrA,nrM,nrE,reduceIte,reduceCtorEq,nrL]
    repeat ((with_reducible apply oV_intro);(simp (disch:=try exact dA) only [qcs,tb87,so,so.1,so.2,sr,sr.1,sr.2,lns62 S,lns63 SRd,Option.map_none,Option.map_some,hEg,irN,nrA,nrM,nrE,reduceIte,reduceCtorEq,nrL];exact rfl))
    refine ⟨?_,by exact frA⟩
    rw [hE0,if_pos (all0 hP)]
   ·repeat' (first|((with_reducible refine hK _ _ fun e2 hEn=>?_);clear hK K;simp only [lv87,forallC,forallL,and_true] at hEn;(try simp only [↓pb,qbs,tb87,so,so.1,so.2,sr,sr.1,sr.2,lns62 S,lns63 SRd,Option.map_none,Option.map_some,hEg,irN,nrA,nrM,nrE,reduceIte,reduceCtorEq,nrL] at hEn);clear hEg;(try clear eg);have hEg:=hEn;clear hEn;rename Env=>eg)|((first|((with_reducible first|apply oV_intro|apply oH_intro|apply oB_intro);(simp (disch:=try exact dA) only [qcs,tb87,so,so.1,so.2,sr,sr.1,sr.2,lns62 S,lns63 SRd,Option.map_none,Option.map_some,ias63 Q2,Q2.rd,eq,r7,eq0,cc,hEg,irN,nrA,nrM,nrE,reduceIte,reduceCtorEq,nrL];with_reducible exact rfl))|((with_reducible apply WO_callV);(focus exact topA);(simp only [↓pb,qbs,tb87,so,so.1,so.2,sr,sr.1,sr.2,lns62 S,lns63 SRd,Option.map_none,Option.map_some,ias63 Q2,Q2.rd,eq,r7,eq0,cc,hEg,irN,nrA,nrM,nrE,reduceIte,reduceCtorEq,nrL];(exact f116 _ 119 (.inr rfl) _ (by exact topA)));(intro Gq hq hJq;try simp only [upd_n,jn_n] at hq))|(with_reducible first|refine W_regionF lv87 fun K hK=>?_));try simp only [↓pb,↓pd,qds,tb87,so,so.1,so.2,sr,sr.1,sr.2,lns62 S,lns63 SRd,Option.map_none,Option.map_some,ias63 Q2,Q2.rd,eq,r7,eq0,cc,hEg,irN,nrA,nrM,nrE,reduceIte,reduceCtorEq,nrL])|((first|((with_reducible first|apply WO_gT|apply WO_gF);exact rfl)|(with_reducible apply W_cond));(simp only [↓pb,qbs,tb87,so,so.1,so.2,sr,sr.1,sr.2,lns62 S,lns63 SRd,Option.map_none,Option.map_some,ias63 Q2,Q2.rd,eq,r7,eq0,cc,hEg,irN,nrA,nrM,nrE,reduceIte,reduceCtorEq,nrL];with_reducible exact rfl);all_goals (intro hc;(first|exact hcX hc|try simp only [hcs] at hc);try ((with_reducible apply woI);simp only [↓pb,↓pd,qds,tb87,so,so.1,so.2,sr,sr.1,sr.2,lns62 S,lns63 SRd,Option.map_none,Option.map_some,ias63 Q2,Q2.rd,eq,r7,eq0,cc,hc,hEg,irN,nrA,nrM,nrE,reduceIte,reduceCtorEq,nrL])))|((with_reducible apply WO_gU);exact rfl;(focus (simp only [↓pb,qbs,tb87,so,so.1,so.2,sr,sr.1,sr.2,lns62 S,lns63 SRd,Option.map_none,Option.map_some,ias63 Q2,Q2.rd,eq,r7,eq0,cc,hEg,irN,nrA,nrM,nrE,reduceIte,reduceCtorEq,nrL];done));try simp only [↓pb,↓pd,qds,tb87,so,so.1,so.2,sr,sr.1,sr.2,lns62 S,lns63 SRd,Option.map_none,Option.map_some,ias63 Q2,Q2.rd,eq,r7,eq0,cc,hEg,irN,nrA,nrM,nrE,reduceIte,reduceCtorEq,nrL])|(with_reducible first|refine W_seq ?_|refine W_block ?_|refine W_skip ?_|refine W_ret ?_|refine W_exit ?_|apply blockK_exit)|((with_reducible apply blockK_pass);(focus decide))|fail)
    ·refine ⟨by first|exact .inl rfl|exact .inr rfl, ?_⟩
     rw [ret1 Try.results87]
     simp only [↓pb,qbs,tb87,so,so.1,so.2,sr,sr.1,sr.2,lns62 S,lns63 SRd,Option.map_none,Option.map_some,rv_tmp,rv_cell,hEg,irN,nrA,nrM,nrE,reduceIte,reduceCtorEq,nrL]
     repeat ((with_reducible apply oV_intro);(simp (disch:=try exact dA) only [qcs,tb87,so,so.1,so.2,sr,sr.1,sr.2,lns62 S,lns63 SRd,Option.map_none,Option.map_some,hEg,irN,nrA,nrM,nrE,reduceIte,reduceCtorEq,nrL];exact rfl))
     refine ⟨?_,by exact frA⟩
     rw [hE0,if_pos (all0 (by rw [hP,decide_eq_false (by omega)];rfl))]
    ·refine ⟨by omega,by simp only [↓pb,qbs,tb87,so,so.1,so.2,sr,sr.1,sr.2,lns62 S,lns63 SRd,Option.map_none,Option.map_some,hEg,irN,nrA,nrM,nrE,reduceIte,reduceCtorEq,nrL];exact congrArg _ (inc64 (by omega)),by focus exact frA, ?_⟩
     rw [ht,hP,decide_eq_true (by omega)]
     rfl
  ·have e2n:i2=R.length:=by omega
   rw [e2n,List.take_length] at hJ2
   have hsz:∀ i,i < R.length→readsP partB (R.getD i default)=true∧(R.getD i default).size=(R.getD 0 default).size:=by
    intro i hi
    have:=mem_at (fun x hx=>List.all_eq_true.1 hJ2 x hx) i hi
    have q:=(Bool.and_eq_true _ _).mp this
    exact ⟨q.1,of_decide_eq_true q.2⟩
   have h0:=(hsz 0 (by omega)).1
   have hs0:(R.getD 0 default).size < 1000000:=by
    unfold readsP at h0
    have:=of_decide_eq_true ((Bool.and_eq_true _ _).mp h0).1
    omega
   have hRR:0 < R.length∧R.length < 1000000∧(∀ i,i < R.length→(R.getD i default).size=(R.getD 0 default).size)∧(R.getD 0 default).size < 1000000:=⟨by omega,hR,fun i hi=>(hsz i hi).2,hs0⟩
   subst e2n
   rw [hJ2,if_neg (by simp)] at hE0
   repeat' (first|((with_reducible refine hK _ _ fun e2 hEn=>?_);clear hK K;simp only [lv87,forallC,forallL,and_true] at hEn;(try simp only [↓pb,qbs,tb87,so,so.1,so.2,sr,sr.1,sr.2,lns62 S,lns63 SRd,Option.map_none,Option.map_some,hEg,irN,nrA,nrM,nrE,reduceIte,reduceCtorEq,nrL] at hEn);clear hEg;(try clear eg);have hEg:=hEn;clear hEn;rename Env=>eg)|((first|((with_reducible first|apply oV_intro|apply oH_intro|apply oB_intro);(simp (disch:=try exact dA) only [qcs,tb87,so,so.1,so.2,sr,sr.1,sr.2,lns62 S,lns63 SRd,Option.map_none,Option.map_some,hEg,irN,nrA,nrM,nrE,reduceIte,reduceCtorEq,nrL];with_reducible exact rfl))|((with_reducible apply WO_callE);(simp only [↓pb,qbs,tb87,so,so.1,so.2,sr,sr.1,sr.2,lns62 S,lns63 SRd,Option.map_none,Option.map_some,hEg,irN,nrA,nrM,nrE,reduceIte,reduceCtorEq,nrL];(exact E_or (f88e vr R _ Q2 hRR))))|(with_reducible first|refine W_regionF lv87 fun K hK=>?_));try simp only [↓pb,↓pd,qds,tb87,so,so.1,so.2,sr,sr.1,sr.2,lns62 S,lns63 SRd,Option.map_none,Option.map_some,hEg,irN,nrA,nrM,nrE,reduceIte,reduceCtorEq,nrL])|((first|((with_reducible first|apply WO_gT|apply WO_gF);exact rfl)|(with_reducible apply W_cond));(simp only [↓pb,qbs,tb87,so,so.1,so.2,sr,sr.1,sr.2,lns62 S,lns63 SRd,Option.map_none,Option.map_some,hEg,irN,nrA,nrM,nrE,reduceIte,reduceCtorEq,nrL];with_reducible exact rfl);all_goals (intro hc;(first|exact hcX hc|try simp only [hcs] at hc);try ((with_reducible apply woI);simp only [↓pb,↓pd,qds,tb87,so,so.1,so.2,sr,sr.1,sr.2,lns62 S,lns63 SRd,Option.map_none,Option.map_some,hc,hEg,irN,nrA,nrM,nrE,reduceIte,reduceCtorEq,nrL])))|((with_reducible apply WO_gU);exact rfl;(focus (simp only [↓pb,qbs,tb87,so,so.1,so.2,sr,sr.1,sr.2,lns62 S,lns63 SRd,Option.map_none,Option.map_some,hEg,irN,nrA,nrM,nrE,reduceIte,reduceCtorEq,nrL];done));try simp only [↓pb,↓pd,qds,tb87,so,so.1,so.2,sr,sr.1,sr.2,lns62 S,lns63 SRd,Option.map_none,Option.map_some,hEg,irN,nrA,nrM,nrE,reduceIte,reduceCtorEq,nrL])|(with_reducible first|refine W_seq ?_|refine W_block ?_|refine W_skip ?_|refine W_ret ?_|refine W_exit ?_|apply blockK_exit)|((with_reducible apply blockK_pass);(focus decide))|fail)
   all_goals (
    refine ⟨by first|exact .inl rfl|exact .inr rfl, ?_⟩
    rw [ret1 Try.results87]
    simp only [↓pb,qbs,tb87,so,so.1,so.2,sr,sr.1,sr.2,lns62 S,lns63 SRd,Option.map_none,Option.map_some,rv_tmp,rv_cell,hEg,irN,nrA,nrM,nrE,reduceIte,reduceCtorEq,nrL]
    repeat ((with_reducible apply oV_intro);(simp (disch:=try exact dA) only [qcs,tb87,so,so.1,so.2,sr,sr.1,sr.2,lns62 S,lns63 SRd,Option.map_none,Option.map_some,hEg,irN,nrA,nrM,nrE,reduceIte,reduceCtorEq,nrL];exact rfl)))
   ·exact ⟨by rw [hE0,if_pos hc],hF02⟩
   ·exact ⟨by rw [hE0,if_neg (by rw [hc];simp)],hF02⟩
theorem goods_ok {l:List Tag} {R:List ByteArray} (hR:R.length < 1000000) (h:goodsErr l R=0):0 < R.length∧R.length < 1000000∧(∀ i,i < R.length→(R.getD i default).size=(R.getD 0 default).size)∧(R.getD 0 default).size < 1000000:=by
 unfold goodsErr at h
 split at h
 ·cases h
 split at h
 ·rename_i q;exact absurd h q
 split at h
 ·cases h
 split at h
 ·cases h
 split at h
 ·cases h
 rename_i q1 q2 q3
 simp only [Bool.not_eq_false] at q3
 have hsz:∀ i,i < R.length→readsP partB (R.getD i default)=true∧(R.getD i default).size=(R.getD 0 default).size:=by
  intro i hi
  have:=mem_at (fun x hx=>List.all_eq_true.1 q3 x hx) i hi
  have q:=(Bool.and_eq_true _ _).mp this
  exact ⟨q.1,of_decide_eq_true q.2⟩
 have h0:=(hsz 0 (by omega)).1
 refine ⟨by omega,hR,fun i hi=>(hsz i hi).2, ?_⟩
 unfold readsP at h0
 have:=of_decide_eq_true ((Bool.and_eq_true _ _).mp h0).1
 omega
theorem f41 (vl vr:Value) (l:List Tag) (R:List ByteArray) (H:AHeap) (hT:Top H) (S:SR H 2 l.length vl (l.flatMap eTag)) (hl:l.length < 1000000) (hls:∀ i,i < l.length→(l.getD i default).Code.size < 1000000)
  (SRd:SR H 1 R.length vr (R.map .string)) (hR:R.length < 1000000) (hk:l.length=0∨SK H 2 vl) :
  ∃ v H',C8 (.fn 41) #[vl,vr] H v H'∧(∃ vp gg,v=.tuple #[iv (matchP l R (goodsErr l R) (decide (0≤Lib.indexByte (readP R).data.toList 63))).1,vp,iv (matchP l R (goodsErr l R) (decide (0≤Lib.indexByte (readP R).data.toList 63))).2.2]∧GS H' 1 (matchP l R (goodsErr l R) (decide (0≤Lib.indexByte (readP R).data.toList 63))).2.1.length vp (ints (matchP l R (goodsErr l R) (decide (0≤Lib.indexByte (readP R).data.toList 63))).2.1) gg∧(∀ x,gg=some x→H.n≤x))∧Fr H.n [] H H':=by
 have so:=S.one
 have sr:=SRd.one
 generalize hQ:decide (0≤Lib.indexByte (readP R).data.toList 63)=q
 refine Cl.ofW Try.func41 rfl (by kernel_rfl) (by rw [Try.ntmps41];exact Nat.le_of_ble_eq_true rfl) (by kernel_rfl) ?_
 have hEg:True:=trivial
 refine gcW [0,1] ?_
 intro eg hEn
 simp only [forallC,forallL,and_true] at hEn
 try simp only [↓pb,qbs,tb41,so,so.1,so.2,sr,sr.1,sr.2,lns62 S,hEg,irN,nrA,nrM,nrE,reduceIte,reduceCtorEq,nrL] at hEn
 replace hEg:=hEn;clear hEn
 repeat' (first|((with_reducible refine hK _ _ fun e2 hEn=>?_);clear hK K;simp only [lv41,forallC,forallL,and_true] at hEn;(try simp only [↓pb,qbs,tb41,so,so.1,so.2,sr,sr.1,sr.2,lns62 S,hEg,irN,nrA,nrM,nrE,reduceIte,reduceCtorEq,nrL] at hEn);clear hEg;(try clear eg);have hEg:=hEn;clear hEn;rename Env=>eg)|((first|((with_reducible first|apply oV_intro|apply oH_intro|apply oB_intro);(simp (disch:=try exact dA) only [qcs,tb41,so,so.1,so.2,sr,sr.1,sr.2,lns62 S,hEg,irN,nrA,nrM,nrE,reduceIte,reduceCtorEq,nrL];with_reducible exact rfl))|((with_reducible apply WO_callV);(focus exact topA);(simp only [↓pb,qbs,tb41,so,so.1,so.2,sr,sr.1,sr.2,lns62 S,hEg,irN,nrA,nrM,nrE,reduceIte,reduceCtorEq,nrL];(exact f87 vl vr l R _ (by exact topA) (S.fr0 (N:=H.n) (by exact frA)) hk hl (SRd.fr0 (N:=H.n) (by exact frA)) hR));(intro Gq hq hJq;try simp only [upd_n,jn_n] at hq))|(with_reducible first|refine W_regionF lv41 fun K hK=>?_));try simp only [↓pb,↓pd,qds,tb41,so,so.1,so.2,sr,sr.1,sr.2,lns62 S,hEg,irN,nrA,nrM,nrE,reduceIte,reduceCtorEq,nrL])|((with_reducible apply W_cond);(simp only [↓pb,qbs,tb41,so,so.1,so.2,sr,sr.1,sr.2,lns62 S,hEg,irN,nrA,nrM,nrE,reduceIte,reduceCtorEq,nrL];with_reducible exact rfl);all_goals (intro hc;(first|exact hcX hc|try simp only [hcs] at hc)))|(with_reducible first|refine W_seq ?_|refine W_block ?_|refine W_skip ?_|refine W_ret ?_|refine W_exit ?_|apply blockK_exit)|((with_reducible apply blockK_pass);(focus decide))|fail)
 ·refine ⟨by first|exact .inl rfl|exact .inr rfl, ?_⟩
  rw [ret3 Try.results41]
  simp only [↓pb,qbs,tb41,so,so.1,so.2,sr,sr.1,sr.2,lns62 S,rv_tmp,rv_cell,hEg,irN,nrA,nrM,nrE,reduceIte,reduceCtorEq,nrL]
  repeat ((with_reducible apply oV_intro);(simp (disch:=try exact dA) only [qcs,tb41,so,so.1,so.2,sr,sr.1,sr.2,lns62 S,hEg,irN,nrA,nrM,nrE,reduceIte,reduceCtorEq,nrL];exact rfl))
  have e:matchP l R (goodsErr l R) q=(0,[],goodsErr l R):=by rw [matchP,if_pos (by assumption)]
  rw [e]
  exact ⟨⟨_,none,rfl,GS.nul,by simp⟩,by exact frA⟩
 have hce:goodsErr l R=0:=by omega
 have hF0:Fr H.n [] H (H.jn Gq):=by exact frA
 have hT0:Top (H.jn Gq):=by exact topA
 clear hJq hq
 generalize H.jn Gq=h0 at *
 have SA:=S.fr0 hF0
 have SRa:=SRd.fr0 hF0
 have hR:=goods_ok hR hce
 have hm:matchP l R (goodsErr l R) q=if (fitsL l (readP R) l.length).length=0 then (2,[],0) else if q=true then (3,fitsL l (readP R) l.length,0) else (1,fitsL l (readP R) l.length,0):=by rw [matchP,if_neg (by omega)]
 repeat' (first|((with_reducible refine hK _ _ fun e2 hEn=>?_);clear hK K;simp only [lv41,forallC,forallL,and_true] at hEn;(try simp only [↓pb,qbs,tb41,so,so.1,so.2,sr,sr.1,sr.2,lns62 S,hEg,irN,nrA,nrM,nrE,reduceIte,reduceCtorEq,nrL] at hEn);clear hEg;(try clear eg);have hEg:=hEn;clear hEn;rename Env=>eg)|((first|((with_reducible first|apply oV_intro|apply oH_intro|apply oB_intro);(simp (disch:=try exact dA) only [qcs,tb41,so,so.1,so.2,sr,sr.1,sr.2,lns62 S,hEg,irN,nrA,nrM,nrE,reduceIte,reduceCtorEq,nrL];with_reducible exact rfl))|((with_reducible apply WO_callE);(simp only [↓pb,qbs,tb41,so,so.1,so.2,sr,sr.1,sr.2,lns62 S,hEg,irN,nrA,nrM,nrE,reduceIte,reduceCtorEq,nrL];(exact E_or (f88e vr R _ SRa hR))))|(with_reducible first|refine W_regionF lv41 fun K hK=>?_));try simp only [↓pb,↓pd,qds,tb41,so,so.1,so.2,sr,sr.1,sr.2,lns62 S,hEg,irN,nrA,nrM,nrE,reduceIte,reduceCtorEq,nrL])|((with_reducible apply W_cond);(simp only [↓pb,qbs,tb41,so,so.1,so.2,sr,sr.1,sr.2,lns62 S,hEg,irN,nrA,nrM,nrE,reduceIte,reduceCtorEq,nrL];with_reducible exact rfl);all_goals (intro hc;(first|exact hcX hc|try simp only [hcs] at hc)))|(with_reducible first|refine W_seq ?_|refine W_block ?_|refine W_skip ?_|refine W_ret ?_|refine W_exit ?_|apply blockK_exit)|((with_reducible apply blockK_pass);(focus decide))|fail)
 generalize hr:readP R=r
 rw [hr] at hm hQ hEg
 refine W_count [8,23,24] (by kernel_rfl) 25 (l.length) (H.n) [] [] (fun i e h=>∃ (vp:Value) (gg:Option Nat),e 5=vp∧GS h 1 (fitsL l r i).length vp (ints (fitsL l r i)) gg∧(∀ x,gg=some x→H.n≤x)) (by simp only [↓pb,qbs,tb41,so,so.1,so.2,sr,sr.1,sr.2,lns62 S,hEg,irN,nrA,nrM,nrE,reduceIte,reduceCtorEq,nrL]) (by focus exact topA) (H0:=H) (by focus exact frA) (by intro b hb hlt;simp at hb ⊢;try omega) ?_ ?_
 rotate_left
 intro i1 e1 h1 hi1 hE1 ei1 hF1 hF01 hTh1 hJ1
 simp only [forallC,forallL,and_true] at hE1
 try simp only [↓pb,qbs,tb41,so,so.1,so.2,sr,sr.1,sr.2,lns62 S,hEg,irN,nrA,nrM,nrE,reduceIte,reduceCtorEq,nrL] at hE1
 have hn11:=hF1.n;have hn01:=hF01.n;try simp only [upd_n,jn_n] at hn11
 replace hEg:=And.intro ei1 hE1
 rotate_left
 ·exact ⟨.slice none 0 0,none,by simp only [↓pb,qbs,tb41,so,so.1,so.2,sr,sr.1,sr.2,lns62 S,hEg,irN,nrA,nrM,nrE,reduceIte,reduceCtorEq,nrL],GS.nul,by simp⟩
 obtain ⟨vp,gg,f5,G,hgg⟩:=hJ1
 have S1:=S.fr0 hF01
 have l1:=S1.lt
 have e0:=S1.el eTag_len rfl
 have o1:=G.one
 by_cases hi:i1 < l.length
 ·have hn:fitsL l r (i1 + 1)=if fitP (l.getD i1 default).Code r=true then fitsL l r i1 ++ [(i1:Int)] else fitsL l r i1:=rfl
  have hfl:(fitsL l r i1).length≤i1:=fitsL_le l r i1
  repeat' (first|((with_reducible refine hK _ _ fun e2 hEn=>?_);clear hK K;simp only [lv41,forallC,forallL,and_true] at hEn;(try simp only [↓pb,qbs,tb41,so,so.1,so.2,sr,sr.1,sr.2,lns62 S,hEg,irN,nrA,nrM,nrE,reduceIte,reduceCtorEq,nrL] at hEn);clear hEg;(try clear eg);have hEg:=hEn;clear hEn;rename Env=>eg)|((first|((with_reducible first|apply oV_intro|apply oH_intro|apply oB_intro);(simp (disch:=try exact dA) only [qcs,tb41,so,so.1,so.2,sr,sr.1,sr.2,lns62 S,ias62 S1,S1.rd,e0,eTag,f5,o1,hEg,irN,nrA,nrM,nrE,reduceIte,reduceCtorEq,nrL];with_reducible exact rfl))|((with_reducible apply WO_callE);(simp only [↓pb,qbs,tb41,so,so.1,so.2,sr,sr.1,sr.2,lns62 S,ias62 S1,S1.rd,e0,eTag,f5,o1,hEg,irN,nrA,nrM,nrE,reduceIte,reduceCtorEq,nrL];(exact f89 _ _ _ (by exact topA) (hls _ hi))))|(with_reducible first|refine W_regionF lv41 fun K hK=>?_));try simp only [↓pb,↓pd,qds,tb41,so,so.1,so.2,sr,sr.1,sr.2,lns62 S,ias62 S1,S1.rd,e0,eTag,f5,o1,hEg,irN,nrA,nrM,nrE,reduceIte,reduceCtorEq,nrL])|((with_reducible apply W_cond);(simp only [↓pb,qbs,tb41,so,so.1,so.2,sr,sr.1,sr.2,lns62 S,ias62 S1,S1.rd,e0,eTag,f5,o1,hEg,irN,nrA,nrM,nrE,reduceIte,reduceCtorEq,nrL];with_reducible exact rfl);all_goals (intro hc;(first|exact hcX hc|try simp only [hcs] at hc)))|(with_reducible first|refine W_seq ?_|refine W_block ?_|refine W_skip ?_|refine W_ret ?_|refine W_exit ?_|apply blockK_exit)|((with_reducible apply blockK_pass);(focus decide))|fail)
  ·have hgd:=gd_ge (n:=h1.n + 2) hgg (by omega)
   refine pu27 (n:=(fitsL l r i1).length) (m:=1) (c:=ints (fitsL l r i1)) (g:=gg) (G.ex.ex) (SR.new rfl) (by omega) (by omega) (by omega) (by exact topA) fun GG=>?_
   have hgd2:=GG.grp_lt
   simp only [upd_n,jn_n] at hgd2
   simp only [upd_n,jn_n,nb] at GG
   simp only [upd_n,jn_n,nb]
   repeat' (first|((with_reducible refine hK _ _ fun e2 hEn=>?_);clear hK K;simp only [lv41,forallC,forallL,and_true] at hEn;(try simp only [↓pb,qbs,tb41,so,so.1,so.2,sr,sr.1,sr.2,lns62 S,hEg,irN,nrA,nrM,nrE,reduceIte,reduceCtorEq,nrL] at hEn);clear hEg;(try clear eg);have hEg:=hEn;clear hEn;rename Env=>eg)|((first|((with_reducible first|apply oV_intro|apply oH_intro|apply oB_intro);(simp (disch:=try exact dA) only [qcs,tb41,so,so.1,so.2,sr,sr.1,sr.2,lns62 S,hEg,irN,nrA,nrM,nrE,reduceIte,reduceCtorEq,nrL];with_reducible exact rfl))|(with_reducible first|refine W_regionF lv41 fun K hK=>?_));try simp only [↓pb,↓pd,qds,tb41,so,so.1,so.2,sr,sr.1,sr.2,lns62 S,hEg,irN,nrA,nrM,nrE,reduceIte,reduceCtorEq,nrL])|((with_reducible apply W_cond);(simp only [↓pb,qbs,tb41,so,so.1,so.2,sr,sr.1,sr.2,lns62 S,hEg,irN,nrA,nrM,nrE,reduceIte,reduceCtorEq,nrL];with_reducible exact rfl);all_goals (intro hc;(first|exact hcX hc|try simp only [hcs] at hc)))|(with_reducible first|refine W_seq ?_|refine W_block ?_|refine W_skip ?_|refine W_ret ?_|refine W_exit ?_|apply blockK_exit)|((with_reducible apply blockK_pass);(focus decide))|fail)
   refine ⟨by omega,by simp only [↓pb,qbs,tb41,so,so.1,so.2,sr,sr.1,sr.2,lns62 S,hEg,irN,nrA,nrM,nrE,reduceIte,reduceCtorEq,nrL];exact congrArg _ (inc64 (by omega)),by focus exact frA, ?_⟩
   have e1:ints (fitsL l r i1 ++ [(i1:Int)])=ints (fitsL l r i1) ++ [iv (i1:Int)]:=by unfold ints;rw [List.map_append];rfl
   rw [hn,if_pos hc,e1,List.length_append]
   exact ⟨_,_,by simp only [hEg],GG,fun x hx=>by cases hx;exact hgd⟩
  ·refine ⟨by omega,by simp only [↓pb,qbs,tb41,so,so.1,so.2,sr,sr.1,sr.2,lns62 S,hEg,irN,nrA,nrM,nrE,reduceIte,reduceCtorEq,nrL];exact congrArg _ (inc64 (by omega)),by focus exact frA, ?_⟩
   rw [hn,if_neg (by rw [hc];exact Bool.false_ne_true)]
   exact ⟨vp,gg,by simp only [hEg,f5],G.ex,hgg⟩
 ·have ei:i1=l.length:=by omega
  subst ei
  have hfl:(fitsL l r l.length).length≤l.length:=fitsL_le l r l.length
  repeat' (first|((with_reducible refine hK _ _ fun e2 hEn=>?_);clear hK K;simp only [lv41,forallC,forallL,and_true] at hEn;(try simp only [↓pb,qbs,tb41,so,so.1,so.2,sr,sr.1,sr.2,lns62 S,hEg,irN,nrA,nrM,nrE,reduceIte,reduceCtorEq,nrL] at hEn);clear hEg;(try clear eg);have hEg:=hEn;clear hEn;rename Env=>eg)|((first|((with_reducible first|apply oV_intro|apply oH_intro|apply oB_intro);(simp (disch:=try exact dA) only [qcs,tb41,so,so.1,so.2,sr,sr.1,sr.2,lns62 S,f5,o1,lns27 G.sr,hEg,irN,nrA,nrM,nrE,reduceIte,reduceCtorEq,nrL];with_reducible exact rfl))|((with_reducible apply WO_callE);(simp only [↓pb,qbs,tb41,so,so.1,so.2,sr,sr.1,sr.2,lns62 S,f5,o1,lns27 G.sr,hEg,irN,nrA,nrM,nrE,reduceIte,reduceCtorEq,nrL];(exact E_or (f90 r 63 _))))|(with_reducible first|refine W_regionF lv41 fun K hK=>?_));try simp only [↓pb,↓pd,qds,tb41,so,so.1,so.2,sr,sr.1,sr.2,lns62 S,f5,o1,lns27 G.sr,hEg,irN,nrA,nrM,nrE,reduceIte,reduceCtorEq,nrL])|((with_reducible apply W_cond);(simp only [↓pb,qbs,tb41,so,so.1,so.2,sr,sr.1,sr.2,lns62 S,f5,o1,lns27 G.sr,hEg,irN,nrA,nrM,nrE,reduceIte,reduceCtorEq,nrL];with_reducible exact rfl);all_goals (intro hc;(first|exact hcX hc|try simp only [hcs] at hc)))|(with_reducible first|refine W_seq ?_|refine W_block ?_|refine W_skip ?_|refine W_ret ?_|refine W_exit ?_|apply blockK_exit)|((with_reducible apply blockK_pass);(focus decide))|fail)
  all_goals (
   refine ⟨by first|exact .inl rfl|exact .inr rfl, ?_⟩
   rw [ret3 Try.results41]
   simp only [↓pb,qbs,tb41,so,so.1,so.2,sr,sr.1,sr.2,lns62 S,rv_tmp,rv_cell,hEg,irN,nrA,nrM,nrE,reduceIte,reduceCtorEq,nrL]
   repeat ((with_reducible apply oV_intro);(simp (disch:=try exact dA) only [qcs,tb41,so,so.1,so.2,sr,sr.1,sr.2,lns62 S,hEg,irN,nrA,nrM,nrE,reduceIte,reduceCtorEq,nrL];exact rfl)))
  ·rw [hm,if_pos (by omega)]
   exact ⟨⟨_,none,rfl,GS.nul,by simp⟩,hF01⟩
  ·rw [hm,if_neg (by omega),if_pos (by rw [← hQ];exact decide_eq_true hc)]
   exact ⟨⟨_,gg,rfl,G,hgg⟩,hF01⟩
  ·rw [hm,if_neg (by omega),if_neg (by rw [← hQ,decide_eq_false hc];exact Bool.false_ne_true)]
   exact ⟨⟨_,gg,rfl,G,hgg⟩,hF01⟩
theorem atB {B:List Bool} (h:B.length=64):Swa.atN (B.map Value.bool) 0 64=some (.agg ⟨B.map .bool⟩):=by
 unfold Swa.atN
 rw [if_pos (by rw [List.length_map];omega),List.drop_zero,List.take_of_length_le (by rw [List.length_map];omega)]
theorem stB {H:AHeap} {b:Nat} {c c':List Value} (h:c.length=64) (h':c'.length=64):stG H b 0 64 (.agg ⟨c⟩) (.cells c' 121 .ex)=some (H.upd H.n b (.cells c 121 .ex)):=by
 rw [stG_ex,if_pos ⟨rfl,h,by omega⟩]
 have:splice c' 0 (Value.agg ⟨c⟩).cells.toList=c:=by
  show c'.take 0 ++ c ++ c'.drop (0 + c.length)=c
  rw [List.take_zero,List.nil_append,List.drop_eq_nil_of_le (by omega),List.append_nil]
 rw [this]
theorem stZ {H:AHeap} {b:Nat} {c:List Value} (h:c.length=64):stG H b 0 64 (.agg ⟨c⟩) (.cells ([.bool false,.bool false,.bool false,.bool false,.bool false,.bool false,.bool false,.bool false,.bool false,.bool false,.bool false,.bool false,.bool false,.bool false,.bool false,.bool false,.bool false,.bool false,.bool false,.bool false,.bool false,.bool false,.bool false,.bool false,.bool false,.bool false,.bool false,.bool false,.bool false,.bool false,.bool false,.bool false,.bool false,.bool false,.bool false,.bool false,.bool false,.bool false,.bool false,.bool false,.bool false,.bool false,.bool false,.bool false,.bool false,.bool false,.bool false,.bool false,.bool false,.bool false,.bool false,.bool false,.bool false,.bool false,.bool false,.bool false,.bool false,.bool false,.bool false,.bool false,.bool false,.bool false,.bool false,.bool false]:List Value) 121 .ex)=some (H.upd H.n b (.cells c 121 .ex)):=stB h rfl
def oB64:List Value:=List.replicate 64 (.bool false)
theorem oB64_len:Swa.oB64.length=64:=rfl
def cB (a b c i j:Nat):Nat:=if i < a then 8 else if i=a then (if j < c then b + 1 else b) else 0
theorem f113 (B:List Bool) (hB:B.length=64) (H:AHeap) (hT:Top H):∃ v H',C8 (.fn 113) #[.agg ⟨B.map .bool⟩] H v H'∧v=.agg ⟨(furB B).map .bool⟩∧Fr H.n [] H H':=by
 have hat:=atB hB
 have hBl:(B.map Value.bool).length=64:=by rw [List.length_map];exact hB
 refine Cl.ofW Try.func113 rfl (by kernel_rfl) (by rw [Try.ntmps113];exact Nat.le_of_ble_eq_true rfl) (by kernel_rfl) ?_
 have hEg:True:=trivial
 refine gcW [0] ?_
 intro eg hEn
 simp only [forallC,forallL,and_true] at hEn
 try simp only [↓pb,qbs,tb113,hat,hEg,irN,nrA,nrM,nrE,reduceIte,reduceCtorEq,nrL] at hEn
 replace hEg:=hEn;clear hEn
 repeat' (first|((with_reducible refine hK _ _ fun e2 hEn=>?_);clear hK K;simp only [lv113,forallC,forallL,and_true] at hEn;(try simp only [↓pb,qbs,tb113,hat,hEg,irN,nrA,nrM,nrE,reduceIte,reduceCtorEq,nrL] at hEn);clear hEg;(try clear eg);have hEg:=hEn;clear hEn;rename Env=>eg)|((first|((with_reducible first|apply oV_intro|apply oH_intro|apply oB_intro);(simp (disch:=try exact dA) only [qcs,tb113,hat,hBl,hEg,irN,nrA,nrM,nrE,reduceIte,reduceCtorEq,nrL];with_reducible exact rfl))|((with_reducible first|apply oblA_and|apply oblR_and|apply oblO_and);(focus exact obA))|(with_reducible first|refine W_regionF lv113 fun K hK=>?_|refine W_drawnF lv113 fun K hK=>?_));try simp only [↓pb,↓pd,qds,tb113,hat,hBl,hEg,irN,nrA,nrM,nrE,reduceIte,reduceCtorEq,nrL])|((first|((with_reducible first|apply WO_gT|apply WO_gF|apply WD_gT|apply WD_gF);exact rfl)|(with_reducible apply W_cond));(simp only [↓pb,qbs,tb113,hat,hBl,hEg,irN,nrA,nrM,nrE,reduceIte,reduceCtorEq,nrL];with_reducible exact rfl);all_goals (intro hc;(first|exact hcX hc|try simp only [hcs] at hc);try ((with_reducible first|apply woI|apply wdI);simp only [↓pb,↓pd,qds,tb113,hat,hBl,hc,hEg,irN,nrA,nrM,nrE,reduceIte,reduceCtorEq,nrL])))|((with_reducible apply WO_gU);exact rfl;(focus (simp only [↓pb,qbs,tb113,hat,hBl,hEg,irN,nrA,nrM,nrE,reduceIte,reduceCtorEq,nrL];done));try simp only [↓pb,↓pd,qds,tb113,hat,hBl,hEg,irN,nrA,nrM,nrE,reduceIte,reduceCtorEq,nrL])|((with_reducible apply WD_gU);exact rfl;(focus (simp only [↓pb,qbs,tb113,hat,hBl,hEg,irN,nrA,nrM,nrE,reduceIte,reduceCtorEq,nrL];done));try simp only [↓pb,↓pd,qds,tb113,hat,hBl,hEg,irN,nrA,nrM,nrE,reduceIte,reduceCtorEq,nrL])|(with_reducible first|refine W_seq ?_|refine W_block ?_|refine W_skip ?_|refine W_ret ?_|refine W_exit ?_|apply blockK_exit)|((with_reducible apply blockK_pass);(focus decide))|fail)
 refine W_count [1,2,3] (by kernel_rfl) 8 (8) (H.n) [H.n + 2] [] (fun i e h=>∃ Y:List Bool,h.get (H.n + 2)=.cells (Y.map .bool) 121 .ex∧Y.length=64∧∀ p q,p < 8→q < 8→tB Y p q=gB B p q (cB i 0 0 p q)) (by simp only [↓pb,qbs,tb113,hat,hEg,irN,nrA,nrM,nrE,reduceIte,reduceCtorEq,nrL]) (by focus exact topA) (H0:=H) (by focus exact frA) (by intro b hb hlt;simp at hb ⊢;try omega) ?_ ?_
 rotate_left
 intro i1 e1 h1 hi1 hE1 ei1 hF1 hF01 hTh1 hJ1
 simp only [forallC,forallL,and_true] at hE1
 try simp only [↓pb,qbs,tb113,hat,hEg,irN,nrA,nrM,nrE,reduceIte,reduceCtorEq,nrL] at hE1
 have hn11:=hF1.n;have hn01:=hF01.n;try simp only [upd_n,jn_n] at hn11
 replace hEg:=And.intro ei1 hE1
 rotate_left
 ·refine ⟨B, ?_,hB,fun p q hp hq=>?_⟩
  ·simp (disch:=try exact dA) only [qcs,tb113,hat,hEg,irN,nrA,nrM,nrE,reduceIte,reduceCtorEq,nrL]
  ·unfold cB
   rw [if_neg (by omega)]
   by_cases e:p=0
   ·rw [if_pos e,if_neg (by omega)]
    rfl
   ·rw [if_neg e]
    rfl
 obtain ⟨Y1,g1,l1,t1⟩:=hJ1
 by_cases hi:i1 < 8
 ·repeat' (first|((with_reducible refine hK _ _ fun e2 hEn=>?_);clear hK K;simp only [lv113,forallC,forallL,and_true] at hEn;(try simp only [↓pb,qbs,tb113,hat,hEg,irN,nrA,nrM,nrE,reduceIte,reduceCtorEq,nrL] at hEn);clear hEg;(try clear eg);have hEg:=hEn;clear hEn;rename Env=>eg)|((first|((with_reducible first|apply oV_intro|apply oH_intro|apply oB_intro);(simp (disch:=try exact dA) only [qcs,tb113,hat,hEg,irN,nrA,nrM,nrE,reduceIte,reduceCtorEq,nrL];with_reducible exact rfl))|((with_reducible first|apply oblA_and|apply oblR_and|apply oblO_and);(focus exact obA))|(with_reducible first|refine W_regionF lv113 fun K hK=>?_|refine W_drawnF lv113 fun K hK=>?_));try simp only [↓pb,↓pd,qds,tb113,hat,hEg,irN,nrA,nrM,nrE,reduceIte,reduceCtorEq,nrL])|((first|((with_reducible first|apply WO_gT|apply WO_gF|apply WD_gT|apply WD_gF);exact rfl)|(with_reducible apply W_cond));(simp only [↓pb,qbs,tb113,hat,hEg,irN,nrA,nrM,nrE,reduceIte,reduceCtorEq,nrL];with_reducible exact rfl);all_goals (intro hc;(first|exact hcX hc|try simp only [hcs] at hc);try ((with_reducible first|apply woI|apply wdI);simp only [↓pb,↓pd,qds,tb113,hat,hc,hEg,irN,nrA,nrM,nrE,reduceIte,reduceCtorEq,nrL])))|((with_reducible apply WO_gU);exact rfl;(focus (simp only [↓pb,qbs,tb113,hat,hEg,irN,nrA,nrM,nrE,reduceIte,reduceCtorEq,nrL];done));try simp only [↓pb,↓pd,qds,tb113,hat,hEg,irN,nrA,nrM,nrE,reduceIte,reduceCtorEq,nrL])|((with_reducible apply WD_gU);exact rfl;(focus (simp only [↓pb,qbs,tb113,hat,hEg,irN,nrA,nrM,nrE,reduceIte,reduceCtorEq,nrL];done));try simp only [↓pb,↓pd,qds,tb113,hat,hEg,irN,nrA,nrM,nrE,reduceIte,reduceCtorEq,nrL])|(with_reducible first|refine W_seq ?_|refine W_block ?_|refine W_skip ?_|refine W_ret ?_|refine W_exit ?_|apply blockK_exit)|((with_reducible apply blockK_pass);(focus decide))|fail)
  refine W_count [1,2,3,4,8] (by kernel_rfl) 11 (8) (H.n) [H.n + 2] [] (fun i e h=>∃ Y:List Bool,h.get (H.n + 2)=.cells (Y.map .bool) 121 .ex∧Y.length=64∧∀ p q,p < 8→q < 8→tB Y p q=gB B p q (cB i1 i 0 p q)) (by simp only [↓pb,qbs,tb113,hat,hEg,irN,nrA,nrM,nrE,reduceIte,reduceCtorEq,nrL]) (by focus exact topA) (H0:=H) (by focus exact frA) (by intro b hb hlt;simp at hb ⊢;try omega) ?_ ?_
  rotate_left
  intro i2 e2 h2 hi2 hE2 ei2 hF2 hF02 hTh2 hJ2
  simp only [forallC,forallL,and_true] at hE2
  try simp only [↓pb,qbs,tb113,hat,hEg,irN,nrA,nrM,nrE,reduceIte,reduceCtorEq,nrL] at hE2
  have hn12:=hF2.n;have hn02:=hF02.n;try simp only [upd_n,jn_n] at hn12
  replace hEg:=And.intro ei2 hE2
  rotate_left
  ·exact ⟨Y1,g1,l1,t1⟩
  obtain ⟨Y2,g2,l2,t2⟩:=hJ2
  by_cases hi2:i2 < 8
  ·repeat' (first|((with_reducible refine hK _ _ fun e2 hEn=>?_);clear hK K;simp only [lv113,forallC,forallL,and_true] at hEn;(try simp only [↓pb,qbs,tb113,hat,hEg,irN,nrA,nrM,nrE,reduceIte,reduceCtorEq,nrL] at hEn);clear hEg;(try clear eg);have hEg:=hEn;clear hEn;rename Env=>eg)|((first|((with_reducible first|apply oV_intro|apply oH_intro|apply oB_intro);(simp (disch:=try exact dA) only [qcs,tb113,hat,hEg,irN,nrA,nrM,nrE,reduceIte,reduceCtorEq,nrL];with_reducible exact rfl))|((with_reducible first|apply oblA_and|apply oblR_and|apply oblO_and);(focus exact obA))|(with_reducible first|refine W_regionF lv113 fun K hK=>?_|refine W_drawnF lv113 fun K hK=>?_));try simp only [↓pb,↓pd,qds,tb113,hat,hEg,irN,nrA,nrM,nrE,reduceIte,reduceCtorEq,nrL])|((first|((with_reducible first|apply WO_gT|apply WO_gF|apply WD_gT|apply WD_gF);exact rfl)|(with_reducible apply W_cond));(simp only [↓pb,qbs,tb113,hat,hEg,irN,nrA,nrM,nrE,reduceIte,reduceCtorEq,nrL];with_reducible exact rfl);all_goals (intro hc;(first|exact hcX hc|try simp only [hcs] at hc);try ((with_reducible first|apply woI|apply wdI);simp only [↓pb,↓pd,qds,tb113,hat,hc,hEg,irN,nrA,nrM,nrE,reduceIte,reduceCtorEq,nrL])))|((with_reducible apply WO_gU);exact rfl;(focus (simp only [↓pb,qbs,tb113,hat,hEg,irN,nrA,nrM,nrE,reduceIte,reduceCtorEq,nrL];done));try simp only [↓pb,↓pd,qds,tb113,hat,hEg,irN,nrA,nrM,nrE,reduceIte,reduceCtorEq,nrL])|((with_reducible apply WD_gU);exact rfl;(focus (simp only [↓pb,qbs,tb113,hat,hEg,irN,nrA,nrM,nrE,reduceIte,reduceCtorEq,nrL];done));try simp only [↓pb,↓pd,qds,tb113,hat,hEg,irN,nrA,nrM,nrE,reduceIte,reduceCtorEq,nrL])|(with_reducible first|refine W_seq ?_|refine W_block ?_|refine W_skip ?_|refine W_ret ?_|refine W_exit ?_|apply blockK_exit)|((with_reducible apply blockK_pass);(focus decide))|fail)
   refine W_count [1,2,3,4,5,8,11] (by kernel_rfl) 14 (8) (H.n) [H.n + 2] [] (fun i e h=>∃ Y:List Bool,h.get (H.n + 2)=.cells (Y.map .bool) 121 .ex∧Y.length=64∧∀ p q,p < 8→q < 8→tB Y p q=gB B p q (cB i1 i2 i p q)) (by simp only [↓pb,qbs,tb113,hat,hEg,irN,nrA,nrM,nrE,reduceIte,reduceCtorEq,nrL]) (by focus exact topA) (H0:=H) (by focus exact frA) (by intro b hb hlt;simp at hb ⊢;try omega) ?_ ?_
   rotate_left
   intro i3 e3 h3 hi3 hE3 ei3 hF3 hF03 hTh3 hJ3
   simp only [forallC,forallL,and_true] at hE3
   try simp only [↓pb,qbs,tb113,hat,hEg,irN,nrA,nrM,nrE,reduceIte,reduceCtorEq,nrL] at hE3
   have hn13:=hF3.n;have hn03:=hF03.n;try simp only [upd_n,jn_n] at hn13
   replace hEg:=And.intro ei3 hE3
   rotate_left
   ·exact ⟨Y2,g2,l2,t2⟩
   obtain ⟨Y3,g3,l3,t3⟩:=hJ3
   by_cases hi3:i3 < 8
   ·have g0:h3.get H.n=.cells (B.map .bool) 121 .ex:=by
     rw [hF3.old _ (by omega) (by simp),hF2.old _ (by omega) (by simp),hF1.old _ (by simp only [↓pb,qbs,tb113,hat,hEg,irN,nrA,nrM,nrE,reduceIte,reduceCtorEq,nrL];omega) (by simp)]
     simp (disch:=try exact dA) only [qcs,tb113,hat,hEg,irN,nrA,nrM,nrE,reduceIte,reduceCtorEq,nrL]
    have r0:h3.rd H.n=some (B.map .bool):=by rw [rd_def,g0];rfl
    have r3:h3.rd (H.n + 2)=some (Y3.map .bool):=by rw [rd_def,g3];rfl
    have hl3:(Y3.map Value.bool).length=64:=by rw [List.length_map];exact l3
    have e3:=tB_at l3 hi hi3
    have ec:=t3 i1 i3 hi hi3
    have ex1:=tB_at hB hi hi2
    have ex2:=tB_at hB hi2 hi3
    have hc0:cB i1 i2 i3 i1 i3=i2:=by unfold cB;rw [if_neg (by omega),if_pos rfl,if_neg (by omega)]
    rw [hc0] at ec
    rw [ec] at e3
    have fin:∀ x:Bool,x=gB B i1 i3 (i2 + 1)→∀ p q,p < 8→q < 8→tB (Y3.set (i1 * 8 + i3) x) p q=gB B p q (cB i1 i2 (i3 + 1) p q):=by
     rintro x rfl p q hp hq
     rw [tB_set l3 hi hi3 hq]
     by_cases e:p=i1∧q=i3
     ·obtain ⟨rfl,rfl⟩:=e
      rw [if_pos ⟨rfl,rfl⟩]
      unfold cB
      rw [if_neg (by omega),if_pos rfl,if_pos (by omega)]
     ·rw [if_neg e,t3 p q hp hq]
      congr 1
      unfold cB
      by_cases e1:p < i1
      ·rw [if_pos e1,if_pos e1]
      ·rw [if_neg e1,if_neg e1]
       by_cases e2:p=i1
       ·rw [if_pos e2,if_pos e2]
        by_cases e4:q < i3
        ·rw [if_pos e4,if_pos (by omega)]
        ·rw [if_neg e4,if_neg (by omega)]
       ·rw [if_neg e2,if_neg e2]
    have hstep:gB B i1 i3 (i2 + 1)=(gB B i1 i3 i2 || (tB B i1 i2 && tB B i2 i3)):=rfl
    cases hg:gB B i1 i3 i2
    all_goals cases hx:tB B i1 i2
    all_goals rw [hg] at e3
    all_goals rw [hx] at ex1
    all_goals (
     repeat' (first|((with_reducible refine hK _ _ fun e2 hEn=>?_);clear hK K;simp only [lv113,forallC,forallL,and_true] at hEn;(try simp only [↓pb,qbs,tb113,hat,hEg,irN,nrA,nrM,nrE,reduceIte,reduceCtorEq,nrL] at hEn);clear hEg;(try clear eg);have hEg:=hEn;clear hEn;rename Env=>eg)|((first|((with_reducible first|apply oV_intro|apply oH_intro|apply oB_intro);(simp (disch:=try exact dA) only [qcs,tb113,hat,r0,r3,e3,ex1,ex2,g3,hl3,Nat.mul_one,Nat.zero_add,Int.toNat_natCast,hEg,irN,nrA,nrM,nrE,reduceIte,reduceCtorEq,nrL];with_reducible exact rfl))|((with_reducible first|apply oblA_and|apply oblR_and|apply oblO_and);(focus exact obA))|(with_reducible first|refine W_regionF lv113 fun K hK=>?_|refine W_drawnF lv113 fun K hK=>?_));try simp only [↓pb,↓pd,qds,tb113,hat,r0,r3,e3,ex1,ex2,g3,hl3,Nat.mul_one,Nat.zero_add,Int.toNat_natCast,hEg,irN,nrA,nrM,nrE,reduceIte,reduceCtorEq,nrL])|((first|((with_reducible first|apply WO_gT|apply WO_gF|apply WD_gT|apply WD_gF);exact rfl)|(with_reducible apply W_cond));(simp only [↓pb,qbs,tb113,hat,r0,r3,e3,ex1,ex2,g3,hl3,Nat.mul_one,Nat.zero_add,Int.toNat_natCast,hEg,irN,nrA,nrM,nrE,reduceIte,reduceCtorEq,nrL];with_reducible exact rfl);all_goals (intro hc;(first|exact hcX hc|try simp only [hcs] at hc);try ((with_reducible first|apply woI|apply wdI);simp only [↓pb,↓pd,qds,tb113,hat,r0,r3,e3,ex1,ex2,g3,hl3,Nat.mul_one,Nat.zero_add,Int.toNat_natCast,hc,hEg,irN,nrA,nrM,nrE,reduceIte,reduceCtorEq,nrL])))|((with_reducible apply WO_gU);exact rfl;(focus (simp only [↓pb,qbs,tb113,hat,r0,r3,e3,ex1,ex2,g3,hl3,Nat.mul_one,Nat.zero_add,Int.toNat_natCast,hEg,irN,nrA,nrM,nrE,reduceIte,reduceCtorEq,nrL];done));try simp only [↓pb,↓pd,qds,tb113,hat,r0,r3,e3,ex1,ex2,g3,hl3,Nat.mul_one,Nat.zero_add,Int.toNat_natCast,hEg,irN,nrA,nrM,nrE,reduceIte,reduceCtorEq,nrL])|((with_reducible apply WD_gU);exact rfl;(focus (simp only [↓pb,qbs,tb113,hat,r0,r3,e3,ex1,ex2,g3,hl3,Nat.mul_one,Nat.zero_add,Int.toNat_natCast,hEg,irN,nrA,nrM,nrE,reduceIte,reduceCtorEq,nrL];done));try simp only [↓pb,↓pd,qds,tb113,hat,r0,r3,e3,ex1,ex2,g3,hl3,Nat.mul_one,Nat.zero_add,Int.toNat_natCast,hEg,irN,nrA,nrM,nrE,reduceIte,reduceCtorEq,nrL])|(with_reducible first|refine W_seq ?_|refine W_block ?_|refine W_skip ?_|refine W_ret ?_|refine W_exit ?_|apply blockK_exit)|((with_reducible apply blockK_pass);(focus decide))|fail))
    all_goals (
    have hF13:Fr H.n [H.n + 2] h2 h3:=hF3
    refine ⟨by omega,by simp only [↓pb,qbs,tb113,hat,hEg,irN,nrA,nrM,nrE,reduceIte,reduceCtorEq,nrL];exact congrArg _ (inc64 (by omega)),by focus exact frA, ?_⟩
    refine ⟨_,by rw [upd_get_same,← List.map_set],by rw [List.length_set];exact l3,fin _ ?_⟩
    rw [hstep,hg,hx]
    simp
    )
   ·have e8:i3=8:=by omega
    subst e8
    have hF13:=hF2.trans hF3
    repeat' (first|((with_reducible refine hK _ _ fun e2 hEn=>?_);clear hK K;simp only [lv113,forallC,forallL,and_true] at hEn;(try simp only [↓pb,qbs,tb113,hat,hEg,irN,nrA,nrM,nrE,reduceIte,reduceCtorEq,nrL] at hEn);clear hEg;(try clear eg);have hEg:=hEn;clear hEn;rename Env=>eg)|((first|((with_reducible first|apply oV_intro|apply oH_intro|apply oB_intro);(simp (disch:=try exact dA) only [qcs,tb113,hat,hEg,irN,nrA,nrM,nrE,reduceIte,reduceCtorEq,nrL];with_reducible exact rfl))|((with_reducible first|apply oblA_and|apply oblR_and|apply oblO_and);(focus exact obA))|(with_reducible first|refine W_regionF lv113 fun K hK=>?_|refine W_drawnF lv113 fun K hK=>?_));try simp only [↓pb,↓pd,qds,tb113,hat,hEg,irN,nrA,nrM,nrE,reduceIte,reduceCtorEq,nrL])|((first|((with_reducible first|apply WO_gT|apply WO_gF|apply WD_gT|apply WD_gF);exact rfl)|(with_reducible apply W_cond));(simp only [↓pb,qbs,tb113,hat,hEg,irN,nrA,nrM,nrE,reduceIte,reduceCtorEq,nrL];with_reducible exact rfl);all_goals (intro hc;(first|exact hcX hc|try simp only [hcs] at hc);try ((with_reducible first|apply woI|apply wdI);simp only [↓pb,↓pd,qds,tb113,hat,hc,hEg,irN,nrA,nrM,nrE,reduceIte,reduceCtorEq,nrL])))|((with_reducible apply WO_gU);exact rfl;(focus (simp only [↓pb,qbs,tb113,hat,hEg,irN,nrA,nrM,nrE,reduceIte,reduceCtorEq,nrL];done));try simp only [↓pb,↓pd,qds,tb113,hat,hEg,irN,nrA,nrM,nrE,reduceIte,reduceCtorEq,nrL])|((with_reducible apply WD_gU);exact rfl;(focus (simp only [↓pb,qbs,tb113,hat,hEg,irN,nrA,nrM,nrE,reduceIte,reduceCtorEq,nrL];done));try simp only [↓pb,↓pd,qds,tb113,hat,hEg,irN,nrA,nrM,nrE,reduceIte,reduceCtorEq,nrL])|(with_reducible first|refine W_seq ?_|refine W_block ?_|refine W_skip ?_|refine W_ret ?_|refine W_exit ?_|apply blockK_exit)|((with_reducible apply blockK_pass);(focus decide))|fail)
    refine ⟨by omega,by simp only [↓pb,qbs,tb113,hat,hEg,irN,nrA,nrM,nrE,reduceIte,reduceCtorEq,nrL];exact congrArg _ (inc64 (by omega)),by focus exact frA, ?_⟩
    refine ⟨Y3,g3,l3,fun p q hp hq=>?_⟩
    rw [t3 p q hp hq]
    congr 1
    unfold cB
    by_cases e1:p < i1
    ·rw [if_pos e1,if_pos e1]
    ·rw [if_neg e1,if_neg e1]
     by_cases e2:p=i1
     ·rw [if_pos e2,if_pos e2,if_pos hq,if_neg (by omega)]
     ·rw [if_neg e2,if_neg e2]
  ·have e8:i2=8:=by omega
   subst e8
   have hF12:=hF1.trans hF2
   repeat' (first|((with_reducible refine hK _ _ fun e2 hEn=>?_);clear hK K;simp only [lv113,forallC,forallL,and_true] at hEn;(try simp only [↓pb,qbs,tb113,hat,hEg,irN,nrA,nrM,nrE,reduceIte,reduceCtorEq,nrL] at hEn);clear hEg;(try clear eg);have hEg:=hEn;clear hEn;rename Env=>eg)|((first|((with_reducible first|apply oV_intro|apply oH_intro|apply oB_intro);(simp (disch:=try exact dA) only [qcs,tb113,hat,hEg,irN,nrA,nrM,nrE,reduceIte,reduceCtorEq,nrL];with_reducible exact rfl))|((with_reducible first|apply oblA_and|apply oblR_and|apply oblO_and);(focus exact obA))|(with_reducible first|refine W_regionF lv113 fun K hK=>?_|refine W_drawnF lv113 fun K hK=>?_));try simp only [↓pb,↓pd,qds,tb113,hat,hEg,irN,nrA,nrM,nrE,reduceIte,reduceCtorEq,nrL])|((first|((with_reducible first|apply WO_gT|apply WO_gF|apply WD_gT|apply WD_gF);exact rfl)|(with_reducible apply W_cond));(simp only [↓pb,qbs,tb113,hat,hEg,irN,nrA,nrM,nrE,reduceIte,reduceCtorEq,nrL];with_reducible exact rfl);all_goals (intro hc;(first|exact hcX hc|try simp only [hcs] at hc);try ((with_reducible first|apply woI|apply wdI);simp only [↓pb,↓pd,qds,tb113,hat,hc,hEg,irN,nrA,nrM,nrE,reduceIte,reduceCtorEq,nrL])))|((with_reducible apply WO_gU);exact rfl;(focus (simp only [↓pb,qbs,tb113,hat,hEg,irN,nrA,nrM,nrE,reduceIte,reduceCtorEq,nrL];done));try simp only [↓pb,↓pd,qds,tb113,hat,hEg,irN,nrA,nrM,nrE,reduceIte,reduceCtorEq,nrL])|((with_reducible apply WD_gU);exact rfl;(focus (simp only [↓pb,qbs,tb113,hat,hEg,irN,nrA,nrM,nrE,reduceIte,reduceCtorEq,nrL];done));try simp only [↓pb,↓pd,qds,tb113,hat,hEg,irN,nrA,nrM,nrE,reduceIte,reduceCtorEq,nrL])|(with_reducible first|refine W_seq ?_|refine W_block ?_|refine W_skip ?_|refine W_ret ?_|refine W_exit ?_|apply blockK_exit)|((with_reducible apply blockK_pass);(focus decide))|fail)
   refine ⟨by omega,by simp only [↓pb,qbs,tb113,hat,hEg,irN,nrA,nrM,nrE,reduceIte,reduceCtorEq,nrL];exact congrArg _ (inc64 (by omega)),by focus exact frA, ?_⟩
   refine ⟨Y2,g2,l2,fun p q hp hq=>?_⟩
   rw [t2 p q hp hq]
   congr 1
   unfold cB
   by_cases e1:p < i1
   ·rw [if_pos e1,if_pos (by omega)]
   ·rw [if_neg e1]
    by_cases e2:p=i1
    ·rw [if_pos e2,if_neg (by omega),if_pos (by omega)]
    ·rw [if_neg e2,if_neg (by omega)]
     by_cases e3:p=i1 + 1
     ·rw [if_pos e3,if_neg (by omega)]
     ·rw [if_neg e3]
 ·have e8:i1=8:=by omega
  subst e8
  have hY:Y1=furB B:=by
   refine tB_ext l1 (furB_len B) fun p q hp hq=>?_
   rw [furB_at hp hq,t1 p q hp hq]
   congr 1
   unfold cB
   rw [if_pos hp]
  subst hY
  have hat1:=atB l1
  have r1:h1.rd (H.n + 2)=some ((furB B).map .bool):=by rw [rd_def,g1];rfl
  have gg1:h1.get (H.n + 1)=AObj.cells oB64 121 .ex:=by
   rw [hF1.old _ (by simp only [↓pb,qbs,tb113,hat,hEg,irN,nrA,nrM,nrE,reduceIte,reduceCtorEq,nrL];omega) (by simp)]
   simp (disch:=try exact dA) only [qcs,tb113,hat,hEg,irN,nrA,nrM,nrE,reduceIte,reduceCtorEq,nrL]
   rfl
  have hst:=stB (H:=h1) (b:=H.n + 1) (c:=(furB B).map Value.bool) (c':=oB64) (by rw [List.length_map];exact l1) oB64_len
  repeat' (first|((with_reducible refine hK _ _ fun e2 hEn=>?_);clear hK K;simp only [lv113,forallC,forallL,and_true] at hEn;(try simp only [↓pb,qbs,tb113,hat,hEg,irN,nrA,nrM,nrE,reduceIte,reduceCtorEq,nrL] at hEn);clear hEg;(try clear eg);have hEg:=hEn;clear hEn;rename Env=>eg)|((first|((with_reducible first|apply oV_intro|apply oH_intro|apply oB_intro);(simp (disch:=try exact dA) only [qcs,tb113,hat,r1,hat1,gg1,hst,hEg,irN,nrA,nrM,nrE,reduceIte,reduceCtorEq,nrL];with_reducible exact rfl))|((with_reducible first|apply oblA_and|apply oblR_and|apply oblO_and);(focus exact obA))|(with_reducible first|refine W_regionF lv113 fun K hK=>?_|refine W_drawnF lv113 fun K hK=>?_));try simp only [↓pb,↓pd,qds,tb113,hat,r1,hat1,gg1,hst,hEg,irN,nrA,nrM,nrE,reduceIte,reduceCtorEq,nrL])|((first|((with_reducible first|apply WO_gT|apply WO_gF|apply WD_gT|apply WD_gF);exact rfl)|(with_reducible apply W_cond));(simp only [↓pb,qbs,tb113,hat,r1,hat1,gg1,hst,hEg,irN,nrA,nrM,nrE,reduceIte,reduceCtorEq,nrL];with_reducible exact rfl);all_goals (intro hc;(first|exact hcX hc|try simp only [hcs] at hc);try ((with_reducible first|apply woI|apply wdI);simp only [↓pb,↓pd,qds,tb113,hat,r1,hat1,gg1,hst,hc,hEg,irN,nrA,nrM,nrE,reduceIte,reduceCtorEq,nrL])))|((with_reducible apply WO_gU);exact rfl;(focus (simp only [↓pb,qbs,tb113,hat,r1,hat1,gg1,hst,hEg,irN,nrA,nrM,nrE,reduceIte,reduceCtorEq,nrL];done));try simp only [↓pb,↓pd,qds,tb113,hat,r1,hat1,gg1,hst,hEg,irN,nrA,nrM,nrE,reduceIte,reduceCtorEq,nrL])|((with_reducible apply WD_gU);exact rfl;(focus (simp only [↓pb,qbs,tb113,hat,r1,hat1,gg1,hst,hEg,irN,nrA,nrM,nrE,reduceIte,reduceCtorEq,nrL];done));try simp only [↓pb,↓pd,qds,tb113,hat,r1,hat1,gg1,hst,hEg,irN,nrA,nrM,nrE,reduceIte,reduceCtorEq,nrL])|(with_reducible first|refine W_seq ?_|refine W_block ?_|refine W_skip ?_|refine W_ret ?_|refine W_exit ?_|apply blockK_exit)|((with_reducible apply blockK_pass);(focus decide))|fail)
  refine ⟨by first|exact .inl rfl|exact .inr rfl, ?_⟩
  rw [ret1 Try.results113]
  simp only [↓pb,qbs,tb113,hat,rv_tmp,rv_cell,hat1,hEg,irN,nrA,nrM,nrE,reduceIte,reduceCtorEq,nrL]
  repeat ((with_reducible apply oV_intro);(simp (disch:=try exact dA) only [qcs,tb113,hat,hat1,hEg,irN,nrA,nrM,nrE,reduceIte,reduceCtorEq,nrL];exact rfl))
  exact frA
theorem eqT {X Y:List Bool} {x y:Operand} (hx:X.length=64) (hy:Y.length=64):bopA Try.prog .eql 121 x y (.agg ⟨X.map .bool⟩) (.agg ⟨Y.map .bool⟩)=some (.bool (decide (X=Y))):=by
 rw [bop_eqlT und121 (by kernel_rfl) sz119 und119 (by kernel_rfl) sz4 und4 (by kernel_rfl) hx hy]
 congr 2
 have h:(eqRows X Y 8 0 8=true)↔X=Y:=by
  rw [eqRows_iff]
  constructor
  ·exact fun q=>tB_ext hx hy fun i j hi hj=>q i j (Nat.zero_le _) (by omega) hj
  ·rintro rfl i j _ _ _
   rfl
 by_cases e:X=Y
 ·rw [h.2 e,decide_eq_true e]
 ·rw [decide_eq_false e]
  cases q:eqRows X Y 8 0 8 with
  | false=>rfl
  | true=>exact absurd (h.1 q) e
theorem f81 (vl vd:Value) (names lim win:Int) (all:Bool) (l:List Lnk) (H:AHeap) (hT:Top H) (hvd:one vd) (S:SR H 3 l.length vl (l.flatMap eLnk)) (hl:l.length < 1000000) (hok:∀ i,i < l.length→0≤(l.getD i default).A∧(l.getD i default).A < 8∧0≤(l.getD i default).B∧(l.getD i default).B < 8) :
  ∃ v H',C8 (.fn 81) #[.agg ⟨eTill names lim win vl vd⟩,.bool all] H v H'∧v=.agg ⟨(tiesP all l).map .bool⟩∧Fr H.n [] H H':=by
 have so:=S.one
 refine Cl.ofW Try.func81 rfl (by kernel_rfl) (by rw [Try.ntmps81];exact Nat.le_of_ble_eq_true rfl) (by kernel_rfl) ?_
 have hEg:True:=trivial
 refine gcW [0,1] ?_
 intro eg hEn
 simp only [forallC,forallL,and_true] at hEn
 try simp only [↓pb,qbs,tb81,eTill,hvd,so,so.1,so.2,lns45 S,hEg,irN,nrA,nrM,nrE,reduceIte,reduceCtorEq,nrL] at hEn
 replace hEg:=hEn;clear hEn
 repeat' (first|((with_reducible refine hK _ _ fun e2 hEn=>?_);clear hK K;simp only [lv81,forallC,forallL,and_true] at hEn;(try simp only [↓pb,qbs,tb81,eTill,hvd,so,so.1,so.2,lns45 S,hEg,irN,nrA,nrM,nrE,reduceIte,reduceCtorEq,nrL] at hEn);clear hEg;(try clear eg);have hEg:=hEn;clear hEn;rename Env=>eg)|((first|((with_reducible first|apply oV_intro|apply oH_intro|apply oB_intro);(simp (disch:=try exact dA) only [qcs,tb81,eTill,hvd,so,so.1,so.2,lns45 S,hEg,irN,nrA,nrM,nrE,reduceIte,reduceCtorEq,nrL];with_reducible exact rfl))|((with_reducible first|apply oblA_and|apply oblR_and|apply oblO_and);(focus exact obA))|(with_reducible first|refine W_regionF lv81 fun K hK=>?_|refine W_drawnF lv81 fun K hK=>?_));try simp only [↓pb,↓pd,qds,tb81,eTill,hvd,so,so.1,so.2,lns45 S,hEg,irN,nrA,nrM,nrE,reduceIte,reduceCtorEq,nrL])|((first|((with_reducible first|apply WO_gT|apply WO_gF|apply WD_gT|apply WD_gF);exact rfl)|(with_reducible apply W_cond));(simp only [↓pb,qbs,tb81,eTill,hvd,so,so.1,so.2,lns45 S,hEg,irN,nrA,nrM,nrE,reduceIte,reduceCtorEq,nrL];with_reducible exact rfl);all_goals (intro hc;(first|exact hcX hc|try simp only [hcs] at hc);try ((with_reducible first|apply woI|apply wdI);simp only [↓pb,↓pd,qds,tb81,eTill,hvd,so,so.1,so.2,lns45 S,hc,hEg,irN,nrA,nrM,nrE,reduceIte,reduceCtorEq,nrL])))|(with_reducible first|refine W_seq ?_|refine W_block ?_|refine W_skip ?_|refine W_ret ?_|refine W_exit ?_|apply blockK_exit)|((with_reducible apply blockK_pass);(focus decide))|fail)
 refine W_count [1,2,4,5] (by kernel_rfl) 10 (8) (H.n) [H.n + 2] [] (fun i e h=>h.get (H.n + 2)=.cells ((idB i).map .bool) 121 .ex) (by simp only [↓pb,qbs,tb81,eTill,hvd,so,so.1,so.2,lns45 S,hEg,irN,nrA,nrM,nrE,reduceIte,reduceCtorEq,nrL]) (by focus exact topA) (H0:=H) (by focus exact frA) (by intro b hb hlt;simp at hb ⊢;try omega) ?_ ?_
 rotate_left
 intro i1 e1 h1 hi1 hE1 ei1 hF1 hF01 hTh1 hJ1
 simp only [forallC,forallL,and_true] at hE1
 try simp only [↓pb,qbs,tb81,eTill,hvd,so,so.1,so.2,lns45 S,hEg,irN,nrA,nrM,nrE,reduceIte,reduceCtorEq,nrL] at hE1
 have hn11:=hF1.n;have hn01:=hF01.n;try simp only [upd_n,jn_n] at hn11
 replace hEg:=And.intro ei1 hE1
 rotate_left
 ·simp (disch:=try exact dA) only [qcs,tb81,eTill,hvd,so,so.1,so.2,lns45 S,hEg,irN,nrA,nrM,nrE,reduceIte,reduceCtorEq,nrL]
  rfl
 by_cases hi:i1 < 8
 ·have hl1:((idB i1).map Value.bool).length=64:=by rw [List.length_map];exact idB_len i1
  repeat' (first|((with_reducible refine hK _ _ fun e2 hEn=>?_);clear hK K;simp only [lv81,forallC,forallL,and_true] at hEn;(try simp only [↓pb,qbs,tb81,eTill,hvd,so,so.1,so.2,lns45 S,hEg,irN,nrA,nrM,nrE,reduceIte,reduceCtorEq,nrL] at hEn);clear hEg;(try clear eg);have hEg:=hEn;clear hEn;rename Env=>eg)|((first|((with_reducible first|apply oV_intro|apply oH_intro|apply oB_intro);(simp (disch:=try exact dA) only [qcs,tb81,eTill,hvd,so,so.1,so.2,lns45 S,hJ1,hl1,Nat.mul_one,Nat.zero_add,Int.toNat_natCast,hEg,irN,nrA,nrM,nrE,reduceIte,reduceCtorEq,nrL];with_reducible exact rfl))|((with_reducible first|apply oblA_and|apply oblR_and|apply oblO_and);(focus exact obA))|(with_reducible first|refine W_regionF lv81 fun K hK=>?_|refine W_drawnF lv81 fun K hK=>?_));try simp only [↓pb,↓pd,qds,tb81,eTill,hvd,so,so.1,so.2,lns45 S,hJ1,hl1,Nat.mul_one,Nat.zero_add,Int.toNat_natCast,hEg,irN,nrA,nrM,nrE,reduceIte,reduceCtorEq,nrL])|((first|((with_reducible first|apply WO_gT|apply WO_gF|apply WD_gT|apply WD_gF);exact rfl)|(with_reducible apply W_cond));(simp only [↓pb,qbs,tb81,eTill,hvd,so,so.1,so.2,lns45 S,hJ1,hl1,Nat.mul_one,Nat.zero_add,Int.toNat_natCast,hEg,irN,nrA,nrM,nrE,reduceIte,reduceCtorEq,nrL];with_reducible exact rfl);all_goals (intro hc;(first|exact hcX hc|try simp only [hcs] at hc);try ((with_reducible first|apply woI|apply wdI);simp only [↓pb,↓pd,qds,tb81,eTill,hvd,so,so.1,so.2,lns45 S,hJ1,hl1,Nat.mul_one,Nat.zero_add,Int.toNat_natCast,hc,hEg,irN,nrA,nrM,nrE,reduceIte,reduceCtorEq,nrL])))|(with_reducible first|refine W_seq ?_|refine W_block ?_|refine W_skip ?_|refine W_ret ?_|refine W_exit ?_|apply blockK_exit)|((with_reducible apply blockK_pass);(focus decide))|fail)
  refine ⟨by omega,by simp only [↓pb,qbs,tb81,eTill,hvd,so,so.1,so.2,lns45 S,hEg,irN,nrA,nrM,nrE,reduceIte,reduceCtorEq,nrL];exact congrArg _ (inc64 (by omega)),by focus exact frA, ?_⟩
  rw [upd_get_same,idB,List.map_set]
 have e8:i1=8:=by omega
 subst e8
 have r0:h1.rd H.n=some (eTill names lim win vl vd):=by
  rw [rd_def,hF1.old _ (by simp only [↓pb,qbs,tb81,eTill,hvd,so,so.1,so.2,lns45 S,hEg,irN,nrA,nrM,nrE,reduceIte,reduceCtorEq,nrL];omega) (by simp)]
  simp (disch:=try exact dA) only [qcs,tb81,eTill,hvd,so,so.1,so.2,lns45 S,hEg,irN,nrA,nrM,nrE,reduceIte,reduceCtorEq,nrL]
 rw [eTill] at r0
 have S1:=S.fr0 hF01
 repeat' (first|((with_reducible refine hK _ _ fun e2 hEn=>?_);clear hK K;simp only [lv81,forallC,forallL,and_true] at hEn;(try simp only [↓pb,qbs,tb81,eTill,hvd,so,so.1,so.2,lns45 S,hEg,irN,nrA,nrM,nrE,reduceIte,reduceCtorEq,nrL] at hEn);clear hEg;(try clear eg);have hEg:=hEn;clear hEn;rename Env=>eg)|((first|((with_reducible first|apply oV_intro|apply oH_intro|apply oB_intro);(simp (disch:=try exact dA) only [qcs,tb81,eTill,hvd,so,so.1,so.2,lns45 S,r0,hEg,irN,nrA,nrM,nrE,reduceIte,reduceCtorEq,nrL];with_reducible exact rfl))|((with_reducible first|apply oblA_and|apply oblR_and|apply oblO_and);(focus exact obA))|(with_reducible first|refine W_regionF lv81 fun K hK=>?_|refine W_drawnF lv81 fun K hK=>?_));try simp only [↓pb,↓pd,qds,tb81,eTill,hvd,so,so.1,so.2,lns45 S,r0,hEg,irN,nrA,nrM,nrE,reduceIte,reduceCtorEq,nrL])|((first|((with_reducible first|apply WO_gT|apply WO_gF|apply WD_gT|apply WD_gF);exact rfl)|(with_reducible apply W_cond));(simp only [↓pb,qbs,tb81,eTill,hvd,so,so.1,so.2,lns45 S,r0,hEg,irN,nrA,nrM,nrE,reduceIte,reduceCtorEq,nrL];with_reducible exact rfl);all_goals (intro hc;(first|exact hcX hc|try simp only [hcs] at hc);try ((with_reducible first|apply woI|apply wdI);simp only [↓pb,↓pd,qds,tb81,eTill,hvd,so,so.1,so.2,lns45 S,r0,hc,hEg,irN,nrA,nrM,nrE,reduceIte,reduceCtorEq,nrL])))|(with_reducible first|refine W_seq ?_|refine W_block ?_|refine W_skip ?_|refine W_ret ?_|refine W_exit ?_|apply blockK_exit)|((with_reducible apply blockK_pass);(focus decide))|fail)
 refine W_count [1,4,5,19,20] (by kernel_rfl) 21 (l.length) (H.n) [H.n + 2] [] (fun i e h=>h.get (H.n + 2)=.cells ((lnksB all (idB 8) (l.take i)).map .bool) 121 .ex) (by simp only [↓pb,qbs,tb81,eTill,hvd,so,so.1,so.2,lns45 S,hEg,irN,nrA,nrM,nrE,reduceIte,reduceCtorEq,nrL]) (by focus exact topA) (H0:=H) (by focus exact frA) (by intro b hb hlt;simp at hb ⊢;try omega) ?_ ?_
 rotate_left
 intro i2 e2 h2 hi2 hE2 ei2 hF2 hF02 hTh2 hJ2
 simp only [forallC,forallL,and_true] at hE2
 try simp only [↓pb,qbs,tb81,eTill,hvd,so,so.1,so.2,lns45 S,hEg,irN,nrA,nrM,nrE,reduceIte,reduceCtorEq,nrL] at hE2
 have hn12:=hF2.n;have hn02:=hF02.n;try simp only [upd_n,jn_n] at hn12
 replace hEg:=And.intro ei2 hE2
 rotate_left
 ·rw [List.take_zero]
  exact hJ1
 have S2:=S.fr0 hF02
 have l2:=S2.lt
 by_cases hi:i2 < l.length
 ·have hs:=lnksB_snoc all (idB 8) (l.take i2) (l.getD i2 default)
  rw [← take_getD hi] at hs
  have hYl:=lnksB_len (all:=all) (l.take i2) (idB_len 8)
  rw [hs]
  generalize lnksB all (idB 8) (l.take i2)=Y at hJ2 hYl
  have hYm:(Y.map Value.bool).length=64:=by rw [List.length_map];exact hYl
  have hYs:((Y.map Value.bool).set ((l.getD i2 default).A.toNat * 8 + (l.getD i2 default).B.toNat) (.bool true)).length=64:=by rw [List.length_set];exact hYm
  have e0:=S2.el eLnk_len rfl
  obtain ⟨ha1,ha2,hb1,hb2⟩:=hok i2 hi
  have hY2:∀ x:Bool,lnkB all Y (l.getD i2 default)=if (all || (l.getD i2 default).Sure)=true then (Y.set ((l.getD i2 default).A.toNat * 8 + (l.getD i2 default).B.toNat) true).set ((l.getD i2 default).B.toNat * 8 + (l.getD i2 default).A.toNat) true else Y:=fun _=>rfl
  have hY2:=hY2 true
  cases hsu:(l.getD i2 default).Sure
  all_goals cases all
  all_goals rw [hsu] at hY2
  all_goals simp only [Bool.or_true,Bool.true_or,Bool.or_false,Bool.false_eq_true,if_true,if_false] at hY2
  all_goals rw [hY2]
  all_goals (
   repeat' (first|((with_reducible refine hK _ _ fun e2 hEn=>?_);clear hK K;simp only [lv81,forallC,forallL,and_true] at hEn;(try simp only [↓pb,qbs,tb81,eTill,hvd,so,so.1,so.2,lns45 S,hEg,irN,nrA,nrM,nrE,reduceIte,reduceCtorEq,nrL] at hEn);clear hEg;(try clear eg);have hEg:=hEn;clear hEn;rename Env=>eg)|((first|((with_reducible first|apply oV_intro|apply oH_intro|apply oB_intro);(simp (disch:=try exact dA) only [qcs,tb81,eTill,hvd,so,so.1,so.2,lns45 S,ias45 S2,S2.rd,e0,eLnk,hsu,hJ2,Nat.mul_one,Nat.zero_add,hEg,irN,nrA,nrM,nrE,reduceIte,reduceCtorEq,nrL];with_reducible exact rfl))|((with_reducible first|apply oblA_and|apply oblR_and|apply oblO_and);(focus exact obA))|(with_reducible first|refine W_regionF lv81 fun K hK=>?_|refine W_drawnF lv81 fun K hK=>?_));try simp only [↓pb,↓pd,qds,tb81,eTill,hvd,so,so.1,so.2,lns45 S,ias45 S2,S2.rd,e0,eLnk,hsu,hJ2,Nat.mul_one,Nat.zero_add,hEg,irN,nrA,nrM,nrE,reduceIte,reduceCtorEq,nrL])|((first|((with_reducible first|apply WO_gT|apply WO_gF|apply WD_gT|apply WD_gF);exact rfl)|(with_reducible apply W_cond));(simp only [↓pb,qbs,tb81,eTill,hvd,so,so.1,so.2,lns45 S,ias45 S2,S2.rd,e0,eLnk,hsu,hJ2,Nat.mul_one,Nat.zero_add,hEg,irN,nrA,nrM,nrE,reduceIte,reduceCtorEq,nrL];with_reducible exact rfl);all_goals (intro hc;(first|exact hcX hc|try simp only [hcs] at hc);try ((with_reducible first|apply woI|apply wdI);simp only [↓pb,↓pd,qds,tb81,eTill,hvd,so,so.1,so.2,lns45 S,ias45 S2,S2.rd,e0,eLnk,hsu,hJ2,Nat.mul_one,Nat.zero_add,hc,hEg,irN,nrA,nrM,nrE,reduceIte,reduceCtorEq,nrL])))|(with_reducible first|refine W_seq ?_|refine W_block ?_|refine W_skip ?_|refine W_ret ?_|refine W_exit ?_|apply blockK_exit)|((with_reducible apply blockK_pass);(focus decide))|fail))
  ·refine ⟨by omega,by simp only [↓pb,qbs,tb81,eTill,hvd,so,so.1,so.2,lns45 S,hEg,irN,nrA,nrM,nrE,reduceIte,reduceCtorEq,nrL];exact congrArg _ (inc64 (by omega)),by focus exact frA, ?_⟩
   rw [upd_get_ne (by omega)]
   exact hJ2
  all_goals (
   refine ⟨by omega,by simp only [↓pb,qbs,tb81,eTill,hvd,so,so.1,so.2,lns45 S,hEg,irN,nrA,nrM,nrE,reduceIte,reduceCtorEq,nrL];exact congrArg _ (inc64 (by omega)),by focus exact frA, ?_⟩)
  all_goals rw [upd_get_same,List.map_set,List.map_set]
 have e2n:i2=l.length:=by omega
 subst e2n
 rw [List.take_length] at hJ2
 have hYl:=lnksB_len (all:=all) l (idB_len 8)
 repeat' (first|((with_reducible refine hK _ _ fun e2 hEn=>?_);clear hK K;simp only [lv81,forallC,forallL,and_true] at hEn;(try simp only [↓pb,qbs,tb81,eTill,hvd,so,so.1,so.2,lns45 S,hEg,irN,nrA,nrM,nrE,reduceIte,reduceCtorEq,nrL] at hEn);clear hEg;(try clear eg);have hEg:=hEn;clear hEn;rename Env=>eg)|((first|((with_reducible first|apply oV_intro|apply oH_intro|apply oB_intro);(simp (disch:=try exact dA) only [qcs,tb81,eTill,hvd,so,so.1,so.2,lns45 S,hEg,irN,nrA,nrM,nrE,reduceIte,reduceCtorEq,nrL];with_reducible exact rfl))|((with_reducible first|apply oblA_and|apply oblR_and|apply oblO_and);(focus exact obA))|(with_reducible first|refine W_regionF lv81 fun K hK=>?_|refine W_drawnF lv81 fun K hK=>?_));try simp only [↓pb,↓pd,qds,tb81,eTill,hvd,so,so.1,so.2,lns45 S,hEg,irN,nrA,nrM,nrE,reduceIte,reduceCtorEq,nrL])|((first|((with_reducible first|apply WO_gT|apply WO_gF|apply WD_gT|apply WD_gF);exact rfl)|(with_reducible apply W_cond));(simp only [↓pb,qbs,tb81,eTill,hvd,so,so.1,so.2,lns45 S,hEg,irN,nrA,nrM,nrE,reduceIte,reduceCtorEq,nrL];with_reducible exact rfl);all_goals (intro hc;(first|exact hcX hc|try simp only [hcs] at hc);try ((with_reducible first|apply woI|apply wdI);simp only [↓pb,↓pd,qds,tb81,eTill,hvd,so,so.1,so.2,lns45 S,hc,hEg,irN,nrA,nrM,nrE,reduceIte,reduceCtorEq,nrL])))|(with_reducible first|refine W_seq ?_|refine W_block ?_|refine W_skip ?_|refine W_ret ?_|refine W_exit ?_|apply blockK_exit)|((with_reducible apply blockK_pass);(focus decide))|fail)
 refine W_while [4,5] (by kernel_rfl) (H.n) [H.n + 2] [] (fun s e h=>h.get (H.n + 2)=.cells (s.2.map .bool) 121 .ex∧s.2.length=64∧offB s.2 < s.1∧tiesP all l=closeGo s.1 s.2) (fun s=>s.1) (((65:Nat),lnksB all (idB 8) l)) (by focus exact topA) (H0:=H) (by focus exact frA) (by intro b hb hlt;simp at hb ⊢;try omega) ?_ ?_
 rotate_left
 intro s3 e3 h3 hE3 hF3 hF03 hTh3 hJ3
 simp only [forallC,forallL,and_true] at hE3
 try simp only [↓pb,qbs,tb81,eTill,hvd,so,so.1,so.2,lns45 S,hEg,irN,nrA,nrM,nrE,reduceIte,reduceCtorEq,nrL] at hE3
 have hn13:=hF3.n;have hn03:=hF03.n;try simp only [upd_n,jn_n] at hn13
 replace hEg:=hE3
 rotate_left
 ·refine ⟨hJ2,hYl, ?_,rfl⟩
  have:offB (lnksB all (idB 8) l)≤(lnksB all (idB 8) l).length:=List.length_filter_le ..
  dsimp only
  omega
 obtain ⟨g3,l3,o3,c3⟩:=hJ3
 obtain ⟨k,Y⟩:=s3
 dsimp only at g3 l3 o3 c3
 have r3:h3.rd (H.n + 2)=some (Y.map .bool):=by rw [rd_def,g3];rfl
 have hat:=atB l3
 have hfl:((furB Y).map Value.bool).length=64:=by rw [List.length_map];exact furB_len Y
 have hst:=fun (h:AHeap) (b:Nat)=>stZ (H:=h) (b:=b) hfl
 have hat2:=atB (furB_len Y)
 have heq:=fun (x y:Operand)=>eqT (x:=x) (y:=y) l3 (furB_len Y)
 have hYm:(Y.map Value.bool).length=64:=by rw [List.length_map];exact l3
 have hst1:=fun (h:AHeap) (b:Nat)=>stB (H:=h) (b:=b) hfl hYm
 have hst2:=fun (h:AHeap) (b:Nat)=>stB (H:=h) (b:=b) hYm oB64_len
 have gg:h3.get (H.n + 1)=.cells oB64 121 .ex:=by
  rw [hF3.old _ (by omega) (by simp),hF2.old _ (by omega) (by simp),hF1.old _ (by simp only [↓pb,qbs,tb81,eTill,hvd,so,so.1,so.2,lns45 S,hEg,irN,nrA,nrM,nrE,reduceIte,reduceCtorEq,nrL];omega) (by simp)]
  simp (disch:=try exact dA) only [qcs,tb81,eTill,hvd,so,so.1,so.2,lns45 S,hEg,irN,nrA,nrM,nrE,reduceIte,reduceCtorEq,nrL]
  rfl
 repeat' (first|((with_reducible refine hK _ _ fun e2 hEn=>?_);clear hK K;simp only [lv81,forallC,forallL,and_true] at hEn;(try simp only [↓pb,qbs,tb81,eTill,hvd,so,so.1,so.2,lns45 S,hEg,irN,nrA,nrM,nrE,reduceIte,reduceCtorEq,nrL] at hEn);clear hEg;(try clear eg);have hEg:=hEn;clear hEn;rename Env=>eg)|((first|((with_reducible first|apply oV_intro|apply oH_intro|apply oB_intro);(simp (disch:=try exact dA) only [qcs,tb81,eTill,hvd,so,so.1,so.2,lns45 S,r3,hat,hst,hat2,heq,g3,gg,hst1,hst2,hEg,irN,nrA,nrM,nrE,reduceIte,reduceCtorEq,nrL];with_reducible exact rfl))|((with_reducible first|apply oblA_and|apply oblR_and|apply oblO_and);(focus exact obA))|((with_reducible apply WO_callV);(focus exact topA);(simp only [↓pb,qbs,tb81,eTill,hvd,so,so.1,so.2,lns45 S,r3,hat,hst,hat2,heq,g3,gg,hst1,hst2,hEg,irN,nrA,nrM,nrE,reduceIte,reduceCtorEq,nrL];(exact f113 Y l3 _ (by exact topA)));(intro Gq hq hJq;try simp only [upd_n,jn_n] at hq))|(with_reducible first|refine W_regionF lv81 fun K hK=>?_|refine W_drawnF lv81 fun K hK=>?_));try simp only [↓pb,↓pd,qds,tb81,eTill,hvd,so,so.1,so.2,lns45 S,r3,hat,hst,hat2,heq,g3,gg,hst1,hst2,hEg,irN,nrA,nrM,nrE,reduceIte,reduceCtorEq,nrL])|((first|((with_reducible first|apply WO_gT|apply WO_gF|apply WD_gT|apply WD_gF);exact rfl)|(with_reducible apply W_cond));(simp only [↓pb,qbs,tb81,eTill,hvd,so,so.1,so.2,lns45 S,r3,hat,hst,hat2,heq,g3,gg,hst1,hst2,hEg,irN,nrA,nrM,nrE,reduceIte,reduceCtorEq,nrL];with_reducible exact rfl);all_goals (intro hc;(first|exact hcX hc|try simp only [hcs] at hc);try ((with_reducible first|apply woI|apply wdI);simp only [↓pb,↓pd,qds,tb81,eTill,hvd,so,so.1,so.2,lns45 S,r3,hat,hst,hat2,heq,g3,gg,hst1,hst2,hc,hEg,irN,nrA,nrM,nrE,reduceIte,reduceCtorEq,nrL])))|(with_reducible first|refine W_seq ?_|refine W_block ?_|refine W_skip ?_|refine W_ret ?_|refine W_exit ?_|apply blockK_exit)|((with_reducible apply blockK_pass);(focus decide))|fail)
 ·refine ⟨by first|exact .inl rfl|exact .inr rfl, ?_⟩
  rw [ret1 Try.results81]
  simp only [↓pb,qbs,tb81,eTill,hvd,so,so.1,so.2,lns45 S,rv_tmp,rv_cell,hat,hEg,irN,nrA,nrM,nrE,reduceIte,reduceCtorEq,nrL]
  repeat ((with_reducible apply oV_intro);(simp (disch:=try exact dA) only [qcs,tb81,eTill,hvd,so,so.1,so.2,lns45 S,hat,hEg,irN,nrA,nrM,nrE,reduceIte,reduceCtorEq,nrL];exact rfl))
  refine ⟨?_, ?_⟩
  ·obtain ⟨m,rfl⟩:∃ m,k=m + 1:=⟨k - 1,by omega⟩
   rw [c3,closeGo,if_pos hc]
  ·exact frA
 ·have ho:=furB_off l3 hc
  obtain ⟨m,rfl⟩:∃ m,k=m + 1:=⟨k - 1,by omega⟩
  refine ⟨(m,furB Y),Nat.lt_succ_self _,by exact frA,by simp (disch:=try exact dA) only [qcs,tb81,eTill,hvd,so,so.1,so.2,lns45 S,hEg,irN,nrA,nrM,nrE,reduceIte,reduceCtorEq,nrL],furB_len Y, ?_, ?_⟩
  ·show offB (furB Y) < m
   omega
  ·rw [c3,closeGo,if_neg hc]
theorem f110 (o x:Lnk) (bp:Nat) (H:AHeap) (hT:Top H) (hb:bp < H.n) (hx:H.rd bp=some (eLnk x)):∃ v H',C8 (.fn 110) #[.agg ⟨eLnk o⟩,vptr bp 0] H v H'∧v=.bool (sameL o x)∧Fr H.n [] H H':=by
 rw [eLnk] at hx
 refine Cl.ofW Try.func110 rfl (by kernel_rfl) (by rw [Try.ntmps110];exact Nat.le_of_ble_eq_true rfl) (by kernel_rfl) ?_
 have hEg:True:=trivial
 refine gcW [0,1] ?_
 intro eg hEn
 simp only [forallC,forallL,and_true] at hEn
 try simp only [↓pb,qbs,tb110,eLnk,hx,hEg,irN,nrA,nrM,nrE,reduceIte,reduceCtorEq,nrL] at hEn
 replace hEg:=hEn;clear hEn
 repeat' (first|((with_reducible refine hK _ _ fun e2 hEn=>?_);clear hK K;simp only [lv110,forallC,forallL,and_true] at hEn;(try simp only [↓pb,qbs,tb110,eLnk,hx,hEg,irN,nrA,nrM,nrE,reduceIte,reduceCtorEq,nrL] at hEn);clear hEg;(try clear eg);have hEg:=hEn;clear hEn;rename Env=>eg)|((first|((with_reducible first|apply oV_intro|apply oH_intro|apply oB_intro);(simp (disch:=try exact dA) only [qcs,tb110,eLnk,hx,hEg,irN,nrA,nrM,nrE,reduceIte,reduceCtorEq,nrL];with_reducible exact rfl))|(with_reducible first|refine W_regionF lv110 fun K hK=>?_));try simp only [↓pb,↓pd,qds,tb110,eLnk,hx,hEg,irN,nrA,nrM,nrE,reduceIte,reduceCtorEq,nrL])|(((with_reducible first|apply WO_gT|apply WO_gF);exact rfl);(simp only [↓pb,qbs,tb110,eLnk,hx,hEg,irN,nrA,nrM,nrE,reduceIte,reduceCtorEq,nrL];with_reducible exact rfl);all_goals (intro hc;(first|exact hcX hc|try simp only [hcs] at hc);try ((with_reducible apply woI);simp only [↓pb,↓pd,qds,tb110,eLnk,hx,hc,hEg,irN,nrA,nrM,nrE,reduceIte,reduceCtorEq,nrL])))|((with_reducible apply WO_gU);exact rfl;(focus (simp only [↓pb,qbs,tb110,eLnk,hx,hEg,irN,nrA,nrM,nrE,reduceIte,reduceCtorEq,nrL];done));try simp only [↓pb,↓pd,qds,tb110,eLnk,hx,hEg,irN,nrA,nrM,nrE,reduceIte,reduceCtorEq,nrL])|(with_reducible first|refine W_seq ?_|refine W_ret ?_)|fail)
 all_goals (
  refine ⟨by first|exact .inl rfl|exact .inr rfl, ?_⟩
  rw [ret1 Try.results110]
  simp only [↓pb,qbs,tb110,eLnk,hx,rv_tmp,rv_cell,hEg,irN,nrA,nrM,nrE,reduceIte,reduceCtorEq,nrL]
  repeat ((with_reducible apply oV_intro);(simp (disch:=try exact dA) only [qcs,tb110,eLnk,hx,hEg,irN,nrA,nrM,nrE,reduceIte,reduceCtorEq,nrL];exact rfl)))
 all_goals refine ⟨?_, ?_⟩
 all_goals first
  | exact frA
  | (unfold sameL;simp only [*,decide_true,decide_false,Bool.and_true,Bool.true_and,Bool.and_false,Bool.false_and,Bool.or_true,Bool.true_or,Bool.or_false,Bool.false_or];done)
  | (unfold sameL;by_cases a1:o.A=x.A <;> by_cases a2:o.B=x.B <;> by_cases a3:o.A=x.B <;> by_cases a4:o.B=x.A <;> simp_all;done)
theorem f123 (vl:Value) (l:List Lnk) (x:Lnk) (bp:Nat) (H:AHeap) (hT:Top H) (S:SR H 3 l.length vl (l.flatMap eLnk)) (hl:l.length < 1000000) (hb:bp < H.n) (hx:H.rd bp=some (eLnk x)) :
  ∃ v H',C8 (.fn 123) #[vl,.func (.func 110) #[] #[vptr bp 0]] H v H'∧(∃ i:Int,v=iv i∧(0≤i↔l.any (fun o=>sameL o x)=true))∧Fr H.n [] H H':=by
 have so:=S.one
 refine Cl.ofW Try.func123 rfl (by kernel_rfl) (by rw [Try.ntmps123];exact Nat.le_of_ble_eq_true rfl) (by kernel_rfl) ?_
 have hEg:True:=trivial
 refine gcW [0,1] ?_
 intro eg hEn
 simp only [forallC,forallL,and_true] at hEn
 try simp only [↓pb,qbs,tb123,so,so.1,so.2,lns45 S,hEg,irN,nrA,nrM,nrE,reduceIte,reduceCtorEq,nrL] at hEn
 replace hEg:=hEn;clear hEn
 repeat' (first|((with_reducible refine hK _ _ fun e2 hEn=>?_);clear hK K;simp only [lv123,forallC,forallL,and_true] at hEn;(try simp only [↓pb,qbs,tb123,so,so.1,so.2,lns45 S,hEg,irN,nrA,nrM,nrE,reduceIte,reduceCtorEq,nrL] at hEn);clear hEg;(try clear eg);have hEg:=hEn;clear hEn;rename Env=>eg)|((first|((with_reducible first|apply oV_intro|apply oH_intro|apply oB_intro);(simp (disch:=try exact dA) only [qcs,tb123,so,so.1,so.2,lns45 S,hEg,irN,nrA,nrM,nrE,reduceIte,reduceCtorEq,nrL];with_reducible exact rfl))|(with_reducible first|refine W_regionF lv123 fun K hK=>?_));try simp only [↓pb,↓pd,qds,tb123,so,so.1,so.2,lns45 S,hEg,irN,nrA,nrM,nrE,reduceIte,reduceCtorEq,nrL])|((with_reducible apply W_cond);(simp only [↓pb,qbs,tb123,so,so.1,so.2,lns45 S,hEg,irN,nrA,nrM,nrE,reduceIte,reduceCtorEq,nrL];with_reducible exact rfl);all_goals (intro hc;(first|exact hcX hc|try simp only [hcs] at hc)))|(with_reducible first|refine W_seq ?_|refine W_block ?_|refine W_skip ?_|refine W_ret ?_|refine W_exit ?_|apply blockK_exit)|((with_reducible apply blockK_pass);(focus decide))|fail)
 refine W_count [0,1,7] (by kernel_rfl) 8 (l.length) (H.n) [] [] (fun i e h=>(l.take i).any (fun o=>sameL o x)=false) (by simp only [↓pb,qbs,tb123,so,so.1,so.2,lns45 S,hEg,irN,nrA,nrM,nrE,reduceIte,reduceCtorEq,nrL]) (by focus exact topA) (H0:=H) (by focus exact frA) (by intro b hb hlt;simp at hb ⊢;try omega) ?_ ?_
 rotate_left
 intro i1 e1 h1 hi1 hE1 ei1 hF1 hF01 hTh1 hJ1
 simp only [forallC,forallL,and_true] at hE1
 try simp only [↓pb,qbs,tb123,so,so.1,so.2,lns45 S,hEg,irN,nrA,nrM,nrE,reduceIte,reduceCtorEq,nrL] at hE1
 have hn11:=hF1.n;have hn01:=hF01.n;try simp only [upd_n,jn_n] at hn11
 replace hEg:=And.intro ei1 hE1
 rotate_left
 ·rfl
 have S1:=S.fr0 hF01
 have l1:=S1.lt
 have e0:=S1.el eLnk_len rfl
 have hx1:h1.rd bp=some (eLnk x):=by rw [rd_def,hF01.old _ hb (by simp),← rd_def];exact hx
 by_cases hi:i1 < l.length
 ·have ht:(l.take (i1 + 1)).any (fun o=>sameL o x)=((l.take i1).any (fun o=>sameL o x) || sameL (l.getD i1 default) x):=by rw [take_getD hi,List.any_append];simp
  repeat' (first|((with_reducible refine hK _ _ fun e2 hEn=>?_);clear hK K;simp only [lv123,forallC,forallL,and_true] at hEn;(try simp only [↓pb,qbs,tb123,so,so.1,so.2,lns45 S,hEg,irN,nrA,nrM,nrE,reduceIte,reduceCtorEq,nrL] at hEn);clear hEg;(try clear eg);have hEg:=hEn;clear hEn;rename Env=>eg)|((first|((with_reducible first|apply oV_intro|apply oH_intro|apply oB_intro);(simp (disch:=try exact dA) only [qcs,tb123,so,so.1,so.2,lns45 S,ias45 S1,S1.rd,e0,hEg,irN,nrA,nrM,nrE,reduceIte,reduceCtorEq,nrL];with_reducible exact rfl))|((with_reducible apply WO_callV);(focus exact topA);(simp only [↓pb,qbs,tb123,so,so.1,so.2,lns45 S,ias45 S1,S1.rd,e0,hEg,irN,nrA,nrM,nrE,reduceIte,reduceCtorEq,nrL];(exact f110 (l.getD i1 default) x bp _ (by exact topA) (by omega) hx1));(intro Gq hq hJq;try simp only [upd_n,jn_n] at hq))|(with_reducible first|refine W_regionF lv123 fun K hK=>?_));try simp only [↓pb,↓pd,qds,tb123,so,so.1,so.2,lns45 S,ias45 S1,S1.rd,e0,hEg,irN,nrA,nrM,nrE,reduceIte,reduceCtorEq,nrL])|((with_reducible apply W_cond);(simp only [↓pb,qbs,tb123,so,so.1,so.2,lns45 S,ias45 S1,S1.rd,e0,hEg,irN,nrA,nrM,nrE,reduceIte,reduceCtorEq,nrL];with_reducible exact rfl);all_goals (intro hc;(first|exact hcX hc|try simp only [hcs] at hc)))|(with_reducible first|refine W_seq ?_|refine W_block ?_|refine W_skip ?_|refine W_ret ?_|refine W_exit ?_|apply blockK_exit)|((with_reducible apply blockK_pass);(focus decide))|fail)
  ·refine ⟨by first|exact .inl rfl|exact .inr rfl, ?_⟩
   rw [ret1 Try.results123]
   simp only [↓pb,qbs,tb123,so,so.1,so.2,lns45 S,rv_tmp,rv_cell,hEg,irN,nrA,nrM,nrE,reduceIte,reduceCtorEq,nrL]
   repeat ((with_reducible apply oV_intro);(simp (disch:=try exact dA) only [qcs,tb123,so,so.1,so.2,lns45 S,hEg,irN,nrA,nrM,nrE,reduceIte,reduceCtorEq,nrL];exact rfl))
   refine ⟨⟨i1,rfl,fun _=>?_,fun _=>by omega⟩,by exact frA⟩
   rw [← List.take_append_drop (i1 + 1) l,List.any_append,ht,hc]
   simp
  ·refine ⟨by omega,by simp only [↓pb,qbs,tb123,so,so.1,so.2,lns45 S,hEg,irN,nrA,nrM,nrE,reduceIte,reduceCtorEq,nrL];exact congrArg _ (inc64 (by omega)),by focus exact frA, ?_⟩
   rw [ht,hJ1,hc]
   rfl
 ·have ei:i1=l.length:=by omega
  subst ei
  rw [List.take_length] at hJ1
  repeat' (first|((with_reducible refine hK _ _ fun e2 hEn=>?_);clear hK K;simp only [lv123,forallC,forallL,and_true] at hEn;(try simp only [↓pb,qbs,tb123,so,so.1,so.2,lns45 S,hEg,irN,nrA,nrM,nrE,reduceIte,reduceCtorEq,nrL] at hEn);clear hEg;(try clear eg);have hEg:=hEn;clear hEn;rename Env=>eg)|((first|((with_reducible first|apply oV_intro|apply oH_intro|apply oB_intro);(simp (disch:=try exact dA) only [qcs,tb123,so,so.1,so.2,lns45 S,hEg,irN,nrA,nrM,nrE,reduceIte,reduceCtorEq,nrL];with_reducible exact rfl))|(with_reducible first|refine W_regionF lv123 fun K hK=>?_));try simp only [↓pb,↓pd,qds,tb123,so,so.1,so.2,lns45 S,hEg,irN,nrA,nrM,nrE,reduceIte,reduceCtorEq,nrL])|((with_reducible apply W_cond);(simp only [↓pb,qbs,tb123,so,so.1,so.2,lns45 S,hEg,irN,nrA,nrM,nrE,reduceIte,reduceCtorEq,nrL];with_reducible exact rfl);all_goals (intro hc;(first|exact hcX hc|try simp only [hcs] at hc)))|(with_reducible first|refine W_seq ?_|refine W_block ?_|refine W_skip ?_|refine W_ret ?_|refine W_exit ?_|apply blockK_exit)|((with_reducible apply blockK_pass);(focus decide))|fail)
  refine ⟨by first|exact .inl rfl|exact .inr rfl, ?_⟩
  rw [ret1 Try.results123]
  simp only [↓pb,qbs,tb123,so,so.1,so.2,lns45 S,rv_tmp,rv_cell,hEg,irN,nrA,nrM,nrE,reduceIte,reduceCtorEq,nrL]
  repeat ((with_reducible apply oV_intro);(simp (disch:=try exact dA) only [qcs,tb123,so,so.1,so.2,lns45 S,hEg,irN,nrA,nrM,nrE,reduceIte,reduceCtorEq,nrL];exact rfl))
  refine ⟨⟨-1,rfl,fun q=>by omega,fun q=>?_⟩,hF01⟩
  rw [hJ1] at q
  cases q
theorem f109 (vl:Value) (l:List Lnk) (x:Lnk) (bp:Nat) (H:AHeap) (hT:Top H) (S:SR H 3 l.length vl (l.flatMap eLnk)) (hl:l.length < 1000000) (hb:bp < H.n) (hx:H.rd bp=some (eLnk x)) :
  ∃ v H',C8 (.fn 109) #[vl,.func (.func 110) #[] #[vptr bp 0]] H v H'∧v=.bool (l.any fun o=>sameL o x)∧Fr H.n [] H H':=by
 have so:=S.one
 refine Cl.ofW Try.func109 rfl (by kernel_rfl) (by rw [Try.ntmps109];exact Nat.le_of_ble_eq_true rfl) (by kernel_rfl) ?_
 have hEg:True:=trivial
 refine gcW [0,1] ?_
 intro eg hEn
 simp only [forallC,forallL,and_true] at hEn
 try simp only [↓pb,qbs,tb109,so,so.1,so.2,hEg,irN,nrA,nrM,nrE,reduceIte,reduceCtorEq,nrL] at hEn
 replace hEg:=hEn;clear hEn
 repeat' (first|((with_reducible refine hK _ _ fun e2 hEn=>?_);clear hK K;simp only [lv109,forallC,forallL,and_true] at hEn;(try simp only [↓pb,qbs,tb109,so,so.1,so.2,hEg,irN,nrA,nrM,nrE,reduceIte,reduceCtorEq,nrL] at hEn);clear hEg;(try clear eg);have hEg:=hEn;clear hEn;rename Env=>eg)|((first|((with_reducible first|apply oV_intro|apply oH_intro|apply oB_intro);(simp (disch:=try exact dA) only [qcs,tb109,so,so.1,so.2,hEg,irN,nrA,nrM,nrE,reduceIte,reduceCtorEq,nrL];with_reducible exact rfl))|((with_reducible apply WO_callF);(focus exact topA);(simp only [↓pb,qbs,tb109,so,so.1,so.2,hEg,irN,nrA,nrM,nrE,reduceIte,reduceCtorEq,nrL];exact f123 vl l x bp _ (by exact topA) S hl hb hx);(rintro vq Gq hq hJq ⟨i,rfl,hi⟩;try simp only [upd_n,jn_n] at hq))|(with_reducible first|refine W_regionF lv109 fun K hK=>?_));try simp only [↓pb,↓pd,qds,tb109,so,so.1,so.2,hEg,irN,nrA,nrM,nrE,reduceIte,reduceCtorEq,nrL])|(with_reducible first|refine W_seq ?_|refine W_ret ?_)|fail)
 refine ⟨by first|exact .inl rfl|exact .inr rfl, ?_⟩
 rw [ret1 Try.results109]
 simp only [↓pb,qbs,tb109,so,so.1,so.2,rv_tmp,rv_cell,hEg,irN,nrA,nrM,nrE,reduceIte,reduceCtorEq,nrL]
 repeat ((with_reducible apply oV_intro);(simp (disch:=try exact dA) only [qcs,tb109,so,so.1,so.2,hEg,irN,nrA,nrM,nrE,reduceIte,reduceCtorEq,nrL];exact rfl))
 refine ⟨?_,by exact frA⟩
 congr 1
 cases hq:l.any (fun o=>sameL o x) with
 | true=>exact decide_eq_true (hi.2 hq)
 | false=>exact decide_eq_false fun q=>by rw [hi.1 q] at hq;cases hq
end Go.Proofs.Swa
