/- PayValued states, for every list of numbers, that the law returns true: whatever the kilograms truly are, they are worth what Value says. -/
import Derived.Test.YtloabbaheifkgaaP10
import Derived.Test.YtloabbaheifkgaaRows
import Derived.ProofKit
import Derived.OpenShut
import Derived.JoinedCond
import Derived.Below
import Derived.ChangeSame
set_option maxRecDepth 20000
set_option linter.unusedVariables false
set_option linter.unusedSimpArgs false
namespace Go.Proofs.Swa
open Go
open Nat renaming reduceAdd → nrA, reduceMul → nrM, reduceEqDiff → nrE, reduceLT → nrL
open Int renaming reduceToNat → irN
attribute [local congr] WO_congr oV_congr oB_congr oH_congr WD_congr oblO_congr oblA_congr oblR_congr
theorem rg_in8 (x:Int) {lo hi:Int} (h1:0≤lo) (h2:lo≤hi) (h3:hi≤1000000):lo≤rgA x lo hi∧rgA x lo hi≤rgB x lo hi∧rgB x lo hi≤hi:=by
 have a:=btw_in (x:=x) h1 h2 h3
 have h:rgA x lo hi=btw x lo hi:=rfl
 rw [← h] at a
 have b:=btw_in (x:=belowS (rgX x lo hi) 4) (show 0≤rgA x lo hi by omega) a.2 h3
 have c:=below_spec (rgX x lo hi) 4 (by omega)
 have w:IntKind.i64.wrap (rgA x lo hi + below (rgX x lo hi) 4)=rgA x lo hi + below (rgX x lo hi) 4:=wrap64 (by omega) (by omega)
 have m:=either_mem (rgY x lo hi) (l:=rgL x lo hi) (by simp [rgL]) (by simp [rgL])
 have e:either (rgY x lo hi) (rgL x lo hi)=rgB x lo hi:=rfl
 rw [e] at m
 unfold rgL at m
 rw [w] at m
 generalize rgB x lo hi=z at *
 generalize btw (belowS (rgX x lo hi) 4) (rgA x lo hi) hi=z2 at *
 generalize below (rgX x lo hi) 4=z3 at *
 generalize rgA x lo hi=z4 at *
 simp only [List.mem_cons,List.not_mem_nil,or_false] at m
 omega
structure PvH (N:Nat) (x:Int) (v4:Value) (L:List Fix) (bs:List (Nat×List Value)) (h:AHeap):Prop where
 top:Top h
 lt:N < h.n
 feed:h.get N=.cells [uv x] 111 .ex
 fx:SR h 2 L.length v4 (L.flatMap eFix)
 rd:∀ p,p∈bs→p.1 < h.n∧N < p.1∧h.rd p.1=some p.2
theorem PvH.fr {N N':Nat} {x:Int} {v4:Value} {L:List Fix} {bs:List (Nat×List Value)} {A B:AHeap} (h:PvH N x v4 L bs A) (F:Fr N' [] A B):PvH N x v4 L bs B:=by
 refine ⟨F.top h.top,Nat.lt_of_lt_of_le h.lt F.n,by rw [F.old _ h.lt (by simp)];exact h.feed,h.fx.fr0 F,fun p hp=>?_⟩
 obtain ⟨a,b,c⟩:=h.rd p hp
 exact ⟨Nat.lt_of_lt_of_le a F.n,b,by rw [rd_def,F.old _ a (by simp),← rd_def];exact c⟩
theorem PvH.feedfr {N N':Nat} {x x':Int} {v4:Value} {L:List Fix} {bs:List (Nat×List Value)} {A B:AHeap} (h:PvH N x v4 L bs A) (F:Fr N' [N] A B) (hg:B.get N=.cells [uv x'] 111 .ex):PvH N x' v4 L bs B:=by
 refine ⟨F.top h.top,Nat.lt_of_lt_of_le h.lt F.n,hg,h.fx.fr F (h.fx.offR h.feed (by omega)),fun p hp=>?_⟩
 obtain ⟨a,b,c⟩:=h.rd p hp
 exact ⟨Nat.lt_of_lt_of_le a F.n,b,by rw [rd_def,F.old _ a (by simp;omega),← rd_def];exact c⟩
theorem PvH.add {N:Nat} {x:Int} {v4:Value} {L:List Fix} {bs:List (Nat×List Value)} {A:AHeap} (h:PvH N x v4 L bs A) {b:Nat} {cs:List Value} (h1:b < A.n) (h2:N < b) (h3:A.rd b=some cs):PvH N x v4 L ((b,cs) :: bs) A :=
 ⟨h.top,h.lt,h.feed,h.fx,fun p hp=>by
  rcases List.mem_cons.1 hp with rfl|hp
  ·exact ⟨h1,h2,h3⟩
  ·exact h.rd p hp⟩
theorem rgH_n {H:AHeap} {b:Nat} {x lo hi:Int}:(rgH H b x lo hi).n=H.n + 2:=rfl
theorem rgH_get {H:AHeap} {b:Nat} {x lo hi:Int} (hb:b < H.n):(rgH H b x lo hi).get b=.cells [uv (rgS x lo hi)] 111 .ex:=by
 unfold rgH
 rw [upd_get_ne (by omega),upd_get_same]
set_option maxHeartbeats 4000000 in
theorem f4 (vl:Value) (l:List Int) (H:AHeap) (hT:Top H) (S:SR H 1 l.length vl (ints l)) (hl:l.length≤9223372036854775807):∃ v H',C8 (.fn 4) #[vl] H v H'∧v=.bool true∧Fr H.n [] H H':=by
 refine Cl.ofW Try.func4 rfl (by kernel_rfl) (by rw [Try.ntmps4];exact Nat.le_of_ble_eq_true rfl) (by kernel_rfl) ?_
 have hEg:True:=trivial
 refine gcW [0] ?_
 intro eg hEn
 simp only [forallC,forallL,and_true] at hEn
 try simp only [↓pb,qbs,tb4,hEg,irN,nrA,nrM,nrE,reduceIte,reduceCtorEq,nrL] at hEn
 replace hEg:=hEn;clear hEn
 repeat' (first|((with_reducible refine hK _ _ fun e2 hEn=>?_);clear hK K;simp only [lv4,forallC,forallL,and_true] at hEn;(try simp only [↓pb,qbs,tb4,hEg,irN,nrA,nrM,nrE,reduceIte,reduceCtorEq,nrL] at hEn);clear hEg;(try clear eg);have hEg:=hEn;clear hEn;rename Env=>eg)|((first|((with_reducible first|apply oV_intro|apply oH_intro|apply oB_intro);(simp (disch:=try exact dA) only [qcs,tb4,hEg,irN,nrA,nrM,nrE,reduceIte,reduceCtorEq,nrL];with_reducible exact rfl))|((with_reducible apply WO_callE);(simp only [↓pb,qbs,tb4,hEg,irN,nrA,nrM,nrE,reduceIte,reduceCtorEq,nrL];(first|exact f16 _ l _ hT S hl|exact f19 _ _ _ _ (by simp (disch:=try exact dA) only [qcs,tb4,hEg,irN,nrA,nrM,nrE,reduceIte,reduceCtorEq,nrL];rfl) (by omega))))|(with_reducible first|refine W_regionF lv4 fun K hK=>?_));try simp only [↓pb,↓pd,qds,tb4,hEg,irN,nrA,nrM,nrE,reduceIte,reduceCtorEq,nrL])|((first|((with_reducible first|apply WO_gT|apply WO_gF);exact rfl)|(with_reducible apply W_cond));(simp only [↓pb,qbs,tb4,hEg,irN,nrA,nrM,nrE,reduceIte,reduceCtorEq,nrL];with_reducible exact rfl);all_goals (intro hc;(first|exact hcX hc|try simp only [hcs] at hc);try ((with_reducible apply woI);simp only [↓pb,↓pd,qds,tb4,hc,hEg,irN,nrA,nrM,nrE,reduceIte,reduceCtorEq,nrL])))|(with_reducible first|refine W_seq ?_|refine W_skip ?_|refine W_ret ?_)|fail)
 have c1:=below_spec (feedOf l) 100000 (by omega)
 generalize below (feedOf l) 100000=c0 at *
 generalize belowS (feedOf l) 100000=x1 at *
 refine WO_callX (X:=[H.n]) (by simp only [↓pb,qbs,tb4,hEg,irN,nrA,nrM,nrE,reduceIte,reduceCtorEq,nrL];exact f17 H.n x1 _ (by exact topA) (by simp (disch:=try exact dA) only [qcs,tb4,hEg,irN,nrA,nrM,nrE,reduceIte,reduceCtorEq,nrL]) (by simp only [↓pb,qbs,tb4,hEg,irN,nrA,nrM,nrE,reduceIte,reduceCtorEq,nrL];omega)) ?_
 rintro v3 H3 ⟨va,fl,gg,x2,rfl,G,hgg,hva,hx3,V,hn3⟩ hF3
 have hT3:Top H3:=hF3.top (by exact topA)
 have n3:=hF3.n
 simp only [upd_n] at n3
 have S1:GS H3 2 1 (.slice (some ⟨H.n + 1,0,none⟩) 1 1) (eFix ⟨0,c0⟩) none:=(GS.new rfl).fr hF3 (by simp) (by show H.n + 1∉[H.n];simp)
 have hF03:Fr H.n [] H H3:=by
  refine Fr.trans' (A:=H) ?_ hF3 (by simp only [↓pb,qbs,tb4,hEg,irN,nrA,nrM,nrE,reduceIte,reduceCtorEq,nrL];omega) (by intro b hb hlt;simp at hb;omega)
  exact frA
 have o3:=G.one
 simp only [↓pb,↓pd,qds,tb4,hx3,o3,hEg,irN,nrA,nrM,nrE,reduceIte,reduceCtorEq,nrL]
 repeat' (first|((with_reducible refine hK _ _ fun e2 hEn=>?_);clear hK K;simp only [lv4,forallC,forallL,and_true] at hEn;(try simp only [↓pb,qbs,tb4,hEg,irN,nrA,nrM,nrE,reduceIte,reduceCtorEq,nrL] at hEn);clear hEg;(try clear eg);have hEg:=hEn;clear hEn;rename Env=>eg)|((first|((with_reducible first|apply oV_intro|apply oH_intro|apply oB_intro);(simp (disch:=try exact dA) only [qcs,tb4,hx3,o3,hEg,irN,nrA,nrM,nrE,reduceIte,reduceCtorEq,nrL];with_reducible exact rfl))|(with_reducible first|refine W_regionF lv4 fun K hK=>?_));try simp only [↓pb,↓pd,qds,tb4,hx3,o3,hEg,irN,nrA,nrM,nrE,reduceIte,reduceCtorEq,nrL])|((first|((with_reducible first|apply WO_gT|apply WO_gF);exact rfl)|(with_reducible apply W_cond));(simp only [↓pb,qbs,tb4,hx3,o3,hEg,irN,nrA,nrM,nrE,reduceIte,reduceCtorEq,nrL];with_reducible exact rfl);all_goals (intro hc;(first|exact hcX hc|try simp only [hcs] at hc);try ((with_reducible apply woI);simp only [↓pb,↓pd,qds,tb4,hx3,o3,hc,hEg,irN,nrA,nrM,nrE,reduceIte,reduceCtorEq,nrL])))|(with_reducible first|refine W_seq ?_|refine W_skip ?_|refine W_ret ?_)|fail)
 refine oB_app (e:=26) hT3 S1 G.sr (fun hm=>ap22 S1 G.sr hm (by omega) (by omega)) (fun hm=>apz22 S1 (G.sr.cast hm)) ?_
 rintro v4 h4 g4 hA G4 hv4
 have hM:=FixG.made (c:=c0) (l:=fl) (by omega) V hn3
 have hx4:h4.get H.n=.cells [uv x2] 111 .ex:=by rw [hA.old _ (by omega)];exact hx3
 have hF04:Fr H.n [] H h4:=hF03.trans (hA.fr H.n (by omega) (by simp))
 have hT4:=hA.top
 have n4:=hA.n
 have hL1:1 + fl.length=((⟨0,c0⟩:Fix) :: fl).length:=by rw [List.length_cons];omega
 rw [hL1] at G4
 have G4:GS h4 2 ((⟨0,c0⟩:Fix) :: fl).length v4 (((⟨0,c0⟩:Fix) :: fl).flatMap eFix) g4:=G4
 have o4:=G4.one
 have hcs:(fl.length=0∧decide ((1:Int) < ((((⟨0,c0⟩:Fix) :: fl).length:Nat):Int))=false)∨((0 < fl.length∧(fl.getD 0 default).Day=0)∧decide ((1:Int) < ((((⟨0,c0⟩:Fix) :: fl).length:Nat):Int))=true)∨((0 < fl.length∧¬ (fl.getD 0 default).Day=0)∧decide ((1:Int) < ((((⟨0,c0⟩:Fix) :: fl).length:Nat):Int))=true):=by
  rw [List.length_cons]
  rcases Nat.eq_zero_or_pos fl.length with q|q
  ·exact .inl ⟨q,decide_eq_false (by omega)⟩
  ·by_cases q2:(fl.getD 0 default).Day=0
   ·exact .inr (.inl ⟨⟨q,q2⟩,decide_eq_true (by omega)⟩)
   ·exact .inr (.inr ⟨⟨q,q2⟩,decide_eq_true (by omega)⟩)
 have e0:=G4.sr.el (l:=(⟨0,c0⟩:Fix) :: fl) eFix_len rfl
 have e1:0 < fl.length→(dOf h4 v4)[voff v4 + 1 * 2]? = some (iv (fl.getD 0 default).Day):=fun q=>e0.2.1 1 (by rw [List.length_cons];omega) (by omega)
 have K4:=G4.sk.resolve_left (by rw [List.length_cons];omega)
 repeat' (first|((with_reducible refine hK _ _ fun e2 hEn=>?_);clear hK K;simp only [lv4,forallC,forallL,and_true] at hEn;(try simp only [↓pb,qbs,tb4,hEg,irN,nrA,nrM,nrE,reduceIte,reduceCtorEq,nrL] at hEn);clear hEg;(try clear eg);have hEg:=hEn;clear hEn;rename Env=>eg)|((first|((with_reducible first|apply oV_intro|apply oH_intro|apply oB_intro);(simp (disch:=try exact dA) only [qcs,tb4,hEg,irN,nrA,nrM,nrE,reduceIte,reduceCtorEq,nrL];with_reducible exact rfl))|(with_reducible first|refine W_regionE lv4 [3] fun K hK=>?_));try simp only [↓pb,↓pd,qds,tb4,hEg,irN,nrA,nrM,nrE,reduceIte,reduceCtorEq,nrL])|((first|((with_reducible first|apply WO_gT|apply WO_gF);exact rfl)|(with_reducible apply W_cond));(simp only [↓pb,qbs,tb4,hEg,irN,nrA,nrM,nrE,reduceIte,reduceCtorEq,nrL];with_reducible exact rfl);all_goals (intro hc;(first|exact hcX hc|try simp only [hcs] at hc);try ((with_reducible apply woI);simp only [↓pb,↓pd,qds,tb4,hc,hEg,irN,nrA,nrM,nrE,reduceIte,reduceCtorEq,nrL])))|(with_reducible first|refine W_seq ?_|refine W_skip ?_|refine W_ret ?_)|fail)
 refine W_both (fun e h=>h=h4∧e 3=vptr H.n 0∧∃ v5 L,e 4=v5∧SR h4 2 L.length v5 (L.flatMap eFix)∧FixG L) ?_ ?_
 ·rcases hcs with ⟨cl,cc⟩|⟨⟨cl,cd⟩,cc⟩|⟨⟨cl,cd⟩,cc⟩
  ·rw [if_neg (by omega)] at hM
   repeat' (first|((with_reducible refine hK _ _ fun e2 hEn=>?_);clear hK K;simp only [lv4,forallC,forallL,and_true] at hEn;(try simp only [↓pb,qbs,tb4,hEg,irN,nrA,nrM,nrE,reduceIte,reduceCtorEq,nrL] at hEn);clear hEg;(try clear eg);have hEg:=hEn;clear hEn;rename Env=>eg)|((first|((with_reducible first|apply oV_intro|apply oH_intro|apply oB_intro);(simp (disch:=try exact dA) only [qcs,tb4,o4,cc,lns22 G4.sr,hEg,irN,nrA,nrM,nrE,reduceIte,reduceCtorEq,nrL];with_reducible exact rfl))|(with_reducible first|refine W_regionF lv4 fun K hK=>?_));try simp only [↓pb,↓pd,qds,tb4,o4,cc,lns22 G4.sr,hEg,irN,nrA,nrM,nrE,reduceIte,reduceCtorEq,nrL])|((first|((with_reducible first|apply WO_gT|apply WO_gF);exact rfl)|(with_reducible apply W_cond));(simp only [↓pb,qbs,tb4,o4,cc,lns22 G4.sr,hEg,irN,nrA,nrM,nrE,reduceIte,reduceCtorEq,nrL];with_reducible exact rfl);all_goals (intro hc;(first|exact hcX hc|try simp only [hcs] at hc);try ((with_reducible apply woI);simp only [↓pb,↓pd,qds,tb4,o4,cc,lns22 G4.sr,hc,hEg,irN,nrA,nrM,nrE,reduceIte,reduceCtorEq,nrL])))|(with_reducible first|refine W_seq ?_|refine W_skip ?_|refine W_ret ?_)|fail)
   exact ⟨rfl,rfl,hEg.1,v4,_,hEg.2.1,G4.sr,hM⟩
  ·rw [if_pos ⟨cl,cd⟩] at hM
   have sp:=slice_suf (q:=.i64) (i:=1) (j:=1) und22 sz26 rfl G4.sr K4 (by rw [List.length_cons];omega)
   repeat' (first|((with_reducible refine hK _ _ fun e2 hEn=>?_);clear hK K;simp only [lv4,forallC,forallL,and_true] at hEn;(try simp only [↓pb,qbs,tb4,hEg,irN,nrA,nrM,nrE,reduceIte,reduceCtorEq,nrL] at hEn);clear hEg;(try clear eg);have hEg:=hEn;clear hEn;rename Env=>eg)|((first|((with_reducible first|apply oV_intro|apply oH_intro|apply oB_intro);(simp (disch:=try exact dA) only [qcs,tb4,o4,cc,cd,e1 cl,lns22 G4.sr,ias22 G4.sr,G4.sr.rd,sp.1,Option.map_none,Option.map_some,hEg,irN,nrA,nrM,nrE,reduceIte,reduceCtorEq,nrL];with_reducible exact rfl))|(with_reducible first|refine W_regionF lv4 fun K hK=>?_));try simp only [↓pb,↓pd,qds,tb4,o4,cc,cd,e1 cl,lns22 G4.sr,ias22 G4.sr,G4.sr.rd,sp.1,Option.map_none,Option.map_some,hEg,irN,nrA,nrM,nrE,reduceIte,reduceCtorEq,nrL])|((first|((with_reducible first|apply WO_gT|apply WO_gF);exact rfl)|(with_reducible apply W_cond));(simp only [↓pb,qbs,tb4,o4,cc,cd,e1 cl,lns22 G4.sr,ias22 G4.sr,G4.sr.rd,sp.1,Option.map_none,Option.map_some,hEg,irN,nrA,nrM,nrE,reduceIte,reduceCtorEq,nrL];with_reducible exact rfl);all_goals (intro hc;(first|exact hcX hc|try simp only [hcs] at hc);try ((with_reducible apply woI);simp only [↓pb,↓pd,qds,tb4,o4,cc,cd,e1 cl,lns22 G4.sr,ias22 G4.sr,G4.sr.rd,sp.1,Option.map_none,Option.map_some,hc,hEg,irN,nrA,nrM,nrE,reduceIte,reduceCtorEq,nrL])))|(with_reducible first|refine W_seq ?_|refine W_skip ?_|refine W_ret ?_)|fail)
   exact ⟨rfl,rfl,hEg.1,_,fl,hEg.2,sp.2,hM⟩
  ·rw [if_neg (fun q=>cd q.2)] at hM
   repeat' (first|((with_reducible refine hK _ _ fun e2 hEn=>?_);clear hK K;simp only [lv4,forallC,forallL,and_true] at hEn;(try simp only [↓pb,qbs,tb4,hEg,irN,nrA,nrM,nrE,reduceIte,reduceCtorEq,nrL] at hEn);clear hEg;(try clear eg);have hEg:=hEn;clear hEn;rename Env=>eg)|((first|((with_reducible first|apply oV_intro|apply oH_intro|apply oB_intro);(simp (disch:=try exact dA) only [qcs,tb4,o4,cc,cd,e1 cl,lns22 G4.sr,ias22 G4.sr,G4.sr.rd,hEg,irN,nrA,nrM,nrE,reduceIte,reduceCtorEq,nrL];with_reducible exact rfl))|(with_reducible first|refine W_regionF lv4 fun K hK=>?_));try simp only [↓pb,↓pd,qds,tb4,o4,cc,cd,e1 cl,lns22 G4.sr,ias22 G4.sr,G4.sr.rd,hEg,irN,nrA,nrM,nrE,reduceIte,reduceCtorEq,nrL])|((first|((with_reducible first|apply WO_gT|apply WO_gF);exact rfl)|(with_reducible apply W_cond));(simp only [↓pb,qbs,tb4,o4,cc,cd,e1 cl,lns22 G4.sr,ias22 G4.sr,G4.sr.rd,hEg,irN,nrA,nrM,nrE,reduceIte,reduceCtorEq,nrL];with_reducible exact rfl);all_goals (intro hc;(first|exact hcX hc|try simp only [hcs] at hc);try ((with_reducible apply woI);simp only [↓pb,↓pd,qds,tb4,o4,cc,cd,e1 cl,lns22 G4.sr,ias22 G4.sr,G4.sr.rd,hc,hEg,irN,nrA,nrM,nrE,reduceIte,reduceCtorEq,nrL])))|(with_reducible first|refine W_seq ?_|refine W_skip ?_|refine W_ret ?_)|fail)
   exact ⟨rfl,rfl,hEg.1,v4,_,hEg.2.1,G4.sr,hM⟩
 rintro e5 h5 ⟨rfl,k3,v5,L,k4,S5,hL⟩
 clear G4 e0 e1 K4 hEg hcs hM
 have hEg:=And.intro k3 k4
 have o5:=S5.one
 have hw2:=either2 (btwS (belowS x2 40) 0 1000) 20 100000
 repeat' (first|((with_reducible refine hK _ _ fun e2 hEn=>?_);clear hK K;simp only [lv4,forallC,forallL,and_true] at hEn;(try simp only [↓pb,qbs,tb4,hEg,irN,nrA,nrM,nrE,reduceIte,reduceCtorEq,nrL] at hEn);clear hEg;(try clear eg);have hEg:=hEn;clear hEn;rename Env=>eg)|((first|((with_reducible first|apply oV_intro|apply oH_intro|apply oB_intro);(simp (disch:=try exact dA) only [qcs,tb4,hx4,o5,hEg,irN,nrA,nrM,nrE,reduceIte,reduceCtorEq,nrL];with_reducible exact rfl))|((with_reducible apply WO_callE);(simp only [↓pb,qbs,tb4,hx4,o5,hEg,irN,nrA,nrM,nrE,reduceIte,reduceCtorEq,nrL];(first|exact f19 _ _ _ _ (by simp (disch:=try exact dA) only [qcs,tb4,hx4,o5,hEg,irN,nrA,nrM,nrE,reduceIte,reduceCtorEq,nrL];rfl) (by omega)|exact f24 _ _ _ _ _ (by simp (disch:=try exact dA) only [qcs,tb4,hx4,o5,hEg,irN,nrA,nrM,nrE,reduceIte,reduceCtorEq,nrL];rfl)|exact f21 _ _ _ [_,_] _ (by simp (disch:=try exact dA) only [qcs,tb4,hx4,o5,hEg,irN,nrA,nrM,nrE,reduceIte,reduceCtorEq,nrL];rfl) (SR.new rfl) (.inl (by simp only [vblk];omega)) (by simp)|exact f20 _ _ _ _ _ oA (by simp (disch:=try exact dA) only [qcs,tb4,hx4,o5,hEg,irN,nrA,nrM,nrE,reduceIte,reduceCtorEq,nrL];rfl))))|(with_reducible first|refine W_regionE lv4 [7] fun K hK=>?_));try simp only [↓pb,↓pd,qds,tb4,hx4,o5,hEg,irN,nrA,nrM,nrE,reduceIte,reduceCtorEq,nrL])|((first|((with_reducible first|apply WO_gT|apply WO_gF);exact rfl)|(with_reducible apply W_cond));(simp only [↓pb,qbs,tb4,hx4,o5,hEg,irN,nrA,nrM,nrE,reduceIte,reduceCtorEq,nrL];with_reducible exact rfl);all_goals (intro hc;(first|exact hcX hc|try simp only [hcs] at hc);try ((with_reducible apply woI);simp only [↓pb,↓pd,qds,tb4,hx4,o5,hc,hEg,irN,nrA,nrM,nrE,reduceIte,reduceCtorEq,nrL])))|(with_reducible first|refine W_seq ?_|refine W_skip ?_|refine W_ret ?_)|fail)
 have d1:=below_spec x2 40 (by omega)
 have d2:=btw_spec (x:=belowS x2 40) (lo:=0) (hi:=1000) (by omega) (by omega) (by omega)
 generalize below x2 40=day at *
 generalize btw (belowS x2 40) 0 1000=sh at *
 generalize btwS (belowS x2 40) 0 1000=x3 at *
 generalize either x3 [20,100000]=hi at *
 generalize eitherS x3 [20,100000]=x4 at *
 have hr:=rg_in8 x4 (lo:=0) (hi:=hi) (by omega) (by omega) (by omega)
 have hn5:=hF04.n
 have hP5:PvH H.n x2 v5 L [] h5:=⟨hT4,by omega,hx4,S5,fun p hp=>by cases hp⟩
 refine W_forget (N:=H.n) (X:=[]) (h0:=H) (PvH H.n (rgS x4 0 hi) v5 L [(h5.n + 3,[iv (rgA x4 0 hi),iv (rgB x4 0 hi)])]) ?_ ?_ ?_
 ·refine Fr.trans' hF04 (N':=H.n) (X':=[H.n]) ?_ (Nat.le_refl _) (by intro b hb hlt;simp at hb;omega)
  unfold rgH
  exact frA
 ·refine (hP5.feedfr (N':=H.n) ?_ ?_).add ?_ (by omega) ?_
  ·unfold rgH
   exact frA
  ·rw [upd_get_ne (by rw [rgH_n];simp only [upd_n];omega),rgH_get (by simp only [upd_n];omega)]
  ·rw [upd_n,rgH_n]
   simp only [upd_n]
   omega
  ·exact upd_rd_same
 intro h6 hF6 hP6
 simp only [rgH_n,upd_n] at hEg
 generalize h5.n + 3=b7 at *
 generalize rgA x4 0 hi=a at *
 generalize rgB x4 0 hi=b at *
 generalize rgS x4 0 hi=x5 at *
 have hb100:b≤100000:=by omega
 have hd4:0≤day∧day≤4000:=by omega
 obtain ⟨p,hp1,hp2⟩:=hL.price hd4.1
 have hLn:L.length < 1000000:=by
  have:=hL.n
  omega
 clear hP5 hx4 S5 G4 hA hT4 hF04 hn5 n4 hw2
 have val:∀ y z:Int,0≤y→y≤z→z≤b→valueP L day y z sh=((wor y p sh,wor z p sh),0):=fun y z q1 q2 q3=>hL.value hd4 q1 q2 (by omega) d2 hp1 hp2
 have V1:=val a b (by omega) (by omega) (by omega)
 have r7:=(hP6.rd _ (List.mem_cons_self ..)).2.2
 have q7:=(hP6.rd _ (List.mem_cons_self ..)).2.1
 have t7:=(hP6.rd _ (List.mem_cons_self ..)).1
 have hT6:=hP6.top
 have lt6:=hP6.lt
 have f6:=hP6.feed
 dsimp only at r7 q7 t7
 repeat' (first|((with_reducible refine hK _ _ fun e2 hEn=>?_);clear hK K;simp only [lv4,forallC,forallL,and_true] at hEn;(try simp only [↓pb,qbs,tb4,hEg,irN,nrA,nrM,nrE,reduceIte,reduceCtorEq,nrL] at hEn);clear hEg;(try clear eg);have hEg:=hEn;clear hEn;rename Env=>eg)|((first|((with_reducible first|apply oV_intro|apply oH_intro|apply oB_intro);(simp (disch:=try exact dA) only [qcs,tb4,f6,r7,o5,V1,vVal,hEg,irN,nrA,nrM,nrE,reduceIte,reduceCtorEq,nrL];with_reducible exact rfl))|((with_reducible apply WO_callE);(simp only [↓pb,qbs,tb4,f6,r7,o5,V1,vVal,hEg,irN,nrA,nrM,nrE,reduceIte,reduceCtorEq,nrL];(first|exact E_or (f22 v5 L day a b sh _ (hP6.fx.fr0 (N:=H.n) (by exact frA)) hLn)|exact f25 _ _ _ _ _ oA (by simp (disch:=try exact dA) only [qcs,tb4,f6,r7,o5,V1,vVal,hEg,irN,nrA,nrM,nrE,reduceIte,reduceCtorEq,nrL];rfl))))|(with_reducible first|refine W_regionE lv4 [9] fun K hK=>?_));try simp only [↓pb,↓pd,qds,tb4,f6,r7,o5,V1,vVal,hEg,irN,nrA,nrM,nrE,reduceIte,reduceCtorEq,nrL])|((first|((with_reducible first|apply WO_gT|apply WO_gF);exact rfl)|(with_reducible apply W_cond));(simp only [↓pb,qbs,tb4,f6,r7,o5,V1,vVal,hEg,irN,nrA,nrM,nrE,reduceIte,reduceCtorEq,nrL];with_reducible exact rfl);all_goals (intro hc;(first|exact hcX hc|try simp only [hcs] at hc);try ((with_reducible apply woI);simp only [↓pb,↓pd,qds,tb4,f6,r7,o5,V1,vVal,hc,hEg,irN,nrA,nrM,nrE,reduceIte,reduceCtorEq,nrL])))|(with_reducible first|refine W_seq ?_|refine W_skip ?_|refine W_ret ?_)|fail)
 have hin:=inV_in x5 (lo:=a) (hi:=b) (by omega) (by omega) (by omega)
 refine W_forget (N:=H.n) (X:=[]) (h0:=H) (PvH H.n (inS x5 a b) v5 L [(h6.n,[iv (wor a p sh),iv (wor b p sh)]),(b7,[iv a,iv b])]) ?_ ?_ ?_
 ·refine Fr.trans' hF6 (N':=H.n) (X':=[H.n]) ?_ (Nat.le_refl _) (by intro b hb hlt;simp at hb;omega)
  unfold inH
  exact frA
 ·refine (hP6.feedfr (N':=H.n) ?_ inH_get).add ?_ (by omega) ?_
  ·unfold inH
   exact frA
  ·rw [inH_n]
   simp only [upd_n]
   omega
  ·unfold inH
   simp (disch:=try exact dA) only [qcs,tb4,hEg,irN,nrA,nrM,nrE,reduceIte,reduceCtorEq,nrL]
 intro h7 hF7 hP7
 generalize h6.n=b8 at *
 generalize inV x5 a b=n at *
 generalize inS x5 a b=x6 at *
 clear hP6 hT6 lt6 f6 r7 q7 t7 hF6
 have V2:=val n n (by omega) (by omega) (by omega)
 have V3:=val a a (by omega) (by omega) (by omega)
 have V4:=val b b (by omega) (by omega) (by omega)
 have r7:=(hP7.rd (b7,[iv a,iv b]) (by simp)).2.2
 have t7:=(hP7.rd (b7,[iv a,iv b]) (by simp)).1
 have hT7:=hP7.top
 have lt7:=hP7.lt
 dsimp only at r7 t7
 repeat' (first|((with_reducible refine hK _ _ fun e2 hEn=>?_);clear hK K;simp only [lv4,forallC,forallL,and_true] at hEn;(try simp only [↓pb,qbs,tb4,hEg,irN,nrA,nrM,nrE,reduceIte,reduceCtorEq,nrL] at hEn);clear hEg;(try clear eg);have hEg:=hEn;clear hEn;rename Env=>eg)|((first|((with_reducible first|apply oV_intro|apply oH_intro|apply oB_intro);(simp (disch:=try exact dA) only [qcs,tb4,r7,o5,V2,vVal,hEg,irN,nrA,nrM,nrE,reduceIte,reduceCtorEq,nrL];with_reducible exact rfl))|((with_reducible apply WO_callE);(simp only [↓pb,qbs,tb4,r7,o5,V2,vVal,hEg,irN,nrA,nrM,nrE,reduceIte,reduceCtorEq,nrL];(exact E_or (f22 v5 L day n n sh _ (hP7.fx.fr0 (N:=H.n) (by exact frA)) hLn))))|((with_reducible apply WO_callV);(focus exact topA);(simp only [↓pb,qbs,tb4,r7,o5,V2,vVal,hEg,irN,nrA,nrM,nrE,reduceIte,reduceCtorEq,nrL];(exact f26 n n _ (by exact topA)));(intro Gq hq hJq;try simp only [upd_n,jn_n] at hq))|(with_reducible first|refine W_regionE lv4 [10] fun K hK=>?_));try simp only [↓pb,↓pd,qds,tb4,r7,o5,V2,vVal,hEg,irN,nrA,nrM,nrE,reduceIte,reduceCtorEq,nrL])|((first|((with_reducible first|apply WO_gT|apply WO_gF);exact rfl)|(with_reducible apply W_cond));(simp only [↓pb,qbs,tb4,r7,o5,V2,vVal,hEg,irN,nrA,nrM,nrE,reduceIte,reduceCtorEq,nrL];with_reducible exact rfl);all_goals (intro hc;(first|exact hcX hc|try simp only [hcs] at hc);try ((with_reducible apply woI);simp only [↓pb,↓pd,qds,tb4,r7,o5,V2,vVal,hc,hEg,irN,nrA,nrM,nrE,reduceIte,reduceCtorEq,nrL])))|(with_reducible first|refine W_seq ?_|refine W_skip ?_|refine W_ret ?_)|fail)
 refine W_forget (N:=H.n) (X:=[]) (h0:=H) (PvH H.n x6 v5 L [(Gq.n,[iv (wor n p sh),iv (wor n p sh)]),(b8,[iv (wor a p sh),iv (wor b p sh)]),(b7,[iv a,iv b])]) (by exact frA) ((hP7.fr (N':=H.n) (by exact frA)).add (by simp only [upd_n];omega) (by omega) upd_rd_same) ?_
 intro h8 hF8 hP8
 generalize Gq.n=b11 at *
 clear hP7 hT7 lt7 r7 t7 hJq hq hF7
 have r7:=(hP8.rd (b7,[iv a,iv b]) (by simp)).2.2
 have t7:=(hP8.rd (b7,[iv a,iv b]) (by simp)).1
 have hT8:=hP8.top
 have lt8:=hP8.lt
 dsimp only at r7 t7
 repeat' (first|((with_reducible refine hK _ _ fun e2 hEn=>?_);clear hK K;simp only [lv4,forallC,forallL,and_true] at hEn;(try simp only [↓pb,qbs,tb4,hEg,irN,nrA,nrM,nrE,reduceIte,reduceCtorEq,nrL] at hEn);clear hEg;(try clear eg);have hEg:=hEn;clear hEn;rename Env=>eg)|((first|((with_reducible first|apply oV_intro|apply oH_intro|apply oB_intro);(simp (disch:=try exact dA) only [qcs,tb4,r7,o5,V3,vVal,hEg,irN,nrA,nrM,nrE,reduceIte,reduceCtorEq,nrL];with_reducible exact rfl))|((with_reducible apply WO_callE);(simp only [↓pb,qbs,tb4,r7,o5,V3,vVal,hEg,irN,nrA,nrM,nrE,reduceIte,reduceCtorEq,nrL];(exact E_or (f22 v5 L day a a sh _ (hP8.fx.fr0 (N:=H.n) (by exact frA)) hLn))))|((with_reducible apply WO_callV);(focus exact topA);(simp only [↓pb,qbs,tb4,r7,o5,V3,vVal,hEg,irN,nrA,nrM,nrE,reduceIte,reduceCtorEq,nrL];(exact f26 a a _ (by exact topA)));(intro Gq hq hJq;try simp only [upd_n,jn_n] at hq))|(with_reducible first|refine W_regionE lv4 [11] fun K hK=>?_));try simp only [↓pb,↓pd,qds,tb4,r7,o5,V3,vVal,hEg,irN,nrA,nrM,nrE,reduceIte,reduceCtorEq,nrL])|((first|((with_reducible first|apply WO_gT|apply WO_gF);exact rfl)|(with_reducible apply W_cond));(simp only [↓pb,qbs,tb4,r7,o5,V3,vVal,hEg,irN,nrA,nrM,nrE,reduceIte,reduceCtorEq,nrL];with_reducible exact rfl);all_goals (intro hc;(first|exact hcX hc|try simp only [hcs] at hc);try ((with_reducible apply woI);simp only [↓pb,↓pd,qds,tb4,r7,o5,V3,vVal,hc,hEg,irN,nrA,nrM,nrE,reduceIte,reduceCtorEq,nrL])))|(with_reducible first|refine W_seq ?_|refine W_skip ?_|refine W_ret ?_)|fail)
 refine W_forget (N:=H.n) (X:=[]) (h0:=H) (PvH H.n x6 v5 L [(Gq.n,[iv (wor a p sh),iv (wor a p sh)]),(b11,[iv (wor n p sh),iv (wor n p sh)]),(b8,[iv (wor a p sh),iv (wor b p sh)]),(b7,[iv a,iv b])]) (by exact frA) ((hP8.fr (N':=H.n) (by exact frA)).add (by simp only [upd_n];omega) (by omega) upd_rd_same) ?_
 intro h9 hF9 hP9
 generalize Gq.n=b13 at *
 clear hP8 hT8 lt8 r7 t7 hJq hq hF8
 have r7:=(hP9.rd (b7,[iv a,iv b]) (by simp)).2.2
 have t7:=(hP9.rd (b7,[iv a,iv b]) (by simp)).1
 have hT9:=hP9.top
 have lt9:=hP9.lt
 dsimp only at r7 t7
 repeat' (first|((with_reducible refine hK _ _ fun e2 hEn=>?_);clear hK K;simp only [lv4,forallC,forallL,and_true] at hEn;(try simp only [↓pb,qbs,tb4,hEg,irN,nrA,nrM,nrE,reduceIte,reduceCtorEq,nrL] at hEn);clear hEg;(try clear eg);have hEg:=hEn;clear hEn;rename Env=>eg)|((first|((with_reducible first|apply oV_intro|apply oH_intro|apply oB_intro);(simp (disch:=try exact dA) only [qcs,tb4,r7,o5,V4,vVal,hEg,irN,nrA,nrM,nrE,reduceIte,reduceCtorEq,nrL];with_reducible exact rfl))|((with_reducible apply WO_callE);(simp only [↓pb,qbs,tb4,r7,o5,V4,vVal,hEg,irN,nrA,nrM,nrE,reduceIte,reduceCtorEq,nrL];(exact E_or (f22 v5 L day b b sh _ (hP9.fx.fr0 (N:=H.n) (by exact frA)) hLn))))|((with_reducible apply WO_callV);(focus exact topA);(simp only [↓pb,qbs,tb4,r7,o5,V4,vVal,hEg,irN,nrA,nrM,nrE,reduceIte,reduceCtorEq,nrL];(exact f26 b b _ (by exact topA)));(intro Gq hq hJq;try simp only [upd_n,jn_n] at hq))|(with_reducible first|refine W_regionE lv4 [12] fun K hK=>?_));try simp only [↓pb,↓pd,qds,tb4,r7,o5,V4,vVal,hEg,irN,nrA,nrM,nrE,reduceIte,reduceCtorEq,nrL])|((first|((with_reducible first|apply WO_gT|apply WO_gF);exact rfl)|(with_reducible apply W_cond));(simp only [↓pb,qbs,tb4,r7,o5,V4,vVal,hEg,irN,nrA,nrM,nrE,reduceIte,reduceCtorEq,nrL];with_reducible exact rfl);all_goals (intro hc;(first|exact hcX hc|try simp only [hcs] at hc);try ((with_reducible apply woI);simp only [↓pb,↓pd,qds,tb4,r7,o5,V4,vVal,hc,hEg,irN,nrA,nrM,nrE,reduceIte,reduceCtorEq,nrL])))|(with_reducible first|refine W_seq ?_|refine W_skip ?_|refine W_ret ?_)|fail)
 refine W_forget (N:=H.n) (X:=[]) (h0:=H) (PvH H.n x6 v5 L [(Gq.n,[iv (wor b p sh),iv (wor b p sh)]),(b13,[iv (wor a p sh),iv (wor a p sh)]),(b11,[iv (wor n p sh),iv (wor n p sh)]),(b8,[iv (wor a p sh),iv (wor b p sh)]),(b7,[iv a,iv b])]) (by exact frA) ((hP9.fr (N':=H.n) (by exact frA)).add (by simp only [upd_n];omega) (by omega) upd_rd_same) ?_
 intro h10 hF10 hP10
 generalize Gq.n=b15 at *
 clear hP9 hT9 lt9 r7 t7 hJq hq hF9
 have r15:=(hP10.rd (b15,[iv (wor b p sh),iv (wor b p sh)]) (by simp)).2.2
 have r13:=(hP10.rd (b13,[iv (wor a p sh),iv (wor a p sh)]) (by simp)).2.2
 have r11:=(hP10.rd (b11,[iv (wor n p sh),iv (wor n p sh)]) (by simp)).2.2
 have r8:=(hP10.rd (b8,[iv (wor a p sh),iv (wor b p sh)]) (by simp)).2.2
 have t15:=(hP10.rd (b15,[iv (wor b p sh),iv (wor b p sh)]) (by simp)).1
 have t13:=(hP10.rd (b13,[iv (wor a p sh),iv (wor a p sh)]) (by simp)).1
 have t11:=(hP10.rd (b11,[iv (wor n p sh),iv (wor n p sh)]) (by simp)).1
 have t8:=(hP10.rd (b8,[iv (wor a p sh),iv (wor b p sh)]) (by simp)).1
 have hT10:=hP10.top
 have lt10:=hP10.lt
 dsimp only at r15 r13 r11 r8 t15 t13 t11 t8
 have m1:=wor_mono (p:=p) (s:=sh) hin.1 hp2.1 d2.1
 have m2:=wor_mono (p:=p) (s:=sh) hin.2 hp2.1 d2.1
 have hpt:decide (wor a p sh≤wor n p sh∧wor n p sh≤wor b p sh)=true:=decide_eq_true ⟨m1,m2⟩
 repeat' (first|((with_reducible refine hK _ _ fun e2 hEn=>?_);clear hK K;simp only [lv4,forallC,forallL,and_true] at hEn;(try simp only [↓pb,qbs,tb4,hEg,irN,nrA,nrM,nrE,reduceIte,reduceCtorEq,nrL] at hEn);clear hEg;(try clear eg);have hEg:=hEn;clear hEn;rename Env=>eg)|((first|((with_reducible first|apply oV_intro|apply oH_intro|apply oB_intro);(simp (disch:=try exact dA) only [qcs,tb4,r15,r13,r11,r8,hpt,nzs,hEg,irN,nrA,nrM,nrE,reduceIte,reduceCtorEq,nrL];with_reducible exact rfl))|((with_reducible apply WO_callV);(focus exact topA);(simp only [↓pb,qbs,tb4,r15,r13,r11,r8,hpt,nzs,hEg,irN,nrA,nrM,nrE,reduceIte,reduceCtorEq,nrL];(exact f27 _ _ _ _ _ (by exact topA)));(intro Gq hq hJq;try simp only [upd_n,jn_n] at hq))|(with_reducible first|refine W_regionE lv4 [14] fun K hK=>?_));try simp only [↓pb,↓pd,qds,tb4,r15,r13,r11,r8,hpt,nzs,hEg,irN,nrA,nrM,nrE,reduceIte,reduceCtorEq,nrL])|((first|((with_reducible first|apply WO_gT|apply WO_gF);exact rfl)|(with_reducible apply W_cond));(simp only [↓pb,qbs,tb4,r15,r13,r11,r8,hpt,nzs,hEg,irN,nrA,nrM,nrE,reduceIte,reduceCtorEq,nrL];with_reducible exact rfl);all_goals (intro hc;(first|exact hcX hc|try simp only [hcs] at hc);try ((with_reducible apply woI);simp only [↓pb,↓pd,qds,tb4,r15,r13,r11,r8,hpt,nzs,hc,hEg,irN,nrA,nrM,nrE,reduceIte,reduceCtorEq,nrL])))|(with_reducible first|refine W_seq ?_|refine W_skip ?_|refine W_ret ?_)|fail)
 refine W_forget (N:=H.n) (X:=[]) (h0:=H) (PvH H.n x6 v5 L [(b11,[iv (wor n p sh),iv (wor n p sh)])]) (by exact frA) ⟨by exact topA,by simp only [jn_n];omega,by simp (disch:=try exact dA) only [qcs,tb4,hEg,irN,nrA,nrM,nrE,reduceIte,reduceCtorEq,nrL];exact hP10.feed,hP10.fx.fr0 (N:=H.n) (by exact frA),fun q hq=>?_⟩ ?_
 ·rw [List.mem_singleton.1 hq]
  exact ⟨by simp only [jn_n];omega,(hP10.rd (b11,[iv (wor n p sh),iv (wor n p sh)]) (by simp)).2.1,by rw [jn_rd t11];exact r11⟩
 intro h11 hF11 hP11
 have f11:=hP11.feed
 have r11:=(hP11.rd (b11,[iv (wor n p sh),iv (wor n p sh)]) (by simp)).2.2
 have t11:=(hP11.rd (b11,[iv (wor n p sh),iv (wor n p sh)]) (by simp)).1
 have hT11:=hP11.top
 have lt11:=hP11.lt
 dsimp only at r11 t11
 clear hP10 r15 r13 r8 t15 t13 t8 hT10 lt10 hF10 hJq hq
 have hm:=btw_spec (x:=x6) (lo:=0) (hi:=n) (by omega) (by omega) (by omega)
 have wnm:IntKind.i64.wrap (n - btw x6 0 n)=n - btw x6 0 n:=wrap64 (by omega) (by omega)
 have V5:=val (btw x6 0 n) (btw x6 0 n) (by omega) (by omega) (by omega)
 have V6:=val (n - btw x6 0 n) (n - btw x6 0 n) (by omega) (by omega) (by omega)
 have hadd:=wor_add (a:=btw x6 0 n) (b:=n - btw x6 0 n) (p:=p) (s:=sh)
 have B1:=wor_bd (k:=btw x6 0 n) (by omega) hp2 d2
 have B2:=wor_bd (k:=n - btw x6 0 n) (by omega) hp2 d2
 have B3:=wor_bd (k:=n) (by omega) hp2 d2
 have e1:btw x6 0 n + (n - btw x6 0 n)=n:=by omega
 rw [e1] at hadd
 have hfd:Fr H.n [H.n] h11 (fh h11 H.n (btwS x6 0 n)):=by exact frA
 have S11:=hP11.fx.fr hfd (hP11.fx.offR f11 (by omega))
 repeat' (first|((with_reducible refine hK _ _ fun e2 hEn=>?_);clear hK K;simp only [lv4,forallC,forallL,and_true] at hEn;(try simp only [↓pb,qbs,tb4,hEg,irN,nrA,nrM,nrE,reduceIte,reduceCtorEq,nrL] at hEn);clear hEg;(try clear eg);have hEg:=hEn;clear hEn;rename Env=>eg)|((first|((with_reducible first|apply oV_intro|apply oH_intro|apply oB_intro);(simp (disch:=try exact dA) only [qcs,tb4,f11,o5,hEg,irN,nrA,nrM,nrE,reduceIte,reduceCtorEq,nrL];with_reducible exact rfl))|((with_reducible apply WO_callE);(simp only [↓pb,qbs,tb4,f11,o5,hEg,irN,nrA,nrM,nrE,reduceIte,reduceCtorEq,nrL];(exact f24 _ _ _ _ _ (by simp (disch:=try exact dA) only [qcs,tb4,f11,o5,hEg,irN,nrA,nrM,nrE,reduceIte,reduceCtorEq,nrL];rfl))))|(with_reducible first|refine W_regionE lv4 [15] fun K hK=>?_));try simp only [↓pb,↓pd,qds,tb4,f11,o5,hEg,irN,nrA,nrM,nrE,reduceIte,reduceCtorEq,nrL])|((first|((with_reducible first|apply WO_gT|apply WO_gF);exact rfl)|(with_reducible apply W_cond));(simp only [↓pb,qbs,tb4,f11,o5,hEg,irN,nrA,nrM,nrE,reduceIte,reduceCtorEq,nrL];with_reducible exact rfl);all_goals (intro hc;(first|exact hcX hc|try simp only [hcs] at hc);try ((with_reducible apply woI);simp only [↓pb,↓pd,qds,tb4,f11,o5,hc,hEg,irN,nrA,nrM,nrE,reduceIte,reduceCtorEq,nrL])))|(with_reducible first|refine W_seq ?_|refine W_skip ?_|refine W_ret ?_)|fail)
 have t11':b11 < (fh h11 H.n (btwS x6 0 n)).n:=t11
 have r11':(fh h11 H.n (btwS x6 0 n)).rd b11=some [iv (wor n p sh),iv (wor n p sh)]:=by
  rw [upd_rd_ne (by have:=(hP11.rd (b11,[iv (wor n p sh),iv (wor n p sh)]) (by simp)).2.1;dsimp only at this;omega)]
  exact r11
 have hF12:Fr H.n [] H (fh h11 H.n (btwS x6 0 n)):=Fr.trans' hF11 (N':=H.n) (X':=[H.n]) hfd (Nat.le_refl _) (by intro b hb hlt;simp at hb;omega)
 have hT12:Top (fh h11 H.n (btwS x6 0 n)):=hfd.top hT11
 have lt12:H.n < (fh h11 H.n (btwS x6 0 n)).n:=lt11
 generalize fh h11 H.n (btwS x6 0 n)=h12 at *
 generalize btw x6 0 n=m at *
 repeat' (first|((with_reducible refine hK _ _ fun e2 hEn=>?_);clear hK K;simp only [lv4,forallC,forallL,and_true] at hEn;(try simp only [↓pb,qbs,tb4,hEg,irN,nrA,nrM,nrE,reduceIte,reduceCtorEq,nrL] at hEn);clear hEg;(try clear eg);have hEg:=hEn;clear hEn;rename Env=>eg)|((first|((with_reducible first|apply oV_intro|apply oH_intro|apply oB_intro);(simp (disch:=try exact dA) only [qcs,tb4,o5,V5,vVal,hEg,irN,nrA,nrM,nrE,reduceIte,reduceCtorEq,nrL];with_reducible exact rfl))|((with_reducible apply WO_callE);(simp only [↓pb,qbs,tb4,o5,V5,vVal,hEg,irN,nrA,nrM,nrE,reduceIte,reduceCtorEq,nrL];(exact E_or (f22 v5 L day m m sh _ (S11.fr0 (N:=H.n) (by exact frA)) hLn))))|((with_reducible apply WO_callV);(focus exact topA);(simp only [↓pb,qbs,tb4,o5,V5,vVal,hEg,irN,nrA,nrM,nrE,reduceIte,reduceCtorEq,nrL];(exact f26 m m _ (by exact topA)));(intro Gq hq hJq;try simp only [upd_n,jn_n] at hq))|(with_reducible first|refine W_regionE lv4 [16] fun K hK=>?_));try simp only [↓pb,↓pd,qds,tb4,o5,V5,vVal,hEg,irN,nrA,nrM,nrE,reduceIte,reduceCtorEq,nrL])|((first|((with_reducible first|apply WO_gT|apply WO_gF);exact rfl)|(with_reducible apply W_cond));(simp only [↓pb,qbs,tb4,o5,V5,vVal,hEg,irN,nrA,nrM,nrE,reduceIte,reduceCtorEq,nrL];with_reducible exact rfl);all_goals (intro hc;(first|exact hcX hc|try simp only [hcs] at hc);try ((with_reducible apply woI);simp only [↓pb,↓pd,qds,tb4,o5,V5,vVal,hc,hEg,irN,nrA,nrM,nrE,reduceIte,reduceCtorEq,nrL])))|(with_reducible first|refine W_seq ?_|refine W_skip ?_|refine W_ret ?_)|fail)
 refine W_forget (N:=H.n) (X:=[]) (h0:=H) (fun h=>Top h∧SR h 2 L.length v5 (L.flatMap eFix)∧h.rd b11=some [iv (wor n p sh),iv (wor n p sh)]∧h.rd Gq.n=some [iv (wor m p sh),iv (wor m p sh)]∧b11 < h.n∧Gq.n < h.n) (by exact frA) ⟨by exact topA,S11.fr0 (N:=H.n) (by exact frA),by simp (disch:=try exact dA) only [qcs,tb4,hEg,irN,nrA,nrM,nrE,reduceIte,reduceCtorEq,nrL];exact r11',upd_rd_same,by simp only [upd_n];omega,Nat.lt_succ_self _⟩ ?_
 rintro h13 hF13 ⟨hT13,S13,r13,u13,t13,w13⟩
 generalize Gq.n=b18 at *
 clear hF12 hT12 S11 hJq hq
 have n13:=hF13.n
 repeat' (first|((with_reducible refine hK _ _ fun e2 hEn=>?_);clear hK K;simp only [lv4,forallC,forallL,and_true] at hEn;(try simp only [↓pb,qbs,tb4,hEg,irN,nrA,nrM,nrE,reduceIte,reduceCtorEq,nrL] at hEn);clear hEg;(try clear eg);have hEg:=hEn;clear hEn;rename Env=>eg)|((first|((with_reducible first|apply oV_intro|apply oH_intro|apply oB_intro);(simp (disch:=try exact dA) only [qcs,tb4,o5,V6,vVal,wnm,hEg,irN,nrA,nrM,nrE,reduceIte,reduceCtorEq,nrL];with_reducible exact rfl))|((with_reducible apply WO_callE);(simp only [↓pb,qbs,tb4,o5,V6,vVal,wnm,hEg,irN,nrA,nrM,nrE,reduceIte,reduceCtorEq,nrL];(exact E_or (f22 v5 L day (n - m) (n - m) sh _ (S13.fr0 (N:=H.n) (by exact frA)) hLn))))|((with_reducible apply WO_callV);(focus exact topA);(simp only [↓pb,qbs,tb4,o5,V6,vVal,wnm,hEg,irN,nrA,nrM,nrE,reduceIte,reduceCtorEq,nrL];(exact f26 (n - m) (n - m) _ (by exact topA)));(intro Gq hq hJq;try simp only [upd_n,jn_n] at hq))|(with_reducible first|refine W_regionE lv4 [17] fun K hK=>?_));try simp only [↓pb,↓pd,qds,tb4,o5,V6,vVal,wnm,hEg,irN,nrA,nrM,nrE,reduceIte,reduceCtorEq,nrL])|((first|((with_reducible first|apply WO_gT|apply WO_gF);exact rfl)|(with_reducible apply W_cond));(simp only [↓pb,qbs,tb4,o5,V6,vVal,wnm,hEg,irN,nrA,nrM,nrE,reduceIte,reduceCtorEq,nrL];with_reducible exact rfl);all_goals (intro hc;(first|exact hcX hc|try simp only [hcs] at hc);try ((with_reducible apply woI);simp only [↓pb,↓pd,qds,tb4,o5,V6,vVal,wnm,hc,hEg,irN,nrA,nrM,nrE,reduceIte,reduceCtorEq,nrL])))|(with_reducible first|refine W_seq ?_|refine W_skip ?_|refine W_ret ?_)|fail)
 refine W_forget (N:=H.n) (X:=[]) (h0:=H) (fun h=>Top h∧h.rd b11=some [iv (wor n p sh),iv (wor n p sh)]∧h.rd b18=some [iv (wor m p sh),iv (wor m p sh)]∧h.rd Gq.n=some [iv (wor (n - m) p sh),iv (wor (n - m) p sh)]∧b11 < h.n∧b18 < h.n∧Gq.n < h.n) (by exact frA) ⟨by exact topA,by simp (disch:=try exact dA) only [qcs,tb4,hEg,irN,nrA,nrM,nrE,reduceIte,reduceCtorEq,nrL];exact r13,by simp (disch:=try exact dA) only [qcs,tb4,hEg,irN,nrA,nrM,nrE,reduceIte,reduceCtorEq,nrL];exact u13,upd_rd_same,by simp only [upd_n];omega,by simp only [upd_n];omega,Nat.lt_succ_self _⟩ ?_
 rintro h14 hF14 ⟨hT14,r14,u14,y14,t14,w14,z14⟩
 generalize Gq.n=b20 at *
 have n14:=hF14.n
 have wsum:IntKind.i64.wrap (wor m p sh + wor (n - m) p sh)=wor m p sh + wor (n - m) p sh:=wrap64 (by omega) (by omega)
 have wsub:IntKind.i64.wrap (wor n p sh - 1)=wor n p sh - 1:=wrap64 (by omega) (by omega)
 rcases hadd with hadd|hadd
 all_goals rw [hadd] at wsum
 all_goals (
  repeat' (first|((with_reducible refine hK _ _ fun e2 hEn=>?_);clear hK K;simp only [lv4,forallC,forallL,and_true] at hEn;(try simp only [↓pb,qbs,tb4,hEg,irN,nrA,nrM,nrE,reduceIte,reduceCtorEq,nrL] at hEn);clear hEg;(try clear eg);have hEg:=hEn;clear hEn;rename Env=>eg)|((first|((with_reducible first|apply oV_intro|apply oH_intro|apply oB_intro);(simp (disch:=try exact dA) only [qcs,tb4,r14,u14,y14,hadd,wsum,wsub,nzs,hEg,irN,nrA,nrM,nrE,reduceIte,reduceCtorEq,nrL];with_reducible exact rfl))|((with_reducible apply WO_callV);(focus exact topA);(simp only [↓pb,qbs,tb4,r14,u14,y14,hadd,wsum,wsub,nzs,hEg,irN,nrA,nrM,nrE,reduceIte,reduceCtorEq,nrL];(exact f15 _ (by exact topA)));(intro Gq hq hJq;try simp only [upd_n,jn_n] at hq))|(with_reducible first|refine W_regionF lv4 fun K hK=>?_));try simp only [↓pb,↓pd,qds,tb4,r14,u14,y14,hadd,wsum,wsub,nzs,hEg,irN,nrA,nrM,nrE,reduceIte,reduceCtorEq,nrL])|((first|((with_reducible first|apply WO_gT|apply WO_gF);exact rfl)|(with_reducible apply W_cond));(simp only [↓pb,qbs,tb4,r14,u14,y14,hadd,wsum,wsub,nzs,hEg,irN,nrA,nrM,nrE,reduceIte,reduceCtorEq,nrL];with_reducible exact rfl);all_goals (intro hc;(first|exact hcX hc|try simp only [hcs] at hc);try ((with_reducible apply woI);simp only [↓pb,↓pd,qds,tb4,r14,u14,y14,hadd,wsum,wsub,nzs,hc,hEg,irN,nrA,nrM,nrE,reduceIte,reduceCtorEq,nrL])))|(with_reducible first|refine W_seq ?_|refine W_skip ?_|refine W_ret ?_)|fail))
 all_goals (
  refine ⟨by first|exact .inl rfl|exact .inr rfl, ?_⟩
  rw [ret1 Try.results4]
  simp only [↓pb,qbs,tb4,rv_tmp,rv_cell,hEg,irN,nrA,nrM,nrE,reduceIte,reduceCtorEq,nrL]
  repeat ((with_reducible apply oV_intro);(simp (disch:=try exact dA) only [qcs,tb4,hEg,irN,nrA,nrM,nrE,reduceIte,reduceCtorEq,nrL];exact rfl)))
 all_goals (
  exact frA)
end Go.Proofs.Swa
set_option maxRecDepth 20000
set_option linter.unusedVariables false
set_option linter.unusedSimpArgs false
namespace Go.Proofs.Swa
open Go
open Nat renaming reduceAdd → nrA, reduceMul → nrM, reduceEqDiff → nrE, reduceLT → nrL
open Int renaming reduceToNat → irN
theorem SR.castZ {H:AHeap} {s m k:Nat} {v:Value} {c:List Value} (h:SR H s m v c) (e:m=k):SR H s k v c:=e ▸ h
end Go.Proofs.Swa
namespace Go.Proofs.Ytloabbaheifkgaa
open Go.ChangeShapes Go.WideShapes Go.ChangeAt Go.RowKit
open Go.Proofs.Swa (SR ints iv Top Fr RoB RoOk)
theorem cells3:Try.prog.cellsOf 3=1:=by kernel_rfl
theorem own5:ownKnob Try.prog.godebug=none:=by kernel_rfl
section
variable {H:Type} {enc:TypeId×Value→H} {P:Program}
theorem post_of_below {f:Func} {s:ChangeSpec} {apart fresh handsOn again:Bool} {W W':World} {args:Array Value} {v:Value} {ds gs:List (DataW H)} {before pa pv:List MemPlace}
  (hW:DataW.Whole enc P f.params.toList s.vars apart W args.toList ds gs before)
  (hres:∀ (b:Nat) (sp:Nat→Bool) (hd:Bool),DataW.TrodAll enc P W' b sp hd f.resultTypes.toList (v.resultList f.resultTypes.size) (s.fn H (ds ++ gs)).results [])
  (hargs:∀ sp:Nat→Bool,(∀ p∈before,sp p.block=true)→DataW.TrodAll enc P W' 0 sp true f.params.toList args.toList (s.fn H (ds ++ gs)).args pa)
  (hvars:∀ sp:Nat→Bool,(∀ p∈before,sp p.block=true)→DataW.TrodVars enc P W' sp s.vars (s.fn H (ds ++ gs)).vars pv)
  (hps:before=pa ++ pv) (hb:Below W.heap.size W W')
  (hok:∀ (j:Nat) (t:TypeId) (r:Value),f.resultTypes[j]? = some t→(v.resultList f.resultTypes.size)[j]? = some r→Value.okWide P W' .any 0 t r) :
  s.post enc P f apart fresh handsOn again W args v W':=by
 have hlt:∀ p∈before,p.block < W.heap.size:=fun p hp=>hW.lt p hp
 have hold:∀ p∈before,(fun b=>decide (b < W.heap.size)) p.block=true:=fun p hp=>by simpa using hlt p hp
 refine ⟨ds,gs,before,[],pa,pv,hW,hres _ _ _,hargs _ hold,hvars _ hold,World.keptBut_mono (fun p hp=>⟨hp, ?_⟩) (hb.frame (·∈before)),fun _=>?_⟩
 ·rw [hps,List.mem_append] at hp
  exact Or.inr hp
 ·obtain ⟨_,_,_,_,_,hz,hn⟩:=hW
  refine ⟨hok,_,_,([] ++ pa) ++ pv,⟨[] ++ pa,pv,trodAll_append (hargs _ (fun _ _=>rfl)) (hres _ _ _),hvars _ (fun _ _=>rfl),rfl, ?_, ?_⟩, ?_⟩
  ·intro b off hp
   have hin:MemPlace.cell b off∈before:=by rw [hps];simpa using hp
   rw [hb.frozen (hlt _ hin)]
   exact hz b off hin
  ·intro ha
   have:=hn ha
   rw [hps] at this
   simpa using this
  ·intro p hp _
   rw [hps]
   simpa using hp
end
def LawInts (f:FuncId):Prop:=∀ (vl:Value) (l:List Int) (H:Swa.AHeap),Top H→SR H 1 l.length vl (ints l)→l.length≤9223372036854775807→∃ v H',Swa.Cl Try.prog (Swa.OrC Try.prog) 0 (.fn f) #[vl] H v H'∧v=.bool true∧Fr H.n [] H H'
theorem ints_call {f:FuncId} (hf:LawInts f) {H:Type} {enc:TypeId×Value→H} {W:World} {v0:Value} {d0:DataW H} {p0:List MemPlace} {base0:Nat} (hv:Value.okWide Try.prog W .any base0 27 v0) (h0:DataW.Trod enc Try.prog W 0 (fun _=>true) true 27 v0 d0 p0) :
  Calls Try.prog f #[v0] W fun e W'=>e=.returned (.bool true)∧Below W.heap.size W W':=by
 have hmix:Try.prog.follows .mixedOrders=true:=by kernel_rfl
 obtain ⟨a0,len,cap,rfl⟩:=okWide_slice Try.underlying27 hv
 obtain ⟨fuel,hf0⟩:=h0
 rcases open_ints Try.underlying27 Try.underlying3 cells3 hf0 with ⟨hcs,hx⟩|⟨a,len',cap',zs,hcs,_,hl,hm,hz,hx,hcell,hwz⟩
 ·simp [Value.cells] at hcs
  obtain ⟨rfl,rfl,rfl⟩:=hcs
  refine Swa.law_callsC hmix (L:=[]) (by simp) (Swa.ARel.one (.flat rfl)) ?_
  exact hf _ [] _ (Swa.top_heapOf _) (Swa.GS.nul (s:=1)).sr (by simp)
 ·simp [Value.cells] at hcs
  obtain ⟨rfl,rfl,rfl⟩:=hcs
  simp only [if_true] at hz
  unfold maxLen at hm
  by_cases hc:cap=0
  ·subst hc
   have hl0:len=0:=by omega
   subst hl0
   refine Swa.law_callsC hmix (L:=[]) (by simp) (args:=#[.slice (some ⟨0,1,none⟩) 0 0]) (Swa.ARel.one (.empty (by omega))) ?_
   exact hf _ [] _ (Swa.top_heapOf _) ⟨.inr ⟨_,_,_,rfl,Nat.le_refl _⟩,rfl,.inl rfl,.inl rfl⟩ (by simp)
  ·have hlen:(ints zs).length=zs.length:=Swa.ints_len zs
   have hr:=Swa.roOk_of (w:=W) (a:=a) (cs:=ints zs) (T:=3) (by omega) (fun i hi=>by
    rw [hcell i (by omega)]
    have:(ints zs)[i]=iv (zs.getD i 0):=by
     have hi2:i < zs.length:=by omega
     simp [ints,hi2]
    rw [this]
    exact ⟨rfl,rfl⟩)
   obtain ⟨b,off,spot⟩:=a
   obtain ⟨hr,hsp⟩:=hr
   dsimp only at hsp
   subst hsp
   refine Swa.law_callsC hmix (L:=[⟨b,off,ints zs,3⟩]) (by intro r hrm;rw [List.mem_singleton.1 hrm];exact hr) (args:=#[.slice (some ⟨0,0,none⟩) len cap]) (Swa.ARel.one ?_) ?_
   ·have:=Swa.VRel.slice (ρ:=Swa.renOf W [⟨b,off,ints zs,3⟩]) (b:=0) (o:=0) (n:=len) (c:=cap) (c':=cap) (im:=⟨b,off,Swa.szOf W b,true,false,0,0⟩) rfl (.inr ⟨rfl,rfl⟩) hl
    exact this
   ·have hlt:(zs.take len).length=len:=by rw [List.length_take];omega
    have S:SR (Swa.heapOf [⟨b,off,ints zs,3⟩]) 1 len (.slice (some ⟨0,0,none⟩) len cap) (ints (zs.take len)):=by
     refine ⟨.inr ⟨_,_,_,rfl,hl⟩, ?_,.inr ⟨ints zs,rfl, ?_, ?_⟩,.inr (Nat.lt_succ_self _)⟩
     ·rw [Swa.ints_len,hlt,Nat.mul_one]
     ·show 0 + _≤_
      rw [hlen];omega
     ·show ((ints zs).drop 0).take _=_
      rw [List.drop_zero,Nat.mul_one]
      unfold ints
      rw [← List.map_take]
    exact hf _ (zs.take len) _ (Swa.top_heapOf _) (S.castZ hlt.symm) (by omega)
end Go.Proofs.Ytloabbaheifkgaa
set_option maxRecDepth 20000
set_option linter.unusedVariables false
set_option linter.unusedSimpArgs false
namespace Go.Proofs.Ytloabbaheifkgaa
open Go Go.ChangeShapes Go.WideShapes Go.ChangeAt Go.RowKit
open Go.Proofs.Swa (SR ints iv Top Fr RoB RoOk)
theorem law4:LawInts 4:=fun vl l H hT S hl=>Swa.f4 vl l H hT S hl
set_option maxRecDepth 100000 in
theorem payValued_lifted (os:Os) (started:os.Started) (H:Type) (enc:TypeId×Value→H) :
  ReturnsInHanded {} Try.checked os 4 .any (Rows.payValuedSpec.pre6 enc Try.prog Try.f4 Rows.payValuedRow.domain false) (Rows.payValuedSpec.post enc Try.prog Try.f4 false true false false):=by
 refine returnsInHanded_of_change (C:=Try.checked) own5 started (by kernel_rfl) Try.func4
  (ChangeSpec.witness6 (enc:=enc) (C:=Try.checked) false ⟨#[],#[.slice none 0 0],[]⟩ 8 (by kernel_rfl) (by kernel_rfl) (by kernel_rfl) (by kernel_rfl)) ?_
 intro W base args ds gs before hval0 hW hcnd _
 have hval:∀ (j:Nat) t v,Try.f4.params[j]? = some t→args[j]? = some v→Value.okWide Try.prog W .any base t v:=hval0
 have hW':=hW
 have hlt:=hW.lt
 obtain ⟨p,q,hA0,hV,rfl,hfz,hnd⟩:=hW
 have hA:DataW.TrodAll enc Try.prog W 0 (fun _=>true) true Try.f4.params.toList args.toList ds p:=hA0
 rw [Try.params4] at hA hval
 obtain ⟨v0,vs0,d0,ds0,p0,q0,hargs,rfl,rfl,h0,r0⟩:=trodAll_cons hA
 obtain ⟨rfl,rfl,rfl⟩:=trodAll_nil r0
 obtain rfl:args = #[v0]:=by cases args;simp_all
 obtain ⟨rfl,rfl⟩:=trodVars_none hV
 clear hA0 hval0
 simp only [List.append_nil] at hW' hlt
 refine (ints_call law4 (hval 0 27 v0 rfl rfl) h0).mono fun e W' ⟨he,hb⟩=>?_
 subst he
 have again:∀ sp:Nat→Bool,(∀ x∈p0,sp x.block=true)→DataW.Trod enc Try.prog W' 0 sp true 27 v0 d0 p0:=fun sp hsp =>
  WideElems.Trod_stays (by kernel_rfl) (by kernel_rfl) (of_decide_eq_true (by kernel_rfl)) h0 (fun x hx=>hb.same (hlt x hx)) hsp
 exact ⟨_,rfl,post_of_below (pa:=p0) (pv:=[]) hW' (fun _ _ _=>(trodAll_cons_mk (shut_bool Try.underlying4 _) trodAll_mk0)) (fun sp hsp=>trodAll_mk1 (again sp hsp)) (fun _ _=>rfl) (by simp) hb (ok_one (by kernel_rfl) rfl (okWide_bool_mk Try.underlying4 _))⟩
theorem payValued_holds:Rows.PayValuedSaid :=
 OpenClaim.holds_of_wide 4 Try.f4 rfl rfl rfl rfl rfl rfl rfl ⟨rfl,rfl,rfl,rfl,rfl⟩ rfl rfl rfl rfl rfl (by kernel_rfl) Try.func4 (by kernel_rfl)
  (of_decide_eq_true (by kernel_rfl)) (by unfold Func.isWrapper;first|(rw [if_pos (by decide +kernel)];kernel_rfl)|(rw [if_neg (by decide +kernel)];exact ⟨rfl,rfl⟩))
  (fun os started H enc _=>payValued_lifted os started H enc)
end Go.Proofs.Ytloabbaheifkgaa
