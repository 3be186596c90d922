/- as soon as can be -/
import Derived.Test.YtloabbaheifkgaaP12
import Derived.Test.YtloabbaheifkgaaRows
import Derived.ProofKit
import Derived.OpenShut
import Derived.JoinedCond
import Derived.Below
import Derived.ChangeSame
set_option maxRecDepth 20000
set_option linter.unusedVariables false
set_option linter.unusedSimpArgs false
namespace Go.Proofs.Swa
open Go
open Nat renaming reduceAdd → nrA, reduceMul → nrM, reduceEqDiff → nrE, reduceLT → nrL
open Int renaming reduceToNat → irN
attribute [local congr] WO_congr oV_congr oB_congr oH_congr WD_congr oblO_congr oblA_congr oblR_congr
theorem SR.sk_fr {N':Nat} {X:List Nat} {A B:AHeap} {s n:Nat} {v:Value} {c:List Value} (F:Fr N' X A B) (S:SR A s n v c) (hx:n=0∨vblk v∉X) (K:n=0∨SK A s v):n=0∨SK B s v:=by
 rcases K with q|q
 ·exact .inl q
 ·rcases S.lt with q2|q2
  ·exact .inl q2
  ·rcases hx with q3|q3
   ·exact .inl q3
   ·exact .inr (q.fr F q2 q3)
theorem GS.vlt {H:AHeap} {s n:Nat} {v:Value} {c:List Value} {g:Option Nat} (h:GS H s n v c g) (h0:0 < vblk v):vblk v < H.n:=by
 cases h with
 | nil hn hv hc=>subst hv;cases h0
 | full hv hb=>subst hv;exact hb
 | gr hv hb=>subst hv;exact hb
structure TwoH (N b c:Nat) (x:Int) (la lb va vb:Value) (ga gb:Option Nat) (T U:Tll) (h:AHeap):Prop where
 top:Top h
 lt:N < b∧b < c∧c < h.n
 feed:h.get N=.cells [uv x] 111 .ex
 ta:h.get b=.cells [iv T.Names,iv T.Limit,iv T.Window,la,va] 48 .ex
 tb:h.get c=.cells [iv U.Names,iv U.Limit,iv U.Window,lb,vb] 48 .ex
 sla:SR h 3 T.Links.length la (T.Links.flatMap eLnk)
 slb:SR h 3 U.Links.length lb (U.Links.flatMap eLnk)
 ska:T.Links.length=0∨SK h 3 la
 skb:U.Links.length=0∨SK h 3 lb
 gda:GS h 4 T.Dues.length va (T.Dues.flatMap eDue) ga
 gdb:GS h 4 U.Dues.length vb (U.Dues.flatMap eDue) gb
 gea:∀ y,ga=some y→N≤y
 geb:∀ y,gb=some y→N≤y
 ne:∀ y,ga=some y→gb≠some y
 oa:vblk va∉[N,b,c]
 ob:vblk vb∉[N,b,c]
 pa:T.Links.length=0∨vblk la∉[N,b,c]
 pb:U.Links.length=0∨vblk lb∉[N,b,c]
theorem TwoH.fr {N b c:Nat} {x:Int} {la lb va vb:Value} {ga gb:Option Nat} {T U:Tll} {A B:AHeap} (h:TwoH N b c x la lb va vb ga gb T U A) (F:Fr A.n [] A B):TwoH N b c x la lb va vb ga gb T U B:=by
 have hn:=F.n
 have hl:=h.lt
 exact ⟨F.top h.top,by omega,by rw [F.old _ (by omega) (by simp)];exact h.feed,by rw [F.old _ (by omega) (by simp)];exact h.ta,by rw [F.old _ (by omega) (by simp)];exact h.tb,h.sla.fr0 F,h.slb.fr0 F,SR.sk_fr F h.sla (.inr (by simp)) h.ska,SR.sk_fr F h.slb (.inr (by simp)) h.skb,h.gda.fr0 F,h.gdb.fr0 F,h.gea,h.geb,h.ne,h.oa,h.ob,h.pa,h.pb⟩
theorem not1 {N b c v:Nat} (h:v∉[N,b,c]):v∉[N]:=by
 simp only [List.mem_cons,List.not_mem_nil,or_false,not_or] at h ⊢
 exact h.1
theorem TwoH.feedfr {N b c:Nat} {x x':Int} {la lb va vb:Value} {ga gb:Option Nat} {T U:Tll} {A B:AHeap} (h:TwoH N b c x la lb va vb ga gb T U A) (F:Fr A.n [N] A B) (hg:B.get N=.cells [uv x'] 111 .ex):TwoH N b c x' la lb va vb ga gb T U B:=by
 have hn:=F.n
 have hl:=h.lt
 exact ⟨F.top h.top,by omega,hg,by rw [F.old _ (by omega) (by simp;omega)];exact h.ta,by rw [F.old _ (by omega) (by simp;omega)];exact h.tb,h.sla.fr F (h.pa.imp id not1),h.slb.fr F (h.pb.imp id not1),SR.sk_fr F h.sla (h.pa.imp id not1) h.ska,SR.sk_fr F h.slb (h.pb.imp id not1) h.skb,h.gda.fr F (fun y hy=>by subst hy;exact h.gda.grp_lt) (not1 h.oa),h.gdb.fr F (fun y hy=>by subst hy;exact h.gdb.grp_lt) (not1 h.ob),h.gea,h.geb,h.ne,h.oa,h.ob,h.pa,h.pb⟩
theorem not2 {N b c v:Nat} (h:v∉[N,b,c]):v∉[b,c]:=by
 simp only [List.mem_cons,List.not_mem_nil,or_false,not_or] at h ⊢
 exact h.2
theorem addDue_flat (t:Tll) (d:Due):(addDue t d).Dues.flatMap eDue=t.Dues.flatMap eDue ++ eDue d:=by
 show (t.Dues ++ [d]).flatMap eDue=_
 rw [List.flatMap_append,List.flatMap_singleton]
theorem addDue_len (t:Tll) (d:Due):(addDue t d).Dues.length=t.Dues.length + 1:=by
 show (t.Dues ++ [d]).length=_
 rw [List.length_append]
 rfl
set_option maxHeartbeats 8000000 in
theorem f7 (vn:Value) (l:List Int) (H:AHeap) (hT:Top H) (S:SR H 1 l.length vn (ints l)) (hl:l.length≤9223372036854775807):∃ v H',C8 (.fn 7) #[vn] H v H'∧v=.bool true∧Fr H.n [] H H':=by
 refine Cl.ofW Try.func7 rfl (by kernel_rfl) (by rw [Try.ntmps7];exact Nat.le_of_ble_eq_true rfl) (by kernel_rfl) ?_
 have hEg:True:=trivial
 refine gcW [0] ?_
 intro eg hEn
 simp only [forallC,forallL,and_true] at hEn
 try simp only [↓pb,qbs,tb7,hEg,irN,nrA,nrM,nrE,reduceIte,reduceCtorEq,nrL] at hEn
 replace hEg:=hEn;clear hEn
 repeat' (first|((with_reducible refine hK _ _ fun e2 hEn=>?_);clear hK K;simp only [lv7,forallC,forallL,and_true] at hEn;(try simp only [↓pb,qbs,tb7,hEg,irN,nrA,nrM,nrE,reduceIte,reduceCtorEq,nrL] at hEn);clear hEg;(try clear eg);have hEg:=hEn;clear hEn;rename Env=>eg)|((first|((with_reducible first|apply oV_intro|apply oH_intro|apply oB_intro);(simp (disch:=try exact dA) only [qcs,tb7,hEg,irN,nrA,nrM,nrE,reduceIte,reduceCtorEq,nrL];with_reducible exact rfl))|((with_reducible first|apply oblA_and|apply oblR_and|apply oblO_and);(focus exact obA))|((with_reducible apply WO_callE);(simp only [↓pb,qbs,tb7,hEg,irN,nrA,nrM,nrE,reduceIte,reduceCtorEq,nrL];(exact f16 _ l _ hT S hl)))|(with_reducible first|refine W_regionF lv7 fun K hK=>?_|refine W_drawnF lv7 fun K hK=>?_));try simp only [↓pb,↓pd,qds,tb7,hEg,irN,nrA,nrM,nrE,reduceIte,reduceCtorEq,nrL])|((first|((with_reducible first|apply WO_gT|apply WO_gF|apply WD_gT|apply WD_gF);exact rfl)|(with_reducible apply W_cond));(simp only [↓pb,qbs,tb7,hEg,irN,nrA,nrM,nrE,reduceIte,reduceCtorEq,nrL];with_reducible exact rfl);all_goals (intro hc;(first|exact hcX hc|try simp only [hcs] at hc);try ((with_reducible first|apply woI|apply wdI);simp only [↓pb,↓pd,qds,tb7,hc,hEg,irN,nrA,nrM,nrE,reduceIte,reduceCtorEq,nrL])))|(with_reducible first|refine W_seq ?_|refine W_block ?_|refine W_skip ?_|refine W_ret ?_|refine W_exit ?_|apply blockK_exit)|((with_reducible apply blockK_pass);(focus decide))|fail)
 refine WO_callX (X:=[H.n]) (by simp only [↓pb,qbs,tb7,hEg,irN,nrA,nrM,nrE,reduceIte,reduceCtorEq,nrL];exact f29 H.n (feedOf l) 4 4 _ (by exact topA) (by simp (disch:=try exact dA) only [qcs,tb7,hEg,irN,nrA,nrM,nrE,reduceIte,reduceCtorEq,nrL]) (by simp only [↓pb,qbs,tb7,hEg,irN,nrA,nrM,nrE,reduceIte,reduceCtorEq,nrL];omega) (by omega) (by omega)) ?_
 rintro v3 H3 ⟨vl,vd,t,x1,rfl,Sl,Kl,Sd,hx3,V,hnm⟩ hF3
 have hT3:Top H3:=hF3.top (by exact topA)
 have n3:=hF3.n
 simp only [upd_n] at n3
 have hF03:Fr H.n [] H H3:=by
  refine Fr.trans' (A:=H) ?_ hF3 (by simp only [↓pb,qbs,tb7,hEg,irN,nrA,nrM,nrE,reduceIte,reduceCtorEq,nrL];omega) (by intro b hb hlt;simp at hb;omega)
  exact frA
 have ol:=Sl.one
 have od:=Sd.one
 have vlim:=V.limit
 have vnam:=V.names
 have hll:t.Links.length < 1000000:=by have:=V.linksN;omega
 have hdd:t.Dues.length < 1000000:=by have:=V.duesN;omega
 have hd4:=V.duesN
 simp only [↓pb,↓pd,qds,tb7,ol,od,hEg,irN,nrA,nrM,nrE,reduceIte,reduceCtorEq,nrL]
 repeat' (first|((with_reducible refine hK _ _ fun e2 hEn=>?_);clear hK K;simp only [lv7,forallC,forallL,and_true] at hEn;(try simp only [↓pb,qbs,tb7,hEg,irN,nrA,nrM,nrE,reduceIte,reduceCtorEq,nrL] at hEn);clear hEg;(try clear eg);have hEg:=hEn;clear hEn;rename Env=>eg)|((first|((with_reducible first|apply oV_intro|apply oH_intro|apply oB_intro);(simp (disch:=try exact dA) only [qcs,tb7,ol,od,hEg,irN,nrA,nrM,nrE,reduceIte,reduceCtorEq,nrL];with_reducible exact rfl))|((with_reducible first|apply oblA_and|apply oblR_and|apply oblO_and);(focus exact obA))|(with_reducible first|refine W_regionE lv7 [3] fun K hK=>?_|refine W_drawnE lv7 [3] fun K hK=>?_));try simp only [↓pb,↓pd,qds,tb7,ol,od,hEg,irN,nrA,nrM,nrE,reduceIte,reduceCtorEq,nrL])|((first|((with_reducible first|apply WO_gT|apply WO_gF|apply WD_gT|apply WD_gF);exact rfl)|(with_reducible apply W_cond));(simp only [↓pb,qbs,tb7,ol,od,hEg,irN,nrA,nrM,nrE,reduceIte,reduceCtorEq,nrL];with_reducible exact rfl);all_goals (intro hc;(first|exact hcX hc|try simp only [hcs] at hc);try ((with_reducible first|apply woI|apply wdI);simp only [↓pb,↓pd,qds,tb7,ol,od,hc,hEg,irN,nrA,nrM,nrE,reduceIte,reduceCtorEq,nrL])))|(with_reducible first|refine W_seq ?_|refine W_block ?_|refine W_skip ?_|refine W_ret ?_|refine W_exit ?_|apply blockK_exit)|((with_reducible apply blockK_pass);(focus decide))|fail)
 refine W_forget (N:=H.n) (X:=[]) (h0:=H) (TlH H.n H3.n x1 vl vd t) (by exact frA) ⟨by exact topA,by simp only [upd_n];omega,by simp (disch:=try exact dA) only [qcs,tb7,hEg,irN,nrA,nrM,nrE,reduceIte,reduceCtorEq,nrL];exact hx3,upd_get_same,Sl.ex,SR.sk_fr (Fr.ex (N:=0) (X:=[])) Sl (.inr (by simp)) Kl,Sd.ex⟩ ?_
 intro h4 hF4 P4
 have ob1:t.Links.length=0∨vblk vl≠H3.n:=by
  rcases Sl.lt with q|q
  ·exact .inl q
  ·exact .inr (by omega)
 have ob2:t.Dues.length=0∨vblk vd≠H3.n:=by
  rcases Sd.lt with q|q
  ·exact .inl q
  ·exact .inr (by omega)
 have hb4:H.n < H3.n:=by omega
 generalize H3.n=b4 at *
 clear hF3 hF03 hT3 Sl Kl Sd hx3 H3
 have g4:=P4.tl
 have f4:=P4.feed
 have l4:=P4.lt
 have r4:h4.rd b4=some [iv t.Names,iv t.Limit,iv t.Window,vl,vd]:=by rw [rd_def,g4];rfl
 have z1:=either2 x1 0 20
 have z2:=btw_spec (x:=eitherS x1 [0,20]) (lo:=1) (hi:=4) (by omega) (by omega) (by omega)
 have z3:0≤either x1 [0,20]∧either x1 [0,20]≤20:=by rcases z1 with q|q <;> rw [q] <;> omega
 have w1:IntKind.i64.wrap (t.Limit + either x1 [0,20])=t.Limit + either x1 [0,20]:=wrap64 (by omega) (by omega)
 repeat' (first|((with_reducible refine hK _ _ fun e2 hEn=>?_);clear hK K;simp only [lv7,forallC,forallL,and_true] at hEn;(try simp only [↓pb,qbs,tb7,hEg,irN,nrA,nrM,nrE,reduceIte,reduceCtorEq,nrL] at hEn);clear hEg;(try clear eg);have hEg:=hEn;clear hEn;rename Env=>eg)|((first|((with_reducible first|apply oV_intro|apply oH_intro|apply oB_intro);(simp (disch:=try exact dA) only [qcs,tb7,r4,f4,g4,w1,ol,od,hEg,irN,nrA,nrM,nrE,reduceIte,reduceCtorEq,nrL];with_reducible exact rfl))|((with_reducible first|apply oblA_and|apply oblR_and|apply oblO_and);(focus exact obA))|((with_reducible apply WO_callE);(simp only [↓pb,qbs,tb7,r4,f4,g4,w1,ol,od,hEg,irN,nrA,nrM,nrE,reduceIte,reduceCtorEq,nrL];(first|exact f21 _ _ _ [_,_] _ (by simp (disch:=try exact dA) only [qcs,tb7,r4,f4,g4,w1,ol,od,hEg,irN,nrA,nrM,nrE,reduceIte,reduceCtorEq,nrL];rfl) (SR.new rfl) (.inl (by simp only [vblk];omega)) (by simp)|exact f24 _ _ _ _ _ (by simp (disch:=try exact dA) only [qcs,tb7,r4,f4,g4,w1,ol,od,hEg,irN,nrA,nrM,nrE,reduceIte,reduceCtorEq,nrL];rfl))))|(with_reducible first|refine W_regionE lv7 [4] fun K hK=>?_|refine W_drawnE lv7 [4] fun K hK=>?_));try simp only [↓pb,↓pd,qds,tb7,r4,f4,g4,w1,ol,od,hEg,irN,nrA,nrM,nrE,reduceIte,reduceCtorEq,nrL])|((first|((with_reducible first|apply WO_gT|apply WO_gF|apply WD_gT|apply WD_gF);exact rfl)|(with_reducible apply W_cond));(simp only [↓pb,qbs,tb7,r4,f4,g4,w1,ol,od,hEg,irN,nrA,nrM,nrE,reduceIte,reduceCtorEq,nrL];with_reducible exact rfl);all_goals (intro hc;(first|exact hcX hc|try simp only [hcs] at hc);try ((with_reducible first|apply woI|apply wdI);simp only [↓pb,↓pd,qds,tb7,r4,f4,g4,w1,ol,od,hc,hEg,irN,nrA,nrM,nrE,reduceIte,reduceCtorEq,nrL])))|(with_reducible first|refine W_seq ?_|refine W_block ?_|refine W_skip ?_|refine W_ret ?_|refine W_exit ?_|apply blockK_exit)|((with_reducible apply blockK_pass);(focus decide))|fail)
 generalize either x1 [0,20]=more at *
 generalize eitherS x1 [0,20]=x2 at *
 generalize btwS x2 1 4=x3 at *
 generalize btw x2 1 4=win at *
 refine W_forget (N:=H.n) (X:=[]) (h0:=H) (TlH H.n b4 x3 vl vd ⟨t.Names,t.Limit + more,win,t.Links,t.Dues⟩) ?_ (P4.step (N':=H.n) (by exact frA) (by simp (disch:=try exact dA) only [qcs,tb7,hEg,irN,nrA,nrM,nrE,reduceIte,reduceCtorEq,nrL]) (by simp (disch:=try exact dA) only [qcs,tb7,hEg,irN,nrA,nrM,nrE,reduceIte,reduceCtorEq,nrL]) ob1 ob2) ?_
 ·refine Fr.trans' hF4 (N':=H.n) (X':=[H.n,b4]) (by exact frA) (Nat.le_refl _) (by intro b hb hlt;simp at hb;omega)
 intro h5 hF5 P5
 clear P4 hF4 g4 f4 l4 r4 h4
 have g5:=P5.tl
 have f5:=P5.feed
 have l5:=P5.lt
 have r5:h5.rd b4=some [iv t.Names,iv (t.Limit + more),iv win,vl,vd]:=by rw [rd_def,g5];rfl
 have hT5:=P5.top
 dsimp only at g5
 have c1:=below_spec x3 t.Names (by omega)
 have w2:IntKind.i64.wrap (3 * min (t.Limit + more) 40)=3 * min (t.Limit + more) 40:=wrap64 (by omega) (by omega)
 have w3:IntKind.i64.wrap (3 * min (t.Limit + more) 40 + 2)=3 * min (t.Limit + more) 40 + 2:=wrap64 (by omega) (by omega)
 have c2:=below_spec (belowS x3 t.Names) (3 * min (t.Limit + more) 40 + 2) (by omega)
 have hlast:=V.last
 repeat' (first|((with_reducible refine hK _ _ fun e2 hEn=>?_);clear hK K;simp only [lv7,forallC,forallL,and_true] at hEn;(try simp only [↓pb,qbs,tb7,hEg,irN,nrA,nrM,nrE,reduceIte,reduceCtorEq,nrL] at hEn);clear hEg;(try clear eg);have hEg:=hEn;clear hEn;rename Env=>eg)|((first|((with_reducible first|apply oV_intro|apply oH_intro|apply oB_intro);(simp (disch:=try exact dA) only [qcs,tb7,r5,f5,g5,w2,w3,ol,od,hEg,irN,nrA,nrM,nrE,reduceIte,reduceCtorEq,nrL];with_reducible exact rfl))|((with_reducible first|apply oblA_and|apply oblR_and|apply oblO_and);(focus exact obA))|((with_reducible apply WO_callE);(simp only [↓pb,qbs,tb7,r5,f5,g5,w2,w3,ol,od,hEg,irN,nrA,nrM,nrE,reduceIte,reduceCtorEq,nrL];(exact f19 _ _ _ _ (by simp (disch:=try exact dA) only [qcs,tb7,r5,f5,g5,w2,w3,ol,od,hEg,irN,nrA,nrM,nrE,reduceIte,reduceCtorEq,nrL];rfl) (by omega))))|((with_reducible apply WO_callV);(focus exact topA);(simp only [↓pb,qbs,tb7,r5,f5,g5,w2,w3,ol,od,hEg,irN,nrA,nrM,nrE,reduceIte,reduceCtorEq,nrL];(exact f30 _ _ _ vl vd t.Dues _ (by exact topA) ol (P5.d.fr (N:=H.n) (X:=[H.n]) (by exact frA) (P5.d.offR f5 (by omega))) hdd));(intro Gq hq hJq;try simp only [upd_n,jn_n] at hq))|(with_reducible first|refine W_regionE lv7 [5] fun K hK=>?_|refine W_drawnE lv7 [5] fun K hK=>?_));try simp only [↓pb,↓pd,qds,tb7,r5,f5,g5,w2,w3,ol,od,hEg,irN,nrA,nrM,nrE,reduceIte,reduceCtorEq,nrL])|((first|((with_reducible first|apply WO_gT|apply WO_gF|apply WD_gT|apply WD_gF);exact rfl)|(with_reducible apply W_cond));(simp only [↓pb,qbs,tb7,r5,f5,g5,w2,w3,ol,od,hEg,irN,nrA,nrM,nrE,reduceIte,reduceCtorEq,nrL];with_reducible exact rfl);all_goals (intro hc;(first|exact hcX hc|try simp only [hcs] at hc);try ((with_reducible first|apply woI|apply wdI);simp only [↓pb,↓pd,qds,tb7,r5,f5,g5,w2,w3,ol,od,hc,hEg,irN,nrA,nrM,nrE,reduceIte,reduceCtorEq,nrL])))|(with_reducible first|refine W_seq ?_|refine W_block ?_|refine W_skip ?_|refine W_ret ?_|refine W_exit ?_|apply blockK_exit)|((with_reducible apply blockK_pass);(focus decide))|fail)
 generalize hce:below (belowS x3 t.Names) (3 * min (t.Limit + more) 40 + 2)=cents at *
 generalize belowS (belowS x3 t.Names) (3 * min (t.Limit + more) 40 + 2)=x4 at *
 generalize belowS x3 t.Names=x3b at *
 generalize below x3 t.Names=name at *
 generalize hday:lastD t.Dues=day at *
 have hcm:0≤cents∧cents≤3 * (t.Limit + more) + 1∧cents≤121:=by omega
 have Q:RoomQ ⟨t.Names,t.Limit + more,win,t.Links,t.Dues⟩ name day:=V.roomQ (by omega) (by omega) (by omega) (by omega) (by omega) (by omega)
 refine W_forget (N:=H.n) (X:=[]) (h0:=H) (TlH H.n b4 x4 vl vd ⟨t.Names,t.Limit + more,win,t.Links,t.Dues⟩) ?_ (P5.step (N':=H.n) (by exact frA) (by simp (disch:=try exact dA) only [qcs,tb7,hEg,irN,nrA,nrM,nrE,reduceIte,reduceCtorEq,nrL]) (by simp (disch:=try exact dA) only [qcs,tb7,hEg,irN,nrA,nrM,nrE,reduceIte,reduceCtorEq,nrL];exact g5) ob1 ob2) ?_
 ·refine Fr.trans' hF5 (N':=H.n) (X':=[H.n]) (by exact frA) (Nat.le_refl _) (by intro b hb hlt;simp at hb;omega)
 intro h6 hF6 P6
 clear P5 hF5 g5 f5 l5 r5 hT5 hJq hq
 obtain ⟨tt,htt⟩:∃ tt:Tll,tt=⟨t.Names,t.Limit + more,win,t.Links,t.Dues⟩:=⟨_,rfl⟩
 rw [← htt] at P6 Q
 have hll:tt.Links.length < 1000000:=by rw [htt];exact hll
 have hdd:tt.Dues.length < 1000000:=by rw [htt];exact hdd
 have hd4:tt.Dues.length≤4:=by rw [htt];exact hd4
 have hct:cents≤3 * tt.Limit + 1:=by rw [htt];dsimp only;omega
 have hwt:tt.Window≤4:=by rw [htt];dsimp only;omega
 have hdy:day≤100:=by omega
 clear htt V w1 w2 w3 hlast vlim vnam z1 z2 z3 hnm ob1 ob2 c2 hce
 have g6:=P6.tl
 have f6:=P6.feed
 have l6:=P6.lt
 have hT6:=P6.top
 have r6:h6.rd b4=some [iv tt.Names,iv tt.Limit,iv tt.Window,vl,vd]:=by rw [rd_def,g6];rfl
 have Kf:∀ h,Fr H.n [] h6 h→(tt.Links.length=0∨SK h 3 vl):=fun h F=>SR.sk_fr F P6.l (.inr (by simp)) P6.k
 repeat' (first|((with_reducible refine hK _ _ fun e2 hEn=>?_);clear hK K;simp only [lv7,forallC,forallL,and_true] at hEn;(try simp only [↓pb,qbs,tb7,hEg,irN,nrA,nrM,nrE,reduceIte,reduceCtorEq,nrL] at hEn);clear hEg;(try clear eg);have hEg:=hEn;clear hEn;rename Env=>eg)|((first|((with_reducible first|apply oV_intro|apply oH_intro|apply oB_intro);(simp (disch:=try exact dA) only [qcs,tb7,r6,ol,od,hEg,irN,nrA,nrM,nrE,reduceIte,reduceCtorEq,nrL];with_reducible exact rfl))|((with_reducible first|apply oblA_and|apply oblR_and|apply oblO_and);(focus exact obA))|((with_reducible apply WO_callV);(focus exact topA);(simp only [↓pb,qbs,tb7,r6,ol,od,hEg,irN,nrA,nrM,nrE,reduceIte,reduceCtorEq,nrL];(first|exact f35 vl vd tt name day cents _ (by exact topA) (P6.l.fr0 (N:=H.n) (by exact frA)) (Kf _ (by exact frA)) (P6.d.fr0 (N:=H.n) (by exact frA)) hll hdd|exact f32 vl vd tt name day _ (by exact topA) (P6.l.fr0 (N:=H.n) (by exact frA)) (Kf _ (by exact frA)) (P6.d.fr0 (N:=H.n) (by exact frA)) hll hdd));(intro Gq hq hJq;try simp only [upd_n,jn_n] at hq))|(with_reducible first|refine W_regionE lv7 [7] fun K hK=>?_|refine W_drawnE lv7 [7] fun K hK=>?_));try simp only [↓pb,↓pd,qds,tb7,r6,ol,od,hEg,irN,nrA,nrM,nrE,reduceIte,reduceCtorEq,nrL])|((first|((with_reducible first|apply WO_gT|apply WO_gF|apply WD_gT|apply WD_gF);exact rfl)|(with_reducible apply W_cond));(simp only [↓pb,qbs,tb7,r6,ol,od,hEg,irN,nrA,nrM,nrE,reduceIte,reduceCtorEq,nrL];with_reducible exact rfl);all_goals (intro hc;(first|exact hcX hc|try simp only [hcs] at hc);try ((with_reducible first|apply woI|apply wdI);simp only [↓pb,↓pd,qds,tb7,r6,ol,od,hc,hEg,irN,nrA,nrM,nrE,reduceIte,reduceCtorEq,nrL])))|(with_reducible first|refine W_seq ?_|refine W_block ?_|refine W_skip ?_|refine W_ret ?_|refine W_exit ?_|apply blockK_exit)|((with_reducible apply blockK_pass);(focus decide))|fail)
 have hin:inB cents 0 100000000=true:=decide_eq_true (by omega)
 refine W_forget (N:=H.n) (X:=[]) (h0:=H) (TlH H.n b4 x4 vl vd tt) (by exact frA) (P6.fr (N':=H.n) (by exact frA)) ?_
 intro h7 hF7 P7
 clear P6 hF6 g6 f6 l6 hT6 r6 hJq hq Kf
 have g7:=P7.tl
 have l7:=P7.lt
 have hT7:=P7.top
 have r7:h7.rd b4=some [iv tt.Names,iv tt.Limit,iv tt.Window,vl,vd]:=by rw [rd_def,g7];rfl
 have k:=tillErr_ok Q.ok
 by_cases hk:keptT tt true tt.Dues=true
 ·have sq:SoonQ tt name day:=⟨Q,hk,by omega⟩
  have hr:(roomP tt name day).2=0:=by rw [(Q.room hk).1]
  have hS:soonP tt name day cents=soonGo tt name (4001 - day).toNat (day + ((0:Nat):Int)) cents (esOf tt name day 0):=by
   have e:dayErr tt name day (inB cents 0 100000000)=0:=by
    rw [dayErr_mk Q.ok Q.name Q.day hin Q.late,if_neg (by rw [hk];simp)]
   rw [soonP,if_neg (by omega)]
   congr 1
   omega
  have hsoon:=sq.soon (4001 - day).toNat 0 cents (by omega) (by omega)
  rw [← hS] at hsoon
  rw [hr] at hEg
  repeat' (first|((with_reducible refine hK _ _ fun e2 hEn=>?_);clear hK K;simp only [lv7,forallC,forallL,and_true] at hEn;(try simp only [↓pb,qbs,tb7,hEg,irN,nrA,nrM,nrE,reduceIte,reduceCtorEq,nrL] at hEn);clear hEg;(try clear eg);have hEg:=hEn;clear hEn;rename Env=>eg)|((first|((with_reducible first|apply oV_intro|apply oH_intro|apply oB_intro);(simp (disch:=try exact dA) only [qcs,tb7,r7,ol,od,nzs,hEg,irN,nrA,nrM,nrE,reduceIte,reduceCtorEq,nrL];with_reducible exact rfl))|((with_reducible first|apply oblA_and|apply oblR_and|apply oblO_and);(focus exact obA))|((with_reducible apply WO_callF);(focus exact topA);(simp only [↓pb,qbs,tb7,r7,ol,od,nzs,hEg,irN,nrA,nrM,nrE,reduceIte,reduceCtorEq,nrL];exact f31 vl vd tt _ (by exact topA) (P7.l.fr0 (N:=H.n) (by exact frA)) (P7.d.fr0 (N:=H.n) (by exact frA)) hll hdd);(rintro vq Gq hq hJq ⟨a1,b1,gg1,rfl,A1,K1,B1,hg1,hva1,hvb1⟩;try simp only [upd_n,jn_n] at hq))|(with_reducible first|refine W_regionE lv7 [10] fun K hK=>?_|refine W_drawnE lv7 [10] fun K hK=>?_));try simp only [↓pb,↓pd,qds,tb7,r7,ol,od,nzs,hEg,irN,nrA,nrM,nrE,reduceIte,reduceCtorEq,nrL])|((first|((with_reducible first|apply WO_gT|apply WO_gF|apply WD_gT|apply WD_gF);exact rfl)|(with_reducible apply W_cond));(simp only [↓pb,qbs,tb7,r7,ol,od,nzs,hEg,irN,nrA,nrM,nrE,reduceIte,reduceCtorEq,nrL];with_reducible exact rfl);all_goals (intro hc;(first|exact hcX hc|try simp only [hcs] at hc);try ((with_reducible first|apply woI|apply wdI);simp only [↓pb,↓pd,qds,tb7,r7,ol,od,nzs,hc,hEg,irN,nrA,nrM,nrE,reduceIte,reduceCtorEq,nrL])))|(with_reducible first|refine W_seq ?_|refine W_block ?_|refine W_skip ?_|refine W_ret ?_|refine W_exit ?_|apply blockK_exit)|((with_reducible apply blockK_pass);(focus decide))|fail)
  rename_i G0 hq0 hJ0 a0 b0 gg0 A0 K0 B0 hg0 hva0 hvb0
  have hlt0:∀ x,gg0=some x→x < G0.n:=fun x hx=>by subst hx;exact B0.grp_lt
  have hge1:∀ x,gg1=some x→G0.n≤x:=hg1
  have oa0:=A0.one
  have oa1:=A1.one
  have o0:=B0.one
  have o1:=B1.one
  have v0:=B0.vlt (by omega)
  have v1:=B1.vlt (by omega)
  simp only [jn_n] at v0 v1 hva1 hvb1
  have la0:=A0.lt
  have la1:=A1.lt
  simp only [jn_n] at la0 la1
  have T0:payT tt name day (nAt tt name day) 0=tt:=by unfold payT duesA;rw [List.append_nil]
  have U0:payT tt name day (fun _=>0) 0=tt:=by unfold payT duesA;rw [List.append_nil]
  have TW:TwoH H.n Gq.n (Gq.n + 1) x4 a0 a1 b0 b1 gg0 gg1 tt tt (((((h7.jn G0).jn Gq).upd (Gq.n + 1) Gq.n (.cells [iv 0,iv 0,iv 0,.slice none 0 0,.slice none 0 0] 48 .ex)).upd (Gq.n + 2) (Gq.n + 1) (.cells [iv 0,iv 0,iv 0,.slice none 0 0,.slice none 0 0] 48 .ex)).upd (Gq.n + 2) Gq.n (.cells [iv tt.Names,iv tt.Limit,iv tt.Window,a0,b0] 48 .ex) |>.upd (Gq.n + 2) (Gq.n + 1) (.cells [iv tt.Names,iv tt.Limit,iv tt.Window,a1,b1] 48 .ex)):=by
   refine ⟨by exact topA,by simp only [upd_n];omega,by simp (disch:=try exact dA) only [qcs,tb7,hEg,irN,nrA,nrM,nrE,reduceIte,reduceCtorEq,nrL];exact P7.feed,by simp (disch:=try exact dA) only [qcs,tb7,hEg,irN,nrA,nrM,nrE,reduceIte,reduceCtorEq,nrL],by simp (disch:=try exact dA) only [qcs,tb7,hEg,irN,nrA,nrM,nrE,reduceIte,reduceCtorEq,nrL], ?_, ?_, ?_, ?_, ?_, ?_, ?_, ?_, ?_, ?_, ?_, ?_, ?_⟩
   ·exact A0.fr0 (N:=H.n) (by exact frA)
   ·exact A1.fr0 (N:=H.n) (by exact frA)
   ·exact SR.sk_fr (N':=H.n) (X:=[]) (by exact frA) A0 (.inr (by simp)) K0
   ·exact SR.sk_fr (N':=H.n) (X:=[]) (by exact frA) A1 (.inr (by simp)) K1
   ·exact (B0.jn hJq).fr0 (by exact frA)
   ·exact B1.fr0 (by exact frA)
   ·intro y hy
    have:=hg0 y hy
    omega
   ·intro y hy
    have:=hge1 y hy
    omega
   ·intro y hy e
    have h1:=hge1 y e
    have h2:=hlt0 y hy
    omega
   ·simp only [List.mem_cons,List.not_mem_nil,or_false,not_or]
    omega
   ·simp only [List.mem_cons,List.not_mem_nil,or_false,not_or]
    omega
   ·exact la0.imp id fun q=>by simp only [List.mem_cons,List.not_mem_nil,or_false,not_or];omega
   ·exact la1.imp id fun q=>by simp only [List.mem_cons,List.not_mem_nil,or_false,not_or];omega
  refine W_forget (N:=H.n) (X:=[]) (h0:=H) (fun h=>TwoH H.n Gq.n (Gq.n + 1) x4 a0 a1 b0 b1 gg0 gg1 tt tt h∧h.get b4=.cells [iv tt.Names,iv tt.Limit,iv tt.Window,vl,vd] 48 .ex) (by exact frA) ⟨TW,by simp (disch:=try exact dA) only [qcs,tb7,hEg,irN,nrA,nrM,nrE,reduceIte,reduceCtorEq,nrL];exact g7⟩ ?_
  rintro h9 hF9 ⟨W9,t9⟩
  have hbb:b4 < Gq.n:=by omega
  have hob0:b4∉[H.n,Gq.n,Gq.n + 1]:=by
   simp only [List.mem_cons,List.not_mem_nil,or_false,not_or]
   omega
  clear TW A0 A1 B0 B1 K0 K1 hJq hJ0
  generalize Gq.n=b12 at *
  obtain ⟨nf,hnf⟩:∃ nf:Nat→Int,nf=nAt tt name day:=⟨_,rfl⟩
  have hdy0:=Q.day
  have hT9:=W9.top
  have hd12:IntKind.i64.wrap (day + 12)=day + 12:=wrap64 (by omega) (by omega)
  repeat' (first|((with_reducible refine hK _ _ fun e2 hEn=>?_);clear hK K;simp only [lv7,forallC,forallL,and_true] at hEn;(try simp only [↓pb,qbs,tb7,hEg,irN,nrA,nrM,nrE,reduceIte,reduceCtorEq,nrL] at hEn);clear hEg;(try clear eg);have hEg:=hEn;clear hEn;rename Env=>eg)|((first|((with_reducible first|apply oV_intro|apply oH_intro|apply oB_intro);(simp (disch:=try exact dA) only [qcs,tb7,hEg,irN,nrA,nrM,nrE,reduceIte,reduceCtorEq,nrL];with_reducible exact rfl))|((with_reducible first|apply oblA_and|apply oblR_and|apply oblO_and);(focus exact obA))|(with_reducible first|refine W_regionF lv7 fun K hK=>?_|refine W_drawnF lv7 fun K hK=>?_));try simp only [↓pb,↓pd,qds,tb7,hEg,irN,nrA,nrM,nrE,reduceIte,reduceCtorEq,nrL])|((first|((with_reducible first|apply WO_gT|apply WO_gF|apply WD_gT|apply WD_gF);exact rfl)|(with_reducible apply W_cond));(simp only [↓pb,qbs,tb7,hEg,irN,nrA,nrM,nrE,reduceIte,reduceCtorEq,nrL];with_reducible exact rfl);all_goals (intro hc;(first|exact hcX hc|try simp only [hcs] at hc);try ((with_reducible first|apply woI|apply wdI);simp only [↓pb,↓pd,qds,tb7,hc,hEg,irN,nrA,nrM,nrE,reduceIte,reduceCtorEq,nrL])))|(with_reducible first|refine W_seq ?_|refine W_block ?_|refine W_skip ?_|refine W_ret ?_|refine W_exit ?_|apply blockK_exit)|((with_reducible apply blockK_pass);(focus decide))|fail)
  refine W_while [3,4,5,6,7,8,9,12,13] (by kernel_rfl) (H.n) [H.n,b12,b12 + 1] [] (fun s e h=>s.1≤12∧e 14=iv (sumN (nAt tt name day) s.1)∧e 15=iv (sumN s.2 s.1)∧e 16=iv (day + (s.1:Int))∧(∀ i,i < s.1→0≤s.2 i∧s.2 i≤capF tt name day s.2 i)∧(∃ x va vb ga gb,TwoH H.n b12 (b12 + 1) x a0 a1 va vb ga gb (payT tt name day (nAt tt name day) s.1) (payT tt name day s.2 s.1) h)∧h.get b4=.cells [iv tt.Names,iv tt.Limit,iv tt.Window,vl,vd] 48 .ex) (fun s=>12 - s.1) (((0:Nat),fun _:Nat=>(0:Int))) (by focus exact topA) (H0:=H) (by focus exact frA) (by intro b hb hlt;simp at hb ⊢;try omega) ?_ ?_
  rotate_left
  intro s1 e1 h1 hE1 hF1 hF01 hTh1 hJ1
  simp only [forallC,forallL,and_true] at hE1
  try simp only [↓pb,qbs,tb7,hEg,irN,nrA,nrM,nrE,reduceIte,reduceCtorEq,nrL] at hE1
  have hn11:=hF1.n;have hn01:=hF01.n;try simp only [upd_n,jn_n] at hn11
  replace hEg:=hE1
  rotate_left
  ·refine ⟨by omega,by simp only [↓pb,qbs,tb7,hEg,irN,nrA,nrM,nrE,reduceIte,reduceCtorEq,nrL];rfl,by simp only [↓pb,qbs,tb7,hEg,irN,nrA,nrM,nrE,reduceIte,reduceCtorEq,nrL];rfl,by simp only [↓pb,qbs,tb7,hEg,irN,nrA,nrM,nrE,reduceIte,reduceCtorEq,nrL];congr 1;omega,fun i hi=>by omega,⟨x4,b0,b1,gg0,gg1,by rw [T0,U0];exact W9⟩,t9⟩
  obtain ⟨j,f⟩:=s1
  obtain ⟨j12,e14,e15,e16,hf,⟨y,va,vb,ga,gb,W1⟩,t1⟩:=hJ1
  dsimp only at j12 e14 e15 e16 hf W1
  have hlt1:=W1.lt
  have hn9:h9.n≤h1.n:=hF1.n
  have hlim:=Q.lim
  have hnat:∀ i,i < 20→0≤nAt tt name day i∧nAt tt name day i≤tt.Limit:=fun i hi=>sq.bounds i (by omega)
  by_cases hj:j < 12
  ·have hT:=sq.pay (nAt tt name day) (by omega) j (by omega) fun i hi=>⟨(hnat i (by omega)).1,by rw [sq.cap (by omega)];exact Int.le_refl _⟩
   have hU:=sq.pay f (by omega) j (by omega) hf
   have rT:roomP (payT tt name day (nAt tt name day) j) name (day + (j:Int))=(nAt tt name day j,0):=by
    rw [(hT.1.room hT.2.1).1,hT.2.2,sq.cap (by omega)]
    show (tt.Limit - _,(0:Int))=_
    congr 1
    omega
   have rU:roomP (payT tt name day f j) name (day + (j:Int))=(capF tt name day f j,0):=by
    rw [(hU.1.room hU.2.1).1,hU.2.2]
    show (tt.Limit - _,(0:Int))=_
    congr 1
    omega
   have hcap:0≤capF tt name day f j∧capF tt name day f j≤tt.Limit:=by
    have:=(hU.1.room hU.2.1).2
    rw [hU.2.2] at this
    have e:(payT tt name day f j).Limit=tt.Limit:=rfl
    rw [e] at this
    omega
   have lT:(payT tt name day (nAt tt name day) j).Dues.length=tt.Dues.length + j:=by
    show (tt.Dues ++ _).length=_
    rw [List.length_append,duesA_len]
   have lU:(payT tt name day f j).Dues.length=tt.Dues.length + j:=by
    show (tt.Dues ++ _).length=_
    rw [List.length_append,duesA_len]
   have hlT:(payT tt name day (nAt tt name day) j).Links.length < 1000000:=hll
   have hlU:(payT tt name day f j).Links.length < 1000000:=hll
   obtain ⟨hnj0,hnj1⟩:=hnat j (by omega)
   generalize hmm:capF tt name day f j=m at *
   generalize hnn:nAt tt name day j=nj at *
   generalize hTT:payT tt name day (nAt tt name day) j=T at *
   generalize hUU:payT tt name day f j=U at *
   have hdT:T.Dues.length < 1000000:=by omega
   have hdU:U.Dues.length < 1000000:=by omega
   have r12:h1.rd b12=some [iv T.Names,iv T.Limit,iv T.Window,a0,va]:=by rw [rd_def,W1.ta];rfl
   have r13:h1.rd (b12 + 1)=some [iv U.Names,iv U.Limit,iv U.Window,a1,vb]:=by rw [rd_def,W1.tb];rfl
   have ova:=W1.gda.one
   have ovb:=W1.gdb.one
   have KT:∀ h,Fr H.n [] h1 h→(T.Links.length=0∨SK h 3 a0):=fun h F=>SR.sk_fr F W1.sla (.inr (by simp)) W1.ska
   have KU:∀ h,Fr H.n [] h1 h→(U.Links.length=0∨SK h 3 a1):=fun h F=>SR.sk_fr F W1.slb (.inr (by simp)) W1.skb
   have hdj:(day + (j:Int)) < day + 12:=by omega
   repeat' (first|((with_reducible refine hK _ _ fun e2 hEn=>?_);clear hK K;simp only [lv7,forallC,forallL,and_true] at hEn;(try simp only [↓pb,qbs,tb7,hEg,irN,nrA,nrM,nrE,reduceIte,reduceCtorEq,nrL] at hEn);clear hEg;(try clear eg);have hEg:=hEn;clear hEn;rename Env=>eg)|((first|((with_reducible first|apply oV_intro|apply oH_intro|apply oB_intro);(simp (disch:=try exact dA) only [qcs,tb7,e14,e15,e16,hd12,hdj,r12,r13,rT,rU,oa0,oa1,ova,ovb,nzs,hEg,irN,nrA,nrM,nrE,reduceIte,reduceCtorEq,nrL];with_reducible exact rfl))|((with_reducible first|apply oblA_and|apply oblR_and|apply oblO_and);(focus exact obA))|((with_reducible apply WO_callV);(focus exact topA);(simp only [↓pb,qbs,tb7,e14,e15,e16,hd12,hdj,r12,r13,rT,rU,oa0,oa1,ova,ovb,nzs,hEg,irN,nrA,nrM,nrE,reduceIte,reduceCtorEq,nrL];(first|exact f32 a0 va T name (day + (j:Int)) _ (by exact topA) (W1.sla.fr0 (N:=H.n) (by exact frA)) (KT _ (by exact frA)) (W1.gda.sr.fr0 (N:=H.n) (by exact frA)) hlT hdT|exact f32 a1 vb U name (day + (j:Int)) _ (by exact topA) (W1.slb.fr0 (N:=H.n) (by exact frA)) (KU _ (by exact frA)) (W1.gdb.sr.fr0 (N:=H.n) (by exact frA)) hlU hdU));(intro Gq hq hJq;try simp only [upd_n,jn_n] at hq))|(with_reducible first|refine W_regionE lv7 [18] fun K hK=>?_|refine W_drawnE lv7 [18] fun K hK=>?_));try simp only [↓pb,↓pd,qds,tb7,e14,e15,e16,hd12,hdj,r12,r13,rT,rU,oa0,oa1,ova,ovb,nzs,hEg,irN,nrA,nrM,nrE,reduceIte,reduceCtorEq,nrL])|((first|((with_reducible first|apply WO_gT|apply WO_gF|apply WD_gT|apply WD_gF);exact rfl)|(with_reducible apply W_cond));(simp only [↓pb,qbs,tb7,e14,e15,e16,hd12,hdj,r12,r13,rT,rU,oa0,oa1,ova,ovb,nzs,hEg,irN,nrA,nrM,nrE,reduceIte,reduceCtorEq,nrL];with_reducible exact rfl);all_goals (intro hc;(first|exact hcX hc|try simp only [hcs] at hc);try ((with_reducible first|apply woI|apply wdI);simp only [↓pb,↓pd,qds,tb7,e14,e15,e16,hd12,hdj,r12,r13,rT,rU,oa0,oa1,ova,ovb,nzs,hc,hEg,irN,nrA,nrM,nrE,reduceIte,reduceCtorEq,nrL])))|(with_reducible first|refine W_seq ?_|refine W_block ?_|refine W_skip ?_|refine W_ret ?_|refine W_exit ?_|apply blockK_exit)|((with_reducible apply blockK_pass);(focus decide))|fail)
   simp only [e14,e15,e16] at hEg
   refine W_forget (N:=H.n) (X:=[H.n,b12,b12 + 1]) (h0:=h9) (fun h=>TwoH H.n b12 (b12 + 1) y a0 a1 va vb ga gb T U h∧h.get b4=.cells [iv tt.Names,iv tt.Limit,iv tt.Window,vl,vd] 48 .ex∧h1.n≤h.n) (by exact frA) ⟨W1.fr (by exact frA),by simp (disch:=try exact dA) only [qcs,tb7,hEg,irN,nrA,nrM,nrE,reduceIte,reduceCtorEq,nrL];exact t1,by simp only [jn_n];omega⟩ ?_
   rintro h2 hF2 ⟨W2,t2,n2⟩
   clear W1 t1 hJq hq KT KU r12 r13
   have f2:=W2.feed
   have hT2:=W2.top
   have l2:=W2.lt
   have wm:IntKind.i64.wrap (m + 1)=m + 1:=wrap64 (by omega) (by omega)
   have u1:=below_spec y (m + 1) (by omega)
   have u2:=either_in (x:=belowS y (m + 1)) (lo:=0) (hi:=m) (l:=[0,m,below y (m + 1)]) (by simp) (by simp) fun z hz=>by
    generalize below y (m + 1)=q4 at u1 hz
    simp only [List.mem_cons,List.not_mem_nil,or_false] at hz
    omega
   repeat' (first|((with_reducible refine hK _ _ fun e2 hEn=>?_);clear hK K;simp only [lv7,forallC,forallL,and_true] at hEn;(try simp only [↓pb,qbs,tb7,hEg,irN,nrA,nrM,nrE,reduceIte,reduceCtorEq,nrL] at hEn);clear hEg;(try clear eg);have hEg:=hEn;clear hEn;rename Env=>eg)|((first|((with_reducible first|apply oV_intro|apply oH_intro|apply oB_intro);(simp (disch:=try exact dA) only [qcs,tb7,f2,wm,hEg,irN,nrA,nrM,nrE,reduceIte,reduceCtorEq,nrL];with_reducible exact rfl))|((with_reducible first|apply oblA_and|apply oblR_and|apply oblO_and);(focus exact obA))|((with_reducible apply WO_callE);(simp only [↓pb,qbs,tb7,f2,wm,hEg,irN,nrA,nrM,nrE,reduceIte,reduceCtorEq,nrL];(first|exact f19 _ _ _ _ (by simp (disch:=try exact dA) only [qcs,tb7,f2,wm,hEg,irN,nrA,nrM,nrE,reduceIte,reduceCtorEq,nrL];rfl) (by omega)|exact f21 _ _ _ [_,_,_] _ (by simp (disch:=try exact dA) only [qcs,tb7,f2,wm,hEg,irN,nrA,nrM,nrE,reduceIte,reduceCtorEq,nrL];rfl) (SR.new rfl) (.inl (by simp only [vblk];omega)) (by simp))))|(with_reducible first|refine W_regionE lv7 [19] fun K hK=>?_|refine W_drawnE lv7 [19] fun K hK=>?_));try simp only [↓pb,↓pd,qds,tb7,f2,wm,hEg,irN,nrA,nrM,nrE,reduceIte,reduceCtorEq,nrL])|((first|((with_reducible first|apply WO_gT|apply WO_gF|apply WD_gT|apply WD_gF);exact rfl)|(with_reducible apply W_cond));(simp only [↓pb,qbs,tb7,f2,wm,hEg,irN,nrA,nrM,nrE,reduceIte,reduceCtorEq,nrL];with_reducible exact rfl);all_goals (intro hc;(first|exact hcX hc|try simp only [hcs] at hc);try ((with_reducible first|apply woI|apply wdI);simp only [↓pb,↓pd,qds,tb7,f2,wm,hc,hEg,irN,nrA,nrM,nrE,reduceIte,reduceCtorEq,nrL])))|(with_reducible first|refine W_seq ?_|refine W_block ?_|refine W_skip ?_|refine W_ret ?_|refine W_exit ?_|apply blockK_exit)|((with_reducible apply blockK_pass);(focus decide))|fail)
   generalize either (belowS y (m + 1)) [0,m,below y (m + 1)]=kk at *
   generalize eitherS (belowS y (m + 1)) [0,m,below y (m + 1)]=y2 at *
   refine W_forget (N:=H.n) (X:=[H.n,b12,b12 + 1]) (h0:=h9) (fun h=>TwoH H.n b12 (b12 + 1) y2 a0 a1 va vb ga gb T U h∧h.get b4=.cells [iv tt.Names,iv tt.Limit,iv tt.Window,vl,vd] 48 .ex∧h2.n≤h.n) (by exact frA) ⟨W2.feedfr (by exact frA) (by simp (disch:=try exact dA) only [qcs,tb7,hEg,irN,nrA,nrM,nrE,reduceIte,reduceCtorEq,nrL]),by simp (disch:=try exact dA) only [qcs,tb7,hEg,irN,nrA,nrM,nrE,reduceIte,reduceCtorEq,nrL];exact t2,by simp only [upd_n];omega⟩ ?_
   rintro h3 hF3 ⟨W3,t3,n3b⟩
   clear W2 t2 f2 u1
   have g12:=W3.ta
   have g13:=W3.tb
   have l3:=W3.lt
   have hT3:=W3.top
   have r12:h3.rd b12=some [iv T.Names,iv T.Limit,iv T.Window,a0,va]:=by rw [rd_def,g12];rfl
   have r13:h3.rd (b12 + 1)=some [iv U.Names,iv U.Limit,iv U.Window,a1,vb]:=by rw [rd_def,g13];rfl
   have hgd0:=gd_ge (n:=h3.n + 1) W3.gea (by omega)
   have hgd1:=gd_ge (n:=h3.n + 3) W3.geb (by omega)
   repeat' (first|((with_reducible refine hK _ _ fun e2 hEn=>?_);clear hK K;simp only [lv7,forallC,forallL,and_true] at hEn;(try simp only [↓pb,qbs,tb7,hEg,irN,nrA,nrM,nrE,reduceIte,reduceCtorEq,nrL] at hEn);clear hEg;(try clear eg);have hEg:=hEn;clear hEn;rename Env=>eg)|((first|((with_reducible first|apply oV_intro|apply oH_intro|apply oB_intro);(simp (disch:=try exact dA) only [qcs,tb7,r12,r13,g12,g13,oa0,oa1,ova,ovb,hEg,irN,nrA,nrM,nrE,reduceIte,reduceCtorEq,nrL];with_reducible exact rfl))|((with_reducible first|apply oblA_and|apply oblR_and|apply oblO_and);(focus exact obA))|(with_reducible first|refine W_regionE lv7 [20] fun K hK=>?_|refine W_drawnE lv7 [20] fun K hK=>?_));try simp only [↓pb,↓pd,qds,tb7,r12,r13,g12,g13,oa0,oa1,ova,ovb,hEg,irN,nrA,nrM,nrE,reduceIte,reduceCtorEq,nrL])|((first|((with_reducible first|apply WO_gT|apply WO_gF|apply WD_gT|apply WD_gF);exact rfl)|(with_reducible apply W_cond));(simp only [↓pb,qbs,tb7,r12,r13,g12,g13,oa0,oa1,ova,ovb,hEg,irN,nrA,nrM,nrE,reduceIte,reduceCtorEq,nrL];with_reducible exact rfl);all_goals (intro hc;(first|exact hcX hc|try simp only [hcs] at hc);try ((with_reducible first|apply woI|apply wdI);simp only [↓pb,↓pd,qds,tb7,r12,r13,g12,g13,oa0,oa1,ova,ovb,hc,hEg,irN,nrA,nrM,nrE,reduceIte,reduceCtorEq,nrL])))|(with_reducible first|refine W_seq ?_|refine W_block ?_|refine W_skip ?_|refine W_ret ?_|refine W_exit ?_|apply blockK_exit)|((with_reducible apply blockK_pass);(focus decide))|fail)
   refine pu46 (n:=T.Dues.length) (m:=1) (c:=T.Dues.flatMap eDue) (g:=ga) W3.gda.ex (SR.new rfl) (by omega) (by omega) (by omega) (by exact topA) fun GG=>?_
   have hgA:=GG.grp_lt
   simp only [upd_n,jn_n] at hgA
   simp only [upd_n,jn_n,nb] at GG
   simp only [↓pb,↓pd,qds,tb7,r12,r13,g12,g13,hEg,irN,nrA,nrM,nrE,reduceIte,reduceCtorEq,nrL]
   repeat' (first|((with_reducible refine hK _ _ fun e2 hEn=>?_);clear hK K;simp only [lv7,forallC,forallL,and_true] at hEn;(try simp only [↓pb,qbs,tb7,hEg,irN,nrA,nrM,nrE,reduceIte,reduceCtorEq,nrL] at hEn);clear hEg;(try clear eg);have hEg:=hEn;clear hEn;rename Env=>eg)|((first|((with_reducible first|apply oV_intro|apply oH_intro|apply oB_intro);(simp (disch:=try exact dA) only [qcs,tb7,r12,r13,g12,g13,oa0,oa1,ova,ovb,hEg,irN,nrA,nrM,nrE,reduceIte,reduceCtorEq,nrL];with_reducible exact rfl))|((with_reducible first|apply oblA_and|apply oblR_and|apply oblO_and);(focus exact obA))|(with_reducible first|refine W_regionE lv7 [20] fun K hK=>?_|refine W_drawnE lv7 [20] fun K hK=>?_));try simp only [↓pb,↓pd,qds,tb7,r12,r13,g12,g13,oa0,oa1,ova,ovb,hEg,irN,nrA,nrM,nrE,reduceIte,reduceCtorEq,nrL])|((first|((with_reducible first|apply WO_gT|apply WO_gF|apply WD_gT|apply WD_gF);exact rfl)|(with_reducible apply W_cond));(simp only [↓pb,qbs,tb7,r12,r13,g12,g13,oa0,oa1,ova,ovb,hEg,irN,nrA,nrM,nrE,reduceIte,reduceCtorEq,nrL];with_reducible exact rfl);all_goals (intro hc;(first|exact hcX hc|try simp only [hcs] at hc);try ((with_reducible first|apply woI|apply wdI);simp only [↓pb,↓pd,qds,tb7,r12,r13,g12,g13,oa0,oa1,ova,ovb,hc,hEg,irN,nrA,nrM,nrE,reduceIte,reduceCtorEq,nrL])))|(with_reducible first|refine W_seq ?_|refine W_block ?_|refine W_skip ?_|refine W_ret ?_|refine W_exit ?_|apply blockK_exit)|((with_reducible apply blockK_pass);(focus decide))|fail)
   have hgal:∀ x,ga=some x→x < h3.n:=fun x hx=>by subst hx;exact W3.gda.grp_lt
   have hgbl:∀ x,gb=some x→x < h3.n:=fun x hx=>by subst hx;exact W3.gdb.grp_lt
   have hne1:gb≠some (ga.getD (h3.n + 1)):=by
    intro e
    cases hga:ga with
    | none =>
     rw [hga,Option.getD_none] at e
     have:=hgbl _ e
     omega
    | some x =>
     rw [hga,Option.getD_some] at e
     exact W3.ne x hga e
   refine pu46 (n:=U.Dues.length) (m:=1) (c:=U.Dues.flatMap eDue) (g:=gb) (GS.ex (W3.gdb.ex.upd_gr hne1)) (SR.new rfl) (by omega) (by omega) (by omega) (by exact topA) fun GH=>?_
   have hgB:=GH.grp_lt
   simp only [upd_n,jn_n] at hgB
   simp only [upd_n,jn_n,nb] at GH
   have hne2:some (ga.getD (h3.n + 1))≠some (gb.getD (h3.n + 3)):=by
    intro e
    have e:ga.getD (h3.n + 1)=gb.getD (h3.n + 3):=Option.some.inj e
    cases hgb:gb with
    | none =>
     rw [hgb,Option.getD_none] at e
     omega
    | some x =>
     rw [hgb,Option.getD_some] at e
     exact hne1 (by rw [hgb,e])
   have GG2:=(GG.ex (c':=[iv (day + (j:Int)),iv name,iv kk,.bool true]) (T:=61)).upd_gr (d:=U.Dues.flatMap eDue ++ [iv (day + (j:Int)),iv name,iv kk,.bool true]) (T:=61) (e:=4) (l:=true) hne2
   simp only [upd_n,jn_n,nb] at GG2
   simp only [↓pb,↓pd,qds,tb7,r12,r13,g12,g13,hEg,irN,nrA,nrM,nrE,reduceIte,reduceCtorEq,nrL]
   repeat' (first|((with_reducible refine hK _ _ fun e2 hEn=>?_);clear hK K;simp only [lv7,forallC,forallL,and_true] at hEn;(try simp only [↓pb,qbs,tb7,hEg,irN,nrA,nrM,nrE,reduceIte,reduceCtorEq,nrL] at hEn);clear hEg;(try clear eg);have hEg:=hEn;clear hEn;rename Env=>eg)|((first|((with_reducible first|apply oV_intro|apply oH_intro|apply oB_intro);(simp (disch:=try exact dA) only [qcs,tb7,r12,r13,g12,g13,oa0,oa1,ova,ovb,hEg,irN,nrA,nrM,nrE,reduceIte,reduceCtorEq,nrL];with_reducible exact rfl))|((with_reducible first|apply oblA_and|apply oblR_and|apply oblO_and);(focus exact obA))|(with_reducible first|refine W_regionE lv7 [20] fun K hK=>?_|refine W_drawnE lv7 [20] fun K hK=>?_));try simp only [↓pb,↓pd,qds,tb7,r12,r13,g12,g13,oa0,oa1,ova,ovb,hEg,irN,nrA,nrM,nrE,reduceIte,reduceCtorEq,nrL])|((first|((with_reducible first|apply WO_gT|apply WO_gF|apply WD_gT|apply WD_gF);exact rfl)|(with_reducible apply W_cond));(simp only [↓pb,qbs,tb7,r12,r13,g12,g13,oa0,oa1,ova,ovb,hEg,irN,nrA,nrM,nrE,reduceIte,reduceCtorEq,nrL];with_reducible exact rfl);all_goals (intro hc;(first|exact hcX hc|try simp only [hcs] at hc);try ((with_reducible first|apply woI|apply wdI);simp only [↓pb,↓pd,qds,tb7,r12,r13,g12,g13,oa0,oa1,ova,ovb,hc,hEg,irN,nrA,nrM,nrE,reduceIte,reduceCtorEq,nrL])))|(with_reducible first|refine W_seq ?_|refine W_block ?_|refine W_skip ?_|refine W_ret ?_|refine W_exit ?_|apply blockK_exit)|((with_reducible apply blockK_pass);(focus decide))|fail)
   refine W_forget (N:=H.n) (X:=[H.n,b12,b12 + 1]) (h0:=h9) (fun h=>TwoH H.n b12 (b12 + 1) y2 a0 a1 (.slice (some ⟨h3.n + 1,0,none⟩) (T.Dues.length + 1) (T.Dues.length + 1)) (.slice (some ⟨h3.n + 3,0,none⟩) (U.Dues.length + 1) (U.Dues.length + 1)) (some (ga.getD (h3.n + 1))) (some (gb.getD (h3.n + 3))) (addDue T ⟨day + (j:Int),name,nj,true⟩) (addDue U ⟨day + (j:Int),name,kk,true⟩) h∧h.get b4=.cells [iv tt.Names,iv tt.Limit,iv tt.Window,vl,vd] 48 .ex∧h3.n≤h.n) (by exact frA) ⟨⟨by exact topA,by simp only [upd_n];omega,by simp (disch:=try exact dA) only [qcs,tb7,hEg,irN,nrA,nrM,nrE,reduceIte,reduceCtorEq,nrL];exact W3.feed,by simp (disch:=try exact dA) only [qcs,tb7,hEg,irN,nrA,nrM,nrE,reduceIte,reduceCtorEq,nrL];rfl,by simp (disch:=try exact dA) only [qcs,tb7,hEg,irN,nrA,nrM,nrE,reduceIte,reduceCtorEq,nrL];rfl, ?_, ?_, ?_, ?_, ?_, ?_,gd_all hgd0,gd_all hgd1,fun y hy e=>hne2 (hy.trans e.symm), ?_, ?_,W3.pa,W3.pb⟩,by simp (disch:=try exact dA) only [qcs,tb7,hEg,irN,nrA,nrM,nrE,reduceIte,reduceCtorEq,nrL];exact t3,by simp only [upd_n];omega⟩ ?_
   ·exact W3.sla.fr (N:=H.n) (X:=[b12,b12 + 1]) (by exact frA) (W3.pa.imp id not2)
   ·exact W3.slb.fr (N:=H.n) (X:=[b12,b12 + 1]) (by exact frA) (W3.pb.imp id not2)
   ·exact SR.sk_fr (N':=H.n) (X:=[b12,b12 + 1]) (by exact frA) W3.sla (W3.pa.imp id not2) W3.ska
   ·exact SR.sk_fr (N':=H.n) (X:=[b12,b12 + 1]) (by exact frA) W3.slb (W3.pb.imp id not2) W3.skb
   ·rw [addDue_flat,addDue_len]
    exact GG2.fr (N:=h3.n + 4) (X:=[b12,b12 + 1]) (by exact frA) (fun x hx=>by cases hx;omega) (by show h3.n + 1∉[b12,b12 + 1];simp;omega)
   ·rw [addDue_flat,addDue_len]
    exact GH.fr (N:=h3.n + 4) (X:=[b12,b12 + 1]) (by exact frA) (fun x hx=>by cases hx;omega) (by show h3.n + 3∉[b12,b12 + 1];simp;omega)
   ·show h3.n + 1∉[H.n,b12,b12 + 1]
    simp only [List.mem_cons,List.not_mem_nil,or_false,not_or]
    omega
   ·show h3.n + 3∉[H.n,b12,b12 + 1]
    simp only [List.mem_cons,List.not_mem_nil,or_false,not_or]
    omega
   rintro h8 hF8 ⟨W8,t8,n8⟩
   clear W3 GG2 GH GG g12 g13 r12 r13 t3 hne1 hne2 hgal hgbl
   -- what other was paid
   obtain ⟨f',hf'⟩:∃ f':Nat→Int,f'=fun i=>if i=j then kk else f i:=⟨_,rfl⟩
   have fe:∀ i,i < j→f' i=f i:=fun i hi=>by rw [hf'];exact if_neg (by omega)
   have fj:f' j=kk:=by rw [hf'];exact if_pos rfl
   have se:∀ i,i≤j→sumN f' i=sumN f i:=fun i hi=>sumN_congr fun k hk=>fe k (by omega)
   have ce:∀ i,i≤j→capF tt name day f' i=capF tt name day f i:=fun i hi=>by unfold capF;rw [se i hi,se (i - wB tt) (by omega)]
   have hf2:∀ i,i < j + 1→0≤f' i∧f' i≤capF tt name day f' i:=by
    intro i hi
    by_cases q:i=j
    ·subst q
     rw [ce i (Nat.le_refl _),fj,hmm]
     exact u2
    ·rw [ce i (by omega),fe i (by omega)]
     exact hf i (by omega)
   have hU2:payT tt name day f' (j + 1)=addDue U ⟨day + (j:Int),name,kk,true⟩:=by
    rw [payT_succ,fj,← hUU]
    congr 1
    unfold payT
    rw [duesA_congr fe]
   have hT2':payT tt name day (nAt tt name day) (j + 1)=addDue T ⟨day + (j:Int),name,nj,true⟩:=by rw [payT_succ,hTT,hnn]
   have hgr:=sq.greedy f' (j + 1) (by omega) fun i hi=>(hf2 i hi).2
   have s1:sumN (nAt tt name day) (j + 1)=sumN (nAt tt name day) j + nj:=by rw [sumN,hnn]
   have s2:sumN f' (j + 1)=sumN f j + kk:=by rw [sumN,se j (Nat.le_refl _),fj]
   have hbd:∀ i,i≤13→0≤sumN (nAt tt name day) i∧sumN (nAt tt name day) i≤1000000 * (i:Int):=by
    intro i
    induction i with
    | zero=>intro _;exact ⟨Int.le_refl _,Int.le_refl _⟩
    | succ i ih =>
     intro hi
     have h1:=ih (by omega)
     have h2:=hnat i (by omega)
     rw [sumN]
     omega
   have hb1:=hbd j (by omega)
   have hb2:=hbd (j + 1) (by omega)
   have hnn2:0≤sumN f j:=by
    have:∀ i,i≤j→0≤sumN f i:=by
     intro i
     induction i with
     | zero=>intro _;exact Int.le_refl _
     | succ i ih =>
      intro hi
      have h1:=ih (by omega)
      have h2:=(hf i (by omega)).1
      rw [sumN]
      omega
    exact this j (Nat.le_refl _)
   have wa:IntKind.i64.wrap (sumN (nAt tt name day) j + nj)=sumN (nAt tt name day) (j + 1):=by rw [← s1];exact wrap64 (by omega) (by omega)
   have wb:IntKind.i64.wrap (sumN f j + kk)=sumN f' (j + 1):=by rw [← s2];exact wrap64 (by omega) (by omega)
   have wd:IntKind.i64.wrap (day + (j:Int) + 1)=day + ((j + 1:Nat):Int):=by rw [wrap64 (by omega) (by omega)];omega
   have hng:¬ sumN (nAt tt name day) (j + 1) < sumN f' (j + 1):=by omega
   have hmono:∀ a b:Nat,a≤b→b≤13→sumN (nAt tt name day) a≤sumN (nAt tt name day) b:=by
    intro a b
    induction b with
    | zero =>
     intro h _
     have:a=0:=by omega
     subst this
     exact Int.le_refl _
    | succ b ihb =>
     intro h hb
     by_cases q:a=b + 1
     ·subst q;exact Int.le_refl _
     ·have h1:=ihb (by omega) (by omega)
      have h2:=(hnat b (by omega)).1
      rw [sumN]
      omega
   rcases hsoon with ⟨m0,hm0,hs1,hs2,hs3⟩|⟨hs1,hs2⟩
   ·rw [hs1] at hEg
    dsimp only at hEg
    have hdc:(¬ sumN (nAt tt name day) (j + 1) < cents)↔m0≤j:=by
     constructor
     ·intro h
      by_cases q:m0≤j
      ·exact q
      ·have:=hs2 j (by omega)
       rw [show 0 + j + 1=j + 1 by omega,show sumN (nAt tt name day) 0=0 from rfl] at this
       omega
     ·intro h
      have:=hmono (m0 + 1) (j + 1) (by omega) (by omega)
      rw [show 0 + m0 + 1=m0 + 1 by omega,show sumN (nAt tt name day) 0=0 from rfl] at hs3
      omega
    have es:day + ((0 + m0:Nat):Int)=day + (m0:Int):=by omega
    rw [es] at hEg
    by_cases hjm:m0≤j
    ·have hnc:cents≤sumN (nAt tt name day) (j + 1):=by have:=hdc.2 hjm;omega
     have hnd:day + (m0:Int)≤day + (j:Int):=by omega
     repeat' (first|((with_reducible refine hK _ _ fun e2 hEn=>?_);clear hK K;simp only [lv7,forallC,forallL,and_true] at hEn;(try simp only [↓pb,qbs,tb7,hEg,irN,nrA,nrM,nrE,reduceIte,reduceCtorEq,nrL] at hEn);clear hEg;(try clear eg);have hEg:=hEn;clear hEn;rename Env=>eg)|((first|((with_reducible first|apply oV_intro|apply oH_intro|apply oB_intro);(simp (disch:=try exact dA) only [qcs,tb7,wa,wb,wd,hng,hnc,hnd,nzs,hEg,irN,nrA,nrM,nrE,reduceIte,reduceCtorEq,nrL];with_reducible exact rfl))|((with_reducible first|apply oblA_and|apply oblR_and|apply oblO_and);(focus exact obA))|(with_reducible first|refine W_regionF lv7 fun K hK=>?_|refine W_drawnF lv7 fun K hK=>?_));try simp only [↓pb,↓pd,qds,tb7,wa,wb,wd,hng,hnc,hnd,nzs,hEg,irN,nrA,nrM,nrE,reduceIte,reduceCtorEq,nrL])|((first|((with_reducible first|apply WO_gT|apply WO_gF|apply WD_gT|apply WD_gF);exact rfl)|(with_reducible apply W_cond));(simp only [↓pb,qbs,tb7,wa,wb,wd,hng,hnc,hnd,nzs,hEg,irN,nrA,nrM,nrE,reduceIte,reduceCtorEq,nrL];with_reducible exact rfl);all_goals (intro hc;(first|exact hcX hc|try simp only [hcs] at hc);try ((with_reducible first|apply woI|apply wdI);simp only [↓pb,↓pd,qds,tb7,wa,wb,wd,hng,hnc,hnd,nzs,hc,hEg,irN,nrA,nrM,nrE,reduceIte,reduceCtorEq,nrL])))|(with_reducible first|refine W_seq ?_|refine W_block ?_|refine W_skip ?_|refine W_ret ?_|refine W_exit ?_|apply blockK_exit)|((with_reducible apply blockK_pass);(focus decide))|fail)
     refine ⟨(j + 1,f'),by omega,hF8,by omega,by simp only [↓pb,qbs,tb7,hEg,irN,nrA,nrM,nrE,reduceIte,reduceCtorEq,nrL],by simp only [↓pb,qbs,tb7,hEg,irN,nrA,nrM,nrE,reduceIte,reduceCtorEq,nrL],by simp only [↓pb,qbs,tb7,hEg,irN,nrA,nrM,nrE,reduceIte,reduceCtorEq,nrL],hf2,⟨y2,_,_,_,_,by rw [hT2',hU2];exact W8⟩,t8⟩
    ·have hnc:¬ cents≤sumN (nAt tt name day) (j + 1):=by
      intro q
      exact hjm (hdc.1 (by omega))
     have hnd:¬ day + (m0:Int)≤day + (j:Int):=by omega
     repeat' (first|((with_reducible refine hK _ _ fun e2 hEn=>?_);clear hK K;simp only [lv7,forallC,forallL,and_true] at hEn;(try simp only [↓pb,qbs,tb7,hEg,irN,nrA,nrM,nrE,reduceIte,reduceCtorEq,nrL] at hEn);clear hEg;(try clear eg);have hEg:=hEn;clear hEn;rename Env=>eg)|((first|((with_reducible first|apply oV_intro|apply oH_intro|apply oB_intro);(simp (disch:=try exact dA) only [qcs,tb7,wa,wb,wd,hng,hnc,hnd,nzs,hEg,irN,nrA,nrM,nrE,reduceIte,reduceCtorEq,nrL];with_reducible exact rfl))|((with_reducible first|apply oblA_and|apply oblR_and|apply oblO_and);(focus exact obA))|(with_reducible first|refine W_regionF lv7 fun K hK=>?_|refine W_drawnF lv7 fun K hK=>?_));try simp only [↓pb,↓pd,qds,tb7,wa,wb,wd,hng,hnc,hnd,nzs,hEg,irN,nrA,nrM,nrE,reduceIte,reduceCtorEq,nrL])|((first|((with_reducible first|apply WO_gT|apply WO_gF|apply WD_gT|apply WD_gF);exact rfl)|(with_reducible apply W_cond));(simp only [↓pb,qbs,tb7,wa,wb,wd,hng,hnc,hnd,nzs,hEg,irN,nrA,nrM,nrE,reduceIte,reduceCtorEq,nrL];with_reducible exact rfl);all_goals (intro hc;(first|exact hcX hc|try simp only [hcs] at hc);try ((with_reducible first|apply woI|apply wdI);simp only [↓pb,↓pd,qds,tb7,wa,wb,wd,hng,hnc,hnd,nzs,hc,hEg,irN,nrA,nrM,nrE,reduceIte,reduceCtorEq,nrL])))|(with_reducible first|refine W_seq ?_|refine W_block ?_|refine W_skip ?_|refine W_ret ?_|refine W_exit ?_|apply blockK_exit)|((with_reducible apply blockK_pass);(focus decide))|fail)
     refine ⟨(j + 1,f'),by omega,hF8,by omega,by simp only [↓pb,qbs,tb7,hEg,irN,nrA,nrM,nrE,reduceIte,reduceCtorEq,nrL],by simp only [↓pb,qbs,tb7,hEg,irN,nrA,nrM,nrE,reduceIte,reduceCtorEq,nrL],by simp only [↓pb,qbs,tb7,hEg,irN,nrA,nrM,nrE,reduceIte,reduceCtorEq,nrL],hf2,⟨y2,_,_,_,_,by rw [hT2',hU2];exact W8⟩,t8⟩
   ·rw [hs1] at hEg
    dsimp only at hEg
    have hnc:¬ cents≤sumN (nAt tt name day) (j + 1):=by
     have:=hs2 j (by omega)
     rw [show 0 + j + 1=j + 1 by omega,show sumN (nAt tt name day) 0=0 from rfl] at this
     omega
    repeat' (first|((with_reducible refine hK _ _ fun e2 hEn=>?_);clear hK K;simp only [lv7,forallC,forallL,and_true] at hEn;(try simp only [↓pb,qbs,tb7,hEg,irN,nrA,nrM,nrE,reduceIte,reduceCtorEq,nrL] at hEn);clear hEg;(try clear eg);have hEg:=hEn;clear hEn;rename Env=>eg)|((first|((with_reducible first|apply oV_intro|apply oH_intro|apply oB_intro);(simp (disch:=try exact dA) only [qcs,tb7,wa,wb,wd,hng,hnc,nzs,hEg,irN,nrA,nrM,nrE,reduceIte,reduceCtorEq,nrL];with_reducible exact rfl))|((with_reducible first|apply oblA_and|apply oblR_and|apply oblO_and);(focus exact obA))|(with_reducible first|refine W_regionF lv7 fun K hK=>?_|refine W_drawnF lv7 fun K hK=>?_));try simp only [↓pb,↓pd,qds,tb7,wa,wb,wd,hng,hnc,nzs,hEg,irN,nrA,nrM,nrE,reduceIte,reduceCtorEq,nrL])|((first|((with_reducible first|apply WO_gT|apply WO_gF|apply WD_gT|apply WD_gF);exact rfl)|(with_reducible apply W_cond));(simp only [↓pb,qbs,tb7,wa,wb,wd,hng,hnc,nzs,hEg,irN,nrA,nrM,nrE,reduceIte,reduceCtorEq,nrL];with_reducible exact rfl);all_goals (intro hc;(first|exact hcX hc|try simp only [hcs] at hc);try ((with_reducible first|apply woI|apply wdI);simp only [↓pb,↓pd,qds,tb7,wa,wb,wd,hng,hnc,nzs,hc,hEg,irN,nrA,nrM,nrE,reduceIte,reduceCtorEq,nrL])))|(with_reducible first|refine W_seq ?_|refine W_block ?_|refine W_skip ?_|refine W_ret ?_|refine W_exit ?_|apply blockK_exit)|((with_reducible apply blockK_pass);(focus decide))|fail)
    refine ⟨(j + 1,f'),by omega,hF8,by omega,by simp only [↓pb,qbs,tb7,hEg,irN,nrA,nrM,nrE,reduceIte,reduceCtorEq,nrL],by simp only [↓pb,qbs,tb7,hEg,irN,nrA,nrM,nrE,reduceIte,reduceCtorEq,nrL],by simp only [↓pb,qbs,tb7,hEg,irN,nrA,nrM,nrE,reduceIte,reduceCtorEq,nrL],hf2,⟨y2,_,_,_,_,by rw [hT2',hU2];exact W8⟩,t8⟩
  ·have e12:j=12:=by omega
   subst e12
   have hj12:¬ day + ((12:Nat):Int) < day + 12:=by omega
   rcases hsoon with ⟨m0,hm0,hs1,hs2,hs3⟩|⟨hs1,hs2⟩
   ·rw [hs1] at hEg
    dsimp only at hEg
    repeat' (first|((with_reducible refine hK _ _ fun e2 hEn=>?_);clear hK K;simp only [lv7,forallC,forallL,and_true] at hEn;(try simp only [↓pb,qbs,tb7,hEg,irN,nrA,nrM,nrE,reduceIte,reduceCtorEq,nrL] at hEn);clear hEg;(try clear eg);have hEg:=hEn;clear hEn;rename Env=>eg)|((first|((with_reducible first|apply oV_intro|apply oH_intro|apply oB_intro);(simp (disch:=try exact dA) only [qcs,tb7,e14,e15,e16,hd12,hj12,nzs,hEg,irN,nrA,nrM,nrE,reduceIte,reduceCtorEq,nrL];with_reducible exact rfl))|((with_reducible first|apply oblA_and|apply oblR_and|apply oblO_and);(focus exact obA))|((with_reducible apply WO_callV);(focus exact topA);(simp only [↓pb,qbs,tb7,e14,e15,e16,hd12,hj12,nzs,hEg,irN,nrA,nrM,nrE,reduceIte,reduceCtorEq,nrL];(exact f15 _ (by exact topA)));(intro Gq hq hJq;try simp only [upd_n,jn_n] at hq))|(with_reducible first|refine W_regionF lv7 fun K hK=>?_|refine W_drawnF lv7 fun K hK=>?_));try simp only [↓pb,↓pd,qds,tb7,e14,e15,e16,hd12,hj12,nzs,hEg,irN,nrA,nrM,nrE,reduceIte,reduceCtorEq,nrL])|((first|((with_reducible first|apply WO_gT|apply WO_gF|apply WD_gT|apply WD_gF);exact rfl)|(with_reducible apply W_cond));(simp only [↓pb,qbs,tb7,e14,e15,e16,hd12,hj12,nzs,hEg,irN,nrA,nrM,nrE,reduceIte,reduceCtorEq,nrL];with_reducible exact rfl);all_goals (intro hc;(first|exact hcX hc|try simp only [hcs] at hc);try ((with_reducible first|apply woI|apply wdI);simp only [↓pb,↓pd,qds,tb7,e14,e15,e16,hd12,hj12,nzs,hc,hEg,irN,nrA,nrM,nrE,reduceIte,reduceCtorEq,nrL])))|((with_reducible apply WO_gU);exact rfl;(focus (simp only [↓pb,qbs,tb7,e14,e15,e16,hd12,hj12,nzs,hEg,irN,nrA,nrM,nrE,reduceIte,reduceCtorEq,nrL];done));try simp only [↓pb,↓pd,qds,tb7,e14,e15,e16,hd12,hj12,nzs,hEg,irN,nrA,nrM,nrE,reduceIte,reduceCtorEq,nrL])|(with_reducible first|refine W_seq ?_|refine W_block ?_|refine W_skip ?_|refine W_ret ?_|refine W_exit ?_|apply blockK_exit)|((with_reducible apply blockK_pass);(focus decide))|fail)
    refine ⟨by first|exact .inl rfl|exact .inr rfl, ?_⟩
    rw [ret1 Try.results7]
    simp only [↓pb,qbs,tb7,rv_tmp,rv_cell,hEg,irN,nrA,nrM,nrE,reduceIte,reduceCtorEq,nrL]
    repeat ((with_reducible apply oV_intro);(simp (disch:=try exact dA) only [qcs,tb7,hEg,irN,nrA,nrM,nrE,reduceIte,reduceCtorEq,nrL];exact rfl))
    exact frA
   ·rw [hs1] at hEg
    dsimp only at hEg
    have k:=tillErr_ok sq.q.ok
    have hl0:tt.Limit=0:=by
     have h4:=sq.four (by omega)
     have hwb:(wB tt:Int)=tt.Window - 1:=by unfold wB;omega
     have h5:=hs2 (4 * (wB tt + 1)) (by omega)
     rw [show 0 + 4 * (wB tt + 1) + 1=4 * (wB tt + 1) + 1 by omega,show sumN (nAt tt name day) 0=0 from rfl] at h5
     omega
    have r1:h1.rd b4=some [iv tt.Names,iv 0,iv tt.Window,vl,vd]:=by rw [rd_def,t1,hl0];rfl
    repeat' (first|((with_reducible refine hK _ _ fun e2 hEn=>?_);clear hK K;simp only [lv7,forallC,forallL,and_true] at hEn;(try simp only [↓pb,qbs,tb7,hEg,irN,nrA,nrM,nrE,reduceIte,reduceCtorEq,nrL] at hEn);clear hEg;(try clear eg);have hEg:=hEn;clear hEn;rename Env=>eg)|((first|((with_reducible first|apply oV_intro|apply oH_intro|apply oB_intro);(simp (disch:=try exact dA) only [qcs,tb7,e14,e15,e16,hd12,hj12,nzs,r1,hEg,irN,nrA,nrM,nrE,reduceIte,reduceCtorEq,nrL];with_reducible exact rfl))|((with_reducible first|apply oblA_and|apply oblR_and|apply oblO_and);(focus exact obA))|((with_reducible apply WO_callV);(focus exact topA);(simp only [↓pb,qbs,tb7,e14,e15,e16,hd12,hj12,nzs,r1,hEg,irN,nrA,nrM,nrE,reduceIte,reduceCtorEq,nrL];(exact f15 _ (by exact topA)));(intro Gq hq hJq;try simp only [upd_n,jn_n] at hq))|(with_reducible first|refine W_regionF lv7 fun K hK=>?_|refine W_drawnF lv7 fun K hK=>?_));try simp only [↓pb,↓pd,qds,tb7,e14,e15,e16,hd12,hj12,nzs,r1,hEg,irN,nrA,nrM,nrE,reduceIte,reduceCtorEq,nrL])|((first|((with_reducible first|apply WO_gT|apply WO_gF|apply WD_gT|apply WD_gF);exact rfl)|(with_reducible apply W_cond));(simp only [↓pb,qbs,tb7,e14,e15,e16,hd12,hj12,nzs,r1,hEg,irN,nrA,nrM,nrE,reduceIte,reduceCtorEq,nrL];with_reducible exact rfl);all_goals (intro hc;(first|exact hcX hc|try simp only [hcs] at hc);try ((with_reducible first|apply woI|apply wdI);simp only [↓pb,↓pd,qds,tb7,e14,e15,e16,hd12,hj12,nzs,r1,hc,hEg,irN,nrA,nrM,nrE,reduceIte,reduceCtorEq,nrL])))|(with_reducible first|refine W_seq ?_|refine W_block ?_|refine W_skip ?_|refine W_ret ?_|refine W_exit ?_|apply blockK_exit)|((with_reducible apply blockK_pass);(focus decide))|fail)
    refine ⟨by first|exact .inl rfl|exact .inr rfl, ?_⟩
    rw [ret1 Try.results7]
    simp only [↓pb,qbs,tb7,rv_tmp,rv_cell,hEg,irN,nrA,nrM,nrE,reduceIte,reduceCtorEq,nrL]
    repeat ((with_reducible apply oV_intro);(simp (disch:=try exact dA) only [qcs,tb7,hEg,irN,nrA,nrM,nrE,reduceIte,reduceCtorEq,nrL];exact rfl))
    exact frA
 ·have hkf:keptT tt true tt.Dues=false:=by simpa using hk
  have e:dayErr tt name day true=13:=by rw [dayErr_mk Q.ok Q.name Q.day rfl Q.late,if_pos hkf]
  have hr:(roomP tt name day).2=13:=by
   rw [roomP,if_pos (by omega)]
   exact e
  have hs:(soonP tt name day cents).2=13:=by
   rw [soonP,hin,if_pos (by omega)]
   exact e
  rw [hr,hs] at hEg
  repeat' (first|((with_reducible refine hK _ _ fun e2 hEn=>?_);clear hK K;simp only [lv7,forallC,forallL,and_true] at hEn;(try simp only [↓pb,qbs,tb7,hEg,irN,nrA,nrM,nrE,reduceIte,reduceCtorEq,nrL] at hEn);clear hEg;(try clear eg);have hEg:=hEn;clear hEn;rename Env=>eg)|((first|((with_reducible first|apply oV_intro|apply oH_intro|apply oB_intro);(simp (disch:=try exact dA) only [qcs,tb7,nzs,hEg,irN,nrA,nrM,nrE,reduceIte,reduceCtorEq,nrL];with_reducible exact rfl))|((with_reducible first|apply oblA_and|apply oblR_and|apply oblO_and);(focus exact obA))|((with_reducible apply WO_callV);(focus exact topA);(simp only [↓pb,qbs,tb7,nzs,hEg,irN,nrA,nrM,nrE,reduceIte,reduceCtorEq,nrL];(exact f15 _ (by exact topA)));(intro Gq hq hJq;try simp only [upd_n,jn_n] at hq))|(with_reducible first|refine W_regionF lv7 fun K hK=>?_|refine W_drawnF lv7 fun K hK=>?_));try simp only [↓pb,↓pd,qds,tb7,nzs,hEg,irN,nrA,nrM,nrE,reduceIte,reduceCtorEq,nrL])|((first|((with_reducible first|apply WO_gT|apply WO_gF|apply WD_gT|apply WD_gF);exact rfl)|(with_reducible apply W_cond));(simp only [↓pb,qbs,tb7,nzs,hEg,irN,nrA,nrM,nrE,reduceIte,reduceCtorEq,nrL];with_reducible exact rfl);all_goals (intro hc;(first|exact hcX hc|try simp only [hcs] at hc);try ((with_reducible first|apply woI|apply wdI);simp only [↓pb,↓pd,qds,tb7,nzs,hc,hEg,irN,nrA,nrM,nrE,reduceIte,reduceCtorEq,nrL])))|(with_reducible first|refine W_seq ?_|refine W_block ?_|refine W_skip ?_|refine W_ret ?_|refine W_exit ?_|apply blockK_exit)|((with_reducible apply blockK_pass);(focus decide))|fail)
  refine ⟨by first|exact .inl rfl|exact .inr rfl, ?_⟩
  rw [ret1 Try.results7]
  simp only [↓pb,qbs,tb7,rv_tmp,rv_cell,hEg,irN,nrA,nrM,nrE,reduceIte,reduceCtorEq,nrL]
  repeat ((with_reducible apply oV_intro);(simp (disch:=try exact dA) only [qcs,tb7,hEg,irN,nrA,nrM,nrE,reduceIte,reduceCtorEq,nrL];exact rfl))
  exact frA
end Go.Proofs.Swa
set_option maxRecDepth 20000
set_option linter.unusedVariables false
set_option linter.unusedSimpArgs false
namespace Go.Proofs.Swa
open Go
open Nat renaming reduceAdd → nrA, reduceMul → nrM, reduceEqDiff → nrE, reduceLT → nrL
open Int renaming reduceToNat → irN
theorem SR.castZ {H:AHeap} {s m k:Nat} {v:Value} {c:List Value} (h:SR H s m v c) (e:m=k):SR H s k v c:=e ▸ h
end Go.Proofs.Swa
namespace Go.Proofs.Ytloabbaheifkgaa
open Go.ChangeShapes Go.WideShapes Go.ChangeAt Go.RowKit
open Go.Proofs.Swa (SR ints iv Top Fr RoB RoOk)
theorem cells3:Try.prog.cellsOf 3=1:=by kernel_rfl
theorem own5:ownKnob Try.prog.godebug=none:=by kernel_rfl
section
variable {H:Type} {enc:TypeId×Value→H} {P:Program}
theorem post_of_below {f:Func} {s:ChangeSpec} {apart fresh handsOn again:Bool} {W W':World} {args:Array Value} {v:Value} {ds gs:List (DataW H)} {before pa pv:List MemPlace}
  (hW:DataW.Whole enc P f.params.toList s.vars apart W args.toList ds gs before)
  (hres:∀ (b:Nat) (sp:Nat→Bool) (hd:Bool),DataW.TrodAll enc P W' b sp hd f.resultTypes.toList (v.resultList f.resultTypes.size) (s.fn H (ds ++ gs)).results [])
  (hargs:∀ sp:Nat→Bool,(∀ p∈before,sp p.block=true)→DataW.TrodAll enc P W' 0 sp true f.params.toList args.toList (s.fn H (ds ++ gs)).args pa)
  (hvars:∀ sp:Nat→Bool,(∀ p∈before,sp p.block=true)→DataW.TrodVars enc P W' sp s.vars (s.fn H (ds ++ gs)).vars pv)
  (hps:before=pa ++ pv) (hb:Below W.heap.size W W')
  (hok:∀ (j:Nat) (t:TypeId) (r:Value),f.resultTypes[j]? = some t→(v.resultList f.resultTypes.size)[j]? = some r→Value.okWide P W' .any 0 t r) :
  s.post enc P f apart fresh handsOn again W args v W':=by
 have hlt:∀ p∈before,p.block < W.heap.size:=fun p hp=>hW.lt p hp
 have hold:∀ p∈before,(fun b=>decide (b < W.heap.size)) p.block=true:=fun p hp=>by simpa using hlt p hp
 refine ⟨ds,gs,before,[],pa,pv,hW,hres _ _ _,hargs _ hold,hvars _ hold,World.keptBut_mono (fun p hp=>⟨hp, ?_⟩) (hb.frame (·∈before)),fun _=>?_⟩
 ·rw [hps,List.mem_append] at hp
  exact Or.inr hp
 ·obtain ⟨_,_,_,_,_,hz,hn⟩:=hW
  refine ⟨hok,_,_,([] ++ pa) ++ pv,⟨[] ++ pa,pv,trodAll_append (hargs _ (fun _ _=>rfl)) (hres _ _ _),hvars _ (fun _ _=>rfl),rfl, ?_, ?_⟩, ?_⟩
  ·intro b off hp
   have hin:MemPlace.cell b off∈before:=by rw [hps];simpa using hp
   rw [hb.frozen (hlt _ hin)]
   exact hz b off hin
  ·intro ha
   have:=hn ha
   rw [hps] at this
   simpa using this
  ·intro p hp _
   rw [hps]
   simpa using hp
end
def LawInts (f:FuncId):Prop:=∀ (vl:Value) (l:List Int) (H:Swa.AHeap),Top H→SR H 1 l.length vl (ints l)→l.length≤9223372036854775807→∃ v H',Swa.Cl Try.prog (Swa.OrC Try.prog) 0 (.fn f) #[vl] H v H'∧v=.bool true∧Fr H.n [] H H'
theorem ints_call {f:FuncId} (hf:LawInts f) {H:Type} {enc:TypeId×Value→H} {W:World} {v0:Value} {d0:DataW H} {p0:List MemPlace} {base0:Nat} (hv:Value.okWide Try.prog W .any base0 27 v0) (h0:DataW.Trod enc Try.prog W 0 (fun _=>true) true 27 v0 d0 p0) :
  Calls Try.prog f #[v0] W fun e W'=>e=.returned (.bool true)∧Below W.heap.size W W':=by
 have hmix:Try.prog.follows .mixedOrders=true:=by kernel_rfl
 obtain ⟨a0,len,cap,rfl⟩:=okWide_slice Try.underlying27 hv
 obtain ⟨fuel,hf0⟩:=h0
 rcases open_ints Try.underlying27 Try.underlying3 cells3 hf0 with ⟨hcs,hx⟩|⟨a,len',cap',zs,hcs,_,hl,hm,hz,hx,hcell,hwz⟩
 ·simp [Value.cells] at hcs
  obtain ⟨rfl,rfl,rfl⟩:=hcs
  refine Swa.law_callsC hmix (L:=[]) (by simp) (Swa.ARel.one (.flat rfl)) ?_
  exact hf _ [] _ (Swa.top_heapOf _) (Swa.GS.nul (s:=1)).sr (by simp)
 ·simp [Value.cells] at hcs
  obtain ⟨rfl,rfl,rfl⟩:=hcs
  simp only [if_true] at hz
  unfold maxLen at hm
  by_cases hc:cap=0
  ·subst hc
   have hl0:len=0:=by omega
   subst hl0
   refine Swa.law_callsC hmix (L:=[]) (by simp) (args:=#[.slice (some ⟨0,1,none⟩) 0 0]) (Swa.ARel.one (.empty (by omega))) ?_
   exact hf _ [] _ (Swa.top_heapOf _) ⟨.inr ⟨_,_,_,rfl,Nat.le_refl _⟩,rfl,.inl rfl,.inl rfl⟩ (by simp)
  ·have hlen:(ints zs).length=zs.length:=Swa.ints_len zs
   have hr:=Swa.roOk_of (w:=W) (a:=a) (cs:=ints zs) (T:=3) (by omega) (fun i hi=>by
    rw [hcell i (by omega)]
    have:(ints zs)[i]=iv (zs.getD i 0):=by
     have hi2:i < zs.length:=by omega
     simp [ints,hi2]
    rw [this]
    exact ⟨rfl,rfl⟩)
   obtain ⟨b,off,spot⟩:=a
   obtain ⟨hr,hsp⟩:=hr
   dsimp only at hsp
   subst hsp
   refine Swa.law_callsC hmix (L:=[⟨b,off,ints zs,3⟩]) (by intro r hrm;rw [List.mem_singleton.1 hrm];exact hr) (args:=#[.slice (some ⟨0,0,none⟩) len cap]) (Swa.ARel.one ?_) ?_
   ·have:=Swa.VRel.slice (ρ:=Swa.renOf W [⟨b,off,ints zs,3⟩]) (b:=0) (o:=0) (n:=len) (c:=cap) (c':=cap) (im:=⟨b,off,Swa.szOf W b,true,false,0,0⟩) rfl (.inr ⟨rfl,rfl⟩) hl
    exact this
   ·have hlt:(zs.take len).length=len:=by rw [List.length_take];omega
    have S:SR (Swa.heapOf [⟨b,off,ints zs,3⟩]) 1 len (.slice (some ⟨0,0,none⟩) len cap) (ints (zs.take len)):=by
     refine ⟨.inr ⟨_,_,_,rfl,hl⟩, ?_,.inr ⟨ints zs,rfl, ?_, ?_⟩,.inr (Nat.lt_succ_self _)⟩
     ·rw [Swa.ints_len,hlt,Nat.mul_one]
     ·show 0 + _≤_
      rw [hlen];omega
     ·show ((ints zs).drop 0).take _=_
      rw [List.drop_zero,Nat.mul_one]
      unfold ints
      rw [← List.map_take]
    exact hf _ (zs.take len) _ (Swa.top_heapOf _) (S.castZ hlt.symm) (by omega)
end Go.Proofs.Ytloabbaheifkgaa
set_option maxRecDepth 20000
set_option linter.unusedVariables false
set_option linter.unusedSimpArgs false
namespace Go.Proofs.Ytloabbaheifkgaa
open Go Go.ChangeShapes Go.WideShapes Go.ChangeAt Go.RowKit
open Go.Proofs.Swa (SR ints iv Top Fr RoB RoOk)
theorem law7:LawInts 7:=fun vl l H hT S hl=>Swa.f7 vl l H hT S hl
set_option maxRecDepth 100000 in
theorem paySoonest_lifted (os:Os) (started:os.Started) (H:Type) (enc:TypeId×Value→H) :
  ReturnsInHanded {} Try.checked os 7 .any (Rows.paySoonestSpec.pre6 enc Try.prog Try.f7 Rows.paySoonestRow.domain false) (Rows.paySoonestSpec.post enc Try.prog Try.f7 false true false false):=by
 refine returnsInHanded_of_change (C:=Try.checked) own5 started (by kernel_rfl) Try.func7
  (ChangeSpec.witness6 (enc:=enc) (C:=Try.checked) false ⟨#[],#[.slice none 0 0],[]⟩ 8 (by kernel_rfl) (by kernel_rfl) (by kernel_rfl) (by kernel_rfl)) ?_
 intro W base args ds gs before hval0 hW hcnd _
 have hval:∀ (j:Nat) t v,Try.f7.params[j]? = some t→args[j]? = some v→Value.okWide Try.prog W .any base t v:=hval0
 have hW':=hW
 have hlt:=hW.lt
 obtain ⟨p,q,hA0,hV,rfl,hfz,hnd⟩:=hW
 have hA:DataW.TrodAll enc Try.prog W 0 (fun _=>true) true Try.f7.params.toList args.toList ds p:=hA0
 rw [Try.params7] at hA hval
 obtain ⟨v0,vs0,d0,ds0,p0,q0,hargs,rfl,rfl,h0,r0⟩:=trodAll_cons hA
 obtain ⟨rfl,rfl,rfl⟩:=trodAll_nil r0
 obtain rfl:args = #[v0]:=by cases args;simp_all
 obtain ⟨rfl,rfl⟩:=trodVars_none hV
 clear hA0 hval0
 simp only [List.append_nil] at hW' hlt
 refine (ints_call law7 (hval 0 27 v0 rfl rfl) h0).mono fun e W' ⟨he,hb⟩=>?_
 subst he
 have again:∀ sp:Nat→Bool,(∀ x∈p0,sp x.block=true)→DataW.Trod enc Try.prog W' 0 sp true 27 v0 d0 p0:=fun sp hsp =>
  WideElems.Trod_stays (by kernel_rfl) (by kernel_rfl) (of_decide_eq_true (by kernel_rfl)) h0 (fun x hx=>hb.same (hlt x hx)) hsp
 exact ⟨_,rfl,post_of_below (pa:=p0) (pv:=[]) hW' (fun _ _ _=>(trodAll_cons_mk (shut_bool Try.underlying4 _) trodAll_mk0)) (fun sp hsp=>trodAll_mk1 (again sp hsp)) (fun _ _=>rfl) (by simp) hb (ok_one (by kernel_rfl) rfl (okWide_bool_mk Try.underlying4 _))⟩
theorem paySoonest_holds:Rows.PaySoonestSaid :=
 OpenClaim.holds_of_wide 7 Try.f7 rfl rfl rfl rfl rfl rfl rfl ⟨rfl,rfl,rfl,rfl,rfl⟩ rfl rfl rfl rfl rfl (by kernel_rfl) Try.func7 (by kernel_rfl)
  (of_decide_eq_true (by kernel_rfl)) (by unfold Func.isWrapper;first|(rw [if_pos (by decide +kernel)];kernel_rfl)|(rw [if_neg (by decide +kernel)];exact ⟨rfl,rfl⟩))
  (fun os started H enc _=>paySoonest_lifted os started H enc)
end Go.Proofs.Ytloabbaheifkgaa
