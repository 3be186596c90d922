/- PileStricter: for every list of numbers the law answers true, panics nowhere and leaves its argument as it was; no condition. -/
import Derived.Test.YtkjcijlaehflhaaP12
import Derived.Test.YtkjcijlaehflhaaRows
import Derived.ProofKit
import Derived.OpenShut
import Derived.JoinedCond
import Derived.Below
import Derived.ChangeSame
set_option maxRecDepth 20000
set_option linter.unusedVariables false
set_option linter.unusedSimpArgs false
namespace Go.Proofs.Swa
open Go
open Nat renaming reduceAdd → nrA, reduceMul → nrM, reduceEqDiff → nrE, reduceLT → nrL
open Int renaming reduceToNat → irN
attribute [local congr] WO_congr oV_congr oB_congr oH_congr WD_congr oblO_congr oblA_congr oblR_congr
theorem f19q (va vb vc : Value) (g : Gnd) (H : AHeap) (hT : Top H) (hG : RG H va vb vc g) (h1 : g.Spots.length < 1000000) (h2 : g.Sorts.length < 1000000) (h3 : g.Acts.length < 1000000) :
  ∃ v H', C5 (.fn 19) #[.agg ⟨[va, vb, vc]⟩] H v H' ∧ (∃ a b c, v = .agg ⟨[a, b, c]⟩ ∧ RG H' a b c g ∧ (g.Spots.length = 0 ∨ SK H' 3 a) ∧
   (g.Sorts.length = 0 ∨ ∃ r, b = .slice (some ⟨r, 0, none⟩) g.Sorts.length g.Sorts.length ∧ H'.get r = .cells (g.Sorts.flatMap eSrt) 76 (.gr r 4 true) ∧ Sole H' r ∧ H.n ≤ r ∧ r < H'.n ∧ (g.Spots.length = 0 ∨ vblk a ≠ r) ∧ (g.Acts.length = 0 ∨ vblk c ≠ r))) ∧ Fr H.n [] H H' := by
 have hgo := hG.one
 refine Cl.ofW Try.func19 rfl (by kernel_rfl) (by rw [Try.ntmps19]; exact Nat.le_of_ble_eq_true rfl) (by kernel_rfl) ?_
 have hEg : True := trivial
 refine gcW [0] ?_
 intro eg hEn
 simp only [forallC, forallL, and_true] at hEn
 try simp only [↓pb, qbs, tb19, hgo, hEg, irN, nrA, nrM, nrE, reduceIte, reduceCtorEq, nrL] at hEn
 replace hEg := hEn; clear hEn
 repeat' (first | ((with_reducible refine hK _ _ fun e2 hEn => ?_); clear hK K; simp only [lv19, forallC, forallL, and_true] at hEn; (try simp only [↓pb, qbs, tb19, hgo, hEg, irN, nrA, nrM, nrE, reduceIte, reduceCtorEq, nrL] at hEn); clear hEg; (try clear eg); have hEg := hEn; clear hEn; rename Env => eg) | ((first | ((with_reducible first | apply oV_intro | apply oH_intro | apply oB_intro); (simp (disch := first | exact dA | fail) only [qcs, tb19, hgo, hEg, irN, nrA, nrM, nrE, reduceIte, reduceCtorEq, nrL]; with_reducible exact rfl)) | ((with_reducible first | apply oblA_and | apply oblR_and | apply oblO_and); (focus exact obA)) | (with_reducible first | refine W_regionF lv19 fun K hK => ?_ | refine W_drawnF lv19 fun K hK => ?_)); try simp only [↓pb, ↓pd, qds, tb19, hgo, hEg, irN, nrA, nrM, nrE, reduceIte, reduceCtorEq, nrL]) | (with_reducible first | refine W_seq ?_ | refine W_ret ?_) | fail)
 have S1 : ∀ h, Fr H.n [] H h → SR h 3 g.Spots.length va (g.Spots.flatMap eSpo) := fun h hF => hG.p.fr0 hF
 refine oB_appS (s := 3) (e := 78) (n := 0) (m := g.Spots.length) (c := []) (new := g.Spots.flatMap eSpo) (by exact topA) (GS.new rfl) (S1 _ (by exact frA)) (fun hm => ap22 (GS.new rfl) (S1 _ (by exact frA)) hm (by omega) (by omega)) (fun hm => apz22 (GS.new rfl) ((S1 _ (by exact frA)).cast hm)) ?_
 rintro v1 G1 gg1 hq1 hJ1 GG1 hg1 hv1 hb1 so1
 clear so1
 simp only [upd_n, jn_n, nb] at hq1 hg1 hv1
 have o1 := GG1.one
 simp only [↓pb, ↓pd, qds, tb19, hgo, o1, hEg, irN, nrA, nrM, nrE, reduceIte, reduceCtorEq, nrL]
 repeat' (first | ((with_reducible refine hK _ _ fun e2 hEn => ?_); clear hK K; simp only [lv19, forallC, forallL, and_true] at hEn; (try simp only [↓pb, qbs, tb19, hgo, o1, hEg, irN, nrA, nrM, nrE, reduceIte, reduceCtorEq, nrL] at hEn); clear hEg; (try clear eg); have hEg := hEn; clear hEn; rename Env => eg) | ((first | ((with_reducible first | apply oV_intro | apply oH_intro | apply oB_intro); (simp (disch := first | exact dA | fail) only [qcs, tb19, hgo, o1, hEg, irN, nrA, nrM, nrE, reduceIte, reduceCtorEq, nrL]; with_reducible exact rfl)) | ((with_reducible first | apply oblA_and | apply oblR_and | apply oblO_and); (focus exact obA)) | (with_reducible first | refine W_regionF lv19 fun K hK => ?_ | refine W_drawnF lv19 fun K hK => ?_)); try simp only [↓pb, ↓pd, qds, tb19, hgo, o1, hEg, irN, nrA, nrM, nrE, reduceIte, reduceCtorEq, nrL]) | (with_reducible first | refine W_seq ?_ | refine W_ret ?_) | fail)
 have S2 : ∀ h, Fr H.n [] H h → SR h 4 g.Sorts.length vb (g.Sorts.flatMap eSrt) := fun h hF => hG.q.fr0 hF
 refine oB_appS (s := 4) (e := 76) (n := 0) (m := g.Sorts.length) (c := []) (new := g.Sorts.flatMap eSrt) (by exact topA) (GS.new rfl) (S2 _ (by exact frA)) (fun hm => ap23 (GS.new rfl) (S2 _ (by exact frA)) hm (by omega) (by omega)) (fun hm => apz23 (GS.new rfl) ((S2 _ (by exact frA)).cast hm)) ?_
 rintro v2 G2 gg2 hq2 hJ2 GG2 hg2 hv2 hb2 so2
 simp only [upd_n, jn_n, nb] at hq2 hg2 hv2
 have o2 := GG2.one
 simp only [↓pb, ↓pd, qds, tb19, hgo, o1, o2, hEg, irN, nrA, nrM, nrE, reduceIte, reduceCtorEq, nrL]
 repeat' (first | ((with_reducible refine hK _ _ fun e2 hEn => ?_); clear hK K; simp only [lv19, forallC, forallL, and_true] at hEn; (try simp only [↓pb, qbs, tb19, hgo, o1, o2, hEg, irN, nrA, nrM, nrE, reduceIte, reduceCtorEq, nrL] at hEn); clear hEg; (try clear eg); have hEg := hEn; clear hEn; rename Env => eg) | ((first | ((with_reducible first | apply oV_intro | apply oH_intro | apply oB_intro); (simp (disch := first | exact dA | fail) only [qcs, tb19, hgo, o1, o2, hEg, irN, nrA, nrM, nrE, reduceIte, reduceCtorEq, nrL]; with_reducible exact rfl)) | ((with_reducible first | apply oblA_and | apply oblR_and | apply oblO_and); (focus exact obA)) | (with_reducible first | refine W_regionF lv19 fun K hK => ?_ | refine W_drawnF lv19 fun K hK => ?_)); try simp only [↓pb, ↓pd, qds, tb19, hgo, o1, o2, hEg, irN, nrA, nrM, nrE, reduceIte, reduceCtorEq, nrL]) | (with_reducible first | refine W_seq ?_ | refine W_ret ?_) | fail)
 have S3 : ∀ h, Fr H.n [] H h → SR h 6 g.Acts.length vc (g.Acts.flatMap eAct) := fun h hF => hG.r.fr0 hF
 refine oB_appS (s := 6) (e := 30) (n := 0) (m := g.Acts.length) (c := []) (new := g.Acts.flatMap eAct) (by exact topA) (GS.new rfl) (S3 _ (by exact frA)) (fun hm => ap24 (GS.new rfl) (S3 _ (by exact frA)) hm (by omega) (by omega)) (fun hm => apz24 (GS.new rfl) ((S3 _ (by exact frA)).cast hm)) ?_
 rintro v3 G3 gg3 hq3 hJ3 GG3 hg3 hv3 hb3 so3
 clear so3
 simp only [upd_n, jn_n, nb] at hq3 hg3 hv3
 have o3 := GG3.one
 simp only [↓pb, ↓pd, qds, tb19, hgo, o1, o2, o3, hEg, irN, nrA, nrM, nrE, reduceIte, reduceCtorEq, nrL]
 repeat' (first | ((with_reducible refine hK _ _ fun e2 hEn => ?_); clear hK K; simp only [lv19, forallC, forallL, and_true] at hEn; (try simp only [↓pb, qbs, tb19, hgo, o1, o2, o3, hEg, irN, nrA, nrM, nrE, reduceIte, reduceCtorEq, nrL] at hEn); clear hEg; (try clear eg); have hEg := hEn; clear hEn; rename Env => eg) | ((first | ((with_reducible first | apply oV_intro | apply oH_intro | apply oB_intro); (simp (disch := first | exact dA | fail) only [qcs, tb19, hgo, o1, o2, o3, hEg, irN, nrA, nrM, nrE, reduceIte, reduceCtorEq, nrL]; with_reducible exact rfl)) | ((with_reducible first | apply oblA_and | apply oblR_and | apply oblO_and); (focus exact obA)) | (with_reducible first | refine W_regionF lv19 fun K hK => ?_ | refine W_drawnF lv19 fun K hK => ?_)); try simp only [↓pb, ↓pd, qds, tb19, hgo, o1, o2, o3, hEg, irN, nrA, nrM, nrE, reduceIte, reduceCtorEq, nrL]) | (with_reducible first | refine W_seq ?_ | refine W_ret ?_) | fail)
 refine ⟨by first | exact .inl rfl | exact .inr rfl, ?_⟩
 rw [ret1 Try.results19]
 simp only [↓pb, qbs, tb19, hgo, rv_tmp, rv_cell, hEg, irN, nrA, nrM, nrE, reduceIte, reduceCtorEq, nrL]
 repeat ((with_reducible apply oV_intro); (simp (disch := first | exact dA | fail) only [qcs, tb19, hgo, hEg, irN, nrA, nrM, nrE, reduceIte, reduceCtorEq, nrL]; exact rfl))
 have b1 : H.n + 2 ≤ vblk v1 := by
  rcases hv1 with rfl | e
  ·exact Nat.le_refl _
  ·omega
 have b2 : H.n + 2 ≤ vblk v2 := by
  rcases hv2 with rfl | e
  ·show H.n + 2 ≤ G1.n; omega
  ·omega
 have b3 : G2.n ≤ vblk v3 := by
  rcases hv3 with rfl | e
  ·exact Nat.le_refl _
  ·omega
 rw [Nat.zero_add, List.nil_append] at GG1 GG2 GG3
 have l1 := GG1.sr.lt
 have l2 := GG2.sr.lt
 simp only [jn_n] at l1 l2
 refine ⟨⟨v1, v2, v3, rfl, ⟨?_, ?_, ?_⟩, ?_, ?_⟩, (by exact frA)⟩
 ·exact GG1.sr.fr (N := H.n) (X := [H.n + 1]) (by exact frA) (.inr nxA)
 ·exact GG2.sr.fr (N := H.n) (X := [H.n + 1]) (by exact frA) (.inr nxA)
 ·exact GG3.sr.fr (N := H.n) (X := [H.n + 1]) (by exact frA) (.inr nxA)
 ·rcases GG1.sk with q | q
  ·exact .inl q
  ·rcases l1 with q2 | q2
   ·exact .inl q2
   ·exact .inr (q.fr (N := H.n) (X := [H.n + 1]) (by exact frA) (by simp only [jn_n]; omega) nxA)
 ·by_cases hz : g.Sorts.length = 0
  ·exact .inl hz
  ·right
   obtain ⟨e1, e2, e3, e4⟩ := so2 (by omega)
   rw [Nat.zero_add] at e1
   rw [List.nil_append] at e2
   simp only [upd_n, jn_n, nb] at e1 e4
   refine ⟨G1.n + 1, e1, ?_, ?_, by omega, by omega, ?_, ?_⟩
   ·refine (Fr.old (N := G2.n) (X := [H.n + 1]) (H := ((((((H.upd (H.n + 1) H.n (AObj.cells [va, vb, vc] 26 Kd.ex)).upd (H.n + 2) (H.n + 1) (AObj.cells [Value.slice none 0 0, Value.slice none 0 0, Value.slice none 0 0] 26 Kd.ex)).upd (H.n + 3) (H.n + 2) (AObj.cells [] 78 Kd.ex)).jn G1).upd (G1.n + 1) G1.n (AObj.cells [] 76 Kd.ex)).jn G2)) (by exact frA) (G1.n + 1) (by simp only [jn_n]; omega) (by simp; omega)).trans e2
   ·exact Sole.fr (N := G2.n) (X := [H.n + 1]) (A := ((((((H.upd (H.n + 1) H.n (AObj.cells [va, vb, vc] 26 Kd.ex)).upd (H.n + 2) (H.n + 1) (AObj.cells [Value.slice none 0 0, Value.slice none 0 0, Value.slice none 0 0] 26 Kd.ex)).upd (H.n + 3) (H.n + 2) (AObj.cells [] 78 Kd.ex)).jn G1).upd (G1.n + 1) G1.n (AObj.cells [] 76 Kd.ex)).jn G2)) (by exact frA) e3 (by omega)
   ·rcases l1 with q | q
    ·exact .inl q
    ·right; omega
   ·right; omega
theorem CpS.feed {g : Gnd} {B4 B6 rr : Nat} {va vb vc xa xb xc : Value} {sl : List Srt} {h h' : AHeap} {n0 : Nat} {u : Value} {T : TypeId} (k : CpS g B4 B6 rr va vb vc xa xb xc sl h) (F : Fr 0 [n0] h h') (hg : h.get n0 = .cells [u] T .ex) (o2 : n0 ≠ B4) (o3 : n0 ≠ B6) (o4 : n0 ≠ rr) (so : Sole h rr → Sole h' rr) : CpS g B4 B6 rr va vb vc xa xb xc sl h' := by
 obtain ⟨b2, b3, b4⟩ := k.bd
 have hn := F.n
 refine ⟨by rw [F.old _ b2 (by simpa using Ne.symm o2)]; exact k.g4, by rw [F.old _ b3 (by simpa using Ne.symm o3)]; exact k.g6, k.hG.frR F hg, ?_, k.xp.fr F (k.xp.offR hg (by omega)), k.xq.fr F (k.xq.offR hg (by omega)), ?_, by omega, ?_⟩
 ·rcases k.hk with q | q
  ·exact .inl q
  ·rcases k.hG.p.lt with q2 | q2
   ·exact .inl q2
   ·rcases k.hG.p.offR hg (by omega) with q3 | q3
    ·exact .inl q3
    ·exact .inr (q.fr F q2 q3)
 ·rcases k.xk with q | q
  ·exact .inl q
  ·rcases k.xp.lt with q2 | q2
   ·exact .inl q2
   ·rcases k.xp.offR hg (by omega) with q3 | q3
    ·exact .inl q3
    ·exact .inr (q.fr F q2 q3)
 ·rcases k.xr with q | ⟨q0, q1, q2⟩
  ·exact .inl q
  ·rcases b4 with q3 | q3
   ·exact .inl q3
   ·exact .inr ⟨q0, by rw [F.old _ q3 (by simpa using Ne.symm o4)]; exact q1, so q2⟩
theorem WO_gU {P : Program} {C : CallRel} {ops : Array Oper} {os : List Oper} {K : Env → AHeap → Prop} {env : Env} {H : AHeap} {dst : Option Tmp} {ty : TypeId} {pos : String} {aft : Array Edge} {op : Op} {j : Nat} {d : Tmp} {b : Bool} (hd : (ops[j]?).bind (·.dst) = some d) (hv : env d = undef) (h : WO P C ops os K (env.set dst undef) H) :
  WO P C ops (⟨dst, op, ty, pos, aft, some (j, b)⟩ :: os) K env H := by
 rw [WO_guard]
 have : yieldedA ops env j = none := by
  unfold yieldedA
  rw [hd]
  simp only [hv]
  rfl
 rw [this, if_neg (by simp)]
 exact h
theorem f46 (a b : Int) (H : AHeap) (hT : Top H) : ∃ v H', C5 (.fn 46) #[iv a, iv b] H v H' ∧ v = .bool (decide (a < 0 ∨ (0 ≤ b ∧ b ≤ a))) ∧ H' = H := by
 refine Cl.ofW Try.func46 rfl (by kernel_rfl) (by rw [Try.ntmps46]; exact Nat.le_of_ble_eq_true rfl) (by kernel_rfl) ?_
 have hEg : True := trivial
 refine gcW [0, 1] ?_
 intro eg hEn
 simp only [forallC, forallL, and_true] at hEn
 try simp only [↓pb, qbs, tb46, hEg, irN, nrA, nrM, nrE, reduceIte, reduceCtorEq, nrL] at hEn
 replace hEg := hEn; clear hEn
 by_cases h1 : a < 0
 ·repeat' (first | ((with_reducible refine hK _ _ fun e2 hEn => ?_); clear hK K; simp only [lv46, forallC, forallL, and_true] at hEn; (try simp only [↓pb, qbs, tb46, h1, hEg, irN, nrA, nrM, nrE, reduceIte, reduceCtorEq, nrL] at hEn); clear hEg; (try clear eg); have hEg := hEn; clear hEn; rename Env => eg) | ((first | ((with_reducible first | apply oV_intro | apply oH_intro | apply oB_intro); (simp (disch := first | exact dA | fail) only [qcs, tb46, h1, hEg, irN, nrA, nrM, nrE, reduceIte, reduceCtorEq, nrL]; with_reducible exact rfl)) | (with_reducible first | refine W_regionF lv46 fun K hK => ?_)); try simp only [↓pb, ↓pd, qds, tb46, h1, hEg, irN, nrA, nrM, nrE, reduceIte, reduceCtorEq, nrL]) | (((with_reducible first | apply WO_gT | apply WO_gF); exact rfl); (simp only [↓pb, qbs, tb46, h1, hEg, irN, nrA, nrM, nrE, reduceIte, reduceCtorEq, nrL]; with_reducible exact rfl); all_goals (intro hc; (first | exact hcX hc | try simp only [hcs] at hc); try ((with_reducible apply woI); simp only [↓pb, ↓pd, qds, tb46, h1, hc, hEg, irN, nrA, nrM, nrE, reduceIte, reduceCtorEq, nrL]))) | (with_reducible first | refine W_seq ?_ | refine W_ret ?_) | fail)
  iterate 3 (refine WO_gU rfl (by simp only [↓pb, qbs, tb46, hEg, irN, nrA, nrM, nrE, reduceIte, reduceCtorEq, nrL]) ?_; simp only [↓pb, ↓pd, qds, tb46, hEg, irN, nrA, nrM, nrE, reduceIte, reduceCtorEq, nrL])
  repeat' (first | ((with_reducible refine hK _ _ fun e2 hEn => ?_); clear hK K; simp only [lv46, forallC, forallL, and_true] at hEn; (try simp only [↓pb, qbs, tb46, h1, hEg, irN, nrA, nrM, nrE, reduceIte, reduceCtorEq, nrL] at hEn); clear hEg; (try clear eg); have hEg := hEn; clear hEn; rename Env => eg) | ((first | ((with_reducible first | apply oV_intro | apply oH_intro | apply oB_intro); (simp (disch := first | exact dA | fail) only [qcs, tb46, h1, hEg, irN, nrA, nrM, nrE, reduceIte, reduceCtorEq, nrL]; with_reducible exact rfl)) | (with_reducible first | refine W_regionF lv46 fun K hK => ?_)); try simp only [↓pb, ↓pd, qds, tb46, h1, hEg, irN, nrA, nrM, nrE, reduceIte, reduceCtorEq, nrL]) | (((with_reducible first | apply WO_gT | apply WO_gF); exact rfl); (simp only [↓pb, qbs, tb46, h1, hEg, irN, nrA, nrM, nrE, reduceIte, reduceCtorEq, nrL]; with_reducible exact rfl); all_goals (intro hc; (first | exact hcX hc | try simp only [hcs] at hc); try ((with_reducible apply woI); simp only [↓pb, ↓pd, qds, tb46, h1, hc, hEg, irN, nrA, nrM, nrE, reduceIte, reduceCtorEq, nrL]))) | (with_reducible first | refine W_seq ?_ | refine W_ret ?_) | fail)
  refine ⟨by first | exact .inl rfl | exact .inr rfl, ?_⟩
  rw [ret1 Try.results46]
  simp only [↓pb, qbs, tb46, rv_tmp, rv_cell, hEg, irN, nrA, nrM, nrE, reduceIte, reduceCtorEq, nrL]
  repeat ((with_reducible apply oV_intro); (simp (disch := first | exact dA | fail) only [qcs, tb46, hEg, irN, nrA, nrM, nrE, reduceIte, reduceCtorEq, nrL]; exact rfl))
  simp [h1]
 ·by_cases h2 : 0 ≤ b
  ·repeat' (first | ((with_reducible refine hK _ _ fun e2 hEn => ?_); clear hK K; simp only [lv46, forallC, forallL, and_true] at hEn; (try simp only [↓pb, qbs, tb46, h1, h2, hEg, irN, nrA, nrM, nrE, reduceIte, reduceCtorEq, nrL] at hEn); clear hEg; (try clear eg); have hEg := hEn; clear hEn; rename Env => eg) | ((first | ((with_reducible first | apply oV_intro | apply oH_intro | apply oB_intro); (simp (disch := first | exact dA | fail) only [qcs, tb46, h1, h2, hEg, irN, nrA, nrM, nrE, reduceIte, reduceCtorEq, nrL]; with_reducible exact rfl)) | (with_reducible first | refine W_regionF lv46 fun K hK => ?_)); try simp only [↓pb, ↓pd, qds, tb46, h1, h2, hEg, irN, nrA, nrM, nrE, reduceIte, reduceCtorEq, nrL]) | (((with_reducible first | apply WO_gT | apply WO_gF); exact rfl); (simp only [↓pb, qbs, tb46, h1, h2, hEg, irN, nrA, nrM, nrE, reduceIte, reduceCtorEq, nrL]; with_reducible exact rfl); all_goals (intro hc; (first | exact hcX hc | try simp only [hcs] at hc); try ((with_reducible apply woI); simp only [↓pb, ↓pd, qds, tb46, h1, h2, hc, hEg, irN, nrA, nrM, nrE, reduceIte, reduceCtorEq, nrL]))) | (with_reducible first | refine W_seq ?_ | refine W_ret ?_) | fail)
   refine ⟨by first | exact .inl rfl | exact .inr rfl, ?_⟩
   rw [ret1 Try.results46]
   simp only [↓pb, qbs, tb46, rv_tmp, rv_cell, hEg, irN, nrA, nrM, nrE, reduceIte, reduceCtorEq, nrL]
   repeat ((with_reducible apply oV_intro); (simp (disch := first | exact dA | fail) only [qcs, tb46, hEg, irN, nrA, nrM, nrE, reduceIte, reduceCtorEq, nrL]; exact rfl))
   simp [h1, h2]
  ·repeat' (first | ((with_reducible refine hK _ _ fun e2 hEn => ?_); clear hK K; simp only [lv46, forallC, forallL, and_true] at hEn; (try simp only [↓pb, qbs, tb46, h1, h2, hEg, irN, nrA, nrM, nrE, reduceIte, reduceCtorEq, nrL] at hEn); clear hEg; (try clear eg); have hEg := hEn; clear hEn; rename Env => eg) | ((first | ((with_reducible first | apply oV_intro | apply oH_intro | apply oB_intro); (simp (disch := first | exact dA | fail) only [qcs, tb46, h1, h2, hEg, irN, nrA, nrM, nrE, reduceIte, reduceCtorEq, nrL]; with_reducible exact rfl)) | (with_reducible first | refine W_regionF lv46 fun K hK => ?_)); try simp only [↓pb, ↓pd, qds, tb46, h1, h2, hEg, irN, nrA, nrM, nrE, reduceIte, reduceCtorEq, nrL]) | (((with_reducible first | apply WO_gT | apply WO_gF); exact rfl); (simp only [↓pb, qbs, tb46, h1, h2, hEg, irN, nrA, nrM, nrE, reduceIte, reduceCtorEq, nrL]; with_reducible exact rfl); all_goals (intro hc; (first | exact hcX hc | try simp only [hcs] at hc); try ((with_reducible apply woI); simp only [↓pb, ↓pd, qds, tb46, h1, h2, hc, hEg, irN, nrA, nrM, nrE, reduceIte, reduceCtorEq, nrL]))) | (with_reducible first | refine W_seq ?_ | refine W_ret ?_) | fail)
   refine ⟨by first | exact .inl rfl | exact .inr rfl, ?_⟩
   rw [ret1 Try.results46]
   simp only [↓pb, qbs, tb46, rv_tmp, rv_cell, hEg, irN, nrA, nrM, nrE, reduceIte, reduceCtorEq, nrL]
   repeat ((with_reducible apply oV_intro); (simp (disch := first | exact dA | fail) only [qcs, tb46, hEg, irN, nrA, nrM, nrE, reduceIte, reduceCtorEq, nrL]; exact rfl))
   simp [h1, h2]
set_option maxHeartbeats 4000000 in
theorem f12 (vl : Value) (l : List Int) (H : AHeap) (hT : Top H) (S : SR H 1 l.length vl (ints l)) (hl : l.length ≤ 9223372036854775807) (M : Made2) (hmade : groundOf (eitherS (feedOf l) [4, 40]) 3 2 6 (either (feedOf l) [4, 40]) 16 = M)
  (t5 : True5 M.g M.truth) (hfi : ∀ s, s ∈ M.g.Sorts → s.Fire ≤ 50)
  (hw : ∀ H, Top H → OrC Try.prog 15 #[] H (.bool true) H) : ∃ v H', C5 (.fn 12) #[vl] H v H' ∧ v = .bool true ∧ Fr H.n [] H H' := by
 refine Cl.ofW Try.func12 rfl (by kernel_rfl) (by rw [Try.ntmps12]; exact Nat.le_of_ble_eq_true rfl) (by kernel_rfl) ?_
 have hEg : True := trivial
 refine gcW [0] ?_
 intro eg hEn
 simp only [forallC, forallL, and_true] at hEn
 try simp only [↓pb, qbs, tb12, hEg, irN, nrA, nrM, nrE, reduceIte, reduceCtorEq, nrL] at hEn
 replace hEg := hEn; clear hEn
 repeat' (first | ((with_reducible refine hK _ _ fun e2 hEn => ?_); clear hK K; simp only [lv12, forallC, forallL, and_true] at hEn; (try simp only [↓pb, qbs, tb12, hEg, irN, nrA, nrM, nrE, reduceIte, reduceCtorEq, nrL] at hEn); clear hEg; (try clear eg); have hEg := hEn; clear hEn; rename Env => eg) | ((first | ((with_reducible first | apply oV_intro | apply oH_intro | apply oB_intro); (simp (disch := first | exact dA | fail) only [qcs, tb12, hEg, irN, nrA, nrM, nrE, reduceIte, reduceCtorEq, nrL]; with_reducible exact rfl)) | ((with_reducible first | apply oblA_and | apply oblR_and | apply oblO_and); (focus exact obA)) | ((with_reducible apply WO_callE); (simp only [↓pb, qbs, tb12, hEg, irN, nrA, nrM, nrE, reduceIte, reduceCtorEq, nrL]; (first | exact f16 _ l _ hT S hl | exact f18 _ _ _ [_, _] _ (by simp (disch := first | exact dA | fail) only [qcs, tb12, hEg, irN, nrA, nrM, nrE, reduceIte, reduceCtorEq, nrL]; rfl) (SR.new rfl) (.inl (by simp only [vblk]; omega)) (by simp)))) | (with_reducible first | refine W_regionF lv12 fun K hK => ?_ | refine W_drawnF lv12 fun K hK => ?_)); try simp only [↓pb, ↓pd, qds, tb12, hEg, irN, nrA, nrM, nrE, reduceIte, reduceCtorEq, nrL]) | ((first | ((with_reducible first | apply WO_gT | apply WO_gF | apply WD_gT | apply WD_gF); exact rfl) | (with_reducible apply W_cond)); (simp only [↓pb, qbs, tb12, hEg, irN, nrA, nrM, nrE, reduceIte, reduceCtorEq, nrL]; with_reducible exact rfl); all_goals (intro hc; (first | exact hcX hc | try simp only [hcs] at hc); try ((with_reducible first | apply woI | apply wdI); simp only [↓pb, ↓pd, qds, tb12, hc, hEg, irN, nrA, nrM, nrE, reduceIte, reduceCtorEq, nrL]))) | (with_reducible first | refine W_seq ?_ | refine W_block ?_ | refine W_skip ?_ | refine W_ret ?_ | refine W_exit ?_ | apply blockK_exit) | ((with_reducible apply blockK_pass); (focus decide)) | fail)
 have hm := eith2 (feedOf l) 4 40
 refine WO_callX (X := [H.n]) (by simp only [↓pb, qbs, tb12, hEg, irN, nrA, nrM, nrE, reduceIte, reduceCtorEq, nrL]; exact f17 H.n (eitherS (feedOf l) [4, 40]) 3 2 6 (either (feedOf l) [4, 40]) 16 _ (by exact topA) (by simp (disch := first | exact dA | fail) only [qcs, tb12, hEg, irN, nrA, nrM, nrE, reduceIte, reduceCtorEq, nrL]) (by simp only [↓pb, qbs, tb12, hEg, irN, nrA, nrM, nrE, reduceIte, reduceCtorEq, nrL]; omega) (by omega) (by omega) (by omega) (by omega) (by omega)) ?_
 rintro v3 H3 ⟨va, vb, vc, vt, gg, gt, rfl, hG, GA, hgg, GTr, hx3, hsk⟩ hF3
 have hT3 : Top H3 := hF3.top (by exact topA)
 rw [hmade] at hG hx3 GA GTr hsk
 have hF03 : Fr H.n [] H H3 := by
  refine Fr.trans' (A := H) ?_ hF3 (by simp only [↓pb, qbs, tb12, hEg, irN, nrA, nrM, nrE, reduceIte, reduceCtorEq, nrL]; omega) (by intro b hb hlt; simp at hb; omega)
  exact frA
 have hn3 := hF3.n
 simp only [upd_n, jn_n] at hn3
 have hgo := hG.one
 have ho4 := GTr.one
 have okp := t5.ok.spots
 have okq := t5.ok.sorts
 have oka := t5.ok.acts
 simp only [↓pb, ↓pd, qds, tb12, hx3, hgo, ho4, hEg, irN, nrA, nrM, nrE, reduceIte, reduceCtorEq, nrL]
 repeat' (first | ((with_reducible refine hK _ _ fun e2 hEn => ?_); clear hK K; simp only [lv12, forallC, forallL, and_true] at hEn; (try simp only [↓pb, qbs, tb12, hx3, hgo, ho4, hEg, irN, nrA, nrM, nrE, reduceIte, reduceCtorEq, nrL] at hEn); clear hEg; (try clear eg); have hEg := hEn; clear hEn; rename Env => eg) | ((first | ((with_reducible first | apply oV_intro | apply oH_intro | apply oB_intro); (simp (disch := first | exact dA | fail) only [qcs, tb12, hx3, hgo, ho4, hEg, irN, nrA, nrM, nrE, reduceIte, reduceCtorEq, nrL]; with_reducible exact rfl)) | ((with_reducible first | apply oblA_and | apply oblR_and | apply oblO_and); (focus exact obA)) | ((with_reducible apply WO_callF); (focus exact topA); (simp only [↓pb, qbs, tb12, hx3, hgo, ho4, hEg, irN, nrA, nrM, nrE, reduceIte, reduceCtorEq, nrL]; exact f19q _ _ _ _ _ (by exact topA) (hG.frR (b := H.n) (N := H3.n) (by exact frA) hx3) (by omega) (by omega) (by omega)); (rintro vq Gq hq hJq ⟨xa, xb, xc, rfl, hX, hXk, hXs⟩; try simp only [upd_n, jn_n] at hq)) | (with_reducible first | refine W_regionF lv12 fun K hK => ?_ | refine W_drawnF lv12 fun K hK => ?_)); try simp only [↓pb, ↓pd, qds, tb12, hx3, hgo, ho4, hEg, irN, nrA, nrM, nrE, reduceIte, reduceCtorEq, nrL]) | ((first | ((with_reducible first | apply WO_gT | apply WO_gF | apply WD_gT | apply WD_gF); exact rfl) | (with_reducible apply W_cond)); (simp only [↓pb, qbs, tb12, hx3, hgo, ho4, hEg, irN, nrA, nrM, nrE, reduceIte, reduceCtorEq, nrL]; with_reducible exact rfl); all_goals (intro hc; (first | exact hcX hc | try simp only [hcs] at hc); try ((with_reducible first | apply woI | apply wdI); simp only [↓pb, ↓pd, qds, tb12, hx3, hgo, ho4, hc, hEg, irN, nrA, nrM, nrE, reduceIte, reduceCtorEq, nrL]))) | (with_reducible first | refine W_seq ?_ | refine W_block ?_ | refine W_skip ?_ | refine W_ret ?_ | refine W_exit ?_ | apply blockK_exit) | ((with_reducible apply blockK_pass); (focus decide)) | fail)
 obtain ⟨GX, hGX⟩ : ∃ x, x = Gq := ⟨_, rfl⟩
 subst hGX
 obtain ⟨rr, hrr1, hrr⟩ : ∃ rr, H3.n + 1 ≤ rr ∧ (M.g.Sorts.length = 0 ∨ (xb = .slice (some ⟨rr, 0, none⟩) M.g.Sorts.length M.g.Sorts.length ∧ ((H3.upd (H3.n + 1) H3.n (AObj.cells [va, vb, vc] 26 Kd.ex)).jn GX).get rr = .cells (M.g.Sorts.flatMap eSrt) 76 (.gr rr 4 true) ∧ Sole ((H3.upd (H3.n + 1) H3.n (AObj.cells [va, vb, vc] 26 Kd.ex)).jn GX) rr ∧ rr < GX.n ∧
   (M.g.Spots.length = 0 ∨ vblk xa ≠ rr) ∧ (M.g.Acts.length = 0 ∨ vblk xc ≠ rr))) := by
  rcases hXs with q | ⟨r, q1, q2, q3, q4, q5, q6, q7⟩
  ·exact ⟨H3.n + 1, Nat.le_refl _, .inl q⟩
  ·exact ⟨r, q4, .inr ⟨q1, q2, q3, q5, q6, q7⟩⟩
 clear hXs
 have lva := hG.p.lt
 have lvb := hG.q.lt
 have lvc := hG.r.lt
 have lxa := hX.p.lt
 have lxb := hX.r.lt
 simp only [jn_n] at lxa lxb
 have hox := hX.one
 have hxs := hX.q.shape
 refine W_forget (N := H.n) (X := []) (h0 := H) (fun h => CpS M.g H3.n GX.n rr va vb vc xa xb xc M.g.Sorts h ∧ h.get H.n = .cells [uv M.x] 85 .ex ∧ Top h) (by exact frA) ⟨?_, by simp (disch := first | exact dA | fail) only [qcs, tb12, hEg, irN, nrA, nrM, nrE, reduceIte, reduceCtorEq, nrL]; exact hx3, (by exact topA)⟩ ?_
 ·have F1 : Fr H3.n [H.n] H3 (((H3.upd (H3.n + 1) H3.n (AObj.cells [va, vb, vc] 26 Kd.ex)).jn GX).upd (GX.n + 1) GX.n (AObj.cells [xa, xb, xc] 26 Kd.ex)) := by exact frA
  have F2 : Fr (GX.n) [] ((H3.upd (H3.n + 1) H3.n (AObj.cells [va, vb, vc] 26 Kd.ex)).jn GX) (((H3.upd (H3.n + 1) H3.n (AObj.cells [va, vb, vc] 26 Kd.ex)).jn GX).upd (GX.n + 1) GX.n (AObj.cells [xa, xb, xc] 26 Kd.ex)) := by exact frA
  refine ⟨by simp (disch := first | exact dA | fail) only [qcs, tb12, hEg, irN, nrA, nrM, nrE, reduceIte, reduceCtorEq, nrL], by simp (disch := first | exact dA | fail) only [qcs, tb12, hEg, irN, nrA, nrM, nrE, reduceIte, reduceCtorEq, nrL], hG.frR F1 hx3, ?_, hX.p.fr0 F2, hX.r.fr0 F2, ?_, ⟨by simp only [↓pb, qbs, tb12, hEg, irN, nrA, nrM, nrE, reduceIte, reduceCtorEq, nrL]; omega, by simp only [↓pb, qbs, tb12, hEg, irN, nrA, nrM, nrE, reduceIte, reduceCtorEq, nrL]; omega, ?_⟩, ?_⟩
  ·rcases hsk with q | q
   ·exact .inl q
   ·rcases lva with q2 | q2
    ·exact .inl q2
    ·rcases hG.p.offR hx3 (by omega) with q3 | q3
     ·exact .inl q3
     ·exact .inr (q.fr F1 q2 q3)
  ·rcases hXk with q | q
   ·exact .inl q
   ·rcases lxa with q2 | q2
    ·exact .inl q2
    ·exact .inr (q.fr F2 q2 (by simp))
  ·rcases hrr with q | ⟨_, _, _, q, _⟩
   ·exact .inl q
   ·exact .inr (by simp only [↓pb, qbs, tb12, hEg, irN, nrA, nrM, nrE, reduceIte, reduceCtorEq, nrL]; omega)
  ·rcases hrr with q | ⟨q0, q1, q2, q, _⟩
   ·exact .inl q
   ·right
    refine ⟨q0, ?_, q2.fr F2 q⟩
    rw [F2.old _ q (by simp)]
    exact q1
 rintro hb Fb ⟨kb, fb, Tb⟩
 obtain ⟨bb2, bb3, bb4⟩ := kb.bd
 refine W_count [3, 4, 6] (by kernel_rfl) 7 (M.g.Sorts.length) (H.n) [rr, H.n] [] (fun i e h => ∃ (L : List Srt) (x : Int), StL M.g.Sorts L i ∧ h.get H.n = .cells [uv x] 85 .ex ∧ CpS M.g H3.n GX.n rr va vb vc xa xb xc L h) (by simp only [↓pb, qbs, tb12, hEg, irN, nrA, nrM, nrE, reduceIte, reduceCtorEq, nrL]) (by focus exact topA) (H0 := H) (by focus exact frA) (by intro b hb hlt; simp at hb ⊢; try omega) ?_ ?_
 rotate_left
 intro i1 e1 h1 hi1 hE1 ei1 hF1 hF01 hTh1 hJ1
 simp only [forallC, forallL, and_true] at hE1
 try simp only [↓pb, qbs, tb12, hEg, irN, nrA, nrM, nrE, reduceIte, reduceCtorEq, nrL] at hE1
 have hn11 := hF1.n; have hn01 := hF01.n; try simp only [upd_n, jn_n] at hn11
 replace hEg := And.intro ei1 hE1
 rotate_left
 ·exact ⟨M.g.Sorts, M.x, StL.start t5.ok.sort, fb, kb⟩
 obtain ⟨L, x, EL, fx, kx⟩ := hJ1
 have lL : L.length = M.g.Sorts.length := EL.len
 have w6 := kx.g6
 have q6 : h1.rd GX.n = some [xa, xb, xc] := by rw [rd_def, w6]; rfl
 have hx1 := kx.done lL hxs
 have S4 : SR h1 4 M.g.Sorts.length xb (L.flatMap eSrt) := by
  have := hx1.q
  rw [← lL]
  exact this
 have lS4 := S4.lt
 by_cases hi2 : i1 < M.g.Sorts.length
 ·obtain ⟨hxc, g1, g2, g3, g4, g5⟩ := hrr.resolve_left (by omega)
  have xr := kx.xr.resolve_left (by omega)
  have hvb : vblk vb ≠ rr := by
   have := lvb.resolve_left (show ¬ M.g.Sorts.length = 0 by omega)
   omega
  have hvx : vblk xb = rr := by rw [hxc]; rfl
  have hox3 : voff xb = 0 := by rw [hxc]; rfl
  have hrd : h1.rd rr = some (L.flatMap eSrt) := by rw [rd_def, xr.2.1]; rfl
  obtain ⟨s, hs⟩ : ∃ s, s = L.getD i1 default := ⟨_, rfl⟩
  have sok := okSrt_elim (EL.ok i1 hi2)
  rw [← hs] at sok
  have cel : ∀ o, o < 4 → (L.flatMap eSrt)[i1 * 4 + o]? = (eSrt s)[o]? := fun o ho => by
   have h := (S4.el eSrt_len lL.symm).1 i1 o hi2 (by omega)
   have hd : dOf h1 xb = L.flatMap eSrt := by unfold dOf; rw [hvx, hrd]; rfl
   rw [hox3, hd, ← hs] at h
   simpa using h
  have c0 : (L.flatMap eSrt)[i1 * 4]? = some (iv s.High) := cel 0 (by omega)
  have c2 : (L.flatMap eSrt)[i1 * 4 + 2]? = some (iv s.Fire) := cel 2 (by omega)
  have c3 : (L.flatMap eSrt)[i1 * 4 + 3]? = some (iv s.Age) := cel 3 (by omega)
  have hwa : IntKind.i64.wrap (s.Age + 1) = s.Age + 1 := wrap64 (by omega) (by omega)
  have hsk4 := EL.ok i1 hi2
  rw [← hs] at hsk4
  have hwe : s.Age + 1 < 9223372036854775808 := by omega
  repeat' (first | ((with_reducible refine hK _ _ fun e2 hEn => ?_); clear hK K; simp only [lv12, forallC, forallL, and_true] at hEn; (try simp only [↓pb, qbs, tb12, fx, w6, q6, lns23 hX.q, ias23 S4, kx.xp.mapB, hvx, hox3, hrd, c0, c2, c3, hwa, hEg, irN, nrA, nrM, nrE, reduceIte, reduceCtorEq, nrL] at hEn); clear hEg; (try clear eg); have hEg := hEn; clear hEn; rename Env => eg) | ((first | ((with_reducible first | apply oV_intro | apply oH_intro | apply oB_intro); (simp (disch := first | exact dA | fail) only [qcs, tb12, fx, w6, q6, lns23 hX.q, ias23 S4, kx.xp.mapB, hvx, hox3, hrd, c0, c2, c3, hwa, hEg, irN, nrA, nrM, nrE, reduceIte, reduceCtorEq, nrL]; with_reducible exact rfl)) | ((with_reducible first | apply oblA_and | apply oblR_and | apply oblO_and); (focus exact obA)) | ((with_reducible apply WO_callE); (simp only [↓pb, qbs, tb12, fx, w6, q6, lns23 hX.q, ias23 S4, kx.xp.mapB, hvx, hox3, hrd, c0, c2, c3, hwa, hEg, irN, nrA, nrM, nrE, reduceIte, reduceCtorEq, nrL]; (first | exact f31 _ _ _ _ _ (by simp (disch := first | exact dA | fail) only [qcs, tb12, fx, w6, q6, lns23 hX.q, ias23 S4, kx.xp.mapB, hvx, hox3, hrd, c0, c2, c3, hwa, hEg, irN, nrA, nrM, nrE, reduceIte, reduceCtorEq, nrL]; rfl) | exact f18 _ _ _ [_, _] _ (by simp (disch := first | exact dA | fail) only [qcs, tb12, fx, w6, q6, lns23 hX.q, ias23 S4, kx.xp.mapB, hvx, hox3, hrd, c0, c2, c3, hwa, hEg, irN, nrA, nrM, nrE, reduceIte, reduceCtorEq, nrL]; rfl) (SR.new rfl) (.inl (by simp only [vblk]; omega)) (by simp) | exact f20 _ _ _ _ (by simp (disch := first | exact dA | fail) only [qcs, tb12, fx, w6, q6, lns23 hX.q, ias23 S4, kx.xp.mapB, hvx, hox3, hrd, c0, c2, c3, hwa, hEg, irN, nrA, nrM, nrE, reduceIte, reduceCtorEq, nrL]; rfl) (by omega)))) | (with_reducible first | refine W_regionF lv12 fun K hK => ?_ | refine W_drawnF lv12 fun K hK => ?_)); try simp only [↓pb, ↓pd, qds, tb12, fx, w6, q6, lns23 hX.q, ias23 S4, kx.xp.mapB, hvx, hox3, hrd, c0, c2, c3, hwa, hEg, irN, nrA, nrM, nrE, reduceIte, reduceCtorEq, nrL]) | ((first | ((with_reducible first | apply WO_gT | apply WO_gF | apply WD_gT | apply WD_gF); exact rfl) | (with_reducible apply W_cond)); (simp only [↓pb, qbs, tb12, fx, w6, q6, lns23 hX.q, ias23 S4, kx.xp.mapB, hvx, hox3, hrd, c0, c2, c3, hwa, hEg, irN, nrA, nrM, nrE, reduceIte, reduceCtorEq, nrL]; with_reducible exact rfl); all_goals (intro hc; (first | exact hcX hc | try simp only [hcs] at hc); try ((with_reducible first | apply woI | apply wdI); simp only [↓pb, ↓pd, qds, tb12, fx, w6, q6, lns23 hX.q, ias23 S4, kx.xp.mapB, hvx, hox3, hrd, c0, c2, c3, hwa, hc, hEg, irN, nrA, nrM, nrE, reduceIte, reduceCtorEq, nrL]))) | (with_reducible first | refine W_seq ?_ | refine W_block ?_ | refine W_skip ?_ | refine W_ret ?_ | refine W_exit ?_ | apply blockK_exit) | ((with_reducible apply blockK_pass); (focus decide)) | fail)
  have ln : (L.flatMap eSrt).length = M.g.Sorts.length * 4 := by rw [flat_len eSrt_len, lL]
  have lnx : ∀ (j : Nat) (t : Srt), ((L.set j t).flatMap eSrt).length = M.g.Sorts.length * 4 := fun j t => by rw [flat_len eSrt_len, List.length_set, lL]
  have r1 := high_in sok.1 sok.2.1 (btwS x 1 s.High) x
  generalize either (btwS x 1 s.High) [s.High, btw x 1 s.High] = z1 at r1 ⊢
  generalize eitherS (btwS x 1 s.High) [s.High, btw x 1 s.High] = D
  have r2 := zero_in (n := 4) (by omega) (by omega) 0 (belowS D 4) D (by omega)
  generalize either (belowS D 4) [0, below D 4] = z2 at r2 ⊢
  generalize eitherS (belowS D 4) [0, below D 4] = E
  have r3 := zero_in (n := s.Age + 1) (by omega) (by omega) s.Age (belowS E (s.Age + 1)) E (by omega)
  generalize either (belowS E (s.Age + 1)) [s.Age, below E (s.Age + 1)] = z3 at r3 ⊢
  generalize eitherS (belowS E (s.Age + 1)) [s.Age, below E (s.Age + 1)] = G
  generalize below E (s.Age + 1) = y1
  generalize belowS E (s.Age + 1) = y2
  generalize below D 4 = y3
  generalize belowS D 4 = y4
  refine oH_intro (by simp (disch := first | exact dA | fail) only [qcs, tb12, hEg, irN, nrA, nrM, nrE, reduceIte, reduceCtorEq, nrL]; rw [xr.2.1]; exact stG_sole (Sole.fr (N := h1.n) (X := [H.n]) (A := h1) (by exact frA) xr.2.2 (by omega)) rfl rfl (by rw [ln]; omega)) ?_
  rw [show (iv z1).cells.toList = [iv z1] from rfl, splice_high L i1 z1 (by omega)]
  repeat' (first | ((with_reducible refine hK _ _ fun e2 hEn => ?_); clear hK K; simp only [lv12, forallC, forallL, and_true] at hEn; (try simp only [↓pb, qbs, tb12, fx, w6, q6, lns23 hX.q, ias23 S4, kx.xp.mapB, hvx, hox3, hEg, irN, nrA, nrM, nrE, reduceIte, reduceCtorEq, nrL] at hEn); clear hEg; (try clear eg); have hEg := hEn; clear hEn; rename Env => eg) | ((first | ((with_reducible first | apply oV_intro | apply oH_intro | apply oB_intro); (simp (disch := first | exact dA | fail) only [qcs, tb12, fx, w6, q6, lns23 hX.q, ias23 S4, kx.xp.mapB, hvx, hox3, hEg, irN, nrA, nrM, nrE, reduceIte, reduceCtorEq, nrL]; with_reducible exact rfl)) | ((with_reducible first | apply oblA_and | apply oblR_and | apply oblO_and); (focus exact obA)) | (with_reducible first | refine W_regionF lv12 fun K hK => ?_ | refine W_drawnF lv12 fun K hK => ?_)); try simp only [↓pb, ↓pd, qds, tb12, fx, w6, q6, lns23 hX.q, ias23 S4, kx.xp.mapB, hvx, hox3, hEg, irN, nrA, nrM, nrE, reduceIte, reduceCtorEq, nrL]) | ((first | ((with_reducible first | apply WO_gT | apply WO_gF | apply WD_gT | apply WD_gF); exact rfl) | (with_reducible apply W_cond)); (simp only [↓pb, qbs, tb12, fx, w6, q6, lns23 hX.q, ias23 S4, kx.xp.mapB, hvx, hox3, hEg, irN, nrA, nrM, nrE, reduceIte, reduceCtorEq, nrL]; with_reducible exact rfl); all_goals (intro hc; (first | exact hcX hc | try simp only [hcs] at hc); try ((with_reducible first | apply woI | apply wdI); simp only [↓pb, ↓pd, qds, tb12, fx, w6, q6, lns23 hX.q, ias23 S4, kx.xp.mapB, hvx, hox3, hc, hEg, irN, nrA, nrM, nrE, reduceIte, reduceCtorEq, nrL]))) | (with_reducible first | refine W_seq ?_ | refine W_block ?_ | refine W_skip ?_ | refine W_ret ?_ | refine W_exit ?_ | apply blockK_exit) | ((with_reducible apply blockK_pass); (focus decide)) | fail)
  refine oH_intro (stG_sole ((Sole.fr (N := h1.n) (X := [H.n]) (A := h1) (by exact frA) xr.2.2 (by omega)).upd fun _ _ _ _ _ => rfl) rfl rfl (by rw [lnx]; omega)) ?_
  rw [show (iv (IntKind.i64.wrap (s.Fire + z2))).cells.toList = [iv (IntKind.i64.wrap (s.Fire + z2))] from rfl, splice_fire _ i1 _ (by rw [List.length_set]; omega)]
  repeat' (first | ((with_reducible refine hK _ _ fun e2 hEn => ?_); clear hK K; simp only [lv12, forallC, forallL, and_true] at hEn; (try simp only [↓pb, qbs, tb12, fx, w6, q6, lns23 hX.q, ias23 S4, kx.xp.mapB, hvx, hox3, hEg, irN, nrA, nrM, nrE, reduceIte, reduceCtorEq, nrL] at hEn); clear hEg; (try clear eg); have hEg := hEn; clear hEn; rename Env => eg) | ((first | ((with_reducible first | apply oV_intro | apply oH_intro | apply oB_intro); (simp (disch := first | exact dA | fail) only [qcs, tb12, fx, w6, q6, lns23 hX.q, ias23 S4, kx.xp.mapB, hvx, hox3, hEg, irN, nrA, nrM, nrE, reduceIte, reduceCtorEq, nrL]; with_reducible exact rfl)) | ((with_reducible first | apply oblA_and | apply oblR_and | apply oblO_and); (focus exact obA)) | (with_reducible first | refine W_regionF lv12 fun K hK => ?_ | refine W_drawnF lv12 fun K hK => ?_)); try simp only [↓pb, ↓pd, qds, tb12, fx, w6, q6, lns23 hX.q, ias23 S4, kx.xp.mapB, hvx, hox3, hEg, irN, nrA, nrM, nrE, reduceIte, reduceCtorEq, nrL]) | ((first | ((with_reducible first | apply WO_gT | apply WO_gF | apply WD_gT | apply WD_gF); exact rfl) | (with_reducible apply W_cond)); (simp only [↓pb, qbs, tb12, fx, w6, q6, lns23 hX.q, ias23 S4, kx.xp.mapB, hvx, hox3, hEg, irN, nrA, nrM, nrE, reduceIte, reduceCtorEq, nrL]; with_reducible exact rfl); all_goals (intro hc; (first | exact hcX hc | try simp only [hcs] at hc); try ((with_reducible first | apply woI | apply wdI); simp only [↓pb, ↓pd, qds, tb12, fx, w6, q6, lns23 hX.q, ias23 S4, kx.xp.mapB, hvx, hox3, hc, hEg, irN, nrA, nrM, nrE, reduceIte, reduceCtorEq, nrL]))) | (with_reducible first | refine W_seq ?_ | refine W_block ?_ | refine W_skip ?_ | refine W_ret ?_ | refine W_exit ?_ | apply blockK_exit) | ((with_reducible apply blockK_pass); (focus decide)) | fail)
  refine oH_intro (stG_sole ((Sole.fr (N := h1.n) (X := [H.n]) (A := h1) (by exact frA) xr.2.2 (by omega)).upd fun _ _ _ _ _ => rfl) rfl rfl (by rw [flat_len eSrt_len, List.length_set, List.length_set, lL]; omega)) ?_
  rw [show (iv z3).cells.toList = [iv z3] from rfl, splice_age _ i1 z3 (by rw [List.length_set, List.length_set]; omega), set3 (by omega), ← hs]
  repeat' (first | ((with_reducible refine hK _ _ fun e2 hEn => ?_); clear hK K; simp only [lv12, forallC, forallL, and_true] at hEn; (try simp only [↓pb, qbs, tb12, fx, w6, q6, lns23 hX.q, ias23 S4, kx.xp.mapB, hvx, hox3, hEg, irN, nrA, nrM, nrE, reduceIte, reduceCtorEq, nrL] at hEn); clear hEg; (try clear eg); have hEg := hEn; clear hEn; rename Env => eg) | ((first | ((with_reducible first | apply oV_intro | apply oH_intro | apply oB_intro); (simp (disch := first | exact dA | fail) only [qcs, tb12, fx, w6, q6, lns23 hX.q, ias23 S4, kx.xp.mapB, hvx, hox3, hEg, irN, nrA, nrM, nrE, reduceIte, reduceCtorEq, nrL]; with_reducible exact rfl)) | ((with_reducible first | apply oblA_and | apply oblR_and | apply oblO_and); (focus exact obA)) | (with_reducible first | refine W_regionF lv12 fun K hK => ?_ | refine W_drawnF lv12 fun K hK => ?_)); try simp only [↓pb, ↓pd, qds, tb12, fx, w6, q6, lns23 hX.q, ias23 S4, kx.xp.mapB, hvx, hox3, hEg, irN, nrA, nrM, nrE, reduceIte, reduceCtorEq, nrL]) | ((first | ((with_reducible first | apply WO_gT | apply WO_gF | apply WD_gT | apply WD_gF); exact rfl) | (with_reducible apply W_cond)); (simp only [↓pb, qbs, tb12, fx, w6, q6, lns23 hX.q, ias23 S4, kx.xp.mapB, hvx, hox3, hEg, irN, nrA, nrM, nrE, reduceIte, reduceCtorEq, nrL]; with_reducible exact rfl); all_goals (intro hc; (first | exact hcX hc | try simp only [hcs] at hc); try ((with_reducible first | apply woI | apply wdI); simp only [↓pb, ↓pd, qds, tb12, fx, w6, q6, lns23 hX.q, ias23 S4, kx.xp.mapB, hvx, hox3, hc, hEg, irN, nrA, nrM, nrE, reduceIte, reduceCtorEq, nrL]))) | (with_reducible first | refine W_seq ?_ | refine W_block ?_ | refine W_skip ?_ | refine W_ret ?_ | refine W_exit ?_ | apply blockK_exit) | ((with_reducible apply blockK_pass); (focus decide)) | fail)
  refine ⟨by omega, by simp only [↓pb, qbs, tb12, hEg, irN, nrA, nrM, nrE, reduceIte, reduceCtorEq, nrL]; exact congrArg _ (inc64 (by omega)), by focus exact frA, ?_⟩
  have nv : ∀ {n : Nat} {v : Value}, (n = 0 ∨ vblk v < H3.n) → n = 0 ∨ vblk v ≠ rr := fun q => by
   rcases q with q | q
   ·exact .inl q
   ·exact .inr (by omega)
  have hfs : s.Fire ≤ 50 := by
   rw [hs, EL.rest i1 (Nat.le_refl _)]
   exact hfi _ (getD_mem hi2)
  have md := StS.made hsk4 hfs r1 r2 r3
  refine ⟨L.set i1 ⟨z1, s.Dense, IntKind.i64.wrap (s.Fire + z2), z3⟩, G, EL.step hi2 (by rw [← hs]; exact md.1) md.2, by simp (disch := first | exact dA | fail) only [qcs, tb12, hEg, irN, nrA, nrM, nrE, reduceIte, reduceCtorEq, nrL], ?_⟩
  refine CpS.store (sl' := L.set i1 ⟨z1, s.Dense, IntKind.i64.wrap (s.Fire + z2), z3⟩) (CpS.feed (n0 := H.n) (u := uv x) (T := 85) kx (h' := (fh
      ((((((fh h1 H.n (btwS x 1 s.High)).upd (h1.n + 1) h1.n
               (AObj.cells [iv s.High, iv (btw x 1 s.High)] 3 Kd.ex)).upd
             (h1.n + 1) H.n (AObj.cells [uv y4] 85 Kd.ex)).upd
           (h1.n + 2) (h1.n + 1) (AObj.cells [Value.int IntKind.i64 0, iv y3] 3 Kd.ex)).upd
            (h1.n + 2) H.n (AObj.cells [uv y2] 85 Kd.ex)).upd
        (h1.n + 3) (h1.n + 2) (AObj.cells [iv s.Age, iv y1] 3 Kd.ex))
      H.n G)) ?_ fx (by omega) (by omega) (by omega) ?_) (by omega) (by omega) (by omega) (nv lva) (nv lvc) hvb g4 g5
  ·exact frA
  ·exact fun so => Sole.fr (N := h1.n) (X := [H.n]) (A := h1) (by exact frA) so (by omega)
 have e1n : i1 = M.g.Sorts.length := by omega
 have hF1' := Fr.trans' Fb hF1 (Nat.le_refl _) (by intro b hb hlt; simp at hb; omega)
 have EG := EL.g
 obtain ⟨b0, b1, lp, lq⟩ := EG.1.breaks t5 EG.2
 have ksp : (⟨M.g.Spots, L, M.g.Acts⟩ : Gnd).Spots.length = M.g.Spots.length := rfl
 have kso : (⟨M.g.Spots, L, M.g.Acts⟩ : Gnd).Sorts.length = M.g.Sorts.length := lL
 have hq23 := hX.q
 have hkk := kx.hk
 have hkx : (⟨M.g.Spots, L, M.g.Acts⟩ : Gnd).Spots.length = 0 ∨ SK h1 3 xa := kx.xk
 have hGg := kx.hG
 generalize (⟨M.g.Spots, L, M.g.Acts⟩ : Gnd) = k at hx1 b0 b1 lp lq ksp kso hkx
 have dp := decide_eq_true lp
 have dq := decide_eq_true lq
 clear lp lq EG
 have w4 := kx.g4
 have r4 : h1.rd H3.n = some [va, vb, vc] := by rw [rd_def, w4]; rfl
 have hbd := kx.bd
 have skf : ∀ h, Fr h1.n [] h1 h → (RG h va vb vc M.g ∧ (M.g.Spots.length = 0 ∨ SK h 3 va)) ∧ (RG h xa xb xc k ∧ (k.Spots.length = 0 ∨ SK h 3 xa)) := fun h F => by
  refine ⟨⟨hGg.fr F, ?_⟩, hx1.fr F, ?_⟩
  ·rcases hkk with q | q
   ·exact .inl q
   ·rcases hGg.p.lt with q2 | q2
    ·exact .inl q2
    ·exact .inr (q.fr F q2 (by simp))
  ·rcases hkx with q | q
   ·exact .inl q
   ·rcases hx1.p.lt with q2 | q2
    ·exact .inl q2
    ·exact .inr (q.fr F q2 (by simp))
 repeat' (first | ((with_reducible refine hK _ _ fun e2 hEn => ?_); clear hK K; simp only [lv12, forallC, forallL, and_true] at hEn; (try simp only [↓pb, qbs, tb12, w6, q6, w4, r4, lns23 hq23, hgo, hox, b0, b1, dp, dq, hEg, irN, nrA, nrM, nrE, reduceIte, reduceCtorEq, nrL] at hEn); clear hEg; (try clear eg); have hEg := hEn; clear hEn; rename Env => eg) | ((first | ((with_reducible first | apply oV_intro | apply oH_intro | apply oB_intro); (simp (disch := first | exact dA | fail) only [qcs, tb12, w6, q6, w4, r4, lns23 hq23, hgo, hox, b0, b1, dp, dq, hEg, irN, nrA, nrM, nrE, reduceIte, reduceCtorEq, nrL]; with_reducible exact rfl)) | ((with_reducible first | apply oblA_and | apply oblR_and | apply oblO_and); (focus exact obA)) | ((with_reducible apply WO_callE); (simp only [↓pb, qbs, tb12, w6, q6, w4, r4, lns23 hq23, hgo, hox, b0, b1, dp, dq, hEg, irN, nrA, nrM, nrE, reduceIte, reduceCtorEq, nrL]; (first | exact f46 _ _ _ (by exact topA) | exact ⟨_, _, Cl.or (hw _ (by exact topA)), rfl, rfl⟩))) | ((with_reducible apply WO_callV); (focus exact topA); (simp only [↓pb, qbs, tb12, w6, q6, w4, r4, lns23 hq23, hgo, hox, b0, b1, dp, dq, hEg, irN, nrA, nrM, nrE, reduceIte, reduceCtorEq, nrL]; (first | exact f29 _ _ _ M.g _ (by exact topA) (skf _ (by exact frA)).1.1 (skf _ (by exact frA)).1.2 (by omega) (by omega) | exact f29 _ _ _ k _ (by exact topA) (skf _ (by exact frA)).2.1 (skf _ (by exact frA)).2.2 (by omega) (by omega))); (intro Gq hq hJq; try simp only [upd_n, jn_n] at hq)) | (with_reducible first | refine W_regionF lv12 fun K hK => ?_ | refine W_drawnF lv12 fun K hK => ?_)); try simp only [↓pb, ↓pd, qds, tb12, w6, q6, w4, r4, lns23 hq23, hgo, hox, b0, b1, dp, dq, hEg, irN, nrA, nrM, nrE, reduceIte, reduceCtorEq, nrL]) | ((first | ((with_reducible first | apply WO_gT | apply WO_gF | apply WD_gT | apply WD_gF); exact rfl) | (with_reducible apply W_cond)); (simp only [↓pb, qbs, tb12, w6, q6, w4, r4, lns23 hq23, hgo, hox, b0, b1, dp, dq, hEg, irN, nrA, nrM, nrE, reduceIte, reduceCtorEq, nrL]; with_reducible exact rfl); all_goals (intro hc; (first | exact hcX hc | try simp only [hcs] at hc); try ((with_reducible first | apply woI | apply wdI); simp only [↓pb, ↓pd, qds, tb12, w6, q6, w4, r4, lns23 hq23, hgo, hox, b0, b1, dp, dq, hc, hEg, irN, nrA, nrM, nrE, reduceIte, reduceCtorEq, nrL]))) | (with_reducible first | refine W_seq ?_ | refine W_block ?_ | refine W_skip ?_ | refine W_ret ?_ | refine W_exit ?_ | apply blockK_exit) | ((with_reducible apply blockK_pass); (focus decide)) | fail)
 refine ⟨by first | exact .inl rfl | exact .inr rfl, ?_⟩
 rw [ret1 Try.results12]
 simp only [↓pb, qbs, tb12, rv_tmp, rv_cell, hEg, irN, nrA, nrM, nrE, reduceIte, reduceCtorEq, nrL]
 repeat ((with_reducible apply oV_intro); (simp (disch := first | exact dA | fail) only [qcs, tb12, hEg, irN, nrA, nrM, nrE, reduceIte, reduceCtorEq, nrL]; exact rfl))
 first | exact ⟨rfl, (by exact frA)⟩ | exact (by exact frA)
end Go.Proofs.Swa
set_option maxRecDepth 20000
set_option linter.unusedVariables false
set_option linter.unusedSimpArgs false
namespace Go.Proofs.Swa
open Go
open Nat renaming reduceAdd → nrA, reduceMul → nrM, reduceEqDiff → nrE, reduceLT → nrL
open Int renaming reduceToNat → irN
theorem SR.castZ {H : AHeap} {s m k : Nat} {v : Value} {c : List Value} (h : SR H s m v c) (e : m = k) : SR H s k v c := e ▸ h
end Go.Proofs.Swa
namespace Go.Proofs.Ytkjcijlaehflhaa
open Go.ChangeShapes Go.WideShapes Go.ChangeAt Go.RowKit
open Go.Proofs.Swa (SR ints iv Top Fr RoB RoOk)
theorem cells3 : Try.prog.cellsOf 3 = 1 := by kernel_rfl
theorem own5 : ownKnob Try.prog.godebug = none := by kernel_rfl
section
variable {H : Type} {enc : TypeId × Value → H} {P : Program}
theorem post_of_below {f : Func} {s : ChangeSpec} {apart fresh handsOn again : Bool} {W W' : World} {args : Array Value} {v : Value} {ds gs : List (DataW H)} {before pa pv : List MemPlace}
  (hW : DataW.Whole enc P f.params.toList s.vars apart W args.toList ds gs before)
  (hres : ∀ (b : Nat) (sp : Nat → Bool) (hd : Bool), DataW.TrodAll enc P W' b sp hd f.resultTypes.toList (v.resultList f.resultTypes.size) (s.fn H (ds ++ gs)).results [])
  (hargs : ∀ sp : Nat → Bool, (∀ p ∈ before, sp p.block = true) → DataW.TrodAll enc P W' 0 sp true f.params.toList args.toList (s.fn H (ds ++ gs)).args pa)
  (hvars : ∀ sp : Nat → Bool, (∀ p ∈ before, sp p.block = true) → DataW.TrodVars enc P W' sp s.vars (s.fn H (ds ++ gs)).vars pv)
  (hps : before = pa ++ pv) (hb : Below W.heap.size W W')
  (hok : ∀ (j : Nat) (t : TypeId) (r : Value), f.resultTypes[j]? = some t → (v.resultList f.resultTypes.size)[j]? = some r → Value.okWide P W' .any 0 t r) :
  s.post enc P f apart fresh handsOn again W args v W' := by
 have hlt : ∀ p ∈ before, p.block < W.heap.size := fun p hp => hW.lt p hp
 have hold : ∀ p ∈ before, (fun b => decide (b < W.heap.size)) p.block = true := fun p hp => by simpa using hlt p hp
 refine ⟨ds, gs, before, [], pa, pv, hW, hres _ _ _, hargs _ hold, hvars _ hold, World.keptBut_mono (fun p hp => ⟨hp, ?_⟩) (hb.frame (· ∈ before)), fun _ => ?_⟩
 ·rw [hps, List.mem_append] at hp
  exact Or.inr hp
 ·obtain ⟨_, _, _, _, _, hz, hn⟩ := hW
  refine ⟨hok, _, _, ([] ++ pa) ++ pv, ⟨[] ++ pa, pv, trodAll_append (hargs _ (fun _ _ => rfl)) (hres _ _ _), hvars _ (fun _ _ => rfl), rfl, ?_, ?_⟩, ?_⟩
  ·intro b off hp
   have hin : MemPlace.cell b off ∈ before := by rw [hps]; simpa using hp
   rw [hb.frozen (hlt _ hin)]
   exact hz b off hin
  ·intro ha
   have := hn ha
   rw [hps] at this
   simpa using this
  ·intro p hp _
   rw [hps]
   simpa using hp
end
def LawInts (f : FuncId) : Prop := ∀ (vl : Value) (l : List Int) (H : Swa.AHeap), Top H → SR H 1 l.length vl (ints l) → l.length ≤ 9223372036854775807 → ∃ v H', Swa.Cl Try.prog (Swa.OrC Try.prog) 0 (.fn f) #[vl] H v H' ∧ v = .bool true ∧ Fr H.n [] H H'
theorem ints_call {f : FuncId} (hf : LawInts f) {H : Type} {enc : TypeId × Value → H} {W : World} {v0 : Value} {d0 : DataW H} {p0 : List MemPlace} {base0 : Nat} (hv : Value.okWide Try.prog W .any base0 31 v0) (h0 : DataW.Trod enc Try.prog W 0 (fun _ => true) true 31 v0 d0 p0) :
  Calls Try.prog f #[v0] W fun e W' => e = .returned (.bool true) ∧ Below W.heap.size W W' := by
 have hmix : Try.prog.follows .mixedOrders = true := by kernel_rfl
 obtain ⟨a0, len, cap, rfl⟩ := okWide_slice Try.underlying31 hv
 obtain ⟨fuel, hf0⟩ := h0
 rcases open_ints Try.underlying31 Try.underlying3 cells3 hf0 with ⟨hcs, hx⟩ | ⟨a, len', cap', zs, hcs, _, hl, hm, hz, hx, hcell, hwz⟩
 ·simp [Value.cells] at hcs
  obtain ⟨rfl, rfl, rfl⟩ := hcs
  refine Swa.law_callsC hmix (L := []) (by simp) (Swa.ARel.one (.flat rfl)) ?_
  exact hf _ [] _ (Swa.top_heapOf _) (Swa.GS.nul (s := 1)).sr (by simp)
 ·simp [Value.cells] at hcs
  obtain ⟨rfl, rfl, rfl⟩ := hcs
  simp only [if_true] at hz
  unfold maxLen at hm
  by_cases hc : cap = 0
  ·subst hc
   have hl0 : len = 0 := by omega
   subst hl0
   refine Swa.law_callsC hmix (L := []) (by simp) (args := #[.slice (some ⟨0, 1, none⟩) 0 0]) (Swa.ARel.one (.empty (by omega))) ?_
   exact hf _ [] _ (Swa.top_heapOf _) ⟨.inr ⟨_, _, _, rfl, Nat.le_refl _⟩, rfl, .inl rfl, .inl rfl⟩ (by simp)
  ·have hlen : (ints zs).length = zs.length := Swa.ints_len zs
   have hr := Swa.roOk_of (w := W) (a := a) (cs := ints zs) (T := 3) (by omega) (fun i hi => by
    rw [hcell i (by omega)]
    have : (ints zs)[i] = iv (zs.getD i 0) := by
     have hi2 : i < zs.length := by omega
     simp [ints, hi2]
    rw [this]
    exact ⟨rfl, rfl⟩)
   obtain ⟨b, off, spot⟩ := a
   obtain ⟨hr, hsp⟩ := hr
   dsimp only at hsp
   subst hsp
   refine Swa.law_callsC hmix (L := [⟨b, off, ints zs, 3⟩]) (by intro r hrm; rw [List.mem_singleton.1 hrm]; exact hr) (args := #[.slice (some ⟨0, 0, none⟩) len cap]) (Swa.ARel.one ?_) ?_
   ·have := Swa.VRel.slice (ρ := Swa.renOf W [⟨b, off, ints zs, 3⟩]) (b := 0) (o := 0) (n := len) (c := cap) (c' := cap) (im := ⟨b, off, Swa.szOf W b, true, false, 0, 0⟩) rfl (.inr ⟨rfl, rfl⟩) hl
    exact this
   ·have hlt : (zs.take len).length = len := by rw [List.length_take]; omega
    have S : SR (Swa.heapOf [⟨b, off, ints zs, 3⟩]) 1 len (.slice (some ⟨0, 0, none⟩) len cap) (ints (zs.take len)) := by
     refine ⟨.inr ⟨_, _, _, rfl, hl⟩, ?_, .inr ⟨ints zs, rfl, ?_, ?_⟩, .inr (Nat.lt_succ_self _)⟩
     ·rw [Swa.ints_len, hlt, Nat.mul_one]
     ·show 0 + _ ≤ _
      rw [hlen]; omega
     ·show ((ints zs).drop 0).take _ = _
      rw [List.drop_zero, Nat.mul_one]
      unfold ints
      rw [← List.map_take]
    exact hf _ (zs.take len) _ (Swa.top_heapOf _) (S.castZ hlt.symm) (by omega)
end Go.Proofs.Ytkjcijlaehflhaa
set_option linter.unusedVariables false
set_option linter.unusedSimpArgs false
namespace Go.Proofs.Swa
open Go
open Nat renaming reduceAdd → nrA, reduceMul → nrM, reduceEqDiff → nrE, reduceLT → nrL
open Int renaming reduceToNat → irN
set_option maxRecDepth 1000000 in
/-- The chapter's examples, by a run that computes. -/
theorem awake_run : topX Try.prog noO 200 15 [] isT = true := by kernel_rfl
theorem awake_body : Bodied Try.prog 15 := ⟨_, _, Try.func15, rfl, by kernel_rfl⟩
theorem awake_or (H : AHeap) : OrC Try.prog 15 #[] H (.bool true) H := orC_run (by kernel_rfl) awake_body awake_run H
end Go.Proofs.Swa
set_option maxRecDepth 20000
set_option linter.unusedVariables false
set_option linter.unusedSimpArgs false
namespace Go.Proofs.Swa
open Go
open Nat renaming reduceAdd → nrA, reduceMul → nrM, reduceEqDiff → nrE, reduceLT → nrL
open Int renaming reduceToNat → irN
theorem fire_in (y x : Int) : either y [0, below x 6] ≤ 50 := by
 have c0 := below_spec x 6 (by omega)
 have c1 := c0.2.1 (by omega)
 have c2 := c0.1
 clear c0
 generalize below x 6 = z at c1 c2
 have e := either2 y 0 z
 generalize either y [0, z] = w at e
 omega
theorem goSrt_fire (mass hours : Int) : ∀ (n : Nat) (x : Int) (l : List Srt), (∀ s, s ∈ l → s.Fire ≤ 50) → ∀ s, s ∈ (goSrt mass hours n x l).1 → s.Fire ≤ 50
 | 0, x, l, h => h
 | n + 1, x, l, h => by
  rw [goSrt]
  refine goSrt_fire mass hours n _ _ fun s hs => ?_
  rcases List.mem_append.1 hs with hs | hs
  ·exact h s hs
  ·rw [List.mem_singleton.1 hs]; exact fire_in _ _
theorem ground_fire (x spots sorts acts mass hours : Int) : ∀ s, s ∈ (groundOf x spots sorts acts mass hours).g.Sorts → s.Fire ≤ 50 := by
 unfold groundOf
 exact goSrt_fire _ _ _ _ _ fun s hs => by cases hs
def stX (l : List Int) : Int := eitherS (feedOf l) [4, 40]
def stMade (l : List Int) : Made2 := groundOf (stX l) 3 2 6 (either (feedOf l) [4, 40]) 16
theorem stricter_goes' (vl : Value) (l : List Int) (H : AHeap) (hT : Top H) (S : SR H 1 l.length vl (ints l)) (hl : l.length ≤ 9223372036854775807) (M : Made2) (hmade : groundOf (eitherS (feedOf l) [4, 40]) 3 2 6 (either (feedOf l) [4, 40]) 16 = M) (T : True5 M.g M.truth) (hf : ∀ s, s ∈ M.g.Sorts → s.Fire ≤ 50) : ∃ v H', C5 (.fn 12) #[vl] H v H' ∧ v = .bool true ∧ Fr H.n [] H H' :=
 f12 vl l H hT S hl M hmade T hf fun H _ => awake_or H
theorem stricter_true (l : List Int) : True5 (stMade l).g (stMade l).truth := by
 have hm := either2 (feedOf l) 4 40
 exact ground_true (x := stX l) (spots := 3) (sorts := 2) (acts := 6) (mass := either (feedOf l) [4, 40]) (hours := 16) (by omega) (by omega) (by omega) (by omega) (by omega)
theorem stricter_fire (l : List Int) : ∀ s, s ∈ (stMade l).g.Sorts → s.Fire ≤ 50 := ground_fire _ _ _ _ _ _
theorem stricter_goes (vl : Value) (l : List Int) (H : AHeap) (hT : Top H) (S : SR H 1 l.length vl (ints l)) (hl : l.length ≤ 9223372036854775807) : ∃ v H', C5 (.fn 12) #[vl] H v H' ∧ v = .bool true ∧ Fr H.n [] H H' :=
 stricter_goes' vl l H hT S hl (stMade l) rfl (stricter_true l) (stricter_fire l)
end Go.Proofs.Swa
namespace Go.Proofs.Ytkjcijlaehflhaa
open Go.ChangeShapes Go.WideShapes Go.ChangeAt Go.RowKit
open Go.Proofs.Swa (SR ints iv Top Fr RoB RoOk)
theorem law12 : LawInts 12 := fun vl l H hT S hl => Swa.stricter_goes vl l H hT S hl
set_option maxRecDepth 100000 in
theorem pileStricter_lifted (os : Os) (started : os.Started) (H : Type) (enc : TypeId × Value → H) :
  ReturnsInHanded {} Try.checked os 12 .any (Rows.pileStricterSpec.pre6 enc Try.prog Try.f12 Rows.pileStricterRow.domain false) (Rows.pileStricterSpec.post enc Try.prog Try.f12 false true false false) := by
 refine returnsInHanded_of_change (C := Try.checked) own5 started (by kernel_rfl) Try.func12
  (ChangeSpec.witness6 (enc := enc) (C := Try.checked) false ⟨#[], #[.slice none 0 0], []⟩ 8 (by kernel_rfl) (by kernel_rfl) (by kernel_rfl) (by kernel_rfl)) ?_
 intro W base args ds gs before hval0 hW hcnd _
 have hval : ∀ (j : Nat) t v, Try.f12.params[j]? = some t → args[j]? = some v → Value.okWide Try.prog W .any base t v := hval0
 have hW' := hW
 have hlt := hW.lt
 obtain ⟨p, q, hA0, hV, rfl, hfz, hnd⟩ := hW
 have hA : DataW.TrodAll enc Try.prog W 0 (fun _ => true) true Try.f12.params.toList args.toList ds p := hA0
 rw [Try.params12] at hA hval
 obtain ⟨v0, vs0, d0, ds0, p0, q0, hargs, rfl, rfl, h0, r0⟩ := trodAll_cons hA
 obtain ⟨rfl, rfl, rfl⟩ := trodAll_nil r0
 obtain rfl : args = #[v0] := by cases args; simp_all
 obtain ⟨rfl, rfl⟩ := trodVars_none hV
 clear hA0 hval0
 simp only [List.append_nil] at hW' hlt
 refine (ints_call law12 (hval 0 31 v0 rfl rfl) h0).mono fun e W' ⟨he, hb⟩ => ?_
 subst he
 have again : ∀ sp : Nat → Bool, (∀ x ∈ p0, sp x.block = true) → DataW.Trod enc Try.prog W' 0 sp true 31 v0 d0 p0 := fun sp hsp =>
  WideElems.Trod_stays (by kernel_rfl) (by kernel_rfl) (of_decide_eq_true (by kernel_rfl)) h0 (fun x hx => hb.same (hlt x hx)) hsp
 exact ⟨_, rfl, post_of_below (pa := p0) (pv := []) hW' (fun _ _ _ => (trodAll_cons_mk (shut_bool Try.underlying4 _) trodAll_mk0)) (fun sp hsp => trodAll_mk1 (again sp hsp)) (fun _ _ => rfl) (by simp) hb (ok_one (by kernel_rfl) rfl (okWide_bool_mk Try.underlying4 _))⟩
theorem pileStricter_holds : Rows.PileStricterSaid :=
 OpenClaim.holds_of_wide 12 Try.f12 rfl rfl rfl rfl rfl rfl rfl ⟨rfl, rfl, rfl, rfl, rfl⟩ rfl rfl rfl rfl rfl (by kernel_rfl) Try.func12 (by kernel_rfl)
  (of_decide_eq_true (by kernel_rfl)) (by unfold Func.isWrapper; first | (rw [if_pos (by decide +kernel)]; kernel_rfl) | (rw [if_neg (by decide +kernel)]; exact ⟨rfl, rfl⟩))
  (fun os started H enc _ => pileStricter_lifted os started H enc)
end Go.Proofs.Ytkjcijlaehflhaa
