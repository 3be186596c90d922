/- PileRoom: for every list of numbers the law answers true, panics nowhere and leaves its argument as it was; no condition. -/
import Derived.Test.YtkjcijlaehflhaaP12
import Derived.Test.YtkjcijlaehflhaaRows
import Derived.ProofKit
import Derived.OpenShut
import Derived.JoinedCond
import Derived.Below
import Derived.ChangeSame
set_option maxRecDepth 20000
set_option linter.unusedVariables false
set_option linter.unusedSimpArgs false
namespace Go.Proofs.Swa
open Go
open Nat renaming reduceAdd → nrA, reduceMul → nrM, reduceEqDiff → nrE, reduceLT → nrL
open Int renaming reduceToNat → irN
attribute [local congr] WO_congr oV_congr oB_congr oH_congr WD_congr oblO_congr oblA_congr oblR_congr
theorem SR.offR {H : AHeap} {s n : Nat} {v : Value} {c : List Value} {b : Nat} {u : Value} {T : TypeId} (h : SR H s n v c) (hg : H.get b = .cells [u] T .ex) (hs : 2 ≤ s) : n = 0 ∨ vblk v ∉ [b] := by
  by_cases hn : n = 0
  · exact .inl hn
  · right
    intro hm
    have hm : vblk v = b := List.mem_singleton.1 hm
    rcases h.cells with q | ⟨d, h1, h2, _⟩
    · exact hn q
    · rw [hm, rd_def, hg] at h1
      cases h1
      have : voff v + n * s ≤ 1 := h2
      have : 1 * 2 ≤ n * s := Nat.mul_le_mul (by omega) hs
      omega
theorem RG.frR {N : Nat} {A B : AHeap} {b : Nat} {u : Value} {T : TypeId} (hF : Fr N [b] A B) (hg : A.get b = .cells [u] T .ex) {va vb vc : Value} {g : Gnd} (h : RG A va vb vc g) : RG B va vb vc g :=
  ⟨h.p.fr hF (h.p.offR hg (by omega)), h.q.fr hF (h.q.offR hg (by omega)), h.r.fr hF (h.r.offR hg (by omega))⟩
theorem eith2 (x a b : Int) : either x [a, b] = a ∨ either x [a, b] = b := either2 x a b
theorem SR.offU {H : AHeap} {l : List Int} {v : Value} {b : Nat} {x : Int} {T : TypeId} (h : SR H 1 l.length v (ints l)) (hg : H.get b = .cells [uv x] T .ex) : l.length = 0 ∨ vblk v ∉ [b] := by
  by_cases hn : l.length = 0
  · exact .inl hn
  · right
    intro hm
    have hm : vblk v = b := List.mem_singleton.1 hm
    rcases h.cells with q | ⟨d, h1, h2, h3⟩
    · exact hn q
    · rw [hm, rd_def, hg] at h1
      cases h1
      cases l with
      | nil => exact hn rfl
      | cons y l =>
        have h2 : voff v + (l.length + 1) * 1 ≤ 1 := h2
        have e0 : voff v = 0 := by omega
        have e1 : l = [] := List.eq_nil_of_length_eq_zero (by omega)
        subst e1
        rw [e0] at h3
        cases h3
structure RmF (M : Made2) (n0 B4 B6 rr : Nat) (va vb vc vt xa xb xc : Value) (i : Nat) (h : AHeap) : Prop where
  feed : h.get n0 = .cells [uv M.x] 85 .ex
  g4 : h.get B4 = .cells [va, vb, vc] 26 .ex
  g6 : h.get B6 = .cells [xa, xb, xc] 26 .ex
  hG : RG h va vb vc M.g
  hk : M.g.Spots.length = 0 ∨ SK h 3 va
  tr : SR h 1 M.truth.length vt (ints M.truth)
  xp : SR h 3 M.g.Spots.length xa (M.g.Spots.flatMap eSpo)
  xq : SR h 4 M.g.Sorts.length xb (M.g.Sorts.flatMap eSrt)
  xk : M.g.Spots.length = 0 ∨ SK h 3 xa
  bd : n0 < h.n ∧ B4 < h.n ∧ B6 < h.n ∧ (M.g.Acts.length = 0 ∨ rr < h.n)
  xr : M.g.Acts.length = 0 ∨ (h.get rr = .cells ((exA M.g.Acts M.truth i).flatMap eAct) 30 (.gr rr 6 true) ∧ Sole h rr)
theorem RmF.fr {M : Made2} {n0 B4 B6 rr : Nat} {va vb vc vt xa xb xc : Value} {i : Nat} {h h' : AHeap} (k : RmF M n0 B4 B6 rr va vb vc vt xa xb xc i h) (F : Fr h.n [] h h') : RmF M n0 B4 B6 rr va vb vc vt xa xb xc i h' := by
  obtain ⟨b1, b2, b3, b4⟩ := k.bd
  have hn := F.n
  refine ⟨by rw [F.old _ b1 (by simp)]; exact k.feed, by rw [F.old _ b2 (by simp)]; exact k.g4, by rw [F.old _ b3 (by simp)]; exact k.g6, k.hG.fr F, ?_, k.tr.fr0 F, k.xp.fr0 F, k.xq.fr0 F, ?_, by omega, ?_⟩
  · rcases k.hk with q | q
    · exact .inl q
    · rcases k.hG.p.lt with q2 | q2
      · exact .inl q2
      · exact .inr (q.fr F q2 (by simp))
  · rcases k.xk with q | q
    · exact .inl q
    · rcases k.xp.lt with q2 | q2
      · exact .inl q2
      · exact .inr (q.fr F q2 (by simp))
  · rcases k.xr with q | ⟨q1, q2⟩
    · exact .inl q
    · rcases b4 with q3 | q3
      · exact .inl q3
      · exact .inr ⟨by rw [F.old _ q3 (by simp)]; exact q1, q2.fr F q3⟩
theorem RmF.store {M : Made2} {n0 B4 B6 rr : Nat} {va vb vc vt xa xb xc : Value} {i : Nat} {h : AHeap} (k : RmF M n0 B4 B6 rr va vb vc vt xa xb xc i h) (hi : i < M.g.Acts.length) (o1 : rr ≠ n0) (o2 : rr ≠ B4) (o3 : rr ≠ B6) (o4 : M.g.Spots.length = 0 ∨ vblk va ≠ rr) (o5 : M.g.Sorts.length = 0 ∨ vblk vb ≠ rr) (o6 : vblk vc ≠ rr) (o7 : vblk vt ≠ rr)
    (o8 : M.g.Spots.length = 0 ∨ vblk xa ≠ rr) (o9 : M.g.Sorts.length = 0 ∨ vblk xb ≠ rr) : RmF M n0 B4 B6 rr va vb vc vt xa xb xc (i + 1) (h.upd h.n rr (.cells ((exA M.g.Acts M.truth (i + 1)).flatMap eAct) 30 (.gr rr 6 true))) := by
  obtain ⟨b1, b2, b3, b4⟩ := k.bd
  rcases k.xr with q | ⟨q1, q2⟩
  · omega
  have F : Fr 0 [rr] h (h.upd h.n rr (.cells ((exA M.g.Acts M.truth (i + 1)).flatMap eAct) 30 (.gr rr 6 true))) := (Fr.refl h).upd (Nat.le_refl _) (by omega) (.inr (by simp)) ⟨Nat.zero_le _, Nat.le_refl _⟩
  have nm : ∀ {n : Nat} {v : Value}, (n = 0 ∨ vblk v ≠ rr) → n = 0 ∨ vblk v ∉ [rr] := fun q => by
    rcases q with q | q
    · exact .inl q
    · right; simpa using q
  refine ⟨by rw [upd_get_ne (Ne.symm o1)]; exact k.feed, by rw [upd_get_ne (Ne.symm o2)]; exact k.g4, by rw [upd_get_ne (Ne.symm o3)]; exact k.g6, ⟨k.hG.p.fr F (nm o4), k.hG.q.fr F (nm o5), k.hG.r.fr F (.inr (by simpa using o6))⟩, ?_, k.tr.fr F (.inr (by simpa using o7)), k.xp.fr F (nm o8), k.xq.fr F (nm o9), ?_, ⟨b1, b2, b3, b4⟩, .inr ⟨upd_get_same, ?_⟩⟩
  · rcases k.hk with q | ⟨d, T, kk, e1, e2⟩
    · exact .inl q
    · rcases o4 with o4 | o4
      · exact .inl o4
      · exact .inr ⟨d, T, kk, (upd_get_ne o4).trans e1, e2⟩
  · rcases k.xk with q | ⟨d, T, kk, e1, e2⟩
    · exact .inl q
    · rcases o8 with o8 | o8
      · exact .inl o8
      · exact .inr ⟨d, T, kk, (upd_get_ne o8).trans e1, e2⟩
  · exact q2.upd fun _ _ _ _ _ => rfl
structure RmG (M : Made2) (B4 B6 : Nat) (va vb vc vt xa xb xc : Value) (h : AHeap) : Prop where
  g4 : h.get B4 = .cells [va, vb, vc] 26 .ex
  g6 : h.get B6 = .cells [xa, xb, xc] 26 .ex
  hG : RG h va vb vc M.g
  hk : M.g.Spots.length = 0 ∨ SK h 3 va
  tr : SR h 1 M.truth.length vt (ints M.truth)
  hX : RG h xa xb xc (exG M.g M.truth)
  xk : M.g.Spots.length = 0 ∨ SK h 3 xa
  bd : B4 < h.n ∧ B6 < h.n
theorem RmG.fr {M : Made2} {B4 B6 : Nat} {va vb vc vt xa xb xc : Value} {h h' : AHeap} {N : Nat} (k : RmG M B4 B6 va vb vc vt xa xb xc h) (F : Fr N [] h h') : RmG M B4 B6 va vb vc vt xa xb xc h' := by
  obtain ⟨b2, b3⟩ := k.bd
  have hn := F.n
  refine ⟨by rw [F.old _ b2 (by simp)]; exact k.g4, by rw [F.old _ b3 (by simp)]; exact k.g6, k.hG.fr F, ?_, k.tr.fr0 F, k.hX.fr F, ?_, by omega⟩
  · rcases k.hk with q | q
    · exact .inl q
    · rcases k.hG.p.lt with q2 | q2
      · exact .inl q2
      · exact .inr (q.fr F q2 (by simp))
  · rcases k.xk with q | q
    · exact .inl q
    · rcases k.hX.p.lt with q2 | q2
      · exact .inl q2
      · exact .inr (q.fr F q2 (by simp))
theorem RmF.done {M : Made2} {n0 B4 B6 rr : Nat} {va vb vc vt xa xb xc : Value} {h : AHeap} (k : RmF M n0 B4 B6 rr va vb vc vt xa xb xc M.g.Acts.length h) (o2 : n0 ≠ B4) (o3 : n0 ≠ B6) (hXr : SR h 6 M.g.Acts.length xc ((exA M.g.Acts M.truth M.g.Acts.length).flatMap eAct)) (u : Value) :
    RmG M B4 B6 va vb vc vt xa xb xc (h.upd h.n n0 (.cells [u] 85 .ex)) := by
  obtain ⟨b1, b2, b3, b4⟩ := k.bd
  have F : Fr 0 [n0] h (h.upd h.n n0 (.cells [u] 85 .ex)) := (Fr.refl h).upd (Nat.le_refl _) b1 (.inr (by simp)) trivial
  refine ⟨by rw [upd_get_ne (Ne.symm o2)]; exact k.g4, by rw [upd_get_ne (Ne.symm o3)]; exact k.g6, k.hG.frR F k.feed, ?_, k.tr.fr F (k.tr.offU k.feed), ⟨k.xp.fr F (k.xp.offR k.feed (by omega)), k.xq.fr F (k.xq.offR k.feed (by omega)), ?_⟩, ?_, b2, b3⟩
  · rcases k.hk with q | q
    · exact .inl q
    · rcases k.hG.p.lt with q2 | q2
      · exact .inl q2
      · rcases k.hG.p.offR k.feed (by omega) with q3 | q3
        · exact .inl q3
        · exact .inr (q.fr F q2 q3)
  · have := hXr.fr F (hXr.offR k.feed (by omega))
    show SR _ 6 (exA M.g.Acts M.truth M.g.Acts.length).length xc _
    rw [exA_len]
    exact this
  · rcases k.xk with q | q
    · exact .inl q
    · rcases k.xp.lt with q2 | q2
      · exact .inl q2
      · rcases k.xp.offR k.feed (by omega) with q3 | q3
        · exact .inl q3
        · exact .inr (q.fr F q2 q3)
structure RmH (M : Made2) (B4 B15 : Nat) (va vb vc dl ds vr vx : Value) (d : DayS) (rl xl : List Int) (h : AHeap) : Prop where
  g4 : h.get B4 = .cells [va, vb, vc] 26 .ex
  g15 : h.get B15 = .cells [dl, ds] 61 .ex
  hG : RG h va vb vc M.g
  sl : SR h 1 d.left.length dl (ints d.left)
  ss : SR h 1 d.last.length ds (ints d.last)
  sr : SR h 1 rl.length vr (ints rl)
  sx : SR h 1 xl.length vx (ints xl)
  bd : B4 < h.n ∧ B15 < h.n
theorem RmH.fr {M : Made2} {B4 B15 : Nat} {va vb vc dl ds vr vx : Value} {d : DayS} {rl xl : List Int} {h h' : AHeap} {N : Nat} (k : RmH M B4 B15 va vb vc dl ds vr vx d rl xl h) (F : Fr N [] h h') : RmH M B4 B15 va vb vc dl ds vr vx d rl xl h' := by
  obtain ⟨b2, b3⟩ := k.bd
  have hn := F.n
  exact ⟨by rw [F.old _ b2 (by simp)]; exact k.g4, by rw [F.old _ b3 (by simp)]; exact k.g15, k.hG.fr F, k.sl.fr0 F, k.ss.fr0 F, k.sr.fr0 F, k.sx.fr0 F, by omega⟩
theorem exG_spots (g : Gnd) (t : List Int) : (exG g t).Spots.length = g.Spots.length := rfl
theorem exG_sorts (g : Gnd) (t : List Int) : (exG g t).Sorts.length = g.Sorts.length := rfl
def rmX (l : List Int) : Int := eitherS (feedOf l) [4, 40]
def rmMade (l : List Int) : Made2 := groundOf (rmX l) 4 3 7 (either (feedOf l) [4, 40]) 16
def rmHour (l : List Int) : Int := btw (rmMade l).x 16 20
def rmKind (l : List Int) : Int := below (btwS (rmMade l).x 16 20) (rmMade l).g.Sorts.length
def rmMass (l : List Int) : Int := btw (belowS (btwS (rmMade l).x 16 20) (rmMade l).g.Sorts.length) 1 40
set_option maxHeartbeats 4000000 in
theorem f9 (vl : Value) (l : List Int) (H : AHeap) (hT : Top H) (S : SR H 1 l.length vl (ints l)) (hl : l.length ≤ 9223372036854775807) (M : Made2) (hmade : groundOf (eitherS (feedOf l) [4, 40]) 4 3 7 (either (feedOf l) [4, 40]) 16 = M) (hour kind mass : Int) (hhour : btw M.x 16 20 = hour) (hkind : below (btwS M.x 16 20) M.g.Sorts.length = kind) (hmass : btw (belowS (btwS M.x 16 20) M.g.Sorts.length) 1 40 = mass)
    (t5 : True5 M.g M.truth) (ok : RoomOk M.g M.truth hour kind mass)
    (hk : 0 ≤ kind ∧ kind < M.g.Sorts.length)
    (hw : ∀ H, Top H → OrC Try.prog 15 #[] H (.bool true) H) : ∃ v H', C5 (.fn 9) #[vl] H v H' ∧ v = .bool true ∧ Fr H.n [] H H' := by
  refine Cl.ofW Try.func9 rfl (by kernel_rfl) (by rw [Try.ntmps9]; exact Nat.le_of_ble_eq_true rfl) (by kernel_rfl) ?_
  have hEg : True := trivial
  refine gcW [0] ?_
  intro eg hEn
  simp only [forallC, forallL, and_true] at hEn
  try simp only [↓pb, qbs, tb9, hEg, irN, nrA, nrM, nrE, reduceIte, reduceCtorEq, nrL] at hEn
  replace hEg := hEn; clear hEn
  repeat' (first | ((with_reducible refine hK _ _ fun e2 hEn => ?_); clear hK K; simp only [lv9, forallC, forallL, and_true] at hEn; (try simp only [↓pb, qbs, tb9, hEg, irN, nrA, nrM, nrE, reduceIte, reduceCtorEq, nrL] at hEn); clear hEg; (try clear eg); have hEg := hEn; clear hEn; rename Env => eg) | ((with_reducible first | apply oV_intro | apply oH_intro | apply oB_intro); (simp (disch := first | exact dA | fail) only [qcs, tb9, hEg, irN, nrA, nrM, nrE, reduceIte, reduceCtorEq, nrL]; with_reducible exact rfl); try simp only [↓pb, ↓pd, qds, tb9, hEg, irN, nrA, nrM, nrE, reduceIte, reduceCtorEq, nrL]) | ((with_reducible first | apply oblA_and | apply oblR_and | apply oblO_and); (focus exact obA); try simp only [↓pb, ↓pd, qds, tb9, hEg, irN, nrA, nrM, nrE, reduceIte, reduceCtorEq, nrL]) | ((with_reducible first | apply WO_gT | apply WO_gF | apply WD_gT | apply WD_gF); exact rfl; (simp only [↓pb, qbs, tb9, hEg, irN, nrA, nrM, nrE, reduceIte, reduceCtorEq, nrL]; with_reducible exact rfl); all_goals (intro hc; (first | exact absurd hc (by decide) | (simp only [hcs] at hc; first | contradiction | (exfalso; omega) | skip) | contradiction | skip); try simp only [↓pb, ↓pd, qds, tb9, hc, hEg, irN, nrA, nrM, nrE, reduceIte, reduceCtorEq, nrL])) | ((with_reducible apply WO_callE); (simp only [↓pb, qbs, tb9, hEg, irN, nrA, nrM, nrE, reduceIte, reduceCtorEq, nrL]; (first | exact f16 _ l _ hT S hl | exact f18 _ _ _ [_, _] _ (by simp (disch := first | exact dA | fail) only [qcs, tb9, hEg, irN, nrA, nrM, nrE, reduceIte, reduceCtorEq, nrL]; rfl) (SR.new rfl) (.inl (by simp only [vblk]; omega)) (by simp))); try simp only [↓pb, ↓pd, qds, tb9, hEg, irN, nrA, nrM, nrE, reduceIte, reduceCtorEq, nrL]) | (with_reducible first | refine W_seq ?_ | refine W_block ?_ | refine W_scope ?_ | refine W_skip ?_ | refine W_ret ?_ | refine W_exit ?_ | refine W_label ?_ | apply blockK_exit) | ((with_reducible apply blockK_pass); (focus decide)) | ((with_reducible refine W_regionF lv9 fun K hK => ?_); try simp only [↓pb, qbs, tb9, hEg, irN, nrA, nrM, nrE, reduceIte, reduceCtorEq, nrL]) | ((with_reducible refine W_drawnF lv9 fun K hK => ?_); try simp only [↓pb, ↓pd, qds, tb9, hEg, irN, nrA, nrM, nrE, reduceIte, reduceCtorEq, nrL]) | ((with_reducible apply W_cond); (simp only [↓pb, qbs, tb9, hEg, irN, nrA, nrM, nrE, reduceIte, reduceCtorEq, nrL]; with_reducible exact rfl); all_goals (intro hc; (first | exact absurd hc (by decide) | (simp only [hcs] at hc; first | contradiction | (exfalso; omega) | skip) | contradiction | skip))) | fail)
  have hm := eith2 (feedOf l) 4 40
  refine WO_callX (X := [H.n]) (by simp only [↓pb, qbs, tb9, hEg, irN, nrA, nrM, nrE, reduceIte, reduceCtorEq, nrL]; exact f17 H.n (eitherS (feedOf l) [4, 40]) 4 3 7 (either (feedOf l) [4, 40]) 16 _ (by exact topA) (by simp (disch := first | exact dA | fail) only [qcs, tb9, hEg, irN, nrA, nrM, nrE, reduceIte, reduceCtorEq, nrL]) (by simp only [↓pb, qbs, tb9, hEg, irN, nrA, nrM, nrE, reduceIte, reduceCtorEq, nrL]; omega) (by omega) (by omega) (by omega) (by omega) (by omega)) ?_
  rintro v3 H3 ⟨va, vb, vc, vt, gg, gt, rfl, hG, GA, hgg, GTr, hx3, hsk⟩ hF3
  have hT3 : Top H3 := hF3.top (by exact topA)
  rw [hmade] at hG hx3 GA GTr hsk
  have hF03 : Fr H.n [] H H3 := by
    refine Fr.trans' (A := H) ?_ hF3 (by simp only [↓pb, qbs, tb9, hEg, irN, nrA, nrM, nrE, reduceIte, reduceCtorEq, nrL]; omega) (by intro b hb hlt; simp at hb; omega)
    exact frA
  have hn3 := hF3.n
  simp only [upd_n, jn_n] at hn3
  have hgo := hG.one
  have ho4 := GTr.one
  have okp := t5.ok.spots
  have okq := t5.ok.sorts
  have oka := t5.ok.acts
  simp only [↓pb, ↓pd, qds, tb9, hx3, hgo, ho4, hEg, irN, nrA, nrM, nrE, reduceIte, reduceCtorEq, nrL]
  repeat' (first | ((with_reducible refine hK _ _ fun e2 hEn => ?_); clear hK K; simp only [lv9, forallC, forallL, and_true] at hEn; (try simp only [↓pb, qbs, tb9, hx3, hgo, ho4, hEg, irN, nrA, nrM, nrE, reduceIte, reduceCtorEq, nrL] at hEn); clear hEg; (try clear eg); have hEg := hEn; clear hEn; rename Env => eg) | ((with_reducible first | apply oV_intro | apply oH_intro | apply oB_intro); (simp (disch := first | exact dA | fail) only [qcs, tb9, hx3, hgo, ho4, hEg, irN, nrA, nrM, nrE, reduceIte, reduceCtorEq, nrL]; with_reducible exact rfl); try simp only [↓pb, ↓pd, qds, tb9, hx3, hgo, ho4, hEg, irN, nrA, nrM, nrE, reduceIte, reduceCtorEq, nrL]) | ((with_reducible first | apply oblA_and | apply oblR_and | apply oblO_and); (focus exact obA); try simp only [↓pb, ↓pd, qds, tb9, hx3, hgo, ho4, hEg, irN, nrA, nrM, nrE, reduceIte, reduceCtorEq, nrL]) | ((with_reducible first | apply WO_gT | apply WO_gF | apply WD_gT | apply WD_gF); exact rfl; (simp only [↓pb, qbs, tb9, hx3, hgo, ho4, hEg, irN, nrA, nrM, nrE, reduceIte, reduceCtorEq, nrL]; with_reducible exact rfl); all_goals (intro hc; (first | exact absurd hc (by decide) | (simp only [hcs] at hc; first | contradiction | (exfalso; omega) | skip) | contradiction | skip); try simp only [↓pb, ↓pd, qds, tb9, hx3, hgo, ho4, hc, hEg, irN, nrA, nrM, nrE, reduceIte, reduceCtorEq, nrL])) | ((with_reducible apply WO_callF); (focus exact topA); (simp only [↓pb, qbs, tb9, hx3, hgo, ho4, hEg, irN, nrA, nrM, nrE, reduceIte, reduceCtorEq, nrL]; exact f19s _ _ _ _ _ (by exact topA) (hG.frR (b := H.n) (N := H3.n) (by exact frA) hx3) (by omega) (by omega) (by omega)); (rintro vq Gq hq hJq ⟨xa, xb, xc, rfl, hX, hXk, hXs⟩; try simp only [upd_n, jn_n] at hq); try simp only [↓pb, ↓pd, qds, tb9, hx3, hgo, ho4, hEg, irN, nrA, nrM, nrE, reduceIte, reduceCtorEq, nrL]) | (with_reducible first | refine W_seq ?_ | refine W_block ?_ | refine W_scope ?_ | refine W_skip ?_ | refine W_ret ?_ | refine W_exit ?_ | refine W_label ?_ | apply blockK_exit) | ((with_reducible apply blockK_pass); (focus decide)) | ((with_reducible refine W_regionF lv9 fun K hK => ?_); try simp only [↓pb, qbs, tb9, hx3, hgo, ho4, hEg, irN, nrA, nrM, nrE, reduceIte, reduceCtorEq, nrL]) | ((with_reducible refine W_drawnF lv9 fun K hK => ?_); try simp only [↓pb, ↓pd, qds, tb9, hx3, hgo, ho4, hEg, irN, nrA, nrM, nrE, reduceIte, reduceCtorEq, nrL]) | ((with_reducible apply W_cond); (simp only [↓pb, qbs, tb9, hx3, hgo, ho4, hEg, irN, nrA, nrM, nrE, reduceIte, reduceCtorEq, nrL]; with_reducible exact rfl); all_goals (intro hc; (first | exact absurd hc (by decide) | (simp only [hcs] at hc; first | contradiction | (exfalso; omega) | skip) | contradiction | skip))) | fail)
  obtain ⟨GX, hGX⟩ : ∃ x, x = Gq := ⟨_, rfl⟩
  subst hGX
  obtain ⟨rr, hrr1, hrr⟩ : ∃ rr, H3.n + 1 ≤ rr ∧ (M.g.Acts.length = 0 ∨ (xc = .slice (some ⟨rr, 0, none⟩) M.g.Acts.length M.g.Acts.length ∧ ((H3.upd (H3.n + 1) H3.n (AObj.cells [va, vb, vc] 26 Kd.ex)).jn GX).get rr = .cells (M.g.Acts.flatMap eAct) 30 (.gr rr 6 true) ∧ Sole ((H3.upd (H3.n + 1) H3.n (AObj.cells [va, vb, vc] 26 Kd.ex)).jn GX) rr ∧ rr < GX.n ∧
      (M.g.Spots.length = 0 ∨ vblk xa ≠ rr) ∧ (M.g.Sorts.length = 0 ∨ vblk xb ≠ rr))) := by
    rcases hXs with q | ⟨r, q1, q2, q3, q4, q5, q6, q7⟩
    · exact ⟨H3.n + 1, Nat.le_refl _, .inl q⟩
    · exact ⟨r, q4, .inr ⟨q1, q2, q3, q5, q6, q7⟩⟩
  clear hXs
  have lvt := GTr.sr.lt
  have lva := hG.p.lt
  have lvb := hG.q.lt
  have lvc := hG.r.lt
  have lxa := hX.p.lt
  have lxb := hX.q.lt
  simp only [jn_n] at lxa lxb
  refine W_forget (N := H.n) (X := []) (h0 := H) (fun h => RmF M H.n H3.n GX.n rr va vb vc vt xa xb xc 0 h ∧ Top h) (by exact frA) ⟨?_, (by exact topA)⟩ ?_
  · have F1 : Fr H3.n [] H3 (((H3.upd (H3.n + 1) H3.n (AObj.cells [va, vb, vc] 26 Kd.ex)).jn GX).upd (GX.n + 1) GX.n (AObj.cells [xa, xb, xc] 26 Kd.ex)) := by exact frA
    have F2 : Fr (GX.n) [] ((H3.upd (H3.n + 1) H3.n (AObj.cells [va, vb, vc] 26 Kd.ex)).jn GX) (((H3.upd (H3.n + 1) H3.n (AObj.cells [va, vb, vc] 26 Kd.ex)).jn GX).upd (GX.n + 1) GX.n (AObj.cells [xa, xb, xc] 26 Kd.ex)) := by exact frA
    refine ⟨by simp (disch := first | exact dA | fail) only [qcs, tb9, hEg, irN, nrA, nrM, nrE, reduceIte, reduceCtorEq, nrL]; exact hx3, by simp (disch := first | exact dA | fail) only [qcs, tb9, hEg, irN, nrA, nrM, nrE, reduceIte, reduceCtorEq, nrL], by simp (disch := first | exact dA | fail) only [qcs, tb9, hEg, irN, nrA, nrM, nrE, reduceIte, reduceCtorEq, nrL], hG.fr F1, ?_, GTr.sr.fr0 F1, hX.p.fr0 F2, hX.q.fr0 F2, ?_, ⟨by simp only [↓pb, qbs, tb9, hEg, irN, nrA, nrM, nrE, reduceIte, reduceCtorEq, nrL]; omega, by simp only [↓pb, qbs, tb9, hEg, irN, nrA, nrM, nrE, reduceIte, reduceCtorEq, nrL]; omega, by simp only [↓pb, qbs, tb9, hEg, irN, nrA, nrM, nrE, reduceIte, reduceCtorEq, nrL]; omega, ?_⟩, ?_⟩
    · rcases hsk with q | q
      · exact .inl q
      · rcases lva with q2 | q2
        · exact .inl q2
        · exact .inr (q.fr F1 q2 (by simp))
    · rcases hXk with q | q
      · exact .inl q
      · rcases lxa with q2 | q2
        · exact .inl q2
        · exact .inr (q.fr F2 q2 (by simp))
    · rcases hrr with q | ⟨_, _, _, q, _⟩
      · exact .inl q
      · exact .inr (by simp only [↓pb, qbs, tb9, hEg, irN, nrA, nrM, nrE, reduceIte, reduceCtorEq, nrL]; omega)
    · rcases hrr with q | ⟨_, q1, q2, q, _⟩
      · exact .inl q
      · right
        refine ⟨?_, q2.fr F2 q⟩
        rw [exA_zero, F2.old _ q (by simp)]
        exact q1
  rintro hb Fb ⟨kb, Tb⟩
  obtain ⟨bb1, bb2, bb3, bb4⟩ := kb.bd
  have lent : M.truth.length = M.g.Acts.length := t5.len
  refine W_count [3, 4, 5, 6] (by kernel_rfl) 7 (M.g.Acts.length) (H.n) [rr] [] (fun i e h => RmF M H.n H3.n GX.n rr va vb vc vt xa xb xc i h) (by simp only [↓pb, qbs, tb9, hEg, irN, nrA, nrM, nrE, reduceIte, reduceCtorEq, nrL]) (by focus exact topA) (H0 := H) (by focus exact frA) (by intro b hb hlt; simp at hb ⊢; try omega) ?_ ?_
  rotate_left
  intro i1 e1 h1 hi1 hE1 ei1 hF1 hF01 hTh1 hJ1
  simp only [forallC, forallL, and_true] at hE1
  try simp only [↓pb, qbs, tb9, hEg, irN, nrA, nrM, nrE, reduceIte, reduceCtorEq, nrL] at hE1
  have hn11 := hF1.n; have hn01 := hF01.n; try simp only [upd_n, jn_n] at hn11
  replace hEg := And.intro ei1 hE1
  rotate_left
  · exact kb
  have w6 := hJ1.g6
  have q6 : h1.rd GX.n = some [xa, xb, xc] := by rw [rd_def, w6]; rfl
  have T1 : SR h1 1 M.truth.length vt (M.truth.map iv) := hJ1.tr
  have lt1 := T1.lt
  have hox := hX.one
  have hcx : xc.cells = #[xc] := hX.r.vcells
  by_cases hi2 : i1 < M.g.Acts.length
  · obtain ⟨hxc, g1, g2, g3, g4, g5⟩ := hrr.resolve_left (by omega)
    subst hxc
    have hJ1' := hJ1
    have xrr := hJ1.xr.resolve_left (by omega)
    have lvt' : vblk vt < H3.n := by omega
    have brr : rr < hb.n := by omega
    repeat' (first | ((with_reducible refine hK _ _ fun e2 hEn => ?_); clear hK K; simp only [lv9, forallC, forallL, and_true] at hEn; (try simp only [↓pb, qbs, tb9, w6, q6, lns24 hX.r, ias31 T1, T1.rd, T1.el1 rfl, hJ1.xp.mapB, hox, hEg, irN, nrA, nrM, nrE, reduceIte, reduceCtorEq, nrL] at hEn); clear hEg; (try clear eg); have hEg := hEn; clear hEn; rename Env => eg) | ((with_reducible first | apply oV_intro | apply oH_intro | apply oB_intro); (simp (disch := first | exact dA | fail) only [qcs, tb9, w6, q6, lns24 hX.r, ias31 T1, T1.rd, T1.el1 rfl, hJ1.xp.mapB, hox, hEg, irN, nrA, nrM, nrE, reduceIte, reduceCtorEq, nrL]; with_reducible exact rfl); try simp only [↓pb, ↓pd, qds, tb9, w6, q6, lns24 hX.r, ias31 T1, T1.rd, T1.el1 rfl, hJ1.xp.mapB, hox, hEg, irN, nrA, nrM, nrE, reduceIte, reduceCtorEq, nrL]) | ((with_reducible first | apply oblA_and | apply oblR_and | apply oblO_and); (focus exact obA); try simp only [↓pb, ↓pd, qds, tb9, w6, q6, lns24 hX.r, ias31 T1, T1.rd, T1.el1 rfl, hJ1.xp.mapB, hox, hEg, irN, nrA, nrM, nrE, reduceIte, reduceCtorEq, nrL]) | ((with_reducible first | apply WO_gT | apply WO_gF | apply WD_gT | apply WD_gF); exact rfl; (simp only [↓pb, qbs, tb9, w6, q6, lns24 hX.r, ias31 T1, T1.rd, T1.el1 rfl, hJ1.xp.mapB, hox, hEg, irN, nrA, nrM, nrE, reduceIte, reduceCtorEq, nrL]; with_reducible exact rfl); all_goals (intro hc; (first | exact absurd hc (by decide) | (simp only [hcs] at hc; first | contradiction | (exfalso; omega) | skip) | contradiction | skip); try simp only [↓pb, ↓pd, qds, tb9, w6, q6, lns24 hX.r, ias31 T1, T1.rd, T1.el1 rfl, hJ1.xp.mapB, hox, hc, hEg, irN, nrA, nrM, nrE, reduceIte, reduceCtorEq, nrL])) | ((with_reducible apply WO_callV); (focus exact topA); (simp only [↓pb, qbs, tb9, w6, q6, lns24 hX.r, ias31 T1, T1.rd, T1.el1 rfl, hJ1.xp.mapB, hox, hEg, irN, nrA, nrM, nrE, reduceIte, reduceCtorEq, nrL]; (exact f44 _ _ _ (by exact topA))); (intro Gq hq hJq; try simp only [upd_n, jn_n] at hq); try simp only [↓pb, ↓pd, qds, tb9, w6, q6, lns24 hX.r, ias31 T1, T1.rd, T1.el1 rfl, hJ1.xp.mapB, hox, hEg, irN, nrA, nrM, nrE, reduceIte, reduceCtorEq, nrL]) | (with_reducible first | refine W_seq ?_ | refine W_block ?_ | refine W_scope ?_ | refine W_skip ?_ | refine W_ret ?_ | refine W_exit ?_ | refine W_label ?_ | apply blockK_exit) | ((with_reducible apply blockK_pass); (focus decide)) | ((with_reducible refine W_regionF lv9 fun K hK => ?_); try simp only [↓pb, qbs, tb9, w6, q6, lns24 hX.r, ias31 T1, T1.rd, T1.el1 rfl, hJ1.xp.mapB, hox, hEg, irN, nrA, nrM, nrE, reduceIte, reduceCtorEq, nrL]) | ((with_reducible refine W_drawnF lv9 fun K hK => ?_); try simp only [↓pb, ↓pd, qds, tb9, w6, q6, lns24 hX.r, ias31 T1, T1.rd, T1.el1 rfl, hJ1.xp.mapB, hox, hEg, irN, nrA, nrM, nrE, reduceIte, reduceCtorEq, nrL]) | ((with_reducible apply W_cond); (simp only [↓pb, qbs, tb9, w6, q6, lns24 hX.r, ias31 T1, T1.rd, T1.el1 rfl, hJ1.xp.mapB, hox, hEg, irN, nrA, nrM, nrE, reduceIte, reduceCtorEq, nrL]; with_reducible exact rfl); all_goals (intro hc; (first | exact absurd hc (by decide) | (simp only [hcs] at hc; first | contradiction | (exfalso; omega) | skip) | contradiction | skip))) | fail)
    have k2 := hJ1.fr (h' := h1.jn Gq) (Fr.jn (Fr.refl h1) hJq (Nat.le_refl _))
    have xr2 := k2.xr.resolve_left (by omega)
    have hsp : splice ((exA M.g.Acts M.truth i1).flatMap eAct) (i1 * 6 + 3) [iv (M.truth.getD i1 default), iv (M.truth.getD i1 default)] = (exA M.g.Acts M.truth (i1 + 1)).flatMap eAct := by
      rw [splice_act _ _ _ (by rw [exA_len]; exact hi2), exA_get _ _ _ hi2, if_neg (Nat.lt_irrefl _), exA_succ _ _ hi2]
      rfl
    have hln : ((exA M.g.Acts M.truth i1).flatMap eAct).length = M.g.Acts.length * 6 := by rw [flat_len eAct_len, exA_len]
    rw [xr2.1]
    refine oH_intro (stG_sole xr2.2 rfl rfl (by rw [hln]; omega)) ?_
    rw [show (Value.agg ⟨[iv (M.truth.getD i1 default), iv (M.truth.getD i1 default)]⟩).cells.toList = [iv (M.truth.getD i1 default), iv (M.truth.getD i1 default)] from rfl, hsp]
    simp only [↓pb, ↓pd, qds, tb9, hEg, irN, nrA, nrM, nrE, reduceIte, reduceCtorEq, nrL]
    repeat' (first | ((with_reducible refine hK _ _ fun e2 hEn => ?_); clear hK K; simp only [lv9, forallC, forallL, and_true] at hEn; (try simp only [↓pb, qbs, tb9, hEg, irN, nrA, nrM, nrE, reduceIte, reduceCtorEq, nrL] at hEn); clear hEg; (try clear eg); have hEg := hEn; clear hEn; rename Env => eg) | ((with_reducible first | apply oV_intro | apply oH_intro | apply oB_intro); (simp (disch := first | exact dA | fail) only [qcs, tb9, hEg, irN, nrA, nrM, nrE, reduceIte, reduceCtorEq, nrL]; with_reducible exact rfl); try simp only [↓pb, ↓pd, qds, tb9, hEg, irN, nrA, nrM, nrE, reduceIte, reduceCtorEq, nrL]) | ((with_reducible first | apply oblA_and | apply oblR_and | apply oblO_and); (focus exact obA); try simp only [↓pb, ↓pd, qds, tb9, hEg, irN, nrA, nrM, nrE, reduceIte, reduceCtorEq, nrL]) | ((with_reducible first | apply WO_gT | apply WO_gF | apply WD_gT | apply WD_gF); exact rfl; (simp only [↓pb, qbs, tb9, hEg, irN, nrA, nrM, nrE, reduceIte, reduceCtorEq, nrL]; with_reducible exact rfl); all_goals (intro hc; (first | exact absurd hc (by decide) | (simp only [hcs] at hc; first | contradiction | (exfalso; omega) | skip) | contradiction | skip); try simp only [↓pb, ↓pd, qds, tb9, hc, hEg, irN, nrA, nrM, nrE, reduceIte, reduceCtorEq, nrL])) | (with_reducible first | refine W_seq ?_ | refine W_block ?_ | refine W_scope ?_ | refine W_skip ?_ | refine W_ret ?_ | refine W_exit ?_ | refine W_label ?_ | apply blockK_exit) | ((with_reducible apply blockK_pass); (focus decide)) | ((with_reducible refine W_regionF lv9 fun K hK => ?_); try simp only [↓pb, qbs, tb9, hEg, irN, nrA, nrM, nrE, reduceIte, reduceCtorEq, nrL]) | ((with_reducible refine W_drawnF lv9 fun K hK => ?_); try simp only [↓pb, ↓pd, qds, tb9, hEg, irN, nrA, nrM, nrE, reduceIte, reduceCtorEq, nrL]) | ((with_reducible apply W_cond); (simp only [↓pb, qbs, tb9, hEg, irN, nrA, nrM, nrE, reduceIte, reduceCtorEq, nrL]; with_reducible exact rfl); all_goals (intro hc; (first | exact absurd hc (by decide) | (simp only [hcs] at hc; first | contradiction | (exfalso; omega) | skip) | contradiction | skip))) | fail)
    refine ⟨by omega, by simp only [↓pb, qbs, tb9, hEg, irN, nrA, nrM, nrE, reduceIte, reduceCtorEq, nrL]; exact congrArg _ (inc64 (by omega)), by focus exact frA, ?_⟩
    have nv : ∀ {n : Nat} {v : Value}, (n = 0 ∨ vblk v < H3.n) → n = 0 ∨ vblk v ≠ rr := fun q => by
      rcases q with q | q
      · exact .inl q
      · exact .inr (by omega)
    exact RmF.store k2 hi2 (by omega) (by omega) (by omega) (nv lva) (nv lvb) (by omega) (by omega) g4 g5
  have e1n : i1 = M.g.Acts.length := by omega
  have hlX : (exA M.g.Acts M.truth M.g.Acts.length).length = M.g.Acts.length := exA_len ..
  have r4 : h1.rd H3.n = some [va, vb, vc] := by rw [rd_def, hJ1.g4]; rfl
  have f0 := hJ1.feed
  have f4 := hJ1.g4
  have hXr : SR h1 6 M.g.Acts.length xc ((exA M.g.Acts M.truth M.g.Acts.length).flatMap eAct) := by
    rcases hrr with q | ⟨q1, _, _, q2, _⟩
    · refine ⟨hX.r.shape, by rw [flat_len eAct_len, exA_len], .inl q, .inl q⟩
    · rcases hJ1.xr with q3 | ⟨q3, _⟩
      · refine ⟨hX.r.shape, by rw [flat_len eAct_len, exA_len], .inl q3, .inl q3⟩
      · rw [e1n] at q3
        subst q1
        refine ⟨.inr ⟨_, _, _, rfl, Nat.le_refl _⟩, by rw [flat_len eAct_len, exA_len], .inr ⟨_, by rw [rd_def]; show rdO (h1.get rr) = _; rw [q3]; rfl, ?_, ?_⟩, .inr ?_⟩
        · show 0 + _ ≤ _
          rw [flat_len eAct_len, exA_len]; omega
        · show (List.drop 0 _).take _ = _
          rw [List.drop_zero, List.take_of_length_le (by rw [flat_len eAct_len, exA_len]; omega)]
        · show rr < h1.n
          omega
  have hGq := hJ1.hG.q
  repeat' (first | ((with_reducible refine hK _ _ fun e2 hEn => ?_); clear hK K; simp only [lv9, forallC, forallL, and_true] at hEn; (try simp only [↓pb, qbs, tb9, w6, q6, f0, f4, r4, lns24 hX.r, lns23 hGq, hGq.mapB, hhour, hkind, hmass, hEg, irN, nrA, nrM, nrE, reduceIte, reduceCtorEq, nrL] at hEn); clear hEg; (try clear eg); have hEg := hEn; clear hEn; rename Env => eg) | ((with_reducible first | apply oV_intro | apply oH_intro | apply oB_intro); (simp (disch := first | exact dA | fail) only [qcs, tb9, w6, q6, f0, f4, r4, lns24 hX.r, lns23 hGq, hGq.mapB, hhour, hkind, hmass, hEg, irN, nrA, nrM, nrE, reduceIte, reduceCtorEq, nrL]; with_reducible exact rfl); try simp only [↓pb, ↓pd, qds, tb9, w6, q6, f0, f4, r4, lns24 hX.r, lns23 hGq, hGq.mapB, hhour, hkind, hmass, hEg, irN, nrA, nrM, nrE, reduceIte, reduceCtorEq, nrL]) | ((with_reducible first | apply oblA_and | apply oblR_and | apply oblO_and); (focus exact obA); try simp only [↓pb, ↓pd, qds, tb9, w6, q6, f0, f4, r4, lns24 hX.r, lns23 hGq, hGq.mapB, hhour, hkind, hmass, hEg, irN, nrA, nrM, nrE, reduceIte, reduceCtorEq, nrL]) | ((with_reducible first | apply WO_gT | apply WO_gF | apply WD_gT | apply WD_gF); exact rfl; (simp only [↓pb, qbs, tb9, w6, q6, f0, f4, r4, lns24 hX.r, lns23 hGq, hGq.mapB, hhour, hkind, hmass, hEg, irN, nrA, nrM, nrE, reduceIte, reduceCtorEq, nrL]; with_reducible exact rfl); all_goals (intro hc; (first | exact absurd hc (by decide) | (simp only [hcs] at hc; first | contradiction | (exfalso; omega) | skip) | contradiction | skip); try simp only [↓pb, ↓pd, qds, tb9, w6, q6, f0, f4, r4, lns24 hX.r, lns23 hGq, hGq.mapB, hhour, hkind, hmass, hc, hEg, irN, nrA, nrM, nrE, reduceIte, reduceCtorEq, nrL])) | ((with_reducible apply WO_callE); (simp only [↓pb, qbs, tb9, w6, q6, f0, f4, r4, lns24 hX.r, lns23 hGq, hGq.mapB, hhour, hkind, hmass, hEg, irN, nrA, nrM, nrE, reduceIte, reduceCtorEq, nrL]; (first | exact f31 _ _ _ _ _ (by simp (disch := first | exact dA | fail) only [qcs, tb9, w6, q6, f0, f4, r4, lns24 hX.r, lns23 hGq, hGq.mapB, hhour, hkind, hmass, hEg, irN, nrA, nrM, nrE, reduceIte, reduceCtorEq, nrL]; rfl) | exact f20 _ _ _ _ (by simp (disch := first | exact dA | fail) only [qcs, tb9, w6, q6, f0, f4, r4, lns24 hX.r, lns23 hGq, hGq.mapB, hhour, hkind, hmass, hEg, irN, nrA, nrM, nrE, reduceIte, reduceCtorEq, nrL]; rfl) (by omega))); try simp only [↓pb, ↓pd, qds, tb9, w6, q6, f0, f4, r4, lns24 hX.r, lns23 hGq, hGq.mapB, hhour, hkind, hmass, hEg, irN, nrA, nrM, nrE, reduceIte, reduceCtorEq, nrL]) | (with_reducible first | refine W_seq ?_ | refine W_block ?_ | refine W_scope ?_ | refine W_skip ?_ | refine W_ret ?_ | refine W_exit ?_ | refine W_label ?_ | apply blockK_exit) | ((with_reducible apply blockK_pass); (focus decide)) | ((with_reducible refine W_regionE lv9 [9] fun K hK => ?_); try simp only [↓pb, qbs, tb9, w6, q6, f0, f4, r4, lns24 hX.r, lns23 hGq, hGq.mapB, hhour, hkind, hmass, hEg, irN, nrA, nrM, nrE, reduceIte, reduceCtorEq, nrL]) | ((with_reducible refine W_drawnE lv9 [9] fun K hK => ?_); try simp only [↓pb, ↓pd, qds, tb9, w6, q6, f0, f4, r4, lns24 hX.r, lns23 hGq, hGq.mapB, hhour, hkind, hmass, hEg, irN, nrA, nrM, nrE, reduceIte, reduceCtorEq, nrL]) | ((with_reducible apply W_cond); (simp only [↓pb, qbs, tb9, w6, q6, f0, f4, r4, lns24 hX.r, lns23 hGq, hGq.mapB, hhour, hkind, hmass, hEg, irN, nrA, nrM, nrE, reduceIte, reduceCtorEq, nrL]; with_reducible exact rfl); all_goals (intro hc; (first | exact absurd hc (by decide) | (simp only [hcs] at hc; first | contradiction | (exfalso; omega) | skip) | contradiction | skip))) | fail)
  have hF1' := Fr.trans' Fb hF1 (Nat.le_refl _) (by intro b hb hlt; simp at hb; omega)
  refine W_forget (N := H.n) (X := []) (h0 := H) (fun h => RmG M H3.n GX.n va vb vc vt xa xb xc h ∧ Top h) (by exact frA) ⟨?_, (by exact topA)⟩ ?_
  · have hJ1e := hJ1
    rw [e1n] at hJ1e
    exact hJ1e.done (by omega) (by omega) hXr _
  rintro h2 Fb2 ⟨k2, T2⟩
  obtain ⟨bd4, bd6⟩ := k2.bd
  have s4 : h2.rd H3.n = some [va, vb, vc] := by rw [rd_def, k2.g4]; rfl
  have s6 : h2.rd GX.n = some [xa, xb, xc] := by rw [rd_def, k2.g6]; rfl
  have z4 := k2.g4
  have z6 := k2.g6
  have eX : (exG M.g M.truth).Spots.length = M.g.Spots.length := exG_spots _ _
  have eX2 : (exG M.g M.truth).Sorts.length = M.g.Sorts.length := exG_sorts _ _
  have hX20 : (exG M.g M.truth).Spots.length ≤ 20 := by rw [eX]; omega
  have hX21 : (exG M.g M.truth).Sorts.length ≤ 20 := by rw [eX2]; omega
  have hoe := ok.e
  have hoh := ok.h
  repeat' (first | ((with_reducible refine hK _ _ fun e2 hEn => ?_); clear hK K; simp only [lv9, forallC, forallL, and_true] at hEn; (try simp only [↓pb, qbs, tb9, s4, s6, z4, z6, hoe, hoh, ne_eq, not_true_eq_false, decide_false, decide_true, Bool.false_eq_true, hEg, irN, nrA, nrM, nrE, reduceIte, reduceCtorEq, nrL] at hEn); clear hEg; (try clear eg); have hEg := hEn; clear hEn; rename Env => eg) | ((with_reducible first | apply oV_intro | apply oH_intro | apply oB_intro); (simp (disch := first | exact dA | fail) only [qcs, tb9, s4, s6, z4, z6, hoe, hoh, ne_eq, not_true_eq_false, decide_false, decide_true, Bool.false_eq_true, hEg, irN, nrA, nrM, nrE, reduceIte, reduceCtorEq, nrL]; with_reducible exact rfl); try simp only [↓pb, ↓pd, qds, tb9, s4, s6, z4, z6, hoe, hoh, ne_eq, not_true_eq_false, decide_false, decide_true, Bool.false_eq_true, hEg, irN, nrA, nrM, nrE, reduceIte, reduceCtorEq, nrL]) | ((with_reducible first | apply oblA_and | apply oblR_and | apply oblO_and); (focus exact obA); try simp only [↓pb, ↓pd, qds, tb9, s4, s6, z4, z6, hoe, hoh, ne_eq, not_true_eq_false, decide_false, decide_true, Bool.false_eq_true, hEg, irN, nrA, nrM, nrE, reduceIte, reduceCtorEq, nrL]) | ((with_reducible first | apply WO_gT | apply WO_gF | apply WD_gT | apply WD_gF); exact rfl; (simp only [↓pb, qbs, tb9, s4, s6, z4, z6, hoe, hoh, ne_eq, not_true_eq_false, decide_false, decide_true, Bool.false_eq_true, hEg, irN, nrA, nrM, nrE, reduceIte, reduceCtorEq, nrL]; with_reducible exact rfl); all_goals (intro hc; (first | exact absurd hc (by decide) | (simp only [hcs] at hc; first | contradiction | (exfalso; omega) | skip) | contradiction | skip); try simp only [↓pb, ↓pd, qds, tb9, s4, s6, z4, z6, hoe, hoh, ne_eq, not_true_eq_false, decide_false, decide_true, Bool.false_eq_true, hc, hEg, irN, nrA, nrM, nrE, reduceIte, reduceCtorEq, nrL])) | ((with_reducible apply WO_callF); (focus exact topA); (simp only [↓pb, qbs, tb9, s4, s6, z4, z6, hoe, hoh, ne_eq, not_true_eq_false, decide_false, decide_true, Bool.false_eq_true, hEg, irN, nrA, nrM, nrE, reduceIte, reduceCtorEq, nrL]; exact f32 _ _ _ M.g _ _ _ _ (by exact topA) (k2.fr (N := h2.n) (by exact frA)).hG (k2.fr (N := h2.n) (by exact frA)).hk (by omega) (by omega)); (rintro vq Gq hq hJq ⟨vr, rfl, Sr⟩; try simp only [upd_n, jn_n] at hq); try simp only [↓pb, ↓pd, qds, tb9, s4, s6, z4, z6, hoe, hoh, ne_eq, not_true_eq_false, decide_false, decide_true, Bool.false_eq_true, hEg, irN, nrA, nrM, nrE, reduceIte, reduceCtorEq, nrL]) | ((with_reducible apply WO_callF); (focus exact topA); (simp only [↓pb, qbs, tb9, s4, s6, z4, z6, hoe, hoh, ne_eq, not_true_eq_false, decide_false, decide_true, Bool.false_eq_true, hEg, irN, nrA, nrM, nrE, reduceIte, reduceCtorEq, nrL]; exact f32 _ _ _ (exG M.g M.truth) _ _ _ _ (by exact topA) (k2.fr (N := h2.n) (by exact frA)).hX (k2.fr (N := h2.n) (by exact frA)).xk hX20 hX21); (rintro vq Gq hq hJq ⟨vx, rfl, Sx⟩; try simp only [upd_n, jn_n] at hq); try simp only [↓pb, ↓pd, qds, tb9, s4, s6, z4, z6, hoe, hoh, ne_eq, not_true_eq_false, decide_false, decide_true, Bool.false_eq_true, hEg, irN, nrA, nrM, nrE, reduceIte, reduceCtorEq, nrL]) | (with_reducible first | refine W_seq ?_ | refine W_block ?_ | refine W_scope ?_ | refine W_skip ?_ | refine W_ret ?_ | refine W_exit ?_ | refine W_label ?_ | apply blockK_exit) | ((with_reducible apply blockK_pass); (focus decide)) | ((with_reducible refine W_regionE lv9 [13] fun K hK => ?_); try simp only [↓pb, qbs, tb9, s4, s6, z4, z6, hoe, hoh, ne_eq, not_true_eq_false, decide_false, decide_true, Bool.false_eq_true, hEg, irN, nrA, nrM, nrE, reduceIte, reduceCtorEq, nrL]) | ((with_reducible refine W_drawnE lv9 [13] fun K hK => ?_); try simp only [↓pb, ↓pd, qds, tb9, s4, s6, z4, z6, hoe, hoh, ne_eq, not_true_eq_false, decide_false, decide_true, Bool.false_eq_true, hEg, irN, nrA, nrM, nrE, reduceIte, reduceCtorEq, nrL]) | ((with_reducible apply W_cond); (simp only [↓pb, qbs, tb9, s4, s6, z4, z6, hoe, hoh, ne_eq, not_true_eq_false, decide_false, decide_true, Bool.false_eq_true, hEg, irN, nrA, nrM, nrE, reduceIte, reduceCtorEq, nrL]; with_reducible exact rfl); all_goals (intro hc; (first | exact absurd hc (by decide) | (simp only [hcs] at hc; first | contradiction | (exfalso; omega) | skip) | contradiction | skip))) | fail)
  rename_i G1 hq1 hJ1x hcA hcB
  clear hcA hcB hc
  have k3 := (k2.fr (N := h2.n) (h' := (h2.jn G1).jn Gq) (by exact frA))
  have hday : dayOf M.g M.truth M.g.Acts.length hour = dayRun M.g M.truth M.g.Acts.length := by unfold dayOf; rw [ok.u, Nat.min_self]
  have hG3 := k3.hG
  have hspu : ∀ u, u < M.g.Acts.length → 0 ≤ (M.g.Acts.getD u default).Spot ∧ (M.g.Acts.getD u default).Spot < M.g.Spots.length := t5.few.spot
  repeat' (first | ((with_reducible refine hK _ _ fun e2 hEn => ?_); clear hK K; simp only [lv9, forallC, forallL, and_true] at hEn; (try simp only [↓pb, qbs, tb9, s4, z4, lns24 hG3.r, hEg, irN, nrA, nrM, nrE, reduceIte, reduceCtorEq, nrL] at hEn); clear hEg; (try clear eg); have hEg := hEn; clear hEn; rename Env => eg) | ((with_reducible first | apply oV_intro | apply oH_intro | apply oB_intro); (simp (disch := first | exact dA | fail) only [qcs, tb9, s4, z4, lns24 hG3.r, hEg, irN, nrA, nrM, nrE, reduceIte, reduceCtorEq, nrL]; with_reducible exact rfl); try simp only [↓pb, ↓pd, qds, tb9, s4, z4, lns24 hG3.r, hEg, irN, nrA, nrM, nrE, reduceIte, reduceCtorEq, nrL]) | ((with_reducible first | apply oblA_and | apply oblR_and | apply oblO_and); (focus exact obA); try simp only [↓pb, ↓pd, qds, tb9, s4, z4, lns24 hG3.r, hEg, irN, nrA, nrM, nrE, reduceIte, reduceCtorEq, nrL]) | ((with_reducible first | apply WO_gT | apply WO_gF | apply WD_gT | apply WD_gF); exact rfl; (simp only [↓pb, qbs, tb9, s4, z4, lns24 hG3.r, hEg, irN, nrA, nrM, nrE, reduceIte, reduceCtorEq, nrL]; with_reducible exact rfl); all_goals (intro hc; (first | exact absurd hc (by decide) | (simp only [hcs] at hc; first | contradiction | (exfalso; omega) | skip) | contradiction | skip); try simp only [↓pb, ↓pd, qds, tb9, s4, z4, lns24 hG3.r, hc, hEg, irN, nrA, nrM, nrE, reduceIte, reduceCtorEq, nrL])) | ((with_reducible apply WO_callF); (focus exact topA); (simp only [↓pb, qbs, tb9, s4, z4, lns24 hG3.r, hEg, irN, nrA, nrM, nrE, reduceIte, reduceCtorEq, nrL]; exact f35 _ _ _ _ _ _ M.g.Acts.length _ _ (by exact topA) (k3.fr (N := h2.n) (by exact frA)).hG (k3.fr (N := h2.n) (by exact frA)).tr lent (Nat.le_refl _) (by omega) (by omega) hspu); (rintro vq Gq hq hJq ⟨dl, ds, rfl, Sl, Ss⟩; try simp only [upd_n, jn_n] at hq); try simp only [↓pb, ↓pd, qds, tb9, s4, z4, lns24 hG3.r, hEg, irN, nrA, nrM, nrE, reduceIte, reduceCtorEq, nrL]) | (with_reducible first | refine W_seq ?_ | refine W_block ?_ | refine W_scope ?_ | refine W_skip ?_ | refine W_ret ?_ | refine W_exit ?_ | refine W_label ?_ | apply blockK_exit) | ((with_reducible apply blockK_pass); (focus decide)) | ((with_reducible refine W_regionE lv9 [14] fun K hK => ?_); try simp only [↓pb, qbs, tb9, s4, z4, lns24 hG3.r, hEg, irN, nrA, nrM, nrE, reduceIte, reduceCtorEq, nrL]) | ((with_reducible refine W_drawnE lv9 [14] fun K hK => ?_); try simp only [↓pb, ↓pd, qds, tb9, s4, z4, lns24 hG3.r, hEg, irN, nrA, nrM, nrE, reduceIte, reduceCtorEq, nrL]) | ((with_reducible apply W_cond); (simp only [↓pb, qbs, tb9, s4, z4, lns24 hG3.r, hEg, irN, nrA, nrM, nrE, reduceIte, reduceCtorEq, nrL]; with_reducible exact rfl); all_goals (intro hc; (first | exact absurd hc (by decide) | (simp only [hcs] at hc; first | contradiction | (exfalso; omega) | skip) | contradiction | skip))) | fail)
  rw [hday] at Sl Ss
  obtain ⟨d, hd⟩ : ∃ d, d = dayRun M.g M.truth M.g.Acts.length := ⟨_, rfl⟩
  rw [← hd] at Sl Ss
  rename_i G2 hq2 hJ2
  obtain ⟨GY, hGY⟩ : ∃ x, x = Gq := ⟨_, rfl⟩
  subst hGY
  have hDl := dayRun_len M.g M.truth M.g.Acts.length
  rw [← hd] at hDl
  obtain ⟨rl, hrl⟩ : ∃ rl, rl = room M.g hour kind mass := ⟨_, rfl⟩
  obtain ⟨xl, hxl⟩ : ∃ xl, xl = room (exG M.g M.truth) hour kind mass := ⟨_, rfl⟩
  have hrl3 : rl.length ≤ 20 := by
    rw [hrl]
    unfold room
    rw [if_pos hoe]
    have := roomGo_len M.g (known M.g).1 kind mass (known M.g).1.length
    have := known_len (g := M.g)
    omega
  have hxl3 : xl.length ≤ 20 := by
    rw [hxl]
    unfold room
    rw [if_pos hoh]
    have := roomGo_len (exG M.g M.truth) (known (exG M.g M.truth)).1 kind mass (known (exG M.g M.truth)).1.length
    have := known_len (g := exG M.g M.truth)
    omega
  have one := ok.one
  rw [← hrl, ← hxl, ← hd] at one
  rw [← hrl] at Sr
  rw [← hxl] at Sx
  refine W_forget (N := H.n) (X := []) (h0 := H) (fun h => RmH M H3.n GY.n va vb vc dl ds vr vx d rl xl h ∧ Top h) (by exact frA) ⟨?_, (by exact topA)⟩ ?_
  · have FA : Fr 0 [] ((h2.jn G1).jn G2) ((((h2.jn G1).jn G2).jn GY).upd (GY.n + 1) GY.n (AObj.cells [dl, ds] 61 Kd.ex)) := by exact frA
    have FB : Fr 0 [] (((h2.jn G1).jn G2).jn GY) ((((h2.jn G1).jn G2).jn GY).upd (GY.n + 1) GY.n (AObj.cells [dl, ds] 61 Kd.ex)) := by exact frA
    have FC : Fr 0 [] (h2.jn G1) ((((h2.jn G1).jn G2).jn GY).upd (GY.n + 1) GY.n (AObj.cells [dl, ds] 61 Kd.ex)) := by exact frA
    refine ⟨?_, by simp (disch := first | exact dA | fail) only [qcs, tb9, hEg, irN, nrA, nrM, nrE, reduceIte, reduceCtorEq, nrL], k3.hG.fr FA, ?_, ?_, Sr.fr0 FC, Sx.fr0 FA, by simp only [↓pb, qbs, tb9, hEg, irN, nrA, nrM, nrE, reduceIte, reduceCtorEq, nrL]; omega, by simp only [↓pb, qbs, tb9, hEg, irN, nrA, nrM, nrE, reduceIte, reduceCtorEq, nrL]; omega⟩
    · rw [FA.old _ (by simp only [↓pb, qbs, tb9, hEg, irN, nrA, nrM, nrE, reduceIte, reduceCtorEq, nrL]; omega) (by simp)]
      exact k3.g4
    · rw [hDl.1]
      exact Sl.fr0 FB
    · rw [hDl.2]
      exact Ss.fr0 FB
  rintro h5 Fb5 ⟨k5, T5⟩
  repeat' (first | ((with_reducible refine hK _ _ fun e2 hEn => ?_); clear hK K; simp only [lv9, forallC, forallL, and_true] at hEn; (try simp only [↓pb, qbs, tb9, hEg, irN, nrA, nrM, nrE, reduceIte, reduceCtorEq, nrL] at hEn); clear hEg; (try clear eg); have hEg := hEn; clear hEn; rename Env => eg) | ((with_reducible first | apply oV_intro | apply oH_intro | apply oB_intro); (simp (disch := first | exact dA | fail) only [qcs, tb9, hEg, irN, nrA, nrM, nrE, reduceIte, reduceCtorEq, nrL]; with_reducible exact rfl); try simp only [↓pb, ↓pd, qds, tb9, hEg, irN, nrA, nrM, nrE, reduceIte, reduceCtorEq, nrL]) | ((with_reducible first | apply oblA_and | apply oblR_and | apply oblO_and); (focus exact obA); try simp only [↓pb, ↓pd, qds, tb9, hEg, irN, nrA, nrM, nrE, reduceIte, reduceCtorEq, nrL]) | ((with_reducible first | apply WO_gT | apply WO_gF | apply WD_gT | apply WD_gF); exact rfl; (simp only [↓pb, qbs, tb9, hEg, irN, nrA, nrM, nrE, reduceIte, reduceCtorEq, nrL]; with_reducible exact rfl); all_goals (intro hc; (first | exact absurd hc (by decide) | (simp only [hcs] at hc; first | contradiction | (exfalso; omega) | skip) | contradiction | skip); try simp only [↓pb, ↓pd, qds, tb9, hc, hEg, irN, nrA, nrM, nrE, reduceIte, reduceCtorEq, nrL])) | (with_reducible first | refine W_seq ?_ | refine W_block ?_ | refine W_scope ?_ | refine W_skip ?_ | refine W_ret ?_ | refine W_exit ?_ | refine W_label ?_ | apply blockK_exit) | ((with_reducible apply blockK_pass); (focus decide)) | ((with_reducible refine W_regionF lv9 fun K hK => ?_); try simp only [↓pb, qbs, tb9, hEg, irN, nrA, nrM, nrE, reduceIte, reduceCtorEq, nrL]) | ((with_reducible refine W_drawnF lv9 fun K hK => ?_); try simp only [↓pb, ↓pd, qds, tb9, hEg, irN, nrA, nrM, nrE, reduceIte, reduceCtorEq, nrL]) | ((with_reducible apply W_cond); (simp only [↓pb, qbs, tb9, hEg, irN, nrA, nrM, nrE, reduceIte, reduceCtorEq, nrL]; with_reducible exact rfl); all_goals (intro hc; (first | exact absurd hc (by decide) | (simp only [hcs] at hc; first | contradiction | (exfalso; omega) | skip) | contradiction | skip))) | fail)
  refine W_count [4, 9, 10, 11, 13, 15] (by kernel_rfl) 16 (M.g.Spots.length) (H.n) [] [] (fun i e h => True) (by simp only [↓pb, qbs, tb9, hEg, irN, nrA, nrM, nrE, reduceIte, reduceCtorEq, nrL]) (by focus exact topA) (H0 := H) (by focus exact frA) (by intro b hb hlt; simp at hb ⊢; try omega) ?_ ?_
  rotate_left
  intro i2 e2 h2 hi2 hE2 ei2 hF2 hF02 hTh2 hJ2
  simp only [forallC, forallL, and_true] at hE2
  try simp only [↓pb, qbs, tb9, hEg, irN, nrA, nrM, nrE, reduceIte, reduceCtorEq, nrL] at hE2
  have hn12 := hF2.n; have hn02 := hF02.n; try simp only [upd_n, jn_n] at hn12
  replace hEg := And.intro ei2 hE2
  rotate_left
  · trivial
  have k6 := k5.fr hF2
  obtain ⟨c4, c15⟩ := k6.bd
  have p4 := k6.g4
  have p15 := k6.g15
  have q4 : h2.rd H3.n = some [va, vb, vc] := by rw [rd_def, p4]; rfl
  have q15 : h2.rd GY.n = some [dl, ds] := by rw [rd_def, p15]; rfl
  have ods := k6.ss.one
  have odl := k6.sl.one
  by_cases hsp2 : i2 < M.g.Spots.length
  · have hms : ∀ a : Int, massGo M.g.Acts d.left a d.left.length = d.mass M.g a := fun a => rfl
    have hp := k6.hG.p
    repeat' (first | ((with_reducible refine hK _ _ fun e2 hEn => ?_); clear hK K; simp only [lv9, forallC, forallL, and_true] at hEn; (try simp only [↓pb, qbs, tb9, q4, q15, p4, p15, lns22 hp, hgo, ods, odl, hms, hEg, irN, nrA, nrM, nrE, reduceIte, reduceCtorEq, nrL] at hEn); clear hEg; (try clear eg); have hEg := hEn; clear hEn; rename Env => eg) | ((with_reducible first | apply oV_intro | apply oH_intro | apply oB_intro); (simp (disch := first | exact dA | fail) only [qcs, tb9, q4, q15, p4, p15, lns22 hp, hgo, ods, odl, hms, hEg, irN, nrA, nrM, nrE, reduceIte, reduceCtorEq, nrL]; with_reducible exact rfl); try simp only [↓pb, ↓pd, qds, tb9, q4, q15, p4, p15, lns22 hp, hgo, ods, odl, hms, hEg, irN, nrA, nrM, nrE, reduceIte, reduceCtorEq, nrL]) | ((with_reducible first | apply oblA_and | apply oblR_and | apply oblO_and); (focus exact obA); try simp only [↓pb, ↓pd, qds, tb9, q4, q15, p4, p15, lns22 hp, hgo, ods, odl, hms, hEg, irN, nrA, nrM, nrE, reduceIte, reduceCtorEq, nrL]) | ((with_reducible first | apply WO_gT | apply WO_gF | apply WD_gT | apply WD_gF); exact rfl; (simp only [↓pb, qbs, tb9, q4, q15, p4, p15, lns22 hp, hgo, ods, odl, hms, hEg, irN, nrA, nrM, nrE, reduceIte, reduceCtorEq, nrL]; with_reducible exact rfl); all_goals (intro hc; (first | exact absurd hc (by decide) | (simp only [hcs] at hc; first | contradiction | (exfalso; omega) | skip) | contradiction | skip); try simp only [↓pb, ↓pd, qds, tb9, q4, q15, p4, p15, lns22 hp, hgo, ods, odl, hms, hc, hEg, irN, nrA, nrM, nrE, reduceIte, reduceCtorEq, nrL])) | ((with_reducible apply WO_callV); (focus exact topA); (simp only [↓pb, qbs, tb9, q4, q15, p4, p15, lns22 hp, hgo, ods, odl, hms, hEg, irN, nrA, nrM, nrE, reduceIte, reduceCtorEq, nrL]; (exact f37 _ _ _ _ _ _ _ _ _ (by exact topA) (k6.fr (N := h2.n) (by exact frA)).hG (k6.fr (N := h2.n) (by exact frA)).sl ods (by omega) (by omega))); (intro Gq hq hJq; try simp only [upd_n, jn_n] at hq); try simp only [↓pb, ↓pd, qds, tb9, q4, q15, p4, p15, lns22 hp, hgo, ods, odl, hms, hEg, irN, nrA, nrM, nrE, reduceIte, reduceCtorEq, nrL]) | (with_reducible first | refine W_seq ?_ | refine W_block ?_ | refine W_scope ?_ | refine W_skip ?_ | refine W_ret ?_ | refine W_exit ?_ | refine W_label ?_ | apply blockK_exit) | ((with_reducible apply blockK_pass); (focus decide)) | ((with_reducible refine W_regionE lv9 [18] fun K hK => ?_); try simp only [↓pb, qbs, tb9, q4, q15, p4, p15, lns22 hp, hgo, ods, odl, hms, hEg, irN, nrA, nrM, nrE, reduceIte, reduceCtorEq, nrL]) | ((with_reducible refine W_drawnE lv9 [18] fun K hK => ?_); try simp only [↓pb, ↓pd, qds, tb9, q4, q15, p4, p15, lns22 hp, hgo, ods, odl, hms, hEg, irN, nrA, nrM, nrE, reduceIte, reduceCtorEq, nrL]) | ((with_reducible apply W_cond); (simp only [↓pb, qbs, tb9, q4, q15, p4, p15, lns22 hp, hgo, ods, odl, hms, hEg, irN, nrA, nrM, nrE, reduceIte, reduceCtorEq, nrL]; with_reducible exact rfl); all_goals (intro hc; (first | exact absurd hc (by decide) | (simp only [hcs] at hc; first | contradiction | (exfalso; omega) | skip) | contradiction | skip))) | fail)
    have hmz := t5.mass0 i2 (Nat.le_refl M.g.Acts.length)
    have hml := t5.last (a := i2) hsp2 (Nat.le_refl M.g.Acts.length)
    rw [← hd] at hmz hml
    refine W_forget (N := H.n) (X := []) (h0 := h5) (fun h => RmH M H3.n GY.n va vb vc dl ds vr vx d rl xl h ∧ Top h) (Fr.call hF2 (Fr.jn (N := h2.n) (Fr.refl h2) hJq (Nat.le_refl _)) hn02) ⟨k6.fr (N := h2.n) (by exact frA), (by exact topA)⟩ ?_
    rintro h7 F57 ⟨k7, T7⟩
    have F07 : Fr H.n [] H h7 := Fr.trans Fb5 F57
    obtain ⟨d4, d15⟩ := k7.bd
    have s4 : h7.rd H3.n = some [va, vb, vc] := by rw [rd_def, k7.g4]; rfl
    have s15 : h7.rd GY.n = some [dl, ds] := by rw [rd_def, k7.g15]; rfl
    have z4 := k7.g4
    have z15 := k7.g15
    have Sl7 : SR h7 1 d.left.length dl (d.left.map iv) := k7.sl
    have Ss7 : SR h7 1 d.last.length ds (d.last.map iv) := k7.ss
    have hG7 := k7.hG
    have y1 := hG7.p.lt; have y2 := hG7.q.lt; have y3 := hG7.r.lt; have y4 := Ss7.lt; have y5 := Sl7.lt
    obtain ⟨n, hn⟩ : ∃ n, n = d.mass M.g i2 := ⟨_, rfl⟩
    rw [← hn] at hEg hmz hml
    refine W_drawnP (fun e h => h = h7 ∧ e 18 = .bool (decide (n = 0) || decide (kindOf M.g d i2 = kind)) ∧ e 4 = vptr H3.n 0 ∧ e 9 = iv kind ∧ e 10 = iv mass ∧ e 11 = vr ∧ e 13 = vx ∧ e 15 = vptr GY.n 0 ∧ e 16 = iv i2 ∧ e 17 = iv n) ?_ ?_
    · simp only [↓pb, ↓pd, qds, tb9, hEg, irN, nrA, nrM, nrE, reduceIte, reduceCtorEq, nrL]
      by_cases hn0 : n = 0
      · repeat' (first | ((with_reducible refine hK _ _ fun e2 hEn => ?_); clear hK K; simp only [lv9, forallC, forallL, and_true] at hEn; (try simp only [↓pb, qbs, tb9, hn0, s4, s15, z4, z15, ias31 Ss7, Ss7.rd, Ss7.el1 rfl, Ss7.mapB, ias24 hG7.r, hG7.r.rd, (hG7.r.el eAct_len rfl), eAct, hG7.r.mapB, ne_eq, not_true_eq_false, decide_false, decide_true, hEg, irN, nrA, nrM, nrE, reduceIte, reduceCtorEq, nrL] at hEn); clear hEg; (try clear eg); have hEg := hEn; clear hEn; rename Env => eg) | ((with_reducible first | apply oV_intro | apply oH_intro | apply oB_intro); (simp (disch := first | exact dA | fail) only [qcs, tb9, hn0, s4, s15, z4, z15, ias31 Ss7, Ss7.rd, Ss7.el1 rfl, Ss7.mapB, ias24 hG7.r, hG7.r.rd, (hG7.r.el eAct_len rfl), eAct, hG7.r.mapB, ne_eq, not_true_eq_false, decide_false, decide_true, hEg, irN, nrA, nrM, nrE, reduceIte, reduceCtorEq, nrL]; with_reducible exact rfl); try simp only [↓pb, ↓pd, qds, tb9, hn0, s4, s15, z4, z15, ias31 Ss7, Ss7.rd, Ss7.el1 rfl, Ss7.mapB, ias24 hG7.r, hG7.r.rd, (hG7.r.el eAct_len rfl), eAct, hG7.r.mapB, ne_eq, not_true_eq_false, decide_false, decide_true, hEg, irN, nrA, nrM, nrE, reduceIte, reduceCtorEq, nrL]) | ((with_reducible first | apply oblA_and | apply oblR_and | apply oblO_and); (focus exact obA); try simp only [↓pb, ↓pd, qds, tb9, hn0, s4, s15, z4, z15, ias31 Ss7, Ss7.rd, Ss7.el1 rfl, Ss7.mapB, ias24 hG7.r, hG7.r.rd, (hG7.r.el eAct_len rfl), eAct, hG7.r.mapB, ne_eq, not_true_eq_false, decide_false, decide_true, hEg, irN, nrA, nrM, nrE, reduceIte, reduceCtorEq, nrL]) | ((with_reducible first | apply WO_gT | apply WO_gF | apply WD_gT | apply WD_gF); exact rfl; (simp only [↓pb, qbs, tb9, hn0, s4, s15, z4, z15, ias31 Ss7, Ss7.rd, Ss7.el1 rfl, Ss7.mapB, ias24 hG7.r, hG7.r.rd, (hG7.r.el eAct_len rfl), eAct, hG7.r.mapB, ne_eq, not_true_eq_false, decide_false, decide_true, hEg, irN, nrA, nrM, nrE, reduceIte, reduceCtorEq, nrL]; with_reducible exact rfl); all_goals (intro hc; (first | exact absurd hc (by decide) | (simp only [hcs] at hc; first | contradiction | (exfalso; omega) | skip) | contradiction | skip); try simp only [↓pb, ↓pd, qds, tb9, hn0, s4, s15, z4, z15, ias31 Ss7, Ss7.rd, Ss7.el1 rfl, Ss7.mapB, ias24 hG7.r, hG7.r.rd, (hG7.r.el eAct_len rfl), eAct, hG7.r.mapB, ne_eq, not_true_eq_false, decide_false, decide_true, hc, hEg, irN, nrA, nrM, nrE, reduceIte, reduceCtorEq, nrL])) | (with_reducible first | refine W_seq ?_ | refine W_block ?_ | refine W_scope ?_ | refine W_skip ?_ | refine W_ret ?_ | refine W_exit ?_ | refine W_label ?_ | apply blockK_exit) | ((with_reducible apply blockK_pass); (focus decide)) | ((with_reducible refine W_regionF lv9 fun K hK => ?_); try simp only [↓pb, qbs, tb9, hn0, s4, s15, z4, z15, ias31 Ss7, Ss7.rd, Ss7.el1 rfl, Ss7.mapB, ias24 hG7.r, hG7.r.rd, (hG7.r.el eAct_len rfl), eAct, hG7.r.mapB, ne_eq, not_true_eq_false, decide_false, decide_true, hEg, irN, nrA, nrM, nrE, reduceIte, reduceCtorEq, nrL]) | ((with_reducible refine W_drawnF lv9 fun K hK => ?_); try simp only [↓pb, ↓pd, qds, tb9, hn0, s4, s15, z4, z15, ias31 Ss7, Ss7.rd, Ss7.el1 rfl, Ss7.mapB, ias24 hG7.r, hG7.r.rd, (hG7.r.el eAct_len rfl), eAct, hG7.r.mapB, ne_eq, not_true_eq_false, decide_false, decide_true, hEg, irN, nrA, nrM, nrE, reduceIte, reduceCtorEq, nrL]) | ((with_reducible apply W_cond); (simp only [↓pb, qbs, tb9, hn0, s4, s15, z4, z15, ias31 Ss7, Ss7.rd, Ss7.el1 rfl, Ss7.mapB, ias24 hG7.r, hG7.r.rd, (hG7.r.el eAct_len rfl), eAct, hG7.r.mapB, ne_eq, not_true_eq_false, decide_false, decide_true, hEg, irN, nrA, nrM, nrE, reduceIte, reduceCtorEq, nrL]; with_reducible exact rfl); all_goals (intro hc; (first | exact absurd hc (by decide) | (simp only [hcs] at hc; first | contradiction | (exfalso; omega) | skip) | contradiction | skip))) | fail)
        simp
      · have hmm := hml hn0
        have hdf : d.last.getD i2 default = d.last.getD i2 0 := rfl
        have hko : kindOf M.g d i2 = (M.g.Acts.getD (d.last.getD i2 0).toNat default).Kind := rfl
        obtain ⟨lt, hlt⟩ : ∃ lt, lt = d.last.getD i2 0 := ⟨_, rfl⟩
        rw [← hlt] at hdf hmm hko
        rw [hko]
        repeat' (first | ((with_reducible refine hK _ _ fun e2 hEn => ?_); clear hK K; simp only [lv9, forallC, forallL, and_true] at hEn; (try simp only [↓pb, qbs, tb9, hn0, hdf, s4, s15, z4, z15, ias31 Ss7, Ss7.rd, Ss7.el1 rfl, Ss7.mapB, ias24 hG7.r, hG7.r.rd, (hG7.r.el eAct_len rfl), eAct, hG7.r.mapB, ne_eq, not_true_eq_false, decide_false, decide_true, hEg, irN, nrA, nrM, nrE, reduceIte, reduceCtorEq, nrL] at hEn); clear hEg; (try clear eg); have hEg := hEn; clear hEn; rename Env => eg) | ((with_reducible first | apply oV_intro | apply oH_intro | apply oB_intro); (simp (disch := first | exact dA | fail) only [qcs, tb9, hn0, hdf, s4, s15, z4, z15, ias31 Ss7, Ss7.rd, Ss7.el1 rfl, Ss7.mapB, ias24 hG7.r, hG7.r.rd, (hG7.r.el eAct_len rfl), eAct, hG7.r.mapB, ne_eq, not_true_eq_false, decide_false, decide_true, hEg, irN, nrA, nrM, nrE, reduceIte, reduceCtorEq, nrL]; with_reducible exact rfl); try simp only [↓pb, ↓pd, qds, tb9, hn0, hdf, s4, s15, z4, z15, ias31 Ss7, Ss7.rd, Ss7.el1 rfl, Ss7.mapB, ias24 hG7.r, hG7.r.rd, (hG7.r.el eAct_len rfl), eAct, hG7.r.mapB, ne_eq, not_true_eq_false, decide_false, decide_true, hEg, irN, nrA, nrM, nrE, reduceIte, reduceCtorEq, nrL]) | ((with_reducible first | apply oblA_and | apply oblR_and | apply oblO_and); (focus exact obA); try simp only [↓pb, ↓pd, qds, tb9, hn0, hdf, s4, s15, z4, z15, ias31 Ss7, Ss7.rd, Ss7.el1 rfl, Ss7.mapB, ias24 hG7.r, hG7.r.rd, (hG7.r.el eAct_len rfl), eAct, hG7.r.mapB, ne_eq, not_true_eq_false, decide_false, decide_true, hEg, irN, nrA, nrM, nrE, reduceIte, reduceCtorEq, nrL]) | ((with_reducible first | apply WO_gT | apply WO_gF | apply WD_gT | apply WD_gF); exact rfl; (simp only [↓pb, qbs, tb9, hn0, hdf, s4, s15, z4, z15, ias31 Ss7, Ss7.rd, Ss7.el1 rfl, Ss7.mapB, ias24 hG7.r, hG7.r.rd, (hG7.r.el eAct_len rfl), eAct, hG7.r.mapB, ne_eq, not_true_eq_false, decide_false, decide_true, hEg, irN, nrA, nrM, nrE, reduceIte, reduceCtorEq, nrL]; with_reducible exact rfl); all_goals (intro hc; (first | exact absurd hc (by decide) | (simp only [hcs] at hc; first | contradiction | (exfalso; omega) | skip) | contradiction | skip); try simp only [↓pb, ↓pd, qds, tb9, hn0, hdf, s4, s15, z4, z15, ias31 Ss7, Ss7.rd, Ss7.el1 rfl, Ss7.mapB, ias24 hG7.r, hG7.r.rd, (hG7.r.el eAct_len rfl), eAct, hG7.r.mapB, ne_eq, not_true_eq_false, decide_false, decide_true, hc, hEg, irN, nrA, nrM, nrE, reduceIte, reduceCtorEq, nrL])) | (with_reducible first | refine W_seq ?_ | refine W_block ?_ | refine W_scope ?_ | refine W_skip ?_ | refine W_ret ?_ | refine W_exit ?_ | refine W_label ?_ | apply blockK_exit) | ((with_reducible apply blockK_pass); (focus decide)) | ((with_reducible refine W_regionF lv9 fun K hK => ?_); try simp only [↓pb, qbs, tb9, hn0, hdf, s4, s15, z4, z15, ias31 Ss7, Ss7.rd, Ss7.el1 rfl, Ss7.mapB, ias24 hG7.r, hG7.r.rd, (hG7.r.el eAct_len rfl), eAct, hG7.r.mapB, ne_eq, not_true_eq_false, decide_false, decide_true, hEg, irN, nrA, nrM, nrE, reduceIte, reduceCtorEq, nrL]) | ((with_reducible refine W_drawnF lv9 fun K hK => ?_); try simp only [↓pb, ↓pd, qds, tb9, hn0, hdf, s4, s15, z4, z15, ias31 Ss7, Ss7.rd, Ss7.el1 rfl, Ss7.mapB, ias24 hG7.r, hG7.r.rd, (hG7.r.el eAct_len rfl), eAct, hG7.r.mapB, ne_eq, not_true_eq_false, decide_false, decide_true, hEg, irN, nrA, nrM, nrE, reduceIte, reduceCtorEq, nrL]) | ((with_reducible apply W_cond); (simp only [↓pb, qbs, tb9, hn0, hdf, s4, s15, z4, z15, ias31 Ss7, Ss7.rd, Ss7.el1 rfl, Ss7.mapB, ias24 hG7.r, hG7.r.rd, (hG7.r.el eAct_len rfl), eAct, hG7.r.mapB, ne_eq, not_true_eq_false, decide_false, decide_true, hEg, irN, nrA, nrM, nrE, reduceIte, reduceCtorEq, nrL]; with_reducible exact rfl); all_goals (intro hc; (first | exact absurd hc (by decide) | (simp only [hcs] at hc; first | contradiction | (exfalso; omega) | skip) | contradiction | skip))) | fail)
        rw [Bool.false_or]
    rintro e8 h8 ⟨rfl, g18, g4, g9, g10, g11, g13, g15, g16, g17⟩
    have hEg := And.intro g18 (And.intro g4 (And.intro g9 (And.intro g10 (And.intro g11 (And.intro g13 (And.intro g15 (And.intro g16 g17)))))))
    clear g18 g4 g9 g10 g11 g13 g15 g16 g17
    repeat' (first | ((with_reducible refine hK _ _ fun e2 hEn => ?_); clear hK K; simp only [lv9, forallC, forallL, and_true] at hEn; (try simp only [↓pb, qbs, tb9, hEg, irN, nrA, nrM, nrE, reduceIte, reduceCtorEq, nrL] at hEn); clear hEg; (try clear eg); have hEg := hEn; clear hEn; rename Env => eg) | ((with_reducible first | apply oV_intro | apply oH_intro | apply oB_intro); (simp (disch := first | exact dA | fail) only [qcs, tb9, hEg, irN, nrA, nrM, nrE, reduceIte, reduceCtorEq, nrL]; with_reducible exact rfl); try simp only [↓pb, ↓pd, qds, tb9, hEg, irN, nrA, nrM, nrE, reduceIte, reduceCtorEq, nrL]) | ((with_reducible first | apply oblA_and | apply oblR_and | apply oblO_and); (focus exact obA); try simp only [↓pb, ↓pd, qds, tb9, hEg, irN, nrA, nrM, nrE, reduceIte, reduceCtorEq, nrL]) | ((with_reducible first | apply WO_gT | apply WO_gF | apply WD_gT | apply WD_gF); exact rfl; (simp only [↓pb, qbs, tb9, hEg, irN, nrA, nrM, nrE, reduceIte, reduceCtorEq, nrL]; with_reducible exact rfl); all_goals (intro hc; (first | exact absurd hc (by decide) | (simp only [hcs] at hc; first | contradiction | (exfalso; omega) | skip) | contradiction | skip); try simp only [↓pb, ↓pd, qds, tb9, hc, hEg, irN, nrA, nrM, nrE, reduceIte, reduceCtorEq, nrL])) | (with_reducible first | refine W_seq ?_ | refine W_block ?_ | refine W_scope ?_ | refine W_skip ?_ | refine W_ret ?_ | refine W_exit ?_ | refine W_label ?_ | apply blockK_exit) | ((with_reducible apply blockK_pass); (focus decide)) | ((with_reducible refine W_regionE lv9 [19] fun K hK => ?_); try simp only [↓pb, qbs, tb9, hEg, irN, nrA, nrM, nrE, reduceIte, reduceCtorEq, nrL]) | ((with_reducible refine W_drawnE lv9 [19] fun K hK => ?_); try simp only [↓pb, ↓pd, qds, tb9, hEg, irN, nrA, nrM, nrE, reduceIte, reduceCtorEq, nrL]) | ((with_reducible apply W_cond); (simp only [↓pb, qbs, tb9, hEg, irN, nrA, nrM, nrE, reduceIte, reduceCtorEq, nrL]; with_reducible exact rfl); all_goals (intro hc; (first | exact absurd hc (by decide) | (simp only [hcs] at hc; first | contradiction | (exfalso; omega) | skip) | contradiction | skip))) | fail)
    refine W_drawnP (fun e h => h = h8 ∧ e 18 = .bool (fineA M.g d kind mass i2) ∧ e 4 = vptr H3.n 0 ∧ e 9 = iv kind ∧ e 10 = iv mass ∧ e 11 = vr ∧ e 13 = vx ∧ e 15 = vptr GY.n 0 ∧ e 16 = iv i2) ?_ ?_
    · simp only [↓pb, ↓pd, qds, tb9, hEg, irN, nrA, nrM, nrE, reduceIte, reduceCtorEq, nrL]
      have hfa : fineA M.g d kind mass i2 = ((decide (n = 0) || decide (kindOf M.g d i2 = kind)) && decide (w64 (100 * w64 (n + mass)) ≤ w64 (w64 ((M.g.Sorts.getD kind.toNat default).High * (M.g.Sorts.getD kind.toNat default).Dense) * (M.g.Spots.getD i2 default).Area))) := by rw [hn]; rfl
      rw [hfa]
      cases hb : (decide (n = 0) || decide (kindOf M.g d i2 = kind)) with
      | true =>
        repeat' (first | ((with_reducible refine hK _ _ fun e2 hEn => ?_); clear hK K; simp only [lv9, forallC, forallL, and_true] at hEn; (try simp only [↓pb, qbs, tb9, hb, s4, s15, z4, z15, ias22 hG7.p, hG7.p.rd, (hG7.p.el eSpo_len rfl), eSpo, ias23 hG7.q, hG7.q.rd, (hG7.q.el eSrt_len rfl), eSrt, hG7.p.mapB, hG7.q.mapB, hEg, irN, nrA, nrM, nrE, reduceIte, reduceCtorEq, nrL] at hEn); clear hEg; (try clear eg); have hEg := hEn; clear hEn; rename Env => eg) | ((with_reducible first | apply oV_intro | apply oH_intro | apply oB_intro); (simp (disch := first | exact dA | fail) only [qcs, tb9, hb, s4, s15, z4, z15, ias22 hG7.p, hG7.p.rd, (hG7.p.el eSpo_len rfl), eSpo, ias23 hG7.q, hG7.q.rd, (hG7.q.el eSrt_len rfl), eSrt, hG7.p.mapB, hG7.q.mapB, hEg, irN, nrA, nrM, nrE, reduceIte, reduceCtorEq, nrL]; with_reducible exact rfl); try simp only [↓pb, ↓pd, qds, tb9, hb, s4, s15, z4, z15, ias22 hG7.p, hG7.p.rd, (hG7.p.el eSpo_len rfl), eSpo, ias23 hG7.q, hG7.q.rd, (hG7.q.el eSrt_len rfl), eSrt, hG7.p.mapB, hG7.q.mapB, hEg, irN, nrA, nrM, nrE, reduceIte, reduceCtorEq, nrL]) | ((with_reducible first | apply oblA_and | apply oblR_and | apply oblO_and); (focus exact obA); try simp only [↓pb, ↓pd, qds, tb9, hb, s4, s15, z4, z15, ias22 hG7.p, hG7.p.rd, (hG7.p.el eSpo_len rfl), eSpo, ias23 hG7.q, hG7.q.rd, (hG7.q.el eSrt_len rfl), eSrt, hG7.p.mapB, hG7.q.mapB, hEg, irN, nrA, nrM, nrE, reduceIte, reduceCtorEq, nrL]) | ((with_reducible first | apply WO_gT | apply WO_gF | apply WD_gT | apply WD_gF); exact rfl; (simp only [↓pb, qbs, tb9, hb, s4, s15, z4, z15, ias22 hG7.p, hG7.p.rd, (hG7.p.el eSpo_len rfl), eSpo, ias23 hG7.q, hG7.q.rd, (hG7.q.el eSrt_len rfl), eSrt, hG7.p.mapB, hG7.q.mapB, hEg, irN, nrA, nrM, nrE, reduceIte, reduceCtorEq, nrL]; with_reducible exact rfl); all_goals (intro hc; (first | exact absurd hc (by decide) | (simp only [hcs] at hc; first | contradiction | (exfalso; omega) | skip) | contradiction | skip); try simp only [↓pb, ↓pd, qds, tb9, hb, s4, s15, z4, z15, ias22 hG7.p, hG7.p.rd, (hG7.p.el eSpo_len rfl), eSpo, ias23 hG7.q, hG7.q.rd, (hG7.q.el eSrt_len rfl), eSrt, hG7.p.mapB, hG7.q.mapB, hc, hEg, irN, nrA, nrM, nrE, reduceIte, reduceCtorEq, nrL])) | (with_reducible first | refine W_seq ?_ | refine W_block ?_ | refine W_scope ?_ | refine W_skip ?_ | refine W_ret ?_ | refine W_exit ?_ | refine W_label ?_ | apply blockK_exit) | ((with_reducible apply blockK_pass); (focus decide)) | ((with_reducible refine W_regionF lv9 fun K hK => ?_); try simp only [↓pb, qbs, tb9, hb, s4, s15, z4, z15, ias22 hG7.p, hG7.p.rd, (hG7.p.el eSpo_len rfl), eSpo, ias23 hG7.q, hG7.q.rd, (hG7.q.el eSrt_len rfl), eSrt, hG7.p.mapB, hG7.q.mapB, hEg, irN, nrA, nrM, nrE, reduceIte, reduceCtorEq, nrL]) | ((with_reducible refine W_drawnF lv9 fun K hK => ?_); try simp only [↓pb, ↓pd, qds, tb9, hb, s4, s15, z4, z15, ias22 hG7.p, hG7.p.rd, (hG7.p.el eSpo_len rfl), eSpo, ias23 hG7.q, hG7.q.rd, (hG7.q.el eSrt_len rfl), eSrt, hG7.p.mapB, hG7.q.mapB, hEg, irN, nrA, nrM, nrE, reduceIte, reduceCtorEq, nrL]) | ((with_reducible apply W_cond); (simp only [↓pb, qbs, tb9, hb, s4, s15, z4, z15, ias22 hG7.p, hG7.p.rd, (hG7.p.el eSpo_len rfl), eSpo, ias23 hG7.q, hG7.q.rd, (hG7.q.el eSrt_len rfl), eSrt, hG7.p.mapB, hG7.q.mapB, hEg, irN, nrA, nrM, nrE, reduceIte, reduceCtorEq, nrL]; with_reducible exact rfl); all_goals (intro hc; (first | exact absurd hc (by decide) | (simp only [hcs] at hc; first | contradiction | (exfalso; omega) | skip) | contradiction | skip))) | fail)
        rfl
      | false =>
        repeat' (first | ((with_reducible refine hK _ _ fun e2 hEn => ?_); clear hK K; simp only [lv9, forallC, forallL, and_true] at hEn; (try simp only [↓pb, qbs, tb9, hb, s4, s15, z4, z15, hEg, irN, nrA, nrM, nrE, reduceIte, reduceCtorEq, nrL] at hEn); clear hEg; (try clear eg); have hEg := hEn; clear hEn; rename Env => eg) | ((with_reducible first | apply oV_intro | apply oH_intro | apply oB_intro); (simp (disch := first | exact dA | fail) only [qcs, tb9, hb, s4, s15, z4, z15, hEg, irN, nrA, nrM, nrE, reduceIte, reduceCtorEq, nrL]; with_reducible exact rfl); try simp only [↓pb, ↓pd, qds, tb9, hb, s4, s15, z4, z15, hEg, irN, nrA, nrM, nrE, reduceIte, reduceCtorEq, nrL]) | ((with_reducible first | apply oblA_and | apply oblR_and | apply oblO_and); (focus exact obA); try simp only [↓pb, ↓pd, qds, tb9, hb, s4, s15, z4, z15, hEg, irN, nrA, nrM, nrE, reduceIte, reduceCtorEq, nrL]) | ((with_reducible first | apply WO_gT | apply WO_gF | apply WD_gT | apply WD_gF); exact rfl; (simp only [↓pb, qbs, tb9, hb, s4, s15, z4, z15, hEg, irN, nrA, nrM, nrE, reduceIte, reduceCtorEq, nrL]; with_reducible exact rfl); all_goals (intro hc; (first | exact absurd hc (by decide) | (simp only [hcs] at hc; first | contradiction | (exfalso; omega) | skip) | contradiction | skip); try simp only [↓pb, ↓pd, qds, tb9, hb, s4, s15, z4, z15, hc, hEg, irN, nrA, nrM, nrE, reduceIte, reduceCtorEq, nrL])) | (with_reducible first | refine W_seq ?_ | refine W_block ?_ | refine W_scope ?_ | refine W_skip ?_ | refine W_ret ?_ | refine W_exit ?_ | refine W_label ?_ | apply blockK_exit) | ((with_reducible apply blockK_pass); (focus decide)) | ((with_reducible refine W_regionF lv9 fun K hK => ?_); try simp only [↓pb, qbs, tb9, hb, s4, s15, z4, z15, hEg, irN, nrA, nrM, nrE, reduceIte, reduceCtorEq, nrL]) | ((with_reducible refine W_drawnF lv9 fun K hK => ?_); try simp only [↓pb, ↓pd, qds, tb9, hb, s4, s15, z4, z15, hEg, irN, nrA, nrM, nrE, reduceIte, reduceCtorEq, nrL]) | ((with_reducible apply W_cond); (simp only [↓pb, qbs, tb9, hb, s4, s15, z4, z15, hEg, irN, nrA, nrM, nrE, reduceIte, reduceCtorEq, nrL]; with_reducible exact rfl); all_goals (intro hc; (first | exact absurd hc (by decide) | (simp only [hcs] at hc; first | contradiction | (exfalso; omega) | skip) | contradiction | skip))) | fail)
        rfl
    rintro e9 h9 ⟨rfl, g18, g4, g9, g10, g11, g13, g15, g16⟩
    have hEg := And.intro g18 (And.intro g4 (And.intro g9 (And.intro g10 (And.intro g11 (And.intro g13 (And.intro g15 g16))))))
    clear g18 g4 g9 g10 g11 g13 g15 g16 hmz hml hn
    repeat' (first | ((with_reducible refine hK _ _ fun e2 hEn => ?_); clear hK K; simp only [lv9, forallC, forallL, and_true] at hEn; (try simp only [↓pb, qbs, tb9, hEg, irN, nrA, nrM, nrE, reduceIte, reduceCtorEq, nrL] at hEn); clear hEg; (try clear eg); have hEg := hEn; clear hEn; rename Env => eg) | ((with_reducible first | apply oV_intro | apply oH_intro | apply oB_intro); (simp (disch := first | exact dA | fail) only [qcs, tb9, hEg, irN, nrA, nrM, nrE, reduceIte, reduceCtorEq, nrL]; with_reducible exact rfl); try simp only [↓pb, ↓pd, qds, tb9, hEg, irN, nrA, nrM, nrE, reduceIte, reduceCtorEq, nrL]) | ((with_reducible first | apply oblA_and | apply oblR_and | apply oblO_and); (focus exact obA); try simp only [↓pb, ↓pd, qds, tb9, hEg, irN, nrA, nrM, nrE, reduceIte, reduceCtorEq, nrL]) | ((with_reducible first | apply WO_gT | apply WO_gF | apply WD_gT | apply WD_gF); exact rfl; (simp only [↓pb, qbs, tb9, hEg, irN, nrA, nrM, nrE, reduceIte, reduceCtorEq, nrL]; with_reducible exact rfl); all_goals (intro hc; (first | exact absurd hc (by decide) | (simp only [hcs] at hc; first | contradiction | (exfalso; omega) | skip) | contradiction | skip); try simp only [↓pb, ↓pd, qds, tb9, hc, hEg, irN, nrA, nrM, nrE, reduceIte, reduceCtorEq, nrL])) | (with_reducible first | refine W_seq ?_ | refine W_block ?_ | refine W_scope ?_ | refine W_skip ?_ | refine W_ret ?_ | refine W_exit ?_ | refine W_label ?_ | apply blockK_exit) | ((with_reducible apply blockK_pass); (focus decide)) | ((with_reducible refine W_regionF lv9 fun K hK => ?_); try simp only [↓pb, qbs, tb9, hEg, irN, nrA, nrM, nrE, reduceIte, reduceCtorEq, nrL]) | ((with_reducible refine W_drawnF lv9 fun K hK => ?_); try simp only [↓pb, ↓pd, qds, tb9, hEg, irN, nrA, nrM, nrE, reduceIte, reduceCtorEq, nrL]) | ((with_reducible apply W_cond); (simp only [↓pb, qbs, tb9, hEg, irN, nrA, nrM, nrE, reduceIte, reduceCtorEq, nrL]; with_reducible exact rfl); all_goals (intro hc; (first | exact absurd hc (by decide) | (simp only [hcs] at hc; first | contradiction | (exfalso; omega) | skip) | contradiction | skip))) | fail)
    obtain ⟨fa, hfa⟩ : ∃ fa, fa = fineA M.g d kind mass i2 := ⟨_, rfl⟩
    have hfine : fine M.g d kind mass i2 = (fa && (List.range M.g.Spots.length).all fun b => !badB M.g d kind i2 b) := by rw [hfa]; rfl
    rw [← hfa] at hEg
    refine W_count [4, 9, 10, 11, 13, 15, 16] (by kernel_rfl) 19 (M.g.Spots.length) (H.n) [] [] (fun i e h => e 18 = .bool (fa && (List.range i).all fun b => !badB M.g d kind i2 b)) (by simp only [↓pb, qbs, tb9, hEg, irN, nrA, nrM, nrE, reduceIte, reduceCtorEq, nrL]) (by focus exact topA) (H0 := H) (by focus exact frA) (by intro b hb hlt; simp at hb ⊢; try omega) ?_ ?_
    rotate_left
    intro i3 e3 h3 hi3 hE3 ei3 hF3 hF03 hTh3 hJ3
    simp only [forallC, forallL, and_true] at hE3
    try simp only [↓pb, qbs, tb9, hEg, irN, nrA, nrM, nrE, reduceIte, reduceCtorEq, nrL] at hE3
    have hn13 := hF3.n; have hn03 := hF03.n; try simp only [upd_n, jn_n] at hn13
    replace hEg := And.intro ei3 hE3
    rotate_left
    · simp only [↓pb, qbs, tb9, hEg, irN, nrA, nrM, nrE, reduceIte, reduceCtorEq, nrL]
      simp
    have kA := k7.fr hF3
    have FA5 : Fr H.n [] h5 h3 := Fr.trans F57 hF3
    obtain ⟨dA4, dA15⟩ := kA.bd
    have sA4 : h3.rd H3.n = some [va, vb, vc] := by rw [rd_def, kA.g4]; rfl
    have sA15 : h3.rd GY.n = some [dl, ds] := by rw [rd_def, kA.g15]; rfl
    have zA4 := kA.g4
    have zA15 := kA.g15
    have SlA : SR h3 1 d.left.length dl (d.left.map iv) := kA.sl
    have SsA : SR h3 1 d.last.length ds (d.last.map iv) := kA.ss
    have hGA := kA.hG
    have yA1 := hGA.p.lt; have yA3 := hGA.r.lt; have yA4 := SsA.lt; have yA5 := SlA.lt
    by_cases hi4 : i3 < M.g.Spots.length
    · have hmz := t5.mass0 i3 (Nat.le_refl M.g.Acts.length)
      have hml := t5.last (a := i3) hi4 (Nat.le_refl M.g.Acts.length)
      have hkf := t5.kindOf i3 d (Nat.le_refl M.g.Acts.length)
      rw [← hd] at hmz hml
      have hdf : d.last.getD i3 default = d.last.getD i3 0 := rfl
      have hko : kindOf M.g d i3 = (M.g.Acts.getD (d.last.getD i3 0).toNat default).Kind := rfl
      obtain ⟨lt, hlt⟩ : ∃ lt, lt = d.last.getD i3 0 := ⟨_, rfl⟩
      rw [← hlt] at hdf hml hko hkf
      have hbB : badB M.g d kind i2 i3 = (decide (i3 ≠ i2) && decide (0 < d.mass M.g i3) && nearS M.g i2 i3 kind (M.g.Acts.getD lt.toNat default).Kind) := by rw [← hko]; rfl
      rw [hko] at hkf
      repeat' (first | ((with_reducible refine hK _ _ fun e2 hEn => ?_); clear hK K; simp only [lv9, forallC, forallL, and_true] at hEn; (try simp only [↓pb, qbs, tb9, lns22 hp, sA4, zA4, hJ3, hEg, irN, nrA, nrM, nrE, reduceIte, reduceCtorEq, nrL] at hEn); clear hEg; (try clear eg); have hEg := hEn; clear hEn; rename Env => eg) | ((with_reducible first | apply oV_intro | apply oH_intro | apply oB_intro); (simp (disch := first | exact dA | fail) only [qcs, tb9, lns22 hp, sA4, zA4, hJ3, hEg, irN, nrA, nrM, nrE, reduceIte, reduceCtorEq, nrL]; with_reducible exact rfl); try simp only [↓pb, ↓pd, qds, tb9, lns22 hp, sA4, zA4, hJ3, hEg, irN, nrA, nrM, nrE, reduceIte, reduceCtorEq, nrL]) | ((with_reducible first | apply oblA_and | apply oblR_and | apply oblO_and); (focus exact obA); try simp only [↓pb, ↓pd, qds, tb9, lns22 hp, sA4, zA4, hJ3, hEg, irN, nrA, nrM, nrE, reduceIte, reduceCtorEq, nrL]) | ((with_reducible first | apply WO_gT | apply WO_gF | apply WD_gT | apply WD_gF); exact rfl; (simp only [↓pb, qbs, tb9, lns22 hp, sA4, zA4, hJ3, hEg, irN, nrA, nrM, nrE, reduceIte, reduceCtorEq, nrL]; with_reducible exact rfl); all_goals (intro hc; (first | exact absurd hc (by decide) | (simp only [hcs] at hc; first | contradiction | (exfalso; omega) | skip) | contradiction | skip); try simp only [↓pb, ↓pd, qds, tb9, lns22 hp, sA4, zA4, hJ3, hc, hEg, irN, nrA, nrM, nrE, reduceIte, reduceCtorEq, nrL])) | (with_reducible first | refine W_seq ?_ | refine W_block ?_ | refine W_scope ?_ | refine W_skip ?_ | refine W_ret ?_ | refine W_exit ?_ | refine W_label ?_ | apply blockK_exit) | ((with_reducible apply blockK_pass); (focus decide)) | ((with_reducible refine W_regionE lv9 [23] fun K hK => ?_); try simp only [↓pb, qbs, tb9, lns22 hp, sA4, zA4, hJ3, hEg, irN, nrA, nrM, nrE, reduceIte, reduceCtorEq, nrL]) | ((with_reducible refine W_drawnE lv9 [23] fun K hK => ?_); try simp only [↓pb, ↓pd, qds, tb9, lns22 hp, sA4, zA4, hJ3, hEg, irN, nrA, nrM, nrE, reduceIte, reduceCtorEq, nrL]) | ((with_reducible apply W_cond); (simp only [↓pb, qbs, tb9, lns22 hp, sA4, zA4, hJ3, hEg, irN, nrA, nrM, nrE, reduceIte, reduceCtorEq, nrL]; with_reducible exact rfl); all_goals (intro hc; (first | exact absurd hc (by decide) | (simp only [hcs] at hc; first | contradiction | (exfalso; omega) | skip) | contradiction | skip))) | fail)
      refine W_drawnP (fun e h => e 179 = .bool (badB M.g d kind i2 i3) ∧ e 4 = vptr H3.n 0 ∧ e 9 = iv kind ∧ e 10 = iv mass ∧ e 11 = vr ∧ e 13 = vx ∧ e 15 = vptr GY.n 0 ∧ e 16 = iv i2 ∧ e 18 = .bool (fa && (List.range i3).all fun b => !badB M.g d kind i2 b) ∧ e 19 = iv i3 ∧ Fr h3.n [] h3 h ∧ Top h) ?_ ?_
      · simp only [↓pb, ↓pd, qds, tb9, hEg, irN, nrA, nrM, nrE, reduceIte, reduceCtorEq, nrL]
        by_cases hne : i3 = i2
        · have hne' : (i3 : Int) = i2 := by omega
          repeat' (first | ((with_reducible refine hK _ _ fun e2 hEn => ?_); clear hK K; simp only [lv9, forallC, forallL, and_true] at hEn; (try simp only [↓pb, qbs, tb9, hne', ne_eq, not_true_eq_false, not_false_eq_true, decide_false, decide_true, sA4, sA15, zA4, zA15, hJ3, hEg, irN, nrA, nrM, nrE, reduceIte, reduceCtorEq, nrL] at hEn); clear hEg; (try clear eg); have hEg := hEn; clear hEn; rename Env => eg) | ((with_reducible first | apply oV_intro | apply oH_intro | apply oB_intro); (simp (disch := first | exact dA | fail) only [qcs, tb9, hne', ne_eq, not_true_eq_false, not_false_eq_true, decide_false, decide_true, sA4, sA15, zA4, zA15, hJ3, hEg, irN, nrA, nrM, nrE, reduceIte, reduceCtorEq, nrL]; with_reducible exact rfl); try simp only [↓pb, ↓pd, qds, tb9, hne', ne_eq, not_true_eq_false, not_false_eq_true, decide_false, decide_true, sA4, sA15, zA4, zA15, hJ3, hEg, irN, nrA, nrM, nrE, reduceIte, reduceCtorEq, nrL]) | ((with_reducible first | apply oblA_and | apply oblR_and | apply oblO_and); (focus exact obA); try simp only [↓pb, ↓pd, qds, tb9, hne', ne_eq, not_true_eq_false, not_false_eq_true, decide_false, decide_true, sA4, sA15, zA4, zA15, hJ3, hEg, irN, nrA, nrM, nrE, reduceIte, reduceCtorEq, nrL]) | ((with_reducible first | apply WO_gT | apply WO_gF | apply WD_gT | apply WD_gF); exact rfl; (simp only [↓pb, qbs, tb9, hne', ne_eq, not_true_eq_false, not_false_eq_true, decide_false, decide_true, sA4, sA15, zA4, zA15, hJ3, hEg, irN, nrA, nrM, nrE, reduceIte, reduceCtorEq, nrL]; with_reducible exact rfl); all_goals (intro hc; (first | exact absurd hc (by decide) | (simp only [hcs] at hc; first | contradiction | (exfalso; omega) | skip) | contradiction | skip); try simp only [↓pb, ↓pd, qds, tb9, hne', ne_eq, not_true_eq_false, not_false_eq_true, decide_false, decide_true, sA4, sA15, zA4, zA15, hJ3, hc, hEg, irN, nrA, nrM, nrE, reduceIte, reduceCtorEq, nrL])) | (with_reducible first | refine W_seq ?_ | refine W_block ?_ | refine W_scope ?_ | refine W_skip ?_ | refine W_ret ?_ | refine W_exit ?_ | refine W_label ?_ | apply blockK_exit) | ((with_reducible apply blockK_pass); (focus decide)) | ((with_reducible refine W_regionF lv9 fun K hK => ?_); try simp only [↓pb, qbs, tb9, hne', ne_eq, not_true_eq_false, not_false_eq_true, decide_false, decide_true, sA4, sA15, zA4, zA15, hJ3, hEg, irN, nrA, nrM, nrE, reduceIte, reduceCtorEq, nrL]) | ((with_reducible refine W_drawnF lv9 fun K hK => ?_); try simp only [↓pb, ↓pd, qds, tb9, hne', ne_eq, not_true_eq_false, not_false_eq_true, decide_false, decide_true, sA4, sA15, zA4, zA15, hJ3, hEg, irN, nrA, nrM, nrE, reduceIte, reduceCtorEq, nrL]) | ((with_reducible apply W_cond); (simp only [↓pb, qbs, tb9, hne', ne_eq, not_true_eq_false, not_false_eq_true, decide_false, decide_true, sA4, sA15, zA4, zA15, hJ3, hEg, irN, nrA, nrM, nrE, reduceIte, reduceCtorEq, nrL]; with_reducible exact rfl); all_goals (intro hc; (first | exact absurd hc (by decide) | (simp only [hcs] at hc; first | contradiction | (exfalso; omega) | skip) | contradiction | skip))) | fail)
          refine ⟨by rw [hbB]; simp [hne], Fr.refl _, hTh3⟩
        · have hne' : ¬ (i3 : Int) = i2 := by omega
          by_cases hmp : 0 < d.mass M.g i3
          · have hll := hml (by omega)
            have hkl := hkf (by omega)
            repeat' (first | ((with_reducible refine hK _ _ fun e2 hEn => ?_); clear hK K; simp only [lv9, forallC, forallL, and_true] at hEn; (try simp only [↓pb, qbs, tb9, hne', hmp, ne_eq, not_true_eq_false, not_false_eq_true, decide_false, decide_true, hdf, sA4, sA15, zA4, zA15, ias31 SsA, SsA.rd, SsA.el1 rfl, SsA.mapB, ias24 hGA.r, hGA.r.rd, (hGA.r.el eAct_len rfl), eAct, hGA.r.mapB, hgo, ods, odl, hms, hJ3, hEg, irN, nrA, nrM, nrE, reduceIte, reduceCtorEq, nrL] at hEn); clear hEg; (try clear eg); have hEg := hEn; clear hEn; rename Env => eg) | ((with_reducible first | apply oV_intro | apply oH_intro | apply oB_intro); (simp (disch := first | exact dA | fail) only [qcs, tb9, hne', hmp, ne_eq, not_true_eq_false, not_false_eq_true, decide_false, decide_true, hdf, sA4, sA15, zA4, zA15, ias31 SsA, SsA.rd, SsA.el1 rfl, SsA.mapB, ias24 hGA.r, hGA.r.rd, (hGA.r.el eAct_len rfl), eAct, hGA.r.mapB, hgo, ods, odl, hms, hJ3, hEg, irN, nrA, nrM, nrE, reduceIte, reduceCtorEq, nrL]; with_reducible exact rfl); try simp only [↓pb, ↓pd, qds, tb9, hne', hmp, ne_eq, not_true_eq_false, not_false_eq_true, decide_false, decide_true, hdf, sA4, sA15, zA4, zA15, ias31 SsA, SsA.rd, SsA.el1 rfl, SsA.mapB, ias24 hGA.r, hGA.r.rd, (hGA.r.el eAct_len rfl), eAct, hGA.r.mapB, hgo, ods, odl, hms, hJ3, hEg, irN, nrA, nrM, nrE, reduceIte, reduceCtorEq, nrL]) | ((with_reducible first | apply oblA_and | apply oblR_and | apply oblO_and); (focus exact obA); try simp only [↓pb, ↓pd, qds, tb9, hne', hmp, ne_eq, not_true_eq_false, not_false_eq_true, decide_false, decide_true, hdf, sA4, sA15, zA4, zA15, ias31 SsA, SsA.rd, SsA.el1 rfl, SsA.mapB, ias24 hGA.r, hGA.r.rd, (hGA.r.el eAct_len rfl), eAct, hGA.r.mapB, hgo, ods, odl, hms, hJ3, hEg, irN, nrA, nrM, nrE, reduceIte, reduceCtorEq, nrL]) | ((with_reducible first | apply WO_gT | apply WO_gF | apply WD_gT | apply WD_gF); exact rfl; (simp only [↓pb, qbs, tb9, hne', hmp, ne_eq, not_true_eq_false, not_false_eq_true, decide_false, decide_true, hdf, sA4, sA15, zA4, zA15, ias31 SsA, SsA.rd, SsA.el1 rfl, SsA.mapB, ias24 hGA.r, hGA.r.rd, (hGA.r.el eAct_len rfl), eAct, hGA.r.mapB, hgo, ods, odl, hms, hJ3, hEg, irN, nrA, nrM, nrE, reduceIte, reduceCtorEq, nrL]; with_reducible exact rfl); all_goals (intro hc; (first | exact absurd hc (by decide) | (simp only [hcs] at hc; first | contradiction | (exfalso; omega) | skip) | contradiction | skip); try simp only [↓pb, ↓pd, qds, tb9, hne', hmp, ne_eq, not_true_eq_false, not_false_eq_true, decide_false, decide_true, hdf, sA4, sA15, zA4, zA15, ias31 SsA, SsA.rd, SsA.el1 rfl, SsA.mapB, ias24 hGA.r, hGA.r.rd, (hGA.r.el eAct_len rfl), eAct, hGA.r.mapB, hgo, ods, odl, hms, hJ3, hc, hEg, irN, nrA, nrM, nrE, reduceIte, reduceCtorEq, nrL])) | ((with_reducible apply WO_callV); (focus exact topA); (simp only [↓pb, qbs, tb9, hne', hmp, ne_eq, not_true_eq_false, not_false_eq_true, decide_false, decide_true, hdf, sA4, sA15, zA4, zA15, ias31 SsA, SsA.rd, SsA.el1 rfl, SsA.mapB, ias24 hGA.r, hGA.r.rd, (hGA.r.el eAct_len rfl), eAct, hGA.r.mapB, hgo, ods, odl, hms, hJ3, hEg, irN, nrA, nrM, nrE, reduceIte, reduceCtorEq, nrL]; (first | exact f37 _ _ _ _ _ _ _ _ _ (by exact topA) (kA.fr (N := h3.n) (by exact frA)).hG (kA.fr (N := h3.n) (by exact frA)).sl ods (by omega) (by omega) | exact f48 _ _ _ _ _ _ _ _ _ (by exact topA) (kA.fr (N := h3.n) (by exact frA)).hG hsp2 hi4 hk hkl)); (intro Gq hq hJq; try simp only [upd_n, jn_n] at hq); try simp only [↓pb, ↓pd, qds, tb9, hne', hmp, ne_eq, not_true_eq_false, not_false_eq_true, decide_false, decide_true, hdf, sA4, sA15, zA4, zA15, ias31 SsA, SsA.rd, SsA.el1 rfl, SsA.mapB, ias24 hGA.r, hGA.r.rd, (hGA.r.el eAct_len rfl), eAct, hGA.r.mapB, hgo, ods, odl, hms, hJ3, hEg, irN, nrA, nrM, nrE, reduceIte, reduceCtorEq, nrL]) | (with_reducible first | refine W_seq ?_ | refine W_block ?_ | refine W_scope ?_ | refine W_skip ?_ | refine W_ret ?_ | refine W_exit ?_ | refine W_label ?_ | apply blockK_exit) | ((with_reducible apply blockK_pass); (focus decide)) | ((with_reducible refine W_regionF lv9 fun K hK => ?_); try simp only [↓pb, qbs, tb9, hne', hmp, ne_eq, not_true_eq_false, not_false_eq_true, decide_false, decide_true, hdf, sA4, sA15, zA4, zA15, ias31 SsA, SsA.rd, SsA.el1 rfl, SsA.mapB, ias24 hGA.r, hGA.r.rd, (hGA.r.el eAct_len rfl), eAct, hGA.r.mapB, hgo, ods, odl, hms, hJ3, hEg, irN, nrA, nrM, nrE, reduceIte, reduceCtorEq, nrL]) | ((with_reducible refine W_drawnF lv9 fun K hK => ?_); try simp only [↓pb, ↓pd, qds, tb9, hne', hmp, ne_eq, not_true_eq_false, not_false_eq_true, decide_false, decide_true, hdf, sA4, sA15, zA4, zA15, ias31 SsA, SsA.rd, SsA.el1 rfl, SsA.mapB, ias24 hGA.r, hGA.r.rd, (hGA.r.el eAct_len rfl), eAct, hGA.r.mapB, hgo, ods, odl, hms, hJ3, hEg, irN, nrA, nrM, nrE, reduceIte, reduceCtorEq, nrL]) | ((with_reducible apply W_cond); (simp only [↓pb, qbs, tb9, hne', hmp, ne_eq, not_true_eq_false, not_false_eq_true, decide_false, decide_true, hdf, sA4, sA15, zA4, zA15, ias31 SsA, SsA.rd, SsA.el1 rfl, SsA.mapB, ias24 hGA.r, hGA.r.rd, (hGA.r.el eAct_len rfl), eAct, hGA.r.mapB, hgo, ods, odl, hms, hJ3, hEg, irN, nrA, nrM, nrE, reduceIte, reduceCtorEq, nrL]; with_reducible exact rfl); all_goals (intro hc; (first | exact absurd hc (by decide) | (simp only [hcs] at hc; first | contradiction | (exfalso; omega) | skip) | contradiction | skip))) | fail)
            exact ⟨by rw [hbB]; simp [hmp, hne], (by exact frA), (by exact topA)⟩
          · repeat' (first | ((with_reducible refine hK _ _ fun e2 hEn => ?_); clear hK K; simp only [lv9, forallC, forallL, and_true] at hEn; (try simp only [↓pb, qbs, tb9, hne', hmp, ne_eq, not_true_eq_false, not_false_eq_true, decide_false, decide_true, sA4, sA15, zA4, zA15, hgo, ods, odl, hms, hJ3, hEg, irN, nrA, nrM, nrE, reduceIte, reduceCtorEq, nrL] at hEn); clear hEg; (try clear eg); have hEg := hEn; clear hEn; rename Env => eg) | ((with_reducible first | apply oV_intro | apply oH_intro | apply oB_intro); (simp (disch := first | exact dA | fail) only [qcs, tb9, hne', hmp, ne_eq, not_true_eq_false, not_false_eq_true, decide_false, decide_true, sA4, sA15, zA4, zA15, hgo, ods, odl, hms, hJ3, hEg, irN, nrA, nrM, nrE, reduceIte, reduceCtorEq, nrL]; with_reducible exact rfl); try simp only [↓pb, ↓pd, qds, tb9, hne', hmp, ne_eq, not_true_eq_false, not_false_eq_true, decide_false, decide_true, sA4, sA15, zA4, zA15, hgo, ods, odl, hms, hJ3, hEg, irN, nrA, nrM, nrE, reduceIte, reduceCtorEq, nrL]) | ((with_reducible first | apply oblA_and | apply oblR_and | apply oblO_and); (focus exact obA); try simp only [↓pb, ↓pd, qds, tb9, hne', hmp, ne_eq, not_true_eq_false, not_false_eq_true, decide_false, decide_true, sA4, sA15, zA4, zA15, hgo, ods, odl, hms, hJ3, hEg, irN, nrA, nrM, nrE, reduceIte, reduceCtorEq, nrL]) | ((with_reducible first | apply WO_gT | apply WO_gF | apply WD_gT | apply WD_gF); exact rfl; (simp only [↓pb, qbs, tb9, hne', hmp, ne_eq, not_true_eq_false, not_false_eq_true, decide_false, decide_true, sA4, sA15, zA4, zA15, hgo, ods, odl, hms, hJ3, hEg, irN, nrA, nrM, nrE, reduceIte, reduceCtorEq, nrL]; with_reducible exact rfl); all_goals (intro hc; (first | exact absurd hc (by decide) | (simp only [hcs] at hc; first | contradiction | (exfalso; omega) | skip) | contradiction | skip); try simp only [↓pb, ↓pd, qds, tb9, hne', hmp, ne_eq, not_true_eq_false, not_false_eq_true, decide_false, decide_true, sA4, sA15, zA4, zA15, hgo, ods, odl, hms, hJ3, hc, hEg, irN, nrA, nrM, nrE, reduceIte, reduceCtorEq, nrL])) | ((with_reducible apply WO_callV); (focus exact topA); (simp only [↓pb, qbs, tb9, hne', hmp, ne_eq, not_true_eq_false, not_false_eq_true, decide_false, decide_true, sA4, sA15, zA4, zA15, hgo, ods, odl, hms, hJ3, hEg, irN, nrA, nrM, nrE, reduceIte, reduceCtorEq, nrL]; (exact f37 _ _ _ _ _ _ _ _ _ (by exact topA) (kA.fr (N := h3.n) (by exact frA)).hG (kA.fr (N := h3.n) (by exact frA)).sl ods (by omega) (by omega))); (intro Gq hq hJq; try simp only [upd_n, jn_n] at hq); try simp only [↓pb, ↓pd, qds, tb9, hne', hmp, ne_eq, not_true_eq_false, not_false_eq_true, decide_false, decide_true, sA4, sA15, zA4, zA15, hgo, ods, odl, hms, hJ3, hEg, irN, nrA, nrM, nrE, reduceIte, reduceCtorEq, nrL]) | (with_reducible first | refine W_seq ?_ | refine W_block ?_ | refine W_scope ?_ | refine W_skip ?_ | refine W_ret ?_ | refine W_exit ?_ | refine W_label ?_ | apply blockK_exit) | ((with_reducible apply blockK_pass); (focus decide)) | ((with_reducible refine W_regionF lv9 fun K hK => ?_); try simp only [↓pb, qbs, tb9, hne', hmp, ne_eq, not_true_eq_false, not_false_eq_true, decide_false, decide_true, sA4, sA15, zA4, zA15, hgo, ods, odl, hms, hJ3, hEg, irN, nrA, nrM, nrE, reduceIte, reduceCtorEq, nrL]) | ((with_reducible refine W_drawnF lv9 fun K hK => ?_); try simp only [↓pb, ↓pd, qds, tb9, hne', hmp, ne_eq, not_true_eq_false, not_false_eq_true, decide_false, decide_true, sA4, sA15, zA4, zA15, hgo, ods, odl, hms, hJ3, hEg, irN, nrA, nrM, nrE, reduceIte, reduceCtorEq, nrL]) | ((with_reducible apply W_cond); (simp only [↓pb, qbs, tb9, hne', hmp, ne_eq, not_true_eq_false, not_false_eq_true, decide_false, decide_true, sA4, sA15, zA4, zA15, hgo, ods, odl, hms, hJ3, hEg, irN, nrA, nrM, nrE, reduceIte, reduceCtorEq, nrL]; with_reducible exact rfl); all_goals (intro hc; (first | exact absurd hc (by decide) | (simp only [hcs] at hc; first | contradiction | (exfalso; omega) | skip) | contradiction | skip))) | fail)
            exact ⟨by rw [hbB]; simp [hmp], (by exact frA), (by exact topA)⟩
      clear hbB hdf hko hml hkf hmz
      rintro e4 h4 ⟨g179, g4, g9, g10, g11, g13, g15, g16, g18, g19, F34, T4⟩
      have hEg := And.intro g179 (And.intro g4 (And.intro g9 (And.intro g10 (And.intro g11 (And.intro g13 (And.intro g15 (And.intro g16 (And.intro g18 g19))))))))
      clear g179 g4 g9 g10 g11 g13 g15 g16 g18 g19
      have Fn4 : Fr H.n [] h9 h4 := Fr.call hF3 F34 hF03.n
      have hrs : ((List.range (i3 + 1)).all fun b => !badB M.g d kind i2 b) = (((List.range i3).all fun b => !badB M.g d kind i2 b) && !badB M.g d kind i2 i3) := by
        rw [List.range_succ, List.all_append]
        show (_ && ((!badB M.g d kind i2 i3) && true)) = _
        rw [Bool.and_true]
      repeat' (first | ((with_reducible refine hK _ _ fun e2 hEn => ?_); clear hK K; simp only [lv9, forallC, forallL, and_true] at hEn; (try simp only [↓pb, qbs, tb9, hEg, irN, nrA, nrM, nrE, reduceIte, reduceCtorEq, nrL] at hEn); clear hEg; (try clear eg); have hEg := hEn; clear hEn; rename Env => eg) | ((with_reducible first | apply oV_intro | apply oH_intro | apply oB_intro); (simp (disch := first | exact dA | fail) only [qcs, tb9, hEg, irN, nrA, nrM, nrE, reduceIte, reduceCtorEq, nrL]; with_reducible exact rfl); try simp only [↓pb, ↓pd, qds, tb9, hEg, irN, nrA, nrM, nrE, reduceIte, reduceCtorEq, nrL]) | ((with_reducible first | apply oblA_and | apply oblR_and | apply oblO_and); (focus exact obA); try simp only [↓pb, ↓pd, qds, tb9, hEg, irN, nrA, nrM, nrE, reduceIte, reduceCtorEq, nrL]) | ((with_reducible first | apply WO_gT | apply WO_gF | apply WD_gT | apply WD_gF); exact rfl; (simp only [↓pb, qbs, tb9, hEg, irN, nrA, nrM, nrE, reduceIte, reduceCtorEq, nrL]; with_reducible exact rfl); all_goals (intro hc; (first | exact absurd hc (by decide) | (simp only [hcs] at hc; first | contradiction | (exfalso; omega) | skip) | contradiction | skip); try simp only [↓pb, ↓pd, qds, tb9, hc, hEg, irN, nrA, nrM, nrE, reduceIte, reduceCtorEq, nrL])) | (with_reducible first | refine W_seq ?_ | refine W_block ?_ | refine W_scope ?_ | refine W_skip ?_ | refine W_ret ?_ | refine W_exit ?_ | refine W_label ?_ | apply blockK_exit) | ((with_reducible apply blockK_pass); (focus decide)) | ((with_reducible refine W_regionF lv9 fun K hK => ?_); try simp only [↓pb, qbs, tb9, hEg, irN, nrA, nrM, nrE, reduceIte, reduceCtorEq, nrL]) | ((with_reducible refine W_drawnF lv9 fun K hK => ?_); try simp only [↓pb, ↓pd, qds, tb9, hEg, irN, nrA, nrM, nrE, reduceIte, reduceCtorEq, nrL]) | ((with_reducible apply W_cond); (simp only [↓pb, qbs, tb9, hEg, irN, nrA, nrM, nrE, reduceIte, reduceCtorEq, nrL]; with_reducible exact rfl); all_goals (intro hc; (first | exact absurd hc (by decide) | (simp only [hcs] at hc; first | contradiction | (exfalso; omega) | skip) | contradiction | skip))) | fail)
      · refine ⟨by omega, by simp only [↓pb, qbs, tb9, hEg, irN, nrA, nrM, nrE, reduceIte, reduceCtorEq, nrL]; exact congrArg _ (inc64 (by omega)), by focus exact frA, ?_⟩
        rw [hEg.2.2.2.2.2.2.2.1, hrs, hc]
        simp
      · refine ⟨by omega, by simp only [↓pb, qbs, tb9, hEg, irN, nrA, nrM, nrE, reduceIte, reduceCtorEq, nrL]; exact congrArg _ (inc64 (by omega)), by focus exact frA, ?_⟩
        rw [hEg.2.2.2.2.2.2.2.1, hrs, hc]
        simp
    · have e3n : i3 = M.g.Spots.length := by omega
      have on := one i2 hsp2
      rw [hfine] at on
      have hxs := kA.sx
      have hrs := kA.sr
      rw [e3n] at hJ3
      cases hff : (fa && (List.range M.g.Spots.length).all fun b => !badB M.g d kind i2 b) with
      | true =>
        rw [hff] at on hJ3
        have hx1 : decide ((i2 : Int) ∈ xl) = true := decide_eq_true (on.1.2 rfl)
        cases hr1 : decide ((i2 : Int) ∈ rl) with
        | true =>
          repeat' (first | ((with_reducible refine hK _ _ fun e2 hEn => ?_); clear hK K; simp only [lv9, forallC, forallL, and_true] at hEn; (try simp only [↓pb, qbs, tb9, ne_eq, not_true_eq_false, decide_false, decide_true, Bool.false_eq_true, lns22 hp, sA4, zA4, hJ3, hx1, hr1, hEg, irN, nrA, nrM, nrE, reduceIte, reduceCtorEq, nrL] at hEn); clear hEg; (try clear eg); have hEg := hEn; clear hEn; rename Env => eg) | ((with_reducible first | apply oV_intro | apply oH_intro | apply oB_intro); (simp (disch := first | exact dA | fail) only [qcs, tb9, ne_eq, not_true_eq_false, decide_false, decide_true, Bool.false_eq_true, lns22 hp, sA4, zA4, hJ3, hx1, hr1, hEg, irN, nrA, nrM, nrE, reduceIte, reduceCtorEq, nrL]; with_reducible exact rfl); try simp only [↓pb, ↓pd, qds, tb9, ne_eq, not_true_eq_false, decide_false, decide_true, Bool.false_eq_true, lns22 hp, sA4, zA4, hJ3, hx1, hr1, hEg, irN, nrA, nrM, nrE, reduceIte, reduceCtorEq, nrL]) | ((with_reducible first | apply oblA_and | apply oblR_and | apply oblO_and); (focus exact obA); try simp only [↓pb, ↓pd, qds, tb9, ne_eq, not_true_eq_false, decide_false, decide_true, Bool.false_eq_true, lns22 hp, sA4, zA4, hJ3, hx1, hr1, hEg, irN, nrA, nrM, nrE, reduceIte, reduceCtorEq, nrL]) | ((with_reducible first | apply WO_gT | apply WO_gF | apply WD_gT | apply WD_gF); exact rfl; (simp only [↓pb, qbs, tb9, ne_eq, not_true_eq_false, decide_false, decide_true, Bool.false_eq_true, lns22 hp, sA4, zA4, hJ3, hx1, hr1, hEg, irN, nrA, nrM, nrE, reduceIte, reduceCtorEq, nrL]; with_reducible exact rfl); all_goals (intro hc; (first | exact absurd hc (by decide) | (simp only [hcs] at hc; first | contradiction | (exfalso; omega) | skip) | contradiction | skip); try simp only [↓pb, ↓pd, qds, tb9, ne_eq, not_true_eq_false, decide_false, decide_true, Bool.false_eq_true, lns22 hp, sA4, zA4, hJ3, hx1, hr1, hc, hEg, irN, nrA, nrM, nrE, reduceIte, reduceCtorEq, nrL])) | ((with_reducible apply WO_callE); (simp only [↓pb, qbs, tb9, ne_eq, not_true_eq_false, decide_false, decide_true, Bool.false_eq_true, lns22 hp, sA4, zA4, hJ3, hx1, hr1, hEg, irN, nrA, nrM, nrE, reduceIte, reduceCtorEq, nrL]; (first | exact f49 _ _ _ _ hTh3 hxs (by omega) | exact f49 _ _ _ _ hTh3 hrs (by omega))); try simp only [↓pb, ↓pd, qds, tb9, ne_eq, not_true_eq_false, decide_false, decide_true, Bool.false_eq_true, lns22 hp, sA4, zA4, hJ3, hx1, hr1, hEg, irN, nrA, nrM, nrE, reduceIte, reduceCtorEq, nrL]) | (with_reducible first | refine W_seq ?_ | refine W_block ?_ | refine W_scope ?_ | refine W_skip ?_ | refine W_ret ?_ | refine W_exit ?_ | refine W_label ?_ | apply blockK_exit) | ((with_reducible apply blockK_pass); (focus decide)) | ((with_reducible refine W_regionF lv9 fun K hK => ?_); try simp only [↓pb, qbs, tb9, ne_eq, not_true_eq_false, decide_false, decide_true, Bool.false_eq_true, lns22 hp, sA4, zA4, hJ3, hx1, hr1, hEg, irN, nrA, nrM, nrE, reduceIte, reduceCtorEq, nrL]) | ((with_reducible refine W_drawnF lv9 fun K hK => ?_); try simp only [↓pb, ↓pd, qds, tb9, ne_eq, not_true_eq_false, decide_false, decide_true, Bool.false_eq_true, lns22 hp, sA4, zA4, hJ3, hx1, hr1, hEg, irN, nrA, nrM, nrE, reduceIte, reduceCtorEq, nrL]) | ((with_reducible apply W_cond); (simp only [↓pb, qbs, tb9, ne_eq, not_true_eq_false, decide_false, decide_true, Bool.false_eq_true, lns22 hp, sA4, zA4, hJ3, hx1, hr1, hEg, irN, nrA, nrM, nrE, reduceIte, reduceCtorEq, nrL]; with_reducible exact rfl); all_goals (intro hc; (first | exact absurd hc (by decide) | (simp only [hcs] at hc; first | contradiction | (exfalso; omega) | skip) | contradiction | skip))) | fail)
          refine ⟨by omega, by simp only [↓pb, qbs, tb9, hEg, irN, nrA, nrM, nrE, reduceIte, reduceCtorEq, nrL]; exact congrArg _ (inc64 (by omega)), by focus exact frA, ?_⟩
          trivial
        | false =>
          repeat' (first | ((with_reducible refine hK _ _ fun e2 hEn => ?_); clear hK K; simp only [lv9, forallC, forallL, and_true] at hEn; (try simp only [↓pb, qbs, tb9, ne_eq, not_true_eq_false, decide_false, decide_true, Bool.false_eq_true, lns22 hp, sA4, zA4, hJ3, hx1, hr1, hEg, irN, nrA, nrM, nrE, reduceIte, reduceCtorEq, nrL] at hEn); clear hEg; (try clear eg); have hEg := hEn; clear hEn; rename Env => eg) | ((with_reducible first | apply oV_intro | apply oH_intro | apply oB_intro); (simp (disch := first | exact dA | fail) only [qcs, tb9, ne_eq, not_true_eq_false, decide_false, decide_true, Bool.false_eq_true, lns22 hp, sA4, zA4, hJ3, hx1, hr1, hEg, irN, nrA, nrM, nrE, reduceIte, reduceCtorEq, nrL]; with_reducible exact rfl); try simp only [↓pb, ↓pd, qds, tb9, ne_eq, not_true_eq_false, decide_false, decide_true, Bool.false_eq_true, lns22 hp, sA4, zA4, hJ3, hx1, hr1, hEg, irN, nrA, nrM, nrE, reduceIte, reduceCtorEq, nrL]) | ((with_reducible first | apply oblA_and | apply oblR_and | apply oblO_and); (focus exact obA); try simp only [↓pb, ↓pd, qds, tb9, ne_eq, not_true_eq_false, decide_false, decide_true, Bool.false_eq_true, lns22 hp, sA4, zA4, hJ3, hx1, hr1, hEg, irN, nrA, nrM, nrE, reduceIte, reduceCtorEq, nrL]) | ((with_reducible first | apply WO_gT | apply WO_gF | apply WD_gT | apply WD_gF); exact rfl; (simp only [↓pb, qbs, tb9, ne_eq, not_true_eq_false, decide_false, decide_true, Bool.false_eq_true, lns22 hp, sA4, zA4, hJ3, hx1, hr1, hEg, irN, nrA, nrM, nrE, reduceIte, reduceCtorEq, nrL]; with_reducible exact rfl); all_goals (intro hc; (first | exact absurd hc (by decide) | (simp only [hcs] at hc; first | contradiction | (exfalso; omega) | skip) | contradiction | skip); try simp only [↓pb, ↓pd, qds, tb9, ne_eq, not_true_eq_false, decide_false, decide_true, Bool.false_eq_true, lns22 hp, sA4, zA4, hJ3, hx1, hr1, hc, hEg, irN, nrA, nrM, nrE, reduceIte, reduceCtorEq, nrL])) | ((with_reducible apply WO_callE); (simp only [↓pb, qbs, tb9, ne_eq, not_true_eq_false, decide_false, decide_true, Bool.false_eq_true, lns22 hp, sA4, zA4, hJ3, hx1, hr1, hEg, irN, nrA, nrM, nrE, reduceIte, reduceCtorEq, nrL]; (first | exact f49 _ _ _ _ hTh3 hxs (by omega) | exact f49 _ _ _ _ hTh3 hrs (by omega))); try simp only [↓pb, ↓pd, qds, tb9, ne_eq, not_true_eq_false, decide_false, decide_true, Bool.false_eq_true, lns22 hp, sA4, zA4, hJ3, hx1, hr1, hEg, irN, nrA, nrM, nrE, reduceIte, reduceCtorEq, nrL]) | (with_reducible first | refine W_seq ?_ | refine W_block ?_ | refine W_scope ?_ | refine W_skip ?_ | refine W_ret ?_ | refine W_exit ?_ | refine W_label ?_ | apply blockK_exit) | ((with_reducible apply blockK_pass); (focus decide)) | ((with_reducible refine W_regionF lv9 fun K hK => ?_); try simp only [↓pb, qbs, tb9, ne_eq, not_true_eq_false, decide_false, decide_true, Bool.false_eq_true, lns22 hp, sA4, zA4, hJ3, hx1, hr1, hEg, irN, nrA, nrM, nrE, reduceIte, reduceCtorEq, nrL]) | ((with_reducible refine W_drawnF lv9 fun K hK => ?_); try simp only [↓pb, ↓pd, qds, tb9, ne_eq, not_true_eq_false, decide_false, decide_true, Bool.false_eq_true, lns22 hp, sA4, zA4, hJ3, hx1, hr1, hEg, irN, nrA, nrM, nrE, reduceIte, reduceCtorEq, nrL]) | ((with_reducible apply W_cond); (simp only [↓pb, qbs, tb9, ne_eq, not_true_eq_false, decide_false, decide_true, Bool.false_eq_true, lns22 hp, sA4, zA4, hJ3, hx1, hr1, hEg, irN, nrA, nrM, nrE, reduceIte, reduceCtorEq, nrL]; with_reducible exact rfl); all_goals (intro hc; (first | exact absurd hc (by decide) | (simp only [hcs] at hc; first | contradiction | (exfalso; omega) | skip) | contradiction | skip))) | fail)
          refine ⟨by omega, by simp only [↓pb, qbs, tb9, hEg, irN, nrA, nrM, nrE, reduceIte, reduceCtorEq, nrL]; exact congrArg _ (inc64 (by omega)), by focus exact frA, ?_⟩
          trivial
      | false =>
        rw [hff] at on hJ3
        have hx1 : decide ((i2 : Int) ∈ xl) = false := decide_eq_false fun q => by have := on.1.1 q; cases this
        have hr1 : decide ((i2 : Int) ∈ rl) = false := decide_eq_false fun q => by have := on.2 q; cases this
        repeat' (first | ((with_reducible refine hK _ _ fun e2 hEn => ?_); clear hK K; simp only [lv9, forallC, forallL, and_true] at hEn; (try simp only [↓pb, qbs, tb9, ne_eq, not_true_eq_false, decide_false, decide_true, Bool.false_eq_true, lns22 hp, sA4, zA4, hJ3, hx1, hr1, hEg, irN, nrA, nrM, nrE, reduceIte, reduceCtorEq, nrL] at hEn); clear hEg; (try clear eg); have hEg := hEn; clear hEn; rename Env => eg) | ((with_reducible first | apply oV_intro | apply oH_intro | apply oB_intro); (simp (disch := first | exact dA | fail) only [qcs, tb9, ne_eq, not_true_eq_false, decide_false, decide_true, Bool.false_eq_true, lns22 hp, sA4, zA4, hJ3, hx1, hr1, hEg, irN, nrA, nrM, nrE, reduceIte, reduceCtorEq, nrL]; with_reducible exact rfl); try simp only [↓pb, ↓pd, qds, tb9, ne_eq, not_true_eq_false, decide_false, decide_true, Bool.false_eq_true, lns22 hp, sA4, zA4, hJ3, hx1, hr1, hEg, irN, nrA, nrM, nrE, reduceIte, reduceCtorEq, nrL]) | ((with_reducible first | apply oblA_and | apply oblR_and | apply oblO_and); (focus exact obA); try simp only [↓pb, ↓pd, qds, tb9, ne_eq, not_true_eq_false, decide_false, decide_true, Bool.false_eq_true, lns22 hp, sA4, zA4, hJ3, hx1, hr1, hEg, irN, nrA, nrM, nrE, reduceIte, reduceCtorEq, nrL]) | ((with_reducible first | apply WO_gT | apply WO_gF | apply WD_gT | apply WD_gF); exact rfl; (simp only [↓pb, qbs, tb9, ne_eq, not_true_eq_false, decide_false, decide_true, Bool.false_eq_true, lns22 hp, sA4, zA4, hJ3, hx1, hr1, hEg, irN, nrA, nrM, nrE, reduceIte, reduceCtorEq, nrL]; with_reducible exact rfl); all_goals (intro hc; (first | exact absurd hc (by decide) | (simp only [hcs] at hc; first | contradiction | (exfalso; omega) | skip) | contradiction | skip); try simp only [↓pb, ↓pd, qds, tb9, ne_eq, not_true_eq_false, decide_false, decide_true, Bool.false_eq_true, lns22 hp, sA4, zA4, hJ3, hx1, hr1, hc, hEg, irN, nrA, nrM, nrE, reduceIte, reduceCtorEq, nrL])) | ((with_reducible apply WO_callE); (simp only [↓pb, qbs, tb9, ne_eq, not_true_eq_false, decide_false, decide_true, Bool.false_eq_true, lns22 hp, sA4, zA4, hJ3, hx1, hr1, hEg, irN, nrA, nrM, nrE, reduceIte, reduceCtorEq, nrL]; (first | exact f49 _ _ _ _ hTh3 hxs (by omega) | exact f49 _ _ _ _ hTh3 hrs (by omega))); try simp only [↓pb, ↓pd, qds, tb9, ne_eq, not_true_eq_false, decide_false, decide_true, Bool.false_eq_true, lns22 hp, sA4, zA4, hJ3, hx1, hr1, hEg, irN, nrA, nrM, nrE, reduceIte, reduceCtorEq, nrL]) | (with_reducible first | refine W_seq ?_ | refine W_block ?_ | refine W_scope ?_ | refine W_skip ?_ | refine W_ret ?_ | refine W_exit ?_ | refine W_label ?_ | apply blockK_exit) | ((with_reducible apply blockK_pass); (focus decide)) | ((with_reducible refine W_regionF lv9 fun K hK => ?_); try simp only [↓pb, qbs, tb9, ne_eq, not_true_eq_false, decide_false, decide_true, Bool.false_eq_true, lns22 hp, sA4, zA4, hJ3, hx1, hr1, hEg, irN, nrA, nrM, nrE, reduceIte, reduceCtorEq, nrL]) | ((with_reducible refine W_drawnF lv9 fun K hK => ?_); try simp only [↓pb, ↓pd, qds, tb9, ne_eq, not_true_eq_false, decide_false, decide_true, Bool.false_eq_true, lns22 hp, sA4, zA4, hJ3, hx1, hr1, hEg, irN, nrA, nrM, nrE, reduceIte, reduceCtorEq, nrL]) | ((with_reducible apply W_cond); (simp only [↓pb, qbs, tb9, ne_eq, not_true_eq_false, decide_false, decide_true, Bool.false_eq_true, lns22 hp, sA4, zA4, hJ3, hx1, hr1, hEg, irN, nrA, nrM, nrE, reduceIte, reduceCtorEq, nrL]; with_reducible exact rfl); all_goals (intro hc; (first | exact absurd hc (by decide) | (simp only [hcs] at hc; first | contradiction | (exfalso; omega) | skip) | contradiction | skip))) | fail)
        refine ⟨by omega, by simp only [↓pb, qbs, tb9, hEg, irN, nrA, nrM, nrE, reduceIte, reduceCtorEq, nrL]; exact congrArg _ (inc64 (by omega)), by focus exact frA, ?_⟩
        trivial
  · have e2n : i2 = M.g.Spots.length := by omega
    have hp := k6.hG.p
    repeat' (first | ((with_reducible refine hK _ _ fun e2 hEn => ?_); clear hK K; simp only [lv9, forallC, forallL, and_true] at hEn; (try simp only [↓pb, qbs, tb9, q4, p4, lns22 hp, hEg, irN, nrA, nrM, nrE, reduceIte, reduceCtorEq, nrL] at hEn); clear hEg; (try clear eg); have hEg := hEn; clear hEn; rename Env => eg) | ((with_reducible first | apply oV_intro | apply oH_intro | apply oB_intro); (simp (disch := first | exact dA | fail) only [qcs, tb9, q4, p4, lns22 hp, hEg, irN, nrA, nrM, nrE, reduceIte, reduceCtorEq, nrL]; with_reducible exact rfl); try simp only [↓pb, ↓pd, qds, tb9, q4, p4, lns22 hp, hEg, irN, nrA, nrM, nrE, reduceIte, reduceCtorEq, nrL]) | ((with_reducible first | apply oblA_and | apply oblR_and | apply oblO_and); (focus exact obA); try simp only [↓pb, ↓pd, qds, tb9, q4, p4, lns22 hp, hEg, irN, nrA, nrM, nrE, reduceIte, reduceCtorEq, nrL]) | ((with_reducible first | apply WO_gT | apply WO_gF | apply WD_gT | apply WD_gF); exact rfl; (simp only [↓pb, qbs, tb9, q4, p4, lns22 hp, hEg, irN, nrA, nrM, nrE, reduceIte, reduceCtorEq, nrL]; with_reducible exact rfl); all_goals (intro hc; (first | exact absurd hc (by decide) | (simp only [hcs] at hc; first | contradiction | (exfalso; omega) | skip) | contradiction | skip); try simp only [↓pb, ↓pd, qds, tb9, q4, p4, lns22 hp, hc, hEg, irN, nrA, nrM, nrE, reduceIte, reduceCtorEq, nrL])) | ((with_reducible apply WO_callE); (simp only [↓pb, qbs, tb9, q4, p4, lns22 hp, hEg, irN, nrA, nrM, nrE, reduceIte, reduceCtorEq, nrL]; (exact ⟨_, _, Cl.or (hw _ (by exact topA)), rfl, rfl⟩)); try simp only [↓pb, ↓pd, qds, tb9, q4, p4, lns22 hp, hEg, irN, nrA, nrM, nrE, reduceIte, reduceCtorEq, nrL]) | (with_reducible first | refine W_seq ?_ | refine W_block ?_ | refine W_scope ?_ | refine W_skip ?_ | refine W_ret ?_ | refine W_exit ?_ | refine W_label ?_ | apply blockK_exit) | ((with_reducible apply blockK_pass); (focus decide)) | ((with_reducible refine W_regionF lv9 fun K hK => ?_); try simp only [↓pb, qbs, tb9, q4, p4, lns22 hp, hEg, irN, nrA, nrM, nrE, reduceIte, reduceCtorEq, nrL]) | ((with_reducible refine W_drawnF lv9 fun K hK => ?_); try simp only [↓pb, ↓pd, qds, tb9, q4, p4, lns22 hp, hEg, irN, nrA, nrM, nrE, reduceIte, reduceCtorEq, nrL]) | ((with_reducible apply W_cond); (simp only [↓pb, qbs, tb9, q4, p4, lns22 hp, hEg, irN, nrA, nrM, nrE, reduceIte, reduceCtorEq, nrL]; with_reducible exact rfl); all_goals (intro hc; (first | exact absurd hc (by decide) | (simp only [hcs] at hc; first | contradiction | (exfalso; omega) | skip) | contradiction | skip))) | fail)
    refine ⟨by first | exact .inl rfl | exact .inr rfl, ?_⟩
    rw [ret1 Try.results9]
    simp only [↓pb, qbs, tb9, rv_tmp, rv_cell, hEg, irN, nrA, nrM, nrE, reduceIte, reduceCtorEq, nrL]
    repeat ((with_reducible apply oV_intro); (simp (disch := first | exact dA | fail) only [qcs, tb9, hEg, irN, nrA, nrM, nrE, reduceIte, reduceCtorEq, nrL]; exact rfl))
    exact frA
end Go.Proofs.Swa

set_option linter.unusedVariables false
set_option linter.unusedSimpArgs false
namespace Go.Proofs.Swa
open Go
set_option maxRecDepth 1000000 in
/-- The chapter's examples, by a run that computes. -/
theorem awake_run : topX Try.prog noO 200 15 [] isT = true := by kernel_rfl
theorem awake_body : Bodied Try.prog 15 := ⟨_, _, Try.func15, rfl, by kernel_rfl⟩
theorem awake_or (H : AHeap) : OrC Try.prog 15 #[] H (.bool true) H := orC_run (by kernel_rfl) awake_body awake_run H
end Go.Proofs.Swa

set_option maxRecDepth 20000
set_option linter.unusedVariables false
set_option linter.unusedSimpArgs false
namespace Go.Proofs.Swa
open Go
open Nat renaming reduceAdd → nrA, reduceMul → nrM, reduceEqDiff → nrE, reduceLT → nrL
open Int renaming reduceToNat → irN
theorem SR.castZ {H : AHeap} {s m k : Nat} {v : Value} {c : List Value} (h : SR H s m v c) (e : m = k) : SR H s k v c := e ▸ h
end Go.Proofs.Swa
namespace Go.Proofs.Ytkjcijlaehflhaa
open Go.ChangeShapes Go.WideShapes Go.ChangeAt Go.RowKit
open Go.Proofs.Swa (SR ints iv Top Fr RoB RoOk)
theorem cells3 : Try.prog.cellsOf 3 = 1 := by kernel_rfl
theorem own5 : ownKnob Try.prog.godebug = none := by kernel_rfl
section
variable {H : Type} {enc : TypeId × Value → H} {P : Program}
theorem post_of_below {f : Func} {s : ChangeSpec} {apart fresh handsOn again : Bool} {W W' : World} {args : Array Value} {v : Value} {ds gs : List (DataW H)} {before pa pv : List MemPlace}
    (hW : DataW.Whole enc P f.params.toList s.vars apart W args.toList ds gs before)
    (hres : ∀ (b : Nat) (sp : Nat → Bool) (hd : Bool), DataW.TrodAll enc P W' b sp hd f.resultTypes.toList (v.resultList f.resultTypes.size) (s.fn H (ds ++ gs)).results [])
    (hargs : ∀ sp : Nat → Bool, (∀ p ∈ before, sp p.block = true) → DataW.TrodAll enc P W' 0 sp true f.params.toList args.toList (s.fn H (ds ++ gs)).args pa)
    (hvars : ∀ sp : Nat → Bool, (∀ p ∈ before, sp p.block = true) → DataW.TrodVars enc P W' sp s.vars (s.fn H (ds ++ gs)).vars pv)
    (hps : before = pa ++ pv) (hb : Below W.heap.size W W')
    (hok : ∀ (j : Nat) (t : TypeId) (r : Value), f.resultTypes[j]? = some t → (v.resultList f.resultTypes.size)[j]? = some r → Value.okWide P W' .any 0 t r) :
    s.post enc P f apart fresh handsOn again W args v W' := by
  have hlt : ∀ p ∈ before, p.block < W.heap.size := fun p hp => hW.lt p hp
  have hold : ∀ p ∈ before, (fun b => decide (b < W.heap.size)) p.block = true := fun p hp => by simpa using hlt p hp
  refine ⟨ds, gs, before, [], pa, pv, hW, hres _ _ _, hargs _ hold, hvars _ hold, World.keptBut_mono (fun p hp => ⟨hp, ?_⟩) (hb.frame (· ∈ before)), fun _ => ?_⟩
  · rw [hps, List.mem_append] at hp
    exact Or.inr hp
  · obtain ⟨_, _, _, _, _, hz, hn⟩ := hW
    refine ⟨hok, _, _, ([] ++ pa) ++ pv, ⟨[] ++ pa, pv, trodAll_append (hargs _ (fun _ _ => rfl)) (hres _ _ _), hvars _ (fun _ _ => rfl), rfl, ?_, ?_⟩, ?_⟩
    · intro b off hp
      have hin : MemPlace.cell b off ∈ before := by rw [hps]; simpa using hp
      rw [hb.frozen (hlt _ hin)]
      exact hz b off hin
    · intro ha
      have := hn ha
      rw [hps] at this
      simpa using this
    · intro p hp _
      rw [hps]
      simpa using hp
end
def LawInts (f : FuncId) : Prop := ∀ (vl : Value) (l : List Int) (H : Swa.AHeap), Top H → SR H 1 l.length vl (ints l) → l.length ≤ 9223372036854775807 → ∃ v H', Swa.Cl Try.prog (Swa.OrC Try.prog) 0 (.fn f) #[vl] H v H' ∧ v = .bool true ∧ Fr H.n [] H H'
theorem ints_call {f : FuncId} (hf : LawInts f) {H : Type} {enc : TypeId × Value → H} {W : World} {v0 : Value} {d0 : DataW H} {p0 : List MemPlace} {base0 : Nat} (hv : Value.okWide Try.prog W .any base0 31 v0) (h0 : DataW.Trod enc Try.prog W 0 (fun _ => true) true 31 v0 d0 p0) :
    Calls Try.prog f #[v0] W fun e W' => e = .returned (.bool true) ∧ Below W.heap.size W W' := by
  have hmix : Try.prog.follows .mixedOrders = true := by kernel_rfl
  obtain ⟨a0, len, cap, rfl⟩ := okWide_slice Try.underlying31 hv
  obtain ⟨fuel, hf0⟩ := h0
  rcases open_ints Try.underlying31 Try.underlying3 cells3 hf0 with ⟨hcs, hx⟩ | ⟨a, len', cap', zs, hcs, _, hl, hm, hz, hx, hcell, hwz⟩
  · simp [Value.cells] at hcs
    obtain ⟨rfl, rfl, rfl⟩ := hcs
    refine Swa.law_callsC hmix (L := []) (by simp) (Swa.ARel.one (.flat rfl)) ?_
    exact hf _ [] _ (Swa.top_heapOf _) (Swa.GS.nul (s := 1)).sr (by simp)
  · simp [Value.cells] at hcs
    obtain ⟨rfl, rfl, rfl⟩ := hcs
    simp only [if_true] at hz
    unfold maxLen at hm
    by_cases hc : cap = 0
    · subst hc
      have hl0 : len = 0 := by omega
      subst hl0
      refine Swa.law_callsC hmix (L := []) (by simp) (args := #[.slice (some ⟨0, 1, none⟩) 0 0]) (Swa.ARel.one (.empty (by omega))) ?_
      exact hf _ [] _ (Swa.top_heapOf _) ⟨.inr ⟨_, _, _, rfl, Nat.le_refl _⟩, rfl, .inl rfl, .inl rfl⟩ (by simp)
    · have hlen : (ints zs).length = zs.length := Swa.ints_len zs
      have hr := Swa.roOk_of (w := W) (a := a) (cs := ints zs) (T := 3) (by omega) (fun i hi => by
        rw [hcell i (by omega)]
        have : (ints zs)[i] = iv (zs.getD i 0) := by
          have hi2 : i < zs.length := by omega
          simp [ints, hi2]
        rw [this]
        exact ⟨rfl, rfl⟩)
      obtain ⟨b, off, spot⟩ := a
      obtain ⟨hr, hsp⟩ := hr
      dsimp only at hsp
      subst hsp
      refine Swa.law_callsC hmix (L := [⟨b, off, ints zs, 3⟩]) (by intro r hrm; rw [List.mem_singleton.1 hrm]; exact hr) (args := #[.slice (some ⟨0, 0, none⟩) len cap]) (Swa.ARel.one ?_) ?_
      · have := Swa.VRel.slice (ρ := Swa.renOf W [⟨b, off, ints zs, 3⟩]) (b := 0) (o := 0) (n := len) (c := cap) (c' := cap) (im := ⟨b, off, Swa.szOf W b, true, false, 0, 0⟩) rfl (.inr ⟨rfl, rfl⟩) hl
        exact this
      · have hlt : (zs.take len).length = len := by rw [List.length_take]; omega
        have S : SR (Swa.heapOf [⟨b, off, ints zs, 3⟩]) 1 len (.slice (some ⟨0, 0, none⟩) len cap) (ints (zs.take len)) := by
          refine ⟨.inr ⟨_, _, _, rfl, hl⟩, ?_, .inr ⟨ints zs, rfl, ?_, ?_⟩, .inr (Nat.lt_succ_self _)⟩
          · rw [Swa.ints_len, hlt, Nat.mul_one]
          · show 0 + _ ≤ _
            rw [hlen]; omega
          · show ((ints zs).drop 0).take _ = _
            rw [List.drop_zero, Nat.mul_one]
            unfold ints
            rw [← List.map_take]
        exact hf _ (zs.take len) _ (Swa.top_heapOf _) (S.castZ hlt.symm) (by omega)
end Go.Proofs.Ytkjcijlaehflhaa

set_option maxRecDepth 20000
set_option linter.unusedVariables false
set_option linter.unusedSimpArgs false
namespace Go.Proofs.Swa
open Go
open Nat renaming reduceAdd → nrA, reduceMul → nrM, reduceEqDiff → nrE, reduceLT → nrL
open Int renaming reduceToNat → irN
theorem room_ok (l : List Int) : True5 (rmMade l).g (rmMade l).truth ∧ RoomOk (rmMade l).g (rmMade l).truth (rmHour l) (rmKind l) (rmMass l) ∧ (0 ≤ rmKind l ∧ rmKind l < (rmMade l).g.Sorts.length) := by
  have hm := either2 (feedOf l) 4 40
  have T : True5 (rmMade l).g (rmMade l).truth := ground_true (x := rmX l) (spots := 4) (sorts := 3) (acts := 7) (mass := either (feedOf l) [4, 40]) (hours := 16) (by omega) (by omega) (by omega) (by omega) (by omega)
  have hh : ∀ a, a ∈ (rmMade l).g.Acts → a.Hour ≤ 16 := ground_hour (rmX l) 4 3 7 (either (feedOf l) [4, 40]) 16
  have hs := T.ok.sorts
  have h1 : 16 ≤ rmHour l ∧ rmHour l ≤ 20 := btw_spec (by omega) (by omega) (by omega)
  have h2 := below_spec (btwS (rmMade l).x 16 20) (rmMade l).g.Sorts.length (by omega)
  have h2' := h2.2.1 (by omega)
  have h2 : 0 ≤ rmKind l ∧ rmKind l < (rmMade l).g.Sorts.length := ⟨h2.1, h2'⟩
  have h3 : 1 ≤ rmMass l ∧ rmMass l ≤ 40 := btw_spec (by omega) (by omega) (by omega)
  exact ⟨T, room_law T (by omega) (fun a ha => by have := hh a ha; omega) h2 (by omega), h2⟩
theorem room_goes (vl : Value) (l : List Int) (H : AHeap) (hT : Top H) (S : SR H 1 l.length vl (ints l)) (hl : l.length ≤ 9223372036854775807) : ∃ v H', C5 (.fn 9) #[vl] H v H' ∧ v = .bool true ∧ Fr H.n [] H H' := by
  obtain ⟨h1, h2, h3⟩ := room_ok l
  exact f9 vl l H hT S hl (rmMade l) rfl (rmHour l) (rmKind l) (rmMass l) rfl rfl rfl h1 h2 h3 fun H _ => awake_or H
end Go.Proofs.Swa
namespace Go.Proofs.Ytkjcijlaehflhaa
open Go.ChangeShapes Go.WideShapes Go.ChangeAt Go.RowKit
open Go.Proofs.Swa (SR ints iv Top Fr RoB RoOk)
theorem law9 : LawInts 9 := fun vl l H hT S hl => Swa.room_goes vl l H hT S hl
set_option maxRecDepth 100000 in
theorem pileRoom_lifted (os : Os) (started : os.Started) (H : Type) (enc : TypeId × Value → H) :
    ReturnsInHanded {} Try.checked os 9 .any (Rows.pileRoomSpec.pre6 enc Try.prog Try.f9 Rows.pileRoomRow.domain false) (Rows.pileRoomSpec.post enc Try.prog Try.f9 false true false false) := by
  refine returnsInHanded_of_change (C := Try.checked) own5 started (by kernel_rfl) Try.func9
    (ChangeSpec.witness6 (enc := enc) (C := Try.checked) false ⟨#[], #[.slice none 0 0], []⟩ 8 (by kernel_rfl) (by kernel_rfl) (by kernel_rfl) (by kernel_rfl)) ?_
  intro W base args ds gs before hval0 hW hcnd _
  have hval : ∀ (j : Nat) t v, Try.f9.params[j]? = some t → args[j]? = some v → Value.okWide Try.prog W .any base t v := hval0
  have hW' := hW
  have hlt := hW.lt
  obtain ⟨p, q, hA0, hV, rfl, hfz, hnd⟩ := hW
  have hA : DataW.TrodAll enc Try.prog W 0 (fun _ => true) true Try.f9.params.toList args.toList ds p := hA0
  rw [Try.params9] at hA hval
  obtain ⟨v0, vs0, d0, ds0, p0, q0, hargs, rfl, rfl, h0, r0⟩ := trodAll_cons hA
  obtain ⟨rfl, rfl, rfl⟩ := trodAll_nil r0
  obtain rfl : args = #[v0] := by cases args; simp_all
  obtain ⟨rfl, rfl⟩ := trodVars_none hV
  clear hA0 hval0
  simp only [List.append_nil] at hW' hlt
  refine (ints_call law9 (hval 0 31 v0 rfl rfl) h0).mono fun e W' ⟨he, hb⟩ => ?_
  subst he
  have again : ∀ sp : Nat → Bool, (∀ x ∈ p0, sp x.block = true) → DataW.Trod enc Try.prog W' 0 sp true 31 v0 d0 p0 := fun sp hsp =>
    WideElems.Trod_stays (by kernel_rfl) (by kernel_rfl) (of_decide_eq_true (by kernel_rfl)) h0 (fun x hx => hb.same (hlt x hx)) hsp
  exact ⟨_, rfl, post_of_below (pa := p0) (pv := []) hW' (fun _ _ _ => (trodAll_cons_mk (shut_bool Try.underlying4 _) trodAll_mk0)) (fun sp hsp => trodAll_mk1 (again sp hsp)) (fun _ _ => rfl) (by simp) hb (ok_one (by kernel_rfl) rfl (okWide_bool_mk Try.underlying4 _))⟩
theorem pileRoom_holds : Rows.PileRoomSaid :=
  OpenClaim.holds_of_wide 9 Try.f9 rfl rfl rfl rfl rfl rfl rfl ⟨rfl, rfl, rfl, rfl, rfl⟩ rfl rfl rfl rfl rfl (by kernel_rfl) Try.func9 (by kernel_rfl)
    (of_decide_eq_true (by kernel_rfl)) (by unfold Func.isWrapper; first | (rw [if_pos (by decide +kernel)]; kernel_rfl) | (rw [if_neg (by decide +kernel)]; exact ⟨rfl, rfl⟩))
    (fun os started H enc _ => pileRoom_lifted os started H enc)
end Go.Proofs.Ytkjcijlaehflhaa

