/- Part 7 of a proof. -/
import Derived.Test.YtkjcijlaehflhaaP06
set_option linter.unusedVariables false
set_option linter.unusedSimpArgs false
namespace Go.Proofs.Swa
open Go
theorem W_both {P : Program} {C : CallRel} {ng nt : Nat} {r c : Code} {env : Env} {H : AHeap} {Q : Post} (R : Env → AHeap → Prop) (h1 : W P C ng nt r env H (seqK P C ng nt c fun x e h => x = .normal ∧ R e h)) (h2 : ∀ e h, R e h → Q .normal e h) :
  W P C ng nt r env H (seqK P C ng nt c Q) := by
 refine W_mono h1 fun x e h q => ?_
 cases x with
 | normal =>
  refine W_mono q fun x e h q => ?_
  obtain ⟨rfl, q⟩ := q
  exact h2 e h q
 | exit i => cases q.1
 | ret => cases q.1
structure HeapR (H h : AHeap) (va vb vc vh : Value) (spot : Nat) (hour : Int) (p : Hp × Value) (now : Mom) (B8 B9 B10 B11 gB sB L : Nat) (LX : AObj) (out : List Rul) (bf tp : Nat) (vo : Value) (vs : List Value) (gg : Option Nat) : Prop where
 y : h.get H.n = .cells [va, vb, vc, vh] 91 .ex
 s : h.get (H.n + 1) = .cells [iv spot] 3 .ex
 t : h.get (H.n + 2) = .cells [iv hour] 3 .ex
 hp : h.get (H.n + 3) = .cells (eHp p) 99 .ex
 now : h.get B8 = .cells (eMom now) 101 .ex
 o : h.get B9 = .cells [vo] 114 .ex
 b : h.get B10 = .cells [iv bf] 3 .ex
 tp : h.get B11 = .cells [iv tp] 3 .ex
 g : h.get gB = .cells [va, vb, vc] 26 .ex
 sb : h.get sB = .cells [iv spot] 3 .ex
 lo : h.get L = LX
 G : GS h 1 out.length vo vs gg
 gr : ∀ x, gg = some x → H.n ≤ x
 vb : vblk vo ∉ [B9, B10, B11, L] ∧ H.n ≤ vblk vo
 R : RulesV h [B9, B10, B11, L] vs out
 F : Fr H.n [] H h
 T : Top h
 lt : L < h.n
def InRow (a b c d e f g i : Nat) : Prop := a + 3 < b ∧ b < c ∧ c < d ∧ d < e ∧ e < f ∧ f < g ∧ g < i
section
variable {H h h' : AHeap} {va vb vc vh : Value} {spot : Nat} {hour : Int} {p : Hp × Value} {now : Mom} {B8 B9 B10 B11 gB sB L : Nat} {LX : AObj} {out : List Rul} {bf tp : Nat} {vo : Value} {vs : List Value} {gg : Option Nat}
theorem HeapR.mono (k : HeapR H h va vb vc vh spot hour p now B8 B9 B10 B11 gB sB L LX out bf tp vo vs gg) (r : InRow H.n B8 B9 B10 B11 gB sB L) (F : Fr h.n [] h h') (hH : H.n ≤ h.n) : HeapR H h' va vb vc vh spot hour p now B8 B9 B10 B11 gB sB L LX out bf tp vo vs gg := by
 obtain ⟨r1, r2, r3, r4, r5, r6, r7⟩ := r
 have l := k.lt
 have hn := F.n
 have o : ∀ b, b < h.n → h'.get b = h.get b := fun b hb => F.old b hb (by simp)
 exact ⟨by rw [o _ (by omega)]; exact k.y, by rw [o _ (by omega)]; exact k.s, by rw [o _ (by omega)]; exact k.t, by rw [o _ (by omega)]; exact k.hp, by rw [o _ (by omega)]; exact k.now, by rw [o _ (by omega)]; exact k.o, by rw [o _ (by omega)]; exact k.b, by rw [o _ (by omega)]; exact k.tp,
  by rw [o _ (by omega)]; exact k.g, by rw [o _ (by omega)]; exact k.sb, by rw [o _ (by omega)]; exact k.lo, k.G.fr F (fun x hx => by subst hx; exact k.G.grp_lt) (by simp), k.gr, k.vb, k.R.fr F (by simp), k.F.call F hH, F.top k.T, by omega⟩
theorem HeapR.setL (k : HeapR H h va vb vc vh spot hour p now B8 B9 B10 B11 gB sB L LX out bf tp vo vs gg) (r : InRow H.n B8 B9 B10 B11 gB sB L) (hH : H.n ≤ L) {LY : AObj} (hL : ∀ N b, grOk N b LY) : HeapR H (h.upd h.n L LY) va vb vc vh spot hour p now B8 B9 B10 B11 gB sB L LY out bf tp vo vs gg := by
 obtain ⟨r1, r2, r3, r4, r5, r6, r7⟩ := r
 have l := k.lt
 have F : Fr h.n [L] h (h.upd h.n L LY) := (Fr.refl h).upd (Nat.le_refl _) l (.inr (by simp)) (hL _ _)
 have F0 : Fr H.n [] H (h.upd h.n L LY) := k.F.upd (Nat.le_refl _) l (.inl hH) (hL _ _)
 have o : ∀ b, b ≠ L → (h.upd h.n L LY).get b = h.get b := fun b hb => upd_get_ne hb
 have v1 := k.vb.1
 simp only [List.mem_cons, List.not_mem_nil, or_false, not_or] at v1
 exact ⟨by rw [o _ (by omega)]; exact k.y, by rw [o _ (by omega)]; exact k.s, by rw [o _ (by omega)]; exact k.t, by rw [o _ (by omega)]; exact k.hp, by rw [o _ (by omega)]; exact k.now, by rw [o _ (by omega)]; exact k.o, by rw [o _ (by omega)]; exact k.b, by rw [o _ (by omega)]; exact k.tp,
  by rw [o _ (by omega)]; exact k.g, by rw [o _ (by omega)]; exact k.sb, upd_get_same, k.G.fr F (fun x hx => by subst hx; exact k.G.grp_lt) (by simpa using v1.2.2.2), k.gr, k.vb, k.R.fr F (by simp), F0, F.top k.T, l⟩
theorem HeapR.setT (k : HeapR H h va vb vc vh spot hour p now B8 B9 B10 B11 gB sB L LX out bf tp vo vs gg) (r : InRow H.n B8 B9 B10 B11 gB sB L) (hH : H.n ≤ B11) (t' : Nat) : HeapR H (h.upd h.n B11 (.cells [iv t'] 3 .ex)) va vb vc vh spot hour p now B8 B9 B10 B11 gB sB L LX out bf t' vo vs gg := by
 obtain ⟨r1, r2, r3, r4, r5, r6, r7⟩ := r
 have l := k.lt
 have F : Fr h.n [B11] h (h.upd h.n B11 (.cells [iv t'] 3 .ex)) := (Fr.refl h).upd (Nat.le_refl _) (by omega) (.inr (by simp)) trivial
 have F0 : Fr H.n [] H (h.upd h.n B11 (.cells [iv t'] 3 .ex)) := k.F.upd (Nat.le_refl _) (by omega) (.inl hH) trivial
 have o : ∀ b, b ≠ B11 → (h.upd h.n B11 (.cells [iv t'] 3 .ex)).get b = h.get b := fun b hb => upd_get_ne hb
 have v1 := k.vb.1
 simp only [List.mem_cons, List.not_mem_nil, or_false, not_or] at v1
 exact ⟨by rw [o _ (by omega)]; exact k.y, by rw [o _ (by omega)]; exact k.s, by rw [o _ (by omega)]; exact k.t, by rw [o _ (by omega)]; exact k.hp, by rw [o _ (by omega)]; exact k.now, by rw [o _ (by omega)]; exact k.o, by rw [o _ (by omega)]; exact k.b, upd_get_same,
  by rw [o _ (by omega)]; exact k.g, by rw [o _ (by omega)]; exact k.sb, by rw [o _ (by omega)]; exact k.lo, k.G.fr F (fun x hx => by subst hx; exact k.G.grp_lt) (by simpa using v1.2.2.1), k.gr, k.vb, k.R.fr F (by simp), F0, F.top k.T, l⟩
theorem HeapR.setB (k : HeapR H h va vb vc vh spot hour p now B8 B9 B10 B11 gB sB L LX out bf tp vo vs gg) (r : InRow H.n B8 B9 B10 B11 gB sB L) (hH : H.n ≤ B10) (t' : Nat) : HeapR H (h.upd h.n B10 (.cells [iv t'] 3 .ex)) va vb vc vh spot hour p now B8 B9 B10 B11 gB sB L LX out t' tp vo vs gg := by
 obtain ⟨r1, r2, r3, r4, r5, r6, r7⟩ := r
 have l := k.lt
 have F : Fr h.n [B10] h (h.upd h.n B10 (.cells [iv t'] 3 .ex)) := (Fr.refl h).upd (Nat.le_refl _) (by omega) (.inr (by simp)) trivial
 have F0 : Fr H.n [] H (h.upd h.n B10 (.cells [iv t'] 3 .ex)) := k.F.upd (Nat.le_refl _) (by omega) (.inl hH) trivial
 have o : ∀ b, b ≠ B10 → (h.upd h.n B10 (.cells [iv t'] 3 .ex)).get b = h.get b := fun b hb => upd_get_ne hb
 have v1 := k.vb.1
 simp only [List.mem_cons, List.not_mem_nil, or_false, not_or] at v1
 exact ⟨by rw [o _ (by omega)]; exact k.y, by rw [o _ (by omega)]; exact k.s, by rw [o _ (by omega)]; exact k.t, by rw [o _ (by omega)]; exact k.hp, by rw [o _ (by omega)]; exact k.now, by rw [o _ (by omega)]; exact k.o, upd_get_same, by rw [o _ (by omega)]; exact k.tp,
  by rw [o _ (by omega)]; exact k.g, by rw [o _ (by omega)]; exact k.sb, by rw [o _ (by omega)]; exact k.lo, k.G.fr F (fun x hx => by subst hx; exact k.G.grp_lt) (by simpa using v1.2.1), k.gr, k.vb, k.R.fr F (by simp), F0, F.top k.T, l⟩
theorem HeapR.add (k : HeapR H h va vb vc vh spot hour p now B8 B9 B10 B11 gB sB L LX out bf tp vo vs gg) (r : InRow H.n B8 B9 B10 B11 gB sB L) (hH : H.n ≤ B9) {hA : AHeap} (FA : Fr h.n [] h hA) (TA : Top hA) {rv : Value} {w : Rul} (hr : RuleV hA [B9, B10, B11, L] rv w) {gx : Nat} (hgx : gx = gg.getD hA.n)
  (GG : GS (hA.upd (hA.n + 1) hA.n (.cells (vs ++ [rv]) 119 (.gr gx 1 true))) 1 (out.length + 1) (.slice (some ⟨hA.n, 0, none⟩) (out.length + 1) (out.length + 1)) (vs ++ [rv]) (some gx)) :
  HeapR H ((hA.upd (hA.n + 1) hA.n (.cells (vs ++ [rv]) 119 (.gr gx 1 true))).upd (hA.n + 1) B9 (.cells [.slice (some ⟨hA.n, 0, none⟩) (out.length + 1) (out.length + 1)] 114 .ex)) va vb vc vh spot hour p now B8 B9 B10 B11 gB sB L LX (out ++ [w]) bf tp (.slice (some ⟨hA.n, 0, none⟩) (out.length + 1) (out.length + 1)) (vs ++ [rv]) (some gx) := by
 have kA := k.mono r FA k.F.n
 obtain ⟨r1, r2, r3, r4, r5, r6, r7⟩ := r
 have l := kA.lt
 have gl : gx ≤ hA.n ∧ H.n ≤ gx := by
  subst hgx
  cases hgg : gg with
  | none => exact ⟨Nat.le_refl _, by show H.n ≤ hA.n; omega⟩
  | some x =>
   have := kA.gr x hgg
   have G := kA.G
   rw [hgg] at G
   have := G.grp_lt
   exact ⟨by show x ≤ hA.n; omega, by assumption⟩
 have F1 : Fr H.n [] H (hA.upd (hA.n + 1) hA.n (.cells (vs ++ [rv]) 119 (.gr gx 1 true))) := kA.F.upd (Nat.le_succ _) (Nat.lt_succ_self _) (.inl (by omega)) ⟨gl.2, gl.1⟩
 have F2 : Fr H.n [] H ((hA.upd (hA.n + 1) hA.n (.cells (vs ++ [rv]) 119 (.gr gx 1 true))).upd (hA.n + 1) B9 (.cells [.slice (some ⟨hA.n, 0, none⟩) (out.length + 1) (out.length + 1)] 114 .ex)) := F1.upd (Nat.le_refl _) (by omega) (.inl hH) trivial
 have FX1 : Fr 0 [B9] hA (hA.upd (hA.n + 1) hA.n (.cells (vs ++ [rv]) 119 (.gr gx 1 true))) := (Fr.refl hA).upd (o := .cells (vs ++ [rv]) 119 (.gr gx 1 true)) (Nat.le_succ _) (Nat.lt_succ_self _) (.inl (Nat.le_refl _)) ⟨Nat.zero_le _, gl.1⟩
 have FX : Fr 0 [B9] hA ((hA.upd (hA.n + 1) hA.n (.cells (vs ++ [rv]) 119 (.gr gx 1 true))).upd (hA.n + 1) B9 (.cells [.slice (some ⟨hA.n, 0, none⟩) (out.length + 1) (out.length + 1)] 114 .ex)) := FX1.upd (Nat.le_refl _) (by omega) (.inr (by simp)) trivial
 have FG : Fr (hA.n + 1) [B9] (hA.upd (hA.n + 1) hA.n (.cells (vs ++ [rv]) 119 (.gr gx 1 true))) ((hA.upd (hA.n + 1) hA.n (.cells (vs ++ [rv]) 119 (.gr gx 1 true))).upd (hA.n + 1) B9 (.cells [.slice (some ⟨hA.n, 0, none⟩) (out.length + 1) (out.length + 1)] 114 .ex)) := (Fr.refl _).upd (Nat.le_refl _) (by show B9 < hA.n + 1; omega) (.inr (by simp)) trivial
 have o : ∀ b, b ≠ B9 → b < hA.n → ((hA.upd (hA.n + 1) hA.n (.cells (vs ++ [rv]) 119 (.gr gx 1 true))).upd (hA.n + 1) B9 (.cells [.slice (some ⟨hA.n, 0, none⟩) (out.length + 1) (out.length + 1)] 114 .ex)).get b = hA.get b := fun b hb hn => by rw [upd_get_ne hb, upd_get_ne (by omega)]
 refine ⟨by rw [o _ (by omega) (by omega)]; exact kA.y, by rw [o _ (by omega) (by omega)]; exact kA.s, by rw [o _ (by omega) (by omega)]; exact kA.t, by rw [o _ (by omega) (by omega)]; exact kA.hp, by rw [o _ (by omega) (by omega)]; exact kA.now, upd_get_same, by rw [o _ (by omega) (by omega)]; exact kA.b, by rw [o _ (by omega) (by omega)]; exact kA.tp,
  by rw [o _ (by omega) (by omega)]; exact kA.g, by rw [o _ (by omega) (by omega)]; exact kA.sb, by rw [o _ (by omega) (by omega)]; exact kA.lo, ?_, fun x hx => by cases hx; exact gl.2, ⟨by show hA.n ∉ _; simp only [List.mem_cons, List.not_mem_nil, or_false, not_or]; omega, by show H.n ≤ hA.n; omega⟩, ?_, F2, FX.top kA.T, by show L < hA.n + 1; omega⟩
 ·rw [List.length_append]
  exact GG.fr FG (fun x hx => by cases hx; omega) (by show hA.n ∉ [B9]; simp; omega)
 ·exact (kA.R.fr FX (by simp)).app ⟨hr.fr FX (by simp), trivial⟩
end
end Go.Proofs.Swa

set_option linter.unusedVariables false
set_option linter.unusedSimpArgs false
namespace Go.Proofs.Swa
open Go
theorem splice_off {x r l : List Value} {o : Nat} : splice (x ++ r) (x.length + o) l = x ++ splice r o l := by
 unfold splice
 rw [List.take_append, List.take_of_length_le (by omega), Nat.add_sub_cancel_left, List.append_assoc, List.append_assoc, List.append_assoc]
 congr 3
 rw [List.drop_append, List.drop_of_length_le (by omega), List.nil_append]
 congr 1
 omega
def hourA (a : Act) (x : Int) : Act := ⟨x, a.Spot, a.Kind, a.Min, a.Max, a.Take⟩
theorem splice_hour : ∀ (A : List Act) (i : Nat) (t : Int), i < A.length → splice (A.flatMap eAct) (i * 6) [iv t] = (A.set i (hourA (A.getD i default) t)).flatMap eAct
 | [], i, t, h => by simp at h
 | a :: A, 0, t, _ => by
  show splice (eAct a ++ A.flatMap eAct) 0 [iv t] = eAct (hourA a t) ++ A.flatMap eAct
  unfold splice
  rfl
 | a :: A, i + 1, t, h => by
  have ih := splice_hour A i t (by simpa using h)
  rw [List.flatMap_cons, show (i + 1) * 6 = (eAct a).length + i * 6 by rw [eAct_len]; omega, splice_off, ih]
  rfl
structure CpF (g : Gnd) (B4 B6 rr : Nat) (va vb vc xa xb xc : Value) (al : List Act) (h : AHeap) : Prop where
 g4 : h.get B4 = .cells [va, vb, vc] 26 .ex
 g6 : h.get B6 = .cells [xa, xb, xc] 26 .ex
 hG : RG h va vb vc g
 hk : g.Spots.length = 0 ∨ SK h 3 va
 xp : SR h 3 g.Spots.length xa (g.Spots.flatMap eSpo)
 xq : SR h 4 g.Sorts.length xb (g.Sorts.flatMap eSrt)
 xk : g.Spots.length = 0 ∨ SK h 3 xa
 bd : B4 < h.n ∧ B6 < h.n ∧ (g.Acts.length = 0 ∨ rr < h.n)
 xr : g.Acts.length = 0 ∨ (xc = .slice (some ⟨rr, 0, none⟩) g.Acts.length g.Acts.length ∧ h.get rr = .cells (al.flatMap eAct) 30 (.gr rr 6 true) ∧ Sole h rr)
theorem CpF.store {g : Gnd} {B4 B6 rr : Nat} {va vb vc xa xb xc : Value} {al al' : List Act} {h : AHeap} (k : CpF g B4 B6 rr va vb vc xa xb xc al h) (hi : 0 < g.Acts.length) (o2 : rr ≠ B4) (o3 : rr ≠ B6) (o4 : g.Spots.length = 0 ∨ vblk va ≠ rr) (o5 : g.Sorts.length = 0 ∨ vblk vb ≠ rr) (o6 : vblk vc ≠ rr)
  (o8 : g.Spots.length = 0 ∨ vblk xa ≠ rr) (o9 : g.Sorts.length = 0 ∨ vblk xb ≠ rr) : CpF g B4 B6 rr va vb vc xa xb xc al' (h.upd h.n rr (.cells (al'.flatMap eAct) 30 (.gr rr 6 true))) := by
 obtain ⟨b2, b3, b4⟩ := k.bd
 rcases k.xr with q | ⟨q0, q1, q2⟩
 ·omega
 have F : Fr 0 [rr] h (h.upd h.n rr (.cells (al'.flatMap eAct) 30 (.gr rr 6 true))) := (Fr.refl h).upd (Nat.le_refl _) (by omega) (.inr (by simp)) ⟨Nat.zero_le _, Nat.le_refl _⟩
 have nm : ∀ {n : Nat} {v : Value}, (n = 0 ∨ vblk v ≠ rr) → n = 0 ∨ vblk v ∉ [rr] := fun q => by
  rcases q with q | q
  ·exact .inl q
  ·right; simpa using q
 refine ⟨by rw [upd_get_ne (Ne.symm o2)]; exact k.g4, by rw [upd_get_ne (Ne.symm o3)]; exact k.g6, ⟨k.hG.p.fr F (nm o4), k.hG.q.fr F (nm o5), k.hG.r.fr F (.inr (by simpa using o6))⟩, ?_, k.xp.fr F (nm o8), k.xq.fr F (nm o9), ?_, ⟨b2, b3, b4⟩, .inr ⟨q0, upd_get_same, ?_⟩⟩
 ·rcases k.hk with q | ⟨d, T, kk, e1, e2⟩
  ·exact .inl q
  ·rcases o4 with o4 | o4
   ·exact .inl o4
   ·exact .inr ⟨d, T, kk, (upd_get_ne o4).trans e1, e2⟩
 ·rcases k.xk with q | ⟨d, T, kk, e1, e2⟩
  ·exact .inl q
  ·rcases o8 with o8 | o8
   ·exact .inl o8
   ·exact .inr ⟨d, T, kk, (upd_get_ne o8).trans e1, e2⟩
 ·exact q2.upd fun _ _ _ _ _ => rfl
theorem CpF.done {g : Gnd} {B4 B6 rr : Nat} {va vb vc xa xb xc : Value} {al : List Act} {h : AHeap} (k : CpF g B4 B6 rr va vb vc xa xb xc al h) (hl : al.length = g.Acts.length) (hx : (xc = .slice none 0 0 ∧ g.Acts.length = 0) ∨ ∃ b o q, xc = .slice (some ⟨b, o, none⟩) g.Acts.length q ∧ g.Acts.length ≤ q) : RG h xa xb xc ⟨g.Spots, g.Sorts, al⟩ := by
 refine ⟨k.xp, k.xq, ?_⟩
 show SR h 6 al.length xc (al.flatMap eAct)
 have ln : (al.flatMap eAct).length = g.Acts.length * 6 := by rw [flat_len eAct_len, hl]
 rw [hl]
 rcases k.xr with q | ⟨q0, q1, q2⟩
 ·exact ⟨hx, ln, .inl q, .inl q⟩
 ·subst q0
  rcases k.bd.2.2 with q3 | q3
  ·exact ⟨hx, ln, .inl q3, .inl q3⟩
  ·refine ⟨hx, ln, .inr ⟨_, by rw [rd_def]; show rdO (h.get rr) = _; rw [q1]; rfl, ?_, ?_⟩, .inr q3⟩
   ·show 0 + _ ≤ _
    rw [ln]; omega
   ·show (List.drop 0 _).take _ = _
    rw [List.drop_zero, List.take_of_length_le (by omega)]
def shL (y : Int) (A : List Act) (n : Nat) : List Act := (List.range A.length).map fun k => if k < n then shA y (A.getD k default) else A.getD k default
theorem shL_len (y : Int) (A : List Act) (n : Nat) : (shL y A n).length = A.length := by simp [shL]
theorem shL_get (y : Int) (A : List Act) (n : Nat) {k : Nat} (hk : k < A.length) : (shL y A n).getD k default = if k < n then shA y (A.getD k default) else A.getD k default := by
 simp [shL, List.getD, hk]
theorem shL_zero (y : Int) (A : List Act) : shL y A 0 = A := by
 refine getD_ext (shL_len ..) fun i hi => ?_
 rw [shL_len] at hi
 rw [shL_get _ _ _ hi, if_neg (by omega)]
theorem shL_succ (y : Int) (A : List Act) {n : Nat} (h : n < A.length) : shL y A (n + 1) = (shL y A n).set n (shA y (A.getD n default)) := by
 refine getD_ext (by simp [shL_len]) fun i hi => ?_
 rw [shL_len] at hi
 rw [shL_get _ _ _ hi, getD_setA, shL_len, shL_get _ _ _ hi]
 by_cases e : n = i
 ·subst e
  rw [if_pos (show n < n + 1 by omega), if_pos (show n = n ∧ n < A.length from ⟨rfl, h⟩)]
 ·have e2 : ¬ (n = i ∧ n < A.length) := fun q => e q.1
  rw [if_neg e2]
  by_cases c : i < n
  ·rw [if_pos c, if_pos (show i < n + 1 by omega)]
  ·rw [if_neg c, if_neg (show ¬ i < n + 1 by omega)]
theorem shL_all (y : Int) (A : List Act) : shL y A A.length = A.map (shA y) := by
 refine getD_ext (by simp [shL_len]) fun i hi => ?_
 rw [shL_len] at hi
 rw [shL_get _ _ _ hi, if_pos hi, getD_mapA hi]
end Go.Proofs.Swa

set_option linter.unusedVariables false
set_option linter.unusedSimpArgs false
namespace Go.Proofs.Swa
open Go
theorem Fr.down {N N' : Nat} {X : List Nat} {A B : AHeap} (h : Fr N' X A B) (hn : N ≤ N') : Fr N X A B := h.mono hn fun _ hb _ => hb
theorem GS.upd_gr' {B : AHeap} {s n g' e : Nat} {l : Bool} {v : Value} {c d : List Value} {T : TypeId} {g : Option Nat} (G : GS B s n v c g) (hne : g ≠ some g') : GS (B.upd (B.n + 1) B.n (.cells d T (.gr g' e l))) s n v c g := by
 cases G with
 | nil hn hv hc => exact .nil hn hv hc
 | full hv hb hg hk hl hc h0 => exact .full hv (Nat.lt_succ_of_lt hb) ((upd_get_ne (by omega)).trans hg) hk hl hc h0
 | gr hv hb hgb hg hl hf =>
  refine .gr hv (Nat.lt_succ_of_lt hb) hgb ((upd_get_ne (by omega)).trans hg) hl ?_
  intro b' c' T' e' l' hb'
  by_cases e1 : b' = B.n
  ·subst e1
   rw [upd_get_same] at hb'
   cases hb'
   exact absurd rfl hne
  ·rw [upd_get_ne e1] at hb'
   exact hf _ _ _ _ _ hb'
structure App (H G : AHeap) (g g' : Option Nat) (m : Nat) : Prop where
 n : H.n ≤ G.n
 top : Top G
 fr : ∀ N, N ≤ H.n → (∀ x, g = some x → N ≤ x) → Fr N [] H G
 old : ∀ b, b < H.n → G.get b = H.get b
 grp : (m = 0 ∧ g' = g) ∨ (0 < m ∧ g' = some (g.getD H.n))
 keep : ∀ {s n : Nat} {v : Value} {c : List Value} {g2 : Option Nat}, GS H s n v c g2 → g2 ≠ some (g.getD H.n) → GS G s n v c g2
theorem oB_app {P : Program} {ts : Array TypeId} {H : AHeap} {s n m e : Nat} {v x : Value} {c new : List Value} {g : Option Nat} {K : Value → AHeap → Prop} (ht : Top H) (G : GS H s n v c g) (S : SR H s m x new)
  (h1 : 0 < m → appendOp P ts [v, x] H = some (.slice (some ⟨H.n, 0, none⟩) (n + m) (n + m), H.upd (H.n + 1) H.n (.cells (c ++ new) e (.gr (g.getD H.n) s true)))) (h0 : m = 0 → appendOp P ts [v, x] H = some (v, H))
  (k : ∀ v' G' g', App H G' g g' m → GS G' s (n + m) v' (c ++ new) g' → (v' = v ∨ H.n ≤ vblk v') → K v' G') : oB (appendOp P ts [v, x] H) K := by
 by_cases hm : m = 0
 ·rw [h0 hm]
  have hnew : new = [] := by have := S.len; subst hm; simpa using this
  subst hm hnew
  exact k v H g ⟨Nat.le_refl _, ht, fun N _ _ => Fr.refl _, fun _ _ => rfl, .inl ⟨rfl, rfl⟩, fun G2 _ => G2⟩ (by rw [List.append_nil]; exact G) (.inl rfl)
 ·rw [h1 (by omega)]
  have GG := GS.pushed (e := e) ht G S.len
  have hf : ∀ N, N ≤ H.n → (∀ x, g = some x → N ≤ x) → Fr N [] H (H.upd (H.n + 1) H.n (.cells (c ++ new) e (.gr (g.getD H.n) s true))) := fun N hN hg => (Fr.refl H).upd (Nat.le_succ _) (Nat.lt_succ_self _) (.inl (Nat.le_refl _)) (G.grpOk hN hg)
  exact k _ _ _ ⟨Nat.le_succ _, (hf 0 (Nat.zero_le _) fun _ _ => Nat.zero_le _).top ht, hf, fun b hb => upd_get_ne (by omega), .inr ⟨by omega, rfl⟩, fun G2 hne => G2.upd_gr' hne⟩ GG (.inr (Nat.le_refl _))
theorem App.lt {H G : AHeap} {g g' : Option Nat} {m : Nat} (a : App H G g g' m) {N : Nat} (hN : N ≤ H.n) (hg : ∀ x, g = some x → N ≤ x) : ∀ x, g' = some x → N ≤ x := by
 intro x hx
 rcases a.grp with ⟨_, q⟩ | ⟨_, q⟩
 ·exact hg x (q ▸ hx)
 ·rw [q] at hx
  cases hx
  exact gd_ge hg hN
def RS (H : AHeap) (N : Nat) (v : Value) (rs : List Rul) (g : Option Nat) : Prop := ∃ vs, GS H 1 rs.length v vs g ∧ (∀ x, g = some x → N ≤ x) ∧ RulesV H [] vs rs
theorem RS.nul {H : AHeap} {N : Nat} : RS H N (.slice none 0 0) [] none := ⟨[], .nil rfl rfl rfl, by simp, trivial⟩
theorem RS.fr0 {H G : AHeap} {N : Nat} {v : Value} {rs : List Rul} {g : Option Nat} (h : RS H N v rs g) (F : Fr H.n [] H G) : RS G N v rs g := by
 obtain ⟨vs, a, b, c⟩ := h
 exact ⟨vs, a.fr0 F, b, c.fr F (by simp)⟩
theorem RS.keep {H G : AHeap} {N m : Nat} {v : Value} {rs : List Rul} {g1 g2 g : Option Nat} (h : RS H N v rs g) (a : App H G g1 g2 m) (hne : g ≠ some (g1.getD H.n)) : RS G N v rs g := by
 obtain ⟨vs, a1, b, c⟩ := h
 exact ⟨vs, a.keep a1 hne, b, c.fr (a.fr 0 (Nat.zero_le _) fun _ _ => Nat.zero_le _) (by simp)⟩
theorem RS.gn {H : AHeap} {N : Nat} {v : Value} {rs : List Rul} {g : Option Nat} (h : RS H N v rs g) : ∀ x, g = some x → x < H.n := by
 obtain ⟨vs, a, b, c⟩ := h
 intro x hx
 subst hx
 exact a.grp_lt
theorem RS.one {H : AHeap} {N : Nat} {v : Value} {rs : List Rul} {g : Option Nat} (h : RS H N v rs g) : Swa.one v := by
 obtain ⟨vs, a, b, c⟩ := h
 exact a.one
theorem RS.app {P : Program} {ts : Array TypeId} {H : AHeap} {N1 N2 e : Nat} {v x : Value} {rs ss : List Rul} {g g2 : Option Nat} {K : Value → AHeap → Prop} (ht : Top H) (A : RS H N1 v rs g) (B : RS H N2 x ss g2) (hN : N1 ≤ H.n)
  (h1 : ∀ c new, GS H 1 rs.length v c g → SR H 1 ss.length x new → 0 < ss.length → appendOp P ts [v, x] H = some (.slice (some ⟨H.n, 0, none⟩) (rs.length + ss.length) (rs.length + ss.length), H.upd (H.n + 1) H.n (.cells (c ++ new) e (.gr (g.getD H.n) 1 true)))) (h0 : ∀ c new, GS H 1 rs.length v c g → SR H 1 0 x new → appendOp P ts [v, x] H = some (v, H))
  (k : ∀ v' G' g', App H G' g g' ss.length → RS G' N1 v' (rs ++ ss) g' → K v' G') : oB (appendOp P ts [v, x] H) K := by
 obtain ⟨vs, a1, a2, a3⟩ := A
 obtain ⟨us, b1, b2, b3⟩ := B
 refine oB_app ht a1 b1.sr (h1 _ _ a1 b1.sr) (fun hm => h0 _ _ a1 (by rw [← hm]; exact b1.sr)) fun v' G' g' a G hv => k v' G' g' a ⟨vs ++ us, by rw [List.length_append]; exact G, a.lt hN a2, ?_⟩
 have F := a.fr 0 (Nat.zero_le _) fun _ _ => Nat.zero_le _
 exact (a3.fr F (by simp)).app (b3.fr F (by simp))
theorem hStep_len (g : Gnd) (h : Hp) (spot : Nat) (hour : Int) (now : Mom) (s : Hst) (i : Nat) (a : Act) : s.out.length ≤ (hStep g h spot hour now s i a).out.length ∧ (hStep g h spot hour now s i a).out.length ≤ s.out.length + 2 := by
 unfold hStep
 split
 ·exact ⟨Nat.le_refl _, by omega⟩
 ·dsimp only
  split <;> split <;> (try simp only [List.length_append, List.length_singleton]) <;> omega
theorem hRun_len (g : Gnd) (h : Hp) (spot : Nat) (hour : Int) (now : Mom) : ∀ (l : List Act) (i : Nat) (s : Hst), s.out.length ≤ (hRun g h spot hour now i l s).out.length ∧ (hRun g h spot hour now i l s).out.length ≤ s.out.length + 2 * l.length
 | [], i, s => by rw [hRun]; exact ⟨Nat.le_refl _, by omega⟩
 | a :: l, i, s => by
  rw [hRun, List.length_cons]
  have h1 := hStep_len g h spot hour now s i a
  have h2 := hRun_len g h spot hour now l (i + 1) (if a.Spot = spot then hStep g h spot hour now s i a else s)
  split at h2
  ·rename_i q
   rw [if_pos q]
   omega
  ·rename_i q
   rw [if_neg q]
   omega
theorem heapRules_len (g : Gnd) (h : Hp) (spot : Nat) (hour : Int) : 1 ≤ (heapRules g h spot hour).length ∧ (heapRules g h spot hour).length ≤ 1 + 2 * g.Acts.length := by
 unfold heapRules
 have := hRun_len g h spot hour (nowOf g h hour) g.Acts 0 ⟨[[⟨spot, (nowOf g h hour).takes, (nowOf g h hour).tips, holdsP g spot (nowOf g h hour).kind.toNat⟩]], 0, 0⟩
 exact this
theorem heapsR_len (g : Gnd) (hs : List Hp) (hour : Int) : ∀ n, n ≤ (heapsR g hs hour n).length ∧ (heapsR g hs hour n).length ≤ n * (1 + 2 * g.Acts.length)
 | 0 => ⟨Nat.le_refl _, Nat.zero_le _⟩
 | n + 1 => by
  have h1 := heapsR_len g hs hour n
  have h2 := heapRules_len g (hs.getD n default) n hour
  rw [heapsR, List.length_append, Nat.add_mul]
  omega
theorem pairRow_len (g : Gnd) (hs : List Hp) (hour : Int) (b : Nat) : ∀ n, (pairRow g hs hour b n).length ≤ n
 | 0 => Nat.le_refl _
 | n + 1 => by
  have h1 := pairRow_len g hs hour b n
  have h2 : (pairOne g hs hour b n).length ≤ 1 := by
   unfold pairOne
   dsimp only
   split <;> simp
  rw [pairRow, List.length_append]
  omega
theorem pairRules_len (g : Gnd) (hs : List Hp) (hour : Int) : ∀ n, (pairRules g hs hour n).length ≤ n * n
 | 0 => Nat.le_refl _
 | n + 1 => by
  have h1 := pairRules_len g hs hour n
  have h2 := pairRow_len g hs hour n n
  rw [pairRules, List.length_append, Nat.add_mul, Nat.mul_add]
  omega
end Go.Proofs.Swa

set_option linter.unusedVariables false
set_option linter.unusedSimpArgs false
namespace Go.Proofs.Swa
open Go
def Fine (N : Nat) (rs : List Rul) : Prop := ∀ r, r ∈ rs → RulOk N r ∧ r.length ≤ 2
theorem Fine.nil {N : Nat} : Fine N [] := fun r h => by simp at h
theorem Fine.app {N : Nat} {a b : List Rul} (h : Fine N a) (k : Fine N b) : Fine N (a ++ b) := fun r hr => by
 rcases List.mem_append.1 hr with q | q
 ·exact h r q
 ·exact k r q
theorem Fine.one {N : Nat} {w : Way} (h : WayOk N w) : Fine N [[w]] := fun r hr => by
 rw [List.mem_singleton] at hr
 subst hr
 refine ⟨fun x hx => ?_, by show 1 ≤ 2; omega⟩
 rw [List.mem_singleton] at hx
 subst hx
 exact h
theorem Fine.two {N : Nat} {w u : Way} (h : WayOk N w) (k : WayOk N u) : Fine N [[w, u]] := fun r hr => by
 rw [List.mem_singleton] at hr
 subst hr
 refine ⟨fun x hx => ?_, by show 2 ≤ 2; omega⟩
 simp only [List.mem_cons, List.not_mem_nil, or_false] at hx
 rcases hx with rfl | rfl
 ·exact h
 ·exact k
theorem Fine.ok {N : Nat} {rs : List Rul} (h : Fine N rs) : RulsOk N rs := fun r hr => (h r hr).1
theorem Few.wayok {h : Hp} (hf : Few h) {N spot : Nat} (hs : spot < N) (act : Int) : WayOk N (emptyW spot (h.before act)) := ⟨hs, (hf.before act).2, (hf.before act).1⟩
theorem hStep_fine {g : Gnd} {h : Hp} (hf : Few h) {N spot : Nat} (hs : spot < N) {hour : Int} {now : Mom} (hn : now.takes < 11) {s : Hst} (i : Nat) (a : Act) (k : Fine N s.out) : Fine N (hStep g h spot hour now s i a).out := by
 unfold hStep
 split
 ·exact k
 ·dsimp only
  have k1 : Fine N (if w64 (a.Hour + (g.Sorts.getD a.Kind.toNat default).Age) < hour then s.out ++ [[⟨spot, now.takes, (h.before ((i + 1 : Nat) : Int)).tips, 0⟩]] else s.out) := by
   split
   ·exact k.app (Fine.one ⟨hs, hn, (hf.before _).1⟩)
   ·exact k
  split
  ·exact k1.app (Fine.one (hf.wayok hs _))
  ·exact k1
theorem hRun_fine {g : Gnd} {h : Hp} (hf : Few h) {N spot : Nat} (hs : spot < N) {hour : Int} {now : Mom} (hn : now.takes < 11) : ∀ (l : List Act) (i : Nat) (s : Hst), Fine N s.out → Fine N (hRun g h spot hour now i l s).out
 | [], i, s, k => by rw [hRun]; exact k
 | a :: l, i, s, k => by
  rw [hRun]
  split
  ·exact hRun_fine hf hs hn l _ _ (hStep_fine hf hs hn i a k)
  ·exact hRun_fine hf hs hn l _ _ k
theorem heapRules_fine {g : Gnd} {h : Hp} (hf : Few h) {N spot : Nat} (hs : spot < N) (hour : Int) : Fine N (heapRules g h spot hour) := by
 unfold heapRules
 have hb := hf.before (untilL hour g.Acts)
 exact hRun_fine hf hs hb.2 _ _ _ (Fine.one ⟨hs, hb.2, hb.1⟩)
theorem heapsR_fine {g : Gnd} {hs : List Hp} {N : Nat} (hf : ∀ j, j < N → Few (hs.getD j default)) (hour : Int) : ∀ n, n ≤ N → Fine N (heapsR g hs hour n)
 | 0, _ => Fine.nil
 | n + 1, h => (heapsR_fine hf hour n (by omega)).app (heapRules_fine (hf n (by omega)) (by omega) hour)
theorem pairRow_fine {g : Gnd} {hs : List Hp} {N : Nat} (hf : ∀ j, j < N → Few (hs.getD j default)) (hour : Int) {b : Nat} (hb : b < N) : ∀ n, n ≤ b → Fine N (pairRow g hs hour b n)
 | 0, _ => Fine.nil
 | n + 1, h => by
  refine (pairRow_fine hf hour hb n (by omega)).app ?_
  unfold pairOne
  dsimp only
  split
  ·exact Fine.nil
  ·exact Fine.two ((hf n (by omega)).wayok (by omega) _) ((hf b hb).wayok hb _)
theorem pairRules_fine {g : Gnd} {hs : List Hp} {N : Nat} (hf : ∀ j, j < N → Few (hs.getD j default)) (hour : Int) : ∀ n, n ≤ N → Fine N (pairRules g hs hour n)
 | 0, _ => Fine.nil
 | n + 1, h => (pairRules_fine hf hour n (by omega)).app (pairRow_fine hf hour (by omega) n (Nat.le_refl _))
def Dis (a b : Option Nat) : Prop := ∀ x, a = some x → b ≠ some x
theorem Dis.ne {a b : Option Nat} {n : Nat} (h : Dis a b) (hl : ∀ x, a = some x → x < n) : a ≠ some (b.getD n) := by
 intro e
 cases b with
 | none => exact Nat.lt_irrefl _ (hl n e)
 | some y => exact h y e rfl
theorem Dis.symm {a b : Option Nat} (h : Dis a b) : Dis b a := fun x hx hy => h x hy hx
theorem Dis.app {H G : AHeap} {a a' b : Option Nat} {m : Nat} (h : Dis a b) (ap : App H G a a' m) (hl : ∀ x, b = some x → x < H.n) : Dis a' b := by
 rcases ap.grp with ⟨_, e⟩ | ⟨_, e⟩
 ·rw [e]; exact h
 ·intro x hx hy
  rw [e] at hx
  exact h.symm.ne hl (hy.trans hx.symm)
theorem Dis.far {a b : Option Nat} {n : Nat} (h : ∀ x, a = some x → x < n) (k : ∀ x, b = some x → n ≤ x) : Dis a b := fun x hx hy => by
 have := h x hx
 have := k x hy
 omega
end Go.Proofs.Swa

