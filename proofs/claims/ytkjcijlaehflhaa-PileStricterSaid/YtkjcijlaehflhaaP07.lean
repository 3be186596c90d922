/- Part 7 of a proof. -/
import Derived.Test.YtkjcijlaehflhaaP06
set_option linter.unusedVariables false
set_option linter.unusedSimpArgs false
namespace Go.Proofs.Swa
open Go
def SK (H : AHeap) (s : Nat) (v : Value) : Prop := ∃ d T k, H.get (vblk v) = .cells d T k ∧ ∀ g e l, k = .gr g e l → e = s
theorem SK.fr {N : Nat} {X : List Nat} {A B : AHeap} (hF : Fr N X A B) {s : Nat} {v : Value} (h : SK A s v) (hb : vblk v < A.n) (hx : vblk v ∉ X) : SK B s v := by
 obtain ⟨d, T, k, h1, h2⟩ := h
 exact ⟨d, T, k, (hF.old _ hb hx).trans h1, h2⟩
theorem GS.sk {H : AHeap} {s n : Nat} {v : Value} {c : List Value} {g : Option Nat} (h : GS H s n v c g) : n = 0 ∨ SK H s v := by
 cases h with
 | nil hn hv hc => exact .inl hn
 | full hv hb hg hk hl hc h0 =>
  subst hv
  refine .inr ⟨_, _, _, hg, fun g e l hkk => ?_⟩
  rcases hk with rfl | rfl <;> cases hkk
 | gr hv hb hgb hg hl hf =>
  subst hv
  exact .inr ⟨_, _, _, hg, fun g e l hkk => by cases hkk; rfl⟩
def sl (v : Value) (j : Nat) : Value := match v with | .slice (some a) _ k => .slice (some a) j k | _ => .slice none 0 0
theorem slice_pre {P : Program} {t e : TypeId} {s : Nat} (hu : P.underlying t = some (.slice e)) (hs : tySize P e = some s) {H : AHeap} {v : Value} {c : List Value} {n j : Nat} {q : IntKind} (S : SR H s n v c) (K : SK H s v) (hj : j ≤ n) (hn : 0 < n) :
  sliceA P H t v none (some (.int q j)) none = some (sl v j) ∧ SR H s j (sl v j) (c.take (j * s)) := by
 rcases S.shape with ⟨_, rfl⟩ | ⟨b, o, k, rfl, hk⟩
 ·omega
 ·obtain ⟨d, T, kd, g1, g2⟩ := K
  have g1 : H.get b = .cells d T kd := g1
  have hb : bndsA n k none (some (.int q j)) none = some (0, j, k) := by
   unfold bndsA bndO bnd1
   simp only [Option.bind_some, Option.isSome_none, Bool.false_eq_true, false_and, if_false, Option.map_some]
   rw [if_pos ⟨by omega, by omega⟩]
   simp
  constructor
  ·unfold sliceA
   rw [hu]
   dsimp only
   rw [hb, hs, g1]
   cases kd with
   | gr g e' l =>
    dsimp only
    rw [if_pos ⟨g2 _ _ _ rfl, rfl⟩]
    simp [sl]
   | ex =>
    dsimp only
    rw [if_neg (by omega)]
    simp [sl]
   | ro =>
    dsimp only
    rw [if_neg (by omega)]
    simp [sl]
  ·have hjs : j * s ≤ n * s := Nat.mul_le_mul_right _ hj
   refine ⟨.inr ⟨b, o, k, rfl, by omega⟩, by rw [List.length_take, S.len]; omega, ?_, .inr (S.lt.resolve_left (by omega))⟩
   right
   rcases S.cells with h | ⟨d2, h1, h2, h3⟩
   ·omega
   ·refine ⟨d2, h1, ?_, ?_⟩
    ·show o + j * s ≤ d2.length
     have h2 : o + n * s ≤ d2.length := h2
     omega
    ·show (d2.drop o).take (j * s) = c.take (j * s)
     have h3 : (d2.drop o).take (n * s) = c := h3
     rw [← h3, List.take_take, Nat.min_eq_left hjs]
theorem sl_blk {v : Value} {n j : Nat} {H : AHeap} {s : Nat} {c : List Value} (S : SR H s n v c) (hn : 0 < n) : vblk (sl v j) = vblk v := by
 rcases S.shape with ⟨_, rfl⟩ | ⟨b, o, k, rfl, hk⟩
 ·omega
 ·rfl
theorem flat_take {α : Type} {enc : α → List Value} {s : Nat} (hs : ∀ a, (enc a).length = s) : ∀ (l : List α) (j : Nat), (l.flatMap enc).take (j * s) = (l.take j).flatMap enc
 | [], j => by simp
 | a :: l, 0 => by simp
 | a :: l, j + 1 => by
  rw [List.flatMap_cons, List.take_succ_cons, List.flatMap_cons, ← flat_take hs l j, List.take_append, hs]
  have : (j + 1) * s = j * s + s := by rw [Nat.add_mul, Nat.one_mul]
  rw [List.take_of_length_le (by rw [hs]; omega), this, Nat.add_sub_cancel]
theorem getD_take {α : Type} [Inhabited α] {l : List α} {i j : Nat} (h : i < j) : (l.take j).getD i default = l.getD i default := by
 simp [List.getD, List.getElem?_take_of_lt h]
def Sole (H : AHeap) (b : Nat) : Prop := ∀ b' c T e l, H.get b' = .cells c T (.gr b e l) → b' = b
theorem Sole.fr {N : Nat} {X : List Nat} {A B : AHeap} (hF : Fr N X A B) {b : Nat} (h : Sole A b) (hb : b < N) : Sole B b := by
 intro b' c T e l hg
 have := hF.grp b' c T b e l hg hb
 exact h b' c T e l (this ▸ hg)
theorem stG_sole {H : AHeap} {b o s : Nat} {x : Value} {c : List Value} {T : TypeId} {e : Nat} (h : Sole H b) (hx : notTup x = true) (hs : x.cells.size = s) (ho : o + s ≤ c.length) :
  stG H b o s x (.cells c T (.gr b e true)) = some (H.upd H.n b (.cells (splice c o x.cells.toList) T (.gr b e true))) := by
 unfold stG
 dsimp only
 rw [if_pos ⟨hx, hs, ho, rfl⟩]
 congr 1
 show (⟨H.n, _⟩ : AHeap) = ⟨H.n, _⟩
 congr 1
 funext b'
 show (if b' = b then _ else (H.kill b b).get b') = _
 by_cases e1 : b' = b
 ·rw [if_pos e1, if_pos e1]
 ·rw [if_neg e1, if_neg e1]
  show (if b' = b then H.get b' else if b' < b then H.get b' else (H.get b').killed b) = H.get b'
  rw [if_neg e1]
  split
  ·rfl
  ·unfold AObj.killed
   split
   ·rename_i c' T' g' e' l' hg
    split
    ·rename_i hgg
     subst hgg
     exact absurd (h _ _ _ _ _ hg) e1
    ·exact hg.symm
   ·rfl
theorem Sole.upd {H : AHeap} {b n b2 : Nat} {o : AObj} (h : Sole H b) (ho : ∀ c T e l, o = .cells c T (.gr b e l) → b2 = b) : Sole (H.upd n b2 o) b := by
 intro b' c T e l hg
 by_cases e1 : b' = b2
 ·subst e1
  rw [upd_get_same] at hg
  exact ho _ _ _ _ hg
 ·rw [upd_get_ne e1] at hg
  exact h _ _ _ _ _ hg
theorem oB_appS {P : Program} {ts : Array TypeId} {H : AHeap} {s n m e : Nat} {v x : Value} {c new : List Value} {K : Value → AHeap → Prop} (ht : Top H) (G : GS H s n v c none) (S : SR H s m x new)
  (h1 : 0 < m → appendOp P ts [v, x] H = some (.slice (some ⟨H.n, 0, none⟩) (n + m) (n + m), H.upd (H.n + 1) H.n (.cells (c ++ new) e (.gr H.n s true)))) (h0 : m = 0 → appendOp P ts [v, x] H = some (v, H))
  (k : ∀ v' Gq gg, H.n ≤ Gq.n → Jn H Gq → GS (H.jn Gq) s (n + m) v' (c ++ new) gg → (∀ x, gg = some x → H.n ≤ x) → (v' = v ∨ vblk v' = H.n) → vblk v' < Gq.n ∨ n + m = 0 →
   (0 < m → v' = .slice (some ⟨H.n, 0, none⟩) (n + m) (n + m) ∧ (H.jn Gq).get H.n = .cells (c ++ new) e (.gr H.n s true) ∧ Sole (H.jn Gq) H.n ∧ H.n < Gq.n) → K v' (H.jn Gq)) : oB (appendOp P ts [v, x] H) K := by
 by_cases hm : m = 0
 ·rw [h0 hm]
  have hj := Jn.self ht
  have hnew : new = [] := by have := S.len; subst hm; simpa using this
  subst hm hnew
  have := k v H none (Nat.le_refl _) hj.1 (by rw [hj.2, List.append_nil]; exact G) (by simp) (.inl rfl) (by
   rcases G.sr.lt with q | q
   ·exact .inr q
   ·exact .inl q) (fun q => absurd q (by omega))
  rw [hj.2] at this
  exact this
 ·rw [h1 (by omega)]
  have GG := GS.pushed (e := e) ht G S.len
  have hf : Fr H.n [] H (H.upd (H.n + 1) H.n (.cells (c ++ new) e (.gr H.n s true))) := (Fr.refl H).upd (Nat.le_succ _) (Nat.lt_succ_self _) (.inl (Nat.le_refl _)) ⟨Nat.le_refl _, Nat.le_refl _⟩
  obtain ⟨e1, hj⟩ := hf.to_jn ht
  show K _ (H.upd (H.n + 1) H.n (.cells (c ++ new) e (.gr H.n s true)))
  have GG' : GS (H.upd (H.n + 1) H.n (.cells (c ++ new) e (.gr H.n s true))) s (n + m) (.slice (some ⟨H.n, 0, none⟩) (n + m) (n + m)) (c ++ new) (some H.n) := GG
  have so : Sole (H.upd (H.n + 1) H.n (.cells (c ++ new) e (.gr H.n s true))) H.n := by
   refine Sole.upd ?_ fun _ _ _ _ _ => rfl
   intro b' c' T' e' l' hg
   have := ht.2 b' _ _ _ _ _ hg
   by_cases q : H.n ≤ b'
   ·rw [ht.1 b' q] at hg; cases hg
   ·omega
  have := k (.slice (some ⟨H.n, 0, none⟩) (n + m) (n + m)) _ (some H.n) (Nat.le_succ _) hj (e1 ▸ GG') (fun x hx => by cases hx; exact Nat.le_refl _) (.inr rfl) (.inl (Nat.lt_succ_self _)) (fun _ => ⟨rfl, e1 ▸ upd_get_same, e1 ▸ so, Nat.lt_succ_self _⟩)
  rw [← e1] at this
  exact this
theorem oblR_refl {ops : Array Oper} {k : Nat} {H : AHeap} : ∀ (rs : List (Nat × Nat)), oblR ops k H H rs
 | [] => trivial
 | r :: rs => ⟨.inr rfl, oblR_refl rs⟩
theorem oblA_of {ops : Array Oper} {k b : Nat} : ∀ {as : List (Nat × AHeap × AHeap)}, (∀ a, a ∈ as → isAnc ops a.1 k = true ∨ a.2.2.get b = a.2.1.get b) → oblA ops k b as
 | [], _ => trivial
 | a :: as, h => ⟨h a (List.mem_cons_self ..), oblA_of fun x hx => h x (List.mem_cons_of_mem _ hx)⟩
theorem WO_post {P : Program} {C : CallRel} {ops : Array Oper} {os : List Oper} {K K' : Env → AHeap → Prop} {env : Env} {H : AHeap} (h : WO P C ops os K env H) (hk : ∀ e h, K e h → K' e h) : WO P C ops os K' env H := by
 obtain ⟨e, h', r, q⟩ := h
 exact ⟨e, h', r, hk _ _ q⟩
theorem WD_harm {P : Program} {C : CallRel} {ops : Array Oper} {K : Env → AHeap → Prop} : ∀ (os : List Oper) {k : Nat} {rs : List (Nat × Nat)} {as as' : List (Nat × AHeap × AHeap)} {e : Env} {h : AHeap},
  (∀ a, a ∈ as' → a ∈ as ∨ ∀ b, a.2.2.get b = a.2.1.get b) → WD P C ops os k rs as K e h → WD P C ops os k rs as' K e h
 | [], k, rs, as, as', e, h, ha, w => w
 | o :: os, k, rs, as, as', e, h, ha, w => by
  unfold WD at w ⊢
  by_cases hs : simpleOp o.op = true
  ·rw [if_pos hs] at w ⊢
   refine ⟨?_, WO_post w.2 fun e h q => WD_harm os ha q⟩
   have w1 := w.1
   unfold oblO at w1 ⊢
   split
   ·rename_i b hb
    rw [hb] at w1
    refine oblA_of fun a hx => ?_
    rcases ha a hx with q | q
    ·exact oblA_mem w1 a q
    ·exact .inr (q b)
   ·trivial
  ·rw [if_neg hs] at w ⊢
   refine WO_post w fun e' h' q => ⟨q.1, WD_harm os (fun a hx => ?_) q.2⟩
   rcases List.mem_cons.1 hx with rfl | hx
   ·exact .inl (List.mem_cons_self ..)
   ·rcases ha a hx with q | q
    ·exact .inl (List.mem_cons_of_mem _ q)
    ·exact .inr q
section
variable {P : Program} {C : CallRel} {ops : Array Oper} {os : List Oper} {K : Env → AHeap → Prop} {env : Env} {H : AHeap} {dst : Option Tmp} {ty : TypeId} {pos : String} {aft : Array Edge} {k j : Nat} {rs : List (Nat × Nat)} {as : List (Nat × AHeap × AHeap)} {op : Op} {d : Tmp} {t : Bool}
theorem WD_gX {b : Bool} (hd : (ops[j]?).bind (·.dst) = some d) (hv : env d = .bool t) (h1 : t = b → WD P C ops (⟨dst, op, ty, pos, aft, none⟩ :: os) k rs as K env H) (h2 : t ≠ b → WD P C ops os (k + 1) rs as K (env.set dst undef) H)
  (hw : Region.wanted ⟨dst, op, ty, pos, aft, some (j, b)⟩ (yieldedA ops env) = decide (t = b))
  (hg : ∀ (K' : Env → AHeap → Prop), (t = b → WO P C ops [⟨dst, op, ty, pos, aft, none⟩] K' env H) → (t ≠ b → K' (env.set dst undef) H) → WO P C ops [⟨dst, op, ty, pos, aft, some (j, b)⟩] K' env H) :
  WD P C ops (⟨dst, op, ty, pos, aft, some (j, b)⟩ :: os) k rs as K env H := by
 unfold WD
 by_cases hs : simpleOp op = true
 ·rw [if_pos hs]
  by_cases e : t = b
  ·have h := h1 e
   unfold WD at h
   rw [if_pos hs] at h
   have ht : tch ops env H ⟨dst, op, ty, pos, aft, some (j, b)⟩ = tch ops env H ⟨dst, op, ty, pos, aft, none⟩ := by
    unfold tch
    rw [hw, decide_eq_true e, if_pos rfl, if_pos (by simp [Region.wanted])]
   rw [ht]
   exact ⟨h.1, hg _ (fun _ => h.2) fun q => absurd e q⟩
  ·have ht : tch ops env H ⟨dst, op, ty, pos, aft, some (j, b)⟩ = none := by
    unfold tch
    rw [hw, decide_eq_false e, if_neg (by simp)]
   rw [ht]
   exact ⟨trivial, hg _ (fun q => absurd q e) fun _ => h2 e⟩
 ·rw [if_neg hs]
  refine hg _ (fun e => ?_) fun e => ⟨oblR_refl rs, ?_⟩
  ·have h := h1 e
   unfold WD at h
   rw [if_neg hs] at h
   exact h
  ·-- an operation that is not wanted changes nothing
   refine WD_harm os (fun a hx => ?_) (h2 e)
   rcases List.mem_cons.1 hx with rfl | hx
   ·exact .inr fun _ => rfl
   ·exact .inl hx
theorem WD_gT (hd : (ops[j]?).bind (·.dst) = some d) (hv : env d = .bool t) (h1 : t = true → WD P C ops (⟨dst, op, ty, pos, aft, none⟩ :: os) k rs as K env H) (h2 : t = false → WD P C ops os (k + 1) rs as K (env.set dst undef) H) :
  WD P C ops (⟨dst, op, ty, pos, aft, some (j, true)⟩ :: os) k rs as K env H :=
 WD_gX hd hv h1 (fun q => h2 (by simpa using q)) (by have hy := yielded_of (ops := ops) hd hv; show (yieldedA ops env j == some _) = _; rw [hy]; cases t <;> rfl) fun K' a b => WO_gT hd hv a fun q => ⟨_, _, ⟨rfl, rfl⟩, b (by simp [q])⟩
theorem WD_gF (hd : (ops[j]?).bind (·.dst) = some d) (hv : env d = .bool t) (h1 : t = false → WD P C ops (⟨dst, op, ty, pos, aft, none⟩ :: os) k rs as K env H) (h2 : t = true → WD P C ops os (k + 1) rs as K (env.set dst undef) H) :
  WD P C ops (⟨dst, op, ty, pos, aft, some (j, false)⟩ :: os) k rs as K env H :=
 WD_gX hd hv h1 (fun q => h2 (by simpa using q)) (by have hy := yielded_of (ops := ops) hd hv; show (yieldedA ops env j == some _) = _; rw [hy]; cases t <;> rfl) fun K' a b => WO_gF hd hv a fun q => ⟨_, _, ⟨rfl, rfl⟩, b (by simp [q])⟩
end
theorem W_forget {P : Program} {C : CallRel} {nt : Nat} {c : Code} {env : Env} {h : AHeap} {Q : Post} {N : Nat} {X : List Nat} {h0 : AHeap} (p : AHeap → Prop) (F : Fr N X h0 h) (hp : p h) (k : ∀ h', Fr N X h0 h' → p h' → W P C 0 nt c env h' Q) : W P C 0 nt c env h Q := k h F hp
theorem WD_post {P : Program} {C : CallRel} {ops : Array Oper} {K K' : Env → AHeap → Prop} (hk : ∀ e h, K e h → K' e h) : ∀ (os : List Oper) {k : Nat} {rs : List (Nat × Nat)} {as : List (Nat × AHeap × AHeap)} {e : Env} {h : AHeap},
  WD P C ops os k rs as K e h → WD P C ops os k rs as K' e h
 | [], k, rs, as, e, h, w => hk _ _ w
 | o :: os, k, rs, as, e, h, w => by
  unfold WD at w ⊢
  by_cases hs : simpleOp o.op = true
  ·rw [if_pos hs] at w ⊢
   exact ⟨w.1, WO_post w.2 fun e h q => WD_post hk os q⟩
  ·rw [if_neg hs] at w ⊢
   exact WO_post w fun e' h' q => ⟨q.1, WD_post hk os q.2⟩
theorem W_drawnP {P : Program} {C : CallRel} {ng nt id : Nat} {l : List Oper} {env : Env} {H : AHeap} {Q : Post} (R : Env → AHeap → Prop) (h1 : WD P C ⟨l⟩ l 0 [] [] R env H) (h2 : ∀ e h, R e h → Q .normal e h) : W P C ng nt (.region id ⟨l⟩ true) env H Q :=
 W_drawn fun K hK => WD_post (fun e h r => hK e h (h2 e h r)) l h1
end Go.Proofs.Swa
set_option linter.unusedVariables false
set_option linter.unusedSimpArgs false
set_option linter.defProp false
namespace Go.Proofs.Swa
open Go
theorem dA {p : Prop} (h : p := by first | omega | exact eHp_len _ | exact eAct_len _ | exact eMom_len _ | exact sums_len _ | exact eRng_len _ | exact eSpo_len _ | exact eSrt_len _ | (simp only [mLenC, mLenN, mLenA, zs_len, eHp_len, eAct_len, eMom_len, sums_len, eRng_len, eSpo_len, eSrt_len, upd_n, jn_n]; first | done | omega) | (simp only [List.mem_cons, List.not_mem_nil, or_false, not_or, not_false_eq_true, upd_n, jn_n]; first | done | omega)) : p := h
theorem hcX {p q : Prop} (h : p) (n : p → False := by (intro hc; first | exact absurd hc (by decide) | (simp only [hcs] at hc; first | contradiction | (exfalso; omega)) | contradiction)) : q := (n h).elim
theorem woI {P : Program} {C : CallRel} {ops : Array Oper} {os : List Oper} {K : Env → AHeap → Prop} {env : Env} {H : AHeap} (h : WO P C ops os K env H) : WO P C ops os K env H := h
theorem wdI {P : Program} {C : CallRel} {ops : Array Oper} {os : List Oper} {k : Nat} {rs : List (Nat × Nat)} {as : List (Nat × AHeap × AHeap)} {K : Env → AHeap → Prop} {env : Env} {H : AHeap} (h : WD P C ops os k rs as K env H) : WD P C ops os k rs as K env H := h
theorem oA {p : Prop} (h : p := by ((try simp only [upd_n, jn_n]); omega)) : p := h
theorem topA {H : AHeap} (h : Top H := by (repeat' (first | with_reducible assumption | ((with_reducible refine Top.jn ?_ ?_); rotate_left; (focus with_reducible assumption)) | ((with_reducible refine Top.upd ?_ ?_ ?_ ?_); rotate_left; (focus exact oA); (focus exact oA); (focus first | trivial | exact ⟨oA, oA⟩))))) : Top H := h
theorem frA {N : Nat} {X : List Nat} {A B : AHeap} (h : Fr N X A B := by (repeat' (first | with_reducible exact Fr.refl _ | with_reducible assumption | ((with_reducible apply Fr.trans) <;> with_reducible assumption) | ((with_reducible refine Fr.jn ?_ ?_ ?_); rotate_left; (focus with_reducible assumption); (focus exact oA)) | ((with_reducible refine Fr.upd ?_ ?_ ?_ ?_ ?_); rotate_left; (focus exact oA); (focus exact oA); (focus first | (left; exact oA) | (right; simp; done)); (focus first | trivial | exact ⟨oA, oA⟩))))) : Fr N X A B := h
theorem nxA {p : Prop} (h : p := by (simp only [List.mem_cons, List.not_mem_nil, or_false, not_or]; omega)) : p := h
def qbs := And.intro qb sp
def qds := And.intro qd qbs
def qcs := And.intro qc (And.intro qe (And.intro @stG_agg sp))
def spx := And.intro sp (And.intro (@if_true.{0}) (And.intro (@if_false.{0}) (@ite_self.{0})))
def qbx := And.intro qb spx
def qdx := And.intro qd qbx
def qcx := And.intro qc (And.intro qe (And.intro @stG_agg spx))
theorem obA {p : Prop} (h : p := by (simp only [oblR, oblA]; (repeat' (first | exact trivial | (refine And.intro ?_ ?_) | (right; simp (disch := first | exact dA | fail) only [qcs, Int.reduceToNat, Nat.reduceAdd, Nat.reduceMul, Nat.reduceEqDiff, reduceIte, reduceCtorEq, Nat.reduceLT]; done) | (right; (apply Top.dead2); (focus exact oA); (focus exact oA); (focus exact topA); (focus exact topA); done) | (left; decide))))) : p := h
theorem W_regionE {P : Program} {C : CallRel} {ng nt : Nat} {id : Nat} {l : List Oper} {env : Env} {H : AHeap} {Q : Post} (L : Nat → List Nat) (X : List Nat) (h : ∀ K : Env → AHeap → Prop, (∀ e h, (∀ e', (∀ t, t ∈ L id → e' t = e t) → Q .normal e' h) → K e h) → WO P C ⟨l⟩ l K env H) (hx : id ∉ X := by decide) : W P C ng nt (.region id ⟨l⟩ false) env H Q := W_regionF L h
theorem W_drawnE {P : Program} {C : CallRel} {ng nt : Nat} {id : Nat} {l : List Oper} {env : Env} {H : AHeap} {Q : Post} (L : Nat → List Nat) (X : List Nat) (h : ∀ K : Env → AHeap → Prop, (∀ e h, (∀ e', (∀ t, t ∈ L id → e' t = e t) → Q .normal e' h) → K e h) → WD P C ⟨l⟩ l 0 [] [] K env H) (hx : id ∉ X := by decide) : W P C ng nt (.region id ⟨l⟩ true) env H Q := W_drawnF L h
end Go.Proofs.Swa
set_option linter.unusedVariables false
set_option linter.unusedSimpArgs false
namespace Go.Proofs.Swa
open Go
inductive RuleV (H : AHeap) (E : List Nat) : Value → Rul → Prop
 | one {b : Nat} {w : Way} (hb : b ∉ E ∧ b < H.n) (hg : H.get b = .cells (eWay w) 144 .ex) : RuleV H E (.func (.func 111) #[] #[vptr b 0]) [w]
 | pair {b0 b1 b2 b3 : Nat} {a b : Nat} {m n : Mom} (h0 : b0 ∉ E ∧ b0 < H.n) (h1 : b1 ∉ E ∧ b1 < H.n) (h2 : b2 ∉ E ∧ b2 < H.n) (h3 : b3 ∉ E ∧ b3 < H.n)
   (g0 : H.get b0 = .cells [iv a] 3 .ex) (g1 : H.get b1 = .cells (eMom m) 101 .ex) (g2 : H.get b2 = .cells [iv b] 3 .ex) (g3 : H.get b3 = .cells (eMom n) 101 .ex) :
   RuleV H E (.func (.func 106) #[] #[vptr b0 0, vptr b1 0, vptr b2 0, vptr b3 0]) [emptyW a m, emptyW b n]
theorem RuleV.fr {N : Nat} {X : List Nat} {A B : AHeap} {E : List Nat} {v : Value} {r : Rul} (hF : Fr N X A B) (hX : ∀ b, b ∈ X → b < A.n → b ∈ E) (h : RuleV A E v r) : RuleV B E v r := by
 have nx : ∀ b, b ∉ E ∧ b < A.n → b ∉ X := fun b hb hm => hb.1 (hX b hm hb.2)
 have hn := hF.n
 cases h with
 | one hb hg => exact .one ⟨hb.1, by omega⟩ ((hF.old _ hb.2 (nx _ hb)).trans hg)
 | pair h0 h1 h2 h3 g0 g1 g2 g3 =>
  exact .pair ⟨h0.1, by omega⟩ ⟨h1.1, by omega⟩ ⟨h2.1, by omega⟩ ⟨h3.1, by omega⟩ ((hF.old _ h0.2 (nx _ h0)).trans g0) ((hF.old _ h1.2 (nx _ h1)).trans g1) ((hF.old _ h2.2 (nx _ h2)).trans g2) ((hF.old _ h3.2 (nx _ h3)).trans g3)
theorem RuleV.ex {A : AHeap} {E E' : List Nat} {v : Value} {r : Rul} (hl : ∀ b, b ∈ E' → b < A.n → b ∈ E) (h : RuleV A E v r) : RuleV A E' v r := by
 have nx : ∀ b, b ∉ E ∧ b < A.n → b ∉ E' ∧ b < A.n := fun b hb => ⟨fun hm => hb.1 (hl b hm hb.2), hb.2⟩
 cases h with
 | one hb hg => exact .one (nx _ hb) hg
 | pair h0 h1 h2 h3 g0 g1 g2 g3 => exact .pair (nx _ h0) (nx _ h1) (nx _ h2) (nx _ h3) g0 g1 g2 g3
theorem RuleV.one' {A : AHeap} {E : List Nat} {v : Value} {r : Rul} (h : RuleV A E v r) : Swa.one v := by
 cases h <;> exact one_func
def RulesV (H : AHeap) (E : List Nat) : List Value → List Rul → Prop
 | [], [] => True
 | v :: vs, r :: rs => RuleV H E v r ∧ RulesV H E vs rs
 | _, _ => False
theorem RulesV.len {H : AHeap} {E : List Nat} : ∀ {vs : List Value} {rs : List Rul}, RulesV H E vs rs → vs.length = rs.length
 | [], [], _ => rfl
 | v :: vs, r :: rs, h => by rw [List.length_cons, List.length_cons, RulesV.len h.2]
 | [], r :: rs, h => h.elim
 | v :: vs, [], h => h.elim
theorem RulesV.app {H : AHeap} {E : List Nat} : ∀ {vs : List Value} {rs : List Rul} {us : List Value} {ss : List Rul}, RulesV H E vs rs → RulesV H E us ss → RulesV H E (vs ++ us) (rs ++ ss)
 | [], [], _, _, _, k => k
 | v :: vs, r :: rs, _, _, h, k => ⟨h.1, RulesV.app h.2 k⟩
 | [], r :: rs, _, _, h, _ => h.elim
 | v :: vs, [], _, _, h, _ => h.elim
theorem RulesV.at {H : AHeap} {E : List Nat} : ∀ {vs : List Value} {rs : List Rul}, RulesV H E vs rs → ∀ i, i < rs.length → ∃ v, vs[i]? = some v ∧ RuleV H E v (rs.getD i default)
 | [], [], _, i, hi => by simp at hi
 | v :: vs, r :: rs, h, 0, _ => ⟨v, rfl, h.1⟩
 | v :: vs, r :: rs, h, i + 1, hi => RulesV.at h.2 i (by simpa using hi)
 | [], r :: rs, h, _, _ => h.elim
 | v :: vs, [], h, _, _ => h.elim
theorem RulesV.fr {N : Nat} {X : List Nat} {A B : AHeap} {E : List Nat} (hF : Fr N X A B) (hX : ∀ b, b ∈ X → b < A.n → b ∈ E) : ∀ {vs : List Value} {rs : List Rul}, RulesV A E vs rs → RulesV B E vs rs
 | [], [], _ => trivial
 | v :: vs, r :: rs, h => ⟨h.1.fr hF hX, RulesV.fr hF hX h.2⟩
 | [], r :: rs, h => h.elim
 | v :: vs, [], h => h.elim
theorem RulesV.ex {A : AHeap} {E E' : List Nat} (hl : ∀ b, b ∈ E' → b < A.n → b ∈ E) : ∀ {vs : List Value} {rs : List Rul}, RulesV A E vs rs → RulesV A E' vs rs
 | [], [], _ => trivial
 | v :: vs, r :: rs, h => ⟨h.1.ex hl, RulesV.ex hl h.2⟩
 | [], r :: rs, h => h.elim
 | v :: vs, [], h => h.elim
def WayOk (n : Nat) (w : Way) : Prop := w.spot < n ∧ w.a < 11 ∧ w.b < 11
def RulOk (n : Nat) (r : Rul) : Prop := ∀ w, w ∈ r → WayOk n w
def RulsOk (n : Nat) (rs : List Rul) : Prop := ∀ r, r ∈ rs → RulOk n r
theorem W_both {P : Program} {C : CallRel} {ng nt : Nat} {r c : Code} {env : Env} {H : AHeap} {Q : Post} (R : Env → AHeap → Prop) (h1 : W P C ng nt r env H (seqK P C ng nt c fun x e h => x = .normal ∧ R e h)) (h2 : ∀ e h, R e h → Q .normal e h) :
  W P C ng nt r env H (seqK P C ng nt c Q) := by
 refine W_mono h1 fun x e h q => ?_
 cases x with
 | normal =>
  refine W_mono q fun x e h q => ?_
  obtain ⟨rfl, q⟩ := q
  exact h2 e h q
 | exit i => cases q.1
 | ret => cases q.1
structure HeapR (H h : AHeap) (va vb vc vh : Value) (spot : Nat) (hour : Int) (p : Hp × Value) (now : Mom) (B8 B9 B10 B11 gB sB L : Nat) (LX : AObj) (out : List Rul) (bf tp : Nat) (vo : Value) (vs : List Value) (gg : Option Nat) : Prop where
 y : h.get H.n = .cells [va, vb, vc, vh] 91 .ex
 s : h.get (H.n + 1) = .cells [iv spot] 3 .ex
 t : h.get (H.n + 2) = .cells [iv hour] 3 .ex
 hp : h.get (H.n + 3) = .cells (eHp p) 99 .ex
 now : h.get B8 = .cells (eMom now) 101 .ex
 o : h.get B9 = .cells [vo] 114 .ex
 b : h.get B10 = .cells [iv bf] 3 .ex
 tp : h.get B11 = .cells [iv tp] 3 .ex
 g : h.get gB = .cells [va, vb, vc] 26 .ex
 sb : h.get sB = .cells [iv spot] 3 .ex
 lo : h.get L = LX
 G : GS h 1 out.length vo vs gg
 gr : ∀ x, gg = some x → H.n ≤ x
 vb : vblk vo ∉ [B9, B10, B11, L] ∧ H.n ≤ vblk vo
 R : RulesV h [B9, B10, B11, L] vs out
 F : Fr H.n [] H h
 T : Top h
 lt : L < h.n
def InRow (a b c d e f g i : Nat) : Prop := a + 3 < b ∧ b < c ∧ c < d ∧ d < e ∧ e < f ∧ f < g ∧ g < i
section
variable {H h h' : AHeap} {va vb vc vh : Value} {spot : Nat} {hour : Int} {p : Hp × Value} {now : Mom} {B8 B9 B10 B11 gB sB L : Nat} {LX : AObj} {out : List Rul} {bf tp : Nat} {vo : Value} {vs : List Value} {gg : Option Nat}
theorem HeapR.mono (k : HeapR H h va vb vc vh spot hour p now B8 B9 B10 B11 gB sB L LX out bf tp vo vs gg) (r : InRow H.n B8 B9 B10 B11 gB sB L) (F : Fr h.n [] h h') (hH : H.n ≤ h.n) : HeapR H h' va vb vc vh spot hour p now B8 B9 B10 B11 gB sB L LX out bf tp vo vs gg := by
 obtain ⟨r1, r2, r3, r4, r5, r6, r7⟩ := r
 have l := k.lt
 have hn := F.n
 have o : ∀ b, b < h.n → h'.get b = h.get b := fun b hb => F.old b hb (by simp)
 exact ⟨by rw [o _ (by omega)]; exact k.y, by rw [o _ (by omega)]; exact k.s, by rw [o _ (by omega)]; exact k.t, by rw [o _ (by omega)]; exact k.hp, by rw [o _ (by omega)]; exact k.now, by rw [o _ (by omega)]; exact k.o, by rw [o _ (by omega)]; exact k.b, by rw [o _ (by omega)]; exact k.tp,
  by rw [o _ (by omega)]; exact k.g, by rw [o _ (by omega)]; exact k.sb, by rw [o _ (by omega)]; exact k.lo, k.G.fr F (fun x hx => by subst hx; exact k.G.grp_lt) (by simp), k.gr, k.vb, k.R.fr F (by simp), k.F.call F hH, F.top k.T, by omega⟩
theorem HeapR.setL (k : HeapR H h va vb vc vh spot hour p now B8 B9 B10 B11 gB sB L LX out bf tp vo vs gg) (r : InRow H.n B8 B9 B10 B11 gB sB L) (hH : H.n ≤ L) {LY : AObj} (hL : ∀ N b, grOk N b LY) : HeapR H (h.upd h.n L LY) va vb vc vh spot hour p now B8 B9 B10 B11 gB sB L LY out bf tp vo vs gg := by
 obtain ⟨r1, r2, r3, r4, r5, r6, r7⟩ := r
 have l := k.lt
 have F : Fr h.n [L] h (h.upd h.n L LY) := (Fr.refl h).upd (Nat.le_refl _) l (.inr (by simp)) (hL _ _)
 have F0 : Fr H.n [] H (h.upd h.n L LY) := k.F.upd (Nat.le_refl _) l (.inl hH) (hL _ _)
 have o : ∀ b, b ≠ L → (h.upd h.n L LY).get b = h.get b := fun b hb => upd_get_ne hb
 have v1 := k.vb.1
 simp only [List.mem_cons, List.not_mem_nil, or_false, not_or] at v1
 exact ⟨by rw [o _ (by omega)]; exact k.y, by rw [o _ (by omega)]; exact k.s, by rw [o _ (by omega)]; exact k.t, by rw [o _ (by omega)]; exact k.hp, by rw [o _ (by omega)]; exact k.now, by rw [o _ (by omega)]; exact k.o, by rw [o _ (by omega)]; exact k.b, by rw [o _ (by omega)]; exact k.tp,
  by rw [o _ (by omega)]; exact k.g, by rw [o _ (by omega)]; exact k.sb, upd_get_same, k.G.fr F (fun x hx => by subst hx; exact k.G.grp_lt) (by simpa using v1.2.2.2), k.gr, k.vb, k.R.fr F (by simp), F0, F.top k.T, l⟩
theorem HeapR.setT (k : HeapR H h va vb vc vh spot hour p now B8 B9 B10 B11 gB sB L LX out bf tp vo vs gg) (r : InRow H.n B8 B9 B10 B11 gB sB L) (hH : H.n ≤ B11) (t' : Nat) : HeapR H (h.upd h.n B11 (.cells [iv t'] 3 .ex)) va vb vc vh spot hour p now B8 B9 B10 B11 gB sB L LX out bf t' vo vs gg := by
 obtain ⟨r1, r2, r3, r4, r5, r6, r7⟩ := r
 have l := k.lt
 have F : Fr h.n [B11] h (h.upd h.n B11 (.cells [iv t'] 3 .ex)) := (Fr.refl h).upd (Nat.le_refl _) (by omega) (.inr (by simp)) trivial
 have F0 : Fr H.n [] H (h.upd h.n B11 (.cells [iv t'] 3 .ex)) := k.F.upd (Nat.le_refl _) (by omega) (.inl hH) trivial
 have o : ∀ b, b ≠ B11 → (h.upd h.n B11 (.cells [iv t'] 3 .ex)).get b = h.get b := fun b hb => upd_get_ne hb
 have v1 := k.vb.1
 simp only [List.mem_cons, List.not_mem_nil, or_false, not_or] at v1
 exact ⟨by rw [o _ (by omega)]; exact k.y, by rw [o _ (by omega)]; exact k.s, by rw [o _ (by omega)]; exact k.t, by rw [o _ (by omega)]; exact k.hp, by rw [o _ (by omega)]; exact k.now, by rw [o _ (by omega)]; exact k.o, by rw [o _ (by omega)]; exact k.b, upd_get_same,
  by rw [o _ (by omega)]; exact k.g, by rw [o _ (by omega)]; exact k.sb, by rw [o _ (by omega)]; exact k.lo, k.G.fr F (fun x hx => by subst hx; exact k.G.grp_lt) (by simpa using v1.2.2.1), k.gr, k.vb, k.R.fr F (by simp), F0, F.top k.T, l⟩
theorem HeapR.setB (k : HeapR H h va vb vc vh spot hour p now B8 B9 B10 B11 gB sB L LX out bf tp vo vs gg) (r : InRow H.n B8 B9 B10 B11 gB sB L) (hH : H.n ≤ B10) (t' : Nat) : HeapR H (h.upd h.n B10 (.cells [iv t'] 3 .ex)) va vb vc vh spot hour p now B8 B9 B10 B11 gB sB L LX out t' tp vo vs gg := by
 obtain ⟨r1, r2, r3, r4, r5, r6, r7⟩ := r
 have l := k.lt
 have F : Fr h.n [B10] h (h.upd h.n B10 (.cells [iv t'] 3 .ex)) := (Fr.refl h).upd (Nat.le_refl _) (by omega) (.inr (by simp)) trivial
 have F0 : Fr H.n [] H (h.upd h.n B10 (.cells [iv t'] 3 .ex)) := k.F.upd (Nat.le_refl _) (by omega) (.inl hH) trivial
 have o : ∀ b, b ≠ B10 → (h.upd h.n B10 (.cells [iv t'] 3 .ex)).get b = h.get b := fun b hb => upd_get_ne hb
 have v1 := k.vb.1
 simp only [List.mem_cons, List.not_mem_nil, or_false, not_or] at v1
 exact ⟨by rw [o _ (by omega)]; exact k.y, by rw [o _ (by omega)]; exact k.s, by rw [o _ (by omega)]; exact k.t, by rw [o _ (by omega)]; exact k.hp, by rw [o _ (by omega)]; exact k.now, by rw [o _ (by omega)]; exact k.o, upd_get_same, by rw [o _ (by omega)]; exact k.tp,
  by rw [o _ (by omega)]; exact k.g, by rw [o _ (by omega)]; exact k.sb, by rw [o _ (by omega)]; exact k.lo, k.G.fr F (fun x hx => by subst hx; exact k.G.grp_lt) (by simpa using v1.2.1), k.gr, k.vb, k.R.fr F (by simp), F0, F.top k.T, l⟩
theorem HeapR.add (k : HeapR H h va vb vc vh spot hour p now B8 B9 B10 B11 gB sB L LX out bf tp vo vs gg) (r : InRow H.n B8 B9 B10 B11 gB sB L) (hH : H.n ≤ B9) {hA : AHeap} (FA : Fr h.n [] h hA) (TA : Top hA) {rv : Value} {w : Rul} (hr : RuleV hA [B9, B10, B11, L] rv w) {gx : Nat} (hgx : gx = gg.getD hA.n)
  (GG : GS (hA.upd (hA.n + 1) hA.n (.cells (vs ++ [rv]) 119 (.gr gx 1 true))) 1 (out.length + 1) (.slice (some ⟨hA.n, 0, none⟩) (out.length + 1) (out.length + 1)) (vs ++ [rv]) (some gx)) :
  HeapR H ((hA.upd (hA.n + 1) hA.n (.cells (vs ++ [rv]) 119 (.gr gx 1 true))).upd (hA.n + 1) B9 (.cells [.slice (some ⟨hA.n, 0, none⟩) (out.length + 1) (out.length + 1)] 114 .ex)) va vb vc vh spot hour p now B8 B9 B10 B11 gB sB L LX (out ++ [w]) bf tp (.slice (some ⟨hA.n, 0, none⟩) (out.length + 1) (out.length + 1)) (vs ++ [rv]) (some gx) := by
 have kA := k.mono r FA k.F.n
 obtain ⟨r1, r2, r3, r4, r5, r6, r7⟩ := r
 have l := kA.lt
 have gl : gx ≤ hA.n ∧ H.n ≤ gx := by
  subst hgx
  cases hgg : gg with
  | none => exact ⟨Nat.le_refl _, by show H.n ≤ hA.n; omega⟩
  | some x =>
   have := kA.gr x hgg
   have G := kA.G
   rw [hgg] at G
   have := G.grp_lt
   exact ⟨by show x ≤ hA.n; omega, by assumption⟩
 have F1 : Fr H.n [] H (hA.upd (hA.n + 1) hA.n (.cells (vs ++ [rv]) 119 (.gr gx 1 true))) := kA.F.upd (Nat.le_succ _) (Nat.lt_succ_self _) (.inl (by omega)) ⟨gl.2, gl.1⟩
 have F2 : Fr H.n [] H ((hA.upd (hA.n + 1) hA.n (.cells (vs ++ [rv]) 119 (.gr gx 1 true))).upd (hA.n + 1) B9 (.cells [.slice (some ⟨hA.n, 0, none⟩) (out.length + 1) (out.length + 1)] 114 .ex)) := F1.upd (Nat.le_refl _) (by omega) (.inl hH) trivial
 have FX1 : Fr 0 [B9] hA (hA.upd (hA.n + 1) hA.n (.cells (vs ++ [rv]) 119 (.gr gx 1 true))) := (Fr.refl hA).upd (o := .cells (vs ++ [rv]) 119 (.gr gx 1 true)) (Nat.le_succ _) (Nat.lt_succ_self _) (.inl (Nat.le_refl _)) ⟨Nat.zero_le _, gl.1⟩
 have FX : Fr 0 [B9] hA ((hA.upd (hA.n + 1) hA.n (.cells (vs ++ [rv]) 119 (.gr gx 1 true))).upd (hA.n + 1) B9 (.cells [.slice (some ⟨hA.n, 0, none⟩) (out.length + 1) (out.length + 1)] 114 .ex)) := FX1.upd (Nat.le_refl _) (by omega) (.inr (by simp)) trivial
 have FG : Fr (hA.n + 1) [B9] (hA.upd (hA.n + 1) hA.n (.cells (vs ++ [rv]) 119 (.gr gx 1 true))) ((hA.upd (hA.n + 1) hA.n (.cells (vs ++ [rv]) 119 (.gr gx 1 true))).upd (hA.n + 1) B9 (.cells [.slice (some ⟨hA.n, 0, none⟩) (out.length + 1) (out.length + 1)] 114 .ex)) := (Fr.refl _).upd (Nat.le_refl _) (by show B9 < hA.n + 1; omega) (.inr (by simp)) trivial
 have o : ∀ b, b ≠ B9 → b < hA.n → ((hA.upd (hA.n + 1) hA.n (.cells (vs ++ [rv]) 119 (.gr gx 1 true))).upd (hA.n + 1) B9 (.cells [.slice (some ⟨hA.n, 0, none⟩) (out.length + 1) (out.length + 1)] 114 .ex)).get b = hA.get b := fun b hb hn => by rw [upd_get_ne hb, upd_get_ne (by omega)]
 refine ⟨by rw [o _ (by omega) (by omega)]; exact kA.y, by rw [o _ (by omega) (by omega)]; exact kA.s, by rw [o _ (by omega) (by omega)]; exact kA.t, by rw [o _ (by omega) (by omega)]; exact kA.hp, by rw [o _ (by omega) (by omega)]; exact kA.now, upd_get_same, by rw [o _ (by omega) (by omega)]; exact kA.b, by rw [o _ (by omega) (by omega)]; exact kA.tp,
  by rw [o _ (by omega) (by omega)]; exact kA.g, by rw [o _ (by omega) (by omega)]; exact kA.sb, by rw [o _ (by omega) (by omega)]; exact kA.lo, ?_, fun x hx => by cases hx; exact gl.2, ⟨by show hA.n ∉ _; simp only [List.mem_cons, List.not_mem_nil, or_false, not_or]; omega, by show H.n ≤ hA.n; omega⟩, ?_, F2, FX.top kA.T, by show L < hA.n + 1; omega⟩
 ·rw [List.length_append]
  exact GG.fr FG (fun x hx => by cases hx; omega) (by show hA.n ∉ [B9]; simp; omega)
 ·exact (kA.R.fr FX (by simp)).app ⟨hr.fr FX (by simp), trivial⟩
end
theorem splice_off {x r l : List Value} {o : Nat} : splice (x ++ r) (x.length + o) l = x ++ splice r o l := by
 unfold splice
 rw [List.take_append, List.take_of_length_le (by omega), Nat.add_sub_cancel_left, List.append_assoc, List.append_assoc, List.append_assoc]
 congr 3
 rw [List.drop_append, List.drop_of_length_le (by omega), List.nil_append]
 congr 1
 omega
theorem Fr.down {N N' : Nat} {X : List Nat} {A B : AHeap} (h : Fr N' X A B) (hn : N ≤ N') : Fr N X A B := h.mono hn fun _ hb _ => hb
theorem GS.upd_gr' {B : AHeap} {s n g' e : Nat} {l : Bool} {v : Value} {c d : List Value} {T : TypeId} {g : Option Nat} (G : GS B s n v c g) (hne : g ≠ some g') : GS (B.upd (B.n + 1) B.n (.cells d T (.gr g' e l))) s n v c g := by
 cases G with
 | nil hn hv hc => exact .nil hn hv hc
 | full hv hb hg hk hl hc h0 => exact .full hv (Nat.lt_succ_of_lt hb) ((upd_get_ne (by omega)).trans hg) hk hl hc h0
 | gr hv hb hgb hg hl hf =>
  refine .gr hv (Nat.lt_succ_of_lt hb) hgb ((upd_get_ne (by omega)).trans hg) hl ?_
  intro b' c' T' e' l' hb'
  by_cases e1 : b' = B.n
  ·subst e1
   rw [upd_get_same] at hb'
   cases hb'
   exact absurd rfl hne
  ·rw [upd_get_ne e1] at hb'
   exact hf _ _ _ _ _ hb'
structure App (H G : AHeap) (g g' : Option Nat) (m : Nat) : Prop where
 n : H.n ≤ G.n
 top : Top G
 fr : ∀ N, N ≤ H.n → (∀ x, g = some x → N ≤ x) → Fr N [] H G
 old : ∀ b, b < H.n → G.get b = H.get b
 grp : (m = 0 ∧ g' = g) ∨ (0 < m ∧ g' = some (g.getD H.n))
 keep : ∀ {s n : Nat} {v : Value} {c : List Value} {g2 : Option Nat}, GS H s n v c g2 → g2 ≠ some (g.getD H.n) → GS G s n v c g2
theorem oB_app {P : Program} {ts : Array TypeId} {H : AHeap} {s n m e : Nat} {v x : Value} {c new : List Value} {g : Option Nat} {K : Value → AHeap → Prop} (ht : Top H) (G : GS H s n v c g) (S : SR H s m x new)
  (h1 : 0 < m → appendOp P ts [v, x] H = some (.slice (some ⟨H.n, 0, none⟩) (n + m) (n + m), H.upd (H.n + 1) H.n (.cells (c ++ new) e (.gr (g.getD H.n) s true)))) (h0 : m = 0 → appendOp P ts [v, x] H = some (v, H))
  (k : ∀ v' G' g', App H G' g g' m → GS G' s (n + m) v' (c ++ new) g' → (v' = v ∨ H.n ≤ vblk v') → K v' G') : oB (appendOp P ts [v, x] H) K := by
 by_cases hm : m = 0
 ·rw [h0 hm]
  have hnew : new = [] := by have := S.len; subst hm; simpa using this
  subst hm hnew
  exact k v H g ⟨Nat.le_refl _, ht, fun N _ _ => Fr.refl _, fun _ _ => rfl, .inl ⟨rfl, rfl⟩, fun G2 _ => G2⟩ (by rw [List.append_nil]; exact G) (.inl rfl)
 ·rw [h1 (by omega)]
  have GG := GS.pushed (e := e) ht G S.len
  have hf : ∀ N, N ≤ H.n → (∀ x, g = some x → N ≤ x) → Fr N [] H (H.upd (H.n + 1) H.n (.cells (c ++ new) e (.gr (g.getD H.n) s true))) := fun N hN hg => (Fr.refl H).upd (Nat.le_succ _) (Nat.lt_succ_self _) (.inl (Nat.le_refl _)) (G.grpOk hN hg)
  exact k _ _ _ ⟨Nat.le_succ _, (hf 0 (Nat.zero_le _) fun _ _ => Nat.zero_le _).top ht, hf, fun b hb => upd_get_ne (by omega), .inr ⟨by omega, rfl⟩, fun G2 hne => G2.upd_gr' hne⟩ GG (.inr (Nat.le_refl _))
theorem App.lt {H G : AHeap} {g g' : Option Nat} {m : Nat} (a : App H G g g' m) {N : Nat} (hN : N ≤ H.n) (hg : ∀ x, g = some x → N ≤ x) : ∀ x, g' = some x → N ≤ x := by
 intro x hx
 rcases a.grp with ⟨_, q⟩ | ⟨_, q⟩
 ·exact hg x (q ▸ hx)
 ·rw [q] at hx
  cases hx
  exact gd_ge hg hN
def RS (H : AHeap) (N : Nat) (v : Value) (rs : List Rul) (g : Option Nat) : Prop := ∃ vs, GS H 1 rs.length v vs g ∧ (∀ x, g = some x → N ≤ x) ∧ RulesV H [] vs rs
theorem RS.nul {H : AHeap} {N : Nat} : RS H N (.slice none 0 0) [] none := ⟨[], .nil rfl rfl rfl, by simp, trivial⟩
theorem RS.fr0 {H G : AHeap} {N : Nat} {v : Value} {rs : List Rul} {g : Option Nat} (h : RS H N v rs g) (F : Fr H.n [] H G) : RS G N v rs g := by
 obtain ⟨vs, a, b, c⟩ := h
 exact ⟨vs, a.fr0 F, b, c.fr F (by simp)⟩
theorem RS.keep {H G : AHeap} {N m : Nat} {v : Value} {rs : List Rul} {g1 g2 g : Option Nat} (h : RS H N v rs g) (a : App H G g1 g2 m) (hne : g ≠ some (g1.getD H.n)) : RS G N v rs g := by
 obtain ⟨vs, a1, b, c⟩ := h
 exact ⟨vs, a.keep a1 hne, b, c.fr (a.fr 0 (Nat.zero_le _) fun _ _ => Nat.zero_le _) (by simp)⟩
theorem RS.gn {H : AHeap} {N : Nat} {v : Value} {rs : List Rul} {g : Option Nat} (h : RS H N v rs g) : ∀ x, g = some x → x < H.n := by
 obtain ⟨vs, a, b, c⟩ := h
 intro x hx
 subst hx
 exact a.grp_lt
theorem RS.one {H : AHeap} {N : Nat} {v : Value} {rs : List Rul} {g : Option Nat} (h : RS H N v rs g) : Swa.one v := by
 obtain ⟨vs, a, b, c⟩ := h
 exact a.one
theorem RS.app {P : Program} {ts : Array TypeId} {H : AHeap} {N1 N2 e : Nat} {v x : Value} {rs ss : List Rul} {g g2 : Option Nat} {K : Value → AHeap → Prop} (ht : Top H) (A : RS H N1 v rs g) (B : RS H N2 x ss g2) (hN : N1 ≤ H.n)
  (h1 : ∀ c new, GS H 1 rs.length v c g → SR H 1 ss.length x new → 0 < ss.length → appendOp P ts [v, x] H = some (.slice (some ⟨H.n, 0, none⟩) (rs.length + ss.length) (rs.length + ss.length), H.upd (H.n + 1) H.n (.cells (c ++ new) e (.gr (g.getD H.n) 1 true)))) (h0 : ∀ c new, GS H 1 rs.length v c g → SR H 1 0 x new → appendOp P ts [v, x] H = some (v, H))
  (k : ∀ v' G' g', App H G' g g' ss.length → RS G' N1 v' (rs ++ ss) g' → K v' G') : oB (appendOp P ts [v, x] H) K := by
 obtain ⟨vs, a1, a2, a3⟩ := A
 obtain ⟨us, b1, b2, b3⟩ := B
 refine oB_app ht a1 b1.sr (h1 _ _ a1 b1.sr) (fun hm => h0 _ _ a1 (by rw [← hm]; exact b1.sr)) fun v' G' g' a G hv => k v' G' g' a ⟨vs ++ us, by rw [List.length_append]; exact G, a.lt hN a2, ?_⟩
 have F := a.fr 0 (Nat.zero_le _) fun _ _ => Nat.zero_le _
 exact (a3.fr F (by simp)).app (b3.fr F (by simp))
theorem hStep_len (g : Gnd) (h : Hp) (spot : Nat) (hour : Int) (now : Mom) (s : Hst) (i : Nat) (a : Act) : s.out.length ≤ (hStep g h spot hour now s i a).out.length ∧ (hStep g h spot hour now s i a).out.length ≤ s.out.length + 2 := by
 unfold hStep
 split
 ·exact ⟨Nat.le_refl _, by omega⟩
 ·dsimp only
  split <;> split <;> (try simp only [List.length_append, List.length_singleton]) <;> omega
theorem hRun_len (g : Gnd) (h : Hp) (spot : Nat) (hour : Int) (now : Mom) : ∀ (l : List Act) (i : Nat) (s : Hst), s.out.length ≤ (hRun g h spot hour now i l s).out.length ∧ (hRun g h spot hour now i l s).out.length ≤ s.out.length + 2 * l.length
 | [], i, s => by rw [hRun]; exact ⟨Nat.le_refl _, by omega⟩
 | a :: l, i, s => by
  rw [hRun, List.length_cons]
  have h1 := hStep_len g h spot hour now s i a
  have h2 := hRun_len g h spot hour now l (i + 1) (if a.Spot = spot then hStep g h spot hour now s i a else s)
  split at h2
  ·rename_i q
   rw [if_pos q]
   omega
  ·rename_i q
   rw [if_neg q]
   omega
theorem heapRules_len (g : Gnd) (h : Hp) (spot : Nat) (hour : Int) : 1 ≤ (heapRules g h spot hour).length ∧ (heapRules g h spot hour).length ≤ 1 + 2 * g.Acts.length := by
 unfold heapRules
 have := hRun_len g h spot hour (nowOf g h hour) g.Acts 0 ⟨[[⟨spot, (nowOf g h hour).takes, (nowOf g h hour).tips, holdsP g spot (nowOf g h hour).kind.toNat⟩]], 0, 0⟩
 exact this
theorem heapsR_len (g : Gnd) (hs : List Hp) (hour : Int) : ∀ n, n ≤ (heapsR g hs hour n).length ∧ (heapsR g hs hour n).length ≤ n * (1 + 2 * g.Acts.length)
 | 0 => ⟨Nat.le_refl _, Nat.zero_le _⟩
 | n + 1 => by
  have h1 := heapsR_len g hs hour n
  have h2 := heapRules_len g (hs.getD n default) n hour
  rw [heapsR, List.length_append, Nat.add_mul]
  omega
theorem pairRow_len (g : Gnd) (hs : List Hp) (hour : Int) (b : Nat) : ∀ n, (pairRow g hs hour b n).length ≤ n
 | 0 => Nat.le_refl _
 | n + 1 => by
  have h1 := pairRow_len g hs hour b n
  have h2 : (pairOne g hs hour b n).length ≤ 1 := by
   unfold pairOne
   dsimp only
   split <;> simp
  rw [pairRow, List.length_append]
  omega
theorem pairRules_len (g : Gnd) (hs : List Hp) (hour : Int) : ∀ n, (pairRules g hs hour n).length ≤ n * n
 | 0 => Nat.le_refl _
 | n + 1 => by
  have h1 := pairRules_len g hs hour n
  have h2 := pairRow_len g hs hour n n
  rw [pairRules, List.length_append, Nat.add_mul, Nat.mul_add]
  omega
def Fine (N : Nat) (rs : List Rul) : Prop := ∀ r, r ∈ rs → RulOk N r ∧ r.length ≤ 2
theorem Fine.nil {N : Nat} : Fine N [] := fun r h => by simp at h
theorem Fine.app {N : Nat} {a b : List Rul} (h : Fine N a) (k : Fine N b) : Fine N (a ++ b) := fun r hr => by
 rcases List.mem_append.1 hr with q | q
 ·exact h r q
 ·exact k r q
theorem Fine.one {N : Nat} {w : Way} (h : WayOk N w) : Fine N [[w]] := fun r hr => by
 rw [List.mem_singleton] at hr
 subst hr
 refine ⟨fun x hx => ?_, by show 1 ≤ 2; omega⟩
 rw [List.mem_singleton] at hx
 subst hx
 exact h
theorem Fine.two {N : Nat} {w u : Way} (h : WayOk N w) (k : WayOk N u) : Fine N [[w, u]] := fun r hr => by
 rw [List.mem_singleton] at hr
 subst hr
 refine ⟨fun x hx => ?_, by show 2 ≤ 2; omega⟩
 simp only [List.mem_cons, List.not_mem_nil, or_false] at hx
 rcases hx with rfl | rfl
 ·exact h
 ·exact k
theorem Fine.ok {N : Nat} {rs : List Rul} (h : Fine N rs) : RulsOk N rs := fun r hr => (h r hr).1
theorem Few.wayok {h : Hp} (hf : Few h) {N spot : Nat} (hs : spot < N) (act : Int) : WayOk N (emptyW spot (h.before act)) := ⟨hs, (hf.before act).2, (hf.before act).1⟩
theorem hStep_fine {g : Gnd} {h : Hp} (hf : Few h) {N spot : Nat} (hs : spot < N) {hour : Int} {now : Mom} (hn : now.takes < 11) {s : Hst} (i : Nat) (a : Act) (k : Fine N s.out) : Fine N (hStep g h spot hour now s i a).out := by
 unfold hStep
 split
 ·exact k
 ·dsimp only
  have k1 : Fine N (if w64 (a.Hour + (g.Sorts.getD a.Kind.toNat default).Age) < hour then s.out ++ [[⟨spot, now.takes, (h.before ((i + 1 : Nat) : Int)).tips, 0⟩]] else s.out) := by
   split
   ·exact k.app (Fine.one ⟨hs, hn, (hf.before _).1⟩)
   ·exact k
  split
  ·exact k1.app (Fine.one (hf.wayok hs _))
  ·exact k1
theorem hRun_fine {g : Gnd} {h : Hp} (hf : Few h) {N spot : Nat} (hs : spot < N) {hour : Int} {now : Mom} (hn : now.takes < 11) : ∀ (l : List Act) (i : Nat) (s : Hst), Fine N s.out → Fine N (hRun g h spot hour now i l s).out
 | [], i, s, k => by rw [hRun]; exact k
 | a :: l, i, s, k => by
  rw [hRun]
  split
  ·exact hRun_fine hf hs hn l _ _ (hStep_fine hf hs hn i a k)
  ·exact hRun_fine hf hs hn l _ _ k
theorem heapRules_fine {g : Gnd} {h : Hp} (hf : Few h) {N spot : Nat} (hs : spot < N) (hour : Int) : Fine N (heapRules g h spot hour) := by
 unfold heapRules
 have hb := hf.before (untilL hour g.Acts)
 exact hRun_fine hf hs hb.2 _ _ _ (Fine.one ⟨hs, hb.2, hb.1⟩)
theorem heapsR_fine {g : Gnd} {hs : List Hp} {N : Nat} (hf : ∀ j, j < N → Few (hs.getD j default)) (hour : Int) : ∀ n, n ≤ N → Fine N (heapsR g hs hour n)
 | 0, _ => Fine.nil
 | n + 1, h => (heapsR_fine hf hour n (by omega)).app (heapRules_fine (hf n (by omega)) (by omega) hour)
theorem pairRow_fine {g : Gnd} {hs : List Hp} {N : Nat} (hf : ∀ j, j < N → Few (hs.getD j default)) (hour : Int) {b : Nat} (hb : b < N) : ∀ n, n ≤ b → Fine N (pairRow g hs hour b n)
 | 0, _ => Fine.nil
 | n + 1, h => by
  refine (pairRow_fine hf hour hb n (by omega)).app ?_
  unfold pairOne
  dsimp only
  split
  ·exact Fine.nil
  ·exact Fine.two ((hf n (by omega)).wayok (by omega) _) ((hf b hb).wayok hb _)
theorem pairRules_fine {g : Gnd} {hs : List Hp} {N : Nat} (hf : ∀ j, j < N → Few (hs.getD j default)) (hour : Int) : ∀ n, n ≤ N → Fine N (pairRules g hs hour n)
 | 0, _ => Fine.nil
 | n + 1, h => (pairRules_fine hf hour n (by omega)).app (pairRow_fine hf hour (by omega) n (Nat.le_refl _))
def Dis (a b : Option Nat) : Prop := ∀ x, a = some x → b ≠ some x
theorem Dis.ne {a b : Option Nat} {n : Nat} (h : Dis a b) (hl : ∀ x, a = some x → x < n) : a ≠ some (b.getD n) := by
 intro e
 cases b with
 | none => exact Nat.lt_irrefl _ (hl n e)
 | some y => exact h y e rfl
theorem Dis.symm {a b : Option Nat} (h : Dis a b) : Dis b a := fun x hx hy => h x hy hx
theorem Dis.app {H G : AHeap} {a a' b : Option Nat} {m : Nat} (h : Dis a b) (ap : App H G a a' m) (hl : ∀ x, b = some x → x < H.n) : Dis a' b := by
 rcases ap.grp with ⟨_, e⟩ | ⟨_, e⟩
 ·rw [e]; exact h
 ·intro x hx hy
  rw [e] at hx
  exact h.symm.ne hl (hy.trans hx.symm)
theorem Dis.far {a b : Option Nat} {n : Nat} (h : ∀ x, a = some x → x < n) (k : ∀ x, b = some x → n ≤ x) : Dis a b := fun x hx hy => by
 have := h x hx
 have := k x hy
 omega
def highS (s : Srt) (x : Int) : Srt := ⟨x, s.Dense, s.Fire, s.Age⟩
def fireS (s : Srt) (x : Int) : Srt := ⟨s.High, s.Dense, x, s.Age⟩
def ageS (s : Srt) (x : Int) : Srt := ⟨s.High, s.Dense, s.Fire, x⟩
theorem splice_srt {o : Nat} {f : Srt → Int → Srt} (hf : ∀ s t r, splice (eSrt s ++ r) o [iv t] = eSrt (f s t) ++ r) : ∀ (A : List Srt) (i : Nat) (t : Int), i < A.length → splice (A.flatMap eSrt) (i * 4 + o) [iv t] = (A.set i (f (A.getD i default) t)).flatMap eSrt
 | [], i, t, h => by simp at h
 | a :: A, 0, t, _ => by
  rw [Nat.zero_mul, Nat.zero_add]
  exact hf a t _
 | a :: A, i + 1, t, h => by
  have ih := splice_srt hf A i t (by simpa using h)
  rw [List.flatMap_cons, show (i + 1) * 4 + o = (eSrt a).length + (i * 4 + o) by rw [eSrt_len]; omega, splice_off, ih]
  rfl
theorem splice_high (A : List Srt) (i : Nat) (t : Int) (h : i < A.length) : splice (A.flatMap eSrt) (i * 4) [iv t] = (A.set i (highS (A.getD i default) t)).flatMap eSrt := splice_srt (o := 0) (f := highS) (fun _ _ _ => rfl) A i t h
theorem splice_fire (A : List Srt) (i : Nat) (t : Int) (h : i < A.length) : splice (A.flatMap eSrt) (i * 4 + 2) [iv t] = (A.set i (fireS (A.getD i default) t)).flatMap eSrt := splice_srt (f := fireS) (fun _ _ _ => rfl) A i t h
theorem splice_age (A : List Srt) (i : Nat) (t : Int) (h : i < A.length) : splice (A.flatMap eSrt) (i * 4 + 3) [iv t] = (A.set i (ageS (A.getD i default) t)).flatMap eSrt := splice_srt (f := ageS) (fun _ _ _ => rfl) A i t h
structure CpS (g : Gnd) (B4 B6 rr : Nat) (va vb vc xa xb xc : Value) (sl : List Srt) (h : AHeap) : Prop where
 g4 : h.get B4 = .cells [va, vb, vc] 26 .ex
 g6 : h.get B6 = .cells [xa, xb, xc] 26 .ex
 hG : RG h va vb vc g
 hk : g.Spots.length = 0 ∨ SK h 3 va
 xp : SR h 3 g.Spots.length xa (g.Spots.flatMap eSpo)
 xq : SR h 6 g.Acts.length xc (g.Acts.flatMap eAct)
 xk : g.Spots.length = 0 ∨ SK h 3 xa
 bd : B4 < h.n ∧ B6 < h.n ∧ (g.Sorts.length = 0 ∨ rr < h.n)
 xr : g.Sorts.length = 0 ∨ (xb = .slice (some ⟨rr, 0, none⟩) g.Sorts.length g.Sorts.length ∧ h.get rr = .cells (sl.flatMap eSrt) 76 (.gr rr 4 true) ∧ Sole h rr)
section
variable {g : Gnd} {B4 B6 rr : Nat} {va vb vc xa xb xc : Value} {sl sl' : List Srt} {h h' : AHeap}
theorem CpS.store (k : CpS g B4 B6 rr va vb vc xa xb xc sl h) (hi : 0 < g.Sorts.length) (o2 : rr ≠ B4) (o3 : rr ≠ B6) (o4 : g.Spots.length = 0 ∨ vblk va ≠ rr) (o5 : g.Acts.length = 0 ∨ vblk vc ≠ rr) (o6 : vblk vb ≠ rr)
  (o8 : g.Spots.length = 0 ∨ vblk xa ≠ rr) (o9 : g.Acts.length = 0 ∨ vblk xc ≠ rr) : CpS g B4 B6 rr va vb vc xa xb xc sl' (h.upd h.n rr (.cells (sl'.flatMap eSrt) 76 (.gr rr 4 true))) := by
 obtain ⟨b2, b3, b4⟩ := k.bd
 rcases k.xr with q | ⟨q0, q1, q2⟩
 ·omega
 have F : Fr 0 [rr] h (h.upd h.n rr (.cells (sl'.flatMap eSrt) 76 (.gr rr 4 true))) := (Fr.refl h).upd (Nat.le_refl _) (by omega) (.inr (by simp)) ⟨Nat.zero_le _, Nat.le_refl _⟩
 have nm : ∀ {n : Nat} {v : Value}, (n = 0 ∨ vblk v ≠ rr) → n = 0 ∨ vblk v ∉ [rr] := fun q => by
  rcases q with q | q
  ·exact .inl q
  ·right; simpa using q
 refine ⟨by rw [upd_get_ne (Ne.symm o2)]; exact k.g4, by rw [upd_get_ne (Ne.symm o3)]; exact k.g6, ⟨k.hG.p.fr F (nm o4), k.hG.q.fr F (.inr (by simpa using o6)), k.hG.r.fr F (nm o5)⟩, ?_, k.xp.fr F (nm o8), k.xq.fr F (nm o9), ?_, ⟨b2, b3, b4⟩, .inr ⟨q0, upd_get_same, ?_⟩⟩
 ·rcases k.hk with q | ⟨d, T, kk, e1, e2⟩
  ·exact .inl q
  ·rcases o4 with o4 | o4
   ·exact .inl o4
   ·exact .inr ⟨d, T, kk, (upd_get_ne o4).trans e1, e2⟩
 ·rcases k.xk with q | ⟨d, T, kk, e1, e2⟩
  ·exact .inl q
  ·rcases o8 with o8 | o8
   ·exact .inl o8
   ·exact .inr ⟨d, T, kk, (upd_get_ne o8).trans e1, e2⟩
 ·exact q2.upd fun _ _ _ _ _ => rfl
theorem CpS.done (k : CpS g B4 B6 rr va vb vc xa xb xc sl h) (hl : sl.length = g.Sorts.length) (hx : (xb = .slice none 0 0 ∧ g.Sorts.length = 0) ∨ ∃ b o q, xb = .slice (some ⟨b, o, none⟩) g.Sorts.length q ∧ g.Sorts.length ≤ q) : RG h xa xb xc ⟨g.Spots, sl, g.Acts⟩ := by
 refine ⟨k.xp, ?_, k.xq⟩
 show SR h 4 sl.length xb (sl.flatMap eSrt)
 have ln : (sl.flatMap eSrt).length = g.Sorts.length * 4 := by rw [flat_len eSrt_len, hl]
 rw [hl]
 rcases k.xr with q | ⟨q0, q1, q2⟩
 ·exact ⟨hx, ln, .inl q, .inl q⟩
 ·subst q0
  rcases k.bd.2.2 with q3 | q3
  ·exact ⟨hx, ln, .inl q3, .inl q3⟩
  ·refine ⟨hx, ln, .inr ⟨_, by rw [rd_def]; show rdO (h.get rr) = _; rw [q1]; rfl, ?_, ?_⟩, .inr q3⟩
   ·show 0 + _ ≤ _
    rw [ln]; omega
   ·show (List.drop 0 _).take _ = _
    rw [List.drop_zero, List.take_of_length_le (by omega)]
end
structure StL (A L : List Srt) (i : Nat) : Prop where
 len : L.length = A.length
 rest : ∀ k, i ≤ k → L.getD k default = A.getD k default
 st : ∀ k, k < A.length → StS (A.getD k default) (L.getD k default)
 ok : ∀ k, k < A.length → okSrt (L.getD k default) = true
theorem StL.start {A : List Srt} (h : ∀ s, s ∈ A → okSrt s = true) : StL A A 0 := ⟨rfl, fun _ _ => rfl, fun _ _ => .refl _, fun k hk => h _ (getD_mem hk)⟩
theorem StL.step {A L : List Srt} {i : Nat} (h : StL A L i) (hi : i < A.length) {s : Srt} (h1 : StS (L.getD i default) s) (h2 : okSrt s = true) : StL A (L.set i s) (i + 1) := by
 have hl := h.len
 have e : ∀ k, (L.set i s).getD k default = if i = k then s else L.getD k default := fun k => by
  rw [getD_setA]
  by_cases c : i = k
  ·rw [if_pos ⟨c, by omega⟩, if_pos c]
  ·rw [if_neg (fun q => c q.1), if_neg c]
 rw [h.rest i (Nat.le_refl _)] at h1
 refine ⟨by rw [List.length_set]; exact hl, fun k hk => ?_, fun k hk => ?_, fun k hk => ?_⟩
 ·rw [e, if_neg (by omega)]; exact h.rest k (by omega)
 ·rw [e]
  split
  ·rename_i c; rw [← c]; exact h1
  ·exact h.st k hk
 ·rw [e]
  split
  ·exact h2
  ·exact h.ok k hk
theorem StL.g {g : Gnd} {L : List Srt} {i : Nat} (h : StL g.Sorts L i) : StG g ⟨g.Spots, L, g.Acts⟩ ∧ ∀ s, s ∈ L → okSrt s = true := by
 refine ⟨⟨rfl, rfl, h.len, h.st⟩, fun s hs => ?_⟩
 obtain ⟨k, hk, rfl⟩ := List.getElem_of_mem hs
 have := h.ok k (by rw [← h.len]; exact hk)
 simpa [List.getD, hk] using this
theorem set3 {L : List Srt} {i : Nat} (hi : i < L.length) (a b c : Int) :
  ((L.set i (highS (L.getD i default) a)).set i (fireS ((L.set i (highS (L.getD i default) a)).getD i default) b)).set i (ageS (((L.set i (highS (L.getD i default) a)).set i (fireS ((L.set i (highS (L.getD i default) a)).getD i default) b)).getD i default) c) =
  L.set i ⟨a, (L.getD i default).Dense, b, c⟩ := by
 have e : ∀ (L : List Srt) (s : Srt), i < L.length → (L.set i s).getD i default = s := fun L s h => by
  rw [getD_setA, if_pos ⟨rfl, h⟩]
 have e1 := e L (highS (L.getD i default) a) hi
 obtain ⟨u, hu⟩ : ∃ u, u = highS (L.getD i default) a := ⟨_, rfl⟩
 rw [← hu] at e1 ⊢
 rw [e1]
 simp only [List.set_set]
 have e2 := e L (fireS u b) hi
 rw [e2, hu]
 rfl
theorem high_in {h : Int} (h1 : 1 ≤ h) (h2 : h ≤ 1000) (a b : Int) : 1 ≤ either a [h, btw b 1 h] ∧ either a [h, btw b 1 h] ≤ h := by
 have p1 := btw_spec (x := b) (lo := 1) (hi := h) (by omega) h1 (by omega)
 generalize btw b 1 h = y at p1
 have p2 := either2 a h y
 generalize either a [h, y] = z at p2
 omega
theorem zero_in {n : Int} (h1 : 1 ≤ n) (h2 : n ≤ 1000) (k a b : Int) (hk : 0 ≤ k ∧ k < n) : 0 ≤ either a [k, below b n] ∧ either a [k, below b n] < n := by
 have p1 := below_spec b n (by omega)
 have p3 := p1.2.1 (by omega)
 have p4 := p1.1
 clear p1
 generalize below b n = y at p3 p4
 have p2 := either2 a k y
 generalize either a [k, y] = z at p2
 omega
theorem StS.made {s : Srt} (h : okSrt s = true) (hf : s.Fire ≤ 50) {x y z : Int} (hx : 1 ≤ x ∧ x ≤ s.High) (hy : 0 ≤ y ∧ y < 4) (hz : 0 ≤ z ∧ z < s.Age + 1) : StS s ⟨x, s.Dense, IntKind.i64.wrap (s.Fire + y), z⟩ ∧ okSrt ⟨x, s.Dense, IntKind.i64.wrap (s.Fire + y), z⟩ = true := by
 have o := okSrt_elim h
 have w : IntKind.i64.wrap (s.Fire + y) = s.Fire + y := wrap64 (by omega) (by omega)
 rw [w]
 exact ⟨⟨hx.2, rfl, by dsimp only; omega, by dsimp only; omega⟩, okSrt_mk (by dsimp only; omega) (by dsimp only; omega) (by dsimp only; omega) (by dsimp only; omega)⟩
end Go.Proofs.Swa
