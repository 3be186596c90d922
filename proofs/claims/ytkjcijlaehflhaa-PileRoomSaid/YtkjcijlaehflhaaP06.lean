/- Part 6 of a proof. -/
import Derived.Test.YtkjcijlaehflhaaP05
set_option linter.unusedVariables false
set_option linter.unusedSimpArgs false
set_option linter.defProp false
namespace Go.Proofs.Swa
open Go
theorem dA {p : Prop} (h : p := by first | omega | exact eHp_len _ | exact eAct_len _ | exact eMom_len _ | exact sums_len _ | exact eRng_len _ | exact eSpo_len _ | exact eSrt_len _ | (simp only [mLenC, mLenN, mLenA, zs_len, eHp_len, eAct_len, eMom_len, sums_len, eRng_len, eSpo_len, eSrt_len, upd_n, jn_n]; first | done | omega) | (simp only [List.mem_cons, List.not_mem_nil, or_false, not_or, not_false_eq_true, upd_n, jn_n]; first | done | omega)) : p := h
theorem oA {p : Prop} (h : p := by ((try simp only [upd_n, jn_n]); omega)) : p := h
theorem topA {H : AHeap} (h : Top H := by (repeat' (first | with_reducible assumption | ((with_reducible refine Top.jn ?_ ?_); rotate_left; (focus with_reducible assumption)) | ((with_reducible refine Top.upd ?_ ?_ ?_ ?_); rotate_left; (focus exact oA); (focus exact oA); (focus first | trivial | exact ⟨oA, oA⟩))))) : Top H := h
theorem frA {N : Nat} {X : List Nat} {A B : AHeap} (h : Fr N X A B := by (repeat' (first | with_reducible exact Fr.refl _ | with_reducible assumption | ((with_reducible apply Fr.trans) <;> with_reducible assumption) | ((with_reducible refine Fr.jn ?_ ?_ ?_); rotate_left; (focus with_reducible assumption); (focus exact oA)) | ((with_reducible refine Fr.upd ?_ ?_ ?_ ?_ ?_); rotate_left; (focus exact oA); (focus exact oA); (focus first | (left; exact oA) | (right; simp; done)); (focus first | trivial | exact ⟨oA, oA⟩))))) : Fr N X A B := h
theorem nxA {p : Prop} (h : p := by (simp only [List.mem_cons, List.not_mem_nil, or_false, not_or]; omega)) : p := h
def qbs := And.intro qb sp
def qds := And.intro qd qbs
def qcs := And.intro qc (And.intro qe (And.intro @stG_agg sp))
def spx := And.intro sp (And.intro (@if_true.{0}) (And.intro (@if_false.{0}) (@ite_self.{0})))
def qbx := And.intro qb spx
def qdx := And.intro qd qbx
def qcx := And.intro qc (And.intro qe (And.intro @stG_agg spx))
theorem obA {p : Prop} (h : p := by (simp only [oblR, oblA]; (repeat' (first | exact trivial | (refine And.intro ?_ ?_) | (right; simp (disch := first | exact dA | fail) only [qcs, Int.reduceToNat, Nat.reduceAdd, Nat.reduceMul, Nat.reduceEqDiff, reduceIte, reduceCtorEq, Nat.reduceLT]; done) | (right; (apply Top.dead2); (focus exact oA); (focus exact oA); (focus exact topA); (focus exact topA); done) | (left; decide))))) : p := h
theorem W_regionE {P : Program} {C : CallRel} {ng nt : Nat} {id : Nat} {l : List Oper} {env : Env} {H : AHeap} {Q : Post} (L : Nat → List Nat) (X : List Nat) (h : ∀ K : Env → AHeap → Prop, (∀ e h, (∀ e', (∀ t, t ∈ L id → e' t = e t) → Q .normal e' h) → K e h) → WO P C ⟨l⟩ l K env H) (hx : id ∉ X := by decide) : W P C ng nt (.region id ⟨l⟩ false) env H Q := W_regionF L h
theorem W_drawnE {P : Program} {C : CallRel} {ng nt : Nat} {id : Nat} {l : List Oper} {env : Env} {H : AHeap} {Q : Post} (L : Nat → List Nat) (X : List Nat) (h : ∀ K : Env → AHeap → Prop, (∀ e h, (∀ e', (∀ t, t ∈ L id → e' t = e t) → Q .normal e' h) → K e h) → WD P C ⟨l⟩ l 0 [] [] K env H) (hx : id ∉ X := by decide) : W P C ng nt (.region id ⟨l⟩ true) env H Q := W_drawnF L h
end Go.Proofs.Swa

set_option linter.unusedVariables false
set_option linter.unusedSimpArgs false
namespace Go.Proofs.Swa
open Go
theorem getD_set {l : List Int} {n m : Nat} {v : Int} : (l.set n v).getD m 0 = if n = m ∧ n < l.length then v else l.getD m 0 := by
  simp only [List.getD]
  by_cases h : n = m
  · subst h
    by_cases hl : n < l.length
    · simp [hl]
    · simp [hl]
  · rw [List.getElem?_set_ne h, if_neg (fun hh => h hh.1)]
def upE (T : Nat → Nat → Int) (a b : Nat) (m : Int) (i k : Nat) : Int :=
  if T i a < far ∧ T b k < far then min (T i k) (w64 (w64 (T i a + m) + T b k)) else T i k
theorem kIn_mat {s : List Int} {a b : Nat} {m : Int} {i k i' k' : Nat} {out : List Int} (hl : out.length = 121) (hi : i < 11) (hk : k < 11) (hk' : k' < 11) :
    mat (kIn s a b m i out k) i' k' = if i' = i ∧ k' = k ∧ mat s i a < far ∧ mat s b k < far then min (mat out i k) (w64 (w64 (mat s i a + m) + mat s b k)) else mat out i' k' := by
  unfold kIn
  by_cases hc : mat s i a < far ∧ mat s b k < far
  · rw [if_pos hc]
    unfold mat at hc ⊢
    rw [getD_set]
    by_cases e : i' = i ∧ k' = k
    · obtain ⟨rfl, rfl⟩ := e
      rw [if_pos ⟨rfl, by omega⟩, if_pos ⟨rfl, rfl, hc⟩]
    · rw [if_neg (by omega), if_neg (by omega)]
  · rw [if_neg hc, if_neg (by omega)]
theorem kRow_mat {s : List Int} {a b : Nat} {m : Int} {i i' k' : Nat} {out : List Int} (hl : out.length = 121) (hi : i < 11) (hk' : k' < 11) (n : Nat) (hn : n ≤ 11) :
    mat (kRow s a b m i out n) i' k' = if i' = i ∧ k' < n ∧ mat s i a < far ∧ mat s b k' < far then min (mat out i k') (w64 (w64 (mat s i a + m) + mat s b k')) else mat out i' k' := by
  induction n with
  | zero =>
    have : kRow s a b m i out 0 = out := rfl
    rw [this, if_neg (by omega)]
  | succ n ih =>
    have ih := ih (by omega)
    rw [kRow_succ, kIn_mat (by rw [kRow_len, hl]) hi (by omega) hk']
    by_cases e : i' = i ∧ k' = n
    · obtain ⟨rfl, rfl⟩ := e
      rw [if_neg (by omega)] at ih
      by_cases hc : mat s i' a < far ∧ mat s b k' < far
      · rw [if_pos ⟨rfl, rfl, hc⟩, if_pos ⟨rfl, by omega, hc⟩, ih]
      · rw [if_neg (by omega), if_neg (by omega), ih]
    · rw [if_neg (by omega), ih]
      by_cases hc : i' = i ∧ k' < n ∧ mat s i a < far ∧ mat s b k' < far
      · rw [if_pos hc, if_pos (by omega)]
      · rw [if_neg hc, if_neg (by omega)]
theorem kAll_mat {s : List Int} {a b : Nat} {m : Int} {i' k' : Nat} (hl : s.length = 121) (hk' : k' < 11) (n : Nat) (hn : n ≤ 11) :
    mat (kAll s a b m n) i' k' = if i' < n then upE (mat s) a b m i' k' else mat s i' k' := by
  induction n with
  | zero =>
    have : kAll s a b m 0 = s := rfl
    rw [this, if_neg (by omega)]
  | succ n ih =>
    have ih := ih (by omega)
    rw [kAll_succ, kRow_mat (by rw [kAll_len, hl]) (by omega) hk' 11 (by omega)]
    by_cases e : i' = n
    · subst e
      rw [if_neg (by omega)] at ih
      rw [ih, if_pos (by omega : i' < i' + 1)]
      unfold upE
      by_cases hc : mat s i' a < far ∧ mat s b k' < far
      · rw [if_pos ⟨rfl, by omega, hc⟩, if_pos hc]
      · rw [if_neg (by omega), if_neg hc]
    · rw [if_neg (by omega), ih]
      by_cases h : i' < n
      · rw [if_pos h, if_pos (by omega)]
      · rw [if_neg h, if_neg (by omega)]
set_option maxRecDepth 100000 in
theorem blank_mat {i k : Nat} (hi : i < 11) (hk : k < 11) : blank.mat i k = if i = k then 0 else far := by
  have h : ((List.range 11).all fun i => (List.range 11).all fun k => decide (mat (bAll 11) i k = if i = k then 0 else far)) = true := by decide +kernel
  rw [List.all_eq_true] at h
  have h := h i (by simpa using hi)
  rw [List.all_eq_true] at h
  exact of_decide_eq_true (h k (by simpa using hk))
theorem know_mat {s : Sums} {a b : Nat} {m : Int} (h1 : ¬ w64 (s.mat b a + m) < 0) (h2 : ¬ s.mat a b ≤ m) : (s.know a b m).2 = true ∧ ∀ i k, i < 11 → k < 11 → (s.know a b m).1.mat i k = upE s.mat a b m i k := by
  have e : Swa.know s.1 a b m = (kAll s.1 a b m 11, true) := by
    unfold Swa.know
    have h1' : ¬ w64 (mat s.1 b a + m) < 0 := h1
    have h2' : ¬ mat s.1 a b ≤ m := h2
    rw [if_neg h1', if_neg h2']
  refine ⟨?_, fun i k hi hk => ?_⟩
  · show (Swa.know s.1 a b m).2 = true
    rw [e]
  · show mat (Swa.know s.1 a b m).1 i k = _
    rw [e]
    show mat (kAll s.1 a b m 11) i k = _
    rw [kAll_mat s.2 hk 11 (by omega), if_pos hi]
    rfl
theorem know_same {s : Sums} {a b : Nat} {m : Int} (h1 : ¬ w64 (s.mat b a + m) < 0) (h2 : s.mat a b ≤ m) : s.know a b m = (s, true) := by
  have e : Swa.know s.1 a b m = (s.1, true) := by
    unfold Swa.know
    have h1' : ¬ w64 (mat s.1 b a + m) < 0 := h1
    have h2' : mat s.1 a b ≤ m := h2
    rw [if_neg h1', if_pos h2']
  unfold Sums.know
  congr 1
  · apply Subtype.ext
    show (Swa.know s.1 a b m).1 = s.1
    rw [e]
  · rw [e]
structure Tab (T : Nat → Nat → Int) (n : Nat) (x : Nat → Int) : Prop where
  n10 : n ≤ 10
  hi : ∀ a b, a ≤ n → b ≤ n → T a b ≤ n * 1000000
  out : ∀ a b, a < 11 → b < 11 → n < a ∨ n < b → a ≠ b → T a b = far
  diag : ∀ a, a < 11 → T a a = 0
  sat : ∀ a b, a ≤ n → b ≤ n → x b - x a ≤ T a b
  tri : ∀ a b c, a ≤ n → b ≤ n → c ≤ n → T a c ≤ T a b + T b c
  x0 : ∀ a, a ≤ n → 0 ≤ x a
  x1 : ∀ a, a ≤ n → x a ≤ n * 1000000
theorem Tab.lt {T : Nat → Nat → Int} {n : Nat} {x : Nat → Int} (h : Tab T n x) {a b : Nat} (ha : a ≤ n) (hb : b ≤ n) : T a b ≤ 10000000 ∧ -10000000 ≤ T a b := by
  have h1 := h.hi a b ha hb
  have h2 := h.sat a b ha hb
  have h3 := h.x0 b hb
  have h4 := h.x1 a ha
  have := h.n10
  omega
theorem w64_id {x : Int} (h1 : -9223372036854775808 ≤ x) (h2 : x ≤ 9223372036854775807) : w64 x = x := wrap64 h1 (by omega)
theorem Tab.more {s : Sums} {n : Nat} {x : Nat → Int} (h : Tab s.mat n x) {a b : Nat} {m : Int} (ha : a ≤ n) (hb : b ≤ n) (hm : x b - x a ≤ m) (m1 : -1000000 ≤ m) (m2 : m ≤ 1000000) :
    (s.know a b m).2 = true ∧ Tab (s.know a b m).1.mat n x ∧ (∀ i k, i ≤ n → k ≤ n → (s.know a b m).1.mat i k ≤ s.mat i k) ∧ (s.know a b m).1.mat a b ≤ m := by
  have n10 := h.n10
  have hba := h.lt hb ha
  have hsba := h.sat b a hb ha
  have c1 : ¬ w64 (s.mat b a + m) < 0 := by rw [w64_id (by omega) (by omega)]; omega
  by_cases c2 : s.mat a b ≤ m
  · rw [know_same c1 c2]
    exact ⟨rfl, h, fun _ _ _ _ => Int.le_refl _, c2⟩
  · obtain ⟨k1, k2⟩ := know_mat c1 c2
    generalize (s.know a b m).1 = s' at k2
    have up : ∀ i k, i ≤ n → k ≤ n → s'.mat i k = min (s.mat i k) (s.mat i a + m + s.mat b k) := by
      intro i k hi hk
      have q1 := h.lt hi ha
      have q2 := h.lt hb hk
      rw [k2 i k (by omega) (by omega), upE, if_pos ⟨by unfold far; omega, by unfold far; omega⟩, w64_id (x := s.mat i a + m) (by omega) (by omega), w64_id (by omega) (by omega)]
    have daa := h.diag a (by omega)
    have dbb := h.diag b (by omega)
    refine ⟨k1, ⟨n10, fun i k hi hk => ?_, fun i k hi hk ho hne => ?_, fun i hi => ?_, fun i k hi hk => ?_, fun i j k hi hj hk => ?_, h.x0, h.x1⟩, fun i k hi hk => ?_, ?_⟩
    · rw [up i k hi hk]; have := h.hi i k hi hk; omega
    · rw [k2 i k hi hk, upE, if_neg, h.out i k hi hk ho hne]
      rintro ⟨q1, q2⟩
      rcases ho with ho | ho
      · by_cases e : i = a
        · omega
        · rw [h.out i a hi (by omega) (.inl ho) e] at q1; omega
      · by_cases e : b = k
        · omega
        · rw [h.out b k (by omega) hk (.inr ho) e] at q2; omega
    · by_cases hin : i ≤ n
      · rw [up i i hin hin, h.diag i hi]
        have := h.sat i a hin ha
        have := h.sat b i hb hin
        omega
      · rw [k2 i i hi hi, upE, if_neg, h.diag i hi]
        rintro ⟨q1, q2⟩
        rw [h.out i a hi (by omega) (.inl (by omega)) (by omega)] at q1; omega
    · rw [up i k hi hk]
      have := h.sat i k hi hk
      have := h.sat i a hi ha
      have := h.sat b k hb hk
      omega
    · rw [up i k hi hk, up i j hi hj, up j k hj hk]
      have t1 := h.tri i j k hi hj hk
      have t2 := h.tri b j k hb hj hk
      have t3 := h.tri i j a hi hj ha
      have t4 := h.tri b j a hb hj ha
      omega
    · rw [up i k hi hk]; omega
    · rw [up a b ha hb]; omega
theorem Tab.add {s : Sums} {n : Nat} {x : Nat → Int} (h : Tab s.mat n x) (hn : n < 10) {p : Nat} {lo hi t : Int} (hp : p ≤ n) (l1 : 1 ≤ lo) (l2 : lo ≤ t) (l3 : t ≤ hi) (l4 : hi ≤ 1000000) :
    (s.know p (n + 1) hi).2 = true ∧ ((s.know p (n + 1) hi).1.know (n + 1) p (w64 (0 - lo))).2 = true ∧
    Tab ((s.know p (n + 1) hi).1.know (n + 1) p (w64 (0 - lo))).1.mat (n + 1) (fun i => if i = n + 1 then x p + t else x i) ∧
    (∀ i k, i ≤ n → k ≤ n → ((s.know p (n + 1) hi).1.know (n + 1) p (w64 (0 - lo))).1.mat i k = s.mat i k) ∧
    (∀ k, k ≤ n → ((s.know p (n + 1) hi).1.know (n + 1) p (w64 (0 - lo))).1.mat (n + 1) k = s.mat p k - lo) := by
  have o1 : ∀ i, i ≤ n → s.mat i (n + 1) = far := fun i hi => h.out i (n + 1) (by omega) (by omega) (.inr (by omega)) (by omega)
  have o2 : ∀ i, i ≤ n → s.mat (n + 1) i = far := fun i hi => h.out (n + 1) i (by omega) (by omega) (.inl (by omega)) (by omega)
  have hf : far = 1099511627776 := rfl
  have hpp := h.diag p (by omega)
  have hnn := h.diag (n + 1) (by omega)
  have hw : w64 (0 - lo) = -lo := by rw [w64_id (by omega) (by omega)]; omega
  obtain ⟨k1, k2⟩ := know_mat (s := s) (a := p) (b := n + 1) (m := hi) (by rw [o2 p hp, w64_id (by omega) (by omega)]; omega) (by rw [o1 p hp]; omega)
  refine ⟨k1, ?_⟩
  generalize (s.know p (n + 1) hi).1 = s1 at k2
  -- the first step
  have a1 : ∀ i k, i ≤ n → k ≤ n → s1.mat i k = s.mat i k := by
    intro i k hi hk
    rw [k2 i k (by omega) (by omega), upE, if_neg]
    rintro ⟨_, q⟩
    rw [o2 k hk] at q; omega
  have a2 : ∀ i, i ≤ n → s1.mat i (n + 1) = s.mat i p + hi := by
    intro i hi'
    have := h.lt hi' hp
    rw [k2 i (n + 1) (by omega) (by omega), upE, if_pos ⟨by omega, by omega⟩, o1 i hi', hnn, w64_id (x := s.mat i p + hi) (by omega) (by omega), w64_id (by omega) (by omega)]
    omega
  have a3 : ∀ k, k ≤ n → s1.mat (n + 1) k = far := by
    intro k hk
    rw [k2 (n + 1) k (by omega) (by omega), upE, if_neg, o2 k hk]
    rintro ⟨q, _⟩
    rw [o2 p hp] at q; omega
  have a4 : ∀ i k, i < 11 → k < 11 → n + 1 < i ∨ n + 1 < k → i ≠ k → s1.mat i k = far := by
    intro i k hi hk ho hne
    rw [k2 i k hi hk, upE, if_neg, h.out i k hi hk (by omega) hne]
    rintro ⟨q1, q2⟩
    rcases ho with ho | ho
    · rw [h.out i p hi (by omega) (.inl (by omega)) (by omega)] at q1; omega
    · rw [h.out (n + 1) k (by omega) hk (.inr (by omega)) (by omega)] at q2; omega
  have a5 : ∀ i, n < i → i < 11 → s1.mat i i = 0 := by
    intro i hi hi2
    rw [k2 i i hi2 hi2, upE, if_neg, h.diag i hi2]
    rintro ⟨q1, _⟩
    rw [h.out i p hi2 (by omega) (.inl hi) (by omega)] at q1; omega
  rw [hw]
  have b1 : s1.mat p (n + 1) = hi := by rw [a2 p hp]; omega
  obtain ⟨k3, k4⟩ := know_mat (s := s1) (a := n + 1) (b := p) (m := -lo) (by rw [b1, w64_id (by omega) (by omega)]; omega) (by rw [a3 p hp]; omega)
  refine ⟨k3, ?_⟩
  generalize (s1.know (n + 1) p (-lo)).1 = s2 at k4
  have c1 : ∀ i k, i ≤ n → k ≤ n → s2.mat i k = s.mat i k := by
    intro i k hi' hk
    have q1 := h.lt hi' hp
    have q2 := h.lt hp hk
    have q3 := h.tri i p k hi' hp hk
    rw [k4 i k (by omega) (by omega), upE, a1 i k hi' hk, a2 i hi', a1 p k hp hk, if_pos ⟨by omega, by omega⟩, w64_id (x := s.mat i p + hi + -lo) (by omega) (by omega), w64_id (by omega) (by omega)]
    omega
  have c2 : ∀ i, i ≤ n → s2.mat i (n + 1) = s.mat i p + hi := by
    intro i hi'
    have q1 := h.lt hi' hp
    rw [k4 i (n + 1) (by omega) (by omega), upE, a2 i hi', b1, if_pos ⟨by omega, by omega⟩, w64_id (x := s.mat i p + hi + -lo) (by omega) (by omega), w64_id (by omega) (by omega)]
    omega
  have c3 : ∀ k, k ≤ n → s2.mat (n + 1) k = s.mat p k - lo := by
    intro k hk
    have q2 := h.lt hp hk
    rw [k4 (n + 1) k (by omega) (by omega), upE, a3 k hk, a5 (n + 1) (by omega) (by omega), a1 p k hp hk, if_pos ⟨by omega, by omega⟩, w64_id (x := 0 + -lo) (by omega) (by omega), w64_id (by omega) (by omega)]
    omega
  have c4 : s2.mat (n + 1) (n + 1) = 0 := by
    rw [k4 (n + 1) (n + 1) (by omega) (by omega), upE, a5 (n + 1) (by omega) (by omega), b1, if_pos ⟨by omega, by omega⟩, w64_id (x := 0 + -lo) (by omega) (by omega), w64_id (by omega) (by omega)]
    omega
  refine ⟨⟨by omega, fun i k hi' hk => ?_, fun i k hi' hk ho hne => ?_, fun i hi' => ?_, fun i k hi' hk => ?_, fun i j k hi' hj hk => ?_, fun i hi' => ?_, fun i hi' => ?_⟩, c1, c3⟩
  · by_cases e1 : i ≤ n
    · by_cases e2 : k ≤ n
      · rw [c1 i k e1 e2]; have := h.hi i k e1 e2; omega
      · rw [show k = n + 1 by omega, c2 i e1]; have := h.hi i p e1 hp; omega
    · rw [show i = n + 1 by omega]
      by_cases e2 : k ≤ n
      · rw [c3 k e2]; have := h.hi p k hp e2; omega
      · rw [show k = n + 1 by omega, c4]; omega
  · rw [k4 i k hi' hk, upE, if_neg, a4 i k hi' hk ho hne]
    rintro ⟨q1, q2⟩
    rcases ho with ho | ho
    · rw [a4 i (n + 1) hi' (by omega) (.inl ho) (by omega)] at q1; omega
    · rw [a4 p k (by omega) hk (.inr ho) (by omega)] at q2; omega
  · by_cases e1 : i ≤ n
    · rw [c1 i i e1 e1, h.diag i hi']
    · by_cases e2 : i = n + 1
      · rw [e2, c4]
      · rw [k4 i i hi' hi', upE, if_neg, a5 i (by omega) hi']
        rintro ⟨q1, _⟩
        rw [a4 i (n + 1) hi' (by omega) (.inl (by omega)) e2] at q1; omega
  · by_cases e1 : i ≤ n
    · rw [if_neg (by omega : ¬ i = n + 1)]
      by_cases e2 : k ≤ n
      · rw [if_neg (by omega : ¬ k = n + 1), c1 i k e1 e2]; exact h.sat i k e1 e2
      · rw [if_pos (by omega : k = n + 1), show k = n + 1 by omega, c2 i e1]; have := h.sat i p e1 hp; omega
    · rw [if_pos (by omega : i = n + 1), show i = n + 1 by omega]
      by_cases e2 : k ≤ n
      · rw [if_neg (by omega : ¬ k = n + 1), c3 k e2]; have := h.sat p k hp e2; omega
      · rw [if_pos (by omega : k = n + 1), show k = n + 1 by omega, c4]; omega
  · have val : ∀ i k, i ≤ n + 1 → k ≤ n + 1 → s2.mat i k = (if i = n + 1 then (if k = n + 1 then 0 else s.mat p k - lo) else if k = n + 1 then s.mat i p + hi else s.mat i k) := by
      intro i k h1 h2
      by_cases e1 : i = n + 1
      · by_cases e2 : k = n + 1
        · rw [if_pos e1, if_pos e2, e1, e2, c4]
        · rw [if_pos e1, if_neg e2, e1, c3 k (by omega)]
      · by_cases e2 : k = n + 1
        · rw [if_neg e1, if_pos e2, e2, c2 i (by omega)]
        · rw [if_neg e1, if_neg e2, c1 i k (by omega) (by omega)]
    rw [val i k hi' hk, val i j hi' hj, val j k hj hk]
    by_cases e1 : i = n + 1
    · by_cases e2 : j = n + 1
      · by_cases e3 : k = n + 1
        · simp only [e1, e2, e3, if_true]; omega
        · simp only [e1, e2, e3, if_true, if_false]; omega
      · by_cases e3 : k = n + 1
        · simp only [e1, e2, e3, if_true, if_false]
          have := h.tri p j p hp (by omega) hp
          omega
        · simp only [e1, e2, e3, if_true, if_false]
          have := h.tri p j k hp (by omega) (by omega)
          omega
    · by_cases e2 : j = n + 1
      · by_cases e3 : k = n + 1
        · simp only [e1, e2, e3, if_true, if_false]; omega
        · simp only [e1, e2, e3, if_true, if_false]
          have := h.tri i p k (by omega) hp (by omega)
          omega
      · by_cases e3 : k = n + 1
        · simp only [e1, e2, e3, if_true, if_false]
          have := h.tri i j p (by omega) (by omega) hp
          omega
        · simp only [e1, e2, e3, if_false]
          exact h.tri i j k (by omega) (by omega) (by omega)
  · split
    · have := h.x0 p hp; omega
    · exact h.x0 i (by omega)
  · split
    · have := h.x1 p hp; omega
    · have := h.x1 i (by omega); omega
end Go.Proofs.Swa

set_option linter.unusedVariables false
set_option linter.unusedSimpArgs false
namespace Go.Proofs.Swa
open Go
def Fits (spot : Int) : Int → List (Act × Int) → Prop
  | _, [] => True
  | lie, (a, t) :: l => if a.Spot = spot then (1 ≤ a.Min ∧ a.Min ≤ t ∧ t ≤ a.Max ∧ a.Max ≤ 1000000) ∧ (if a.Take = true then t ≤ lie ∧ Fits spot (lie - t) l else Fits spot (lie + t) l) else Fits spot lie l
structure PInv (p : Pst) (i : Nat) (lie : Int) : Prop where
  ok : p.ok = true
  next : p.next ≤ i
  mt : p.m.tips ≤ p.next ∧ p.m.takes ≤ p.next
  tab : ∃ x, Tab p.s.mat p.next x ∧ x p.m.tips - x p.m.takes = lie
  mem : p.m ∈ p.ms
  all : ∀ m, m ∈ p.ms → m.tips ≤ p.next ∧ m.takes ≤ p.next ∧ p.s.mat m.takes 0 ≤ 0 ∧ p.s.mat m.tips m.takes ≤ 0 ∧ p.s.mat p.m.tips m.tips ≤ 0 ∧ (m.act < 0 → m.tips = 0)
  pw : p.ms.Pairwise fun a b => p.s.mat b.tips a.tips ≤ 0
theorem pw_snoc {α : Type} {R : α → α → Prop} {l : List α} {x : α} (h : l.Pairwise R) (k : ∀ a, a ∈ l → R a x) : (l ++ [x]).Pairwise R := by
  rw [List.pairwise_append]
  refine ⟨h, List.pairwise_singleton _ _, fun a ha b hb => ?_⟩
  rw [List.mem_singleton.1 hb]
  exact k a ha
theorem PInv.start : PInv pst0 0 0 := by
  have hb : ∀ i k, i < 11 → k < 11 → pst0.s.mat i k = if i = k then 0 else far := fun i k hi hk => blank_mat hi hk
  have h00 : pst0.s.mat 0 0 = 0 := hb 0 0 (by omega) (by omega)
  refine ⟨rfl, Nat.le_refl _, ⟨Nat.le_refl _, Nat.le_refl _⟩, ⟨fun _ => 0, ⟨by show 0 ≤ 10; omega, fun a b ha hb' => ?_, fun a b ha hb' ho hne => by rw [hb a b ha hb', if_neg hne], fun a ha => by rw [hb a a ha ha, if_pos rfl], fun a b ha hb' => ?_, fun a b c ha hb' hc => ?_, fun _ _ => Int.le_refl _, fun _ _ => by show (0 : Int) ≤ ((0 : Nat) : Int) * 1000000; omega⟩, rfl⟩,
    List.mem_singleton.2 rfl, fun m hm => ?_, List.pairwise_singleton _ _⟩
  · have e1 : a = 0 := Nat.le_zero.1 ha
    have e2 : b = 0 := Nat.le_zero.1 hb'
    rw [e1, e2, h00]; show (0 : Int) ≤ ((0 : Nat) : Int) * 1000000; omega
  · have e1 : a = 0 := Nat.le_zero.1 ha
    have e2 : b = 0 := Nat.le_zero.1 hb'
    rw [e1, e2, h00]; show (0 : Int) - 0 ≤ 0; omega
  · have e1 : a = 0 := Nat.le_zero.1 ha
    have e2 : b = 0 := Nat.le_zero.1 hb'
    have e3 : c = 0 := Nat.le_zero.1 hc
    rw [e1, e2, e3, h00]; omega
  · have : m = mom0 := List.mem_singleton.1 hm
    subst this
    exact ⟨Nat.le_refl _, Nat.le_refl _, Int.le_of_eq h00, Int.le_of_eq h00, Int.le_of_eq h00, fun _ => rfl⟩
theorem PInv.skip {p : Pst} {i : Nat} {lie : Int} (h : PInv p i lie) : PInv p (i + 1) lie := { h with next := Nat.le_succ_of_le h.next }
theorem PInv.tip {p : Pst} {i : Nat} {lie : Int} (h : PInv p i lie) (hi : i < 10) {a : Act} {t : Int} (ha : ¬ a.Take = true) (q : 1 ≤ a.Min ∧ a.Min ≤ t ∧ t ≤ a.Max ∧ a.Max ≤ 1000000) : PInv (p.step i a) (i + 1) (lie + t) := by
  obtain ⟨x, hx, hl⟩ := h.tab
  have hn := h.next
  obtain ⟨mt1, mt2⟩ := h.mt
  obtain ⟨k1, k2, k3, k4, k5⟩ := hx.add (by omega) mt1 q.1 q.2.1 q.2.2.1 q.2.2.2
  rw [Pst.step_tip ha]
  have htp : p.tp a = (p.s.know p.m.tips (p.next + 1) a.Max).1.know (p.next + 1) p.m.tips (w64 (0 - a.Min)) := by
    unfold Pst.tp knowIf
    simp only [h.ok, if_true, k1]
  rw [htp]
  generalize (p.s.know p.m.tips (p.next + 1) a.Max).1.know (p.next + 1) p.m.tips (w64 (0 - a.Min)) = y at k2 k3 k4 k5
  have hm := h.all p.m h.mem
  refine ⟨k2, by show p.next + 1 ≤ i + 1; omega, ⟨Nat.le_refl _, by show p.m.takes ≤ p.next + 1; omega⟩, ⟨_, k3, ?_⟩, by simp, fun m hm' => ?_, pw_snoc (h.pw.imp_of_mem fun {a b} ha hb r => ?_) fun m hm' => ?_⟩
  · dsimp only
    rw [if_pos rfl, if_neg (by omega)]
    omega
  · dsimp only
    rcases List.mem_append.1 hm' with hm' | hm'
    · obtain ⟨a1, a2, a3, a4, a5, a6⟩ := h.all m hm'
      refine ⟨by omega, by omega, by rw [k4 _ _ a2 (by omega)]; exact a3, by rw [k4 _ _ a1 a2]; exact a4, by rw [k5 _ a1]; omega, a6⟩
    · rw [List.mem_singleton.1 hm']
      dsimp only
      refine ⟨Nat.le_refl _, by omega, by rw [k4 _ _ mt2 (by omega)]; exact hm.2.2.1, by rw [k5 _ mt2]; have := hm.2.2.2.1; omega, by rw [k3.diag (p.next + 1) (by omega)]; exact Int.le_refl _, fun hh => by omega⟩
  · have b1 := (h.all a ha).1
    have b2 := (h.all b hb).1
    dsimp only
    rw [k4 _ _ b2 b1]; exact r
  · have b1 := h.all m hm'
    dsimp only
    rw [k5 _ b1.1]
    have := b1.2.2.2.2.1
    omega
theorem PInv.take {p : Pst} {i : Nat} {lie : Int} (h : PInv p i lie) (hi : i < 10) {a : Act} {t : Int} (ha : a.Take = true) (q : 1 ≤ a.Min ∧ a.Min ≤ t ∧ t ≤ a.Max ∧ a.Max ≤ 1000000) (hq : t ≤ lie) : PInv (p.step i a) (i + 1) (lie - t) := by
  obtain ⟨x, hx, hl⟩ := h.tab
  have hn := h.next
  obtain ⟨mt1, mt2⟩ := h.mt
  obtain ⟨k1, k2, k3, k4, k5⟩ := hx.add (by omega) mt2 q.1 q.2.1 q.2.2.1 q.2.2.2
  rw [Pst.step_take ha]
  have htk : p.tk a = ((p.s.know p.m.takes (p.next + 1) a.Max).1.know (p.next + 1) p.m.takes (w64 (0 - a.Min))).1.know p.m.tips (p.next + 1) 0 := by
    unfold Pst.tk knowIf
    simp only [h.ok, if_true, k1, k2]
  rw [htk]
  generalize ((p.s.know p.m.takes (p.next + 1) a.Max).1.know (p.next + 1) p.m.takes (w64 (0 - a.Min))).1 = y at k3 k4 k5
  obtain ⟨z1, z2, z3, z4⟩ := k3.more (a := p.m.tips) (b := p.next + 1) (m := 0) (by omega) (Nat.le_refl _) (by
    rw [if_pos rfl, if_neg (by omega)]
    omega) (by omega) (by omega)
  generalize y.know p.m.tips (p.next + 1) 0 = z at z1 z2 z3 z4
  have hm := h.all p.m h.mem
  refine ⟨z1, by show p.next + 1 ≤ i + 1; omega, ⟨by show p.m.tips ≤ p.next + 1; omega, Nat.le_refl _⟩, ⟨_, z2, ?_⟩, by simp, fun m hm' => ?_, pw_snoc (h.pw.imp_of_mem fun {a b} ha hb r => ?_) fun m hm' => ?_⟩
  · dsimp only
    rw [if_pos rfl, if_neg (by omega)]
    omega
  · dsimp only
    rcases List.mem_append.1 hm' with hm' | hm'
    · obtain ⟨a1, a2, a3, a4, a5, a6⟩ := h.all m hm'
      refine ⟨by omega, by omega, ?_, ?_, ?_, a6⟩
      · have := z3 m.takes 0 (by omega) (by omega)
        rw [k4 _ _ a2 (by omega)] at this; omega
      · have := z3 m.tips m.takes (by omega) (by omega)
        rw [k4 _ _ a1 a2] at this; omega
      · have := z3 p.m.tips m.tips (by omega) (by omega)
        rw [k4 _ _ mt1 a1] at this; omega
    · rw [List.mem_singleton.1 hm']
      dsimp only
      refine ⟨by omega, Nat.le_refl _, ?_, z4, by rw [z2.diag p.m.tips (by omega)]; exact Int.le_refl _, fun hh => by omega⟩
      have := z3 (p.next + 1) 0 (Nat.le_refl _) (by omega)
      rw [k5 _ (by omega)] at this
      have := hm.2.2.1
      omega
  · have b1 := (h.all a ha).1
    have b2 := (h.all b hb).1
    dsimp only
    have := z3 b.tips a.tips (by omega) (by omega)
    rw [k4 _ _ b2 b1] at this; omega
  · have b1 := h.all m hm'
    dsimp only
    have := z3 p.m.tips m.tips (by omega) (by omega)
    rw [k4 _ _ mt1 b1.1] at this
    have := b1.2.2.2.2.1
    omega
theorem PInv.run (spot : Int) : ∀ (l : List (Act × Int)) (i : Nat) (p : Pst) (lie : Int), PInv p i lie → i + l.length ≤ 10 → Fits spot lie l → ∃ lie', PInv (Pst.run spot i (l.map (·.1)) p) (i + l.length) lie'
  | [], i, p, lie, h, _, _ => ⟨lie, h⟩
  | (a, t) :: l, i, p, lie, h, hl, hf => by
    simp only [List.map_cons, List.length_cons] at hl ⊢
    rw [Pst.run, show i + (l.length + 1) = i + 1 + l.length by omega]
    rw [Fits] at hf
    by_cases hs : a.Spot = spot
    · rw [if_pos hs] at hf ⊢
      obtain ⟨q, hf⟩ := hf
      by_cases ht : a.Take = true
      · rw [if_pos ht] at hf
        exact PInv.run spot l (i + 1) _ _ (h.take (by omega) ht q hf.1) (by omega) hf.2
      · rw [if_neg ht] at hf
        exact PInv.run spot l (i + 1) _ _ (h.tip (by omega) ht q) (by omega) hf
    · rw [if_neg hs] at hf ⊢
      exact PInv.run spot l (i + 1) _ _ h.skip (by omega) hf
structure HpOk (h : Hp) : Prop where
  tab : ∃ n x, Tab h.s.mat n x ∧ ∀ m, m ∈ h.m → m.tips ≤ n ∧ m.takes ≤ n
  all : ∀ m, m ∈ h.m → h.s.mat m.takes 0 ≤ 0 ∧ h.s.mat m.tips m.takes ≤ 0 ∧ (m.act < 0 → m.tips = 0)
  pw : h.m.Pairwise fun a b => h.s.mat b.tips a.tips ≤ 0
  pos : h.m ≠ []
theorem pile_ok {g : Gnd} {spot : Int} {truth : List Int} (hl : g.Acts.length ≤ 10) (he : truth.length = g.Acts.length) (hf : Fits spot 0 (g.Acts.zip truth)) : (pile g spot).2 = true ∧ HpOk (pile g spot).1 := by
  have hz : (g.Acts.zip truth).map (·.1) = g.Acts := by
    rw [List.map_fst_zip]
    omega
  obtain ⟨lie, h⟩ := PInv.run spot (g.Acts.zip truth) 0 pst0 0 PInv.start (by rw [List.length_zip]; omega) hf
  rw [hz] at h
  obtain ⟨x, hx, _⟩ := h.tab
  exact ⟨h.ok, ⟨⟨_, x, hx, fun m hm => ⟨(h.all m hm).1, (h.all m hm).2.1⟩⟩, fun m hm => ⟨(h.all m hm).2.2.1, (h.all m hm).2.2.2.1, (h.all m hm).2.2.2.2.2⟩, h.pw, fun e => by have := h.mem; have e : (Pst.run spot 0 g.Acts pst0).ms = [] := e; rw [e] at this; cases this⟩⟩
end Go.Proofs.Swa

set_option linter.unusedVariables false
set_option linter.unusedSimpArgs false
namespace Go.Proofs.Swa
open Go
theorem knownGo_get {g : Gnd} : ∀ (n i : Nat) (acc : List Hp), (∀ j, i ≤ j → j < i + n → (pile g j).2 = true) → (knownGo g i n acc).2 = 0 ∧ (knownGo g i n acc).1 = acc ++ (List.range n).map fun j => (pile g ((i + j : Nat) : Int)).1
  | 0, i, acc, _ => ⟨rfl, by simp [knownGo]⟩
  | n + 1, i, acc, h => by
    rw [knownGo, if_pos (h i (Nat.le_refl _) (by omega))]
    have ih := knownGo_get (g := g) n (i + 1) (acc ++ [(pile g i).1]) fun j h1 h2 => h j (by omega) (by omega)
    refine ⟨ih.1, ?_⟩
    rw [ih.2, List.append_assoc, List.range_succ_eq_map, List.map_cons, List.map_map]
    congr 1
    simp only [List.singleton_append, Nat.add_zero, List.cons.injEq, true_and]
    refine List.map_congr_left fun j _ => ?_
    show (pile g ((i + 1 + j : Nat) : Int)).1 = (pile g ((i + (j + 1) : Nat) : Int)).1
    rw [show i + 1 + j = i + (j + 1) by omega]
theorem known_get {g : Gnd} (h : ∀ j, j < g.Spots.length → (pile g (j : Nat)).2 = true) : (known g).2 = 0 ∧ (known g).1 = (List.range g.Spots.length).map fun j => (pile g (j : Nat)).1 := by
  have := knownGo_get (g := g) g.Spots.length 0 [] fun j _ h2 => h j (by omega)
  refine ⟨this.1, ?_⟩
  have e := this.2
  simp only [Nat.zero_add, List.nil_append] at e
  exact e
structure Fair (g : Gnd) : Prop where
  ck : check g = 0
  hp : ∀ j, j < g.Spots.length → (pile g (j : Nat)).2 = true ∧ HpOk (pile g (j : Nat)).1
  hour : ∀ x, x ∈ g.Acts → 0 ≤ x.Hour
end Go.Proofs.Swa

set_option linter.unusedVariables false
set_option linter.unusedSimpArgs false
namespace Go.Proofs.Swa
open Go
theorem either_mem (x : Int) {l : List Int} (h : 0 < l.length) (h2 : l.length < 1000000) : either x l ∈ l := by
  unfold either
  rw [if_neg (by omega)]
  have b := below_spec x l.length (by omega)
  have b1 := b.2.1 (by omega)
  have hlt : (below x l.length).toNat < l.length := by have := b.1; omega
  rw [List.getD, List.getElem?_eq_getElem hlt]
  exact List.getElem_mem hlt
theorem inB_mk {n a b : Int} (h1 : a ≤ n) (h2 : n ≤ b) : inB n a b = true := decide_eq_true ⟨h1, h2⟩
theorem mkSpo_ok (x : Int) : okSpo (mkSpo x).1 = true := by
  have a := below_spec x 8 (by omega)
  have b := below_spec (belowS x 8) 4 (by omega)
  have c := btw_spec (x := belowS (belowS x 8) 4) (lo := 1) (hi := 4) (by omega) (by omega) (by omega)
  have a2 := a.2.1 (by omega)
  have b2 := b.2.1 (by omega)
  unfold okSpo mkSpo
  dsimp only
  rw [inB_mk a.1 (by omega), inB_mk b.1 (by omega), inB_mk c.1 (by omega)]
  rfl
theorem goSpo_ok : ∀ (n : Nat) (x : Int) (l : List Spo), (∀ s, s ∈ l → okSpo s = true) → ∀ s, s ∈ (goSpo n x l).1 → okSpo s = true
  | 0, x, l, h => h
  | n + 1, x, l, h => by
    rw [goSpo]
    refine goSpo_ok n _ _ fun s hs => ?_
    rcases List.mem_append.1 hs with hs | hs
    · exact h s hs
    · rw [List.mem_singleton.1 hs]; exact mkSpo_ok x
theorem okSrt_mk {r : Srt} (h1 : 1 ≤ r.High ∧ r.High ≤ 1000) (h2 : 1 ≤ r.Dense ∧ r.Dense ≤ 8000) (h3 : 0 ≤ r.Fire ∧ r.Fire ≤ 100) (h4 : 0 ≤ r.Age ∧ r.Age ≤ 72) : okSrt r = true := by
  unfold okSrt
  rw [inB_mk h1.1 h1.2, inB_mk h2.1 h2.2, inB_mk h3.1 h3.2, inB_mk h4.1 h4.2]
  rfl
theorem either2 (x a b : Int) : either x [a, b] = a ∨ either x [a, b] = b := by
  have := either_mem x (l := [a, b]) (by simp) (by simp)
  simpa using this
theorem srt_high (mass x y : Int) (h1 : 1 ≤ mass ∧ mass ≤ 10000) : 1 ≤ either y [100, min 1000 (w64 (btw x 1 100 * max 1 (w64 (mass.tdiv 20))))] ∧ either y [100, min 1000 (w64 (btw x 1 100 * max 1 (w64 (mass.tdiv 20))))] ≤ 1000 := by
  have bt := btw_spec (x := x) (lo := 1) (hi := 100) (by omega) (by omega) (by omega)
  have td0 : 0 ≤ mass.tdiv 20 := Int.tdiv_nonneg (by omega) (by omega)
  have td1 : mass.tdiv 20 ≤ mass := Int.tdiv_le_self _ (by omega)
  rw [w64_id (x := mass.tdiv 20) (by omega) (by omega)]
  have hm : 1 ≤ max 1 (mass.tdiv 20) ∧ max 1 (mass.tdiv 20) ≤ 10000 := by omega
  generalize max 1 (mass.tdiv 20) = d at hm
  generalize btw x 1 100 = c at bt
  have p1 : 1 * 1 ≤ c * d := Int.mul_le_mul bt.1 hm.1 (by omega) (by omega)
  have p2 : c * d ≤ 100 * 10000 := Int.mul_le_mul bt.2 hm.2 (by omega) (by omega)
  rw [w64_id (x := c * d) (by omega) (by omega)]
  generalize c * d = pr at p1 p2
  rcases either2 y 100 (min 1000 pr) with e | e <;> rw [e] <;> omega
theorem srt_dense (y : Int) : 1 ≤ either y [1, 2, 50, 100] ∧ either y [1, 2, 50, 100] ≤ 8000 := by
  have b := either_mem y (l := [1, 2, 50, 100]) (by simp) (by simp)
  generalize either y [1, 2, 50, 100] = de at b
  simp only [List.mem_cons, List.not_mem_nil, or_false] at b
  omega
theorem srt_fire (y x : Int) : 0 ≤ either y [0, below x 6] ∧ either y [0, below x 6] ≤ 100 := by
  have c0 := below_spec x 6 (by omega)
  have c1 := c0.2.1 (by omega)
  rcases either2 y 0 (below x 6) with e | e <;> rw [e] <;> omega
theorem srt_age (y x hours : Int) (h : 0 ≤ hours ∧ hours ≤ 72) : 0 ≤ either y [72, below x (w64 (hours + 1))] ∧ either y [72, below x (w64 (hours + 1))] ≤ 72 := by
  rw [w64_id (x := hours + 1) (by omega) (by omega)]
  have c0 := below_spec x (hours + 1) (by omega)
  have c1 := c0.2.1 (by omega)
  rcases either2 y 72 (below x (hours + 1)) with e | e <;> rw [e] <;> omega
theorem mkSrt_ok (mass hours x : Int) (h1 : 1 ≤ mass ∧ mass ≤ 10000) (h2 : 0 ≤ hours ∧ hours ≤ 72) : okSrt (mkSrt mass hours x).1 = true :=
  okSrt_mk (srt_high mass x _ h1) (srt_dense _) (srt_fire _ _) (srt_age _ _ hours h2)
theorem goSrt_ok (mass hours : Int) (h1 : 1 ≤ mass ∧ mass ≤ 10000) (h2 : 0 ≤ hours ∧ hours ≤ 72) : ∀ (n : Nat) (x : Int) (l : List Srt), (∀ s, s ∈ l → okSrt s = true) → ∀ s, s ∈ (goSrt mass hours n x l).1 → okSrt s = true
  | 0, x, l, h => h
  | n + 1, x, l, h => by
    rw [goSrt]
    refine goSrt_ok mass hours h1 h2 n _ _ fun s hs => ?_
    rcases List.mem_append.1 hs with hs | hs
    · exact h s hs
    · rw [List.mem_singleton.1 hs]; exact mkSrt_ok mass hours x h1 h2
theorem goSpo_length : ∀ (n : Nat) (x : Int) (l : List Spo), (goSpo n x l).1.length = l.length + n
  | 0, x, l => rfl
  | n + 1, x, l => by rw [goSpo, goSpo_length n, List.length_append, List.length_singleton]; omega
theorem goSrt_length {m h : Int} : ∀ (n : Nat) (x : Int) (l : List Srt), (goSrt m h n x l).1.length = l.length + n
  | 0, x, l => rfl
  | n + 1, x, l => by rw [goSrt, goSrt_length n, List.length_append, List.length_singleton]; omega
def lieAft (spot : Int) : Int → List (Act × Int) → Int
  | lie, [] => lie
  | lie, (a, t) :: l => if a.Spot = spot then (if a.Take = true then lieAft spot (lie - t) l else lieAft spot (lie + t) l) else lieAft spot lie l
theorem lieAft_snoc (spot : Int) (a : Act) (t : Int) : ∀ (l : List (Act × Int)) (lie : Int), lieAft spot lie (l ++ [(a, t)]) = if a.Spot = spot then (if a.Take = true then lieAft spot lie l - t else lieAft spot lie l + t) else lieAft spot lie l
  | [], lie => rfl
  | (b, u) :: l, lie => by
    simp only [List.cons_append, lieAft]
    rw [lieAft_snoc spot a t l, lieAft_snoc spot a t l, lieAft_snoc spot a t l]
    by_cases h1 : b.Spot = spot
    · by_cases h2 : b.Take = true
      · simp only [if_pos h1, if_pos h2]
      · simp only [if_pos h1, if_neg h2]
    · simp only [if_neg h1]
theorem Fits_snoc (spot : Int) (a : Act) (t : Int) (h : a.Spot = spot → (1 ≤ a.Min ∧ a.Min ≤ t ∧ t ≤ a.Max ∧ a.Max ≤ 1000000)) : ∀ (l : List (Act × Int)) (lie : Int), Fits spot lie l → (a.Spot = spot → a.Take = true → t ≤ lieAft spot lie l) → Fits spot lie (l ++ [(a, t)])
  | [], lie, _, k => by
    show Fits spot lie [(a, t)]
    rw [Fits]
    by_cases h1 : a.Spot = spot
    · rw [if_pos h1]
      refine ⟨h h1, ?_⟩
      by_cases h2 : a.Take = true
      · rw [if_pos h2]; exact ⟨k h1 h2, trivial⟩
      · rw [if_neg h2]; trivial
    · rw [if_neg h1]; trivial
  | (b, u) :: l, lie, f, k => by
    rw [List.cons_append, Fits]
    rw [Fits] at f
    rw [lieAft] at k
    by_cases h1 : b.Spot = spot
    · rw [if_pos h1] at f k ⊢
      refine ⟨f.1, ?_⟩
      by_cases h2 : b.Take = true
      · rw [if_pos h2] at k ⊢
        have f2 := f.2
        rw [if_pos h2] at f2
        exact ⟨f2.1, Fits_snoc spot a t h l _ f2.2 k⟩
      · rw [if_neg h2] at k ⊢
        have f2 := f.2
        rw [if_neg h2] at f2
        exact Fits_snoc spot a t h l _ f2 k
    · rw [if_neg h1] at f k ⊢
      exact Fits_snoc spot a t h l _ f k
def lastH : Int → List Act → Int
  | h, [] => h
  | _, a :: l => lastH a.Hour l
theorem checkActs_snoc (g : Gnd) (a : Act) : ∀ (l : List Act) (h : Int), checkActs g h l = 0 → checkAct g (lastH h l) a = 0 → checkActs g h (l ++ [a]) = 0
  | [], h, _, k => by
    show checkActs g h [a] = 0
    rw [checkActs, if_neg (by rw [lastH] at k; rw [k]; simp)]
    rfl
  | b :: l, h, f, k => by
    rw [List.cons_append, checkActs]
    rw [checkActs] at f
    by_cases c : checkAct g h b ≠ 0
    · rw [if_pos c] at f; exact absurd f c
    · rw [if_neg c] at f ⊢
      exact checkActs_snoc g a l b.Hour f k
theorem lastH_snoc (a : Act) : ∀ (l : List Act) (h : Int), lastH h (l ++ [a]) = a.Hour
  | [], h => rfl
  | b :: l, h => lastH_snoc a l b.Hour
structure ActOk (spots sorts : Nat) (last : Int) (a : Act) : Prop where
  h : 0 ≤ a.Hour ∧ a.Hour ≤ 72 ∧ last ≤ a.Hour
  s : 0 ≤ a.Spot ∧ a.Spot < spots
  k : 0 ≤ a.Kind ∧ a.Kind < sorts
  t : a.Take = true → a.Kind = 0
  m : 1 ≤ a.Min ∧ a.Min ≤ a.Max ∧ a.Max ≤ 1000000
theorem checkAct_ok {g : Gnd} {last : Int} {a : Act} (hs : g.Spots.length ≤ 4) (hq : g.Sorts.length ≤ 4) (h : ActOk g.Spots.length g.Sorts.length last a) : checkAct g last a = 0 := by
  obtain ⟨h1, h2, h3, h4, h5⟩ := h
  have e1 : w64 ((g.Spots.length : Int) - 1) = g.Spots.length - 1 := w64_id (by omega) (by omega)
  have e2 : w64 ((g.Sorts.length : Int) - 1) = g.Sorts.length - 1 := w64_id (by omega) (by omega)
  unfold checkAct
  rw [e1, e2, inB_mk h1.1 h1.2.1, inB_mk (n := a.Spot) h2.1 (by omega), inB_mk (n := a.Kind) h3.1 (by omega), inB_mk (n := a.Min) h5.1 (by omega), inB_mk (n := a.Max) (by omega) h5.2.2]
  have ht : (a.Take && decide (a.Kind ≠ 0)) = false := by
    cases hta : a.Take with
    | false => rfl
    | true => simp [h4 hta]
  simp only [Bool.not_true, Bool.false_eq_true, if_false, Bool.or_self, ht]
  rw [if_neg (by omega), if_neg (by omega)]
structure GInv (spots sorts : Nat) (mass : Int) (s : Gst) (k : Nat) : Prop where
  hour : 0 ≤ s.hour ∧ s.hour ≤ 72
  lies : s.lies.length = spots
  lie : ∀ j, j < spots → 0 ≤ s.lies.getD j 0 ∧ s.lies.getD j 0 ≤ k * mass
  len : s.acts.length = k ∧ s.truth.length = k
  last : lastH 0 s.acts ≤ s.hour
  chk : ∀ g : Gnd, g.Spots.length = spots → g.Sorts.length = sorts → checkActs g 0 s.acts = 0
  pos : ∀ a, a ∈ s.acts → 0 ≤ a.Hour
  fits : ∀ j : Nat, j < spots → Fits j 0 (s.acts.zip s.truth) ∧ lieAft j 0 (s.acts.zip s.truth) = s.lies.getD j 0
theorem spread_ok (mass n x : Int) (h1 : 1 ≤ mass ∧ mass ≤ 10000) (h2 : 1 ≤ n ∧ n ≤ 200000) : 1 ≤ (spread mass n x).1.Min ∧ (spread mass n x).1.Min ≤ n ∧ n ≤ (spread mass n x).1.Max ∧ (spread mass n x).1.Max ≤ 1000000 := by
  have td0 : 0 ≤ mass.tdiv 3 := Int.tdiv_nonneg (by omega) (by omega)
  have td1 : mass.tdiv 3 ≤ mass := Int.tdiv_le_self _ (by omega)
  have e1 : w64 (mass.tdiv 3) = mass.tdiv 3 := w64_id (by omega) (by omega)
  unfold spread
  dsimp only
  rw [e1]
  have hm : 2 ≤ max 2 (mass.tdiv 3) ∧ max 2 (mass.tdiv 3) ≤ 10000 := by omega
  generalize max 2 (mass.tdiv 3) = m at hm
  have a0 := below_spec x m (by omega)
  have a1 := a0.2.1 (by omega)
  have a := either_mem (belowS x m) (l := [0, below x m]) (by simp) (by simp)
  generalize either (belowS x m) [0, below x m] = p at a
  generalize eitherS (belowS x m) [0, below x m] = x2
  have b0 := below_spec x2 m (by omega)
  have b1 := b0.2.1 (by omega)
  have b := either_mem (belowS x2 m) (l := [0, below x2 m]) (by simp) (by simp)
  generalize either (belowS x2 m) [0, below x2 m] = q at b
  simp only [List.mem_cons, List.not_mem_nil, or_false] at a b
  rw [w64_id (x := n - p) (by omega) (by omega), w64_id (x := n + q) (by omega) (by omega)]
  omega
theorem zip_snoc {α β : Type} {a : List α} {b : List β} (h : a.length = b.length) (x : α) (y : β) : (a ++ [x]).zip (b ++ [y]) = a.zip b ++ [(x, y)] := by
  rw [List.zip_append h]; rfl
theorem GInv.push {spots sorts : Nat} {mass : Int} {s : Gst} {k : Nat} (h : GInv spots sorts mass s k) (hs : spots ≤ 4) (hq : sorts ≤ 4) (hm : 1 ≤ mass) {a : Act} {t lie x : Int} {p : Nat} (hp : p < spots) (hps : a.Spot = p)
    (ha : ActOk spots sorts s.hour a) (hb : a.Min ≤ t ∧ t ≤ a.Max) (htk : a.Take = true → t ≤ s.lies.getD p 0) (hl : lie = if a.Take = true then s.lies.getD p 0 - t else s.lies.getD p 0 + t) (hl0 : 0 ≤ lie) (hl1 : lie ≤ (k + 1 : Nat) * mass) :
    GInv spots sorts mass ⟨x, a.Hour, s.lies.set p lie, s.acts ++ [a], s.truth ++ [t]⟩ (k + 1) := by
  have hll := h.lies
  have hlen := h.len
  have hx := ha.m
  refine ⟨⟨ha.h.1, ha.h.2.1⟩, by simp [hll], fun j hj => ?_, by simp [hlen.1, hlen.2], ?_, fun g h1 h2 => ?_, fun b hb' => ?_, fun j hj => ?_⟩
  · dsimp only
    rw [getD_set]
    split
    · exact ⟨hl0, hl1⟩
    · have := h.lie j hj
      have e : ((k + 1 : Nat) : Int) * mass = k * mass + mass := by rw [Int.natCast_add, Int.add_mul]; simp
      rw [e]; omega
  · dsimp only
    rw [lastH_snoc]; exact Int.le_refl _
  · dsimp only
    refine checkActs_snoc g a s.acts 0 (h.chk g h1 h2) (checkAct_ok (by omega) (by omega) ?_)
    rw [h1, h2]
    have := h.last
    exact ⟨⟨ha.h.1, ha.h.2.1, by have := ha.h.2.2; omega⟩, ha.s, ha.k, ha.t, ha.m⟩
  · rcases List.mem_append.1 hb' with hb' | hb'
    · exact h.pos b hb'
    · rw [List.mem_singleton.1 hb']; exact ha.h.1
  · dsimp only
    rw [zip_snoc (by rw [hlen.1, hlen.2]), lieAft_snoc, getD_set]
    obtain ⟨f1, f2⟩ := h.fits j hj
    refine ⟨Fits_snoc (j : Int) a t (fun _ => ⟨hx.1, hb.1, hb.2, hx.2.2⟩) _ _ f1 fun e1 e2 => ?_, ?_⟩
    · rw [f2]
      have : p = j := by omega
      rw [← this]; exact htk e2
    · rw [f2]
      by_cases e : p = j
      · subst e
        rw [if_pos hps, if_pos (show p = p ∧ p < s.lies.length from ⟨rfl, by omega⟩), hl]
      · rw [if_neg (by omega), if_neg (by omega)]
theorem GInv.step {spots sorts : Nat} {mass hours : Int} {s : Gst} {k : Nat} (h : GInv spots sorts mass s k) (hs : 1 ≤ spots ∧ spots ≤ 4) (hq : 1 ≤ sorts ∧ sorts ≤ 4) (hm : 1 ≤ mass ∧ mass ≤ 10000) (hh : 0 ≤ hours ∧ hours ≤ 72) (hk : k < 10) (hsh : s.hour ≤ hours) :
    GInv spots sorts mass (s.step spots sorts mass hours) (k + 1) ∧ (s.step spots sorts mass hours).hour ≤ hours := by
  have hhr := h.hour
  have e4 := below_spec s.x 4 (by omega)
  have e4' := e4.2.1 (by omega)
  have eh := either_mem (belowS s.x 4) (l := [0, 1, below s.x 4]) (by simp) (by simp)
  simp only [List.mem_cons, List.not_mem_nil, or_false] at eh
  unfold Gst.step
  dsimp only
  generalize either (belowS s.x 4) [0, 1, below s.x 4] = dh at eh
  generalize eitherS (belowS s.x 4) [0, 1, below s.x 4] = x2
  rw [w64_id (x := s.hour + dh) (by omega) (by omega)]
  have hho : 0 ≤ min 72 (min hours (s.hour + dh)) ∧ min 72 (min hours (s.hour + dh)) ≤ 72 ∧ s.hour ≤ min 72 (min hours (s.hour + dh)) ∧ min 72 (min hours (s.hour + dh)) ≤ hours := by omega
  generalize min 72 (min hours (s.hour + dh)) = ho at hho
  have sp0 := below_spec x2 spots (by omega)
  have sp1 := sp0.2.1 (by omega)
  obtain ⟨p, ep⟩ : ∃ p : Nat, (p : Int) = below x2 spots := ⟨(below x2 spots).toNat, by have := sp0.1; omega⟩
  rw [← ep] at sp0 sp1 ⊢
  rw [Int.toNat_natCast]
  have hp : p < spots := by omega
  generalize belowS x2 (spots : Int) = x3
  have ki0 := below_spec x3 sorts (by omega)
  have ki1 := ki0.2.1 (by omega)
  generalize below x3 (sorts : Int) = kind at ki0 ki1
  generalize belowS x3 (sorts : Int) = x4
  have nb := btw_spec (x := x4) (lo := 1) (hi := mass) (by omega) (by omega) (by omega)
  generalize btw x4 1 mass = n at nb
  generalize btwS x4 1 mass = x5
  have hli := h.lie p hp
  have hb1 : (k : Int) * mass ≤ 9 * 10000 := Int.mul_le_mul (show (k : Int) ≤ 9 by omega) hm.2 (by omega) (by omega)
  have e : ((k + 1 : Nat) : Int) * mass = k * mass + mass := by rw [Int.natCast_add, Int.add_mul]; simp
  obtain ⟨lie, el⟩ : ∃ lie, lie = s.lies.getD p 0 := ⟨_, rfl⟩
  rw [← el] at hli ⊢
  by_cases c : 0 < lie ∧ below x5 5 < 2
  · rw [if_pos c, if_pos c.1]
    generalize belowS x5 5 = x6
    have kb := btw_spec (x := x6) (lo := 1) (hi := lie) (by omega) (by omega) (by omega)
    have km := either_mem (btwS x6 1 lie) (l := [lie, btw x6 1 lie]) (by simp) (by simp)
    generalize eitherS (btwS x6 1 lie) [lie, btw x6 1 lie] = x8
    generalize either (btwS x6 1 lie) [lie, btw x6 1 lie] = q at km
    simp only [List.mem_cons, List.not_mem_nil, or_false] at km
    have so := spread_ok mass q x8 hm (by omega)
    generalize spread mass q x8 = r at so
    rw [w64_id (x := lie - q) (by omega) (by omega)]
    refine ⟨h.push hs.2 hq.2 hm.1 (a := ⟨ho, p, 0, r.1.Min, r.1.Max, true⟩) hp rfl ⟨⟨hho.1, hho.2.1, hho.2.2.1⟩, ⟨by show (0 : Int) ≤ p; omega, sp1⟩, ⟨Int.le_refl _, by show (0 : Int) < sorts; omega⟩, fun _ => rfl, ⟨so.1, by show r.1.Min ≤ r.1.Max; omega, so.2.2.2⟩⟩ ⟨so.2.1, so.2.2.1⟩ (fun _ => by rw [← el]; omega) (by rw [if_pos rfl, ← el]) (by omega) (by rw [e]; omega), hho.2.2.2⟩
  · rw [if_neg c]
    generalize (if 0 < lie then belowS x5 5 else x5) = x6
    have so := spread_ok mass n x6 hm (by omega)
    generalize spread mass n x6 = r at so
    rw [w64_id (x := lie + n) (by omega) (by omega)]
    refine ⟨h.push hs.2 hq.2 hm.1 (a := ⟨ho, p, kind, r.1.Min, r.1.Max, false⟩) hp rfl ⟨⟨hho.1, hho.2.1, hho.2.2.1⟩, ⟨by show (0 : Int) ≤ p; omega, sp1⟩, ⟨ki0.1, ki1⟩, (fun hh => by cases hh), ⟨so.1, by show r.1.Min ≤ r.1.Max; omega, so.2.2.2⟩⟩ ⟨so.2.1, so.2.2.1⟩ (fun hh => by cases hh) (by rw [if_neg (by simp), ← el]) (by omega) (by rw [e]; omega), hho.2.2.2⟩
theorem GInv.run {spots sorts : Nat} {mass hours : Int} (hs : 1 ≤ spots ∧ spots ≤ 4) (hq : 1 ≤ sorts ∧ sorts ≤ 4) (hm : 1 ≤ mass ∧ mass ≤ 10000) (hh : 0 ≤ hours ∧ hours ≤ 72) : ∀ (n : Nat) (s : Gst) (k : Nat), GInv spots sorts mass s k → s.hour ≤ hours → k + n ≤ 10 →
    GInv spots sorts mass (Gst.run spots sorts mass hours n s) (k + n)
  | 0, s, k, h, _, _ => h
  | n + 1, s, k, h, h1, h2 => by
    rw [Gst.run, show k + (n + 1) = k + 1 + n by omega]
    obtain ⟨a, b⟩ := h.step hs hq hm hh (by omega) h1
    exact GInv.run hs hq hm hh n _ (k + 1) a b (by omega)
theorem ground_fair {x spots sorts acts mass hours : Int} (q1 : 1 ≤ spots ∧ spots ≤ 4) (q2 : 1 ≤ sorts ∧ sorts ≤ 4) (q3 : 0 ≤ acts ∧ acts ≤ 10) (q4 : 1 ≤ mass ∧ mass ≤ 10000) (q5 : 0 ≤ hours ∧ hours ≤ 72) :
    let M := groundOf x spots sorts acts mass hours
    Fair M.g ∧ M.g.Spots.length ≤ 4 ∧ M.g.Sorts.length ≤ 4 ∧ M.g.Acts.length ≤ 10 ∧ M.truth.length = M.g.Acts.length ∧ ∀ j : Nat, j < M.g.Spots.length → Fits j 0 (M.g.Acts.zip M.truth) := by
  have w1 := btw_spec (x := x) (lo := 1) (hi := spots) (by omega) (by omega) (by omega)
  unfold groundOf
  dsimp only
  have ok1 := goSpo_ok (btw x 1 spots).toNat (btwS x 1 spots) [] (by simp)
  have ln1 := goSpo_length (btw x 1 spots).toNat (btwS x 1 spots) []
  generalize goSpo (btw x 1 spots).toNat (btwS x 1 spots) [] = a at ok1 ln1
  have w2 := btw_spec (x := a.2) (lo := 1) (hi := sorts) (by omega) (by omega) (by omega)
  have ok2 := goSrt_ok mass hours q4 q5 (btw a.2 1 sorts).toNat (btwS a.2 1 sorts) [] (by simp)
  have ln2 := goSrt_length (m := mass) (h := hours) (btw a.2 1 sorts).toNat (btwS a.2 1 sorts) []
  generalize goSrt mass hours (btw a.2 1 sorts).toNat (btwS a.2 1 sorts) [] = b at ok2 ln2
  rw [w64_id (x := acts + 1) (by omega) (by omega)]
  have w3 := below_spec b.2 (acts + 1) (by omega)
  have w3' := w3.2.1 (by omega)
  simp only [List.length_nil, Nat.zero_add] at ln1 ln2
  have start : GInv a.1.length b.1.length mass ⟨belowS b.2 (acts + 1), 0, List.replicate a.1.length 0, [], []⟩ 0 := by
    refine ⟨⟨Int.le_refl _, by show (0 : Int) ≤ 72; omega⟩, by simp, fun j hj => ?_, ⟨rfl, rfl⟩, Int.le_refl _, fun _ _ _ => rfl, (fun a ha => by cases ha), fun j hj => ⟨trivial, ?_⟩⟩
    · have : (List.replicate a.1.length (0 : Int)).getD j 0 = 0 := by simp [List.getD, hj]
      dsimp only
      rw [this]; exact ⟨Int.le_refl _, by simp⟩
    · have : (List.replicate a.1.length (0 : Int)).getD j 0 = 0 := by simp [List.getD, hj]
      dsimp only
      rw [this]
      try rfl
  have inv := GInv.run (by omega) (by omega) q4 q5 (below b.2 (acts + 1)).toNat _ 0 start q5.1 (by omega)
  generalize Gst.run a.1.length b.1.length mass hours (below b.2 (acts + 1)).toNat ⟨belowS b.2 (acts + 1), 0, List.replicate a.1.length 0, [], []⟩ = st at inv
  have la := inv.len
  have hck : check ⟨a.1, b.1, st.acts⟩ = 0 := by
    unfold check
    have m1 : many (a.1.length : Nat) 4 = 0 := by unfold many; rw [if_neg (by omega), if_neg (by omega)]
    have m2 : many (b.1.length : Nat) 4 = 0 := by unfold many; rw [if_neg (by omega), if_neg (by omega)]
    dsimp only
    rw [if_neg (by rw [m1]; simp), if_pos (List.all_eq_true.2 ok1)]
    unfold check2
    dsimp only
    rw [if_neg (by rw [m2]; simp), if_pos (List.all_eq_true.2 ok2)]
    unfold check3
    dsimp only
    rw [if_neg (by omega)]
    exact inv.chk _ rfl rfl
  have fi := fun j hj => (inv.fits j hj).1
  refine ⟨⟨hck, fun j hj => ?_, inv.pos⟩, by omega, by omega, by omega, by omega, fi⟩
  exact pile_ok (g := ⟨a.1, b.1, st.acts⟩) (truth := st.truth) (by dsimp only; omega) (by dsimp only; omega) (fi j hj)
end Go.Proofs.Swa

set_option linter.unusedVariables false
set_option linter.unusedSimpArgs false
namespace Go.Proofs.Swa
open Go
abbrev ActT := Act × Int
def tipAft (spot : Int) (L : List ActT) : Nat → Int
  | 0 => 0
  | u + 1 => tipAft spot L u + if (L.getD u default).1.Spot = spot ∧ (L.getD u default).1.Take = false then (L.getD u default).2 else 0
def takAft (spot : Int) (L : List ActT) : Nat → Int
  | 0 => 0
  | u + 1 => takAft spot L u + if (L.getD u default).1.Spot = spot ∧ (L.getD u default).1.Take = true then (L.getD u default).2 else 0
def kndAft (spot : Int) (L : List Act) : Nat → Int
  | 0 => 0
  | u + 1 => if (L.getD u default).Spot = spot ∧ (L.getD u default).Take = false then (L.getD u default).Kind else kndAft spot L u
theorem tipAft_cons (spot : Int) (a : ActT) (L : List ActT) : ∀ u, tipAft spot (a :: L) (u + 1) = (if a.1.Spot = spot ∧ a.1.Take = false then a.2 else 0) + tipAft spot L u
  | 0 => by simp [tipAft]
  | u + 1 => by
    have ih := tipAft_cons spot a L u
    rw [tipAft, ih, tipAft]
    simp only [List.getD_cons_succ]
    omega
theorem takAft_cons (spot : Int) (a : ActT) (L : List ActT) : ∀ u, takAft spot (a :: L) (u + 1) = (if a.1.Spot = spot ∧ a.1.Take = true then a.2 else 0) + takAft spot L u
  | 0 => by simp [takAft]
  | u + 1 => by
    have ih := takAft_cons spot a L u
    rw [takAft, ih, takAft]
    simp only [List.getD_cons_succ]
    omega
structure FitAt (spot : Int) (L : List ActT) (lie : Int) (u : Nat) : Prop where
  m : 1 ≤ (L.getD u default).1.Min ∧ (L.getD u default).1.Min ≤ (L.getD u default).2 ∧ (L.getD u default).2 ≤ (L.getD u default).1.Max ∧ (L.getD u default).1.Max ≤ 1000000
  t : (L.getD u default).1.Take = true → (L.getD u default).2 ≤ lie + tipAft spot L u - takAft spot L u
theorem Fits_at (spot : Int) : ∀ (L : List ActT) (lie : Int), Fits spot lie L → ∀ u, u < L.length → (L.getD u default).1.Spot = spot → FitAt spot L lie u
  | [], _, _, u, h, _ => by simp at h
  | (a, t) :: L, lie, f, 0, _, hs => by
    rw [Fits] at f
    have hs : a.Spot = spot := hs
    rw [if_pos hs] at f
    refine ⟨f.1, fun ht => ?_⟩
    have ht : a.Take = true := ht
    have f2 := f.2
    rw [if_pos ht] at f2
    show t ≤ lie + 0 - 0
    have := f2.1
    omega
  | (a, t) :: L, lie, f, u + 1, h, hs => by
    rw [Fits] at f
    have hu : u < L.length := by simpa using h
    have hs : (L.getD u default).1.Spot = spot := hs
    by_cases c : a.Spot = spot
    · rw [if_pos c] at f
      by_cases ct : a.Take = true
      · have f2 := f.2
        rw [if_pos ct] at f2
        obtain ⟨m, k⟩ := Fits_at spot L _ f2.2 u hu hs
        refine ⟨m, fun hh => ?_⟩
        have := k hh
        rw [tipAft_cons, takAft_cons, if_neg (by simp [ct]), if_pos ⟨c, ct⟩]
        show (L.getD u default).2 ≤ _
        dsimp only
        omega
      · have f2 := f.2
        rw [if_neg ct] at f2
        obtain ⟨m, k⟩ := Fits_at spot L _ f2 u hu hs
        refine ⟨m, fun hh => ?_⟩
        have := k hh
        rw [tipAft_cons, takAft_cons, if_pos ⟨c, by simpa using ct⟩, if_neg (by simp [ct])]
        show (L.getD u default).2 ≤ _
        dsimp only
        omega
    · rw [if_neg c] at f
      obtain ⟨m, k⟩ := Fits_at spot L _ f u hu hs
      refine ⟨m, fun hh => ?_⟩
      have := k hh
      rw [tipAft_cons, takAft_cons, if_neg (by simp [c]), if_neg (by simp [c])]
      show (L.getD u default).2 ≤ _
      omega
theorem run_snoc (spot : Int) (a : Act) : ∀ (l : List Act) (i : Nat) (p : Pst), Pst.run spot i (l ++ [a]) p = if a.Spot = spot then (Pst.run spot i l p).step (i + l.length) a else Pst.run spot i l p
  | [], i, p => rfl
  | b :: l, i, p => by
    rw [List.cons_append, Pst.run, run_snoc spot a l (i + 1), Pst.run, List.length_cons, show i + 1 + l.length = i + (l.length + 1) by omega]
def prU (spot : Int) (L : List Act) (u : Nat) : Pst := Pst.run spot 0 (L.take u) pst0
theorem prU_succ (spot : Int) {L : List Act} {u : Nat} (h : u < L.length) : prU spot L (u + 1) = if (L.getD u default).Spot = spot then (prU spot L u).step u (L.getD u default) else prU spot L u := by
  unfold prU
  rw [take_getD h, run_snoc, List.length_take, Nat.min_eq_left (by omega), Nat.zero_add]
theorem prU_all (spot : Int) (L : List Act) : prU spot L L.length = Pst.run spot 0 L pst0 := by unfold prU; rw [List.take_length]
theorem beforeL_snoc (v : Int) (m : Mom) : ∀ (l : List Mom) (out : Mom), beforeL v out (l ++ [m]) = if m.act < v then m else beforeL v out l
  | [], out => rfl
  | b :: l, out => by
    rw [List.cons_append, beforeL, beforeL_snoc v m l, beforeL]
theorem prU_last (spot : Int) (L : List Act) : ∀ u, u ≤ L.length → (prU spot L u).m.act < u ∧ ∃ init, (prU spot L u).ms = init ++ [(prU spot L u).m]
  | 0, _ => ⟨by show (-1 : Int) < 0; omega, [], rfl⟩
  | u + 1, h => by
    obtain ⟨h1, i, h2⟩ := prU_last spot L u (by omega)
    rw [prU_succ spot (by omega)]
    split
    · unfold Pst.step
      split
      · exact ⟨by show (u : Int) < (u + 1 : Nat); omega, _, rfl⟩
      · exact ⟨by show (u : Int) < (u + 1 : Nat); omega, _, rfl⟩
    · exact ⟨by omega, i, h2⟩
theorem prU_before (spot : Int) (L : List Act) (out : Mom) {u : Nat} : ∀ i, u + i ≤ L.length → beforeL u out (prU spot L (u + i)).ms = (prU spot L u).m
  | 0, h => by
    obtain ⟨h1, i, h2⟩ := prU_last spot L u h
    rw [Nat.add_zero, h2, beforeL_snoc, if_pos h1]
  | i + 1, h => by
    have ih := prU_before spot L out (u := u) i (by omega)
    rw [← Nat.add_assoc, prU_succ spot (by omega)]
    split
    · unfold Pst.step
      split
      · dsimp only
        rw [beforeL_snoc, if_neg (by dsimp only; omega), ih]
      · dsimp only
        rw [beforeL_snoc, if_neg (by dsimp only; omega), ih]
    · exact ih
theorem pile_before (g : Gnd) (spot : Int) {u : Nat} (hu : u ≤ g.Acts.length) : (pile g spot).1.before u = (prU spot g.Acts u).m := by
  have := prU_before spot g.Acts ((pile g spot).1.m.getD 0 default) (u := u) (g.Acts.length - u) (by omega)
  rw [show u + (g.Acts.length - u) = g.Acts.length by omega, prU_all] at this
  exact this
theorem know_ab {s : Sums} {a b : Nat} {m : Int} (ha : a < 11) (hb : b < 11) (haa : s.mat a a = 0) (hbb : s.mat b b = 0) (h1 : -1000000 ≤ m) (h2 : m ≤ 1000000) (h : (s.know a b m).2 = true) : (s.know a b m).1.mat a b ≤ m := by
  by_cases c1 : w64 (s.mat b a + m) < 0
  · have : Swa.know s.1 a b m = (s.1, false) := by
      unfold Swa.know
      have c1' : w64 (mat s.1 b a + m) < 0 := c1
      rw [if_pos c1']
    have h' : (Swa.know s.1 a b m).2 = true := h
    rw [this] at h'
    cases h'
  · by_cases c2 : s.mat a b ≤ m
    · rw [know_same c1 c2]; exact c2
    · obtain ⟨_, k⟩ := know_mat c1 c2
      have hf : far = 1099511627776 := rfl
      rw [k a b ha hb, upE, haa, hbb, if_pos ⟨by omega, by omega⟩, w64_id (x := 0 + m) (by omega) (by omega), w64_id (by omega) (by omega)]
      omega
theorem know_le {s : Sums} {a b : Nat} {m : Int} {i k : Nat} (hi : i < 11) (hk : k < 11) : (s.know a b m).1.mat i k ≤ s.mat i k := by
  by_cases c1 : w64 (s.mat b a + m) < 0
  · have : s.know a b m = (s, false) := by
      unfold Sums.know
      have e : Swa.know s.1 a b m = (s.1, false) := by
        unfold Swa.know
        have c1' : w64 (mat s.1 b a + m) < 0 := c1
        rw [if_pos c1']
      congr 1
      · apply Subtype.ext
        show (Swa.know s.1 a b m).1 = s.1
        rw [e]
      · rw [e]
    rw [this]; exact Int.le_refl _
  · by_cases c2 : s.mat a b ≤ m
    · rw [know_same c1 c2]; exact Int.le_refl _
    · obtain ⟨_, k'⟩ := know_mat c1 c2
      rw [k' i k hi hk, upE]
      split
      · omega
      · exact Int.le_refl _
def Exact (L : List ActT) : Prop := ∀ u, u < L.length → (L.getD u default).1.Min = (L.getD u default).2 ∧ (L.getD u default).1.Max = (L.getD u default).2
structure PX (spot : Int) (L : List ActT) (i : Nat) (x : Nat → Int) : Prop where
  ok : (prU spot (L.map (·.1)) i).ok = true
  nx : (prU spot (L.map (·.1)) i).next ≤ i
  tab : Tab (prU spot (L.map (·.1)) i).s.mat (prU spot (L.map (·.1)) i).next x
  hist : ∀ u, u ≤ i → (prU spot (L.map (·.1)) u).next ≤ (prU spot (L.map (·.1)) i).next ∧ (prU spot (L.map (·.1)) u).m.tips ≤ (prU spot (L.map (·.1)) u).next ∧ (prU spot (L.map (·.1)) u).m.takes ≤ (prU spot (L.map (·.1)) u).next ∧
    x (prU spot (L.map (·.1)) u).m.tips = tipAft spot L u ∧ x (prU spot (L.map (·.1)) u).m.takes = takAft spot L u ∧ (prU spot (L.map (·.1)) u).m.kind = kndAft spot (L.map (·.1)) u
  tight : Exact L → ∀ a b, a ≤ (prU spot (L.map (·.1)) i).next → b ≤ (prU spot (L.map (·.1)) i).next → (prU spot (L.map (·.1)) i).s.mat a b ≤ x b - x a
theorem map_getD (L : List ActT) (u : Nat) : (L.map (·.1)).getD u default = (L.getD u default).1 := by
  simp only [List.getD, List.getElem?_map]
  cases L[u]? <;> rfl
theorem PX.start (spot : Int) (L : List ActT) : PX spot L 0 fun _ => 0 := by
  obtain ⟨x, hx, _⟩ := PInv.start.tab
  have h00 := hx.diag 0 (by omega)
  refine ⟨rfl, Nat.le_refl _, ⟨hx.n10, hx.hi, hx.out, hx.diag, fun a b ha hb => ?_, hx.tri, fun _ _ => Int.le_refl _, fun _ _ => by show (0 : Int) ≤ ((0 : Nat) : Int) * 1000000; omega⟩, fun u hu => ?_, fun _ a b ha hb => ?_⟩
  · have e1 : a = 0 := Nat.le_zero.1 ha
    have e2 : b = 0 := Nat.le_zero.1 hb
    subst e1; subst e2
    show (0 : Int) - 0 ≤ pst0.s.mat 0 0
    rw [h00]; omega
  · obtain rfl : u = 0 := by omega
    exact ⟨Nat.le_refl _, Nat.le_refl _, Nat.le_refl _, rfl, rfl, rfl⟩
  · have e1 : a = 0 := Nat.le_zero.1 ha
    have e2 : b = 0 := Nat.le_zero.1 hb
    subst e1; subst e2
    show pst0.s.mat 0 0 ≤ (0 : Int) - 0
    rw [h00]; omega
theorem Tab.addT {s : Sums} {n : Nat} {x : Nat → Int} (h : Tab s.mat n x) (hn : n < 10) {p : Nat} {t : Int} (hp : p ≤ n) (l1 : 1 ≤ t) (l4 : t ≤ 1000000) (k0 : ∀ a b, a ≤ n → b ≤ n → s.mat a b ≤ x b - x a) :
    ∀ a b, a ≤ n + 1 → b ≤ n + 1 → ((s.know p (n + 1) t).1.know (n + 1) p (w64 (0 - t))).1.mat a b ≤ (if b = n + 1 then x p + t else x b) - if a = n + 1 then x p + t else x a := by
  obtain ⟨k1, k2, k3, k4, k5⟩ := h.add hn (p := p) (lo := t) (hi := t) (t := t) hp l1 (Int.le_refl _) (Int.le_refl _) l4
  have q := know_ab (s := s) (a := p) (b := n + 1) (m := t) (by omega) (by omega) (h.diag p (by omega)) (h.diag (n + 1) (by omega)) (by omega) (by omega) k1
  have q2 := know_le (s := (s.know p (n + 1) t).1) (a := n + 1) (b := p) (m := w64 (0 - t)) (i := p) (k := n + 1) (by omega) (by omega)
  generalize ((s.know p (n + 1) t).1.know (n + 1) p (w64 (0 - t))).1 = y at k2 k3 k4 k5 q2
  have dd := k3.diag (n + 1) (by omega)
  intro a b ha hb
  by_cases e1 : a = n + 1
  · by_cases e2 : b = n + 1
    · rw [if_pos e1, if_pos e2, e1, e2, dd]; omega
    · rw [if_pos e1, if_neg e2, e1, k5 b (by omega)]
      have := k0 p b hp (by omega)
      omega
  · by_cases e2 : b = n + 1
    · rw [if_neg e1, if_pos e2, e2]
      have t1 := k3.tri a p (n + 1) (by omega) (by omega) (by omega)
      rw [k4 a p (by omega) hp] at t1
      have := k0 a p (by omega) hp
      omega
    · rw [if_neg e1, if_neg e2, k4 a b (by omega) (by omega)]
      exact k0 a b (by omega) (by omega)
theorem PX.step {spot : Int} {L : List ActT} {i : Nat} {x : Nat → Int} (h : PX spot L i x) (hi : i < L.length) (hl : L.length ≤ 10) (hf : (L.getD i default).1.Spot = spot → FitAt spot L 0 i) : ∃ x', PX spot L (i + 1) x' := by
  have hi' : i < (L.map (·.1)).length := by simpa using hi
  have e0 := prU_succ spot hi'
  rw [map_getD] at e0
  by_cases hs : (L.getD i default).1.Spot = spot
  · rw [if_pos hs] at e0
    obtain ⟨q, qt⟩ := hf hs
    obtain ⟨n1, mt1, mt2, t1, t2, t3⟩ := h.hist i (Nat.le_refl _)
    have hn := h.nx
    have hk : h.tab.n10 = h.tab.n10 := rfl
    by_cases ht : (L.getD i default).1.Take = true
    · rw [Pst.step_take ht] at e0
      have qt := qt ht
      obtain ⟨k1, k2, k3, k4, k5⟩ := h.tab.add (by omega) mt2 q.1 q.2.1 q.2.2.1 q.2.2.2
      have kt : Exact L → _ := fun ex => h.tab.addT (by omega) (p := (prU spot (L.map (·.1)) i).m.takes) (t := (L.getD i default).2) mt2 (by omega) (by omega) (h.tight ex)
      have htk : (prU spot (L.map (·.1)) i).tk (L.getD i default).1 = (((prU spot (L.map (·.1)) i).s.know (prU spot (L.map (·.1)) i).m.takes ((prU spot (L.map (·.1)) i).next + 1) (L.getD i default).1.Max).1.know ((prU spot (L.map (·.1)) i).next + 1) (prU spot (L.map (·.1)) i).m.takes (w64 (0 - (L.getD i default).1.Min))).1.know (prU spot (L.map (·.1)) i).m.tips ((prU spot (L.map (·.1)) i).next + 1) 0 := by
        unfold Pst.tk knowIf
        simp only [h.ok, if_true, k1, k2]
      rw [htk] at e0
      have kt : Exact L → ∀ a b, a ≤ (prU spot (L.map (·.1)) i).next + 1 → b ≤ (prU spot (L.map (·.1)) i).next + 1 → (((prU spot (L.map (·.1)) i).s.know (prU spot (L.map (·.1)) i).m.takes ((prU spot (L.map (·.1)) i).next + 1) (L.getD i default).1.Max).1.know ((prU spot (L.map (·.1)) i).next + 1) (prU spot (L.map (·.1)) i).m.takes (w64 (0 - (L.getD i default).1.Min))).1.mat a b ≤ (if b = (prU spot (L.map (·.1)) i).next + 1 then x (prU spot (L.map (·.1)) i).m.takes + (L.getD i default).2 else x b) - if a = (prU spot (L.map (·.1)) i).next + 1 then x (prU spot (L.map (·.1)) i).m.takes + (L.getD i default).2 else x a := by
        intro ex
        have := kt ex
        obtain ⟨x1, x2⟩ := ex i hi
        rw [x1, x2]
        exact this
      obtain ⟨z1, z2, z3, z4⟩ := k3.more (a := (prU spot (L.map (·.1)) i).m.tips) (b := (prU spot (L.map (·.1)) i).next + 1) (m := 0) (by omega) (Nat.le_refl _) (by
        rw [if_pos rfl, if_neg (by omega)]
        omega) (by omega) (by omega)
      refine ⟨fun j => if j = (prU spot (L.map (·.1)) i).next + 1 then x (prU spot (L.map (·.1)) i).m.takes + (L.getD i default).2 else x j, ?_, ?_, ?_, ?_, ?_⟩
      rotate_left 2
      · rw [e0]; exact z2
      · intro u hu
        by_cases eu : u = i + 1
        · subst eu
          rw [e0]
          refine ⟨Nat.le_refl _, by dsimp only; omega, Nat.le_refl _, ?_, ?_, ?_⟩
          · dsimp only
            rw [if_neg (by omega), t1, tipAft, if_neg (fun q => by rw [ht] at q; cases q.2)]; omega
          · dsimp only
            rw [if_pos rfl, t2, takAft, if_pos ⟨hs, ht⟩]
          · dsimp only
            rw [t3, kndAft, map_getD, if_neg (fun q => by rw [ht] at q; cases q.2)]
        · obtain ⟨n1, m1, m2, t1, t2, t3⟩ := h.hist u (by omega)
          rw [e0]
          dsimp only
          rw [if_neg (by omega), if_neg (by omega)]
          exact ⟨by omega, m1, m2, t1, t2, t3⟩
      · intro ex a b ha hb
        rw [e0] at ha hb ⊢
        have := kt ex a b ha hb
        have w := z3 a b ha hb
        dsimp only
        omega
      · rw [e0]; exact z1
      · rw [e0]; show _ + 1 ≤ _; omega
    · rw [Pst.step_tip ht] at e0
      have ht' : (L.getD i default).1.Take = false := by simpa using ht
      obtain ⟨k1, k2, k3, k4, k5⟩ := h.tab.add (by omega) mt1 q.1 q.2.1 q.2.2.1 q.2.2.2
      have kt : Exact L → _ := fun ex => h.tab.addT (by omega) (p := (prU spot (L.map (·.1)) i).m.tips) (t := (L.getD i default).2) mt1 (by omega) (by omega) (h.tight ex)
      have htp : (prU spot (L.map (·.1)) i).tp (L.getD i default).1 = ((prU spot (L.map (·.1)) i).s.know (prU spot (L.map (·.1)) i).m.tips ((prU spot (L.map (·.1)) i).next + 1) (L.getD i default).1.Max).1.know ((prU spot (L.map (·.1)) i).next + 1) (prU spot (L.map (·.1)) i).m.tips (w64 (0 - (L.getD i default).1.Min)) := by
        unfold Pst.tp knowIf
        simp only [h.ok, if_true, k1]
      rw [htp] at e0
      have kt : Exact L → ∀ a b, a ≤ (prU spot (L.map (·.1)) i).next + 1 → b ≤ (prU spot (L.map (·.1)) i).next + 1 → (((prU spot (L.map (·.1)) i).s.know (prU spot (L.map (·.1)) i).m.tips ((prU spot (L.map (·.1)) i).next + 1) (L.getD i default).1.Max).1.know ((prU spot (L.map (·.1)) i).next + 1) (prU spot (L.map (·.1)) i).m.tips (w64 (0 - (L.getD i default).1.Min))).1.mat a b ≤ (if b = (prU spot (L.map (·.1)) i).next + 1 then x (prU spot (L.map (·.1)) i).m.tips + (L.getD i default).2 else x b) - if a = (prU spot (L.map (·.1)) i).next + 1 then x (prU spot (L.map (·.1)) i).m.tips + (L.getD i default).2 else x a := by
        intro ex
        have := kt ex
        obtain ⟨x1, x2⟩ := ex i hi
        rw [x1, x2]
        exact this
      refine ⟨fun j => if j = (prU spot (L.map (·.1)) i).next + 1 then x (prU spot (L.map (·.1)) i).m.tips + (L.getD i default).2 else x j, ?_, ?_, ?_, ?_, ?_⟩
      rotate_left 2
      · rw [e0]; exact k3
      · intro u hu
        by_cases eu : u = i + 1
        · subst eu
          rw [e0]
          refine ⟨Nat.le_refl _, Nat.le_refl _, by dsimp only; omega, ?_, ?_, ?_⟩
          · dsimp only
            rw [if_pos rfl, t1, tipAft, if_pos ⟨hs, ht'⟩]
          · dsimp only
            rw [if_neg (by omega), t2, takAft, if_neg (fun q => by rw [ht'] at q; cases q.2)]; omega
          · dsimp only
            rw [kndAft, map_getD, if_pos ⟨hs, ht'⟩]
        · obtain ⟨n1, m1, m2, t1, t2, t3⟩ := h.hist u (by omega)
          rw [e0]
          dsimp only
          rw [if_neg (by omega), if_neg (by omega)]
          exact ⟨by omega, m1, m2, t1, t2, t3⟩
      · intro ex a b ha hb
        rw [e0] at ha hb ⊢
        exact kt ex a b ha hb
      · rw [e0]; exact k2
      · rw [e0]; show _ + 1 ≤ _; omega
  · rw [if_neg hs] at e0
    refine ⟨x, by rw [e0]; exact h.ok, by rw [e0]; exact Nat.le_succ_of_le h.nx, by rw [e0]; exact h.tab, fun u hu => ?_, fun ex => by rw [e0]; exact h.tight ex⟩
    by_cases eu : u = i + 1
    · subst eu
      obtain ⟨n1, m1, m2, t1, t2, t3⟩ := h.hist i (Nat.le_refl _)
      rw [e0]
      refine ⟨Nat.le_refl _, m1, m2, ?_, ?_, ?_⟩
      · rw [t1, tipAft, if_neg (fun q => hs q.1)]; omega
      · rw [t2, takAft, if_neg (fun q => hs q.1)]; omega
      · rw [t3, kndAft, map_getD, if_neg (fun q => hs q.1)]
    · rw [e0]; exact h.hist u (by omega)
theorem PX.all {spot : Int} {L : List ActT} (hl : L.length ≤ 10) (hf : Fits spot 0 L) : ∀ i, i ≤ L.length → ∃ x, PX spot L i x
  | 0, _ => ⟨_, PX.start spot L⟩
  | i + 1, h => by
    obtain ⟨x, hx⟩ := PX.all hl hf i (by omega)
    exact hx.step (by omega) hl fun hs => Fits_at spot L 0 hf i (by omega) hs
structure SpotX (g : Gnd) (spot : Int) (truth : List Int) (n : Nat) (x : Nat → Int) : Prop where
  ok : (pile g spot).2 = true
  tab : Tab (pile g spot).1.s.mat n x
  mom : ∀ u, u ≤ g.Acts.length → ((pile g spot).1.before u).tips ≤ n ∧ ((pile g spot).1.before u).takes ≤ n ∧ x ((pile g spot).1.before u).tips = tipAft spot (g.Acts.zip truth) u ∧ x ((pile g spot).1.before u).takes = takAft spot (g.Acts.zip truth) u ∧
    ((pile g spot).1.before u).kind = kndAft spot g.Acts u
  tight : Exact (g.Acts.zip truth) → ∀ a b, a ≤ n → b ≤ n → (pile g spot).1.s.mat a b ≤ x b - x a
theorem spotX {g : Gnd} {spot : Int} {truth : List Int} (hl : g.Acts.length ≤ 10) (he : truth.length = g.Acts.length) (hf : Fits spot 0 (g.Acts.zip truth)) : ∃ n x, SpotX g spot truth n x := by
  have hz : (g.Acts.zip truth).map (·.1) = g.Acts := by
    rw [List.map_fst_zip]
    omega
  have hzl : (g.Acts.zip truth).length = g.Acts.length := by rw [List.length_zip]; omega
  obtain ⟨x, h⟩ := PX.all (by omega) hf (g.Acts.zip truth).length (Nat.le_refl _)
  have ep : ∀ a : Pst, a = prU spot g.Acts g.Acts.length → pile g spot = (⟨a.s, a.ms⟩, a.ok) := by
    intro a ha
    rw [ha, prU_all]; rfl
  have ep := ep _ rfl
  refine ⟨(prU spot g.Acts g.Acts.length).next, x, ?_, ?_, fun u hu => ?_, fun ex => ?_⟩
  rotate_left
  · have := h.tab
    rw [hz, hzl] at this
    rw [ep]; exact this
  · rw [pile_before g spot hu]
    have := h.hist u (by omega)
    rw [hz, hzl] at this
    exact ⟨Nat.le_trans this.2.1 this.1, Nat.le_trans this.2.2.1 this.1, this.2.2.2.1, this.2.2.2.2.1, this.2.2.2.2.2⟩
  · have := h.tight ex
    rw [hz, hzl] at this
    rw [ep]; exact this
  · have := h.ok
    rw [hz, hzl] at this
    rw [ep]; exact this
end Go.Proofs.Swa

set_option linter.unusedVariables false
set_option linter.unusedSimpArgs false
namespace Go.Proofs.Swa
open Go
def tkStep (A : List Act) (spot : Int) (s : Int × List Int) (k : Nat) : Int × List Int :=
  if (A.getD k default).Spot = spot ∧ (A.getD k default).Take = false then
    (w64 (s.1 - min s.1 (s.2.getD k 0)), s.2.set k (w64 (s.2.getD k 0 - min s.1 (s.2.getD k 0))))
  else s
def tkRun (A : List Act) (spot : Int) (i : Nat) (s : Int × List Int) : Int × List Int := (List.range i).foldl (tkStep A spot) s
structure DayS where
  left : List Int
  last : List Int
def dayStep (A : List Act) (truth : List Int) (d : DayS) (i : Nat) : DayS :=
  if (A.getD i default).Take = true then ⟨(tkRun A (A.getD i default).Spot i (truth.getD i 0, d.left)).2, d.last⟩
  else ⟨d.left.set i (truth.getD i 0), d.last.set (A.getD i default).Spot.toNat i⟩
def dayRun (g : Gnd) (truth : List Int) (n : Nat) : DayS := (List.range n).foldl (dayStep g.Acts truth) ⟨List.replicate g.Acts.length 0, List.replicate g.Spots.length (-1)⟩
def dayOf (g : Gnd) (truth : List Int) (acts : Nat) (hour : Int) : DayS := dayRun g truth (min acts (untilL hour g.Acts))
def massGo (A : List Act) (left : List Int) (spot : Int) (n : Nat) : Int := (List.range n).foldl (fun s i => if (A.getD i default).Spot = spot then w64 (s + left.getD i 0) else s) 0
def DayS.mass (d : DayS) (g : Gnd) (spot : Int) : Int := massGo g.Acts d.left spot d.left.length
theorem tkRun_succ (A : List Act) (spot : Int) (i : Nat) (s : Int × List Int) : tkRun A spot (i + 1) s = tkStep A spot (tkRun A spot i s) i := foldl_range_succ _ _ _
theorem dayRun_succ (g : Gnd) (truth : List Int) (n : Nat) : dayRun g truth (n + 1) = dayStep g.Acts truth (dayRun g truth n) n := foldl_range_succ _ _ _
theorem massGo_succ (A : List Act) (left : List Int) (spot : Int) (n : Nat) : massGo A left spot (n + 1) = if (A.getD n default).Spot = spot then w64 (massGo A left spot n + left.getD n 0) else massGo A left spot n := foldl_range_succ _ _ _
def sumL (A : List Act) (left : List Int) (spot : Int) : Nat → Int
  | 0 => 0
  | u + 1 => sumL A left spot u + if (A.getD u default).Spot = spot then left.getD u 0 else 0
theorem sumL_congr {A : List Act} {l m : List Int} {spot : Int} : ∀ (u : Nat), (∀ k, k < u → (A.getD k default).Spot = spot → l.getD k 0 = m.getD k 0) → sumL A l spot u = sumL A m spot u
  | 0, _ => rfl
  | u + 1, h => by
    rw [sumL, sumL, sumL_congr u fun k hk => h k (by omega)]
    by_cases c : (A.getD u default).Spot = spot
    · rw [if_pos c, if_pos c, h u (by omega) c]
    · rw [if_neg c, if_neg c]
theorem sumL_nonneg {A : List Act} {l : List Int} {spot : Int} (h : ∀ k, 0 ≤ l.getD k 0) : ∀ u, 0 ≤ sumL A l spot u
  | 0 => Int.le_refl _
  | u + 1 => by
    have := sumL_nonneg h u (A := A) (spot := spot)
    rw [sumL]
    have := h u
    split <;> omega
structure TkI (A : List Act) (spot : Int) (t : Int) (l0 : List Int) (k : Nat) (s : Int × List Int) : Prop where
  len : s.2.length = l0.length
  rest : ∀ j, k ≤ j → s.2.getD j 0 = l0.getD j 0
  other : ∀ j, (A.getD j default).Spot ≠ spot → s.2.getD j 0 = l0.getD j 0
  bd : ∀ j, 0 ≤ s.2.getD j 0 ∧ s.2.getD j 0 ≤ l0.getD j 0
  sum : ∀ j, j ≤ k → sumL A s.2 spot j = max 0 (sumL A l0 spot j - t)
  n : s.1 = max 0 (t - sumL A l0 spot k)
theorem tk_inv {A : List Act} {spot t : Int} {l0 : List Int} (ht : 0 ≤ t ∧ t ≤ 1000000) (hb : ∀ j, 0 ≤ l0.getD j 0 ∧ l0.getD j 0 ≤ 1000000) (hz : ∀ j, (A.getD j default).Take = true → l0.getD j 0 = 0) : ∀ k, k ≤ l0.length → TkI A spot t l0 k (tkRun A spot k (t, l0))
  | 0, _ => ⟨rfl, fun _ _ => rfl, fun _ _ => rfl, fun j => ⟨(hb j).1, Int.le_refl _⟩, fun j hj => by
      obtain rfl : j = 0 := by omega
      show (0 : Int) = max 0 (0 - t); omega, by show t = max 0 (t - 0); omega⟩
  | k + 1, h => by
    have I := tk_inv ht hb hz k (by omega) (spot := spot)
    rw [tkRun_succ]
    generalize tkRun A spot k (t, l0) = s at I
    unfold tkStep
    have hk := I.bd k
    have hbk := hb k
    have hr := I.rest k (Nat.le_refl _)
    have hn := I.n
    have h0 := sumL_nonneg (A := A) (spot := spot) (fun k => (hb k).1) k
    by_cases c : (A.getD k default).Spot = spot ∧ (A.getD k default).Take = false
    · rw [if_pos c]
      have b1 : w64 (s.1 - min s.1 (s.2.getD k 0)) = s.1 - min s.1 (s.2.getD k 0) := w64_id (by omega) (by omega)
      have b2 : w64 (s.2.getD k 0 - min s.1 (s.2.getD k 0)) = s.2.getD k 0 - min s.1 (s.2.getD k 0) := w64_id (by omega) (by omega)
      rw [b1, b2]
      have hlen := I.len
      refine ⟨by simp [I.len], fun j hj => ?_, fun j hj => ?_, fun j => ?_, fun j hj => ?_, ?_⟩
      · dsimp only
        rw [getD_set, if_neg (by omega)]; exact I.rest j (by omega)
      · dsimp only
        rw [getD_set, if_neg (fun (q : k = j ∧ k < s.2.length) => hj (by rw [← q.1]; exact c.1))]; exact I.other j hj
      · dsimp only
        rw [getD_set]
        split
        · rename_i e
          have := I.bd j
          rw [← e.1, ← hr]; omega
        · exact I.bd j
      · dsimp only
        by_cases ej : j = k + 1
        · subst ej
          rw [sumL, sumL, if_pos c.1, if_pos c.1, getD_set, if_pos ⟨rfl, by omega⟩, sumL_congr (m := s.2) k fun q hq _ => by rw [getD_set, if_neg (by omega)]]
          have := I.sum k (Nat.le_refl _)
          omega
        · rw [sumL_congr (m := s.2) j fun q hq _ => by rw [getD_set, if_neg (by omega)]]
          exact I.sum j (by omega)
      · dsimp only
        rw [sumL, if_pos c.1]
        omega
    · rw [if_neg c]
      have hz0 : (A.getD k default).Spot = spot → l0.getD k 0 = 0 := fun e => hz k (by
        cases hh : (A.getD k default).Take with
        | true => rfl
        | false => exact absurd ⟨e, hh⟩ c)
      refine ⟨I.len, fun j hj => I.rest j (by omega), I.other, I.bd, fun j hj => ?_, ?_⟩
      · by_cases ej : j = k + 1
        · subst ej
          have := I.sum k (Nat.le_refl _)
          rw [sumL, sumL]
          by_cases e : (A.getD k default).Spot = spot
          · rw [if_pos e, if_pos e, hr, hz0 e]; omega
          · rw [if_neg e, if_neg e]; omega
        · exact I.sum j (by omega)
      · rw [sumL]
        by_cases e : (A.getD k default).Spot = spot
        · rw [if_pos e, hz0 e]; omega
        · rw [if_neg e]; omega
structure Few2 (g : Gnd) (truth : List Int) : Prop where
  len : truth.length = g.Acts.length
  l10 : g.Acts.length ≤ 10
  m : ∀ u, u < g.Acts.length → 1 ≤ truth.getD u 0 ∧ truth.getD u 0 ≤ 1000000
  spot : ∀ u, u < g.Acts.length → 0 ≤ (g.Acts.getD u default).Spot ∧ (g.Acts.getD u default).Spot < g.Spots.length
def lastAft (spot : Int) (L : List Act) : Nat → Int
  | 0 => -1
  | u + 1 => if (L.getD u default).Spot = spot ∧ (L.getD u default).Take = false then u else lastAft spot L u
structure DayI (g : Gnd) (truth : List Int) (n : Nat) (d : DayS) : Prop where
  len : d.left.length = g.Acts.length
  last : d.last.length = g.Spots.length
  lst : ∀ j, j < g.Spots.length → d.last.getD j 0 = lastAft j g.Acts n
  bd : ∀ j, 0 ≤ d.left.getD j 0 ∧ d.left.getD j 0 ≤ 1000000
  zero : ∀ j, n ≤ j → d.left.getD j 0 = 0
  tk : ∀ j, (g.Acts.getD j default).Take = true → d.left.getD j 0 = 0
  sum : ∀ (spot : Int) (j : Nat), j ≤ n → sumL g.Acts d.left spot j = max 0 (tipAft spot (g.Acts.zip truth) j - takAft spot (g.Acts.zip truth) n)
theorem zip_getD {g : Gnd} {truth : List Int} (h : truth.length = g.Acts.length) {u : Nat} (hu : u < g.Acts.length) : (g.Acts.zip truth).getD u default = (g.Acts.getD u default, truth.getD u 0) := by
  have h2 : u < truth.length := by omega
  have h3 : u < (g.Acts.zip truth).length := by rw [List.length_zip]; omega
  rw [List.getD, List.getElem?_eq_getElem h3, List.getElem_zip]
  simp [List.getD, hu, h2]
theorem tipAft_nonneg {g : Gnd} {truth : List Int} (f : Few2 g truth) (spot : Int) : ∀ u, u ≤ g.Acts.length → 0 ≤ tipAft spot (g.Acts.zip truth) u ∧ tipAft spot (g.Acts.zip truth) u ≤ u * 1000000 ∧ 0 ≤ takAft spot (g.Acts.zip truth) u ∧ takAft spot (g.Acts.zip truth) u ≤ u * 1000000
  | 0, _ => by show (0 : Int) ≤ 0 ∧ (0 : Int) ≤ ((0 : Nat) : Int) * 1000000 ∧ (0 : Int) ≤ 0 ∧ (0 : Int) ≤ ((0 : Nat) : Int) * 1000000; omega
  | u + 1, h => by
    have ih := tipAft_nonneg f spot u (by omega)
    have hm := f.m u (by omega)
    rw [tipAft, takAft, zip_getD f.len (by omega)]
    dsimp only
    split <;> split <;> omega
theorem day_inv {g : Gnd} {truth : List Int} (f : Few2 g truth) (fit : ∀ spot u, u ≤ g.Acts.length → takAft spot (g.Acts.zip truth) u ≤ tipAft spot (g.Acts.zip truth) u) : ∀ n, n ≤ g.Acts.length → DayI g truth n (dayRun g truth n)
  | 0, _ => by
    have hz : ∀ j, (List.replicate g.Acts.length (0 : Int)).getD j 0 = 0 := fun j => by
      simp only [List.getD, List.getElem?_replicate]
      split <;> rfl
    refine ⟨by simp [dayRun], by simp [dayRun], fun j hj => ?_, fun j => ?_, fun j _ => hz j, fun j _ => hz j, fun spot j hj => ?_⟩
    · show (List.replicate g.Spots.length (-1 : Int)).getD j 0 = -1
      simp [List.getD, hj]
    · show 0 ≤ (List.replicate g.Acts.length (0 : Int)).getD j 0 ∧ (List.replicate g.Acts.length (0 : Int)).getD j 0 ≤ 1000000
      rw [hz]; omega
    · obtain rfl : j = 0 := by omega
      show (0 : Int) = max 0 (0 - 0)
      omega
  | n + 1, h => by
    have I := day_inv f fit n (by omega)
    rw [dayRun_succ]
    generalize dayRun g truth n = d at I
    have hm := f.m n (by omega)
    have hsp := f.spot n (by omega)
    have hlen := I.len
    have hzg := zip_getD f.len (show n < g.Acts.length by omega)
    unfold dayStep
    by_cases c : (g.Acts.getD n default).Take = true
    · rw [if_pos c]
      have T := tk_inv (A := g.Acts) (spot := (g.Acts.getD n default).Spot) (t := truth.getD n 0) (l0 := d.left) (by omega) I.bd I.tk n (by omega)
      generalize tkRun g.Acts (g.Acts.getD n default).Spot n (truth.getD n 0, d.left) = s at T
      refine ⟨by rw [← I.len]; exact T.len, I.last, fun j hj => ?_, fun j => ?_, fun j hj => ?_, fun j hj => ?_, fun spot j hj => ?_⟩
      · dsimp only
        rw [I.lst j hj, lastAft, if_neg (fun q => by rw [c] at q; cases q.2)]
      · have := T.bd j; have := I.bd j; dsimp only; omega
      · have := T.rest j (by omega)
        dsimp only
        rw [this]; exact I.zero j (by omega)
      · have := T.bd j; have := I.tk j hj; dsimp only; omega
      · have ht : ∀ j, j ≤ n → sumL g.Acts s.2 spot j = max 0 (tipAft spot (g.Acts.zip truth) j - takAft spot (g.Acts.zip truth) (n + 1)) := by
          intro j hj
          rw [takAft, hzg]
          dsimp only
          have i1 := I.sum spot j hj
          by_cases e : (g.Acts.getD n default).Spot = spot
          · subst e
            rw [if_pos ⟨rfl, c⟩, T.sum j hj, i1]
            omega
          · rw [if_neg (fun q => e q.1), sumL_congr (m := d.left) j fun k hk hs => T.other k (by rw [hs]; exact fun q => e q.symm), i1]
            omega
        dsimp only
        by_cases ej : j = n + 1
        · subst ej
          rw [sumL, ht n (Nat.le_refl _), T.rest n (Nat.le_refl _), I.zero n (Nat.le_refl _), tipAft, hzg]
          dsimp only
          have e2 : ¬ ((g.Acts.getD n default).Spot = spot ∧ (g.Acts.getD n default).Take = false) := fun q => by rw [c] at q; cases q.2
          rw [if_neg e2]
          split <;> omega
        · exact ht j (by omega)
    · rw [if_neg c]
      have c' : (g.Acts.getD n default).Take = false := by simpa using c
      refine ⟨by simp [I.len], by simp [I.last], fun j hj => ?_, fun j => ?_, fun j hj => ?_, fun j hj => ?_, fun spot j hj => ?_⟩
      · dsimp only
        have hil := I.last
        rw [getD_set, lastAft, I.lst j hj]
        by_cases e : (g.Acts.getD n default).Spot.toNat = j
        · rw [if_pos ⟨e, by omega⟩, if_pos ⟨by omega, c'⟩]
        · rw [if_neg (fun q => e q.1), if_neg (fun q => by have := q.1; omega)]
      · dsimp only
        rw [getD_set]
        split
        · omega
        · exact I.bd j
      · dsimp only
        rw [getD_set, if_neg (by omega)]; exact I.zero j (by omega)
      · dsimp only
        rw [getD_set, if_neg (fun q => by rw [q.1] at c'; rw [hj] at c'; cases c')]; exact I.tk j hj
      · dsimp only
        have ht : ∀ j, j ≤ n → sumL g.Acts (d.left.set n (truth.getD n 0)) spot j = max 0 (tipAft spot (g.Acts.zip truth) j - takAft spot (g.Acts.zip truth) (n + 1)) := by
          intro j hj
          rw [sumL_congr (m := d.left) j fun k hk hs => by rw [getD_set, if_neg (by omega)], I.sum spot j hj, takAft, hzg]
          dsimp only
          rw [if_neg (fun q => by rw [c'] at q; cases q.2)]
          omega
        by_cases ej : j = n + 1
        · subst ej
          rw [sumL, ht n (Nat.le_refl _), getD_set, if_pos (show n = n ∧ n < d.left.length from ⟨rfl, by omega⟩), tipAft, hzg]
          dsimp only
          have fi := fit spot n (by omega)
          have ek : takAft spot (g.Acts.zip truth) (n + 1) = takAft spot (g.Acts.zip truth) n := by
            rw [takAft, hzg]
            dsimp only
            rw [if_neg (fun q => by rw [c'] at q; cases q.2)]
            omega
          by_cases e : (g.Acts.getD n default).Spot = spot
          · rw [if_pos e, if_pos ⟨e, c'⟩]; omega
          · rw [if_neg e, if_neg (fun q => e q.1)]; omega
        · exact ht j (by omega)
theorem mass_sum {A : List Act} {left : List Int} {spot : Int} (hb : ∀ j, 0 ≤ left.getD j 0 ∧ left.getD j 0 ≤ 1000000) : ∀ n, n ≤ 1000 → massGo A left spot n = sumL A left spot n ∧ 0 ≤ sumL A left spot n ∧ sumL A left spot n ≤ n * 1000000
  | 0, _ => ⟨rfl, Int.le_refl _, by show (0 : Int) ≤ ((0 : Nat) : Int) * 1000000; omega⟩
  | n + 1, h => by
    obtain ⟨i1, i2, i3⟩ := mass_sum hb n (by omega) (A := A) (spot := spot)
    have := hb n
    rw [massGo_succ, sumL, i1]
    split
    · rw [w64_id (by omega) (by omega)]; omega
    · omega
theorem day_mass {g : Gnd} {truth : List Int} (f : Few2 g truth) (fit : ∀ spot u, u ≤ g.Acts.length → takAft spot (g.Acts.zip truth) u ≤ tipAft spot (g.Acts.zip truth) u) {n : Nat} (hn : n ≤ g.Acts.length) (spot : Int) :
    (dayRun g truth n).mass g spot = tipAft spot (g.Acts.zip truth) n - takAft spot (g.Acts.zip truth) n := by
  have I := day_inv f fit n hn
  have h10 := f.l10
  unfold DayS.mass
  rw [(mass_sum I.bd _ (by rw [I.len]; omega)).1, I.len]
  have hx : ∀ k, n + k ≤ g.Acts.length → sumL g.Acts (dayRun g truth n).left spot (n + k) = sumL g.Acts (dayRun g truth n).left spot n := by
    intro k
    induction k with
    | zero => intro _; rfl
    | succ k ih =>
      intro hk
      rw [← Nat.add_assoc, sumL, ih (by omega), I.zero (n + k) (by omega)]
      split <;> omega
  have := hx (g.Acts.length - n) (by omega)
  rw [show n + (g.Acts.length - n) = g.Acts.length by omega] at this
  rw [this, I.sum spot n (Nat.le_refl _)]
  have := fit spot n hn
  omega
theorem last_kind (spot : Int) (L : List Act) : ∀ n, (lastAft spot L n = -1 ∧ kndAft spot L n = 0) ∨ (0 ≤ lastAft spot L n ∧ lastAft spot L n < n ∧ kndAft spot L n = (L.getD (lastAft spot L n).toNat default).Kind)
  | 0 => .inl ⟨rfl, rfl⟩
  | n + 1 => by
    rw [lastAft, kndAft]
    by_cases c : (L.getD n default).Spot = spot ∧ (L.getD n default).Take = false
    · rw [if_pos c, if_pos c]
      right
      exact ⟨by omega, by omega, by simp⟩
    · rw [if_neg c, if_neg c]
      rcases last_kind spot L n with h | h
      · exact .inl h
      · exact .inr ⟨h.1, by omega, h.2.2⟩
theorem last_none {spot : Int} {L : List ActT} : ∀ {n}, lastAft spot (L.map (·.1)) n = -1 → tipAft spot L n = 0
  | 0, _ => rfl
  | n + 1, h => by
    rw [lastAft, map_getD] at h
    rw [tipAft]
    by_cases c : (L.getD n default).1.Spot = spot ∧ (L.getD n default).1.Take = false
    · rw [if_pos c] at h; omega
    · rw [if_neg c] at h ⊢
      rw [last_none h]; omega
end Go.Proofs.Swa

set_option linter.unusedVariables false
set_option linter.unusedSimpArgs false
namespace Go.Proofs.Swa
open Go
def distS (x y : Spo) : Int := w64 (max (w64 (x.X - y.X)) (w64 (y.X - x.X)) + max (w64 (x.Y - y.Y)) (w64 (y.Y - x.Y)))
def dist (g : Gnd) (a b : Nat) : Int := distS (g.Spots.getD a default) (g.Spots.getD b default)
def nearRow (g : Gnd) (b : Nat) : Nat → List Ent2
  | 0 => []
  | a + 1 => nearRow g b a ++ [(((a : Int), (b : Int)), dist g a b)]
def nearAll (g : Gnd) : Nat → List Ent2
  | 0 => []
  | b + 1 => nearAll g b ++ nearRow g b b
theorem findE_none {a b : Int} : ∀ {l : List Ent2} {i : Nat}, (∀ x, x ∈ l → ¬ (a = x.1.1 ∧ b = x.1.2)) → findE a b l i = none
  | [], _, _ => rfl
  | x :: l, i, h => by
    rw [findE, if_neg (h x (List.mem_cons_self ..))]
    exact findE_none fun y hy => h y (List.mem_cons_of_mem _ hy)
theorem nearRow_mem {g : Gnd} {b : Nat} : ∀ {a : Nat} {x : Ent2}, x ∈ nearRow g b a → x.1.2 = b ∧ x.1.1 < a
  | 0, x, h => by cases h
  | a + 1, x, h => by
    rcases List.mem_append.1 h with h | h
    · have := nearRow_mem h; exact ⟨this.1, by omega⟩
    · rw [List.mem_singleton.1 h]; exact ⟨rfl, by show (a : Int) < _; omega⟩
theorem nearAll_mem {g : Gnd} : ∀ {n : Nat} {x : Ent2}, x ∈ nearAll g n → x.1.2 < n
  | 0, x, h => by cases h
  | n + 1, x, h => by
    rcases List.mem_append.1 h with h | h
    · have := nearAll_mem h; omega
    · have := (nearRow_mem h).1; omega
theorem near_new {g : Gnd} {a b : Nat} : findE a b (nearAll g b ++ nearRow g b a) 0 = none := by
  refine findE_none fun x hx => ?_
  rintro ⟨h1, h2⟩
  rcases List.mem_append.1 hx with h | h
  · have := nearAll_mem h; omega
  · have := nearRow_mem h; omega
theorem nearRow_hit {g : Gnd} {a b : Nat} : ∀ {n i : Nat}, a < n → ∃ j, findE a b (nearRow g b n) i = some (j, iv (dist g a b))
  | 0, i, h => by omega
  | n + 1, i, h => by
    by_cases e : a < n
    · obtain ⟨j, hj⟩ := nearRow_hit (g := g) (b := b) (i := i) e
      exact ⟨j, findE_hit hj⟩
    · have e : a = n := by omega
      subst e
      refine ⟨i + (nearRow g b a).length, ?_⟩
      rw [nearRow, findE_app (findE_none fun x hx => by have := nearRow_mem hx; omega), findE, if_pos ⟨rfl, rfl⟩]
theorem near_hit {g : Gnd} {a b : Nat} (hab : a < b) : ∀ {n : Nat}, b < n → ∃ j, findE a b (nearAll g n) 0 = some (j, iv (dist g a b))
  | 0, h => by omega
  | n + 1, h => by
    by_cases e : b < n
    · obtain ⟨j, hj⟩ := near_hit hab e
      exact ⟨j, findE_hit hj⟩
    · have e : b = n := by omega
      subst e
      obtain ⟨j, hj⟩ := nearRow_hit (g := g) (b := b) (i := 0 + (nearAll g b).length) hab
      refine ⟨j, ?_⟩
      rw [nearAll, findE_app (findE_none fun x hx => by have := nearAll_mem hx; omega), hj]
def holdsP (g : Gnd) (spot kind : Nat) : Int := w64 ((w64 (w64 ((g.Sorts.getD kind default).High * (g.Sorts.getD kind default).Dense) * (g.Spots.getD spot default).Area)).tdiv 100)
def badOne (g : Gnd) (h : Hp) (kind : Int) (mass : Int) (a : Nat) : Bool :=
  (decide (0 < h.most (h.before g.Acts.length)) && decide ((h.before g.Acts.length).kind ≠ kind)) || decide (holdsP g a kind.toNat < w64 (h.most (h.before g.Acts.length) + mass))
def fireMax (g : Gnd) (s t : Int) : Int := max (g.Sorts.getD s.toNat default).Fire (g.Sorts.getD t.toNat default).Fire
def badTwo (g : Gnd) (o : Hp) (kind : Int) (a b : Nat) : Bool :=
  decide (b ≠ a) && decide (0 < o.most (o.before g.Acts.length)) && decide (dist g (min a b) (max a b) < fireMax g kind (o.before g.Acts.length).kind)
def roomOk (g : Gnd) (hs : List Hp) (kind mass : Int) (a : Nat) : Bool :=
  !badOne g (hs.getD a default) kind mass a && (List.range hs.length).all fun b => !badTwo g (hs.getD b default) kind a b
def roomGo (g : Gnd) (hs : List Hp) (kind mass : Int) (n : Nat) : List Int := ((List.range n).filter (roomOk g hs kind mass)).map fun i => ((i : Nat) : Int)
def roomE (g : Gnd) (hour kind mass : Int) : Int :=
  if check g ≠ 0 then check g else if inB hour 0 72 = true then
    if 0 < g.Acts.length ∧ hour < (g.Acts.getD (g.Acts.length - 1) default).Hour then 5
    else if inB kind 0 (w64 (g.Sorts.length - 1)) = true then if inB mass 1 1000000 = true then (known g).2 else 1 else 3
  else 1
def room (g : Gnd) (hour kind mass : Int) : List Int := if roomE g hour kind mass = 0 then roomGo g (known g).1 kind mass (known g).1.length else []
theorem roomGo_succ (g : Gnd) (hs : List Hp) (kind mass : Int) (n : Nat) : roomGo g hs kind mass (n + 1) = roomGo g hs kind mass n ++ if roomOk g hs kind mass n = true then [(n : Int)] else [] := by
  unfold roomGo
  rw [List.range_succ, List.filter_append, List.map_append]
  congr 1
  by_cases h : roomOk g hs kind mass n = true
  · rw [if_pos h]; simp [List.filter, h]
  · rw [if_neg h]
    have : roomOk g hs kind mass n = false := by simpa using h
    simp [List.filter, this]
theorem prU_kind (spot : Int) (L : List Act) : ∀ u, u ≤ L.length → (prU spot L u).m.kind = kndAft spot L u
  | 0, _ => rfl
  | u + 1, h => by
    have ih := prU_kind spot L u (by omega)
    rw [prU_succ spot (by omega), kndAft]
    by_cases c : (L.getD u default).Spot = spot
    · rw [if_pos c]
      by_cases t : (L.getD u default).Take = true
      · rw [Pst.step_take t, if_neg (fun q => by rw [t] at q; cases q.2)]; exact ih
      · rw [Pst.step_tip t, if_pos ⟨c, by simpa using t⟩]
    · rw [if_neg c, if_neg (fun q => c q.1)]; exact ih
theorem before_kind (g : Gnd) (spot : Int) {u : Nat} (hu : u ≤ g.Acts.length) : ((pile g spot).1.before u).kind = kndAft spot g.Acts u := by
  rw [pile_before g spot hu]; exact prU_kind spot g.Acts u hu
theorem inB_elim {n a b : Int} (h : inB n a b = true) : a ≤ n ∧ n ≤ b := of_decide_eq_true h
theorem checkAct_mk {g : Gnd} {last : Int} {a : Act} (h : checkAct g last a = 0) (hs : g.Spots.length ≤ 4) (hq : g.Sorts.length ≤ 4) : ActOk g.Spots.length g.Sorts.length last a := by
  have e1 : w64 ((g.Spots.length : Int) - 1) = g.Spots.length - 1 := w64_id (by omega) (by omega)
  have e2 : w64 ((g.Sorts.length : Int) - 1) = g.Sorts.length - 1 := w64_id (by omega) (by omega)
  unfold checkAct at h
  rw [e1, e2] at h
  by_cases c1 : inB a.Hour 0 72 = true
  · rw [if_neg (by simp [c1])] at h
    by_cases c2 : a.Hour < last
    · rw [if_pos c2] at h; cases h
    · rw [if_neg c2] at h
      by_cases c3 : inB a.Spot 0 (g.Spots.length - 1) = true ∧ inB a.Kind 0 (g.Sorts.length - 1) = true
      · rw [if_neg (by simp [c3])] at h
        by_cases c4 : (a.Take && decide (a.Kind ≠ 0)) = true
        · rw [if_pos c4] at h; cases h
        · rw [if_neg c4] at h
          by_cases c5 : inB a.Min 1 1000000 = true ∧ inB a.Max 1 1000000 = true
          · rw [if_neg (by simp [c5])] at h
            by_cases c6 : a.Max < a.Min
            · rw [if_pos c6] at h; cases h
            · have b1 := inB_elim c1
              have b2 := inB_elim c3.1
              have b3 := inB_elim c3.2
              have b4 := inB_elim c5.1
              have b5 := inB_elim c5.2
              refine ⟨⟨b1.1, b1.2, by omega⟩, ⟨b2.1, by omega⟩, ⟨b3.1, by omega⟩, fun ht => ?_, ⟨b4.1, by omega, b5.2⟩⟩
              rw [ht] at c4
              simpa using c4
          · rw [if_pos (by simp only [Bool.or_eq_true, Bool.not_eq_true']; rcases Decidable.not_and_iff_or_not.1 c5 with q | q <;> simp [q])] at h
            cases h
      · rw [if_pos (by simp only [Bool.or_eq_true, Bool.not_eq_true']; rcases Decidable.not_and_iff_or_not.1 c3 with q | q <;> simp [q])] at h
        cases h
  · rw [if_pos (by simp [c1])] at h; cases h
theorem checkActs_at {g : Gnd} (hs : g.Spots.length ≤ 4) (hq : g.Sorts.length ≤ 4) : ∀ (l : List Act) (h : Int), checkActs g h l = 0 → ∀ u, u < l.length → ∃ last, ActOk g.Spots.length g.Sorts.length last (l.getD u default)
  | [], _, _, u, hu => by simp at hu
  | a :: l, h, k, u, hu => by
    rw [checkActs] at k
    by_cases c : checkAct g h a ≠ 0
    · rw [if_pos c] at k; exact absurd k c
    · rw [if_neg c] at k
      cases u with
      | zero => exact ⟨h, checkAct_mk (Decidable.not_not.1 c) hs hq⟩
      | succ u =>
        have hu : u < l.length := by simpa using hu
        exact checkActs_at hs hq l a.Hour k u hu
theorem Ok.at {g : Gnd} (h : Ok g) {u : Nat} (hu : u < g.Acts.length) : ∃ last, ActOk g.Spots.length g.Sorts.length last (g.Acts.getD u default) :=
  checkActs_at h.spots.2 h.sorts.2 g.Acts 0 h.act u hu
theorem Ok.kind {g : Gnd} (h : Ok g) (spot : Int) : ∀ u, u ≤ g.Acts.length → 0 ≤ kndAft spot g.Acts u ∧ kndAft spot g.Acts u < g.Sorts.length
  | 0, _ => ⟨Int.le_refl _, by show (0 : Int) < _; have := h.sorts; omega⟩
  | u + 1, hu => by
    rw [kndAft]
    split
    · obtain ⟨_, a⟩ := h.at (u := u) (by omega)
      exact ⟨a.k.1, a.k.2⟩
    · exact h.kind spot u (by omega)
theorem knownGo_at {g : Gnd} : ∀ (n i : Nat) (acc : List Hp), (∀ j, j < acc.length → acc.getD j default = (pile g (j : Nat)).1) → acc.length = i → ∀ j, j < (knownGo g i n acc).1.length → (knownGo g i n acc).1.getD j default = (pile g (j : Nat)).1
  | 0, i, acc, h, _ => h
  | n + 1, i, acc, h, hi => by
    rw [knownGo]
    split
    · refine knownGo_at n (i + 1) _ (fun j hj => ?_) (by simp [hi])
      by_cases e : j < acc.length
      · rw [getD_appL e]; exact h j e
      · have e : j = acc.length := by simp at hj; omega
        subst e
        rw [getD_appR, hi]
    · exact h
theorem known_at {g : Gnd} {j : Nat} (hj : j < (known g).1.length) : (known g).1.getD j default = (pile g (j : Nat)).1 := knownGo_at g.Spots.length 0 [] (fun j hj => by cases hj) rfl j hj
theorem known_kind {g : Gnd} (h : Ok g) {j : Nat} (hj : j < (known g).1.length) {u : Nat} (hu : u ≤ g.Acts.length) : 0 ≤ (((known g).1.getD j default).before u).kind ∧ (((known g).1.getD j default).before u).kind < g.Sorts.length := by
  rw [known_at hj, before_kind g j hu]
  exact h.kind _ u hu
end Go.Proofs.Swa

