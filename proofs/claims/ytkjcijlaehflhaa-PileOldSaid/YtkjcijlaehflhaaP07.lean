/- Part 7 of a proof. -/
import Derived.Test.YtkjcijlaehflhaaP06
set_option linter.unusedVariables false
set_option linter.unusedSimpArgs false
namespace Go.Proofs.Swa
open Go
theorem either_mem (x : Int) {l : List Int} (h : 0 < l.length) (h2 : l.length < 1000000) : either x l ∈ l := by
  unfold either
  rw [if_neg (by omega)]
  have b := below_spec x l.length (by omega)
  have b1 := b.2.1 (by omega)
  have hlt : (below x l.length).toNat < l.length := by have := b.1; omega
  rw [List.getD, List.getElem?_eq_getElem hlt]
  exact List.getElem_mem hlt
theorem inB_mk {n a b : Int} (h1 : a ≤ n) (h2 : n ≤ b) : inB n a b = true := decide_eq_true ⟨h1, h2⟩
theorem mkSpo_ok (x : Int) : okSpo (mkSpo x).1 = true := by
  have a := below_spec x 8 (by omega)
  have b := below_spec (belowS x 8) 4 (by omega)
  have c := btw_spec (x := belowS (belowS x 8) 4) (lo := 1) (hi := 4) (by omega) (by omega) (by omega)
  have a2 := a.2.1 (by omega)
  have b2 := b.2.1 (by omega)
  unfold okSpo mkSpo
  dsimp only
  rw [inB_mk a.1 (by omega), inB_mk b.1 (by omega), inB_mk c.1 (by omega)]
  rfl
theorem goSpo_ok : ∀ (n : Nat) (x : Int) (l : List Spo), (∀ s, s ∈ l → okSpo s = true) → ∀ s, s ∈ (goSpo n x l).1 → okSpo s = true
  | 0, x, l, h => h
  | n + 1, x, l, h => by
    rw [goSpo]
    refine goSpo_ok n _ _ fun s hs => ?_
    rcases List.mem_append.1 hs with hs | hs
    · exact h s hs
    · rw [List.mem_singleton.1 hs]; exact mkSpo_ok x
theorem okSrt_mk {r : Srt} (h1 : 1 ≤ r.High ∧ r.High ≤ 1000) (h2 : 1 ≤ r.Dense ∧ r.Dense ≤ 8000) (h3 : 0 ≤ r.Fire ∧ r.Fire ≤ 100) (h4 : 0 ≤ r.Age ∧ r.Age ≤ 72) : okSrt r = true := by
  unfold okSrt
  rw [inB_mk h1.1 h1.2, inB_mk h2.1 h2.2, inB_mk h3.1 h3.2, inB_mk h4.1 h4.2]
  rfl
theorem either2 (x a b : Int) : either x [a, b] = a ∨ either x [a, b] = b := by
  have := either_mem x (l := [a, b]) (by simp) (by simp)
  simpa using this
theorem srt_high (mass x y : Int) (h1 : 1 ≤ mass ∧ mass ≤ 10000) : 1 ≤ either y [100, min 1000 (w64 (btw x 1 100 * max 1 (w64 (mass.tdiv 20))))] ∧ either y [100, min 1000 (w64 (btw x 1 100 * max 1 (w64 (mass.tdiv 20))))] ≤ 1000 := by
  have bt := btw_spec (x := x) (lo := 1) (hi := 100) (by omega) (by omega) (by omega)
  have td0 : 0 ≤ mass.tdiv 20 := Int.tdiv_nonneg (by omega) (by omega)
  have td1 : mass.tdiv 20 ≤ mass := Int.tdiv_le_self _ (by omega)
  rw [w64_id (x := mass.tdiv 20) (by omega) (by omega)]
  have hm : 1 ≤ max 1 (mass.tdiv 20) ∧ max 1 (mass.tdiv 20) ≤ 10000 := by omega
  generalize max 1 (mass.tdiv 20) = d at hm
  generalize btw x 1 100 = c at bt
  have p1 : 1 * 1 ≤ c * d := Int.mul_le_mul bt.1 hm.1 (by omega) (by omega)
  have p2 : c * d ≤ 100 * 10000 := Int.mul_le_mul bt.2 hm.2 (by omega) (by omega)
  rw [w64_id (x := c * d) (by omega) (by omega)]
  generalize c * d = pr at p1 p2
  rcases either2 y 100 (min 1000 pr) with e | e <;> rw [e] <;> omega
theorem srt_dense (y : Int) : 1 ≤ either y [1, 2, 50, 100] ∧ either y [1, 2, 50, 100] ≤ 8000 := by
  have b := either_mem y (l := [1, 2, 50, 100]) (by simp) (by simp)
  generalize either y [1, 2, 50, 100] = de at b
  simp only [List.mem_cons, List.not_mem_nil, or_false] at b
  omega
theorem srt_fire (y x : Int) : 0 ≤ either y [0, below x 6] ∧ either y [0, below x 6] ≤ 100 := by
  have c0 := below_spec x 6 (by omega)
  have c1 := c0.2.1 (by omega)
  rcases either2 y 0 (below x 6) with e | e <;> rw [e] <;> omega
theorem srt_age (y x hours : Int) (h : 0 ≤ hours ∧ hours ≤ 72) : 0 ≤ either y [72, below x (w64 (hours + 1))] ∧ either y [72, below x (w64 (hours + 1))] ≤ 72 := by
  rw [w64_id (x := hours + 1) (by omega) (by omega)]
  have c0 := below_spec x (hours + 1) (by omega)
  have c1 := c0.2.1 (by omega)
  rcases either2 y 72 (below x (hours + 1)) with e | e <;> rw [e] <;> omega
theorem mkSrt_ok (mass hours x : Int) (h1 : 1 ≤ mass ∧ mass ≤ 10000) (h2 : 0 ≤ hours ∧ hours ≤ 72) : okSrt (mkSrt mass hours x).1 = true :=
  okSrt_mk (srt_high mass x _ h1) (srt_dense _) (srt_fire _ _) (srt_age _ _ hours h2)
theorem goSrt_ok (mass hours : Int) (h1 : 1 ≤ mass ∧ mass ≤ 10000) (h2 : 0 ≤ hours ∧ hours ≤ 72) : ∀ (n : Nat) (x : Int) (l : List Srt), (∀ s, s ∈ l → okSrt s = true) → ∀ s, s ∈ (goSrt mass hours n x l).1 → okSrt s = true
  | 0, x, l, h => h
  | n + 1, x, l, h => by
    rw [goSrt]
    refine goSrt_ok mass hours h1 h2 n _ _ fun s hs => ?_
    rcases List.mem_append.1 hs with hs | hs
    · exact h s hs
    · rw [List.mem_singleton.1 hs]; exact mkSrt_ok mass hours x h1 h2
theorem goSpo_length : ∀ (n : Nat) (x : Int) (l : List Spo), (goSpo n x l).1.length = l.length + n
  | 0, x, l => rfl
  | n + 1, x, l => by rw [goSpo, goSpo_length n, List.length_append, List.length_singleton]; omega
theorem goSrt_length {m h : Int} : ∀ (n : Nat) (x : Int) (l : List Srt), (goSrt m h n x l).1.length = l.length + n
  | 0, x, l => rfl
  | n + 1, x, l => by rw [goSrt, goSrt_length n, List.length_append, List.length_singleton]; omega
def lieAft (spot : Int) : Int → List (Act × Int) → Int
  | lie, [] => lie
  | lie, (a, t) :: l => if a.Spot = spot then (if a.Take = true then lieAft spot (lie - t) l else lieAft spot (lie + t) l) else lieAft spot lie l
theorem lieAft_snoc (spot : Int) (a : Act) (t : Int) : ∀ (l : List (Act × Int)) (lie : Int), lieAft spot lie (l ++ [(a, t)]) = if a.Spot = spot then (if a.Take = true then lieAft spot lie l - t else lieAft spot lie l + t) else lieAft spot lie l
  | [], lie => rfl
  | (b, u) :: l, lie => by
    simp only [List.cons_append, lieAft]
    rw [lieAft_snoc spot a t l, lieAft_snoc spot a t l, lieAft_snoc spot a t l]
    by_cases h1 : b.Spot = spot
    · by_cases h2 : b.Take = true
      · simp only [if_pos h1, if_pos h2]
      · simp only [if_pos h1, if_neg h2]
    · simp only [if_neg h1]
theorem Fits_snoc (spot : Int) (a : Act) (t : Int) (h : a.Spot = spot → (1 ≤ a.Min ∧ a.Min ≤ t ∧ t ≤ a.Max ∧ a.Max ≤ 1000000)) : ∀ (l : List (Act × Int)) (lie : Int), Fits spot lie l → (a.Spot = spot → a.Take = true → t ≤ lieAft spot lie l) → Fits spot lie (l ++ [(a, t)])
  | [], lie, _, k => by
    show Fits spot lie [(a, t)]
    rw [Fits]
    by_cases h1 : a.Spot = spot
    · rw [if_pos h1]
      refine ⟨h h1, ?_⟩
      by_cases h2 : a.Take = true
      · rw [if_pos h2]; exact ⟨k h1 h2, trivial⟩
      · rw [if_neg h2]; trivial
    · rw [if_neg h1]; trivial
  | (b, u) :: l, lie, f, k => by
    rw [List.cons_append, Fits]
    rw [Fits] at f
    rw [lieAft] at k
    by_cases h1 : b.Spot = spot
    · rw [if_pos h1] at f k ⊢
      refine ⟨f.1, ?_⟩
      by_cases h2 : b.Take = true
      · rw [if_pos h2] at k ⊢
        have f2 := f.2
        rw [if_pos h2] at f2
        exact ⟨f2.1, Fits_snoc spot a t h l _ f2.2 k⟩
      · rw [if_neg h2] at k ⊢
        have f2 := f.2
        rw [if_neg h2] at f2
        exact Fits_snoc spot a t h l _ f2 k
    · rw [if_neg h1] at f k ⊢
      exact Fits_snoc spot a t h l _ f k
def lastH : Int → List Act → Int
  | h, [] => h
  | _, a :: l => lastH a.Hour l
theorem checkActs_snoc (g : Gnd) (a : Act) : ∀ (l : List Act) (h : Int), checkActs g h l = 0 → checkAct g (lastH h l) a = 0 → checkActs g h (l ++ [a]) = 0
  | [], h, _, k => by
    show checkActs g h [a] = 0
    rw [checkActs, if_neg (by rw [lastH] at k; rw [k]; simp)]
    rfl
  | b :: l, h, f, k => by
    rw [List.cons_append, checkActs]
    rw [checkActs] at f
    by_cases c : checkAct g h b ≠ 0
    · rw [if_pos c] at f; exact absurd f c
    · rw [if_neg c] at f ⊢
      exact checkActs_snoc g a l b.Hour f k
theorem lastH_snoc (a : Act) : ∀ (l : List Act) (h : Int), lastH h (l ++ [a]) = a.Hour
  | [], h => rfl
  | b :: l, h => lastH_snoc a l b.Hour
structure ActOk (spots sorts : Nat) (last : Int) (a : Act) : Prop where
  h : 0 ≤ a.Hour ∧ a.Hour ≤ 72 ∧ last ≤ a.Hour
  s : 0 ≤ a.Spot ∧ a.Spot < spots
  k : 0 ≤ a.Kind ∧ a.Kind < sorts
  t : a.Take = true → a.Kind = 0
  m : 1 ≤ a.Min ∧ a.Min ≤ a.Max ∧ a.Max ≤ 1000000
theorem checkAct_ok {g : Gnd} {last : Int} {a : Act} (hs : g.Spots.length ≤ 4) (hq : g.Sorts.length ≤ 4) (h : ActOk g.Spots.length g.Sorts.length last a) : checkAct g last a = 0 := by
  obtain ⟨h1, h2, h3, h4, h5⟩ := h
  have e1 : w64 ((g.Spots.length : Int) - 1) = g.Spots.length - 1 := w64_id (by omega) (by omega)
  have e2 : w64 ((g.Sorts.length : Int) - 1) = g.Sorts.length - 1 := w64_id (by omega) (by omega)
  unfold checkAct
  rw [e1, e2, inB_mk h1.1 h1.2.1, inB_mk (n := a.Spot) h2.1 (by omega), inB_mk (n := a.Kind) h3.1 (by omega), inB_mk (n := a.Min) h5.1 (by omega), inB_mk (n := a.Max) (by omega) h5.2.2]
  have ht : (a.Take && decide (a.Kind ≠ 0)) = false := by
    cases hta : a.Take with
    | false => rfl
    | true => simp [h4 hta]
  simp only [Bool.not_true, Bool.false_eq_true, if_false, Bool.or_self, ht]
  rw [if_neg (by omega), if_neg (by omega)]
structure GInv (spots sorts : Nat) (mass : Int) (s : Gst) (k : Nat) : Prop where
  hour : 0 ≤ s.hour ∧ s.hour ≤ 72
  lies : s.lies.length = spots
  lie : ∀ j, j < spots → 0 ≤ s.lies.getD j 0 ∧ s.lies.getD j 0 ≤ k * mass
  len : s.acts.length = k ∧ s.truth.length = k
  last : lastH 0 s.acts ≤ s.hour
  chk : ∀ g : Gnd, g.Spots.length = spots → g.Sorts.length = sorts → checkActs g 0 s.acts = 0
  pos : ∀ a, a ∈ s.acts → 0 ≤ a.Hour
  fits : ∀ j : Nat, j < spots → Fits j 0 (s.acts.zip s.truth) ∧ lieAft j 0 (s.acts.zip s.truth) = s.lies.getD j 0
theorem spread_ok (mass n x : Int) (h1 : 1 ≤ mass ∧ mass ≤ 10000) (h2 : 1 ≤ n ∧ n ≤ 200000) : 1 ≤ (spread mass n x).1.Min ∧ (spread mass n x).1.Min ≤ n ∧ n ≤ (spread mass n x).1.Max ∧ (spread mass n x).1.Max ≤ 1000000 := by
  have td0 : 0 ≤ mass.tdiv 3 := Int.tdiv_nonneg (by omega) (by omega)
  have td1 : mass.tdiv 3 ≤ mass := Int.tdiv_le_self _ (by omega)
  have e1 : w64 (mass.tdiv 3) = mass.tdiv 3 := w64_id (by omega) (by omega)
  unfold spread
  dsimp only
  rw [e1]
  have hm : 2 ≤ max 2 (mass.tdiv 3) ∧ max 2 (mass.tdiv 3) ≤ 10000 := by omega
  generalize max 2 (mass.tdiv 3) = m at hm
  have a0 := below_spec x m (by omega)
  have a1 := a0.2.1 (by omega)
  have a := either_mem (belowS x m) (l := [0, below x m]) (by simp) (by simp)
  generalize either (belowS x m) [0, below x m] = p at a
  generalize eitherS (belowS x m) [0, below x m] = x2
  have b0 := below_spec x2 m (by omega)
  have b1 := b0.2.1 (by omega)
  have b := either_mem (belowS x2 m) (l := [0, below x2 m]) (by simp) (by simp)
  generalize either (belowS x2 m) [0, below x2 m] = q at b
  simp only [List.mem_cons, List.not_mem_nil, or_false] at a b
  rw [w64_id (x := n - p) (by omega) (by omega), w64_id (x := n + q) (by omega) (by omega)]
  omega
theorem zip_snoc {α β : Type} {a : List α} {b : List β} (h : a.length = b.length) (x : α) (y : β) : (a ++ [x]).zip (b ++ [y]) = a.zip b ++ [(x, y)] := by
  rw [List.zip_append h]; rfl
theorem GInv.push {spots sorts : Nat} {mass : Int} {s : Gst} {k : Nat} (h : GInv spots sorts mass s k) (hs : spots ≤ 4) (hq : sorts ≤ 4) (hm : 1 ≤ mass) {a : Act} {t lie x : Int} {p : Nat} (hp : p < spots) (hps : a.Spot = p)
    (ha : ActOk spots sorts s.hour a) (hb : a.Min ≤ t ∧ t ≤ a.Max) (htk : a.Take = true → t ≤ s.lies.getD p 0) (hl : lie = if a.Take = true then s.lies.getD p 0 - t else s.lies.getD p 0 + t) (hl0 : 0 ≤ lie) (hl1 : lie ≤ (k + 1 : Nat) * mass) :
    GInv spots sorts mass ⟨x, a.Hour, s.lies.set p lie, s.acts ++ [a], s.truth ++ [t]⟩ (k + 1) := by
  have hll := h.lies
  have hlen := h.len
  have hx := ha.m
  refine ⟨⟨ha.h.1, ha.h.2.1⟩, by simp [hll], fun j hj => ?_, by simp [hlen.1, hlen.2], ?_, fun g h1 h2 => ?_, fun b hb' => ?_, fun j hj => ?_⟩
  · dsimp only
    rw [getD_set]
    split
    · exact ⟨hl0, hl1⟩
    · have := h.lie j hj
      have e : ((k + 1 : Nat) : Int) * mass = k * mass + mass := by rw [Int.natCast_add, Int.add_mul]; simp
      rw [e]; omega
  · dsimp only
    rw [lastH_snoc]; exact Int.le_refl _
  · dsimp only
    refine checkActs_snoc g a s.acts 0 (h.chk g h1 h2) (checkAct_ok (by omega) (by omega) ?_)
    rw [h1, h2]
    have := h.last
    exact ⟨⟨ha.h.1, ha.h.2.1, by have := ha.h.2.2; omega⟩, ha.s, ha.k, ha.t, ha.m⟩
  · rcases List.mem_append.1 hb' with hb' | hb'
    · exact h.pos b hb'
    · rw [List.mem_singleton.1 hb']; exact ha.h.1
  · dsimp only
    rw [zip_snoc (by rw [hlen.1, hlen.2]), lieAft_snoc, getD_set]
    obtain ⟨f1, f2⟩ := h.fits j hj
    refine ⟨Fits_snoc (j : Int) a t (fun _ => ⟨hx.1, hb.1, hb.2, hx.2.2⟩) _ _ f1 fun e1 e2 => ?_, ?_⟩
    · rw [f2]
      have : p = j := by omega
      rw [← this]; exact htk e2
    · rw [f2]
      by_cases e : p = j
      · subst e
        rw [if_pos hps, if_pos (show p = p ∧ p < s.lies.length from ⟨rfl, by omega⟩), hl]
      · rw [if_neg (by omega), if_neg (by omega)]
theorem GInv.step {spots sorts : Nat} {mass hours : Int} {s : Gst} {k : Nat} (h : GInv spots sorts mass s k) (hs : 1 ≤ spots ∧ spots ≤ 4) (hq : 1 ≤ sorts ∧ sorts ≤ 4) (hm : 1 ≤ mass ∧ mass ≤ 10000) (hh : 0 ≤ hours ∧ hours ≤ 72) (hk : k < 10) (hsh : s.hour ≤ hours) :
    GInv spots sorts mass (s.step spots sorts mass hours) (k + 1) ∧ (s.step spots sorts mass hours).hour ≤ hours := by
  have hhr := h.hour
  have e4 := below_spec s.x 4 (by omega)
  have e4' := e4.2.1 (by omega)
  have eh := either_mem (belowS s.x 4) (l := [0, 1, below s.x 4]) (by simp) (by simp)
  simp only [List.mem_cons, List.not_mem_nil, or_false] at eh
  unfold Gst.step
  dsimp only
  generalize either (belowS s.x 4) [0, 1, below s.x 4] = dh at eh
  generalize eitherS (belowS s.x 4) [0, 1, below s.x 4] = x2
  rw [w64_id (x := s.hour + dh) (by omega) (by omega)]
  have hho : 0 ≤ min 72 (min hours (s.hour + dh)) ∧ min 72 (min hours (s.hour + dh)) ≤ 72 ∧ s.hour ≤ min 72 (min hours (s.hour + dh)) ∧ min 72 (min hours (s.hour + dh)) ≤ hours := by omega
  generalize min 72 (min hours (s.hour + dh)) = ho at hho
  have sp0 := below_spec x2 spots (by omega)
  have sp1 := sp0.2.1 (by omega)
  obtain ⟨p, ep⟩ : ∃ p : Nat, (p : Int) = below x2 spots := ⟨(below x2 spots).toNat, by have := sp0.1; omega⟩
  rw [← ep] at sp0 sp1 ⊢
  rw [Int.toNat_natCast]
  have hp : p < spots := by omega
  generalize belowS x2 (spots : Int) = x3
  have ki0 := below_spec x3 sorts (by omega)
  have ki1 := ki0.2.1 (by omega)
  generalize below x3 (sorts : Int) = kind at ki0 ki1
  generalize belowS x3 (sorts : Int) = x4
  have nb := btw_spec (x := x4) (lo := 1) (hi := mass) (by omega) (by omega) (by omega)
  generalize btw x4 1 mass = n at nb
  generalize btwS x4 1 mass = x5
  have hli := h.lie p hp
  have hb1 : (k : Int) * mass ≤ 9 * 10000 := Int.mul_le_mul (show (k : Int) ≤ 9 by omega) hm.2 (by omega) (by omega)
  have e : ((k + 1 : Nat) : Int) * mass = k * mass + mass := by rw [Int.natCast_add, Int.add_mul]; simp
  obtain ⟨lie, el⟩ : ∃ lie, lie = s.lies.getD p 0 := ⟨_, rfl⟩
  rw [← el] at hli ⊢
  by_cases c : 0 < lie ∧ below x5 5 < 2
  · rw [if_pos c, if_pos c.1]
    generalize belowS x5 5 = x6
    have kb := btw_spec (x := x6) (lo := 1) (hi := lie) (by omega) (by omega) (by omega)
    have km := either_mem (btwS x6 1 lie) (l := [lie, btw x6 1 lie]) (by simp) (by simp)
    generalize eitherS (btwS x6 1 lie) [lie, btw x6 1 lie] = x8
    generalize either (btwS x6 1 lie) [lie, btw x6 1 lie] = q at km
    simp only [List.mem_cons, List.not_mem_nil, or_false] at km
    have so := spread_ok mass q x8 hm (by omega)
    generalize spread mass q x8 = r at so
    rw [w64_id (x := lie - q) (by omega) (by omega)]
    refine ⟨h.push hs.2 hq.2 hm.1 (a := ⟨ho, p, 0, r.1.Min, r.1.Max, true⟩) hp rfl ⟨⟨hho.1, hho.2.1, hho.2.2.1⟩, ⟨by show (0 : Int) ≤ p; omega, sp1⟩, ⟨Int.le_refl _, by show (0 : Int) < sorts; omega⟩, fun _ => rfl, ⟨so.1, by show r.1.Min ≤ r.1.Max; omega, so.2.2.2⟩⟩ ⟨so.2.1, so.2.2.1⟩ (fun _ => by rw [← el]; omega) (by rw [if_pos rfl, ← el]) (by omega) (by rw [e]; omega), hho.2.2.2⟩
  · rw [if_neg c]
    generalize (if 0 < lie then belowS x5 5 else x5) = x6
    have so := spread_ok mass n x6 hm (by omega)
    generalize spread mass n x6 = r at so
    rw [w64_id (x := lie + n) (by omega) (by omega)]
    refine ⟨h.push hs.2 hq.2 hm.1 (a := ⟨ho, p, kind, r.1.Min, r.1.Max, false⟩) hp rfl ⟨⟨hho.1, hho.2.1, hho.2.2.1⟩, ⟨by show (0 : Int) ≤ p; omega, sp1⟩, ⟨ki0.1, ki1⟩, (fun hh => by cases hh), ⟨so.1, by show r.1.Min ≤ r.1.Max; omega, so.2.2.2⟩⟩ ⟨so.2.1, so.2.2.1⟩ (fun hh => by cases hh) (by rw [if_neg (by simp), ← el]) (by omega) (by rw [e]; omega), hho.2.2.2⟩
theorem GInv.run {spots sorts : Nat} {mass hours : Int} (hs : 1 ≤ spots ∧ spots ≤ 4) (hq : 1 ≤ sorts ∧ sorts ≤ 4) (hm : 1 ≤ mass ∧ mass ≤ 10000) (hh : 0 ≤ hours ∧ hours ≤ 72) : ∀ (n : Nat) (s : Gst) (k : Nat), GInv spots sorts mass s k → s.hour ≤ hours → k + n ≤ 10 →
    GInv spots sorts mass (Gst.run spots sorts mass hours n s) (k + n)
  | 0, s, k, h, _, _ => h
  | n + 1, s, k, h, h1, h2 => by
    rw [Gst.run, show k + (n + 1) = k + 1 + n by omega]
    obtain ⟨a, b⟩ := h.step hs hq hm hh (by omega) h1
    exact GInv.run hs hq hm hh n _ (k + 1) a b (by omega)
theorem ground_fair {x spots sorts acts mass hours : Int} (q1 : 1 ≤ spots ∧ spots ≤ 4) (q2 : 1 ≤ sorts ∧ sorts ≤ 4) (q3 : 0 ≤ acts ∧ acts ≤ 10) (q4 : 1 ≤ mass ∧ mass ≤ 10000) (q5 : 0 ≤ hours ∧ hours ≤ 72) :
    let M := groundOf x spots sorts acts mass hours
    Fair M.g ∧ M.g.Spots.length ≤ 4 ∧ M.g.Sorts.length ≤ 4 ∧ M.g.Acts.length ≤ 10 ∧ M.truth.length = M.g.Acts.length ∧ ∀ j : Nat, j < M.g.Spots.length → Fits j 0 (M.g.Acts.zip M.truth) := by
  have w1 := btw_spec (x := x) (lo := 1) (hi := spots) (by omega) (by omega) (by omega)
  unfold groundOf
  dsimp only
  have ok1 := goSpo_ok (btw x 1 spots).toNat (btwS x 1 spots) [] (by simp)
  have ln1 := goSpo_length (btw x 1 spots).toNat (btwS x 1 spots) []
  generalize goSpo (btw x 1 spots).toNat (btwS x 1 spots) [] = a at ok1 ln1
  have w2 := btw_spec (x := a.2) (lo := 1) (hi := sorts) (by omega) (by omega) (by omega)
  have ok2 := goSrt_ok mass hours q4 q5 (btw a.2 1 sorts).toNat (btwS a.2 1 sorts) [] (by simp)
  have ln2 := goSrt_length (m := mass) (h := hours) (btw a.2 1 sorts).toNat (btwS a.2 1 sorts) []
  generalize goSrt mass hours (btw a.2 1 sorts).toNat (btwS a.2 1 sorts) [] = b at ok2 ln2
  rw [w64_id (x := acts + 1) (by omega) (by omega)]
  have w3 := below_spec b.2 (acts + 1) (by omega)
  have w3' := w3.2.1 (by omega)
  simp only [List.length_nil, Nat.zero_add] at ln1 ln2
  have start : GInv a.1.length b.1.length mass ⟨belowS b.2 (acts + 1), 0, List.replicate a.1.length 0, [], []⟩ 0 := by
    refine ⟨⟨Int.le_refl _, by show (0 : Int) ≤ 72; omega⟩, by simp, fun j hj => ?_, ⟨rfl, rfl⟩, Int.le_refl _, fun _ _ _ => rfl, (fun a ha => by cases ha), fun j hj => ⟨trivial, ?_⟩⟩
    · have : (List.replicate a.1.length (0 : Int)).getD j 0 = 0 := by simp [List.getD, hj]
      dsimp only
      rw [this]; exact ⟨Int.le_refl _, by simp⟩
    · have : (List.replicate a.1.length (0 : Int)).getD j 0 = 0 := by simp [List.getD, hj]
      dsimp only
      rw [this]
      try rfl
  have inv := GInv.run (by omega) (by omega) q4 q5 (below b.2 (acts + 1)).toNat _ 0 start q5.1 (by omega)
  generalize Gst.run a.1.length b.1.length mass hours (below b.2 (acts + 1)).toNat ⟨belowS b.2 (acts + 1), 0, List.replicate a.1.length 0, [], []⟩ = st at inv
  have la := inv.len
  have hck : check ⟨a.1, b.1, st.acts⟩ = 0 := by
    unfold check
    have m1 : many (a.1.length : Nat) 4 = 0 := by unfold many; rw [if_neg (by omega), if_neg (by omega)]
    have m2 : many (b.1.length : Nat) 4 = 0 := by unfold many; rw [if_neg (by omega), if_neg (by omega)]
    dsimp only
    rw [if_neg (by rw [m1]; simp), if_pos (List.all_eq_true.2 ok1)]
    unfold check2
    dsimp only
    rw [if_neg (by rw [m2]; simp), if_pos (List.all_eq_true.2 ok2)]
    unfold check3
    dsimp only
    rw [if_neg (by omega)]
    exact inv.chk _ rfl rfl
  have fi := fun j hj => (inv.fits j hj).1
  refine ⟨⟨hck, fun j hj => ?_, inv.pos⟩, by omega, by omega, by omega, by omega, fi⟩
  exact pile_ok (g := ⟨a.1, b.1, st.acts⟩) (truth := st.truth) (by dsimp only; omega) (by dsimp only; omega) (fi j hj)
end Go.Proofs.Swa

set_option maxRecDepth 20000
set_option linter.unusedVariables false
set_option linter.unusedSimpArgs false
namespace Go.Proofs.Swa
open Go
abbrev C5 : CallRel := Cl Try.prog (OrC Try.prog) 0
attribute [local congr] WO_congr oV_congr oB_congr oH_congr WD_congr oblO_congr oblA_congr oblR_congr
theorem f53 (a b c : Int) (H : AHeap) : ∃ v H', C5 (.fn 53) #[iv a, iv b, iv c] H v H' ∧ v = .bool (decide (b ≤ a ∧ a ≤ c)) ∧ H' = H := by
  refine Cl.ofW Try.func53 rfl (by kernel_rfl) (by rw [Try.ntmps53]; exact Nat.le_of_ble_eq_true rfl) (by kernel_rfl) ?_
  have hEg : True := trivial
  refine gcW [0, 1, 2] ?_
  intro eg hEn
  simp only [forallC, forallL, and_true] at hEn
  try simp only [↓pb, qb, tb53, hEg, sp, Int.reduceToNat, Nat.reduceAdd, Nat.reduceMul, Nat.reduceEqDiff, reduceIte, reduceCtorEq, Nat.reduceLT] at hEn
  replace hEg := hEn; clear hEn
  repeat' (first | ((with_reducible refine hK _ _ fun e2 hEn => ?_); clear hK K; simp only [lv53, forallC, forallL, and_true] at hEn; (try simp only [↓pb, qb, tb53, hEg, sp, Int.reduceToNat, Nat.reduceAdd, Nat.reduceMul, Nat.reduceEqDiff, reduceIte, reduceCtorEq, Nat.reduceLT] at hEn); clear hEg; (try clear eg); have hEg := hEn; clear hEn; rename Env => eg) | ((with_reducible first | apply oV_intro | apply oH_intro | apply oB_intro); (simp (disch := first | omega |  (simp only [mLenC, mLenN, mLenA, zs_len,  upd_n, jn_n]; first | done | omega) | (simp only [List.mem_cons, List.not_mem_nil, or_false, not_or, not_false_eq_true, upd_n, jn_n]; first | done | omega)) only [qc, qe, stG_agg, tb53, hEg, sp, Int.reduceToNat, Nat.reduceAdd, Nat.reduceMul, Nat.reduceEqDiff, reduceIte, reduceCtorEq, Nat.reduceLT]; with_reducible exact rfl); try simp only [↓pb, ↓pd, qb, qd, tb53, hEg, sp, Int.reduceToNat, Nat.reduceAdd, Nat.reduceMul, Nat.reduceEqDiff, reduceIte, reduceCtorEq, Nat.reduceLT]) | ((with_reducible first | apply WO_gT | apply WO_gF); exact rfl; (simp only [↓pb, qb, tb53, hEg, sp, Int.reduceToNat, Nat.reduceAdd, Nat.reduceMul, Nat.reduceEqDiff, reduceIte, reduceCtorEq, Nat.reduceLT]; with_reducible exact rfl); all_goals (intro hc; (first | exact absurd hc (by decide) | (simp only [hcs] at hc; first | contradiction | (exfalso; omega) | skip) | contradiction | skip); try simp only [↓pb, ↓pd, qb, qd, tb53, hc, hEg, sp, Int.reduceToNat, Nat.reduceAdd, Nat.reduceMul, Nat.reduceEqDiff, reduceIte, reduceCtorEq, Nat.reduceLT])) | (with_reducible first | refine W_seq ?_ | refine W_block ?_ | refine W_scope ?_ | refine W_skip ?_ | refine W_ret ?_ | refine W_exit ?_ | refine W_label ?_ | apply blockK_exit) | ((with_reducible apply blockK_pass); (focus decide)) | ((with_reducible refine W_regionF lv53 fun K hK => ?_); try simp only [↓pb, qb, tb53, hEg, sp, Int.reduceToNat, Nat.reduceAdd, Nat.reduceMul, Nat.reduceEqDiff, reduceIte, reduceCtorEq, Nat.reduceLT]) | ((with_reducible apply W_cond); (simp only [↓pb, qb, tb53, hEg, sp, Int.reduceToNat, Nat.reduceAdd, Nat.reduceMul, Nat.reduceEqDiff, reduceIte, reduceCtorEq, Nat.reduceLT]; with_reducible exact rfl); all_goals (intro hc; (first | exact absurd hc (by decide) | (simp only [hcs] at hc; first | contradiction | (exfalso; omega) | skip) | contradiction | skip))) | fail)
  all_goals (
    refine ⟨by first | exact .inl rfl | exact .inr rfl, ?_⟩
    rw [ret1 Try.results53]
    simp only [↓pb, qb, tb53, rv_tmp, rv_cell, hEg, sp, Int.reduceToNat, Nat.reduceAdd, Nat.reduceMul, Nat.reduceEqDiff, reduceIte, reduceCtorEq, Nat.reduceLT]
    repeat ((with_reducible apply oV_intro); (simp (disch := first | omega |  (simp only [mLenC, mLenN, mLenA, zs_len,  upd_n, jn_n]; first | done | omega) | (simp only [List.mem_cons, List.not_mem_nil, or_false, not_or, not_false_eq_true, upd_n, jn_n]; first | done | omega)) only [qc, qe, stG_agg, tb53, hEg, sp, Int.reduceToNat, Nat.reduceAdd, Nat.reduceMul, Nat.reduceEqDiff, reduceIte, reduceCtorEq, Nat.reduceLT]; exact rfl)))
  all_goals simp [*]
theorem f65 (a b : Int) (H : AHeap) : ∃ v H', C5 (.fn 65) #[iv a, iv b] H v H' ∧ v = iv (many a b) ∧ H' = H := by
  refine Cl.ofW Try.func65 rfl (by kernel_rfl) (by rw [Try.ntmps65]; exact Nat.le_of_ble_eq_true rfl) (by kernel_rfl) ?_
  have hEg : True := trivial
  refine gcW [0, 1] ?_
  intro eg hEn
  simp only [forallC, forallL, and_true] at hEn
  try simp only [↓pb, qb, tb65, hEg, sp, Int.reduceToNat, Nat.reduceAdd, Nat.reduceMul, Nat.reduceEqDiff, reduceIte, reduceCtorEq, Nat.reduceLT] at hEn
  replace hEg := hEn; clear hEn
  repeat' (first | ((with_reducible refine hK _ _ fun e2 hEn => ?_); clear hK K; simp only [lv65, forallC, forallL, and_true] at hEn; (try simp only [↓pb, qb, tb65, hEg, sp, Int.reduceToNat, Nat.reduceAdd, Nat.reduceMul, Nat.reduceEqDiff, reduceIte, reduceCtorEq, Nat.reduceLT] at hEn); clear hEg; (try clear eg); have hEg := hEn; clear hEn; rename Env => eg) | ((with_reducible first | apply oV_intro | apply oH_intro | apply oB_intro); (simp (disch := first | omega |  (simp only [mLenC, mLenN, mLenA, zs_len,  upd_n, jn_n]; first | done | omega) | (simp only [List.mem_cons, List.not_mem_nil, or_false, not_or, not_false_eq_true, upd_n, jn_n]; first | done | omega)) only [qc, qe, stG_agg, tb65, hEg, sp, Int.reduceToNat, Nat.reduceAdd, Nat.reduceMul, Nat.reduceEqDiff, reduceIte, reduceCtorEq, Nat.reduceLT]; with_reducible exact rfl); try simp only [↓pb, ↓pd, qb, qd, tb65, hEg, sp, Int.reduceToNat, Nat.reduceAdd, Nat.reduceMul, Nat.reduceEqDiff, reduceIte, reduceCtorEq, Nat.reduceLT]) | (with_reducible first | refine W_seq ?_ | refine W_block ?_ | refine W_scope ?_ | refine W_skip ?_ | refine W_ret ?_ | refine W_exit ?_ | refine W_label ?_ | apply blockK_exit) | ((with_reducible apply blockK_pass); (focus decide)) | ((with_reducible refine W_regionF lv65 fun K hK => ?_); try simp only [↓pb, qb, tb65, hEg, sp, Int.reduceToNat, Nat.reduceAdd, Nat.reduceMul, Nat.reduceEqDiff, reduceIte, reduceCtorEq, Nat.reduceLT]) | ((with_reducible apply W_cond); (simp only [↓pb, qb, tb65, hEg, sp, Int.reduceToNat, Nat.reduceAdd, Nat.reduceMul, Nat.reduceEqDiff, reduceIte, reduceCtorEq, Nat.reduceLT]; with_reducible exact rfl); all_goals (intro hc; (first | exact absurd hc (by decide) | (simp only [hcs] at hc; first | contradiction | (exfalso; omega) | skip) | contradiction | skip))) | fail)
  all_goals (
    refine ⟨by first | exact .inl rfl | exact .inr rfl, ?_⟩
    rw [ret1 Try.results65]
    simp only [↓pb, qb, tb65, rv_tmp, rv_cell, hEg, sp, Int.reduceToNat, Nat.reduceAdd, Nat.reduceMul, Nat.reduceEqDiff, reduceIte, reduceCtorEq, Nat.reduceLT]
    repeat ((with_reducible apply oV_intro); (simp (disch := first | omega |  (simp only [mLenC, mLenN, mLenA, zs_len,  upd_n, jn_n]; first | done | omega) | (simp only [List.mem_cons, List.not_mem_nil, or_false, not_or, not_false_eq_true, upd_n, jn_n]; first | done | omega)) only [qc, qe, stG_agg, tb65, hEg, sp, Int.reduceToNat, Nat.reduceAdd, Nat.reduceMul, Nat.reduceEqDiff, reduceIte, reduceCtorEq, Nat.reduceLT]; exact rfl)))
  all_goals simp [many, *]
theorem f66 (va vb vc : Value) (g : Gnd) (last : Int) (a : Act) (H : AHeap) (hT : Top H) (hG : RG H va vb vc g) :
    ∃ v H', C5 (.fn 66) #[.agg ⟨[va, vb, vc]⟩, iv last, .agg ⟨eAct a⟩] H v H' ∧ v = iv (checkAct g last a) ∧ Fr H.n [] H H' := by
  refine Cl.ofW Try.func66 rfl (by kernel_rfl) (by rw [Try.ntmps66]; exact Nat.le_of_ble_eq_true rfl) (by kernel_rfl) ?_
  have hEg : True := trivial
  refine gcW [0, 1, 2] ?_
  intro eg hEn
  simp only [forallC, forallL, and_true] at hEn
  try simp only [↓pb, qb, tb66, hG.one, lns22 hG.p, lns23 hG.q, eAct, hEg, sp, Int.reduceToNat, Nat.reduceAdd, Nat.reduceMul, Nat.reduceEqDiff, reduceIte, reduceCtorEq, Nat.reduceLT] at hEn
  replace hEg := hEn; clear hEn
  repeat' (first | ((with_reducible refine hK _ _ fun e2 hEn => ?_); clear hK K; simp only [lv66, forallC, forallL, and_true] at hEn; (try simp only [↓pb, qb, tb66, hG.one, lns22 hG.p, lns23 hG.q, eAct, hEg, sp, Int.reduceToNat, Nat.reduceAdd, Nat.reduceMul, Nat.reduceEqDiff, reduceIte, reduceCtorEq, Nat.reduceLT] at hEn); clear hEg; (try clear eg); have hEg := hEn; clear hEn; rename Env => eg) | ((with_reducible first | apply oV_intro | apply oH_intro | apply oB_intro); (simp (disch := first | omega |  (simp only [mLenC, mLenN, mLenA, zs_len,  upd_n, jn_n]; first | done | omega) | (simp only [List.mem_cons, List.not_mem_nil, or_false, not_or, not_false_eq_true, upd_n, jn_n]; first | done | omega)) only [qc, qe, stG_agg, tb66, hG.one, lns22 hG.p, lns23 hG.q, eAct, hEg, sp, Int.reduceToNat, Nat.reduceAdd, Nat.reduceMul, Nat.reduceEqDiff, reduceIte, reduceCtorEq, Nat.reduceLT]; with_reducible exact rfl); try simp only [↓pb, ↓pd, qb, qd, tb66, hG.one, lns22 hG.p, lns23 hG.q, eAct, hEg, sp, Int.reduceToNat, Nat.reduceAdd, Nat.reduceMul, Nat.reduceEqDiff, reduceIte, reduceCtorEq, Nat.reduceLT]) | ((with_reducible first | apply WO_gT | apply WO_gF); exact rfl; (simp only [↓pb, qb, tb66, hG.one, lns22 hG.p, lns23 hG.q, eAct, hEg, sp, Int.reduceToNat, Nat.reduceAdd, Nat.reduceMul, Nat.reduceEqDiff, reduceIte, reduceCtorEq, Nat.reduceLT]; with_reducible exact rfl); all_goals (intro hc; (first | exact absurd hc (by decide) | (simp only [hcs] at hc; first | contradiction | (exfalso; omega) | skip) | contradiction | skip); try simp only [↓pb, ↓pd, qb, qd, tb66, hG.one, lns22 hG.p, lns23 hG.q, eAct, hc, hEg, sp, Int.reduceToNat, Nat.reduceAdd, Nat.reduceMul, Nat.reduceEqDiff, reduceIte, reduceCtorEq, Nat.reduceLT])) | ((with_reducible apply WO_callE); (simp only [↓pb, qb, tb66, hG.one, lns22 hG.p, lns23 hG.q, eAct, hEg, sp, Int.reduceToNat, Nat.reduceAdd, Nat.reduceMul, Nat.reduceEqDiff, reduceIte, reduceCtorEq, Nat.reduceLT]; (exact f53 _ _ _ _)); try simp only [↓pb, ↓pd, qb, qd, tb66, hG.one, lns22 hG.p, lns23 hG.q, eAct, hEg, sp, Int.reduceToNat, Nat.reduceAdd, Nat.reduceMul, Nat.reduceEqDiff, reduceIte, reduceCtorEq, Nat.reduceLT]) | (with_reducible first | refine W_seq ?_ | refine W_block ?_ | refine W_scope ?_ | refine W_skip ?_ | refine W_ret ?_ | refine W_exit ?_ | refine W_label ?_ | apply blockK_exit) | ((with_reducible apply blockK_pass); (focus decide)) | ((with_reducible refine W_regionF lv66 fun K hK => ?_); try simp only [↓pb, qb, tb66, hG.one, lns22 hG.p, lns23 hG.q, eAct, hEg, sp, Int.reduceToNat, Nat.reduceAdd, Nat.reduceMul, Nat.reduceEqDiff, reduceIte, reduceCtorEq, Nat.reduceLT]) | ((with_reducible apply W_cond); (simp only [↓pb, qb, tb66, hG.one, lns22 hG.p, lns23 hG.q, eAct, hEg, sp, Int.reduceToNat, Nat.reduceAdd, Nat.reduceMul, Nat.reduceEqDiff, reduceIte, reduceCtorEq, Nat.reduceLT]; with_reducible exact rfl); all_goals (intro hc; (first | exact absurd hc (by decide) | (simp only [hcs] at hc; first | contradiction | (exfalso; omega) | skip) | contradiction | skip))) | fail)
  all_goals (
    refine ⟨by first | exact .inl rfl | exact .inr rfl, ?_⟩
    rw [ret1 Try.results66]
    simp only [↓pb, qb, tb66, hG.one, lns22 hG.p, lns23 hG.q, eAct, rv_tmp, rv_cell, hEg, sp, Int.reduceToNat, Nat.reduceAdd, Nat.reduceMul, Nat.reduceEqDiff, reduceIte, reduceCtorEq, Nat.reduceLT]
    repeat ((with_reducible apply oV_intro); (simp (disch := first | omega |  (simp only [mLenC, mLenN, mLenA, zs_len,  upd_n, jn_n]; first | done | omega) | (simp only [List.mem_cons, List.not_mem_nil, or_false, not_or, not_false_eq_true, upd_n, jn_n]; first | done | omega)) only [qc, qe, stG_agg, tb66, hG.one, lns22 hG.p, lns23 hG.q, eAct, hEg, sp, Int.reduceToNat, Nat.reduceAdd, Nat.reduceMul, Nat.reduceEqDiff, reduceIte, reduceCtorEq, Nat.reduceLT]; exact rfl)))
  all_goals (
    refine ⟨by first | rfl | (simp [checkAct, inB, w64, *]; done), ?_⟩
    try (repeat' (first | with_reducible exact Fr.refl _ | with_reducible assumption | ((with_reducible apply Fr.trans) <;> with_reducible assumption) | ((with_reducible refine Fr.jn ?_ ?_ ?_); rotate_left; (focus with_reducible assumption); (focus ((try simp only [upd_n, jn_n]); omega))) | ((with_reducible refine Fr.upd ?_ ?_ ?_ ?_ ?_); rotate_left; (focus ((try simp only [upd_n, jn_n]); omega)); (focus ((try simp only [upd_n, jn_n]); omega)); (focus first | (left; ((try simp only [upd_n, jn_n]); omega)) | (right; simp; done)); (focus first | trivial | exact ⟨by ((try simp only [upd_n, jn_n]); omega), by ((try simp only [upd_n, jn_n]); omega)⟩)))))
end Go.Proofs.Swa

set_option maxRecDepth 20000
set_option linter.unusedVariables false
set_option linter.unusedSimpArgs false
namespace Go.Proofs.Swa
open Go
attribute [local congr] WO_congr oV_congr oB_congr oH_congr WD_congr oblO_congr oblA_congr oblR_congr
theorem all_stop {α : Type} {p : α → Bool} {x : α} {l : List α} {a b c : Int} (h : c = if (x :: l).all p then a else b) (hx : p x = false) : c = b := by rw [h, List.all_cons, hx]; rfl
theorem all_go {α : Type} {p : α → Bool} {x : α} {l : List α} {a b c : Int} (h : c = if (x :: l).all p then a else b) (hx : p x = true) : c = if l.all p then a else b := by rw [h, List.all_cons, hx, Bool.true_and]
theorem all_end {α : Type} {p : α → Bool} {l : List α} {i : Nat} {a b c : Int} (h : c = if (l.drop i).all p then a else b) (hi : l.length ≤ i) : c = a := by rw [h, List.drop_of_length_le hi]; rfl
theorem f25 (va vb vc : Value) (g : Gnd) (H : AHeap) (hT : Top H) (hG : RG H va vb vc g) (hl : g.Spots.length < 1099511627776) (hl2 : g.Sorts.length < 1099511627776) :
    ∃ v H', C5 (.fn 25) #[.agg ⟨[va, vb, vc]⟩] H v H' ∧ v = iv (check g) ∧ Fr H.n [] H H' := by
  refine Cl.ofW Try.func25 rfl (by kernel_rfl) (by rw [Try.ntmps25]; exact Nat.le_of_ble_eq_true rfl) (by kernel_rfl) ?_
  have hEg : True := trivial
  refine gcW [0] ?_
  intro eg hEn
  simp only [forallC, forallL, and_true] at hEn
  try simp only [↓pb, qb, tb25, hG.one, lns22 hG.p, lns23 hG.q, lns24 hG.r, hEg, sp, Int.reduceToNat, Nat.reduceAdd, Nat.reduceMul, Nat.reduceEqDiff, reduceIte, reduceCtorEq, Nat.reduceLT] at hEn
  replace hEg := hEn; clear hEn
  repeat' (first | ((with_reducible refine hK _ _ fun e2 hEn => ?_); clear hK K; simp only [lv25, forallC, forallL, and_true] at hEn; (try simp only [↓pb, qb, tb25, hG.one, lns22 hG.p, lns23 hG.q, lns24 hG.r, hEg, sp, Int.reduceToNat, Nat.reduceAdd, Nat.reduceMul, Nat.reduceEqDiff, reduceIte, reduceCtorEq, Nat.reduceLT] at hEn); clear hEg; (try clear eg); have hEg := hEn; clear hEn; rename Env => eg) | ((with_reducible first | apply oV_intro | apply oH_intro | apply oB_intro); (simp (disch := first | omega |  (simp only [mLenC, mLenN, mLenA, zs_len,  upd_n, jn_n]; first | done | omega) | (simp only [List.mem_cons, List.not_mem_nil, or_false, not_or, not_false_eq_true, upd_n, jn_n]; first | done | omega)) only [qc, qe, stG_agg, tb25, hG.one, lns22 hG.p, lns23 hG.q, lns24 hG.r, hEg, sp, Int.reduceToNat, Nat.reduceAdd, Nat.reduceMul, Nat.reduceEqDiff, reduceIte, reduceCtorEq, Nat.reduceLT]; with_reducible exact rfl); try simp only [↓pb, ↓pd, qb, qd, tb25, hG.one, lns22 hG.p, lns23 hG.q, lns24 hG.r, hEg, sp, Int.reduceToNat, Nat.reduceAdd, Nat.reduceMul, Nat.reduceEqDiff, reduceIte, reduceCtorEq, Nat.reduceLT]) | ((with_reducible first | apply WO_gT | apply WO_gF); exact rfl; (simp only [↓pb, qb, tb25, hG.one, lns22 hG.p, lns23 hG.q, lns24 hG.r, hEg, sp, Int.reduceToNat, Nat.reduceAdd, Nat.reduceMul, Nat.reduceEqDiff, reduceIte, reduceCtorEq, Nat.reduceLT]; with_reducible exact rfl); all_goals (intro hc; (first | exact absurd hc (by decide) | (simp only [hcs] at hc; first | contradiction | (exfalso; omega) | skip) | contradiction | skip); try simp only [↓pb, ↓pd, qb, qd, tb25, hG.one, lns22 hG.p, lns23 hG.q, lns24 hG.r, hc, hEg, sp, Int.reduceToNat, Nat.reduceAdd, Nat.reduceMul, Nat.reduceEqDiff, reduceIte, reduceCtorEq, Nat.reduceLT])) | ((with_reducible apply WO_callE); (simp only [↓pb, qb, tb25, hG.one, lns22 hG.p, lns23 hG.q, lns24 hG.r, hEg, sp, Int.reduceToNat, Nat.reduceAdd, Nat.reduceMul, Nat.reduceEqDiff, reduceIte, reduceCtorEq, Nat.reduceLT]; (first | exact f53 _ _ _ _ | exact f65 _ _ _)); try simp only [↓pb, ↓pd, qb, qd, tb25, hG.one, lns22 hG.p, lns23 hG.q, lns24 hG.r, hEg, sp, Int.reduceToNat, Nat.reduceAdd, Nat.reduceMul, Nat.reduceEqDiff, reduceIte, reduceCtorEq, Nat.reduceLT]) | ((with_reducible apply WO_callV); (focus (repeat' (first | with_reducible assumption | ((with_reducible refine Top.jn ?_ ?_); rotate_left; (focus with_reducible assumption)) | ((with_reducible refine Top.upd ?_ ?_ ?_ ?_); rotate_left; (focus ((try simp only [upd_n, jn_n]); omega)); (focus ((try simp only [upd_n, jn_n]); omega)); (focus first | trivial | exact ⟨by ((try simp only [upd_n, jn_n]); omega), by ((try simp only [upd_n, jn_n]); omega)⟩))))); (simp only [↓pb, qb, tb25, hG.one, lns22 hG.p, lns23 hG.q, lns24 hG.r, hEg, sp, Int.reduceToNat, Nat.reduceAdd, Nat.reduceMul, Nat.reduceEqDiff, reduceIte, reduceCtorEq, Nat.reduceLT]; (exact f66 _ _ _ _ _ _ _ (by (repeat' (first | with_reducible assumption | ((with_reducible refine Top.jn ?_ ?_); rotate_left; (focus with_reducible assumption)) | ((with_reducible refine Top.upd ?_ ?_ ?_ ?_); rotate_left; (focus ((try simp only [upd_n, jn_n]); omega)); (focus ((try simp only [upd_n, jn_n]); omega)); (focus first | trivial | exact ⟨by ((try simp only [upd_n, jn_n]); omega), by ((try simp only [upd_n, jn_n]); omega)⟩))))) (hG.fr (N := H.n) (by (repeat' (first | with_reducible exact Fr.refl _ | with_reducible assumption | ((with_reducible apply Fr.trans) <;> with_reducible assumption) | ((with_reducible refine Fr.jn ?_ ?_ ?_); rotate_left; (focus with_reducible assumption); (focus ((try simp only [upd_n, jn_n]); omega))) | ((with_reducible refine Fr.upd ?_ ?_ ?_ ?_ ?_); rotate_left; (focus ((try simp only [upd_n, jn_n]); omega)); (focus ((try simp only [upd_n, jn_n]); omega)); (focus first | (left; ((try simp only [upd_n, jn_n]); omega)) | (right; simp; done)); (focus first | trivial | exact ⟨by ((try simp only [upd_n, jn_n]); omega), by ((try simp only [upd_n, jn_n]); omega)⟩)))))))); (intro Gq hq hJq; try simp only [upd_n, jn_n] at hq); try simp only [↓pb, ↓pd, qb, qd, tb25, hG.one, lns22 hG.p, lns23 hG.q, lns24 hG.r, hEg, sp, Int.reduceToNat, Nat.reduceAdd, Nat.reduceMul, Nat.reduceEqDiff, reduceIte, reduceCtorEq, Nat.reduceLT]) | (with_reducible first | refine W_seq ?_ | refine W_block ?_ | refine W_scope ?_ | refine W_skip ?_ | refine W_ret ?_ | refine W_exit ?_ | refine W_label ?_ | apply blockK_exit) | ((with_reducible apply blockK_pass); (focus decide)) | ((with_reducible refine W_regionF lv25 fun K hK => ?_); try simp only [↓pb, qb, tb25, hG.one, lns22 hG.p, lns23 hG.q, lns24 hG.r, hEg, sp, Int.reduceToNat, Nat.reduceAdd, Nat.reduceMul, Nat.reduceEqDiff, reduceIte, reduceCtorEq, Nat.reduceLT]) | ((with_reducible apply W_cond); (simp only [↓pb, qb, tb25, hG.one, lns22 hG.p, lns23 hG.q, lns24 hG.r, hEg, sp, Int.reduceToNat, Nat.reduceAdd, Nat.reduceMul, Nat.reduceEqDiff, reduceIte, reduceCtorEq, Nat.reduceLT]; with_reducible exact rfl); all_goals (intro hc; (first | exact absurd hc (by decide) | (simp only [hcs] at hc; first | contradiction | (exfalso; omega) | skip) | contradiction | skip))) | fail)
  · refine ⟨by first | exact .inl rfl | exact .inr rfl, ?_⟩
    rw [ret1 Try.results25]
    simp only [↓pb, qb, tb25, hG.one, lns22 hG.p, lns23 hG.q, lns24 hG.r, rv_tmp, rv_cell, hEg, sp, Int.reduceToNat, Nat.reduceAdd, Nat.reduceMul, Nat.reduceEqDiff, reduceIte, reduceCtorEq, Nat.reduceLT]
    repeat ((with_reducible apply oV_intro); (simp (disch := first | omega |  (simp only [mLenC, mLenN, mLenA, zs_len,  upd_n, jn_n]; first | done | omega) | (simp only [List.mem_cons, List.not_mem_nil, or_false, not_or, not_false_eq_true, upd_n, jn_n]; first | done | omega)) only [qc, qe, stG_agg, tb25, hG.one, lns22 hG.p, lns23 hG.q, lns24 hG.r, hEg, sp, Int.reduceToNat, Nat.reduceAdd, Nat.reduceMul, Nat.reduceEqDiff, reduceIte, reduceCtorEq, Nat.reduceLT]; exact rfl))
    refine ⟨by first | rfl | (simp [check, *]; done), ?_⟩
    try (repeat' (first | with_reducible exact Fr.refl _ | with_reducible assumption | ((with_reducible apply Fr.trans) <;> with_reducible assumption) | ((with_reducible refine Fr.jn ?_ ?_ ?_); rotate_left; (focus with_reducible assumption); (focus ((try simp only [upd_n, jn_n]); omega))) | ((with_reducible refine Fr.upd ?_ ?_ ?_ ?_ ?_); rotate_left; (focus ((try simp only [upd_n, jn_n]); omega)); (focus ((try simp only [upd_n, jn_n]); omega)); (focus first | (left; ((try simp only [upd_n, jn_n]); omega)) | (right; simp; done)); (focus first | trivial | exact ⟨by ((try simp only [upd_n, jn_n]); omega), by ((try simp only [upd_n, jn_n]); omega)⟩))))
  have h1 : check g = if (g.Spots.drop 0).all okSpo then check2 g else 1 := by
    rw [check, if_neg hc, List.drop_zero]
  refine W_count [1, 21, 22] (by kernel_rfl) 23 (g.Spots.length) (H.n) [] [] (fun i e h => check g = if (g.Spots.drop i).all okSpo then check2 g else 1) (by simp only [↓pb, qb, tb25, hG.one, lns22 hG.p, lns23 hG.q, lns24 hG.r, hEg, sp, Int.reduceToNat, Nat.reduceAdd, Nat.reduceMul, Nat.reduceEqDiff, reduceIte, reduceCtorEq, Nat.reduceLT]) (by focus (repeat' (first | with_reducible assumption | ((with_reducible refine Top.jn ?_ ?_); rotate_left; (focus with_reducible assumption)) | ((with_reducible refine Top.upd ?_ ?_ ?_ ?_); rotate_left; (focus ((try simp only [upd_n, jn_n]); omega)); (focus ((try simp only [upd_n, jn_n]); omega)); (focus first | trivial | exact ⟨by ((try simp only [upd_n, jn_n]); omega), by ((try simp only [upd_n, jn_n]); omega)⟩))))) (H0 := H) (by focus (repeat' (first | with_reducible exact Fr.refl _ | with_reducible assumption | ((with_reducible apply Fr.trans) <;> with_reducible assumption) | ((with_reducible refine Fr.jn ?_ ?_ ?_); rotate_left; (focus with_reducible assumption); (focus ((try simp only [upd_n, jn_n]); omega))) | ((with_reducible refine Fr.upd ?_ ?_ ?_ ?_ ?_); rotate_left; (focus ((try simp only [upd_n, jn_n]); omega)); (focus ((try simp only [upd_n, jn_n]); omega)); (focus first | (left; ((try simp only [upd_n, jn_n]); omega)) | (right; simp; done)); (focus first | trivial | exact ⟨by ((try simp only [upd_n, jn_n]); omega), by ((try simp only [upd_n, jn_n]); omega)⟩))))) (by intro b hb hlt; simp at hb ⊢; try omega) ?_ ?_
  rotate_left
  intro i e h hi hE ei hF hF0 hTh hJ
  simp only [forallC, forallL, and_true] at hE
  try simp only [↓pb, qb, tb25, hG.one, lns22 hG.p, lns23 hG.q, lns24 hG.r, hEg, sp, Int.reduceToNat, Nat.reduceAdd, Nat.reduceMul, Nat.reduceEqDiff, reduceIte, reduceCtorEq, Nat.reduceLT] at hE
  have hn1 := hF.n; have hn0 := hF0.n; try simp only [upd_n, jn_n] at hn1
  replace hEg := And.intro ei hE
  rotate_left
  · exact h1
  clear h1 hc
  have G := hG.fr hF0
  by_cases hi2 : i < g.Spots.length
  · rw [drop_getD hi2] at hJ
    repeat' (first | ((with_reducible refine hK _ _ fun e2 hEn => ?_); clear hK K; simp only [lv25, forallC, forallL, and_true] at hEn; (try simp only [↓pb, qb, tb25, hG.one, lns22 hG.p, lns23 hG.q, lns24 hG.r, hE, ei, G.one, lns22 G.p, lns23 G.q, lns24 G.r, ias22 G.p, (G.p.el eSpo_len rfl), G.p.rd, eSpo, hEg, sp, Int.reduceToNat, Nat.reduceAdd, Nat.reduceMul, Nat.reduceEqDiff, reduceIte, reduceCtorEq, Nat.reduceLT] at hEn); clear hEg; (try clear eg); have hEg := hEn; clear hEn; rename Env => eg) | ((with_reducible first | apply oV_intro | apply oH_intro | apply oB_intro); (simp (disch := first | omega |  (simp only [mLenC, mLenN, mLenA, zs_len,  upd_n, jn_n]; first | done | omega) | (simp only [List.mem_cons, List.not_mem_nil, or_false, not_or, not_false_eq_true, upd_n, jn_n]; first | done | omega)) only [qc, qe, stG_agg, tb25, hG.one, lns22 hG.p, lns23 hG.q, lns24 hG.r, hE, ei, G.one, lns22 G.p, lns23 G.q, lns24 G.r, ias22 G.p, (G.p.el eSpo_len rfl), G.p.rd, eSpo, hEg, sp, Int.reduceToNat, Nat.reduceAdd, Nat.reduceMul, Nat.reduceEqDiff, reduceIte, reduceCtorEq, Nat.reduceLT]; with_reducible exact rfl); try simp only [↓pb, ↓pd, qb, qd, tb25, hG.one, lns22 hG.p, lns23 hG.q, lns24 hG.r, hE, ei, G.one, lns22 G.p, lns23 G.q, lns24 G.r, ias22 G.p, (G.p.el eSpo_len rfl), G.p.rd, eSpo, hEg, sp, Int.reduceToNat, Nat.reduceAdd, Nat.reduceMul, Nat.reduceEqDiff, reduceIte, reduceCtorEq, Nat.reduceLT]) | ((with_reducible first | apply WO_gT | apply WO_gF); exact rfl; (simp only [↓pb, qb, tb25, hG.one, lns22 hG.p, lns23 hG.q, lns24 hG.r, hE, ei, G.one, lns22 G.p, lns23 G.q, lns24 G.r, ias22 G.p, (G.p.el eSpo_len rfl), G.p.rd, eSpo, hEg, sp, Int.reduceToNat, Nat.reduceAdd, Nat.reduceMul, Nat.reduceEqDiff, reduceIte, reduceCtorEq, Nat.reduceLT]; with_reducible exact rfl); all_goals (intro hc; (first | exact absurd hc (by decide) | (simp only [hcs] at hc; first | contradiction | (exfalso; omega) | skip) | contradiction | skip); try simp only [↓pb, ↓pd, qb, qd, tb25, hG.one, lns22 hG.p, lns23 hG.q, lns24 hG.r, hE, ei, G.one, lns22 G.p, lns23 G.q, lns24 G.r, ias22 G.p, (G.p.el eSpo_len rfl), G.p.rd, eSpo, hc, hEg, sp, Int.reduceToNat, Nat.reduceAdd, Nat.reduceMul, Nat.reduceEqDiff, reduceIte, reduceCtorEq, Nat.reduceLT])) | ((with_reducible apply WO_callE); (simp only [↓pb, qb, tb25, hG.one, lns22 hG.p, lns23 hG.q, lns24 hG.r, hE, ei, G.one, lns22 G.p, lns23 G.q, lns24 G.r, ias22 G.p, (G.p.el eSpo_len rfl), G.p.rd, eSpo, hEg, sp, Int.reduceToNat, Nat.reduceAdd, Nat.reduceMul, Nat.reduceEqDiff, reduceIte, reduceCtorEq, Nat.reduceLT]; (first | exact f53 _ _ _ _ | exact f65 _ _ _)); try simp only [↓pb, ↓pd, qb, qd, tb25, hG.one, lns22 hG.p, lns23 hG.q, lns24 hG.r, hE, ei, G.one, lns22 G.p, lns23 G.q, lns24 G.r, ias22 G.p, (G.p.el eSpo_len rfl), G.p.rd, eSpo, hEg, sp, Int.reduceToNat, Nat.reduceAdd, Nat.reduceMul, Nat.reduceEqDiff, reduceIte, reduceCtorEq, Nat.reduceLT]) | ((with_reducible apply WO_callV); (focus (repeat' (first | with_reducible assumption | ((with_reducible refine Top.jn ?_ ?_); rotate_left; (focus with_reducible assumption)) | ((with_reducible refine Top.upd ?_ ?_ ?_ ?_); rotate_left; (focus ((try simp only [upd_n, jn_n]); omega)); (focus ((try simp only [upd_n, jn_n]); omega)); (focus first | trivial | exact ⟨by ((try simp only [upd_n, jn_n]); omega), by ((try simp only [upd_n, jn_n]); omega)⟩))))); (simp only [↓pb, qb, tb25, hG.one, lns22 hG.p, lns23 hG.q, lns24 hG.r, hE, ei, G.one, lns22 G.p, lns23 G.q, lns24 G.r, ias22 G.p, (G.p.el eSpo_len rfl), G.p.rd, eSpo, hEg, sp, Int.reduceToNat, Nat.reduceAdd, Nat.reduceMul, Nat.reduceEqDiff, reduceIte, reduceCtorEq, Nat.reduceLT]; (exact f66 _ _ _ _ _ _ _ (by (repeat' (first | with_reducible assumption | ((with_reducible refine Top.jn ?_ ?_); rotate_left; (focus with_reducible assumption)) | ((with_reducible refine Top.upd ?_ ?_ ?_ ?_); rotate_left; (focus ((try simp only [upd_n, jn_n]); omega)); (focus ((try simp only [upd_n, jn_n]); omega)); (focus first | trivial | exact ⟨by ((try simp only [upd_n, jn_n]); omega), by ((try simp only [upd_n, jn_n]); omega)⟩))))) (hG.fr (N := H.n) (by (repeat' (first | with_reducible exact Fr.refl _ | with_reducible assumption | ((with_reducible apply Fr.trans) <;> with_reducible assumption) | ((with_reducible refine Fr.jn ?_ ?_ ?_); rotate_left; (focus with_reducible assumption); (focus ((try simp only [upd_n, jn_n]); omega))) | ((with_reducible refine Fr.upd ?_ ?_ ?_ ?_ ?_); rotate_left; (focus ((try simp only [upd_n, jn_n]); omega)); (focus ((try simp only [upd_n, jn_n]); omega)); (focus first | (left; ((try simp only [upd_n, jn_n]); omega)) | (right; simp; done)); (focus first | trivial | exact ⟨by ((try simp only [upd_n, jn_n]); omega), by ((try simp only [upd_n, jn_n]); omega)⟩)))))))); (intro Gq hq hJq; try simp only [upd_n, jn_n] at hq); try simp only [↓pb, ↓pd, qb, qd, tb25, hG.one, lns22 hG.p, lns23 hG.q, lns24 hG.r, hE, ei, G.one, lns22 G.p, lns23 G.q, lns24 G.r, ias22 G.p, (G.p.el eSpo_len rfl), G.p.rd, eSpo, hEg, sp, Int.reduceToNat, Nat.reduceAdd, Nat.reduceMul, Nat.reduceEqDiff, reduceIte, reduceCtorEq, Nat.reduceLT]) | (with_reducible first | refine W_seq ?_ | refine W_block ?_ | refine W_scope ?_ | refine W_skip ?_ | refine W_ret ?_ | refine W_exit ?_ | refine W_label ?_ | apply blockK_exit) | ((with_reducible apply blockK_pass); (focus decide)) | ((with_reducible refine W_regionF lv25 fun K hK => ?_); try simp only [↓pb, qb, tb25, hG.one, lns22 hG.p, lns23 hG.q, lns24 hG.r, hE, ei, G.one, lns22 G.p, lns23 G.q, lns24 G.r, ias22 G.p, (G.p.el eSpo_len rfl), G.p.rd, eSpo, hEg, sp, Int.reduceToNat, Nat.reduceAdd, Nat.reduceMul, Nat.reduceEqDiff, reduceIte, reduceCtorEq, Nat.reduceLT]) | ((with_reducible apply W_cond); (simp only [↓pb, qb, tb25, hG.one, lns22 hG.p, lns23 hG.q, lns24 hG.r, hE, ei, G.one, lns22 G.p, lns23 G.q, lns24 G.r, ias22 G.p, (G.p.el eSpo_len rfl), G.p.rd, eSpo, hEg, sp, Int.reduceToNat, Nat.reduceAdd, Nat.reduceMul, Nat.reduceEqDiff, reduceIte, reduceCtorEq, Nat.reduceLT]; with_reducible exact rfl); all_goals (intro hc; (first | exact absurd hc (by decide) | (simp only [hcs] at hc; first | contradiction | (exfalso; omega) | skip) | contradiction | skip))) | fail)
    all_goals first | omega | skip
    all_goals first
      | (have hb : okSpo (g.Spots.getD i default) = false := by clear hJ; generalize g.Spots.getD i default = x at *; simp [okSpo, inB, *]
         refine ⟨by first | exact .inl rfl | exact .inr rfl, ?_⟩
         rw [ret1 Try.results25]
         simp only [↓pb, qb, tb25, hG.one, lns22 hG.p, lns23 hG.q, lns24 hG.r, rv_tmp, rv_cell, hEg, sp, Int.reduceToNat, Nat.reduceAdd, Nat.reduceMul, Nat.reduceEqDiff, reduceIte, reduceCtorEq, Nat.reduceLT]
         repeat ((with_reducible apply oV_intro); (simp (disch := first | omega |  (simp only [mLenC, mLenN, mLenA, zs_len,  upd_n, jn_n]; first | done | omega) | (simp only [List.mem_cons, List.not_mem_nil, or_false, not_or, not_false_eq_true, upd_n, jn_n]; first | done | omega)) only [qc, qe, stG_agg, tb25, hG.one, lns22 hG.p, lns23 hG.q, lns24 hG.r, hEg, sp, Int.reduceToNat, Nat.reduceAdd, Nat.reduceMul, Nat.reduceEqDiff, reduceIte, reduceCtorEq, Nat.reduceLT]; exact rfl))
         rw [all_stop hJ hb]
         refine ⟨by first | rfl | (simp [*]; done), ?_⟩
         try (repeat' (first | with_reducible exact Fr.refl _ | with_reducible assumption | ((with_reducible apply Fr.trans) <;> with_reducible assumption) | ((with_reducible refine Fr.jn ?_ ?_ ?_); rotate_left; (focus with_reducible assumption); (focus ((try simp only [upd_n, jn_n]); omega))) | ((with_reducible refine Fr.upd ?_ ?_ ?_ ?_ ?_); rotate_left; (focus ((try simp only [upd_n, jn_n]); omega)); (focus ((try simp only [upd_n, jn_n]); omega)); (focus first | (left; ((try simp only [upd_n, jn_n]); omega)) | (right; simp; done)); (focus first | trivial | exact ⟨by ((try simp only [upd_n, jn_n]); omega), by ((try simp only [upd_n, jn_n]); omega)⟩)))))
      | (have hb : okSpo (g.Spots.getD i default) = true := by clear hJ; generalize g.Spots.getD i default = x at *; simp [okSpo, inB, *]
         refine ⟨by omega, by simp only [↓pb, qb, tb25, hG.one, lns22 hG.p, lns23 hG.q, lns24 hG.r, hEg, sp, Int.reduceToNat, Nat.reduceAdd, Nat.reduceMul, Nat.reduceEqDiff, reduceIte, reduceCtorEq, Nat.reduceLT]; exact congrArg _ (inc64 (by omega)), by focus (repeat' (first | with_reducible exact Fr.refl _ | with_reducible assumption | ((with_reducible apply Fr.trans) <;> with_reducible assumption) | ((with_reducible refine Fr.jn ?_ ?_ ?_); rotate_left; (focus with_reducible assumption); (focus ((try simp only [upd_n, jn_n]); omega))) | ((with_reducible refine Fr.upd ?_ ?_ ?_ ?_ ?_); rotate_left; (focus ((try simp only [upd_n, jn_n]); omega)); (focus ((try simp only [upd_n, jn_n]); omega)); (focus first | (left; ((try simp only [upd_n, jn_n]); omega)) | (right; simp; done)); (focus first | trivial | exact ⟨by ((try simp only [upd_n, jn_n]); omega), by ((try simp only [upd_n, jn_n]); omega)⟩)))), ?_⟩
         exact all_go hJ hb)
  have h2 := all_end hJ (by omega)
  have hb1 : h.get H.n = .cells [va, vb, vc] 26 .ex := by rw [hF.old H.n (by simp only [upd_n]; omega) (by simp), upd_get_same]
  have hb2 : h.rd H.n = some [va, vb, vc] := by rw [rd_def, hb1]; rfl
  clear hJ hF
  repeat' (first | ((with_reducible refine hK _ _ fun e2 hEn => ?_); clear hK K; simp only [lv25, forallC, forallL, and_true] at hEn; (try simp only [↓pb, qb, tb25, hG.one, lns22 hG.p, lns23 hG.q, lns24 hG.r, hE, ei, hb2, G.one, lns22 G.p, lns23 G.q, lns24 G.r, hEg, sp, Int.reduceToNat, Nat.reduceAdd, Nat.reduceMul, Nat.reduceEqDiff, reduceIte, reduceCtorEq, Nat.reduceLT] at hEn); clear hEg; (try clear eg); have hEg := hEn; clear hEn; rename Env => eg) | ((with_reducible first | apply oV_intro | apply oH_intro | apply oB_intro); (simp (disch := first | omega |  (simp only [mLenC, mLenN, mLenA, zs_len,  upd_n, jn_n]; first | done | omega) | (simp only [List.mem_cons, List.not_mem_nil, or_false, not_or, not_false_eq_true, upd_n, jn_n]; first | done | omega)) only [qc, qe, stG_agg, tb25, hG.one, lns22 hG.p, lns23 hG.q, lns24 hG.r, hE, ei, hb2, G.one, lns22 G.p, lns23 G.q, lns24 G.r, hEg, sp, Int.reduceToNat, Nat.reduceAdd, Nat.reduceMul, Nat.reduceEqDiff, reduceIte, reduceCtorEq, Nat.reduceLT]; with_reducible exact rfl); try simp only [↓pb, ↓pd, qb, qd, tb25, hG.one, lns22 hG.p, lns23 hG.q, lns24 hG.r, hE, ei, hb2, G.one, lns22 G.p, lns23 G.q, lns24 G.r, hEg, sp, Int.reduceToNat, Nat.reduceAdd, Nat.reduceMul, Nat.reduceEqDiff, reduceIte, reduceCtorEq, Nat.reduceLT]) | ((with_reducible first | apply WO_gT | apply WO_gF); exact rfl; (simp only [↓pb, qb, tb25, hG.one, lns22 hG.p, lns23 hG.q, lns24 hG.r, hE, ei, hb2, G.one, lns22 G.p, lns23 G.q, lns24 G.r, hEg, sp, Int.reduceToNat, Nat.reduceAdd, Nat.reduceMul, Nat.reduceEqDiff, reduceIte, reduceCtorEq, Nat.reduceLT]; with_reducible exact rfl); all_goals (intro hc; (first | exact absurd hc (by decide) | (simp only [hcs] at hc; first | contradiction | (exfalso; omega) | skip) | contradiction | skip); try simp only [↓pb, ↓pd, qb, qd, tb25, hG.one, lns22 hG.p, lns23 hG.q, lns24 hG.r, hE, ei, hb2, G.one, lns22 G.p, lns23 G.q, lns24 G.r, hc, hEg, sp, Int.reduceToNat, Nat.reduceAdd, Nat.reduceMul, Nat.reduceEqDiff, reduceIte, reduceCtorEq, Nat.reduceLT])) | ((with_reducible apply WO_callE); (simp only [↓pb, qb, tb25, hG.one, lns22 hG.p, lns23 hG.q, lns24 hG.r, hE, ei, hb2, G.one, lns22 G.p, lns23 G.q, lns24 G.r, hEg, sp, Int.reduceToNat, Nat.reduceAdd, Nat.reduceMul, Nat.reduceEqDiff, reduceIte, reduceCtorEq, Nat.reduceLT]; (first | exact f53 _ _ _ _ | exact f65 _ _ _)); try simp only [↓pb, ↓pd, qb, qd, tb25, hG.one, lns22 hG.p, lns23 hG.q, lns24 hG.r, hE, ei, hb2, G.one, lns22 G.p, lns23 G.q, lns24 G.r, hEg, sp, Int.reduceToNat, Nat.reduceAdd, Nat.reduceMul, Nat.reduceEqDiff, reduceIte, reduceCtorEq, Nat.reduceLT]) | ((with_reducible apply WO_callV); (focus (repeat' (first | with_reducible assumption | ((with_reducible refine Top.jn ?_ ?_); rotate_left; (focus with_reducible assumption)) | ((with_reducible refine Top.upd ?_ ?_ ?_ ?_); rotate_left; (focus ((try simp only [upd_n, jn_n]); omega)); (focus ((try simp only [upd_n, jn_n]); omega)); (focus first | trivial | exact ⟨by ((try simp only [upd_n, jn_n]); omega), by ((try simp only [upd_n, jn_n]); omega)⟩))))); (simp only [↓pb, qb, tb25, hG.one, lns22 hG.p, lns23 hG.q, lns24 hG.r, hE, ei, hb2, G.one, lns22 G.p, lns23 G.q, lns24 G.r, hEg, sp, Int.reduceToNat, Nat.reduceAdd, Nat.reduceMul, Nat.reduceEqDiff, reduceIte, reduceCtorEq, Nat.reduceLT]; (exact f66 _ _ _ _ _ _ _ (by (repeat' (first | with_reducible assumption | ((with_reducible refine Top.jn ?_ ?_); rotate_left; (focus with_reducible assumption)) | ((with_reducible refine Top.upd ?_ ?_ ?_ ?_); rotate_left; (focus ((try simp only [upd_n, jn_n]); omega)); (focus ((try simp only [upd_n, jn_n]); omega)); (focus first | trivial | exact ⟨by ((try simp only [upd_n, jn_n]); omega), by ((try simp only [upd_n, jn_n]); omega)⟩))))) (hG.fr (N := H.n) (by (repeat' (first | with_reducible exact Fr.refl _ | with_reducible assumption | ((with_reducible apply Fr.trans) <;> with_reducible assumption) | ((with_reducible refine Fr.jn ?_ ?_ ?_); rotate_left; (focus with_reducible assumption); (focus ((try simp only [upd_n, jn_n]); omega))) | ((with_reducible refine Fr.upd ?_ ?_ ?_ ?_ ?_); rotate_left; (focus ((try simp only [upd_n, jn_n]); omega)); (focus ((try simp only [upd_n, jn_n]); omega)); (focus first | (left; ((try simp only [upd_n, jn_n]); omega)) | (right; simp; done)); (focus first | trivial | exact ⟨by ((try simp only [upd_n, jn_n]); omega), by ((try simp only [upd_n, jn_n]); omega)⟩)))))))); (intro Gq hq hJq; try simp only [upd_n, jn_n] at hq); try simp only [↓pb, ↓pd, qb, qd, tb25, hG.one, lns22 hG.p, lns23 hG.q, lns24 hG.r, hE, ei, hb2, G.one, lns22 G.p, lns23 G.q, lns24 G.r, hEg, sp, Int.reduceToNat, Nat.reduceAdd, Nat.reduceMul, Nat.reduceEqDiff, reduceIte, reduceCtorEq, Nat.reduceLT]) | (with_reducible first | refine W_seq ?_ | refine W_block ?_ | refine W_scope ?_ | refine W_skip ?_ | refine W_ret ?_ | refine W_exit ?_ | refine W_label ?_ | apply blockK_exit) | ((with_reducible apply blockK_pass); (focus decide)) | ((with_reducible refine W_regionF lv25 fun K hK => ?_); try simp only [↓pb, qb, tb25, hG.one, lns22 hG.p, lns23 hG.q, lns24 hG.r, hE, ei, hb2, G.one, lns22 G.p, lns23 G.q, lns24 G.r, hEg, sp, Int.reduceToNat, Nat.reduceAdd, Nat.reduceMul, Nat.reduceEqDiff, reduceIte, reduceCtorEq, Nat.reduceLT]) | ((with_reducible apply W_cond); (simp only [↓pb, qb, tb25, hG.one, lns22 hG.p, lns23 hG.q, lns24 hG.r, hE, ei, hb2, G.one, lns22 G.p, lns23 G.q, lns24 G.r, hEg, sp, Int.reduceToNat, Nat.reduceAdd, Nat.reduceMul, Nat.reduceEqDiff, reduceIte, reduceCtorEq, Nat.reduceLT]; with_reducible exact rfl); all_goals (intro hc; (first | exact absurd hc (by decide) | (simp only [hcs] at hc; first | contradiction | (exfalso; omega) | skip) | contradiction | skip))) | fail)
  · refine ⟨by first | exact .inl rfl | exact .inr rfl, ?_⟩
    rw [ret1 Try.results25]
    simp only [↓pb, qb, tb25, hG.one, lns22 hG.p, lns23 hG.q, lns24 hG.r, rv_tmp, rv_cell, hEg, sp, Int.reduceToNat, Nat.reduceAdd, Nat.reduceMul, Nat.reduceEqDiff, reduceIte, reduceCtorEq, Nat.reduceLT]
    repeat ((with_reducible apply oV_intro); (simp (disch := first | omega |  (simp only [mLenC, mLenN, mLenA, zs_len,  upd_n, jn_n]; first | done | omega) | (simp only [List.mem_cons, List.not_mem_nil, or_false, not_or, not_false_eq_true, upd_n, jn_n]; first | done | omega)) only [qc, qe, stG_agg, tb25, hG.one, lns22 hG.p, lns23 hG.q, lns24 hG.r, hEg, sp, Int.reduceToNat, Nat.reduceAdd, Nat.reduceMul, Nat.reduceEqDiff, reduceIte, reduceCtorEq, Nat.reduceLT]; exact rfl))
    rw [h2]
    refine ⟨by first | rfl | (simp [check2, *]; done), ?_⟩
    try (repeat' (first | with_reducible exact Fr.refl _ | with_reducible assumption | ((with_reducible apply Fr.trans) <;> with_reducible assumption) | ((with_reducible refine Fr.jn ?_ ?_ ?_); rotate_left; (focus with_reducible assumption); (focus ((try simp only [upd_n, jn_n]); omega))) | ((with_reducible refine Fr.upd ?_ ?_ ?_ ?_ ?_); rotate_left; (focus ((try simp only [upd_n, jn_n]); omega)); (focus ((try simp only [upd_n, jn_n]); omega)); (focus first | (left; ((try simp only [upd_n, jn_n]); omega)) | (right; simp; done)); (focus first | trivial | exact ⟨by ((try simp only [upd_n, jn_n]); omega), by ((try simp only [upd_n, jn_n]); omega)⟩))))
  have h3 : check g = if (g.Sorts.drop 0).all okSrt then check3 g else 1 := by
    rw [h2, check2, if_neg hc, List.drop_zero]
  clear hc hi2 h2
  have hEa := hE; have hbp := hb1
  refine W_count [1, 52, 53] (by kernel_rfl) 54 (g.Sorts.length) (H.n) [] [] (fun i e h => check g = if (g.Sorts.drop i).all okSrt then check3 g else 1) (by simp only [↓pb, qb, tb25, hG.one, lns22 hG.p, lns23 hG.q, lns24 hG.r, hEa, hEg, sp, Int.reduceToNat, Nat.reduceAdd, Nat.reduceMul, Nat.reduceEqDiff, reduceIte, reduceCtorEq, Nat.reduceLT]) (by focus (repeat' (first | with_reducible assumption | ((with_reducible refine Top.jn ?_ ?_); rotate_left; (focus with_reducible assumption)) | ((with_reducible refine Top.upd ?_ ?_ ?_ ?_); rotate_left; (focus ((try simp only [upd_n, jn_n]); omega)); (focus ((try simp only [upd_n, jn_n]); omega)); (focus first | trivial | exact ⟨by ((try simp only [upd_n, jn_n]); omega), by ((try simp only [upd_n, jn_n]); omega)⟩))))) (H0 := H) (by focus (repeat' (first | with_reducible exact Fr.refl _ | with_reducible assumption | ((with_reducible apply Fr.trans) <;> with_reducible assumption) | ((with_reducible refine Fr.jn ?_ ?_ ?_); rotate_left; (focus with_reducible assumption); (focus ((try simp only [upd_n, jn_n]); omega))) | ((with_reducible refine Fr.upd ?_ ?_ ?_ ?_ ?_); rotate_left; (focus ((try simp only [upd_n, jn_n]); omega)); (focus ((try simp only [upd_n, jn_n]); omega)); (focus first | (left; ((try simp only [upd_n, jn_n]); omega)) | (right; simp; done)); (focus first | trivial | exact ⟨by ((try simp only [upd_n, jn_n]); omega), by ((try simp only [upd_n, jn_n]); omega)⟩))))) (by intro b hb hlt; simp at hb ⊢; try omega) ?_ ?_
  rotate_left
  intro i e h hi hE ei hF hF0 hTh hJ
  simp only [forallC, forallL, and_true] at hE
  try simp only [↓pb, qb, tb25, hG.one, lns22 hG.p, lns23 hG.q, lns24 hG.r, hEa, hEg, sp, Int.reduceToNat, Nat.reduceAdd, Nat.reduceMul, Nat.reduceEqDiff, reduceIte, reduceCtorEq, Nat.reduceLT] at hE
  have hn1 := hF.n; have hn0 := hF0.n; try simp only [upd_n, jn_n] at hn1
  replace hEg := And.intro ei hE
  rotate_left
  · exact h3
  clear h3 hb1 hb2 G
  have G := hG.fr hF0
  have hb1 := (hF.old H.n (by omega) (by simp)).trans hbp
  have hb2 : h.rd H.n = some [va, vb, vc] := by rw [rd_def, hb1]; rfl
  by_cases hi2 : i < g.Sorts.length
  · rw [drop_getD hi2] at hJ
    repeat' (first | ((with_reducible refine hK _ _ fun e2 hEn => ?_); clear hK K; simp only [lv25, forallC, forallL, and_true] at hEn; (try simp only [↓pb, qb, tb25, hG.one, lns22 hG.p, lns23 hG.q, lns24 hG.r, hE, ei, G.one, lns22 G.p, lns23 G.q, lns24 G.r, ias23 G.q, (G.q.el eSrt_len rfl), G.q.rd, eSrt, hEg, sp, Int.reduceToNat, Nat.reduceAdd, Nat.reduceMul, Nat.reduceEqDiff, reduceIte, reduceCtorEq, Nat.reduceLT] at hEn); clear hEg; (try clear eg); have hEg := hEn; clear hEn; rename Env => eg) | ((with_reducible first | apply oV_intro | apply oH_intro | apply oB_intro); (simp (disch := first | omega |  (simp only [mLenC, mLenN, mLenA, zs_len,  upd_n, jn_n]; first | done | omega) | (simp only [List.mem_cons, List.not_mem_nil, or_false, not_or, not_false_eq_true, upd_n, jn_n]; first | done | omega)) only [qc, qe, stG_agg, tb25, hG.one, lns22 hG.p, lns23 hG.q, lns24 hG.r, hE, ei, G.one, lns22 G.p, lns23 G.q, lns24 G.r, ias23 G.q, (G.q.el eSrt_len rfl), G.q.rd, eSrt, hEg, sp, Int.reduceToNat, Nat.reduceAdd, Nat.reduceMul, Nat.reduceEqDiff, reduceIte, reduceCtorEq, Nat.reduceLT]; with_reducible exact rfl); try simp only [↓pb, ↓pd, qb, qd, tb25, hG.one, lns22 hG.p, lns23 hG.q, lns24 hG.r, hE, ei, G.one, lns22 G.p, lns23 G.q, lns24 G.r, ias23 G.q, (G.q.el eSrt_len rfl), G.q.rd, eSrt, hEg, sp, Int.reduceToNat, Nat.reduceAdd, Nat.reduceMul, Nat.reduceEqDiff, reduceIte, reduceCtorEq, Nat.reduceLT]) | ((with_reducible first | apply WO_gT | apply WO_gF); exact rfl; (simp only [↓pb, qb, tb25, hG.one, lns22 hG.p, lns23 hG.q, lns24 hG.r, hE, ei, G.one, lns22 G.p, lns23 G.q, lns24 G.r, ias23 G.q, (G.q.el eSrt_len rfl), G.q.rd, eSrt, hEg, sp, Int.reduceToNat, Nat.reduceAdd, Nat.reduceMul, Nat.reduceEqDiff, reduceIte, reduceCtorEq, Nat.reduceLT]; with_reducible exact rfl); all_goals (intro hc; (first | exact absurd hc (by decide) | (simp only [hcs] at hc; first | contradiction | (exfalso; omega) | skip) | contradiction | skip); try simp only [↓pb, ↓pd, qb, qd, tb25, hG.one, lns22 hG.p, lns23 hG.q, lns24 hG.r, hE, ei, G.one, lns22 G.p, lns23 G.q, lns24 G.r, ias23 G.q, (G.q.el eSrt_len rfl), G.q.rd, eSrt, hc, hEg, sp, Int.reduceToNat, Nat.reduceAdd, Nat.reduceMul, Nat.reduceEqDiff, reduceIte, reduceCtorEq, Nat.reduceLT])) | ((with_reducible apply WO_callE); (simp only [↓pb, qb, tb25, hG.one, lns22 hG.p, lns23 hG.q, lns24 hG.r, hE, ei, G.one, lns22 G.p, lns23 G.q, lns24 G.r, ias23 G.q, (G.q.el eSrt_len rfl), G.q.rd, eSrt, hEg, sp, Int.reduceToNat, Nat.reduceAdd, Nat.reduceMul, Nat.reduceEqDiff, reduceIte, reduceCtorEq, Nat.reduceLT]; (first | exact f53 _ _ _ _ | exact f65 _ _ _)); try simp only [↓pb, ↓pd, qb, qd, tb25, hG.one, lns22 hG.p, lns23 hG.q, lns24 hG.r, hE, ei, G.one, lns22 G.p, lns23 G.q, lns24 G.r, ias23 G.q, (G.q.el eSrt_len rfl), G.q.rd, eSrt, hEg, sp, Int.reduceToNat, Nat.reduceAdd, Nat.reduceMul, Nat.reduceEqDiff, reduceIte, reduceCtorEq, Nat.reduceLT]) | ((with_reducible apply WO_callV); (focus (repeat' (first | with_reducible assumption | ((with_reducible refine Top.jn ?_ ?_); rotate_left; (focus with_reducible assumption)) | ((with_reducible refine Top.upd ?_ ?_ ?_ ?_); rotate_left; (focus ((try simp only [upd_n, jn_n]); omega)); (focus ((try simp only [upd_n, jn_n]); omega)); (focus first | trivial | exact ⟨by ((try simp only [upd_n, jn_n]); omega), by ((try simp only [upd_n, jn_n]); omega)⟩))))); (simp only [↓pb, qb, tb25, hG.one, lns22 hG.p, lns23 hG.q, lns24 hG.r, hE, ei, G.one, lns22 G.p, lns23 G.q, lns24 G.r, ias23 G.q, (G.q.el eSrt_len rfl), G.q.rd, eSrt, hEg, sp, Int.reduceToNat, Nat.reduceAdd, Nat.reduceMul, Nat.reduceEqDiff, reduceIte, reduceCtorEq, Nat.reduceLT]; (exact f66 _ _ _ _ _ _ _ (by (repeat' (first | with_reducible assumption | ((with_reducible refine Top.jn ?_ ?_); rotate_left; (focus with_reducible assumption)) | ((with_reducible refine Top.upd ?_ ?_ ?_ ?_); rotate_left; (focus ((try simp only [upd_n, jn_n]); omega)); (focus ((try simp only [upd_n, jn_n]); omega)); (focus first | trivial | exact ⟨by ((try simp only [upd_n, jn_n]); omega), by ((try simp only [upd_n, jn_n]); omega)⟩))))) (hG.fr (N := H.n) (by (repeat' (first | with_reducible exact Fr.refl _ | with_reducible assumption | ((with_reducible apply Fr.trans) <;> with_reducible assumption) | ((with_reducible refine Fr.jn ?_ ?_ ?_); rotate_left; (focus with_reducible assumption); (focus ((try simp only [upd_n, jn_n]); omega))) | ((with_reducible refine Fr.upd ?_ ?_ ?_ ?_ ?_); rotate_left; (focus ((try simp only [upd_n, jn_n]); omega)); (focus ((try simp only [upd_n, jn_n]); omega)); (focus first | (left; ((try simp only [upd_n, jn_n]); omega)) | (right; simp; done)); (focus first | trivial | exact ⟨by ((try simp only [upd_n, jn_n]); omega), by ((try simp only [upd_n, jn_n]); omega)⟩)))))))); (intro Gq hq hJq; try simp only [upd_n, jn_n] at hq); try simp only [↓pb, ↓pd, qb, qd, tb25, hG.one, lns22 hG.p, lns23 hG.q, lns24 hG.r, hE, ei, G.one, lns22 G.p, lns23 G.q, lns24 G.r, ias23 G.q, (G.q.el eSrt_len rfl), G.q.rd, eSrt, hEg, sp, Int.reduceToNat, Nat.reduceAdd, Nat.reduceMul, Nat.reduceEqDiff, reduceIte, reduceCtorEq, Nat.reduceLT]) | (with_reducible first | refine W_seq ?_ | refine W_block ?_ | refine W_scope ?_ | refine W_skip ?_ | refine W_ret ?_ | refine W_exit ?_ | refine W_label ?_ | apply blockK_exit) | ((with_reducible apply blockK_pass); (focus decide)) | ((with_reducible refine W_regionF lv25 fun K hK => ?_); try simp only [↓pb, qb, tb25, hG.one, lns22 hG.p, lns23 hG.q, lns24 hG.r, hE, ei, G.one, lns22 G.p, lns23 G.q, lns24 G.r, ias23 G.q, (G.q.el eSrt_len rfl), G.q.rd, eSrt, hEg, sp, Int.reduceToNat, Nat.reduceAdd, Nat.reduceMul, Nat.reduceEqDiff, reduceIte, reduceCtorEq, Nat.reduceLT]) | ((with_reducible apply W_cond); (simp only [↓pb, qb, tb25, hG.one, lns22 hG.p, lns23 hG.q, lns24 hG.r, hE, ei, G.one, lns22 G.p, lns23 G.q, lns24 G.r, ias23 G.q, (G.q.el eSrt_len rfl), G.q.rd, eSrt, hEg, sp, Int.reduceToNat, Nat.reduceAdd, Nat.reduceMul, Nat.reduceEqDiff, reduceIte, reduceCtorEq, Nat.reduceLT]; with_reducible exact rfl); all_goals (intro hc; (first | exact absurd hc (by decide) | (simp only [hcs] at hc; first | contradiction | (exfalso; omega) | skip) | contradiction | skip))) | fail)
    all_goals first
      | (have hb : okSrt (g.Sorts.getD i default) = false := by clear hJ; generalize g.Sorts.getD i default = x at *; simp [okSrt, inB, *]
         refine ⟨by first | exact .inl rfl | exact .inr rfl, ?_⟩
         rw [ret1 Try.results25]
         simp only [↓pb, qb, tb25, hG.one, lns22 hG.p, lns23 hG.q, lns24 hG.r, rv_tmp, rv_cell, hEg, sp, Int.reduceToNat, Nat.reduceAdd, Nat.reduceMul, Nat.reduceEqDiff, reduceIte, reduceCtorEq, Nat.reduceLT]
         repeat ((with_reducible apply oV_intro); (simp (disch := first | omega |  (simp only [mLenC, mLenN, mLenA, zs_len,  upd_n, jn_n]; first | done | omega) | (simp only [List.mem_cons, List.not_mem_nil, or_false, not_or, not_false_eq_true, upd_n, jn_n]; first | done | omega)) only [qc, qe, stG_agg, tb25, hG.one, lns22 hG.p, lns23 hG.q, lns24 hG.r, hEg, sp, Int.reduceToNat, Nat.reduceAdd, Nat.reduceMul, Nat.reduceEqDiff, reduceIte, reduceCtorEq, Nat.reduceLT]; exact rfl))
         rw [all_stop hJ hb]
         refine ⟨by first | rfl | (simp [*]; done), ?_⟩
         try (repeat' (first | with_reducible exact Fr.refl _ | with_reducible assumption | ((with_reducible apply Fr.trans) <;> with_reducible assumption) | ((with_reducible refine Fr.jn ?_ ?_ ?_); rotate_left; (focus with_reducible assumption); (focus ((try simp only [upd_n, jn_n]); omega))) | ((with_reducible refine Fr.upd ?_ ?_ ?_ ?_ ?_); rotate_left; (focus ((try simp only [upd_n, jn_n]); omega)); (focus ((try simp only [upd_n, jn_n]); omega)); (focus first | (left; ((try simp only [upd_n, jn_n]); omega)) | (right; simp; done)); (focus first | trivial | exact ⟨by ((try simp only [upd_n, jn_n]); omega), by ((try simp only [upd_n, jn_n]); omega)⟩)))))
      | (have hb : okSrt (g.Sorts.getD i default) = true := by clear hJ; generalize g.Sorts.getD i default = x at *; simp [okSrt, inB, *]
         refine ⟨by omega, by simp only [↓pb, qb, tb25, hG.one, lns22 hG.p, lns23 hG.q, lns24 hG.r, hEg, sp, Int.reduceToNat, Nat.reduceAdd, Nat.reduceMul, Nat.reduceEqDiff, reduceIte, reduceCtorEq, Nat.reduceLT]; exact congrArg _ (inc64 (by omega)), by focus (repeat' (first | with_reducible exact Fr.refl _ | with_reducible assumption | ((with_reducible apply Fr.trans) <;> with_reducible assumption) | ((with_reducible refine Fr.jn ?_ ?_ ?_); rotate_left; (focus with_reducible assumption); (focus ((try simp only [upd_n, jn_n]); omega))) | ((with_reducible refine Fr.upd ?_ ?_ ?_ ?_ ?_); rotate_left; (focus ((try simp only [upd_n, jn_n]); omega)); (focus ((try simp only [upd_n, jn_n]); omega)); (focus first | (left; ((try simp only [upd_n, jn_n]); omega)) | (right; simp; done)); (focus first | trivial | exact ⟨by ((try simp only [upd_n, jn_n]); omega), by ((try simp only [upd_n, jn_n]); omega)⟩)))), ?_⟩
         exact all_go hJ hb)
  have h2 := all_end hJ (by omega)
  clear hJ hF
  repeat' (first | ((with_reducible refine hK _ _ fun e2 hEn => ?_); clear hK K; simp only [lv25, forallC, forallL, and_true] at hEn; (try simp only [↓pb, qb, tb25, hG.one, lns22 hG.p, lns23 hG.q, lns24 hG.r, hE, ei, hb2, G.one, lns22 G.p, lns23 G.q, lns24 G.r, hEg, sp, Int.reduceToNat, Nat.reduceAdd, Nat.reduceMul, Nat.reduceEqDiff, reduceIte, reduceCtorEq, Nat.reduceLT] at hEn); clear hEg; (try clear eg); have hEg := hEn; clear hEn; rename Env => eg) | ((with_reducible first | apply oV_intro | apply oH_intro | apply oB_intro); (simp (disch := first | omega |  (simp only [mLenC, mLenN, mLenA, zs_len,  upd_n, jn_n]; first | done | omega) | (simp only [List.mem_cons, List.not_mem_nil, or_false, not_or, not_false_eq_true, upd_n, jn_n]; first | done | omega)) only [qc, qe, stG_agg, tb25, hG.one, lns22 hG.p, lns23 hG.q, lns24 hG.r, hE, ei, hb2, G.one, lns22 G.p, lns23 G.q, lns24 G.r, hEg, sp, Int.reduceToNat, Nat.reduceAdd, Nat.reduceMul, Nat.reduceEqDiff, reduceIte, reduceCtorEq, Nat.reduceLT]; with_reducible exact rfl); try simp only [↓pb, ↓pd, qb, qd, tb25, hG.one, lns22 hG.p, lns23 hG.q, lns24 hG.r, hE, ei, hb2, G.one, lns22 G.p, lns23 G.q, lns24 G.r, hEg, sp, Int.reduceToNat, Nat.reduceAdd, Nat.reduceMul, Nat.reduceEqDiff, reduceIte, reduceCtorEq, Nat.reduceLT]) | ((with_reducible first | apply WO_gT | apply WO_gF); exact rfl; (simp only [↓pb, qb, tb25, hG.one, lns22 hG.p, lns23 hG.q, lns24 hG.r, hE, ei, hb2, G.one, lns22 G.p, lns23 G.q, lns24 G.r, hEg, sp, Int.reduceToNat, Nat.reduceAdd, Nat.reduceMul, Nat.reduceEqDiff, reduceIte, reduceCtorEq, Nat.reduceLT]; with_reducible exact rfl); all_goals (intro hc; (first | exact absurd hc (by decide) | (simp only [hcs] at hc; first | contradiction | (exfalso; omega) | skip) | contradiction | skip); try simp only [↓pb, ↓pd, qb, qd, tb25, hG.one, lns22 hG.p, lns23 hG.q, lns24 hG.r, hE, ei, hb2, G.one, lns22 G.p, lns23 G.q, lns24 G.r, hc, hEg, sp, Int.reduceToNat, Nat.reduceAdd, Nat.reduceMul, Nat.reduceEqDiff, reduceIte, reduceCtorEq, Nat.reduceLT])) | ((with_reducible apply WO_callE); (simp only [↓pb, qb, tb25, hG.one, lns22 hG.p, lns23 hG.q, lns24 hG.r, hE, ei, hb2, G.one, lns22 G.p, lns23 G.q, lns24 G.r, hEg, sp, Int.reduceToNat, Nat.reduceAdd, Nat.reduceMul, Nat.reduceEqDiff, reduceIte, reduceCtorEq, Nat.reduceLT]; (first | exact f53 _ _ _ _ | exact f65 _ _ _)); try simp only [↓pb, ↓pd, qb, qd, tb25, hG.one, lns22 hG.p, lns23 hG.q, lns24 hG.r, hE, ei, hb2, G.one, lns22 G.p, lns23 G.q, lns24 G.r, hEg, sp, Int.reduceToNat, Nat.reduceAdd, Nat.reduceMul, Nat.reduceEqDiff, reduceIte, reduceCtorEq, Nat.reduceLT]) | ((with_reducible apply WO_callV); (focus (repeat' (first | with_reducible assumption | ((with_reducible refine Top.jn ?_ ?_); rotate_left; (focus with_reducible assumption)) | ((with_reducible refine Top.upd ?_ ?_ ?_ ?_); rotate_left; (focus ((try simp only [upd_n, jn_n]); omega)); (focus ((try simp only [upd_n, jn_n]); omega)); (focus first | trivial | exact ⟨by ((try simp only [upd_n, jn_n]); omega), by ((try simp only [upd_n, jn_n]); omega)⟩))))); (simp only [↓pb, qb, tb25, hG.one, lns22 hG.p, lns23 hG.q, lns24 hG.r, hE, ei, hb2, G.one, lns22 G.p, lns23 G.q, lns24 G.r, hEg, sp, Int.reduceToNat, Nat.reduceAdd, Nat.reduceMul, Nat.reduceEqDiff, reduceIte, reduceCtorEq, Nat.reduceLT]; (exact f66 _ _ _ _ _ _ _ (by (repeat' (first | with_reducible assumption | ((with_reducible refine Top.jn ?_ ?_); rotate_left; (focus with_reducible assumption)) | ((with_reducible refine Top.upd ?_ ?_ ?_ ?_); rotate_left; (focus ((try simp only [upd_n, jn_n]); omega)); (focus ((try simp only [upd_n, jn_n]); omega)); (focus first | trivial | exact ⟨by ((try simp only [upd_n, jn_n]); omega), by ((try simp only [upd_n, jn_n]); omega)⟩))))) (hG.fr (N := H.n) (by (repeat' (first | with_reducible exact Fr.refl _ | with_reducible assumption | ((with_reducible apply Fr.trans) <;> with_reducible assumption) | ((with_reducible refine Fr.jn ?_ ?_ ?_); rotate_left; (focus with_reducible assumption); (focus ((try simp only [upd_n, jn_n]); omega))) | ((with_reducible refine Fr.upd ?_ ?_ ?_ ?_ ?_); rotate_left; (focus ((try simp only [upd_n, jn_n]); omega)); (focus ((try simp only [upd_n, jn_n]); omega)); (focus first | (left; ((try simp only [upd_n, jn_n]); omega)) | (right; simp; done)); (focus first | trivial | exact ⟨by ((try simp only [upd_n, jn_n]); omega), by ((try simp only [upd_n, jn_n]); omega)⟩)))))))); (intro Gq hq hJq; try simp only [upd_n, jn_n] at hq); try simp only [↓pb, ↓pd, qb, qd, tb25, hG.one, lns22 hG.p, lns23 hG.q, lns24 hG.r, hE, ei, hb2, G.one, lns22 G.p, lns23 G.q, lns24 G.r, hEg, sp, Int.reduceToNat, Nat.reduceAdd, Nat.reduceMul, Nat.reduceEqDiff, reduceIte, reduceCtorEq, Nat.reduceLT]) | (with_reducible first | refine W_seq ?_ | refine W_block ?_ | refine W_scope ?_ | refine W_skip ?_ | refine W_ret ?_ | refine W_exit ?_ | refine W_label ?_ | apply blockK_exit) | ((with_reducible apply blockK_pass); (focus decide)) | ((with_reducible refine W_regionF lv25 fun K hK => ?_); try simp only [↓pb, qb, tb25, hG.one, lns22 hG.p, lns23 hG.q, lns24 hG.r, hE, ei, hb2, G.one, lns22 G.p, lns23 G.q, lns24 G.r, hEg, sp, Int.reduceToNat, Nat.reduceAdd, Nat.reduceMul, Nat.reduceEqDiff, reduceIte, reduceCtorEq, Nat.reduceLT]) | ((with_reducible apply W_cond); (simp only [↓pb, qb, tb25, hG.one, lns22 hG.p, lns23 hG.q, lns24 hG.r, hE, ei, hb2, G.one, lns22 G.p, lns23 G.q, lns24 G.r, hEg, sp, Int.reduceToNat, Nat.reduceAdd, Nat.reduceMul, Nat.reduceEqDiff, reduceIte, reduceCtorEq, Nat.reduceLT]; with_reducible exact rfl); all_goals (intro hc; (first | exact absurd hc (by decide) | (simp only [hcs] at hc; first | contradiction | (exfalso; omega) | skip) | contradiction | skip))) | fail)
  · refine ⟨by first | exact .inl rfl | exact .inr rfl, ?_⟩
    rw [ret1 Try.results25]
    simp only [↓pb, qb, tb25, hG.one, lns22 hG.p, lns23 hG.q, lns24 hG.r, rv_tmp, rv_cell, hEg, sp, Int.reduceToNat, Nat.reduceAdd, Nat.reduceMul, Nat.reduceEqDiff, reduceIte, reduceCtorEq, Nat.reduceLT]
    repeat ((with_reducible apply oV_intro); (simp (disch := first | omega |  (simp only [mLenC, mLenN, mLenA, zs_len,  upd_n, jn_n]; first | done | omega) | (simp only [List.mem_cons, List.not_mem_nil, or_false, not_or, not_false_eq_true, upd_n, jn_n]; first | done | omega)) only [qc, qe, stG_agg, tb25, hG.one, lns22 hG.p, lns23 hG.q, lns24 hG.r, hEg, sp, Int.reduceToNat, Nat.reduceAdd, Nat.reduceMul, Nat.reduceEqDiff, reduceIte, reduceCtorEq, Nat.reduceLT]; exact rfl))
    rw [h2, check3, if_pos (by omega)]
    refine ⟨by first | rfl | (simp [*]; done), ?_⟩
    try (repeat' (first | with_reducible exact Fr.refl _ | with_reducible assumption | ((with_reducible apply Fr.trans) <;> with_reducible assumption) | ((with_reducible refine Fr.jn ?_ ?_ ?_); rotate_left; (focus with_reducible assumption); (focus ((try simp only [upd_n, jn_n]); omega))) | ((with_reducible refine Fr.upd ?_ ?_ ?_ ?_ ?_); rotate_left; (focus ((try simp only [upd_n, jn_n]); omega)); (focus ((try simp only [upd_n, jn_n]); omega)); (focus first | (left; ((try simp only [upd_n, jn_n]); omega)) | (right; simp; done)); (focus first | trivial | exact ⟨by ((try simp only [upd_n, jn_n]); omega), by ((try simp only [upd_n, jn_n]); omega)⟩))))
  have h3 : check g = checkActs g 0 (g.Acts.drop 0) := by
    rw [h2, check3, if_neg (by omega), List.drop_zero]
  clear hi2 h2
  have hEb := hE; have hbp := hb1
  refine W_count [1, 86, 87] (by kernel_rfl) 88 (g.Acts.length) (H.n) [] [] (fun i e h => ∃ last, e 9 = iv last ∧ check g = checkActs g last (g.Acts.drop i)) (by simp only [↓pb, qb, tb25, hG.one, lns22 hG.p, lns23 hG.q, lns24 hG.r, hEb, hEg, sp, Int.reduceToNat, Nat.reduceAdd, Nat.reduceMul, Nat.reduceEqDiff, reduceIte, reduceCtorEq, Nat.reduceLT]) (by focus (repeat' (first | with_reducible assumption | ((with_reducible refine Top.jn ?_ ?_); rotate_left; (focus with_reducible assumption)) | ((with_reducible refine Top.upd ?_ ?_ ?_ ?_); rotate_left; (focus ((try simp only [upd_n, jn_n]); omega)); (focus ((try simp only [upd_n, jn_n]); omega)); (focus first | trivial | exact ⟨by ((try simp only [upd_n, jn_n]); omega), by ((try simp only [upd_n, jn_n]); omega)⟩))))) (H0 := H) (by focus (repeat' (first | with_reducible exact Fr.refl _ | with_reducible assumption | ((with_reducible apply Fr.trans) <;> with_reducible assumption) | ((with_reducible refine Fr.jn ?_ ?_ ?_); rotate_left; (focus with_reducible assumption); (focus ((try simp only [upd_n, jn_n]); omega))) | ((with_reducible refine Fr.upd ?_ ?_ ?_ ?_ ?_); rotate_left; (focus ((try simp only [upd_n, jn_n]); omega)); (focus ((try simp only [upd_n, jn_n]); omega)); (focus first | (left; ((try simp only [upd_n, jn_n]); omega)) | (right; simp; done)); (focus first | trivial | exact ⟨by ((try simp only [upd_n, jn_n]); omega), by ((try simp only [upd_n, jn_n]); omega)⟩))))) (by intro b hb hlt; simp at hb ⊢; try omega) ?_ ?_
  rotate_left
  intro i e h hi hE ei hF hF0 hTh hJ
  simp only [forallC, forallL, and_true] at hE
  try simp only [↓pb, qb, tb25, hG.one, lns22 hG.p, lns23 hG.q, lns24 hG.r, hEb, hEg, sp, Int.reduceToNat, Nat.reduceAdd, Nat.reduceMul, Nat.reduceEqDiff, reduceIte, reduceCtorEq, Nat.reduceLT] at hE
  have hn1 := hF.n; have hn0 := hF0.n; try simp only [upd_n, jn_n] at hn1
  replace hEg := And.intro ei hE
  rotate_left
  · exact ⟨0, by simp only [↓pb, qb, tb25, hG.one, lns22 hG.p, lns23 hG.q, lns24 hG.r, hEg, sp, Int.reduceToNat, Nat.reduceAdd, Nat.reduceMul, Nat.reduceEqDiff, reduceIte, reduceCtorEq, Nat.reduceLT], h3⟩
  obtain ⟨last, e9, hJ⟩ := hJ
  clear h3 hb1 hb2 G
  have G := hG.fr hF0
  have hb1 := (hF.old H.n (by omega) (by simp)).trans hbp
  have hb2 : h.rd H.n = some [va, vb, vc] := by rw [rd_def, hb1]; rfl
  by_cases hi2 : i < g.Acts.length
  · rw [drop_getD hi2] at hJ
    repeat' (first | ((with_reducible refine hK _ _ fun e2 hEn => ?_); clear hK K; simp only [lv25, forallC, forallL, and_true] at hEn; (try simp only [↓pb, qb, tb25, hG.one, lns22 hG.p, lns23 hG.q, lns24 hG.r, hE, ei, e9, hb2, G.one, lns22 G.p, lns23 G.q, lns24 G.r, ias24 G.r, (G.r.el eAct_len rfl), G.r.rd, eAct, hEg, sp, Int.reduceToNat, Nat.reduceAdd, Nat.reduceMul, Nat.reduceEqDiff, reduceIte, reduceCtorEq, Nat.reduceLT] at hEn); clear hEg; (try clear eg); have hEg := hEn; clear hEn; rename Env => eg) | ((with_reducible first | apply oV_intro | apply oH_intro | apply oB_intro); (simp (disch := first | omega |  (simp only [mLenC, mLenN, mLenA, zs_len,  upd_n, jn_n]; first | done | omega) | (simp only [List.mem_cons, List.not_mem_nil, or_false, not_or, not_false_eq_true, upd_n, jn_n]; first | done | omega)) only [qc, qe, stG_agg, tb25, hG.one, lns22 hG.p, lns23 hG.q, lns24 hG.r, hE, ei, e9, hb2, G.one, lns22 G.p, lns23 G.q, lns24 G.r, ias24 G.r, (G.r.el eAct_len rfl), G.r.rd, eAct, hEg, sp, Int.reduceToNat, Nat.reduceAdd, Nat.reduceMul, Nat.reduceEqDiff, reduceIte, reduceCtorEq, Nat.reduceLT]; with_reducible exact rfl); try simp only [↓pb, ↓pd, qb, qd, tb25, hG.one, lns22 hG.p, lns23 hG.q, lns24 hG.r, hE, ei, e9, hb2, G.one, lns22 G.p, lns23 G.q, lns24 G.r, ias24 G.r, (G.r.el eAct_len rfl), G.r.rd, eAct, hEg, sp, Int.reduceToNat, Nat.reduceAdd, Nat.reduceMul, Nat.reduceEqDiff, reduceIte, reduceCtorEq, Nat.reduceLT]) | ((with_reducible first | apply WO_gT | apply WO_gF); exact rfl; (simp only [↓pb, qb, tb25, hG.one, lns22 hG.p, lns23 hG.q, lns24 hG.r, hE, ei, e9, hb2, G.one, lns22 G.p, lns23 G.q, lns24 G.r, ias24 G.r, (G.r.el eAct_len rfl), G.r.rd, eAct, hEg, sp, Int.reduceToNat, Nat.reduceAdd, Nat.reduceMul, Nat.reduceEqDiff, reduceIte, reduceCtorEq, Nat.reduceLT]; with_reducible exact rfl); all_goals (intro hc; (first | exact absurd hc (by decide) | (simp only [hcs] at hc; first | contradiction | (exfalso; omega) | skip) | contradiction | skip); try simp only [↓pb, ↓pd, qb, qd, tb25, hG.one, lns22 hG.p, lns23 hG.q, lns24 hG.r, hE, ei, e9, hb2, G.one, lns22 G.p, lns23 G.q, lns24 G.r, ias24 G.r, (G.r.el eAct_len rfl), G.r.rd, eAct, hc, hEg, sp, Int.reduceToNat, Nat.reduceAdd, Nat.reduceMul, Nat.reduceEqDiff, reduceIte, reduceCtorEq, Nat.reduceLT])) | ((with_reducible apply WO_callE); (simp only [↓pb, qb, tb25, hG.one, lns22 hG.p, lns23 hG.q, lns24 hG.r, hE, ei, e9, hb2, G.one, lns22 G.p, lns23 G.q, lns24 G.r, ias24 G.r, (G.r.el eAct_len rfl), G.r.rd, eAct, hEg, sp, Int.reduceToNat, Nat.reduceAdd, Nat.reduceMul, Nat.reduceEqDiff, reduceIte, reduceCtorEq, Nat.reduceLT]; (first | exact f53 _ _ _ _ | exact f65 _ _ _)); try simp only [↓pb, ↓pd, qb, qd, tb25, hG.one, lns22 hG.p, lns23 hG.q, lns24 hG.r, hE, ei, e9, hb2, G.one, lns22 G.p, lns23 G.q, lns24 G.r, ias24 G.r, (G.r.el eAct_len rfl), G.r.rd, eAct, hEg, sp, Int.reduceToNat, Nat.reduceAdd, Nat.reduceMul, Nat.reduceEqDiff, reduceIte, reduceCtorEq, Nat.reduceLT]) | ((with_reducible apply WO_callV); (focus (repeat' (first | with_reducible assumption | ((with_reducible refine Top.jn ?_ ?_); rotate_left; (focus with_reducible assumption)) | ((with_reducible refine Top.upd ?_ ?_ ?_ ?_); rotate_left; (focus ((try simp only [upd_n, jn_n]); omega)); (focus ((try simp only [upd_n, jn_n]); omega)); (focus first | trivial | exact ⟨by ((try simp only [upd_n, jn_n]); omega), by ((try simp only [upd_n, jn_n]); omega)⟩))))); (simp only [↓pb, qb, tb25, hG.one, lns22 hG.p, lns23 hG.q, lns24 hG.r, hE, ei, e9, hb2, G.one, lns22 G.p, lns23 G.q, lns24 G.r, ias24 G.r, (G.r.el eAct_len rfl), G.r.rd, eAct, hEg, sp, Int.reduceToNat, Nat.reduceAdd, Nat.reduceMul, Nat.reduceEqDiff, reduceIte, reduceCtorEq, Nat.reduceLT]; (exact f66 _ _ _ _ _ _ _ (by (repeat' (first | with_reducible assumption | ((with_reducible refine Top.jn ?_ ?_); rotate_left; (focus with_reducible assumption)) | ((with_reducible refine Top.upd ?_ ?_ ?_ ?_); rotate_left; (focus ((try simp only [upd_n, jn_n]); omega)); (focus ((try simp only [upd_n, jn_n]); omega)); (focus first | trivial | exact ⟨by ((try simp only [upd_n, jn_n]); omega), by ((try simp only [upd_n, jn_n]); omega)⟩))))) (hG.fr (N := H.n) (by (repeat' (first | with_reducible exact Fr.refl _ | with_reducible assumption | ((with_reducible apply Fr.trans) <;> with_reducible assumption) | ((with_reducible refine Fr.jn ?_ ?_ ?_); rotate_left; (focus with_reducible assumption); (focus ((try simp only [upd_n, jn_n]); omega))) | ((with_reducible refine Fr.upd ?_ ?_ ?_ ?_ ?_); rotate_left; (focus ((try simp only [upd_n, jn_n]); omega)); (focus ((try simp only [upd_n, jn_n]); omega)); (focus first | (left; ((try simp only [upd_n, jn_n]); omega)) | (right; simp; done)); (focus first | trivial | exact ⟨by ((try simp only [upd_n, jn_n]); omega), by ((try simp only [upd_n, jn_n]); omega)⟩)))))))); (intro Gq hq hJq; try simp only [upd_n, jn_n] at hq); try simp only [↓pb, ↓pd, qb, qd, tb25, hG.one, lns22 hG.p, lns23 hG.q, lns24 hG.r, hE, ei, e9, hb2, G.one, lns22 G.p, lns23 G.q, lns24 G.r, ias24 G.r, (G.r.el eAct_len rfl), G.r.rd, eAct, hEg, sp, Int.reduceToNat, Nat.reduceAdd, Nat.reduceMul, Nat.reduceEqDiff, reduceIte, reduceCtorEq, Nat.reduceLT]) | (with_reducible first | refine W_seq ?_ | refine W_block ?_ | refine W_scope ?_ | refine W_skip ?_ | refine W_ret ?_ | refine W_exit ?_ | refine W_label ?_ | apply blockK_exit) | ((with_reducible apply blockK_pass); (focus decide)) | ((with_reducible refine W_regionF lv25 fun K hK => ?_); try simp only [↓pb, qb, tb25, hG.one, lns22 hG.p, lns23 hG.q, lns24 hG.r, hE, ei, e9, hb2, G.one, lns22 G.p, lns23 G.q, lns24 G.r, ias24 G.r, (G.r.el eAct_len rfl), G.r.rd, eAct, hEg, sp, Int.reduceToNat, Nat.reduceAdd, Nat.reduceMul, Nat.reduceEqDiff, reduceIte, reduceCtorEq, Nat.reduceLT]) | ((with_reducible apply W_cond); (simp only [↓pb, qb, tb25, hG.one, lns22 hG.p, lns23 hG.q, lns24 hG.r, hE, ei, e9, hb2, G.one, lns22 G.p, lns23 G.q, lns24 G.r, ias24 G.r, (G.r.el eAct_len rfl), G.r.rd, eAct, hEg, sp, Int.reduceToNat, Nat.reduceAdd, Nat.reduceMul, Nat.reduceEqDiff, reduceIte, reduceCtorEq, Nat.reduceLT]; with_reducible exact rfl); all_goals (intro hc; (first | exact absurd hc (by decide) | (simp only [hcs] at hc; first | contradiction | (exfalso; omega) | skip) | contradiction | skip))) | fail)
    · refine ⟨by first | exact .inl rfl | exact .inr rfl, ?_⟩
      rw [ret1 Try.results25]
      simp only [↓pb, qb, tb25, hG.one, lns22 hG.p, lns23 hG.q, lns24 hG.r, rv_tmp, rv_cell, hEg, sp, Int.reduceToNat, Nat.reduceAdd, Nat.reduceMul, Nat.reduceEqDiff, reduceIte, reduceCtorEq, Nat.reduceLT]
      repeat ((with_reducible apply oV_intro); (simp (disch := first | omega |  (simp only [mLenC, mLenN, mLenA, zs_len,  upd_n, jn_n]; first | done | omega) | (simp only [List.mem_cons, List.not_mem_nil, or_false, not_or, not_false_eq_true, upd_n, jn_n]; first | done | omega)) only [qc, qe, stG_agg, tb25, hG.one, lns22 hG.p, lns23 hG.q, lns24 hG.r, hEg, sp, Int.reduceToNat, Nat.reduceAdd, Nat.reduceMul, Nat.reduceEqDiff, reduceIte, reduceCtorEq, Nat.reduceLT]; exact rfl))
      rw [hJ, checkActs, if_pos hc]
      refine ⟨by first | rfl | (simp [*]; done), ?_⟩
      try (repeat' (first | with_reducible exact Fr.refl _ | with_reducible assumption | ((with_reducible apply Fr.trans) <;> with_reducible assumption) | ((with_reducible refine Fr.jn ?_ ?_ ?_); rotate_left; (focus with_reducible assumption); (focus ((try simp only [upd_n, jn_n]); omega))) | ((with_reducible refine Fr.upd ?_ ?_ ?_ ?_ ?_); rotate_left; (focus ((try simp only [upd_n, jn_n]); omega)); (focus ((try simp only [upd_n, jn_n]); omega)); (focus first | (left; ((try simp only [upd_n, jn_n]); omega)) | (right; simp; done)); (focus first | trivial | exact ⟨by ((try simp only [upd_n, jn_n]); omega), by ((try simp only [upd_n, jn_n]); omega)⟩))))
    · refine ⟨by omega, by simp only [↓pb, qb, tb25, hG.one, lns22 hG.p, lns23 hG.q, lns24 hG.r, e9, hEg, sp, Int.reduceToNat, Nat.reduceAdd, Nat.reduceMul, Nat.reduceEqDiff, reduceIte, reduceCtorEq, Nat.reduceLT]; exact congrArg _ (inc64 (by omega)), by focus (repeat' (first | with_reducible exact Fr.refl _ | with_reducible assumption | ((with_reducible apply Fr.trans) <;> with_reducible assumption) | ((with_reducible refine Fr.jn ?_ ?_ ?_); rotate_left; (focus with_reducible assumption); (focus ((try simp only [upd_n, jn_n]); omega))) | ((with_reducible refine Fr.upd ?_ ?_ ?_ ?_ ?_); rotate_left; (focus ((try simp only [upd_n, jn_n]); omega)); (focus ((try simp only [upd_n, jn_n]); omega)); (focus first | (left; ((try simp only [upd_n, jn_n]); omega)) | (right; simp; done)); (focus first | trivial | exact ⟨by ((try simp only [upd_n, jn_n]); omega), by ((try simp only [upd_n, jn_n]); omega)⟩)))), ?_⟩
      refine ⟨_, by simp only [↓pb, qb, tb25, hG.one, lns22 hG.p, lns23 hG.q, lns24 hG.r, hEg, sp, Int.reduceToNat, Nat.reduceAdd, Nat.reduceMul, Nat.reduceEqDiff, reduceIte, reduceCtorEq, Nat.reduceLT]; exact rfl, ?_⟩
      rw [hJ, checkActs, if_neg hc]
  · rw [List.drop_of_length_le (by omega)] at hJ
    repeat' (first | ((with_reducible refine hK _ _ fun e2 hEn => ?_); clear hK K; simp only [lv25, forallC, forallL, and_true] at hEn; (try simp only [↓pb, qb, tb25, hG.one, lns22 hG.p, lns23 hG.q, lns24 hG.r, hE, ei, e9, hEg, sp, Int.reduceToNat, Nat.reduceAdd, Nat.reduceMul, Nat.reduceEqDiff, reduceIte, reduceCtorEq, Nat.reduceLT] at hEn); clear hEg; (try clear eg); have hEg := hEn; clear hEn; rename Env => eg) | ((with_reducible first | apply oV_intro | apply oH_intro | apply oB_intro); (simp (disch := first | omega |  (simp only [mLenC, mLenN, mLenA, zs_len,  upd_n, jn_n]; first | done | omega) | (simp only [List.mem_cons, List.not_mem_nil, or_false, not_or, not_false_eq_true, upd_n, jn_n]; first | done | omega)) only [qc, qe, stG_agg, tb25, hG.one, lns22 hG.p, lns23 hG.q, lns24 hG.r, hE, ei, e9, hEg, sp, Int.reduceToNat, Nat.reduceAdd, Nat.reduceMul, Nat.reduceEqDiff, reduceIte, reduceCtorEq, Nat.reduceLT]; with_reducible exact rfl); try simp only [↓pb, ↓pd, qb, qd, tb25, hG.one, lns22 hG.p, lns23 hG.q, lns24 hG.r, hE, ei, e9, hEg, sp, Int.reduceToNat, Nat.reduceAdd, Nat.reduceMul, Nat.reduceEqDiff, reduceIte, reduceCtorEq, Nat.reduceLT]) | ((with_reducible first | apply WO_gT | apply WO_gF); exact rfl; (simp only [↓pb, qb, tb25, hG.one, lns22 hG.p, lns23 hG.q, lns24 hG.r, hE, ei, e9, hEg, sp, Int.reduceToNat, Nat.reduceAdd, Nat.reduceMul, Nat.reduceEqDiff, reduceIte, reduceCtorEq, Nat.reduceLT]; with_reducible exact rfl); all_goals (intro hc; (first | exact absurd hc (by decide) | (simp only [hcs] at hc; first | contradiction | (exfalso; omega) | skip) | contradiction | skip); try simp only [↓pb, ↓pd, qb, qd, tb25, hG.one, lns22 hG.p, lns23 hG.q, lns24 hG.r, hE, ei, e9, hc, hEg, sp, Int.reduceToNat, Nat.reduceAdd, Nat.reduceMul, Nat.reduceEqDiff, reduceIte, reduceCtorEq, Nat.reduceLT])) | ((with_reducible apply WO_callE); (simp only [↓pb, qb, tb25, hG.one, lns22 hG.p, lns23 hG.q, lns24 hG.r, hE, ei, e9, hEg, sp, Int.reduceToNat, Nat.reduceAdd, Nat.reduceMul, Nat.reduceEqDiff, reduceIte, reduceCtorEq, Nat.reduceLT]; (first | exact f53 _ _ _ _ | exact f65 _ _ _)); try simp only [↓pb, ↓pd, qb, qd, tb25, hG.one, lns22 hG.p, lns23 hG.q, lns24 hG.r, hE, ei, e9, hEg, sp, Int.reduceToNat, Nat.reduceAdd, Nat.reduceMul, Nat.reduceEqDiff, reduceIte, reduceCtorEq, Nat.reduceLT]) | ((with_reducible apply WO_callV); (focus (repeat' (first | with_reducible assumption | ((with_reducible refine Top.jn ?_ ?_); rotate_left; (focus with_reducible assumption)) | ((with_reducible refine Top.upd ?_ ?_ ?_ ?_); rotate_left; (focus ((try simp only [upd_n, jn_n]); omega)); (focus ((try simp only [upd_n, jn_n]); omega)); (focus first | trivial | exact ⟨by ((try simp only [upd_n, jn_n]); omega), by ((try simp only [upd_n, jn_n]); omega)⟩))))); (simp only [↓pb, qb, tb25, hG.one, lns22 hG.p, lns23 hG.q, lns24 hG.r, hE, ei, e9, hEg, sp, Int.reduceToNat, Nat.reduceAdd, Nat.reduceMul, Nat.reduceEqDiff, reduceIte, reduceCtorEq, Nat.reduceLT]; (exact f66 _ _ _ _ _ _ _ (by (repeat' (first | with_reducible assumption | ((with_reducible refine Top.jn ?_ ?_); rotate_left; (focus with_reducible assumption)) | ((with_reducible refine Top.upd ?_ ?_ ?_ ?_); rotate_left; (focus ((try simp only [upd_n, jn_n]); omega)); (focus ((try simp only [upd_n, jn_n]); omega)); (focus first | trivial | exact ⟨by ((try simp only [upd_n, jn_n]); omega), by ((try simp only [upd_n, jn_n]); omega)⟩))))) (hG.fr (N := H.n) (by (repeat' (first | with_reducible exact Fr.refl _ | with_reducible assumption | ((with_reducible apply Fr.trans) <;> with_reducible assumption) | ((with_reducible refine Fr.jn ?_ ?_ ?_); rotate_left; (focus with_reducible assumption); (focus ((try simp only [upd_n, jn_n]); omega))) | ((with_reducible refine Fr.upd ?_ ?_ ?_ ?_ ?_); rotate_left; (focus ((try simp only [upd_n, jn_n]); omega)); (focus ((try simp only [upd_n, jn_n]); omega)); (focus first | (left; ((try simp only [upd_n, jn_n]); omega)) | (right; simp; done)); (focus first | trivial | exact ⟨by ((try simp only [upd_n, jn_n]); omega), by ((try simp only [upd_n, jn_n]); omega)⟩)))))))); (intro Gq hq hJq; try simp only [upd_n, jn_n] at hq); try simp only [↓pb, ↓pd, qb, qd, tb25, hG.one, lns22 hG.p, lns23 hG.q, lns24 hG.r, hE, ei, e9, hEg, sp, Int.reduceToNat, Nat.reduceAdd, Nat.reduceMul, Nat.reduceEqDiff, reduceIte, reduceCtorEq, Nat.reduceLT]) | (with_reducible first | refine W_seq ?_ | refine W_block ?_ | refine W_scope ?_ | refine W_skip ?_ | refine W_ret ?_ | refine W_exit ?_ | refine W_label ?_ | apply blockK_exit) | ((with_reducible apply blockK_pass); (focus decide)) | ((with_reducible refine W_regionF lv25 fun K hK => ?_); try simp only [↓pb, qb, tb25, hG.one, lns22 hG.p, lns23 hG.q, lns24 hG.r, hE, ei, e9, hEg, sp, Int.reduceToNat, Nat.reduceAdd, Nat.reduceMul, Nat.reduceEqDiff, reduceIte, reduceCtorEq, Nat.reduceLT]) | ((with_reducible apply W_cond); (simp only [↓pb, qb, tb25, hG.one, lns22 hG.p, lns23 hG.q, lns24 hG.r, hE, ei, e9, hEg, sp, Int.reduceToNat, Nat.reduceAdd, Nat.reduceMul, Nat.reduceEqDiff, reduceIte, reduceCtorEq, Nat.reduceLT]; with_reducible exact rfl); all_goals (intro hc; (first | exact absurd hc (by decide) | (simp only [hcs] at hc; first | contradiction | (exfalso; omega) | skip) | contradiction | skip))) | fail)
    refine ⟨by first | exact .inl rfl | exact .inr rfl, ?_⟩
    rw [ret1 Try.results25]
    simp only [↓pb, qb, tb25, hG.one, lns22 hG.p, lns23 hG.q, lns24 hG.r, rv_tmp, rv_cell, hEg, sp, Int.reduceToNat, Nat.reduceAdd, Nat.reduceMul, Nat.reduceEqDiff, reduceIte, reduceCtorEq, Nat.reduceLT]
    repeat ((with_reducible apply oV_intro); (simp (disch := first | omega |  (simp only [mLenC, mLenN, mLenA, zs_len,  upd_n, jn_n]; first | done | omega) | (simp only [List.mem_cons, List.not_mem_nil, or_false, not_or, not_false_eq_true, upd_n, jn_n]; first | done | omega)) only [qc, qe, stG_agg, tb25, hG.one, lns22 hG.p, lns23 hG.q, lns24 hG.r, hEg, sp, Int.reduceToNat, Nat.reduceAdd, Nat.reduceMul, Nat.reduceEqDiff, reduceIte, reduceCtorEq, Nat.reduceLT]; exact rfl))
    rw [hJ]
    refine ⟨by first | rfl | (simp [checkActs, *]; done), ?_⟩
    try (repeat' (first | with_reducible exact Fr.refl _ | with_reducible assumption | ((with_reducible apply Fr.trans) <;> with_reducible assumption) | ((with_reducible refine Fr.jn ?_ ?_ ?_); rotate_left; (focus with_reducible assumption); (focus ((try simp only [upd_n, jn_n]); omega))) | ((with_reducible refine Fr.upd ?_ ?_ ?_ ?_ ?_); rotate_left; (focus ((try simp only [upd_n, jn_n]); omega)); (focus ((try simp only [upd_n, jn_n]); omega)); (focus first | (left; ((try simp only [upd_n, jn_n]); omega)) | (right; simp; done)); (focus first | trivial | exact ⟨by ((try simp only [upd_n, jn_n]); omega), by ((try simp only [upd_n, jn_n]); omega)⟩))))
end Go.Proofs.Swa

