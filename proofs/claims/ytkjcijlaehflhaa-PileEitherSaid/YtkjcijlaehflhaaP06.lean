/- Part 6 of a proof. -/
import Derived.Test.YtkjcijlaehflhaaP05
set_option linter.unusedVariables false
set_option linter.unusedSimpArgs false
namespace Go.Proofs.Swa
open Go
def Fits (spot : Int) : Int → List (Act × Int) → Prop
 | _, [] => True
 | lie, (a, t) :: l => if a.Spot = spot then (1 ≤ a.Min ∧ a.Min ≤ t ∧ t ≤ a.Max ∧ a.Max ≤ 1000000) ∧ (if a.Take = true then t ≤ lie ∧ Fits spot (lie - t) l else Fits spot (lie + t) l) else Fits spot lie l
structure PInv (p : Pst) (i : Nat) (lie : Int) : Prop where
 ok : p.ok = true
 next : p.next ≤ i
 mt : p.m.tips ≤ p.next ∧ p.m.takes ≤ p.next
 tab : ∃ x, Tab p.s.mat p.next x ∧ x p.m.tips - x p.m.takes = lie
 mem : p.m ∈ p.ms
 all : ∀ m, m ∈ p.ms → m.tips ≤ p.next ∧ m.takes ≤ p.next ∧ p.s.mat m.takes 0 ≤ 0 ∧ p.s.mat m.tips m.takes ≤ 0 ∧ p.s.mat p.m.tips m.tips ≤ 0 ∧ (m.act < 0 → m.tips = 0)
 pw : p.ms.Pairwise fun a b => p.s.mat b.tips a.tips ≤ 0
theorem pw_snoc {α : Type} {R : α → α → Prop} {l : List α} {x : α} (h : l.Pairwise R) (k : ∀ a, a ∈ l → R a x) : (l ++ [x]).Pairwise R := by
 rw [List.pairwise_append]
 refine ⟨h, List.pairwise_singleton _ _, fun a ha b hb => ?_⟩
 rw [List.mem_singleton.1 hb]
 exact k a ha
theorem PInv.start : PInv pst0 0 0 := by
 have hb : ∀ i k, i < 11 → k < 11 → pst0.s.mat i k = if i = k then 0 else far := fun i k hi hk => blank_mat hi hk
 have h00 : pst0.s.mat 0 0 = 0 := hb 0 0 (by omega) (by omega)
 refine ⟨rfl, Nat.le_refl _, ⟨Nat.le_refl _, Nat.le_refl _⟩, ⟨fun _ => 0, ⟨by show 0 ≤ 10; omega, fun a b ha hb' => ?_, fun a b ha hb' ho hne => by rw [hb a b ha hb', if_neg hne], fun a ha => by rw [hb a a ha ha, if_pos rfl], fun a b ha hb' => ?_, fun a b c ha hb' hc => ?_, fun _ _ => Int.le_refl _, fun _ _ => by show (0 : Int) ≤ ((0 : Nat) : Int) * 1000000; omega⟩, rfl⟩,
  List.mem_singleton.2 rfl, fun m hm => ?_, List.pairwise_singleton _ _⟩
 ·have e1 : a = 0 := Nat.le_zero.1 ha
  have e2 : b = 0 := Nat.le_zero.1 hb'
  rw [e1, e2, h00]; show (0 : Int) ≤ ((0 : Nat) : Int) * 1000000; omega
 ·have e1 : a = 0 := Nat.le_zero.1 ha
  have e2 : b = 0 := Nat.le_zero.1 hb'
  rw [e1, e2, h00]; show (0 : Int) - 0 ≤ 0; omega
 ·have e1 : a = 0 := Nat.le_zero.1 ha
  have e2 : b = 0 := Nat.le_zero.1 hb'
  have e3 : c = 0 := Nat.le_zero.1 hc
  rw [e1, e2, e3, h00]; omega
 ·have : m = mom0 := List.mem_singleton.1 hm
  subst this
  exact ⟨Nat.le_refl _, Nat.le_refl _, Int.le_of_eq h00, Int.le_of_eq h00, Int.le_of_eq h00, fun _ => rfl⟩
theorem PInv.skip {p : Pst} {i : Nat} {lie : Int} (h : PInv p i lie) : PInv p (i + 1) lie := { h with next := Nat.le_succ_of_le h.next }
theorem PInv.tip {p : Pst} {i : Nat} {lie : Int} (h : PInv p i lie) (hi : i < 10) {a : Act} {t : Int} (ha : ¬ a.Take = true) (q : 1 ≤ a.Min ∧ a.Min ≤ t ∧ t ≤ a.Max ∧ a.Max ≤ 1000000) : PInv (p.step i a) (i + 1) (lie + t) := by
 obtain ⟨x, hx, hl⟩ := h.tab
 have hn := h.next
 obtain ⟨mt1, mt2⟩ := h.mt
 obtain ⟨k1, k2, k3, k4, k5⟩ := hx.add (by omega) mt1 q.1 q.2.1 q.2.2.1 q.2.2.2
 rw [Pst.step_tip ha]
 have htp : p.tp a = (p.s.know p.m.tips (p.next + 1) a.Max).1.know (p.next + 1) p.m.tips (w64 (0 - a.Min)) := by
  unfold Pst.tp knowIf
  simp only [h.ok, if_true, k1]
 rw [htp]
 generalize (p.s.know p.m.tips (p.next + 1) a.Max).1.know (p.next + 1) p.m.tips (w64 (0 - a.Min)) = y at k2 k3 k4 k5
 have hm := h.all p.m h.mem
 refine ⟨k2, by show p.next + 1 ≤ i + 1; omega, ⟨Nat.le_refl _, by show p.m.takes ≤ p.next + 1; omega⟩, ⟨_, k3, ?_⟩, by simp, fun m hm' => ?_, pw_snoc (h.pw.imp_of_mem fun {a b} ha hb r => ?_) fun m hm' => ?_⟩
 ·dsimp only
  rw [if_pos rfl, if_neg (by omega)]
  omega
 ·dsimp only
  rcases List.mem_append.1 hm' with hm' | hm'
  ·obtain ⟨a1, a2, a3, a4, a5, a6⟩ := h.all m hm'
   refine ⟨by omega, by omega, by rw [k4 _ _ a2 (by omega)]; exact a3, by rw [k4 _ _ a1 a2]; exact a4, by rw [k5 _ a1]; omega, a6⟩
  ·rw [List.mem_singleton.1 hm']
   dsimp only
   refine ⟨Nat.le_refl _, by omega, by rw [k4 _ _ mt2 (by omega)]; exact hm.2.2.1, by rw [k5 _ mt2]; have := hm.2.2.2.1; omega, by rw [k3.diag (p.next + 1) (by omega)]; exact Int.le_refl _, fun hh => by omega⟩
 ·have b1 := (h.all a ha).1
  have b2 := (h.all b hb).1
  dsimp only
  rw [k4 _ _ b2 b1]; exact r
 ·have b1 := h.all m hm'
  dsimp only
  rw [k5 _ b1.1]
  have := b1.2.2.2.2.1
  omega
theorem PInv.take {p : Pst} {i : Nat} {lie : Int} (h : PInv p i lie) (hi : i < 10) {a : Act} {t : Int} (ha : a.Take = true) (q : 1 ≤ a.Min ∧ a.Min ≤ t ∧ t ≤ a.Max ∧ a.Max ≤ 1000000) (hq : t ≤ lie) : PInv (p.step i a) (i + 1) (lie - t) := by
 obtain ⟨x, hx, hl⟩ := h.tab
 have hn := h.next
 obtain ⟨mt1, mt2⟩ := h.mt
 obtain ⟨k1, k2, k3, k4, k5⟩ := hx.add (by omega) mt2 q.1 q.2.1 q.2.2.1 q.2.2.2
 rw [Pst.step_take ha]
 have htk : p.tk a = ((p.s.know p.m.takes (p.next + 1) a.Max).1.know (p.next + 1) p.m.takes (w64 (0 - a.Min))).1.know p.m.tips (p.next + 1) 0 := by
  unfold Pst.tk knowIf
  simp only [h.ok, if_true, k1, k2]
 rw [htk]
 generalize ((p.s.know p.m.takes (p.next + 1) a.Max).1.know (p.next + 1) p.m.takes (w64 (0 - a.Min))).1 = y at k3 k4 k5
 obtain ⟨z1, z2, z3, z4⟩ := k3.more (a := p.m.tips) (b := p.next + 1) (m := 0) (by omega) (Nat.le_refl _) (by
  rw [if_pos rfl, if_neg (by omega)]
  omega) (by omega) (by omega)
 generalize y.know p.m.tips (p.next + 1) 0 = z at z1 z2 z3 z4
 have hm := h.all p.m h.mem
 refine ⟨z1, by show p.next + 1 ≤ i + 1; omega, ⟨by show p.m.tips ≤ p.next + 1; omega, Nat.le_refl _⟩, ⟨_, z2, ?_⟩, by simp, fun m hm' => ?_, pw_snoc (h.pw.imp_of_mem fun {a b} ha hb r => ?_) fun m hm' => ?_⟩
 ·dsimp only
  rw [if_pos rfl, if_neg (by omega)]
  omega
 ·dsimp only
  rcases List.mem_append.1 hm' with hm' | hm'
  ·obtain ⟨a1, a2, a3, a4, a5, a6⟩ := h.all m hm'
   refine ⟨by omega, by omega, ?_, ?_, ?_, a6⟩
   ·have := z3 m.takes 0 (by omega) (by omega)
    rw [k4 _ _ a2 (by omega)] at this; omega
   ·have := z3 m.tips m.takes (by omega) (by omega)
    rw [k4 _ _ a1 a2] at this; omega
   ·have := z3 p.m.tips m.tips (by omega) (by omega)
    rw [k4 _ _ mt1 a1] at this; omega
  ·rw [List.mem_singleton.1 hm']
   dsimp only
   refine ⟨by omega, Nat.le_refl _, ?_, z4, by rw [z2.diag p.m.tips (by omega)]; exact Int.le_refl _, fun hh => by omega⟩
   have := z3 (p.next + 1) 0 (Nat.le_refl _) (by omega)
   rw [k5 _ (by omega)] at this
   have := hm.2.2.1
   omega
 ·have b1 := (h.all a ha).1
  have b2 := (h.all b hb).1
  dsimp only
  have := z3 b.tips a.tips (by omega) (by omega)
  rw [k4 _ _ b2 b1] at this; omega
 ·have b1 := h.all m hm'
  dsimp only
  have := z3 p.m.tips m.tips (by omega) (by omega)
  rw [k4 _ _ mt1 b1.1] at this
  have := b1.2.2.2.2.1
  omega
theorem PInv.run (spot : Int) : ∀ (l : List (Act × Int)) (i : Nat) (p : Pst) (lie : Int), PInv p i lie → i + l.length ≤ 10 → Fits spot lie l → ∃ lie', PInv (Pst.run spot i (l.map (·.1)) p) (i + l.length) lie'
 | [], i, p, lie, h, _, _ => ⟨lie, h⟩
 | (a, t) :: l, i, p, lie, h, hl, hf => by
  simp only [List.map_cons, List.length_cons] at hl ⊢
  rw [Pst.run, show i + (l.length + 1) = i + 1 + l.length by omega]
  rw [Fits] at hf
  by_cases hs : a.Spot = spot
  ·rw [if_pos hs] at hf ⊢
   obtain ⟨q, hf⟩ := hf
   by_cases ht : a.Take = true
   ·rw [if_pos ht] at hf
    exact PInv.run spot l (i + 1) _ _ (h.take (by omega) ht q hf.1) (by omega) hf.2
   ·rw [if_neg ht] at hf
    exact PInv.run spot l (i + 1) _ _ (h.tip (by omega) ht q) (by omega) hf
  ·rw [if_neg hs] at hf ⊢
   exact PInv.run spot l (i + 1) _ _ h.skip (by omega) hf
structure HpOk (h : Hp) : Prop where
 tab : ∃ n x, Tab h.s.mat n x ∧ ∀ m, m ∈ h.m → m.tips ≤ n ∧ m.takes ≤ n
 all : ∀ m, m ∈ h.m → h.s.mat m.takes 0 ≤ 0 ∧ h.s.mat m.tips m.takes ≤ 0 ∧ (m.act < 0 → m.tips = 0)
 pw : h.m.Pairwise fun a b => h.s.mat b.tips a.tips ≤ 0
 pos : h.m ≠ []
theorem pile_ok {g : Gnd} {spot : Int} {truth : List Int} (hl : g.Acts.length ≤ 10) (he : truth.length = g.Acts.length) (hf : Fits spot 0 (g.Acts.zip truth)) : (pile g spot).2 = true ∧ HpOk (pile g spot).1 := by
 have hz : (g.Acts.zip truth).map (·.1) = g.Acts := by
  rw [List.map_fst_zip]
  omega
 obtain ⟨lie, h⟩ := PInv.run spot (g.Acts.zip truth) 0 pst0 0 PInv.start (by rw [List.length_zip]; omega) hf
 rw [hz] at h
 obtain ⟨x, hx, _⟩ := h.tab
 exact ⟨h.ok, ⟨⟨_, x, hx, fun m hm => ⟨(h.all m hm).1, (h.all m hm).2.1⟩⟩, fun m hm => ⟨(h.all m hm).2.2.1, (h.all m hm).2.2.2.1, (h.all m hm).2.2.2.2.2⟩, h.pw, fun e => by have := h.mem; have e : (Pst.run spot 0 g.Acts pst0).ms = [] := e; rw [e] at this; cases this⟩⟩
theorem knownGo_get {g : Gnd} : ∀ (n i : Nat) (acc : List Hp), (∀ j, i ≤ j → j < i + n → (pile g j).2 = true) → (knownGo g i n acc).2 = 0 ∧ (knownGo g i n acc).1 = acc ++ (List.range n).map fun j => (pile g ((i + j : Nat) : Int)).1
 | 0, i, acc, _ => ⟨rfl, by simp [knownGo]⟩
 | n + 1, i, acc, h => by
  rw [knownGo, if_pos (h i (Nat.le_refl _) (by omega))]
  have ih := knownGo_get (g := g) n (i + 1) (acc ++ [(pile g i).1]) fun j h1 h2 => h j (by omega) (by omega)
  refine ⟨ih.1, ?_⟩
  rw [ih.2, List.append_assoc, List.range_succ_eq_map, List.map_cons, List.map_map]
  congr 1
  simp only [List.singleton_append, Nat.add_zero, List.cons.injEq, true_and]
  refine List.map_congr_left fun j _ => ?_
  show (pile g ((i + 1 + j : Nat) : Int)).1 = (pile g ((i + (j + 1) : Nat) : Int)).1
  rw [show i + 1 + j = i + (j + 1) by omega]
theorem known_get {g : Gnd} (h : ∀ j, j < g.Spots.length → (pile g (j : Nat)).2 = true) : (known g).2 = 0 ∧ (known g).1 = (List.range g.Spots.length).map fun j => (pile g (j : Nat)).1 := by
 have := knownGo_get (g := g) g.Spots.length 0 [] fun j _ h2 => h j (by omega)
 refine ⟨this.1, ?_⟩
 have e := this.2
 simp only [Nat.zero_add, List.nil_append] at e
 exact e
structure Fair (g : Gnd) : Prop where
 ck : check g = 0
 hp : ∀ j, j < g.Spots.length → (pile g (j : Nat)).2 = true ∧ HpOk (pile g (j : Nat)).1
 hour : ∀ x, x ∈ g.Acts → 0 ≤ x.Hour
theorem either_mem (x : Int) {l : List Int} (h : 0 < l.length) (h2 : l.length < 1000000) : either x l ∈ l := by
 unfold either
 rw [if_neg (by omega)]
 have b := below_spec x l.length (by omega)
 have b1 := b.2.1 (by omega)
 have hlt : (below x l.length).toNat < l.length := by have := b.1; omega
 rw [List.getD, List.getElem?_eq_getElem hlt]
 exact List.getElem_mem hlt
theorem inB_mk {n a b : Int} (h1 : a ≤ n) (h2 : n ≤ b) : inB n a b = true := decide_eq_true ⟨h1, h2⟩
theorem mkSpo_ok (x : Int) : okSpo (mkSpo x).1 = true := by
 have a := below_spec x 8 (by omega)
 have b := below_spec (belowS x 8) 4 (by omega)
 have c := btw_spec (x := belowS (belowS x 8) 4) (lo := 1) (hi := 4) (by omega) (by omega) (by omega)
 have a2 := a.2.1 (by omega)
 have b2 := b.2.1 (by omega)
 unfold okSpo mkSpo
 dsimp only
 rw [inB_mk a.1 (by omega), inB_mk b.1 (by omega), inB_mk c.1 (by omega)]
 rfl
theorem goSpo_ok : ∀ (n : Nat) (x : Int) (l : List Spo), (∀ s, s ∈ l → okSpo s = true) → ∀ s, s ∈ (goSpo n x l).1 → okSpo s = true
 | 0, x, l, h => h
 | n + 1, x, l, h => by
  rw [goSpo]
  refine goSpo_ok n _ _ fun s hs => ?_
  rcases List.mem_append.1 hs with hs | hs
  ·exact h s hs
  ·rw [List.mem_singleton.1 hs]; exact mkSpo_ok x
theorem okSrt_mk {r : Srt} (h1 : 1 ≤ r.High ∧ r.High ≤ 1000) (h2 : 1 ≤ r.Dense ∧ r.Dense ≤ 8000) (h3 : 0 ≤ r.Fire ∧ r.Fire ≤ 100) (h4 : 0 ≤ r.Age ∧ r.Age ≤ 72) : okSrt r = true := by
 unfold okSrt
 rw [inB_mk h1.1 h1.2, inB_mk h2.1 h2.2, inB_mk h3.1 h3.2, inB_mk h4.1 h4.2]
 rfl
theorem either2 (x a b : Int) : either x [a, b] = a ∨ either x [a, b] = b := by
 have := either_mem x (l := [a, b]) (by simp) (by simp)
 simpa using this
theorem srt_high (mass x y : Int) (h1 : 1 ≤ mass ∧ mass ≤ 10000) : 1 ≤ either y [100, min 1000 (w64 (btw x 1 100 * max 1 (w64 (mass.tdiv 20))))] ∧ either y [100, min 1000 (w64 (btw x 1 100 * max 1 (w64 (mass.tdiv 20))))] ≤ 1000 := by
 have bt := btw_spec (x := x) (lo := 1) (hi := 100) (by omega) (by omega) (by omega)
 have td0 : 0 ≤ mass.tdiv 20 := Int.tdiv_nonneg (by omega) (by omega)
 have td1 : mass.tdiv 20 ≤ mass := Int.tdiv_le_self _ (by omega)
 rw [w64_id (x := mass.tdiv 20) (by omega) (by omega)]
 have hm : 1 ≤ max 1 (mass.tdiv 20) ∧ max 1 (mass.tdiv 20) ≤ 10000 := by omega
 generalize max 1 (mass.tdiv 20) = d at hm
 generalize btw x 1 100 = c at bt
 have p1 : 1 * 1 ≤ c * d := Int.mul_le_mul bt.1 hm.1 (by omega) (by omega)
 have p2 : c * d ≤ 100 * 10000 := Int.mul_le_mul bt.2 hm.2 (by omega) (by omega)
 rw [w64_id (x := c * d) (by omega) (by omega)]
 generalize c * d = pr at p1 p2
 rcases either2 y 100 (min 1000 pr) with e | e <;> rw [e] <;> omega
theorem srt_dense (y : Int) : 1 ≤ either y [1, 2, 50, 100] ∧ either y [1, 2, 50, 100] ≤ 8000 := by
 have b := either_mem y (l := [1, 2, 50, 100]) (by simp) (by simp)
 generalize either y [1, 2, 50, 100] = de at b
 simp only [List.mem_cons, List.not_mem_nil, or_false] at b
 omega
theorem srt_fire (y x : Int) : 0 ≤ either y [0, below x 6] ∧ either y [0, below x 6] ≤ 100 := by
 have c0 := below_spec x 6 (by omega)
 have c1 := c0.2.1 (by omega)
 rcases either2 y 0 (below x 6) with e | e <;> rw [e] <;> omega
theorem srt_age (y x hours : Int) (h : 0 ≤ hours ∧ hours ≤ 72) : 0 ≤ either y [72, below x (w64 (hours + 1))] ∧ either y [72, below x (w64 (hours + 1))] ≤ 72 := by
 rw [w64_id (x := hours + 1) (by omega) (by omega)]
 have c0 := below_spec x (hours + 1) (by omega)
 have c1 := c0.2.1 (by omega)
 rcases either2 y 72 (below x (hours + 1)) with e | e <;> rw [e] <;> omega
theorem mkSrt_ok (mass hours x : Int) (h1 : 1 ≤ mass ∧ mass ≤ 10000) (h2 : 0 ≤ hours ∧ hours ≤ 72) : okSrt (mkSrt mass hours x).1 = true :=
 okSrt_mk (srt_high mass x _ h1) (srt_dense _) (srt_fire _ _) (srt_age _ _ hours h2)
theorem goSrt_ok (mass hours : Int) (h1 : 1 ≤ mass ∧ mass ≤ 10000) (h2 : 0 ≤ hours ∧ hours ≤ 72) : ∀ (n : Nat) (x : Int) (l : List Srt), (∀ s, s ∈ l → okSrt s = true) → ∀ s, s ∈ (goSrt mass hours n x l).1 → okSrt s = true
 | 0, x, l, h => h
 | n + 1, x, l, h => by
  rw [goSrt]
  refine goSrt_ok mass hours h1 h2 n _ _ fun s hs => ?_
  rcases List.mem_append.1 hs with hs | hs
  ·exact h s hs
  ·rw [List.mem_singleton.1 hs]; exact mkSrt_ok mass hours x h1 h2
theorem goSpo_length : ∀ (n : Nat) (x : Int) (l : List Spo), (goSpo n x l).1.length = l.length + n
 | 0, x, l => rfl
 | n + 1, x, l => by rw [goSpo, goSpo_length n, List.length_append, List.length_singleton]; omega
theorem goSrt_length {m h : Int} : ∀ (n : Nat) (x : Int) (l : List Srt), (goSrt m h n x l).1.length = l.length + n
 | 0, x, l => rfl
 | n + 1, x, l => by rw [goSrt, goSrt_length n, List.length_append, List.length_singleton]; omega
def lieAft (spot : Int) : Int → List (Act × Int) → Int
 | lie, [] => lie
 | lie, (a, t) :: l => if a.Spot = spot then (if a.Take = true then lieAft spot (lie - t) l else lieAft spot (lie + t) l) else lieAft spot lie l
theorem lieAft_snoc (spot : Int) (a : Act) (t : Int) : ∀ (l : List (Act × Int)) (lie : Int), lieAft spot lie (l ++ [(a, t)]) = if a.Spot = spot then (if a.Take = true then lieAft spot lie l - t else lieAft spot lie l + t) else lieAft spot lie l
 | [], lie => rfl
 | (b, u) :: l, lie => by
  simp only [List.cons_append, lieAft]
  rw [lieAft_snoc spot a t l, lieAft_snoc spot a t l, lieAft_snoc spot a t l]
  by_cases h1 : b.Spot = spot
  ·by_cases h2 : b.Take = true
   ·simp only [if_pos h1, if_pos h2]
   ·simp only [if_pos h1, if_neg h2]
  ·simp only [if_neg h1]
theorem Fits_snoc (spot : Int) (a : Act) (t : Int) (h : a.Spot = spot → (1 ≤ a.Min ∧ a.Min ≤ t ∧ t ≤ a.Max ∧ a.Max ≤ 1000000)) : ∀ (l : List (Act × Int)) (lie : Int), Fits spot lie l → (a.Spot = spot → a.Take = true → t ≤ lieAft spot lie l) → Fits spot lie (l ++ [(a, t)])
 | [], lie, _, k => by
  show Fits spot lie [(a, t)]
  rw [Fits]
  by_cases h1 : a.Spot = spot
  ·rw [if_pos h1]
   refine ⟨h h1, ?_⟩
   by_cases h2 : a.Take = true
   ·rw [if_pos h2]; exact ⟨k h1 h2, trivial⟩
   ·rw [if_neg h2]; trivial
  ·rw [if_neg h1]; trivial
 | (b, u) :: l, lie, f, k => by
  rw [List.cons_append, Fits]
  rw [Fits] at f
  rw [lieAft] at k
  by_cases h1 : b.Spot = spot
  ·rw [if_pos h1] at f k ⊢
   refine ⟨f.1, ?_⟩
   by_cases h2 : b.Take = true
   ·rw [if_pos h2] at k ⊢
    have f2 := f.2
    rw [if_pos h2] at f2
    exact ⟨f2.1, Fits_snoc spot a t h l _ f2.2 k⟩
   ·rw [if_neg h2] at k ⊢
    have f2 := f.2
    rw [if_neg h2] at f2
    exact Fits_snoc spot a t h l _ f2 k
  ·rw [if_neg h1] at f k ⊢
   exact Fits_snoc spot a t h l _ f k
def lastH : Int → List Act → Int
 | h, [] => h
 | _, a :: l => lastH a.Hour l
theorem checkActs_snoc (g : Gnd) (a : Act) : ∀ (l : List Act) (h : Int), checkActs g h l = 0 → checkAct g (lastH h l) a = 0 → checkActs g h (l ++ [a]) = 0
 | [], h, _, k => by
  show checkActs g h [a] = 0
  rw [checkActs, if_neg (by rw [lastH] at k; rw [k]; simp)]
  rfl
 | b :: l, h, f, k => by
  rw [List.cons_append, checkActs]
  rw [checkActs] at f
  by_cases c : checkAct g h b ≠ 0
  ·rw [if_pos c] at f; exact absurd f c
  ·rw [if_neg c] at f ⊢
   exact checkActs_snoc g a l b.Hour f k
theorem lastH_snoc (a : Act) : ∀ (l : List Act) (h : Int), lastH h (l ++ [a]) = a.Hour
 | [], h => rfl
 | b :: l, h => lastH_snoc a l b.Hour
structure ActOk (spots sorts : Nat) (last : Int) (a : Act) : Prop where
 h : 0 ≤ a.Hour ∧ a.Hour ≤ 72 ∧ last ≤ a.Hour
 s : 0 ≤ a.Spot ∧ a.Spot < spots
 k : 0 ≤ a.Kind ∧ a.Kind < sorts
 t : a.Take = true → a.Kind = 0
 m : 1 ≤ a.Min ∧ a.Min ≤ a.Max ∧ a.Max ≤ 1000000
theorem checkAct_ok {g : Gnd} {last : Int} {a : Act} (hs : g.Spots.length ≤ 4) (hq : g.Sorts.length ≤ 4) (h : ActOk g.Spots.length g.Sorts.length last a) : checkAct g last a = 0 := by
 obtain ⟨h1, h2, h3, h4, h5⟩ := h
 have e1 : w64 ((g.Spots.length : Int) - 1) = g.Spots.length - 1 := w64_id (by omega) (by omega)
 have e2 : w64 ((g.Sorts.length : Int) - 1) = g.Sorts.length - 1 := w64_id (by omega) (by omega)
 unfold checkAct
 rw [e1, e2, inB_mk h1.1 h1.2.1, inB_mk (n := a.Spot) h2.1 (by omega), inB_mk (n := a.Kind) h3.1 (by omega), inB_mk (n := a.Min) h5.1 (by omega), inB_mk (n := a.Max) (by omega) h5.2.2]
 have ht : (a.Take && decide (a.Kind ≠ 0)) = false := by
  cases hta : a.Take with
  | false => rfl
  | true => simp [h4 hta]
 simp only [Bool.not_true, Bool.false_eq_true, if_false, Bool.or_self, ht]
 rw [if_neg (by omega), if_neg (by omega)]
structure GInv (spots sorts : Nat) (mass : Int) (s : Gst) (k : Nat) : Prop where
 hour : 0 ≤ s.hour ∧ s.hour ≤ 72
 lies : s.lies.length = spots
 lie : ∀ j, j < spots → 0 ≤ s.lies.getD j 0 ∧ s.lies.getD j 0 ≤ k * mass
 len : s.acts.length = k ∧ s.truth.length = k
 last : lastH 0 s.acts ≤ s.hour
 chk : ∀ g : Gnd, g.Spots.length = spots → g.Sorts.length = sorts → checkActs g 0 s.acts = 0
 pos : ∀ a, a ∈ s.acts → 0 ≤ a.Hour
 fits : ∀ j : Nat, j < spots → Fits j 0 (s.acts.zip s.truth) ∧ lieAft j 0 (s.acts.zip s.truth) = s.lies.getD j 0
theorem spread_ok (mass n x : Int) (h1 : 1 ≤ mass ∧ mass ≤ 10000) (h2 : 1 ≤ n ∧ n ≤ 200000) : 1 ≤ (spread mass n x).1.Min ∧ (spread mass n x).1.Min ≤ n ∧ n ≤ (spread mass n x).1.Max ∧ (spread mass n x).1.Max ≤ 1000000 := by
 have td0 : 0 ≤ mass.tdiv 3 := Int.tdiv_nonneg (by omega) (by omega)
 have td1 : mass.tdiv 3 ≤ mass := Int.tdiv_le_self _ (by omega)
 have e1 : w64 (mass.tdiv 3) = mass.tdiv 3 := w64_id (by omega) (by omega)
 unfold spread
 dsimp only
 rw [e1]
 have hm : 2 ≤ max 2 (mass.tdiv 3) ∧ max 2 (mass.tdiv 3) ≤ 10000 := by omega
 generalize max 2 (mass.tdiv 3) = m at hm
 have a0 := below_spec x m (by omega)
 have a1 := a0.2.1 (by omega)
 have a := either_mem (belowS x m) (l := [0, below x m]) (by simp) (by simp)
 generalize either (belowS x m) [0, below x m] = p at a
 generalize eitherS (belowS x m) [0, below x m] = x2
 have b0 := below_spec x2 m (by omega)
 have b1 := b0.2.1 (by omega)
 have b := either_mem (belowS x2 m) (l := [0, below x2 m]) (by simp) (by simp)
 generalize either (belowS x2 m) [0, below x2 m] = q at b
 simp only [List.mem_cons, List.not_mem_nil, or_false] at a b
 rw [w64_id (x := n - p) (by omega) (by omega), w64_id (x := n + q) (by omega) (by omega)]
 omega
theorem zip_snoc {α β : Type} {a : List α} {b : List β} (h : a.length = b.length) (x : α) (y : β) : (a ++ [x]).zip (b ++ [y]) = a.zip b ++ [(x, y)] := by
 rw [List.zip_append h]; rfl
theorem GInv.push {spots sorts : Nat} {mass : Int} {s : Gst} {k : Nat} (h : GInv spots sorts mass s k) (hs : spots ≤ 4) (hq : sorts ≤ 4) (hm : 1 ≤ mass) {a : Act} {t lie x : Int} {p : Nat} (hp : p < spots) (hps : a.Spot = p)
  (ha : ActOk spots sorts s.hour a) (hb : a.Min ≤ t ∧ t ≤ a.Max) (htk : a.Take = true → t ≤ s.lies.getD p 0) (hl : lie = if a.Take = true then s.lies.getD p 0 - t else s.lies.getD p 0 + t) (hl0 : 0 ≤ lie) (hl1 : lie ≤ (k + 1 : Nat) * mass) :
  GInv spots sorts mass ⟨x, a.Hour, s.lies.set p lie, s.acts ++ [a], s.truth ++ [t]⟩ (k + 1) := by
 have hll := h.lies
 have hlen := h.len
 have hx := ha.m
 refine ⟨⟨ha.h.1, ha.h.2.1⟩, by simp [hll], fun j hj => ?_, by simp [hlen.1, hlen.2], ?_, fun g h1 h2 => ?_, fun b hb' => ?_, fun j hj => ?_⟩
 ·dsimp only
  rw [getD_set]
  split
  ·exact ⟨hl0, hl1⟩
  ·have := h.lie j hj
   have e : ((k + 1 : Nat) : Int) * mass = k * mass + mass := by rw [Int.natCast_add, Int.add_mul]; simp
   rw [e]; omega
 ·dsimp only
  rw [lastH_snoc]; exact Int.le_refl _
 ·dsimp only
  refine checkActs_snoc g a s.acts 0 (h.chk g h1 h2) (checkAct_ok (by omega) (by omega) ?_)
  rw [h1, h2]
  have := h.last
  exact ⟨⟨ha.h.1, ha.h.2.1, by have := ha.h.2.2; omega⟩, ha.s, ha.k, ha.t, ha.m⟩
 ·rcases List.mem_append.1 hb' with hb' | hb'
  ·exact h.pos b hb'
  ·rw [List.mem_singleton.1 hb']; exact ha.h.1
 ·dsimp only
  rw [zip_snoc (by rw [hlen.1, hlen.2]), lieAft_snoc, getD_set]
  obtain ⟨f1, f2⟩ := h.fits j hj
  refine ⟨Fits_snoc (j : Int) a t (fun _ => ⟨hx.1, hb.1, hb.2, hx.2.2⟩) _ _ f1 fun e1 e2 => ?_, ?_⟩
  ·rw [f2]
   have : p = j := by omega
   rw [← this]; exact htk e2
  ·rw [f2]
   by_cases e : p = j
   ·subst e
    rw [if_pos hps, if_pos (show p = p ∧ p < s.lies.length from ⟨rfl, by omega⟩), hl]
   ·rw [if_neg (by omega), if_neg (by omega)]
theorem GInv.step {spots sorts : Nat} {mass hours : Int} {s : Gst} {k : Nat} (h : GInv spots sorts mass s k) (hs : 1 ≤ spots ∧ spots ≤ 4) (hq : 1 ≤ sorts ∧ sorts ≤ 4) (hm : 1 ≤ mass ∧ mass ≤ 10000) (hh : 0 ≤ hours ∧ hours ≤ 72) (hk : k < 10) (hsh : s.hour ≤ hours) :
  GInv spots sorts mass (s.step spots sorts mass hours) (k + 1) ∧ (s.step spots sorts mass hours).hour ≤ hours := by
 have hhr := h.hour
 have e4 := below_spec s.x 4 (by omega)
 have e4' := e4.2.1 (by omega)
 have eh := either_mem (belowS s.x 4) (l := [0, 1, below s.x 4]) (by simp) (by simp)
 simp only [List.mem_cons, List.not_mem_nil, or_false] at eh
 unfold Gst.step
 dsimp only
 generalize either (belowS s.x 4) [0, 1, below s.x 4] = dh at eh
 generalize eitherS (belowS s.x 4) [0, 1, below s.x 4] = x2
 rw [w64_id (x := s.hour + dh) (by omega) (by omega)]
 have hho : 0 ≤ min 72 (min hours (s.hour + dh)) ∧ min 72 (min hours (s.hour + dh)) ≤ 72 ∧ s.hour ≤ min 72 (min hours (s.hour + dh)) ∧ min 72 (min hours (s.hour + dh)) ≤ hours := by omega
 generalize min 72 (min hours (s.hour + dh)) = ho at hho
 have sp0 := below_spec x2 spots (by omega)
 have sp1 := sp0.2.1 (by omega)
 obtain ⟨p, ep⟩ : ∃ p : Nat, (p : Int) = below x2 spots := ⟨(below x2 spots).toNat, by have := sp0.1; omega⟩
 rw [← ep] at sp0 sp1 ⊢
 rw [Int.toNat_natCast]
 have hp : p < spots := by omega
 generalize belowS x2 (spots : Int) = x3
 have ki0 := below_spec x3 sorts (by omega)
 have ki1 := ki0.2.1 (by omega)
 generalize below x3 (sorts : Int) = kind at ki0 ki1
 generalize belowS x3 (sorts : Int) = x4
 have nb := btw_spec (x := x4) (lo := 1) (hi := mass) (by omega) (by omega) (by omega)
 generalize btw x4 1 mass = n at nb
 generalize btwS x4 1 mass = x5
 have hli := h.lie p hp
 have hb1 : (k : Int) * mass ≤ 9 * 10000 := Int.mul_le_mul (show (k : Int) ≤ 9 by omega) hm.2 (by omega) (by omega)
 have e : ((k + 1 : Nat) : Int) * mass = k * mass + mass := by rw [Int.natCast_add, Int.add_mul]; simp
 obtain ⟨lie, el⟩ : ∃ lie, lie = s.lies.getD p 0 := ⟨_, rfl⟩
 rw [← el] at hli ⊢
 by_cases c : 0 < lie ∧ below x5 5 < 2
 ·rw [if_pos c, if_pos c.1]
  generalize belowS x5 5 = x6
  have kb := btw_spec (x := x6) (lo := 1) (hi := lie) (by omega) (by omega) (by omega)
  have km := either_mem (btwS x6 1 lie) (l := [lie, btw x6 1 lie]) (by simp) (by simp)
  generalize eitherS (btwS x6 1 lie) [lie, btw x6 1 lie] = x8
  generalize either (btwS x6 1 lie) [lie, btw x6 1 lie] = q at km
  simp only [List.mem_cons, List.not_mem_nil, or_false] at km
  have so := spread_ok mass q x8 hm (by omega)
  generalize spread mass q x8 = r at so
  rw [w64_id (x := lie - q) (by omega) (by omega)]
  refine ⟨h.push hs.2 hq.2 hm.1 (a := ⟨ho, p, 0, r.1.Min, r.1.Max, true⟩) hp rfl ⟨⟨hho.1, hho.2.1, hho.2.2.1⟩, ⟨by show (0 : Int) ≤ p; omega, sp1⟩, ⟨Int.le_refl _, by show (0 : Int) < sorts; omega⟩, fun _ => rfl, ⟨so.1, by show r.1.Min ≤ r.1.Max; omega, so.2.2.2⟩⟩ ⟨so.2.1, so.2.2.1⟩ (fun _ => by rw [← el]; omega) (by rw [if_pos rfl, ← el]) (by omega) (by rw [e]; omega), hho.2.2.2⟩
 ·rw [if_neg c]
  generalize (if 0 < lie then belowS x5 5 else x5) = x6
  have so := spread_ok mass n x6 hm (by omega)
  generalize spread mass n x6 = r at so
  rw [w64_id (x := lie + n) (by omega) (by omega)]
  refine ⟨h.push hs.2 hq.2 hm.1 (a := ⟨ho, p, kind, r.1.Min, r.1.Max, false⟩) hp rfl ⟨⟨hho.1, hho.2.1, hho.2.2.1⟩, ⟨by show (0 : Int) ≤ p; omega, sp1⟩, ⟨ki0.1, ki1⟩, (fun hh => by cases hh), ⟨so.1, by show r.1.Min ≤ r.1.Max; omega, so.2.2.2⟩⟩ ⟨so.2.1, so.2.2.1⟩ (fun hh => by cases hh) (by rw [if_neg (by simp), ← el]) (by omega) (by rw [e]; omega), hho.2.2.2⟩
theorem GInv.run {spots sorts : Nat} {mass hours : Int} (hs : 1 ≤ spots ∧ spots ≤ 4) (hq : 1 ≤ sorts ∧ sorts ≤ 4) (hm : 1 ≤ mass ∧ mass ≤ 10000) (hh : 0 ≤ hours ∧ hours ≤ 72) : ∀ (n : Nat) (s : Gst) (k : Nat), GInv spots sorts mass s k → s.hour ≤ hours → k + n ≤ 10 →
  GInv spots sorts mass (Gst.run spots sorts mass hours n s) (k + n)
 | 0, s, k, h, _, _ => h
 | n + 1, s, k, h, h1, h2 => by
  rw [Gst.run, show k + (n + 1) = k + 1 + n by omega]
  obtain ⟨a, b⟩ := h.step hs hq hm hh (by omega) h1
  exact GInv.run hs hq hm hh n _ (k + 1) a b (by omega)
theorem ground_fair {x spots sorts acts mass hours : Int} (q1 : 1 ≤ spots ∧ spots ≤ 4) (q2 : 1 ≤ sorts ∧ sorts ≤ 4) (q3 : 0 ≤ acts ∧ acts ≤ 10) (q4 : 1 ≤ mass ∧ mass ≤ 10000) (q5 : 0 ≤ hours ∧ hours ≤ 72) :
  let M := groundOf x spots sorts acts mass hours
  Fair M.g ∧ M.g.Spots.length ≤ 4 ∧ M.g.Sorts.length ≤ 4 ∧ M.g.Acts.length ≤ 10 ∧ M.truth.length = M.g.Acts.length ∧ ∀ j : Nat, j < M.g.Spots.length → Fits j 0 (M.g.Acts.zip M.truth) := by
 have w1 := btw_spec (x := x) (lo := 1) (hi := spots) (by omega) (by omega) (by omega)
 unfold groundOf
 dsimp only
 have ok1 := goSpo_ok (btw x 1 spots).toNat (btwS x 1 spots) [] (by simp)
 have ln1 := goSpo_length (btw x 1 spots).toNat (btwS x 1 spots) []
 generalize goSpo (btw x 1 spots).toNat (btwS x 1 spots) [] = a at ok1 ln1
 have w2 := btw_spec (x := a.2) (lo := 1) (hi := sorts) (by omega) (by omega) (by omega)
 have ok2 := goSrt_ok mass hours q4 q5 (btw a.2 1 sorts).toNat (btwS a.2 1 sorts) [] (by simp)
 have ln2 := goSrt_length (m := mass) (h := hours) (btw a.2 1 sorts).toNat (btwS a.2 1 sorts) []
 generalize goSrt mass hours (btw a.2 1 sorts).toNat (btwS a.2 1 sorts) [] = b at ok2 ln2
 rw [w64_id (x := acts + 1) (by omega) (by omega)]
 have w3 := below_spec b.2 (acts + 1) (by omega)
 have w3' := w3.2.1 (by omega)
 simp only [List.length_nil, Nat.zero_add] at ln1 ln2
 have start : GInv a.1.length b.1.length mass ⟨belowS b.2 (acts + 1), 0, List.replicate a.1.length 0, [], []⟩ 0 := by
  refine ⟨⟨Int.le_refl _, by show (0 : Int) ≤ 72; omega⟩, by simp, fun j hj => ?_, ⟨rfl, rfl⟩, Int.le_refl _, fun _ _ _ => rfl, (fun a ha => by cases ha), fun j hj => ⟨trivial, ?_⟩⟩
  ·have : (List.replicate a.1.length (0 : Int)).getD j 0 = 0 := by simp [List.getD, hj]
   dsimp only
   rw [this]; exact ⟨Int.le_refl _, by simp⟩
  ·have : (List.replicate a.1.length (0 : Int)).getD j 0 = 0 := by simp [List.getD, hj]
   dsimp only
   rw [this]
   try rfl
 have inv := GInv.run (by omega) (by omega) q4 q5 (below b.2 (acts + 1)).toNat _ 0 start q5.1 (by omega)
 generalize Gst.run a.1.length b.1.length mass hours (below b.2 (acts + 1)).toNat ⟨belowS b.2 (acts + 1), 0, List.replicate a.1.length 0, [], []⟩ = st at inv
 have la := inv.len
 have hck : check ⟨a.1, b.1, st.acts⟩ = 0 := by
  unfold check
  have m1 : many (a.1.length : Nat) 4 = 0 := by unfold many; rw [if_neg (by omega), if_neg (by omega)]
  have m2 : many (b.1.length : Nat) 4 = 0 := by unfold many; rw [if_neg (by omega), if_neg (by omega)]
  dsimp only
  rw [if_neg (by rw [m1]; simp), if_pos (List.all_eq_true.2 ok1)]
  unfold check2
  dsimp only
  rw [if_neg (by rw [m2]; simp), if_pos (List.all_eq_true.2 ok2)]
  unfold check3
  dsimp only
  rw [if_neg (by omega)]
  exact inv.chk _ rfl rfl
 have fi := fun j hj => (inv.fits j hj).1
 refine ⟨⟨hck, fun j hj => ?_, inv.pos⟩, by omega, by omega, by omega, by omega, fi⟩
 exact pile_ok (g := ⟨a.1, b.1, st.acts⟩) (truth := st.truth) (by dsimp only; omega) (by dsimp only; omega) (fi j hj)
abbrev ActT := Act × Int
def tipAft (spot : Int) (L : List ActT) : Nat → Int
 | 0 => 0
 | u + 1 => tipAft spot L u + if (L.getD u default).1.Spot = spot ∧ (L.getD u default).1.Take = false then (L.getD u default).2 else 0
def takAft (spot : Int) (L : List ActT) : Nat → Int
 | 0 => 0
 | u + 1 => takAft spot L u + if (L.getD u default).1.Spot = spot ∧ (L.getD u default).1.Take = true then (L.getD u default).2 else 0
def kndAft (spot : Int) (L : List Act) : Nat → Int
 | 0 => 0
 | u + 1 => if (L.getD u default).Spot = spot ∧ (L.getD u default).Take = false then (L.getD u default).Kind else kndAft spot L u
theorem tipAft_cons (spot : Int) (a : ActT) (L : List ActT) : ∀ u, tipAft spot (a :: L) (u + 1) = (if a.1.Spot = spot ∧ a.1.Take = false then a.2 else 0) + tipAft spot L u
 | 0 => by simp [tipAft]
 | u + 1 => by
  have ih := tipAft_cons spot a L u
  rw [tipAft, ih, tipAft]
  simp only [List.getD_cons_succ]
  omega
theorem takAft_cons (spot : Int) (a : ActT) (L : List ActT) : ∀ u, takAft spot (a :: L) (u + 1) = (if a.1.Spot = spot ∧ a.1.Take = true then a.2 else 0) + takAft spot L u
 | 0 => by simp [takAft]
 | u + 1 => by
  have ih := takAft_cons spot a L u
  rw [takAft, ih, takAft]
  simp only [List.getD_cons_succ]
  omega
structure FitAt (spot : Int) (L : List ActT) (lie : Int) (u : Nat) : Prop where
 m : 1 ≤ (L.getD u default).1.Min ∧ (L.getD u default).1.Min ≤ (L.getD u default).2 ∧ (L.getD u default).2 ≤ (L.getD u default).1.Max ∧ (L.getD u default).1.Max ≤ 1000000
 t : (L.getD u default).1.Take = true → (L.getD u default).2 ≤ lie + tipAft spot L u - takAft spot L u
theorem Fits_at (spot : Int) : ∀ (L : List ActT) (lie : Int), Fits spot lie L → ∀ u, u < L.length → (L.getD u default).1.Spot = spot → FitAt spot L lie u
 | [], _, _, u, h, _ => by simp at h
 | (a, t) :: L, lie, f, 0, _, hs => by
  rw [Fits] at f
  have hs : a.Spot = spot := hs
  rw [if_pos hs] at f
  refine ⟨f.1, fun ht => ?_⟩
  have ht : a.Take = true := ht
  have f2 := f.2
  rw [if_pos ht] at f2
  show t ≤ lie + 0 - 0
  have := f2.1
  omega
 | (a, t) :: L, lie, f, u + 1, h, hs => by
  rw [Fits] at f
  have hu : u < L.length := by simpa using h
  have hs : (L.getD u default).1.Spot = spot := hs
  by_cases c : a.Spot = spot
  ·rw [if_pos c] at f
   by_cases ct : a.Take = true
   ·have f2 := f.2
    rw [if_pos ct] at f2
    obtain ⟨m, k⟩ := Fits_at spot L _ f2.2 u hu hs
    refine ⟨m, fun hh => ?_⟩
    have := k hh
    rw [tipAft_cons, takAft_cons, if_neg (by simp [ct]), if_pos ⟨c, ct⟩]
    show (L.getD u default).2 ≤ _
    dsimp only
    omega
   ·have f2 := f.2
    rw [if_neg ct] at f2
    obtain ⟨m, k⟩ := Fits_at spot L _ f2 u hu hs
    refine ⟨m, fun hh => ?_⟩
    have := k hh
    rw [tipAft_cons, takAft_cons, if_pos ⟨c, by simpa using ct⟩, if_neg (by simp [ct])]
    show (L.getD u default).2 ≤ _
    dsimp only
    omega
  ·rw [if_neg c] at f
   obtain ⟨m, k⟩ := Fits_at spot L _ f u hu hs
   refine ⟨m, fun hh => ?_⟩
   have := k hh
   rw [tipAft_cons, takAft_cons, if_neg (by simp [c]), if_neg (by simp [c])]
   show (L.getD u default).2 ≤ _
   omega
theorem run_snoc (spot : Int) (a : Act) : ∀ (l : List Act) (i : Nat) (p : Pst), Pst.run spot i (l ++ [a]) p = if a.Spot = spot then (Pst.run spot i l p).step (i + l.length) a else Pst.run spot i l p
 | [], i, p => rfl
 | b :: l, i, p => by
  rw [List.cons_append, Pst.run, run_snoc spot a l (i + 1), Pst.run, List.length_cons, show i + 1 + l.length = i + (l.length + 1) by omega]
def prU (spot : Int) (L : List Act) (u : Nat) : Pst := Pst.run spot 0 (L.take u) pst0
theorem prU_succ (spot : Int) {L : List Act} {u : Nat} (h : u < L.length) : prU spot L (u + 1) = if (L.getD u default).Spot = spot then (prU spot L u).step u (L.getD u default) else prU spot L u := by
 unfold prU
 rw [take_getD h, run_snoc, List.length_take, Nat.min_eq_left (by omega), Nat.zero_add]
theorem prU_all (spot : Int) (L : List Act) : prU spot L L.length = Pst.run spot 0 L pst0 := by unfold prU; rw [List.take_length]
theorem beforeL_snoc (v : Int) (m : Mom) : ∀ (l : List Mom) (out : Mom), beforeL v out (l ++ [m]) = if m.act < v then m else beforeL v out l
 | [], out => rfl
 | b :: l, out => by
  rw [List.cons_append, beforeL, beforeL_snoc v m l, beforeL]
theorem prU_last (spot : Int) (L : List Act) : ∀ u, u ≤ L.length → (prU spot L u).m.act < u ∧ ∃ init, (prU spot L u).ms = init ++ [(prU spot L u).m]
 | 0, _ => ⟨by show (-1 : Int) < 0; omega, [], rfl⟩
 | u + 1, h => by
  obtain ⟨h1, i, h2⟩ := prU_last spot L u (by omega)
  rw [prU_succ spot (by omega)]
  split
  ·unfold Pst.step
   split
   ·exact ⟨by show (u : Int) < (u + 1 : Nat); omega, _, rfl⟩
   ·exact ⟨by show (u : Int) < (u + 1 : Nat); omega, _, rfl⟩
  ·exact ⟨by omega, i, h2⟩
theorem prU_before (spot : Int) (L : List Act) (out : Mom) {u : Nat} : ∀ i, u + i ≤ L.length → beforeL u out (prU spot L (u + i)).ms = (prU spot L u).m
 | 0, h => by
  obtain ⟨h1, i, h2⟩ := prU_last spot L u h
  rw [Nat.add_zero, h2, beforeL_snoc, if_pos h1]
 | i + 1, h => by
  have ih := prU_before spot L out (u := u) i (by omega)
  rw [← Nat.add_assoc, prU_succ spot (by omega)]
  split
  ·unfold Pst.step
   split
   ·dsimp only
    rw [beforeL_snoc, if_neg (by dsimp only; omega), ih]
   ·dsimp only
    rw [beforeL_snoc, if_neg (by dsimp only; omega), ih]
  ·exact ih
theorem pile_before (g : Gnd) (spot : Int) {u : Nat} (hu : u ≤ g.Acts.length) : (pile g spot).1.before u = (prU spot g.Acts u).m := by
 have := prU_before spot g.Acts ((pile g spot).1.m.getD 0 default) (u := u) (g.Acts.length - u) (by omega)
 rw [show u + (g.Acts.length - u) = g.Acts.length by omega, prU_all] at this
 exact this
theorem know_ab {s : Sums} {a b : Nat} {m : Int} (ha : a < 11) (hb : b < 11) (haa : s.mat a a = 0) (hbb : s.mat b b = 0) (h1 : -1000000 ≤ m) (h2 : m ≤ 1000000) (h : (s.know a b m).2 = true) : (s.know a b m).1.mat a b ≤ m := by
 by_cases c1 : w64 (s.mat b a + m) < 0
 ·have : Swa.know s.1 a b m = (s.1, false) := by
   unfold Swa.know
   have c1' : w64 (mat s.1 b a + m) < 0 := c1
   rw [if_pos c1']
  have h' : (Swa.know s.1 a b m).2 = true := h
  rw [this] at h'
  cases h'
 ·by_cases c2 : s.mat a b ≤ m
  ·rw [know_same c1 c2]; exact c2
  ·obtain ⟨_, k⟩ := know_mat c1 c2
   have hf : far = 1099511627776 := rfl
   rw [k a b ha hb, upE, haa, hbb, if_pos ⟨by omega, by omega⟩, w64_id (x := 0 + m) (by omega) (by omega), w64_id (by omega) (by omega)]
   omega
theorem know_le {s : Sums} {a b : Nat} {m : Int} {i k : Nat} (hi : i < 11) (hk : k < 11) : (s.know a b m).1.mat i k ≤ s.mat i k := by
 by_cases c1 : w64 (s.mat b a + m) < 0
 ·have : s.know a b m = (s, false) := by
   unfold Sums.know
   have e : Swa.know s.1 a b m = (s.1, false) := by
    unfold Swa.know
    have c1' : w64 (mat s.1 b a + m) < 0 := c1
    rw [if_pos c1']
   congr 1
   ·apply Subtype.ext
    show (Swa.know s.1 a b m).1 = s.1
    rw [e]
   ·rw [e]
  rw [this]; exact Int.le_refl _
 ·by_cases c2 : s.mat a b ≤ m
  ·rw [know_same c1 c2]; exact Int.le_refl _
  ·obtain ⟨_, k'⟩ := know_mat c1 c2
   rw [k' i k hi hk, upE]
   split
   ·omega
   ·exact Int.le_refl _
def Exact (L : List ActT) : Prop := ∀ u, u < L.length → (L.getD u default).1.Min = (L.getD u default).2 ∧ (L.getD u default).1.Max = (L.getD u default).2
structure PX (spot : Int) (L : List ActT) (i : Nat) (x : Nat → Int) : Prop where
 ok : (prU spot (L.map (·.1)) i).ok = true
 nx : (prU spot (L.map (·.1)) i).next ≤ i
 tab : Tab (prU spot (L.map (·.1)) i).s.mat (prU spot (L.map (·.1)) i).next x
 hist : ∀ u, u ≤ i → (prU spot (L.map (·.1)) u).next ≤ (prU spot (L.map (·.1)) i).next ∧ (prU spot (L.map (·.1)) u).m.tips ≤ (prU spot (L.map (·.1)) u).next ∧ (prU spot (L.map (·.1)) u).m.takes ≤ (prU spot (L.map (·.1)) u).next ∧
  x (prU spot (L.map (·.1)) u).m.tips = tipAft spot L u ∧ x (prU spot (L.map (·.1)) u).m.takes = takAft spot L u ∧ (prU spot (L.map (·.1)) u).m.kind = kndAft spot (L.map (·.1)) u
 tight : Exact L → ∀ a b, a ≤ (prU spot (L.map (·.1)) i).next → b ≤ (prU spot (L.map (·.1)) i).next → (prU spot (L.map (·.1)) i).s.mat a b ≤ x b - x a
theorem map_getD (L : List ActT) (u : Nat) : (L.map (·.1)).getD u default = (L.getD u default).1 := by
 simp only [List.getD, List.getElem?_map]
 cases L[u]? <;> rfl
theorem PX.start (spot : Int) (L : List ActT) : PX spot L 0 fun _ => 0 := by
 obtain ⟨x, hx, _⟩ := PInv.start.tab
 have h00 := hx.diag 0 (by omega)
 refine ⟨rfl, Nat.le_refl _, ⟨hx.n10, hx.hi, hx.out, hx.diag, fun a b ha hb => ?_, hx.tri, fun _ _ => Int.le_refl _, fun _ _ => by show (0 : Int) ≤ ((0 : Nat) : Int) * 1000000; omega⟩, fun u hu => ?_, fun _ a b ha hb => ?_⟩
 ·have e1 : a = 0 := Nat.le_zero.1 ha
  have e2 : b = 0 := Nat.le_zero.1 hb
  subst e1; subst e2
  show (0 : Int) - 0 ≤ pst0.s.mat 0 0
  rw [h00]; omega
 ·obtain rfl : u = 0 := by omega
  exact ⟨Nat.le_refl _, Nat.le_refl _, Nat.le_refl _, rfl, rfl, rfl⟩
 ·have e1 : a = 0 := Nat.le_zero.1 ha
  have e2 : b = 0 := Nat.le_zero.1 hb
  subst e1; subst e2
  show pst0.s.mat 0 0 ≤ (0 : Int) - 0
  rw [h00]; omega
theorem Tab.addT {s : Sums} {n : Nat} {x : Nat → Int} (h : Tab s.mat n x) (hn : n < 10) {p : Nat} {t : Int} (hp : p ≤ n) (l1 : 1 ≤ t) (l4 : t ≤ 1000000) (k0 : ∀ a b, a ≤ n → b ≤ n → s.mat a b ≤ x b - x a) :
  ∀ a b, a ≤ n + 1 → b ≤ n + 1 → ((s.know p (n + 1) t).1.know (n + 1) p (w64 (0 - t))).1.mat a b ≤ (if b = n + 1 then x p + t else x b) - if a = n + 1 then x p + t else x a := by
 obtain ⟨k1, k2, k3, k4, k5⟩ := h.add hn (p := p) (lo := t) (hi := t) (t := t) hp l1 (Int.le_refl _) (Int.le_refl _) l4
 have q := know_ab (s := s) (a := p) (b := n + 1) (m := t) (by omega) (by omega) (h.diag p (by omega)) (h.diag (n + 1) (by omega)) (by omega) (by omega) k1
 have q2 := know_le (s := (s.know p (n + 1) t).1) (a := n + 1) (b := p) (m := w64 (0 - t)) (i := p) (k := n + 1) (by omega) (by omega)
 generalize ((s.know p (n + 1) t).1.know (n + 1) p (w64 (0 - t))).1 = y at k2 k3 k4 k5 q2
 have dd := k3.diag (n + 1) (by omega)
 intro a b ha hb
 by_cases e1 : a = n + 1
 ·by_cases e2 : b = n + 1
  ·rw [if_pos e1, if_pos e2, e1, e2, dd]; omega
  ·rw [if_pos e1, if_neg e2, e1, k5 b (by omega)]
   have := k0 p b hp (by omega)
   omega
 ·by_cases e2 : b = n + 1
  ·rw [if_neg e1, if_pos e2, e2]
   have t1 := k3.tri a p (n + 1) (by omega) (by omega) (by omega)
   rw [k4 a p (by omega) hp] at t1
   have := k0 a p (by omega) hp
   omega
  ·rw [if_neg e1, if_neg e2, k4 a b (by omega) (by omega)]
   exact k0 a b (by omega) (by omega)
theorem PX.step {spot : Int} {L : List ActT} {i : Nat} {x : Nat → Int} (h : PX spot L i x) (hi : i < L.length) (hl : L.length ≤ 10) (hf : (L.getD i default).1.Spot = spot → FitAt spot L 0 i) : ∃ x', PX spot L (i + 1) x' := by
 have hi' : i < (L.map (·.1)).length := by simpa using hi
 have e0 := prU_succ spot hi'
 rw [map_getD] at e0
 by_cases hs : (L.getD i default).1.Spot = spot
 ·rw [if_pos hs] at e0
  obtain ⟨q, qt⟩ := hf hs
  obtain ⟨n1, mt1, mt2, t1, t2, t3⟩ := h.hist i (Nat.le_refl _)
  have hn := h.nx
  have hk : h.tab.n10 = h.tab.n10 := rfl
  by_cases ht : (L.getD i default).1.Take = true
  ·rw [Pst.step_take ht] at e0
   have qt := qt ht
   obtain ⟨k1, k2, k3, k4, k5⟩ := h.tab.add (by omega) mt2 q.1 q.2.1 q.2.2.1 q.2.2.2
   have kt : Exact L → _ := fun ex => h.tab.addT (by omega) (p := (prU spot (L.map (·.1)) i).m.takes) (t := (L.getD i default).2) mt2 (by omega) (by omega) (h.tight ex)
   have htk : (prU spot (L.map (·.1)) i).tk (L.getD i default).1 = (((prU spot (L.map (·.1)) i).s.know (prU spot (L.map (·.1)) i).m.takes ((prU spot (L.map (·.1)) i).next + 1) (L.getD i default).1.Max).1.know ((prU spot (L.map (·.1)) i).next + 1) (prU spot (L.map (·.1)) i).m.takes (w64 (0 - (L.getD i default).1.Min))).1.know (prU spot (L.map (·.1)) i).m.tips ((prU spot (L.map (·.1)) i).next + 1) 0 := by
    unfold Pst.tk knowIf
    simp only [h.ok, if_true, k1, k2]
   rw [htk] at e0
   have kt : Exact L → ∀ a b, a ≤ (prU spot (L.map (·.1)) i).next + 1 → b ≤ (prU spot (L.map (·.1)) i).next + 1 → (((prU spot (L.map (·.1)) i).s.know (prU spot (L.map (·.1)) i).m.takes ((prU spot (L.map (·.1)) i).next + 1) (L.getD i default).1.Max).1.know ((prU spot (L.map (·.1)) i).next + 1) (prU spot (L.map (·.1)) i).m.takes (w64 (0 - (L.getD i default).1.Min))).1.mat a b ≤ (if b = (prU spot (L.map (·.1)) i).next + 1 then x (prU spot (L.map (·.1)) i).m.takes + (L.getD i default).2 else x b) - if a = (prU spot (L.map (·.1)) i).next + 1 then x (prU spot (L.map (·.1)) i).m.takes + (L.getD i default).2 else x a := by
    intro ex
    have := kt ex
    obtain ⟨x1, x2⟩ := ex i hi
    rw [x1, x2]
    exact this
   obtain ⟨z1, z2, z3, z4⟩ := k3.more (a := (prU spot (L.map (·.1)) i).m.tips) (b := (prU spot (L.map (·.1)) i).next + 1) (m := 0) (by omega) (Nat.le_refl _) (by
    rw [if_pos rfl, if_neg (by omega)]
    omega) (by omega) (by omega)
   refine ⟨fun j => if j = (prU spot (L.map (·.1)) i).next + 1 then x (prU spot (L.map (·.1)) i).m.takes + (L.getD i default).2 else x j, ?_, ?_, ?_, ?_, ?_⟩
   rotate_left 2
   ·rw [e0]; exact z2
   ·intro u hu
    by_cases eu : u = i + 1
    ·subst eu
     rw [e0]
     refine ⟨Nat.le_refl _, by dsimp only; omega, Nat.le_refl _, ?_, ?_, ?_⟩
     ·dsimp only
      rw [if_neg (by omega), t1, tipAft, if_neg (fun q => by rw [ht] at q; cases q.2)]; omega
     ·dsimp only
      rw [if_pos rfl, t2, takAft, if_pos ⟨hs, ht⟩]
     ·dsimp only
      rw [t3, kndAft, map_getD, if_neg (fun q => by rw [ht] at q; cases q.2)]
    ·obtain ⟨n1, m1, m2, t1, t2, t3⟩ := h.hist u (by omega)
     rw [e0]
     dsimp only
     rw [if_neg (by omega), if_neg (by omega)]
     exact ⟨by omega, m1, m2, t1, t2, t3⟩
   ·intro ex a b ha hb
    rw [e0] at ha hb ⊢
    have := kt ex a b ha hb
    have w := z3 a b ha hb
    dsimp only
    omega
   ·rw [e0]; exact z1
   ·rw [e0]; show _ + 1 ≤ _; omega
  ·rw [Pst.step_tip ht] at e0
   have ht' : (L.getD i default).1.Take = false := by simpa using ht
   obtain ⟨k1, k2, k3, k4, k5⟩ := h.tab.add (by omega) mt1 q.1 q.2.1 q.2.2.1 q.2.2.2
   have kt : Exact L → _ := fun ex => h.tab.addT (by omega) (p := (prU spot (L.map (·.1)) i).m.tips) (t := (L.getD i default).2) mt1 (by omega) (by omega) (h.tight ex)
   have htp : (prU spot (L.map (·.1)) i).tp (L.getD i default).1 = ((prU spot (L.map (·.1)) i).s.know (prU spot (L.map (·.1)) i).m.tips ((prU spot (L.map (·.1)) i).next + 1) (L.getD i default).1.Max).1.know ((prU spot (L.map (·.1)) i).next + 1) (prU spot (L.map (·.1)) i).m.tips (w64 (0 - (L.getD i default).1.Min)) := by
    unfold Pst.tp knowIf
    simp only [h.ok, if_true, k1]
   rw [htp] at e0
   have kt : Exact L → ∀ a b, a ≤ (prU spot (L.map (·.1)) i).next + 1 → b ≤ (prU spot (L.map (·.1)) i).next + 1 → (((prU spot (L.map (·.1)) i).s.know (prU spot (L.map (·.1)) i).m.tips ((prU spot (L.map (·.1)) i).next + 1) (L.getD i default).1.Max).1.know ((prU spot (L.map (·.1)) i).next + 1) (prU spot (L.map (·.1)) i).m.tips (w64 (0 - (L.getD i default).1.Min))).1.mat a b ≤ (if b = (prU spot (L.map (·.1)) i).next + 1 then x (prU spot (L.map (·.1)) i).m.tips + (L.getD i default).2 else x b) - if a = (prU spot (L.map (·.1)) i).next + 1 then x (prU spot (L.map (·.1)) i).m.tips + (L.getD i default).2 else x a := by
    intro ex
    have := kt ex
    obtain ⟨x1, x2⟩ := ex i hi
    rw [x1, x2]
    exact this
   refine ⟨fun j => if j = (prU spot (L.map (·.1)) i).next + 1 then x (prU spot (L.map (·.1)) i).m.tips + (L.getD i default).2 else x j, ?_, ?_, ?_, ?_, ?_⟩
   rotate_left 2
   ·rw [e0]; exact k3
   ·intro u hu
    by_cases eu : u = i + 1
    ·subst eu
     rw [e0]
     refine ⟨Nat.le_refl _, Nat.le_refl _, by dsimp only; omega, ?_, ?_, ?_⟩
     ·dsimp only
      rw [if_pos rfl, t1, tipAft, if_pos ⟨hs, ht'⟩]
     ·dsimp only
      rw [if_neg (by omega), t2, takAft, if_neg (fun q => by rw [ht'] at q; cases q.2)]; omega
     ·dsimp only
      rw [kndAft, map_getD, if_pos ⟨hs, ht'⟩]
    ·obtain ⟨n1, m1, m2, t1, t2, t3⟩ := h.hist u (by omega)
     rw [e0]
     dsimp only
     rw [if_neg (by omega), if_neg (by omega)]
     exact ⟨by omega, m1, m2, t1, t2, t3⟩
   ·intro ex a b ha hb
    rw [e0] at ha hb ⊢
    exact kt ex a b ha hb
   ·rw [e0]; exact k2
   ·rw [e0]; show _ + 1 ≤ _; omega
 ·rw [if_neg hs] at e0
  refine ⟨x, by rw [e0]; exact h.ok, by rw [e0]; exact Nat.le_succ_of_le h.nx, by rw [e0]; exact h.tab, fun u hu => ?_, fun ex => by rw [e0]; exact h.tight ex⟩
  by_cases eu : u = i + 1
  ·subst eu
   obtain ⟨n1, m1, m2, t1, t2, t3⟩ := h.hist i (Nat.le_refl _)
   rw [e0]
   refine ⟨Nat.le_refl _, m1, m2, ?_, ?_, ?_⟩
   ·rw [t1, tipAft, if_neg (fun q => hs q.1)]; omega
   ·rw [t2, takAft, if_neg (fun q => hs q.1)]; omega
   ·rw [t3, kndAft, map_getD, if_neg (fun q => hs q.1)]
  ·rw [e0]; exact h.hist u (by omega)
theorem PX.all {spot : Int} {L : List ActT} (hl : L.length ≤ 10) (hf : Fits spot 0 L) : ∀ i, i ≤ L.length → ∃ x, PX spot L i x
 | 0, _ => ⟨_, PX.start spot L⟩
 | i + 1, h => by
  obtain ⟨x, hx⟩ := PX.all hl hf i (by omega)
  exact hx.step (by omega) hl fun hs => Fits_at spot L 0 hf i (by omega) hs
structure SpotX (g : Gnd) (spot : Int) (truth : List Int) (n : Nat) (x : Nat → Int) : Prop where
 ok : (pile g spot).2 = true
 tab : Tab (pile g spot).1.s.mat n x
 mom : ∀ u, u ≤ g.Acts.length → ((pile g spot).1.before u).tips ≤ n ∧ ((pile g spot).1.before u).takes ≤ n ∧ x ((pile g spot).1.before u).tips = tipAft spot (g.Acts.zip truth) u ∧ x ((pile g spot).1.before u).takes = takAft spot (g.Acts.zip truth) u ∧
  ((pile g spot).1.before u).kind = kndAft spot g.Acts u
 tight : Exact (g.Acts.zip truth) → ∀ a b, a ≤ n → b ≤ n → (pile g spot).1.s.mat a b ≤ x b - x a
theorem spotX {g : Gnd} {spot : Int} {truth : List Int} (hl : g.Acts.length ≤ 10) (he : truth.length = g.Acts.length) (hf : Fits spot 0 (g.Acts.zip truth)) : ∃ n x, SpotX g spot truth n x := by
 have hz : (g.Acts.zip truth).map (·.1) = g.Acts := by
  rw [List.map_fst_zip]
  omega
 have hzl : (g.Acts.zip truth).length = g.Acts.length := by rw [List.length_zip]; omega
 obtain ⟨x, h⟩ := PX.all (by omega) hf (g.Acts.zip truth).length (Nat.le_refl _)
 have ep : ∀ a : Pst, a = prU spot g.Acts g.Acts.length → pile g spot = (⟨a.s, a.ms⟩, a.ok) := by
  intro a ha
  rw [ha, prU_all]; rfl
 have ep := ep _ rfl
 refine ⟨(prU spot g.Acts g.Acts.length).next, x, ?_, ?_, fun u hu => ?_, fun ex => ?_⟩
 rotate_left
 ·have := h.tab
  rw [hz, hzl] at this
  rw [ep]; exact this
 ·rw [pile_before g spot hu]
  have := h.hist u (by omega)
  rw [hz, hzl] at this
  exact ⟨Nat.le_trans this.2.1 this.1, Nat.le_trans this.2.2.1 this.1, this.2.2.2.1, this.2.2.2.2.1, this.2.2.2.2.2⟩
 ·have := h.tight ex
  rw [hz, hzl] at this
  rw [ep]; exact this
 ·have := h.ok
  rw [hz, hzl] at this
  rw [ep]; exact this
theorem until_len (hour : Int) : ∀ l : List Act, untilL hour l ≤ l.length
 | [] => Nat.le_refl _
 | a :: l => by
  have := until_len hour l
  rw [untilL]
  split
  ·simp; omega
  ·omega
abbrev k2 (a b : Int) : Value := .agg ⟨[.int .i64 a, .int .i64 b]⟩
theorem dflat_k2 (a b : Int) : dflat (k2 a b) = true := by simp [dflat, flat]
section
variable {P : Program} {t e : TypeId}
theorem pr_sizeOf {s : Nat} (hs : tySize P e = some s) : pr P (Go.sizeOf e) = some s := by
 unfold tySize at hs
 unfold Go.sizeOf typeInfo
 cases hi : P.info? e with
 | none => rw [hi] at hs; cases hs
 | some i =>
  rw [hi] at hs
  simp only [Option.map_some, Option.some.injEq] at hs
  simp [pr_bind', pr_program, hi, hs]
theorem pr_equal_k2' (hu : P.underlying t = some (.array 2 e)) (hs : tySize P e = some 1) (he : tyAgg P e = some false) (hi : P.underlying e = some (.int .i64)) (a b c d : Int) (z : Nat) :
  pr P (Op.equalIn (z + 1 + 1) t (k2 a b) (k2 c d)) = some (decide (a = c ∧ b = d)) := by
 have p0 : ∀ x y : Int, pr P (part e #[.int .i64 x, .int .i64 y] 0) = some (.int .i64 x) := fun x y => pr_part1 he rfl
 have p1 : ∀ x y : Int, pr P (part e #[.int .i64 x, .int .i64 y] 1) = some (.int .i64 y) := fun x y => pr_part1 he rfl
 have q : ∀ x y : Int, pr P (Op.equalIn (z + 1) e (.int .i64 x) (.int .i64 y)) = some (x == y) := by
  intro x y
  simp only [Op.equalIn, pr_bind', underlying, pr_program, Option.bind_some, hi, pr_pure, if_true]
 rw [Op.equalIn]
 simp only [pr_bind', underlying, pr_program, Option.bind_some, hu, pr_pure, pr_sizeOf hs]
 simp only [Std.Legacy.Range.forIn_eq_forIn_range', Std.Legacy.Range.size, List.range'_succ, List.range'_zero, List.forIn_cons, List.forIn_nil, pr_bind', p0, p1, q, Option.bind_some, Nat.zero_mul, Nat.mul_one, Nat.zero_add]
 by_cases h1 : a = c
 ·by_cases h2 : b = d
  ·simp [h1, h2, p0, p1, q, pr_bind', pr_ite, pr_pure, List.range'_succ]
  ·simp [h1, h2, p0, p1, q, pr_bind', pr_ite, pr_pure, List.range'_succ]
 ·simp [h1, p0, p1, q, pr_bind', pr_ite, pr_pure]
theorem pr_equal_k2 (hu : P.underlying t = some (.array 2 e)) (hs : tySize P e = some 1) (he : tyAgg P e = some false) (hi : P.underlying e = some (.int .i64)) (a b c d : Int) :
  pr P (Op.equal t (k2 a b) (k2 c d)) = some (decide (a = c ∧ b = d)) := by
 exact pr_equal_k2' hu hs he hi a b c d 9998
theorem keyOk_k2 (hu : P.underlying t = some (.array 2 e)) (hs : tySize P e = some 1) (he : tyAgg P e = some false) (hi : P.underlying e = some (.int .i64)) (a b : Int) : keyOk P t (k2 a b) = true := by
 have p0 : ∀ x y : Int, pr P (part e #[.int .i64 x, .int .i64 y] 0) = some (.int .i64 x) := fun x y => pr_part1 he rfl
 have p1 : ∀ x y : Int, pr P (part e #[.int .i64 x, .int .i64 y] 1) = some (.int .i64 y) := fun x y => pr_part1 he rfl
 have q : ∀ (em : Bool) (z : Nat) (x : Int), pr P (Instr.checkKey em (z + 1) e (.int .i64 x)) = some () := by
  intro em z x
  rw [Instr.checkKey]
  simp only [pr_bind', underlying, pr_program, Option.bind_some, hi, pr_pure]
 have k : ∀ (em : Bool) (z : Nat), pr P (Instr.checkKey em (z + 1 + 1) t (k2 a b)) = some () := by
  intro em z
  rw [Instr.checkKey]
  simp only [pr_bind', underlying, pr_program, Option.bind_some, hu, pr_pure, pr_sizeOf hs]
  simp only [Std.Legacy.Range.forIn_eq_forIn_range', Std.Legacy.Range.size]
  simp [List.range'_succ, pr_bind', pr_sizeOf hs, p0, p1, q, pr_pure]
 unfold keyOk
 have k1 : pr P (Instr.checkKey true 10000 t (k2 a b)) = some () := k true 9998
 have k2 : pr P (Instr.checkKey false 10000 t (k2 a b)) = some () := k false 9998
 rw [k1, k2, dflat_k2]
 rfl
end
abbrev Ent2 := (Int × Int) × Int
def entK (l : List Ent2) : List (Value × Value) := l.map fun e => (k2 e.1.1 e.1.2, .int .i64 e.2)
def findE (a b : Int) : List Ent2 → Nat → Option (Nat × Value)
 | [], _ => none
 | x :: l, i => if a = x.1.1 ∧ b = x.1.2 then some (i, .int .i64 x.2) else findE a b l (i + 1)
theorem findM_k2 {P : Program} {t e : TypeId} (hu : P.underlying t = some (.array 2 e)) (hs : tySize P e = some 1) (he : tyAgg P e = some false) (hi : P.underlying e = some (.int .i64)) (a b : Int) :
  ∀ (l : List Ent2) (i : Nat), findM P t (k2 a b) (entK l) i = some (findE a b l i)
 | [], i => rfl
 | x :: l, i => by
  show findM P t (k2 a b) ((k2 x.1.1 x.1.2, .int .i64 x.2) :: entK l) i = _
  rw [findM, pr_equal_k2 hu hs he hi, findE]
  by_cases c : a = x.1.1 ∧ b = x.1.2
  ·rw [decide_eq_true c, if_pos c]
  ·rw [decide_eq_false c, if_neg c]
   exact findM_k2 hu hs he hi a b l (i + 1)
theorem findE_app {a b : Int} : ∀ {l m : List Ent2} {i : Nat}, findE a b l i = none → findE a b (l ++ m) i = findE a b m (i + l.length)
 | [], m, i, _ => rfl
 | x :: l, m, i, h => by
  rw [findE] at h
  by_cases c : a = x.1.1 ∧ b = x.1.2
  ·rw [if_pos c] at h; cases h
  ·rw [if_neg c] at h
   rw [List.cons_append, findE, if_neg c, findE_app h, List.length_cons]
   congr 1
   omega
theorem findE_hit {a b : Int} {y : Nat × Value} : ∀ {l m : List Ent2} {i : Nat}, findE a b l i = some y → findE a b (l ++ m) i = some y
 | [], m, i, h => by cases h
 | x :: l, m, i, h => by
  rw [findE] at h
  rw [List.cons_append, findE]
  by_cases c : a = x.1.1 ∧ b = x.1.2
  ·rw [if_pos c] at h ⊢; exact h
  ·rw [if_neg c] at h ⊢; exact findE_hit h
theorem mapUpdate_k2 {P : Program} {mt t v e : TypeId} (hm : P.underlying mt = some (.map t v)) (hu : P.underlying t = some (.array 2 e)) (hs : tySize P e = some 1) (he : tyAgg P e = some false) (hi : P.underlying e = some (.int .i64)) {H : AHeap} {r : Nat} {l : List Ent2} {a b d : Int}
  (hg : H.get r = .map (entK l)) (hn : findE a b l 0 = none) : mapUpdateA P mt (.map (some r)) (k2 a b) (.int .i64 d) H = some (H.put r (.map (entK (l ++ [((a, b), d)])))) := by
 unfold mapUpdateA
 rw [hm]
 dsimp only
 rw [if_pos (keyOk_k2 hu hs he hi a b), hg]
 dsimp only
 rw [findM_k2 hu hs he hi, hn]
 simp [entK]
theorem build_k2 {P : Program} {t e : TypeId} (hu : P.underlying t = some (.array 2 e)) (hz : tyZero P t = some (k2 0 0)) (hs : tySize P e = some 1) (a b : Int) : buildA P t [(0, .int .i64 a), (1, .int .i64 b)] = some (k2 a b) := by
 unfold buildA
 rw [hu, hz]
 dsimp only
 rw [if_pos (dflat_k2 0 0), hs]
 rfl
def distS (x y : Spo) : Int := w64 (max (w64 (x.X - y.X)) (w64 (y.X - x.X)) + max (w64 (x.Y - y.Y)) (w64 (y.Y - x.Y)))
def dist (g : Gnd) (a b : Nat) : Int := distS (g.Spots.getD a default) (g.Spots.getD b default)
def nearRow (g : Gnd) (b : Nat) : Nat → List Ent2
 | 0 => []
 | a + 1 => nearRow g b a ++ [(((a : Int), (b : Int)), dist g a b)]
def nearAll (g : Gnd) : Nat → List Ent2
 | 0 => []
 | b + 1 => nearAll g b ++ nearRow g b b
theorem findE_none {a b : Int} : ∀ {l : List Ent2} {i : Nat}, (∀ x, x ∈ l → ¬ (a = x.1.1 ∧ b = x.1.2)) → findE a b l i = none
 | [], _, _ => rfl
 | x :: l, i, h => by
  rw [findE, if_neg (h x (List.mem_cons_self ..))]
  exact findE_none fun y hy => h y (List.mem_cons_of_mem _ hy)
theorem nearRow_mem {g : Gnd} {b : Nat} : ∀ {a : Nat} {x : Ent2}, x ∈ nearRow g b a → x.1.2 = b ∧ x.1.1 < a
 | 0, x, h => by cases h
 | a + 1, x, h => by
  rcases List.mem_append.1 h with h | h
  ·have := nearRow_mem h; exact ⟨this.1, by omega⟩
  ·rw [List.mem_singleton.1 h]; exact ⟨rfl, by show (a : Int) < _; omega⟩
theorem nearAll_mem {g : Gnd} : ∀ {n : Nat} {x : Ent2}, x ∈ nearAll g n → x.1.2 < n
 | 0, x, h => by cases h
 | n + 1, x, h => by
  rcases List.mem_append.1 h with h | h
  ·have := nearAll_mem h; omega
  ·have := (nearRow_mem h).1; omega
theorem near_new {g : Gnd} {a b : Nat} : findE a b (nearAll g b ++ nearRow g b a) 0 = none := by
 refine findE_none fun x hx => ?_
 rintro ⟨h1, h2⟩
 rcases List.mem_append.1 hx with h | h
 ·have := nearAll_mem h; omega
 ·have := nearRow_mem h; omega
theorem nearRow_hit {g : Gnd} {a b : Nat} : ∀ {n i : Nat}, a < n → ∃ j, findE a b (nearRow g b n) i = some (j, iv (dist g a b))
 | 0, i, h => by omega
 | n + 1, i, h => by
  by_cases e : a < n
  ·obtain ⟨j, hj⟩ := nearRow_hit (g := g) (b := b) (i := i) e
   exact ⟨j, findE_hit hj⟩
  ·have e : a = n := by omega
   subst e
   refine ⟨i + (nearRow g b a).length, ?_⟩
   rw [nearRow, findE_app (findE_none fun x hx => by have := nearRow_mem hx; omega), findE, if_pos ⟨rfl, rfl⟩]
theorem near_hit {g : Gnd} {a b : Nat} (hab : a < b) : ∀ {n : Nat}, b < n → ∃ j, findE a b (nearAll g n) 0 = some (j, iv (dist g a b))
 | 0, h => by omega
 | n + 1, h => by
  by_cases e : b < n
  ·obtain ⟨j, hj⟩ := near_hit hab e
   exact ⟨j, findE_hit hj⟩
  ·have e : b = n := by omega
   subst e
   obtain ⟨j, hj⟩ := nearRow_hit (g := g) (b := b) (i := 0 + (nearAll g b).length) hab
   refine ⟨j, ?_⟩
   rw [nearAll, findE_app (findE_none fun x hx => by have := nearAll_mem hx; omega), hj]
def holdsP (g : Gnd) (spot kind : Nat) : Int := w64 ((w64 (w64 ((g.Sorts.getD kind default).High * (g.Sorts.getD kind default).Dense) * (g.Spots.getD spot default).Area)).tdiv 100)
def fireMax (g : Gnd) (s t : Int) : Int := max (g.Sorts.getD s.toNat default).Fire (g.Sorts.getD t.toNat default).Fire
theorem prU_kind (spot : Int) (L : List Act) : ∀ u, u ≤ L.length → (prU spot L u).m.kind = kndAft spot L u
 | 0, _ => rfl
 | u + 1, h => by
  have ih := prU_kind spot L u (by omega)
  rw [prU_succ spot (by omega), kndAft]
  by_cases c : (L.getD u default).Spot = spot
  ·rw [if_pos c]
   by_cases t : (L.getD u default).Take = true
   ·rw [Pst.step_take t, if_neg (fun q => by rw [t] at q; cases q.2)]; exact ih
   ·rw [Pst.step_tip t, if_pos ⟨c, by simpa using t⟩]
  ·rw [if_neg c, if_neg (fun q => c q.1)]; exact ih
theorem before_kind (g : Gnd) (spot : Int) {u : Nat} (hu : u ≤ g.Acts.length) : ((pile g spot).1.before u).kind = kndAft spot g.Acts u := by
 rw [pile_before g spot hu]; exact prU_kind spot g.Acts u hu
theorem inB_elim {n a b : Int} (h : inB n a b = true) : a ≤ n ∧ n ≤ b := of_decide_eq_true h
theorem checkAct_mk {g : Gnd} {last : Int} {a : Act} (h : checkAct g last a = 0) (hs : g.Spots.length ≤ 4) (hq : g.Sorts.length ≤ 4) : ActOk g.Spots.length g.Sorts.length last a := by
 have e1 : w64 ((g.Spots.length : Int) - 1) = g.Spots.length - 1 := w64_id (by omega) (by omega)
 have e2 : w64 ((g.Sorts.length : Int) - 1) = g.Sorts.length - 1 := w64_id (by omega) (by omega)
 unfold checkAct at h
 rw [e1, e2] at h
 by_cases c1 : inB a.Hour 0 72 = true
 ·rw [if_neg (by simp [c1])] at h
  by_cases c2 : a.Hour < last
  ·rw [if_pos c2] at h; cases h
  ·rw [if_neg c2] at h
   by_cases c3 : inB a.Spot 0 (g.Spots.length - 1) = true ∧ inB a.Kind 0 (g.Sorts.length - 1) = true
   ·rw [if_neg (by simp [c3])] at h
    by_cases c4 : (a.Take && decide (a.Kind ≠ 0)) = true
    ·rw [if_pos c4] at h; cases h
    ·rw [if_neg c4] at h
     by_cases c5 : inB a.Min 1 1000000 = true ∧ inB a.Max 1 1000000 = true
     ·rw [if_neg (by simp [c5])] at h
      by_cases c6 : a.Max < a.Min
      ·rw [if_pos c6] at h; cases h
      ·have b1 := inB_elim c1
       have b2 := inB_elim c3.1
       have b3 := inB_elim c3.2
       have b4 := inB_elim c5.1
       have b5 := inB_elim c5.2
       refine ⟨⟨b1.1, b1.2, by omega⟩, ⟨b2.1, by omega⟩, ⟨b3.1, by omega⟩, fun ht => ?_, ⟨b4.1, by omega, b5.2⟩⟩
       rw [ht] at c4
       simpa using c4
     ·rw [if_pos (by simp only [Bool.or_eq_true, Bool.not_eq_true']; rcases Decidable.not_and_iff_or_not.1 c5 with q | q <;> simp [q])] at h
      cases h
   ·rw [if_pos (by simp only [Bool.or_eq_true, Bool.not_eq_true']; rcases Decidable.not_and_iff_or_not.1 c3 with q | q <;> simp [q])] at h
    cases h
 ·rw [if_pos (by simp [c1])] at h; cases h
theorem checkActs_at {g : Gnd} (hs : g.Spots.length ≤ 4) (hq : g.Sorts.length ≤ 4) : ∀ (l : List Act) (h : Int), checkActs g h l = 0 → ∀ u, u < l.length → ∃ last, ActOk g.Spots.length g.Sorts.length last (l.getD u default)
 | [], _, _, u, hu => by simp at hu
 | a :: l, h, k, u, hu => by
  rw [checkActs] at k
  by_cases c : checkAct g h a ≠ 0
  ·rw [if_pos c] at k; exact absurd k c
  ·rw [if_neg c] at k
   cases u with
   | zero => exact ⟨h, checkAct_mk (Decidable.not_not.1 c) hs hq⟩
   | succ u =>
    have hu : u < l.length := by simpa using hu
    exact checkActs_at hs hq l a.Hour k u hu
theorem Ok.at {g : Gnd} (h : Ok g) {u : Nat} (hu : u < g.Acts.length) : ∃ last, ActOk g.Spots.length g.Sorts.length last (g.Acts.getD u default) :=
 checkActs_at h.spots.2 h.sorts.2 g.Acts 0 h.act u hu
theorem Ok.kind {g : Gnd} (h : Ok g) (spot : Int) : ∀ u, u ≤ g.Acts.length → 0 ≤ kndAft spot g.Acts u ∧ kndAft spot g.Acts u < g.Sorts.length
 | 0, _ => ⟨Int.le_refl _, by show (0 : Int) < _; have := h.sorts; omega⟩
 | u + 1, hu => by
  rw [kndAft]
  split
  ·obtain ⟨_, a⟩ := h.at (u := u) (by omega)
   exact ⟨a.k.1, a.k.2⟩
  ·exact h.kind spot u (by omega)
theorem knownGo_at {g : Gnd} : ∀ (n i : Nat) (acc : List Hp), (∀ j, j < acc.length → acc.getD j default = (pile g (j : Nat)).1) → acc.length = i → ∀ j, j < (knownGo g i n acc).1.length → (knownGo g i n acc).1.getD j default = (pile g (j : Nat)).1
 | 0, i, acc, h, _ => h
 | n + 1, i, acc, h, hi => by
  rw [knownGo]
  split
  ·refine knownGo_at n (i + 1) _ (fun j hj => ?_) (by simp [hi])
   by_cases e : j < acc.length
   ·rw [getD_appL e]; exact h j e
   ·have e : j = acc.length := by simp at hj; omega
    subst e
    rw [getD_appR, hi]
  ·exact h
theorem known_at {g : Gnd} {j : Nat} (hj : j < (known g).1.length) : (known g).1.getD j default = (pile g (j : Nat)).1 := knownGo_at g.Spots.length 0 [] (fun j hj => by cases hj) rfl j hj
theorem known_kind {g : Gnd} (h : Ok g) {j : Nat} (hj : j < (known g).1.length) {u : Nat} (hu : u ≤ g.Acts.length) : 0 ≤ (((known g).1.getD j default).before u).kind ∧ (((known g).1.getD j default).before u).kind < g.Sorts.length := by
 rw [known_at hj, before_kind g j hu]
 exact h.kind _ u hu
theorem getD_ext {α : Type} [Inhabited α] {l m : List α} (h : l.length = m.length) (k : ∀ i, i < l.length → l.getD i default = m.getD i default) : l = m := by
 refine List.ext_getElem h fun i h1 h2 => ?_
 have := k i h1
 simpa [List.getD, h1, h2] using this
theorem getD_setA {α : Type} [Inhabited α] {l : List α} {n m : Nat} {v : α} : (l.set n v).getD m default = if n = m ∧ n < l.length then v else l.getD m default := by
 simp only [List.getD]
 by_cases h : n = m
 ·subst h
  by_cases hl : n < l.length
  ·simp [hl]
  ·simp [hl]
 ·rw [List.getElem?_set_ne h, if_neg (fun hh => h hh.1)]
theorem getD_mapA {α β : Type} [Inhabited α] [Inhabited β] {f : α → β} {l : List α} {i : Nat} (h : i < l.length) : (l.map f).getD i default = f (l.getD i default) := by simp [List.getD, h]
structure True5 (g : Gnd) (truth : List Int) : Prop where
 ok : Ok g
 ck : check g = 0
 len : truth.length = g.Acts.length
 fit : ∀ j : Nat, j < g.Spots.length → Fits j 0 (g.Acts.zip truth)
theorem True5.spot {g : Gnd} {truth : List Int} (h : True5 g truth) {j : Nat} (hj : j < g.Spots.length) : ∃ n x, SpotX g j truth n x := spotX h.ok.acts h.len (h.fit j hj)
theorem True5.known {g : Gnd} {truth : List Int} (h : True5 g truth) : (Swa.known g).2 = 0 ∧ (Swa.known g).1 = (List.range g.Spots.length).map fun j => (pile g (j : Nat)).1 :=
 known_get fun j hj => by obtain ⟨n, x, k⟩ := h.spot hj; exact k.ok
theorem okSrt_elim {s : Srt} (h : okSrt s = true) : 1 ≤ s.High ∧ s.High ≤ 1000 ∧ 1 ≤ s.Dense ∧ s.Dense ≤ 8000 ∧ 0 ≤ s.Fire ∧ s.Fire ≤ 100 ∧ 0 ≤ s.Age ∧ s.Age ≤ 72 := by
 unfold okSrt at h
 simp only [Bool.and_eq_true] at h
 have a := inB_elim h.1.1.1
 have b := inB_elim h.1.1.2
 have c := inB_elim h.1.2
 have d := inB_elim h.2
 omega
theorem okSpo_elim {s : Spo} (h : okSpo s = true) : 0 ≤ s.X ∧ s.X ≤ 1000 ∧ 0 ≤ s.Y ∧ s.Y ≤ 1000 ∧ 1 ≤ s.Area ∧ s.Area ≤ 1000 := by
 unfold okSpo at h
 simp only [Bool.and_eq_true] at h
 have a := inB_elim h.1.1
 have b := inB_elim h.1.2
 have c := inB_elim h.2
 omega
theorem getD_mem {α : Type} [Inhabited α] {l : List α} {i : Nat} (h : i < l.length) : l.getD i default ∈ l := by
 simp [List.getD, h]
theorem holds_val {g : Gnd} (ok : Ok g) {a : Nat} {kind : Int} (ha : a < g.Spots.length) (hk : 0 ≤ kind ∧ kind < g.Sorts.length) :
  ∃ c, c = (g.Sorts.getD kind.toNat default).High * (g.Sorts.getD kind.toNat default).Dense * (g.Spots.getD a default).Area ∧ 0 ≤ c ∧ c ≤ 8000000000 ∧ holdsP g a kind.toNat = c / 100 ∧ w64 (w64 ((g.Sorts.getD kind.toNat default).High * (g.Sorts.getD kind.toNat default).Dense) * (g.Spots.getD a default).Area) = c := by
 have s := okSrt_elim (ok.sort _ (getD_mem (show kind.toNat < g.Sorts.length by omega)))
 have p := okSpo_elim (ok.spot _ (getD_mem ha))
 unfold holdsP
 generalize (g.Sorts.getD kind.toNat default).High = h at *
 generalize (g.Sorts.getD kind.toNat default).Dense = d at *
 generalize (g.Spots.getD a default).Area = r at *
 have p1 : h * d ≤ 1000 * 8000 := Int.mul_le_mul s.2.1 s.2.2.2.1 (by omega) (by omega)
 have p0 : 0 ≤ h * d := Int.mul_nonneg (by omega) (by omega)
 have p2 : h * d * r ≤ 8000000 * 1000 := Int.mul_le_mul p1 p.2.2.2.2.2 (by omega) (by omega)
 have p3 : 0 ≤ h * d * r := Int.mul_nonneg p0 (by omega)
 refine ⟨h * d * r, rfl, p3, by omega, ?_, ?_⟩
 ·rw [w64_id (x := h * d) (by omega) (by omega), w64_id (x := h * d * r) (by omega) (by omega), Int.tdiv_eq_ediv_of_nonneg p3, w64_id (by omega) (by omega)]
 ·rw [w64_id (x := h * d) (by omega) (by omega), w64_id (by omega) (by omega)]
theorem ground_true {x spots sorts acts mass hours : Int} (q1 : 1 ≤ spots ∧ spots ≤ 4) (q2 : 1 ≤ sorts ∧ sorts ≤ 4) (q3 : 0 ≤ acts ∧ acts ≤ 10) (q4 : 1 ≤ mass ∧ mass ≤ 10000) (q5 : 0 ≤ hours ∧ hours ≤ 72) :
  True5 (groundOf x spots sorts acts mass hours).g (groundOf x spots sorts acts mass hours).truth := by
 obtain ⟨a, b, c, d, e, f⟩ := ground_fair (x := x) q1 q2 q3 q4 q5
 exact ⟨check_ok a.ck, a.ck, e, f⟩

structure Way where
 spot : Nat
 a : Nat
 b : Nat
 most : Int
 deriving DecidableEq, Inhabited
def eWay (w : Way) : List Value := [iv w.spot, iv w.a, iv w.b, iv w.most]
theorem eWay_len (w : Way) : (eWay w).length = 4 := rfl
abbrev Rul := List Way
def emptyW (spot : Nat) (m : Mom) : Way := ⟨spot, m.takes, m.tips, 0⟩
structure Hst where
 out : List Rul
 before : Nat
 tips : Nat
 deriving Inhabited
def hStep (g : Gnd) (h : Hp) (spot : Nat) (hour : Int) (now : Mom) (s : Hst) (i : Nat) (a : Act) : Hst :=
 if a.Take = true ∨ hour < a.Hour then s
 else
  let m := h.before i
  let tips := (h.before (i + 1 : Nat)).tips
  let o1 := if w64 (a.Hour + (g.Sorts.getD a.Kind.toNat default).Age) < hour then s.out ++ [[⟨spot, now.takes, tips, 0⟩]] else s.out
  let o2 := if a.Hour = hour ∧ 0 < s.before ∧ m.kind ≠ a.Kind then o1 ++ [[emptyW spot m]] else o1
  ⟨o2, tips, tips⟩
def hRun (g : Gnd) (h : Hp) (spot : Nat) (hour : Int) (now : Mom) : Nat → List Act → Hst → Hst
 | _, [], s => s
 | i, a :: l, s => hRun g h spot hour now (i + 1) l (if a.Spot = spot then hStep g h spot hour now s i a else s)
def nowOf (g : Gnd) (h : Hp) (hour : Int) : Mom := h.before (untilL hour g.Acts)
def heapRules (g : Gnd) (h : Hp) (spot : Nat) (hour : Int) : List Rul :=
 let now := nowOf g h hour
 (hRun g h spot hour now 0 g.Acts ⟨[[⟨spot, now.takes, now.tips, holdsP g spot now.kind.toNat⟩]], 0, 0⟩).out
def pairOne (g : Gnd) (hs : List Hp) (hour : Int) (b a : Nat) : List Rul :=
 let m := nowOf g (hs.getD a default) hour
 let n := nowOf g (hs.getD b default) hour
 if m.tips = 0 ∨ n.tips = 0 ∨ fireMax g m.kind n.kind ≤ dist g a b then [] else [[emptyW a m, emptyW b n]]
def pairRow (g : Gnd) (hs : List Hp) (hour : Int) (b : Nat) : Nat → List Rul
 | 0 => []
 | a + 1 => pairRow g hs hour b a ++ pairOne g hs hour b a
def pairRules (g : Gnd) (hs : List Hp) (hour : Int) : Nat → List Rul
 | 0 => []
 | b + 1 => pairRules g hs hour b ++ pairRow g hs hour b b
def heapsR (g : Gnd) (hs : List Hp) (hour : Int) : Nat → List Rul
 | 0 => []
 | n + 1 => heapsR g hs hour n ++ heapRules g (hs.getD n default) n hour
def Way.ok (w : Way) (all : List Sums) : Bool := decide ((all.getD w.spot default).mat w.a w.b ≤ w.most)
def breaksR (all : List Sums) (r : Rul) : Bool := r.all fun w => !w.ok all
def keptL : List Rul → List Sums → Bool
 | [], _ => true
 | r :: rs, all =>
  if r.any (fun w => w.ok all) = true then keptL rs all
  else r.any fun w => ((all.getD w.spot default).know w.a w.b w.most).2 && keptL rs (all.set w.spot ((all.getD w.spot default).know w.a w.b w.most).1)
structure Bst where
 perhaps : Int
 singles : List Rul
 doubles : List Rul
def earlierI (a b : Int) : Int := if a < 0 ∨ b < a then b else a
def bStep (g : Gnd) (hs : List Hp) (s : Bst) (hour : Nat) : Bst × Bool :=
 let heaps := heapsR g hs hour g.Spots.length
 let pairs := pairRules g hs hour g.Spots.length
 let all := hs.map (·.s)
 let p := if (heaps ++ pairs).any (breaksR all) = true then earlierI s.perhaps hour else s.perhaps
 let t : Bst := ⟨p, s.singles ++ heaps, s.doubles ++ pairs⟩
 (t, decide (0 ≤ p) && !keptL (t.singles ++ t.doubles) all)
def bGo (g : Gnd) (hs : List Hp) : Nat → Nat → Bst → Int × Int
 | 0, _, s => (s.perhaps, -1)
 | n + 1, hour, s => if (bStep g hs s hour).2 = true then ((bStep g hs s hour).1.perhaps, hour) else bGo g hs n (hour + 1) (bStep g hs s hour).1
def breaks (g : Gnd) : Int × Int × Int :=
 if check g ≠ 0 then (0, 0, check g)
 else if (known g).2 ≠ 0 then (0, 0, (known g).2)
 else ((bGo g (known g).1 73 0 ⟨-1, [], []⟩).1, (bGo g (known g).1 73 0 ⟨-1, [], []⟩).2, 0)
def shA (by_ : Int) (a : Act) : Act := ⟨a.Hour + by_, a.Spot, a.Kind, a.Min, a.Max, a.Take⟩
def shG (by_ : Int) (g : Gnd) : Gnd := ⟨g.Spots, g.Sorts, g.Acts.map (shA by_)⟩
theorem sh_step (p : Pst) (i : Nat) (a : Act) (y : Int) : p.step i (shA y a) = p.step i a := rfl
theorem sh_run (spot y : Int) : ∀ (l : List Act) (i : Nat) (p : Pst), Pst.run spot i (l.map (shA y)) p = Pst.run spot i l p
 | [], _, _ => rfl
 | a :: l, i, p => by
  rw [List.map_cons, Pst.run, Pst.run, sh_step]
  exact sh_run spot y l (i + 1) _
theorem sh_pile (g : Gnd) (spot y : Int) : pile (shG y g) spot = pile g spot := by
 unfold pile shG
 dsimp only
 rw [sh_run]
theorem sh_knownGo (g : Gnd) (y : Int) : ∀ (n i : Nat) (acc : List Hp), knownGo (shG y g) i n acc = knownGo g i n acc
 | 0, _, _ => rfl
 | n + 1, i, acc => by
  rw [knownGo, knownGo, sh_pile]
  split
  ·exact sh_knownGo g y n (i + 1) _
  ·rfl
theorem sh_known (g : Gnd) (y : Int) : known (shG y g) = known g := sh_knownGo g y g.Spots.length 0 []
theorem sh_until (hour y : Int) : ∀ l : List Act, untilL (hour + y) (l.map (shA y)) = untilL hour l
 | [] => rfl
 | a :: l => by
  rw [List.map_cons, untilL, untilL, sh_until hour y l]
  by_cases c : a.Hour ≤ hour
  ·rw [if_pos c, if_pos (by show a.Hour + y ≤ hour + y; omega)]
  ·rw [if_neg c, if_neg (by show ¬ a.Hour + y ≤ hour + y; omega)]
theorem sh_until0 {hour y : Int} (h : hour < y) : ∀ l : List Act, (∀ a, a ∈ l → 0 ≤ a.Hour) → untilL hour (l.map (shA y)) = 0
 | [], _ => rfl
 | a :: l, k => by
  have := k a (List.mem_cons_self ..)
  rw [List.map_cons, untilL, if_neg (by show ¬ a.Hour + y ≤ hour; omega)]
structure Hours (g : Gnd) (y : Int) : Prop where
 y : 0 ≤ y ∧ y ≤ 1000
 h : ∀ a, a ∈ g.Acts → 0 ≤ a.Hour ∧ a.Hour ≤ 1000
 age : ∀ k, 0 ≤ (g.Sorts.getD k default).Age ∧ (g.Sorts.getD k default).Age ≤ 1000
theorem sh_hStep {g : Gnd} {y : Int} (H : Hours g y) (h : Hp) (spot : Nat) (hour : Int) (now : Mom) (s : Hst) (i : Nat) {a : Act} (ha : a ∈ g.Acts) : hStep (shG y g) h spot (hour + y) now s i (shA y a) = hStep g h spot hour now s i a := by
 have hy := H.y
 have hh := H.h a ha
 have hg := H.age a.Kind.toNat
 have e1 : w64 (a.Hour + (g.Sorts.getD a.Kind.toNat default).Age) = a.Hour + (g.Sorts.getD a.Kind.toNat default).Age := w64_id (by omega) (by omega)
 have e2 : w64 (a.Hour + y + (g.Sorts.getD a.Kind.toNat default).Age) = a.Hour + y + (g.Sorts.getD a.Kind.toNat default).Age := w64_id (by omega) (by omega)
 have c1 : ((shA y a).Take = true ∨ hour + y < (shA y a).Hour) = (a.Take = true ∨ hour < a.Hour) := by
  show (a.Take = true ∨ hour + y < a.Hour + y) = _
  apply propext
  constructor
  ·rintro (q | q)
   ·exact .inl q
   ·exact .inr (by omega)
  ·rintro (q | q)
   ·exact .inl q
   ·exact .inr (by omega)
 have c2 : (w64 ((shA y a).Hour + ((shG y g).Sorts.getD (shA y a).Kind.toNat default).Age) < hour + y) = (w64 (a.Hour + (g.Sorts.getD a.Kind.toNat default).Age) < hour) := by
  show (w64 (a.Hour + y + (g.Sorts.getD a.Kind.toNat default).Age) < hour + y) = _
  rw [e1, e2]
  apply propext
  omega
 have c3 : ((shA y a).Hour = hour + y ∧ 0 < s.before ∧ (h.before i).kind ≠ (shA y a).Kind) = (a.Hour = hour ∧ 0 < s.before ∧ (h.before i).kind ≠ a.Kind) := by
  show (a.Hour + y = hour + y ∧ 0 < s.before ∧ (h.before i).kind ≠ a.Kind) = _
  apply propext
  constructor
  ·rintro ⟨q, r⟩
   exact ⟨by omega, r⟩
  ·rintro ⟨q, r⟩
   exact ⟨by omega, r⟩
 unfold hStep
 dsimp only
 simp only [c1, c2, c3]
theorem sh_hRun {g : Gnd} {y : Int} (H : Hours g y) (h : Hp) (spot : Nat) (hour : Int) (now : Mom) : ∀ (l : List Act) (i : Nat) (s : Hst), (∀ a, a ∈ l → a ∈ g.Acts) → hRun (shG y g) h spot (hour + y) now i (l.map (shA y)) s = hRun g h spot hour now i l s
 | [], _, _, _ => rfl
 | a :: l, i, s, hl => by
  rw [List.map_cons, hRun, hRun, sh_hStep H h spot hour now s i (hl a (List.mem_cons_self ..))]
  exact sh_hRun H h spot hour now l (i + 1) _ fun b hb => hl b (List.mem_cons_of_mem _ hb)
theorem sh_now {g : Gnd} (y : Int) (h : Hp) (hour : Int) : nowOf (shG y g) h (hour + y) = nowOf g h hour := by
 unfold nowOf
 show h.before (untilL (hour + y) (g.Acts.map (shA y))) = _
 rw [sh_until]
theorem sh_heapRules {g : Gnd} {y : Int} (H : Hours g y) (h : Hp) (spot : Nat) (hour : Int) : heapRules (shG y g) h spot (hour + y) = heapRules g h spot hour := by
 unfold heapRules
 dsimp only
 rw [sh_now]
 show (hRun (shG y g) h spot (hour + y) _ 0 (g.Acts.map (shA y)) _).out = _
 rw [sh_hRun H h spot hour _ g.Acts 0 _ fun a ha => ha]
 rfl
theorem sh_pairOne {g : Gnd} (y : Int) (hs : List Hp) (hour : Int) (b a : Nat) : pairOne (shG y g) hs (hour + y) b a = pairOne g hs hour b a := by
 unfold pairOne
 dsimp only
 rw [sh_now, sh_now]
 rfl
theorem sh_pairRow {g : Gnd} (y : Int) (hs : List Hp) (hour : Int) (b : Nat) : ∀ a, pairRow (shG y g) hs (hour + y) b a = pairRow g hs hour b a
 | 0 => rfl
 | a + 1 => by rw [pairRow, pairRow, sh_pairRow y hs hour b a, sh_pairOne]
theorem sh_pairRules {g : Gnd} (y : Int) (hs : List Hp) (hour : Int) : ∀ n, pairRules (shG y g) hs (hour + y) n = pairRules g hs hour n
 | 0 => rfl
 | n + 1 => by rw [pairRules, pairRules, sh_pairRules y hs hour n, sh_pairRow]
theorem sh_heapsR {g : Gnd} {y : Int} (H : Hours g y) (hs : List Hp) (hour : Int) : ∀ n, heapsR (shG y g) hs (hour + y) n = heapsR g hs hour n
 | 0 => rfl
 | n + 1 => by rw [heapsR, heapsR, sh_heapsR H hs hour n, sh_heapRules H]
def trivR (g : Gnd) (hs : List Hp) : Nat → List Rul
 | 0 => []
 | n + 1 => trivR g hs n ++ [[⟨n, 0, 0, holdsP g n 0⟩]]
theorem early_hRun {g : Gnd} {y hour : Int} (H : Hours g y) (hh : hour < y) (h : Hp) (spot : Nat) (now : Mom) : ∀ (l : List Act) (i : Nat) (s : Hst), (∀ a, a ∈ l → a ∈ g.Acts) → hRun (shG y g) h spot hour now i (l.map (shA y)) s = s
 | [], _, _, _ => rfl
 | a :: l, i, s, hl => by
  have := H.h a (hl a (List.mem_cons_self ..))
  have e : hStep (shG y g) h spot hour now s i (shA y a) = s := if_pos (.inr (by show hour < a.Hour + y; omega))
  rw [List.map_cons, hRun, e, ite_self]
  exact early_hRun H hh h spot now l (i + 1) s fun b hb => hl b (List.mem_cons_of_mem _ hb)
def First (hs : List Hp) : Prop := ∀ j, j < hs.length → (hs.getD j default).before 0 = mom0
theorem early_now {g : Gnd} {y hour : Int} (H : Hours g y) (hh : hour < y) {hs : List Hp} (F : First hs) {j : Nat} (hj : j < hs.length) : nowOf (shG y g) (hs.getD j default) hour = mom0 := by
 unfold nowOf
 show (hs.getD j default).before (untilL hour (g.Acts.map (shA y))) = _
 rw [sh_until0 hh g.Acts fun a ha => (H.h a ha).1]
 exact F j hj
theorem early_heapsR {g : Gnd} {y hour : Int} (H : Hours g y) (hh : hour < y) {hs : List Hp} (F : First hs) : ∀ n, n ≤ hs.length → heapsR (shG y g) hs hour n = trivR g hs n
 | 0, _ => rfl
 | n + 1, hn => by
  rw [heapsR, trivR, early_heapsR H hh F n (by omega)]
  congr 1
  unfold heapRules
  dsimp only
  rw [early_now H hh F (by omega)]
  show (hRun (shG y g) _ n hour _ 0 (g.Acts.map (shA y)) _).out = _
  rw [early_hRun H hh _ n _ g.Acts 0 _ fun a ha => ha]
  rfl
theorem early_pairRow {g : Gnd} {y hour : Int} (H : Hours g y) (hh : hour < y) {hs : List Hp} (F : First hs) {b : Nat} : ∀ a, a ≤ b → b < hs.length → pairRow (shG y g) hs hour b a = []
 | 0, _, _ => rfl
 | a + 1, ha, hb => by
  rw [pairRow, early_pairRow H hh F a (by omega) hb, List.nil_append]
  unfold pairOne
  dsimp only
  rw [early_now H hh F (show a < hs.length by omega)]
  rfl
theorem early_pairRules {g : Gnd} {y hour : Int} (H : Hours g y) (hh : hour < y) {hs : List Hp} (F : First hs) : ∀ n, n ≤ hs.length → pairRules (shG y g) hs hour n = []
 | 0, _ => rfl
 | n + 1, hn => by rw [pairRules, early_pairRules H hh F n (by omega), early_pairRow H hh F n (Nat.le_refl _) (by omega)]; rfl
def Triv (all : List Sums) (l : List Rul) : Prop := ∀ r, r ∈ l → r.any (fun w => w.ok all) = true
theorem keptL_triv {all : List Sums} : ∀ {l m : List Rul}, Triv all l → keptL (l ++ m) all = keptL m all
 | [], m, _ => rfl
 | r :: l, m, h => by
  rw [List.cons_append, keptL, if_pos (h r (List.mem_cons_self ..))]
  exact keptL_triv fun r hr => h r (List.mem_cons_of_mem _ hr)
theorem triv_breaks {all : List Sums} {l : List Rul} (h : Triv all l) : l.any (breaksR all) = false := by
 rw [List.any_eq_false]
 intro r hr hb
 unfold breaksR at hb
 rw [List.all_eq_true] at hb
 obtain ⟨w, hw, hk⟩ := List.any_eq_true.1 (h r hr)
 have := hb w hw
 rw [hk] at this
 cases this
theorem trivR_triv {g : Gnd} {hs : List Hp} (h0 : ∀ j, j < hs.length → (hs.getD j default).s.mat 0 0 = 0) (hp : ∀ j, j < hs.length → 0 ≤ holdsP g j 0) : ∀ n, n ≤ hs.length → Triv (hs.map (·.s)) (trivR g hs n)
 | 0, _ => fun r hr => by cases hr
 | n + 1, hn => fun r hr => by
  rcases List.mem_append.1 hr with q | q
  ·exact trivR_triv h0 hp n (by omega) r q
  ·rw [List.mem_singleton.1 q]
   have e : (hs.map fun h : Hp => h.s).getD n default = (hs.getD n default).s := by simp [List.getD, show n < hs.length by omega]
   show (decide (((hs.map fun h : Hp => h.s).getD n default).mat 0 0 ≤ holdsP g n 0) || false) = true
   rw [e, h0 n (by omega), Bool.or_false]
   exact decide_eq_true (hp n (by omega))
theorem bGo_hi (g : Gnd) (hs : List Hp) : ∀ (n hour : Nat) (s : Bst), (0 ≤ s.perhaps ∧ s.perhaps ≤ hour → (bGo g hs n hour s).1 = s.perhaps) ∧ (s.perhaps < 0 → (bGo g hs n hour s).1 < 0 ∨ (hour : Int) ≤ (bGo g hs n hour s).1) ∧ ((bGo g hs n hour s).2 = -1 ∨ (hour : Int) ≤ (bGo g hs n hour s).2)
 | 0, hour, s => ⟨fun _ => rfl, fun h => .inl h, .inl rfl⟩
 | n + 1, hour, s => by
  obtain ⟨i1, i2, i3⟩ := bGo_hi g hs n (hour + 1) (bStep g hs s hour).1
  have hp : (bStep g hs s hour).1.perhaps = s.perhaps ∨ (bStep g hs s hour).1.perhaps = earlierI s.perhaps hour := by
   unfold bStep
   dsimp only
   split
   ·exact .inr rfl
   ·exact .inl rfl
  have hp2 : (0 ≤ s.perhaps ∧ s.perhaps ≤ hour → (bStep g hs s hour).1.perhaps = s.perhaps) ∧ (s.perhaps < 0 → (bStep g hs s hour).1.perhaps < 0 ∨ (bStep g hs s hour).1.perhaps = hour) := by
   unfold earlierI at hp
   constructor
   ·intro q
    rcases hp with e | e
    ·exact e
    ·rw [e]
     split
     ·omega
     ·rfl
   ·intro q
    rcases hp with e | e
    ·left; rw [e]; exact q
    ·right; rw [e, if_pos (.inl q)]
  rw [bGo]
  by_cases c : (bStep g hs s hour).2 = true
  ·rw [if_pos c]
   refine ⟨hp2.1, fun q => ?_, .inr (Int.le_refl _)⟩
   rcases hp2.2 q with e | e
   ·exact .inl e
   ·right; show (hour : Int) ≤ (bStep g hs s hour).1.perhaps; omega
  ·rw [if_neg c]
   refine ⟨fun q => ?_, fun q => ?_, ?_⟩
   ·have e := hp2.1 q
    rw [i1 (by rw [e]; omega), e]
   ·rcases hp2.2 q with e | e
    ·rcases i2 e with r | r
     ·exact .inl r
     ·right; omega
    ·rw [i1 (by omega)]
     right; omega
   ·rcases i3 with r | r
    ·exact .inl r
    ·right; omega
def shI (y x : Int) : Int := if 0 ≤ x then (if x + y ≤ 72 then x + y else -1) else -1
theorem sh_bGo {g : Gnd} {y : Nat} (H : Hours g y) {hs : List Hp} (T : List Rul) (hT : Triv (hs.map (·.s)) T) : ∀ (m hour : Nat) (s : Bst) (k : Nat), hour + y + m = 73 → (-1 ≤ s.perhaps ∧ s.perhaps < hour) →
  bGo (shG y g) hs m (hour + y) ⟨if 0 ≤ s.perhaps then s.perhaps + y else -1, T ++ s.singles, s.doubles⟩ = (shI y (bGo g hs (m + k) hour s).1, shI y (bGo g hs (m + k) hour s).2)
 | 0, hour, s, k, h, hp => by
  obtain ⟨i1, i2, i3⟩ := bGo_hi g hs k hour s
  rw [Nat.zero_add, bGo]
  dsimp only
  congr 1
  ·by_cases c : 0 ≤ s.perhaps
   ·rw [if_pos c, i1 ⟨c, by omega⟩]
    unfold shI
    rw [if_pos c, if_pos (by omega)]
   ·rw [if_neg c]
    unfold shI
    rcases i2 (by omega) with r | r
    ·rw [if_neg (by omega)]
    ·rw [if_pos (by omega), if_neg (by omega)]
  ·unfold shI
   rcases i3 with r | r
   ·rw [r]; rfl
   ·rw [if_pos (by omega), if_neg (by omega)]
 | m + 1, hour, s, k, h, hp => by
  have e1 : heapsR (shG y g) hs ((hour + y : Nat) : Int) (shG y g).Spots.length = heapsR g hs hour g.Spots.length := by
   rw [Int.natCast_add]; exact sh_heapsR H hs hour _
  have e2 : pairRules (shG y g) hs ((hour + y : Nat) : Int) (shG y g).Spots.length = pairRules g hs hour g.Spots.length := by
   rw [Int.natCast_add]; exact sh_pairRules y hs hour _
  obtain ⟨s', hs'⟩ : ∃ s', s' = (bStep g hs s hour).1 := ⟨_, rfl⟩
  have hpp : s'.perhaps = (if (heapsR g hs hour g.Spots.length ++ pairRules g hs hour g.Spots.length).any (breaksR (hs.map (·.s))) = true then earlierI s.perhaps hour else s.perhaps) := by rw [hs']; rfl
  have hsi : s'.singles = s.singles ++ heapsR g hs hour g.Spots.length := by rw [hs']; rfl
  have hdo : s'.doubles = s.doubles ++ pairRules g hs hour g.Spots.length := by rw [hs']; rfl
  have hb2 : (bStep g hs s hour).2 = (decide (0 ≤ s'.perhaps) && !keptL (s'.singles ++ s'.doubles) (hs.map (·.s))) := by rw [hs']; rfl
  have hq : -1 ≤ s'.perhaps ∧ s'.perhaps < (hour + 1 : Nat) := by
   rw [hpp]
   unfold earlierI
   split
   ·split <;> omega
   ·omega
  have key : bStep (shG y g) hs ⟨if 0 ≤ s.perhaps then s.perhaps + y else -1, T ++ s.singles, s.doubles⟩ (hour + y) = (⟨if 0 ≤ s'.perhaps then s'.perhaps + y else -1, T ++ s'.singles, s'.doubles⟩, (bStep g hs s hour).2) := by
   have hP : (if (heapsR g hs hour g.Spots.length ++ pairRules g hs hour g.Spots.length).any (breaksR (hs.map (·.s))) = true then earlierI (if 0 ≤ s.perhaps then s.perhaps + (y : Int) else -1) ((hour + y : Nat) : Int) else (if 0 ≤ s.perhaps then s.perhaps + (y : Int) else -1)) = if 0 ≤ s'.perhaps then s'.perhaps + (y : Int) else -1 := by
    rw [hpp]
    unfold earlierI
    by_cases c : (heapsR g hs hour g.Spots.length ++ pairRules g hs hour g.Spots.length).any (breaksR (hs.map (·.s))) = true
    ·rw [if_pos c, if_pos c]
     by_cases d : 0 ≤ s.perhaps
     ·rw [if_pos d, if_neg (show ¬ (s.perhaps + (y : Int) < 0 ∨ ((hour + y : Nat) : Int) < s.perhaps + y) by omega), if_neg (show ¬ (s.perhaps < 0 ∨ (hour : Int) < s.perhaps) by omega), if_pos d]
     ·rw [if_neg d, if_pos (show ((-1 : Int) < 0 ∨ ((hour + y : Nat) : Int) < -1) from .inl (by omega)), if_pos (show (s.perhaps < 0 ∨ (hour : Int) < s.perhaps) from .inl (by omega)), if_pos (by omega)]
      omega
    ·rw [if_neg c, if_neg c]
   obtain ⟨B, hB⟩ : ∃ B, B = (bStep g hs s hour).2 := ⟨_, rfl⟩
   rw [← hB] at hb2 ⊢
   unfold bStep
   dsimp only
   rw [e1, e2, hP]
   have hk : keptL (T ++ s.singles ++ heapsR g hs hour g.Spots.length ++ (s.doubles ++ pairRules g hs hour g.Spots.length)) (hs.map (·.s)) = keptL (s'.singles ++ s'.doubles) (hs.map (·.s)) := by
    rw [hsi, hdo, List.append_assoc T, List.append_assoc T, keptL_triv hT]
   have hd : decide (0 ≤ (if 0 ≤ s'.perhaps then s'.perhaps + (y : Int) else -1)) = decide (0 ≤ s'.perhaps) := by
    by_cases d : 0 ≤ s'.perhaps
    ·rw [if_pos d, decide_eq_true d, decide_eq_true (by omega)]
    ·rw [if_neg d, decide_eq_false d]; rfl
   rw [hk, hd, List.append_assoc T, ← hsi, ← hdo, hb2]
  have e3 : m + 1 + k = (m + k) + 1 := by omega
  rw [e3, bGo, bGo, key]
  dsimp only
  by_cases c : (bStep g hs s hour).2 = true
  ·rw [if_pos c, if_pos c, ← hs']
   have hpos : 0 ≤ s'.perhaps := by
    rw [hb2, Bool.and_eq_true] at c
    exact of_decide_eq_true c.1
   unfold shI
   dsimp only
   rw [if_pos hpos, if_pos (show s'.perhaps + (y : Int) ≤ 72 by omega), if_pos (show (0 : Int) ≤ (hour : Int) by omega), if_pos (show (hour : Int) + (y : Int) ≤ 72 by omega), if_pos hpos]
   rfl
  ·rw [if_neg c, if_neg c, ← hs', show hour + y + 1 = hour + 1 + y by omega]
   exact sh_bGo H T hT m (hour + 1) s' k (by omega) hq
theorem early_bGo {g : Gnd} {y : Nat} (H : Hours g y) {hs : List Hp} (F : First hs) (hl : g.Spots.length ≤ hs.length) (h0 : ∀ j, j < hs.length → (hs.getD j default).s.mat 0 0 = 0) (hp : ∀ j, j < hs.length → 0 ≤ holdsP g j 0) :
  ∀ k, k ≤ y → k ≤ 73 → ∃ T, Triv (hs.map fun h : Hp => h.s) T ∧ bGo (shG y g) hs 73 0 ⟨-1, [], []⟩ = bGo (shG y g) hs (73 - k) k ⟨-1, T, []⟩
 | 0, _, _ => ⟨[], (fun r hr => by cases hr), rfl⟩
 | k + 1, hk, hk2 => by
  obtain ⟨T, hT, e⟩ := early_bGo H F hl h0 hp k (by omega) (by omega)
  have e1 : heapsR (shG y g) hs (k : Int) (shG y g).Spots.length = trivR g hs g.Spots.length := early_heapsR H (by omega) F _ hl
  have e2 : pairRules (shG y g) hs (k : Int) (shG y g).Spots.length = [] := early_pairRules H (by omega) F _ hl
  have tt := trivR_triv h0 hp g.Spots.length hl
  refine ⟨T ++ trivR g hs g.Spots.length, fun r hr => ?_, ?_⟩
  ·rcases List.mem_append.1 hr with q | q
   ·exact hT r q
   ·exact tt r q
  ·have tb := triv_breaks tt
   rw [e, show 73 - k = (73 - (k + 1)) + 1 by omega, bGo]
   have key : bStep (shG y g) hs ⟨-1, T, []⟩ k = (⟨-1, T ++ trivR g hs g.Spots.length, []⟩, false) := by
    unfold bStep
    dsimp only
    rw [e1, e2, List.append_nil, List.append_nil, tb]
    rfl
   rw [key]
   rfl
theorem bGo_ge (g : Gnd) (hs : List Hp) : ∀ (n hour : Nat) (s : Bst), -1 ≤ s.perhaps → -1 ≤ (bGo g hs n hour s).1 ∧ -1 ≤ (bGo g hs n hour s).2
 | 0, hour, s, h => ⟨h, Int.le_refl _⟩
 | n + 1, hour, s, h => by
  have hp : -1 ≤ (bStep g hs s hour).1.perhaps := by
   unfold bStep earlierI
   dsimp only
   split
   ·split <;> omega
   ·exact h
  rw [bGo]
  split
  ·exact ⟨hp, by show (-1 : Int) ≤ (hour : Int); omega⟩
  ·exact bGo_ge g hs n (hour + 1) _ hp
theorem bGo_le (g : Gnd) (hs : List Hp) : ∀ (n hour : Nat) (s : Bst), s.perhaps ≤ 72 → hour + n ≤ 73 → (bGo g hs n hour s).1 ≤ 72 ∧ (bGo g hs n hour s).2 ≤ 72
 | 0, hour, s, h, _ => ⟨h, by show (-1 : Int) ≤ 72; omega⟩
 | n + 1, hour, s, h, hn => by
  have hp : (bStep g hs s hour).1.perhaps ≤ 72 := by
   unfold bStep earlierI
   dsimp only
   split
   ·split <;> omega
   ·exact h
  rw [bGo]
  split
  ·exact ⟨hp, by show (hour : Int) ≤ 72; omega⟩
  ·exact bGo_le g hs n (hour + 1) _ hp (by omega)
theorem sh_check {g g' : Gnd} {y : Int} (hs : g.Spots.length ≤ 4) (hq : g.Sorts.length ≤ 4) (e1 : g'.Spots.length = g.Spots.length) (e2 : g'.Sorts.length = g.Sorts.length) (hy : 0 ≤ y) : ∀ (l : List Act) (h h' : Int), h' ≤ h + y → (∀ a, a ∈ l → a.Hour + y ≤ 72) → checkActs g h l = 0 → checkActs g' h' (l.map (shA y)) = 0
 | [], _, _, _, _, _ => rfl
 | a :: l, h, h', hh, ha, k => by
  rw [checkActs] at k
  rw [List.map_cons, checkActs]
  by_cases c : checkAct g h a ≠ 0
  ·rw [if_pos c] at k; exact absurd k c
  ·rw [if_neg c] at k
   have A := checkAct_mk (Decidable.not_not.1 c) hs hq
   have h1 := ha a (List.mem_cons_self ..)
   have e : checkAct g' h' (shA y a) = 0 := checkAct_ok (by omega) (by omega) (by
    rw [e1, e2]
    exact ⟨⟨by show 0 ≤ a.Hour + y; have := A.h; omega, h1, by show h' ≤ a.Hour + y; have := A.h; omega⟩, A.s, A.k, A.t, A.m⟩)
   rw [if_neg (by rw [e]; simp)]
   exact sh_check hs hq e1 e2 hy l a.Hour (a.Hour + y) (Int.le_refl _) (fun b hb => ha b (List.mem_cons_of_mem _ hb)) k
theorem sh_ck {g : Gnd} {y : Int} (ok : Ok g) (hy : 0 ≤ y) (ha : ∀ a, a ∈ g.Acts → a.Hour + y ≤ 72) : check (shG y g) = 0 := by
 have m1 : many (g.Spots.length : Nat) 4 = 0 := by unfold many; rw [if_neg (by have := ok.spots; omega), if_neg (by have := ok.spots; omega)]
 have m2 : many (g.Sorts.length : Nat) 4 = 0 := by unfold many; rw [if_neg (by have := ok.sorts; omega), if_neg (by have := ok.sorts; omega)]
 unfold check
 show (if many (g.Spots.length : Nat) 4 ≠ 0 then _ else if g.Spots.all okSpo then check2 (shG y g) else 1) = 0
 rw [if_neg (by rw [m1]; simp), if_pos (List.all_eq_true.2 ok.spot)]
 unfold check2
 show (if many (g.Sorts.length : Nat) 4 ≠ 0 then _ else if g.Sorts.all okSrt then check3 (shG y g) else 1) = 0
 rw [if_neg (by rw [m2]; simp), if_pos (List.all_eq_true.2 ok.sort)]
 unfold check3
 rw [if_neg (by show ¬ 10 < (g.Acts.map (shA y)).length; rw [List.length_map]; have := ok.acts; omega)]
 exact sh_check (g' := shG y g) ok.spots.2 ok.sorts.2 rfl rfl hy g.Acts 0 0 (by omega) ha ok.act
theorem pile_zero (g : Gnd) (spot : Int) : (pile g spot).1.before 0 = mom0 := by
 have := pile_before g spot (u := 0) (Nat.zero_le _)
 exact this
theorem breaks_later {g : Gnd} {truth : List Int} (h : True5 g truth) {y : Nat} (hy : y ≤ 40) (ha : ∀ a, a ∈ g.Acts → 0 ≤ a.Hour ∧ a.Hour + y ≤ 72) :
  (breaks g).2.2 = 0 ∧ (breaks (shG y g)).2.2 = 0 ∧ (breaks (shG y g)).1 = shI y (breaks g).1 ∧ (breaks (shG y g)).2.1 = shI y (breaks g).2.1 ∧ -1 ≤ (breaks g).1 ∧ -1 ≤ (breaks g).2.1 ∧ (breaks g).1 ≤ 72 ∧ (breaks g).2.1 ≤ 72 := by
 have ok := h.ok
 obtain ⟨k1, k2⟩ := h.known
 have hlen : (known g).1.length = g.Spots.length := by rw [k2]; simp
 have hat : ∀ j, j < (known g).1.length → (known g).1.getD j default = (pile g (j : Nat)).1 := fun j hj => known_at hj
 have F : First (known g).1 := fun j hj => by rw [hat j hj]; exact pile_zero g j
 have h0 : ∀ j, j < (known g).1.length → ((known g).1.getD j default).s.mat 0 0 = 0 := fun j hj => by
  rw [hat j hj]
  obtain ⟨n, x, X⟩ := h.spot (j := j) (by omega)
  exact X.tab.diag 0 (by omega)
 have hp : ∀ j, j < (known g).1.length → 0 ≤ holdsP g j 0 := fun j hj => by
  have hs := ok.sorts
  obtain ⟨c, _, c0, c1, c2, _⟩ := holds_val ok (a := j) (kind := 0) (by omega) ⟨Int.le_refl _, by omega⟩
  have c2 : holdsP g j 0 = c / 100 := c2
  omega
 have H : Hours g y := ⟨⟨by omega, by omega⟩, fun a q => by have := ha a q; omega, fun k => by
  by_cases q : k < g.Sorts.length
  ·have := okSrt_elim (ok.sort _ (getD_mem q))
   omega
  ·have : g.Sorts.getD k default = default := by simp [List.getD, q]
   rw [this]
   exact ⟨Int.le_refl _, by show (0 : Int) ≤ 1000; omega⟩⟩
 have ck' : check (shG y g) = 0 := sh_ck ok (by omega) fun a q => (ha a q).2
 have e1 : breaks g = ((bGo g (known g).1 73 0 ⟨-1, [], []⟩).1, (bGo g (known g).1 73 0 ⟨-1, [], []⟩).2, 0) := by
  unfold breaks
  rw [if_neg (by rw [h.ck]; simp), if_neg (by rw [k1]; simp)]
 have e2 : breaks (shG y g) = ((bGo (shG y g) (known g).1 73 0 ⟨-1, [], []⟩).1, (bGo (shG y g) (known g).1 73 0 ⟨-1, [], []⟩).2, 0) := by
  unfold breaks
  rw [sh_known, if_neg (by rw [ck']; simp), if_neg (by rw [k1]; simp)]
 obtain ⟨T, hT, e3⟩ := early_bGo H F (by omega) h0 hp y (Nat.le_refl _) (by omega)
 have e4 := sh_bGo (g := g) (y := y) H T hT (73 - y) 0 ⟨-1, [], []⟩ y (by omega) ⟨Int.le_refl _, by show (-1 : Int) < ((0 : Nat) : Int); omega⟩
 have e5 : bGo (shG y g) (known g).1 73 0 ⟨-1, [], []⟩ = (shI y (bGo g (known g).1 73 0 ⟨-1, [], []⟩).1, shI y (bGo g (known g).1 73 0 ⟨-1, [], []⟩).2) := by
  rw [e3]
  rw [Nat.zero_add, show 73 - y + y = 73 by omega] at e4
  rw [← e4]
  congr 1
  show (⟨-1, T, []⟩ : Bst) = ⟨-1, T ++ [], []⟩
  rw [List.append_nil]
 have ge := bGo_ge g (known g).1 73 0 ⟨-1, [], []⟩ (Int.le_refl _)
 have le := bGo_le g (known g).1 73 0 ⟨-1, [], []⟩ (by show (-1 : Int) ≤ 72; omega) (by omega)
 rw [e1, e2, e5]
 exact ⟨rfl, rfl, rfl, rfl, ge.1, ge.2, le.1, le.2⟩
def MomE (m n : Mom) : Prop := m.tips = n.tips ∧ m.takes = n.takes ∧ m.kind = n.kind
theorem MomE.refl (m : Mom) : MomE m m := ⟨rfl, rfl, rfl⟩
structure PstE (p q : Pst) : Prop where
 s : p.s = q.s
 ok : p.ok = q.ok
 next : p.next = q.next
 m : MomE p.m q.m
theorem PstE.refl (p : Pst) : PstE p p := ⟨rfl, rfl, rfl, .refl _⟩
theorem PstE.step {p q : Pst} (h : PstE p q) (i j : Nat) (a : Act) : PstE (p.step i a) (q.step j a) := by
 obtain ⟨h1, h2, h3, h4, h5, h6⟩ := h
 have e1 : p.tk a = q.tk a := by unfold Pst.tk; rw [h1, h2, h3, h4, h5]
 have e2 : p.tp a = q.tp a := by unfold Pst.tp; rw [h1, h2, h3, h4]
 unfold Pst.step
 split
 ·exact ⟨by dsimp only; rw [e1], by dsimp only; rw [e1], by dsimp only; rw [h3], by dsimp only; exact h4, by dsimp only; rw [h3], by dsimp only; exact h6⟩
 ·exact ⟨by dsimp only; rw [e2], by dsimp only; rw [e2], by dsimp only; rw [h3], by dsimp only; rw [h3], by dsimp only; exact h5, rfl⟩
theorem PstE.run (spot : Int) : ∀ (l : List Act) (i j : Nat) {p q : Pst}, PstE p q → PstE (Pst.run spot i l p) (Pst.run spot j l q)
 | [], i, j, p, q, h => h
 | a :: l, i, j, p, q, h => by
  rw [Pst.run, Pst.run]
  split
  ·exact PstE.run spot l _ _ (h.step i j a)
  ·exact PstE.run spot l _ _ h
theorem run_app (spot : Int) : ∀ (l r : List Act) (i : Nat) (p : Pst), Pst.run spot i (l ++ r) p = Pst.run spot (i + l.length) r (Pst.run spot i l p)
 | [], r, i, p => rfl
 | a :: l, r, i, p => by
  rw [List.cons_append, Pst.run, Pst.run, run_app spot l r, List.length_cons, show i + 1 + l.length = i + (l.length + 1) by omega]
structure Swp (A B : List Act) (P : List Act) (a b : Act) (R : List Act) : Prop where
 A : A = P ++ a :: b :: R
 B : B = P ++ b :: a :: R
 hour : a.Hour = b.Hour
 spot : a.Spot ≠ b.Spot
theorem Swp.len {A B P : List Act} {a b : Act} {R : List Act} (h : Swp A B P a b R) : A.length = P.length + 2 + R.length ∧ B.length = P.length + 2 + R.length := by
 rw [h.A, h.B]
 simp only [List.length_append, List.length_cons]
 omega
theorem Swp.two (spot : Int) {A B P : List Act} {a b : Act} {R : List Act} (h : Swp A B P a b R) (p : Pst) (i : Nat) : PstE (Pst.run spot i [a, b] p) (Pst.run spot i [b, a] p) := by
 have hs := h.spot
 simp only [Pst.run]
 by_cases e1 : a.Spot = spot
 ·have e2 : ¬ b.Spot = spot := fun e => hs (e1.trans e.symm)
  rw [if_pos e1, if_neg e2, if_neg e2, if_pos e1]
  exact (PstE.refl p).step _ _ a
 ·rw [if_neg e1, if_neg e1]
  split
  ·exact (PstE.refl p).step _ _ b
  ·exact .refl p
theorem Swp.pst (spot : Int) {A B P : List Act} {a b : Act} {R : List Act} (h : Swp A B P a b R) {u : Nat} (hu : u ≤ A.length) (hm : u ≠ P.length + 1) : PstE (prU spot A u) (prU spot B u) := by
 unfold prU
 rw [h.A, h.B]
 by_cases c : u ≤ P.length
 ·rw [List.take_append_of_le_length c, List.take_append_of_le_length c]
  exact .refl _
 ·obtain ⟨k, hk⟩ : ∃ k, u = P.length + (k + 2) := ⟨u - P.length - 2, by omega⟩
  rw [hk, List.take_length_add_append, List.take_length_add_append]
  show PstE (Pst.run spot 0 (P ++ a :: b :: R.take k) pst0) (Pst.run spot 0 (P ++ b :: a :: R.take k) pst0)
  rw [show P ++ a :: b :: R.take k = (P ++ [a, b]) ++ R.take k by simp, show P ++ b :: a :: R.take k = (P ++ [b, a]) ++ R.take k by simp, run_app, run_app spot (P ++ [b, a]), run_app spot P, run_app spot P]
  exact PstE.run spot _ _ _ (h.two spot _ _)
theorem Swp.mid (spot : Int) {A B P : List Act} {a b : Act} {R : List Act} (h : Swp A B P a b R) : prU spot A (P.length + 1) = Pst.run spot P.length [a] (Pst.run spot 0 P pst0) ∧ prU spot B (P.length + 1) = Pst.run spot P.length [b] (Pst.run spot 0 P pst0) := by
 unfold prU
 rw [h.A, h.B]
 constructor
 ·rw [List.take_length_add_append]
  show Pst.run spot 0 (P ++ [a]) pst0 = _
  rw [run_app, Nat.zero_add]
 ·rw [List.take_length_add_append]
  show Pst.run spot 0 (P ++ [b]) pst0 = _
  rw [run_app, Nat.zero_add]
theorem until_app (hour : Int) : ∀ (P R : List Act), untilL hour (P ++ R) = if untilL hour P = P.length then P.length + untilL hour R else untilL hour P
 | [], R => by simp [untilL]
 | a :: P, R => by
  rw [List.cons_append, untilL, untilL, until_app hour P R, List.length_cons]
  have := until_len hour P
  by_cases c : a.Hour ≤ hour
  ·rw [if_pos c, if_pos c]
   by_cases d : untilL hour P = P.length
   ·rw [if_pos d, if_pos (by omega)]
    omega
   ·rw [if_neg d, if_neg (by omega)]
  ·rw [if_neg c, if_neg c, if_neg (by omega)]
theorem Swp.until {A B P : List Act} {a b : Act} {R : List Act} (h : Swp A B P a b R) (hour : Int) : untilL hour A = untilL hour B ∧ untilL hour A ≠ P.length + 1 ∧ untilL hour A ≤ A.length := by
 have l := until_len hour A
 refine ⟨?_, ?_, l⟩
 ·rw [h.A, h.B, until_app, until_app]
  simp only [untilL, h.hour]
 ·rw [h.A, until_app]
  have := until_len hour P
  simp only [untilL, h.hour]
  split <;> (try split) <;> omega
structure SwG (g k : Gnd) (P : List Act) (a b : Act) (R : List Act) : Prop where
 sp : k.Spots = g.Spots
 so : k.Sorts = g.Sorts
 w : Swp g.Acts k.Acts P a b R
section
variable {g k : Gnd} {P : List Act} {a b : Act} {R : List Act}
theorem SwG.bef (h : SwG g k P a b R) (spot : Int) {u : Nat} (hu : u ≤ g.Acts.length) (hm : u ≠ P.length + 1) : MomE ((pile g spot).1.before u) ((pile k spot).1.before u) := by
 have l := h.w.len
 rw [pile_before g spot hu, pile_before k spot (by omega)]
 exact (h.w.pst spot hu hm).m
theorem SwG.now (h : SwG g k P a b R) (spot : Int) (hour : Int) : MomE (nowOf g (pile g spot).1 hour) (nowOf k (pile k spot).1 hour) := by
 obtain ⟨e1, e2, e3⟩ := h.w.until hour
 unfold nowOf
 rw [← e1]
 exact h.bef spot e3 e2
theorem SwG.holds (h : SwG g k P a b R) (spot kind : Nat) : holdsP k spot kind = holdsP g spot kind := by unfold holdsP; rw [h.sp, h.so]
theorem hStep_eq (hso : k.Sorts = g.Sorts) {h h' : Hp} {now now' : Mom} (hn : MomE now now') {i j : Nat} (h1 : MomE (h.before i) (h'.before j)) (h2 : MomE (h.before (i + 1 : Nat)) (h'.before (j + 1 : Nat))) (spot : Nat) (hour : Int) (s : Hst) (c : Act) :
  hStep g h spot hour now s i c = hStep k h' spot hour now' s j c := by
 obtain ⟨a1, a2, a3⟩ := h1
 obtain ⟨b1, b2, b3⟩ := h2
 obtain ⟨n1, n2, n3⟩ := hn
 unfold hStep
 split
 ·rfl
 ·dsimp only
  unfold emptyW
  rw [hso, a1, a2, a3, b1, n2]
theorem hRun_app (g : Gnd) (h : Hp) (spot : Nat) (hour : Int) (now : Mom) : ∀ (l r : List Act) (i : Nat) (s : Hst), hRun g h spot hour now i (l ++ r) s = hRun g h spot hour now (i + l.length) r (hRun g h spot hour now i l s)
 | [], r, i, s => rfl
 | c :: l, r, i, s => by
  rw [List.cons_append, hRun, hRun, hRun_app g h spot hour now l r, List.length_cons, show i + 1 + l.length = i + (l.length + 1) by omega]
theorem hRun_eq (hso : k.Sorts = g.Sorts) {h h' : Hp} {now now' : Mom} (hn : MomE now now') (spot : Nat) (hour : Int) : ∀ (l : List Act) (i : Nat) (s : Hst), (∀ u, i ≤ u → u ≤ i + l.length → MomE (h.before u) (h'.before u)) →
  hRun g h spot hour now i l s = hRun k h' spot hour now' i l s
 | [], i, s, _ => rfl
 | c :: l, i, s, hb => by
  rw [hRun, hRun, hStep_eq hso hn (hb i (Nat.le_refl _) (by omega)) (hb (i + 1) (by omega) (by rw [List.length_cons]; omega))]
  exact hRun_eq hso hn spot hour l (i + 1) _ fun u h1 h2 => hb u (by omega) (by rw [List.length_cons]; omega)
theorem SwG.mid (h : SwG g k P a b R) (spot : Nat) (hour : Int) {now now' : Mom} (hn : MomE now now') (s : Hst) :
  hRun g (pile g spot).1 spot hour now P.length [a, b] s = hRun k (pile k spot).1 spot hour now' P.length [b, a] s := by
 have l := h.w.len
 obtain ⟨m1, m2⟩ := h.w.mid spot
 have p0 := h.bef spot (u := P.length) (by omega) (by omega)
 have p2 := h.bef spot (u := P.length + 2) (by omega) (by omega)
 have q1 : (pile g spot).1.before (P.length + 1 : Nat) = (prU spot g.Acts (P.length + 1)).m := pile_before g spot (by omega)
 have q2 : (pile k spot).1.before (P.length + 1 : Nat) = (prU spot k.Acts (P.length + 1)).m := pile_before k spot (by omega)
 have r0 : (pile g spot).1.before (P.length : Nat) = (prU spot g.Acts P.length).m := pile_before g spot (by omega)
 have r1 : (pile k spot).1.before (P.length : Nat) = (prU spot k.Acts P.length).m := pile_before k spot (by omega)
 have z0 : prU spot g.Acts P.length = Pst.run spot 0 P pst0 := by unfold prU; rw [h.w.A, List.take_left']; rfl
 have z1 : prU spot k.Acts P.length = Pst.run spot 0 P pst0 := by unfold prU; rw [h.w.B, List.take_left']; rfl
 have hs := h.w.spot
 simp only [hRun]
 by_cases e1 : a.Spot = spot
 ·have e2 : ¬ b.Spot = spot := fun e => hs (e1.trans e.symm)
  rw [if_pos e1, if_neg e2, if_neg e2, if_pos e1]
  have m2' : prU spot k.Acts (P.length + 1) = Pst.run spot 0 P pst0 := by rw [m2, Pst.run, if_neg e2]; rfl
  have x1 : MomE ((pile g spot).1.before (P.length : Nat)) ((pile k spot).1.before (P.length + 1 : Nat)) := by rw [r0, q2, z0, m2']; exact .refl _
  have x2 : MomE ((pile g spot).1.before (P.length + 1 : Nat)) ((pile k spot).1.before (P.length + 1 + 1 : Nat)) := by
   have y1 : prU spot g.Acts (P.length + 2) = prU spot g.Acts (P.length + 1) := by
    rw [prU_succ spot (u := P.length + 1) (by omega), if_neg]
    rw [h.w.A, List.getD_eq_getElem?_getD, List.getElem?_append_right (by omega), show P.length + 1 - P.length = 1 by omega]
    exact e2
   have y2 := pile_before g spot (u := P.length + 2) (by omega)
   rw [q1, ← y1, ← y2]
   exact p2
  exact hStep_eq h.so hn x1 x2 spot hour s a
 ·rw [if_neg e1, if_neg e1]
  by_cases e2 : b.Spot = spot
  ·rw [if_pos e2, if_pos e2]
   have m1' : prU spot g.Acts (P.length + 1) = Pst.run spot 0 P pst0 := by rw [m1, Pst.run, if_neg e1]; rfl
   have x1 : MomE ((pile g spot).1.before (P.length + 1 : Nat)) ((pile k spot).1.before (P.length : Nat)) := by rw [r1, q1, z1, m1']; exact .refl _
   have x2 : MomE ((pile g spot).1.before (P.length + 1 + 1 : Nat)) ((pile k spot).1.before (P.length + 1 : Nat)) := by
    have y1 : prU spot k.Acts (P.length + 2) = prU spot k.Acts (P.length + 1) := by
     rw [prU_succ spot (u := P.length + 1) (by omega), if_neg]
     rw [h.w.B, List.getD_eq_getElem?_getD, List.getElem?_append_right (by omega), show P.length + 1 - P.length = 1 by omega]
     exact e1
    have y2 := pile_before k spot (u := P.length + 2) (by omega)
    rw [q2, ← y1, ← y2]
    exact p2
   exact hStep_eq h.so hn x1 x2 spot hour s b
  ·rw [if_neg e2, if_neg e2]
theorem SwG.heapRules (h : SwG g k P a b R) (spot : Nat) (hour : Int) : Swa.heapRules g (pile g spot).1 spot hour = Swa.heapRules k (pile k spot).1 spot hour := by
 have l := h.w.len
 have hn := h.now spot hour
 unfold Swa.heapRules
 dsimp only
 rw [h.holds, ← hn.1, ← hn.2.1, ← hn.2.2]
 congr 1
 obtain ⟨s, hs⟩ : ∃ s : Hst, s = ⟨[[⟨spot, (nowOf g (pile g spot).1 hour).takes, (nowOf g (pile g spot).1 hour).tips, holdsP g spot (nowOf g (pile g spot).1 hour).kind.toNat⟩]], 0, 0⟩ := ⟨_, rfl⟩
 rw [← hs]
 obtain ⟨x, hx⟩ : ∃ x, x = nowOf g (pile g spot).1 hour := ⟨_, rfl⟩
 obtain ⟨y, hy⟩ : ∃ y, y = nowOf k (pile k spot).1 hour := ⟨_, rfl⟩
 rw [← hx, ← hy] at hn
 rw [← hx, ← hy]
 have eA : g.Acts = P ++ ([a, b] ++ R) := h.w.A
 have eB : k.Acts = P ++ ([b, a] ++ R) := h.w.B
 rw [eA, eB, hRun_app, hRun_app k, hRun_app g _ _ _ _ [a, b], hRun_app k _ _ _ _ [b, a], Nat.zero_add]
 rw [hRun_eq h.so hn spot hour P 0 s fun u _ hu => h.bef spot (by omega) (by omega), h.mid spot hour hn]
 exact hRun_eq h.so hn spot hour R _ _ fun u h1 h2 => h.bef spot (by simp only [List.length_cons, List.length_nil] at h1 h2; omega) (by simp only [List.length_cons, List.length_nil] at h1 h2; omega)
end
theorem knownGo_len2 {g : Gnd} : ∀ (n i : Nat) (acc : List Hp), (knownGo g i n acc).2 = 0 → (knownGo g i n acc).1.length = acc.length + n
 | 0, i, acc, _ => rfl
 | n + 1, i, acc, h => by
  rw [knownGo] at h ⊢
  split at h
  ·rename_i hp
   rw [if_pos hp]
   rw [knownGo_len2 n (i + 1) _ h, List.length_append, List.length_singleton]
   omega
  ·exact absurd h (by simp)
section
variable {g k : Gnd} {P : List Act} {a b : Act} {R : List Act}
theorem SwG.pileE (h : SwG g k P a b R) (spot : Int) : (pile k spot).1.s = (pile g spot).1.s ∧ (pile k spot).2 = (pile g spot).2 := by
 have l := h.w.len
 have e := h.w.pst spot (u := g.Acts.length) (Nat.le_refl _) (by omega)
 rw [prU_all] at e
 have e2 : prU spot k.Acts g.Acts.length = Pst.run spot 0 k.Acts pst0 := by rw [← prU_all]; congr 1; omega
 rw [e2] at e
 exact ⟨e.s.symm, e.ok.symm⟩
theorem SwG.knownE (h : SwG g k P a b R) : ∀ (n i : Nat) (acc acc' : List Hp), acc.map (·.s) = acc'.map (·.s) → (knownGo k i n acc').2 = (knownGo g i n acc).2 ∧ (knownGo k i n acc').1.map (·.s) = (knownGo g i n acc).1.map (·.s)
 | 0, i, acc, acc', e => ⟨rfl, e.symm⟩
 | n + 1, i, acc, acc', e => by
  obtain ⟨e1, e2⟩ := h.pileE (i : Nat)
  rw [knownGo, knownGo, e2]
  split
  ·exact h.knownE n (i + 1) _ _ (by rw [List.map_append, List.map_append, e, List.map_singleton, List.map_singleton, e1])
  ·exact ⟨rfl, e.symm⟩
theorem SwG.known (h : SwG g k P a b R) : (Swa.known k).2 = (Swa.known g).2 ∧ (Swa.known k).1.map (·.s) = (Swa.known g).1.map (·.s) := by
 have := h.knownE g.Spots.length 0 [] [] rfl
 unfold Swa.known
 rw [h.sp]
 exact this
theorem SwG.knownL (h : SwG g k P a b R) : (Swa.known k).1.length = (Swa.known g).1.length := by
 have := congrArg List.length h.known.2
 simpa using this
theorem SwG.heapsR (h : SwG g k P a b R) (hour : Int) : ∀ n, n ≤ (Swa.known g).1.length → Swa.heapsR k (Swa.known k).1 hour n = Swa.heapsR g (Swa.known g).1 hour n
 | 0, _ => rfl
 | n + 1, hn => by
  have hl := h.knownL
  rw [Swa.heapsR, Swa.heapsR, h.heapsR hour n (by omega), known_at (g := g) (by omega), known_at (g := k) (by omega), h.heapRules]
theorem SwG.pairOne (h : SwG g k P a b R) (hour : Int) {x y : Nat} (hx : x < (Swa.known g).1.length) (hy : y < (Swa.known g).1.length) : Swa.pairOne k (Swa.known k).1 hour y x = Swa.pairOne g (Swa.known g).1 hour y x := by
 have hl := h.knownL
 obtain ⟨n1, n2, n3⟩ := h.now x hour
 obtain ⟨m1, m2, m3⟩ := h.now y hour
 unfold Swa.pairOne
 rw [known_at (g := g) hx, known_at (g := k) (by omega), known_at (g := g) hy, known_at (g := k) (by omega)]
 dsimp only
 unfold emptyW fireMax dist
 rw [h.sp, h.so, ← n1, ← n2, ← n3, ← m1, ← m2, ← m3]
theorem SwG.pairRow (h : SwG g k P a b R) (hour : Int) {y : Nat} (hy : y < (Swa.known g).1.length) : ∀ n, n ≤ y → Swa.pairRow k (Swa.known k).1 hour y n = Swa.pairRow g (Swa.known g).1 hour y n
 | 0, _ => rfl
 | n + 1, hn => by rw [Swa.pairRow, Swa.pairRow, h.pairRow hour hy n (by omega), h.pairOne hour (by omega) hy]
theorem SwG.pairRules (h : SwG g k P a b R) (hour : Int) : ∀ n, n ≤ (Swa.known g).1.length → Swa.pairRules k (Swa.known k).1 hour n = Swa.pairRules g (Swa.known g).1 hour n
 | 0, _ => rfl
 | n + 1, hn => by rw [Swa.pairRules, Swa.pairRules, h.pairRules hour n (by omega), h.pairRow hour (by omega) n (Nat.le_refl _)]
theorem SwG.bStep (h : SwG g k P a b R) (hl : g.Spots.length ≤ (Swa.known g).1.length) (s : Bst) (hour : Nat) : Swa.bStep k (Swa.known k).1 s hour = Swa.bStep g (Swa.known g).1 s hour := by
 unfold Swa.bStep
 rw [h.sp, h.heapsR hour _ hl, h.pairRules hour _ hl, h.known.2]
theorem SwG.bGo (h : SwG g k P a b R) (hl : g.Spots.length ≤ (Swa.known g).1.length) : ∀ (n hour : Nat) (s : Bst), Swa.bGo k (Swa.known k).1 n hour s = Swa.bGo g (Swa.known g).1 n hour s
 | 0, _, _ => rfl
 | n + 1, hour, s => by rw [Swa.bGo, Swa.bGo, h.bStep hl, h.bGo hl n (hour + 1)]
theorem SwG.breaks (h : SwG g k P a b R) (hc : check k = check g) : Swa.breaks k = Swa.breaks g := by
 unfold Swa.breaks
 rw [hc, h.known.1]
 split
 ·rfl
 ·split
  ·rfl
  ·rename_i q
   have hk0 : (Swa.known g).2 = 0 := Decidable.not_not.1 q
   have hl : g.Spots.length ≤ (Swa.known g).1.length := by
    have := knownGo_len2 (g := g) g.Spots.length 0 [] hk0
    unfold Swa.known
    simp only [List.length_nil] at this
    omega
   rw [h.bGo hl]
end
end Go.Proofs.Swa
