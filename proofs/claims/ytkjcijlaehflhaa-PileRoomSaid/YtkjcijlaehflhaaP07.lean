/- Part 7 of a proof. -/
import Derived.Test.YtkjcijlaehflhaaP06
set_option linter.unusedVariables false
set_option linter.unusedSimpArgs false
namespace Go.Proofs.Swa
open Go
def exAct (a : Act) (t : Int) : Act := ⟨a.Hour, a.Spot, a.Kind, t, t, a.Take⟩
def exA (A : List Act) (truth : List Int) (n : Nat) : List Act := (List.range A.length).map fun k => if k < n then exAct (A.getD k default) (truth.getD k 0) else A.getD k default
theorem exA_len (A : List Act) (truth : List Int) (n : Nat) : (exA A truth n).length = A.length := by simp [exA]
theorem exA_get (A : List Act) (truth : List Int) (n : Nat) {k : Nat} (hk : k < A.length) : (exA A truth n).getD k default = if k < n then exAct (A.getD k default) (truth.getD k 0) else A.getD k default := by
  simp [exA, List.getD, hk]
theorem getD_ext {α : Type} [Inhabited α] {l m : List α} (h : l.length = m.length) (k : ∀ i, i < l.length → l.getD i default = m.getD i default) : l = m := by
  refine List.ext_getElem h fun i h1 h2 => ?_
  have := k i h1
  simpa [List.getD, h1, h2] using this
theorem getD_setA {α : Type} [Inhabited α] {l : List α} {n m : Nat} {v : α} : (l.set n v).getD m default = if n = m ∧ n < l.length then v else l.getD m default := by
  simp only [List.getD]
  by_cases h : n = m
  · subst h
    by_cases hl : n < l.length
    · simp [hl]
    · simp [hl]
  · rw [List.getElem?_set_ne h, if_neg (fun hh => h hh.1)]
theorem exA_zero (A : List Act) (truth : List Int) : exA A truth 0 = A := by
  refine getD_ext (exA_len ..) fun i hi => ?_
  rw [exA_len] at hi
  rw [exA_get _ _ _ hi, if_neg (by omega)]
theorem exA_succ (A : List Act) (truth : List Int) {n : Nat} (h : n < A.length) : exA A truth (n + 1) = (exA A truth n).set n (exAct (A.getD n default) (truth.getD n 0)) := by
  refine getD_ext (by simp [exA_len]) fun i hi => ?_
  rw [exA_len] at hi
  rw [exA_get _ _ _ hi, getD_setA, exA_len, exA_get _ _ _ hi]
  by_cases e : n = i
  · subst e
    rw [if_pos (show n < n + 1 by omega), if_pos (show n = n ∧ n < A.length from ⟨rfl, h⟩)]
  · have e2 : ¬ (n = i ∧ n < A.length) := fun q => e q.1
    rw [if_neg e2]
    by_cases c : i < n
    · rw [if_pos c, if_pos (show i < n + 1 by omega)]
    · rw [if_neg c, if_neg (show ¬ i < n + 1 by omega)]
def exG (g : Gnd) (truth : List Int) : Gnd := ⟨g.Spots, g.Sorts, exA g.Acts truth g.Acts.length⟩
theorem getD_mapA {α β : Type} [Inhabited α] [Inhabited β] {f : α → β} {l : List α} {i : Nat} (h : i < l.length) : (l.map f).getD i default = f (l.getD i default) := by simp [List.getD, h]
theorem zipL {A : List Act} {truth : List Int} (h : truth.length = A.length) {u : Nat} (hu : u < A.length) : (A.zip truth).getD u default = (A.getD u default, truth.getD u 0) := zip_getD (g := ⟨[], [], A⟩) h hu
theorem exA_all : ∀ (A : List Act) (truth : List Int), truth.length = A.length → exA A truth A.length = (A.zip truth).map fun p => exAct p.1 p.2 := by
  intro A truth h
  refine getD_ext (by simp [exA_len, h]) fun i hi => ?_
  rw [exA_len] at hi
  rw [exA_get _ _ _ hi, if_pos hi, getD_mapA (by rw [List.length_zip]; omega), zipL h hi]
def Fitting (L : List ActT) : Prop := ∀ p, p ∈ L → 1 ≤ p.2 ∧ p.2 ≤ 1000000
theorem ex_check {g g' : Gnd} (hs : g.Spots.length ≤ 4) (hq : g.Sorts.length ≤ 4) (e1 : g'.Spots.length = g.Spots.length) (e2 : g'.Sorts.length = g.Sorts.length) : ∀ (L : List ActT) (h : Int), Fitting L → checkActs g h (L.map (·.1)) = 0 → checkActs g' h (L.map fun p => exAct p.1 p.2) = 0
  | [], _, _, _ => rfl
  | (a, t) :: L, h, f, k => by
    rw [List.map_cons, checkActs] at k
    rw [List.map_cons, checkActs]
    by_cases c : checkAct g h a ≠ 0
    · rw [if_pos c] at k; exact absurd k c
    · rw [if_neg c] at k
      have A := checkAct_mk (Decidable.not_not.1 c) hs hq
      have ft := f (a, t) (List.mem_cons_self ..)
      have e : checkAct g' h (exAct a t) = 0 := checkAct_ok (by omega) (by omega) (by
        rw [e1, e2]
        exact ⟨A.h, A.s, A.k, A.t, ⟨ft.1, Int.le_refl _, ft.2⟩⟩)
      rw [if_neg (by rw [e]; simp)]
      exact ex_check hs hq e1 e2 L a.Hour (fun p hp => f p (List.mem_cons_of_mem _ hp)) k
theorem ex_fits (spot : Int) : ∀ (L : List ActT) (lie : Int), Fits spot lie L → Fits spot lie (L.map fun p => (exAct p.1 p.2, p.2))
  | [], _, _ => trivial
  | (a, t) :: L, lie, f => by
    rw [Fits] at f
    rw [List.map_cons, Fits]
    by_cases c : a.Spot = spot
    · rw [if_pos c] at f
      rw [if_pos (show (exAct a t).Spot = spot from c)]
      refine ⟨⟨by show 1 ≤ t; omega, Int.le_refl _, Int.le_refl _, by show t ≤ 1000000; omega⟩, ?_⟩
      by_cases ct : a.Take = true
      · have f2 := f.2
        rw [if_pos ct] at f2
        rw [if_pos (show (exAct a t).Take = true from ct)]
        exact ⟨f2.1, ex_fits spot L _ f2.2⟩
      · have f2 := f.2
        rw [if_neg ct] at f2
        rw [if_neg (show ¬ (exAct a t).Take = true from ct)]
        exact ex_fits spot L _ f2
    · rw [if_neg c] at f
      rw [if_neg (show ¬ (exAct a t).Spot = spot from c)]
      exact ex_fits spot L _ f
theorem ex_zip {A : List Act} {truth : List Int} (h : truth.length = A.length) : (exA A truth A.length).zip truth = (A.zip truth).map fun p => (exAct p.1 p.2, p.2) := by
  refine getD_ext (by simp [exA_len, h]) fun i hi => ?_
  have hi2 : i < A.length := by simpa [exA_len, h] using hi
  rw [zipL (by rw [exA_len]; exact h) (by rw [exA_len]; exact hi2), exA_get A truth A.length hi2, if_pos hi2, getD_mapA (by rw [List.length_zip]; omega), zipL h hi2]
theorem ex_tip (spot : Int) (L : List ActT) : ∀ u, tipAft spot (L.map fun p => (exAct p.1 p.2, p.2)) u = tipAft spot L u ∧ takAft spot (L.map fun p => (exAct p.1 p.2, p.2)) u = takAft spot L u
  | 0 => ⟨rfl, rfl⟩
  | u + 1 => by
    obtain ⟨h1, h2⟩ := ex_tip spot L u
    rw [tipAft, tipAft, takAft, takAft, h1, h2]
    by_cases hu : u < L.length
    · have e : (L.map fun p => (exAct p.1 p.2, p.2)).getD u default = (exAct (L.getD u default).1 (L.getD u default).2, (L.getD u default).2) := by
        simp [List.getD, hu]
      rw [e]
      exact ⟨rfl, rfl⟩
    · have e1 : (L.map fun p => (exAct p.1 p.2, p.2)).getD u default = default := by simp [List.getD, hu]
      have e2 : L.getD u default = default := by simp [List.getD, hu]
      rw [e1, e2]
      exact ⟨rfl, rfl⟩
theorem ex_exact (L : List ActT) : Exact (L.map fun p => (exAct p.1 p.2, p.2)) := by
  intro u hu
  have hu' : u < L.length := by simpa using hu
  simp [List.getD, hu', exAct]
theorem ex_knd (spot : Int) (A : List Act) (truth : List Int) : ∀ u, u ≤ A.length → kndAft spot (exA A truth A.length) u = kndAft spot A u
  | 0, _ => rfl
  | u + 1, h => by
    rw [kndAft, kndAft, ex_knd spot A truth u (by omega), exA_get A truth _ (show u < A.length by omega), if_pos (show u < A.length by omega)]
    rfl
structure True5 (g : Gnd) (truth : List Int) : Prop where
  ok : Ok g
  ck : check g = 0
  len : truth.length = g.Acts.length
  fit : ∀ j : Nat, j < g.Spots.length → Fits j 0 (g.Acts.zip truth)
theorem True5.at {g : Gnd} {truth : List Int} (h : True5 g truth) {u : Nat} (hu : u < g.Acts.length) : 1 ≤ truth.getD u 0 ∧ truth.getD u 0 ≤ 1000000 ∧ (g.Acts.getD u default).Min ≤ truth.getD u 0 ∧ truth.getD u 0 ≤ (g.Acts.getD u default).Max ∧ 0 ≤ (g.Acts.getD u default).Spot ∧ (g.Acts.getD u default).Spot < g.Spots.length := by
  obtain ⟨_, a⟩ := h.ok.at hu
  have sa := a.s
  have hl := h.len
  have := Fits_at ((g.Acts.getD u default).Spot.toNat : Nat) (g.Acts.zip truth) 0 (h.fit _ (by omega)) u (by rw [List.length_zip]; omega) (by rw [zip_getD h.len hu]; dsimp only; omega)
  have m := this.m
  rw [zip_getD h.len hu] at m
  dsimp only at m
  omega
theorem True5.few {g : Gnd} {truth : List Int} (h : True5 g truth) : Few2 g truth := ⟨h.len, h.ok.acts, fun u hu => by have := h.at hu; omega, fun u hu => by have := h.at hu; omega⟩
theorem tip_other {g : Gnd} {truth : List Int} (h : True5 g truth) {spot : Int} (hs : spot < 0 ∨ g.Spots.length ≤ spot) : ∀ u, u ≤ g.Acts.length → tipAft spot (g.Acts.zip truth) u = 0 ∧ takAft spot (g.Acts.zip truth) u = 0
  | 0, _ => ⟨rfl, rfl⟩
  | u + 1, hu => by
    obtain ⟨h1, h2⟩ := tip_other h hs u (by omega)
    have := h.at (u := u) (by omega)
    rw [tipAft, takAft, zip_getD h.len (by omega), h1, h2]
    dsimp only
    rw [if_neg (fun q => by have := q.1; omega), if_neg (fun q => by have := q.1; omega)]
    exact ⟨rfl, rfl⟩
theorem tak_le (spot : Int) (L : List ActT) (f : ∀ u, u < L.length → (L.getD u default).1.Spot = spot → FitAt spot L 0 u) : ∀ u, u ≤ L.length → takAft spot L u ≤ tipAft spot L u
  | 0, _ => Int.le_refl _
  | u + 1, h => by
    have ih := tak_le spot L f u (by omega)
    rw [tipAft, takAft]
    by_cases c : (L.getD u default).1.Spot = spot
    · obtain ⟨m, t⟩ := f u (by omega) c
      by_cases ct : (L.getD u default).1.Take = true
      · have := t ct
        have n1 : ¬ ((L.getD u default).1.Spot = spot ∧ (L.getD u default).1.Take = false) := fun q => by rw [ct] at q; cases q.2
        rw [if_neg n1, if_pos (show (L.getD u default).1.Spot = spot ∧ (L.getD u default).1.Take = true from ⟨c, ct⟩)]; omega
      · have ct' : (L.getD u default).1.Take = false := by simpa only [Bool.not_eq_true] using ct
        have n1 : ¬ ((L.getD u default).1.Spot = spot ∧ (L.getD u default).1.Take = true) := fun q => by rw [ct'] at q; cases q.2
        rw [if_neg n1, if_pos (show (L.getD u default).1.Spot = spot ∧ (L.getD u default).1.Take = false from ⟨c, ct'⟩)]; omega
    · have n1 : ¬ ((L.getD u default).1.Spot = spot ∧ (L.getD u default).1.Take = true) := fun q => c q.1
      have n2 : ¬ ((L.getD u default).1.Spot = spot ∧ (L.getD u default).1.Take = false) := fun q => c q.1
      rw [if_neg n1, if_neg n2]; omega
theorem True5.le {g : Gnd} {truth : List Int} (h : True5 g truth) (spot : Int) (u : Nat) (hu : u ≤ g.Acts.length) : takAft spot (g.Acts.zip truth) u ≤ tipAft spot (g.Acts.zip truth) u := by
  have hl := h.len
  by_cases c : spot < 0 ∨ (g.Spots.length : Int) ≤ spot
  · obtain ⟨h1, h2⟩ := tip_other h c u hu
    rw [h1, h2]; exact Int.le_refl _
  · obtain ⟨j, rfl⟩ : ∃ j : Nat, spot = j := ⟨spot.toNat, by omega⟩
    exact tak_le j _ (fun v hv hs => Fits_at j _ 0 (h.fit j (by omega)) v hv hs) u (by rw [List.length_zip]; omega)
theorem True5.mass {g : Gnd} {truth : List Int} (h : True5 g truth) {n : Nat} (hn : n ≤ g.Acts.length) (spot : Int) : (dayRun g truth n).mass g spot = tipAft spot (g.Acts.zip truth) n - takAft spot (g.Acts.zip truth) n :=
  day_mass h.few h.le hn spot
theorem True5.day {g : Gnd} {truth : List Int} (h : True5 g truth) {n : Nat} (hn : n ≤ g.Acts.length) : DayI g truth n (dayRun g truth n) := day_inv h.few h.le n hn
theorem True5.spot {g : Gnd} {truth : List Int} (h : True5 g truth) {j : Nat} (hj : j < g.Spots.length) : ∃ n x, SpotX g j truth n x := spotX h.ok.acts h.len (h.fit j hj)
theorem True5.known {g : Gnd} {truth : List Int} (h : True5 g truth) : (Swa.known g).2 = 0 ∧ (Swa.known g).1 = (List.range g.Spots.length).map fun j => (pile g (j : Nat)).1 :=
  known_get fun j hj => by obtain ⟨n, x, k⟩ := h.spot hj; exact k.ok
theorem True5.ex {g : Gnd} {truth : List Int} (h : True5 g truth) : True5 (exG g truth) truth := by
  have hl := h.len
  have e := ex_zip h.len
  have ea := exA_all g.Acts truth h.len
  have hz : (g.Acts.zip truth).map (·.1) = g.Acts := by rw [List.map_fst_zip]; omega
  have ck : check (exG g truth) = 0 := by
    have c0 := h.ck
    have ok := h.ok
    have m1 : many (g.Spots.length : Nat) 4 = 0 := by unfold many; rw [if_neg (by have := ok.spots; omega), if_neg (by have := ok.spots; omega)]
    have m2 : many (g.Sorts.length : Nat) 4 = 0 := by unfold many; rw [if_neg (by have := ok.sorts; omega), if_neg (by have := ok.sorts; omega)]
    unfold check
    show (if many (g.Spots.length : Nat) 4 ≠ 0 then _ else if g.Spots.all okSpo then check2 (exG g truth) else 1) = 0
    rw [if_neg (by rw [m1]; simp), if_pos (List.all_eq_true.2 ok.spot)]
    unfold check2
    show (if many (g.Sorts.length : Nat) 4 ≠ 0 then _ else if g.Sorts.all okSrt then check3 (exG g truth) else 1) = 0
    rw [if_neg (by rw [m2]; simp), if_pos (List.all_eq_true.2 ok.sort)]
    unfold check3
    rw [if_neg (by show ¬ 10 < (exA g.Acts truth g.Acts.length).length; rw [exA_len]; have := ok.acts; omega)]
    show checkActs (exG g truth) 0 (exA g.Acts truth g.Acts.length) = 0
    rw [ea]
    refine ex_check (g' := exG g truth) ok.spots.2 ok.sorts.2 rfl rfl _ _ (fun p hp => ?_) (by rw [hz]; exact ok.act)
    obtain ⟨i, hi, rfl⟩ := List.getElem_of_mem hp
    have hi' : i < g.Acts.length := by rw [List.length_zip] at hi; omega
    have := h.at hi'
    have hi2 : i < truth.length := by omega
    have e2 : truth.getD i 0 = truth[i] := by simp [List.getD, hi2]
    rw [List.getElem_zip]
    dsimp only
    omega
  refine ⟨check_ok ck, ck, by show truth.length = (exA g.Acts truth g.Acts.length).length; rw [exA_len]; exact h.len, fun j hj => ?_⟩
  show Fits j 0 ((exA g.Acts truth g.Acts.length).zip truth)
  rw [e]
  exact ex_fits j _ _ (h.fit j hj)
def nearS (g : Gnd) (a b : Nat) (s t : Int) : Bool := decide (dist g a b < fireMax g s t)
def kindOf (g : Gnd) (d : DayS) (a : Nat) : Int := (g.Acts.getD (d.last.getD a 0).toNat default).Kind
def fineA (g : Gnd) (d : DayS) (kind mass : Int) (a : Nat) : Bool :=
  (decide (d.mass g a = 0) || decide (kindOf g d a = kind)) && decide (w64 (100 * w64 (d.mass g a + mass)) ≤ w64 (w64 ((g.Sorts.getD kind.toNat default).High * (g.Sorts.getD kind.toNat default).Dense) * (g.Spots.getD a default).Area))
def badB (g : Gnd) (d : DayS) (kind : Int) (a b : Nat) : Bool := decide (b ≠ a) && decide (0 < d.mass g b) && nearS g a b kind (kindOf g d b)
def fine (g : Gnd) (d : DayS) (kind mass : Int) (a : Nat) : Bool := fineA g d kind mass a && (List.range g.Spots.length).all fun b => !badB g d kind a b
theorem distS_comm (x y : Spo) : distS x y = distS y x := by
  unfold distS
  rw [Int.max_comm, Int.max_comm (w64 (x.Y - y.Y))]
theorem dist_mm (g : Gnd) (a b : Nat) : dist g (min a b) (max a b) = dist g a b := by
  unfold dist
  by_cases h : a ≤ b
  · rw [Nat.min_eq_left h, Nat.max_eq_right h]
  · rw [Nat.min_eq_right (by omega), Nat.max_eq_left (by omega), distS_comm]
theorem okSrt_elim {s : Srt} (h : okSrt s = true) : 1 ≤ s.High ∧ s.High ≤ 1000 ∧ 1 ≤ s.Dense ∧ s.Dense ≤ 8000 ∧ 0 ≤ s.Fire ∧ s.Fire ≤ 100 ∧ 0 ≤ s.Age ∧ s.Age ≤ 72 := by
  unfold okSrt at h
  simp only [Bool.and_eq_true] at h
  have a := inB_elim h.1.1.1
  have b := inB_elim h.1.1.2
  have c := inB_elim h.1.2
  have d := inB_elim h.2
  omega
theorem okSpo_elim {s : Spo} (h : okSpo s = true) : 0 ≤ s.X ∧ s.X ≤ 1000 ∧ 0 ≤ s.Y ∧ s.Y ≤ 1000 ∧ 1 ≤ s.Area ∧ s.Area ≤ 1000 := by
  unfold okSpo at h
  simp only [Bool.and_eq_true] at h
  have a := inB_elim h.1.1
  have b := inB_elim h.1.2
  have c := inB_elim h.2
  omega
theorem getD_mem {α : Type} [Inhabited α] {l : List α} {i : Nat} (h : i < l.length) : l.getD i default ∈ l := by
  simp [List.getD, h]
theorem holds_val {g : Gnd} (ok : Ok g) {a : Nat} {kind : Int} (ha : a < g.Spots.length) (hk : 0 ≤ kind ∧ kind < g.Sorts.length) :
    ∃ c, c = (g.Sorts.getD kind.toNat default).High * (g.Sorts.getD kind.toNat default).Dense * (g.Spots.getD a default).Area ∧ 0 ≤ c ∧ c ≤ 8000000000 ∧ holdsP g a kind.toNat = c / 100 ∧ w64 (w64 ((g.Sorts.getD kind.toNat default).High * (g.Sorts.getD kind.toNat default).Dense) * (g.Spots.getD a default).Area) = c := by
  have s := okSrt_elim (ok.sort _ (getD_mem (show kind.toNat < g.Sorts.length by omega)))
  have p := okSpo_elim (ok.spot _ (getD_mem ha))
  unfold holdsP
  generalize (g.Sorts.getD kind.toNat default).High = h at *
  generalize (g.Sorts.getD kind.toNat default).Dense = d at *
  generalize (g.Spots.getD a default).Area = r at *
  have p1 : h * d ≤ 1000 * 8000 := Int.mul_le_mul s.2.1 s.2.2.2.1 (by omega) (by omega)
  have p0 : 0 ≤ h * d := Int.mul_nonneg (by omega) (by omega)
  have p2 : h * d * r ≤ 8000000 * 1000 := Int.mul_le_mul p1 p.2.2.2.2.2 (by omega) (by omega)
  have p3 : 0 ≤ h * d * r := Int.mul_nonneg p0 (by omega)
  refine ⟨h * d * r, rfl, p3, by omega, ?_, ?_⟩
  · rw [w64_id (x := h * d) (by omega) (by omega), w64_id (x := h * d * r) (by omega) (by omega), Int.tdiv_eq_ediv_of_nonneg p3, w64_id (by omega) (by omega)]
  · rw [w64_id (x := h * d) (by omega) (by omega), w64_id (by omega) (by omega)]
theorem room_fine {g g' : Gnd} {truth : List Int} {kind mass : Int} (h : True5 g truth) (ok' : Ok g') (e1 : g'.Spots = g.Spots) (e2 : g'.Sorts = g.Sorts) (e3 : g'.Acts.length = g.Acts.length) (hs : List Hp) (hl : hs.length = g.Spots.length)
    (hk : 0 ≤ kind ∧ kind < g.Sorts.length) (hm : 1 ≤ mass ∧ mass ≤ 1000000)
    (mo : ∀ a : Nat, a < g.Spots.length → (dayRun g truth g.Acts.length).mass g a ≤ (hs.getD a default).most ((hs.getD a default).before g.Acts.length) ∧ (hs.getD a default).most ((hs.getD a default).before g.Acts.length) ≤ 10000000 ∧ ((hs.getD a default).before g.Acts.length).kind = kndAft a g.Acts g.Acts.length) {a : Nat} (ha : a < g.Spots.length) :
    (roomOk g' hs kind mass a = true → fine g (dayRun g truth g.Acts.length) kind mass a = true) ∧
    ((∀ a : Nat, a < g.Spots.length → (dayRun g truth g.Acts.length).mass g a = (hs.getD a default).most ((hs.getD a default).before g.Acts.length)) → fine g (dayRun g truth g.Acts.length) kind mass a = true → roomOk g' hs kind mass a = true) := by
  have D := h.day (Nat.le_refl _)
  have hbd : ∀ a : Nat, a < g.Spots.length → 0 ≤ (dayRun g truth g.Acts.length).mass g a := fun a ha => by
    rw [h.mass (Nat.le_refl _)]
    have := h.le a g.Acts.length (Nat.le_refl _)
    omega
  have hkn : ∀ a : Nat, a < g.Spots.length → 0 < (dayRun g truth g.Acts.length).mass g a → kindOf g (dayRun g truth g.Acts.length) a = kndAft a g.Acts g.Acts.length := fun a ha hp => by
    have hz : (g.Acts.zip truth).map (·.1) = g.Acts := by rw [List.map_fst_zip]; have := h.len; omega
    rw [h.mass (Nat.le_refl _)] at hp
    have := h.few
    have tn := tipAft_nonneg this a g.Acts.length (Nat.le_refl _)
    unfold kindOf
    rw [D.lst a ha]
    rcases last_kind a g.Acts g.Acts.length with ⟨q1, q2⟩ | ⟨q1, q2, q3⟩
    · rw [← hz] at q1
      rw [hz] at q1
      have q1' : lastAft a ((g.Acts.zip truth).map (·.1)) g.Acts.length = -1 := by rw [hz]; exact q1
      have := last_none q1'
      omega
    · exact q3.symm
  have hold : ∀ a : Nat, a < g.Spots.length → holdsP g' a kind.toNat = holdsP g a kind.toNat := fun a _ => by unfold holdsP; rw [e1, e2]
  have hdist : ∀ a b, dist g' a b = dist g a b := fun a b => by unfold dist; rw [e1]
  have hfire : ∀ s t, fireMax g' s t = fireMax g s t := fun s t => by unfold fireMax; rw [e2]
  obtain ⟨c, _, c0, c1, c2, c3⟩ := holds_val h.ok ha hk
  obtain ⟨m1, m2, m3⟩ := mo a ha
  have n0 := hbd a ha
  generalize hD : dayRun g truth g.Acts.length = d at *
  unfold roomOk fine badOne fineA
  rw [e3, hold a ha, c2, c3, w64_id (x := d.mass g a + mass) (by omega) (by omega), w64_id (x := 100 * (d.mass g a + mass)) (by omega) (by omega), w64_id (by omega) (by omega)]
  simp only [Bool.and_eq_true, Bool.or_eq_true, Bool.not_eq_true', Bool.or_eq_false_iff, Bool.and_eq_false_iff, decide_eq_true_eq, decide_eq_false_iff_not, List.all_eq_true, List.mem_range, hl]
  have btw : ∀ b, badTwo g' (hs.getD b default) kind a b = (decide (b ≠ a) && decide (0 < (hs.getD b default).most ((hs.getD b default).before g.Acts.length)) && decide (dist g a b < fireMax g kind ((hs.getD b default).before g.Acts.length).kind)) := fun b => by
    unfold badTwo
    rw [e3, hdist, hfire, dist_mm]
  constructor
  · rintro ⟨⟨r1, r2⟩, r3⟩
    refine ⟨⟨?_, by omega⟩, fun b hb => ?_⟩
    · by_cases hz : d.mass g a = 0
      · exact .inl hz
      · right
        rw [hkn a ha (by omega), ← m3]
        rcases r1 with r1 | r1
        · omega
        · exact Decidable.not_not.1 r1
    · have := r3 b hb
      rw [btw] at this
      obtain ⟨b1, b2, b3⟩ := mo b hb
      unfold badB nearS
      by_cases q : b ≠ a ∧ 0 < d.mass g b
      · rw [hkn b hb q.2, ← b3]
        simp only [Bool.and_eq_false_iff, decide_eq_false_iff_not] at this ⊢
        rcases this with (t | t) | t
        · exact absurd q.1 t
        · omega
        · exact .inr t
      · simp only [Bool.and_eq_false_iff, decide_eq_false_iff_not]
        left
        rcases Decidable.not_and_iff_or_not.1 q with t | t
        · exact .inl t
        · exact .inr t
  · rintro heq ⟨⟨f1, f2⟩, f3⟩
    have ea := heq a ha
    refine ⟨⟨?_, by omega⟩, fun b hb => ?_⟩
    · by_cases hz : d.mass g a = 0
      · left; omega
      · right
        rcases f1 with f1 | f1
        · exact absurd f1 hz
        · rw [hkn a ha (by omega)] at f1
          rw [m3, f1]
          simp
    · have := f3 b hb
      rw [btw]
      obtain ⟨b1, b2, b3⟩ := mo b hb
      have eb := heq b hb
      unfold badB nearS at this
      by_cases q : b ≠ a ∧ 0 < d.mass g b
      · rw [hkn b hb q.2, ← b3] at this
        simp only [Bool.and_eq_false_iff, decide_eq_false_iff_not] at this ⊢
        rcases this with (t | t) | t
        · exact absurd q.1 t
        · omega
        · exact .inr t
      · simp only [Bool.and_eq_false_iff, decide_eq_false_iff_not]
        left
        rcases Decidable.not_and_iff_or_not.1 q with t | t
        · exact .inl t
        · right; omega
theorem True5.most {g : Gnd} {truth : List Int} (h : True5 g truth) {a : Nat} (ha : a < g.Spots.length) {u : Nat} (hu : u ≤ g.Acts.length) :
    tipAft a (g.Acts.zip truth) u - takAft a (g.Acts.zip truth) u ≤ (pile g (a : Nat)).1.most ((pile g (a : Nat)).1.before u) ∧ (pile g (a : Nat)).1.most ((pile g (a : Nat)).1.before u) ≤ 10000000 ∧ ((pile g (a : Nat)).1.before u).kind = kndAft a g.Acts u ∧
    (Exact (g.Acts.zip truth) → (pile g (a : Nat)).1.most ((pile g (a : Nat)).1.before u) = tipAft a (g.Acts.zip truth) u - takAft a (g.Acts.zip truth) u) := by
  obtain ⟨n, x, X⟩ := h.spot ha
  obtain ⟨m1, m2, m3, m4, m5⟩ := X.mom u hu
  have s := X.tab.sat _ _ m2 m1
  have l := X.tab.lt m2 m1
  unfold Hp.most
  refine ⟨by omega, l.1, m5, fun ex => ?_⟩
  have := X.tight ex _ _ m2 m1
  omega
structure RoomOk (g : Gnd) (truth : List Int) (hour kind mass : Int) : Prop where
  e : roomE g hour kind mass = 0
  h : roomE (exG g truth) hour kind mass = 0
  u : untilL hour g.Acts = g.Acts.length
  one : ∀ a : Nat, a < g.Spots.length → ((a : Int) ∈ room (exG g truth) hour kind mass ↔ fine g (dayRun g truth g.Acts.length) kind mass a = true) ∧ ((a : Int) ∈ room g hour kind mass → fine g (dayRun g truth g.Acts.length) kind mass a = true)
theorem until_all {hour : Int} : ∀ {l : List Act}, (∀ a, a ∈ l → a.Hour ≤ hour) → untilL hour l = l.length
  | [], _ => rfl
  | a :: l, h => by
    rw [untilL, if_pos (h a (List.mem_cons_self ..)), until_all fun b hb => h b (List.mem_cons_of_mem _ hb)]; rfl
theorem roomE_zero {g : Gnd} {truth : List Int} (h : True5 g truth) {hour kind mass : Int} (hh : 0 ≤ hour ∧ hour ≤ 72) (hl : ∀ a, a ∈ g.Acts → a.Hour ≤ hour) (hk : 0 ≤ kind ∧ kind < g.Sorts.length) (hm : 1 ≤ mass ∧ mass ≤ 1000000) : roomE g hour kind mass = 0 := by
  unfold roomE
  have hs := h.ok.sorts
  rw [if_neg (by rw [h.ck]; simp), if_pos (inB_mk hh.1 hh.2), if_neg, w64_id (by omega) (by omega), if_pos (inB_mk hk.1 (by omega)), if_pos (inB_mk hm.1 hm.2), h.known.1]
  rintro ⟨q1, q2⟩
  have := hl _ (getD_mem (show g.Acts.length - 1 < g.Acts.length by omega))
  omega
theorem mem_roomGo {g : Gnd} {hs : List Hp} {kind mass : Int} {n a : Nat} (ha : a < n) : (a : Int) ∈ roomGo g hs kind mass n ↔ roomOk g hs kind mass a = true := by
  unfold roomGo
  rw [List.mem_map]
  constructor
  · rintro ⟨b, hb, e⟩
    have : b = a := by omega
    subst this
    exact (List.mem_filter.1 hb).2
  · intro h
    exact ⟨a, List.mem_filter.2 ⟨List.mem_range.2 ha, h⟩, rfl⟩
theorem getD_map_range {α : Type} [Inhabited α] {f : Nat → α} {n i : Nat} (h : i < n) : ((List.range n).map f).getD i default = f i := by simp [List.getD, h]
theorem room_law {g : Gnd} {truth : List Int} (h : True5 g truth) {hour kind mass : Int} (hh : 0 ≤ hour ∧ hour ≤ 72) (hl : ∀ a, a ∈ g.Acts → a.Hour ≤ hour) (hk : 0 ≤ kind ∧ kind < g.Sorts.length) (hm : 1 ≤ mass ∧ mass ≤ 1000000) : RoomOk g truth hour kind mass := by
  have X := h.ex
  have lx : (exG g truth).Acts.length = g.Acts.length := exA_len ..
  have hlx : ∀ a, a ∈ (exG g truth).Acts → a.Hour ≤ hour := by
    intro a ha
    have ha : a ∈ exA g.Acts truth g.Acts.length := ha
    rw [exA_all _ _ h.len] at ha
    obtain ⟨p, hp, rfl⟩ := List.mem_map.1 ha
    exact hl p.1 (List.of_mem_zip hp).1
  have e1 := roomE_zero h hh hl hk hm
  have e2 := roomE_zero X hh hlx (show 0 ≤ kind ∧ kind < (exG g truth).Sorts.length from hk) hm
  obtain ⟨k1, k2⟩ := h.known
  obtain ⟨x1, x2⟩ := X.known
  refine ⟨e1, e2, until_all hl, fun a ha => ?_⟩
  unfold room
  rw [if_pos e1, if_pos e2]
  have n1 : (known g).1.length = g.Spots.length := by rw [k2]; simp
  have n2 : (known (exG g truth)).1.length = g.Spots.length := by rw [x2]; simp [exG]
  rw [n1, n2, mem_roomGo ha, mem_roomGo ha]
  have M1 := room_fine (kind := kind) (mass := mass) h h.ok rfl rfl rfl (known g).1 n1 hk hm (fun a ha => by
    rw [k2, getD_map_range ha]
    obtain ⟨q1, q2, q3, _⟩ := h.most ha (Nat.le_refl _)
    rw [h.mass (Nat.le_refl _)]
    exact ⟨q1, q2, q3⟩) ha
  have ez := ex_zip h.len
  have exx : Exact ((exG g truth).Acts.zip truth) := by
    show Exact ((exA g.Acts truth g.Acts.length).zip truth)
    rw [ez]; exact ex_exact _
  have mx : ∀ a : Nat, a < g.Spots.length → ((known (exG g truth)).1.getD a default).most (((known (exG g truth)).1.getD a default).before g.Acts.length) = (dayRun g truth g.Acts.length).mass g a ∧ ((known (exG g truth)).1.getD a default).most (((known (exG g truth)).1.getD a default).before g.Acts.length) ≤ 10000000 ∧ (((known (exG g truth)).1.getD a default).before g.Acts.length).kind = kndAft a g.Acts g.Acts.length := fun a ha => by
    rw [x2, getD_map_range (show a < (exG g truth).Spots.length from ha)]
    obtain ⟨q1, q2, q3, q4⟩ := X.most (a := a) ha (Nat.le_refl _)
    have q4 := q4 exx
    rw [lx] at q2 q3 q4
    rw [h.mass (Nat.le_refl _)]
    refine ⟨?_, q2, ?_⟩
    · rw [q4]
      show tipAft a ((exA g.Acts truth g.Acts.length).zip truth) _ - takAft a ((exA g.Acts truth g.Acts.length).zip truth) _ = _
      rw [ez, (ex_tip a _ _).1, (ex_tip a _ _).2]
    · rw [q3]
      exact ex_knd a g.Acts truth _ (Nat.le_refl _)
  have M2 := room_fine (kind := kind) (mass := mass) h X.ok rfl rfl lx (known (exG g truth)).1 n2 hk hm (fun a ha => by
    obtain ⟨q1, q2, q3⟩ := mx a ha
    exact ⟨by omega, q2, q3⟩) ha
  exact ⟨⟨M2.1, M2.2 fun a ha => (mx a ha).1.symm⟩, M1.1⟩
theorem step_hour (spots sorts : Nat) (mass hours : Int) (s : Gst) : ∃ a, (s.step spots sorts mass hours).acts = s.acts ++ [a] ∧ a.Hour ≤ hours := by
  unfold Gst.step
  dsimp only
  split
  · exact ⟨_, rfl, by dsimp only; omega⟩
  · exact ⟨_, rfl, by dsimp only; omega⟩
theorem run_hour (spots sorts : Nat) (mass hours : Int) : ∀ (n : Nat) (s : Gst), (∀ a, a ∈ s.acts → a.Hour ≤ hours) → ∀ a, a ∈ (Gst.run spots sorts mass hours n s).acts → a.Hour ≤ hours
  | 0, s, h => h
  | n + 1, s, h => by
    rw [Gst.run]
    refine run_hour spots sorts mass hours n _ fun a ha => ?_
    obtain ⟨b, e, hb⟩ := step_hour spots sorts mass hours s
    rw [e] at ha
    rcases List.mem_append.1 ha with ha | ha
    · exact h a ha
    · rw [List.mem_singleton.1 ha]; exact hb
theorem ground_hour (x spots sorts acts mass hours : Int) : ∀ a, a ∈ (groundOf x spots sorts acts mass hours).g.Acts → a.Hour ≤ hours := by
  unfold groundOf
  exact run_hour _ _ _ _ _ _ (fun a ha => by cases ha)
theorem ground_true {x spots sorts acts mass hours : Int} (q1 : 1 ≤ spots ∧ spots ≤ 4) (q2 : 1 ≤ sorts ∧ sorts ≤ 4) (q3 : 0 ≤ acts ∧ acts ≤ 10) (q4 : 1 ≤ mass ∧ mass ≤ 10000) (q5 : 0 ≤ hours ∧ hours ≤ 72) :
    True5 (groundOf x spots sorts acts mass hours).g (groundOf x spots sorts acts mass hours).truth := by
  obtain ⟨a, b, c, d, e, f⟩ := ground_fair (x := x) q1 q2 q3 q4 q5
  exact ⟨check_ok a.ck, a.ck, e, f⟩
end Go.Proofs.Swa

set_option linter.unusedVariables false
set_option linter.unusedSimpArgs false
namespace Go.Proofs.Swa
open Go
theorem True5.last {g : Gnd} {truth : List Int} (h : True5 g truth) {a : Nat} (ha : a < g.Spots.length) {n : Nat} (hn : n ≤ g.Acts.length) (hm : (dayRun g truth n).mass g a ≠ 0) :
    0 ≤ (dayRun g truth n).last.getD a 0 ∧ (dayRun g truth n).last.getD a 0 < n := by
  have hz : (g.Acts.zip truth).map (·.1) = g.Acts := by rw [List.map_fst_zip]; have := h.len; omega
  rw [h.mass hn] at hm
  have tn := tipAft_nonneg h.few a n hn
  have le := h.le a n hn
  rw [(h.day hn).lst a ha]
  rcases last_kind a g.Acts n with ⟨q1, q2⟩ | ⟨q1, q2, q3⟩
  · have q1' : lastAft a ((g.Acts.zip truth).map (·.1)) n = -1 := by rw [hz]; exact q1
    have := last_none q1'
    omega
  · exact ⟨q1, q2⟩
theorem True5.kindOf {g : Gnd} {truth : List Int} (h : True5 g truth) (a : Nat) (d : DayS) {n : Nat} (hn : n ≤ g.Acts.length) (hl : 0 ≤ d.last.getD a 0 ∧ d.last.getD a 0 < n) : 0 ≤ Swa.kindOf g d a ∧ Swa.kindOf g d a < g.Sorts.length := by
  obtain ⟨_, A⟩ := h.ok.at (u := (d.last.getD a 0).toNat) (by omega)
  exact ⟨A.k.1, A.k.2⟩
theorem True5.mass0 {g : Gnd} {truth : List Int} (h : True5 g truth) (a : Nat) {n : Nat} (hn : n ≤ g.Acts.length) : 0 ≤ (dayRun g truth n).mass g a := by
  rw [h.mass hn]
  have le := h.le a n hn
  omega
end Go.Proofs.Swa

