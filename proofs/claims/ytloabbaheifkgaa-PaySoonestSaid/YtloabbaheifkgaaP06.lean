/- Part 6 of a proof. -/
import Derived.Test.YtloabbaheifkgaaP05
set_option linter.unusedVariables false
set_option linter.unusedSimpArgs false
namespace Go.Proofs.Swa
open Go
theorem pr_equal_array {P:Program} {d len n:Nat} {t e:TypeId} {xs ys:Array Value} (hu:P.underlying t=some (.array len e)) (hs:tySize P e=some n) :
  pr P (Op.equalIn (d + 1) t (.agg xs) (.agg ys))=eqPs P d xs ys ((List.range' 0 len).map fun i=>(e,i * n)):=by
 have hsz:pr P (sizeOf e)=some n:=by
  unfold tySize at hs
  unfold Go.sizeOf typeInfo
  cases hi:P.info? e with
  | none=>rw [hi] at hs;cases hs
  | some i =>
   rw [hi] at hs
   simp only [Option.map_some,Option.some.injEq] at hs
   simp [pr_bind',pr_program,hi,hs]
 simp only [Op.equalIn,pr_bind',underlying,pr_program,Option.bind_some,hu,pr_pure,hsz,Std.Legacy.Range.forIn_eq_forIn_range',Std.Legacy.Range.size,Nat.sub_zero,Nat.add_sub_cancel,Nat.div_one]
 generalize List.range' 0 len=l
 clear hu
 induction l with
 | nil=>simp [eqPs]
 | cons f l ih =>
  simp only [List.forIn_cons,pr_bind',pr_ite,List.map_cons,eqPs]
  cases pr P (part e xs (f * n)) with
  | none=>rfl
  | some a =>
   simp only [Option.bind_some]
   cases pr P (part e ys (f * n)) with
   | none=>rfl
   | some b =>
    simp only [Option.bind_some]
    cases pr P (Op.equalIn d e a b) with
    | none=>rfl
    | some r =>
     cases r with
     | false=>simp [pr_ite]
     | true =>
      simp only [Option.bind_some,Bool.not_true,Bool.false_eq_true,if_false,if_true,pr_ite,pr_pure]
      simpa [pr_bind'] using ih
def eqRun (X Y:List Bool):Nat→Nat→Bool
 | _,0=>true
 | s,k + 1=>decide (X.getD s false=Y.getD s false) && eqRun X Y (s + 1) k
theorem eqRun_iff {X Y:List Bool}:∀ {k s:Nat},eqRun X Y s k=true↔∀ i,s≤i→i < s + k→X.getD i false=Y.getD i false
 | 0,s=>⟨fun _ i h1 h2=>by omega,fun _=>rfl⟩
 | k + 1,s=>by
  unfold eqRun
  rw [Bool.and_eq_true,decide_eq_true_iff,eqRun_iff]
  constructor
  ·rintro ⟨h1,h2⟩ i h3 h4
   by_cases e:i=s
   ·subst e;exact h1
   ·exact h2 i (by omega) (by omega)
  ·exact fun h=>⟨h s (Nat.le_refl _) (by omega),fun i h3 h4=>h i (by omega) (by omega)⟩
theorem eqPs_row {P:Program} {d:Nat} {t:TypeId} {X Y:List Bool} (ha:tyAgg P t=some false) (hu:P.underlying t=some .bool) (hx:X.length=Y.length):∀ (k s:Nat),s + k≤X.length→eqPs P (d + 1) ⟨X.map .bool⟩ ⟨Y.map .bool⟩ ((List.range' s k).map fun i=>(t,i * 1))=some (eqRun X Y s k)
 | 0,s,h=>rfl
 | k + 1,s,h=>by
  have g:∀ Z:List Bool,s < Z.length→(⟨Z.map Value.bool⟩:Array Value)[s * 1]? = some (.bool (Z.getD s false)):=by
   intro Z hz
   rw [Nat.mul_one]
   show (Z.map Value.bool).toArray[s]? = _
   rw [List.getElem?_toArray,List.getElem?_map,List.getElem?_eq_getElem hz,List.getD_eq_getElem?_getD,List.getElem?_eq_getElem hz]
   rfl
  rw [List.range'_succ,List.map_cons,eqPs_bool ha hu (g X (by omega)) (g Y (by omega)),eqPs_row ha hu hx k (s + 1) (by omega)]
  show _=some (decide (X.getD s false=Y.getD s false) && eqRun X Y (s + 1) k)
  by_cases e:X.getD s false=Y.getD s false
  ·rw [if_pos e,decide_eq_true e,Bool.true_and]
  ·rw [if_neg e,decide_eq_false e,Bool.false_and]
theorem ext_map {X:List Bool} {a b:Nat}:(⟨X.map Value.bool⟩:Array Value).extract a b=⟨((X.drop a).take (b - a)).map .bool⟩:=by
 apply Array.ext'
 simp [List.map_take,List.map_drop]
def eqRows (X Y:List Bool) (m:Nat):Nat→Nat→Bool
 | _,0=>true
 | s,k + 1=>eqRun ((X.drop (s * m)).take m) ((Y.drop (s * m)).take m) 0 m && eqRows X Y m (s + 1) k
theorem eqPs_rows {P:Program} {d m:Nat} {t e:TypeId} {X Y:List Bool} (ha:tyAgg P t=some true) (hs:tySize P t=some m) (hu:P.underlying t=some (.array m e)) (ha2:tyAgg P e=some false) (hs2:tySize P e=some 1) (hu2:P.underlying e=some .bool) (hx:X.length=Y.length) :
  ∀ (k s:Nat),s * m + k * m≤X.length→eqPs P (d + 2) ⟨X.map .bool⟩ ⟨Y.map .bool⟩ ((List.range' s k).map fun i=>(t,i * m))=some (eqRows X Y m s k)
 | 0,s,h=>rfl
 | k + 1,s,h=>by
  have hk:(k + 1) * m=k * m + m:=Nat.succ_mul ..
  rw [List.range'_succ,List.map_cons]
  simp only [eqPs,pr_partN ha hs,Option.bind_some,ext_map,Nat.add_sub_cancel_left]
  rw [pr_equal_array hu hs2,eqPs_row ha2 hu2 (by simp [hx]) m 0 (by simp;omega),Option.bind_some,eqPs_rows ha hs hu ha2 hs2 hu2 hx k (s + 1) (by rw [Nat.succ_mul];omega)]
  show _=some (_ && _)
  by_cases e:eqRun ((X.drop (s * m)).take m) ((Y.drop (s * m)).take m) 0 m=true
  ·rw [if_pos e,e,Bool.true_and]
  ·rw [if_neg e]
   have e:=Bool.eq_false_iff.2 e
   rw [e,Bool.false_and]
theorem eqRows_iff {X Y:List Bool} {m:Nat}:∀ {k s:Nat},eqRows X Y m s k=true↔∀ i j,s≤i→i < s + k→j < m→X.getD (i * m + j) false=Y.getD (i * m + j) false
 | 0,s=>⟨fun _ i j h1 h2=>by omega,fun _=>rfl⟩
 | k + 1,s=>by
  have g:∀ (Z:List Bool) (j:Nat),j < m→((Z.drop (s * m)).take m).getD j false=Z.getD (s * m + j) false:=by
   intro Z j hj
   rw [List.getD_eq_getElem?_getD,List.getElem?_take,if_pos hj,List.getElem?_drop,List.getD_eq_getElem?_getD]
  unfold eqRows
  rw [Bool.and_eq_true,eqRun_iff,eqRows_iff]
  constructor
  ·rintro ⟨h1,h2⟩ i j h3 h4 h5
   by_cases e:i=s
   ·subst e
    have:=h1 j (Nat.zero_le _) (by omega)
    rwa [g X j h5,g Y j h5] at this
   ·exact h2 i j (by omega) (by omega) h5
  ·refine fun h=>⟨fun j _ hj=>?_,fun i j h3 h4 h5=>h i j (by omega) (by omega) h5⟩
   have hj:j < m:=by omega
   rw [g X j hj,g Y j hj]
   exact h s j (Nat.le_refl _) (by omega) hj
theorem bop_eqlT {P:Program} {k m:Nat} {T t e:TypeId} {x y:Operand} {X Y:List Bool} (hT:P.underlying T=some (.array k t)) (ha:tyAgg P t=some true) (hs:tySize P t=some m) (hu:P.underlying t=some (.array m e)) (ha2:tyAgg P e=some false) (hs2:tySize P e=some 1) (hu2:P.underlying e=some .bool)
  (hg:P.eqGuardType P.depth T=false) (hx:X.length=k * m) (hy:Y.length=k * m):bopA P .eql T x y (.agg ⟨X.map .bool⟩) (.agg ⟨Y.map .bool⟩)=some (.bool (eqRows X Y m 0 k)):=by
 have h1:pr P (Op.equal T (.agg ⟨X.map .bool⟩) (.agg ⟨Y.map .bool⟩))=some (eqRows X Y m 0 k):=by
  show pr P (Op.equalIn (9999 + 1) T _ _)=_
  rw [pr_equal_array hT hs]
  exact eqPs_rows (d:=9997) ha hs hu ha2 hs2 hu2 (by omega) k 0 (by omega)
 have fl:∀ Z:List Bool,dflat (.agg ⟨Z.map .bool⟩)=true:=by
  intro Z
  simp only [dflat]
  rw [Array.all_eq_true]
  intro i hi
  simp [flat]
 unfold bopA
 rw [if_pos ⟨fl X,fl Y⟩]
 simp [eqGuard,binOp,pr_bind',pr_program,hg,h1,keep,dflat,flat,pr_ite,pr_map']
section
variable {P:Program} {t:TypeId}
theorem lookup0_s2 {mt v:TypeId} (hm:P.underlying mt=some (.map t v)) (hk:∀ a b:Int,keyOk P t (k2 a b)=true) (heq:∀ a b c d:Int,pr P (Op.equal t (k2 a b) (k2 c d))=some (decide (a=c∧b=d))) (hz:tyZero P v=some (.int .i64 0)) {a b:Int} {l:List Ent2} {r:Nat} {H:AHeap}
  (hg:H.get r=.map (entK l)):lookupA P mt (.map (some r)) (k2 a b) false H=some (match findE a b l 0 with|some (_,u)=>u|none=>.int .i64 0):=by
 unfold lookupA
 rw [hm]
 dsimp only
 rw [if_pos (hk a b),hz]
 unfold entsA
 dsimp only
 rw [hg]
 dsimp only
 rw [if_pos (show dflat (.int .i64 0)=true from rfl),findM_s2 heq]
 cases findE a b l 0 <;> rfl
end
theorem nextIn {s:ByteArray} {p b:Nat} {H:AHeap} (h:H.get b=.iter s p) (hp:p < s.size):nextA (vptr b 0) H=some (.tuple #[.bool true,.int .i64 p,.int .i32 (Utf8.decode s p).1],H.upd H.n b (.iter s (p + (Utf8.decode s p).2))):=by
 unfold nextA vptr
 simp only [h]
 rw [if_pos hp]
 rfl
theorem nextOut {s:ByteArray} {p b:Nat} {H:AHeap} (h:H.get b=.iter s p) (hp:¬ p < s.size):nextA (vptr b 0) H=some (.tuple #[.bool false],H):=by
 unfold nextA vptr
 simp only [h]
 rw [if_neg hp]
theorem dec_pos (s:ByteArray) (p:Nat):1≤(Utf8.decode s p).2:=by
 unfold Utf8.decode
 dsimp only
 repeat' split
 all_goals exact Nat.le_of_ble_eq_true rfl
theorem bop_str {P:Program} {t:TypeId} {x y:Operand} {p q:ByteArray}:bopA P .eql t x y (.string p) (.string q)=some (.bool (decide (p=q))):=by rw [bop_eqlS',eqS_eq]
theorem GS.fr' {N:Nat} {X:List Nat} {A B:AHeap} (hF:Fr N X A B) {s n:Nat} {v:Value} {c:List Value} {g:Option Nat} (h:GS A s n v c g) (hg:∀ x,g=some x→x < N) (hx:v=.slice none 0 0∨vblk v∉X):GS B s n v c g:=by
 rcases hx with rfl|hx
 ·cases h with
  | nil hn hv hc=>exact .nil hn hv hc
  | full hv=>cases hv
  | gr hv=>cases hv
 ·exact h.fr hF hg hx
theorem GS.upd_gr {B:AHeap} {s n g' e:Nat} {l:Bool} {v:Value} {c d:List Value} {T:TypeId} {g:Option Nat} (G:GS B s n v c g) (hne:g≠some g'):GS (B.upd (B.n + 1) B.n (.cells d T (.gr g' e l))) s n v c g:=by
 cases G with
 | nil hn hv hc=>exact .nil hn hv hc
 | full hv hb hg hk hl hc h0=>exact .full hv (Nat.lt_succ_of_lt hb) ((upd_get_ne (by omega)).trans hg) hk hl hc h0
 | gr hv hb hgb hg hl hf =>
  refine .gr hv (Nat.lt_succ_of_lt hb) hgb ((upd_get_ne (by omega)).trans hg) hl ?_
  intro b' c' T' e' l' hb'
  by_cases e1:b'=B.n
  ·subst e1
   rw [upd_get_same] at hb'
   cases hb'
   exact absurd rfl hne
  ·rw [upd_get_ne e1] at hb'
   exact hf b' c' T' e' l' hb'
theorem SR.cast {H:AHeap} {s m k:Nat} {v:Value} {c:List Value} (h:SR H s m v c) (e:m=k):SR H s k v c:=e ▸ h
theorem SR.offR {H:AHeap} {s n:Nat} {v:Value} {c:List Value} {b:Nat} {u:Value} {T:TypeId} (h:SR H s n v c) (hg:H.get b=.cells [u] T .ex) (hs:2≤s):n=0∨vblk v∉[b]:=by
 by_cases hn:n=0
 ·exact .inl hn
 ·right
  intro hm
  have hm:vblk v=b:=List.mem_singleton.1 hm
  rcases h.cells with q|⟨d,h1,h2,_⟩
  ·exact hn q
  ·rw [hm,rd_def,hg] at h1
   cases h1
   have:voff v + n * s≤1:=h2
   have:1 * 2≤n * s:=Nat.mul_le_mul (by omega) hs
   omega
end Go.Proofs.Swa
