/- Part 4 of a proof. -/
import Derived.Test.YtloabbaheifkgaaP03
import Derived.Below
set_option linter.unusedVariables false
set_option linter.unusedSimpArgs false
set_option linter.defProp false
namespace Go.Proofs.Swa
open Go
def one (v:Value):Prop:=notTup v=true∧v.cells = #[v]
theorem one_int {k:IntKind} {n:Int}:one (.int k n):=⟨rfl,rfl⟩
theorem one_bool {b:Bool}:one (.bool b):=⟨rfl,rfl⟩
theorem one_slice {a:Option Addr} {n c:Nat}:one (.slice a n c):=⟨rfl,rfl⟩
theorem one_ptr {a:Option Addr}:one (.pointer a):=⟨rfl,rfl⟩
theorem one_vptr {b o:Nat}:one (vptr b o):=⟨rfl,rfl⟩
theorem one_map {r:Option Nat}:one (.map r):=⟨rfl,rfl⟩
theorem one_func {f:Fn} {a c:Array Value}:one (.func f a c):=⟨rfl,rfl⟩
theorem one_string {s:ByteArray}:one (.string s):=⟨rfl,rfl⟩
theorem SR.one {H:AHeap} {s n:Nat} {v:Value} {c:List Value} (h:SR H s n v c):one v:=⟨h.nt,h.vcells⟩
theorem GS.one {H:AHeap} {s n:Nat} {v:Value} {c:List Value} {g:Option Nat} (h:GS H s n v c g):one v:=h.sr.one
def fillL (pl:List (Nat×Nat)) (cells:List Value) (parts:List (Nat×Value)):Option (List Value):=fillF (pl[·]?) cells parts
theorem fillL_nil {pl:List (Nat×Nat)} {cells:List Value}:fillL pl cells []=some cells:=rfl
theorem fillL_one {pl:List (Nat×Nat)} {cells:List Value} {i off:Nat} {v:Value} {rest:List (Nat×Value)} (hp:pl[i]? = some (off,1)) (hv:one v) (ho:off < cells.length) :
  fillL pl cells ((i,v) :: rest)=fillL pl (cells.set off v) rest:=by
 unfold fillL
 simp only [fillF,hp]
 rw [if_pos ⟨hv.1,by rw [hv.2];rfl,ho⟩]
 congr 1
 rw [hv.2,List.set_eq_take_append_cons_drop,if_pos ho]
 simp [splice]
theorem build_of {P:Program} {t:TypeId} {z:Value} {fs:Array Field} {pl:List (Nat×Nat)} {parts:List (Nat×Value)} (hz:tyZero P t=some z) (hd:dflat z=true) (hu:P.underlying t=some (.struct fs)) (hp:placesF P fs.toList=some pl) :
  buildA P t parts=(fillL pl z.cells.toList parts).map fun c=>.agg c.toArray:=by
 unfold buildA fillL
 simp only [hz,hu,hd,hp,if_true]
def elts (s:Nat):List (Nat×Value)→Option (List Value)
 | []=>some []
 | (_,v) :: rest=>if notTup v=true∧v.cells.size=s then (elts s rest).map (v.cells.toList ++ ·) else none
theorem fillS {s:Nat} (hs:0 < s):∀ (parts:List (Nat×Value)) (k:Nat) (a b l:List Value),(∀ j (h:j < parts.length),(parts[j]).1=k + j)→a.length=k * s→b.length=parts.length * s→elts s parts=some l →
  fillF (fun i=>some (i * s,s)) (a ++ b) parts=some (a ++ l)
 | [],k,a,b,l,_,ha,hb,he=>by
  have:b=[]:=by simpa using hb
  subst this
  cases he
  rfl
 | (i,v) :: rest,k,a,b,l,hi,ha,hb,he=>by
  have hi0:i=k:=hi 0 (by simp)
  subst hi0
  simp only [elts] at he
  split at he
  ·rename_i hv
   cases hr:elts s rest with
   | none=>rw [hr] at he;cases he
   | some r =>
    rw [hr] at he
    cases he
    have hb':b.length=s + rest.length * s:=by rw [hb,List.length_cons,Nat.add_mul];omega
    simp only [fillF]
    rw [if_pos ⟨hv.1,hv.2,by rw [List.length_append];omega⟩]
    have e1:splice (a ++ b) (i * s) v.cells.toList=(a ++ v.cells.toList) ++ b.drop s:=by
     have hvl:v.cells.toList.length=s:=by simpa using hv.2
     unfold splice
     rw [hvl,List.take_append_of_le_length (by omega),List.take_of_length_le (by omega),List.drop_append,List.drop_of_length_le (by omega)]
     simp [ha]
    rw [e1,fillS hs rest (i + 1) (a ++ v.cells.toList) (b.drop s) r ?_ ?_ ?_ hr,List.append_assoc]
    ·intro j hj
     have:=hi (j + 1) (by simpa using hj)
     simpa [Nat.add_assoc,Nat.add_comm 1 j] using this
    ·rw [List.length_append,ha,Nat.add_mul]
     simpa using hv.2
    ·rw [List.length_drop]
     omega
  ·cases he
theorem zeros_len {z:List Value} {s:Nat} (hz:z.length=s) (n:Nat):(zeros z n).length=n * s:=by
 unfold zeros
 have:∀ l:List Nat,(l.flatMap fun _=>z).length=l.length * s:=by
  intro l
  induction l with
  | nil=>simp
  | cons a l ih=>simp [List.flatMap_cons,hz,ih,Nat.add_mul];omega
 simpa using this (List.range n)
theorem buildSlice_of {P:Program} {t e:TypeId} {n s:Nat} {z:Value} {parts:List (Nat×Value)} {H:AHeap} {l:List Value} (hu:P.underlying t=some (.slice e)) (hs:tySize P e=some s) (hz:tyZero P e=some z) (hd:dflat z=true) (hzs:z.cells.size=s)
  (h0:0 < s) (hn:n * s≤2 ^ 24) (hi:parts.map (·.1)=List.range n) (he:elts s parts=some l) :
  buildSliceA P t n parts H=some (.slice (some ⟨H.n,0,none⟩) n n,H.upd (H.n + 1) H.n (.cells l e .ex)):=by
 have hlen:parts.length=n:=by simpa using congrArg List.length hi
 unfold buildSliceA
 simp only [hu,hs,hz]
 rw [if_pos ⟨hd,hzs,h0,hn⟩]
 have:=fillS h0 parts 0 [] (zeros z.cells.toList n) l (fun j hj=>by
  have h2:(parts.map (·.1))[j]? = (List.range n)[j]?:=by rw [hi]
  rw [List.getElem?_map,List.getElem?_eq_getElem hj,List.getElem?_range (by omega)] at h2
  simpa using h2) (by simp) (by rw [zeros_len (by simpa using hzs),hlen]) he
 simp only [List.nil_append] at this
 rw [this]
 rfl
theorem elts_nil {s:Nat}:elts s []=some []:=rfl
theorem elts_one {i:Nat} {v:Value} {rest:List (Nat×Value)} (hv:one v):elts 1 ((i,v) :: rest)=(elts 1 rest).map (v :: ·):=by
 conv=>lhs;unfold elts
 rw [if_pos ⟨hv.1,by rw [hv.2];rfl⟩,hv.2]
 rfl
theorem elts_agg {s i:Nat} {l:List Value} {rest:List (Nat×Value)} (hl:l.length=s):elts s ((i,.agg ⟨l⟩) :: rest)=(elts s rest).map (l ++ ·):=by
 conv=>lhs;unfold elts
 rw [if_pos ⟨rfl,by simpa [Value.cells] using hl⟩]
 rfl
theorem makeSlice_of {P:Program} {t e:TypeId} {s by_:Nat} {z:Value} {H:AHeap} {k k':IntKind} {n m:Int} (hu:P.underlying t=some (.slice e)) (hs:tySize P e=some s) (hz:tyZero P e=some z) (hb:tyBytes P e=some by_) (hd:dflat z=true) (hzs:z.cells.size=s)
  (h0:0 < s) (h1:0≤n) (h2:n≤m) (h3:m≤2 ^ 40) (h4:by_ * m≤2 ^ 40) :
  makeSliceA P t (.int k n) (.int k' m) H=some (.slice (some ⟨H.n,0,none⟩) n.toNat m.toNat,H.upd (H.n + 1) H.n (.cells (zeros z.cells.toList m.toNat) e .ex)):=by
 unfold makeSliceA
 simp only [hu,hs,hz,hb]
 rw [if_pos ⟨hd,hzs,h0,h1,h2,h3,h4⟩]
 rfl
theorem at1_def {c:List Value} {o:Nat}:at1 c o=c[o]?:=rfl
theorem srcA_of {H:AHeap} {s n:Nat} {x:Value} {c:List Value} (h:SR H s n x c):srcA H s x=some c:=by
 rcases h.shape with ⟨rfl,rfl⟩|⟨b,o,k,rfl,_⟩
 ·have:=h.len
  simp at this
  subst this
  rfl
 ·unfold srcA
  by_cases hn:n=0
  ·have:=h.len
   subst hn
   simp at this
   subst this
   rfl
  ·rcases h.cells with q|⟨d,h1,h2,h3⟩
   ·exact absurd q hn
   ·simp only [hn,if_false]
    have h1':H.rd b=some d:=h1
    have h2':o + n * s≤d.length:=h2
    simp only [h1',h2',if_true]
    exact congrArg some h3
theorem appendOp_of {P:Program} {t t1 e e1:TypeId} {s m:Nat} {H:AHeap} {v x:Value} {new:List Value} (hu:P.underlying t=some (.slice e)) (hu1:P.underlying t1=some (.slice e1)) (hs:tySize P e=some s) (S:SR H s m x new) :
  appendOp P #[t,t1] [v,x] H=appendA P t H v m new:=by
 unfold appendOp
 simp only [hu,hu1,hs]
 have:=srcA_of S
 rcases S.shape with ⟨rfl,rfl⟩|⟨b,o,k,rfl,_⟩ <;> simp only [this]
theorem append0 {P:Program} {t e:TypeId} {s by_ n:Nat} {z v:Value} {H:AHeap} {c new:List Value} {g:Option Nat} (hu:P.underlying t=some (.slice e)) (hs:tySize P e=some s) (hb:tyBytes P e=some by_) (hz:tyZero P e=some z) (hd:dflat z=true) (hzs:z.cells.size=s) (h0:0 < s)
  (G:GS H s n v c g) (hl:new.length=0):appendA P t H v 0 new=some (v,H):=by
 unfold appendA
 simp only [hu,hs,hb,hz]
 rw [if_pos ⟨hd,hzs,h0,by omega⟩]
 cases G with
 | nil hn hv hc=>subst hn hv hc;rfl
 | full hv hb' hg hk hl' hc h0'=>subst hv;simp
 | gr hv hb' hgb hg hl' hf=>subst hv;simp
theorem SR.new {H:AHeap} {s m:Nat} {l:List Value} {e:TypeId} (hl:l.length=m * s):SR (H.upd (H.n + 1) H.n (.cells l e .ex)) s m (.slice (some ⟨H.n,0,none⟩) m m) l:=by
 refine ⟨.inr ⟨_,_,_,rfl,Nat.le_refl _⟩,hl,.inr ⟨l, ?_, ?_, ?_⟩,.inr ?_⟩
 ·simp only [vblk,upd_rd_same,rdO_ex]
 ·simp only [voff];omega
 ·simp only [voff,List.drop_zero,← hl,List.take_length]
 ·simp only [vblk,upd_n];omega
theorem GS.new {H:AHeap} {s m:Nat} {l:List Value} {e:TypeId} (hl:l.length=m * s):GS (H.upd (H.n + 1) H.n (.cells l e .ex)) s m (.slice (some ⟨H.n,0,none⟩) m m) l none :=
 .full rfl (Nat.lt_succ_self _) upd_get_same (.inl rfl) (by omega) (by simp [← hl]) fun _=>rfl
theorem GS.nul {H:AHeap} {s:Nat}:GS H s 0 (.slice none 0 0) [] none:=.nil rfl rfl rfl
theorem Fr.ex {H:AHeap} {N:Nat} {X:List Nat} {c:List Value} {T:TypeId}:Fr N X H (H.upd (H.n + 1) H.n (.cells c T .ex)):=(Fr.refl H).upd (Nat.le_succ _) (Nat.lt_succ_self _) (.inl (Nat.le_refl _)) trivial
theorem GS.ex {H:AHeap} {s n:Nat} {v:Value} {c c':List Value} {T:TypeId} {g:Option Nat} (G:GS H s n v c g):GS (H.upd (H.n + 1) H.n (.cells c' T .ex)) s n v c g:=G.fr0 Fr.ex
theorem SR.ex {H:AHeap} {s n:Nat} {v:Value} {c c':List Value} {T:TypeId} (G:SR H s n v c):SR (H.upd (H.n + 1) H.n (.cells c' T .ex)) s n v c:=G.fr0 (N:=0) Fr.ex
theorem conv_int {P:Program} {s d:TypeId} {x:TypeDesc} {k k':IntKind} {a:Int} (hs:P.underlying s=some x) (hd:P.underlying d=some (.int k')):convA P s d (.int k a)=some (.int k' (k'.wrap a)):=by
 have:pr P (convert s d (.int k a))=some (.int k' (k'.wrap a)):=by
  simp only [convert,pr_bind',underlying,pr_program,Option.bind_some,hs,hd,pr_pure]
  cases x <;> rfl
 simp only [convA,dflat,flat,if_true,this,keep]
theorem nilCheck_ptr {b o:Nat}:nilCheckA (vptr b o)=some (vptr b o):=rfl
theorem nilCheck_fn {f:FuncId} {a c:Array Value}:nilCheckA (.func (.func f) a c)=some (.func (.func f) a c):=rfl
theorem extract_tup {l:List Value} {i:Nat}:extractA (.tuple ⟨l⟩) i=l[i]?:=by simp [extractA]
theorem mE {x:Env}:tok x=x:=rfl
theorem mO {x:Option Value}:tok x=x:=rfl
theorem mB {x:Option (Value×AHeap)}:tok x=x:=rfl
theorem mH {x:Option AHeap}:tok x=x:=rfl
theorem mBind {x:List Value} {f:List Value→Option Value}:(some x).bind f=f x:=rfl
theorem mBindV {x:Value} {f:Value→Option Value}:(some x).bind f=f x:=rfl
theorem mMapV {x:Value} {f:Value→Value}:(some x).map f=some (f x):=rfl
theorem mMapL {x:List Value} {f:List Value→Value}:(some x).map f=some (f x):=rfl
theorem mGet0 {a:Value} {l:List Value}:(a :: l)[0]? = some a:=rfl
theorem mGetS {a:Value} {l:List Value} {i:Nat}:(a :: l)[i + 1]? = l[i]?:=rfl
theorem mGetA {l:List Value} {i:Nat}:l.toArray[i]? = l[i]?:=by simp
theorem mGetM {l:List Value} {i:Nat}:(Array.mk l)[i]? = l[i]?:=by simp
theorem mMapA {l:List Operand} {f:Operand→Value}:l.toArray.map f=(l.map f).toArray:=by simp
theorem mMapC {a:Operand} {l:List Operand} {f:Operand→Value}:(a :: l).map f=f a :: l.map f:=rfl
theorem mMapN {f:Operand→Value}:([]:List Operand).map f=[]:=rfl
theorem mMapPC {a:Nat×Operand} {l:List (Nat×Operand)} {f:Nat×Operand→Nat×Value}:(a :: l).map f=f a :: l.map f:=rfl
theorem mMapPN {f:Nat×Operand→Nat×Value}:([]:List (Nat×Operand)).map f=[]:=rfl
theorem mTL {l:List Value}:l.toArray.toList=l:=rfl
theorem mTLO {l:List Operand}:l.toArray.toList=l:=rfl
theorem mTLP {l:List (Nat×Operand)}:l.toArray.toList=l:=rfl
theorem mAE {a:Array Value}:#[] ++ a=a:=by simp
theorem mEA {a:Array Value}:a ++ #[]=a:=by simp
theorem mAA {a b:List Value}:a.toArray ++ b.toArray=(a ++ b).toArray:=by simp
theorem mLenC {a:Value} {l:List Value}:(a :: l).length=l.length + 1:=rfl
theorem mLenN:([]:List Value).length=0:=rfl
theorem mSet0 {a b:Value} {l:List Value}:(a :: l).set 0 b=b :: l:=rfl
theorem mSetS {a b:Value} {l:List Value} {i:Nat}:(a :: l).set (i + 1) b=a :: l.set i b:=rfl
def xorI (k:IntKind) (a b:Int):Int:=k.wrap (BitVec.ofInt k.bits a ^^^ BitVec.ofInt k.bits b).toNat
def shlI (k:IntKind) (a b:Int):Int:=k.wrap (a * 2 ^ (min b.toNat k.bits))
def shrI (k:IntKind) (a b:Int):Int:=a.fdiv (2 ^ (min b.toNat k.bits))
theorem bop_xorI {P:Program} {t:TypeId} {x y:Operand} {k:IntKind} {a b:Int}:bopA P .xor t x y (.int k a) (.int k b)=some (.int k (xorI k a b)):=bop_xor
theorem bop_shlI {P:Program} {t:TypeId} {x y:Operand} {k k':IntKind} {a b:Int} (h:0≤b):bopA P .shl t x y (.int k a) (.int k' b)=some (.int k (shlI k a b)):=bop_shl h
theorem bop_shrI {P:Program} {t:TypeId} {x y:Operand} {k k':IntKind} {a b:Int} (h:0≤b):bopA P .shr t x y (.int k a) (.int k' b)=some (.int k (shrI k a b)):=bop_shr h
theorem bits_u64:IntKind.u64.bits=64:=rfl
theorem bits_i64:IntKind.i64.bits=64:=rfl
theorem bits_u8:IntKind.u8.bits=8:=rfl
theorem bits_i32:IntKind.i32.bits=32:=rfl
theorem mSome {a b:Bool}:(some a=some b)=(a=b):=by simp
def pb:=(And.intro (And.intro (And.intro (And.intro (And.intro @WO_move @WO_assign) (And.intro @WO_alloc @WO_box)) (And.intro (And.intro @WO_build @WO_buildSlice) (And.intro @WO_load @WO_store))) (And.intro (And.intro (And.intro @WO_nilCheck @WO_makeFunc) (And.intro @WO_makeSlice @WO_slice)) (And.intro (And.intro @WO_fieldAddr @WO_field) (And.intro @WO_indexAddr @WO_index)))) (And.intro (And.intro (And.intro (And.intro @WO_extract @WO_makeMap) (And.intro @WO_lookup @WO_mapUpdate)) (And.intro (And.intro @WO_next @WO_append) (And.intro @WO_binOp @WO_unOp))) (And.intro (And.intro (And.intro @WO_convert @WO_pick) (And.intro @WO_len @WO_cap)) (And.intro (And.intro @WO_range @WO_min) (And.intro @WO_max @WO_nil)))))
def pd:=(And.intro (And.intro (And.intro (And.intro @WD_move (And.intro @WD_assign @WD_build)) (And.intro (And.intro @WD_nilCheck @WD_makeFunc) (And.intro @WD_fieldAddr @WD_field))) (And.intro (And.intro (And.intro @WD_indexAddr @WD_index) (And.intro @WD_extract @WD_binOp)) (And.intro (And.intro @WD_unOp @WD_convert) (And.intro @WD_pick @WD_min)))) (And.intro (And.intro (And.intro @WD_max (And.intro @WD_load @WD_lenS)) (And.intro (And.intro @WD_alloc @WD_box) (And.intro @WD_buildSlice @WD_makeSlice))) (And.intro (And.intro (And.intro @WD_slice @WD_lookup) (And.intro @WD_makeMap @WD_store)) (And.intro (And.intro @WD_mapUpdate @WD_append) (And.intro @WD_call @WD_nil)))))
def qb:=(And.intro (And.intro (And.intro (And.intro (And.intro (And.intro @one_int (And.intro @one_bool @one_slice)) (And.intro @one_ptr (And.intro @one_vptr @one_map))) (And.intro (And.intro @one_func (And.intro @one_string @fillL_nil)) (And.intro (And.intro @oV_some @oB_some) (And.intro @oH_some @asB_bool)))) (And.intro (And.intro (And.intro @ev_tmp (And.intro @ev_const @ev_func)) (And.intro (And.intro @set_some @set_none) (And.intro @put_eq @alloc_upd))) (And.intro (And.intro @put_upd (And.intro @upd_n @upd_upd)) (And.intro (And.intro @upd_get_same @upd_rd_same) (And.intro @rdO_ex @rdO_ro))))) (And.intro (And.intro (And.intro (And.intro @rdO_gr (And.intro @at1_def @box_of)) (And.intro @cells_int (And.intro @cells_bool @cells_agg))) (And.intro (And.intro @cells_slice (And.intro @cells_ptr @cells_map)) (And.intro (And.intro @cells_func @cells_string) (And.intro @nt_int @nt_bool)))) (And.intro (And.intro (And.intro @nt_agg (And.intro @nt_slice @nt_ptr)) (And.intro (And.intro @nt_map @nt_func) (And.intro @nt_string @bop_add))) (And.intro (And.intro @bop_sub (And.intro @bop_mul @bop_xorI)) (And.intro (And.intro @bop_lss @bop_leq) (And.intro @bop_gtr @bop_geq)))))) (And.intro (And.intro (And.intro (And.intro (And.intro @bop_eql (And.intro @bop_neq @uop_neg)) (And.intro @uop_not (And.intro @mm_min @mm_max))) (And.intro (And.intro @argEnv0 (And.intro @argEnvS @callV_fn)) (And.intro (And.intro @callV_yield @nilCheck_ptr) (And.intro @nilCheck_fn @extract_tup)))) (And.intro (And.intro (And.intro @mE (And.intro @mO @mB)) (And.intro (And.intro @mH @mBind) (And.intro @mBindV @mMapV))) (And.intro (And.intro @mMapL (And.intro @mGet0 @mGetS)) (And.intro (And.intro @mGetA @mGetM) (And.intro @mMapA @mMapC))))) (And.intro (And.intro (And.intro (And.intro @mMapN (And.intro @mMapPC @mMapPN)) (And.intro @mTL (And.intro @mTLO @mTLP))) (And.intro (And.intro @mAE (And.intro @mEA @mAA)) (And.intro (And.intro @mSet0 @mSetS) (And.intro @bits_u64 @bits_i64)))) (And.intro (And.intro (And.intro @bits_u8 (And.intro @bits_i32 @mSome)) (And.intro (And.intro @Nat.add_zero @Nat.zero_add) (And.intro @Int.toNat_natCast @Bool.false_eq_true))) (And.intro (And.intro @Bool.true_eq_false (And.intro @Bool.not_true @Bool.not_false)) (And.intro (And.intro @decide_true @decide_false) (And.intro @not_true_eq_false @not_false_eq_true)))))))
def qd:=(And.intro (And.intro (And.intro @mapB_slice (And.intro @mapB_string @mapB_map)) (And.intro (And.intro @blkOf_ptr @blkOf_slice) (And.intro @blkOf_nil @blkOf_map))) (And.intro (And.intro (And.intro @oblO_none @oblO_nil) (And.intro @oblO_some @oblA_nil)) (And.intro (And.intro @oblR_nil @rdO_some) (And.intro @rdO_none @true_and))))
def qc:=(And.intro (And.intro (And.intro (And.intro (And.intro (And.intro @one_int (And.intro @one_bool @one_slice)) (And.intro @one_ptr (And.intro @one_vptr @one_map))) (And.intro (And.intro @one_func (And.intro @one_string @upd_n)) (And.intro @upd_upd (And.intro @upd_get_same @upd_rd_same)))) (And.intro (And.intro (And.intro @rdO_ex (And.intro @rdO_ro @rdO_gr)) (And.intro @at1_def (And.intro @stG_agg @stG_int))) (And.intro (And.intro @stG_bool (And.intro @stG_slice @stG_ptr)) (And.intro @stG_func (And.intro @stG_map @stG_string))))) (And.intro (And.intro (And.intro (And.intro @atN_all (And.intro @cells_int @cells_bool)) (And.intro @cells_agg (And.intro @cells_slice @cells_ptr))) (And.intro (And.intro @cells_map (And.intro @cells_func @cells_string)) (And.intro @nt_int (And.intro @nt_bool @nt_agg)))) (And.intro (And.intro (And.intro @nt_slice (And.intro @nt_ptr @nt_map)) (And.intro @nt_func (And.intro @nt_string @bop_quo))) (And.intro (And.intro @bop_rem (And.intro @bop_shlI @bop_shrI)) (And.intro @bop_add (And.intro @bop_sub @bop_mul)))))) (And.intro (And.intro (And.intro (And.intro (And.intro @bop_xorI (And.intro @bop_lss @bop_leq)) (And.intro @bop_gtr (And.intro @bop_geq @bop_eql))) (And.intro (And.intro @bop_neq (And.intro @mE @mO)) (And.intro @mB (And.intro @mH @mBind)))) (And.intro (And.intro (And.intro @mBindV (And.intro @mMapV @mMapL)) (And.intro @mGet0 (And.intro @mGetS @mGetA))) (And.intro (And.intro @mGetM (And.intro @mMapA @mMapC)) (And.intro @mMapN (And.intro @mMapPC @mMapPN))))) (And.intro (And.intro (And.intro (And.intro @mTL (And.intro @mTLO @mTLP)) (And.intro @mAE (And.intro @mEA @mAA))) (And.intro (And.intro @mSet0 (And.intro @mSetS @bits_u64)) (And.intro @bits_i64 (And.intro @bits_u8 @bits_i32)))) (And.intro (And.intro (And.intro @mSome (And.intro @Nat.add_zero @Nat.zero_add)) (And.intro @Int.toNat_natCast (And.intro @Bool.false_eq_true @Bool.true_eq_false))) (And.intro (And.intro @Bool.not_true (And.intro @Bool.not_false @decide_true)) (And.intro @decide_false (And.intro @not_true_eq_false @not_false_eq_true)))))))
def AHeap.jn (H G:AHeap):AHeap:=⟨G.n,fun b=>if b < H.n then H.get b else G.get b⟩
structure Jn (H G:AHeap):Prop where
 n:H.n≤G.n
 grp:∀ b c T g e l,H.n≤b→G.get b=.cells c T (.gr g e l)→H.n≤g∧g≤b
 top:∀ b,G.n≤b→G.get b=.dead
theorem jn_n {H G:AHeap}:(H.jn G).n=G.n:=rfl
theorem jn_get {H G:AHeap} {b:Nat} (h:b < H.n):(H.jn G).get b=H.get b:=by simp [AHeap.jn,h]
theorem jn_rd {H G:AHeap} {b:Nat} (h:b < H.n):(H.jn G).rd b=H.rd b:=by rw [rd_def,rd_def,jn_get h]
theorem jn_get_ge {H G:AHeap} {b:Nat} (h:H.n≤b):(H.jn G).get b=G.get b:=by simp [AHeap.jn,Nat.not_lt.2 h]
theorem Fr.jn {N:Nat} {X:List Nat} {A B G:AHeap} (h:Fr N X A B) (k:Jn B G) (hN:N≤B.n):Fr N X A (B.jn G) where
 n:=Nat.le_trans h.n k.n
 old b hb hX:=(jn_get (Nat.lt_of_lt_of_le hb h.n)).trans (h.old b hb hX)
 grp b c T g e l hg hl:=by
  by_cases hb:b < B.n
  ·rw [jn_get hb] at hg ⊢
   exact h.grp b c T g e l hg hl
  ·rw [jn_get_ge (by omega)] at hg
   have:=(k.grp b c T g e l (by omega) hg).1
   omega
 top ht:=by
  have ht:=h.top ht
  refine ⟨fun b hb=>?_,fun b=>?_⟩
  ·have hb:G.n≤b:=hb
   have:=k.n
   rw [jn_get_ge (by omega)]
   exact k.top b hb
  ·by_cases hb:b < B.n
   ·rw [jn_get hb]
    exact ht.2 b
   ·rw [jn_get_ge (by omega)]
    intro c T g e l hg
    exact (k.grp b c T g e l (by omega) hg).2
theorem Fr.to_jn {H H':AHeap} (h:Fr H.n [] H H') (ht:Top H):H'=H.jn H'∧Jn H H':=by
 have ht':=h.top ht
 constructor
 ·show (⟨H'.n,H'.get⟩:AHeap)=⟨H'.n,_⟩
  congr 1
  funext b
  split
  ·exact h.old b ‹_› (by simp)
  ·rfl
 ·refine ⟨h.n,fun b c T g e l hb hg=>⟨?_,ht'.2 b _ _ _ _ _ hg⟩,ht'.1⟩
  by_cases hh:g < H.n
  ·have:=h.grp b c T g e l hg hh
   rw [ht.1 b hb,hg] at this
   cases this
  ·omega
section
variable {P:Program} {C:CallRel} {ops:Array Oper} {os:List Oper} {K:Env→AHeap→Prop} {env:Env} {H:AHeap} {dst:Option Tmp} {ty:TypeId} {pos:String} {aft:Array Edge}
theorem WO_callF {f:Operand} {args:Array Operand} {ts:Array TypeId} {R:Value→AHeap→Prop} (ht:Top H) (h:∃ v H',callV C (ev env f) (args.map (ev env)) H v H'∧R v H'∧Fr H.n [] H H')
  (k:∀ v G,H.n≤G.n→Jn H G→R v (H.jn G)→WO P C ops os K (env.set dst v) (H.jn G)):WO P C ops (⟨dst,.call ⟨.value f,args,ts⟩,ty,pos,aft,none⟩ :: os) K env H:=by
 obtain ⟨v,H1,h1,h2,h3⟩:=h
 obtain ⟨e,hj⟩:=h3.to_jn ht
 have:=k v H1 hj.n hj
 rw [← e] at this
 exact WO_call h1 (this h2)
theorem WO_callE {f:Operand} {args:Array Operand} {ts:Array TypeId} {v0:Value} {H0:AHeap} (h:∃ v H',callV C (ev env f) (args.map (ev env)) H v H'∧v=v0∧H'=H0) (k:WO P C ops os K (env.set dst v0) H0) :
  WO P C ops (⟨dst,.call ⟨.value f,args,ts⟩,ty,pos,aft,none⟩ :: os) K env H:=by
 obtain ⟨v,H1,h1,rfl,rfl⟩:=h
 exact WO_call h1 k
theorem WO_callV {f:Operand} {args:Array Operand} {ts:Array TypeId} {v0:Value} (ht:Top H) (h:∃ v H',callV C (ev env f) (args.map (ev env)) H v H'∧v=v0∧Fr H.n [] H H')
  (k:∀ G,H.n≤G.n→Jn H G→WO P C ops os K (env.set dst v0) (H.jn G)):WO P C ops (⟨dst,.call ⟨.value f,args,ts⟩,ty,pos,aft,none⟩ :: os) K env H:=by
 obtain ⟨v,H1,h1,rfl,h3⟩:=h
 obtain ⟨e,hj⟩:=h3.to_jn ht
 have:=k H1 hj.n hj
 rw [← e] at this
 exact WO_call h1 this
theorem WO_callX {f:Operand} {args:Array Operand} {ts:Array TypeId} {R:Value→AHeap→Prop} {X:List Nat} (h:∃ v H',callV C (ev env f) (args.map (ev env)) H v H'∧R v H'∧Fr H.n X H H')
  (k:∀ v H',R v H'→Fr H.n X H H'→WO P C ops os K (env.set dst v) H'):WO P C ops (⟨dst,.call ⟨.value f,args,ts⟩,ty,pos,aft,none⟩ :: os) K env H:=by
 obtain ⟨v,H1,h1,h2,h3⟩:=h
 exact WO_call h1 (k v H1 h2 h3)
end
theorem Top.upd {H:AHeap} (ht:Top H) {n b:Nat} {o:AObj} (hn:H.n≤n) (hb:b < n) (ho:grOk 0 b o):Top (H.upd n b o):=by
 refine ⟨fun c hc=>?_,fun c=>?_⟩
 ·have hc:n≤c:=hc
  rw [upd_get_ne (by omega)]
  exact ht.1 c (by omega)
 ·by_cases e1:c=b
  ·subst e1
   rw [upd_get_same]
   intro d T g e l hg
   subst hg
   exact ho.2
  ·rw [upd_get_ne e1]
   exact ht.2 c
theorem Top.jn {H G:AHeap} (ht:Top H) (k:Jn H G):Top (H.jn G):=(Fr.jn (N:=0) (X:=[]) (Fr.refl H) k (Nat.zero_le _)).top ht
theorem GS.jn {H G:AHeap} (k:Jn H G) {s n:Nat} {v:Value} {c:List Value} {g:Option Nat} (h:GS H s n v c g):GS (H.jn G) s n v c g:=h.fr0 (Fr.jn (Fr.refl H) k (Nat.le_refl _))
theorem SR.el {α:Type} [Inhabited α] {enc:α→List Value} {H:AHeap} {s n:Nat} {v:Value} {l:List α} (h:SR H s n v (l.flatMap enc)) (he:∀ a,(enc a).length=s) (hn:n=l.length) :
  (∀ i k,i < n→k < s→(dOf H v)[voff v + i * s + k]? = (enc (l.getD i default))[k]?)∧(∀ i,i < n→0 < s→(dOf H v)[voff v + i * s]? = (enc (l.getD i default))[0]?) ∧
  (∀ i,i < n→Swa.atN (dOf H v) (voff v + i * s) s=some (.agg ⟨enc (l.getD i default)⟩))∧(∀ i k z,i < n→k + z≤s→Swa.atN (dOf H v) (voff v + i * s + k) z=some (.agg ⟨((enc (l.getD i default)).drop k).take z⟩)):=by
 subst hn
 have hb:∀ i,i < l.length→i * s + s≤l.length * s:=fun i hi=>by
  have:(i + 1) * s≤l.length * s:=Nat.mul_le_mul_right _ hi
  rw [Nat.add_mul] at this;omega
 refine ⟨fun i k hi hk=>?_,fun i hi h0=>?_,fun i hi=>?_,fun i k z hi hk=>?_⟩
 ·rw [Nat.add_assoc,← at1_def,h.at (j:=i * s + k) (by have:=hb i hi;omega)]
  exact flat_at he hi hk
 ·rw [← at1_def,h.at (j:=i * s) (by have:=hb i hi;omega)]
  exact flat_at (k:=0) he hi h0
 ·rw [h.atN (j:=i * s) (z:=s) (hb i hi) (by omega),flat_all he hi]
 ·rw [Nat.add_assoc,h.atN (j:=i * s + k) (z:=z) (by have:=hb i hi;omega) (by omega),flat_part he hi hk]
theorem SR.el1 {α:Type} [Inhabited α] {enc:α→Value} {H:AHeap} {n:Nat} {v:Value} {l:List α} (h:SR H 1 n v (l.map enc)) (hn:n=l.length) :
  (∀ i,i < n→(dOf H v)[voff v + i * 1]? = some (enc (l.getD i default)))∧(∀ i,i < n→(dOf H v)[voff v + i]? = some (enc (l.getD i default))):=by
 subst hn
 have:∀ i,i < l.length→Swa.at1 (dOf H v) (voff v + i)=some (enc (l.getD i default)):=fun i hi=>by
  rw [h.at (j:=i) (by omega)]
  simp [hi]
 exact ⟨fun i hi=>by rw [Nat.mul_one,← at1_def];exact this i hi,fun i hi=>by rw [← at1_def];exact this i hi⟩
theorem oblO_and {ops:Array Oper} {k:Nat} {o:Option Nat} {as:List (Nat×AHeap×AHeap)} {p:Prop} (h:oblO ops k o as) (q:p):oblO ops k o as∧p:=⟨h,q⟩
theorem oblA_and {ops:Array Oper} {k b:Nat} {as:List (Nat×AHeap×AHeap)} {p:Prop} (h:oblA ops k b as) (q:p):oblA ops k b as∧p:=⟨h,q⟩
theorem oblR_and {ops:Array Oper} {k:Nat} {H H':AHeap} {as:List (Nat×Nat)} {p:Prop} (h:oblR ops k H H' as) (q:p):oblR ops k H H' as∧p:=⟨h,q⟩
def qe:=And.intro (And.intro @jn_n @jn_get) (And.intro @jn_rd (And.intro @upd_rd_ne @upd_get_ne))
end Go.Proofs.Swa
set_option linter.unusedVariables false
set_option linter.unusedSimpArgs false
namespace Go.Proofs.Swa
open Go
section
variable {P:Program} {C:CallRel} {ng nt:Nat}
theorem W_count {b:Code} {env:Env} {H:AHeap} {Q:Post} (L:List Nat) (hL:(L.all fun t=>!wr b t)=true) (t len N:Nat) (X X0:List Nat) (J:Nat→Env→AHeap→Prop)
  (h0:env t=.int .i64 0) (hT:Top H) {H0:AHeap} (F0:Fr N X0 H0 H) (hX:∀ b,b∈X→b < H0.n→b∈X0) (hJ:J 0 env H)
  (hI:∀ i e h,i≤len→(∀ t,t∈L→e t=env t)→e t=.int .i64 i→Fr N X H h→Fr N X0 H0 h→Top h→J i e h→W P C ng nt b e h fun x e' h'=>match x with
   | .normal=>i < len∧e' t=.int .i64 (i + 1:Nat)∧Fr N X H h'∧J (i + 1) e' h'
   | .exit i=>Q (.exit i) e' h'
   | .ret=>Q .ret e' h'):W P C ng nt (.loop b) env H Q:=by
 refine W_loopF L hL (fun n e h=>∃ i:Nat,i≤len∧n=len - i∧e t=.int .i64 i∧Fr N X H h∧J i e h) len ⟨0,Nat.zero_le _,by omega,h0,Fr.refl _,hJ⟩ ?_
 rintro n e h hE ⟨i,hi,rfl,ht,hF,hJ⟩
 obtain ⟨x,e',h',r,q⟩:=hI i e h hi hE ht hF (F0.trans' hF (Nat.le_refl _) hX) (hF.top hT) hJ
 refine ⟨x,e',h',r, ?_⟩
 cases x with
 | normal=>obtain ⟨q1,q2,q3,q4⟩:=q;exact ⟨len - (i + 1),by omega,i + 1,by omega,rfl,q2,q3,q4⟩
 | exit i=>exact q
 | ret=>exact q
theorem W_while {σ:Type} {b:Code} {env:Env} {H:AHeap} {Q:Post} (L:List Nat) (hL:(L.all fun t=>!wr b t)=true) (N:Nat) (X X0:List Nat) (J:σ→Env→AHeap→Prop) (mu:σ→Nat)
  (s0:σ) (hT:Top H) {H0:AHeap} (F0:Fr N X0 H0 H) (hX:∀ b,b∈X→b < H0.n→b∈X0) (hJ:J s0 env H)
  (hI:∀ s e h,(∀ t,t∈L→e t=env t)→Fr N X H h→Fr N X0 H0 h→Top h→J s e h→W P C ng nt b e h fun x e' h'=>match x with
   | .normal=>∃ s',mu s' < mu s∧Fr N X H h'∧J s' e' h'
   | .exit i=>Q (.exit i) e' h'
   | .ret=>Q .ret e' h'):W P C ng nt (.loop b) env H Q:=by
 refine W_loopF L hL (fun n e h=>∃ s,n=mu s∧Fr N X H h∧J s e h) (mu s0) ⟨s0,rfl,Fr.refl _,hJ⟩ ?_
 rintro n e h hE ⟨s,rfl,hF,hJ⟩
 obtain ⟨x,e',h',r,q⟩:=hI s e h hE hF (F0.trans' hF (Nat.le_refl _) hX) (hF.top hT) hJ
 refine ⟨x,e',h',r, ?_⟩
 cases x with
 | normal=>obtain ⟨s',q1,q2,q3⟩:=q;exact ⟨mu s',q1,s',rfl,q2,q3⟩
 | exit i=>exact q
 | ret=>exact q
end
theorem blockK_exit {id:Nat} {Q:Post} {e:Env} {h:AHeap} (k:Q .normal e h):blockK id Q (.exit id) e h:=by
 show if id=id then Q .normal e h else Q (.exit id) e h
 rw [if_pos rfl];exact k
theorem blockK_pass {id i:Nat} {Q:Post} {e:Env} {h:AHeap} (hi:i≠id) (k:Q (.exit i) e h):blockK id Q (.exit i) e h:=by
 show if i=id then Q .normal e h else Q (.exit i) e h
 rw [if_neg hi];exact k
theorem drop_getD {α:Type} [Inhabited α] {l:List α} {i:Nat} (h:i < l.length):l.drop i=l.getD i default :: l.drop (i + 1):=by
 rw [List.drop_eq_getElem_cons h]
 simp [List.getD,h]
theorem take_getD {α:Type} [Inhabited α] {l:List α} {i:Nat} (h:i < l.length):l.take (i + 1)=l.take i ++ [l.getD i default]:=by
 rw [List.take_succ_eq_append_getElem h]
 simp [List.getD,h]
theorem w64_lt (x:Int):IntKind.i64.wrap x < 9223372036854775808:=by
 show (if (true && decide (x % (2 ^ 64:Int) ≥ (2 ^ 63:Int)))=true then x % (2 ^ 64:Int) - (2 ^ 64:Int) else x % (2 ^ 64:Int)) < _
 simp only [Bool.true_and,decide_eq_true_eq]
 split <;> omega
theorem forallL {P:Nat→Prop}:(∀ t,t∈([]:List Nat)→P t)=True:=by simp
theorem forallC {P:Nat→Prop} {a:Nat} {l:List Nat}:(∀ t,t∈a :: l→P t)=(P a∧∀ t,t∈l→P t):=by simp
theorem inc64 {i:Nat} (h:i < 9223372036854775807):IntKind.i64.wrap ((i:Int) + 1)=((i + 1:Nat):Int):=by
 rw [wrap64 (by omega) (by omega)];rfl
section
variable {P:Program} {C:CallRel} {Or:OrRel} {ng nt:Nat}
theorem W_range {f:Operand} {ps:Array Tmp} {asg body:Code} {env:Env} {H:AHeap} {Q:Post}
  (h:∃ v H1,callV C (ev env f) #[.func (.yield H.n) #[] #[]] (H.upd (H.n + 1) H.n (.loop nt env ps asg body .ready none)) v H1 ∧
   H1.get H.n=.loop nt env ps asg body .ready none∧Q .normal env (H1.upd H1.n H.n (.loop nt env ps asg body .exhausted none))):W P C ng nt (.rangeFunc f ps asg body) env H Q:=by
 obtain ⟨v,H1,h1,h2,h3⟩:=h
 exact ⟨_,_,_,.range h1 h2 (by simp) (ex:=.normal) rfl,h3⟩
theorem round_W {l:Nat} {args:Array Value} {h:AHeap} {env:Env} {ps:Array Tmp} {asg body:Code} {R:AHeap→Prop}
  (h0:h.get l=.loop nt env ps asg body .ready none) (hs:args.size=ps.size) (hp:(ps.all fun t=>decide (t < nt))=true) (o1:codeOk ng nt asg=true) (o2:codeOk ng nt body=true) (o3:noRange asg=true) (o4:noRange body=true)
  (hr:W P (Cl P Or ng) ng nt asg (roundEnv ps args env) h fun x e1 h1=>x=.normal∧h1.get l=.loop nt env ps asg body .ready none ∧
   W P (Cl P Or ng) ng nt body e1 (h1.upd h1.n l (.loop nt env ps asg body .busy none)) fun x e2 h2=>x=.normal∧h2.get l=.loop nt env ps asg body .busy none∧R (h2.upd h2.n l (.loop nt env ps asg body .ready none))) :
  ∃ H',Cl P Or ng (.yield l) args h (.bool true) H'∧R H':=by
 obtain ⟨x,e1,h1,r1,rfl,g1,x2,e2,h2,r2,rfl,g2,q⟩:=hr
 exact ⟨_,Cl.round h0 hs hp o1 o2 o3 o4 r1 g1 r2 g2,q⟩
end
theorem roundEnv2 {a b:Nat} {x y:Value} {env:Env}:roundEnv #[a,b] #[x,y] env=(env.put a x).put b y:=rfl
theorem mLenA {a b:List Value}:(a ++ b).length=a.length + b.length:=List.length_append
section
variable {P:Program} {C:CallRel} {Or:OrRel} {ng nt:Nat}
theorem W_range2 {f:Operand} {ps:Array Tmp} {asg body:Code} {env:Env} {H:AHeap} {Q:Post}
  (h:∀ LO,LO=AObj.loop nt env ps asg body .ready none→(∀ N b,grOk N b LO)→∃ v H1,callV C (ev env f) #[.func (.yield H.n) #[] #[]] (H.upd (H.n + 1) H.n LO) v H1 ∧
   H1.get H.n=LO∧∀ LX,(∀ N b,grOk N b LX)→Q .normal env (H1.upd H1.n H.n LX)):W P C ng nt (.rangeFunc f ps asg body) env H Q:=by
 obtain ⟨v,H1,h1,h2,h3⟩:=h _ rfl fun _ _=>trivial
 exact W_range ⟨v,H1,h1,h2,h3 _ fun _ _=>trivial⟩
theorem round_W2 {l:Nat} {args:Array Value} {h:AHeap} {env:Env} {ps:Array Tmp} {asg body:Code} {R:AHeap→Prop} {LO:AObj} (hLO:LO=AObj.loop nt env ps asg body .ready none)
  (h0:h.get l=LO) (hs:args.size=ps.size) (hp:(ps.all fun t=>decide (t < nt))=true) (o1:codeOk ng nt asg=true) (o2:codeOk ng nt body=true) (o3:noRange asg=true) (o4:noRange body=true)
  (hr:W P (Cl P Or ng) ng nt asg (roundEnv ps args env) h fun x e1 h1=>x=.normal∧h1.get l=LO∧∀ LB,(∀ N b,grOk N b LB) →
   W P (Cl P Or ng) ng nt body e1 (h1.upd h1.n l LB) fun x e2 h2=>x=.normal∧h2.get l=LB∧R (h2.upd h2.n l LO)) :
  ∃ H',Cl P Or ng (.yield l) args h (.bool true) H'∧R H':=by
 subst hLO
 refine round_W h0 hs hp o1 o2 o3 o4 (W_mono hr ?_)
 rintro x e h1 ⟨q1,q2,q3⟩
 exact ⟨q1,q2,q3 _ fun _ _=>trivial⟩
end
theorem W_regionL {P:Program} {C:CallRel} {ng nt:Nat} {id:Nat} {l:List Oper} {env:Env} {H:AHeap} {Q:Post} (L:List Nat) (h:∀ K:Env→AHeap→Prop,(∀ e h,(∀ e',(∀ t,t∈L→e' t=e t)→Q .normal e' h)→K e h)→WO P C ⟨l⟩ l K env H):W P C ng nt (.region id ⟨l⟩ false) env H Q :=
 W_region fun K hK=>h K fun e h k=>hK e h (k e fun _ _=>rfl)
theorem W_drawnL {P:Program} {C:CallRel} {ng nt:Nat} {id:Nat} {l:List Oper} {env:Env} {H:AHeap} {Q:Post} (L:List Nat) (h:∀ K:Env→AHeap→Prop,(∀ e h,(∀ e',(∀ t,t∈L→e' t=e t)→Q .normal e' h)→K e h)→WD P C ⟨l⟩ l 0 [] [] K env H):W P C ng nt (.region id ⟨l⟩ true) env H Q :=
 W_drawn fun K hK=>h K fun e h k=>hK e h (k e fun _ _=>rfl)
theorem gcW {P:Program} {C:CallRel} {ng nt:Nat} {c:Code} {env:Env} {H:AHeap} {Q:Post} (L:List Nat) (k:∀ e,(∀ t,t∈L→e t=env t)→W P C ng nt c e H Q):W P C ng nt c env H Q:=k env fun _ _=>rfl
theorem gd_ge {gg:Option Nat} {N n:Nat} (h:∀ x,gg=some x→N≤x) (hn:N≤n):N≤gg.getD n:=by
 cases gg with
 | none=>exact hn
 | some x=>exact h x rfl
theorem gd_all {gg:Option Nat} {N n:Nat} (h:N≤gg.getD n):∀ x,some (gg.getD n)=some x→N≤x:=by
 intro x hx;cases hx;exact h
theorem Top.dead2 {A B:AHeap} {b:Nat} (h1:A.n≤b) (h2:B.n≤b) (h3:Top A) (h4:Top B):A.get b=B.get b:=(h3.1 b h1).trans (h4.1 b h2).symm
theorem Jn.self {H:AHeap} (ht:Top H):Jn H H∧H.jn H=H:=by
 have:=(Fr.refl (N:=H.n) (X:=[]) H).to_jn ht
 exact ⟨this.2,this.1.symm⟩
theorem oB_appJ {P:Program} {ts:Array TypeId} {H:AHeap} {s n m e:Nat} {v x:Value} {c new:List Value} {K:Value→AHeap→Prop} (ht:Top H) (G:GS H s n v c none) (S:SR H s m x new)
  (h1:0 < m→appendOp P ts [v,x] H=some (.slice (some ⟨H.n,0,none⟩) (n + m) (n + m),H.upd (H.n + 1) H.n (.cells (c ++ new) e (.gr H.n s true)))) (h0:m=0→appendOp P ts [v,x] H=some (v,H))
  (k:∀ v' Gq gg,H.n≤Gq.n→Jn H Gq→GS (H.jn Gq) s (n + m) v' (c ++ new) gg→(∀ x,gg=some x→H.n≤x)→(v'=v∨vblk v'=H.n)→vblk v' < Gq.n∨n + m=0→K v' (H.jn Gq)):oB (appendOp P ts [v,x] H) K:=by
 by_cases hm:m=0
 ·rw [h0 hm]
  have hj:=Jn.self ht
  have hnew:new=[]:=by have:=S.len;subst hm;simpa using this
  subst hm hnew
  have:=k v H none (Nat.le_refl _) hj.1 (by rw [hj.2,List.append_nil];exact G) (by simp) (.inl rfl) (by
   rcases G.sr.lt with q|q
   ·exact .inr q
   ·exact .inl q)
  rw [hj.2] at this
  exact this
 ·rw [h1 (by omega)]
  have GG:=GS.pushed (e:=e) ht G S.len
  have hf:Fr H.n [] H (H.upd (H.n + 1) H.n (.cells (c ++ new) e (.gr H.n s true))):=(Fr.refl H).upd (Nat.le_succ _) (Nat.lt_succ_self _) (.inl (Nat.le_refl _)) ⟨Nat.le_refl _,Nat.le_refl _⟩
  obtain ⟨e1,hj⟩:=hf.to_jn ht
  show K _ (H.upd (H.n + 1) H.n (.cells (c ++ new) e (.gr H.n s true)))
  have GG':GS (H.upd (H.n + 1) H.n (.cells (c ++ new) e (.gr H.n s true))) s (n + m) (.slice (some ⟨H.n,0,none⟩) (n + m) (n + m)) (c ++ new) (some H.n):=GG
  have:=k (.slice (some ⟨H.n,0,none⟩) (n + m) (n + m)) _ (some H.n) (Nat.le_succ _) hj (e1 ▸ GG') (fun x hx=>by cases hx;exact Nat.le_refl _) (.inr rfl) (.inl (Nat.lt_succ_self _))
  rw [← e1] at this
  exact this
theorem nb:((((((((∀ x:Nat,x + 1 + 1=x + 2)∧(∀ x:Nat,x + 1 + 2=x + 3))∧((∀ x:Nat,x + 1 + 3=x + 4)∧(∀ x:Nat,x + 1 + 4=x + 5)))∧(((∀ x:Nat,x + 1 + 5=x + 6)∧(∀ x:Nat,x + 1 + 6=x + 7))∧((∀ x:Nat,x + 1 + 7=x + 8)∧(∀ x:Nat,x + 1 + 8=x + 9))))∧((((∀ x:Nat,x + 2 + 1=x + 3)∧(∀ x:Nat,x + 2 + 2=x + 4))∧((∀ x:Nat,x + 2 + 3=x + 5)∧(∀ x:Nat,x + 2 + 4=x + 6)))∧(((∀ x:Nat,x + 2 + 5=x + 7)∧(∀ x:Nat,x + 2 + 6=x + 8))∧((∀ x:Nat,x + 2 + 7=x + 9)∧(∀ x:Nat,x + 2 + 8=x + 10)))))∧(((((∀ x:Nat,x + 3 + 1=x + 4)∧(∀ x:Nat,x + 3 + 2=x + 5))∧((∀ x:Nat,x + 3 + 3=x + 6)∧(∀ x:Nat,x + 3 + 4=x + 7)))∧(((∀ x:Nat,x + 3 + 5=x + 8)∧(∀ x:Nat,x + 3 + 6=x + 9))∧((∀ x:Nat,x + 3 + 7=x + 10)∧(∀ x:Nat,x + 3 + 8=x + 11))))∧((((∀ x:Nat,x + 4 + 1=x + 5)∧(∀ x:Nat,x + 4 + 2=x + 6))∧((∀ x:Nat,x + 4 + 3=x + 7)∧(∀ x:Nat,x + 4 + 4=x + 8)))∧(((∀ x:Nat,x + 4 + 5=x + 9)∧(∀ x:Nat,x + 4 + 6=x + 10))∧((∀ x:Nat,x + 4 + 7=x + 11)∧(∀ x:Nat,x + 4 + 8=x + 12))))))∧((((((∀ x:Nat,x + 5 + 1=x + 6)∧(∀ x:Nat,x + 5 + 2=x + 7))∧((∀ x:Nat,x + 5 + 3=x + 8)∧(∀ x:Nat,x + 5 + 4=x + 9)))∧(((∀ x:Nat,x + 5 + 5=x + 10)∧(∀ x:Nat,x + 5 + 6=x + 11))∧((∀ x:Nat,x + 5 + 7=x + 12)∧(∀ x:Nat,x + 5 + 8=x + 13))))∧((((∀ x:Nat,x + 6 + 1=x + 7)∧(∀ x:Nat,x + 6 + 2=x + 8))∧((∀ x:Nat,x + 6 + 3=x + 9)∧(∀ x:Nat,x + 6 + 4=x + 10)))∧(((∀ x:Nat,x + 6 + 5=x + 11)∧(∀ x:Nat,x + 6 + 6=x + 12))∧((∀ x:Nat,x + 6 + 7=x + 13)∧(∀ x:Nat,x + 6 + 8=x + 14)))))∧(((((∀ x:Nat,x + 7 + 1=x + 8)∧(∀ x:Nat,x + 7 + 2=x + 9))∧((∀ x:Nat,x + 7 + 3=x + 10)∧(∀ x:Nat,x + 7 + 4=x + 11)))∧(((∀ x:Nat,x + 7 + 5=x + 12)∧(∀ x:Nat,x + 7 + 6=x + 13))∧((∀ x:Nat,x + 7 + 7=x + 14)∧(∀ x:Nat,x + 7 + 8=x + 15))))∧((((∀ x:Nat,x + 8 + 1=x + 9)∧(∀ x:Nat,x + 8 + 2=x + 10))∧((∀ x:Nat,x + 8 + 3=x + 11)∧(∀ x:Nat,x + 8 + 4=x + 12)))∧(((∀ x:Nat,x + 8 + 5=x + 13)∧(∀ x:Nat,x + 8 + 6=x + 14))∧((∀ x:Nat,x + 8 + 7=x + 15)∧(∀ x:Nat,x + 8 + 8=x + 16)))))))∧(((((((∀ x:Nat,x + 9 + 1=x + 10)∧(∀ x:Nat,x + 9 + 2=x + 11))∧((∀ x:Nat,x + 9 + 3=x + 12)∧(∀ x:Nat,x + 9 + 4=x + 13)))∧(((∀ x:Nat,x + 9 + 5=x + 14)∧(∀ x:Nat,x + 9 + 6=x + 15))∧((∀ x:Nat,x + 9 + 7=x + 16)∧(∀ x:Nat,x + 9 + 8=x + 17))))∧((((∀ x:Nat,x + 10 + 1=x + 11)∧(∀ x:Nat,x + 10 + 2=x + 12))∧((∀ x:Nat,x + 10 + 3=x + 13)∧(∀ x:Nat,x + 10 + 4=x + 14)))∧(((∀ x:Nat,x + 10 + 5=x + 15)∧(∀ x:Nat,x + 10 + 6=x + 16))∧((∀ x:Nat,x + 10 + 7=x + 17)∧(∀ x:Nat,x + 10 + 8=x + 18)))))∧(((((∀ x:Nat,x + 11 + 1=x + 12)∧(∀ x:Nat,x + 11 + 2=x + 13))∧((∀ x:Nat,x + 11 + 3=x + 14)∧(∀ x:Nat,x + 11 + 4=x + 15)))∧(((∀ x:Nat,x + 11 + 5=x + 16)∧(∀ x:Nat,x + 11 + 6=x + 17))∧((∀ x:Nat,x + 11 + 7=x + 18)∧(∀ x:Nat,x + 11 + 8=x + 19))))∧((((∀ x:Nat,x + 12 + 1=x + 13)∧(∀ x:Nat,x + 12 + 2=x + 14))∧((∀ x:Nat,x + 12 + 3=x + 15)∧(∀ x:Nat,x + 12 + 4=x + 16)))∧(((∀ x:Nat,x + 12 + 5=x + 17)∧(∀ x:Nat,x + 12 + 6=x + 18))∧((∀ x:Nat,x + 12 + 7=x + 19)∧(∀ x:Nat,x + 12 + 8=x + 20))))))∧((((((∀ x:Nat,x + 13 + 1=x + 14)∧(∀ x:Nat,x + 13 + 2=x + 15))∧((∀ x:Nat,x + 13 + 3=x + 16)∧(∀ x:Nat,x + 13 + 4=x + 17)))∧(((∀ x:Nat,x + 13 + 5=x + 18)∧(∀ x:Nat,x + 13 + 6=x + 19))∧((∀ x:Nat,x + 13 + 7=x + 20)∧(∀ x:Nat,x + 13 + 8=x + 21))))∧((((∀ x:Nat,x + 14 + 1=x + 15)∧(∀ x:Nat,x + 14 + 2=x + 16))∧((∀ x:Nat,x + 14 + 3=x + 17)∧(∀ x:Nat,x + 14 + 4=x + 18)))∧(((∀ x:Nat,x + 14 + 5=x + 19)∧(∀ x:Nat,x + 14 + 6=x + 20))∧((∀ x:Nat,x + 14 + 7=x + 21)∧(∀ x:Nat,x + 14 + 8=x + 22)))))∧(((((∀ x:Nat,x + 15 + 1=x + 16)∧(∀ x:Nat,x + 15 + 2=x + 17))∧((∀ x:Nat,x + 15 + 3=x + 18)∧(∀ x:Nat,x + 15 + 4=x + 19)))∧(((∀ x:Nat,x + 15 + 5=x + 20)∧(∀ x:Nat,x + 15 + 6=x + 21))∧((∀ x:Nat,x + 15 + 7=x + 22)∧(∀ x:Nat,x + 15 + 8=x + 23))))∧((((∀ x:Nat,x + 16 + 1=x + 17)∧(∀ x:Nat,x + 16 + 2=x + 18))∧((∀ x:Nat,x + 16 + 3=x + 19)∧(∀ x:Nat,x + 16 + 4=x + 20)))∧(((∀ x:Nat,x + 16 + 5=x + 21)∧(∀ x:Nat,x + 16 + 6=x + 22))∧((∀ x:Nat,x + 16 + 7=x + 23)∧(∀ x:Nat,x + 16 + 8=x + 24)))))))):=⟨⟨⟨⟨⟨⟨⟨(fun _=>rfl),(fun _=>rfl)⟩,⟨(fun _=>rfl),(fun _=>rfl)⟩⟩,⟨⟨(fun _=>rfl),(fun _=>rfl)⟩,⟨(fun _=>rfl),(fun _=>rfl)⟩⟩⟩,⟨⟨⟨(fun _=>rfl),(fun _=>rfl)⟩,⟨(fun _=>rfl),(fun _=>rfl)⟩⟩,⟨⟨(fun _=>rfl),(fun _=>rfl)⟩,⟨(fun _=>rfl),(fun _=>rfl)⟩⟩⟩⟩,⟨⟨⟨⟨(fun _=>rfl),(fun _=>rfl)⟩,⟨(fun _=>rfl),(fun _=>rfl)⟩⟩,⟨⟨(fun _=>rfl),(fun _=>rfl)⟩,⟨(fun _=>rfl),(fun _=>rfl)⟩⟩⟩,⟨⟨⟨(fun _=>rfl),(fun _=>rfl)⟩,⟨(fun _=>rfl),(fun _=>rfl)⟩⟩,⟨⟨(fun _=>rfl),(fun _=>rfl)⟩,⟨(fun _=>rfl),(fun _=>rfl)⟩⟩⟩⟩⟩,⟨⟨⟨⟨⟨(fun _=>rfl),(fun _=>rfl)⟩,⟨(fun _=>rfl),(fun _=>rfl)⟩⟩,⟨⟨(fun _=>rfl),(fun _=>rfl)⟩,⟨(fun _=>rfl),(fun _=>rfl)⟩⟩⟩,⟨⟨⟨(fun _=>rfl),(fun _=>rfl)⟩,⟨(fun _=>rfl),(fun _=>rfl)⟩⟩,⟨⟨(fun _=>rfl),(fun _=>rfl)⟩,⟨(fun _=>rfl),(fun _=>rfl)⟩⟩⟩⟩,⟨⟨⟨⟨(fun _=>rfl),(fun _=>rfl)⟩,⟨(fun _=>rfl),(fun _=>rfl)⟩⟩,⟨⟨(fun _=>rfl),(fun _=>rfl)⟩,⟨(fun _=>rfl),(fun _=>rfl)⟩⟩⟩,⟨⟨⟨(fun _=>rfl),(fun _=>rfl)⟩,⟨(fun _=>rfl),(fun _=>rfl)⟩⟩,⟨⟨(fun _=>rfl),(fun _=>rfl)⟩,⟨(fun _=>rfl),(fun _=>rfl)⟩⟩⟩⟩⟩⟩,⟨⟨⟨⟨⟨⟨(fun _=>rfl),(fun _=>rfl)⟩,⟨(fun _=>rfl),(fun _=>rfl)⟩⟩,⟨⟨(fun _=>rfl),(fun _=>rfl)⟩,⟨(fun _=>rfl),(fun _=>rfl)⟩⟩⟩,⟨⟨⟨(fun _=>rfl),(fun _=>rfl)⟩,⟨(fun _=>rfl),(fun _=>rfl)⟩⟩,⟨⟨(fun _=>rfl),(fun _=>rfl)⟩,⟨(fun _=>rfl),(fun _=>rfl)⟩⟩⟩⟩,⟨⟨⟨⟨(fun _=>rfl),(fun _=>rfl)⟩,⟨(fun _=>rfl),(fun _=>rfl)⟩⟩,⟨⟨(fun _=>rfl),(fun _=>rfl)⟩,⟨(fun _=>rfl),(fun _=>rfl)⟩⟩⟩,⟨⟨⟨(fun _=>rfl),(fun _=>rfl)⟩,⟨(fun _=>rfl),(fun _=>rfl)⟩⟩,⟨⟨(fun _=>rfl),(fun _=>rfl)⟩,⟨(fun _=>rfl),(fun _=>rfl)⟩⟩⟩⟩⟩,⟨⟨⟨⟨⟨(fun _=>rfl),(fun _=>rfl)⟩,⟨(fun _=>rfl),(fun _=>rfl)⟩⟩,⟨⟨(fun _=>rfl),(fun _=>rfl)⟩,⟨(fun _=>rfl),(fun _=>rfl)⟩⟩⟩,⟨⟨⟨(fun _=>rfl),(fun _=>rfl)⟩,⟨(fun _=>rfl),(fun _=>rfl)⟩⟩,⟨⟨(fun _=>rfl),(fun _=>rfl)⟩,⟨(fun _=>rfl),(fun _=>rfl)⟩⟩⟩⟩,⟨⟨⟨⟨(fun _=>rfl),(fun _=>rfl)⟩,⟨(fun _=>rfl),(fun _=>rfl)⟩⟩,⟨⟨(fun _=>rfl),(fun _=>rfl)⟩,⟨(fun _=>rfl),(fun _=>rfl)⟩⟩⟩,⟨⟨⟨(fun _=>rfl),(fun _=>rfl)⟩,⟨(fun _=>rfl),(fun _=>rfl)⟩⟩,⟨⟨(fun _=>rfl),(fun _=>rfl)⟩,⟨(fun _=>rfl),(fun _=>rfl)⟩⟩⟩⟩⟩⟩⟩
def eqPs (P:Program) (d:Nat) (xs ys:Array Value):List (TypeId×Nat)→Option Bool
 | []=>some true
 | (t,o) :: l=>(pr P (part t xs o)).bind fun a=>(pr P (part t ys o)).bind fun b=>(pr P (Op.equalIn d t a b)).bind fun r=>if r=true then eqPs P d xs ys l else some false
def eqList (fs : Array Field) : List (TypeId × Nat) := (fs.toList.filter fun f => f.name != "_").map fun f => (f.type, f.offset)
theorem pr_ite {α:Type} {P:Program} {c:Prop} [Decidable c] {a b:Sem α}:pr P (if c then a else b)=if c then pr P a else pr P b:=by split <;> rfl
theorem pr_map' {α β:Type} {P:Program} {s:Sem α} {f:α→β}:pr P (f <$> s)=(pr P s).map f:=by
 rw [map_eq_pure_bind,pr_bind']
 cases pr P s <;> rfl
theorem pr_equal_struct {P:Program} {d:Nat} {t:TypeId} {fs:Array Field} {xs ys:Array Value} (hu:P.underlying t=some (.struct fs)) (hp:P.stoodInHeld t=false) :
  pr P (Op.equalIn (d + 1) t (.agg xs) (.agg ys))=eqPs P d xs ys (eqList fs):=by
 simp only [Op.equalIn,pr_bind',underlying,pr_program,Option.bind_some,hu,pr_pure,hp,Bool.false_eq_true,if_false]
 rw [← Array.forIn_toList]
 unfold eqList
 generalize fs.toList=l
 clear hu
 induction l with
 | nil=>simp [eqPs]
 | cons f l ih =>
  simp only [List.forIn_cons,pr_bind',pr_ite,List.filter_cons]
  by_cases hn : f.name = "_"
  ·have h1 : (f.name != "_") = false := by simp [hn]
   simp only [hn,ne_eq,not_true_eq_false,if_false,pr_pure,Option.bind_some,h1,Bool.false_eq_true]
   simpa [pr_bind'] using ih
  ·have h1 : (f.name != "_") = true := by simp [hn]
   simp only [hn,ne_eq,not_false_eq_true,if_true,h1,List.map_cons,eqPs,pr_bind']
   cases pr P (part f.type xs f.offset) with
   | none=>rfl
   | some a =>
    simp only [Option.bind_some]
    cases pr P (part f.type ys f.offset) with
    | none=>rfl
    | some b =>
     simp only [Option.bind_some]
     cases pr P (Op.equalIn d f.type a b) with
     | none=>rfl
     | some r =>
      cases r with
      | false=>simp [pr_ite]
      | true =>
       simp only [Option.bind_some,Bool.not_true,Bool.false_eq_true,if_false,if_true,pr_ite,pr_pure]
       simpa [pr_bind'] using ih
theorem pr_part1 {P:Program} {t:TypeId} {xs:Array Value} {o:Nat} {v:Value} (h:tyAgg P t=some false) (hv:xs[o]? = some v):pr P (part t xs o)=some v:=by
 unfold tyAgg at h
 cases hu:P.underlying t with
 | none=>rw [hu] at h;cases h
 | some d =>
  rw [hu] at h
  unfold part isAgg
  simp only [pr_bind',underlying,pr_program,Option.bind_some,hu,pr_pure]
  cases d <;> simp_all [pr_bind',pr_pure,pr]
theorem pr_partN {P:Program} {t:TypeId} {xs:Array Value} {o s:Nat} (h:tyAgg P t=some true) (hs:tySize P t=some s):pr P (part t xs o)=some (.agg (xs.extract o (o + s))):=by
 unfold tyAgg at h
 unfold tySize at hs
 cases hu:P.underlying t with
 | none=>rw [hu] at h;cases h
 | some d =>
  rw [hu] at h
  have hsz:pr P (sizeOf t)=some s:=by
   unfold Go.sizeOf typeInfo
   cases hi:P.info? t with
   | none=>rw [hi] at hs;cases hs
   | some i =>
    rw [hi] at hs
    simp only [Option.map_some,Option.some.injEq] at hs
    simp [pr_bind',pr_program,hi,hs]
  unfold part isAgg
  simp only [pr_bind',underlying,pr_program,Option.bind_some,hu,pr_pure]
  cases d <;> simp_all [pr_bind',pr_pure,pr_map',pr]
section
variable {P:Program} {d:Nat} {xs ys:Array Value} {t:TypeId} {o:Nat} {l:List (TypeId×Nat)}
theorem eqPs_int {k k':IntKind} {a b:Int} (ha:tyAgg P t=some false) (hu:P.underlying t=some (.int k')) (hx:xs[o]? = some (.int k a)) (hy:ys[o]? = some (.int k b)) :
  eqPs P (d + 1) xs ys ((t,o) :: l)=if a=b then eqPs P (d + 1) xs ys l else some false:=by
 have:pr P (Op.equalIn (d + 1) t (.int k a) (.int k b))=some (a == b):=by
  simp only [Op.equalIn,pr_bind',underlying,pr_program,Option.bind_some,hu,pr_pure,if_true]
 simp only [eqPs,pr_part1 ha hx,pr_part1 ha hy,Option.bind_some,this,beq_iff_eq]
theorem eqPs_bool {a b:Bool} (ha:tyAgg P t=some false) (hu:P.underlying t=some .bool) (hx:xs[o]? = some (.bool a)) (hy:ys[o]? = some (.bool b)) :
  eqPs P (d + 1) xs ys ((t,o) :: l)=if a=b then eqPs P (d + 1) xs ys l else some false:=by
 simp only [eqPs,pr_part1 ha hx,pr_part1 ha hy,Option.bind_some,equalIn_bool d hu,beq_iff_eq]
theorem eqPs_nil:eqPs P d xs ys []=some true:=rfl
theorem bop_eqlS {x y:Operand} {fs:Array Field} {r:Bool} (hu:P.underlying t=some (.struct fs)) (hp:P.stoodInHeld t=false) (hg:P.eqGuardType P.depth t=false) (hx:dflat (.agg xs)=true) (hy:dflat (.agg ys)=true)
  (he:eqPs P 9999 xs ys (eqList fs)=some r):bopA P .eql t x y (.agg xs) (.agg ys)=some (.bool r)∧bopA P .neq t x y (.agg xs) (.agg ys)=some (.bool !r):=by
 have h1:pr P (Op.equal t (.agg xs) (.agg ys))=some r:=by
  show pr P (Op.equalIn (9999 + 1) t (.agg xs) (.agg ys))=_
  rw [pr_equal_struct hu hp,he]
 constructor
 ·unfold bopA
  rw [if_pos ⟨hx,hy⟩]
  simp [eqGuard,binOp,pr_bind',pr_program,hg,h1,keep,dflat,flat,pr_ite,pr_map']
 ·unfold bopA
  rw [if_pos ⟨hx,hy⟩]
  simp [eqGuard,binOp,pr_bind',pr_program,hg,h1,keep,dflat,flat,pr_ite,pr_map']
end
theorem ite_some {p:Prop} [Decidable p] {r:Bool}:(if p then some r else some false)=some (decide p && r):=by by_cases h:p <;> simp [h]
theorem ite_someB {p r:Bool}:(if p=true then some r else some false)=some (p && r):=by cases p <;> rfl
end Go.Proofs.Swa
set_option linter.unusedVariables false
set_option linter.unusedSimpArgs false
set_option linter.defProp false
namespace Go.Proofs.Swa
open Go
theorem W_regionF {P:Program} {C:CallRel} {ng nt:Nat} {id:Nat} {l:List Oper} {env:Env} {H:AHeap} {Q:Post} (L:Nat→List Nat) (h:∀ K:Env→AHeap→Prop,(∀ e h,(∀ e',(∀ t,t∈L id→e' t=e t)→Q .normal e' h)→K e h)→WO P C ⟨l⟩ l K env H):W P C ng nt (.region id ⟨l⟩ false) env H Q:=W_regionL (L id) h
theorem W_drawnF {P:Program} {C:CallRel} {ng nt:Nat} {id:Nat} {l:List Oper} {env:Env} {H:AHeap} {Q:Post} (L:Nat→List Nat) (h:∀ K:Env→AHeap→Prop,(∀ e h,(∀ e',(∀ t,t∈L id→e' t=e t)→Q .normal e' h)→K e h)→WD P C ⟨l⟩ l 0 [] [] K env H):W P C ng nt (.region id ⟨l⟩ true) env H Q:=W_drawnL (L id) h
def hcs:=And.intro @decide_eq_true_eq (And.intro @decide_eq_false_iff_not (And.intro @Bool.not_eq_eq_eq_not (And.intro @Bool.not_true (And.intro @Bool.not_false (And.intro @not_true_eq_false (And.intro @not_false_eq_true (@ne_eq.{1})))))))
def sp:=And.intro nb (And.intro @jn_n (And.intro (And.intro (@if_true.{1}) (And.intro (@if_false.{1}) (@ite_self.{1}))) (And.intro (@Option.some.injEq.{0}) (And.intro true_and (And.intro and_true (And.intro (@List.cons_append.{0}) (@List.nil_append.{0})))))))
end Go.Proofs.Swa
set_option linter.unusedVariables false
namespace Go.Proofs.Swa
def lv15:Nat→List Nat
 | 0=>[]
 | 1=>[1,2]
 | 2=>[1,2,3,4]
 | 3=>[1,2,3,4,5,6,7]
 | 4=>[1,2,3,4,5,6,7,8,9,10]
 | 5=>[1,2,3,4,5,6,7,8,9,10,11,12]
 | 6=>[0]
 | _=>[]
def lv16:Nat→List Nat
 | 0=>[0]
 | 1=>[0,3]
 | 2=>[0,3,4]
 | 3=>[0,3,4,10]
 | 5=>[0,3,4]
 | 6=>[0,3,4]
 | 4=>[0,3,4]
 | 7=>[2]
 | _=>[]
def lv19:Nat→List Nat
 | 0=>[0,1]
 | 1=>[0,1,6]
 | 2=>[4]
 | 3=>[4]
 | _=>[]
def lv21:Nat→List Nat
 | 0=>[0,1]
 | 1=>[0,1,7]
 | 2=>[4]
 | 3=>[4]
 | _=>[]
def lv22:Nat→List Nat
 | 0=>[0,1,3,6,8,9]
 | 1=>[0,1,3,6,8,9]
 | 2=>[0,1,3,6,8,9,17]
 | 3=>[8,9]
 | 4=>[0,1,3,6,8,9,19,20,21]
 | 5=>[0,1,3,6,8,9,19,20,21,22]
 | 6=>[0,1,3,6,8,9,10,11,19,20,21]
 | 7=>[0,1,3,6,8,9,10,11,19,20,21,26]
 | 8=>[0,1,3,6,8,9,10,11,19,20,21,26]
 | 9=>[8,9]
 | 10=>[0,1,3,6,8,9,19,20,21,36]
 | 11=>[8,9]
 | 12=>[0,1,3,6,8,9,19,20,21]
 | 13=>[0,1,3,6,8,9,52]
 | 14=>[0,1,3,6,8,9,52]
 | 15=>[0,1,3,6,8,9,52]
 | 16=>[8,9]
 | 17=>[0,1,3,6,8,9,65]
 | 18=>[8,9]
 | 19=>[0,1,3,6,8,9,72]
 | 20=>[8,9]
 | 21=>[0,1,3,6,8,9]
 | 22=>[1,3,6,8,9,77,78,79]
 | 23=>[1,3,6,8,9,77,78,79,80]
 | 24=>[1,3,6,8,9,13,77,78,79]
 | 25=>[1,3,6,8,9,13,77,78,79,86]
 | 26=>[1,3,6,8,9,77,78,79]
 | 27=>[1,3,6,8,9,77,78,79]
 | 28=>[8,9]
 | _=>[]
def lv24:Nat→List Nat
 | 0=>[0,1,2]
 | 1=>[6]
 | _=>[]
def lv26:Nat→List Nat
 | 0=>[0,1,4]
 | 1=>[4]
 | _=>[]
def lv45:Nat→List Nat
 | 0=>[0,1]
 | 1=>[0,1,5]
 | 2=>[0,1,5,6]
 | 3=>[0,1,5,6,18]
 | 5=>[0,1,5,6]
 | 4=>[0,1,5,6]
 | 6=>[4]
 | _=>[]
def lv69:Nat→List Nat
 | 0=>[0,2]
 | 1=>[2]
 | _=>[]
def lv70:Nat→List Nat
 | 0=>[]
 | 1=>[0]
 | _=>[]
def lv71:Nat→List Nat
 | 0=>[0,2]
 | 1=>[2]
 | _=>[]
def lv72:Nat→List Nat
 | 0=>[]
 | 1=>[0]
 | _=>[]
def lv73:Nat→List Nat
 | 0=>[0]
 | 1=>[0,7]
 | 2=>[0]
 | 3=>[0]
 | 4=>[0]
 | 5=>[0]
 | 6=>[2]
 | _=>[]
def lv74:Nat→List Nat
 | 0=>[1,3]
 | 1=>[]
 | _=>[]
def lv75:Nat→List Nat
 | 0=>[0,1,2]
 | 1=>[6]
 | _=>[]
def lv78:Nat→List Nat
 | 0=>[0,1,2]
 | 1=>[6]
 | _=>[]
def lv80:Nat→List Nat
 | 0=>[1,5,7,8,9]
 | 1=>[1,5,7,8,9,11]
 | 2=>[5,7,8,9,11,15]
 | 3=>[5,7,8,9,11,13]
 | 4=>[11,13,34]
 | 5=>[]
 | 6=>[10]
 | _=>[]
def lv86:Nat→List Nat
 | 0=>[1,3,5]
 | 1=>[3,13]
 | 2=>[3,13,15]
 | 3=>[3,8,13]
 | 4=>[3,13,21]
 | 5=>[6]
 | 6=>[6]
 | _=>[]
def lv88:Nat→List Nat
 | 0=>[0]
 | 1=>[0,4]
 | 2=>[4,12,13,14]
 | 3=>[4,12,13,14,15]
 | 4=>[4,6,12,13,14]
 | 5=>[4,6,12,13,14,19,20]
 | 6=>[4,6,12,13,14,19,20,21]
 | 7=>[4,6,7,12,13,14,19,20]
 | 9=>[4,6,7,12,13,14,19,20,23]
 | 10=>[4,6,7,12,13,14,19,20,38]
 | 11=>[4,6,12,13,14,19,20]
 | 8=>[2,3]
 | 12=>[4,6,12,13,14,19,20]
 | 13=>[4,12,13,14]
 | 14=>[2,3]
 | _=>[]
def lv112:Nat→List Nat
 | 0=>[1]
 | 1=>[2]
 | _=>[]
def lv124:Nat→List Nat
 | 0=>[0,5,6,7]
 | 1=>[0,5,6,7,8]
 | 2=>[0,3,4,5,6,7]
 | 3=>[0,5,6,7,20]
 | 4=>[0,5,6,7]
 | _=>[]
def lv114:Nat→List Nat
 | 0=>[3,4,5]
 | 1=>[3,4,5,7]
 | 2=>[3,4,5,7,16]
 | 3=>[3,4,5,7,9]
 | 4=>[3,4,5,7,9,20,21]
 | 5=>[3,4,5,7,9,20,21,22]
 | 6=>[3,4,5,7,9,10,20,21]
 | 7=>[3,4,5,7,9,10,11,20,21]
 | 8=>[3,4,5,7,9,10,11,13,20,21]
 | 9=>[3,4,5,7,9,10,11,20,21,34]
 | 10=>[3,4,5,7,9,20,21]
 | 11=>[3,4,5,7,9,20,21]
 | 12=>[6]
 | _=>[]
def lv58:Nat→List Nat
 | 0=>[1,2]
 | 1=>[1,2,5]
 | 2=>[1,2,5,19]
 | 3=>[2,3,4]
 | 4=>[1,2,6]
 | 5=>[1,2,6,7]
 | 6=>[1,2,6,7,8]
 | 7=>[1,2,6,7,8,32]
 | 9=>[1,2,6,7,8,35]
 | 10=>[1,2,6,7,8,35,36]
 | 11=>[1,2,6,7,8,9,35]
 | 12=>[1,2,6,7,8,9,10,35]
 | 13=>[1,2,6,7,8,9,10,35,38]
 | 14=>[1,2,6,7,8,9,10,35,38,39]
 | 15=>[1,2,6,7,8,9,10,11,35,38]
 | 16=>[1,2,6,7,8,9,10,35,38]
 | 17=>[1,2,6,7,8,9,10,35,38]
 | 18=>[1,2,6,7,8,35]
 | 19=>[1,2,6,7,8,35]
 | 8=>[1,2,6,7,8]
 | 20=>[1,2,3,6,7]
 | 21=>[1,2,3,6,7,63]
 | 22=>[2,3,4]
 | 23=>[1,2,3,6,7,12]
 | 24=>[2,3,6,7,12,68,69]
 | 25=>[2,3,6,7,12,68,69,70]
 | 26=>[2,3,6,7,12,13,68,69]
 | 27=>[2,3,6,7,12,13,14,68,69]
 | 28=>[2,3,6,7,12,13,14,15,68,69]
 | 29=>[2,3,6,7,12,13,14,15,68,69,84]
 | 30=>[2,3,6,7,12,13,14,15,68,69]
 | 31=>[2,3,6,7,15,68,69]
 | 32=>[2,3,6,7,12,68,69]
 | 33=>[2,3,6,7,12,68,69]
 | 34=>[2,3,4]
 | _=>[]
def lv97:Nat→List Nat
 | 0=>[1]
 | 1=>[1,5]
 | 2=>[2]
 | 3=>[1,10]
 | 4=>[2]
 | 5=>[1,16,17,18]
 | 6=>[1,16,17,18,19]
 | 7=>[1,4,16,17,18]
 | 8=>[1,4,16,17,18,22]
 | 9=>[1,4,16,17,18,22]
 | 10=>[2]
 | 11=>[1,16,17,18,31]
 | 12=>[2]
 | 13=>[1,16,17,18]
 | 14=>[53]
 | 15=>[2]
 | 16=>[2]
 | _=>[]
def lv100:Nat→List Nat
 | 0=>[1,2,3,6]
 | 1=>[6]
 | _=>[]
def lv103:Nat→List Nat
 | 0=>[0,1,2,3,4]
 | 1=>[0,1,2,3,4,9]
 | 2=>[0,1,2,4,26]
 | 3=>[8]
 | 4=>[8]
 | _=>[]
def lv104:Nat→List Nat
 | 0=>[0,1]
 | 1=>[4]
 | _=>[]
def lv41:Nat→List Nat
 | 0=>[0,1,5]
 | 1=>[0,1,5,7]
 | 2=>[0,1,5,7,16]
 | 3=>[4,5,6]
 | 4=>[0,5,8]
 | 5=>[5,8,23,24,25]
 | 6=>[5,8,23,24,25,26]
 | 7=>[5,8,10,11,23,24,25]
 | 8=>[5,8,10,23,24,25,33]
 | 9=>[5,8,23,24,25]
 | 10=>[5,8,23,24,25]
 | 11=>[5,8,39]
 | 12=>[4,5,6]
 | 13=>[5,43]
 | 14=>[4,5,6]
 | 15=>[4,5,6]
 | _=>[]
def lv89:Nat→List Nat
 | 0=>[0,1]
 | 1=>[0,1,5]
 | 2=>[0,1,5,6]
 | 3=>[0,1,5,6,18]
 | 5=>[0,1,5,6]
 | 4=>[0,1,5,6]
 | 6=>[4]
 | _=>[]
def lv37:Nat→List Nat
 | 0=>[1]
 | 1=>[1,4]
 | 2=>[1,4,8]
 | 3=>[2,3]
 | 4=>[1,10]
 | 5=>[2,3]
 | 6=>[17]
 | 7=>[2,3]
 | 8=>[2,3]
 | _=>[]
def lv113:Nat→List Nat
 | 0=>[1,2]
 | 1=>[1,2,3]
 | 2=>[1,2,3,8]
 | 3=>[1,2,3,8,9]
 | 4=>[1,2,3,4,8]
 | 5=>[1,2,3,4,8,11]
 | 6=>[1,2,3,4,8,11,12]
 | 7=>[1,2,3,4,5,8,11]
 | 8=>[1,2,3,4,5,8,11,14]
 | 9=>[1,2,3,4,5,8,11,14,15]
 | 10=>[1,2,3,4,5,6,8,11,14]
 | 11=>[1,2,3,4,5,8,11,14]
 | 12=>[1,2,3,4,5,8,11,14]
 | 13=>[1,2,3,4,8,11]
 | 14=>[1,2,3,8]
 | 15=>[2]
 | _=>[]
def lv81:Nat→List Nat
 | 0=>[1,2,4]
 | 1=>[1,2,4,5]
 | 2=>[1,2,4,5,10]
 | 3=>[1,2,4,5,10,11]
 | 4=>[1,2,4,5,6,10]
 | 5=>[1,2,4,5,10]
 | 6=>[1,2,4,5,10]
 | 7=>[1,4,5,19,20,21]
 | 8=>[1,4,5,19,20,21,22]
 | 9=>[1,4,5,8,19,20,21]
 | 10=>[1,4,5,8,19,20,21,29]
 | 11=>[1,4,5,19,20,21]
 | 12=>[1,4,5,19,20,21]
 | 13=>[4,5,9]
 | 14=>[4,5,9,47]
 | 15=>[4]
 | 16=>[4,5]
 | _=>[]
def lv67:Nat→List Nat
 | 0=>[1]
 | 1=>[1,8]
 | 2=>[2]
 | 3=>[1,12]
 | 4=>[2]
 | 5=>[1,16]
 | 6=>[1,16]
 | 7=>[2]
 | 8=>[1,25]
 | 9=>[2]
 | 10=>[1,3]
 | 11=>[1,3,34,35,36]
 | 12=>[1,3,34,35,36,37]
 | 13=>[1,3,4,5,34,35,36]
 | 14=>[1,3,4,5,34,35,36,41]
 | 15=>[1,3,4,5,34,35,36,41]
 | 16=>[2]
 | 17=>[1,3,4,5,34,35,36,52]
 | 18=>[2]
 | 19=>[1,3,34,35,36,58]
 | 20=>[2]
 | 21=>[1,3,34,35,36]
 | 22=>[1,3,69]
 | 23=>[2]
 | 24=>[1,3,71,72,73]
 | 25=>[1,3,71,72,73,74]
 | 26=>[1,3,6,7,71,72,73]
 | 27=>[1,3,6,7,71,72,73,78]
 | 28=>[2]
 | 29=>[1,3,7,71,72,73,83]
 | 30=>[2]
 | 31=>[1,3,7,71,72,73,98]
 | 32=>[2]
 | 33=>[1,3,71,72,73,104]
 | 34=>[2]
 | 35=>[1,3,71,72,73]
 | 36=>[2]
 | _=>[]
def lv110:Nat→List Nat
 | 0=>[1,2]
 | 1=>[3]
 | _=>[]
def lv109:Nat→List Nat
 | 0=>[0,1]
 | 1=>[4]
 | _=>[]
def lv123:Nat→List Nat
 | 0=>[0,1]
 | 1=>[0,1,7,8]
 | 2=>[0,1,7,8,9]
 | 3=>[0,1,5,7,8]
 | 4=>[0,1,5,7,8,16]
 | 5=>[4]
 | 6=>[0,1,7,8]
 | 7=>[4]
 | _=>[]
def lv35:Nat→List Nat
 | 0=>[1,2,3,4]
 | 1=>[1,2,3,4,10]
 | 2=>[1,2,3,4,10,23]
 | 3=>[8,9]
 | 4=>[1,2,3,4,11]
 | 5=>[1,2,3,4,11,12]
 | 6=>[1,3,4,11,12,13]
 | 7=>[1,3,4,11,12,13,30]
 | 9=>[1,3,4,11,12,13,14]
 | 10=>[1,3,4,11,12,13,14,15]
 | 11=>[1,3,4,11,12,13,14,15,50]
 | 13=>[1,3,4,11,12,13,14,15]
 | 12=>[1,3,4,11,12,13,14,15]
 | 14=>[1,3,4,11,12,13,14,62]
 | 15=>[8,9]
 | 16=>[1,3,4,11,12,13,14]
 | 17=>[1,3,4,11,12,13]
 | 8=>[1,3,4,11,12,13]
 | 18=>[8,9]
 | _=>[]
def lv79:Nat→List Nat
 | 0=>[1,2,3,4]
 | 1=>[1,2,3,4,9]
 | 2=>[1,2,3,4,9,14]
 | 3=>[8]
 | 4=>[1,2,3,4,10]
 | 5=>[2,3,4,10,19]
 | 6=>[8]
 | 7=>[2,3,4,10,26]
 | 8=>[2,4,10,26]
 | 9=>[8]
 | 10=>[4,32]
 | 11=>[8]
 | 12=>[46]
 | 13=>[8]
 | 14=>[8]
 | _=>[]
def lv32:Nat→List Nat
 | 0=>[1,2,3]
 | 1=>[1,2,3,8]
 | 2=>[1,2,3,8,14]
 | 3=>[6,7]
 | 4=>[6,7]
 | _=>[]
def lv29:Nat→List Nat
 | 0=>[0,1,2,6]
 | 1=>[0,2,6,7]
 | 2=>[0,2,6,7,8]
 | 3=>[0,2,6,7,8,36]
 | 5=>[0,2,6,7,8,9]
 | 6=>[0,2,6,7,8,9,10]
 | 7=>[0,2,6,7,8,9,10,11]
 | 8=>[0,2,6,7,8,9,10,11,59]
 | 10=>[0,2,6,7,8,9,10,11,12]
 | 11=>[0,2,6,7,8,9,10,11]
 | 9=>[0,2,6,7,8,9,10,11]
 | 12=>[0,2,6,7,8,9,97]
 | 13=>[0,2,6,7,8]
 | 4=>[0,2,6,7,8]
 | 14=>[0,2,6,7,13]
 | 15=>[0,6,7,13,14]
 | 16=>[0,6,7,13,14,111]
 | 18=>[0,6,7,13,14]
 | 19=>[0,6,7,13,14]
 | 17=>[0,6,7,13,14]
 | 20=>[6]
 | _=>[]
def lv30:Nat→List Nat
 | 0=>[1]
 | 1=>[1,3]
 | 2=>[1,3,8]
 | 3=>[2]
 | 4=>[2]
 | _=>[]
def lv31:Nat→List Nat
 | 0=>[1,2]
 | 1=>[1,2]
 | 2=>[2]
 | _=>[]
def lv7:Nat→List Nat
 | 0=>[0]
 | 1=>[3]
 | 2=>[3,4]
 | 3=>[3,4]
 | 4=>[3,4,5,6,7]
 | 5=>[3,4,5,6,7,8,9]
 | 6=>[3,4,5,6,7,8,9,11]
 | 7=>[3,4,5,6,7,8,9,11,65]
 | 8=>[2]
 | 9=>[3,4,5,6,7,8,9,12,13]
 | 10=>[3,4,5,6,7,8,9,12,13,14,15]
 | 11=>[3,4,5,6,7,8,9,12,13,14,15,16]
 | 12=>[3,4,5,6,7,8,9,12,13,14,15,16,80]
 | 14=>[3,4,5,6,7,8,9,12,13,14,15,16,17,18]
 | 15=>[3,4,5,6,7,8,9,12,13,14,15,16,17,18,19,20]
 | 16=>[3,4,5,6,7,8,9,12,13,14,15,16,17,19,102]
 | 17=>[2]
 | 18=>[3,4,5,6,7,8,9,12,13,14,15,16,17,21]
 | 19=>[3,4,5,6,7,8,9,12,13,14,15,16,17,21]
 | 20=>[3,4,5,6,7,8,9,12,13,14,15,16]
 | 21=>[3,4,5,6,7,8,9,12,13,14,15,16,159]
 | 22=>[2]
 | 13=>[3,4,5,6,7,8,9,12,13,14,15,16]
 | 23=>[2]
 | _=>[]
def lv87:Nat→List Nat
 | 0=>[0,1]
 | 1=>[0,1,14]
 | 2=>[4]
 | 3=>[0,1,15,16,17]
 | 4=>[0,1,15,16,17,18]
 | 5=>[0,1,5,6,15,16,17]
 | 6=>[0,1,5,6,15,16,17,22]
 | 7=>[4]
 | 8=>[0,1,5,6,15,16,17,28]
 | 9=>[4]
 | 10=>[0,1,15,16,17,33]
 | 11=>[4]
 | 12=>[0,1,15,16,17]
 | 13=>[1,40]
 | 14=>[4]
 | 15=>[1,44]
 | 16=>[4]
 | 17=>[1,7]
 | 18=>[1,7,49,50,51]
 | 19=>[1,7,49,50,51,52]
 | 20=>[1,7,9,49,50,51]
 | 21=>[1,7,49,50,51,67]
 | 22=>[4]
 | 23=>[1,7,49,50,51]
 | 24=>[11]
 | 25=>[75]
 | 26=>[4]
 | 27=>[4]
 | _=>[]
def lv116:Nat→List Nat
 | 0=>[1,2]
 | 1=>[4]
 | _=>[]
def lv117:Nat→List Nat
 | 0=>[0,1]
 | 1=>[4]
 | _=>[]
def lv118:Nat→List Nat
 | 0=>[1,2]
 | 1=>[3]
 | _=>[]
def lv119:Nat→List Nat
 | 0=>[0]
 | 1=>[2]
 | _=>[]
def lv125:Nat→List Nat
 | 0=>[0,1]
 | 1=>[4]
 | _=>[]
def lv126:Nat→List Nat
 | 0=>[0,1]
 | 1=>[3]
 | _=>[]
def lv127:Nat→List Nat
 | 0=>[0,1]
 | 1=>[0,1,7,8]
 | 2=>[0,1,7,8,9]
 | 3=>[0,1,5,7,8]
 | 4=>[0,1,5,7,8,16]
 | 5=>[4]
 | 6=>[0,1,7,8]
 | 7=>[4]
 | _=>[]
def lv130:Nat→List Nat
 | 0=>[0,1]
 | 1=>[4]
 | _=>[]
def lv135:Nat→List Nat
 | 0=>[0,1,2]
 | 1=>[1,2,10]
 | 2=>[1,2,10,11,12]
 | 3=>[1,2,7,8,10]
 | 4=>[1,2,7,10,19]
 | 5=>[6]
 | 6=>[6]
 | _=>[]
def lv115:Nat→List Nat
 | 0=>[0]
 | 1=>[2]
 | _=>[]
end Go.Proofs.Swa
set_option linter.unusedVariables false
set_option linter.unusedSimpArgs false
namespace Go.Proofs.Swa
open Go
structure RoB where
 blk:Nat
 base:Nat
 cells:List Value
 T:TypeId
def RoOk (w:World) (r:RoB):Prop:=∃ c' T' fz,w.heap[r.blk]? = some (.cells c' T' fz)∧r.base + r.cells.length≤c'.size∧∀ i (h:i < r.cells.length),c'[r.base + i]? = some r.cells[i]∧flat r.cells[i]=true
def szOf (w:World) (b:Nat):Nat:=match w.heap[b]? with|some (.cells c _ _)=>c.size|_=>0
def renOf (w:World) (L:List RoB):Ren:=fun b=>(L[b]?).map fun r=>⟨r.blk,r.base,szOf w r.blk,true,false,0,0⟩
def heapOf (L:List RoB):AHeap:=⟨L.length,fun b=>match L[b]? with|some r=>.cells r.cells r.T .ro|none=>.dead⟩
theorem flat_scalar {v:Value} (h:flat v=true):scalar v=true:=by
 cases v <;> simp_all [flat,scalar]
theorem top_heapOf (L:List RoB):Top (heapOf L):=by
 refine ⟨fun b hb=>?_,fun b=>?_⟩
 ·have hb:L.length≤b:=hb
  show (match L[b]? with|some r=>AObj.cells r.cells r.T .ro|none=>.dead)=.dead
  rw [List.getElem?_eq_none hb]
 ·intro c T g e l h
  have h:(match L[b]? with|some r=>AObj.cells r.cells r.T .ro|none=>.dead)=.cells c T (.gr g e l):=h
  cases hr:L[b]? with
  | none=>rw [hr] at h;cases h
  | some r=>rw [hr] at h;cases h
theorem rel_ro {w:World} {L:List RoB} (hL:∀ r,r∈L→RoOk w r):Rel 0 w.heap.size (renOf w L) (heapOf L) w:=by
 have hren:∀ b im,renOf w L b=some im→∃ r,L[b]? = some r∧im=⟨r.blk,r.base,szOf w r.blk,true,false,0,0⟩∧RoOk w r:=by
  intro b im h
  unfold renOf at h
  cases hr:L[b]? with
  | none=>rw [hr] at h;cases h
  | some r =>
   rw [hr] at h
   simp only [Option.map_some,Option.some.injEq] at h
   exact ⟨r,rfl,h.symm,hL r (List.mem_of_getElem? hr)⟩
 refine ⟨?_, ?_, ?_, ?_,Nat.le_refl _, ?_,(top_heapOf L).1,(top_heapOf L).2⟩
 ·intro b im h _
  obtain ⟨r,hr,rfl,c',T',fz,h1,h2,h3⟩:=hren b im h
  have hg:(heapOf L).get b=.cells r.cells r.T .ro:=by
   show (match L[b]? with|some r=>AObj.cells r.cells r.T .ro|none=>.dead)=_
   rw [hr]
  rw [hg]
  refine ⟨⟨rfl,rfl⟩,c',T',fz,h1, ?_,h2,fun h=>by simp at h,fun _=>?_⟩
  ·show c'.size=szOf w r.blk
   unfold szOf
   rw [h1]
  ·intro i hi
   exact ⟨_,(h3 i hi).1,.flat (h3 i hi).2,flat_scalar (h3 i hi).2⟩
 ·intro b1 b2 i1 i2 h1 h2 _ _
  obtain ⟨r1,_,rfl,_⟩:=hren b1 i1 h1
  obtain ⟨r2,_,rfl,_⟩:=hren b2 i2 h2
  exact .inl ⟨rfl,rfl⟩
 ·intro b im h hro
  obtain ⟨r,_,rfl,_⟩:=hren b im h
  cases hro
 ·intro b im h
  obtain ⟨r,_,rfl,c',T',fz,h1,_⟩:=hren b im h
  exact (Array.getElem?_eq_some_iff.1 h1).1
 ·intro g hg;omega
theorem owned_ro {w:World} {L:List RoB} (N cb:Nat):¬ Owned (renOf w L) N cb:=by
 rintro ⟨b,im,h,_,_,hro⟩
 unfold renOf at h
 cases hr:L[b]? with
 | none=>rw [hr] at h;cases h
 | some r =>
  rw [hr] at h
  simp only [Option.map_some,Option.some.injEq] at h
  subst h
  cases hro
theorem roOk_of {w:World} {a:Addr} {cs:List Value} {T:TypeId} (h0:0 < cs.length) (h:∀ i (hi:i < cs.length),w.cell? (a.add i)=some cs[i]∧flat cs[i]=true) :
  RoOk w ⟨a.block,a.off,cs,T⟩∧a.spot=none:=by
 have g:=(h 0 h0).1
 have ha0:a.add 0=a:=by simp [Addr.add]
 rw [ha0] at g
 unfold World.cell? at g
 cases hb:w.heap[a.block]? with
 | none=>simp [hb] at g
 | some ob =>
  cases ob with
  | cells c T' fz =>
   simp only [hb] at g
   have hsp:a.spot=none:=by
    cases hs:a.spot with
    | none=>rfl
    | some q=>simp [hs] at g
   have hadd:∀ i,a.add i=⟨a.block,a.off + i,none⟩:=by
    intro i
    by_cases hi:i=0
    ·subst hi
     rw [ha0]
     cases a
     dsimp only at hsp
     subst hsp
     rfl
    ·simp [Addr.add,hi]
   have hcell:∀ i (hi:i < cs.length),c[a.off + i]? = some cs[i]:=by
    intro i hi
    have g:=(h i hi).1
    rw [hadd] at g
    unfold World.cell? at g
    simpa [hb] using g
   refine ⟨⟨c,T',fz,hb, ?_,fun i hi=>⟨hcell i hi,(h i hi).2⟩⟩,hsp⟩
   have:=hcell (cs.length - 1) (by omega)
   obtain ⟨q,_⟩:=Array.getElem?_eq_some_iff.1 this
   show a.off + cs.length≤c.size
   omega
  | _=>simp [hb] at g
end Go.Proofs.Swa
set_option linter.unusedVariables false
set_option linter.unusedSimpArgs false
namespace Go.Proofs.Swa
open Go Go.RowKit
def flatR:Value→Bool
 | .tuple vs=>vs.all dflat
 | v=>dflat v
theorem VRel.of_flatR {ρ:Ren} {v v':Value} (h:VRel ρ v v') (hf:flatR v=true):v'=v:=by
 cases v with
 | tuple vs =>
  obtain ⟨a',rfl,h1,h2⟩:=h.tuple_inv
  simp only [flatR] at hf
  rw [Array.all_eq_true] at hf
  congr 1
  refine (Array.ext h1 fun i q1 q2=>?_).symm
  exact ((h2 i q1 q2).of_dflat (hf i q1)).symm
 | _=>exact h.of_dflat hf
theorem VRel.flatR {ρ:Ren} {v:Value} (hf:Swa.flatR v=true):VRel ρ v v:=by
 cases v with
 | tuple vs =>
  simp only [Swa.flatR] at hf
  rw [Array.all_eq_true] at hf
  exact .tuple rfl fun i h h'=>VRel.dflat (hf i h)
 | _=>exact VRel.dflat hf
theorem ARel.of_dflat {ρ:Ren} {a a':Array Value} (h:ARel ρ a a') (hf:(a.all dflat)=true):a'=a:=by
 rw [Array.all_eq_true] at hf
 exact (Array.ext h.1 fun i q1 q2=>((h.2 i q1 q2).of_dflat (hf i q1)).symm).symm
theorem ARel.dflat {ρ:Ren} {a:Array Value} (hf:(a.all dflat)=true):ARel ρ a a:=by
 rw [Array.all_eq_true] at hf
 exact ⟨rfl,fun i h h'=>VRel.dflat (hf i h)⟩
def Bodied (P : Program) (f : FuncId) : Prop := ∃ fn c, P.funcs[f]? = some fn ∧ fn.body = some c ∧ (fn.name == "runtime.NumGoroutine") = false
def OrC (P:Program):OrRel:=fun f args H v H'=>H'=H∧flatR v=true∧Bodied P f ∧
 ∀ n0 ρ w args',Rel 0 n0 ρ H w→ARel ρ args args'→Calls P f args' w fun e w'=>e=.returned v∧Below w.heap.size w w'
theorem OrC.flat {P:Program} {f:FuncId} {args:Array Value} {H:AHeap} {v:Value} (h1:(args.all dflat)=true) (h2:flatR v=true) (h3:Bodied P f) (h4:∀ w,Calls P f args w fun e w'=>e=.returned v∧Below w.heap.size w w'):OrC P f args H v H :=
 ⟨rfl,h2,h3,fun n0 ρ w args' hr ha=>by rw [ha.of_dflat h1];exact h4 w⟩
theorem OrC.top {P:Program}:OrTop (OrC P):=by
 rintro f args H v H' ⟨rfl,_⟩ ht
 exact ⟨ht,Nat.le_refl _⟩
theorem goes_calls {P:Program} {f:FuncId} {args:Array Value} {w w':World} {v:Value} {c:Frame} {cs:List Frame} (hb:Bodied P f) {fr:Frame} (h:Steps P (lone (Frame.enter P f args .normal) (c :: cs) w) (lone fr (c :: cs) w')) (hl:fr.leaving P w' (.returned v)) :
  Goes P (.fn f) args w v w' c cs:=by
 obtain ⟨fn,b,e1,e2,e3⟩:=hb
 exact ⟨.enter f args,_,run_callFunc_go e1 e2 e3 _ _,rfl,h.trans (.one (step_leave_returned hl))⟩
theorem OrC.sim {P:Program}:OrSim P 0 (OrC P):=by
 rintro n0 f args H v H' ⟨rfl,h2,h3,h4⟩ ρ w args' hr ha hf c cs
 obtain ⟨e,w',fr,⟨rfl,hb⟩,hc,hfn,hl⟩:=h4 n0 ρ w args' hr ha (c :: cs)
 refine ⟨ρ,w',v,⟨fun _ _=>rfl,Nat.le_refl _,⟨fun b im e hb'=>?_,hr.apart,hr.fresh,fun b im e=>Nat.lt_of_lt_of_le (hr.there b im e) hb.size,Nat.le_trans hr.size hb.size,hr.glob,hr.top,hr.grp⟩,
  fun cb hcb _=>hb.block cb hcb,fun b im _ h1 h2=>absurd h2 (by omega),hb.size,hb.os,hb.tape,hb.output⟩,VRel.flatR h2,goes_calls h3 hc hl⟩
 exact BlkRel.mono (Le.refl _) (hb.block im.blk (hr.there b im e)) (hr.blk b im e hb')
theorem Cl.sim {P:Program} {Or:OrRel} (hmix:P.follows .mixedOrders=true) (hO:OrTop Or) (hS:OrSim P 0 Or):CallSim P 0 (Cl P Or 0):=by
 rintro n0 t args H v H' ⟨m,h⟩
 exact callN_sim hmix hO hS m n0 t args H v H' h
theorem Cl.top {P:Program} {Or:OrRel} (hO:OrTop Or):CallTop (Cl P Or 0):=by
 rintro t args H v H' ⟨m,h⟩
 exact callN_top hO m _ _ _ _ _ h
end Go.Proofs.Swa
set_option linter.unusedVariables false
set_option linter.unusedSimpArgs false
namespace Go.Proofs.Swa
open Go
inductive Tr (α:Type) where
 | nil
 | leaf (a:α)
 | node (l r:Tr α)
theorem nbeq {a b:Nat}:Nat.beq a b=decide (a=b):=by
 rw [Bool.eq_iff_iff];simp
abbrev CEnv:=Tr Value
inductive CObj where
 | cells (c:List Value) (T:TypeId) (k:Kd)
 | map (es:List (Value×Value))
 | iter (s:ByteArray) (pos:Nat)
 | loop (nt:Nat) (env:CEnv) (ps:Array Tmp) (asg body:Code) (st:LoopState) (pend:Option Code)
structure CH where
 n:Nat
 clk:Nat
 w:Nat
 t:Tr (CObj×Nat)
 g:Tr (List (Nat×Nat))
def eqL:List UInt8→List UInt8→Bool
 | [],[]=>true
 | a :: l,b :: m=>(match Nat.beq a.toNat b.toNat with|true=>eqL l m|false=>false)
 | _,_=>false
theorem eqL_eq:∀ (l m:List UInt8),eqL l m=decide (l=m)
 | [],[]=>rfl
 | [],b :: m=>rfl
 | a :: l,[]=>rfl
 | a :: l,b :: m=>by
  rw [eqL,nbeq]
  by_cases h:a.toNat=b.toNat
  ·have:a=b:=UInt8.toNat.inj h
   subst this
   simp [eqL_eq l m]
  ·have:a≠b:=fun e=>h (by rw [e])
   simp [h,this]
def eqS (a b:ByteArray):Bool:=eqL a.data.toList b.data.toList
theorem eqS_eq (a b:ByteArray):eqS a b=decide (a=b):=by
 unfold eqS
 rw [eqL_eq]
 rw [Bool.eq_iff_iff]
 simp only [decide_eq_true_eq]
 constructor
 ·intro h
  cases a;cases b
  congr 1
  exact Array.ext' h
 ·rintro rfl;rfl
theorem toList_loop (s:ByteArray):∀ (n i:Nat) (r:List UInt8),s.size - i=n→ByteArray.toList.loop s i r=r.reverse ++ s.data.toList.drop i
 | 0,i,r,h=>by
  have h2:s.data.toList.length=s.size:=rfl
  rw [ByteArray.toList.loop,if_neg (by omega),List.drop_eq_nil_of_le (by omega),List.append_nil]
 | n + 1,i,r,h=>by
  have h2:s.data.toList.length=s.size:=rfl
  have hi:i < s.data.toList.length:=by omega
  rw [ByteArray.toList.loop,if_pos (by omega),toList_loop s n (i + 1) _ (by omega),List.drop_eq_getElem_cons hi]
  have:s.get! i=s.data.toList[i]:=by
   show s.data[i]! = _
   rw [getElem!_pos s.data i (by simpa using hi)]
   simp
  rw [this]
  simp
theorem toList_data (s:ByteArray):s.toList=s.data.toList:=by
 rw [ByteArray.toList,toList_loop s s.size 0 [] (by omega)]
 simp
theorem eqS_list (p q:ByteArray):(p.toList == q.toList)=eqS p q:=by
 rw [toList_data,toList_data,eqS,eqL_eq,Bool.eq_iff_iff]
 simp
theorem bop_eqlS' {P:Program} {t:TypeId} {x y:Operand} {p q:ByteArray}:bopA P .eql t x y (.string p) (.string q)=some (.bool (eqS p q)):=by
 rw [← eqS_list]
 simp [bopA,dflat,flat,eqGuard,binOp,Op.stringOp,keep]
section
variable (P:Program)
abbrev CallX:=Tgt→List Value→CH→(Value→CH→Bool)→Bool
variable {C:CallRel} {call:CallX}
end
noncomputable section
def fB (b:Bool) (k:Bool→Bool):Bool:=Bool.rec (motive:=fun _=>Bool) (k false) (k true) b
variable (P:Program)
variable {C:CallRel} {call:CallX}
end

theorem law_callsC {P:Program} (hmix:P.follows .mixedOrders=true) {f:FuncId} {w:World} {L:List RoB} (hL:∀ r,r∈L→RoOk w r) {args args':Array Value} (ha:ARel (renOf w L) args args')
  (hc:∃ v H',Cl P (OrC P) 0 (.fn f) args (heapOf L) v H'∧v=.bool true∧Fr (heapOf L).n [] (heapOf L) H') :
  Calls P f args' w fun e w'=>e=.returned (.bool true)∧Go.RowKit.Below w.heap.size w w':=by
 obtain ⟨v,H',⟨n,h⟩,rfl,hF⟩:=hc
 have hf:Fresh (renOf w L) (heapOf L) H':=by
  intro b hb _
  have hb:L.length≤b:=hb
  unfold renOf
  rw [List.getElem?_eq_none hb]
  rfl
 cases n with
 | zero=>exact h.elim
 | succ n =>
  rcases h with ⟨_,_,_,h2⟩|⟨fn,c,ex,env1,e1,e2,e4,e3,hok,hrun,hex,hres⟩
  ·exact h2 _ _ _ _ (rel_ro hL) ha
  ·intro cs
   obtain ⟨ρ1,w1,v',fr,s1,q1,q2,q3,q4⟩:=fn_sim hmix (callN_sim hmix OrC.top OrC.sim n) (callN_top OrC.top n) e1 e2 e3 hok hrun hex hres (rel_ro hL) ha hf cs
   have:=q1.of_flat rfl
   subst this
   exact ⟨.returned (.bool true),w1,fr,⟨rfl,s1.os,s1.tape,s1.output,s1.size,fun k hk=>s1.frame k hk (owned_ro _ _)⟩,q2,q3,q4⟩
theorem dw_calls {P:Program} {C:CallRel} {f:FuncId} {fn:Func} {c:Code} {v:Value} (e1:P.funcs[f]? = some fn) (e2:fn.body=some c) {args args':Array Value} (e3:args.size≤fn.ntmps) (hok:codeOk 0 fn.ntmps c=true) (hv:flatR v=true)
  {w:World} {L:List RoB} (hL:∀ r,r∈L→RoOk w r) (ha:ARel (renOf w L) args args')
  (h:DW P C 0 fn.ntmps (heapOf L).n c (argEnv args) (heapOf L) none fun x e H _=>(x=.normal∨x=.ret)∧resultsA P fn e H=some v) :
  Calls P f args' w fun e w'=>e=.returned v∧Go.RowKit.Below w.heap.size w w':=by
 intro cs
 have hr:=rel_ro hL
 have hf:∀ b,(heapOf L).n≤b→renOf w L b=none:=by
  intro b hb
  have hb:L.length≤b:=hb
  unfold renOf
  rw [List.getElem?_eq_none hb]
  rfl
 have hent:Frame.enter P f args' .normal=(⟨f,.normal,none⟩:FB).at (args' ++ Array.replicate (fn.ntmps - args'.size) undef) [] [.code c]:=by
  simp [Frame.enter,FB.at,e1,e2]
 obtain ⟨x,env1,H1,g1,ρ1,w1,a1,ds1,⟨hx,hres⟩,s1,z1,he1,hf1,hg1,m1,_,l1⟩:=h w.heap.size w.heap.size ⟨f,.normal,none⟩ _ _ w _ w _ [] (.code c) [] cs rfl hok (.inl rfl) (.inl rfl) (Step.refl hr) (argEnv_rel ha e3) hf trivial Marks.none (Nat.le_refl _)
 have hret:∃ todo,Steps P (lone (Frame.enter P f args' .normal) cs w) (lone { (⟨f,.normal,none⟩:FB).at a1 ds1 todo with mode:=.returning } cs w1):=by
  rw [hent]
  rcases hx with rfl|rfl
  ·exact ⟨[],Steps.trans l1 (.one (st_retN rfl))⟩
  ·obtain ⟨k2,l1⟩:=l1
   exact ⟨_,Steps.trans l1 (.one (st_retR rfl))⟩
 obtain ⟨todo,hret⟩:=hret
 obtain ⟨w2,r1,r2,r3,r4,r5,r6,r7⟩:=unwind_marks (P:=P) (b:=⟨f,.normal,none⟩) (a:=a1) (todo:=todo) (cs:=cs) ds1 w1 m1 s1.rel
 obtain ⟨v',q1,q2⟩:=results_sim r1 he1 hres
 obtain rfl:=q2.of_flatR hv
 have s:=s1.unwound r1 r2 r3 r4 r5 r6
 exact ⟨.returned v',w2,_,⟨rfl,s.os,s.tape,s.output,s.size,fun k hk=>s.frame k hk (owned_ro _ _)⟩,hret.trans r7,rfl,rfl,rfl,rfl,fn,e1,q1⟩
theorem renOf_app {w:World} {L M:List RoB}:Le (renOf w L) (renOf w (L ++ M)):=by
 intro b im h
 unfold renOf at h ⊢
 by_cases hb:b < L.length
 ·rw [List.getElem?_append_left hb];exact h
 ·rw [List.getElem?_eq_none (by omega)] at h;cases h
section
variable {P:Program} {b:FB} {a:Array Value} {ds:List Deferred} {k:List Item} {cs:List Frame} {w:World}
theorem st_defer {ops:Array Oper} {i:Nat} {rest:List Nat} {o:Oper} {c:Call} {d:Deferred} (ho:ops[i]? = some o) (hop:o.op=.defer c) (hw:Region.wanted o (yielded ops a)=true) (hrd:b.rd=none) (hr:(resolve (evc a) c o.type).run P w=.ok d w) :
  step P (lone (b.at a ds (.inRegion ops (i :: rest) :: k)) cs w)=.next (lone (b.at (setT a o.dst undef) (d :: ds) (.inRegion ops rest :: k)) cs w):=by
 rw [← FB.finish (b:=b) (a:=a) (ds:=d :: ds) (k:=k) ops i rest undef ho]
 have he:=FB.eval' (b:=b) (a:=a) (ds:=ds) (.inRegion ops (i :: rest) :: k)
 obtain ⟨fn,kind,rd⟩:=b
 simp only at hrd
 subst hrd
 simp only [FB.at] at he
 obtain ⟨dst,op,ty,pos,after,guard⟩:=o
 simp only at hop
 subst hop
 refine step_lone_go ?_
 have hx:(execOp (evc a) ⟨dst,.defer c,ty,pos,after,guard⟩).run P w=.ok (.defer d) w:=by
  simp only [execOp,Sem.run_bind,hr,Result.andThen_ok,Sem.run_pure]
 simp [stepG,stepG.exec,stepG.oper,Frame.oper?,FB.at,ho,hw,he,stepG.apply,hx]
theorem st_callDeferred {todo : List Item} {f : FuncId} {fn : Func} {c : Code} {cap args : Array Value} (e1 : P.funcs[f]? = some fn) (e2 : fn.body = some c) (e3 : (fn.name == "runtime.NumGoroutine") = false) :
  step P (lone { b.at a ({ target:=.fn (.func f) cap,args:=args } :: ds) todo with mode:=.returning } cs w) =
   .next (lone (Frame.enter P f (args ++ cap) .deferred) ({ b.at a ds todo with mode:=.returning } :: cs) w):=by
 refine step_lone_go ?_
 have h:(invoke (.fn (.func f) cap) args).run P w=.ok (.enter f (args ++ cap)) w:=by
  simp only [invoke]
  exact run_callFunc_go e1 e2 e3 _ _
 simp [stepG,unwind,callDeferred,FB.at,Sem.runT_eq,h]
theorem st_returnD {todo:List Item} {fn:Func} {v:Value} (hk:b.kind=.deferred) (hf:P.funcs[b.fn]? = some fn) (hr:(results fn a).run P w=.ok v w) (c:Frame) (hc:c.mode=.returning) :
  step P (lone { b.at a [] todo with mode:=.returning } (c :: cs) w)=.next (lone c cs w):=by
 refine step_lone_go ?_
 obtain ⟨f,kind,rd⟩:=b
 simp only at hk hf
 subst hk
 simp [stepG,unwind,FB.at,Sem.runT_eq,hf,hr,doReturn,hc]
end
theorem fn_simK {P:Program} {ng:Nat} {C:CallRel} (hmix:P.follows .mixedOrders=true) (hC:CallSim P ng C) (hT:CallTop C) {n0:Nat} {f:FuncId} {args:Array Value} {H H':AHeap} {v:Value}
  {fn:Func} {c:Code} {ex:Ex} {env1:Env} (e1:P.funcs[f]? = some fn) (e2:fn.body=some c) (e3:args.size≤fn.ntmps) (hok:codeOk ng fn.ntmps c=true)
  (hrun:ARun P C ng fn.ntmps c (argEnv args) H ex env1 H') (hex:ex=.normal∨ex=.ret) (hres:resultsA P fn env1 H'=some v)
  {ρ:Ren} {w:World} {args':Array Value} (hr:Rel ng n0 ρ H w) (ha:ARel ρ args args') (hf:Fresh ρ H H') (kd:CallKind) (cs:List Frame) :
  ∃ ρ' w' v' a' todo,Step ng n0 ρ H w ρ' H' w'∧VRel ρ' v v'∧Steps P (lone (Frame.enter P f args' kd) cs w) (lone { (⟨f,kd,none⟩:FB).at a' [] todo with mode:=.returning } cs w')∧(results fn a').run P w'=.ok v' w':=by
 have hent:Frame.enter P f args' kd=(⟨f,kd,none⟩:FB).at (args' ++ Array.replicate (fn.ntmps - args'.size) undef) [] [.code c]:=by
  simp [Frame.enter,FB.at,e1,e2]
 obtain ⟨ρ1,w1,a1,ds1,s1,he1,m1,_,l1⟩:=arun_sim hmix hC hT hrun n0 w.heap.size ⟨f,kd,none⟩ ρ w _ [] (.code c) [] cs hok (.inl rfl) (.inl rfl) hr (argEnv_rel ha e3) hf Marks.none (Nat.le_refl _)
 have hret:∃ todo,Steps P (lone (Frame.enter P f args' kd) cs w) (lone { (⟨f,kd,none⟩:FB).at a1 ds1 todo with mode:=.returning } cs w1):=by
  rw [hent]
  rcases hex with rfl|rfl
  ·exact ⟨[],Steps.trans l1 (.one (st_retN rfl))⟩
  ·obtain ⟨k2,l1⟩:=l1
   exact ⟨_,Steps.trans l1 (.one (st_retR rfl))⟩
 obtain ⟨todo,hret⟩:=hret
 obtain ⟨w2,r1,r2,r3,r4,r5,r6,r7⟩:=unwind_marks (P:=P) (b:=⟨f,kd,none⟩) (a:=a1) (todo:=todo) (cs:=cs) ds1 w1 m1 s1.rel
 obtain ⟨v',q1,q2⟩:=results_sim r1 he1 hres
 exact ⟨ρ1,w2,v',a1,todo,s1.unwound r1 r2 r3 r4 r5 r6,q2,hret.trans r7,q1⟩
def DefW (P:Program) (C:CallRel) (ng:Nat) (fn:Func) (c0:Code) (ops:Array Oper) (pre:List Oper) (o:Oper) (g:Operand) (rest:Code) (kf:FuncId) (fk:Func) (ck:Code) (R:Value→AHeap→Prop) (env:Env) (H:AHeap):Prop :=
 W P C ng fn.ntmps c0 env H fun x e0 H0=>x=.normal∧WO P C ops pre (fun e1 H1=>∃ first cap,ev e1 g=.func (.func kf) first cap∧first.size + cap.size≤fk.ntmps ∧
  W P C ng fn.ntmps rest (e1.set o.dst undef) H1 fun x2 e2 H2=>(x2=.normal∨x2=.ret)∧W P C ng fk.ntmps ck (argEnv (first ++ cap)) H2 fun x3 e3 H3=>(x3=.normal∨x3=.ret)∧(∃ vd,resultsA P fk e3 H3=some vd) ∧
   ∃ v,resultsA P fn e2 H3=some v∧R v H3) e0 H0
theorem def_sim {P:Program} {ng:Nat} {C:CallRel} (hmix:P.follows .mixedOrders=true) (hC:CallSim P ng C) (hT:CallTop C) {n0:Nat} {f kf:FuncId} {args:Array Value} {H:AHeap}
  {fn fk:Func} {c0 rest ck:Code} {id:Nat} {ops:Array Oper} {pre:List Oper} {o:Oper} {g:Operand} {ty:Array TypeId} {R:Value→AHeap→Prop} (e1:P.funcs[f]? = some fn) (e2:fn.body=some (.seq c0 (.seq (.region id ops false) rest))) (e3:args.size≤fn.ntmps)
  (hok0:codeOk ng fn.ntmps c0=true) (hokr:codeOk ng fn.ntmps rest=true) (hnr0:noRange c0=true) (hnrr:noRange rest=true) (hops:ops.toList=pre ++ [o]) (hokp:(pre.all (opOk ng fn.ntmps))=true) (hop:o.op=.defer ⟨.value g,#[],ty⟩) (hg:o.guard=none) (hod:o.dst=none) (hgo:okOpd ng g=true)
  (k1 : P.funcs[kf]? = some fk) (k2 : fk.body = some ck) (k3 : (fk.name == "runtime.NumGoroutine") = false) (hokk : codeOk ng fk.ntmps ck = true)
  (h:DefW P C ng fn c0 ops pre o g rest kf fk ck R (argEnv args) H)
  {ρ:Ren} {w:World} {args':Array Value} (hr:Rel ng n0 ρ H w) (ha:ARel ρ args args') (hf:∀ b,H.n≤b→ρ b=none) (cs:List Frame) :
  ∃ v H' ρ' w' v' fr,R v H'∧Step ng n0 ρ H w ρ' H' w'∧VRel ρ' v v'∧Steps P (lone (Frame.enter P f args' .normal) cs w) (lone fr cs w')∧fr.fn=f∧fr.leaving P w' (.returned v'):=by
 obtain ⟨x,e0,H0,r0,rfl,e1',H1,r1,first,cap,hev,hsz,x2,e2',H2,r2,hx2,x3,e3',H3,r3,hx3,⟨vd,hvd⟩,v,hv,hR⟩:=h
 have hent:Frame.enter P f args' .normal=(⟨f,.normal,none⟩:FB).at (args' ++ Array.replicate (fn.ntmps - args'.size) undef) [] [.code (.seq c0 (.seq (.region id ops false) rest))]:=by
  simp [Frame.enter,FB.at,e1,e2]
 have fresh:∀ {ρ':Ren} {A B:AHeap} {w':World},Step ng n0 ρ H w ρ' A w'→Fresh ρ' A B:=fun s y q1 _=>by rw [s.ext y (.inr q1)];exact hf y (Nat.le_trans s.hn q1)
 obtain ⟨ρ1,w1,a1,ds1,s1,he1,_,n1,l1⟩:=arun_simB hmix hC hT r0 n0 w.heap.size [] ⟨f,.normal,none⟩ ρ w _ [] (.code c0) [.code (.seq (.region id ops false) rest)] cs hok0 (.inl rfl) (.inl rfl) hr (argEnv_rel ha e3) (fun y q1 _=>hf y q1) ⟨[],rfl,Marks.none⟩ (Nat.le_refl _)
 obtain rfl:=n1 hnr0
 have hallp:∀ q,q∈pre→opOk ng fn.ntmps q=true:=fun q hq=>List.all_eq_true.1 hokp q hq
 obtain ⟨ρ2,w2,a2,s2,he2,l2⟩:=opsSeg_sim (b:=⟨f,.normal,none⟩) (ds:=[]) (k:=[.code rest]) (cs:=cs) hC hT pre 0 [o] e0 e1' H0 H1 hallp (by simpa using hops) r1 ρ1 w1 a1 s1.rel he1 (fresh s1)
 obtain ⟨hoo,_,hrng,_⟩:=split_at (pre:=pre) (post:=[]) hops
 have hgv:=opd_rel s2.rel he2 g hgo
 rw [hev] at hgv
 obtain ⟨fn',first',cap',hge,hfn',hf',hc'⟩:=hgv.func_inv
 cases hfn'
 have hres:(resolve (evc a2) ⟨.value g,#[],ty⟩ o.type).run P w2=.ok { target:=.fn (.func kf) cap',args:=first' } w2:=by
  simp only [resolve,hge]
  have:(Deferred.ofValue (.func (.func kf) first' cap') (#[].map (evc a2))).run P w2=.ok { target:=.fn (.func kf) cap',args:=first' ++ #[].map (evc a2) } w2:=rfl
  simpa using this
 have hw:Region.wanted o (yielded ops a2)=true:=by simp [Region.wanted,hg]
 have l3:=st_defer (P:=P) (b:=⟨f,.normal,none⟩) (a:=a2) (ds:=[]) (k:=[.code rest]) (cs:=cs) (w:=w2) (rest:=(List.range ops.size).drop (pre.length + 1)) hoo hop hw rfl hres
 have hend:(List.range ops.size).drop (pre.length + 1)=[]:=by
  have:ops.size=pre.length + 1:=by have:=congrArg List.length hops;simpa using this
  rw [List.drop_eq_nil_iff,List.length_range]
  omega
 have s12:=s1.trans s2
 have he2':EnvRel ρ2 fn.ntmps (e1'.set o.dst undef) (setT a2 o.dst undef):=he2.setT (by rw [hod];intro t q;cases q) (undef_rel ρ2)
 obtain ⟨ρ3,w3,a3,ds3,s3,he3,_,n3,l4⟩:=arun_simB hmix hC hT r2 n0 w2.heap.size [{ target:=.fn (.func kf) cap',args:=first' }] ⟨f,.normal,none⟩ ρ2 w2 _ [{ target:=.fn (.func kf) cap',args:=first' }] (.code rest) [] cs hokr (.inl rfl) (.inl rfl) s2.rel he2' (fresh s12) ⟨[],rfl,Marks.none⟩ (Nat.le_refl _)
 obtain rfl:=n3 hnrr
 have s13:=s12.trans s3
 have l14:∃ todo,Steps P (lone (Frame.enter P f args' .normal) cs w) (lone { (⟨f,.normal,none⟩:FB).at a3 [{ target:=.fn (.func kf) cap',args:=first' }] todo with mode:=.returning } cs w3):=by
  rw [hent]
  have q1:Steps P (lone ((⟨f,.normal,none⟩:FB).at (args' ++ Array.replicate (fn.ntmps - args'.size) undef) [] [.code (.seq c0 (.seq (.region id ops false) rest))]) cs w) (lone ((⟨f,.normal,none⟩:FB).at (setT a2 o.dst undef) [{ target:=.fn (.func kf) cap',args:=first' }] [.code rest]) cs w2):=by
   refine Steps.head st_seq (Steps.trans l1 (Steps.head st_seq (Steps.head st_region ?_)))
   have l2:Steps P (lone ((⟨f,.normal,none⟩:FB).at a1 [] [.inRegion ops (List.range ops.size),.code rest]) cs w1) (lone ((⟨f,.normal,none⟩:FB).at a2 [] [.inRegion ops ((List.range ops.size).drop pre.length),.code rest]) cs w2):=by simpa using l2
   rw [hrng] at l2
   refine l2.trans (Steps.head l3 ?_)
   rw [hend]
   exact .one st_regionEnd
  rcases hx2 with rfl|rfl
  ·exact ⟨[],q1.trans (Steps.trans l4 (.one (st_retN rfl)))⟩
  ·obtain ⟨k2',l4⟩:=l4
   exact ⟨_,q1.trans (Steps.trans l4 (.one (st_retR rfl)))⟩
 obtain ⟨todo,l14⟩:=l14
 have hle3:=s3.le (fresh s12)
 have hac:ARel ρ3 (first ++ cap) (first' ++ cap'):=(hf'.append hc').mono hle3
 obtain ⟨ρ4,w4,vd',a4,todo4,s4,_,l5,q4⟩:=fn_simK hmix hC hT (n0:=n0) k1 k2 (by simpa using hsz) hokk r3 hx3 hvd s3.rel hac (fresh s13) .deferred ({ (⟨f,.normal,none⟩:FB).at a3 [] todo with mode:=.returning } :: cs)
 have l6:=st_returnD (P:=P) (b:=⟨kf,.deferred,none⟩) (a:=a4) (todo:=todo4) (cs:=cs) (w:=w4) rfl k1 q4 { (⟨f,.normal,none⟩:FB).at a3 [] todo with mode:=.returning } rfl
 have hle4:=s4.le (fresh s13)
 obtain ⟨v',q1,q2⟩:=results_sim s4.rel (he3.mono hle4) hv
 refine ⟨v,H3,ρ4,w4,v',_,hR,s13.trans s4,q2,l14.trans (Steps.head (st_callDeferred k1 k2 k3) (l5.trans (.one l6))),rfl,rfl,rfl,rfl,fn,e1,q1⟩
def u8s (l:List UInt8):List Value:=l.map fun x=>.int .u8 x.toNat
theorem freeze_new {w:World} {c:Array Value} {e:TypeId}:(w.alloc (.cells c e)).freeze ⟨w.heap.size,c.size,none⟩ 1=w.alloc (.cells c e (c.size,c.size + 1)):=by
 have hh:(w.heap.push (.cells c e)).modify w.heap.size (fun
   | .cells c elem (lo,hi)=>.cells c elem (if lo == hi then (c.size,c.size + 1) else (min lo c.size,max hi (c.size + 1)))
   | o=>o)=w.heap.push (.cells c e (c.size,c.size + 1)):=by
  apply Array.ext (by simp)
  intro i h1 h2
  rw [Array.getElem_modify,Array.getElem_push,Array.getElem_push]
  by_cases hi:i < w.heap.size
  ·rw [if_neg (by omega),dif_pos hi,dif_pos hi]
  ·have:i=w.heap.size:=by simp at h1;omega
   subst this
   rw [if_pos rfl,dif_neg (by omega),dif_neg (by omega)]
   simp
 unfold World.freeze World.alloc
 rw [if_neg (by decide)]
 congr 1
 rw [← hh]
 apply Array.ext (by simp)
 intro i h1 h2
 rw [Array.getElem_modify,Array.getElem_modify]
 split
 ·rename_i q
  subst q
  rw [Array.getElem_push_eq]
 ·rfl
theorem s2b_run {P:Program} {s:ByteArray} {e src dst:TypeId} (hs:P.underlying src=some .string) (hd:P.underlying dst=some (.slice e)) (he:P.underlying e=some (.int .u8)) (w:World) :
  ∃ c':Array Value,(convert src dst (.string s)).run P w=.ok (.slice (some ⟨w.heap.size,0,none⟩) s.size c'.size) (w.drew.alloc (.cells c' e (c'.size,c'.size + 1)))∧s.size≤c'.size∧∀ j,j < (u8s s.data.toList).length→c'[j]? = (u8s s.data.toList)[j]?:=by
 obtain ⟨cap,hcap,hch⟩:∃ cap,s.size≤cap∧(choose (.appendCap s.size 0 e)).run P w=.ok cap w.drew:=by
  exact ⟨(Question.appendCap s.size 0 e).cut (w.tape w.drawn (.appendCap s.size 0 e)),by simp [Question.cut],by rfl⟩
 have hsz:(s.data.map fun b=>Value.int .u8 b.toNat).size=s.size:=by simp
 have hsz2:((s.data.map fun b=>Value.int .u8 b.toNat) ++ Array.replicate (cap - s.size) (Value.int .u8 0)).size=cap:=by simp;omega
 refine ⟨(s.data.map fun b=>Value.int .u8 b.toNat) ++ Array.replicate (cap - s.size) (.int .u8 0), ?_,by rw [hsz2];exact hcap,fun j hj=>?_⟩
 ·have hshape:(w.drew.alloc (.cells ((s.data.map fun b=>Value.int .u8 b.toNat) ++ Array.replicate (cap - s.size) (.int .u8 0)) e)).shape? w.heap.size=some (e,cap):=by
   unfold World.shape?
   have q:=heap_alloc_new (w:=w.drew) (o:=.cells ((s.data.map fun b=>Value.int .u8 b.toNat) ++ Array.replicate (cap - s.size) (.int .u8 0)) e)
   have q:(w.drew.alloc (.cells ((s.data.map fun b=>Value.int .u8 b.toNat) ++ Array.replicate (cap - s.size) (.int .u8 0)) e)).heap[w.heap.size]? = _:=q
   rw [q]
   simp only [hsz2]
  have hfr:=freeze_new (w:=w.drew) (c:=(s.data.map fun b=>Value.int .u8 b.toNat) ++ Array.replicate (cap - s.size) (.int .u8 0)) (e:=e)
  rw [hsz2] at hfr
  rw [hsz2]
  have hdr:w.drew.heap.size=w.heap.size:=rfl
  rw [hdr] at hfr
  simp only [convert,Sem.run_bind,run_underlying' hs,run_underlying' hd,run_underlying' he,Result.andThen_ok,Conv.stringToBytes,hch,newRow,run_newObj,Sem.run_pure,markStringish,run_shape,World.alloc_eq,hshape,run_freeze,hfr,hdr]
 ·have hl:j < s.data.size:=by simpa [u8s] using hj
  rw [Array.getElem?_append_left (by simpa using hl)]
  simp [u8s,hl]
theorem s2b_step {P:Program} {ng n0:Nat} {ρ:Ren} {H:AHeap} {w:World} (h:Rel ng n0 ρ H w) (hf:ρ H.n=none) {s:ByteArray} {e src dst:TypeId} (hs:P.underlying src=some .string) (hd:P.underlying dst=some (.slice e)) (he:P.underlying e=some (.int .u8)) :
  ∃ v' w' ρ',(convert src dst (.string s)).run P w=.ok v' w'∧Step ng n0 ρ H w ρ' (H.alloc (.cells (u8s s.data.toList) e (.gr H.n 1 true))) w'∧VRel ρ' (.slice (some ⟨H.n,0,none⟩) s.size s.size) v'∧ρ'=ρ.add H.n { blk:=w.heap.size,base:=0,sz:=(match v' with|.slice _ _ c=>c|_=>0),ro:=false,gr:=true,grp:=H.n,esz:=1 }:=by
 obtain ⟨c',hrun,hle,hget⟩:=s2b_run (P:=P) (s:=s) hs hd he w
 have h':Rel ng n0 ρ H w.drew:=h.of_heap rfl
 have hlr:LRel ρ (u8s s.data.toList) (u8s s.data.toList):=⟨rfl,fun i h1 h2=>by simp only [u8s,List.getElem_map];exact ⟨.flat rfl,rfl⟩⟩
 have hlen:(u8s s.data.toList).length=s.size:=by simp [u8s]
 have st:=step_new h' hf (.cells (u8s s.data.toList) e (.gr H.n 1 true)) (.cells c' e (c'.size,c'.size + 1)) { blk:=w.heap.size,base:=0,sz:=c'.size,ro:=false,gr:=true,grp:=H.n,esz:=1 } rfl rfl
  ⟨⟨rfl,rfl,rfl,rfl,rfl⟩,c',e,_,heap_alloc_new,rfl,by simp only;omega,fun _=>.inr (Nat.le_refl _),fun _=>(lrel_arr hlr c' hget).mono (Ren.le_add hf)⟩ (fun c T g' e' l q=>by cases q;exact Nat.le_refl _)
 refine ⟨_,_,_,hrun,⟨st.ext,st.hn,st.rel,st.frame,st.img,st.size,st.os,st.tape,st.output⟩, ?_,rfl⟩
 have:=VRel.slice (ρ:=ρ.add H.n { blk:=w.heap.size,base:=0,sz:=c'.size,ro:=false,gr:=true,grp:=H.n,esz:=1 }) (b:=H.n) (o:=0) (n:=s.size) (c:=s.size) (c':=c'.size) (Ren.add_self _ _ _) (.inl ⟨rfl,hle,by simp⟩) (Nat.le_refl _)
 simpa using this
theorem b2s_run {P:Program} {w:World} {a:Addr} {c:Nat} (l:List UInt8) (hl:(loadCells a l.length).run P w=.ok (u8s l).toArray w):(Conv.bytesToString (.slice (some a) l.length c)).run P w=.ok (.string ⟨l.toArray⟩) w:=by
 have go:∀ (F:Value→ByteArray→Sem (ForInStep ByteArray)),(∀ (x:UInt8) r,F (.int .u8 x.toNat) r=pure (.yield (r.push x)))→∀ (l:List UInt8) (s:ByteArray),(forIn (u8s l) s F).run P w=.ok ⟨s.data ++ l.toArray⟩ w:=by
  intro F hF l
  induction l with
  | nil=>intro s;simp [u8s,Sem.run_pure]
  | cons x l ih =>
   intro s
   have q:=ih (s.push x)
   simp only [u8s,List.map_cons,List.forIn_cons,Sem.run_bind,pure_bind,hF,Sem.run_pure,Result.andThen_ok] at q ⊢
   rw [q]
   congr 2
   simp [ByteArray.push]
 simp only [Conv.bytesToString,Sem.run_bind,hl,Result.andThen_ok,List.forIn_toArray]
 rw [go _ (fun x r=>by simp)]
 simp [Sem.run_pure]
theorem b2s_sim {P:Program} {ng n0:Nat} {ρ:Ren} {H:AHeap} {w:World} (hr:Rel ng n0 ρ H w) {x x':Value} {l:List UInt8} (h:srcA H 1 x=some (u8s l)) (hx:VRel ρ x x') {a:Option Addr} {c:Nat} (hn:x=.slice a l.length c) {e src dst:TypeId}
  (hs:P.underlying src=some (.slice e)) (hd:P.underlying dst=some .string) (he:P.underlying e=some (.int .u8)):(convert src dst x').run P w=.ok (.string ⟨l.toArray⟩) w:=by
 subst hn
 have conv:∀ b n c,(convert src dst (.slice b n c)).run P w=(Conv.bytesToString (.slice b n c)).run P w:=by
  intro b n c
  cases b <;> simp only [convert,Sem.run_bind,run_underlying' hs,run_underlying' hd,run_underlying' he,Result.andThen_ok]
 have nil:∀ a' c',l=[]→(Conv.bytesToString (.slice (some a') 0 c')).run P w=.ok (.string ⟨l.toArray⟩) w:=by
  rintro a' c' rfl
  exact b2s_run [] (by rfl)
 cases a with
 | none =>
  have h:(if l.length=0 then some [] else none)=some (u8s l):=h
  obtain rfl:=hx.of_flat rfl
  by_cases h0:l.length=0
  ·have:l=[]:=List.eq_nil_of_length_eq_zero h0
   subst this
   rw [conv]
   rfl
  ·rw [if_neg h0] at h;cases h
 | some a =>
  obtain ⟨b,o,sp⟩:=a
  cases sp with
  | some q=>cases hx;rename_i hf;simp [Swa.flat] at hf
  | none =>
   have h:(if l.length=0 then some [] else match H.rd b with|some c=>if o + l.length * 1≤c.length then some ((c.drop o).take (l.length * 1)) else none|none=>none)=some (u8s l):=h
   rcases hx.slice_inv with ⟨im,c',hb,hcap,hn,rfl⟩|⟨ho,h0,hc0,a,c',rfl⟩
   ·rw [conv]
    by_cases h0:l.length=0
    ·have:=List.eq_nil_of_length_eq_zero h0
     rw [h0]
     exact nil _ _ this
    ·rw [if_neg h0] at h
     split at h
     ·rename_i d hd'
      split at h
      ·rename_i hfit
       simp only [Nat.mul_one] at hfit h
       obtain ⟨l',q1,q2,q3⟩:=cells_read P hr hd' hb o l.length hfit
       simp only [Option.some.injEq] at h
       have:l'=u8s l:=by
        refine List.ext_getElem (by rw [q2];simp [u8s]) fun i h1 h2=>?_
        have h3:i < ((d.drop o).take l.length).length:=by rw [h];exact h2
        have q:=(q3 i h3 h1).1
        have e:((d.drop o).take l.length)[i]=(u8s l)[i]:=by simp only [h]
        rw [e] at q
        have fl:Swa.flat (u8s l)[i]=true:=by simp [u8s,Swa.flat]
        exact q.of_flat fl
       rw [this] at q1
       exact b2s_run l q1
      ·cases h
     ·cases h
   ·rw [conv]
    exact nil _ _ (List.eq_nil_of_length_eq_zero h0)
section
variable {P:Program} {C:CallRel} {ng nt N0:Nat}
theorem DW.opM (hC:CallSim P ng C) (hT:CallTop C) {id:Nat} {ops:Array Oper} {pre post:List Oper} {o:Oper} {env:Env} {H:AHeap} {g:Option Gh} {Q:PostG} (hops:ops.toList=pre ++ o :: post) (hg:o.guard=none)
  (h:WO P C ops pre (fun e1 H1=>∃ v H2,H1.n≤H2.n∧(∀ (n0:Nat) (ρ:Ren) (w:World) (a:Array Value),Rel ng n0 ρ H1 w→EnvRel ρ nt e1 a→(∀ x,x∈o.op.operands→VRel ρ (ev e1 x) (evc a x))→(∀ y,H1.n≤y→ρ y=none) →
    ∃ ρ' w' v',(execOp (evc a) o).run P w=.ok (.value v') w'∧Step ng n0 ρ H1 w ρ' H2 w'∧VRel ρ' v v')∧WO P C ops post (fun e2 H3=>Q .normal e2 H3 g) (e1.set o.dst v) H2) env H) :
  DW P C ng nt N0 (.region id ops false) env H g Q:=by
 intro n0 B b ρs Hs ws ρ w a ds it k cs hN hok hrd hst s he hf hgh hm hB
 obtain rfl:it=.code (.region id ops false):=by
  rcases hst with h|⟨_,h,_⟩
  ·exact h
  ·cases h
 simp only [codeOk,regOk,Bool.and_eq_true] at hok
 have hall:∀ o,o∈ops.toList→opOk ng nt o=true:=fun o ho=>(Array.all_eq_true_iff_forall_mem.1 hok.1) o (by simpa using ho)
 obtain ⟨hoo,hpost,hrng,hmem⟩:=split_at hops
 obtain ⟨e1,H1,h1,v,H2,hn2,hop,e2,H3,h2,hq⟩:=h
 obtain ⟨ρ1,w1,a1,s1,he1,l1⟩:=opsSeg_sim (b:=b) (ds:=ds) (k:=k) (cs:=cs) hC hT pre 0 (o :: post) env e1 H H1 (fun q hq=>hall q (by rw [hops];simp [hq])) (by simpa using hops) h1 ρ w a s.rel he (fun y q1 q2=>hf y q1)
 obtain ⟨k1,k2,k3⟩:=opOk_inv (hall o hmem)
 have f1:∀ y,H1.n≤y→ρ1 y=none:=fun y q1=>by rw [s1.ext y (.inr q1)];exact hf y (Nat.le_trans s1.hn q1)
 obtain ⟨ρ2,w2,v',hrun,s2,hv⟩:=hop n0 ρ1 w1 a1 s1.rel he1 (fun x hx=>opd_rel s1.rel he1 x (k2 x hx)) f1
 have hle2:=s2.le (fun y q1 q2=>f1 y q1)
 have hw:Region.wanted o (yielded ops a1)=true:=by simp [Region.wanted,hg]
 have l2:=op_steps (P:=P) (b:=b) (a:=a1) (ds:=ds) (k:=k) (cs:=cs) (ops:=ops) (rest:=(List.range ops.size).drop (pre.length + 1)) hoo hw k3 (w:=w1) (.inl ⟨_,hrun,rfl⟩)
 have he2:EnvRel ρ2 nt (e1.set o.dst v) (setT a1 o.dst v'):=(he1.mono hle2).setT k1 hv
 have f2:∀ y,H2.n≤y→ρ2 y=none:=fun y q1=>by rw [s2.ext y (.inr q1)];exact f1 y (Nat.le_trans hn2 q1)
 obtain ⟨ρ3,w3,a3,s3,he3,l3⟩:=opsRun_sim (b:=b) (ds:=ds) (k:=k) (cs:=cs) hC hT hall post (pre.length + 1) _ e2 _ H3 hpost h2 _ _ _ s2.rel he2 (fun y q1 q2=>f2 y q1)
 have hg1:=hgh.step s1 (s1.le (fun y q1 q2=>hf y q1))
 have hg2:=hg1.step s2 hle2
 refine ⟨.normal,e2,H3,g,ρ3,w3,a3,ds,hq,((s.trans s1).trans s2).trans s3, ?_,he3,fun y q1=>?_,hg2.step s3 (s3.le (fun y q1 q2=>f2 y q1)),((hm.step s1).step s2).step s3,fun _=>rfl, ?_⟩
 ·have:=s1.size
  have:=s2.size
  have:=s3.size
  omega
 ·rw [s3.ext y (.inr q1)]
  exact f2 y (Nat.le_trans s3.hn q1)
 ·refine Steps.head st_region ?_
  have l1:Steps P (lone (b.at a ds (.inRegion ops (List.range ops.size) :: k)) cs w) (lone (b.at a1 ds (.inRegion ops ((List.range ops.size).drop pre.length) :: k)) cs w1):=by simpa using l1
  rw [hrng] at l1
  exact l1.trans (l2.trans l3)
theorem DW.s2b (hC:CallSim P ng C) (hT:CallTop C) {id:Nat} {ops:Array Oper} {pre post:List Oper} {o:Oper} {src dst e:TypeId} {x:Operand} {env:Env} {H:AHeap} {g:Option Gh} {Q:PostG} (hops:ops.toList=pre ++ o :: post) (ho:o.op=.convert src dst x) (hg:o.guard=none)
  (hs:P.underlying src=some .string) (hd:P.underlying dst=some (.slice e)) (hu:P.underlying e=some (.int .u8))
  (h:WO P C ops pre (fun e1 H1=>∃ s,ev e1 x=.string s∧WO P C ops post (fun e2 H3=>Q .normal e2 H3 g) (e1.set o.dst (.slice (some ⟨H1.n,0,none⟩) s.size s.size)) (H1.alloc (.cells (u8s s.data.toList) e (.gr H1.n 1 true)))) env H) :
  DW P C ng nt N0 (.region id ops false) env H g Q:=by
 obtain ⟨e1,H1,h1,s,hx,h2⟩:=h
 refine DW.opM hC hT hops hg ⟨e1,H1,h1,_,_,Nat.le_succ _, ?_,h2⟩
 intro n0 ρ w a hr he hv hf
 have hxv:=hv x (by rw [ho];simp [Op.operands])
 rw [hx] at hxv
 have hx':=hxv.string_inv
 obtain ⟨v',w',ρ',q1,q2,q3,_⟩:=s2b_step (P:=P) (s:=s) hr (hf _ (Nat.le_refl _)) hs hd hu
 refine ⟨ρ',w',v', ?_,q2,q3⟩
 obtain ⟨dst',op,ty,pos,after,guard⟩:=o
 simp only at ho
 subst ho
 simp only [execOp,hx',Sem.run_bind,q1,Result.andThen_ok,Sem.run_pure]
theorem DW.b2s (hC:CallSim P ng C) (hT:CallTop C) {id:Nat} {ops:Array Oper} {pre post:List Oper} {o:Oper} {src dst e:TypeId} {x:Operand} {env:Env} {H:AHeap} {g:Option Gh} {Q:PostG} (hops:ops.toList=pre ++ o :: post) (ho:o.op=.convert src dst x) (hg:o.guard=none)
  (hs:P.underlying src=some (.slice e)) (hd:P.underlying dst=some .string) (hu:P.underlying e=some (.int .u8))
  (h:WO P C ops pre (fun e1 H1=>∃ (l:List UInt8) (a:Option Addr) (c:Nat),ev e1 x=.slice a l.length c∧srcA H1 1 (ev e1 x)=some (u8s l)∧WO P C ops post (fun e2 H3=>Q .normal e2 H3 g) (e1.set o.dst (.string ⟨l.toArray⟩)) H1) env H) :
  DW P C ng nt N0 (.region id ops false) env H g Q:=by
 obtain ⟨e1,H1,h1,l,a0,c0,hx,hsrc,h2⟩:=h
 refine DW.opM hC hT hops hg ⟨e1,H1,h1,_,_,Nat.le_refl _, ?_,h2⟩
 intro n0 ρ w a hr he hv hf
 have hxv:=hv x (by rw [ho];simp [Op.operands])
 have q1:=b2s_sim (P:=P) hr hsrc hxv hx hs hd hu
 refine ⟨ρ,w,_, ?_,Step.refl hr,.flat rfl⟩
 obtain ⟨dst',op,ty,pos,after,guard⟩:=o
 simp only at ho
 subst ho
 simp only [execOp,Sem.run_bind,q1,Result.andThen_ok,Sem.run_pure]
end
theorem SR.carry {n0:Nat} {ρ:Ren} {H:AHeap} {w:World} (hr:Rel 0 n0 ρ H w) {s n:Nat} {v v':Value} {c:List Value} (S:SR H s n v c) (hv:VRel ρ v v') (hfl:∀ x,x∈c→flat x=true) (T:TypeId) (L0:List RoB) (h0:∀ r,r∈L0→RoOk w r) :
  ∃ (M:List RoB) (va:Value),(∀ r,r∈L0 ++ M→RoOk w r)∧VRel (renOf w (L0 ++ M)) va v'∧SR (heapOf (L0 ++ M)) s n va c:=by
 have zero:n=0→(∃ a c',v'=.slice (some a) 0 c')→∃ (M:List RoB) (va:Value),(∀ r,r∈L0 ++ M→RoOk w r)∧VRel (renOf w (L0 ++ M)) va v'∧SR (heapOf (L0 ++ M)) s n va c:=by
  rintro rfl ⟨a,c',rfl⟩
  refine ⟨[],.slice (some ⟨0,1,none⟩) 0 0,by simpa using h0,.empty Nat.zero_lt_one,⟨.inr ⟨0,1,0,rfl,Nat.le_refl _⟩,S.len,.inl rfl,.inl rfl⟩⟩
 rcases S.shape with ⟨rfl,rfl⟩|⟨b,o,k,rfl,hk⟩
 ·obtain rfl:=hv.of_flat rfl
  exact ⟨[],.slice none 0 0,by simpa using h0,.flat rfl,⟨.inl ⟨rfl,rfl⟩,S.len,.inl rfl,.inl rfl⟩⟩
 ·rcases hv.slice_inv with ⟨im,c',hb,hcap,hn,rfl⟩|⟨_,h1,_,a,c',rfl⟩
  rotate_left
  ·exact zero h1 ⟨_,_,rfl⟩
  ·by_cases hz:n=0
   ·subst hz
    exact zero rfl ⟨_,_,rfl⟩
   ·obtain ⟨d,h1,h2,h3⟩:=S.cells.resolve_left hz
    have h1:H.rd b=some d:=h1
    have h2:o + n * s≤d.length:=h2
    have h3:(d.drop o).take (n * s)=c:=h3
    obtain ⟨cc,T',fz,q1,q2,q3⟩:=rd_rel hr h1 hb
    have hlen:=S.len
    have hok:RoOk w ⟨im.blk,im.base + o,c,T⟩:=by
     refine ⟨cc,T',fz,q1,by show im.base + o + c.length≤cc.size;omega,fun i hi=>?_⟩
     have hi:i < c.length:=hi
     have e:c[i]=d[o + i]'(by omega):=by
      subst h3
      simp
     obtain ⟨v'',r1,r2,_⟩:=q3 (o + i) (by omega)
     have fl:=hfl c[i] (List.getElem_mem hi)
     rw [← e] at r2
     have:=r2.of_flat fl
     refine ⟨?_,fl⟩
     show cc[im.base + o + i]? = some c[i]
     rw [Nat.add_assoc,r1,this]
    have hren:renOf w (L0 ++ [⟨im.blk,im.base + o,c,T⟩]) L0.length=some ⟨im.blk,im.base + o,szOf w im.blk,true,false,0,0⟩:=by
     unfold renOf
     rw [List.getElem?_append_right (Nat.le_refl _)]
     simp
    have hget:(heapOf (L0 ++ [⟨im.blk,im.base + o,c,T⟩])).get L0.length=.cells c T .ro:=by
     show (match (L0 ++ [(⟨im.blk,im.base + o,c,T⟩:RoB)])[L0.length]? with|some r=>AObj.cells r.cells r.T .ro|none=>.dead)=_
     rw [List.getElem?_append_right (Nat.le_refl _)]
     simp
    have hnc:n≤c':=by
     rcases hcap with ⟨_,q,_⟩|⟨_,q⟩ <;> omega
    refine ⟨[⟨im.blk,im.base + o,c,T⟩],.slice (some ⟨L0.length,0,none⟩) n c',fun r hr'=>?_, ?_,⟨.inr ⟨_,_,_,rfl,hnc⟩,hlen,.inr ⟨c, ?_, ?_, ?_⟩,.inr ?_⟩⟩
    ·rcases List.mem_append.1 hr' with q|q
     ·exact h0 r q
     ·rw [List.mem_singleton.1 q];exact hok
    ·have:=VRel.slice (ρ:=renOf w (L0 ++ [⟨im.blk,im.base + o,c,T⟩])) (b:=L0.length) (o:=0) (n:=n) (c:=c') (c':=c') hren (.inr ⟨rfl,rfl⟩) hnc
     simpa using this
    ·show (heapOf _).rd L0.length=some c
     rw [rd_def,hget]
     rfl
    ·show 0 + n * s≤c.length;omega
    ·show (c.drop 0).take (n * s)=c
     rw [List.drop_zero,List.take_of_length_le (by omega)]
    ·show L0.length < (L0 ++ [_]).length
     simp
theorem def_calls {P:Program} {C:CallRel} (hmix:P.follows .mixedOrders=true) (hC:CallSim P 0 C) (hT:CallTop C) {f kf:FuncId} {args args':Array Value} {v0:Value}
  {fn fk:Func} {c0 rest ck:Code} {id:Nat} {ops:Array Oper} {pre:List Oper} {o:Oper} {g:Operand} {ty:Array TypeId} {R:Value→AHeap→Prop} (e1:P.funcs[f]? = some fn) (e2:fn.body=some (.seq c0 (.seq (.region id ops false) rest))) (e3:args.size≤fn.ntmps)
  (hok0:codeOk 0 fn.ntmps c0=true) (hokr:codeOk 0 fn.ntmps rest=true) (hnr0:noRange c0=true) (hnrr:noRange rest=true) (hops:ops.toList=pre ++ [o]) (hokp:(pre.all (opOk 0 fn.ntmps))=true) (hop:o.op=.defer ⟨.value g,#[],ty⟩) (hg:o.guard=none) (hod:o.dst=none) (hgo:okOpd 0 g=true)
  (k1 : P.funcs[kf]? = some fk) (k2 : fk.body = some ck) (k3 : (fk.name == "runtime.NumGoroutine") = false) (hokk : codeOk 0 fk.ntmps ck = true) (hv0 : flatR v0 = true)
  {w:World} {L:List RoB} (hL:∀ r,r∈L→RoOk w r) (ha:ARel (renOf w L) args args') (h:DefW P C 0 fn c0 ops pre o g rest kf fk ck R (argEnv args) (heapOf L)) (hR:∀ v H,R v H→v=v0) :
  Calls P f args' w fun e w'=>e=.returned v0∧Go.RowKit.Below w.heap.size w w':=by
 intro cs
 have hf:∀ b,(heapOf L).n≤b→renOf w L b=none:=by
  intro b hb
  have hb:L.length≤b:=hb
  unfold renOf
  rw [List.getElem?_eq_none hb]
  rfl
 obtain ⟨v,H',ρ1,w1,v',fr,q0,s1,q1,q2,q3,q4⟩:=def_sim hmix hC hT e1 e2 e3 hok0 hokr hnr0 hnrr hops hokp hop hg hod hgo k1 k2 k3 hokk h (rel_ro hL) ha hf cs
 obtain rfl:=hR _ _ q0
 obtain rfl:=q1.of_flatR hv0
 exact ⟨.returned v',w1,fr,⟨rfl,s1.os,s1.tape,s1.output,s1.size,fun k hk=>s1.frame k hk (owned_ro _ _)⟩,q2,q3,q4⟩
section
variable {P:Program} {C:CallRel} {ng nt N0:Nat}
theorem DW.seqW (hmix:P.follows .mixedOrders=true) (hC:CallSim P ng C) (hT:CallTop C) {ca cb:Code} {env:Env} {H:AHeap} {g:Option Gh} {Q:PostG} (h:W P C ng nt ca env H fun x e h=>x=.normal∧DW P C ng nt N0 cb e h g Q):DW P C ng nt N0 (.seq ca cb) env H g Q:=by
 obtain ⟨x,e1,H1,r,rfl,q⟩:=h
 exact .seq (.run hmix hC hT r ⟨fun _=>q,fun h=>absurd rfl h⟩)
theorem WO.intro {ops:Array Oper} {os:List Oper} {Q:Env→AHeap→Prop} {env:Env} {H:AHeap} (h:∀ K:Env→AHeap→Prop,(∀ e h,Q e h→K e h)→WO P C ops os K env H):WO P C ops os Q env H:=h Q fun _ _ q=>q
theorem WO.done {ops:Array Oper} {Q:Env→AHeap→Prop} {env:Env} {H:AHeap} (h:Q env H):WO P C ops [] Q env H:=⟨env,H,⟨rfl,rfl⟩,h⟩
end
theorem ARel.cons_inv {ρ:Ren} {a:Value} {l:List Value} {b:Array Value} (h:ARel ρ ⟨a :: l⟩ b):∃ a' l',b=⟨a' :: l'⟩∧VRel ρ a a'∧ARel ρ ⟨l⟩ ⟨l'⟩:=by
 obtain ⟨lb⟩:=b
 cases lb with
 | nil=>have:=h.1;simp at this
 | cons a' l' =>
  refine ⟨a',l',rfl,h.2 0 (by simp) (by simp),by have:=h.1;simpa using this,fun i hi hi'=>?_⟩
  have:=h.2 (i + 1) (by simpa using hi) (by simpa using hi')
  simpa using this
theorem ARel.nil_inv {ρ:Ren} {b:Array Value} (h:ARel ρ ⟨[]⟩ b):b = #[]:=by
 have:=h.1
 exact Array.eq_empty_of_size_eq_zero (by simpa using this.symm)
theorem ARel.cons_mk {ρ:Ren} {a a':Value} {l l':List Value} (h:VRel ρ a a') (k:ARel ρ ⟨l⟩ ⟨l'⟩):ARel ρ ⟨a :: l⟩ ⟨a' :: l'⟩:=by
 refine ⟨by have:=k.1;simpa using this,fun i hi hi'=>?_⟩
 cases i with
 | zero=>exact h
 | succ i =>
  have:=k.2 i (by simpa using hi) (by simpa using hi')
  simpa using this
theorem VRel.agg_cells {ρ:Ren} {l:List Value} {v':Value} (h:VRel ρ (.agg ⟨l⟩) v'):∃ l',v'=.agg ⟨l'⟩∧ARel ρ ⟨l⟩ ⟨l'⟩:=by
 cases h with
 | flat h=>simp [Swa.flat] at h
 | agg hs hsc ha =>
  rename_i a'
  exact ⟨a'.toList,rfl,hs,ha⟩
theorem VRel.agg_mk {ρ:Ren} {l l':List Value} (h:ARel ρ ⟨l⟩ ⟨l'⟩) (hs:∀ x,x∈l→scalar x=true):VRel ρ (.agg ⟨l⟩) (.agg ⟨l'⟩):=by
 refine .agg h.1 (fun i hi=>hs _ ?_) h.2
 have:(⟨l⟩:Array Value)[i]=l[i]'(by simpa using hi):=rfl
 rw [this]
 exact List.getElem_mem _
theorem renOf_mono {w:World} {L M:List RoB} {v v':Value} (h:VRel (renOf w L) v v'):VRel (renOf w (L ++ M)) v v':=h.mono renOf_app
structure Spo where
 X:Int
 Y:Int
 Area:Int
 deriving DecidableEq,Inhabited
structure Srt where
 High:Int
 Dense:Int
 Fire:Int
 Age:Int
 deriving DecidableEq,Inhabited
structure Act where
 Hour:Int
 Spot:Int
 Kind:Int
 Min:Int
 Max:Int
 Take:Bool
 deriving DecidableEq,Inhabited
abbrev iv (n:Int):Value:=.int .i64 n
def eSpo (s:Spo):List Value:=[iv s.X,iv s.Y,iv s.Area]
def eSrt (s:Srt):List Value:=[iv s.High,iv s.Dense,iv s.Fire,iv s.Age]
def eAct (a:Act):List Value:=[iv a.Hour,iv a.Spot,iv a.Kind,iv a.Min,iv a.Max,.bool a.Take]
theorem eSpo_len (s:Spo):(eSpo s).length=3:=rfl
theorem eSrt_len (s:Srt):(eSrt s).length=4:=rfl
theorem eAct_len (s:Act):(eAct s).length=6:=rfl
def w64 (x:Int):Int:=IntKind.i64.wrap x
end Go.Proofs.Swa
