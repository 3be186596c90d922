/- Part 5 of a proof. -/
import Derived.Test.YtkjcijlaehflhaaP04
set_option linter.unusedVariables false
set_option linter.unusedSimpArgs false
namespace Go.Proofs.Swa
open Go
noncomputable section
def Tr.getK {α:Type} (t:Tr α):Nat→Bool→(α→Bool)→Bool :=
 Tr.rec (motive:=fun _=>Nat→Bool→(α→Bool)→Bool) (fun _ z _=>z) (fun a i z k=>@Bool.rec (fun _=>Bool) z (k a) (Nat.beq i 0))
  (fun l r gl gr i z k=>@Bool.rec (fun _=>Bool) (gr (Nat.div i 2) z k) (gl (Nat.div i 2) z k) (Nat.beq (Nat.mod i 2) 0)) t
theorem getK_eq {α:Type} (t:Tr α):∀ (i:Nat) (z:Bool) (k:α→Bool),t.getK i z k=match t.get i with|some a=>k a|none=>z:=by
 induction t with
 | nil=>intro i z k;rfl
 | leaf a =>
  intro i z k
  show @Bool.rec (fun _=>Bool) z (k a) (Nat.beq i 0)=match (match Nat.beq i 0 with|true=>some a|false=>none) with|some a=>k a|none=>z
  cases Nat.beq i 0 <;> rfl
 | node l r ihl ihr =>
  intro i z k
  show @Bool.rec (fun _=>Bool) (r.getK (Nat.div i 2) z k) (l.getK (Nat.div i 2) z k) (Nat.beq (Nat.mod i 2) 0)=match (match Nat.beq (Nat.mod i 2) 0 with|true=>l.get (Nat.div i 2)|false=>r.get (Nat.div i 2)) with|some a=>k a|none=>z
  cases Nat.beq (Nat.mod i 2) 0
  ·exact ihr _ _ _
  ·exact ihl _ _ _
def putR {α:Type} (a:α) (d:Nat):Tr α→Nat→(Tr α→Bool)→Bool :=
 Nat.rec (motive:=fun _=>Tr α→Nat→(Tr α→Bool)→Bool)
  (fun t i k=>@Bool.rec (fun _=>Bool) false (Tr.rec (motive:=fun _=>Bool) (k (.leaf a)) (fun _=>k (.leaf a)) (fun _ _ _ _=>false) t) (Nat.beq i 0))
  (fun _ ih t i k=>Tr.rec (motive:=fun _=>Bool)
   (@Bool.rec (fun _=>Bool) (ih .nil (Nat.div i 2) fun r=>k (.node .nil r)) (ih .nil (Nat.div i 2) fun l=>k (.node l .nil)) (Nat.beq (Nat.mod i 2) 0))
   (fun _=>false)
   (fun l r _ _=>@Bool.rec (fun _=>Bool) (ih r (Nat.div i 2) fun r=>k (.node l r)) (ih l (Nat.div i 2) fun l=>k (.node l r)) (Nat.beq (Nat.mod i 2) 0)) t) d
theorem putR_eq {α:Type} (a:α):∀ (d:Nat) (t:Tr α) (i:Nat) (k:Tr α→Bool),putR a d t i k=Tr.putK a d t i k
 | 0,t,i,k=>by
  cases t <;> simp only [Tr.putK] <;> show @Bool.rec (fun _=>Bool) false _ (Nat.beq i 0)=_ <;> cases Nat.beq i 0 <;> rfl
 | d + 1,t,i,k=>by
  have ih:=putR_eq a d
  cases t with
  | leaf b=>rfl
  | nil =>
   rw [Tr.putK]
   show @Bool.rec (fun _=>Bool) (putR a d .nil (Nat.div i 2) fun r=>k (.node .nil r)) (putR a d .nil (Nat.div i 2) fun l=>k (.node l .nil)) (Nat.beq (Nat.mod i 2) 0)=_
   cases Nat.beq (Nat.mod i 2) 0 <;> exact ih _ _ _
  | node l r =>
   rw [Tr.putK]
   show @Bool.rec (fun _=>Bool) (putR a d r (Nat.div i 2) fun r'=>k (.node l r')) (putR a d l (Nat.div i 2) fun l'=>k (.node l' r)) (Nat.beq (Nat.mod i 2) 0)=_
   cases Nat.beq (Nat.mod i 2) 0 <;> exact ih _ _ _
theorem putR_spec {α:Type} {a:α} {d:Nat} {t:Tr α} {i:Nat} {k:Tr α→Bool} (h:putR a d t i k=true):∃ t',(∀ j,t'.get j=if j=i then some a else t.get j)∧k t'=true :=
 Tr.putK_spec (by rw [← putR_eq];exact h)
def evK (e:CEnv) (x:Operand) (k:Value→Bool):Bool :=
 Operand.rec (motive:=fun _=>Bool) (fun t=>Tr.getK e t (k undef) k) (fun v=>k v) (fun g=>k (.pointer (some ⟨g,0,none⟩))) (fun f=>k (.func (.func f) #[] #[])) x
theorem evK_eq (e:CEnv) (x:Operand) (k:Value→Bool):evK e x k=k (ev (toE e) x):=by
 cases x with
 | tmp t =>
  show Tr.getK e t (k undef) k=k (toE e t)
  rw [getK_eq]
  unfold toE
  cases e.get t <;> rfl
 | _=>rfl
def evsK (e:CEnv) (xs:List Operand):(List Value→Bool)→Bool :=
 List.rec (motive:=fun _=>(List Value→Bool)→Bool) (fun k=>k []) (fun x _ ih k=>evK e x fun v=>ih fun l=>k (v :: l)) xs
theorem evsK_eq (e:CEnv):∀ (xs:List Operand) (k:List Value→Bool),evsK e xs k=k (xs.map (ev (toE e)))
 | [],k=>rfl
 | x :: xs,k=>by
  show evK e x (fun v=>evsK e xs fun l=>k (v :: l))=_
  rw [evK_eq,evsK_eq e xs];rfl
def fN (n:Nat) (k:Nat→Bool):Bool:=Nat.rec (motive:=fun _=>Bool) (k 0) (fun m _=>k (Nat.succ m)) n
theorem fN_eq (n:Nat) (k:Nat→Bool):fN n k=k n:=by cases n <;> rfl
def fI (n:Int) (k:Int→Bool):Bool:=Int.rec (motive:=fun _=>Bool) (fun n=>fN n fun n=>k (.ofNat n)) (fun n=>fN n fun n=>k (.negSucc n)) n
theorem fI_eq (n:Int) (k:Int→Bool):fI n k=k n:=by
 cases n with
 | ofNat n=>exact fN_eq n fun n=>k (.ofNat n)
 | negSucc n=>exact fN_eq n fun n=>k (.negSucc n)
def fB (b:Bool) (k:Bool→Bool):Bool:=Bool.rec (motive:=fun _=>Bool) (k false) (k true) b
theorem fB_eq (n:Bool) (k:Bool→Bool):fB n k=k n:=by cases n <;> rfl
def intK (v:Value) (z:Bool) (k:IntKind→Int→Bool):Bool :=
 Value.casesOn (motive_1:=fun _=>Bool) v (fun _=>z) (fun d n=>k d n) (fun _ _=>z) (fun _ _ _=>z) (fun _=>z) (fun _=>z) (fun _ _ _=>z) (fun _=>z) (fun _=>z) (fun _ _ _=>z) z (fun _ _=>z) z (fun _=>z) (fun _=>z)
def ptrK (v:Value) (z:Bool) (k:Nat→Nat→Bool):Bool :=
 Value.casesOn (motive_1:=fun _=>Bool) v (fun _=>z) (fun d n=>z) (fun _ _=>z) (fun _ _ _=>z) (fun _=>z) (fun a=>Option.rec z (fun a=>Addr.rec (fun b o s=>Option.rec (k b o) (fun _=>z) s) a) a) (fun _ _ _=>z) (fun _=>z) (fun _=>z) (fun _ _ _=>z) z (fun _ _=>z) z (fun _=>z) (fun _=>z)
def slcK (v:Value) (z:Bool) (k:Nat→Nat→Nat→Bool):Bool :=
 Value.casesOn (motive_1:=fun _=>Bool) v (fun _=>z) (fun d n=>z) (fun _ _=>z) (fun _ _ _=>z) (fun _=>z) (fun _=>z) (fun a l _=>Option.rec z (fun a=>Addr.rec (fun b o s=>Option.rec (k b o l) (fun _=>z) s) a) a) (fun _=>z) (fun _=>z) (fun _ _ _=>z) z (fun _ _=>z) z (fun _=>z) (fun _=>z)
def tupK (v:Value) (z:Bool) (k:List Value→Bool):Bool :=
 Value.casesOn (motive_1:=fun _=>Bool) v (fun _=>z) (fun d n=>z) (fun _ _=>z) (fun _ _ _=>z) (fun _=>z) (fun _=>z) (fun _ _ _=>z) (fun _=>z) (fun _=>z) (fun _ _ _=>z) z (fun _ _=>z) z (fun _=>z) (fun a=>Array.rec (fun l=>k l) a)
theorem intK_or {v:Value} {z:Bool} {k:IntKind→Int→Bool} (h:intK v z k=true):z=true∨∃ d n,v=.int d n∧k d n=true:=by
 cases v <;> first|exact .inl h|exact .inr ⟨_,_,rfl,h⟩
theorem ptrK_or {v:Value} {z:Bool} {k:Nat→Nat→Bool} (h:ptrK v z k=true):z=true∨∃ b o,v=.pointer (some ⟨b,o,none⟩)∧k b o=true:=by
 cases v <;> first|exact .inl h|skip
 rename_i a
 cases a with
 | none=>exact .inl h
 | some a =>
  obtain ⟨b,o,s⟩:=a
  cases s with
  | none=>exact .inr ⟨_,_,rfl,h⟩
  | some _=>exact .inl h
theorem slcK_or {v:Value} {z:Bool} {k:Nat→Nat→Nat→Bool} (h:slcK v z k=true):z=true∨∃ b o l c,v=.slice (some ⟨b,o,none⟩) l c∧k b o l=true:=by
 cases v <;> first|exact .inl h|skip
 rename_i a _ _
 cases a with
 | none=>exact .inl h
 | some a =>
  obtain ⟨b,o,s⟩:=a
  cases s with
  | none=>exact .inr ⟨_,_,_,_,rfl,h⟩
  | some _=>exact .inl h
theorem tupK_or {v:Value} {z:Bool} {k:List Value→Bool} (h:tupK v z k=true):z=true∨∃ l,v=.tuple ⟨l⟩∧k l=true:=by
 cases v <;> first|exact .inl h|exact .inr ⟨_,rfl,h⟩
def nthK (c:List Value):Nat→Bool→(Value→Bool)→Bool :=
 List.rec (motive:=fun _=>Nat→Bool→(Value→Bool)→Bool) (fun _ z _=>z) (fun a _ ih i z k=>Nat.rec (motive:=fun _=>Bool) (k a) (fun j _=>ih j z k) i) c
theorem nthK_eq:∀ (c:List Value) (i:Nat) (z:Bool) (k:Value→Bool),nthK c i z k=match c[i]? with|some v=>k v|none=>z
 | [],i,z,k=>rfl
 | a :: c,0,z,k=>rfl
 | a :: c,i + 1,z,k=>by
  show nthK c i z k=_
  rw [nthK_eq c,List.getElem?_cons_succ]
def set1K (x:Value) (c:List Value):Nat→(List Value→Bool)→Bool :=
 List.rec (motive:=fun _=>Nat→(List Value→Bool)→Bool) (fun _ _=>false) (fun a l ih i k=>Nat.rec (motive:=fun _=>Bool) (k (x :: l)) (fun j _=>ih j fun r=>k (a :: r)) i) c
theorem set1K_spec {x:Value}:∀ {c:List Value} {i:Nat} {k:List Value→Bool},set1K x c i k=true→i < c.length∧k (c.set i x)=true
 | [],i,k,h=>by cases h
 | a :: c,0,k,h=>⟨by simp,h⟩
 | a :: c,i + 1,k,h=>by
  have h:set1K x c i (fun r=>k (a :: r))=true:=h
  have:=set1K_spec h
  exact ⟨by simp;omega,this.2⟩
theorem splice_one {c:List Value} {i:Nat} {x:Value} (h:i < c.length):splice c i [x]=c.set i x:=by
 rw [splice,List.set_eq_take_append_cons_drop,if_pos h]
 simp
def takeK (s:Nat):List Value→(List Value→Bool)→Bool :=
 Nat.rec (motive:=fun _=>List Value→(List Value→Bool)→Bool) (fun _ k=>k []) (fun _ ih l k=>List.rec (motive:=fun _=>Bool) false (fun a l _=>ih l fun r=>k (a :: r)) l) s
theorem takeK_spec:∀ {s:Nat} {l:List Value} {k:List Value→Bool},takeK s l k=true→s≤l.length∧k (l.take s)=true
 | 0,l,k,h=>⟨by omega,h⟩
 | s + 1,[],k,h=>by cases h
 | s + 1,a :: l,k,h=>by
  have h:takeK s l (fun r=>k (a :: r))=true:=h
  have:=takeK_spec h
  exact ⟨by simp;omega,by simpa using this.2⟩
def dropK (o:Nat):List Value→(List Value→Bool)→Bool :=
 Nat.rec (motive:=fun _=>List Value→(List Value→Bool)→Bool) (fun l k=>k l) (fun _ ih l k=>List.rec (motive:=fun _=>Bool) false (fun _ l _=>ih l k) l) o
theorem dropK_spec:∀ {o:Nat} {l:List Value} {k:List Value→Bool},dropK o l k=true→o≤l.length∧k (l.drop o)=true
 | 0,l,k,h=>⟨by omega,h⟩
 | s + 1,[],k,h=>by cases h
 | s + 1,a :: l,k,h=>by
  have h:dropK s l k=true:=h
  have:=dropK_spec h
  exact ⟨by simp;omega,by simpa using this.2⟩
def ovlR (l:List Value):List Value→(List Value→Bool)→Bool :=
 List.rec (motive:=fun _=>List Value→(List Value→Bool)→Bool) (fun c k=>k c) (fun x _ ih c k=>List.rec (motive:=fun _=>Bool) false (fun _ c' _=>ih c' fun r=>k (x :: r)) c) l
theorem ovlR_eq:∀ (l c:List Value) (k:List Value→Bool),ovlR l c k=ovlK c l k
 | [],c,k=>by cases c <;> rfl
 | x :: l,[],k=>rfl
 | x :: l,a :: c,k=>by
  show ovlR l c (fun r=>k (x :: r))=_
  rw [ovlR_eq l c];rfl
def splR (l:List Value) (o:Nat):List Value→(List Value→Bool)→Bool :=
 Nat.rec (motive:=fun _=>List Value→(List Value→Bool)→Bool) (fun c k=>ovlR l c k) (fun _ ih c k=>List.rec (motive:=fun _=>Bool) false (fun a c' _=>ih c' fun r=>k (a :: r)) c) o
theorem splR_eq (l:List Value):∀ (o:Nat) (c:List Value) (k:List Value→Bool),splR l o c k=splK c o l k
 | 0,c,k=>by
  show ovlR l c k=_
  rw [ovlR_eq]
  cases c <;> rfl
 | o + 1,[],k=>rfl
 | o + 1,a :: c,k=>by
  show splR l o c (fun r=>k (a :: r))=_
  rw [splR_eq l o c];rfl
theorem splR_spec {c:List Value} {o:Nat} {l:List Value} {k:List Value→Bool} (h:splR l o c k=true):o + l.length≤c.length∧k (splice c o l)=true:=splK_spec (by rw [← splR_eq];exact h)
def intR (op:BinOp) (d:IntKind) (a b:Int) (z:Bool) (k:Value→Bool):Bool :=
 BinOp.rec (motive:=fun _=>Bool) (fI (wrapF d (a + b)) fun n=>k (.int d n)) (fI (wrapF d (a - b)) fun n=>k (.int d n)) (fI (wrapF d (a * b)) fun n=>k (.int d n)) z z z z z z z z
  (fB (eqI a b) fun p=>k (.bool p)) (fB (eqI a b) fun p=>k (.bool (@Bool.rec (fun _=>Bool) true false p))) (fB (leI b a) fun p=>k (.bool (@Bool.rec (fun _=>Bool) true false p))) (fB (leI a b) fun p=>k (.bool p)) (fB (leI a b) fun p=>k (.bool (@Bool.rec (fun _=>Bool) true false p))) (fB (leI b a) fun p=>k (.bool p)) op
theorem intR_or {op:BinOp} {d:IntKind} {a b:Int} {z:Bool} {k:Value→Bool} (h:intR op d a b z k=true):z=true∨∃ v,fastI op d a b=some v∧k v=true:=by
 have nb:∀ p:Bool,@Bool.rec (fun _=>Bool) true false p = !p:=by intro p;cases p <;> rfl
 cases op <;> first|exact .inl h|skip
 ·have h:fI (wrapF d (a + b)) (fun n=>k (.int d n))=true:=h
  rw [fI_eq] at h;exact .inr ⟨_,rfl,h⟩
 ·have h:fI (wrapF d (a - b)) (fun n=>k (.int d n))=true:=h
  rw [fI_eq] at h;exact .inr ⟨_,rfl,h⟩
 ·have h:fI (wrapF d (a * b)) (fun n=>k (.int d n))=true:=h
  rw [fI_eq] at h;exact .inr ⟨_,rfl,h⟩
 ·have h:fB (eqI a b) (fun p=>k (.bool p))=true:=h
  rw [fB_eq] at h;exact .inr ⟨_,rfl,h⟩
 ·have h:fB (eqI a b) (fun p=>k (.bool (@Bool.rec (fun _=>Bool) true false p)))=true:=h
  rw [fB_eq,nb] at h;exact .inr ⟨_,rfl,h⟩
 ·have h:fB (leI b a) (fun p=>k (.bool (@Bool.rec (fun _=>Bool) true false p)))=true:=h
  rw [fB_eq,nb] at h;exact .inr ⟨_,rfl,h⟩
 ·have h:fB (leI a b) (fun p=>k (.bool p))=true:=h
  rw [fB_eq] at h;exact .inr ⟨_,rfl,h⟩
 ·have h:fB (leI a b) (fun p=>k (.bool (@Bool.rec (fun _=>Bool) true false p)))=true:=h
  rw [fB_eq,nb] at h;exact .inr ⟨_,rfl,h⟩
 ·have h:fB (leI b a) (fun p=>k (.bool p))=true:=h
  rw [fB_eq] at h;exact .inr ⟨_,rfl,h⟩
inductive XOp where
 | mov (x:Operand)
 | bin (op:BinOp) (x y:Operand)
 | load1 (a:Operand)
 | loadN (s:Nat) (a:Operand)
 | faddr (off:Nat) (x:Operand)
 | iarr (len s:Nat) (x ix:Operand)
 | islc (s:Nat) (x ix:Operand)
 | lenS (x:Operand)
 | ext (x:Operand) (i:Nat)
 | st (s:Nat) (a x:Operand)
 | call (f:Operand) (args:List Operand)
 | pick (c a b:Operand)
 | alloc (t:TypeId) (c:List Value)
 | box (t:TypeId) (x:Operand)
 | nilc (x:Operand)
 | slow
variable (P:Program)
def cop (o:Op):XOp:=match o with
 | .move x|.assign x=>.mov x
 | .binOp op _ x y _=>.bin op x y
 | .load t a=>(match tyAgg P t,tySize P t with|some true,some s=>.loadN s a|some false,_=>.load1 a|_,_=>.slow)
 | .fieldAddr s x f=>(match P.underlying s with
  | some (.struct fs)=>(match fs[f]? with
   | some fd=>(match tySize P fd.type with|some sz=>(match Nat.beq sz 0 with|true=>.slow|false=>.faddr fd.offset x)|none=>.slow)
   | none=>.slow)
  | _=>.slow)
 | .indexAddr t x ix=>(match P.underlying t with
  | some (.array len e)=>(match tySize P e with|some s=>.iarr len s x ix|none=>.slow)
  | some (.slice e)=>(match tySize P e with|some s=>.islc s x ix|none=>.slow)
  | _=>.slow)
 | .call ⟨.builtin .len,args,ts⟩=>(match ts[0]?,args.toList with
  | some t,[x]=>(match P.underlying t with|some (.slice _)=>.lenS x|_=>.slow)
  | _,_=>.slow)
 | .call ⟨.value f,args,_⟩=>.call f args.toList
 | .extract x i=>.ext x i
 | .pick c a b=>.pick c a b
 | .alloc t=>(match tyZero P t with|some z=>(match dflat z with|true=>.alloc t z.cells.toList|false=>.slow)|none=>.slow)
 | .box t x=>.box t x
 | .nilCheck x=>.nilc x
 | .store t a x=>(match tySize P t with|some s=>.st s a x|none=>.slow)
 | _=>.slow
def CopOk (o:Op):XOp→Prop
 | .mov x=>o=.move x∨o=.assign x
 | .bin op x y=>∃ t yt,o=.binOp op t x y yt
 | .load1 a=>∃ t,o=.load t a∧tyAgg P t=some false
 | .loadN s a=>∃ t,o=.load t a∧tyAgg P t=some true∧tySize P t=some s
 | .faddr off x=>∃ t f fs fd sz,o=.fieldAddr t x f∧P.underlying t=some (.struct fs)∧fs[f]? = some fd∧tySize P fd.type=some sz∧sz≠0∧off=fd.offset
 | .iarr len s x ix=>∃ t e,o=.indexAddr t x ix∧P.underlying t=some (.array len e)∧tySize P e=some s
 | .islc s x ix=>∃ t e,o=.indexAddr t x ix∧P.underlying t=some (.slice e)∧tySize P e=some s
 | .lenS x=>∃ args ts t e,o=.call ⟨.builtin .len,args,ts⟩∧ts[0]? = some t∧args.toList=[x]∧P.underlying t=some (.slice e)
 | .ext x i=>o=.extract x i
 | .st s a x=>∃ t,o=.store t a x∧tySize P t=some s
 | .call f args=>∃ as ts,o=.call ⟨.value f,as,ts⟩∧args=as.toList
 | .pick c a b=>o=.pick c a b
 | .alloc t c=>o=.alloc t∧∃ z,tyZero P t=some z∧dflat z=true∧c=z.cells.toList
 | .box t x=>o=.box t x
 | .nilc x=>o=.nilCheck x
 | .slow=>True
theorem cop_ok (o:Op):CopOk P o (cop P o):=by
 cases o <;> simp only [cop] <;> first|exact trivial|exact .inl rfl|exact .inr rfl|exact ⟨_,_,rfl⟩|exact rfl|skip
 ·split
  ·rename_i z h1
   split
   ·rename_i h2;exact ⟨rfl,z,h1,h2,rfl⟩
   ·trivial
  ·trivial
 ·split
  ·rename_i h1 h2;exact ⟨_,rfl,h1,h2⟩
  ·rename_i h1;exact ⟨_,rfl,h1⟩
  ·trivial
 ·split
  ·rename_i h;exact ⟨_,rfl,h⟩
  ·trivial
 ·split
  ·rename_i fs h1
   split
   ·rename_i fd h2
    split
    ·rename_i sz h3
     split
     ·trivial
     ·rename_i h4
      rw [nbeq,decide_eq_false_iff_not] at h4
      exact ⟨_,_,_,_,_,rfl,h1,h2,h3,h4,rfl⟩
    ·trivial
   ·trivial
  ·trivial
 ·split
  ·split
   ·rename_i h1 _ _ h2;exact ⟨_,_,rfl,h1,h2⟩
   ·trivial
  ·split
   ·rename_i h1 _ _ h2;exact ⟨_,_,rfl,h1,h2⟩
   ·trivial
  ·trivial
 ·rename_i c
  obtain ⟨cl,args,ts⟩:=c
  cases cl with
  | value f=>exact ⟨_,_,rfl,rfl⟩
  | invoke r m=>exact trivial
  | builtin b =>
   cases b <;> first|exact trivial|skip
   simp only
   split
   ·split
    ·rename_i h1 h2 _ _ h3;exact ⟨_,_,_,_,rfl,h1,h2,h3⟩
    ·trivial
   ·trivial
variable {C:CallRel} {call:CallX}
section
variable (call:CallX)
def rBin (e:CEnv) (op:BinOp) (x y:Operand) (z:Bool) (k:Value→Bool):Bool :=
 evK e x fun a=>evK e y fun b=>intK a z fun d a=>intK b z fun d' b=>@Bool.rec (fun _=>Bool) z (intR op d a b z k) (sameK d d')
def objK (h:CH) (b:Nat) (z:Bool) (k:List Value→TypeId→Kd→Bool):Bool :=
 Tr.getK h.t b z fun p=>Prod.rec (fun o _=>CObj.rec (fun c T kd=>k c T kd) (fun _=>z) (fun _ _=>z) (fun _ _ _ _ _ _ _=>z) o) p
def rLoad1 (e:CEnv) (h:CH) (a:Operand) (z:Bool) (k:Value→Bool):Bool :=
 evK e a fun a=>ptrK a z fun b o=>objK h b z fun c _ kd=>@Bool.rec (fun _=>Bool) z (nthK c o z k) (Kd.live kd)
def rLoadN (e:CEnv) (h:CH) (s:Nat) (a:Operand) (z:Bool) (k:Value→Bool):Bool :=
 evK e a fun a=>ptrK a z fun b o=>objK h b z fun c _ kd=>@Bool.rec (fun _=>Bool) z (dropK o c fun c=>takeK s c fun c=>k (.agg ⟨c⟩)) (Kd.live kd)
def rFaddr (e:CEnv) (off:Nat) (x:Operand) (z:Bool) (k:Value→Bool):Bool :=
 evK e x fun a=>ptrK a z fun b o=>fN (Nat.add o off) fun o=>k (.pointer (some ⟨b,o,none⟩))
def idxK (i:Int) (len:Nat) (z:Bool) (k:Nat→Bool):Bool:=Int.rec (fun i=>@Bool.rec (fun _=>Bool) z (k i) (Nat.blt i len)) (fun _=>z) i
def rIarr (e:CEnv) (len s:Nat) (x ix:Operand) (z:Bool) (k:Value→Bool):Bool :=
 evK e x fun a=>evK e ix fun i=>ptrK a z fun b o=>intK i z fun _ i=>idxK i len z fun i=>fN (Nat.add o (Nat.mul i s)) fun o=>k (.pointer (some ⟨b,o,none⟩))
def rIslc (e:CEnv) (s:Nat) (x ix:Operand) (z:Bool) (k:Value→Bool):Bool :=
 evK e x fun a=>evK e ix fun i=>slcK a z fun b o len=>intK i z fun _ i=>idxK i len z fun i=>fN (Nat.add o (Nat.mul i s)) fun o=>k (.pointer (some ⟨b,o,none⟩))
def lenK (v:Value) (z:Bool) (k:Nat→Bool):Bool :=
 Value.casesOn (motive_1:=fun _=>Bool) v (fun _=>z) (fun d n=>z) (fun _ _=>z) (fun _ _ _=>z) (fun _=>z) (fun _=>z) (fun a l _=>k l) (fun _=>z) (fun _=>z) (fun _ _ _=>z) z (fun _ _=>z) z (fun _=>z) (fun _=>z)
def rLen (e:CEnv) (x:Operand) (z:Bool) (k:Value→Bool):Bool :=
 evK e x fun a=>lenK a z fun n=>k (.int .i64 (.ofNat n))
def rExt (e:CEnv) (x:Operand) (i:Nat) (z:Bool) (k:Value→Bool):Bool :=
 evK e x fun a=>tupK a z fun l=>nthK l i z k
def setR (h:CH) (b:Nat) (o:CObj) (k:CH→Bool):Bool :=
 fN (Nat.succ h.clk) fun c=>putR (o,c) 16 h.t b fun t=>@Bool.rec (fun _=>Bool) (k ⟨h.n,c,b,t,h.g⟩) (k ⟨h.n,c,h.w,t,h.g⟩) (Nat.ble h.w b)
def exK (kd:Kd) (z y:Bool):Bool:=Kd.rec z y (fun _ _ _=>z) kd
def cellsK (x:Value) (z:Bool) (k1:Bool) (kN:List Value→Bool):Bool :=
 Value.casesOn (motive_1:=fun _=>Bool) x (fun _=>k1) (fun d n=>k1) (fun _ _=>k1) (fun _ _ _=>k1) (fun _=>k1) (fun _=>k1) (fun a l _=>k1) (fun _=>k1) (fun _=>k1) (fun _ _ _=>k1) k1 (fun _ _=>k1) k1 (fun a=>Array.rec (fun l=>kN l) a) (fun _=>z)
def rSt (e:CEnv) (h:CH) (s:Nat) (a x:Operand) (z:Bool) (k:Value→CH→Bool):Bool :=
 evK e a fun a=>evK e x fun x=>ptrK a z fun b o=>objK h b z fun c T kd=>exK kd z
  (cellsK x z (@Bool.rec (fun _=>Bool) z (set1K x c o fun c=>setR h b (.cells c T .ex) fun h=>k undef h) (Nat.beq s 1))
   fun l=>@Bool.rec (fun _=>Bool) z (splR l o c fun c=>setR h b (.cells c T .ex) fun h=>k undef h) (Nat.beq l.length s))
def newR (h:CH) (o:CObj) (k:CH→Bool):Bool :=
 fN (Nat.succ h.n) fun n=>fN (Nat.succ h.clk) fun c=>putR (o,c) 16 h.t h.n fun t=>k ⟨n,c,h.w,t,h.g⟩
theorem newR_eq (h:CH) (o:CObj) (k:CH→Bool):newR h o k=newO h o k:=by
 unfold newR newO
 rw [fN_eq,fN_eq,forceN_eq,forceN_eq,putR_eq]
def rPick (e:CEnv) (c a b:Operand) (z:Bool) (k:Value→Bool):Bool :=
 evK e c fun v=>Value.casesOn (motive_1:=fun _=>Bool) v (fun t=>@Bool.rec (fun _=>Bool) (evK e b k) (evK e a k) t) (fun d n=>z) (fun _ _=>z) (fun _ _ _=>z) (fun _=>z) (fun _=>z) (fun _ _ _=>z) (fun _=>z) (fun _=>z) (fun _ _ _=>z) z (fun _ _=>z) z (fun _=>z) (fun _=>z)
theorem rPick_or {e:CEnv} {c a b:Operand} {z:Bool} {k:Value→Bool} (q:rPick e c a b z k=true):z=true∨∃ t,ev (toE e) c=.bool t∧k (if t=true then ev (toE e) a else ev (toE e) b)=true:=by
 unfold rPick at q
 rw [evK_eq,evK_eq,evK_eq] at q
 cases hv:ev (toE e) c with
 | bool t =>
  rw [hv] at q
  cases t with
  | true=>exact .inr ⟨true,rfl,q⟩
  | false=>exact .inr ⟨false,rfl,q⟩
 | _=>rw [hv] at q;exact .inl q
def rAlloc (h:CH) (t:TypeId) (c:List Value) (k:Value→CH→Bool):Bool:=newR h (.cells c t .ex) fun h1=>k (.pointer (some ⟨h.n,0,none⟩)) h1
def rBox (e:CEnv) (h:CH) (t:TypeId) (x:Operand) (z:Bool) (k:Value→CH→Bool):Bool :=
 evK e x fun x=>cellsK x z (rAlloc h t [x] k) fun l=>rAlloc h t l k
def rNil (e:CEnv) (x:Operand) (z:Bool) (k:Value→Bool):Bool:=evK e x fun a=>ptrK a z fun b o=>k (.pointer (some ⟨b,o,none⟩))
def rCall (e:CEnv) (f:Operand) (args:List Operand) (h:CH) (k:Value→CH→Bool):Bool :=
 evK e f fun f=>evsK e args fun args=>callO call f args h k
def opR (e:CEnv) (o:Oper) (h:CH) (k:Value→CH→Bool):Bool :=
 XOp.rec (motive:=fun _=>Bool) (fun x=>evK e x fun v=>k v h) (fun op x y=>rBin e op x y (opX P call e o h k) fun v=>k v h) (fun a=>rLoad1 e h a (opX P call e o h k) fun v=>k v h) (fun s a=>rLoadN e h s a (opX P call e o h k) fun v=>k v h)
  (fun off x=>rFaddr e off x (opX P call e o h k) fun v=>k v h) (fun len s x ix=>rIarr e len s x ix (opX P call e o h k) fun v=>k v h) (fun s x ix=>rIslc e s x ix (opX P call e o h k) fun v=>k v h) (fun x=>rLen e x (opX P call e o h k) fun v=>k v h)
  (fun x i=>rExt e x i (opX P call e o h k) fun v=>k v h) (fun s a x=>rSt e h s a x (opX P call e o h k) k) (fun f args=>rCall call e f args h k)
  (fun c a b=>rPick e c a b (opX P call e o h k) fun v=>k v h) (fun t c=>rAlloc h t c k) (fun t x=>rBox e h t x (opX P call e o h k) k) (fun x=>rNil e x (opX P call e o h k) fun v=>k v h)
  (opX P call e o h k) (cop P o.op)
end
theorem objK_or {h:CH} {b:Nat} {z:Bool} {k:List Value→TypeId→Kd→Bool} (q:objK h b z k=true):z=true∨∃ c T kd st,h.t.get b=some (.cells c T kd,st)∧k c T kd=true:=by
 unfold objK at q
 rw [getK_eq] at q
 split at q
 ·rename_i p hp
  obtain ⟨o,st⟩:=p
  cases o with
  | cells c T kd=>exact .inr ⟨c,T,kd,st,hp,q⟩
  | _=>exact .inl q
 ·exact .inl q
theorem brec_or {b z:Bool} {t:Bool} (q:(@Bool.rec (fun _=>Bool) z t b:Bool)=true):z=true∨(b=true∧t=true):=by
 cases b
 ·exact .inl q
 ·exact .inr ⟨rfl,q⟩
theorem rd_of_obj {h:CH} {b:Nat} {c:List Value} {T:TypeId} {kd:Kd} {st:Nat} (hb:h.t.get b=some (.cells c T kd,st)) (hl:Kd.live kd=true):h.toA.rd b=some c:=by
 have hg:h.toA.get b=.cells c T kd:=by rw [toA_get,obj_some hb];rfl
 unfold AHeap.rd
 rw [hg]
 cases kd with
 | gr g e l=>have:l=true:=hl;subst this;rfl
 | _=>rfl
theorem setR_spec {h:CH} {b:Nat} {o:CObj} {k:CH→Bool} (e:setR h b o k=true):∃ h',Set1 h b o h'∧k h'=true:=by
 unfold setR at e
 rw [fN_eq] at e
 obtain ⟨t,h1,h2⟩:=putR_spec e
 have evo:∀ w,w≤h.w→w≤b→Evo h ⟨h.n,h.clk + 1,w,t,h.g⟩:=by
  intro w hw hb
  refine ⟨Nat.le_succ _,Nat.le_refl _,hw,fun j o' s e hs=>?_,fun j e=>?_,fun j hj=>?_⟩
  ·rw [h1] at e
   by_cases hj:j=b
   ·rw [if_pos hj] at e;cases e;omega
   ·rwa [if_neg hj] at e
  ·rw [h1] at e
   by_cases hj:j=b
   ·rw [if_pos hj] at e;cases e
   ·rwa [if_neg hj] at e
  ·have hj:j < w:=hj
   show t.get j=_
   rw [h1,if_neg (by omega)]
 cases hw:Nat.ble h.w b with
 | true =>
  rw [hw] at h2
  exact ⟨⟨h.n,h.clk + 1,h.w,t,h.g⟩,⟨h1,rfl,rfl,evo _ (Nat.le_refl _) (Nat.le_of_ble_eq_true hw)⟩,h2⟩
 | false =>
  rw [hw] at h2
  have:¬ h.w≤b:=fun hh=>by rw [Nat.ble_eq_true_of_le hh] at hw;cases hw
  exact ⟨⟨h.n,h.clk + 1,b,t,h.g⟩,⟨h1,rfl,rfl,evo _ (by omega) (Nat.le_refl _)⟩,h2⟩
theorem idxK_or {i:Int} {len:Nat} {z:Bool} {k:Nat→Bool} (q:idxK i len z k=true):z=true∨∃ n:Nat,i=n∧n < len∧k n=true:=by
 cases i with
 | ofNat n =>
  rcases brec_or q with q|⟨q1,q2⟩
  ·exact .inl q
  ·exact .inr ⟨n,rfl,by simpa [Nat.blt_eq] using q1,q2⟩
 | negSucc n=>exact .inl q
theorem lenK_or {v:Value} {z:Bool} {k:Nat→Bool} (h:lenK v z k=true):z=true∨∃ a n c,v=.slice a n c∧k n=true:=by
 cases v <;> first|exact .inl h|exact .inr ⟨_,_,_,rfl,h⟩
theorem opR_spec (hC:CallOk C call) {e:CEnv} {o:Oper} {h:CH} {k:Value→CH→Bool} (g:Good h) (q:opR P call e o h k=true) :
  ∃ v h',AOp P C (toE e) o h.toA v h'.toA∧Nx h h'∧k v h'=true:=by
 have slow:opX P call e o h k=true→∃ v h',AOp P C (toE e) o h.toA v h'.toA∧Nx h h'∧k v h'=true:=opX_spec P hC g
 obtain ⟨dst,op,ty,pos,aft,gd⟩:=o
 have fin:∀ {v:Value} {h':CH},(∀ c,op=.call c→∃ b,c.callee=.builtin b)→opF P (toE e) ⟨dst,op,ty,pos,aft,gd⟩ h.toA=some (v,h'.toA)→AOp P C (toE e) ⟨dst,op,ty,pos,aft,gd⟩ h.toA v h'.toA:=by
  intro v h' hc ho
  unfold AOp
  split
  ·rename_i f args ts he
   simp only at he
   obtain ⟨b,e⟩:=hc _ he
   cases e
  ·rename_i f args ts he
   simp only at he
   obtain ⟨b,e⟩:=hc _ he
   cases e
  ·exact ho
 have ok:=cop_ok P op
 unfold opR at q
 simp only at q
 cases hx:cop P op with
 | slow=>rw [hx] at q;exact slow q
 | mov x =>
  rw [hx] at q ok
  have q9:evK e x (fun v=>k v h)=true:=q
  rw [evK_eq] at q9
  rcases ok with rfl|rfl
  ·exact ⟨_,h,fin (by rintro c hc;cases hc) rfl,Nx.refl g,q9⟩
  ·exact ⟨_,h,fin (by rintro c hc;cases hc) rfl,Nx.refl g,q9⟩
 | bin b x y =>
  rw [hx] at q ok
  obtain ⟨t,yt,rfl⟩:=ok
  have q:rBin e b x y (opX P call e ⟨dst,.binOp b t x y yt,ty,pos,aft,gd⟩ h k) (fun v=>k v h)=true:=q
  unfold rBin at q
  rw [evK_eq,evK_eq] at q
  rcases intK_or q with q|⟨d,a,ha,q⟩
  ·exact slow q
  rcases intK_or q with q|⟨d',a',ha',q⟩
  ·exact slow q
  rcases brec_or q with q|⟨hd,q⟩
  ·exact slow q
  rcases intR_or q with q|⟨v,hv,q9⟩
  ·exact slow q
  have:=sameK_eq hd
  subst this
  refine ⟨v,h,fin (by rintro c hc;cases hc) ?_,Nx.refl g,q9⟩
  rw [opF_bin,ha,ha',fastI_spec hv];rfl
 | load1 a =>
  rw [hx] at q ok
  obtain ⟨t,rfl,h1⟩:=ok
  have q:rLoad1 e h a (opX P call e ⟨dst,.load t a,ty,pos,aft,gd⟩ h k) (fun v=>k v h)=true:=q
  unfold rLoad1 at q
  rw [evK_eq] at q
  rcases ptrK_or q with q|⟨b,o,ha,q⟩
  ·exact slow q
  rcases objK_or q with q|⟨c,T,kd,st,hb,q⟩
  ·exact slow q
  rcases brec_or q with q|⟨hl,q⟩
  ·exact slow q
  rw [nthK_eq] at q
  split at q
  ·rename_i v hv
   refine ⟨v,h,fin (by rintro c hc;cases hc) ?_,Nx.refl g,q⟩
   show (loadA P t h.toA (ev (toE e) a)).map (·,h.toA)=_
   rw [ha]
   simp only [loadA,rd_of_obj hb hl,h1,hv]
   rfl
  ·exact slow q
 | loadN s a =>
  rw [hx] at q ok
  obtain ⟨t,rfl,h1,h2⟩:=ok
  have q:rLoadN e h s a (opX P call e ⟨dst,.load t a,ty,pos,aft,gd⟩ h k) (fun v=>k v h)=true:=q
  unfold rLoadN at q
  rw [evK_eq] at q
  rcases ptrK_or q with q|⟨b,o,ha,q⟩
  ·exact slow q
  rcases objK_or q with q|⟨c,T,kd,st,hb,q⟩
  ·exact slow q
  rcases brec_or q with q|⟨hl,q⟩
  ·exact slow q
  obtain ⟨h3,q⟩:=dropK_spec q
  obtain ⟨h4,q⟩:=takeK_spec q
  refine ⟨_,h,fin (by rintro c hc;cases hc) ?_,Nx.refl g,q⟩
  show (loadA P t h.toA (ev (toE e) a)).map (·,h.toA)=_
  rw [ha]
  simp only [loadA,rd_of_obj hb hl,h1,h2]
  rw [if_pos (by rw [List.length_drop] at h4;omega)]
  rfl
 | faddr off x =>
  rw [hx] at q ok
  obtain ⟨t,f,fs,fd,sz,rfl,h1,h2,h3,h4,rfl⟩:=ok
  have q:rFaddr e fd.offset x (opX P call e ⟨dst,.fieldAddr t x f,ty,pos,aft,gd⟩ h k) (fun v=>k v h)=true:=q
  unfold rFaddr at q
  rw [evK_eq] at q
  rcases ptrK_or q with q|⟨b,o,ha,q⟩
  ·exact slow q
  rw [fN_eq] at q
  refine ⟨_,h,fin (by rintro c hc;cases hc) ?_,Nx.refl g,q⟩
  show (fieldAddrA P t (ev (toE e) x) f).map (·,h.toA)=_
  rw [ha]
  simp only [fieldAddrA,h1,h2,h3,if_neg h4]
  rfl
 | iarr len s x ix =>
  rw [hx] at q ok
  obtain ⟨t,el,rfl,h1,h2⟩:=ok
  have q:rIarr e len s x ix (opX P call e ⟨dst,.indexAddr t x ix,ty,pos,aft,gd⟩ h k) (fun v=>k v h)=true:=q
  unfold rIarr at q
  rw [evK_eq,evK_eq] at q
  rcases ptrK_or q with q|⟨b,o,ha,q⟩
  ·exact slow q
  rcases intK_or q with q|⟨d,i,hi,q⟩
  ·exact slow q
  rcases idxK_or q with q|⟨n,rfl,hn,q⟩
  ·exact slow q
  rw [fN_eq] at q
  refine ⟨_,h,fin (by rintro c hc;cases hc) ?_,Nx.refl g,q⟩
  show (indexAddrA P t (ev (toE e) x) (ev (toE e) ix)).map (·,h.toA)=_
  rw [ha,hi]
  simp only [indexAddrA,h1,h2]
  rw [if_pos (by omega)]
  rfl
 | islc s x ix =>
  rw [hx] at q ok
  obtain ⟨t,el,rfl,h1,h2⟩:=ok
  have q:rIslc e s x ix (opX P call e ⟨dst,.indexAddr t x ix,ty,pos,aft,gd⟩ h k) (fun v=>k v h)=true:=q
  unfold rIslc at q
  rw [evK_eq,evK_eq] at q
  rcases slcK_or q with q|⟨b,o,len,c,ha,q⟩
  ·exact slow q
  rcases intK_or q with q|⟨d,i,hi,q⟩
  ·exact slow q
  rcases idxK_or q with q|⟨n,rfl,hn,q⟩
  ·exact slow q
  rw [fN_eq] at q
  refine ⟨_,h,fin (by rintro c hc;cases hc) ?_,Nx.refl g,q⟩
  show (indexAddrA P t (ev (toE e) x) (ev (toE e) ix)).map (·,h.toA)=_
  rw [ha,hi]
  simp only [indexAddrA,h1,h2]
  rw [if_pos (by omega)]
  rfl
 | lenS x =>
  rw [hx] at q ok
  obtain ⟨args,ts,t,el,rfl,h1,h2,h3⟩:=ok
  have q:rLen e x (opX P call e ⟨dst,.call ⟨.builtin .len,args,ts⟩,ty,pos,aft,gd⟩ h k) (fun v=>k v h)=true:=q
  unfold rLen at q
  rw [evK_eq] at q
  rcases lenK_or q with q|⟨a,n,c,ha,q⟩
  ·exact slow q
  refine ⟨_,h,fin (by rintro c hc;cases hc;exact ⟨_,rfl⟩) ?_,Nx.refl g,q⟩
  simp only [opF,h1,h2,List.map_cons,List.map_nil,ha,lenA,h3]
  rfl
 | ext x i =>
  rw [hx] at q ok
  obtain rfl:=ok
  have q:rExt e x i (opX P call e ⟨dst,.extract x i,ty,pos,aft,gd⟩ h k) (fun v=>k v h)=true:=q
  unfold rExt at q
  rw [evK_eq] at q
  rcases tupK_or q with q|⟨l,ha,q⟩
  ·exact slow q
  rw [nthK_eq] at q
  split at q
  ·rename_i v hv
   refine ⟨v,h,fin (by rintro c hc;cases hc) ?_,Nx.refl g,q⟩
   show (extractA (ev (toE e) x) i).map (·,h.toA)=_
   rw [ha,extract_tup,hv]
   rfl
  ·exact slow q
 | st s a x =>
  rw [hx] at q ok
  obtain ⟨t,rfl,h1⟩:=ok
  have q:rSt e h s a x (opX P call e ⟨dst,.store t a x,ty,pos,aft,gd⟩ h k) k=true:=q
  unfold rSt at q
  rw [evK_eq,evK_eq] at q
  rcases ptrK_or q with q|⟨b,o,ha,q⟩
  ·exact slow q
  rcases objK_or q with q|⟨c,T,kd,st,hb,q⟩
  ·exact slow q
  have hg:h.toA.get b=.cells c T kd:=by rw [toA_get,obj_some hb];rfl
  cases kd with
  | ro=>exact slow q
  | gr _ _ _=>exact slow q
  | ex =>
   have one:∀ x:Value,notTup x=true→x.cells = #[x]→ev (toE e) ‹Operand› = x→True:=fun _ _ _ _=>trivial
   have fin1:∀ l:List Value,notTup (ev (toE e) x)=true→(ev (toE e) x).cells=⟨l⟩→l.length=s→∀ {c':List Value},o + l.length≤c.length→c'=splice c o l→setR h b (.cells c' T .ex) (fun h=>k undef h)=true →
     ∃ v h',AOp P C (toE e) ⟨dst,.store t a x,ty,pos,aft,gd⟩ h.toA v h'.toA∧Nx h h'∧k v h'=true:=by
    rintro l n1 n2 n3 c' n4 rfl q
    obtain ⟨h',s1,q⟩:=setR_spec q
    refine ⟨undef,h',fin (by rintro c hc;cases hc) ?_,⟨s1.evo,s1.good g hb low_ex (by intro _ _ _ _ he;cases he)⟩,q⟩
    show (storeA P t h.toA (ev (toE e) a) (ev (toE e) x)).map (undef,·)=_
    rw [ha]
    simp only [storeA,hg,h1]
    rw [if_pos ⟨n1,by rw [n2];exact n3,by omega,rfl⟩,n2,s1.toA]
    rfl
   have hs1:∀ {v:Value},ev (toE e) x=v→notTup v=true→v.cells = #[v]→(@Bool.rec (fun _=>Bool) (opX P call e ⟨dst,.store t a x,ty,pos,aft,gd⟩ h k) (set1K v c o fun c=>setR h b (.cells c T .ex) fun h=>k undef h) (Nat.beq s 1):Bool)=true →
     ∃ v h',AOp P C (toE e) ⟨dst,.store t a x,ty,pos,aft,gd⟩ h.toA v h'.toA∧Nx h h'∧k v h'=true:=by
    intro v hv n1 n2 q
    rcases brec_or q with q|⟨p,q⟩
    ·exact slow q
    rw [nbeq,decide_eq_true_eq] at p
    obtain ⟨q1,q⟩:=set1K_spec q
    exact fin1 [v] (by rw [hv];exact n1) (by rw [hv];exact n2) p.symm (by simp;omega) (splice_one q1).symm q
   have q:cellsK (ev (toE e) x) (opX P call e ⟨dst,.store t a x,ty,pos,aft,gd⟩ h k) (@Bool.rec (fun _=>Bool) (opX P call e ⟨dst,.store t a x,ty,pos,aft,gd⟩ h k) (set1K (ev (toE e) x) c o fun c=>setR h b (.cells c T .ex) fun h=>k undef h) (Nat.beq s 1))
    (fun l=>@Bool.rec (fun _=>Bool) (opX P call e ⟨dst,.store t a x,ty,pos,aft,gd⟩ h k) (splR l o c fun c=>setR h b (.cells c T .ex) fun h=>k undef h) (Nat.beq l.length s))=true:=q
   cases hv:ev (toE e) x with
   | agg arr =>
    obtain ⟨l⟩:=arr
    rw [hv] at q
    rcases brec_or q with q|⟨p,q⟩
    ·exact slow q
    rw [nbeq,decide_eq_true_eq] at p
    obtain ⟨q1,q⟩:=splR_spec q
    exact fin1 l (by rw [hv];rfl) (by rw [hv];rfl) p q1 rfl q
   | tuple _=>rw [hv] at q;exact slow q
   | _=>rw [hv] at q;exact hs1 hv rfl rfl q
 | pick c a b =>
  rw [hx] at q ok
  obtain rfl:=ok
  have q:rPick e c a b (opX P call e ⟨dst,.pick c a b,ty,pos,aft,gd⟩ h k) (fun v=>k v h)=true:=q
  rcases rPick_or q with q|⟨t,ha,q⟩
  ·exact slow q
  refine ⟨_,h,fin (by rintro c hc;cases hc) ?_,Nx.refl g,q⟩
  simp only [opF,ha]
 | alloc t c =>
  rw [hx] at q ok
  obtain ⟨rfl,z,h1,h2,rfl⟩:=ok
  have q:newR h (.cells z.cells.toList t .ex) (fun h1=>k (.pointer (some ⟨h.n,0,none⟩)) h1)=true:=q
  rw [newR_eq] at q
  obtain ⟨h',s,q⟩:=newO_spec g.w q
  refine ⟨_,h',fin (by rintro c hc;cases hc) ?_,⟨s.evo,s.good g low_ex (by intro _ _ _ _ he;cases he)⟩,q⟩
  show allocA P t h.toA=_
  simp only [allocA,h1,h2,if_true]
  rw [s.toA]
  rfl
 | box t x =>
  rw [hx] at q ok
  obtain rfl:=ok
  have q:rBox e h t x (opX P call e ⟨dst,.box t x,ty,pos,aft,gd⟩ h k) k=true:=q
  unfold rBox at q
  rw [evK_eq] at q
  have fin1:∀ l:List Value,notTup (ev (toE e) x)=true→(ev (toE e) x).cells=⟨l⟩→rAlloc h t l k=true→∃ v h',AOp P C (toE e) ⟨dst,.box t x,ty,pos,aft,gd⟩ h.toA v h'.toA∧Nx h h'∧k v h'=true:=by
   intro l n1 n2 q
   unfold rAlloc at q
   rw [newR_eq] at q
   obtain ⟨h',s,q⟩:=newO_spec g.w q
   refine ⟨_,h',fin (by rintro c hc;cases hc) ?_,⟨s.evo,s.good g low_ex (by intro _ _ _ _ he;cases he)⟩,q⟩
   show boxA t h.toA (ev (toE e) x)=_
   simp only [boxA,n1,if_true,n2]
   rw [s.toA]
   rfl
  cases hv:ev (toE e) x with
  | agg arr =>
   obtain ⟨l⟩:=arr
   rw [hv] at q
   exact fin1 l (by rw [hv];rfl) (by rw [hv];rfl) q
  | tuple _=>rw [hv] at q;exact slow q
  | _=>rw [hv] at q;exact fin1 [_] (by rw [hv];rfl) (by rw [hv];rfl) q
 | nilc x =>
  rw [hx] at q ok
  obtain rfl:=ok
  have q:rNil e x (opX P call e ⟨dst,.nilCheck x,ty,pos,aft,gd⟩ h k) (fun v=>k v h)=true:=q
  unfold rNil at q
  rw [evK_eq] at q
  rcases ptrK_or q with q|⟨b,o,ha,q⟩
  ·exact slow q
  refine ⟨_,h,fin (by rintro c hc;cases hc) ?_,Nx.refl g,q⟩
  show (nilCheckA (ev (toE e) x)).map (·,h.toA)=_
  rw [ha]
  rfl
 | call f args =>
  rw [hx] at q ok
  obtain ⟨as,ts,rfl,rfl⟩:=ok
  have q:rCall call e f as.toList h k=true:=q
  unfold rCall at q
  rw [evK_eq,evsK_eq] at q
  obtain ⟨v,h',a,b,c⟩:=callO_spec hC g q
  refine ⟨v,h', ?_,b,c⟩
  show callV C _ _ _ _ _
  have:as.map (ev (toE e))=(as.toList.map (ev (toE e))).toArray:=by rw [List.map_toArray]
  rw [this]
  exact a
end
noncomputable section
variable (P:Program)
def setER (d:Option Tmp) (v:Value) (e:CEnv) (k:CEnv→Bool):Bool:=Option.rec (motive:=fun _=>Bool) (k e) (fun t=>putR v 9 e t k) d
theorem setER_spec {d:Option Tmp} {v:Value} {e:CEnv} {k:CEnv→Bool} (h:setER d v e k=true):∃ e',toE e'=(toE e).set d v∧k e'=true:=by
 cases d with
 | none=>exact ⟨e,rfl,h⟩
 | some t =>
  obtain ⟨e',h1,h2⟩:=putR_spec (show putR v 9 e t k=true from h)
  exact ⟨e',toE_put h1,h2⟩
def stepX (call:CallX) (ops:Array Oper) (o:Oper) (e:CEnv) (h:CH) (k:CEnv→CH→Bool):Bool :=
 Option.rec (motive:=fun _=>Bool) (opR P call e o h fun v h=>setER o.dst v e fun e=>k e h)
  (fun _=>@Bool.rec (fun _=>Bool) (setER o.dst undef e fun e=>k e h) (opR P call e o h fun v h=>setER o.dst v e fun e=>k e h) (Region.wanted o (yieldedA ops (toE e)))) o.guard
def opsX (call:CallX) (ops:Array Oper) (os:List Oper):CEnv→CH→(CEnv→CH→Bool)→Bool :=
 List.rec (motive:=fun _=>CEnv→CH→(CEnv→CH→Bool)→Bool) (fun e h k=>k e h) (fun o _ ih e h k=>stepX P call ops o e h fun e h=>ih e h k) os
def okR (ops:Array Oper) (i:Nat) (h h':CH):List (Nat×Nat)→Bool
 | []=>true
 | r :: rs=>(isAnc ops r.1 i || same h h' r.2) && okR ops i h h' rs
def okA (ops:Array Oper) (i b:Nat):List (Nat×CH×CH)→Bool
 | []=>true
 | a :: as=>(isAnc ops a.1 i || same a.2.1 a.2.2 b) && okA ops i b as
def okO (ops:Array Oper) (i:Nat) (o:Option Nat) (as:List (Nat×CH×CH)):Bool:=match o with|some b=>okA ops i b as|none=>true
def drawX (call:CallX) (ops:Array Oper):List Oper→Nat→List (Nat×Nat)→List (Nat×CH×CH)→CEnv→CH→(CEnv→CH→Bool)→Bool
 | [],_,_,_,e,h,k=>k e h
 | o :: os,i,rs,as,e,h,k =>
  match simpleOp o.op with
  | true=>(match okO ops i (tch ops (toE e) h.toA o) as with
   | true=>stepX P call ops o e h fun e1 h1=>drawX call ops os (Nat.succ i) (rdO' i (tch ops (toE e) h.toA o) rs) as e1 h1 k
   | false=>false)
  | false=>stepX P call ops o e h fun e1 h1=>(match okR ops i h h1 rs with
   | true=>drawX call ops os (Nat.succ i) rs ((i,h,h1) :: as) e1 h1 k
   | false=>false)
variable {C:CallRel} {call:CallX}
theorem stepX_spec (hC:CallOk C call) {ops:Array Oper} {o:Oper} {e:CEnv} {h:CH} {k:CEnv→CH→Bool} (g:Good h) (q:stepX P call ops o e h k=true) :
  ∃ e' h',OpStep P C ops o (toE e) h.toA (toE e') h'.toA∧Nx h h'∧k e' h'=true:=by
 have yes:Region.wanted o (yieldedA ops (toE e))=true→opR P call e o h (fun v h=>setER o.dst v e fun e=>k e h)=true→∃ e' h',OpStep P C ops o (toE e) h.toA (toE e') h'.toA∧Nx h h'∧k e' h'=true:=by
  intro hw q
  obtain ⟨v,h',a,b,q⟩:=opR_spec P hC g q
  obtain ⟨e',c,q⟩:=setER_spec q
  exact ⟨e',h',.inl ⟨hw,v,a,c⟩,b,q⟩
 unfold stepX at q
 cases hg:o.guard with
 | none =>
  rw [hg] at q
  exact yes (by simp [Region.wanted,hg]) q
 | some gg =>
  rw [hg] at q
  cases hw:Region.wanted o (yieldedA ops (toE e)) with
  | true =>
   simp only [hw] at q
   exact yes hw q
  | false =>
   simp only [hw] at q
   obtain ⟨e',c,q⟩:=setER_spec q
   exact ⟨e',h,.inr ⟨hw,c,rfl⟩,Nx.refl g,q⟩
theorem opsX_spec (hC:CallOk C call) {ops:Array Oper}:∀ {os:List Oper} {e:CEnv} {h:CH} {k:CEnv→CH→Bool},Good h→opsX P call ops os e h k=true →
  ∃ e' h',OpsRun P C ops os (toE e) h.toA (toE e') h'.toA∧Nx h h'∧k e' h'=true
 | [],e,h,k,g,q=>⟨e,h,⟨rfl,rfl⟩,Nx.refl g,q⟩
 | o :: os,e,h,k,g,q=>by
  have q:stepX P call ops o e h (fun e h=>opsX P call ops os e h k)=true:=q
  obtain ⟨e1,h1,a,b,q⟩:=stepX_spec P hC g q
  obtain ⟨e2,h2,c,d,q⟩:=opsX_spec hC b.2 q
  exact ⟨e2,h2,⟨_,_,a,c⟩,⟨b.1.trans d.1,d.2⟩,q⟩
theorem okR_spec {ops:Array Oper} {i:Nat} {h h':CH} (k:Evo h h'):∀ {rs:List (Nat×Nat)},okR ops i h h' rs=true→oblR ops i h.toA h'.toA rs
 | [],_=>trivial
 | r :: rs,q=>by
  simp only [okR,Bool.and_eq_true,Bool.or_eq_true] at q
  exact ⟨q.1.imp id (same_spec k),okR_spec k q.2⟩
def asA (as:List (Nat×CH×CH)):List (Nat×AHeap×AHeap):=as.map fun a=>(a.1,a.2.1.toA,a.2.2.toA)
theorem okA_spec {ops:Array Oper} {i b:Nat}:∀ {as:List (Nat×CH×CH)},(∀ a,a∈as→Evo a.2.1 a.2.2)→okA ops i b as=true→oblA ops i b (asA as)
 | [],_,_=>trivial
 | a :: as,hE,q=>by
  simp only [okA,Bool.and_eq_true,Bool.or_eq_true] at q
  exact ⟨q.1.imp id (same_spec (hE a (List.mem_cons_self ..))),okA_spec (fun a h=>hE a (List.mem_cons_of_mem _ h)) q.2⟩
theorem OpStep_WO {ops:Array Oper} {o:Oper} {e e':Env} {H H':AHeap} {K:Env→AHeap→Prop} (h:OpStep P C ops o e H e' H') (k:K e' H'):WO P C ops [o] K e H:=⟨e',H',⟨e',H',h,rfl,rfl⟩,k⟩
theorem drawX_spec (hC:CallOk C call) {ops:Array Oper} {h0:CH}:∀ {os:List Oper} {i:Nat} {rs:List (Nat×Nat)} {as:List (Nat×CH×CH)} {e:CEnv} {h:CH} {k:CEnv→CH→Bool},Good h→Evo h0 h →
  (∀ a,a∈as→Evo a.2.1 a.2.2)→drawX P call ops os i rs as e h k=true →
  WD P C ops os i rs (asA as) (fun E H=>∃ e' h',E=toE e'∧H=h'.toA∧Nx h0 h'∧k e' h'=true) (toE e) h.toA
 | [],i,rs,as,e,h,k,g,he,ha,q=>⟨e,h,rfl,rfl,⟨he,g⟩,q⟩
 | o :: os,i,rs,as,e,h,k,g,he,ha,q=>by
  rw [drawX] at q
  rw [WD]
  split at q
  ·rename_i hs
   rw [if_pos hs]
   split at q
   rotate_left
   ·cases q
   rename_i ho
   obtain ⟨e1,h1,a,b,q⟩:=stepX_spec P hC g q
   refine ⟨?_,OpStep_WO P a (drawX_spec hC b.2 (he.trans b.1) ha q)⟩
   unfold okO at ho
   unfold oblO
   cases htc:tch ops (toE e) h.toA o with
   | none=>trivial
   | some x=>rw [htc] at ho;exact okA_spec ha ho
  ·rename_i hs
   rw [if_neg (by rw [hs];simp)]
   obtain ⟨e1,h1,a,b,q⟩:=stepX_spec P hC g q
   split at q
   rotate_left
   ·cases q
   rename_i ho
   refine OpStep_WO P a ⟨okR_spec b.1 ho, ?_⟩
   refine drawX_spec (as:=(i,h,h1) :: as) hC b.2 (he.trans b.1) (fun a h=>?_) q
   rcases List.mem_cons.1 h with rfl|h
   ·exact b.1
   ·exact ha a h
def iterX (body:CEnv→CH→(Ex→CEnv→CH→Bool)→Bool) (n:Nat):CEnv→CH→(Ex→CEnv→CH→Bool)→Bool :=
 Nat.rec (motive:=fun _=>CEnv→CH→(Ex→CEnv→CH→Bool)→Bool) (fun _ _ _=>false)
  (fun _ ih e h k=>body e h fun x e h=>Ex.rec (motive:=fun _=>Bool) (ih e h k) (fun i=>k (.exit i) e h) (k .ret e h) x) n
def exOf:Option Code→Option Ex
 | none=>some .normal
 | some (.exit i)=>some (.exit i)
 | some .ret=>some .ret
 | _=>none
theorem exOf_spec {p:Option Code} {x:Ex} (h:exOf p=some x):p=x.jump:=by
 unfold exOf at h
 split at h
 all_goals (cases h;try rfl)
def busy:LoopState→Bool
 | .busy=>true
 | _=>false
def condX (e:CEnv) (c:Operand) (a b:Bool):Bool :=
 evK e c fun v=>Value.casesOn (motive_1:=fun _=>Bool) v (fun t=>@Bool.rec (fun _=>Bool) b a t) (fun d n=>false) (fun _ _=>false) (fun _ _ _=>false) (fun _=>false) (fun _=>false) (fun _ _ _=>false) (fun _=>false) (fun _=>false) (fun _ _ _=>false) false (fun _ _=>false) false (fun _=>false) (fun _=>false)
theorem condX_spec {e:CEnv} {c:Operand} {a b:Bool} (q:condX e c a b=true):(ev (toE e) c=.bool true∧a=true)∨(ev (toE e) c=.bool false∧b=true):=by
 unfold condX at q
 rw [evK_eq] at q
 cases hv:ev (toE e) c with
 | bool t=>rw [hv] at q;cases t with
  | true=>exact .inl ⟨rfl,q⟩
  | false=>exact .inr ⟨rfl,q⟩
 | _=>rw [hv] at q;cases q
def rangeX (call:CallX) (nt:Nat) (f:Operand) (ps:Array Tmp) (asg body:Code) (e:CEnv) (h:CH) (k:Ex→CEnv→CH→Bool):Bool :=
 newO h (.loop nt e ps asg body .ready none) fun h1 =>
   callO call (ev (toE e) f) [.func (.yield h.n) #[] #[]] h1 fun _ h2=>match h2.t.get h.n with
    | some (.loop nt2 e2 ps2 a2 b2 st pend,_)=>(match Nat.beq nt2 nt && !(busy st),exOf pend with
     | true,some x=>setO h2 h.n (.loop nt2 e2 ps2 a2 b2 .exhausted pend) fun h3=>k x e h3
     | _,_=>false)
    | _=>false
def runX (call:CallX) (nt:Nat) (c:Code):CEnv→CH→(Ex→CEnv→CH→Bool)→Bool :=
 Code.rec (motive:=fun _=>CEnv→CH→(Ex→CEnv→CH→Bool)→Bool)
  (fun e h k=>k .normal e h)
  (fun _ ops d e h k=>@Bool.rec (fun _=>Bool) (opsX P call ops ops.toList e h fun e h=>k .normal e h) (drawX P call ops ops.toList 0 [] [] e h fun e h=>k .normal e h) d)
  (fun _ _ ra rb e h k=>ra e h fun x e h=>Ex.rec (motive:=fun _=>Bool) (rb e h k) (fun i=>k (.exit i) e h) (k .ret e h) x)
  (fun c _ _ ra rb e h k=>condX e c (ra e h k) (rb e h k))
  (fun id _ rb e h k=>rb e h fun x e h=>Ex.rec (motive:=fun _=>Bool) (k .normal e h) (fun i=>@Bool.rec (fun _=>Bool) (k (.exit i) e h) (k .normal e h) (Nat.beq i id)) (k .ret e h) x)
  (fun _ rb e h k=>iterX rb 100000 e h k)
  (fun f ps asg body _ _ e h k=>rangeX call nt f ps asg body e h k)
  (fun i e h k=>k (.exit i) e h)
  (fun _ rb e h k=>rb e h k)
  (fun _ e h k=>k .normal e h)
  (fun _ _ _ _=>false)
  (fun e h k=>k .ret e h)
  (fun _ _ _ _=>false) c
theorem iterX_spec {nt:Nat} {b:Code} {body:CEnv→CH→(Ex→CEnv→CH→Bool)→Bool} (hb:∀ {e h k},Good h→body e h k=true→∃ x e' h',ARun P C 0 nt b (toE e) h.toA x (toE e') h'.toA∧Nx h h'∧k x e' h'=true) :
  ∀ {n:Nat} {e:CEnv} {h:CH} {k:Ex→CEnv→CH→Bool},Good h→iterX body n e h k=true→∃ x e' h',ARun P C 0 nt (.loop b) (toE e) h.toA x (toE e') h'.toA∧Nx h h'∧k x e' h'=true
 | 0,e,h,k,g,q=>by cases q
 | n + 1,e,h,k,g,q=>by
  have q:body e h (fun x e h=>Ex.rec (motive:=fun _=>Bool) (iterX body n e h k) (fun i=>k (.exit i) e h) (k .ret e h) x)=true:=q
  obtain ⟨x,e1,h1,a,b,q⟩:=hb g q
  cases x with
  | normal =>
   obtain ⟨x2,e2,h2,a2,b2,q⟩:=iterX_spec hb b.2 q
   exact ⟨x2,e2,h2,.loopN a a2,⟨b.1.trans b2.1,b2.2⟩,q⟩
  | exit i=>exact ⟨_,e1,h1,.loopX a (by simp),b,q⟩
  | ret=>exact ⟨_,e1,h1,.loopX a (by simp),b,q⟩
theorem runX_spec (hC:CallOk C call) {nt:Nat}:∀ {c:Code} {e:CEnv} {h:CH} {k:Ex→CEnv→CH→Bool},Good h→runX P call nt c e h k=true →
  ∃ x e' h',ARun P C 0 nt c (toE e) h.toA x (toE e') h'.toA∧Nx h h'∧k x e' h'=true:=by
 intro c
 induction c with
 | skip=>intro e h k g q;exact ⟨_,e,h,.skip,Nx.refl g,q⟩
 | label l=>intro e h k g q;exact ⟨_,e,h,.label,Nx.refl g,q⟩
 | exit i=>intro e h k g q;exact ⟨_,e,h,.exit,Nx.refl g,q⟩
 | ret=>intro e h k g q;exact ⟨_,e,h,.ret,Nx.refl g,q⟩
 | goto l=>intro e h k g q;cases q
 | refuse l=>intro e h k g q;cases q
 | scope b ih=>intro e h k g q;have q:runX P call nt b e h k=true:=q;obtain ⟨x,e1,h1,a,b,q⟩:=ih g q;exact ⟨x,e1,h1,.scope a,b,q⟩
 | seq a b iha ihb =>
  intro e h k g q
  have q:runX P call nt a e h (fun x e h=>Ex.rec (motive:=fun _=>Bool) (runX P call nt b e h k) (fun i=>k (.exit i) e h) (k .ret e h) x)=true:=q
  obtain ⟨x,e1,h1,a,b,q⟩:=iha g q
  cases x with
  | normal =>
   obtain ⟨x2,e2,h2,a2,b2,q⟩:=ihb b.2 q
   exact ⟨x2,e2,h2,.seqN a a2,⟨b.1.trans b2.1,b2.2⟩,q⟩
  | exit i=>exact ⟨_,e1,h1,.seqX a (by simp),b,q⟩
  | ret=>exact ⟨_,e1,h1,.seqX a (by simp),b,q⟩
 | cond c a b iha ihb =>
  intro e h k g q
  have q:condX e c (runX P call nt a e h k) (runX P call nt b e h k)=true:=q
  rcases condX_spec q with ⟨hc,q⟩|⟨hc,q⟩
  ·obtain ⟨x,e1,h1,a,b,q⟩:=iha g q
   exact ⟨x,e1,h1,.cond hc (by simpa using a),b,q⟩
  ·obtain ⟨x,e1,h1,a,b,q⟩:=ihb g q
   exact ⟨x,e1,h1,.cond hc (by simpa using a),b,q⟩
 | block id b ih =>
  intro e h k g q
  have q:runX P call nt b e h (fun x e h=>Ex.rec (motive:=fun _=>Bool) (k .normal e h) (fun i=>@Bool.rec (fun _=>Bool) (k (.exit i) e h) (k .normal e h) (Nat.beq i id)) (k .ret e h) x)=true:=q
  obtain ⟨x,e1,h1,a,b,q2⟩:=ih g q
  clear q
  cases x with
  | normal=>exact ⟨_,e1,h1,.blockX a (by simp),b,q2⟩
  | exit i =>
   have q3:@Bool.rec (fun _=>Bool) (k (.exit i) e1 h1) (k .normal e1 h1) (Nat.beq i id)=true:=q2
   clear q2
   by_cases hb:i=id
   ·rw [nbeq,decide_eq_true hb] at q3
    subst hb
    exact ⟨_,e1,h1,.blockE a,b,q3⟩
   ·rw [nbeq,decide_eq_false hb] at q3
    exact ⟨_,e1,h1,.blockX a (by simpa using hb),b,q3⟩
  | ret=>exact ⟨_,e1,h1,.blockX a (by simp),b,q2⟩
 | loop b ih =>
  intro e h k g q
  have q:iterX (runX P call nt b) 100000 e h k=true:=q
  exact iterX_spec P ih g q
 | region id ops d =>
  intro e h k g q
  cases d with
  | false =>
   have q:opsX P call ops ops.toList e h (fun e h=>k .normal e h)=true:=q
   obtain ⟨e1,h1,a,b,q⟩:=opsX_spec P hC g q
   exact ⟨_,e1,h1,.region a,b,q⟩
  | true =>
   have q:drawX P call ops ops.toList 0 [] [] e h (fun e h=>k .normal e h)=true:=q
   have:=drawX_spec P hC (h0:=h) g (Evo.refl h) (by simp) q
   obtain ⟨E',H',hd,e',h',rfl,rfl,b,q⟩:=WD_run (P:=P) (C:=C) ops.toList 0 [] [] (fun _=>toE e) (fun _=>h.toA) (by simp) (Nat.zero_le _)
    ⟨fun i o hi=>by omega,fun i o b hi=>by omega,fun i o hi=>by omega,fun i j oi oj hi=>by omega⟩ this
   exact ⟨_,e',h',.drawn hd,b,q⟩
 | rangeFunc f ps asg body iha ihb =>
  intro e h k g q
  have q:rangeX call nt f ps asg body e h k=true:=q
  unfold rangeX at q
  obtain ⟨h1,s1,q⟩:=newO_spec g.w q
  have g1:=s1.good g (by intro _ _ _ _ _ he;cases he) (by intro _ _ _ _ he;cases he)
  obtain ⟨v,h2,a,b,q2⟩:=callO_spec hC g1 q
  clear q
  split at q2
  rotate_left
  ·cases q2
  rename_i nt2 e2 ps2 a2 b2 st pend stt hl
  split at q2
  rotate_left
  ·cases q2
  rename_i x hb hx
  obtain ⟨h3,s3,q3⟩:=setO_spec q2
  clear q2
  simp only [Bool.and_eq_true,nbeq,decide_eq_true_eq] at hb
  obtain ⟨rfl,hb⟩:=hb
  refine ⟨x,e,h3, ?_,⟨(s1.evo.trans b.1).trans s3.evo,s3.good b.2 hl (by intro _ _ _ _ _ he;cases he) (by intro _ _ _ _ he;cases he)⟩,q3⟩
  rw [s3.toA]
  rw [s1.toA] at a
  refine ARun.range (v:=v) a (env2:=toE e2) (ps2:=ps2) (a2:=a2) (b2:=b2) (st:=st) ?_ ?_ (exOf_spec hx)
  ·show h2.obj h.n=_
   rw [obj_some hl];rfl
  ·rintro rfl;simp [busy] at hb
abbrev Orc:=FuncId→List Value→Option Value
def OrcOk (orc:Orc):Prop:=∀ f args v,orc f args=some v→∀ H,OrC P f args.toArray H v H
def isNone:Option Code→Bool
 | none=>true
 | some _=>false
def prep (f:FuncId):Option (Func×Code):=match P.funcs[f]? with
 | some fn=>(match fn.body with
  | some c => (match !(fn.name == "runtime.NumGoroutine") && codeOk 0 fn.ntmps c with | true => some (fn, c) | false => none)
  | none=>none)
 | none=>none
theorem prep_spec {f : FuncId} {fn : Func} {c : Code} (h : prep P f = some (fn, c)) : P.funcs[f]? = some fn ∧ fn.body = some c ∧ (fn.name == "runtime.NumGoroutine") = false ∧ codeOk 0 fn.ntmps c = true := by
 unfold prep at h
 split at h
 ·rename_i fn' e1
  split at h
  ·rename_i c' e2
   split at h
   ·rename_i hc
    simp only [Bool.and_eq_true,Bool.not_eq_true'] at hc
    cases h
    exact ⟨e1,e2,hc.1,hc.2⟩
   ·cases h
  ·cases h
 ·cases h
def argsR (l:List Value):Nat→CEnv→(CEnv→Bool)→Bool :=
 List.rec (motive:=fun _=>Nat→CEnv→(CEnv→Bool)→Bool) (fun _ e k=>k e) (fun v _ ih i e k=>putR v 9 e i fun e=>ih (Nat.succ i) e k) l
theorem argsR_eq:∀ (l:List Value) (i:Nat) (e:CEnv) (k:CEnv→Bool),argsR l i e k=argsE l i e k
 | [],_,_,_=>rfl
 | v :: l,i,e,k=>by
  show putR v 9 e i (fun e=>argsR l (Nat.succ i) e k)=Tr.putK v 9 e i (fun e=>argsE l (Nat.succ i) e k)
  rw [putR_eq]
  congr 1
  funext e
  exact argsR_eq l _ e k
def fV (v:Value):Bool:=Value.casesOn (motive_1:=fun _=>Bool) v (fun _=>true) (fun d n=>true) (fun _ _=>true) (fun _ _ _=>true) (fun _=>true) (fun a=>Option.rec (motive:=fun _=>Bool) true (fun _=>false) a) (fun a _ _=>Option.rec (motive:=fun _=>Bool) true (fun _=>false) a) (fun a=>Option.rec (motive:=fun _=>Bool) true (fun _=>false) a) (fun a=>Option.rec (motive:=fun _=>Bool) true (fun _=>false) a) (fun _ _ _=>false) true (fun _ _=>false) true (fun _=>false) (fun _=>false)
theorem fV_eq (v:Value):fV v=flat v:=by
 cases v with
 | pointer a=>cases a <;> rfl
 | slice a l c=>cases a <;> rfl
 | map a=>cases a <;> rfl
 | chan a=>cases a <;> rfl
 | _=>rfl
def allR (p:Value→Bool) (l:List Value):Bool:=List.rec (motive:=fun _=>Bool) true (fun a _ ih=>@Bool.rec (fun _=>Bool) false ih (p a)) l
theorem allR_eq (p:Value→Bool):∀ l:List Value,allR p l=l.all p
 | []=>rfl
 | a :: l=>by
  show @Bool.rec (fun _=>Bool) false (allR p l) (p a)=_
  rw [allR_eq p l,List.all_cons]
  cases p a <;> rfl
def dfV (v:Value):Bool:=Value.casesOn (motive_1:=fun _=>Bool) v (fun _=>fV v) (fun d n=>fV v) (fun _ _=>fV v) (fun _ _ _=>fV v) (fun _=>fV v) (fun _=>fV v) (fun _ _ _=>fV v) (fun _=>fV v) (fun _=>fV v) (fun _ _ _=>fV v) (fV v) (fun _ _=>fV v) (fV v) (fun a=>Array.rec (motive:=fun _=>Bool) (fun l=>allR fV l) a) (fun _=>fV v)
theorem dfV_eq (v:Value):dfV v=dflat v:=by
 have e:fV=flat:=funext fV_eq
 have h1:=fV_eq v
 cases v with
 | agg a =>
  obtain ⟨l⟩:=a
  show allR fV l=_
  rw [allR_eq,e]
  simp [dflat]
 | tuple a=>rfl
 | _=>exact h1
def flR (v:Value):Bool:=Value.casesOn (motive_1:=fun _=>Bool) v (fun _=>true) (fun d n=>true) (fun _ _=>true) (fun _ _ _=>true) (fun _=>true) (fun _=>fV v) (fun _ _ _=>fV v) (fun _=>fV v) (fun _=>fV v) (fun _ _ _=>false) true (fun _ _=>false) true (fun _=>dfV v) (fun a=>Array.rec (motive:=fun _=>Bool) (fun l=>allR dfV l) a)
theorem flR_eq (v:Value):flR v=flatR v:=by
 have e:dfV=dflat:=funext dfV_eq
 have h1:=fV_eq v
 have h2:=dfV_eq v
 cases v with
 | agg a=>exact h2
 | tuple a =>
  obtain ⟨l⟩:=a
  show allR dfV l=_
  rw [allR_eq,e]
  simp [flatR]
 | pointer a=>exact h1
 | slice a l c=>exact h1
 | map a=>exact h1
 | chan a=>exact h1
 | _=>rfl
def resR1 (e:CEnv) (h:CH) (r:ResultVar) (k:Value→Bool):Bool :=
 ResultVar.rec (motive:=fun _=>Bool) (fun t=>Tr.getK e t (k undef) k) (fun a t=>match loadA P t h.toA (toE e a) with|some v=>forceV v k|none=>false) r
theorem resR1_spec {e:CEnv} {h:CH} {r:ResultVar} {k:Value→Bool} (q:resR1 P e h r k=true):∃ v,resVal P (toE e) h.toA r=some v∧k v=true:=by
 cases r with
 | tmp t =>
  have q:Tr.getK e t (k undef) k=true:=q
  rw [getK_eq] at q
  refine ⟨_,rfl, ?_⟩
  unfold toE
  revert q
  cases e.get t <;> exact id
 | cell a t =>
  have q:(match loadA P t h.toA (toE e a) with|some v=>forceV v k|none=>false)=true:=q
  split at q
  ·rename_i v hv
   rw [forceV_eq] at q
   exact ⟨v,hv,q⟩
  ·cases q
def resRs (e:CEnv) (h:CH) (rs:List ResultVar):(List Value→Bool)→Bool :=
 List.rec (motive:=fun _=>(List Value→Bool)→Bool) (fun k=>k []) (fun r _ ih k=>resR1 P e h r fun v=>ih fun l=>k (v :: l)) rs
theorem resRs_spec {e:CEnv} {h:CH}:∀ {rs:List ResultVar} {k:List Value→Bool},resRs P e h rs k=true→∃ l,rs.mapM (resVal P (toE e) h.toA)=some l∧k l=true
 | [],k,q=>⟨[],rfl,q⟩
 | r :: rs,k,q=>by
  have q:resR1 P e h r (fun v=>resRs P e h rs fun l=>k (v :: l))=true:=q
  obtain ⟨v,h1,q⟩:=resR1_spec P q
  obtain ⟨l,h2,q⟩:=resRs_spec q
  exact ⟨v :: l,by simp [List.mapM_cons,h1,h2],q⟩
def resR (fn:Func) (e:CEnv) (h:CH) (k:Value→Bool):Bool :=
 resRs P e h fn.results.toList fun l=>match l with|[v]=>k v|vs=>k (.tuple ⟨vs⟩)
theorem resR_spec {fn:Func} {e:CEnv} {h:CH} {k:Value→Bool} (q:resR P fn e h k=true):∃ v,resultsA P fn (toE e) h.toA=some v∧k v=true:=by
 unfold resR at q
 obtain ⟨l,h1,q⟩:=resRs_spec P q
 unfold resultsA
 rw [h1]
 cases l with
 | nil=>exact ⟨_,rfl,q⟩
 | cons a l=>cases l with
  | nil=>exact ⟨_,rfl,q⟩
  | cons b l=>exact ⟨_,rfl,q⟩
def retR (fn:Func) (h:CH) (k:Value→CH→Bool) (e1:CEnv) (h1:CH):Bool :=
 resR P fn e1 h1 fun v=>@Bool.rec (fun _=>Bool) (@Bool.rec (fun _=>Bool) (k v h1) (k v ⟨h1.n,h1.clk,h.w,h1.t,h1.g⟩) (Nat.ble h.w h1.w))
  (@Bool.rec (fun _=>Bool) (@Bool.rec (fun _=>Bool) (k v h1) (k v ⟨h1.n,h1.clk,h.w,h1.t,h1.g⟩) (Nat.ble h.w h1.w)) (k v ⟨h1.n,h.clk,h.w,h.t,h.g⟩) (flR v)) (Nat.ble h.n h1.w)
def bodyR (call:CallX) (fn:Func) (c:Code) (args:List Value) (h:CH) (k:Value→CH→Bool):Bool :=
 @Bool.rec (fun _=>Bool) false (argsR args 0 .nil fun e=>runX P call fn.ntmps c e ⟨h.n,h.clk,h.n,h.t,h.g⟩ fun x e1 h1=>Ex.rec (motive:=fun _=>Bool) (retR P fn h k e1 h1) (fun _=>false) (retR P fn h k e1 h1) x) (Nat.ble args.length fn.ntmps)
def callX (orc:Orc):Nat→CallX
 | 0=>fun _ _ _ _=>false
 | n + 1=>fun t args h k=>match t with
  | .fn f=>Option.rec (motive:=fun _=>Bool) (Option.rec (motive:=fun _=>Bool) false (fun p=>Prod.rec (motive:=fun _=>Bool) (fun fn c=>bodyR P (callX orc n) fn c args h k) p) (prep P f)) (fun v=>forceV v fun v=>k v h) (orc f args)
  | .yield l=>match h.t.get l with
   | some (.loop nt e ps asg body st pend,_) =>
    (match Nat.beq args.length ps.size && ((ps.all fun t=>decide (t < nt)) && (codeOk 0 nt asg && (codeOk 0 nt body && (noRange asg && (noRange body && isNone pend))))) with
    | true=>roundE (ps.toList.zip args) e fun e=>runX P (callX orc n) nt asg e h fun x e1 h1=>(match x with
     | .normal=>(match h1.t.get l with
      | some (.loop nt1 e1' ps1 a1 b1 .ready pend1,_)=>(match Nat.beq nt1 nt with
       | true=>setO h1 l (.loop nt1 e1' ps1 a1 b1 .busy pend1) fun h2=>runX P (callX orc n) nt body e1 h2 fun x e2 h3=>(match h3.t.get l with
        | some (.loop nt3 e3 ps3 a3 b3 st3 pend3,_)=>(match Nat.beq nt3 nt && isNone pend3 with
         | true=>(match x with
          | .normal=>setO h3 l (.loop nt3 e3 ps3 a3 b3 .ready none) fun h4=>k (.bool true) h4
          | .exit i=>setO h3 l (.loop nt3 e3 ps3 a3 b3 .done (some (.exit i))) fun h4=>k (.bool false) h4
          | .ret=>setO h3 l (.loop nt3 e3 ps3 a3 b3 .done (some .ret)) fun h4=>k (.bool false) h4)
         | false=>false)
        | _=>false)
       | false=>false)
      | _=>false)
     | _=>false)
    | false=>false)
   | _=>false
theorem Good.w' {h:CH} (g:Good h) {w:Nat} (hw:w≤h.n):Good ⟨h.n,h.clk,w,h.t,h.g⟩:=⟨g.gr,hw,g.lt,g.mem⟩
theorem callX_spec {orc:Orc} (hO:OrcOk P orc):∀ n,CallOk (CX P (n + 1)) (callX P orc n)
 | 0=>by intro t args h k g q;cases q
 | n + 1=>by
  have ih:=callX_spec hO n
  intro t args h k g q
  rw [callX] at q
  cases t with
  | fn f =>
   simp only at q
   cases ho:orc f args with
   | some v =>
    rw [ho] at q
    have q:forceV v (fun v=>k v h)=true:=q
    rw [forceV_eq] at q
    exact ⟨v,h,Cl.or (.inl (hO _ _ _ ho _)),Nx.refl g,q⟩
   | none =>
    rw [ho] at q
    cases hp:prep P f with
    | none=>rw [hp] at q;cases q
    | some pp =>
    obtain ⟨fn,c⟩:=pp
    rw [hp] at q
    have q:bodyR P (callX P orc n) fn c args h k=true:=q
    obtain ⟨e1,e2,e4,hok⟩:=prep_spec P hp
    unfold bodyR at q
    rcases brec_or q with q|⟨e3,q⟩
    ·cases q
    have e3:=Nat.le_of_ble_eq_true e3
    rw [argsR_eq] at q
    obtain ⟨e0,he0,q⟩:=argsE_env q
    obtain ⟨x,env1,h1,a,b,q⟩:=runX_spec P ih (g.w' (Nat.le_refl _)) q
    have a:ARun P (CX P (n + 1)) 0 fn.ntmps c (toE e0) h.toA x (toE env1) h1.toA:=a
    rw [he0] at a
    have hx:x=.normal∨x=.ret:=by
     cases x with
     | normal=>exact .inl rfl
     | exit i=>cases q
     | ret=>exact .inr rfl
    have q:retR P fn h k env1 h1=true:=by
     rcases hx with rfl|rfl <;> exact q
    unfold retR at q
    obtain ⟨v,hv,q⟩:=resR_spec P q
    have q:(flatR v=true∧h.n≤h1.w∧k v ⟨h1.n,h.clk,h.w,h.t,h.g⟩=true)∨(h.w≤h1.w∧k v ⟨h1.n,h1.clk,h.w,h1.t,h1.g⟩=true)∨(¬ h.w≤h1.w∧k v h1=true):=by
     have two:@Bool.rec (fun _=>Bool) (k v h1) (k v ⟨h1.n,h1.clk,h.w,h1.t,h1.g⟩) (Nat.ble h.w h1.w)=true→(h.w≤h1.w∧k v ⟨h1.n,h1.clk,h.w,h1.t,h1.g⟩=true)∨(¬ h.w≤h1.w∧k v h1=true):=by
      intro q
      cases hw:Nat.ble h.w h1.w with
      | true=>rw [hw] at q;exact .inl ⟨Nat.le_of_ble_eq_true hw,q⟩
      | false=>rw [hw] at q;exact .inr ⟨(fun hh=>by rw [Nat.ble_eq_true_of_le hh] at hw;cases hw),q⟩
     rcases brec_or q with q|⟨p1,q⟩
     ·exact .inr (two q)
     rcases brec_or q with q|⟨p2,q⟩
     ·exact .inr (two q)
     ·exact .inl ⟨by rw [← flR_eq];exact p2,Nat.le_of_ble_eq_true p1,q⟩
    have hcall:CX P (n + 1) (.fn f) args.toArray h.toA v h1.toA:=Cl.fn e1 e2 e4 (by simpa using e3) hok a hx hv
    have hev:=b.1
    have hn:h.n≤h1.n:=hev.n
    have up:∀ w,w≤h.w→w≤h1.w→Nx h ⟨h1.n,h1.clk,w,h1.t,h1.g⟩:=fun w q1 q2=>⟨⟨hev.clk,hn,q1,hev.old,hev.non,fun j hj=>hev.low j (Nat.lt_of_lt_of_le (show j < w from hj) q2)⟩,b.2.w' (Nat.le_trans q2 b.2.w)⟩
    rcases q with ⟨hf,hw,q⟩|⟨hw,q⟩|⟨hw,q⟩
    ·refine ⟨v,⟨h1.n,h.clk,h.w,h.t,h.g⟩,Cl.or (.inr ⟨hf,⟨fn,c,e1,e2,e4⟩,h1.toA,hcall,hn,fun j hj=>?_,rfl⟩),⟨⟨Nat.le_refl _,hn,Nat.le_refl _,fun _ _ _ e _=>e,fun _ e=>e,fun _ _=>rfl⟩, ?_⟩,q⟩
     ·have:=hev.low j (Nat.lt_of_lt_of_le (show j < h.n from hj) hw)
      show h1.obj j=h.obj j
      have:h1.t.get j=h.t.get j:=this
      simp [CH.obj,this]
     ·exact ⟨g.gr,Nat.le_trans g.w hn,fun j p hj=>Nat.lt_of_lt_of_le (g.lt j p hj) hn,g.mem⟩
    ·exact ⟨v,⟨h1.n,h1.clk,h.w,h1.t,h1.g⟩,CX.step _ _ _ _ _ _ hcall,up h.w (Nat.le_refl _) hw,q⟩
    ·exact ⟨v,h1,CX.step _ _ _ _ _ _ hcall,up h1.w (by omega) (Nat.le_refl _),q⟩
  | yield l =>
   simp only at q
   split at q
   rotate_left
   ·cases q
   rename_i nt e ps asg body st pend st0 hl
   split at q
   rotate_left
   ·cases q
   rename_i hc
   simp only [Bool.and_eq_true,nbeq,decide_eq_true_eq] at hc
   obtain ⟨c1,c2,c3,c4,c5,c6,c7⟩:=hc
   have hp:pend=none:=by cases pend with|none=>rfl|some _=>simp [isNone] at c7
   subst hp
   obtain ⟨e0,he0,q⟩:=roundE_spec q
   obtain ⟨x,e1,h1,a,b,q⟩:=runX_spec P ih g q
   split at q
   rotate_left
   ·cases q
   split at q
   rotate_left
   ·cases q
   rename_i nt1 e1' ps1 a1 b1 pend1 st1 hl1
   split at q
   rotate_left
   ·cases q
   rename_i hn1
   rw [nbeq,decide_eq_true_eq] at hn1
   subst hn1
   obtain ⟨h2,s2,q⟩:=setO_spec q
   have g2:=s2.good b.2 hl1 (by intro _ _ _ _ _ he;cases he) (by intro _ _ _ _ he;cases he)
   obtain ⟨x2,e2,h3,a2,b2,q⟩:=runX_spec P ih g2 q
   split at q
   rotate_left
   ·cases q
   rename_i nt3 e3 ps3 a3 b3 st3 pend3 stt3 hl3
   split at q
   rotate_left
   ·cases q
   rename_i hn3
   simp only [Bool.and_eq_true,nbeq,decide_eq_true_eq] at hn3
   obtain ⟨rfl,hp3⟩:=hn3
   have hp:pend3=none:=by cases pend3 with|none=>rfl|some _=>simp [isNone] at hp3
   subst hp
   have fin:∀ {h4:CH} {o:LoopState},o=(if x2.jump.isNone=true then .ready else .done)→Set1 h3 l (.loop nt3 e3 ps3 a3 b3 o x2.jump) h4→k (.bool x2.jump.isNone) h4=true→∃ v h',CX P (n + 1 + 1) (.yield l) args.toArray h.toA v h'.toA∧Nx h h'∧k v h'=true:=by
    rintro h4 o rfl s4 q
    refine ⟨_,h4,CX.step _ _ _ _ _ _ ?_,⟨((b.1.trans s2.evo).trans b2.1).trans s4.evo,s4.good b2.2 hl3 (by intro _ _ _ _ _ he;cases he) (by intro _ _ _ _ he;cases he)⟩,q⟩
    rw [s4.toA]
    rw [he0] at a
    refine Cl.round (nt:=nt3) (env:=toE e) (ps:=ps) (asg:=asg) (body:=body) (st:=st) (pend:=none) (H1:=h1.toA) (H2:=h3.toA) (e1:=toE e1') (ps1:=ps1) (a1:=a1) (b1:=b1) (pend3:=pend1) (e3:=toE e3) (ps3:=ps3) (a3:=a3) (b3:=b3) (st3:=st3) (env1:=toE e1) (env2:=toE e2) (ex:=x2)
     ?_ (by simpa using c1) c2 c3 c4 c5 c6 ?_ ?_ ?_ ?_
    ·rw [toA_get,obj_some hl];rfl
    ·simp only [roundEnv];exact a
    ·rw [toA_get,obj_some hl1];rfl
    ·rw [s2.toA] at a2;exact a2
    ·rw [toA_get,obj_some hl3];rfl
   cases x2 with
   | normal=>obtain ⟨h4,s4,q⟩:=setO_spec q;exact fin rfl s4 q
   | exit i=>obtain ⟨h4,s4,q⟩:=setO_spec q;exact fin rfl s4 q
   | ret=>obtain ⟨h4,s4,q⟩:=setO_spec q;exact fin rfl s4 q
def topX (orc:Orc) (n:Nat) (f:FuncId) (args:List Value) (k:Value→Bool):Bool :=
 match P.funcs[f]? with
 | some fn=>(match fn.body with
  | some c=>(match (Nat.ble args.length fn.ntmps && codeOk 0 fn.ntmps c) with
   | true=>argsE args 0 .nil fun e=>runX P (callX P orc n) fn.ntmps c e ⟨0,0,0,.nil,.nil⟩ fun x e1 h1=>(match x with
    | .exit _=>false
    | _=>match resultsA P fn (toE e1) h1.toA with
     | some v=>forceV v fun v=>flatR v && k v
     | none=>false)
   | false=>false)
  | none=>false)
 | none=>false
theorem topX_spec {orc:Orc} (hmix:P.follows .mixedOrders=true) (hO:OrcOk P orc) {n:Nat} {f:FuncId} {args:List Value} {k:Value→Bool} (hfl:(args.all dflat)=true) (q:topX P orc n f args k=true) :
  ∃ v,k v=true∧flatR v=true∧∀ w,Calls P f args.toArray w fun e w'=>e=.returned v∧Go.RowKit.Below w.heap.size w w':=by
 unfold topX at q
 split at q
 rotate_left
 ·cases q
 rename_i fn e1
 split at q
 rotate_left
 ·cases q
 rename_i c e2
 split at q
 rotate_left
 ·cases q
 rename_i hc
 simp only [Bool.and_eq_true] at hc
 obtain ⟨e3,hok⟩:=hc
 have e3:=Nat.le_of_ble_eq_true e3
 obtain ⟨e0,he0,q⟩:=argsE_env q
 have g:Good ⟨0,0,0,.nil,.nil⟩:=⟨(fun b c T g e l h=>by cases h),Nat.le_refl _,(fun b p h=>by cases h),(fun b c T g e s h=>by cases h)⟩
 obtain ⟨x,env1,h1,a,b,q⟩:=runX_spec P (callX_spec P hO n) g q
 have hx:x=.normal∨x=.ret:=by
  cases x with
  | normal=>exact .inl rfl
  | exit i=>cases q
  | ret=>exact .inr rfl
 have q:(match resultsA P fn (toE env1) h1.toA with
     | some v=>forceV v fun v=>flatR v && k v
     | none=>false)=true:=by
  rcases hx with rfl|rfl <;> exact q
 split at q
 rotate_left
 ·cases q
 rename_i v hv
 rw [forceV_eq] at q
 simp only [Bool.and_eq_true] at q
 rw [he0] at a
 refine ⟨v,q.2,q.1,fun w=>calls_body hmix (n:=n + 1) (by simpa using hfl) e1 e2 (by simpa using e3) hok ?_ hx hv q.1 w⟩
 exact a
end
theorem law_callsC {P:Program} (hmix:P.follows .mixedOrders=true) {f:FuncId} {w:World} {L:List RoB} (hL:∀ r,r∈L→RoOk w r) {args args':Array Value} (ha:ARel (renOf w L) args args')
  (hc:∃ v H',Cl P (OrC P) 0 (.fn f) args (heapOf L) v H'∧v=.bool true∧Fr (heapOf L).n [] (heapOf L) H') :
  Calls P f args' w fun e w'=>e=.returned (.bool true)∧Go.RowKit.Below w.heap.size w w':=by
 obtain ⟨v,H',⟨n,h⟩,rfl,hF⟩:=hc
 have hf:Fresh (renOf w L) (heapOf L) H':=by
  intro b hb _
  have hb:L.length≤b:=hb
  unfold renOf
  rw [List.getElem?_eq_none hb]
  rfl
 cases n with
 | zero=>exact h.elim
 | succ n =>
  rcases h with ⟨_,h1,_,_,h2⟩|⟨fn,c,ex,env1,e1,e2,e4,e3,hok,hrun,hex,hres⟩
  ·rw [ha.of_dflat h1]
   exact h2 w
  ·intro cs
   obtain ⟨ρ1,w1,v',fr,s1,q1,q2,q3,q4⟩:=fn_sim hmix (callN_sim hmix OrC.top OrC.sim n) (callN_top OrC.top n) e1 e2 e3 hok hrun hex hres (rel_ro hL) ha hf cs
   have:=q1.of_flat rfl
   subst this
   exact ⟨.returned (.bool true),w1,fr,⟨rfl,s1.os,s1.tape,s1.output,s1.size,fun k hk=>s1.frame k hk (owned_ro _ _)⟩,q2,q3,q4⟩
def isT:Value→Bool
 | .bool b=>b
 | _=>false
theorem isT_eq {v:Value} (h:isT v=true):v=.bool true:=by
 cases v <;> simp [isT] at h
 subst h;rfl
def noO:Orc:=fun _ _=>none
theorem noO_ok (P:Program):OrcOk P noO:=by intro f args v h;cases h
theorem orC_run {P:Program} (hmix:P.follows .mixedOrders=true) {n:Nat} {f:FuncId} (hb:Bodied P f) (h:topX P noO n f [] isT=true) (H:AHeap):OrC P f #[] H (.bool true) H:=by
 obtain ⟨v,h1,h2,h3⟩:=topX_spec P hmix (noO_ok P) (by rfl) h
 have:=isT_eq h1
 subst this
 exact ⟨rfl,by simp,rfl,hb,h3⟩
structure Spo where
 X:Int
 Y:Int
 Area:Int
 deriving DecidableEq,Inhabited
structure Srt where
 High:Int
 Dense:Int
 Fire:Int
 Age:Int
 deriving DecidableEq,Inhabited
structure Act where
 Hour:Int
 Spot:Int
 Kind:Int
 Min:Int
 Max:Int
 Take:Bool
 deriving DecidableEq,Inhabited
structure Gnd where
 Spots:List Spo
 Sorts:List Srt
 Acts:List Act
 deriving DecidableEq,Inhabited
abbrev iv (n:Int):Value:=.int .i64 n
def eSpo (s:Spo):List Value:=[iv s.X,iv s.Y,iv s.Area]
def eSrt (s:Srt):List Value:=[iv s.High,iv s.Dense,iv s.Fire,iv s.Age]
def eAct (a:Act):List Value:=[iv a.Hour,iv a.Spot,iv a.Kind,iv a.Min,iv a.Max,.bool a.Take]
theorem eSpo_len (s:Spo):(eSpo s).length=3:=rfl
theorem eSrt_len (s:Srt):(eSrt s).length=4:=rfl
theorem eAct_len (s:Act):(eAct s).length=6:=rfl
structure RG (H:AHeap) (a b c:Value) (g:Gnd):Prop where
 p:SR H 3 g.Spots.length a (g.Spots.flatMap eSpo)
 q:SR H 4 g.Sorts.length b (g.Sorts.flatMap eSrt)
 r:SR H 6 g.Acts.length c (g.Acts.flatMap eAct)
theorem RG.fr {N:Nat} {A B:AHeap} (hF:Fr N [] A B) {a b c:Value} {g:Gnd} (h:RG A a b c g):RG B a b c g:=⟨h.p.fr0 hF,h.q.fr0 hF,h.r.fr0 hF⟩
theorem RG.one {H:AHeap} {a b c:Value} {g:Gnd} (h:RG H a b c g):Swa.one a∧Swa.one b∧Swa.one c:=⟨h.p.one,h.q.one,h.r.one⟩
def w64 (x:Int):Int:=IntKind.i64.wrap x
def ints (l:List Int):List Value:=l.map (.int .i64 ·)
theorem ints_len (l:List Int):(ints l).length=l.length:=by simp [ints]
theorem ints_at {l:List Int} {i:Nat} (h:i < l.length):(ints l)[i]? = some (iv (l.getD i 0)):=by
 simp [ints,h]
theorem ints_set (l:List Int) (i:Nat) (x:Int):(ints l).set i (iv x)=ints (l.set i x):=by
 simp [ints,List.map_set]
def mat (s:List Int) (i j:Nat):Int:=s.getD (i * 11 + j) 0
def far:Int:=1099511627776
def kIn (s:List Int) (a b:Nat) (m:Int) (i:Nat) (out:List Int) (k:Nat):List Int :=
 if mat s i a < far∧mat s b k < far then out.set (i * 11 + k) (min (mat out i k) (w64 (w64 (mat s i a + m) + mat s b k))) else out
def kRow (s:List Int) (a b:Nat) (m:Int) (i:Nat) (out:List Int) (n:Nat):List Int:=(List.range n).foldl (kIn s a b m i) out
def kAll (s:List Int) (a b:Nat) (m:Int) (n:Nat):List Int:=(List.range n).foldl (fun out i=>kRow s a b m i out 11) s
def know (s:List Int) (a b:Nat) (m:Int):List Int×Bool :=
 if w64 (mat s b a + m) < 0 then (s,false) else if mat s a b≤m then (s,true) else (kAll s a b m 11,true)
theorem foldl_range_succ {α:Type} (f:α→Nat→α) (x:α) (n:Nat):(List.range (n + 1)).foldl f x=f ((List.range n).foldl f x) n:=by
 rw [List.range_succ,List.foldl_append];rfl
theorem kIn_len (s:List Int) (a b:Nat) (m:Int) (i:Nat) (out:List Int) (k:Nat):(kIn s a b m i out k).length=out.length:=by unfold kIn;split <;> simp
theorem kRow_succ (s:List Int) (a b:Nat) (m:Int) (i:Nat) (out:List Int) (n:Nat):kRow s a b m i out (n + 1)=kIn s a b m i (kRow s a b m i out n) n:=foldl_range_succ _ _ _
theorem kAll_succ (s:List Int) (a b:Nat) (m:Int) (n:Nat):kAll s a b m (n + 1)=kRow s a b m n (kAll s a b m n) 11:=foldl_range_succ _ _ _
theorem kRow_len (s:List Int) (a b:Nat) (m:Int) (i:Nat) (out:List Int) (n:Nat):(kRow s a b m i out n).length=out.length:=by
 induction n with
 | zero=>rfl
 | succ n ih=>rw [kRow_succ,kIn_len,ih]
theorem kAll_len (s:List Int) (a b:Nat) (m:Int) (n:Nat):(kAll s a b m n).length=s.length:=by
 induction n with
 | zero=>rfl
 | succ n ih=>rw [kAll_succ,kRow_len,ih]
theorem know_len {s:List Int} {a b:Nat} {m:Int}:(know s a b m).1.length=s.length:=by
 unfold know
 split
 ·rfl
 ·split
  ·rfl
  ·exact kAll_len ..
def Sums:={ l:List Int // l.length=121 }
instance:Inhabited Sums:=⟨⟨List.replicate 121 0,by simp⟩⟩
instance:DecidableEq Sums:=fun a b=>decidable_of_iff (a.1=b.1) ⟨Subtype.ext,fun h=>h ▸ rfl⟩
def Sums.know (s:Sums) (a b:Nat) (m:Int):Sums×Bool:=(⟨(Swa.know s.1 a b m).1,know_len.trans s.2⟩,(Swa.know s.1 a b m).2)
def Sums.mat (s:Sums) (i j:Nat):Int:=Swa.mat s.1 i j
theorem sums_len (s:Sums):(ints s.1).length=121:=by rw [ints_len,s.2]
theorem at121 {s:Sums} {v:Value}:(ints s.1 ++ [v])[121]? = some v:=at_pre (sums_len s)
theorem set121 {s:Sums} {v w:Value}:(ints s.1 ++ [v]).set 121 w=ints s.1 ++ [w]:=set_pre (sums_len s)
theorem len122 {s:Sums} {v:Value}:(ints s.1 ++ [v]).length=122:=by rw [List.length_append,sums_len];rfl
theorem st121 {H:AHeap} {b:Nat} {s:Sums} {v:Value} {T:TypeId} {a:Option Addr} {q r:Nat}:stG H b 121 1 (.slice a q r) (.cells (ints s.1 ++ [v]) T .ex)=some (H.upd H.n b (.cells (ints s.1 ++ [.slice a q r]) T .ex)):=by
 rw [stG_slice (by rw [len122];omega),set121]
def bIn (i:Nat) (out:List Int) (k:Nat):List Int:=if i≠k then out.set (i * 11 + k) far else out
def bRow (i:Nat) (out:List Int) (n:Nat):List Int:=(List.range n).foldl (bIn i) out
def bAll (n:Nat):List Int:=(List.range n).foldl (fun out i=>bRow i out 11) (List.replicate 121 0)
theorem bRow_succ (i:Nat) (out:List Int) (n:Nat):bRow i out (n + 1)=bIn i (bRow i out n) n:=foldl_range_succ _ _ _
theorem bAll_succ (n:Nat):bAll (n + 1)=bRow n (bAll n) 11:=foldl_range_succ _ _ _
theorem bIn_len (i:Nat) (out:List Int) (k:Nat):(bIn i out k).length=out.length:=by unfold bIn;split <;> simp
theorem bRow_len (i:Nat) (out:List Int) (n:Nat):(bRow i out n).length=out.length:=by
 induction n with
 | zero=>rfl
 | succ n ih=>rw [bRow_succ,bIn_len,ih]
theorem bAll_len (n:Nat):(bAll n).length=121:=by
 induction n with
 | zero=>simp [bAll]
 | succ n ih=>rw [bAll_succ,bRow_len,ih]
def blank:Sums:=⟨bAll 11,bAll_len 11⟩
structure Mom where
 act:Int
 tips:Nat
 takes:Nat
 kind:Int
 deriving DecidableEq,Inhabited
def eMom (m:Mom):List Value:=[iv m.act,iv m.tips,iv m.takes,iv m.kind]
theorem eMom_len (m:Mom):(eMom m).length=4:=rfl
structure Hp where
 s:Sums
 m:List Mom
 deriving DecidableEq,Inhabited
def eHp (p:Hp×Value):List Value:=ints p.1.s.1 ++ [p.2]
theorem eHp_len (p:Hp×Value):(eHp p).length=122:=by simp [eHp,ints_len,p.1.s.2]
def RHs (H:AHeap) (v:Value) (l:List (Hp×Value)):Prop:=SR H 122 l.length v (l.flatMap eHp)∧∀ i,i < l.length→SR H 4 (l.getD i default).1.m.length (l.getD i default).2 ((l.getD i default).1.m.flatMap eMom)
theorem RHs.fr {N:Nat} {A B:AHeap} (hF:Fr N [] A B) {v:Value} {l:List (Hp×Value)} (h:RHs A v l):RHs B v l:=⟨h.1.fr0 hF,fun i hi=>(h.2 i hi).fr0 hF⟩
def beforeL (act:Int):Mom→List Mom→Mom
 | out,[]=>out
 | out,m :: l=>beforeL act (if m.act < act then m else out) l
def Hp.before (h:Hp) (act:Int):Mom:=beforeL act (h.m.getD 0 default) h.m
def Hp.most (h:Hp) (m:Mom):Int:=h.s.mat m.takes m.tips
def Hp.least (h:Hp) (m:Mom):Int:=w64 (0 - h.s.mat m.tips m.takes)
def untilL (hour:Int):List Act→Nat
 | []=>0
 | a :: l=>if a.Hour≤hour then untilL hour l + 1 else 0
structure Pst where
 s:Sums
 ok:Bool
 next:Nat
 m:Mom
 ms:List Mom
 deriving Inhabited
def knowIf (s:Sums) (ok:Bool) (a b:Nat) (m:Int):Sums×Bool:=if ok then s.know a b m else (s,ok)
def Pst.tk (p:Pst) (a:Act):Sums×Bool :=
 let x:=knowIf p.s p.ok p.m.takes (p.next + 1) a.Max
 let y:=knowIf x.1 x.2 (p.next + 1) p.m.takes (w64 (0 - a.Min))
 knowIf y.1 y.2 p.m.tips (p.next + 1) 0
def Pst.tp (p:Pst) (a:Act):Sums×Bool :=
 let x:=knowIf p.s p.ok p.m.tips (p.next + 1) a.Max
 knowIf x.1 x.2 (p.next + 1) p.m.tips (w64 (0 - a.Min))
def Pst.step (p:Pst) (i:Nat) (a:Act):Pst :=
 if a.Take=true then ⟨(p.tk a).1,(p.tk a).2,p.next + 1,⟨i,p.m.tips,p.next + 1,p.m.kind⟩,p.ms ++ [⟨i,p.m.tips,p.next + 1,p.m.kind⟩]⟩
 else ⟨(p.tp a).1,(p.tp a).2,p.next + 1,⟨i,p.next + 1,p.m.takes,a.Kind⟩,p.ms ++ [⟨i,p.next + 1,p.m.takes,a.Kind⟩]⟩
theorem Pst.step_take {p:Pst} {i:Nat} {a:Act} (h:a.Take=true):p.step i a=⟨(p.tk a).1,(p.tk a).2,p.next + 1,⟨i,p.m.tips,p.next + 1,p.m.kind⟩,p.ms ++ [⟨i,p.m.tips,p.next + 1,p.m.kind⟩]⟩:=if_pos h
theorem Pst.step_tip {p:Pst} {i:Nat} {a:Act} (h:¬ a.Take=true):p.step i a=⟨(p.tp a).1,(p.tp a).2,p.next + 1,⟨i,p.next + 1,p.m.takes,a.Kind⟩,p.ms ++ [⟨i,p.next + 1,p.m.takes,a.Kind⟩]⟩:=if_neg h
def Pst.run (spot:Int):Nat→List Act→Pst→Pst
 | _,[],p=>p
 | i,a :: l,p=>Pst.run spot (i + 1) l (if a.Spot=spot then p.step i a else p)
def mom0:Mom:=⟨-1,0,0,0⟩
def pst0:Pst:=⟨blank,true,0,mom0,[mom0]⟩
def pile (g:Gnd) (spot:Int):Hp×Bool:=let p:=Pst.run spot 0 g.Acts pst0;(⟨p.s,p.ms⟩,p.ok)
def knownGo (g:Gnd) (i:Nat):Nat→List Hp→List Hp×Int
 | 0,acc=>(acc,0)
 | n + 1,acc=>if (pile g i).2=true then knownGo g (i + 1) n (acc ++ [(pile g i).1]) else (acc,9)
def known (g:Gnd):List Hp×Int:=knownGo g 0 g.Spots.length []
def many (a b:Int):Int:=if a=0 then 7 else if b < a then 6 else 0
def inB (a b c:Int):Bool:=decide (b≤a∧a≤c)
def checkAct (g:Gnd) (last:Int) (a:Act):Int :=
 if !inB a.Hour 0 72 then 1 else if a.Hour < last then 5 else if !inB a.Spot 0 (w64 (g.Spots.length - 1)) || !inB a.Kind 0 (w64 (g.Sorts.length - 1)) then 3
 else if a.Take && a.Kind≠0 then 2 else if !inB a.Min 1 1000000 || !inB a.Max 1 1000000 then 1 else if a.Max < a.Min then 5 else 0
def okSpo (s:Spo):Bool:=inB s.X 0 1000 && inB s.Y 0 1000 && inB s.Area 1 1000
def okSrt (s:Srt):Bool:=inB s.High 1 1000 && inB s.Dense 1 8000 && inB s.Fire 0 100 && inB s.Age 0 72
def checkActs (g:Gnd):Int→List Act→Int
 | _,[]=>0
 | last,a :: l=>if checkAct g last a≠0 then checkAct g last a else checkActs g a.Hour l
def check3 (g:Gnd):Int:=if 10 < g.Acts.length then 6 else checkActs g 0 g.Acts
def check2 (g:Gnd):Int:=if many g.Sorts.length 4≠0 then many g.Sorts.length 4 else if g.Sorts.all okSrt then check3 g else 1
def check (g:Gnd):Int:=if many g.Spots.length 4≠0 then many g.Spots.length 4 else if g.Spots.all okSpo then check2 g else 1
theorem many_ok {a b:Int} (h:many a b=0):a≠0∧a≤b:=by
 unfold many at h
 split at h
 ·omega
 ·split at h <;> omega
structure Ok (g:Gnd):Prop where
 spots:0 < g.Spots.length∧g.Spots.length≤4
 spot:∀ s,s∈g.Spots→okSpo s=true
 sorts:0 < g.Sorts.length∧g.Sorts.length≤4
 sort:∀ s,s∈g.Sorts→okSrt s=true
 acts:g.Acts.length≤10
 act:checkActs g 0 g.Acts=0
theorem check_ok {g:Gnd} (h:check g=0):Ok g:=by
 unfold check at h
 split at h
 ·rename_i h1;exact absurd h h1
 ·rename_i h1
  split at h
  ·rename_i h2
   unfold check2 at h
   split at h
   ·rename_i h3;exact absurd h h3
   ·rename_i h3
    split at h
    ·rename_i h4
     unfold check3 at h
     split at h
     ·omega
     ·rename_i h5
      have q1:=many_ok (Decidable.not_not.1 h1)
      have q2:=many_ok (Decidable.not_not.1 h3)
      exact ⟨by omega,fun s hs=>List.all_eq_true.1 h2 s hs,by omega,fun s hs=>List.all_eq_true.1 h4 s hs,by omega,h⟩
    ·omega
  ·omega
structure Few (h:Hp):Prop where
 pos:0 < h.m.length
 len:h.m.length≤11
 tips:∀ m,m∈h.m→m.tips < 11∧m.takes < 11
structure Pst.Inv (p:Pst) (i:Nat):Prop where
 next:p.next≤i
 m:p.m.tips≤p.next∧p.m.takes≤p.next
 len:0 < p.ms.length∧p.ms.length≤i + 1
 all:∀ m,m∈p.ms→m.tips≤i∧m.takes≤i
theorem Pst.Inv.step {p:Pst} {i:Nat} (h:p.Inv i) (a:Act):(p.step i a).Inv (i + 1):=by
 have h1:=h.next
 have h2:=h.m
 have h3:=h.len
 unfold Pst.step
 split
 ·refine ⟨by dsimp only;omega,by dsimp only;omega,by simp;omega,fun m hm=>?_⟩
  rcases List.mem_append.1 hm with hm|hm
  ·have:=h.all m hm;omega
  ·have:m=_:=List.mem_singleton.1 hm
   subst this;dsimp only;omega
 ·refine ⟨by dsimp only;omega,by dsimp only;omega,by simp;omega,fun m hm=>?_⟩
  rcases List.mem_append.1 hm with hm|hm
  ·have:=h.all m hm;omega
  ·have:m=_:=List.mem_singleton.1 hm
   subst this;dsimp only;omega
theorem Pst.Inv.skip {p:Pst} {i:Nat} (h:p.Inv i):p.Inv (i + 1) :=
 ⟨by have:=h.next;omega,h.m,by have:=h.len;omega,fun m hm=>by have:=h.all m hm;omega⟩
theorem Pst.Inv.run (spot:Int):∀ (l:List Act) (i:Nat) (p:Pst),p.Inv i→(Pst.run spot i l p).Inv (i + l.length)
 | [],i,p,h=>h
 | a :: l,i,p,h=>by
  rw [Pst.run,List.length_cons,show i + (l.length + 1)=i + 1 + l.length by omega]
  split
  ·exact Pst.Inv.run spot l (i + 1) _ (h.step a)
  ·exact Pst.Inv.run spot l (i + 1) _ h.skip
theorem pile_few {g:Gnd} (hl:g.Acts.length≤10) (spot:Int):Few (pile g spot).1:=by
 have h:Pst.Inv pst0 0:=⟨Nat.le_refl _,⟨Nat.le_refl _,Nat.le_refl _⟩,⟨Nat.lt_succ_self _,Nat.le_refl _⟩,fun m hm=>by
  have:m=mom0:=List.mem_singleton.1 hm
  subst this;exact ⟨Nat.le_refl _,Nat.le_refl _⟩⟩
 have:=Pst.Inv.run spot g.Acts 0 pst0 h
 rw [Nat.zero_add] at this
 exact ⟨this.len.1,by have:=this.len.2;show (Pst.run spot 0 g.Acts pst0).ms.length≤11;omega,fun m hm=>by have:=this.all m hm;omega⟩
theorem knownGo_few {g:Gnd} (hl:g.Acts.length≤10):∀ (n i:Nat) (acc:List Hp),(∀ h,h∈acc→Few h)→∀ h,h∈(knownGo g i n acc).1→Few h
 | 0,i,acc,ha=>ha
 | n + 1,i,acc,ha=>by
  rw [knownGo]
  split
  ·refine knownGo_few hl n (i + 1) _ fun h hm=>?_
   rcases List.mem_append.1 hm with hm|hm
   ·exact ha h hm
   ·rw [List.mem_singleton.1 hm];exact pile_few hl _
  ·exact ha
theorem known_few {g:Gnd} (hl:g.Acts.length≤10):∀ h,h∈(known g).1→Few h:=knownGo_few hl _ _ _ (by simp)
theorem knownGo_len {g:Gnd}:∀ (n i:Nat) (acc:List Hp),(knownGo g i n acc).1.length≤acc.length + n
 | 0,i,acc=>Nat.le_refl _
 | n + 1,i,acc=>by
  rw [knownGo]
  split
  ·have:=knownGo_len (g:=g) n (i + 1) (acc ++ [(pile g i).1])
   rw [List.length_append,List.length_singleton] at this
   omega
  ·show acc.length≤_;omega
theorem known_len {g:Gnd}:(known g).1.length≤g.Spots.length:=by
 have:=knownGo_len (g:=g) g.Spots.length 0 []
 rw [List.length_nil,Nat.zero_add] at this
 exact this
theorem beforeL_mem {act:Int}:∀ (l:List Mom) (out:Mom),beforeL act out l=out∨beforeL act out l∈l
 | [],out=>.inl rfl
 | m :: l,out=>by
  rw [beforeL]
  rcases beforeL_mem l (if m.act < act then m else out) with h|h
  ·rw [h]
   split
   ·exact .inr (List.mem_cons_self ..)
   ·exact .inl rfl
  ·exact .inr (List.mem_cons_of_mem _ h)
theorem Few.before {h:Hp} (hf:Few h) (act:Int):(h.before act).tips < 11∧(h.before act).takes < 11:=by
 refine hf.tips _ ?_
 unfold Hp.before
 have h0:h.m.getD 0 default∈h.m:=by
  have:=hf.pos
  simp [List.getD,List.getElem?_eq_getElem this]
 rcases beforeL_mem (act:=act) h.m (h.m.getD 0 default) with e|e
 ·rw [e];exact h0
 ·exact e
structure Rng where
 Min:Int
 Max:Int
 deriving DecidableEq,Inhabited
def eRng (r:Rng):List Value:=[iv r.Min,iv r.Max]
theorem eRng_len (r:Rng):(eRng r).length=2:=rfl
def massAt (g:Gnd) (hour:Int) (h:Hp):Rng:=⟨h.least (h.before (untilL hour g.Acts)),h.most (h.before (untilL hour g.Acts))⟩
def masses (g:Gnd) (hour:Int):List Rng×Int :=
 if check g≠0 then ([],check g) else if inB hour 0 72=true then if (known g).2≠0 then ([],(known g).2) else ((known g).1.map (massAt g hour),0) else ([],1)
def older (g:Gnd) (spot hour age:Int):Int×Int :=
 if check g≠0 then (0,check g)
 else if inB spot 0 (w64 (g.Spots.length - 1))=true then
  if inB hour 0 72=true∧inB age 0 72=true then
   if (known g).2≠0 then (0,(known g).2)
   else
    let h:=(known g).1.getD spot.toNat default
    let old:=(h.before (untilL (w64 (w64 (hour - age) - 1)) g.Acts)).tips
    let takes:=(h.before (untilL hour g.Acts)).takes
    if h.s.mat old takes < 0 then (1,0) else if h.s.mat takes old≤0 then (2,0) else (3,0)
  else (0,1)
 else (0,3)
abbrev uv (n:Int):Value:=.int .u64 n
def fS0 (x:Int):Int:=if x=0 then 1 else x
def fS1 (x:Int):Int:=xorI .u64 x (shlI .u64 x 13)
def fS2 (x:Int):Int:=xorI .u64 x (shrI .u64 x 7)
def fS3 (x:Int):Int:=xorI .u64 x (shlI .u64 x 17)
def fSt (x:Int):Int:=fS3 (fS2 (fS1 (fS0 x)))
def fOut (x:Int):Int:=IntKind.u64.wrap (fSt x * 2685821657736338717)
def below (x n:Int):Int:=if n < 2 then 0 else IntKind.i64.wrap ((shrI .u64 (fOut x) 8).tmod n)
def belowS (x n:Int):Int:=if n < 2 then x else fSt x
theorem u64_id {n:Int} (h0:0≤n) (h1:n < 18446744073709551616):IntKind.u64.wrap n=n:=by
 show (if (false && decide (n % (2 ^ 64:Int) ≥ (2 ^ 63:Int)))=true then n % (2 ^ 64:Int) - (2 ^ 64:Int) else n % (2 ^ 64:Int))=n
 simp only [Bool.false_and,Bool.false_eq_true,if_false]
 omega
theorem u64_lt (n:Int):0≤IntKind.u64.wrap n∧IntKind.u64.wrap n < 18446744073709551616:=by
 show 0≤(if (false && decide (n % (2 ^ 64:Int) ≥ (2 ^ 63:Int)))=true then n % (2 ^ 64:Int) - (2 ^ 64:Int) else n % (2 ^ 64:Int))∧(if (false && decide (n % (2 ^ 64:Int) ≥ (2 ^ 63:Int)))=true then n % (2 ^ 64:Int) - (2 ^ 64:Int) else n % (2 ^ 64:Int)) < _
 simp only [Bool.false_and,Bool.false_eq_true,if_false]
 omega
theorem below_spec (x n:Int) (hn:n < 9223372036854775808):0≤below x n∧(0 < n→below x n < n)∧(n≤0→below x n=0):=by
 unfold below
 split
 ·refine ⟨by omega,fun _=>by omega,fun _=>rfl⟩
 ·have h1:=u64_lt (fSt x * 2685821657736338717)
  have h2:0≤shrI .u64 (fOut x) 8:=by
   show 0≤(fOut x).fdiv 256
   exact Int.fdiv_nonneg h1.1 (by omega)
  have h3:=Int.tmod_lt_of_pos (shrI .u64 (fOut x) 8) (show (0:Int) < n by omega)
  have h4:=Int.tmod_nonneg n h2
  rw [wrap64 (by omega) (by omega)]
  exact ⟨h4,fun _=>h3,fun _=>by omega⟩
def btwArg (lo hi:Int):Int:=w64 (w64 (hi - lo) + 1)
def btw (x lo hi:Int):Int:=w64 (lo + below x (btwArg lo hi))
def btwS (x lo hi:Int):Int:=belowS x (btwArg lo hi)
theorem btwArg_lt (lo hi:Int):btwArg lo hi < 9223372036854775808:=w64_lt _
def either (x:Int) (l:List Int):Int:=if l.length=0 then 0 else l.getD (below x l.length).toNat 0
def eitherS (x:Int) (l:List Int):Int:=if l.length=0 then x else belowS x l.length
def fMix (st n:Int):Int:=fSt (xorI .u64 st (IntKind.u64.wrap (IntKind.u64.wrap n * 15485907386658061715)))
def feedOf (l:List Int):Int:=l.foldl fMix 88172645463325252
def mkSpo (x:Int):Spo×Int:=(⟨below x 8,below (belowS x 8) 4,btw (belowS (belowS x 8) 4) 1 4⟩,btwS (belowS (belowS x 8) 4) 1 4)
def goSpo:Nat→Int→List Spo→List Spo×Int
 | 0,x,l=>(l,x)
 | n + 1,x,l=>goSpo n (mkSpo x).2 (l ++ [(mkSpo x).1])
def mkSrt (mass hours x:Int):Srt×Int :=
 let h:=[100,min 1000 (w64 (btw x 1 100 * max 1 (w64 (mass.tdiv 20))))]
 let x1:=btwS x 1 100
 let x2:=eitherS x1 h
 let x3:=eitherS x2 [1,2,50,100]
 let x4:=belowS x3 6
 let x5:=eitherS x4 [0,below x3 6]
 let x6:=belowS x5 (w64 (hours + 1))
 (⟨either x1 h,either x2 [1,2,50,100],either x4 [0,below x3 6],either x6 [72,below x5 (w64 (hours + 1))]⟩,eitherS x6 [72,below x5 (w64 (hours + 1))])
def goSrt (mass hours:Int):Nat→Int→List Srt→List Srt×Int
 | 0,x,l=>(l,x)
 | n + 1,x,l=>goSrt mass hours n (mkSrt mass hours x).2 (l ++ [(mkSrt mass hours x).1])
structure Gst where
 x:Int
 hour:Int
 lies:List Int
 acts:List Act
 truth:List Int
def spread (mass n x:Int):Rng×Int :=
 let m:=max 2 (w64 (mass.tdiv 3))
 let x1:=belowS x m
 let x2:=eitherS x1 [0,below x m]
 let x3:=belowS x2 m
 (⟨max 1 (w64 (n - either x1 [0,below x m])),w64 (n + either x3 [0,below x2 m])⟩,eitherS x3 [0,below x2 m])
def Gst.step (spots sorts:Nat) (mass hours:Int) (s:Gst):Gst :=
 let x1:=belowS s.x 4
 let x2:=eitherS x1 [0,1,below s.x 4]
 let hour:=min 72 (min hours (w64 (s.hour + either x1 [0,1,below s.x 4])))
 let spot:=below x2 spots
 let x3:=belowS x2 spots
 let kind:=below x3 sorts
 let x4:=belowS x3 sorts
 let n:=btw x4 1 mass
 let x5:=btwS x4 1 mass
 let lie:=s.lies.getD spot.toNat 0
 let x6:=if 0 < lie then belowS x5 5 else x5
 if 0 < lie∧below x5 5 < 2 then
  let x7:=btwS x6 1 lie
  let l:=[lie,btw x6 1 lie]
  let k:=either x7 l
  let r:=spread mass k (eitherS x7 l)
  ⟨r.2,hour,s.lies.set spot.toNat (w64 (lie - k)),s.acts ++ [⟨hour,spot,0,r.1.Min,r.1.Max,true⟩],s.truth ++ [k]⟩
 else
  let r:=spread mass n x6
  ⟨r.2,hour,s.lies.set spot.toNat (w64 (lie + n)),s.acts ++ [⟨hour,spot,kind,r.1.Min,r.1.Max,false⟩],s.truth ++ [n]⟩
def Gst.run (spots sorts:Nat) (mass hours:Int):Nat→Gst→Gst
 | 0,s=>s
 | n + 1,s=>Gst.run spots sorts mass hours n (s.step spots sorts mass hours)
structure Made2 where
 g:Gnd
 truth:List Int
 x:Int
def groundOf (x spots sorts acts mass hours:Int):Made2 :=
 let a:=goSpo (btw x 1 spots).toNat (btwS x 1 spots) []
 let b:=goSrt mass hours (btw a.2 1 sorts).toNat (btwS a.2 1 sorts) []
 let s:=Gst.run a.1.length b.1.length mass hours (below b.2 (w64 (acts + 1))).toNat ⟨belowS b.2 (w64 (acts + 1)),0,List.replicate a.1.length 0,[],[]⟩
 ⟨⟨a.1,b.1,s.acts⟩,s.truth,s.x⟩
theorem btw_spec {x lo hi:Int} (h1:-1000000000≤lo) (h2:lo≤hi) (h3:hi≤1000000000):lo≤btw x lo hi∧btw x lo hi≤hi:=by
 have e1:btwArg lo hi=hi - lo + 1:=by
  unfold btwArg w64
  rw [wrap64 (x:=hi - lo) (by omega) (by omega),wrap64 (by omega) (by omega)]
 have h:=below_spec x (btwArg lo hi) (btwArg_lt _ _)
 rw [e1] at h
 have h4:=h.2.1 (by omega)
 unfold btw w64
 rw [e1,wrap64 (by omega) (by omega)]
 omega
theorem getD_set {l:List Int} {n m:Nat} {v:Int}:(l.set n v).getD m 0=if n=m∧n < l.length then v else l.getD m 0:=by
 simp only [List.getD]
 by_cases h:n=m
 ·subst h
  by_cases hl:n < l.length
  ·simp [hl]
  ·simp [hl]
 ·rw [List.getElem?_set_ne h,if_neg (fun hh=>h hh.1)]
def upE (T:Nat→Nat→Int) (a b:Nat) (m:Int) (i k:Nat):Int :=
 if T i a < far∧T b k < far then min (T i k) (w64 (w64 (T i a + m) + T b k)) else T i k
theorem kIn_mat {s:List Int} {a b:Nat} {m:Int} {i k i' k':Nat} {out:List Int} (hl:out.length=121) (hi:i < 11) (hk:k < 11) (hk':k' < 11) :
  mat (kIn s a b m i out k) i' k'=if i'=i∧k'=k∧mat s i a < far∧mat s b k < far then min (mat out i k) (w64 (w64 (mat s i a + m) + mat s b k)) else mat out i' k':=by
 unfold kIn
 by_cases hc:mat s i a < far∧mat s b k < far
 ·rw [if_pos hc]
  unfold mat at hc ⊢
  rw [getD_set]
  by_cases e:i'=i∧k'=k
  ·obtain ⟨rfl,rfl⟩:=e
   rw [if_pos ⟨rfl,by omega⟩,if_pos ⟨rfl,rfl,hc⟩]
  ·rw [if_neg (by omega),if_neg (by omega)]
 ·rw [if_neg hc,if_neg (by omega)]
theorem kRow_mat {s:List Int} {a b:Nat} {m:Int} {i i' k':Nat} {out:List Int} (hl:out.length=121) (hi:i < 11) (hk':k' < 11) (n:Nat) (hn:n≤11) :
  mat (kRow s a b m i out n) i' k'=if i'=i∧k' < n∧mat s i a < far∧mat s b k' < far then min (mat out i k') (w64 (w64 (mat s i a + m) + mat s b k')) else mat out i' k':=by
 induction n with
 | zero =>
  have:kRow s a b m i out 0=out:=rfl
  rw [this,if_neg (by omega)]
 | succ n ih =>
  have ih:=ih (by omega)
  rw [kRow_succ,kIn_mat (by rw [kRow_len,hl]) hi (by omega) hk']
  by_cases e:i'=i∧k'=n
  ·obtain ⟨rfl,rfl⟩:=e
   rw [if_neg (by omega)] at ih
   by_cases hc:mat s i' a < far∧mat s b k' < far
   ·rw [if_pos ⟨rfl,rfl,hc⟩,if_pos ⟨rfl,by omega,hc⟩,ih]
   ·rw [if_neg (by omega),if_neg (by omega),ih]
  ·rw [if_neg (by omega),ih]
   by_cases hc:i'=i∧k' < n∧mat s i a < far∧mat s b k' < far
   ·rw [if_pos hc,if_pos (by omega)]
   ·rw [if_neg hc,if_neg (by omega)]
theorem kAll_mat {s:List Int} {a b:Nat} {m:Int} {i' k':Nat} (hl:s.length=121) (hk':k' < 11) (n:Nat) (hn:n≤11) :
  mat (kAll s a b m n) i' k'=if i' < n then upE (mat s) a b m i' k' else mat s i' k':=by
 induction n with
 | zero =>
  have:kAll s a b m 0=s:=rfl
  rw [this,if_neg (by omega)]
 | succ n ih =>
  have ih:=ih (by omega)
  rw [kAll_succ,kRow_mat (by rw [kAll_len,hl]) (by omega) hk' 11 (by omega)]
  by_cases e:i'=n
  ·subst e
   rw [if_neg (by omega)] at ih
   rw [ih,if_pos (by omega:i' < i' + 1)]
   unfold upE
   by_cases hc:mat s i' a < far∧mat s b k' < far
   ·rw [if_pos ⟨rfl,by omega,hc⟩,if_pos hc]
   ·rw [if_neg (by omega),if_neg hc]
  ·rw [if_neg (by omega),ih]
   by_cases h:i' < n
   ·rw [if_pos h,if_pos (by omega)]
   ·rw [if_neg h,if_neg (by omega)]
set_option maxRecDepth 100000 in
theorem blank_mat {i k:Nat} (hi:i < 11) (hk:k < 11):blank.mat i k=if i=k then 0 else far:=by
 have h:((List.range 11).all fun i=>(List.range 11).all fun k=>decide (mat (bAll 11) i k=if i=k then 0 else far))=true:=by decide +kernel
 rw [List.all_eq_true] at h
 have h:=h i (by simpa using hi)
 rw [List.all_eq_true] at h
 exact of_decide_eq_true (h k (by simpa using hk))
theorem know_mat {s:Sums} {a b:Nat} {m:Int} (h1:¬ w64 (s.mat b a + m) < 0) (h2:¬ s.mat a b≤m):(s.know a b m).2=true∧∀ i k,i < 11→k < 11→(s.know a b m).1.mat i k=upE s.mat a b m i k:=by
 have e:Swa.know s.1 a b m=(kAll s.1 a b m 11,true):=by
  unfold Swa.know
  have h1':¬ w64 (mat s.1 b a + m) < 0:=h1
  have h2':¬ mat s.1 a b≤m:=h2
  rw [if_neg h1',if_neg h2']
 refine ⟨?_,fun i k hi hk=>?_⟩
 ·show (Swa.know s.1 a b m).2=true
  rw [e]
 ·show mat (Swa.know s.1 a b m).1 i k=_
  rw [e]
  show mat (kAll s.1 a b m 11) i k=_
  rw [kAll_mat s.2 hk 11 (by omega),if_pos hi]
  rfl
theorem know_same {s:Sums} {a b:Nat} {m:Int} (h1:¬ w64 (s.mat b a + m) < 0) (h2:s.mat a b≤m):s.know a b m=(s,true):=by
 have e:Swa.know s.1 a b m=(s.1,true):=by
  unfold Swa.know
  have h1':¬ w64 (mat s.1 b a + m) < 0:=h1
  have h2':mat s.1 a b≤m:=h2
  rw [if_neg h1',if_pos h2']
 unfold Sums.know
 congr 1
 ·apply Subtype.ext
  show (Swa.know s.1 a b m).1=s.1
  rw [e]
 ·rw [e]
structure Tab (T:Nat→Nat→Int) (n:Nat) (x:Nat→Int):Prop where
 n10:n≤10
 hi:∀ a b,a≤n→b≤n→T a b≤n * 1000000
 out:∀ a b,a < 11→b < 11→n < a∨n < b→a≠b→T a b=far
 diag:∀ a,a < 11→T a a=0
 sat:∀ a b,a≤n→b≤n→x b - x a≤T a b
 tri:∀ a b c,a≤n→b≤n→c≤n→T a c≤T a b + T b c
 x0:∀ a,a≤n→0≤x a
 x1:∀ a,a≤n→x a≤n * 1000000
theorem Tab.lt {T:Nat→Nat→Int} {n:Nat} {x:Nat→Int} (h:Tab T n x) {a b:Nat} (ha:a≤n) (hb:b≤n):T a b≤10000000∧-10000000≤T a b:=by
 have h1:=h.hi a b ha hb
 have h2:=h.sat a b ha hb
 have h3:=h.x0 b hb
 have h4:=h.x1 a ha
 have:=h.n10
 omega
theorem w64_id {x:Int} (h1:-9223372036854775808≤x) (h2:x≤9223372036854775807):w64 x=x:=wrap64 h1 (by omega)
theorem Tab.more {s:Sums} {n:Nat} {x:Nat→Int} (h:Tab s.mat n x) {a b:Nat} {m:Int} (ha:a≤n) (hb:b≤n) (hm:x b - x a≤m) (m1:-1000000≤m) (m2:m≤1000000) :
  (s.know a b m).2=true∧Tab (s.know a b m).1.mat n x∧(∀ i k,i≤n→k≤n→(s.know a b m).1.mat i k≤s.mat i k)∧(s.know a b m).1.mat a b≤m:=by
 have n10:=h.n10
 have hba:=h.lt hb ha
 have hsba:=h.sat b a hb ha
 have c1:¬ w64 (s.mat b a + m) < 0:=by rw [w64_id (by omega) (by omega)];omega
 by_cases c2:s.mat a b≤m
 ·rw [know_same c1 c2]
  exact ⟨rfl,h,fun _ _ _ _=>Int.le_refl _,c2⟩
 ·obtain ⟨k1,k2⟩:=know_mat c1 c2
  generalize (s.know a b m).1=s' at k2
  have up:∀ i k,i≤n→k≤n→s'.mat i k=min (s.mat i k) (s.mat i a + m + s.mat b k):=by
   intro i k hi hk
   have q1:=h.lt hi ha
   have q2:=h.lt hb hk
   rw [k2 i k (by omega) (by omega),upE,if_pos ⟨by unfold far;omega,by unfold far;omega⟩,w64_id (x:=s.mat i a + m) (by omega) (by omega),w64_id (by omega) (by omega)]
  have daa:=h.diag a (by omega)
  have dbb:=h.diag b (by omega)
  refine ⟨k1,⟨n10,fun i k hi hk=>?_,fun i k hi hk ho hne=>?_,fun i hi=>?_,fun i k hi hk=>?_,fun i j k hi hj hk=>?_,h.x0,h.x1⟩,fun i k hi hk=>?_, ?_⟩
  ·rw [up i k hi hk];have:=h.hi i k hi hk;omega
  ·rw [k2 i k hi hk,upE,if_neg,h.out i k hi hk ho hne]
   rintro ⟨q1,q2⟩
   rcases ho with ho|ho
   ·by_cases e:i=a
    ·omega
    ·rw [h.out i a hi (by omega) (.inl ho) e] at q1;omega
   ·by_cases e:b=k
    ·omega
    ·rw [h.out b k (by omega) hk (.inr ho) e] at q2;omega
  ·by_cases hin:i≤n
   ·rw [up i i hin hin,h.diag i hi]
    have:=h.sat i a hin ha
    have:=h.sat b i hb hin
    omega
   ·rw [k2 i i hi hi,upE,if_neg,h.diag i hi]
    rintro ⟨q1,q2⟩
    rw [h.out i a hi (by omega) (.inl (by omega)) (by omega)] at q1;omega
  ·rw [up i k hi hk]
   have:=h.sat i k hi hk
   have:=h.sat i a hi ha
   have:=h.sat b k hb hk
   omega
  ·rw [up i k hi hk,up i j hi hj,up j k hj hk]
   have t1:=h.tri i j k hi hj hk
   have t2:=h.tri b j k hb hj hk
   have t3:=h.tri i j a hi hj ha
   have t4:=h.tri b j a hb hj ha
   omega
  ·rw [up i k hi hk];omega
  ·rw [up a b ha hb];omega
theorem Tab.add {s:Sums} {n:Nat} {x:Nat→Int} (h:Tab s.mat n x) (hn:n < 10) {p:Nat} {lo hi t:Int} (hp:p≤n) (l1:1≤lo) (l2:lo≤t) (l3:t≤hi) (l4:hi≤1000000) :
  (s.know p (n + 1) hi).2=true∧((s.know p (n + 1) hi).1.know (n + 1) p (w64 (0 - lo))).2=true ∧
  Tab ((s.know p (n + 1) hi).1.know (n + 1) p (w64 (0 - lo))).1.mat (n + 1) (fun i=>if i=n + 1 then x p + t else x i) ∧
  (∀ i k,i≤n→k≤n→((s.know p (n + 1) hi).1.know (n + 1) p (w64 (0 - lo))).1.mat i k=s.mat i k) ∧
  (∀ k,k≤n→((s.know p (n + 1) hi).1.know (n + 1) p (w64 (0 - lo))).1.mat (n + 1) k=s.mat p k - lo):=by
 have o1:∀ i,i≤n→s.mat i (n + 1)=far:=fun i hi=>h.out i (n + 1) (by omega) (by omega) (.inr (by omega)) (by omega)
 have o2:∀ i,i≤n→s.mat (n + 1) i=far:=fun i hi=>h.out (n + 1) i (by omega) (by omega) (.inl (by omega)) (by omega)
 have hf:far=1099511627776:=rfl
 have hpp:=h.diag p (by omega)
 have hnn:=h.diag (n + 1) (by omega)
 have hw:w64 (0 - lo) = -lo:=by rw [w64_id (by omega) (by omega)];omega
 obtain ⟨k1,k2⟩:=know_mat (s:=s) (a:=p) (b:=n + 1) (m:=hi) (by rw [o2 p hp,w64_id (by omega) (by omega)];omega) (by rw [o1 p hp];omega)
 refine ⟨k1, ?_⟩
 generalize (s.know p (n + 1) hi).1=s1 at k2
 -- the first step
 have a1:∀ i k,i≤n→k≤n→s1.mat i k=s.mat i k:=by
  intro i k hi hk
  rw [k2 i k (by omega) (by omega),upE,if_neg]
  rintro ⟨_,q⟩
  rw [o2 k hk] at q;omega
 have a2:∀ i,i≤n→s1.mat i (n + 1)=s.mat i p + hi:=by
  intro i hi'
  have:=h.lt hi' hp
  rw [k2 i (n + 1) (by omega) (by omega),upE,if_pos ⟨by omega,by omega⟩,o1 i hi',hnn,w64_id (x:=s.mat i p + hi) (by omega) (by omega),w64_id (by omega) (by omega)]
  omega
 have a3:∀ k,k≤n→s1.mat (n + 1) k=far:=by
  intro k hk
  rw [k2 (n + 1) k (by omega) (by omega),upE,if_neg,o2 k hk]
  rintro ⟨q,_⟩
  rw [o2 p hp] at q;omega
 have a4:∀ i k,i < 11→k < 11→n + 1 < i∨n + 1 < k→i≠k→s1.mat i k=far:=by
  intro i k hi hk ho hne
  rw [k2 i k hi hk,upE,if_neg,h.out i k hi hk (by omega) hne]
  rintro ⟨q1,q2⟩
  rcases ho with ho|ho
  ·rw [h.out i p hi (by omega) (.inl (by omega)) (by omega)] at q1;omega
  ·rw [h.out (n + 1) k (by omega) hk (.inr (by omega)) (by omega)] at q2;omega
 have a5:∀ i,n < i→i < 11→s1.mat i i=0:=by
  intro i hi hi2
  rw [k2 i i hi2 hi2,upE,if_neg,h.diag i hi2]
  rintro ⟨q1,_⟩
  rw [h.out i p hi2 (by omega) (.inl hi) (by omega)] at q1;omega
 rw [hw]
 have b1:s1.mat p (n + 1)=hi:=by rw [a2 p hp];omega
 obtain ⟨k3,k4⟩:=know_mat (s:=s1) (a:=n + 1) (b:=p) (m:=-lo) (by rw [b1,w64_id (by omega) (by omega)];omega) (by rw [a3 p hp];omega)
 refine ⟨k3, ?_⟩
 generalize (s1.know (n + 1) p (-lo)).1=s2 at k4
 have c1:∀ i k,i≤n→k≤n→s2.mat i k=s.mat i k:=by
  intro i k hi' hk
  have q1:=h.lt hi' hp
  have q2:=h.lt hp hk
  have q3:=h.tri i p k hi' hp hk
  rw [k4 i k (by omega) (by omega),upE,a1 i k hi' hk,a2 i hi',a1 p k hp hk,if_pos ⟨by omega,by omega⟩,w64_id (x:=s.mat i p + hi + -lo) (by omega) (by omega),w64_id (by omega) (by omega)]
  omega
 have c2:∀ i,i≤n→s2.mat i (n + 1)=s.mat i p + hi:=by
  intro i hi'
  have q1:=h.lt hi' hp
  rw [k4 i (n + 1) (by omega) (by omega),upE,a2 i hi',b1,if_pos ⟨by omega,by omega⟩,w64_id (x:=s.mat i p + hi + -lo) (by omega) (by omega),w64_id (by omega) (by omega)]
  omega
 have c3:∀ k,k≤n→s2.mat (n + 1) k=s.mat p k - lo:=by
  intro k hk
  have q2:=h.lt hp hk
  rw [k4 (n + 1) k (by omega) (by omega),upE,a3 k hk,a5 (n + 1) (by omega) (by omega),a1 p k hp hk,if_pos ⟨by omega,by omega⟩,w64_id (x:=0 + -lo) (by omega) (by omega),w64_id (by omega) (by omega)]
  omega
 have c4:s2.mat (n + 1) (n + 1)=0:=by
  rw [k4 (n + 1) (n + 1) (by omega) (by omega),upE,a5 (n + 1) (by omega) (by omega),b1,if_pos ⟨by omega,by omega⟩,w64_id (x:=0 + -lo) (by omega) (by omega),w64_id (by omega) (by omega)]
  omega
 refine ⟨⟨by omega,fun i k hi' hk=>?_,fun i k hi' hk ho hne=>?_,fun i hi'=>?_,fun i k hi' hk=>?_,fun i j k hi' hj hk=>?_,fun i hi'=>?_,fun i hi'=>?_⟩,c1,c3⟩
 ·by_cases e1:i≤n
  ·by_cases e2:k≤n
   ·rw [c1 i k e1 e2];have:=h.hi i k e1 e2;omega
   ·rw [show k=n + 1 by omega,c2 i e1];have:=h.hi i p e1 hp;omega
  ·rw [show i=n + 1 by omega]
   by_cases e2:k≤n
   ·rw [c3 k e2];have:=h.hi p k hp e2;omega
   ·rw [show k=n + 1 by omega,c4];omega
 ·rw [k4 i k hi' hk,upE,if_neg,a4 i k hi' hk ho hne]
  rintro ⟨q1,q2⟩
  rcases ho with ho|ho
  ·rw [a4 i (n + 1) hi' (by omega) (.inl ho) (by omega)] at q1;omega
  ·rw [a4 p k (by omega) hk (.inr ho) (by omega)] at q2;omega
 ·by_cases e1:i≤n
  ·rw [c1 i i e1 e1,h.diag i hi']
  ·by_cases e2:i=n + 1
   ·rw [e2,c4]
   ·rw [k4 i i hi' hi',upE,if_neg,a5 i (by omega) hi']
    rintro ⟨q1,_⟩
    rw [a4 i (n + 1) hi' (by omega) (.inl (by omega)) e2] at q1;omega
 ·by_cases e1:i≤n
  ·rw [if_neg (by omega:¬ i=n + 1)]
   by_cases e2:k≤n
   ·rw [if_neg (by omega:¬ k=n + 1),c1 i k e1 e2];exact h.sat i k e1 e2
   ·rw [if_pos (by omega:k=n + 1),show k=n + 1 by omega,c2 i e1];have:=h.sat i p e1 hp;omega
  ·rw [if_pos (by omega:i=n + 1),show i=n + 1 by omega]
   by_cases e2:k≤n
   ·rw [if_neg (by omega:¬ k=n + 1),c3 k e2];have:=h.sat p k hp e2;omega
   ·rw [if_pos (by omega:k=n + 1),show k=n + 1 by omega,c4];omega
 ·have val:∀ i k,i≤n + 1→k≤n + 1→s2.mat i k=(if i=n + 1 then (if k=n + 1 then 0 else s.mat p k - lo) else if k=n + 1 then s.mat i p + hi else s.mat i k):=by
   intro i k h1 h2
   by_cases e1:i=n + 1
   ·by_cases e2:k=n + 1
    ·rw [if_pos e1,if_pos e2,e1,e2,c4]
    ·rw [if_pos e1,if_neg e2,e1,c3 k (by omega)]
   ·by_cases e2:k=n + 1
    ·rw [if_neg e1,if_pos e2,e2,c2 i (by omega)]
    ·rw [if_neg e1,if_neg e2,c1 i k (by omega) (by omega)]
  rw [val i k hi' hk,val i j hi' hj,val j k hj hk]
  by_cases e1:i=n + 1
  ·by_cases e2:j=n + 1
   ·by_cases e3:k=n + 1
    ·simp only [e1,e2,e3,if_true];omega
    ·simp only [e1,e2,e3,if_true,if_false];omega
   ·by_cases e3:k=n + 1
    ·simp only [e1,e2,e3,if_true,if_false]
     have:=h.tri p j p hp (by omega) hp
     omega
    ·simp only [e1,e2,e3,if_true,if_false]
     have:=h.tri p j k hp (by omega) (by omega)
     omega
  ·by_cases e2:j=n + 1
   ·by_cases e3:k=n + 1
    ·simp only [e1,e2,e3,if_true,if_false];omega
    ·simp only [e1,e2,e3,if_true,if_false]
     have:=h.tri i p k (by omega) hp (by omega)
     omega
   ·by_cases e3:k=n + 1
    ·simp only [e1,e2,e3,if_true,if_false]
     have:=h.tri i j p (by omega) (by omega) hp
     omega
    ·simp only [e1,e2,e3,if_false]
     exact h.tri i j k (by omega) (by omega) (by omega)
 ·split
  ·have:=h.x0 p hp;omega
  ·exact h.x0 i (by omega)
 ·split
  ·have:=h.x1 p hp;omega
  ·have:=h.x1 i (by omega);omega
end Go.Proofs.Swa
