/- Part 3. -/
import Derived.Test.YtkjcijlaehflhaaP02
set_option linter.unusedVariables false
set_option linter.unusedSimpArgs false
namespace Go.Proofs.Swa
open Go
abbrev I0:=Ex→Bi→Aa→Prop
section
variable {P:Program} {C:Bk} {ng nt:Nat}
def W (P:Program)(C:Bk)(ng nt:Nat)(c:Code)(env:Bi)(H:Aa)(Q:I0):Prop:=∃ x env' H',Gv P C ng nt c env H x env' H'∧Q x env' H'
def WO (P:Program)(C:Bk)(ops:Array Oper)(os:List Oper)(K:Bi→Aa→Prop)(env:Bi)(H:Aa):Prop:=∃ env' H',K6 P C ops os env H env' H'∧K env' H'
@[reducible] def B3o (P:Program) (C:Bk) (ng nt:Nat) (b:Code) (Q:I0):I0:=fun x e h=>match x with
 | .normal=>W P C ng nt b e h Q
 | .exit i=>Q (.exit i) e h
 | .ret=>Q .ret e h
@[reducible] def A00 (id:Nat) (Q:I0):I0:=fun x e h=>match x with
 | .normal=>Q .normal e h
 | .exit i=>if i=id then Q .normal e h else Q (.exit i) e h
 | .ret=>Q .ret e h
theorem A4f {c:Code}{env:Bi}{H:Aa}{Q Q':I0}(h:W P C ng nt c env H Q)(k:∀ x e h,Q x e h→Q' x e h):W P C ng nt c env H Q':=by
 obtain⟨x,e,H',r,q⟩:=h
 exact⟨x,e,H',r,k _ _ _ q⟩
theorem At {env:Bi}{H:Aa}{Q:I0}(h:Q .normal env H):W P C ng nt .skip env H Q:=⟨_,_,_,.skip,h⟩
theorem Ax {i:Nat}{env:Bi}{H:Aa}{Q:I0}(h:Q (.exit i) env H):W P C ng nt (.exit i) env H Q:=⟨_,_,_,.exit,h⟩
theorem Ay {env:Bi}{H:Aa}{Q:I0}(h:Q .ret env H):W P C ng nt .ret env H Q:=⟨_,_,_,.ret,h⟩
theorem Az {a b:Code}{env:Bi}{H:Aa}{Q:I0}(h:W P C ng nt a env H (B3o P C ng nt b Q)):W P C ng nt (.seq a b) env H Q:=by
 obtain⟨x,e,H',r,q⟩:=h
 cases x with
 | normal=>obtain⟨x2,e2,H2,r2,q2⟩:=q;exact⟨x2,e2,H2,.seqN r r2,q2⟩
 | exit i=>exact⟨_,e,H',.seqX r (by simp),q⟩
 | ret=>exact⟨_,e,H',.seqX r (by simp),q⟩
theorem Ap {id:Nat}{b:Code}{env:Bi}{H:Aa}{Q:I0}(h:W P C ng nt b env H (A00 id Q)):W P C ng nt (.block id b) env H Q:=by
 obtain⟨x,e,H',r,q⟩:=h
 cases x with
 | normal=>exact⟨_,e,H',.blockX r (by simp),q⟩
 | exit i =>
  simp only[A00]at q
  by_cases hi:i=id
  ·subst hi
   rw[if_pos rfl]at q
   exact⟨_,e,H',.blockE r,q⟩
  ·rw[if_neg hi]at q
   exact⟨_,e,H',.blockX r (by simpa using hi),q⟩
 | ret=>exact⟨_,e,H',.blockX r (by simp),q⟩
theorem Au {c:Operand}{a b:Code}{env:Bi}{H:Aa}{Q:I0}{t:Bool}(hc:ev env c=.bool t)(h1:t=true→W P C ng nt a env H Q)(h2:t=false→W P C ng nt b env H Q):W P C ng nt (.cond c a b) env H Q:=by
 cases t with
 | true=>obtain⟨x,e,H',r,q⟩:=h1 rfl;exact⟨x,e,H',.cond hc (by simpa using r),q⟩
 | false=>obtain⟨x,e,H',r,q⟩:=h2 rfl;exact⟨x,e,H',.cond hc (by simpa using r),q⟩
theorem B3p {b:Code}{env:Bi}{H:Aa}{Q:I0}(I:Nat→Bi→Aa→Prop)
  (hI:∀ n e h,I n e h→W P C ng nt b e h fun x e' h'=>match x with
   | .normal=>∃ m,m<n∧I m e' h'
   | .exit i=>Q (.exit i) e' h'
   | .ret=>Q .ret e' h') (n:Nat) (h:I n env H):W P C ng nt (.loop b) env H Q:=by
 induction n using Nat.strongRecOn generalizing env H with
 | ind n ih =>
  obtain⟨x,e,H',r,q⟩:=hI n env H h
  cases x with
  | normal =>
   obtain⟨m,hm,hi⟩:=q
   obtain⟨x2,e2,H2,r2,q2⟩:=ih m hm hi
   exact⟨x2,e2,H2,.loopN r r2,q2⟩
  | exit i=>exact⟨_,e,H',.loopX r (by simp),q⟩
  | ret=>exact⟨_,e,H',.loopX r (by simp),q⟩
theorem A8w {id:Nat}{l:List Oper}{env:Bi}{H:Aa}{Q:I0}(h:∀ K:Bi→Aa→Prop,(∀ e h,Q .normal e h→K e h)→WO P C ⟨l⟩ l K env H):W P C ng nt (.region id ⟨l⟩ false) env H Q:=by
 obtain⟨e,H',r,q⟩:=h (fun e h=>Q .normal e h) (fun _ _ h=>h)
 exact⟨_,e,H',.region r,q⟩
end
def Jw {α:Sort _}(x:α):α:=x
def oV (x:Option Value)(k:Value→Prop):Prop:=match x with|some v=>k v|none=>False
def oB (x:Option (Value×Aa))(k:Value→Aa→Prop):Prop:=match x with|some (v,h)=>k v h|none=>False
def oH (x:Option Aa)(k:Aa→Prop):Prop:=match x with|some h=>k h|none=>False
@[simp] theorem B1e (v:Value) (k:Value→Prop):oV (some v) k=k v:=rfl
@[simp] theorem B1f (v:Value) (h:Aa) (k:Value→Aa→Prop):oB (some (v,h)) k=k v h:=rfl
@[simp] theorem B1g (h:Aa) (k:Aa→Prop):oH (some h) k=k h:=rfl
theorem Gm {x x':Option Value}(h:x=x')(k:Value→Prop):oV x k=oV x' k:=by rw[h]
theorem I8 {x x':Option (Value×Aa)}(h:x=x')(k:Value→Aa→Prop):oB x k=oB x' k:=by rw[h]
theorem I9 {x x':Option Aa}(h:x=x')(k:Aa→Prop):oH x k=oH x' k:=by rw[h]
theorem Ja {P:Program}{C:Bk}{ops:Array Oper}{os:List Oper}{K:Bi→Aa→Prop}{env env':Bi}{H H':Aa}(h:env=env')(k:H=H'):WO P C ops os K env H=WO P C ops os K env' H':=by rw[h,k]
section
variable {P:Program} {C:Bk} {ops:Array Oper} {os:List Oper} {K:Bi→Aa→Prop} {env:Bi} {H:Aa} {dst:Option Tmp} {ty:TypeId} {pos:String} {aft:Array Edge}
theorem B3q:WO P C ops [] K env H=K env H:=by
 refine propext ⟨fun h=>?_,fun h=>⟨env,H,⟨rfl,rfl⟩,h⟩⟩
 obtain⟨e,h',⟨rfl,rfl⟩,q⟩:=h
 exact q
theorem Gn {op:Op}(hc:∀ c,op=.call c→∃ b,c.callee=.builtin b) :
  WO P C ops (⟨dst,op,ty,pos,aft,none⟩ :: os) K env H=oB (Ou P env ⟨dst,op,ty,pos,aft,none⟩ H) fun v h=>WO P C ops os K (env.set dst v) h:=by
 have hA:∀ v h',We P C env ⟨dst,op,ty,pos,aft,none⟩ H v h'↔Ou P env ⟨dst,op,ty,pos,aft,none⟩ H=some (v,h'):=by
  intro v h'
  unfold We
  split
  ·rename_i f args ts he
   simp only at he
   obtain⟨b,e⟩:=hc _ he
   cases e
  ·rename_i f args ts he
   simp only at he
   obtain⟨b,e⟩:=hc _ he
   cases e
  ·rfl
 refine propext ⟨?_, ?_⟩
 ·rintro⟨e,h',⟨e1,h1,hs,hr⟩,q⟩
  rcases hs with⟨_,v,ha,rfl⟩|⟨hw,_⟩
  ·rw[(hA _ _).1 ha]
   exact⟨e,h',hr,q⟩
  ·simp[Region.wanted]at hw
 ·intro h
  cases ho:Ou P env ⟨dst,op,ty,pos,aft,none⟩ H with
  | none=>rw[ho]at h;exact h.elim
  | some p =>
   obtain⟨v,h1⟩:=p
   rw[ho]at h
   obtain⟨e,h',hr,q⟩:=h
   exact⟨e,h',⟨_,_,.inl ⟨rfl,v,(hA _ _).2 ho,rfl⟩,hr⟩,q⟩
theorem E0 (x:Option Value)(k:Value→Aa→Prop):oB (x.map (·,H)) k=oV x fun v=>k v H:=by cases x <;> rfl
theorem E7 (x:Option Aa)(v:Value)(k:Value→Aa→Prop):oB (x.map (v,·)) k=oH x fun h=>k v h:=by cases x <;> rfl
theorem Wp {op:Op}{j:Nat}{b:Bool} :
  WO P C ops (⟨dst,op,ty,pos,aft,some (j,b)⟩ :: os) K env H =
   if Dg ops env j=some b then WO P C ops (⟨dst,op,ty,pos,aft,none⟩ :: os) K env H else WO P C ops os K (env.set dst undef) H:=by
 refine propext ⟨?_, ?_⟩
 ·rintro⟨e,h',⟨e1,h1,hs,hr⟩,q⟩
  rcases hs with⟨hw,v,ha,rfl⟩|⟨hw,rfl,rfl⟩
  ·rw[if_pos (by simpa [Region.wanted] using hw)]
   exact⟨e,h',⟨_,_,.inl ⟨rfl,v,ha,rfl⟩,hr⟩,q⟩
  ·rw[if_neg (by simpa [Region.wanted] using hw)]
   exact⟨e,h',hr,q⟩
 ·intro h
  split at h
  ·rename_i hw
   obtain⟨e,h',⟨e1,h1,hs,hr⟩,q⟩:=h
   rcases hs with⟨_,v,ha,rfl⟩|⟨hw',_⟩
   ·exact⟨e,h',⟨_,_,.inl ⟨by simpa [Region.wanted] using hw,v,ha,rfl⟩,hr⟩,q⟩
   ·simp[Region.wanted]at hw'
  ·rename_i hw
   obtain⟨e,h',hr,q⟩:=h
   exact⟨e,h',⟨_,_,.inr ⟨by simpa [Region.wanted] using hw,rfl,rfl⟩,hr⟩,q⟩
theorem A6U {op:Op}{j:Nat}{t:Bool}(hy:Dg ops env j=some t)(h1:t=true→WO P C ops (⟨dst,op,ty,pos,aft,none⟩ :: os) K env H)(h2:t=false→WO P C ops os K (env.set dst undef) H) :
  WO P C ops (⟨dst,op,ty,pos,aft,some (j,true)⟩ :: os) K env H:=by
 rw[Wp,hy]
 cases t with
 | true=>simpa using h1 rfl
 | false=>simpa using h2 rfl
theorem A6V {op:Op}{j:Nat}{t:Bool}(hy:Dg ops env j=some t)(h1:t=false→WO P C ops (⟨dst,op,ty,pos,aft,none⟩ :: os) K env H)(h2:t=true→WO P C ops os K (env.set dst undef) H) :
  WO P C ops (⟨dst,op,ty,pos,aft,some (j,false)⟩ :: os) K env H:=by
 rw[Wp,hy]
 cases t with
 | false=>simpa using h1 rfl
 | true=>simpa using h2 rfl
theorem P4 {f:Operand}{args:Array Operand}{ts:Array TypeId}{v:Value}{H1:Aa}(h:Gj C (ev env f) (args.map (ev env)) H v H1)(k:WO P C ops os K (env.set dst v) H1) :
  WO P C ops (⟨dst,.call ⟨.value f,args,ts⟩,ty,pos,aft,none⟩ :: os) K env H:=by
 obtain⟨e,h',hr,q⟩:=k
 exact⟨e,h',⟨_,_,.inl ⟨rfl,v,h,rfl⟩,hr⟩,q⟩
def asB (v:Value)(k:Bool→Prop):Prop:=match v with|.bool b=>k b|_=>False
@[simp] theorem A8x (b:Bool) (k:Bool→Prop):asB (.bool b) k=k b:=rfl
theorem B1h (x:Operand):WO P C ops (⟨dst,.move x,ty,pos,aft,none⟩ :: os) K env H=WO P C ops os K (Jw (env.set dst (ev env x))) H:=by
 rw[Gn (by intro c e;cases e <;> exact⟨_,rfl⟩)]
 first|rfl|exact E0 _ _|exact E7 _ _ _
theorem A6W (x:Operand):WO P C ops (⟨dst,.assign x,ty,pos,aft,none⟩ :: os) K env H=WO P C ops os K (Jw (env.set dst (ev env x))) H:=by
 rw[Gn (by intro c e;cases e <;> exact⟨_,rfl⟩)]
 first|rfl|exact E0 _ _|exact E7 _ _ _
theorem A8y (t:TypeId):WO P C ops (⟨dst,.alloc t,ty,pos,aft,none⟩ :: os) K env H=oB (Jw (Fd P t H)) fun v h=>WO P C ops os K (Jw (env.set dst v)) h:=by
 rw[Gn (by intro c e;cases e <;> exact⟨_,rfl⟩)]
 first|rfl|exact E0 _ _|exact E7 _ _ _
theorem B3r (t:TypeId)(x:Operand):WO P C ops (⟨dst,.box t x,ty,pos,aft,none⟩ :: os) K env H=oB (Jw (Ym t H (ev env x))) fun v h=>WO P C ops os K (Jw (env.set dst v)) h:=by
 rw[Gn (by intro c e;cases e <;> exact⟨_,rfl⟩)]
 first|rfl|exact E0 _ _|exact E7 _ _ _
theorem A8z (t:TypeId)(ps:Array (Nat×Operand)):WO P C ops (⟨dst,.build t ps,ty,pos,aft,none⟩ :: os) K env H=oV (Jw (Ez P t (ps.toList.map fun p=>(p.1,ev env p.2)))) fun v=>WO P C ops os K (Jw (env.set dst v)) H:=by
 rw[Gn (by intro c e;cases e <;> exact⟨_,rfl⟩)]
 first|rfl|exact E0 _ _|exact E7 _ _ _
theorem Yu (t:TypeId)(n:Nat)(ps:Array (Nat×Operand)):WO P C ops (⟨dst,.buildSlice t n ps,ty,pos,aft,none⟩ :: os) K env H=oB (Jw (Cj P t n (ps.toList.map fun p=>(p.1,ev env p.2)) H)) fun v h=>WO P C ops os K (Jw (env.set dst v)) h:=by
 rw[Gn (by intro c e;cases e <;> exact⟨_,rfl⟩)]
 first|rfl|exact E0 _ _|exact E7 _ _ _
theorem B1i (t:TypeId)(x:Operand):WO P C ops (⟨dst,.load t x,ty,pos,aft,none⟩ :: os) K env H=oV (Jw (Ei P t H (ev env x))) fun v=>WO P C ops os K (Jw (env.set dst v)) H:=by
 rw[Gn (by intro c e;cases e <;> exact⟨_,rfl⟩)]
 first|rfl|exact E0 _ _|exact E7 _ _ _
theorem A8A (t:TypeId)(a x:Operand):WO P C ops (⟨dst,.store t a x,ty,pos,aft,none⟩ :: os) K env H=oH (Jw (D4 P t H (ev env a) (ev env x))) fun h=>WO P C ops os K (Jw (env.set dst undef)) h:=by
 rw[Gn (by intro c e;cases e <;> exact⟨_,rfl⟩)]
 first|rfl|exact E0 _ _|exact E7 _ _ _
theorem A2B (x:Operand):WO P C ops (⟨dst,.nilCheck x,ty,pos,aft,none⟩ :: os) K env H=oV (Jw (Kc (ev env x))) fun v=>WO P C ops os K (Jw (env.set dst v)) H:=by
 rw[Gn (by intro c e;cases e <;> exact⟨_,rfl⟩)]
 first|rfl|exact E0 _ _|exact E7 _ _ _
theorem A2C (f:FuncId)(a c:Array Operand):WO P C ops (⟨dst,.makeFunc (.func f) a c,ty,pos,aft,none⟩ :: os) K env H=WO P C ops os K (Jw (env.set dst (.func (.func f) (a.map (ev env)) (c.map (ev env))))) H:=by
 rw[Gn (by intro c e;cases e <;> exact⟨_,rfl⟩)]
 first|rfl|exact E0 _ _|exact E7 _ _ _
theorem A01 (t:TypeId)(l c:Operand):WO P C ops (⟨dst,.makeSlice t l c,ty,pos,aft,none⟩ :: os) K env H=oB (Jw (Fe P t (ev env l) (ev env c) H)) fun v h=>WO P C ops os K (Jw (env.set dst v)) h:=by
 rw[Gn (by intro c e;cases e <;> exact⟨_,rfl⟩)]
 first|rfl|exact E0 _ _|exact E7 _ _ _
theorem A8B (t:TypeId)(x:Operand)(lo hi mx:Option Operand):WO P C ops (⟨dst,.slice t x lo hi mx,ty,pos,aft,none⟩ :: os) K env H=oV (Jw (Jl P H t (ev env x) (lo.map (ev env)) (hi.map (ev env)) (mx.map (ev env)))) fun v=>WO P C ops os K (Jw (env.set dst v)) H:=by
 rw[Gn (by intro c e;cases e <;> exact⟨_,rfl⟩)]
 first|rfl|exact E0 _ _|exact E7 _ _ _
theorem A02 (t:TypeId)(x:Operand)(f:Nat):WO P C ops (⟨dst,.fieldAddr t x f,ty,pos,aft,none⟩ :: os) K env H=oV (Jw (B0 P t (ev env x) f)) fun v=>WO P C ops os K (Jw (env.set dst v)) H:=by
 rw[Gn (by intro c e;cases e <;> exact⟨_,rfl⟩)]
 first|rfl|exact E0 _ _|exact E7 _ _ _
theorem A8C (t:TypeId)(x:Operand)(f:Nat):WO P C ops (⟨dst,.field t x f,ty,pos,aft,none⟩ :: os) K env H=oV (Jw (Ow P t (ev env x) f)) fun v=>WO P C ops os K (Jw (env.set dst v)) H:=by
 rw[Gn (by intro c e;cases e <;> exact⟨_,rfl⟩)]
 first|rfl|exact E0 _ _|exact E7 _ _ _
theorem A03 (t:TypeId)(x i:Operand):WO P C ops (⟨dst,.indexAddr t x i,ty,pos,aft,none⟩ :: os) K env H=oV (Jw (Ca P t (ev env x) (ev env i))) fun v=>WO P C ops os K (Jw (env.set dst v)) H:=by
 rw[Gn (by intro c e;cases e <;> exact⟨_,rfl⟩)]
 first|rfl|exact E0 _ _|exact E7 _ _ _
theorem A8D (t:TypeId)(x i:Operand):WO P C ops (⟨dst,.index t x i,ty,pos,aft,none⟩ :: os) K env H=oV (Jw (A0K P t (ev env x) (ev env i))) fun v=>WO P C ops os K (Jw (env.set dst v)) H:=by
 rw[Gn (by intro c e;cases e <;> exact⟨_,rfl⟩)]
 first|rfl|exact E0 _ _|exact E7 _ _ _
theorem A4g (x:Operand)(i:Nat):WO P C ops (⟨dst,.extract x i,ty,pos,aft,none⟩ :: os) K env H=oV (Jw (Ly (ev env x) i)) fun v=>WO P C ops os K (Jw (env.set dst v)) H:=by
 rw[Gn (by intro c e;cases e <;> exact⟨_,rfl⟩)]
 first|rfl|exact E0 _ _|exact E7 _ _ _
theorem A4h (t:TypeId):WO P C ops (⟨dst,.makeMap t none,ty,pos,aft,none⟩ :: os) K env H=WO P C ops os K (Jw (env.set dst (.map (some H.n)))) (H.alloc (.map [])):=by
 rw[Gn (by intro c e;cases e <;> exact⟨_,rfl⟩)]
 first|rfl|exact E0 _ _|exact E7 _ _ _
theorem A6X (t:TypeId)(x i:Operand)(ok:Bool):WO P C ops (⟨dst,.lookup t x i ok,ty,pos,aft,none⟩ :: os) K env H=oV (Jw (Np P t (ev env x) (ev env i) ok H)) fun v=>WO P C ops os K (Jw (env.set dst v)) H:=by
 rw[Gn (by intro c e;cases e <;> exact⟨_,rfl⟩)]
 first|rfl|exact E0 _ _|exact E7 _ _ _
theorem A04 (t:TypeId)(m i x:Operand):WO P C ops (⟨dst,.mapUpdate t m i x,ty,pos,aft,none⟩ :: os) K env H=oH (Jw (Fg P t (ev env m) (ev env i) (ev env x) H)) fun h=>WO P C ops os K (Jw (env.set dst undef)) h:=by
 rw[Gn (by intro c e;cases e <;> exact⟨_,rfl⟩)]
 first|rfl|exact E0 _ _|exact E7 _ _ _
theorem B1j (x:Operand):WO P C ops (⟨dst,.next x true,ty,pos,aft,none⟩ :: os) K env H=oB (Jw (Ul (ev env x) H)) fun v h=>WO P C ops os K (Jw (env.set dst v)) h:=by
 rw[Gn (by intro c e;cases e <;> exact⟨_,rfl⟩)]
 first|rfl|exact E0 _ _|exact E7 _ _ _
theorem A6Y (args:Array Operand)(ts:Array TypeId):WO P C ops (⟨dst,.call ⟨.builtin .append,args,ts⟩,ty,pos,aft,none⟩ :: os) K env H=oB (Jw (Cg P ts (args.toList.map (ev env)) H)) fun v h=>WO P C ops os K (Jw (env.set dst v)) h:=by
 rw[Gn (by intro c e;cases e <;> exact⟨_,rfl⟩)]
 first|rfl|exact E0 _ _|exact E7 _ _ _
end
def keep (x:Option Value):Option Value:=match x with|some v=>if dflat v=true then some v else none|none=>none
def Fj (P:Program)(op:BinOp)(t:TypeId)(x y:Operand)(a b:Value):Option Value :=
 if dflat a=true∧dflat b=true then keep (pr P (do eqGuard op t x y a b;binOp op t a b:Sem Value))
 else match op,P.underlying t with
  | .eql,some d=>(Uk d a b).map .bool
  | .neq,some d=>(Uk d a b).map fun b=>.bool !b
  | _,_=>none
def Yv (P:Program)(op:UnOp)(a:Value):Option Value:=if dflat a=true then keep (pr P (Op.unary op a)) else none
def Un (P:Program)(s d:TypeId)(a:Value):Option Value:=if dflat a=true then keep (pr P (convert s d a)) else none
def mmA (P:Program)(mx:Bool)(as:Array Value):Option Value:=if (as.all dflat)=true then keep (pr P (if mx=true then Builtin.max_ #[] 0 as else Builtin.min_ #[] 0 as)) else none
def lenV (P:Program)(t:TypeId)(x:Value)(H:Aa):Option Value:=A32 P (fun _=>undef) default t x H
theorem Jz {P:Program}{s:Sem Value}:(match pr P (do pure (.value (← s)):Sem Next) with|some (.value v)=>if dflat v=true then some v else none|_=>none)=keep (pr P s):=by
 simp only[Dk,Ey]
 cases pr P s <;> rfl
section
variable {P:Program} {C:Bk} {ops:Array Oper} {os:List Oper} {K:Bi→Aa→Prop} {env:Bi} {H:Aa} {dst:Option Tmp} {ty:TypeId} {pos:String} {aft:Array Edge}
theorem A8E (op:BinOp)(t:TypeId)(x y:Operand)(yt:TypeId):WO P C ops (⟨dst,.binOp op t x y yt,ty,pos,aft,none⟩ :: os) K env H=oV (Jw (Fj P op t x y (ev env x) (ev env y))) fun v=>WO P C ops os K (Jw (env.set dst v)) H:=by
 rw[Gn (by intro c e;cases e)]
 refine(E0 (A6D P env ⟨dst,.binOp op t x y yt,ty,pos,aft,none⟩ op t (ev env x) (ev env y)) _).trans (Gm ?_ _)
 unfold A6D Fj
 split
 ·exact Jz
 ·rfl
theorem B1k (op:UnOp)(t:TypeId)(x:Operand):WO P C ops (⟨dst,.unOp op t x,ty,pos,aft,none⟩ :: os) K env H=oV (Jw (Yv P op (ev env x))) fun v=>WO P C ops os K (Jw (env.set dst v)) H:=by
 rw[Gn (by intro c e;cases e)]
 refine(E0 (Ff P env ⟨dst,.unOp op t x,ty,pos,aft,none⟩) _).trans (Gm ?_ _)
 have h1:((Op.operands (.unOp op t x)).all fun x=>dflat (ev env x))=dflat (ev env x):=by simp[Op.operands]
 unfold Ff Yv
 simp only[h1]
 refine ite_congr rfl (fun _=>?_) fun _=>rfl
 exact Jz
theorem A4i (s d:TypeId)(x:Operand):WO P C ops (⟨dst,.convert s d x,ty,pos,aft,none⟩ :: os) K env H=oV (Jw (Un P s d (ev env x))) fun v=>WO P C ops os K (Jw (env.set dst v)) H:=by
 rw[Gn (by intro c e;cases e)]
 refine(E0 (Ff P env ⟨dst,.convert s d x,ty,pos,aft,none⟩) _).trans (Gm ?_ _)
 have h1:((Op.operands (.convert s d x)).all fun x=>dflat (ev env x))=dflat (ev env x):=by simp[Op.operands]
 unfold Ff Un
 simp only[h1]
 refine ite_congr rfl (fun _=>?_) fun _=>rfl
 exact Jz
theorem B1l (c a b:Operand):WO P C ops (⟨dst,.pick c a b,ty,pos,aft,none⟩ :: os) K env H=asB (ev env c) fun t=>WO P C ops os K (Jw (env.set dst (if t=true then ev env a else ev env b))) H:=by
 rw[Gn (by intro c e;cases e)]
 simp only[Ou]
 cases ev env c <;> rfl
theorem B3s (t:TypeId)(x:Operand):WO P C ops (⟨dst,.call ⟨.builtin .len,#[x],#[t]⟩,ty,pos,aft,none⟩ :: os) K env H=oV (Jw (lenV P t (ev env x) H)) fun v=>WO P C ops os K (Jw (env.set dst v)) H:=by
 rw[Gn (by intro c e;cases e;exact⟨_,rfl⟩)]
 exact E0 _ _
theorem B3t (t:TypeId)(x:Operand):WO P C ops (⟨dst,.call ⟨.builtin .cap,#[x],#[t]⟩,ty,pos,aft,none⟩ :: os) K env H=oV (Jw (A33 P t (ev env x) H)) fun v=>WO P C ops os K (Jw (env.set dst v)) H:=by
 rw[Gn (by intro c e;cases e;exact⟨_,rfl⟩)]
 exact E0 _ _
theorem A8F (t:TypeId)(x:Operand):WO P C ops (⟨dst,.range t x,ty,pos,aft,none⟩ :: os) K env H =
  oB (match P.underlying t,ev env x with|some .string,.string s=>some (Bc H.n 0,H.alloc (.iter s 0))|_,_=>none) fun v h=>WO P C ops os K (Jw (env.set dst v)) h:=by
 rw[Gn (by intro c e;cases e)]
 rfl
theorem Uo (b:Builtin)(hb:b=.min∨b=.max)(args:Array Operand)(ts:Array TypeId) :
  Ff P env ⟨dst,.call ⟨.builtin b,args,ts⟩,ty,pos,aft,none⟩=mmA P (decide (b=.max)) (args.map (ev env)):=by
 unfold Ff mmA
 have h1:(Op.call ⟨.builtin b,args,ts⟩).operands=args:=by simp[Op.operands,Call.operands]
 simp only[h1,Array.all_map]
 refine ite_congr rfl (fun _=>?_) fun _=>rfl
 unfold A6C
 rcases hb with rfl|rfl
 ·exact Jz (s:=Builtin.min_ ts ty (args.map (ev env)))
 ·exact Jz (s:=Builtin.max_ ts ty (args.map (ev env)))
theorem B3u (args:Array Operand)(ts:Array TypeId):WO P C ops (⟨dst,.call ⟨.builtin .min,args,ts⟩,ty,pos,aft,none⟩ :: os) K env H=oV (Jw (mmA P false (args.map (ev env)))) fun v=>WO P C ops os K (Jw (env.set dst v)) H:=by
 rw[Gn (by intro c e;cases e;exact⟨_,rfl⟩)]
 refine(E0 (Ff P env ⟨dst,.call ⟨.builtin .min,args,ts⟩,ty,pos,aft,none⟩) _).trans (Gm ?_ _)
 exact Uo .min (.inl rfl) args ts
theorem B3v (args:Array Operand)(ts:Array TypeId):WO P C ops (⟨dst,.call ⟨.builtin .max,args,ts⟩,ty,pos,aft,none⟩ :: os) K env H=oV (Jw (mmA P true (args.map (ev env)))) fun v=>WO P C ops os K (Jw (env.set dst v)) H:=by
 rw[Gn (by intro c e;cases e;exact⟨_,rfl⟩)]
 refine(E0 (Ff P env ⟨dst,.call ⟨.builtin .max,args,ts⟩,ty,pos,aft,none⟩) _).trans (Gm ?_ _)
 exact Uo .max (.inr rfl) args ts
end
section
variable {P:Program} {t:TypeId} {x y:Operand} {k:IntKind} {a b:Int}
theorem A05:Fj P .add t x y (.int k a) (.int k b)=some (.int k (k.wrap (a+b))):=by simp[Fj,dflat,flat,eqGuard,binOp,Op.intArith,keep]
theorem A06:Fj P .sub t x y (.int k a) (.int k b)=some (.int k (k.wrap (a-b))):=by simp[Fj,dflat,flat,eqGuard,binOp,Op.intArith,keep]
theorem A07:Fj P .mul t x y (.int k a) (.int k b)=some (.int k (k.wrap (a*b))):=by simp[Fj,dflat,flat,eqGuard,binOp,Op.intArith,keep]
theorem A5E (h:b≠0):Fj P .quo t x y (.int k a) (.int k b)=some (.int k (k.wrap (a.tdiv b))):=by simp[Fj,dflat,flat,eqGuard,binOp,Op.intDiv,keep,h]
theorem A5F (h:b≠0):Fj P .rem t x y (.int k a) (.int k b)=some (.int k (a.tmod b)):=by simp[Fj,dflat,flat,eqGuard,binOp,Op.intDiv,keep,h]
theorem B1m:Fj P .xor t x y (.int k a) (.int k b)=some (.int k (k.wrap (BitVec.ofInt k.bits a ^^^ BitVec.ofInt k.bits b).toNat)):=by simp[Fj,dflat,flat,eqGuard,binOp,Op.intBits,keep]
theorem B1n {k':IntKind}(h:0≤b):Fj P .shl t x y (.int k a) (.int k' b)=some (.int k (k.wrap (a*2 ^ (min b.toNat k.bits)))):=by simp[Fj,dflat,flat,eqGuard,binOp,Op.shift,keep,Int.not_lt.2 h]
theorem B1o {k':IntKind}(h:0≤b):Fj P .shr t x y (.int k a) (.int k' b)=some (.int k (a.fdiv (2 ^ (min b.toNat k.bits)))):=by simp[Fj,dflat,flat,eqGuard,binOp,Op.shift,keep,Int.not_lt.2 h]
theorem A08:Fj P .lss t x y (.int k a) (.int k b)=some (.bool (decide (a<b))):=by simp[Fj,dflat,flat,eqGuard,binOp,Op.intCmp,keep]
theorem A09:Fj P .leq t x y (.int k a) (.int k b)=some (.bool (decide (a≤b))):=by simp[Fj,dflat,flat,eqGuard,binOp,Op.intCmp,keep]
theorem A1a:Fj P .gtr t x y (.int k a) (.int k b)=some (.bool (decide (b<a))):=by simp[Fj,dflat,flat,eqGuard,binOp,Op.intCmp,keep]
theorem A1b:Fj P .geq t x y (.int k a) (.int k b)=some (.bool (decide (b≤a))):=by simp[Fj,dflat,flat,eqGuard,binOp,Op.intCmp,keep]
theorem A1c:Fj P .eql t x y (.int k a) (.int k b)=some (.bool (decide (a=b))):=by
 have:(a == b)=decide (a=b):=rfl
 simp[Fj,dflat,flat,eqGuard,binOp,Op.intCmp,keep,this]
theorem A1d:Fj P .neq t x y (.int k a) (.int k b)=some (.bool (decide (a≠b))):=by
 have:(a != b)=decide (a≠b):=by by_cases h:a=b <;> simp[h]
 simp[Fj,dflat,flat,eqGuard,binOp,Op.intCmp,keep,this]
theorem A1e (d:Nat)(hu:P.underlying t=some .bool)(p q:Bool):pr P (Op.equalIn (d+1) t (.bool p) (.bool q))=some (p == q):=by
 simp only[Op.equalIn,Dk,underlying,Fc,Option.bind_some,hu,Ey]
theorem Wq (hu:P.underlying t=some .bool)(p q:Bool):pr P (Op.equal t (.bool p) (.bool q))=some (p == q):=A1e 9999 hu p q
theorem A8G (hu:P.underlying t=some .bool){p q:Bool}:Fj P .eql t x y (.bool p) (.bool q)=some (.bool (decide (p=q))):=by
 have:(p == q)=decide (p=q):=by cases p <;> cases q <;> rfl
 simp only[Fj,dflat,flat,eqGuard,binOp,Dk,Ey,Wq hu,Option.bind_some,keep,and_self,if_true,this,Bool.not_true,Bool.false_eq_true,if_false]
theorem A8H (hu:P.underlying t=some .bool){p q:Bool}:Fj P .neq t x y (.bool p) (.bool q)=some (.bool (decide (p≠q))):=by
 have:(!(p == q))=decide (p≠q):=by cases p <;> cases q <;> rfl
 simp only[Fj,dflat,flat,eqGuard,binOp,Dk,Ey,Wq hu,Option.bind_some,keep,and_self,if_true,this,Bool.not_true,Bool.false_eq_true,if_false]
theorem A5G:Yv P .neg (.int k a)=some (.int k (k.wrap (0-a))):=by simp[Yv,dflat,flat,Op.unary,Op.intArith,keep]
theorem A5H {p:Bool}:Yv P .not (.bool p)=some (.bool (!p)):=by simp[Yv,dflat,flat,Op.unary,keep]
theorem A8I:mmA P false #[.int k a,.int k b]=some (.int k (min a b)):=by
 have:min a b=if b<a then b else a:=by omega
 simp[mmA,dflat,flat,Builtin.min_,Builtin.min2,keep,this]
theorem A8J:mmA P true #[.int k a,.int k b]=some (.int k (max a b)):=by
 have:max a b=if b > a then b else a:=by omega
 simp[mmA,dflat,flat,Builtin.max_,Builtin.max2,keep,this]
end
section
variable {env:Bi} {t s:Nat} {v:Value}
theorem Nu:ev env (.tmp t)=env t:=rfl
theorem A8K:ev env (.const v)=v:=rfl
theorem B1p {f:FuncId}:ev env (.func f)=.func (.func f) #[] #[]:=rfl
theorem A2D:env.set (some t) v=env.put t v:=rfl
theorem A8L:env.set none v=env:=rfl
theorem B3w (h:s≠t):env.put t v s=env s:=by simp[Bi.put,h]
theorem B3x:env.put t v s=if s=t then v else env s:=rfl
end
def Aa.upd (H:Aa)(n b:Nat)(o:Dd):Aa:=⟨n,fun c=>if c=b then o else H.get c⟩
def rdO (o:Dd):Option (List Value):=match o with
 | .cells c _ .ro|.cells c _ .ex|.cells c _ (.gr _ _ true)=>some c
 | _=>none
section
variable {H:Aa} {n b c:Nat} {o:Dd}
theorem Nc:H.alloc o=H.upd (H.n+1) H.n o:=rfl
theorem B1q:H.put b o=H.upd H.n b o:=rfl
theorem B41 {l:List Value}{T:TypeId}:H.wr .ex b o=H.upd H.n b o:=rfl
theorem Ao:(H.upd n b o).n=n:=rfl
theorem A1f {m:Nat}{o':Dd}:(H.upd n b o).upd m b o'=H.upd m b o':=by
 unfold Aa.upd
 congr 1
 funext c
 by_cases h:c=b <;> simp[h]
theorem Ch:(H.upd n b o).get b=o:=by simp[Aa.upd]
theorem Cr (h:c≠b):(H.upd n b o).get c=H.get c:=by simp[Aa.upd,h]
theorem Bf:H.rd b=rdO (H.get b):=rfl
theorem O4:(H.upd n b o).rd b=rdO o:=by simp[Bf,Ch]
theorem A6Z (h:c≠b):(H.upd n b o).rd c=H.rd c:=by simp[Bf,Cr h]
theorem A4j {l:List Value}{T:TypeId}:rdO (.cells l T .ex)=some l:=rfl
theorem A8M {l:List Value}{T:TypeId}:rdO (.cells l T .ro)=some l:=rfl
theorem A8N {l:List Value}{T:TypeId}{g e:Nat}:rdO (.cells l T (.gr g e true))=some l:=rfl
end
section
variable {P:Program} {t:TypeId} {H:Aa} {b o:Nat} {c:List Value}
def at1 (c:List Value)(o:Nat):Option Value:=c[o]?
def atN (c:List Value)(o s:Nat):Option Value:=if o+s≤c.length then some (.agg ((c.drop o).take s).toArray) else none
theorem load1 (ht:Em P t=some false)(x:Option (List Value))(h:H.rd b=x):Ei P t H (Bc b o)=x.bind fun c=>at1 c o:=by
 unfold Ei Bc
 simp only[h,ht]
 cases x <;> rfl
theorem loadN {s:Nat}(ht:Em P t=some true)(hs:Bv P t=some s)(x:Option (List Value))(h:H.rd b=x):Ei P t H (Bc b o)=x.bind fun c=>atN c o s:=by
 unfold Ei Bc
 simp only[h,ht,hs]
 cases x <;> rfl
end
section
variable {P:Program} {t e:TypeId} {H:Aa} {b o n c:Nat} {k:IntKind} {i:Int} {x:Value}
def Mg (H:Aa)(b o s:Nat)(x:Value)(ob:Dd):Option Aa:=match ob with
 | .cells c T k=>if Eo x=true∧x.cells.size=s∧o+s≤c.length∧k.live=true then (match k with|.ro=>none|_=>some (H.wr k b (.cells (splice c o x.cells.toList) T k))) else none
 | _=>none
theorem Ef {s:Nat}(hs:Bv P t=some s):D4 P t H (Bc b o) x=Mg H b o s x (H.get b):=by
 unfold D4 Bc Mg
 simp only[hs]
 cases H.get b <;> rfl
theorem A1g {l:List Value}{T:TypeId}{s:Nat}:Mg H b o s x (.cells l T .ex)=if Eo x=true∧x.cells.size=s∧o+s≤l.length then some (H.upd H.n b (.cells (splice l o x.cells.toList) T .ex)) else none:=by
 simp only[Mg,Kd.live,and_true,B41 (l:=l) (T:=T)]
theorem Nv {l:List Value}{T:TypeId}(hx:x.cells = #[x])(hn:Eo x=true)(ho:o<l.length):Mg H b o 1 x (.cells l T .ex)=some (H.upd H.n b (.cells (l.set o x) T .ex)):=by
 rw[A1g,if_pos ⟨hn,by rw[hx];rfl,ho⟩]
 have:splice l o x.cells.toList=l.set o x:=by
  rw[hx,List.set_eq_take_append_cons_drop,if_pos ho]
  simp[splice]
 rw[this]
theorem A1h {l:List Value}{T:TypeId}{q:IntKind}{z:Int}(ho:o<l.length):Mg H b o 1 (.int q z) (.cells l T .ex)=some (H.upd H.n b (.cells (l.set o (.int q z)) T .ex)):=Nv rfl rfl ho
theorem A8O {l:List Value}{T:TypeId}{q:Bool}(ho:o<l.length):Mg H b o 1 (.bool q) (.cells l T .ex)=some (H.upd H.n b (.cells (l.set o (.bool q)) T .ex)):=Nv rfl rfl ho
theorem Zm {l:List Value}{T:TypeId}{a:Option Addr}{q r:Nat}(ho:o<l.length):Mg H b o 1 (.slice a q r) (.cells l T .ex)=some (H.upd H.n b (.cells (l.set o (.slice a q r)) T .ex)):=Nv rfl rfl ho
theorem B1r {l:List Value}{T:TypeId}{a:Option Addr}(ho:o<l.length):Mg H b o 1 (.pointer a) (.cells l T .ex)=some (H.upd H.n b (.cells (l.set o (.pointer a)) T .ex)):=Nv rfl rfl ho
theorem A8P {l:List Value}{T:TypeId}{f:Fn}{q r:Array Value}(ho:o<l.length):Mg H b o 1 (.func f q r) (.cells l T .ex)=some (H.upd H.n b (.cells (l.set o (.func f q r)) T .ex)):=Nv rfl rfl ho
theorem B1s {l:List Value}{T:TypeId}{q:Option Nat}(ho:o<l.length):Mg H b o 1 (.map q) (.cells l T .ex)=some (H.upd H.n b (.cells (l.set o (.map q)) T .ex)):=Nv rfl rfl ho
theorem A4k {l:List Value}{T:TypeId}{q:ByteArray}(ho:o<l.length):Mg H b o 1 (.string q) (.cells l T .ex)=some (H.upd H.n b (.cells (l.set o (.string q)) T .ex)):=Nv rfl rfl ho
theorem B1t {l:List Value}{T:TypeId}{s:Nat}(hn:Eo x=true)(hs:x.cells.size=s)(hl:l.length=s):Mg H b 0 s x (.cells l T .ex)=some (H.upd H.n b (.cells x.cells.toList T .ex)):=by
 rw[A1g,if_pos ⟨hn,hs,by omega⟩]
 have:splice l 0 x.cells.toList=x.cells.toList:=by
  simp[splice]
  omega
 rw[this]
theorem Nw {l l':List Value}{T:TypeId}{s:Nat}(hs:l'.length=s)(hl:l.length=s):Mg H b 0 s (.agg l'.toArray) (.cells l T .ex)=some (H.upd H.n b (.cells l' T .ex)):=by
 rw[B1t rfl (by simpa [Value.cells] using hs) hl]
 rfl
theorem F8 {z:Value}(hz:Dm P t=some z)(hd:dflat z=true):Fd P t H=some (Bc H.n 0,H.upd (H.n+1) H.n (.cells z.cells.toList t .ex)):=by
 unfold Fd
 simp only[hz,hd,if_true,Nc]
theorem B3z:Ym t H x=if Eo x=true then some (Bc H.n 0,H.upd (H.n+1) H.n (.cells x.cells.toList t .ex)) else none:=rfl
theorem By {fs:Array Field}{f:Nat}{fd:Field}{sz:Nat}(hu:P.underlying t=some (.struct fs))(hf:fs[f]? = some fd)(hz:Bv P fd.type=some sz)(h0:sz≠0){off:Nat}(ho:fd.offset=off) :
  B0 P t (Bc b o) f=some (Bc b (o+off)):=by
 unfold B0 Bc
 simp only[hu,hf,hz,h0,if_false,ho]
theorem Zn {fs:Array Field}{f:Nat}{fd:Field}{cs:Array Value}(hu:P.underlying t=some (.struct fs))(hf:fs[f]? = some fd)(ha:Em P fd.type=some false){sz:Nat}(hz:Bv P fd.type=some sz){off:Nat}(ho:fd.offset=off) :
  Ow P t (.agg cs) f=at1 cs.toList off:=by
 unfold Ow A2f at1
 simp only[hu,hf,ha,hz,ho]
theorem O5 {len:Nat}{s:Nat}(hu:P.underlying t=some (.array len e))(hs:Bv P e=some s)(h0:0≤i)(h1:i<len):Ca P t (Bc b o) (.int k i)=some (Bc b (o+i.toNat*s)):=by
 unfold Ca Bc
 simp only[hu,hs,h0,h1,and_self,if_true]
theorem Ds {s:Nat}(hu:P.underlying t=some (.slice e))(hs:Bv P e=some s)(h0:0≤i)(h1:i<n):Ca P t (.slice (some ⟨b,o,none⟩) n c) (.int k i)=some (Bc b (o+i.toNat*s)):=by
 unfold Ca
 simp only[hu,hs,h0,h1,and_self,if_true]
theorem K9 {a:Option Addr}(hu:P.underlying t=some (.slice e)):lenV P t (.slice a n c) H=some (.int .i64 n):=by
 unfold lenV A32
 simp only[hu]
end
theorem Fq {c:List Value}{n:Nat}(h:c.length=n):atN c 0 n=some (.agg c.toArray):=by
 simp[atN,← h]
theorem H4 {x:Int}(h1:-9223372036854775808≤x)(h2:x<9223372036854775808):IntKind.i64.wrap x=x:=by
 show (if (true && decide (x % (2 ^ 64:Int) ≥ (2 ^ 63:Int)))=true then x % (2 ^ 64:Int)-(2 ^ 64:Int) else x % (2 ^ 64:Int))=x
 simp only[Bool.true_and,decide_eq_true_eq]
 split <;> omega
theorem Zo {k:IntKind}{n:Int}:(Value.int k n).cells = #[.int k n]:=rfl
theorem Wr {b:Bool}:(Value.bool b).cells = #[.bool b]:=rfl
theorem Zp {a:Array Value}:(Value.agg a).cells=a:=rfl
theorem Up {a:Option Addr}{n c:Nat}:(Value.slice a n c).cells = #[.slice a n c]:=rfl
theorem Zq {a:Option Addr}:(Value.pointer a).cells = #[.pointer a]:=rfl
theorem Zr {r:Option Nat}:(Value.map r).cells = #[.map r]:=rfl
theorem Ws {f:Fn}{a c:Array Value}:(Value.func f a c).cells = #[.func f a c]:=rfl
theorem Rx {s:ByteArray}:(Value.string s).cells = #[.string s]:=rfl
theorem A8Q {k:IntKind}{n:Int}:Eo (.int k n)=true:=rfl
theorem A5I {b:Bool}:Eo (.bool b)=true:=rfl
theorem A8R {a:Array Value}:Eo (.agg a)=true:=rfl
theorem A2E {a:Option Addr}{n c:Nat}:Eo (.slice a n c)=true:=rfl
theorem A8S {a:Option Addr}:Eo (.pointer a)=true:=rfl
theorem A8T {r:Option Nat}:Eo (.map r)=true:=rfl
theorem A5J {f:Fn}{a c:Array Value}:Eo (.func f a c)=true:=rfl
theorem Zs {s:ByteArray}:Eo (.string s)=true:=rfl
def zs (n:Nat):List Value:=List.replicate n (.int .i64 0)
theorem Dv (n:Nat):(zs n).length=n:=by simp[zs]
def C4 (v:Value):Nat:=match v with|.slice (some a) _ _=>a.block|_=>0
def Gy (v:Value):Nat:=match v with|.slice (some a) _ _=>a.off|_=>0
structure SR (H:Aa)(s n:Nat)(v:Value)(c:List Value):Prop where
 shape:(v=.slice none 0 0∧n=0)∨∃ b o k,v=.slice (some ⟨b,o,none⟩) n k∧n≤k
 len:c.length=n*s
 cells:n=0∨∃ d,H.rd (C4 v)=some d∧Gy v+n*s≤d.length∧(d.drop (Gy v)).take (n*s)=c
 lt:n=0∨C4 v<H.n
theorem SR.vcells {H:Aa}{s n:Nat}{v:Value}{c:List Value}(h:SR H s n v c):v.cells = #[v]:=by
 rcases h.shape with⟨rfl,_⟩|⟨b,o,k,rfl,_⟩ <;> rfl
theorem SR.nt {H:Aa}{s n:Nat}{v:Value}{c:List Value}(h:SR H s n v c):Eo v=true:=by
 rcases h.shape with⟨rfl,_⟩|⟨b,o,k,rfl,_⟩ <;> rfl
theorem SR.indexAddr {P:Program}{t e:TypeId}{H:Aa}{s n:Nat}{v:Value}{c:List Value}(h:SR H s n v c)(hu:P.underlying t=some (.slice e))(hs:Bv P e=some s){k:IntKind}{i:Int}(h0:0≤i)(h1:i<n) :
  Ca P t v (.int k i)=some (Bc (C4 v) (Gy v+i.toNat*s)):=by
 rcases h.shape with⟨rfl,rfl⟩|⟨b,o,k,rfl,_⟩
 ·omega
 ·exact Ds hu hs h0 h1
theorem SR.lenV {P:Program}{t e:TypeId}{H H':Aa}{s n:Nat}{v:Value}{c:List Value}(h:SR H s n v c)(hu:P.underlying t=some (.slice e)):lenV P t v H'=some (.int .i64 n):=by
 rcases h.shape with⟨rfl,rfl⟩|⟨b,o,k,rfl,_⟩ <;> exact K9 hu
theorem SR.at1 {H:Aa}{s n:Nat}{v:Value}{c:List Value}(h:SR H s n v c){j:Nat}(hj:j<n*s):∃ d,H.rd (C4 v)=some d∧Swa.at1 d (Gy v+j)=c[j]?:=by
 rcases h.cells with rfl|⟨d,h1,h2,h3⟩
 ·simp at hj
 ·refine⟨d,h1, ?_⟩
  subst h3
  unfold Swa.at1
  rw[List.getElem?_take_of_lt hj,List.getElem?_drop]
def Yl (H:Aa)(v:Value):List Value:=(H.rd (C4 v)).getD []
theorem SR.rd {H:Aa}{s n:Nat}{v:Value}{c:List Value}(h:SR H s n v c)(hn:n≠0):H.rd (C4 v)=some (Yl H v):=by
 rcases h.cells with rfl|⟨d,h1,_⟩
 ·exact absurd rfl hn
 ·rw[Yl,h1];rfl
theorem SR.at {H:Aa}{s n:Nat}{v:Value}{c:List Value}(h:SR H s n v c){j:Nat}(hj:j<n*s):Swa.at1 (Yl H v) (Gy v+j)=c[j]?:=by
 obtain⟨d,h1,h2⟩:=h.at1 hj
 rw[Yl,h1]
 exact h2
theorem SR.atN {H:Aa}{s n:Nat}{v:Value}{c:List Value}(h:SR H s n v c){j z:Nat}(hj:j+z≤n*s)(hn:n≠0):Swa.atN (Yl H v) (Gy v+j) z=some (.agg ((c.drop j).take z).toArray):=by
 rcases h.cells with rfl|⟨d,h1,h2,h3⟩
 ·exact absurd rfl hn
 ·have:Yl H v=d:=by rw[Yl,h1];rfl
  rw[this,Swa.atN,if_pos (by omega)]
  subst h3
  rw[List.drop_take,List.take_take,List.drop_drop,Nat.min_eq_left (by omega)]
theorem Wt {α:Type}{enc:α→List Value}{s:Nat}(hs:∀ a,(enc a).length=s)(l:List α):(l.flatMap enc).length=l.length*s:=by
 induction l with
 | nil=>simp
 | cons a l ih=>simp[List.flatMap_cons,hs,ih,Nat.add_mul];omega
theorem P5 {α:Type} [Inhabited α] {enc:α→List Value}{s:Nat}(hs:∀ a,(enc a).length=s):∀ (l:List α)(i:Nat),i<l.length→∃ r,(l.flatMap enc).drop (i*s)=enc (l.getD i default) ++ r
 | [],i,h=>by simp at h
 | a :: l,0,_=>⟨l.flatMap enc,by simp[List.flatMap_cons]⟩
 | a :: l,i+1,h=>by
  obtain⟨r,hr⟩:=P5 hs l i (by simpa using h)
  refine⟨r, ?_⟩
  rw[List.flatMap_cons,Nat.add_mul,Nat.add_comm,Nat.one_mul,← List.drop_drop]
  have:(enc a ++ l.flatMap enc).drop s=l.flatMap enc:=by rw[List.drop_append_of_le_length (by rw[hs];omega)];simp[hs]
  rw[this,hr]
  simp
theorem A5K {α:Type} [Inhabited α] {enc:α→List Value}{s:Nat}(hs:∀ a,(enc a).length=s){l:List α}{i k:Nat}(hi:i<l.length)(hk:k<s):(l.flatMap enc)[i*s+k]? = (enc (l.getD i default))[k]?:=by
 obtain⟨r,hr⟩:=P5 hs l i hi
 rw[← List.getElem?_drop,hr,List.getElem?_append_left (by rw[hs];exact hk)]
theorem A60 {α:Type} [Inhabited α] {enc:α→List Value}{s:Nat}(hs:∀ a,(enc a).length=s){l:List α}{i k z:Nat}(hi:i<l.length)(hk:k+z≤s):((l.flatMap enc).drop (i*s+k)).take z=((enc (l.getD i default)).drop k).take z:=by
 obtain⟨r,hr⟩:=P5 hs l i hi
 rw[← List.drop_drop,hr,List.drop_append_of_le_length (by rw[hs];omega),List.take_append_of_le_length (by simp[hs];omega)]
theorem A8U {α:Type} [Inhabited α] {enc:α→List Value}{s:Nat}(hs:∀ a,(enc a).length=s){l:List α}{i:Nat}(hi:i<l.length):((l.flatMap enc).drop (i*s)).take s=enc (l.getD i default):=by
 obtain⟨r,hr⟩:=P5 hs l i hi
 rw[hr,List.take_append_of_le_length (by rw[hs];omega),List.take_of_length_le (by rw[hs];omega)]
section
variable {P:Program} {Or:Li} {ng:Nat}
@[reducible] def B6M (P:Program) (fn:Func) (R:Value→Aa→Prop):I0:=fun x e h=>(x=.normal∨x=.ret)∧oV (Er P fn e h) fun v=>R v h
theorem Cl.ofW {f : FuncId} {args : Array Value} {H : Aa} {fn : Func} {c : Code} {R : Value → Aa → Prop} (e1 : P.funcs[f]? = some fn) (e2 : fn.body = some c) (e4 : (fn.name == "runtime.NumGoroutine") = false)
  (e3:args.size≤fn.ntmps)(hok:Do ng fn.ntmps c=true)(h:W P (Cl P Or ng) ng fn.ntmps c (K8 args) H (B6M P fn R)):∃ v H',Cl P Or ng (.fn f) args H v H'∧R v H':=by
 obtain⟨x,e,h',r,hx,hv⟩:=h
 cases hq:Er P fn e h' with
 | none=>rw[hq]at hv;exact hv.elim
 | some v=>rw[hq]at hv;exact⟨v,h',Cl.fn e1 e2 e4 e3 hok r hx hq,hv⟩
theorem B3A {fn:Func}{e:Bi}{h:Aa}(hr:fn.results = #[]):Er P fn e h=some (.tuple #[]):=by simp[Er,hr]
theorem Ec {fn:Func}{e:Bi}{h:Aa}{r:ResultVar}(hr:fn.results = #[r]):Er P fn e h=Gl P e h r:=by
 unfold Er
 simp only[hr,List.mapM_cons,List.mapM_nil]
 cases Gl P e h r <;> rfl
theorem Nd {fn:Func}{e:Bi}{h:Aa}{r s:ResultVar}(hr:fn.results = #[r,s]):Er P fn e h=(Gl P e h r).bind fun a=>(Gl P e h s).map fun b=>.tuple #[a,b]:=by
 unfold Er
 simp only[hr,List.mapM_cons,List.mapM_nil]
 cases Gl P e h r <;> cases Gl P e h s <;> rfl
theorem B1u {fn:Func}{e:Bi}{h:Aa}{r s t:ResultVar}(hr:fn.results = #[r,s,t]):Er P fn e h=(Gl P e h r).bind fun a=>(Gl P e h s).bind fun b=>(Gl P e h t).map fun c=>.tuple #[a,b,c]:=by
 unfold Er
 simp only[hr,List.mapM_cons,List.mapM_nil]
 cases Gl P e h r <;> cases Gl P e h s <;> cases Gl P e h t <;> rfl
theorem Bo {e:Bi}{h:Aa}{t:Tmp}:Gl P e h (.tmp t)=some (e t):=rfl
theorem Bg {e:Bi}{h:Aa}{a:Tmp}{t:TypeId}:Gl P e h (.cell a t)=Ei P t h (e a):=rfl
theorem B1v {a:Value}{l:List Value}:K8 ⟨a :: l⟩ 0=a:=rfl
theorem B1w {a:Value}{l:List Value}{n:Nat}:K8 ⟨a :: l⟩ (n+1)=K8 ⟨l⟩ n:=by
 simp[K8,Array.getD]
end
theorem Ac {x:Option Value}{v:Value}{k:Value→Prop}(h:x=some v)(hk:k v):oV x k:=by rw[h];exact hk
theorem Ak {x:Option (Value×Aa)}{v:Value}{h':Aa}{k:Value→Aa→Prop}(h:x=some (v,h'))(hk:k v h'):oB x k:=by rw[h];exact hk
theorem Al {x:Option Aa}{h':Aa}{k:Aa→Prop}(h:x=some h')(hk:k h'):oH x k:=by rw[h];exact hk
section
variable {P:Program} {C:Bk} {ops:Array Oper} {os:List Oper} {K:Bi→Aa→Prop} {env:Bi} {H:Aa} {dst:Option Tmp} {ty:TypeId} {pos:String} {aft:Array Edge}
theorem A8V {g:FuncId}{first cap args:Array Value}{v:Value}{H':Aa}:Gj C (.func (.func g) first cap) args H v H'=C (.fn g) (first ++ args ++ cap) H v H':=rfl
theorem A2F {l:Nat}{first cap args:Array Value}{v:Value}{H':Aa}:Gj C (.func (.yield l) first cap) args H v H'=C (.yield l) (first ++ args) H v H':=rfl
theorem A2G {f:Operand}{args:Array Operand}{ts:Array TypeId}{R:Value→Aa→Prop}(h:∃ v H',Gj C (ev env f) (args.map (ev env)) H v H'∧R v H')(k:∀ v H',R v H'→WO P C ops os K (env.set dst v) H') :
  WO P C ops (⟨dst,.call ⟨.value f,args,ts⟩,ty,pos,aft,none⟩ :: os) K env H:=by
 obtain⟨v,H1,h1,h2⟩:=h
 exact P4 h1 (k v H1 h2)
variable {op:Op} {j:Nat}
theorem Ny {d:Tmp}{t:Bool}(hd:(ops[j]?).bind (·.dst)=some d)(hv:env d=.bool t):Dg ops env j=some t:=by
 unfold Dg
 rw[hd]
 simp only[hv]
theorem Br {d:Tmp}{t:Bool}(hd:(ops[j]?).bind (·.dst)=some d)(hv:env d=.bool t)(h1:t=true→WO P C ops (⟨dst,op,ty,pos,aft,none⟩ :: os) K env H)(h2:t=false→WO P C ops os K (env.set dst undef) H) :
  WO P C ops (⟨dst,op,ty,pos,aft,some (j,true)⟩ :: os) K env H:=A6U (Ny hd hv) h1 h2
theorem Bt {d:Tmp}{t:Bool}(hd:(ops[j]?).bind (·.dst)=some d)(hv:env d=.bool t)(h1:t=false→WO P C ops (⟨dst,op,ty,pos,aft,none⟩ :: os) K env H)(h2:t=true→WO P C ops os K (env.set dst undef) H) :
  WO P C ops (⟨dst,op,ty,pos,aft,some (j,false)⟩ :: os) K env H:=A6V (Ny hd hv) h1 h2
end
def O6 (ops:Array Oper)(k:Nat)(H H':Aa):List (Nat×Nat)→Prop
 | []=>True
 | r :: rs=>(Gh ops r.1 k=true∨H'.get r.2=H.get r.2)∧O6 ops k H H' rs
def Vk (ops:Array Oper)(k b:Nat):List (Nat×Aa×Aa)→Prop
 | []=>True
 | a :: as=>(Gh ops a.1 k=true∨a.2.2.get b=a.2.1.get b)∧Vk ops k b as
def Mh (ops:Array Oper)(k:Nat)(o:Option Nat)(as:List (Nat×Aa×Aa)):Prop:=match o with|some b=>Vk ops k b as|none=>True
def O7 (k:Nat)(o:Option Nat)(rs:List (Nat×Nat)):List (Nat×Nat):=match o with|some b=>(k,b) :: rs|none=>rs
def tch (ops:Array Oper)(env:Bi)(H:Aa)(o:Oper):Option Nat:=if Region.wanted o (Dg ops env)=true then Fw env H o.op else none
def WD (P:Program)(C:Bk)(ops:Array Oper):List Oper→Nat→List (Nat×Nat)→List (Nat×Aa×Aa)→(Bi→Aa→Prop)→Bi→Aa→Prop
 | [],_,_,_,K,env,H=>K env H
 | o :: os,k,rs,as,K,env,H =>
  if Bw o.op=true then Mh ops k (tch ops env H o) as∧WO P C ops [o] (fun e h=>WD P C ops os (k+1) (O7 k (tch ops env H o) rs) as K e h) env H
  else WO P C ops [o] (fun e h=>O6 ops k H h rs∧WD P C ops os (k+1) rs ((k,H,h) :: as) K e h) env H
theorem A2H {ops:Array Oper}{k:Nat}{H H':Aa}:∀ {rs:List (Nat×Nat)},O6 ops k H H' rs→∀ r,r∈rs→Gh ops r.1 k=true∨H'.get r.2=H.get r.2
 | [],_,r,h=>by simp at h
 | a :: rs,h,r,hr=>by
  rcases List.mem_cons.1 hr with rfl|hr
  ·exact h.1
  ·exact A2H h.2 r hr
theorem Wu {ops:Array Oper}{k b:Nat}:∀ {as:List (Nat×Aa×Aa)},Vk ops k b as→∀ a,a∈as→Gh ops a.1 k=true∨a.2.2.get b=a.2.1.get b
 | [],_,r,h=>by simp at h
 | a :: rs,h,r,hr=>by
  rcases List.mem_cons.1 hr with rfl|hr
  ·exact h.1
  ·exact Wu h.2 r hr
structure B6N (P:Program)(C:Bk)(ops:Array Oper)(k:Nat)(rs:List (Nat×Nat))(as:List (Nat×Aa×Aa))(E:Nat→Bi)(Hs:Nat→Aa):Prop where
 step:∀ i o,i<k→ops[i]? = some o→Gk P C ops o (E i) (Hs i) (E (i+1)) (Hs (i+1))
 rd:∀ i o b,i<k→ops[i]? = some o→Bw o.op=true→tch ops (E i) (Hs i) o=some b→(i,b)∈rs
 act:∀ i o,i<k→ops[i]? = some o→Bw o.op=false→(i,Hs i,Hs (i+1))∈as
 ni:∀ i j oi oj,i<k→j<k→ops[i]? = some oi→ops[j]? = some oj→Gh ops i j=false→Gh ops j i=false→Bw oi.op=true→Bw oj.op=false →
  ∀ b,tch ops (E i) (Hs i) oi=some b→(Hs (j+1)).get b=(Hs j).get b
theorem A4l {P:Program}{C:Bk}{ops:Array Oper}{K:Bi→Aa→Prop}:∀ (os:List Oper)(k:Nat)(rs:List (Nat×Nat))(as:List (Nat×Aa×Aa))(E:Nat→Bi)(Hs:Nat→Aa),
  ops.toList.drop k=os→k≤ops.size→B6N P C ops k rs as E Hs→WD P C ops os k rs as K (E k) (Hs k)→∃ env' H',I5 P C ops (E 0) (Hs 0) env' H'∧K env' H'
 | [],k,rs,as,E,Hs,hd,hk,hp,h=>by
  have hk2:k=ops.size:=by
   rw[List.drop_eq_nil_iff]at hd
   simp at hd
   omega
  subst hk2
  refine⟨E ops.size,Hs ops.size,⟨E,Hs,rfl,rfl,rfl,rfl,fun i o ho=>hp.step i o (Array.getElem?_eq_some_iff.1 ho).1 ho, ?_⟩,h⟩
  intro i j oi oj hi hj h1 h2 h3 h4 hw b hb
  refine hp.ni i j oi oj (Array.getElem?_eq_some_iff.1 hi).1 (Array.getElem?_eq_some_iff.1 hj).1 hi hj h1 h2 h3 h4 b ?_
  unfold tch
  rw[if_pos hw,hb]
 | o :: os,k,rs,as,E,Hs,hd,hk,hp,h=>by
  have hlt:k<ops.size:=by
   rcases Nat.lt_or_ge k ops.toList.length with q|q
   ·simpa using q
   ·rw[List.drop_eq_nil_iff.2 q]at hd;cases hd
  have hoo:ops[k]? = some o:=by
   have:=congrArg (·[0]?) hd
   simpa using this
  have hos:ops.toList.drop (k+1)=os:=by
   have:=congrArg List.tail hd
   simpa using this
  -- one more operation
  have next:∀ (rs':List (Nat×Nat)) (as':List (Nat×Aa×Aa)) (e1:Bi) (h1:Aa),Gk P C ops o (E k) (Hs k) e1 h1 →
    (∀ r,r∈rs→r∈rs')→(∀ a,a∈as→a∈as')→(Bw o.op=true→∀ b,tch ops (E k) (Hs k) o=some b→(k,b)∈rs')→(Bw o.op=false→(k,Hs k,h1)∈as') →
    (Bw o.op=true→Mh ops k (tch ops (E k) (Hs k) o) as)→(Bw o.op=false→O6 ops k (Hs k) h1 rs) →
    WD P C ops os (k+1) rs' as' K e1 h1→∃ env' H',I5 P C ops (E 0) (Hs 0) env' H'∧K env' H':=by
   intro rs' as' e1 h1 hst hrs has hr ha hob1 hob2 hw
   obtain⟨E',eqE,eqE1⟩:∃ E':Nat→Bi,(∀ i,i≤k→E' i=E i)∧E' (k+1)=e1:=⟨fun i=>if i≤k then E i else e1,fun i hi=>if_pos hi,if_neg (by omega)⟩
   obtain⟨Hs',eqH,eqH1⟩:∃ H':Nat→Aa,(∀ i,i≤k→H' i=Hs i)∧H' (k+1)=h1:=⟨fun i=>if i≤k then Hs i else h1,fun i hi=>if_pos hi,if_neg (by omega)⟩
   rw[← eqE 0 (by omega),← eqH 0 (by omega)]
   refine A4l os (k+1) rs' as' E' Hs' hos hlt ⟨?_, ?_, ?_, ?_⟩ (by rw[eqE1,eqH1];exact hw)
   ·intro i oi hi ho
    by_cases hik:i=k
    ·subst hik
     rw[hoo]at ho;cases ho
     rw[eqE i (Nat.le_refl _),eqH i (Nat.le_refl _),eqE1,eqH1]
     exact hst
    ·rw[eqE i (by omega),eqH i (by omega),eqE (i+1) (by omega),eqH (i+1) (by omega)]
     exact hp.step i oi (by omega) ho
   ·intro i oi b hi ho hs ht
    by_cases hik:i=k
    ·subst hik
     rw[hoo]at ho;cases ho
     rw[eqE i (Nat.le_refl _),eqH i (Nat.le_refl _)]at ht
     exact hr hs b ht
    ·rw[eqE i (by omega),eqH i (by omega)]at ht
     exact hrs _ (hp.rd i oi b (by omega) ho hs ht)
   ·intro i oi hi ho hs
    by_cases hik:i=k
    ·subst hik
     rw[hoo]at ho;cases ho
     rw[eqH i (Nat.le_refl _),eqH1]
     exact ha hs
    ·rw[eqH i (by omega),eqH (i+1) (by omega)]
     exact has _ (hp.act i oi (by omega) ho hs)
   ·intro i j oi oj hi hj hio hjo h1' h2' hsi hsj b ht
    by_cases hik:i=k
    ·subst hik
     rw[hoo]at hio;cases hio
     have hjk:j≠i:=fun e=>by subst e;rw[hoo]at hjo;cases hjo;rw[hsi]at hsj;cases hsj
     rw[eqE i (Nat.le_refl _),eqH i (Nat.le_refl _)]at ht
     have hob:=hob1 hsi
     rw[ht]at hob
     have:=Wu hob _ (hp.act j oj (by omega) hjo hsj)
     rw[eqH j (by omega),eqH (j+1) (by omega)]
     rcases this with q|q
     ·rw[h2']at q;cases q
     ·exact q
    ·rw[eqE i (by omega),eqH i (by omega)]at ht
     by_cases hjk:j=k
     ·subst hjk
      rw[hoo]at hjo;cases hjo
      have:=A2H (hob2 hsj) _ (hp.rd i oi b (by omega) hio hsi ht)
      rw[eqH j (Nat.le_refl _),eqH1]
      rcases this with q|q
      ·rw[h1']at q;cases q
      ·exact q
     ·rw[eqH j (by omega),eqH (j+1) (by omega)]
      exact hp.ni i j oi oj (by omega) (by omega) hio hjo h1' h2' hsi hsj b ht
  unfold WD at h
  split at h
  ·rename_i hs
   obtain⟨hob,e1,h1,⟨e2,h2,hst,rfl,rfl⟩,hw⟩:=h
   refine next _ as e1 h1 hst (fun r hr=>?_) (fun a ha=>ha) (fun _ b hb=>?_) (fun q=>by rw[hs]at q;cases q) (fun _=>hob) (fun q=>by rw[hs]at q;cases q) hw
   ·unfold O7
    split
    ·exact List.mem_cons_of_mem _ hr
    ·exact hr
   ·rw[hb];simp[O7]
  ·rename_i hs
   obtain⟨e1,h1,⟨e2,h2,hst,rfl,rfl⟩,hob,hw⟩:=h
   exact next rs _ e1 h1 hst (fun r hr=>hr) (fun a ha=>List.mem_cons_of_mem _ ha) (fun q=>absurd q hs) (fun _=>by simp) (fun q=>absurd q hs) (fun _=>hob) hw
theorem A5L {P:Program}{C:Bk}{ng nt:Nat}{id:Nat}{l:List Oper}{env:Bi}{H:Aa}{Q:I0}(h:∀ K:Bi→Aa→Prop,(∀ e h,Q .normal e h→K e h)→WD P C ⟨l⟩ l 0 [] [] K env H):W P C ng nt (.region id ⟨l⟩ true) env H Q:=by
 obtain⟨e,H',r,q⟩:=A4l l 0 [] [] (fun _=>env) (fun _=>H) rfl (Nat.zero_le _) ⟨fun i o hi=>absurd hi (by omega),fun i o b hi=>absurd hi (by omega),fun i o hi=>absurd hi (by omega),fun i j oi oj hi=>absurd hi (by omega)⟩ (h (fun e h=>Q .normal e h) fun _ _ h=>h)
 exact⟨_,e,H',.drawn r,q⟩
theorem Jb {P:Program}{C:Bk}{ops:Array Oper}{os:List Oper}{k:Nat}{rs:List (Nat×Nat)}{as:List (Nat×Aa×Aa)}{K:Bi→Aa→Prop}{rs':List (Nat×Nat)}{env env':Bi}{H H':Aa}(h1:rs=rs')(h:env=env')(h2:H=H'):WD P C ops os k rs as K env H=WD P C ops os k rs' as K env' H':=by rw[h1,h,h2]
def mapB (v:Value):Option Nat:=match some v with|some (.map r)=>r|_=>none
theorem A4m {a:Option Addr}{n c:Nat}:mapB (.slice a n c)=none:=rfl
theorem A2I {s:ByteArray}:mapB (.string s)=none:=rfl
theorem A8W {r:Option Nat}:mapB (.map r)=r:=rfl
theorem SR.mapB {H:Aa}{s n:Nat}{v:Value}{c:List Value}(h:SR H s n v c):mapB v=none:=by
 rcases h.shape with⟨rfl,_⟩|⟨b,o,k,rfl,_⟩ <;> rfl
theorem A61 {b o:Nat}:Kb (Bc b o)=some b:=rfl
theorem A2J {b o n c:Nat}:Kb (.slice (some ⟨b,o,none⟩) n c)=some b:=rfl
theorem A62 {n c:Nat}:Kb (.slice none n c)=none:=rfl
theorem A63 {r:Option Nat}:Kb (.map r)=r:=rfl
theorem A64 {ops:Array Oper}{k:Nat}{as:List (Nat×Aa×Aa)}:Mh ops k none as=True:=rfl
theorem A8X {ops:Array Oper}{k:Nat}{o:Option Nat}:Mh ops k o []=True:=by cases o <;> rfl
theorem A65 {ops:Array Oper}{k b:Nat}{a:Nat×Aa×Aa}{as:List (Nat×Aa×Aa)}:Mh ops k (some b) (a :: as)=Vk ops k b (a :: as):=rfl
theorem A8Y {ops:Array Oper}{k b:Nat}:Vk ops k b []=True:=rfl
theorem A8Z {ops:Array Oper}{k:Nat}{H H':Aa}:O6 ops k H H' []=True:=rfl
theorem A80 {k b:Nat}{rs:List (Nat×Nat)}:O7 k (some b) rs=(k,b) :: rs:=rfl
theorem A81 {k:Nat}{rs:List (Nat×Nat)}:O7 k none rs=rs:=rfl
theorem Hl {ops:Array Oper}{k:Nat}{o o':Option Nat}{as:List (Nat×Aa×Aa)}(h:o=o'):Mh ops k o as=Mh ops k o' as:=by rw[h]
theorem Hm {ops:Array Oper}{k b:Nat}{as:List (Nat×Aa×Aa)}:Vk ops k b as=Vk ops k b as:=rfl
theorem Hn {ops:Array Oper}{k:Nat}{H H':Aa}{rs:List (Nat×Nat)}:O6 ops k H H' rs=O6 ops k H H' rs:=rfl
section
variable {P:Program} {C:Bk} {ops:Array Oper} {os:List Oper} {K:Bi→Aa→Prop} {env:Bi} {H:Aa} {dst:Option Tmp} {ty:TypeId} {pos:String} {aft:Array Edge} {k:Nat} {rs:List (Nat×Nat)} {as:List (Nat×Aa×Aa)} {op:Op}
theorem B3B:WD P C ops [] k rs as K env H=K env H:=rfl
theorem Qe (hs:Bw op=true)(ht:∀ e h,Fw e h op=none):WD P C ops (⟨dst,op,ty,pos,aft,none⟩ :: os) k rs as K env H=WO P C ops [⟨dst,op,ty,pos,aft,none⟩] (fun e h=>WD P C ops os (k+1) rs as K e h) env H:=by
 have h1:tch ops env H ⟨dst,op,ty,pos,aft,none⟩=none:=by simp[tch,ht]
 conv=>lhs;unfold WD
 simp only[hs,if_true,h1,Mh,O7,true_and]
theorem A1j (hs:Bw op=true):WD P C ops (⟨dst,op,ty,pos,aft,none⟩ :: os) k rs as K env H=(Mh ops k (Fw env H op) as∧WO P C ops [⟨dst,op,ty,pos,aft,none⟩] (fun e h=>WD P C ops os (k+1) (O7 k (Fw env H op) rs) as K e h) env H):=by
 have h1:tch ops env H ⟨dst,op,ty,pos,aft,none⟩=Fw env H op:=by simp[tch,Region.wanted]
 conv=>lhs;unfold WD
 simp only[hs,if_true,h1]
theorem B1x (hs:Bw op=false){g:Option (Nat×Bool)}:WD P C ops (⟨dst,op,ty,pos,aft,g⟩ :: os) k rs as K env H=WO P C ops [⟨dst,op,ty,pos,aft,g⟩] (fun e h=>O6 ops k H h rs∧WD P C ops os (k+1) rs ((k,H,h) :: as) K e h) env H:=by
 conv=>lhs;unfold WD
 simp only[hs,if_false,Bool.false_eq_true]
theorem B1y (x:Operand):WD P C ops (⟨dst,.move x,ty,pos,aft,none⟩ :: os) k rs as K env H=WO P C ops [⟨dst,.move x,ty,pos,aft,none⟩] (fun e h=>WD P C ops os (k+1) rs as K e h) env H:=Qe rfl fun _ _=>rfl
theorem A66 (x:Operand):WD P C ops (⟨dst,.assign x,ty,pos,aft,none⟩ :: os) k rs as K env H=WO P C ops [⟨dst,.assign x,ty,pos,aft,none⟩] (fun e h=>WD P C ops os (k+1) rs as K e h) env H:=Qe rfl fun _ _=>rfl
theorem A82 (t:TypeId)(ps:Array (Nat×Operand)):WD P C ops (⟨dst,.build t ps,ty,pos,aft,none⟩ :: os) k rs as K env H=WO P C ops [⟨dst,.build t ps,ty,pos,aft,none⟩] (fun e h=>WD P C ops os (k+1) rs as K e h) env H:=Qe rfl fun _ _=>rfl
theorem A2K (x:Operand):WD P C ops (⟨dst,.nilCheck x,ty,pos,aft,none⟩ :: os) k rs as K env H=WO P C ops [⟨dst,.nilCheck x,ty,pos,aft,none⟩] (fun e h=>WD P C ops os (k+1) rs as K e h) env H:=Qe rfl fun _ _=>rfl
theorem A2L (f:FuncId)(a c:Array Operand):WD P C ops (⟨dst,.makeFunc (.func f) a c,ty,pos,aft,none⟩ :: os) k rs as K env H=WO P C ops [⟨dst,.makeFunc (.func f) a c,ty,pos,aft,none⟩] (fun e h=>WD P C ops os (k+1) rs as K e h) env H:=Qe rfl fun _ _=>rfl
theorem A1k (t:TypeId)(x:Operand)(f:Nat):WD P C ops (⟨dst,.fieldAddr t x f,ty,pos,aft,none⟩ :: os) k rs as K env H=WO P C ops [⟨dst,.fieldAddr t x f,ty,pos,aft,none⟩] (fun e h=>WD P C ops os (k+1) rs as K e h) env H:=Qe rfl fun _ _=>rfl
theorem A83 (t:TypeId)(x:Operand)(f:Nat):WD P C ops (⟨dst,.field t x f,ty,pos,aft,none⟩ :: os) k rs as K env H=WO P C ops [⟨dst,.field t x f,ty,pos,aft,none⟩] (fun e h=>WD P C ops os (k+1) rs as K e h) env H:=Qe rfl fun _ _=>rfl
theorem A1l (t:TypeId)(x i:Operand):WD P C ops (⟨dst,.indexAddr t x i,ty,pos,aft,none⟩ :: os) k rs as K env H=WO P C ops [⟨dst,.indexAddr t x i,ty,pos,aft,none⟩] (fun e h=>WD P C ops os (k+1) rs as K e h) env H:=Qe rfl fun _ _=>rfl
theorem A84 (t:TypeId)(x i:Operand):WD P C ops (⟨dst,.index t x i,ty,pos,aft,none⟩ :: os) k rs as K env H=WO P C ops [⟨dst,.index t x i,ty,pos,aft,none⟩] (fun e h=>WD P C ops os (k+1) rs as K e h) env H:=Qe rfl fun _ _=>rfl
theorem A4n (x:Operand)(i:Nat):WD P C ops (⟨dst,.extract x i,ty,pos,aft,none⟩ :: os) k rs as K env H=WO P C ops [⟨dst,.extract x i,ty,pos,aft,none⟩] (fun e h=>WD P C ops os (k+1) rs as K e h) env H:=Qe rfl fun _ _=>rfl
theorem A85 (o:BinOp)(t:TypeId)(x y:Operand)(yt:TypeId):WD P C ops (⟨dst,.binOp o t x y yt,ty,pos,aft,none⟩ :: os) k rs as K env H=WO P C ops [⟨dst,.binOp o t x y yt,ty,pos,aft,none⟩] (fun e h=>WD P C ops os (k+1) rs as K e h) env H:=Qe rfl fun _ _=>rfl
theorem B1z (o:UnOp)(t:TypeId)(x:Operand):WD P C ops (⟨dst,.unOp o t x,ty,pos,aft,none⟩ :: os) k rs as K env H=WO P C ops [⟨dst,.unOp o t x,ty,pos,aft,none⟩] (fun e h=>WD P C ops os (k+1) rs as K e h) env H:=Qe rfl fun _ _=>rfl
theorem A4o (s d:TypeId)(x:Operand):WD P C ops (⟨dst,.convert s d x,ty,pos,aft,none⟩ :: os) k rs as K env H=WO P C ops [⟨dst,.convert s d x,ty,pos,aft,none⟩] (fun e h=>WD P C ops os (k+1) rs as K e h) env H:=Qe rfl fun _ _=>rfl
theorem B1A (c a b:Operand):WD P C ops (⟨dst,.pick c a b,ty,pos,aft,none⟩ :: os) k rs as K env H=WO P C ops [⟨dst,.pick c a b,ty,pos,aft,none⟩] (fun e h=>WD P C ops os (k+1) rs as K e h) env H:=Qe rfl fun _ _=>rfl
theorem B3C (args:Array Operand)(ts:Array TypeId):WD P C ops (⟨dst,.call ⟨.builtin .min,args,ts⟩,ty,pos,aft,none⟩ :: os) k rs as K env H=WO P C ops [⟨dst,.call ⟨.builtin .min,args,ts⟩,ty,pos,aft,none⟩] (fun e h=>WD P C ops os (k+1) rs as K e h) env H:=Qe rfl fun _ _=>rfl
theorem B3D (args:Array Operand)(ts:Array TypeId):WD P C ops (⟨dst,.call ⟨.builtin .max,args,ts⟩,ty,pos,aft,none⟩ :: os) k rs as K env H=WO P C ops [⟨dst,.call ⟨.builtin .max,args,ts⟩,ty,pos,aft,none⟩] (fun e h=>WD P C ops os (k+1) rs as K e h) env H:=Qe rfl fun _ _=>rfl
theorem B1B (t:TypeId)(x:Operand):WD P C ops (⟨dst,.load t x,ty,pos,aft,none⟩ :: os) k rs as K env H=(Mh ops k (Kb (ev env x)) as∧WO P C ops [⟨dst,.load t x,ty,pos,aft,none⟩] (fun e h=>WD P C ops os (k+1) (O7 k (Kb (ev env x)) rs) as K e h) env H):=A1j rfl
theorem B1C (t:TypeId)(x:Operand):WD P C ops (⟨dst,.call ⟨.builtin .len,#[x],#[t]⟩,ty,pos,aft,none⟩ :: os) k rs as K env H=(Mh ops k (mapB (ev env x)) as∧WO P C ops [⟨dst,.call ⟨.builtin .len,#[x],#[t]⟩,ty,pos,aft,none⟩] (fun e h=>WD P C ops os (k+1) (O7 k (mapB (ev env x)) rs) as K e h) env H):=A1j rfl
theorem A86 (t:TypeId):WD P C ops (⟨dst,.alloc t,ty,pos,aft,none⟩ :: os) k rs as K env H=(Mh ops k (some H.n) as∧WO P C ops [⟨dst,.alloc t,ty,pos,aft,none⟩] (fun e h=>WD P C ops os (k+1) (O7 k (some H.n) rs) as K e h) env H):=A1j rfl
theorem B3E (t:TypeId)(x:Operand):WD P C ops (⟨dst,.box t x,ty,pos,aft,none⟩ :: os) k rs as K env H=(Mh ops k (some H.n) as∧WO P C ops [⟨dst,.box t x,ty,pos,aft,none⟩] (fun e h=>WD P C ops os (k+1) (O7 k (some H.n) rs) as K e h) env H):=A1j rfl
theorem Yw (t:TypeId)(n:Nat)(ps:Array (Nat×Operand)):WD P C ops (⟨dst,.buildSlice t n ps,ty,pos,aft,none⟩ :: os) k rs as K env H=(Mh ops k (some H.n) as∧WO P C ops [⟨dst,.buildSlice t n ps,ty,pos,aft,none⟩] (fun e h=>WD P C ops os (k+1) (O7 k (some H.n) rs) as K e h) env H):=A1j rfl
theorem A1m (t:TypeId)(l c:Operand):WD P C ops (⟨dst,.makeSlice t l c,ty,pos,aft,none⟩ :: os) k rs as K env H=(Mh ops k (some H.n) as∧WO P C ops [⟨dst,.makeSlice t l c,ty,pos,aft,none⟩] (fun e h=>WD P C ops os (k+1) (O7 k (some H.n) rs) as K e h) env H):=A1j rfl
theorem A87 (t:TypeId)(x:Operand)(lo hi mx:Option Operand):WD P C ops (⟨dst,.slice t x lo hi mx,ty,pos,aft,none⟩ :: os) k rs as K env H=(Mh ops k (Kb (ev env x)) as∧WO P C ops [⟨dst,.slice t x lo hi mx,ty,pos,aft,none⟩] (fun e h=>WD P C ops os (k+1) (O7 k (Kb (ev env x)) rs) as K e h) env H):=A1j rfl
theorem A67 (t:TypeId)(x i:Operand)(ok:Bool):WD P C ops (⟨dst,.lookup t x i ok,ty,pos,aft,none⟩ :: os) k rs as K env H=(Mh ops k (Kb (ev env x)) as∧WO P C ops [⟨dst,.lookup t x i ok,ty,pos,aft,none⟩] (fun e h=>WD P C ops os (k+1) (O7 k (Kb (ev env x)) rs) as K e h) env H):=A1j rfl
theorem A4p (t:TypeId):WD P C ops (⟨dst,.makeMap t none,ty,pos,aft,none⟩ :: os) k rs as K env H=(Mh ops k (some H.n) as∧WO P C ops [⟨dst,.makeMap t none,ty,pos,aft,none⟩] (fun e h=>WD P C ops os (k+1) (O7 k (some H.n) rs) as K e h) env H):=A1j rfl
theorem A88 (t:TypeId)(a x:Operand):WD P C ops (⟨dst,.store t a x,ty,pos,aft,none⟩ :: os) k rs as K env H=WO P C ops [⟨dst,.store t a x,ty,pos,aft,none⟩] (fun e h=>O6 ops k H h rs∧WD P C ops os (k+1) rs ((k,H,h) :: as) K e h) env H:=B1x rfl
theorem A1n (t:TypeId)(m i x:Operand):WD P C ops (⟨dst,.mapUpdate t m i x,ty,pos,aft,none⟩ :: os) k rs as K env H=WO P C ops [⟨dst,.mapUpdate t m i x,ty,pos,aft,none⟩] (fun e h=>O6 ops k H h rs∧WD P C ops os (k+1) rs ((k,H,h) :: as) K e h) env H:=B1x rfl
theorem A68 (args:Array Operand)(ts:Array TypeId):WD P C ops (⟨dst,.call ⟨.builtin .append,args,ts⟩,ty,pos,aft,none⟩ :: os) k rs as K env H=WO P C ops [⟨dst,.call ⟨.builtin .append,args,ts⟩,ty,pos,aft,none⟩] (fun e h=>O6 ops k H h rs∧WD P C ops os (k+1) rs ((k,H,h) :: as) K e h) env H:=B1x rfl
theorem B1D (f:Operand)(args:Array Operand)(ts:Array TypeId):WD P C ops (⟨dst,.call ⟨.value f,args,ts⟩,ty,pos,aft,none⟩ :: os) k rs as K env H=WO P C ops [⟨dst,.call ⟨.value f,args,ts⟩,ty,pos,aft,none⟩] (fun e h=>O6 ops k H h rs∧WD P C ops os (k+1) rs ((k,H,h) :: as) K e h) env H:=B1x rfl
end
structure Fr (N:Nat)(X:List Nat)(H H':Aa):Prop where
 n:H.n≤H'.n
 old:∀ b,b<H.n→b∉X→H'.get b=H.get b
 grp:∀ b c T g e l,H'.get b=.cells c T (.gr g e l)→g<N→H'.get b=H.get b
 top:C1 H→C1 H'
theorem Fr.refl {N:Nat}{X:List Nat}(H:Aa):Fr N X H H:=⟨Nat.le_refl _,fun _ _ _=>rfl,fun _ _ _ _ _ _ _ _=>rfl,id⟩
theorem Fr.mono {N N':Nat}{X X':List Nat}{A B:Aa}(h:Fr N' X' A B)(hn:N≤N')(hx:∀ b,b∈X'→b<A.n→b∈X):Fr N X A B :=
 ⟨h.n,fun b hb hX=>h.old b hb fun hm=>hX (hx b hm hb),fun b c T g e l hg hl=>h.grp b c T g e l hg (Nat.lt_of_lt_of_le hl hn),h.top⟩
theorem Fr.trans {N:Nat}{X:List Nat}{A B C:Aa}(h:Fr N X A B)(k:Fr N X B C):Fr N X A C where
 n:=Nat.le_trans h.n k.n
 old b hb hx:=(k.old b (Nat.lt_of_lt_of_le hb h.n) hx).trans (h.old b hb hx)
 grp b c T g e l hg hl:=by
  have e1:=k.grp b c T g e l hg hl
  exact e1.trans (h.grp b c T g e l (e1 ▸ hg) hl)
 top ht:=k.top (h.top ht)
theorem Fr.trans' {N N':Nat}{X X':List Nat}{A B C:Aa}(h:Fr N X A B)(k:Fr N' X' B C)(hn:N≤N')(hx:∀ b,b∈X'→b<A.n→b∈X):Fr N X A C where
 n:=Nat.le_trans h.n k.n
 old b hb hX:=(k.old b (Nat.lt_of_lt_of_le hb h.n) fun hm=>hX (hx b hm hb)).trans (h.old b hb hX)
 grp b c T g e l hg hl:=by
  have e1:=k.grp b c T g e l hg (Nat.lt_of_lt_of_le hl hn)
  exact e1.trans (h.grp b c T g e l (e1 ▸ hg) hl)
 top ht:=k.top (h.top ht)
theorem Fr.call {N N':Nat}{X:List Nat}{A B C:Aa}(h:Fr N X A B)(k:Fr N' [] B C)(hn:N≤N'):Fr N X A C:=h.trans' k hn fun b hb=>by simp at hb
def A4q (N b:Nat)(o:Dd):Prop:=match o with|.cells _ _ (.gr g _ _)=>N≤g∧g≤b|_=>True
theorem Fr.upd {N:Nat}{X:List Nat}{A B:Aa}(h:Fr N X A B){n b:Nat}{o:Dd}(hn:B.n≤n)(hb:b<n)(hx:A.n≤b∨b∈X)(ho:A4q N b o):Fr N X A (B.upd n b o) where
 n:=Nat.le_trans h.n hn
 old c hc hX:=by
  rw[Cr]
  ·exact h.old c hc hX
  ·rintro rfl
   rcases hx with hx|hx
   ·omega
   ·exact hX hx
 grp c d T g e l hg hl:=by
  by_cases e1:c=b
  ·subst e1
   rw[Ch]at hg
   subst hg
   have:N≤g:=ho.1
   omega
  ·rw[Cr e1]at hg ⊢
   exact h.grp c d T g e l hg hl
 top ht:=by
  have ht:=h.top ht
  refine⟨fun c hc=>?_,fun c=>?_⟩
  ·have hc:n≤c:=hc
   rw[Cr (by omega)]
   exact ht.1 c (by omega)
  ·by_cases e1:c=b
   ·subst e1
    rw[Ch]
    intro d T g e l hg
    subst hg
    exact ho.2
   ·rw[Cr e1]
    exact ht.2 c
theorem Fr.rd {N:Nat}{X:List Nat}{A B:Aa}(h:Fr N X A B){b:Nat}(hb:b<A.n)(hx:b∉X):B.rd b=A.rd b:=by rw[Bf,Bf,h.old b hb hx]
theorem SR.fr {N:Nat}{X:List Nat}{A B:Aa}(hF:Fr N X A B){s n:Nat}{v:Value}{c:List Value}(h:SR A s n v c)(hx:n=0∨C4 v∉X):SR B s n v c:=by
 refine⟨h.shape,h.len, ?_, ?_⟩
 ·by_cases hn:n=0
  ·exact .inl hn
  ·rcases h.cells with q|⟨d,h1,h2⟩
   ·exact .inl q
   ·exact .inr ⟨d,(hF.rd (h.lt.resolve_left hn) (hx.resolve_left hn)).trans h1,h2⟩
 ·rcases h.lt with q|q
  ·exact .inl q
  ·exact .inr (Nat.lt_of_lt_of_le q hF.n)
theorem SR.fr0 {N:Nat}{A B:Aa}(hF:Fr N [] A B){s n:Nat}{v:Value}{c:List Value}(h:SR A s n v c):SR B s n v c:=h.fr hF (.inr (by simp))
def Fro (H:Aa)(g p:Nat):Prop:=∀ b c T e l,H.get b=.cells c T (.gr g e l)→c.length≤p
theorem Fro.cut {H:Aa}{g p:Nat}(h:Fro H g p):H.cut g p=H:=by
 unfold Aa.cut
 congr 1
 funext c
 split
 ·rfl
 ·unfold Dd.cut
  split
  ·rename_i d T g' e l he
   split
   ·rename_i hh
    obtain⟨rfl,hh⟩:=hh
    have:=h _ _ _ _ _ he
    omega
   ·exact he.symm
  ·rfl
inductive GS (H:Aa) (s n:Nat) (v:Value) (c:List Value):Option Nat→Prop
 | nil (hn:n=0) (hv:v=.slice none 0 0) (hc:c=[]):GS H s n v c none
 | full {b o:Nat}{d:List Value}{T:TypeId}{k:Kd} (hv:v=.slice (some ⟨b,o,none⟩) n n) (hb:b<H.n) (hg:H.get b=.cells d T k) (hk:k=.ex∨k=.ro) (hl:o+n*s≤d.length) (hc:(d.drop o).take (n*s)=c) (h0:n=0→o=0):GS H s n v c none
 | gr {b g:Nat}{T:TypeId} (hv:v=.slice (some ⟨b,0,none⟩) n n) (hb:b<H.n) (hgb:g≤b) (hg:H.get b=.cells c T (.gr g s true)) (hl:c.length=n*s) (hf:Fro H g (n*s)):GS H s n v c (some g)
theorem GS.sr {H:Aa}{s n:Nat}{v:Value}{c:List Value}{g:Option Nat}(h:GS H s n v c g):SR H s n v c:=by
 cases h with
 | nil hn hv hc=>subst hn hv hc;exact⟨.inl ⟨rfl,rfl⟩,by simp,.inl rfl,.inl rfl⟩
 | full hv hb hg hk hl hc h0 =>
  subst hv
  refine⟨.inr ⟨_,_,_,rfl,Nat.le_refl _⟩, ?_,.inr ⟨_, ?_,hl,hc⟩,.inr hb⟩
  ·rw[← hc];simp;omega
  ·rw[Bf]
   simp only[C4]
   rw[hg]
   rcases hk with rfl|rfl <;> rfl
 | gr hv hb hgb hg hl hf =>
  subst hv
  refine⟨.inr ⟨_,_,_,rfl,Nat.le_refl _⟩,hl,.inr ⟨c, ?_, ?_, ?_⟩,.inr hb⟩
  ·rw[Bf]
   simp only[C4]
   rw[hg]
   rfl
  ·show 0+_≤_
   omega
  ·show (c.drop 0).take _=c
   rw[List.drop_zero,← hl,List.take_length]
theorem GS.len {H:Aa}{s n:Nat}{v:Value}{c:List Value}{g:Option Nat}(h:GS H s n v c g):c.length=n*s:=h.sr.len
theorem GS.grp_lt {H:Aa}{s n g:Nat}{v:Value}{c:List Value}(h:GS H s n v c (some g)):g<H.n:=by
 cases h with
 | gr hv hb hgb hg hl hf=>omega
section
variable {P:Program} {t e:TypeId} {s by_ n m:Nat} {z v:Value} {H:Aa} {c new:List Value} {g:Option Nat}
theorem GS.push (hu:P.underlying t=some (.slice e))(hs:Bv P e=some s)(hb:Fp P e=some by_)(hz:Dm P e=some z)(hd:dflat z=true)(hzs:z.cells.size=s)(h0:0<s)
  (G:GS H s n v c g)(hl:new.length=m*s)(hm:0<m)(h1:n+m≤2 ^ 40)(h2:(n+m)*by_≤2 ^ 40) :
  Gu P t H v m new=some (.slice (some ⟨H.n,0,none⟩) (n+m) (n+m),H.upd (H.n+1) H.n (.cells (c ++ new) e (.gr (g.getD H.n) s true))):=by
 unfold Gu
 simp only[hu,hs,hb,hz]
 rw[if_pos ⟨hd,hzs,h0,hl⟩]
 have hm0:m≠0:=by omega
 cases G with
 | nil hn hv hc =>
  subst hn hv hc
  rw[Nat.zero_add]at h1 h2
  simp only[and_self,if_true,hm0,if_false,h1,h2,Nc,Nat.zero_add,List.nil_append,Option.getD_none]
 | full hv hb' hg hk hl' hc h0' =>
  subst hv
  have hc0:¬ (m=0∧n≤n):=by omega
  rename_i b o d T k
  have ho:¬ (o≠0∧n=0):=fun hh=>hh.1 (h0' hh.2)
  simp only[hc0,if_false,ho,hg]
  have hlv:k.live=true:=by rcases hk with rfl|rfl <;> rfl
  rw[if_pos ⟨hlv,hl',h1,h2⟩]
  have hnm:¬ (n+m≤n):=by omega
  rcases hk with rfl|rfl
  ·simp only[hnm,if_false,hc,Nc,Option.getD_none]
  ·simp only[hnm,if_false,hc,Nc,Option.getD_none]
 | gr hv hb' hgb hg hl' hf =>
  subst hv
  have hc0:¬ (m=0∧n≤n):=by omega
  simp only[hc0,if_false,hg,ne_eq,not_true_eq_false,false_and]
  rw[if_pos ⟨rfl,by omega,h1,h2⟩]
  simp only[and_self,if_true,hf.cut]
  rw[← hl',List.take_length]
  rfl
theorem GS.pushed (ht:C1 H)(G:GS H s n v c g)(hl:new.length=m*s) :
  GS (H.upd (H.n+1) H.n (.cells (c ++ new) e (.gr (g.getD H.n) s true))) s (n+m) (.slice (some ⟨H.n,0,none⟩) (n+m) (n+m)) (c ++ new) (some (g.getD H.n)):=by
 have hlen:=G.len
 refine .gr rfl (by show _<H.n+1;omega) ?_ Ch (by rw[List.length_append,hlen,hl,Nat.add_mul]) ?_
 ·cases g with
  | none=>exact Nat.le_refl _
  | some g=>exact Nat.le_of_lt G.grp_lt
 ·intro b d T e' l hb
  by_cases e1:b=H.n
  ·subst e1
   rw[Ch]at hb
   cases hb
   rw[List.length_append,hlen,hl,Nat.add_mul]
   exact Nat.le_refl _
  ·rw[Cr e1]at hb
   cases g with
   | none =>
    have h1:=ht.2 b _ _ _ _ _ hb
    have h2:=ht.1 b (by simpa using h1)
    rw[h2]at hb
    cases hb
   | some g =>
    cases G with
    | gr hv hb' hgb hg hl' hf =>
     have:=hf _ _ _ _ _ hb
     have:n*s≤(n+m)*s:=Nat.mul_le_mul_right _ (by omega)
     omega
theorem GS.grpOk {N:Nat}(G:GS H s n v c g)(hN:N≤H.n)(hg:∀ x,g=some x→N≤x){o:List Value}{T:TypeId}{e:Nat}{l:Bool}:A4q N H.n (.cells o T (.gr (g.getD H.n) e l)):=by
 cases g with
 | none=>exact⟨hN,Nat.le_refl _⟩
 | some g=>exact⟨hg _ rfl,Nat.le_of_lt G.grp_lt⟩
end
theorem GS.fr {N:Nat}{X:List Nat}{A B:Aa}(hF:Fr N X A B){s n:Nat}{v:Value}{c:List Value}{g:Option Nat}(h:GS A s n v c g)(hg:∀ x,g=some x→x<N)(hx:C4 v∉X):GS B s n v c g:=by
 cases h with
 | nil hn hv hc=>exact .nil hn hv hc
 | full hv hb hg1 hk hl hc h0 =>
  subst hv
  exact .full rfl (Nat.lt_of_lt_of_le hb hF.n) ((hF.old _ hb hx).trans hg1) hk hl hc h0
 | gr hv hb hgb hg' hl hf =>
  subst hv
  refine .gr rfl (Nat.lt_of_lt_of_le hb hF.n) hgb ((hF.old _ hb hx).trans hg') hl ?_
  intro b d T e l hb
  have:=hF.grp b d T _ e l hb (hg _ rfl)
  exact hf b d T e l (this ▸ hb)
theorem GS.fr0 {A B:Aa}(hF:Fr A.n [] A B){s n:Nat}{v:Value}{c:List Value}{g:Option Nat}(h:GS A s n v c g):GS B s n v c g :=
 h.fr hF (fun x hx=>by subst hx;exact h.grp_lt) (by simp)
def wr:Code→Nat→Bool
 | .region _ ops _,t=>ops.toList.any fun o=>o.dst == some t
 | .seq a b,t|.cond _ a b,t=>wr a t || wr b t
 | .block _ b,t|.loop b,t|.scope b,t=>wr b t
 | _,_=>false
theorem Wv {P:Program}{C:Bk}{ops:Array Oper}{o:Oper}{e e':Bi}{h h':Aa}(k:Gk P C ops o e h e' h'){t:Nat}(ht:(o.dst == some t)=false):e' t=e t:=by
 have hs:∀ v,e.set o.dst v t=e t:=by
  intro v
  cases hd:o.dst with
  | none=>rfl
  | some d =>
   rw[hd]at ht
   rw[A2D,B3w]
   rintro rfl
   simp at ht
 rcases k with⟨_,v,_,rfl⟩|⟨_,rfl,_⟩ <;> exact hs _
theorem Ww {P:Program}{C:Bk}{ops:Array Oper}:∀ (os:List Oper){e e':Bi}{h h':Aa},K6 P C ops os e h e' h'→∀ {t:Nat},(os.any fun o=>o.dst == some t)=false→e' t=e t
 | [],_,_,_,_,⟨rfl,_⟩,_,_=>rfl
 | o :: os,e,e',h,h',⟨e1,h1,k1,k2⟩,t,ht=>by
  simp only[List.any_cons,Bool.or_eq_false_iff]at ht
  exact(Ww os k2 ht.2).trans (Wv k1 ht.1)
theorem A1o {P:Program}{C:Bk}{ops:Array Oper}{e e':Bi}{h h':Aa}(k:I5 P C ops e h e' h'){t:Nat}(ht:(ops.toList.any fun o=>o.dst == some t)=false):e' t=e t:=by
 obtain⟨E,Hs,rfl,_,rfl,_,hs,_⟩:=k
 have:∀ i,i≤ops.size→E i t=E 0 t:=by
  intro i
  induction i with
  | zero=>intro _;rfl
  | succ i ih =>
   intro hi
   have ho:=hs i ops[i] (Array.getElem?_eq_getElem (by omega))
   refine(Wv ho ?_).trans (ih (by omega))
   rw[List.any_eq_false]at ht
   simpa using ht ops[i] (by simp)
 exact this _ (Nat.le_refl _)
theorem A89 {P:Program}{C:Bk}{ng nt:Nat}{c:Code}{e e':Bi}{h h':Aa}{x:Ex}(k:Gv P C ng nt c e h x e' h'){t:Nat}(ht:wr c t=false):e' t=e t:=by
 induction k with
 | skip=>rfl
 | label=>rfl
 | exit=>rfl
 | ret=>rfl
 | seqN _ _ i1 i2=>simp only[wr,Bool.or_eq_false_iff]at ht;exact(i2 ht.2).trans (i1 ht.1)
 | seqX _ hx i=>simp only[wr,Bool.or_eq_false_iff]at ht;exact i ht.1
 | @cond c a b env H y ex env1 H1 hc h1 i=>simp only[wr,Bool.or_eq_false_iff]at ht;exact i (by cases y;exact ht.2;exact ht.1)
 | blockE _ i=>exact i ht
 | blockX _ hx i=>exact i ht
 | loopN _ _ i1 i2=>exact(i2 ht).trans (i1 ht)
 | loopX _ hx i=>exact i ht
 | scope _ i=>exact i ht
 | region k=>exact Ww _ k ht
 | drawn k=>exact A1o k ht
 | range hc hl hs hp=>rfl
section
variable {P:Program} {C:Bk} {ng nt:Nat}
theorem A1p {b:Code}{env:Bi}{H:Aa}{Q:I0}(L:List Nat)(hL:(L.all fun t=>!wr b t)=true)(I:Nat→Bi→Aa→Prop)
  (n:Nat)(h:I n env H)
  (hI:∀ n e h,(∀ t,t∈L→e t=env t)→I n e h→W P C ng nt b e h fun x e' h'=>match x with
   | .normal=>∃ m,m<n∧I m e' h'
   | .exit i=>Q (.exit i) e' h'
   | .ret=>Q .ret e' h'):W P C ng nt (.loop b) env H Q:=by
 refine B3p (I:=fun n e h=>(∀ t,t∈L→e t=env t)∧I n e h) ?_ n ⟨fun _ _=>rfl,h⟩
 rintro n e h ⟨h1,h2⟩
 obtain⟨x,e',h',r,q⟩:=hI n e h h1 h2
 refine⟨x,e',h',r, ?_⟩
 cases x with
 | normal =>
  obtain⟨m,hm,q⟩:=q
  refine⟨m,hm,fun t ht=>?_,q⟩
  rw[← h1 t ht]
  refine A89 r ?_
  have:=List.all_eq_true.1 hL t ht
  simpa using this
 | exit i=>exact q
 | ret=>exact q
end
end Go.Proofs.Swa
set_option linter.unusedVariables false
set_option linter.unusedSimpArgs false
set_option linter.defProp false
namespace Go.Proofs.Swa
open Go
def one (v:Value):Prop:=Eo v=true∧v.cells = #[v]
theorem A1q {k:IntKind}{n:Int}:one (.int k n):=⟨rfl,rfl⟩
theorem A2M {b:Bool}:one (.bool b):=⟨rfl,rfl⟩
theorem Zt {a:Option Addr}{n c:Nat}:one (.slice a n c):=⟨rfl,rfl⟩
theorem A5M {a:Option Addr}:one (.pointer a):=⟨rfl,rfl⟩
theorem A2N {b o:Nat}:one (Bc b o):=⟨rfl,rfl⟩
theorem A5N {r:Option Nat}:one (.map r):=⟨rfl,rfl⟩
theorem Wx {f:Fn}{a c:Array Value}:one (.func f a c):=⟨rfl,rfl⟩
theorem Wy {s:ByteArray}:one (.string s):=⟨rfl,rfl⟩
theorem SR.one {H:Aa}{s n:Nat}{v:Value}{c:List Value}(h:SR H s n v c):one v:=⟨h.nt,h.vcells⟩
theorem GS.one {H:Aa}{s n:Nat}{v:Value}{c:List Value}{g:Option Nat}(h:GS H s n v c g):one v:=h.sr.one
def J0 (pl:List (Nat×Nat))(cells:List Value)(parts:List (Nat×Value)):Option (List Value):=Mk (pl[·]?) cells parts
theorem H5 {pl:List (Nat×Nat)}{cells:List Value}:J0 pl cells []=some cells:=rfl
theorem Dt {pl:List (Nat×Nat)}{cells:List Value}{i off:Nat}{v:Value}{rest:List (Nat×Value)}(hp:pl[i]? = some (off,1))(hv:one v)(ho:off<cells.length) :
  J0 pl cells ((i,v) :: rest)=J0 pl (cells.set off v) rest:=by
 unfold J0
 simp only[Mk,hp]
 rw[if_pos ⟨hv.1,by rw[hv.2];rfl,ho⟩]
 congr 1
 rw[hv.2,List.set_eq_take_append_cons_drop,if_pos ho]
 simp[splice]
theorem Zu {pl:List (Nat×Nat)}{cells l:List Value}{i off s:Nat}{rest:List (Nat×Value)}(hp:pl[i]? = some (off,s))(hl:l.length=s)(ho:off+s≤cells.length) :
  J0 pl cells ((i,.agg ⟨l⟩) :: rest)=J0 pl (splice cells off l) rest:=by
 unfold J0
 simp only[Mk,hp]
 rw[if_pos ⟨rfl,by simpa [Value.cells] using hl,ho⟩]
 rfl
theorem Jc {P:Program}{t:TypeId}{z:Value}{fs:Array Field}{pl:List (Nat×Nat)}{parts:List (Nat×Value)}(hz:Dm P t=some z)(hd:dflat z=true)(hu:P.underlying t=some (.struct fs))(hp:Ml P fs.toList=some pl) :
  Ez P t parts=(J0 pl z.cells.toList parts).map fun c=>.agg c.toArray:=by
 unfold Ez J0
 simp only[hz,hu,hd,hp,if_true]
def Vl (s:Nat):List (Nat×Value)→Option (List Value)
 | []=>some []
 | (_,v) :: rest=>if Eo v=true∧v.cells.size=s then (Vl s rest).map (v.cells.toList ++ ·) else none
theorem B2J {s:Nat}(hs:0<s):∀ (parts:List (Nat×Value))(k:Nat)(a b l:List Value),(∀ j (h:j<parts.length),(parts[j]).1=k+j)→a.length=k*s→b.length=parts.length*s→Vl s parts=some l →
  Mk (fun i=>some (i*s,s)) (a ++ b) parts=some (a ++ l)
 | [],k,a,b,l,_,ha,hb,he=>by
  have:b=[]:=by simpa using hb
  subst this
  cases he
  rfl
 | (i,v) :: rest,k,a,b,l,hi,ha,hb,he=>by
  have hi0:i=k:=hi 0 (by simp)
  subst hi0
  simp only[Vl]at he
  split at he
  ·rename_i hv
   cases hr:Vl s rest with
   | none=>rw[hr]at he;cases he
   | some r =>
    rw[hr]at he
    cases he
    have hb':b.length=s+rest.length*s:=by rw[hb,List.length_cons,Nat.add_mul];omega
    simp only[Mk]
    rw[if_pos ⟨hv.1,hv.2,by rw[List.length_append];omega⟩]
    have e1:splice (a ++ b) (i*s) v.cells.toList=(a ++ v.cells.toList) ++ b.drop s:=by
     have hvl:v.cells.toList.length=s:=by simpa using hv.2
     unfold splice
     rw[hvl,List.take_append_of_le_length (by omega),List.take_of_length_le (by omega),List.drop_append,List.drop_of_length_le (by omega)]
     simp[ha]
    rw[e1,B2J hs rest (i+1) (a ++ v.cells.toList) (b.drop s) r ?_ ?_ ?_ hr,List.append_assoc]
    ·intro j hj
     have:=hi (j+1) (by simpa using hj)
     simpa [Nat.add_assoc,Nat.add_comm 1 j] using this
    ·rw[List.length_append,ha,Nat.add_mul]
     simpa using hv.2
    ·rw[List.length_drop]
     omega
  ·cases he
theorem Zv {z:List Value}{s:Nat}(hz:z.length=s)(n:Nat):(Hy z n).length=n*s:=by
 unfold Hy
 have:∀ l:List Nat,(l.flatMap fun _=>z).length=l.length*s:=by
  intro l
  induction l with
  | nil=>simp
  | cons a l ih=>simp[List.flatMap_cons,hz,ih,Nat.add_mul];omega
 simpa using this (List.range n)
theorem C7 {P:Program}{t e:TypeId}{n s:Nat}{z:Value}{parts:List (Nat×Value)}{H:Aa}{l:List Value}(hu:P.underlying t=some (.slice e))(hs:Bv P e=some s)(hz:Dm P e=some z)(hd:dflat z=true)(hzs:z.cells.size=s)
  (h0:0<s)(hn:n*s≤2 ^ 24)(hi:parts.map (·.1)=List.range n)(he:Vl s parts=some l) :
  Cj P t n parts H=some (.slice (some ⟨H.n,0,none⟩) n n,H.upd (H.n+1) H.n (.cells l e .ex)):=by
 have hlen:parts.length=n:=by simpa using congrArg List.length hi
 unfold Cj
 simp only[hu,hs,hz]
 rw[if_pos ⟨hd,hzs,h0,hn⟩]
 have:=B2J h0 parts 0 [] (Hy z.cells.toList n) l (fun j hj=>by
  have h2:(parts.map (·.1))[j]? = (List.range n)[j]?:=by rw[hi]
  rw[List.getElem?_map,List.getElem?_eq_getElem hj,List.getElem?_range (by omega)]at h2
  simpa using h2) (by simp) (by rw[Zv (by simpa using hzs),hlen]) he
 simp only[List.nil_append]at this
 rw[this]
 rfl
theorem E9 {s:Nat}:Vl s []=some []:=rfl
theorem Hc {i:Nat}{v:Value}{rest:List (Nat×Value)}(hv:one v):Vl 1 ((i,v) :: rest)=(Vl 1 rest).map (v :: ·):=by
 conv=>lhs;unfold Vl
 rw[if_pos ⟨hv.1,by rw[hv.2];rfl⟩,hv.2]
 rfl
theorem Jd {s i:Nat}{l:List Value}{rest:List (Nat×Value)}(hl:l.length=s):Vl s ((i,.agg ⟨l⟩) :: rest)=(Vl s rest).map (l ++ ·):=by
 conv=>lhs;unfold Vl
 rw[if_pos ⟨rfl,by simpa [Value.cells] using hl⟩]
 rfl
theorem A1r {P:Program}{t e:TypeId}{s by_:Nat}{z:Value}{H:Aa}{k k':IntKind}{n m:Int}(hu:P.underlying t=some (.slice e))(hs:Bv P e=some s)(hz:Dm P e=some z)(hb:Fp P e=some by_)(hd:dflat z=true)(hzs:z.cells.size=s)
  (h0:0<s)(h1:0≤n)(h2:n≤m)(h3:m≤2 ^ 40)(h4:by_*m≤2 ^ 40) :
  Fe P t (.int k n) (.int k' m) H=some (.slice (some ⟨H.n,0,none⟩) n.toNat m.toNat,H.upd (H.n+1) H.n (.cells (Hy z.cells.toList m.toNat) e .ex)):=by
 unfold Fe
 simp only[hu,hs,hz,hb]
 rw[if_pos ⟨hd,hzs,h0,h1,h2,h3,h4⟩]
 rfl
theorem A69 {z:Value}{n:Nat}:Hy [z] n=List.replicate n z:=by
 unfold Hy
 have:∀ l:List Nat,(l.flatMap fun _=>[z])=List.replicate l.length z:=by
  intro l
  induction l with
  | nil=>rfl
  | cons a l ih=>rw[List.flatMap_cons,ih];rfl
 rw[this,List.length_range]
theorem Kq {c:List Value}{o:Nat}:at1 c o=c[o]?:=rfl
theorem B1E {H:Aa}{s n:Nat}{x:Value}{c:List Value}(h:SR H s n x c):A8i H s x=some c:=by
 rcases h.shape with⟨rfl,rfl⟩|⟨b,o,k,rfl,_⟩
 ·have:=h.len
  simp at this
  subst this
  rfl
 ·unfold A8i
  by_cases hn:n=0
  ·have:=h.len
   subst hn
   simp at this
   subst this
   rfl
  ·rcases h.cells with q|⟨d,h1,h2,h3⟩
   ·exact absurd q hn
   ·simp only[hn,if_false]
    have h1':H.rd b=some d:=h1
    have h2':o+n*s≤d.length:=h2
    simp only[h1',h2',if_true]
    exact congrArg some h3
theorem D7 {P:Program}{t t1 e e1:TypeId}{s m:Nat}{H:Aa}{v x:Value}{new:List Value}(hu:P.underlying t=some (.slice e))(hu1:P.underlying t1=some (.slice e1))(hs:Bv P e=some s)(S:SR H s m x new) :
  Cg P #[t,t1] [v,x] H=Gu P t H v m new:=by
 unfold Cg
 simp only[hu,hu1,hs]
 have:=B1E S
 rcases S.shape with⟨rfl,rfl⟩|⟨b,o,k,rfl,_⟩ <;> simp only[this]
theorem A5O {P:Program}{t e:TypeId}{s by_ n:Nat}{z v:Value}{H:Aa}{c new:List Value}{g:Option Nat}(hu:P.underlying t=some (.slice e))(hs:Bv P e=some s)(hb:Fp P e=some by_)(hz:Dm P e=some z)(hd:dflat z=true)(hzs:z.cells.size=s)(h0:0<s)
  (G:GS H s n v c g)(hl:new.length=0):Gu P t H v 0 new=some (v,H):=by
 unfold Gu
 simp only[hu,hs,hb,hz]
 rw[if_pos ⟨hd,hzs,h0,by omega⟩]
 cases G with
 | nil hn hv hc=>subst hn hv hc;rfl
 | full hv hb' hg hk hl' hc h0'=>subst hv;simp
 | gr hv hb' hgb hg hl' hf=>subst hv;simp
theorem SR.new {H:Aa}{s m:Nat}{l:List Value}{e:TypeId}(hl:l.length=m*s):SR (H.upd (H.n+1) H.n (.cells l e .ex)) s m (.slice (some ⟨H.n,0,none⟩) m m) l:=by
 refine⟨.inr ⟨_,_,_,rfl,Nat.le_refl _⟩,hl,.inr ⟨l, ?_, ?_, ?_⟩,.inr ?_⟩
 ·simp only[C4,O4,A4j]
 ·simp only[Gy];omega
 ·simp only[Gy,List.drop_zero,← hl,List.take_length]
 ·simp only[C4,Ao];omega
theorem GS.new {H:Aa}{s m:Nat}{l:List Value}{e:TypeId}(hl:l.length=m*s):GS (H.upd (H.n+1) H.n (.cells l e .ex)) s m (.slice (some ⟨H.n,0,none⟩) m m) l none :=
 .full rfl (Nat.lt_succ_self _) Ch (.inl rfl) (by omega) (by simp[← hl]) fun _=>rfl
theorem GS.nul {H:Aa}{s:Nat}:GS H s 0 (.slice none 0 0) [] none:=.nil rfl rfl rfl
theorem Fr.ex {H:Aa}{N:Nat}{X:List Nat}{c:List Value}{T:TypeId}:Fr N X H (H.upd (H.n+1) H.n (.cells c T .ex)):=(Fr.refl H).upd (Nat.le_succ _) (Nat.lt_succ_self _) (.inl (Nat.le_refl _)) trivial
theorem GS.ex {H:Aa}{s n:Nat}{v:Value}{c c':List Value}{T:TypeId}{g:Option Nat}(G:GS H s n v c g):GS (H.upd (H.n+1) H.n (.cells c' T .ex)) s n v c g:=G.fr0 Fr.ex
theorem Wz {P:Program}{s d:TypeId}{x:TypeDesc}{k k':IntKind}{a:Int}(hs:P.underlying s=some x)(hd:P.underlying d=some (.int k')):Un P s d (.int k a)=some (.int k' (k'.wrap a)):=by
 have:pr P (convert s d (.int k a))=some (.int k' (k'.wrap a)):=by
  simp only[convert,Dk,underlying,Fc,Option.bind_some,hs,hd,Ey]
  cases x <;> rfl
 simp only[Un,dflat,flat,if_true,this,keep]
theorem A1s {b o:Nat}:Kc (Bc b o)=some (Bc b o):=rfl
theorem A2O {f:FuncId}{a c:Array Value}:Kc (.func (.func f) a c)=some (.func (.func f) a c):=rfl
theorem Dh {l:List Value}{i:Nat}:Ly (.tuple ⟨l⟩) i=l[i]?:=by simp[Ly]
theorem mE {x:Bi}:Jw x=x:=rfl
theorem mO {x:Option Value}:Jw x=x:=rfl
theorem mB {x:Option (Value×Aa)}:Jw x=x:=rfl
theorem mH {x:Option Aa}:Jw x=x:=rfl
theorem B2K {x:List Value}{f:List Value→Option Value}:(some x).bind f=f x:=rfl
theorem A9a {x:Value}{f:Value→Option Value}:(some x).bind f=f x:=rfl
theorem B2L {x:Value}{f:Value→Value}:(some x).map f=some (f x):=rfl
theorem B2M {x:List Value}{f:List Value→Value}:(some x).map f=some (f x):=rfl
theorem B2N {a:Value}{l:List Value}:(a :: l)[0]? = some a:=rfl
theorem B2O {a:Value}{l:List Value}{i:Nat}:(a :: l)[i+1]? = l[i]?:=rfl
theorem B2P {l:List Value}{i:Nat}:l.toArray[i]? = l[i]?:=by simp
theorem B2Q {l:List Value}{i:Nat}:(Array.mk l)[i]? = l[i]?:=by simp
theorem B2R {l:List Operand}{f:Operand→Value}:l.toArray.map f=(l.map f).toArray:=by simp
theorem B2S {a:Operand}{l:List Operand}{f:Operand→Value}:(a :: l).map f=f a :: l.map f:=rfl
theorem B2T {f:Operand→Value}:([]:List Operand).map f=[]:=rfl
theorem A9b {a:Nat×Operand}{l:List (Nat×Operand)}{f:Nat×Operand→Nat×Value}:(a :: l).map f=f a :: l.map f:=rfl
theorem A9c {f:Nat×Operand→Nat×Value}:([]:List (Nat×Operand)).map f=[]:=rfl
theorem mTL {l:List Value}:l.toArray.toList=l:=rfl
theorem B42 {l:List Operand}:l.toArray.toList=l:=rfl
theorem B43 {l:List (Nat×Operand)}:l.toArray.toList=l:=rfl
theorem mAE {a:Array Value}:#[] ++ a=a:=by simp
theorem mEA {a:Array Value}:a ++ #[]=a:=by simp
theorem mAA {a b:List Value}:a.toArray ++ b.toArray=(a ++ b).toArray:=by simp
theorem B44 {a:Value}{l:List Value}:(a :: l).length=l.length+1:=rfl
theorem B45:([]:List Value).length=0:=rfl
theorem B2U {a b:Value}{l:List Value}:(a :: l).set 0 b=b :: l:=rfl
theorem B2V {a b:Value}{l:List Value}{i:Nat}:(a :: l).set (i+1) b=a :: l.set i b:=rfl
def A9d (k:IntKind)(a b:Int):Int:=k.wrap (BitVec.ofInt k.bits a ^^^ BitVec.ofInt k.bits b).toNat
def B3F (k:IntKind)(a b:Int):Int:=k.wrap (a*2 ^ (min b.toNat k.bits))
def A9e (k:IntKind)(a b:Int):Int:=a.fdiv (2 ^ (min b.toNat k.bits))
theorem A2P {P:Program}{t:TypeId}{x y:Operand}{k:IntKind}{a b:Int}:Fj P .xor t x y (.int k a) (.int k b)=some (.int k (A9d k a b)):=B1m
theorem A9f {P:Program}{t:TypeId}{x y:Operand}{k k':IntKind}{a b:Int}(h:0≤b):Fj P .shl t x y (.int k a) (.int k' b)=some (.int k (B3F k a b)):=B1n h
theorem A9g {P:Program}{t:TypeId}{x y:Operand}{k k':IntKind}{a b:Int}(h:0≤b):Fj P .shr t x y (.int k a) (.int k' b)=some (.int k (A9e k a b)):=B1o h
theorem A2Q:IntKind.u64.bits=64:=rfl
theorem A2R:IntKind.i64.bits=64:=rfl
theorem A5P:IntKind.u8.bits=8:=rfl
theorem A2S:IntKind.i32.bits=32:=rfl
theorem B2W {a b:Bool}:(some a=some b)=(a=b):=by simp
def pb:=(B9p (B9p (B9p (B9p (B9p @B1h @A6W) (B9p @A8y @B3r)) (B9p (B9p @A8z @Yu) (B9p @B1i @A8A))) (B9p (B9p (B9p @A2B @A2C) (B9p @A01 @A8B)) (B9p (B9p @A02 @A8C) (B9p @A03 @A8D)))) (B9p (B9p (B9p (B9p @A4g @A4h) (B9p @A6X @A04)) (B9p (B9p @B1j @A6Y) (B9p @A8E @B1k))) (B9p (B9p (B9p @A4i @B1l) (B9p @B3s @B3t)) (B9p (B9p @A8F @B3u) (B9p @B3v @B3q)))))
def pd:=(B9p (B9p (B9p (B9p @B1y (B9p @A66 @A82)) (B9p (B9p @A2K @A2L) (B9p @A1k @A83))) (B9p (B9p (B9p @A1l @A84) (B9p @A4n @A85)) (B9p (B9p @B1z @A4o) (B9p @B1A @B3C)))) (B9p (B9p (B9p @B3D (B9p @B1B @B1C)) (B9p (B9p @A86 @B3E) (B9p @Yw @A1m))) (B9p (B9p (B9p @A87 @A67) (B9p @A4p @A88)) (B9p (B9p @A1n @A68) (B9p @B1D @B3B)))))
def qb:=(B9p (B9p (B9p (B9p (B9p (B9p @A1q (B9p @A2M @Zt)) (B9p @A5M (B9p @A2N @A5N))) (B9p (B9p @Wx (B9p @Wy @H5)) (B9p (B9p @B1e @B1f) (B9p @B1g @A8x)))) (B9p (B9p (B9p @Nu (B9p @A8K @B1p)) (B9p (B9p @A2D @A8L) (B9p @B3x @Nc))) (B9p (B9p @B1q (B9p @Ao @A1f)) (B9p (B9p @Ch @O4) (B9p @A4j @A8M))))) (B9p (B9p (B9p (B9p @A8N (B9p @Kq @B3z)) (B9p @Zo (B9p @Wr @Zp))) (B9p (B9p @Up (B9p @Zq @Zr)) (B9p (B9p @Ws @Rx) (B9p @A8Q @A5I)))) (B9p (B9p (B9p @A8R (B9p @A2E @A8S)) (B9p (B9p @A8T @A5J) (B9p @Zs @A05))) (B9p (B9p @A06 (B9p @A07 @A2P)) (B9p (B9p @A08 @A09) (B9p @A1a @A1b)))))) (B9p (B9p (B9p (B9p (B9p @A1c (B9p @A1d @A5G)) (B9p @A5H (B9p @A8I @A8J))) (B9p (B9p @B1v (B9p @B1w @A8V)) (B9p (B9p @A2F @A1s) (B9p @A2O @Dh)))) (B9p (B9p (B9p @mE (B9p @mO @mB)) (B9p (B9p @mH @B2K) (B9p @A9a @B2L))) (B9p (B9p @B2M (B9p @B2N @B2O)) (B9p (B9p @B2P @B2Q) (B9p @B2R @B2S))))) (B9p (B9p (B9p (B9p @B2T (B9p @A9b @A9c)) (B9p @mTL (B9p @B42 @B43))) (B9p (B9p @mAE (B9p @mEA @mAA)) (B9p (B9p @B2U @B2V) (B9p @A2Q @A2R)))) (B9p (B9p (B9p @A5P (B9p @A2S @B2W)) (B9p (B9p @Nat.add_zero @Nat.zero_add) (B9p @Int.toNat_natCast @Bool.false_eq_true))) (B9p (B9p @Bool.true_eq_false (B9p @Bool.not_true @Bool.not_false)) (B9p (B9p @decide_true @decide_false) (B9p @not_true_eq_false @not_false_eq_true)))))))
def qd:=(B9p (B9p (B9p @A4m (B9p @A2I @A8W)) (B9p (B9p @A61 @A2J) (B9p @A62 @A63))) (B9p (B9p (B9p @A64 @A8X) (B9p @A65 @A8Y)) (B9p (B9p @A8Z @A80) (B9p @A81 @true_and))))
def qc:=(B9p (B9p (B9p (B9p (B9p (B9p @A1q (B9p @A2M @Zt)) (B9p @A5M (B9p @A2N @A5N))) (B9p (B9p @Wx (B9p @Wy @Ao)) (B9p @A1f (B9p @Ch @O4)))) (B9p (B9p (B9p @A4j (B9p @A8M @A8N)) (B9p @Kq (B9p @Nw @A1h))) (B9p (B9p @A8O (B9p @Zm @B1r)) (B9p @A8P (B9p @B1s @A4k))))) (B9p (B9p (B9p (B9p @Fq (B9p @Zo @Wr)) (B9p @Zp (B9p @Up @Zq))) (B9p (B9p @Zr (B9p @Ws @Rx)) (B9p @A8Q (B9p @A5I @A8R)))) (B9p (B9p (B9p @A2E (B9p @A8S @A8T)) (B9p @A5J (B9p @Zs @A5E))) (B9p (B9p @A5F (B9p @A9f @A9g)) (B9p @A05 (B9p @A06 @A07)))))) (B9p (B9p (B9p (B9p (B9p @A2P (B9p @A08 @A09)) (B9p @A1a (B9p @A1b @A1c))) (B9p (B9p @A1d (B9p @mE @mO)) (B9p @mB (B9p @mH @B2K)))) (B9p (B9p (B9p @A9a (B9p @B2L @B2M)) (B9p @B2N (B9p @B2O @B2P))) (B9p (B9p @B2Q (B9p @B2R @B2S)) (B9p @B2T (B9p @A9b @A9c))))) (B9p (B9p (B9p (B9p @mTL (B9p @B42 @B43)) (B9p @mAE (B9p @mEA @mAA))) (B9p (B9p @B2U (B9p @B2V @A2Q)) (B9p @A2R (B9p @A5P @A2S)))) (B9p (B9p (B9p @B2W (B9p @Nat.add_zero @Nat.zero_add)) (B9p @Int.toNat_natCast (B9p @Bool.false_eq_true @Bool.true_eq_false))) (B9p (B9p @Bool.not_true (B9p @Bool.not_false @decide_true)) (B9p @decide_false (B9p @not_true_eq_false @not_false_eq_true)))))))
def Aa.jn (H G:Aa):Aa:=⟨G.n,fun b=>if b<H.n then H.get b else G.get b⟩
structure Jn (H G:Aa):Prop where
 n:H.n≤G.n
 grp:∀ b c T g e l,H.n≤b→G.get b=.cells c T (.gr g e l)→H.n≤g∧g≤b
 top:∀ b,G.n≤b→G.get b=.dead
theorem A3 {H G:Aa}:(H.jn G).n=G.n:=rfl
theorem Ti {H G:Aa}{b:Nat}(h:b<H.n):(H.jn G).get b=H.get b:=by simp[Aa.jn,h]
theorem B46 {H G:Aa}{b:Nat}(h:b<H.n):(H.jn G).rd b=H.rd b:=by rw[Bf,Bf,Ti h]
theorem P6 {H G:Aa}{b:Nat}(h:H.n≤b):(H.jn G).get b=G.get b:=by simp[Aa.jn,Nat.not_lt.2 h]
theorem Fr.jn {N:Nat}{X:List Nat}{A B G:Aa}(h:Fr N X A B)(k:Jn B G)(hN:N≤B.n):Fr N X A (B.jn G) where
 n:=Nat.le_trans h.n k.n
 old b hb hX:=(Ti (Nat.lt_of_lt_of_le hb h.n)).trans (h.old b hb hX)
 grp b c T g e l hg hl:=by
  by_cases hb:b<B.n
  ·rw[Ti hb]at hg ⊢
   exact h.grp b c T g e l hg hl
  ·rw[P6 (by omega)]at hg
   have:=(k.grp b c T g e l (by omega) hg).1
   omega
 top ht:=by
  have ht:=h.top ht
  refine⟨fun b hb=>?_,fun b=>?_⟩
  ·have hb:G.n≤b:=hb
   have:=k.n
   rw[P6 (by omega)]
   exact k.top b hb
  ·by_cases hb:b<B.n
   ·rw[Ti hb]
    exact ht.2 b
   ·rw[P6 (by omega)]
    intro c T g e l hg
    exact(k.grp b c T g e l (by omega) hg).2
theorem Fr.to_jn {H H':Aa}(h:Fr H.n [] H H')(ht:C1 H):H'=H.jn H'∧Jn H H':=by
 have ht':=h.top ht
 constructor
 ·show (⟨H'.n,H'.get⟩:Aa)=⟨H'.n,_⟩
  congr 1
  funext b
  split
  ·exact h.old b ‹_› (by simp)
  ·rfl
 ·refine⟨h.n,fun b c T g e l hb hg=>⟨?_,ht'.2 b _ _ _ _ _ hg⟩,ht'.1⟩
  by_cases hh:g<H.n
  ·have:=h.grp b c T g e l hg hh
   rw[ht.1 b hb,hg]at this
   cases this
  ·omega
section
variable {P:Program} {C:Bk} {ops:Array Oper} {os:List Oper} {K:Bi→Aa→Prop} {env:Bi} {H:Aa} {dst:Option Tmp} {ty:TypeId} {pos:String} {aft:Array Edge}
theorem Cy {f:Operand}{args:Array Operand}{ts:Array TypeId}{R:Value→Aa→Prop}(ht:C1 H)(h:∃ v H',Gj C (ev env f) (args.map (ev env)) H v H'∧R v H'∧Fr H.n [] H H')
  (k:∀ v G,H.n≤G.n→Jn H G→R v (H.jn G)→WO P C ops os K (env.set dst v) (H.jn G)):WO P C ops (⟨dst,.call ⟨.value f,args,ts⟩,ty,pos,aft,none⟩ :: os) K env H:=by
 obtain⟨v,H1,h1,h2,h3⟩:=h
 obtain⟨e,hj⟩:=h3.to_jn ht
 have:=k v H1 hj.n hj
 rw[← e]at this
 exact P4 h1 (this h2)
theorem Cp {f:Operand}{args:Array Operand}{ts:Array TypeId}{v0:Value}{H0:Aa}(h:∃ v H',Gj C (ev env f) (args.map (ev env)) H v H'∧v=v0∧H'=H0)(k:WO P C ops os K (env.set dst v0) H0) :
  WO P C ops (⟨dst,.call ⟨.value f,args,ts⟩,ty,pos,aft,none⟩ :: os) K env H:=by
 obtain⟨v,H1,h1,rfl,rfl⟩:=h
 exact P4 h1 k
theorem Bz {f:Operand}{args:Array Operand}{ts:Array TypeId}{v0:Value}(ht:C1 H)(h:∃ v H',Gj C (ev env f) (args.map (ev env)) H v H'∧v=v0∧Fr H.n [] H H')
  (k:∀ G,H.n≤G.n→Jn H G→WO P C ops os K (env.set dst v0) (H.jn G)):WO P C ops (⟨dst,.call ⟨.value f,args,ts⟩,ty,pos,aft,none⟩ :: os) K env H:=by
 obtain⟨v,H1,h1,rfl,h3⟩:=h
 obtain⟨e,hj⟩:=h3.to_jn ht
 have:=k H1 hj.n hj
 rw[← e]at this
 exact P4 h1 this
theorem A9h {f:Operand}{args:Array Operand}{ts:Array TypeId}{R:Value→Aa→Prop}{X:List Nat}(h:∃ v H',Gj C (ev env f) (args.map (ev env)) H v H'∧R v H'∧Fr H.n X H H')
  (k:∀ v H',R v H'→Fr H.n X H H'→WO P C ops os K (env.set dst v) H'):WO P C ops (⟨dst,.call ⟨.value f,args,ts⟩,ty,pos,aft,none⟩ :: os) K env H:=by
 obtain⟨v,H1,h1,h2,h3⟩:=h
 exact P4 h1 (k v H1 h2 h3)
end
theorem C1.upd {H:Aa}(ht:C1 H){n b:Nat}{o:Dd}(hn:H.n≤n)(hb:b<n)(ho:A4q 0 b o):C1 (H.upd n b o):=by
 refine⟨fun c hc=>?_,fun c=>?_⟩
 ·have hc:n≤c:=hc
  rw[Cr (by omega)]
  exact ht.1 c (by omega)
 ·by_cases e1:c=b
  ·subst e1
   rw[Ch]
   intro d T g e l hg
   subst hg
   exact ho.2
  ·rw[Cr e1]
   exact ht.2 c
theorem C1.jn {H G:Aa}(ht:C1 H)(k:Jn H G):C1 (H.jn G):=(Fr.jn (N:=0) (X:=[]) (Fr.refl H) k (Nat.zero_le _)).top ht
theorem SR.el {α:Type} [Inhabited α] {enc:α→List Value}{H:Aa}{s n:Nat}{v:Value}{l:List α}(h:SR H s n v (l.flatMap enc))(he:∀ a,(enc a).length=s)(hn:n=l.length) :
  (∀ i k,i<n→k<s→(Yl H v)[Gy v+i*s+k]? = (enc (l.getD i default))[k]?)∧(∀ i,i<n→0<s→(Yl H v)[Gy v+i*s]? = (enc (l.getD i default))[0]?) ∧
  (∀ i,i<n→Swa.atN (Yl H v) (Gy v+i*s) s=some (.agg ⟨enc (l.getD i default)⟩))∧(∀ i k z,i<n→k+z≤s→Swa.atN (Yl H v) (Gy v+i*s+k) z=some (.agg ⟨((enc (l.getD i default)).drop k).take z⟩)):=by
 subst hn
 have hb:∀ i,i<l.length→i*s+s≤l.length*s:=fun i hi=>by
  have:(i+1)*s≤l.length*s:=Nat.mul_le_mul_right _ hi
  rw[Nat.add_mul]at this;omega
 refine⟨fun i k hi hk=>?_,fun i hi h0=>?_,fun i hi=>?_,fun i k z hi hk=>?_⟩
 ·rw[Nat.add_assoc,← Kq,h.at (j:=i*s+k) (by have:=hb i hi;omega)]
  exact A5K he hi hk
 ·rw[← Kq,h.at (j:=i*s) (by have:=hb i hi;omega)]
  exact A5K (k:=0) he hi h0
 ·rw[h.atN (j:=i*s) (z:=s) (hb i hi) (by omega),A8U he hi]
 ·rw[Nat.add_assoc,h.atN (j:=i*s+k) (z:=z) (by have:=hb i hi;omega) (by omega),A60 he hi hk]
theorem SR.el1 {α:Type} [Inhabited α] {enc:α→Value}{H:Aa}{n:Nat}{v:Value}{l:List α}(h:SR H 1 n v (l.map enc))(hn:n=l.length) :
  (∀ i,i<n→(Yl H v)[Gy v+i*1]? = some (enc (l.getD i default)))∧(∀ i,i<n→(Yl H v)[Gy v+i]? = some (enc (l.getD i default))):=by
 subst hn
 have:∀ i,i<l.length→Swa.at1 (Yl H v) (Gy v+i)=some (enc (l.getD i default)):=fun i hi=>by
  rw[h.at (j:=i) (by omega)]
  simp[hi]
 exact⟨fun i hi=>by rw[Nat.mul_one,← Kq];exact this i hi,fun i hi=>by rw[← Kq];exact this i hi⟩
theorem Aq {ops:Array Oper}{k:Nat}{o:Option Nat}{as:List (Nat×Aa×Aa)}{p:Prop}(h:Mh ops k o as)(q:p):Mh ops k o as∧p:=⟨h,q⟩
theorem Ar {ops:Array Oper}{k b:Nat}{as:List (Nat×Aa×Aa)}{p:Prop}(h:Vk ops k b as)(q:p):Vk ops k b as∧p:=⟨h,q⟩
theorem As {ops:Array Oper}{k:Nat}{H H':Aa}{as:List (Nat×Nat)}{p:Prop}(h:O6 ops k H H' as)(q:p):O6 ops k H H' as∧p:=⟨h,q⟩
def qe:=B9p (B9p @A3 @Ti) (B9p @B46 (B9p @A6Z @Cr))
end Go.Proofs.Swa
set_option linter.unusedVariables false
set_option linter.unusedSimpArgs false
namespace Go.Proofs.Swa
open Go
section
variable {P:Program} {C:Bk} {ng nt:Nat}
theorem Db {b:Code}{env:Bi}{H:Aa}{Q:I0}(L:List Nat)(hL:(L.all fun t=>!wr b t)=true)(t len N:Nat)(X X0:List Nat)(J:Nat→Bi→Aa→Prop)
  (h0:env t=.int .i64 0)(hT:C1 H){H0:Aa}(F0:Fr N X0 H0 H)(hX:∀ b,b∈X→b<H0.n→b∈X0)(hJ:J 0 env H)
  (hI:∀ i e h,i≤len→(∀ t,t∈L→e t=env t)→e t=.int .i64 i→Fr N X H h→Fr N X0 H0 h→C1 h→J i e h→W P C ng nt b e h fun x e' h'=>match x with
   | .normal=>i<len∧e' t=.int .i64 (i+1:Nat)∧Fr N X H h'∧J (i+1) e' h'
   | .exit i=>Q (.exit i) e' h'
   | .ret=>Q .ret e' h'):W P C ng nt (.loop b) env H Q:=by
 refine A1p L hL (fun n e h=>∃ i:Nat,i≤len∧n=len-i∧e t=.int .i64 i∧Fr N X H h∧J i e h) len ⟨0,Nat.zero_le _,by omega,h0,Fr.refl _,hJ⟩ ?_
 rintro n e h hE ⟨i,hi,rfl,ht,hF,hJ⟩
 obtain⟨x,e',h',r,q⟩:=hI i e h hi hE ht hF (F0.trans' hF (Nat.le_refl _) hX) (hF.top hT) hJ
 refine⟨x,e',h',r, ?_⟩
 cases x with
 | normal=>obtain⟨q1,q2,q3,q4⟩:=q;exact⟨len-(i+1),by omega,i+1,by omega,rfl,q2,q3,q4⟩
 | exit i=>exact q
 | ret=>exact q
theorem Vx {σ:Type}{b:Code}{env:Bi}{H:Aa}{Q:I0}(L:List Nat)(hL:(L.all fun t=>!wr b t)=true)(N:Nat)(X X0:List Nat)(J:σ→Bi→Aa→Prop)(mu:σ→Nat)
  (s0:σ)(hT:C1 H){H0:Aa}(F0:Fr N X0 H0 H)(hX:∀ b,b∈X→b<H0.n→b∈X0)(hJ:J s0 env H)
  (hI:∀ s e h,(∀ t,t∈L→e t=env t)→Fr N X H h→Fr N X0 H0 h→C1 h→J s e h→W P C ng nt b e h fun x e' h'=>match x with
   | .normal=>∃ s',mu s'<mu s∧Fr N X H h'∧J s' e' h'
   | .exit i=>Q (.exit i) e' h'
   | .ret=>Q .ret e' h'):W P C ng nt (.loop b) env H Q:=by
 refine A1p L hL (fun n e h=>∃ s,n=mu s∧Fr N X H h∧J s e h) (mu s0) ⟨s0,rfl,Fr.refl _,hJ⟩ ?_
 rintro n e h hE ⟨s,rfl,hF,hJ⟩
 obtain⟨x,e',h',r,q⟩:=hI s e h hE hF (F0.trans' hF (Nat.le_refl _) hX) (hF.top hT) hJ
 refine⟨x,e',h',r, ?_⟩
 cases x with
 | normal=>obtain⟨s',q1,q2,q3⟩:=q;exact⟨mu s',q1,s',rfl,q2,q3⟩
 | exit i=>exact q
 | ret=>exact q
end
theorem Ad {id:Nat}{Q:I0}{e:Bi}{h:Aa}(k:Q .normal e h):A00 id Q (.exit id) e h:=by
 show if id=id then Q .normal e h else Q (.exit id) e h
 rw[if_pos rfl];exact k
theorem Ae {id i:Nat}{Q:I0}{e:Bi}{h:Aa}(hi:i≠id)(k:Q (.exit i) e h):A00 id Q (.exit i) e h:=by
 show if i=id then Q .normal e h else Q (.exit i) e h
 rw[if_neg hi];exact k
theorem Ha {α:Type} [Inhabited α] {l:List α}{i:Nat}(h:i<l.length):l.drop i=l.getD i default :: l.drop (i+1):=by
 rw[List.drop_eq_getElem_cons h]
 simp[List.getD,h]
theorem H6 {α:Type} [Inhabited α] {l:List α}{i:Nat}(h:i<l.length):l.take (i+1)=l.take i ++ [l.getD i default]:=by
 rw[List.take_succ_eq_append_getElem h]
 simp[List.getD,h]
theorem W0 (x:Int):IntKind.i64.wrap x<9223372036854775808:=by
 show (if (true && decide (x % (2 ^ 64:Int) ≥ (2 ^ 63:Int)))=true then x % (2 ^ 64:Int)-(2 ^ 64:Int) else x % (2 ^ 64:Int))<_
 simp only[Bool.true_and,decide_eq_true_eq]
 split <;> omega
theorem Af {P:Nat→Prop}:(∀ t,t∈([]:List Nat)→P t)=True:=by simp
theorem Ag {P:Nat→Prop}{a:Nat}{l:List Nat}:(∀ t,t∈a :: l→P t)=(P a∧∀ t,t∈l→P t):=by simp
theorem Di {i:Nat}(h:i<9223372036854775807):IntKind.i64.wrap ((i:Int)+1)=((i+1:Nat):Int):=by
 rw[H4 (by omega) (by omega)];rfl
theorem Fr.rd0 {N:Nat}{A B:Aa}(h:Fr N [] A B):(∀ b,b<A.n→B.rd b=A.rd b)∧(∀ b,b<A.n→B.get b=A.get b) :=
 ⟨fun b hb=>h.rd hb (by simp),fun b hb=>h.old b hb (by simp)⟩
theorem Fr.rdX {N:Nat}{X:List Nat}{A B:Aa}(h:Fr N X A B):(∀ b,b<A.n→b∉X→B.rd b=A.rd b)∧(∀ b,b<A.n→b∉X→B.get b=A.get b) :=
 ⟨fun b hb hx=>h.rd hb hx,fun b hb hx=>h.old b hb hx⟩
section
variable {P:Program} {C:Bk} {Or:Li} {ng nt:Nat}
theorem B1F {f:Operand}{ps:Array Tmp}{asg body:Code}{env:Bi}{H:Aa}{Q:I0}
  (h:∃ v H1,Gj C (ev env f) #[.func (.yield H.n) #[] #[]] (H.upd (H.n+1) H.n (.loop nt env ps asg body .ready none)) v H1 ∧
   H1.get H.n=.loop nt env ps asg body .ready none∧Q .normal env (H1.upd H1.n H.n (.loop nt env ps asg body .exhausted none))):W P C ng nt (.rangeFunc f ps asg body) env H Q:=by
 obtain⟨v,H1,h1,h2,h3⟩:=h
 exact⟨_,_,_,.range h1 h2 (by simp) (ex:=.normal) rfl,h3⟩
theorem B1G {l:Nat}{args:Array Value}{h:Aa}{env:Bi}{ps:Array Tmp}{asg body:Code}{R:Aa→Prop}
  (h0:h.get l=.loop nt env ps asg body .ready none)(hs:args.size=ps.size)(hp:(ps.all fun t=>decide (t<nt))=true)(o1:Do ng nt asg=true)(o2:Do ng nt body=true)(o3:Dr asg=true)(o4:Dr body=true)
  (hr:W P (Cl P Or ng) ng nt asg (L2 ps args env) h fun x e1 h1=>x=.normal∧h1.get l=.loop nt env ps asg body .ready none ∧
   W P (Cl P Or ng) ng nt body e1 (h1.upd h1.n l (.loop nt env ps asg body .busy none)) fun x e2 h2=>x=.normal∧h2.get l=.loop nt env ps asg body .busy none∧R (h2.upd h2.n l (.loop nt env ps asg body .ready none))) :
  ∃ H',Cl P Or ng (.yield l) args h (.bool true) H'∧R H':=by
 obtain⟨x,e1,h1,r1,rfl,g1,x2,e2,h2,r2,rfl,g2,q⟩:=hr
 exact⟨_,Cl.round h0 hs hp o1 o2 o3 o4 r1 g1 r2 g2,q⟩
end
theorem Zw {a b:Nat}{x y:Value}{env:Bi}:L2 #[a,b] #[x,y] env=(env.put a x).put b y:=rfl
end Go.Proofs.Swa
