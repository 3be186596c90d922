/- Part 3 of a proof. -/
import Derived.Test.YtkjcijlaehflhaaP02
set_option linter.unusedVariables false
set_option linter.unusedSimpArgs false
namespace Go.Proofs.Swa
open Go
abbrev Post:=Ex→Env→AHeap→Prop
section
variable {P:Program} {C:CallRel} {ng nt:Nat}
def W (P:Program) (C:CallRel) (ng nt:Nat) (c:Code) (env:Env) (H:AHeap) (Q:Post):Prop:=∃ x env' H',ARun P C ng nt c env H x env' H'∧Q x env' H'
def WO (P:Program) (C:CallRel) (ops:Array Oper) (os:List Oper) (K:Env→AHeap→Prop) (env:Env) (H:AHeap):Prop:=∃ env' H',OpsRun P C ops os env H env' H'∧K env' H'
@[reducible] def seqK (P:Program) (C:CallRel) (ng nt:Nat) (b:Code) (Q:Post):Post:=fun x e h=>match x with
 | .normal=>W P C ng nt b e h Q
 | .exit i=>Q (.exit i) e h
 | .ret=>Q .ret e h
@[reducible] def blockK (id:Nat) (Q:Post):Post:=fun x e h=>match x with
 | .normal=>Q .normal e h
 | .exit i=>if i=id then Q .normal e h else Q (.exit i) e h
 | .ret=>Q .ret e h
theorem W_mono {c:Code} {env:Env} {H:AHeap} {Q Q':Post} (h:W P C ng nt c env H Q) (k:∀ x e h,Q x e h→Q' x e h):W P C ng nt c env H Q':=by
 obtain ⟨x,e,H',r,q⟩:=h
 exact ⟨x,e,H',r,k _ _ _ q⟩
theorem W_skip {env:Env} {H:AHeap} {Q:Post} (h:Q .normal env H):W P C ng nt .skip env H Q:=⟨_,_,_,.skip,h⟩
theorem W_exit {i:Nat} {env:Env} {H:AHeap} {Q:Post} (h:Q (.exit i) env H):W P C ng nt (.exit i) env H Q:=⟨_,_,_,.exit,h⟩
theorem W_ret {env:Env} {H:AHeap} {Q:Post} (h:Q .ret env H):W P C ng nt .ret env H Q:=⟨_,_,_,.ret,h⟩
theorem W_seq {a b:Code} {env:Env} {H:AHeap} {Q:Post} (h:W P C ng nt a env H (seqK P C ng nt b Q)):W P C ng nt (.seq a b) env H Q:=by
 obtain ⟨x,e,H',r,q⟩:=h
 cases x with
 | normal=>obtain ⟨x2,e2,H2,r2,q2⟩:=q;exact ⟨x2,e2,H2,.seqN r r2,q2⟩
 | exit i=>exact ⟨_,e,H',.seqX r (by simp),q⟩
 | ret=>exact ⟨_,e,H',.seqX r (by simp),q⟩
theorem W_block {id:Nat} {b:Code} {env:Env} {H:AHeap} {Q:Post} (h:W P C ng nt b env H (blockK id Q)):W P C ng nt (.block id b) env H Q:=by
 obtain ⟨x,e,H',r,q⟩:=h
 cases x with
 | normal=>exact ⟨_,e,H',.blockX r (by simp),q⟩
 | exit i =>
  simp only [blockK] at q
  by_cases hi:i=id
  ·subst hi
   rw [if_pos rfl] at q
   exact ⟨_,e,H',.blockE r,q⟩
  ·rw [if_neg hi] at q
   exact ⟨_,e,H',.blockX r (by simpa using hi),q⟩
 | ret=>exact ⟨_,e,H',.blockX r (by simp),q⟩
theorem W_cond {c:Operand} {a b:Code} {env:Env} {H:AHeap} {Q:Post} {t:Bool} (hc:ev env c=.bool t) (h1:t=true→W P C ng nt a env H Q) (h2:t=false→W P C ng nt b env H Q):W P C ng nt (.cond c a b) env H Q:=by
 cases t with
 | true=>obtain ⟨x,e,H',r,q⟩:=h1 rfl;exact ⟨x,e,H',.cond hc (by simpa using r),q⟩
 | false=>obtain ⟨x,e,H',r,q⟩:=h2 rfl;exact ⟨x,e,H',.cond hc (by simpa using r),q⟩
theorem W_loop {b:Code} {env:Env} {H:AHeap} {Q:Post} (I:Nat→Env→AHeap→Prop)
  (hI:∀ n e h,I n e h→W P C ng nt b e h fun x e' h'=>match x with
   | .normal=>∃ m,m < n∧I m e' h'
   | .exit i=>Q (.exit i) e' h'
   | .ret=>Q .ret e' h') (n:Nat) (h:I n env H):W P C ng nt (.loop b) env H Q:=by
 induction n using Nat.strongRecOn generalizing env H with
 | ind n ih =>
  obtain ⟨x,e,H',r,q⟩:=hI n env H h
  cases x with
  | normal =>
   obtain ⟨m,hm,hi⟩:=q
   obtain ⟨x2,e2,H2,r2,q2⟩:=ih m hm hi
   exact ⟨x2,e2,H2,.loopN r r2,q2⟩
  | exit i=>exact ⟨_,e,H',.loopX r (by simp),q⟩
  | ret=>exact ⟨_,e,H',.loopX r (by simp),q⟩
theorem W_region {id:Nat} {l:List Oper} {env:Env} {H:AHeap} {Q:Post} (h:∀ K:Env→AHeap→Prop,(∀ e h,Q .normal e h→K e h)→WO P C ⟨l⟩ l K env H):W P C ng nt (.region id ⟨l⟩ false) env H Q:=by
 obtain ⟨e,H',r,q⟩:=h (fun e h=>Q .normal e h) (fun _ _ h=>h)
 exact ⟨_,e,H',.region r,q⟩
end
def tok {α:Sort _} (x:α):α:=x
def oV (x:Option Value) (k:Value→Prop):Prop:=match x with|some v=>k v|none=>False
def oB (x:Option (Value×AHeap)) (k:Value→AHeap→Prop):Prop:=match x with|some (v,h)=>k v h|none=>False
def oH (x:Option AHeap) (k:AHeap→Prop):Prop:=match x with|some h=>k h|none=>False
@[simp] theorem oV_some (v:Value) (k:Value→Prop):oV (some v) k=k v:=rfl
@[simp] theorem oB_some (v:Value) (h:AHeap) (k:Value→AHeap→Prop):oB (some (v,h)) k=k v h:=rfl
@[simp] theorem oH_some (h:AHeap) (k:AHeap→Prop):oH (some h) k=k h:=rfl
theorem oV_congr {x x':Option Value} (h:x=x') (k:Value→Prop):oV x k=oV x' k:=by rw [h]
theorem oB_congr {x x':Option (Value×AHeap)} (h:x=x') (k:Value→AHeap→Prop):oB x k=oB x' k:=by rw [h]
theorem oH_congr {x x':Option AHeap} (h:x=x') (k:AHeap→Prop):oH x k=oH x' k:=by rw [h]
theorem WO_congr {P:Program} {C:CallRel} {ops:Array Oper} {os:List Oper} {K:Env→AHeap→Prop} {env env':Env} {H H':AHeap} (h:env=env') (k:H=H'):WO P C ops os K env H=WO P C ops os K env' H':=by rw [h,k]
section
variable {P:Program} {C:CallRel} {ops:Array Oper} {os:List Oper} {K:Env→AHeap→Prop} {env:Env} {H:AHeap} {dst:Option Tmp} {ty:TypeId} {pos:String} {aft:Array Edge}
theorem WO_nil:WO P C ops [] K env H=K env H:=by
 refine propext ⟨fun h=>?_,fun h=>⟨env,H,⟨rfl,rfl⟩,h⟩⟩
 obtain ⟨e,h',⟨rfl,rfl⟩,q⟩:=h
 exact q
theorem WO_fn {op:Op} (hc:∀ c,op=.call c→∃ b,c.callee=.builtin b) :
  WO P C ops (⟨dst,op,ty,pos,aft,none⟩ :: os) K env H=oB (opF P env ⟨dst,op,ty,pos,aft,none⟩ H) fun v h=>WO P C ops os K (env.set dst v) h:=by
 have hA:∀ v h',AOp P C env ⟨dst,op,ty,pos,aft,none⟩ H v h'↔opF P env ⟨dst,op,ty,pos,aft,none⟩ H=some (v,h'):=by
  intro v h'
  unfold AOp
  split
  ·rename_i f args ts he
   simp only at he
   obtain ⟨b,e⟩:=hc _ he
   cases e
  ·rename_i f args ts he
   simp only at he
   obtain ⟨b,e⟩:=hc _ he
   cases e
  ·rfl
 refine propext ⟨?_, ?_⟩
 ·rintro ⟨e,h',⟨e1,h1,hs,hr⟩,q⟩
  rcases hs with ⟨_,v,ha,rfl⟩|⟨hw,_⟩
  ·rw [(hA _ _).1 ha]
   exact ⟨e,h',hr,q⟩
  ·simp [Region.wanted] at hw
 ·intro h
  cases ho:opF P env ⟨dst,op,ty,pos,aft,none⟩ H with
  | none=>rw [ho] at h;exact h.elim
  | some p =>
   obtain ⟨v,h1⟩:=p
   rw [ho] at h
   obtain ⟨e,h',hr,q⟩:=h
   exact ⟨e,h',⟨_,_,.inl ⟨rfl,v,(hA _ _).2 ho,rfl⟩,hr⟩,q⟩
theorem oB_map (x:Option Value) (k:Value→AHeap→Prop):oB (x.map (·,H)) k=oV x fun v=>k v H:=by cases x <;> rfl
theorem oB_mapH (x:Option AHeap) (v:Value) (k:Value→AHeap→Prop):oB (x.map (v,·)) k=oH x fun h=>k v h:=by cases x <;> rfl
theorem WO_guard {op:Op} {j:Nat} {b:Bool} :
  WO P C ops (⟨dst,op,ty,pos,aft,some (j,b)⟩ :: os) K env H =
   if yieldedA ops env j=some b then WO P C ops (⟨dst,op,ty,pos,aft,none⟩ :: os) K env H else WO P C ops os K (env.set dst undef) H:=by
 refine propext ⟨?_, ?_⟩
 ·rintro ⟨e,h',⟨e1,h1,hs,hr⟩,q⟩
  rcases hs with ⟨hw,v,ha,rfl⟩|⟨hw,rfl,rfl⟩
  ·rw [if_pos (by simpa [Region.wanted] using hw)]
   exact ⟨e,h',⟨_,_,.inl ⟨rfl,v,ha,rfl⟩,hr⟩,q⟩
  ·rw [if_neg (by simpa [Region.wanted] using hw)]
   exact ⟨e,h',hr,q⟩
 ·intro h
  split at h
  ·rename_i hw
   obtain ⟨e,h',⟨e1,h1,hs,hr⟩,q⟩:=h
   rcases hs with ⟨_,v,ha,rfl⟩|⟨hw',_⟩
   ·exact ⟨e,h',⟨_,_,.inl ⟨by simpa [Region.wanted] using hw,v,ha,rfl⟩,hr⟩,q⟩
   ·simp [Region.wanted] at hw'
  ·rename_i hw
   obtain ⟨e,h',hr,q⟩:=h
   exact ⟨e,h',⟨_,_,.inr ⟨by simpa [Region.wanted] using hw,rfl,rfl⟩,hr⟩,q⟩
theorem WO_guardT {op:Op} {j:Nat} {t:Bool} (hy:yieldedA ops env j=some t) (h1:t=true→WO P C ops (⟨dst,op,ty,pos,aft,none⟩ :: os) K env H) (h2:t=false→WO P C ops os K (env.set dst undef) H) :
  WO P C ops (⟨dst,op,ty,pos,aft,some (j,true)⟩ :: os) K env H:=by
 rw [WO_guard,hy]
 cases t with
 | true=>simpa using h1 rfl
 | false=>simpa using h2 rfl
theorem WO_guardF {op:Op} {j:Nat} {t:Bool} (hy:yieldedA ops env j=some t) (h1:t=false→WO P C ops (⟨dst,op,ty,pos,aft,none⟩ :: os) K env H) (h2:t=true→WO P C ops os K (env.set dst undef) H) :
  WO P C ops (⟨dst,op,ty,pos,aft,some (j,false)⟩ :: os) K env H:=by
 rw [WO_guard,hy]
 cases t with
 | false=>simpa using h1 rfl
 | true=>simpa using h2 rfl
theorem WO_call {f:Operand} {args:Array Operand} {ts:Array TypeId} {v:Value} {H1:AHeap} (h:callV C (ev env f) (args.map (ev env)) H v H1) (k:WO P C ops os K (env.set dst v) H1) :
  WO P C ops (⟨dst,.call ⟨.value f,args,ts⟩,ty,pos,aft,none⟩ :: os) K env H:=by
 obtain ⟨e,h',hr,q⟩:=k
 exact ⟨e,h',⟨_,_,.inl ⟨rfl,v,h,rfl⟩,hr⟩,q⟩
def asB (v:Value) (k:Bool→Prop):Prop:=match v with|.bool b=>k b|_=>False
@[simp] theorem asB_bool (b:Bool) (k:Bool→Prop):asB (.bool b) k=k b:=rfl
theorem WO_move (x:Operand):WO P C ops (⟨dst,.move x,ty,pos,aft,none⟩ :: os) K env H=WO P C ops os K (tok (env.set dst (ev env x))) H:=by
 rw [WO_fn (by intro c e;cases e <;> exact ⟨_,rfl⟩)]
 first|rfl|exact oB_map _ _|exact oB_mapH _ _ _
theorem WO_assign (x:Operand):WO P C ops (⟨dst,.assign x,ty,pos,aft,none⟩ :: os) K env H=WO P C ops os K (tok (env.set dst (ev env x))) H:=by
 rw [WO_fn (by intro c e;cases e <;> exact ⟨_,rfl⟩)]
 first|rfl|exact oB_map _ _|exact oB_mapH _ _ _
theorem WO_alloc (t:TypeId):WO P C ops (⟨dst,.alloc t,ty,pos,aft,none⟩ :: os) K env H=oB (tok (allocA P t H)) fun v h=>WO P C ops os K (tok (env.set dst v)) h:=by
 rw [WO_fn (by intro c e;cases e <;> exact ⟨_,rfl⟩)]
 first|rfl|exact oB_map _ _|exact oB_mapH _ _ _
theorem WO_box (t:TypeId) (x:Operand):WO P C ops (⟨dst,.box t x,ty,pos,aft,none⟩ :: os) K env H=oB (tok (boxA t H (ev env x))) fun v h=>WO P C ops os K (tok (env.set dst v)) h:=by
 rw [WO_fn (by intro c e;cases e <;> exact ⟨_,rfl⟩)]
 first|rfl|exact oB_map _ _|exact oB_mapH _ _ _
theorem WO_build (t:TypeId) (ps:Array (Nat×Operand)):WO P C ops (⟨dst,.build t ps,ty,pos,aft,none⟩ :: os) K env H=oV (tok (buildA P t (ps.toList.map fun p=>(p.1,ev env p.2)))) fun v=>WO P C ops os K (tok (env.set dst v)) H:=by
 rw [WO_fn (by intro c e;cases e <;> exact ⟨_,rfl⟩)]
 first|rfl|exact oB_map _ _|exact oB_mapH _ _ _
theorem WO_buildSlice (t:TypeId) (n:Nat) (ps:Array (Nat×Operand)):WO P C ops (⟨dst,.buildSlice t n ps,ty,pos,aft,none⟩ :: os) K env H=oB (tok (buildSliceA P t n (ps.toList.map fun p=>(p.1,ev env p.2)) H)) fun v h=>WO P C ops os K (tok (env.set dst v)) h:=by
 rw [WO_fn (by intro c e;cases e <;> exact ⟨_,rfl⟩)]
 first|rfl|exact oB_map _ _|exact oB_mapH _ _ _
theorem WO_load (t:TypeId) (x:Operand):WO P C ops (⟨dst,.load t x,ty,pos,aft,none⟩ :: os) K env H=oV (tok (loadA P t H (ev env x))) fun v=>WO P C ops os K (tok (env.set dst v)) H:=by
 rw [WO_fn (by intro c e;cases e <;> exact ⟨_,rfl⟩)]
 first|rfl|exact oB_map _ _|exact oB_mapH _ _ _
theorem WO_store (t:TypeId) (a x:Operand):WO P C ops (⟨dst,.store t a x,ty,pos,aft,none⟩ :: os) K env H=oH (tok (storeA P t H (ev env a) (ev env x))) fun h=>WO P C ops os K (tok (env.set dst undef)) h:=by
 rw [WO_fn (by intro c e;cases e <;> exact ⟨_,rfl⟩)]
 first|rfl|exact oB_map _ _|exact oB_mapH _ _ _
theorem WO_nilCheck (x:Operand):WO P C ops (⟨dst,.nilCheck x,ty,pos,aft,none⟩ :: os) K env H=oV (tok (nilCheckA (ev env x))) fun v=>WO P C ops os K (tok (env.set dst v)) H:=by
 rw [WO_fn (by intro c e;cases e <;> exact ⟨_,rfl⟩)]
 first|rfl|exact oB_map _ _|exact oB_mapH _ _ _
theorem WO_makeFunc (f:FuncId) (a c:Array Operand):WO P C ops (⟨dst,.makeFunc (.func f) a c,ty,pos,aft,none⟩ :: os) K env H=WO P C ops os K (tok (env.set dst (.func (.func f) (a.map (ev env)) (c.map (ev env))))) H:=by
 rw [WO_fn (by intro c e;cases e <;> exact ⟨_,rfl⟩)]
 first|rfl|exact oB_map _ _|exact oB_mapH _ _ _
theorem WO_makeSlice (t:TypeId) (l c:Operand):WO P C ops (⟨dst,.makeSlice t l c,ty,pos,aft,none⟩ :: os) K env H=oB (tok (makeSliceA P t (ev env l) (ev env c) H)) fun v h=>WO P C ops os K (tok (env.set dst v)) h:=by
 rw [WO_fn (by intro c e;cases e <;> exact ⟨_,rfl⟩)]
 first|rfl|exact oB_map _ _|exact oB_mapH _ _ _
theorem WO_slice (t:TypeId) (x:Operand) (lo hi mx:Option Operand):WO P C ops (⟨dst,.slice t x lo hi mx,ty,pos,aft,none⟩ :: os) K env H=oV (tok (sliceA P H t (ev env x) (lo.map (ev env)) (hi.map (ev env)) (mx.map (ev env)))) fun v=>WO P C ops os K (tok (env.set dst v)) H:=by
 rw [WO_fn (by intro c e;cases e <;> exact ⟨_,rfl⟩)]
 first|rfl|exact oB_map _ _|exact oB_mapH _ _ _
theorem WO_fieldAddr (t:TypeId) (x:Operand) (f:Nat):WO P C ops (⟨dst,.fieldAddr t x f,ty,pos,aft,none⟩ :: os) K env H=oV (tok (fieldAddrA P t (ev env x) f)) fun v=>WO P C ops os K (tok (env.set dst v)) H:=by
 rw [WO_fn (by intro c e;cases e <;> exact ⟨_,rfl⟩)]
 first|rfl|exact oB_map _ _|exact oB_mapH _ _ _
theorem WO_field (t:TypeId) (x:Operand) (f:Nat):WO P C ops (⟨dst,.field t x f,ty,pos,aft,none⟩ :: os) K env H=oV (tok (fieldA P t (ev env x) f)) fun v=>WO P C ops os K (tok (env.set dst v)) H:=by
 rw [WO_fn (by intro c e;cases e <;> exact ⟨_,rfl⟩)]
 first|rfl|exact oB_map _ _|exact oB_mapH _ _ _
theorem WO_indexAddr (t:TypeId) (x i:Operand):WO P C ops (⟨dst,.indexAddr t x i,ty,pos,aft,none⟩ :: os) K env H=oV (tok (indexAddrA P t (ev env x) (ev env i))) fun v=>WO P C ops os K (tok (env.set dst v)) H:=by
 rw [WO_fn (by intro c e;cases e <;> exact ⟨_,rfl⟩)]
 first|rfl|exact oB_map _ _|exact oB_mapH _ _ _
theorem WO_index (t:TypeId) (x i:Operand):WO P C ops (⟨dst,.index t x i,ty,pos,aft,none⟩ :: os) K env H=oV (tok (indexA P t (ev env x) (ev env i))) fun v=>WO P C ops os K (tok (env.set dst v)) H:=by
 rw [WO_fn (by intro c e;cases e <;> exact ⟨_,rfl⟩)]
 first|rfl|exact oB_map _ _|exact oB_mapH _ _ _
theorem WO_extract (x:Operand) (i:Nat):WO P C ops (⟨dst,.extract x i,ty,pos,aft,none⟩ :: os) K env H=oV (tok (extractA (ev env x) i)) fun v=>WO P C ops os K (tok (env.set dst v)) H:=by
 rw [WO_fn (by intro c e;cases e <;> exact ⟨_,rfl⟩)]
 first|rfl|exact oB_map _ _|exact oB_mapH _ _ _
theorem WO_makeMap (t:TypeId):WO P C ops (⟨dst,.makeMap t none,ty,pos,aft,none⟩ :: os) K env H=WO P C ops os K (tok (env.set dst (.map (some H.n)))) (H.alloc (.map [])):=by
 rw [WO_fn (by intro c e;cases e <;> exact ⟨_,rfl⟩)]
 first|rfl|exact oB_map _ _|exact oB_mapH _ _ _
theorem WO_lookup (t:TypeId) (x i:Operand) (ok:Bool):WO P C ops (⟨dst,.lookup t x i ok,ty,pos,aft,none⟩ :: os) K env H=oV (tok (lookupA P t (ev env x) (ev env i) ok H)) fun v=>WO P C ops os K (tok (env.set dst v)) H:=by
 rw [WO_fn (by intro c e;cases e <;> exact ⟨_,rfl⟩)]
 first|rfl|exact oB_map _ _|exact oB_mapH _ _ _
theorem WO_mapUpdate (t:TypeId) (m i x:Operand):WO P C ops (⟨dst,.mapUpdate t m i x,ty,pos,aft,none⟩ :: os) K env H=oH (tok (mapUpdateA P t (ev env m) (ev env i) (ev env x) H)) fun h=>WO P C ops os K (tok (env.set dst undef)) h:=by
 rw [WO_fn (by intro c e;cases e <;> exact ⟨_,rfl⟩)]
 first|rfl|exact oB_map _ _|exact oB_mapH _ _ _
theorem WO_next (x:Operand):WO P C ops (⟨dst,.next x true,ty,pos,aft,none⟩ :: os) K env H=oB (tok (nextA (ev env x) H)) fun v h=>WO P C ops os K (tok (env.set dst v)) h:=by
 rw [WO_fn (by intro c e;cases e <;> exact ⟨_,rfl⟩)]
 first|rfl|exact oB_map _ _|exact oB_mapH _ _ _
theorem WO_append (args:Array Operand) (ts:Array TypeId):WO P C ops (⟨dst,.call ⟨.builtin .append,args,ts⟩,ty,pos,aft,none⟩ :: os) K env H=oB (tok (appendOp P ts (args.toList.map (ev env)) H)) fun v h=>WO P C ops os K (tok (env.set dst v)) h:=by
 rw [WO_fn (by intro c e;cases e <;> exact ⟨_,rfl⟩)]
 first|rfl|exact oB_map _ _|exact oB_mapH _ _ _
end
def keep (x:Option Value):Option Value:=match x with|some v=>if dflat v=true then some v else none|none=>none
def bopA (P:Program) (op:BinOp) (t:TypeId) (x y:Operand) (a b:Value):Option Value :=
 if dflat a=true∧dflat b=true then keep (pr P (do eqGuard op t x y a b;binOp op t a b:Sem Value))
 else match op,P.underlying t with
  | .eql,some d=>(eqNil d a b).map .bool
  | .neq,some d=>(eqNil d a b).map fun b=>.bool !b
  | _,_=>none
def uopA (P:Program) (op:UnOp) (a:Value):Option Value:=if dflat a=true then keep (pr P (Op.unary op a)) else none
def convA (P:Program) (s d:TypeId) (a:Value):Option Value:=if dflat a=true then keep (pr P (convert s d a)) else none
def mmA (P:Program) (mx:Bool) (as:Array Value):Option Value:=if (as.all dflat)=true then keep (pr P (if mx=true then Builtin.max_ #[] 0 as else Builtin.min_ #[] 0 as)) else none
def lenV (P:Program) (t:TypeId) (x:Value) (H:AHeap):Option Value:=lenA P (fun _=>undef) default t x H
theorem keep_pr {P:Program} {s:Sem Value}:(match pr P (do pure (.value (← s)):Sem Next) with|some (.value v)=>if dflat v=true then some v else none|_=>none)=keep (pr P s):=by
 simp only [pr_bind',pr_pure]
 cases pr P s <;> rfl
section
variable {P:Program} {C:CallRel} {ops:Array Oper} {os:List Oper} {K:Env→AHeap→Prop} {env:Env} {H:AHeap} {dst:Option Tmp} {ty:TypeId} {pos:String} {aft:Array Edge}
theorem WO_binOp (op:BinOp) (t:TypeId) (x y:Operand) (yt:TypeId):WO P C ops (⟨dst,.binOp op t x y yt,ty,pos,aft,none⟩ :: os) K env H=oV (tok (bopA P op t x y (ev env x) (ev env y))) fun v=>WO P C ops os K (tok (env.set dst v)) H:=by
 rw [WO_fn (by intro c e;cases e)]
 refine (oB_map (binA P env ⟨dst,.binOp op t x y yt,ty,pos,aft,none⟩ op t (ev env x) (ev env y)) _).trans (oV_congr ?_ _)
 unfold binA bopA
 split
 ·exact keep_pr
 ·rfl
theorem WO_unOp (op:UnOp) (t:TypeId) (x:Operand):WO P C ops (⟨dst,.unOp op t x,ty,pos,aft,none⟩ :: os) K env H=oV (tok (uopA P op (ev env x))) fun v=>WO P C ops os K (tok (env.set dst v)) H:=by
 rw [WO_fn (by intro c e;cases e)]
 refine (oB_map (flatOp P env ⟨dst,.unOp op t x,ty,pos,aft,none⟩) _).trans (oV_congr ?_ _)
 have h1:((Op.operands (.unOp op t x)).all fun x=>dflat (ev env x))=dflat (ev env x):=by simp [Op.operands]
 unfold flatOp uopA
 simp only [h1]
 refine ite_congr rfl (fun _=>?_) fun _=>rfl
 exact keep_pr
theorem WO_convert (s d:TypeId) (x:Operand):WO P C ops (⟨dst,.convert s d x,ty,pos,aft,none⟩ :: os) K env H=oV (tok (convA P s d (ev env x))) fun v=>WO P C ops os K (tok (env.set dst v)) H:=by
 rw [WO_fn (by intro c e;cases e)]
 refine (oB_map (flatOp P env ⟨dst,.convert s d x,ty,pos,aft,none⟩) _).trans (oV_congr ?_ _)
 have h1:((Op.operands (.convert s d x)).all fun x=>dflat (ev env x))=dflat (ev env x):=by simp [Op.operands]
 unfold flatOp convA
 simp only [h1]
 refine ite_congr rfl (fun _=>?_) fun _=>rfl
 exact keep_pr
theorem WO_pick (c a b:Operand):WO P C ops (⟨dst,.pick c a b,ty,pos,aft,none⟩ :: os) K env H=asB (ev env c) fun t=>WO P C ops os K (tok (env.set dst (if t=true then ev env a else ev env b))) H:=by
 rw [WO_fn (by intro c e;cases e)]
 simp only [opF]
 cases ev env c <;> rfl
theorem WO_len (t:TypeId) (x:Operand):WO P C ops (⟨dst,.call ⟨.builtin .len,#[x],#[t]⟩,ty,pos,aft,none⟩ :: os) K env H=oV (tok (lenV P t (ev env x) H)) fun v=>WO P C ops os K (tok (env.set dst v)) H:=by
 rw [WO_fn (by intro c e;cases e;exact ⟨_,rfl⟩)]
 exact oB_map _ _
theorem WO_cap (t:TypeId) (x:Operand):WO P C ops (⟨dst,.call ⟨.builtin .cap,#[x],#[t]⟩,ty,pos,aft,none⟩ :: os) K env H=oV (tok (capA P t (ev env x) H)) fun v=>WO P C ops os K (tok (env.set dst v)) H:=by
 rw [WO_fn (by intro c e;cases e;exact ⟨_,rfl⟩)]
 exact oB_map _ _
theorem WO_range (t:TypeId) (x:Operand):WO P C ops (⟨dst,.range t x,ty,pos,aft,none⟩ :: os) K env H =
  oB (match P.underlying t,ev env x with|some .string,.string s=>some (vptr H.n 0,H.alloc (.iter s 0))|_,_=>none) fun v h=>WO P C ops os K (tok (env.set dst v)) h:=by
 rw [WO_fn (by intro c e;cases e)]
 rfl
theorem minmax_flat (b:Builtin) (hb:b=.min∨b=.max) (args:Array Operand) (ts:Array TypeId) :
  flatOp P env ⟨dst,.call ⟨.builtin b,args,ts⟩,ty,pos,aft,none⟩=mmA P (decide (b=.max)) (args.map (ev env)):=by
 unfold flatOp mmA
 have h1:(Op.call ⟨.builtin b,args,ts⟩).operands=args:=by simp [Op.operands,Call.operands]
 simp only [h1,Array.all_map]
 refine ite_congr rfl (fun _=>?_) fun _=>rfl
 unfold prOp
 rcases hb with rfl|rfl
 ·exact keep_pr (s:=Builtin.min_ ts ty (args.map (ev env)))
 ·exact keep_pr (s:=Builtin.max_ ts ty (args.map (ev env)))
theorem WO_min (args:Array Operand) (ts:Array TypeId):WO P C ops (⟨dst,.call ⟨.builtin .min,args,ts⟩,ty,pos,aft,none⟩ :: os) K env H=oV (tok (mmA P false (args.map (ev env)))) fun v=>WO P C ops os K (tok (env.set dst v)) H:=by
 rw [WO_fn (by intro c e;cases e;exact ⟨_,rfl⟩)]
 refine (oB_map (flatOp P env ⟨dst,.call ⟨.builtin .min,args,ts⟩,ty,pos,aft,none⟩) _).trans (oV_congr ?_ _)
 exact minmax_flat .min (.inl rfl) args ts
theorem WO_max (args:Array Operand) (ts:Array TypeId):WO P C ops (⟨dst,.call ⟨.builtin .max,args,ts⟩,ty,pos,aft,none⟩ :: os) K env H=oV (tok (mmA P true (args.map (ev env)))) fun v=>WO P C ops os K (tok (env.set dst v)) H:=by
 rw [WO_fn (by intro c e;cases e;exact ⟨_,rfl⟩)]
 refine (oB_map (flatOp P env ⟨dst,.call ⟨.builtin .max,args,ts⟩,ty,pos,aft,none⟩) _).trans (oV_congr ?_ _)
 exact minmax_flat .max (.inr rfl) args ts
end
section
variable {P:Program} {t:TypeId} {x y:Operand} {k:IntKind} {a b:Int}
theorem bop_add:bopA P .add t x y (.int k a) (.int k b)=some (.int k (k.wrap (a + b))):=by simp [bopA,dflat,flat,eqGuard,binOp,Op.intArith,keep]
theorem bop_sub:bopA P .sub t x y (.int k a) (.int k b)=some (.int k (k.wrap (a - b))):=by simp [bopA,dflat,flat,eqGuard,binOp,Op.intArith,keep]
theorem bop_mul:bopA P .mul t x y (.int k a) (.int k b)=some (.int k (k.wrap (a * b))):=by simp [bopA,dflat,flat,eqGuard,binOp,Op.intArith,keep]
theorem bop_quo (h:b≠0):bopA P .quo t x y (.int k a) (.int k b)=some (.int k (k.wrap (a.tdiv b))):=by simp [bopA,dflat,flat,eqGuard,binOp,Op.intDiv,keep,h]
theorem bop_rem (h:b≠0):bopA P .rem t x y (.int k a) (.int k b)=some (.int k (a.tmod b)):=by simp [bopA,dflat,flat,eqGuard,binOp,Op.intDiv,keep,h]
theorem bop_xor:bopA P .xor t x y (.int k a) (.int k b)=some (.int k (k.wrap (BitVec.ofInt k.bits a ^^^ BitVec.ofInt k.bits b).toNat)):=by simp [bopA,dflat,flat,eqGuard,binOp,Op.intBits,keep]
theorem bop_shl {k':IntKind} (h:0≤b):bopA P .shl t x y (.int k a) (.int k' b)=some (.int k (k.wrap (a * 2 ^ (min b.toNat k.bits)))):=by simp [bopA,dflat,flat,eqGuard,binOp,Op.shift,keep,Int.not_lt.2 h]
theorem bop_shr {k':IntKind} (h:0≤b):bopA P .shr t x y (.int k a) (.int k' b)=some (.int k (a.fdiv (2 ^ (min b.toNat k.bits)))):=by simp [bopA,dflat,flat,eqGuard,binOp,Op.shift,keep,Int.not_lt.2 h]
theorem bop_lss:bopA P .lss t x y (.int k a) (.int k b)=some (.bool (decide (a < b))):=by simp [bopA,dflat,flat,eqGuard,binOp,Op.intCmp,keep]
theorem bop_leq:bopA P .leq t x y (.int k a) (.int k b)=some (.bool (decide (a≤b))):=by simp [bopA,dflat,flat,eqGuard,binOp,Op.intCmp,keep]
theorem bop_gtr:bopA P .gtr t x y (.int k a) (.int k b)=some (.bool (decide (b < a))):=by simp [bopA,dflat,flat,eqGuard,binOp,Op.intCmp,keep]
theorem bop_geq:bopA P .geq t x y (.int k a) (.int k b)=some (.bool (decide (b≤a))):=by simp [bopA,dflat,flat,eqGuard,binOp,Op.intCmp,keep]
theorem bop_eql:bopA P .eql t x y (.int k a) (.int k b)=some (.bool (decide (a=b))):=by
 have:(a == b)=decide (a=b):=rfl
 simp [bopA,dflat,flat,eqGuard,binOp,Op.intCmp,keep,this]
theorem bop_neq:bopA P .neq t x y (.int k a) (.int k b)=some (.bool (decide (a≠b))):=by
 have:(a != b)=decide (a≠b):=by by_cases h:a=b <;> simp [h]
 simp [bopA,dflat,flat,eqGuard,binOp,Op.intCmp,keep,this]
theorem equalIn_bool (d:Nat) (hu:P.underlying t=some .bool) (p q:Bool):pr P (Op.equalIn (d + 1) t (.bool p) (.bool q))=some (p == q):=by
 simp only [Op.equalIn,pr_bind',underlying,pr_program,Option.bind_some,hu,pr_pure]
theorem equal_bool (hu:P.underlying t=some .bool) (p q:Bool):pr P (Op.equal t (.bool p) (.bool q))=some (p == q):=equalIn_bool 9999 hu p q
theorem bop_eqlB (hu:P.underlying t=some .bool) {p q:Bool}:bopA P .eql t x y (.bool p) (.bool q)=some (.bool (decide (p=q))):=by
 have:(p == q)=decide (p=q):=by cases p <;> cases q <;> rfl
 simp only [bopA,dflat,flat,eqGuard,binOp,pr_bind',pr_pure,equal_bool hu,Option.bind_some,keep,and_self,if_true,this,Bool.not_true,Bool.false_eq_true,if_false]
theorem bop_neqB (hu:P.underlying t=some .bool) {p q:Bool}:bopA P .neq t x y (.bool p) (.bool q)=some (.bool (decide (p≠q))):=by
 have:(!(p == q))=decide (p≠q):=by cases p <;> cases q <;> rfl
 simp only [bopA,dflat,flat,eqGuard,binOp,pr_bind',pr_pure,equal_bool hu,Option.bind_some,keep,and_self,if_true,this,Bool.not_true,Bool.false_eq_true,if_false]
theorem uop_neg:uopA P .neg (.int k a)=some (.int k (k.wrap (0 - a))):=by simp [uopA,dflat,flat,Op.unary,Op.intArith,keep]
theorem uop_not {p:Bool}:uopA P .not (.bool p)=some (.bool (!p)):=by simp [uopA,dflat,flat,Op.unary,keep]
theorem mm_min:mmA P false #[.int k a,.int k b]=some (.int k (min a b)):=by
 have:min a b=if b < a then b else a:=by omega
 simp [mmA,dflat,flat,Builtin.min_,Builtin.min2,keep,this]
theorem mm_max:mmA P true #[.int k a,.int k b]=some (.int k (max a b)):=by
 have:max a b=if b > a then b else a:=by omega
 simp [mmA,dflat,flat,Builtin.max_,Builtin.max2,keep,this]
end
section
variable {env:Env} {t s:Nat} {v:Value}
theorem ev_tmp:ev env (.tmp t)=env t:=rfl
theorem ev_const:ev env (.const v)=v:=rfl
theorem ev_func {f:FuncId}:ev env (.func f)=.func (.func f) #[] #[]:=rfl
theorem set_some:env.set (some t) v=env.put t v:=rfl
theorem set_none:env.set none v=env:=rfl
theorem put_ne (h:s≠t):env.put t v s=env s:=by simp [Env.put,h]
theorem put_eq:env.put t v s=if s=t then v else env s:=rfl
end
def AHeap.upd (H:AHeap) (n b:Nat) (o:AObj):AHeap:=⟨n,fun c=>if c=b then o else H.get c⟩
def rdO (o:AObj):Option (List Value):=match o with
 | .cells c _ .ro|.cells c _ .ex|.cells c _ (.gr _ _ true)=>some c
 | _=>none
section
variable {H:AHeap} {n b c:Nat} {o:AObj}
theorem alloc_upd:H.alloc o=H.upd (H.n + 1) H.n o:=rfl
theorem put_upd:H.put b o=H.upd H.n b o:=rfl
theorem wr_ex {l:List Value} {T:TypeId}:H.wr .ex b o=H.upd H.n b o:=rfl
theorem upd_n:(H.upd n b o).n=n:=rfl
theorem upd_upd {m:Nat} {o':AObj}:(H.upd n b o).upd m b o'=H.upd m b o':=by
 unfold AHeap.upd
 congr 1
 funext c
 by_cases h:c=b <;> simp [h]
theorem upd_get_same:(H.upd n b o).get b=o:=by simp [AHeap.upd]
theorem upd_get_ne (h:c≠b):(H.upd n b o).get c=H.get c:=by simp [AHeap.upd,h]
theorem rd_def:H.rd b=rdO (H.get b):=rfl
theorem upd_rd_same:(H.upd n b o).rd b=rdO o:=by simp [rd_def,upd_get_same]
theorem upd_rd_ne (h:c≠b):(H.upd n b o).rd c=H.rd c:=by simp [rd_def,upd_get_ne h]
theorem rdO_ex {l:List Value} {T:TypeId}:rdO (.cells l T .ex)=some l:=rfl
theorem rdO_ro {l:List Value} {T:TypeId}:rdO (.cells l T .ro)=some l:=rfl
theorem rdO_gr {l:List Value} {T:TypeId} {g e:Nat}:rdO (.cells l T (.gr g e true))=some l:=rfl
end
section
variable {P:Program} {t:TypeId} {H:AHeap} {b o:Nat} {c:List Value}
def at1 (c:List Value) (o:Nat):Option Value:=c[o]?
def atN (c:List Value) (o s:Nat):Option Value:=if o + s≤c.length then some (.agg ((c.drop o).take s).toArray) else none
theorem load1 (ht:tyAgg P t=some false) (x:Option (List Value)) (h:H.rd b=x):loadA P t H (vptr b o)=x.bind fun c=>at1 c o:=by
 unfold loadA vptr
 simp only [h,ht]
 cases x <;> rfl
theorem loadN {s:Nat} (ht:tyAgg P t=some true) (hs:tySize P t=some s) (x:Option (List Value)) (h:H.rd b=x):loadA P t H (vptr b o)=x.bind fun c=>atN c o s:=by
 unfold loadA vptr
 simp only [h,ht,hs]
 cases x <;> rfl
end
section
variable {P:Program} {t e:TypeId} {H:AHeap} {b o n c:Nat} {k:IntKind} {i:Int} {x:Value}
def stG (H:AHeap) (b o s:Nat) (x:Value) (ob:AObj):Option AHeap:=match ob with
 | .cells c T k=>if notTup x=true∧x.cells.size=s∧o + s≤c.length∧k.live=true then (match k with|.ro=>none|_=>some (H.wr k b (.cells (splice c o x.cells.toList) T k))) else none
 | _=>none
theorem store_of {s:Nat} (hs:tySize P t=some s):storeA P t H (vptr b o) x=stG H b o s x (H.get b):=by
 unfold storeA vptr stG
 simp only [hs]
 cases H.get b <;> rfl
theorem stG_ex {l:List Value} {T:TypeId} {s:Nat}:stG H b o s x (.cells l T .ex)=if notTup x=true∧x.cells.size=s∧o + s≤l.length then some (H.upd H.n b (.cells (splice l o x.cells.toList) T .ex)) else none:=by
 simp only [stG,Kd.live,and_true,wr_ex (l:=l) (T:=T)]
theorem stG_one {l:List Value} {T:TypeId} (hx:x.cells = #[x]) (hn:notTup x=true) (ho:o < l.length):stG H b o 1 x (.cells l T .ex)=some (H.upd H.n b (.cells (l.set o x) T .ex)):=by
 rw [stG_ex,if_pos ⟨hn,by rw [hx];rfl,ho⟩]
 have:splice l o x.cells.toList=l.set o x:=by
  rw [hx,List.set_eq_take_append_cons_drop,if_pos ho]
  simp [splice]
 rw [this]
theorem stG_int {l:List Value} {T:TypeId} {q:IntKind} {z:Int} (ho:o < l.length):stG H b o 1 (.int q z) (.cells l T .ex)=some (H.upd H.n b (.cells (l.set o (.int q z)) T .ex)):=stG_one rfl rfl ho
theorem stG_bool {l:List Value} {T:TypeId} {q:Bool} (ho:o < l.length):stG H b o 1 (.bool q) (.cells l T .ex)=some (H.upd H.n b (.cells (l.set o (.bool q)) T .ex)):=stG_one rfl rfl ho
theorem stG_slice {l:List Value} {T:TypeId} {a:Option Addr} {q r:Nat} (ho:o < l.length):stG H b o 1 (.slice a q r) (.cells l T .ex)=some (H.upd H.n b (.cells (l.set o (.slice a q r)) T .ex)):=stG_one rfl rfl ho
theorem stG_ptr {l:List Value} {T:TypeId} {a:Option Addr} (ho:o < l.length):stG H b o 1 (.pointer a) (.cells l T .ex)=some (H.upd H.n b (.cells (l.set o (.pointer a)) T .ex)):=stG_one rfl rfl ho
theorem stG_func {l:List Value} {T:TypeId} {f:Fn} {q r:Array Value} (ho:o < l.length):stG H b o 1 (.func f q r) (.cells l T .ex)=some (H.upd H.n b (.cells (l.set o (.func f q r)) T .ex)):=stG_one rfl rfl ho
theorem stG_map {l:List Value} {T:TypeId} {q:Option Nat} (ho:o < l.length):stG H b o 1 (.map q) (.cells l T .ex)=some (H.upd H.n b (.cells (l.set o (.map q)) T .ex)):=stG_one rfl rfl ho
theorem stG_string {l:List Value} {T:TypeId} {q:ByteArray} (ho:o < l.length):stG H b o 1 (.string q) (.cells l T .ex)=some (H.upd H.n b (.cells (l.set o (.string q)) T .ex)):=stG_one rfl rfl ho
theorem stG_all {l:List Value} {T:TypeId} {s:Nat} (hn:notTup x=true) (hs:x.cells.size=s) (hl:l.length=s):stG H b 0 s x (.cells l T .ex)=some (H.upd H.n b (.cells x.cells.toList T .ex)):=by
 rw [stG_ex,if_pos ⟨hn,hs,by omega⟩]
 have:splice l 0 x.cells.toList=x.cells.toList:=by
  simp [splice]
  omega
 rw [this]
theorem stG_agg {l l':List Value} {T:TypeId} {s:Nat} (hs:l'.length=s) (hl:l.length=s):stG H b 0 s (.agg l'.toArray) (.cells l T .ex)=some (H.upd H.n b (.cells l' T .ex)):=by
 rw [stG_all rfl (by simpa [Value.cells] using hs) hl]
 rfl
theorem alloc_of {z:Value} (hz:tyZero P t=some z) (hd:dflat z=true):allocA P t H=some (vptr H.n 0,H.upd (H.n + 1) H.n (.cells z.cells.toList t .ex)):=by
 unfold allocA
 simp only [hz,hd,if_true,alloc_upd]
theorem box_of:boxA t H x=if notTup x=true then some (vptr H.n 0,H.upd (H.n + 1) H.n (.cells x.cells.toList t .ex)) else none:=rfl
theorem fieldAddr_of {fs:Array Field} {f:Nat} {fd:Field} {sz:Nat} (hu:P.underlying t=some (.struct fs)) (hf:fs[f]? = some fd) (hz:tySize P fd.type=some sz) (h0:sz≠0) {off:Nat} (ho:fd.offset=off) :
  fieldAddrA P t (vptr b o) f=some (vptr b (o + off)):=by
 unfold fieldAddrA vptr
 simp only [hu,hf,hz,h0,if_false,ho]
theorem field1_of {fs:Array Field} {f:Nat} {fd:Field} {cs:Array Value} (hu:P.underlying t=some (.struct fs)) (hf:fs[f]? = some fd) (ha:tyAgg P fd.type=some false) {sz:Nat} (hz:tySize P fd.type=some sz) {off:Nat} (ho:fd.offset=off) :
  fieldA P t (.agg cs) f=at1 cs.toList off:=by
 unfold fieldA partA at1
 simp only [hu,hf,ha,hz,ho]
theorem indexAddrA_arr {len:Nat} {s:Nat} (hu:P.underlying t=some (.array len e)) (hs:tySize P e=some s) (h0:0≤i) (h1:i < len):indexAddrA P t (vptr b o) (.int k i)=some (vptr b (o + i.toNat * s)):=by
 unfold indexAddrA vptr
 simp only [hu,hs,h0,h1,and_self,if_true]
theorem indexAddrA_sl {s:Nat} (hu:P.underlying t=some (.slice e)) (hs:tySize P e=some s) (h0:0≤i) (h1:i < n):indexAddrA P t (.slice (some ⟨b,o,none⟩) n c) (.int k i)=some (vptr b (o + i.toNat * s)):=by
 unfold indexAddrA
 simp only [hu,hs,h0,h1,and_self,if_true]
theorem len_sl {a:Option Addr} (hu:P.underlying t=some (.slice e)):lenV P t (.slice a n c) H=some (.int .i64 n):=by
 unfold lenV lenA
 simp only [hu]
end
theorem atN_all {c:List Value} {n:Nat} (h:c.length=n):atN c 0 n=some (.agg c.toArray):=by
 simp [atN,← h]
theorem wrap64 {x:Int} (h1:-9223372036854775808≤x) (h2:x < 9223372036854775808):IntKind.i64.wrap x=x:=by
 show (if (true && decide (x % (2 ^ 64:Int) ≥ (2 ^ 63:Int)))=true then x % (2 ^ 64:Int) - (2 ^ 64:Int) else x % (2 ^ 64:Int))=x
 simp only [Bool.true_and,decide_eq_true_eq]
 split <;> omega
theorem cells_int {k:IntKind} {n:Int}:(Value.int k n).cells = #[.int k n]:=rfl
theorem cells_bool {b:Bool}:(Value.bool b).cells = #[.bool b]:=rfl
theorem cells_agg {a:Array Value}:(Value.agg a).cells=a:=rfl
theorem cells_slice {a:Option Addr} {n c:Nat}:(Value.slice a n c).cells = #[.slice a n c]:=rfl
theorem cells_ptr {a:Option Addr}:(Value.pointer a).cells = #[.pointer a]:=rfl
theorem cells_map {r:Option Nat}:(Value.map r).cells = #[.map r]:=rfl
theorem cells_func {f:Fn} {a c:Array Value}:(Value.func f a c).cells = #[.func f a c]:=rfl
theorem cells_string {s:ByteArray}:(Value.string s).cells = #[.string s]:=rfl
theorem nt_int {k:IntKind} {n:Int}:notTup (.int k n)=true:=rfl
theorem nt_bool {b:Bool}:notTup (.bool b)=true:=rfl
theorem nt_agg {a:Array Value}:notTup (.agg a)=true:=rfl
theorem nt_slice {a:Option Addr} {n c:Nat}:notTup (.slice a n c)=true:=rfl
theorem nt_ptr {a:Option Addr}:notTup (.pointer a)=true:=rfl
theorem nt_map {r:Option Nat}:notTup (.map r)=true:=rfl
theorem nt_func {f:Fn} {a c:Array Value}:notTup (.func f a c)=true:=rfl
theorem nt_string {s:ByteArray}:notTup (.string s)=true:=rfl
def zs (n:Nat):List Value:=List.replicate n (.int .i64 0)
theorem zs_len (n:Nat):(zs n).length=n:=by simp [zs]
def vblk (v:Value):Nat:=match v with|.slice (some a) _ _=>a.block|_=>0
def voff (v:Value):Nat:=match v with|.slice (some a) _ _=>a.off|_=>0
structure SR (H:AHeap) (s n:Nat) (v:Value) (c:List Value):Prop where
 shape:(v=.slice none 0 0∧n=0)∨∃ b o k,v=.slice (some ⟨b,o,none⟩) n k∧n≤k
 len:c.length=n * s
 cells:n=0∨∃ d,H.rd (vblk v)=some d∧voff v + n * s≤d.length∧(d.drop (voff v)).take (n * s)=c
 lt:n=0∨vblk v < H.n
theorem SR.vcells {H:AHeap} {s n:Nat} {v:Value} {c:List Value} (h:SR H s n v c):v.cells = #[v]:=by
 rcases h.shape with ⟨rfl,_⟩|⟨b,o,k,rfl,_⟩ <;> rfl
theorem SR.nt {H:AHeap} {s n:Nat} {v:Value} {c:List Value} (h:SR H s n v c):notTup v=true:=by
 rcases h.shape with ⟨rfl,_⟩|⟨b,o,k,rfl,_⟩ <;> rfl
theorem SR.indexAddr {P:Program} {t e:TypeId} {H:AHeap} {s n:Nat} {v:Value} {c:List Value} (h:SR H s n v c) (hu:P.underlying t=some (.slice e)) (hs:tySize P e=some s) {k:IntKind} {i:Int} (h0:0≤i) (h1:i < n) :
  indexAddrA P t v (.int k i)=some (vptr (vblk v) (voff v + i.toNat * s)):=by
 rcases h.shape with ⟨rfl,rfl⟩|⟨b,o,k,rfl,_⟩
 ·omega
 ·exact indexAddrA_sl hu hs h0 h1
theorem SR.lenV {P:Program} {t e:TypeId} {H H':AHeap} {s n:Nat} {v:Value} {c:List Value} (h:SR H s n v c) (hu:P.underlying t=some (.slice e)):lenV P t v H'=some (.int .i64 n):=by
 rcases h.shape with ⟨rfl,rfl⟩|⟨b,o,k,rfl,_⟩ <;> exact len_sl hu
theorem SR.at1 {H:AHeap} {s n:Nat} {v:Value} {c:List Value} (h:SR H s n v c) {j:Nat} (hj:j < n * s):∃ d,H.rd (vblk v)=some d∧Swa.at1 d (voff v + j)=c[j]?:=by
 rcases h.cells with rfl|⟨d,h1,h2,h3⟩
 ·simp at hj
 ·refine ⟨d,h1, ?_⟩
  subst h3
  unfold Swa.at1
  rw [List.getElem?_take_of_lt hj,List.getElem?_drop]
def dOf (H:AHeap) (v:Value):List Value:=(H.rd (vblk v)).getD []
theorem SR.rd {H:AHeap} {s n:Nat} {v:Value} {c:List Value} (h:SR H s n v c) (hn:n≠0):H.rd (vblk v)=some (dOf H v):=by
 rcases h.cells with rfl|⟨d,h1,_⟩
 ·exact absurd rfl hn
 ·rw [dOf,h1];rfl
theorem SR.at {H:AHeap} {s n:Nat} {v:Value} {c:List Value} (h:SR H s n v c) {j:Nat} (hj:j < n * s):Swa.at1 (dOf H v) (voff v + j)=c[j]?:=by
 obtain ⟨d,h1,h2⟩:=h.at1 hj
 rw [dOf,h1]
 exact h2
theorem SR.atN {H:AHeap} {s n:Nat} {v:Value} {c:List Value} (h:SR H s n v c) {j z:Nat} (hj:j + z≤n * s) (hn:n≠0):Swa.atN (dOf H v) (voff v + j) z=some (.agg ((c.drop j).take z).toArray):=by
 rcases h.cells with rfl|⟨d,h1,h2,h3⟩
 ·exact absurd rfl hn
 ·have:dOf H v=d:=by rw [dOf,h1];rfl
  rw [this,Swa.atN,if_pos (by omega)]
  subst h3
  rw [List.drop_take,List.take_take,List.drop_drop,Nat.min_eq_left (by omega)]
theorem flat_drop {α:Type} [Inhabited α] {enc:α→List Value} {s:Nat} (hs:∀ a,(enc a).length=s):∀ (l:List α) (i:Nat),i < l.length→∃ r,(l.flatMap enc).drop (i * s)=enc (l.getD i default) ++ r
 | [],i,h=>by simp at h
 | a :: l,0,_=>⟨l.flatMap enc,by simp [List.flatMap_cons]⟩
 | a :: l,i + 1,h=>by
  obtain ⟨r,hr⟩:=flat_drop hs l i (by simpa using h)
  refine ⟨r, ?_⟩
  rw [List.flatMap_cons,Nat.add_mul,Nat.add_comm,Nat.one_mul,← List.drop_drop]
  have:(enc a ++ l.flatMap enc).drop s=l.flatMap enc:=by rw [List.drop_append_of_le_length (by rw [hs];omega)];simp [hs]
  rw [this,hr]
  simp
theorem flat_at {α:Type} [Inhabited α] {enc:α→List Value} {s:Nat} (hs:∀ a,(enc a).length=s) {l:List α} {i k:Nat} (hi:i < l.length) (hk:k < s):(l.flatMap enc)[i * s + k]? = (enc (l.getD i default))[k]?:=by
 obtain ⟨r,hr⟩:=flat_drop hs l i hi
 rw [← List.getElem?_drop,hr,List.getElem?_append_left (by rw [hs];exact hk)]
theorem flat_part {α:Type} [Inhabited α] {enc:α→List Value} {s:Nat} (hs:∀ a,(enc a).length=s) {l:List α} {i k z:Nat} (hi:i < l.length) (hk:k + z≤s):((l.flatMap enc).drop (i * s + k)).take z=((enc (l.getD i default)).drop k).take z:=by
 obtain ⟨r,hr⟩:=flat_drop hs l i hi
 rw [← List.drop_drop,hr,List.drop_append_of_le_length (by rw [hs];omega),List.take_append_of_le_length (by simp [hs];omega)]
theorem flat_all {α:Type} [Inhabited α] {enc:α→List Value} {s:Nat} (hs:∀ a,(enc a).length=s) {l:List α} {i:Nat} (hi:i < l.length):((l.flatMap enc).drop (i * s)).take s=enc (l.getD i default):=by
 obtain ⟨r,hr⟩:=flat_drop hs l i hi
 rw [hr,List.take_append_of_le_length (by rw [hs];omega),List.take_of_length_le (by rw [hs];omega)]
section
variable {P:Program} {Or:OrRel} {ng:Nat}
@[reducible] def RetK (P:Program) (fn:Func) (R:Value→AHeap→Prop):Post:=fun x e h=>(x=.normal∨x=.ret)∧oV (resultsA P fn e h) fun v=>R v h
theorem Cl.ofW {f : FuncId} {args : Array Value} {H : AHeap} {fn : Func} {c : Code} {R : Value → AHeap → Prop} (e1 : P.funcs[f]? = some fn) (e2 : fn.body = some c) (e4 : (fn.name == "runtime.NumGoroutine") = false)
  (e3:args.size≤fn.ntmps) (hok:codeOk ng fn.ntmps c=true) (h:W P (Cl P Or ng) ng fn.ntmps c (argEnv args) H (RetK P fn R)):∃ v H',Cl P Or ng (.fn f) args H v H'∧R v H':=by
 obtain ⟨x,e,h',r,hx,hv⟩:=h
 cases hq:resultsA P fn e h' with
 | none=>rw [hq] at hv;exact hv.elim
 | some v=>rw [hq] at hv;exact ⟨v,h',Cl.fn e1 e2 e4 e3 hok r hx hq,hv⟩
theorem ret0 {fn:Func} {e:Env} {h:AHeap} (hr:fn.results = #[]):resultsA P fn e h=some (.tuple #[]):=by simp [resultsA,hr]
theorem ret1 {fn:Func} {e:Env} {h:AHeap} {r:ResultVar} (hr:fn.results = #[r]):resultsA P fn e h=resVal P e h r:=by
 unfold resultsA
 simp only [hr,List.mapM_cons,List.mapM_nil]
 cases resVal P e h r <;> rfl
theorem ret2 {fn:Func} {e:Env} {h:AHeap} {r s:ResultVar} (hr:fn.results = #[r,s]):resultsA P fn e h=(resVal P e h r).bind fun a=>(resVal P e h s).map fun b=>.tuple #[a,b]:=by
 unfold resultsA
 simp only [hr,List.mapM_cons,List.mapM_nil]
 cases resVal P e h r <;> cases resVal P e h s <;> rfl
theorem ret3 {fn:Func} {e:Env} {h:AHeap} {r s t:ResultVar} (hr:fn.results = #[r,s,t]):resultsA P fn e h=(resVal P e h r).bind fun a=>(resVal P e h s).bind fun b=>(resVal P e h t).map fun c=>.tuple #[a,b,c]:=by
 unfold resultsA
 simp only [hr,List.mapM_cons,List.mapM_nil]
 cases resVal P e h r <;> cases resVal P e h s <;> cases resVal P e h t <;> rfl
theorem rv_tmp {e:Env} {h:AHeap} {t:Tmp}:resVal P e h (.tmp t)=some (e t):=rfl
theorem rv_cell {e:Env} {h:AHeap} {a:Tmp} {t:TypeId}:resVal P e h (.cell a t)=loadA P t h (e a):=rfl
theorem argEnv0 {a:Value} {l:List Value}:argEnv ⟨a :: l⟩ 0=a:=rfl
theorem argEnvS {a:Value} {l:List Value} {n:Nat}:argEnv ⟨a :: l⟩ (n + 1)=argEnv ⟨l⟩ n:=by
 simp [argEnv,Array.getD]
end
theorem oV_intro {x:Option Value} {v:Value} {k:Value→Prop} (h:x=some v) (hk:k v):oV x k:=by rw [h];exact hk
theorem oB_intro {x:Option (Value×AHeap)} {v:Value} {h':AHeap} {k:Value→AHeap→Prop} (h:x=some (v,h')) (hk:k v h'):oB x k:=by rw [h];exact hk
theorem oH_intro {x:Option AHeap} {h':AHeap} {k:AHeap→Prop} (h:x=some h') (hk:k h'):oH x k:=by rw [h];exact hk
section
variable {P:Program} {C:CallRel} {ops:Array Oper} {os:List Oper} {K:Env→AHeap→Prop} {env:Env} {H:AHeap} {dst:Option Tmp} {ty:TypeId} {pos:String} {aft:Array Edge}
theorem callV_fn {g:FuncId} {first cap args:Array Value} {v:Value} {H':AHeap}:callV C (.func (.func g) first cap) args H v H'=C (.fn g) (first ++ args ++ cap) H v H':=rfl
theorem callV_yield {l:Nat} {first cap args:Array Value} {v:Value} {H':AHeap}:callV C (.func (.yield l) first cap) args H v H'=C (.yield l) (first ++ args) H v H':=rfl
theorem WO_callR {f:Operand} {args:Array Operand} {ts:Array TypeId} {R:Value→AHeap→Prop} (h:∃ v H',callV C (ev env f) (args.map (ev env)) H v H'∧R v H') (k:∀ v H',R v H'→WO P C ops os K (env.set dst v) H') :
  WO P C ops (⟨dst,.call ⟨.value f,args,ts⟩,ty,pos,aft,none⟩ :: os) K env H:=by
 obtain ⟨v,H1,h1,h2⟩:=h
 exact WO_call h1 (k v H1 h2)
variable {op:Op} {j:Nat}
theorem yielded_of {d:Tmp} {t:Bool} (hd:(ops[j]?).bind (·.dst)=some d) (hv:env d=.bool t):yieldedA ops env j=some t:=by
 unfold yieldedA
 rw [hd]
 simp only [hv]
theorem WO_gT {d:Tmp} {t:Bool} (hd:(ops[j]?).bind (·.dst)=some d) (hv:env d=.bool t) (h1:t=true→WO P C ops (⟨dst,op,ty,pos,aft,none⟩ :: os) K env H) (h2:t=false→WO P C ops os K (env.set dst undef) H) :
  WO P C ops (⟨dst,op,ty,pos,aft,some (j,true)⟩ :: os) K env H:=WO_guardT (yielded_of hd hv) h1 h2
theorem WO_gF {d:Tmp} {t:Bool} (hd:(ops[j]?).bind (·.dst)=some d) (hv:env d=.bool t) (h1:t=false→WO P C ops (⟨dst,op,ty,pos,aft,none⟩ :: os) K env H) (h2:t=true→WO P C ops os K (env.set dst undef) H) :
  WO P C ops (⟨dst,op,ty,pos,aft,some (j,false)⟩ :: os) K env H:=WO_guardF (yielded_of hd hv) h1 h2
end
def oblR (ops:Array Oper) (k:Nat) (H H':AHeap):List (Nat×Nat)→Prop
 | []=>True
 | r :: rs=>(isAnc ops r.1 k=true∨H'.get r.2=H.get r.2)∧oblR ops k H H' rs
def oblA (ops:Array Oper) (k b:Nat):List (Nat×AHeap×AHeap)→Prop
 | []=>True
 | a :: as=>(isAnc ops a.1 k=true∨a.2.2.get b=a.2.1.get b)∧oblA ops k b as
def oblO (ops:Array Oper) (k:Nat) (o:Option Nat) (as:List (Nat×AHeap×AHeap)):Prop:=match o with|some b=>oblA ops k b as|none=>True
def rdO' (k:Nat) (o:Option Nat) (rs:List (Nat×Nat)):List (Nat×Nat):=match o with|some b=>(k,b) :: rs|none=>rs
def tch (ops:Array Oper) (env:Env) (H:AHeap) (o:Oper):Option Nat:=if Region.wanted o (yieldedA ops env)=true then touchBlk env H o.op else none
def WD (P:Program) (C:CallRel) (ops:Array Oper):List Oper→Nat→List (Nat×Nat)→List (Nat×AHeap×AHeap)→(Env→AHeap→Prop)→Env→AHeap→Prop
 | [],_,_,_,K,env,H=>K env H
 | o :: os,k,rs,as,K,env,H =>
  if simpleOp o.op=true then oblO ops k (tch ops env H o) as∧WO P C ops [o] (fun e h=>WD P C ops os (k + 1) (rdO' k (tch ops env H o) rs) as K e h) env H
  else WO P C ops [o] (fun e h=>oblR ops k H h rs∧WD P C ops os (k + 1) rs ((k,H,h) :: as) K e h) env H
theorem oblR_mem {ops:Array Oper} {k:Nat} {H H':AHeap}:∀ {rs:List (Nat×Nat)},oblR ops k H H' rs→∀ r,r∈rs→isAnc ops r.1 k=true∨H'.get r.2=H.get r.2
 | [],_,r,h=>by simp at h
 | a :: rs,h,r,hr=>by
  rcases List.mem_cons.1 hr with rfl|hr
  ·exact h.1
  ·exact oblR_mem h.2 r hr
theorem oblA_mem {ops:Array Oper} {k b:Nat}:∀ {as:List (Nat×AHeap×AHeap)},oblA ops k b as→∀ a,a∈as→isAnc ops a.1 k=true∨a.2.2.get b=a.2.1.get b
 | [],_,r,h=>by simp at h
 | a :: rs,h,r,hr=>by
  rcases List.mem_cons.1 hr with rfl|hr
  ·exact h.1
  ·exact oblA_mem h.2 r hr
structure Past (P:Program) (C:CallRel) (ops:Array Oper) (k:Nat) (rs:List (Nat×Nat)) (as:List (Nat×AHeap×AHeap)) (E:Nat→Env) (Hs:Nat→AHeap):Prop where
 step:∀ i o,i < k→ops[i]? = some o→OpStep P C ops o (E i) (Hs i) (E (i + 1)) (Hs (i + 1))
 rd:∀ i o b,i < k→ops[i]? = some o→simpleOp o.op=true→tch ops (E i) (Hs i) o=some b→(i,b)∈rs
 act:∀ i o,i < k→ops[i]? = some o→simpleOp o.op=false→(i,Hs i,Hs (i + 1))∈as
 ni:∀ i j oi oj,i < k→j < k→ops[i]? = some oi→ops[j]? = some oj→isAnc ops i j=false→isAnc ops j i=false→simpleOp oi.op=true→simpleOp oj.op=false →
  ∀ b,tch ops (E i) (Hs i) oi=some b→(Hs (j + 1)).get b=(Hs j).get b
theorem WD_run {P:Program} {C:CallRel} {ops:Array Oper} {K:Env→AHeap→Prop}:∀ (os:List Oper) (k:Nat) (rs:List (Nat×Nat)) (as:List (Nat×AHeap×AHeap)) (E:Nat→Env) (Hs:Nat→AHeap),
  ops.toList.drop k=os→k≤ops.size→Past P C ops k rs as E Hs→WD P C ops os k rs as K (E k) (Hs k)→∃ env' H',DrawnRun P C ops (E 0) (Hs 0) env' H'∧K env' H'
 | [],k,rs,as,E,Hs,hd,hk,hp,h=>by
  have hk2:k=ops.size:=by
   rw [List.drop_eq_nil_iff] at hd
   simp at hd
   omega
  subst hk2
  refine ⟨E ops.size,Hs ops.size,⟨E,Hs,rfl,rfl,rfl,rfl,fun i o ho=>hp.step i o (Array.getElem?_eq_some_iff.1 ho).1 ho, ?_⟩,h⟩
  intro i j oi oj hi hj h1 h2 h3 h4 hw b hb
  refine hp.ni i j oi oj (Array.getElem?_eq_some_iff.1 hi).1 (Array.getElem?_eq_some_iff.1 hj).1 hi hj h1 h2 h3 h4 b ?_
  unfold tch
  rw [if_pos hw,hb]
 | o :: os,k,rs,as,E,Hs,hd,hk,hp,h=>by
  have hlt:k < ops.size:=by
   rcases Nat.lt_or_ge k ops.toList.length with q|q
   ·simpa using q
   ·rw [List.drop_eq_nil_iff.2 q] at hd;cases hd
  have hoo:ops[k]? = some o:=by
   have:=congrArg (·[0]?) hd
   simpa using this
  have hos:ops.toList.drop (k + 1)=os:=by
   have:=congrArg List.tail hd
   simpa using this
  -- one more operation
  have next:∀ (rs':List (Nat×Nat)) (as':List (Nat×AHeap×AHeap)) (e1:Env) (h1:AHeap),OpStep P C ops o (E k) (Hs k) e1 h1 →
    (∀ r,r∈rs→r∈rs')→(∀ a,a∈as→a∈as')→(simpleOp o.op=true→∀ b,tch ops (E k) (Hs k) o=some b→(k,b)∈rs')→(simpleOp o.op=false→(k,Hs k,h1)∈as') →
    (simpleOp o.op=true→oblO ops k (tch ops (E k) (Hs k) o) as)→(simpleOp o.op=false→oblR ops k (Hs k) h1 rs) →
    WD P C ops os (k + 1) rs' as' K e1 h1→∃ env' H',DrawnRun P C ops (E 0) (Hs 0) env' H'∧K env' H':=by
   intro rs' as' e1 h1 hst hrs has hr ha hob1 hob2 hw
   obtain ⟨E',eqE,eqE1⟩:∃ E':Nat→Env,(∀ i,i≤k→E' i=E i)∧E' (k + 1)=e1:=⟨fun i=>if i≤k then E i else e1,fun i hi=>if_pos hi,if_neg (by omega)⟩
   obtain ⟨Hs',eqH,eqH1⟩:∃ H':Nat→AHeap,(∀ i,i≤k→H' i=Hs i)∧H' (k + 1)=h1:=⟨fun i=>if i≤k then Hs i else h1,fun i hi=>if_pos hi,if_neg (by omega)⟩
   rw [← eqE 0 (by omega),← eqH 0 (by omega)]
   refine WD_run os (k + 1) rs' as' E' Hs' hos hlt ⟨?_, ?_, ?_, ?_⟩ (by rw [eqE1,eqH1];exact hw)
   ·intro i oi hi ho
    by_cases hik:i=k
    ·subst hik
     rw [hoo] at ho;cases ho
     rw [eqE i (Nat.le_refl _),eqH i (Nat.le_refl _),eqE1,eqH1]
     exact hst
    ·rw [eqE i (by omega),eqH i (by omega),eqE (i + 1) (by omega),eqH (i + 1) (by omega)]
     exact hp.step i oi (by omega) ho
   ·intro i oi b hi ho hs ht
    by_cases hik:i=k
    ·subst hik
     rw [hoo] at ho;cases ho
     rw [eqE i (Nat.le_refl _),eqH i (Nat.le_refl _)] at ht
     exact hr hs b ht
    ·rw [eqE i (by omega),eqH i (by omega)] at ht
     exact hrs _ (hp.rd i oi b (by omega) ho hs ht)
   ·intro i oi hi ho hs
    by_cases hik:i=k
    ·subst hik
     rw [hoo] at ho;cases ho
     rw [eqH i (Nat.le_refl _),eqH1]
     exact ha hs
    ·rw [eqH i (by omega),eqH (i + 1) (by omega)]
     exact has _ (hp.act i oi (by omega) ho hs)
   ·intro i j oi oj hi hj hio hjo h1' h2' hsi hsj b ht
    by_cases hik:i=k
    ·subst hik
     rw [hoo] at hio;cases hio
     have hjk:j≠i:=fun e=>by subst e;rw [hoo] at hjo;cases hjo;rw [hsi] at hsj;cases hsj
     rw [eqE i (Nat.le_refl _),eqH i (Nat.le_refl _)] at ht
     have hob:=hob1 hsi
     rw [ht] at hob
     have:=oblA_mem hob _ (hp.act j oj (by omega) hjo hsj)
     rw [eqH j (by omega),eqH (j + 1) (by omega)]
     rcases this with q|q
     ·rw [h2'] at q;cases q
     ·exact q
    ·rw [eqE i (by omega),eqH i (by omega)] at ht
     by_cases hjk:j=k
     ·subst hjk
      rw [hoo] at hjo;cases hjo
      have:=oblR_mem (hob2 hsj) _ (hp.rd i oi b (by omega) hio hsi ht)
      rw [eqH j (Nat.le_refl _),eqH1]
      rcases this with q|q
      ·rw [h1'] at q;cases q
      ·exact q
     ·rw [eqH j (by omega),eqH (j + 1) (by omega)]
      exact hp.ni i j oi oj (by omega) (by omega) hio hjo h1' h2' hsi hsj b ht
  unfold WD at h
  split at h
  ·rename_i hs
   obtain ⟨hob,e1,h1,⟨e2,h2,hst,rfl,rfl⟩,hw⟩:=h
   refine next _ as e1 h1 hst (fun r hr=>?_) (fun a ha=>ha) (fun _ b hb=>?_) (fun q=>by rw [hs] at q;cases q) (fun _=>hob) (fun q=>by rw [hs] at q;cases q) hw
   ·unfold rdO'
    split
    ·exact List.mem_cons_of_mem _ hr
    ·exact hr
   ·rw [hb];simp [rdO']
  ·rename_i hs
   obtain ⟨e1,h1,⟨e2,h2,hst,rfl,rfl⟩,hob,hw⟩:=h
   exact next rs _ e1 h1 hst (fun r hr=>hr) (fun a ha=>List.mem_cons_of_mem _ ha) (fun q=>absurd q hs) (fun _=>by simp) (fun q=>absurd q hs) (fun _=>hob) hw
theorem W_drawn {P:Program} {C:CallRel} {ng nt:Nat} {id:Nat} {l:List Oper} {env:Env} {H:AHeap} {Q:Post} (h:∀ K:Env→AHeap→Prop,(∀ e h,Q .normal e h→K e h)→WD P C ⟨l⟩ l 0 [] [] K env H):W P C ng nt (.region id ⟨l⟩ true) env H Q:=by
 obtain ⟨e,H',r,q⟩:=WD_run l 0 [] [] (fun _=>env) (fun _=>H) rfl (Nat.zero_le _) ⟨fun i o hi=>absurd hi (by omega),fun i o b hi=>absurd hi (by omega),fun i o hi=>absurd hi (by omega),fun i j oi oj hi=>absurd hi (by omega)⟩ (h (fun e h=>Q .normal e h) fun _ _ h=>h)
 exact ⟨_,e,H',.drawn r,q⟩
theorem WD_congr {P:Program} {C:CallRel} {ops:Array Oper} {os:List Oper} {k:Nat} {rs:List (Nat×Nat)} {as:List (Nat×AHeap×AHeap)} {K:Env→AHeap→Prop} {rs':List (Nat×Nat)} {env env':Env} {H H':AHeap} (h1:rs=rs') (h:env=env') (h2:H=H'):WD P C ops os k rs as K env H=WD P C ops os k rs' as K env' H':=by rw [h1,h,h2]
def mapB (v:Value):Option Nat:=match some v with|some (.map r)=>r|_=>none
theorem mapB_slice {a:Option Addr} {n c:Nat}:mapB (.slice a n c)=none:=rfl
theorem mapB_string {s:ByteArray}:mapB (.string s)=none:=rfl
theorem mapB_map {r:Option Nat}:mapB (.map r)=r:=rfl
theorem SR.mapB {H:AHeap} {s n:Nat} {v:Value} {c:List Value} (h:SR H s n v c):mapB v=none:=by
 rcases h.shape with ⟨rfl,_⟩|⟨b,o,k,rfl,_⟩ <;> rfl
theorem blkOf_ptr {b o:Nat}:blkOf (vptr b o)=some b:=rfl
theorem blkOf_slice {b o n c:Nat}:blkOf (.slice (some ⟨b,o,none⟩) n c)=some b:=rfl
theorem blkOf_nil {n c:Nat}:blkOf (.slice none n c)=none:=rfl
theorem blkOf_map {r:Option Nat}:blkOf (.map r)=r:=rfl
theorem oblO_none {ops:Array Oper} {k:Nat} {as:List (Nat×AHeap×AHeap)}:oblO ops k none as=True:=rfl
theorem oblO_nil {ops:Array Oper} {k:Nat} {o:Option Nat}:oblO ops k o []=True:=by cases o <;> rfl
theorem oblO_some {ops:Array Oper} {k b:Nat} {a:Nat×AHeap×AHeap} {as:List (Nat×AHeap×AHeap)}:oblO ops k (some b) (a :: as)=oblA ops k b (a :: as):=rfl
theorem oblA_nil {ops:Array Oper} {k b:Nat}:oblA ops k b []=True:=rfl
theorem oblR_nil {ops:Array Oper} {k:Nat} {H H':AHeap}:oblR ops k H H' []=True:=rfl
theorem rdO_some {k b:Nat} {rs:List (Nat×Nat)}:rdO' k (some b) rs=(k,b) :: rs:=rfl
theorem rdO_none {k:Nat} {rs:List (Nat×Nat)}:rdO' k none rs=rs:=rfl
theorem oblO_congr {ops:Array Oper} {k:Nat} {o o':Option Nat} {as:List (Nat×AHeap×AHeap)} (h:o=o'):oblO ops k o as=oblO ops k o' as:=by rw [h]
theorem oblA_congr {ops:Array Oper} {k b:Nat} {as:List (Nat×AHeap×AHeap)}:oblA ops k b as=oblA ops k b as:=rfl
theorem oblR_congr {ops:Array Oper} {k:Nat} {H H':AHeap} {rs:List (Nat×Nat)}:oblR ops k H H' rs=oblR ops k H H' rs:=rfl
section
variable {P:Program} {C:CallRel} {ops:Array Oper} {os:List Oper} {K:Env→AHeap→Prop} {env:Env} {H:AHeap} {dst:Option Tmp} {ty:TypeId} {pos:String} {aft:Array Edge} {k:Nat} {rs:List (Nat×Nat)} {as:List (Nat×AHeap×AHeap)} {op:Op}
theorem WD_nil:WD P C ops [] k rs as K env H=K env H:=rfl
theorem WD_0 (hs:simpleOp op=true) (ht:∀ e h,touchBlk e h op=none):WD P C ops (⟨dst,op,ty,pos,aft,none⟩ :: os) k rs as K env H=WO P C ops [⟨dst,op,ty,pos,aft,none⟩] (fun e h=>WD P C ops os (k + 1) rs as K e h) env H:=by
 have h1:tch ops env H ⟨dst,op,ty,pos,aft,none⟩=none:=by simp [tch,ht]
 conv=>lhs;unfold WD
 simp only [hs,if_true,h1,oblO,rdO',true_and]
theorem WD_1 (hs:simpleOp op=true):WD P C ops (⟨dst,op,ty,pos,aft,none⟩ :: os) k rs as K env H=(oblO ops k (touchBlk env H op) as∧WO P C ops [⟨dst,op,ty,pos,aft,none⟩] (fun e h=>WD P C ops os (k + 1) (rdO' k (touchBlk env H op) rs) as K e h) env H):=by
 have h1:tch ops env H ⟨dst,op,ty,pos,aft,none⟩=touchBlk env H op:=by simp [tch,Region.wanted]
 conv=>lhs;unfold WD
 simp only [hs,if_true,h1]
theorem WD_2 (hs:simpleOp op=false) {g:Option (Nat×Bool)}:WD P C ops (⟨dst,op,ty,pos,aft,g⟩ :: os) k rs as K env H=WO P C ops [⟨dst,op,ty,pos,aft,g⟩] (fun e h=>oblR ops k H h rs∧WD P C ops os (k + 1) rs ((k,H,h) :: as) K e h) env H:=by
 conv=>lhs;unfold WD
 simp only [hs,if_false,Bool.false_eq_true]
theorem WD_move (x:Operand):WD P C ops (⟨dst,.move x,ty,pos,aft,none⟩ :: os) k rs as K env H=WO P C ops [⟨dst,.move x,ty,pos,aft,none⟩] (fun e h=>WD P C ops os (k + 1) rs as K e h) env H:=WD_0 rfl fun _ _=>rfl
theorem WD_assign (x:Operand):WD P C ops (⟨dst,.assign x,ty,pos,aft,none⟩ :: os) k rs as K env H=WO P C ops [⟨dst,.assign x,ty,pos,aft,none⟩] (fun e h=>WD P C ops os (k + 1) rs as K e h) env H:=WD_0 rfl fun _ _=>rfl
theorem WD_build (t:TypeId) (ps:Array (Nat×Operand)):WD P C ops (⟨dst,.build t ps,ty,pos,aft,none⟩ :: os) k rs as K env H=WO P C ops [⟨dst,.build t ps,ty,pos,aft,none⟩] (fun e h=>WD P C ops os (k + 1) rs as K e h) env H:=WD_0 rfl fun _ _=>rfl
theorem WD_nilCheck (x:Operand):WD P C ops (⟨dst,.nilCheck x,ty,pos,aft,none⟩ :: os) k rs as K env H=WO P C ops [⟨dst,.nilCheck x,ty,pos,aft,none⟩] (fun e h=>WD P C ops os (k + 1) rs as K e h) env H:=WD_0 rfl fun _ _=>rfl
theorem WD_makeFunc (f:FuncId) (a c:Array Operand):WD P C ops (⟨dst,.makeFunc (.func f) a c,ty,pos,aft,none⟩ :: os) k rs as K env H=WO P C ops [⟨dst,.makeFunc (.func f) a c,ty,pos,aft,none⟩] (fun e h=>WD P C ops os (k + 1) rs as K e h) env H:=WD_0 rfl fun _ _=>rfl
theorem WD_fieldAddr (t:TypeId) (x:Operand) (f:Nat):WD P C ops (⟨dst,.fieldAddr t x f,ty,pos,aft,none⟩ :: os) k rs as K env H=WO P C ops [⟨dst,.fieldAddr t x f,ty,pos,aft,none⟩] (fun e h=>WD P C ops os (k + 1) rs as K e h) env H:=WD_0 rfl fun _ _=>rfl
theorem WD_field (t:TypeId) (x:Operand) (f:Nat):WD P C ops (⟨dst,.field t x f,ty,pos,aft,none⟩ :: os) k rs as K env H=WO P C ops [⟨dst,.field t x f,ty,pos,aft,none⟩] (fun e h=>WD P C ops os (k + 1) rs as K e h) env H:=WD_0 rfl fun _ _=>rfl
theorem WD_indexAddr (t:TypeId) (x i:Operand):WD P C ops (⟨dst,.indexAddr t x i,ty,pos,aft,none⟩ :: os) k rs as K env H=WO P C ops [⟨dst,.indexAddr t x i,ty,pos,aft,none⟩] (fun e h=>WD P C ops os (k + 1) rs as K e h) env H:=WD_0 rfl fun _ _=>rfl
theorem WD_index (t:TypeId) (x i:Operand):WD P C ops (⟨dst,.index t x i,ty,pos,aft,none⟩ :: os) k rs as K env H=WO P C ops [⟨dst,.index t x i,ty,pos,aft,none⟩] (fun e h=>WD P C ops os (k + 1) rs as K e h) env H:=WD_0 rfl fun _ _=>rfl
theorem WD_extract (x:Operand) (i:Nat):WD P C ops (⟨dst,.extract x i,ty,pos,aft,none⟩ :: os) k rs as K env H=WO P C ops [⟨dst,.extract x i,ty,pos,aft,none⟩] (fun e h=>WD P C ops os (k + 1) rs as K e h) env H:=WD_0 rfl fun _ _=>rfl
theorem WD_binOp (o:BinOp) (t:TypeId) (x y:Operand) (yt:TypeId):WD P C ops (⟨dst,.binOp o t x y yt,ty,pos,aft,none⟩ :: os) k rs as K env H=WO P C ops [⟨dst,.binOp o t x y yt,ty,pos,aft,none⟩] (fun e h=>WD P C ops os (k + 1) rs as K e h) env H:=WD_0 rfl fun _ _=>rfl
theorem WD_unOp (o:UnOp) (t:TypeId) (x:Operand):WD P C ops (⟨dst,.unOp o t x,ty,pos,aft,none⟩ :: os) k rs as K env H=WO P C ops [⟨dst,.unOp o t x,ty,pos,aft,none⟩] (fun e h=>WD P C ops os (k + 1) rs as K e h) env H:=WD_0 rfl fun _ _=>rfl
theorem WD_convert (s d:TypeId) (x:Operand):WD P C ops (⟨dst,.convert s d x,ty,pos,aft,none⟩ :: os) k rs as K env H=WO P C ops [⟨dst,.convert s d x,ty,pos,aft,none⟩] (fun e h=>WD P C ops os (k + 1) rs as K e h) env H:=WD_0 rfl fun _ _=>rfl
theorem WD_pick (c a b:Operand):WD P C ops (⟨dst,.pick c a b,ty,pos,aft,none⟩ :: os) k rs as K env H=WO P C ops [⟨dst,.pick c a b,ty,pos,aft,none⟩] (fun e h=>WD P C ops os (k + 1) rs as K e h) env H:=WD_0 rfl fun _ _=>rfl
theorem WD_min (args:Array Operand) (ts:Array TypeId):WD P C ops (⟨dst,.call ⟨.builtin .min,args,ts⟩,ty,pos,aft,none⟩ :: os) k rs as K env H=WO P C ops [⟨dst,.call ⟨.builtin .min,args,ts⟩,ty,pos,aft,none⟩] (fun e h=>WD P C ops os (k + 1) rs as K e h) env H:=WD_0 rfl fun _ _=>rfl
theorem WD_max (args:Array Operand) (ts:Array TypeId):WD P C ops (⟨dst,.call ⟨.builtin .max,args,ts⟩,ty,pos,aft,none⟩ :: os) k rs as K env H=WO P C ops [⟨dst,.call ⟨.builtin .max,args,ts⟩,ty,pos,aft,none⟩] (fun e h=>WD P C ops os (k + 1) rs as K e h) env H:=WD_0 rfl fun _ _=>rfl
theorem WD_load (t:TypeId) (x:Operand):WD P C ops (⟨dst,.load t x,ty,pos,aft,none⟩ :: os) k rs as K env H=(oblO ops k (blkOf (ev env x)) as∧WO P C ops [⟨dst,.load t x,ty,pos,aft,none⟩] (fun e h=>WD P C ops os (k + 1) (rdO' k (blkOf (ev env x)) rs) as K e h) env H):=WD_1 rfl
theorem WD_lenS (t:TypeId) (x:Operand):WD P C ops (⟨dst,.call ⟨.builtin .len,#[x],#[t]⟩,ty,pos,aft,none⟩ :: os) k rs as K env H=(oblO ops k (mapB (ev env x)) as∧WO P C ops [⟨dst,.call ⟨.builtin .len,#[x],#[t]⟩,ty,pos,aft,none⟩] (fun e h=>WD P C ops os (k + 1) (rdO' k (mapB (ev env x)) rs) as K e h) env H):=WD_1 rfl
theorem WD_alloc (t:TypeId):WD P C ops (⟨dst,.alloc t,ty,pos,aft,none⟩ :: os) k rs as K env H=(oblO ops k (some H.n) as∧WO P C ops [⟨dst,.alloc t,ty,pos,aft,none⟩] (fun e h=>WD P C ops os (k + 1) (rdO' k (some H.n) rs) as K e h) env H):=WD_1 rfl
theorem WD_box (t:TypeId) (x:Operand):WD P C ops (⟨dst,.box t x,ty,pos,aft,none⟩ :: os) k rs as K env H=(oblO ops k (some H.n) as∧WO P C ops [⟨dst,.box t x,ty,pos,aft,none⟩] (fun e h=>WD P C ops os (k + 1) (rdO' k (some H.n) rs) as K e h) env H):=WD_1 rfl
theorem WD_buildSlice (t:TypeId) (n:Nat) (ps:Array (Nat×Operand)):WD P C ops (⟨dst,.buildSlice t n ps,ty,pos,aft,none⟩ :: os) k rs as K env H=(oblO ops k (some H.n) as∧WO P C ops [⟨dst,.buildSlice t n ps,ty,pos,aft,none⟩] (fun e h=>WD P C ops os (k + 1) (rdO' k (some H.n) rs) as K e h) env H):=WD_1 rfl
theorem WD_makeSlice (t:TypeId) (l c:Operand):WD P C ops (⟨dst,.makeSlice t l c,ty,pos,aft,none⟩ :: os) k rs as K env H=(oblO ops k (some H.n) as∧WO P C ops [⟨dst,.makeSlice t l c,ty,pos,aft,none⟩] (fun e h=>WD P C ops os (k + 1) (rdO' k (some H.n) rs) as K e h) env H):=WD_1 rfl
theorem WD_slice (t:TypeId) (x:Operand) (lo hi mx:Option Operand):WD P C ops (⟨dst,.slice t x lo hi mx,ty,pos,aft,none⟩ :: os) k rs as K env H=(oblO ops k (blkOf (ev env x)) as∧WO P C ops [⟨dst,.slice t x lo hi mx,ty,pos,aft,none⟩] (fun e h=>WD P C ops os (k + 1) (rdO' k (blkOf (ev env x)) rs) as K e h) env H):=WD_1 rfl
theorem WD_lookup (t:TypeId) (x i:Operand) (ok:Bool):WD P C ops (⟨dst,.lookup t x i ok,ty,pos,aft,none⟩ :: os) k rs as K env H=(oblO ops k (blkOf (ev env x)) as∧WO P C ops [⟨dst,.lookup t x i ok,ty,pos,aft,none⟩] (fun e h=>WD P C ops os (k + 1) (rdO' k (blkOf (ev env x)) rs) as K e h) env H):=WD_1 rfl
theorem WD_makeMap (t:TypeId):WD P C ops (⟨dst,.makeMap t none,ty,pos,aft,none⟩ :: os) k rs as K env H=(oblO ops k (some H.n) as∧WO P C ops [⟨dst,.makeMap t none,ty,pos,aft,none⟩] (fun e h=>WD P C ops os (k + 1) (rdO' k (some H.n) rs) as K e h) env H):=WD_1 rfl
theorem WD_store (t:TypeId) (a x:Operand):WD P C ops (⟨dst,.store t a x,ty,pos,aft,none⟩ :: os) k rs as K env H=WO P C ops [⟨dst,.store t a x,ty,pos,aft,none⟩] (fun e h=>oblR ops k H h rs∧WD P C ops os (k + 1) rs ((k,H,h) :: as) K e h) env H:=WD_2 rfl
theorem WD_mapUpdate (t:TypeId) (m i x:Operand):WD P C ops (⟨dst,.mapUpdate t m i x,ty,pos,aft,none⟩ :: os) k rs as K env H=WO P C ops [⟨dst,.mapUpdate t m i x,ty,pos,aft,none⟩] (fun e h=>oblR ops k H h rs∧WD P C ops os (k + 1) rs ((k,H,h) :: as) K e h) env H:=WD_2 rfl
theorem WD_append (args:Array Operand) (ts:Array TypeId):WD P C ops (⟨dst,.call ⟨.builtin .append,args,ts⟩,ty,pos,aft,none⟩ :: os) k rs as K env H=WO P C ops [⟨dst,.call ⟨.builtin .append,args,ts⟩,ty,pos,aft,none⟩] (fun e h=>oblR ops k H h rs∧WD P C ops os (k + 1) rs ((k,H,h) :: as) K e h) env H:=WD_2 rfl
theorem WD_call (f:Operand) (args:Array Operand) (ts:Array TypeId):WD P C ops (⟨dst,.call ⟨.value f,args,ts⟩,ty,pos,aft,none⟩ :: os) k rs as K env H=WO P C ops [⟨dst,.call ⟨.value f,args,ts⟩,ty,pos,aft,none⟩] (fun e h=>oblR ops k H h rs∧WD P C ops os (k + 1) rs ((k,H,h) :: as) K e h) env H:=WD_2 rfl
end
structure Fr (N:Nat) (X:List Nat) (H H':AHeap):Prop where
 n:H.n≤H'.n
 old:∀ b,b < H.n→b∉X→H'.get b=H.get b
 grp:∀ b c T g e l,H'.get b=.cells c T (.gr g e l)→g < N→H'.get b=H.get b
 top:Top H→Top H'
theorem Fr.refl {N:Nat} {X:List Nat} (H:AHeap):Fr N X H H:=⟨Nat.le_refl _,fun _ _ _=>rfl,fun _ _ _ _ _ _ _ _=>rfl,id⟩
theorem Fr.mono {N N':Nat} {X X':List Nat} {A B:AHeap} (h:Fr N' X' A B) (hn:N≤N') (hx:∀ b,b∈X'→b < A.n→b∈X):Fr N X A B :=
 ⟨h.n,fun b hb hX=>h.old b hb fun hm=>hX (hx b hm hb),fun b c T g e l hg hl=>h.grp b c T g e l hg (Nat.lt_of_lt_of_le hl hn),h.top⟩
theorem Fr.trans {N:Nat} {X:List Nat} {A B C:AHeap} (h:Fr N X A B) (k:Fr N X B C):Fr N X A C where
 n:=Nat.le_trans h.n k.n
 old b hb hx:=(k.old b (Nat.lt_of_lt_of_le hb h.n) hx).trans (h.old b hb hx)
 grp b c T g e l hg hl:=by
  have e1:=k.grp b c T g e l hg hl
  exact e1.trans (h.grp b c T g e l (e1 ▸ hg) hl)
 top ht:=k.top (h.top ht)
theorem Fr.trans' {N N':Nat} {X X':List Nat} {A B C:AHeap} (h:Fr N X A B) (k:Fr N' X' B C) (hn:N≤N') (hx:∀ b,b∈X'→b < A.n→b∈X):Fr N X A C where
 n:=Nat.le_trans h.n k.n
 old b hb hX:=(k.old b (Nat.lt_of_lt_of_le hb h.n) fun hm=>hX (hx b hm hb)).trans (h.old b hb hX)
 grp b c T g e l hg hl:=by
  have e1:=k.grp b c T g e l hg (Nat.lt_of_lt_of_le hl hn)
  exact e1.trans (h.grp b c T g e l (e1 ▸ hg) hl)
 top ht:=k.top (h.top ht)
theorem Fr.call {N N':Nat} {X:List Nat} {A B C:AHeap} (h:Fr N X A B) (k:Fr N' [] B C) (hn:N≤N'):Fr N X A C:=h.trans' k hn fun b hb=>by simp at hb
def grOk (N b:Nat) (o:AObj):Prop:=match o with|.cells _ _ (.gr g _ _)=>N≤g∧g≤b|_=>True
theorem Fr.upd {N:Nat} {X:List Nat} {A B:AHeap} (h:Fr N X A B) {n b:Nat} {o:AObj} (hn:B.n≤n) (hb:b < n) (hx:A.n≤b∨b∈X) (ho:grOk N b o):Fr N X A (B.upd n b o) where
 n:=Nat.le_trans h.n hn
 old c hc hX:=by
  rw [upd_get_ne]
  ·exact h.old c hc hX
  ·rintro rfl
   rcases hx with hx|hx
   ·omega
   ·exact hX hx
 grp c d T g e l hg hl:=by
  by_cases e1:c=b
  ·subst e1
   rw [upd_get_same] at hg
   subst hg
   have:N≤g:=ho.1
   omega
  ·rw [upd_get_ne e1] at hg ⊢
   exact h.grp c d T g e l hg hl
 top ht:=by
  have ht:=h.top ht
  refine ⟨fun c hc=>?_,fun c=>?_⟩
  ·have hc:n≤c:=hc
   rw [upd_get_ne (by omega)]
   exact ht.1 c (by omega)
  ·by_cases e1:c=b
   ·subst e1
    rw [upd_get_same]
    intro d T g e l hg
    subst hg
    exact ho.2
   ·rw [upd_get_ne e1]
    exact ht.2 c
theorem Fr.rd {N:Nat} {X:List Nat} {A B:AHeap} (h:Fr N X A B) {b:Nat} (hb:b < A.n) (hx:b∉X):B.rd b=A.rd b:=by rw [rd_def,rd_def,h.old b hb hx]
theorem SR.fr {N:Nat} {X:List Nat} {A B:AHeap} (hF:Fr N X A B) {s n:Nat} {v:Value} {c:List Value} (h:SR A s n v c) (hx:n=0∨vblk v∉X):SR B s n v c:=by
 refine ⟨h.shape,h.len, ?_, ?_⟩
 ·by_cases hn:n=0
  ·exact .inl hn
  ·rcases h.cells with q|⟨d,h1,h2⟩
   ·exact .inl q
   ·exact .inr ⟨d,(hF.rd (h.lt.resolve_left hn) (hx.resolve_left hn)).trans h1,h2⟩
 ·rcases h.lt with q|q
  ·exact .inl q
  ·exact .inr (Nat.lt_of_lt_of_le q hF.n)
theorem SR.fr0 {N:Nat} {A B:AHeap} (hF:Fr N [] A B) {s n:Nat} {v:Value} {c:List Value} (h:SR A s n v c):SR B s n v c:=h.fr hF (.inr (by simp))
def Fro (H:AHeap) (g p:Nat):Prop:=∀ b c T e l,H.get b=.cells c T (.gr g e l)→c.length≤p
theorem Fro.cut {H:AHeap} {g p:Nat} (h:Fro H g p):H.cut g p=H:=by
 unfold AHeap.cut
 congr 1
 funext c
 split
 ·rfl
 ·unfold AObj.cut
  split
  ·rename_i d T g' e l he
   split
   ·rename_i hh
    obtain ⟨rfl,hh⟩:=hh
    have:=h _ _ _ _ _ he
    omega
   ·exact he.symm
  ·rfl
inductive GS (H:AHeap) (s n:Nat) (v:Value) (c:List Value):Option Nat→Prop
 | nil (hn:n=0) (hv:v=.slice none 0 0) (hc:c=[]):GS H s n v c none
 | full {b o:Nat} {d:List Value} {T:TypeId} {k:Kd} (hv:v=.slice (some ⟨b,o,none⟩) n n) (hb:b < H.n) (hg:H.get b=.cells d T k) (hk:k=.ex∨k=.ro) (hl:o + n * s≤d.length) (hc:(d.drop o).take (n * s)=c) (h0:n=0→o=0):GS H s n v c none
 | gr {b g:Nat} {T:TypeId} (hv:v=.slice (some ⟨b,0,none⟩) n n) (hb:b < H.n) (hgb:g≤b) (hg:H.get b=.cells c T (.gr g s true)) (hl:c.length=n * s) (hf:Fro H g (n * s)):GS H s n v c (some g)
theorem GS.sr {H:AHeap} {s n:Nat} {v:Value} {c:List Value} {g:Option Nat} (h:GS H s n v c g):SR H s n v c:=by
 cases h with
 | nil hn hv hc=>subst hn hv hc;exact ⟨.inl ⟨rfl,rfl⟩,by simp,.inl rfl,.inl rfl⟩
 | full hv hb hg hk hl hc h0 =>
  subst hv
  refine ⟨.inr ⟨_,_,_,rfl,Nat.le_refl _⟩, ?_,.inr ⟨_, ?_,hl,hc⟩,.inr hb⟩
  ·rw [← hc];simp;omega
  ·rw [rd_def]
   simp only [vblk]
   rw [hg]
   rcases hk with rfl|rfl <;> rfl
 | gr hv hb hgb hg hl hf =>
  subst hv
  refine ⟨.inr ⟨_,_,_,rfl,Nat.le_refl _⟩,hl,.inr ⟨c, ?_, ?_, ?_⟩,.inr hb⟩
  ·rw [rd_def]
   simp only [vblk]
   rw [hg]
   rfl
  ·show 0 + _≤_
   omega
  ·show (c.drop 0).take _=c
   rw [List.drop_zero,← hl,List.take_length]
theorem GS.len {H:AHeap} {s n:Nat} {v:Value} {c:List Value} {g:Option Nat} (h:GS H s n v c g):c.length=n * s:=h.sr.len
theorem GS.grp_lt {H:AHeap} {s n g:Nat} {v:Value} {c:List Value} (h:GS H s n v c (some g)):g < H.n:=by
 cases h with
 | gr hv hb hgb hg hl hf=>omega
section
variable {P:Program} {t e:TypeId} {s by_ n m:Nat} {z v:Value} {H:AHeap} {c new:List Value} {g:Option Nat}
theorem GS.push (hu:P.underlying t=some (.slice e)) (hs:tySize P e=some s) (hb:tyBytes P e=some by_) (hz:tyZero P e=some z) (hd:dflat z=true) (hzs:z.cells.size=s) (h0:0 < s)
  (G:GS H s n v c g) (hl:new.length=m * s) (hm:0 < m) (h1:n + m≤2 ^ 40) (h2:(n + m) * by_≤2 ^ 40) :
  appendA P t H v m new=some (.slice (some ⟨H.n,0,none⟩) (n + m) (n + m),H.upd (H.n + 1) H.n (.cells (c ++ new) e (.gr (g.getD H.n) s true))):=by
 unfold appendA
 simp only [hu,hs,hb,hz]
 rw [if_pos ⟨hd,hzs,h0,hl⟩]
 have hm0:m≠0:=by omega
 cases G with
 | nil hn hv hc =>
  subst hn hv hc
  rw [Nat.zero_add] at h1 h2
  simp only [and_self,if_true,hm0,if_false,h1,h2,alloc_upd,Nat.zero_add,List.nil_append,Option.getD_none]
 | full hv hb' hg hk hl' hc h0' =>
  subst hv
  have hc0:¬ (m=0∧n≤n):=by omega
  rename_i b o d T k
  have ho:¬ (o≠0∧n=0):=fun hh=>hh.1 (h0' hh.2)
  simp only [hc0,if_false,ho,hg]
  have hlv:k.live=true:=by rcases hk with rfl|rfl <;> rfl
  rw [if_pos ⟨hlv,hl',h1,h2⟩]
  have hnm:¬ (n + m≤n):=by omega
  rcases hk with rfl|rfl
  ·simp only [hnm,if_false,hc,alloc_upd,Option.getD_none]
  ·simp only [hnm,if_false,hc,alloc_upd,Option.getD_none]
 | gr hv hb' hgb hg hl' hf =>
  subst hv
  have hc0:¬ (m=0∧n≤n):=by omega
  simp only [hc0,if_false,hg,ne_eq,not_true_eq_false,false_and]
  rw [if_pos ⟨rfl,by omega,h1,h2⟩]
  simp only [and_self,if_true,hf.cut]
  rw [← hl',List.take_length]
  rfl
theorem GS.pushed (ht:Top H) (G:GS H s n v c g) (hl:new.length=m * s) :
  GS (H.upd (H.n + 1) H.n (.cells (c ++ new) e (.gr (g.getD H.n) s true))) s (n + m) (.slice (some ⟨H.n,0,none⟩) (n + m) (n + m)) (c ++ new) (some (g.getD H.n)):=by
 have hlen:=G.len
 refine .gr rfl (by show _ < H.n + 1;omega) ?_ upd_get_same (by rw [List.length_append,hlen,hl,Nat.add_mul]) ?_
 ·cases g with
  | none=>exact Nat.le_refl _
  | some g=>exact Nat.le_of_lt G.grp_lt
 ·intro b d T e' l hb
  by_cases e1:b=H.n
  ·subst e1
   rw [upd_get_same] at hb
   cases hb
   rw [List.length_append,hlen,hl,Nat.add_mul]
   exact Nat.le_refl _
  ·rw [upd_get_ne e1] at hb
   cases g with
   | none =>
    have h1:=ht.2 b _ _ _ _ _ hb
    have h2:=ht.1 b (by simpa using h1)
    rw [h2] at hb
    cases hb
   | some g =>
    cases G with
    | gr hv hb' hgb hg hl' hf =>
     have:=hf _ _ _ _ _ hb
     have:n * s≤(n + m) * s:=Nat.mul_le_mul_right _ (by omega)
     omega
theorem GS.grpOk {N:Nat} (G:GS H s n v c g) (hN:N≤H.n) (hg:∀ x,g=some x→N≤x) {o:List Value} {T:TypeId} {e:Nat} {l:Bool}:grOk N H.n (.cells o T (.gr (g.getD H.n) e l)):=by
 cases g with
 | none=>exact ⟨hN,Nat.le_refl _⟩
 | some g=>exact ⟨hg _ rfl,Nat.le_of_lt G.grp_lt⟩
end
theorem GS.fr {N:Nat} {X:List Nat} {A B:AHeap} (hF:Fr N X A B) {s n:Nat} {v:Value} {c:List Value} {g:Option Nat} (h:GS A s n v c g) (hg:∀ x,g=some x→x < N) (hx:vblk v∉X):GS B s n v c g:=by
 cases h with
 | nil hn hv hc=>exact .nil hn hv hc
 | full hv hb hg1 hk hl hc h0 =>
  subst hv
  exact .full rfl (Nat.lt_of_lt_of_le hb hF.n) ((hF.old _ hb hx).trans hg1) hk hl hc h0
 | gr hv hb hgb hg' hl hf =>
  subst hv
  refine .gr rfl (Nat.lt_of_lt_of_le hb hF.n) hgb ((hF.old _ hb hx).trans hg') hl ?_
  intro b d T e l hb
  have:=hF.grp b d T _ e l hb (hg _ rfl)
  exact hf b d T e l (this ▸ hb)
theorem GS.fr0 {A B:AHeap} (hF:Fr A.n [] A B) {s n:Nat} {v:Value} {c:List Value} {g:Option Nat} (h:GS A s n v c g):GS B s n v c g :=
 h.fr hF (fun x hx=>by subst hx;exact h.grp_lt) (by simp)
def wr:Code→Nat→Bool
 | .region _ ops _,t=>ops.toList.any fun o=>o.dst == some t
 | .seq a b,t|.cond _ a b,t=>wr a t || wr b t
 | .block _ b,t|.loop b,t|.scope b,t=>wr b t
 | _,_=>false
theorem OpStep_env {P:Program} {C:CallRel} {ops:Array Oper} {o:Oper} {e e':Env} {h h':AHeap} (k:OpStep P C ops o e h e' h') {t:Nat} (ht:(o.dst == some t)=false):e' t=e t:=by
 have hs:∀ v,e.set o.dst v t=e t:=by
  intro v
  cases hd:o.dst with
  | none=>rfl
  | some d =>
   rw [hd] at ht
   rw [set_some,put_ne]
   rintro rfl
   simp at ht
 rcases k with ⟨_,v,_,rfl⟩|⟨_,rfl,_⟩ <;> exact hs _
theorem OpsRun_env {P:Program} {C:CallRel} {ops:Array Oper}:∀ (os:List Oper) {e e':Env} {h h':AHeap},OpsRun P C ops os e h e' h'→∀ {t:Nat},(os.any fun o=>o.dst == some t)=false→e' t=e t
 | [],_,_,_,_,⟨rfl,_⟩,_,_=>rfl
 | o :: os,e,e',h,h',⟨e1,h1,k1,k2⟩,t,ht=>by
  simp only [List.any_cons,Bool.or_eq_false_iff] at ht
  exact (OpsRun_env os k2 ht.2).trans (OpStep_env k1 ht.1)
theorem DrawnRun_env {P:Program} {C:CallRel} {ops:Array Oper} {e e':Env} {h h':AHeap} (k:DrawnRun P C ops e h e' h') {t:Nat} (ht:(ops.toList.any fun o=>o.dst == some t)=false):e' t=e t:=by
 obtain ⟨E,Hs,rfl,_,rfl,_,hs,_⟩:=k
 have:∀ i,i≤ops.size→E i t=E 0 t:=by
  intro i
  induction i with
  | zero=>intro _;rfl
  | succ i ih =>
   intro hi
   have ho:=hs i ops[i] (Array.getElem?_eq_getElem (by omega))
   refine (OpStep_env ho ?_).trans (ih (by omega))
   rw [List.any_eq_false] at ht
   simpa using ht ops[i] (by simp)
 exact this _ (Nat.le_refl _)
theorem ARun_env {P:Program} {C:CallRel} {ng nt:Nat} {c:Code} {e e':Env} {h h':AHeap} {x:Ex} (k:ARun P C ng nt c e h x e' h') {t:Nat} (ht:wr c t=false):e' t=e t:=by
 induction k with
 | skip=>rfl
 | label=>rfl
 | exit=>rfl
 | ret=>rfl
 | seqN _ _ i1 i2=>simp only [wr,Bool.or_eq_false_iff] at ht;exact (i2 ht.2).trans (i1 ht.1)
 | seqX _ hx i=>simp only [wr,Bool.or_eq_false_iff] at ht;exact i ht.1
 | @cond c a b env H y ex env1 H1 hc h1 i=>simp only [wr,Bool.or_eq_false_iff] at ht;exact i (by cases y;exact ht.2;exact ht.1)
 | blockE _ i=>exact i ht
 | blockX _ hx i=>exact i ht
 | loopN _ _ i1 i2=>exact (i2 ht).trans (i1 ht)
 | loopX _ hx i=>exact i ht
 | scope _ i=>exact i ht
 | region k=>exact OpsRun_env _ k ht
 | drawn k=>exact DrawnRun_env k ht
 | range hc hl hs hp=>rfl
section
variable {P:Program} {C:CallRel} {ng nt:Nat}
theorem W_loopF {b:Code} {env:Env} {H:AHeap} {Q:Post} (L:List Nat) (hL:(L.all fun t=>!wr b t)=true) (I:Nat→Env→AHeap→Prop)
  (n:Nat) (h:I n env H)
  (hI:∀ n e h,(∀ t,t∈L→e t=env t)→I n e h→W P C ng nt b e h fun x e' h'=>match x with
   | .normal=>∃ m,m < n∧I m e' h'
   | .exit i=>Q (.exit i) e' h'
   | .ret=>Q .ret e' h'):W P C ng nt (.loop b) env H Q:=by
 refine W_loop (I:=fun n e h=>(∀ t,t∈L→e t=env t)∧I n e h) ?_ n ⟨fun _ _=>rfl,h⟩
 rintro n e h ⟨h1,h2⟩
 obtain ⟨x,e',h',r,q⟩:=hI n e h h1 h2
 refine ⟨x,e',h',r, ?_⟩
 cases x with
 | normal =>
  obtain ⟨m,hm,q⟩:=q
  refine ⟨m,hm,fun t ht=>?_,q⟩
  rw [← h1 t ht]
  refine ARun_env r ?_
  have:=List.all_eq_true.1 hL t ht
  simpa using this
 | exit i=>exact q
 | ret=>exact q
end
end Go.Proofs.Swa
set_option linter.unusedVariables false
set_option linter.unusedSimpArgs false
set_option linter.defProp false
namespace Go.Proofs.Swa
open Go
def one (v:Value):Prop:=notTup v=true∧v.cells = #[v]
theorem one_int {k:IntKind} {n:Int}:one (.int k n):=⟨rfl,rfl⟩
theorem one_bool {b:Bool}:one (.bool b):=⟨rfl,rfl⟩
theorem one_slice {a:Option Addr} {n c:Nat}:one (.slice a n c):=⟨rfl,rfl⟩
theorem one_ptr {a:Option Addr}:one (.pointer a):=⟨rfl,rfl⟩
theorem one_vptr {b o:Nat}:one (vptr b o):=⟨rfl,rfl⟩
theorem one_map {r:Option Nat}:one (.map r):=⟨rfl,rfl⟩
theorem one_func {f:Fn} {a c:Array Value}:one (.func f a c):=⟨rfl,rfl⟩
theorem one_string {s:ByteArray}:one (.string s):=⟨rfl,rfl⟩
theorem SR.one {H:AHeap} {s n:Nat} {v:Value} {c:List Value} (h:SR H s n v c):one v:=⟨h.nt,h.vcells⟩
theorem GS.one {H:AHeap} {s n:Nat} {v:Value} {c:List Value} {g:Option Nat} (h:GS H s n v c g):one v:=h.sr.one
def fillL (pl:List (Nat×Nat)) (cells:List Value) (parts:List (Nat×Value)):Option (List Value):=fillF (pl[·]?) cells parts
theorem fillL_nil {pl:List (Nat×Nat)} {cells:List Value}:fillL pl cells []=some cells:=rfl
theorem fillL_one {pl:List (Nat×Nat)} {cells:List Value} {i off:Nat} {v:Value} {rest:List (Nat×Value)} (hp:pl[i]? = some (off,1)) (hv:one v) (ho:off < cells.length) :
  fillL pl cells ((i,v) :: rest)=fillL pl (cells.set off v) rest:=by
 unfold fillL
 simp only [fillF,hp]
 rw [if_pos ⟨hv.1,by rw [hv.2];rfl,ho⟩]
 congr 1
 rw [hv.2,List.set_eq_take_append_cons_drop,if_pos ho]
 simp [splice]
theorem fillL_agg {pl:List (Nat×Nat)} {cells l:List Value} {i off s:Nat} {rest:List (Nat×Value)} (hp:pl[i]? = some (off,s)) (hl:l.length=s) (ho:off + s≤cells.length) :
  fillL pl cells ((i,.agg ⟨l⟩) :: rest)=fillL pl (splice cells off l) rest:=by
 unfold fillL
 simp only [fillF,hp]
 rw [if_pos ⟨rfl,by simpa [Value.cells] using hl,ho⟩]
 rfl
theorem build_of {P:Program} {t:TypeId} {z:Value} {fs:Array Field} {pl:List (Nat×Nat)} {parts:List (Nat×Value)} (hz:tyZero P t=some z) (hd:dflat z=true) (hu:P.underlying t=some (.struct fs)) (hp:placesF P fs.toList=some pl) :
  buildA P t parts=(fillL pl z.cells.toList parts).map fun c=>.agg c.toArray:=by
 unfold buildA fillL
 simp only [hz,hu,hd,hp,if_true]
def elts (s:Nat):List (Nat×Value)→Option (List Value)
 | []=>some []
 | (_,v) :: rest=>if notTup v=true∧v.cells.size=s then (elts s rest).map (v.cells.toList ++ ·) else none
theorem fillS {s:Nat} (hs:0 < s):∀ (parts:List (Nat×Value)) (k:Nat) (a b l:List Value),(∀ j (h:j < parts.length),(parts[j]).1=k + j)→a.length=k * s→b.length=parts.length * s→elts s parts=some l →
  fillF (fun i=>some (i * s,s)) (a ++ b) parts=some (a ++ l)
 | [],k,a,b,l,_,ha,hb,he=>by
  have:b=[]:=by simpa using hb
  subst this
  cases he
  rfl
 | (i,v) :: rest,k,a,b,l,hi,ha,hb,he=>by
  have hi0:i=k:=hi 0 (by simp)
  subst hi0
  simp only [elts] at he
  split at he
  ·rename_i hv
   cases hr:elts s rest with
   | none=>rw [hr] at he;cases he
   | some r =>
    rw [hr] at he
    cases he
    have hb':b.length=s + rest.length * s:=by rw [hb,List.length_cons,Nat.add_mul];omega
    simp only [fillF]
    rw [if_pos ⟨hv.1,hv.2,by rw [List.length_append];omega⟩]
    have e1:splice (a ++ b) (i * s) v.cells.toList=(a ++ v.cells.toList) ++ b.drop s:=by
     have hvl:v.cells.toList.length=s:=by simpa using hv.2
     unfold splice
     rw [hvl,List.take_append_of_le_length (by omega),List.take_of_length_le (by omega),List.drop_append,List.drop_of_length_le (by omega)]
     simp [ha]
    rw [e1,fillS hs rest (i + 1) (a ++ v.cells.toList) (b.drop s) r ?_ ?_ ?_ hr,List.append_assoc]
    ·intro j hj
     have:=hi (j + 1) (by simpa using hj)
     simpa [Nat.add_assoc,Nat.add_comm 1 j] using this
    ·rw [List.length_append,ha,Nat.add_mul]
     simpa using hv.2
    ·rw [List.length_drop]
     omega
  ·cases he
theorem zeros_len {z:List Value} {s:Nat} (hz:z.length=s) (n:Nat):(zeros z n).length=n * s:=by
 unfold zeros
 have:∀ l:List Nat,(l.flatMap fun _=>z).length=l.length * s:=by
  intro l
  induction l with
  | nil=>simp
  | cons a l ih=>simp [List.flatMap_cons,hz,ih,Nat.add_mul];omega
 simpa using this (List.range n)
theorem buildSlice_of {P:Program} {t e:TypeId} {n s:Nat} {z:Value} {parts:List (Nat×Value)} {H:AHeap} {l:List Value} (hu:P.underlying t=some (.slice e)) (hs:tySize P e=some s) (hz:tyZero P e=some z) (hd:dflat z=true) (hzs:z.cells.size=s)
  (h0:0 < s) (hn:n * s≤2 ^ 24) (hi:parts.map (·.1)=List.range n) (he:elts s parts=some l) :
  buildSliceA P t n parts H=some (.slice (some ⟨H.n,0,none⟩) n n,H.upd (H.n + 1) H.n (.cells l e .ex)):=by
 have hlen:parts.length=n:=by simpa using congrArg List.length hi
 unfold buildSliceA
 simp only [hu,hs,hz]
 rw [if_pos ⟨hd,hzs,h0,hn⟩]
 have:=fillS h0 parts 0 [] (zeros z.cells.toList n) l (fun j hj=>by
  have h2:(parts.map (·.1))[j]? = (List.range n)[j]?:=by rw [hi]
  rw [List.getElem?_map,List.getElem?_eq_getElem hj,List.getElem?_range (by omega)] at h2
  simpa using h2) (by simp) (by rw [zeros_len (by simpa using hzs),hlen]) he
 simp only [List.nil_append] at this
 rw [this]
 rfl
theorem elts_nil {s:Nat}:elts s []=some []:=rfl
theorem elts_one {i:Nat} {v:Value} {rest:List (Nat×Value)} (hv:one v):elts 1 ((i,v) :: rest)=(elts 1 rest).map (v :: ·):=by
 conv=>lhs;unfold elts
 rw [if_pos ⟨hv.1,by rw [hv.2];rfl⟩,hv.2]
 rfl
theorem elts_agg {s i:Nat} {l:List Value} {rest:List (Nat×Value)} (hl:l.length=s):elts s ((i,.agg ⟨l⟩) :: rest)=(elts s rest).map (l ++ ·):=by
 conv=>lhs;unfold elts
 rw [if_pos ⟨rfl,by simpa [Value.cells] using hl⟩]
 rfl
theorem makeSlice_of {P:Program} {t e:TypeId} {s by_:Nat} {z:Value} {H:AHeap} {k k':IntKind} {n m:Int} (hu:P.underlying t=some (.slice e)) (hs:tySize P e=some s) (hz:tyZero P e=some z) (hb:tyBytes P e=some by_) (hd:dflat z=true) (hzs:z.cells.size=s)
  (h0:0 < s) (h1:0≤n) (h2:n≤m) (h3:m≤2 ^ 40) (h4:by_ * m≤2 ^ 40) :
  makeSliceA P t (.int k n) (.int k' m) H=some (.slice (some ⟨H.n,0,none⟩) n.toNat m.toNat,H.upd (H.n + 1) H.n (.cells (zeros z.cells.toList m.toNat) e .ex)):=by
 unfold makeSliceA
 simp only [hu,hs,hz,hb]
 rw [if_pos ⟨hd,hzs,h0,h1,h2,h3,h4⟩]
 rfl
theorem zeros_one {z:Value} {n:Nat}:zeros [z] n=List.replicate n z:=by
 unfold zeros
 have:∀ l:List Nat,(l.flatMap fun _=>[z])=List.replicate l.length z:=by
  intro l
  induction l with
  | nil=>rfl
  | cons a l ih=>rw [List.flatMap_cons,ih];rfl
 rw [this,List.length_range]
theorem at1_def {c:List Value} {o:Nat}:at1 c o=c[o]?:=rfl
theorem srcA_of {H:AHeap} {s n:Nat} {x:Value} {c:List Value} (h:SR H s n x c):srcA H s x=some c:=by
 rcases h.shape with ⟨rfl,rfl⟩|⟨b,o,k,rfl,_⟩
 ·have:=h.len
  simp at this
  subst this
  rfl
 ·unfold srcA
  by_cases hn:n=0
  ·have:=h.len
   subst hn
   simp at this
   subst this
   rfl
  ·rcases h.cells with q|⟨d,h1,h2,h3⟩
   ·exact absurd q hn
   ·simp only [hn,if_false]
    have h1':H.rd b=some d:=h1
    have h2':o + n * s≤d.length:=h2
    simp only [h1',h2',if_true]
    exact congrArg some h3
theorem appendOp_of {P:Program} {t t1 e e1:TypeId} {s m:Nat} {H:AHeap} {v x:Value} {new:List Value} (hu:P.underlying t=some (.slice e)) (hu1:P.underlying t1=some (.slice e1)) (hs:tySize P e=some s) (S:SR H s m x new) :
  appendOp P #[t,t1] [v,x] H=appendA P t H v m new:=by
 unfold appendOp
 simp only [hu,hu1,hs]
 have:=srcA_of S
 rcases S.shape with ⟨rfl,rfl⟩|⟨b,o,k,rfl,_⟩ <;> simp only [this]
theorem append0 {P:Program} {t e:TypeId} {s by_ n:Nat} {z v:Value} {H:AHeap} {c new:List Value} {g:Option Nat} (hu:P.underlying t=some (.slice e)) (hs:tySize P e=some s) (hb:tyBytes P e=some by_) (hz:tyZero P e=some z) (hd:dflat z=true) (hzs:z.cells.size=s) (h0:0 < s)
  (G:GS H s n v c g) (hl:new.length=0):appendA P t H v 0 new=some (v,H):=by
 unfold appendA
 simp only [hu,hs,hb,hz]
 rw [if_pos ⟨hd,hzs,h0,by omega⟩]
 cases G with
 | nil hn hv hc=>subst hn hv hc;rfl
 | full hv hb' hg hk hl' hc h0'=>subst hv;simp
 | gr hv hb' hgb hg hl' hf=>subst hv;simp
theorem SR.new {H:AHeap} {s m:Nat} {l:List Value} {e:TypeId} (hl:l.length=m * s):SR (H.upd (H.n + 1) H.n (.cells l e .ex)) s m (.slice (some ⟨H.n,0,none⟩) m m) l:=by
 refine ⟨.inr ⟨_,_,_,rfl,Nat.le_refl _⟩,hl,.inr ⟨l, ?_, ?_, ?_⟩,.inr ?_⟩
 ·simp only [vblk,upd_rd_same,rdO_ex]
 ·simp only [voff];omega
 ·simp only [voff,List.drop_zero,← hl,List.take_length]
 ·simp only [vblk,upd_n];omega
theorem GS.new {H:AHeap} {s m:Nat} {l:List Value} {e:TypeId} (hl:l.length=m * s):GS (H.upd (H.n + 1) H.n (.cells l e .ex)) s m (.slice (some ⟨H.n,0,none⟩) m m) l none :=
 .full rfl (Nat.lt_succ_self _) upd_get_same (.inl rfl) (by omega) (by simp [← hl]) fun _=>rfl
theorem GS.nul {H:AHeap} {s:Nat}:GS H s 0 (.slice none 0 0) [] none:=.nil rfl rfl rfl
theorem Fr.ex {H:AHeap} {N:Nat} {X:List Nat} {c:List Value} {T:TypeId}:Fr N X H (H.upd (H.n + 1) H.n (.cells c T .ex)):=(Fr.refl H).upd (Nat.le_succ _) (Nat.lt_succ_self _) (.inl (Nat.le_refl _)) trivial
theorem GS.ex {H:AHeap} {s n:Nat} {v:Value} {c c':List Value} {T:TypeId} {g:Option Nat} (G:GS H s n v c g):GS (H.upd (H.n + 1) H.n (.cells c' T .ex)) s n v c g:=G.fr0 Fr.ex
theorem conv_int {P:Program} {s d:TypeId} {x:TypeDesc} {k k':IntKind} {a:Int} (hs:P.underlying s=some x) (hd:P.underlying d=some (.int k')):convA P s d (.int k a)=some (.int k' (k'.wrap a)):=by
 have:pr P (convert s d (.int k a))=some (.int k' (k'.wrap a)):=by
  simp only [convert,pr_bind',underlying,pr_program,Option.bind_some,hs,hd,pr_pure]
  cases x <;> rfl
 simp only [convA,dflat,flat,if_true,this,keep]
theorem nilCheck_ptr {b o:Nat}:nilCheckA (vptr b o)=some (vptr b o):=rfl
theorem nilCheck_fn {f:FuncId} {a c:Array Value}:nilCheckA (.func (.func f) a c)=some (.func (.func f) a c):=rfl
theorem extract_tup {l:List Value} {i:Nat}:extractA (.tuple ⟨l⟩) i=l[i]?:=by simp [extractA]
theorem mE {x:Env}:tok x=x:=rfl
theorem mO {x:Option Value}:tok x=x:=rfl
theorem mB {x:Option (Value×AHeap)}:tok x=x:=rfl
theorem mH {x:Option AHeap}:tok x=x:=rfl
theorem mBind {x:List Value} {f:List Value→Option Value}:(some x).bind f=f x:=rfl
theorem mBindV {x:Value} {f:Value→Option Value}:(some x).bind f=f x:=rfl
theorem mMapV {x:Value} {f:Value→Value}:(some x).map f=some (f x):=rfl
theorem mMapL {x:List Value} {f:List Value→Value}:(some x).map f=some (f x):=rfl
theorem mGet0 {a:Value} {l:List Value}:(a :: l)[0]? = some a:=rfl
theorem mGetS {a:Value} {l:List Value} {i:Nat}:(a :: l)[i + 1]? = l[i]?:=rfl
theorem mGetA {l:List Value} {i:Nat}:l.toArray[i]? = l[i]?:=by simp
theorem mGetM {l:List Value} {i:Nat}:(Array.mk l)[i]? = l[i]?:=by simp
theorem mMapA {l:List Operand} {f:Operand→Value}:l.toArray.map f=(l.map f).toArray:=by simp
theorem mMapC {a:Operand} {l:List Operand} {f:Operand→Value}:(a :: l).map f=f a :: l.map f:=rfl
theorem mMapN {f:Operand→Value}:([]:List Operand).map f=[]:=rfl
theorem mMapPC {a:Nat×Operand} {l:List (Nat×Operand)} {f:Nat×Operand→Nat×Value}:(a :: l).map f=f a :: l.map f:=rfl
theorem mMapPN {f:Nat×Operand→Nat×Value}:([]:List (Nat×Operand)).map f=[]:=rfl
theorem mTL {l:List Value}:l.toArray.toList=l:=rfl
theorem mTLO {l:List Operand}:l.toArray.toList=l:=rfl
theorem mTLP {l:List (Nat×Operand)}:l.toArray.toList=l:=rfl
theorem mAE {a:Array Value}:#[] ++ a=a:=by simp
theorem mEA {a:Array Value}:a ++ #[]=a:=by simp
theorem mAA {a b:List Value}:a.toArray ++ b.toArray=(a ++ b).toArray:=by simp
theorem mLenC {a:Value} {l:List Value}:(a :: l).length=l.length + 1:=rfl
theorem mLenN:([]:List Value).length=0:=rfl
theorem mSet0 {a b:Value} {l:List Value}:(a :: l).set 0 b=b :: l:=rfl
theorem mSetS {a b:Value} {l:List Value} {i:Nat}:(a :: l).set (i + 1) b=a :: l.set i b:=rfl
def xorI (k:IntKind) (a b:Int):Int:=k.wrap (BitVec.ofInt k.bits a ^^^ BitVec.ofInt k.bits b).toNat
def shlI (k:IntKind) (a b:Int):Int:=k.wrap (a * 2 ^ (min b.toNat k.bits))
def shrI (k:IntKind) (a b:Int):Int:=a.fdiv (2 ^ (min b.toNat k.bits))
theorem bop_xorI {P:Program} {t:TypeId} {x y:Operand} {k:IntKind} {a b:Int}:bopA P .xor t x y (.int k a) (.int k b)=some (.int k (xorI k a b)):=bop_xor
theorem bop_shlI {P:Program} {t:TypeId} {x y:Operand} {k k':IntKind} {a b:Int} (h:0≤b):bopA P .shl t x y (.int k a) (.int k' b)=some (.int k (shlI k a b)):=bop_shl h
theorem bop_shrI {P:Program} {t:TypeId} {x y:Operand} {k k':IntKind} {a b:Int} (h:0≤b):bopA P .shr t x y (.int k a) (.int k' b)=some (.int k (shrI k a b)):=bop_shr h
theorem bits_u64:IntKind.u64.bits=64:=rfl
theorem bits_i64:IntKind.i64.bits=64:=rfl
theorem bits_u8:IntKind.u8.bits=8:=rfl
theorem bits_i32:IntKind.i32.bits=32:=rfl
theorem mSome {a b:Bool}:(some a=some b)=(a=b):=by simp
def pb:=(And.intro (And.intro (And.intro (And.intro (And.intro @WO_move @WO_assign) (And.intro @WO_alloc @WO_box)) (And.intro (And.intro @WO_build @WO_buildSlice) (And.intro @WO_load @WO_store))) (And.intro (And.intro (And.intro @WO_nilCheck @WO_makeFunc) (And.intro @WO_makeSlice @WO_slice)) (And.intro (And.intro @WO_fieldAddr @WO_field) (And.intro @WO_indexAddr @WO_index)))) (And.intro (And.intro (And.intro (And.intro @WO_extract @WO_makeMap) (And.intro @WO_lookup @WO_mapUpdate)) (And.intro (And.intro @WO_next @WO_append) (And.intro @WO_binOp @WO_unOp))) (And.intro (And.intro (And.intro @WO_convert @WO_pick) (And.intro @WO_len @WO_cap)) (And.intro (And.intro @WO_range @WO_min) (And.intro @WO_max @WO_nil)))))
def pd:=(And.intro (And.intro (And.intro (And.intro @WD_move (And.intro @WD_assign @WD_build)) (And.intro (And.intro @WD_nilCheck @WD_makeFunc) (And.intro @WD_fieldAddr @WD_field))) (And.intro (And.intro (And.intro @WD_indexAddr @WD_index) (And.intro @WD_extract @WD_binOp)) (And.intro (And.intro @WD_unOp @WD_convert) (And.intro @WD_pick @WD_min)))) (And.intro (And.intro (And.intro @WD_max (And.intro @WD_load @WD_lenS)) (And.intro (And.intro @WD_alloc @WD_box) (And.intro @WD_buildSlice @WD_makeSlice))) (And.intro (And.intro (And.intro @WD_slice @WD_lookup) (And.intro @WD_makeMap @WD_store)) (And.intro (And.intro @WD_mapUpdate @WD_append) (And.intro @WD_call @WD_nil)))))
def qb:=(And.intro (And.intro (And.intro (And.intro (And.intro (And.intro @one_int (And.intro @one_bool @one_slice)) (And.intro @one_ptr (And.intro @one_vptr @one_map))) (And.intro (And.intro @one_func (And.intro @one_string @fillL_nil)) (And.intro (And.intro @oV_some @oB_some) (And.intro @oH_some @asB_bool)))) (And.intro (And.intro (And.intro @ev_tmp (And.intro @ev_const @ev_func)) (And.intro (And.intro @set_some @set_none) (And.intro @put_eq @alloc_upd))) (And.intro (And.intro @put_upd (And.intro @upd_n @upd_upd)) (And.intro (And.intro @upd_get_same @upd_rd_same) (And.intro @rdO_ex @rdO_ro))))) (And.intro (And.intro (And.intro (And.intro @rdO_gr (And.intro @at1_def @box_of)) (And.intro @cells_int (And.intro @cells_bool @cells_agg))) (And.intro (And.intro @cells_slice (And.intro @cells_ptr @cells_map)) (And.intro (And.intro @cells_func @cells_string) (And.intro @nt_int @nt_bool)))) (And.intro (And.intro (And.intro @nt_agg (And.intro @nt_slice @nt_ptr)) (And.intro (And.intro @nt_map @nt_func) (And.intro @nt_string @bop_add))) (And.intro (And.intro @bop_sub (And.intro @bop_mul @bop_xorI)) (And.intro (And.intro @bop_lss @bop_leq) (And.intro @bop_gtr @bop_geq)))))) (And.intro (And.intro (And.intro (And.intro (And.intro @bop_eql (And.intro @bop_neq @uop_neg)) (And.intro @uop_not (And.intro @mm_min @mm_max))) (And.intro (And.intro @argEnv0 (And.intro @argEnvS @callV_fn)) (And.intro (And.intro @callV_yield @nilCheck_ptr) (And.intro @nilCheck_fn @extract_tup)))) (And.intro (And.intro (And.intro @mE (And.intro @mO @mB)) (And.intro (And.intro @mH @mBind) (And.intro @mBindV @mMapV))) (And.intro (And.intro @mMapL (And.intro @mGet0 @mGetS)) (And.intro (And.intro @mGetA @mGetM) (And.intro @mMapA @mMapC))))) (And.intro (And.intro (And.intro (And.intro @mMapN (And.intro @mMapPC @mMapPN)) (And.intro @mTL (And.intro @mTLO @mTLP))) (And.intro (And.intro @mAE (And.intro @mEA @mAA)) (And.intro (And.intro @mSet0 @mSetS) (And.intro @bits_u64 @bits_i64)))) (And.intro (And.intro (And.intro @bits_u8 (And.intro @bits_i32 @mSome)) (And.intro (And.intro @Nat.add_zero @Nat.zero_add) (And.intro @Int.toNat_natCast @Bool.false_eq_true))) (And.intro (And.intro @Bool.true_eq_false (And.intro @Bool.not_true @Bool.not_false)) (And.intro (And.intro @decide_true @decide_false) (And.intro @not_true_eq_false @not_false_eq_true)))))))
def qd:=(And.intro (And.intro (And.intro @mapB_slice (And.intro @mapB_string @mapB_map)) (And.intro (And.intro @blkOf_ptr @blkOf_slice) (And.intro @blkOf_nil @blkOf_map))) (And.intro (And.intro (And.intro @oblO_none @oblO_nil) (And.intro @oblO_some @oblA_nil)) (And.intro (And.intro @oblR_nil @rdO_some) (And.intro @rdO_none @true_and))))
def qc:=(And.intro (And.intro (And.intro (And.intro (And.intro (And.intro @one_int (And.intro @one_bool @one_slice)) (And.intro @one_ptr (And.intro @one_vptr @one_map))) (And.intro (And.intro @one_func (And.intro @one_string @upd_n)) (And.intro @upd_upd (And.intro @upd_get_same @upd_rd_same)))) (And.intro (And.intro (And.intro @rdO_ex (And.intro @rdO_ro @rdO_gr)) (And.intro @at1_def (And.intro @stG_agg @stG_int))) (And.intro (And.intro @stG_bool (And.intro @stG_slice @stG_ptr)) (And.intro @stG_func (And.intro @stG_map @stG_string))))) (And.intro (And.intro (And.intro (And.intro @atN_all (And.intro @cells_int @cells_bool)) (And.intro @cells_agg (And.intro @cells_slice @cells_ptr))) (And.intro (And.intro @cells_map (And.intro @cells_func @cells_string)) (And.intro @nt_int (And.intro @nt_bool @nt_agg)))) (And.intro (And.intro (And.intro @nt_slice (And.intro @nt_ptr @nt_map)) (And.intro @nt_func (And.intro @nt_string @bop_quo))) (And.intro (And.intro @bop_rem (And.intro @bop_shlI @bop_shrI)) (And.intro @bop_add (And.intro @bop_sub @bop_mul)))))) (And.intro (And.intro (And.intro (And.intro (And.intro @bop_xorI (And.intro @bop_lss @bop_leq)) (And.intro @bop_gtr (And.intro @bop_geq @bop_eql))) (And.intro (And.intro @bop_neq (And.intro @mE @mO)) (And.intro @mB (And.intro @mH @mBind)))) (And.intro (And.intro (And.intro @mBindV (And.intro @mMapV @mMapL)) (And.intro @mGet0 (And.intro @mGetS @mGetA))) (And.intro (And.intro @mGetM (And.intro @mMapA @mMapC)) (And.intro @mMapN (And.intro @mMapPC @mMapPN))))) (And.intro (And.intro (And.intro (And.intro @mTL (And.intro @mTLO @mTLP)) (And.intro @mAE (And.intro @mEA @mAA))) (And.intro (And.intro @mSet0 (And.intro @mSetS @bits_u64)) (And.intro @bits_i64 (And.intro @bits_u8 @bits_i32)))) (And.intro (And.intro (And.intro @mSome (And.intro @Nat.add_zero @Nat.zero_add)) (And.intro @Int.toNat_natCast (And.intro @Bool.false_eq_true @Bool.true_eq_false))) (And.intro (And.intro @Bool.not_true (And.intro @Bool.not_false @decide_true)) (And.intro @decide_false (And.intro @not_true_eq_false @not_false_eq_true)))))))
def AHeap.jn (H G:AHeap):AHeap:=⟨G.n,fun b=>if b < H.n then H.get b else G.get b⟩
structure Jn (H G:AHeap):Prop where
 n:H.n≤G.n
 grp:∀ b c T g e l,H.n≤b→G.get b=.cells c T (.gr g e l)→H.n≤g∧g≤b
 top:∀ b,G.n≤b→G.get b=.dead
theorem jn_n {H G:AHeap}:(H.jn G).n=G.n:=rfl
theorem jn_get {H G:AHeap} {b:Nat} (h:b < H.n):(H.jn G).get b=H.get b:=by simp [AHeap.jn,h]
theorem jn_rd {H G:AHeap} {b:Nat} (h:b < H.n):(H.jn G).rd b=H.rd b:=by rw [rd_def,rd_def,jn_get h]
theorem jn_get_ge {H G:AHeap} {b:Nat} (h:H.n≤b):(H.jn G).get b=G.get b:=by simp [AHeap.jn,Nat.not_lt.2 h]
theorem Fr.jn {N:Nat} {X:List Nat} {A B G:AHeap} (h:Fr N X A B) (k:Jn B G) (hN:N≤B.n):Fr N X A (B.jn G) where
 n:=Nat.le_trans h.n k.n
 old b hb hX:=(jn_get (Nat.lt_of_lt_of_le hb h.n)).trans (h.old b hb hX)
 grp b c T g e l hg hl:=by
  by_cases hb:b < B.n
  ·rw [jn_get hb] at hg ⊢
   exact h.grp b c T g e l hg hl
  ·rw [jn_get_ge (by omega)] at hg
   have:=(k.grp b c T g e l (by omega) hg).1
   omega
 top ht:=by
  have ht:=h.top ht
  refine ⟨fun b hb=>?_,fun b=>?_⟩
  ·have hb:G.n≤b:=hb
   have:=k.n
   rw [jn_get_ge (by omega)]
   exact k.top b hb
  ·by_cases hb:b < B.n
   ·rw [jn_get hb]
    exact ht.2 b
   ·rw [jn_get_ge (by omega)]
    intro c T g e l hg
    exact (k.grp b c T g e l (by omega) hg).2
theorem Fr.to_jn {H H':AHeap} (h:Fr H.n [] H H') (ht:Top H):H'=H.jn H'∧Jn H H':=by
 have ht':=h.top ht
 constructor
 ·show (⟨H'.n,H'.get⟩:AHeap)=⟨H'.n,_⟩
  congr 1
  funext b
  split
  ·exact h.old b ‹_› (by simp)
  ·rfl
 ·refine ⟨h.n,fun b c T g e l hb hg=>⟨?_,ht'.2 b _ _ _ _ _ hg⟩,ht'.1⟩
  by_cases hh:g < H.n
  ·have:=h.grp b c T g e l hg hh
   rw [ht.1 b hb,hg] at this
   cases this
  ·omega
section
variable {P:Program} {C:CallRel} {ops:Array Oper} {os:List Oper} {K:Env→AHeap→Prop} {env:Env} {H:AHeap} {dst:Option Tmp} {ty:TypeId} {pos:String} {aft:Array Edge}
theorem WO_callF {f:Operand} {args:Array Operand} {ts:Array TypeId} {R:Value→AHeap→Prop} (ht:Top H) (h:∃ v H',callV C (ev env f) (args.map (ev env)) H v H'∧R v H'∧Fr H.n [] H H')
  (k:∀ v G,H.n≤G.n→Jn H G→R v (H.jn G)→WO P C ops os K (env.set dst v) (H.jn G)):WO P C ops (⟨dst,.call ⟨.value f,args,ts⟩,ty,pos,aft,none⟩ :: os) K env H:=by
 obtain ⟨v,H1,h1,h2,h3⟩:=h
 obtain ⟨e,hj⟩:=h3.to_jn ht
 have:=k v H1 hj.n hj
 rw [← e] at this
 exact WO_call h1 (this h2)
theorem WO_callE {f:Operand} {args:Array Operand} {ts:Array TypeId} {v0:Value} {H0:AHeap} (h:∃ v H',callV C (ev env f) (args.map (ev env)) H v H'∧v=v0∧H'=H0) (k:WO P C ops os K (env.set dst v0) H0) :
  WO P C ops (⟨dst,.call ⟨.value f,args,ts⟩,ty,pos,aft,none⟩ :: os) K env H:=by
 obtain ⟨v,H1,h1,rfl,rfl⟩:=h
 exact WO_call h1 k
theorem WO_callV {f:Operand} {args:Array Operand} {ts:Array TypeId} {v0:Value} (ht:Top H) (h:∃ v H',callV C (ev env f) (args.map (ev env)) H v H'∧v=v0∧Fr H.n [] H H')
  (k:∀ G,H.n≤G.n→Jn H G→WO P C ops os K (env.set dst v0) (H.jn G)):WO P C ops (⟨dst,.call ⟨.value f,args,ts⟩,ty,pos,aft,none⟩ :: os) K env H:=by
 obtain ⟨v,H1,h1,rfl,h3⟩:=h
 obtain ⟨e,hj⟩:=h3.to_jn ht
 have:=k H1 hj.n hj
 rw [← e] at this
 exact WO_call h1 this
theorem WO_callX {f:Operand} {args:Array Operand} {ts:Array TypeId} {R:Value→AHeap→Prop} {X:List Nat} (h:∃ v H',callV C (ev env f) (args.map (ev env)) H v H'∧R v H'∧Fr H.n X H H')
  (k:∀ v H',R v H'→Fr H.n X H H'→WO P C ops os K (env.set dst v) H'):WO P C ops (⟨dst,.call ⟨.value f,args,ts⟩,ty,pos,aft,none⟩ :: os) K env H:=by
 obtain ⟨v,H1,h1,h2,h3⟩:=h
 exact WO_call h1 (k v H1 h2 h3)
end
theorem Top.upd {H:AHeap} (ht:Top H) {n b:Nat} {o:AObj} (hn:H.n≤n) (hb:b < n) (ho:grOk 0 b o):Top (H.upd n b o):=by
 refine ⟨fun c hc=>?_,fun c=>?_⟩
 ·have hc:n≤c:=hc
  rw [upd_get_ne (by omega)]
  exact ht.1 c (by omega)
 ·by_cases e1:c=b
  ·subst e1
   rw [upd_get_same]
   intro d T g e l hg
   subst hg
   exact ho.2
  ·rw [upd_get_ne e1]
   exact ht.2 c
theorem Top.jn {H G:AHeap} (ht:Top H) (k:Jn H G):Top (H.jn G):=(Fr.jn (N:=0) (X:=[]) (Fr.refl H) k (Nat.zero_le _)).top ht
theorem SR.el {α:Type} [Inhabited α] {enc:α→List Value} {H:AHeap} {s n:Nat} {v:Value} {l:List α} (h:SR H s n v (l.flatMap enc)) (he:∀ a,(enc a).length=s) (hn:n=l.length) :
  (∀ i k,i < n→k < s→(dOf H v)[voff v + i * s + k]? = (enc (l.getD i default))[k]?)∧(∀ i,i < n→0 < s→(dOf H v)[voff v + i * s]? = (enc (l.getD i default))[0]?) ∧
  (∀ i,i < n→Swa.atN (dOf H v) (voff v + i * s) s=some (.agg ⟨enc (l.getD i default)⟩))∧(∀ i k z,i < n→k + z≤s→Swa.atN (dOf H v) (voff v + i * s + k) z=some (.agg ⟨((enc (l.getD i default)).drop k).take z⟩)):=by
 subst hn
 have hb:∀ i,i < l.length→i * s + s≤l.length * s:=fun i hi=>by
  have:(i + 1) * s≤l.length * s:=Nat.mul_le_mul_right _ hi
  rw [Nat.add_mul] at this;omega
 refine ⟨fun i k hi hk=>?_,fun i hi h0=>?_,fun i hi=>?_,fun i k z hi hk=>?_⟩
 ·rw [Nat.add_assoc,← at1_def,h.at (j:=i * s + k) (by have:=hb i hi;omega)]
  exact flat_at he hi hk
 ·rw [← at1_def,h.at (j:=i * s) (by have:=hb i hi;omega)]
  exact flat_at (k:=0) he hi h0
 ·rw [h.atN (j:=i * s) (z:=s) (hb i hi) (by omega),flat_all he hi]
 ·rw [Nat.add_assoc,h.atN (j:=i * s + k) (z:=z) (by have:=hb i hi;omega) (by omega),flat_part he hi hk]
theorem SR.el1 {α:Type} [Inhabited α] {enc:α→Value} {H:AHeap} {n:Nat} {v:Value} {l:List α} (h:SR H 1 n v (l.map enc)) (hn:n=l.length) :
  (∀ i,i < n→(dOf H v)[voff v + i * 1]? = some (enc (l.getD i default)))∧(∀ i,i < n→(dOf H v)[voff v + i]? = some (enc (l.getD i default))):=by
 subst hn
 have:∀ i,i < l.length→Swa.at1 (dOf H v) (voff v + i)=some (enc (l.getD i default)):=fun i hi=>by
  rw [h.at (j:=i) (by omega)]
  simp [hi]
 exact ⟨fun i hi=>by rw [Nat.mul_one,← at1_def];exact this i hi,fun i hi=>by rw [← at1_def];exact this i hi⟩
theorem oblO_and {ops:Array Oper} {k:Nat} {o:Option Nat} {as:List (Nat×AHeap×AHeap)} {p:Prop} (h:oblO ops k o as) (q:p):oblO ops k o as∧p:=⟨h,q⟩
theorem oblA_and {ops:Array Oper} {k b:Nat} {as:List (Nat×AHeap×AHeap)} {p:Prop} (h:oblA ops k b as) (q:p):oblA ops k b as∧p:=⟨h,q⟩
theorem oblR_and {ops:Array Oper} {k:Nat} {H H':AHeap} {as:List (Nat×Nat)} {p:Prop} (h:oblR ops k H H' as) (q:p):oblR ops k H H' as∧p:=⟨h,q⟩
def qe:=And.intro (And.intro @jn_n @jn_get) (And.intro @jn_rd (And.intro @upd_rd_ne @upd_get_ne))
end Go.Proofs.Swa
set_option linter.unusedVariables false
set_option linter.unusedSimpArgs false
namespace Go.Proofs.Swa
open Go
section
variable {P:Program} {C:CallRel} {ng nt:Nat}
theorem W_count {b:Code} {env:Env} {H:AHeap} {Q:Post} (L:List Nat) (hL:(L.all fun t=>!wr b t)=true) (t len N:Nat) (X X0:List Nat) (J:Nat→Env→AHeap→Prop)
  (h0:env t=.int .i64 0) (hT:Top H) {H0:AHeap} (F0:Fr N X0 H0 H) (hX:∀ b,b∈X→b < H0.n→b∈X0) (hJ:J 0 env H)
  (hI:∀ i e h,i≤len→(∀ t,t∈L→e t=env t)→e t=.int .i64 i→Fr N X H h→Fr N X0 H0 h→Top h→J i e h→W P C ng nt b e h fun x e' h'=>match x with
   | .normal=>i < len∧e' t=.int .i64 (i + 1:Nat)∧Fr N X H h'∧J (i + 1) e' h'
   | .exit i=>Q (.exit i) e' h'
   | .ret=>Q .ret e' h'):W P C ng nt (.loop b) env H Q:=by
 refine W_loopF L hL (fun n e h=>∃ i:Nat,i≤len∧n=len - i∧e t=.int .i64 i∧Fr N X H h∧J i e h) len ⟨0,Nat.zero_le _,by omega,h0,Fr.refl _,hJ⟩ ?_
 rintro n e h hE ⟨i,hi,rfl,ht,hF,hJ⟩
 obtain ⟨x,e',h',r,q⟩:=hI i e h hi hE ht hF (F0.trans' hF (Nat.le_refl _) hX) (hF.top hT) hJ
 refine ⟨x,e',h',r, ?_⟩
 cases x with
 | normal=>obtain ⟨q1,q2,q3,q4⟩:=q;exact ⟨len - (i + 1),by omega,i + 1,by omega,rfl,q2,q3,q4⟩
 | exit i=>exact q
 | ret=>exact q
theorem W_while {σ:Type} {b:Code} {env:Env} {H:AHeap} {Q:Post} (L:List Nat) (hL:(L.all fun t=>!wr b t)=true) (N:Nat) (X X0:List Nat) (J:σ→Env→AHeap→Prop) (mu:σ→Nat)
  (s0:σ) (hT:Top H) {H0:AHeap} (F0:Fr N X0 H0 H) (hX:∀ b,b∈X→b < H0.n→b∈X0) (hJ:J s0 env H)
  (hI:∀ s e h,(∀ t,t∈L→e t=env t)→Fr N X H h→Fr N X0 H0 h→Top h→J s e h→W P C ng nt b e h fun x e' h'=>match x with
   | .normal=>∃ s',mu s' < mu s∧Fr N X H h'∧J s' e' h'
   | .exit i=>Q (.exit i) e' h'
   | .ret=>Q .ret e' h'):W P C ng nt (.loop b) env H Q:=by
 refine W_loopF L hL (fun n e h=>∃ s,n=mu s∧Fr N X H h∧J s e h) (mu s0) ⟨s0,rfl,Fr.refl _,hJ⟩ ?_
 rintro n e h hE ⟨s,rfl,hF,hJ⟩
 obtain ⟨x,e',h',r,q⟩:=hI s e h hE hF (F0.trans' hF (Nat.le_refl _) hX) (hF.top hT) hJ
 refine ⟨x,e',h',r, ?_⟩
 cases x with
 | normal=>obtain ⟨s',q1,q2,q3⟩:=q;exact ⟨mu s',q1,s',rfl,q2,q3⟩
 | exit i=>exact q
 | ret=>exact q
end
theorem blockK_exit {id:Nat} {Q:Post} {e:Env} {h:AHeap} (k:Q .normal e h):blockK id Q (.exit id) e h:=by
 show if id=id then Q .normal e h else Q (.exit id) e h
 rw [if_pos rfl];exact k
theorem blockK_pass {id i:Nat} {Q:Post} {e:Env} {h:AHeap} (hi:i≠id) (k:Q (.exit i) e h):blockK id Q (.exit i) e h:=by
 show if i=id then Q .normal e h else Q (.exit i) e h
 rw [if_neg hi];exact k
theorem drop_getD {α:Type} [Inhabited α] {l:List α} {i:Nat} (h:i < l.length):l.drop i=l.getD i default :: l.drop (i + 1):=by
 rw [List.drop_eq_getElem_cons h]
 simp [List.getD,h]
theorem take_getD {α:Type} [Inhabited α] {l:List α} {i:Nat} (h:i < l.length):l.take (i + 1)=l.take i ++ [l.getD i default]:=by
 rw [List.take_succ_eq_append_getElem h]
 simp [List.getD,h]
theorem w64_lt (x:Int):IntKind.i64.wrap x < 9223372036854775808:=by
 show (if (true && decide (x % (2 ^ 64:Int) ≥ (2 ^ 63:Int)))=true then x % (2 ^ 64:Int) - (2 ^ 64:Int) else x % (2 ^ 64:Int)) < _
 simp only [Bool.true_and,decide_eq_true_eq]
 split <;> omega
theorem forallL {P:Nat→Prop}:(∀ t,t∈([]:List Nat)→P t)=True:=by simp
theorem forallC {P:Nat→Prop} {a:Nat} {l:List Nat}:(∀ t,t∈a :: l→P t)=(P a∧∀ t,t∈l→P t):=by simp
theorem inc64 {i:Nat} (h:i < 9223372036854775807):IntKind.i64.wrap ((i:Int) + 1)=((i + 1:Nat):Int):=by
 rw [wrap64 (by omega) (by omega)];rfl
theorem Fr.rd0 {N:Nat} {A B:AHeap} (h:Fr N [] A B):(∀ b,b < A.n→B.rd b=A.rd b)∧(∀ b,b < A.n→B.get b=A.get b) :=
 ⟨fun b hb=>h.rd hb (by simp),fun b hb=>h.old b hb (by simp)⟩
theorem Fr.rdX {N:Nat} {X:List Nat} {A B:AHeap} (h:Fr N X A B):(∀ b,b < A.n→b∉X→B.rd b=A.rd b)∧(∀ b,b < A.n→b∉X→B.get b=A.get b) :=
 ⟨fun b hb hx=>h.rd hb hx,fun b hb hx=>h.old b hb hx⟩
section
variable {P:Program} {C:CallRel} {Or:OrRel} {ng nt:Nat}
theorem W_range {f:Operand} {ps:Array Tmp} {asg body:Code} {env:Env} {H:AHeap} {Q:Post}
  (h:∃ v H1,callV C (ev env f) #[.func (.yield H.n) #[] #[]] (H.upd (H.n + 1) H.n (.loop nt env ps asg body .ready none)) v H1 ∧
   H1.get H.n=.loop nt env ps asg body .ready none∧Q .normal env (H1.upd H1.n H.n (.loop nt env ps asg body .exhausted none))):W P C ng nt (.rangeFunc f ps asg body) env H Q:=by
 obtain ⟨v,H1,h1,h2,h3⟩:=h
 exact ⟨_,_,_,.range h1 h2 (by simp) (ex:=.normal) rfl,h3⟩
theorem round_W {l:Nat} {args:Array Value} {h:AHeap} {env:Env} {ps:Array Tmp} {asg body:Code} {R:AHeap→Prop}
  (h0:h.get l=.loop nt env ps asg body .ready none) (hs:args.size=ps.size) (hp:(ps.all fun t=>decide (t < nt))=true) (o1:codeOk ng nt asg=true) (o2:codeOk ng nt body=true) (o3:noRange asg=true) (o4:noRange body=true)
  (hr:W P (Cl P Or ng) ng nt asg (roundEnv ps args env) h fun x e1 h1=>x=.normal∧h1.get l=.loop nt env ps asg body .ready none ∧
   W P (Cl P Or ng) ng nt body e1 (h1.upd h1.n l (.loop nt env ps asg body .busy none)) fun x e2 h2=>x=.normal∧h2.get l=.loop nt env ps asg body .busy none∧R (h2.upd h2.n l (.loop nt env ps asg body .ready none))) :
  ∃ H',Cl P Or ng (.yield l) args h (.bool true) H'∧R H':=by
 obtain ⟨x,e1,h1,r1,rfl,g1,x2,e2,h2,r2,rfl,g2,q⟩:=hr
 exact ⟨_,Cl.round h0 hs hp o1 o2 o3 o4 r1 g1 r2 g2,q⟩
end
theorem roundEnv2 {a b:Nat} {x y:Value} {env:Env}:roundEnv #[a,b] #[x,y] env=(env.put a x).put b y:=rfl
end Go.Proofs.Swa
