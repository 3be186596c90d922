/- Part 3 of a proof. -/
import Derived.Test.YtloabbaheifkgaaP02
set_option linter.unusedVariables false
set_option linter.unusedSimpArgs false
namespace Go.Proofs.Swa
open Go
def CRelLe (C D:CallRel):Prop:=∀ t a H v H',C t a H v H'→D t a H v H'
theorem callV_mono {C D:CallRel} (h:CRelLe C D) {f v:Value} {args:Array Value} {H H':AHeap} (k:callV C f args H v H'):callV D f args H v H':=by
 unfold callV at k ⊢
 split at k
 ·exact h _ _ _ _ _ k
 ·exact h _ _ _ _ _ k
 ·exact k.elim
theorem AOp_mono {P:Program} {C D:CallRel} (h:CRelLe C D) {env:Env} {o:Oper} {H H':AHeap} {v:Value} (k:AOp P C env o H v H'):AOp P D env o H v H':=by
 unfold AOp at k ⊢
 split at k
 ·exact callV_mono h k
 ·exact k
 ·exact k
theorem OpStep_mono {P:Program} {C D:CallRel} (h:CRelLe C D) {ops:Array Oper} {o:Oper} {env env':Env} {H H':AHeap} (k:OpStep P C ops o env H env' H'):OpStep P D ops o env H env' H':=by
 rcases k with ⟨hw,v,ho,e⟩|k
 ·exact .inl ⟨hw,v,AOp_mono h ho,e⟩
 ·exact .inr k
theorem OpsRun_mono {P:Program} {C D:CallRel} (h:CRelLe C D) {ops:Array Oper}:∀ (os:List Oper) {env env':Env} {H H':AHeap},OpsRun P C ops os env H env' H'→OpsRun P D ops os env H env' H'
 | [],_,_,_,_,k=>k
 | _ :: os,_,_,_,_,⟨e1,H1,k1,k2⟩=>⟨e1,H1,OpStep_mono h k1,OpsRun_mono h os k2⟩
theorem DrawnRun_mono {P:Program} {C D:CallRel} (h:CRelLe C D) {ops:Array Oper} {env env':Env} {H H':AHeap} (k:DrawnRun P C ops env H env' H'):DrawnRun P D ops env H env' H':=by
 obtain ⟨E,Hs,a,b,c,d,e,f⟩:=k
 exact ⟨E,Hs,a,b,c,d,fun i o ho=>OpStep_mono h (e i o ho),f⟩
theorem ARun_mono {P:Program} {C D:CallRel} (h:CRelLe C D) {ng nt:Nat} {c:Code} {env env':Env} {H H':AHeap} {x:Ex} (k:ARun P C ng nt c env H x env' H'):ARun P D ng nt c env H x env' H':=by
 induction k with
 | skip=>exact .skip
 | label=>exact .label
 | exit=>exact .exit
 | ret=>exact .ret
 | seqN _ _ i1 i2=>exact .seqN i1 i2
 | seqX _ hx i=>exact .seqX i hx
 | cond hc _ i=>exact .cond hc i
 | blockE _ i=>exact .blockE i
 | blockX _ hx i=>exact .blockX i hx
 | loopN _ _ i1 i2=>exact .loopN i1 i2
 | loopX _ hx i=>exact .loopX i hx
 | scope _ i=>exact .scope i
 | region k=>exact .region (OpsRun_mono h _ k)
 | drawn k=>exact .drawn (DrawnRun_mono h k)
 | range hc hl hs hp=>exact .range (callV_mono h hc) hl hs hp
variable {P:Program} {Or:OrRel} {ng:Nat}
theorem CallN_step {n m:Nat} (h:CRelLe (CallN P Or ng n) (CallN P Or ng m)):CRelLe (CallN P Or ng (n + 1)) (CallN P Or ng (m + 1)):=by
 intro t a H v H' k
 cases t with
 | fn f =>
  rcases k with k|⟨fn,c,ex,env1,e1,e2,e4,e3,hok,hrun,r⟩
  ·exact .inl k
  ·exact .inr ⟨fn,c,ex,env1,e1,e2,e4,e3,hok,ARun_mono h hrun,r⟩
 | yield l =>
  obtain ⟨nt,env,ps,asg,body,st,pend,env1,H1,ps1,a1,b1,e1,ex,env2,H2,e3,ps3,a3,b3,st3,pend3,h0,x1,x2,x3,x4,x5,x6,h1,h2,h3,r⟩:=k
  exact ⟨nt,env,ps,asg,body,st,pend,env1,H1,ps1,a1,b1,e1,ex,env2,H2,e3,ps3,a3,b3,st3,pend3,h0,x1,x2,x3,x4,x5,x6,ARun_mono h h1,h2,ARun_mono h h3,r⟩
theorem CallN_le:∀ (n m:Nat),n≤m→CRelLe (CallN P Or ng n) (CallN P Or ng m)
 | 0,_,_=>fun _ _ _ _ _ k=>k.elim
 | n + 1,0,h=>by omega
 | n + 1,m + 1,h=>CallN_step (CallN_le n m (by omega))
def Cl (P:Program) (Or:OrRel) (ng:Nat):CallRel:=fun t a H v H'=>∃ n,CallN P Or ng n t a H v H'
theorem callV_fin {f v:Value} {args:Array Value} {H H':AHeap} (k:callV (Cl P Or ng) f args H v H'):∃ n,callV (CallN P Or ng n) f args H v H':=by
 unfold callV at k
 split at k
 ·obtain ⟨n,k⟩:=k;exact ⟨n,k⟩
 ·obtain ⟨n,k⟩:=k;exact ⟨n,k⟩
 ·exact k.elim
theorem AOp_fin {env:Env} {o:Oper} {H H':AHeap} {v:Value} (k:AOp P (Cl P Or ng) env o H v H'):∃ n,AOp P (CallN P Or ng n) env o H v H':=by
 unfold AOp at k ⊢
 split at k
 ·obtain ⟨n,k⟩:=callV_fin k;exact ⟨n,k⟩
 ·exact ⟨0,k⟩
 ·rename_i h1 h2
  refine ⟨0, ?_⟩
  exact k
theorem OpStep_fin {ops:Array Oper} {o:Oper} {env env':Env} {H H':AHeap} (k:OpStep P (Cl P Or ng) ops o env H env' H'):∃ n,OpStep P (CallN P Or ng n) ops o env H env' H':=by
 rcases k with ⟨hw,v,ho,e⟩|k
 ·obtain ⟨n,ho⟩:=AOp_fin ho;exact ⟨n,.inl ⟨hw,v,ho,e⟩⟩
 ·exact ⟨0,.inr k⟩
theorem OpsRun_fin {ops:Array Oper}:∀ (os:List Oper) {env env':Env} {H H':AHeap},OpsRun P (Cl P Or ng) ops os env H env' H'→∃ n,OpsRun P (CallN P Or ng n) ops os env H env' H'
 | [],_,_,_,_,k=>⟨0,k⟩
 | _ :: os,_,_,_,_,⟨e1,H1,k1,k2⟩=>by
  obtain ⟨n,k1⟩:=OpStep_fin k1
  obtain ⟨m,k2⟩:=OpsRun_fin os k2
  exact ⟨max n m,e1,H1,OpStep_mono (CallN_le _ _ (Nat.le_max_left ..)) k1,OpsRun_mono (CallN_le _ _ (Nat.le_max_right ..)) os k2⟩
theorem fin_all {α:Type} {Q:Nat→α→Prop} (hm:∀ n m a,n≤m→Q n a→Q m a):∀ (N:Nat) (f:Nat→α),(∀ i,i < N→∃ n,Q n (f i))→∃ n,∀ i,i < N→Q n (f i)
 | 0,_,_=>⟨0,fun i h=>by omega⟩
 | N + 1,f,h=>by
  obtain ⟨n,hn⟩:=fin_all hm N f fun i hi=>h i (by omega)
  obtain ⟨m,k⟩:=h N (by omega)
  refine ⟨max n m,fun i hi=>?_⟩
  by_cases e:i=N
  ·subst e;exact hm _ _ _ (Nat.le_max_right ..) k
  ·exact hm _ _ _ (Nat.le_max_left ..) (hn i (by omega))
theorem DrawnRun_fin {ops:Array Oper} {env env':Env} {H H':AHeap} (k:DrawnRun P (Cl P Or ng) ops env H env' H'):∃ n,DrawnRun P (CallN P Or ng n) ops env H env' H':=by
 obtain ⟨E,Hs,a,b,c,d,e,f⟩:=k
 obtain ⟨n,hn⟩:=fin_all (Q:=fun n (i:Nat)=>∀ o,ops[i]? = some o→OpStep P (CallN P Or ng n) ops o (E i) (Hs i) (E (i + 1)) (Hs (i + 1)))
  (fun n m i hnm h o ho=>OpStep_mono (CallN_le _ _ hnm) (h o ho)) ops.size id fun i hi=>by
   obtain ⟨n,k⟩:=OpStep_fin (e i ops[i] (Array.getElem?_eq_getElem hi))
   refine ⟨n,fun o ho=>?_⟩
   have:o=ops[i]:=by simpa [hi] using ho.symm
   subst this
   exact k
 refine ⟨n,E,Hs,a,b,c,d,fun i o ho=>hn i ?_ o ho,f⟩
 exact (Array.getElem?_eq_some_iff.1 ho).1
theorem ARun_fin {nt:Nat} {c:Code} {env env':Env} {H H':AHeap} {x:Ex} (k:ARun P (Cl P Or ng) ng nt c env H x env' H'):∃ n,ARun P (CallN P Or ng n) ng nt c env H x env' H':=by
 induction k with
 | skip=>exact ⟨0,.skip⟩
 | label=>exact ⟨0,.label⟩
 | exit=>exact ⟨0,.exit⟩
 | ret=>exact ⟨0,.ret⟩
 | seqN _ _ i1 i2 =>
  obtain ⟨n,i1⟩:=i1;obtain ⟨m,i2⟩:=i2
  exact ⟨max n m,.seqN (ARun_mono (CallN_le _ _ (Nat.le_max_left ..)) i1) (ARun_mono (CallN_le _ _ (Nat.le_max_right ..)) i2)⟩
 | seqX _ hx i=>obtain ⟨n,i⟩:=i;exact ⟨n,.seqX i hx⟩
 | cond hc _ i=>obtain ⟨n,i⟩:=i;exact ⟨n,.cond hc i⟩
 | blockE _ i=>obtain ⟨n,i⟩:=i;exact ⟨n,.blockE i⟩
 | blockX _ hx i=>obtain ⟨n,i⟩:=i;exact ⟨n,.blockX i hx⟩
 | loopN _ _ i1 i2 =>
  obtain ⟨n,i1⟩:=i1;obtain ⟨m,i2⟩:=i2
  exact ⟨max n m,.loopN (ARun_mono (CallN_le _ _ (Nat.le_max_left ..)) i1) (ARun_mono (CallN_le _ _ (Nat.le_max_right ..)) i2)⟩
 | loopX _ hx i=>obtain ⟨n,i⟩:=i;exact ⟨n,.loopX i hx⟩
 | scope _ i=>obtain ⟨n,i⟩:=i;exact ⟨n,.scope i⟩
 | region k=>obtain ⟨n,k⟩:=OpsRun_fin _ k;exact ⟨n,.region k⟩
 | drawn k=>obtain ⟨n,k⟩:=DrawnRun_fin k;exact ⟨n,.drawn k⟩
 | range hc hl hs hp=>obtain ⟨n,hc⟩:=callV_fin hc;exact ⟨n,.range hc hl hs hp⟩
theorem Cl.fn {f : FuncId} {args : Array Value} {H H' : AHeap} {v : Value} {fn : Func} {c : Code} {ex : Ex} {env1 : Env} (e1 : P.funcs[f]? = some fn) (e2 : fn.body = some c) (e4 : (fn.name == "runtime.NumGoroutine") = false)
  (e3:args.size≤fn.ntmps) (hok:codeOk ng fn.ntmps c=true) (hrun:ARun P (Cl P Or ng) ng fn.ntmps c (argEnv args) H ex env1 H') (hex:ex=.normal∨ex=.ret) (hres:resultsA P fn env1 H'=some v) :
  Cl P Or ng (.fn f) args H v H':=by
 obtain ⟨n,k⟩:=ARun_fin hrun
 exact ⟨n + 1,.inr ⟨fn,c,ex,env1,e1,e2,e4,e3,hok,k,hex,hres⟩⟩
theorem Cl.or {f:FuncId} {args:Array Value} {H H':AHeap} {v:Value} (h:Or f args H v H'):Cl P Or ng (.fn f) args H v H':=⟨1,.inl h⟩
theorem Cl.round {l:Nat} {args:Array Value} {H H1 H2:AHeap} {nt:Nat} {env env1 e1 env2 e3:Env} {ps ps1 ps3:Array Tmp} {asg body a1 b1 a3 b3:Code} {st st3:LoopState} {pend pend3:Option Code} {ex:Ex}
  (h0:H.get l=.loop nt env ps asg body st pend) (hs:args.size=ps.size) (hp:(ps.all fun t=>decide (t < nt))=true) (o1:codeOk ng nt asg=true) (o2:codeOk ng nt body=true) (o3:noRange asg=true) (o4:noRange body=true)
  (h1:ARun P (Cl P Or ng) ng nt asg (roundEnv ps args env) H .normal env1 H1) (h2:H1.get l=.loop nt e1 ps1 a1 b1 .ready pend3)
  (h3:ARun P (Cl P Or ng) ng nt body env1 (H1.put l (.loop nt e1 ps1 a1 b1 .busy pend3)) ex env2 H2) (h4:H2.get l=.loop nt e3 ps3 a3 b3 st3 pend) :
  Cl P Or ng (.yield l) args H (.bool ex.jump.isNone) (H2.put l (.loop nt e3 ps3 a3 b3 (if ex.jump.isNone=true then .ready else .done) ex.jump)):=by
 obtain ⟨n,k1⟩:=ARun_fin h1
 obtain ⟨m,k2⟩:=ARun_fin h3
 exact ⟨max n m + 1,nt,env,ps,asg,body,st,pend,env1,H1,ps1,a1,b1,e1,ex,env2,H2,e3,ps3,a3,b3,st3,pend3,h0,hs,hp,o1,o2,o3,o4,
  ARun_mono (CallN_le _ _ (Nat.le_max_left ..)) k1,h2,ARun_mono (CallN_le _ _ (Nat.le_max_right ..)) k2,h4,rfl,rfl⟩
abbrev Post:=Ex→Env→AHeap→Prop
section
variable {P:Program} {C:CallRel} {ng nt:Nat}
def W (P:Program) (C:CallRel) (ng nt:Nat) (c:Code) (env:Env) (H:AHeap) (Q:Post):Prop:=∃ x env' H',ARun P C ng nt c env H x env' H'∧Q x env' H'
def WO (P:Program) (C:CallRel) (ops:Array Oper) (os:List Oper) (K:Env→AHeap→Prop) (env:Env) (H:AHeap):Prop:=∃ env' H',OpsRun P C ops os env H env' H'∧K env' H'
@[reducible] def seqK (P:Program) (C:CallRel) (ng nt:Nat) (b:Code) (Q:Post):Post:=fun x e h=>match x with
 | .normal=>W P C ng nt b e h Q
 | .exit i=>Q (.exit i) e h
 | .ret=>Q .ret e h
@[reducible] def blockK (id:Nat) (Q:Post):Post:=fun x e h=>match x with
 | .normal=>Q .normal e h
 | .exit i=>if i=id then Q .normal e h else Q (.exit i) e h
 | .ret=>Q .ret e h
theorem W_mono {c:Code} {env:Env} {H:AHeap} {Q Q':Post} (h:W P C ng nt c env H Q) (k:∀ x e h,Q x e h→Q' x e h):W P C ng nt c env H Q':=by
 obtain ⟨x,e,H',r,q⟩:=h
 exact ⟨x,e,H',r,k _ _ _ q⟩
theorem W_skip {env:Env} {H:AHeap} {Q:Post} (h:Q .normal env H):W P C ng nt .skip env H Q:=⟨_,_,_,.skip,h⟩
theorem W_exit {i:Nat} {env:Env} {H:AHeap} {Q:Post} (h:Q (.exit i) env H):W P C ng nt (.exit i) env H Q:=⟨_,_,_,.exit,h⟩
theorem W_ret {env:Env} {H:AHeap} {Q:Post} (h:Q .ret env H):W P C ng nt .ret env H Q:=⟨_,_,_,.ret,h⟩
theorem W_seq {a b:Code} {env:Env} {H:AHeap} {Q:Post} (h:W P C ng nt a env H (seqK P C ng nt b Q)):W P C ng nt (.seq a b) env H Q:=by
 obtain ⟨x,e,H',r,q⟩:=h
 cases x with
 | normal=>obtain ⟨x2,e2,H2,r2,q2⟩:=q;exact ⟨x2,e2,H2,.seqN r r2,q2⟩
 | exit i=>exact ⟨_,e,H',.seqX r (by simp),q⟩
 | ret=>exact ⟨_,e,H',.seqX r (by simp),q⟩
theorem W_block {id:Nat} {b:Code} {env:Env} {H:AHeap} {Q:Post} (h:W P C ng nt b env H (blockK id Q)):W P C ng nt (.block id b) env H Q:=by
 obtain ⟨x,e,H',r,q⟩:=h
 cases x with
 | normal=>exact ⟨_,e,H',.blockX r (by simp),q⟩
 | exit i =>
  simp only [blockK] at q
  by_cases hi:i=id
  ·subst hi
   rw [if_pos rfl] at q
   exact ⟨_,e,H',.blockE r,q⟩
  ·rw [if_neg hi] at q
   exact ⟨_,e,H',.blockX r (by simpa using hi),q⟩
 | ret=>exact ⟨_,e,H',.blockX r (by simp),q⟩
theorem W_cond {c:Operand} {a b:Code} {env:Env} {H:AHeap} {Q:Post} {t:Bool} (hc:ev env c=.bool t) (h1:t=true→W P C ng nt a env H Q) (h2:t=false→W P C ng nt b env H Q):W P C ng nt (.cond c a b) env H Q:=by
 cases t with
 | true=>obtain ⟨x,e,H',r,q⟩:=h1 rfl;exact ⟨x,e,H',.cond hc (by simpa using r),q⟩
 | false=>obtain ⟨x,e,H',r,q⟩:=h2 rfl;exact ⟨x,e,H',.cond hc (by simpa using r),q⟩
theorem W_loop {b:Code} {env:Env} {H:AHeap} {Q:Post} (I:Nat→Env→AHeap→Prop)
  (hI:∀ n e h,I n e h→W P C ng nt b e h fun x e' h'=>match x with
   | .normal=>∃ m,m < n∧I m e' h'
   | .exit i=>Q (.exit i) e' h'
   | .ret=>Q .ret e' h') (n:Nat) (h:I n env H):W P C ng nt (.loop b) env H Q:=by
 induction n using Nat.strongRecOn generalizing env H with
 | ind n ih =>
  obtain ⟨x,e,H',r,q⟩:=hI n env H h
  cases x with
  | normal =>
   obtain ⟨m,hm,hi⟩:=q
   obtain ⟨x2,e2,H2,r2,q2⟩:=ih m hm hi
   exact ⟨x2,e2,H2,.loopN r r2,q2⟩
  | exit i=>exact ⟨_,e,H',.loopX r (by simp),q⟩
  | ret=>exact ⟨_,e,H',.loopX r (by simp),q⟩
theorem W_region {id:Nat} {l:List Oper} {env:Env} {H:AHeap} {Q:Post} (h:∀ K:Env→AHeap→Prop,(∀ e h,Q .normal e h→K e h)→WO P C ⟨l⟩ l K env H):W P C ng nt (.region id ⟨l⟩ false) env H Q:=by
 obtain ⟨e,H',r,q⟩:=h (fun e h=>Q .normal e h) (fun _ _ h=>h)
 exact ⟨_,e,H',.region r,q⟩
end
def tok {α:Sort _} (x:α):α:=x
def oV (x:Option Value) (k:Value→Prop):Prop:=match x with|some v=>k v|none=>False
def oB (x:Option (Value×AHeap)) (k:Value→AHeap→Prop):Prop:=match x with|some (v,h)=>k v h|none=>False
def oH (x:Option AHeap) (k:AHeap→Prop):Prop:=match x with|some h=>k h|none=>False
@[simp] theorem oV_some (v:Value) (k:Value→Prop):oV (some v) k=k v:=rfl
@[simp] theorem oB_some (v:Value) (h:AHeap) (k:Value→AHeap→Prop):oB (some (v,h)) k=k v h:=rfl
@[simp] theorem oH_some (h:AHeap) (k:AHeap→Prop):oH (some h) k=k h:=rfl
theorem oV_congr {x x':Option Value} (h:x=x') (k:Value→Prop):oV x k=oV x' k:=by rw [h]
theorem oB_congr {x x':Option (Value×AHeap)} (h:x=x') (k:Value→AHeap→Prop):oB x k=oB x' k:=by rw [h]
theorem oH_congr {x x':Option AHeap} (h:x=x') (k:AHeap→Prop):oH x k=oH x' k:=by rw [h]
theorem WO_congr {P:Program} {C:CallRel} {ops:Array Oper} {os:List Oper} {K:Env→AHeap→Prop} {env env':Env} {H H':AHeap} (h:env=env') (k:H=H'):WO P C ops os K env H=WO P C ops os K env' H':=by rw [h,k]
section
variable {P:Program} {C:CallRel} {ops:Array Oper} {os:List Oper} {K:Env→AHeap→Prop} {env:Env} {H:AHeap} {dst:Option Tmp} {ty:TypeId} {pos:String} {aft:Array Edge}
theorem WO_nil:WO P C ops [] K env H=K env H:=by
 refine propext ⟨fun h=>?_,fun h=>⟨env,H,⟨rfl,rfl⟩,h⟩⟩
 obtain ⟨e,h',⟨rfl,rfl⟩,q⟩:=h
 exact q
theorem WO_fn {op:Op} (hc:∀ c,op=.call c→∃ b,c.callee=.builtin b) :
  WO P C ops (⟨dst,op,ty,pos,aft,none⟩ :: os) K env H=oB (opF P env ⟨dst,op,ty,pos,aft,none⟩ H) fun v h=>WO P C ops os K (env.set dst v) h:=by
 have hA:∀ v h',AOp P C env ⟨dst,op,ty,pos,aft,none⟩ H v h'↔opF P env ⟨dst,op,ty,pos,aft,none⟩ H=some (v,h'):=by
  intro v h'
  unfold AOp
  split
  ·rename_i f args ts he
   simp only at he
   obtain ⟨b,e⟩:=hc _ he
   cases e
  ·rename_i f args ts he
   simp only at he
   obtain ⟨b,e⟩:=hc _ he
   cases e
  ·rfl
 refine propext ⟨?_, ?_⟩
 ·rintro ⟨e,h',⟨e1,h1,hs,hr⟩,q⟩
  rcases hs with ⟨_,v,ha,rfl⟩|⟨hw,_⟩
  ·rw [(hA _ _).1 ha]
   exact ⟨e,h',hr,q⟩
  ·simp [Region.wanted] at hw
 ·intro h
  cases ho:opF P env ⟨dst,op,ty,pos,aft,none⟩ H with
  | none=>rw [ho] at h;exact h.elim
  | some p =>
   obtain ⟨v,h1⟩:=p
   rw [ho] at h
   obtain ⟨e,h',hr,q⟩:=h
   exact ⟨e,h',⟨_,_,.inl ⟨rfl,v,(hA _ _).2 ho,rfl⟩,hr⟩,q⟩
theorem oB_map (x:Option Value) (k:Value→AHeap→Prop):oB (x.map (·,H)) k=oV x fun v=>k v H:=by cases x <;> rfl
theorem oB_mapH (x:Option AHeap) (v:Value) (k:Value→AHeap→Prop):oB (x.map (v,·)) k=oH x fun h=>k v h:=by cases x <;> rfl
theorem WO_guard {op:Op} {j:Nat} {b:Bool} :
  WO P C ops (⟨dst,op,ty,pos,aft,some (j,b)⟩ :: os) K env H =
   if yieldedA ops env j=some b then WO P C ops (⟨dst,op,ty,pos,aft,none⟩ :: os) K env H else WO P C ops os K (env.set dst undef) H:=by
 refine propext ⟨?_, ?_⟩
 ·rintro ⟨e,h',⟨e1,h1,hs,hr⟩,q⟩
  rcases hs with ⟨hw,v,ha,rfl⟩|⟨hw,rfl,rfl⟩
  ·rw [if_pos (by simpa [Region.wanted] using hw)]
   exact ⟨e,h',⟨_,_,.inl ⟨rfl,v,ha,rfl⟩,hr⟩,q⟩
  ·rw [if_neg (by simpa [Region.wanted] using hw)]
   exact ⟨e,h',hr,q⟩
 ·intro h
  split at h
  ·rename_i hw
   obtain ⟨e,h',⟨e1,h1,hs,hr⟩,q⟩:=h
   rcases hs with ⟨_,v,ha,rfl⟩|⟨hw',_⟩
   ·exact ⟨e,h',⟨_,_,.inl ⟨by simpa [Region.wanted] using hw,v,ha,rfl⟩,hr⟩,q⟩
   ·simp [Region.wanted] at hw'
  ·rename_i hw
   obtain ⟨e,h',hr,q⟩:=h
   exact ⟨e,h',⟨_,_,.inr ⟨by simpa [Region.wanted] using hw,rfl,rfl⟩,hr⟩,q⟩
theorem WO_guardT {op:Op} {j:Nat} {t:Bool} (hy:yieldedA ops env j=some t) (h1:t=true→WO P C ops (⟨dst,op,ty,pos,aft,none⟩ :: os) K env H) (h2:t=false→WO P C ops os K (env.set dst undef) H) :
  WO P C ops (⟨dst,op,ty,pos,aft,some (j,true)⟩ :: os) K env H:=by
 rw [WO_guard,hy]
 cases t with
 | true=>simpa using h1 rfl
 | false=>simpa using h2 rfl
theorem WO_guardF {op:Op} {j:Nat} {t:Bool} (hy:yieldedA ops env j=some t) (h1:t=false→WO P C ops (⟨dst,op,ty,pos,aft,none⟩ :: os) K env H) (h2:t=true→WO P C ops os K (env.set dst undef) H) :
  WO P C ops (⟨dst,op,ty,pos,aft,some (j,false)⟩ :: os) K env H:=by
 rw [WO_guard,hy]
 cases t with
 | false=>simpa using h1 rfl
 | true=>simpa using h2 rfl
theorem WO_call {f:Operand} {args:Array Operand} {ts:Array TypeId} {v:Value} {H1:AHeap} (h:callV C (ev env f) (args.map (ev env)) H v H1) (k:WO P C ops os K (env.set dst v) H1) :
  WO P C ops (⟨dst,.call ⟨.value f,args,ts⟩,ty,pos,aft,none⟩ :: os) K env H:=by
 obtain ⟨e,h',hr,q⟩:=k
 exact ⟨e,h',⟨_,_,.inl ⟨rfl,v,h,rfl⟩,hr⟩,q⟩
def asB (v:Value) (k:Bool→Prop):Prop:=match v with|.bool b=>k b|_=>False
@[simp] theorem asB_bool (b:Bool) (k:Bool→Prop):asB (.bool b) k=k b:=rfl
theorem WO_move (x:Operand):WO P C ops (⟨dst,.move x,ty,pos,aft,none⟩ :: os) K env H=WO P C ops os K (tok (env.set dst (ev env x))) H:=by
 rw [WO_fn (by intro c e;cases e <;> exact ⟨_,rfl⟩)]
 first|rfl|exact oB_map _ _|exact oB_mapH _ _ _
theorem WO_assign (x:Operand):WO P C ops (⟨dst,.assign x,ty,pos,aft,none⟩ :: os) K env H=WO P C ops os K (tok (env.set dst (ev env x))) H:=by
 rw [WO_fn (by intro c e;cases e <;> exact ⟨_,rfl⟩)]
 first|rfl|exact oB_map _ _|exact oB_mapH _ _ _
theorem WO_alloc (t:TypeId):WO P C ops (⟨dst,.alloc t,ty,pos,aft,none⟩ :: os) K env H=oB (tok (allocA P t H)) fun v h=>WO P C ops os K (tok (env.set dst v)) h:=by
 rw [WO_fn (by intro c e;cases e <;> exact ⟨_,rfl⟩)]
 first|rfl|exact oB_map _ _|exact oB_mapH _ _ _
theorem WO_box (t:TypeId) (x:Operand):WO P C ops (⟨dst,.box t x,ty,pos,aft,none⟩ :: os) K env H=oB (tok (boxA t H (ev env x))) fun v h=>WO P C ops os K (tok (env.set dst v)) h:=by
 rw [WO_fn (by intro c e;cases e <;> exact ⟨_,rfl⟩)]
 first|rfl|exact oB_map _ _|exact oB_mapH _ _ _
theorem WO_build (t:TypeId) (ps:Array (Nat×Operand)):WO P C ops (⟨dst,.build t ps,ty,pos,aft,none⟩ :: os) K env H=oV (tok (buildA P t (ps.toList.map fun p=>(p.1,ev env p.2)))) fun v=>WO P C ops os K (tok (env.set dst v)) H:=by
 rw [WO_fn (by intro c e;cases e <;> exact ⟨_,rfl⟩)]
 first|rfl|exact oB_map _ _|exact oB_mapH _ _ _
theorem WO_buildSlice (t:TypeId) (n:Nat) (ps:Array (Nat×Operand)):WO P C ops (⟨dst,.buildSlice t n ps,ty,pos,aft,none⟩ :: os) K env H=oB (tok (buildSliceA P t n (ps.toList.map fun p=>(p.1,ev env p.2)) H)) fun v h=>WO P C ops os K (tok (env.set dst v)) h:=by
 rw [WO_fn (by intro c e;cases e <;> exact ⟨_,rfl⟩)]
 first|rfl|exact oB_map _ _|exact oB_mapH _ _ _
theorem WO_load (t:TypeId) (x:Operand):WO P C ops (⟨dst,.load t x,ty,pos,aft,none⟩ :: os) K env H=oV (tok (loadA P t H (ev env x))) fun v=>WO P C ops os K (tok (env.set dst v)) H:=by
 rw [WO_fn (by intro c e;cases e <;> exact ⟨_,rfl⟩)]
 first|rfl|exact oB_map _ _|exact oB_mapH _ _ _
theorem WO_store (t:TypeId) (a x:Operand):WO P C ops (⟨dst,.store t a x,ty,pos,aft,none⟩ :: os) K env H=oH (tok (storeA P t H (ev env a) (ev env x))) fun h=>WO P C ops os K (tok (env.set dst undef)) h:=by
 rw [WO_fn (by intro c e;cases e <;> exact ⟨_,rfl⟩)]
 first|rfl|exact oB_map _ _|exact oB_mapH _ _ _
theorem WO_nilCheck (x:Operand):WO P C ops (⟨dst,.nilCheck x,ty,pos,aft,none⟩ :: os) K env H=oV (tok (nilCheckA (ev env x))) fun v=>WO P C ops os K (tok (env.set dst v)) H:=by
 rw [WO_fn (by intro c e;cases e <;> exact ⟨_,rfl⟩)]
 first|rfl|exact oB_map _ _|exact oB_mapH _ _ _
theorem WO_makeFunc (f:FuncId) (a c:Array Operand):WO P C ops (⟨dst,.makeFunc (.func f) a c,ty,pos,aft,none⟩ :: os) K env H=WO P C ops os K (tok (env.set dst (.func (.func f) (a.map (ev env)) (c.map (ev env))))) H:=by
 rw [WO_fn (by intro c e;cases e <;> exact ⟨_,rfl⟩)]
 first|rfl|exact oB_map _ _|exact oB_mapH _ _ _
theorem WO_makeSlice (t:TypeId) (l c:Operand):WO P C ops (⟨dst,.makeSlice t l c,ty,pos,aft,none⟩ :: os) K env H=oB (tok (makeSliceA P t (ev env l) (ev env c) H)) fun v h=>WO P C ops os K (tok (env.set dst v)) h:=by
 rw [WO_fn (by intro c e;cases e <;> exact ⟨_,rfl⟩)]
 first|rfl|exact oB_map _ _|exact oB_mapH _ _ _
theorem WO_slice (t:TypeId) (x:Operand) (lo hi mx:Option Operand):WO P C ops (⟨dst,.slice t x lo hi mx,ty,pos,aft,none⟩ :: os) K env H=oV (tok (sliceA P H t (ev env x) (lo.map (ev env)) (hi.map (ev env)) (mx.map (ev env)))) fun v=>WO P C ops os K (tok (env.set dst v)) H:=by
 rw [WO_fn (by intro c e;cases e <;> exact ⟨_,rfl⟩)]
 first|rfl|exact oB_map _ _|exact oB_mapH _ _ _
theorem WO_fieldAddr (t:TypeId) (x:Operand) (f:Nat):WO P C ops (⟨dst,.fieldAddr t x f,ty,pos,aft,none⟩ :: os) K env H=oV (tok (fieldAddrA P t (ev env x) f)) fun v=>WO P C ops os K (tok (env.set dst v)) H:=by
 rw [WO_fn (by intro c e;cases e <;> exact ⟨_,rfl⟩)]
 first|rfl|exact oB_map _ _|exact oB_mapH _ _ _
theorem WO_field (t:TypeId) (x:Operand) (f:Nat):WO P C ops (⟨dst,.field t x f,ty,pos,aft,none⟩ :: os) K env H=oV (tok (fieldA P t (ev env x) f)) fun v=>WO P C ops os K (tok (env.set dst v)) H:=by
 rw [WO_fn (by intro c e;cases e <;> exact ⟨_,rfl⟩)]
 first|rfl|exact oB_map _ _|exact oB_mapH _ _ _
theorem WO_indexAddr (t:TypeId) (x i:Operand):WO P C ops (⟨dst,.indexAddr t x i,ty,pos,aft,none⟩ :: os) K env H=oV (tok (indexAddrA P t (ev env x) (ev env i))) fun v=>WO P C ops os K (tok (env.set dst v)) H:=by
 rw [WO_fn (by intro c e;cases e <;> exact ⟨_,rfl⟩)]
 first|rfl|exact oB_map _ _|exact oB_mapH _ _ _
theorem WO_index (t:TypeId) (x i:Operand):WO P C ops (⟨dst,.index t x i,ty,pos,aft,none⟩ :: os) K env H=oV (tok (indexA P t (ev env x) (ev env i))) fun v=>WO P C ops os K (tok (env.set dst v)) H:=by
 rw [WO_fn (by intro c e;cases e <;> exact ⟨_,rfl⟩)]
 first|rfl|exact oB_map _ _|exact oB_mapH _ _ _
theorem WO_extract (x:Operand) (i:Nat):WO P C ops (⟨dst,.extract x i,ty,pos,aft,none⟩ :: os) K env H=oV (tok (extractA (ev env x) i)) fun v=>WO P C ops os K (tok (env.set dst v)) H:=by
 rw [WO_fn (by intro c e;cases e <;> exact ⟨_,rfl⟩)]
 first|rfl|exact oB_map _ _|exact oB_mapH _ _ _
theorem WO_makeMap (t:TypeId):WO P C ops (⟨dst,.makeMap t none,ty,pos,aft,none⟩ :: os) K env H=WO P C ops os K (tok (env.set dst (.map (some H.n)))) (H.alloc (.map [])):=by
 rw [WO_fn (by intro c e;cases e <;> exact ⟨_,rfl⟩)]
 first|rfl|exact oB_map _ _|exact oB_mapH _ _ _
theorem WO_lookup (t:TypeId) (x i:Operand) (ok:Bool):WO P C ops (⟨dst,.lookup t x i ok,ty,pos,aft,none⟩ :: os) K env H=oV (tok (lookupA P t (ev env x) (ev env i) ok H)) fun v=>WO P C ops os K (tok (env.set dst v)) H:=by
 rw [WO_fn (by intro c e;cases e <;> exact ⟨_,rfl⟩)]
 first|rfl|exact oB_map _ _|exact oB_mapH _ _ _
theorem WO_mapUpdate (t:TypeId) (m i x:Operand):WO P C ops (⟨dst,.mapUpdate t m i x,ty,pos,aft,none⟩ :: os) K env H=oH (tok (mapUpdateA P t (ev env m) (ev env i) (ev env x) H)) fun h=>WO P C ops os K (tok (env.set dst undef)) h:=by
 rw [WO_fn (by intro c e;cases e <;> exact ⟨_,rfl⟩)]
 first|rfl|exact oB_map _ _|exact oB_mapH _ _ _
theorem WO_next (x:Operand):WO P C ops (⟨dst,.next x true,ty,pos,aft,none⟩ :: os) K env H=oB (tok (nextA (ev env x) H)) fun v h=>WO P C ops os K (tok (env.set dst v)) h:=by
 rw [WO_fn (by intro c e;cases e <;> exact ⟨_,rfl⟩)]
 first|rfl|exact oB_map _ _|exact oB_mapH _ _ _
theorem WO_append (args:Array Operand) (ts:Array TypeId):WO P C ops (⟨dst,.call ⟨.builtin .append,args,ts⟩,ty,pos,aft,none⟩ :: os) K env H=oB (tok (appendOp P ts (args.toList.map (ev env)) H)) fun v h=>WO P C ops os K (tok (env.set dst v)) h:=by
 rw [WO_fn (by intro c e;cases e <;> exact ⟨_,rfl⟩)]
 first|rfl|exact oB_map _ _|exact oB_mapH _ _ _
end
def keep (x:Option Value):Option Value:=match x with|some v=>if dflat v=true then some v else none|none=>none
def bopA (P:Program) (op:BinOp) (t:TypeId) (x y:Operand) (a b:Value):Option Value :=
 if dflat a=true∧dflat b=true then keep (pr P (do eqGuard op t x y a b;binOp op t a b:Sem Value))
 else match op,P.underlying t with
  | .eql,some d=>(eqNil d a b).map .bool
  | .neq,some d=>(eqNil d a b).map fun b=>.bool !b
  | _,_=>none
def uopA (P:Program) (op:UnOp) (a:Value):Option Value:=if dflat a=true then keep (pr P (Op.unary op a)) else none
def convA (P:Program) (s d:TypeId) (a:Value):Option Value:=if dflat a=true then keep (pr P (convert s d a)) else none
def mmA (P:Program) (mx:Bool) (as:Array Value):Option Value:=if (as.all dflat)=true then keep (pr P (if mx=true then Builtin.max_ #[] 0 as else Builtin.min_ #[] 0 as)) else none
def lenV (P:Program) (t:TypeId) (x:Value) (H:AHeap):Option Value:=lenA P (fun _=>undef) default t x H
theorem keep_pr {P:Program} {s:Sem Value}:(match pr P (do pure (.value (← s)):Sem Next) with|some (.value v)=>if dflat v=true then some v else none|_=>none)=keep (pr P s):=by
 simp only [pr_bind',pr_pure]
 cases pr P s <;> rfl
section
variable {P:Program} {C:CallRel} {ops:Array Oper} {os:List Oper} {K:Env→AHeap→Prop} {env:Env} {H:AHeap} {dst:Option Tmp} {ty:TypeId} {pos:String} {aft:Array Edge}
theorem WO_binOp (op:BinOp) (t:TypeId) (x y:Operand) (yt:TypeId):WO P C ops (⟨dst,.binOp op t x y yt,ty,pos,aft,none⟩ :: os) K env H=oV (tok (bopA P op t x y (ev env x) (ev env y))) fun v=>WO P C ops os K (tok (env.set dst v)) H:=by
 rw [WO_fn (by intro c e;cases e)]
 refine (oB_map (binA P env ⟨dst,.binOp op t x y yt,ty,pos,aft,none⟩ op t (ev env x) (ev env y)) _).trans (oV_congr ?_ _)
 unfold binA bopA
 split
 ·exact keep_pr
 ·rfl
theorem WO_unOp (op:UnOp) (t:TypeId) (x:Operand):WO P C ops (⟨dst,.unOp op t x,ty,pos,aft,none⟩ :: os) K env H=oV (tok (uopA P op (ev env x))) fun v=>WO P C ops os K (tok (env.set dst v)) H:=by
 rw [WO_fn (by intro c e;cases e)]
 refine (oB_map (flatOp P env ⟨dst,.unOp op t x,ty,pos,aft,none⟩) _).trans (oV_congr ?_ _)
 have h1:((Op.operands (.unOp op t x)).all fun x=>dflat (ev env x))=dflat (ev env x):=by simp [Op.operands]
 unfold flatOp uopA
 simp only [h1]
 refine ite_congr rfl (fun _=>?_) fun _=>rfl
 exact keep_pr
theorem WO_convert (s d:TypeId) (x:Operand):WO P C ops (⟨dst,.convert s d x,ty,pos,aft,none⟩ :: os) K env H=oV (tok (convA P s d (ev env x))) fun v=>WO P C ops os K (tok (env.set dst v)) H:=by
 rw [WO_fn (by intro c e;cases e)]
 refine (oB_map (flatOp P env ⟨dst,.convert s d x,ty,pos,aft,none⟩) _).trans (oV_congr ?_ _)
 have h1:((Op.operands (.convert s d x)).all fun x=>dflat (ev env x))=dflat (ev env x):=by simp [Op.operands]
 unfold flatOp convA
 simp only [h1]
 refine ite_congr rfl (fun _=>?_) fun _=>rfl
 exact keep_pr
theorem WO_pick (c a b:Operand):WO P C ops (⟨dst,.pick c a b,ty,pos,aft,none⟩ :: os) K env H=asB (ev env c) fun t=>WO P C ops os K (tok (env.set dst (if t=true then ev env a else ev env b))) H:=by
 rw [WO_fn (by intro c e;cases e)]
 simp only [opF]
 cases ev env c <;> rfl
theorem WO_len (t:TypeId) (x:Operand):WO P C ops (⟨dst,.call ⟨.builtin .len,#[x],#[t]⟩,ty,pos,aft,none⟩ :: os) K env H=oV (tok (lenV P t (ev env x) H)) fun v=>WO P C ops os K (tok (env.set dst v)) H:=by
 rw [WO_fn (by intro c e;cases e;exact ⟨_,rfl⟩)]
 exact oB_map _ _
theorem WO_cap (t:TypeId) (x:Operand):WO P C ops (⟨dst,.call ⟨.builtin .cap,#[x],#[t]⟩,ty,pos,aft,none⟩ :: os) K env H=oV (tok (capA P t (ev env x) H)) fun v=>WO P C ops os K (tok (env.set dst v)) H:=by
 rw [WO_fn (by intro c e;cases e;exact ⟨_,rfl⟩)]
 exact oB_map _ _
theorem WO_range (t:TypeId) (x:Operand):WO P C ops (⟨dst,.range t x,ty,pos,aft,none⟩ :: os) K env H =
  oB (match P.underlying t,ev env x with|some .string,.string s=>some (vptr H.n 0,H.alloc (.iter s 0))|_,_=>none) fun v h=>WO P C ops os K (tok (env.set dst v)) h:=by
 rw [WO_fn (by intro c e;cases e)]
 rfl
theorem minmax_flat (b:Builtin) (hb:b=.min∨b=.max) (args:Array Operand) (ts:Array TypeId) :
  flatOp P env ⟨dst,.call ⟨.builtin b,args,ts⟩,ty,pos,aft,none⟩=mmA P (decide (b=.max)) (args.map (ev env)):=by
 unfold flatOp mmA
 have h1:(Op.call ⟨.builtin b,args,ts⟩).operands=args:=by simp [Op.operands,Call.operands]
 simp only [h1,Array.all_map]
 refine ite_congr rfl (fun _=>?_) fun _=>rfl
 unfold prOp
 rcases hb with rfl|rfl
 ·exact keep_pr (s:=Builtin.min_ ts ty (args.map (ev env)))
 ·exact keep_pr (s:=Builtin.max_ ts ty (args.map (ev env)))
theorem WO_min (args:Array Operand) (ts:Array TypeId):WO P C ops (⟨dst,.call ⟨.builtin .min,args,ts⟩,ty,pos,aft,none⟩ :: os) K env H=oV (tok (mmA P false (args.map (ev env)))) fun v=>WO P C ops os K (tok (env.set dst v)) H:=by
 rw [WO_fn (by intro c e;cases e;exact ⟨_,rfl⟩)]
 refine (oB_map (flatOp P env ⟨dst,.call ⟨.builtin .min,args,ts⟩,ty,pos,aft,none⟩) _).trans (oV_congr ?_ _)
 exact minmax_flat .min (.inl rfl) args ts
theorem WO_max (args:Array Operand) (ts:Array TypeId):WO P C ops (⟨dst,.call ⟨.builtin .max,args,ts⟩,ty,pos,aft,none⟩ :: os) K env H=oV (tok (mmA P true (args.map (ev env)))) fun v=>WO P C ops os K (tok (env.set dst v)) H:=by
 rw [WO_fn (by intro c e;cases e;exact ⟨_,rfl⟩)]
 refine (oB_map (flatOp P env ⟨dst,.call ⟨.builtin .max,args,ts⟩,ty,pos,aft,none⟩) _).trans (oV_congr ?_ _)
 exact minmax_flat .max (.inr rfl) args ts
end
section
variable {P:Program} {t:TypeId} {x y:Operand} {k:IntKind} {a b:Int}
theorem bop_add:bopA P .add t x y (.int k a) (.int k b)=some (.int k (k.wrap (a + b))):=by simp [bopA,dflat,flat,eqGuard,binOp,Op.intArith,keep]
theorem bop_sub:bopA P .sub t x y (.int k a) (.int k b)=some (.int k (k.wrap (a - b))):=by simp [bopA,dflat,flat,eqGuard,binOp,Op.intArith,keep]
theorem bop_mul:bopA P .mul t x y (.int k a) (.int k b)=some (.int k (k.wrap (a * b))):=by simp [bopA,dflat,flat,eqGuard,binOp,Op.intArith,keep]
theorem bop_quo (h:b≠0):bopA P .quo t x y (.int k a) (.int k b)=some (.int k (k.wrap (a.tdiv b))):=by simp [bopA,dflat,flat,eqGuard,binOp,Op.intDiv,keep,h]
theorem bop_rem (h:b≠0):bopA P .rem t x y (.int k a) (.int k b)=some (.int k (a.tmod b)):=by simp [bopA,dflat,flat,eqGuard,binOp,Op.intDiv,keep,h]
theorem bop_xor:bopA P .xor t x y (.int k a) (.int k b)=some (.int k (k.wrap (BitVec.ofInt k.bits a ^^^ BitVec.ofInt k.bits b).toNat)):=by simp [bopA,dflat,flat,eqGuard,binOp,Op.intBits,keep]
theorem bop_shl {k':IntKind} (h:0≤b):bopA P .shl t x y (.int k a) (.int k' b)=some (.int k (k.wrap (a * 2 ^ (min b.toNat k.bits)))):=by simp [bopA,dflat,flat,eqGuard,binOp,Op.shift,keep,Int.not_lt.2 h]
theorem bop_shr {k':IntKind} (h:0≤b):bopA P .shr t x y (.int k a) (.int k' b)=some (.int k (a.fdiv (2 ^ (min b.toNat k.bits)))):=by simp [bopA,dflat,flat,eqGuard,binOp,Op.shift,keep,Int.not_lt.2 h]
theorem bop_lss:bopA P .lss t x y (.int k a) (.int k b)=some (.bool (decide (a < b))):=by simp [bopA,dflat,flat,eqGuard,binOp,Op.intCmp,keep]
theorem bop_leq:bopA P .leq t x y (.int k a) (.int k b)=some (.bool (decide (a≤b))):=by simp [bopA,dflat,flat,eqGuard,binOp,Op.intCmp,keep]
theorem bop_gtr:bopA P .gtr t x y (.int k a) (.int k b)=some (.bool (decide (b < a))):=by simp [bopA,dflat,flat,eqGuard,binOp,Op.intCmp,keep]
theorem bop_geq:bopA P .geq t x y (.int k a) (.int k b)=some (.bool (decide (b≤a))):=by simp [bopA,dflat,flat,eqGuard,binOp,Op.intCmp,keep]
theorem bop_eql:bopA P .eql t x y (.int k a) (.int k b)=some (.bool (decide (a=b))):=by
 have:(a == b)=decide (a=b):=rfl
 simp [bopA,dflat,flat,eqGuard,binOp,Op.intCmp,keep,this]
theorem bop_neq:bopA P .neq t x y (.int k a) (.int k b)=some (.bool (decide (a≠b))):=by
 have:(a != b)=decide (a≠b):=by by_cases h:a=b <;> simp [h]
 simp [bopA,dflat,flat,eqGuard,binOp,Op.intCmp,keep,this]
theorem equalIn_bool (d:Nat) (hu:P.underlying t=some .bool) (p q:Bool):pr P (Op.equalIn (d + 1) t (.bool p) (.bool q))=some (p == q):=by
 simp only [Op.equalIn,pr_bind',underlying,pr_program,Option.bind_some,hu,pr_pure]
theorem equal_bool (hu:P.underlying t=some .bool) (p q:Bool):pr P (Op.equal t (.bool p) (.bool q))=some (p == q):=equalIn_bool 9999 hu p q
theorem bop_eqlB (hu:P.underlying t=some .bool) {p q:Bool}:bopA P .eql t x y (.bool p) (.bool q)=some (.bool (decide (p=q))):=by
 have:(p == q)=decide (p=q):=by cases p <;> cases q <;> rfl
 simp only [bopA,dflat,flat,eqGuard,binOp,pr_bind',pr_pure,equal_bool hu,Option.bind_some,keep,and_self,if_true,this,Bool.not_true,Bool.false_eq_true,if_false]
theorem bop_neqB (hu:P.underlying t=some .bool) {p q:Bool}:bopA P .neq t x y (.bool p) (.bool q)=some (.bool (decide (p≠q))):=by
 have:(!(p == q))=decide (p≠q):=by cases p <;> cases q <;> rfl
 simp only [bopA,dflat,flat,eqGuard,binOp,pr_bind',pr_pure,equal_bool hu,Option.bind_some,keep,and_self,if_true,this,Bool.not_true,Bool.false_eq_true,if_false]
theorem uop_neg:uopA P .neg (.int k a)=some (.int k (k.wrap (0 - a))):=by simp [uopA,dflat,flat,Op.unary,Op.intArith,keep]
theorem uop_not {p:Bool}:uopA P .not (.bool p)=some (.bool (!p)):=by simp [uopA,dflat,flat,Op.unary,keep]
theorem mm_min:mmA P false #[.int k a,.int k b]=some (.int k (min a b)):=by
 have:min a b=if b < a then b else a:=by omega
 simp [mmA,dflat,flat,Builtin.min_,Builtin.min2,keep,this]
theorem mm_max:mmA P true #[.int k a,.int k b]=some (.int k (max a b)):=by
 have:max a b=if b > a then b else a:=by omega
 simp [mmA,dflat,flat,Builtin.max_,Builtin.max2,keep,this]
end
section
variable {env:Env} {t s:Nat} {v:Value}
theorem ev_tmp:ev env (.tmp t)=env t:=rfl
theorem ev_const:ev env (.const v)=v:=rfl
theorem ev_func {f:FuncId}:ev env (.func f)=.func (.func f) #[] #[]:=rfl
theorem set_some:env.set (some t) v=env.put t v:=rfl
theorem set_none:env.set none v=env:=rfl
theorem put_ne (h:s≠t):env.put t v s=env s:=by simp [Env.put,h]
theorem put_eq:env.put t v s=if s=t then v else env s:=rfl
end
def AHeap.upd (H:AHeap) (n b:Nat) (o:AObj):AHeap:=⟨n,fun c=>if c=b then o else H.get c⟩
def rdO (o:AObj):Option (List Value):=match o with
 | .cells c _ .ro|.cells c _ .ex|.cells c _ (.gr _ _ true)=>some c
 | _=>none
section
variable {H:AHeap} {n b c:Nat} {o:AObj}
theorem alloc_upd:H.alloc o=H.upd (H.n + 1) H.n o:=rfl
theorem put_upd:H.put b o=H.upd H.n b o:=rfl
theorem wr_ex {l:List Value} {T:TypeId}:H.wr .ex b o=H.upd H.n b o:=rfl
theorem upd_n:(H.upd n b o).n=n:=rfl
theorem upd_upd {m:Nat} {o':AObj}:(H.upd n b o).upd m b o'=H.upd m b o':=by
 unfold AHeap.upd
 congr 1
 funext c
 by_cases h:c=b <;> simp [h]
theorem upd_get_same:(H.upd n b o).get b=o:=by simp [AHeap.upd]
theorem upd_get_ne (h:c≠b):(H.upd n b o).get c=H.get c:=by simp [AHeap.upd,h]
theorem rd_def:H.rd b=rdO (H.get b):=rfl
theorem upd_rd_same:(H.upd n b o).rd b=rdO o:=by simp [rd_def,upd_get_same]
theorem upd_rd_ne (h:c≠b):(H.upd n b o).rd c=H.rd c:=by simp [rd_def,upd_get_ne h]
theorem rdO_ex {l:List Value} {T:TypeId}:rdO (.cells l T .ex)=some l:=rfl
theorem rdO_ro {l:List Value} {T:TypeId}:rdO (.cells l T .ro)=some l:=rfl
theorem rdO_gr {l:List Value} {T:TypeId} {g e:Nat}:rdO (.cells l T (.gr g e true))=some l:=rfl
end
section
variable {P:Program} {t:TypeId} {H:AHeap} {b o:Nat} {c:List Value}
def at1 (c:List Value) (o:Nat):Option Value:=c[o]?
def atN (c:List Value) (o s:Nat):Option Value:=if o + s≤c.length then some (.agg ((c.drop o).take s).toArray) else none
theorem load1 (ht:tyAgg P t=some false) (x:Option (List Value)) (h:H.rd b=x):loadA P t H (vptr b o)=x.bind fun c=>at1 c o:=by
 unfold loadA vptr
 simp only [h,ht]
 cases x <;> rfl
theorem loadN {s:Nat} (ht:tyAgg P t=some true) (hs:tySize P t=some s) (x:Option (List Value)) (h:H.rd b=x):loadA P t H (vptr b o)=x.bind fun c=>atN c o s:=by
 unfold loadA vptr
 simp only [h,ht,hs]
 cases x <;> rfl
end
section
variable {P:Program} {t e:TypeId} {H:AHeap} {b o n c:Nat} {k:IntKind} {i:Int} {x:Value}
def stG (H:AHeap) (b o s:Nat) (x:Value) (ob:AObj):Option AHeap:=match ob with
 | .cells c T k=>if notTup x=true∧x.cells.size=s∧o + s≤c.length∧k.live=true then (match k with|.ro=>none|_=>some (H.wr k b (.cells (splice c o x.cells.toList) T k))) else none
 | _=>none
theorem store_of {s:Nat} (hs:tySize P t=some s):storeA P t H (vptr b o) x=stG H b o s x (H.get b):=by
 unfold storeA vptr stG
 simp only [hs]
 cases H.get b <;> rfl
theorem stG_ex {l:List Value} {T:TypeId} {s:Nat}:stG H b o s x (.cells l T .ex)=if notTup x=true∧x.cells.size=s∧o + s≤l.length then some (H.upd H.n b (.cells (splice l o x.cells.toList) T .ex)) else none:=by
 simp only [stG,Kd.live,and_true,wr_ex (l:=l) (T:=T)]
theorem stG_one {l:List Value} {T:TypeId} (hx:x.cells = #[x]) (hn:notTup x=true) (ho:o < l.length):stG H b o 1 x (.cells l T .ex)=some (H.upd H.n b (.cells (l.set o x) T .ex)):=by
 rw [stG_ex,if_pos ⟨hn,by rw [hx];rfl,ho⟩]
 have:splice l o x.cells.toList=l.set o x:=by
  rw [hx,List.set_eq_take_append_cons_drop,if_pos ho]
  simp [splice]
 rw [this]
theorem stG_int {l:List Value} {T:TypeId} {q:IntKind} {z:Int} (ho:o < l.length):stG H b o 1 (.int q z) (.cells l T .ex)=some (H.upd H.n b (.cells (l.set o (.int q z)) T .ex)):=stG_one rfl rfl ho
theorem stG_bool {l:List Value} {T:TypeId} {q:Bool} (ho:o < l.length):stG H b o 1 (.bool q) (.cells l T .ex)=some (H.upd H.n b (.cells (l.set o (.bool q)) T .ex)):=stG_one rfl rfl ho
theorem stG_slice {l:List Value} {T:TypeId} {a:Option Addr} {q r:Nat} (ho:o < l.length):stG H b o 1 (.slice a q r) (.cells l T .ex)=some (H.upd H.n b (.cells (l.set o (.slice a q r)) T .ex)):=stG_one rfl rfl ho
theorem stG_ptr {l:List Value} {T:TypeId} {a:Option Addr} (ho:o < l.length):stG H b o 1 (.pointer a) (.cells l T .ex)=some (H.upd H.n b (.cells (l.set o (.pointer a)) T .ex)):=stG_one rfl rfl ho
theorem stG_func {l:List Value} {T:TypeId} {f:Fn} {q r:Array Value} (ho:o < l.length):stG H b o 1 (.func f q r) (.cells l T .ex)=some (H.upd H.n b (.cells (l.set o (.func f q r)) T .ex)):=stG_one rfl rfl ho
theorem stG_map {l:List Value} {T:TypeId} {q:Option Nat} (ho:o < l.length):stG H b o 1 (.map q) (.cells l T .ex)=some (H.upd H.n b (.cells (l.set o (.map q)) T .ex)):=stG_one rfl rfl ho
theorem stG_string {l:List Value} {T:TypeId} {q:ByteArray} (ho:o < l.length):stG H b o 1 (.string q) (.cells l T .ex)=some (H.upd H.n b (.cells (l.set o (.string q)) T .ex)):=stG_one rfl rfl ho
theorem stG_all {l:List Value} {T:TypeId} {s:Nat} (hn:notTup x=true) (hs:x.cells.size=s) (hl:l.length=s):stG H b 0 s x (.cells l T .ex)=some (H.upd H.n b (.cells x.cells.toList T .ex)):=by
 rw [stG_ex,if_pos ⟨hn,hs,by omega⟩]
 have:splice l 0 x.cells.toList=x.cells.toList:=by
  simp [splice]
  omega
 rw [this]
theorem stG_agg {l l':List Value} {T:TypeId} {s:Nat} (hs:l'.length=s) (hl:l.length=s):stG H b 0 s (.agg l'.toArray) (.cells l T .ex)=some (H.upd H.n b (.cells l' T .ex)):=by
 rw [stG_all rfl (by simpa [Value.cells] using hs) hl]
 rfl
theorem alloc_of {z:Value} (hz:tyZero P t=some z) (hd:dflat z=true):allocA P t H=some (vptr H.n 0,H.upd (H.n + 1) H.n (.cells z.cells.toList t .ex)):=by
 unfold allocA
 simp only [hz,hd,if_true,alloc_upd]
theorem box_of:boxA t H x=if notTup x=true then some (vptr H.n 0,H.upd (H.n + 1) H.n (.cells x.cells.toList t .ex)) else none:=rfl
theorem fieldAddr_of {fs:Array Field} {f:Nat} {fd:Field} {sz:Nat} (hu:P.underlying t=some (.struct fs)) (hf:fs[f]? = some fd) (hz:tySize P fd.type=some sz) (h0:sz≠0) {off:Nat} (ho:fd.offset=off) :
  fieldAddrA P t (vptr b o) f=some (vptr b (o + off)):=by
 unfold fieldAddrA vptr
 simp only [hu,hf,hz,h0,if_false,ho]
theorem indexAddrA_arr {len:Nat} {s:Nat} (hu:P.underlying t=some (.array len e)) (hs:tySize P e=some s) (h0:0≤i) (h1:i < len):indexAddrA P t (vptr b o) (.int k i)=some (vptr b (o + i.toNat * s)):=by
 unfold indexAddrA vptr
 simp only [hu,hs,h0,h1,and_self,if_true]
theorem indexAddrA_sl {s:Nat} (hu:P.underlying t=some (.slice e)) (hs:tySize P e=some s) (h0:0≤i) (h1:i < n):indexAddrA P t (.slice (some ⟨b,o,none⟩) n c) (.int k i)=some (vptr b (o + i.toNat * s)):=by
 unfold indexAddrA
 simp only [hu,hs,h0,h1,and_self,if_true]
theorem len_sl {a:Option Addr} (hu:P.underlying t=some (.slice e)):lenV P t (.slice a n c) H=some (.int .i64 n):=by
 unfold lenV lenA
 simp only [hu]
theorem len_str {s:ByteArray} (hu:P.underlying t=some .string):lenV P t (.string s) H=some (.int .i64 s.size):=by
 unfold lenV lenA
 simp only [hu]
end
theorem atN_all {c:List Value} {n:Nat} (h:c.length=n):atN c 0 n=some (.agg c.toArray):=by
 simp [atN,← h]
theorem wrap64 {x:Int} (h1:-9223372036854775808≤x) (h2:x < 9223372036854775808):IntKind.i64.wrap x=x:=by
 show (if (true && decide (x % (2 ^ 64:Int) ≥ (2 ^ 63:Int)))=true then x % (2 ^ 64:Int) - (2 ^ 64:Int) else x % (2 ^ 64:Int))=x
 simp only [Bool.true_and,decide_eq_true_eq]
 split <;> omega
theorem cells_int {k:IntKind} {n:Int}:(Value.int k n).cells = #[.int k n]:=rfl
theorem cells_bool {b:Bool}:(Value.bool b).cells = #[.bool b]:=rfl
theorem cells_agg {a:Array Value}:(Value.agg a).cells=a:=rfl
theorem cells_slice {a:Option Addr} {n c:Nat}:(Value.slice a n c).cells = #[.slice a n c]:=rfl
theorem cells_ptr {a:Option Addr}:(Value.pointer a).cells = #[.pointer a]:=rfl
theorem cells_map {r:Option Nat}:(Value.map r).cells = #[.map r]:=rfl
theorem cells_func {f:Fn} {a c:Array Value}:(Value.func f a c).cells = #[.func f a c]:=rfl
theorem cells_string {s:ByteArray}:(Value.string s).cells = #[.string s]:=rfl
theorem nt_int {k:IntKind} {n:Int}:notTup (.int k n)=true:=rfl
theorem nt_bool {b:Bool}:notTup (.bool b)=true:=rfl
theorem nt_agg {a:Array Value}:notTup (.agg a)=true:=rfl
theorem nt_slice {a:Option Addr} {n c:Nat}:notTup (.slice a n c)=true:=rfl
theorem nt_ptr {a:Option Addr}:notTup (.pointer a)=true:=rfl
theorem nt_map {r:Option Nat}:notTup (.map r)=true:=rfl
theorem nt_func {f:Fn} {a c:Array Value}:notTup (.func f a c)=true:=rfl
theorem nt_string {s:ByteArray}:notTup (.string s)=true:=rfl
def zs (n:Nat):List Value:=List.replicate n (.int .i64 0)
theorem zs_len (n:Nat):(zs n).length=n:=by simp [zs]
def vblk (v:Value):Nat:=match v with|.slice (some a) _ _=>a.block|_=>0
def voff (v:Value):Nat:=match v with|.slice (some a) _ _=>a.off|_=>0
structure SR (H:AHeap) (s n:Nat) (v:Value) (c:List Value):Prop where
 shape:(v=.slice none 0 0∧n=0)∨∃ b o k,v=.slice (some ⟨b,o,none⟩) n k∧n≤k
 len:c.length=n * s
 cells:n=0∨∃ d,H.rd (vblk v)=some d∧voff v + n * s≤d.length∧(d.drop (voff v)).take (n * s)=c
 lt:n=0∨vblk v < H.n
theorem SR.vcells {H:AHeap} {s n:Nat} {v:Value} {c:List Value} (h:SR H s n v c):v.cells = #[v]:=by
 rcases h.shape with ⟨rfl,_⟩|⟨b,o,k,rfl,_⟩ <;> rfl
theorem SR.nt {H:AHeap} {s n:Nat} {v:Value} {c:List Value} (h:SR H s n v c):notTup v=true:=by
 rcases h.shape with ⟨rfl,_⟩|⟨b,o,k,rfl,_⟩ <;> rfl
theorem SR.indexAddr {P:Program} {t e:TypeId} {H:AHeap} {s n:Nat} {v:Value} {c:List Value} (h:SR H s n v c) (hu:P.underlying t=some (.slice e)) (hs:tySize P e=some s) {k:IntKind} {i:Int} (h0:0≤i) (h1:i < n) :
  indexAddrA P t v (.int k i)=some (vptr (vblk v) (voff v + i.toNat * s)):=by
 rcases h.shape with ⟨rfl,rfl⟩|⟨b,o,k,rfl,_⟩
 ·omega
 ·exact indexAddrA_sl hu hs h0 h1
theorem SR.lenV {P:Program} {t e:TypeId} {H H':AHeap} {s n:Nat} {v:Value} {c:List Value} (h:SR H s n v c) (hu:P.underlying t=some (.slice e)):lenV P t v H'=some (.int .i64 n):=by
 rcases h.shape with ⟨rfl,rfl⟩|⟨b,o,k,rfl,_⟩ <;> exact len_sl hu
theorem SR.at1 {H:AHeap} {s n:Nat} {v:Value} {c:List Value} (h:SR H s n v c) {j:Nat} (hj:j < n * s):∃ d,H.rd (vblk v)=some d∧Swa.at1 d (voff v + j)=c[j]?:=by
 rcases h.cells with rfl|⟨d,h1,h2,h3⟩
 ·simp at hj
 ·refine ⟨d,h1, ?_⟩
  subst h3
  unfold Swa.at1
  rw [List.getElem?_take_of_lt hj,List.getElem?_drop]
def dOf (H:AHeap) (v:Value):List Value:=(H.rd (vblk v)).getD []
theorem SR.rd {H:AHeap} {s n:Nat} {v:Value} {c:List Value} (h:SR H s n v c) (hn:n≠0):H.rd (vblk v)=some (dOf H v):=by
 rcases h.cells with rfl|⟨d,h1,_⟩
 ·exact absurd rfl hn
 ·rw [dOf,h1];rfl
theorem SR.at {H:AHeap} {s n:Nat} {v:Value} {c:List Value} (h:SR H s n v c) {j:Nat} (hj:j < n * s):Swa.at1 (dOf H v) (voff v + j)=c[j]?:=by
 obtain ⟨d,h1,h2⟩:=h.at1 hj
 rw [dOf,h1]
 exact h2
theorem SR.atN {H:AHeap} {s n:Nat} {v:Value} {c:List Value} (h:SR H s n v c) {j z:Nat} (hj:j + z≤n * s) (hn:n≠0):Swa.atN (dOf H v) (voff v + j) z=some (.agg ((c.drop j).take z).toArray):=by
 rcases h.cells with rfl|⟨d,h1,h2,h3⟩
 ·exact absurd rfl hn
 ·have:dOf H v=d:=by rw [dOf,h1];rfl
  rw [this,Swa.atN,if_pos (by omega)]
  subst h3
  rw [List.drop_take,List.take_take,List.drop_drop,Nat.min_eq_left (by omega)]
theorem flat_drop {α:Type} [Inhabited α] {enc:α→List Value} {s:Nat} (hs:∀ a,(enc a).length=s):∀ (l:List α) (i:Nat),i < l.length→∃ r,(l.flatMap enc).drop (i * s)=enc (l.getD i default) ++ r
 | [],i,h=>by simp at h
 | a :: l,0,_=>⟨l.flatMap enc,by simp [List.flatMap_cons]⟩
 | a :: l,i + 1,h=>by
  obtain ⟨r,hr⟩:=flat_drop hs l i (by simpa using h)
  refine ⟨r, ?_⟩
  rw [List.flatMap_cons,Nat.add_mul,Nat.add_comm,Nat.one_mul,← List.drop_drop]
  have:(enc a ++ l.flatMap enc).drop s=l.flatMap enc:=by rw [List.drop_append_of_le_length (by rw [hs];omega)];simp [hs]
  rw [this,hr]
  simp
theorem flat_at {α:Type} [Inhabited α] {enc:α→List Value} {s:Nat} (hs:∀ a,(enc a).length=s) {l:List α} {i k:Nat} (hi:i < l.length) (hk:k < s):(l.flatMap enc)[i * s + k]? = (enc (l.getD i default))[k]?:=by
 obtain ⟨r,hr⟩:=flat_drop hs l i hi
 rw [← List.getElem?_drop,hr,List.getElem?_append_left (by rw [hs];exact hk)]
theorem flat_part {α:Type} [Inhabited α] {enc:α→List Value} {s:Nat} (hs:∀ a,(enc a).length=s) {l:List α} {i k z:Nat} (hi:i < l.length) (hk:k + z≤s):((l.flatMap enc).drop (i * s + k)).take z=((enc (l.getD i default)).drop k).take z:=by
 obtain ⟨r,hr⟩:=flat_drop hs l i hi
 rw [← List.drop_drop,hr,List.drop_append_of_le_length (by rw [hs];omega),List.take_append_of_le_length (by simp [hs];omega)]
theorem flat_all {α:Type} [Inhabited α] {enc:α→List Value} {s:Nat} (hs:∀ a,(enc a).length=s) {l:List α} {i:Nat} (hi:i < l.length):((l.flatMap enc).drop (i * s)).take s=enc (l.getD i default):=by
 obtain ⟨r,hr⟩:=flat_drop hs l i hi
 rw [hr,List.take_append_of_le_length (by rw [hs];omega),List.take_of_length_le (by rw [hs];omega)]
section
variable {P:Program} {Or:OrRel} {ng:Nat}
@[reducible] def RetK (P:Program) (fn:Func) (R:Value→AHeap→Prop):Post:=fun x e h=>(x=.normal∨x=.ret)∧oV (resultsA P fn e h) fun v=>R v h
theorem Cl.ofW {f : FuncId} {args : Array Value} {H : AHeap} {fn : Func} {c : Code} {R : Value → AHeap → Prop} (e1 : P.funcs[f]? = some fn) (e2 : fn.body = some c) (e4 : (fn.name == "runtime.NumGoroutine") = false)
  (e3:args.size≤fn.ntmps) (hok:codeOk ng fn.ntmps c=true) (h:W P (Cl P Or ng) ng fn.ntmps c (argEnv args) H (RetK P fn R)):∃ v H',Cl P Or ng (.fn f) args H v H'∧R v H':=by
 obtain ⟨x,e,h',r,hx,hv⟩:=h
 cases hq:resultsA P fn e h' with
 | none=>rw [hq] at hv;exact hv.elim
 | some v=>rw [hq] at hv;exact ⟨v,h',Cl.fn e1 e2 e4 e3 hok r hx hq,hv⟩
theorem ret0 {fn:Func} {e:Env} {h:AHeap} (hr:fn.results = #[]):resultsA P fn e h=some (.tuple #[]):=by simp [resultsA,hr]
theorem ret1 {fn:Func} {e:Env} {h:AHeap} {r:ResultVar} (hr:fn.results = #[r]):resultsA P fn e h=resVal P e h r:=by
 unfold resultsA
 simp only [hr,List.mapM_cons,List.mapM_nil]
 cases resVal P e h r <;> rfl
theorem ret2 {fn:Func} {e:Env} {h:AHeap} {r s:ResultVar} (hr:fn.results = #[r,s]):resultsA P fn e h=(resVal P e h r).bind fun a=>(resVal P e h s).map fun b=>.tuple #[a,b]:=by
 unfold resultsA
 simp only [hr,List.mapM_cons,List.mapM_nil]
 cases resVal P e h r <;> cases resVal P e h s <;> rfl
theorem ret3 {fn:Func} {e:Env} {h:AHeap} {r s t:ResultVar} (hr:fn.results = #[r,s,t]):resultsA P fn e h=(resVal P e h r).bind fun a=>(resVal P e h s).bind fun b=>(resVal P e h t).map fun c=>.tuple #[a,b,c]:=by
 unfold resultsA
 simp only [hr,List.mapM_cons,List.mapM_nil]
 cases resVal P e h r <;> cases resVal P e h s <;> cases resVal P e h t <;> rfl
theorem rv_tmp {e:Env} {h:AHeap} {t:Tmp}:resVal P e h (.tmp t)=some (e t):=rfl
theorem rv_cell {e:Env} {h:AHeap} {a:Tmp} {t:TypeId}:resVal P e h (.cell a t)=loadA P t h (e a):=rfl
theorem argEnv0 {a:Value} {l:List Value}:argEnv ⟨a :: l⟩ 0=a:=rfl
theorem argEnvS {a:Value} {l:List Value} {n:Nat}:argEnv ⟨a :: l⟩ (n + 1)=argEnv ⟨l⟩ n:=by
 simp [argEnv,Array.getD]
end
theorem oV_intro {x:Option Value} {v:Value} {k:Value→Prop} (h:x=some v) (hk:k v):oV x k:=by rw [h];exact hk
theorem oB_intro {x:Option (Value×AHeap)} {v:Value} {h':AHeap} {k:Value→AHeap→Prop} (h:x=some (v,h')) (hk:k v h'):oB x k:=by rw [h];exact hk
theorem oH_intro {x:Option AHeap} {h':AHeap} {k:AHeap→Prop} (h:x=some h') (hk:k h'):oH x k:=by rw [h];exact hk
section
variable {P:Program} {C:CallRel} {ops:Array Oper} {os:List Oper} {K:Env→AHeap→Prop} {env:Env} {H:AHeap} {dst:Option Tmp} {ty:TypeId} {pos:String} {aft:Array Edge}
theorem callV_fn {g:FuncId} {first cap args:Array Value} {v:Value} {H':AHeap}:callV C (.func (.func g) first cap) args H v H'=C (.fn g) (first ++ args ++ cap) H v H':=rfl
theorem callV_yield {l:Nat} {first cap args:Array Value} {v:Value} {H':AHeap}:callV C (.func (.yield l) first cap) args H v H'=C (.yield l) (first ++ args) H v H':=rfl
theorem WO_callR {f:Operand} {args:Array Operand} {ts:Array TypeId} {R:Value→AHeap→Prop} (h:∃ v H',callV C (ev env f) (args.map (ev env)) H v H'∧R v H') (k:∀ v H',R v H'→WO P C ops os K (env.set dst v) H') :
  WO P C ops (⟨dst,.call ⟨.value f,args,ts⟩,ty,pos,aft,none⟩ :: os) K env H:=by
 obtain ⟨v,H1,h1,h2⟩:=h
 exact WO_call h1 (k v H1 h2)
variable {op:Op} {j:Nat}
theorem yielded_of {d:Tmp} {t:Bool} (hd:(ops[j]?).bind (·.dst)=some d) (hv:env d=.bool t):yieldedA ops env j=some t:=by
 unfold yieldedA
 rw [hd]
 simp only [hv]
theorem WO_gT {d:Tmp} {t:Bool} (hd:(ops[j]?).bind (·.dst)=some d) (hv:env d=.bool t) (h1:t=true→WO P C ops (⟨dst,op,ty,pos,aft,none⟩ :: os) K env H) (h2:t=false→WO P C ops os K (env.set dst undef) H) :
  WO P C ops (⟨dst,op,ty,pos,aft,some (j,true)⟩ :: os) K env H:=WO_guardT (yielded_of hd hv) h1 h2
theorem WO_gF {d:Tmp} {t:Bool} (hd:(ops[j]?).bind (·.dst)=some d) (hv:env d=.bool t) (h1:t=false→WO P C ops (⟨dst,op,ty,pos,aft,none⟩ :: os) K env H) (h2:t=true→WO P C ops os K (env.set dst undef) H) :
  WO P C ops (⟨dst,op,ty,pos,aft,some (j,false)⟩ :: os) K env H:=WO_guardF (yielded_of hd hv) h1 h2
end
abbrev PostG:=Ex→Env→AHeap→Option Gh→Prop
def DW (P:Program) (C:CallRel) (ng nt N0:Nat) (c:Code) (env:Env) (H:AHeap) (g:Option Gh) (Q:PostG):Prop :=
 ∀ (n0 B:Nat) (b:FB) (ρs:Ren) (Hs:AHeap) (ws:World) (ρ:Ren) (w:World) (a:Array Value) (ds:List Deferred) (it:Item) (k:List Item) (cs:List Frame),
  Hs.n=N0→codeOk ng nt c=true→(b.rd=none∨noRange c=true)→Starts c it→Step ng n0 ρs Hs ws ρ H w→EnvRel ρ nt env a→(∀ x,H.n≤x→ρ x=none)→GhRel ρ H.n ws.heap.size w g→Marks ρ H.n w B ds→B≤w.heap.size →
  ∃ x env' H' g' ρ' w' a' ds',Q x env' H' g'∧Step ng n0 ρs Hs ws ρ' H' w'∧w.heap.size≤w'.heap.size∧EnvRel ρ' nt env' a'∧(∀ x,H'.n≤x→ρ' x=none)∧GhRel ρ' H'.n ws.heap.size w' g'∧Marks ρ' H'.n w' B ds' ∧
   (noRange c=true→ds'=ds)∧Landed P b x (lone (b.at a ds (it :: k)) cs w) a' ds' k cs w'
section
variable {P:Program} {C:CallRel} {ng nt N0:Nat}
theorem DW.mono {c:Code} {env:Env} {H:AHeap} {g:Option Gh} {Q R:PostG} (h:DW P C ng nt N0 c env H g Q) (hq:∀ x e h g,Q x e h g→R x e h g):DW P C ng nt N0 c env H g R:=by
 intro n0 B b ρs Hs ws ρ w a ds it k cs hN hok hrd hst s he hf hg hm hB
 obtain ⟨x,e1,H1,g1,ρ1,w1,a1,ds1,q,r⟩:=h n0 B b ρs Hs ws ρ w a ds it k cs hN hok hrd hst s he hf hg hm hB
 exact ⟨x,e1,H1,g1,ρ1,w1,a1,ds1,hq _ _ _ _ q,r⟩
theorem DW.run (hmix:P.follows .mixedOrders=true) (hC:CallSim P ng C) (hT:CallTop C) {c:Code} {env env':Env} {H H':AHeap} {x:Ex} {g:Option Gh} {Q:PostG} (h:ARun P C ng nt c env H x env' H') (q:Q x env' H' g) :
  DW P C ng nt N0 c env H g Q:=by
 intro n0 B b ρs Hs ws ρ w a ds it k cs hN hok hrd hst s he hf hg hm hB
 have fr:Fresh ρ H H':=fun y h1 h2=>hf y h1
 obtain ⟨ρ1,w1,a1,ds1,s1,e1,m1,n1,l1⟩:=arun_sim hmix hC hT h n0 B b ρ w a ds it k cs hok hrd hst s.rel he fr hm hB
 refine ⟨x,env',H',g,ρ1,w1,a1,ds1,q,s.trans s1,s1.size,e1,fun y h1=>?_,hg.step s1 (s1.le fr),m1,n1,l1⟩
 rw [s1.ext y (.inr h1)]
 exact hf y (Nat.le_trans s1.hn h1)
theorem DW.ofW (hmix:P.follows .mixedOrders=true) (hC:CallSim P ng C) (hT:CallTop C) {c:Code} {env:Env} {H:AHeap} {g:Option Gh} {Q:PostG} (h:W P C ng nt c env H fun x e h=>Q x e h g):DW P C ng nt N0 c env H g Q:=by
 obtain ⟨x,e1,H1,r,q⟩:=h
 exact .run hmix hC hT r q
theorem DW.seq {ca cb:Code} {env:Env} {H:AHeap} {g:Option Gh} {Q:PostG} (h:DW P C ng nt N0 ca env H g fun x e h g=>(x=.normal→DW P C ng nt N0 cb e h g Q)∧(x≠.normal→Q x e h g)):DW P C ng nt N0 (.seq ca cb) env H g Q:=by
 intro n0 B b ρs Hs ws ρ w a ds it k cs hN hok hrd hst s he hf hg hm hB
 obtain rfl:it=.code (.seq ca cb):=by
  rcases hst with h|⟨_,h,_⟩
  ·exact h
  ·cases h
 simp only [codeOk,Bool.and_eq_true] at hok
 have hrd1:b.rd=none∨noRange ca=true:=hrd.imp id fun h=>by simp only [noRange,Bool.and_eq_true] at h;exact h.1
 have hrd2:b.rd=none∨noRange cb=true:=hrd.imp id fun h=>by simp only [noRange,Bool.and_eq_true] at h;exact h.2
 obtain ⟨x,e1,H1,g1,ρ1,w1,a1,ds1,q,s1,z1,he1,hf1,hg1,hm1,hd1,l1⟩:=h n0 B b ρs Hs ws ρ w a ds _ (.code cb :: k) cs hN hok.1 hrd1 (.inl rfl) s he hf hg hm hB
 by_cases hx:x=.normal
 ·subst hx
  obtain ⟨y,e2,H2,g2,ρ2,w2,a2,ds2,q2,s2,z2,he2,hf2,hg2,hm2,hd2,l2⟩:=q.1 rfl n0 B b ρs Hs ws ρ1 w1 a1 ds1 _ k cs hN hok.2 hrd2 (.inl rfl) s1 he1 hf1 hg1 hm1 (Nat.le_trans hB z1)
  refine ⟨y,e2,H2,g2,ρ2,w2,a2,ds2,q2,s2,Nat.le_trans z1 z2,he2,hf2,hg2,hm2,fun h=>?_,l2.head (.head st_seq l1)⟩
  simp only [noRange,Bool.and_eq_true] at h
  rw [hd2 h.2,hd1 h.1]
 ·refine ⟨x,e1,H1,g1,ρ1,w1,a1,ds1,q.2 hx,s1,z1,he1,hf1,hg1,hm1,fun h=>?_,(l1.head (.one st_seq)).tail hx (by intro id e;rfl)⟩
  simp only [noRange,Bool.and_eq_true] at h
  exact hd1 h.1
theorem DW.block {id:Nat} {cb:Code} {env:Env} {H:AHeap} {g:Option Gh} {Q:PostG} (h:DW P C ng nt N0 cb env H g fun x e h g=>Q (if x=.exit id then .normal else x) e h g):DW P C ng nt N0 (.block id cb) env H g Q:=by
 intro n0 B b ρs Hs ws ρ w a ds it k cs hN hok hrd hst s he hf hg hm hB
 obtain rfl:it=.code (.block id cb):=by
  rcases hst with h|⟨_,h,_⟩
  ·exact h
  ·cases h
 simp only [codeOk] at hok
 obtain ⟨x,e1,H1,g1,ρ1,w1,a1,ds1,q,s1,z1,he1,hf1,hg1,hm1,hd1,l1⟩:=h n0 B b ρs Hs ws ρ w a ds _ (.inBlock id :: k) cs hN hok hrd (.inl rfl) s he hf hg hm hB
 by_cases hx:x=.exit id
 ·subst hx
  rw [if_pos rfl] at q
  obtain ⟨k2,q1,q2⟩:=l1
  refine ⟨_,e1,H1,g1,ρ1,w1,a1,ds1,q,s1,z1,he1,hf1,hg1,hm1,fun h=>hd1 h,Steps.head st_block (q2.trans (.one (st_exit ?_)))⟩
  rw [q1]
  simp [exitTo]
 ·rw [if_neg hx] at q
  refine ⟨x,e1,H1,g1,ρ1,w1,a1,ds1,q,s1,z1,he1,hf1,hg1,hm1,fun h=>hd1 h, ?_⟩
  by_cases hN:x=.normal
  ·subst hN
   exact Steps.head st_block (Steps.trans l1 (.one st_inBlock))
  ·refine (l1.head (.one st_block)).tail hN fun id2 e=>?_
   have:id≠id2:=fun q=>hx (by rw [e,q])
   simp [exitTo,this]
theorem DW.loop1 {cb:Code} {env:Env} {H:AHeap} {g:Option Gh} {Q:PostG} (h:DW P C ng nt N0 cb env H g fun x e h g=>(x=.normal→DW P C ng nt N0 (.loop cb) e h g Q)∧(x≠.normal→Q x e h g)):DW P C ng nt N0 (.loop cb) env H g Q:=by
 intro n0 B b ρs Hs ws ρ w a ds it k cs hN hok hrd hst s he hf hg hm hB
 have hok':=hok
 simp only [codeOk] at hok
 obtain ⟨x,e1,H1,g1,ρ1,w1,a1,ds1,q,s1,z1,he1,hf1,hg1,hm1,hd1,l1⟩:=h n0 B b ρs Hs ws ρ w a ds _ (.inLoop cb :: k) cs hN hok hrd (.inl rfl) s he hf hg hm hB
 have hgo:Steps P (lone (b.at a ds (it :: k)) cs w) (lone (b.at a ds (.code cb :: .inLoop cb :: k)) cs w):=by
  rcases hst with rfl|⟨b',e,rfl⟩
  ·exact .one st_loop
  ·cases e;exact .one st_inLoop
 by_cases hx:x=.normal
 ·subst hx
  obtain ⟨y,e2,H2,g2,ρ2,w2,a2,ds2,q2,s2,z2,he2,hf2,hg2,hm2,hd2,l2⟩:=q.1 rfl n0 B b ρs Hs ws ρ1 w1 a1 ds1 (.inLoop cb) k cs hN hok' hrd (.inr ⟨cb,rfl,rfl⟩) s1 he1 hf1 hg1 hm1 (Nat.le_trans hB z1)
  refine ⟨y,e2,H2,g2,ρ2,w2,a2,ds2,q2,s2,Nat.le_trans z1 z2,he2,hf2,hg2,hm2,fun h=>?_,l2.head (Steps.trans hgo l1)⟩
  rw [hd2 h,hd1 h]
 ·exact ⟨x,e1,H1,g1,ρ1,w1,a1,ds1,q.2 hx,s1,z1,he1,hf1,hg1,hm1,fun h=>hd1 h,(l1.head hgo).tail hx (by intro id e;rfl)⟩
theorem left_lt {n i:Nat} {seen:List Nat} (hi:i < n) (h:i∉seen):((List.range n).filter fun j=>!(i :: seen).contains j).length < ((List.range n).filter fun j=>!seen.contains j).length:=by
 have e:((List.range n).filter fun j=>!(i :: seen).contains j)=((List.range n).filter fun j=>!seen.contains j).filter fun j=>decide (j≠i):=by
  rw [List.filter_filter]
  congr 1
  funext j
  by_cases q:j=i
  ·subst q;simp
  ·simp [q]
 rw [e,List.length_filter_lt_length_iff_exists]
 exact ⟨i,by simp [hi,h],by simp⟩
theorem DW.mapLoop {cb:Code} {it:Nat} {es:List (Value×Value)} {Q:PostG} (I:List Nat→Env→AHeap→Prop)
  (hI:∀ seen e h,I seen e h→DW P C ng nt N0 cb e h (some ⟨it,es,seen⟩) fun x e1 h1 g1=>(x=.normal→∃ i,i < es.length∧i∉seen∧g1=some ⟨it,es,i :: seen⟩∧I (i :: seen) e1 h1)∧(x≠.normal→Q x e1 h1 g1)) :
  ∀ (n:Nat) (seen:List Nat) (env:Env) (H:AHeap),((List.range es.length).filter fun j=>!seen.contains j).length≤n→I seen env H→DW P C ng nt N0 (.loop cb) env H (some ⟨it,es,seen⟩) Q
 | n,seen,env,H,hn,h=>by
  refine DW.loop1 ((hI seen env H h).mono fun x e1 h1 g1 q=>⟨fun hx=>?_,q.2⟩)
  obtain ⟨i,hi,hs,rfl,hI2⟩:=q.1 hx
  have:=left_lt hi hs
  cases n with
  | zero=>omega
  | succ n=>exact DW.mapLoop I hI n (i :: seen) e1 h1 (by omega) hI2
theorem opsSeg_sim {n0:Nat} (hC:CallSim P ng C) (hT:CallTop C) {b:FB} {ds:List Deferred} {k:List Item} {cs:List Frame} {ops:Array Oper} :
  ∀ (os:List Oper) (i:Nat) (rest:List Oper) (env env':Env) (H H':AHeap),(∀ o,o∈os→opOk ng nt o=true)→ops.toList.drop i=os ++ rest→OpsRun P C ops os env H env' H'→∀ (ρ:Ren) (w:World) (a:Array Value),Rel ng n0 ρ H w→EnvRel ρ nt env a→Fresh ρ H H' →
   ∃ ρ' w' a',Step ng n0 ρ H w ρ' H' w'∧EnvRel ρ' nt env' a'∧Steps P (lone (b.at a ds (.inRegion ops ((List.range ops.size).drop i) :: k)) cs w) (lone (b.at a' ds (.inRegion ops ((List.range ops.size).drop (i + os.length)) :: k)) cs w')
 | [],i,rest,env,env',H,H',hok,hd,h,ρ,w,a,hr,he,hf=>by
  obtain ⟨rfl,rfl⟩:=h
  exact ⟨ρ,w,a,Step.refl hr,he,.refl _ _⟩
 | o :: os,i,rest,env,env',H,H',hok,hd,h,ρ,w,a,hr,he,hf=>by
  obtain ⟨e1,H1,hstep,hrest⟩:=h
  have hi:i < ops.size:=by
   have:i < ops.toList.length:=by
    rcases Nat.lt_or_ge i ops.toList.length with q|q
    ·exact q
    ·rw [List.drop_eq_nil_iff.2 q] at hd;cases hd
   simpa using this
  have hoo:ops[i]? = some o:=by
   have:=congrArg (·[0]?) hd
   simpa using this
  have hos:ops.toList.drop (i + 1)=os ++ rest:=by
   have:=congrArg List.tail hd
   simpa using this
  have hrng:(List.range ops.size).drop i=i :: (List.range ops.size).drop (i + 1):=by
   rw [List.drop_eq_getElem_cons (by simpa using hi)]
   simp
  obtain ⟨k1,k2,k3⟩:=opOk_inv (hok o (by simp))
  have hok2:∀ q,q∈os→opOk ng nt q=true:=fun q hq=>hok q (by simp [hq])
  have hE:∀ x,x∈o.op.operands→VRel ρ (ev env x) (evc a x):=fun x hx=>opd_rel hr he x (k2 x hx)
  have hn:H1.n≤H'.n:=(opsRun_top hT os hrest (OpStep_top hT hstep hr.tp).1).2
  rw [hrng,show i + (o :: os).length=i + 1 + os.length by simp;omega]
  rcases hstep with ⟨hw,v,hop,rfl⟩|⟨hw,rfl,rfl⟩
  ·obtain ⟨ρ1,w1,v',s1,s2,s3,_⟩:=AOp_sim hC hr hop hE (hf.left hn) (b.at a ds (.inRegion ops (i :: (List.range ops.size).drop (i + 1)) :: k)) cs
   have hl:=s1.le (hf.left hn)
   have he1:EnvRel ρ1 nt (env.set o.dst v) (Swa.setT a o.dst v'):=(he.mono hl).setT k1 s2
   have hst:=op_steps (b:=b) (ds:=ds) (k:=k) (cs:=cs) (rest:=(List.range ops.size).drop (i + 1)) hoo (by rw [wanted_rel he];exact hw) k3 s3
   obtain ⟨ρ2,w2,a2,t1,t2,t3⟩:=opsSeg_sim hC hT os (i + 1) rest _ env' H1 H' hok2 hos hrest ρ1 w1 _ s1.rel he1 (hf.right s1)
   exact ⟨ρ2,w2,a2,s1.trans t1,t2,hst.trans t3⟩
  ·have he1:EnvRel ρ nt (env.set o.dst undef) (Swa.setT a o.dst undef):=he.setT k1 (undef_rel ρ)
   have hst:Steps P _ _:=.one (st_opSkip (P:=P) (b:=b) (ds:=ds) (k:=k) (cs:=cs) (w:=w) (rest:=(List.range ops.size).drop (i + 1)) hoo (by rw [wanted_rel he];exact hw))
   obtain ⟨ρ2,w2,a2,t1,t2,t3⟩:=opsSeg_sim hC hT os (i + 1) rest _ env' H1 H' hok2 hos hrest ρ w _ hr he1 hf
   exact ⟨ρ2,w2,a2,t1,t2,hst.trans t3⟩
theorem split_at {ops:Array Oper} {pre post:List Oper} {o:Oper} (h:ops.toList=pre ++ o :: post):ops[pre.length]? = some o∧ops.toList.drop (pre.length + 1)=post∧(List.range ops.size).drop pre.length=pre.length :: (List.range ops.size).drop (pre.length + 1)∧o∈ops.toList:=by
 have hl:ops.size=pre.length + (post.length + 1):=by
  have:=congrArg List.length h
  simpa using this
 refine ⟨?_, ?_, ?_,by rw [h];simp⟩
 ·have:=congrArg (·[pre.length]?) h
  simpa using this
 ·rw [h,← List.drop_drop]
  simp
 ·rw [List.drop_eq_getElem_cons (by simp;omega)]
  simp
theorem DW.rangeM (hC:CallSim P ng C) (hT:CallTop C) {id:Nat} {ops:Array Oper} {pre post:List Oper} {o:Oper} {t:TypeId} {x:Operand} {env:Env} {H:AHeap} {Q:PostG} {kt vt:TypeId} (hops:ops.toList=pre ++ o :: post) (ho:o.op=.range t x) (hg:o.guard=none)
  (hu:P.underlying t=some (.map kt vt))
  (h:WO P C ops pre (fun e1 H1=>∃ m es,ev e1 x=.map (some m)∧H1.get m=.map es∧N0≤m∧WO P C ops post (fun e2 H2=>Q .normal e2 H2 (some ⟨H1.n,es,[]⟩)) (e1.set o.dst (vptr H1.n 0)) (H1.rng m)) env H) :
  DW P C ng nt N0 (.region id ops false) env H none Q:=by
 intro n0 B b ρs Hs ws ρ w a ds it k cs hN hok hrd hst s he hf hgh hm hB
 obtain rfl:it=.code (.region id ops false):=by
  rcases hst with h|⟨_,h,_⟩
  ·exact h
  ·cases h
 simp only [codeOk,regOk,Bool.and_eq_true] at hok
 have hall:∀ o,o∈ops.toList→opOk ng nt o=true:=fun o ho=>(Array.all_eq_true_iff_forall_mem.1 hok.1) o (by simpa using ho)
 obtain ⟨hoo,hpost,hrng,hmem⟩:=split_at hops
 obtain ⟨e1,H1,h1,m,es,hx,hgm,hNm,e2,H2,h2,hq⟩:=h
 have fr1:Fresh ρ H H1:=fun y q1 q2=>hf y q1
 obtain ⟨ρ1,w1,a1,s1,he1,l1⟩:=opsSeg_sim (b:=b) (ds:=ds) (k:=k) (cs:=cs) hC hT pre 0 (o :: post) env e1 H H1 (fun q hq=>hall q (by rw [hops];simp [hq])) (by simpa using hops) h1 ρ w a s.rel he fr1
 obtain ⟨k1,k2,k3⟩:=opOk_inv (hall o hmem)
 have hxv:=opd_rel s1.rel he1 x (k2 x (by rw [ho];simp [Op.operands]))
 rw [hx] at hxv
 have hm1:=hm.step s1
 have f1:∀ y,H1.n≤y→ρ1 y=none:=fun y q1=>by rw [s1.ext y (.inr q1)];exact hf y (Nat.le_trans s1.hn q1)
 generalize hxe:evc a1 x=x' at hxv
 cases hxv with
 | flat hfl=>simp [Swa.flat] at hfl
 | map hρm =>
  rename_i im
  obtain ⟨clk,s2,g2,⟨es',hes⟩,m2⟩:=range_start (s.trans s1) hρm hgm (hN ▸ hNm) (f1 _ (Nat.le_refl _)) B ds hm1
  have hrun:(execOp (evc a1) o).run P w1=.ok (.value (.pointer (some ⟨w1.heap.size,0,none⟩))) (w1.alloc (.mapIter (some im.blk) clk #[] clk)):=by
   obtain ⟨dst,op,ty,pos,after,guard⟩:=o
   simp only at ho
   subst ho
   simp only [execOp,hxe,Instr.range,Sem.run_bind,run_underlying' hu,Result.andThen_ok,run_getObj hes (by simp),Sem.run_pure,run_newObj,World.alloc_eq]
  have hw:Region.wanted o (yielded ops a1)=true:=by simp [Region.wanted,hg]
  have l2:=op_steps (P:=P) (b:=b) (a:=a1) (ds:=ds) (k:=k) (cs:=cs) (ops:=ops) (rest:=(List.range ops.size).drop (pre.length + 1)) hoo hw k3 (w:=w1) (.inl ⟨_,hrun,rfl⟩)
  have hfro:(ρ1.froz m) H1.n=none:=by
   unfold Ren.froz
   rw [f1 _ (Nat.le_refl _)]
   simp
  have he2:EnvRel ((ρ1.froz m).add H1.n (rngImg w1)) nt (e1.set o.dst (vptr H1.n 0)) (setT a1 o.dst (.pointer (some ⟨w1.heap.size,0,none⟩))) :=
   (he1.froz.mono (Ren.le_add hfro)).setT k1 (vrel_new (im:=rngImg w1) rfl)
  have f2:∀ y,(H1.rng m).n≤y→((ρ1.froz m).add H1.n (rngImg w1)) y=none:=fun y q1=>by
   have q1:H1.n + 1≤y:=q1
   unfold Ren.add Ren.froz
   rw [if_neg (by omega),f1 y (by omega)]
   simp
  have fr2:Fresh ((ρ1.froz m).add H1.n (rngImg w1)) (H1.rng m) H2:=fun y q1 q2=>f2 y q1
  obtain ⟨ρ3,w3,a3,s3,he3,l3⟩:=opsRun_sim (b:=b) (ds:=ds) (k:=k) (cs:=cs) hC hT hall post (pre.length + 1) _ e2 _ H2 hpost h2 _ _ _ s2.rel he2 fr2
  refine ⟨.normal,e2,H2,_,ρ3,w3,a3,ds,hq,s2.trans s3, ?_,he3,fun y q1=>?_,g2.step s3 (s3.le fr2),m2.step s3,fun _=>rfl, ?_⟩
  ·have:=s1.size
   have:=s3.size
   have:=World.size_alloc w1 (.mapIter (some im.blk) clk #[] clk)
   omega
  ·rw [s3.ext y (.inr q1)]
   exact f2 y (Nat.le_trans s3.hn q1)
  ·refine Steps.head st_region ?_
   have l1:Steps P (lone (b.at a ds (.inRegion ops (List.range ops.size) :: k)) cs w) (lone (b.at a1 ds (.inRegion ops ((List.range ops.size).drop pre.length) :: k)) cs w1):=by simpa using l1
   rw [hrng] at l1
   exact l1.trans (l2.trans l3)
theorem DW.nextM (hC:CallSim P ng C) (hT:CallTop C) {id:Nat} {ops:Array Oper} {post:List Oper} {o:Oper} {x:Operand} {it:Nat} {es:List (Value×Value)} {seen:List Nat} {env:Env} {H:AHeap} {Q:PostG} (hops:ops.toList=o :: post) (ho:o.op=.next x false) (hg:o.guard=none)
  (hk:∀ p,p∈es→dflat p.1=true) (hx:ev env x=vptr it 0)
  (hgo:∀ (i:Nat) (hi:i < es.length),i∉seen→WO P C ops post (fun e2 H2=>Q .normal e2 H2 (some ⟨it,es,i :: seen⟩)) (env.set o.dst (.tuple #[.bool true,es[i].1,es[i].2])) H)
  (hend:(∀ i,i < es.length→i∈seen)→WO P C ops post (fun e2 H2=>Q .normal e2 H2 none) (env.set o.dst (.tuple #[.bool false])) H) :
  DW P C ng nt N0 (.region id ops false) env H (some ⟨it,es,seen⟩) Q:=by
 intro n0 B b ρs Hs ws ρ w a ds it' k cs hN hok hrd hst s he hf hgh hm hB
 obtain rfl:it'=.code (.region id ops false):=by
  rcases hst with h|⟨_,h,_⟩
  ·exact h
  ·cases h
 simp only [codeOk,regOk,Bool.and_eq_true] at hok
 have hall:∀ o,o∈ops.toList→opOk ng nt o=true:=fun o ho=>(Array.all_eq_true_iff_forall_mem.1 hok.1) o (by simpa using ho)
 obtain ⟨hoo,hpost,hrng,hmem⟩:=split_at (pre:=[]) hops
 obtain ⟨k1,k2,k3⟩:=opOk_inv (hall o hmem)
 have hxv:=opd_rel s.rel he x (k2 x (by rw [ho];simp [Op.operands]))
 rw [hx] at hxv
 obtain ⟨r,m,clk,sn,sn2,d,v,v',hr,hS,hno,hv,hrun,hcase⟩:=nextM_run (P:=P) hgh hxv o.type hk
 have s1:=iter_step s hr (.mapIter m clk sn2 clk) hS d
 have hrl:r < w.heap.size:=(Array.getElem?_eq_some_iff.1 hr).1
 have m1:Marks ρ H.n { w with heap:=w.heap.setIfInBounds r (.mapIter m clk sn2 clk),drawn:=d } B ds:=by
  refine ⟨fun dd hd=>?_,hm.pair⟩
  obtain ⟨q,e,hb',hr',ho'⟩:=hm.all dd hd
  refine ⟨q,e,hb', ?_,ho'⟩
  show (w.heap.setIfInBounds r _)[q]? = _
  rw [Array.getElem?_setIfInBounds_ne (fun e2=>by rw [← e2,hr] at hr';cases hr')]
  exact hr'
 have hexec:(execOp (evc a) o).run P w=.ok (.value v') { w with heap:=w.heap.setIfInBounds r (.mapIter m clk sn2 clk),drawn:=d }:=by
  obtain ⟨dst,op,ty,pos,after,guard⟩:=o
  simp only at ho
  subst ho
  simp only [execOp,Sem.run_bind,hrun,Result.andThen_ok,Sem.run_pure]
 have hw:Region.wanted o (yielded ops a)=true:=by simp [Region.wanted,hg]
 have l2:=op_steps (P:=P) (b:=b) (a:=a) (ds:=ds) (k:=k) (cs:=cs) (ops:=ops) (rest:=(List.range ops.size).drop 1) hoo hw k3 (w:=w) (.inl ⟨_,hexec,rfl⟩)
 have he2:EnvRel ρ nt (env.set o.dst v) (setT a o.dst v'):=he.setT k1 hv
 have l1:Steps P (lone (b.at a ds (.code (.region id ops false) :: k)) cs w) (lone (b.at (setT a o.dst v') ds (.inRegion ops ((List.range ops.size).drop 1) :: k)) cs { w with heap:=w.heap.setIfInBounds r (.mapIter m clk sn2 clk),drawn:=d }):=by
  refine Steps.head st_region ?_
  have:(List.range ops.size)=0 :: (List.range ops.size).drop 1:=by simpa using hrng
  rw [this]
  simpa using l2
 have fin:∀ (g':Option Gh),GhRel ρ H.n ws.heap.size { w with heap:=w.heap.setIfInBounds r (.mapIter m clk sn2 clk),drawn:=d } g'→WO P C ops post (fun e2 H2=>Q .normal e2 H2 g') (env.set o.dst v) H →
   ∃ x env' H' g' ρ' w' a' ds',Q x env' H' g'∧Step ng n0 ρs Hs ws ρ' H' w'∧w.heap.size≤w'.heap.size∧EnvRel ρ' nt env' a'∧(∀ x,H'.n≤x→ρ' x=none)∧GhRel ρ' H'.n ws.heap.size w' g'∧Marks ρ' H'.n w' B ds' ∧
    (noRange (.region id ops false)=true→ds'=ds)∧Landed P b x (lone (b.at a ds (.code (.region id ops false) :: k)) cs w) a' ds' k cs w':=by
  rintro g' hg' ⟨e2,H2,h2,hq⟩
  have fr2:Fresh ρ H H2:=fun y q1 q2=>hf y q1
  obtain ⟨ρ3,w3,a3,s3,he3,l3⟩:=opsRun_sim (b:=b) (ds:=ds) (k:=k) (cs:=cs) hC hT hall post 1 _ e2 _ H2 (by simpa using hpost) h2 _ _ _ s1.rel he2 fr2
  refine ⟨.normal,e2,H2,g',ρ3,w3,a3,ds,hq,s1.trans s3, ?_,he3,fun y q1=>?_,hg'.step s3 (s3.le fr2),m1.step s3,fun _=>rfl,l1.trans l3⟩
  ·have q:=s3.size
   simpa using q
  ·rw [s3.ext y (.inr q1)]
   exact hf y (Nat.le_trans s3.hn q1)
 rcases hcase with ⟨i,hi,hns,rfl,g2⟩|⟨hall2,rfl⟩
 ·exact fin _ g2 (hgo i hi hns)
 ·exact fin none trivial (hend hall2)
theorem DW.entryM (hC:CallSim P ng C) (hT:CallTop C) {id:Nat} {ops:Array Oper} {post:List Oper} {o:Oper} {x:Operand} {it i:Nat} {es:List (Value×Value)} {seen:List Nat} {env:Env} {H:AHeap} {Q:PostG} (hops:ops.toList=o :: post) (ho:o.op=.entry x) (hg:o.guard=none)
  (hk:∀ p,p∈es→dflat p.1=true) (hx:ev env x=vptr it 0)
  (hgo:∀ (hi:i < es.length),WO P C ops post (fun e2 H2=>Q .normal e2 H2 (some ⟨it,es,i :: seen⟩)) (env.set o.dst (.tuple #[es[i].1,es[i].2])) H) :
  DW P C ng nt N0 (.region id ops false) env H (some ⟨it,es,i :: seen⟩) Q:=by
 intro n0 B b ρs Hs ws ρ w a ds it' k cs hN hok hrd hst s he hf hgh hm hB
 obtain rfl:it'=.code (.region id ops false):=by
  rcases hst with h|⟨_,h,_⟩
  ·exact h
  ·cases h
 simp only [codeOk,regOk,Bool.and_eq_true] at hok
 have hall:∀ o,o∈ops.toList→opOk ng nt o=true:=fun o ho=>(Array.all_eq_true_iff_forall_mem.1 hok.1) o (by simpa using ho)
 obtain ⟨hoo,hpost,hrng,hmem⟩:=split_at (pre:=[]) hops
 obtain ⟨k1,k2,k3⟩:=opOk_inv (hall o hmem)
 have hxv:=opd_rel s.rel he x (k2 x (by rw [ho];simp [Op.operands]))
 rw [hx] at hxv
 obtain ⟨hi,v',hv,hrun⟩:=entryM_run (P:=P) hgh hxv hk
 have hexec:(execOp (evc a) o).run P w=.ok (.value v') w:=by
  obtain ⟨dst,op,ty,pos,after,guard⟩:=o
  simp only at ho
  subst ho
  simp only [execOp,Sem.run_bind,hrun,Result.andThen_ok,Sem.run_pure]
 have hw:Region.wanted o (yielded ops a)=true:=by simp [Region.wanted,hg]
 have l2:=op_steps (P:=P) (b:=b) (a:=a) (ds:=ds) (k:=k) (cs:=cs) (ops:=ops) (rest:=(List.range ops.size).drop 1) hoo hw k3 (w:=w) (.inl ⟨_,hexec,rfl⟩)
 have l1:Steps P (lone (b.at a ds (.code (.region id ops false) :: k)) cs w) (lone (b.at (setT a o.dst v') ds (.inRegion ops ((List.range ops.size).drop 1) :: k)) cs w):=by
  refine Steps.head st_region ?_
  have:(List.range ops.size)=0 :: (List.range ops.size).drop 1:=by simpa using hrng
  rw [this]
  simpa using l2
 obtain ⟨e2,H2,h2,hq⟩:=hgo hi
 have fr2:Fresh ρ H H2:=fun y q1 q2=>hf y q1
 obtain ⟨ρ3,w3,a3,s3,he3,l3⟩:=opsRun_sim (b:=b) (ds:=ds) (k:=k) (cs:=cs) hC hT hall post 1 _ e2 _ H2 (by simpa using hpost) h2 _ _ _ s.rel (he.setT k1 hv) fr2
 refine ⟨.normal,e2,H2,_,ρ3,w3,a3,ds,hq,s.trans s3,s3.size,he3,fun y q1=>?_,hgh.step s3 (s3.le fr2),hm.step s3,fun _=>rfl,l1.trans l3⟩
 rw [s3.ext y (.inr q1)]
 exact hf y (Nat.le_trans s3.hn q1)
end
def oblR (ops:Array Oper) (k:Nat) (H H':AHeap):List (Nat×Nat)→Prop
 | []=>True
 | r :: rs=>(isAnc ops r.1 k=true∨H'.get r.2=H.get r.2)∧oblR ops k H H' rs
def oblA (ops:Array Oper) (k b:Nat):List (Nat×AHeap×AHeap)→Prop
 | []=>True
 | a :: as=>(isAnc ops a.1 k=true∨a.2.2.get b=a.2.1.get b)∧oblA ops k b as
def oblO (ops:Array Oper) (k:Nat) (o:Option Nat) (as:List (Nat×AHeap×AHeap)):Prop:=match o with|some b=>oblA ops k b as|none=>True
def rdO' (k:Nat) (o:Option Nat) (rs:List (Nat×Nat)):List (Nat×Nat):=match o with|some b=>(k,b) :: rs|none=>rs
def tch (ops:Array Oper) (env:Env) (H:AHeap) (o:Oper):Option Nat:=if Region.wanted o (yieldedA ops env)=true then touchBlk env H o.op else none
def WD (P:Program) (C:CallRel) (ops:Array Oper):List Oper→Nat→List (Nat×Nat)→List (Nat×AHeap×AHeap)→(Env→AHeap→Prop)→Env→AHeap→Prop
 | [],_,_,_,K,env,H=>K env H
 | o :: os,k,rs,as,K,env,H =>
  if simpleOp o.op=true then oblO ops k (tch ops env H o) as∧WO P C ops [o] (fun e h=>WD P C ops os (k + 1) (rdO' k (tch ops env H o) rs) as K e h) env H
  else WO P C ops [o] (fun e h=>oblR ops k H h rs∧WD P C ops os (k + 1) rs ((k,H,h) :: as) K e h) env H
theorem oblR_mem {ops:Array Oper} {k:Nat} {H H':AHeap}:∀ {rs:List (Nat×Nat)},oblR ops k H H' rs→∀ r,r∈rs→isAnc ops r.1 k=true∨H'.get r.2=H.get r.2
 | [],_,r,h=>by simp at h
 | a :: rs,h,r,hr=>by
  rcases List.mem_cons.1 hr with rfl|hr
  ·exact h.1
  ·exact oblR_mem h.2 r hr
theorem oblA_mem {ops:Array Oper} {k b:Nat}:∀ {as:List (Nat×AHeap×AHeap)},oblA ops k b as→∀ a,a∈as→isAnc ops a.1 k=true∨a.2.2.get b=a.2.1.get b
 | [],_,r,h=>by simp at h
 | a :: rs,h,r,hr=>by
  rcases List.mem_cons.1 hr with rfl|hr
  ·exact h.1
  ·exact oblA_mem h.2 r hr
structure Past (P:Program) (C:CallRel) (ops:Array Oper) (k:Nat) (rs:List (Nat×Nat)) (as:List (Nat×AHeap×AHeap)) (E:Nat→Env) (Hs:Nat→AHeap):Prop where
 step:∀ i o,i < k→ops[i]? = some o→OpStep P C ops o (E i) (Hs i) (E (i + 1)) (Hs (i + 1))
 rd:∀ i o b,i < k→ops[i]? = some o→simpleOp o.op=true→tch ops (E i) (Hs i) o=some b→(i,b)∈rs
 act:∀ i o,i < k→ops[i]? = some o→simpleOp o.op=false→(i,Hs i,Hs (i + 1))∈as
 ni:∀ i j oi oj,i < k→j < k→ops[i]? = some oi→ops[j]? = some oj→isAnc ops i j=false→isAnc ops j i=false→simpleOp oi.op=true→simpleOp oj.op=false →
  ∀ b,tch ops (E i) (Hs i) oi=some b→(Hs (j + 1)).get b=(Hs j).get b
theorem WD_run {P:Program} {C:CallRel} {ops:Array Oper} {K:Env→AHeap→Prop}:∀ (os:List Oper) (k:Nat) (rs:List (Nat×Nat)) (as:List (Nat×AHeap×AHeap)) (E:Nat→Env) (Hs:Nat→AHeap),
  ops.toList.drop k=os→k≤ops.size→Past P C ops k rs as E Hs→WD P C ops os k rs as K (E k) (Hs k)→∃ env' H',DrawnRun P C ops (E 0) (Hs 0) env' H'∧K env' H'
 | [],k,rs,as,E,Hs,hd,hk,hp,h=>by
  have hk2:k=ops.size:=by
   rw [List.drop_eq_nil_iff] at hd
   simp at hd
   omega
  subst hk2
  refine ⟨E ops.size,Hs ops.size,⟨E,Hs,rfl,rfl,rfl,rfl,fun i o ho=>hp.step i o (Array.getElem?_eq_some_iff.1 ho).1 ho, ?_⟩,h⟩
  intro i j oi oj hi hj h1 h2 h3 h4 hw b hb
  refine hp.ni i j oi oj (Array.getElem?_eq_some_iff.1 hi).1 (Array.getElem?_eq_some_iff.1 hj).1 hi hj h1 h2 h3 h4 b ?_
  unfold tch
  rw [if_pos hw,hb]
 | o :: os,k,rs,as,E,Hs,hd,hk,hp,h=>by
  have hlt:k < ops.size:=by
   rcases Nat.lt_or_ge k ops.toList.length with q|q
   ·simpa using q
   ·rw [List.drop_eq_nil_iff.2 q] at hd;cases hd
  have hoo:ops[k]? = some o:=by
   have:=congrArg (·[0]?) hd
   simpa using this
  have hos:ops.toList.drop (k + 1)=os:=by
   have:=congrArg List.tail hd
   simpa using this
  -- one more operation
  have next:∀ (rs':List (Nat×Nat)) (as':List (Nat×AHeap×AHeap)) (e1:Env) (h1:AHeap),OpStep P C ops o (E k) (Hs k) e1 h1 →
    (∀ r,r∈rs→r∈rs')→(∀ a,a∈as→a∈as')→(simpleOp o.op=true→∀ b,tch ops (E k) (Hs k) o=some b→(k,b)∈rs')→(simpleOp o.op=false→(k,Hs k,h1)∈as') →
    (simpleOp o.op=true→oblO ops k (tch ops (E k) (Hs k) o) as)→(simpleOp o.op=false→oblR ops k (Hs k) h1 rs) →
    WD P C ops os (k + 1) rs' as' K e1 h1→∃ env' H',DrawnRun P C ops (E 0) (Hs 0) env' H'∧K env' H':=by
   intro rs' as' e1 h1 hst hrs has hr ha hob1 hob2 hw
   obtain ⟨E',eqE,eqE1⟩:∃ E':Nat→Env,(∀ i,i≤k→E' i=E i)∧E' (k + 1)=e1:=⟨fun i=>if i≤k then E i else e1,fun i hi=>if_pos hi,if_neg (by omega)⟩
   obtain ⟨Hs',eqH,eqH1⟩:∃ H':Nat→AHeap,(∀ i,i≤k→H' i=Hs i)∧H' (k + 1)=h1:=⟨fun i=>if i≤k then Hs i else h1,fun i hi=>if_pos hi,if_neg (by omega)⟩
   rw [← eqE 0 (by omega),← eqH 0 (by omega)]
   refine WD_run os (k + 1) rs' as' E' Hs' hos hlt ⟨?_, ?_, ?_, ?_⟩ (by rw [eqE1,eqH1];exact hw)
   ·intro i oi hi ho
    by_cases hik:i=k
    ·subst hik
     rw [hoo] at ho;cases ho
     rw [eqE i (Nat.le_refl _),eqH i (Nat.le_refl _),eqE1,eqH1]
     exact hst
    ·rw [eqE i (by omega),eqH i (by omega),eqE (i + 1) (by omega),eqH (i + 1) (by omega)]
     exact hp.step i oi (by omega) ho
   ·intro i oi b hi ho hs ht
    by_cases hik:i=k
    ·subst hik
     rw [hoo] at ho;cases ho
     rw [eqE i (Nat.le_refl _),eqH i (Nat.le_refl _)] at ht
     exact hr hs b ht
    ·rw [eqE i (by omega),eqH i (by omega)] at ht
     exact hrs _ (hp.rd i oi b (by omega) ho hs ht)
   ·intro i oi hi ho hs
    by_cases hik:i=k
    ·subst hik
     rw [hoo] at ho;cases ho
     rw [eqH i (Nat.le_refl _),eqH1]
     exact ha hs
    ·rw [eqH i (by omega),eqH (i + 1) (by omega)]
     exact has _ (hp.act i oi (by omega) ho hs)
   ·intro i j oi oj hi hj hio hjo h1' h2' hsi hsj b ht
    by_cases hik:i=k
    ·subst hik
     rw [hoo] at hio;cases hio
     have hjk:j≠i:=fun e=>by subst e;rw [hoo] at hjo;cases hjo;rw [hsi] at hsj;cases hsj
     rw [eqE i (Nat.le_refl _),eqH i (Nat.le_refl _)] at ht
     have hob:=hob1 hsi
     rw [ht] at hob
     have:=oblA_mem hob _ (hp.act j oj (by omega) hjo hsj)
     rw [eqH j (by omega),eqH (j + 1) (by omega)]
     rcases this with q|q
     ·rw [h2'] at q;cases q
     ·exact q
    ·rw [eqE i (by omega),eqH i (by omega)] at ht
     by_cases hjk:j=k
     ·subst hjk
      rw [hoo] at hjo;cases hjo
      have:=oblR_mem (hob2 hsj) _ (hp.rd i oi b (by omega) hio hsi ht)
      rw [eqH j (Nat.le_refl _),eqH1]
      rcases this with q|q
      ·rw [h1'] at q;cases q
      ·exact q
     ·rw [eqH j (by omega),eqH (j + 1) (by omega)]
      exact hp.ni i j oi oj (by omega) (by omega) hio hjo h1' h2' hsi hsj b ht
  unfold WD at h
  split at h
  ·rename_i hs
   obtain ⟨hob,e1,h1,⟨e2,h2,hst,rfl,rfl⟩,hw⟩:=h
   refine next _ as e1 h1 hst (fun r hr=>?_) (fun a ha=>ha) (fun _ b hb=>?_) (fun q=>by rw [hs] at q;cases q) (fun _=>hob) (fun q=>by rw [hs] at q;cases q) hw
   ·unfold rdO'
    split
    ·exact List.mem_cons_of_mem _ hr
    ·exact hr
   ·rw [hb];simp [rdO']
  ·rename_i hs
   obtain ⟨e1,h1,⟨e2,h2,hst,rfl,rfl⟩,hob,hw⟩:=h
   exact next rs _ e1 h1 hst (fun r hr=>hr) (fun a ha=>List.mem_cons_of_mem _ ha) (fun q=>absurd q hs) (fun _=>by simp) (fun q=>absurd q hs) (fun _=>hob) hw
theorem W_drawn {P:Program} {C:CallRel} {ng nt:Nat} {id:Nat} {l:List Oper} {env:Env} {H:AHeap} {Q:Post} (h:∀ K:Env→AHeap→Prop,(∀ e h,Q .normal e h→K e h)→WD P C ⟨l⟩ l 0 [] [] K env H):W P C ng nt (.region id ⟨l⟩ true) env H Q:=by
 obtain ⟨e,H',r,q⟩:=WD_run l 0 [] [] (fun _=>env) (fun _=>H) rfl (Nat.zero_le _) ⟨fun i o hi=>absurd hi (by omega),fun i o b hi=>absurd hi (by omega),fun i o hi=>absurd hi (by omega),fun i j oi oj hi=>absurd hi (by omega)⟩ (h (fun e h=>Q .normal e h) fun _ _ h=>h)
 exact ⟨_,e,H',.drawn r,q⟩
theorem WD_congr {P:Program} {C:CallRel} {ops:Array Oper} {os:List Oper} {k:Nat} {rs:List (Nat×Nat)} {as:List (Nat×AHeap×AHeap)} {K:Env→AHeap→Prop} {rs':List (Nat×Nat)} {env env':Env} {H H':AHeap} (h1:rs=rs') (h:env=env') (h2:H=H'):WD P C ops os k rs as K env H=WD P C ops os k rs' as K env' H':=by rw [h1,h,h2]
def mapB (v:Value):Option Nat:=match some v with|some (.map r)=>r|_=>none
theorem mapB_slice {a:Option Addr} {n c:Nat}:mapB (.slice a n c)=none:=rfl
theorem mapB_string {s:ByteArray}:mapB (.string s)=none:=rfl
theorem mapB_map {r:Option Nat}:mapB (.map r)=r:=rfl
theorem blkOf_ptr {b o:Nat}:blkOf (vptr b o)=some b:=rfl
theorem blkOf_slice {b o n c:Nat}:blkOf (.slice (some ⟨b,o,none⟩) n c)=some b:=rfl
theorem blkOf_nil {n c:Nat}:blkOf (.slice none n c)=none:=rfl
theorem blkOf_map {r:Option Nat}:blkOf (.map r)=r:=rfl
theorem oblO_none {ops:Array Oper} {k:Nat} {as:List (Nat×AHeap×AHeap)}:oblO ops k none as=True:=rfl
theorem oblO_nil {ops:Array Oper} {k:Nat} {o:Option Nat}:oblO ops k o []=True:=by cases o <;> rfl
theorem oblO_some {ops:Array Oper} {k b:Nat} {a:Nat×AHeap×AHeap} {as:List (Nat×AHeap×AHeap)}:oblO ops k (some b) (a :: as)=oblA ops k b (a :: as):=rfl
theorem oblA_nil {ops:Array Oper} {k b:Nat}:oblA ops k b []=True:=rfl
theorem oblR_nil {ops:Array Oper} {k:Nat} {H H':AHeap}:oblR ops k H H' []=True:=rfl
theorem rdO_some {k b:Nat} {rs:List (Nat×Nat)}:rdO' k (some b) rs=(k,b) :: rs:=rfl
theorem rdO_none {k:Nat} {rs:List (Nat×Nat)}:rdO' k none rs=rs:=rfl
theorem oblO_congr {ops:Array Oper} {k:Nat} {o o':Option Nat} {as:List (Nat×AHeap×AHeap)} (h:o=o'):oblO ops k o as=oblO ops k o' as:=by rw [h]
theorem oblA_congr {ops:Array Oper} {k b:Nat} {as:List (Nat×AHeap×AHeap)}:oblA ops k b as=oblA ops k b as:=rfl
theorem oblR_congr {ops:Array Oper} {k:Nat} {H H':AHeap} {rs:List (Nat×Nat)}:oblR ops k H H' rs=oblR ops k H H' rs:=rfl
section
variable {P:Program} {C:CallRel} {ops:Array Oper} {os:List Oper} {K:Env→AHeap→Prop} {env:Env} {H:AHeap} {dst:Option Tmp} {ty:TypeId} {pos:String} {aft:Array Edge} {k:Nat} {rs:List (Nat×Nat)} {as:List (Nat×AHeap×AHeap)} {op:Op}
theorem WD_nil:WD P C ops [] k rs as K env H=K env H:=rfl
theorem WD_0 (hs:simpleOp op=true) (ht:∀ e h,touchBlk e h op=none):WD P C ops (⟨dst,op,ty,pos,aft,none⟩ :: os) k rs as K env H=WO P C ops [⟨dst,op,ty,pos,aft,none⟩] (fun e h=>WD P C ops os (k + 1) rs as K e h) env H:=by
 have h1:tch ops env H ⟨dst,op,ty,pos,aft,none⟩=none:=by simp [tch,ht]
 conv=>lhs;unfold WD
 simp only [hs,if_true,h1,oblO,rdO',true_and]
theorem WD_1 (hs:simpleOp op=true):WD P C ops (⟨dst,op,ty,pos,aft,none⟩ :: os) k rs as K env H=(oblO ops k (touchBlk env H op) as∧WO P C ops [⟨dst,op,ty,pos,aft,none⟩] (fun e h=>WD P C ops os (k + 1) (rdO' k (touchBlk env H op) rs) as K e h) env H):=by
 have h1:tch ops env H ⟨dst,op,ty,pos,aft,none⟩=touchBlk env H op:=by simp [tch,Region.wanted]
 conv=>lhs;unfold WD
 simp only [hs,if_true,h1]
theorem WD_2 (hs:simpleOp op=false) {g:Option (Nat×Bool)}:WD P C ops (⟨dst,op,ty,pos,aft,g⟩ :: os) k rs as K env H=WO P C ops [⟨dst,op,ty,pos,aft,g⟩] (fun e h=>oblR ops k H h rs∧WD P C ops os (k + 1) rs ((k,H,h) :: as) K e h) env H:=by
 conv=>lhs;unfold WD
 simp only [hs,if_false,Bool.false_eq_true]
theorem WD_move (x:Operand):WD P C ops (⟨dst,.move x,ty,pos,aft,none⟩ :: os) k rs as K env H=WO P C ops [⟨dst,.move x,ty,pos,aft,none⟩] (fun e h=>WD P C ops os (k + 1) rs as K e h) env H:=WD_0 rfl fun _ _=>rfl
theorem WD_assign (x:Operand):WD P C ops (⟨dst,.assign x,ty,pos,aft,none⟩ :: os) k rs as K env H=WO P C ops [⟨dst,.assign x,ty,pos,aft,none⟩] (fun e h=>WD P C ops os (k + 1) rs as K e h) env H:=WD_0 rfl fun _ _=>rfl
theorem WD_build (t:TypeId) (ps:Array (Nat×Operand)):WD P C ops (⟨dst,.build t ps,ty,pos,aft,none⟩ :: os) k rs as K env H=WO P C ops [⟨dst,.build t ps,ty,pos,aft,none⟩] (fun e h=>WD P C ops os (k + 1) rs as K e h) env H:=WD_0 rfl fun _ _=>rfl
theorem WD_nilCheck (x:Operand):WD P C ops (⟨dst,.nilCheck x,ty,pos,aft,none⟩ :: os) k rs as K env H=WO P C ops [⟨dst,.nilCheck x,ty,pos,aft,none⟩] (fun e h=>WD P C ops os (k + 1) rs as K e h) env H:=WD_0 rfl fun _ _=>rfl
theorem WD_makeFunc (f:FuncId) (a c:Array Operand):WD P C ops (⟨dst,.makeFunc (.func f) a c,ty,pos,aft,none⟩ :: os) k rs as K env H=WO P C ops [⟨dst,.makeFunc (.func f) a c,ty,pos,aft,none⟩] (fun e h=>WD P C ops os (k + 1) rs as K e h) env H:=WD_0 rfl fun _ _=>rfl
theorem WD_fieldAddr (t:TypeId) (x:Operand) (f:Nat):WD P C ops (⟨dst,.fieldAddr t x f,ty,pos,aft,none⟩ :: os) k rs as K env H=WO P C ops [⟨dst,.fieldAddr t x f,ty,pos,aft,none⟩] (fun e h=>WD P C ops os (k + 1) rs as K e h) env H:=WD_0 rfl fun _ _=>rfl
theorem WD_field (t:TypeId) (x:Operand) (f:Nat):WD P C ops (⟨dst,.field t x f,ty,pos,aft,none⟩ :: os) k rs as K env H=WO P C ops [⟨dst,.field t x f,ty,pos,aft,none⟩] (fun e h=>WD P C ops os (k + 1) rs as K e h) env H:=WD_0 rfl fun _ _=>rfl
theorem WD_indexAddr (t:TypeId) (x i:Operand):WD P C ops (⟨dst,.indexAddr t x i,ty,pos,aft,none⟩ :: os) k rs as K env H=WO P C ops [⟨dst,.indexAddr t x i,ty,pos,aft,none⟩] (fun e h=>WD P C ops os (k + 1) rs as K e h) env H:=WD_0 rfl fun _ _=>rfl
theorem WD_index (t:TypeId) (x i:Operand):WD P C ops (⟨dst,.index t x i,ty,pos,aft,none⟩ :: os) k rs as K env H=WO P C ops [⟨dst,.index t x i,ty,pos,aft,none⟩] (fun e h=>WD P C ops os (k + 1) rs as K e h) env H:=WD_0 rfl fun _ _=>rfl
theorem WD_extract (x:Operand) (i:Nat):WD P C ops (⟨dst,.extract x i,ty,pos,aft,none⟩ :: os) k rs as K env H=WO P C ops [⟨dst,.extract x i,ty,pos,aft,none⟩] (fun e h=>WD P C ops os (k + 1) rs as K e h) env H:=WD_0 rfl fun _ _=>rfl
theorem WD_binOp (o:BinOp) (t:TypeId) (x y:Operand) (yt:TypeId):WD P C ops (⟨dst,.binOp o t x y yt,ty,pos,aft,none⟩ :: os) k rs as K env H=WO P C ops [⟨dst,.binOp o t x y yt,ty,pos,aft,none⟩] (fun e h=>WD P C ops os (k + 1) rs as K e h) env H:=WD_0 rfl fun _ _=>rfl
theorem WD_unOp (o:UnOp) (t:TypeId) (x:Operand):WD P C ops (⟨dst,.unOp o t x,ty,pos,aft,none⟩ :: os) k rs as K env H=WO P C ops [⟨dst,.unOp o t x,ty,pos,aft,none⟩] (fun e h=>WD P C ops os (k + 1) rs as K e h) env H:=WD_0 rfl fun _ _=>rfl
theorem WD_convert (s d:TypeId) (x:Operand):WD P C ops (⟨dst,.convert s d x,ty,pos,aft,none⟩ :: os) k rs as K env H=WO P C ops [⟨dst,.convert s d x,ty,pos,aft,none⟩] (fun e h=>WD P C ops os (k + 1) rs as K e h) env H:=WD_0 rfl fun _ _=>rfl
theorem WD_pick (c a b:Operand):WD P C ops (⟨dst,.pick c a b,ty,pos,aft,none⟩ :: os) k rs as K env H=WO P C ops [⟨dst,.pick c a b,ty,pos,aft,none⟩] (fun e h=>WD P C ops os (k + 1) rs as K e h) env H:=WD_0 rfl fun _ _=>rfl
theorem WD_min (args:Array Operand) (ts:Array TypeId):WD P C ops (⟨dst,.call ⟨.builtin .min,args,ts⟩,ty,pos,aft,none⟩ :: os) k rs as K env H=WO P C ops [⟨dst,.call ⟨.builtin .min,args,ts⟩,ty,pos,aft,none⟩] (fun e h=>WD P C ops os (k + 1) rs as K e h) env H:=WD_0 rfl fun _ _=>rfl
theorem WD_max (args:Array Operand) (ts:Array TypeId):WD P C ops (⟨dst,.call ⟨.builtin .max,args,ts⟩,ty,pos,aft,none⟩ :: os) k rs as K env H=WO P C ops [⟨dst,.call ⟨.builtin .max,args,ts⟩,ty,pos,aft,none⟩] (fun e h=>WD P C ops os (k + 1) rs as K e h) env H:=WD_0 rfl fun _ _=>rfl
theorem WD_load (t:TypeId) (x:Operand):WD P C ops (⟨dst,.load t x,ty,pos,aft,none⟩ :: os) k rs as K env H=(oblO ops k (blkOf (ev env x)) as∧WO P C ops [⟨dst,.load t x,ty,pos,aft,none⟩] (fun e h=>WD P C ops os (k + 1) (rdO' k (blkOf (ev env x)) rs) as K e h) env H):=WD_1 rfl
theorem WD_lenS (t:TypeId) (x:Operand):WD P C ops (⟨dst,.call ⟨.builtin .len,#[x],#[t]⟩,ty,pos,aft,none⟩ :: os) k rs as K env H=(oblO ops k (mapB (ev env x)) as∧WO P C ops [⟨dst,.call ⟨.builtin .len,#[x],#[t]⟩,ty,pos,aft,none⟩] (fun e h=>WD P C ops os (k + 1) (rdO' k (mapB (ev env x)) rs) as K e h) env H):=WD_1 rfl
theorem WD_alloc (t:TypeId):WD P C ops (⟨dst,.alloc t,ty,pos,aft,none⟩ :: os) k rs as K env H=(oblO ops k (some H.n) as∧WO P C ops [⟨dst,.alloc t,ty,pos,aft,none⟩] (fun e h=>WD P C ops os (k + 1) (rdO' k (some H.n) rs) as K e h) env H):=WD_1 rfl
theorem WD_box (t:TypeId) (x:Operand):WD P C ops (⟨dst,.box t x,ty,pos,aft,none⟩ :: os) k rs as K env H=(oblO ops k (some H.n) as∧WO P C ops [⟨dst,.box t x,ty,pos,aft,none⟩] (fun e h=>WD P C ops os (k + 1) (rdO' k (some H.n) rs) as K e h) env H):=WD_1 rfl
theorem WD_buildSlice (t:TypeId) (n:Nat) (ps:Array (Nat×Operand)):WD P C ops (⟨dst,.buildSlice t n ps,ty,pos,aft,none⟩ :: os) k rs as K env H=(oblO ops k (some H.n) as∧WO P C ops [⟨dst,.buildSlice t n ps,ty,pos,aft,none⟩] (fun e h=>WD P C ops os (k + 1) (rdO' k (some H.n) rs) as K e h) env H):=WD_1 rfl
theorem WD_makeSlice (t:TypeId) (l c:Operand):WD P C ops (⟨dst,.makeSlice t l c,ty,pos,aft,none⟩ :: os) k rs as K env H=(oblO ops k (some H.n) as∧WO P C ops [⟨dst,.makeSlice t l c,ty,pos,aft,none⟩] (fun e h=>WD P C ops os (k + 1) (rdO' k (some H.n) rs) as K e h) env H):=WD_1 rfl
theorem WD_slice (t:TypeId) (x:Operand) (lo hi mx:Option Operand):WD P C ops (⟨dst,.slice t x lo hi mx,ty,pos,aft,none⟩ :: os) k rs as K env H=(oblO ops k (blkOf (ev env x)) as∧WO P C ops [⟨dst,.slice t x lo hi mx,ty,pos,aft,none⟩] (fun e h=>WD P C ops os (k + 1) (rdO' k (blkOf (ev env x)) rs) as K e h) env H):=WD_1 rfl
theorem WD_lookup (t:TypeId) (x i:Operand) (ok:Bool):WD P C ops (⟨dst,.lookup t x i ok,ty,pos,aft,none⟩ :: os) k rs as K env H=(oblO ops k (blkOf (ev env x)) as∧WO P C ops [⟨dst,.lookup t x i ok,ty,pos,aft,none⟩] (fun e h=>WD P C ops os (k + 1) (rdO' k (blkOf (ev env x)) rs) as K e h) env H):=WD_1 rfl
theorem WD_makeMap (t:TypeId):WD P C ops (⟨dst,.makeMap t none,ty,pos,aft,none⟩ :: os) k rs as K env H=(oblO ops k (some H.n) as∧WO P C ops [⟨dst,.makeMap t none,ty,pos,aft,none⟩] (fun e h=>WD P C ops os (k + 1) (rdO' k (some H.n) rs) as K e h) env H):=WD_1 rfl
theorem WD_store (t:TypeId) (a x:Operand):WD P C ops (⟨dst,.store t a x,ty,pos,aft,none⟩ :: os) k rs as K env H=WO P C ops [⟨dst,.store t a x,ty,pos,aft,none⟩] (fun e h=>oblR ops k H h rs∧WD P C ops os (k + 1) rs ((k,H,h) :: as) K e h) env H:=WD_2 rfl
theorem WD_mapUpdate (t:TypeId) (m i x:Operand):WD P C ops (⟨dst,.mapUpdate t m i x,ty,pos,aft,none⟩ :: os) k rs as K env H=WO P C ops [⟨dst,.mapUpdate t m i x,ty,pos,aft,none⟩] (fun e h=>oblR ops k H h rs∧WD P C ops os (k + 1) rs ((k,H,h) :: as) K e h) env H:=WD_2 rfl
theorem WD_append (args:Array Operand) (ts:Array TypeId):WD P C ops (⟨dst,.call ⟨.builtin .append,args,ts⟩,ty,pos,aft,none⟩ :: os) k rs as K env H=WO P C ops [⟨dst,.call ⟨.builtin .append,args,ts⟩,ty,pos,aft,none⟩] (fun e h=>oblR ops k H h rs∧WD P C ops os (k + 1) rs ((k,H,h) :: as) K e h) env H:=WD_2 rfl
theorem WD_call (f:Operand) (args:Array Operand) (ts:Array TypeId):WD P C ops (⟨dst,.call ⟨.value f,args,ts⟩,ty,pos,aft,none⟩ :: os) k rs as K env H=WO P C ops [⟨dst,.call ⟨.value f,args,ts⟩,ty,pos,aft,none⟩] (fun e h=>oblR ops k H h rs∧WD P C ops os (k + 1) rs ((k,H,h) :: as) K e h) env H:=WD_2 rfl
end
structure Fr (N:Nat) (X:List Nat) (H H':AHeap):Prop where
 n:H.n≤H'.n
 old:∀ b,b < H.n→b∉X→H'.get b=H.get b
 grp:∀ b c T g e l,H'.get b=.cells c T (.gr g e l)→g < N→H'.get b=H.get b
 top:Top H→Top H'
theorem Fr.refl {N:Nat} {X:List Nat} (H:AHeap):Fr N X H H:=⟨Nat.le_refl _,fun _ _ _=>rfl,fun _ _ _ _ _ _ _ _=>rfl,id⟩
theorem Fr.mono {N N':Nat} {X X':List Nat} {A B:AHeap} (h:Fr N' X' A B) (hn:N≤N') (hx:∀ b,b∈X'→b < A.n→b∈X):Fr N X A B :=
 ⟨h.n,fun b hb hX=>h.old b hb fun hm=>hX (hx b hm hb),fun b c T g e l hg hl=>h.grp b c T g e l hg (Nat.lt_of_lt_of_le hl hn),h.top⟩
theorem Fr.trans {N:Nat} {X:List Nat} {A B C:AHeap} (h:Fr N X A B) (k:Fr N X B C):Fr N X A C where
 n:=Nat.le_trans h.n k.n
 old b hb hx:=(k.old b (Nat.lt_of_lt_of_le hb h.n) hx).trans (h.old b hb hx)
 grp b c T g e l hg hl:=by
  have e1:=k.grp b c T g e l hg hl
  exact e1.trans (h.grp b c T g e l (e1 ▸ hg) hl)
 top ht:=k.top (h.top ht)
theorem Fr.trans' {N N':Nat} {X X':List Nat} {A B C:AHeap} (h:Fr N X A B) (k:Fr N' X' B C) (hn:N≤N') (hx:∀ b,b∈X'→b < A.n→b∈X):Fr N X A C where
 n:=Nat.le_trans h.n k.n
 old b hb hX:=(k.old b (Nat.lt_of_lt_of_le hb h.n) fun hm=>hX (hx b hm hb)).trans (h.old b hb hX)
 grp b c T g e l hg hl:=by
  have e1:=k.grp b c T g e l hg (Nat.lt_of_lt_of_le hl hn)
  exact e1.trans (h.grp b c T g e l (e1 ▸ hg) hl)
 top ht:=k.top (h.top ht)
theorem Fr.call {N N':Nat} {X:List Nat} {A B C:AHeap} (h:Fr N X A B) (k:Fr N' [] B C) (hn:N≤N'):Fr N X A C:=h.trans' k hn fun b hb=>by simp at hb
def grOk (N b:Nat) (o:AObj):Prop:=match o with|.cells _ _ (.gr g _ _)=>N≤g∧g≤b|_=>True
theorem Fr.upd {N:Nat} {X:List Nat} {A B:AHeap} (h:Fr N X A B) {n b:Nat} {o:AObj} (hn:B.n≤n) (hb:b < n) (hx:A.n≤b∨b∈X) (ho:grOk N b o):Fr N X A (B.upd n b o) where
 n:=Nat.le_trans h.n hn
 old c hc hX:=by
  rw [upd_get_ne]
  ·exact h.old c hc hX
  ·rintro rfl
   rcases hx with hx|hx
   ·omega
   ·exact hX hx
 grp c d T g e l hg hl:=by
  by_cases e1:c=b
  ·subst e1
   rw [upd_get_same] at hg
   subst hg
   have:N≤g:=ho.1
   omega
  ·rw [upd_get_ne e1] at hg ⊢
   exact h.grp c d T g e l hg hl
 top ht:=by
  have ht:=h.top ht
  refine ⟨fun c hc=>?_,fun c=>?_⟩
  ·have hc:n≤c:=hc
   rw [upd_get_ne (by omega)]
   exact ht.1 c (by omega)
  ·by_cases e1:c=b
   ·subst e1
    rw [upd_get_same]
    intro d T g e l hg
    subst hg
    exact ho.2
   ·rw [upd_get_ne e1]
    exact ht.2 c
theorem Fr.rd {N:Nat} {X:List Nat} {A B:AHeap} (h:Fr N X A B) {b:Nat} (hb:b < A.n) (hx:b∉X):B.rd b=A.rd b:=by rw [rd_def,rd_def,h.old b hb hx]
theorem SR.fr {N:Nat} {X:List Nat} {A B:AHeap} (hF:Fr N X A B) {s n:Nat} {v:Value} {c:List Value} (h:SR A s n v c) (hx:n=0∨vblk v∉X):SR B s n v c:=by
 refine ⟨h.shape,h.len, ?_, ?_⟩
 ·by_cases hn:n=0
  ·exact .inl hn
  ·rcases h.cells with q|⟨d,h1,h2⟩
   ·exact .inl q
   ·exact .inr ⟨d,(hF.rd (h.lt.resolve_left hn) (hx.resolve_left hn)).trans h1,h2⟩
 ·rcases h.lt with q|q
  ·exact .inl q
  ·exact .inr (Nat.lt_of_lt_of_le q hF.n)
theorem SR.fr0 {N:Nat} {A B:AHeap} (hF:Fr N [] A B) {s n:Nat} {v:Value} {c:List Value} (h:SR A s n v c):SR B s n v c:=h.fr hF (.inr (by simp))
def Fro (H:AHeap) (g p:Nat):Prop:=∀ b c T e l,H.get b=.cells c T (.gr g e l)→c.length≤p
theorem Fro.cut {H:AHeap} {g p:Nat} (h:Fro H g p):H.cut g p=H:=by
 unfold AHeap.cut
 congr 1
 funext c
 split
 ·rfl
 ·unfold AObj.cut
  split
  ·rename_i d T g' e l he
   split
   ·rename_i hh
    obtain ⟨rfl,hh⟩:=hh
    have:=h _ _ _ _ _ he
    omega
   ·exact he.symm
  ·rfl
inductive GS (H:AHeap) (s n:Nat) (v:Value) (c:List Value):Option Nat→Prop
 | nil (hn:n=0) (hv:v=.slice none 0 0) (hc:c=[]):GS H s n v c none
 | full {b o:Nat} {d:List Value} {T:TypeId} {k:Kd} (hv:v=.slice (some ⟨b,o,none⟩) n n) (hb:b < H.n) (hg:H.get b=.cells d T k) (hk:k=.ex∨k=.ro) (hl:o + n * s≤d.length) (hc:(d.drop o).take (n * s)=c) (h0:n=0→o=0):GS H s n v c none
 | gr {b g:Nat} {T:TypeId} (hv:v=.slice (some ⟨b,0,none⟩) n n) (hb:b < H.n) (hgb:g≤b) (hg:H.get b=.cells c T (.gr g s true)) (hl:c.length=n * s) (hf:Fro H g (n * s)):GS H s n v c (some g)
theorem GS.sr {H:AHeap} {s n:Nat} {v:Value} {c:List Value} {g:Option Nat} (h:GS H s n v c g):SR H s n v c:=by
 cases h with
 | nil hn hv hc=>subst hn hv hc;exact ⟨.inl ⟨rfl,rfl⟩,by simp,.inl rfl,.inl rfl⟩
 | full hv hb hg hk hl hc h0 =>
  subst hv
  refine ⟨.inr ⟨_,_,_,rfl,Nat.le_refl _⟩, ?_,.inr ⟨_, ?_,hl,hc⟩,.inr hb⟩
  ·rw [← hc];simp;omega
  ·rw [rd_def]
   simp only [vblk]
   rw [hg]
   rcases hk with rfl|rfl <;> rfl
 | gr hv hb hgb hg hl hf =>
  subst hv
  refine ⟨.inr ⟨_,_,_,rfl,Nat.le_refl _⟩,hl,.inr ⟨c, ?_, ?_, ?_⟩,.inr hb⟩
  ·rw [rd_def]
   simp only [vblk]
   rw [hg]
   rfl
  ·show 0 + _≤_
   omega
  ·show (c.drop 0).take _=c
   rw [List.drop_zero,← hl,List.take_length]
theorem GS.len {H:AHeap} {s n:Nat} {v:Value} {c:List Value} {g:Option Nat} (h:GS H s n v c g):c.length=n * s:=h.sr.len
theorem GS.grp_lt {H:AHeap} {s n g:Nat} {v:Value} {c:List Value} (h:GS H s n v c (some g)):g < H.n:=by
 cases h with
 | gr hv hb hgb hg hl hf=>omega
section
variable {P:Program} {t e:TypeId} {s by_ n m:Nat} {z v:Value} {H:AHeap} {c new:List Value} {g:Option Nat}
theorem GS.push (hu:P.underlying t=some (.slice e)) (hs:tySize P e=some s) (hb:tyBytes P e=some by_) (hz:tyZero P e=some z) (hd:dflat z=true) (hzs:z.cells.size=s) (h0:0 < s)
  (G:GS H s n v c g) (hl:new.length=m * s) (hm:0 < m) (h1:n + m≤2 ^ 40) (h2:(n + m) * by_≤2 ^ 40) :
  appendA P t H v m new=some (.slice (some ⟨H.n,0,none⟩) (n + m) (n + m),H.upd (H.n + 1) H.n (.cells (c ++ new) e (.gr (g.getD H.n) s true))):=by
 unfold appendA
 simp only [hu,hs,hb,hz]
 rw [if_pos ⟨hd,hzs,h0,hl⟩]
 have hm0:m≠0:=by omega
 cases G with
 | nil hn hv hc =>
  subst hn hv hc
  rw [Nat.zero_add] at h1 h2
  simp only [and_self,if_true,hm0,if_false,h1,h2,alloc_upd,Nat.zero_add,List.nil_append,Option.getD_none]
 | full hv hb' hg hk hl' hc h0' =>
  subst hv
  have hc0:¬ (m=0∧n≤n):=by omega
  rename_i b o d T k
  have ho:¬ (o≠0∧n=0):=fun hh=>hh.1 (h0' hh.2)
  simp only [hc0,if_false,ho,hg]
  have hlv:k.live=true:=by rcases hk with rfl|rfl <;> rfl
  rw [if_pos ⟨hlv,hl',h1,h2⟩]
  have hnm:¬ (n + m≤n):=by omega
  rcases hk with rfl|rfl
  ·simp only [hnm,if_false,hc,alloc_upd,Option.getD_none]
  ·simp only [hnm,if_false,hc,alloc_upd,Option.getD_none]
 | gr hv hb' hgb hg hl' hf =>
  subst hv
  have hc0:¬ (m=0∧n≤n):=by omega
  simp only [hc0,if_false,hg,ne_eq,not_true_eq_false,false_and]
  rw [if_pos ⟨rfl,by omega,h1,h2⟩]
  simp only [and_self,if_true,hf.cut]
  rw [← hl',List.take_length]
  rfl
theorem GS.pushed (ht:Top H) (G:GS H s n v c g) (hl:new.length=m * s) :
  GS (H.upd (H.n + 1) H.n (.cells (c ++ new) e (.gr (g.getD H.n) s true))) s (n + m) (.slice (some ⟨H.n,0,none⟩) (n + m) (n + m)) (c ++ new) (some (g.getD H.n)):=by
 have hlen:=G.len
 refine .gr rfl (by show _ < H.n + 1;omega) ?_ upd_get_same (by rw [List.length_append,hlen,hl,Nat.add_mul]) ?_
 ·cases g with
  | none=>exact Nat.le_refl _
  | some g=>exact Nat.le_of_lt G.grp_lt
 ·intro b d T e' l hb
  by_cases e1:b=H.n
  ·subst e1
   rw [upd_get_same] at hb
   cases hb
   rw [List.length_append,hlen,hl,Nat.add_mul]
   exact Nat.le_refl _
  ·rw [upd_get_ne e1] at hb
   cases g with
   | none =>
    have h1:=ht.2 b _ _ _ _ _ hb
    have h2:=ht.1 b (by simpa using h1)
    rw [h2] at hb
    cases hb
   | some g =>
    cases G with
    | gr hv hb' hgb hg hl' hf =>
     have:=hf _ _ _ _ _ hb
     have:n * s≤(n + m) * s:=Nat.mul_le_mul_right _ (by omega)
     omega
end
theorem GS.fr {N:Nat} {X:List Nat} {A B:AHeap} (hF:Fr N X A B) {s n:Nat} {v:Value} {c:List Value} {g:Option Nat} (h:GS A s n v c g) (hg:∀ x,g=some x→x < N) (hx:vblk v∉X):GS B s n v c g:=by
 cases h with
 | nil hn hv hc=>exact .nil hn hv hc
 | full hv hb hg1 hk hl hc h0 =>
  subst hv
  exact .full rfl (Nat.lt_of_lt_of_le hb hF.n) ((hF.old _ hb hx).trans hg1) hk hl hc h0
 | gr hv hb hgb hg' hl hf =>
  subst hv
  refine .gr rfl (Nat.lt_of_lt_of_le hb hF.n) hgb ((hF.old _ hb hx).trans hg') hl ?_
  intro b d T e l hb
  have:=hF.grp b d T _ e l hb (hg _ rfl)
  exact hf b d T e l (this ▸ hb)
theorem GS.fr0 {A B:AHeap} (hF:Fr A.n [] A B) {s n:Nat} {v:Value} {c:List Value} {g:Option Nat} (h:GS A s n v c g):GS B s n v c g :=
 h.fr hF (fun x hx=>by subst hx;exact h.grp_lt) (by simp)
def wr:Code→Nat→Bool
 | .region _ ops _,t=>ops.toList.any fun o=>o.dst == some t
 | .seq a b,t|.cond _ a b,t=>wr a t || wr b t
 | .block _ b,t|.loop b,t|.scope b,t=>wr b t
 | _,_=>false
theorem OpStep_env {P:Program} {C:CallRel} {ops:Array Oper} {o:Oper} {e e':Env} {h h':AHeap} (k:OpStep P C ops o e h e' h') {t:Nat} (ht:(o.dst == some t)=false):e' t=e t:=by
 have hs:∀ v,e.set o.dst v t=e t:=by
  intro v
  cases hd:o.dst with
  | none=>rfl
  | some d =>
   rw [hd] at ht
   rw [set_some,put_ne]
   rintro rfl
   simp at ht
 rcases k with ⟨_,v,_,rfl⟩|⟨_,rfl,_⟩ <;> exact hs _
theorem OpsRun_env {P:Program} {C:CallRel} {ops:Array Oper}:∀ (os:List Oper) {e e':Env} {h h':AHeap},OpsRun P C ops os e h e' h'→∀ {t:Nat},(os.any fun o=>o.dst == some t)=false→e' t=e t
 | [],_,_,_,_,⟨rfl,_⟩,_,_=>rfl
 | o :: os,e,e',h,h',⟨e1,h1,k1,k2⟩,t,ht=>by
  simp only [List.any_cons,Bool.or_eq_false_iff] at ht
  exact (OpsRun_env os k2 ht.2).trans (OpStep_env k1 ht.1)
theorem DrawnRun_env {P:Program} {C:CallRel} {ops:Array Oper} {e e':Env} {h h':AHeap} (k:DrawnRun P C ops e h e' h') {t:Nat} (ht:(ops.toList.any fun o=>o.dst == some t)=false):e' t=e t:=by
 obtain ⟨E,Hs,rfl,_,rfl,_,hs,_⟩:=k
 have:∀ i,i≤ops.size→E i t=E 0 t:=by
  intro i
  induction i with
  | zero=>intro _;rfl
  | succ i ih =>
   intro hi
   have ho:=hs i ops[i] (Array.getElem?_eq_getElem (by omega))
   refine (OpStep_env ho ?_).trans (ih (by omega))
   rw [List.any_eq_false] at ht
   simpa using ht ops[i] (by simp)
 exact this _ (Nat.le_refl _)
theorem ARun_env {P:Program} {C:CallRel} {ng nt:Nat} {c:Code} {e e':Env} {h h':AHeap} {x:Ex} (k:ARun P C ng nt c e h x e' h') {t:Nat} (ht:wr c t=false):e' t=e t:=by
 induction k with
 | skip=>rfl
 | label=>rfl
 | exit=>rfl
 | ret=>rfl
 | seqN _ _ i1 i2=>simp only [wr,Bool.or_eq_false_iff] at ht;exact (i2 ht.2).trans (i1 ht.1)
 | seqX _ hx i=>simp only [wr,Bool.or_eq_false_iff] at ht;exact i ht.1
 | @cond c a b env H y ex env1 H1 hc h1 i=>simp only [wr,Bool.or_eq_false_iff] at ht;exact i (by cases y;exact ht.2;exact ht.1)
 | blockE _ i=>exact i ht
 | blockX _ hx i=>exact i ht
 | loopN _ _ i1 i2=>exact (i2 ht).trans (i1 ht)
 | loopX _ hx i=>exact i ht
 | scope _ i=>exact i ht
 | region k=>exact OpsRun_env _ k ht
 | drawn k=>exact DrawnRun_env k ht
 | range hc hl hs hp=>rfl
section
variable {P:Program} {C:CallRel} {ng nt:Nat}
theorem W_loopF {b:Code} {env:Env} {H:AHeap} {Q:Post} (L:List Nat) (hL:(L.all fun t=>!wr b t)=true) (I:Nat→Env→AHeap→Prop)
  (n:Nat) (h:I n env H)
  (hI:∀ n e h,(∀ t,t∈L→e t=env t)→I n e h→W P C ng nt b e h fun x e' h'=>match x with
   | .normal=>∃ m,m < n∧I m e' h'
   | .exit i=>Q (.exit i) e' h'
   | .ret=>Q .ret e' h'):W P C ng nt (.loop b) env H Q:=by
 refine W_loop (I:=fun n e h=>(∀ t,t∈L→e t=env t)∧I n e h) ?_ n ⟨fun _ _=>rfl,h⟩
 rintro n e h ⟨h1,h2⟩
 obtain ⟨x,e',h',r,q⟩:=hI n e h h1 h2
 refine ⟨x,e',h',r, ?_⟩
 cases x with
 | normal =>
  obtain ⟨m,hm,q⟩:=q
  refine ⟨m,hm,fun t ht=>?_,q⟩
  rw [← h1 t ht]
  refine ARun_env r ?_
  have:=List.all_eq_true.1 hL t ht
  simpa using this
 | exit i=>exact q
 | ret=>exact q
end
end Go.Proofs.Swa
