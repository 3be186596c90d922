/- Part 2 of a proof. -/
import Derived.Test.YtloabbaheifkgaaP01
set_option linter.unusedVariables false
set_option linter.unusedSimpArgs false
namespace Go.Proofs.Swa
open Go
def TRel (ρ:Ren):Tgt→Tgt→Prop
 | .fn f,.fn g=>f=g
 | .yield l,.yield l'=>∃ im,ρ l=some im∧im.blk=l'
 | _,_=>False
def semOf:Tgt→Array Value→Sem Next
 | .fn f,args=>callFunc f args
 | .yield l,args=>Instr.yield l args
def Goes (P:Program) (t:Tgt) (args:Array Value) (w:World) (v:Value) (w':World) (c:Frame) (cs:List Frame):Prop :=
 ∃ nx fr,(semOf t args).run P w=.ok nx w∧frameOf P nx=some fr∧Steps P (lone fr (c :: cs) w) (lone (c.finish v) cs w')
def CallSim (P:Program) (ng:Nat) (C:CallRel):Prop :=
 ∀ n0 t args H v H',C t args H v H'→∀ ρ w t' args',Rel ng n0 ρ H w→TRel ρ t t'→ARel ρ args args'→Fresh ρ H H'→∀ c cs,
  ∃ ρ' w' v',Step ng n0 ρ H w ρ' H' w'∧VRel ρ' v v'∧Goes P t' args' w v' w' c cs
def CallTop (C:CallRel):Prop:=∀ t args H v H',C t args H v H'→Top H→Top H'∧H.n≤H'.n
def OGoes (P:Program) (E:Operand→Value) (o:Oper) (w:World) (v:Value) (w':World) (c:Frame) (cs:List Frame):Prop :=
 (∃ nx,(execOp E o).run P w=.ok nx w'∧nextVal nx=some v) ∨
 ∃ nx fr,(execOp E o).run P w=.ok nx w∧frameOf P nx=some fr∧Steps P (lone fr (c :: cs) w) (lone (c.finish v) cs w')
theorem callV_sim {P:Program} {ng n0:Nat} {C:CallRel} (hC:CallSim P ng C) {ρ:Ren} {H H':AHeap} {w:World} (hr:Rel ng n0 ρ H w) {f f':Value} {args args':Array Value} {v:Value}
  (h:callV C f args H v H') (hf:VRel ρ f f') (ha:ARel ρ args args') (hfr:Fresh ρ H H') (cl:Frame) (cs:List Frame) :
  ∃ ρ' w' v',Step ng n0 ρ H w ρ' H' w'∧VRel ρ' v v' ∧
   ∃ d:Deferred,(∀ w,(Deferred.ofValue f' args').run P w=.ok d w) ∧
    ∃ nx fr,(invoke d.target d.args).run P w=.ok nx w∧frameOf P nx=some fr∧Steps P (lone fr (cl :: cs) w) (lone (cl.finish v') cs w'):=by
 unfold callV at h
 split at h
 ·rename_i g first cap
  obtain ⟨fn',a',c',rfl,hfn,ha',hc'⟩:=hf.func_inv
  cases hfn
  obtain ⟨ρ',w',v',e1,e2,e3⟩:=hC n0 _ _ H v H' h ρ w (.fn g) (a' ++ args' ++ c') hr rfl ((ha'.append ha).append hc') hfr cl cs
  refine ⟨ρ',w',v',e1,e2,{ target:=.fn (.func g) c',args:=a' ++ args' },fun w=>rfl, ?_⟩
  simp only [invoke]
  exact e3
 ·rename_i l first cap
  obtain ⟨fn',a',c',rfl,hfn,ha',hc'⟩:=hf.func_inv
  cases hfn with
  | yield hl =>
   rename_i im
   obtain ⟨ρ',w',v',e1,e2,e3⟩:=hC n0 _ _ H v H' h ρ w (.yield im.blk) (a' ++ args') hr ⟨im,hl,rfl⟩ (ha'.append ha) hfr cl cs
   refine ⟨ρ',w',v',e1,e2,{ target:=.fn (.yield im.blk) c',args:=a' ++ args' },fun w=>rfl, ?_⟩
   simp only [invoke]
   exact e3
 ·exact h.elim
theorem AOp_cases {P:Program} {C:CallRel} {env:Env} {o:Oper} {H H':AHeap} {v:Value} (h:AOp P C env o H v H') :
  (opF P env o H=some (v,H'))∨∃ f args ts,o.op=.call ⟨.value f,args,ts⟩∧callV C (ev env f) (args.map (ev env)) H v H':=by
 unfold AOp at h
 split at h
 ·rename_i f args ts he
  exact .inr ⟨f,args,ts,he,h⟩
 ·exact h.elim
 ·exact .inl h
theorem AOp_sim {P:Program} {ng n0:Nat} {C:CallRel} (hC:CallSim P ng C) {ρ:Ren} {H H':AHeap} {w:World} (hr:Rel ng n0 ρ H w) {env:Env} {tmps:Array Value} {o:Oper} {v:Value}
  (h:AOp P C env o H v H') (hE:∀ x,x∈o.op.operands→VRel ρ (ev env x) (evc tmps x)) (hf:Fresh ρ H H') (cl:Frame) (cs:List Frame) :
  ∃ ρ' w' v',Step ng n0 ρ H w ρ' H' w'∧VRel ρ' v v'∧OGoes P (evc tmps) o w v' w' cl cs∧(simpleOp o.op=true→∀ cb,cb < w.heap.size→w'.heap[cb]? = w.heap[cb]?):=by
 rcases AOp_cases h with h|⟨f,args,ts,ho,h⟩
 ·obtain ⟨nx,w',v',ρ',e1,e2,e3,e4,e5⟩:=op_sim hr h hE hf
  exact ⟨ρ',w',v',e3,e4,.inl ⟨nx,e1,e2⟩,e5⟩
 ·obtain ⟨dst,op,ty,pos,after,guard⟩:=o
  simp only at ho
  subst ho
  have hfv:=hE f (by simp [Op.operands,Call.operands])
  have ha:=ARel.map (ρ:=ρ) (l:=args) (f:=ev env) (f':=evc tmps) (fun x hx=>hE x (by simp [Op.operands,Call.operands,hx]))
  obtain ⟨ρ',w',v',e1,e2,d,e3,e4⟩:=callV_sim hC hr h hfv ha hf cl cs
  refine ⟨ρ',w',v',e1,e2, ?_,fun h=>by simp [simpleOp] at h⟩
  have hrun:∀ w,(execOp (evc tmps) ⟨dst,.call ⟨.value f,args,ts⟩,ty,pos,after,guard⟩).run P w=(invoke d.target d.args).run P w:=by
   intro w
   simp only [execOp,resolve,Sem.run_bind,e3,Result.andThen_ok]
  obtain ⟨nx,fr,q1,q2,q3⟩:=e4
  exact .inr ⟨nx,fr,(hrun w).trans q1,q2,q3⟩
theorem AOp_top {P:Program} {C:CallRel} (hC:CallTop C) {env:Env} {o:Oper} {H H':AHeap} {v:Value} (h:AOp P C env o H v H') (ht:Top H):Top H'∧H.n≤H'.n:=by
 rcases AOp_cases h with h|⟨f,args,ts,_,h⟩
 ·exact opF_top h ht
 ·unfold callV at h
  split at h
  ·exact hC _ _ _ _ _ h ht
  ·exact hC _ _ _ _ _ h ht
  ·exact h.elim
theorem OpStep_top {P:Program} {C:CallRel} (hC:CallTop C) {ops:Array Oper} {env env':Env} {o:Oper} {H H':AHeap} (h:OpStep P C ops o env H env' H') (ht:Top H):Top H'∧H.n≤H'.n:=by
 rcases h with ⟨_,v,h,_⟩|⟨_,_,rfl⟩
 ·exact AOp_top hC h ht
 ·exact ⟨ht,Nat.le_refl _⟩
theorem op_steps {P:Program} {b:FB} {a:Array Value} {ds:List Deferred} {k:List Item} {cs:List Frame} {w w':World} {ops:Array Oper} {i:Nat} {rest:List Nat} {o:Oper} {v:Value}
  (ho:ops[i]? = some o) (hw:Region.wanted o (yielded ops a)=true) (hd:∀ c,o.op≠.defer c) (h:OGoes P (evc a) o w v w' (b.at a ds (.inRegion ops (i :: rest) :: k)) cs) :
  Steps P (lone (b.at a ds (.inRegion ops (i :: rest) :: k)) cs w) (lone (b.at (setT a o.dst v) ds (.inRegion ops rest :: k)) cs w'):=by
 rcases h with ⟨nx,e1,e2⟩|⟨nx,fr,e1,e2,e3⟩
 ·exact .one (st_op ho hw hd e1 e2)
 ·refine .head (st_opCall ho hw hd e1 e2) ?_
  rw [FB.finish ops i rest v ho] at e3
  exact e3
theorem EnvRel.setT {ρ:Ren} {nt:Nat} {env:Env} {tmps:Array Value} (h:EnvRel ρ nt env tmps) {d:Option Tmp} (hd:∀ t,d=some t→t < nt) {v v':Value} (hv:VRel ρ v v') :
  EnvRel ρ nt (env.set d v) (Swa.setT tmps d v'):=by
 cases d with
 | none=>exact h
 | some t=>exact h.put (hd t rfl) hv
theorem yielded_rel {ρ:Ren} {nt:Nat} {env:Env} {tmps:Array Value} (h:EnvRel ρ nt env tmps) (ops:Array Oper) (j:Nat):yielded ops tmps j=yieldedA ops env j:=by
 unfold yielded yieldedA
 cases hd:(ops[j]?).bind (·.dst) with
 | none=>rfl
 | some d =>
  have hv:=h.2 d
  simp only [Option.bind_some]
  by_cases hl:d < tmps.size
  ·have e1:tmps.getD d undef=tmps[d]:=by simp [Array.getD,hl]
   have e2:tmps[d]? = some tmps[d]:=by simp [hl]
   rw [e1] at hv
   rw [e2]
   generalize tmps[d]=u at hv
   clear e1 e2
   cases he:env d with
   | bool b=>rw [he] at hv;rw [hv.bool_inv]
   | _=>rw [he] at hv;cases hv <;> simp_all [flat]
  ·have e1:tmps.getD d undef=undef:=by simp [Array.getD,hl]
   have e2:tmps[d]? = none:=Array.getElem?_eq_none (Nat.le_of_not_lt hl)
   rw [e1] at hv
   rw [e2]
   cases he:env d with
   | bool b=>rw [he] at hv;have:=hv.bool_inv;simp [undef] at this
   | _=>rfl
theorem wanted_rel {ρ:Ren} {nt:Nat} {env:Env} {tmps:Array Value} (h:EnvRel ρ nt env tmps) (ops:Array Oper) (o:Oper):Region.wanted o (yielded ops tmps)=Region.wanted o (yieldedA ops env):=by
 have:yielded ops tmps=yieldedA ops env:=funext (yielded_rel h ops)
 rw [this]
theorem opOk_inv {ng nt:Nat} {o:Oper} (h:opOk ng nt o=true):(∀ t,o.dst=some t→t < nt)∧(∀ x,x∈o.op.operands→okOpd ng x=true)∧∀ c,o.op≠.defer c:=by
 unfold opOk at h
 simp only [Bool.and_eq_true] at h
 obtain ⟨⟨h1,h2⟩,h3⟩:=h
 refine ⟨fun t e=>?_,fun x hx=>?_,fun c e=>?_⟩
 ·rw [e] at h1;simpa using h1
 ·rw [Array.all_eq_true_iff_forall_mem] at h2;exact h2 x hx
 ·rw [e] at h3;simp at h3
theorem opsRun_sim {P:Program} {ng n0 nt:Nat} {C:CallRel} (hC:CallSim P ng C) (hT:CallTop C) {b:FB} {ds:List Deferred} {k:List Item} {cs:List Frame} {ops:Array Oper} (hok:∀ o,o∈ops.toList→opOk ng nt o=true) :
  ∀ (os:List Oper) (i:Nat) (env env':Env) (H H':AHeap),ops.toList.drop i=os→OpsRun P C ops os env H env' H'→∀ (ρ:Ren) (w:World) (a:Array Value),Rel ng n0 ρ H w→EnvRel ρ nt env a→Fresh ρ H H' →
   ∃ ρ' w' a',Step ng n0 ρ H w ρ' H' w'∧EnvRel ρ' nt env' a'∧Steps P (lone (b.at a ds (.inRegion ops ((List.range ops.size).drop i) :: k)) cs w) (lone (b.at a' ds k) cs w')
 | [],i,env,env',H,H',hd,h,ρ,w,a,hr,he,hf=>by
  obtain ⟨rfl,rfl⟩:=h
  have hi:ops.size≤i:=by
   rw [List.drop_eq_nil_iff] at hd
   simpa using hd
  have:(List.range ops.size).drop i=[]:=by rw [List.drop_eq_nil_iff];simpa using hi
  rw [this]
  exact ⟨ρ,w,a,Step.refl hr,he,.one st_regionEnd⟩
 | o :: os,i,env,env',H,H',hd,h,ρ,w,a,hr,he,hf=>by
  obtain ⟨e1,H1,hstep,hrest⟩:=h
  have hi:i < ops.size:=by
   have:i < ops.toList.length:=by
    rcases Nat.lt_or_ge i ops.toList.length with q|q
    ·exact q
    ·rw [List.drop_eq_nil_iff.2 q] at hd;cases hd
   simpa using this
  have hoo:ops[i]? = some o:=by
   have:=congrArg (·[0]?) hd
   simpa using this
  have hos:ops.toList.drop (i + 1)=os:=by
   have:=congrArg List.tail hd
   simpa using this
  have hrng:(List.range ops.size).drop i=i :: (List.range ops.size).drop (i + 1):=by
   rw [List.drop_eq_getElem_cons (by simpa using hi)]
   simp
  have hmem:o∈ops.toList:=by
   have:=List.mem_of_getElem? (l:=ops.toList) (i:=i) (a:=o) (by simpa using hoo)
   exact this
  obtain ⟨k1,k2,k3⟩:=opOk_inv (hok o hmem)
  have hE:∀ x,x∈o.op.operands→VRel ρ (ev env x) (evc a x):=fun x hx=>opd_rel hr he x (k2 x hx)
  have hn:H1.n≤H'.n:=by
   have:∀ (os:List Oper) (e e':Env) (H1 H':AHeap),OpsRun P C ops os e H1 e' H'→Top H1→H1.n≤H'.n:=by
    intro os
    induction os with
    | nil=>rintro e e' H1 H' ⟨_,rfl⟩ _;exact Nat.le_refl _
    | cons o os ih =>
     rintro e e' H1 H' ⟨e2,H2,h1,h2⟩ ht
     have:=OpStep_top hT h1 ht
     exact Nat.le_trans this.2 (ih _ _ _ _ h2 this.1)
   exact this _ _ _ _ _ hrest (OpStep_top hT hstep hr.tp).1
  rw [hrng]
  rcases hstep with ⟨hw,v,hop,rfl⟩|⟨hw,rfl,rfl⟩
  ·obtain ⟨ρ1,w1,v',s1,s2,s3,_⟩:=AOp_sim hC hr hop hE (hf.left hn) (b.at a ds (.inRegion ops (i :: (List.range ops.size).drop (i + 1)) :: k)) cs
   have hl:=s1.le (hf.left hn)
   have he1:EnvRel ρ1 nt (env.set o.dst v) (Swa.setT a o.dst v'):=(he.mono hl).setT k1 s2
   have hst:=op_steps (b:=b) (ds:=ds) (k:=k) (cs:=cs) (rest:=(List.range ops.size).drop (i + 1)) hoo (by rw [wanted_rel he];exact hw) k3 s3
   obtain ⟨ρ2,w2,a2,t1,t2,t3⟩:=opsRun_sim hC hT hok os (i + 1) _ env' H1 H' hos hrest ρ1 w1 _ s1.rel he1 (hf.right s1)
   exact ⟨ρ2,w2,a2,s1.trans t1,t2,hst.trans t3⟩
  ·have he1:EnvRel ρ nt (env.set o.dst undef) (Swa.setT a o.dst undef):=he.setT k1 (undef_rel ρ)
   have hst:Steps P _ _:=.one (st_opSkip (P:=P) (b:=b) (ds:=ds) (k:=k) (cs:=cs) (w:=w) (rest:=(List.range ops.size).drop (i + 1)) hoo (by rw [wanted_rel he];exact hw))
   obtain ⟨ρ2,w2,a2,t1,t2,t3⟩:=opsRun_sim hC hT hok os (i + 1) _ env' H1 H' hos hrest ρ w _ hr he1 hf
   exact ⟨ρ2,w2,a2,t1,t2,hst.trans t3⟩
section
variable {P:Program} {ng n0 nt:Nat} {C:CallRel} {ops:Array Oper} {E:Nat→Env} {Hs:Nat→AHeap}
theorem seq_top (hT:CallTop C) (ht:Top (Hs 0)) (hstep:∀ i o,ops[i]? = some o→OpStep P C ops o (E i) (Hs i) (E (i + 1)) (Hs (i + 1))):∀ i,i≤ops.size→Top (Hs i)
 | 0,_=>ht
 | i + 1,h=>(OpStep_top hT (hstep i ops[i] (by simp)) (seq_top hT ht hstep i (by omega))).1
theorem seq_mono (hT:CallTop C) (ht:Top (Hs 0)) (hstep:∀ i o,ops[i]? = some o→OpStep P C ops o (E i) (Hs i) (E (i + 1)) (Hs (i + 1))) (i j:Nat) (hij:i≤j) (hj:j≤ops.size):(Hs i).n≤(Hs j).n:=by
 induction hij with
 | refl=>exact Nat.le_refl _
 | step h ih =>
  rename_i m
  exact Nat.le_trans (ih (by omega)) (OpStep_top hT (hstep m ops[m] (by simp)) (seq_top hT ht hstep m (by omega))).2
theorem env_eq (hstep:∀ i o,ops[i]? = some o→OpStep P C ops o (E i) (Hs i) (E (i + 1)) (Hs (i + 1))) {t:Nat}:∀ (d m:Nat),m + d≤ops.size →
  (∀ i o,ops[i]? = some o→o.dst=some t→¬ (m≤i∧i < m + d))→E (m + d) t=E m t
 | 0,m,_,_=>rfl
 | d + 1,m,h,hw=>by
  have h1:=env_eq hstep d m (by omega) (fun i o ho hd=>by have:=hw i o ho hd;omega)
  have ho:ops[m + d]? = some ops[m + d]:=by simp
  have hne:ops[m + d].dst≠some t:=fun hd=>hw (m + d) _ ho hd ⟨by omega,by omega⟩
  rw [← h1]
  have key:∀ v,((E (m + d)).set ops[m + d].dst v) t=E (m + d) t:=by
   intro v
   cases hd:ops[m + d].dst with
   | none=>rfl
   | some t' =>
    simp only [Env.set,Env.put]
    rw [if_neg]
    intro e
    rw [hd,e] at hne
    exact hne rfl
  rcases hstep (m + d) _ ho with ⟨_,v,_,he⟩|⟨_,he,_⟩
  ·show E (m + d + 1) t=_
   rw [he];exact key v
  ·show E (m + d + 1) t=_
   rw [he];exact key _
theorem env_eq' (hstep:∀ i o,ops[i]? = some o→OpStep P C ops o (E i) (Hs i) (E (i + 1)) (Hs (i + 1))) {t m m':Nat} (hm:m≤ops.size) (hm':m'≤ops.size)
  (h:∀ i o,ops[i]? = some o→o.dst=some t→(i < m↔i < m')):E m t=E m' t:=by
 rcases Nat.le_total m m' with q|q
 ·have:=env_eq hstep (t:=t) (m' - m) m (by omega) (fun i o ho hd=>by have:=h i o ho hd;omega)
  rw [show m + (m' - m)=m' from by omega] at this
  exact this.symm
 ·have:=env_eq hstep (t:=t) (m - m') m' (by omega) (fun i o ho hd=>by have:=h i o ho hd;omega)
  rw [show m' + (m - m')=m from by omega] at this
  exact this
theorem heap_eq {b:Nat}:∀ (d m:Nat),(∀ i,m≤i→i < m + d→(Hs (i + 1)).get b=(Hs i).get b)→(Hs (m + d)).get b=(Hs m).get b
 | 0,m,_=>rfl
 | d + 1,m,h=>(h (m + d) (by omega) (by omega)).trans (heap_eq d m fun i h1 h2=>h i h1 (by omega))
theorem heap_eq' {b m m' N:Nat} (hm:m≤N) (hm':m'≤N) (h:∀ i,i < N→(Hs (i + 1)).get b≠(Hs i).get b→(i < m↔i < m')):(Hs m).get b=(Hs m').get b:=by
 rcases Nat.le_total m m' with q|q
 ·have:=heap_eq (Hs:=Hs) (b:=b) (m' - m) m (fun i h1 h2=>Classical.byContradiction fun hc=>by have:=h i (by omega) hc;omega)
  rw [show m + (m' - m)=m' from by omega] at this
  exact this.symm
 ·have:=heap_eq (Hs:=Hs) (b:=b) (m - m') m' (fun i h1 h2=>Classical.byContradiction fun hc=>by have:=h i (by omega) hc;omega)
  rw [show m' + (m - m')=m from by omega] at this
  exact this
theorem simple_chg (hT:CallTop C) (ht:Top (Hs 0)) (hstep:∀ i o,ops[i]? = some o→OpStep P C ops o (E i) (Hs i) (E (i + 1)) (Hs (i + 1))) {i:Nat} {o:Oper} (ho:ops[i]? = some o) (hs:simpleOp o.op=true) :
  Hs (i + 1)=Hs i∨∃ ob,Hs (i + 1)=(Hs i).alloc ob∧SimpleObj ob∧touchBlk (E i) (Hs i) o.op=some (Hs i).n∧Region.wanted o (yieldedA ops (E i))=true:=by
 have hi:i < ops.size:=(Array.getElem?_eq_some_iff.1 ho).1
 rcases hstep i o ho with ⟨hw,v,hop,_⟩|⟨_,_,h⟩
 ·rcases AOp_cases hop with h|⟨f,args,ts,he,_⟩
  ·have htop:=seq_top hT ht hstep i (by omega)
   rcases opF_local hs h rfl (fun _ _ _=>rfl) htop htop with ⟨h1,_⟩|⟨ob,h1,_,h2,h3⟩
   ·exact .inl h1
   ·exact .inr ⟨ob,h1,h2,h3,hw⟩
  ·rw [he] at hs;simp [simpleOp] at hs
 ·exact .inl h
theorem pair_inv (hdr:drawOk ops=true) {i j:Nat} {oi oj:Oper} (hi:ops[i]? = some oi) (hj:ops[j]? = some oj) (hne:i≠j) :
  isAnc ops i j=true∨isAnc ops j i=true ∨
  ((simpleOp oi.op=true∨simpleOp oj.op=true)∧(∀ t,oi.dst=some t→t∉namesOf ops oj)∧(∀ t,oj.dst=some t→t∉namesOf ops oi)):=by
 have hli:i < ops.size:=(Array.getElem?_eq_some_iff.1 hi).1
 have hlj:j < ops.size:=(Array.getElem?_eq_some_iff.1 hj).1
 unfold drawOk at hdr
 simp only [Bool.and_eq_true,List.all_eq_true,List.mem_range] at hdr
 have main:∀ a b oa ob,ops[a]? = some oa→ops[b]? = some ob→a < b→b < ops.size→isAnc ops a b=true ∨
   ((simpleOp oa.op=true∨simpleOp ob.op=true)∧(∀ t,oa.dst=some t→t∉namesOf ops ob)∧(∀ t,ob.dst=some t→t∉namesOf ops oa)):=by
  intro a b oa ob ha hb hab hbs
  have:=hdr.2 b hbs a hab
  unfold pairOk at this
  simp only [ha,hb,Bool.or_eq_true,Bool.and_eq_true] at this
  rcases this with q|⟨⟨q1,q2⟩,q3⟩
  ·exact .inl q
  ·refine .inr ⟨q1,fun t e=>?_,fun t e=>?_⟩
   ·rw [e] at q2;simpa using q2
   ·rw [e] at q3;simpa using q3
 rcases Nat.lt_or_ge i j with q|q
 ·rcases main i j oi oj hi hj q hlj with h|h
  ·exact .inl h
  ·exact .inr (.inr h)
 ·rcases main j i oj oi hj hi (by omega) hli with h|⟨h1,h2,h3⟩
  ·exact .inr (.inl h)
  ·exact .inr (.inr ⟨h1.symm,h3,h2⟩)
structure Inv (ng n0 nt:Nat) (ops:Array Oper) (E:Nat→Env) (Hs:Nat→AHeap) (ρ0:Ren) (w0:World) (S:Nat→Prop) (ρ:Ren) (a:Array Value) (w:World):Prop where
 env:∀ t,∃ m,m≤ops.size∧VRel ρ (E m t) (a.getD t undef)∧∀ i o,ops[i]? = some o→o.dst=some t→(S i↔i < m)
 size:a.size=nt
 heap:∀ b im,ρ b=some im→b < (Hs ops.size).n→∃ m,m≤ops.size∧BlkRel ρ w ((Hs m).get b) im∧∀ i,i < ops.size→(Hs (i + 1)).get b≠(Hs i).get b→(S i↔i < m)
 dom:∀ b im,ρ b=some im→(Hs 0).n≤b→b < (Hs ops.size).n→∃ i,i < ops.size∧S i∧(Hs i).n≤b∧b < (Hs (i + 1)).n
 simp:∀ b im i o,ρ b=some im→ops[i]? = some o→simpleOp o.op=true→(Hs i).n≤b→b < (Hs (i + 1)).n→im.gr=false∧im.ro=false
 closed:∀ i j,S j→isAnc ops i j=true→S i
 apart:∀ b₁ b₂ i₁ i₂,ρ b₁=some i₁→ρ b₂=some i₂→b₁≠b₂→i₁.blk=i₂.blk→(i₁.ro=true∧i₂.ro=true)∨(i₁.gr=true∧i₂.gr=true∧i₁.grp=i₂.grp)
 fresh:∀ b im,ρ b=some im→im.ro=false→n0≤im.blk
 there:∀ b im,ρ b=some im→im.blk < w.heap.size
 wsize:n0≤w.heap.size
 glob:∀ g,g < ng→∃ im,ρ g=some im∧im.blk=g∧im.base=0
 ext:∀ b,b < (Hs 0).n∨(Hs ops.size).n≤b→ρ b=ρ0 b
 frame:∀ cb,cb < w0.heap.size→¬ Owned ρ0 (Hs 0).n cb→w.heap[cb]? = w0.heap[cb]?
 own:∀ b im,ρ b=some im→(Hs 0).n≤b→b < (Hs ops.size).n→w0.heap.size≤im.blk∨(im.ro=false∧Owned ρ0 (Hs 0).n im.blk)
 wsz:w0.heap.size≤w.heap.size
 os:w.os=w0.os
 tape:w.tape=w0.tape
 output:w.output=w0.output
theorem inv_end {ρ0 ρ:Ren} {w0 w:World} {S:Nat→Prop} {a:Array Value} (hT:CallTop C) (ht:Top (Hs 0)) (hstep:∀ i o,ops[i]? = some o→OpStep P C ops o (E i) (Hs i) (E (i + 1)) (Hs (i + 1)))
  (h:Inv ng n0 nt ops E Hs ρ0 w0 S ρ a w) (hS:∀ i,i < ops.size→S i):Step ng n0 ρ0 (Hs 0) w0 ρ (Hs ops.size) w∧EnvRel ρ nt (E ops.size) a:=by
 refine ⟨⟨h.ext,seq_mono hT ht hstep 0 ops.size (by omega) (Nat.le_refl _),⟨?_,h.apart,h.fresh,h.there,h.wsize,h.glob,(seq_top hT ht hstep _ (Nat.le_refl _)).1,(seq_top hT ht hstep _ (Nat.le_refl _)).2⟩,h.frame,h.own,h.wsz,h.os,h.tape,h.output⟩,h.size, ?_⟩
 ·intro b im e hb
  obtain ⟨m,hm,hbr,hc⟩:=h.heap b im e hb
  have:(Hs m).get b=(Hs ops.size).get b:=heap_eq' hm (Nat.le_refl _) fun i hi hch=>by
   have:=hc i hi hch
   have:=hS i hi
   simp_all
  rw [← this];exact hbr
 ·intro t
  obtain ⟨m,hm,hv,hc⟩:=h.env t
  have:E m t=E ops.size t:=env_eq' hstep hm (Nat.le_refl _) fun i o ho hd=>by
   have hi:i < ops.size:=(Array.getElem?_eq_some_iff.1 ho).1
   have:=hc i o ho hd
   have:=hS i hi
   simp_all
  rw [← this];exact hv
theorem inv_start {ρ0:Ren} {w0:World} {a:Array Value} (hT:CallTop C) (ht:Top (Hs 0)) (hstep:∀ i o,ops[i]? = some o→OpStep P C ops o (E i) (Hs i) (E (i + 1)) (Hs (i + 1))) (hr:Rel ng n0 ρ0 (Hs 0) w0) (he:EnvRel ρ0 nt (E 0) a) (hf:Fresh ρ0 (Hs 0) (Hs ops.size)) :
  Inv ng n0 nt ops E Hs ρ0 w0 (fun _=>False) ρ0 a w0 where
 env t:=⟨0,Nat.zero_le _,he.2 t,fun i o _ _=>by simp⟩
 size:=he.1
 heap b im e hb:=by
  have hb0:b < (Hs 0).n:=by
   rcases Nat.lt_or_ge b (Hs 0).n with q|q
   ·exact q
   ·rw [hf b q hb] at e;cases e
  exact ⟨0,Nat.zero_le _,hr.blk b im e hb0,fun i _ _=>by simp⟩
 dom b im e h1 h2:=by rw [hf b h1 h2] at e;cases e
 simp b im i o e ho hs h1 h2:=by
  have hi:i < ops.size:=(Array.getElem?_eq_some_iff.1 ho).1
  have m1:=seq_mono hT ht hstep 0 i (by omega) (by omega)
  have m2:=seq_mono hT ht hstep (i + 1) ops.size (by omega) (Nat.le_refl _)
  rw [hf b (by omega) (by omega)] at e;cases e
 closed i j h _:=h
 apart:=hr.apart
 fresh:=hr.fresh
 there:=hr.there
 wsize:=hr.size
 glob:=hr.glob
 ext _ _:=rfl
 frame _ _ _:=rfl
 own b im e h1 h2:=by rw [hf b h1 h2] at e;cases e
 wsz:=Nat.le_refl _
 os:=rfl
 tape:=rfl
 output:=rfl
theorem getD_set_ne {a:Array Value} {d t:Nat} (h:d≠t) (v u:Value):(a.setIfInBounds d v).getD t u=a.getD t u:=by
 rw [Array.getD_eq_getD_getElem?,Array.getD_eq_getD_getElem?,Array.getElem?_setIfInBounds_ne h]
theorem inv_step (hC:CallSim P ng C) (hT:CallTop C) (ht:Top (Hs 0)) (hstep:∀ i o,ops[i]? = some o→OpStep P C ops o (E i) (Hs i) (E (i + 1)) (Hs (i + 1))) (ni:NI ops E Hs)
  (hok:∀ o,o∈ops.toList→opOk ng nt o=true) (hdr:drawOk ops=true) {b:FB} {ds:List Deferred} {k:List Item} {cs:List Frame}
  {ρ0 ρ:Ren} {w0 w:World} {S:Nat→Prop} {a:Array Value} (h:Inv ng n0 nt ops E Hs ρ0 w0 S ρ a w) {j:Nat} {o:Oper} (ho:ops[j]? = some o) (hj:¬ S j) (hanc:∀ i,isAnc ops i j=true→S i) (rest:List Nat) :
  ∃ ρ' a' w',Inv ng n0 nt ops E Hs ρ0 w0 (fun i=>S i∨i=j) ρ' a' w' ∧
   Steps P (lone (b.at a ds (.inRegion ops (j :: rest) :: k)) cs w) (lone (b.at a' ds (.inRegion ops rest :: k)) cs w'):=by
 have hjs:j < ops.size:=(Array.getElem?_eq_some_iff.1 ho).1
 have hmem:o∈ops.toList:=List.mem_of_getElem? (l:=ops.toList) (i:=j) (a:=o) (by simpa using ho)
 obtain ⟨k1,k2,k3⟩:=opOk_inv (hok o hmem)
 have mono:=seq_mono hT ht hstep
 have top:=seq_top hT ht hstep
 -- ordered pairs
 have ordS:∀ i,i≠j→(isAnc ops i j=true∨isAnc ops j i=true)→(∃ oi,ops[i]? = some oi)→(S i↔i < j):=by
  rintro i hne (hh|hh) ⟨oi,hoi⟩
  ·have:=isAnc_lt (by unfold drawOk at hdr;simp only [Bool.and_eq_true] at hdr;exact hdr.1) j ho i hh
   exact ⟨fun _=>this,fun _=>hanc i hh⟩
  ·have:=isAnc_lt (by unfold drawOk at hdr;simp only [Bool.and_eq_true] at hdr;exact hdr.1) i hoi j hh
   exact ⟨fun hs=>absurd (h.closed j i hs hh) hj,fun hl=>by omega⟩
 -- names that j reads or writes
 have nameS:∀ t,t∈namesOf ops o→∀ i oi,ops[i]? = some oi→oi.dst=some t→(S i↔i < j):=by
  intro t htn i oi hoi hd
  by_cases hne:i=j
  ·subst hne;exact ⟨fun hs=>absurd hs hj,fun hl=>by omega⟩
  ·rcases pair_inv hdr hoi ho hne with q|q|⟨_,q,_⟩
   ·exact ordS i hne (.inl q) ⟨oi,hoi⟩
   ·exact ordS i hne (.inr q) ⟨oi,hoi⟩
   ·exact absurd htn (q t hd)
 have nameV:∀ t,t∈namesOf ops o→VRel ρ (E j t) (a.getD t undef):=by
  intro t htn
  obtain ⟨m,hm,hv,hc⟩:=h.env t
  have:E m t=E j t:=env_eq' hstep hm (by omega) fun i oi hoi hd=>by
   have:=hc i oi hoi hd
   have:=nameS t htn i oi hoi hd
   simp_all
  rw [← this];exact hv
 -- an environment that is right everywhere
 obtain ⟨env,henv,hname⟩:∃ env:Env,EnvRel ρ nt env a∧∀ t,t∈namesOf ops o→env t=E j t:=by
  refine ⟨fun t=>if t∈namesOf ops o then E j t else E (Classical.choose (h.env t)) t,⟨h.size,fun t=>?_⟩,fun t ht=>by simp [ht]⟩
  by_cases htn:t∈namesOf ops o
  ·simp only [htn,if_true];exact nameV t htn
  ·simp only [htn,if_false]
   exact (Classical.choose_spec (h.env t)).2.1
 have hwant:Region.wanted o (yielded ops a)=Region.wanted o (yieldedA ops (E j)):=by
  rw [wanted_rel henv]
  unfold Region.wanted
  cases hg:o.guard with
  | none=>rfl
  | some gw =>
   obtain ⟨g,want⟩:=gw
   simp only
   have:yieldedA ops env g=yieldedA ops (E j) g:=by
    unfold yieldedA
    cases hgo:ops[g]? with
    | none=>rfl
    | some og =>
     simp only [Option.bind_some]
     cases hd:og.dst with
     | none=>rfl
     | some d =>
      simp only
      rw [hname d (by unfold namesOf;simp [hg,hgo,hd])]
   rw [this]
 -- the blocks, as j sees them
 have blkS:∀ b im,ρ b=some im→b < (Hs j).n→(simpleOp o.op=false∨(simpleOp o.op=true∧Region.wanted o (yieldedA ops (E j))=true∧touchBlk (E j) (Hs j) o.op=some b)) →
   ∀ i,i < ops.size→(Hs (i + 1)).get b≠(Hs i).get b→(S i↔i < j):=by
  intro b im hb hbn hcs i hi hch
  have hoi:ops[i]? = some ops[i]:=by simp
  by_cases hne:i=j
  ·subst hne;exact ⟨fun hs=>absurd hs hj,fun hl=>by omega⟩
  ·by_cases hsi:simpleOp ops[i].op=true
   ·rcases simple_chg hT ht hstep hoi hsi with q|⟨ob,q,_,_,_⟩
    ·rw [q] at hch;exact absurd rfl hch
    ·have hbi:b=(Hs i).n:=by
      rw [q] at hch
      simp only [AHeap.alloc] at hch
      by_cases hbe:b=(Hs i).n
      ·exact hbe
      ·rw [if_neg hbe] at hch;exact absurd rfl hch
     have hn1:(Hs (i + 1)).n=(Hs i).n + 1:=by rw [q];rfl
     have h0i:=mono 0 i (by omega) (by omega)
     have hjN:=mono j ops.size (by omega) (Nat.le_refl _)
     obtain ⟨i',hi',hSi',hr1,hr2⟩:=h.dom b im hb (by omega) (by omega)
     have hii:i'=i:=by
      rcases Nat.lt_trichotomy i' i with q1|q1|q1
      ·have:=mono (i' + 1) i (by omega) (by omega);omega
      ·exact q1
      ·have:=mono (i + 1) i' (by omega) (by omega);omega
     subst hii
     refine ⟨fun _=>?_,fun _=>hSi'⟩
     rcases Nat.lt_or_ge i' j with q1|q1
     ·exact q1
     ·have:=mono j i' q1 (by omega);omega
   ·rcases pair_inv hdr hoi ho hne with q|q|⟨q,_,_⟩
    ·exact ordS i hne (.inl q) ⟨_,hoi⟩
    ·exact ordS i hne (.inr q) ⟨_,hoi⟩
    ·by_cases ho1:isAnc ops i j=true
     ·exact ordS i hne (.inl ho1) ⟨_,hoi⟩
     ·by_cases ho2:isAnc ops j i=true
      ·exact ordS i hne (.inr ho2) ⟨_,hoi⟩
      ·rcases hcs with hcs|⟨hcs,hw,htb⟩
       ·rcases q with q|q
        ·exact absurd q hsi
        ·rw [hcs] at q;cases q
       ·exact absurd (ni j i o ops[i] ho hoi (by simpa using ho2) (by simpa using ho1) hcs (by simpa using hsi) hw b htb) hch
 have freshJ:Fresh ρ (Hs j) (Hs (j + 1)):=by
  intro b h1 h2
  cases hb:ρ b with
  | none=>rfl
  | some im =>
   exfalso
   have h0j:=mono 0 j (by omega) (by omega)
   have hjN:=mono (j + 1) ops.size (by omega) (Nat.le_refl _)
   obtain ⟨i,hi,hSi,hr1,hr2⟩:=h.dom b im hb (by omega) (by omega)
   have hii:i=j:=by
    rcases Nat.lt_trichotomy i j with q1|q1|q1
    ·have:=mono (i + 1) j (by omega) (by omega);omega
    ·exact q1
    ·have:=mono (j + 1) i (by omega) (by omega);omega
   subst hii
   exact hj hSi
 -- what becomes of the names
 have envJ:∀ (ρ':Ren) (v v':Value),Le ρ ρ'→VRel ρ' v v'→E (j + 1)=(E j).set o.dst v→∀ t,∃ m,m≤ops.size∧VRel ρ' (E m t) ((setT a o.dst v').getD t undef) ∧
   ∀ i oi,ops[i]? = some oi→oi.dst=some t→((S i∨i=j)↔i < m):=by
  intro ρ' v v' hle hv hE1 t
  by_cases hd:o.dst=some t
  ·refine ⟨j + 1,by omega, ?_,fun i oi hoi hdi=>?_⟩
   ·have htl:t < a.size:=by rw [h.size];exact k1 t hd
    rw [hE1,hd]
    simp [Env.set,Env.put,setT,Array.getD,htl,hv]
   ·by_cases hne:i=j
    ·subst hne;exact ⟨fun _=>by omega,fun _=>.inr rfl⟩
    ·have:=nameS t (by unfold namesOf;simp [hd]) i oi hoi hdi
     constructor
     ·rintro (q|q)
      ·have:=this.1 q;omega
      ·exact absurd q hne
     ·intro q;exact .inl (this.2 (by omega))
  ·obtain ⟨m,hm,hvm,hc⟩:=h.env t
   refine ⟨m,hm, ?_,fun i oi hoi hdi=>?_⟩
   ·have:(setT a o.dst v').getD t undef=a.getD t undef:=by
     cases hdd:o.dst with
     | none=>rfl
     | some d =>
      have hdt:d≠t:=fun e=>hd (by rw [hdd,e])
      exact getD_set_ne hdt _ _
    rw [this];exact hvm.mono hle
   ·have hne:i≠j:=by
     intro e
     subst e
     rw [ho] at hoi
     cases hoi
     exact hd hdi
    have:=hc i oi hoi hdi
    constructor
    ·rintro (q|q)
     ·exact this.1 q
     ·exact absurd q hne
    ·intro q;exact .inl (this.2 q)
 have closedJ:∀ i i',(S i'∨i'=j)→isAnc ops i i'=true→(S i∨i=j):=by
  rintro i i' (q|rfl) ha
  ·exact .inl (h.closed i i' q ha)
  ·exact .inl (hanc i ha)
 rcases hstep j o ho with ⟨hw,v,hop,hE1⟩|⟨hw,hE1,hH1⟩
 ·have hw':Region.wanted o (yielded ops a)=true:=by rw [hwant];exact hw
  have hjj:(Hs j).n≤(Hs (j + 1)).n:=mono j (j + 1) (by omega) (by omega)
  -- the world as an abstract heap
  obtain ⟨Ht,hHn,hHtop,hHrel,hHsame⟩:∃ Ht:AHeap,Ht.n=(Hs j).n∧Top Ht∧Rel ng n0 ρ Ht w ∧
    ∀ b,b < (Hs j).n→(simpleOp o.op=false∨(simpleOp o.op=true∧Region.wanted o (yieldedA ops (E j))=true∧touchBlk (E j) (Hs j) o.op=some b))→Ht.get b=(Hs j).get b:=by
   have hex:∀ b,∃ ob:AObj,((Hs j).n≤b→ob=.dead)∧ob.low b∧(b < (Hs j).n→(∀ im,ρ b=some im→BlkRel ρ w ob im) ∧
     ((simpleOp o.op=false∨(simpleOp o.op=true∧Region.wanted o (yieldedA ops (E j))=true∧touchBlk (E j) (Hs j) o.op=some b))→ob=(Hs j).get b)):=by
    intro b
    by_cases hb:b < (Hs j).n
    ·cases e:ρ b with
     | none=>exact ⟨(Hs j).get b,fun q=>absurd q (by omega),(seq_top hT ht hstep j (by omega)).2 b,fun _=>⟨fun im q=>by simp at q,fun _=>rfl⟩⟩
     | some im =>
      have hjN:=mono j ops.size (by omega) (Nat.le_refl _)
      obtain ⟨m,hm,hbr,hc⟩:=h.heap b im e (by omega)
      refine ⟨(Hs m).get b,fun q=>absurd q (by omega),(seq_top hT ht hstep m (by omega)).2 b,fun _=>⟨fun im' q=>by cases q;exact hbr,fun hcs=>?_⟩⟩
      exact heap_eq' (N:=ops.size) hm (by omega) fun i hi hch=>(hc i hi hch).symm.trans (blkS b im e hb hcs i hi hch)
    ·exact ⟨.dead,fun _=>rfl,(by intro c T g e l q;cases q),fun q=>absurd q hb⟩
   obtain ⟨g,hg⟩:=Classical.axiomOfChoice hex
   exact ⟨⟨(Hs j).n,g⟩,rfl,⟨fun b hb=>(hg b).1 hb,fun b=>(hg b).2.1⟩,⟨fun b im e hb=>((hg b).2.2 hb).1 im e,h.apart,h.fresh,h.there,h.wsize,h.glob,fun b hb=>(hg b).1 hb,fun b=>(hg b).2.1⟩,fun b hb hcs=>((hg b).2.2 hb).2 hcs⟩
  have hE:∀ x,x∈o.op.operands→VRel ρ (ev (E j) x) (evc a x):=by
   intro x hx
   have hk:=k2 x hx
   cases x with
   | tmp t =>
    refine nameV t ?_
    unfold namesOf
    simp only [List.mem_append,List.mem_filterMap]
    exact .inl (.inr ⟨.tmp t,by simpa using hx,rfl⟩)
   | const v=>exact opd_rel hHrel henv (.const v) hk
   | global g=>exact opd_rel hHrel henv (.global g) hk
   | func f=>exact opd_rel hHrel henv (.func f) hk
  by_cases hsimp:simpleOp o.op=true
  ·-- a simple one
   rcases AOp_cases hop with hF|⟨f,args,ts,he,_⟩
   rotate_left
   ·rw [he] at hsimp;simp [simpleOp] at hsimp
   have hloc:=opF_local hsimp hF hHn (fun b hb hbn=>hHsame b hbn (.inr ⟨hsimp,hw,hb⟩)) (top j (by omega)) hHtop
   obtain ⟨Ht',hF',hn',hob⟩:∃ Ht',opF P (E j) o Ht=some (v,Ht')∧Ht'.n=(Hs (j + 1)).n ∧
     (Hs (j + 1)=Hs j∨∃ ob,Hs (j + 1)=(Hs j).alloc ob∧Ht'=Ht.alloc ob∧SimpleObj ob∧touchBlk (E j) (Hs j) o.op=some (Hs j).n):=by
    rcases hloc with ⟨h1,h2⟩|⟨ob,h1,h2,h3,h4⟩
    ·exact ⟨Ht,h2,by rw [hHn,h1],.inl h1⟩
    ·exact ⟨Ht.alloc ob,h2,by rw [h1];simp [AHeap.alloc,hHn],.inr ⟨ob,h1,rfl,h3,h4⟩⟩
   have hfr:Fresh ρ Ht Ht':=fun b q1 q2=>freshJ b (by omega) (by omega)
   obtain ⟨nx,w',v',ρ',e1,e2,e3,e4,e5⟩:=op_sim hHrel hF' hE hfr
   have hle:=e3.le hfr
   have hold:=e5 hsimp
   have hsteps:=op_steps (b:=b) (ds:=ds) (k:=k) (cs:=cs) (rest:=rest) ho hw' k3 (.inl ⟨nx,e1,e2⟩)
   have hρ:∀ b im,ρ' b=some im→b≠(Hs j).n∨Hs (j + 1)=Hs j→ρ b=some im:=by
    intro b im e hb
    rw [← e3.ext b ?_]
    ·exact e
    ·rw [hHn,hn']
     rcases hob with q|⟨ob,q,_⟩
     ·rw [q];omega
     ·have hnn:(Hs (j + 1)).n=(Hs j).n + 1:=by rw [q];rfl
      rw [hnn]
      rcases hb with hb|hb
      ·omega
      ·rw [hb] at hnn;omega
   have hjN:=mono (j + 1) ops.size (by omega) (Nat.le_refl _)
   have h0j:=mono 0 j (by omega) (by omega)
   have newS:∀ i,i < ops.size→(Hs (j + 1))≠Hs j→(Hs (i + 1)).get (Hs j).n≠(Hs i).get (Hs j).n→((S i∨i=j)↔i < j + 1):=by
    intro i hi hne1 hch
    rcases hob with q|⟨ob,q,_,_,htb⟩
    ·exact absurd q hne1
    have hoi:ops[i]? = some ops[i]:=by simp
    by_cases hne:i=j
    ·subst hne;exact ⟨fun _=>by omega,fun _=>.inr rfl⟩
    ·have hnj:(Hs (j + 1)).n=(Hs j).n + 1:=by rw [q];rfl
     have hnot:¬ i < j:=by
      intro hl
      have:=mono (i + 1) j (by omega) (by omega)
      have t1:=(top (i + 1) (by omega)).1 (Hs j).n (by omega)
      have t2:=(top i (by omega)).1 (Hs j).n (by have:=mono i j (by omega) (by omega);omega)
      rw [t1,t2] at hch
      exact hch rfl
     have hns:¬ S i:=by
      intro hs
      by_cases ho2:isAnc ops j i=true
      ·exact hj (h.closed j i hs ho2)
      by_cases ho1:isAnc ops i j=true
      ·exact hnot (isAnc_lt (by unfold drawOk at hdr;simp only [Bool.and_eq_true] at hdr;exact hdr.1) j ho i ho1)
      by_cases hsi:simpleOp ops[i].op=true
      ·rcases simple_chg hT ht hstep hoi hsi with q2|⟨ob2,q2,_,_,_⟩
       ·rw [q2] at hch;exact hch rfl
       ·rw [q2] at hch
        simp only [AHeap.alloc] at hch
        have hbe:(Hs j).n=(Hs i).n:=by
         by_cases hbe:(Hs j).n=(Hs i).n
         ·exact hbe
         ·rw [if_neg hbe] at hch;exact absurd rfl hch
        have:=mono (j + 1) i (by omega) (by omega)
        omega
      ·exact hch (ni j i o ops[i] ho hoi (by simpa using ho2) (by simpa using ho1) hsimp (by simpa using hsi) hw _ htb)
     constructor
     ·rintro (q1|q1)
      ·exact absurd q1 hns
      ·exact absurd q1 hne
     ·intro q1;omega
   have oldS:∀ b m,(∀ i,i < ops.size→(Hs (i + 1)).get b≠(Hs i).get b→(S i↔i < m))→(b≠(Hs j).n∨Hs (j + 1)=Hs j)→∀ i,i < ops.size→(Hs (i + 1)).get b≠(Hs i).get b→((S i∨i=j)↔i < m):=by
    intro b m hc hb i hi hch
    have hne:i≠j:=by
     intro e';subst e'
     rcases hob with q|⟨ob,q,_⟩
     ·rw [q] at hch;exact hch rfl
     ·rw [q] at hch
      simp only [AHeap.alloc] at hch
      rcases hb with hb|hb
      ·rw [if_neg hb] at hch;exact hch rfl
      ·rw [q] at hb;have:=congrArg AHeap.n hb;simp [AHeap.alloc] at this
    have:=hc i hi hch
    constructor
    ·rintro (q|q)
     ·exact this.1 q
     ·exact absurd q hne
    ·intro q;exact .inl (this.2 q)
   refine ⟨ρ',setT a o.dst v',w', ?_,hsteps⟩
   refine ⟨envJ ρ' v v' hle e4 hE1, ?_, ?_, ?_, ?_,closedJ,e3.rel.apart,e3.rel.fresh,e3.rel.there,e3.rel.size,e3.rel.glob, ?_, ?_, ?_,Nat.le_trans h.wsz e3.size,e3.os.trans h.os,e3.tape.trans h.tape,e3.output.trans h.output⟩
   ·cases hd:o.dst <;> simp [setT,h.size]
   ·intro b im e hb
    by_cases hb0:b≠(Hs j).n∨Hs (j + 1)=Hs j
    ·have e':=hρ b im e hb0
     obtain ⟨m,hm,hbr,hc⟩:=h.heap b im e' hb
     exact ⟨m,hm,hbr.mono hle (hold _ (h.there b im e')),oldS b m hc hb0⟩
    ·have hb1:b=(Hs j).n:=Classical.byContradiction fun hh=>hb0 (.inl hh)
     have hb2:¬ Hs (j + 1)=Hs j:=fun hh=>hb0 (.inr hh)
     rcases hob with q|⟨ob,q,q2,_⟩
     ·exact absurd q hb2
     subst hb1
     refine ⟨j + 1,by omega, ?_,fun i hi hch=>newS i hi hb2 hch⟩
     have hbr:=e3.rel.blk (Hs j).n im e (by rw [hn',q];simp [AHeap.alloc])
     have g1:Ht'.get (Hs j).n=ob:=by rw [q2];simp [AHeap.alloc,hHn]
     have g2:(Hs (j + 1)).get (Hs j).n=ob:=by rw [q];simp [AHeap.alloc]
     rw [g1] at hbr
     rw [g2];exact hbr
   ·intro b im e h1 h2
    by_cases hb0:b≠(Hs j).n∨Hs (j + 1)=Hs j
    ·obtain ⟨i,a1,a2,a3⟩:=h.dom b im (hρ b im e hb0) h1 h2
     exact ⟨i,a1,.inl a2,a3⟩
    ·have hb1:b=(Hs j).n:=Classical.byContradiction fun hh=>hb0 (.inl hh)
     have hb2:¬ Hs (j + 1)=Hs j:=fun hh=>hb0 (.inr hh)
     rcases hob with q|⟨ob,q,q2,_⟩
     ·exact absurd q hb2
     ·exact ⟨j,hjs,.inr rfl,by omega,by rw [hb1,q];simp [AHeap.alloc]⟩
   ·intro b im i oi e hoi hsi h1 h2
    by_cases hb0:b≠(Hs j).n∨Hs (j + 1)=Hs j
    ·exact h.simp b im i oi (hρ b im e hb0) hoi hsi h1 h2
    ·have hb1:b=(Hs j).n:=Classical.byContradiction fun hh=>hb0 (.inl hh)
     have hb2:¬ Hs (j + 1)=Hs j:=fun hh=>hb0 (.inr hh)
     rcases hob with q|⟨ob,q,q2,q3,_⟩
     ·exact absurd q hb2
     subst hb1
     have hbr:=e3.rel.blk (Hs j).n im e (by rw [hn',q];simp [AHeap.alloc])
     have g1:Ht'.get (Hs j).n=ob:=by rw [q2];simp [AHeap.alloc,hHn]
     rw [g1] at hbr
     cases ob with
     | cells c T k' =>
      cases k' with
      | ex=>exact ⟨hbr.1.2,hbr.1.1⟩
      | ro=>exact q3.elim
      | gr _ _ _=>exact q3.elim
     | map es=>exact ⟨hbr.2.1,hbr.1⟩
     | iter s p=>exact ⟨hbr.2.1,hbr.1⟩
     | dead=>exact q3.elim
     | loop _ _ _ _ _ _ _=>exact q3.elim
   ·intro b hb
    rw [e3.ext b (by rw [hHn,hn'];omega)]
    exact h.ext b hb
   ·intro cb hc ho'
    rw [hold cb (by have:=h.wsz;omega)]
    exact h.frame cb hc ho'
   ·intro b im e h1 h2
    by_cases hb0:b≠(Hs j).n∨Hs (j + 1)=Hs j
    ·exact h.own b im (hρ b im e hb0) h1 h2
    ·have hb1:b=(Hs j).n:=Classical.byContradiction fun hh=>hb0 (.inl hh)
     have hb2:¬ Hs (j + 1)=Hs j:=fun hh=>hb0 (.inr hh)
     rcases hob with q|⟨ob,q,q2,q3,_⟩
     ·exact absurd q hb2
     have hw0:=h.wsz
     rcases e3.img b im e (by omega) (by rw [hn',q,hb1];simp [AHeap.alloc]) with hh|⟨hro,b2,im2,a1,a2,a3,a4⟩
     ·exact .inl (by omega)
     ·rw [hHn] at a2
      by_cases hb3:b2 < (Hs 0).n
      ·rw [h.ext b2 (.inl hb3)] at a1
       exact .inr ⟨hro,b2,im2,a1,hb3,a3,a4⟩
      ·rcases h.own b2 im2 a1 (by omega) (by omega) with hh|⟨_,hh⟩
       ·exact .inl (by omega)
       ·rw [a3] at hh;exact .inr ⟨hro,hh⟩
  ·-- one that acts
   have hsf:simpleOp o.op=false:=by simpa using hsimp
   have hHeq:Ht=Hs j:=by
    have:Ht.get=(Hs j).get:=by
     funext b
     by_cases hb:b < (Hs j).n
     ·exact hHsame b hb (.inl hsf)
     ·rw [hHtop.1 b (by omega),(top j (by omega)).1 b (by omega)]
    cases Ht
    simp only at hHn this
    rw [hHn,this]
   rw [hHeq] at hHrel
   obtain ⟨ρ',w',v',e3,e4,e5,_⟩:=AOp_sim hC hHrel hop hE freshJ (b.at a ds (.inRegion ops (j :: rest) :: k)) cs
   have hle:=e3.le freshJ
   have hsteps:=op_steps (b:=b) (ds:=ds) (k:=k) (cs:=cs) (rest:=rest) ho hw' k3 e5
   have hjN:=mono (j + 1) ops.size (by omega) (Nat.le_refl _)
   have h0j:=mono 0 j (by omega) (by omega)
   have hback:=(show edgesBack ops=true by unfold drawOk at hdr;simp only [Bool.and_eq_true] at hdr;exact hdr.1)
   -- effects are ordered
   have effS:∀ i (hi:i < ops.size),i≠j→simpleOp ops[i].op=false→(S i↔i < j):=by
    intro i hi hne hsi
    have hoi:ops[i]? = some ops[i]:=by simp
    rcases pair_inv hdr hoi ho hne with q|q|⟨q,_,_⟩
    ·exact ordS i hne (.inl q) ⟨_,hoi⟩
    ·exact ordS i hne (.inr q) ⟨_,hoi⟩
    ·rcases q with q|q
     ·rw [hsi] at q;cases q
     ·rw [hsf] at q;cases q
   have newS:∀ b im,ρ' b=some im→b < (Hs (j + 1)).n→∀ i,i < ops.size→(Hs (i + 1)).get b≠(Hs i).get b→((S i∨i=j)↔i < j + 1):=by
    intro b im e hb i hi hch
    by_cases hne:i=j
    ·subst hne;exact ⟨fun _=>by omega,fun _=>.inr rfl⟩
    have hiff:S i↔i < j:=by
     by_cases hbj:b < (Hs j).n
     ·rw [e3.ext b (.inl hbj)] at e
      exact blkS b im e hbj (.inl hsf) i hi hch
     ·have hoi:ops[i]? = some ops[i]:=by simp
      by_cases hsi:simpleOp ops[i].op=true
      ·exfalso
       rcases simple_chg hT ht hstep hoi hsi with q2|⟨ob2,q2,_,_,_⟩
       ·rw [q2] at hch;exact hch rfl
       ·rw [q2] at hch
        simp only [AHeap.alloc] at hch
        have hbe:b=(Hs i).n:=by
         by_cases hbe:b=(Hs i).n
         ·exact hbe
         ·rw [if_neg hbe] at hch;exact absurd rfl hch
        have hnn:(Hs (i + 1)).n=(Hs i).n + 1:=by rw [q2];rfl
        rcases Nat.lt_or_ge i j with q1|q1
        ·have:=mono (i + 1) j (by omega) (by omega);omega
        ·have:=mono (j + 1) i (by omega) (by omega);omega
      ·have:=effS i hi hne (by simpa using hsi)
       refine ⟨this.1,this.2⟩
    constructor
    ·rintro (q|q)
     ·have:=hiff.1 q;omega
     ·exact absurd q hne
    ·intro q;exact .inl (hiff.2 (by omega))
   have lateG:∀ b im,ρ b=some im→(Hs (j + 1)).n≤b→b < (Hs ops.size).n→w'.heap[im.blk]? = w.heap[im.blk]?:=by
    intro b im e h1 h2
    obtain ⟨i,hi,hSi,hr1,hr2⟩:=h.dom b im e (by omega) h2
    have hij:j < i:=by
     rcases Nat.lt_or_ge j i with q|q
     ·exact q
     ·rcases Nat.lt_or_ge i j with q1|q1
      ·have:=mono (i + 1) j (by omega) (by omega);omega
      ·have:i=j:=by omega
       subst this;exact absurd hSi hj
    have hsi:simpleOp ops[i].op=true:=by
     cases hq:simpleOp ops[i].op with
     | true=>rfl
     | false =>
      have:=(effS i hi (by omega) hq).1 hSi
      omega
    obtain ⟨g1,g2⟩:=h.simp b im i ops[i] e (by simp) hsi hr1 hr2
    refine e3.frame im.blk (h.there b im e) fun hown=>?_
    obtain ⟨b2,im2,a1,a2,a3,a4⟩:=hown
    rcases h.apart b b2 im im2 e a1 (by omega) a3.symm with ⟨q,_⟩|⟨q,_⟩
    ·rw [g2] at q;cases q
    ·rw [g1] at q;cases q
   have hρ:∀ b im,ρ' b=some im→(b < (Hs j).n∨(Hs (j + 1)).n≤b)→ρ b=some im:=fun b im e hb=>by rw [← e3.ext b hb];exact e
   refine ⟨ρ',setT a o.dst v',w', ?_,hsteps⟩
   refine ⟨envJ ρ' v v' hle e4 hE1, ?_, ?_, ?_, ?_,closedJ,e3.rel.apart,e3.rel.fresh,e3.rel.there,e3.rel.size,e3.rel.glob, ?_, ?_, ?_,Nat.le_trans h.wsz e3.size,e3.os.trans h.os,e3.tape.trans h.tape,e3.output.trans h.output⟩
   ·cases hd:o.dst <;> simp [setT,h.size]
   ·intro b im e hb
    by_cases hbj:b < (Hs (j + 1)).n
    ·exact ⟨j + 1,by omega,e3.rel.blk b im e hbj,newS b im e hbj⟩
    ·have e':=hρ b im e (.inr (by omega))
     obtain ⟨m,hm,hbr,hc⟩:=h.heap b im e' hb
     refine ⟨m,hm,hbr.mono hle (lateG b im e' (by omega) hb),fun i hi hch=>?_⟩
     have hne:i≠j:=by
      intro q;subst q
      rw [(top (i + 1) (by omega)).1 b (by omega),(top i (by omega)).1 b (by omega)] at hch
      exact hch rfl
     have:=hc i hi hch
     constructor
     ·rintro (q|q)
      ·exact this.1 q
      ·exact absurd q hne
     ·intro q;exact .inl (this.2 q)
   ·intro b im e h1 h2
    by_cases hbj:b < (Hs j).n∨(Hs (j + 1)).n≤b
    ·obtain ⟨i,a1,a2,a3⟩:=h.dom b im (hρ b im e hbj) h1 h2
     exact ⟨i,a1,.inl a2,a3⟩
    ·exact ⟨j,hjs,.inr rfl,by omega,by omega⟩
   ·intro b im i oi e hoi hsi h1 h2
    by_cases hbj:b < (Hs j).n∨(Hs (j + 1)).n≤b
    ·exact h.simp b im i oi (hρ b im e hbj) hoi hsi h1 h2
    ·exfalso
     have hi:i < ops.size:=(Array.getElem?_eq_some_iff.1 hoi).1
     have hne:i≠j:=by
      intro q;subst q
      rw [ho] at hoi;cases hoi
      rw [hsf] at hsi;cases hsi
     rcases Nat.lt_or_ge i j with q1|q1
     ·have:=mono (i + 1) j (by omega) (by omega);omega
     ·have:=mono (j + 1) i (by omega) (by omega);omega
   ·intro b hb
    rw [e3.ext b (by omega)]
    exact h.ext b hb
   ·intro cb hc ho'
    rw [e3.frame cb (by have:=h.wsz;omega) ?_]
    ·exact h.frame cb hc ho'
    ·rintro ⟨b2,im2,a1,a2,a3,a4⟩
     by_cases hb3:b2 < (Hs 0).n
     ·rw [h.ext b2 (.inl hb3)] at a1
      exact ho' ⟨b2,im2,a1,hb3,a3,a4⟩
     ·rcases h.own b2 im2 a1 (by omega) (by omega) with hh|⟨_,hh⟩
      ·omega
      ·rw [a3] at hh;exact ho' hh
   ·intro b im e h1 h2
    by_cases hbj:b < (Hs j).n∨(Hs (j + 1)).n≤b
    ·exact h.own b im (hρ b im e hbj) h1 h2
    ·have hw0:=h.wsz
     rcases e3.img b im e (by omega) (by omega) with hh|⟨hro,b2,im2,a1,a2,a3,a4⟩
     ·exact .inl (by omega)
     ·by_cases hb3:b2 < (Hs 0).n
      ·rw [h.ext b2 (.inl hb3)] at a1
       exact .inr ⟨hro,b2,im2,a1,hb3,a3,a4⟩
      ·rcases h.own b2 im2 a1 (by omega) (by omega) with hh|⟨_,hh⟩
       ·exact .inl (by omega)
       ·rw [a3] at hh;exact .inr ⟨hro,hh⟩
 ·-- passed over
  refine ⟨ρ,setT a o.dst undef,w, ?_,.one (st_opSkip ho (by rw [hwant];exact hw))⟩
  refine { h with env:=envJ ρ undef undef (Le.refl _) (undef_rel ρ) hE1,size:=?_,heap:=?_,dom:=?_,closed:=closedJ }
  ·cases hd:o.dst <;> simp [setT,h.size]
  ·intro b im e hb
   obtain ⟨m,hm,hbr,hc⟩:=h.heap b im e hb
   refine ⟨m,hm,hbr,fun i hi hch=>?_⟩
   have hne:i≠j:=by
    intro e';subst e'
    rw [hH1] at hch;exact hch rfl
   have:=hc i hi hch
   constructor
   ·rintro (q|q)
    ·exact this.1 q
    ·exact absurd q hne
   ·intro q;exact .inl (this.2 q)
  ·intro b im e h1 h2
   obtain ⟨i,a1,a2,a3⟩:=h.dom b im e h1 h2
   exact ⟨i,a1,.inl a2,a3⟩
theorem sched_sim (hC:CallSim P ng C) (hT:CallTop C) (ht:Top (Hs 0)) (hstep:∀ i o,ops[i]? = some o→OpStep P C ops o (E i) (Hs i) (E (i + 1)) (Hs (i + 1))) (ni:NI ops E Hs)
  (hok:∀ o,o∈ops.toList→opOk ng nt o=true) (hdr:drawOk ops=true) {b:FB} {ds:List Deferred} {k:List Item} {cs:List Frame} {ρ0:Ren} {w0:World} :
  ∀ (l:List Nat) (S:Nat→Prop) (ρ:Ren) (a:Array Value) (w:World),Sched ops S l→Inv ng n0 nt ops E Hs ρ0 w0 S ρ a w →
   ∃ S' ρ' a' w',(∀ i,i < ops.size→S' i)∧Inv ng n0 nt ops E Hs ρ0 w0 S' ρ' a' w'∧Steps P (lone (b.at a ds (.inRegion ops l :: k)) cs w) (lone (b.at a' ds k) cs w')
 | [],S,ρ,a,w,hs,h=>⟨S,ρ,a,w,hs,h,.one st_regionEnd⟩
 | j :: rest,S,ρ,a,w,⟨⟨o,ho,he⟩,hj,hs⟩,h=>by
  have hback:=(show edgesBack ops=true by unfold drawOk at hdr;simp only [Bool.and_eq_true] at hdr;exact hdr.1)
  have hanc:∀ i,isAnc ops i j=true→S i:=by
   intro i hi
   obtain ⟨e,h1,h2,h3⟩:=(isAnc_iff hback ho i).1 hi
   have hse:=he e h1 h2
   rcases h3 with rfl|h3
   ·exact hse
   ·exact h.closed i e.on hse h3
  obtain ⟨ρ1,a1,w1,h1,st1⟩:=inv_step (b:=b) (ds:=ds) (k:=k) (cs:=cs) hC hT ht hstep ni hok hdr h ho hj hanc rest
  obtain ⟨S',ρ',a',w',q1,q2,q3⟩:=sched_sim hC hT ht hstep ni hok hdr rest _ ρ1 a1 w1 hs h1
  exact ⟨S',ρ',a',w',q1,q2,st1.trans q3⟩
end
theorem drawn_sim {P:Program} {ng n0 nt:Nat} {C:CallRel} (hmix:P.follows .mixedOrders=true) (hC:CallSim P ng C) (hT:CallTop C) {b:FB} {ds:List Deferred} {k:List Item} {cs:List Frame} {ops:Array Oper} {id:Nat}
  (hok:∀ o,o∈ops.toList→opOk ng nt o=true) (hdr:drawOk ops=true) {env env':Env} {H H':AHeap} (h:DrawnRun P C ops env H env' H') {ρ:Ren} {w:World} {a:Array Value}
  (hr:Rel ng n0 ρ H w) (he:EnvRel ρ nt env a) (hf:Fresh ρ H H') :
  ∃ ρ' w' a',Step ng n0 ρ H w ρ' H' w'∧EnvRel ρ' nt env' a'∧Steps P (lone (b.at a ds (.code (.region id ops true) :: k)) cs w) (lone (b.at a' ds k) cs w'):=by
 obtain ⟨E,Hs,rfl,rfl,rfl,rfl,hstep,ni⟩:=h
 have hr':Rel ng n0 ρ (Hs 0) { w with drawn:=w.drawn + 1 }:=hr.of_heap rfl
 have hst:=inv_start hT hr.tp hstep hr' he hf
 have hback:=(show edgesBack ops=true by unfold drawOk at hdr;simp only [Bool.and_eq_true] at hdr;exact hdr.1)
 have hsched:=linearise_sched hback (w.tape w.drawn (.order b.fn id))
 obtain ⟨S',ρ',a',w',q1,q2,q3⟩:=sched_sim (b:=b) (ds:=ds) (k:=k) (cs:=cs) hC hT hr.tp hstep ni hok hdr _ _ ρ a _ hsched hst
 obtain ⟨s1,s2⟩:=inv_end hT hr.tp hstep q2 q1
 refine ⟨ρ',w',a',(Step.drawn hr (w.drawn + 1)).trans s1,s2,.head st_draw ?_⟩
 rw [hmix,schedule_any]
 exact q3
structure Marks (ρ:Ren) (N:Nat) (w:World) (B:Nat) (ds:List Deferred):Prop where
 all:∀ d∈ds,∃ r,d = { target:=.collected r,args:=#[] }∧B≤r∧w.heap[r]? = some (.deferred (some []))∧¬ Owned ρ N r
 pair:ds.Pairwise (fun d d'=>d≠d')
theorem Marks.step {ng n0:Nat} {ρ ρ':Ren} {H H':AHeap} {w w':World} {B:Nat} {ds:List Deferred} (h:Marks ρ H.n w B ds) (s:Step ng n0 ρ H w ρ' H' w'):Marks ρ' H'.n w' B ds:=by
 refine ⟨fun d hd=>?_,h.pair⟩
 obtain ⟨r,e,hb,hr,ho⟩:=h.all d hd
 have hlt:r < w.heap.size:=(Array.getElem?_eq_some_iff.1 hr).1
 exact ⟨r,e,hb,(s.frame r hlt ho).trans hr,fun ho'=>ho (s.own r hlt ho')⟩
theorem Rel.hidden {ng n0:Nat} {ρ:Ren} {H:AHeap} {w:World} (h:Rel ng n0 ρ H w) {r:Nat} {x:Option (List Deferred)} (hr:w.heap[r]? = some (.deferred x)) (ob:Obj) :
  Rel ng n0 ρ H { w with heap:=w.heap.setIfInBounds r ob }:=by
 refine ⟨fun b im e hb=>?_,h.apart,h.fresh,fun b im e=>by simp;exact h.there b im e,by simp;exact h.size,h.glob,h.top,h.grp⟩
 have hold:=h.blk b im e hb
 by_cases hne:im.blk=r
 ·cases hg:H.get b with
  | dead=>trivial
  | cells c T k=>rw [hg] at hold;obtain ⟨_,c',T',fz,h2,_⟩:=hold;rw [hne,hr] at h2;cases h2
  | map es=>rw [hg] at hold;obtain ⟨_,_,_,_,h2,_⟩:=hold;rw [hne,hr] at h2;cases h2
  | iter s p=>rw [hg] at hold;have h2:=hold.2.2.2;rw [hne,hr] at h2;cases h2
  | loop _ _ _ _ _ _ _=>rw [hg] at hold;obtain ⟨_,_,_,h2,_⟩:=hold;rw [hne,hr] at h2;cases h2
 ·exact hold.mono (Le.refl _) (by
   show (w.heap.setIfInBounds r ob)[im.blk]? = _
   rw [Array.getElem?_setIfInBounds_ne (fun e=>hne e.symm)])
theorem Step.hidden_new {ng n0:Nat} {ρ:Ren} {H:AHeap} {w:World} (h:Rel ng n0 ρ H w) (ob:Obj):Step ng n0 ρ H w ρ H (w.alloc ob):=by
 refine ⟨fun _ _=>rfl,Nat.le_refl _,⟨fun b im e hb=>(h.blk b im e hb).mono (Le.refl _) (heap_alloc_old (h.there b im e)),h.apart,h.fresh,fun b im e=>by rw [World.size_alloc];have:=h.there b im e;omega,by rw [World.size_alloc];have:=h.size;omega,h.glob,h.top,h.grp⟩,
  fun cb hc _=>heap_alloc_old hc,fun b im _ h1 h2=>absurd h2 (by omega),by rw [World.size_alloc];omega,rfl,rfl,rfl⟩
section
variable {P:Program} {b:FB} {a:Array Value} {ds:List Deferred} {k:List Item} {cs:List Frame} {w:World}
theorem st_range {f:Operand} {ps:Array Tmp} {asg body:Code} (hrd:b.rd=none) {d:Deferred} {nx:Next} {w2:World} {fr:Frame}
  (hd:(Deferred.ofValue (evc a f) #[.func (.yield (w.heap.size + 1)) #[] #[]]).run P ((w.alloc (.deferred (some []))).alloc (.loop { state:=.ready,pending:=none,fn:=b.fn,tmps:=a,params:=ps,assign:=asg,body:=body,defers:=w.heap.size }))=.ok d ((w.alloc (.deferred (some []))).alloc (.loop { state:=.ready,pending:=none,fn:=b.fn,tmps:=a,params:=ps,assign:=asg,body:=body,defers:=w.heap.size })))
  (hi:(invoke d.target d.args).run P ((w.alloc (.deferred (some []))).alloc (.loop { state:=.ready,pending:=none,fn:=b.fn,tmps:=a,params:=ps,assign:=asg,body:=body,defers:=w.heap.size }))=.ok nx w2) (hf:frameOf P nx=some fr) :
  step P (lone (b.at a ds (.code (.rangeFunc f ps asg body) :: k)) cs w) =
   .next (lone fr (b.at a ({ target:=.collected w.heap.size,args:=#[] } :: ds) (.inRangeFunc (w.heap.size + 1) :: k) :: cs) w2):=by
 refine step_lone_go ?_
 have hev:=FB.eval' (b:=b) (a:=a) (ds:={ target:=.collected w.heap.size,args:=#[] } :: ds) (.inRangeFunc (w.heap.size + 1) :: k)
 obtain ⟨fn,kind,rd⟩:=b
 simp only at hrd
 subst hrd
 simp only [FB.at] at hev ⊢
 have hent:(Instr.enterLoop fn a ps asg body none).run P w=.ok (w.heap.size + 1,[{ target:=.collected w.heap.size,args:=#[] }]) ((w.alloc (.deferred (some []))).alloc (.loop { state:=.ready,pending:=none,fn:=fn,tmps:=a,params:=ps,assign:=asg,body:=body,defers:=w.heap.size })):=by
  simp only [Instr.enterLoop,Sem.run_bind,run_newObj,Result.andThen_ok,Sem.run_pure,World.alloc_eq,World.size_alloc]
 have hsem:(do let d ← resolve (evc a) { callee:=.value f,args:=#[.const (.func (.yield (w.heap.size + 1)) #[] #[])],argTypes:=#[] } 0;invoke d.target d.args:Sem Next).run P
   ((w.alloc (.deferred (some []))).alloc (.loop { state:=.ready,pending:=none,fn:=fn,tmps:=a,params:=ps,assign:=asg,body:=body,defers:=w.heap.size }))=.ok nx w2:=by
  have hev2:evc a (.const (.func (.yield (w.heap.size + 1)) #[] #[]))=.func (.yield (w.heap.size + 1)) #[] #[]:=rfl
  simp only at hd hi
  simp only [resolve,Sem.run_bind,List.map_toArray,List.map_cons,List.map_nil,hev2,hd,Result.andThen_ok,hi]
 cases nx <;> simp only [frameOf] at hf <;> (try cases hf) <;>
  simp [stepG,stepG.exec,Sem.runT_eq,hent,stepG.apply,hev,hsem]
theorem st_endRange {l:Nat} {jump:Option Code} {w':World} (h:(Instr.endLoop l).run P w=.ok jump w') :
  step P (lone (b.at a ds (.endRangeFunc l :: k)) cs w)=.next (lone (b.at a ds ((jump.map Item.code).toList ++ k)) cs w'):=by
 refine step_lone_go ?_
 simp [stepG,stepG.exec,FB.at,Sem.runT_eq,h]
theorem st_beginRound {l:Nat} {w':World} (hrd:b.rd=some l) (h:(Instr.beginRound l).run P w=.ok () w') :
  step P (lone (b.at a ds (.beginRound :: k)) cs w)=.next (lone (b.at a ds k) cs w'):=by
 refine step_lone_go ?_
 obtain ⟨fn,kind,rd⟩:=b
 simp only at hrd
 subst hrd
 simp [stepG,stepG.exec,FB.at,stepG.apply,Sem.runT_eq,h,Frame.finish]
theorem st_retN (hrd:b.rd=none):step P (lone (b.at a ds []) cs w)=.next (lone { b.at a ds [] with mode:=.returning } cs w):=by
 refine step_lone_go ?_
 obtain ⟨fn,kind,rd⟩:=b
 simp only at hrd
 subst hrd
 simp [stepG,stepG.exec,FB.at]
theorem st_retR (hrd:b.rd=none):step P (lone (b.at a ds (.code .ret :: k)) cs w)=.next (lone { b.at a ds (.code .ret :: k) with mode:=.returning } cs w):=by
 refine step_lone_go ?_
 obtain ⟨fn,kind,rd⟩:=b
 simp only at hrd
 subst hrd
 simp [stepG,stepG.exec,FB.at]
theorem st_roundN {l:Nat} {v:Value} {w':World} (hrd:b.rd=some l) (hk:b.kind=.normal) (h:(Instr.endRound l none).run P w=.ok v w') (c:Frame) :
  step P (lone (b.at a ds []) (c :: cs) w)=.next (lone (c.finish v) cs w'):=by
 refine step_lone_go ?_
 obtain ⟨fn,kind,rd⟩:=b
 simp only at hrd hk
 subst hrd hk
 simp [stepG,stepG.exec,FB.at,Sem.runT_eq,h,doReturn]
theorem st_roundR {l:Nat} {v:Value} {w':World} (hrd:b.rd=some l) (hk:b.kind=.normal) (h:(Instr.endRound l (some .ret)).run P w=.ok v w') (c:Frame) :
  step P (lone (b.at a ds (.code .ret :: k)) (c :: cs) w)=.next (lone (c.finish v) cs w'):=by
 refine step_lone_go ?_
 obtain ⟨fn,kind,rd⟩:=b
 simp only at hrd hk
 subst hrd hk
 simp [stepG,stepG.exec,FB.at,Sem.runT_eq,h,doReturn]
theorem st_roundE {l id:Nat} {v:Value} {w':World} (hrd:b.rd=some l) (hk:b.kind=.normal) (he:exitTo id k=none) (h:(Instr.endRound l (some (.exit id))).run P w=.ok v w') (c:Frame) :
  step P (lone (b.at a ds (.code (.exit id) :: k)) (c :: cs) w)=.next (lone (c.finish v) cs w'):=by
 refine step_lone_go ?_
 obtain ⟨fn,kind,rd⟩:=b
 simp only at hrd hk
 subst hrd hk
 simp [stepG,stepG.exec,FB.at,Sem.runT_eq,h,doReturn,he]
theorem st_mark {r:Nat} {todo:List Item} {ds:List Deferred} (hr:w.heap[r]? = some (.deferred (some []))) :
  step P (lone { b.at a ({ target:=.collected r,args:=#[] } :: ds) todo with mode:=.returning } cs w) =
   .next (lone { b.at a ds todo with mode:=.returning } cs { w with heap:=w.heap.setIfInBounds r (.deferred none) }):=by
 refine step_lone_go ?_
 have h:(Instr.takeDeferred r).run P w=.ok [] { w with heap:=w.heap.setIfInBounds r (.deferred none) }:=by
  simp only [Instr.takeDeferred,Sem.run_bind,run_getObj hr (by simp),Result.andThen_ok,run_setObj hr (by simp),Sem.run_pure]
 simp [stepG,unwind,FB.at,Sem.runT_eq,h]
end
theorem opsRun_top {P:Program} {C:CallRel} (hT:CallTop C) {ops:Array Oper}:∀ (os:List Oper) {e e':Env} {H H':AHeap},OpsRun P C ops os e H e' H'→Top H→Top H'∧H.n≤H'.n
 | [],_,_,_,_,h,ht=>by obtain ⟨_,rfl⟩:=h;exact ⟨ht,Nat.le_refl _⟩
 | _ :: os,_,_,_,_,h,ht=>by
  obtain ⟨_,_,h1,h2⟩:=h
  have q:=OpStep_top hT h1 ht
  have r:=opsRun_top hT os h2 q.1
  exact ⟨r.1,Nat.le_trans q.2 r.2⟩
theorem drawnRun_top {P:Program} {C:CallRel} (hT:CallTop C) {ops:Array Oper} {e e':Env} {H H':AHeap} (h:DrawnRun P C ops e H e' H') (ht:Top H):Top H'∧H.n≤H'.n:=by
 obtain ⟨E,Hs,rfl,rfl,rfl,rfl,hstep,_⟩:=h
 exact ⟨seq_top hT ht hstep _ (Nat.le_refl _),seq_mono hT ht hstep 0 _ (Nat.zero_le _) (Nat.le_refl _)⟩
theorem callV_top {C:CallRel} (hT:CallTop C) {f v:Value} {args:Array Value} {H H':AHeap} (h:callV C f args H v H') (ht:Top H):Top H'∧H.n≤H'.n:=by
 unfold callV at h
 split at h
 ·exact hT _ _ _ _ _ h ht
 ·exact hT _ _ _ _ _ h ht
 ·exact h.elim
theorem arun_top {P:Program} {C:CallRel} (hT:CallTop C) {ng nt:Nat} {c:Code} {e e':Env} {H H':AHeap} {x:Ex} (h:ARun P C ng nt c e H x e' H') (ht:Top H):Top H'∧H.n≤H'.n:=by
 induction h with
 | skip=>exact ⟨ht,Nat.le_refl _⟩
 | label=>exact ⟨ht,Nat.le_refl _⟩
 | exit=>exact ⟨ht,Nat.le_refl _⟩
 | ret=>exact ⟨ht,Nat.le_refl _⟩
 | seqN _ _ i1 i2=>have q:=i1 ht;have r:=i2 q.1;exact ⟨r.1,Nat.le_trans q.2 r.2⟩
 | seqX _ _ i=>exact i ht
 | cond _ _ i=>exact i ht
 | blockE _ i=>exact i ht
 | blockX _ _ i=>exact i ht
 | loopN _ _ i1 i2=>have q:=i1 ht;have r:=i2 q.1;exact ⟨r.1,Nat.le_trans q.2 r.2⟩
 | loopX _ _ i=>exact i ht
 | scope _ i=>exact i ht
 | region h=>exact opsRun_top hT _ h ht
 | drawn h=>exact drawnRun_top hT h ht
 | range hc hl hs hp =>
  have q:=callV_top hT hc (ht.alloc _)
  exact ⟨q.1.put (q.1.lt (by rw [hl];simp)) _,Nat.le_trans (Nat.le_succ _) q.2⟩
def Starts (c:Code) (it:Item):Prop:=it=.code c∨∃ b,c=.loop b∧it=.inLoop b
def Landed (P:Program) (b:FB) (x:Ex) (m:Machine) (a:Array Value) (ds:List Deferred) (k:List Item) (cs:List Frame) (w:World):Prop :=
 match x with
 | .normal=>Steps P m (lone (b.at a ds k) cs w)
 | .exit id=>∃ k2,exitTo id k2=exitTo id k∧Steps P m (lone (b.at a ds (.code (.exit id) :: k2)) cs w)
 | .ret=>∃ k2,Steps P m (lone (b.at a ds (.code .ret :: k2)) cs w)
theorem Landed.head {P:Program} {b:FB} {x:Ex} {m m':Machine} {a:Array Value} {ds:List Deferred} {k:List Item} {cs:List Frame} {w:World} (h:Steps P m m') (l:Landed P b x m' a ds k cs w):Landed P b x m a ds k cs w:=by
 cases x with
 | normal=>exact h.trans l
 | exit id=>obtain ⟨k2,e,s⟩:=l;exact ⟨k2,e,h.trans s⟩
 | ret=>obtain ⟨k2,s⟩:=l;exact ⟨k2,h.trans s⟩
theorem Landed.tail {P:Program} {b:FB} {x:Ex} {m:Machine} {a:Array Value} {ds:List Deferred} {k k':List Item} {cs:List Frame} {w:World} (hx:x≠.normal) (hk:∀ id,x=.exit id→exitTo id k'=exitTo id k) (l:Landed P b x m a ds k' cs w):Landed P b x m a ds k cs w:=by
 cases x with
 | normal=>exact absurd rfl hx
 | exit id=>obtain ⟨k2,e,s⟩:=l;exact ⟨k2,e.trans (hk id rfl),s⟩
 | ret=>exact l
theorem Marks.push {ng n0:Nat} {ρ:Ren} {H:AHeap} {w:World} {B:Nat} {ds:List Deferred} (h:Marks ρ H.n w B ds) (hr:Rel ng n0 ρ H w) (hB:B≤w.heap.size) :
  Marks ρ H.n (w.alloc (.deferred (some []))) B ({ target:=.collected w.heap.size,args:=#[] } :: ds):=by
 refine ⟨fun d hd=>?_,List.pairwise_cons.2 ⟨fun d hd=>?_,h.pair⟩⟩
 ·rcases List.mem_cons.1 hd with rfl|hd
  ·refine ⟨_,rfl,hB,heap_alloc_new, ?_⟩
   rintro ⟨b,im,e,_,e2,_⟩
   have:=hr.there b im e
   omega
  ·obtain ⟨r,e,hb,hr',ho⟩:=h.all d hd
   exact ⟨r,e,hb,(heap_alloc_old (Array.getElem?_eq_some_iff.1 hr').1).trans hr',ho⟩
 ·obtain ⟨r,e,hb,hr',ho⟩:=h.all d hd
  subst e
  intro e
  simp only [Deferred.mk.injEq,Target.collected.injEq,and_true] at e
  have:=(Array.getElem?_eq_some_iff.1 hr').1
  omega
def MarksB (ρ:Ren) (N:Nat) (w:World) (B:Nat) (base ds:List Deferred):Prop:=∃ d1,ds=d1 ++ base∧Marks ρ N w B d1
theorem MarksB.step {ng n0:Nat} {ρ ρ':Ren} {H H':AHeap} {w w':World} {B:Nat} {base ds:List Deferred} (h:MarksB ρ H.n w B base ds) (s:Step ng n0 ρ H w ρ' H' w'):MarksB ρ' H'.n w' B base ds :=
 let ⟨d1,e,m⟩:=h;⟨d1,e,m.step s⟩
theorem MarksB.push {ng n0:Nat} {ρ:Ren} {H:AHeap} {w:World} {B:Nat} {base ds:List Deferred} (h:MarksB ρ H.n w B base ds) (hr:Rel ng n0 ρ H w) (hB:B≤w.heap.size) :
  MarksB ρ H.n (w.alloc (.deferred (some []))) B base ({ target:=.collected w.heap.size,args:=#[] } :: ds) :=
 let ⟨d1,e,m⟩:=h;⟨_ :: d1,by rw [e];rfl,m.push hr hB⟩
theorem arun_simB {P:Program} {ng nt:Nat} {C:CallRel} (hmix:P.follows .mixedOrders=true) (hC:CallSim P ng C) (hT:CallTop C) {c:Code} {env env':Env} {H H':AHeap} {x:Ex}
  (h:ARun P C ng nt c env H x env' H') :
  ∀ (n0 B:Nat) (base:List Deferred) (b:FB) (ρ:Ren) (w:World) (a:Array Value) (ds:List Deferred) (it:Item) (k:List Item) (cs:List Frame),
   codeOk ng nt c=true→(b.rd=none∨noRange c=true)→Starts c it→Rel ng n0 ρ H w→EnvRel ρ nt env a→Fresh ρ H H'→MarksB ρ H.n w B base ds→B≤w.heap.size →
   ∃ ρ' w' a' ds',Step ng n0 ρ H w ρ' H' w'∧EnvRel ρ' nt env' a'∧MarksB ρ' H'.n w' B base ds'∧(noRange c=true→ds'=ds)∧Landed P b x (lone (b.at a ds (it :: k)) cs w) a' ds' k cs w':=by
 have code:∀ {c it},Starts c it→(∀ b,c≠.loop b)→it=.code c:=by
  rintro c it (h|⟨b,h,_⟩) hb
  ·exact h
  ·exact absurd h (hb b)
 induction h with
 | skip =>
  intro n0 B base b ρ w a ds it k cs hok hrd hst hr he hf hm hB
  obtain rfl:=code hst (by intro b e;cases e)
  exact ⟨ρ,w,a,ds,Step.refl hr,he,hm,fun _=>rfl,.one st_skip⟩
 | label =>
  intro n0 B base b ρ w a ds it k cs hok hrd hst hr he hf hm hB
  obtain rfl:=code hst (by intro b e;cases e)
  exact ⟨ρ,w,a,ds,Step.refl hr,he,hm,fun _=>rfl,.one st_label⟩
 | exit =>
  intro n0 B base b ρ w a ds it k cs hok hrd hst hr he hf hm hB
  obtain rfl:=code hst (by intro b e;cases e)
  exact ⟨ρ,w,a,ds,Step.refl hr,he,hm,fun _=>rfl,k,rfl,.refl _ _⟩
 | ret =>
  intro n0 B base b ρ w a ds it k cs hok hrd hst hr he hf hm hB
  obtain rfl:=code hst (by intro b e;cases e)
  exact ⟨ρ,w,a,ds,Step.refl hr,he,hm,fun _=>rfl,k,.refl _ _⟩
 | @seqN ca cb env H env1 H1 ex env2 H2 h1 h2 i1 i2 =>
  intro n0 B base b ρ w a ds it k cs hok hrd hst hr he hf hm hB
  obtain rfl:=code hst (by intro b e;cases e)
  simp only [codeOk,Bool.and_eq_true] at hok
  have hn:=arun_top hT h2 (arun_top hT h1 hr.tp).1
  have hrd1:b.rd=none∨noRange ca=true:=hrd.imp id fun h=>by simp only [noRange,Bool.and_eq_true] at h;exact h.1
  have hrd2:b.rd=none∨noRange cb=true:=hrd.imp id fun h=>by simp only [noRange,Bool.and_eq_true] at h;exact h.2
  obtain ⟨ρ1,w1,a1,ds1,s1,e1,m1,n1,l1⟩:=i1 n0 B base b ρ w a ds _ (.code cb :: k) cs hok.1 hrd1 (.inl rfl) hr he (hf.left hn.2) hm hB
  obtain ⟨ρ2,w2,a2,ds2,s2,e2,m2,n2,l2⟩:=i2 n0 B base b ρ1 w1 a1 ds1 _ k cs hok.2 hrd2 (.inl rfl) s1.rel e1 (hf.right s1) m1 (Nat.le_trans hB s1.size)
  refine ⟨ρ2,w2,a2,ds2,s1.trans s2,e2,m2,fun h=>?_,l2.head (.head st_seq l1)⟩
  simp only [noRange,Bool.and_eq_true] at h
  rw [n2 h.2,n1 h.1]
 | @seqX ca cb env H ex env1 H1 h1 hx i1 =>
  intro n0 B base b ρ w a ds it k cs hok hrd hst hr he hf hm hB
  obtain rfl:=code hst (by intro b e;cases e)
  simp only [codeOk,Bool.and_eq_true] at hok
  have hrd1:b.rd=none∨noRange ca=true:=hrd.imp id fun h=>by simp only [noRange,Bool.and_eq_true] at h;exact h.1
  obtain ⟨ρ1,w1,a1,ds1,s1,e1,m1,n1,l1⟩:=i1 n0 B base b ρ w a ds _ (.code cb :: k) cs hok.1 hrd1 (.inl rfl) hr he hf hm hB
  refine ⟨ρ1,w1,a1,ds1,s1,e1,m1,fun h=>?_,(l1.head (.one st_seq)).tail hx (by intro id e;rfl)⟩
  simp only [noRange,Bool.and_eq_true] at h
  exact n1 h.1
 | @cond cc ca cb env H t ex env1 H1 hc h1 i1 =>
  intro n0 B base b ρ w a ds it k cs hok hrd hst hr he hf hm hB
  obtain rfl:=code hst (by intro b e;cases e)
  simp only [codeOk,Bool.and_eq_true] at hok
  have hcc:=opd_rel hr he cc hok.1.1
  rw [hc] at hcc
  have hok1:codeOk ng nt (if t=true then ca else cb)=true:=by cases t;exact hok.2;exact hok.1.2
  have hrd1:b.rd=none∨noRange (if t=true then ca else cb)=true:=hrd.imp id fun h=>by
   simp only [noRange,Bool.and_eq_true] at h;cases t;exact h.2;exact h.1
  obtain ⟨ρ1,w1,a1,ds1,s1,e1,m1,n1,l1⟩:=i1 n0 B base b ρ w a ds _ k cs hok1 hrd1 (.inl rfl) hr he hf hm hB
  refine ⟨ρ1,w1,a1,ds1,s1,e1,m1,fun h=>?_,l1.head (.one (st_cond hcc.bool_inv))⟩
  simp only [noRange,Bool.and_eq_true] at h
  refine n1 ?_
  cases t;exact h.2;exact h.1
 | @blockE id cb env H env1 H1 h1 i1 =>
  intro n0 B base b ρ w a ds it k cs hok hrd hst hr he hf hm hB
  obtain rfl:=code hst (by intro b e;cases e)
  simp only [codeOk] at hok
  obtain ⟨ρ1,w1,a1,ds1,s1,e1,m1,n1,k2,q1,q2⟩:=i1 n0 B base b ρ w a ds _ (.inBlock id :: k) cs hok (hrd) (.inl rfl) hr he hf hm hB
  refine ⟨ρ1,w1,a1,ds1,s1,e1,m1,fun h=>n1 h,Steps.head st_block (q2.trans (.one (st_exit ?_)))⟩
  rw [q1]
  simp [exitTo]
 | @blockX id cb env H ex env1 H1 h1 hx i1 =>
  intro n0 B base b ρ w a ds it k cs hok hrd hst hr he hf hm hB
  obtain rfl:=code hst (by intro b e;cases e)
  simp only [codeOk] at hok
  obtain ⟨ρ1,w1,a1,ds1,s1,e1,m1,n1,l1⟩:=i1 n0 B base b ρ w a ds _ (.inBlock id :: k) cs hok hrd (.inl rfl) hr he hf hm hB
  refine ⟨ρ1,w1,a1,ds1,s1,e1,m1,fun h=>n1 h, ?_⟩
  by_cases hN:ex=.normal
  ·subst hN
   exact Steps.head st_block (Steps.trans l1 (.one st_inBlock))
  ·refine (l1.head (.one st_block)).tail hN fun id2 e=>?_
   have:id≠id2:=fun q=>hx (by rw [e,q])
   simp [exitTo,this]
 | @loopN cb env H env1 H1 ex env2 H2 h1 h2 i1 i2 =>
  intro n0 B base b ρ w a ds it k cs hok hrd hst hr he hf hm hB
  have hok':=hok
  simp only [codeOk] at hok
  have hn:=arun_top hT h2 (arun_top hT h1 hr.tp).1
  obtain ⟨ρ1,w1,a1,ds1,s1,e1,m1,n1,l1⟩:=i1 n0 B base b ρ w a ds _ (.inLoop cb :: k) cs hok hrd (.inl rfl) hr he (hf.left hn.2) hm hB
  obtain ⟨ρ2,w2,a2,ds2,s2,e2,m2,n2,l2⟩:=i2 n0 B base b ρ1 w1 a1 ds1 (.inLoop cb) k cs hok' hrd (.inr ⟨cb,rfl,rfl⟩) s1.rel e1 (hf.right s1) m1 (Nat.le_trans hB s1.size)
  refine ⟨ρ2,w2,a2,ds2,s1.trans s2,e2,m2,fun h=>?_,l2.head (Steps.trans ?_ l1)⟩
  ·rw [n2 h,n1 h]
  ·rcases hst with rfl|⟨b',e,rfl⟩
   ·exact .one st_loop
   ·cases e;exact .one st_inLoop
 | @loopX cb env H ex env1 H1 h1 hx i1 =>
  intro n0 B base b ρ w a ds it k cs hok hrd hst hr he hf hm hB
  simp only [codeOk] at hok
  obtain ⟨ρ1,w1,a1,ds1,s1,e1,m1,n1,l1⟩:=i1 n0 B base b ρ w a ds _ (.inLoop cb :: k) cs hok hrd (.inl rfl) hr he hf hm hB
  refine ⟨ρ1,w1,a1,ds1,s1,e1,m1,fun h=>n1 h,(l1.head ?_).tail hx (by intro id e;rfl)⟩
  rcases hst with rfl|⟨b',e,rfl⟩
  ·exact .one st_loop
  ·cases e;exact .one st_inLoop
 | @scope cb env H ex env1 H1 h1 i1 =>
  intro n0 B base b ρ w a ds it k cs hok hrd hst hr he hf hm hB
  obtain rfl:=code hst (by intro b e;cases e)
  simp only [codeOk] at hok
  obtain ⟨ρ1,w1,a1,ds1,s1,e1,m1,n1,l1⟩:=i1 n0 B base b ρ w a ds _ (.inScope cb :: k) cs hok hrd (.inl rfl) hr he hf hm hB
  refine ⟨ρ1,w1,a1,ds1,s1,e1,m1,fun h=>n1 h, ?_⟩
  by_cases hN:ex=.normal
  ·subst hN
   exact Steps.head st_scope (Steps.trans l1 (.one st_inScope))
  ·exact (l1.head (.one st_scope)).tail hN (by intro id2 e;rfl)
 | @region id ops env H env1 H1 h1 =>
  intro n0 B base b ρ w a ds it k cs hok hrd hst hr he hf hm hB
  obtain rfl:=code hst (by intro b e;cases e)
  simp only [codeOk,regOk,Bool.and_eq_true] at hok
  have hall:∀ o,o∈ops.toList→opOk ng nt o=true:=fun o ho=>(Array.all_eq_true_iff_forall_mem.1 hok.1) o (by simpa using ho)
  obtain ⟨ρ1,w1,a1,s1,e1,l1⟩:=opsRun_sim (b:=b) (ds:=ds) (k:=k) (cs:=cs) hC hT hall ops.toList 0 env env1 H H1 rfl h1 ρ w a hr he hf
  exact ⟨ρ1,w1,a1,ds,s1,e1,hm.step s1,fun _=>rfl,Steps.head st_region l1⟩
 | @drawn id ops env H env1 H1 h1 =>
  intro n0 B base b ρ w a ds it k cs hok hrd hst hr he hf hm hB
  obtain rfl:=code hst (by intro b e;cases e)
  simp only [codeOk,regOk,Bool.and_eq_true,Bool.not_true,Bool.false_or] at hok
  have hall:∀ o,o∈ops.toList→opOk ng nt o=true:=fun o ho=>(Array.all_eq_true_iff_forall_mem.1 hok.1) o (by simpa using ho)
  obtain ⟨ρ1,w1,a1,s1,e1,l1⟩:=drawn_sim (b:=b) (ds:=ds) (k:=k) (cs:=cs) (id:=id) hmix hC hT hall hok.2 h1 hr he hf
  exact ⟨ρ1,w1,a1,ds,s1,e1,hm.step s1,fun _=>rfl,l1⟩
 | @range f ps asg body env H v H1 env2 ps2 a2 b2 st pend ex hc hl hs hp =>
  intro n0 B base b ρ w a ds it k cs hok hrd hst hr he hf hm hB
  obtain rfl:=code hst (by intro b e;cases e)
  simp only [codeOk,Bool.and_eq_true] at hok
  obtain ⟨⟨⟨⟨⟨o1,o2⟩,o3⟩,o4⟩,o5⟩,o6⟩:=hok
  have hrd0:b.rd=none:=by
   rcases hrd with h|h
   ·exact h
   ·simp [noRange] at h
  have s1:Step ng n0 ρ H w ρ H (w.alloc (.deferred (some []))):=Step.hidden_new hr _
  have hHn:H.n < H1.n:=(callV_top hT hc (Top.alloc hr.tp _)).2
  have hfn:ρ H.n=none:=hf H.n (Nat.le_refl _) hHn
  have hle:=Ren.le_add (im:={ blk:=w.heap.size + 1,base:=0,sz:=0,ro:=false,gr:=false,grp:=0,esz:=0 }) hfn
  have s2:=step_new s1.rel hfn (.loop nt env ps asg body .ready none)
   (.loop { state:=.ready,pending:=none,fn:=b.fn,tmps:=a,params:=ps,assign:=asg,body:=body,defers:=w.heap.size })
   { blk:=w.heap.size + 1,base:=0,sz:=0,ro:=false,gr:=false,grp:=0,esz:=0 } (World.size_alloc _ _).symm rfl
   ⟨rfl, rfl, _, by have := heap_alloc_new (w := w.alloc (.deferred (some []))) (o := .loop { state := .ready, pending := none, fn := b.fn, tmps := a, params := ps, assign := asg, body := body, defers := w.heap.size })
                    rw [World.size_alloc] at this;exact this,rfl,rfl,rfl,rfl,rfl,he.mono hle⟩
  have hf1:Fresh ρ H H1:=hf
  obtain ⟨ρ3,w3,v',s3,hv,d,hd,nx,fr,q1,q2,q3⟩:=callV_sim hC s2.rel hc ((opd_rel hr he f o1).mono hle)
   (ARel.one (.func (.yield (Ren.add_self _ _ _)) rfl rfl (fun i h=>by simp at h) (fun i h=>by simp at h))) (hf1.right (s1.trans s2))
   (b.at a ({ target:=.collected w.heap.size,args:=#[] } :: ds) (.inRangeFunc (w.heap.size + 1) :: k)) cs
  have hρ3:=(s3.ext H.n (.inl (Nat.lt_succ_self _))).trans (Ren.add_self ρ H.n _)
  have hb:=s3.rel.blk H.n _ hρ3 hHn
  rw [hl] at hb
  obtain ⟨_,_,r,hr1,r1,r2,r3,r4,r5,r6⟩:=hb
  have s4:=step_obj s3.rel hρ3 hHn rfl rfl (.loop nt env2 ps2 a2 b2 .exhausted pend) (.loop { r with state:=.exhausted })
   ⟨rfl,rfl,{ r with state:=.exhausted },by
    have:=(Array.getElem?_eq_some_iff.1 hr1).1
    simp only at this ⊢
    rw [Array.getElem?_setIfInBounds_self_of_lt this],r1,r2,r3,rfl,r5,r6⟩
  have hend:(Instr.endLoop (w.heap.size + 1)).run P w3=.ok pend { w3 with heap:=w3.heap.setIfInBounds (w.heap.size + 1) (.loop { r with state:=.exhausted }) }:=by
   simp only at hr1
   have hst:(r.state == LoopState.busy)=false:=by
    rw [r4];cases st <;> first|rfl|exact absurd rfl hs
   simp only [Instr.endLoop,Instr.getLoop,Sem.run_bind,run_getObj hr1 (by simp),Result.andThen_ok,Sem.run_pure,hst,if_false,Bool.false_eq_true,run_setObj hr1 (by simp),r5]
  refine ⟨ρ3,_,a,_,((s1.trans s2).trans s3).trans s4,he.mono (hle.trans (s3.le (hf1.right (s1.trans s2)))),(hm.push hr hB).step ((s2.trans s3).trans s4),fun h=>by simp [noRange] at h, ?_⟩
  have hgo:=Steps.trans (Steps.one (st_range (k:=k) (cs:=cs) (ds:=ds) (ps:=ps) (asg:=asg) (body:=body) (f:=f) hrd0 (hd _) q1 q2)) q3
  have hgo2:=hgo.trans (.one (st_endRange (b:=b) (a:=a) (ds:={ target:=.collected w.heap.size,args:=#[] } :: ds) (k:=k) (cs:=cs) hend))
  subst hp
  cases ex with
  | normal=>exact hgo2
  | exit id=>exact ⟨k,rfl,hgo2⟩
  | ret=>exact ⟨k,hgo2⟩
theorem arun_sim {P:Program} {ng nt:Nat} {C:CallRel} (hmix:P.follows .mixedOrders=true) (hC:CallSim P ng C) (hT:CallTop C) {c:Code} {env env':Env} {H H':AHeap} {x:Ex}
  (h:ARun P C ng nt c env H x env' H') (n0 B:Nat) (b:FB) (ρ:Ren) (w:World) (a:Array Value) (ds:List Deferred) (it:Item) (k:List Item) (cs:List Frame)
  (hok:codeOk ng nt c=true) (hrd:b.rd=none∨noRange c=true) (hst:Starts c it) (hr:Rel ng n0 ρ H w) (he:EnvRel ρ nt env a) (hf:Fresh ρ H H') (hm:Marks ρ H.n w B ds) (hB:B≤w.heap.size) :
  ∃ ρ' w' a' ds',Step ng n0 ρ H w ρ' H' w'∧EnvRel ρ' nt env' a'∧Marks ρ' H'.n w' B ds'∧(noRange c=true→ds'=ds)∧Landed P b x (lone (b.at a ds (it :: k)) cs w) a' ds' k cs w':=by
 obtain ⟨ρ1,w1,a1,ds1,s1,e1,⟨d1,q,m1⟩,n1,l1⟩:=arun_simB hmix hC hT h n0 B [] b ρ w a ds it k cs hok hrd hst hr he hf ⟨ds,by simp,hm⟩ hB
 rw [List.append_nil] at q
 subst q
 exact ⟨ρ1,w1,a1,ds1,s1,e1,m1,n1,l1⟩
abbrev OrRel:=FuncId→Array Value→AHeap→Value→AHeap→Prop
def OrTop (Or:OrRel):Prop:=∀ f args H v H',Or f args H v H'→Top H→Top H'∧H.n≤H'.n
def OrSim (P:Program) (ng:Nat) (Or:OrRel):Prop :=
 ∀ n0 f args H v H',Or f args H v H'→∀ ρ w args',Rel ng n0 ρ H w→ARel ρ args args'→Fresh ρ H H'→∀ c cs,
  ∃ ρ' w' v',Step ng n0 ρ H w ρ' H' w'∧VRel ρ' v v'∧Goes P (.fn f) args' w v' w' c cs
theorem callN_top {P:Program} {Or:OrRel} (hO:OrTop Or) {ng:Nat}:∀ n,CallTop (CallN P Or ng n)
 | 0=>fun _ _ _ _ _ h=>h.elim
 | n + 1=>fun t args H v H' h ht=>by
  have ih:=callN_top (P:=P) hO (ng:=ng) n
  cases t with
  | fn f =>
   rcases h with h|⟨fn,c,ex,env1,_,_,_,_,_,h,_⟩
   ·exact hO _ _ _ _ _ h ht
   ·exact arun_top ih h ht
  | yield l =>
   obtain ⟨nt,env,ps,asg,body,st,pend,env1,H1,ps1,a1,b1,e1,ex,env2,H2,e3,ps3,a3,b3,st3,pend3,h0,_,_,_,_,_,_,h1,h2,h3,h4,rfl,_⟩:=h
   have t1:=arun_top ih h1 ht
   have hl:l < H.n:=ht.lt (by rw [h0];simp)
   have t2:=arun_top ih h3 (t1.1.put (Nat.lt_of_lt_of_le hl t1.2) _)
   exact ⟨t2.1.put (Nat.lt_of_lt_of_le (Nat.lt_of_lt_of_le hl t1.2) t2.2) _,Nat.le_trans t1.2 t2.2⟩
def resSem (a:Array Value):ResultVar→Sem Value
 | .tmp t=>pure (a.getD t undef)
 | .cell x t=>do loadVar t (← asAddr (a.getD x undef))
theorem results_eq (fn:Func) (a:Array Value):results fn a=(do let vs ← fn.results.mapM (resSem a);pure (if h:vs.size=1 then vs[0] else .tuple vs)):=rfl
theorem resVal_sim {P:Program} {ng n0 nt:Nat} {ρ:Ren} {H:AHeap} {w:World} {env:Env} {a:Array Value} (hr:Rel ng n0 ρ H w) (he:EnvRel ρ nt env a) :
  ∀ (rs:List ResultVar) (vs:List Value),rs.mapM (resVal P env H)=some vs →
   ∃ vs':List Value,(rs.mapM (resSem a)).run P w=.ok vs' w ∧
    ARel ρ vs.toArray vs'.toArray
 | [],vs,h=>by
  simp only [List.mapM_nil,Option.pure_def,Option.some.injEq] at h
  subst h
  exact ⟨[],by simp only [List.mapM_nil,Sem.run_pure],.nil ρ⟩
 | r :: rs,vs,h=>by
  rw [List.mapM_cons] at h
  cases h1:resVal P env H r with
  | none=>rw [h1] at h;cases h
  | some v =>
   cases h2:rs.mapM (resVal P env H) with
   | none=>rw [h1,h2] at h;cases h
   | some vs2 =>
    rw [h1,h2] at h
    simp only [Option.bind_eq_bind,Option.bind_some,Option.pure_def,Option.some.injEq] at h
    subst h
    obtain ⟨vs',e1,e2⟩:=resVal_sim hr he rs vs2 h2
    have one:∃ v',(resSem a r).run P w=.ok v' w∧VRel ρ v v':=by
     cases r with
     | tmp t =>
      simp only [resVal,Option.some.injEq] at h1
      subst h1
      exact ⟨_,Sem.run_pure ..,he.2 t⟩
     | cell x t =>
      simp only [resVal] at h1
      obtain ⟨v',q1,q2⟩:=load_sim hr h1 (he.2 x)
      refine ⟨v', ?_,q2⟩
      have hx:=he.2 x
      unfold loadA at h1
      split at h1
      ·rename_i b o hb
       rw [hb] at hx
       obtain ⟨im,_,e⟩:=hx.ptr_inv
       rw [e] at q1
       simp only [resSem,e]
       simpa only [Instr.loadAt,Instr.sureAddr,asAddr,pure_bind] using q1
      ·cases h1
    obtain ⟨v',q1,q2⟩:=one
    refine ⟨v' :: vs', ?_, ?_⟩
    ·simp only [List.mapM_cons,Sem.run_bind,q1,Result.andThen_ok,e1,Sem.run_pure]
    ·have:=(ARel.one q2).append e2
     simpa using this
theorem results_sim {P:Program} {ng n0 nt:Nat} {ρ:Ren} {H:AHeap} {w:World} {env:Env} {a:Array Value} (hr:Rel ng n0 ρ H w) (he:EnvRel ρ nt env a) {fn:Func} {v:Value} (h:resultsA P fn env H=some v) :
  ∃ v',(results fn a).run P w=.ok v' w∧VRel ρ v v':=by
 unfold resultsA at h
 cases h1:fn.results.toList.mapM (resVal P env H) with
 | none=>rw [h1] at h;cases h
 | some vs =>
  rw [h1] at h
  obtain ⟨vs',e1,e2⟩:=resVal_sim hr he _ _ h1
  have hsz:vs.length=vs'.length:=by have:=e2.1;simpa using this
  have hrun:∀ v',(if h:vs'.toArray.size=1 then vs'.toArray[0] else .tuple vs'.toArray)=v'→(results fn a).run P w=.ok v' w:=by
   intro v' hv
   rw [results_eq,Array.mapM_eq_mapM_toList]
   simp only [Sem.run_bind,Sem.run_map,e1,Result.andThen_ok,Sem.run_pure,bind_map_left,hv]
  refine ⟨_,hrun _ rfl, ?_⟩
  match vs,vs',hsz,e2,h with
  | [v1],[v1'],_,e2,h =>
   cases h
   simpa using e2.2 0 (by simp) (by simp)
  | [],[],_,e2,h=>cases h;simpa using VRel.tuple e2.1 e2.2
  | _ :: _ :: _,_ :: _ :: _,_,e2,h=>cases h;simpa using VRel.tuple e2.1 e2.2
theorem unwind_marks {P:Program} {ng n0:Nat} {ρ:Ren} {H:AHeap} {B:Nat} {b:FB} {a:Array Value} {todo:List Item} {cs:List Frame} :
  ∀ (ds:List Deferred) (w:World),Marks ρ H.n w B ds→Rel ng n0 ρ H w →
   ∃ w',Rel ng n0 ρ H w'∧w'.heap.size=w.heap.size∧(∀ cb,cb < B→w'.heap[cb]? = w.heap[cb]?)∧w'.os=w.os∧w'.tape=w.tape∧w'.output=w.output ∧
    Steps P (lone { b.at a ds todo with mode:=.returning } cs w) (lone { b.at a [] todo with mode:=.returning } cs w')
 | [],w,_,hr=>⟨w,hr,rfl,fun _ _=>rfl,rfl,rfl,rfl,.refl _ _⟩
 | d :: ds,w,hm,hr=>by
  obtain ⟨r,rfl,hb,hr1,ho⟩:=hm.all d (by simp)
  have hr2:=hr.hidden hr1 (.deferred none)
  have hp:=List.pairwise_cons.1 hm.pair
  have hm2:Marks ρ H.n { w with heap:=w.heap.setIfInBounds r (.deferred none) } B ds:=by
   refine ⟨fun d hd=>?_,hp.2⟩
   obtain ⟨r',e,q1,q2,q3⟩:=hm.all d (by simp [hd])
   have hne:r≠r':=by
    intro q
    subst q
    exact hp.1 d hd e.symm
   refine ⟨r',e,q1, ?_,q3⟩
   show (w.heap.setIfInBounds r (.deferred none))[r']? = _
   rw [Array.getElem?_setIfInBounds_ne hne]
   exact q2
  obtain ⟨w',k1,k2,k3,k4,k5,k6,k7⟩:=unwind_marks ds _ hm2 hr2
  refine ⟨w',k1,by rw [k2];simp,fun cb hc=>?_,k4,k5,k6,.head (st_mark hr1) k7⟩
  rw [k3 cb hc]
  show (w.heap.setIfInBounds r (.deferred none))[cb]? = _
  rw [Array.getElem?_setIfInBounds_ne (by omega)]
theorem Step.unwound {ng n0:Nat} {ρ ρ':Ren} {H H':AHeap} {w w1 w2:World} (s:Step ng n0 ρ H w ρ' H' w1) (hr:Rel ng n0 ρ' H' w2) (hs:w2.heap.size=w1.heap.size)
  (hh:∀ cb,cb < w.heap.size→w2.heap[cb]? = w1.heap[cb]?) (h1:w2.os=w1.os) (h2:w2.tape=w1.tape) (h3:w2.output=w1.output):Step ng n0 ρ H w ρ' H' w2 :=
 ⟨s.ext,s.hn,hr,fun cb hc ho=>(hh cb hc).trans (s.frame cb hc ho),s.img,by rw [hs];exact s.size,h1.trans s.os,h2.trans s.tape,h3.trans s.output⟩
theorem argEnv_rel {ρ:Ren} {args args':Array Value} (h:ARel ρ args args') {nt:Nat} (hn:args.size≤nt):EnvRel ρ nt (argEnv args) (args' ++ Array.replicate (nt - args'.size) undef):=by
 have e:=h.1
 refine ⟨by simp;omega,fun t=>?_⟩
 have:(args' ++ Array.replicate (nt - args'.size) undef).getD t undef=args'.getD t undef:=by
  by_cases ht:t < args'.size
  ·simp [Array.getD,ht,Nat.lt_add_right,Array.getElem_append_left ht]
  ·simp only [Array.getD,ht,dif_neg,not_false_eq_true]
   split
   ·rename_i h1
    have:=Array.getElem_append_right (xs:=args') (ys:=Array.replicate (nt - args'.size) undef) (i:=t) (hle:=by omega) (h:=h1)
    exact this.trans (by simp)
   ·rfl
 rw [this]
 exact h.getD t (undef_rel ρ)
theorem roundEnv_rel {ρ:Ren} {nt:Nat}:∀ (ps:List Tmp) (as as':List Value) (env:Env) (a:Array Value),(∀ t,t∈ps→t < nt)→as.length=as'.length →
  (∀ i (h:i < as.length) (h':i < as'.length),VRel ρ as[i] as'[i])→EnvRel ρ nt env a →
  EnvRel ρ nt ((ps.zip as).foldl (fun e p=>e.put p.1 p.2) env) ((ps.zip as').foldl (fun tmps p=>tmps.setIfInBounds p.1 p.2) a)
 | [],as,as',env,a,_,_,_,he=>by simpa using he
 | p :: ps,[],[],env,a,_,_,_,he=>by simpa using he
 | p :: ps,x :: as,x' :: as',env,a,hp,hl,hv,he=>by
  simp only [List.zip_cons_cons,List.foldl_cons]
  refine roundEnv_rel ps as as' _ _ (fun t ht=>hp t (by simp [ht])) (by simpa using hl) (fun i h h'=>?_) (he.put (hp p (by simp)) (hv 0 (by simp) (by simp)))
  have:=hv (i + 1) (by simpa using h) (by simpa using h')
  simpa using this
 | p :: ps,[],x' :: as',env,a,_,hl,_,_=>by simp at hl
 | p :: ps,x :: as,[],env,a,_,hl,_,_=>by simp at hl
theorem Marks.none {ρ:Ren} {N:Nat} {w:World} {B:Nat}:Marks ρ N w B []:=⟨fun d hd=>by simp at hd,.nil⟩
theorem fn_sim {P:Program} {ng:Nat} {C:CallRel} (hmix:P.follows .mixedOrders=true) (hC:CallSim P ng C) (hT:CallTop C) {n0:Nat} {f:FuncId} {args:Array Value} {H H':AHeap} {v:Value}
  {fn:Func} {c:Code} {ex:Ex} {env1:Env} (e1:P.funcs[f]? = some fn) (e2:fn.body=some c) (e3:args.size≤fn.ntmps) (hok:codeOk ng fn.ntmps c=true)
  (hrun:ARun P C ng fn.ntmps c (argEnv args) H ex env1 H') (hex:ex=.normal∨ex=.ret) (hres:resultsA P fn env1 H'=some v)
  {ρ:Ren} {w:World} {args':Array Value} (hr:Rel ng n0 ρ H w) (ha:ARel ρ args args') (hf:Fresh ρ H H') (cs:List Frame) :
  ∃ ρ' w' v' fr,Step ng n0 ρ H w ρ' H' w'∧VRel ρ' v v'∧Steps P (lone (Frame.enter P f args' .normal) cs w) (lone fr cs w')∧fr.fn=f∧fr.leaving P w' (.returned v'):=by
 have hent:Frame.enter P f args' .normal=(⟨f,.normal,none⟩:FB).at (args' ++ Array.replicate (fn.ntmps - args'.size) undef) [] [.code c]:=by
  simp [Frame.enter,FB.at,e1,e2]
 obtain ⟨ρ1,w1,a1,ds1,s1,he1,m1,_,l1⟩:=arun_sim hmix hC hT hrun n0 w.heap.size ⟨f,.normal,none⟩ ρ w _ [] (.code c) [] cs hok (.inl rfl) (.inl rfl) hr (argEnv_rel ha e3) hf Marks.none (Nat.le_refl _)
 have hret:∃ todo,Steps P (lone (Frame.enter P f args' .normal) cs w) (lone { (⟨f,.normal,none⟩:FB).at a1 ds1 todo with mode:=.returning } cs w1):=by
  rw [hent]
  rcases hex with rfl|rfl
  ·exact ⟨[],Steps.trans l1 (.one (st_retN rfl))⟩
  ·obtain ⟨k2,l1⟩:=l1
   exact ⟨_,Steps.trans l1 (.one (st_retR rfl))⟩
 obtain ⟨todo,hret⟩:=hret
 obtain ⟨w2,r1,r2,r3,r4,r5,r6,r7⟩:=unwind_marks (P:=P) (b:=⟨f,.normal,none⟩) (a:=a1) (todo:=todo) (cs:=cs) ds1 w1 m1 s1.rel
 obtain ⟨v',q1,q2⟩:=results_sim r1 he1 hres
 exact ⟨ρ1,w2,v',_,s1.unwound r1 r2 r3 r4 r5 r6,q2,hret.trans r7,rfl,rfl,rfl,rfl,fn,e1,q1⟩
theorem run_callFunc_go {P : Program} {f : FuncId} {fn : Func} {c : Code} (e1 : P.funcs[f]? = some fn) (e2 : fn.body = some c) (e3 : (fn.name == "runtime.NumGoroutine") = false) (args : Array Value) (w : World) :
  (callFunc f args).run P w=.ok (.enter f args) w:=by
 simp only [callFunc,Sem.run_bind,run_program,Result.andThen_ok,e1,e3,e2,Option.isNone_some,Bool.false_eq_true,if_false,Sem.run_pure]
theorem callN_sim {P:Program} {ng:Nat} {Or:OrRel} (hmix:P.follows .mixedOrders=true) (hO:OrTop Or) (hS:OrSim P ng Or):∀ n,CallSim P ng (CallN P Or ng n)
 | 0=>fun _ _ _ _ _ _ h=>h.elim
 | n + 1=>fun n0 t args H v H' h ρ w t' args' hr ht ha hf cl cs=>by
  have hC:=callN_sim hmix hO hS n
  have hT:=callN_top (P:=P) hO (ng:=ng) n
  cases t with
  | fn f =>
   cases t' with
   | yield l=>exact ht.elim
   | fn g =>
    cases ht
    rcases h with h|⟨fn,c,ex,env1,e1,e2,e4,e3,hok,hrun,hex,hres⟩
    ·exact hS n0 f args H v H' h ρ w args' hr ha hf cl cs
    ·obtain ⟨ρ1,w1,v',fr,s1,q1,q2,q3,q4⟩:=fn_sim hmix hC hT e1 e2 e3 hok hrun hex hres hr ha hf (cl :: cs)
     exact ⟨ρ1,w1,v',s1,q1,.enter f args',_,run_callFunc_go e1 e2 e4 _ _,rfl,q2.trans (.one (step_leave_returned q4))⟩
  | yield l =>
   cases t' with
   | fn g=>exact ht.elim
   | yield l' =>
    obtain ⟨im,hρ,rfl⟩:=ht
    obtain ⟨nt,env,ps,asg,body,st,pend,env1,H1,ps1,a1,b1,e1,ex,env2,H2,e3,ps3,a3,b3,st3,pend3,h0,hsz,hps,o1,o2,o3,o4,h1,h2,h3,h4,rfl,rfl⟩:=h
    have hl:l < H.n:=Top.lt hr.tp (by rw [h0];simp)
    have hb:=hr.blk l im hρ hl
    rw [h0] at hb
    obtain ⟨hro,hgr,r,hr1,rfl,rfl,rfl,r4,r5,r6⟩:=hb
    have t1:=arun_top hT h1 hr.tp
    have hl1:l < H1.n:=Nat.lt_of_lt_of_le hl t1.2
    have t2:=arun_top hT h3 (t1.1.put hl1 _)
    have hl2:l < H2.n:=Nat.lt_of_lt_of_le hl1 t2.2
    -- the assignment
    have hf1:Fresh ρ H H1:=hf.left t2.2
    have he0:EnvRel ρ nt (roundEnv r.params args env) ((r.params.zip args').foldl (fun tmps (t,a)=>tmps.setIfInBounds t a) r.tmps):=by
     have:=roundEnv_rel (ρ:=ρ) (nt:=nt) r.params.toList args.toList args'.toList env r.tmps (fun t ht=>by
      rw [Array.all_eq_true_iff_forall_mem] at hps
      simpa using hps t (by simpa using ht)) (by simpa using ha.1) (fun i h h'=>by simpa using ha.2 i (by simpa using h) (by simpa using h')) r6
     rw [← Array.foldl_toList,Array.toList_zip]
     exact this
    obtain ⟨ρ1,w1,x1,ds1,s1,he1,m1,n1,l1⟩:=arun_sim hmix hC hT h1 n0 w.heap.size ⟨r.fn,.normal,some im.blk⟩ ρ w _ [] (.code r.assign) [.beginRound,.code r.body] (cl :: cs) o1 (.inr o3) (.inl rfl) hr he0 hf1 Marks.none (Nat.le_refl _)
    cases n1 o3
    have hρ1:=(s1.ext l (.inl hl)).trans hρ
    have hb1:=s1.rel.blk l im hρ1 hl1
    rw [h2] at hb1
    obtain ⟨_,_,r',hr1',p1,p2,p3,p4,p5,p6⟩:=hb1
    have s2:=step_obj s1.rel hρ1 hl1 hro hgr (.loop nt e1 ps1 a1 b1 .busy pend3) (.loop { r' with state:=.busy })
     ⟨hro,hgr,{ r' with state:=.busy },by
      have:=(Array.getElem?_eq_some_iff.1 hr1').1
      simp only at this ⊢
      rw [Array.getElem?_setIfInBounds_self_of_lt this],p1,p2,p3,rfl,p5,p6⟩
    have hbeg:(Instr.beginRound im.blk).run P w1=.ok () { w1 with heap:=w1.heap.setIfInBounds im.blk (.loop { r' with state:=.busy }) }:=by
     simp only [Instr.beginRound,Instr.getLoop,Sem.run_bind,run_getObj hr1' (by simp),Result.andThen_ok,Sem.run_pure,run_setObj hr1' (by simp),p4]
    have hf2:Fresh ρ1 (H1.put l (.loop nt e1 ps1 a1 b1 .busy pend3)) H2:=(hf:Fresh ρ H H2).right (s1.trans s2)
    obtain ⟨ρ2,w2,x2,ds2,s3,he2,m2,n2,l2⟩:=arun_sim hmix hC hT h3 n0 w.heap.size ⟨r.fn,.normal,some im.blk⟩ ρ1 _ x1 [] (.code r.body) [] (cl :: cs) o2 (.inr o4) (.inl rfl) s2.rel he1 hf2 Marks.none (s1.trans s2).size
    cases n2 o4
    have hρ2:=(s3.ext l (.inl hl1)).trans hρ1
    have hb2:=s3.rel.blk l im hρ2 hl2
    rw [h4] at hb2
    obtain ⟨_,_,r2,hr2',u1,u2,u3,u4,u5,u6⟩:=hb2
    have s4:=step_obj s3.rel hρ2 hl2 hro hgr (.loop nt e3 ps3 a3 b3 (if ex.jump.isNone=true then .ready else .done) ex.jump) (.loop { r2 with state:=if ex.jump.isNone then .ready else .done,pending:=ex.jump })
     ⟨hro,hgr,{ r2 with state:=if ex.jump.isNone then .ready else .done,pending:=ex.jump },by
      have:=(Array.getElem?_eq_some_iff.1 hr2').1
      simp only at this ⊢
      rw [Array.getElem?_setIfInBounds_self_of_lt this],u1,u2,u3,rfl,rfl,u6⟩
    have hend:(Instr.endRound im.blk ex.jump).run P w2=.ok (.bool ex.jump.isNone) { w2 with heap:=w2.heap.setIfInBounds im.blk (.loop { r2 with state:=if ex.jump.isNone then .ready else .done,pending:=ex.jump }) }:=by
     simp only [Instr.endRound,Instr.getLoop,Sem.run_bind,run_getObj hr2' (by simp),Result.andThen_ok,Sem.run_pure,run_setObj hr2' (by simp)]
    have hgo:=(Steps.trans l1 (.one (st_beginRound (b:=⟨r.fn,.normal,some im.blk⟩) rfl hbeg)))
    refine ⟨ρ2,_,.bool ex.jump.isNone,((s1.trans s2).trans s3).trans s4,.flat rfl,.round im.blk r.fn _ r.assign r.body,_, ?_,rfl,Steps.trans (m₁:=lone ((⟨r.fn,.normal,some im.blk⟩:FB).at x1 [] [.code r.body]) (cl :: cs) _) hgo ?_⟩
    ·have hsz':¬ args'.size≠r.params.size:=by rw [← ha.1,hsz];simp
     simp only [semOf,Instr.yield,Instr.getLoop,Sem.run_bind,run_getObj hr1 (by simp),Result.andThen_ok,Sem.run_pure,if_neg hsz']
    ·cases ex with
     | normal=>exact Steps.trans l2 (.one (st_roundN (b:=⟨r.fn,.normal,some im.blk⟩) rfl rfl hend cl))
     | exit id =>
      obtain ⟨k2,q1,l2⟩:=l2
      exact Steps.trans l2 (.one (st_roundE (b:=⟨r.fn,.normal,some im.blk⟩) rfl rfl (q1.trans rfl) hend cl))
     | ret =>
      obtain ⟨k2,l2⟩:=l2
      exact Steps.trans l2 (.one (st_roundR (b:=⟨r.fn,.normal,some im.blk⟩) rfl rfl hend cl))
structure Gh where
 it:Nat
 es:List (Value×Value)
 seen:List Nat
def GhRel (ρ:Ren) (N S:Nat) (w:World):Option Gh→Prop
 | none=>True
 | some g=>∃ im m es' clk sn,ρ g.it=some im∧g.it < N∧im.base=0∧S≤im.blk∧¬ Owned ρ N im.blk∧¬ Owned ρ N m ∧
   w.heap[im.blk]? = some (.mapIter (some m) clk sn clk)∧w.heap[m]? = some (.map es' clk)∧EntRel ρ g.es es'∧BornOk es' clk ∧
   (∀ i (h:i < es'.size),es'[i].born∈sn.toList↔i∈g.seen)∧∀ i l,g.seen=i :: l→∃ h:i < es'.size,sn.back? = some es'[i].born
theorem GhRel.step {ng n0 S:Nat} {ρ ρ':Ren} {H H':AHeap} {w w':World} {g:Option Gh} (h:GhRel ρ H.n S w g) (s:Step ng n0 ρ H w ρ' H' w') (hl:Le ρ ρ'):GhRel ρ' H'.n S w' g:=by
 cases g with
 | none=>trivial
 | some g =>
  obtain ⟨im,m,es',clk,sn,h1,h2,h3,h4,h5,h6,h7,h8,h9,h10,h11,h12⟩:=h
  have l1:im.blk < w.heap.size:=(Array.getElem?_eq_some_iff.1 h7).1
  have l2:m < w.heap.size:=(Array.getElem?_eq_some_iff.1 h8).1
  exact ⟨im,m,es',clk,sn,hl _ _ h1,Nat.lt_of_lt_of_le h2 s.hn,h3,h4,fun q=>h5 (s.own _ l1 q),fun q=>h6 (s.own _ l2 q),(s.frame _ l1 h5).trans h7,(s.frame _ l2 h6).trans h8,h9.mono hl,h10,h11,h12⟩
def Ren.froz (ρ:Ren) (m:Nat):Ren:=fun b=>if b=m then (ρ b).map fun im=>{ im with ro:=true } else ρ b
theorem Ren.froz_some {ρ:Ren} {m b:Nat} {im:Img} (h:ρ b=some im):∃ im',(ρ.froz m) b=some im'∧im'.blk=im.blk∧im'.base=im.base∧im'.sz=im.sz∧im'.gr=im.gr∧im'.grp=im.grp∧im'.esz=im.esz:=by
 unfold Ren.froz
 split
 ·rw [h];exact ⟨_,rfl,rfl,rfl,rfl,rfl,rfl,rfl⟩
 ·exact ⟨im,h,rfl,rfl,rfl,rfl,rfl,rfl⟩
theorem FRel.froz {ρ:Ren} {m:Nat} {f f':Fn} (h:FRel ρ f f'):FRel (ρ.froz m) f f':=by
 cases h with
 | func f=>exact .func f
 | yield h =>
  obtain ⟨im',e,e1,_⟩:=Ren.froz_some (m:=m) h
  rw [← e1]
  exact .yield e
theorem VRel.froz {ρ:Ren} {m:Nat} {v v':Value} (h:VRel ρ v v'):VRel (ρ.froz m) v v':=by
 induction h with
 | flat h=>exact .flat h
 | ptr h =>
  obtain ⟨im',e,e1,e2,_⟩:=Ren.froz_some (m:=m) h
  rw [← e1,← e2]
  exact .ptr e
 | slice h hc hn =>
  obtain ⟨im',e,e1,e2,e3,e4,e5,e6⟩:=Ren.froz_some (m:=m) h
  rw [← e1,← e2]
  refine .slice e ?_ hn
  unfold capOk at hc ⊢
  rw [e2,e3,e4,e6]
  exact hc
 | empty ho=>exact .empty ho
 | map h =>
  obtain ⟨im',e,e1,_⟩:=Ren.froz_some (m:=m) h
  rw [← e1]
  exact .map e
 | func hf hs hs2 _ _ iha ihc=>exact .func hf.froz hs hs2 iha ihc
 | agg hs hsc _ ih=>exact .agg hs hsc ih
 | tuple hs _ ih=>exact .tuple hs ih
 | iface _ ih=>exact .iface ih
theorem EnvRel.froz {ρ:Ren} {m nt:Nat} {env:Env} {a:Array Value} (h:EnvRel ρ nt env a):EnvRel (ρ.froz m) nt env a:=⟨h.1,fun t=>(h.2 t).froz⟩
theorem EntRel.froz {ρ:Ren} {m:Nat} {es:List (Value×Value)} {es':Array MapEntry} (h:EntRel ρ es es'):EntRel (ρ.froz m) es es':=⟨h.1,fun i h1 h2=>⟨(h.2 i h1 h2).1,(h.2 i h1 h2).2.froz⟩⟩
theorem BlkRel.froz {ρ:Ren} {m:Nat} {w:World} {o:AObj} {im:Img} (h:BlkRel ρ w o im):BlkRel (ρ.froz m) w o im:=by
 cases o with
 | dead=>trivial
 | cells c T k =>
  obtain ⟨h1,c',T',fz,h2,h3,h4,h5,h6⟩:=h
  refine ⟨h1,c',T',fz,h2,h3,h4,h5,fun hk i hi=>?_⟩
  obtain ⟨v',q1,q2,q3⟩:=h6 hk i hi
  exact ⟨v',q1,q2.froz,q3⟩
 | map es =>
  obtain ⟨h1,h2,es',clk,h3,h4⟩:=h
  exact ⟨h1,h2,es',clk,h3,h4.1.froz,h4.2⟩
 | iter s pos=>exact h
 | loop nt env ps asg body st pend =>
  obtain ⟨h1,h2,r,h3,h4,h5,h6,h7,h8,h9⟩:=h
  exact ⟨h1,h2,r,h3,h4,h5,h6,h7,h8,h9.froz⟩
def AHeap.rng (H:AHeap) (m:Nat):AHeap:=⟨H.n + 1,fun b=>if b=m then .dead else H.get b⟩
def rngImg (w:World):Img:={ blk:=w.heap.size,base:=0,sz:=0,ro:=true,gr:=false,grp:=0,esz:=0 }
theorem range_start {ng n0:Nat} {ρs ρ:Ren} {Hs H:AHeap} {ws w:World} (s:Step ng n0 ρs Hs ws ρ H w) {m:Nat} {im:Img} {es:List (Value×Value)} (hm:ρ m=some im) (hg:H.get m=.map es) (hN:Hs.n≤m) (hf:ρ H.n=none) (B:Nat) (ds:List Deferred) (hmk:Marks ρ H.n w B ds) :
  ∃ clk,Step ng n0 ρs Hs ws ((ρ.froz m).add H.n (rngImg w)) (H.rng m) (w.alloc (.mapIter (some im.blk) clk #[] clk))∧GhRel ((ρ.froz m).add H.n (rngImg w)) (H.rng m).n ws.heap.size (w.alloc (.mapIter (some im.blk) clk #[] clk)) (some ⟨H.n,es,[]⟩) ∧
   (∃ es',w.heap[im.blk]? = some (.map es' clk))∧Marks ((ρ.froz m).add H.n (rngImg w)) (H.rng m).n (w.alloc (.mapIter (some im.blk) clk #[] clk)) B ds:=by
 have hr:=s.rel
 have hlt:m < H.n:=Top.lt hr.tp (by rw [hg];simp)
 have hb:=hr.blk m im hm hlt
 rw [hg] at hb
 obtain ⟨hro,hgr,es',clk,h3,h4,h5⟩:=hb
 refine ⟨clk, ?_⟩
 have hffn:(ρ.froz m) H.n=none:=by
  unfold Ren.froz
  rw [if_neg (by omega),hf]
 have hinv:∀ b i,((ρ.froz m).add H.n (rngImg w)) b=some i→(b=H.n∧i=rngImg w)∨(b=m∧i = { im with ro:=true })∨(b≠H.n∧b≠m∧ρ b=some i):=by
  intro b i e
  unfold Ren.add at e
  split at e
  ·rename_i q;exact .inl ⟨q,by cases e;rfl⟩
  ·rename_i q
   unfold Ren.froz at e
   split at e
   ·rename_i q2
    subst q2
    rw [hm] at e
    exact .inr (.inl ⟨rfl,by cases e;rfl⟩)
   ·rename_i q2;exact .inr (.inr ⟨q,q2,e⟩)
 have alone:∀ b i,ρ b=some i→b≠m→i.blk≠im.blk:=by
  intro b i e hne q
  rcases hr.apart b m i im e hm hne q with ⟨_,x⟩|⟨_,x,_⟩
  ·rw [hro] at x;cases x
  ·rw [hgr] at x;cases x
 have nown:∀ r N,Owned ((ρ.froz m).add H.n (rngImg w)) N r→∃ b i,b≠H.n∧b≠m∧ρ b=some i∧b < N∧i.blk=r∧i.ro=false:=by
  rintro r N ⟨b,i,e,hb,hblk,hi⟩
  rcases hinv b i e with ⟨_,rfl⟩|⟨_,rfl⟩|⟨q1,q2,q3⟩
  ·cases hi
  ·cases hi
  ·exact ⟨b,i,q1,q2,q3,hb,hblk,hi⟩
 have hsz:=World.size_alloc w (.mapIter (some im.blk) clk #[] clk)
 have hle:Le (ρ.froz m) ((ρ.froz m).add H.n (rngImg w)):=Ren.le_add hffn
 have sn:=s.hn
 have ssz:=s.size
 refine ⟨⟨?_,by show Hs.n≤H.n + 1;omega,⟨?_, ?_, ?_, ?_, ?_, ?_, ?_, ?_⟩, ?_, ?_,by rw [hsz];omega,s.os,s.tape,s.output⟩, ?_,⟨es',h3⟩, ?_⟩
 ·intro b hb
  have hb:b < Hs.n∨H.n + 1≤b:=hb
  unfold Ren.add Ren.froz
  rw [if_neg (by omega),if_neg (by omega)]
  exact s.ext b (by omega)
 ·intro b i e hbn
  have hbn:b < H.n + 1:=hbn
  show BlkRel _ _ (if b=m then .dead else H.get b) i
  rcases hinv b i e with ⟨rfl,_⟩|⟨rfl,_⟩|⟨q1,q2,q3⟩
  ·rw [if_neg (by omega),hr.top _ (Nat.le_refl _)];trivial
  ·rw [if_pos rfl];trivial
  ·rw [if_neg q2]
   exact (hr.blk b i q3 (by omega)).froz.mono hle (heap_alloc_old (hr.there b i q3))
 ·intro b1 b2 i1 i2 e1 e2 hne heq
  have new:∀ b i,ρ b=some i→i.blk≠w.heap.size:=fun b i e q=>by have:=hr.there b i e;omega
  have iml:=hr.there m im hm
  rcases hinv b1 i1 e1 with ⟨rfl,rfl⟩|⟨rfl,rfl⟩|⟨q1,q2,q3⟩ <;> rcases hinv b2 i2 e2 with ⟨rfl,rfl⟩|⟨rfl,rfl⟩|⟨r1,r2,r3⟩
  ·exact absurd rfl hne
  ·exact .inl ⟨rfl,rfl⟩
  ·exact absurd heq.symm (new _ _ r3)
  ·exact .inl ⟨rfl,rfl⟩
  ·exact absurd rfl hne
  ·exact absurd heq.symm (alone _ _ r3 r2)
  ·exact absurd heq (new _ _ q3)
  ·exact absurd heq (alone _ _ q3 q2)
  ·exact hr.apart b1 b2 i1 i2 q3 r3 hne heq
 ·intro b i e hi
  rcases hinv b i e with ⟨rfl,rfl⟩|⟨rfl,rfl⟩|⟨q1,q2,q3⟩
  ·cases hi
  ·cases hi
  ·exact hr.fresh b i q3 hi
 ·intro b i e
  rw [hsz]
  rcases hinv b i e with ⟨rfl,rfl⟩|⟨rfl,rfl⟩|⟨q1,q2,q3⟩
  ·show w.heap.size < _;omega
  ·have:=hr.there _ _ hm
   show im.blk < _;omega
  ·have:=hr.there b i q3;omega
 ·rw [hsz];have:=hr.size;omega
 ·intro g hg'
  obtain ⟨i,e,e2,e3⟩:=hr.glob g hg'
  obtain ⟨i',q1,q2,q3,_⟩:=Ren.froz_some (m:=m) e
  exact ⟨i',hle _ _ q1,q2.trans e2,q3.trans e3⟩
 ·intro b hb
  have hb:H.n + 1≤b:=hb
  show (if b=m then AObj.dead else H.get b)=.dead
  split
  ·rfl
  ·exact hr.top b (by omega)
 ·intro b
  show AObj.low (if b=m then AObj.dead else H.get b) b
  split
  ·intro c T g e l q;cases q
  ·exact hr.grp b
 ·intro cb hc ho
  rw [heap_alloc_old (by omega)]
  exact s.frame cb hc ho
 ·intro b i e h1 h2
  rcases hinv b i e with ⟨rfl,rfl⟩|⟨rfl,rfl⟩|⟨q1,q2,q3⟩
  ·exact .inl ssz
  ·rcases s.img b im hm h1 hlt with q|⟨_,b',i',e',l',q,_⟩
   ·exact .inl q
   ·rw [← s.ext b' (.inl l')] at e'
    exact absurd q (alone b' i' e' (by omega))
  ·exact s.img b i q3 h1 (by have h2:b < H.n + 1:=h2;omega)
 ·refine ⟨rngImg w,im.blk,es',clk,#[],Ren.add_self _ _ _,Nat.lt_succ_self _,rfl,ssz,fun q=>?_,fun q=>?_,heap_alloc_new,(heap_alloc_old (hr.there _ _ hm)).trans h3,h4.froz.mono hle,h5,fun i h=>by simp,fun i l h=>by cases h⟩
  ·obtain ⟨b,i,_,_,e,_,q,_⟩:=nown _ _ q
   have:=hr.there b i e
   have q:i.blk=w.heap.size:=q
   omega
  ·obtain ⟨b,i,_,q2,e,_,q,_⟩:=nown _ _ q
   exact alone b i e q2 q
 ·refine ⟨fun d hd=>?_,hmk.pair⟩
  obtain ⟨r,e,hb',hr',ho⟩:=hmk.all d hd
  refine ⟨r,e,hb',(heap_alloc_old (Array.getElem?_eq_some_iff.1 hr').1).trans hr',fun q=>?_⟩
  obtain ⟨b,i,q1,q2,e,q3,q4,q5⟩:=nown _ _ q
  exact ho ⟨b,i,e,by have q3:b < H.n + 1:=q3;omega,q4,q5⟩
theorem iter_step {ng n0:Nat} {ρs ρ:Ren} {Hs H:AHeap} {ws w:World} (s:Step ng n0 ρs Hs ws ρ H w) {r x:Nat} {m:Option Nat} {sn:Array Nat} {y:Nat} (hr:w.heap[r]? = some (.mapIter m x sn y)) (ob:Obj) (hS:ws.heap.size≤r) (d:Nat) :
  Step ng n0 ρs Hs ws ρ H { w with heap:=w.heap.setIfInBounds r ob,drawn:=d }:=by
 have h:=s.rel
 refine ⟨s.ext,s.hn,⟨fun b im e hb=>?_,h.apart,h.fresh,fun b im e=>by simp;exact h.there b im e,by simp;exact h.size,h.glob,h.top,h.grp⟩,fun cb hc ho=>?_,s.img,by simp;exact s.size,s.os,s.tape,s.output⟩
 ·have hold:=h.blk b im e hb
  by_cases hne:im.blk=r
  ·cases hg:H.get b with
   | dead=>trivial
   | cells c T k=>rw [hg] at hold;obtain ⟨_,c',T',fz,h2,_⟩:=hold;rw [hne,hr] at h2;cases h2
   | map es=>rw [hg] at hold;obtain ⟨_,_,_,_,h2,_⟩:=hold;rw [hne,hr] at h2;cases h2
   | iter s p=>rw [hg] at hold;have h2:=hold.2.2.2;rw [hne,hr] at h2;cases h2
   | loop _ _ _ _ _ _ _=>rw [hg] at hold;obtain ⟨_,_,_,h2,_⟩:=hold;rw [hne,hr] at h2;cases h2
  ·exact hold.mono (Le.refl _) (by
    show (w.heap.setIfInBounds r ob)[im.blk]? = _
    rw [Array.getElem?_setIfInBounds_ne (fun e=>hne e.symm)])
 ·show (w.heap.setIfInBounds r ob)[cb]? = _
  rw [Array.getElem?_setIfInBounds_ne (by omega)]
  exact s.frame cb hc ho
theorem run_choose {P:Program} {n:Nat} (hn:0 < n) (w:World):∃ r d,r < n∧(choose (.mapNext n)).run P w=.ok r { w with drawn:=d }:=by
 by_cases h:n≤1
 ·exact ⟨0,w.drawn,hn,by simp [choose,Sem.run,Question.forced,h]⟩
 ·exact ⟨w.tape w.drawn (.mapNext n) % n,w.drawn + 1,Nat.mod_lt _ hn,by simp [choose,Sem.run,Question.forced,Question.cut,h]⟩
theorem nextM_run {P:Program} {ρ:Ren} {N S:Nat} {w:World} {g:Gh} (h:GhRel ρ N S w (some g)) {x':Value} (hx:VRel ρ (vptr g.it 0) x') (ty:TypeId) (hk:∀ p,p∈g.es→dflat p.1=true) :
  ∃ r m clk sn sn2 d v v',w.heap[r]? = some (.mapIter m clk sn clk)∧S≤r∧¬ Owned ρ N r∧VRel ρ v v' ∧
   (Instr.next x' false ty).run P w=.ok v' { w with heap:=w.heap.setIfInBounds r (.mapIter m clk sn2 clk),drawn:=d } ∧
   ((∃ (i:Nat) (hi:i < g.es.length),i∉g.seen∧v=.tuple #[.bool true,g.es[i].1,g.es[i].2]∧GhRel ρ N S { w with heap:=w.heap.setIfInBounds r (.mapIter m clk sn2 clk),drawn:=d } (some ⟨g.it,g.es,i :: g.seen⟩)) ∨
     ((∀ i,i < g.es.length→i∈g.seen)∧v=.tuple #[.bool false])):=by
 obtain ⟨im,m,es',clk,sn,h1,h2,h3,h4,h5,h6,h7,h8,h9,h10,h11,h12⟩:=h
 obtain ⟨im2,e1,rfl⟩:=hx.ptr_inv
 rw [h1] at e1
 cases e1
 have e0:im.base + 0=0:=by omega
 have hlen:=h9.1
 have hnoent:(!sn.isEmpty && !es'.isEmpty && es'.all (·.born ≥ clk))=false:=by
  cases he:es'.isEmpty with
  | true=>simp
  | false =>
   have h0:0 < es'.size:=by
    rcases Nat.eq_zero_or_pos es'.size with q|q
    ·rw [Array.size_eq_zero_iff] at q;subst q;simp at he
    ·exact q
   have:es'.all (fun e=>decide (e.born ≥ clk))=false:=by
    rw [Array.all_eq_false]
    exact ⟨0,h0,by have:=h10.1 0 h0;simp;omega⟩
   simp only [this,Bool.and_false]
 generalize hleft:es'.filter (fun e=>!sn.contains e.born)=left
 have hmem:∀ e,e∈left↔e∈es'∧e.born∉sn.toList:=by
  intro e
  rw [← hleft,Array.mem_filter]
  simp
 have hold:left.filter (fun e=>decide (e.born < clk))=left:=by
  rw [Array.filter_eq_self]
  intro e he
  obtain ⟨i,hi,rfl⟩:=Array.mem_iff_getElem.1 ((hmem e).1 he).1
  exact decide_eq_true (h10.1 i hi)
 have hnew:left.filter (fun e=>decide (e.born ≥ clk)) = #[]:=by
  rw [Array.filter_eq_empty_iff]
  intro e he
  obtain ⟨i,hi,rfl⟩:=Array.mem_iff_getElem.1 ((hmem e).1 he).1
  have:=h10.1 i hi
  simp;omega
 have hset:∀ sn2 d,w.heap.setIfInBounds im.blk (.mapIter (some m) clk sn2 clk)=(({ w with drawn:=d }:World).heap).setIfInBounds im.blk (.mapIter (some m) clk sn2 clk):=fun _ _=>rfl
 have lim:im.blk < w.heap.size:=(Array.getElem?_eq_some_iff.1 h7).1
 have hself:w.heap.setIfInBounds im.blk (.mapIter (some m) clk sn clk)=w.heap:=by
  apply Array.ext (by simp)
  intro i q1 q2
  rw [Array.getElem_setIfInBounds]
  split
  ·rename_i q
   subst q
   have:=(Array.getElem?_eq_some_iff.1 h7)
   obtain ⟨_,q⟩:=this
   exact q.symm
  ·rfl
 by_cases hl0:left.size=0
 ·have hle:left = #[]:=Array.eq_empty_of_size_eq_zero hl0
  subst hle
  obtain ⟨r,d,hr,hrun⟩:=run_choose (P:=P) (n:=1) (by omega) w
  have r0:r=0:=by omega
  subst r0
  refine ⟨im.blk,some m,clk,sn,sn,d,.tuple #[.bool false],.tuple #[.bool false],h7,h4,h5,.tuple rfl (ARel.one (.flat rfl)).2, ?_,.inr ⟨fun i hi=>?_,rfl⟩⟩
  ·rw [hself,e0]
   simp only [Instr.next,Sem.run_bind,run_getObj h7 (by simp),run_getObj h8 (by simp),Result.andThen_ok,hnoent,Bool.false_eq_true,if_false,hleft,hold,hnew,Sem.run_pure,pure_bind]
   simp [hrun]
  ·have hi':i < es'.size:=by omega
   rw [← h11 i hi']
   by_cases q:es'[i].born∈sn.toList
   ·exact q
   ·have:=(hmem es'[i]).2 ⟨by simp,q⟩
    simp at this
 ·have hne:left.isEmpty=false:=by
   cases hq:left.isEmpty with
   | false=>rfl
   | true=>rw [Array.isEmpty_iff] at hq;subst hq;simp at hl0
  obtain ⟨r,d,hr,hrun⟩:=run_choose (P:=P) (n:=left.size) (by omega) w
  have hin:=(hmem left[r]).1 (by simp)
  obtain ⟨i,hi,hie⟩:=Array.mem_iff_getElem.1 hin.1
  have hi2:i < g.es.length:=by omega
  have hent:=h9.2 i hi2 hi
  refine ⟨im.blk,some m,clk,sn,sn.push left[r].born,d,.tuple #[.bool true,g.es[i].1,g.es[i].2],.tuple #[.bool true,left[r].key,left[r].val],h7,h4,h5, ?_, ?_,.inl ⟨i,hi2, ?_,rfl, ?_⟩⟩
  ·rw [← hie,hent.1]
   have:ARel ρ #[Value.bool true,g.es[i].1,g.es[i].2] #[Value.bool true,g.es[i].1,es'[i].val] :=
    ARel.push (ARel.push (.one (.flat rfl)) (VRel.dflat (hk _ (List.getElem_mem _)))) hent.2
   exact .tuple this.1 this.2
  ·rw [e0]
   have hc:((if left.isEmpty=true then #[none] else #[]) ++ (left ++ #[]).map some)=left.map some:=by simp [hne]
   simp only [Instr.next,Sem.run_bind,run_getObj h7 (by simp),run_getObj h8 (by simp),Result.andThen_ok,hnoent,Bool.false_eq_true,if_false,hleft,hold,hnew,Sem.run_pure,pure_bind,hc,Array.size_map,hrun]
   have hget:(left.map some)[r]? = some (some left[r]):=by simp [hr]
   simp only [hget]
   have h7':({ w with drawn:=d }:World).heap[im.blk]? = some (.mapIter (some m) clk sn clk):=h7
   simp only [Sem.run_bind,run_setObj h7' (by simp),Result.andThen_ok,Sem.run_pure]
  ·intro q
   rw [← h11 i hi,hie] at q
   exact hin.2 q
  ·refine ⟨im,m,es',clk,sn.push left[r].born,h1,h2,h3,h4,h5,h6, ?_, ?_,h9,h10,fun j hj=>?_,fun j l q=>?_⟩
   ·show (w.heap.setIfInBounds im.blk _)[im.blk]? = _
    rw [Array.getElem?_setIfInBounds_self_of_lt lim]
   ·show (w.heap.setIfInBounds im.blk _)[m]? = _
    rw [Array.getElem?_setIfInBounds_ne (fun q=>by rw [← q,h7] at h8;cases h8)]
    exact h8
   ·rw [Array.toList_push,List.mem_append,List.mem_singleton,h11 j hj,List.mem_cons]
    constructor
    ·rintro (q|q)
     ·exact .inr q
     ·rw [← hie] at q
      exact .inl (h10.2 j i hj hi q)
    ·rintro (rfl|q)
     ·right;rw [← hie]
     ·exact .inl q
   ·cases q
    exact ⟨hi,by rw [Array.back?_push,hie]⟩
theorem entryM_run {P:Program} {ρ:Ren} {N S:Nat} {w:World} {it i:Nat} {es:List (Value×Value)} {seen:List Nat} (h:GhRel ρ N S w (some ⟨it,es,i :: seen⟩)) {x':Value} (hx:VRel ρ (vptr it 0) x') (hk:∀ p,p∈es→dflat p.1=true) :
  ∃ (hi:i < es.length) (v':Value),VRel ρ (.tuple #[es[i].1,es[i].2]) v'∧(Instr.entry x').run P w=.ok v' w:=by
 obtain ⟨im,m,es',clk,sn,h1,h2,h3,h4,h5,h6,h7,h8,h9,h10,h11,h12⟩:=h
 obtain ⟨im2,e1,rfl⟩:=hx.ptr_inv
 rw [h1] at e1
 cases e1
 have e0:im.base + 0=0:=by omega
 obtain ⟨hi,hb⟩:=h12 i seen rfl
 have hlen:es.length=es'.size:=h9.1
 have hi2:i < es.length:=by omega
 have hent:=h9.2 i hi2 hi
 refine ⟨hi2,.tuple #[es'[i].key,es'[i].val], ?_, ?_⟩
 ·rw [hent.1]
  have:ARel ρ #[es[i].1,es[i].2] #[es[i].1,es'[i].val]:=ARel.push (.one (VRel.dflat (hk _ (List.getElem_mem _)))) hent.2
  exact .tuple this.1 this.2
 ·have hf:es'.find? (fun e=>e.born == es'[i].born)=some es'[i]:=by
   rw [Array.find?_eq_some_iff_getElem]
   refine ⟨by simp,i,hi,rfl,fun j hj=>?_⟩
   have:¬ es'[j].born=es'[i].born:=fun q=>by have:=h10.2 j i (by omega) hi q;omega
   simp [this]
  rw [e0]
  simp only [Instr.entry,Sem.run_bind,run_getObj h7 (by simp),run_getObj h8 (by simp),Result.andThen_ok,hb,hf,bne_self_eq_false,Bool.false_eq_true,if_false,Sem.run_pure,pure_bind]
end Go.Proofs.Swa
