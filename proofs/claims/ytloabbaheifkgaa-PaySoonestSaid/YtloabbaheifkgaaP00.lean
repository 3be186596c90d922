/- Part 0 of a proof. -/
import Derived.Calls
import Derived.Laws.World
import Derived.Laws.Sem
import Derived.Laws.CopyRow
import Derived.Laws.Rows
set_option linter.unusedVariables false
set_option linter.unusedSimpArgs false
namespace Go.Proofs.Swa
def pr {α:Type} (P:Program):Sem α→Option α
 | .pure a=>some a
 | .program k=>pr P (k P)
 | .mark _ k=>pr P k
 | _=>none
theorem pr_run {α:Type} {P:Program} {s:Sem α} {a:α} (h:pr P s=some a) (w:World):s.run P w=.ok a w:=by
 induction s with
 | pure b=>simp only [pr,Option.some.injEq] at h;subst h;rfl
 | program k ih=>exact ih P h
 | mark m k ih=>exact ih h
 | _=>simp [pr] at h
theorem pr_bind {α β:Type} (P:Program) (s:Sem α) (f:α→Sem β):pr P (s.bind f)=(pr P s).bind fun a=>pr P (f a):=by
 induction s with
 | pure b=>rfl
 | program k ih=>exact ih P
 | mark m k ih=>exact ih
 | _=>rfl
@[simp] theorem pr_bind' {α β:Type} (P:Program) (s:Sem α) (f:α→Sem β):pr P (s >>= f)=(pr P s).bind fun a=>pr P (f a):=pr_bind P s f
@[simp] theorem pr_pure {α:Type} (P:Program) (a:α):pr P (pure a:Sem α)=some a:=rfl
@[simp] theorem pr_program (P:Program):pr P program=some P:=rfl
@[simp] theorem pr_stuck {α:Type} (P:Program) (m:String):pr P (stuck m:Sem α)=none:=rfl
@[simp] theorem pr_unsupported {α:Type} (P:Program) (m:Unsupported):pr P (unsupported m:Sem α)=none:=rfl
structure Img where
 blk:Nat
 base:Nat
 sz:Nat
 ro:Bool
 gr:Bool
 grp:Nat
 esz:Nat
abbrev Ren:=Nat→Option Img
def flat:Value→Bool
 | .bool _|.int _ _|.float _ _|.complex _ _ _|.string _|.pointer none|.slice none _ _|.map none|.chan none|.nilFunc|.nilIface=>true
 | _=>false
def scalar:Value→Bool
 | .agg _|.tuple _=>false
 | _=>true
def capOk (im:Img) (o c c':Nat):Prop :=
 (im.gr=true∧c≤c'∧im.base + o + c' * im.esz≤im.sz)∨(im.gr=false∧c'=c)
inductive FRel (ρ:Ren):Fn→Fn→Prop
 | func (f:FuncId):FRel ρ (.func f) (.func f)
 | yield {l:Nat} {im:Img} (h:ρ l=some im):FRel ρ (.yield l) (.yield im.blk)
inductive VRel (ρ:Ren):Value→Value→Prop
 | flat {v:Value} (h:flat v=true):VRel ρ v v
 | ptr {b o:Nat} {im:Img} (h:ρ b=some im):VRel ρ (.pointer (some ⟨b,o,none⟩)) (.pointer (some ⟨im.blk,im.base + o,none⟩))
 | slice {b o n c c':Nat} {im:Img} (h:ρ b=some im) (hc:capOk im o c c') (hn:n≤c) :
   VRel ρ (.slice (some ⟨b,o,none⟩) n c) (.slice (some ⟨im.blk,im.base + o,none⟩) n c')
 | empty {b o c':Nat} {a':Addr} (ho:0 < o):VRel ρ (.slice (some ⟨b,o,none⟩) 0 0) (.slice (some a') 0 c')
 | map {r:Nat} {im:Img} (h:ρ r=some im):VRel ρ (.map (some r)) (.map (some im.blk))
 | func {fn fn':Fn} {a a' c c':Array Value} (hf:FRel ρ fn fn') (hs:a.size=a'.size) (hs2:c.size=c'.size)
   (ha:∀ i (h:i < a.size) (h':i < a'.size),VRel ρ a[i] a'[i]) (hc:∀ i (h:i < c.size) (h':i < c'.size),VRel ρ c[i] c'[i]) :
   VRel ρ (.func fn a c) (.func fn' a' c')
 | agg {a a':Array Value} (hs:a.size=a'.size) (hsc:∀ i (h:i < a.size),scalar a[i]=true)
   (ha:∀ i (h:i < a.size) (h':i < a'.size),VRel ρ a[i] a'[i]):VRel ρ (.agg a) (.agg a')
 | tuple {a a':Array Value} (hs:a.size=a'.size)
   (ha:∀ i (h:i < a.size) (h':i < a'.size),VRel ρ a[i] a'[i]):VRel ρ (.tuple a) (.tuple a')
 | iface {t:TypeId} {v v':Value} (h:VRel ρ v v'):VRel ρ (.iface t v) (.iface t v')
def Le (ρ ρ':Ren):Prop:=∀ b im,ρ b=some im→ρ' b=some im
theorem Le.refl (ρ:Ren):Le ρ ρ:=fun _ _ h=>h
theorem Le.trans {a b c:Ren} (h:Le a b) (k:Le b c):Le a c:=fun _ _ e=>k _ _ (h _ _ e)
theorem FRel.mono {ρ ρ':Ren} (hl:Le ρ ρ') {f f':Fn} (h:FRel ρ f f'):FRel ρ' f f':=by
 cases h with
 | func f=>exact .func f
 | yield h=>exact .yield (hl _ _ h)
theorem VRel.mono {ρ ρ':Ren} (hl:Le ρ ρ') {v v':Value} (h:VRel ρ v v'):VRel ρ' v v':=by
 induction h with
 | flat h=>exact .flat h
 | ptr h=>exact .ptr (hl _ _ h)
 | slice h hc hn=>exact .slice (hl _ _ h) hc hn
 | empty ho=>exact .empty ho
 | map h=>exact .map (hl _ _ h)
 | func hf hs hs2 _ _ iha ihc=>exact .func (hf.mono hl) hs hs2 iha ihc
 | agg hs hsc _ ih=>exact .agg hs hsc ih
 | tuple hs _ ih=>exact .tuple hs ih
 | iface _ ih=>exact .iface ih
theorem VRel.of_flat {ρ:Ren} {v v':Value} (h:VRel ρ v v') (hf:Swa.flat v=true):v'=v:=by
 cases h <;> simp_all [Swa.flat]
def ARel (ρ:Ren) (a a':Array Value):Prop:=a.size=a'.size∧∀ i (h:i < a.size) (h':i < a'.size),VRel ρ a[i] a'[i]
theorem ARel.mono {ρ ρ':Ren} (hl:Le ρ ρ') {a a':Array Value} (h:ARel ρ a a'):ARel ρ' a a':=⟨h.1,fun i hi hi'=>(h.2 i hi hi').mono hl⟩
theorem ARel.nil (ρ:Ren):ARel ρ #[] #[]:=⟨rfl,fun i h=>absurd h (by simp)⟩
theorem ARel.append {ρ:Ren} {a a' b b':Array Value} (h:ARel ρ a a') (k:ARel ρ b b'):ARel ρ (a ++ b) (a' ++ b'):=by
 refine ⟨by simp [h.1,k.1],fun i hi hi'=>?_⟩
 by_cases hl:i < a.size
 ·have hl':i < a'.size:=h.1 ▸ hl
  rw [Array.getElem_append_left hl,Array.getElem_append_left hl']
  exact h.2 i hl hl'
 ·have e:=h.1
  have hl':a'.size≤i:=by omega
  rw [Array.getElem_append_right (by omega),Array.getElem_append_right hl']
  have:i - a.size=i - a'.size:=by omega
  simp only [this]
  exact k.2 _ _ _
theorem ARel.push {ρ:Ren} {a a':Array Value} {v v':Value} (h:ARel ρ a a') (k:VRel ρ v v'):ARel ρ (a.push v) (a'.push v'):=by
 rw [← Array.append_singleton,← Array.append_singleton]
 exact h.append ⟨rfl,fun i hi hi'=>by
  have:i=0:=by simpa using hi
  subst this;exact k⟩
theorem ARel.one {ρ:Ren} {v v':Value} (k:VRel ρ v v'):ARel ρ #[v] #[v']:=(ARel.nil ρ).push k
theorem ARel.getD {ρ:Ren} {a a':Array Value} (h:ARel ρ a a') (i:Nat) {d d':Value} (hd:VRel ρ d d'):VRel ρ (a.getD i d) (a'.getD i d'):=by
 have e:=h.1
 by_cases hi:i < a.size
 ·have hi':i < a'.size:=e ▸ hi
  simp only [Array.getD,hi,hi',dif_pos]
  exact h.2 i hi hi'
 ·have hi':¬ i < a'.size:=e ▸ hi
  simp only [Array.getD,hi,hi',dif_neg,not_false_eq_true]
  exact hd
theorem ARel.get? {ρ:Ren} {a a':Array Value} (h:ARel ρ a a') {i:Nat} {v:Value} (e:a[i]? = some v):∃ v',a'[i]? = some v'∧VRel ρ v v':=by
 obtain ⟨hi,rfl⟩:=Array.getElem?_eq_some_iff.1 e
 have hi':i < a'.size:=h.1 ▸ hi
 exact ⟨a'[i],Array.getElem?_eq_getElem hi',h.2 i hi hi'⟩
theorem ARel.extract {ρ:Ren} {a a':Array Value} (h:ARel ρ a a') (i j:Nat):ARel ρ (a.extract i j) (a'.extract i j):=by
 have e:=h.1
 refine ⟨by simp [e],fun k hk hk'=>?_⟩
 simp only [Array.getElem_extract]
 exact h.2 _ _ _
theorem ARel.map {ρ:Ren} {α:Type} {l:Array α} {f f':α→Value} (h:∀ x,x∈l→VRel ρ (f x) (f' x)):ARel ρ (l.map f) (l.map f'):=by
 refine ⟨by simp,fun i hi hi'=>?_⟩
 simp only [Array.getElem_map]
 exact h _ (by simp)
theorem undef_rel (ρ:Ren):VRel ρ undef undef:=.tuple rfl fun i h=>absurd h (by simp)
theorem VRel.cells {ρ:Ren} {v v':Value} (h:VRel ρ v v') (ht:∀ a,v≠.tuple a) :
  ARel ρ v.cells v'.cells∧∀ i (hi:i < v.cells.size),scalar v.cells[i]=true:=by
 cases h with
 | agg hs hsc ha=>exact ⟨⟨hs,ha⟩,hsc⟩
 | tuple=>exact absurd rfl (ht _)
 | flat h =>
  have hu:v.cells = #[v]:=by cases v <;> simp_all [Swa.flat,Value.cells]
  rw [hu]
  refine ⟨.one (.flat h),fun i hi=>?_⟩
  have:i=0:=by simpa using hi
  subst this
  cases v <;> simp_all [Swa.flat,scalar]
 | ptr h => exact ⟨.one (.ptr h), fun i hi => by have : i = 0 := by simpa [Value.cells] using hi
                                                 subst this;rfl⟩
 | slice h hc hn => exact ⟨.one (.slice h hc hn), fun i hi => by have : i = 0 := by simpa [Value.cells] using hi
                                                                 subst this;rfl⟩
 | empty ho => exact ⟨.one (.empty ho), fun i hi => by have : i = 0 := by simpa [Value.cells] using hi
                                                       subst this;rfl⟩
 | map h => exact ⟨.one (.map h), fun i hi => by have : i = 0 := by simpa [Value.cells] using hi
                                                 subst this;rfl⟩
 | func hf hs hs2 ha hc => exact ⟨.one (.func hf hs hs2 ha hc), fun i hi => by have : i = 0 := by simpa [Value.cells] using hi
                                                                               subst this;rfl⟩
 | iface h => exact ⟨.one (.iface h), fun i hi => by have : i = 0 := by simpa [Value.cells] using hi
                                                     subst this;rfl⟩
inductive Kd where
 | ro
 | ex
 | gr (g e:Nat) (live:Bool)
abbrev Env:=Nat→Value
def Env.put (env:Env) (t:Nat) (v:Value):Env:=fun s=>if s=t then v else env s
def Env.set (env:Env) (d:Option Tmp) (v:Value):Env:=match d with|some t=>env.put t v|none=>env
def ev (env:Env):Operand→Value
 | .tmp t=>env t
 | .const v=>v
 | .global g=>.pointer (some ⟨g,0,none⟩)
 | .func f=>.func (.func f) #[] #[]
inductive AObj where
 | dead
 | cells (c:List Value) (T:TypeId) (k:Kd)
 | map (es:List (Value×Value))
 | iter (s:ByteArray) (pos:Nat)
 | loop (nt:Nat) (env:Env) (ps:Array Tmp) (asg body:Code) (st:LoopState) (pend:Option Code)
structure AHeap where
 n:Nat
 get:Nat→AObj
def AHeap.alloc (H:AHeap) (o:AObj):AHeap:=⟨H.n + 1,fun c=>if c=H.n then o else H.get c⟩
def AHeap.put (H:AHeap) (b:Nat) (o:AObj):AHeap:=⟨H.n,fun c=>if c=b then o else H.get c⟩
def AObj.killed (g:Nat):AObj→AObj
 | .cells c T (.gr g' e l)=>if g'=g then .cells c T (.gr g' e false) else .cells c T (.gr g' e l)
 | o=>o
def AHeap.kill (H:AHeap) (g b:Nat):AHeap:=⟨H.n,fun c=>if c=b then H.get c else if c < g then H.get c else (H.get c).killed g⟩
def AObj.cut (g p:Nat):AObj→AObj
 | .cells c T (.gr g' e l)=>if g'=g∧p < c.length then .cells c T (.gr g' e false) else .cells c T (.gr g' e l)
 | o=>o
def AHeap.cut (H:AHeap) (g p:Nat):AHeap:=⟨H.n,fun c=>if c < g then H.get c else (H.get c).cut g p⟩
def AObj.low (o:AObj) (b:Nat):Prop:=∀ c T g e l,o=.cells c T (.gr g e l)→g≤b
def Gr (H:AHeap):Prop:=∀ b,(H.get b).low b
theorem Gr.kill {H:AHeap} (h:Gr H) (g b c:Nat):(H.kill g b).get c=if c=b then H.get c else (H.get c).killed g:=by
 simp only [AHeap.kill]
 split
 ·rfl
 ·split
  ·rename_i hc
   have:=h c
   unfold AObj.killed
   split
   ·rename_i c' T g' e l he
    have:=this _ _ _ _ _ he
    rw [if_neg (by omega),he]
   ·rfl
  ·rfl
theorem Gr.cut {H:AHeap} (h:Gr H) (g p c:Nat):(H.cut g p).get c=(H.get c).cut g p:=by
 simp only [AHeap.cut]
 split
 ·rename_i hc
  have:=h c
  unfold AObj.cut
  split
  ·rename_i c' T g' e l he
   have:=this _ _ _ _ _ he
   rw [if_neg (by omega),he]
  ·rfl
 ·rfl
theorem AObj.low_killed {o:AObj} {b:Nat} (h:o.low b) (g:Nat):(o.killed g).low b:=by
 intro c T g' e l he
 unfold AObj.killed at he
 split at he
 ·split at he <;> (cases he;exact h _ _ _ _ _ rfl)
 ·exact h _ _ _ _ _ he
theorem AObj.low_cut {o:AObj} {b:Nat} (h:o.low b) (g p:Nat):(o.cut g p).low b:=by
 intro c T g' e l he
 unfold AObj.cut at he
 split at he
 ·split at he <;> (cases he;exact h _ _ _ _ _ rfl)
 ·exact h _ _ _ _ _ he
theorem Gr.kill' {H:AHeap} (h:Gr H) (g b:Nat):Gr (H.kill g b):=by
 intro c
 rw [h.kill]
 split
 ·exact h c
 ·exact AObj.low_killed (h c) g
theorem Gr.cut' {H:AHeap} (h:Gr H) (g p:Nat):Gr (H.cut g p):=by
 intro c
 rw [h.cut]
 exact AObj.low_cut (h c) g p
theorem Gr.put {H:AHeap} (h:Gr H) {b:Nat} {o:AObj} (ho:o.low b):Gr (H.put b o):=by
 intro c
 simp only [AHeap.put]
 split
 ·rename_i e;subst e;exact ho
 ·exact h c
theorem Gr.alloc {H:AHeap} (h:Gr H) {o:AObj} (ho:o.low H.n):Gr (H.alloc o):=by
 intro c
 simp only [AHeap.alloc]
 split
 ·rename_i e;subst e;exact ho
 ·exact h c
def AHeap.wr (H:AHeap) (k:Kd) (b:Nat) (o:AObj):AHeap:=match k with
 | .gr g _ _=>(H.kill g b).put b o
 | _=>H.put b o
theorem Gr.wr {H:AHeap} (h:Gr H) {k:Kd} {b:Nat} {o:AObj} (ho:o.low b):Gr (H.wr k b o):=by
 cases k with
 | gr g e l=>exact (h.kill' g b).put ho
 | ex=>exact h.put ho
 | ro=>exact h.put ho
def AHeap.rd (H:AHeap) (b:Nat):Option (List Value) :=
 match H.get b with
 | .cells c _ .ro|.cells c _ .ex|.cells c _ (.gr _ _ true)=>some c
 | _=>none
def Kd.live:Kd→Bool
 | .gr _ _ l=>l
 | _=>true
def Kd.fits (k:Kd) (im:Img):Prop :=
 match k with
 | .ro=>im.ro=true∧im.gr=false
 | .ex=>im.ro=false∧im.gr=false
 | .gr g e _=>im.ro=false∧im.gr=true∧im.grp=g∧im.esz=e∧im.base=0
def EnvRel (ρ:Ren) (nt:Nat) (env:Env) (tmps:Array Value):Prop:=tmps.size=nt∧∀ t,VRel ρ (env t) (tmps.getD t undef)
def CellsRel (ρ:Ren) (c:List Value) (c':Array Value) (base:Nat):Prop :=
 ∀ i (h:i < c.length),∃ v',c'[base + i]? = some v'∧VRel ρ c[i] v'∧scalar c[i]=true
def EntRel (ρ:Ren) (es:List (Value×Value)) (es':Array MapEntry):Prop :=
 es.length=es'.size∧∀ i (h:i < es.length) (h':i < es'.size),es'[i].key=es[i].1∧VRel ρ es[i].2 es'[i].val
def BornOk (es:Array MapEntry) (clk:Nat):Prop :=
 (∀ i (h:i < es.size),es[i].born < clk)∧∀ i j (h:i < es.size) (h':j < es.size),es[i].born=es[j].born→i=j
def fzOk (fz:Nat×Nat) (n:Nat):Prop:=fz.2≤fz.1∨n≤fz.1
theorem fzOk.zero (n:Nat):fzOk (0,0) n:=.inl (Nat.le_refl _)
def BlkRel (ρ:Ren) (w:World) (o:AObj) (im:Img):Prop :=
 match o with
 | .dead=>True
 | .cells c T k=>k.fits im∧∃ c' T' fz,w.heap[im.blk]? = some (.cells c' T' fz)∧c'.size=im.sz∧im.base + c.length≤c'.size ∧
   (im.ro=false→fzOk fz c'.size)∧(k.live=true→CellsRel ρ c c' im.base)
 | .map es=>im.ro=false∧im.gr=false∧∃ es' clk,w.heap[im.blk]? = some (.map es' clk)∧EntRel ρ es es'∧BornOk es' clk
 | .iter s pos=>im.ro=false∧im.gr=false∧im.base=0∧w.heap[im.blk]? = some (.stringIter s pos)
 | .loop nt env ps asg body st pend=>im.ro=false∧im.gr=false∧∃ r:Loop,w.heap[im.blk]? = some (.loop r)∧r.params=ps∧r.assign=asg∧r.body=body ∧
   r.state=st∧r.pending=pend∧EnvRel ρ nt env r.tmps
def Owned (ρ:Ren) (N cb:Nat):Prop:=∃ b im,ρ b=some im∧b < N∧im.blk=cb∧im.ro=false
structure Rel (ng n0:Nat) (ρ:Ren) (H:AHeap) (w:World):Prop where
 blk:∀ b im,ρ b=some im→b < H.n→BlkRel ρ w (H.get b) im
 apart:∀ b₁ b₂ i₁ i₂,ρ b₁=some i₁→ρ b₂=some i₂→b₁≠b₂→i₁.blk=i₂.blk→(i₁.ro=true∧i₂.ro=true)∨(i₁.gr=true∧i₂.gr=true∧i₁.grp=i₂.grp)
 fresh:∀ b im,ρ b=some im→im.ro=false→n0≤im.blk
 there:∀ b im,ρ b=some im→im.blk < w.heap.size
 size:n0≤w.heap.size
 glob:∀ g,g < ng→∃ im,ρ g=some im∧im.blk=g∧im.base=0
 top:∀ b,H.n≤b→H.get b=.dead
 grp:Gr H
structure Step (ng n0:Nat) (ρ:Ren) (H:AHeap) (w:World) (ρ':Ren) (H':AHeap) (w':World):Prop where
 ext:∀ b,b < H.n∨H'.n≤b→ρ' b=ρ b
 hn:H.n≤H'.n
 rel:Rel ng n0 ρ' H' w'
 frame:∀ cb,cb < w.heap.size→¬ Owned ρ H.n cb→w'.heap[cb]? = w.heap[cb]?
 img:∀ b im,ρ' b=some im→H.n≤b→b < H'.n→w.heap.size≤im.blk∨(im.ro=false∧Owned ρ H.n im.blk)
 size:w.heap.size≤w'.heap.size
 os:w'.os=w.os
 tape:w'.tape=w.tape
 output:w'.output=w.output
def Fresh (ρ:Ren) (H H':AHeap):Prop:=∀ b,H.n≤b→b < H'.n→ρ b=none
theorem Step.le {ng n0:Nat} {ρ ρ':Ren} {H H':AHeap} {w w':World} (h:Step ng n0 ρ H w ρ' H' w') (hf:Fresh ρ H H'):Le ρ ρ':=by
 intro b im e
 rw [h.ext b ?_]
 ·exact e
 ·by_cases hb:b < H.n
  ·exact .inl hb
  ·by_cases hb':H'.n≤b
   ·exact .inr hb'
   ·rw [hf b (by omega) (by omega)] at e;cases e
theorem Step.own {ng n0:Nat} {ρ ρ':Ren} {H H':AHeap} {w w':World} (h:Step ng n0 ρ H w ρ' H' w') (cb:Nat) (hc:cb < w.heap.size) (ho:Owned ρ' H'.n cb):Owned ρ H.n cb:=by
 obtain ⟨b,im,e,hbn,rfl,hr⟩:=ho
 by_cases hb:b < H.n
 ·rw [h.ext b (.inl hb)] at e;exact ⟨b,im,e,hb,rfl,hr⟩
 ·rcases h.img b im e (by omega) (by omega) with hh|hh
  ·omega
  ·exact hh.2
theorem Step.refl {ng n0:Nat} {ρ:Ren} {H:AHeap} {w:World} (h:Rel ng n0 ρ H w):Step ng n0 ρ H w ρ H w :=
 ⟨fun _ _=>rfl,Nat.le_refl _,h,fun _ _ _=>rfl,fun b im _ h1 h2=>absurd h2 (by omega),Nat.le_refl _,rfl,rfl,rfl⟩
theorem Step.trans {ng n0:Nat} {ρ ρ' ρ'':Ren} {H H' H'':AHeap} {w w' w'':World} (h:Step ng n0 ρ H w ρ' H' w') (k:Step ng n0 ρ' H' w' ρ'' H'' w'') :
  Step ng n0 ρ H w ρ'' H'' w'' where
 ext b hb:=by
  have h1:=h.hn
  have h2:=k.hn
  rw [k.ext b (by omega),h.ext b (by omega)]
 hn:=Nat.le_trans h.hn k.hn
 rel:=k.rel
 frame cb hc ho:=by
  have hs:=h.size
  rw [k.frame cb (by omega) (fun ho'=>ho (h.own cb hc ho')),h.frame cb hc ho]
 img b im e h1 h2:=by
  by_cases hb:b < H'.n
  ·rw [k.ext b (.inl hb)] at e
   exact h.img b im e h1 hb
  ·rcases k.img b im e (by omega) h2 with hh|⟨hr,hh⟩
   ·exact .inl (Nat.le_trans h.size hh)
   ·by_cases hc:im.blk < w.heap.size
    ·exact .inr ⟨hr,h.own _ hc hh⟩
    ·exact .inl (by omega)
 size:=Nat.le_trans h.size k.size
 os:=k.os.trans h.os
 tape:=k.tape.trans h.tape
 output:=k.output.trans h.output
theorem Fresh.left {ρ:Ren} {H H' H'':AHeap} (h:Fresh ρ H H'') (hn:H'.n≤H''.n):Fresh ρ H H':=fun b h1 h2=>h b h1 (by omega)
theorem Fresh.right {ng n0:Nat} {ρ ρ':Ren} {H H' H'':AHeap} {w w':World} (h:Fresh ρ H H'') (s:Step ng n0 ρ H w ρ' H' w'):Fresh ρ' H' H'':=by
 intro b h1 h2
 rw [s.ext b (.inr h1)]
 exact h b (by have:=s.hn;omega) h2
theorem EnvRel.mono {ρ ρ':Ren} (hl:Le ρ ρ') {nt:Nat} {env:Env} {tmps:Array Value} (h:EnvRel ρ nt env tmps):EnvRel ρ' nt env tmps :=
 ⟨h.1,fun t=>(h.2 t).mono hl⟩
theorem EnvRel.put {ρ:Ren} {nt:Nat} {env:Env} {tmps:Array Value} (h:EnvRel ρ nt env tmps) {d:Nat} (hd:d < nt) {v v':Value} (hv:VRel ρ v v') :
  EnvRel ρ nt (env.put d v) (tmps.setIfInBounds d v'):=by
 refine ⟨by simp [h.1],fun t=>?_⟩
 by_cases e:t=d
 ·subst e
  have:t < tmps.size:=h.1 ▸ hd
  simp [Env.put,Array.getD,this,hv]
 ·have:=h.2 t
  simp only [Env.put,e,if_false]
  simp only [Array.getD] at this ⊢
  by_cases hl:t < tmps.size
  ·simp only [Array.size_setIfInBounds,hl,dif_pos] at this ⊢
   rw [Array.getInternal_eq_getElem] at this ⊢
   rw [Array.getElem_setIfInBounds_ne (by simpa using hl) (fun e'=>e e'.symm)]
   exact this
  ·simp only [Array.size_setIfInBounds,hl,dif_neg,not_false_eq_true] at this ⊢
   exact this
def dflat:Value→Bool
 | .agg cs=>cs.all flat
 | v=>flat v
theorem VRel.of_dflat {ρ:Ren} {v v':Value} (h:VRel ρ v v') (hf:dflat v=true):v'=v:=by
 cases h with
 | agg hs hsc ha =>
  rename_i a a'
  simp only [dflat] at hf
  congr 1
  refine (Array.ext hs fun i h1 h2=>?_).symm
  exact ((ha i h1 h2).of_flat (by rw [Array.all_eq_true] at hf;exact hf i h1)).symm
 | flat h=>rfl
 | _=>simp_all [dflat,Swa.flat]
theorem VRel.dflat {ρ:Ren} {v:Value} (hf:Swa.dflat v=true):VRel ρ v v:=by
 cases v with
 | agg cs =>
  simp only [Swa.dflat] at hf
  rw [Array.all_eq_true] at hf
  refine .agg rfl (fun i h=>?_) (fun i h h'=>.flat (hf i h))
  have:=hf i h
  revert this
  cases cs[i] <;> simp [Swa.flat,scalar]
 | _=>exact .flat hf
def tySize (P:Program) (t:TypeId):Option Nat:=(P.info? t).map (·.size)
def tyBytes (P:Program) (t:TypeId):Option Nat:=(P.info? t).map (·.bytes)
def tyZero (P:Program) (t:TypeId):Option Value:=(P.info? t).bind (·.zero)
def tyAgg (P:Program) (t:TypeId):Option Bool:=(P.underlying t).map fun d=>match d with|.struct _|.array _ _=>true|_=>false
def splice (c:List Value) (o:Nat) (l:List Value):List Value:=c.take o ++ l ++ c.drop (o + l.length)
theorem splice_length {c:List Value} {o:Nat} {l:List Value} (h:o + l.length≤c.length):(splice c o l).length=c.length:=by
 simp [splice];omega
theorem splice_get {c:List Value} {o:Nat} {l:List Value} (h:o + l.length≤c.length) (i:Nat) (hi:i < (splice c o l).length) :
  (splice c o l)[i]=if h:o≤i∧i < o + l.length then l[i - o]'(by omega) else c[i]'(by rw [splice_length ‹_›] at hi;exact hi):=by
 rw [splice_length h] at hi
 simp only [splice]
 by_cases h1:i < o
 ·rw [List.getElem_append_left (by simp;omega),List.getElem_append_left (by simp;omega),dif_neg (by omega),List.getElem_take]
 ·by_cases h2:i < o + l.length
  ·rw [List.getElem_append_left (by simp;omega),List.getElem_append_right (by simp;omega),dif_pos (by omega)]
   congr 1
   simp;omega
  ·rw [List.getElem_append_right (by simp;omega),dif_neg (by omega),List.getElem_drop]
   congr 1
   simp;omega
def vptr (b o:Nat):Value:=.pointer (some ⟨b,o,none⟩)
def loadA (P:Program) (t:TypeId) (H:AHeap) (a:Value):Option Value :=
 match a with
 | .pointer (some ⟨b,o,none⟩) =>
  match H.rd b,tyAgg P t,tySize P t with
  | some c,some true,some s=>if o + s≤c.length then some (.agg ((c.drop o).take s).toArray) else none
  | some c,some false,_=>c[o]?
  | _,_,_=>none
 | _=>none
def notTup:Value→Bool
 | .tuple _=>false
 | _=>true
def storeA (P:Program) (t:TypeId) (H:AHeap) (a x:Value):Option AHeap :=
 match a with
 | .pointer (some ⟨b,o,none⟩) =>
  match H.get b,tySize P t with
  | .cells c T k,some s =>
   if notTup x=true∧x.cells.size=s∧o + s≤c.length∧k.live=true then
    match k with
    | .ro=>none
    | _=>some (H.wr k b (.cells (splice c o x.cells.toList) T k))
   else none
  | _,_=>none
 | _=>none
def allocA (P:Program) (t:TypeId) (H:AHeap):Option (Value×AHeap) :=
 match tyZero P t with
 | some z=>if dflat z=true then some (vptr H.n 0,H.alloc (.cells z.cells.toList t .ex)) else none
 | none=>none
def boxA (t:TypeId) (H:AHeap) (x:Value):Option (Value×AHeap) :=
 if notTup x=true then some (vptr H.n 0,H.alloc (.cells x.cells.toList t .ex)) else none
def fillF (place:Nat→Option (Nat×Nat)) (cells:List Value):List (Nat×Value)→Option (List Value)
 | []=>some cells
 | (i,v) :: rest =>
  match place i with
  | none=>none
  | some (off,size) =>
   if notTup v=true∧v.cells.size=size∧off + size≤cells.length then fillF place (splice cells off v.cells.toList) rest else none
def placesF (P:Program) (fs:List Field):Option (List (Nat×Nat)):=fs.mapM fun f=>(tySize P f.type).map fun s=>(f.offset,s)
def buildA (P:Program) (t:TypeId) (parts:List (Nat×Value)):Option Value :=
 match tyZero P t,P.underlying t with
 | some z,some (.struct fs) =>
  if dflat z=true then
   match placesF P fs.toList with
   | some pl=>(fillF (pl[·]?) z.cells.toList parts).map fun c=>.agg c.toArray
   | none=>none
  else none
 | some z,some (.array _ e) =>
  if dflat z=true then
   match tySize P e with
   | some s=>(fillF (fun i=>some (i * s,s)) z.cells.toList parts).map fun c=>.agg c.toArray
   | none=>none
  else none
 | _,_=>none
def zeros (z:List Value) (n:Nat):List Value:=(List.range n).flatMap fun _=>z
def buildSliceA (P:Program) (t:TypeId) (len:Nat) (parts:List (Nat×Value)) (H:AHeap):Option (Value×AHeap) :=
 match P.underlying t with
 | some (.slice e) =>
  match tySize P e,tyZero P e with
  | some s,some z =>
   if dflat z=true∧z.cells.size=s∧0 < s∧len * s≤2 ^ 24 then
    match fillF (fun i=>some (i * s,s)) (zeros z.cells.toList len) parts with
    | some c=>some (.slice (some ⟨H.n,0,none⟩) len len,H.alloc (.cells c e .ex))
    | none=>none
   else none
  | _,_=>none
 | _=>none
def makeSliceA (P:Program) (t:TypeId) (l c:Value) (H:AHeap):Option (Value×AHeap) :=
 match P.underlying t,l,c with
 | some (.slice e),.int _ l,.int _ c =>
  match tySize P e,tyZero P e,tyBytes P e with
  | some s,some z,some by_ =>
   if dflat z=true∧z.cells.size=s∧0 < s∧0≤l∧l≤c∧c≤2 ^ 40∧by_ * c≤2 ^ 40 then
    some (.slice (some ⟨H.n,0,none⟩) l.toNat c.toNat,H.alloc (.cells (zeros z.cells.toList c.toNat) e .ex))
   else none
  | _,_,_=>none
 | _,_,_=>none
def fieldAddrA (P:Program) (s:TypeId) (x:Value) (f:Nat):Option Value :=
 match P.underlying s,x with
 | some (.struct fs),.pointer (some ⟨b,o,none⟩) =>
  match fs[f]? with
  | some fd=>match tySize P fd.type with|some sz=>if sz=0 then none else some (vptr b (o + fd.offset))|none=>none
  | none=>none
 | _,_=>none
def indexAddrA (P:Program) (t:TypeId) (x ix:Value):Option Value :=
 match P.underlying t,x,ix with
 | some (.array len e),.pointer (some ⟨b,o,none⟩),.int _ i =>
  match tySize P e with
  | some s=>if 0≤i∧i < len then some (vptr b (o + i.toNat * s)) else none
  | none=>none
 | some (.slice e),.slice (some ⟨b,o,none⟩) len _,.int _ i =>
  match tySize P e with
  | some s=>if 0≤i∧i < len then some (vptr b (o + i.toNat * s)) else none
  | none=>none
 | _,_,_=>none
def partA (P:Program) (t:TypeId) (cs:List Value) (off:Nat):Option Value :=
 match tyAgg P t,tySize P t with
 | some true,some s=>if off + s≤cs.length then some (.agg ((cs.drop off).take s).toArray) else none
 | some false,_=>cs[off]?
 | _,_=>none
def fieldA (P:Program) (t:TypeId) (x:Value) (f:Nat):Option Value :=
 match P.underlying t,x with
 | some (.struct fs),.agg cs=>match fs[f]? with|some fd=>partA P fd.type cs.toList fd.offset|none=>none
 | _,_=>none
def indexA (P:Program) (t:TypeId) (x ix:Value):Option Value :=
 match P.underlying t,x,ix with
 | some (.array len e),.agg cs,.int _ i =>
  match tySize P e with
  | some s=>if 0≤i∧i < len then partA P e cs.toList (i.toNat * s) else none
  | none=>none
 | some .string,.string s,.int _ i=>if 0≤i then match s[i.toNat]? with|some b=>some (.int .u8 b.toNat)|none=>none else none
 | _,_,_=>none
def extractA (x:Value) (i:Nat):Option Value :=
 match x with
 | .tuple vs=>vs[i]?
 | _=>none
def bnd1 (v:Value) (y:Nat):Option Nat:=match v with|.int _ i=>if 0≤i∧i≤y then some i.toNat else none|_=>none
def bndO (o:Option Value) (y d:Nat):Option Nat:=match o with|some v=>bnd1 v y|none=>some d
def bndsA (len cap:Nat) (lo hi mx:Option Value):Option (Nat×Nat×Nat) :=
 (bndO mx cap cap).bind fun m=>(if mx.isSome=true∧hi.isNone=true then none else bndO hi m len).bind fun h=>(bndO lo h 0).map fun l=>(l,h,m)
def sliceA (P:Program) (H:AHeap) (t:TypeId) (x:Value) (lo hi mx:Option Value):Option Value :=
 match P.underlying t,x with
 | some .string,.string s =>
  match mx,bndsA s.size s.size lo hi none with
  | none,some (l,h,_)=>some (.string (s.extract l h))
  | _,_=>none
 | some (.slice e),.slice (some ⟨b,o,none⟩) len cap =>
  match bndsA len cap lo hi mx,tySize P e,H.get b with
  | some (l,h,m),some s,.cells _ _ (.gr _ e' _) =>
   if e'=s∧(mx.isSome=false∨l < m) then some (.slice (some ⟨b,o + l * s,none⟩) (h - l) (m - l)) else none
  | some (l,h,m),some s,.cells _ _ _ =>
   if m=l then some (.slice (some ⟨b,o,none⟩) (h - l) (m - l)) else some (.slice (some ⟨b,o + l * s,none⟩) (h - l) (m - l))
  | _,_,_=>none
 | some (.slice e),.slice none len cap =>
  match bndsA len cap lo hi mx,tySize P e with
  | some (l,h,m),some s=>some (.slice none (h - l) (m - l))
  | _,_=>none
 | some (.array n e),.pointer (some ⟨b,o,none⟩) =>
  match bndsA n n lo hi mx,tySize P e,H.get b with
  | some (l,h,m),some s,.cells _ _ .ex=>if m=l then some (.slice (some ⟨b,o,none⟩) (h - l) (m - l)) else some (.slice (some ⟨b,o + l * s,none⟩) (h - l) (m - l))
  | _,_,_=>none
 | _,_=>none
def prOp (P:Program) (env:Env) (o:Oper):Option Value :=
 match pr P (execOp (ev env) o) with
 | some (.value v)=>if dflat v=true then some v else none
 | _=>none
def flatOp (P:Program) (env:Env) (o:Oper):Option Value:=if (o.op.operands.all fun x=>dflat (ev env x))=true then prOp P env o else none
def eqNil (d:TypeDesc) (x y:Value):Option Bool :=
 match d,x,y with
 | .slice _,.slice none _ _,.slice b _ _=>some b.isNone
 | .slice _,.slice (some _) _ _,.slice none _ _=>some false
 | .pointer _,.pointer none,.pointer b=>some b.isNone
 | .pointer _,.pointer (some _),.pointer none=>some false
 | .map _ _,.map none,.map b=>some b.isNone
 | .map _ _,.map (some _),.map none=>some false
 | .func _ _ _,.nilFunc,.nilFunc=>some true
 | .func _ _ _,.nilFunc,.func _ _ _=>some false
 | .func _ _ _,.func _ _ _,.nilFunc=>some false
 | _,_,_=>none
def binA (P:Program) (env:Env) (o:Oper) (op:BinOp) (t:TypeId) (x y:Value):Option Value :=
 if dflat x=true∧dflat y=true then prOp P env o
 else match op,P.underlying t with
  | .eql,some d=>(eqNil d x y).map .bool
  | .neq,some d=>(eqNil d x y).map fun b=>.bool !b
  | _,_=>none
def nilCheckA (x:Value):Option Value :=
 match x with
 | .pointer (some ⟨b,o,none⟩)=>some (vptr b o)
 | .func (.func f) a c=>some (.func (.func f) a c)
 | .func (.yield f) a c=>some (.func (.yield f) a c)
 | _=>none
def lenA (P:Program) (env:Env) (o:Oper) (t:TypeId) (x:Value) (H:AHeap):Option Value :=
 match P.underlying t,x with
 | some (.slice _),.slice _ n _=>some (.int .i64 n)
 | some .string,.string s=>some (.int .i64 s.size)
 | some (.array n _),_=>some (.int .i64 n)
 | some (.map _ _),.map none=>some (.int .i64 0)
 | some (.map _ _),.map (some r)=>match H.get r with|.map es=>some (.int .i64 es.length)|_=>none
 | _,_=>none
def capA (P:Program) (t:TypeId) (x:Value) (H:AHeap):Option Value :=
 match P.underlying t,x with
 | some (.slice _),.slice none _ c=>some (.int .i64 c)
 | some (.slice _),.slice (some ⟨b,o,none⟩) _ c =>
  match H.get b with
  | .cells _ _ (.gr _ _ _)=>none
  | .cells _ _ _=>if o≠0∧c=0 then none else some (.int .i64 c)
  | _=>none
 | _,_=>none
def srcA (H:AHeap) (s:Nat) (x:Value):Option (List Value) :=
 match x with
 | .slice none n _=>if n=0 then some [] else none
 | .slice (some ⟨b,o,none⟩) n _ =>
  if n=0 then some [] else
  match H.rd b with
  | some c=>if o + n * s≤c.length then some ((c.drop o).take (n * s)) else none
  | none=>none
 | _=>none
def appendA (P:Program) (t:TypeId) (H:AHeap) (s:Value) (n:Nat) (new:List Value):Option (Value×AHeap) :=
 match P.underlying t with
 | some (.slice e) =>
  match tySize P e,tyBytes P e,tyZero P e with
  | some sz,some by_,some z =>
   if dflat z=true∧z.cells.size=sz∧0 < sz∧new.length=n * sz then
    match s with
    | .slice none l c =>
     if l=0∧c=0 then
      if n=0 then some (.slice none 0 0,H)
      else if n≤2 ^ 40∧n * by_≤2 ^ 40 then some (.slice (some ⟨H.n,0,none⟩) n n,H.alloc (.cells new e (.gr H.n sz true)))
      else none
     else none
    | .slice (some ⟨b,o,none⟩) l c =>
     if n=0∧l≤c then some (.slice (some ⟨b,o,none⟩) l c,H)
     else if o≠0∧c=0 then none
     else
      match H.get b with
      | .cells d T k =>
       if k.live=true∧o + l * sz≤d.length∧l + n≤2 ^ 40∧(l + n) * by_≤2 ^ 40 then
        match k with
        | .gr g e' lv =>
         if o=0∧e'=sz then
          some (.slice (some ⟨H.n,0,none⟩) (l + n) (l + n),(H.cut g (l * sz)).alloc (.cells (d.take (l * sz) ++ new) e (.gr g sz true)))
         else none
        | .ex =>
         if l + n≤c then
          if o + (l + n) * sz≤d.length then
           some (.slice (some ⟨b,o,none⟩) (l + n) c,H.put b (.cells (splice d (o + l * sz) new) T .ex))
          else none
         else some (.slice (some ⟨H.n,0,none⟩) (l + n) (l + n),H.alloc (.cells ((d.drop o).take (l * sz) ++ new) e (.gr H.n sz true)))
        | .ro =>
         if l + n≤c then none
         else some (.slice (some ⟨H.n,0,none⟩) (l + n) (l + n),H.alloc (.cells ((d.drop o).take (l * sz) ++ new) e (.gr H.n sz true)))
       else none
      | _=>none
    | _=>none
   else none
  | _,_,_=>none
 | _=>none
def appendOp (P:Program) (ts:Array TypeId) (args:List Value) (H:AHeap):Option (Value×AHeap) :=
 match ts.toList,args with
 | [t,t1],[s,x] =>
  match P.underlying t,P.underlying t1 with
  | some (.slice e),some (.int _) =>
   match tyBytes P e,tyZero P e,x with
   | some by_,some z,.int _ i=>if 0≤i∧i≤2 ^ 40∧by_ * i≤2 ^ 40∧dflat z=true then appendA P t H s i.toNat (zeros z.cells.toList i.toNat) else none
   | _,_,_=>none
  | some (.slice e),some (.slice _) =>
   match tySize P e,x with
   | some sz,.slice a n c=>match srcA H sz (.slice a n c) with|some new=>appendA P t H s n new|none=>none
   | _,_=>none
  | some (.slice e),some .string =>
   match tySize P e,x with
   | some 1,.string b=>appendA P t H s b.size (b.data.toList.map fun x=>.int .u8 x.toNat)
   | _,_=>none
  | _,_=>none
 | _,_=>none
def findM (P:Program) (kt:TypeId) (k:Value):List (Value×Value)→Nat→Option (Option (Nat×Value))
 | [],_=>some none
 | (q,v) :: es,i =>
  match pr P (Op.equal kt k q) with
  | some true=>some (some (i,v))
  | some false=>findM P kt k es (i + 1)
  | none=>none
def keyOk (P:Program) (kt:TypeId) (k:Value):Bool :=
 dflat k && (pr P (Instr.checkKey true 10000 kt k)).isSome && (pr P (Instr.checkKey false 10000 kt k)).isSome
def entsA (x:Value) (H:AHeap):Option (List (Value×Value)) :=
 match x with
 | .map none=>some []
 | .map (some r)=>(match H.get r with|.map es=>some es|_=>none)
 | _=>none
def lookupA (P:Program) (t:TypeId) (x k:Value) (ok:Bool) (H:AHeap):Option Value :=
 match P.underlying t with
 | some (.map kt et) =>
  if keyOk P kt k=true then
   match entsA x H,tyZero P et with
   | some es,some z =>
    if dflat z=true then
     match findM P kt k es 0 with
     | some (some (_,v))=>some (if ok=true then .tuple #[v,.bool true] else v)
     | some none=>some (if ok=true then .tuple #[z,.bool false] else z)
     | none=>none
    else none
   | _,_=>none
  else none
 | _=>none
def mapUpdateA (P:Program) (t:TypeId) (m k v:Value) (H:AHeap):Option AHeap :=
 match P.underlying t,m with
 | some (.map kt _),.map (some r) =>
  if keyOk P kt k=true then
   match H.get r with
   | .map es =>
    match findM P kt k es 0 with
    | some (some (i,_))=>if Instr.sameBits 10000 ((es[i]?).map (·.1) |>.getD k) k=true then some (H.put r (.map (es.set i (k,v)))) else none
    | some none=>some (H.put r (.map (es ++ [(k,v)])))
    | none=>none
   | _=>none
  else none
 | _,_=>none
def nextA (x:Value) (H:AHeap):Option (Value×AHeap) :=
 match x with
 | .pointer (some ⟨r,0,none⟩) =>
  match H.get r with
  | .iter s pos =>
   if pos < s.size then some (.tuple #[.bool true,.int .i64 pos,.int .i32 (Utf8.decode s pos).1],H.put r (.iter s (pos + (Utf8.decode s pos).2)))
   else some (.tuple #[.bool false],H)
  | _=>none
 | _=>none
def opF (P:Program) (env:Env) (o:Oper) (H:AHeap):Option (Value×AHeap) :=
 match o.op with
 | .move x|.assign x=>some (ev env x,H)
 | .pick c a b=>match ev env c with|.bool t=>some (if t=true then ev env a else ev env b,H)|_=>none
 | .alloc t=>allocA P t H
 | .box t x=>boxA t H (ev env x)
 | .build t parts=>(buildA P t (parts.toList.map fun p=>(p.1,ev env p.2))).map (·,H)
 | .buildSlice t len parts=>buildSliceA P t len (parts.toList.map fun p=>(p.1,ev env p.2)) H
 | .load t a=>(loadA P t H (ev env a)).map (·,H)
 | .store t a x=>(storeA P t H (ev env a) (ev env x)).map (undef,·)
 | .nilCheck x=>(nilCheckA (ev env x)).map (·,H)
 | .binOp op t x y _=>(binA P env o op t (ev env x) (ev env y)).map (·,H)
 | .unOp _ _ _|.convert _ _ _=>(flatOp P env o).map (·,H)
 | .makeFunc (.func f) a c=>some (.func (.func f) (a.map (ev env)) (c.map (ev env)),H)
 | .makeSlice t l c=>makeSliceA P t (ev env l) (ev env c) H
 | .slice t x lo hi mx=>(sliceA P H t (ev env x) (lo.map (ev env)) (hi.map (ev env)) (mx.map (ev env))).map (·,H)
 | .fieldAddr s x f=>(fieldAddrA P s (ev env x) f).map (·,H)
 | .field t x f=>(fieldA P t (ev env x) f).map (·,H)
 | .indexAddr t x ix=>(indexAddrA P t (ev env x) (ev env ix)).map (·,H)
 | .index t x ix=>(indexA P t (ev env x) (ev env ix)).map (·,H)
 | .extract x i=>(extractA (ev env x) i).map (·,H)
 | .makeMap t none=>some (.map (some H.n),H.alloc (.map []))
 | .lookup t x k ok=>(lookupA P t (ev env x) (ev env k) ok H).map (·,H)
 | .mapUpdate t m k x=>(mapUpdateA P t (ev env m) (ev env k) (ev env x) H).map (undef,·)
 | .range t x=>match P.underlying t,ev env x with|some .string,.string s=>some (vptr H.n 0,H.alloc (.iter s 0))|_,_=>none
 | .next it true=>nextA (ev env it) H
 | .call c =>
  match c.callee with
  | .builtin .append=>appendOp P c.argTypes (c.args.toList.map (ev env)) H
  | .builtin .len=>match c.argTypes[0]?,c.args.toList.map (ev env) with|some t,[x]=>(lenA P env o t x H).map (·,H)|_,_=>none
  | .builtin .cap=>match c.argTypes[0]?,c.args.toList.map (ev env) with|some t,[x]=>(capA P t x H).map (·,H)|_,_=>none
  | .builtin .min|.builtin .max=>(flatOp P env o).map (·,H)
  | _=>none
 | _=>none
theorem oneCell_scalar (v:Value):v.oneCell'=scalar v:=by cases v <;> rfl
theorem CellsRel.mono {ρ ρ':Ren} (hl:Le ρ ρ') {c:List Value} {c':Array Value} {base:Nat} (h:CellsRel ρ c c' base):CellsRel ρ' c c' base :=
 fun i hi=>let ⟨v,e,r,s⟩:=h i hi;⟨v,e,r.mono hl,s⟩
theorem EntRel.mono {ρ ρ':Ren} (hl:Le ρ ρ') {c:List (Value×Value)} {c':Array MapEntry} (h:EntRel ρ c c'):EntRel ρ' c c' :=
 ⟨h.1,fun i h1 h2=>⟨(h.2 i h1 h2).1,(h.2 i h1 h2).2.mono hl⟩⟩
theorem BlkRel.mono {ρ ρ':Ren} (hl:Le ρ ρ') {w w':World} {o:AObj} {im:Img} (hw:w'.heap[im.blk]? = w.heap[im.blk]?) (h:BlkRel ρ w o im):BlkRel ρ' w' o im:=by
 cases o with
 | dead=>trivial
 | cells c T k =>
  obtain ⟨h1,c',T',fz,h2,h3,h4,h5,h6⟩:=h
  exact ⟨h1,c',T',fz,hw.trans h2,h3,h4,h5,fun hk=>(h6 hk).mono hl⟩
 | map es =>
  obtain ⟨h1,h2,es',clk,h3,h4⟩:=h
  exact ⟨h1,h2,es',clk,hw.trans h3,h4.1.mono hl,h4.2⟩
 | iter s pos=>exact ⟨h.1,h.2.1,h.2.2.1,hw.trans h.2.2.2⟩
 | loop nt env ps asg body st pend =>
  obtain ⟨h1,h2,r,h3,h4,h5,h6,h7,h8,h9⟩:=h
  exact ⟨h1,h2,r,hw.trans h3,h4,h5,h6,h7,h8,h9.mono hl⟩
theorem Rel.of_heap {ng n0:Nat} {ρ:Ren} {H:AHeap} {w w':World} (h:Rel ng n0 ρ H w) (e:w'.heap=w.heap):Rel ng n0 ρ H w' :=
 ⟨fun b im hb hn=>(h.blk b im hb hn).mono (Le.refl _) (by rw [e]),h.apart,h.fresh,fun b im hb=>by rw [e];exact h.there b im hb,by rw [e];exact h.size,h.glob,h.top,h.grp⟩
theorem Step.drawn {ng n0:Nat} {ρ:Ren} {H:AHeap} {w:World} (h:Rel ng n0 ρ H w) (n:Nat):Step ng n0 ρ H w ρ H { w with drawn:=n } :=
 ⟨fun _ _=>rfl,Nat.le_refl _,h.of_heap rfl,fun _ _ _=>rfl,fun b im _ h1 h2=>absurd h2 (by omega),Nat.le_refl _,rfl,rfl,rfl⟩
def Ren.add (ρ:Ren) (b:Nat) (im:Img):Ren:=fun c=>if c=b then some im else ρ c
theorem Ren.le_add {ρ:Ren} {b:Nat} {im:Img} (h:ρ b=none):Le ρ (ρ.add b im):=by
 intro c i e
 unfold Ren.add
 split
 ·rename_i hc;subst hc;rw [h] at e;cases e
 ·exact e
theorem Ren.add_self (ρ:Ren) (b:Nat) (im:Img):(ρ.add b im) b=some im:=by simp [Ren.add]
theorem heap_alloc_old {w:World} {o:Obj} {cb:Nat} (h:cb < w.heap.size):(w.alloc o).heap[cb]? = w.heap[cb]?:=by
 simp only [World.alloc,Array.getElem?_push]
 rw [if_neg (by omega)]
theorem heap_alloc_new {w:World} {o:Obj}:(w.alloc o).heap[w.heap.size]? = some o:=by
 simp only [World.alloc,Array.getElem?_push,if_true]
theorem step_new {ng n0:Nat} {ρ:Ren} {H:AHeap} {w:World} (h:Rel ng n0 ρ H w) (hf:ρ H.n=none) (o:AObj) (ob:Obj) (im:Img)
  (hb:im.blk=w.heap.size) (hro:im.ro=false)
  (ho:BlkRel (ρ.add H.n im) (w.alloc ob) o im) (hlow:o.low H.n:=by intro c T g e l h;cases h) :
  Step ng n0 ρ H w (ρ.add H.n im) (H.alloc o) (w.alloc ob):=by
 have hle:=Ren.le_add (im:=im) hf
 have hinv:∀ b i,ρ.add H.n im b=some i→(b=H.n∧i=im)∨(b≠H.n∧ρ b=some i):=by
  intro b i e
  unfold Ren.add at e
  split at e
  ·rename_i hc;exact .inl ⟨hc,by cases e;rfl⟩
  ·rename_i hc;exact .inr ⟨hc,e⟩
 refine ⟨?_, ?_,⟨?_, ?_, ?_, ?_, ?_, ?_, ?_,h.grp.alloc hlow⟩, ?_, ?_, ?_,rfl,rfl,rfl⟩
 ·intro b hb'
  simp only [AHeap.alloc] at hb'
  unfold Ren.add
  rw [if_neg (by omega)]
 ·simp [AHeap.alloc]
 ·intro b i e hn
  simp only [AHeap.alloc] at hn ⊢
  rcases hinv b i e with ⟨rfl,rfl⟩|⟨hne,e'⟩
  ·simp only [if_true];exact ho
  ·rw [if_neg hne]
   exact (h.blk b i e' (by omega)).mono hle (heap_alloc_old (h.there b i e'))
 ·intro b₁ b₂ i₁ i₂ e₁ e₂ hne heq
  rcases hinv b₁ i₁ e₁ with ⟨h1,rfl⟩|⟨h1,e1⟩ <;> rcases hinv b₂ i₂ e₂ with ⟨h2,rfl⟩|⟨h2,e2⟩
  ·omega
  ·have:=h.there b₂ i₂ e2;omega
  ·have:=h.there b₁ i₁ e1;omega
  ·exact h.apart b₁ b₂ i₁ i₂ e1 e2 hne heq
 ·intro b i e hr
  rcases hinv b i e with ⟨_,rfl⟩|⟨_,e'⟩
  ·rw [hb];exact h.size
  ·exact h.fresh b i e' hr
 ·intro b i e
  rw [World.size_alloc]
  rcases hinv b i e with ⟨_,rfl⟩|⟨_,e'⟩
  ·omega
  ·have:=h.there b i e';omega
 ·rw [World.size_alloc];have:=h.size;omega
 ·intro g hg'
  obtain ⟨i,e,e2⟩:=h.glob g hg'
  exact ⟨i,hle _ _ e,e2⟩
 ·intro b hb'
  simp only [AHeap.alloc] at hb' ⊢
  rw [if_neg (by omega)]
  exact h.top b (by omega)
 ·intro cb hc _
  exact heap_alloc_old hc
 ·intro b i e h1 h2
  rcases hinv b i e with ⟨_,rfl⟩|⟨hne,e'⟩
  ·left;omega
  ·simp only [AHeap.alloc] at h2;omega
 ·rw [World.size_alloc];omega
theorem vrel_new {ρ:Ren} {n:Nat} {im:Img} (hb:im.base=0):VRel (ρ.add n im) (vptr n 0) (.pointer (some ⟨im.blk,0,none⟩)):=by
 have:=VRel.ptr (ρ:=ρ.add n im) (o:=0) (Ren.add_self ρ n im)
 rw [hb] at this
 exact this
def newImg (w:World) (sz:Nat):Img:={ blk:=w.heap.size,base:=0,sz:=sz,ro:=false,gr:=false,grp:=0,esz:=0 }
theorem step_cells {ng n0:Nat} {ρ:Ren} {H:AHeap} {w:World} (h:Rel ng n0 ρ H w) (hf:ρ H.n=none) (c:List Value) (c':Array Value) (T T':TypeId)
  (hs:c.length=c'.size) (hc:CellsRel ρ c c' 0) :
  Step ng n0 ρ H w (ρ.add H.n (newImg w c'.size)) (H.alloc (.cells c T .ex)) (w.alloc (.cells c' T')):=by
 refine step_new h hf _ _ _ rfl rfl ⟨⟨rfl,rfl⟩,c',T',(0,0),heap_alloc_new,rfl, ?_,fun _=>fzOk.zero _,fun _=>?_⟩
 ·simp only [newImg];omega
 ·exact hc.mono (Ren.le_add hf)
theorem run_storeCells_fz {P:Program} (g o:Nat) (t:TypeId) (fz:Nat×Nat) (vs:List Value):∀ (i:Nat) (cur:Array Value) (w:World),w.heap[g]? = some (.cells cur t fz)→fzOk fz cur.size→o + i + vs.length≤cur.size→(∀ v∈vs,v.oneCell'=true) →
  (storeCells ⟨g,o,none⟩ vs i).run P w=.ok () (w.setRow g (cur.toList.take (o + i) ++ vs ++ cur.toList.drop (o + i + vs.length)).toArray):=by
 induction vs with
 | nil =>
  intro i cur w hg _ _ _
  rw [List.append_nil,List.length_nil,Nat.add_zero,List.take_append_drop,Array.toArray_toList,setRow_self w g cur t fz hg]
  rfl
 | cons v rest ih =>
  intro i cur w hg hz hl h1
  rw [List.length_cons] at hl
  have hadd:(⟨g,o,none⟩:Addr).add i=⟨g,o + i,none⟩:=by
   unfold Addr.add
   split <;> simp_all
  have hnf:w.frozen? ⟨g,o + i,none⟩=false:=by
   unfold World.frozen?
   simp only [hg]
   rcases hz with q|q
   ·by_cases p:fz.1≤o + i
    ·have:¬ o + i < fz.2:=by omega
     simp [this]
    ·simp [p]
   ·have:¬ fz.1≤o + i:=by omega
    simp [this]
  have hst:(store ((⟨g,o,none⟩:Addr).add i) v).run P w=.ok () (w.setRow g (cur.setIfInBounds (o + i) v)):=by
   have hcell:w.cell? ⟨g,o + i,none⟩=some (cur[o + i]'(by omega)):=by
    unfold World.cell?
    simp only [hg]
    simp [show o + i < cur.size by omega]
   rw [hadd,run_store P w _ v _ (h1 v List.mem_cons_self),hcell]
   simp [hnf,setCell_eq_setRow w g (o + i) cur t fz v hg]
  have q:=ih (i + 1) (cur.setIfInBounds (o + i) v) _ (setRow_heap w g cur _ t _ hg) (by rw [Array.size_setIfInBounds];exact hz) (by rw [Array.size_setIfInBounds];omega) (fun x hx=>h1 x (List.mem_cons_of_mem _ hx))
  simp only [storeCells,Sem.run_bind,hst,Result.andThen_ok,q,setRow_setRow]
  congr 3
  have e:=list_seg_step cur.toList (o + i) v rest (by rw [Array.length_toList];omega)
  rw [Array.toList_setIfInBounds,List.length_cons,← e]
  simp only [Nat.add_assoc]
theorem step_row {ng n0:Nat} {ρ:Ren} {H:AHeap} {w:World} (h:Rel ng n0 ρ H w) {b:Nat} {im:Img} (hb:ρ b=some im) (hn:b < H.n)
  {c:List Value} {T:TypeId} {k:Kd} (hg:H.get b=.cells c T k) (hk:k.live=true) (hro:im.ro=false) (off:Nat) (l l':List Value)
  (hl:l.length=l'.length) (hfit:off + l.length≤c.length)
  (hr:∀ i (h1:i < l.length) (h2:i < l'.length),VRel ρ l[i] l'[i]∧scalar l[i]=true)
  (H':AHeap) (hH':H'=H.wr k b (.cells (splice c off l) T k)) :
  ∃ c' T' fz,w.heap[im.blk]? = some (.cells c' T' fz)∧fzOk fz c'.size∧im.base + off + l'.length≤c'.size ∧
   Step ng n0 ρ H w ρ H' (w.setRow im.blk (c'.toList.take (im.base + off) ++ l' ++ c'.toList.drop (im.base + off + l'.length)).toArray):=by
 have hblk:=h.blk b im hb hn
 rw [hg] at hblk
 obtain ⟨h1,c',T',fz,h2,h3,h4,h5,h6⟩:=hblk
 have hfz:=h5 hro
 refine ⟨c',T',fz,h2,hfz,by omega, ?_⟩
 have hHn:H'.n=H.n:=by subst hH';cases k <;> rfl
 have hHb:H'.get b=.cells (splice c off l) T k:=by subst hH';cases k <;> simp [AHeap.wr,AHeap.put]
 have hrow:∀ cb,cb≠im.blk→(w.setRow im.blk (c'.toList.take (im.base + off) ++ l' ++ c'.toList.drop (im.base + off + l'.length)).toArray).heap[cb]? = w.heap[cb]? :=
  fun cb hne=>setRow_other w im.blk cb _ hne
 have hsz:(c'.toList.take (im.base + off) ++ l' ++ c'.toList.drop (im.base + off + l'.length)).toArray.size=c'.size:=by
  simp;omega
 refine ⟨fun _ _=>rfl,by omega,⟨?_,h.apart,h.fresh, ?_, ?_,h.glob, ?_,hH' ▸ h.grp.wr (fun c T' g e l q=>by cases q;exact h.grp b _ _ _ _ _ hg)⟩, ?_,fun b' im' _ h1 h2=>absurd h2 (by omega),by simp,rfl,rfl,rfl⟩
 ·intro b' im' e hn'
  by_cases hbb:b'=b
  ·subst hbb
   rw [hb] at e;cases e
   rw [hHb]
   refine ⟨h1,_,T',fz,setRow_heap w im.blk c' _ T' fz h2,by rw [hsz];exact h3,by rw [hsz,splice_length hfit];exact h4,fun _=>by rw [hsz];exact hfz,fun hlive=>?_⟩
   intro i hi
   rw [splice_get hfit i hi]
   have hi':=hi
   rw [splice_length hfit] at hi'
   have hget:∀ j,(c'.toList.take (im.base + off) ++ l' ++ c'.toList.drop (im.base + off + l'.length)).toArray[j]? =
     if j < im.base + off then c'[j]? else if j < im.base + off + l'.length then l'[j - (im.base + off)]? else c'[j]?:=by
    intro j
    have ht:(c'.toList.take (im.base + off)).length=im.base + off:=by simp;omega
    simp only [List.getElem?_toArray]
    by_cases hj:j < im.base + off
    ·rw [if_pos hj,List.getElem?_append_left (by simp;omega),List.getElem?_append_left (by omega),List.getElem?_take_of_lt hj]
     simp
    ·rw [if_neg hj]
     by_cases hj2:j < im.base + off + l'.length
     ·rw [if_pos hj2,List.getElem?_append_left (by simp;omega),List.getElem?_append_right (by omega),ht]
     ·rw [if_neg hj2,List.getElem?_append_right (by simp;omega),List.getElem?_drop]
      simp only [List.length_append,ht,Array.getElem?_toList]
      congr 1
      omega
   rw [hget]
   by_cases hin:off≤i∧i < off + l.length
   ·rw [dif_pos hin,if_neg (by omega),if_pos (by omega)]
    have hi2:i - off < l'.length:=by omega
    have e1:im.base + i - (im.base + off)=i - off:=by omega
    rw [e1,List.getElem?_eq_getElem hi2]
    exact ⟨_,rfl,(hr _ (by omega) hi2).1,(hr _ (by omega) hi2).2⟩
   ·rw [dif_neg hin]
    obtain ⟨v',e1,e2,e3⟩:=h6 hk i hi'
    refine ⟨v', ?_,e2,e3⟩
    by_cases hj:im.base + i < im.base + off
    ·rw [if_pos hj];exact e1
    ·rw [if_neg hj,if_neg (by omega)];exact e1
  ·have hold:=h.blk b' im' e (by omega)
   by_cases hsame:im'.blk=im.blk
   ·-- shares the block: of the same group
    rcases h.apart b' b im' im e hb hbb hsame with ⟨_,hx⟩|⟨hg1,hg2,hg3⟩
    ·rw [hro] at hx;cases hx
    ·cases k with
     | ro=>simp [Kd.fits] at h1;rw [h1.2] at hg2;cases hg2
     | ex=>simp [Kd.fits] at h1;rw [h1.2] at hg2;cases hg2
     | gr g e' live =>
      have hget:H'.get b'=(H.get b').killed g:=by
       subst hH'
       simp [AHeap.wr,AHeap.put,h.grp.kill,hbb]
      rw [hget]
      cases hq:H.get b' with
      | dead=>trivial
      | map es=>rw [hq] at hold;have:=hold.2.1;rw [this] at hg1;cases hg1
      | iter s p=>rw [hq] at hold;have:=hold.2.1;rw [this] at hg1;cases hg1
      | loop a1 a2 a3 a4 a5 a6 a7=>rw [hq] at hold;have:=hold.2.1;rw [this] at hg1;cases hg1
      | cells c2 T2 k2 =>
       rw [hq] at hold
       obtain ⟨q1,c2',T2',fz2,q2,q3,q4,q5,q6⟩:=hold
       cases k2 with
       | ro=>simp [Kd.fits] at q1;rw [q1.2] at hg1;cases hg1
       | ex=>simp [Kd.fits] at q1;rw [q1.2] at hg1;cases hg1
       | gr g2 e2 live2 =>
        have hgg:g2=g:=by
         have a:=q1.2.2.1
         have b:=h1.2.2.1
         omega
        rw [hsame,h2] at q2
        injection q2 with q2
        injection q2 with q2a q2b q2c
        subst q2a
        simp only [AObj.killed,hgg,if_true]
        refine ⟨⟨q1.1,q1.2.1,by have:=q1.2.2.1;omega,q1.2.2.2.1,q1.2.2.2.2⟩,_,T',fz,by rw [hsame];exact setRow_heap w im.blk c' _ T' fz h2,by rw [hsz];exact q3,by rw [hsz];exact q4,fun _=>by rw [hsz];exact hfz,fun hl=>by simp [Kd.live] at hl⟩
   ·have hsub:BlkRel ρ w (H'.get b') im':=by
     subst hH'
     cases k with
     | ro=>simp only [AHeap.wr,AHeap.put,hbb,if_false];exact hold
     | ex=>simp only [AHeap.wr,AHeap.put,hbb,if_false];exact hold
     | gr g e' live =>
      simp only [AHeap.wr,AHeap.put,h.grp.kill,hbb,if_false]
      cases hq:H.get b' with
      | cells c2 T2 k2 =>
       rw [hq] at hold
       cases k2 with
       | gr g2 e2 live2 =>
        simp only [AObj.killed]
        split
        ·obtain ⟨q1,c2',T2',fz2,q2,q3,q4,q5,q6⟩:=hold
         exact ⟨q1,c2',T2',fz2,q2,q3,q4,q5,fun hl=>by simp [Kd.live] at hl⟩
        ·exact hold
       | ro=>exact hold
       | ex=>exact hold
      | _=>rw [hq] at hold;exact hold
    exact hsub.mono (Le.refl _) (hrow _ hsame)
 ·intro b' im' e
  rw [size_setRow];exact h.there b' im' e
 ·rw [size_setRow];exact h.size
 ·intro b' hb'
  have hd:=h.top b' (by omega)
  have hne:b'≠b:=by omega
  subst hH'
  cases k <;> simp [AHeap.wr,AHeap.put,h.grp.kill,hne,hd,AObj.killed]
 ·intro cb _ ho
  exact hrow cb fun e=>ho ⟨b,im,hb,hn,e.symm,hro⟩
theorem step_grow {ng n0:Nat} {ρ:Ren} {H:AHeap} {w:World} (h:Rel ng n0 ρ H w) (hf:ρ H.n=none) {b:Nat} {im:Img} (hb:ρ b=some im) (hn:b < H.n)
  {d:List Value} {T:TypeId} {g sz:Nat} (hg:H.get b=.cells d T (.gr g sz true)) (p:Nat) (hp:p≤d.length) (new new':List Value) (e:TypeId)
  (hl:new.length=new'.length) (hfit:p + new'.length≤im.sz)
  (hr:∀ i (h1:i < new.length) (h2:i < new'.length),VRel ρ new[i] new'[i]∧scalar new[i]=true) :
  ∃ c' T' fz,w.heap[im.blk]? = some (.cells c' T' fz)∧fzOk fz c'.size∧im.base=0∧p + new'.length≤c'.size ∧
   Step ng n0 ρ H w (ρ.add H.n im) ((H.cut g p).alloc (.cells (d.take p ++ new) e (.gr g sz true)))
    (w.setRow im.blk (c'.toList.take p ++ new' ++ c'.toList.drop (p + new'.length)).toArray):=by
 have hblk:=h.blk b im hb hn
 rw [hg] at hblk
 obtain ⟨h1,c',T',fz,h2,h3,h4,h5,h6⟩:=hblk
 obtain ⟨k1,k2,k3,k4,k5⟩:=h1
 have hfz:=h5 k1
 refine ⟨c',T',fz,h2,hfz,k5,by omega, ?_⟩
 have hle:=Ren.le_add (im:=im) hf
 have hinv:∀ b i,ρ.add H.n im b=some i→(b=H.n∧i=im)∨(b≠H.n∧ρ b=some i):=by
  intro b i e
  unfold Ren.add at e
  split at e
  ·rename_i hc;exact .inl ⟨hc,by cases e;rfl⟩
  ·rename_i hc;exact .inr ⟨hc,e⟩
 have hsz:(c'.toList.take p ++ new' ++ c'.toList.drop (p + new'.length)).toArray.size=c'.size:=by
  simp;omega
 have hget:∀ j,(c'.toList.take p ++ new' ++ c'.toList.drop (p + new'.length)).toArray[j]? =
   if j < p then c'[j]? else if j < p + new'.length then new'[j - p]? else c'[j]?:=by
  intro j
  have ht:(c'.toList.take p).length=p:=by simp;omega
  simp only [List.getElem?_toArray]
  by_cases hj:j < p
  ·rw [if_pos hj,List.getElem?_append_left (by simp;omega),List.getElem?_append_left (by omega),List.getElem?_take_of_lt hj]
   simp
  ·rw [if_neg hj]
   by_cases hj2:j < p + new'.length
   ·rw [if_pos hj2,List.getElem?_append_left (by simp;omega),List.getElem?_append_right (by omega),ht]
   ·rw [if_neg hj2,List.getElem?_append_right (by simp;omega),List.getElem?_drop]
    simp only [List.length_append,ht,Array.getElem?_toList]
    congr 1
    omega
 have hheap:=setRow_heap w im.blk c' (c'.toList.take p ++ new' ++ c'.toList.drop (p + new'.length)).toArray T' fz h2
 have hbsize:=h.there b im hb
 refine ⟨?_, ?_,⟨?_, ?_, ?_, ?_, ?_, ?_, ?_,(h.grp.cut' g p).alloc fun c T g' e l q=>by cases q;exact Nat.le_trans (h.grp b _ _ _ _ _ hg) (Nat.le_of_lt hn)⟩, ?_, ?_,by simp,rfl,rfl,rfl⟩
 ·intro b' hb'
  simp only [AHeap.alloc,AHeap.cut] at hb'
  unfold Ren.add
  rw [if_neg (by omega)]
 ·simp [AHeap.alloc,AHeap.cut]
 ·intro b' im' e' hn'
  have hn':b' < H.n + 1:=hn'
  show BlkRel _ _ (if b'=H.n then _ else (H.cut g p).get b') im'
  rw [h.grp.cut]
  rcases hinv b' im' e' with ⟨rfl,rfl⟩|⟨hne,e2⟩
  ·simp only [if_true]
   refine ⟨⟨k1,k2,k3,k4,k5⟩,_,T',fz,hheap,by rw [hsz];exact h3,by rw [hsz,k5];simp;omega,fun _=>by rw [hsz];exact hfz,fun _=>?_⟩
   intro i hi
   rw [hget,k5]
   simp only [Nat.zero_add]
   by_cases hip:i < p
   ·rw [if_pos hip,List.getElem_append_left (by simp;omega),List.getElem_take]
    obtain ⟨v',e1,e3,e4⟩:=h6 rfl i (by omega)
    rw [k5,Nat.zero_add] at e1
    exact ⟨v',e1,e3.mono hle,e4⟩
   ·have hi2:i - p < new.length:=by simp at hi;omega
    rw [if_neg hip,if_pos (by omega),List.getElem_append_right (by simp;omega),List.getElem?_eq_getElem (by omega)]
    have ht:(d.take p).length=p:=by simp;omega
    simp only [ht]
    exact ⟨_,rfl,(hr _ hi2 (by omega)).1.mono hle,(hr _ hi2 (by omega)).2⟩
  ·simp only [hne,if_false]
   have hold:=h.blk b' im' e2 (by omega)
   have hcut:BlkRel ρ w ((H.get b').cut g p) im':=by
    cases hq:H.get b' with
    | cells c2 T2 k2' =>
     rw [hq] at hold
     cases k2' with
     | gr g2 e2 live2 =>
      simp only [AObj.cut]
      split
      ·obtain ⟨q1,c2',T2',fz2,q2,q3,q4,q5,q6⟩:=hold
       exact ⟨q1,c2',T2',fz2,q2,q3,q4,q5,fun hl=>by simp [Kd.live] at hl⟩
      ·exact hold
     | ro=>exact hold
     | ex=>exact hold
    | _=>rw [hq] at hold;exact hold
   by_cases hsame:im'.blk=im.blk
   ·have hshare:(im'.ro=true∧im.ro=true)∨(im'.gr=true∧im.gr=true∧im'.grp=im.grp)∨im'=im:=by
     by_cases hbb:b'=b
     ·subst hbb;rw [hb] at e2;cases e2;exact .inr (.inr rfl)
     ·rcases h.apart b' b im' im e2 hb hbb hsame with hx|hx
      ·exact .inl hx
      ·exact .inr (.inl hx)
    have hgr:im'.gr=true∧im'.grp=im.grp:=by
     rcases hshare with ⟨_,hx⟩|⟨hx,_,hy⟩|rfl
     ·rw [k1] at hx;cases hx
     ·exact ⟨hx,hy⟩
     ·exact ⟨k2,rfl⟩
    have hgr1:=hgr.1
    cases hq:H.get b' with
    | dead=>trivial
    | map es=>rw [hq] at hold;have:=hold.2.1;rw [this] at hgr1;cases hgr1
    | iter s p=>rw [hq] at hold;have:=hold.2.1;rw [this] at hgr1;cases hgr1
    | loop a1 a2 a3 a4 a5 a6 a7=>rw [hq] at hold;have:=hold.2.1;rw [this] at hgr1;cases hgr1
    | cells c2 T2 k2' =>
     rw [hq] at hold
     obtain ⟨q1,c2',T2',fz2,q2,q3,q4,q5,q6⟩:=hold
     rw [hsame,h2] at q2
     injection q2 with q2
     injection q2 with q2a q2b q2c
     subst q2a
     cases k2' with
     | ro=>have:=q1.2;rw [this] at hgr1;cases hgr1
     | ex=>have:=q1.2;rw [this] at hgr1;cases hgr1
     | gr g2 e2' live2 =>
      have hgg:g2=g:=by
       have a:=q1.2.2.1
       have b:=hgr.2
       omega
      simp only [AObj.cut,hgg,true_and]
      by_cases hlen:p < c2.length
      ·rw [if_pos hlen]
       exact ⟨⟨q1.1,q1.2.1,by have:=q1.2.2.1;omega,q1.2.2.2.1,q1.2.2.2.2⟩,_,T',fz,by rw [hsame];exact hheap,by rw [hsz];exact q3,by rw [hsz];exact q4,fun _=>by rw [hsz];exact hfz,fun hl=>by simp [Kd.live] at hl⟩
      ·rw [if_neg hlen]
       refine ⟨⟨q1.1,q1.2.1,by have:=q1.2.2.1;omega,q1.2.2.2.1,q1.2.2.2.2⟩,_,T',fz,by rw [hsame];exact hheap,by rw [hsz];exact q3,by rw [hsz];exact q4,fun _=>by rw [hsz];exact hfz,fun hl=>?_⟩
       intro i hi
       rw [hget]
       have hb0:=q1.2.2.2.2
       rw [if_pos (by omega)]
       obtain ⟨v',e1,e3,e4⟩:=q6 hl i hi
       exact ⟨v',e1,e3.mono hle,e4⟩
   ·exact hcut.mono hle (setRow_other w im.blk im'.blk _ hsame)
 ·intro b₁ b₂ i₁ i₂ e₁ e₂ hne heq
  have same:∀ b' i',ρ b'=some i'→i'.blk=im.blk→(i'.ro=true∧im.ro=true)∨(i'.gr=true∧im.gr=true∧i'.grp=im.grp):=by
   intro b' i' e' hh
   by_cases hbb:b'=b
   ·subst hbb;rw [hb] at e';cases e';exact .inr ⟨k2,k2,rfl⟩
   ·exact h.apart b' b i' im e' hb hbb hh
  rcases hinv b₁ i₁ e₁ with ⟨h1,rfl⟩|⟨h1,e1⟩ <;> rcases hinv b₂ i₂ e₂ with ⟨h2,rfl⟩|⟨h2,e2⟩
  ·omega
  ·rcases same b₂ i₂ e2 heq.symm with ⟨a,b⟩|⟨a,b,c⟩
   ·exact .inl ⟨b,a⟩
   ·exact .inr ⟨b,a,c.symm⟩
  ·exact same b₁ i₁ e1 heq
  ·exact h.apart b₁ b₂ i₁ i₂ e1 e2 hne heq
 ·intro b' i' e' hr'
  rcases hinv b' i' e' with ⟨_,rfl⟩|⟨_,e2⟩
  ·exact h.fresh b _ hb hr'
  ·exact h.fresh b' i' e2 hr'
 ·intro b' i' e'
  rw [size_setRow]
  rcases hinv b' i' e' with ⟨_,rfl⟩|⟨_,e2⟩
  ·exact hbsize
  ·exact h.there b' i' e2
 ·rw [size_setRow];exact h.size
 ·intro g' hg'
  obtain ⟨i,e1,e2⟩:=h.glob g' hg'
  exact ⟨i,hle _ _ e1,e2⟩
 ·intro b' hb'
  simp only [AHeap.alloc,AHeap.cut] at hb' ⊢
  have hne:b'≠H.n:=by omega
  simp only [hne,if_false,h.top b' (by omega),AObj.cut,ite_self]
 ·intro cb _ ho
  exact setRow_other w im.blk cb _ fun e'=>ho ⟨b,im,hb,hn,e'.symm,k1⟩
 ·intro b' i' e' h1' h2'
  rcases hinv b' i' e' with ⟨_,rfl⟩|⟨hne,e2⟩
  ·exact .inr ⟨k1,b,_,hb,hn,rfl,k1⟩
  ·simp only [AHeap.alloc,AHeap.cut] at h2';omega
end Go.Proofs.Swa
set_option linter.unusedVariables false
set_option linter.unusedSimpArgs false
namespace Go.Proofs.Swa
open Go
section
variable {P:Program} {w:World}
theorem run_sizeOf {t:TypeId} {s:Nat} (h:tySize P t=some s) (w:World):(sizeOf t).run P w=.ok s w:=by
 unfold tySize at h
 cases hi:P.info? t with
 | none=>simp [hi] at h
 | some i=>simp [hi] at h;simp [sizeOf,typeInfo,hi,h]
theorem run_underlying' {t:TypeId} {d:TypeDesc} (h:P.underlying t=some d) (w:World):(underlying t).run P w=.ok d w:=by
 simp [underlying,h]
theorem run_zero {t:TypeId} {z:Value} (h:tyZero P t=some z) (w:World):(zeroValue t).run P w=.ok z w:=by
 unfold tyZero at h
 cases hi:P.info? t with
 | none=>simp [hi] at h
 | some i=>simp [hi] at h;simp [zeroValue,typeInfo,hi,h]
theorem run_typeInfo {t:TypeId} {i:TypeInfo} (h:P.info? t=some i) (w:World):(typeInfo t).run P w=.ok i w:=by
 simp [typeInfo,h]
theorem run_isAgg {t:TypeId} {b:Bool} (h:tyAgg P t=some b) (w:World):(isAgg t).run P w=.ok b w:=by
 unfold tyAgg at h
 cases hi:P.underlying t with
 | none=>simp [hi] at h
 | some d=>simp [hi] at h;subst h;cases d <;> simp [isAgg,underlying,hi]
end
theorem VRel.ptr_inv {ρ:Ren} {b o:Nat} {a':Value} (h:VRel ρ (.pointer (some ⟨b,o,none⟩)) a'):∃ im,ρ b=some im∧a'=.pointer (some ⟨im.blk,im.base + o,none⟩):=by
 cases h with
 | flat h=>simp [Swa.flat] at h
 | ptr h=>exact ⟨_,h,rfl⟩
theorem VRel.slice_inv {ρ:Ren} {b o n c:Nat} {a':Value} (h:VRel ρ (.slice (some ⟨b,o,none⟩) n c) a') :
  (∃ im c',ρ b=some im∧capOk im o c c'∧n≤c∧a'=.slice (some ⟨im.blk,im.base + o,none⟩) n c')∨(0 < o∧n=0∧c=0∧∃ a c',a'=.slice (some a) 0 c'):=by
 cases h with
 | flat h=>simp [Swa.flat] at h
 | slice h hc hn=>exact .inl ⟨_,_,h,hc,hn,rfl⟩
 | empty ho=>exact .inr ⟨ho,rfl,rfl,_,_,rfl⟩
theorem VRel.slice_nil {ρ:Ren} {n c:Nat} {a':Value} (h:VRel ρ (.slice none n c) a'):a'=.slice none n c:=h.of_flat rfl
theorem VRel.int_inv {ρ:Ren} {k:IntKind} {n:Int} {a':Value} (h:VRel ρ (.int k n) a'):a'=.int k n:=h.of_flat rfl
theorem VRel.bool_inv {ρ:Ren} {b:Bool} {a':Value} (h:VRel ρ (.bool b) a'):a'=.bool b:=h.of_flat rfl
theorem VRel.string_inv {ρ:Ren} {s:ByteArray} {a':Value} (h:VRel ρ (.string s) a'):a'=.string s:=h.of_flat rfl
theorem VRel.agg_inv {ρ:Ren} {a:Array Value} {v':Value} (h:VRel ρ (.agg a) v'):∃ a',v'=.agg a'∧ARel ρ a a'∧∀ i (h:i < a.size),scalar a[i]=true:=by
 cases h with
 | flat h=>simp [Swa.flat] at h
 | agg hs hsc ha=>exact ⟨_,rfl,⟨hs,ha⟩,hsc⟩
theorem VRel.tuple_inv {ρ:Ren} {a:Array Value} {v':Value} (h:VRel ρ (.tuple a) v'):∃ a',v'=.tuple a'∧ARel ρ a a':=by
 cases h with
 | flat h=>simp [Swa.flat] at h
 | tuple hs ha=>exact ⟨_,rfl,⟨hs,ha⟩⟩
theorem VRel.func_inv {ρ:Ren} {fn:Fn} {a c:Array Value} {v':Value} (h:VRel ρ (.func fn a c) v'):∃ fn' a' c',v'=.func fn' a' c'∧FRel ρ fn fn'∧ARel ρ a a'∧ARel ρ c c':=by
 cases h with
 | flat h=>simp [Swa.flat] at h
 | func hf hs hs2 ha hc=>exact ⟨_,_,_,rfl,hf,⟨hs,ha⟩,⟨hs2,hc⟩⟩
theorem add_plain' (g o j:Nat):(⟨g,o,none⟩:Addr).add j=⟨g,o + j,none⟩:=by unfold Addr.add;split <;> simp_all
theorem rd_inv {H:AHeap} {b:Nat} {c:List Value} (h:H.rd b=some c):∃ T k,H.get b=.cells c T k∧k.live=true:=by
 unfold AHeap.rd at h
 split at h <;> simp at h <;> subst h <;> exact ⟨_,_,by assumption,rfl⟩
theorem rd_lt {ng n0:Nat} {ρ:Ren} {H:AHeap} {w:World} (hr:Rel ng n0 ρ H w) {b:Nat} (h:H.get b≠.dead):b < H.n:=by
 by_cases hb:b < H.n
 ·exact hb
 ·exact absurd (hr.top b (by omega)) h
theorem rd_rel {ng n0:Nat} {ρ:Ren} {H:AHeap} {w:World} (hr:Rel ng n0 ρ H w) {b:Nat} {c:List Value} (h:H.rd b=some c) {im:Img} (hb:ρ b=some im) :
  ∃ c' T' fz,w.heap[im.blk]? = some (.cells c' T' fz)∧im.base + c.length≤c'.size∧CellsRel ρ c c' im.base:=by
 obtain ⟨T,k,hg,hk⟩:=rd_inv h
 have:=hr.blk b im hb (rd_lt hr (by rw [hg];simp))
 rw [hg] at this
 obtain ⟨h1,c',T',fz,h2,h3,h4,h5,h6⟩:=this
 exact ⟨c',T',fz,h2,h4,h6 hk⟩
theorem cell_of {w:World} {g o:Nat} {c':Array Value} {T':TypeId} {fz:Nat×Nat} (h:w.heap[g]? = some (.cells c' T' fz)):w.cell? ⟨g,o,none⟩=c'[o]?:=by
 simp [World.cell?,h]
theorem cells_read {ng n0:Nat} {ρ:Ren} {H:AHeap} {w:World} (P:Program) (hr:Rel ng n0 ρ H w) {b:Nat} {c:List Value} (h:H.rd b=some c) {im:Img} (hb:ρ b=some im)
  (o s:Nat) (hfit:o + s≤c.length) :
  ∃ l':List Value,(loadCells ⟨im.blk,im.base + o,none⟩ s).run P w=.ok l'.toArray w∧l'.length=s ∧
   ∀ i (h1:i < ((c.drop o).take s).length) (h2:i < l'.length),VRel ρ ((c.drop o).take s)[i] l'[i]∧scalar ((c.drop o).take s)[i]=true:=by
 obtain ⟨c',T',fz,h2,h4,h6⟩:=rd_rel hr h hb
 refine ⟨(c'.toList.drop (im.base + o)).take s, ?_,by simp;omega, ?_⟩
 ·have hlen:((c'.toList.drop (im.base + o)).take s).length=s:=by simp;omega
  have:=run_loadCells_list (P:=P) w ⟨im.blk,im.base + o,none⟩ ((c'.toList.drop (im.base + o)).take s) (fun j v e=>by
   rw [add_plain',cell_of h2]
   have hj:j < s:=by
    have:=(List.getElem?_eq_some_iff.1 e).1
    omega
   rw [List.getElem?_take_of_lt hj,List.getElem?_drop] at e
   simpa using e)
  rw [hlen] at this
  exact this
 ·intro i h1 h2'
  have hi:i < s:=by simp at h1;omega
  obtain ⟨v',e1,e2,e3⟩:=h6 (o + i) (by omega)
  have e4:((c.drop o).take s)[i]=c[o + i]:=by simp
  have e5:((c'.toList.drop (im.base + o)).take s)[i]=v':=by
   have:im.base + (o + i) < c'.size:=(Array.getElem?_eq_some_iff.1 e1).1
   have e6:=(Array.getElem?_eq_some_iff.1 e1).2
   simp only [List.getElem_take,List.getElem_drop,Array.getElem_toList,Nat.add_assoc]
   exact e6
  rw [e4,e5]
  exact ⟨e2,e3⟩
theorem vrel_agg {ρ:Ren} {l l':List Value} (hl:l.length=l'.length) (h:∀ i (h1:i < l.length) (h2:i < l'.length),VRel ρ l[i] l'[i]∧scalar l[i]=true) :
  VRel ρ (.agg l.toArray) (.agg l'.toArray) :=
 .agg (by simpa using hl) (fun i hi=>by simpa using (h i (by simpa using hi) (by simpa [hl] using hi)).2) (fun i h1 h2=>by simpa using (h i (by simpa using h1) (by simpa using h2)).1)
theorem load_sim {P:Program} {ng n0:Nat} {ρ:Ren} {H:AHeap} {w:World} (hr:Rel ng n0 ρ H w) {t:TypeId} {a a' v:Value} (h:loadA P t H a=some v) (ha:VRel ρ a a') :
  ∃ v',(Instr.loadAt t a').run P w=.ok v' w∧VRel ρ v v':=by
 unfold loadA at h
 split at h
 ·rename_i b o
  obtain ⟨im,hb,rfl⟩:=ha.ptr_inv
  split at h
  ·rename_i c s h1 h2 h3
   split at h
   ·rename_i hfit
    obtain ⟨l',e1,e2,e3⟩:=cells_read P hr h1 hb o s hfit
    refine ⟨.agg l'.toArray, ?_, ?_⟩
    ·simp only [Instr.loadAt,Instr.sureAddr,pure_bind,loadVar,Sem.run_bind,run_isAgg h2,Result.andThen_ok,if_true,run_sizeOf h3,e1,Sem.run_pure]
    ·cases h
     exact vrel_agg (by simp;omega) e3
   ·cases h
  ·rename_i _ c h1 h2
   obtain ⟨c',T',fz,q2,q4,q6⟩:=rd_rel hr h1 hb
   have ho:o < c.length:=(List.getElem?_eq_some_iff.1 h).1
   obtain ⟨v',e1,e2,e3⟩:=q6 o ho
   have e4:=(List.getElem?_eq_some_iff.1 h).2
   refine ⟨v', ?_,by rw [← e4];exact e2⟩
   simp only [Instr.loadAt,Instr.sureAddr,pure_bind,loadVar,Sem.run_bind,run_isAgg h2,Result.andThen_ok,if_false,run_load,cell_of q2,e1,Bool.false_eq_true]
  ·cases h
 ·cases h
theorem notTup_ne {x:Value} (h:notTup x=true):∀ a,x≠.tuple a:=by intro a e;subst e;simp [notTup] at h
theorem cells_list {ρ:Ren} {x x':Value} (h:VRel ρ x x') (hn:notTup x=true) :
  x.cells.toList.length=x'.cells.toList.length ∧
  ∀ i (h1:i < x.cells.toList.length) (h2:i < x'.cells.toList.length),VRel ρ x.cells.toList[i] x'.cells.toList[i]∧scalar x.cells.toList[i]=true:=by
 obtain ⟨h1,h2⟩:=h.cells (notTup_ne hn)
 refine ⟨by simpa using h1.1,fun i a b=>?_⟩
 simp only [Array.getElem_toList]
 exact ⟨h1.2 _ _ _,h2 _ _⟩
theorem scalar_rel {ρ:Ren} {v v':Value} (h:VRel ρ v v') (hs:scalar v=true):scalar v'=true:=by
 cases h <;> simp_all [scalar]
theorem store_sim {P:Program} {ng n0:Nat} {ρ:Ren} {H H':AHeap} {w:World} (hr:Rel ng n0 ρ H w) {t:TypeId} {a a' x x':Value} (h:storeA P t H a x=some H') (ha:VRel ρ a a') (hx:VRel ρ x x') :
  ∃ w',(Instr.storeAt t a' x').run P w=.ok () w'∧Step ng n0 ρ H w ρ H' w':=by
 unfold storeA at h
 split at h
 ·rename_i b o
  obtain ⟨im,hb,rfl⟩:=ha.ptr_inv
  split at h
  ·rename_i c T k s hg hs
   split at h
   ·rename_i hc
    obtain ⟨c1,c2,c3,c4⟩:=hc
    have hlt:b < H.n:=rd_lt hr (by rw [hg];simp)
    obtain ⟨hl,hcell⟩:=cells_list hx c1
    have hkro:im.ro=false:=by
     have:=hr.blk b im hb hlt
     rw [hg] at this
     have f:=this.1
     cases k with
     | ro=>simp at h
     | ex=>exact f.1
     | gr g e l=>exact f.1
    have hH':H'=H.wr k b (.cells (splice c o x.cells.toList) T k):=by
     cases k with
     | ro=>simp at h
     | ex=>cases h;rfl
     | gr g e l=>cases h;rfl
    obtain ⟨c',T',fz,e1,ez,e2,e3⟩:=step_row hr hb hlt hg c4 hkro o x.cells.toList x'.cells.toList hl (by simpa [c2] using c3) hcell H' hH'
    refine ⟨_, ?_,e3⟩
    have hsz:x'.cells.size=s:=by
     have:x.cells.size=x'.cells.size:=by simpa using hl
     omega
    simp only [Instr.storeAt,Instr.sureAddr,pure_bind,storeVar,Sem.run_bind,run_sizeOf hs,Result.andThen_ok,hsz,ne_eq,not_true_eq_false,if_false]
    have hone:∀ v∈x'.cells.toList,v.oneCell'=true:=by
     intro v hv
     rw [oneCell_scalar]
     obtain ⟨i,hi,rfl⟩:=List.getElem_of_mem hv
     exact scalar_rel (hcell i (by omega) hi).1 (hcell i (by omega) hi).2
    have:=run_storeCells_fz (P:=P) im.blk (im.base + o) T' fz x'.cells.toList 0 c' w e1 ez (by simpa using e2) hone
    simpa using this
   ·cases h
  ·cases h
 ·cases h
theorem cellsRel_of {ρ:Ren} {l l':List Value} (hl:l.length=l'.length) (h:∀ i (h1:i < l.length) (h2:i < l'.length),VRel ρ l[i] l'[i]∧scalar l[i]=true) (c':Array Value) (hc:c'.toList=l'):CellsRel ρ l c' 0:=by
 subst hc
 intro i hi
 have hi':i < c'.size:=by rw [hl] at hi;simpa using hi
 refine ⟨c'[i],by simp [hi'], ?_,(h i hi (by simpa using hi')).2⟩
 have:=(h i hi (by simpa using hi')).1
 simpa using this
theorem dflat_list {ρ:Ren} {z:Value} (h:dflat z=true) :
  ∀ i (h1:i < z.cells.toList.length) (h2:i < z.cells.toList.length),VRel ρ z.cells.toList[i] z.cells.toList[i]∧scalar z.cells.toList[i]=true:=by
 have hn:notTup z=true:=by cases z <;> simp_all [notTup,dflat,Swa.flat]
 exact (cells_list (VRel.dflat (ρ:=ρ) h) hn).2
theorem alloc_sim {P:Program} {ng n0:Nat} {ρ:Ren} {H H':AHeap} {w:World} (hr:Rel ng n0 ρ H w) {t:TypeId} {v:Value} (h:allocA P t H=some (v,H')) (hf:Fresh ρ H H') :
  ∃ v' w' ρ',(Instr.alloc t true (.tuple #[])).run P w=.ok v' w'∧Step ng n0 ρ H w ρ' H' w'∧VRel ρ' v v'∧(∀ cb,cb < w.heap.size→w'.heap[cb]? = w.heap[cb]?):=by
 unfold allocA at h
 split at h
 ·rename_i z hz
  split at h
  ·rename_i hd
   cases h
   have hfn:ρ H.n=none:=hf H.n (Nat.le_refl _) (by simp [AHeap.alloc])
   refine ⟨_,_,_, ?_,step_cells hr hfn z.cells.toList z.cells t t (by simp) (cellsRel_of rfl (dflat_list hd) _ rfl),vrel_new rfl,fun cb h=>heap_alloc_old h⟩
   simp only [Instr.alloc,Sem.run_bind,run_zero hz,Result.andThen_ok,newVar,newRow,run_newObj,Sem.run_pure,World.alloc_eq]
   rfl
  ·cases h
 ·cases h
theorem box_sim {P:Program} {ng n0:Nat} {ρ:Ren} {H H':AHeap} {w:World} (hr:Rel ng n0 ρ H w) {t:TypeId} {x x' v:Value} (h:boxA t H x=some (v,H')) (hx:VRel ρ x x') (hf:Fresh ρ H H') :
  ∃ v' w' ρ',(Instr.box t x').run P w=.ok v' w'∧Step ng n0 ρ H w ρ' H' w'∧VRel ρ' v v'∧(∀ cb,cb < w.heap.size→w'.heap[cb]? = w.heap[cb]?):=by
 unfold boxA at h
 split at h
 ·rename_i hn
  cases h
  have hfn:ρ H.n=none:=hf H.n (Nat.le_refl _) (by simp [AHeap.alloc])
  obtain ⟨hl,hc⟩:=cells_list hx hn
  refine ⟨_,_,_, ?_,step_cells hr hfn x.cells.toList x'.cells t t (by simpa using hl) (cellsRel_of hl hc _ rfl),vrel_new rfl,fun cb h=>heap_alloc_old h⟩
  simp only [Instr.box,Sem.run_bind,Result.andThen_ok,newVar,newRow,run_newObj,Sem.run_pure,World.alloc_eq]
  rfl
 ·cases h
def LRel (ρ:Ren) (l l':List Value):Prop:=l.length=l'.length∧∀ i (h1:i < l.length) (h2:i < l'.length),VRel ρ l[i] l'[i]∧scalar l[i]=true
theorem LRel.splice {ρ:Ren} {c c' l l':List Value} (h:LRel ρ c c') (k:LRel ρ l l') {o:Nat} (hf:o + l.length≤c.length):LRel ρ (splice c o l) (splice c' o l'):=by
 have e1:=h.1
 have e2:=k.1
 have hf':o + l'.length≤c'.length:=by omega
 refine ⟨by rw [splice_length hf,splice_length hf'];exact e1,fun i h1 h2=>?_⟩
 rw [splice_get hf,splice_get hf']
 rw [splice_length hf] at h1
 by_cases hi:o≤i∧i < o + l.length
 ·have hi':o≤i∧i < o + l'.length:=by omega
  simp only [hi,hi',and_self,dif_pos]
  exact k.2 _ _ _
 ·have hi':¬ (o≤i∧i < o + l'.length):=by omega
  simp only [hi,hi',dif_neg,not_false_eq_true]
  exact h.2 _ _ _
theorem foldl_splice (v:Array Value) (off:Nat):∀ (l:List (Value×Nat)) (k:Nat) (cs:Array Value),
  (∀ i (h:i < l.length),l[i].2=k + i)→off + k + l.length≤cs.size →
  (l.foldl (fun cs (p:Value×Nat)=>cs.setIfInBounds (off + p.2) p.1) cs).toList=splice cs.toList (off + k) (l.map (·.1))
 | [],k,cs,_,h=>by simp [splice,List.take_append_drop]
 | (x,j) :: rest,k,cs,hidx,h=>by
  have hj:j=k:=by have:=hidx 0 (by simp);simp at this;exact this
  subst hj
  simp only [List.length_cons] at h
  simp only [List.foldl_cons]
  rw [foldl_splice v off rest (j + 1) (cs.setIfInBounds (off + j) x) (fun i hi=>by have:=hidx (i + 1) (by simpa using hi);simp at this;omega) (by simp at h ⊢;omega)]
  apply List.ext_getElem?
  intro i
  simp only [splice,Array.toList_setIfInBounds,List.map_cons,List.length_map,List.length_cons,List.length_set]
  have hlen:off + j < cs.toList.length:=by simp at h ⊢;omega
  by_cases h1:i < off + j
  ·rw [List.getElem?_append_left (by simp;omega),List.getElem?_append_left (by simp;omega),List.getElem?_append_left (by simp;omega),List.getElem?_append_left (by simp;omega)]
   rw [List.getElem?_take_of_lt (by omega),List.getElem?_take_of_lt h1,List.getElem?_set_ne (by omega)]
  ·by_cases h2:i=off + j
   ·subst h2
    rw [List.getElem?_append_left (by simp;omega),List.getElem?_append_left (by simp;omega),List.getElem?_take_of_lt (by omega),List.getElem?_set_self hlen]
    rw [List.getElem?_append_left (by simp;omega),List.getElem?_append_right (by simp;omega)]
    have:off + j - (List.take (off + j) cs.toList).length=0:=by simp;omega
    rw [this];rfl
   ·by_cases h3:i < off + j + 1 + rest.length
    ·rw [List.getElem?_append_left (by simp;omega),List.getElem?_append_right (by simp;omega)]
     rw [List.getElem?_append_left (by simp;omega),List.getElem?_append_right (by simp;omega)]
     have e1:i - (List.take (off + (j + 1)) (cs.toList.set (off + j) x)).length=i - (off + j + 1):=by simp;omega
     have e2:i - (List.take (off + j) cs.toList).length=(i - (off + j + 1)) + 1:=by simp;omega
     rw [e1,e2]
     rfl
    ·rw [List.getElem?_append_right (by simp;omega),List.getElem?_append_right (by simp;omega)]
     simp only [List.getElem?_drop]
     rw [List.getElem?_set_ne (by simp;omega)]
     congr 1
     simp;omega
theorem zipIdx_splice (v:Array Value) (off:Nat) (cs:Array Value) (h:off + v.size≤cs.size) :
  (v.zipIdx.foldl (fun cs (p:Value×Nat)=>cs.setIfInBounds (off + p.2) p.1) cs).toList=splice cs.toList off v.toList:=by
 rw [← Array.foldl_toList,Array.toList_zipIdx]
 have:=foldl_splice v off v.toList.zipIdx 0 cs (fun i hi=>by simp) (by simpa using h)
 rw [this]
 simp
theorem fill_sim {ρ:Ren} {place:Nat→Option (Nat×Nat)}:∀ (parts parts':List (Nat×Value)) (c r:List Value) (c':Array Value),
  fillF place c parts=some r→LRel ρ c c'.toList→parts.length=parts'.length →
  (∀ i (h:i < parts.length) (h':i < parts'.length),parts[i].1=parts'[i].1∧VRel ρ parts[i].2 parts'[i].2) →
  ∃ r',Instr.fill place c' parts'=some r'∧LRel ρ r r'.toList
 | [],[],c,r,c',h,hc,_,_=>by
  simp only [fillF,Option.some.injEq] at h
  subst h
  exact ⟨c',rfl,hc⟩
 | [],_ :: _,_,_,_,_,_,hl,_=>by simp at hl
 | _ :: _,[],_,_,_,_,_,hl,_=>by simp at hl
 | (i,v) :: rest,(i',v') :: rest',c,r,c',h,hc,hl,hp=>by
  have h0:=hp 0 (by simp) (by simp)
  simp only [List.getElem_cons_zero] at h0
  obtain ⟨hi,hv⟩:=h0
  subst hi
  simp only [fillF] at h
  cases hpl:place i with
  | none=>rw [hpl] at h;cases h
  | some os =>
   obtain ⟨off,size⟩:=os
   rw [hpl] at h
   simp only at h
   split at h
   ·rename_i hcnd
    obtain ⟨q1,q2,q3⟩:=hcnd
    obtain ⟨k1,k2⟩:=cells_list hv q1
    have hsz:v'.cells.size=size:=by
     have:v.cells.size=v'.cells.size:=by simpa using k1
     omega
    have hcl:c.length=c'.size:=by simpa using hc.1
    have hspl:=LRel.splice hc ⟨k1,k2⟩ (o:=off) (by simpa [q2] using q3)
    have hfold:=zipIdx_splice v'.cells off c' (by omega)
    rw [← hfold] at hspl
    obtain ⟨r',e1,e2⟩:=fill_sim rest rest' _ r _ h hspl (by simpa using hl) (fun j h1 h2=>by
     have:=hp (j + 1) (by simpa using h1) (by simpa using h2)
     simpa using this)
    refine ⟨r', ?_,e2⟩
    have hb:(decide (v'.cells.size≠size) || decide (off + v'.cells.size > c'.size))=false:=by
     simp;omega
    simp only [Instr.fill,hpl]
    rw [if_neg (by simp only [hb];decide)]
    exact e1
   ·cases h
theorem mapM_places {P:Program} (w:World):∀ (fs:List Field) (pl:List (Nat×Nat)),placesF P fs=some pl →
  (fs.mapM (m:=Sem) fun f=>do pure (f.offset,← sizeOf f.type)).run P w=.ok pl w
 | [],pl,h=>by simp [placesF] at h;subst h;simp
 | f :: fs,pl,h=>by
  simp only [placesF,List.mapM_cons] at h
  cases hs:tySize P f.type with
  | none=>simp [hs] at h
  | some s =>
   cases hr:placesF P fs with
   | none=>simp only [placesF] at hr;simp [hs,hr] at h
   | some r =>
    simp only [placesF] at hr
    simp [hs,hr] at h
    subst h
    have ih:=mapM_places w fs r hr
    rw [List.mapM_cons]
    simp only [Sem.run_bind,run_sizeOf hs,Result.andThen_ok,Sem.run_pure,ih]
theorem parts_rel {ρ:Ren} {E E':Operand→Value} {ps:Array (Nat×Operand)} (h:∀ p,p∈ps.toList→VRel ρ (E p.2) (E' p.2)) :
  (ps.toList.map fun p=>(p.1,E p.2)).length=((ps.map fun p=>(p.1,E' p.2)).toList).length ∧
  ∀ i (h1:i < (ps.toList.map fun p=>(p.1,E p.2)).length) (h2:i < ((ps.map fun p=>(p.1,E' p.2)).toList).length),
   (ps.toList.map fun p=>(p.1,E p.2))[i].1=((ps.map fun p=>(p.1,E' p.2)).toList)[i].1∧VRel ρ (ps.toList.map fun p=>(p.1,E p.2))[i].2 ((ps.map fun p=>(p.1,E' p.2)).toList)[i].2:=by
 refine ⟨by simp,fun i h1 h2=>?_⟩
 simp only [List.getElem_map,Array.toList_map,true_and]
 exact h _ (by simp)
theorem lrel_agg {ρ:Ren} {l:List Value} {r':Array Value} (h:LRel ρ l r'.toList):VRel ρ (.agg l.toArray) (.agg r'):=by
 have:=vrel_agg h.1 h.2
 simpa using this
theorem build_sim {P:Program} {ρ:Ren} (w:World) {t:TypeId} {parts:List (Nat×Value)} {parts':Array (Nat×Value)} {v:Value} (h:buildA P t parts=some v)
  (hl:parts.length=parts'.toList.length)
  (hp:∀ i (h:i < parts.length) (h':i < parts'.toList.length),parts[i].1=parts'.toList[i].1∧VRel ρ parts[i].2 parts'.toList[i].2) :
  ∃ v',(Instr.build t parts').run P w=.ok v' w∧VRel ρ v v':=by
 unfold buildA at h
 split at h
 ·rename_i z fs hz hu
  split at h
  ·rename_i hd
   split at h
   ·rename_i pl hpl
    cases hf:fillF (pl[·]?) z.cells.toList parts with
    | none=>rw [hf] at h;cases h
    | some r =>
     rw [hf] at h
     simp only [Option.map_some,Option.some.injEq] at h
     subst h
     obtain ⟨r',e1,e2⟩:=fill_sim parts parts'.toList z.cells.toList r z.cells hf (show LRel ρ z.cells.toList z.cells.toList from ⟨rfl,dflat_list hd⟩) hl hp
     refine ⟨.agg r', ?_,lrel_agg e2⟩
     have hm:(fs.mapM (m:=Sem) fun f=>do pure (f.offset,← sizeOf f.type)).run P w=.ok pl.toArray w:=by
      rw [Array.mapM_eq_mapM_toList]
      simp only [Sem.run_map,mapM_places w fs.toList pl hpl,Result.andThen_ok]
     have hpl':(fun i:Nat=>pl.toArray[i]?)=(fun i:Nat=>pl[i]?):=by funext i;simp
     simp only [Instr.build,Sem.run_bind,run_zero hz,Result.andThen_ok,run_underlying' hu,hm]
     rw [hpl',e1]
     rfl
   ·cases h
  ·cases h
 ·rename_i z n e hz hu
  split at h
  ·rename_i hd
   split at h
   ·rename_i s hs
    cases hf:fillF (fun i=>some (i * s,s)) z.cells.toList parts with
    | none=>rw [hf] at h;cases h
    | some r =>
     rw [hf] at h
     simp only [Option.map_some,Option.some.injEq] at h
     subst h
     obtain ⟨r',e1,e2⟩:=fill_sim parts parts'.toList z.cells.toList r z.cells hf (show LRel ρ z.cells.toList z.cells.toList from ⟨rfl,dflat_list hd⟩) hl hp
     refine ⟨.agg r', ?_,lrel_agg e2⟩
     simp only [Instr.build,Sem.run_bind,run_zero hz,Result.andThen_ok,run_underlying' hu,run_sizeOf hs]
     rw [e1]
     rfl
   ·cases h
  ·cases h
 ·cases h
theorem zeros_length (z:List Value) (n:Nat):(zeros z n).length=n * z.length:=by
 unfold zeros
 induction n with
 | zero=>simp
 | succ n ih=>rw [List.range_succ,List.flatMap_append,List.length_append,ih];simp [Nat.succ_mul]
theorem zeros_get (z:List Value) (n i:Nat) (h:i < (zeros z n).length):∃ hq,(zeros z n)[i]=z[i % z.length]'hq:=by
 rw [zeros_length] at h
 have hz:0 < z.length:=by
  rcases Nat.eq_zero_or_pos z.length with h0|h0
  ·rw [h0] at h;omega
  ·exact h0
 refine ⟨Nat.mod_lt _ hz, ?_⟩
 induction n with
 | zero=>omega
 | succ n ih =>
  have hz':zeros z (n + 1)=zeros z n ++ z:=by
   unfold zeros;rw [List.range_succ,List.flatMap_append];simp
  have hlen:=zeros_length z n
  simp only [hz']
  by_cases hi:i < n * z.length
  ·rw [List.getElem_append_left (by omega)]
   exact ih (by omega) (by omega)
  ·rw [List.getElem_append_right (by omega)]
   congr 1
   rw [hlen]
   have:i=(i - n * z.length) + z.length * n:=by rw [Nat.mul_comm z.length n];omega
   rw [this,Nat.add_mul_mod_self_left,← this,Nat.mod_eq_of_lt]
   rw [Nat.succ_mul] at h
   omega
theorem zeros_arr (z:Array Value) (n:Nat) (hz:0 < z.size):((Array.range (n * z.size)).map (z[· % z.size]!)).toList=zeros z.toList n:=by
 apply List.ext_getElem
 ·simp [zeros_length]
 ·intro i h1 h2
  obtain ⟨h3,e⟩:=zeros_get z.toList n i h2
  rw [e]
  have hm:i % z.size < z.size:=Nat.mod_lt _ hz
  simp [hm]
theorem zeros_rel {ρ:Ren} {z:Value} (h:dflat z=true) (n:Nat):LRel ρ (zeros z.cells.toList n) (zeros z.cells.toList n):=by
 refine ⟨rfl,fun i h1 h2=>?_⟩
 obtain ⟨h3,e⟩:=zeros_get z.cells.toList n i h1
 rw [e]
 exact dflat_list h _ h3 h3
theorem buildSlice_sim {P:Program} {ng n0:Nat} {ρ:Ren} {H H':AHeap} {w:World} (hr:Rel ng n0 ρ H w) {t:TypeId} {len:Nat} {parts:List (Nat×Value)} {parts':Array (Nat×Value)} {v:Value}
  (h:buildSliceA P t len parts H=some (v,H')) (hf:Fresh ρ H H') (hl:parts.length=parts'.toList.length)
  (hp:∀ i (h:i < parts.length) (h':i < parts'.toList.length),parts[i].1=parts'.toList[i].1∧VRel ρ parts[i].2 parts'.toList[i].2) :
  ∃ v' w' ρ',(Instr.buildSlice t len parts').run P w=.ok v' w'∧Step ng n0 ρ H w ρ' H' w'∧VRel ρ' v v'∧(∀ cb,cb < w.heap.size→w'.heap[cb]? = w.heap[cb]?):=by
 unfold buildSliceA at h
 split at h
 ·rename_i e hu
  split at h
  ·rename_i s z hs hz
   split at h
   ·rename_i hc
    obtain ⟨c1,c2,c3,c4⟩:=hc
    split at h
    ·rename_i c hfill
     cases h
     have hfn:ρ H.n=none:=hf H.n (Nat.le_refl _) (by simp [AHeap.alloc])
     have hza:=zeros_arr z.cells len (by omega)
     rw [c2] at hza
     obtain ⟨r',e1,e2⟩:=fill_sim parts parts'.toList (zeros z.cells.toList len) c ((Array.range (len * s)).map (z.cells[· % s]!)) hfill (by rw [hza];exact zeros_rel c1 len) hl hp
     have hst:=step_cells hr hfn c r' e e (by simpa using e2.1) (cellsRel_of e2.1 e2.2 _ rfl)
     refine ⟨.slice (some ⟨w.heap.size,0,none⟩) len len,_,_, ?_,hst, ?_,fun cb h=>heap_alloc_old h⟩
     ·simp only [Instr.buildSlice,Sem.run_bind,run_underlying' hu,Result.andThen_ok,run_sizeOf hs]
      rw [if_neg (by omega)]
      by_cases h0:len * s=0
      ·have e1':=e1
       simp only [h0] at e1' ⊢
       have e3:Array.map (fun x=>z.cells[x % s]!) (Array.range 0) = #[]:=by simp
       rw [e3] at e1'
       have e4:Array.map (fun x=>(#[]:Array Value)[x % (#[]:Array Value).size]!) (Array.range 0) = #[]:=by simp
       simp only [if_true,Sem.run_bind,Sem.run_pure,Result.andThen_ok]
       rw [e4,e1']
       simp only [Sem.run_bind,Sem.run_pure,Result.andThen_ok,newRow,run_newObj,World.alloc_eq]
      ·simp only [h0,if_false,Sem.run_bind,run_zero hz,Sem.run_pure,Result.andThen_ok,c2,e1,newRow,run_newObj,World.alloc_eq]
     ·exact .slice (im:=newImg w r'.size) (Ren.add_self _ _ _) (.inr ⟨rfl,rfl⟩) (Nat.le_refl _)
    ·cases h
   ·cases h
  ·cases h
 ·cases h
theorem makeSlice_sim {P:Program} {ng n0:Nat} {ρ:Ren} {H H':AHeap} {w:World} (hr:Rel ng n0 ρ H w) {t:TypeId} {l c l' c' v:Value}
  (h:makeSliceA P t l c H=some (v,H')) (hl:VRel ρ l l') (hc:VRel ρ c c') (hf:Fresh ρ H H') :
  ∃ v' w' ρ',(Instr.makeSlice t l' c').run P w=.ok v' w'∧Step ng n0 ρ H w ρ' H' w'∧VRel ρ' v v'∧(∀ cb,cb < w.heap.size→w'.heap[cb]? = w.heap[cb]?):=by
 unfold makeSliceA at h
 split at h
 ·rename_i e k l k2 c hu
  obtain rfl:=hl.int_inv
  obtain rfl:=hc.int_inv
  split at h
  ·rename_i s z by_ hs hz hby
   split at h
   ·rename_i hcd
    obtain ⟨c1,c2,c3,c4,c5,c6,c7⟩:=hcd
    cases h
    have hfn:ρ H.n=none:=hf H.n (Nat.le_refl _) (by simp [AHeap.alloc])
    have hza:=zeros_arr z.cells c.toNat (by omega)
    rw [c2] at hza
    have hzr:=zeros_rel (ρ:=ρ) c1 c.toNat
    have hst:=step_cells hr hfn (zeros z.cells.toList c.toNat) ((Array.range (c.toNat * s)).map (z.cells[· % s]!)) e e (by rw [← hza];simp)
     (cellsRel_of (l':=zeros z.cells.toList c.toNat) rfl hzr.2 _ hza)
    refine ⟨.slice (some ⟨w.heap.size,0,none⟩) l.toNat c.toNat,_,_, ?_,hst,.slice (im:=newImg w _) (Ren.add_self _ _ _) (.inr ⟨rfl,rfl⟩) (by omega),fun cb h=>heap_alloc_old h⟩
    have hwl:IntKind.i64.wrap l=l:=by unfold IntKind.wrap;simp [IntKind.bits,IntKind.signed];omega
    have hwc:IntKind.i64.wrap c=c:=by unfold IntKind.wrap;simp [IntKind.bits,IntKind.signed];omega
    unfold tyBytes at hby
    cases hi:P.info? e with
    | none=>simp [hi] at hby
    | some inf =>
     simp [hi] at hby
     subst hby
     have hsz:(sizeOf e).run P w=.ok s w:=run_sizeOf hs w
     simp only [Instr.makeSlice,Sem.run_bind,run_underlying' hu,Result.andThen_ok,asInt,asIntOf,Sem.run_pure,run_typeInfo hi,hwl,hwc]
     have hb:(decide (c < 0) || decide ((inf.bytes:Int) * c > 2 ^ 48) || decide (l < 0) || decide (l > c))=false:=by
      simp;omega
     rw [if_neg (by rw [hb];decide)]
     simp only [Sem.run_bind,run_askRoom,Result.andThen_ok,hsz]
     by_cases h0:c.toNat * s=0
     ·simp only [h0,if_true,Sem.run_bind,Sem.run_pure,Result.andThen_ok,newRow,run_newObj,World.alloc_eq]
      have e4:Array.map (fun x=>(#[]:Array Value)[x % (#[]:Array Value).size]!) (Array.range 0) = #[]:=by simp
      have e5:Array.map (fun x=>z.cells[x % s]!) (Array.range 0) = #[]:=by simp
      rw [e4,e5]
     ·simp only [h0,if_false,Sem.run_bind,run_zero hz,Sem.run_pure,Result.andThen_ok,c2,newRow,run_newObj,World.alloc_eq]
   ·cases h
  ·cases h
 ·cases h
theorem fieldAddr_sim {P:Program} {ρ:Ren} (w:World) {s:TypeId} {x x' v:Value} {f:Nat} (h:fieldAddrA P s x f=some v) (hx:VRel ρ x x') :
  ∃ v',(Instr.fieldAt s x' f).run P w=.ok v' w∧VRel ρ v v':=by
 unfold fieldAddrA at h
 split at h
 ·rename_i fs b o hu
  obtain ⟨im,hb,rfl⟩:=hx.ptr_inv
  split at h
  ·rename_i fd hfd
   split at h
   ·rename_i sz hsz
    split at h
    ·cases h
    ·rename_i hne
     cases h
     refine ⟨.pointer (some ⟨im.blk,im.base + (o + fd.offset),none⟩), ?_,.ptr hb⟩
     ·simp only [Instr.fieldAt,Sem.run_bind,run_underlying' hu,Result.andThen_ok,hfd,Instr.sureAddr,pure_bind,fieldPlace,run_sizeOf hsz,hne,if_false,Sem.run_pure,add_plain',Nat.add_assoc]
   ·cases h
  ·cases h
 ·cases h
theorem indexAddr_sim {P:Program} {ρ:Ren} (w:World) {t:TypeId} {x x' ix ix' v:Value} (h:indexAddrA P t x ix=some v) (hx:VRel ρ x x') (hi:VRel ρ ix ix') :
  ∃ v',(Instr.indexAt t x' ix').run P w=.ok v' w∧VRel ρ v v':=by
 unfold indexAddrA at h
 split at h
 ·rename_i len e b o k i hu
  obtain rfl:=hi.int_inv
  obtain ⟨im,hb,rfl⟩:=hx.ptr_inv
  split at h
  ·rename_i s hs
   split at h
   ·rename_i hin
    cases h
    refine ⟨_, ?_,.ptr hb⟩
    simp only [Instr.indexAt,asIntOf,pure_bind,Sem.run_bind,run_underlying' hu,Result.andThen_ok,Instr.sureAddr,Sem.run_pure,hin,and_self,if_true,run_sizeOf hs,add_plain',Nat.add_assoc]
   ·cases h
  ·cases h
 ·rename_i e b o len cap k i hu
  obtain rfl:=hi.int_inv
  split at h
  ·rename_i s hs
   split at h
   ·rename_i hin
    cases h
    rcases hx.slice_inv with ⟨im,c',hb,hc,hn,rfl⟩|⟨_,rfl,_⟩
    ·refine ⟨_, ?_,.ptr hb⟩
     simp only [Instr.indexAt,asIntOf,pure_bind,Sem.run_bind,run_underlying' hu,Result.andThen_ok,Instr.sureAddr,Sem.run_pure,hin,and_self,if_true,run_sizeOf hs,add_plain',Nat.add_assoc]
    ·omega
   ·cases h
  ·cases h
 ·cases h
theorem part_sim {P:Program} {ρ:Ren} (w:World) {t:TypeId} {cs cs':Array Value} {off:Nat} {v:Value} (h:partA P t cs.toList off=some v) (hc:ARel ρ cs cs')
  (hsc:∀ i (h:i < cs.size),scalar cs[i]=true) :
  ∃ v',(part t cs' off).run P w=.ok v' w∧VRel ρ v v':=by
 unfold partA at h
 split at h
 ·rename_i s h1 h2
  split at h
  ·rename_i hfit
   cases h
   refine ⟨.agg (cs'.extract off (off + s)), ?_, ?_⟩
   ·simp only [part,Sem.run_bind,run_isAgg h1,Result.andThen_ok,if_true,run_sizeOf h2,Sem.run_pure]
   ·have he:=hc.extract off (off + s)
    have hcs:((cs.toList.drop off).take s).toArray=cs.extract off (off + s):=by
     apply Array.ext'
     simp [Array.toList_extract,List.extract]
    rw [hcs]
    refine .agg he.1 (fun i hi=>?_) he.2
    simp only [Array.getElem_extract]
    exact hsc _ _
  ·cases h
 ·rename_i h1
  have h':cs[off]? = some v:=by simpa using h
  obtain ⟨v',e1,e2⟩:=hc.get? h'
  refine ⟨v', ?_,e2⟩
  simp only [part,Sem.run_bind,run_isAgg h1,Result.andThen_ok,if_false,Bool.false_eq_true,e1,Sem.run_pure]
 ·cases h
theorem field_sim {P:Program} {ρ:Ren} (w:World) {t:TypeId} {x x' v:Value} {f:Nat} (h:fieldA P t x f=some v) (hx:VRel ρ x x') :
  ∃ v',(Instr.field t x' f).run P w=.ok v' w∧VRel ρ v v':=by
 unfold fieldA at h
 split at h
 ·rename_i fs cs hu
  obtain ⟨cs',rfl,ha,hsc⟩:=hx.agg_inv
  split at h
  ·rename_i fd hfd
   obtain ⟨v',e1,e2⟩:=part_sim w h ha hsc
   refine ⟨v', ?_,e2⟩
   simp only [Instr.field,Sem.run_bind,run_underlying' hu,Result.andThen_ok,hfd,asAgg,pure_bind,e1]
  ·cases h
 ·cases h
theorem index_sim {P:Program} {ρ:Ren} (w:World) {t:TypeId} {x x' ix ix' v:Value} (h:indexA P t x ix=some v) (hx:VRel ρ x x') (hi:VRel ρ ix ix') :
  ∃ v',(Instr.index t x' ix').run P w=.ok v' w∧VRel ρ v v':=by
 unfold indexA at h
 split at h
 ·rename_i len e cs k i hu
  obtain rfl:=hi.int_inv
  obtain ⟨cs',rfl,ha,hsc⟩:=hx.agg_inv
  split at h
  ·rename_i s hs
   split at h
   ·rename_i hin
    obtain ⟨v',e1,e2⟩:=part_sim w h ha hsc
    refine ⟨v', ?_,e2⟩
    simp only [Instr.index,asIntOf,pure_bind,Sem.run_bind,run_underlying' hu,Result.andThen_ok,hin,and_self,if_true,run_sizeOf hs,e1]
   ·cases h
  ·cases h
 ·rename_i s k i hu
  obtain rfl:=hi.int_inv
  obtain rfl:=hx.string_inv
  split at h
  ·rename_i h0
   split at h
   ·rename_i b hb
    cases h
    refine ⟨_, ?_,.flat rfl⟩
    simp only [Instr.index,asIntOf,pure_bind,Sem.run_bind,run_underlying' hu,Result.andThen_ok,h0,if_true,hb,Sem.run_pure]
   ·cases h
  ·cases h
 ·cases h
theorem extract_sim {P:Program} {ρ:Ren} (w:World) {x x' v:Value} {i:Nat} (h:extractA x i=some v) (hx:VRel ρ x x') :
  ∃ v',(Instr.extract x' i).run P w=.ok v' w∧VRel ρ v v':=by
 unfold extractA at h
 split at h
 ·rename_i vs
  obtain ⟨vs',rfl,ha⟩:=hx.tuple_inv
  obtain ⟨v',e1,e2⟩:=ha.get? h
  exact ⟨v',by simp only [Instr.extract,e1];rfl,e2⟩
 ·cases h
theorem bnd_sim {P:Program} {ρ:Ren} (w:World) {v v':Value} {y y' n:Nat} (h:bnd1 v y=some n) (hv:VRel ρ v v') (hy:y≤y') (code:BoundsCode) :
  (Instr.sliceBound v' y' code).run P w=.ok n w:=by
 unfold bnd1 at h
 split at h
 ·rename_i k i
  obtain rfl:=hv.int_inv
  split at h
  ·rename_i hc
   cases h
   simp only [Instr.sliceBound,asIntOf,pure_bind,Sem.run_bind,Sem.run_pure,Result.andThen_ok]
   rw [if_pos ⟨hc.1,by omega⟩]
   rfl
  ·cases h
 ·cases h
def ORel (ρ:Ren):Option Value→Option Value→Prop
 | some v,some v'=>VRel ρ v v'
 | none,none=>True
 | _,_=>False
theorem bndsA_inv {len cap:Nat} {lo hi mx:Option Value} {l h m:Nat} (e:bndsA len cap lo hi mx=some (l,h,m)) :
  bndO mx cap cap=some m∧bndO hi m len=some h∧bndO lo h 0=some l∧(mx.isSome=true→hi.isNone=false):=by
 unfold bndsA at e
 simp only [Option.bind_eq_some_iff,Option.map_eq_some_iff,Prod.mk.injEq] at e
 obtain ⟨m',e1,h',e2,l',e3,rfl,rfl,rfl⟩:=e
 split at e2
 ·cases e2
 ·rename_i hn
  refine ⟨e1,e2,e3,fun hs=>?_⟩
  cases hh:hi.isNone
  ·rfl
  ·exact absurd ⟨hs,hh⟩ hn
theorem bndO_le {o:Option Value} {y d n:Nat} (e:bndO o y d=some n):(o=none∧n=d)∨(o.isSome=true∧n≤y):=by
 unfold bndO at e
 cases o with
 | none=>simp only [Option.some.injEq] at e;exact .inl ⟨rfl,e.symm⟩
 | some v =>
  refine .inr ⟨rfl, ?_⟩
  simp only at e
  unfold bnd1 at e
  split at e
  ·split at e
   ·cases e;omega
   ·cases e
  ·cases e
theorem bnds_sim {P:Program} {ρ:Ren} (w:World) {len cap cap':Nat} {lo hi mx lo' hi' mx':Option Value} {l h m:Nat} (isS:Bool)
  (e:bndsA len cap lo hi mx=some (l,h,m)) (r1:ORel ρ lo lo') (r2:ORel ρ hi hi') (r3:ORel ρ mx mx') (hc:cap≤cap') :
  ∃ m',(Instr.sliceBounds isS len cap' lo' hi' mx').run P w=.ok (l,h,m') w∧(mx=none→m'=cap')∧(mx≠none→m'=m):=by
 obtain ⟨f1,f2,f3,f4⟩:=bndsA_inv e
 have hmx:∃ m',(∀ v,mx'=some v→∀ code,(Instr.sliceBound v cap' code).run P w=.ok m' w)∧(mx'=none→m'=cap')∧(mx=none→m'=cap')∧(mx≠none→m'=m)∧m≤m':=by
  cases mx with
  | none =>
   cases mx' with
   | some _=>exact r3.elim
   | none=>exact ⟨cap',(fun v h=>by cases h),(fun _=>rfl),(fun _=>rfl),(fun h=>absurd rfl h),by simp [bndO] at f1;omega⟩
  | some u =>
   cases mx' with
   | none=>exact r3.elim
   | some u'=>exact ⟨m,(fun v h code=>by cases h;exact bnd_sim w f1 r3 hc _),(fun h=>by cases h),(fun h=>by cases h),(fun _=>rfl),Nat.le_refl _⟩
 obtain ⟨m',q1,q1',q2,q3,q4⟩:=hmx
 refine ⟨m', ?_,q2,q3⟩
 have hhi:(∀ v,hi'=some v→∀ code,(Instr.sliceBound v m' code).run P w=.ok h w)∧(hi'=none→h=len∧mx'=none):=by
  cases hi with
  | none =>
   cases hi' with
   | some _=>exact r2.elim
   | none =>
    refine ⟨(fun v h=>by cases h),fun _=>⟨by simp only [bndO,Option.some.injEq] at f2;exact f2.symm, ?_⟩⟩
    cases mx with
    | none=>cases mx' with
     | none=>rfl
     | some _=>exact r3.elim
    | some _=>simp at f4
  | some u =>
   cases hi' with
   | none=>exact r2.elim
   | some u'=>exact ⟨(fun v h code=>by cases h;exact bnd_sim w f2 r2 q4 _),(fun h=>by cases h)⟩
 have hlo:(∀ v,lo'=some v→∀ code,(Instr.sliceBound v h code).run P w=.ok l w)∧(lo'=none→l=0):=by
  cases lo with
  | none =>
   cases lo' with
   | some _=>exact r1.elim
   | none=>exact ⟨(fun v h=>by cases h),fun _=>by simp only [bndO,Option.some.injEq] at f3;exact f3.symm⟩
  | some u =>
   cases lo' with
   | none=>exact r1.elim
   | some u'=>exact ⟨(fun v h code=>by cases h;exact bnd_sim w f3 r1 (Nat.le_refl _) _),(fun h=>by cases h)⟩
 obtain ⟨g1,g2⟩:=hhi
 obtain ⟨g3,g4⟩:=hlo
 unfold Instr.sliceBounds
 cases mx' with
 | none =>
  have hm:=q1' rfl
  subst hm
  cases hi' with
  | none =>
   have hh:=(g2 rfl).1
   subst hh
   cases lo' with
   | none=>have hl:=g4 rfl;subst hl;rfl
   | some u=>simp only [Sem.run_bind,Sem.run_pure,Result.andThen_ok,g3 u rfl]
  | some v =>
   cases lo' with
   | none=>have hl:=g4 rfl;subst hl;simp only [Sem.run_bind,Sem.run_pure,Result.andThen_ok,g1 v rfl]
   | some u=>simp only [Sem.run_bind,Sem.run_pure,Result.andThen_ok,g3 u rfl,g1 v rfl]
 | some z =>
  cases hi' with
  | none=>have:=(g2 rfl).2;cases this
  | some v =>
   cases lo' with
   | none=>have hl:=g4 rfl;subst hl;simp only [Sem.run_bind,Sem.run_pure,Result.andThen_ok,g1 v rfl,q1 z rfl]
   | some u=>simp only [Sem.run_bind,Sem.run_pure,Result.andThen_ok,g3 u rfl,g1 v rfl,q1 z rfl]
theorem bnds_le {len cap:Nat} {lo hi mx:Option Value} {l h m:Nat} (e:bndsA len cap lo hi mx=some (l,h,m)) (hl:len≤cap):l≤h∧h≤m∧m≤cap∧(mx=none→m=cap):=by
 obtain ⟨f1,f2,f3,f4⟩:=bndsA_inv e
 have a:=bndO_le f1
 have b:=bndO_le f2
 have c:=bndO_le f3
 refine ⟨by omega, ?_,by omega,fun h=>?_⟩
 ·rcases b with ⟨b1,b2⟩|⟨_,b2⟩
  ·rcases a with ⟨_,a2⟩|⟨a1,_⟩
   ·omega
   ·have:=f4 a1;rw [b1] at this;simp at this
  ·exact b2
 ·rcases a with ⟨_,a2⟩|⟨a1,_⟩
  ·exact a2
  ·rw [h] at a1;simp at a1
theorem slice_sim {P:Program} {ng n0:Nat} {ρ:Ren} {H:AHeap} {w:World} (hr:Rel ng n0 ρ H w) {t:TypeId} {x x' v:Value} {lo hi mx lo' hi' mx':Option Value}
  (h:sliceA P H t x lo hi mx=some v) (hx:VRel ρ x x') (r1:ORel ρ lo lo') (r2:ORel ρ hi hi') (r3:ORel ρ mx mx') :
  ∃ v',(Instr.sliceAt t x' lo' hi' mx').run P w=.ok v' w∧VRel ρ v v':=by
 unfold sliceA at h
 split at h
 ·-- a string
  rename_i s hu
  obtain rfl:=hx.string_inv
  split at h
  ·rename_i l hh m e
   cases h
   cases mx' with
   | some _=>exact r3.elim
   | none =>
    obtain ⟨m',e1,_,_⟩:=bnds_sim (P:=P) w false e r1 r2 (mx':=none) trivial (Nat.le_refl s.size)
    refine ⟨_, ?_,.flat rfl⟩
    simp only [Instr.sliceAt,Instr.slice,Sem.run_bind,run_underlying' hu,Result.andThen_ok,Option.isSome_none,Bool.false_eq_true,if_false,Sem.run_pure,e1]
  ·cases h
 ·-- a slice
  rename_i e b o len cap hu
  have hadd0:∀ a:Addr,a.add 0=a:=fun a=>rfl
  split at h
  ·rename_i l hh m s _ _ _ e' _ hb hs hg
   split at h
   ·rename_i hc
    obtain ⟨hc1,hc2⟩:=hc
    subst hc1
    cases h
    by_cases hmx:mx=none
    rotate_left
    ·-- the capacity is told
     have hlm:l < m:=by
      rcases hc2 with q|q
      ·cases mx with
       | none=>exact absurd rfl hmx
       | some _=>simp at q
      ·exact q
     rcases hx.slice_inv with ⟨im,c',hb',hcap,hn,rfl⟩|⟨ho,rfl,rfl,a,c',rfl⟩
     ·have hle:=bnds_le hb hn
      have hgr:im.gr=true∧im.esz=e':=by
       have:=hr.blk b im hb' (rd_lt hr (by rw [hg];simp))
       rw [hg] at this
       exact ⟨this.1.2.1,this.1.2.2.2.1⟩
      rcases hcap with ⟨_,hcc,hroom⟩|⟨hx',_⟩
      rotate_left
      ·rw [hgr.1] at hx';cases hx'
      rw [hgr.2] at hroom
      obtain ⟨m',e1,_,e3⟩:=bnds_sim (P:=P) w true hb r1 r2 r3 hcc
      have hm':=e3 hmx
      subst hm'
      have hrun:(Instr.sliceAt t (.slice (some ⟨im.blk,im.base + o,none⟩) len c') lo' hi' mx').run P w=.ok (.slice (some ⟨im.blk,im.base + o + l * e',none⟩) (hh - l) (m' - l)) w:=by
       simp only [Instr.sliceAt,Instr.slice,Sem.run_bind,run_underlying' hu,Result.andThen_ok,e1,run_sizeOf hs,Sem.run_pure,Option.map_some,add_plain']
       rw [if_neg (by omega)]
      refine ⟨_,hrun, ?_⟩
      rw [Nat.add_assoc]
      refine .slice hb' (.inl ⟨hgr.1,Nat.le_refl _, ?_⟩) (by omega)
      rw [hgr.2,Nat.sub_mul]
      have q1:l * e'≤m' * e':=Nat.mul_le_mul_right _ (by omega)
      have q2:m' * e'≤c' * e':=Nat.mul_le_mul_right _ (by omega)
      omega
     ·have hle:=bnds_le hb (Nat.le_refl _)
      omega
    subst hmx
    rcases hx.slice_inv with ⟨im,c',hb',hcap,hn,rfl⟩|⟨ho,rfl,rfl,a,c',rfl⟩
    ·have hle:=bnds_le hb hn
     have hm:m=cap:=hle.2.2.2 rfl
     subst hm
     have hgr:im.gr=true∧im.esz=e':=by
      have:=hr.blk b im hb' (rd_lt hr (by rw [hg];simp))
      rw [hg] at this
      exact ⟨this.1.2.1,this.1.2.2.2.1⟩
     rcases hcap with ⟨_,hcc,hroom⟩|⟨hx',_⟩
     rotate_left
     ·rw [hgr.1] at hx';cases hx'
     rw [hgr.2] at hroom
     obtain ⟨m',e1,e2,_⟩:=bnds_sim (P:=P) w true hb r1 r2 r3 hcc
     have hm':=e2 rfl
     subst hm'
     have hrun:(Instr.sliceAt t (.slice (some ⟨im.blk,im.base + o,none⟩) len m') lo' hi' mx').run P w =
       .ok (.slice (if m'=l then some ⟨im.blk,im.base + o,none⟩ else some ⟨im.blk,im.base + o + l * e',none⟩) (hh - l) (m' - l)) w:=by
      simp only [Instr.sliceAt,Instr.slice,Sem.run_bind,run_underlying' hu,Result.andThen_ok,e1,run_sizeOf hs,Sem.run_pure,Option.map_some,add_plain']
     refine ⟨_,hrun, ?_⟩
     by_cases hz:m=l
     ·-- nothing is left
      have hh0:hh - l=0:=by omega
      have hm0:m - l=0:=by omega
      rw [hh0,hm0]
      by_cases hlz:l * e'=0
      ·have e4:(if m'=l then some (⟨im.blk,im.base + o,none⟩:Addr) else some ⟨im.blk,im.base + o + l * e',none⟩)=some ⟨im.blk,im.base + (o + l * e'),none⟩:=by
        rw [hlz];simp
       rw [e4]
       refine .slice hb' (.inl ⟨hgr.1,by omega, ?_⟩) (Nat.le_refl _)
       rw [hgr.2,Nat.sub_mul]
       have:l * e'≤m' * e':=Nat.mul_le_mul_right _ (by omega)
       omega
      ·split
       ·exact .empty (by omega)
       ·exact .empty (by omega)
     ·rw [if_neg (by omega),Nat.add_assoc]
      refine .slice hb' (.inl ⟨hgr.1,by omega, ?_⟩) (by omega)
      rw [hgr.2,Nat.sub_mul]
      have:l * e'≤m' * e':=Nat.mul_le_mul_right _ (by omega)
      omega
    ·-- an empty one
     obtain ⟨m',e1,e2,_⟩:=bnds_sim (P:=P) w true hb r1 r2 r3 (Nat.zero_le c')
     have hle:=bnds_le hb (Nat.le_refl _)
     have hl0:hh=0∧l=0∧m=0:=by omega
     obtain ⟨rfl,rfl,rfl⟩:=hl0
     have hrun:(Instr.sliceAt t (.slice (some a) 0 c') lo' hi' mx').run P w=.ok (.slice (some a) 0 m') w:=by
      simp only [Instr.sliceAt,Instr.slice,Sem.run_bind,run_underlying' hu,Result.andThen_ok,e1,run_sizeOf hs,Sem.run_pure,Option.map_some,Nat.zero_mul,hadd0,ite_self,Nat.sub_zero]
     refine ⟨_,hrun, ?_⟩
     simp only [Nat.zero_mul,Nat.sub_self,Nat.add_zero]
     exact .empty ho
   ·cases h
  ·rename_i l hh m s _ _ k hk hb hs hg
   rcases hx.slice_inv with ⟨im,c',hb',hcap,hn,rfl⟩|⟨ho,rfl,rfl,a,c',rfl⟩
   ·have hle:=bnds_le hb hn
    have hgr:im.gr=false:=by
     have:=hr.blk b im hb' (rd_lt hr (by rw [hg];simp))
     rw [hg] at this
     have f:=this.1
     cases k with
     | ro=>exact f.2
     | ex=>exact f.2
     | gr g1 g2 g3=>exact (hk _ _ _ rfl).elim
    rcases hcap with ⟨q,_⟩|⟨_,rfl⟩
    ·rw [hgr] at q;cases q
    obtain ⟨m',e1,e2,e3⟩:=bnds_sim (P:=P) w true hb r1 r2 r3 (Nat.le_refl c')
    have hm:m'=m:=by
     cases mx with
     | none=>rw [e2 rfl,hle.2.2.2 rfl]
     | some _=>exact e3 (by simp)
    subst hm
    have hrun:(Instr.sliceAt t (.slice (some ⟨im.blk,im.base + o,none⟩) len c') lo' hi' mx').run P w =
      .ok (.slice (if m'=l then some ⟨im.blk,im.base + o,none⟩ else some ⟨im.blk,im.base + o + l * s,none⟩) (hh - l) (m' - l)) w:=by
     simp only [Instr.sliceAt,Instr.slice,Sem.run_bind,run_underlying' hu,Result.andThen_ok,e1,run_sizeOf hs,Sem.run_pure,Option.map_some,add_plain']
    refine ⟨_,hrun, ?_⟩
    split at h
    ·rename_i hml
     cases h
     rw [if_pos hml]
     exact .slice hb' (.inr ⟨hgr,rfl⟩) (by omega)
    ·rename_i hml
     cases h
     rw [if_neg hml,Nat.add_assoc]
     exact .slice hb' (.inr ⟨hgr,rfl⟩) (by omega)
   ·obtain ⟨m',e1,e2,e3⟩:=bnds_sim (P:=P) w true hb r1 r2 r3 (Nat.zero_le c')
    have hle:=bnds_le hb (Nat.le_refl _)
    have hl0:hh=0∧l=0∧m=0:=by omega
    obtain ⟨rfl,rfl,rfl⟩:=hl0
    have hrun:(Instr.sliceAt t (.slice (some a) 0 c') lo' hi' mx').run P w=.ok (.slice (some a) 0 m') w:=by
     simp only [Instr.sliceAt,Instr.slice,Sem.run_bind,run_underlying' hu,Result.andThen_ok,e1,run_sizeOf hs,Sem.run_pure,Option.map_some,Nat.zero_mul,hadd0,ite_self,Nat.sub_zero]
    simp only [if_true,Option.some.injEq] at h
    subst h
    exact ⟨_,hrun,.empty ho⟩
  ·cases h
 ·-- nil
  rename_i e len cap hu
  obtain rfl:=hx.slice_nil
  split at h
  ·rename_i l hh m s hb hs
   cases h
   obtain ⟨m',e1,e2,e3⟩:=bnds_sim (P:=P) w true hb r1 r2 r3 (Nat.le_refl cap)
   have hm:m'=m:=by
    cases mx with
    | none =>
     have:=bndO_le (bndsA_inv hb).1
     rw [e2 rfl]
     simp at this
     exact this.symm
    | some _=>exact e3 (by simp)
   subst hm
   refine ⟨.slice none (hh - l) (m' - l), ?_,.flat rfl⟩
   simp only [Instr.sliceAt,Instr.slice,Sem.run_bind,run_underlying' hu,Result.andThen_ok,e1,run_sizeOf hs,Sem.run_pure,Option.map_none,ite_self]
  ·cases h
 ·-- an array
  rename_i n e b o hu
  obtain ⟨im,hb',rfl⟩:=hx.ptr_inv
  split at h
  ·rename_i l hh m s _ _ hb hs hg
   have hgr:im.gr=false:=by
    have:=hr.blk b im hb' (rd_lt hr (by rw [hg];simp))
    rw [hg] at this
    exact this.1.2
   obtain ⟨m',e1,e2,e3⟩:=bnds_sim (P:=P) w false hb r1 r2 r3 (Nat.le_refl n)
   have hle:=bnds_le hb (Nat.le_refl _)
   have hm:m'=m:=by
    cases mx with
    | none=>rw [e2 rfl,hle.2.2.2 rfl]
    | some _=>exact e3 (by simp)
   subst hm
   have hrun:(Instr.sliceAt t (.pointer (some ⟨im.blk,im.base + o,none⟩)) lo' hi' mx').run P w =
     .ok (.slice (some (if m'=l then ⟨im.blk,im.base + o,none⟩ else ⟨im.blk,im.base + o + l * s,none⟩)) (hh - l) (m' - l)) w:=by
    simp only [Instr.sliceAt,Instr.sureAddr,pure_bind,Sem.run_bind,run_underlying' hu,Result.andThen_ok,e1,run_sizeOf hs,Sem.run_pure,add_plain']
   refine ⟨_,hrun, ?_⟩
   split at h
   ·rename_i hml
    cases h
    rw [if_pos hml]
    exact .slice hb' (.inr ⟨hgr,rfl⟩) (by omega)
   ·rename_i hml
    cases h
    rw [if_neg hml,Nat.add_assoc]
    exact .slice hb' (.inr ⟨hgr,rfl⟩) (by omega)
  ·cases h
 ·cases h
end Go.Proofs.Swa
