/- Part 4. -/
import Derived.Test.YtkjcijlaehflhaaP03
import Derived.Below
set_option linter.unusedVariables false
set_option linter.unusedSimpArgs false
namespace Go.Proofs.Swa
open Go
theorem B47 {a b:List Value}:(a ++ b).length=a.length+b.length:=List.length_append
theorem Fr.to_Jn {X:List Nat}{H H':Aa}(h:Fr H.n X H H')(ht:C1 H):Jn H H':=by
 have ht':=h.top ht
 refine⟨h.n,fun b c T g e l hb hg=>⟨?_,ht'.2 b _ _ _ _ _ hg⟩,ht'.1⟩
 by_cases hh:g<H.n
 ·have:=h.grp b c T g e l hg hh
  rw[ht.1 b hb,hg]at this
  cases this
 ·omega
theorem Fr.toM2 {b1 b2:Nat}{o1 o2:Dd}{H H':Aa}(h:Fr H.n [b1,b2] H H')(ht:C1 H)(h1:H'.get b1=o1)(h2:H'.get b2=o2):Jn H H'∧H'=((H.jn H').upd H'.n b1 o1).upd H'.n b2 o2:=by
 refine⟨h.to_Jn ht, ?_⟩
 show (⟨H'.n,H'.get⟩:Aa)=⟨H'.n,_⟩
 congr 1
 funext b
 split
 ·rename_i e;rw[e,h2]
 ·rename_i e
  by_cases e1:b=b1
  ·rw[e1,Ch,h1]
  ·rw[Cr e1]
   by_cases hb:b<H.n
   ·rw[Ti hb];exact h.old b hb (by simp[e,e1])
   ·rw[P6 (by omega)]
def A7a (H:Aa)(U:Aa→Aa)(H':Aa):Prop:=∃ G,Jn H G∧H'=U (H.jn G)
theorem A7a.two {b1 b2:Nat}{o1 o2:Dd}{H H':Aa}(h:Fr H.n [b1,b2] H H')(ht:C1 H)(h1:H'.get b1=o1)(h2:H'.get b2=o2):A7a H (fun K=>(K.upd K.n b1 o1).upd K.n b2 o2) H':=⟨H',(h.toM2 ht h1 h2).1,(h.toM2 ht h1 h2).2⟩
section
variable {P:Program} {C:Bk} {ops:Array Oper} {os:List Oper} {K:Bi→Aa→Prop} {env:Bi} {H:Aa} {dst:Option Tmp} {ty:TypeId} {pos:String} {aft:Array Edge}
theorem A2T {f:Operand}{args:Array Operand}{ts:Array TypeId}{v0:Value}{U:Aa→Aa}(h:∃ v H',Gj C (ev env f) (args.map (ev env)) H v H'∧v=v0∧A7a H U H')
  (k:∀ G,H.n≤G.n→Jn H G→WO P C ops os K (env.set dst v0) (U (H.jn G))):WO P C ops (⟨dst,.call ⟨.value f,args,ts⟩,ty,pos,aft,none⟩ :: os) K env H:=by
 obtain⟨v,H1,h1,rfl,G,hj,rfl⟩:=h
 exact P4 h1 (k G hj.n hj)
end
theorem Hd {H:Aa}{b s:Nat}{l l1 r:List Value}{T:TypeId}(h:l.length=s)(h1:l1.length=s):Mg H b 0 s (.agg ⟨l⟩) (.cells (l1 ++ r) T .ex)=some (H.upd H.n b (.cells (l ++ r) T .ex)):=by
 rw[A1g,if_pos ⟨rfl,by simpa [Value.cells] using h,by rw[List.length_append];omega⟩]
 have:splice (l1 ++ r) 0 l=l ++ r:=by
  unfold splice
  rw[List.take_zero,List.nil_append,Nat.zero_add,List.drop_append_of_le_length (by omega),List.drop_of_length_le (by omega),List.nil_append]
 show some (H.upd H.n b (.cells (splice (l1 ++ r) 0 l) T .ex))=_
 rw[this]
theorem Ie {l r:List Value}{s:Nat}(h:l.length=s):atN (l ++ r) 0 s=some (.agg ⟨l⟩):=by
 unfold atN
 rw[if_pos (by rw[List.length_append];omega),List.drop_zero,List.take_append_of_le_length (by omega),List.take_of_length_le (by omega)]
theorem B3G {l:List Value}{v:Value}{n:Nat}(h:l.length=n):(l ++ [v])[n]? = some v:=by
 rw[List.getElem?_append_right (by omega),h];simp
theorem B1H {l:List Value}{v w:Value}{n:Nat}(h:l.length=n):(l ++ [v]).set n w=l ++ [w]:=by
 rw[List.set_append_right _ _ (by omega),h,Nat.sub_self];rfl
section
variable {P:Program} {C:Bk} {Or:Li} {ng nt:Nat}
theorem A2U {f:Operand}{ps:Array Tmp}{asg body:Code}{env:Bi}{H:Aa}{Q:I0}
  (h:∀ LO,LO=Dd.loop nt env ps asg body .ready none→(∀ N b,A4q N b LO)→∃ v H1,Gj C (ev env f) #[.func (.yield H.n) #[] #[]] (H.upd (H.n+1) H.n LO) v H1 ∧
   H1.get H.n=LO∧∀ LX,(∀ N b,A4q N b LX)→Q .normal env (H1.upd H1.n H.n LX)):W P C ng nt (.rangeFunc f ps asg body) env H Q:=by
 obtain⟨v,H1,h1,h2,h3⟩:=h _ rfl fun _ _=>trivial
 exact B1F ⟨v,H1,h1,h2,h3 _ fun _ _=>trivial⟩
theorem A2V {l:Nat}{args:Array Value}{h:Aa}{env:Bi}{ps:Array Tmp}{asg body:Code}{R:Aa→Prop}{LO:Dd}(hLO:LO=Dd.loop nt env ps asg body .ready none)
  (h0:h.get l=LO)(hs:args.size=ps.size)(hp:(ps.all fun t=>decide (t<nt))=true)(o1:Do ng nt asg=true)(o2:Do ng nt body=true)(o3:Dr asg=true)(o4:Dr body=true)
  (hr:W P (Cl P Or ng) ng nt asg (L2 ps args env) h fun x e1 h1=>x=.normal∧h1.get l=LO∧∀ LB,(∀ N b,A4q N b LB) →
   W P (Cl P Or ng) ng nt body e1 (h1.upd h1.n l LB) fun x e2 h2=>x=.normal∧h2.get l=LB∧R (h2.upd h2.n l LO)) :
  ∃ H',Cl P Or ng (.yield l) args h (.bool true) H'∧R H':=by
 subst hLO
 refine B1G h0 hs hp o1 o2 o3 o4 (A4f hr ?_)
 rintro x e h1 ⟨q1,q2,q3⟩
 exact⟨q1,q2,q3 _ fun _ _=>trivial⟩
end
theorem A2W {α:Type} [Inhabited α] {l:List α}{x:α}:(l ++ [x]).getD ((l ++ [x]).length-1) default=x:=by simp
theorem A7b {P:Program}{C:Bk}{ng nt:Nat}{id:Nat}{l:List Oper}{env:Bi}{H:Aa}{Q:I0}(L:List Nat)(h:∀ K:Bi→Aa→Prop,(∀ e h,(∀ e',(∀ t,t∈L→e' t=e t)→Q .normal e' h)→K e h)→WO P C ⟨l⟩ l K env H):W P C ng nt (.region id ⟨l⟩ false) env H Q :=
 A8w fun K hK=>h K fun e h k=>hK e h (k e fun _ _=>rfl)
theorem A9i {P:Program}{C:Bk}{ng nt:Nat}{id:Nat}{l:List Oper}{env:Bi}{H:Aa}{Q:I0}(L:List Nat)(h:∀ K:Bi→Aa→Prop,(∀ e h,(∀ e',(∀ t,t∈L→e' t=e t)→Q .normal e' h)→K e h)→WD P C ⟨l⟩ l 0 [] [] K env H):W P C ng nt (.region id ⟨l⟩ true) env H Q :=
 A5L fun K hK=>h K fun e h k=>hK e h (k e fun _ _=>rfl)
theorem Jx {P:Program}{C:Bk}{ng nt:Nat}{c:Code}{env:Bi}{H:Aa}{Q:I0}(L:List Nat)(k:∀ e,(∀ t,t∈L→e t=env t)→W P C ng nt c e H Q):W P C ng nt c env H Q:=k env fun _ _=>rfl
theorem Je {gg:Option Nat}{N n:Nat}(h:∀ x,gg=some x→N≤x)(hn:N≤n):N≤gg.getD n:=by
 cases gg with
 | none=>exact hn
 | some x=>exact h x rfl
theorem La {gg:Option Nat}{N n:Nat}(h:N≤gg.getD n):∀ x,some (gg.getD n)=some x→N≤x:=by
 intro x hx;cases hx;exact h
theorem Zx {α:Type} [Inhabited α] {l:List α}{x:α}{j:Nat}(h:j<l.length):(l ++ [x]).getD j default=l.getD j default:=by
 simp[List.getD,List.getElem?_append_left h]
theorem Zy {α:Type} [Inhabited α] {l:List α}{x:α}:(l ++ [x]).getD l.length default=x:=by simp[List.getD]
theorem C1.dead2 {A B:Aa}{b:Nat}(h1:A.n≤b)(h2:B.n≤b)(h3:C1 A)(h4:C1 B):A.get b=B.get b:=(h3.1 b h1).trans (h4.1 b h2).symm
theorem Jn.self {H:Aa}(ht:C1 H):Jn H H∧H.jn H=H:=by
 have:=(Fr.refl (N:=H.n) (X:=[]) H).to_jn ht
 exact⟨this.2,this.1.symm⟩
theorem nb:((((((((∀ x:Nat,x+1+1=x+2)∧(∀ x:Nat,x+1+2=x+3))∧((∀ x:Nat,x+1+3=x+4)∧(∀ x:Nat,x+1+4=x+5)))∧(((∀ x:Nat,x+1+5=x+6)∧(∀ x:Nat,x+1+6=x+7))∧((∀ x:Nat,x+1+7=x+8)∧(∀ x:Nat,x+1+8=x+9))))∧((((∀ x:Nat,x+2+1=x+3)∧(∀ x:Nat,x+2+2=x+4))∧((∀ x:Nat,x+2+3=x+5)∧(∀ x:Nat,x+2+4=x+6)))∧(((∀ x:Nat,x+2+5=x+7)∧(∀ x:Nat,x+2+6=x+8))∧((∀ x:Nat,x+2+7=x+9)∧(∀ x:Nat,x+2+8=x+10)))))∧(((((∀ x:Nat,x+3+1=x+4)∧(∀ x:Nat,x+3+2=x+5))∧((∀ x:Nat,x+3+3=x+6)∧(∀ x:Nat,x+3+4=x+7)))∧(((∀ x:Nat,x+3+5=x+8)∧(∀ x:Nat,x+3+6=x+9))∧((∀ x:Nat,x+3+7=x+10)∧(∀ x:Nat,x+3+8=x+11))))∧((((∀ x:Nat,x+4+1=x+5)∧(∀ x:Nat,x+4+2=x+6))∧((∀ x:Nat,x+4+3=x+7)∧(∀ x:Nat,x+4+4=x+8)))∧(((∀ x:Nat,x+4+5=x+9)∧(∀ x:Nat,x+4+6=x+10))∧((∀ x:Nat,x+4+7=x+11)∧(∀ x:Nat,x+4+8=x+12))))))∧((((((∀ x:Nat,x+5+1=x+6)∧(∀ x:Nat,x+5+2=x+7))∧((∀ x:Nat,x+5+3=x+8)∧(∀ x:Nat,x+5+4=x+9)))∧(((∀ x:Nat,x+5+5=x+10)∧(∀ x:Nat,x+5+6=x+11))∧((∀ x:Nat,x+5+7=x+12)∧(∀ x:Nat,x+5+8=x+13))))∧((((∀ x:Nat,x+6+1=x+7)∧(∀ x:Nat,x+6+2=x+8))∧((∀ x:Nat,x+6+3=x+9)∧(∀ x:Nat,x+6+4=x+10)))∧(((∀ x:Nat,x+6+5=x+11)∧(∀ x:Nat,x+6+6=x+12))∧((∀ x:Nat,x+6+7=x+13)∧(∀ x:Nat,x+6+8=x+14)))))∧(((((∀ x:Nat,x+7+1=x+8)∧(∀ x:Nat,x+7+2=x+9))∧((∀ x:Nat,x+7+3=x+10)∧(∀ x:Nat,x+7+4=x+11)))∧(((∀ x:Nat,x+7+5=x+12)∧(∀ x:Nat,x+7+6=x+13))∧((∀ x:Nat,x+7+7=x+14)∧(∀ x:Nat,x+7+8=x+15))))∧((((∀ x:Nat,x+8+1=x+9)∧(∀ x:Nat,x+8+2=x+10))∧((∀ x:Nat,x+8+3=x+11)∧(∀ x:Nat,x+8+4=x+12)))∧(((∀ x:Nat,x+8+5=x+13)∧(∀ x:Nat,x+8+6=x+14))∧((∀ x:Nat,x+8+7=x+15)∧(∀ x:Nat,x+8+8=x+16)))))))∧(((((((∀ x:Nat,x+9+1=x+10)∧(∀ x:Nat,x+9+2=x+11))∧((∀ x:Nat,x+9+3=x+12)∧(∀ x:Nat,x+9+4=x+13)))∧(((∀ x:Nat,x+9+5=x+14)∧(∀ x:Nat,x+9+6=x+15))∧((∀ x:Nat,x+9+7=x+16)∧(∀ x:Nat,x+9+8=x+17))))∧((((∀ x:Nat,x+10+1=x+11)∧(∀ x:Nat,x+10+2=x+12))∧((∀ x:Nat,x+10+3=x+13)∧(∀ x:Nat,x+10+4=x+14)))∧(((∀ x:Nat,x+10+5=x+15)∧(∀ x:Nat,x+10+6=x+16))∧((∀ x:Nat,x+10+7=x+17)∧(∀ x:Nat,x+10+8=x+18)))))∧(((((∀ x:Nat,x+11+1=x+12)∧(∀ x:Nat,x+11+2=x+13))∧((∀ x:Nat,x+11+3=x+14)∧(∀ x:Nat,x+11+4=x+15)))∧(((∀ x:Nat,x+11+5=x+16)∧(∀ x:Nat,x+11+6=x+17))∧((∀ x:Nat,x+11+7=x+18)∧(∀ x:Nat,x+11+8=x+19))))∧((((∀ x:Nat,x+12+1=x+13)∧(∀ x:Nat,x+12+2=x+14))∧((∀ x:Nat,x+12+3=x+15)∧(∀ x:Nat,x+12+4=x+16)))∧(((∀ x:Nat,x+12+5=x+17)∧(∀ x:Nat,x+12+6=x+18))∧((∀ x:Nat,x+12+7=x+19)∧(∀ x:Nat,x+12+8=x+20))))))∧((((((∀ x:Nat,x+13+1=x+14)∧(∀ x:Nat,x+13+2=x+15))∧((∀ x:Nat,x+13+3=x+16)∧(∀ x:Nat,x+13+4=x+17)))∧(((∀ x:Nat,x+13+5=x+18)∧(∀ x:Nat,x+13+6=x+19))∧((∀ x:Nat,x+13+7=x+20)∧(∀ x:Nat,x+13+8=x+21))))∧((((∀ x:Nat,x+14+1=x+15)∧(∀ x:Nat,x+14+2=x+16))∧((∀ x:Nat,x+14+3=x+17)∧(∀ x:Nat,x+14+4=x+18)))∧(((∀ x:Nat,x+14+5=x+19)∧(∀ x:Nat,x+14+6=x+20))∧((∀ x:Nat,x+14+7=x+21)∧(∀ x:Nat,x+14+8=x+22)))))∧(((((∀ x:Nat,x+15+1=x+16)∧(∀ x:Nat,x+15+2=x+17))∧((∀ x:Nat,x+15+3=x+18)∧(∀ x:Nat,x+15+4=x+19)))∧(((∀ x:Nat,x+15+5=x+20)∧(∀ x:Nat,x+15+6=x+21))∧((∀ x:Nat,x+15+7=x+22)∧(∀ x:Nat,x+15+8=x+23))))∧((((∀ x:Nat,x+16+1=x+17)∧(∀ x:Nat,x+16+2=x+18))∧((∀ x:Nat,x+16+3=x+19)∧(∀ x:Nat,x+16+4=x+20)))∧(((∀ x:Nat,x+16+5=x+21)∧(∀ x:Nat,x+16+6=x+22))∧((∀ x:Nat,x+16+7=x+23)∧(∀ x:Nat,x+16+8=x+24)))))))):=⟨⟨⟨⟨⟨⟨⟨(fun _=>rfl),(fun _=>rfl)⟩,⟨(fun _=>rfl),(fun _=>rfl)⟩⟩,⟨⟨(fun _=>rfl),(fun _=>rfl)⟩,⟨(fun _=>rfl),(fun _=>rfl)⟩⟩⟩,⟨⟨⟨(fun _=>rfl),(fun _=>rfl)⟩,⟨(fun _=>rfl),(fun _=>rfl)⟩⟩,⟨⟨(fun _=>rfl),(fun _=>rfl)⟩,⟨(fun _=>rfl),(fun _=>rfl)⟩⟩⟩⟩,⟨⟨⟨⟨(fun _=>rfl),(fun _=>rfl)⟩,⟨(fun _=>rfl),(fun _=>rfl)⟩⟩,⟨⟨(fun _=>rfl),(fun _=>rfl)⟩,⟨(fun _=>rfl),(fun _=>rfl)⟩⟩⟩,⟨⟨⟨(fun _=>rfl),(fun _=>rfl)⟩,⟨(fun _=>rfl),(fun _=>rfl)⟩⟩,⟨⟨(fun _=>rfl),(fun _=>rfl)⟩,⟨(fun _=>rfl),(fun _=>rfl)⟩⟩⟩⟩⟩,⟨⟨⟨⟨⟨(fun _=>rfl),(fun _=>rfl)⟩,⟨(fun _=>rfl),(fun _=>rfl)⟩⟩,⟨⟨(fun _=>rfl),(fun _=>rfl)⟩,⟨(fun _=>rfl),(fun _=>rfl)⟩⟩⟩,⟨⟨⟨(fun _=>rfl),(fun _=>rfl)⟩,⟨(fun _=>rfl),(fun _=>rfl)⟩⟩,⟨⟨(fun _=>rfl),(fun _=>rfl)⟩,⟨(fun _=>rfl),(fun _=>rfl)⟩⟩⟩⟩,⟨⟨⟨⟨(fun _=>rfl),(fun _=>rfl)⟩,⟨(fun _=>rfl),(fun _=>rfl)⟩⟩,⟨⟨(fun _=>rfl),(fun _=>rfl)⟩,⟨(fun _=>rfl),(fun _=>rfl)⟩⟩⟩,⟨⟨⟨(fun _=>rfl),(fun _=>rfl)⟩,⟨(fun _=>rfl),(fun _=>rfl)⟩⟩,⟨⟨(fun _=>rfl),(fun _=>rfl)⟩,⟨(fun _=>rfl),(fun _=>rfl)⟩⟩⟩⟩⟩⟩,⟨⟨⟨⟨⟨⟨(fun _=>rfl),(fun _=>rfl)⟩,⟨(fun _=>rfl),(fun _=>rfl)⟩⟩,⟨⟨(fun _=>rfl),(fun _=>rfl)⟩,⟨(fun _=>rfl),(fun _=>rfl)⟩⟩⟩,⟨⟨⟨(fun _=>rfl),(fun _=>rfl)⟩,⟨(fun _=>rfl),(fun _=>rfl)⟩⟩,⟨⟨(fun _=>rfl),(fun _=>rfl)⟩,⟨(fun _=>rfl),(fun _=>rfl)⟩⟩⟩⟩,⟨⟨⟨⟨(fun _=>rfl),(fun _=>rfl)⟩,⟨(fun _=>rfl),(fun _=>rfl)⟩⟩,⟨⟨(fun _=>rfl),(fun _=>rfl)⟩,⟨(fun _=>rfl),(fun _=>rfl)⟩⟩⟩,⟨⟨⟨(fun _=>rfl),(fun _=>rfl)⟩,⟨(fun _=>rfl),(fun _=>rfl)⟩⟩,⟨⟨(fun _=>rfl),(fun _=>rfl)⟩,⟨(fun _=>rfl),(fun _=>rfl)⟩⟩⟩⟩⟩,⟨⟨⟨⟨⟨(fun _=>rfl),(fun _=>rfl)⟩,⟨(fun _=>rfl),(fun _=>rfl)⟩⟩,⟨⟨(fun _=>rfl),(fun _=>rfl)⟩,⟨(fun _=>rfl),(fun _=>rfl)⟩⟩⟩,⟨⟨⟨(fun _=>rfl),(fun _=>rfl)⟩,⟨(fun _=>rfl),(fun _=>rfl)⟩⟩,⟨⟨(fun _=>rfl),(fun _=>rfl)⟩,⟨(fun _=>rfl),(fun _=>rfl)⟩⟩⟩⟩,⟨⟨⟨⟨(fun _=>rfl),(fun _=>rfl)⟩,⟨(fun _=>rfl),(fun _=>rfl)⟩⟩,⟨⟨(fun _=>rfl),(fun _=>rfl)⟩,⟨(fun _=>rfl),(fun _=>rfl)⟩⟩⟩,⟨⟨⟨(fun _=>rfl),(fun _=>rfl)⟩,⟨(fun _=>rfl),(fun _=>rfl)⟩⟩,⟨⟨(fun _=>rfl),(fun _=>rfl)⟩,⟨(fun _=>rfl),(fun _=>rfl)⟩⟩⟩⟩⟩⟩⟩
def A1t (P:Program)(d:Nat)(xs ys:Array Value):List (TypeId×Nat)→Option Bool
 | []=>some true
 | (t,o) :: l=>(pr P (part t xs o)).bind fun a=>(pr P (part t ys o)).bind fun b=>(pr P (Op.equalIn d t a b)).bind fun r=>if r=true then A1t P d xs ys l else some false
def A1u (fs : Array Field) : List (TypeId × Nat) := (fs.toList.filter fun f => f.name != "_").map fun f => (f.type, f.offset)
theorem O8 {α:Type}{P:Program}{c:Prop} [Decidable c] {a b:Sem α}:pr P (if c then a else b)=if c then pr P a else pr P b:=by split <;> rfl
theorem A5Q {α β:Type}{P:Program}{s:Sem α}{f:α→β}:pr P (f <$> s)=(pr P s).map f:=by
 rw[map_eq_pure_bind,Dk]
 cases pr P s <;> rfl
theorem Vm {P:Program}{d:Nat}{t:TypeId}{fs:Array Field}{xs ys:Array Value}(hu:P.underlying t=some (.struct fs))(hp:P.stoodInHeld t=false) :
  pr P (Op.equalIn (d+1) t (.agg xs) (.agg ys))=A1t P d xs ys (A1u fs):=by
 simp only[Op.equalIn,Dk,underlying,Fc,Option.bind_some,hu,Ey,hp,Bool.false_eq_true,if_false]
 rw[← Array.forIn_toList]
 unfold A1u
 generalize fs.toList=l
 clear hu
 induction l with
 | nil=>simp[A1t]
 | cons f l ih =>
  simp only[List.forIn_cons,Dk,O8,List.filter_cons]
  by_cases hn : f.name = "_"
  ·have h1 : (f.name != "_") = false := by simp [hn]
   simp only[hn,ne_eq,not_true_eq_false,if_false,Ey,Option.bind_some,h1,Bool.false_eq_true]
   simpa [Dk] using ih
  ·have h1 : (f.name != "_") = true := by simp [hn]
   simp only[hn,ne_eq,not_false_eq_true,if_true,h1,List.map_cons,A1t,Dk]
   cases pr P (part f.type xs f.offset) with
   | none=>rfl
   | some a =>
    simp only[Option.bind_some]
    cases pr P (part f.type ys f.offset) with
    | none=>rfl
    | some b =>
     simp only[Option.bind_some]
     cases pr P (Op.equalIn d f.type a b) with
     | none=>rfl
     | some r =>
      cases r with
      | false=>simp[O8]
      | true =>
       simp only[Option.bind_some,Bool.not_true,Bool.false_eq_true,if_false,if_true,O8,Ey]
       simpa [Dk] using ih
theorem Nf {P:Program}{t:TypeId}{xs:Array Value}{o:Nat}{v:Value}(h:Em P t=some false)(hv:xs[o]? = some v):pr P (part t xs o)=some v:=by
 unfold Em at h
 cases hu:P.underlying t with
 | none=>rw[hu]at h;cases h
 | some d =>
  rw[hu]at h
  unfold part isAgg
  simp only[Dk,underlying,Fc,Option.bind_some,hu,Ey]
  cases d <;> simp_all [Dk,Ey,pr]
section
variable {P:Program} {d:Nat} {xs ys:Array Value} {t:TypeId} {o:Nat} {l:List (TypeId×Nat)}
theorem A2X {k k':IntKind}{a b:Int}(ha:Em P t=some false)(hu:P.underlying t=some (.int k'))(hx:xs[o]? = some (.int k a))(hy:ys[o]? = some (.int k b)) :
  A1t P (d+1) xs ys ((t,o) :: l)=if a=b then A1t P (d+1) xs ys l else some false:=by
 have:pr P (Op.equalIn (d+1) t (.int k a) (.int k b))=some (a == b):=by
  simp only[Op.equalIn,Dk,underlying,Fc,Option.bind_some,hu,Ey,if_true]
 simp only[A1t,Nf ha hx,Nf ha hy,Option.bind_some,this,beq_iff_eq]
theorem A9j:A1t P d xs ys []=some true:=rfl
theorem A9k {x y:Operand}{fs:Array Field}{r:Bool}(hu:P.underlying t=some (.struct fs))(hp:P.stoodInHeld t=false)(hg:P.eqGuardType P.depth t=false)(hx:dflat (.agg xs)=true)(hy:dflat (.agg ys)=true)
  (he:A1t P 9999 xs ys (A1u fs)=some r):Fj P .eql t x y (.agg xs) (.agg ys)=some (.bool r)∧Fj P .neq t x y (.agg xs) (.agg ys)=some (.bool !r):=by
 have h1:pr P (Op.equal t (.agg xs) (.agg ys))=some r:=by
  show pr P (Op.equalIn (9999+1) t (.agg xs) (.agg ys))=_
  rw[Vm hu hp,he]
 constructor
 ·unfold Fj
  rw[if_pos ⟨hx,hy⟩]
  simp[eqGuard,binOp,Dk,Fc,hg,h1,keep,dflat,flat,O8,A5Q]
 ·unfold Fj
  rw[if_pos ⟨hx,hy⟩]
  simp[eqGuard,binOp,Dk,Fc,hg,h1,keep,dflat,flat,O8,A5Q]
end
theorem A9l {p:Prop} [Decidable p] {r:Bool}:(if p then some r else some false)=some (decide p && r):=by by_cases h:p <;> simp[h]
theorem A7c {p r:Bool}:(if p=true then some r else some false)=some (p && r):=by cases p <;> rfl
end Go.Proofs.Swa
set_option linter.unusedVariables false
set_option linter.unusedSimpArgs false
set_option linter.defProp false
namespace Go.Proofs.Swa
open Go
theorem Ai {P:Program}{C:Bk}{ng nt:Nat}{id:Nat}{l:List Oper}{env:Bi}{H:Aa}{Q:I0}(L:Nat→List Nat)(h:∀ K:Bi→Aa→Prop,(∀ e h,(∀ e',(∀ t,t∈L id→e' t=e t)→Q .normal e' h)→K e h)→WO P C ⟨l⟩ l K env H):W P C ng nt (.region id ⟨l⟩ false) env H Q:=A7b (L id) h
theorem Aw {P:Program}{C:Bk}{ng nt:Nat}{id:Nat}{l:List Oper}{env:Bi}{H:Aa}{Q:I0}(L:Nat→List Nat)(h:∀ K:Bi→Aa→Prop,(∀ e h,(∀ e',(∀ t,t∈L id→e' t=e t)→Q .normal e' h)→K e h)→WD P C ⟨l⟩ l 0 [] [] K env H):W P C ng nt (.region id ⟨l⟩ true) env H Q:=A9i (L id) h
def C0:=B9p @decide_eq_true_eq (B9p @decide_eq_false_iff_not (B9p @Bool.not_eq_eq_eq_not (B9p @Bool.not_true (B9p @Bool.not_false (B9p @not_true_eq_false (B9p @not_false_eq_true (@ne_eq.{1})))))))
def sp:=B9p nb (B9p @A3 (B9p (B9p (@if_true.{1}) (B9p (@if_false.{1}) (@ite_self.{1}))) (B9p (@Option.some.injEq.{0}) (B9p true_and (B9p and_true (B9p (@List.cons_append.{0}) (@List.nil_append.{0})))))))
end Go.Proofs.Swa
set_option linter.unusedVariables false
namespace Go.Proofs.Swa
def A1v:Nat→List Nat
 | 0=>[0]
 | 1=>[0,3]
 | 2=>[0,3,4]
 | 3=>[0,3,4,10]
 | 5=>[0,3,4]
 | 6=>[0,3,4]
 | 4=>[0,3,4]
 | 7=>[2]
 | _=>[]
def I1:Nat→List Nat
 | 0=>[0,1,2,3,4,5,12]
 | 1=>[0,1,2,3,4,5,12,14]
 | 2=>[0,2,3,4,5,12,14,15]
 | 3=>[0,2,3,4,5,12,14,15,27]
 | 5=>[0,2,3,4,5,12,14,15]
 | 4=>[0,2,3,4,5,12,14,15]
 | 6=>[0,3,4,5,12,14,16]
 | 7=>[0,3,4,5,12,14,16,46]
 | 9=>[0,3,4,5,12,14,16]
 | 8=>[0,3,4,5,12,14,16]
 | 10=>[0,3,4,5,12,14,17]
 | 11=>[0,3,4,5,12,14,17,18]
 | 12=>[0,3,4,5,12,14,17,18,19]
 | 13=>[0,4,5,12,14,17,18,19,20]
 | 14=>[0,4,5,12,14,17,18,19,20,89]
 | 16=>[0,4,5,12,14,17,18,19,20]
 | 17=>[0,4,5,12,14,17,18,19,20,21]
 | 18=>[0,4,5,12,14,17,18,19,20,21,22]
 | 19=>[0,4,5,12,14,17,18,19,20,21,22,126]
 | 20=>[0,4,5,12,14,17,18,19,20,21]
 | 21=>[0,4,5,12,14,17,18,19,20,21,22]
 | 22=>[0,4,5,12,14,17,18,19,20,21,22]
 | 23=>[0,4,5,12,14,17,18,19,20,21,22]
 | 24=>[0,4,5,12,14,17,18,19,20,21,22]
 | 25=>[0,4,5,12,14,17,18,19,20]
 | 15=>[0,4,5,12,14,17,18,19,20]
 | 26=>[12,13]
 | _=>[]
def B1I:Nat→List Nat
 | 0=>[0,1]
 | 1=>[0,1,7]
 | 2=>[4]
 | 3=>[4]
 | _=>[]
def B1J:Nat→List Nat
 | 0=>[0,1]
 | 1=>[0,1,6]
 | 2=>[4]
 | 3=>[4]
 | _=>[]
def Om:Nat→List Nat
 | 0=>[1,2]
 | 1=>[1,2,6]
 | 2=>[1,2,6,16]
 | 3=>[4,5]
 | 4=>[1,2,20]
 | 5=>[4,5]
 | 6=>[1,7,8]
 | 7=>[1,7,8,27]
 | 8=>[4,5]
 | 9=>[1,7,9]
 | 10=>[1,7,9,30,31,32]
 | 11=>[1,7,9,30,31,32,33]
 | 12=>[1,7,9,11,30,31,32]
 | 13=>[1,7,9,11,12,30,31,32]
 | 14=>[1,7,9,30,31,32]
 | 15=>[1,7,9,30,31,32]
 | 16=>[4,5]
 | _=>[]
def A1w:Nat→List Nat
 | 0=>[1,2,3,4]
 | 1=>[1,2,3,4,10]
 | 2=>[1,2,3,4,10,19]
 | 3=>[8,9]
 | 4=>[1,2,3,4,21]
 | 5=>[8,9]
 | 6=>[1,2,3,4,29]
 | 7=>[1,2,3,4,29]
 | 8=>[8,9]
 | 9=>[1,2,3,11,12]
 | 10=>[1,2,3,11,12,42]
 | 11=>[8,9]
 | 12=>[2,3,11,13]
 | 13=>[2,11,13,14]
 | 14=>[13,14,15]
 | 15=>[13,14,15,64]
 | 16=>[8,9]
 | 17=>[72]
 | 18=>[8,9]
 | 19=>[8,9]
 | _=>[]
def Ry:Nat→List Nat
 | 0=>[1]
 | 1=>[1,3]
 | 2=>[1,3,18]
 | 3=>[2]
 | 4=>[1,21,22,23]
 | 5=>[1,21,22,23,24]
 | 6=>[1,5,21,22,23]
 | 7=>[1,21,22,23,42]
 | 8=>[2]
 | 9=>[1,21,22,23]
 | 10=>[1,6]
 | 11=>[1,6,49]
 | 12=>[2]
 | 13=>[1,52,53,54]
 | 14=>[1,52,53,54,55]
 | 15=>[1,8,52,53,54]
 | 16=>[1,52,53,54,79]
 | 17=>[2]
 | 18=>[1,52,53,54]
 | 19=>[1,84]
 | 20=>[2]
 | 21=>[1,9]
 | 22=>[1,9,86,87,88]
 | 23=>[1,9,86,87,88,89]
 | 24=>[1,9,11,86,87,88]
 | 25=>[1,11,12,86,87,88]
 | 26=>[1,11,12,86,87,88,97]
 | 27=>[2]
 | 28=>[1,9,86,87,88]
 | 29=>[1,9,86,87,88]
 | 30=>[2]
 | _=>[]
def B48:Nat→List Nat
 | 0=>[0,1,2]
 | 1=>[6]
 | _=>[]
def B49:Nat→List Nat
 | 0=>[0,1,2]
 | 1=>[6]
 | _=>[]
def B3H:Nat→List Nat
 | 0=>[0]
 | 1=>[0,7]
 | 2=>[0]
 | 3=>[0]
 | 4=>[0]
 | 5=>[0]
 | 6=>[2]
 | _=>[]
def B5a:Nat→List Nat
 | 0=>[0,1,2]
 | 1=>[6]
 | _=>[]
def A2Y:Nat→List Nat
 | 0=>[1,2]
 | 1=>[1,2,4]
 | 2=>[1,2,4,12,13]
 | 3=>[1,2,4,12,13,14]
 | 4=>[1,2,4,5,12,13]
 | 5=>[1,2,4,6,7,12,13]
 | 6=>[1,2,4,6,12,13,23]
 | 7=>[2,3]
 | 8=>[1,2,4,12,13]
 | 9=>[1,2,4,12,13]
 | 10=>[2,3]
 | _=>[]
def A7d:Nat→List Nat
 | 0=>[1,2,4]
 | 1=>[1,2,4,5]
 | 2=>[1,4,5,13,14,15]
 | 3=>[1,4,5,13,14,15,16]
 | 4=>[1,4,5,7,13,14,15]
 | 5=>[1,4,5,7,13,14,15,22]
 | 6=>[1,4,5,13,14,15]
 | 7=>[1,4,5,13,14,15]
 | 8=>[4]
 | _=>[]
def A7e:Nat→List Nat
 | 0=>[1,2]
 | 1=>[1,2,5]
 | 2=>[1,2,5,22]
 | 3=>[1,2,5]
 | 4=>[4]
 | _=>[]
def B3I:Nat→List Nat
 | 0=>[2,3]
 | 1=>[4]
 | _=>[]
def B3J:Nat→List Nat
 | 0=>[2,3]
 | 1=>[4]
 | _=>[]
def B5b:Nat→List Nat
 | 0=>[0,1]
 | 1=>[0,1,5]
 | 2=>[4]
 | 3=>[8]
 | 4=>[4]
 | 5=>[4]
 | _=>[]
def B5c:Nat→List Nat
 | 0=>[1,3,5]
 | 1=>[1,3,5,7]
 | 2=>[6]
 | 3=>[3,5,12]
 | 4=>[6]
 | 5=>[3,5,17]
 | 6=>[5,17]
 | 7=>[6]
 | 8=>[5,34]
 | 9=>[6]
 | 10=>[5,42]
 | 11=>[5,42]
 | 12=>[6]
 | 13=>[53]
 | 14=>[6]
 | 15=>[6]
 | _=>[]
def B5d:Nat→List Nat
 | 0=>[0,1]
 | 1=>[0,1,11]
 | 2=>[4]
 | 3=>[4]
 | _=>[]
def B3K:Nat→List Nat
 | 0=>[1,2,3]
 | 1=>[1,3,7]
 | 2=>[6]
 | _=>[]
def M0:Nat→List Nat
 | 0=>[1,2,4]
 | 1=>[1,2,4,6]
 | 2=>[1,2,4,6,7]
 | 3=>[1,2,4,6,7,8]
 | 4=>[1,2,4,6,7,8,9]
 | 5=>[4,6,7,8,9,20]
 | 6=>[6,8,9,10,22]
 | 7=>[6,8,9,10,11]
 | 8=>[6,8,9,10,11,12]
 | 9=>[6,8,9,10,11,12]
 | 10=>[6,8,9,11,12]
 | 11=>[6,8,9,11,12,36]
 | 12=>[6,8,9,11,12]
 | 13=>[6,8,9,12]
 | 14=>[6,9,12]
 | 15=>[6,12]
 | 16=>[6,8,9,11,12]
 | 17=>[6,9,11,12]
 | 18=>[6,12]
 | 19=>[]
 | 20=>[4,5]
 | _=>[]
def Vn:Nat→List Nat
 | 0=>[1,2,3,4,8]
 | 1=>[1,2,3,4,8,20]
 | 2=>[8,9]
 | 3=>[1,2,3,4,8,28]
 | 4=>[8,9]
 | 5=>[1,2,3,4,8,10]
 | 6=>[1,2,3,4,8,10,31]
 | 7=>[1,2,3,4,8,10,31,32]
 | 8=>[1,2,3,4,8,10,11,31]
 | 9=>[1,2,3,4,8,10,11,31,34]
 | 10=>[1,2,3,4,8,10,11,31,34,35]
 | 11=>[1,2,3,4,8,10,11,12,31,34]
 | 12=>[1,2,3,4,8,10,11,12,31,34,50]
 | 13=>[1,2,3,4,8,10,11,31,34]
 | 14=>[1,2,3,4,8,10,11,31,34]
 | 15=>[1,2,3,4,8,10,31]
 | 16=>[8,9]
 | _=>[]
def Uq:Nat→List Nat
 | 0=>[0]
 | 1=>[0,1]
 | 2=>[0,1,4]
 | 3=>[0,1,4,5]
 | 4=>[0,1,2,4]
 | 5=>[0,1,2,4,7]
 | 6=>[0,1,2,4,7,8]
 | 7=>[0,1,2,3,4,7]
 | 8=>[0,1,2,3,4,7,12]
 | 9=>[0,1,2,4,7]
 | 10=>[0,1,2,4,7]
 | 11=>[0,1,4]
 | 12=>[0]
 | _=>[]
def B2X:Nat→List Nat
 | 0=>[0,1,2,3,4,8]
 | 1=>[]
 | _=>[]
def B2Y:Nat→List Nat
 | 0=>[2,3]
 | 1=>[4]
 | _=>[]
def Zz:Nat→List Nat
 | 0=>[0,2,7,8,9]
 | 1=>[0,2,7,8,9,10]
 | 2=>[0,2,4,5,7,8,9]
 | 3=>[0,2,7,8,9,24]
 | 4=>[0,2,7,8,9]
 | _=>[]
def I2:Nat→List Nat
 | 0=>[1,2,3,4,8]
 | 1=>[1,2,3,4,8,9]
 | 2=>[1,2,3,4,8,9,10]
 | 3=>[1,2,3,4,8,9,10,29]
 | 5=>[1,2,3,4,8,9,10]
 | 4=>[1,2,3,4,8,9,10]
 | 6=>[1,2,3,4,8,9,11]
 | 7=>[1,2,3,4,8,9,11,48]
 | 9=>[1,2,3,4,8,9,11,12]
 | 10=>[1,2,3,4,8,9,11,12,58]
 | 11=>[1,2,3,4,8,9,11]
 | 12=>[1,2,3,4,8,9,11,12,13]
 | 13=>[1,2,3,4,8,9,11,12,13,14]
 | 14=>[1,2,3,4,8,9,11,12,13,14,79]
 | 16=>[1,2,3,4,8,9,11,12,13,14,99]
 | 17=>[1,2,3,4,8,9,11,12,13,14,15]
 | 18=>[1,2,3,4,8,9,11,12,13,14]
 | 15=>[1,2,3,4,8,9,11,12,13,14]
 | 8=>[1,2,3,4,8,9,11]
 | 19=>[8]
 | _=>[]
def A7f:Nat→List Nat
 | 0=>[2,3,4]
 | 1=>[2,3,4,7]
 | 2=>[2,3,4,7,8]
 | 3=>[2,3,4,7,8,13]
 | 5=>[2,3,4,7,8,23]
 | 6=>[2,3,4,7,8]
 | 4=>[2,3,4,7,8]
 | 7=>[6]
 | _=>[]
def A7g:Nat→List Nat
 | 0=>[2,3,4,5,6]
 | 1=>[2,3,4,5,6,11]
 | 2=>[2,3,4,5,6,11,16]
 | 4=>[2,3,4,5,6,11,46]
 | 5=>[10]
 | 3=>[2,3,4,5,6,11]
 | 6=>[10]
 | _=>[]
def A2Z:Nat→List Nat
 | 0=>[1,2]
 | 1=>[1,2,5]
 | 2=>[1,2,5,7]
 | 4=>[1,2,5,13]
 | 5=>[4]
 | 3=>[1,2,5]
 | 6=>[4]
 | _=>[]
def B5e:Nat→List Nat
 | 0=>[0,1,4]
 | 1=>[4]
 | _=>[]
def B3L:Nat→List Nat
 | 0=>[1,2,3,4,5]
 | 1=>[3,4,5,11,12]
 | 2=>[10]
 | _=>[]
def Vo:Nat→List Nat
 | 0=>[1]
 | 1=>[1,3]
 | 2=>[1,3,10,11,12]
 | 3=>[1,3,10,11,12,13]
 | 4=>[1,3,4,5,10,11,12]
 | 5=>[1,3,4,5,10,11,12,20,21,22]
 | 6=>[1,3,4,5,10,11,12,20,21,22,23]
 | 7=>[1,3,4,5,6,7,10,11,12,20,21,22]
 | 8=>[1,3,4,5,10,11,12,20,21,22]
 | 9=>[1,3,4,5,10,11,12,20,21,22]
 | 10=>[1,3,10,11,12]
 | 11=>[2]
 | _=>[]
def Hx:Nat→List Nat
 | 0=>[1,2,3]
 | 1=>[1,2,3,7]
 | 2=>[1,2,3,7,8]
 | 3=>[1,2,3,7,8,26]
 | 5=>[1,2,3,7,8,9]
 | 6=>[1,2,3,7,8,9,53]
 | 7=>[6]
 | 8=>[1,2,3,7,8,9,10]
 | 9=>[1,2,3,7,8,100]
 | 10=>[6]
 | 4=>[1,2,3,7,8]
 | 11=>[3,7,11]
 | 12=>[3,7,11,105]
 | 14=>[3,7,11,12]
 | 15=>[3,7,11,12,113]
 | 16=>[3,7,11,12,13]
 | 17=>[3,7,11,13,146]
 | 18=>[6]
 | 19=>[3,7,11,13,14]
 | 20=>[3,7,11,13,14,149]
 | 22=>[3,7,11,13,14,173]
 | 23=>[6]
 | 21=>[3,7,11,13,14]
 | 13=>[3,7,11]
 | 24=>[6]
 | _=>[]
def Kf:Nat→List Nat
 | 0=>[1]
 | 1=>[1,5]
 | 2=>[1,5,15]
 | 3=>[2,3,4]
 | 4=>[4,6]
 | 5=>[4,6,23]
 | 6=>[2,3,4]
 | 7=>[2,3,6]
 | 8=>[2,3,6,7,8]
 | 9=>[2,3,6,7,8,25]
 | 10=>[2,3,6,7,8,25,26]
 | 11=>[2,3,6,7,8,9,25]
 | 12=>[2,3,6,7,8,9,10,11,25]
 | 13=>[2,3,6,7,8,9,10,11,25]
 | 14=>[2,3,6,7,8,9,25,45]
 | 15=>[2,3,6,7,8,9,25]
 | 16=>[2,3,6,7,8,9,25,59]
 | 17=>[2,3]
 | 18=>[2,3,6,7,8,25]
 | 19=>[2,3,4]
 | _=>[]
def A20:Nat→List Nat
 | 0=>[1,2,4]
 | 1=>[1,2,4,10,11]
 | 2=>[1,2,4,10,11,12]
 | 3=>[1,2,4,6,10,11]
 | 4=>[1,2,4,10,11]
 | 5=>[1,2,4,10,11]
 | 6=>[4,5]
 | _=>[]
def B5f:Nat→List Nat
 | 0=>[0,1]
 | 1=>[4]
 | _=>[]
def Vp:Nat→List Nat
 | 0=>[1,2]
 | 1=>[2,8,9,10]
 | 2=>[2,8,9,10,11]
 | 3=>[2,6,8,9,10]
 | 4=>[2,8,9,10,29]
 | 5=>[4]
 | 6=>[2,8,9,10]
 | 7=>[4]
 | _=>[]
def A21:Nat→List Nat
 | 0=>[2,3]
 | 1=>[2,3,5]
 | 2=>[2,5]
 | 3=>[2,5,6]
 | 4=>[5,6,11,12,13]
 | 5=>[5,6,11,12,13,14]
 | 6=>[5,6,8,11,12,13]
 | 7=>[5,6,11,12,13]
 | 8=>[5,6,11,12,13]
 | 9=>[4]
 | _=>[]
def Ng:Nat→List Nat
 | 0=>[0]
 | 1=>[0,3]
 | 2=>[0,3,9,10,11]
 | 3=>[0,3,9,10,11,12]
 | 4=>[0,3,5,9,10,11]
 | 5=>[0,3,9,10,11]
 | 6=>[0,3,9,10,11,20]
 | 7=>[0,3,9,10,11]
 | 8=>[0,3,9,10,11]
 | 9=>[0,6]
 | 10=>[6,25,26,27]
 | 11=>[6,25,26,27,28]
 | 12=>[6,8,25,26,27]
 | 13=>[6,25,26,27]
 | 14=>[6,25,26,27]
 | 15=>[2]
 | _=>[]
def It:Nat→List Nat
 | 0=>[3,4,5]
 | 1=>[3,4,5,7]
 | 2=>[3,4,5,7,8]
 | 3=>[3,4,5,7,8,9]
 | 4=>[3,4,5,7,8,9,10,11]
 | 5=>[3,4,5,7,8,9,10,11,42]
 | 6=>[3,4,5,7,8,9,10,11,12,44]
 | 7=>[3,4,5,7,8,9,10,11,12,13]
 | 8=>[3,4,5,7,8,9,10,11,12,13,52]
 | 9=>[3,4,5,7,8,9,10,11,12,13,14]
 | 10=>[3,4,5,8,9,10,11,13,14]
 | 11=>[4,5,8,9,10,11,13,14,73]
 | 12=>[4,5,9,10,11,13,14]
 | 13=>[4,9,10,11,14,97]
 | 14=>[10,11]
 | 15=>[]
 | 16=>[6]
 | _=>[]
def Kg:Nat→List Nat
 | 0=>[1,2]
 | 1=>[1,2,5]
 | 2=>[1,2,5,6]
 | 3=>[1,2,5,6,17,18]
 | 4=>[1,2,5,6,17,18,19]
 | 5=>[1,2,5,6,7,17,18]
 | 6=>[1,2,5,6,7,17,18,21,22]
 | 7=>[1,2,5,6,7,17,18,21,22,23]
 | 8=>[1,2,5,6,7,8,17,18,21,22]
 | 9=>[1,2,5,6,7,8,9,10,17,18,21,22]
 | 10=>[1,2,5,6,7,8,9,10,17,18,21,22,75]
 | 11=>[1,2,5,6,7,17,18,21,22]
 | 12=>[1,2,5,6,7,17,18,21,22]
 | 13=>[1,2,5,6,17,18]
 | 14=>[4]
 | _=>[]
def A7h:Nat→List Nat
 | 0=>[0,1]
 | 1=>[0,1,7,8]
 | 2=>[0,1,7,8,9]
 | 3=>[0,1,5,7,8]
 | 4=>[0,1,5,7,8,16]
 | 5=>[4]
 | 6=>[0,1,7,8]
 | 7=>[4]
 | _=>[]
def Kh:Nat→List Nat
 | 0=>[0,1,2,3]
 | 1=>[0,1,2,3,18]
 | 2=>[6]
 | 3=>[0,1,3,7]
 | 4=>[0,1,3,7,24,25,26]
 | 5=>[0,1,3,7,24,25,26,27]
 | 6=>[0,1,3,7,9,24,25,26]
 | 7=>[0,1,3,7,24,25,26,43]
 | 8=>[6]
 | 9=>[0,1,3,7,24,25,26]
 | 10=>[0,1,3,50,51,52]
 | 11=>[0,1,3,50,51,52,53]
 | 12=>[0,1,3,11,50,51,52]
 | 13=>[0,1,3,11,12,13,50,51,52]
 | 14=>[0,1,3,11,12,50,51,52,72]
 | 15=>[0,1,3,11,12,14,50,51,52]
 | 16=>[0,1,3,14,50,51,52]
 | 17=>[0,1,3,50,51,52,84]
 | 18=>[6]
 | 19=>[0,1,3,50,51,52]
 | 20=>[6]
 | _=>[]
def B1K:Nat→List Nat
 | 0=>[0]
 | 1=>[0,4]
 | 2=>[2]
 | 3=>[2]
 | _=>[]
def B1L:Nat→List Nat
 | 0=>[0,1]
 | 1=>[0,1,6]
 | 2=>[0,1]
 | 3=>[0,1]
 | 4=>[0,1,16]
 | 5=>[0]
 | 6=>[4]
 | _=>[]
def B2Z:Nat→List Nat
 | 0=>[1]
 | 1=>[2]
 | _=>[]
def B20:Nat→List Nat
 | 0=>[0,3,4]
 | 1=>[4]
 | _=>[]
def A9m:Nat→List Nat
 | 0=>[0,1,2,3]
 | 1=>[4]
 | _=>[]
def B21:Nat→List Nat
 | 0=>[0]
 | 1=>[1]
 | _=>[]
def Jo:Nat→List Nat
 | 0=>[0]
 | 1=>[3]
 | 2=>[3,4]
 | 3=>[3,4,6]
 | 4=>[3,4,6,45]
 | 5=>[3,4]
 | 6=>[3,4,7]
 | 7=>[3,4,7,59]
 | 9=>[3,4,7]
 | 8=>[3,4,7]
 | 10=>[3,4,8]
 | 11=>[4,8,9,10,11]
 | 12=>[4,8,9,10,11,12,13]
 | 13=>[4,8,9,10,11,12,13,14,15]
 | 14=>[4,8,9,10,11,12,13,14,15,16,17,18]
 | 15=>[4,8,9,10,11,12,13,14,15,16,17,18,117]
 | 16=>[2]
 | 17=>[4,8,9,10,11,12,14,16,17,150]
 | 18=>[2]
 | 19=>[4,8,9,10,11,12,14,16,17,19]
 | 20=>[4,8,9,10,11,12,14,16,17,19,154]
 | 22=>[4,8,9,10,11,12,14,16,17,19,20]
 | 23=>[4,8,9,10,11,12,14,16,17,19,20,21]
 | 24=>[4,8,9,10,11,12,14,16,17,19,20,21,161]
 | 26=>[4,8,9,10,11,12,14,16,17,19,20,21,22]
 | 27=>[4,8,9,10,11,12,14,16,17,19,20,21]
 | 25=>[4,8,9,10,11,12,14,16,17,19,20,21]
 | 28=>[4,8,9,10,11,12,14,16,17,19,191]
 | 29=>[2]
 | 21=>[4,8,9,10,11,12,14,16,17,19]
 | 30=>[4,8,9,10,11,14,16,17,23,24,25,26]
 | 31=>[4,8,9,10,11,14,16,17,23,24,25,26,27]
 | 32=>[4,8,9,10,11,14,16,17,23,24,25,26,27,195]
 | 34=>[4,8,9,10,11,14,16,17,23,24,25,26,27,212]
 | 35=>[4,8,9,10,11,14,16,17,23,24,25,26,27]
 | 36=>[4,8,9,10,11,14,16,17,23,24,25,26,27,28]
 | 37=>[4,8,9,10,11,14,16,17,23,24,25,26,27,28]
 | 38=>[4,8,9,10,11,14,16,17,23,24,25,26,27,28,236]
 | 39=>[4,8,9,10,11,14,16,17,23,24,25,26,27,28]
 | 40=>[4,8,9,10,11,14,16,17,23,24,25,26,27]
 | 33=>[4,8,9,10,11,14,16,17,23,24,25,26,27]
 | 41=>[8,14,16,17,23,24,25,241]
 | 42=>[8,14,16,17,23,24,25]
 | 43=>[8,14,16,17,23,24,25,29]
 | 44=>[14,16,17,23,24,25,29,245]
 | 45=>[14,16,17,23,24,25,29]
 | 46=>[14,16,17,24,25,29,247]
 | 47=>[14,16,17,24,25,29]
 | 48=>[2]
 | _=>[]
def B5g:Nat→List Nat
 | 0=>[0,1,2,6]
 | 1=>[0,2,6,7]
 | 2=>[6,7,8]
 | 3=>[6]
 | _=>[]
def Ki:Nat→List Nat
 | 0=>[1,2,3]
 | 1=>[1,2,3,7]
 | 2=>[1,2,3,7,15]
 | 3=>[6]
 | 4=>[1,2,3,7,8]
 | 5=>[1,2,3,7,8,35]
 | 7=>[1,2,3,7,8,59]
 | 8=>[1,2,3,7,8]
 | 6=>[1,2,3,7,8]
 | 9=>[6]
 | _=>[]
def B1M:Nat→List Nat
 | 0=>[0]
 | 1=>[2]
 | _=>[]
end Go.Proofs.Swa
set_option linter.unusedVariables false
set_option linter.unusedSimpArgs false
namespace Go.Proofs.Swa
open Go
structure RoB where
 blk:Nat
 base:Nat
 cells:List Value
 T:TypeId
def A7i (w:World)(r:RoB):Prop:=∃ c' T' fz,w.heap[r.blk]? = some (.cells c' T' fz)∧r.base+r.cells.length≤c'.size∧∀ i (h:i<r.cells.length),c'[r.base+i]? = some r.cells[i]∧flat r.cells[i]=true
def A9n (w:World)(b:Nat):Nat:=match w.heap[b]? with|some (.cells c _ _)=>c.size|_=>0
def O9 (w:World)(L:List RoB):Dj:=fun b=>(L[b]?).map fun r=>⟨r.blk,r.base,A9n w r.blk,true,false,0,0⟩
def L5 (L:List RoB):Aa:=⟨L.length,fun b=>match L[b]? with|some r=>.cells r.cells r.T .ro|none=>.dead⟩
theorem A22 {v:Value}(h:flat v=true):Hi v=true:=by
 cases v <;> simp_all [flat,Hi]
theorem L9 (L:List RoB):C1 (L5 L):=by
 refine⟨fun b hb=>?_,fun b=>?_⟩
 ·have hb:L.length≤b:=hb
  show (match L[b]? with|some r=>Dd.cells r.cells r.T .ro|none=>.dead)=.dead
  rw[List.getElem?_eq_none hb]
 ·intro c T g e l h
  have h:(match L[b]? with|some r=>Dd.cells r.cells r.T .ro|none=>.dead)=.cells c T (.gr g e l):=h
  cases hr:L[b]? with
  | none=>rw[hr]at h;cases h
  | some r=>rw[hr]at h;cases h
theorem A9o {w:World}{L:List RoB}(hL:∀ r,r∈L→A7i w r):Jv 0 w.heap.size (O9 w L) (L5 L) w:=by
 have hren:∀ b im,O9 w L b=some im→∃ r,L[b]? = some r∧im=⟨r.blk,r.base,A9n w r.blk,true,false,0,0⟩∧A7i w r:=by
  intro b im h
  unfold O9 at h
  cases hr:L[b]? with
  | none=>rw[hr]at h;cases h
  | some r =>
   rw[hr]at h
   simp only[Option.map_some,Option.some.injEq]at h
   exact⟨r,rfl,h.symm,hL r (List.mem_of_getElem? hr)⟩
 refine⟨?_, ?_, ?_, ?_,Nat.le_refl _, ?_,(L9 L).1,(L9 L).2⟩
 ·intro b im h _
  obtain⟨r,hr,rfl,c',T',fz,h1,h2,h3⟩:=hren b im h
  have hg:(L5 L).get b=.cells r.cells r.T .ro:=by
   show (match L[b]? with|some r=>Dd.cells r.cells r.T .ro|none=>.dead)=_
   rw[hr]
  rw[hg]
  refine⟨⟨rfl,rfl⟩,c',T',fz,h1, ?_,h2,fun h=>by simp at h,fun _=>?_⟩
  ·show c'.size=A9n w r.blk
   unfold A9n
   rw[h1]
  ·intro i hi
   exact⟨_,(h3 i hi).1,.flat (h3 i hi).2,A22 (h3 i hi).2⟩
 ·intro b1 b2 i1 i2 h1 h2 _ _
  obtain⟨r1,_,rfl,_⟩:=hren b1 i1 h1
  obtain⟨r2,_,rfl,_⟩:=hren b2 i2 h2
  exact .inl ⟨rfl,rfl⟩
 ·intro b im h hro
  obtain⟨r,_,rfl,_⟩:=hren b im h
  cases hro
 ·intro b im h
  obtain⟨r,_,rfl,c',T',fz,h1,_⟩:=hren b im h
  exact(Array.getElem?_eq_some_iff.1 h1).1
 ·intro g hg;omega
theorem A23 {w:World}{L:List RoB}(N cb:Nat):¬ Uj (O9 w L) N cb:=by
 rintro⟨b,im,h,_,_,hro⟩
 unfold O9 at h
 cases hr:L[b]? with
 | none=>rw[hr]at h;cases h
 | some r =>
  rw[hr]at h
  simp only[Option.map_some,Option.some.injEq]at h
  subst h
  cases hro
theorem B1O {w:World}{a:Addr}{cs:List Value}{T:TypeId}(h0:0<cs.length)(h:∀ i (hi:i<cs.length),w.cell? (a.add i)=some cs[i]∧flat cs[i]=true) :
  A7i w ⟨a.block,a.off,cs,T⟩∧a.spot=none:=by
 have g:=(h 0 h0).1
 have ha0:a.add 0=a:=by simp[Addr.add]
 rw[ha0]at g
 unfold World.cell? at g
 cases hb:w.heap[a.block]? with
 | none=>simp[hb]at g
 | some ob =>
  cases ob with
  | cells c T' fz =>
   simp only[hb]at g
   have hsp:a.spot=none:=by
    cases hs:a.spot with
    | none=>rfl
    | some q=>simp[hs]at g
   have hadd:∀ i,a.add i=⟨a.block,a.off+i,none⟩:=by
    intro i
    by_cases hi:i=0
    ·subst hi
     rw[ha0]
     cases a
     dsimp only at hsp
     subst hsp
     rfl
    ·simp[Addr.add,hi]
   have hcell:∀ i (hi:i<cs.length),c[a.off+i]? = some cs[i]:=by
    intro i hi
    have g:=(h i hi).1
    rw[hadd]at g
    unfold World.cell? at g
    simpa [hb] using g
   refine⟨⟨c,T',fz,hb, ?_,fun i hi=>⟨hcell i hi,(h i hi).2⟩⟩,hsp⟩
   have:=hcell (cs.length-1) (by omega)
   obtain⟨q,_⟩:=Array.getElem?_eq_some_iff.1 this
   show a.off+cs.length≤c.size
   omega
  | _=>simp[hb]at g
end Go.Proofs.Swa
set_option linter.unusedVariables false
set_option linter.unusedSimpArgs false
namespace Go.Proofs.Swa
open Go Go.RowKit
def flatR:Value→Bool
 | .tuple vs=>vs.all dflat
 | v=>dflat v
theorem Bu.of_flatR {ρ:Dj}{v v':Value}(h:Bu ρ v v')(hf:flatR v=true):v'=v:=by
 cases v with
 | tuple vs =>
  obtain⟨a',rfl,h1,h2⟩:=h.tuple_inv
  simp only[flatR]at hf
  rw[Array.all_eq_true]at hf
  congr 1
  refine(Array.ext h1 fun i q1 q2=>?_).symm
  exact((h2 i q1 q2).of_dflat (hf i q1)).symm
 | _=>exact h.of_dflat hf
theorem Bu.flatR {ρ:Dj}{v:Value}(hf:Swa.flatR v=true):Bu ρ v v:=by
 cases v with
 | tuple vs =>
  simp only[Swa.flatR]at hf
  rw[Array.all_eq_true]at hf
  exact .tuple rfl fun i h h'=>Bu.dflat (hf i h)
 | _=>exact Bu.dflat hf
theorem E6.of_dflat {ρ:Dj}{a a':Array Value}(h:E6 ρ a a')(hf:(a.all dflat)=true):a'=a:=by
 rw[Array.all_eq_true]at hf
 exact(Array.ext h.1 fun i q1 q2=>((h.2 i q1 q2).of_dflat (hf i q1)).symm).symm
theorem E6.dflat {ρ:Dj}{a:Array Value}(hf:(a.all dflat)=true):E6 ρ a a:=by
 rw[Array.all_eq_true]at hf
 exact⟨rfl,fun i h h'=>Bu.dflat (hf i h)⟩
def W1 (P : Program) (f : FuncId) : Prop := ∃ fn c, P.funcs[f]? = some fn ∧ fn.body = some c ∧ (fn.name == "runtime.NumGoroutine") = false
def OrC (P:Program):Li:=fun f args H v H'=>H'=H∧(args.all dflat)=true∧flatR v=true∧W1 P f ∧
 ∀ w,Calls P f args w fun e w'=>e=.returned v∧Below w.heap.size w w'
theorem OrC.top {P:Program}:Zk (OrC P):=by
 rintro f args H v H' ⟨rfl,_⟩ ht
 exact⟨ht,Nat.le_refl _⟩
theorem A4r {P:Program}{f:FuncId}{args:Array Value}{w w':World}{v:Value}{c:Frame}{cs:List Frame}(hb:W1 P f){fr:Frame}(h:Steps P (lone (Frame.enter P f args .normal) (c :: cs) w) (lone fr (c :: cs) w'))(hl:fr.leaving P w' (.returned v)) :
  B3n P (.fn f) args w v w' c cs:=by
 obtain⟨fn,b,e1,e2,e3⟩:=hb
 exact⟨.enter f args,_,Oe e1 e2 e3 _ _,rfl,h.trans (.one (step_leave_returned hl))⟩
theorem OrC.sim {P:Program}:A5C P 0 (OrC P):=by
 rintro n0 f args H v H' ⟨rfl,h1,h2,h3,h4⟩ ρ w args' hr ha hf c cs
 obtain rfl:=ha.of_dflat h1
 obtain⟨e,w',fr,⟨rfl,hb⟩,hc,hfn,hl⟩:=h4 w (c :: cs)
 refine⟨ρ,w',v,⟨fun _ _=>rfl,Nat.le_refl _,⟨fun b im e hb'=>?_,hr.apart,hr.fresh,fun b im e=>Nat.lt_of_lt_of_le (hr.there b im e) hb.size,Nat.le_trans hr.size hb.size,hr.glob,hr.top,hr.grp⟩,
  fun cb hcb _=>hb.block cb hcb,fun b im _ h1 h2=>absurd h2 (by omega),hb.size,hb.os,hb.tape,hb.output⟩,Bu.flatR h2,A4r h3 hc hl⟩
 exact Iu.mono (Le.refl _) (hb.block im.blk (hr.there b im e)) (hr.blk b im e hb')
theorem V3.back {ρ ρ':Dj}{f g g':Fn}(h:V3 ρ f g)(hl:Le ρ ρ')(k:V3 ρ' f g'):V3 ρ f g':=by
 cases h with
 | func f=>cases k;exact .func f
 | yield h=>
  cases k with
  | yield k =>
   have:=hl _ _ h
   rw[this]at k
   cases k
   exact .yield h
theorem Bu.back {ρ ρ':Dj}(hl:Le ρ ρ'){v u:Value}(h:Bu ρ v u):∀ {u':Value},Bu ρ' v u'→Bu ρ v u':=by
 induction h with
 | flat h=>intro u' k;rw[k.of_flat h];exact .flat h
 | ptr h =>
  intro u' k
  cases k with
  | flat k=>simp[Swa.flat]at k
  | ptr k =>
   have:=hl _ _ h
   rw[this]at k
   cases k
   exact .ptr h
 | slice h hc hn =>
  intro u' k
  cases k with
  | flat k=>simp[Swa.flat]at k
  | slice k kc kn =>
   have:=hl _ _ h
   rw[this]at k
   cases k
   exact .slice h kc kn
  | empty ho=>exact .empty ho
 | empty ho =>
  intro u' k
  cases k with
  | flat k=>simp[Swa.flat]at k
  | slice k kc kn=>exact .empty ho
  | empty=>exact .empty ho
 | map h =>
  intro u' k
  cases k with
  | flat k=>simp[Swa.flat]at k
  | map k =>
   have:=hl _ _ h
   rw[this]at k
   cases k
   exact .map h
 | func hf hs hs2 _ _ iha ihc =>
  intro u' k
  cases k with
  | flat k=>simp[Swa.flat]at k
  | func kf ks ks2 ka kc=>exact .func (hf.back hl kf) ks ks2 (fun i h h'=>iha i h (hs ▸ h) (ka i h h')) (fun i h h'=>ihc i h (hs2 ▸ h) (kc i h h'))
 | agg hs hsc _ ih =>
  intro u' k
  cases k with
  | flat k=>simp[Swa.flat]at k
  | agg ks ksc ka=>exact .agg ks ksc fun i h h'=>ih i h (hs ▸ h) (ka i h h')
 | tuple hs _ ih =>
  intro u' k
  cases k with
  | flat k=>simp[Swa.flat]at k
  | tuple ks ka=>exact .tuple ks fun i h h'=>ih i h (hs ▸ h) (ka i h h')
 | iface _ ih =>
  intro u' k
  cases k with
  | flat k=>simp[Swa.flat]at k
  | iface k=>exact .iface (ih k)
theorem Iu.back {ρ ρ':Dj}(hl:Le ρ ρ'){w w':World}{o:Dd}{im:Yk}(h:Iu ρ w o im)(k:Iu ρ' w' o im):Iu ρ w' o im:=by
 cases o with
 | dead=>trivial
 | cells c T kd =>
  obtain⟨h1,a',A',fa,h2,h3,h4,h5,h6⟩:=h
  obtain⟨k1,c',T',fz,k2,k3,k4,k5,k6⟩:=k
  refine⟨k1,c',T',fz,k2,k3,k4,k5,fun hlv i hi=>?_⟩
  obtain⟨v',e1,e2,e3⟩:=k6 hlv i hi
  obtain⟨u',q1,q2,q3⟩:=h6 hlv i hi
  exact⟨v',e1,q2.back hl e2,e3⟩
 | map es =>
  obtain⟨h1,h2,es',clk,h3,h4,_⟩:=h
  obtain⟨k1,k2,fs',klk,k3,k4,kb⟩:=k
  refine⟨k1,k2,fs',klk,k3,⟨k4.1,fun i hi hi'=>?_⟩,kb⟩
  have hi2:i<es'.size:=h4.1 ▸ hi
  exact⟨(k4.2 i hi hi').1,(h4.2 i hi hi2).2.back hl (k4.2 i hi hi').2⟩
 | iter s pos=>exact k
 | loop nt env ps asg body st pend =>
  obtain⟨h1,h2,r,h3,h4,h5,h6,h7,h8,h9⟩:=h
  obtain⟨k1,k2,q,k3,k4,k5,k6,k7,k8,k9⟩:=k
  exact⟨k1,k2,q,k3,k4,k5,k6,k7,k8,k9.1,fun t=>(h9.2 t).back hl (k9.2 t)⟩
def OrG (P:Program)(C:Bk):Li:=fun f args H v H'=>OrC P f args H v H' ∨
 (flatR v=true∧W1 P f∧∃ H1,C (.fn f) args H v H1∧H.n≤H1.n∧(∀ b,b<H.n→H1.get b=H.get b)∧H'=⟨H1.n,H.get⟩)
theorem OrG.top {P:Program}{C:Bk}:Zk (OrG P C):=by
 rintro f args H v H' (h|⟨_,_,H1,_,hn,_,rfl⟩) ht
 ·exact OrC.top _ _ _ _ _ h ht
 ·exact⟨⟨fun b hb=>ht.1 b (Nat.le_trans hn hb),ht.2⟩,hn⟩
theorem OrG.sim {P:Program}{C:Bk}(hC:Jj P 0 C):A5C P 0 (OrG P C):=by
 rintro n0 f args H v H' (h|⟨h1,h2,H1,h3,hn,hold,rfl⟩) ρ w args' hr ha hf c cs
 ·exact OrC.sim _ _ _ _ _ _ h _ _ _ hr ha hf c cs
 ·obtain⟨ρ1,w1,v1,s,hv,hg⟩:=hC n0 (.fn f) args H v H1 h3 ρ w (.fn f) args' hr rfl ha hf c cs
  obtain rfl:=hv.of_flatR h1
  have hle:Le ρ ρ1:=s.le hf
  have hlt:∀ b im,ρ b=some im→b<H1.n→b<H.n:=by
   intro b im e hb
   rcases Nat.lt_or_ge b H.n with h|h
   ·exact h
   ·have:ρ b=none:=hf b h hb
    rw[this]at e;cases e
  refine⟨ρ,w1,v1,⟨fun _ _=>rfl,hn,⟨fun b im e hb=>?_,hr.apart,hr.fresh,fun b im e=>Nat.lt_of_lt_of_le (hr.there b im e) s.size,Nat.le_trans hr.size s.size,hr.glob,fun b hb=>hr.top b (Nat.le_trans hn hb),hr.grp⟩,
   s.frame,fun b im e q1 q2=>absurd (hlt b im e q2) (by omega),s.size,s.os,s.tape,s.output⟩,Bu.flatR h1,hg⟩
  have hb2:=hlt b im e hb
  have q:=s.rel.blk b im (hle _ _ e) hb
  rw[hold b hb2]at q
  exact Iu.back hle (hr.blk b im e hb2) q
def CX (P:Program):Nat→Bk
 | 0=>fun _ _ _ _ _=>False
 | n+1=>Cl P (OrG P (CX P n)) 0
theorem Cl.sim {P:Program}{Or:Li}(hmix:P.follows .mixedOrders=true)(hO:Zk Or)(hS:A5C P 0 Or):Jj P 0 (Cl P Or 0):=by
 rintro n0 t args H v H' ⟨m,h⟩
 exact Th hmix hO hS m n0 t args H v H' h
theorem Cl.top {P:Program}{Or:Li}(hO:Zk Or):F6 (Cl P Or 0):=by
 rintro t args H v H' ⟨m,h⟩
 exact P3 hO m _ _ _ _ _ h
theorem CX.sim {P:Program}(hmix:P.follows .mixedOrders=true):∀ n,Jj P 0 (CX P n)
 | 0=>fun _ _ _ _ _ _ h=>h.elim
 | n+1=>Cl.sim hmix OrG.top (OrG.sim (CX.sim hmix n))
theorem CX.top {P:Program}:∀ n,F6 (CX P n)
 | 0=>fun _ _ _ _ _ h=>h.elim
 | n+1=>Cl.top OrG.top
def B3M (A B:Li):Prop:=∀ f args H v H',A f args H v H'→B f args H v H'
theorem A25 {P:Program}{A B:Li}{ng:Nat}(h:B3M A B):∀ n,Ke (I6 P A ng n) (I6 P B ng n)
 | 0=>fun _ _ _ _ _ k=>k.elim
 | n+1=>by
  have ih:=A25 (P:=P) (ng:=ng) h n
  intro t a H v H' k
  cases t with
  | fn f =>
   rcases k with k|⟨fn,c,ex,env1,e1,e2,e4,e3,hok,hrun,r⟩
   ·exact .inl (h _ _ _ _ _ k)
   ·exact .inr ⟨fn,c,ex,env1,e1,e2,e4,e3,hok,G9 ih hrun,r⟩
  | yield l =>
   obtain⟨nt,env,ps,asg,body,st,pend,env1,H1,ps1,a1,b1,e1,ex,env2,H2,e3,ps3,a3,b3,st3,pend3,h0,x1,x2,x3,x4,x5,x6,h1,h2,h3,r⟩:=k
   exact⟨nt,env,ps,asg,body,st,pend,env1,H1,ps1,a1,b1,e1,ex,env2,H2,e3,ps3,a3,b3,st3,pend3,h0,x1,x2,x3,x4,x5,x6,G9 ih h1,h2,G9 ih h3,r⟩
theorem B5h {P:Program}{A B:Li}{ng:Nat}(h:B3M A B):Ke (Cl P A ng) (Cl P B ng):=fun t a H v H' ⟨n,k⟩=>⟨n,A25 h n _ _ _ _ _ k⟩
theorem OrG.mono {P:Program}{C D:Bk}(h:Ke C D):B3M (OrG P C) (OrG P D):=by
 rintro f args H v H' (k|⟨h1,h2,H1,h3,r⟩)
 ·exact .inl k
 ·exact .inr ⟨h1,h2,H1,h _ _ _ _ _ h3,r⟩
theorem CX.step {P:Program}:∀ n,Ke (CX P n) (CX P (n+1))
 | 0=>fun _ _ _ _ _ k=>k.elim
 | n+1=>B5h (OrG.mono (CX.step n))
theorem A4s {P:Program}(hmix:P.follows .mixedOrders=true){n:Nat}{f:FuncId}{args:Array Value}{H':Aa}{v:Value}{fn:Func}{c:Code}{ex:Ex}{env1:Bi}
  (hfl:(args.all dflat)=true)(e1:P.funcs[f]? = some fn)(e2:fn.body=some c)(e3:args.size≤fn.ntmps)(hok:Do 0 fn.ntmps c=true)(hrun:Gv P (CX P n) 0 fn.ntmps c (K8 args) (L5 []) ex env1 H')
  (hex:ex=.normal∨ex=.ret)(hres:Er P fn env1 H'=some v)(hv:flatR v=true)(w:World):Calls P f args w fun e w'=>e=.returned v∧Below w.heap.size w w':=by
 intro cs
 have hr:Jv 0 w.heap.size (O9 w []) (L5 []) w:=A9o (by simp)
 have hf:Fz (O9 w []) (L5 []) H':=fun b _ _=>rfl
 obtain⟨ρ1,w1,v',fr,s1,q1,q2,q3,q4⟩:=A4d hmix (CX.sim hmix n) (CX.top n) e1 e2 e3 hok hrun hex hres hr (E6.dflat hfl) hf cs
 obtain rfl:=q1.of_flatR hv
 exact⟨.returned v',w1,fr,⟨rfl,s1.os,s1.tape,s1.output,s1.size,fun k hk=>s1.frame k hk (A23 _ _)⟩,q2,q3,q4⟩
end Go.Proofs.Swa
set_option linter.unusedVariables false
set_option linter.unusedSimpArgs false
namespace Go.Proofs.Swa
open Go
inductive Tr (α:Type) where
 | nil
 | leaf (a:α)
 | node (l r:Tr α)
def Tr.get {α:Type}:Tr α→Nat→Option α
 | .nil,_=>none
 | .leaf a,i=>match Nat.beq i 0 with|true=>some a|false=>none
 | .node l r,i=>match Nat.beq (Nat.mod i 2) 0 with|true=>l.get (Nat.div i 2)|false=>r.get (Nat.div i 2)
def Tr.putK {α:Type}(a:α):Nat→Tr α→Nat→(Tr α→Bool)→Bool
 | 0,t,i,k=>match t with
  | .node _ _=>false
  | _=>match Nat.beq i 0 with|true=>k (.leaf a)|false=>false
 | d+1,t,i,k=>match t with
  | .leaf _=>false
  | .nil=>(match Nat.beq (Nat.mod i 2) 0 with
   | true=>Tr.putK a d .nil (Nat.div i 2) fun l=>k (.node l .nil)
   | false=>Tr.putK a d .nil (Nat.div i 2) fun r=>k (.node .nil r))
  | .node l r=>(match Nat.beq (Nat.mod i 2) 0 with
   | true=>Tr.putK a d l (Nat.div i 2) fun l=>k (.node l r)
   | false=>Tr.putK a d r (Nat.div i 2) fun r=>k (.node l r))
theorem Lr {a b:Nat}:Nat.beq a b=decide (a=b):=by
 rw[Bool.eq_iff_iff];simp
theorem Tr.get_nil {α:Type}(i:Nat):(Tr.nil:Tr α).get i=none:=rfl
theorem Tr.get_leaf {α:Type}(a:α)(i:Nat):(Tr.leaf a).get i=if i=0 then some a else none:=by
 unfold Tr.get;by_cases h:i=0 <;> simp[Lr,h]
theorem Tr.get_node {α:Type}(l r:Tr α)(i:Nat):(Tr.node l r).get i=if i % 2=0 then l.get (i / 2) else r.get (i / 2):=by
 rw[Tr.get]
 show (match Nat.beq (i % 2) 0 with|true=>l.get (i / 2)|false=>r.get (i / 2))=_
 by_cases h:i % 2=0
 ·rw[Lr,if_pos h,decide_eq_true h]
 ·rw[Lr,if_neg h,decide_eq_false h]
theorem Tr.putK_spec {α:Type}{a:α}:∀ {d:Nat}{t:Tr α}{i:Nat}{k:Tr α→Bool},Tr.putK a d t i k=true→∃ t',(∀ j,t'.get j=if j=i then some a else t.get j)∧k t'=true:=by
 intro d
 induction d with
 | zero =>
  intro t i k h
  have hh:(∀ l r,t≠.node l r)∧i=0∧k (.leaf a)=true:=by
   unfold Tr.putK at h
   cases t with
   | node l r=>simp at h
   | nil=>
    simp only[Lr]at h
    by_cases hi:i=0
    ·simp[hi]at h;exact⟨by simp,hi,h⟩
    ·simp[hi]at h
   | leaf b =>
    simp only[Lr]at h
    by_cases hi:i=0
    ·simp[hi]at h;exact⟨by simp,hi,h⟩
    ·simp[hi]at h
  obtain⟨h1,rfl,h3⟩:=hh
  refine⟨_,fun j=>?_,h3⟩
  rw[Tr.get_leaf]
  by_cases hj:j=0
  ·rw[if_pos hj,if_pos hj]
  ·rw[if_neg hj,if_neg hj]
   cases t with
   | node l r=>exact absurd rfl (h1 l r)
   | nil=>rfl
   | leaf b=>rw[Tr.get_leaf,if_neg hj]
 | succ d ih =>
  intro t i k h
  have hnode:∀ l r,Tr.putK a (d+1) (.node l r) i k=true→∃ t',(∀ j,t'.get j=if j=i then some a else (Tr.node l r).get j)∧k t'=true:=by
   intro l r h
   rw[Tr.putK]at h
   have h:(match Nat.beq (i % 2) 0 with|true=>Tr.putK a d l (i / 2) fun l=>k (.node l r)|false=>Tr.putK a d r (i / 2) fun r=>k (.node l r))=true:=h
   by_cases hi:i % 2=0
   ·rw[Lr,decide_eq_true hi]at h
    obtain⟨l',h1,h2⟩:=ih h
    refine⟨_,fun j=>?_,h2⟩
    rw[Tr.get_node,Tr.get_node]
    by_cases hj:j % 2=0
    ·rw[if_pos hj,if_pos hj,h1]
     by_cases e:j=i
     ·subst e;simp
     ·rw[if_neg (by omega),if_neg e]
    ·rw[if_neg hj,if_neg hj,if_neg (by omega)]
   ·rw[Lr,decide_eq_false hi]at h
    obtain⟨l',h1,h2⟩:=ih h
    refine⟨_,fun j=>?_,h2⟩
    rw[Tr.get_node,Tr.get_node]
    by_cases hj:j % 2=0
    ·rw[if_pos hj,if_pos hj,if_neg (by omega)]
    ·rw[if_neg hj,if_neg hj,h1]
     by_cases e:j=i
     ·subst e;simp
     ·rw[if_neg (by omega),if_neg e]
  cases t with
  | leaf b=>simp[Tr.putK]at h
  | node l r=>exact hnode l r h
  | nil =>
   have e:Tr.putK a (d+1) (.node .nil .nil) i k=Tr.putK a (d+1) .nil i k:=rfl
   obtain⟨t',h1,h2⟩:=hnode .nil .nil (e.trans h)
   refine⟨t',fun j=>?_,h2⟩
   rw[h1,Tr.get_node]
   simp[Tr.get_nil]
def Ho (n:Nat)(k:Nat→Bool):Bool:=match n with|0=>k 0|m+1=>k (Nat.succ m)
def A9p (b:Bool)(k:Bool→Bool):Bool:=match b with|true=>k true|false=>k false
def A4t (n:Int)(k:Int→Bool):Bool:=match n with|.ofNat n=>Ho n fun n=>k (.ofNat n)|.negSucc n=>Ho n fun n=>k (.negSucc n)
def A9q (d:IntKind)(k:IntKind→Bool):Bool:=match d with|.i8=>k .i8|.i16=>k .i16|.i32=>k .i32|.i64=>k .i64|.u8=>k .u8|.u16=>k .u16|.u32=>k .u32|.u64=>k .u64
def A1x (s:Option Nat)(k:Option Nat→Bool):Bool:=match s with|none=>k none|some n=>Ho n fun n=>k (some n)
def A1y (a:Option Addr)(k:Option Addr→Bool):Bool:=match a with|none=>k none|some ⟨b,o,s⟩=>Ho b fun b=>Ho o fun o=>A1x s fun s=>k (some ⟨b,o,s⟩)
def Nz {α:Type}:List α→(List α→Bool)→Bool
 | [],k=>k []
 | a :: l,k=>Nz l fun l=>k (a :: l)
def Vy:List UInt8→(List UInt8→Bool)→Bool
 | [],k=>k []
 | a :: l,k=>Ho a.toNat fun n=>Vy l fun l=>k (UInt8.ofNat n :: l)
def A1z (s:ByteArray)(k:ByteArray→Bool):Bool:=match s with|⟨⟨l⟩⟩=>Vy l fun l=>k ⟨⟨l⟩⟩
def Q0 (v:Value)(k:Value→Bool):Bool:=match v with
 | .int d n=>A9q d fun d=>A4t n fun n=>k (.int d n)
 | .bool b=>A9p b fun b=>k (.bool b)
 | .pointer a=>A1y a fun a=>k (.pointer a)
 | .slice a l c=>A1y a fun a=>Ho l fun l=>Ho c fun c=>k (.slice a l c)
 | .string s=>A1z s fun s=>k (.string s)
 | .agg ⟨l⟩=>Nz l fun l=>k (.agg ⟨l⟩)
 | .map r=>A1x r fun r=>k (.map r)
 | v=>k v
def Mo:List Value→(List Value→Bool)→Bool
 | [],k=>k []
 | a :: l,k=>Q0 a fun a=>Mo l fun l=>k (a :: l)
def Lb (v:Value)(k:Value→Bool):Bool:=match v with
 | .tuple ⟨l⟩=>Mo l fun l=>k (.tuple ⟨l⟩)
 | .func f ⟨a⟩ ⟨c⟩=>Mo a fun a=>Mo c fun c=>k (.func f ⟨a⟩ ⟨c⟩)
 | v=>Q0 v k
theorem Ed (n:Nat)(k:Nat→Bool):Ho n k=k n:=by cases n <;> rfl
theorem A7j (n:Bool)(k:Bool→Bool):A9p n k=k n:=by cases n <;> rfl
theorem A7k (n:Int)(k:Int→Bool):A4t n k=k n:=by cases n <;> simp[A4t,Ed]
theorem A7l (n:IntKind)(k:IntKind→Bool):A9q n k=k n:=by cases n <;> rfl
theorem Z0 (n:Option Nat)(k:Option Nat→Bool):A1x n k=k n:=by cases n <;> simp[A1x,Ed]
theorem A7m (a:Option Addr)(k:Option Addr→Bool):A1y a k=k a:=by
 cases a with
 | none=>rfl
 | some a=>cases a;simp[A1y,Ed,Z0]
theorem Lx {α:Type}(l:List α)(k:List α→Bool):Nz l k=k l:=by
 induction l generalizing k with
 | nil=>rfl
 | cons a l ih=>rw[Nz,ih]
theorem A4u (l:List UInt8)(k:List UInt8→Bool):Vy l k=k l:=by
 induction l generalizing k with
 | nil=>rfl
 | cons a l ih=>rw[Vy,Ed,ih];simp
theorem Z1 (s:ByteArray)(k:ByteArray→Bool):A1z s k=k s:=by
 obtain⟨⟨l⟩⟩:=s;simp[A1z,A4u]
theorem Nh (v:Value)(k:Value→Bool):Q0 v k=k v:=by
 cases v <;> simp[Q0,A7l,A7k,A7j,A7m,Ed,Z0,Z1,Lx]
theorem Q1 (l:List Value)(k:List Value→Bool):Mo l k=k l:=by
 induction l generalizing k with
 | nil=>rfl
 | cons a l ih=>rw[Mo,Nh,ih]
theorem Kj (v:Value)(k:Value→Bool):Lb v k=k v:=by
 cases v <;> simp[Lb,Nh,Q1]
def A26:List Value→List Value→(List Value→Bool)→Bool
 | c,[],k=>k c
 | _ :: c,x :: l,k=>A26 c l fun r=>k (x :: r)
 | [],_ :: _,_=>false
def A1A:List Value→Nat→List Value→(List Value→Bool)→Bool
 | c,0,l,k=>A26 c l k
 | a :: c,o+1,l,k=>A1A c o l fun r=>k (a :: r)
 | [],_+1,_,_=>false
theorem Z2:∀ {c l:List Value}{k:List Value→Bool},A26 c l k=true→l.length≤c.length∧k (splice c 0 l)=true
 | c,[],k,h=>by
  have:A26 c [] k=k c:=by cases c <;> rfl
  rw[this]at h
  exact⟨by simp,by simpa [splice] using h⟩
 | [],x :: l,k,h=>by simp[A26]at h
 | a :: c,x :: l,k,h=>by
  rw[A26]at h
  obtain⟨h1,h2⟩:=Z2 h
  exact⟨by simpa using h1,by simpa [splice] using h2⟩
theorem Ni:∀ {c:List Value}{o:Nat}{l:List Value}{k:List Value→Bool},A1A c o l k=true→o+l.length≤c.length∧k (splice c o l)=true
 | c,0,l,k,h=>by
  have:A1A c 0 l k=A26 c l k:=by cases c <;> rfl
  rw[this]at h
  have:=Z2 h
  exact⟨by omega,this.2⟩
 | [],o+1,l,k,h=>by simp[A1A]at h
 | a :: c,o+1,l,k,h=>by
  rw[A1A]at h
  obtain⟨h1,h2⟩:=Ni h
  refine⟨by simp;omega, ?_⟩
  have e:splice (a :: c) (o+1) l=a :: splice c o l:=by simp[splice,Nat.add_right_comm]
  rw[e]
  exact h2
abbrev Dl:=Tr Value
def Fm (e:Dl):Bi:=fun t=>match e.get t with|some v=>v|none=>undef
theorem A1B {e e':Dl}{t:Nat}{v:Value}(h:∀ j,e'.get j=if j=t then some v else e.get j):Fm e'=(Fm e).put t v:=by
 funext j
 simp only[Fm,Bi.put,h]
 by_cases hj:j=t <;> simp[hj]
def W2:List Value→Nat→Dl→(Dl→Bool)→Bool
 | [],_,e,k=>k e
 | v :: l,i,e,k=>Tr.putK v 9 e i fun e=>W2 l (Nat.succ i) e k
theorem W3:∀ {l:List Value}{i:Nat}{e:Dl}{k:Dl→Bool},W2 l i e k=true→∃ e',(∀ t,Fm e' t=if t<i then Fm e t else (l[t-i]?).getD (Fm e t))∧k e'=true
 | [],i,e,k,h=>⟨e,fun t=>by simp,h⟩
 | v :: l,i,e,k,h=>by
  rw[W2]at h
  obtain⟨e1,h1,h2⟩:=Tr.putK_spec h
  obtain⟨e2,h3,h4⟩:=W3 h2
  refine⟨e2,fun t=>?_,h4⟩
  rw[h3,A1B h1]
  by_cases a:t<i
  ·rw[if_pos (by omega),if_pos a,Bi.put,if_neg (by omega)]
  ·by_cases b:t=i
   ·subst b
    rw[if_pos (by omega),if_neg a]
    simp[Bi.put]
   ·rw[if_neg (by omega),if_neg a]
    have:t-i=(t-(i+1))+1:=by omega
    rw[this,List.getElem?_cons_succ,Bi.put,if_neg b]
theorem Z3 {l:List Value}{k:Dl→Bool}(h:W2 l 0 .nil k=true):∃ e',Fm e'=K8 l.toArray∧k e'=true:=by
 obtain⟨e',h1,h2⟩:=W3 h
 refine⟨e', ?_,h2⟩
 funext t
 rw[h1,if_neg (by omega),Nat.sub_zero]
 have:Fm (.nil:Dl) t=undef:=rfl
 rw[this]
 simp[K8,List.getD]
def A1C:List (Tmp×Value)→Dl→(Dl→Bool)→Bool
 | [],e,k=>k e
 | p :: l,e,k=>Tr.putK p.2 9 e p.1 fun e=>A1C l e k
theorem Ur:∀ {l:List (Tmp×Value)}{e:Dl}{k:Dl→Bool},A1C l e k=true→∃ e',Fm e'=l.foldl (fun e p=>e.put p.1 p.2) (Fm e)∧k e'=true
 | [],e,k,h=>⟨e,rfl,h⟩
 | p :: l,e,k,h=>by
  rw[A1C]at h
  obtain⟨e1,h1,h2⟩:=Tr.putK_spec h
  obtain⟨e2,h3,h4⟩:=Ur h2
  exact⟨e2,by rw[h3,A1B h1];rfl,h4⟩
inductive Lc where
 | cells (c:List Value) (T:TypeId) (k:Kd)
 | map (es:List (Value×Value))
 | iter (s:ByteArray) (pos:Nat)
 | loop (nt:Nat) (env:Dl) (ps:Array Tmp) (asg body:Code) (st:LoopState) (pend:Option Code)
def Lc.toO:Lc→Dd
 | .cells c T k=>.cells c T k
 | .map es=>.map es
 | .iter s pos=>.iter s pos
 | .loop nt env ps asg body st pend=>.loop nt (Fm env) ps asg body st pend
structure CH where
 n:Nat
 clk:Nat
 w:Nat
 t:Tr (Lc×Nat)
 g:Tr (List (Nat×Nat))
def CH.obj (h:CH)(b:Nat):Dd:=match h.t.get b with|some (o,_)=>o.toO|none=>.dead
def CH.toA (h:CH):Aa:=⟨h.n,h.obj⟩
theorem Kr {h:CH}{b:Nat}:h.toA.get b=h.obj b:=rfl
theorem Ih {h:CH}{b:Nat}{o:Lc}{s:Nat}(e:h.t.get b=some (o,s)):h.obj b=o.toO:=by simp[CH.obj,e]
structure Yx (h h':CH):Prop where
 clk:h.clk≤h'.clk
 n:h.n≤h'.n
 w:h'.w≤h.w
 old:∀ b o s,h'.t.get b=some (o,s)→s≤h.clk→h.t.get b=some (o,s)
 non:∀ b,h'.t.get b=none→h.t.get b=none
 low:∀ b,b<h'.w→h'.t.get b=h.t.get b
theorem Yx.refl (h:CH):Yx h h:=⟨Nat.le_refl _,Nat.le_refl _,Nat.le_refl _,fun _ _ _ e _=>e,fun _ e=>e,fun _ _=>rfl⟩
theorem Yx.trans {a b c:CH}(h:Yx a b)(k:Yx b c):Yx a c :=
 ⟨Nat.le_trans h.clk k.clk,Nat.le_trans h.n k.n,Nat.le_trans k.w h.w,fun x o s e hs=>h.old x o s (k.old x o s e (Nat.le_trans hs h.clk)) hs,fun x e=>h.non x (k.non x e),
  fun x hx=>(k.low x hx).trans (h.low x (Nat.lt_of_lt_of_le hx k.w))⟩
structure Jt (h:CH):Prop where
 gr:Gr h.toA
 w:h.w≤h.n
 lt:∀ b p,h.t.get b=some p→b<h.n
 mem:∀ b c T g e s,h.t.get b=some (.cells c T (.gr g e true),s)→∃ l,h.g.get g=some l∧(b,c.length)∈l
def same (h h':CH)(b:Nat):Bool:=match h'.t.get b with|some (_,s)=>Nat.ble s h.clk|none=>true
theorem Z4 {h h':CH}(k:Yx h h'){b:Nat}(e:same h h' b=true):h'.toA.get b=h.toA.get b:=by
 unfold same at e
 rw[Kr,Kr]
 cases hb:h'.t.get b with
 | none=>simp[CH.obj,hb,k.non b hb]
 | some p =>
  obtain⟨o,s⟩:=p
  rw[hb]at e
  have:=k.old b o s hb (Nat.le_of_ble_eq_true e)
  simp[CH.obj,hb,this]
def Tj (h:CH)(b:Nat)(o:Lc)(k:CH→Bool):Bool :=
 Ho (h.clk+1) fun c=>Tr.putK (o,c) 16 h.t b fun t=>match Nat.ble h.w b with|true=>k ⟨h.n,c,h.w,t,h.g⟩|false=>k ⟨h.n,c,b,t,h.g⟩
structure A4v (h:CH)(b:Nat)(o:Lc)(h':CH):Prop where
 get:∀ j,h'.t.get j=if j=b then some (o,h.clk+1) else h.t.get j
 n:h'.n=h.n
 g:h'.g=h.g
 evo:Yx h h'
theorem H7 {h:CH}{b:Nat}{o:Lc}{k:CH→Bool}(e:Tj h b o k=true):∃ h',A4v h b o h'∧k h'=true:=by
 unfold Tj at e
 rw[Ed]at e
 obtain⟨t,h1,h2⟩:=Tr.putK_spec e
 have evo:∀ w,w≤h.w→w≤b→Yx h ⟨h.n,h.clk+1,w,t,h.g⟩:=by
  intro w hw hb
  refine⟨Nat.le_succ _,Nat.le_refl _,hw,fun j o' s e hs=>?_,fun j e=>?_,fun j hj=>?_⟩
  ·rw[h1]at e
   by_cases hj:j=b
   ·rw[if_pos hj]at e;cases e;omega
   ·rwa [if_neg hj]at e
  ·rw[h1]at e
   by_cases hj:j=b
   ·rw[if_pos hj]at e;cases e
   ·rwa [if_neg hj]at e
  ·have hj:j<w:=hj
   show t.get j=_
   rw[h1,if_neg (by omega)]
 cases hw:Nat.ble h.w b with
 | true =>
  rw[hw]at h2
  exact⟨⟨h.n,h.clk+1,h.w,t,h.g⟩,⟨h1,rfl,rfl,evo _ (Nat.le_refl _) (Nat.le_of_ble_eq_true hw)⟩,h2⟩
 | false =>
  rw[hw]at h2
  have:¬ h.w≤b:=fun hh=>by rw[Nat.ble_eq_true_of_le hh]at hw;cases hw
  exact⟨⟨h.n,h.clk+1,b,t,h.g⟩,⟨h1,rfl,rfl,evo _ (by omega) (Nat.le_refl _)⟩,h2⟩
theorem A4v.toA {h h':CH}{b:Nat}{o:Lc}(s:A4v h b o h'):h'.toA=h.toA.put b o.toO:=by
 show (⟨h'.n,h'.obj⟩:Aa)=⟨h.n,_⟩
 rw[s.n]
 congr 1
 funext j
 simp only[CH.obj,s.get]
 by_cases hj:j=b
 ·simp[hj]
 ·simp only[hj,if_false];rfl
theorem A4v.good {h h':CH}{b:Nat}{o:Lc}(s:A4v h b o h')(g:Jt h){p0:Lc×Nat}(hb:h.t.get b=some p0)(ho:o.toO.low b)(hm:∀ c T q e,o=.cells c T (.gr q e true)→∃ l,h.g.get q=some l∧(b,c.length)∈l):Jt h':=by
 refine⟨by rw[s.toA];exact g.gr.put ho,by rw[s.n];exact Nat.le_trans s.evo.w g.w,fun j p hj=>?_,fun j c T q e st hj=>?_⟩
 ·rw[s.get]at hj
  rw[s.n]
  by_cases e1:j=b
  ·rw[e1];exact g.lt _ _ hb
  ·rw[if_neg e1]at hj;exact g.lt _ _ hj
 rw[s.g]
 rw[s.get]at hj
 by_cases e1:j=b
 ·subst e1
  rw[if_pos rfl]at hj
  cases hj
  exact hm _ _ _ _ rfl
 ·rw[if_neg e1]at hj
  exact g.mem _ _ _ _ _ _ hj
def Yy (h:CH)(o:Lc)(k:CH→Bool):Bool :=
 Ho (h.n+1) fun n=>Ho (h.clk+1) fun c=>Tr.putK (o,c) 16 h.t h.n fun t=>k ⟨n,c,h.w,t,h.g⟩
structure A9r (h:CH)(o:Lc)(h':CH):Prop where
 get:∀ j,h'.t.get j=if j=h.n then some (o,h.clk+1) else h.t.get j
 n:h'.n=h.n+1
 g:h'.g=h.g
 w:h'.w=h.w
 evo:Yx h h'
theorem Js {h:CH}{o:Lc}{k:CH→Bool}(hw:h.w≤h.n)(e:Yy h o k=true):∃ h',A9r h o h'∧k h'=true:=by
 unfold Yy at e
 rw[Ed,Ed]at e
 obtain⟨t,h1,h2⟩:=Tr.putK_spec e
 refine⟨⟨h.n+1,h.clk+1,h.w,t,h.g⟩,⟨h1,rfl,rfl,rfl,⟨Nat.le_succ _,Nat.le_succ _,Nat.le_refl _,fun j o' s e hs=>?_,fun j e=>?_,fun j hj=>?_⟩⟩,h2⟩
 ·rw[h1]at e
  by_cases hj:j=h.n
  ·rw[if_pos hj]at e;cases e;omega
  ·rwa [if_neg hj]at e
 ·rw[h1]at e
  by_cases hj:j=h.n
  ·rw[if_pos hj]at e;cases e
  ·rwa [if_neg hj]at e
 ·have hj:j<h.w:=hj
  show t.get j=_
  rw[h1,if_neg (by omega)]
theorem A9r.toA {h h':CH}{o:Lc}(s:A9r h o h'):h'.toA=h.toA.alloc o.toO:=by
 show (⟨h'.n,h'.obj⟩:Aa)=⟨h.n+1,_⟩
 rw[s.n]
 congr 1
 funext j
 simp only[CH.obj,s.get]
 show _=if j=h.n then _ else _
 by_cases hj:j=h.n
 ·simp[hj]
 ·simp only[hj,if_false];rfl
theorem A9r.good {h h':CH}{o:Lc}(s:A9r h o h')(g:Jt h)(ho:o.toO.low h.n)(hm:∀ c T q e,o=.cells c T (.gr q e true)→∃ l,h.g.get q=some l∧(h.n,c.length)∈l):Jt h':=by
 refine⟨by rw[s.toA];exact g.gr.alloc ho,by have:=g.w;rw[s.n,s.w];omega,fun j p hj=>?_,fun j c T q e st hj=>?_⟩
 ·rw[s.get]at hj
  rw[s.n]
  by_cases e1:j=h.n
  ·omega
  ·rw[if_neg e1]at hj;have:=g.lt _ _ hj;omega
 rw[s.g]
 rw[s.get]at hj
 by_cases e1:j=h.n
 ·subst e1
  rw[if_pos rfl]at hj
  cases hj
  exact hm _ _ _ _ rfl
 ·rw[if_neg e1]at hj
  exact g.mem _ _ _ _ _ _ hj
def A9s (h:CH)(q:Nat)(l:List (Nat×Nat))(k:CH→Bool):Bool:=Tr.putK l 16 h.g q fun g=>k ⟨h.n,h.clk,h.w,h.t,g⟩
theorem Tk {h:CH}{q:Nat}{l:List (Nat×Nat)}{k:CH→Bool}(e:A9s h q l k=true) :
  ∃ h',h'.toA=h.toA∧h'.n=h.n∧h'.w=h.w∧h'.clk=h.clk∧h'.t=h.t∧(∀ j,h'.g.get j=if j=q then some l else h.g.get j)∧Yx h h'∧k h'=true:=by
 unfold A9s at e
 obtain⟨g,h1,h2⟩:=Tr.putK_spec e
 exact⟨⟨h.n,h.clk,h.w,h.t,g⟩,rfl,rfl,rfl,rfl,rfl,h1,⟨Nat.le_refl _,Nat.le_refl _,Nat.le_refl _,fun _ _ _ e _=>e,fun _ e=>e,fun _ _=>rfl⟩,h2⟩
def M1 (q:Nat)(p:Nat→Nat→Bool):List (Nat×Nat)→CH→List (Nat×Nat)→(CH→List (Nat×Nat)→Bool)→Bool
 | [],h,acc,k=>k h acc
 | (c,m) :: l,h,acc,k=>match p c m with
  | false=>M1 q p l h ((c,m) :: acc) k
  | true=>match h.t.get c with
   | some (.cells d T (.gr q' e true),_)=>(match Nat.beq q' q && p c d.length with
    | true=>Tj h c (.cells d T (.gr q e false)) fun h=>M1 q p l h acc k
    | false=>M1 q p l h ((c,m) :: acc) k)
   | _=>M1 q p l h acc k
structure W4 (q:Nat)(p:Nat→Nat→Bool)(l:List (Nat×Nat))(h:CH)(acc:List (Nat×Nat))(h':CH)(acc':List (Nat×Nat)):Prop where
 n:h'.n=h.n
 g:h'.g=h.g
 evo:Yx h h'
 out:∀ j,h'.t.get j=h.t.get j∨∃ d T e s s',h.t.get j=some (.cells d T (.gr q e true),s)∧p j d.length=true∧h'.t.get j=some (.cells d T (.gr q e false),s')
 all:∀ j d T e s,h.t.get j=some (.cells d T (.gr q e true),s)→(j,d.length)∈l→p j d.length=true→∃ s',h'.t.get j=some (.cells d T (.gr q e false),s')
 rest:∀ j d T e s,h'.t.get j=some (.cells d T (.gr q e true),s)→(j,d.length)∈l∨(j,d.length)∈acc→(j,d.length)∈acc'
theorem Kw {q:Nat}{p:Nat→Nat→Bool}:∀ {l:List (Nat×Nat)}{h:CH}{acc:List (Nat×Nat)}{k:CH→List (Nat×Nat)→Bool},M1 q p l h acc k=true→∃ h' acc',W4 q p l h acc h' acc'∧k h' acc'=true
 | [],h,acc,k,e=>⟨h,acc,⟨rfl,rfl,Yx.refl _,fun _=>.inl rfl,fun _ _ _ _ _ _ hm=>by simp at hm,fun _ _ _ _ _ _ hm=>by simpa using hm⟩,e⟩
 | (c,m) :: l,h,acc,k,e=>by
  rw[M1]at e
  have keep:M1 q p l h ((c,m) :: acc) k=true→(∀ d T e s,h.t.get c=some (.cells d T (.gr q e true),s)→d.length=m→p c d.length=false)→∃ h' acc',W4 q p ((c,m) :: l) h acc h' acc'∧k h' acc'=true:=by
   intro e hn
   obtain⟨h',acc',s,hk⟩:=Kw e
   refine⟨h',acc',⟨s.n,s.g,s.evo,s.out,fun j d T e st hj hm hp=>?_,fun j d T e st hj hm=>?_⟩,hk⟩
   ·rcases List.mem_cons.1 hm with hm|hm
    ·cases hm
     rw[hn _ _ _ _ hj rfl]at hp;cases hp
    ·exact s.all _ _ _ _ _ hj hm hp
   ·refine s.rest _ _ _ _ _ hj ?_
    rcases hm with hm|hm
    ·rcases List.mem_cons.1 hm with hm|hm
     ·right;rw[hm];exact List.mem_cons_self ..
     ·exact .inl hm
    ·exact .inr (List.mem_cons_of_mem _ hm)
  have drop:M1 q p l h acc k=true→(∀ d T e s,h.t.get c≠some (.cells d T (.gr q e true),s))→∃ h' acc',W4 q p ((c,m) :: l) h acc h' acc'∧k h' acc'=true:=by
   intro e hn
   obtain⟨h',acc',s,hk⟩:=Kw e
   refine⟨h',acc',⟨s.n,s.g,s.evo,s.out,fun j d T e st hj hm hp=>?_,fun j d T e st hj hm=>?_⟩,hk⟩
   ·rcases List.mem_cons.1 hm with hm|hm
    ·cases hm
     exact absurd hj (hn _ _ _ _)
    ·exact s.all _ _ _ _ _ hj hm hp
   ·refine s.rest _ _ _ _ _ hj ?_
    rcases hm with hm|hm
    ·rcases List.mem_cons.1 hm with hm|hm
     ·cases hm
      rcases s.out c with o|⟨_,_,_,_,_,_,_,o⟩
      ·rw[hj]at o;exact absurd o.symm (hn _ _ _ _)
      ·rw[hj]at o;cases o
     ·exact .inl hm
    ·exact .inr hm
  cases hp:p c m with
  | false =>
   rw[hp]at e
   exact keep e fun d T e s _ hd=>by rw[hd];exact hp
  | true =>
   rw[hp]at e
   simp only at e
   split at e
   ·rename_i d T q' ee st hc
    split at e
    ·rename_i hb
     simp only[Bool.and_eq_true,Lr,decide_eq_true_eq]at hb
     obtain⟨rfl,hb⟩:=hb
     obtain⟨h1,s1,e⟩:=H7 e
     obtain⟨h',acc',s,hk⟩:=Kw e
     have hcc:h1.t.get c=some (.cells d T (.gr q' ee false),h.clk+1):=by rw[s1.get,if_pos rfl]
     have hc':h'.t.get c=some (.cells d T (.gr q' ee false),h.clk+1):=by
      rcases s.out c with o|⟨_,_,_,_,_,o,_,_⟩
      ·rw[o,hcc]
      ·rw[hcc]at o;cases o
     refine⟨h',acc',⟨s.n.trans s1.n,s.g.trans s1.g,s1.evo.trans s.evo,fun j=>?_,fun j d' T' e' st' hj hm hp=>?_,fun j d' T' e' st' hj hm=>?_⟩,hk⟩
     ·by_cases hj:j=c
      ·subst hj
       exact .inr ⟨_,_,_,_,_,hc,hb,hc'⟩
      ·have:h1.t.get j=h.t.get j:=by rw[s1.get,if_neg hj]
       rw[← this]
       exact s.out j
     ·by_cases hjc:j=c
      ·subst hjc
       rw[hc]at hj
       cases hj
       exact⟨_,hc'⟩
      ·have:h1.t.get j=h.t.get j:=by rw[s1.get,if_neg hjc]
       rw[← this]at hj
       refine s.all _ _ _ _ _ hj ?_ hp
       rcases List.mem_cons.1 hm with hm|hm
       ·cases hm;exact absurd rfl hjc
       ·exact hm
     ·have hjc:j≠c:=by
       rintro rfl
       rw[hc']at hj;cases hj
      refine s.rest _ _ _ _ _ hj ?_
      rcases hm with hm|hm
      ·rcases List.mem_cons.1 hm with hm|hm
       ·cases hm;exact absurd rfl hjc
       ·exact .inl hm
      ·exact .inr hm
    ·rename_i hb
     refine keep e fun d' T' e' s' h' hd=>?_
     rw[hc]at h'
     cases h'
     simp only[Bool.and_eq_false_iff,Lr,decide_eq_false_iff_not]at hb
     rcases hb with hb|hb
     ·simp at hb
     ·exact hb
   ·rename_i hne
    exact drop e fun d T e s hh=>hne _ _ _ _ _ hh
def sw (q:Nat)(p:Nat→Nat→Bool)(j:Nat)(o:Dd):Dd:=match o with
 | .cells c T (.gr q' e l)=>if q'=q∧p j c.length=true then .cells c T (.gr q' e false) else .cells c T (.gr q' e l)
 | o=>o
theorem W4.toA {q:Nat}{p:Nat→Nat→Bool}{l:List (Nat×Nat)}{h h':CH}{acc acc':List (Nat×Nat)}(s:W4 q p l h acc h' acc')(g:Jt h)(hl:h.g.get q=some l∨(h.g.get q=none∧l=[])) :
  h'.toA=⟨h.n,fun j=>sw q p j (h.toA.get j)⟩:=by
 show (⟨h'.n,h'.obj⟩:Aa)=_
 rw[s.n]
 congr 1
 funext j
 show h'.obj j=sw q p j (h.obj j)
 rcases s.out j with o|⟨d,T,e,s1,s2,h1,h2,h3⟩
 ·have e1:h'.obj j=h.obj j:=by simp[CH.obj,o]
  rw[e1]
  unfold sw
  split
  ·rename_i c T q' e lv he
   split
   ·rename_i hc
    obtain⟨rfl,hp⟩:=hc
    cases lv with
    | false=>rw[he]
    | true =>
     exfalso
     cases hj:h.t.get j with
     | none=>simp[CH.obj,hj]at he
     | some v =>
      obtain⟨ob,st⟩:=v
      rw[Ih hj]at he
      cases ob with
      | cells c' T' k' =>
       cases he
       obtain⟨l',m1,m2⟩:=g.mem _ _ _ _ _ _ hj
       rcases hl with hl|⟨hl,_⟩
       ·rw[hl]at m1
        cases m1
        obtain⟨s',hh⟩:=s.all _ _ _ _ _ hj m2 hp
        rw[o,hj]at hh
        cases hh
       ·rw[hl]at m1;cases m1
      | _=>simp[Lc.toO]at he
   ·exact he
  ·rfl
 ·rw[Ih h1,Ih h3]
  simp[sw,Lc.toO,h2]
theorem B1P {H:Aa}(g:Gr H)(q b:Nat):H.kill q b=⟨H.n,fun j=>sw q (fun c _=>!(Nat.beq c b)) j (H.get j)⟩:=by
 show (⟨H.n,(H.kill q b).get⟩:Aa)=_
 congr 1
 funext j
 rw[g.kill]
 by_cases hj:j=b
 ·rw[if_pos hj]
  unfold sw
  split
  ·rename_i he;simp[Lr,hj]at *;rw[← he]
  ·rfl
 ·rw[if_neg hj]
  unfold sw Dd.killed
  cases H.get j with
  | cells c T k=>cases k <;> simp[Lr,hj]
  | _=>rfl
theorem B3N {H:Aa}(g:Gr H)(q m:Nat):H.cut q m=⟨H.n,fun j=>sw q (fun _ n=>Nat.blt m n) j (H.get j)⟩:=by
 show (⟨H.n,(H.cut q m).get⟩:Aa)=_
 congr 1
 funext j
 rw[g.cut]
 unfold sw Dd.cut
 cases H.get j with
 | cells c T k=>cases k <;> simp[Nat.blt_eq]
 | _=>rfl
theorem W4.good {q:Nat}{p:Nat→Nat→Bool}{l:List (Nat×Nat)}{h h':CH}{acc':List (Nat×Nat)}(s:W4 q p l h [] h' acc')(g:Jt h)(hl:h.g.get q=some l∨(h.g.get q=none∧l=[])) :
  Gr h'.toA∧h'.w≤h'.n∧(∀ b p,h'.t.get b=some p→b<h'.n)∧(∀ b c T g' e st,h'.t.get b=some (.cells c T (.gr g' e true),st)→(g'≠q→∃ l,h'.g.get g'=some l∧(b,c.length)∈l)∧(g'=q→(b,c.length)∈acc')):=by
 refine⟨?_,by rw[s.n];exact Nat.le_trans s.evo.w g.w,fun b p hb=>?_,fun b c T g' e st hb=>?_⟩
 ·intro j
  rw[s.toA g hl]
  intro c T g' e lv he
  have:=g.gr j
  have he:sw q p j (h.toA.get j)=.cells c T (.gr g' e lv):=he
  unfold sw at he
  split at he
  ·rename_i c2 T2 g2 e2 l2 h2
   have:=this _ _ _ _ _ h2
   split at he <;> (cases he;exact this)
  ·exact this _ _ _ _ _ he
 ·rw[s.n]
  rcases s.out b with o|⟨_,_,_,_,_,o,_,_⟩
  ·rw[o]at hb;exact g.lt _ _ hb
  ·exact g.lt _ _ o
 ·have hold:h.t.get b=some (.cells c T (.gr g' e true),st):=by
   rcases s.out b with o|⟨_,_,_,_,_,_,_,o⟩
   ·rw[← o];exact hb
   ·rw[hb]at o;cases o
  obtain⟨l',m1,m2⟩:=g.mem _ _ _ _ _ _ hold
  refine⟨fun _=>⟨l',by rw[s.g];exact m1,m2⟩, ?_⟩
  rintro rfl
  refine s.rest _ _ _ _ _ hb (.inl ?_)
  rcases hl with hl|⟨hl,_⟩
  ·rw[hl]at m1;cases m1;exact m2
  ·rw[hl]at m1;cases m1
def A27 (h:CH)(q:Nat):List (Nat×Nat):=match h.g.get q with|some l=>l|none=>[]
theorem N0 (h:CH)(q:Nat):h.g.get q=some (A27 h q)∨(h.g.get q=none∧A27 h q=[]):=by
 unfold A27
 cases h.g.get q <;> simp
def Z5:Int→Int→Bool
 | .ofNat a,.ofNat b=>Nat.ble a b
 | .ofNat _,.negSucc _=>false
 | .negSucc _,.ofNat _=>true
 | .negSucc a,.negSucc b=>Nat.ble b a
theorem W5 (a b:Int):Z5 a b=decide (a≤b):=by
 rw[Bool.eq_iff_iff]
 cases a with
 | ofNat a =>
  cases b with
  | ofNat b=>simp only[Z5,Nat.ble_eq,decide_eq_true_eq,Int.ofNat_eq_natCast];omega
  | negSucc b=>simp only[Z5,decide_eq_true_eq,Int.ofNat_eq_natCast];constructor <;> intro h <;> first|cases h|omega
 | negSucc a =>
  cases b with
  | ofNat b=>simp only[Z5,decide_eq_true_eq,Int.ofNat_eq_natCast];constructor <;> intro h <;> first|omega|trivial
  | negSucc b=>simp only[Z5,Nat.ble_eq,decide_eq_true_eq];omega
def eqI:Int→Int→Bool
 | .ofNat a,.ofNat b=>Nat.beq a b
 | .negSucc a,.negSucc b=>Nat.beq a b
 | _,_=>false
theorem A1D (a b:Int):eqI a b=decide (a=b):=by
 rw[Bool.eq_iff_iff]
 cases a with
 | ofNat a =>
  cases b with
  | ofNat b=>simp only[eqI,Lr,decide_eq_true_eq,Int.ofNat_eq_natCast];omega
  | negSucc b=>simp[eqI]
 | negSucc a =>
  cases b with
  | ofNat b=>simp[eqI]
  | negSucc b=>simp[eqI]
def Kx (k:IntKind)(n:Int):Int:=match k with
 | .i64=>(match n with
  | .ofNat m=>(match Nat.ble m 9223372036854775807 with|true=>.ofNat m|false=>IntKind.i64.wrap (.ofNat m))
  | .negSucc m=>(match Nat.ble m 9223372036854775807 with|true=>.negSucc m|false=>IntKind.i64.wrap (.negSucc m)))
 | .u64=>(match n with
  | .ofNat m=>.ofNat (Nat.mod m 18446744073709551616)
  | .negSucc m=>IntKind.u64.wrap (.negSucc m))
 | .u8=>(match n with
  | .ofNat m=>.ofNat (Nat.mod m 256)
  | .negSucc m=>IntKind.u8.wrap (.negSucc m))
 | k=>k.wrap n
theorem Nj (k:IntKind)(n:Int):Kx k n=k.wrap n:=by
 cases k <;> try rfl
 ·cases n with
  | ofNat m =>
   simp only[Kx]
   split
   ·rename_i h
    have:=Nat.le_of_ble_eq_true h
    rw[H4] <;> simp only[Int.ofNat_eq_natCast] <;> omega
   ·rfl
  | negSucc m =>
   simp only[Kx]
   split
   ·rename_i h
    have:=Nat.le_of_ble_eq_true h
    rw[H4] <;> omega
   ·rfl
 ·cases n with
  | ofNat m =>
   simp only[Kx]
   show _=(if (false && decide ((m:Int) % (2 ^ 8:Int) ≥ (2 ^ 7:Int)))=true then (m:Int) % (2 ^ 8:Int)-(2 ^ 8:Int) else (m:Int) % (2 ^ 8:Int))
   simp only[Bool.false_and,Bool.false_eq_true,if_false]
   show ((m % 256:Nat):Int)=_
   omega
  | negSucc m=>rfl
 ·cases n with
  | ofNat m =>
   simp only[Kx]
   show _=(if (false && decide ((m:Int) % (2 ^ 64:Int) ≥ (2 ^ 63:Int)))=true then (m:Int) % (2 ^ 64:Int)-(2 ^ 64:Int) else (m:Int) % (2 ^ 64:Int))
   simp only[Bool.false_and,Bool.false_eq_true,if_false]
   show ((m % 18446744073709551616:Nat):Int)=_
   omega
  | negSucc m=>rfl
def A28:IntKind→IntKind→Bool
 | .i64,.i64=>true
 | .u64,.u64=>true
 | .u8,.u8=>true
 | .i32,.i32=>true
 | .u32,.u32=>true
 | _,_=>false
theorem Rz {a b:IntKind}(h:A28 a b=true):a=b:=by
 cases a <;> cases b <;> first|rfl|cases h
def eqL:List UInt8→List UInt8→Bool
 | [],[]=>true
 | a :: l,b :: m=>(match Nat.beq a.toNat b.toNat with|true=>eqL l m|false=>false)
 | _,_=>false
theorem A9t:∀ (l m:List UInt8),eqL l m=decide (l=m)
 | [],[]=>rfl
 | [],b :: m=>rfl
 | a :: l,[]=>rfl
 | a :: l,b :: m=>by
  rw[eqL,Lr]
  by_cases h:a.toNat=b.toNat
  ·have:a=b:=UInt8.toNat.inj h
   subst this
   simp[A9t l m]
  ·have:a≠b:=fun e=>h (by rw[e])
   simp[h,this]
def eqS (a b:ByteArray):Bool:=eqL a.data.toList b.data.toList
def A5R (op:BinOp)(k:IntKind)(a b:Int):Option Value:=match op with
 | .add=>some (.int k (Kx k (a+b)))
 | .sub=>some (.int k (Kx k (a-b)))
 | .mul=>some (.int k (Kx k (a*b)))
 | .quo=>(match eqI b 0 with|true=>none|false=>some (.int k (Kx k (a.tdiv b))))
 | .rem=>(match eqI b 0 with|true=>none|false=>some (.int k (a.tmod b)))
 | .lss=>some (.bool (!(Z5 b a)))
 | .leq=>some (.bool (Z5 a b))
 | .gtr=>some (.bool (!(Z5 a b)))
 | .geq=>some (.bool (Z5 b a))
 | .eql=>some (.bool (eqI a b))
 | .neq=>some (.bool (!(eqI a b)))
 | _=>none
def A29 (op:BinOp)(u:Option TypeDesc)(a b:Value):Option Value:=match a with
 | .int k a=>(match b with
  | .int k' b=>(match A28 k k' with|true=>A5R op k a b|false=>none)
  | _=>none)
 | .bool p=>(match b with
  | .bool q=>(match u with
   | some .bool=>(match op with|.eql=>some (.bool (cond p q (!q)))|.neq=>some (.bool (cond p (!q) q))|_=>none)
   | _=>none)
  | _=>none)
 | .string p=>(match b with
  | .string q=>(match op with
   | .eql=>some (.bool (eqS p q))
   | .neq=>some (.bool (!(eqS p q)))
   | .add=>(match Nat.ble (p.data.toList.length+q.data.toList.length) 9223372036854775807 with|true=>some (.string ⟨⟨p.data.toList ++ q.data.toList⟩⟩)|false=>none)
   | _=>none)
  | _=>none)
 | _=>none
theorem Us (s:ByteArray):∀ (n i:Nat)(r:List UInt8),s.size-i=n→ByteArray.toList.loop s i r=r.reverse ++ s.data.toList.drop i
 | 0,i,r,h=>by
  have h2:s.data.toList.length=s.size:=rfl
  rw[ByteArray.toList.loop,if_neg (by omega),List.drop_eq_nil_of_le (by omega),List.append_nil]
 | n+1,i,r,h=>by
  have h2:s.data.toList.length=s.size:=rfl
  have hi:i<s.data.toList.length:=by omega
  rw[ByteArray.toList.loop,if_pos (by omega),Us s n (i+1) _ (by omega),List.drop_eq_getElem_cons hi]
  have:s.get! i=s.data.toList[i]:=by
   show s.data[i]! = _
   rw[getElem!_pos s.data i (by simpa using hi)]
   simp
  rw[this]
  simp
theorem Ut (s:ByteArray):s.toList=s.data.toList:=by
 rw[ByteArray.toList,Us s s.size 0 [] (by omega)]
 simp
theorem A3a (p q:ByteArray):(p.toList == q.toList)=eqS p q:=by
 rw[Ut,Ut,eqS,A9t,Bool.eq_iff_iff]
 simp
theorem A7o {P:Program}{t:TypeId}{x y:Operand}{p q:ByteArray}:Fj P .eql t x y (.string p) (.string q)=some (.bool (eqS p q)):=by
 rw[← A3a]
 simp[Fj,dflat,flat,eqGuard,binOp,Op.stringOp,keep]
theorem A7p {P:Program}{t:TypeId}{x y:Operand}{p q:ByteArray}:Fj P .neq t x y (.string p) (.string q)=some (.bool (!(eqS p q))):=by
 rw[← A3a]
 simp[Fj,dflat,flat,eqGuard,binOp,Op.stringOp,keep]
theorem A7q {P:Program}{t:TypeId}{x y:Operand}{p q:ByteArray}(h:p.data.toList.length+q.data.toList.length≤9223372036854775807):Fj P .add t x y (.string p) (.string q)=some (.string ⟨⟨p.data.toList ++ q.data.toList⟩⟩):=by
 have hs:¬ (((p.size+q.size:Nat):Int) > IntKind.i64.max):=by
  have e1:p.size=p.data.toList.length:=rfl
  have e2:q.size=q.data.toList.length:=rfl
  have e3:IntKind.i64.max=9223372036854775807:=by decide
  rw[e1,e2,e3]
  omega
 have e:p ++ q=⟨⟨p.data.toList ++ q.data.toList⟩⟩:=by
  apply ByteArray.ext
  apply Array.ext'
  simp
 simp only[Fj,dflat,flat,eqGuard,binOp,Op.stringOp,keep,if_neg hs,e,and_self,if_true]
 rfl
theorem W6 {P:Program}{op:BinOp}{t:TypeId}{x y:Operand}{k:IntKind}{a b:Int}{v:Value}(h:A5R op k a b=some v):Fj P op t x y (.int k a) (.int k b)=some v:=by
 have hlt:∀ a b:Int,(!(Z5 b a))=decide (a<b):=by
  intro a b
  rw[W5,Bool.eq_iff_iff];simp
 cases op <;> simp only[A5R]at h <;> first|(cases h;done)|skip
 ·cases h;rw[A05,Nj]
 ·cases h;rw[A06,Nj]
 ·cases h;rw[A07,Nj]
 ·rw[A1D]at h
  by_cases hb:b=0
  ·simp[hb]at h
  ·rw[decide_eq_false hb]at h;cases h;rw[A5E hb,Nj]
 ·rw[A1D]at h
  by_cases hb:b=0
  ·simp[hb]at h
  ·rw[decide_eq_false hb]at h;cases h;rw[A5F hb]
 ·cases h;rw[A1c,A1D]
 ·cases h;rw[A1d,A1D];simp
 ·cases h;rw[A08,hlt]
 ·cases h;rw[A09,W5]
 ·cases h;rw[A1a,hlt]
 ·cases h;rw[A1b,W5]
theorem A4w {P:Program}{op:BinOp}{t:TypeId}{x y:Operand}{a b v:Value}(h:A29 op (P.underlying t) a b=some v):Fj P op t x y a b=some v:=by
 cases a with
 | int k a =>
  cases b with
  | int k' b =>
   simp only[A29]at h
   split at h
   ·rename_i hk
    have:=Rz hk
    subst this
    exact W6 h
   ·cases h
  | _=>cases h
 | bool p =>
  cases b with
  | bool q =>
   simp only[A29]at h
   split at h
   ·rename_i hu
    cases op <;> simp only at h <;> first|(cases h;done)|skip
    ·cases h;rw[A8G hu];cases p <;> cases q <;> rfl
    ·cases h;rw[A8H hu];cases p <;> cases q <;> rfl
   ·cases h
  | _=>cases h
 | string p =>
  cases b with
  | string q =>
   simp only[A29]at h
   cases op <;> simp only at h <;> first|(cases h;done)|skip
   ·split at h
    ·rename_i hl
     cases h
     exact A7q (Nat.le_of_ble_eq_true hl)
    ·cases h
   ·cases h;exact A7o
   ·cases h;exact A7p
  | _=>cases h
 | _=>cases h
section
variable (P:Program)
def A3b (env:Bi)(o:Op):Option Value:=match o with
 | .binOp op t x y _=>A29 op (P.underlying t) (ev env x) (ev env y)
 | .unOp op _ x=>(match op,ev env x with
  | .neg,.int k a=>some (.int k (Kx k (0-a)))
  | .not,.bool p=>some (.bool (!p))
  | _,_=>none)
 | .convert s d x=>(match ev env x,P.underlying s,P.underlying d with
  | .int k a,some _,some (.int k')=>some (.int k' (Kx k' a))
  | _,_,_=>none)
 | .call ⟨.builtin .min,args,_⟩=>(match args.toList.map (ev env) with
  | [.int k a,.int k' b]=>(match A28 k k' with|true=>some (.int k (match Z5 a b with|true=>a|false=>b))|false=>none)
  | _=>none)
 | .call ⟨.builtin .max,args,_⟩=>(match args.toList.map (ev env) with
  | [.int k a,.int k' b]=>(match A28 k k' with|true=>some (.int k (match Z5 a b with|true=>b|false=>a))|false=>none)
  | _=>none)
 | _=>none
theorem A5S {env:Bi}{dst:Option Tmp}{op:BinOp}{t yt ty:TypeId}{x y:Operand}{pos:String}{aft:Array Edge}{gd:Option (Nat×Bool)}{H:Aa} :
  Ou P env ⟨dst,.binOp op t x y yt,ty,pos,aft,gd⟩ H=(Fj P op t x y (ev env x) (ev env y)).map (·,H):=by
 show (A6D P env ⟨dst,.binOp op t x y yt,ty,pos,aft,gd⟩ op t (ev env x) (ev env y)).map (·,H)=_
 congr 1
 unfold A6D Fj
 split
 ·exact Jz
 ·rfl
theorem A4x {env:Bi}{o:Oper}{v:Value}(h:A3b P env o.op=some v)(H:Aa):Ou P env o H=some (v,H):=by
 obtain⟨dst,op,ty,pos,aft,gd⟩:=o
 cases op <;> simp only[A3b]at h <;> first|(cases h;done)|skip
 ·rw[A5S,A4w h];rfl
 ·split at h
  ·rename_i hx
   cases h
   show (Ff P env _).map (·,H)=_
   have h2:∀ (op:UnOp) (t:TypeId) (x:Operand),Ff P env ⟨dst,.unOp op t x,ty,pos,aft,gd⟩=Yv P op (ev env x):=by
    intro op t x
    have h1:((Op.operands (.unOp op t x)).all fun x=>dflat (ev env x))=dflat (ev env x):=by simp[Op.operands]
    unfold Ff Yv
    simp only[h1]
    refine ite_congr rfl (fun _=>?_) fun _=>rfl
    exact Jz
   rw[h2,hx,A5G,Nj];rfl
  ·rename_i hx
   cases h
   show (Ff P env _).map (·,H)=_
   have h2:∀ (op:UnOp) (t:TypeId) (x:Operand),Ff P env ⟨dst,.unOp op t x,ty,pos,aft,gd⟩=Yv P op (ev env x):=by
    intro op t x
    have h1:((Op.operands (.unOp op t x)).all fun x=>dflat (ev env x))=dflat (ev env x):=by simp[Op.operands]
    unfold Ff Yv
    simp only[h1]
    refine ite_congr rfl (fun _=>?_) fun _=>rfl
    exact Jz
   rw[h2,hx,A5H];rfl
  ·cases h
 ·rename_i s d x
  split at h
  ·rename_i hx hs hd
   cases h
   show (Ff P env _).map (·,H)=_
   have h2:Ff P env ⟨dst,.convert s d x,ty,pos,aft,gd⟩=Un P s d (ev env x):=by
    have h1:((Op.operands (.convert s d x)).all fun x=>dflat (ev env x))=dflat (ev env x):=by simp[Op.operands]
    unfold Ff Un
    simp only[h1]
    refine ite_congr rfl (fun _=>?_) fun _=>rfl
    exact Jz
   rw[h2,hx,Wz hs hd,Nj];rfl
  ·cases h
 ·rename_i c
  obtain⟨cl,args,ts⟩:=c
  have key:∀ b:Builtin,b=.min∨b=.max→Ff P env ⟨dst,.call ⟨.builtin b,args,ts⟩,ty,pos,aft,gd⟩=mmA P (decide (b=.max)) (args.map (ev env)):=by
   intro b hb
   unfold Ff mmA
   have h1:(Op.call ⟨.builtin b,args,ts⟩).operands=args:=by simp[Op.operands,Call.operands]
   simp only[h1,Array.all_map]
   refine ite_congr rfl (fun _=>?_) fun _=>rfl
   unfold A6C
   rcases hb with rfl|rfl
   ·exact Jz (s:=Builtin.min_ ts ty (args.map (ev env)))
   ·exact Jz (s:=Builtin.max_ ts ty (args.map (ev env)))
  have am:∀ l,args.toList.map (ev env)=l→args.map (ev env)=l.toArray:=by
   intro l hl;rw[← hl,List.map_toArray]
  cases cl with
  | value f=>cases h
  | invoke r m=>cases h
  | builtin b =>
   cases b <;> simp only at h <;> first|(cases h;done)|skip
   ·split at h
    ·rename_i k a k' b hl
     split at h
     ·rename_i hk
      have:=Rz hk
      subst this
      cases h
      show (Ff P env _).map (·,H)=_
      rw[key _ (.inr rfl),am _ hl]
      show (mmA P true #[.int k a,.int k b]).map (·,H)=_
      rw[A8J,W5]
      by_cases hab:a≤b
      ·rw[decide_eq_true hab,Int.max_eq_right hab];rfl
      ·rw[decide_eq_false hab,Int.max_eq_left (by omega)];rfl
     ·cases h
    ·cases h
   ·split at h
    ·rename_i k a k' b hl
     split at h
     ·rename_i hk
      have:=Rz hk
      subst this
      cases h
      show (Ff P env _).map (·,H)=_
      rw[key _ (.inl rfl),am _ hl]
      show (mmA P false #[.int k a,.int k b]).map (·,H)=_
      rw[A8I,W5]
      by_cases hab:a≤b
      ·rw[decide_eq_true hab,Int.min_eq_left hab];rfl
      ·rw[decide_eq_false hab,Int.min_eq_right (by omega)];rfl
     ·cases h
    ·cases h
end
end Go.Proofs.Swa
