/- Part 5. -/
import Derived.Test.YtkjcijlaehflhaaP04
set_option linter.unusedVariables false
set_option linter.unusedSimpArgs false
namespace Go.Proofs.Swa
open Go
def Nx (h h':CH):Prop:=Yx h h'∧Jt h'
theorem Nx.refl {h:CH}(g:Jt h):Nx h h:=⟨Yx.refl h,g⟩
theorem Tl {c:List Value}{T:TypeId}{b:Nat}:(Lc.cells c T .ex).toO.low b:=by intro _ _ _ _ _ h;cases h
section
variable (P:Program)
def A4y (t:TypeId)(a x:Value)(h:CH)(k:CH→Bool):Bool :=
 match a with
 | .pointer (some ⟨b,o,none⟩) =>
  match h.t.get b,Bv P t with
  | some (.cells c T kd,_),some s =>
   match Eo x && (Nat.beq x.cells.size s && kd.live) with
   | false=>false
   | true =>
    match kd with
    | .ro=>false
    | .ex=>A1A c o x.cells.toList fun c'=>Tj h b (.cells c' T .ex) k
    | .gr q e l=>A1A c o x.cells.toList fun c'=>M1 q (fun j _=>!(Nat.beq j b)) (A27 h q) h [] fun h acc=>A9s h q acc fun h=>Tj h b (.cells c' T (.gr q e l)) k
  | _,_=>false
 | _=>false
theorem A3c {t:TypeId}{a x:Value}{h:CH}{k:CH→Bool}(g:Jt h)(e:A4y P t a x h k=true):∃ h',D4 P t h.toA a x=some h'.toA∧Nx h h'∧k h'=true:=by
 unfold A4y at e
 split at e
 rotate_left
 ·cases e
 rename_i b o
 split at e
 rotate_left
 ·cases e
 rename_i c T kd st s hb hs
 split at e
 ·cases e
 rename_i hc
 simp only[Bool.and_eq_true,Lr,decide_eq_true_eq]at hc
 obtain⟨q1,q2,q3⟩:=hc
 have hg:h.toA.get b=.cells c T kd:=by rw[Kr,Ih hb];rfl
 have hx:x.cells.toList.length=x.cells.size:=by simp
 unfold D4
 simp only[hg,hs]
 cases kd with
 | ro=>cases e
 | ex =>
  obtain⟨p1,e⟩:=Ni e
  obtain⟨h',s1,e⟩:=H7 e
  refine⟨h', ?_,⟨s1.evo,s1.good g hb Tl (by intro _ _ _ _ he;cases he)⟩,e⟩
  rw[if_pos ⟨q1,q2,by omega,q3⟩,s1.toA]
  rfl
 | gr q ee l =>
  obtain⟨p1,e⟩:=Ni e
  have hlow:q≤b:=g.gr b _ _ _ _ _ hg
  obtain⟨h1,acc,s1,e⟩:=Kw e
  obtain⟨g1,g2,g4,g3⟩:=s1.good g (N0 h q)
  have hl:l=true:=q3
  subst hl
  obtain⟨h2,a1,a2,a3,a4,a5,a6,a7,e⟩:=Tk e
  obtain⟨h3,s3,e⟩:=H7 e
  have hb1:h1.t.get b=some (.cells c T (.gr q ee true),st):=by
   rcases s1.out b with o|⟨_,_,_,_,_,_,o,_⟩
   ·rw[o];exact hb
   ·simp[Lr]at o
  have hm:=(g3 _ _ _ _ _ _ hb1).2 rfl
  have hln:(splice c o x.cells.toList).length=c.length:=Bq p1
  have good2:Jt h2:=by
   refine⟨by rw[a1];exact g1,by rw[a2,a3];exact g2,by rw[a5,a2];exact g4,fun j c' T' q' e' s' hj=>?_⟩
   rw[a5]at hj
   rw[a6]
   by_cases hq:q'=q
   ·rw[if_pos hq];exact⟨_,rfl,(g3 _ _ _ _ _ _ hj).2 hq⟩
   ·rw[if_neg hq];exact(g3 _ _ _ _ _ _ hj).1 hq
  refine⟨h3, ?_,⟨(s1.evo.trans a7).trans s3.evo,s3.good good2 (by rw[a5];exact hb1) ?_ ?_⟩,e⟩
  ·rw[if_pos ⟨q1,q2,by omega,q3⟩,s3.toA,a1,s1.toA g (N0 h q)]
   simp only[Aa.wr,Lc.toO]
   rw[B1P g.gr]
   rfl
  ·intro _ _ _ _ _ he;cases he;exact hlow
  ·intro c' T' q' e' he
   cases he
   rw[a6,if_pos rfl,hln]
   exact⟨_,rfl,hm⟩
def A3d (h:CH)(e:TypeId)(sz m:Nat)(l:List Value)(k:Value→CH→Bool):Bool :=
 Yy h (.cells l e (.gr h.n sz true)) fun h1=>Ho l.length fun len=>A9s h1 h.n [(h.n,len)] fun h2=>Ho m fun m=>k (.slice (some ⟨h.n,0,none⟩) m m) h2
theorem Q2 {h:CH}{e:TypeId}{sz m:Nat}{l:List Value}{k:Value→CH→Bool}(g:Jt h)(q:A3d h e sz m l k=true) :
  ∃ h',h'.toA=h.toA.alloc (.cells l e (.gr h.n sz true))∧Nx h h'∧k (.slice (some ⟨h.n,0,none⟩) m m) h'=true:=by
 unfold A3d at q
 obtain⟨h1,s1,q⟩:=Js g.w q
 rw[Ed]at q
 obtain⟨h2,a1,a2,a3,a4,a5,a6,a7,q⟩:=Tk q
 rw[Ed]at q
 have hgr:Gr h1.toA:=by
  rw[s1.toA]
  exact g.gr.alloc (by intro _ _ _ _ _ he;cases he;exact Nat.le_refl _)
 refine⟨h2,by rw[a1,s1.toA];rfl,⟨s1.evo.trans a7,by rw[a1];exact hgr,by have:=g.w;rw[a2,a3,s1.n,s1.w];omega,fun j p hj=>?_,fun j c T q' e' s hj=>?_⟩,q⟩
 ·rw[a5,s1.get]at hj
  rw[a2,s1.n]
  by_cases hj1:j=h.n
  ·omega
  ·rw[if_neg hj1]at hj;have:=g.lt _ _ hj;omega
 rw[a5,s1.get]at hj
 by_cases hj1:j=h.n
 ·rw[if_pos hj1]at hj
  cases hj
  rw[a6,if_pos rfl]
  exact⟨_,rfl,by rw[hj1];simp⟩
 ·rw[if_neg hj1]at hj
  obtain⟨l',m1,m2⟩:=g.mem _ _ _ _ _ _ hj
  have hq:q'≠h.n:=by
   rintro rfl
   have hh:=g.gr j _ _ _ _ _ (show h.toA.get j=_ by rw[Kr,Ih hj];rfl)
   have:=g.lt _ _ hj
   have hh:h.n≤j:=hh
   omega
  rw[a6,if_neg hq,s1.g]
  exact⟨l',m1,m2⟩
def B3O (t:TypeId)(h:CH)(s:Value)(n:Nat)(new:List Value)(k:Value→CH→Bool):Bool :=
 match P.underlying t with
 | some (.slice e) =>
  match Bv P e,Fp P e,Dm P e with
  | some sz,some by_,some z =>
   if dflat z=true∧z.cells.size=sz∧0<sz∧new.length=n*sz then
    match s with
    | .slice none l c=>if l=0∧c=0 then (if n=0 then k (.slice none 0 0) h else if n≤2 ^ 40∧n*by_≤2 ^ 40 then A3d h e sz n new k else false) else false
    | .slice (some ⟨b,o,none⟩) l c =>
     if n=0∧l≤c then k (.slice (some ⟨b,o,none⟩) l c) h
     else if o≠0∧c=0 then false
     else
      match h.t.get b with
      | some (.cells d T kd,_) =>
       if kd.live=true∧o+l*sz≤d.length∧l+n≤2 ^ 40∧(l+n)*by_≤2 ^ 40 then
        match kd with
        | .gr q e' lv =>
         if o=0∧e'=sz then
          Nz (d.take (l*sz) ++ new) fun d'=>Ho (l*sz) fun m=>M1 q (fun _ n=>Nat.blt m n) (A27 h q) h [] fun h1 acc =>
           Yy h1 (.cells d' e (.gr q sz true)) fun h2=>Ho d'.length fun len=>A9s h2 q ((h.n,len) :: acc) fun h3=>Ho (l+n) fun m=>k (.slice (some ⟨h.n,0,none⟩) m m) h3
         else false
        | .ex =>
         if l+n≤c then
          if o+(l+n)*sz≤d.length then A1A d (o+l*sz) new fun d'=>Tj h b (.cells d' T .ex) fun h=>Ho (l+n) fun m=>k (.slice (some ⟨b,o,none⟩) m c) h
          else false
         else Nz ((d.drop o).take (l*sz) ++ new) fun d'=>A3d h e sz (l+n) d' k
        | .ro =>
         if l+n≤c then false
         else Nz ((d.drop o).take (l*sz) ++ new) fun d'=>A3d h e sz (l+n) d' k
       else false
      | _=>false
    | _=>false
   else false
  | _,_,_=>false
 | _=>false
theorem A7r {t:TypeId}{h:CH}{s:Value}{n:Nat}{new:List Value}{k:Value→CH→Bool}(g:Jt h)(q:B3O P t h s n new k=true) :
  ∃ v h',Gu P t h.toA s n new=some (v,h'.toA)∧Nx h h'∧k v h'=true:=by
 unfold B3O at q
 unfold Gu
 split at q
 rotate_left
 ·cases q
 rename_i e hu
 simp only[hu]
 split at q
 rotate_left
 ·cases q
 rename_i sz by_ z q1 q2 q3
 simp only[q1,q2,q3]
 split at q
 rotate_left
 ·cases q
 rename_i hc
 rw[if_pos hc]
 split at q
 ·rename_i l c
  split at q
  rotate_left
  ·cases q
  rename_i h1
  simp only
  rw[if_pos h1]
  split at q
  ·rename_i h2
   rw[if_pos h2]
   exact⟨_,h,rfl,Nx.refl g,q⟩
  ·rename_i h2
   rw[if_neg h2]
   split at q
   ·rename_i h3
    rw[if_pos h3]
    obtain⟨h',a1,a2,a3⟩:=Q2 g q
    exact⟨_,h',by rw[a1];rfl,a2,a3⟩
   ·cases q
 ·rename_i b o l c
  simp only
  split at q
  ·rename_i h1
   rw[if_pos h1]
   exact⟨_,h,rfl,Nx.refl g,q⟩
  rename_i h1
  rw[if_neg h1]
  split at q
  ·cases q
  rename_i h2
  rw[if_neg h2]
  split at q
  rotate_left
  ·cases q
  rename_i d T kd st hb
  have hg:h.toA.get b=.cells d T kd:=by rw[Kr,Ih hb];rfl
  rw[hg]
  simp only
  split at q
  rotate_left
  ·cases q
  rename_i h3
  rw[if_pos h3]
  split at q
  ·rename_i qq e' lv
   split at q
   rotate_left
   ·cases q
   rename_i h4
   obtain⟨rfl,rfl⟩:=h4
   rw[Lx,Ed]at q
   obtain⟨h1,acc,s1,q⟩:=Kw q
   obtain⟨g1,g2,g4,g3⟩:=s1.good g (N0 h qq)
   obtain⟨h2,s2,q⟩:=Js g2 q
   rw[Ed]at q
   obtain⟨h3,a1,a2,a3,a4,a5,a6,a7,q⟩:=Tk q
   rw[Ed]at q
   have hlow:qq≤b:=g.gr b _ _ _ _ _ hg
   have hlt:b<h.n:=g.lt _ _ hb
   refine⟨_,h3, ?_,⟨(s1.evo.trans s2.evo).trans a7, ?_, ?_,fun j p hj=>?_,fun j c' T' q' e' s' hj=>?_⟩,q⟩
   ·simp only[true_and,if_true]
    rw[a1,s2.toA,s1.toA g (N0 h qq),B3N g.gr]
    rfl
   ·rw[a1,s2.toA]
    refine g1.alloc ?_
    intro _ _ _ _ _ he
    cases he
    show qq≤h1.n
    rw[s1.n]
    omega
   ·rw[a2,a3,s2.n,s2.w];omega
   ·rw[a5,s2.get]at hj
    rw[a2,s2.n]
    by_cases hj1:j=h1.n
    ·omega
    ·rw[if_neg hj1]at hj;have:=g4 _ _ hj;omega
   ·rw[a5,s2.get]at hj
    rw[a6]
    by_cases hj1:j=h1.n
    ·rw[if_pos hj1]at hj
     cases hj
     rw[if_pos rfl]
     refine⟨_,rfl, ?_⟩
     rw[hj1,s1.n]
     exact List.mem_cons_self ..
    ·rw[if_neg hj1]at hj
     by_cases hq:q'=qq
     ·rw[if_pos hq]
      exact⟨_,rfl,List.mem_cons_of_mem _ ((g3 _ _ _ _ _ _ hj).2 hq)⟩
     ·rw[if_neg hq,s2.g]
      exact(g3 _ _ _ _ _ _ hj).1 hq
  ·split at q
   ·rename_i h4
    simp only
    rw[if_pos h4]
    split at q
    rotate_left
    ·cases q
    rename_i h5
    rw[if_pos h5]
    obtain⟨p1,q⟩:=Ni q
    obtain⟨h',s1,q⟩:=H7 q
    rw[Ed]at q
    exact⟨_,h',by rw[s1.toA];rfl,⟨s1.evo,s1.good g hb Tl (by intro _ _ _ _ he;cases he)⟩,q⟩
   ·rename_i h4
    simp only
    rw[if_neg h4]
    rw[Lx]at q
    obtain⟨h',a1,a2,a3⟩:=Q2 g q
    exact⟨_,h',by rw[a1];rfl,a2,a3⟩
  ·split at q
   ·cases q
   ·rename_i h4
    simp only
    rw[if_neg h4]
    rw[Lx]at q
    obtain⟨h',a1,a2,a3⟩:=Q2 g q
    exact⟨_,h',by rw[a1];rfl,a2,a3⟩
 ·cases q
def A4z (ts:Array TypeId)(args:List Value)(H:Aa):Option (TypeId×Value×Nat×List Value) :=
 match ts.toList,args with
 | [t,t1],[s,x] =>
  match P.underlying t,P.underlying t1 with
  | some (.slice e),some (.int _) =>
   match Fp P e,Dm P e,x with
   | some by_,some z,.int _ i=>if 0≤i∧i≤2 ^ 40∧by_*i≤2 ^ 40∧dflat z=true then some (t,s,i.toNat,Hy z.cells.toList i.toNat) else none
   | _,_,_=>none
  | some (.slice e),some (.slice _) =>
   match Bv P e,x with
   | some sz,.slice a n c=>match A8i H sz (.slice a n c) with|some new=>some (t,s,n,new)|none=>none
   | _,_=>none
  | some (.slice e),some .string =>
   match Bv P e,x with
   | some 1,.string b=>some (t,s,b.size,(b.data.toList.map fun x=>.int .u8 x.toNat))
   | _,_=>none
  | _,_=>none
 | _,_=>none
theorem A3e {ts:Array TypeId}{args:List Value}{H:Aa}{t:TypeId}{s:Value}{n:Nat}{new:List Value}(h:A4z P ts args H=some (t,s,n,new)):Cg P ts args H=Gu P t H s n new:=by
 unfold A4z at h
 unfold Cg
 repeat'(split at h)
 all_goals(first|cases h|skip)
 all_goals simp_all
def A1E (ts:Array TypeId)(args:List Value)(h:CH)(k:Value→CH→Bool):Bool :=
 match A4z P ts args h.toA with
 | some (t,s,n,new)=>Q0 s fun s=>Ho n fun n=>Nz new fun new=>B3O P t h s n new k
 | none=>false
theorem A1F {ts:Array TypeId}{args:List Value}{h:CH}{k:Value→CH→Bool}(g:Jt h)(q:A1E P ts args h k=true) :
  ∃ v h',Cg P ts args h.toA=some (v,h'.toA)∧Nx h h'∧k v h'=true:=by
 unfold A1E at q
 split at q
 ·rename_i t s n new ha
  rw[Nh,Ed,Lx]at q
  rw[A3e P ha]
  exact A7r P g q
 ·cases q
def R0:Op→Bool
 | .move _|.assign _|.pick ..|.build ..|.load ..|.nilCheck _|.binOp ..|.unOp ..|.convert ..|.makeFunc ..|.slice ..|.fieldAddr ..|.field ..|.indexAddr ..|.index ..|.extract ..|.lookup ..=>true
 | .call ⟨.builtin .len,_,_⟩|.call ⟨.builtin .cap,_,_⟩|.call ⟨.builtin .min,_,_⟩|.call ⟨.builtin .max,_,_⟩=>true
 | _=>false
theorem A1G {α:Type}{x:Option α}{H H':Aa}{v:α}(h:x.map (·,H)=some (v,H')):H'=H:=by
 cases x with
 | none=>cases h
 | some y=>simp at h;exact h.2.symm
theorem A7s {env:Bi}{o:Oper}{H H':Aa}{v:Value}(hs:R0 o.op=true)(h:Ou P env o H=some (v,H')):H'=H:=by
 obtain⟨dst,op,ty,pos,aft,gd⟩:=o
 cases op <;> first|(simp[R0]at hs;done)|skip
 all_goals simp only[Ou]at h
 all_goals(first|exact A1G h|(simp at h;exact h.2.symm)|skip)
 ·split at h
  ·simp at h;exact h.2.symm
  ·cases h
 ·rename_i fn first cap
  cases fn <;> simp at h
  exact h.2.symm
 ·rename_i c
  obtain⟨cl,args,ts⟩:=c
  cases cl with
  | value f=>simp[R0]at hs
  | invoke r m=>simp[R0]at hs
  | builtin b =>
   cases b <;> first|(simp[R0]at hs;done)|skip
   all_goals simp only at h
   all_goals first|exact A1G h|skip
   all_goals(split at h;· exact A1G h)
   all_goals cases h
def Z6:Op→Bool
 | .alloc _|.box ..|.buildSlice ..|.makeSlice ..|.makeMap _ none|.range ..=>true
 | _=>false
theorem A7t {env:Bi}{o:Oper}{H H':Aa}{v:Value}(hs:Z6 o.op=true)(h:Ou P env o H=some (v,H')):∃ ob,H'=H.alloc ob:=by
 obtain⟨dst,op,ty,pos,aft,gd⟩:=o
 cases op <;> first|(simp[Z6]at hs;done)|skip
 ·simp only[Ou,Fd]at h
  split at h
  ·split at h
   ·cases h;exact⟨_,rfl⟩
   ·cases h
  ·cases h
 ·simp only[Ou,Ym]at h
  split at h
  ·cases h;exact⟨_,rfl⟩
  ·cases h
 ·simp only[Ou,Cj]at h
  repeat'(split at h)
  all_goals first|(cases h;exact⟨_,rfl⟩)|cases h
 ·rename_i t r
  cases r with
  | some r=>simp[Z6]at hs
  | none=>simp only[Ou]at h;cases h;exact⟨_,rfl⟩
 ·simp only[Ou,Fe]at h
  repeat'(split at h)
  all_goals first|(cases h;exact⟨_,rfl⟩)|cases h
 ·simp only[Ou]at h
  repeat'(split at h)
  all_goals first|(cases h;exact⟨_,rfl⟩)|cases h
def B3P (env:Bi)(o:Oper)(h:CH)(k:Value→CH→Bool):Bool :=
 match Ou P env o h.toA with
 | some (v,H') =>
  Lb v fun v=>match H'.get h.n with
   | .cells c T .ex=>Nz c fun c=>Yy h (.cells c T .ex) fun h=>k v h
   | .map []=>Yy h (.map []) fun h=>k v h
   | .iter s pos=>A1z s fun s=>Ho pos fun pos=>Yy h (.iter s pos) fun h=>k v h
   | _=>false
 | none=>false
theorem A7u {H:Aa}{ob:Dd}:(H.alloc ob).get H.n=ob:=by simp[Aa.alloc]
theorem A7v {env:Bi}{o:Oper}{h:CH}{k:Value→CH→Bool}(g:Jt h)(hs:Z6 o.op=true)(q:B3P P env o h k=true) :
  ∃ v h',Ou P env o h.toA=some (v,h'.toA)∧Nx h h'∧k v h'=true:=by
 unfold B3P at q
 split at q
 rotate_left
 ·cases q
 rename_i v H' ho
 rw[Kj]at q
 obtain⟨ob,rfl⟩:=A7t P hs ho
 have e:(h.toA.alloc ob).get h.n=ob:=A7u
 rw[e]at q
 rw[ho]
 split at q
 ·rw[Lx]at q
  obtain⟨h',s,q⟩:=Js g.w q
  exact⟨v,h',by rw[s.toA];rfl,⟨s.evo,s.good g Tl (by intro _ _ _ _ he;cases he)⟩,q⟩
 ·obtain⟨h',s,q⟩:=Js g.w q
  exact⟨v,h',by rw[s.toA];rfl,⟨s.evo,s.good g (by intro _ _ _ _ _ he;cases he) (by intro _ _ _ _ he;cases he)⟩,q⟩
 ·rw[Z1,Ed]at q
  obtain⟨h',s,q⟩:=Js g.w q
  exact⟨v,h',by rw[s.toA];rfl,⟨s.evo,s.good g (by intro _ _ _ _ _ he;cases he) (by intro _ _ _ _ he;cases he)⟩,q⟩
 ·cases q
def Vz:List (Value×Value)→(List (Value×Value)→Bool)→Bool
 | [],k=>k []
 | (a,b) :: l,k=>Q0 a fun a=>Q0 b fun b=>Vz l fun l=>k ((a,b) :: l)
theorem A4A (l:List (Value×Value))(k:List (Value×Value)→Bool):Vz l k=k l:=by
 induction l generalizing k with
 | nil=>rfl
 | cons a l ih=>obtain⟨a,b⟩:=a;rw[Vz,Nh,Nh,ih]
def B3Q (t:TypeId)(m key v:Value)(h:CH)(k:CH→Bool):Bool :=
 match m,Fg P t m key v h.toA with
 | .map (some r),some H'=>(match h.t.get r,H'.get r with
  | some _,.map es=>Vz es fun es=>Tj h r (.map es) k
  | _,_=>false)
 | _,_=>false
theorem A7w {t:TypeId}{m key v:Value}{h:CH}{k:CH→Bool}(g:Jt h)(q:B3Q P t m key v h k=true):∃ h',Fg P t m key v h.toA=some h'.toA∧Nx h h'∧k h'=true:=by
 unfold B3Q at q
 split at q
 rotate_left
 ·cases q
 rename_i r H' hm
 split at q
 rotate_left
 ·cases q
 rename_i p es hr hes
 rw[A4A]at q
 obtain⟨h',s,q⟩:=H7 q
 refine⟨h', ?_,⟨s.evo,s.good g hr (by intro _ _ _ _ _ he;cases he) (by intro _ _ _ _ he;cases he)⟩,q⟩
 rw[hm,s.toA]
 have:∃ es',H'=h.toA.put r (.map es'):=by
  simp only[Fg]at hm
  split at hm
  rotate_left
  ·cases hm
  rename_i h2
  cases h2
  split at hm
  rotate_left
  ·cases hm
  split at hm
  rotate_left
  ·cases hm
  split at hm
  ·split at hm
   ·cases hm;exact⟨_,rfl⟩
   ·cases hm
  ·cases hm;exact⟨_,rfl⟩
  ·cases hm
 obtain⟨es',rfl⟩:=this
 have e:(h.toA.put r (.map es')).get r=.map es':=by simp[Aa.put]
 rw[e]at hes
 cases hes
 rfl
def A9u (x:Value)(h:CH)(k:Value→CH→Bool):Bool :=
 match x,Ul x h.toA with
 | .pointer (some ⟨r,0,none⟩),some (v,H')=>Lb v fun v=>(match h.t.get r,H'.get r with
  | some _,.iter s pos=>Ho pos fun pos=>Tj h r (.iter s pos) fun h=>k v h
  | _,_=>false)
 | _,_=>false
theorem A4B {x:Value}{h:CH}{k:Value→CH→Bool}(g:Jt h)(q:A9u x h k=true):∃ v h',Ul x h.toA=some (v,h'.toA)∧Nx h h'∧k v h'=true:=by
 unfold A9u at q
 split at q
 rotate_left
 ·cases q
 rename_i r v H' hm
 rw[Kj]at q
 split at q
 rotate_left
 ·cases q
 rename_i p s pos hr hes
 rw[Ed]at q
 obtain⟨h',s1,q⟩:=H7 q
 refine⟨v,h', ?_,⟨s1.evo,s1.good g hr (by intro _ _ _ _ _ he;cases he) (by intro _ _ _ _ he;cases he)⟩,q⟩
 rw[hm,s1.toA]
 have:H'=h.toA.put r (H'.get r):=by
  simp only[Ul]at hm
  split at hm
  rotate_left
  ·cases hm
  split at hm
  ·cases hm
   simp[Aa.put]
  ·cases hm
   show (⟨h.toA.n,h.toA.get⟩:Aa)=_
   simp only[Aa.put]
   congr 1
   funext c
   split
   ·rename_i hc;rw[hc]
   ·rfl
 rw[hes]at this
 rw[← show H'=h.toA.put r (Lc.iter s pos).toO from this]
abbrev Mp:=Tgt→List Value→CH→(Value→CH→Bool)→Bool
def A3f (call:Mp)(f:Value)(args:List Value)(h:CH)(k:Value→CH→Bool):Bool :=
 match f with
 | .func (.func q) ⟨first⟩ ⟨cap⟩=>Mo (first ++ (args ++ cap)) fun as=>call (.fn q) as h k
 | .func (.yield l) ⟨first⟩ _=>Mo (first ++ args) fun as=>call (.yield l) as h k
 | _=>false
def Ql (call:Mp)(e:Dl)(o:Oper)(h:CH)(k:Value→CH→Bool):Bool :=
 match A3b P (Fm e) o.op with
 | some v=>Lb v fun v=>k v h
 | none=>match R0 o.op with
 | true=>(match Ou P (Fm e) o h.toA with
  | some (v,_)=>Lb v fun v=>k v h
  | none=>false)
 | false=>match o.op with
  | .call ⟨.value f,args,_⟩=>A3f call (ev (Fm e) f) (args.toList.map (ev (Fm e))) h k
  | .call ⟨.builtin .append,args,ts⟩=>A1E P ts (args.toList.map (ev (Fm e))) h k
  | .store t a x=>A4y P t (ev (Fm e) a) (ev (Fm e) x) h fun h=>k undef h
  | .mapUpdate t m q x=>B3Q P t (ev (Fm e) m) (ev (Fm e) q) (ev (Fm e) x) h fun h=>k undef h
  | .next it true=>A9u (ev (Fm e) it) h k
  | _=>(match Z6 o.op with|true=>B3P P (Fm e) o h k|false=>false)
def Pa (C:Bk)(call:Mp):Prop:=∀ t args h k,Jt h→call t args h k=true→∃ v h',C t args.toArray h.toA v h'.toA∧Nx h h'∧k v h'=true
variable {C:Bk} {call:Mp}
theorem Q3 (hC:Pa C call){f:Value}{args:List Value}{h:CH}{k:Value→CH→Bool}(g:Jt h)(q:A3f call f args h k=true) :
  ∃ v h',Gj C f args.toArray h.toA v h'.toA∧Nx h h'∧k v h'=true:=by
 unfold A3f at q
 split at q
 ·rw[Q1]at q
  obtain⟨v,h',a,b,c⟩:=hC _ _ _ _ g q
  exact⟨v,h',by simpa [Gj] using a,b,c⟩
 ·rw[Q1]at q
  obtain⟨v,h',a,b,c⟩:=hC _ _ _ _ g q
  exact⟨v,h',by simpa [Gj] using a,b,c⟩
 ·cases q
theorem A9v (hC:Pa C call){e:Dl}{o:Oper}{h:CH}{k:Value→CH→Bool}(g:Jt h)(q:Ql P call e o h k=true) :
  ∃ v h',We P C (Fm e) o h.toA v h'.toA∧Nx h h'∧k v h'=true:=by
 obtain⟨dst,op,ty,pos,aft,gd⟩:=o
 have fin:∀ {v:Value}{h':CH},(∀ c,op=.call c→∃ b,c.callee=.builtin b)→Ou P (Fm e) ⟨dst,op,ty,pos,aft,gd⟩ h.toA=some (v,h'.toA)→We P C (Fm e) ⟨dst,op,ty,pos,aft,gd⟩ h.toA v h'.toA:=by
  intro v h' hc ho
  unfold We
  split
  ·rename_i f args ts he
   simp only at he
   obtain⟨b,e⟩:=hc _ he
   cases e
  ·rename_i f args ts he
   simp only at he
   obtain⟨b,e⟩:=hc _ he
   cases e
  ·exact ho
 unfold Ql at q
 split at q
 ·rename_i v hv
  rw[Kj]at q
  refine⟨v,h,fin ?_ (A4x P hv _),Nx.refl g,q⟩
  rintro⟨cl,args,ts⟩ rfl
  cases cl with
  | value f=>simp[A3b]at hv
  | invoke r m=>simp[A3b]at hv
  | builtin b=>exact⟨b,rfl⟩
 split at q
 ·rename_i hs
  split at q
  rotate_left
  ·cases q
  rename_i v H' ho
  rw[Kj]at q
  have:=A7s P hs ho
  subst this
  refine⟨v,h,fin ?_ ho,Nx.refl g,q⟩
  rintro⟨cl,args,ts⟩ rfl
  cases cl with
  | value f=>simp[R0]at hs
  | invoke r m=>simp[R0]at hs
  | builtin b=>exact⟨b,rfl⟩
 ·split at q
  ·rename_i f args ts ho
   simp only at ho
   subst ho
   obtain⟨v,h',a,b,c⟩:=Q3 hC g q
   refine⟨v,h', ?_,b,c⟩
   show Gj C _ _ _ _ _
   have:args.map (ev (Fm e))=(args.toList.map (ev (Fm e))).toArray:=by rw[List.map_toArray]
   rw[this]
   exact a
  ·rename_i args ts ho
   simp only at ho
   subst ho
   obtain⟨v,h',a,b,c⟩:=A1F P g q
   exact⟨v,h',fin (by rintro c hc;cases hc;exact⟨_,rfl⟩) a,b,c⟩
  ·rename_i t a x ho
   simp only at ho
   subst ho
   obtain⟨h',a,b,c⟩:=A3c P g q
   exact⟨undef,h',fin (by rintro c hc;cases hc) (by simp only[Ou,a];rfl),b,c⟩
  ·rename_i t m q' x ho
   simp only at ho
   subst ho
   obtain⟨h',a,b,c⟩:=A7w P g q
   exact⟨undef,h',fin (by rintro c hc;cases hc) (by simp only[Ou,a];rfl),b,c⟩
  ·rename_i it ho
   simp only at ho
   subst ho
   obtain⟨v,h',a,b,c⟩:=A4B g q
   exact⟨v,h',fin (by rintro c hc;cases hc) (by simp only[Ou,a]),b,c⟩
  ·split at q
   rotate_left
   ·cases q
   rename_i hm
   obtain⟨v,h',a,b,c⟩:=A7v P g hm q
   refine⟨v,h',fin ?_ a,b,c⟩
   rintro c hc
   subst hc
   simp[Z6]at hm
end
noncomputable section
def Tr.getK {α:Type}(t:Tr α):Nat→Bool→(α→Bool)→Bool :=
 Tr.rec (motive:=fun _=>Nat→Bool→(α→Bool)→Bool) (fun _ z _=>z) (fun a i z k=>@Bool.rec (fun _=>Bool) z (k a) (Nat.beq i 0))
  (fun l r gl gr i z k=>@Bool.rec (fun _=>Bool) (gr (Nat.div i 2) z k) (gl (Nat.div i 2) z k) (Nat.beq (Nat.mod i 2) 0)) t
theorem A1H {α:Type}(t:Tr α):∀ (i:Nat)(z:Bool)(k:α→Bool),t.getK i z k=match t.get i with|some a=>k a|none=>z:=by
 induction t with
 | nil=>intro i z k;rfl
 | leaf a =>
  intro i z k
  show @Bool.rec (fun _=>Bool) z (k a) (Nat.beq i 0)=match (match Nat.beq i 0 with|true=>some a|false=>none) with|some a=>k a|none=>z
  cases Nat.beq i 0 <;> rfl
 | node l r ihl ihr =>
  intro i z k
  show @Bool.rec (fun _=>Bool) (r.getK (Nat.div i 2) z k) (l.getK (Nat.div i 2) z k) (Nat.beq (Nat.mod i 2) 0)=match (match Nat.beq (Nat.mod i 2) 0 with|true=>l.get (Nat.div i 2)|false=>r.get (Nat.div i 2)) with|some a=>k a|none=>z
  cases Nat.beq (Nat.mod i 2) 0
  ·exact ihr _ _ _
  ·exact ihl _ _ _
def Vq {α:Type}(a:α)(d:Nat):Tr α→Nat→(Tr α→Bool)→Bool :=
 Nat.rec (motive:=fun _=>Tr α→Nat→(Tr α→Bool)→Bool)
  (fun t i k=>@Bool.rec (fun _=>Bool) false (Tr.rec (motive:=fun _=>Bool) (k (.leaf a)) (fun _=>k (.leaf a)) (fun _ _ _ _=>false) t) (Nat.beq i 0))
  (fun _ ih t i k=>Tr.rec (motive:=fun _=>Bool)
   (@Bool.rec (fun _=>Bool) (ih .nil (Nat.div i 2) fun r=>k (.node .nil r)) (ih .nil (Nat.div i 2) fun l=>k (.node l .nil)) (Nat.beq (Nat.mod i 2) 0))
   (fun _=>false)
   (fun l r _ _=>@Bool.rec (fun _=>Bool) (ih r (Nat.div i 2) fun r=>k (.node l r)) (ih l (Nat.div i 2) fun l=>k (.node l r)) (Nat.beq (Nat.mod i 2) 0)) t) d
theorem V0 {α:Type}(a:α):∀ (d:Nat)(t:Tr α)(i:Nat)(k:Tr α→Bool),Vq a d t i k=Tr.putK a d t i k
 | 0,t,i,k=>by
  cases t <;> simp only[Tr.putK] <;> show @Bool.rec (fun _=>Bool) false _ (Nat.beq i 0)=_ <;> cases Nat.beq i 0 <;> rfl
 | d+1,t,i,k=>by
  have ih:=V0 a d
  cases t with
  | leaf b=>rfl
  | nil =>
   rw[Tr.putK]
   show @Bool.rec (fun _=>Bool) (Vq a d .nil (Nat.div i 2) fun r=>k (.node .nil r)) (Vq a d .nil (Nat.div i 2) fun l=>k (.node l .nil)) (Nat.beq (Nat.mod i 2) 0)=_
   cases Nat.beq (Nat.mod i 2) 0 <;> exact ih _ _ _
  | node l r =>
   rw[Tr.putK]
   show @Bool.rec (fun _=>Bool) (Vq a d r (Nat.div i 2) fun r'=>k (.node l r')) (Vq a d l (Nat.div i 2) fun l'=>k (.node l' r)) (Nat.beq (Nat.mod i 2) 0)=_
   cases Nat.beq (Nat.mod i 2) 0 <;> exact ih _ _ _
theorem Z7 {α:Type}{a:α}{d:Nat}{t:Tr α}{i:Nat}{k:Tr α→Bool}(h:Vq a d t i k=true):∃ t',(∀ j,t'.get j=if j=i then some a else t.get j)∧k t'=true :=
 Tr.putK_spec (by rw[← V0];exact h)
def Vr (e:Dl)(x:Operand)(k:Value→Bool):Bool :=
 Operand.rec (motive:=fun _=>Bool) (fun t=>Tr.getK e t (k undef) k) (fun v=>k v) (fun g=>k (.pointer (some ⟨g,0,none⟩))) (fun f=>k (.func (.func f) #[] #[])) x
theorem Gz (e:Dl)(x:Operand)(k:Value→Bool):Vr e x k=k (ev (Fm e) x):=by
 cases x with
 | tmp t =>
  show Tr.getK e t (k undef) k=k (Fm e t)
  rw[A1H]
  unfold Fm
  cases e.get t <;> rfl
 | _=>rfl
def B3R (e:Dl)(xs:List Operand):(List Value→Bool)→Bool :=
 List.rec (motive:=fun _=>(List Value→Bool)→Bool) (fun k=>k []) (fun x _ ih k=>Vr e x fun v=>ih fun l=>k (v :: l)) xs
theorem A5T (e:Dl):∀ (xs:List Operand)(k:List Value→Bool),B3R e xs k=k (xs.map (ev (Fm e)))
 | [],k=>rfl
 | x :: xs,k=>by
  show Vr e x (fun v=>B3R e xs fun l=>k (v :: l))=_
  rw[Gz,A5T e xs];rfl
def fN (n:Nat)(k:Nat→Bool):Bool:=Nat.rec (motive:=fun _=>Bool) (k 0) (fun m _=>k (Nat.succ m)) n
theorem Uu (n:Nat)(k:Nat→Bool):fN n k=k n:=by cases n <;> rfl
def fI (n:Int)(k:Int→Bool):Bool:=Int.rec (motive:=fun _=>Bool) (fun n=>fN n fun n=>k (.ofNat n)) (fun n=>fN n fun n=>k (.negSucc n)) n
theorem A9w (n:Int)(k:Int→Bool):fI n k=k n:=by
 cases n with
 | ofNat n=>exact Uu n fun n=>k (.ofNat n)
 | negSucc n=>exact Uu n fun n=>k (.negSucc n)
def fB (b:Bool)(k:Bool→Bool):Bool:=Bool.rec (motive:=fun _=>Bool) (k false) (k true) b
theorem Z8 (n:Bool)(k:Bool→Bool):fB n k=k n:=by cases n <;> rfl
def A9x (v:Value)(z:Bool)(k:IntKind→Int→Bool):Bool :=
 Value.casesOn (motive_1:=fun _=>Bool) v (fun _=>z) (fun d n=>k d n) (fun _ _=>z) (fun _ _ _=>z) (fun _=>z) (fun _=>z) (fun _ _ _=>z) (fun _=>z) (fun _=>z) (fun _ _ _=>z) z (fun _ _=>z) z (fun _=>z) (fun _=>z)
def A4C (v:Value)(z:Bool)(k:Nat→Nat→Bool):Bool :=
 Value.casesOn (motive_1:=fun _=>Bool) v (fun _=>z) (fun d n=>z) (fun _ _=>z) (fun _ _ _=>z) (fun _=>z) (fun a=>Option.rec z (fun a=>Addr.rec (fun b o s=>Option.rec (k b o) (fun _=>z) s) a) a) (fun _ _ _=>z) (fun _=>z) (fun _=>z) (fun _ _ _=>z) z (fun _ _=>z) z (fun _=>z) (fun _=>z)
def B5i (v:Value)(z:Bool)(k:Nat→Nat→Nat→Bool):Bool :=
 Value.casesOn (motive_1:=fun _=>Bool) v (fun _=>z) (fun d n=>z) (fun _ _=>z) (fun _ _ _=>z) (fun _=>z) (fun _=>z) (fun a l _=>Option.rec z (fun a=>Addr.rec (fun b o s=>Option.rec (k b o l) (fun _=>z) s) a) a) (fun _=>z) (fun _=>z) (fun _ _ _=>z) z (fun _ _=>z) z (fun _=>z) (fun _=>z)
def B5j (v:Value)(z:Bool)(k:List Value→Bool):Bool :=
 Value.casesOn (motive_1:=fun _=>Bool) v (fun _=>z) (fun d n=>z) (fun _ _=>z) (fun _ _ _=>z) (fun _=>z) (fun _=>z) (fun _ _ _=>z) (fun _=>z) (fun _=>z) (fun _ _ _=>z) z (fun _ _=>z) z (fun _=>z) (fun a=>Array.rec (fun l=>k l) a)
theorem V1 {v:Value}{z:Bool}{k:IntKind→Int→Bool}(h:A9x v z k=true):z=true∨∃ d n,v=.int d n∧k d n=true:=by
 cases v <;> first|exact .inl h|exact .inr ⟨_,_,rfl,h⟩
theorem P7 {v:Value}{z:Bool}{k:Nat→Nat→Bool}(h:A4C v z k=true):z=true∨∃ b o,v=.pointer (some ⟨b,o,none⟩)∧k b o=true:=by
 cases v <;> first|exact .inl h|skip
 rename_i a
 cases a with
 | none=>exact .inl h
 | some a =>
  obtain⟨b,o,s⟩:=a
  cases s with
  | none=>exact .inr ⟨_,_,rfl,h⟩
  | some _=>exact .inl h
theorem B1Q {v:Value}{z:Bool}{k:Nat→Nat→Nat→Bool}(h:B5i v z k=true):z=true∨∃ b o l c,v=.slice (some ⟨b,o,none⟩) l c∧k b o l=true:=by
 cases v <;> first|exact .inl h|skip
 rename_i a _ _
 cases a with
 | none=>exact .inl h
 | some a =>
  obtain⟨b,o,s⟩:=a
  cases s with
  | none=>exact .inr ⟨_,_,_,_,rfl,h⟩
  | some _=>exact .inl h
theorem B1R {v:Value}{z:Bool}{k:List Value→Bool}(h:B5j v z k=true):z=true∨∃ l,v=.tuple ⟨l⟩∧k l=true:=by
 cases v <;> first|exact .inl h|exact .inr ⟨_,rfl,h⟩
def B1S (c:List Value):Nat→Bool→(Value→Bool)→Bool :=
 List.rec (motive:=fun _=>Nat→Bool→(Value→Bool)→Bool) (fun _ z _=>z) (fun a _ ih i z k=>Nat.rec (motive:=fun _=>Bool) (k a) (fun j _=>ih j z k) i) c
theorem A1I:∀ (c:List Value)(i:Nat)(z:Bool)(k:Value→Bool),B1S c i z k=match c[i]? with|some v=>k v|none=>z
 | [],i,z,k=>rfl
 | a :: c,0,z,k=>rfl
 | a :: c,i+1,z,k=>by
  show B1S c i z k=_
  rw[A1I c,List.getElem?_cons_succ]
def A3g (x:Value)(c:List Value):Nat→(List Value→Bool)→Bool :=
 List.rec (motive:=fun _=>Nat→(List Value→Bool)→Bool) (fun _ _=>false) (fun a l ih i k=>Nat.rec (motive:=fun _=>Bool) (k (x :: l)) (fun j _=>ih j fun r=>k (a :: r)) i) c
theorem W7 {x:Value}:∀ {c:List Value}{i:Nat}{k:List Value→Bool},A3g x c i k=true→i<c.length∧k (c.set i x)=true
 | [],i,k,h=>by cases h
 | a :: c,0,k,h=>⟨by simp,h⟩
 | a :: c,i+1,k,h=>by
  have h:A3g x c i (fun r=>k (a :: r))=true:=h
  have:=W7 h
  exact⟨by simp;omega,this.2⟩
theorem A4D {c:List Value}{i:Nat}{x:Value}(h:i<c.length):splice c i [x]=c.set i x:=by
 rw[splice,List.set_eq_take_append_cons_drop,if_pos h]
 simp
def A9y (s:Nat):List Value→(List Value→Bool)→Bool :=
 Nat.rec (motive:=fun _=>List Value→(List Value→Bool)→Bool) (fun _ k=>k []) (fun _ ih l k=>List.rec (motive:=fun _=>Bool) false (fun a l _=>ih l fun r=>k (a :: r)) l) s
theorem W8:∀ {s:Nat}{l:List Value}{k:List Value→Bool},A9y s l k=true→s≤l.length∧k (l.take s)=true
 | 0,l,k,h=>⟨by omega,h⟩
 | s+1,[],k,h=>by cases h
 | s+1,a :: l,k,h=>by
  have h:A9y s l (fun r=>k (a :: r))=true:=h
  have:=W8 h
  exact⟨by simp;omega,by simpa using this.2⟩
def A9z (o:Nat):List Value→(List Value→Bool)→Bool :=
 Nat.rec (motive:=fun _=>List Value→(List Value→Bool)→Bool) (fun l k=>k l) (fun _ ih l k=>List.rec (motive:=fun _=>Bool) false (fun _ l _=>ih l k) l) o
theorem W9:∀ {o:Nat}{l:List Value}{k:List Value→Bool},A9z o l k=true→o≤l.length∧k (l.drop o)=true
 | 0,l,k,h=>⟨by omega,h⟩
 | s+1,[],k,h=>by cases h
 | s+1,a :: l,k,h=>by
  have h:A9z s l k=true:=h
  have:=W9 h
  exact⟨by simp;omega,by simpa using this.2⟩
def B1T (l:List Value):List Value→(List Value→Bool)→Bool :=
 List.rec (motive:=fun _=>List Value→(List Value→Bool)→Bool) (fun c k=>k c) (fun x _ ih c k=>List.rec (motive:=fun _=>Bool) false (fun _ c' _=>ih c' fun r=>k (x :: r)) c) l
theorem A5U:∀ (l c:List Value)(k:List Value→Bool),B1T l c k=A26 c l k
 | [],c,k=>by cases c <;> rfl
 | x :: l,[],k=>rfl
 | x :: l,a :: c,k=>by
  show B1T l c (fun r=>k (x :: r))=_
  rw[A5U l c];rfl
def A9A (l:List Value)(o:Nat):List Value→(List Value→Bool)→Bool :=
 Nat.rec (motive:=fun _=>List Value→(List Value→Bool)→Bool) (fun c k=>B1T l c k) (fun _ ih c k=>List.rec (motive:=fun _=>Bool) false (fun a c' _=>ih c' fun r=>k (a :: r)) c) o
theorem A5V (l:List Value):∀ (o:Nat)(c:List Value)(k:List Value→Bool),A9A l o c k=A1A c o l k
 | 0,c,k=>by
  show B1T l c k=_
  rw[A5U]
  cases c <;> rfl
 | o+1,[],k=>rfl
 | o+1,a :: c,k=>by
  show A9A l o c (fun r=>k (a :: r))=_
  rw[A5V l o c];rfl
theorem A7x {c:List Value}{o:Nat}{l:List Value}{k:List Value→Bool}(h:A9A l o c k=true):o+l.length≤c.length∧k (splice c o l)=true:=Ni (by rw[← A5V];exact h)
def B5k (op:BinOp)(d:IntKind)(a b:Int)(z:Bool)(k:Value→Bool):Bool :=
 BinOp.rec (motive:=fun _=>Bool) (fI (Kx d (a+b)) fun n=>k (.int d n)) (fI (Kx d (a-b)) fun n=>k (.int d n)) (fI (Kx d (a*b)) fun n=>k (.int d n)) z z z z z z z z
  (fB (eqI a b) fun p=>k (.bool p)) (fB (eqI a b) fun p=>k (.bool (@Bool.rec (fun _=>Bool) true false p))) (fB (Z5 b a) fun p=>k (.bool (@Bool.rec (fun _=>Bool) true false p))) (fB (Z5 a b) fun p=>k (.bool p)) (fB (Z5 a b) fun p=>k (.bool (@Bool.rec (fun _=>Bool) true false p))) (fB (Z5 b a) fun p=>k (.bool p)) op
theorem B1U {op:BinOp}{d:IntKind}{a b:Int}{z:Bool}{k:Value→Bool}(h:B5k op d a b z k=true):z=true∨∃ v,A5R op d a b=some v∧k v=true:=by
 have nb:∀ p:Bool,@Bool.rec (fun _=>Bool) true false p = !p:=by intro p;cases p <;> rfl
 cases op <;> first|exact .inl h|skip
 ·have h:fI (Kx d (a+b)) (fun n=>k (.int d n))=true:=h
  rw[A9w]at h;exact .inr ⟨_,rfl,h⟩
 ·have h:fI (Kx d (a-b)) (fun n=>k (.int d n))=true:=h
  rw[A9w]at h;exact .inr ⟨_,rfl,h⟩
 ·have h:fI (Kx d (a*b)) (fun n=>k (.int d n))=true:=h
  rw[A9w]at h;exact .inr ⟨_,rfl,h⟩
 ·have h:fB (eqI a b) (fun p=>k (.bool p))=true:=h
  rw[Z8]at h;exact .inr ⟨_,rfl,h⟩
 ·have h:fB (eqI a b) (fun p=>k (.bool (@Bool.rec (fun _=>Bool) true false p)))=true:=h
  rw[Z8,nb]at h;exact .inr ⟨_,rfl,h⟩
 ·have h:fB (Z5 b a) (fun p=>k (.bool (@Bool.rec (fun _=>Bool) true false p)))=true:=h
  rw[Z8,nb]at h;exact .inr ⟨_,rfl,h⟩
 ·have h:fB (Z5 a b) (fun p=>k (.bool p))=true:=h
  rw[Z8]at h;exact .inr ⟨_,rfl,h⟩
 ·have h:fB (Z5 a b) (fun p=>k (.bool (@Bool.rec (fun _=>Bool) true false p)))=true:=h
  rw[Z8,nb]at h;exact .inr ⟨_,rfl,h⟩
 ·have h:fB (Z5 b a) (fun p=>k (.bool p))=true:=h
  rw[Z8]at h;exact .inr ⟨_,rfl,h⟩
inductive XOp where
 | mov (x:Operand)
 | bin (op:BinOp) (x y:Operand)
 | load1 (a:Operand)
 | loadN (s:Nat) (a:Operand)
 | faddr (off:Nat) (x:Operand)
 | iarr (len s:Nat) (x ix:Operand)
 | islc (s:Nat) (x ix:Operand)
 | lenS (x:Operand)
 | ext (x:Operand) (i:Nat)
 | st (s:Nat) (a x:Operand)
 | call (f:Operand) (args:List Operand)
 | pick (c a b:Operand)
 | alloc (t:TypeId) (c:List Value)
 | box (t:TypeId) (x:Operand)
 | nilc (x:Operand)
 | slow
variable (P:Program)
def cop (o:Op):XOp:=match o with
 | .move x|.assign x=>.mov x
 | .binOp op _ x y _=>.bin op x y
 | .load t a=>(match Em P t,Bv P t with|some true,some s=>.loadN s a|some false,_=>.load1 a|_,_=>.slow)
 | .fieldAddr s x f=>(match P.underlying s with
  | some (.struct fs)=>(match fs[f]? with
   | some fd=>(match Bv P fd.type with|some sz=>(match Nat.beq sz 0 with|true=>.slow|false=>.faddr fd.offset x)|none=>.slow)
   | none=>.slow)
  | _=>.slow)
 | .indexAddr t x ix=>(match P.underlying t with
  | some (.array len e)=>(match Bv P e with|some s=>.iarr len s x ix|none=>.slow)
  | some (.slice e)=>(match Bv P e with|some s=>.islc s x ix|none=>.slow)
  | _=>.slow)
 | .call ⟨.builtin .len,args,ts⟩=>(match ts[0]?,args.toList with
  | some t,[x]=>(match P.underlying t with|some (.slice _)=>.lenS x|_=>.slow)
  | _,_=>.slow)
 | .call ⟨.value f,args,_⟩=>.call f args.toList
 | .extract x i=>.ext x i
 | .pick c a b=>.pick c a b
 | .alloc t=>(match Dm P t with|some z=>(match dflat z with|true=>.alloc t z.cells.toList|false=>.slow)|none=>.slow)
 | .box t x=>.box t x
 | .nilCheck x=>.nilc x
 | .store t a x=>(match Bv P t with|some s=>.st s a x|none=>.slow)
 | _=>.slow
def B5l (o:Op):XOp→Prop
 | .mov x=>o=.move x∨o=.assign x
 | .bin op x y=>∃ t yt,o=.binOp op t x y yt
 | .load1 a=>∃ t,o=.load t a∧Em P t=some false
 | .loadN s a=>∃ t,o=.load t a∧Em P t=some true∧Bv P t=some s
 | .faddr off x=>∃ t f fs fd sz,o=.fieldAddr t x f∧P.underlying t=some (.struct fs)∧fs[f]? = some fd∧Bv P fd.type=some sz∧sz≠0∧off=fd.offset
 | .iarr len s x ix=>∃ t e,o=.indexAddr t x ix∧P.underlying t=some (.array len e)∧Bv P e=some s
 | .islc s x ix=>∃ t e,o=.indexAddr t x ix∧P.underlying t=some (.slice e)∧Bv P e=some s
 | .lenS x=>∃ args ts t e,o=.call ⟨.builtin .len,args,ts⟩∧ts[0]? = some t∧args.toList=[x]∧P.underlying t=some (.slice e)
 | .ext x i=>o=.extract x i
 | .st s a x=>∃ t,o=.store t a x∧Bv P t=some s
 | .call f args=>∃ as ts,o=.call ⟨.value f,as,ts⟩∧args=as.toList
 | .pick c a b=>o=.pick c a b
 | .alloc t c=>o=.alloc t∧∃ z,Dm P t=some z∧dflat z=true∧c=z.cells.toList
 | .box t x=>o=.box t x
 | .nilc x=>o=.nilCheck x
 | .slow=>True
theorem B3S (o:Op):B5l P o (cop P o):=by
 cases o <;> simp only[cop] <;> first|exact trivial|exact .inl rfl|exact .inr rfl|exact⟨_,_,rfl⟩|exact rfl|skip
 ·split
  ·rename_i z h1
   split
   ·rename_i h2;exact⟨rfl,z,h1,h2,rfl⟩
   ·trivial
  ·trivial
 ·split
  ·rename_i h1 h2;exact⟨_,rfl,h1,h2⟩
  ·rename_i h1;exact⟨_,rfl,h1⟩
  ·trivial
 ·split
  ·rename_i h;exact⟨_,rfl,h⟩
  ·trivial
 ·split
  ·rename_i fs h1
   split
   ·rename_i fd h2
    split
    ·rename_i sz h3
     split
     ·trivial
     ·rename_i h4
      rw[Lr,decide_eq_false_iff_not]at h4
      exact⟨_,_,_,_,_,rfl,h1,h2,h3,h4,rfl⟩
    ·trivial
   ·trivial
  ·trivial
 ·split
  ·split
   ·rename_i h1 _ _ h2;exact⟨_,_,rfl,h1,h2⟩
   ·trivial
  ·split
   ·rename_i h1 _ _ h2;exact⟨_,_,rfl,h1,h2⟩
   ·trivial
  ·trivial
 ·rename_i c
  obtain⟨cl,args,ts⟩:=c
  cases cl with
  | value f=>exact⟨_,_,rfl,rfl⟩
  | invoke r m=>exact trivial
  | builtin b =>
   cases b <;> first|exact trivial|skip
   simp only
   split
   ·split
    ·rename_i h1 h2 _ _ h3;exact⟨_,_,_,_,rfl,h1,h2,h3⟩
    ·trivial
   ·trivial
variable {C:Bk} {call:Mp}
section
variable (call:Mp)
def B3T (e:Dl)(op:BinOp)(x y:Operand)(z:Bool)(k:Value→Bool):Bool :=
 Vr e x fun a=>Vr e y fun b=>A9x a z fun d a=>A9x b z fun d' b=>@Bool.rec (fun _=>Bool) z (B5k op d a b z k) (A28 d d')
def A9B (h:CH)(b:Nat)(z:Bool)(k:List Value→TypeId→Kd→Bool):Bool :=
 Tr.getK h.t b z fun p=>Prod.rec (fun o _=>Lc.rec (fun c T kd=>k c T kd) (fun _=>z) (fun _ _=>z) (fun _ _ _ _ _ _ _=>z) o) p
def A4E (e:Dl)(h:CH)(a:Operand)(z:Bool)(k:Value→Bool):Bool :=
 Vr e a fun a=>A4C a z fun b o=>A9B h b z fun c _ kd=>@Bool.rec (fun _=>Bool) z (B1S c o z k) (Kd.live kd)
def A4F (e:Dl)(h:CH)(s:Nat)(a:Operand)(z:Bool)(k:Value→Bool):Bool :=
 Vr e a fun a=>A4C a z fun b o=>A9B h b z fun c _ kd=>@Bool.rec (fun _=>Bool) z (A9z o c fun c=>A9y s c fun c=>k (.agg ⟨c⟩)) (Kd.live kd)
def A4G (e:Dl)(off:Nat)(x:Operand)(z:Bool)(k:Value→Bool):Bool :=
 Vr e x fun a=>A4C a z fun b o=>fN (Nat.add o off) fun o=>k (.pointer (some ⟨b,o,none⟩))
def B3U (i:Int)(len:Nat)(z:Bool)(k:Nat→Bool):Bool:=Int.rec (fun i=>@Bool.rec (fun _=>Bool) z (k i) (Nat.blt i len)) (fun _=>z) i
def A9C (e:Dl)(len s:Nat)(x ix:Operand)(z:Bool)(k:Value→Bool):Bool :=
 Vr e x fun a=>Vr e ix fun i=>A4C a z fun b o=>A9x i z fun _ i=>B3U i len z fun i=>fN (Nat.add o (Nat.mul i s)) fun o=>k (.pointer (some ⟨b,o,none⟩))
def A9D (e:Dl)(s:Nat)(x ix:Operand)(z:Bool)(k:Value→Bool):Bool :=
 Vr e x fun a=>Vr e ix fun i=>B5i a z fun b o len=>A9x i z fun _ i=>B3U i len z fun i=>fN (Nat.add o (Nat.mul i s)) fun o=>k (.pointer (some ⟨b,o,none⟩))
def B5m (v:Value)(z:Bool)(k:Nat→Bool):Bool :=
 Value.casesOn (motive_1:=fun _=>Bool) v (fun _=>z) (fun d n=>z) (fun _ _=>z) (fun _ _ _=>z) (fun _=>z) (fun _=>z) (fun a l _=>k l) (fun _=>z) (fun _=>z) (fun _ _ _=>z) z (fun _ _=>z) z (fun _=>z) (fun _=>z)
def B3V (e:Dl)(x:Operand)(z:Bool)(k:Value→Bool):Bool :=
 Vr e x fun a=>B5m a z fun n=>k (.int .i64 (.ofNat n))
def B3W (e:Dl)(x:Operand)(i:Nat)(z:Bool)(k:Value→Bool):Bool :=
 Vr e x fun a=>B5j a z fun l=>B1S l i z k
def A3h (h:CH)(b:Nat)(o:Lc)(k:CH→Bool):Bool :=
 fN (Nat.succ h.clk) fun c=>Vq (o,c) 16 h.t b fun t=>@Bool.rec (fun _=>Bool) (k ⟨h.n,c,b,t,h.g⟩) (k ⟨h.n,c,h.w,t,h.g⟩) (Nat.ble h.w b)
def exK (kd:Kd)(z y:Bool):Bool:=Kd.rec z y (fun _ _ _=>z) kd
def A4H (x:Value)(z:Bool)(k1:Bool)(kN:List Value→Bool):Bool :=
 Value.casesOn (motive_1:=fun _=>Bool) x (fun _=>k1) (fun d n=>k1) (fun _ _=>k1) (fun _ _ _=>k1) (fun _=>k1) (fun _=>k1) (fun a l _=>k1) (fun _=>k1) (fun _=>k1) (fun _ _ _=>k1) k1 (fun _ _=>k1) k1 (fun a=>Array.rec (fun l=>kN l) a) (fun _=>z)
def rSt (e:Dl)(h:CH)(s:Nat)(a x:Operand)(z:Bool)(k:Value→CH→Bool):Bool :=
 Vr e a fun a=>Vr e x fun x=>A4C a z fun b o=>A9B h b z fun c T kd=>exK kd z
  (A4H x z (@Bool.rec (fun _=>Bool) z (A3g x c o fun c=>A3h h b (.cells c T .ex) fun h=>k undef h) (Nat.beq s 1))
   fun l=>@Bool.rec (fun _=>Bool) z (A9A l o c fun c=>A3h h b (.cells c T .ex) fun h=>k undef h) (Nat.beq l.length s))
def B1V (h:CH)(o:Lc)(k:CH→Bool):Bool :=
 fN (Nat.succ h.n) fun n=>fN (Nat.succ h.clk) fun c=>Vq (o,c) 16 h.t h.n fun t=>k ⟨n,c,h.w,t,h.g⟩
theorem A5W (h:CH)(o:Lc)(k:CH→Bool):B1V h o k=Yy h o k:=by
 unfold B1V Yy
 rw[Uu,Uu,Ed,Ed,V0]
def A5X (e:Dl)(c a b:Operand)(z:Bool)(k:Value→Bool):Bool :=
 Vr e c fun v=>Value.casesOn (motive_1:=fun _=>Bool) v (fun t=>@Bool.rec (fun _=>Bool) (Vr e b k) (Vr e a k) t) (fun d n=>z) (fun _ _=>z) (fun _ _ _=>z) (fun _=>z) (fun _=>z) (fun _ _ _=>z) (fun _=>z) (fun _=>z) (fun _ _ _=>z) z (fun _ _=>z) z (fun _=>z) (fun _=>z)
theorem A9E {e:Dl}{c a b:Operand}{z:Bool}{k:Value→Bool}(q:A5X e c a b z k=true):z=true∨∃ t,ev (Fm e) c=.bool t∧k (if t=true then ev (Fm e) a else ev (Fm e) b)=true:=by
 unfold A5X at q
 rw[Gz,Gz,Gz]at q
 cases hv:ev (Fm e) c with
 | bool t =>
  rw[hv]at q
  cases t with
  | true=>exact .inr ⟨true,rfl,q⟩
  | false=>exact .inr ⟨false,rfl,q⟩
 | _=>rw[hv]at q;exact .inl q
def Xa (h:CH)(t:TypeId)(c:List Value)(k:Value→CH→Bool):Bool:=B1V h (.cells c t .ex) fun h1=>k (.pointer (some ⟨h.n,0,none⟩)) h1
def B3X (e:Dl)(h:CH)(t:TypeId)(x:Operand)(z:Bool)(k:Value→CH→Bool):Bool :=
 Vr e x fun x=>A4H x z (Xa h t [x] k) fun l=>Xa h t l k
def B3Y (e:Dl)(x:Operand)(z:Bool)(k:Value→Bool):Bool:=Vr e x fun a=>A4C a z fun b o=>k (.pointer (some ⟨b,o,none⟩))
def A9F (e:Dl)(f:Operand)(args:List Operand)(h:CH)(k:Value→CH→Bool):Bool :=
 Vr e f fun f=>B3R e args fun args=>A3f call f args h k
def opR (e:Dl)(o:Oper)(h:CH)(k:Value→CH→Bool):Bool :=
 XOp.rec (motive:=fun _=>Bool) (fun x=>Vr e x fun v=>k v h) (fun op x y=>B3T e op x y (Ql P call e o h k) fun v=>k v h) (fun a=>A4E e h a (Ql P call e o h k) fun v=>k v h) (fun s a=>A4F e h s a (Ql P call e o h k) fun v=>k v h)
  (fun off x=>A4G e off x (Ql P call e o h k) fun v=>k v h) (fun len s x ix=>A9C e len s x ix (Ql P call e o h k) fun v=>k v h) (fun s x ix=>A9D e s x ix (Ql P call e o h k) fun v=>k v h) (fun x=>B3V e x (Ql P call e o h k) fun v=>k v h)
  (fun x i=>B3W e x i (Ql P call e o h k) fun v=>k v h) (fun s a x=>rSt e h s a x (Ql P call e o h k) k) (fun f args=>A9F call e f args h k)
  (fun c a b=>A5X e c a b (Ql P call e o h k) fun v=>k v h) (fun t c=>Xa h t c k) (fun t x=>B3X e h t x (Ql P call e o h k) k) (fun x=>B3Y e x (Ql P call e o h k) fun v=>k v h)
  (Ql P call e o h k) (cop P o.op)
end
theorem A1J {h:CH}{b:Nat}{z:Bool}{k:List Value→TypeId→Kd→Bool}(q:A9B h b z k=true):z=true∨∃ c T kd st,h.t.get b=some (.cells c T kd,st)∧k c T kd=true:=by
 unfold A9B at q
 rw[A1H]at q
 split at q
 ·rename_i p hp
  obtain⟨o,st⟩:=p
  cases o with
  | cells c T kd=>exact .inr ⟨c,T,kd,st,hp,q⟩
  | _=>exact .inl q
 ·exact .inl q
theorem Ls {b z:Bool}{t:Bool}(q:(@Bool.rec (fun _=>Bool) z t b:Bool)=true):z=true∨(b=true∧t=true):=by
 cases b
 ·exact .inl q
 ·exact .inr ⟨rfl,q⟩
theorem Z9 {h:CH}{b:Nat}{c:List Value}{T:TypeId}{kd:Kd}{st:Nat}(hb:h.t.get b=some (.cells c T kd,st))(hl:Kd.live kd=true):h.toA.rd b=some c:=by
 have hg:h.toA.get b=.cells c T kd:=by rw[Kr,Ih hb];rfl
 unfold Aa.rd
 rw[hg]
 cases kd with
 | gr g e l=>have:l=true:=hl;subst this;rfl
 | _=>rfl
theorem A7y {h:CH}{b:Nat}{o:Lc}{k:CH→Bool}(e:A3h h b o k=true):∃ h',A4v h b o h'∧k h'=true:=by
 unfold A3h at e
 rw[Uu]at e
 obtain⟨t,h1,h2⟩:=Z7 e
 have evo:∀ w,w≤h.w→w≤b→Yx h ⟨h.n,h.clk+1,w,t,h.g⟩:=by
  intro w hw hb
  refine⟨Nat.le_succ _,Nat.le_refl _,hw,fun j o' s e hs=>?_,fun j e=>?_,fun j hj=>?_⟩
  ·rw[h1]at e
   by_cases hj:j=b
   ·rw[if_pos hj]at e;cases e;omega
   ·rwa [if_neg hj]at e
  ·rw[h1]at e
   by_cases hj:j=b
   ·rw[if_pos hj]at e;cases e
   ·rwa [if_neg hj]at e
  ·have hj:j<w:=hj
   show t.get j=_
   rw[h1,if_neg (by omega)]
 cases hw:Nat.ble h.w b with
 | true =>
  rw[hw]at h2
  exact⟨⟨h.n,h.clk+1,h.w,t,h.g⟩,⟨h1,rfl,rfl,evo _ (Nat.le_refl _) (Nat.le_of_ble_eq_true hw)⟩,h2⟩
 | false =>
  rw[hw]at h2
  have:¬ h.w≤b:=fun hh=>by rw[Nat.ble_eq_true_of_le hh]at hw;cases hw
  exact⟨⟨h.n,h.clk+1,b,t,h.g⟩,⟨h1,rfl,rfl,evo _ (by omega) (Nat.le_refl _)⟩,h2⟩
theorem A5Y {i:Int}{len:Nat}{z:Bool}{k:Nat→Bool}(q:B3U i len z k=true):z=true∨∃ n:Nat,i=n∧n<len∧k n=true:=by
 cases i with
 | ofNat n =>
  rcases Ls q with q|⟨q1,q2⟩
  ·exact .inl q
  ·exact .inr ⟨n,rfl,by simpa [Nat.blt_eq] using q1,q2⟩
 | negSucc n=>exact .inl q
theorem B1W {v:Value}{z:Bool}{k:Nat→Bool}(h:B5m v z k=true):z=true∨∃ a n c,v=.slice a n c∧k n=true:=by
 cases v <;> first|exact .inl h|exact .inr ⟨_,_,_,rfl,h⟩
theorem A9G (hC:Pa C call){e:Dl}{o:Oper}{h:CH}{k:Value→CH→Bool}(g:Jt h)(q:opR P call e o h k=true) :
  ∃ v h',We P C (Fm e) o h.toA v h'.toA∧Nx h h'∧k v h'=true:=by
 have slow:Ql P call e o h k=true→∃ v h',We P C (Fm e) o h.toA v h'.toA∧Nx h h'∧k v h'=true:=A9v P hC g
 obtain⟨dst,op,ty,pos,aft,gd⟩:=o
 have fin:∀ {v:Value}{h':CH},(∀ c,op=.call c→∃ b,c.callee=.builtin b)→Ou P (Fm e) ⟨dst,op,ty,pos,aft,gd⟩ h.toA=some (v,h'.toA)→We P C (Fm e) ⟨dst,op,ty,pos,aft,gd⟩ h.toA v h'.toA:=by
  intro v h' hc ho
  unfold We
  split
  ·rename_i f args ts he
   simp only at he
   obtain⟨b,e⟩:=hc _ he
   cases e
  ·rename_i f args ts he
   simp only at he
   obtain⟨b,e⟩:=hc _ he
   cases e
  ·exact ho
 have ok:=B3S P op
 unfold opR at q
 simp only at q
 cases hx:cop P op with
 | slow=>rw[hx]at q;exact slow q
 | mov x =>
  rw[hx]at q ok
  have q9:Vr e x (fun v=>k v h)=true:=q
  rw[Gz]at q9
  rcases ok with rfl|rfl
  ·exact⟨_,h,fin (by rintro c hc;cases hc) rfl,Nx.refl g,q9⟩
  ·exact⟨_,h,fin (by rintro c hc;cases hc) rfl,Nx.refl g,q9⟩
 | bin b x y =>
  rw[hx]at q ok
  obtain⟨t,yt,rfl⟩:=ok
  have q:B3T e b x y (Ql P call e ⟨dst,.binOp b t x y yt,ty,pos,aft,gd⟩ h k) (fun v=>k v h)=true:=q
  unfold B3T at q
  rw[Gz,Gz]at q
  rcases V1 q with q|⟨d,a,ha,q⟩
  ·exact slow q
  rcases V1 q with q|⟨d',a',ha',q⟩
  ·exact slow q
  rcases Ls q with q|⟨hd,q⟩
  ·exact slow q
  rcases B1U q with q|⟨v,hv,q9⟩
  ·exact slow q
  have:=Rz hd
  subst this
  refine⟨v,h,fin (by rintro c hc;cases hc) ?_,Nx.refl g,q9⟩
  rw[A5S,ha,ha',W6 hv];rfl
 | load1 a =>
  rw[hx]at q ok
  obtain⟨t,rfl,h1⟩:=ok
  have q:A4E e h a (Ql P call e ⟨dst,.load t a,ty,pos,aft,gd⟩ h k) (fun v=>k v h)=true:=q
  unfold A4E at q
  rw[Gz]at q
  rcases P7 q with q|⟨b,o,ha,q⟩
  ·exact slow q
  rcases A1J q with q|⟨c,T,kd,st,hb,q⟩
  ·exact slow q
  rcases Ls q with q|⟨hl,q⟩
  ·exact slow q
  rw[A1I]at q
  split at q
  ·rename_i v hv
   refine⟨v,h,fin (by rintro c hc;cases hc) ?_,Nx.refl g,q⟩
   show (Ei P t h.toA (ev (Fm e) a)).map (·,h.toA)=_
   rw[ha]
   simp only[Ei,Z9 hb hl,h1,hv]
   rfl
  ·exact slow q
 | loadN s a =>
  rw[hx]at q ok
  obtain⟨t,rfl,h1,h2⟩:=ok
  have q:A4F e h s a (Ql P call e ⟨dst,.load t a,ty,pos,aft,gd⟩ h k) (fun v=>k v h)=true:=q
  unfold A4F at q
  rw[Gz]at q
  rcases P7 q with q|⟨b,o,ha,q⟩
  ·exact slow q
  rcases A1J q with q|⟨c,T,kd,st,hb,q⟩
  ·exact slow q
  rcases Ls q with q|⟨hl,q⟩
  ·exact slow q
  obtain⟨h3,q⟩:=W9 q
  obtain⟨h4,q⟩:=W8 q
  refine⟨_,h,fin (by rintro c hc;cases hc) ?_,Nx.refl g,q⟩
  show (Ei P t h.toA (ev (Fm e) a)).map (·,h.toA)=_
  rw[ha]
  simp only[Ei,Z9 hb hl,h1,h2]
  rw[if_pos (by rw[List.length_drop]at h4;omega)]
  rfl
 | faddr off x =>
  rw[hx]at q ok
  obtain⟨t,f,fs,fd,sz,rfl,h1,h2,h3,h4,rfl⟩:=ok
  have q:A4G e fd.offset x (Ql P call e ⟨dst,.fieldAddr t x f,ty,pos,aft,gd⟩ h k) (fun v=>k v h)=true:=q
  unfold A4G at q
  rw[Gz]at q
  rcases P7 q with q|⟨b,o,ha,q⟩
  ·exact slow q
  rw[Uu]at q
  refine⟨_,h,fin (by rintro c hc;cases hc) ?_,Nx.refl g,q⟩
  show (B0 P t (ev (Fm e) x) f).map (·,h.toA)=_
  rw[ha]
  simp only[B0,h1,h2,h3,if_neg h4]
  rfl
 | iarr len s x ix =>
  rw[hx]at q ok
  obtain⟨t,el,rfl,h1,h2⟩:=ok
  have q:A9C e len s x ix (Ql P call e ⟨dst,.indexAddr t x ix,ty,pos,aft,gd⟩ h k) (fun v=>k v h)=true:=q
  unfold A9C at q
  rw[Gz,Gz]at q
  rcases P7 q with q|⟨b,o,ha,q⟩
  ·exact slow q
  rcases V1 q with q|⟨d,i,hi,q⟩
  ·exact slow q
  rcases A5Y q with q|⟨n,rfl,hn,q⟩
  ·exact slow q
  rw[Uu]at q
  refine⟨_,h,fin (by rintro c hc;cases hc) ?_,Nx.refl g,q⟩
  show (Ca P t (ev (Fm e) x) (ev (Fm e) ix)).map (·,h.toA)=_
  rw[ha,hi]
  simp only[Ca,h1,h2]
  rw[if_pos (by omega)]
  rfl
 | islc s x ix =>
  rw[hx]at q ok
  obtain⟨t,el,rfl,h1,h2⟩:=ok
  have q:A9D e s x ix (Ql P call e ⟨dst,.indexAddr t x ix,ty,pos,aft,gd⟩ h k) (fun v=>k v h)=true:=q
  unfold A9D at q
  rw[Gz,Gz]at q
  rcases B1Q q with q|⟨b,o,len,c,ha,q⟩
  ·exact slow q
  rcases V1 q with q|⟨d,i,hi,q⟩
  ·exact slow q
  rcases A5Y q with q|⟨n,rfl,hn,q⟩
  ·exact slow q
  rw[Uu]at q
  refine⟨_,h,fin (by rintro c hc;cases hc) ?_,Nx.refl g,q⟩
  show (Ca P t (ev (Fm e) x) (ev (Fm e) ix)).map (·,h.toA)=_
  rw[ha,hi]
  simp only[Ca,h1,h2]
  rw[if_pos (by omega)]
  rfl
 | lenS x =>
  rw[hx]at q ok
  obtain⟨args,ts,t,el,rfl,h1,h2,h3⟩:=ok
  have q:B3V e x (Ql P call e ⟨dst,.call ⟨.builtin .len,args,ts⟩,ty,pos,aft,gd⟩ h k) (fun v=>k v h)=true:=q
  unfold B3V at q
  rw[Gz]at q
  rcases B1W q with q|⟨a,n,c,ha,q⟩
  ·exact slow q
  refine⟨_,h,fin (by rintro c hc;cases hc;exact⟨_,rfl⟩) ?_,Nx.refl g,q⟩
  simp only[Ou,h1,h2,List.map_cons,List.map_nil,ha,A32,h3]
  rfl
 | ext x i =>
  rw[hx]at q ok
  obtain rfl:=ok
  have q:B3W e x i (Ql P call e ⟨dst,.extract x i,ty,pos,aft,gd⟩ h k) (fun v=>k v h)=true:=q
  unfold B3W at q
  rw[Gz]at q
  rcases B1R q with q|⟨l,ha,q⟩
  ·exact slow q
  rw[A1I]at q
  split at q
  ·rename_i v hv
   refine⟨v,h,fin (by rintro c hc;cases hc) ?_,Nx.refl g,q⟩
   show (Ly (ev (Fm e) x) i).map (·,h.toA)=_
   rw[ha,Dh,hv]
   rfl
  ·exact slow q
 | st s a x =>
  rw[hx]at q ok
  obtain⟨t,rfl,h1⟩:=ok
  have q:rSt e h s a x (Ql P call e ⟨dst,.store t a x,ty,pos,aft,gd⟩ h k) k=true:=q
  unfold rSt at q
  rw[Gz,Gz]at q
  rcases P7 q with q|⟨b,o,ha,q⟩
  ·exact slow q
  rcases A1J q with q|⟨c,T,kd,st,hb,q⟩
  ·exact slow q
  have hg:h.toA.get b=.cells c T kd:=by rw[Kr,Ih hb];rfl
  cases kd with
  | ro=>exact slow q
  | gr _ _ _=>exact slow q
  | ex =>
   have one:∀ x:Value,Eo x=true→x.cells = #[x]→ev (Fm e) ‹Operand› = x→True:=fun _ _ _ _=>trivial
   have fin1:∀ l:List Value,Eo (ev (Fm e) x)=true→(ev (Fm e) x).cells=⟨l⟩→l.length=s→∀ {c':List Value},o+l.length≤c.length→c'=splice c o l→A3h h b (.cells c' T .ex) (fun h=>k undef h)=true →
     ∃ v h',We P C (Fm e) ⟨dst,.store t a x,ty,pos,aft,gd⟩ h.toA v h'.toA∧Nx h h'∧k v h'=true:=by
    rintro l n1 n2 n3 c' n4 rfl q
    obtain⟨h',s1,q⟩:=A7y q
    refine⟨undef,h',fin (by rintro c hc;cases hc) ?_,⟨s1.evo,s1.good g hb Tl (by intro _ _ _ _ he;cases he)⟩,q⟩
    show (D4 P t h.toA (ev (Fm e) a) (ev (Fm e) x)).map (undef,·)=_
    rw[ha]
    simp only[D4,hg,h1]
    rw[if_pos ⟨n1,by rw[n2];exact n3,by omega,rfl⟩,n2,s1.toA]
    rfl
   have hs1:∀ {v:Value},ev (Fm e) x=v→Eo v=true→v.cells = #[v]→(@Bool.rec (fun _=>Bool) (Ql P call e ⟨dst,.store t a x,ty,pos,aft,gd⟩ h k) (A3g v c o fun c=>A3h h b (.cells c T .ex) fun h=>k undef h) (Nat.beq s 1):Bool)=true →
     ∃ v h',We P C (Fm e) ⟨dst,.store t a x,ty,pos,aft,gd⟩ h.toA v h'.toA∧Nx h h'∧k v h'=true:=by
    intro v hv n1 n2 q
    rcases Ls q with q|⟨p,q⟩
    ·exact slow q
    rw[Lr,decide_eq_true_eq]at p
    obtain⟨q1,q⟩:=W7 q
    exact fin1 [v] (by rw[hv];exact n1) (by rw[hv];exact n2) p.symm (by simp;omega) (A4D q1).symm q
   have q:A4H (ev (Fm e) x) (Ql P call e ⟨dst,.store t a x,ty,pos,aft,gd⟩ h k) (@Bool.rec (fun _=>Bool) (Ql P call e ⟨dst,.store t a x,ty,pos,aft,gd⟩ h k) (A3g (ev (Fm e) x) c o fun c=>A3h h b (.cells c T .ex) fun h=>k undef h) (Nat.beq s 1))
    (fun l=>@Bool.rec (fun _=>Bool) (Ql P call e ⟨dst,.store t a x,ty,pos,aft,gd⟩ h k) (A9A l o c fun c=>A3h h b (.cells c T .ex) fun h=>k undef h) (Nat.beq l.length s))=true:=q
   cases hv:ev (Fm e) x with
   | agg arr =>
    obtain⟨l⟩:=arr
    rw[hv]at q
    rcases Ls q with q|⟨p,q⟩
    ·exact slow q
    rw[Lr,decide_eq_true_eq]at p
    obtain⟨q1,q⟩:=A7x q
    exact fin1 l (by rw[hv];rfl) (by rw[hv];rfl) p q1 rfl q
   | tuple _=>rw[hv]at q;exact slow q
   | _=>rw[hv]at q;exact hs1 hv rfl rfl q
 | pick c a b =>
  rw[hx]at q ok
  obtain rfl:=ok
  have q:A5X e c a b (Ql P call e ⟨dst,.pick c a b,ty,pos,aft,gd⟩ h k) (fun v=>k v h)=true:=q
  rcases A9E q with q|⟨t,ha,q⟩
  ·exact slow q
  refine⟨_,h,fin (by rintro c hc;cases hc) ?_,Nx.refl g,q⟩
  simp only[Ou,ha]
 | alloc t c =>
  rw[hx]at q ok
  obtain⟨rfl,z,h1,h2,rfl⟩:=ok
  have q:B1V h (.cells z.cells.toList t .ex) (fun h1=>k (.pointer (some ⟨h.n,0,none⟩)) h1)=true:=q
  rw[A5W]at q
  obtain⟨h',s,q⟩:=Js g.w q
  refine⟨_,h',fin (by rintro c hc;cases hc) ?_,⟨s.evo,s.good g Tl (by intro _ _ _ _ he;cases he)⟩,q⟩
  show Fd P t h.toA=_
  simp only[Fd,h1,h2,if_true]
  rw[s.toA]
  rfl
 | box t x =>
  rw[hx]at q ok
  obtain rfl:=ok
  have q:B3X e h t x (Ql P call e ⟨dst,.box t x,ty,pos,aft,gd⟩ h k) k=true:=q
  unfold B3X at q
  rw[Gz]at q
  have fin1:∀ l:List Value,Eo (ev (Fm e) x)=true→(ev (Fm e) x).cells=⟨l⟩→Xa h t l k=true→∃ v h',We P C (Fm e) ⟨dst,.box t x,ty,pos,aft,gd⟩ h.toA v h'.toA∧Nx h h'∧k v h'=true:=by
   intro l n1 n2 q
   unfold Xa at q
   rw[A5W]at q
   obtain⟨h',s,q⟩:=Js g.w q
   refine⟨_,h',fin (by rintro c hc;cases hc) ?_,⟨s.evo,s.good g Tl (by intro _ _ _ _ he;cases he)⟩,q⟩
   show Ym t h.toA (ev (Fm e) x)=_
   simp only[Ym,n1,if_true,n2]
   rw[s.toA]
   rfl
  cases hv:ev (Fm e) x with
  | agg arr =>
   obtain⟨l⟩:=arr
   rw[hv]at q
   exact fin1 l (by rw[hv];rfl) (by rw[hv];rfl) q
  | tuple _=>rw[hv]at q;exact slow q
  | _=>rw[hv]at q;exact fin1 [_] (by rw[hv];rfl) (by rw[hv];rfl) q
 | nilc x =>
  rw[hx]at q ok
  obtain rfl:=ok
  have q:B3Y e x (Ql P call e ⟨dst,.nilCheck x,ty,pos,aft,gd⟩ h k) (fun v=>k v h)=true:=q
  unfold B3Y at q
  rw[Gz]at q
  rcases P7 q with q|⟨b,o,ha,q⟩
  ·exact slow q
  refine⟨_,h,fin (by rintro c hc;cases hc) ?_,Nx.refl g,q⟩
  show (Kc (ev (Fm e) x)).map (·,h.toA)=_
  rw[ha]
  rfl
 | call f args =>
  rw[hx]at q ok
  obtain⟨as,ts,rfl,rfl⟩:=ok
  have q:A9F call e f as.toList h k=true:=q
  unfold A9F at q
  rw[Gz,A5T]at q
  obtain⟨v,h',a,b,c⟩:=Q3 hC g q
  refine⟨v,h', ?_,b,c⟩
  show Gj C _ _ _ _ _
  have:as.map (ev (Fm e))=(as.toList.map (ev (Fm e))).toArray:=by rw[List.map_toArray]
  rw[this]
  exact a
end
noncomputable section
variable (P:Program)
def A3i (d:Option Tmp)(v:Value)(e:Dl)(k:Dl→Bool):Bool:=Option.rec (motive:=fun _=>Bool) (k e) (fun t=>Vq v 9 e t k) d
theorem Xb {d:Option Tmp}{v:Value}{e:Dl}{k:Dl→Bool}(h:A3i d v e k=true):∃ e',Fm e'=(Fm e).set d v∧k e'=true:=by
 cases d with
 | none=>exact⟨e,rfl,h⟩
 | some t =>
  obtain⟨e',h1,h2⟩:=Z7 (show Vq v 9 e t k=true from h)
  exact⟨e',A1B h1,h2⟩
def A0a (call:Mp)(ops:Array Oper)(o:Oper)(e:Dl)(h:CH)(k:Dl→CH→Bool):Bool :=
 Option.rec (motive:=fun _=>Bool) (opR P call e o h fun v h=>A3i o.dst v e fun e=>k e h)
  (fun _=>@Bool.rec (fun _=>Bool) (A3i o.dst undef e fun e=>k e h) (opR P call e o h fun v h=>A3i o.dst v e fun e=>k e h) (Region.wanted o (Dg ops (Fm e)))) o.guard
def B1X (call:Mp)(ops:Array Oper)(os:List Oper):Dl→CH→(Dl→CH→Bool)→Bool :=
 List.rec (motive:=fun _=>Dl→CH→(Dl→CH→Bool)→Bool) (fun e h k=>k e h) (fun o _ ih e h k=>A0a P call ops o e h fun e h=>ih e h k) os
def okR (ops:Array Oper)(i:Nat)(h h':CH):List (Nat×Nat)→Bool
 | []=>true
 | r :: rs=>(Gh ops r.1 i || same h h' r.2) && okR ops i h h' rs
def okA (ops:Array Oper)(i b:Nat):List (Nat×CH×CH)→Bool
 | []=>true
 | a :: as=>(Gh ops a.1 i || same a.2.1 a.2.2 b) && okA ops i b as
def okO (ops:Array Oper)(i:Nat)(o:Option Nat)(as:List (Nat×CH×CH)):Bool:=match o with|some b=>okA ops i b as|none=>true
def A0b (call:Mp)(ops:Array Oper):List Oper→Nat→List (Nat×Nat)→List (Nat×CH×CH)→Dl→CH→(Dl→CH→Bool)→Bool
 | [],_,_,_,e,h,k=>k e h
 | o :: os,i,rs,as,e,h,k =>
  match Bw o.op with
  | true=>(match okO ops i (tch ops (Fm e) h.toA o) as with
   | true=>A0a P call ops o e h fun e1 h1=>A0b call ops os (Nat.succ i) (O7 i (tch ops (Fm e) h.toA o) rs) as e1 h1 k
   | false=>false)
  | false=>A0a P call ops o e h fun e1 h1=>(match okR ops i h h1 rs with
   | true=>A0b call ops os (Nat.succ i) rs ((i,h,h1) :: as) e1 h1 k
   | false=>false)
variable {C:Bk} {call:Mp}
theorem Q4 (hC:Pa C call){ops:Array Oper}{o:Oper}{e:Dl}{h:CH}{k:Dl→CH→Bool}(g:Jt h)(q:A0a P call ops o e h k=true) :
  ∃ e' h',Gk P C ops o (Fm e) h.toA (Fm e') h'.toA∧Nx h h'∧k e' h'=true:=by
 have yes:Region.wanted o (Dg ops (Fm e))=true→opR P call e o h (fun v h=>A3i o.dst v e fun e=>k e h)=true→∃ e' h',Gk P C ops o (Fm e) h.toA (Fm e') h'.toA∧Nx h h'∧k e' h'=true:=by
  intro hw q
  obtain⟨v,h',a,b,q⟩:=A9G P hC g q
  obtain⟨e',c,q⟩:=Xb q
  exact⟨e',h',.inl ⟨hw,v,a,c⟩,b,q⟩
 unfold A0a at q
 cases hg:o.guard with
 | none =>
  rw[hg]at q
  exact yes (by simp[Region.wanted,hg]) q
 | some gg =>
  rw[hg]at q
  cases hw:Region.wanted o (Dg ops (Fm e)) with
  | true =>
   simp only[hw]at q
   exact yes hw q
  | false =>
   simp only[hw]at q
   obtain⟨e',c,q⟩:=Xb q
   exact⟨e',h,.inr ⟨hw,c,rfl⟩,Nx.refl g,q⟩
theorem A0c (hC:Pa C call){ops:Array Oper}:∀ {os:List Oper}{e:Dl}{h:CH}{k:Dl→CH→Bool},Jt h→B1X P call ops os e h k=true →
  ∃ e' h',K6 P C ops os (Fm e) h.toA (Fm e') h'.toA∧Nx h h'∧k e' h'=true
 | [],e,h,k,g,q=>⟨e,h,⟨rfl,rfl⟩,Nx.refl g,q⟩
 | o :: os,e,h,k,g,q=>by
  have q:A0a P call ops o e h (fun e h=>B1X P call ops os e h k)=true:=q
  obtain⟨e1,h1,a,b,q⟩:=Q4 P hC g q
  obtain⟨e2,h2,c,d,q⟩:=A0c hC b.2 q
  exact⟨e2,h2,⟨_,_,a,c⟩,⟨b.1.trans d.1,d.2⟩,q⟩
theorem A3j {ops:Array Oper}{i:Nat}{h h':CH}(k:Yx h h'):∀ {rs:List (Nat×Nat)},okR ops i h h' rs=true→O6 ops i h.toA h'.toA rs
 | [],_=>trivial
 | r :: rs,q=>by
  simp only[okR,Bool.and_eq_true,Bool.or_eq_true]at q
  exact⟨q.1.imp id (Z4 k),A3j k q.2⟩
def asA (as:List (Nat×CH×CH)):List (Nat×Aa×Aa):=as.map fun a=>(a.1,a.2.1.toA,a.2.2.toA)
theorem A3k {ops:Array Oper}{i b:Nat}:∀ {as:List (Nat×CH×CH)},(∀ a,a∈as→Yx a.2.1 a.2.2)→okA ops i b as=true→Vk ops i b (asA as)
 | [],_,_=>trivial
 | a :: as,hE,q=>by
  simp only[okA,Bool.and_eq_true,Bool.or_eq_true]at q
  exact⟨q.1.imp id (Z4 (hE a (List.mem_cons_self ..))),A3k (fun a h=>hE a (List.mem_cons_of_mem _ h)) q.2⟩
theorem A0d {ops:Array Oper}{o:Oper}{e e':Bi}{H H':Aa}{K:Bi→Aa→Prop}(h:Gk P C ops o e H e' H')(k:K e' H'):WO P C ops [o] K e H:=⟨e',H',⟨e',H',h,rfl,rfl⟩,k⟩
theorem Q5 (hC:Pa C call){ops:Array Oper}{h0:CH}:∀ {os:List Oper}{i:Nat}{rs:List (Nat×Nat)}{as:List (Nat×CH×CH)}{e:Dl}{h:CH}{k:Dl→CH→Bool},Jt h→Yx h0 h →
  (∀ a,a∈as→Yx a.2.1 a.2.2)→A0b P call ops os i rs as e h k=true →
  WD P C ops os i rs (asA as) (fun E H=>∃ e' h',E=Fm e'∧H=h'.toA∧Nx h0 h'∧k e' h'=true) (Fm e) h.toA
 | [],i,rs,as,e,h,k,g,he,ha,q=>⟨e,h,rfl,rfl,⟨he,g⟩,q⟩
 | o :: os,i,rs,as,e,h,k,g,he,ha,q=>by
  rw[A0b]at q
  rw[WD]
  split at q
  ·rename_i hs
   rw[if_pos hs]
   split at q
   rotate_left
   ·cases q
   rename_i ho
   obtain⟨e1,h1,a,b,q⟩:=Q4 P hC g q
   refine⟨?_,A0d P a (Q5 hC b.2 (he.trans b.1) ha q)⟩
   unfold okO at ho
   unfold Mh
   cases htc:tch ops (Fm e) h.toA o with
   | none=>trivial
   | some x=>rw[htc]at ho;exact A3k ha ho
  ·rename_i hs
   rw[if_neg (by rw[hs];simp)]
   obtain⟨e1,h1,a,b,q⟩:=Q4 P hC g q
   split at q
   rotate_left
   ·cases q
   rename_i ho
   refine A0d P a ⟨A3j b.1 ho, ?_⟩
   refine Q5 (as:=(i,h,h1) :: as) hC b.2 (he.trans b.1) (fun a h=>?_) q
   rcases List.mem_cons.1 h with rfl|h
   ·exact b.1
   ·exact ha a h
def A5Z (body:Dl→CH→(Ex→Dl→CH→Bool)→Bool)(n:Nat):Dl→CH→(Ex→Dl→CH→Bool)→Bool :=
 Nat.rec (motive:=fun _=>Dl→CH→(Ex→Dl→CH→Bool)→Bool) (fun _ _ _=>false)
  (fun _ ih e h k=>body e h fun x e h=>Ex.rec (motive:=fun _=>Bool) (ih e h k) (fun i=>k (.exit i) e h) (k .ret e h) x) n
def B3Z:Option Code→Option Ex
 | none=>some .normal
 | some (.exit i)=>some (.exit i)
 | some .ret=>some .ret
 | _=>none
theorem A7z {p:Option Code}{x:Ex}(h:B3Z p=some x):p=x.jump:=by
 unfold B3Z at h
 split at h
 all_goals(cases h;try rfl)
def busy:LoopState→Bool
 | .busy=>true
 | _=>false
def A50 (e:Dl)(c:Operand)(a b:Bool):Bool :=
 Vr e c fun v=>Value.casesOn (motive_1:=fun _=>Bool) v (fun t=>@Bool.rec (fun _=>Bool) b a t) (fun d n=>false) (fun _ _=>false) (fun _ _ _=>false) (fun _=>false) (fun _=>false) (fun _ _ _=>false) (fun _=>false) (fun _=>false) (fun _ _ _=>false) false (fun _ _=>false) false (fun _=>false) (fun _=>false)
theorem A4J {e:Dl}{c:Operand}{a b:Bool}(q:A50 e c a b=true):(ev (Fm e) c=.bool true∧a=true)∨(ev (Fm e) c=.bool false∧b=true):=by
 unfold A50 at q
 rw[Gz]at q
 cases hv:ev (Fm e) c with
 | bool t=>rw[hv]at q;cases t with
  | true=>exact .inl ⟨rfl,q⟩
  | false=>exact .inr ⟨rfl,q⟩
 | _=>rw[hv]at q;cases q
def A4K (call:Mp)(nt:Nat)(f:Operand)(ps:Array Tmp)(asg body:Code)(e:Dl)(h:CH)(k:Ex→Dl→CH→Bool):Bool :=
 Yy h (.loop nt e ps asg body .ready none) fun h1 =>
   A3f call (ev (Fm e) f) [.func (.yield h.n) #[] #[]] h1 fun _ h2=>match h2.t.get h.n with
    | some (.loop nt2 e2 ps2 a2 b2 st pend,_)=>(match Nat.beq nt2 nt && !(busy st),B3Z pend with
     | true,some x=>Tj h2 h.n (.loop nt2 e2 ps2 a2 b2 .exhausted pend) fun h3=>k x e h3
     | _,_=>false)
    | _=>false
def Vs (call:Mp)(nt:Nat)(c:Code):Dl→CH→(Ex→Dl→CH→Bool)→Bool :=
 Code.rec (motive:=fun _=>Dl→CH→(Ex→Dl→CH→Bool)→Bool)
  (fun e h k=>k .normal e h)
  (fun _ ops d e h k=>@Bool.rec (fun _=>Bool) (B1X P call ops ops.toList e h fun e h=>k .normal e h) (A0b P call ops ops.toList 0 [] [] e h fun e h=>k .normal e h) d)
  (fun _ _ ra rb e h k=>ra e h fun x e h=>Ex.rec (motive:=fun _=>Bool) (rb e h k) (fun i=>k (.exit i) e h) (k .ret e h) x)
  (fun c _ _ ra rb e h k=>A50 e c (ra e h k) (rb e h k))
  (fun id _ rb e h k=>rb e h fun x e h=>Ex.rec (motive:=fun _=>Bool) (k .normal e h) (fun i=>@Bool.rec (fun _=>Bool) (k (.exit i) e h) (k .normal e h) (Nat.beq i id)) (k .ret e h) x)
  (fun _ rb e h k=>A5Z rb 100000 e h k)
  (fun f ps asg body _ _ e h k=>A4K call nt f ps asg body e h k)
  (fun i e h k=>k (.exit i) e h)
  (fun _ rb e h k=>rb e h k)
  (fun _ e h k=>k .normal e h)
  (fun _ _ _ _=>false)
  (fun e h k=>k .ret e h)
  (fun _ _ _ _=>false) c
theorem Xc {nt:Nat}{b:Code}{body:Dl→CH→(Ex→Dl→CH→Bool)→Bool}(hb:∀ {e h k},Jt h→body e h k=true→∃ x e' h',Gv P C 0 nt b (Fm e) h.toA x (Fm e') h'.toA∧Nx h h'∧k x e' h'=true) :
  ∀ {n:Nat}{e:Dl}{h:CH}{k:Ex→Dl→CH→Bool},Jt h→A5Z body n e h k=true→∃ x e' h',Gv P C 0 nt (.loop b) (Fm e) h.toA x (Fm e') h'.toA∧Nx h h'∧k x e' h'=true
 | 0,e,h,k,g,q=>by cases q
 | n+1,e,h,k,g,q=>by
  have q:body e h (fun x e h=>Ex.rec (motive:=fun _=>Bool) (A5Z body n e h k) (fun i=>k (.exit i) e h) (k .ret e h) x)=true:=q
  obtain⟨x,e1,h1,a,b,q⟩:=hb g q
  cases x with
  | normal =>
   obtain⟨x2,e2,h2,a2,b2,q⟩:=Xc hb b.2 q
   exact⟨x2,e2,h2,.loopN a a2,⟨b.1.trans b2.1,b2.2⟩,q⟩
  | exit i=>exact⟨_,e1,h1,.loopX a (by simp),b,q⟩
  | ret=>exact⟨_,e1,h1,.loopX a (by simp),b,q⟩
theorem P8 (hC:Pa C call){nt:Nat}:∀ {c:Code}{e:Dl}{h:CH}{k:Ex→Dl→CH→Bool},Jt h→Vs P call nt c e h k=true →
  ∃ x e' h',Gv P C 0 nt c (Fm e) h.toA x (Fm e') h'.toA∧Nx h h'∧k x e' h'=true:=by
 intro c
 induction c with
 | skip=>intro e h k g q;exact⟨_,e,h,.skip,Nx.refl g,q⟩
 | label l=>intro e h k g q;exact⟨_,e,h,.label,Nx.refl g,q⟩
 | exit i=>intro e h k g q;exact⟨_,e,h,.exit,Nx.refl g,q⟩
 | ret=>intro e h k g q;exact⟨_,e,h,.ret,Nx.refl g,q⟩
 | goto l=>intro e h k g q;cases q
 | refuse l=>intro e h k g q;cases q
 | scope b ih=>intro e h k g q;have q:Vs P call nt b e h k=true:=q;obtain⟨x,e1,h1,a,b,q⟩:=ih g q;exact⟨x,e1,h1,.scope a,b,q⟩
 | seq a b iha ihb =>
  intro e h k g q
  have q:Vs P call nt a e h (fun x e h=>Ex.rec (motive:=fun _=>Bool) (Vs P call nt b e h k) (fun i=>k (.exit i) e h) (k .ret e h) x)=true:=q
  obtain⟨x,e1,h1,a,b,q⟩:=iha g q
  cases x with
  | normal =>
   obtain⟨x2,e2,h2,a2,b2,q⟩:=ihb b.2 q
   exact⟨x2,e2,h2,.seqN a a2,⟨b.1.trans b2.1,b2.2⟩,q⟩
  | exit i=>exact⟨_,e1,h1,.seqX a (by simp),b,q⟩
  | ret=>exact⟨_,e1,h1,.seqX a (by simp),b,q⟩
 | cond c a b iha ihb =>
  intro e h k g q
  have q:A50 e c (Vs P call nt a e h k) (Vs P call nt b e h k)=true:=q
  rcases A4J q with⟨hc,q⟩|⟨hc,q⟩
  ·obtain⟨x,e1,h1,a,b,q⟩:=iha g q
   exact⟨x,e1,h1,.cond hc (by simpa using a),b,q⟩
  ·obtain⟨x,e1,h1,a,b,q⟩:=ihb g q
   exact⟨x,e1,h1,.cond hc (by simpa using a),b,q⟩
 | block id b ih =>
  intro e h k g q
  have q:Vs P call nt b e h (fun x e h=>Ex.rec (motive:=fun _=>Bool) (k .normal e h) (fun i=>@Bool.rec (fun _=>Bool) (k (.exit i) e h) (k .normal e h) (Nat.beq i id)) (k .ret e h) x)=true:=q
  obtain⟨x,e1,h1,a,b,q2⟩:=ih g q
  clear q
  cases x with
  | normal=>exact⟨_,e1,h1,.blockX a (by simp),b,q2⟩
  | exit i =>
   have q3:@Bool.rec (fun _=>Bool) (k (.exit i) e1 h1) (k .normal e1 h1) (Nat.beq i id)=true:=q2
   clear q2
   by_cases hb:i=id
   ·rw[Lr,decide_eq_true hb]at q3
    subst hb
    exact⟨_,e1,h1,.blockE a,b,q3⟩
   ·rw[Lr,decide_eq_false hb]at q3
    exact⟨_,e1,h1,.blockX a (by simpa using hb),b,q3⟩
  | ret=>exact⟨_,e1,h1,.blockX a (by simp),b,q2⟩
 | loop b ih =>
  intro e h k g q
  have q:A5Z (Vs P call nt b) 100000 e h k=true:=q
  exact Xc P ih g q
 | region id ops d =>
  intro e h k g q
  cases d with
  | false =>
   have q:B1X P call ops ops.toList e h (fun e h=>k .normal e h)=true:=q
   obtain⟨e1,h1,a,b,q⟩:=A0c P hC g q
   exact⟨_,e1,h1,.region a,b,q⟩
  | true =>
   have q:A0b P call ops ops.toList 0 [] [] e h (fun e h=>k .normal e h)=true:=q
   have:=Q5 P hC (h0:=h) g (Yx.refl h) (by simp) q
   obtain⟨E',H',hd,e',h',rfl,rfl,b,q⟩:=A4l (P:=P) (C:=C) ops.toList 0 [] [] (fun _=>Fm e) (fun _=>h.toA) (by simp) (Nat.zero_le _)
    ⟨fun i o hi=>by omega,fun i o b hi=>by omega,fun i o hi=>by omega,fun i j oi oj hi=>by omega⟩ this
   exact⟨_,e',h',.drawn hd,b,q⟩
 | rangeFunc f ps asg body iha ihb =>
  intro e h k g q
  have q:A4K call nt f ps asg body e h k=true:=q
  unfold A4K at q
  obtain⟨h1,s1,q⟩:=Js g.w q
  have g1:=s1.good g (by intro _ _ _ _ _ he;cases he) (by intro _ _ _ _ he;cases he)
  obtain⟨v,h2,a,b,q2⟩:=Q3 hC g1 q
  clear q
  split at q2
  rotate_left
  ·cases q2
  rename_i nt2 e2 ps2 a2 b2 st pend stt hl
  split at q2
  rotate_left
  ·cases q2
  rename_i x hb hx
  obtain⟨h3,s3,q3⟩:=H7 q2
  clear q2
  simp only[Bool.and_eq_true,Lr,decide_eq_true_eq]at hb
  obtain⟨rfl,hb⟩:=hb
  refine⟨x,e,h3, ?_,⟨(s1.evo.trans b.1).trans s3.evo,s3.good b.2 hl (by intro _ _ _ _ _ he;cases he) (by intro _ _ _ _ he;cases he)⟩,q3⟩
  rw[s3.toA]
  rw[s1.toA]at a
  refine Gv.range (v:=v) a (env2:=Fm e2) (ps2:=ps2) (a2:=a2) (b2:=b2) (st:=st) ?_ ?_ (A7z hx)
  ·show h2.obj h.n=_
   rw[Ih hl];rfl
  ·rintro rfl;simp[busy]at hb
abbrev Orc:=FuncId→List Value→Option Value
def A9H (orc:Orc):Prop:=∀ f args v,orc f args=some v→∀ H,OrC P f args.toArray H v H
def isNone:Option Code→Bool
 | none=>true
 | some _=>false
def B1Y (f:FuncId):Option (Func×Code):=match P.funcs[f]? with
 | some fn=>(match fn.body with
  | some c => (match !(fn.name == "runtime.NumGoroutine") && Do 0 fn.ntmps c with | true => some (fn, c) | false => none)
  | none=>none)
 | none=>none
theorem A7A {f : FuncId} {fn : Func} {c : Code} (h : B1Y P f = some (fn, c)) : P.funcs[f]? = some fn ∧ fn.body = some c ∧ (fn.name == "runtime.NumGoroutine") = false ∧ Do 0 fn.ntmps c = true := by
 unfold B1Y at h
 split at h
 ·rename_i fn' e1
  split at h
  ·rename_i c' e2
   split at h
   ·rename_i hc
    simp only[Bool.and_eq_true,Bool.not_eq_true']at hc
    cases h
    exact⟨e1,e2,hc.1,hc.2⟩
   ·cases h
  ·cases h
 ·cases h
def A9I (l:List Value):Nat→Dl→(Dl→Bool)→Bool :=
 List.rec (motive:=fun _=>Nat→Dl→(Dl→Bool)→Bool) (fun _ e k=>k e) (fun v _ ih i e k=>Vq v 9 e i fun e=>ih (Nat.succ i) e k) l
theorem A3l:∀ (l:List Value)(i:Nat)(e:Dl)(k:Dl→Bool),A9I l i e k=W2 l i e k
 | [],_,_,_=>rfl
 | v :: l,i,e,k=>by
  show Vq v 9 e i (fun e=>A9I l (Nat.succ i) e k)=Tr.putK v 9 e i (fun e=>W2 l (Nat.succ i) e k)
  rw[V0]
  congr 1
  funext e
  exact A3l l _ e k
def fV (v:Value):Bool:=Value.casesOn (motive_1:=fun _=>Bool) v (fun _=>true) (fun d n=>true) (fun _ _=>true) (fun _ _ _=>true) (fun _=>true) (fun a=>Option.rec (motive:=fun _=>Bool) true (fun _=>false) a) (fun a _ _=>Option.rec (motive:=fun _=>Bool) true (fun _=>false) a) (fun a=>Option.rec (motive:=fun _=>Bool) true (fun _=>false) a) (fun a=>Option.rec (motive:=fun _=>Bool) true (fun _=>false) a) (fun _ _ _=>false) true (fun _ _=>false) true (fun _=>false) (fun _=>false)
theorem A9J (v:Value):fV v=flat v:=by
 cases v with
 | pointer a=>cases a <;> rfl
 | slice a l c=>cases a <;> rfl
 | map a=>cases a <;> rfl
 | chan a=>cases a <;> rfl
 | _=>rfl
def A7B (p:Value→Bool)(l:List Value):Bool:=List.rec (motive:=fun _=>Bool) true (fun a _ ih=>@Bool.rec (fun _=>Bool) false ih (p a)) l
theorem A1K (p:Value→Bool):∀ l:List Value,A7B p l=l.all p
 | []=>rfl
 | a :: l=>by
  show @Bool.rec (fun _=>Bool) false (A7B p l) (p a)=_
  rw[A1K p l,List.all_cons]
  cases p a <;> rfl
def dfV (v:Value):Bool:=Value.casesOn (motive_1:=fun _=>Bool) v (fun _=>fV v) (fun d n=>fV v) (fun _ _=>fV v) (fun _ _ _=>fV v) (fun _=>fV v) (fun _=>fV v) (fun _ _ _=>fV v) (fun _=>fV v) (fun _=>fV v) (fun _ _ _=>fV v) (fV v) (fun _ _=>fV v) (fV v) (fun a=>Array.rec (motive:=fun _=>Bool) (fun l=>A7B fV l) a) (fun _=>fV v)
theorem A9K (v:Value):dfV v=dflat v:=by
 have e:fV=flat:=funext A9J
 have h1:=A9J v
 cases v with
 | agg a =>
  obtain⟨l⟩:=a
  show A7B fV l=_
  rw[A1K,e]
  simp[dflat]
 | tuple a=>rfl
 | _=>exact h1
def flR (v:Value):Bool:=Value.casesOn (motive_1:=fun _=>Bool) v (fun _=>true) (fun d n=>true) (fun _ _=>true) (fun _ _ _=>true) (fun _=>true) (fun _=>fV v) (fun _ _ _=>fV v) (fun _=>fV v) (fun _=>fV v) (fun _ _ _=>false) true (fun _ _=>false) true (fun _=>dfV v) (fun a=>Array.rec (motive:=fun _=>Bool) (fun l=>A7B dfV l) a)
theorem B30 (v:Value):flR v=flatR v:=by
 have e:dfV=dflat:=funext A9K
 have h1:=A9J v
 have h2:=A9K v
 cases v with
 | agg a=>exact h2
 | tuple a =>
  obtain⟨l⟩:=a
  show A7B dfV l=_
  rw[A1K,e]
  simp[flatR]
 | pointer a=>exact h1
 | slice a l c=>exact h1
 | map a=>exact h1
 | chan a=>exact h1
 | _=>rfl
def A9L (e:Dl)(h:CH)(r:ResultVar)(k:Value→Bool):Bool :=
 ResultVar.rec (motive:=fun _=>Bool) (fun t=>Tr.getK e t (k undef) k) (fun a t=>match Ei P t h.toA (Fm e a) with|some v=>Lb v k|none=>false) r
theorem A4L {e:Dl}{h:CH}{r:ResultVar}{k:Value→Bool}(q:A9L P e h r k=true):∃ v,Gl P (Fm e) h.toA r=some v∧k v=true:=by
 cases r with
 | tmp t =>
  have q:Tr.getK e t (k undef) k=true:=q
  rw[A1H]at q
  refine⟨_,rfl, ?_⟩
  unfold Fm
  revert q
  cases e.get t <;> exact id
 | cell a t =>
  have q:(match Ei P t h.toA (Fm e a) with|some v=>Lb v k|none=>false)=true:=q
  split at q
  ·rename_i v hv
   rw[Kj]at q
   exact⟨v,hv,q⟩
  ·cases q
def A9M (e:Dl)(h:CH)(rs:List ResultVar):(List Value→Bool)→Bool :=
 List.rec (motive:=fun _=>(List Value→Bool)→Bool) (fun k=>k []) (fun r _ ih k=>A9L P e h r fun v=>ih fun l=>k (v :: l)) rs
theorem Xd {e:Dl}{h:CH}:∀ {rs:List ResultVar}{k:List Value→Bool},A9M P e h rs k=true→∃ l,rs.mapM (Gl P (Fm e) h.toA)=some l∧k l=true
 | [],k,q=>⟨[],rfl,q⟩
 | r :: rs,k,q=>by
  have q:A9L P e h r (fun v=>A9M P e h rs fun l=>k (v :: l))=true:=q
  obtain⟨v,h1,q⟩:=A4L P q
  obtain⟨l,h2,q⟩:=Xd q
  exact⟨v :: l,by simp[List.mapM_cons,h1,h2],q⟩
def B31 (fn:Func)(e:Dl)(h:CH)(k:Value→Bool):Bool :=
 A9M P e h fn.results.toList fun l=>match l with|[v]=>k v|vs=>k (.tuple ⟨vs⟩)
theorem A7C {fn:Func}{e:Dl}{h:CH}{k:Value→Bool}(q:B31 P fn e h k=true):∃ v,Er P fn (Fm e) h.toA=some v∧k v=true:=by
 unfold B31 at q
 obtain⟨l,h1,q⟩:=Xd P q
 unfold Er
 rw[h1]
 cases l with
 | nil=>exact⟨_,rfl,q⟩
 | cons a l=>cases l with
  | nil=>exact⟨_,rfl,q⟩
  | cons b l=>exact⟨_,rfl,q⟩
def B1Z (fn:Func)(h:CH)(k:Value→CH→Bool)(e1:Dl)(h1:CH):Bool :=
 B31 P fn e1 h1 fun v=>@Bool.rec (fun _=>Bool) (@Bool.rec (fun _=>Bool) (k v h1) (k v ⟨h1.n,h1.clk,h.w,h1.t,h1.g⟩) (Nat.ble h.w h1.w))
  (@Bool.rec (fun _=>Bool) (@Bool.rec (fun _=>Bool) (k v h1) (k v ⟨h1.n,h1.clk,h.w,h1.t,h1.g⟩) (Nat.ble h.w h1.w)) (k v ⟨h1.n,h.clk,h.w,h.t,h.g⟩) (flR v)) (Nat.ble h.n h1.w)
def A9N (call:Mp)(fn:Func)(c:Code)(args:List Value)(h:CH)(k:Value→CH→Bool):Bool :=
 @Bool.rec (fun _=>Bool) false (A9I args 0 .nil fun e=>Vs P call fn.ntmps c e ⟨h.n,h.clk,h.n,h.t,h.g⟩ fun x e1 h1=>Ex.rec (motive:=fun _=>Bool) (B1Z P fn h k e1 h1) (fun _=>false) (B1Z P fn h k e1 h1) x) (Nat.ble args.length fn.ntmps)
def Xe (orc:Orc):Nat→Mp
 | 0=>fun _ _ _ _=>false
 | n+1=>fun t args h k=>match t with
  | .fn f=>Option.rec (motive:=fun _=>Bool) (Option.rec (motive:=fun _=>Bool) false (fun p=>Prod.rec (motive:=fun _=>Bool) (fun fn c=>A9N P (Xe orc n) fn c args h k) p) (B1Y P f)) (fun v=>Lb v fun v=>k v h) (orc f args)
  | .yield l=>match h.t.get l with
   | some (.loop nt e ps asg body st pend,_) =>
    (match Nat.beq args.length ps.size && ((ps.all fun t=>decide (t<nt)) && (Do 0 nt asg && (Do 0 nt body && (Dr asg && (Dr body && isNone pend))))) with
    | true=>A1C (ps.toList.zip args) e fun e=>Vs P (Xe orc n) nt asg e h fun x e1 h1=>(match x with
     | .normal=>(match h1.t.get l with
      | some (.loop nt1 e1' ps1 a1 b1 .ready pend1,_)=>(match Nat.beq nt1 nt with
       | true=>Tj h1 l (.loop nt1 e1' ps1 a1 b1 .busy pend1) fun h2=>Vs P (Xe orc n) nt body e1 h2 fun x e2 h3=>(match h3.t.get l with
        | some (.loop nt3 e3 ps3 a3 b3 st3 pend3,_)=>(match Nat.beq nt3 nt && isNone pend3 with
         | true=>(match x with
          | .normal=>Tj h3 l (.loop nt3 e3 ps3 a3 b3 .ready none) fun h4=>k (.bool true) h4
          | .exit i=>Tj h3 l (.loop nt3 e3 ps3 a3 b3 .done (some (.exit i))) fun h4=>k (.bool false) h4
          | .ret=>Tj h3 l (.loop nt3 e3 ps3 a3 b3 .done (some .ret)) fun h4=>k (.bool false) h4)
         | false=>false)
        | _=>false)
       | false=>false)
      | _=>false)
     | _=>false)
    | false=>false)
   | _=>false
theorem Jt.w' {h:CH}(g:Jt h){w:Nat}(hw:w≤h.n):Jt ⟨h.n,h.clk,w,h.t,h.g⟩:=⟨g.gr,hw,g.lt,g.mem⟩
theorem Xf {orc:Orc}(hO:A9H P orc):∀ n,Pa (CX P (n+1)) (Xe P orc n)
 | 0=>by intro t args h k g q;cases q
 | n+1=>by
  have ih:=Xf hO n
  intro t args h k g q
  rw[Xe]at q
  cases t with
  | fn f =>
   simp only at q
   cases ho:orc f args with
   | some v =>
    rw[ho]at q
    have q:Lb v (fun v=>k v h)=true:=q
    rw[Kj]at q
    exact⟨v,h,Cl.or (.inl (hO _ _ _ ho _)),Nx.refl g,q⟩
   | none =>
    rw[ho]at q
    cases hp:B1Y P f with
    | none=>rw[hp]at q;cases q
    | some pp =>
    obtain⟨fn,c⟩:=pp
    rw[hp]at q
    have q:A9N P (Xe P orc n) fn c args h k=true:=q
    obtain⟨e1,e2,e4,hok⟩:=A7A P hp
    unfold A9N at q
    rcases Ls q with q|⟨e3,q⟩
    ·cases q
    have e3:=Nat.le_of_ble_eq_true e3
    rw[A3l]at q
    obtain⟨e0,he0,q⟩:=Z3 q
    obtain⟨x,env1,h1,a,b,q⟩:=P8 P ih (g.w' (Nat.le_refl _)) q
    have a:Gv P (CX P (n+1)) 0 fn.ntmps c (Fm e0) h.toA x (Fm env1) h1.toA:=a
    rw[he0]at a
    have hx:x=.normal∨x=.ret:=by
     cases x with
     | normal=>exact .inl rfl
     | exit i=>cases q
     | ret=>exact .inr rfl
    have q:B1Z P fn h k env1 h1=true:=by
     rcases hx with rfl|rfl <;> exact q
    unfold B1Z at q
    obtain⟨v,hv,q⟩:=A7C P q
    have q:(flatR v=true∧h.n≤h1.w∧k v ⟨h1.n,h.clk,h.w,h.t,h.g⟩=true)∨(h.w≤h1.w∧k v ⟨h1.n,h1.clk,h.w,h1.t,h1.g⟩=true)∨(¬ h.w≤h1.w∧k v h1=true):=by
     have two:@Bool.rec (fun _=>Bool) (k v h1) (k v ⟨h1.n,h1.clk,h.w,h1.t,h1.g⟩) (Nat.ble h.w h1.w)=true→(h.w≤h1.w∧k v ⟨h1.n,h1.clk,h.w,h1.t,h1.g⟩=true)∨(¬ h.w≤h1.w∧k v h1=true):=by
      intro q
      cases hw:Nat.ble h.w h1.w with
      | true=>rw[hw]at q;exact .inl ⟨Nat.le_of_ble_eq_true hw,q⟩
      | false=>rw[hw]at q;exact .inr ⟨(fun hh=>by rw[Nat.ble_eq_true_of_le hh]at hw;cases hw),q⟩
     rcases Ls q with q|⟨p1,q⟩
     ·exact .inr (two q)
     rcases Ls q with q|⟨p2,q⟩
     ·exact .inr (two q)
     ·exact .inl ⟨by rw[← B30];exact p2,Nat.le_of_ble_eq_true p1,q⟩
    have hcall:CX P (n+1) (.fn f) args.toArray h.toA v h1.toA:=Cl.fn e1 e2 e4 (by simpa using e3) hok a hx hv
    have hev:=b.1
    have hn:h.n≤h1.n:=hev.n
    have up:∀ w,w≤h.w→w≤h1.w→Nx h ⟨h1.n,h1.clk,w,h1.t,h1.g⟩:=fun w q1 q2=>⟨⟨hev.clk,hn,q1,hev.old,hev.non,fun j hj=>hev.low j (Nat.lt_of_lt_of_le (show j<w from hj) q2)⟩,b.2.w' (Nat.le_trans q2 b.2.w)⟩
    rcases q with⟨hf,hw,q⟩|⟨hw,q⟩|⟨hw,q⟩
    ·refine⟨v,⟨h1.n,h.clk,h.w,h.t,h.g⟩,Cl.or (.inr ⟨hf,⟨fn,c,e1,e2,e4⟩,h1.toA,hcall,hn,fun j hj=>?_,rfl⟩),⟨⟨Nat.le_refl _,hn,Nat.le_refl _,fun _ _ _ e _=>e,fun _ e=>e,fun _ _=>rfl⟩, ?_⟩,q⟩
     ·have:=hev.low j (Nat.lt_of_lt_of_le (show j<h.n from hj) hw)
      show h1.obj j=h.obj j
      have:h1.t.get j=h.t.get j:=this
      simp[CH.obj,this]
     ·exact⟨g.gr,Nat.le_trans g.w hn,fun j p hj=>Nat.lt_of_lt_of_le (g.lt j p hj) hn,g.mem⟩
    ·exact⟨v,⟨h1.n,h1.clk,h.w,h1.t,h1.g⟩,CX.step _ _ _ _ _ _ hcall,up h.w (Nat.le_refl _) hw,q⟩
    ·exact⟨v,h1,CX.step _ _ _ _ _ _ hcall,up h1.w (by omega) (Nat.le_refl _),q⟩
  | yield l =>
   simp only at q
   split at q
   rotate_left
   ·cases q
   rename_i nt e ps asg body st pend st0 hl
   split at q
   rotate_left
   ·cases q
   rename_i hc
   simp only[Bool.and_eq_true,Lr,decide_eq_true_eq]at hc
   obtain⟨c1,c2,c3,c4,c5,c6,c7⟩:=hc
   have hp:pend=none:=by cases pend with|none=>rfl|some _=>simp[isNone]at c7
   subst hp
   obtain⟨e0,he0,q⟩:=Ur q
   obtain⟨x,e1,h1,a,b,q⟩:=P8 P ih g q
   split at q
   rotate_left
   ·cases q
   split at q
   rotate_left
   ·cases q
   rename_i nt1 e1' ps1 a1 b1 pend1 st1 hl1
   split at q
   rotate_left
   ·cases q
   rename_i hn1
   rw[Lr,decide_eq_true_eq]at hn1
   subst hn1
   obtain⟨h2,s2,q⟩:=H7 q
   have g2:=s2.good b.2 hl1 (by intro _ _ _ _ _ he;cases he) (by intro _ _ _ _ he;cases he)
   obtain⟨x2,e2,h3,a2,b2,q⟩:=P8 P ih g2 q
   split at q
   rotate_left
   ·cases q
   rename_i nt3 e3 ps3 a3 b3 st3 pend3 stt3 hl3
   split at q
   rotate_left
   ·cases q
   rename_i hn3
   simp only[Bool.and_eq_true,Lr,decide_eq_true_eq]at hn3
   obtain⟨rfl,hp3⟩:=hn3
   have hp:pend3=none:=by cases pend3 with|none=>rfl|some _=>simp[isNone]at hp3
   subst hp
   have fin:∀ {h4:CH}{o:LoopState},o=(if x2.jump.isNone=true then .ready else .done)→A4v h3 l (.loop nt3 e3 ps3 a3 b3 o x2.jump) h4→k (.bool x2.jump.isNone) h4=true→∃ v h',CX P (n+1+1) (.yield l) args.toArray h.toA v h'.toA∧Nx h h'∧k v h'=true:=by
    rintro h4 o rfl s4 q
    refine⟨_,h4,CX.step _ _ _ _ _ _ ?_,⟨((b.1.trans s2.evo).trans b2.1).trans s4.evo,s4.good b2.2 hl3 (by intro _ _ _ _ _ he;cases he) (by intro _ _ _ _ he;cases he)⟩,q⟩
    rw[s4.toA]
    rw[he0]at a
    refine Cl.round (nt:=nt3) (env:=Fm e) (ps:=ps) (asg:=asg) (body:=body) (st:=st) (pend:=none) (H1:=h1.toA) (H2:=h3.toA) (e1:=Fm e1') (ps1:=ps1) (a1:=a1) (b1:=b1) (pend3:=pend1) (e3:=Fm e3) (ps3:=ps3) (a3:=a3) (b3:=b3) (st3:=st3) (env1:=Fm e1) (env2:=Fm e2) (ex:=x2)
     ?_ (by simpa using c1) c2 c3 c4 c5 c6 ?_ ?_ ?_ ?_
    ·rw[Kr,Ih hl];rfl
    ·simp only[L2];exact a
    ·rw[Kr,Ih hl1];rfl
    ·rw[s2.toA]at a2;exact a2
    ·rw[Kr,Ih hl3];rfl
   cases x2 with
   | normal=>obtain⟨h4,s4,q⟩:=H7 q;exact fin rfl s4 q
   | exit i=>obtain⟨h4,s4,q⟩:=H7 q;exact fin rfl s4 q
   | ret=>obtain⟨h4,s4,q⟩:=H7 q;exact fin rfl s4 q
def B12 (orc:Orc)(n:Nat)(f:FuncId)(args:List Value)(k:Value→Bool):Bool :=
 match P.funcs[f]? with
 | some fn=>(match fn.body with
  | some c=>(match (Nat.ble args.length fn.ntmps && Do 0 fn.ntmps c) with
   | true=>W2 args 0 .nil fun e=>Vs P (Xe P orc n) fn.ntmps c e ⟨0,0,0,.nil,.nil⟩ fun x e1 h1=>(match x with
    | .exit _=>false
    | _=>match Er P fn (Fm e1) h1.toA with
     | some v=>Lb v fun v=>flatR v && k v
     | none=>false)
   | false=>false)
  | none=>false)
 | none=>false
theorem A7D {orc:Orc}(hmix:P.follows .mixedOrders=true)(hO:A9H P orc){n:Nat}{f:FuncId}{args:List Value}{k:Value→Bool}(hfl:(args.all dflat)=true)(q:B12 P orc n f args k=true) :
  ∃ v,k v=true∧flatR v=true∧∀ w,Calls P f args.toArray w fun e w'=>e=.returned v∧Go.RowKit.Below w.heap.size w w':=by
 unfold B12 at q
 split at q
 rotate_left
 ·cases q
 rename_i fn e1
 split at q
 rotate_left
 ·cases q
 rename_i c e2
 split at q
 rotate_left
 ·cases q
 rename_i hc
 simp only[Bool.and_eq_true]at hc
 obtain⟨e3,hok⟩:=hc
 have e3:=Nat.le_of_ble_eq_true e3
 obtain⟨e0,he0,q⟩:=Z3 q
 have g:Jt ⟨0,0,0,.nil,.nil⟩:=⟨(fun b c T g e l h=>by cases h),Nat.le_refl _,(fun b p h=>by cases h),(fun b c T g e s h=>by cases h)⟩
 obtain⟨x,env1,h1,a,b,q⟩:=P8 P (Xf P hO n) g q
 have hx:x=.normal∨x=.ret:=by
  cases x with
  | normal=>exact .inl rfl
  | exit i=>cases q
  | ret=>exact .inr rfl
 have q:(match Er P fn (Fm env1) h1.toA with
     | some v=>Lb v fun v=>flatR v && k v
     | none=>false)=true:=by
  rcases hx with rfl|rfl <;> exact q
 split at q
 rotate_left
 ·cases q
 rename_i v hv
 rw[Kj]at q
 simp only[Bool.and_eq_true]at q
 rw[he0]at a
 refine⟨v,q.2,q.1,fun w=>A4s hmix (n:=n+1) (by simpa using hfl) e1 e2 (by simpa using e3) hok ?_ hx hv q.1 w⟩
 exact a
end
theorem Q6 {P:Program}(hmix:P.follows .mixedOrders=true){f:FuncId}{w:World}{L:List RoB}(hL:∀ r,r∈L→A7i w r){args args':Array Value}(ha:E6 (O9 w L) args args')
  (hc:∃ v H',Cl P (OrC P) 0 (.fn f) args (L5 L) v H'∧v=.bool true∧Fr (L5 L).n [] (L5 L) H') :
  Calls P f args' w fun e w'=>e=.returned (.bool true)∧Go.RowKit.Below w.heap.size w w':=by
 obtain⟨v,H',⟨n,h⟩,rfl,hF⟩:=hc
 have hf:Fz (O9 w L) (L5 L) H':=by
  intro b hb _
  have hb:L.length≤b:=hb
  unfold O9
  rw[List.getElem?_eq_none hb]
  rfl
 cases n with
 | zero=>exact h.elim
 | succ n =>
  rcases h with⟨_,h1,_,_,h2⟩|⟨fn,c,ex,env1,e1,e2,e4,e3,hok,hrun,hex,hres⟩
  ·rw[ha.of_dflat h1]
   exact h2 w
  ·intro cs
   obtain⟨ρ1,w1,v',fr,s1,q1,q2,q3,q4⟩:=A4d hmix (Th hmix OrC.top OrC.sim n) (P3 OrC.top n) e1 e2 e3 hok hrun hex hres (A9o hL) ha hf cs
   have:=q1.of_flat rfl
   subst this
   exact⟨.returned (.bool true),w1,fr,⟨rfl,s1.os,s1.tape,s1.output,s1.size,fun k hk=>s1.frame k hk (A23 _ _)⟩,q2,q3,q4⟩
def isT:Value→Bool
 | .bool b=>b
 | _=>false
theorem B32 {v:Value}(h:isT v=true):v=.bool true:=by
 cases v <;> simp[isT]at h
 subst h;rfl
def noO:Orc:=fun _ _=>none
theorem B33 (P:Program):A9H P noO:=by intro f args v h;cases h
theorem B13 {P:Program}(hmix:P.follows .mixedOrders=true){n:Nat}{f:FuncId}(hb:W1 P f)(h:B12 P noO n f [] isT=true)(H:Aa):OrC P f #[] H (.bool true) H:=by
 obtain⟨v,h1,h2,h3⟩:=A7D P hmix (B33 P) (by rfl) h
 have:=B32 h1
 subst this
 exact⟨rfl,by simp,rfl,hb,h3⟩
structure Spo where
 X:Int
 Y:Int
 Area:Int
 deriving DecidableEq,Inhabited
structure Srt where
 High:Int
 Dense:Int
 Fire:Int
 Age:Int
 deriving DecidableEq,Inhabited
structure E8 where
 Hour:Int
 Spot:Int
 Kind:Int
 Min:Int
 Max:Int
 Take:Bool
 deriving DecidableEq,Inhabited
structure Cv where
 Spots:List Spo
 Sorts:List Srt
 Acts:List E8
 deriving DecidableEq,Inhabited
abbrev iv (n:Int):Value:=.int .i64 n
def G7 (s:Spo):List Value:=[iv s.X,iv s.Y,iv s.Area]
def Fs (s:Srt):List Value:=[iv s.High,iv s.Dense,iv s.Fire,iv s.Age]
def Bn (a:E8):List Value:=[iv a.Hour,iv a.Spot,iv a.Kind,iv a.Min,iv a.Max,.bool a.Take]
theorem Dc (s:Spo):(G7 s).length=3:=rfl
theorem Cz (s:Srt):(Fs s).length=4:=rfl
theorem Ba (s:E8):(Bn s).length=6:=rfl
structure RG (H:Aa)(a b c:Value)(g:Cv):Prop where
 p:SR H 3 g.Spots.length a (g.Spots.flatMap G7)
 q:SR H 4 g.Sorts.length b (g.Sorts.flatMap Fs)
 r:SR H 6 g.Acts.length c (g.Acts.flatMap Bn)
theorem RG.fr {N:Nat}{A B:Aa}(hF:Fr N [] A B){a b c:Value}{g:Cv}(h:RG A a b c g):RG B a b c g:=⟨h.p.fr0 hF,h.q.fr0 hF,h.r.fr0 hF⟩
theorem RG.one {H:Aa}{a b c:Value}{g:Cv}(h:RG H a b c g):Swa.one a∧Swa.one b∧Swa.one c:=⟨h.p.one,h.q.one,h.r.one⟩
def Dz (x:Int):Int:=IntKind.i64.wrap x
def Ck (l:List Int):List Value:=l.map (.int .i64 ·)
theorem C3 (l:List Int):(Ck l).length=l.length:=by simp[Ck]
theorem Av {l:List Int}{i:Nat}(h:i<l.length):(Ck l)[i]? = some (iv (l.getD i 0)):=by
 simp[Ck,h]
theorem R3 (l:List Int)(i:Nat)(x:Int):(Ck l).set i (iv x)=Ck (l.set i x):=by
 simp[Ck,List.map_set]
def mat (s:List Int)(i j:Nat):Int:=s.getD (i*11+j) 0
def far:Int:=1099511627776
def kIn (s:List Int)(a b:Nat)(m:Int)(i:Nat)(out:List Int)(k:Nat):List Int :=
 if mat s i a<far∧mat s b k<far then out.set (i*11+k) (min (mat out i k) (Dz (Dz (mat s i a+m)+mat s b k))) else out
def Xg (s:List Int)(a b:Nat)(m:Int)(i:Nat)(out:List Int)(n:Nat):List Int:=(List.range n).foldl (kIn s a b m i) out
def Pb (s:List Int)(a b:Nat)(m:Int)(n:Nat):List Int:=(List.range n).foldl (fun out i=>Xg s a b m i out 11) s
def know (s:List Int)(a b:Nat)(m:Int):List Int×Bool :=
 if Dz (mat s b a+m)<0 then (s,false) else if mat s a b≤m then (s,true) else (Pb s a b m 11,true)
theorem Fk {α:Type}(f:α→Nat→α)(x:α)(n:Nat):(List.range (n+1)).foldl f x=f ((List.range n).foldl f x) n:=by
 rw[List.range_succ,List.foldl_append];rfl
theorem B15 (s:List Int)(a b:Nat)(m:Int)(i:Nat)(out:List Int)(k:Nat):(kIn s a b m i out k).length=out.length:=by unfold kIn;split <;> simp
theorem Nk (s:List Int)(a b:Nat)(m:Int)(i:Nat)(out:List Int)(n:Nat):Xg s a b m i out (n+1)=kIn s a b m i (Xg s a b m i out n) n:=Fk _ _ _
theorem Tm (s:List Int)(a b:Nat)(m:Int)(n:Nat):Pb s a b m (n+1)=Xg s a b m n (Pb s a b m n) 11:=Fk _ _ _
theorem Xh (s:List Int)(a b:Nat)(m:Int)(i:Nat)(out:List Int)(n:Nat):(Xg s a b m i out n).length=out.length:=by
 induction n with
 | zero=>rfl
 | succ n ih=>rw[Nk,B15,ih]
theorem R4 (s:List Int)(a b:Nat)(m:Int)(n:Nat):(Pb s a b m n).length=s.length:=by
 induction n with
 | zero=>rfl
 | succ n ih=>rw[Tm,Xh,ih]
theorem Xi {s:List Int}{a b:Nat}{m:Int}:(know s a b m).1.length=s.length:=by
 unfold know
 split
 ·rfl
 ·split
  ·rfl
  ·exact R4 ..
def E1:={ l:List Int // l.length=121 }
instance:Inhabited E1:=⟨⟨List.replicate 121 0,by simp⟩⟩
instance:DecidableEq E1:=fun a b=>decidable_of_iff (a.1=b.1) ⟨Subtype.ext,fun h=>h ▸ rfl⟩
def E1.know (s:E1)(a b:Nat)(m:Int):E1×Bool:=(⟨(Swa.know s.1 a b m).1,Xi.trans s.2⟩,(Swa.know s.1 a b m).2)
def E1.mat (s:E1)(i j:Nat):Int:=Swa.mat s.1 i j
theorem Nl (s:E1):(Ck s.1).length=121:=by rw[C3,s.2]
theorem Hu {s:E1}{v:Value}:(Ck s.1 ++ [v])[121]? = some v:=B3G (Nl s)
theorem E2 {s:E1}{v w:Value}:(Ck s.1 ++ [v]).set 121 w=Ck s.1 ++ [w]:=B1H (Nl s)
theorem B34 {s:E1}{v:Value}:(Ck s.1 ++ [v]).length=122:=by rw[List.length_append,Nl];rfl
theorem Hv {H:Aa}{b:Nat}{s:E1}{v:Value}{T:TypeId}{a:Option Addr}{q r:Nat}:Mg H b 121 1 (.slice a q r) (.cells (Ck s.1 ++ [v]) T .ex)=some (H.upd H.n b (.cells (Ck s.1 ++ [.slice a q r]) T .ex)):=by
 rw[Zm (by rw[B34];omega),E2]
def bIn (i:Nat)(out:List Int)(k:Nat):List Int:=if i≠k then out.set (i*11+k) far else out
def A3m (i:Nat)(out:List Int)(n:Nat):List Int:=(List.range n).foldl (bIn i) out
def Q7 (n:Nat):List Int:=(List.range n).foldl (fun out i=>A3m i out 11) (List.replicate 121 0)
theorem Tn (i:Nat)(out:List Int)(n:Nat):A3m i out (n+1)=bIn i (A3m i out n) n:=Fk _ _ _
theorem A0e (n:Nat):Q7 (n+1)=A3m n (Q7 n) 11:=Fk _ _ _
theorem B16 (i:Nat)(out:List Int)(k:Nat):(bIn i out k).length=out.length:=by unfold bIn;split <;> simp
theorem A3n (i:Nat)(out:List Int)(n:Nat):(A3m i out n).length=out.length:=by
 induction n with
 | zero=>rfl
 | succ n ih=>rw[Tn,B16,ih]
theorem A3o (n:Nat):(Q7 n).length=121:=by
 induction n with
 | zero=>simp[Q7]
 | succ n ih=>rw[A0e,A3n,ih]
def A0f:E1:=⟨Q7 11,A3o 11⟩
structure On where
 act:Int
 tips:Nat
 takes:Nat
 kind:Int
 deriving DecidableEq,Inhabited
def Cq (m:On):List Value:=[iv m.act,iv m.tips,iv m.takes,iv m.kind]
theorem J1 (m:On):(Cq m).length=4:=rfl
structure Hp where
 s:E1
 m:List On
 deriving DecidableEq,Inhabited
def Mq (p:Hp×Value):List Value:=Ck p.1.s.1 ++ [p.2]
theorem Df (p:Hp×Value):(Mq p).length=122:=by simp[Mq,C3,p.1.s.2]
def RHs (H:Aa)(v:Value)(l:List (Hp×Value)):Prop:=SR H 122 l.length v (l.flatMap Mq)∧∀ i,i<l.length→SR H 4 (l.getD i default).1.m.length (l.getD i default).2 ((l.getD i default).1.m.flatMap Cq)
theorem RHs.fr {N:Nat}{A B:Aa}(hF:Fr N [] A B){v:Value}{l:List (Hp×Value)}(h:RHs A v l):RHs B v l:=⟨h.1.fr0 hF,fun i hi=>(h.2 i hi).fr0 hF⟩
def Ft (act:Int):On→List On→On
 | out,[]=>out
 | out,m :: l=>Ft act (if m.act<act then m else out) l
def Hp.before (h:Hp)(act:Int):On:=Ft act (h.m.getD 0 default) h.m
def Hp.most (h:Hp)(m:On):Int:=h.s.mat m.takes m.tips
def Hp.least (h:Hp)(m:On):Int:=Dz (0-h.s.mat m.tips m.takes)
def B5 (hour:Int):List E8→Nat
 | []=>0
 | a :: l=>if a.Hour≤hour then B5 hour l+1 else 0
structure Hb where
 s:E1
 ok:Bool
 next:Nat
 m:On
 ms:List On
 deriving Inhabited
def In (s:E1)(ok:Bool)(a b:Nat)(m:Int):E1×Bool:=if ok then s.know a b m else (s,ok)
def Hb.tk (p:Hb)(a:E8):E1×Bool :=
 let x:=In p.s p.ok p.m.takes (p.next+1) a.Max
 let y:=In x.1 x.2 (p.next+1) p.m.takes (Dz (0-a.Min))
 In y.1 y.2 p.m.tips (p.next+1) 0
def Hb.tp (p:Hb)(a:E8):E1×Bool :=
 let x:=In p.s p.ok p.m.tips (p.next+1) a.Max
 In x.1 x.2 (p.next+1) p.m.tips (Dz (0-a.Min))
def Hb.step (p:Hb)(i:Nat)(a:E8):Hb :=
 if a.Take=true then ⟨(p.tk a).1,(p.tk a).2,p.next+1,⟨i,p.m.tips,p.next+1,p.m.kind⟩,p.ms ++ [⟨i,p.m.tips,p.next+1,p.m.kind⟩]⟩
 else ⟨(p.tp a).1,(p.tp a).2,p.next+1,⟨i,p.next+1,p.m.takes,a.Kind⟩,p.ms ++ [⟨i,p.next+1,p.m.takes,a.Kind⟩]⟩
theorem Hb.step_take {p:Hb}{i:Nat}{a:E8}(h:a.Take=true):p.step i a=⟨(p.tk a).1,(p.tk a).2,p.next+1,⟨i,p.m.tips,p.next+1,p.m.kind⟩,p.ms ++ [⟨i,p.m.tips,p.next+1,p.m.kind⟩]⟩:=if_pos h
theorem Hb.step_tip {p:Hb}{i:Nat}{a:E8}(h:¬ a.Take=true):p.step i a=⟨(p.tp a).1,(p.tp a).2,p.next+1,⟨i,p.next+1,p.m.takes,a.Kind⟩,p.ms ++ [⟨i,p.next+1,p.m.takes,a.Kind⟩]⟩:=if_neg h
def Hb.run (spot:Int):Nat→List E8→Hb→Hb
 | _,[],p=>p
 | i,a :: l,p=>Hb.run spot (i+1) l (if a.Spot=spot then p.step i a else p)
def A4M:On:=⟨-1,0,0,0⟩
def Oo:Hb:=⟨A0f,true,0,A4M,[A4M]⟩
def Co (g:Cv)(spot:Int):Hp×Bool:=let p:=Hb.run spot 0 g.Acts Oo;(⟨p.s,p.ms⟩,p.ok)
def Ev (g:Cv)(i:Nat):Nat→List Hp→List Hp×Int
 | 0,acc=>(acc,0)
 | n+1,acc=>if (Co g i).2=true then Ev g (i+1) n (acc ++ [(Co g i).1]) else (acc,9)
def known (g:Cv):List Hp×Int:=Ev g 0 g.Spots.length []
def Oq (a b:Int):Int:=if a=0 then 7 else if b<a then 6 else 0
def Mr (a b c:Int):Bool:=decide (b≤a∧a≤c)
def He (g:Cv)(last:Int)(a:E8):Int :=
 if !Mr a.Hour 0 72 then 1 else if a.Hour<last then 5 else if !Mr a.Spot 0 (Dz (g.Spots.length-1)) || !Mr a.Kind 0 (Dz (g.Sorts.length-1)) then 3
 else if a.Take && a.Kind≠0 then 2 else if !Mr a.Min 1 1000000 || !Mr a.Max 1 1000000 then 1 else if a.Max<a.Min then 5 else 0
def Ms (s:Spo):Bool:=Mr s.X 0 1000 && Mr s.Y 0 1000 && Mr s.Area 1 1000
def Ma (s:Srt):Bool:=Mr s.High 1 1000 && Mr s.Dense 1 8000 && Mr s.Fire 0 100 && Mr s.Age 0 72
def Dq (g:Cv):Int→List E8→Int
 | _,[]=>0
 | last,a :: l=>if He g last a≠0 then He g last a else Dq g a.Hour l
def Pc (g:Cv):Int:=if 10<g.Acts.length then 6 else Dq g 0 g.Acts
def Pd (g:Cv):Int:=if Oq g.Sorts.length 4≠0 then Oq g.Sorts.length 4 else if g.Sorts.all Ma then Pc g else 1
def check (g:Cv):Int:=if Oq g.Spots.length 4≠0 then Oq g.Spots.length 4 else if g.Spots.all Ms then Pd g else 1
theorem A53 {a b:Int}(h:Oq a b=0):a≠0∧a≤b:=by
 unfold Oq at h
 split at h
 ·omega
 ·split at h <;> omega
structure Ok (g:Cv):Prop where
 spots:0<g.Spots.length∧g.Spots.length≤4
 spot:∀ s,s∈g.Spots→Ms s=true
 sorts:0<g.Sorts.length∧g.Sorts.length≤4
 sort:∀ s,s∈g.Sorts→Ma s=true
 acts:g.Acts.length≤10
 act:Dq g 0 g.Acts=0
theorem Nm {g:Cv}(h:check g=0):Ok g:=by
 unfold check at h
 split at h
 ·rename_i h1;exact absurd h h1
 ·rename_i h1
  split at h
  ·rename_i h2
   unfold Pd at h
   split at h
   ·rename_i h3;exact absurd h h3
   ·rename_i h3
    split at h
    ·rename_i h4
     unfold Pc at h
     split at h
     ·omega
     ·rename_i h5
      have q1:=A53 (Decidable.not_not.1 h1)
      have q2:=A53 (Decidable.not_not.1 h3)
      exact⟨by omega,fun s hs=>List.all_eq_true.1 h2 s hs,by omega,fun s hs=>List.all_eq_true.1 h4 s hs,by omega,h⟩
    ·omega
  ·omega
structure Few (h:Hp):Prop where
 pos:0<h.m.length
 len:h.m.length≤11
 tips:∀ m,m∈h.m→m.tips<11∧m.takes<11
structure Hb.Inv (p:Hb)(i:Nat):Prop where
 next:p.next≤i
 m:p.m.tips≤p.next∧p.m.takes≤p.next
 len:0<p.ms.length∧p.ms.length≤i+1
 all:∀ m,m∈p.ms→m.tips≤i∧m.takes≤i
theorem Hb.Inv.step {p:Hb}{i:Nat}(h:p.Inv i)(a:E8):(p.step i a).Inv (i+1):=by
 have h1:=h.next
 have h2:=h.m
 have h3:=h.len
 unfold Hb.step
 split
 ·refine⟨by dsimp only;omega,by dsimp only;omega,by simp;omega,fun m hm=>?_⟩
  rcases List.mem_append.1 hm with hm|hm
  ·have:=h.all m hm;omega
  ·have:m=_:=List.mem_singleton.1 hm
   subst this;dsimp only;omega
 ·refine⟨by dsimp only;omega,by dsimp only;omega,by simp;omega,fun m hm=>?_⟩
  rcases List.mem_append.1 hm with hm|hm
  ·have:=h.all m hm;omega
  ·have:m=_:=List.mem_singleton.1 hm
   subst this;dsimp only;omega
theorem Hb.Inv.skip {p:Hb}{i:Nat}(h:p.Inv i):p.Inv (i+1) :=
 ⟨by have:=h.next;omega,h.m,by have:=h.len;omega,fun m hm=>by have:=h.all m hm;omega⟩
theorem Hb.Inv.run (spot:Int):∀ (l:List E8)(i:Nat)(p:Hb),p.Inv i→(Hb.run spot i l p).Inv (i+l.length)
 | [],i,p,h=>h
 | a :: l,i,p,h=>by
  rw[Hb.run,List.length_cons,show i+(l.length+1)=i+1+l.length by omega]
  split
  ·exact Hb.Inv.run spot l (i+1) _ (h.step a)
  ·exact Hb.Inv.run spot l (i+1) _ h.skip
theorem A9O {g:Cv}(hl:g.Acts.length≤10)(spot:Int):Few (Co g spot).1:=by
 have h:Hb.Inv Oo 0:=⟨Nat.le_refl _,⟨Nat.le_refl _,Nat.le_refl _⟩,⟨Nat.lt_succ_self _,Nat.le_refl _⟩,fun m hm=>by
  have:m=A4M:=List.mem_singleton.1 hm
  subst this;exact⟨Nat.le_refl _,Nat.le_refl _⟩⟩
 have:=Hb.Inv.run spot g.Acts 0 Oo h
 rw[Nat.zero_add]at this
 exact⟨this.len.1,by have:=this.len.2;show (Hb.run spot 0 g.Acts Oo).ms.length≤11;omega,fun m hm=>by have:=this.all m hm;omega⟩
theorem Uv {g:Cv}(hl:g.Acts.length≤10):∀ (n i:Nat)(acc:List Hp),(∀ h,h∈acc→Few h)→∀ h,h∈(Ev g i n acc).1→Few h
 | 0,i,acc,ha=>ha
 | n+1,i,acc,ha=>by
  rw[Ev]
  split
  ·refine Uv hl n (i+1) _ fun h hm=>?_
   rcases List.mem_append.1 hm with hm|hm
   ·exact ha h hm
   ·rw[List.mem_singleton.1 hm];exact A9O hl _
  ·exact ha
theorem Nn {g:Cv}(hl:g.Acts.length≤10):∀ h,h∈(known g).1→Few h:=Uv hl _ _ _ (by simp)
theorem Uw {g:Cv}:∀ (n i:Nat)(acc:List Hp),(Ev g i n acc).1.length≤acc.length+n
 | 0,i,acc=>Nat.le_refl _
 | n+1,i,acc=>by
  rw[Ev]
  split
  ·have:=Uw (g:=g) n (i+1) (acc ++ [(Co g i).1])
   rw[List.length_append,List.length_singleton]at this
   omega
  ·show acc.length≤_;omega
theorem A7F {g:Cv}:(known g).1.length≤g.Spots.length:=by
 have:=Uw (g:=g) g.Spots.length 0 []
 rw[List.length_nil,Nat.zero_add]at this
 exact this
theorem Ux {act:Int}:∀ (l:List On)(out:On),Ft act out l=out∨Ft act out l∈l
 | [],out=>.inl rfl
 | m :: l,out=>by
  rw[Ft]
  rcases Ux l (if m.act<act then m else out) with h|h
  ·rw[h]
   split
   ·exact .inr (List.mem_cons_self ..)
   ·exact .inl rfl
  ·exact .inr (List.mem_cons_of_mem _ h)
theorem Few.before {h:Hp}(hf:Few h)(act:Int):(h.before act).tips<11∧(h.before act).takes<11:=by
 refine hf.tips _ ?_
 unfold Hp.before
 have h0:h.m.getD 0 default∈h.m:=by
  have:=hf.pos
  simp[List.getD,List.getElem?_eq_getElem this]
 rcases Ux (act:=act) h.m (h.m.getD 0 default) with e|e
 ·rw[e];exact h0
 ·exact e
structure Rng where
 Min:Int
 Max:Int
 deriving DecidableEq,Inhabited
def To (r:Rng):List Value:=[iv r.Min,iv r.Max]
theorem Ky (r:Rng):(To r).length=2:=rfl
def M2 (g:Cv)(hour:Int)(h:Hp):Rng:=⟨h.least (h.before (B5 hour g.Acts)),h.most (h.before (B5 hour g.Acts))⟩
def masses (g:Cv)(hour:Int):List Rng×Int :=
 if check g≠0 then ([],check g) else if Mr hour 0 72=true then if (known g).2≠0 then ([],(known g).2) else ((known g).1.map (M2 g hour),0) else ([],1)
def older (g:Cv)(spot hour age:Int):Int×Int :=
 if check g≠0 then (0,check g)
 else if Mr spot 0 (Dz (g.Spots.length-1))=true then
  if Mr hour 0 72=true∧Mr age 0 72=true then
   if (known g).2≠0 then (0,(known g).2)
   else
    let h:=(known g).1.getD spot.toNat default
    let old:=(h.before (B5 (Dz (Dz (hour-age)-1)) g.Acts)).tips
    let takes:=(h.before (B5 hour g.Acts)).takes
    if h.s.mat old takes<0 then (1,0) else if h.s.mat takes old≤0 then (2,0) else (3,0)
  else (0,1)
 else (0,3)
end Go.Proofs.Swa
