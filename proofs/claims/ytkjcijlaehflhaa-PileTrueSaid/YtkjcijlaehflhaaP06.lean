/- Part 6 of a proof. -/
import Derived.Test.YtkjcijlaehflhaaP05
set_option linter.unusedVariables false
set_option linter.unusedSimpArgs false
namespace Go.Proofs.Swa
open Go
def Fits (spot:Int):Int→List (Act×Int)→Prop
 | _,[]=>True
 | lie,(a,t) :: l=>if a.Spot=spot then (1≤a.Min∧a.Min≤t∧t≤a.Max∧a.Max≤1000000)∧(if a.Take=true then t≤lie∧Fits spot (lie - t) l else Fits spot (lie + t) l) else Fits spot lie l
structure PInv (p:Pst) (i:Nat) (lie:Int):Prop where
 ok:p.ok=true
 next:p.next≤i
 mt:p.m.tips≤p.next∧p.m.takes≤p.next
 tab:∃ x,Tab p.s.mat p.next x∧x p.m.tips - x p.m.takes=lie
 mem:p.m∈p.ms
 all:∀ m,m∈p.ms→m.tips≤p.next∧m.takes≤p.next∧p.s.mat m.takes 0≤0∧p.s.mat m.tips m.takes≤0∧p.s.mat p.m.tips m.tips≤0∧(m.act < 0→m.tips=0)
 pw:p.ms.Pairwise fun a b=>p.s.mat b.tips a.tips≤0
theorem pw_snoc {α:Type} {R:α→α→Prop} {l:List α} {x:α} (h:l.Pairwise R) (k:∀ a,a∈l→R a x):(l ++ [x]).Pairwise R:=by
 rw [List.pairwise_append]
 refine ⟨h,List.pairwise_singleton _ _,fun a ha b hb=>?_⟩
 rw [List.mem_singleton.1 hb]
 exact k a ha
theorem PInv.start:PInv pst0 0 0:=by
 have hb:∀ i k,i < 11→k < 11→pst0.s.mat i k=if i=k then 0 else far:=fun i k hi hk=>blank_mat hi hk
 have h00:pst0.s.mat 0 0=0:=hb 0 0 (by omega) (by omega)
 refine ⟨rfl,Nat.le_refl _,⟨Nat.le_refl _,Nat.le_refl _⟩,⟨fun _=>0,⟨by show 0≤10;omega,fun a b ha hb'=>?_,fun a b ha hb' ho hne=>by rw [hb a b ha hb',if_neg hne],fun a ha=>by rw [hb a a ha ha,if_pos rfl],fun a b ha hb'=>?_,fun a b c ha hb' hc=>?_,fun _ _=>Int.le_refl _,fun _ _=>by show (0:Int)≤((0:Nat):Int) * 1000000;omega⟩,rfl⟩,
  List.mem_singleton.2 rfl,fun m hm=>?_,List.pairwise_singleton _ _⟩
 ·have e1:a=0:=Nat.le_zero.1 ha
  have e2:b=0:=Nat.le_zero.1 hb'
  rw [e1,e2,h00];show (0:Int)≤((0:Nat):Int) * 1000000;omega
 ·have e1:a=0:=Nat.le_zero.1 ha
  have e2:b=0:=Nat.le_zero.1 hb'
  rw [e1,e2,h00];show (0:Int) - 0≤0;omega
 ·have e1:a=0:=Nat.le_zero.1 ha
  have e2:b=0:=Nat.le_zero.1 hb'
  have e3:c=0:=Nat.le_zero.1 hc
  rw [e1,e2,e3,h00];omega
 ·have:m=mom0:=List.mem_singleton.1 hm
  subst this
  exact ⟨Nat.le_refl _,Nat.le_refl _,Int.le_of_eq h00,Int.le_of_eq h00,Int.le_of_eq h00,fun _=>rfl⟩
theorem PInv.skip {p:Pst} {i:Nat} {lie:Int} (h:PInv p i lie):PInv p (i + 1) lie:={ h with next:=Nat.le_succ_of_le h.next }
theorem PInv.tip {p:Pst} {i:Nat} {lie:Int} (h:PInv p i lie) (hi:i < 10) {a:Act} {t:Int} (ha:¬ a.Take=true) (q:1≤a.Min∧a.Min≤t∧t≤a.Max∧a.Max≤1000000):PInv (p.step i a) (i + 1) (lie + t):=by
 obtain ⟨x,hx,hl⟩:=h.tab
 have hn:=h.next
 obtain ⟨mt1,mt2⟩:=h.mt
 obtain ⟨k1,k2,k3,k4,k5⟩:=hx.add (by omega) mt1 q.1 q.2.1 q.2.2.1 q.2.2.2
 rw [Pst.step_tip ha]
 have htp:p.tp a=(p.s.know p.m.tips (p.next + 1) a.Max).1.know (p.next + 1) p.m.tips (w64 (0 - a.Min)):=by
  unfold Pst.tp knowIf
  simp only [h.ok,if_true,k1]
 rw [htp]
 generalize (p.s.know p.m.tips (p.next + 1) a.Max).1.know (p.next + 1) p.m.tips (w64 (0 - a.Min))=y at k2 k3 k4 k5
 have hm:=h.all p.m h.mem
 refine ⟨k2,by show p.next + 1≤i + 1;omega,⟨Nat.le_refl _,by show p.m.takes≤p.next + 1;omega⟩,⟨_,k3, ?_⟩,by simp,fun m hm'=>?_,pw_snoc (h.pw.imp_of_mem fun {a b} ha hb r=>?_) fun m hm'=>?_⟩
 ·dsimp only
  rw [if_pos rfl,if_neg (by omega)]
  omega
 ·dsimp only
  rcases List.mem_append.1 hm' with hm'|hm'
  ·obtain ⟨a1,a2,a3,a4,a5,a6⟩:=h.all m hm'
   refine ⟨by omega,by omega,by rw [k4 _ _ a2 (by omega)];exact a3,by rw [k4 _ _ a1 a2];exact a4,by rw [k5 _ a1];omega,a6⟩
  ·rw [List.mem_singleton.1 hm']
   dsimp only
   refine ⟨Nat.le_refl _,by omega,by rw [k4 _ _ mt2 (by omega)];exact hm.2.2.1,by rw [k5 _ mt2];have:=hm.2.2.2.1;omega,by rw [k3.diag (p.next + 1) (by omega)];exact Int.le_refl _,fun hh=>by omega⟩
 ·have b1:=(h.all a ha).1
  have b2:=(h.all b hb).1
  dsimp only
  rw [k4 _ _ b2 b1];exact r
 ·have b1:=h.all m hm'
  dsimp only
  rw [k5 _ b1.1]
  have:=b1.2.2.2.2.1
  omega
theorem PInv.take {p:Pst} {i:Nat} {lie:Int} (h:PInv p i lie) (hi:i < 10) {a:Act} {t:Int} (ha:a.Take=true) (q:1≤a.Min∧a.Min≤t∧t≤a.Max∧a.Max≤1000000) (hq:t≤lie):PInv (p.step i a) (i + 1) (lie - t):=by
 obtain ⟨x,hx,hl⟩:=h.tab
 have hn:=h.next
 obtain ⟨mt1,mt2⟩:=h.mt
 obtain ⟨k1,k2,k3,k4,k5⟩:=hx.add (by omega) mt2 q.1 q.2.1 q.2.2.1 q.2.2.2
 rw [Pst.step_take ha]
 have htk:p.tk a=((p.s.know p.m.takes (p.next + 1) a.Max).1.know (p.next + 1) p.m.takes (w64 (0 - a.Min))).1.know p.m.tips (p.next + 1) 0:=by
  unfold Pst.tk knowIf
  simp only [h.ok,if_true,k1,k2]
 rw [htk]
 generalize ((p.s.know p.m.takes (p.next + 1) a.Max).1.know (p.next + 1) p.m.takes (w64 (0 - a.Min))).1=y at k3 k4 k5
 obtain ⟨z1,z2,z3,z4⟩:=k3.more (a:=p.m.tips) (b:=p.next + 1) (m:=0) (by omega) (Nat.le_refl _) (by
  rw [if_pos rfl,if_neg (by omega)]
  omega) (by omega) (by omega)
 generalize y.know p.m.tips (p.next + 1) 0=z at z1 z2 z3 z4
 have hm:=h.all p.m h.mem
 refine ⟨z1,by show p.next + 1≤i + 1;omega,⟨by show p.m.tips≤p.next + 1;omega,Nat.le_refl _⟩,⟨_,z2, ?_⟩,by simp,fun m hm'=>?_,pw_snoc (h.pw.imp_of_mem fun {a b} ha hb r=>?_) fun m hm'=>?_⟩
 ·dsimp only
  rw [if_pos rfl,if_neg (by omega)]
  omega
 ·dsimp only
  rcases List.mem_append.1 hm' with hm'|hm'
  ·obtain ⟨a1,a2,a3,a4,a5,a6⟩:=h.all m hm'
   refine ⟨by omega,by omega, ?_, ?_, ?_,a6⟩
   ·have:=z3 m.takes 0 (by omega) (by omega)
    rw [k4 _ _ a2 (by omega)] at this;omega
   ·have:=z3 m.tips m.takes (by omega) (by omega)
    rw [k4 _ _ a1 a2] at this;omega
   ·have:=z3 p.m.tips m.tips (by omega) (by omega)
    rw [k4 _ _ mt1 a1] at this;omega
  ·rw [List.mem_singleton.1 hm']
   dsimp only
   refine ⟨by omega,Nat.le_refl _, ?_,z4,by rw [z2.diag p.m.tips (by omega)];exact Int.le_refl _,fun hh=>by omega⟩
   have:=z3 (p.next + 1) 0 (Nat.le_refl _) (by omega)
   rw [k5 _ (by omega)] at this
   have:=hm.2.2.1
   omega
 ·have b1:=(h.all a ha).1
  have b2:=(h.all b hb).1
  dsimp only
  have:=z3 b.tips a.tips (by omega) (by omega)
  rw [k4 _ _ b2 b1] at this;omega
 ·have b1:=h.all m hm'
  dsimp only
  have:=z3 p.m.tips m.tips (by omega) (by omega)
  rw [k4 _ _ mt1 b1.1] at this
  have:=b1.2.2.2.2.1
  omega
theorem PInv.run (spot:Int):∀ (l:List (Act×Int)) (i:Nat) (p:Pst) (lie:Int),PInv p i lie→i + l.length≤10→Fits spot lie l→∃ lie',PInv (Pst.run spot i (l.map (·.1)) p) (i + l.length) lie'
 | [],i,p,lie,h,_,_=>⟨lie,h⟩
 | (a,t) :: l,i,p,lie,h,hl,hf=>by
  simp only [List.map_cons,List.length_cons] at hl ⊢
  rw [Pst.run,show i + (l.length + 1)=i + 1 + l.length by omega]
  rw [Fits] at hf
  by_cases hs:a.Spot=spot
  ·rw [if_pos hs] at hf ⊢
   obtain ⟨q,hf⟩:=hf
   by_cases ht:a.Take=true
   ·rw [if_pos ht] at hf
    exact PInv.run spot l (i + 1) _ _ (h.take (by omega) ht q hf.1) (by omega) hf.2
   ·rw [if_neg ht] at hf
    exact PInv.run spot l (i + 1) _ _ (h.tip (by omega) ht q) (by omega) hf
  ·rw [if_neg hs] at hf ⊢
   exact PInv.run spot l (i + 1) _ _ h.skip (by omega) hf
structure HpOk (h:Hp):Prop where
 tab:∃ n x,Tab h.s.mat n x∧∀ m,m∈h.m→m.tips≤n∧m.takes≤n
 all:∀ m,m∈h.m→h.s.mat m.takes 0≤0∧h.s.mat m.tips m.takes≤0∧(m.act < 0→m.tips=0)
 pw:h.m.Pairwise fun a b=>h.s.mat b.tips a.tips≤0
 pos:h.m≠[]
theorem pile_ok {g:Gnd} {spot:Int} {truth:List Int} (hl:g.Acts.length≤10) (he:truth.length=g.Acts.length) (hf:Fits spot 0 (g.Acts.zip truth)):(pile g spot).2=true∧HpOk (pile g spot).1:=by
 have hz:(g.Acts.zip truth).map (·.1)=g.Acts:=by
  rw [List.map_fst_zip]
  omega
 obtain ⟨lie,h⟩:=PInv.run spot (g.Acts.zip truth) 0 pst0 0 PInv.start (by rw [List.length_zip];omega) hf
 rw [hz] at h
 obtain ⟨x,hx,_⟩:=h.tab
 exact ⟨h.ok,⟨⟨_,x,hx,fun m hm=>⟨(h.all m hm).1,(h.all m hm).2.1⟩⟩,fun m hm=>⟨(h.all m hm).2.2.1,(h.all m hm).2.2.2.1,(h.all m hm).2.2.2.2.2⟩,h.pw,fun e=>by have:=h.mem;have e:(Pst.run spot 0 g.Acts pst0).ms=[]:=e;rw [e] at this;cases this⟩⟩
theorem until_mono {a b:Int} (h:a≤b):∀ l:List Act,untilL a l≤untilL b l
 | []=>Nat.le_refl _
 | x :: l=>by
  rw [untilL,untilL]
  have:=until_mono h l
  by_cases c:x.Hour≤a
  ·rw [if_pos c,if_pos (by omega)];omega
  ·rw [if_neg c];omega
theorem knownGo_get {g:Gnd}:∀ (n i:Nat) (acc:List Hp),(∀ j,i≤j→j < i + n→(pile g j).2=true)→(knownGo g i n acc).2=0∧(knownGo g i n acc).1=acc ++ (List.range n).map fun j=>(pile g ((i + j:Nat):Int)).1
 | 0,i,acc,_=>⟨rfl,by simp [knownGo]⟩
 | n + 1,i,acc,h=>by
  rw [knownGo,if_pos (h i (Nat.le_refl _) (by omega))]
  have ih:=knownGo_get (g:=g) n (i + 1) (acc ++ [(pile g i).1]) fun j h1 h2=>h j (by omega) (by omega)
  refine ⟨ih.1, ?_⟩
  rw [ih.2,List.append_assoc,List.range_succ_eq_map,List.map_cons,List.map_map]
  congr 1
  simp only [List.singleton_append,Nat.add_zero,List.cons.injEq,true_and]
  refine List.map_congr_left fun j _=>?_
  show (pile g ((i + 1 + j:Nat):Int)).1=(pile g ((i + (j + 1):Nat):Int)).1
  rw [show i + 1 + j=i + (j + 1) by omega]
theorem known_get {g:Gnd} (h:∀ j,j < g.Spots.length→(pile g (j:Nat)).2=true):(known g).2=0∧(known g).1=(List.range g.Spots.length).map fun j=>(pile g (j:Nat)).1:=by
 have:=knownGo_get (g:=g) g.Spots.length 0 [] fun j _ h2=>h j (by omega)
 refine ⟨this.1, ?_⟩
 have e:=this.2
 simp only [Nat.zero_add,List.nil_append] at e
 exact e
structure Fair (g:Gnd):Prop where
 ck:check g=0
 hp:∀ j,j < g.Spots.length→(pile g (j:Nat)).2=true∧HpOk (pile g (j:Nat)).1
 hour:∀ x,x∈g.Acts→0≤x.Hour
def verdict (h:Hp) (old takes:Nat):Int:=if h.s.mat old takes < 0 then 1 else if h.s.mat takes old≤0 then 2 else 3
theorem either_mem (x:Int) {l:List Int} (h:0 < l.length) (h2:l.length < 1000000):either x l∈l:=by
 unfold either
 rw [if_neg (by omega)]
 have b:=below_spec x l.length (by omega)
 have b1:=b.2.1 (by omega)
 have hlt:(below x l.length).toNat < l.length:=by have:=b.1;omega
 rw [List.getD,List.getElem?_eq_getElem hlt]
 exact List.getElem_mem hlt
theorem inB_mk {n a b:Int} (h1:a≤n) (h2:n≤b):inB n a b=true:=decide_eq_true ⟨h1,h2⟩
theorem mkSpo_ok (x:Int):okSpo (mkSpo x).1=true:=by
 have a:=below_spec x 8 (by omega)
 have b:=below_spec (belowS x 8) 4 (by omega)
 have c:=btw_spec (x:=belowS (belowS x 8) 4) (lo:=1) (hi:=4) (by omega) (by omega) (by omega)
 have a2:=a.2.1 (by omega)
 have b2:=b.2.1 (by omega)
 unfold okSpo mkSpo
 dsimp only
 rw [inB_mk a.1 (by omega),inB_mk b.1 (by omega),inB_mk c.1 (by omega)]
 rfl
theorem goSpo_ok:∀ (n:Nat) (x:Int) (l:List Spo),(∀ s,s∈l→okSpo s=true)→∀ s,s∈(goSpo n x l).1→okSpo s=true
 | 0,x,l,h=>h
 | n + 1,x,l,h=>by
  rw [goSpo]
  refine goSpo_ok n _ _ fun s hs=>?_
  rcases List.mem_append.1 hs with hs|hs
  ·exact h s hs
  ·rw [List.mem_singleton.1 hs];exact mkSpo_ok x
theorem okSrt_mk {r:Srt} (h1:1≤r.High∧r.High≤1000) (h2:1≤r.Dense∧r.Dense≤8000) (h3:0≤r.Fire∧r.Fire≤100) (h4:0≤r.Age∧r.Age≤72):okSrt r=true:=by
 unfold okSrt
 rw [inB_mk h1.1 h1.2,inB_mk h2.1 h2.2,inB_mk h3.1 h3.2,inB_mk h4.1 h4.2]
 rfl
theorem either2 (x a b:Int):either x [a,b]=a∨either x [a,b]=b:=by
 have:=either_mem x (l:=[a,b]) (by simp) (by simp)
 simpa using this
theorem srt_high (mass x y:Int) (h1:1≤mass∧mass≤10000):1≤either y [100,min 1000 (w64 (btw x 1 100 * max 1 (w64 (mass.tdiv 20))))]∧either y [100,min 1000 (w64 (btw x 1 100 * max 1 (w64 (mass.tdiv 20))))]≤1000:=by
 have bt:=btw_spec (x:=x) (lo:=1) (hi:=100) (by omega) (by omega) (by omega)
 have td0:0≤mass.tdiv 20:=Int.tdiv_nonneg (by omega) (by omega)
 have td1:mass.tdiv 20≤mass:=Int.tdiv_le_self _ (by omega)
 rw [w64_id (x:=mass.tdiv 20) (by omega) (by omega)]
 have hm:1≤max 1 (mass.tdiv 20)∧max 1 (mass.tdiv 20)≤10000:=by omega
 generalize max 1 (mass.tdiv 20)=d at hm
 generalize btw x 1 100=c at bt
 have p1:1 * 1≤c * d:=Int.mul_le_mul bt.1 hm.1 (by omega) (by omega)
 have p2:c * d≤100 * 10000:=Int.mul_le_mul bt.2 hm.2 (by omega) (by omega)
 rw [w64_id (x:=c * d) (by omega) (by omega)]
 generalize c * d=pr at p1 p2
 rcases either2 y 100 (min 1000 pr) with e|e <;> rw [e] <;> omega
theorem srt_dense (y:Int):1≤either y [1,2,50,100]∧either y [1,2,50,100]≤8000:=by
 have b:=either_mem y (l:=[1,2,50,100]) (by simp) (by simp)
 generalize either y [1,2,50,100]=de at b
 simp only [List.mem_cons,List.not_mem_nil,or_false] at b
 omega
theorem srt_fire (y x:Int):0≤either y [0,below x 6]∧either y [0,below x 6]≤100:=by
 have c0:=below_spec x 6 (by omega)
 have c1:=c0.2.1 (by omega)
 rcases either2 y 0 (below x 6) with e|e <;> rw [e] <;> omega
theorem srt_age (y x hours:Int) (h:0≤hours∧hours≤72):0≤either y [72,below x (w64 (hours + 1))]∧either y [72,below x (w64 (hours + 1))]≤72:=by
 rw [w64_id (x:=hours + 1) (by omega) (by omega)]
 have c0:=below_spec x (hours + 1) (by omega)
 have c1:=c0.2.1 (by omega)
 rcases either2 y 72 (below x (hours + 1)) with e|e <;> rw [e] <;> omega
theorem mkSrt_ok (mass hours x:Int) (h1:1≤mass∧mass≤10000) (h2:0≤hours∧hours≤72):okSrt (mkSrt mass hours x).1=true :=
 okSrt_mk (srt_high mass x _ h1) (srt_dense _) (srt_fire _ _) (srt_age _ _ hours h2)
theorem goSrt_ok (mass hours:Int) (h1:1≤mass∧mass≤10000) (h2:0≤hours∧hours≤72):∀ (n:Nat) (x:Int) (l:List Srt),(∀ s,s∈l→okSrt s=true)→∀ s,s∈(goSrt mass hours n x l).1→okSrt s=true
 | 0,x,l,h=>h
 | n + 1,x,l,h=>by
  rw [goSrt]
  refine goSrt_ok mass hours h1 h2 n _ _ fun s hs=>?_
  rcases List.mem_append.1 hs with hs|hs
  ·exact h s hs
  ·rw [List.mem_singleton.1 hs];exact mkSrt_ok mass hours x h1 h2
theorem goSpo_length:∀ (n:Nat) (x:Int) (l:List Spo),(goSpo n x l).1.length=l.length + n
 | 0,x,l=>rfl
 | n + 1,x,l=>by rw [goSpo,goSpo_length n,List.length_append,List.length_singleton];omega
theorem goSrt_length {m h:Int}:∀ (n:Nat) (x:Int) (l:List Srt),(goSrt m h n x l).1.length=l.length + n
 | 0,x,l=>rfl
 | n + 1,x,l=>by rw [goSrt,goSrt_length n,List.length_append,List.length_singleton];omega
def lieAft (spot:Int):Int→List (Act×Int)→Int
 | lie,[]=>lie
 | lie,(a,t) :: l=>if a.Spot=spot then (if a.Take=true then lieAft spot (lie - t) l else lieAft spot (lie + t) l) else lieAft spot lie l
theorem lieAft_snoc (spot:Int) (a:Act) (t:Int):∀ (l:List (Act×Int)) (lie:Int),lieAft spot lie (l ++ [(a,t)])=if a.Spot=spot then (if a.Take=true then lieAft spot lie l - t else lieAft spot lie l + t) else lieAft spot lie l
 | [],lie=>rfl
 | (b,u) :: l,lie=>by
  simp only [List.cons_append,lieAft]
  rw [lieAft_snoc spot a t l,lieAft_snoc spot a t l,lieAft_snoc spot a t l]
  by_cases h1:b.Spot=spot
  ·by_cases h2:b.Take=true
   ·simp only [if_pos h1,if_pos h2]
   ·simp only [if_pos h1,if_neg h2]
  ·simp only [if_neg h1]
theorem Fits_snoc (spot:Int) (a:Act) (t:Int) (h:a.Spot=spot→(1≤a.Min∧a.Min≤t∧t≤a.Max∧a.Max≤1000000)):∀ (l:List (Act×Int)) (lie:Int),Fits spot lie l→(a.Spot=spot→a.Take=true→t≤lieAft spot lie l)→Fits spot lie (l ++ [(a,t)])
 | [],lie,_,k=>by
  show Fits spot lie [(a,t)]
  rw [Fits]
  by_cases h1:a.Spot=spot
  ·rw [if_pos h1]
   refine ⟨h h1, ?_⟩
   by_cases h2:a.Take=true
   ·rw [if_pos h2];exact ⟨k h1 h2,trivial⟩
   ·rw [if_neg h2];trivial
  ·rw [if_neg h1];trivial
 | (b,u) :: l,lie,f,k=>by
  rw [List.cons_append,Fits]
  rw [Fits] at f
  rw [lieAft] at k
  by_cases h1:b.Spot=spot
  ·rw [if_pos h1] at f k ⊢
   refine ⟨f.1, ?_⟩
   by_cases h2:b.Take=true
   ·rw [if_pos h2] at k ⊢
    have f2:=f.2
    rw [if_pos h2] at f2
    exact ⟨f2.1,Fits_snoc spot a t h l _ f2.2 k⟩
   ·rw [if_neg h2] at k ⊢
    have f2:=f.2
    rw [if_neg h2] at f2
    exact Fits_snoc spot a t h l _ f2 k
  ·rw [if_neg h1] at f k ⊢
   exact Fits_snoc spot a t h l _ f k
def lastH:Int→List Act→Int
 | h,[]=>h
 | _,a :: l=>lastH a.Hour l
theorem checkActs_snoc (g:Gnd) (a:Act):∀ (l:List Act) (h:Int),checkActs g h l=0→checkAct g (lastH h l) a=0→checkActs g h (l ++ [a])=0
 | [],h,_,k=>by
  show checkActs g h [a]=0
  rw [checkActs,if_neg (by rw [lastH] at k;rw [k];simp)]
  rfl
 | b :: l,h,f,k=>by
  rw [List.cons_append,checkActs]
  rw [checkActs] at f
  by_cases c:checkAct g h b≠0
  ·rw [if_pos c] at f;exact absurd f c
  ·rw [if_neg c] at f ⊢
   exact checkActs_snoc g a l b.Hour f k
theorem lastH_snoc (a:Act):∀ (l:List Act) (h:Int),lastH h (l ++ [a])=a.Hour
 | [],h=>rfl
 | b :: l,h=>lastH_snoc a l b.Hour
structure ActOk (spots sorts:Nat) (last:Int) (a:Act):Prop where
 h:0≤a.Hour∧a.Hour≤72∧last≤a.Hour
 s:0≤a.Spot∧a.Spot < spots
 k:0≤a.Kind∧a.Kind < sorts
 t:a.Take=true→a.Kind=0
 m:1≤a.Min∧a.Min≤a.Max∧a.Max≤1000000
theorem checkAct_ok {g:Gnd} {last:Int} {a:Act} (hs:g.Spots.length≤4) (hq:g.Sorts.length≤4) (h:ActOk g.Spots.length g.Sorts.length last a):checkAct g last a=0:=by
 obtain ⟨h1,h2,h3,h4,h5⟩:=h
 have e1:w64 ((g.Spots.length:Int) - 1)=g.Spots.length - 1:=w64_id (by omega) (by omega)
 have e2:w64 ((g.Sorts.length:Int) - 1)=g.Sorts.length - 1:=w64_id (by omega) (by omega)
 unfold checkAct
 rw [e1,e2,inB_mk h1.1 h1.2.1,inB_mk (n:=a.Spot) h2.1 (by omega),inB_mk (n:=a.Kind) h3.1 (by omega),inB_mk (n:=a.Min) h5.1 (by omega),inB_mk (n:=a.Max) (by omega) h5.2.2]
 have ht:(a.Take && decide (a.Kind≠0))=false:=by
  cases hta:a.Take with
  | false=>rfl
  | true=>simp [h4 hta]
 simp only [Bool.not_true,Bool.false_eq_true,if_false,Bool.or_self,ht]
 rw [if_neg (by omega),if_neg (by omega)]
structure GInv (spots sorts:Nat) (mass:Int) (s:Gst) (k:Nat):Prop where
 hour:0≤s.hour∧s.hour≤72
 lies:s.lies.length=spots
 lie:∀ j,j < spots→0≤s.lies.getD j 0∧s.lies.getD j 0≤k * mass
 len:s.acts.length=k∧s.truth.length=k
 last:lastH 0 s.acts≤s.hour
 chk:∀ g:Gnd,g.Spots.length=spots→g.Sorts.length=sorts→checkActs g 0 s.acts=0
 pos:∀ a,a∈s.acts→0≤a.Hour
 fits:∀ j:Nat,j < spots→Fits j 0 (s.acts.zip s.truth)∧lieAft j 0 (s.acts.zip s.truth)=s.lies.getD j 0
theorem spread_ok (mass n x:Int) (h1:1≤mass∧mass≤10000) (h2:1≤n∧n≤200000):1≤(spread mass n x).1.Min∧(spread mass n x).1.Min≤n∧n≤(spread mass n x).1.Max∧(spread mass n x).1.Max≤1000000:=by
 have td0:0≤mass.tdiv 3:=Int.tdiv_nonneg (by omega) (by omega)
 have td1:mass.tdiv 3≤mass:=Int.tdiv_le_self _ (by omega)
 have e1:w64 (mass.tdiv 3)=mass.tdiv 3:=w64_id (by omega) (by omega)
 unfold spread
 dsimp only
 rw [e1]
 have hm:2≤max 2 (mass.tdiv 3)∧max 2 (mass.tdiv 3)≤10000:=by omega
 generalize max 2 (mass.tdiv 3)=m at hm
 have a0:=below_spec x m (by omega)
 have a1:=a0.2.1 (by omega)
 have a:=either_mem (belowS x m) (l:=[0,below x m]) (by simp) (by simp)
 generalize either (belowS x m) [0,below x m]=p at a
 generalize eitherS (belowS x m) [0,below x m]=x2
 have b0:=below_spec x2 m (by omega)
 have b1:=b0.2.1 (by omega)
 have b:=either_mem (belowS x2 m) (l:=[0,below x2 m]) (by simp) (by simp)
 generalize either (belowS x2 m) [0,below x2 m]=q at b
 simp only [List.mem_cons,List.not_mem_nil,or_false] at a b
 rw [w64_id (x:=n - p) (by omega) (by omega),w64_id (x:=n + q) (by omega) (by omega)]
 omega
theorem zip_snoc {α β:Type} {a:List α} {b:List β} (h:a.length=b.length) (x:α) (y:β):(a ++ [x]).zip (b ++ [y])=a.zip b ++ [(x,y)]:=by
 rw [List.zip_append h];rfl
theorem GInv.push {spots sorts:Nat} {mass:Int} {s:Gst} {k:Nat} (h:GInv spots sorts mass s k) (hs:spots≤4) (hq:sorts≤4) (hm:1≤mass) {a:Act} {t lie x:Int} {p:Nat} (hp:p < spots) (hps:a.Spot=p)
  (ha:ActOk spots sorts s.hour a) (hb:a.Min≤t∧t≤a.Max) (htk:a.Take=true→t≤s.lies.getD p 0) (hl:lie=if a.Take=true then s.lies.getD p 0 - t else s.lies.getD p 0 + t) (hl0:0≤lie) (hl1:lie≤(k + 1:Nat) * mass) :
  GInv spots sorts mass ⟨x,a.Hour,s.lies.set p lie,s.acts ++ [a],s.truth ++ [t]⟩ (k + 1):=by
 have hll:=h.lies
 have hlen:=h.len
 have hx:=ha.m
 refine ⟨⟨ha.h.1,ha.h.2.1⟩,by simp [hll],fun j hj=>?_,by simp [hlen.1,hlen.2], ?_,fun g h1 h2=>?_,fun b hb'=>?_,fun j hj=>?_⟩
 ·dsimp only
  rw [getD_set]
  split
  ·exact ⟨hl0,hl1⟩
  ·have:=h.lie j hj
   have e:((k + 1:Nat):Int) * mass=k * mass + mass:=by rw [Int.natCast_add,Int.add_mul];simp
   rw [e];omega
 ·dsimp only
  rw [lastH_snoc];exact Int.le_refl _
 ·dsimp only
  refine checkActs_snoc g a s.acts 0 (h.chk g h1 h2) (checkAct_ok (by omega) (by omega) ?_)
  rw [h1,h2]
  have:=h.last
  exact ⟨⟨ha.h.1,ha.h.2.1,by have:=ha.h.2.2;omega⟩,ha.s,ha.k,ha.t,ha.m⟩
 ·rcases List.mem_append.1 hb' with hb'|hb'
  ·exact h.pos b hb'
  ·rw [List.mem_singleton.1 hb'];exact ha.h.1
 ·dsimp only
  rw [zip_snoc (by rw [hlen.1,hlen.2]),lieAft_snoc,getD_set]
  obtain ⟨f1,f2⟩:=h.fits j hj
  refine ⟨Fits_snoc (j:Int) a t (fun _=>⟨hx.1,hb.1,hb.2,hx.2.2⟩) _ _ f1 fun e1 e2=>?_, ?_⟩
  ·rw [f2]
   have:p=j:=by omega
   rw [← this];exact htk e2
  ·rw [f2]
   by_cases e:p=j
   ·subst e
    rw [if_pos hps,if_pos (show p=p∧p < s.lies.length from ⟨rfl,by omega⟩),hl]
   ·rw [if_neg (by omega),if_neg (by omega)]
theorem GInv.step {spots sorts:Nat} {mass hours:Int} {s:Gst} {k:Nat} (h:GInv spots sorts mass s k) (hs:1≤spots∧spots≤4) (hq:1≤sorts∧sorts≤4) (hm:1≤mass∧mass≤10000) (hh:0≤hours∧hours≤72) (hk:k < 10) (hsh:s.hour≤hours) :
  GInv spots sorts mass (s.step spots sorts mass hours) (k + 1)∧(s.step spots sorts mass hours).hour≤hours:=by
 have hhr:=h.hour
 have e4:=below_spec s.x 4 (by omega)
 have e4':=e4.2.1 (by omega)
 have eh:=either_mem (belowS s.x 4) (l:=[0,1,below s.x 4]) (by simp) (by simp)
 simp only [List.mem_cons,List.not_mem_nil,or_false] at eh
 unfold Gst.step
 dsimp only
 generalize either (belowS s.x 4) [0,1,below s.x 4]=dh at eh
 generalize eitherS (belowS s.x 4) [0,1,below s.x 4]=x2
 rw [w64_id (x:=s.hour + dh) (by omega) (by omega)]
 have hho:0≤min 72 (min hours (s.hour + dh))∧min 72 (min hours (s.hour + dh))≤72∧s.hour≤min 72 (min hours (s.hour + dh))∧min 72 (min hours (s.hour + dh))≤hours:=by omega
 generalize min 72 (min hours (s.hour + dh))=ho at hho
 have sp0:=below_spec x2 spots (by omega)
 have sp1:=sp0.2.1 (by omega)
 obtain ⟨p,ep⟩:∃ p:Nat,(p:Int)=below x2 spots:=⟨(below x2 spots).toNat,by have:=sp0.1;omega⟩
 rw [← ep] at sp0 sp1 ⊢
 rw [Int.toNat_natCast]
 have hp:p < spots:=by omega
 generalize belowS x2 (spots:Int)=x3
 have ki0:=below_spec x3 sorts (by omega)
 have ki1:=ki0.2.1 (by omega)
 generalize below x3 (sorts:Int)=kind at ki0 ki1
 generalize belowS x3 (sorts:Int)=x4
 have nb:=btw_spec (x:=x4) (lo:=1) (hi:=mass) (by omega) (by omega) (by omega)
 generalize btw x4 1 mass=n at nb
 generalize btwS x4 1 mass=x5
 have hli:=h.lie p hp
 have hb1:(k:Int) * mass≤9 * 10000:=Int.mul_le_mul (show (k:Int)≤9 by omega) hm.2 (by omega) (by omega)
 have e:((k + 1:Nat):Int) * mass=k * mass + mass:=by rw [Int.natCast_add,Int.add_mul];simp
 obtain ⟨lie,el⟩:∃ lie,lie=s.lies.getD p 0:=⟨_,rfl⟩
 rw [← el] at hli ⊢
 by_cases c:0 < lie∧below x5 5 < 2
 ·rw [if_pos c,if_pos c.1]
  generalize belowS x5 5=x6
  have kb:=btw_spec (x:=x6) (lo:=1) (hi:=lie) (by omega) (by omega) (by omega)
  have km:=either_mem (btwS x6 1 lie) (l:=[lie,btw x6 1 lie]) (by simp) (by simp)
  generalize eitherS (btwS x6 1 lie) [lie,btw x6 1 lie]=x8
  generalize either (btwS x6 1 lie) [lie,btw x6 1 lie]=q at km
  simp only [List.mem_cons,List.not_mem_nil,or_false] at km
  have so:=spread_ok mass q x8 hm (by omega)
  generalize spread mass q x8=r at so
  rw [w64_id (x:=lie - q) (by omega) (by omega)]
  refine ⟨h.push hs.2 hq.2 hm.1 (a:=⟨ho,p,0,r.1.Min,r.1.Max,true⟩) hp rfl ⟨⟨hho.1,hho.2.1,hho.2.2.1⟩,⟨by show (0:Int)≤p;omega,sp1⟩,⟨Int.le_refl _,by show (0:Int) < sorts;omega⟩,fun _=>rfl,⟨so.1,by show r.1.Min≤r.1.Max;omega,so.2.2.2⟩⟩ ⟨so.2.1,so.2.2.1⟩ (fun _=>by rw [← el];omega) (by rw [if_pos rfl,← el]) (by omega) (by rw [e];omega),hho.2.2.2⟩
 ·rw [if_neg c]
  generalize (if 0 < lie then belowS x5 5 else x5)=x6
  have so:=spread_ok mass n x6 hm (by omega)
  generalize spread mass n x6=r at so
  rw [w64_id (x:=lie + n) (by omega) (by omega)]
  refine ⟨h.push hs.2 hq.2 hm.1 (a:=⟨ho,p,kind,r.1.Min,r.1.Max,false⟩) hp rfl ⟨⟨hho.1,hho.2.1,hho.2.2.1⟩,⟨by show (0:Int)≤p;omega,sp1⟩,⟨ki0.1,ki1⟩,(fun hh=>by cases hh),⟨so.1,by show r.1.Min≤r.1.Max;omega,so.2.2.2⟩⟩ ⟨so.2.1,so.2.2.1⟩ (fun hh=>by cases hh) (by rw [if_neg (by simp),← el]) (by omega) (by rw [e];omega),hho.2.2.2⟩
theorem GInv.run {spots sorts:Nat} {mass hours:Int} (hs:1≤spots∧spots≤4) (hq:1≤sorts∧sorts≤4) (hm:1≤mass∧mass≤10000) (hh:0≤hours∧hours≤72):∀ (n:Nat) (s:Gst) (k:Nat),GInv spots sorts mass s k→s.hour≤hours→k + n≤10 →
  GInv spots sorts mass (Gst.run spots sorts mass hours n s) (k + n)
 | 0,s,k,h,_,_=>h
 | n + 1,s,k,h,h1,h2=>by
  rw [Gst.run,show k + (n + 1)=k + 1 + n by omega]
  obtain ⟨a,b⟩:=h.step hs hq hm hh (by omega) h1
  exact GInv.run hs hq hm hh n _ (k + 1) a b (by omega)
theorem ground_fair {x spots sorts acts mass hours:Int} (q1:1≤spots∧spots≤4) (q2:1≤sorts∧sorts≤4) (q3:0≤acts∧acts≤10) (q4:1≤mass∧mass≤10000) (q5:0≤hours∧hours≤72) :
  let M:=groundOf x spots sorts acts mass hours
  Fair M.g∧M.g.Spots.length≤4∧M.g.Sorts.length≤4∧M.g.Acts.length≤10∧M.truth.length=M.g.Acts.length∧∀ j:Nat,j < M.g.Spots.length→Fits j 0 (M.g.Acts.zip M.truth):=by
 have w1:=btw_spec (x:=x) (lo:=1) (hi:=spots) (by omega) (by omega) (by omega)
 unfold groundOf
 dsimp only
 have ok1:=goSpo_ok (btw x 1 spots).toNat (btwS x 1 spots) [] (by simp)
 have ln1:=goSpo_length (btw x 1 spots).toNat (btwS x 1 spots) []
 generalize goSpo (btw x 1 spots).toNat (btwS x 1 spots) []=a at ok1 ln1
 have w2:=btw_spec (x:=a.2) (lo:=1) (hi:=sorts) (by omega) (by omega) (by omega)
 have ok2:=goSrt_ok mass hours q4 q5 (btw a.2 1 sorts).toNat (btwS a.2 1 sorts) [] (by simp)
 have ln2:=goSrt_length (m:=mass) (h:=hours) (btw a.2 1 sorts).toNat (btwS a.2 1 sorts) []
 generalize goSrt mass hours (btw a.2 1 sorts).toNat (btwS a.2 1 sorts) []=b at ok2 ln2
 rw [w64_id (x:=acts + 1) (by omega) (by omega)]
 have w3:=below_spec b.2 (acts + 1) (by omega)
 have w3':=w3.2.1 (by omega)
 simp only [List.length_nil,Nat.zero_add] at ln1 ln2
 have start:GInv a.1.length b.1.length mass ⟨belowS b.2 (acts + 1),0,List.replicate a.1.length 0,[],[]⟩ 0:=by
  refine ⟨⟨Int.le_refl _,by show (0:Int)≤72;omega⟩,by simp,fun j hj=>?_,⟨rfl,rfl⟩,Int.le_refl _,fun _ _ _=>rfl,(fun a ha=>by cases ha),fun j hj=>⟨trivial, ?_⟩⟩
  ·have:(List.replicate a.1.length (0:Int)).getD j 0=0:=by simp [List.getD,hj]
   dsimp only
   rw [this];exact ⟨Int.le_refl _,by simp⟩
  ·have:(List.replicate a.1.length (0:Int)).getD j 0=0:=by simp [List.getD,hj]
   dsimp only
   rw [this]
   try rfl
 have inv:=GInv.run (by omega) (by omega) q4 q5 (below b.2 (acts + 1)).toNat _ 0 start q5.1 (by omega)
 generalize Gst.run a.1.length b.1.length mass hours (below b.2 (acts + 1)).toNat ⟨belowS b.2 (acts + 1),0,List.replicate a.1.length 0,[],[]⟩=st at inv
 have la:=inv.len
 have hck:check ⟨a.1,b.1,st.acts⟩=0:=by
  unfold check
  have m1:many (a.1.length:Nat) 4=0:=by unfold many;rw [if_neg (by omega),if_neg (by omega)]
  have m2:many (b.1.length:Nat) 4=0:=by unfold many;rw [if_neg (by omega),if_neg (by omega)]
  dsimp only
  rw [if_neg (by rw [m1];simp),if_pos (List.all_eq_true.2 ok1)]
  unfold check2
  dsimp only
  rw [if_neg (by rw [m2];simp),if_pos (List.all_eq_true.2 ok2)]
  unfold check3
  dsimp only
  rw [if_neg (by omega)]
  exact inv.chk _ rfl rfl
 have fi:=fun j hj=>(inv.fits j hj).1
 refine ⟨⟨hck,fun j hj=>?_,inv.pos⟩,by omega,by omega,by omega,by omega,fi⟩
 exact pile_ok (g:=⟨a.1,b.1,st.acts⟩) (truth:=st.truth) (by dsimp only;omega) (by dsimp only;omega) (fi j hj)
abbrev ActT:=Act×Int
def tipAft (spot:Int) (L:List ActT):Nat→Int
 | 0=>0
 | u + 1=>tipAft spot L u + if (L.getD u default).1.Spot=spot∧(L.getD u default).1.Take=false then (L.getD u default).2 else 0
def takAft (spot:Int) (L:List ActT):Nat→Int
 | 0=>0
 | u + 1=>takAft spot L u + if (L.getD u default).1.Spot=spot∧(L.getD u default).1.Take=true then (L.getD u default).2 else 0
def kndAft (spot:Int) (L:List Act):Nat→Int
 | 0=>0
 | u + 1=>if (L.getD u default).Spot=spot∧(L.getD u default).Take=false then (L.getD u default).Kind else kndAft spot L u
theorem tipAft_cons (spot:Int) (a:ActT) (L:List ActT):∀ u,tipAft spot (a :: L) (u + 1)=(if a.1.Spot=spot∧a.1.Take=false then a.2 else 0) + tipAft spot L u
 | 0=>by simp [tipAft]
 | u + 1=>by
  have ih:=tipAft_cons spot a L u
  rw [tipAft,ih,tipAft]
  simp only [List.getD_cons_succ]
  omega
theorem takAft_cons (spot:Int) (a:ActT) (L:List ActT):∀ u,takAft spot (a :: L) (u + 1)=(if a.1.Spot=spot∧a.1.Take=true then a.2 else 0) + takAft spot L u
 | 0=>by simp [takAft]
 | u + 1=>by
  have ih:=takAft_cons spot a L u
  rw [takAft,ih,takAft]
  simp only [List.getD_cons_succ]
  omega
structure FitAt (spot:Int) (L:List ActT) (lie:Int) (u:Nat):Prop where
 m:1≤(L.getD u default).1.Min∧(L.getD u default).1.Min≤(L.getD u default).2∧(L.getD u default).2≤(L.getD u default).1.Max∧(L.getD u default).1.Max≤1000000
 t:(L.getD u default).1.Take=true→(L.getD u default).2≤lie + tipAft spot L u - takAft spot L u
theorem Fits_at (spot:Int):∀ (L:List ActT) (lie:Int),Fits spot lie L→∀ u,u < L.length→(L.getD u default).1.Spot=spot→FitAt spot L lie u
 | [],_,_,u,h,_=>by simp at h
 | (a,t) :: L,lie,f,0,_,hs=>by
  rw [Fits] at f
  have hs:a.Spot=spot:=hs
  rw [if_pos hs] at f
  refine ⟨f.1,fun ht=>?_⟩
  have ht:a.Take=true:=ht
  have f2:=f.2
  rw [if_pos ht] at f2
  show t≤lie + 0 - 0
  have:=f2.1
  omega
 | (a,t) :: L,lie,f,u + 1,h,hs=>by
  rw [Fits] at f
  have hu:u < L.length:=by simpa using h
  have hs:(L.getD u default).1.Spot=spot:=hs
  by_cases c:a.Spot=spot
  ·rw [if_pos c] at f
   by_cases ct:a.Take=true
   ·have f2:=f.2
    rw [if_pos ct] at f2
    obtain ⟨m,k⟩:=Fits_at spot L _ f2.2 u hu hs
    refine ⟨m,fun hh=>?_⟩
    have:=k hh
    rw [tipAft_cons,takAft_cons,if_neg (by simp [ct]),if_pos ⟨c,ct⟩]
    show (L.getD u default).2≤_
    dsimp only
    omega
   ·have f2:=f.2
    rw [if_neg ct] at f2
    obtain ⟨m,k⟩:=Fits_at spot L _ f2 u hu hs
    refine ⟨m,fun hh=>?_⟩
    have:=k hh
    rw [tipAft_cons,takAft_cons,if_pos ⟨c,by simpa using ct⟩,if_neg (by simp [ct])]
    show (L.getD u default).2≤_
    dsimp only
    omega
  ·rw [if_neg c] at f
   obtain ⟨m,k⟩:=Fits_at spot L _ f u hu hs
   refine ⟨m,fun hh=>?_⟩
   have:=k hh
   rw [tipAft_cons,takAft_cons,if_neg (by simp [c]),if_neg (by simp [c])]
   show (L.getD u default).2≤_
   omega
theorem run_snoc (spot:Int) (a:Act):∀ (l:List Act) (i:Nat) (p:Pst),Pst.run spot i (l ++ [a]) p=if a.Spot=spot then (Pst.run spot i l p).step (i + l.length) a else Pst.run spot i l p
 | [],i,p=>rfl
 | b :: l,i,p=>by
  rw [List.cons_append,Pst.run,run_snoc spot a l (i + 1),Pst.run,List.length_cons,show i + 1 + l.length=i + (l.length + 1) by omega]
def prU (spot:Int) (L:List Act) (u:Nat):Pst:=Pst.run spot 0 (L.take u) pst0
theorem prU_succ (spot:Int) {L:List Act} {u:Nat} (h:u < L.length):prU spot L (u + 1)=if (L.getD u default).Spot=spot then (prU spot L u).step u (L.getD u default) else prU spot L u:=by
 unfold prU
 rw [take_getD h,run_snoc,List.length_take,Nat.min_eq_left (by omega),Nat.zero_add]
theorem prU_all (spot:Int) (L:List Act):prU spot L L.length=Pst.run spot 0 L pst0:=by unfold prU;rw [List.take_length]
theorem beforeL_snoc (v:Int) (m:Mom):∀ (l:List Mom) (out:Mom),beforeL v out (l ++ [m])=if m.act < v then m else beforeL v out l
 | [],out=>rfl
 | b :: l,out=>by
  rw [List.cons_append,beforeL,beforeL_snoc v m l,beforeL]
theorem prU_last (spot:Int) (L:List Act):∀ u,u≤L.length→(prU spot L u).m.act < u∧∃ init,(prU spot L u).ms=init ++ [(prU spot L u).m]
 | 0,_=>⟨by show (-1:Int) < 0;omega,[],rfl⟩
 | u + 1,h=>by
  obtain ⟨h1,i,h2⟩:=prU_last spot L u (by omega)
  rw [prU_succ spot (by omega)]
  split
  ·unfold Pst.step
   split
   ·exact ⟨by show (u:Int) < (u + 1:Nat);omega,_,rfl⟩
   ·exact ⟨by show (u:Int) < (u + 1:Nat);omega,_,rfl⟩
  ·exact ⟨by omega,i,h2⟩
theorem prU_before (spot:Int) (L:List Act) (out:Mom) {u:Nat}:∀ i,u + i≤L.length→beforeL u out (prU spot L (u + i)).ms=(prU spot L u).m
 | 0,h=>by
  obtain ⟨h1,i,h2⟩:=prU_last spot L u h
  rw [Nat.add_zero,h2,beforeL_snoc,if_pos h1]
 | i + 1,h=>by
  have ih:=prU_before spot L out (u:=u) i (by omega)
  rw [← Nat.add_assoc,prU_succ spot (by omega)]
  split
  ·unfold Pst.step
   split
   ·dsimp only
    rw [beforeL_snoc,if_neg (by dsimp only;omega),ih]
   ·dsimp only
    rw [beforeL_snoc,if_neg (by dsimp only;omega),ih]
  ·exact ih
theorem pile_before (g:Gnd) (spot:Int) {u:Nat} (hu:u≤g.Acts.length):(pile g spot).1.before u=(prU spot g.Acts u).m:=by
 have:=prU_before spot g.Acts ((pile g spot).1.m.getD 0 default) (u:=u) (g.Acts.length - u) (by omega)
 rw [show u + (g.Acts.length - u)=g.Acts.length by omega,prU_all] at this
 exact this
theorem know_ab {s:Sums} {a b:Nat} {m:Int} (ha:a < 11) (hb:b < 11) (haa:s.mat a a=0) (hbb:s.mat b b=0) (h1:-1000000≤m) (h2:m≤1000000) (h:(s.know a b m).2=true):(s.know a b m).1.mat a b≤m:=by
 by_cases c1:w64 (s.mat b a + m) < 0
 ·have:Swa.know s.1 a b m=(s.1,false):=by
   unfold Swa.know
   have c1':w64 (mat s.1 b a + m) < 0:=c1
   rw [if_pos c1']
  have h':(Swa.know s.1 a b m).2=true:=h
  rw [this] at h'
  cases h'
 ·by_cases c2:s.mat a b≤m
  ·rw [know_same c1 c2];exact c2
  ·obtain ⟨_,k⟩:=know_mat c1 c2
   have hf:far=1099511627776:=rfl
   rw [k a b ha hb,upE,haa,hbb,if_pos ⟨by omega,by omega⟩,w64_id (x:=0 + m) (by omega) (by omega),w64_id (by omega) (by omega)]
   omega
theorem know_le {s:Sums} {a b:Nat} {m:Int} {i k:Nat} (hi:i < 11) (hk:k < 11):(s.know a b m).1.mat i k≤s.mat i k:=by
 by_cases c1:w64 (s.mat b a + m) < 0
 ·have:s.know a b m=(s,false):=by
   unfold Sums.know
   have e:Swa.know s.1 a b m=(s.1,false):=by
    unfold Swa.know
    have c1':w64 (mat s.1 b a + m) < 0:=c1
    rw [if_pos c1']
   congr 1
   ·apply Subtype.ext
    show (Swa.know s.1 a b m).1=s.1
    rw [e]
   ·rw [e]
  rw [this];exact Int.le_refl _
 ·by_cases c2:s.mat a b≤m
  ·rw [know_same c1 c2];exact Int.le_refl _
  ·obtain ⟨_,k'⟩:=know_mat c1 c2
   rw [k' i k hi hk,upE]
   split
   ·omega
   ·exact Int.le_refl _
def Exact (L:List ActT):Prop:=∀ u,u < L.length→(L.getD u default).1.Min=(L.getD u default).2∧(L.getD u default).1.Max=(L.getD u default).2
structure PX (spot:Int) (L:List ActT) (i:Nat) (x:Nat→Int):Prop where
 ok:(prU spot (L.map (·.1)) i).ok=true
 nx:(prU spot (L.map (·.1)) i).next≤i
 tab:Tab (prU spot (L.map (·.1)) i).s.mat (prU spot (L.map (·.1)) i).next x
 hist:∀ u,u≤i→(prU spot (L.map (·.1)) u).next≤(prU spot (L.map (·.1)) i).next∧(prU spot (L.map (·.1)) u).m.tips≤(prU spot (L.map (·.1)) u).next∧(prU spot (L.map (·.1)) u).m.takes≤(prU spot (L.map (·.1)) u).next ∧
  x (prU spot (L.map (·.1)) u).m.tips=tipAft spot L u∧x (prU spot (L.map (·.1)) u).m.takes=takAft spot L u∧(prU spot (L.map (·.1)) u).m.kind=kndAft spot (L.map (·.1)) u
 tight:Exact L→∀ a b,a≤(prU spot (L.map (·.1)) i).next→b≤(prU spot (L.map (·.1)) i).next→(prU spot (L.map (·.1)) i).s.mat a b≤x b - x a
theorem map_getD (L:List ActT) (u:Nat):(L.map (·.1)).getD u default=(L.getD u default).1:=by
 simp only [List.getD,List.getElem?_map]
 cases L[u]? <;> rfl
theorem PX.start (spot:Int) (L:List ActT):PX spot L 0 fun _=>0:=by
 obtain ⟨x,hx,_⟩:=PInv.start.tab
 have h00:=hx.diag 0 (by omega)
 refine ⟨rfl,Nat.le_refl _,⟨hx.n10,hx.hi,hx.out,hx.diag,fun a b ha hb=>?_,hx.tri,fun _ _=>Int.le_refl _,fun _ _=>by show (0:Int)≤((0:Nat):Int) * 1000000;omega⟩,fun u hu=>?_,fun _ a b ha hb=>?_⟩
 ·have e1:a=0:=Nat.le_zero.1 ha
  have e2:b=0:=Nat.le_zero.1 hb
  subst e1;subst e2
  show (0:Int) - 0≤pst0.s.mat 0 0
  rw [h00];omega
 ·obtain rfl:u=0:=by omega
  exact ⟨Nat.le_refl _,Nat.le_refl _,Nat.le_refl _,rfl,rfl,rfl⟩
 ·have e1:a=0:=Nat.le_zero.1 ha
  have e2:b=0:=Nat.le_zero.1 hb
  subst e1;subst e2
  show pst0.s.mat 0 0≤(0:Int) - 0
  rw [h00];omega
theorem Tab.addT {s:Sums} {n:Nat} {x:Nat→Int} (h:Tab s.mat n x) (hn:n < 10) {p:Nat} {t:Int} (hp:p≤n) (l1:1≤t) (l4:t≤1000000) (k0:∀ a b,a≤n→b≤n→s.mat a b≤x b - x a) :
  ∀ a b,a≤n + 1→b≤n + 1→((s.know p (n + 1) t).1.know (n + 1) p (w64 (0 - t))).1.mat a b≤(if b=n + 1 then x p + t else x b) - if a=n + 1 then x p + t else x a:=by
 obtain ⟨k1,k2,k3,k4,k5⟩:=h.add hn (p:=p) (lo:=t) (hi:=t) (t:=t) hp l1 (Int.le_refl _) (Int.le_refl _) l4
 have q:=know_ab (s:=s) (a:=p) (b:=n + 1) (m:=t) (by omega) (by omega) (h.diag p (by omega)) (h.diag (n + 1) (by omega)) (by omega) (by omega) k1
 have q2:=know_le (s:=(s.know p (n + 1) t).1) (a:=n + 1) (b:=p) (m:=w64 (0 - t)) (i:=p) (k:=n + 1) (by omega) (by omega)
 generalize ((s.know p (n + 1) t).1.know (n + 1) p (w64 (0 - t))).1=y at k2 k3 k4 k5 q2
 have dd:=k3.diag (n + 1) (by omega)
 intro a b ha hb
 by_cases e1:a=n + 1
 ·by_cases e2:b=n + 1
  ·rw [if_pos e1,if_pos e2,e1,e2,dd];omega
  ·rw [if_pos e1,if_neg e2,e1,k5 b (by omega)]
   have:=k0 p b hp (by omega)
   omega
 ·by_cases e2:b=n + 1
  ·rw [if_neg e1,if_pos e2,e2]
   have t1:=k3.tri a p (n + 1) (by omega) (by omega) (by omega)
   rw [k4 a p (by omega) hp] at t1
   have:=k0 a p (by omega) hp
   omega
  ·rw [if_neg e1,if_neg e2,k4 a b (by omega) (by omega)]
   exact k0 a b (by omega) (by omega)
theorem PX.step {spot:Int} {L:List ActT} {i:Nat} {x:Nat→Int} (h:PX spot L i x) (hi:i < L.length) (hl:L.length≤10) (hf:(L.getD i default).1.Spot=spot→FitAt spot L 0 i):∃ x',PX spot L (i + 1) x':=by
 have hi':i < (L.map (·.1)).length:=by simpa using hi
 have e0:=prU_succ spot hi'
 rw [map_getD] at e0
 by_cases hs:(L.getD i default).1.Spot=spot
 ·rw [if_pos hs] at e0
  obtain ⟨q,qt⟩:=hf hs
  obtain ⟨n1,mt1,mt2,t1,t2,t3⟩:=h.hist i (Nat.le_refl _)
  have hn:=h.nx
  have hk:h.tab.n10=h.tab.n10:=rfl
  by_cases ht:(L.getD i default).1.Take=true
  ·rw [Pst.step_take ht] at e0
   have qt:=qt ht
   obtain ⟨k1,k2,k3,k4,k5⟩:=h.tab.add (by omega) mt2 q.1 q.2.1 q.2.2.1 q.2.2.2
   have kt:Exact L→_:=fun ex=>h.tab.addT (by omega) (p:=(prU spot (L.map (·.1)) i).m.takes) (t:=(L.getD i default).2) mt2 (by omega) (by omega) (h.tight ex)
   have htk:(prU spot (L.map (·.1)) i).tk (L.getD i default).1=(((prU spot (L.map (·.1)) i).s.know (prU spot (L.map (·.1)) i).m.takes ((prU spot (L.map (·.1)) i).next + 1) (L.getD i default).1.Max).1.know ((prU spot (L.map (·.1)) i).next + 1) (prU spot (L.map (·.1)) i).m.takes (w64 (0 - (L.getD i default).1.Min))).1.know (prU spot (L.map (·.1)) i).m.tips ((prU spot (L.map (·.1)) i).next + 1) 0:=by
    unfold Pst.tk knowIf
    simp only [h.ok,if_true,k1,k2]
   rw [htk] at e0
   have kt:Exact L→∀ a b,a≤(prU spot (L.map (·.1)) i).next + 1→b≤(prU spot (L.map (·.1)) i).next + 1→(((prU spot (L.map (·.1)) i).s.know (prU spot (L.map (·.1)) i).m.takes ((prU spot (L.map (·.1)) i).next + 1) (L.getD i default).1.Max).1.know ((prU spot (L.map (·.1)) i).next + 1) (prU spot (L.map (·.1)) i).m.takes (w64 (0 - (L.getD i default).1.Min))).1.mat a b≤(if b=(prU spot (L.map (·.1)) i).next + 1 then x (prU spot (L.map (·.1)) i).m.takes + (L.getD i default).2 else x b) - if a=(prU spot (L.map (·.1)) i).next + 1 then x (prU spot (L.map (·.1)) i).m.takes + (L.getD i default).2 else x a:=by
    intro ex
    have:=kt ex
    obtain ⟨x1,x2⟩:=ex i hi
    rw [x1,x2]
    exact this
   obtain ⟨z1,z2,z3,z4⟩:=k3.more (a:=(prU spot (L.map (·.1)) i).m.tips) (b:=(prU spot (L.map (·.1)) i).next + 1) (m:=0) (by omega) (Nat.le_refl _) (by
    rw [if_pos rfl,if_neg (by omega)]
    omega) (by omega) (by omega)
   refine ⟨fun j=>if j=(prU spot (L.map (·.1)) i).next + 1 then x (prU spot (L.map (·.1)) i).m.takes + (L.getD i default).2 else x j, ?_, ?_, ?_, ?_, ?_⟩
   rotate_left 2
   ·rw [e0];exact z2
   ·intro u hu
    by_cases eu:u=i + 1
    ·subst eu
     rw [e0]
     refine ⟨Nat.le_refl _,by dsimp only;omega,Nat.le_refl _, ?_, ?_, ?_⟩
     ·dsimp only
      rw [if_neg (by omega),t1,tipAft,if_neg (fun q=>by rw [ht] at q;cases q.2)];omega
     ·dsimp only
      rw [if_pos rfl,t2,takAft,if_pos ⟨hs,ht⟩]
     ·dsimp only
      rw [t3,kndAft,map_getD,if_neg (fun q=>by rw [ht] at q;cases q.2)]
    ·obtain ⟨n1,m1,m2,t1,t2,t3⟩:=h.hist u (by omega)
     rw [e0]
     dsimp only
     rw [if_neg (by omega),if_neg (by omega)]
     exact ⟨by omega,m1,m2,t1,t2,t3⟩
   ·intro ex a b ha hb
    rw [e0] at ha hb ⊢
    have:=kt ex a b ha hb
    have w:=z3 a b ha hb
    dsimp only
    omega
   ·rw [e0];exact z1
   ·rw [e0];show _ + 1≤_;omega
  ·rw [Pst.step_tip ht] at e0
   have ht':(L.getD i default).1.Take=false:=by simpa using ht
   obtain ⟨k1,k2,k3,k4,k5⟩:=h.tab.add (by omega) mt1 q.1 q.2.1 q.2.2.1 q.2.2.2
   have kt:Exact L→_:=fun ex=>h.tab.addT (by omega) (p:=(prU spot (L.map (·.1)) i).m.tips) (t:=(L.getD i default).2) mt1 (by omega) (by omega) (h.tight ex)
   have htp:(prU spot (L.map (·.1)) i).tp (L.getD i default).1=((prU spot (L.map (·.1)) i).s.know (prU spot (L.map (·.1)) i).m.tips ((prU spot (L.map (·.1)) i).next + 1) (L.getD i default).1.Max).1.know ((prU spot (L.map (·.1)) i).next + 1) (prU spot (L.map (·.1)) i).m.tips (w64 (0 - (L.getD i default).1.Min)):=by
    unfold Pst.tp knowIf
    simp only [h.ok,if_true,k1]
   rw [htp] at e0
   have kt:Exact L→∀ a b,a≤(prU spot (L.map (·.1)) i).next + 1→b≤(prU spot (L.map (·.1)) i).next + 1→(((prU spot (L.map (·.1)) i).s.know (prU spot (L.map (·.1)) i).m.tips ((prU spot (L.map (·.1)) i).next + 1) (L.getD i default).1.Max).1.know ((prU spot (L.map (·.1)) i).next + 1) (prU spot (L.map (·.1)) i).m.tips (w64 (0 - (L.getD i default).1.Min))).1.mat a b≤(if b=(prU spot (L.map (·.1)) i).next + 1 then x (prU spot (L.map (·.1)) i).m.tips + (L.getD i default).2 else x b) - if a=(prU spot (L.map (·.1)) i).next + 1 then x (prU spot (L.map (·.1)) i).m.tips + (L.getD i default).2 else x a:=by
    intro ex
    have:=kt ex
    obtain ⟨x1,x2⟩:=ex i hi
    rw [x1,x2]
    exact this
   refine ⟨fun j=>if j=(prU spot (L.map (·.1)) i).next + 1 then x (prU spot (L.map (·.1)) i).m.tips + (L.getD i default).2 else x j, ?_, ?_, ?_, ?_, ?_⟩
   rotate_left 2
   ·rw [e0];exact k3
   ·intro u hu
    by_cases eu:u=i + 1
    ·subst eu
     rw [e0]
     refine ⟨Nat.le_refl _,Nat.le_refl _,by dsimp only;omega, ?_, ?_, ?_⟩
     ·dsimp only
      rw [if_pos rfl,t1,tipAft,if_pos ⟨hs,ht'⟩]
     ·dsimp only
      rw [if_neg (by omega),t2,takAft,if_neg (fun q=>by rw [ht'] at q;cases q.2)];omega
     ·dsimp only
      rw [kndAft,map_getD,if_pos ⟨hs,ht'⟩]
    ·obtain ⟨n1,m1,m2,t1,t2,t3⟩:=h.hist u (by omega)
     rw [e0]
     dsimp only
     rw [if_neg (by omega),if_neg (by omega)]
     exact ⟨by omega,m1,m2,t1,t2,t3⟩
   ·intro ex a b ha hb
    rw [e0] at ha hb ⊢
    exact kt ex a b ha hb
   ·rw [e0];exact k2
   ·rw [e0];show _ + 1≤_;omega
 ·rw [if_neg hs] at e0
  refine ⟨x,by rw [e0];exact h.ok,by rw [e0];exact Nat.le_succ_of_le h.nx,by rw [e0];exact h.tab,fun u hu=>?_,fun ex=>by rw [e0];exact h.tight ex⟩
  by_cases eu:u=i + 1
  ·subst eu
   obtain ⟨n1,m1,m2,t1,t2,t3⟩:=h.hist i (Nat.le_refl _)
   rw [e0]
   refine ⟨Nat.le_refl _,m1,m2, ?_, ?_, ?_⟩
   ·rw [t1,tipAft,if_neg (fun q=>hs q.1)];omega
   ·rw [t2,takAft,if_neg (fun q=>hs q.1)];omega
   ·rw [t3,kndAft,map_getD,if_neg (fun q=>hs q.1)]
  ·rw [e0];exact h.hist u (by omega)
theorem PX.all {spot:Int} {L:List ActT} (hl:L.length≤10) (hf:Fits spot 0 L):∀ i,i≤L.length→∃ x,PX spot L i x
 | 0,_=>⟨_,PX.start spot L⟩
 | i + 1,h=>by
  obtain ⟨x,hx⟩:=PX.all hl hf i (by omega)
  exact hx.step (by omega) hl fun hs=>Fits_at spot L 0 hf i (by omega) hs
structure SpotX (g:Gnd) (spot:Int) (truth:List Int) (n:Nat) (x:Nat→Int):Prop where
 ok:(pile g spot).2=true
 tab:Tab (pile g spot).1.s.mat n x
 mom:∀ u,u≤g.Acts.length→((pile g spot).1.before u).tips≤n∧((pile g spot).1.before u).takes≤n∧x ((pile g spot).1.before u).tips=tipAft spot (g.Acts.zip truth) u∧x ((pile g spot).1.before u).takes=takAft spot (g.Acts.zip truth) u ∧
  ((pile g spot).1.before u).kind=kndAft spot g.Acts u
 tight:Exact (g.Acts.zip truth)→∀ a b,a≤n→b≤n→(pile g spot).1.s.mat a b≤x b - x a
theorem spotX {g:Gnd} {spot:Int} {truth:List Int} (hl:g.Acts.length≤10) (he:truth.length=g.Acts.length) (hf:Fits spot 0 (g.Acts.zip truth)):∃ n x,SpotX g spot truth n x:=by
 have hz:(g.Acts.zip truth).map (·.1)=g.Acts:=by
  rw [List.map_fst_zip]
  omega
 have hzl:(g.Acts.zip truth).length=g.Acts.length:=by rw [List.length_zip];omega
 obtain ⟨x,h⟩:=PX.all (by omega) hf (g.Acts.zip truth).length (Nat.le_refl _)
 have ep:∀ a:Pst,a=prU spot g.Acts g.Acts.length→pile g spot=(⟨a.s,a.ms⟩,a.ok):=by
  intro a ha
  rw [ha,prU_all];rfl
 have ep:=ep _ rfl
 refine ⟨(prU spot g.Acts g.Acts.length).next,x, ?_, ?_,fun u hu=>?_,fun ex=>?_⟩
 rotate_left
 ·have:=h.tab
  rw [hz,hzl] at this
  rw [ep];exact this
 ·rw [pile_before g spot hu]
  have:=h.hist u (by omega)
  rw [hz,hzl] at this
  exact ⟨Nat.le_trans this.2.1 this.1,Nat.le_trans this.2.2.1 this.1,this.2.2.2.1,this.2.2.2.2.1,this.2.2.2.2.2⟩
 ·have:=h.tight ex
  rw [hz,hzl] at this
  rw [ep];exact this
 ·have:=h.ok
  rw [hz,hzl] at this
  rw [ep];exact this
def tkStep (A:List Act) (spot:Int) (s:Int×List Int) (k:Nat):Int×List Int :=
 if (A.getD k default).Spot=spot∧(A.getD k default).Take=false then
  (w64 (s.1 - min s.1 (s.2.getD k 0)),s.2.set k (w64 (s.2.getD k 0 - min s.1 (s.2.getD k 0))))
 else s
def tkRun (A:List Act) (spot:Int) (i:Nat) (s:Int×List Int):Int×List Int:=(List.range i).foldl (tkStep A spot) s
structure DayS where
 left:List Int
 last:List Int
def dayStep (A:List Act) (truth:List Int) (d:DayS) (i:Nat):DayS :=
 if (A.getD i default).Take=true then ⟨(tkRun A (A.getD i default).Spot i (truth.getD i 0,d.left)).2,d.last⟩
 else ⟨d.left.set i (truth.getD i 0),d.last.set (A.getD i default).Spot.toNat i⟩
def dayRun (g:Gnd) (truth:List Int) (n:Nat):DayS:=(List.range n).foldl (dayStep g.Acts truth) ⟨List.replicate g.Acts.length 0,List.replicate g.Spots.length (-1)⟩
def dayOf (g:Gnd) (truth:List Int) (acts:Nat) (hour:Int):DayS:=dayRun g truth (min acts (untilL hour g.Acts))
def massGo (A:List Act) (left:List Int) (spot:Int) (n:Nat):Int:=(List.range n).foldl (fun s i=>if (A.getD i default).Spot=spot then w64 (s + left.getD i 0) else s) 0
def DayS.mass (d:DayS) (g:Gnd) (spot:Int):Int:=massGo g.Acts d.left spot d.left.length
theorem tkRun_succ (A:List Act) (spot:Int) (i:Nat) (s:Int×List Int):tkRun A spot (i + 1) s=tkStep A spot (tkRun A spot i s) i:=foldl_range_succ _ _ _
theorem dayRun_succ (g:Gnd) (truth:List Int) (n:Nat):dayRun g truth (n + 1)=dayStep g.Acts truth (dayRun g truth n) n:=foldl_range_succ _ _ _
theorem massGo_succ (A:List Act) (left:List Int) (spot:Int) (n:Nat):massGo A left spot (n + 1)=if (A.getD n default).Spot=spot then w64 (massGo A left spot n + left.getD n 0) else massGo A left spot n:=foldl_range_succ _ _ _
def sumL (A:List Act) (left:List Int) (spot:Int):Nat→Int
 | 0=>0
 | u + 1=>sumL A left spot u + if (A.getD u default).Spot=spot then left.getD u 0 else 0
theorem sumL_congr {A:List Act} {l m:List Int} {spot:Int}:∀ (u:Nat),(∀ k,k < u→(A.getD k default).Spot=spot→l.getD k 0=m.getD k 0)→sumL A l spot u=sumL A m spot u
 | 0,_=>rfl
 | u + 1,h=>by
  rw [sumL,sumL,sumL_congr u fun k hk=>h k (by omega)]
  by_cases c:(A.getD u default).Spot=spot
  ·rw [if_pos c,if_pos c,h u (by omega) c]
  ·rw [if_neg c,if_neg c]
theorem sumL_nonneg {A:List Act} {l:List Int} {spot:Int} (h:∀ k,0≤l.getD k 0):∀ u,0≤sumL A l spot u
 | 0=>Int.le_refl _
 | u + 1=>by
  have:=sumL_nonneg h u (A:=A) (spot:=spot)
  rw [sumL]
  have:=h u
  split <;> omega
structure TkI (A:List Act) (spot:Int) (t:Int) (l0:List Int) (k:Nat) (s:Int×List Int):Prop where
 len:s.2.length=l0.length
 rest:∀ j,k≤j→s.2.getD j 0=l0.getD j 0
 other:∀ j,(A.getD j default).Spot≠spot→s.2.getD j 0=l0.getD j 0
 bd:∀ j,0≤s.2.getD j 0∧s.2.getD j 0≤l0.getD j 0
 sum:∀ j,j≤k→sumL A s.2 spot j=max 0 (sumL A l0 spot j - t)
 n:s.1=max 0 (t - sumL A l0 spot k)
theorem tk_inv {A:List Act} {spot t:Int} {l0:List Int} (ht:0≤t∧t≤1000000) (hb:∀ j,0≤l0.getD j 0∧l0.getD j 0≤1000000) (hz:∀ j,(A.getD j default).Take=true→l0.getD j 0=0):∀ k,k≤l0.length→TkI A spot t l0 k (tkRun A spot k (t,l0))
 | 0,_=>⟨rfl,fun _ _=>rfl,fun _ _=>rfl,fun j=>⟨(hb j).1,Int.le_refl _⟩,fun j hj=>by
   obtain rfl:j=0:=by omega
   show (0:Int)=max 0 (0 - t);omega,by show t=max 0 (t - 0);omega⟩
 | k + 1,h=>by
  have I:=tk_inv ht hb hz k (by omega) (spot:=spot)
  rw [tkRun_succ]
  generalize tkRun A spot k (t,l0)=s at I
  unfold tkStep
  have hk:=I.bd k
  have hbk:=hb k
  have hr:=I.rest k (Nat.le_refl _)
  have hn:=I.n
  have h0:=sumL_nonneg (A:=A) (spot:=spot) (fun k=>(hb k).1) k
  by_cases c:(A.getD k default).Spot=spot∧(A.getD k default).Take=false
  ·rw [if_pos c]
   have b1:w64 (s.1 - min s.1 (s.2.getD k 0))=s.1 - min s.1 (s.2.getD k 0):=w64_id (by omega) (by omega)
   have b2:w64 (s.2.getD k 0 - min s.1 (s.2.getD k 0))=s.2.getD k 0 - min s.1 (s.2.getD k 0):=w64_id (by omega) (by omega)
   rw [b1,b2]
   have hlen:=I.len
   refine ⟨by simp [I.len],fun j hj=>?_,fun j hj=>?_,fun j=>?_,fun j hj=>?_, ?_⟩
   ·dsimp only
    rw [getD_set,if_neg (by omega)];exact I.rest j (by omega)
   ·dsimp only
    rw [getD_set,if_neg (fun (q:k=j∧k < s.2.length)=>hj (by rw [← q.1];exact c.1))];exact I.other j hj
   ·dsimp only
    rw [getD_set]
    split
    ·rename_i e
     have:=I.bd j
     rw [← e.1,← hr];omega
    ·exact I.bd j
   ·dsimp only
    by_cases ej:j=k + 1
    ·subst ej
     rw [sumL,sumL,if_pos c.1,if_pos c.1,getD_set,if_pos ⟨rfl,by omega⟩,sumL_congr (m:=s.2) k fun q hq _=>by rw [getD_set,if_neg (by omega)]]
     have:=I.sum k (Nat.le_refl _)
     omega
    ·rw [sumL_congr (m:=s.2) j fun q hq _=>by rw [getD_set,if_neg (by omega)]]
     exact I.sum j (by omega)
   ·dsimp only
    rw [sumL,if_pos c.1]
    omega
  ·rw [if_neg c]
   have hz0:(A.getD k default).Spot=spot→l0.getD k 0=0:=fun e=>hz k (by
    cases hh:(A.getD k default).Take with
    | true=>rfl
    | false=>exact absurd ⟨e,hh⟩ c)
   refine ⟨I.len,fun j hj=>I.rest j (by omega),I.other,I.bd,fun j hj=>?_, ?_⟩
   ·by_cases ej:j=k + 1
    ·subst ej
     have:=I.sum k (Nat.le_refl _)
     rw [sumL,sumL]
     by_cases e:(A.getD k default).Spot=spot
     ·rw [if_pos e,if_pos e,hr,hz0 e];omega
     ·rw [if_neg e,if_neg e];omega
    ·exact I.sum j (by omega)
   ·rw [sumL]
    by_cases e:(A.getD k default).Spot=spot
    ·rw [if_pos e,hz0 e];omega
    ·rw [if_neg e];omega
structure Few2 (g:Gnd) (truth:List Int):Prop where
 len:truth.length=g.Acts.length
 l10:g.Acts.length≤10
 m:∀ u,u < g.Acts.length→1≤truth.getD u 0∧truth.getD u 0≤1000000
 spot:∀ u,u < g.Acts.length→0≤(g.Acts.getD u default).Spot∧(g.Acts.getD u default).Spot < g.Spots.length
def lastAft (spot:Int) (L:List Act):Nat→Int
 | 0=>-1
 | u + 1=>if (L.getD u default).Spot=spot∧(L.getD u default).Take=false then u else lastAft spot L u
structure DayI (g:Gnd) (truth:List Int) (n:Nat) (d:DayS):Prop where
 len:d.left.length=g.Acts.length
 last:d.last.length=g.Spots.length
 lst:∀ j,j < g.Spots.length→d.last.getD j 0=lastAft j g.Acts n
 bd:∀ j,0≤d.left.getD j 0∧d.left.getD j 0≤1000000
 zero:∀ j,n≤j→d.left.getD j 0=0
 tk:∀ j,(g.Acts.getD j default).Take=true→d.left.getD j 0=0
 sum:∀ (spot:Int) (j:Nat),j≤n→sumL g.Acts d.left spot j=max 0 (tipAft spot (g.Acts.zip truth) j - takAft spot (g.Acts.zip truth) n)
theorem zip_getD {g:Gnd} {truth:List Int} (h:truth.length=g.Acts.length) {u:Nat} (hu:u < g.Acts.length):(g.Acts.zip truth).getD u default=(g.Acts.getD u default,truth.getD u 0):=by
 have h2:u < truth.length:=by omega
 have h3:u < (g.Acts.zip truth).length:=by rw [List.length_zip];omega
 rw [List.getD,List.getElem?_eq_getElem h3,List.getElem_zip]
 simp [List.getD,hu,h2]
theorem tipAft_nonneg {g:Gnd} {truth:List Int} (f:Few2 g truth) (spot:Int):∀ u,u≤g.Acts.length→0≤tipAft spot (g.Acts.zip truth) u∧tipAft spot (g.Acts.zip truth) u≤u * 1000000∧0≤takAft spot (g.Acts.zip truth) u∧takAft spot (g.Acts.zip truth) u≤u * 1000000
 | 0,_=>by show (0:Int)≤0∧(0:Int)≤((0:Nat):Int) * 1000000∧(0:Int)≤0∧(0:Int)≤((0:Nat):Int) * 1000000;omega
 | u + 1,h=>by
  have ih:=tipAft_nonneg f spot u (by omega)
  have hm:=f.m u (by omega)
  rw [tipAft,takAft,zip_getD f.len (by omega)]
  dsimp only
  split <;> split <;> omega
theorem day_inv {g:Gnd} {truth:List Int} (f:Few2 g truth) (fit:∀ spot u,u≤g.Acts.length→takAft spot (g.Acts.zip truth) u≤tipAft spot (g.Acts.zip truth) u):∀ n,n≤g.Acts.length→DayI g truth n (dayRun g truth n)
 | 0,_=>by
  have hz:∀ j,(List.replicate g.Acts.length (0:Int)).getD j 0=0:=fun j=>by
   simp only [List.getD,List.getElem?_replicate]
   split <;> rfl
  refine ⟨by simp [dayRun],by simp [dayRun],fun j hj=>?_,fun j=>?_,fun j _=>hz j,fun j _=>hz j,fun spot j hj=>?_⟩
  ·show (List.replicate g.Spots.length (-1:Int)).getD j 0 = -1
   simp [List.getD,hj]
  ·show 0≤(List.replicate g.Acts.length (0:Int)).getD j 0∧(List.replicate g.Acts.length (0:Int)).getD j 0≤1000000
   rw [hz];omega
  ·obtain rfl:j=0:=by omega
   show (0:Int)=max 0 (0 - 0)
   omega
 | n + 1,h=>by
  have I:=day_inv f fit n (by omega)
  rw [dayRun_succ]
  generalize dayRun g truth n=d at I
  have hm:=f.m n (by omega)
  have hsp:=f.spot n (by omega)
  have hlen:=I.len
  have hzg:=zip_getD f.len (show n < g.Acts.length by omega)
  unfold dayStep
  by_cases c:(g.Acts.getD n default).Take=true
  ·rw [if_pos c]
   have T:=tk_inv (A:=g.Acts) (spot:=(g.Acts.getD n default).Spot) (t:=truth.getD n 0) (l0:=d.left) (by omega) I.bd I.tk n (by omega)
   generalize tkRun g.Acts (g.Acts.getD n default).Spot n (truth.getD n 0,d.left)=s at T
   refine ⟨by rw [← I.len];exact T.len,I.last,fun j hj=>?_,fun j=>?_,fun j hj=>?_,fun j hj=>?_,fun spot j hj=>?_⟩
   ·dsimp only
    rw [I.lst j hj,lastAft,if_neg (fun q=>by rw [c] at q;cases q.2)]
   ·have:=T.bd j;have:=I.bd j;dsimp only;omega
   ·have:=T.rest j (by omega)
    dsimp only
    rw [this];exact I.zero j (by omega)
   ·have:=T.bd j;have:=I.tk j hj;dsimp only;omega
   ·have ht:∀ j,j≤n→sumL g.Acts s.2 spot j=max 0 (tipAft spot (g.Acts.zip truth) j - takAft spot (g.Acts.zip truth) (n + 1)):=by
     intro j hj
     rw [takAft,hzg]
     dsimp only
     have i1:=I.sum spot j hj
     by_cases e:(g.Acts.getD n default).Spot=spot
     ·subst e
      rw [if_pos ⟨rfl,c⟩,T.sum j hj,i1]
      omega
     ·rw [if_neg (fun q=>e q.1),sumL_congr (m:=d.left) j fun k hk hs=>T.other k (by rw [hs];exact fun q=>e q.symm),i1]
      omega
    dsimp only
    by_cases ej:j=n + 1
    ·subst ej
     rw [sumL,ht n (Nat.le_refl _),T.rest n (Nat.le_refl _),I.zero n (Nat.le_refl _),tipAft,hzg]
     dsimp only
     have e2:¬ ((g.Acts.getD n default).Spot=spot∧(g.Acts.getD n default).Take=false):=fun q=>by rw [c] at q;cases q.2
     rw [if_neg e2]
     split <;> omega
    ·exact ht j (by omega)
  ·rw [if_neg c]
   have c':(g.Acts.getD n default).Take=false:=by simpa using c
   refine ⟨by simp [I.len],by simp [I.last],fun j hj=>?_,fun j=>?_,fun j hj=>?_,fun j hj=>?_,fun spot j hj=>?_⟩
   ·dsimp only
    have hil:=I.last
    rw [getD_set,lastAft,I.lst j hj]
    by_cases e:(g.Acts.getD n default).Spot.toNat=j
    ·rw [if_pos ⟨e,by omega⟩,if_pos ⟨by omega,c'⟩]
    ·rw [if_neg (fun q=>e q.1),if_neg (fun q=>by have:=q.1;omega)]
   ·dsimp only
    rw [getD_set]
    split
    ·omega
    ·exact I.bd j
   ·dsimp only
    rw [getD_set,if_neg (by omega)];exact I.zero j (by omega)
   ·dsimp only
    rw [getD_set,if_neg (fun q=>by rw [q.1] at c';rw [hj] at c';cases c')];exact I.tk j hj
   ·dsimp only
    have ht:∀ j,j≤n→sumL g.Acts (d.left.set n (truth.getD n 0)) spot j=max 0 (tipAft spot (g.Acts.zip truth) j - takAft spot (g.Acts.zip truth) (n + 1)):=by
     intro j hj
     rw [sumL_congr (m:=d.left) j fun k hk hs=>by rw [getD_set,if_neg (by omega)],I.sum spot j hj,takAft,hzg]
     dsimp only
     rw [if_neg (fun q=>by rw [c'] at q;cases q.2)]
     omega
    by_cases ej:j=n + 1
    ·subst ej
     rw [sumL,ht n (Nat.le_refl _),getD_set,if_pos (show n=n∧n < d.left.length from ⟨rfl,by omega⟩),tipAft,hzg]
     dsimp only
     have fi:=fit spot n (by omega)
     have ek:takAft spot (g.Acts.zip truth) (n + 1)=takAft spot (g.Acts.zip truth) n:=by
      rw [takAft,hzg]
      dsimp only
      rw [if_neg (fun q=>by rw [c'] at q;cases q.2)]
      omega
     by_cases e:(g.Acts.getD n default).Spot=spot
     ·rw [if_pos e,if_pos ⟨e,c'⟩];omega
     ·rw [if_neg e,if_neg (fun q=>e q.1)];omega
    ·exact ht j (by omega)
theorem mass_sum {A:List Act} {left:List Int} {spot:Int} (hb:∀ j,0≤left.getD j 0∧left.getD j 0≤1000000):∀ n,n≤1000→massGo A left spot n=sumL A left spot n∧0≤sumL A left spot n∧sumL A left spot n≤n * 1000000
 | 0,_=>⟨rfl,Int.le_refl _,by show (0:Int)≤((0:Nat):Int) * 1000000;omega⟩
 | n + 1,h=>by
  obtain ⟨i1,i2,i3⟩:=mass_sum hb n (by omega) (A:=A) (spot:=spot)
  have:=hb n
  rw [massGo_succ,sumL,i1]
  split
  ·rw [w64_id (by omega) (by omega)];omega
  ·omega
theorem until_len (hour:Int):∀ l:List Act,untilL hour l≤l.length
 | []=>Nat.le_refl _
 | a :: l=>by
  have:=until_len hour l
  rw [untilL]
  split
  ·simp;omega
  ·omega
theorem day_mass {g:Gnd} {truth:List Int} (f:Few2 g truth) (fit:∀ spot u,u≤g.Acts.length→takAft spot (g.Acts.zip truth) u≤tipAft spot (g.Acts.zip truth) u) {n:Nat} (hn:n≤g.Acts.length) (spot:Int) :
  (dayRun g truth n).mass g spot=tipAft spot (g.Acts.zip truth) n - takAft spot (g.Acts.zip truth) n:=by
 have I:=day_inv f fit n hn
 have h10:=f.l10
 unfold DayS.mass
 rw [(mass_sum I.bd _ (by rw [I.len];omega)).1,I.len]
 have hx:∀ k,n + k≤g.Acts.length→sumL g.Acts (dayRun g truth n).left spot (n + k)=sumL g.Acts (dayRun g truth n).left spot n:=by
  intro k
  induction k with
  | zero=>intro _;rfl
  | succ k ih =>
   intro hk
   rw [← Nat.add_assoc,sumL,ih (by omega),I.zero (n + k) (by omega)]
   split <;> omega
 have:=hx (g.Acts.length - n) (by omega)
 rw [show n + (g.Acts.length - n)=g.Acts.length by omega] at this
 rw [this,I.sum spot n (Nat.le_refl _)]
 have:=fit spot n hn
 omega
theorem last_kind (spot:Int) (L:List Act):∀ n,(lastAft spot L n = -1∧kndAft spot L n=0)∨(0≤lastAft spot L n∧lastAft spot L n < n∧kndAft spot L n=(L.getD (lastAft spot L n).toNat default).Kind)
 | 0=>.inl ⟨rfl,rfl⟩
 | n + 1=>by
  rw [lastAft,kndAft]
  by_cases c:(L.getD n default).Spot=spot∧(L.getD n default).Take=false
  ·rw [if_pos c,if_pos c]
   right
   exact ⟨by omega,by omega,by simp⟩
  ·rw [if_neg c,if_neg c]
   rcases last_kind spot L n with h|h
   ·exact .inl h
   ·exact .inr ⟨h.1,by omega,h.2.2⟩
theorem last_none {spot:Int} {L:List ActT}:∀ {n},lastAft spot (L.map (·.1)) n = -1→tipAft spot L n=0
 | 0,_=>rfl
 | n + 1,h=>by
  rw [lastAft,map_getD] at h
  rw [tipAft]
  by_cases c:(L.getD n default).1.Spot=spot∧(L.getD n default).1.Take=false
  ·rw [if_pos c] at h;omega
  ·rw [if_neg c] at h ⊢
   rw [last_none h];omega
abbrev k2 (a b:Int):Value:=.agg ⟨[.int .i64 a,.int .i64 b]⟩
theorem dflat_k2 (a b:Int):dflat (k2 a b)=true:=by simp [dflat,flat]
section
variable {P:Program} {t e:TypeId}
theorem pr_sizeOf {s:Nat} (hs:tySize P e=some s):pr P (Go.sizeOf e)=some s:=by
 unfold tySize at hs
 unfold Go.sizeOf typeInfo
 cases hi:P.info? e with
 | none=>rw [hi] at hs;cases hs
 | some i =>
  rw [hi] at hs
  simp only [Option.map_some,Option.some.injEq] at hs
  simp [pr_bind',pr_program,hi,hs]
theorem pr_equal_k2' (hu:P.underlying t=some (.array 2 e)) (hs:tySize P e=some 1) (he:tyAgg P e=some false) (hi:P.underlying e=some (.int .i64)) (a b c d:Int) (z:Nat) :
  pr P (Op.equalIn (z + 1 + 1) t (k2 a b) (k2 c d))=some (decide (a=c∧b=d)):=by
 have p0:∀ x y:Int,pr P (part e #[.int .i64 x,.int .i64 y] 0)=some (.int .i64 x):=fun x y=>pr_part1 he rfl
 have p1:∀ x y:Int,pr P (part e #[.int .i64 x,.int .i64 y] 1)=some (.int .i64 y):=fun x y=>pr_part1 he rfl
 have q:∀ x y:Int,pr P (Op.equalIn (z + 1) e (.int .i64 x) (.int .i64 y))=some (x == y):=by
  intro x y
  simp only [Op.equalIn,pr_bind',underlying,pr_program,Option.bind_some,hi,pr_pure,if_true]
 rw [Op.equalIn]
 simp only [pr_bind',underlying,pr_program,Option.bind_some,hu,pr_pure,pr_sizeOf hs]
 simp only [Std.Legacy.Range.forIn_eq_forIn_range',Std.Legacy.Range.size,List.range'_succ,List.range'_zero,List.forIn_cons,List.forIn_nil,pr_bind',p0,p1,q,Option.bind_some,Nat.zero_mul,Nat.mul_one,Nat.zero_add]
 by_cases h1:a=c
 ·by_cases h2:b=d
  ·simp [h1,h2,p0,p1,q,pr_bind',pr_ite,pr_pure,List.range'_succ]
  ·simp [h1,h2,p0,p1,q,pr_bind',pr_ite,pr_pure,List.range'_succ]
 ·simp [h1,p0,p1,q,pr_bind',pr_ite,pr_pure]
theorem pr_equal_k2 (hu:P.underlying t=some (.array 2 e)) (hs:tySize P e=some 1) (he:tyAgg P e=some false) (hi:P.underlying e=some (.int .i64)) (a b c d:Int) :
  pr P (Op.equal t (k2 a b) (k2 c d))=some (decide (a=c∧b=d)):=by
 exact pr_equal_k2' hu hs he hi a b c d 9998
theorem keyOk_k2 (hu:P.underlying t=some (.array 2 e)) (hs:tySize P e=some 1) (he:tyAgg P e=some false) (hi:P.underlying e=some (.int .i64)) (a b:Int):keyOk P t (k2 a b)=true:=by
 have p0:∀ x y:Int,pr P (part e #[.int .i64 x,.int .i64 y] 0)=some (.int .i64 x):=fun x y=>pr_part1 he rfl
 have p1:∀ x y:Int,pr P (part e #[.int .i64 x,.int .i64 y] 1)=some (.int .i64 y):=fun x y=>pr_part1 he rfl
 have q:∀ (em:Bool) (z:Nat) (x:Int),pr P (Instr.checkKey em (z + 1) e (.int .i64 x))=some ():=by
  intro em z x
  rw [Instr.checkKey]
  simp only [pr_bind',underlying,pr_program,Option.bind_some,hi,pr_pure]
 have k:∀ (em:Bool) (z:Nat),pr P (Instr.checkKey em (z + 1 + 1) t (k2 a b))=some ():=by
  intro em z
  rw [Instr.checkKey]
  simp only [pr_bind',underlying,pr_program,Option.bind_some,hu,pr_pure,pr_sizeOf hs]
  simp only [Std.Legacy.Range.forIn_eq_forIn_range',Std.Legacy.Range.size]
  simp [List.range'_succ,pr_bind',pr_sizeOf hs,p0,p1,q,pr_pure]
 unfold keyOk
 have k1:pr P (Instr.checkKey true 10000 t (k2 a b))=some ():=k true 9998
 have k2:pr P (Instr.checkKey false 10000 t (k2 a b))=some ():=k false 9998
 rw [k1,k2,dflat_k2]
 rfl
end
abbrev Ent2:=(Int×Int)×Int
def entK (l:List Ent2):List (Value×Value):=l.map fun e=>(k2 e.1.1 e.1.2,.int .i64 e.2)
def findE (a b:Int):List Ent2→Nat→Option (Nat×Value)
 | [],_=>none
 | x :: l,i=>if a=x.1.1∧b=x.1.2 then some (i,.int .i64 x.2) else findE a b l (i + 1)
theorem findM_k2 {P:Program} {t e:TypeId} (hu:P.underlying t=some (.array 2 e)) (hs:tySize P e=some 1) (he:tyAgg P e=some false) (hi:P.underlying e=some (.int .i64)) (a b:Int) :
  ∀ (l:List Ent2) (i:Nat),findM P t (k2 a b) (entK l) i=some (findE a b l i)
 | [],i=>rfl
 | x :: l,i=>by
  show findM P t (k2 a b) ((k2 x.1.1 x.1.2,.int .i64 x.2) :: entK l) i=_
  rw [findM,pr_equal_k2 hu hs he hi,findE]
  by_cases c:a=x.1.1∧b=x.1.2
  ·rw [decide_eq_true c,if_pos c]
  ·rw [decide_eq_false c,if_neg c]
   exact findM_k2 hu hs he hi a b l (i + 1)
theorem findE_app {a b:Int}:∀ {l m:List Ent2} {i:Nat},findE a b l i=none→findE a b (l ++ m) i=findE a b m (i + l.length)
 | [],m,i,_=>rfl
 | x :: l,m,i,h=>by
  rw [findE] at h
  by_cases c:a=x.1.1∧b=x.1.2
  ·rw [if_pos c] at h;cases h
  ·rw [if_neg c] at h
   rw [List.cons_append,findE,if_neg c,findE_app h,List.length_cons]
   congr 1
   omega
theorem findE_hit {a b:Int} {y:Nat×Value}:∀ {l m:List Ent2} {i:Nat},findE a b l i=some y→findE a b (l ++ m) i=some y
 | [],m,i,h=>by cases h
 | x :: l,m,i,h=>by
  rw [findE] at h
  rw [List.cons_append,findE]
  by_cases c:a=x.1.1∧b=x.1.2
  ·rw [if_pos c] at h ⊢;exact h
  ·rw [if_neg c] at h ⊢;exact findE_hit h
theorem mapUpdate_k2 {P:Program} {mt t v e:TypeId} (hm:P.underlying mt=some (.map t v)) (hu:P.underlying t=some (.array 2 e)) (hs:tySize P e=some 1) (he:tyAgg P e=some false) (hi:P.underlying e=some (.int .i64)) {H:AHeap} {r:Nat} {l:List Ent2} {a b d:Int}
  (hg:H.get r=.map (entK l)) (hn:findE a b l 0=none):mapUpdateA P mt (.map (some r)) (k2 a b) (.int .i64 d) H=some (H.put r (.map (entK (l ++ [((a,b),d)])))):=by
 unfold mapUpdateA
 rw [hm]
 dsimp only
 rw [if_pos (keyOk_k2 hu hs he hi a b),hg]
 dsimp only
 rw [findM_k2 hu hs he hi,hn]
 simp [entK]
theorem build_k2 {P:Program} {t e:TypeId} (hu:P.underlying t=some (.array 2 e)) (hz:tyZero P t=some (k2 0 0)) (hs:tySize P e=some 1) (a b:Int):buildA P t [(0,.int .i64 a),(1,.int .i64 b)]=some (k2 a b):=by
 unfold buildA
 rw [hu,hz]
 dsimp only
 rw [if_pos (dflat_k2 0 0),hs]
 rfl
def distS (x y:Spo):Int:=w64 (max (w64 (x.X - y.X)) (w64 (y.X - x.X)) + max (w64 (x.Y - y.Y)) (w64 (y.Y - x.Y)))
def dist (g:Gnd) (a b:Nat):Int:=distS (g.Spots.getD a default) (g.Spots.getD b default)
def nearRow (g:Gnd) (b:Nat):Nat→List Ent2
 | 0=>[]
 | a + 1=>nearRow g b a ++ [(((a:Int),(b:Int)),dist g a b)]
def nearAll (g:Gnd):Nat→List Ent2
 | 0=>[]
 | b + 1=>nearAll g b ++ nearRow g b b
theorem findE_none {a b:Int}:∀ {l:List Ent2} {i:Nat},(∀ x,x∈l→¬ (a=x.1.1∧b=x.1.2))→findE a b l i=none
 | [],_,_=>rfl
 | x :: l,i,h=>by
  rw [findE,if_neg (h x (List.mem_cons_self ..))]
  exact findE_none fun y hy=>h y (List.mem_cons_of_mem _ hy)
theorem nearRow_mem {g:Gnd} {b:Nat}:∀ {a:Nat} {x:Ent2},x∈nearRow g b a→x.1.2=b∧x.1.1 < a
 | 0,x,h=>by cases h
 | a + 1,x,h=>by
  rcases List.mem_append.1 h with h|h
  ·have:=nearRow_mem h;exact ⟨this.1,by omega⟩
  ·rw [List.mem_singleton.1 h];exact ⟨rfl,by show (a:Int) < _;omega⟩
theorem nearAll_mem {g:Gnd}:∀ {n:Nat} {x:Ent2},x∈nearAll g n→x.1.2 < n
 | 0,x,h=>by cases h
 | n + 1,x,h=>by
  rcases List.mem_append.1 h with h|h
  ·have:=nearAll_mem h;omega
  ·have:=(nearRow_mem h).1;omega
theorem near_new {g:Gnd} {a b:Nat}:findE a b (nearAll g b ++ nearRow g b a) 0=none:=by
 refine findE_none fun x hx=>?_
 rintro ⟨h1,h2⟩
 rcases List.mem_append.1 hx with h|h
 ·have:=nearAll_mem h;omega
 ·have:=nearRow_mem h;omega
theorem nearRow_hit {g:Gnd} {a b:Nat}:∀ {n i:Nat},a < n→∃ j,findE a b (nearRow g b n) i=some (j,iv (dist g a b))
 | 0,i,h=>by omega
 | n + 1,i,h=>by
  by_cases e:a < n
  ·obtain ⟨j,hj⟩:=nearRow_hit (g:=g) (b:=b) (i:=i) e
   exact ⟨j,findE_hit hj⟩
  ·have e:a=n:=by omega
   subst e
   refine ⟨i + (nearRow g b a).length, ?_⟩
   rw [nearRow,findE_app (findE_none fun x hx=>by have:=nearRow_mem hx;omega),findE,if_pos ⟨rfl,rfl⟩]
theorem near_hit {g:Gnd} {a b:Nat} (hab:a < b):∀ {n:Nat},b < n→∃ j,findE a b (nearAll g n) 0=some (j,iv (dist g a b))
 | 0,h=>by omega
 | n + 1,h=>by
  by_cases e:b < n
  ·obtain ⟨j,hj⟩:=near_hit hab e
   exact ⟨j,findE_hit hj⟩
  ·have e:b=n:=by omega
   subst e
   obtain ⟨j,hj⟩:=nearRow_hit (g:=g) (b:=b) (i:=0 + (nearAll g b).length) hab
   refine ⟨j, ?_⟩
   rw [nearAll,findE_app (findE_none fun x hx=>by have:=nearAll_mem hx;omega),hj]
def holdsP (g:Gnd) (spot kind:Nat):Int:=w64 ((w64 (w64 ((g.Sorts.getD kind default).High * (g.Sorts.getD kind default).Dense) * (g.Spots.getD spot default).Area)).tdiv 100)
def fireMax (g:Gnd) (s t:Int):Int:=max (g.Sorts.getD s.toNat default).Fire (g.Sorts.getD t.toNat default).Fire
theorem prU_kind (spot:Int) (L:List Act):∀ u,u≤L.length→(prU spot L u).m.kind=kndAft spot L u
 | 0,_=>rfl
 | u + 1,h=>by
  have ih:=prU_kind spot L u (by omega)
  rw [prU_succ spot (by omega),kndAft]
  by_cases c:(L.getD u default).Spot=spot
  ·rw [if_pos c]
   by_cases t:(L.getD u default).Take=true
   ·rw [Pst.step_take t,if_neg (fun q=>by rw [t] at q;cases q.2)];exact ih
   ·rw [Pst.step_tip t,if_pos ⟨c,by simpa using t⟩]
  ·rw [if_neg c,if_neg (fun q=>c q.1)];exact ih
theorem before_kind (g:Gnd) (spot:Int) {u:Nat} (hu:u≤g.Acts.length):((pile g spot).1.before u).kind=kndAft spot g.Acts u:=by
 rw [pile_before g spot hu];exact prU_kind spot g.Acts u hu
theorem inB_elim {n a b:Int} (h:inB n a b=true):a≤n∧n≤b:=of_decide_eq_true h
theorem checkAct_mk {g:Gnd} {last:Int} {a:Act} (h:checkAct g last a=0) (hs:g.Spots.length≤4) (hq:g.Sorts.length≤4):ActOk g.Spots.length g.Sorts.length last a:=by
 have e1:w64 ((g.Spots.length:Int) - 1)=g.Spots.length - 1:=w64_id (by omega) (by omega)
 have e2:w64 ((g.Sorts.length:Int) - 1)=g.Sorts.length - 1:=w64_id (by omega) (by omega)
 unfold checkAct at h
 rw [e1,e2] at h
 by_cases c1:inB a.Hour 0 72=true
 ·rw [if_neg (by simp [c1])] at h
  by_cases c2:a.Hour < last
  ·rw [if_pos c2] at h;cases h
  ·rw [if_neg c2] at h
   by_cases c3:inB a.Spot 0 (g.Spots.length - 1)=true∧inB a.Kind 0 (g.Sorts.length - 1)=true
   ·rw [if_neg (by simp [c3])] at h
    by_cases c4:(a.Take && decide (a.Kind≠0))=true
    ·rw [if_pos c4] at h;cases h
    ·rw [if_neg c4] at h
     by_cases c5:inB a.Min 1 1000000=true∧inB a.Max 1 1000000=true
     ·rw [if_neg (by simp [c5])] at h
      by_cases c6:a.Max < a.Min
      ·rw [if_pos c6] at h;cases h
      ·have b1:=inB_elim c1
       have b2:=inB_elim c3.1
       have b3:=inB_elim c3.2
       have b4:=inB_elim c5.1
       have b5:=inB_elim c5.2
       refine ⟨⟨b1.1,b1.2,by omega⟩,⟨b2.1,by omega⟩,⟨b3.1,by omega⟩,fun ht=>?_,⟨b4.1,by omega,b5.2⟩⟩
       rw [ht] at c4
       simpa using c4
     ·rw [if_pos (by simp only [Bool.or_eq_true,Bool.not_eq_true'];rcases Decidable.not_and_iff_or_not.1 c5 with q|q <;> simp [q])] at h
      cases h
   ·rw [if_pos (by simp only [Bool.or_eq_true,Bool.not_eq_true'];rcases Decidable.not_and_iff_or_not.1 c3 with q|q <;> simp [q])] at h
    cases h
 ·rw [if_pos (by simp [c1])] at h;cases h
theorem checkActs_at {g:Gnd} (hs:g.Spots.length≤4) (hq:g.Sorts.length≤4):∀ (l:List Act) (h:Int),checkActs g h l=0→∀ u,u < l.length→∃ last,ActOk g.Spots.length g.Sorts.length last (l.getD u default)
 | [],_,_,u,hu=>by simp at hu
 | a :: l,h,k,u,hu=>by
  rw [checkActs] at k
  by_cases c:checkAct g h a≠0
  ·rw [if_pos c] at k;exact absurd k c
  ·rw [if_neg c] at k
   cases u with
   | zero=>exact ⟨h,checkAct_mk (Decidable.not_not.1 c) hs hq⟩
   | succ u =>
    have hu:u < l.length:=by simpa using hu
    exact checkActs_at hs hq l a.Hour k u hu
theorem Ok.at {g:Gnd} (h:Ok g) {u:Nat} (hu:u < g.Acts.length):∃ last,ActOk g.Spots.length g.Sorts.length last (g.Acts.getD u default) :=
 checkActs_at h.spots.2 h.sorts.2 g.Acts 0 h.act u hu
theorem Ok.kind {g:Gnd} (h:Ok g) (spot:Int):∀ u,u≤g.Acts.length→0≤kndAft spot g.Acts u∧kndAft spot g.Acts u < g.Sorts.length
 | 0,_=>⟨Int.le_refl _,by show (0:Int) < _;have:=h.sorts;omega⟩
 | u + 1,hu=>by
  rw [kndAft]
  split
  ·obtain ⟨_,a⟩:=h.at (u:=u) (by omega)
   exact ⟨a.k.1,a.k.2⟩
  ·exact h.kind spot u (by omega)
theorem knownGo_at {g:Gnd}:∀ (n i:Nat) (acc:List Hp),(∀ j,j < acc.length→acc.getD j default=(pile g (j:Nat)).1)→acc.length=i→∀ j,j < (knownGo g i n acc).1.length→(knownGo g i n acc).1.getD j default=(pile g (j:Nat)).1
 | 0,i,acc,h,_=>h
 | n + 1,i,acc,h,hi=>by
  rw [knownGo]
  split
  ·refine knownGo_at n (i + 1) _ (fun j hj=>?_) (by simp [hi])
   by_cases e:j < acc.length
   ·rw [getD_appL e];exact h j e
   ·have e:j=acc.length:=by simp at hj;omega
    subst e
    rw [getD_appR,hi]
  ·exact h
theorem known_at {g:Gnd} {j:Nat} (hj:j < (known g).1.length):(known g).1.getD j default=(pile g (j:Nat)).1:=knownGo_at g.Spots.length 0 [] (fun j hj=>by cases hj) rfl j hj
theorem known_kind {g:Gnd} (h:Ok g) {j:Nat} (hj:j < (known g).1.length) {u:Nat} (hu:u≤g.Acts.length):0≤(((known g).1.getD j default).before u).kind∧(((known g).1.getD j default).before u).kind < g.Sorts.length:=by
 rw [known_at hj,before_kind g j hu]
 exact h.kind _ u hu
theorem getD_setA {α:Type} [Inhabited α] {l:List α} {n m:Nat} {v:α}:(l.set n v).getD m default=if n=m∧n < l.length then v else l.getD m default:=by
 simp only [List.getD]
 by_cases h:n=m
 ·subst h
  by_cases hl:n < l.length
  ·simp [hl]
  ·simp [hl]
 ·rw [List.getElem?_set_ne h,if_neg (fun hh=>h hh.1)]
theorem getD_mapA {α β:Type} [Inhabited α] [Inhabited β] {f:α→β} {l:List α} {i:Nat} (h:i < l.length):(l.map f).getD i default=f (l.getD i default):=by simp [List.getD,h]
structure True5 (g:Gnd) (truth:List Int):Prop where
 ok:Ok g
 ck:check g=0
 len:truth.length=g.Acts.length
 fit:∀ j:Nat,j < g.Spots.length→Fits j 0 (g.Acts.zip truth)
theorem True5.at {g:Gnd} {truth:List Int} (h:True5 g truth) {u:Nat} (hu:u < g.Acts.length):1≤truth.getD u 0∧truth.getD u 0≤1000000∧(g.Acts.getD u default).Min≤truth.getD u 0∧truth.getD u 0≤(g.Acts.getD u default).Max∧0≤(g.Acts.getD u default).Spot∧(g.Acts.getD u default).Spot < g.Spots.length:=by
 obtain ⟨_,a⟩:=h.ok.at hu
 have sa:=a.s
 have hl:=h.len
 have:=Fits_at ((g.Acts.getD u default).Spot.toNat:Nat) (g.Acts.zip truth) 0 (h.fit _ (by omega)) u (by rw [List.length_zip];omega) (by rw [zip_getD h.len hu];dsimp only;omega)
 have m:=this.m
 rw [zip_getD h.len hu] at m
 dsimp only at m
 omega
theorem True5.few {g:Gnd} {truth:List Int} (h:True5 g truth):Few2 g truth:=⟨h.len,h.ok.acts,fun u hu=>by have:=h.at hu;omega,fun u hu=>by have:=h.at hu;omega⟩
theorem tip_other {g:Gnd} {truth:List Int} (h:True5 g truth) {spot:Int} (hs:spot < 0∨g.Spots.length≤spot):∀ u,u≤g.Acts.length→tipAft spot (g.Acts.zip truth) u=0∧takAft spot (g.Acts.zip truth) u=0
 | 0,_=>⟨rfl,rfl⟩
 | u + 1,hu=>by
  obtain ⟨h1,h2⟩:=tip_other h hs u (by omega)
  have:=h.at (u:=u) (by omega)
  rw [tipAft,takAft,zip_getD h.len (by omega),h1,h2]
  dsimp only
  rw [if_neg (fun q=>by have:=q.1;omega),if_neg (fun q=>by have:=q.1;omega)]
  exact ⟨rfl,rfl⟩
theorem tak_le (spot:Int) (L:List ActT) (f:∀ u,u < L.length→(L.getD u default).1.Spot=spot→FitAt spot L 0 u):∀ u,u≤L.length→takAft spot L u≤tipAft spot L u
 | 0,_=>Int.le_refl _
 | u + 1,h=>by
  have ih:=tak_le spot L f u (by omega)
  rw [tipAft,takAft]
  by_cases c:(L.getD u default).1.Spot=spot
  ·obtain ⟨m,t⟩:=f u (by omega) c
   by_cases ct:(L.getD u default).1.Take=true
   ·have:=t ct
    have n1:¬ ((L.getD u default).1.Spot=spot∧(L.getD u default).1.Take=false):=fun q=>by rw [ct] at q;cases q.2
    rw [if_neg n1,if_pos (show (L.getD u default).1.Spot=spot∧(L.getD u default).1.Take=true from ⟨c,ct⟩)];omega
   ·have ct':(L.getD u default).1.Take=false:=by simpa only [Bool.not_eq_true] using ct
    have n1:¬ ((L.getD u default).1.Spot=spot∧(L.getD u default).1.Take=true):=fun q=>by rw [ct'] at q;cases q.2
    rw [if_neg n1,if_pos (show (L.getD u default).1.Spot=spot∧(L.getD u default).1.Take=false from ⟨c,ct'⟩)];omega
  ·have n1:¬ ((L.getD u default).1.Spot=spot∧(L.getD u default).1.Take=true):=fun q=>c q.1
   have n2:¬ ((L.getD u default).1.Spot=spot∧(L.getD u default).1.Take=false):=fun q=>c q.1
   rw [if_neg n1,if_neg n2];omega
theorem True5.le {g:Gnd} {truth:List Int} (h:True5 g truth) (spot:Int) (u:Nat) (hu:u≤g.Acts.length):takAft spot (g.Acts.zip truth) u≤tipAft spot (g.Acts.zip truth) u:=by
 have hl:=h.len
 by_cases c:spot < 0∨(g.Spots.length:Int)≤spot
 ·obtain ⟨h1,h2⟩:=tip_other h c u hu
  rw [h1,h2];exact Int.le_refl _
 ·obtain ⟨j,rfl⟩:∃ j:Nat,spot=j:=⟨spot.toNat,by omega⟩
  exact tak_le j _ (fun v hv hs=>Fits_at j _ 0 (h.fit j (by omega)) v hv hs) u (by rw [List.length_zip];omega)
theorem True5.mass {g:Gnd} {truth:List Int} (h:True5 g truth) {n:Nat} (hn:n≤g.Acts.length) (spot:Int):(dayRun g truth n).mass g spot=tipAft spot (g.Acts.zip truth) n - takAft spot (g.Acts.zip truth) n :=
 day_mass h.few h.le hn spot
theorem True5.day {g:Gnd} {truth:List Int} (h:True5 g truth) {n:Nat} (hn:n≤g.Acts.length):DayI g truth n (dayRun g truth n):=day_inv h.few h.le n hn
theorem True5.spot {g:Gnd} {truth:List Int} (h:True5 g truth) {j:Nat} (hj:j < g.Spots.length):∃ n x,SpotX g j truth n x:=spotX h.ok.acts h.len (h.fit j hj)
theorem True5.known {g:Gnd} {truth:List Int} (h:True5 g truth):(Swa.known g).2=0∧(Swa.known g).1=(List.range g.Spots.length).map fun j=>(pile g (j:Nat)).1 :=
 known_get fun j hj=>by obtain ⟨n,x,k⟩:=h.spot hj;exact k.ok
def nearS (g:Gnd) (a b:Nat) (s t:Int):Bool:=decide (dist g a b < fireMax g s t)
def kindOf (g:Gnd) (d:DayS) (a:Nat):Int:=(g.Acts.getD (d.last.getD a 0).toNat default).Kind
theorem distS_comm (x y:Spo):distS x y=distS y x:=by
 unfold distS
 rw [Int.max_comm,Int.max_comm (w64 (x.Y - y.Y))]
theorem okSrt_elim {s:Srt} (h:okSrt s=true):1≤s.High∧s.High≤1000∧1≤s.Dense∧s.Dense≤8000∧0≤s.Fire∧s.Fire≤100∧0≤s.Age∧s.Age≤72:=by
 unfold okSrt at h
 simp only [Bool.and_eq_true] at h
 have a:=inB_elim h.1.1.1
 have b:=inB_elim h.1.1.2
 have c:=inB_elim h.1.2
 have d:=inB_elim h.2
 omega
theorem okSpo_elim {s:Spo} (h:okSpo s=true):0≤s.X∧s.X≤1000∧0≤s.Y∧s.Y≤1000∧1≤s.Area∧s.Area≤1000:=by
 unfold okSpo at h
 simp only [Bool.and_eq_true] at h
 have a:=inB_elim h.1.1
 have b:=inB_elim h.1.2
 have c:=inB_elim h.2
 omega
theorem getD_mem {α:Type} [Inhabited α] {l:List α} {i:Nat} (h:i < l.length):l.getD i default∈l:=by
 simp [List.getD,h]
theorem holds_val {g:Gnd} (ok:Ok g) {a:Nat} {kind:Int} (ha:a < g.Spots.length) (hk:0≤kind∧kind < g.Sorts.length) :
  ∃ c,c=(g.Sorts.getD kind.toNat default).High * (g.Sorts.getD kind.toNat default).Dense * (g.Spots.getD a default).Area∧0≤c∧c≤8000000000∧holdsP g a kind.toNat=c / 100∧w64 (w64 ((g.Sorts.getD kind.toNat default).High * (g.Sorts.getD kind.toNat default).Dense) * (g.Spots.getD a default).Area)=c:=by
 have s:=okSrt_elim (ok.sort _ (getD_mem (show kind.toNat < g.Sorts.length by omega)))
 have p:=okSpo_elim (ok.spot _ (getD_mem ha))
 unfold holdsP
 generalize (g.Sorts.getD kind.toNat default).High=h at *
 generalize (g.Sorts.getD kind.toNat default).Dense=d at *
 generalize (g.Spots.getD a default).Area=r at *
 have p1:h * d≤1000 * 8000:=Int.mul_le_mul s.2.1 s.2.2.2.1 (by omega) (by omega)
 have p0:0≤h * d:=Int.mul_nonneg (by omega) (by omega)
 have p2:h * d * r≤8000000 * 1000:=Int.mul_le_mul p1 p.2.2.2.2.2 (by omega) (by omega)
 have p3:0≤h * d * r:=Int.mul_nonneg p0 (by omega)
 refine ⟨h * d * r,rfl,p3,by omega, ?_, ?_⟩
 ·rw [w64_id (x:=h * d) (by omega) (by omega),w64_id (x:=h * d * r) (by omega) (by omega),Int.tdiv_eq_ediv_of_nonneg p3,w64_id (by omega) (by omega)]
 ·rw [w64_id (x:=h * d) (by omega) (by omega),w64_id (by omega) (by omega)]
theorem ground_true {x spots sorts acts mass hours:Int} (q1:1≤spots∧spots≤4) (q2:1≤sorts∧sorts≤4) (q3:0≤acts∧acts≤10) (q4:1≤mass∧mass≤10000) (q5:0≤hours∧hours≤72) :
  True5 (groundOf x spots sorts acts mass hours).g (groundOf x spots sorts acts mass hours).truth:=by
 obtain ⟨a,b,c,d,e,f⟩:=ground_fair (x:=x) q1 q2 q3 q4 q5
 exact ⟨check_ok a.ck,a.ck,e,f⟩
theorem True5.last {g:Gnd} {truth:List Int} (h:True5 g truth) {a:Nat} (ha:a < g.Spots.length) {n:Nat} (hn:n≤g.Acts.length) (hm:(dayRun g truth n).mass g a≠0) :
  0≤(dayRun g truth n).last.getD a 0∧(dayRun g truth n).last.getD a 0 < n:=by
 have hz:(g.Acts.zip truth).map (·.1)=g.Acts:=by rw [List.map_fst_zip];have:=h.len;omega
 rw [h.mass hn] at hm
 have tn:=tipAft_nonneg h.few a n hn
 have le:=h.le a n hn
 rw [(h.day hn).lst a ha]
 rcases last_kind a g.Acts n with ⟨q1,q2⟩|⟨q1,q2,q3⟩
 ·have q1':lastAft a ((g.Acts.zip truth).map (·.1)) n = -1:=by rw [hz];exact q1
  have:=last_none q1'
  omega
 ·exact ⟨q1,q2⟩
theorem True5.kindOf {g:Gnd} {truth:List Int} (h:True5 g truth) (a:Nat) (d:DayS) {n:Nat} (hn:n≤g.Acts.length) (hl:0≤d.last.getD a 0∧d.last.getD a 0 < n):0≤Swa.kindOf g d a∧Swa.kindOf g d a < g.Sorts.length:=by
 obtain ⟨_,A⟩:=h.ok.at (u:=(d.last.getD a 0).toNat) (by omega)
 exact ⟨A.k.1,A.k.2⟩
structure Way where
 spot:Nat
 a:Nat
 b:Nat
 most:Int
 deriving DecidableEq,Inhabited
def eWay (w:Way):List Value:=[iv w.spot,iv w.a,iv w.b,iv w.most]
theorem eWay_len (w:Way):(eWay w).length=4:=rfl
abbrev Rul:=List Way
def emptyW (spot:Nat) (m:Mom):Way:=⟨spot,m.takes,m.tips,0⟩
structure Hst where
 out:List Rul
 before:Nat
 tips:Nat
 deriving Inhabited
def hStep (g:Gnd) (h:Hp) (spot:Nat) (hour:Int) (now:Mom) (s:Hst) (i:Nat) (a:Act):Hst :=
 if a.Take=true∨hour < a.Hour then s
 else
  let m:=h.before i
  let tips:=(h.before (i + 1:Nat)).tips
  let o1:=if w64 (a.Hour + (g.Sorts.getD a.Kind.toNat default).Age) < hour then s.out ++ [[⟨spot,now.takes,tips,0⟩]] else s.out
  let o2:=if a.Hour=hour∧0 < s.before∧m.kind≠a.Kind then o1 ++ [[emptyW spot m]] else o1
  ⟨o2,tips,tips⟩
def hRun (g:Gnd) (h:Hp) (spot:Nat) (hour:Int) (now:Mom):Nat→List Act→Hst→Hst
 | _,[],s=>s
 | i,a :: l,s=>hRun g h spot hour now (i + 1) l (if a.Spot=spot then hStep g h spot hour now s i a else s)
def nowOf (g:Gnd) (h:Hp) (hour:Int):Mom:=h.before (untilL hour g.Acts)
def heapRules (g:Gnd) (h:Hp) (spot:Nat) (hour:Int):List Rul :=
 let now:=nowOf g h hour
 (hRun g h spot hour now 0 g.Acts ⟨[[⟨spot,now.takes,now.tips,holdsP g spot now.kind.toNat⟩]],0,0⟩).out
def pairOne (g:Gnd) (hs:List Hp) (hour:Int) (b a:Nat):List Rul :=
 let m:=nowOf g (hs.getD a default) hour
 let n:=nowOf g (hs.getD b default) hour
 if m.tips=0∨n.tips=0∨fireMax g m.kind n.kind≤dist g a b then [] else [[emptyW a m,emptyW b n]]
def pairRow (g:Gnd) (hs:List Hp) (hour:Int) (b:Nat):Nat→List Rul
 | 0=>[]
 | a + 1=>pairRow g hs hour b a ++ pairOne g hs hour b a
def pairRules (g:Gnd) (hs:List Hp) (hour:Int):Nat→List Rul
 | 0=>[]
 | b + 1=>pairRules g hs hour b ++ pairRow g hs hour b b
def heapsR (g:Gnd) (hs:List Hp) (hour:Int):Nat→List Rul
 | 0=>[]
 | n + 1=>heapsR g hs hour n ++ heapRules g (hs.getD n default) n hour
def Way.ok (w:Way) (all:List Sums):Bool:=decide ((all.getD w.spot default).mat w.a w.b≤w.most)
def breaksR (all:List Sums) (r:Rul):Bool:=r.all fun w=>!w.ok all
def keptL:List Rul→List Sums→Bool
 | [],_=>true
 | r :: rs,all =>
  if r.any (fun w=>w.ok all)=true then keptL rs all
  else r.any fun w=>((all.getD w.spot default).know w.a w.b w.most).2 && keptL rs (all.set w.spot ((all.getD w.spot default).know w.a w.b w.most).1)
structure Bst where
 perhaps:Int
 singles:List Rul
 doubles:List Rul
def earlierI (a b:Int):Int:=if a < 0∨b < a then b else a
def bStep (g:Gnd) (hs:List Hp) (s:Bst) (hour:Nat):Bst×Bool :=
 let heaps:=heapsR g hs hour g.Spots.length
 let pairs:=pairRules g hs hour g.Spots.length
 let all:=hs.map (·.s)
 let p:=if (heaps ++ pairs).any (breaksR all)=true then earlierI s.perhaps hour else s.perhaps
 let t:Bst:=⟨p,s.singles ++ heaps,s.doubles ++ pairs⟩
 (t,decide (0≤p) && !keptL (t.singles ++ t.doubles) all)
def bGo (g:Gnd) (hs:List Hp):Nat→Nat→Bst→Int×Int
 | 0,_,s=>(s.perhaps,-1)
 | n + 1,hour,s=>if (bStep g hs s hour).2=true then ((bStep g hs s hour).1.perhaps,hour) else bGo g hs n (hour + 1) (bStep g hs s hour).1
def breaks (g:Gnd):Int×Int×Int :=
 if check g≠0 then (0,0,check g)
 else if (known g).2≠0 then (0,0,(known g).2)
 else ((bGo g (known g).1 73 0 ⟨-1,[],[]⟩).1,(bGo g (known g).1 73 0 ⟨-1,[],[]⟩).2,0)
def Triv (all:List Sums) (l:List Rul):Prop:=∀ r,r∈l→r.any (fun w=>w.ok all)=true
theorem keptL_triv {all:List Sums}:∀ {l m:List Rul},Triv all l→keptL (l ++ m) all=keptL m all
 | [],m,_=>rfl
 | r :: l,m,h=>by
  rw [List.cons_append,keptL,if_pos (h r (List.mem_cons_self ..))]
  exact keptL_triv fun r hr=>h r (List.mem_cons_of_mem _ hr)
theorem pile_zero (g:Gnd) (spot:Int):(pile g spot).1.before 0=mom0:=by
 have:=pile_before g spot (u:=0) (Nat.zero_le _)
 exact this

section
variable {g k:Gnd} {P:List Act} {a b:Act} {R:List Act}
end
section
variable {g k:Gnd} {P:List Act} {a b:Act} {R:List Act}
end
section
variable {g k:Gnd} {P:List Act} {a b:Act} {R:List Act}
end
theorem below_in (x n:Int) (h:1 < n) (h2:n < 1000):0≤below x n∧below x n < n:=by
 have q:=below_spec x n (by omega)
 exact ⟨q.1,q.2.1 (by omega)⟩
theorem True5.masses0 {g:Gnd} {t:List Int} (h:True5 g t) {hour:Int} (h0:0≤hour) (h1:hour≤72):(masses g hour).2=0∧(masses g hour).1.length < 1099511627776:=by
 have hs:=h.ok.spots
 unfold masses
 rw [if_neg (fun q=>q h.ck),if_pos (inB_mk h0 h1),if_neg (fun q=>q h.known.1)]
 refine ⟨rfl, ?_⟩
 show ((Swa.known g).1.map _).length < _
 rw [List.length_map]
 have hkl:=known_len (g:=g)
 omega
structure Tb (T:Nat→Nat→Int) (n:Nat):Prop where
 n10:n≤10
 hi:∀ a b,a≤n→b≤n→T a b≤n * 1000000
 out:∀ a b,a < 11→b < 11→n < a∨n < b→a≠b→T a b=far
 diag:∀ a,a < 11→T a a=0
 tri:∀ a b c,a≤n→b≤n→c≤n→T a c≤T a b + T b c
theorem Tab.tb {T:Nat→Nat→Int} {n:Nat} {x:Nat→Int} (h:Tab T n x):Tb T n :=
 ⟨h.n10,h.hi,h.out,h.diag,h.tri⟩
theorem Tb.lt {T:Nat→Nat→Int} {n:Nat} (h:Tb T n) {a b:Nat} (ha:a≤n) (hb:b≤n):T a b≤10000000∧-10000000≤T a b:=by
 have h1:=h.hi a b ha hb
 have h2:=h.hi b a hb ha
 have h3:=h.tri a b a ha hb ha
 have h5:=h.n10
 have h4:=h.diag a (by omega)
 omega
def Sol (T:Nat→Nat→Int) (n:Nat) (y:Nat→Int):Prop:=∀ a b,a≤n→b≤n→y b - y a≤T a b
theorem Tb.row {T:Nat→Nat→Int} {n:Nat} (h:Tb T n) {a:Nat} (ha:a≤n):Sol T n (T a):=fun b c hb hc=>by
 have:=h.tri a b c ha hb hc
 omega
theorem know_no {s:Sums} {a b:Nat} {m:Int} (h:w64 (s.mat b a + m) < 0):s.know a b m=(s,false):=by
 have e:Swa.know s.1 a b m=(s.1,false):=by
  unfold Swa.know
  have h':w64 (mat s.1 b a + m) < 0:=h
  rw [if_pos h']
 unfold Sums.know
 congr 1
 ·apply Subtype.ext
  show (Swa.know s.1 a b m).1=s.1
  rw [e]
 ·rw [e]
theorem Tb.know {s:Sums} {n:Nat} (h:Tb s.mat n) {a b:Nat} {m:Int} (ha:a≤n) (hb:b≤n) (m1:-1000000000000≤m) (m2:m≤1000000000000) :
  ((s.know a b m).2=true→Tb (s.know a b m).1.mat n∧∀ y,Sol (s.know a b m).1.mat n y↔Sol s.mat n y∧y b - y a≤m) ∧
  ((s.know a b m).2=false→∀ y,Sol s.mat n y→¬ y b - y a≤m):=by
 have n10:=h.n10
 have hba:=h.lt hb ha
 have ew:w64 (s.mat b a + m)=s.mat b a + m:=w64_id (by omega) (by omega)
 by_cases c1:w64 (s.mat b a + m) < 0
 ·rw [know_no c1]
  refine ⟨(fun q=>nomatch q),fun _ y hy=>?_⟩
  have:=hy b a hb ha
  omega
 ·by_cases c2:s.mat a b≤m
  ·rw [know_same c1 c2]
   refine ⟨fun _=>⟨h,fun y=>⟨fun q=>⟨q, ?_⟩,fun q=>q.1⟩⟩,fun q=>nomatch q⟩
   have:y b - y a≤s.mat a b:=q a b ha hb
   omega
  ·obtain ⟨k1,k2⟩:=know_mat c1 c2
   rw [k1]
   refine ⟨fun _=>?_,fun q=>nomatch q⟩
   have hab:=h.lt ha hb
   have up:∀ i k,i≤n→k≤n→(s.know a b m).1.mat i k=min (s.mat i k) (s.mat i a + m + s.mat b k):=by
    intro i k hi hk
    have q1:=h.lt hi ha
    have q2:=h.lt hb hk
    rw [k2 i k (by omega) (by omega),upE,if_pos ⟨by unfold far;omega,by unfold far;omega⟩,w64_id (x:=s.mat i a + m) (by omega) (by omega),w64_id (by omega) (by omega)]
   generalize (s.know a b m).1=s' at k2 up
   have daa:=h.diag a (by omega)
   have dbb:=h.diag b (by omega)
   refine ⟨⟨n10,fun i k hi hk=>?_,fun i k hi hk ho hne=>?_,fun i hi=>?_,fun i j k hi hj hk=>?_⟩,fun y=>⟨fun q=>⟨fun i k hi hk=>?_, ?_⟩,fun q i k hi hk=>?_⟩⟩
   ·rw [up i k hi hk];have:=h.hi i k hi hk;omega
   ·rw [k2 i k hi hk,upE,if_neg,h.out i k hi hk ho hne]
    rintro ⟨q1,q2⟩
    rcases ho with ho|ho
    ·by_cases e:i=a
     ·omega
     ·rw [h.out i a hi (by omega) (.inl ho) e] at q1;omega
    ·by_cases e:b=k
     ·omega
     ·rw [h.out b k (by omega) hk (.inr ho) e] at q2;omega
   ·by_cases hin:i≤n
    ·rw [up i i hin hin,h.diag i hi]
     have:=h.tri b i a hb hin ha
     omega
    ·rw [k2 i i hi hi,upE,if_neg,h.diag i hi]
     rintro ⟨q1,q2⟩
     rw [h.out i a hi (by omega) (.inl (by omega)) (by omega)] at q1;omega
   ·rw [up i k hi hk,up i j hi hj,up j k hj hk]
    have t1:=h.tri i j k hi hj hk
    have t2:=h.tri b j k hb hj hk
    have t3:=h.tri i j a hi hj ha
    have t5:=h.tri b j a hb hj ha
    omega
   ·have:=q i k hi hk
    rw [up i k hi hk] at this;omega
   ·have:=q a b ha hb
    rw [up a b ha hb] at this;omega
   ·rw [up i k hi hk]
    have q1:=q.1 i k hi hk
    have q2:=q.1 i a hi ha
    have q3:=q.1 b k hb hk
    omega
def Yd (N:Nat→Nat) (all:List Sums):Prop:=∀ j,j < all.length→Tb (all.getD j default).mat (N j)
def SolA (N:Nat→Nat) (all:List Sums) (y:Nat→Nat→Int):Prop:=∀ j,j < all.length→Sol (all.getD j default).mat (N j) (y j)
def Way.is (w:Way) (y:Nat→Nat→Int):Prop:=y w.spot w.b - y w.spot w.a≤w.most
structure WayIn (N:Nat→Nat) (len:Nat) (w:Way):Prop where
 s:w.spot < len
 a:w.a≤N w.spot
 b:w.b≤N w.spot
 m1:-1000000000000≤w.most
 m2:w.most≤1000000000000
def RulIs (r:Rul) (y:Nat→Nat→Int):Prop:=∃ w,w∈r∧w.is y
theorem Way.ok_is {N:Nat→Nat} {all:List Sums} {w:Way} (i:WayIn N all.length w) (h:w.ok all=true) {y:Nat→Nat→Int} (hy:SolA N all y):w.is y:=by
 have:=hy w.spot i.s w.a w.b i.a i.b
 have:=of_decide_eq_true h
 unfold Way.is
 omega
theorem sol_set {N:Nat→Nat} {all:List Sums} {w:Way} (i:WayIn N all.length w) (hd:Yd N all) (h:((all.getD w.spot default).know w.a w.b w.most).2=true) :
  Yd N (all.set w.spot ((all.getD w.spot default).know w.a w.b w.most).1)∧∀ y,SolA N (all.set w.spot ((all.getD w.spot default).know w.a w.b w.most).1) y↔SolA N all y∧w.is y:=by
 obtain ⟨k1,k2⟩:=((hd w.spot i.s).know i.a i.b i.m1 i.m2).1 h
 generalize ((all.getD w.spot default).know w.a w.b w.most).1=s' at k1 k2
 have hs:=i.s
 have e:∀ j,j < all.length→(all.set w.spot s').getD j default=if w.spot=j then s' else all.getD j default:=fun j hj=>by
  rw [getD_setA]
  by_cases c:w.spot=j
  ·rw [if_pos ⟨c,hs⟩,if_pos c]
  ·rw [if_neg (fun q=>c q.1),if_neg c]
 have l:(all.set w.spot s').length=all.length:=List.length_set ..
 refine ⟨fun j hj=>?_,fun y=>⟨fun q=>?_,fun q j hj=>?_⟩⟩
 ·rw [l] at hj
  rw [e j hj]
  split
  ·rename_i c;rw [← c];exact k1
  ·exact hd j hj
 ·have q0:=q w.spot (by rw [l];exact hs)
  rw [e _ hs,if_pos rfl] at q0
  obtain ⟨q1,q2⟩:=(k2 _).1 q0
  refine ⟨fun j hj=>?_,q2⟩
  by_cases c:w.spot=j
  ·rw [← c];exact q1
  ·have:=q j (by rw [l];exact hj)
   rw [e j hj,if_neg c] at this
   exact this
 ·rw [l] at hj
  rw [e j hj]
  split
  ·rename_i c;rw [← c];exact (k2 _).2 ⟨q.1 w.spot hs,q.2⟩
  ·exact q.1 j hj
theorem kept_iff {N:Nat→Nat}:∀ (rs:List Rul) (all:List Sums),Yd N all→(∀ r,r∈rs→∀ w,w∈r→WayIn N all.length w)→(keptL rs all=true↔∃ y,SolA N all y∧∀ r,r∈rs→RulIs r y)
 | [],all,hd,_=>by
  refine ⟨fun _=>⟨fun j=>(all.getD j default).mat 0,fun j hj=>(hd j hj).row (Nat.zero_le _),fun r hr=>by cases hr⟩,fun _=>rfl⟩
 | r :: rs,all,hd,hw=>by
  have hw':∀ r',r'∈rs→∀ w,w∈r'→WayIn N all.length w:=fun r' hr=>hw r' (List.mem_cons_of_mem _ hr)
  have hr:=hw r (List.mem_cons_self ..)
  rw [keptL]
  by_cases c:r.any (fun w=>w.ok all)=true
  ·rw [if_pos c,kept_iff rs all hd hw']
   obtain ⟨w,hm,hk⟩:=List.any_eq_true.1 c
   constructor
   ·rintro ⟨y,y1,y2⟩
    refine ⟨y,y1,fun r' hr'=>?_⟩
    rcases List.mem_cons.1 hr' with rfl|hr'
    ·exact ⟨w,hm,Way.ok_is (hr w hm) hk y1⟩
    ·exact y2 r' hr'
   ·rintro ⟨y,y1,y2⟩
    exact ⟨y,y1,fun r' hr'=>y2 r' (List.mem_cons_of_mem _ hr')⟩
  ·rw [if_neg c,List.any_eq_true]
   constructor
   ·rintro ⟨w,hm,hk⟩
    rw [Bool.and_eq_true] at hk
    obtain ⟨d,e⟩:=sol_set (hr w hm) hd hk.1
    obtain ⟨y,y1,y2⟩:=(kept_iff rs _ d (fun r' h' w' hw''=>by rw [List.length_set];exact hw' r' h' w' hw'')).1 hk.2
    have q:=(e y).1 y1
    refine ⟨y,q.1,fun r' hr'=>?_⟩
    rcases List.mem_cons.1 hr' with rfl|hr'
    ·exact ⟨w,hm,q.2⟩
    ·exact y2 r' hr'
   ·rintro ⟨y,y1,y2⟩
    obtain ⟨w,hm,hk⟩:=y2 r (List.mem_cons_self ..)
    refine ⟨w,hm, ?_⟩
    have i:=hr w hm
    rw [Bool.and_eq_true]
    have h:((all.getD w.spot default).know w.a w.b w.most).2=true:=by
     cases h:((all.getD w.spot default).know w.a w.b w.most).2 with
     | true=>rfl
     | false=>exact absurd hk (((hd w.spot i.s).know i.a i.b i.m1 i.m2).2 h (y w.spot) (y1 w.spot i.s))
    obtain ⟨d,e⟩:=sol_set i hd h
    exact ⟨h,(kept_iff rs _ d (fun r' h' w' hw''=>by rw [List.length_set];exact hw' r' h' w' hw'')).2 ⟨y,(e y).2 ⟨y1,hk⟩,fun r' hr'=>y2 r' (List.mem_cons_of_mem _ hr')⟩⟩
theorem breaks_of {N:Nat→Nat} {all:List Sums} {r:Rul} (hw:∀ w,w∈r→WayIn N all.length w) {y:Nat→Nat→Int} (hy:SolA N all y) (h:¬ RulIs r y):breaksR all r=true:=by
 unfold breaksR
 rw [List.all_eq_true]
 intro w hm
 cases hk:w.ok all with
 | false=>rfl
 | true=>exact absurd ⟨w,hm,Way.ok_is (hw w hm) hk hy⟩ h
theorem kept_any {all:List Sums} {l:List Rul} (h:l.any (breaksR all)=false):keptL l all=true:=by
 have t:Triv all l:=fun r hr=>by
  rw [List.any_eq_false] at h
  have:=h r hr
  unfold breaksR at this
  cases c:r.any fun w=>w.ok all with
  | true=>rfl
  | false =>
   rw [List.any_eq_false] at c
   exact absurd (List.all_eq_true.2 fun w hw=>by have:=c w hw;simpa using this) this
 have:=keptL_triv (m:=[]) t
 rw [List.append_nil] at this
 rw [this];rfl
def upS (g:Gnd) (hs:List Hp):Nat→List Rul
 | 0=>[]
 | h + 1=>upS g hs h ++ heapsR g hs h g.Spots.length
def upD (g:Gnd) (hs:List Hp):Nat→List Rul
 | 0=>[]
 | h + 1=>upD g hs h ++ pairRules g hs h g.Spots.length
def rulB (g:Gnd) (hs:List Hp) (h:Nat):Prop:=(heapsR g hs h g.Spots.length ++ pairRules g hs h g.Spots.length).any (breaksR (hs.map (·.s)))=true
def rulK (g:Gnd) (hs:List Hp) (h:Nat):Prop:=keptL (upS g hs (h + 1) ++ upD g hs (h + 1)) (hs.map (·.s))=true
def FirstI (B:Nat→Prop) (p:Int):Prop:=(∃ h:Nat,p=h∧h≤72∧B h∧∀ h',h' < h→¬ B h')∨(p = -1∧∀ h,h≤72→¬ B h)
theorem FirstI.later {B B':Nat→Prop} {p p':Int} (h:FirstI B p) (h':FirstI B' p') (hb:∀ h,h≤72→B h→B' h):p < 0∨(0≤p'∧p'≤p):=by
 rcases h with ⟨a,rfl,a1,a2,a3⟩|⟨rfl,a⟩
 ·right
  have q:=hb a a1 a2
  rcases h' with ⟨b,rfl,b1,b2,b3⟩|⟨rfl,b⟩
  ·have:¬ a < b:=fun c=>b3 a c q
   omega
  ·exact absurd q (b a a1)
 ·left;omega
theorem FirstI.ge {B:Nat→Prop} {p:Int} (h:FirstI B p):-1≤p∧p≤72:=by
 rcases h with ⟨a,rfl,a1,a2,a3⟩|⟨rfl,a⟩ <;> omega
theorem any_upto {all:List Sums} {g:Gnd} {hs:List Hp}:∀ h:Nat,(∀ h':Nat,h' < h→(heapsR g hs h' g.Spots.length ++ pairRules g hs h' g.Spots.length).any (breaksR all)=false)→(upS g hs h ++ upD g hs h).any (breaksR all)=false
 | 0,_=>rfl
 | h + 1,k=>by
  have ih:=any_upto h fun h' q=>k h' (by omega)
  have k0:=k h (by omega)
  rw [upS,upD]
  simp only [List.any_append,Bool.or_eq_false_iff] at ih k0 ⊢
  exact ⟨⟨ih.1,k0.1⟩,ih.2,k0.2⟩
theorem bGo_first (g:Gnd) (hs:List Hp):∀ (n hour:Nat) (s:Bst),n + hour=73→s.singles=upS g hs hour→s.doubles=upD g hs hour →
  ((∃ h:Nat,s.perhaps=h∧h < hour∧rulB g hs h∧∀ h',h' < h→¬ rulB g hs h')∨(s.perhaps = -1∧∀ h,h < hour→¬ rulB g hs h))→(∀ h,h < hour→rulK g hs h) →
  FirstI (rulB g hs) (bGo g hs n hour s).1∧FirstI (fun h=>¬ rulK g hs h) (bGo g hs n hour s).2
 | 0,hour,s,hn,_,_,hp,hk=>by
  refine ⟨?_,.inr ⟨rfl,fun h q r=>r (hk h (by omega))⟩⟩
  rcases hp with ⟨h,e,h1,h2,h3⟩|⟨e,h1⟩
  ·exact .inl ⟨h,e,by omega,h2,h3⟩
  ·exact .inr ⟨e,fun h q=>h1 h (by omega)⟩
 | n + 1,hour,s,hn,h1,h2,hp,hk=>by
  obtain ⟨t,ht⟩:∃ t,t=(bStep g hs s hour).1:=⟨_,rfl⟩
  have t1:t.singles=upS g hs (hour + 1):=by rw [ht,upS,← h1];rfl
  have t2:t.doubles=upD g hs (hour + 1):=by rw [ht,upD,← h2];rfl
  have t3:t.perhaps=if (heapsR g hs hour g.Spots.length ++ pairRules g hs hour g.Spots.length).any (breaksR (hs.map (·.s)))=true then earlierI s.perhaps hour else s.perhaps:=by rw [ht];rfl
  have t4:(bStep g hs s hour).2=(decide (0≤t.perhaps) && !keptL (t.singles ++ t.doubles) (hs.map (·.s))):=by rw [ht];rfl
  have hp':(∃ h:Nat,t.perhaps=h∧h < hour + 1∧rulB g hs h∧∀ h',h' < h→¬ rulB g hs h')∨(t.perhaps = -1∧∀ h,h < hour + 1→¬ rulB g hs h):=by
   rw [t3]
   rcases hp with ⟨h,e,q1,q2,q3⟩|⟨e,q1⟩
   ·refine .inl ⟨h, ?_,by omega,q2,q3⟩
    unfold earlierI
    rw [e]
    split
    ·rw [if_neg (by omega)]
    ·rfl
   ·by_cases c:rulB g hs hour
    ·refine .inl ⟨hour, ?_,by omega,c,q1⟩
     rw [if_pos (show _=true from c),e]
     rfl
    ·rw [if_neg (show ¬ _=true from c)]
     refine .inr ⟨e,fun h q=>?_⟩
     by_cases e2:h=hour
     ·rw [e2];exact c
     ·exact q1 h (by omega)
  have k4:(bStep g hs s hour).2=true↔¬ rulK g hs hour:=by
   rw [t4,t1,t2]
   unfold rulK
   constructor
   ·intro q
    rw [Bool.and_eq_true] at q
    intro r
    rw [r] at q
    cases q.2
   ·intro q
    rw [Bool.and_eq_true]
    refine ⟨decide_eq_true ?_,by simpa using q⟩
    rcases hp' with ⟨h,e,_⟩|⟨e,r⟩
    ·omega
    ·refine absurd (kept_any (any_upto (hour + 1) fun h' q'=>?_)) q
     have:=r h' q'
     unfold rulB at this
     simpa using this
  rw [bGo]
  by_cases c:(bStep g hs s hour).2=true
  ·rw [if_pos c,← ht]
   refine ⟨?_,.inl ⟨hour,rfl,by omega,k4.1 c,fun h' q r=>r (hk h' q)⟩⟩
   rcases hp' with ⟨h,e,q1,q2,q3⟩|⟨e,q1⟩
   ·exact .inl ⟨h,e,by omega,q2,q3⟩
   ·exfalso
    rw [t4,Bool.and_eq_true] at c
    have:=of_decide_eq_true c.1
    omega
  ·rw [if_neg c,← ht]
   refine bGo_first g hs n (hour + 1) t (by omega) t1 t2 hp' fun h q=>?_
   by_cases e2:h=hour
   ·rw [e2];exact Classical.byContradiction fun r=>c (k4.2 r)
   ·exact hk h (by omega)
theorem bGo_all (g:Gnd) (hs:List Hp):FirstI (rulB g hs) (bGo g hs 73 0 ⟨-1,[],[]⟩).1∧FirstI (fun h=>¬ rulK g hs h) (bGo g hs 73 0 ⟨-1,[],[]⟩).2 :=
 bGo_first g hs 73 0 _ (by omega) rfl rfl (.inr ⟨rfl,fun h q=>by omega⟩) fun h q=>by omega
end Go.Proofs.Swa
