/- Part 1 of a proof. -/
import Derived.Test.YtloabbaheifkgaaP00
import Derived.Deep.AppendSrc
import Derived.Laws.AppendOwn
set_option linter.unusedVariables false
set_option linter.unusedSimpArgs false
namespace Go.Proofs.Swa
open Go
structure Apd (P:Program) (e:TypeId) (i:TypeInfo) (z:Value) (tx:TypeId) (x:Value) (n:Nat) (news:List Value) (w:World):Prop where
 len:news.length=n * i.size
 one:∀ u∈news,u.oneCell'=true
 src:Src P i.size tx x n news w∨((∃ k,P.underlying tx=some (.int k))∧(∃ k,x=.int k n)∧news=(Builtin.zeroCells z.cells n).toList∧n≤2 ^ 40∧i.bytes * n≤2 ^ 40)
theorem wrap_nat {n:Nat} (h:n≤2 ^ 40):IntKind.i64.wrap (n:Int)=n:=by
 unfold IntKind.wrap;simp [IntKind.bits,IntKind.signed];omega
theorem app_room {P:Program} {w:World} {t tx ty e:TypeId} {i:TypeInfo} {z:Value} (ht:P.underlying t=some (.slice e)) (hi:P.info? e=some i) (hz:i.zero=some z) (hzs:z.cells.size=i.size) (hs0:0 < i.size)
  {base:Option Addr} {sLen sCap:Nat} {x:Value} {n:Nat} {news:List Value} (hs:Apd P e i z tx x n news w) (hroom:sLen + n≤sCap) {w':World}
  (hst:∀ a,base=some a→(storeCells (a.add (sLen * i.size)) news 0).run P w=.ok () w') (hw:base=none→w'=w) :
  (Builtin.append_ #[t,tx] ty #[.slice base sLen sCap,x]).run P w=.ok (.slice base (sLen + n) sCap) w':=by
 have hsn:i.size≠0:=by omega
 rcases hs.src with h|⟨⟨k,hk⟩,⟨k2,rfl⟩,hn,hn1,hn2⟩
 ·cases base with
  | none =>
   have:=hw rfl
   subst this
   rcases h.kind with ⟨e',hk⟩|hk <;> simp [Builtin.append_,run_underlying ht,run_underlying hk,sizeOf,typeInfo,hi,h.len,hroom,h.cells]
  | some a =>
   have hst':=hst a rfl
   rcases h.kind with ⟨e',hk⟩|hk <;> simp [Builtin.append_,run_underlying ht,run_underlying hk,sizeOf,typeInfo,hi,h.len,hroom,h.cells,hst']
 ·have hw0:=wrap_nat hn1
  have hneg:¬ ((n:Int) < 0):=by omega
  have hbig:¬ (281474976710656 < (n:Int) * (i.bytes:Int)):=by
   rw [← Int.natCast_mul,Nat.mul_comm];omega
  cases base with
  | none =>
   have:=hw rfl
   subst this
   by_cases h0:n=0
   ·subst h0
    have hw1:IntKind.i64.wrap 0=0:=by rfl
    simp only [Nat.add_zero] at hroom
    simp [Builtin.append_,run_underlying ht,run_underlying hk,sizeOf,typeInfo,zeroValue,hi,hz,asInt,asIntOf,hw1,hroom]
   ·have hns:¬ (n * i.size=0):=by rw [Nat.mul_eq_zero];omega
    simp [hns,Builtin.append_,run_underlying ht,run_underlying hk,sizeOf,typeInfo,zeroValue,hi,hz,asInt,asIntOf,hw0,hneg,hbig,hroom,h0,hsn]
  | some a =>
   have hst':=hst a rfl
   rw [hn] at hst'
   by_cases h0:n=0
   ·subst h0
    have hemp:(Builtin.zeroCells z.cells 0).toList=[]:=by simp [Builtin.zeroCells]
    rw [hemp] at hst'
    have hw1:IntKind.i64.wrap 0=0:=by rfl
    simp only [Nat.add_zero] at hroom
    simp [Builtin.append_,run_underlying ht,run_underlying hk,sizeOf,typeInfo,zeroValue,hi,hz,asInt,asIntOf,hw1,hroom,hst']
   ·have hns:¬ (n * i.size=0):=by rw [Nat.mul_eq_zero];omega
    simp [hns,Builtin.append_,run_underlying ht,run_underlying hk,sizeOf,typeInfo,zeroValue,hi,hz,asInt,asIntOf,hw0,hneg,hbig,hroom,h0,hsn,hst']
theorem app_grow {P:Program} {w:World} {t tx ty e:TypeId} {i:TypeInfo} {z:Value} (ht:P.underlying t=some (.slice e)) (hi:P.info? e=some i) (hz:i.zero=some z) (hzs:z.cells.size=i.size) (hs0:0 < i.size)
  {base:Option Addr} {sLen sCap:Nat} {olds:List Value} (hold:(Builtin.firstCells i.size sLen (.slice base sLen sCap)).run P w.drew=.ok olds.toArray w.drew)
  {x:Value} {n:Nat} {news:List Value} (hs:Apd P e i z tx x n news w) (hg:sCap < sLen + n) (h40:sLen + n≤2 ^ 40) (hb:(sLen + n) * i.bytes≤2 ^ 40) :
  (Builtin.append_ #[t,tx] ty #[.slice base sLen sCap,x]).run P w =
   .ok (.slice (some ⟨w.heap.size,0,none⟩) (sLen + n) (grownCap w (sLen + n) sCap e))
    (w.drew.alloc (.cells ((olds ++ news).toArray ++ Builtin.zeroCells z.cells (grownCap w (sLen + n) sCap e - (sLen + n))) e)):=by
 have hfit:Builtin.nextslicecap (sLen + n) sCap * i.bytes≤281474976710656:=growslice_fits hg (by omega)
 have h63:((sLen + n:Nat):Int)≤9223372036854775807:=by omega
 rcases hs.src with h|⟨⟨k,hk⟩,⟨k2,rfl⟩,hn,hn1,hn2⟩
 ·exact run_append_grow_src w t tx ty e i z ht hi hz base sLen sCap olds hold x n news h hg h63 hfit
 ·have hsn:i.size≠0:=by omega
  have hw0:=wrap_nat hn1
  have hneg:¬ ((n:Int) < 0):=by omega
  have hbig:¬ (281474976710656 < (n:Int) * (i.bytes:Int)):=by
   rw [← Int.natCast_mul,Nat.mul_comm];omega
  have hnn:¬ (sLen + n≤sCap):=by omega
  have h63':¬ (9223372036854775807 < ((sLen:Int) + (n:Int))):=by omega
  have h48':¬ (281474976710656 < Builtin.nextslicecap (sLen + n) sCap * i.bytes):=by omega
  rw [hn]
  by_cases h0:n=0
  ·subst h0
   have hw1:IntKind.i64.wrap 0=0:=by rfl
   simp only [Nat.add_zero] at hnn h63' h48' ⊢
   have hc0:¬ (9223372036854775807 < (sLen:Int)):=by omega
   simp [Builtin.append_,run_underlying ht,run_underlying hk,sizeOf,typeInfo,zeroValue,hi,hz,asInt,asIntOf,hw1,hnn,hc0,h48',Question.forced,hold,newRow,grownCap]
   congr 2
   apply Array.ext'
   simp [Builtin.zeroCells]
  ·have hns:¬ (n * i.size=0):=by rw [Nat.mul_eq_zero];omega
   simp [hns,Builtin.append_,run_underlying ht,run_underlying hk,sizeOf,typeInfo,zeroValue,hi,hz,asInt,asIntOf,hw0,hneg,hbig,hnn,h63',h48',Question.forced,hold,newRow,grownCap,h0,hsn]
   congr 2
   apply Array.ext'
   simp [List.append_assoc]
theorem lrel_arr {ρ:Ren} {l l':List Value} (h:LRel ρ l l') (c':Array Value) (hp:∀ j,j < l'.length→c'[j]? = l'[j]?):CellsRel ρ l c' 0:=by
 intro i hi
 have hi':i < l'.length:=h.1 ▸ hi
 refine ⟨l'[i], ?_,(h.2 i hi hi').1,(h.2 i hi hi').2⟩
 rw [Nat.zero_add,hp i hi',List.getElem?_eq_getElem hi']
theorem LRel.append {ρ:Ren} {a a' b b':List Value} (h:LRel ρ a a') (k:LRel ρ b b'):LRel ρ (a ++ b) (a' ++ b'):=by
 have e:=h.1
 refine ⟨by simp [h.1,k.1],fun i h1 h2=>?_⟩
 by_cases hi:i < a.length
 ·rw [List.getElem_append_left hi,List.getElem_append_left (by omega)]
  exact h.2 i hi (by omega)
 ·rw [List.getElem_append_right (by omega),List.getElem_append_right (by omega)]
  simp only [e]
  exact k.2 _ _ _
theorem step_grown {ng n0:Nat} {ρ:Ren} {H:AHeap} {w:World} (h:Rel ng n0 ρ H w) (hf:ρ H.n=none) (c:List Value) (c':Array Value) (l':List Value) (e T':TypeId) (sz g:Nat)
  (hc:LRel ρ c l') (hp:∀ j,j < l'.length→c'[j]? = l'[j]?) (hle:l'.length≤c'.size) (hgn:g≤H.n) :
  Step ng n0 ρ H w (ρ.add H.n { blk:=w.heap.size,base:=0,sz:=c'.size,ro:=false,gr:=true,grp:=g,esz:=sz }) (H.alloc (.cells c e (.gr g sz true))) (w.drew.alloc (.cells c' T')):=by
 have h':Rel ng n0 ρ H w.drew:=h.of_heap rfl
 have:=step_new h' hf (.cells c e (.gr g sz true)) (.cells c' T') { blk:=w.heap.size,base:=0,sz:=c'.size,ro:=false,gr:=true,grp:=g,esz:=sz } rfl rfl
  ⟨⟨rfl,rfl,rfl,rfl,rfl⟩,c',T',(0,0),heap_alloc_new,rfl,by simp only;rw [hc.1];omega,fun _=>fzOk.zero _,fun _=>(lrel_arr hc c' hp).mono (Ren.le_add hf)⟩ (fun c T g' e' l q=>by cases q;exact hgn)
 exact ⟨this.ext,this.hn,this.rel,this.frame,this.img,this.size,this.os,this.tape,this.output⟩
theorem appendA_sim {P:Program} {ng n0:Nat} {ρ:Ren} {H H':AHeap} {w:World} (hr:Rel ng n0 ρ H w) {t tx ty:TypeId} {s s' x' v:Value} {n:Nat} {new new':List Value}
  (h:appendA P t H s n new=some (v,H')) (hs:VRel ρ s s') (hf:Fresh ρ H H')
  (hx:∀ e i z,P.underlying t=some (.slice e)→P.info? e=some i→i.zero=some z→z.cells.size=i.size→0 < i.size→new.length=n * i.size→LRel ρ new new'∧Apd P e i z tx x' n new' w) :
  ∃ v' w' ρ',(Builtin.append_ #[t,tx] ty #[s',x']).run P w=.ok v' w'∧Step ng n0 ρ H w ρ' H' w'∧VRel ρ' v v':=by
 unfold appendA at h
 split at h
 rotate_left
 ·cases h
 rename_i e hu
 split at h
 rotate_left
 ·cases h
 rename_i sz by_ z hsz hby hz
 split at h
 rotate_left
 ·cases h
 rename_i hcond
 obtain ⟨hd,hzs,hs0,hnl⟩:=hcond
 unfold tySize at hsz
 unfold tyBytes at hby
 unfold tyZero at hz
 cases hi:P.info? e with
 | none=>simp [hi] at hsz
 | some i =>
 simp [hi] at hsz hby hz
 subst hsz
 subst hby
 obtain ⟨hlr,hap⟩:=hx e i z hu hi hz hzs hs0 hnl
 have hgc:=fun need old=>grownCap_ge w need old e
 -- a new block, of what is there and what comes
 have grows:∀ (base:Option Addr) (l c':Nat) (olds olds':List Value),(Builtin.firstCells i.size l (.slice base l c')).run P w.drew=.ok olds'.toArray w.drew→LRel ρ olds olds'→olds.length=l * i.size →
   c' < l + n→l + n≤2 ^ 40→(l + n) * i.bytes≤2 ^ 40→∀ g,g≤H.n→Fresh ρ H (H.alloc (.cells (olds ++ new) e (.gr g i.size true))) →
   ∃ v' w' ρ',(Builtin.append_ #[t,tx] ty #[.slice base l c',x']).run P w=.ok v' w'∧Step ng n0 ρ H w ρ' (H.alloc (.cells (olds ++ new) e (.gr g i.size true))) w'∧VRel ρ' (.slice (some ⟨H.n,0,none⟩) (l + n) (l + n)) v':=by
  intro base l c' olds olds' hold hor hol hlt h40 hb40 g hgn hfr
  have hrun:=app_grow hu hi hz hzs hs0 hold hap hlt h40 hb40 (ty:=ty)
  have hfn:ρ H.n=none:=hfr H.n (Nat.le_refl _) (by simp [AHeap.alloc])
  have hlr2:=hor.append hlr
  have hst:=step_grown hr hfn (olds ++ new) ((olds' ++ new').toArray ++ Builtin.zeroCells z.cells (grownCap w (l + n) c' e - (l + n))) (olds' ++ new') e e i.size g hlr2
   (fun j hj=>by
    rw [Array.getElem?_append_left (by simpa using hj)]
    simp) (by simp) hgn
  refine ⟨_,_,_,hrun,hst,.slice (im:={ blk:=w.heap.size,base:=0,sz:=_,ro:=false,gr:=true,grp:=g,esz:=i.size }) (Ren.add_self _ _ _) (.inl ⟨rfl,hgc _ _, ?_⟩) (Nat.le_refl _)⟩
  have h1:=hor.1
  have h2:=hap.len
  have h3:=hgc (l + n) c'
  simp only [Nat.zero_add,Array.size_append,List.size_toArray,List.length_append,size_zeroCells,hzs,h2]
  rw [← h1,hol,← Nat.add_mul,← Nat.add_mul]
  exact Nat.le_of_eq (by congr 1;omega)
 split at h
 ·-- onto nil
  rename_i l c
  obtain rfl:=hs.slice_nil
  split at h
  rotate_left
  ·cases h
  rename_i hlc
  obtain ⟨rfl,rfl⟩:=hlc
  split at h
  ·rename_i hn0
   subst hn0
   cases h
   exact ⟨_,_,_,app_room hu hi hz hzs hs0 hap (Nat.le_refl _) (fun a e=>by cases e) (fun _=>rfl),Step.refl hr,.flat rfl⟩
  ·rename_i hn0
   split at h
   rotate_left
   ·cases h
   rename_i hb40
   cases h
   have:=grows none 0 0 [] [] (run_firstCells_none w.drew i.size 0 0 0) ⟨rfl,fun i h=>by simp at h⟩ (by simp) (by omega) (by omega) (by simpa using hb40.2) H.n (Nat.le_refl _) (by simpa using hf)
   simpa using this
 ·-- onto a row
  rename_i b o l c
  split at h
  ·rename_i hn0
   obtain ⟨rfl,hlc⟩:=hn0
   cases h
   have hnil:new'=[]:=List.eq_nil_of_length_eq_zero (by rw [hap.len];simp)
   subst hnil
   have hs2:∃ a c',s'=.slice (some a) l c'∧l≤c':=by
    rcases hs.slice_inv with ⟨im,c',hb,hcap,hn,rfl⟩|⟨ho,rfl,rfl,a,c',rfl⟩
    ·refine ⟨_,c',rfl, ?_⟩
     rcases hcap with ⟨_,q,_⟩|⟨_,q⟩ <;> omega
    ·exact ⟨a,c',rfl,Nat.zero_le _⟩
   obtain ⟨a,c',rfl,hl'⟩:=hs2
   refine ⟨_,w,ρ,app_room hu hi hz hzs hs0 hap (by omega) (fun a' e=>by simp [storeCells]) (fun e=>by cases e),Step.refl hr, ?_⟩
   exact hs
  ·rename_i hn0
   split at h
   ·cases h
   rename_i hoc
   split at h
   rotate_left
   ·cases h
   rename_i d T k hg
   split at h
   rotate_left
   ·cases h
   rename_i hcd
   obtain ⟨hlive,hfit,h40,hb40⟩:=hcd
   rcases hs.slice_inv with ⟨im,c',hb,hcap,hn,rfl⟩|⟨ho,rfl,rfl,a,c',rfl⟩
   rotate_left
   ·exact absurd ⟨by omega,rfl⟩ hoc
   have hlt:b < H.n:=rd_lt hr (by rw [hg];simp)
   have hblk:=hr.blk b im hb hlt
   rw [hg] at hblk
   have hrd:H.rd b=some d:=by
    unfold AHeap.rd
    rw [hg]
    cases k with
    | ro=>rfl
    | ex=>rfl
    | gr g e2 lv=>simp [Kd.live] at hlive;subst hlive;rfl
   -- what is there, as it is read
   obtain ⟨olds',hold,hol',hor⟩:=cells_read P (hr.of_heap (w':=w.drew) rfl) hrd hb o (l * i.size) hfit
   have hold2:(Builtin.firstCells i.size l (.slice (some ⟨im.blk,im.base + o,none⟩) l c')).run P w.drew=.ok olds'.toArray w.drew:=by
    simp only [Builtin.firstCells];exact hold
   have hor2:LRel ρ ((d.drop o).take (l * i.size)) olds':=⟨by rw [hol'];simp;omega,hor⟩
   have hol2:((d.drop o).take (l * i.size)).length=l * i.size:=by simp;omega
   split at h
   ·-- of those that grow
    rename_i g e' lv
    simp [Kd.live] at hlive
    subst hlive
    split at h
    rotate_left
    ·cases h
    rename_i hoe
    obtain ⟨rfl,rfl⟩:=hoe
    cases h
    have hfits:=hblk.1
    obtain ⟨k1,k2,k3,k4,k5⟩:=hfits
    rcases hcap with ⟨_,hcc,hroom⟩|⟨q,_⟩
    rotate_left
    ·rw [k2] at q;cases q
    rw [k4,k5] at hroom
    have hfn:ρ H.n=none:=hf H.n (Nat.le_refl _) (by simp [AHeap.alloc,AHeap.cut])
    have hd0:(d.drop 0).take (l * i.size)=d.take (l * i.size):=by simp
    rw [hd0] at hor2 hol2
    by_cases hin:l + n≤c'
    ·-- there is room
     have hlen':=hap.len
     obtain ⟨cc,TT,fz,e1,ez,e2,e3,e4⟩:=step_grow hr hfn hb hlt hg (l * i.size) (by omega) new new' e hlr.1 (by
      rw [hlen',← Nat.add_mul]
      exact Nat.le_trans (Nat.mul_le_mul_right _ hin) (by omega)) hlr.2
     have hone:=hap.one
     have hstore:=run_storeCells_fz (P:=P) im.blk (l * i.size) TT fz new' 0 cc w e1 ez (by simpa using e3) hone
     simp only [Nat.add_zero] at hstore
     refine ⟨_,_,_,app_room hu hi hz hzs hs0 hap hin (fun a e=>by cases e;rw [add_plain',k5,Nat.zero_add];simpa using hstore) (fun e=>by cases e),e4, ?_⟩
     have:=VRel.slice (ρ:=ρ.add H.n im) (b:=H.n) (o:=0) (n:=l + n) (c:=l + n) (c':=c') (Ren.add_self _ _ _) (.inl ⟨k2,hin,by rw [k4,k5];omega⟩) (Nat.le_refl _)
     exact this
    ·-- there is none
     have hcutrel:Step ng n0 ρ H w ρ (H.cut g (l * i.size)) w:=by
      refine ⟨fun _ _=>rfl,Nat.le_refl _,⟨?_,hr.apart,hr.fresh,hr.there,hr.size,hr.glob, ?_,hr.grp.cut' g _⟩,fun _ _ _=>rfl,fun b im _ h1 h2=>absurd h2 (by simp only [AHeap.cut];omega),Nat.le_refl _,rfl,rfl,rfl⟩
      ·intro b' im' e' hb'
       have hold:=hr.blk b' im' e' hb'
       rw [hr.grp.cut]
       cases hq:H.get b' with
       | cells c2 T2 k2' =>
        rw [hq] at hold
        cases k2' with
        | gr g2 e2 live2 =>
         simp only [AObj.cut]
         split
         ·obtain ⟨q1,c2',T2',fz2,q2,q3,q4,q5,q6⟩:=hold
          exact ⟨q1,c2',T2',fz2,q2,q3,q4,q5,fun hl=>by simp [Kd.live] at hl⟩
         ·exact hold
        | ro=>exact hold
        | ex=>exact hold
       | _=>rw [hq] at hold;exact hold
      ·intro b' hb'
       simp only [hr.grp.cut,hr.top b' hb',AObj.cut]
     have hrun:=app_grow hu hi hz hzs hs0 hold2 hap (by omega) h40 hb40 (ty:=ty)
     have hlr2:=hor2.append hlr
     have hst:=step_grown hcutrel.rel (by simpa [AHeap.cut] using hfn) (d.take (l * i.size) ++ new) ((olds' ++ new').toArray ++ Builtin.zeroCells z.cells (grownCap w (l + n) c' e - (l + n))) (olds' ++ new') e e i.size g hlr2
      (fun j hj=>by
       rw [Array.getElem?_append_left (by simpa using hj)]
       simp) (by simp) (Nat.le_trans (hr.grp b _ _ _ _ _ hg) (Nat.le_of_lt hlt))
     refine ⟨_,_,_,hrun,hcutrel.trans hst,.slice (im:={ blk:=w.heap.size,base:=0,sz:=_,ro:=false,gr:=true,grp:=g,esz:=i.size }) (Ren.add_self _ _ _) (.inl ⟨rfl,hgc _ _, ?_⟩) (Nat.le_refl _)⟩
     have h1:=hor2.1
     have h2:=hap.len
     have h3:=hgc (l + n) c'
     simp only [Nat.zero_add,Array.size_append,List.size_toArray,List.length_append,size_zeroCells,hzs,h2]
     rw [← h1,hol2,← Nat.add_mul,← Nat.add_mul]
     exact Nat.le_of_eq (by congr 1;omega)
   ·-- a block that stays as it is
    have hcc:c'=c:=by
     rcases hcap with ⟨q,_⟩|⟨_,q⟩
     ·rw [hblk.1.2] at q;cases q
     ·exact q
    subst hcc
    split at h
    ·rename_i hin
     split at h
     rotate_left
     ·cases h
     rename_i hfit2
     cases h
     have hlen':=hap.len
     obtain ⟨cc,TT,fz,e1,ez,e2,e3⟩:=step_row hr hb hlt hg rfl hblk.1.1 (o + l * i.size) new new' hlr.1 (by rw [hlr.1,hlen'];rw [Nat.add_mul] at hfit2;omega) hlr.2 _ rfl
     have hstore:=run_storeCells_fz (P:=P) im.blk (im.base + (o + l * i.size)) TT fz new' 0 cc w e1 ez (by simpa using e2) hap.one
     simp only [Nat.add_zero] at hstore
     refine ⟨_,_,_,app_room hu hi hz hzs hs0 hap hin (fun a e=>by cases e;rw [add_plain',Nat.add_assoc];exact hstore) (fun e=>by cases e),e3, ?_⟩
     exact .slice hb hcap (by omega)
    ·rename_i hin
     cases h
     exact grows _ l c' _ olds' hold2 hor2 hol2 (by omega) h40 hb40 H.n (Nat.le_refl _) hf
   ·-- one that is only read
    have hcc:c'=c:=by
     rcases hcap with ⟨q,_⟩|⟨_,q⟩
     ·rw [hblk.1.2] at q;cases q
     ·exact q
    subst hcc
    split at h
    ·cases h
    ·rename_i hin
     cases h
     exact grows _ l c' _ olds' hold2 hor2 hol2 (by omega) h40 hb40 H.n (Nat.le_refl _) hf
 ·cases h
def evc (tmps:Array Value):Operand→Value
 | .tmp t=>tmps.getD t undef
 | .const v=>v
 | .global g=>.pointer (some ⟨g,0,none⟩)
 | .func f=>.func (.func f) #[] #[]
theorem execOp_flat {E E':Operand→Value} {o:Oper} (h:∀ x,x∈o.op.operands→E' x=E x)
  (hc:match o.op with
   | .binOp ..|.unOp ..|.convert ..=>True
   | .call c=>∃ b,c.callee=.builtin b
   | _=>False):execOp E' o=execOp E o:=by
 obtain ⟨dst,op,ty,pos,after,guard⟩:=o
 cases op <;> simp only at hc
 case binOp op t x y yt =>
  have h1:=h x (by simp [Op.operands])
  have h2:=h y (by simp [Op.operands])
  simp only [execOp,h1,h2]
 case unOp op t x =>
  have h1:=h x (by simp [Op.operands])
  simp only [execOp,h1]
 case convert a b x =>
  have h1:=h x (by simp [Op.operands])
  simp only [execOp,h1]
 case call c =>
  obtain ⟨b,hb⟩:=hc
  have h1:c.args.map E'=c.args.map E:=by
   apply Array.map_congr_left
   intro x hx
   exact h x (by simp [Op.operands,Call.operands,hb,hx])
  simp only [execOp,resolve,hb,h1]
theorem prOp_sim {P:Program} {env:Env} {o:Oper} {v:Value} {E':Operand→Value} (h:prOp P env o=some v) (he:execOp E' o=execOp (ev env) o) (w:World) {ρ:Ren} :
  (execOp E' o).run P w=.ok (.value v) w∧VRel ρ v v:=by
 unfold prOp at h
 split at h
 ·rename_i v' hv
  split at h
  ·rename_i hd
   cases h
   exact ⟨he ▸ pr_run hv w,VRel.dflat hd⟩
  ·cases h
 ·cases h
theorem equal_one (t:TypeId) (x y:Value):Op.equal t x y=Op.equalIn (9999 + 1) t x y:=rfl
theorem eqNil_sim {P:Program} {ρ:Ren} (w:World) {d:TypeDesc} {t:TypeId} {x y x' y':Value} {b:Bool} (h:eqNil d x y=some b) (hu:P.underlying t=some d) (hx:VRel ρ x x') (hy:VRel ρ y y') :
  (Op.equal t x' y').run P w=.ok b w∧(∀ op ox oy,(eqGuard op t ox oy x' y').run P w=.ok () w) ∧
  (∀ w,(binOp .eql t x' y').run P w=(do pure (.bool (← Op.equal t x' y')):Sem Value).run P w)∧(∀ w,(binOp .neq t x' y').run P w=(do pure (.bool (!(← Op.equal t x' y'))):Sem Value).run P w):=by
 have key:∀ x' y',(∀ w,(Op.equal t x' y').run P w=.ok b w)→(match x',y' with
   | .nilIface,.nilIface=>False|.agg _,.agg _=>False|.int _ _,_=>False|.float _ _,_=>False|.complex _ _ _,_=>False|.string _,_=>False|_,_=>True) →
   (Op.equal t x' y').run P w=.ok b w∧(∀ op ox oy,(eqGuard op t ox oy x' y').run P w=.ok () w) ∧
   (∀ w,(binOp .eql t x' y').run P w=(do pure (.bool (← Op.equal t x' y')):Sem Value).run P w)∧(∀ w,(binOp .neq t x' y').run P w=(do pure (.bool (!(← Op.equal t x' y'))):Sem Value).run P w):=by
  intro x' y' h1 h2
  refine ⟨h1 w, ?_, ?_, ?_⟩
  ·intro op ox oy
   unfold eqGuard
   cases x' <;> cases y' <;> simp_all <;> split <;> simp_all
  ·intro w
   cases x' <;> cases y' <;> simp_all [binOp]
  ·intro w
   cases x' <;> cases y' <;> simp_all [binOp]
 unfold eqNil at h
 split at h
 ·-- slices
  obtain rfl:=hx.slice_nil
  cases h
  rename_i b1 n1 c1
  cases hy with
  | flat hf =>
   cases b1 with
   | none=>exact key _ _ (fun w=>by rw [equal_one,Op.equalIn];simp only [Sem.run_bind,run_underlying' hu,Result.andThen_ok,Sem.run_pure];try rfl) trivial
   | some _=>simp [Swa.flat] at hf
  | slice=>exact key _ _ (fun w=>by rw [equal_one,Op.equalIn];simp only [Sem.run_bind,run_underlying' hu,Result.andThen_ok,Sem.run_pure];try rfl) trivial
  | empty=>exact key _ _ (fun w=>by rw [equal_one,Op.equalIn];simp only [Sem.run_bind,run_underlying' hu,Result.andThen_ok,Sem.run_pure];try rfl) trivial
 ·cases h
  obtain rfl:=hy.slice_nil
  cases hx with
  | flat hf=>simp [Swa.flat] at hf
  | slice=>exact key _ _ (fun w=>by rw [equal_one,Op.equalIn];simp only [Sem.run_bind,run_underlying' hu,Result.andThen_ok,Sem.run_pure];try rfl) trivial
  | empty=>exact key _ _ (fun w=>by rw [equal_one,Op.equalIn];simp only [Sem.run_bind,run_underlying' hu,Result.andThen_ok,Sem.run_pure];try rfl) trivial
 ·-- pointers
  cases h
  rename_i b1
  obtain rfl:=hx.of_flat rfl
  cases hy with
  | flat hf =>
   cases b1 with
   | none=>exact key _ _ (fun w=>by rw [equal_one,Op.equalIn];simp only [Sem.run_bind,run_underlying' hu,Result.andThen_ok,Sem.run_pure];try rfl) trivial
   | some _=>simp [Swa.flat] at hf
  | ptr=>exact key _ _ (fun w=>by rw [equal_one,Op.equalIn];simp only [Sem.run_bind,run_underlying' hu,Result.andThen_ok,Sem.run_pure];try rfl) trivial
 ·cases h
  obtain rfl:=hy.of_flat rfl
  cases hx with
  | flat hf=>simp [Swa.flat] at hf
  | ptr=>exact key _ _ (fun w=>by rw [equal_one,Op.equalIn];simp only [Sem.run_bind,run_underlying' hu,Result.andThen_ok,Sem.run_pure];try rfl) trivial
 ·-- maps
  cases h
  rename_i b1
  obtain rfl:=hx.of_flat rfl
  cases hy with
  | flat hf =>
   cases b1 with
   | none=>exact key _ _ (fun w=>by rw [equal_one,Op.equalIn];simp only [Sem.run_bind,run_underlying' hu,Result.andThen_ok,Sem.run_pure];try rfl) trivial
   | some _=>simp [Swa.flat] at hf
  | map=>exact key _ _ (fun w=>by rw [equal_one,Op.equalIn];simp only [Sem.run_bind,run_underlying' hu,Result.andThen_ok,Sem.run_pure];try rfl) trivial
 ·cases h
  obtain rfl:=hy.of_flat rfl
  cases hx with
  | flat hf=>simp [Swa.flat] at hf
  | map=>exact key _ _ (fun w=>by rw [equal_one,Op.equalIn];simp only [Sem.run_bind,run_underlying' hu,Result.andThen_ok,Sem.run_pure];try rfl) trivial
 ·-- functions
  cases h
  obtain rfl:=hx.of_flat rfl
  obtain rfl:=hy.of_flat rfl
  exact key _ _ (fun w=>by rw [equal_one,Op.equalIn];simp only [Sem.run_bind,run_underlying' hu,Result.andThen_ok,Sem.run_pure];try rfl) trivial
 ·cases h
  obtain rfl:=hx.of_flat rfl
  obtain ⟨_,_,_,rfl,_⟩:=hy.func_inv
  exact key _ _ (fun w=>by rw [equal_one,Op.equalIn];simp only [Sem.run_bind,run_underlying' hu,Result.andThen_ok,Sem.run_pure];try rfl) trivial
 ·cases h
  obtain rfl:=hy.of_flat rfl
  obtain ⟨_,_,_,rfl,_⟩:=hx.func_inv
  exact key _ _ (fun w=>by rw [equal_one,Op.equalIn];simp only [Sem.run_bind,run_underlying' hu,Result.andThen_ok,Sem.run_pure];try rfl) trivial
 ·cases h
theorem nilCheck_sim {P:Program} {ρ:Ren} (w:World) {x x' v:Value} {env:Operand→Value} {o:Oper} {a:Operand} (ho:o.op=.nilCheck a) (hx':env a=x') (h:nilCheckA x=some v) (hx:VRel ρ x x') :
  ∃ v',(execOp env o).run P w=.ok (.value v') w∧VRel ρ v v':=by
 obtain ⟨dst,op,ty,pos,after,guard⟩:=o
 simp only at ho
 subst ho
 unfold nilCheckA at h
 split at h
 ·rename_i b o'
  obtain ⟨im,hb,rfl⟩:=hx.ptr_inv
  cases h
  exact ⟨_,by simp [execOp,hx'],.ptr hb⟩
 ·cases h
  cases hx with
  | flat hf=>simp [Swa.flat] at hf
  | func hf hs hs2 ha hc =>
   cases hf
   exact ⟨_,by simp [execOp,hx'],.func (.func _) hs hs2 ha hc⟩
 ·cases h
  cases hx with
  | flat hf=>simp [Swa.flat] at hf
  | func hf hs hs2 ha hc =>
   cases hf with
   | yield hl=>exact ⟨_,by simp [execOp,hx'],.func (.yield hl) hs hs2 ha hc⟩
 ·cases h
theorem len_sim {P:Program} {ng n0:Nat} {ρ:Ren} {H:AHeap} {w:World} (hr:Rel ng n0 ρ H w) {env:Env} {o:Oper} {t ty:TypeId} {ts:Array TypeId} (ht:ts[0]? = some t) {x x' v:Value} (h:lenA P env o t x H=some v) (hx:VRel ρ x x') :
  (Builtin.len_ ts ty #[x']).run P w=.ok v w∧VRel ρ v v:=by
 have hgi:∀ n:Nat,goInt n=.int .i64 n:=fun _=>rfl
 unfold lenA at h
 split at h
 ·rename_i e b n c hu
  cases h
  have:∃ b' c',x'=.slice b' n c':=by cases hx <;> exact ⟨_,_,rfl⟩
  obtain ⟨b',c',rfl⟩:=this
  exact ⟨by simp [Builtin.len_,ht,underlying,hu,hgi],.flat rfl⟩
 ·rename_i s hu
  cases h
  obtain rfl:=hx.string_inv
  exact ⟨by simp [Builtin.len_,ht,underlying,hu,hgi],.flat rfl⟩
 ·rename_i n e hu
  cases h
  exact ⟨by simp [Builtin.len_,ht,underlying,hu,hgi],.flat rfl⟩
 ·rename_i k e hu
  cases h
  obtain rfl:=hx.of_flat rfl
  exact ⟨by simp [Builtin.len_,ht,underlying,hu,goInt],.flat rfl⟩
 ·rename_i k e r hu
  cases hx with
  | flat hf=>simp [Swa.flat] at hf
  | map hb =>
   split at h
   ·rename_i es hg
    cases h
    have:=hr.blk _ _ hb (rd_lt hr (by rw [hg];simp))
    rw [hg] at this
    obtain ⟨_,_,es',clk,h3,h4⟩:=this
    refine ⟨?_,.flat rfl⟩
    simp [Builtin.len_,ht,underlying,hu,getObj,Sem.run,h3,hgi,h4.1.1]
   ·cases h
 ·cases h
theorem cap_sim {P:Program} {ng n0:Nat} {ρ:Ren} {H:AHeap} {w:World} (hr:Rel ng n0 ρ H w) {t ty:TypeId} {ts:Array TypeId} (ht:ts[0]? = some t) {x x' v:Value} (h:capA P t x H=some v) (hx:VRel ρ x x') :
  (Builtin.cap_ ts ty #[x']).run P w=.ok v w∧VRel ρ v v:=by
 unfold capA at h
 split at h
 ·rename_i e n c hu
  cases h
  obtain rfl:=hx.slice_nil
  exact ⟨by simp [Builtin.cap_,ht,underlying,hu,goInt],.flat rfl⟩
 ·rename_i e b o n c hu
  rcases hx.slice_inv with ⟨im,c',hb,hcap,hn,rfl⟩|⟨ho,rfl,rfl,a,c',rfl⟩
  ·split at h
   ·cases h
   ·rename_i d T k hk hg
    split at h
    ·cases h
    ·cases h
     have:=hr.blk _ _ hb (rd_lt hr (by rw [hg];simp))
     rw [hg] at this
     have f:=this.1
     have hgr:im.gr=false:=by
      cases k with
      | ro=>exact f.2
      | ex=>exact f.2
      | gr a b c=>exact (hk _ _ _ rfl).elim
     rcases hcap with ⟨q,_⟩|⟨_,rfl⟩
     ·rw [hgr] at q;cases q
     ·exact ⟨by simp [Builtin.cap_,ht,underlying,hu,goInt],.flat rfl⟩
   ·cases h
  ·split at h
   ·cases h
   ·rw [if_pos ⟨by omega,rfl⟩] at h;cases h
   ·cases h
 ·cases h
theorem run_getObj {P:Program} {w:World} {r:Nat} {o:Obj} (h:w.heap[r]? = some o) (hc:∀ c t f,o≠.cells c t f):(getObj r).run P w=.ok o w:=by
 cases o <;> simp_all [getObj,Sem.run]
theorem run_setObj {P:Program} {w:World} {r:Nat} {o o':Obj} (h:w.heap[r]? = some o) (hc:∀ c t f,o≠.cells c t f):(setObj r o').run P w=.ok () { w with heap:=w.heap.setIfInBounds r o' }:=by
 cases o <;> simp_all [setObj,Sem.run]
theorem step_obj {ng n0:Nat} {ρ:Ren} {H:AHeap} {w:World} (h:Rel ng n0 ρ H w) {b:Nat} {im:Img} (hb:ρ b=some im) (hn:b < H.n) (hro:im.ro=false) (hgr:im.gr=false) (o:AObj) (ob:Obj)
  (ho:BlkRel ρ { w with heap:=w.heap.setIfInBounds im.blk ob } o im) (hlow:o.low b:=by intro c T g e l h;cases h):Step ng n0 ρ H w ρ (H.put b o) { w with heap:=w.heap.setIfInBounds im.blk ob }:=by
 have hoth:∀ cb,cb≠im.blk→(w.heap.setIfInBounds im.blk ob)[cb]? = w.heap[cb]?:=by
  intro cb hne
  rw [Array.getElem?_setIfInBounds]
  rw [if_neg (Ne.symm hne)]
 refine ⟨fun _ _=>rfl,Nat.le_refl _,⟨?_,h.apart,h.fresh, ?_, ?_,h.glob, ?_,h.grp.put hlow⟩, ?_,fun b' im' _ h1 h2=>absurd h2 (by simp only [AHeap.put];omega),by simp,rfl,rfl,rfl⟩
 ·intro b' im' e hb'
  simp only [AHeap.put]
  by_cases hbb:b'=b
  ·subst hbb
   rw [hb] at e;cases e
   simp only [if_true]
   exact ho
  ·simp only [hbb,if_false]
   refine (h.blk b' im' e hb').mono (Le.refl _) (hoth _ fun heq=>?_)
   rcases h.apart b' b im' im e hb hbb heq with ⟨_,q⟩|⟨_,q,_⟩
   ·rw [hro] at q;cases q
   ·rw [hgr] at q;cases q
 ·intro b' im' e
  simp;exact h.there b' im' e
 ·simp;exact h.size
 ·intro b' hb'
  simp only [AHeap.put] at hb' ⊢
  rw [if_neg (by omega)]
  exact h.top b' hb'
 ·intro cb _ ho'
  exact hoth cb fun e=>ho' ⟨b,im,hb,hn,e.symm,hro⟩
theorem und_of_check {P:Program} {e:Bool} {kt:TypeId} {k:Value} (h:(pr P (Instr.checkKey e 10000 kt k)).isSome=true):∃ d,P.underlying kt=some d:=by
 rw [show Instr.checkKey e 10000 kt k=Instr.checkKey e (9999 + 1) kt k from rfl,Instr.checkKey] at h
 simp only [pr_bind'] at h
 cases hu:P.underlying kt with
 | some d=>exact ⟨d,rfl⟩
 | none=>simp [underlying,hu] at h
theorem sameNow_eq {P:Program} {kt:TypeId} {d:TypeDesc} (hu:P.underlying kt=some d) {k q:Value} {b b':Bool} (h:Instr.sameNow d k q=some b) (h':pr P (Op.equal kt k q)=some b'):b=b':=by
 rw [equal_one,Op.equalIn] at h'
 simp only [pr_bind',underlying,pr_program,Option.bind_some,hu,pr_pure] at h'
 unfold Instr.sameNow at h
 split at h
 ·split at h
  ·rename_i hk
   simp only [hk,if_true,pr_pure,Option.some.injEq] at h h'
   rw [← h,← h']
  ·cases h
 ·simp only [pr_pure,Option.some.injEq] at h h'
  rw [← h,← h']
 ·simp only [pr_pure,Option.some.injEq] at h h'
  rw [← h,← h']
 ·cases h
theorem findNow_eq {P:Program} {kt:TypeId} {d:TypeDesc} (hu:P.underlying kt=some d) {k:Value}:∀ (es:List (Value×Value)) (es':List MapEntry) (i:Nat) (r:Option (Nat×Value)) (r':Option (Nat×Value)),
  findM P kt k es i=some r→Instr.findNow d k es' i=some r'→es.length=es'.length→(∀ j (h:j < es.length) (h':j < es'.length),es'[j].key=es[j].1) →
  (r=none∧r'=none)∨∃ j v v',r=some (i + j,v)∧r'=some (i + j,v')∧∃ (h:j < es.length) (h':j < es'.length),es[j].2=v∧es'[j].val=v'
 | [],[],i,r,r',h,h',_,_=>by
  simp only [findM,Instr.findNow,Option.some.injEq] at h h'
  exact .inl ⟨h.symm,h'.symm⟩
 | [],_ :: _,_,_,_,_,_,hl,_=>by simp at hl
 | _ :: _,[],_,_,_,_,_,hl,_=>by simp at hl
 | (q,v) :: es,e' :: es',i,r,r',h,h',hl,hk=>by
  have hq:=hk 0 (by simp) (by simp)
  simp only [List.getElem_cons_zero] at hq
  simp only [findM] at h
  simp only [Instr.findNow,hq] at h'
  cases hp:pr P (Op.equal kt k q) with
  | none=>rw [hp] at h;cases h
  | some b =>
   cases hs:Instr.sameNow d k q with
   | none=>rw [hs] at h';cases h'
   | some b' =>
    have:=sameNow_eq hu hs hp
    subst this
    rw [hp] at h
    rw [hs] at h'
    cases b' with
    | true =>
     simp only [Option.some.injEq] at h h'
     exact .inr ⟨0,v,e'.val,by simpa using h.symm,by simpa using h'.symm,by simp,by simp,rfl,rfl⟩
    | false =>
     simp only at h h'
     rcases findNow_eq hu es es' (i + 1) r r' h h' (by simpa using hl) (fun j h1 h2=>by
      have:=hk (j + 1) (by simpa using h1) (by simpa using h2)
      simpa using this) with hh|⟨j,v1,v2,e1,e2,h1,h2,e3,e4⟩
     ·exact .inl hh
     ·exact .inr ⟨j + 1,v1,v2,by rw [e1];congr 2;omega,by rw [e2];congr 2;omega,by simpa using h1,by simpa using h2,by simpa using e3,by simpa using e4⟩
theorem findAsking_eq {P:Program} {kt:TypeId} {k:Value} (w:World):∀ (es:List (Value×Value)) (es':List MapEntry) (i:Nat) (r:Option (Nat×Value)),
  findM P kt k es i=some r→es.length=es'.length→(∀ j (h:j < es.length) (h':j < es'.length),es'[j].key=es[j].1) →
  ∃ r',(Instr.findAsking kt k es' i).run P w=.ok r' w∧((r=none∧r'=none)∨∃ j v v',r=some (i + j,v)∧r'=some (i + j,v')∧∃ (h:j < es.length) (h':j < es'.length),es[j].2=v∧es'[j].val=v')
 | [],[],i,r,h,_,_=>by
  simp only [findM,Option.some.injEq] at h
  exact ⟨none,by simp [Instr.findAsking],.inl ⟨h.symm,rfl⟩⟩
 | [],_ :: _,_,_,_,hl,_=>by simp at hl
 | _ :: _,[],_,_,_,hl,_=>by simp at hl
 | (q,v) :: es,e' :: es',i,r,h,hl,hk=>by
  have hq:=hk 0 (by simp) (by simp)
  simp only [List.getElem_cons_zero] at hq
  simp only [findM] at h
  cases hp:pr P (Op.equal kt k q) with
  | none=>rw [hp] at h;cases h
  | some b =>
   rw [hp] at h
   have hrun:=pr_run hp w
   cases b with
   | true =>
    simp only [Option.some.injEq] at h
    refine ⟨some (i,e'.val), ?_,.inr ⟨0,v,e'.val,by simpa using h.symm,by simp,by simp,by simp,rfl,rfl⟩⟩
    simp only [Instr.findAsking,hq,Sem.run_bind,hrun,Result.andThen_ok,if_true,Sem.run_pure]
   | false =>
    simp only at h
    obtain ⟨r',e0,hh⟩:=findAsking_eq w es es' (i + 1) r h (by simpa using hl) (fun j h1 h2=>by
     have:=hk (j + 1) (by simpa using h1) (by simpa using h2)
     simpa using this)
    refine ⟨r', ?_, ?_⟩
    ·simp only [Instr.findAsking,hq,Sem.run_bind,hrun,Result.andThen_ok,Bool.false_eq_true,if_false,e0]
    ·rcases hh with hh|⟨j,v1,v2,e1,e2,h1,h2,e3,e4⟩
     ·exact .inl hh
     ·exact .inr ⟨j + 1,v1,v2,by rw [e1];congr 2;omega,by rw [e2];congr 2;omega,by simpa using h1,by simpa using h2,by simpa using e3,by simpa using e4⟩
theorem find_sim {P:Program} {ρ:Ren} (w:World) {kt:TypeId} {k:Value} {es:List (Value×Value)} {es':Array MapEntry} {r:Option (Nat×Value)} (he:EntRel ρ es es') (h:findM P kt k es 0=some r)
  {d:TypeDesc} (hu:P.underlying kt=some d) :
  ∃ r',(Instr.findKey kt k es'.toList).run P w=.ok r' w∧((r=none∧r'=none)∨∃ j v v',r=some (j,v)∧r'=some (j,v')∧j < es.length∧VRel ρ v v'):=by
 have hl:es.length=es'.toList.length:=by simpa using he.1
 have hk:∀ j (h:j < es.length) (h':j < es'.toList.length),es'.toList[j].key=es[j].1:=fun j h1 h2=>by
  simp only [Array.getElem_toList];exact (he.2 j h1 (by simpa using h2)).1
 have fin:∀ r',((r=none∧r'=none)∨∃ j v v',r=some (0 + j,v)∧r'=some (0 + j,v')∧∃ (h:j < es.length) (h':j < es'.toList.length),es[j].2=v∧es'.toList[j].val=v') →
   ((r=none∧r'=none)∨∃ j v v',r=some (j,v)∧r'=some (j,v')∧j < es.length∧VRel ρ v v'):=by
  rintro r' (hh|⟨j,v,v',e1,e2,h1,h2,e3,e4⟩)
  ·exact .inl hh
  ·refine .inr ⟨j,v,v',by simpa using e1,by simpa using e2,h1, ?_⟩
   have:=(he.2 j h1 (by simpa using h2)).2
   rw [e3] at this
   simp only [Array.getElem_toList] at e4
   rw [e4] at this
   exact this
 unfold Instr.findKey
 simp only [Sem.run_bind,run_underlying' hu,Result.andThen_ok]
 cases hn:Instr.findNow d k es'.toList 0 with
 | some r'=>exact ⟨r',rfl,fin _ (findNow_eq hu es es'.toList 0 r r' h hn hl hk)⟩
 | none =>
  obtain ⟨r',e0,hh⟩:=findAsking_eq w es es'.toList 0 r h hl hk
  exact ⟨r',e0,fin _ hh⟩
theorem keyOk_inv {P:Program} {kt:TypeId} {k:Value} (h:keyOk P kt k=true) :
  dflat k=true∧(∀ b (w:World),(Instr.checkKey b 10000 kt k).run P w=.ok () w)∧∃ d,P.underlying kt=some d:=by
 unfold keyOk at h
 simp only [Bool.and_eq_true] at h
 obtain ⟨⟨h1,h2⟩,h3⟩:=h
 refine ⟨h1,fun b w=>?_,und_of_check h2⟩
 cases b with
 | true =>
  cases hp:pr P (Instr.checkKey true 10000 kt k) with
  | none=>rw [hp] at h2;cases h2
  | some u=>exact pr_run hp w
 | false =>
  cases hp:pr P (Instr.checkKey false 10000 kt k) with
  | none=>rw [hp] at h3;cases h3
  | some u=>exact pr_run hp w
theorem lookup_sim {P:Program} {ng n0:Nat} {ρ:Ren} {H:AHeap} {w:World} (hr:Rel ng n0 ρ H w) {t:TypeId} {x x' k k' v:Value} {ok:Bool} (h:lookupA P t x k ok H=some v) (hx:VRel ρ x x') (hk:VRel ρ k k') :
  ∃ v',(Instr.lookup t x' k' ok).run P w=.ok v' w∧VRel ρ v v':=by
 unfold lookupA at h
 split at h
 rotate_left
 ·cases h
 rename_i kt et hu
 split at h
 rotate_left
 ·cases h
 rename_i hko
 obtain ⟨hdk,hchk,d,hud⟩:=keyOk_inv hko
 obtain rfl:=hk.of_dflat hdk
 split at h
 rotate_left
 ·cases h
 rename_i es z hes hz
 split at h
 rotate_left
 ·cases h
 rename_i hdz
 -- the entries, as they lie
 have hent:∃ es',EntRel ρ es es'∧((x'=.map none∧es' = #[])∨∃ r clk,x'=.map (some r)∧w.heap[r]? = some (.map es' clk)):=by
  unfold entsA at hes
  split at hes
  ·cases hes
   obtain rfl:=hx.of_flat rfl
   exact ⟨#[],⟨rfl,fun i h=>by simp at h⟩,.inl ⟨rfl,rfl⟩⟩
  ·rename_i r
   split at hes
   ·rename_i es0 hg
    cases hes
    cases hx with
    | flat hf=>simp [Swa.flat] at hf
    | map hb =>
     have:=hr.blk _ _ hb (rd_lt hr (by rw [hg];simp))
     rw [hg] at this
     obtain ⟨_,_,es',clk,h3,h4,_⟩:=this
     exact ⟨es',h4,.inr ⟨_,clk,rfl,h3⟩⟩
   ·cases hes
  ·cases hes
 obtain ⟨es',hrel,hcs⟩:=hent
 cases hfm:findM P kt k' es 0 with
 | none=>rw [hfm] at h;cases h
 | some r =>
  obtain ⟨r',hf,hcase⟩:=find_sim w hrel hfm hud
  have hval:∃ v':Value,(match r' with|some (_,u)=>(if ok=true then Value.tuple #[u,.bool true] else u)|none=>(if ok=true then Value.tuple #[z,.bool false] else z))=v'∧VRel ρ v v':=by
   rw [hfm] at h
   rcases hcase with ⟨rfl,rfl⟩|⟨j,u,u',rfl,rfl,_,hv⟩
   ·simp only [Option.some.injEq] at h
    refine ⟨_,rfl, ?_⟩
    subst h
    split
    ·exact .tuple rfl (ARel.push (.one (VRel.dflat hdz)) (.flat rfl):ARel ρ #[z,.bool false] #[z,.bool false]).2
    ·exact VRel.dflat hdz
   ·simp only [Option.some.injEq] at h
    refine ⟨_,rfl, ?_⟩
    subst h
    split
    ·have:=(ARel.push (.one hv) (.flat rfl):ARel ρ #[u,.bool true] #[u',.bool true])
     exact .tuple this.1 this.2
    ·exact hv
  obtain ⟨v',hv1,hv2⟩:=hval
  refine ⟨v', ?_,hv2⟩
  subst hv1
  unfold Instr.lookup
  rcases hcs with ⟨rfl,rfl⟩|⟨r0,clk,rfl,hh⟩
  ·simp only [Sem.run_bind,run_underlying' hu,Result.andThen_ok,Sem.run_pure,hchk,hf]
   cases r' with
   | none=>simp only [Sem.run_bind,run_zero hz,Result.andThen_ok,Sem.run_pure]
   | some p=>obtain ⟨j,u⟩:=p;simp only [Sem.run_bind,Result.andThen_ok,Sem.run_pure]
  ·simp only [Sem.run_bind,run_underlying' hu,Result.andThen_ok,Sem.run_pure,run_getObj hh (by simp),hchk,hf]
   cases r' with
   | none=>simp only [Sem.run_bind,run_zero hz,Result.andThen_ok,Sem.run_pure]
   | some p=>obtain ⟨j,u⟩:=p;simp only [Sem.run_bind,Result.andThen_ok,Sem.run_pure]
theorem BornOk.push {es:Array MapEntry} {clk:Nat} {k v:Value} (h:BornOk es clk):BornOk (es.push { key:=k,val:=v,born:=clk }) (clk + 1):=by
 have at_:∀ i (hi:i < (es.push { key:=k,val:=v,born:=clk }).size),(i=es.size∧(es.push { key:=k,val:=v,born:=clk })[i].born=clk)∨∃ h2:i < es.size,(es.push { key:=k,val:=v,born:=clk })[i].born=es[i].born:=by
  intro i hi
  by_cases hl:i < es.size
  ·exact .inr ⟨hl,by rw [Array.getElem_push_lt hl]⟩
  ·have:i=es.size:=by simp at hi;omega
   subst this
   exact .inl ⟨rfl,by rw [Array.getElem_push_eq]⟩
 refine ⟨fun i hi=>?_,fun i j hi hj e=>?_⟩
 ·rcases at_ i hi with ⟨_,q⟩|⟨hl,q⟩
  ·omega
  ·have:=h.1 i hl;omega
 ·rcases at_ i hi with ⟨e1,q⟩|⟨hl,q⟩ <;> rcases at_ j hj with ⟨e2,r⟩|⟨hl2,r⟩
  ·omega
  ·have:=h.1 j hl2;omega
  ·have:=h.1 i hl;omega
  ·exact h.2 i j hl hl2 (by omega)
theorem BornOk.modify {es:Array MapEntry} {clk j:Nat} {k v:Value} (h:BornOk es clk):BornOk (es.modify j fun e=>{ e with key:=k,val:=v }) clk:=by
 have at_:∀ i (hi:i < (es.modify j fun e=>{ e with key:=k,val:=v }).size),∃ h2:i < es.size,(es.modify j fun e=>{ e with key:=k,val:=v })[i].born=es[i].born:=by
  intro i hi
  have hl:i < es.size:=by simpa using hi
  refine ⟨hl, ?_⟩
  rw [Array.getElem_modify]
  split <;> rfl
 refine ⟨fun i hi=>?_,fun i i2 hi hj e=>?_⟩
 ·obtain ⟨hl,q⟩:=at_ i hi
  rw [q];exact h.1 i hl
 ·obtain ⟨hl,q⟩:=at_ i hi
  obtain ⟨hl2,q2⟩:=at_ i2 hj
  exact h.2 i i2 hl hl2 (by omega)
theorem mapUpdate_sim {P:Program} {ng n0:Nat} {ρ:Ren} {H H':AHeap} {w:World} (hr:Rel ng n0 ρ H w) {t:TypeId} {m m' k k' v v':Value} (h:mapUpdateA P t m k v H=some H') (hm:VRel ρ m m') (hk:VRel ρ k k') (hv:VRel ρ v v') :
  ∃ w',(Instr.mapUpdate t m' k' v').run P w=.ok () w'∧Step ng n0 ρ H w ρ H' w':=by
 unfold mapUpdateA at h
 split at h
 rotate_left
 ·cases h
 rename_i kt et r hu
 split at h
 rotate_left
 ·cases h
 rename_i hko
 obtain ⟨hdk,hchk,d,hud⟩:=keyOk_inv hko
 obtain rfl:=hk.of_dflat hdk
 split at h
 rotate_left
 ·cases h
 rename_i es hg
 cases hm with
 | flat hf=>simp [Swa.flat] at hf
 | map hb =>
  rename_i im
  have hlt:=rd_lt hr (b:=r) (by rw [hg];simp)
  have hblk:=hr.blk _ _ hb hlt
  rw [hg] at hblk
  obtain ⟨hro,hgr,es',clk,h3,h4,hbn⟩:=hblk
  cases hfm:findM P kt k' es 0 with
  | none=>rw [hfm] at h;cases h
  | some rr =>
   obtain ⟨r',hf,hcase⟩:=find_sim w h4 hfm hud
   rw [hfm] at h
   have hlen:=h4.1
   rcases hcase with ⟨rfl,rfl⟩|⟨j,u,u',rfl,rfl,hj,hvu⟩
   ·simp only [Option.some.injEq] at h
    subst h
    refine ⟨{ w with heap:=w.heap.setIfInBounds im.blk (.map (es'.push { key:=k',val:=v',born:=clk }) (clk + 1)) }, ?_, ?_⟩
    ·unfold Instr.mapUpdate
     simp only [Sem.run_bind,run_underlying' hu,Result.andThen_ok,run_getObj h3 (by simp),hchk,hf,run_setObj h3 (by simp)]
    ·refine step_obj hr hb hlt hro hgr _ _ ⟨hro,hgr,es'.push { key:=k',val:=v',born:=clk },clk + 1, ?_,⟨?_, ?_⟩, ?_⟩
     ·have:=(Array.getElem?_eq_some_iff.1 h3).1
      simp [this]
     ·simp [hlen]
     ·intro i h1 h2
      by_cases hi:i < es.length
      ·rw [List.getElem_append_left hi,Array.getElem_push_lt (by omega)]
       exact h4.2 i hi (by omega)
      ·have hie:i=es.length:=by simp at h1;omega
       subst hie
       rw [List.getElem_append_right (Nat.le_refl _)]
       simp only [Nat.sub_self,List.getElem_cons_zero]
       have:(es'.push { key:=k',val:=v',born:=clk })[es.length] = { key:=k',val:=v',born:=clk }:=by
        simp only [hlen,Array.getElem_push_eq]
       rw [this]
       exact ⟨rfl,hv⟩
     ·exact hbn.push
   ·simp only at h
    split at h
    rotate_left
    ·cases h
    rename_i hsb
    simp only [Option.some.injEq] at h
    subst h
    have hj':j < es'.size:=by omega
    have hkeyj:=(h4.2 j hj hj').1
    refine ⟨{ w with heap:=w.heap.setIfInBounds im.blk (.map (es'.modify j fun e=>{ e with key:=k',val:=v' }) clk) }, ?_, ?_⟩
    ·unfold Instr.mapUpdate
     have hks:(Instr.keyThatStays (((es'[j]?).map (·.key)).getD k') k').run P w=.ok k' w:=by
      have e1:((es'[j]?).map (·.key)).getD k'=((es[j]?).map (·.1)).getD k':=by
       simp [hj,hj',hkeyj]
      rw [e1]
      unfold Instr.keyThatStays
      rw [if_pos hsb]
      rfl
     simp only [Sem.run_bind,run_underlying' hu,Result.andThen_ok,run_getObj h3 (by simp),hchk,hf,hks,run_setObj h3 (by simp)]
    ·refine step_obj hr hb hlt hro hgr _ _ ⟨hro,hgr,es'.modify j fun e=>{ e with key:=k',val:=v' },clk, ?_,⟨?_, ?_⟩, ?_⟩
     ·have:=(Array.getElem?_eq_some_iff.1 h3).1
      simp [this]
     ·simp [hlen]
     ·intro i h1 h2
      have hi:i < es.length:=by simpa using h1
      have hi':i < es'.size:=by omega
      rw [Array.getElem_modify,List.getElem_set]
      by_cases hji:j=i
      ·subst hji
       simp only [if_true]
       exact ⟨trivial,hv⟩
      ·simp only [hji,if_false]
       exact h4.2 i hi hi'
     ·exact hbn.modify
theorem makeMap_sim {P:Program} {ng n0:Nat} {ρ:Ren} {H:AHeap} {w:World} (hr:Rel ng n0 ρ H w) {t:TypeId} (hf:Fresh ρ H (H.alloc (.map []))) :
  ∃ v' w' ρ',(Instr.makeMap t none).run P w=.ok v' w'∧Step ng n0 ρ H w ρ' (H.alloc (.map [])) w'∧VRel ρ' (.map (some H.n)) v'∧(∀ cb,cb < w.heap.size→w'.heap[cb]? = w.heap[cb]?):=by
 have hfn:ρ H.n=none:=hf H.n (Nat.le_refl _) (by simp [AHeap.alloc])
 refine ⟨.map (some w.heap.size),_,_, ?_,step_new hr hfn (.map []) (.map #[] 0) (newImg w 0) rfl rfl ⟨rfl,rfl,#[],0,heap_alloc_new,⟨rfl,fun i h=>by simp at h⟩,fun i h=>by simp at h,fun i j h=>by simp at h⟩,.map (Ren.add_self _ _ _),fun cb h=>heap_alloc_old h⟩
 simp only [Instr.makeMap,Sem.run_bind,Sem.run_pure,Result.andThen_ok,run_newObj,World.alloc_eq]
theorem range_sim {P:Program} {ng n0:Nat} {ρ:Ren} {H:AHeap} {w:World} (hr:Rel ng n0 ρ H w) {t:TypeId} {s:ByteArray} (hu:P.underlying t=some .string) (hf:Fresh ρ H (H.alloc (.iter s 0))) :
  ∃ v' w' ρ',(Instr.range t (.string s)).run P w=.ok v' w'∧Step ng n0 ρ H w ρ' (H.alloc (.iter s 0)) w'∧VRel ρ' (vptr H.n 0) v'∧(∀ cb,cb < w.heap.size→w'.heap[cb]? = w.heap[cb]?):=by
 have hfn:ρ H.n=none:=hf H.n (Nat.le_refl _) (by simp [AHeap.alloc])
 refine ⟨.pointer (some ⟨w.heap.size,0,none⟩),_,_, ?_,step_new hr hfn (.iter s 0) (.stringIter s 0) (newImg w 0) rfl rfl ⟨rfl,rfl,rfl,heap_alloc_new⟩,vrel_new rfl,fun cb h=>heap_alloc_old h⟩
 simp only [Instr.range,Sem.run_bind,run_underlying' hu,Sem.run_pure,Result.andThen_ok,run_newObj,World.alloc_eq]
theorem next_sim {P:Program} {ng n0:Nat} {ρ:Ren} {H H':AHeap} {w:World} (hr:Rel ng n0 ρ H w) {ty:TypeId} {x x' v:Value} (h:nextA x H=some (v,H')) (hx:VRel ρ x x') :
  ∃ w',(Instr.next x' true ty).run P w=.ok v w'∧Step ng n0 ρ H w ρ H' w'∧VRel ρ v v:=by
 unfold nextA at h
 split at h
 ·rename_i r
  obtain ⟨im,hb,rfl⟩:=hx.ptr_inv
  split at h
  ·rename_i s pos hg
   have hlt:=rd_lt hr (b:=r) (by rw [hg];simp)
   have hblk:=hr.blk _ _ hb hlt
   rw [hg] at hblk
   obtain ⟨hro,hgr,hbase,h3⟩:=hblk
   have e0:im.base + 0=0:=by omega
   rw [e0]
   split at h
   ·rename_i hp
    cases h
    refine ⟨{ w with heap:=w.heap.setIfInBounds im.blk (.stringIter s (pos + (Utf8.decode s pos).2)) }, ?_, ?_, ?_⟩
    ·simp only [Instr.next,Sem.run_bind,run_getObj h3 (by simp),Result.andThen_ok,hp,if_true,run_setObj h3 (by simp),Sem.run_pure,goInt]
    ·refine step_obj hr hb hlt hro hgr _ _ ⟨hro,hgr,hbase, ?_⟩
     have:=(Array.getElem?_eq_some_iff.1 h3).1
     simp [this]
    ·have:ARel ρ #[Value.bool true,.int .i64 pos,.int .i32 (Utf8.decode s pos).1] #[Value.bool true,.int .i64 pos,.int .i32 (Utf8.decode s pos).1] :=
      ARel.push (ARel.push (.one (.flat rfl)) (.flat rfl)) (.flat rfl)
     exact .tuple this.1 this.2
   ·rename_i hp
    cases h
    refine ⟨w, ?_,Step.refl hr, ?_⟩
    ·simp only [Instr.next,Sem.run_bind,run_getObj h3 (by simp),Result.andThen_ok,hp,if_false,Sem.run_pure]
    ·have:ARel ρ #[Value.bool false] #[Value.bool false]:=.one (.flat rfl)
     exact .tuple this.1 this.2
  ·cases h
 ·cases h
def okOpd (ng:Nat):Operand→Bool
 | .const v=>dflat v
 | .global g=>decide (g < ng)
 | _=>true
theorem opd_rel {ng n0:Nat} {ρ:Ren} {H:AHeap} {w:World} (hr:Rel ng n0 ρ H w) {nt:Nat} {env:Env} {tmps:Array Value} (he:EnvRel ρ nt env tmps) (x:Operand) (h:okOpd ng x=true) :
  VRel ρ (ev env x) (evc tmps x):=by
 cases x with
 | tmp t=>exact he.2 t
 | const v=>exact VRel.dflat h
 | global g =>
  simp only [okOpd,decide_eq_true_eq] at h
  obtain ⟨im,e,e1,e2⟩:=hr.glob g h
  have:=VRel.ptr (ρ:=ρ) (o:=0) e
  rw [e1,e2] at this
  exact this
 | func f=>exact .func (.func f) rfl rfl (fun i h=>by simp at h) (fun i h=>by simp at h)
def simpleOp:Op→Bool
 | .move _|.assign _|.pick ..|.alloc _|.box ..|.build ..|.buildSlice ..|.load ..|.nilCheck _|.binOp ..|.unOp ..|.convert ..|.makeFunc ..|.makeMap ..|.makeSlice ..|.slice ..|.fieldAddr ..|.field ..|.indexAddr ..|.index ..|.extract ..|.lookup ..|.range ..=>true
 | .call ⟨.builtin .len,_,_⟩|.call ⟨.builtin .cap,_,_⟩|.call ⟨.builtin .min,_,_⟩|.call ⟨.builtin .max,_,_⟩=>true
 | _=>false
def nextVal:Next→Option Value
 | .value v=>some v
 | .skip=>some undef
 | _=>none
theorem cells_news {ng n0:Nat} {ρ:Ren} {H:AHeap} {w:World} (hr:Rel ng n0 ρ H w) {b:Nat} {c:List Value} (h:H.rd b=some c) {im:Img} (hb:ρ b=some im)
  (o s:Nat) (hfit:o + s≤c.length) :
  ∃ l':List Value,l'.length=s∧LRel ρ ((c.drop o).take s) l'∧∀ j u,l'[j]? = some u→w.cell? ((⟨im.blk,im.base + o,none⟩:Addr).add j)=some u:=by
 obtain ⟨c',T',fz,h2,h4,h6⟩:=rd_rel hr h hb
 have hlen:((c'.toList.drop (im.base + o)).take s).length=s:=by simp;omega
 refine ⟨(c'.toList.drop (im.base + o)).take s,hlen,⟨by rw [hlen];simp;omega, ?_⟩, ?_⟩
 ·intro i h1 h2'
  have hi:i < s:=by simp at h1;omega
  obtain ⟨v',e1,e2,e3⟩:=h6 (o + i) (by omega)
  have e4:((c.drop o).take s)[i]=c[o + i]:=by simp
  have e5:((c'.toList.drop (im.base + o)).take s)[i]=v':=by
   have:im.base + (o + i) < c'.size:=(Array.getElem?_eq_some_iff.1 e1).1
   have e6:=(Array.getElem?_eq_some_iff.1 e1).2
   simp only [List.getElem_take,List.getElem_drop,Array.getElem_toList,Nat.add_assoc]
   exact e6
  rw [e4,e5]
  exact ⟨e2,e3⟩
 ·intro j u e
  rw [add_plain',cell_of h2]
  have hj:j < s:=by
   have:=(List.getElem?_eq_some_iff.1 e).1
   omega
  rw [List.getElem?_take_of_lt hj,List.getElem?_drop] at e
  simpa using e
theorem lrel_one {ρ:Ren} {l l':List Value} (h:LRel ρ l l'):∀ u∈l',u.oneCell'=true:=by
 intro u hu
 rw [oneCell_scalar]
 obtain ⟨i,hi,rfl⟩:=List.getElem_of_mem hu
 have e:=h.1
 exact scalar_rel (h.2 i (by omega) hi).1 (h.2 i (by omega) hi).2
theorem zeroCells_eq (z:Array Value) (n:Nat) (hz:0 < z.size):(Builtin.zeroCells z n).toList=zeros z.toList n:=zeros_arr z n hz
theorem appendOp_sim {P:Program} {ng n0:Nat} {ρ:Ren} {H H':AHeap} {w:World} (hr:Rel ng n0 ρ H w) {ts:Array TypeId} {ty:TypeId} {args args':Array Value} {v:Value}
  (h:appendOp P ts args.toList H=some (v,H')) (ha:ARel ρ args args') (hf:Fresh ρ H H') :
  ∃ v' w' ρ',(Builtin.append_ ts ty args').run P w=.ok v' w'∧Step ng n0 ρ H w ρ' H' w'∧VRel ρ' v v':=by
 unfold appendOp at h
 split at h
 rotate_left
 ·cases h
 rename_i t t1 s x hts hargs
 obtain rfl:ts = #[t,t1]:=Array.ext' hts
 obtain rfl:args = #[s,x]:=Array.ext' hargs
 obtain ⟨s',x',rfl⟩:∃ s' x',args' = #[s',x']:=by
  have h1:=ha.1
  match args' with
  | ⟨[a,b]⟩=>exact ⟨a,b,rfl⟩
  | ⟨[]⟩=>simp at h1
  | ⟨[a]⟩=>simp at h1
  | ⟨a :: b :: c :: d⟩=>simp at h1
 have hs:VRel ρ s s':=ha.2 0 (by simp) (by simp)
 have hx:VRel ρ x x':=ha.2 1 (by simp) (by simp)
 split at h
 ·-- zeros
  rename_i e k hu hu1
  split at h
  rotate_left
  ·cases h
  rename_i by_ z k2 i hby hz
  split at h
  rotate_left
  ·cases h
  rename_i hc
  obtain ⟨c1,c2,c3,hd⟩:=hc
  obtain rfl:=hx.int_inv
  refine appendA_sim (tx:=t1) (ty:=ty) (new':=zeros z.cells.toList i.toNat) hr h hs hf ?_
  intro e' inf z' hu' hi hz' hzs hs0 hl
  rw [hu] at hu';cases hu'
  have hzz:z'=z:=by
   unfold tyZero at hz
   rw [hi] at hz
   simp only [Option.bind_some] at hz
   rw [hz'] at hz
   cases hz;rfl
  subst hzz
  have hbb:inf.bytes=by_:=by
   unfold tyBytes at hby
   rw [hi] at hby
   simpa using hby
  subst hbb
  refine ⟨zeros_rel hd _, ?_,lrel_one (zeros_rel (ρ:=ρ) hd _),.inr ⟨⟨k,hu1⟩,⟨k2,by congr 1;omega⟩, ?_,by omega, ?_⟩⟩
  ·rw [zeros_length];simp [hzs]
  ·rw [zeroCells_eq _ _ (by omega)]
  ·have hi2:(i.toNat:Int)=i:=by omega
   have:((inf.bytes * i.toNat:Nat):Int)≤2 ^ 40:=by rw [Int.natCast_mul,hi2];exact c3
   omega
 ·-- a slice
  rename_i e e1 hu hu1
  split at h
  rotate_left
  ·cases h
  rename_i sz a n c hsz
  split at h
  rotate_left
  ·cases h
  rename_i new hnew
  have hsrc:∃ new',LRel ρ new new'∧∀ w0:World,w0=w→new.length=n * sz→Src P sz t1 x' n new' w0:=by
   unfold srcA at hnew
   split at hnew
   ·rename_i n' c' heq
    cases heq
    obtain rfl:=hx.slice_nil
    split at hnew
    ·rename_i hn0
     subst hn0
     cases hnew
     exact ⟨[],⟨rfl,fun i h=>by simp at h⟩,fun w0 _ _=>Src.ofNil w0 hu1 _⟩
    ·cases hnew
   ·rename_i b o n' c' heq
    cases heq
    split at hnew
    ·rename_i hn0
     subst hn0
     cases hnew
     have:∃ a' c',x'=.slice (some a') 0 c':=by
      rcases hx.slice_inv with ⟨im,c',hb,hcap,hn,rfl⟩|⟨ho,_,rfl,a,c',rfl⟩ <;> exact ⟨_,_,rfl⟩
     obtain ⟨a',c',rfl⟩:=this
     exact ⟨[],⟨rfl,fun i h=>by simp at h⟩,fun w0 _ _=>Src.ofSlice w0 hu1 a' 0 c' [] (by simp) (fun j u e=>by simp at e) (fun u hu=>by cases hu)⟩
    ·rename_i hn0
     split at hnew
     ·rename_i cc hrd
      split at hnew
      ·rename_i hfit
       cases hnew
       rcases hx.slice_inv with ⟨im,c',hb,hcap,hn,rfl⟩|⟨ho,rfl,rfl,a,c',rfl⟩
       ·obtain ⟨l',q1,q2,q3⟩:=cells_news hr hrd hb o (n * sz) hfit
        exact ⟨l',q2,fun w0 e _=>by subst e;exact Src.ofSlice w0 hu1 _ n c' l' q1 q3 (lrel_one q2)⟩
       ·exact absurd rfl hn0
      ·cases hnew
     ·cases hnew
   ·cases hnew
  obtain ⟨new',hlr,hsrc'⟩:=hsrc
  refine appendA_sim (tx:=t1) (ty:=ty) (new':=new') hr h hs hf ?_
  intro e' inf z' hu' hi hz' hzs hs0 hl
  rw [hu] at hu';cases hu'
  have hss:inf.size=sz:=by
   unfold tySize at hsz
   rw [hi] at hsz
   simpa using hsz
  subst hss
  exact ⟨hlr,by rw [← hlr.1];exact hl,lrel_one hlr,.inl (hsrc' w rfl hl)⟩
 ·-- a string
  rename_i e hu hu1
  split at h
  rotate_left
  ·cases h
  rename_i b hsz
  obtain rfl:=hx.string_inv
  refine appendA_sim (tx:=t1) (ty:=ty) (new':=b.data.toList.map fun x=>.int .u8 x.toNat) hr h hs hf ?_
  intro e' inf z' hu' hi hz' hzs hs0 hl
  rw [hu] at hu';cases hu'
  have hss:inf.size=1:=by
   unfold tySize at hsz
   rw [hi] at hsz
   simpa using hsz
  have hlr:LRel ρ (b.data.toList.map fun x=>Value.int .u8 x.toNat) (b.data.toList.map fun x=>Value.int .u8 x.toNat) :=
   ⟨rfl,fun i h1 h2=>by simp only [List.getElem_map];exact ⟨.flat rfl,rfl⟩⟩
  refine ⟨hlr,hl,lrel_one hlr,.inl ?_⟩
  rw [hss]
  exact Src.ofString w hu1 b
 ·cases h
theorem op_sim {P:Program} {ng n0:Nat} {ρ:Ren} {H H':AHeap} {w:World} (hr:Rel ng n0 ρ H w) {env:Env} {tmps:Array Value} {o:Oper} {v:Value}
  (h:opF P env o H=some (v,H')) (hE:∀ x,x∈o.op.operands→VRel ρ (ev env x) (evc tmps x)) (hf:Fresh ρ H H') :
  ∃ nx w' v' ρ',(execOp (evc tmps) o).run P w=.ok nx w'∧nextVal nx=some v'∧Step ng n0 ρ H w ρ' H' w'∧VRel ρ' v v'∧(simpleOp o.op=true→∀ cb,cb < w.heap.size→w'.heap[cb]? = w.heap[cb]?):=by
 obtain ⟨dst,op,ty,pos,after,guard⟩:=o
 -- operations that leave the heap as it is
 have still:∀ (r:Option Value),r.map (·,H)=some (v,H')→(∀ u,r=some u→∃ v',(execOp (evc tmps) ⟨dst,op,ty,pos,after,guard⟩).run P w=.ok (.value v') w∧VRel ρ u v') →
   ∃ nx w' v' ρ',(execOp (evc tmps) ⟨dst,op,ty,pos,after,guard⟩).run P w=.ok nx w'∧nextVal nx=some v'∧Step ng n0 ρ H w ρ' H' w'∧VRel ρ' v v'∧(simpleOp op=true→∀ cb,cb < w.heap.size→w'.heap[cb]? = w.heap[cb]?):=by
  intro r h1 h2
  cases r with
  | none=>cases h1
  | some u =>
   simp only [Option.map_some,Option.some.injEq,Prod.mk.injEq] at h1
   obtain ⟨rfl,rfl⟩:=h1
   obtain ⟨v',e1,e2⟩:=h2 u rfl
   exact ⟨_,w,v',ρ,e1,rfl,Step.refl hr,e2,fun _ _ _=>rfl⟩
 have flatE:(⟨dst,op,ty,pos,after,guard⟩:Oper).op.operands.all (fun x=>dflat (ev env x))=true→∀ x,x∈op.operands→evc tmps x=ev env x:=by
  intro ha x hx
  rw [Array.all_eq_true_iff_forall_mem] at ha
  exact (hE x hx).of_dflat (ha x hx)
 cases op <;> simp only [opF] at h <;> (try (cases h;done))
 case move x =>
  cases h
  exact ⟨_,w,_,ρ,rfl,rfl,Step.refl hr,hE x (by simp [Op.operands]),fun _ _ _=>rfl⟩
 case assign x =>
  cases h
  exact ⟨_,w,_,ρ,rfl,rfl,Step.refl hr,hE x (by simp [Op.operands]),fun _ _ _=>rfl⟩
 case pick c a b =>
  split at h
  ·rename_i t ht
   cases h
   have hc:=hE c (by simp [Op.operands])
   rw [ht] at hc
   have hc':=hc.bool_inv
   refine ⟨.value (if t=true then evc tmps a else evc tmps b),w,_,ρ, ?_,rfl,Step.refl hr, ?_,fun _ _ _=>rfl⟩
   ·simp only [execOp,hc',asBool,pure_bind,Sem.run_pure]
   ·cases t
    ·exact hE b (by simp [Op.operands])
    ·exact hE a (by simp [Op.operands])
  ·cases h
 case alloc t =>
  obtain ⟨v',w',ρ',e1,e2,e3,e4⟩:=alloc_sim hr h hf
  exact ⟨.value v',w',v',ρ',by simp only [execOp,Sem.run_bind,e1,Result.andThen_ok,Sem.run_pure],rfl,e2,e3,fun _=>e4⟩
 case box t x =>
  obtain ⟨v',w',ρ',e1,e2,e3,e4⟩:=box_sim (P:=P) hr h (hE x (by simp [Op.operands])) hf
  exact ⟨.value v',w',v',ρ',by simp only [execOp,Sem.run_bind,e1,Result.andThen_ok,Sem.run_pure],rfl,e2,e3,fun _=>e4⟩
 case build t parts =>
  refine still _ h fun u hu=>?_
  obtain ⟨p1,p2⟩:=parts_rel (E:=ev env) (E':=evc tmps) (ps:=parts) (fun p hp=>hE p.2 (by
   simp only [Op.operands,List.mem_toArray,List.mem_map];exact ⟨p,hp,rfl⟩))
  obtain ⟨v',e1,e2⟩:=build_sim w hu p1 p2
  refine ⟨v', ?_,e2⟩
  simp only [execOp,Sem.run_bind]
  have:(parts.map fun (x:Nat×Operand)=>match x with|(i,x)=>(i,evc tmps x))=parts.map fun p=>(p.1,evc tmps p.2):=rfl
  rw [this,e1]
  rfl
 case buildSlice t len parts =>
  obtain ⟨p1,p2⟩:=parts_rel (E:=ev env) (E':=evc tmps) (ps:=parts) (fun p hp=>hE p.2 (by
   simp only [Op.operands,List.mem_toArray,List.mem_map];exact ⟨p,hp,rfl⟩))
  obtain ⟨v',w',ρ',e1,e2,e3,e4⟩:=buildSlice_sim (P:=P) hr h hf p1 p2
  refine ⟨.value v',w',v',ρ', ?_,rfl,e2,e3,fun _=>e4⟩
  simp only [execOp,Sem.run_bind]
  have:(parts.map fun (x:Nat×Operand)=>match x with|(i,x)=>(i,evc tmps x))=parts.map fun p=>(p.1,evc tmps p.2):=rfl
  rw [this,e1]
  rfl
 case load t a =>
  refine still _ h fun u hu=>?_
  obtain ⟨v',e1,e2⟩:=load_sim hr hu (hE a (by simp [Op.operands]))
  exact ⟨v',by simp only [execOp,Sem.run_bind,e1,Result.andThen_ok,Sem.run_pure],e2⟩
 case store t a x =>
  cases hs:storeA P t H (ev env a) (ev env x) with
  | none=>rw [hs] at h;cases h
  | some H2 =>
   rw [hs] at h
   simp only [Option.map_some,Option.some.injEq,Prod.mk.injEq] at h
   obtain ⟨rfl,rfl⟩:=h
   obtain ⟨w',e1,e2⟩:=store_sim hr hs (hE a (by simp [Op.operands])) (hE x (by simp [Op.operands]))
   exact ⟨.skip,w',undef,ρ,by simp only [execOp,Sem.run_bind,e1,Result.andThen_ok,Sem.run_pure],rfl,e2,undef_rel ρ,fun h=>by simp [simpleOp] at h⟩
 case nilCheck x =>
  refine still _ h fun u hu=>?_
  exact nilCheck_sim (P:=P) w (o:=⟨dst,.nilCheck x,ty,pos,after,guard⟩) rfl rfl hu (hE x (by simp [Op.operands]))
 case binOp op t x y yt =>
  refine still _ h fun u hu=>?_
  unfold binA at hu
  split at hu
  ·rename_i hd
   have he':execOp (evc tmps) ⟨dst,.binOp op t x y yt,ty,pos,after,guard⟩=execOp (ev env) ⟨dst,.binOp op t x y yt,ty,pos,after,guard⟩ :=
    execOp_flat (fun z hz=>flatE (by simp [Op.operands,hd.1,hd.2]) z hz) trivial
   obtain ⟨e1,e2⟩:=prOp_sim (ρ:=ρ) hu he' w
   exact ⟨u,e1,e2⟩
  ·have hx:=hE x (by simp [Op.operands])
   have hy:=hE y (by simp [Op.operands])
   split at hu
   ·rename_i d hdd
    cases hn:eqNil d (ev env x) (ev env y) with
    | none=>rw [hn] at hu;cases hu
    | some b =>
     rw [hn] at hu
     simp only [Option.map_some,Option.some.injEq] at hu
     subst hu
     obtain ⟨q1,q2,q3,q4⟩:=eqNil_sim w hn hdd hx hy
     refine ⟨.bool b, ?_,.flat rfl⟩
     simp only [execOp,Sem.run_bind,q2,Result.andThen_ok,q3,q1,Sem.run_pure]
   ·rename_i d hdd
    cases hn:eqNil d (ev env x) (ev env y) with
    | none=>rw [hn] at hu;cases hu
    | some b =>
     rw [hn] at hu
     simp only [Option.map_some,Option.some.injEq] at hu
     subst hu
     obtain ⟨q1,q2,q3,q4⟩:=eqNil_sim w hn hdd hx hy
     refine ⟨.bool !b, ?_,.flat rfl⟩
     simp only [execOp,Sem.run_bind,q2,Result.andThen_ok,q4,q1,Sem.run_pure]
   ·cases hu
 case unOp op t x =>
  refine still _ h fun u hu=>?_
  unfold flatOp at hu
  split at hu
  ·rename_i hd
   have he':execOp (evc tmps) ⟨dst,.unOp op t x,ty,pos,after,guard⟩=execOp (ev env) ⟨dst,.unOp op t x,ty,pos,after,guard⟩:=execOp_flat (flatE hd) trivial
   obtain ⟨e1,e2⟩:=prOp_sim (ρ:=ρ) hu he' w
   exact ⟨u,e1,e2⟩
  ·cases hu
 case convert a b x =>
  refine still _ h fun u hu=>?_
  unfold flatOp at hu
  split at hu
  ·rename_i hd
   have he':execOp (evc tmps) ⟨dst,.convert a b x,ty,pos,after,guard⟩=execOp (ev env) ⟨dst,.convert a b x,ty,pos,after,guard⟩:=execOp_flat (flatE hd) trivial
   obtain ⟨e1,e2⟩:=prOp_sim (ρ:=ρ) hu he' w
   exact ⟨u,e1,e2⟩
  ·cases hu
 case makeFunc fn a c =>
  cases fn <;> simp only at h <;> (try (cases h;done))
  rename_i f
  cases h
  have ha:=ARel.map (ρ:=ρ) (l:=a) (f:=ev env) (f':=evc tmps) (fun x hx=>hE x (by simp [Op.operands,hx]))
  have hc:=ARel.map (ρ:=ρ) (l:=c) (f:=ev env) (f':=evc tmps) (fun x hx=>hE x (by simp [Op.operands,hx]))
  refine ⟨.value (.func (.func f) (a.map (evc tmps)) (c.map (evc tmps))),w,_,ρ, ?_,rfl,Step.refl hr,.func (.func f) ha.1 hc.1 ha.2 hc.2,fun _ _ _=>rfl⟩
  simp only [execOp,Instr.makeFunc,Sem.run_bind,Sem.run_pure,Result.andThen_ok]
 case makeMap t r =>
  cases r <;> simp only at h <;> (try (cases h;done))
  cases h
  obtain ⟨v',w',ρ',e1,e2,e3,e4⟩:=makeMap_sim (P:=P) (t:=t) hr hf
  exact ⟨.value v',w',v',ρ',by simp only [execOp,Option.map_none,Sem.run_bind,e1,Result.andThen_ok,Sem.run_pure],rfl,e2,e3,fun _=>e4⟩
 case makeSlice t l c =>
  obtain ⟨v',w',ρ',e1,e2,e3,e4⟩:=makeSlice_sim (P:=P) hr h (hE l (by simp [Op.operands])) (hE c (by simp [Op.operands])) hf
  exact ⟨.value v',w',v',ρ',by simp only [execOp,Sem.run_bind,e1,Result.andThen_ok,Sem.run_pure],rfl,e2,e3,fun _=>e4⟩
 case slice t x lo hi mx =>
  refine still _ h fun u hu=>?_
  have hlo:ORel ρ (lo.map (ev env)) (lo.map (evc tmps)):=by
   cases lo with
   | none=>trivial
   | some y=>exact hE y (by simp [Op.operands])
  have hhi:ORel ρ (hi.map (ev env)) (hi.map (evc tmps)):=by
   cases hi with
   | none=>trivial
   | some y=>exact hE y (by simp [Op.operands])
  have hmx:ORel ρ (mx.map (ev env)) (mx.map (evc tmps)):=by
   cases mx with
   | none=>trivial
   | some y=>exact hE y (by simp [Op.operands])
  obtain ⟨v',e1,e2⟩:=slice_sim hr hu (hE x (by simp [Op.operands])) hlo hhi hmx
  exact ⟨v',by simp only [execOp,Sem.run_bind,e1,Result.andThen_ok,Sem.run_pure],e2⟩
 case fieldAddr s x f =>
  refine still _ h fun u hu=>?_
  obtain ⟨v',e1,e2⟩:=fieldAddr_sim w hu (hE x (by simp [Op.operands]))
  exact ⟨v',by simp only [execOp,Sem.run_bind,e1,Result.andThen_ok,Sem.run_pure],e2⟩
 case field t x f =>
  refine still _ h fun u hu=>?_
  obtain ⟨v',e1,e2⟩:=field_sim w hu (hE x (by simp [Op.operands]))
  exact ⟨v',by simp only [execOp,Sem.run_bind,e1,Result.andThen_ok,Sem.run_pure],e2⟩
 case indexAddr t x ix =>
  refine still _ h fun u hu=>?_
  obtain ⟨v',e1,e2⟩:=indexAddr_sim w hu (hE x (by simp [Op.operands])) (hE ix (by simp [Op.operands]))
  exact ⟨v',by simp only [execOp,Sem.run_bind,e1,Result.andThen_ok,Sem.run_pure],e2⟩
 case index t x ix =>
  refine still _ h fun u hu=>?_
  obtain ⟨v',e1,e2⟩:=index_sim w hu (hE x (by simp [Op.operands])) (hE ix (by simp [Op.operands]))
  exact ⟨v',by simp only [execOp,Sem.run_bind,e1,Result.andThen_ok,Sem.run_pure],e2⟩
 case lookup t x k ok =>
  refine still _ h fun u hu=>?_
  obtain ⟨v',e1,e2⟩:=lookup_sim hr hu (hE x (by simp [Op.operands])) (hE k (by simp [Op.operands]))
  exact ⟨v',by simp only [execOp,Sem.run_bind,e1,Result.andThen_ok,Sem.run_pure],e2⟩
 case mapUpdate t m k x =>
  cases hs:mapUpdateA P t (ev env m) (ev env k) (ev env x) H with
  | none=>rw [hs] at h;cases h
  | some H2 =>
   rw [hs] at h
   simp only [Option.map_some,Option.some.injEq,Prod.mk.injEq] at h
   obtain ⟨rfl,rfl⟩:=h
   obtain ⟨w',e1,e2⟩:=mapUpdate_sim hr hs (hE m (by simp [Op.operands])) (hE k (by simp [Op.operands])) (hE x (by simp [Op.operands]))
   exact ⟨.skip,w',undef,ρ,by simp only [execOp,Sem.run_bind,e1,Result.andThen_ok,Sem.run_pure],rfl,e2,undef_rel ρ,fun h=>by simp [simpleOp] at h⟩
 case range t x =>
  split at h
  ·rename_i s hu hs
   cases h
   have hx:=hE x (by simp [Op.operands])
   rw [hs] at hx
   have hx':=hx.string_inv
   obtain ⟨v',w',ρ',e1,e2,e3,e4⟩:=range_sim (P:=P) hr hu hf
   exact ⟨.value v',w',v',ρ',by simp only [execOp,hx',Sem.run_bind,e1,Result.andThen_ok,Sem.run_pure],rfl,e2,e3,fun _=>e4⟩
  ·cases h
 case next it isS =>
  cases isS <;> simp only at h <;> (try (cases h;done))
  obtain ⟨w',e1,e2,e3⟩:=next_sim (P:=P) (ty:=ty) hr h (hE it (by simp [Op.operands]))
  exact ⟨.value v,w',v,ρ,by simp only [execOp,Sem.run_bind,e1,Result.andThen_ok,Sem.run_pure],rfl,e2,e3,fun h=>by simp [simpleOp] at h⟩
 case extract x i =>
  refine still _ h fun u hu=>?_
  obtain ⟨v',e1,e2⟩:=extract_sim (P:=P) w hu (hE x (by simp [Op.operands]))
  exact ⟨v',by simp only [execOp,Sem.run_bind,e1,Result.andThen_ok,Sem.run_pure],e2⟩
 case call c =>
  obtain ⟨callee,args,argTypes⟩:=c
  cases callee with
  | value f=>cases h
  | invoke r m=>cases h
  | builtin b =>
   have hargs:∀ x,x∈args→VRel ρ (ev env x) (evc tmps x):=fun x hx=>hE x (by simp [Op.operands,Call.operands,hx])
   cases b <;> simp only at h <;> (try (cases h;done))
   case append =>
    have ha:=ARel.map (ρ:=ρ) (l:=args) (f:=ev env) (f':=evc tmps) hargs
    have e0:args.toList.map (ev env)=(args.map (ev env)).toList:=by simp
    rw [e0] at h
    obtain ⟨v',w',ρ',e1,e2,e3⟩:=appendOp_sim (P:=P) (ty:=ty) hr h ha hf
    exact ⟨.value v',w',v',ρ',by simp only [execOp,resolve,pure_bind,invoke,builtin,Sem.run_bind,e1,Result.andThen_ok,Sem.run_pure],rfl,e2,e3,fun h=>by simp [simpleOp] at h⟩
   case cap =>
    split at h
    ·rename_i t x ht hx
     refine still _ h fun u hu=>?_
     obtain ⟨y,rfl⟩:∃ y,args = #[y]:=by
      have:args.toList.length=1:=by have:=congrArg List.length hx;simpa using this
      match hargs':args with
      | ⟨[y]⟩=>exact ⟨y,rfl⟩
     simp at hx
     obtain ⟨e1,e2⟩:=cap_sim (P:=P) (ty:=ty) hr ht hu (hx ▸ hargs y (by simp))
     exact ⟨u,by simp only [execOp,resolve,pure_bind,invoke,builtin,Sem.run_bind,Sem.run_pure,List.map_toArray,List.map_cons,List.map_nil,e1,Result.andThen_ok],e2⟩
    ·cases h
   case len =>
    split at h
    ·rename_i t x ht hx
     refine still _ h fun u hu=>?_
     obtain ⟨y,rfl⟩:∃ y,args = #[y]:=by
      have:args.toList.length=1:=by have:=congrArg List.length hx;simpa using this
      match hargs':args with
      | ⟨[y]⟩=>exact ⟨y,rfl⟩
     simp at hx
     obtain ⟨e1,e2⟩:=len_sim (P:=P) (ty:=ty) hr ht hu (hx ▸ hargs y (by simp))
     exact ⟨u,by simp only [execOp,resolve,pure_bind,invoke,builtin,Sem.run_bind,Sem.run_pure,List.map_toArray,List.map_cons,List.map_nil,e1,Result.andThen_ok],e2⟩
    ·cases h
   case max =>
    refine still _ h fun u hu=>?_
    unfold flatOp at hu
    split at hu
    ·rename_i hd
     have he':=execOp_flat (o:=⟨dst,.call { callee:=.builtin .max,args,argTypes },ty,pos,after,guard⟩) (flatE hd) ⟨_,rfl⟩
     obtain ⟨e1,e2⟩:=prOp_sim (ρ:=ρ) hu he' w
     exact ⟨u,e1,e2⟩
    ·cases hu
   case min =>
    refine still _ h fun u hu=>?_
    unfold flatOp at hu
    split at hu
    ·rename_i hd
     have he':=execOp_flat (o:=⟨dst,.call { callee:=.builtin .min,args,argTypes },ty,pos,after,guard⟩) (flatE hd) ⟨_,rfl⟩
     obtain ⟨e1,e2⟩:=prOp_sim (ρ:=ρ) hu he' w
     exact ⟨u,e1,e2⟩
    ·cases hu
def ancOf (acc:List Nat) (o:Oper):Nat:=o.after.toList.foldr (fun e s=>if Region.binds .any e=true then s ||| (2 ^ e.on ||| acc.getD e.on 0) else s) 0
def ancs:List Oper→List Nat→List Nat
 | [],acc=>acc
 | o :: os,acc=>ancs os (acc ++ [ancOf acc o])
def isAnc (ops:Array Oper) (i j:Nat):Bool:=((ancs ops.toList []).getD j 0).testBit i
theorem foldr_bits (acc:List Nat) (i:Nat):∀ (l:List Edge),(l.foldr (fun e s=>if Region.binds .any e=true then s ||| (2 ^ e.on ||| acc.getD e.on 0) else s) 0).testBit i=true ↔
  ∃ e∈l,Region.binds .any e=true∧(e.on=i∨(acc.getD e.on 0).testBit i=true)
 | []=>by simp
 | e :: l=>by
  simp only [List.foldr_cons]
  by_cases hb:Region.binds .any e=true
  ·rw [if_pos hb,Nat.testBit_or,Nat.testBit_or,Bool.or_eq_true,Bool.or_eq_true,foldr_bits acc i l,Nat.testBit_two_pow]
   simp only [decide_eq_true_eq,List.mem_cons]
   constructor
   ·rintro (⟨e',h1,h2⟩|h|h)
    ·exact ⟨e',.inr h1,h2⟩
    ·exact ⟨e,.inl rfl,hb,.inl h⟩
    ·exact ⟨e,.inl rfl,hb,.inr h⟩
   ·rintro ⟨e',(rfl|h1),h2,h3⟩
    ·exact .inr h3
    ·exact .inl ⟨e',h1,h2,h3⟩
  ·rw [if_neg hb,foldr_bits acc i l]
   simp only [List.mem_cons]
   constructor
   ·rintro ⟨e',h1,h2⟩;exact ⟨e',.inr h1,h2⟩
   ·rintro ⟨e',(rfl|h1),h2,h3⟩
    ·exact absurd h2 hb
    ·exact ⟨e',h1,h2,h3⟩
theorem ancs_pre:∀ (os:List Oper) (acc:List Nat) (i:Nat),i < acc.length→(ancs os acc).getD i 0=acc.getD i 0
 | [],acc,i,h=>rfl
 | o :: os,acc,i,h=>by
  rw [ancs,ancs_pre os _ i (by simp;omega)]
  simp [List.getD,List.getElem?_append_left h]
theorem ancs_at:∀ (os:List Oper) (acc:List Nat) (k:Nat) (o:Oper),os[k]? = some o→(∀ e∈o.after.toList,Region.binds .any e=true→e.on < acc.length + k) →
  ∀ i,((ancs os acc).getD (acc.length + k) 0).testBit i=true↔∃ e∈o.after.toList,Region.binds .any e=true∧(e.on=i∨((ancs os acc).getD e.on 0).testBit i=true)
 | [],_,_,_,h,_,_=>by simp at h
 | o' :: os,acc,0,o,h,hb,i=>by
  simp only [List.getElem?_cons_zero,Option.some.injEq] at h
  subst h
  have h1:(ancs (o' :: os) acc).getD (acc.length + 0) 0=ancOf acc o':=by
   rw [ancs,ancs_pre os _ _ (by simp)]
   simp [List.getD]
  rw [h1,ancOf,foldr_bits]
  constructor
  ·rintro ⟨e,h1,h2,h3⟩
   refine ⟨e,h1,h2,h3.imp id fun h=>?_⟩
   rw [ancs_pre (o' :: os) acc e.on (by have:=hb e h1 h2;omega)];exact h
  ·rintro ⟨e,h1,h2,h3⟩
   refine ⟨e,h1,h2,h3.imp id fun h=>?_⟩
   rw [ancs_pre (o' :: os) acc e.on (by have:=hb e h1 h2;omega)] at h;exact h
 | o' :: os,acc,k + 1,o,h,hb,i=>by
  have h':os[k]? = some o:=by simpa using h
  have:=ancs_at os (acc ++ [ancOf acc o']) k o h' (fun e h1 h2=>by have:=hb e h1 h2;simp;omega) i
  have e1:(acc ++ [ancOf acc o']).length + k=acc.length + (k + 1):=by simp;omega
  rw [e1] at this
  exact this
def edgesBack (ops:Array Oper):Bool:=(List.range ops.size).all fun i=>match ops[i]? with|some o=>o.after.toList.all fun e=>!Region.binds .any e || decide (e.on < i)|none=>true
theorem edgesBack_at {ops:Array Oper} (h:edgesBack ops=true) {i:Nat} {o:Oper} (ho:ops[i]? = some o):∀ e∈o.after.toList,Region.binds .any e=true→e.on < i:=by
 unfold edgesBack at h
 rw [List.all_eq_true] at h
 have hi:i < ops.size:=(Array.getElem?_eq_some_iff.1 ho).1
 have:=h i (by simpa using hi)
 simp only [ho,List.all_eq_true,Bool.or_eq_true,Bool.not_eq_true',decide_eq_true_eq] at this
 intro e he hb
 rcases this e he with q|q
 ·rw [hb] at q;cases q
 ·exact q
theorem isAnc_iff {ops:Array Oper} (h:edgesBack ops=true) {j:Nat} {o:Oper} (ho:ops[j]? = some o) (i:Nat) :
  isAnc ops i j=true↔∃ e∈o.after.toList,Region.binds .any e=true∧(e.on=i∨isAnc ops i e.on=true):=by
 have:=ancs_at ops.toList [] j o (by simpa using ho) (fun e h1 h2=>by have:=edgesBack_at h ho e h1 h2;simpa using this) i
 simpa [isAnc] using this
theorem isAnc_lt {ops:Array Oper} (h:edgesBack ops=true):∀ (j:Nat) {o:Oper},ops[j]? = some o→∀ i,isAnc ops i j=true→i < j:=by
 intro j
 induction j using Nat.strongRecOn with
 | _ j ih =>
  intro o ho i hi
  obtain ⟨e,h1,h2,h3⟩:=(isAnc_iff h ho i).1 hi
  have hlt:=edgesBack_at h ho e h1 h2
  rcases h3 with rfl|h3
  ·exact hlt
  ·have hs:j < ops.size:=(Array.getElem?_eq_some_iff.1 ho).1
   have:=ih e.on hlt (o:=ops[e.on]'(by omega)) (by simp) i h3
   omega
def Sched (ops:Array Oper):(Nat→Prop)→List Nat→Prop
 | S,[]=>∀ i,i < ops.size→S i
 | S,j :: rest=>(∃ o,ops[j]? = some o∧∀ e∈o.after.toList,Region.binds .any e=true→S e.on)∧¬ S j∧Sched ops (fun i=>S i∨i=j) rest
theorem Sched.congr {ops:Array Oper}:∀ (l:List Nat) {S S':Nat→Prop},(∀ i,S i↔S' i)→Sched ops S l→Sched ops S' l
 | [],S,S',h,hs=>fun i hi=>(h i).1 (hs i hi)
 | j :: rest,S,S',h,⟨⟨o,h1,h2⟩,h3,h4⟩ =>
  ⟨⟨o,h1,fun e he hb=>(h _).1 (h2 e he hb)⟩,fun hh=>h3 ((h j).2 hh),Sched.congr rest (fun i=>by rw [h i]) h4⟩
theorem go_sched {ops:Array Oper} (he:edgesBack ops=true):∀ (fuel t:Nat) (listed:Array Bool) (acc:List Nat),listed.size=ops.size →
  ((List.range ops.size).filter fun i=>!listed.getD i true).length≤fuel →
  ∃ l,Region.linearise.go .any ops fuel t listed acc=acc.reverse ++ l∧Sched ops (fun i=>listed.getD i true=true∧i < ops.size) l
 | 0,t,listed,acc,hs,hl=>by
  refine ⟨[],by simp [Region.linearise.go],fun i hi=>?_⟩
  have h0:((List.range ops.size).filter fun i=>!listed.getD i true)=[]:=List.eq_nil_of_length_eq_zero (by omega)
  rw [List.filter_eq_nil_iff] at h0
  have:=h0 i (by simpa using hi)
  exact ⟨by simpa using this,hi⟩
 | fuel + 1,t,listed,acc,hs,hl=>by
  simp only [Region.linearise.go]
  generalize hrs:((List.range ops.size).filter fun i=>!listed.getD i true && ((ops[i]?).map (·.after.all fun e=>!Region.binds .any e || listed.getD e.on false)).getD false)=rs
  cases hget:rs[t % rs.length]? with
  | none =>
   refine ⟨[],by simp, ?_⟩
   have hnil:rs=[]:=by
    cases hr:rs with
    | nil=>rfl
    | cons a b =>
     rw [hr] at hget
     rw [List.getElem?_eq_none_iff] at hget
     have:=Nat.mod_lt t (show 0 < (a :: b).length by simp)
     omega
   -- nothing is ready: nothing is left
   have hall:∀ i,i < ops.size→listed.getD i true=true:=by
    intro i
    induction i using Nat.strongRecOn with
    | _ i ih =>
     intro hi
     rw [hnil,List.filter_eq_nil_iff] at hrs
     have h1:=hrs i (by simpa using hi)
     cases hli:listed.getD i true with
     | true=>rfl
     | false =>
      exfalso
      apply h1
      simp only [hli,Bool.not_false,Bool.true_and]
      have ho:ops[i]? = some ops[i]:=by simp [hi]
      rw [ho]
      simp only [Option.map_some,Option.getD_some,Array.all_eq_true_iff_forall_mem,Bool.or_eq_true,Bool.not_eq_true']
      intro e hem
      by_cases hb:Region.binds .any e=true
      ·right
       have hlt:=edgesBack_at he ho e (by simpa using hem) hb
       have:=ih e.on hlt (by omega)
       have hsz:e.on < listed.size:=by omega
       simp only [Array.getD,hsz,dif_pos] at this ⊢
       exact this
      ·left;simpa using hb
   exact fun i hi=>⟨hall i hi,hi⟩
  | some j =>
   simp only
   have hmem:j∈rs:=List.mem_of_getElem? hget
   rw [← hrs,List.mem_filter] at hmem
   obtain ⟨hj,hready⟩:=hmem
   have hjs:j < ops.size:=by simpa using hj
   simp only [Bool.and_eq_true,Bool.not_eq_true'] at hready
   obtain ⟨hjl,hjr⟩:=hready
   have ho:ops[j]? = some ops[j]:=by simp [hjs]
   rw [ho] at hjr
   simp only [Option.map_some,Option.getD_some,Array.all_eq_true_iff_forall_mem,Bool.or_eq_true,Bool.not_eq_true'] at hjr
   have hgd:∀ i,(listed.setIfInBounds j true).getD i true=true↔(listed.getD i true=true∨i=j):=by
    intro i
    by_cases hij:i=j
    ·subst hij
     have:i < listed.size:=by omega
     simp [Array.getD,this]
    ·simp only [hij,or_false]
     by_cases hi:i < listed.size
     ·simp only [Array.getD,Array.size_setIfInBounds,hi,dif_pos,Array.getInternal_eq_getElem]
      rw [Array.getElem_setIfInBounds_ne (by simpa using hi) (fun e=>hij e.symm)]
     ·simp [Array.getD,hi]
   have hcount:((List.range ops.size).filter fun i=>!(listed.setIfInBounds j true).getD i true).length≤fuel:=by
    have hsub:((List.range ops.size).filter fun i=>!(listed.setIfInBounds j true).getD i true)=((List.range ops.size).filter fun i=>!listed.getD i true).filter fun i=>decide (i≠j):=by
     rw [List.filter_filter]
     apply List.filter_congr
     intro i _
     have:=hgd i
     cases h1:(listed.setIfInBounds j true).getD i true <;> cases h2:listed.getD i true <;> simp_all
    rw [hsub]
    have hjm:j∈((List.range ops.size).filter fun i=>!listed.getD i true):=by
     rw [List.mem_filter]
     exact ⟨hj,by rw [hjl];rfl⟩
    have hlt:(((List.range ops.size).filter fun i=>!listed.getD i true).filter fun i=>decide (i≠j)).length < ((List.range ops.size).filter fun i=>!listed.getD i true).length:=by
     rw [List.length_filter_lt_length_iff_exists]
     exact ⟨j,hjm,by simp⟩
    omega
   obtain ⟨l,e1,e2⟩:=go_sched he fuel (t / rs.length) (listed.setIfInBounds j true) (j :: acc) (by simpa using hs) hcount
   refine ⟨j :: l,by rw [e1];simp,⟨ops[j],ho, ?_⟩, ?_, ?_⟩
   ·intro e hem hb
    rcases hjr e (by simpa using hem) with q|q
    ·rw [hb] at q;cases q
    ·have hlt:=edgesBack_at he ho e hem hb
     have hsz:e.on < listed.size:=by omega
     refine ⟨?_,by omega⟩
     simp only [Array.getD,hsz,dif_pos] at q ⊢
     exact q
   ·rintro ⟨q,_⟩
    rw [hjl] at q;cases q
   ·refine Sched.congr l (fun i=>?_) e2
    have:=hgd i
    constructor
    ·rintro ⟨a,b⟩
     rcases this.1 a with q|q
     ·exact .inl ⟨q,b⟩
     ·exact .inr q
    ·rintro (⟨a,b⟩|rfl)
     ·exact ⟨this.2 (.inl a),b⟩
     ·exact ⟨this.2 (.inr rfl),hjs⟩
theorem linearise_sched {ops:Array Oper} (he:edgesBack ops=true) (t:Nat):Sched ops (fun _=>False) (Region.linearise .any ops t):=by
 obtain ⟨l,e1,e2⟩:=go_sched he ops.size t (Array.replicate ops.size false) [] (by simp) (by
  refine Nat.le_trans (List.length_filter_le _ _) (by simp))
 unfold Region.linearise
 rw [e1]
 simp only [List.reverse_nil,List.nil_append]
 refine Sched.congr l (fun i=>?_) e2
 constructor
 ·rintro ⟨a,b⟩
  simp [Array.getD,b] at a
 ·intro h;exact h.elim
theorem schedule_any {ops:Array Oper} (t:Nat):Region.schedule true ops t=Region.linearise .any ops t:=by simp [Region.schedule]
inductive Ex where
 | normal
 | exit (id:Nat)
 | ret
 deriving DecidableEq
def Ex.jump:Ex→Option Code
 | .normal=>none
 | .exit id=>some (.exit id)
 | .ret=>some .ret
inductive Tgt where
 | fn (f:FuncId)
 | yield (l:Nat)
abbrev CallRel:=Tgt→Array Value→AHeap→Value→AHeap→Prop
def callV (C:CallRel) (f:Value) (args:Array Value) (H:AHeap) (v:Value) (H':AHeap):Prop :=
 match f with
 | .func (.func g) first cap=>C (.fn g) (first ++ args ++ cap) H v H'
 | .func (.yield l) first cap=>C (.yield l) (first ++ args) H v H'
 | _=>False
def AOp (P:Program) (C:CallRel) (env:Env) (o:Oper) (H:AHeap) (v:Value) (H':AHeap):Prop :=
 match o.op with
 | .call ⟨.value f,args,_⟩=>callV C (ev env f) (args.map (ev env)) H v H'
 | .call ⟨.invoke _ _,_,_⟩=>False
 | _=>opF P env o H=some (v,H')
def yieldedA (ops:Array Oper) (env:Env) (j:Nat):Option Bool :=
 match (ops[j]?).bind (·.dst) with
 | some d=>match env d with|.bool b=>some b|_=>none
 | none=>none
def OpStep (P:Program) (C:CallRel) (ops:Array Oper) (o:Oper) (env:Env) (H:AHeap) (env':Env) (H':AHeap):Prop :=
 (Region.wanted o (yieldedA ops env)=true∧∃ v,AOp P C env o H v H'∧env'=env.set o.dst v) ∨
 (Region.wanted o (yieldedA ops env)=false∧env'=env.set o.dst undef∧H'=H)
def OpsRun (P:Program) (C:CallRel) (ops:Array Oper):List Oper→Env→AHeap→Env→AHeap→Prop
 | [],env,H,env',H'=>env'=env∧H'=H
 | o :: os,env,H,env',H'=>∃ e1 H1,OpStep P C ops o env H e1 H1∧OpsRun P C ops os e1 H1 env' H'
def blkOf:Value→Option Nat
 | .pointer (some a)=>some a.block
 | .slice (some a) _ _=>some a.block
 | .map r=>r
 | _=>none
def touchBlk (env:Env) (H:AHeap):Op→Option Nat
 | .load _ a=>blkOf (ev env a)
 | .slice _ x _ _ _=>blkOf (ev env x)
 | .lookup _ x _ _=>blkOf (ev env x)
 | .call ⟨.builtin .len,args,_⟩=>(match (args[0]?).map (ev env) with|some (.map r)=>r|_=>none)
 | .call ⟨.builtin .cap,args,_⟩=>(args[0]?).bind fun x=>blkOf (ev env x)
 | .alloc _|.box _ _|.buildSlice _ _ _|.makeSlice _ _ _|.makeMap _ _|.range _ _=>some H.n
 | _=>none
def namesOf (ops:Array Oper) (o:Oper):List Nat :=
 o.dst.toList ++ o.op.operands.toList.filterMap (fun|.tmp t=>some t|_=>none) ++
  (match o.guard with|some (g,_)=>(match ops[g]? with|some og=>og.dst.toList|none=>[])|none=>[])
def opOk (ng nt:Nat) (o:Oper):Bool:=(o.dst.all fun d=>decide (d < nt)) && o.op.operands.all (okOpd ng) && (match o.op with|.defer _=>false|_=>true)
def pairOk (ops:Array Oper) (i j:Nat):Bool :=
 match ops[i]?,ops[j]? with
 | some a,some b =>
  isAnc ops i j || ((simpleOp a.op || simpleOp b.op) && (a.dst.all fun d=>!(namesOf ops b).contains d) && (b.dst.all fun d=>!(namesOf ops a).contains d))
 | _,_=>true
def drawOk (ops:Array Oper):Bool:=edgesBack ops && (List.range ops.size).all fun j=>(List.range j).all fun i=>pairOk ops i j
def regOk (ng nt:Nat) (ops:Array Oper) (draw:Bool):Bool:=ops.all (opOk ng nt) && (!draw || drawOk ops)
def noRange:Code→Bool
 | .seq a b|.cond _ a b=>noRange a && noRange b
 | .block _ b|.loop b|.scope b=>noRange b
 | .rangeFunc _ _ _ _=>false
 | _=>true
def codeOk (ng nt:Nat):Code→Bool
 | .region _ ops d=>regOk ng nt ops d
 | .seq a b=>codeOk ng nt a && codeOk ng nt b
 | .cond c a b=>okOpd ng c && codeOk ng nt a && codeOk ng nt b
 | .block _ b=>codeOk ng nt b
 | .loop b=>codeOk ng nt b
 | .rangeFunc f ps a b=>okOpd ng f && (ps.all fun t=>decide (t < nt)) && codeOk ng nt a && codeOk ng nt b && noRange a && noRange b
 | .scope b=>codeOk ng nt b
 | .skip|.label _|.exit _|.ret=>true
 | .goto _=>false
 | .refuse _=>true
def NI (ops:Array Oper) (E:Nat→Env) (Hs:Nat→AHeap):Prop :=
 ∀ i j oi oj,ops[i]? = some oi→ops[j]? = some oj→isAnc ops i j=false→isAnc ops j i=false→simpleOp oi.op=true→simpleOp oj.op=false →
  Region.wanted oi (yieldedA ops (E i))=true→∀ b,touchBlk (E i) (Hs i) oi.op=some b→(Hs (j + 1)).get b=(Hs j).get b
def DrawnRun (P:Program) (C:CallRel) (ops:Array Oper) (env:Env) (H:AHeap) (env':Env) (H':AHeap):Prop :=
 ∃ (E:Nat→Env) (Hs:Nat→AHeap),E 0=env∧Hs 0=H∧E ops.size=env'∧Hs ops.size=H' ∧
  (∀ i o,ops[i]? = some o→OpStep P C ops o (E i) (Hs i) (E (i + 1)) (Hs (i + 1)))∧NI ops E Hs
def roundEnv (ps:Array Tmp) (args:Array Value) (env:Env):Env:=(ps.toList.zip args.toList).foldl (fun e p=>e.put p.1 p.2) env
inductive ARun (P:Program) (C:CallRel) (ng nt:Nat):Code→Env→AHeap→Ex→Env→AHeap→Prop
 | skip {env H}:ARun P C ng nt .skip env H .normal env H
 | label {l env H}:ARun P C ng nt (.label l) env H .normal env H
 | exit {id env H}:ARun P C ng nt (.exit id) env H (.exit id) env H
 | ret {env H}:ARun P C ng nt .ret env H .ret env H
 | seqN {a b env H env1 H1 ex env2 H2} (h:ARun P C ng nt a env H .normal env1 H1) (k:ARun P C ng nt b env1 H1 ex env2 H2):ARun P C ng nt (.seq a b) env H ex env2 H2
 | seqX {a b env H ex env1 H1} (h:ARun P C ng nt a env H ex env1 H1) (hx:ex≠.normal):ARun P C ng nt (.seq a b) env H ex env1 H1
 | cond {c a b env H t ex env1 H1} (hc:ev env c=.bool t) (h:ARun P C ng nt (if t=true then a else b) env H ex env1 H1):ARun P C ng nt (.cond c a b) env H ex env1 H1
 | blockE {id b env H env1 H1} (h:ARun P C ng nt b env H (.exit id) env1 H1):ARun P C ng nt (.block id b) env H .normal env1 H1
 | blockX {id b env H ex env1 H1} (h:ARun P C ng nt b env H ex env1 H1) (hx:ex≠.exit id):ARun P C ng nt (.block id b) env H ex env1 H1
 | loopN {b env H env1 H1 ex env2 H2} (h:ARun P C ng nt b env H .normal env1 H1) (k:ARun P C ng nt (.loop b) env1 H1 ex env2 H2):ARun P C ng nt (.loop b) env H ex env2 H2
 | loopX {b env H ex env1 H1} (h:ARun P C ng nt b env H ex env1 H1) (hx:ex≠.normal):ARun P C ng nt (.loop b) env H ex env1 H1
 | scope {b env H ex env1 H1} (h:ARun P C ng nt b env H ex env1 H1):ARun P C ng nt (.scope b) env H ex env1 H1
 | region {id ops env H env1 H1} (h:OpsRun P C ops ops.toList env H env1 H1):ARun P C ng nt (.region id ops false) env H .normal env1 H1
 | drawn {id ops env H env1 H1} (h:DrawnRun P C ops env H env1 H1):ARun P C ng nt (.region id ops true) env H .normal env1 H1
 | range {f ps asg body env H v H1 env2 ps2 a2 b2 st pend ex}
   (hc:callV C (ev env f) #[.func (.yield H.n) #[] #[]] (H.alloc (.loop nt env ps asg body .ready none)) v H1)
   (hl:H1.get H.n=.loop nt env2 ps2 a2 b2 st pend) (hs:st≠.busy) (hp:pend=ex.jump) :
   ARun P C ng nt (.rangeFunc f ps asg body) env H ex env (H1.put H.n (.loop nt env2 ps2 a2 b2 .exhausted pend))
def resVal (P:Program) (env:Env) (H:AHeap):ResultVar→Option Value
 | .tmp t=>some (env t)
 | .cell a t=>loadA P t H (env a)
def resultsA (P:Program) (fn:Func) (env:Env) (H:AHeap):Option Value :=
 match fn.results.toList.mapM (resVal P env H) with
 | some [v]=>some v
 | some vs=>some (.tuple vs.toArray)
 | none=>none
def argEnv (args:Array Value):Env:=fun t=>args.getD t undef
def CallN (P:Program) (Or:FuncId→Array Value→AHeap→Value→AHeap→Prop) (ng:Nat):Nat→CallRel
 | 0=>fun _ _ _ _ _=>False
 | n + 1=>fun t args H v H' =>
  match t with
  | .fn f => Or f args H v H' ∨ ∃ fn c ex env1, P.funcs[f]? = some fn ∧ fn.body = some c ∧ (fn.name == "runtime.NumGoroutine") = false ∧ args.size ≤ fn.ntmps ∧ codeOk ng fn.ntmps c = true ∧
    ARun P (CallN P Or ng n) ng fn.ntmps c (argEnv args) H ex env1 H'∧(ex=.normal∨ex=.ret)∧resultsA P fn env1 H'=some v
  | .yield l=>∃ nt env ps asg body st pend env1 H1 ps1 a1 b1 e1 ex env2 H2 e3 ps3 a3 b3 st3 pend3,
    H.get l=.loop nt env ps asg body st pend∧args.size=ps.size∧(ps.all fun t=>decide (t < nt))=true∧codeOk ng nt asg=true∧codeOk ng nt body=true∧noRange asg=true∧noRange body=true ∧
    ARun P (CallN P Or ng n) ng nt asg (roundEnv ps args env) H .normal env1 H1 ∧
    H1.get l=.loop nt e1 ps1 a1 b1 .ready pend3 ∧
    ARun P (CallN P Or ng n) ng nt body env1 (H1.put l (.loop nt e1 ps1 a1 b1 .busy pend3)) ex env2 H2 ∧
    H2.get l=.loop nt e3 ps3 a3 b3 st3 pend ∧
    H'=H2.put l (.loop nt e3 ps3 a3 b3 (if ex.jump.isNone=true then .ready else .done) ex.jump)∧v=.bool ex.jump.isNone
structure FB where
 fn:FuncId
 kind:CallKind
 rd:Option Nat
def FB.at (b:FB) (tmps:Array Value) (ds:List Deferred) (todo:List Item):Frame :=
 { fn:=b.fn,tmps,todo,defers:=ds,mode:=.run,kind:=b.kind,roundOf:=b.rd }
section moves
variable {P:Program} {b:FB} {a:Array Value} {ds:List Deferred} {k:List Item} {cs:List Frame} {w:World}
theorem FB.eval (x:Operand) (todo:List Item):(b.at a ds todo).eval x=evc a x:=by cases x <;> rfl
theorem FB.eval' (todo:List Item):(b.at a ds todo).eval=evc a:=funext fun x=>FB.eval x todo
theorem st_skip:step P (lone (b.at a ds (.code .skip :: k)) cs w)=.next (lone (b.at a ds k) cs w) :=
 step_lone_go (by simp [stepG,stepG.exec,FB.at])
theorem st_label {l:Nat}:step P (lone (b.at a ds (.code (.label l) :: k)) cs w)=.next (lone (b.at a ds k) cs w) :=
 step_lone_go (by simp [stepG,stepG.exec,FB.at])
theorem st_inBlock {id:Nat}:step P (lone (b.at a ds (.inBlock id :: k)) cs w)=.next (lone (b.at a ds k) cs w) :=
 step_lone_go (by simp [stepG,stepG.exec,FB.at])
theorem st_inScope {c:Code}:step P (lone (b.at a ds (.inScope c :: k)) cs w)=.next (lone (b.at a ds k) cs w) :=
 step_lone_go (by simp [stepG,stepG.exec,FB.at])
theorem st_seq {x y:Code}:step P (lone (b.at a ds (.code (.seq x y) :: k)) cs w)=.next (lone (b.at a ds (.code x :: .code y :: k)) cs w) :=
 step_lone_go (by simp [stepG,stepG.exec,FB.at])
theorem st_cond {c:Operand} {x y:Code} {t:Bool} (h:evc a c=.bool t) :
  step P (lone (b.at a ds (.code (.cond c x y) :: k)) cs w)=.next (lone (b.at a ds (.code (if t=true then x else y) :: k)) cs w) :=
 step_lone_go (by
  have:=FB.eval (b:=b) (a:=a) (ds:=ds) c (.code (.cond c x y) :: k)
  simp only [FB.at] at this
  simp [stepG,stepG.exec,FB.at,this,h])
theorem st_block {id:Nat} {c:Code}:step P (lone (b.at a ds (.code (.block id c) :: k)) cs w)=.next (lone (b.at a ds (.code c :: .inBlock id :: k)) cs w) :=
 step_lone_go (by simp [stepG,stepG.exec,FB.at])
theorem st_scope {c:Code}:step P (lone (b.at a ds (.code (.scope c) :: k)) cs w)=.next (lone (b.at a ds (.code c :: .inScope c :: k)) cs w) :=
 step_lone_go (by simp [stepG,stepG.exec,FB.at])
theorem st_loop {c:Code}:step P (lone (b.at a ds (.code (.loop c) :: k)) cs w)=.next (lone (b.at a ds (.code c :: .inLoop c :: k)) cs w) :=
 step_lone_go (by simp [stepG,stepG.exec,FB.at])
theorem st_inLoop {c:Code}:step P (lone (b.at a ds (.inLoop c :: k)) cs w)=.next (lone (b.at a ds (.code c :: .inLoop c :: k)) cs w) :=
 step_lone_go (by simp [stepG,stepG.exec,FB.at])
theorem st_exit {id:Nat} {k':List Item} (h:exitTo id k=some k'):step P (lone (b.at a ds (.code (.exit id) :: k)) cs w)=.next (lone (b.at a ds k') cs w) :=
 step_lone_go (by simp [stepG,stepG.exec,FB.at,h])
theorem st_region {id:Nat} {ops:Array Oper}:step P (lone (b.at a ds (.code (.region id ops false) :: k)) cs w)=.next (lone (b.at a ds (.inRegion ops (List.range ops.size) :: k)) cs w) :=
 step_lone_go (by simp [stepG,stepG.exec,FB.at])
theorem st_draw {id:Nat} {ops:Array Oper} :
  step P (lone (b.at a ds (.code (.region id ops true) :: k)) cs w) =
   .next (lone (b.at a ds (.inRegion ops (Region.schedule (P.follows .mixedOrders) ops (w.tape w.drawn (.order b.fn id))) :: k)) cs { w with drawn:=w.drawn + 1 }) :=
 step_lone_go (by simp [stepG,stepG.exec,FB.at,choose,Sem.run,Question.forced,Question.cut])
theorem st_regionEnd {ops:Array Oper}:step P (lone (b.at a ds (.inRegion ops [] :: k)) cs w)=.next (lone (b.at a ds k) cs w) :=
 step_lone_go (by simp [stepG,stepG.exec,FB.at])
def setT (a:Array Value) (d:Option Tmp) (v:Value):Array Value:=match d with|some t=>a.setIfInBounds t v|none=>a
theorem FB.finish (ops:Array Oper) (i:Nat) (rest:List Nat) (v:Value) {o:Oper} (ho:ops[i]? = some o) :
  (b.at a ds (.inRegion ops (i :: rest) :: k)).finish v=b.at (setT a o.dst v) ds (.inRegion ops rest :: k):=by
 obtain ⟨dst,op,ty,pos,after,guard⟩:=o
 cases dst <;> simp [Frame.finish,FB.at,setT,ho]
theorem st_opSkip {ops:Array Oper} {i:Nat} {rest:List Nat} {o:Oper} (ho:ops[i]? = some o) (h:Region.wanted o (yielded ops a)=false) :
  step P (lone (b.at a ds (.inRegion ops (i :: rest) :: k)) cs w)=.next (lone (b.at (setT a o.dst undef) ds (.inRegion ops rest :: k)) cs w):=by
 rw [← FB.finish (b:=b) (a:=a) (ds:=ds) (k:=k) ops i rest undef ho]
 exact step_lone_go (by
  simp only [FB.at]
  simp [stepG,stepG.exec,ho,h])
theorem stG_op {ops:Array Oper} {i:Nat} {rest:List Nat} {o:Oper} (ho:ops[i]? = some o) (hw:Region.wanted o (yielded ops a)=true) (hd:∀ c,o.op≠.defer c) :
  stepG P true { frame:=b.at a ds (.inRegion ops (i :: rest) :: k),callers:=cs,status:=.running,dying:=none } w =
   stepG.apply P true (b.at a ds (.inRegion ops (i :: rest) :: k)) cs none (execOp (evc a) o) w:=by
 have he:=FB.eval' (b:=b) (a:=a) (ds:=ds) (.inRegion ops (i :: rest) :: k)
 obtain ⟨fn,kind,rd⟩:=b
 simp only [FB.at] at he
 cases rd with
 | none=>simp [stepG,stepG.exec,stepG.oper,Frame.oper?,FB.at,ho,hw,he]
 | some l =>
  obtain ⟨dst,op,ty,pos,after,guard⟩:=o
  cases op <;> first
   | (exact absurd rfl (hd _))
   | (simp [stepG,stepG.exec,stepG.oper,Frame.oper?,FB.at,ho,hw,he])
theorem st_op {ops:Array Oper} {i:Nat} {rest:List Nat} {o:Oper} (ho:ops[i]? = some o) (hw:Region.wanted o (yielded ops a)=true) (hd:∀ c,o.op≠.defer c)
  {nx:Next} {w':World} {v:Value} (hr:(execOp (evc a) o).run P w=.ok nx w') (hv:nextVal nx=some v) :
  step P (lone (b.at a ds (.inRegion ops (i :: rest) :: k)) cs w)=.next (lone (b.at (setT a o.dst v) ds (.inRegion ops rest :: k)) cs w'):=by
 rw [← FB.finish (b:=b) (a:=a) (ds:=ds) (k:=k) ops i rest v ho]
 have hg:=stG_op (P:=P) (b:=b) (ds:=ds) (k:=k) (cs:=cs) (w:=w) (rest:=rest) ho hw hd
 refine step_lone_go ?_
 rw [hg]
 cases nx <;> simp only [nextVal] at hv <;> (try cases hv) <;> simp [stepG.apply,hr,FB.at]
def frameOf (P:Program):Next→Option Frame
 | .enter f args=>some (Frame.enter P f args .normal)
 | .round l f tmps asg body=>some (Frame.round l f tmps asg body .normal)
 | _=>none
theorem st_opCall {ops:Array Oper} {i:Nat} {rest:List Nat} {o:Oper} (ho:ops[i]? = some o) (hw:Region.wanted o (yielded ops a)=true) (hd:∀ c,o.op≠.defer c)
  {nx:Next} {w':World} {fr:Frame} (hr:(execOp (evc a) o).run P w=.ok nx w') (hf:frameOf P nx=some fr) :
  step P (lone (b.at a ds (.inRegion ops (i :: rest) :: k)) cs w)=.next (lone fr (b.at a ds (.inRegion ops (i :: rest) :: k) :: cs) w'):=by
 have hg:=stG_op (P:=P) (b:=b) (ds:=ds) (k:=k) (cs:=cs) (w:=w) (rest:=rest) ho hw hd
 refine step_lone_go ?_
 rw [hg]
 cases nx <;> simp only [frameOf] at hf <;> (try cases hf) <;> simp [stepG.apply,hr,FB.at]
end moves
def Top (H:AHeap):Prop:=(∀ b,H.n≤b→H.get b=.dead)∧Gr H
theorem Rel.tp {ng n0:Nat} {ρ:Ren} {H:AHeap} {w:World} (h:Rel ng n0 ρ H w):Top H:=⟨h.top,h.grp⟩
theorem Top.alloc {H:AHeap} (h:Top H) (o:AObj) (ho:o.low H.n:=by intro c T g e l h;cases h):Top (H.alloc o):=by
 refine ⟨fun b hb=>?_,h.2.alloc ho⟩
 simp only [AHeap.alloc] at hb ⊢
 rw [if_neg (by omega)]
 exact h.1 b (by omega)
theorem Top.put {H:AHeap} (h:Top H) {b:Nat} (hb:b < H.n) (o:AObj) (ho:o.low b:=by intro c T g e l h;cases h):Top (H.put b o):=by
 refine ⟨fun c hc=>?_,h.2.put ho⟩
 simp only [AHeap.put] at hc ⊢
 rw [if_neg (by omega)]
 exact h.1 c hc
theorem Top.lt {H:AHeap} (h:Top H) {b:Nat} (hb:H.get b≠.dead):b < H.n:=by
 by_cases hl:b < H.n
 ·exact hl
 ·exact absurd (h.1 b (by omega)) hb
theorem Top.kill {H:AHeap} (h:Top H) (g b:Nat):Top (H.kill g b):=by
 refine ⟨fun c hc=>?_,h.2.kill' g b⟩
 rw [h.2.kill]
 simp only [h.1 c hc]
 split <;> rfl
theorem Top.cut {H:AHeap} (h:Top H) (g p:Nat):Top (H.cut g p):=by
 refine ⟨fun c hc=>?_,h.2.cut' g p⟩
 rw [h.2.cut,h.1 c hc]
 rfl
theorem Top.wr {H:AHeap} (h:Top H) {b:Nat} (hb:b < H.n) (k:Kd) (o:AObj) (ho:o.low b):Top (H.wr k b o):=by
 cases k
 ·exact h.put hb o ho
 ·exact h.put hb o ho
 ·exact (h.kill _ _).put hb o ho
theorem Top.low {H:AHeap} (h:Top H) {b:Nat} {c c':List Value} {T T':TypeId} {k:Kd} (hg:H.get b=.cells c T k):(AObj.cells c' T' k).low b:=by
 intro c2 T2 g e l q
 cases q
 exact h.2 b _ _ _ _ _ hg
theorem opF_top {P:Program} {env:Env} {o:Oper} {H H':AHeap} {v:Value} (h:opF P env o H=some (v,H')) (ht:Top H):Top H'∧H.n≤H'.n:=by
 have same:∀ {r:Option Value},r.map (·,H)=some (v,H')→Top H'∧H.n≤H'.n:=by
  intro r hr
  cases r with
  | none=>cases hr
  | some u =>
   simp only [Option.map_some,Option.some.injEq,Prod.mk.injEq] at hr
   obtain ⟨_,rfl⟩:=hr
   exact ⟨ht,Nat.le_refl _⟩
 have al:∀ o,o.low H.n→Top (H.alloc o)∧H.n≤(H.alloc o).n:=fun o ho=>⟨ht.alloc o ho,Nat.le_succ _⟩
 have nolow:∀ {c T b},(AObj.cells c T .ex).low b:=by intro c T b c' T' g e l h;cases h
 have app:∀ {t s n new},appendA P t H s n new=some (v,H')→Top H'∧H.n≤H'.n:=by
  intro t s n new ha
  unfold appendA at ha
  repeat' (split at ha)
  all_goals first
   | (cases ha;done)
   | (cases ha;exact ⟨ht,Nat.le_refl _⟩)
   | (cases ha;exact al _ (by intro c T g e l h;first|(cases h;done)|(cases h;exact Nat.le_refl _)))
   | (cases ha;exact ⟨(ht.cut _ _).alloc _ (by intro c T g' e l h;cases h;exact Nat.le_trans (ht.2 _ _ _ _ _ _ ‹H.get _=_›) (Nat.le_of_lt (ht.lt (by rw [‹H.get _=_›];simp)))),Nat.le_succ _⟩)
   | (cases ha;rename_i hg _ _ _ _;exact ⟨ht.put (ht.lt (by rw [hg];simp)) _,Nat.le_refl _⟩)
   | skip
  all_goals (cases ha;exact ⟨ht.put (ht.lt (by rw [‹H.get _=_›];simp)) _,Nat.le_refl _⟩)
 unfold opF at h
 split at h
 all_goals first
  | (cases h;done)
  | exact same h
  | (cases h;exact ⟨ht,Nat.le_refl _⟩)
  | (cases h;exact al _ (by intro c T g e l h;first|(cases h;done)|(cases h;exact Nat.le_refl _)))
  | skip
 ·split at h
  ·cases h;exact ⟨ht,Nat.le_refl _⟩
  ·cases h
 ·unfold allocA at h
  split at h
  ·split at h
   ·cases h;exact al _ (by intro c T g e l h;first|(cases h;done)|(cases h;exact Nat.le_refl _))
   ·cases h
  ·cases h
 ·unfold boxA at h
  split at h
  ·cases h;exact al _ (by intro c T g e l h;first|(cases h;done)|(cases h;exact Nat.le_refl _))
  ·cases h
 ·unfold buildSliceA at h
  repeat' (split at h)
  all_goals first|(cases h;done)|(cases h;exact al _ (by intro c T g e l h;first|(cases h;done)|(cases h;exact Nat.le_refl _)))
 ·rename_i t a x _
  cases hs:storeA P t H (ev env a) (ev env x) with
  | none=>rw [hs] at h;cases h
  | some H2 =>
   rw [hs] at h
   simp only [Option.map_some,Option.some.injEq,Prod.mk.injEq] at h
   obtain ⟨_,rfl⟩:=h
   unfold storeA at hs
   repeat' (split at hs)
   all_goals first
    | (cases hs;done)
    | (cases hs;exact ⟨ht.wr (ht.lt (by rw [‹H.get _=_›];simp)) _ _ (ht.low ‹H.get _=_›),by unfold AHeap.wr;split <;> exact Nat.le_refl _⟩)
 ·unfold makeSliceA at h
  repeat' (split at h)
  all_goals first|(cases h;done)|(cases h;exact al _ (by intro c T g e l h;first|(cases h;done)|(cases h;exact Nat.le_refl _)))
 ·rename_i t m k x _
  cases hs:mapUpdateA P t (ev env m) (ev env k) (ev env x) H with
  | none=>rw [hs] at h;cases h
  | some H2 =>
   rw [hs] at h
   simp only [Option.map_some,Option.some.injEq,Prod.mk.injEq] at h
   obtain ⟨_,rfl⟩:=h
   unfold mapUpdateA at hs
   repeat' (split at hs)
   all_goals first
    | (cases hs;done)
    | (cases hs;exact ⟨ht.put (ht.lt (by rw [‹H.get _=_›];simp)) _,Nat.le_refl _⟩)
 ·split at h
  ·cases h;exact al _ (by intro c T g e l h;first|(cases h;done)|(cases h;exact Nat.le_refl _))
  ·cases h
 ·unfold nextA at h
  repeat' (split at h)
  all_goals first
   | (cases h;done)
   | (cases h;exact ⟨ht.put (ht.lt (by rw [‹H.get _=_›];simp)) _,Nat.le_refl _⟩)
   | (cases h;exact ⟨ht,Nat.le_refl _⟩)
 ·split at h
  ·unfold appendOp at h
   repeat' (split at h)
   all_goals first|(cases h;done)|exact app h
  ·split at h
   ·exact same h
   ·cases h
  ·split at h
   ·exact same h
   ·cases h
  ·exact same h
  ·exact same h
  ·cases h
def SimpleObj:AObj→Prop
 | .cells _ _ .ex|.map _|.iter _ _=>True
 | _=>False
theorem rd_congr {H H2:AHeap} {b:Nat} (h:H2.get b=H.get b):H2.rd b=H.rd b:=by unfold AHeap.rd;rw [h]
theorem loadA_local {P:Program} {t:TypeId} {H H2:AHeap} {a:Value} (h:∀ b,blkOf a=some b→H2.get b=H.get b):loadA P t H2 a=loadA P t H a:=by
 unfold loadA
 split
 ·rename_i b o
  rw [rd_congr (h b rfl)]
 ·rfl
theorem sliceA_local {P:Program} {t:TypeId} {H H2:AHeap} {x:Value} {lo hi mx:Option Value} (h:∀ b,blkOf x=some b→H2.get b=H.get b):sliceA P H2 t x lo hi mx=sliceA P H t x lo hi mx:=by
 unfold sliceA
 split
 ·rfl
 ·rename_i e b o len cap hu
  rw [h b rfl]
 ·rfl
 ·rename_i n e b o hu
  rw [h b rfl]
 ·rfl
theorem buildSliceA_local {P:Program} {t:TypeId} {len:Nat} {parts:List (Nat×Value)} {H H':AHeap} {v:Value} (h:buildSliceA P t len parts H=some (v,H')) :
  ∃ ob,H'=H.alloc ob∧SimpleObj ob∧∀ H2:AHeap,H2.n=H.n→buildSliceA P t len parts H2=some (v,H2.alloc ob):=by
 unfold buildSliceA at h
 split at h
 ·rename_i e hu
  split at h
  ·rename_i s z hs hz
   split at h
   ·rename_i hc
    split at h
    ·rename_i c hf
     cases h
     refine ⟨_,rfl,trivial,fun H2 hn=>?_⟩
     unfold buildSliceA
     simp only [hu,hs,hz,hf]
     rw [if_pos hc,hn]
    ·cases h
   ·cases h
  ·cases h
 ·cases h
theorem makeSliceA_local {P:Program} {t:TypeId} {l c:Value} {H H':AHeap} {v:Value} (h:makeSliceA P t l c H=some (v,H')) :
  ∃ ob,H'=H.alloc ob∧SimpleObj ob∧∀ H2:AHeap,H2.n=H.n→makeSliceA P t l c H2=some (v,H2.alloc ob):=by
 unfold makeSliceA at h
 split at h
 ·rename_i e k l k2 c hu
  split at h
  ·rename_i s z by_ hs hz hby
   split at h
   ·rename_i hc
    cases h
    refine ⟨_,rfl,trivial,fun H2 hn=>?_⟩
    unfold makeSliceA
    simp only [hu,hs,hz,hby]
    rw [if_pos hc,hn]
   ·cases h
  ·cases h
 ·cases h
theorem opF_local {P:Program} {env:Env} {o:Oper} {H H2 H':AHeap} {v:Value} (hs:simpleOp o.op=true) (h:opF P env o H=some (v,H')) (hn:H2.n=H.n)
  (hr:∀ b,touchBlk env H o.op=some b→b < H.n→H2.get b=H.get b) (ht:Top H) (ht2:Top H2) :
  (H'=H∧opF P env o H2=some (v,H2))∨(∃ ob,H'=H.alloc ob∧opF P env o H2=some (v,H2.alloc ob)∧SimpleObj ob∧touchBlk env H o.op=some H.n):=by
 have hr':∀ b,touchBlk env H o.op=some b→H2.get b=H.get b:=by
  intro b hb
  by_cases hl:b < H.n
  ·exact hr b hb hl
  ·rw [ht.1 b (by omega),ht2.1 b (by omega)]
 obtain ⟨dst,op,ty,pos,after,guard⟩:=o
 have still:∀ (r r2:Option Value),r.map (·,H)=some (v,H')→r2=r→H'=H∧r2.map (·,H2)=some (v,H2):=by
  intro r r2 h1 h2
  subst h2
  cases r2 with
  | none=>cases h1
  | some u =>
   simp only [Option.map_some,Option.some.injEq,Prod.mk.injEq] at h1 ⊢
   exact ⟨h1.2.symm,h1.1,trivial⟩
 cases op <;> simp only [simpleOp,Bool.false_eq_true] at hs <;> simp only [opF] at h ⊢ <;> (try (cases h;done))
 case move x=>cases h;exact .inl ⟨rfl,rfl⟩
 case assign x=>cases h;exact .inl ⟨rfl,rfl⟩
 case pick c a b =>
  split at h
  ·cases h;exact .inl ⟨rfl,rfl⟩
  ·cases h
 case alloc t =>
  unfold allocA at h ⊢
  split at h
  ·split at h
   ·rename_i hd
    cases h
    simp only [hd,if_true]
    exact .inr ⟨_,rfl,by rw [hn],trivial,rfl⟩
   ·cases h
  ·cases h
 case box t x =>
  unfold boxA at h ⊢
  split at h
  ·rename_i hd
   cases h
   simp only [hd,if_true]
   exact .inr ⟨_,rfl,by rw [hn],trivial,rfl⟩
  ·cases h
 case build t parts=>exact .inl (still _ _ h rfl)
 case buildSlice t len parts =>
  obtain ⟨ob,e1,e2,e3⟩:=buildSliceA_local h
  exact .inr ⟨ob,e1,e3 H2 hn,e2,rfl⟩
 case load t a=>exact .inl (still _ _ h (loadA_local hr'))
 case nilCheck x=>exact .inl (still _ _ h rfl)
 case binOp op t x y yt=>exact .inl (still _ _ h rfl)
 case unOp op t x=>exact .inl (still _ _ h rfl)
 case convert a b x=>exact .inl (still _ _ h rfl)
 case makeFunc fn a c =>
  cases fn <;> simp only at h ⊢ <;> (try (cases h;done))
  cases h;exact .inl ⟨rfl,rfl⟩
 case makeMap t r =>
  cases r <;> simp only at h ⊢ <;> (try (cases h;done))
  cases h
  exact .inr ⟨_,rfl,by rw [hn],trivial,rfl⟩
 case makeSlice t l c =>
  obtain ⟨ob,e1,e2,e3⟩:=makeSliceA_local h
  exact .inr ⟨ob,e1,e3 H2 hn,e2,rfl⟩
 case slice t x lo hi mx=>exact .inl (still _ _ h (sliceA_local hr'))
 case fieldAddr s x f=>exact .inl (still _ _ h rfl)
 case field t x f=>exact .inl (still _ _ h rfl)
 case indexAddr t x ix=>exact .inl (still _ _ h rfl)
 case index t x ix=>exact .inl (still _ _ h rfl)
 case lookup t x k ok =>
  refine .inl (still _ _ h ?_)
  have:entsA (ev env x) H2=entsA (ev env x) H:=by
   unfold entsA
   cases hx:ev env x with
   | map r =>
    cases r with
    | none=>rfl
    | some r=>simp only;rw [hr' r (by simp [touchBlk,hx,blkOf])]
   | _=>rfl
  unfold lookupA
  rw [this]
 case range t x =>
  split at h
  ·cases h
   exact .inr ⟨_,rfl,by rw [hn],trivial,rfl⟩
  ·cases h
 case extract x i=>exact .inl (still _ _ h rfl)
 case call c =>
  obtain ⟨callee,args,argTypes⟩:=c
  cases callee with
  | value f=>simp [simpleOp] at hs
  | invoke r m=>simp [simpleOp] at hs
  | builtin b =>
   cases b <;> simp only [simpleOp,Bool.false_eq_true] at hs <;> simp only at h ⊢
   case cap =>
    split at h
    ·rename_i t x ht hx
     obtain ⟨y,rfl⟩:∃ y,args = #[y]:=by
      have:args.toList.length=1:=by have:=congrArg List.length hx;simpa using this
      match hargs':args with
      | ⟨[y]⟩=>exact ⟨y,rfl⟩
     simp at hx
     refine .inl (still _ _ h ?_)
     unfold capA
     split
     ·rfl
     ·rename_i e b o n c hu
      rw [hr' b (by simp [touchBlk,hx,blkOf])]
     ·rfl
    ·cases h
   case len =>
    split at h
    ·rename_i t x ht hx
     obtain ⟨y,rfl⟩:∃ y,args = #[y]:=by
      have:args.toList.length=1:=by have:=congrArg List.length hx;simpa using this
      match hargs':args with
      | ⟨[y]⟩=>exact ⟨y,rfl⟩
     simp at hx
     refine .inl (still _ _ h ?_)
     unfold lenA
     split
     ·rfl
     ·rfl
     ·rfl
     ·rfl
     ·rename_i k e r hu
      rw [hr' r (by simp [touchBlk,hx])]
     ·rfl
    ·cases h
   case max=>exact .inl (still _ _ h rfl)
   case min=>exact .inl (still _ _ h rfl)
end Go.Proofs.Swa
