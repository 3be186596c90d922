/- PileTrue: for every list of numbers the law answers true, panics nowhere and leaves its argument as it was; no condition. -/
import Derived.Test.YtkjcijlaehflhaaP14
set_option maxRecDepth 20000
set_option linter.unusedVariables false
set_option linter.unusedSimpArgs false
namespace Go.Proofs.Swa
open Go
open Nat renaming reduceAdd → nrA, reduceMul → nrM, reduceEqDiff → nrE, reduceLT → nrL
open Int renaming reduceToNat → irN
def trX (l:List Int):Int:=eitherS (feedOf l) [4,40,9000]
def trMade (l:List Int):Made2:=groundOf (trX l) 3 3 7 (either (feedOf l) [4,40,9000]) 24
theorem true_goes' (vl:Value) (l:List Int) (H:AHeap) (hT:Top H) (S:SR H 1 l.length vl (ints l)) (hl:l.length≤9223372036854775807) (M:Made2) (hmade:groundOf (eitherS (feedOf l) [4,40,9000]) 3 3 7 (either (feedOf l) [4,40,9000]) 24=M) (T:True5 M.g M.truth):∃ v H',C5 (.fn 6) #[vl] H v H'∧v=.bool true∧Fr H.n [] H H' :=
 f6 vl l H hT S hl M hmade T fun H _=>awake_or H
theorem true_true (l:List Int):True5 (trMade l).g (trMade l).truth:=by
 have hm:=eith3 (feedOf l) 4 40 9000
 exact ground_true (x:=trX l) (spots:=3) (sorts:=3) (acts:=7) (mass:=either (feedOf l) [4,40,9000]) (hours:=24) (by omega) (by omega) (by omega) (by omega) (by omega)
theorem true_goes (vl:Value) (l:List Int) (H:AHeap) (hT:Top H) (S:SR H 1 l.length vl (ints l)) (hl:l.length≤9223372036854775807):∃ v H',C5 (.fn 6) #[vl] H v H'∧v=.bool true∧Fr H.n [] H H' :=
 true_goes' vl l H hT S hl (trMade l) rfl (true_true l)
end Go.Proofs.Swa
namespace Go.Proofs.Ytkjcijlaehflhaa
open Go.ChangeShapes Go.WideShapes Go.ChangeAt Go.RowKit
open Go.Proofs.Swa (SR ints iv Top Fr RoB RoOk)
theorem law6:LawInts 6:=fun vl l H hT S hl=>Swa.true_goes vl l H hT S hl
set_option maxRecDepth 100000 in
theorem pileTrue_lifted (os:Os) (started:os.Started) (H:Type) (enc:TypeId×Value→H) :
  ReturnsInHanded {} Try.checked os 6 .any (Rows.pileTrueSpec.pre6 enc Try.prog Try.f6 Rows.pileTrueRow.domain false) (Rows.pileTrueSpec.post enc Try.prog Try.f6 false true false false):=by
 refine returnsInHanded_of_change (C:=Try.checked) own5 started (by kernel_rfl) Try.func6
  (ChangeSpec.witness6 (enc:=enc) (C:=Try.checked) false ⟨#[],#[.slice none 0 0],[]⟩ 8 (by kernel_rfl) (by kernel_rfl) (by kernel_rfl) (by kernel_rfl)) ?_
 intro W base args ds gs before hval0 hW hcnd _
 have hval:∀ (j:Nat) t v,Try.f6.params[j]? = some t→args[j]? = some v→Value.okWide Try.prog W .any base t v:=hval0
 have hW':=hW
 have hlt:=hW.lt
 obtain ⟨p,q,hA0,hV,rfl,hfz,hnd⟩:=hW
 have hA:DataW.TrodAll enc Try.prog W 0 (fun _=>true) true Try.f6.params.toList args.toList ds p:=hA0
 rw [Try.params6] at hA hval
 obtain ⟨v0,vs0,d0,ds0,p0,q0,hargs,rfl,rfl,h0,r0⟩:=trodAll_cons hA
 obtain ⟨rfl,rfl,rfl⟩:=trodAll_nil r0
 obtain rfl:args = #[v0]:=by cases args;simp_all
 obtain ⟨rfl,rfl⟩:=trodVars_none hV
 clear hA0 hval0
 simp only [List.append_nil] at hW' hlt
 refine (ints_call law6 (hval 0 31 v0 rfl rfl) h0).mono fun e W' ⟨he,hb⟩=>?_
 subst he
 have again:∀ sp:Nat→Bool,(∀ x∈p0,sp x.block=true)→DataW.Trod enc Try.prog W' 0 sp true 31 v0 d0 p0:=fun sp hsp =>
  WideElems.Trod_stays (by kernel_rfl) (by kernel_rfl) (of_decide_eq_true (by kernel_rfl)) h0 (fun x hx=>hb.same (hlt x hx)) hsp
 exact ⟨_,rfl,post_of_below (pa:=p0) (pv:=[]) hW' (fun _ _ _=>(trodAll_cons_mk (shut_bool Try.underlying4 _) trodAll_mk0)) (fun sp hsp=>trodAll_mk1 (again sp hsp)) (fun _ _=>rfl) (by simp) hb (ok_one (by kernel_rfl) rfl (okWide_bool_mk Try.underlying4 _))⟩
theorem pileTrue_holds:Rows.PileTrueSaid :=
 OpenClaim.holds_of_wide 6 Try.f6 rfl rfl rfl rfl rfl rfl rfl ⟨rfl,rfl,rfl,rfl,rfl⟩ rfl rfl rfl rfl rfl (by kernel_rfl) Try.func6 (by kernel_rfl)
  (of_decide_eq_true (by kernel_rfl)) (by unfold Func.isWrapper;first|(rw [if_pos (by decide +kernel)];kernel_rfl)|(rw [if_neg (by decide +kernel)];exact ⟨rfl,rfl⟩))
  (fun os started H enc _=>pileTrue_lifted os started H enc)
end Go.Proofs.Ytkjcijlaehflhaa
