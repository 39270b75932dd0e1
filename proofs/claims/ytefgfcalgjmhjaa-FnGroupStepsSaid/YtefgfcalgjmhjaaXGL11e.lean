/- StepGroup: one answer. -/
import Derived.Test.YtefgfcalgjmhjaaXGL11t
set_option linter.unusedVariables false
set_option linter.unusedSimpArgs false
namespace Go.Proofs.Ytefgfcalgjmhjaa.X
open Go

theorem StepGroup_all {v_0:Group}{v_1:IsrStep}(b0:v_0.nn≤1048576) : ∃ b:Bool,Is (fun k=>y7 k v_0) (yb v_0)∧(b=true↔yb v_0)∧Ev (fun k=>qbo k v_0 v_1) (if b=true then (match kt v_0 v_1 with | some g'=>(g',true) | none=>(⟨0,0,[],0,[]⟩,false)) else (⟨0,0,[],0,[]⟩,false))∧Ev (fun k=>qbi k v_0 v_1) (if b=true then (match kt v_0 v_1 with | some g'=>(g',true) | none=>(⟨0,0,[],0,[]⟩,false)) else (⟨0,0,[],0,[]⟩,false)):=by
 obtain ⟨b,e1,hb⟩:=ug b0
 obtain ⟨b',e0,e2⟩:=(ug b0).two (qc0 b0)
 have:=e1.two e0
 subst this
 refine ⟨b,ug b0,hb,?_,?_⟩
 ·unfold qbo
  cases b with
  | false=>exact Ev.bind e1 (Ev.iteT rfl Ev.rfl)
  | true =>
   have hg:=hb.1 rfl
   refine Ev.bind e1 (Ev.iteF rfl (Ev.bind (qeh b0) (Ev.bind (qqm (x:=v_1) hg.fit) ?_)))
   cases h:kt v_0 v_1 with
   | none=>exact Ev.iteT rfl Ev.rfl
   | some g'=>exact Ev.iteF rfl (Ev.bind (qeh (qh7 hg h).nn) Ev.rfl)
 ·unfold qbi
  cases b with
  | false=>exact Ev.bind e2 (Ev.iteT rfl Ev.rfl)
  | true =>
   have hg:=hb.1 rfl
   refine Ev.bind e2 (Ev.iteF rfl (Ev.bind (qjq b0) (Ev.bind (q5q (x:=v_1) hg.fit) ?_)))
   cases h:kt v_0 v_1 with
   | none=>exact Ev.iteT rfl Ev.rfl
   | some g'=>exact Ev.iteF rfl Ev.rfl
end Go.Proofs.Ytefgfcalgjmhjaa.X
