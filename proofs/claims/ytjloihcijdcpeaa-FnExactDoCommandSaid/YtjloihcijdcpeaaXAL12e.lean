/- DoCommand: its core. -/
import Derived.Test.YtjloihcijdcpeaaXAL12v
import Derived.Test.YtjloihcijdcpeaaXAW
set_option linter.unusedVariables false
set_option linter.unusedSimpArgs false
namespace Go.Proofs.Ytjloihcijdcpeaa.X
open Go

theorem DoCommand_all {v_0:Control}{v_1:Command}(b0:v_0.nn≤1048576)(b1:v_1.nn≤1048576) : (qby v_0∧u4 v_0.Brokers.length v_1∧Ev (fun k=>ky v_0 v_1) ((qef v_0 v_1).1,(qef v_0 v_1).2,true)∧Ev (fun k=>y5 v_0 v_1) ((qef v_0 v_1).1,(qef v_0 v_1).2,true))∨(¬ (qby v_0∧u4 v_0.Brokers.length v_1)∧Ev (fun k=>ky v_0 v_1) (qmo,0,false)∧Ev (fun k=>y5 v_0 v_1) (qmo,0,false)):=by
 have hx:v_1.InStep.length≤1048576:=by have h2:v_1.nn=v_1.InStep.length+0:=rfl; omega
 obtain ⟨g,eg,hg⟩:=q6g b0
 unfold y5
 by_cases h:qby v_0∧u4 v_0.Brokers.length v_1
 ·obtain ⟨d,ed,hd⟩:=q2b (x:=v_1) (n:=v_0.Brokers.length) h.1.1.1 hx
  have hg':=hg.2 h.1
  have hd':=hd.2 h.2
  subst hg' hd'
  exact .inl ⟨h.1,h.2,q5n h.1 h.2,Ev.bind eg (Ev.bind (a:=false) (Ev.iteF rfl (Ev.bind ed Ev.rfl)) (Ev.iteF rfl (Ev.bind (q6q h.1 h.2) Ev.rfl)))⟩
 ·refine .inr ⟨h,q5c b0 hx h,?_⟩
  cases g with
  | false=>exact Ev.bind eg (Ev.bind (a:=true) (Ev.iteT rfl Ev.rfl) (Ev.iteT rfl Ev.rfl))
  | true =>
   have hc:=hg.1 rfl
   obtain ⟨d,ed,hd⟩:=q2b (x:=v_1) (n:=v_0.Brokers.length) hc.1.1 hx
   have hdf:d=false:=bF hd (fun hh=>h ⟨hc,hh⟩)
   subst hdf
   exact Ev.bind eg (Ev.bind (a:=true) (Ev.iteF rfl (Ev.bind ed Ev.rfl)) (Ev.iteT rfl Ev.rfl))
theorem DoCommand_core (v_0:Control)(v_1:Command)(w0:Control.wf v_0)(w1:Command.wf v_1)(b0:v_0.nn≤1048576)(b1:v_1.nn≤1048576) : ∃ (r:Control × Int × Bool),Ev (fun k=>ky v_0 v_1) r∧Ev (fun k=>y5 v_0 v_1) r∧r.1.nn≤1048576:=by
 rcases DoCommand_all b0 b1 with ⟨hc,hx,e1,e2⟩ | ⟨_,e1,e2⟩
 ·exact ⟨_,e1,e2,(qtm hc hx).1.nn⟩
 ·exact ⟨_,e1,e2,by decide⟩
end Go.Proofs.Ytjloihcijdcpeaa.X
