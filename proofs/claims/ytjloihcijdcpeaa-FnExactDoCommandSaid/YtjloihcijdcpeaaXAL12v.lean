/- Commands and plays: one answer. -/
import Derived.Test.YtjloihcijdcpeaaXAL12u
set_option linter.unusedVariables false
set_option linter.unusedSimpArgs false
namespace Go.Proofs.Ytjloihcijdcpeaa.X
open Go

def qmo:Control:=⟨[],[],0⟩
theorem q5c {c:Control}{x:Command}(h:c.nn≤1048576)(hx:x.InStep.length≤1048576)(hn:¬ (qby c∧u4 c.Brokers.length x)) : Ev (fun _=>ky c x) (qmo,0,false):=by
 obtain ⟨g,eg,hg⟩:=qmi h
 unfold ky
 cases g with
 | false=>exact Ev.bind eg (Ev.bind (a:=true) (Ev.iteT rfl Ev.rfl) (Ev.iteT rfl Ev.rfl))
 | true =>
  have hc:=hg.1 rfl
  obtain ⟨d,ed,hd⟩:=q3h (c:=c) (x:=x) hc.1.1 hx
  cases d with
  | true=>exact absurd ⟨hc,hd.1 rfl⟩ hn
  | false=>exact Ev.bind eg (Ev.bind (a:=true) (Ev.iteF rfl (Ev.bind ed Ev.rfl)) (Ev.iteT rfl Ev.rfl))
end Go.Proofs.Ytjloihcijdcpeaa.X
