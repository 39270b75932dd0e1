/- Worlds that are the same, as the laws ask. -/
import Derived.Test.YtpkiieniipenjaaXCL8a
import Derived.Test.YtpkiieniipenjaaXCLArefl
set_option linter.unusedVariables false
set_option linter.unusedSimpArgs false
namespace Go.Proofs.Ytpkiieniipenjaa.X
open Go

theorem qfb {s:Snap}(h:s.nn≤1048576) : Ev (fun _=>um s s) true:=by
 obtain ⟨h1,h2,h3,h4,h5⟩:=qpy h
 unfold um
 refine Ev.bind (qfz (by omega)) (Ev.iteF (by simp) (Ev.jn (qlb (by omega) (fun i hi=>?_)) ?_))
 ·obtain ⟨c,hc⟩:=js hi
  have:=h4 i c hc
  unfold qbi
  simp only [zz hc,Option.bind_some]
  refine Ev.bind (a:=false) (Ev.iteF (by simp) (Ev.of (by simp))) (Ev.iteF rfl ?_)
  exact Ev.bind (qfz (by omega)) (Ev.iteF rfl Ev.rfl)
 ·unfold qde
  refine Ev.jn (qlb (by omega) (fun i hi=>?_)) Ev.rfl
  obtain ⟨x,hx⟩:=js hi
  obtain ⟨a1,a2⟩:=h5 i x hx
  unfold qbk
  simp only [zz hx,Option.bind_some]
  refine Ev.bind (a:=false) (Ev.iteF (by simp) (Ev.bind (qfz (by omega)) Ev.rfl)) ?_
  exact Ev.bind (a:=false) (Ev.iteF rfl (Ev.bind (qlk (by omega)) Ev.rfl)) (Ev.iteF rfl Ev.rfl)
end Go.Proofs.Ytpkiieniipenjaa.X
