/- FnElectSteps: true at every draw. -/
import Derived.Test.YtpddolihbnfahaaXCL9h
set_option linter.unusedVariables false
set_option linter.unusedSimpArgs false
namespace Go.Proofs.Ytpddolihbnfahaa.X
open Go

structure Shp (e:Election) : Prop where
 nn:e.nn≤1048576
 sta:Sta e
 n1:1≤e.Servers.length
 n2:e.Servers.length≤5
theorem Shp.set {e:Election}(h:Shp e){s s':Server}(hk:At e 0 s)(h1:s'.Stands=s.Stands)(h2:s'.Got=s.Got)(h3:s'.Log=s.Log) : Shp ⟨e.Servers.set (0:Int).toNat s',e.Post,e.Led⟩:=by
 obtain ⟨S,P,L⟩:=e
 refine ⟨?_,h.sta.set (k:=0) (Int.le_refl _) ?_,by simpa using h.n1,by simpa using h.n2⟩
 ·have hh:nnL Server.nn S+(P.length+(L.length+0))≤1048576:=h.nn
  have e1:∀ (l:List Server) (i:Nat) (a b:Server),l[i]? = some a→b.nn=a.nn→qcd Server.nn (l.set i b)=qcd Server.nn l:=by
   intro l
   induction l with
   | nil=>intro i a b h; simp at h
   | cons x l ih =>
    intro i a b h hab
    cases i with
    | zero=>simp at h; subst h; simp [qcd,hab]
    | succ i=>simp only [List.set_cons_succ,qcd]; rw [ih i a b (by simpa using h) hab]
  have e2:=e1 S _ s s' hk.2 (by
   have a1:s'.nn=s'.Got.length+(s'.Log.length+0):=rfl
   have a2:s.nn=s.Got.length+(s.Log.length+0):=rfl
   rw [a1,a2,h2,h3])
  show nnL Server.nn (S.set (0:Int).toNat s')+(P.length+(L.length+0))≤1048576
  have e3:nnL Server.nn (S.set (0:Int).toNat s')=(S.set (0:Int).toNat s').length+qcd Server.nn (S.set (0:Int).toNat s'):=rfl
  have e4:nnL Server.nn S=S.length+qcd Server.nn S:=rfl
  rw [e3,e2,List.length_set]
  omega
 ·intro hst
  rw [h2]
  exact h.sta 0 s hk (by rw [←h1]; exact hst)
end Go.Proofs.Ytpddolihbnfahaa.X
