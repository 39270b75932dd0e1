/- Elections: good on the specification's side; what a step keeps of each server; one answer of StepElection. -/
import Derived.Test.YtpddolihbnfahaaXCL9g
set_option linter.unusedVariables false
set_option linter.unusedSimpArgs false
namespace Go.Proofs.Ytpddolihbnfahaa.X
open Go

structure Mo (s s':Server) : Prop where
 term:s.Term≤s'.Term
 vote:s'.Term=s.Term→s.Voted ≠ -1→s'.Voted=s.Voted
 log:s'.Log=s.Log
 got:s'.Got.length≤2*s.Got.length+1
theorem Mo.refl {s:Server} : Mo s s:=⟨Int.le_refl _,fun _ _=>rfl,rfl,by omega⟩
def Mono (e e':Election) : Prop:=e'.Servers.length=e.Servers.length∧∀ i s,At e i s→∃ s',At e' i s'∧Mo s s'
theorem Mono.set {e:Election}{k:Int}{s s':Server}{P:List Letter}{L:List Vote}(hk:At e k s)(h:Mo s s') : Mono e ⟨e.Servers.set k.toNat s',P,L⟩:=by
 obtain ⟨S,P0,L0⟩:=e
 refine ⟨by simp,fun i t ht=>?_⟩
 by_cases e1:i=k
 ·subst e1
  cases ht.uniq hk
  exact ⟨s',hk.self,h⟩
 ·exact ⟨t,ht.ne hk.1 e1,Mo.refl⟩
theorem Mono.nn {e e':Election}(hf:Fit e)(h:Mono e e')(hp:e'.Post.length≤1000)(hl:e'.Led.length≤10000) : e'.nn≤1048576:=by
 have h1:e'.nn=nnL Server.nn e'.Servers+(e'.Post.length+(e'.Led.length+0)):=rfl
 have h2:nnL Server.nn e'.Servers=e'.Servers.length+qcd Server.nn e'.Servers:=rfl
 have h4:=hf.n2
 have h0:=h.1
 have h5:qcd Server.nn e'.Servers≤e'.Servers.length*41:=ql9 (fun x hx=>by
  obtain ⟨i,hi⟩:=List.getElem?_of_mem hx
  have hlt:i<e.Servers.length:=by have:=(List.getElem?_eq_some_iff.1 hi).1; omega
  obtain ⟨s,hs⟩:=At.of (e:=e) (i:=(i:Int)) (by omega) (by omega)
  obtain ⟨s',hs',hm⟩:=h.2 _ s hs
  cases hs'.uniq (At.nat hi)
  obtain ⟨b1,b2,_⟩:=hf.sv _ s hs
  have h8:=qlj b1
  have h9:=hm.got
  have h10:=hm.log
  have h6:x.nn=x.Got.length+(x.Log.length+0):=rfl
  rw [h10] at h6
  omega)
 have h6:e'.Servers.length*41≤5*41:=Nat.mul_le_mul_right _ (by omega)
 omega
end Go.Proofs.Ytpddolihbnfahaa.X
