/- A step of an election: what it does, on both sides. -/
import Derived.Test.YtpddolihbnfahaaXCL9a
set_option linter.unusedVariables false
set_option linter.unusedSimpArgs false
namespace Go.Proofs.Ytpddolihbnfahaa.X
open Go

structure Fit (e:Election) : Prop where
 n1:1≤e.Servers.length
 n2:e.Servers.length≤5
 post:e.Post.length≤20
 led:e.Led.length≤1000
 sv:∀ i s,At e i s→qey s.Got e.Servers.length∧s.Log.length≤30∧0≤s.Term∧s.Term≤100
 po:∀ m∈e.Post,0≤m.To∧m.To<e.Servers.length
theorem At.nat {e:Election}{i:Nat}{s:Server}(h:e.Servers[i]? = some s) : At e (i:Int) s:=⟨by omega,by rw [Int.toNat_natCast]; exact h⟩
theorem Fit.nn {e:Election}(h:Fit e) : e.nn≤1048576:=by
 have h1:e.nn=nnL Server.nn e.Servers+(e.Post.length+(e.Led.length+0)):=rfl
 have h2:nnL Server.nn e.Servers=e.Servers.length+qcd Server.nn e.Servers:=rfl
 have h4:=h.n2
 have h5:qcd Server.nn e.Servers≤e.Servers.length*35:=ql9 (fun x hx=>by
  obtain ⟨i,hi⟩:=List.getElem?_of_mem hx
  have h7:=h.sv _ x (At.nat hi)
  have h8:=qlj h7.1
  have h6:x.nn=x.Got.length+(x.Log.length+0):=rfl
  omega)
 have h6:e.Servers.length*35≤5*35:=Nat.mul_le_mul_right _ h4
 have:=h.post
 have:=h.led
 omega

def q8y (e:Election) : Option Election→Election × Bool
 | some e'=>(e',true)
 | none=>(e,false)
theorem Fit.rem {e:Election}(h:Fit e)(k:Nat) : Fit ⟨e.Servers,e.Post.eraseIdx k,e.Led⟩:=⟨h.n1,h.n2,by have:=List.length_eraseIdx_le e.Post k; have:=h.post; dsimp only; omega,h.led,h.sv,fun m hm=>h.po m (List.mem_of_mem_eraseIdx hm)⟩
end Go.Proofs.Ytpddolihbnfahaa.X
