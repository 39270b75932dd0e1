/- New groups: shared. -/
import Derived.Test.YtdhibknhejhfaaaXEL14b
set_option linter.unusedVariables false
set_option linter.unusedSimpArgs false
namespace Go.Proofs.Ytdhibknhejhfaaa.X
open Go

def um (n:Nat)(E:List Int) : Readers_:=⟨0,List.replicate n ⟨false,0,[],List.replicate E.length 0⟩,List.replicate E.length 0,E⟩
theorem qkl {n:Nat}{E:List Int}(hn:1≤n∧n≤5)(he:1≤E.length∧E.length≤6)(hE:∀ (i:Nat) (e:Int),E[i]? = some e→0≤e∧e≤100) : GrOk (um n E):=by
 refine ⟨⟨by simp [um],by simp [um]⟩,by simpa [um] using hn,he,hE,by simp [um],fun i c e h1 h2=>?_,fun i x hx=>?_⟩
 ·have h3:c=0:=by
   obtain ⟨hi,e⟩:=List.getElem?_eq_some_iff.1 h1
   simpa [um] using e.symm
  have:=hE i e h2
  omega
 ·have:x=⟨false,0,[],List.replicate E.length 0⟩:=by
   obtain ⟨hi,e⟩:=List.getElem?_eq_some_iff.1 hx
   simpa [um] using e.symm
  rw [this]
  exact RdOk.zero hE
theorem qmo {α:Type}{i:Nat}{x:α} : List.replicate i x++[x]=List.replicate (i+1) x:=by
 rw [List.replicate_succ']
theorem qhg {n:Nat}{E:List Int}(hn:n≤5)(he:E.length≤6) : Ev (fun _=>yk (fun i76 s126=>wi E (List.replicate E.length 0) E i76 s126) (n:Int) ⟨0,[],List.replicate E.length 0,E⟩) (.nxt (um n E)):=by
 simp only [qdb]
 refine wv (B:=fun _ i _ s=>wi E (List.replicate E.length 0) E i s) (by simp; omega) (fun i q s=>i+q.length=n∧s=um i E) ⟨by simp,rfl⟩ (fun i x q s ⟨h1,hs⟩ => .inl ?_) (fun i s ⟨h1,hs⟩=>?_)
 ·subst hs
  simp only [List.length_cons] at h1
  refine ⟨um (i+1) E,Ev.of ?_,by omega,rfl⟩
  unfold wi
  rw [qcj (by omega),Option.bind_some]
  unfold k7
  rw [if_pos (by simp [um]; omega),Option.bind_some]
  simp only [um,qmo]
 ·subst hs
  simp only [List.length_nil,Nat.add_zero] at h1
  rw [h1]
end Go.Proofs.Ytdhibknhejhfaaa.X
