/- slices.Insert at rows of numbers answers as X has it: by the library's own contract. -/
import Derived.Test.YtddkoiapboeemaaZM2
import Derived.Shelf.Spec.SlicesInsertGrow
set_option linter.unusedVariables false
set_option linter.unusedSimpArgs false
namespace Go.Proofs.Ytddkoiapboeemaa.X
open Go
section
variable {P:Program}{sz:TypeId→Nat}{φ φ':Phi}{L:Nat}{W:Nat→Bool}{w w':World}{h h':Heap}{b o n:Nat}

theorem qyg (R:Rel sz φ L h w){vs:List XV}(hn:φ b ≠ .none)(e:zw h b o n=some vs) :
  ∃ cb δ cvs,φ b = .at cb δ∧vs.length=n∧cvs.length=n∧LRel sz φ L w vs cvs∧∀ (j:Nat) v,cvs[j]? = some v→w.cell? ⟨cb,o+δ+j,none⟩=some v:=by
 obtain ⟨cb,δ,f,h1,h2,h3,h4⟩:=qc5 R hn e
 refine ⟨cb,δ,(List.range n).map f,h1,h2,by simp,⟨by simp [h2],fun i a c ha hc=>?_⟩,fun j v hv=>?_⟩
 ·have hi:i<n:=by rw [←h2]; exact (List.getElem?_eq_some_iff.1 ha).1
  rw [List.getElem?_map,List.getElem?_range hi] at hc
  cases hc
  exact h4 i a ha
 ·have hj:j<n:=by simpa using (List.getElem?_eq_some_iff.1 hv).1
  rw [List.getElem?_map,List.getElem?_range hj] at hv
  cases hv
  have:=h3 j hj
  rwa [wa] at this

theorem LRel.take {vs:List XV}{cvs:List Value}(H:LRel sz φ L w vs cvs)(i:Nat) : LRel sz φ L w (vs.take i) (cvs.take i):=by
 refine ⟨by simp [H.len],fun j a c ha hc=>?_⟩
 rw [List.getElem?_take] at ha hc
 split at ha
 ·rename_i hj
  rw [if_pos hj] at hc
  exact H.at_ j a c ha hc
 ·cases ha
theorem LRel.drop {vs:List XV}{cvs:List Value}(H:LRel sz φ L w vs cvs)(i:Nat) : LRel sz φ L w (vs.drop i) (cvs.drop i):=by
 refine ⟨by simp [H.len],fun j a c ha hc=>?_⟩
 rw [List.getElem?_drop] at ha hc
 exact H.at_ _ a c ha hc

theorem qx0 {cb off:Nat}{cc:Array Value}{ty:TypeId}(e:w.heap[cb]? = some (.cells cc ty (0,0))) : w.frozen? ⟨cb,off,none⟩=false:=by simp [World.frozen?,e]
end
end Go.Proofs.Ytddkoiapboeemaa.X
