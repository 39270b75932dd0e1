/- Rows that are the same, as the laws ask; numbers made of bytes; picks among numbers. -/
import Derived.Test.YtanblnjomhgphaaXBD
import Derived.Test.YtanblnjomhgphaaXBL15r
import Derived.Test.YtanblnjomhgphaaZLib3
open Go.Proofs.Ytanblnjomhgphaa.X.Ev renaming iteF→a0b,rfl→a0h
open Option renaming bind_some→a1n
set_option linter.unusedVariables false
set_option linter.unusedSimpArgs false
namespace Go.Proofs.Ytanblnjomhgphaa.X
open Go

theorem qgu {α ρ:Type}{B:Nat→Nat→α→Unit→Option (Oc Unit ρ)}{l:List α}(hl:l.length≤4611686018427387904)(h:∀ i x,l[i]? = some x→Ev (fun k=>B k i x ()) (.nxt ())) : Ev (fun k=>jt (B k) l ()) (.nxt ()):=by
 refine yo hl (fun i r _=>l.drop i=r) (by simp) (fun i x r s hr => .inl ?_) (fun i s _=>rfl)
 have hx:l[i]? = some x:=by have:=congrArg (fun z=>z[0]?) hr; simpa using this
 exact ⟨(),h i x hx,by have:=congrArg (List.drop 1) hr; simpa [List.drop_drop] using this⟩
theorem qi7 {ρ:Type}{B:Nat→Nat→Unit→Option (Oc Unit ρ)}{n:Nat}(hl:n≤4611686018427387904)(h:∀ i,i<n→Ev (fun k=>B k i ()) (.nxt ())) : Ev (fun k=>wi (B k) (n:Int) ()) (.nxt ()):=by
 simp only [qdx]
 exact qgu (by simpa using hl) (fun i x hx=>h i (by have:=(List.getElem?_eq_some_iff.1 hx).1; simpa using this))
theorem qn7 {l:List Int}(hl:l.length≤4611686018427387904) : Ev (fun _=>qc5 l l) true:=by
 unfold qc5
 refine a0b (by simp) (Ev.jn (qgu hl (fun i x hx=>?_)) a0h)
 unfold qcw
 rw [y9 hx]
 exact a0b (by simp) a0h
theorem qnl {l:List Bool}(hl:l.length≤4611686018427387904) : Ev (fun _=>qcd l l) true:=by
 unfold qcd
 refine a0b (by simp) (Ev.jn (qgu hl (fun i x hx=>?_)) a0h)
 unfold qbq
 rw [y9 hx]
 exact a0b (by simp) a0h
theorem q0t {c:L1Cur}{t:Nat}(hc:Cur t c)(ht:t≤1000000)(l:List Int)(h0:0<l.length)(h1:l.length≤200) : ∃ v c',qfc c l=some (v,c',l)∧v∈l∧Cur (t+1) c':=by
 obtain ⟨v,c',h2,h3,h4,h5⟩:=xm hc ht (l.length:Int) (by omega)
 obtain ⟨x,hx,hm⟩:=qmu (l:=l) (i:=v) h4 (by omega)
 refine ⟨x,c',?_,List.mem_of_getElem? hm,h3⟩
 unfold qfc
 rw [h2,a1n,hx,a1n]
theorem Cur.le {t t':Nat}{c:L1Cur}(h:Cur t c)(ht:t≤t') : Cur t' c:=⟨h.1,h.2.1,by have:=h.2.2; omega⟩
end Go.Proofs.Ytanblnjomhgphaa.X
