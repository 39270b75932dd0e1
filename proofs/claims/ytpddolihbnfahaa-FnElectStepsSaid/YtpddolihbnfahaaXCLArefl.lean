/- Rows that are the same, as the laws ask; numbers made of bytes; picks among numbers. -/
import Derived.Test.YtpddolihbnfahaaXCD
import Derived.Test.YtpddolihbnfahaaXCL15r
import Derived.Test.YtpddolihbnfahaaZLib3
set_option linter.unusedVariables false
set_option linter.unusedSimpArgs false
namespace Go.Proofs.Ytpddolihbnfahaa.X
open Go

theorem qjn {α ρ:Type}{B:Nat→Nat→α→Unit→Option (Oc Unit ρ)}{l:List α}(hl:l.length≤4611686018427387904)(h:∀ i x,l[i]? = some x→Ev (fun k=>B k i x ()) (.nxt ())) : Ev (fun k=>ki (B k) l ()) (.nxt ()):=by
 refine uo hl (fun i r _=>l.drop i=r) (by simp) (fun i x r s hr => .inl ?_) (fun i s _=>rfl)
 have hx:l[i]? = some x:=by have:=congrArg (fun z=>z[0]?) hr; simpa using this
 exact ⟨(),h i x hx,by have:=congrArg (List.drop 1) hr; simpa [List.drop_drop] using this⟩
theorem qix {ρ:Type}{B:Nat→Nat→Unit→Option (Oc Unit ρ)}{n:Nat}(hl:n≤4611686018427387904)(h:∀ i,i<n→Ev (fun k=>B k i ()) (.nxt ())) : Ev (fun k=>qbg (B k) (n:Int) ()) (.nxt ()):=by
 simp only [qir]
 exact qjn (by simpa using hl) (fun i x hx=>h i (by have:=(List.getElem?_eq_some_iff.1 hx).1; simpa using this))
theorem qgs {l:List Int}(hl:l.length≤4611686018427387904) : Ev (fun _=>qar l l) true:=by
 unfold qar
 refine Ev.iteF (by simp) (Ev.jn (qjn hl (fun i x hx=>?_)) Ev.rfl)
 unfold qc2
 rw [wk hx]
 exact Ev.iteF (by simp) Ev.rfl
theorem qiq {c:L1Cur}{t:Nat}(hc:Cur t c)(ht:t≤1000000)(l:List Int)(h0:0<l.length)(h1:l.length≤200) : ∃ v c',qb2 c l=some (v,c',l)∧v∈l∧Cur (t+1) c':=by
 obtain ⟨v,c',h2,h3,h4,h5⟩:=wy hc ht (l.length:Int) (by omega)
 obtain ⟨x,hx,hm⟩:=qlx (l:=l) (i:=v) h4 (by omega)
 refine ⟨x,c',?_,List.mem_of_getElem? hm,h3⟩
 unfold qb2
 rw [h2,Option.bind_some,hx,Option.bind_some]
theorem Cur.le {t t':Nat}{c:L1Cur}(h:Cur t c)(ht:t≤t') : Cur t' c:=⟨h.1,h.2.1,by have:=h.2.2; omega⟩
end Go.Proofs.Ytpddolihbnfahaa.X
