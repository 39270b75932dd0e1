/- Rows that are the same, as the laws ask; numbers made of bytes; picks among numbers. -/
import Derived.Test.YtpddolihbnfahaaXBD
import Derived.Test.YtpddolihbnfahaaXBL15r
import Derived.Test.YtpddolihbnfahaaZLib3
set_option linter.unusedVariables false
set_option linter.unusedSimpArgs false
namespace Go.Proofs.Ytpddolihbnfahaa.X
open Go

theorem qhu {α ρ:Type}{B:Nat→Nat→α→Unit→Option (Oc Unit ρ)}{l:List α}(hl:l.length≤4611686018427387904)(h:∀ i x,l[i]? = some x→Ev (fun k=>B k i x ()) (.nxt ())) : Ev (fun k=>ka (B k) l ()) (.nxt ()):=by
 refine xy hl (fun i r _=>l.drop i=r) (by simp) (fun i x r s hr => .inl ?_) (fun i s _=>rfl)
 have hx:l[i]? = some x:=by have:=congrArg (fun z=>z[0]?) hr; simpa using this
 exact ⟨(),h i x hx,by have:=congrArg (List.drop 1) hr; simpa [List.drop_drop] using this⟩
theorem qd9 {ρ:Type}{B:Nat→Nat→Unit→Option (Oc Unit ρ)}{n:Nat}(hl:n≤4611686018427387904)(h:∀ i,i<n→Ev (fun k=>B k i ()) (.nxt ())) : Ev (fun k=>ua (B k) (n:Int) ()) (.nxt ()):=by
 simp only [qhf]
 exact qhu (by simpa using hl) (fun i x hx=>h i (by have:=(List.getElem?_eq_some_iff.1 hx).1; simpa using this))
theorem qhi {l:List Int}(hl:l.length≤4611686018427387904) : Ev (fun _=>xk l l) true:=by
 unfold xk
 refine Ev.iteF (by simp) (Ev.jn (qhu hl (fun i x hx=>?_)) Ev.rfl)
 unfold u6
 rw [kt hx]
 exact Ev.iteF (by simp) Ev.rfl
theorem qva {a b:List Int}(hl:a.length≤4611686018427387904) : Is (fun _=>xk a b) (a=b):=by
 unfold xk
 by_cases hab:a.length=b.length
 ·rw [if_neg (by simp [hab])]
  refine Is.all (Q:=fun i x=>b[i]? = some x) hl (fun i x hx=>?_) (fun h=>Is.T ?_) (fun h=>?_)
  ·unfold u6
   have hi:i<b.length:=by rw [←hab]; exact (List.getElem?_eq_some_iff.1 hx).1
   have hb:b[i]? = some b[i]:=List.getElem?_eq_getElem hi
   rw [kt hb]
   simp only [Option.bind_some]
   refine qir ?_
   rw [hb]
   simp only [ne_eq,decide_eq_true_eq,Option.some.injEq]
   exact not_congr eq_comm
  ·apply List.ext_getElem?
   intro i
   by_cases hi:i<a.length
   ·have ha:a[i]? = some a[i]:=List.getElem?_eq_getElem hi
    rw [ha,h i _ ha]
   ·rw [List.getElem?_eq_none (by omega),List.getElem?_eq_none (by omega)]
  ·rintro rfl
   exact h (fun i x hx=>hx)
 ·rw [if_pos (by simp; omega)]
  exact Is.F (fun h=>hab (by rw [h]))
theorem qgh {l:List Bool}(hl:l.length≤4611686018427387904) : Ev (fun _=>qbb l l) true:=by
 unfold qbb
 refine Ev.iteF (by simp) (Ev.jn (qhu hl (fun i x hx=>?_)) Ev.rfl)
 unfold qa5
 rw [kt hx]
 exact Ev.iteF (by simp) Ev.rfl
theorem qiv {c:L1Cur}{t:Nat}(hc:Cur t c)(ht:t≤1000000)(l:List Int)(h0:0<l.length)(h1:l.length≤200) : ∃ v c',qbq c l=some (v,c',l)∧v∈l∧Cur (t+1) c':=by
 obtain ⟨v,c',h2,h3,h4,h5⟩:=qak hc ht (l.length:Int) (by omega)
 obtain ⟨x,hx,hm⟩:=qkk (l:=l) (i:=v) h4 (by omega)
 refine ⟨x,c',?_,List.mem_of_getElem? hm,h3⟩
 unfold qbq
 rw [h2,Option.bind_some,hx,Option.bind_some]
theorem Cur.le {t t':Nat}{c:L1Cur}(h:Cur t c)(ht:t≤t') : Cur t' c:=⟨h.1,h.2.1,by have:=h.2.2; omega⟩
end Go.Proofs.Ytpddolihbnfahaa.X
