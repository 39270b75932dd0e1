/- Rows that are the same, as the laws ask; numbers made of bytes; picks among numbers. -/
import Derived.Test.YtjloihcijdcpeaaXCD
import Derived.Test.YtjloihcijdcpeaaXCL15r
import Derived.Test.YtjloihcijdcpeaaZLib3
set_option linter.unusedVariables false
set_option linter.unusedSimpArgs false
namespace Go.Proofs.Ytjloihcijdcpeaa.X
open Go

theorem qky {α ρ:Type}{B:Nat→Nat→α→Unit→Option (Oc Unit ρ)}{l:List α}(hl:l.length≤4611686018427387904)(h:∀ i x,l[i]? = some x→Ev (fun k=>B k i x ()) (.nxt ())) : Ev (fun k=>jh (B k) l ()) (.nxt ()):=by
 refine ud hl (fun i r _=>l.drop i=r) (by simp) (fun i x r s hr => .inl ?_) (fun i s _=>rfl)
 have hx:l[i]? = some x:=by have:=congrArg (fun z=>z[0]?) hr; simpa using this
 exact ⟨(),h i x hx,by have:=congrArg (List.drop 1) hr; simpa [List.drop_drop] using this⟩
theorem qj8 {ρ:Type}{B:Nat→Nat→Unit→Option (Oc Unit ρ)}{n:Nat}(hl:n≤4611686018427387904)(h:∀ i,i<n→Ev (fun k=>B k i ()) (.nxt ())) : Ev (fun k=>kj (B k) (n:Int) ()) (.nxt ()):=by
 simp only [qez]
 exact qky (by simpa using hl) (fun i x hx=>h i (by have:=(List.getElem?_eq_some_iff.1 hx).1; simpa using this))
theorem qh1 {l:List Int}(hl:l.length≤4611686018427387904) : Ev (fun _=>yf l l) true:=by
 unfold yf
 refine Ev.iteF (by simp) (Ev.jn (qky hl (fun i x hx=>?_)) Ev.rfl)
 unfold qaj
 rw [ki hx]
 exact Ev.iteF (by simp) Ev.rfl
theorem qf5 {a b:List Int}(hl:a.length≤4611686018427387904) : Is (fun _=>yf a b) (a=b):=by
 unfold yf
 by_cases hab:a.length=b.length
 ·rw [if_neg (by simp [hab])]
  refine Is.all (Q:=fun i x=>b[i]? = some x) hl (fun i x hx=>?_) (fun h=>Is.T ?_) (fun h=>?_)
  ·unfold qaj
   have hi:i<b.length:=by rw [←hab]; exact (List.getElem?_eq_some_iff.1 hx).1
   have hb:b[i]? = some b[i]:=List.getElem?_eq_getElem hi
   rw [ki hb]
   simp only [Option.bind_some]
   refine qdr ?_
   rw [hb]
   simp only [ne_eq,decide_eq_true_eq,Option.some.injEq]
   exact not_congr eq_comm
  ·apply List.ext_getElem?
   intro i
   by_cases hi:i<a.length
   ·have ha:a[i]? = some a[i]:=List.getElem?_eq_getElem hi
    rw [ha,h i _ ha]
   ·rw [List.getElem?_eq_none (by omega),List.getElem?_eq_none (by omega)]
  ·rintro rfl
   exact h (fun i x hx=>hx)
 ·rw [if_pos (by simp; omega)]
  exact Is.F (fun h=>hab (by rw [h]))
theorem qi8 {l:List Int}{v:Int}(hl:l.length≤4611686018427387904) : Is (fun _=>wg l v) (v∈l):=by
 unfold wg
 refine (Is.any (Q:=fun _ x=>x=v) hl (fun i x hx=>?_)).iff ?_
 ·unfold qe2
  exact qdr (by simp)
 ·constructor
  ·rintro ⟨i,x,h,rfl⟩; exact List.mem_of_getElem? h
  ·intro h
   obtain ⟨i,hi⟩:=List.getElem?_of_mem h
   exact ⟨i,v,hi,rfl⟩
theorem qwu {c:L1Cur}{t:Nat}(hc:Cur t c)(ht:t≤1000000)(l:List Int)(h0:0<l.length)(h1:l.length≤200) : ∃ v c',qd7 c l=some (v,c',l)∧v∈l∧Cur (t+1) c':=by
 obtain ⟨v,c',h2,h3,h4,h5⟩:=uu hc ht (l.length:Int) (by omega)
 obtain ⟨x,hx,hm⟩:=qiw (l:=l) (i:=v) h4 (by omega)
 refine ⟨x,c',?_,List.mem_of_getElem? hm,h3⟩
 unfold qd7
 rw [h2,Option.bind_some,hx,Option.bind_some]
theorem Cur.le {t t':Nat}{c:L1Cur}(h:Cur t c)(ht:t≤t') : Cur t' c:=⟨h.1,h.2.1,by have:=h.2.2; omega⟩
end Go.Proofs.Ytjloihcijdcpeaa.X
