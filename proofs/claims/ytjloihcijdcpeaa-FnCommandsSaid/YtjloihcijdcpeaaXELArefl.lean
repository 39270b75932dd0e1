/- Rows that are the same, as the laws ask; numbers made of bytes; picks among numbers. -/
import Derived.Test.YtjloihcijdcpeaaXED
import Derived.Test.YtjloihcijdcpeaaXEL15r
import Derived.Test.YtjloihcijdcpeaaZLib3
open List renaming getElem?_eq_getElem→f7,getElem?_eq_none→s8,mem_of_getElem?→i8
open Option renaming bind_some→n9
set_option linter.unusedVariables false
set_option linter.unusedSimpArgs false
namespace Go.Proofs.Ytjloihcijdcpeaa.X
open Go

theorem qu5 {α ρ:Type}{B:Nat→Nat→α→Unit→Option (Oc Unit ρ)}{l:List α}(hl:l.length≤4611686018427387904)(h:∀ i x,l[i]? = some x→Ev (fun k=>B k i x ()) (.nxt ())) : Ev (fun k=>jj (B k) l ()) (.nxt ()):=by
 refine qac hl (fun i r _=>l.drop i=r) (by simp) (fun i x r s hr => .inl ?_) (fun i s _=>rfl)
 have hx:l[i]? = some x:=by have:=congrArg (fun z=>z[0]?) hr; simpa using this
 exact ⟨(),h i x hx,by have:=congrArg (List.drop 1) hr; simpa [List.drop_drop] using this⟩
theorem qbl {l:List Int}(hl:l.length≤4611686018427387904) : Ev (fun _=>kh l l) true:=by
 unfold kh
 refine Ev.iteF (by simp) (Ev.jn (qu5 hl (fun i x hx=>?_)) Ev.rfl)
 unfold qa4
 rw [kz hx]
 exact Ev.iteF (by simp) Ev.rfl
theorem qg3 {a b:List Int}(hl:a.length≤4611686018427387904) : Is (fun _=>kh a b) (a=b):=by
 unfold kh
 by_cases hab:a.length=b.length
 ·rw [if_neg (by simp [hab])]
  refine Is.all (Q:=fun i x=>b[i]? = some x) hl (fun i x hx=>?_) (fun h=>Is.T ?_) (fun h=>?_)
  ·unfold qa4
   have hi:i<b.length:=by rw [←hab]; exact (List.getElem?_eq_some_iff.1 hx).1
   have hb:b[i]? = some b[i]:=f7 hi
   rw [kz hb]
   simp only [n9]
   refine qee ?_
   rw [hb]
   simp only [ne_eq,decide_eq_true_eq,Option.some.injEq]
   exact not_congr eq_comm
  ·apply List.ext_getElem?
   intro i
   by_cases hi:i<a.length
   ·have ha:a[i]? = some a[i]:=f7 hi
    rw [ha,h i _ ha]
   ·rw [s8 (by omega),s8 (by omega)]
  ·rintro rfl
   exact h (fun i x hx=>hx)
 ·rw [if_pos (by simp; omega)]
  exact Is.F (fun h=>hab (by rw [h]))
theorem qn2 {l:List Int}{v:Int}(hl:l.length≤4611686018427387904) : Is (fun _=>qg6 l v) (v∈l):=by
 unfold qg6
 refine (Is.any (Q:=fun _ x=>x=v) hl (fun i x hx=>?_)).iff ?_
 ·unfold qfq
  exact qee (by simp)
 ·constructor
  ·rintro ⟨i,x,h,rfl⟩; exact i8 h
  ·intro h
   obtain ⟨i,hi⟩:=List.getElem?_of_mem h
   exact ⟨i,v,hi,rfl⟩
theorem qkb {c:L1Cur}{t:Nat}(hc:Cur t c)(ht:t≤1000000)(l:List Int)(h0:0<l.length)(h1:l.length≤200) : ∃ v c',qaz c l=some (v,c',l)∧v∈l∧Cur (t+1) c':=by
 obtain ⟨v,c',h2,h3,h4,h5⟩:=wy hc ht (l.length:Int) (by omega)
 obtain ⟨x,hx,hm⟩:=qgv (l:=l) (i:=v) h4 (by omega)
 refine ⟨x,c',?_,i8 hm,h3⟩
 unfold qaz
 rw [h2,n9,hx,n9]
theorem Cur.le {t t':Nat}{c:L1Cur}(h:Cur t c)(ht:t≤t') : Cur t' c:=⟨h.1,h.2.1,by have:=h.2.2; omega⟩
end Go.Proofs.Ytjloihcijdcpeaa.X
