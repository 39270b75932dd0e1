/- Rows that are the same, as the laws ask; numbers made of bytes; picks among numbers. -/
import Derived.Test.YtdhibknhejhfaaaXED
import Derived.Test.YtdhibknhejhfaaaXEL15r
import Derived.Test.YtdhibknhejhfaaaZLib3
set_option linter.unusedVariables false
set_option linter.unusedSimpArgs false
namespace Go.Proofs.Ytdhibknhejhfaaa.X
open Go

theorem qko {α ρ:Type}{B:Nat→Nat→α→Unit→Option (Oc Unit ρ)}{l:List α}(hl:l.length≤4611686018427387904)(h:∀ i x,l[i]? = some x→Ev (fun k=>B k i x ()) (.nxt ())) : Ev (fun k=>jl (B k) l ()) (.nxt ()):=by
 refine wv hl (fun i r _=>l.drop i=r) (by simp) (fun i x r s hr => .inl ?_) (fun i s _=>rfl)
 have hx:l[i]? = some x:=by have:=congrArg (fun z=>z[0]?) hr; simpa using this
 exact ⟨(),h i x hx,by have:=congrArg (List.drop 1) hr; simpa [List.drop_drop] using this⟩
theorem qoj {ρ:Type}{B:Nat→Nat→Unit→Option (Oc Unit ρ)}{n:Nat}(hl:n≤4611686018427387904)(h:∀ i,i<n→Ev (fun k=>B k i ()) (.nxt ())) : Ev (fun k=>yk (B k) (n:Int) ()) (.nxt ()):=by
 simp only [qdb]
 exact qko (by simpa using hl) (fun i x hx=>h i (by have:=(List.getElem?_eq_some_iff.1 hx).1; simpa using this))
theorem qbu {l:List Int}(hl:l.length≤4611686018427387904) : Ev (fun _=>kz l l) true:=by
 unfold kz
 refine Ev.iteF (by simp) (Ev.jn (qko hl (fun i x hx=>?_)) Ev.rfl)
 unfold qaa
 rw [yw hx]
 exact Ev.iteF (by simp) Ev.rfl
theorem qi3 {a b:List Int}(hl:a.length≤4611686018427387904) : Is (fun _=>kz a b) (a=b):=by
 unfold kz
 by_cases hab:a.length=b.length
 ·rw [if_neg (by simp [hab])]
  refine Is.all (Q:=fun i x=>b[i]? = some x) hl (fun i x hx=>?_) (fun h=>Is.T ?_) (fun h=>?_)
  ·unfold qaa
   have hi:i<b.length:=by rw [←hab]; exact (List.getElem?_eq_some_iff.1 hx).1
   have hb:b[i]? = some b[i]:=List.getElem?_eq_getElem hi
   rw [yw hb]
   simp only [Option.bind_some]
   refine qbp ?_
   rw [hb]
   simp only [ne_eq,decide_eq_true_eq,Option.some.injEq]
   exact not_congr eq_comm
  ·apply List.ext_getElem?
   intro i
   by_cases hi:i<a.length
   ·have ha:a[i]? = some a[i]:=List.getElem?_eq_getElem hi
    rw [ha,h i _ ha]
   ·rw [List.getElem?_eq_none (by omega),List.getElem?_eq_none (by omega)]
  ·rintro rfl
   exact h (fun i x hx=>hx)
 ·rw [if_pos (by simp; omega)]
  exact Is.F (fun h=>hab (by rw [h]))
theorem qm5 {l:List Int}{v:Int}(hl:l.length≤4611686018427387904) : Is (fun _=>qfu l v) (v∈l):=by
 unfold qfu
 refine (Is.any (Q:=fun _ x=>x=v) hl (fun i x hx=>?_)).iff ?_
 ·unfold qef
  exact qbp (by simp)
 ·constructor
  ·rintro ⟨i,x,h,rfl⟩; exact List.mem_of_getElem? h
  ·intro h
   obtain ⟨i,hi⟩:=List.getElem?_of_mem h
   exact ⟨i,v,hi,rfl⟩
theorem qha {c:L1Cur}{t:Nat}(hc:Cur t c)(ht:t≤1000000)(l:List Int)(h0:0<l.length)(h1:l.length≤200) : ∃ v c',qa4 c l=some (v,c',l)∧v∈l∧Cur (t+1) c':=by
 obtain ⟨v,c',h2,h3,h4,h5⟩:=y2 hc ht (l.length:Int) (by omega)
 obtain ⟨x,hx,hm⟩:=qkf (l:=l) (i:=v) h4 (by omega)
 refine ⟨x,c',?_,List.mem_of_getElem? hm,h3⟩
 unfold qa4
 rw [h2,Option.bind_some,hx,Option.bind_some]
theorem Cur.le {t t':Nat}{c:L1Cur}(h:Cur t c)(ht:t≤t') : Cur t' c:=⟨h.1,h.2.1,by have:=h.2.2; omega⟩
end Go.Proofs.Ytdhibknhejhfaaa.X
