/- Rows that are the same, as the laws ask; numbers made of bytes; picks among numbers. -/
import Derived.Test.YtefgfcalgjmhjaaXED
import Derived.Test.YtefgfcalgjmhjaaXEL15r
import Derived.Test.YtefgfcalgjmhjaaZLib3
set_option linter.unusedVariables false
set_option linter.unusedSimpArgs false
namespace Go.Proofs.Ytefgfcalgjmhjaa.X
open Go

theorem qfl {α ρ:Type}{B:Nat→Nat→α→Unit→Option (Oc Unit ρ)}{l:List α}(hl:l.length≤4611686018427387904)(h:∀ i x,l[i]? = some x→Ev (fun k=>B k i x ()) (.nxt ())) : Ev (fun k=>jv (B k) l ()) (.nxt ()):=by
 refine u1 hl (fun i r _=>l.drop i=r) (by simp) (fun i x r s hr => .inl ?_) (fun i s _=>rfl)
 have hx:l[i]? = some x:=by have:=congrArg (fun z=>z[0]?) hr; simpa using this
 exact ⟨(),h i x hx,by have:=congrArg (List.drop 1) hr; simpa [List.drop_drop] using this⟩
theorem qi0 {ρ:Type}{B:Nat→Nat→Unit→Option (Oc Unit ρ)}{n:Nat}(hl:n≤4611686018427387904)(h:∀ i,i<n→Ev (fun k=>B k i ()) (.nxt ())) : Ev (fun k=>wz (B k) (n:Int) ()) (.nxt ()):=by
 simp only [qep]
 exact qfl (by simpa using hl) (fun i x hx=>h i (by have:=(List.getElem?_eq_some_iff.1 hx).1; simpa using this))
theorem qkl {l:List Int}(hl:l.length≤4611686018427387904) : Ev (fun _=>xz l l) true:=by
 unfold xz
 refine Ev.iteF (by simp) (Ev.jn (qfl hl (fun i x hx=>?_)) Ev.rfl)
 unfold uo
 rw [ju hx]
 exact Ev.iteF (by simp) Ev.rfl
theorem qtq {a b:List Int}(hl:a.length≤4611686018427387904) : Is (fun _=>xz a b) (a=b):=by
 unfold xz
 by_cases hab:a.length=b.length
 ·rw [if_neg (by simp [hab])]
  refine Is.all (Q:=fun i x=>b[i]? = some x) hl (fun i x hx=>?_) (fun h=>Is.T ?_) (fun h=>?_)
  ·unfold uo
   have hi:i<b.length:=by rw [←hab]; exact (List.getElem?_eq_some_iff.1 hx).1
   have hb:b[i]? = some b[i]:=List.getElem?_eq_getElem hi
   rw [ju hb]
   simp only [Option.bind_some]
   refine qh8 ?_
   rw [hb]
   simp only [ne_eq,decide_eq_true_eq,Option.some.injEq]
   exact not_congr eq_comm
  ·apply List.ext_getElem?
   intro i
   by_cases hi:i<a.length
   ·have ha:a[i]? = some a[i]:=List.getElem?_eq_getElem hi
    rw [ha,h i _ ha]
   ·rw [List.getElem?_eq_none (by omega),List.getElem?_eq_none (by omega)]
  ·rintro rfl
   exact h (fun i x hx=>hx)
 ·rw [if_pos (by simp; omega)]
  exact Is.F (fun h=>hab (by rw [h]))
theorem qft {l:List Bool}(hl:l.length≤4611686018427387904) : Ev (fun _=>qal l l) true:=by
 unfold qal
 refine Ev.iteF (by simp) (Ev.jn (qfl hl (fun i x hx=>?_)) Ev.rfl)
 unfold qah
 rw [ju hx]
 exact Ev.iteF (by simp) Ev.rfl
theorem qmt {l:List Int}(hl:l.length≤4611686018427387904)(hb:Bytes l) : ∃ n,Ev (fun _=>qa2 l) n∧0≤n∧n<1000003:=by
 have key:∀ (r:List Int) (i:Nat) (s:Int),Bytes r→0≤s→s<1000003→∃ n,k6 (fun i x s=>w7 i x s) r i s=some (.nxt n)∧0≤n∧n<1000003:=by
  intro r
  induction r with
  | nil=>intro i s _ h0 h1; exact ⟨s,rfl,h0,h1⟩
  | cons x r ih =>
   intro i s hb h0 h1
   have hx:=hb x (by simp)
   have e:w7 i x s=some (.nxt (Int.tmod (31*s+x) 1000003)):=by
    unfold w7
    rw [ka (n:=31*s) (by omega) (by omega),ka (n:=x) (by omega) (by omega),ka (by omega) (by omega)]
   obtain ⟨n,h2,h3,h4⟩:=ih (i+1) (Int.tmod (31*s+x) 1000003) (fun y hy=>hb y (by simp [hy])) (Int.tmod_nonneg _ (by omega)) (Int.tmod_lt_of_pos _ (by omega))
   exact ⟨n,by simp only [k6,e]; exact h2,h3,h4⟩
 obtain ⟨n,h1,h2,h3⟩:=key l 0 0 hb (by omega) (by omega)
 refine ⟨n,?_,h2,h3⟩
 unfold qa2
 refine Ev.jn (s:=n) (Ev.of ?_) Ev.rfl
 unfold jv
 rw [if_pos hl]
 exact h1
theorem qs1 {c:L1Cur}{t:Nat}(hc:Cur t c)(ht:t≤1000000)(l:List Int)(h0:0<l.length)(h1:l.length≤200) : ∃ v c',qcu c l=some (v,c',l)∧v∈l∧Cur (t+1) c':=by
 obtain ⟨v,c',h2,h3,h4,h5⟩:=uy hc ht (l.length:Int) (by omega)
 obtain ⟨x,hx,hm⟩:=qm0 (l:=l) (i:=v) h4 (by omega)
 refine ⟨x,c',?_,List.mem_of_getElem? hm,h3⟩
 unfold qcu
 rw [h2,Option.bind_some,hx,Option.bind_some]
theorem Cur.le {t t':Nat}{c:L1Cur}(h:Cur t c)(ht:t≤t') : Cur t' c:=⟨h.1,h.2.1,by have:=h.2.2; omega⟩
end Go.Proofs.Ytefgfcalgjmhjaa.X
