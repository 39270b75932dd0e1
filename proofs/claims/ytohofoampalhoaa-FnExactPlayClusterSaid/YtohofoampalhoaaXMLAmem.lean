/- Members of a row that rises: what is asked on both sides. -/
import Derived.Test.YtohofoampalhoaaXMD
import Derived.Test.YtohofoampalhoaaZLib3
open Go.IntKind renaming wrap→a0a
set_option linter.unusedVariables false
set_option linter.unusedSimpArgs false
namespace Go.Proofs.Ytohofoampalhoaa.X
open Go
theorem qyk {α:Type}{A B C:α→Prop}(h:¬ ∀ y,A y→B y→C y) : ∃ y,A y∧B y∧¬ C y:=by
 obtain ⟨y,hy⟩:=Classical.not_forall.1 h
 obtain ⟨h1,h2⟩:=Classical.not_imp.1 hy
 obtain ⟨h2,h3⟩:=Classical.not_imp.1 h2
 exact ⟨y,h1,h2,h3⟩
theorem q8z {α:Type}{l:List α}{i:Nat}{g:α→Bool}(hl:l.length≤4611686018427387904)(hi:i<l.length) : Is (fun _=>((if (decide ((0:Int)<(i:Int)))=true then ((zx l (a0a .i64 ((i:Int) - 1))).bind fun x=>(some (g x))) else (some false)).bind fun v=>(some v))) (∃ y,0<i∧l[i - 1]? = some y∧g y=true):=by
 by_cases h:0<i
 ·rw [if_pos (by simpa using h)]
  have hy:l[i - 1]? = some (l[i - 1]'(by omega)):=List.getElem?_eq_getElem _
  rw [show a0a .i64 ((i:Int) - 1)=((i - 1:Nat) : Int) by rw [qc5 (by omega) (by omega)]; omega,jl hy]
  exact Is.of ⟨fun e=>⟨_,h,hy,e⟩,fun ⟨y,_,e,e2⟩=>by rw [hy] at e; cases e; exact e2⟩
 ·rw [if_neg (by simpa using h)]
  exact Is.F (fun ⟨y,h1,_⟩=>h h1)

def qge (l:List Int)(n:Int) : Prop:=∀ (i:Nat) (x:Int),l[i]? = some x→0≤x∧x<n∧∀ y,0<i→l[i - 1]? = some y→y<x
theorem qof {l:List Int}{n:Int}(hl:l.length≤4611686018427387904)(h0:0≤n)(h1:n≤4611686018427387904) : Is (fun _=>qbm l n) (qge l n):=by
 unfold qbm
 refine Is.all (Q:=fun i x=>0≤x∧x<n∧∀ y,0<i→l[i - 1]? = some y→y<x) hl (fun i x hx=>?_) (fun h=>Is.T h) (fun h=>h)
 unfold qbj
 rw [qc5 (n:=n - 1) (by omega) (by omega)]
 refine zdq (Is.ite (fun hb=>Is.T ?_) (fun hb=>(q8z hl (List.getElem?_eq_some_iff.1 hx).1).iff ?_))
 ·simp [zw] at hb; rintro ⟨a,b,c⟩; omega
 ·simp [zw] at hb
  constructor
  ·rintro ⟨y,h1,h2,h3⟩ ⟨_,_,h4⟩
   have:=h4 y h1 h2
   simp at h3
   omega
  ·intro h
   simp only [not_and] at h
   obtain ⟨y,h1,h2,h3⟩:=qyk (h hb.1 (by omega))
   exact ⟨y,h1,h2,by simp; omega⟩
end Go.Proofs.Ytohofoampalhoaa.X
