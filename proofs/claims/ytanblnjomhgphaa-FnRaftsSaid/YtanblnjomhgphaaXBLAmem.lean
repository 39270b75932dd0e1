/- Members of a row that rises: what is asked on both sides. -/
import Derived.Test.YtanblnjomhgphaaXBD
import Derived.Test.YtanblnjomhgphaaZLib3
open Go.IntKind renaming wrap→r8
set_option linter.unusedVariables false
set_option linter.unusedSimpArgs false
namespace Go.Proofs.Ytanblnjomhgphaa.X
open Go
theorem q09 {α:Type}{A B C:α→Prop}(h:¬ ∀ y,A y→B y→C y) : ∃ y,A y∧B y∧¬ C y:=by
 obtain ⟨y,hy⟩:=Classical.not_forall.1 h
 obtain ⟨h1,h2⟩:=Classical.not_imp.1 hy
 obtain ⟨h2,h3⟩:=Classical.not_imp.1 h2
 exact ⟨y,h1,h2,h3⟩
theorem za5 {α:Type}{l:List α}{i:Nat}{g:α→Bool}(hl:l.length≤4611686018427387904)(hi:i<l.length) : Is (fun _=>((if (decide ((0:Int)<(i:Int)))=true then ((zy l (r8 .i64 ((i:Int) - 1))).bind fun x=>(some (g x))) else (some false)).bind fun v=>(some v))) (∃ y,0<i∧l[i - 1]? = some y∧g y=true):=by
 by_cases h:0<i
 ·rw [if_pos (by simpa using h)]
  have hy:l[i - 1]? = some (l[i - 1]'(by omega)):=List.getElem?_eq_getElem _
  rw [show r8 .i64 ((i:Int) - 1)=((i - 1:Nat) : Int) by rw [k9 (by omega) (by omega)]; omega,y9 hy]
  exact Is.of ⟨fun e=>⟨_,h,hy,e⟩,fun ⟨y,_,e,e2⟩=>by rw [hy] at e; cases e; exact e2⟩
 ·rw [if_neg (by simpa using h)]
  exact Is.F (fun ⟨y,h1,_⟩=>h h1)

def qak (l:List Int)(n:Int) : Prop:=∀ (i:Nat) (x:Int),l[i]? = some x→0≤x∧x<n∧∀ y,0<i→l[i - 1]? = some y→y<x
theorem qr2 {l:List Int}{n:Int}(hl:l.length≤4611686018427387904) : Is (fun _=>qdr l n) (qak l n):=by
 unfold qdr
 refine Is.all (Q:=fun i x=>0≤x∧x<n∧∀ y,0<i→l[i - 1]? = some y→y<x) hl (fun i x hx=>?_) (fun h=>Is.T h) (fun h=>h)
 unfold qdm
 refine zer (Is.ite (fun hb=>Is.T ?_) (fun hb=>(za5 hl (List.getElem?_eq_some_iff.1 hx).1).iff ?_))
 ·simp at hb; rintro ⟨a,b,c⟩; omega
 ·simp at hb
  constructor
  ·rintro ⟨y,h1,h2,h3⟩ ⟨_,_,h4⟩
   have:=h4 y h1 h2
   simp at h3
   omega
  ·intro h
   simp only [not_and] at h
   obtain ⟨y,h1,h2,h3⟩:=q09 (h hb.1 hb.2)
   exact ⟨y,h1,h2,by simp; omega⟩
end Go.Proofs.Ytanblnjomhgphaa.X
