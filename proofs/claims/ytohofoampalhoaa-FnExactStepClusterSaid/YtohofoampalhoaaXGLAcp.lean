/- How many first rows two logs share, as a number. -/
import Derived.Test.YtohofoampalhoaaXGLArows
import Derived.Test.YtohofoampalhoaaXGLApre
set_option linter.unusedVariables false
set_option linter.unusedSimpArgs false
namespace Go.Proofs.Ytohofoampalhoaa.X
open Go

def pre:List Row→List Row→Nat
 | x::a,y::b=>if x=y then pre a b+1 else 0
 | _,_=>0
def CP (a b:List Row)(n:Nat) : Prop:=n≤a.length∧n≤b.length∧a.take n=b.take n∧(n<a.length→n<b.length→a[n]? ≠ b[n]?)
theorem CP_pre:∀ {a b:List Row},CP a b (pre a b):=by
 intro a
 induction a with
 | nil=>intro b; exact ⟨by simp [pre],by simp [pre],by simp [pre],fun h=>by simp at h⟩
 | cons x a ih =>
  intro b
  cases b with
  | nil=>exact ⟨by simp [pre],by simp [pre],by simp [pre],fun _ h=>by simp at h⟩
  | cons y b =>
   by_cases e:x=y
   ·subst e
    obtain ⟨h1,h2,h3,h4⟩:=ih (b:=b)
    simp only [pre,if_true]
    exact ⟨by simp; omega,by simp; omega,by simp [h3],fun h5 h6=>by simpa using h4 (by simpa using h5) (by simpa using h6)⟩
   ·simp only [pre,if_neg e]
    exact ⟨by simp,by simp,by simp,fun _ _=>by simpa using e⟩
theorem CP_uniq {a b:List Row}{n m:Nat}(h1:CP a b n)(h2:CP a b m) : n=m:=by
 have key:∀ {n m:Nat},CP a b n→CP a b m→n<m→False:=by
  intro n m ⟨p1,p2,p3,p4⟩ ⟨q1,q2,q3,q4⟩ h
  refine p4 (by omega) (by omega) ?_
  have:=congrArg (fun z=>z[n]?) q3
  simpa [List.getElem?_take_of_lt h] using this
 rcases Nat.lt_trichotomy n m with h | h | h
 ·exact (key h1 h2 h).elim
 ·exact h
 ·exact (key h2 h1 h).elim
theorem qwt {a b:List Row} : pre a b≤a.length∧pre a b≤b.length:=⟨CP_pre.1,CP_pre.2.1⟩
theorem qon {a b:List Row} : a.take (pre a b)=b.take (pre a b):=CP_pre.2.2.1
theorem q83 {a b:List Row}(hl:a.length≤1048576) : Ev (fun k=>ua k a b) ((pre a b:Nat) : Int):=by
 obtain ⟨n,e,h1,h2,h3,h4⟩:=qmi (b:=b) hl
 rw [CP_uniq CP_pre ⟨h1,h2,h3,h4⟩]
 exact e
end Go.Proofs.Ytohofoampalhoaa.X
