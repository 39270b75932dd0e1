/- How many first rows two logs share, as a number. -/
import Derived.Test.YtohofoampalhoaaXMLArows
import Derived.Test.YtohofoampalhoaaXMLApre
open List renaming getElem?_append_left→a0h,getElem?_take_of_lt→a19
set_option linter.unusedVariables false
set_option linter.unusedSimpArgs false
namespace Go.Proofs.Ytohofoampalhoaa.X
open Go

def pre:List Row→List Row→Nat
 | x::a,y::b=>if x=y then pre a b+1 else 0
 | _,_=>0
def CP (a b:List Row)(n:Nat) : Prop:=n≤a.length∧n≤b.length∧a.take n=b.take n∧(n<a.length→n<b.length→a[n]? ≠ b[n]?)
theorem CP_pre:∀ {a b:List Row},CP a b (pre a b):=by
 intro a
 induction a with
 | nil=>intro b; exact ⟨by simp [pre],by simp [pre],by simp [pre],fun h=>by simp at h⟩
 | cons x a ih =>
  intro b
  cases b with
  | nil=>exact ⟨by simp [pre],by simp [pre],by simp [pre],fun _ h=>by simp at h⟩
  | cons y b =>
   by_cases e:x=y
   ·subst e
    obtain ⟨h1,h2,h3,h4⟩:=ih (b:=b)
    simp only [pre,if_true]
    exact ⟨by simp; omega,by simp; omega,by simp [h3],fun h5 h6=>by simpa using h4 (by simpa using h5) (by simpa using h6)⟩
   ·simp only [pre,if_neg e]
    exact ⟨by simp,by simp,by simp,fun _ _=>by simpa using e⟩
theorem CP_uniq {a b:List Row}{n m:Nat}(h1:CP a b n)(h2:CP a b m) : n=m:=by
 have key:∀ {n m:Nat},CP a b n→CP a b m→n<m→False:=by
  intro n m ⟨p1,p2,p3,p4⟩ ⟨q1,q2,q3,q4⟩ h
  refine p4 (by omega) (by omega) ?_
  have:=congrArg (fun z=>z[n]?) q3
  simpa [a19 h] using this
 rcases Nat.lt_trichotomy n m with h | h | h
 ·exact (key h1 h2 h).elim
 ·exact h
 ·exact (key h2 h1 h).elim
theorem quz {a b:List Row} : pre a b≤a.length∧pre a b≤b.length:=⟨CP_pre.1,CP_pre.2.1⟩
theorem qpj {a b:List Row} : a.take (pre a b)=b.take (pre a b):=CP_pre.2.2.1
theorem q90 {a b:List Row}(hl:a.length≤1048576) : Ev (fun k=>qb9 k a b) ((pre a b:Nat) : Int):=by
 obtain ⟨n,e,h1,h2,h3,h4⟩:=qrr (b:=b) hl
 rw [CP_uniq CP_pre ⟨h1,h2,h3,h4⟩]
 exact e
theorem zai {a b:List Row}{n:Nat} : n≤pre a b↔n≤a.length∧n≤b.length∧a.take n=b.take n:=by
 obtain ⟨h1,h2,h3,h4⟩:=CP_pre (a:=a) (b:=b)
 constructor
 ·intro h
  refine ⟨by omega,by omega,?_⟩
  have:=congrArg (List.take n) h3
  rwa [List.take_take,List.take_take,Nat.min_eq_left h] at this
 ·rintro ⟨g1,g2,g3⟩
  rcases Nat.lt_or_ge (pre a b) n with h | h
  ·exfalso
   refine h4 (by omega) (by omega) ?_
   have:=congrArg (fun z=>z[pre a b]?) g3
   simpa [a19 h] using this
  ·exact h
theorem qsj {l:List Row}{n m:Int}(h:qa3 l n)(hm:n≤m) : qa3 l m:=by
 have:=qgu (k:=l.length) h hm
 rwa [List.take_length] at this
theorem qxu {l:List Row}{n v:Int}(h:qa3 l n)(h0:0≤n)(hv:0≤v∧v≤99)(hl:l.length<30) : qa3 (l++[⟨n,v⟩]) n:=by
 refine ⟨fun i x hx=>?_,by simp; omega⟩
 by_cases hi:i<l.length
 ·rw [a0h hi] at hx
  obtain ⟨a1,a2,a3,a4,a5⟩:=h.1 i x hx
  refine ⟨a1,a2,a3,a4,fun y hp hy=>?_⟩
  rw [a0h (by omega)] at hy
  exact a5 y hp hy
 ·rw [List.getElem?_append_right (by omega)] at hx
  have:i - l.length=0:=by
   have:=(List.getElem?_eq_some_iff.1 hx).1
   simp at this
   omega
  rw [this] at hx
  simp at hx
  subst hx
  refine ⟨h0,Int.le_refl _,hv.1,hv.2,fun y hp hy=>?_⟩
  rw [a0h (by omega)] at hy
  exact (h.1 _ y hy).2.1
end Go.Proofs.Ytohofoampalhoaa.X
