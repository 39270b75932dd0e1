/- Rows of a log: what is asked on both sides. -/
import Derived.Test.YtohofoampalhoaaXMD
import Derived.Test.YtohofoampalhoaaXMLAmem
open List renaming getElem?_eq_some_iff→v6,getElem?_take_of_lt→a19,length_take→a1t
set_option linter.unusedVariables false
set_option linter.unusedSimpArgs false
namespace Go.Proofs.Ytohofoampalhoaa.X
open Go
def qa3 (l:List Row)(most:Int) : Prop:=(∀ (i:Nat) (x:Row),l[i]? = some x→0≤x.Epoch∧x.Epoch≤most∧0≤x.Value∧x.Value≤99∧∀ y,0<i→l[i - 1]? = some y→y.Epoch≤x.Epoch)∧l.length≤30
theorem qt1 {l:List Row}{n:Int}(hl:l.length≤4611686018427387904) : Is (fun _=>qd9 l n) (qa3 l n):=by
 unfold qd9
 have key:∃ o:Oc Int Bool,k9 (fun i3 x4 s53=>qap n i3 x4 s53) l 0=some o∧((∃ s,o = .nxt s)∧(∀ (i:Nat) (x:Row),l[i]? = some x→0≤x.Epoch∧x.Epoch≤n∧0≤x.Value∧x.Value≤99∧∀ y,0<i→l[i - 1]? = some y→y.Epoch≤x.Epoch)∨o = .ret false∧¬ (∀ (i:Nat) (x:Row),l[i]? = some x→0≤x.Epoch∧x.Epoch≤n∧0≤x.Value∧x.Value≤99∧∀ y,0<i→l[i - 1]? = some y→y.Epoch≤x.Epoch)):=by
  have gen:∀ (r:List Row) (i:Nat) (s:Int),l.drop i=r→0≤s→(∀ y,0<i→l[i - 1]? = some y→y.Epoch=s)→(i=0→s=0)→(∀ (j:Nat) (x:Row),j<i→l[j]? = some x→0≤x.Epoch∧x.Epoch≤n∧0≤x.Value∧x.Value≤99∧∀ y,0<j→l[j - 1]? = some y→y.Epoch≤x.Epoch) →
    ∃ o:Oc Int Bool,xx (fun i3 x4 s53=>qap n i3 x4 s53) r i s=some o∧((∃ s,o = .nxt s)∧(∀ (i:Nat) (x:Row),l[i]? = some x→0≤x.Epoch∧x.Epoch≤n∧0≤x.Value∧x.Value≤99∧∀ y,0<i→l[i - 1]? = some y→y.Epoch≤x.Epoch)∨o = .ret false∧¬ (∀ (i:Nat) (x:Row),l[i]? = some x→0≤x.Epoch∧x.Epoch≤n∧0≤x.Value∧x.Value≤99∧∀ y,0<i→l[i - 1]? = some y→y.Epoch≤x.Epoch)):=by
   intro r
   induction r with
   | nil =>
    intro i s hr h0 hs hz hp
    refine ⟨_,rfl,.inl ⟨⟨s,rfl⟩,fun j x hx=>hp j x ?_ hx⟩⟩
    have hj:j<l.length:=(v6.1 hx).1
    have:=congrArg List.length hr
    simp at this
    omega
   | cons x r ih =>
    intro i s hr h0 hs hz hp
    have hx:l[i]? = some x:=by have:=congrArg (fun z=>z[0]?) hr; simpa using this
    simp only [xx,qap]
    by_cases hb:((!(zw x.Epoch s n))||(!(zw x.Value 0 99)))=true
    ·simp only [if_pos hb]
     refine ⟨_,rfl,.inr ⟨rfl,fun h=>?_⟩⟩
     obtain ⟨a1,a2,a3,a4,a5⟩:=h i x hx
     simp [zw] at hb
     by_cases hi:i=0
     ·have:=hz hi; omega
     ·have hy:l[i - 1]? = some (l[i - 1]'(by have:=(v6.1 hx).1; omega)):=List.getElem?_eq_getElem _
      have:=a5 _ (by omega) hy
      have:=hs _ (by omega) hy
      omega
    ·simp only [if_neg hb]
     simp [zw] at hb
     refine ih (i+1) x.Epoch (by have:=congrArg (List.drop 1) hr; simpa [List.drop_drop] using this) (by omega) (fun y _ hy=>by rw [Nat.add_sub_cancel,hx] at hy; cases hy; rfl) (by omega) (fun j y hj hy=>?_)
     rcases Nat.lt_or_ge j i with h1 | h1
     ·exact hp j y h1 hy
     ·have:j=i:=by omega
      subst this
      rw [hx] at hy; cases hy
      exact ⟨by omega,by omega,by omega,by omega,fun z h2 h3=>by have:=hs z h2 h3; omega⟩
  unfold k9
  rw [if_pos hl]
  exact gen l 0 0 (by simp) (by omega) (fun y h=>by omega) (fun _=>rfl) (fun j x h=>by omega)
 obtain ⟨o,e,ho⟩:=key
 rw [e]
 rcases ho with ⟨⟨s,rfl⟩,hq⟩ | ⟨rfl,hq⟩
 ·refine Is.of ?_
  unfold qa3
  simp only [decide_eq_true_eq]
  exact ⟨fun e=>⟨hq,by omega⟩,fun e=>by have:=e.2; omega⟩
 ·exact Is.F (fun h=>hq h.1)
theorem qgu {l:List Row}{n m:Int}{k:Nat}(h:qa3 l n)(hm:n≤m) : qa3 (l.take k) m:=by
 refine ⟨fun i x hx=>?_,by have:=h.2; rw [a1t]; omega⟩
 have hi:i<k:=by
  have:=(v6.1 hx).1
  rw [a1t] at this; omega
 rw [a19 hi] at hx
 obtain ⟨a,b,c,d,e⟩:=h.1 i x hx
 refine ⟨a,by omega,c,d,fun y h1 h2=>e y h1 ?_⟩
 rwa [a19 (by omega)] at h2

end Go.Proofs.Ytohofoampalhoaa.X
