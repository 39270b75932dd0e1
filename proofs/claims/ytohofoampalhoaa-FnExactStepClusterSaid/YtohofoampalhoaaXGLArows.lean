/- Rows of a log: what is asked on both sides. -/
import Derived.Test.YtohofoampalhoaaXGD
import Derived.Test.YtohofoampalhoaaXGLAmem
open List renaming getElem?_eq_some_iff→i4,getElem?_take_of_lt→a1i,length_take→a02
set_option linter.unusedVariables false
set_option linter.unusedSimpArgs false
namespace Go.Proofs.Ytohofoampalhoaa.X
open Go
def qdi (l:List Row)(most:Int) : Prop:=(∀ (i:Nat) (x:Row),l[i]? = some x→0≤x.Epoch∧x.Epoch≤most∧0≤x.Value∧x.Value≤99∧∀ y,0<i→l[i - 1]? = some y→y.Epoch≤x.Epoch)∧l.length≤30
theorem qnx {l:List Row}{n:Int}(hl:l.length≤4611686018427387904) : Is (fun _=>qcs l n) (qdi l n):=by
 unfold qcs
 refine Is.all (Q:=fun (i:Nat) (x:Row)=>0≤x.Epoch∧x.Epoch≤n∧0≤x.Value∧x.Value≤99∧∀ y,0<i→l[i - 1]? = some y→y.Epoch≤x.Epoch) hl (fun i x hx=>?_) (fun h=>Is.of ?_) (fun h h2=>h h2.1)
 ·unfold qdm
  by_cases he:(!(ju x.Epoch 0 n))=true
  ·refine ⟨true,?_,?_⟩
   ·exact Ev.iteT he Ev.rfl
   ·simp [ju] at he; simp only [true_iff]; rintro ⟨a,b,_⟩; omega
  ·simp only [if_neg he]
   simp [ju] at he
   refine qol (Is.ite (fun hb=>Is.T ?_) (fun hb=>(qni hl (i4.1 hx).1).iff ?_))
   ·simp [ju] at hb; rintro ⟨_,_,a,b,_⟩; omega
   ·simp [ju] at hb
    constructor
    ·rintro ⟨y,h1,h2,h3⟩ ⟨_,_,_,_,h4⟩
     have:=h4 y h1 h2
     simp at h3
     omega
    ·intro h
     simp only [not_and] at h
     obtain ⟨y,h1,h2,h3⟩:=qle (h he.1 he.2 hb.1 hb.2)
     exact ⟨y,h1,h2,by simp; omega⟩
 ·unfold qdi
  simp only [decide_eq_true_eq]
  exact ⟨fun e=>⟨h,by omega⟩,fun e=>by have:=e.2; omega⟩
theorem qwh {l:List Row}{n:Int}(hl:l.length≤4611686018427387904) : Is (fun _=>qd0 l n) (qdi l n):=by
 unfold qd0
 have key:∃ o:Oc Int Bool,k7 (fun i3 x4 s53=>qac n i3 x4 s53) l 0=some o∧((∃ s,o = .nxt s)∧(∀ (i:Nat) (x:Row),l[i]? = some x→0≤x.Epoch∧x.Epoch≤n∧0≤x.Value∧x.Value≤99∧∀ y,0<i→l[i - 1]? = some y→y.Epoch≤x.Epoch)∨o = .ret false∧¬ (∀ (i:Nat) (x:Row),l[i]? = some x→0≤x.Epoch∧x.Epoch≤n∧0≤x.Value∧x.Value≤99∧∀ y,0<i→l[i - 1]? = some y→y.Epoch≤x.Epoch)):=by
  have gen:∀ (r:List Row) (i:Nat) (s:Int),l.drop i=r→0≤s→(∀ y,0<i→l[i - 1]? = some y→y.Epoch=s)→(i=0→s=0)→(∀ (j:Nat) (x:Row),j<i→l[j]? = some x→0≤x.Epoch∧x.Epoch≤n∧0≤x.Value∧x.Value≤99∧∀ y,0<j→l[j - 1]? = some y→y.Epoch≤x.Epoch) →
    ∃ o:Oc Int Bool,xl (fun i3 x4 s53=>qac n i3 x4 s53) r i s=some o∧((∃ s,o = .nxt s)∧(∀ (i:Nat) (x:Row),l[i]? = some x→0≤x.Epoch∧x.Epoch≤n∧0≤x.Value∧x.Value≤99∧∀ y,0<i→l[i - 1]? = some y→y.Epoch≤x.Epoch)∨o = .ret false∧¬ (∀ (i:Nat) (x:Row),l[i]? = some x→0≤x.Epoch∧x.Epoch≤n∧0≤x.Value∧x.Value≤99∧∀ y,0<i→l[i - 1]? = some y→y.Epoch≤x.Epoch)):=by
   intro r
   induction r with
   | nil =>
    intro i s hr h0 hs hz hp
    refine ⟨_,rfl,.inl ⟨⟨s,rfl⟩,fun j x hx=>hp j x ?_ hx⟩⟩
    have hj:j<l.length:=(i4.1 hx).1
    have:=congrArg List.length hr
    simp at this
    omega
   | cons x r ih =>
    intro i s hr h0 hs hz hp
    have hx:l[i]? = some x:=by have:=congrArg (fun z=>z[0]?) hr; simpa using this
    simp only [xl,qac]
    by_cases hb:((!(jc x.Epoch s n))||(!(jc x.Value 0 99)))=true
    ·simp only [if_pos hb]
     refine ⟨_,rfl,.inr ⟨rfl,fun h=>?_⟩⟩
     obtain ⟨a1,a2,a3,a4,a5⟩:=h i x hx
     simp [jc] at hb
     by_cases hi:i=0
     ·have:=hz hi; omega
     ·have hy:l[i - 1]? = some (l[i - 1]'(by have:=(i4.1 hx).1; omega)):=List.getElem?_eq_getElem _
      have:=a5 _ (by omega) hy
      have:=hs _ (by omega) hy
      omega
    ·simp only [if_neg hb]
     simp [jc] at hb
     refine ih (i+1) x.Epoch (by have:=congrArg (List.drop 1) hr; simpa [List.drop_drop] using this) (by omega) (fun y _ hy=>by rw [Nat.add_sub_cancel,hx] at hy; cases hy; rfl) (by omega) (fun j y hj hy=>?_)
     rcases Nat.lt_or_ge j i with h1 | h1
     ·exact hp j y h1 hy
     ·have:j=i:=by omega
      subst this
      rw [hx] at hy; cases hy
      exact ⟨by omega,by omega,by omega,by omega,fun z h2 h3=>by have:=hs z h2 h3; omega⟩
  unfold k7
  rw [if_pos hl]
  exact gen l 0 0 (by simp) (by omega) (fun y h=>by omega) (fun _=>rfl) (fun j x h=>by omega)
 obtain ⟨o,e,ho⟩:=key
 rw [e]
 rcases ho with ⟨⟨s,rfl⟩,hq⟩ | ⟨rfl,hq⟩
 ·refine Is.of ?_
  unfold qdi
  simp only [decide_eq_true_eq]
  exact ⟨fun e=>⟨hq,by omega⟩,fun e=>by have:=e.2; omega⟩
 ·exact Is.F (fun h=>hq h.1)
theorem qsd {l:List Row}{n m:Int}{k:Nat}(h:qdi l n)(hm:n≤m) : qdi (l.take k) m:=by
 refine ⟨fun i x hx=>?_,by have:=h.2; rw [a02]; omega⟩
 have hi:i<k:=by
  have:=(i4.1 hx).1
  rw [a02] at this; omega
 rw [a1i hi] at hx
 obtain ⟨a,b,c,d,e⟩:=h.1 i x hx
 refine ⟨a,by omega,c,d,fun y h1 h2=>e y h1 ?_⟩
 rwa [a1i (by omega)] at h2

end Go.Proofs.Ytohofoampalhoaa.X
