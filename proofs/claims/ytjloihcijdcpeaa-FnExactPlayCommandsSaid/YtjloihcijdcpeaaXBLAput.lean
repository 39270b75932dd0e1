/- Rows that rise: a number put in; what is asked on both sides. -/
import Derived.Test.YtjloihcijdcpeaaXBLAmem
import Derived.Test.YtjloihcijdcpeaaXBLAhas
import Derived.Test.YtjloihcijdcpeaaXBLAbs
set_option linter.unusedVariables false
set_option linter.unusedSimpArgs false
namespace Go.Proofs.Ytjloihcijdcpeaa.X
open Go

theorem qlw {n a b:Int} : (!(zl n a b))=true↔¬ (a≤n∧n≤b):=by
 simp only [zl,Bool.not_eq_true',Bool.and_eq_false_iff,decide_eq_false_iff_not]; omega
theorem qi6 {n a b:Int} : (!(jk n a b))=true↔¬ (a≤n∧n≤b):=by
 simp only [jk,Bool.not_eq_true',Bool.and_eq_false_iff,decide_eq_false_iff_not]; omega
theorem dn {b:Bool}{P:Prop}(h:b=true↔¬ P)(hb:b=false) : P:=Classical.byContradiction fun hn=>by rw [h.2 hn] at hb; cases hb
theorem bF {b:Bool}{P:Prop}(h:b=true↔P)(hn:¬ P) : b=false:=by
 cases b
 ·rfl
 ·exact absurd (h.1 rfl) hn
theorem qmm {n a b:Int} : zl n a b=true↔(a≤n∧n≤b):=by simp [zl]
theorem qau {α:Type}{b:Nat}{l:List α}(h:l.length*b≤70368744177664) : kq b ([] : List α) l=some l:=by
 unfold kq
 rw [if_pos (by simpa using h)]
 simp
theorem qro {l:List Int}{n:Int}(h:qa3 l n) : l.Pairwise (· < ·):=by
 rw [List.pairwise_iff_getElem]
 have key:∀ d i (hi:i<l.length) (hj:i+d+1<l.length),l[i]<l[i+d+1]:=by
  intro d
  induction d with
  | zero =>
   intro i hi hj
   have:=(h (i+1) l[i+1] (List.getElem?_eq_getElem hj)).2.2 l[i] (by omega) (by simp)
   simpa using this
  | succ d ih =>
   intro i hi hj
   have h1:=ih i hi (by omega)
   have h2:=(h (i+d+1+1) l[i+d+1+1] (List.getElem?_eq_getElem (by omega))).2.2 l[i+d+1] (by omega) (by simp)
   have:l[i+(d+1)+1]=l[i+d+1+1]:=by congr 1
   rw [this]
   omega
 intro i j hi hj hij
 have:=key (j - i - 1) i hi (by omega)
 have e:i+(j - i - 1)+1=j:=by omega
 simpa [e] using this
theorem y4 {l:List Int}{n:Nat}(h:qa3 l n) : l.length≤n:=by
 have key:∀ i (hi:i<l.length),(i:Int)≤l[i]:=by
  intro i
  induction i with
  | zero=>intro hi; exact (h 0 l[0] (List.getElem?_eq_getElem hi)).1
  | succ i ih =>
   intro hi
   have h1:=ih (by omega)
   have h2:=(h (i+1) l[i+1] (List.getElem?_eq_getElem hi)).2.2 l[i] (by omega) (by simp)
   omega
 by_cases h0:l.length=0
 ·omega
 ·have h1:=key (l.length - 1) (by omega)
  have h2:=(h (l.length - 1) l[l.length - 1] (List.getElem?_eq_getElem (by omega))).2.1
  omega
theorem ud {l:List Int}{n:Int} : qa3 l n↔l.Pairwise (· < ·)∧∀ x∈l,0≤x∧x<n:=by
 constructor
 ·intro h
  refine ⟨qro h,fun x hx=>?_⟩
  obtain ⟨i,hi⟩:=List.getElem?_of_mem hx
  exact ⟨(h i x hi).1,(h i x hi).2.1⟩
 ·rintro ⟨h1,h2⟩ i x hx
  refine ⟨(h2 x (List.mem_of_getElem? hx)).1,(h2 x (List.mem_of_getElem? hx)).2,fun y hp hy=>?_⟩
  rw [List.pairwise_iff_getElem] at h1
  obtain ⟨a,rfl⟩:=List.getElem?_eq_some_iff.1 hx
  obtain ⟨b,rfl⟩:=List.getElem?_eq_some_iff.1 hy
  exact h1 _ _ b a (by omega)
theorem qmi {α:Type}{f:α→Nat}{m:Nat} : ∀ {l:List α},(∀ x∈l,f x≤m)→zp f l≤l.length*m:=by
 intro l
 induction l with
 | nil=>intro _; simp [zp]
 | cons a l ih=>intro h; have:=ih (fun x hx=>h x (by simp [hx])); have:=h a (by simp); simp only [zp,List.length_cons,Nat.succ_mul]; omega
end Go.Proofs.Ytjloihcijdcpeaa.X
