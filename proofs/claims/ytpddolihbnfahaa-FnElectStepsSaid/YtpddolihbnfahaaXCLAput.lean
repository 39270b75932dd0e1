/- Rows that rise: a number put in; what is asked on both sides. -/
import Derived.Test.YtpddolihbnfahaaXCLAmem
import Derived.Test.YtpddolihbnfahaaXCLAhas
import Derived.Test.YtpddolihbnfahaaXCLAbs
set_option linter.unusedVariables false
set_option linter.unusedSimpArgs false
namespace Go.Proofs.Ytpddolihbnfahaa.X
open Go

def qeu (n:Nat) : List Int:=(List.range n).map fun (i:Nat)=>(i:Int)
theorem ql4 {n:Nat} : (qeu n).length=n:=by simp [qeu]
theorem qvm {n:Nat}{z:Int}(h:z∈qeu n) : 0≤z∧z<n:=by
 simp only [qeu,List.mem_map,List.mem_range] at h
 obtain ⟨i,h1,rfl⟩:=h
 omega
theorem qp3 {l:List Int}{n:Int}(h:qey l n) : l.Pairwise (· < ·):=by
 rw [List.pairwise_iff_getElem]
 have key:∀ d i (hi:i<l.length) (hj:i+d+1<l.length),l[i]<l[i+d+1]:=by
  intro d
  induction d with
  | zero =>
   intro i hi hj
   have:=(h (i+1) l[i+1] (List.getElem?_eq_getElem hj)).2.2 l[i] (by omega) (by simp)
   simpa using this
  | succ d ih =>
   intro i hi hj
   have h1:=ih i hi (by omega)
   have h2:=(h (i+d+1+1) l[i+d+1+1] (List.getElem?_eq_getElem (by omega))).2.2 l[i+d+1] (by omega) (by simp)
   have:l[i+(d+1)+1]=l[i+d+1+1]:=by congr 1
   rw [this]
   omega
 intro i j hi hj hij
 have:=key (j - i - 1) i hi (by omega)
 have e:i+(j - i - 1)+1=j:=by omega
 simpa [e] using this
theorem qlj {l:List Int}{n:Nat}(h:qey l n) : l.length≤n:=by
 have key:∀ i (hi:i<l.length),(i:Int)≤l[i]:=by
  intro i
  induction i with
  | zero=>intro hi; exact (h 0 l[0] (List.getElem?_eq_getElem hi)).1
  | succ i ih =>
   intro hi
   have h1:=ih (by omega)
   have h2:=(h (i+1) l[i+1] (List.getElem?_eq_getElem hi)).2.2 l[i] (by omega) (by simp)
   omega
 by_cases h0:l.length=0
 ·omega
 ·have h1:=key (l.length - 1) (by omega)
  have h2:=(h (l.length - 1) l[l.length - 1] (List.getElem?_eq_getElem (by omega))).2.1
  omega
theorem qb8 {l:List Int}{n:Int} : qey l n↔l.Pairwise (· < ·)∧∀ x∈l,0≤x∧x<n:=by
 constructor
 ·intro h
  refine ⟨qp3 h,fun x hx=>?_⟩
  obtain ⟨i,hi⟩:=List.getElem?_of_mem hx
  exact ⟨(h i x hi).1,(h i x hi).2.1⟩
 ·rintro ⟨h1,h2⟩ i x hx
  refine ⟨(h2 x (List.mem_of_getElem? hx)).1,(h2 x (List.mem_of_getElem? hx)).2,fun y hp hy=>?_⟩
  rw [List.pairwise_iff_getElem] at h1
  obtain ⟨a,rfl⟩:=List.getElem?_eq_some_iff.1 hx
  obtain ⟨b,rfl⟩:=List.getElem?_eq_some_iff.1 hy
  exact h1 _ _ b a (by omega)
def ql8 (l:List Int)(v:Int) : List Int:=l.filter (fun z=>decide (z<v))++v::l.filter (fun z=>decide (v≤z))
theorem qlu {l:List Int}{v z:Int} : z∈ql8 l v↔z=v∨z∈l:=by
 unfold ql8
 simp only [List.mem_append,List.mem_filter,List.mem_cons,decide_eq_true_eq]
 constructor
 ·rintro (⟨h,_⟩ | h | ⟨h,_⟩)
  ·exact .inr h
  ·exact .inl h
  ·exact .inr h
 ·rintro (h | h)
  ·exact .inr (.inl h)
  ·by_cases hz:z<v
   ·exact .inl ⟨h,hz⟩
   ·exact .inr (.inr ⟨h,by omega⟩)
theorem qr8 {l:List Int}{v:Int}(h:l.Pairwise (· < ·))(hv:¬ v∈l) : (ql8 l v).Pairwise (· < ·):=by
 unfold ql8
 rw [List.pairwise_append]
 refine ⟨h.sublist List.filter_sublist,?_,?_⟩
 ·rw [List.pairwise_cons]
  refine ⟨fun z hz=>?_,h.sublist List.filter_sublist⟩
  rw [List.mem_filter] at hz
  have h1:v≤z:=by simpa using hz.2
  have:z≠v:=fun e=>hv (e▸hz.1)
  omega
 ·intro a ha b hb
  rw [List.mem_filter] at ha
  have h1:a<v:=by simpa using ha.2
  rcases List.mem_cons.1 hb with rfl | hb
  ·exact h1
  ·rw [List.mem_filter] at hb
   have h2:v≤b:=by simpa using hb.2
   omega
theorem ql9 {α:Type}{f:α→Nat}{m:Nat} : ∀ {l:List α},(∀ x∈l,f x≤m)→qcd f l≤l.length*m:=by
 intro l
 induction l with
 | nil=>intro _; simp [qcd]
 | cons a l ih=>intro h; have:=ih (fun x hx=>h x (by simp [hx])); have:=h a (by simp); simp only [qcd,List.length_cons,Nat.succ_mul]; omega
end Go.Proofs.Ytpddolihbnfahaa.X
