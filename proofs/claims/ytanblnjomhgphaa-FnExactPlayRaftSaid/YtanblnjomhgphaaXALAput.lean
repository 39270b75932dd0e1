/- Rows that rise: a number put in; what is asked on both sides. -/
import Derived.Test.YtanblnjomhgphaaXALAmem
import Derived.Test.YtanblnjomhgphaaXALAhas
import Derived.Test.YtanblnjomhgphaaXALAbs
open Bool renaming not_eq_true'→a1t
open List renaming getElem?_eq_getElem→o9,getElem?_eq_some_iff→o7,mem_of_getElem?→a0x,pairwise_iff_getElem→a3r
set_option linter.unusedVariables false
set_option linter.unusedSimpArgs false
namespace Go.Proofs.Ytanblnjomhgphaa.X
open Go

theorem zgr {n a b:Int} : (!(yc n a b))=true↔¬ (a≤n∧n≤b):=by
 simp only [yc,a1t,Bool.and_eq_false_iff,decide_eq_false_iff_not]; omega
theorem zcx {n a b:Int} : (!(jh n a b))=true↔¬ (a≤n∧n≤b):=by
 simp only [jh,a1t,Bool.and_eq_false_iff,decide_eq_false_iff_not]; omega
theorem bF {b:Bool}{P:Prop}(h:b=true↔P)(hn:¬ P) : b=false:=by
 cases b
 ·rfl
 ·exact absurd (h.1 rfl) hn
theorem qkv {n a b:Int} : yc n a b=true↔(a≤n∧n≤b):=by simp [yc]
theorem qbg {α:Type}{b:Nat}{l:List α}(h:l.length*b≤70368744177664) : ju b ([] : List α) l=some l:=by
 unfold ju
 rw [if_pos (by simpa using h)]
 simp
def qca (n:Nat) : List Int:=(List.range n).map fun (i:Nat)=>(i:Int)
theorem qoq {n:Nat} : (qca n).length=n:=by simp [qca]
theorem qr8 {n:Nat} : qca (n+1)=qca n++[(n:Int)]:=by simp [qca,List.range_succ]
theorem qkt {n:Nat}{z:Int}(h:z∈qca n) : 0≤z∧z<n:=by
 simp only [qca,List.mem_map,List.mem_range] at h
 obtain ⟨i,h1,rfl⟩:=h
 omega
theorem qnd {n:Nat} : (qca n).Pairwise (· < ·):=by
 induction n with
 | zero=>simp [qca]
 | succ n ih =>
  rw [qr8,List.pairwise_append]
  refine ⟨ih,by simp,fun a ha b hb=>?_⟩
  have:=(qkt ha).2
  simp at hb
  omega
theorem qm7 {l:List Int}{n:Int}(h:qaa l n) : l.Pairwise (· < ·):=by
 rw [a3r]
 have key:∀ d i (hi:i<l.length) (hj:i+d+1<l.length),l[i]<l[i+d+1]:=by
  intro d
  induction d with
  | zero =>
   intro i hi hj
   have:=(h (i+1) l[i+1] (o9 hj)).2.2 l[i] (by omega) (by simp)
   simpa using this
  | succ d ih =>
   intro i hi hj
   have h1:=ih i hi (by omega)
   have h2:=(h (i+d+1+1) l[i+d+1+1] (o9 (by omega))).2.2 l[i+d+1] (by omega) (by simp)
   have:l[i+(d+1)+1]=l[i+d+1+1]:=by congr 1
   rw [this]
   omega
 intro i j hi hj hij
 have:=key (j - i - 1) i hi (by omega)
 have e:i+(j - i - 1)+1=j:=by omega
 simpa [e] using this
theorem y9 {l:List Int}{n:Int} : qaa l n↔l.Pairwise (· < ·)∧∀ x∈l,0≤x∧x<n:=by
 constructor
 ·intro h
  refine ⟨qm7 h,fun x hx=>?_⟩
  obtain ⟨i,hi⟩:=List.getElem?_of_mem hx
  exact ⟨(h i x hi).1,(h i x hi).2.1⟩
 ·rintro ⟨h1,h2⟩ i x hx
  refine ⟨(h2 x (a0x hx)).1,(h2 x (a0x hx)).2,fun y hp hy=>?_⟩
  rw [a3r] at h1
  obtain ⟨a,rfl⟩:=o7.1 hx
  obtain ⟨b,rfl⟩:=o7.1 hy
  exact h1 _ _ b a (by omega)
theorem qos {α:Type}{f:α→Nat}{m:Nat} : ∀ {l:List α},(∀ x∈l,f x≤m)→z2 f l≤l.length*m:=by
 intro l
 induction l with
 | nil=>intro _; simp [z2]
 | cons a l ih=>intro h; have:=ih (fun x hx=>h x (by simp [hx])); have:=h a (by simp); simp only [z2,List.length_cons,Nat.succ_mul]; omega
end Go.Proofs.Ytanblnjomhgphaa.X
