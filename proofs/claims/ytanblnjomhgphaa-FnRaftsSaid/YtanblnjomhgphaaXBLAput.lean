/- Rows that rise: a number put in; what is asked on both sides. -/
import Derived.Test.YtanblnjomhgphaaXBLAmem
import Derived.Test.YtanblnjomhgphaaXBLAhas
import Derived.Test.YtanblnjomhgphaaXBLAbs
open List renaming getElem?_eq_getElem→s8,getElem?_eq_some_iff→r9,mem_of_getElem?→a0o,pairwise_iff_getElem→a3w
set_option linter.unusedVariables false
set_option linter.unusedSimpArgs false
namespace Go.Proofs.Ytanblnjomhgphaa.X
open Go

theorem qdg {n a b:Int} : (!(zg n a b))=true↔¬ (a≤n∧n≤b):=by
 simp only [zg,Bool.not_eq_true',Bool.and_eq_false_iff,decide_eq_false_iff_not]; omega
theorem dn {b:Bool}{P:Prop}(h:b=true↔¬ P)(hb:b=false) : P:=Classical.byContradiction fun hn=>by rw [h.2 hn] at hb; cases hb
theorem bF {b:Bool}{P:Prop}(h:b=true↔P)(hn:¬ P) : b=false:=by
 cases b
 ·rfl
 ·exact absurd (h.1 rfl) hn
theorem zgt {n a b:Int} : zg n a b=true↔(a≤n∧n≤b):=by simp [zg]
theorem qk0 {n a b:Int} : yq n a b=true↔(a≤n∧n≤b):=by simp [yq]
theorem qaq {α:Type}{b:Nat}{l:List α}(h:l.length*b≤70368744177664) : ju b ([] : List α) l=some l:=by
 unfold ju
 rw [if_pos (by simpa using h)]
 simp
def qcc (n:Nat) : List Int:=(List.range n).map fun (i:Nat)=>(i:Int)
theorem qpd {n:Nat} : (qcc n).length=n:=by simp [qcc]
theorem qsx {n:Nat} : qcc (n+1)=qcc n++[(n:Int)]:=by simp [qcc,List.range_succ]
theorem qlg {n:Nat}{z:Int}(h:z∈qcc n) : 0≤z∧z<n:=by
 simp only [qcc,List.mem_map,List.mem_range] at h
 obtain ⟨i,h1,rfl⟩:=h
 omega
theorem qnn {n:Nat} : (qcc n).Pairwise (· < ·):=by
 induction n with
 | zero=>simp [qcc]
 | succ n ih =>
  rw [qsx,List.pairwise_append]
  refine ⟨ih,by simp,fun a ha b hb=>?_⟩
  have:=(qlg ha).2
  simp at hb
  omega
theorem qnp {l:List Int}{n:Int}(h:qak l n) : l.Pairwise (· < ·):=by
 rw [a3w]
 have key:∀ d i (hi:i<l.length) (hj:i+d+1<l.length),l[i]<l[i+d+1]:=by
  intro d
  induction d with
  | zero =>
   intro i hi hj
   have:=(h (i+1) l[i+1] (s8 hj)).2.2 l[i] (by omega) (by simp)
   simpa using this
  | succ d ih =>
   intro i hi hj
   have h1:=ih i hi (by omega)
   have h2:=(h (i+d+1+1) l[i+d+1+1] (s8 (by omega))).2.2 l[i+d+1] (by omega) (by simp)
   have:l[i+(d+1)+1]=l[i+d+1+1]:=by congr 1
   rw [this]
   omega
 intro i j hi hj hij
 have:=key (j - i - 1) i hi (by omega)
 have e:i+(j - i - 1)+1=j:=by omega
 simpa [e] using this
theorem wl {l:List Int}{n:Int} : qak l n↔l.Pairwise (· < ·)∧∀ x∈l,0≤x∧x<n:=by
 constructor
 ·intro h
  refine ⟨qnp h,fun x hx=>?_⟩
  obtain ⟨i,hi⟩:=List.getElem?_of_mem hx
  exact ⟨(h i x hi).1,(h i x hi).2.1⟩
 ·rintro ⟨h1,h2⟩ i x hx
  refine ⟨(h2 x (a0o hx)).1,(h2 x (a0o hx)).2,fun y hp hy=>?_⟩
  rw [a3w] at h1
  obtain ⟨a,rfl⟩:=r9.1 hx
  obtain ⟨b,rfl⟩:=r9.1 hy
  exact h1 _ _ b a (by omega)
theorem qo6 {α:Type}{f:α→Nat}{m:Nat} : ∀ {l:List α},(∀ x∈l,f x≤m)→qjy f l≤l.length*m:=by
 intro l
 induction l with
 | nil=>intro _; simp [qjy]
 | cons a l ih=>intro h; have:=ih (fun x hx=>h x (by simp [hx])); have:=h a (by simp); simp only [qjy,List.length_cons,Nat.succ_mul]; omega
end Go.Proofs.Ytanblnjomhgphaa.X
