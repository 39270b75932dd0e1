/- Rows that rise: a number put in; what is asked on both sides. -/
import Derived.Test.YtohofoampalhoaaXMLAmem
import Derived.Test.YtohofoampalhoaaXMLAhas
import Derived.Test.YtohofoampalhoaaXMLAbs
open Bool renaming and_eq_false_iff→a3b,not_eq_true'→a23
open Go.Proofs.Ytohofoampalhoaa.X.Ev renaming bindp→a0q,rfl→a0o
open List renaming exists_cons_of_ne_nil→a3x,filter_append→a4i,filter_eq_self→a3p,getElem?_eq_getElem→a0b,getElem?_eq_some_iff→v6,mem_cons→a1l,mem_filter→a3i,mem_of_getElem?→a09
open Option renaming bind_some→a0x
set_option linter.unusedVariables false
set_option linter.unusedSimpArgs false
namespace Go.Proofs.Ytohofoampalhoaa.X
open Go

theorem zel {n a b:Int} : (!(kt n a b))=true↔¬ (a≤n∧n≤b):=by
 simp only [kt,a23,a3b,decide_eq_false_iff_not]; omega
theorem qss {n a b:Int} : (!(zw n a b))=true↔¬ (a≤n∧n≤b):=by
 simp only [zw,a23,a3b,decide_eq_false_iff_not]; omega
theorem bF {b:Bool}{P:Prop}(h:b=true↔P)(hn:¬ P) : b=false:=by
 cases b
 ·rfl
 ·exact absurd (h.1 rfl) hn
theorem zb1 {n a b:Int} : kt n a b=true↔(a≤n∧n≤b):=by simp [kt]
theorem w5 {α:Type}{b:Nat}{l:List α}(h:l.length*b≤70368744177664) : k5 b ([] : List α) l=some l:=by
 unfold k5
 rw [if_pos (by simpa using h)]
 simp
def qgj (n:Nat) : List Int:=(List.range n).map fun (i:Nat)=>(i:Int)
theorem qws {n:Nat} : qgj (n+1)=qgj n++[(n:Int)]:=by simp [qgj,List.range_succ]
theorem qpo {n:Nat}{z:Int}(h:z∈qgj n) : 0≤z∧z<n:=by
 simp only [qgj,List.mem_map,List.mem_range] at h
 obtain ⟨i,h1,rfl⟩:=h
 omega
theorem qtp {n:Nat} : (qgj n).Pairwise (· < ·):=by
 induction n with
 | zero=>simp [qgj]
 | succ n ih =>
  rw [qws,List.pairwise_append]
  refine ⟨ih,by simp,fun a ha b hb=>?_⟩
  have:=(qpo ha).2
  simp at hb
  omega
theorem zbv {A B:List Int}{v:Int}(hl:(A++B).length≤1000)(hA:∀ z∈A,z<v)(hB:∀ z∈B,v≤z) : Ev (fun k=>qe7 k (A++B) v) (if B.head? = some v then A++B else A++v::B):=by
 unfold qe7
 have hlA:A.length+B.length≤1000:=by simpa using hl
 refine Ev.jn (s:=(A.length:Int)) (Ev.loop (fun s=>∃ i:Nat,i≤A.length∧s=(i:Int)) (fun s=>A.length - s.toNat) ⟨0,by omega,rfl⟩ ?_) ?_
 ·rintro s ⟨i,hi,rfl⟩
  unfold qei
  by_cases h:i<A.length
  ·have hg:(A++B)[i]? = some A[i]:=by rw [List.getElem?_append_left h]; exact a0b h
   refine .inl ⟨((i+1:Nat) : Int),?_,⟨i+1,by omega,rfl⟩,by simp only [Int.toNat_natCast]; omega⟩
   rw [if_pos (by simp; omega),jl hg,a0x,a0x,if_pos (by simpa using hA _ (List.getElem_mem h)),xe (by omega)]
  ·have hi:i=A.length:=by omega
   subst hi
   refine .inr (.inl ⟨_,?_,rfl⟩)
   by_cases hb:B=[]
   ·subst hb
    rw [if_neg (by simp)]
    rfl
   ·obtain ⟨w,B',rfl⟩:=a3x hb
    have hg:(A++w::B')[A.length]? = some w:=by simp
    have:=hB w (by simp)
    rw [if_pos (by simp; omega),jl hg,a0x,a0x,if_neg (by simp; omega)]
 ·unfold qgi
  have tail:∀ {C:List Int},C=B→Ev (fun _=>((sl (A++B) 0 (A.length:Int)).bind fun l76=>((k5 8 ([] : List Int) l76).bind fun l83=>((k5 8 l83 [v]).bind fun l98=>((sl (A++B) (A.length:Int) (List.length (A++B))).bind fun l107=>((k5 8 l98 l107).bind fun l114=>(some l114))))))) (A++v::B):=by
   intro C _
   have s1:sl (A++B) 0 (A.length:Int)=some A:=by rw [qg0 (by simp)]; simp
   have s2:sl (A++B) (A.length:Int) ((A++B).length:Nat)=some B:=by rw [qrd (by simp)]; simp
   refine a0q s1 (a0q (w5 (by omega)) (a0q (a:=A++[v]) (by unfold k5; rw [if_pos (by simp; omega)]) (a0q s2 (a0q (a:=A++v::B) ?_ a0o))))
   unfold k5
   rw [if_pos (by simp; omega)]
   simp
  by_cases hb:B=[]
  ·subst hb
   have e0:(if ([] : List Int).head? = some v then A++[] else A++v::[])=A++v::[]:=if_neg (by simp)
   rw [e0]
   refine Ev.bind (a:=false) (Ev.iteF (by simp) a0o) (Ev.iteF rfl (tail rfl))
  ·obtain ⟨w,B',rfl⟩:=a3x hb
   have hg:(A++w::B')[A.length]? = some w:=by simp
   refine Ev.bind (a:=decide (w=v)) (Ev.iteT (by simp; omega) (a0q (jl hg) a0o)) ?_
   by_cases e:w=v
   ·subst e
    have e0:(if (w::B').head? = some w then A++w::B' else A++w::w::B')=A++w::B':=if_pos (by simp)
    rw [e0]
    exact Ev.iteT (by simp) a0o
   ·have e0:(if (w::B').head? = some v then A++w::B' else A++v::w::B')=A++v::w::B':=if_neg (by simpa using e)
    rw [e0]
    exact Ev.iteF (by simpa using e) (tail rfl)
theorem qf0 {l:List Int}{n:Int}(h:qge l n) : l.Pairwise (· < ·):=by
 rw [List.pairwise_iff_getElem]
 have key:∀ d i (hi:i<l.length) (hj:i+d+1<l.length),l[i]<l[i+d+1]:=by
  intro d
  induction d with
  | zero =>
   intro i hi hj
   have:=(h (i+1) l[i+1] (a0b hj)).2.2 l[i] (by omega) (by simp)
   simpa using this
  | succ d ih =>
   intro i hi hj
   have h1:=ih i hi (by omega)
   have h2:=(h (i+d+1+1) l[i+d+1+1] (a0b (by omega))).2.2 l[i+d+1] (by omega) (by simp)
   have:l[i+(d+1)+1]=l[i+d+1+1]:=by congr 1
   rw [this]
   omega
 intro i j hi hj hij
 have:=key (j - i - 1) i hi (by omega)
 have e:i+(j - i - 1)+1=j:=by omega
 simpa [e] using this
theorem qcf {l:List Int}{n:Nat}(h:qge l n) : l.length≤n:=by
 have key:∀ i (hi:i<l.length),(i:Int)≤l[i]:=by
  intro i
  induction i with
  | zero=>intro hi; exact (h 0 l[0] (a0b hi)).1
  | succ i ih =>
   intro hi
   have h1:=ih (by omega)
   have h2:=(h (i+1) l[i+1] (a0b hi)).2.2 l[i] (by omega) (by simp)
   omega
 by_cases h0:l.length=0
 ·omega
 ·have h1:=key (l.length - 1) (by omega)
  have h2:=(h (l.length - 1) l[l.length - 1] (a0b (by omega))).2.1
  omega
theorem qep {l:List Int}{n:Int} : qge l n↔l.Pairwise (· < ·)∧∀ x∈l,0≤x∧x<n:=by
 constructor
 ·intro h
  refine ⟨qf0 h,fun x hx=>?_⟩
  obtain ⟨i,hi⟩:=List.getElem?_of_mem hx
  exact ⟨(h i x hi).1,(h i x hi).2.1⟩
 ·rintro ⟨h1,h2⟩ i x hx
  refine ⟨(h2 x (a09 hx)).1,(h2 x (a09 hx)).2,fun y hp hy=>?_⟩
  rw [List.pairwise_iff_getElem] at h1
  obtain ⟨a,rfl⟩:=v6.1 hx
  obtain ⟨b,rfl⟩:=v6.1 hy
  exact h1 _ _ b a (by omega)
def qcj (l:List Int)(v:Int) : List Int:=l.filter (fun z=>decide (z<v))++v::l.filter (fun z=>decide (v≤z))
theorem flt {A B:List Int}{v:Int}(hA:∀ z∈A,z<v)(hB:∀ z∈B,v≤z) : (A++B).filter (fun z=>decide (z<v))=A∧(A++B).filter (fun z=>decide (v≤z))=B:=by
 constructor
 ·rw [a4i,a3p.2 (fun z hz=>by simpa using hA z hz),List.filter_eq_nil_iff.2 (fun z hz=>by have:=hB z hz; simp; omega),List.append_nil]
 ·rw [a4i,List.filter_eq_nil_iff.2 (fun z hz=>by have:=hA z hz; simp; omega),a3p.2 (fun z hz=>by simpa using hB z hz),List.nil_append]
theorem qlt {l:List Int}{v z:Int} : z∈qcj l v↔z=v∨z∈l:=by
 unfold qcj
 simp only [List.mem_append,a3i,a1l,decide_eq_true_eq]
 constructor
 ·rintro (⟨h,_⟩ | h | ⟨h,_⟩)
  ·exact .inr h
  ·exact .inl h
  ·exact .inr h
 ·rintro (h | h)
  ·exact .inr (.inl h)
  ·by_cases hz:z<v
   ·exact .inl ⟨h,hz⟩
   ·exact .inr (.inr ⟨h,by omega⟩)
theorem qw2 {l:List Int}{v:Int}(h:l.Pairwise (· < ·))(hv:¬ v∈l) : (qcj l v).Pairwise (· < ·):=by
 unfold qcj
 rw [List.pairwise_append]
 refine ⟨h.sublist List.filter_sublist,?_,?_⟩
 ·rw [List.pairwise_cons]
  refine ⟨fun z hz=>?_,h.sublist List.filter_sublist⟩
  rw [a3i] at hz
  have h1:v≤z:=by simpa using hz.2
  have:z≠v:=fun e=>hv (e▸hz.1)
  omega
 ·intro a ha b hb
  rw [a3i] at ha
  have h1:a<v:=by simpa using ha.2
  rcases a1l.1 hb with rfl | hb
  ·exact h1
  ·rw [a3i] at hb
   have h2:v≤b:=by simpa using hb.2
   omega
theorem zao {A B:List Int}{v:Int} : qm8 (A++v::B) (A.length:Int) ((A.length+1:Nat) : Int)=some (A++B):=by
 unfold qm8
 rw [if_pos ⟨by omega,by omega,by simp; omega⟩]
 simp
theorem zbj {A B:List Int}{v:Int}(hl:(A++B).length≤1000) : qnb (A++B) (A.length:Int) [v]=some (A++v::B,[v]):=by
 unfold qnb
 rw [if_pos ⟨by omega,by simp; omega,by simp,by simp at hl ⊢; omega⟩]
 simp
theorem qyj {α:Type}{f:α→Nat}{m:Nat} : ∀ {l:List α},(∀ x∈l,f x≤m)→ja f l≤l.length*m:=by
 intro l
 induction l with
 | nil=>intro _; simp [ja]
 | cons a l ih=>intro h; have:=ih (fun x hx=>h x (by simp [hx])); have:=h a (by simp); simp only [ja,List.length_cons,Nat.succ_mul]; omega
end Go.Proofs.Ytohofoampalhoaa.X
