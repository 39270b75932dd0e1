/- Rows that rise: a number put in; what is asked on both sides. -/
import Derived.Test.YtohofoampalhoaaXGLAmem
import Derived.Test.YtohofoampalhoaaXGLAhas
import Derived.Test.YtohofoampalhoaaXGLAbs
open Go.Proofs.Ytohofoampalhoaa.X.Ev renaming bindp→r4,iteF→r5,rfl→o6
open List renaming exists_cons_of_ne_nil→a2x,filter_append→a3h,filter_eq_self→a2k,getElem?_eq_getElem→i8,getElem?_eq_some_iff→i4,mem_of_getElem?→v8
open Option renaming bind_some→r9
set_option linter.unusedVariables false
set_option linter.unusedSimpArgs false
namespace Go.Proofs.Ytohofoampalhoaa.X
open Go

theorem zav {n a b:Int} : (!(jc n a b))=true↔¬ (a≤n∧n≤b):=by
 simp only [jc,Bool.not_eq_true',Bool.and_eq_false_iff,decide_eq_false_iff_not]; omega
theorem bF {b:Bool}{P:Prop}(h:b=true↔P)(hn:¬ P) : b=false:=by
 cases b
 ·rfl
 ·exact absurd (h.1 rfl) hn
theorem zbc {n a b:Int} : ju n a b=true↔(a≤n∧n≤b):=by simp [ju]
theorem ww {α:Type}{b:Nat}{l:List α}(h:l.length*b≤70368744177664) : yc b ([] : List α) l=some l:=by
 unfold yc
 rw [if_pos (by simpa using h)]
 simp
theorem q9z {A B:List Int}{v:Int}(hl:(A++B).length≤1000)(hA:∀ z∈A,z<v)(hB:∀ z∈B,v≤z) : Ev (fun k=>qew k (A++B) v) (if B.head? = some v then A++B else A++v::B):=by
 unfold qew
 have hlA:A.length+B.length≤1000:=by simpa using hl
 refine Ev.jn (s:=(A.length:Int)) (Ev.loop (fun s=>∃ i:Nat,i≤A.length∧s=(i:Int)) (fun s=>A.length - s.toNat) ⟨0,by omega,rfl⟩ ?_) ?_
 ·rintro s ⟨i,hi,rfl⟩
  unfold qd3
  by_cases h:i<A.length
  ·have hg:(A++B)[i]? = some A[i]:=by rw [List.getElem?_append_left h]; exact i8 h
   refine .inl ⟨((i+1:Nat) : Int),?_,⟨i+1,by omega,rfl⟩,by simp only [Int.toNat_natCast]; omega⟩
   rw [if_pos (by simp; omega),jr hg,r9,r9,if_pos (by simpa using hA _ (List.getElem_mem h)),xv (by omega)]
  ·have hi:i=A.length:=by omega
   subst hi
   refine .inr (.inl ⟨_,?_,rfl⟩)
   by_cases hb:B=[]
   ·subst hb
    rw [if_neg (by simp)]
    rfl
   ·obtain ⟨w,B',rfl⟩:=a2x hb
    have hg:(A++w::B')[A.length]? = some w:=by simp
    have:=hB w (by simp)
    rw [if_pos (by simp; omega),jr hg,r9,r9,if_neg (by simp; omega)]
 ·unfold qf2
  have tail:∀ {C:List Int},C=B→Ev (fun _=>((sl (A++B) 0 (A.length:Int)).bind fun l76=>((yc 8 ([] : List Int) l76).bind fun l83=>((yc 8 l83 [v]).bind fun l98=>((sl (A++B) (A.length:Int) (List.length (A++B))).bind fun l107=>((yc 8 l98 l107).bind fun l114=>(some l114))))))) (A++v::B):=by
   intro C _
   have s1:sl (A++B) 0 (A.length:Int)=some A:=by rw [qgi (by simp)]; simp
   have s2:sl (A++B) (A.length:Int) ((A++B).length:Nat)=some B:=by rw [qqt (by simp)]; simp
   refine r4 s1 (r4 (ww (by omega)) (r4 (a:=A++[v]) (by unfold yc; rw [if_pos (by simp; omega)]) (r4 s2 (r4 (a:=A++v::B) ?_ o6))))
   unfold yc
   rw [if_pos (by simp; omega)]
   simp
  by_cases hb:B=[]
  ·subst hb
   have e0:(if ([] : List Int).head? = some v then A++[] else A++v::[])=A++v::[]:=if_neg (by simp)
   rw [e0]
   refine Ev.bind (a:=false) (r5 (by simp) o6) (r5 rfl (tail rfl))
  ·obtain ⟨w,B',rfl⟩:=a2x hb
   have hg:(A++w::B')[A.length]? = some w:=by simp
   refine Ev.bind (a:=decide (w=v)) (Ev.iteT (by simp; omega) (r4 (jr hg) o6)) ?_
   by_cases e:w=v
   ·subst e
    have e0:(if (w::B').head? = some w then A++w::B' else A++w::w::B')=A++w::B':=if_pos (by simp)
    rw [e0]
    exact Ev.iteT (by simp) o6
   ·have e0:(if (w::B').head? = some v then A++w::B' else A++v::w::B')=A++v::w::B':=if_neg (by simpa using e)
    rw [e0]
    exact r5 (by simpa using e) (tail rfl)
theorem qfr {l:List Int}{n:Int}(h:qff l n) : l.Pairwise (· < ·):=by
 rw [List.pairwise_iff_getElem]
 have key:∀ d i (hi:i<l.length) (hj:i+d+1<l.length),l[i]<l[i+d+1]:=by
  intro d
  induction d with
  | zero =>
   intro i hi hj
   have:=(h (i+1) l[i+1] (i8 hj)).2.2 l[i] (by omega) (by simp)
   simpa using this
  | succ d ih =>
   intro i hi hj
   have h1:=ih i hi (by omega)
   have h2:=(h (i+d+1+1) l[i+d+1+1] (i8 (by omega))).2.2 l[i+d+1] (by omega) (by simp)
   have:l[i+(d+1)+1]=l[i+d+1+1]:=by congr 1
   rw [this]
   omega
 intro i j hi hj hij
 have:=key (j - i - 1) i hi (by omega)
 have e:i+(j - i - 1)+1=j:=by omega
 simpa [e] using this
theorem qbz {l:List Int}{n:Nat}(h:qff l n) : l.length≤n:=by
 have key:∀ i (hi:i<l.length),(i:Int)≤l[i]:=by
  intro i
  induction i with
  | zero=>intro hi; exact (h 0 l[0] (i8 hi)).1
  | succ i ih =>
   intro hi
   have h1:=ih (by omega)
   have h2:=(h (i+1) l[i+1] (i8 hi)).2.2 l[i] (by omega) (by simp)
   omega
 by_cases h0:l.length=0
 ·omega
 ·have h1:=key (l.length - 1) (by omega)
  have h2:=(h (l.length - 1) l[l.length - 1] (i8 (by omega))).2.1
  omega
theorem qw6 {l:List Int}{n:Int} : qff l n↔l.Pairwise (· < ·)∧∀ x∈l,0≤x∧x<n:=by
 constructor
 ·intro h
  refine ⟨qfr h,fun x hx=>?_⟩
  obtain ⟨i,hi⟩:=List.getElem?_of_mem hx
  exact ⟨(h i x hi).1,(h i x hi).2.1⟩
 ·rintro ⟨h1,h2⟩ i x hx
  refine ⟨(h2 x (v8 hx)).1,(h2 x (v8 hx)).2,fun y hp hy=>?_⟩
  rw [List.pairwise_iff_getElem] at h1
  obtain ⟨a,rfl⟩:=i4.1 hx
  obtain ⟨b,rfl⟩:=i4.1 hy
  exact h1 _ _ b a (by omega)
def qf1 (l:List Int)(v:Int) : List Int:=l.filter (fun z=>decide (z<v))++v::l.filter (fun z=>decide (v≤z))
theorem flt {A B:List Int}{v:Int}(hA:∀ z∈A,z<v)(hB:∀ z∈B,v≤z) : (A++B).filter (fun z=>decide (z<v))=A∧(A++B).filter (fun z=>decide (v≤z))=B:=by
 constructor
 ·rw [a3h,a2k.2 (fun z hz=>by simpa using hA z hz),List.filter_eq_nil_iff.2 (fun z hz=>by have:=hB z hz; simp; omega),List.append_nil]
 ·rw [a3h,List.filter_eq_nil_iff.2 (fun z hz=>by have:=hA z hz; simp; omega),a2k.2 (fun z hz=>by simpa using hB z hz),List.nil_append]
theorem zaq {A B:List Int}{v:Int} : qng (A++v::B) (A.length:Int) ((A.length+1:Nat) : Int)=some (A++B):=by
 unfold qng
 rw [if_pos ⟨by omega,by omega,by simp; omega⟩]
 simp
theorem zbf {A B:List Int}{v:Int}(hl:(A++B).length≤1000) : qm5 (A++B) (A.length:Int) [v]=some (A++v::B,[v]):=by
 unfold qm5
 rw [if_pos ⟨by omega,by simp; omega,by simp,by simp at hl ⊢; omega⟩]
 simp
theorem qxy {α:Type}{f:α→Nat}{m:Nat} : ∀ {l:List α},(∀ x∈l,f x≤m)→jf f l≤l.length*m:=by
 intro l
 induction l with
 | nil=>intro _; simp [jf]
 | cons a l ih=>intro h; have:=ih (fun x hx=>h x (by simp [hx])); have:=h a (by simp); simp only [jf,List.length_cons,Nat.succ_mul]; omega
end Go.Proofs.Ytohofoampalhoaa.X
