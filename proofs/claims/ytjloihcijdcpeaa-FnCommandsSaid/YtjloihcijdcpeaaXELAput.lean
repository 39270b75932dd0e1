/- Rows that rise: a number put in; what is asked on both sides. -/
import Derived.Test.YtjloihcijdcpeaaXELAmem
import Derived.Test.YtjloihcijdcpeaaXELAhas
import Derived.Test.YtjloihcijdcpeaaXELAbs
open Bool renaming and_eq_false_iff→a1m,not_eq_true'→a1b
open Classical renaming byContradiction→r7
open List renaming getElem?_eq_getElem→f7,getElem?_eq_some_iff→d9,mem_of_getElem?→i8
set_option linter.unusedVariables false
set_option linter.unusedSimpArgs false
namespace Go.Proofs.Ytjloihcijdcpeaa.X
open Go

theorem qnq {n a b:Int} : (!(zu n a b))=true↔¬ (a≤n∧n≤b):=by
 simp only [zu,a1b,a1m,decide_eq_false_iff_not]; omega
theorem qeb {n a b:Int} : (!(z0 n a b))=true↔¬ (a≤n∧n≤b):=by
 simp only [z0,a1b,a1m,decide_eq_false_iff_not]; omega
theorem dn {b:Bool}{P:Prop}(h:b=true↔¬ P)(hb:b=false) : P:=r7 fun hn=>by rw [h.2 hn] at hb; cases hb
theorem bF {b:Bool}{P:Prop}(h:b=true↔P)(hn:¬ P) : b=false:=by
 cases b
 ·rfl
 ·exact absurd (h.1 rfl) hn
theorem qnr {n a b:Int} : zu n a b=true↔(a≤n∧n≤b):=by simp [zu]
theorem qb6 {α:Type}{b:Nat}{l:List α}(h:l.length*b≤70368744177664) : kg b ([] : List α) l=some l:=by
 unfold kg
 rw [if_pos (by simpa using h)]
 simp
theorem qv7 {l:List Int}{n:Int}(h:qak l n) : l.Pairwise (· < ·):=by
 rw [List.pairwise_iff_getElem]
 have key:∀ d i (hi:i<l.length) (hj:i+d+1<l.length),l[i]<l[i+d+1]:=by
  intro d
  induction d with
  | zero =>
   intro i hi hj
   have:=(h (i+1) l[i+1] (f7 hj)).2.2 l[i] (by omega) (by simp)
   simpa using this
  | succ d ih =>
   intro i hi hj
   have h1:=ih i hi (by omega)
   have h2:=(h (i+d+1+1) l[i+d+1+1] (f7 (by omega))).2.2 l[i+d+1] (by omega) (by simp)
   have:l[i+(d+1)+1]=l[i+d+1+1]:=by congr 1
   rw [this]
   omega
 intro i j hi hj hij
 have:=key (j - i - 1) i hi (by omega)
 have e:i+(j - i - 1)+1=j:=by omega
 simpa [e] using this
theorem wg {l:List Int}{n:Nat}(h:qak l n) : l.length≤n:=by
 have key:∀ i (hi:i<l.length),(i:Int)≤l[i]:=by
  intro i
  induction i with
  | zero=>intro hi; exact (h 0 l[0] (f7 hi)).1
  | succ i ih =>
   intro hi
   have h1:=ih (by omega)
   have h2:=(h (i+1) l[i+1] (f7 hi)).2.2 l[i] (by omega) (by simp)
   omega
 by_cases h0:l.length=0
 ·omega
 ·have h1:=key (l.length - 1) (by omega)
  have h2:=(h (l.length - 1) l[l.length - 1] (f7 (by omega))).2.1
  omega
theorem uu {l:List Int}{n:Int} : qak l n↔l.Pairwise (· < ·)∧∀ x∈l,0≤x∧x<n:=by
 constructor
 ·intro h
  refine ⟨qv7 h,fun x hx=>?_⟩
  obtain ⟨i,hi⟩:=List.getElem?_of_mem hx
  exact ⟨(h i x hi).1,(h i x hi).2.1⟩
 ·rintro ⟨h1,h2⟩ i x hx
  refine ⟨(h2 x (i8 hx)).1,(h2 x (i8 hx)).2,fun y hp hy=>?_⟩
  rw [List.pairwise_iff_getElem] at h1
  obtain ⟨a,rfl⟩:=d9.1 hx
  obtain ⟨b,rfl⟩:=d9.1 hy
  exact h1 _ _ b a (by omega)
theorem ql4 {α:Type}{F:Nat→Option α}{G:Nat→α→Option (Oc Unit Bool)}{a:α}{Q:Prop}(h:Ev F a)(h1:∃ b:Bool,Ev (fun k=>G k a) (if b=true then .ret false else .nxt ())∧(b=true↔¬ Q)) : ∃ b:Bool,Ev (fun k=>(F k).bind (G k)) (if b=true then .ret false else .nxt ())∧(b=true↔¬ Q):=by
 obtain ⟨b,e,hb⟩:=h1
 exact ⟨b,Ev.bind h e,hb⟩
theorem qnd {F:Nat→Option Bool}{G:Nat→Bool→Option (Oc Unit Bool)}{P Q:Prop}(h:Is F P)(h1:∀ b:Bool,(b=true↔P)→∃ c:Bool,Ev (fun k=>G k b) (if c=true then .ret false else .nxt ())∧(c=true↔¬ Q)) : ∃ b:Bool,Ev (fun k=>(F k).bind (G k)) (if b=true then .ret false else .nxt ())∧(b=true↔¬ Q):=by
 obtain ⟨b,e,hb⟩:=h
 obtain ⟨c,e2,hc⟩:=h1 b hb
 exact ⟨c,Ev.bind e e2,hc⟩
theorem zc3 {F G:Nat→Option (Oc Unit Bool)}{b:Bool}{Q:Prop}(h1:b=true→∃ c:Bool,Ev F (if c=true then .ret false else .nxt ())∧(c=true↔¬ Q))(h2:b=false→∃ c:Bool,Ev G (if c=true then .ret false else .nxt ())∧(c=true↔¬ Q)) : ∃ c:Bool,Ev (fun k=>if b=true then F k else G k) (if c=true then .ret false else .nxt ())∧(c=true↔¬ Q):=by
 cases b with
 | true=>exact h1 rfl
 | false=>exact h2 rfl
theorem zcp {F:Nat→Option (Oc Unit Bool)}{P Q:Prop}(h:∃ c:Bool,Ev F (if c=true then .ret false else .nxt ())∧(c=true↔¬ P))(e:P↔Q) : ∃ c:Bool,Ev F (if c=true then .ret false else .nxt ())∧(c=true↔¬ Q):=by
 obtain ⟨c,a,b⟩:=h
 exact ⟨c,a,b.trans (not_congr e)⟩
theorem qio {α:Type}{f:α→Nat}{m:Nat} : ∀ {l:List α},(∀ x∈l,f x≤m)→qdw f l≤l.length*m:=by
 intro l
 induction l with
 | nil=>intro _; simp [qdw]
 | cons a l ih=>intro h; have:=ih (fun x hx=>h x (by simp [hx])); have:=h a (by simp); simp only [qdw,List.length_cons,Nat.succ_mul]; omega
end Go.Proofs.Ytjloihcijdcpeaa.X
