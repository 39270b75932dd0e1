/- Rows that rise: a number put in; what is asked on both sides. -/
import Derived.Test.YtpddolihbnfahaaXCLAmem
import Derived.Test.YtpddolihbnfahaaXCLAhas
import Derived.Test.YtpddolihbnfahaaXCLAbs
set_option linter.unusedVariables false
set_option linter.unusedSimpArgs false
namespace Go.Proofs.Ytpddolihbnfahaa.X
open Go

theorem qh8 {n a b:Int} : (!(jd n a b))=true↔¬ (a≤n∧n≤b):=by
 simp only [jd,Bool.not_eq_true',Bool.and_eq_false_iff,decide_eq_false_iff_not]; omega
theorem qf3 {n a b:Int} : (!(zt n a b))=true↔¬ (a≤n∧n≤b):=by
 simp only [zt,Bool.not_eq_true',Bool.and_eq_false_iff,decide_eq_false_iff_not]; omega
theorem dn {b:Bool}{P:Prop}(h:b=true↔¬ P)(hb:b=false) : P:=Classical.byContradiction fun hn=>by rw [h.2 hn] at hb; cases hb
theorem bF {b:Bool}{P:Prop}(h:b=true↔P)(hn:¬ P) : b=false:=by
 cases b
 ·rfl
 ·exact absurd (h.1 rfl) hn
theorem q9e {n a b:Int} : jd n a b=true↔(a≤n∧n≤b):=by simp [jd]
theorem qch {α:Type}{b:Nat}{l:List α}(h:l.length*b≤70368744177664) : kd b ([] : List α) l=some l:=by
 unfold kd
 rw [if_pos (by simpa using h)]
 simp
def qdy (n:Nat) : List Int:=(List.range n).map fun (i:Nat)=>(i:Int)
theorem qkx {n:Nat} : (qdy n).length=n:=by simp [qdy]
theorem qtq {n:Nat} : qdy (n+1)=qdy n++[(n:Int)]:=by simp [qdy,List.range_succ]
theorem qyv {n:Nat}{z:Int}(h:z∈qdy n) : 0≤z∧z<n:=by
 simp only [qdy,List.mem_map,List.mem_range] at h
 obtain ⟨i,h1,rfl⟩:=h
 omega
theorem q94 {A B:List Int}{v:Int}(hl:(A++B).length≤1000)(hA:∀ z∈A,z<v)(hB:∀ z∈B,v≤z) : Ev (fun k=>qd9 k (A++B) v) (if B.head? = some v then A++B else A++v::B):=by
 unfold qd9
 have hlA:A.length+B.length≤1000:=by simpa using hl
 refine Ev.jn (s:=(A.length:Int)) (Ev.loop (fun s=>∃ i:Nat,i≤A.length∧s=(i:Int)) (fun s=>A.length - s.toNat) ⟨0,by omega,rfl⟩ ?_) ?_
 ·rintro s ⟨i,hi,rfl⟩
  unfold qeu
  by_cases h:i<A.length
  ·have hg:(A++B)[i]? = some A[i]:=by rw [List.getElem?_append_left h]; exact List.getElem?_eq_getElem h
   refine .inl ⟨((i+1:Nat) : Int),?_,⟨i+1,by omega,rfl⟩,by simp only [Int.toNat_natCast]; omega⟩
   rw [if_pos (by simp; omega),wk hg,Option.bind_some,Option.bind_some,if_pos (by simpa using hA _ (List.getElem_mem h)),qqr (by omega)]
  ·have hi:i=A.length:=by omega
   subst hi
   refine .inr (.inl ⟨_,?_,rfl⟩)
   by_cases hb:B=[]
   ·subst hb
    rw [if_neg (by simp)]
    rfl
   ·obtain ⟨w,B',rfl⟩:=List.exists_cons_of_ne_nil hb
    have hg:(A++w::B')[A.length]? = some w:=by simp
    have:=hB w (by simp)
    rw [if_pos (by simp; omega),wk hg,Option.bind_some,Option.bind_some,if_neg (by simp; omega)]
 ·unfold qgv
  have tail:∀ {C:List Int},C=B→Ev (fun _=>((sl (A++B) 0 (A.length:Int)).bind fun l76=>((kd 8 ([] : List Int) l76).bind fun l83=>((kd 8 l83 [v]).bind fun l98=>((sl (A++B) (A.length:Int) (List.length (A++B))).bind fun l107=>((kd 8 l98 l107).bind fun l114=>(some l114))))))) (A++v::B):=by
   intro C _
   have s1:sl (A++B) 0 (A.length:Int)=some A:=by rw [qj3 (by simp)]; simp
   have s2:sl (A++B) (A.length:Int) ((A++B).length:Nat)=some B:=by rw [qpt (by simp)]; simp
   refine Ev.bindp s1 (Ev.bindp (qch (by omega)) (Ev.bindp (a:=A++[v]) (by unfold kd; rw [if_pos (by simp; omega)]) (Ev.bindp s2 (Ev.bindp (a:=A++v::B) ?_ Ev.rfl))))
   unfold kd
   rw [if_pos (by simp; omega)]
   simp
  by_cases hb:B=[]
  ·subst hb
   have e0:(if ([] : List Int).head? = some v then A++[] else A++v::[])=A++v::[]:=if_neg (by simp)
   rw [e0]
   refine Ev.bind (a:=false) (Ev.iteF (by simp) Ev.rfl) (Ev.iteF rfl (tail rfl))
  ·obtain ⟨w,B',rfl⟩:=List.exists_cons_of_ne_nil hb
   have hg:(A++w::B')[A.length]? = some w:=by simp
   refine Ev.bind (a:=decide (w=v)) (Ev.iteT (by simp; omega) (Ev.bindp (wk hg) Ev.rfl)) ?_
   by_cases e:w=v
   ·subst e
    have e0:(if (w::B').head? = some w then A++w::B' else A++w::w::B')=A++w::B':=if_pos (by simp)
    rw [e0]
    exact Ev.iteT (by simp) Ev.rfl
   ·have e0:(if (w::B').head? = some v then A++w::B' else A++v::w::B')=A++v::w::B':=if_neg (by simpa using e)
    rw [e0]
    exact Ev.iteF (by simpa using e) (tail rfl)
theorem qjl {l:List Int}{n:Int}(h:qck l n) : l.Pairwise (· < ·):=by
 rw [List.pairwise_iff_getElem]
 have key:∀ d i (hi:i<l.length) (hj:i+d+1<l.length),l[i]<l[i+d+1]:=by
  intro d
  induction d with
  | zero =>
   intro i hi hj
   have:=(h (i+1) l[i+1] (List.getElem?_eq_getElem hj)).2.2 l[i] (by omega) (by simp)
   simpa using this
  | succ d ih =>
   intro i hi hj
   have h1:=ih i hi (by omega)
   have h2:=(h (i+d+1+1) l[i+d+1+1] (List.getElem?_eq_getElem (by omega))).2.2 l[i+d+1] (by omega) (by simp)
   have:l[i+(d+1)+1]=l[i+d+1+1]:=by congr 1
   rw [this]
   omega
 intro i j hi hj hij
 have:=key (j - i - 1) i hi (by omega)
 have e:i+(j - i - 1)+1=j:=by omega
 simpa [e] using this
theorem qgd {l:List Int}{n:Nat}(h:qck l n) : l.length≤n:=by
 have key:∀ i (hi:i<l.length),(i:Int)≤l[i]:=by
  intro i
  induction i with
  | zero=>intro hi; exact (h 0 l[0] (List.getElem?_eq_getElem hi)).1
  | succ i ih =>
   intro hi
   have h1:=ih (by omega)
   have h2:=(h (i+1) l[i+1] (List.getElem?_eq_getElem hi)).2.2 l[i] (by omega) (by simp)
   omega
 by_cases h0:l.length=0
 ·omega
 ·have h1:=key (l.length - 1) (by omega)
  have h2:=(h (l.length - 1) l[l.length - 1] (List.getElem?_eq_getElem (by omega))).2.1
  omega
theorem qbf {l:List Int}{n:Int} : qck l n↔l.Pairwise (· < ·)∧∀ x∈l,0≤x∧x<n:=by
 constructor
 ·intro h
  refine ⟨qjl h,fun x hx=>?_⟩
  obtain ⟨i,hi⟩:=List.getElem?_of_mem hx
  exact ⟨(h i x hi).1,(h i x hi).2.1⟩
 ·rintro ⟨h1,h2⟩ i x hx
  refine ⟨(h2 x (List.mem_of_getElem? hx)).1,(h2 x (List.mem_of_getElem? hx)).2,fun y hp hy=>?_⟩
  rw [List.pairwise_iff_getElem] at h1
  obtain ⟨a,rfl⟩:=List.getElem?_eq_some_iff.1 hx
  obtain ⟨b,rfl⟩:=List.getElem?_eq_some_iff.1 hy
  exact h1 _ _ b a (by omega)
def qh5 (l:List Int)(v:Int) : List Int:=l.filter (fun z=>decide (z<v))++v::l.filter (fun z=>decide (v≤z))
theorem flt {A B:List Int}{v:Int}(hA:∀ z∈A,z<v)(hB:∀ z∈B,v≤z) : (A++B).filter (fun z=>decide (z<v))=A∧(A++B).filter (fun z=>decide (v≤z))=B:=by
 constructor
 ·rw [List.filter_append,List.filter_eq_self.2 (fun z hz=>by simpa using hA z hz),List.filter_eq_nil_iff.2 (fun z hz=>by have:=hB z hz; simp; omega),List.append_nil]
 ·rw [List.filter_append,List.filter_eq_nil_iff.2 (fun z hz=>by have:=hA z hz; simp; omega),List.filter_eq_self.2 (fun z hz=>by simpa using hB z hz),List.nil_append]
theorem qnr {l:List Int}{v z:Int} : z∈qh5 l v↔z=v∨z∈l:=by
 unfold qh5
 simp only [List.mem_append,List.mem_filter,List.mem_cons,decide_eq_true_eq]
 constructor
 ·rintro (⟨h,_⟩ | h | ⟨h,_⟩)
  ·exact .inr h
  ·exact .inl h
  ·exact .inr h
 ·rintro (h | h)
  ·exact .inr (.inl h)
  ·by_cases hz:z<v
   ·exact .inl ⟨h,hz⟩
   ·exact .inr (.inr ⟨h,by omega⟩)
theorem qvo {l:List Int}{v:Int}(h:l.Pairwise (· < ·))(hv:¬ v∈l) : (qh5 l v).Pairwise (· < ·):=by
 unfold qh5
 rw [List.pairwise_append]
 refine ⟨h.sublist List.filter_sublist,?_,?_⟩
 ·rw [List.pairwise_cons]
  refine ⟨fun z hz=>?_,h.sublist List.filter_sublist⟩
  rw [List.mem_filter] at hz
  have h1:v≤z:=by simpa using hz.2
  have:z≠v:=fun e=>hv (e▸hz.1)
  omega
 ·intro a ha b hb
  rw [List.mem_filter] at ha
  have h1:a<v:=by simpa using ha.2
  rcases List.mem_cons.1 hb with rfl | hb
  ·exact h1
  ·rw [List.mem_filter] at hb
   have h2:v≤b:=by simpa using hb.2
   omega
theorem q80 {A B:List Int}{v:Int}(hl:(A++B).length≤1000) : qly (A++B) (A.length:Int) [v]=some (A++v::B,[v]):=by
 unfold qly
 rw [if_pos ⟨by omega,by simp; omega,by simp,by simp at hl ⊢; omega⟩]
 simp
theorem qnc {F G:Nat→Option (Oc Unit Bool)}{c:Bool}{P Q:Prop}(hc:c=true↔¬ P)(h:P→∃ b:Bool,Ev G (if b=true then .ret false else .nxt ())∧(b=true↔¬ Q)) : ∃ b:Bool,Ev (fun k=>if c=true then (some (.ret false) : Option (Oc Unit Bool)) else G k) (if b=true then .ret false else .nxt ())∧(b=true↔¬ (P∧Q)):=by
 cases hcc:c with
 | true=>exact ⟨true,Ev.iteT rfl Ev.rfl,by simp only [true_iff]; exact fun hp=>hc.1 hcc hp.1⟩
 | false =>
  have hp:=dn hc hcc
  obtain ⟨b,e,hb⟩:=h hp
  exact ⟨b,Ev.iteF rfl e,hb.trans (not_congr ⟨fun q=>⟨hp,q⟩,fun q=>q.2⟩)⟩
theorem zdi:∃ b:Bool,Ev (fun _=>(some (.nxt ()) : Option (Oc Unit Bool))) (if b=true then .ret false else .nxt ())∧(b=true↔¬ True):=⟨false,Ev.rfl,by simp⟩
theorem zaw {α:Type}{F:Nat→Option α}{G:Nat→α→Option (Oc Unit Bool)}{a:α}{Q:Prop}(h:Ev F a)(h1:∃ b:Bool,Ev (fun k=>G k a) (if b=true then .ret false else .nxt ())∧(b=true↔¬ Q)) : ∃ b:Bool,Ev (fun k=>(F k).bind (G k)) (if b=true then .ret false else .nxt ())∧(b=true↔¬ Q):=by
 obtain ⟨b,e,hb⟩:=h1
 exact ⟨b,Ev.bind h e,hb⟩
theorem q9u {F:Nat→Option Bool}{G:Nat→Bool→Option (Oc Unit Bool)}{P Q:Prop}(h:Is F P)(h1:∀ b:Bool,(b=true↔P)→∃ c:Bool,Ev (fun k=>G k b) (if c=true then .ret false else .nxt ())∧(c=true↔¬ Q)) : ∃ b:Bool,Ev (fun k=>(F k).bind (G k)) (if b=true then .ret false else .nxt ())∧(b=true↔¬ Q):=by
 obtain ⟨b,e,hb⟩:=h
 obtain ⟨c,e2,hc⟩:=h1 b hb
 exact ⟨c,Ev.bind e e2,hc⟩
theorem zcw {F:Nat→Option (Oc Unit Bool)}{P Q:Prop}(h:∃ c:Bool,Ev F (if c=true then .ret false else .nxt ())∧(c=true↔¬ P))(e:P↔Q) : ∃ c:Bool,Ev F (if c=true then .ret false else .nxt ())∧(c=true↔¬ Q):=by
 obtain ⟨c,a,b⟩:=h
 exact ⟨c,a,b.trans (not_congr e)⟩
theorem qkw {α:Type}{f:α→Nat}{m:Nat} : ∀ {l:List α},(∀ x∈l,f x≤m)→qcq f l≤l.length*m:=by
 intro l
 induction l with
 | nil=>intro _; simp [qcq]
 | cons a l ih=>intro h; have:=ih (fun x hx=>h x (by simp [hx])); have:=h a (by simp); simp only [qcq,List.length_cons,Nat.succ_mul]; omega
end Go.Proofs.Ytpddolihbnfahaa.X
