/- Plain facts on the laws' own walks: sizes, copies, comparisons, marks. -/
import Derived.Test.YtohofoampalhoaaZLib
open Go.Proofs.Ytohofoampalhoaa.X.Ev renaming bind→n8,iteF→r5,iteT→t6,rfl→o6
open Int renaming toNat_natCast→a0v
open Go.IntKind renaming wrap→l4
open List renaming getElem?_eq_getElem→i8,length_cons→a0r,length→f0,replicate→r8,take_add_one→a0w,take_length→a1y,take_of_length_le→a0j,take_succ_cons→f4
open Nat renaming add_assoc→a2g
set_option linter.unusedVariables false
set_option linter.unusedSimpArgs false
namespace Go.Proofs.Ytohofoampalhoaa.X
open Go
variable {α β σ ρ:Type}

theorem Ev.loopk {B:Nat→σ→Option (Oc σ ρ)}{o:Oc σ ρ}{s:σ}(R:σ→Prop)(m:σ→Nat)(hs:R s)
  (step:∀ s,R s→(∃ s',Ev (fun k=>B k s) (.nxt s')∧R s'∧m s'<m s)∨(∃ s',Ev (fun k=>B k s) (.brk s')∧o = .nxt s')∨(∃ r,Ev (fun k=>B k s) (.ret r)∧o = .ret r)) : Ev (fun k=>kw (B k) k s) o:=by
 obtain ⟨o',h,e⟩:=Ev.loopQk (fun x=>o=x) R m hs step
 subst e
 exact h
theorem xv {n:Nat}(h:n<4611686018427387904) : l4 .i64 ((n:Int)+1)=((n+1:Nat) : Int):=by
 rw [qbt (by omega) (by omega)]; rfl
def jf (f:α→Nat) : List α→Nat
 | []=>0
 | x::r=>f x+jf f r
def nnL (f:α→Nat)(l:List α) : Nat:=l.length+jf f l
theorem qyh {f:α→Nat} : ∀ {l:List α} {i:Nat} {x:α},l[i]? = some x→f x≤jf f l:=by
 intro l
 induction l with
 | nil=>intro i x h; simp at h
 | cons a r ih =>
  intro i x h
  cases i with
  | zero=>simp at h; subst h; simp only [jf]; omega
  | succ i=>have:=ih (i:=i) (x:=x) (by simpa using h); simp only [jf]; omega
theorem qh3 {f:α→Nat}{l:List α}{i:Nat}{x:α}(h:l[i]? = some x) : f x≤nnL f l:=by
 have:=qyh (f:=f) h
 unfold nnL; omega
theorem qip {f:α→Nat}{l:List α} : l.length≤nnL f l:=by unfold nnL; omega
def szr (n:Nat)(left:Int) : Int:=if (n:Int)≤left then left - n else -1
theorem qxe {v:Int}(h:0≤v) : szr 0 v=v:=by unfold szr; rw [if_pos (by omega)]; omega
theorem qoo {α:Type}{a:List α}{left:Int}(hl:a.length≤4611686018427387904)(h0:0≤left)(h1:left≤1048576) : (if (decide ((l4 .i64 (left - (f0 a:Int)))<0))=true then (some (-1)) else (some (l4 .i64 (left - (f0 a:Int)))))=some (szr a.length left):=by
 rw [qbt (by omega) (by omega)]
 unfold szr
 by_cases h:(a.length:Int)≤left
 ·rw [if_pos h,if_neg (by simp only [decide_eq_true_eq]; omega)]
 ·rw [if_neg h,if_pos (by simp only [decide_eq_true_eq]; omega)]
theorem qee {F:Nat→Option Int}{G:Nat→Int→Option Int}{n1 n2:Nat}{left:Int}(h0:0≤left)(h1:Ev F (szr n1 left))(h2:∀ v,0≤v→v≤left→Ev (fun k=>G k v) (szr n2 v)) : Ev (fun k=>(F k).bind fun v=>if (decide (v<0))=true then some (-1) else G k v) (szr (n1+n2) left):=by
 refine n8 h1 ?_
 unfold szr
 by_cases h:(n1:Int)≤left
 ·rw [if_pos h]
  refine r5 (by simp only [decide_eq_false_iff_not]; omega) ?_
  have:=h2 (left - n1) (by omega) (by omega)
  unfold szr at this
  by_cases h3:((n1+n2:Nat) : Int)≤left
  ·rw [if_pos h3]
   rw [if_pos (by omega)] at this
   rw [show left - ((n1+n2:Nat) : Int)=left - n1 - n2 by omega]
   exact this
  ·rw [if_neg h3]
   rw [if_neg (by omega)] at this
   exact this
 ·rw [if_neg h,if_neg (by omega)]
  exact t6 (by decide) o6
theorem zba {B:Nat→Int × Int→Option (Oc (Int × Int) Int)}{l:List α}{f:α→Nat}{left:Int}(hl:l.length≤1048576)(h0:0≤left)(h1:left≤1048576)
  (hB:∀ (i:Nat) x (s:Int),l[i]? = some x→0≤s→s≤1048576→Ev (fun k=>B k (s,(i:Int))) (if (f x:Int)≤s then .nxt (s - f x,((i+1:Nat) : Int)) else .ret (-1)))
  (hE:∀ (s:Int),Ev (fun k=>B k (s,(l.length:Int))) (.brk (s,(l.length:Int)))) :
  Ev (fun k=>kw (B k) k (left,0)) (if (jf f l:Int)≤left then .nxt (left - jf f l,(l.length:Int)) else .ret (-1)):=by
 refine Ev.loopk (fun st=>∃ i:Nat,st.2=i∧i≤l.length∧0≤st.1∧st.1≤1048576∧st.1+(jf f l:Int)=left+(jf f (l.drop i) : Int)) (fun st=>l.length - st.2.toNat) ⟨0,by simp; omega⟩ ?_
 rintro ⟨s,i'⟩ ⟨i,rfl,hi,hs0,hs1,hs⟩
 simp only at hs0 hs1 hs ⊢
 by_cases h:i<l.length
 ·have hg:l[i]? = some l[i]:=i8 h
  have hd:jf f (l.drop i)=f l[i]+jf f (l.drop (i+1)):=by rw [List.drop_eq_getElem_cons h]; rfl
  have:=hB i l[i] s hg hs0 hs1
  by_cases hf:(f l[i] : Int)≤s
  ·rw [if_pos hf] at this
   exact .inl ⟨_,this,⟨i+1,rfl,by omega,by simp only; omega,by simp only; omega,by simp only; omega⟩,by simp only [a0v]; omega⟩
  ·rw [if_neg hf] at this
   refine .inr (.inr ⟨_,this,?_⟩)
   rw [if_neg (by omega)]
 ·have:i=l.length:=by omega
  subst this
  refine .inr (.inl ⟨_,hE s,?_⟩)
  rw [List.drop_length] at hs
  simp only [jf] at hs
  rw [if_pos (by omega)]
  congr 2
  omega
theorem q98 {F:Nat→Option (Oc (Int × Int) Int)}{l:List α}{f:α→Nat}{left:Int}(hl:l.length≤4611686018427387904)(h0:0≤left)(h1:left≤1048576)
  (h:l.length≤1048576→0≤left - (l.length:Int)→Ev F (if (jf f l:Int)≤left - (l.length:Int) then .nxt (left - (l.length:Int) - jf f l,(l.length:Int)) else .ret (-1))) :
  Ev (fun k=>if (decide ((l4 .i64 (left - (f0 l:Int)))<0))=true then (some (-1)) else (jn (F k) (fun s=>some s.1))) (szr (nnL f l) left):=by
 rw [qbt (by omega) (by omega)]
 unfold szr nnL
 by_cases hc:(l.length:Int)≤left
 ·refine r5 (by simp only [decide_eq_false_iff_not]; omega) ?_
  have h:=h (by omega) (by omega)
  by_cases h3:((l.length+jf f l:Nat) : Int)≤left
  ·rw [if_pos h3]
   rw [if_pos (by omega)] at h
   refine Ev.jn h ?_
   rw [show left - ((l.length+jf f l:Nat) : Int)=left - (l.length:Int) - jf f l by omega]
   exact o6
  ·rw [if_neg h3]
   rw [if_neg (by omega)] at h
   exact Ev.jn_ret h
 ·rw [if_neg (by omega)]
  exact t6 (by simp only [decide_eq_true_eq]; omega) o6

theorem qm9 {B:Nat→Int × List α→Option (Oc (Int × List α) ρ)}{l:List α}{z:α}(hl:l.length≤1048576)
  (hB:∀ (i:Nat) s x y,l[i]? = some x→s[i]? = some y→Ev (fun k=>B k ((i:Int),s)) (.nxt (((i+1:Nat) : Int),s.set i x)))
  (hE:∀ s,Ev (fun k=>B k ((l.length:Int),s)) (.brk ((l.length:Int),s))) : Ev (fun k=>kw (B k) k (0,r8 l.length z)) (.nxt ((l.length:Int),l)):=by
 refine Ev.loopk (fun st=>∃ i:Nat,st.1=i∧i≤l.length∧st.2.length=l.length∧st.2.take i=l.take i) (fun st=>l.length - st.1.toNat) ⟨0,by simp⟩ ?_
 rintro ⟨i',s⟩ ⟨i,rfl,hi,hs,ht⟩
 simp only at hs ht hi ⊢
 by_cases h:i<l.length
 ·have hi':i<s.length:=by omega
  refine .inl ⟨_,hB i s l[i] s[i] (by simp [h]) (by simp [hi']),⟨i+1,rfl,by omega,by simp [hs],?_⟩,?_⟩
  ·rw [a0w,a0w]
   simp [List.take_set_of_le,ht,h,hs]
  ·simp only [a0v]; omega
 ·have:i=l.length:=by omega
  subst this
  refine .inr (.inl ⟨_,hE s,?_⟩)
  have:s=l:=by rw [a1y,← hs,a1y] at ht; exact ht
  rw [this]
theorem qjw {b:Nat}{n:Nat}{z:α}(h:n*b≤140737488355328) : mkN b (n:Int) z=some (r8 n z):=by
 unfold mkN
 rw [if_pos ⟨by omega,by rw [←Int.natCast_mul]; exact Int.ofNat_le.2 h⟩,a0v]

theorem qnj [DecidableEq α]{B:Nat→Int→Option (Oc Int Bool)}{a b:List α}(hl:a.length≤1048576)(hab:a.length=b.length)
  (hB:∀ (i:Nat) x y,a[i]? = some x→b[i]? = some y→Ev (fun k=>B k (i:Int)) (if x=y then .nxt ((i+1:Nat) : Int) else .ret false))
  (hE:Ev (fun k=>B k (a.length:Int)) (.brk (a.length:Int))) : Ev (fun k=>kw (B k) k 0) (if a=b then .nxt (a.length:Int) else .ret false):=by
 refine Ev.loopk (fun st=>∃ i:Nat,st=i∧i≤a.length∧a.take i=b.take i) (fun st=>a.length - st.toNat) ⟨0,by simp⟩ ?_
 rintro st ⟨i,rfl,hi,ht⟩
 by_cases h:i<a.length
 ·have hb:i<b.length:=by omega
  have:=hB i a[i] b[i] (by simp [h]) (by simp [hb])
  by_cases e:a[i]=b[i]
  ·rw [if_pos e] at this
   refine .inl ⟨_,this,⟨i+1,rfl,by omega,?_⟩,by simp only [a0v]; omega⟩
   rw [a0w,a0w,ht]
   simp [h,hb,e]
  ·rw [if_neg e] at this
   refine .inr (.inr ⟨_,this,?_⟩)
   rw [if_neg (fun hh=>e (by subst hh; rfl))]
 ·have:i=a.length:=by omega
  subst this
  refine .inr (.inl ⟨_,hE,?_⟩)
  rw [if_pos]
  rwa [a1y,hab,a1y] at ht
theorem qop [DecidableEq α]{F:Nat→Option (Oc Int Bool)}{a b:List α}(h:a.length=b.length→Ev F (if a=b then .nxt (a.length:Int) else .ret false)) :
  Ev (fun k=>if (decide ((f0 a:Int)≠(f0 b:Int)))=true then (some false) else (jn (F k) (fun s=>some true))) (decide (a=b)):=by
 by_cases hab:a.length=b.length
 ·refine r5 (by simp [hab]) ?_
  have h:=h hab
  by_cases e:a=b
  ·rw [if_pos e] at h
   rw [decide_eq_true e]
   exact Ev.jn h o6
  ·rw [if_neg e] at h
   rw [decide_eq_false e]
   exact Ev.jn_ret h
 ·refine t6 (by simp only [ne_eq,decide_eq_true_eq]; omega) ?_
  rw [decide_eq_false (fun e=>hab (by rw [e]))]
  exact o6
theorem qih {a b:Int}{G:Nat→Option Bool}{p:Prop}[Decidable p](h:Ev G (decide p)) : Ev (fun k=>if (decide (a≠b))=true then some false else G k) (decide (a=b∧p)):=by
 by_cases e:a=b
 ·refine r5 (by simp [e]) ?_
  rwa [show decide (a=b∧p)=decide p by simp [e]]
 ·refine t6 (by simp [e]) ?_
  rw [show decide (a=b∧p)=false by simp [e]]
  exact o6
theorem qfb {q p:Prop}[Decidable q][Decidable p]{F G:Nat→Option Bool}(h1:Ev F (decide q))(h:Ev G (decide p)) : Ev (fun k=>(F k).bind fun v=>if (!v)=true then some false else G k) (decide (q∧p)):=by
 refine n8 h1 ?_
 by_cases e:q
 ·refine r5 (by simp [e]) ?_
  rwa [show decide (q∧p)=decide p by simp [e]]
 ·refine t6 (by simp [e]) ?_
  rw [show decide (q∧p)=false by simp [e]]
  exact o6
theorem ql5:Ev (fun _=>some true) (decide True):=o6
theorem qko {F:Nat→Option Bool}{p q:Prop}[Decidable p][Decidable q](h:Ev F (decide p))(e:p↔q) : Ev F (decide q):=by
 rwa [show decide q=decide p by simp [e]]
def xx (M:α→Nat→α)(c:α→Nat) : List α→Nat→List α
 | [],_=>[]
 | x::r,n=>M x n::xx M c r (n+c x)
theorem qbe {M:α→Nat→α}{c:α→Nat} : ∀ {l:List α} {n:Nat},(xx M c l n).length=l.length:=by
 intro l
 induction l with
 | nil=>intro n; rfl
 | cons x r ih=>intro n; simp [xx,ih]
theorem qix {M:α→Nat→α}{c:α→Nat} : ∀ {l:List α} {n i:Nat} {x:α},l[i]? = some x→(xx M c l n)[i]? = some (M x (n+jf c (l.take i))):=by
 intro l
 induction l with
 | nil=>intro n i x h; simp at h
 | cons a r ih =>
  intro n i x h
  cases i with
  | zero=>simp at h; subst h; simp [xx,jf]
  | succ i =>
   simp only [xx,List.getElem?_cons_succ,f4,jf]
   rw [ih (by simpa using h),a2g]
theorem qha {c:α→Nat} : ∀ {l:List α} {i:Nat} {x:α},l[i]? = some x→jf c (l.take (i+1))=jf c (l.take i)+c x:=by
 intro l
 induction l with
 | nil=>intro i x h; simp at h
 | cons a r ih =>
  intro i x h
  cases i with
  | zero=>simp at h; subst h; simp [jf]
  | succ i =>
   simp only [f4,jf]
   rw [ih (by simpa using h)]
   omega
theorem qj1 {c:α→Nat} : ∀ {l:List α} {i:Nat},jf c (l.take i)≤jf c l:=by
 intro l
 induction l with
 | nil=>intro i; simp [jf]
 | cons a r ih =>
  intro i
  cases i with
  | zero=>simp [jf]
  | succ i=>simp only [f4,jf]; have:=ih (i:=i); omega
theorem q8n {c f:α→Nat}{m:Nat}(h:∀ x,c x≤m*(1+f x)) : ∀ {l:List α},jf c l≤m*nnL f l:=by
 intro l
 induction l with
 | nil=>simp [jf]
 | cons a r ih =>
  have:=h a
  unfold nnL at ih ⊢
  simp only [jf,a0r]
  rw [show r.length+1+(f a+jf f r)=(1+f a)+(r.length+jf f r) by omega,Nat.mul_add]
  omega
theorem x6 {c:Nat}{l:List α} : jf (fun _=>c) l=c*l.length:=by
 induction l with
 | nil=>rfl
 | cons a r ih=>simp only [jf,ih,a0r]; rw [Nat.mul_add]; omega
theorem qj5 {B:Nat→Int × Int × List α→Option (Oc (Int × Int × List α) ρ)}{l:List α}{c:α→Nat}{M:α→Nat→α}{n0:Nat}(hl:l.length≤1048576)(hn:n0+jf c l<4611686018427387904)
  (hB:∀ (n i:Nat) s x,n+c x<4611686018427387904→i<l.length→l[i]? = some x→s[i]? = some x→s.length=l.length→Ev (fun k=>B k ((n:Int),(i:Int),s)) (.nxt (((n+c x:Nat) : Int),((i+1:Nat) : Int),s.set i (M x n))))
  (hE:∀ (n:Nat) s,s.length=l.length→Ev (fun k=>B k ((n:Int),(l.length:Int),s)) (.brk ((n:Int),(l.length:Int),s))) :
  Ev (fun k=>kw (B k) k ((n0:Int),0,l)) (.nxt (((n0+jf c l:Nat) : Int),(l.length:Int),xx M c l n0)):=by
 refine Ev.loopk (fun st=>∃ i:Nat,st.1=((n0+jf c (l.take i) : Nat) : Int)∧st.2.1=i∧i≤l.length∧st.2.2.length=l.length∧st.2.2.take i=(xx M c l n0).take i∧st.2.2.drop i=l.drop i) (fun st=>l.length - st.2.1.toNat) ⟨0,by simp [jf]⟩ ?_
 rintro ⟨n',i',s⟩ ⟨i,e1,e2,hi,hs,ht,hd⟩
 simp only at hs ht hi hd e1 e2 ⊢
 subst e1 e2
 by_cases h:i<l.length
 ·have hi':i<s.length:=by omega
  have hg:l[i]? = some l[i]:=i8 h
  have hsg:s[i]? = some l[i]:=by
   have:(s.drop i)[0]? = (l.drop i)[0]? := by rw [hd]
   simpa [h,hi'] using this
  have hle:=qj1 (c:=c) (l:=l) (i:=i+1)
  rw [qha hg] at hle
  refine .inl ⟨_,hB _ i s l[i] (by omega) h hg hsg hs,⟨i+1,?_,rfl,by omega,by simp [hs],?_,?_⟩,?_⟩
  ·rw [qha hg,a2g]
  ·rw [a0w,a0w,qix hg]
   simp [List.take_set_of_le,ht,hi']
  ·simp only
   rw [List.drop_set_of_lt (by omega)]
   have:=congrArg (List.drop 1) hd
   simpa [List.drop_drop] using this
  ·simp only [a0v]
   omega
 ·have:i=l.length:=by omega
  subst this
  refine .inr (.inl ⟨_,hE _ s hs,?_⟩)
  have:s=xx M c l n0:=by
   rw [a0j (by omega),a0j (by rw [qbe]; exact Nat.le_refl _)] at ht
   exact ht
  rw [this,a1y]
theorem qj4 {B:Nat→Int × Int→Option (Oc (Int × Int) ρ)}{l:List α}{c:α→Nat}{n0:Nat}(hl:l.length≤1048576)(hn:n0+jf c l<4611686018427387904)
  (hB:∀ (i:Nat) x,l[i]? = some x→n0+jf c (l.take i)+c x<4611686018427387904→Ev (fun k=>B k (((n0+jf c (l.take i) : Nat) : Int),(i:Int))) (.nxt (((n0+jf c (l.take i)+c x:Nat) : Int),((i+1:Nat) : Int))))
  (hE:∀ (n:Nat),Ev (fun k=>B k ((n:Int),(l.length:Int))) (.brk ((n:Int),(l.length:Int)))) :
  Ev (fun k=>kw (B k) k ((n0:Int),0)) (.nxt (((n0+jf c l:Nat) : Int),(l.length:Int))):=by
 refine Ev.loopk (fun st=>∃ i:Nat,st=(((n0+jf c (l.take i) : Nat) : Int),(i:Int))∧i≤l.length) (fun st=>l.length - st.2.toNat) ⟨0,by simp [jf],by omega⟩ ?_
 rintro st ⟨i,rfl,hi⟩
 by_cases h:i<l.length
 ·have hg:l[i]? = some l[i]:=i8 h
  have hle:=qj1 (c:=c) (l:=l) (i:=i+1)
  rw [qha hg] at hle
  refine .inl ⟨_,hB i l[i] hg (by omega),⟨i+1,?_,by omega⟩,?_⟩
  ·rw [qha hg,a2g]
  ·simp only [a0v]
   omega
 ·have:i=l.length:=by omega
  subst this
  refine .inr (.inl ⟨_,hE _,?_⟩)
  rw [a1y]
theorem q8u {F:Nat→Option Int}{G:Nat→Int→Option Bool}{n:Nat}{left:Int}(h:Ev F (szr n left))(hG:(n:Int)≤left→0≤left - n→Ev (fun k=>G k (left - n)) true)(h0:0≤left) : Ev (fun k=>(F k).bind fun v=>if (decide (v<0))=true then (some true) else G k v) true:=by
 refine n8 h ?_
 unfold szr
 by_cases hc:(n:Int)≤left
 ·rw [if_pos hc]
  exact r5 (by simp only [decide_eq_false_iff_not]; omega) (hG hc (by omega))
 ·rw [if_neg hc]
  exact t6 (by decide) o6
end Go.Proofs.Ytohofoampalhoaa.X
