/- Plain facts on the laws' own walks: sizes, copies, comparisons, marks. -/
import Derived.Test.YtanblnjomhgphaaZLib
open Go.Proofs.Ytanblnjomhgphaa.X.Ev renaming iteF→t3,iteT→a0e,rfl→a0b
open Int renaming toNat_natCast→a0w
open Go.IntKind renaming wrap→l9
open List renaming getElem?_eq_getElem→o9,length_cons→a0k,length→o6,replicate→a0l,take_add_one→a2t,take_length→a2j,take_of_length_le→a2f,take_succ_cons→r8
open Nat renaming add_assoc→a3z
set_option linter.unusedVariables false
set_option linter.unusedSimpArgs false
namespace Go.Proofs.Ytanblnjomhgphaa.X
open Go
variable {α β σ ρ:Type}

theorem Ev.loopk {B:Nat→σ→Option (Oc σ ρ)}{o:Oc σ ρ}{s:σ}(R:σ→Prop)(m:σ→Nat)(hs:R s)
  (step:∀ s,R s→(∃ s',Ev (fun k=>B k s) (.nxt s')∧R s'∧m s'<m s)∨(∃ s',Ev (fun k=>B k s) (.brk s')∧o = .nxt s')∨(∃ r,Ev (fun k=>B k s) (.ret r)∧o = .ret r)) : Ev (fun k=>kr (B k) k s) o:=by
 obtain ⟨o',h,e⟩:=Ev.loopQk (fun x=>o=x) R m hs step
 subst e
 exact h
theorem u7 {n:Nat}(h:n<4611686018427387904) : l9 .i64 ((n:Int)+1)=((n+1:Nat) : Int):=by
 rw [wq (by omega) (by omega)]; rfl
def z2 (f:α→Nat) : List α→Nat
 | []=>0
 | x::r=>f x+z2 f r
def nnL (f:α→Nat)(l:List α) : Nat:=l.length+z2 f l
theorem q0w {f:α→Nat} : ∀ {l:List α} {i:Nat} {x:α},l[i]? = some x→f x≤z2 f l:=by
 intro l
 induction l with
 | nil=>intro i x h; simp at h
 | cons a r ih =>
  intro i x h
  cases i with
  | zero=>simp at h; subst h; simp only [z2]; omega
  | succ i=>have:=ih (i:=i) (x:=x) (by simpa using h); simp only [z2]; omega
theorem qgs {f:α→Nat}{l:List α}{i:Nat}{x:α}(h:l[i]? = some x) : f x≤nnL f l:=by
 have:=q0w (f:=f) h
 unfold nnL; omega
theorem qgu {f:α→Nat}{l:List α} : l.length≤nnL f l:=by unfold nnL; omega
def szr (n:Nat)(left:Int) : Int:=if (n:Int)≤left then left - n else -1
theorem qz3 {α:Type}{a:List α}{left:Int}(hl:a.length≤4611686018427387904)(h0:0≤left)(h1:left≤1048576) : (if (decide ((l9 .i64 (left - (o6 a:Int)))<0))=true then (some (-1)) else (some (l9 .i64 (left - (o6 a:Int)))))=some (szr a.length left):=by
 rw [wq (by omega) (by omega)]
 unfold szr
 by_cases h:(a.length:Int)≤left
 ·rw [if_pos h,if_neg (by simp only [decide_eq_true_eq]; omega)]
 ·rw [if_neg h,if_pos (by simp only [decide_eq_true_eq]; omega)]
theorem za1 {B:Nat→Int × List α→Option (Oc (Int × List α) ρ)}{l:List α}{z:α}(hl:l.length≤1048576)
  (hB:∀ (i:Nat) s x y,l[i]? = some x→s[i]? = some y→Ev (fun k=>B k ((i:Int),s)) (.nxt (((i+1:Nat) : Int),s.set i x)))
  (hE:∀ s,Ev (fun k=>B k ((l.length:Int),s)) (.brk ((l.length:Int),s))) : Ev (fun k=>kr (B k) k (0,a0l l.length z)) (.nxt ((l.length:Int),l)):=by
 refine Ev.loopk (fun st=>∃ i:Nat,st.1=i∧i≤l.length∧st.2.length=l.length∧st.2.take i=l.take i) (fun st=>l.length - st.1.toNat) ⟨0,by simp⟩ ?_
 rintro ⟨i',s⟩ ⟨i,rfl,hi,hs,ht⟩
 simp only at hs ht hi ⊢
 by_cases h:i<l.length
 ·have hi':i<s.length:=by omega
  refine .inl ⟨_,hB i s l[i] s[i] (by simp [h]) (by simp [hi']),⟨i+1,rfl,by omega,by simp [hs],?_⟩,?_⟩
  ·rw [a2t,a2t]
   simp [List.take_set_of_le,ht,h,hs]
  ·simp only [a0w]; omega
 ·have:i=l.length:=by omega
  subst this
  refine .inr (.inl ⟨_,hE s,?_⟩)
  have:s=l:=by rw [a2j,← hs,a2j] at ht; exact ht
  rw [this]
theorem qjf {b:Nat}{n:Nat}{z:α}(h:n*b≤140737488355328) : mkN b (n:Int) z=some (a0l n z):=by
 unfold mkN
 rw [if_pos ⟨by omega,by rw [←Int.natCast_mul]; exact Int.ofNat_le.2 h⟩,a0w]

theorem qgv [DecidableEq α]{B:Nat→Int→Option (Oc Int Bool)}{a b:List α}(hl:a.length≤1048576)(hab:a.length=b.length)
  (hB:∀ (i:Nat) x y,a[i]? = some x→b[i]? = some y→Ev (fun k=>B k (i:Int)) (if x=y then .nxt ((i+1:Nat) : Int) else .ret false))
  (hE:Ev (fun k=>B k (a.length:Int)) (.brk (a.length:Int))) : Ev (fun k=>kr (B k) k 0) (if a=b then .nxt (a.length:Int) else .ret false):=by
 refine Ev.loopk (fun st=>∃ i:Nat,st=i∧i≤a.length∧a.take i=b.take i) (fun st=>a.length - st.toNat) ⟨0,by simp⟩ ?_
 rintro st ⟨i,rfl,hi,ht⟩
 by_cases h:i<a.length
 ·have hb:i<b.length:=by omega
  have:=hB i a[i] b[i] (by simp [h]) (by simp [hb])
  by_cases e:a[i]=b[i]
  ·rw [if_pos e] at this
   refine .inl ⟨_,this,⟨i+1,rfl,by omega,?_⟩,by simp only [a0w]; omega⟩
   rw [a2t,a2t,ht]
   simp [h,hb,e]
  ·rw [if_neg e] at this
   refine .inr (.inr ⟨_,this,?_⟩)
   rw [if_neg (fun hh=>e (by subst hh; rfl))]
 ·have:i=a.length:=by omega
  subst this
  refine .inr (.inl ⟨_,hE,?_⟩)
  rw [if_pos]
  rwa [a2j,hab,a2j] at ht
theorem qic [DecidableEq α]{F:Nat→Option (Oc Int Bool)}{a b:List α}(h:a.length=b.length→Ev F (if a=b then .nxt (a.length:Int) else .ret false)) :
  Ev (fun k=>if (decide ((o6 a:Int)≠(o6 b:Int)))=true then (some false) else (jn (F k) (fun s=>some true))) (decide (a=b)):=by
 by_cases hab:a.length=b.length
 ·refine t3 (by simp [hab]) ?_
  have h:=h hab
  by_cases e:a=b
  ·rw [if_pos e] at h
   rw [decide_eq_true e]
   exact Ev.jn h a0b
  ·rw [if_neg e] at h
   rw [decide_eq_false e]
   exact Ev.jn_ret h
 ·refine a0e (by simp only [ne_eq,decide_eq_true_eq]; omega) ?_
  rw [decide_eq_false (fun e=>hab (by rw [e]))]
  exact a0b
theorem xu {a b:Int}{G:Nat→Option Bool}{p:Prop}[Decidable p](h:Ev G (decide p)) : Ev (fun k=>if (decide (a≠b))=true then some false else G k) (decide (a=b∧p)):=by
 by_cases e:a=b
 ·refine t3 (by simp [e]) ?_
  rwa [show decide (a=b∧p)=decide p by simp [e]]
 ·refine a0e (by simp [e]) ?_
  rw [show decide (a=b∧p)=false by simp [e]]
  exact a0b
theorem qqj {a b:Bool}{G:Nat→Option Bool}{p:Prop}[Decidable p](h:Ev G (decide p)) : Ev (fun k=>if (!(a == b))=true then some false else G k) (decide (a=b∧p)):=by
 by_cases e:a=b
 ·refine t3 (by simp [e]) ?_
  rwa [show decide (a=b∧p)=decide p by simp [e]]
 ·refine a0e (by simp [e]) ?_
  rw [show decide (a=b∧p)=false by simp [e]]
  exact a0b
theorem qib {q p:Prop}[Decidable q][Decidable p]{F G:Nat→Option Bool}(h1:Ev F (decide q))(h:Ev G (decide p)) : Ev (fun k=>(F k).bind fun v=>if (!v)=true then some false else G k) (decide (q∧p)):=by
 refine Ev.bind h1 ?_
 by_cases e:q
 ·refine t3 (by simp [e]) ?_
  rwa [show decide (q∧p)=decide p by simp [e]]
 ·refine a0e (by simp [e]) ?_
  rw [show decide (q∧p)=false by simp [e]]
  exact a0b
theorem qjh:Ev (fun _=>some true) (decide True):=a0b
theorem qid {F:Nat→Option Bool}{p q:Prop}[Decidable p][Decidable q](h:Ev F (decide p))(e:p↔q) : Ev F (decide q):=by
 rwa [show decide q=decide p by simp [e]]
theorem Ev.to {F:Nat→Option α}{r r':α}(h:Ev F r)(e:r=r') : Ev F r':=e▸h

def xb (M:α→Nat→α)(c:α→Nat) : List α→Nat→List α
 | [],_=>[]
 | x::r,n=>M x n::xb M c r (n+c x)
theorem wu {M:α→Nat→α}{c:α→Nat} : ∀ {l:List α} {n:Nat},(xb M c l n).length=l.length:=by
 intro l
 induction l with
 | nil=>intro n; rfl
 | cons x r ih=>intro n; simp [xb,ih]
theorem qfl {M:α→Nat→α}{c:α→Nat} : ∀ {l:List α} {n i:Nat} {x:α},l[i]? = some x→(xb M c l n)[i]? = some (M x (n+z2 c (l.take i))):=by
 intro l
 induction l with
 | nil=>intro n i x h; simp at h
 | cons a r ih =>
  intro n i x h
  cases i with
  | zero=>simp at h; subst h; simp [xb,z2]
  | succ i =>
   simp only [xb,List.getElem?_cons_succ,r8,z2]
   rw [ih (by simpa using h),a3z]
theorem qhs {c:α→Nat} : ∀ {l:List α} {i:Nat} {x:α},l[i]? = some x→z2 c (l.take (i+1))=z2 c (l.take i)+c x:=by
 intro l
 induction l with
 | nil=>intro i x h; simp at h
 | cons a r ih =>
  intro i x h
  cases i with
  | zero=>simp at h; subst h; simp [z2]
  | succ i =>
   simp only [r8,z2]
   rw [ih (by simpa using h)]
   omega
theorem qjr {c:α→Nat} : ∀ {l:List α} {i:Nat},z2 c (l.take i)≤z2 c l:=by
 intro l
 induction l with
 | nil=>intro i; simp [z2]
 | cons a r ih =>
  intro i
  cases i with
  | zero=>simp [z2]
  | succ i=>simp only [r8,z2]; have:=ih (i:=i); omega
theorem qp8 {c f:α→Nat}{m:Nat}(h:∀ x,c x≤m*(1+f x)) : ∀ {l:List α},z2 c l≤m*nnL f l:=by
 intro l
 induction l with
 | nil=>simp [z2]
 | cons a r ih =>
  have:=h a
  unfold nnL at ih ⊢
  simp only [z2,a0k]
  rw [show r.length+1+(f a+z2 f r)=(1+f a)+(r.length+z2 f r) by omega,Nat.mul_add]
  omega
theorem qa7 {c:Nat}{l:List α} : z2 (fun _=>c) l=c*l.length:=by
 induction l with
 | nil=>rfl
 | cons a r ih=>simp only [z2,ih,a0k]; rw [Nat.mul_add]; omega
theorem qem {B:Nat→Int × Int × List α→Option (Oc (Int × Int × List α) ρ)}{l:List α}{c:α→Nat}{M:α→Nat→α}{n0:Nat}(hl:l.length≤1048576)(hn:n0+z2 c l<4611686018427387904)
  (hB:∀ (n i:Nat) s x,n+c x<4611686018427387904→i<l.length→l[i]? = some x→s[i]? = some x→s.length=l.length→Ev (fun k=>B k ((n:Int),(i:Int),s)) (.nxt (((n+c x:Nat) : Int),((i+1:Nat) : Int),s.set i (M x n))))
  (hE:∀ (n:Nat) s,s.length=l.length→Ev (fun k=>B k ((n:Int),(l.length:Int),s)) (.brk ((n:Int),(l.length:Int),s))) :
  Ev (fun k=>kr (B k) k ((n0:Int),0,l)) (.nxt (((n0+z2 c l:Nat) : Int),(l.length:Int),xb M c l n0)):=by
 refine Ev.loopk (fun st=>∃ i:Nat,st.1=((n0+z2 c (l.take i) : Nat) : Int)∧st.2.1=i∧i≤l.length∧st.2.2.length=l.length∧st.2.2.take i=(xb M c l n0).take i∧st.2.2.drop i=l.drop i) (fun st=>l.length - st.2.1.toNat) ⟨0,by simp [z2]⟩ ?_
 rintro ⟨n',i',s⟩ ⟨i,e1,e2,hi,hs,ht,hd⟩
 simp only at hs ht hi hd e1 e2 ⊢
 subst e1 e2
 by_cases h:i<l.length
 ·have hi':i<s.length:=by omega
  have hg:l[i]? = some l[i]:=o9 h
  have hsg:s[i]? = some l[i]:=by
   have:(s.drop i)[0]? = (l.drop i)[0]? := by rw [hd]
   simpa [h,hi'] using this
  have hle:=qjr (c:=c) (l:=l) (i:=i+1)
  rw [qhs hg] at hle
  refine .inl ⟨_,hB _ i s l[i] (by omega) h hg hsg hs,⟨i+1,?_,rfl,by omega,by simp [hs],?_,?_⟩,?_⟩
  ·rw [qhs hg,a3z]
  ·rw [a2t,a2t,qfl hg]
   simp [List.take_set_of_le,ht,hi']
  ·simp only
   rw [List.drop_set_of_lt (by omega)]
   have:=congrArg (List.drop 1) hd
   simpa [List.drop_drop] using this
  ·simp only [a0w]
   omega
 ·have:i=l.length:=by omega
  subst this
  refine .inr (.inl ⟨_,hE _ s hs,?_⟩)
  have:s=xb M c l n0:=by
   rw [a2f (by omega),a2f (by rw [wu]; exact Nat.le_refl _)] at ht
   exact ht
  rw [this,a2j]
theorem qfy {B:Nat→Int × Int→Option (Oc (Int × Int) ρ)}{l:List α}{c:α→Nat}{n0:Nat}(hl:l.length≤1048576)(hn:n0+z2 c l<4611686018427387904)
  (hB:∀ (i:Nat) x,l[i]? = some x→n0+z2 c (l.take i)+c x<4611686018427387904→Ev (fun k=>B k (((n0+z2 c (l.take i) : Nat) : Int),(i:Int))) (.nxt (((n0+z2 c (l.take i)+c x:Nat) : Int),((i+1:Nat) : Int))))
  (hE:∀ (n:Nat),Ev (fun k=>B k ((n:Int),(l.length:Int))) (.brk ((n:Int),(l.length:Int)))) :
  Ev (fun k=>kr (B k) k ((n0:Int),0)) (.nxt (((n0+z2 c l:Nat) : Int),(l.length:Int))):=by
 refine Ev.loopk (fun st=>∃ i:Nat,st=(((n0+z2 c (l.take i) : Nat) : Int),(i:Int))∧i≤l.length) (fun st=>l.length - st.2.toNat) ⟨0,by simp [z2],by omega⟩ ?_
 rintro st ⟨i,rfl,hi⟩
 by_cases h:i<l.length
 ·have hg:l[i]? = some l[i]:=o9 h
  have hle:=qjr (c:=c) (l:=l) (i:=i+1)
  rw [qhs hg] at hle
  refine .inl ⟨_,hB i l[i] hg (by omega),⟨i+1,?_,by omega⟩,?_⟩
  ·rw [qhs hg,a3z]
  ·simp only [a0w]
   omega
 ·have:i=l.length:=by omega
  subst this
  refine .inr (.inl ⟨_,hE _,?_⟩)
  rw [a2j]
theorem zax {F:Nat→Option Int}{G:Nat→Int→Option Bool}{n:Nat}{left:Int}(h:Ev F (szr n left))(hG:(n:Int)≤left→0≤left - n→Ev (fun k=>G k (left - n)) true)(h0:0≤left) : Ev (fun k=>(F k).bind fun v=>if (decide (v<0))=true then (some true) else G k v) true:=by
 refine Ev.bind h ?_
 unfold szr
 by_cases hc:(n:Int)≤left
 ·rw [if_pos hc]
  exact t3 (by simp only [decide_eq_false_iff_not]; omega) (hG hc (by omega))
 ·rw [if_neg hc]
  exact a0e (by decide) a0b
end Go.Proofs.Ytanblnjomhgphaa.X
