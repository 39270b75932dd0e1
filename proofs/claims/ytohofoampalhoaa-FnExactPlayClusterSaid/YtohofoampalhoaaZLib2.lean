/- Plain facts on the laws' own walks: sizes, copies, comparisons, marks. -/
import Derived.Test.YtohofoampalhoaaZLib
open Go.Proofs.Ytohofoampalhoaa.X.Ev renaming iteF→a0t,iteT→a00,rfl→a0o
open Int renaming toNat_natCast→a1o
open Go.IntKind renaming wrap→a0a
open List renaming getElem?_eq_getElem→a0b,length_cons→a1b,length→t6,replicate→a0y,take_add_one→a1v,take_length→a2y,take_of_length_le→a1h,take_succ_cons→t8
open Nat renaming add_assoc→a3k
set_option linter.unusedVariables false
set_option linter.unusedSimpArgs false
namespace Go.Proofs.Ytohofoampalhoaa.X
open Go
variable {α β σ ρ:Type}

theorem Ev.loopk {B:Nat→σ→Option (Oc σ ρ)}{o:Oc σ ρ}{s:σ}(R:σ→Prop)(m:σ→Nat)(hs:R s)
  (step:∀ s,R s→(∃ s',Ev (fun k=>B k s) (.nxt s')∧R s'∧m s'<m s)∨(∃ s',Ev (fun k=>B k s) (.brk s')∧o = .nxt s')∨(∃ r,Ev (fun k=>B k s) (.ret r)∧o = .ret r)) : Ev (fun k=>ko (B k) k s) o:=by
 obtain ⟨o',h,e⟩:=Ev.loopQk (fun x=>o=x) R m hs step
 subst e
 exact h
theorem xe {n:Nat}(h:n<4611686018427387904) : a0a .i64 ((n:Int)+1)=((n+1:Nat) : Int):=by
 rw [qc5 (by omega) (by omega)]; rfl
def ja (f:α→Nat) : List α→Nat
 | []=>0
 | x::r=>f x+ja f r
def nnL (f:α→Nat)(l:List α) : Nat:=l.length+ja f l
theorem qxw {f:α→Nat} : ∀ {l:List α} {i:Nat} {x:α},l[i]? = some x→f x≤ja f l:=by
 intro l
 induction l with
 | nil=>intro i x h; simp at h
 | cons a r ih =>
  intro i x h
  cases i with
  | zero=>simp at h; subst h; simp only [ja]; omega
  | succ i=>have:=ih (i:=i) (x:=x) (by simpa using h); simp only [ja]; omega
theorem qky {f:α→Nat}{l:List α}{i:Nat}{x:α}(h:l[i]? = some x) : f x≤nnL f l:=by
 have:=qxw (f:=f) h
 unfold nnL; omega
theorem qkq {f:α→Nat}{l:List α} : l.length≤nnL f l:=by unfold nnL; omega
def szr (n:Nat)(left:Int) : Int:=if (n:Int)≤left then left - n else -1
theorem qyw {α:Type}{a:List α}{left:Int}(hl:a.length≤4611686018427387904)(h0:0≤left)(h1:left≤1048576) : (if (decide ((a0a .i64 (left - (t6 a:Int)))<0))=true then (some (-1)) else (some (a0a .i64 (left - (t6 a:Int)))))=some (szr a.length left):=by
 rw [qc5 (by omega) (by omega)]
 unfold szr
 by_cases h:(a.length:Int)≤left
 ·rw [if_pos h,if_neg (by simp only [decide_eq_true_eq]; omega)]
 ·rw [if_neg h,if_pos (by simp only [decide_eq_true_eq]; omega)]
theorem q81 {B:Nat→Int × List α→Option (Oc (Int × List α) ρ)}{l:List α}{z:α}(hl:l.length≤1048576)
  (hB:∀ (i:Nat) s x y,l[i]? = some x→s[i]? = some y→Ev (fun k=>B k ((i:Int),s)) (.nxt (((i+1:Nat) : Int),s.set i x)))
  (hE:∀ s,Ev (fun k=>B k ((l.length:Int),s)) (.brk ((l.length:Int),s))) : Ev (fun k=>ko (B k) k (0,a0y l.length z)) (.nxt ((l.length:Int),l)):=by
 refine Ev.loopk (fun st=>∃ i:Nat,st.1=i∧i≤l.length∧st.2.length=l.length∧st.2.take i=l.take i) (fun st=>l.length - st.1.toNat) ⟨0,by simp⟩ ?_
 rintro ⟨i',s⟩ ⟨i,rfl,hi,hs,ht⟩
 simp only at hs ht hi ⊢
 by_cases h:i<l.length
 ·have hi':i<s.length:=by omega
  refine .inl ⟨_,hB i s l[i] s[i] (by simp [h]) (by simp [hi']),⟨i+1,rfl,by omega,by simp [hs],?_⟩,?_⟩
  ·rw [a1v,a1v]
   simp [List.take_set_of_le,ht,h,hs]
  ·simp only [a1o]; omega
 ·have:i=l.length:=by omega
  subst this
  refine .inr (.inl ⟨_,hE s,?_⟩)
  have:s=l:=by rw [a2y,← hs,a2y] at ht; exact ht
  rw [this]
theorem qp0 {b:Nat}{n:Nat}{z:α}(h:n*b≤140737488355328) : mkN b (n:Int) z=some (a0y n z):=by
 unfold mkN
 rw [if_pos ⟨by omega,by rw [←Int.natCast_mul]; exact Int.ofNat_le.2 h⟩,a1o]

theorem qii [DecidableEq α]{B:Nat→Int→Option (Oc Int Bool)}{a b:List α}(hl:a.length≤1048576)(hab:a.length=b.length)
  (hB:∀ (i:Nat) x y,a[i]? = some x→b[i]? = some y→Ev (fun k=>B k (i:Int)) (if x=y then .nxt ((i+1:Nat) : Int) else .ret false))
  (hE:Ev (fun k=>B k (a.length:Int)) (.brk (a.length:Int))) : Ev (fun k=>ko (B k) k 0) (if a=b then .nxt (a.length:Int) else .ret false):=by
 refine Ev.loopk (fun st=>∃ i:Nat,st=i∧i≤a.length∧a.take i=b.take i) (fun st=>a.length - st.toNat) ⟨0,by simp⟩ ?_
 rintro st ⟨i,rfl,hi,ht⟩
 by_cases h:i<a.length
 ·have hb:i<b.length:=by omega
  have:=hB i a[i] b[i] (by simp [h]) (by simp [hb])
  by_cases e:a[i]=b[i]
  ·rw [if_pos e] at this
   refine .inl ⟨_,this,⟨i+1,rfl,by omega,?_⟩,by simp only [a1o]; omega⟩
   rw [a1v,a1v,ht]
   simp [h,hb,e]
  ·rw [if_neg e] at this
   refine .inr (.inr ⟨_,this,?_⟩)
   rw [if_neg (fun hh=>e (by subst hh; rfl))]
 ·have:i=a.length:=by omega
  subst this
  refine .inr (.inl ⟨_,hE,?_⟩)
  rw [if_pos]
  rwa [a2y,hab,a2y] at ht
theorem qj2 [DecidableEq α]{F:Nat→Option (Oc Int Bool)}{a b:List α}(h:a.length=b.length→Ev F (if a=b then .nxt (a.length:Int) else .ret false)) :
  Ev (fun k=>if (decide ((t6 a:Int)≠(t6 b:Int)))=true then (some false) else (jn (F k) (fun s=>some true))) (decide (a=b)):=by
 by_cases hab:a.length=b.length
 ·refine a0t (by simp [hab]) ?_
  have h:=h hab
  by_cases e:a=b
  ·rw [if_pos e] at h
   rw [decide_eq_true e]
   exact Ev.jn h a0o
  ·rw [if_neg e] at h
   rw [decide_eq_false e]
   exact Ev.jn_ret h
 ·refine a00 (by simp only [ne_eq,decide_eq_true_eq]; omega) ?_
  rw [decide_eq_false (fun e=>hab (by rw [e]))]
  exact a0o
theorem qdr {a b:Int}{G:Nat→Option Bool}{p:Prop}[Decidable p](h:Ev G (decide p)) : Ev (fun k=>if (decide (a≠b))=true then some false else G k) (decide (a=b∧p)):=by
 by_cases e:a=b
 ·refine a0t (by simp [e]) ?_
  rwa [show decide (a=b∧p)=decide p by simp [e]]
 ·refine a00 (by simp [e]) ?_
  rw [show decide (a=b∧p)=false by simp [e]]
  exact a0o
theorem qfq {q p:Prop}[Decidable q][Decidable p]{F G:Nat→Option Bool}(h1:Ev F (decide q))(h:Ev G (decide p)) : Ev (fun k=>(F k).bind fun v=>if (!v)=true then some false else G k) (decide (q∧p)):=by
 refine Ev.bind h1 ?_
 by_cases e:q
 ·refine a0t (by simp [e]) ?_
  rwa [show decide (q∧p)=decide p by simp [e]]
 ·refine a00 (by simp [e]) ?_
  rw [show decide (q∧p)=false by simp [e]]
  exact a0o
theorem qkn:Ev (fun _=>some true) (decide True):=a0o
theorem qip {F:Nat→Option Bool}{p q:Prop}[Decidable p][Decidable q](h:Ev F (decide p))(e:p↔q) : Ev F (decide q):=by
 rwa [show decide q=decide p by simp [e]]
def w9 (M:α→Nat→α)(c:α→Nat) : List α→Nat→List α
 | [],_=>[]
 | x::r,n=>M x n::w9 M c r (n+c x)
theorem ug {M:α→Nat→α}{c:α→Nat} : ∀ {l:List α} {n:Nat},(w9 M c l n).length=l.length:=by
 intro l
 induction l with
 | nil=>intro n; rfl
 | cons x r ih=>intro n; simp [w9,ih]
theorem qhf {M:α→Nat→α}{c:α→Nat} : ∀ {l:List α} {n i:Nat} {x:α},l[i]? = some x→(w9 M c l n)[i]? = some (M x (n+ja c (l.take i))):=by
 intro l
 induction l with
 | nil=>intro n i x h; simp at h
 | cons a r ih =>
  intro n i x h
  cases i with
  | zero=>simp at h; subst h; simp [w9,ja]
  | succ i =>
   simp only [w9,List.getElem?_cons_succ,t8,ja]
   rw [ih (by simpa using h),a3k]
theorem qh4 {c:α→Nat} : ∀ {l:List α} {i:Nat} {x:α},l[i]? = some x→ja c (l.take (i+1))=ja c (l.take i)+c x:=by
 intro l
 induction l with
 | nil=>intro i x h; simp at h
 | cons a r ih =>
  intro i x h
  cases i with
  | zero=>simp at h; subst h; simp [ja]
  | succ i =>
   simp only [t8,ja]
   rw [ih (by simpa using h)]
   omega
theorem qj5 {c:α→Nat} : ∀ {l:List α} {i:Nat},ja c (l.take i)≤ja c l:=by
 intro l
 induction l with
 | nil=>intro i; simp [ja]
 | cons a r ih =>
  intro i
  cases i with
  | zero=>simp [ja]
  | succ i=>simp only [t8,ja]; have:=ih (i:=i); omega
theorem q9g {c f:α→Nat}{m:Nat}(h:∀ x,c x≤m*(1+f x)) : ∀ {l:List α},ja c l≤m*nnL f l:=by
 intro l
 induction l with
 | nil=>simp [ja]
 | cons a r ih =>
  have:=h a
  unfold nnL at ih ⊢
  simp only [ja,a1b]
  rw [show r.length+1+(f a+ja f r)=(1+f a)+(r.length+ja f r) by omega,Nat.mul_add]
  omega
theorem wy {c:Nat}{l:List α} : ja (fun _=>c) l=c*l.length:=by
 induction l with
 | nil=>rfl
 | cons a r ih=>simp only [ja,ih,a1b]; rw [Nat.mul_add]; omega
theorem qf1 {B:Nat→Int × Int × List α→Option (Oc (Int × Int × List α) ρ)}{l:List α}{c:α→Nat}{M:α→Nat→α}{n0:Nat}(hl:l.length≤1048576)(hn:n0+ja c l<4611686018427387904)
  (hB:∀ (n i:Nat) s x,n+c x<4611686018427387904→i<l.length→l[i]? = some x→s[i]? = some x→s.length=l.length→Ev (fun k=>B k ((n:Int),(i:Int),s)) (.nxt (((n+c x:Nat) : Int),((i+1:Nat) : Int),s.set i (M x n))))
  (hE:∀ (n:Nat) s,s.length=l.length→Ev (fun k=>B k ((n:Int),(l.length:Int),s)) (.brk ((n:Int),(l.length:Int),s))) :
  Ev (fun k=>ko (B k) k ((n0:Int),0,l)) (.nxt (((n0+ja c l:Nat) : Int),(l.length:Int),w9 M c l n0)):=by
 refine Ev.loopk (fun st=>∃ i:Nat,st.1=((n0+ja c (l.take i) : Nat) : Int)∧st.2.1=i∧i≤l.length∧st.2.2.length=l.length∧st.2.2.take i=(w9 M c l n0).take i∧st.2.2.drop i=l.drop i) (fun st=>l.length - st.2.1.toNat) ⟨0,by simp [ja]⟩ ?_
 rintro ⟨n',i',s⟩ ⟨i,e1,e2,hi,hs,ht,hd⟩
 simp only at hs ht hi hd e1 e2 ⊢
 subst e1 e2
 by_cases h:i<l.length
 ·have hi':i<s.length:=by omega
  have hg:l[i]? = some l[i]:=a0b h
  have hsg:s[i]? = some l[i]:=by
   have:(s.drop i)[0]? = (l.drop i)[0]? := by rw [hd]
   simpa [h,hi'] using this
  have hle:=qj5 (c:=c) (l:=l) (i:=i+1)
  rw [qh4 hg] at hle
  refine .inl ⟨_,hB _ i s l[i] (by omega) h hg hsg hs,⟨i+1,?_,rfl,by omega,by simp [hs],?_,?_⟩,?_⟩
  ·rw [qh4 hg,a3k]
  ·rw [a1v,a1v,qhf hg]
   simp [List.take_set_of_le,ht,hi']
  ·simp only
   rw [List.drop_set_of_lt (by omega)]
   have:=congrArg (List.drop 1) hd
   simpa [List.drop_drop] using this
  ·simp only [a1o]
   omega
 ·have:i=l.length:=by omega
  subst this
  refine .inr (.inl ⟨_,hE _ s hs,?_⟩)
  have:s=w9 M c l n0:=by
   rw [a1h (by omega),a1h (by rw [ug]; exact Nat.le_refl _)] at ht
   exact ht
  rw [this,a2y]
theorem qhw {B:Nat→Int × Int→Option (Oc (Int × Int) ρ)}{l:List α}{c:α→Nat}{n0:Nat}(hl:l.length≤1048576)(hn:n0+ja c l<4611686018427387904)
  (hB:∀ (i:Nat) x,l[i]? = some x→n0+ja c (l.take i)+c x<4611686018427387904→Ev (fun k=>B k (((n0+ja c (l.take i) : Nat) : Int),(i:Int))) (.nxt (((n0+ja c (l.take i)+c x:Nat) : Int),((i+1:Nat) : Int))))
  (hE:∀ (n:Nat),Ev (fun k=>B k ((n:Int),(l.length:Int))) (.brk ((n:Int),(l.length:Int)))) :
  Ev (fun k=>ko (B k) k ((n0:Int),0)) (.nxt (((n0+ja c l:Nat) : Int),(l.length:Int))):=by
 refine Ev.loopk (fun st=>∃ i:Nat,st=(((n0+ja c (l.take i) : Nat) : Int),(i:Int))∧i≤l.length) (fun st=>l.length - st.2.toNat) ⟨0,by simp [ja],by omega⟩ ?_
 rintro st ⟨i,rfl,hi⟩
 by_cases h:i<l.length
 ·have hg:l[i]? = some l[i]:=a0b h
  have hle:=qj5 (c:=c) (l:=l) (i:=i+1)
  rw [qh4 hg] at hle
  refine .inl ⟨_,hB i l[i] hg (by omega),⟨i+1,?_,by omega⟩,?_⟩
  ·rw [qh4 hg,a3k]
  ·simp only [a1o]
   omega
 ·have:i=l.length:=by omega
  subst this
  refine .inr (.inl ⟨_,hE _,?_⟩)
  rw [a2y]
theorem q91 {F:Nat→Option Int}{G:Nat→Int→Option Bool}{n:Nat}{left:Int}(h:Ev F (szr n left))(hG:(n:Int)≤left→0≤left - n→Ev (fun k=>G k (left - n)) true)(h0:0≤left) : Ev (fun k=>(F k).bind fun v=>if (decide (v<0))=true then (some true) else G k v) true:=by
 refine Ev.bind h ?_
 unfold szr
 by_cases hc:(n:Int)≤left
 ·rw [if_pos hc]
  exact a0t (by simp only [decide_eq_false_iff_not]; omega) (hG hc (by omega))
 ·rw [if_neg hc]
  exact a00 (by decide) a0o
end Go.Proofs.Ytohofoampalhoaa.X
