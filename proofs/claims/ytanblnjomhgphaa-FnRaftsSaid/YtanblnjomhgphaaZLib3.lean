/- What functions that say yes or no come to. -/
import Derived.Test.YtanblnjomhgphaaZLib2
open Bool renaming false_eq_true→a06,false_ne_true→a3n
open Go.Proofs.Ytanblnjomhgphaa.X.Ev renaming bind→a0e,rfl→a0h
open List renaming drop_drop→a2b,getElem?_eq_some_iff→r9,length→p9,replicate→a0t
open Nat renaming lt_or_ge→a0z
set_option linter.unusedVariables false
set_option linter.unusedSimpArgs false
namespace Go.Proofs.Ytanblnjomhgphaa.X
open Go
variable {α β σ ρ:Type}

def Is (F:Nat→Option Bool)(P:Prop) : Prop:=∃ b:Bool,Ev F b∧(b=true↔P)
theorem Is.two {F G:Nat→Option Bool}{P:Prop}(h1:Is F P)(h2:Is G P) : ∃ b,Ev F b∧Ev G b:=by
 obtain ⟨b,e,h⟩:=h1
 obtain ⟨b',e',h'⟩:=h2
 have:b=b':=by
  rcases Bool.eq_false_or_eq_true b with hb | hb <;> rcases Bool.eq_false_or_eq_true b' with hb' | hb' <;> simp_all
 exact ⟨b,e,this▸e'⟩
theorem Is.iff {F:Nat→Option Bool}{P Q:Prop}(h:Is F P)(e:P↔Q) : Is F Q:=by
 obtain ⟨b,x,y⟩:=h
 exact ⟨b,x,y.trans e⟩
theorem Is.eqv {F G:Nat→Option Bool}{P:Prop}(h:Is F P)(e:∀ k,G k=F k) : Is G P:=by
 obtain ⟨b,x,y⟩:=h
 exact ⟨b,x.eqv e,y⟩
theorem Is.of {b:Bool}{P:Prop}(e:b=true↔P) : Is (fun _=>some b) P:=⟨b,a0h,e⟩
theorem Is.T {P:Prop}(e:P) : Is (fun _=>some true) P:=⟨true,a0h,by simp [e]⟩
theorem Is.F {P:Prop}(e:¬ P) : Is (fun _=>some false) P:=⟨false,a0h,by simp [e]⟩
theorem Is.bind {F:Nat→Option Bool}{G:Nat→Bool→Option Bool}{P Q:Prop}(h:Is F P)(h1:∀ b:Bool,(b=true↔P)→Is (fun k=>G k b) Q) : Is (fun k=>(F k).bind (G k)) Q:=by
 obtain ⟨b,e,hb⟩:=h
 obtain ⟨c,e',hc⟩:=h1 b hb
 exact ⟨c,a0e e e',hc⟩
theorem Is.bindv {F:Nat→Option α}{G:Nat→α→Option Bool}{a:α}{Q:Prop}(h:Ev F a)(h1:Is (fun k=>G k a) Q) : Is (fun k=>(F k).bind (G k)) Q:=by
 obtain ⟨c,e',hc⟩:=h1
 exact ⟨c,a0e h e',hc⟩
theorem Is.ite {F G:Nat→Option Bool}{b:Bool}{P:Prop}(h1:b=true→Is F P)(h2:b=false→Is G P) : Is (fun k=>if b=true then F k else G k) P:=by
 cases b with
 | true=>exact h1 rfl
 | false=>exact h2 rfl
theorem Is.and {F:Nat→Option Bool}{b:Bool}{P Q:Prop}(hb:b=true↔P)(h:P→Is F Q) : Is (fun k=>((if b=true then (F k).bind fun v=>some v else some false).bind fun v=>some v)) (P∧Q):=by
 cases b with
 | true =>
  have hp:=hb.1 rfl
  obtain ⟨c,e,hc⟩:=h hp
  exact ⟨c,a0e (a0e e a0h) a0h,by simp [hp,hc]⟩
 | false=>exact ⟨false,a0h,by simp at hb; simp [hb]⟩
theorem qui {B:Nat→Nat→α→σ→Option (Oc σ ρ)}{o:Oc σ ρ}(R:Nat→List α→σ→Prop)
  (step:∀ i x r s,R i (x::r) s→(∃ s',Ev (fun k=>B k i x s) (.nxt s')∧R (i+1) r s')∨(∃ s',Ev (fun k=>B k i x s) (.brk s')∧o = .nxt s')∨(∃ q,Ev (fun k=>B k i x s) (.ret q)∧o = .ret q))
  (fin:∀ i s,R i [] s→o = .nxt s) : ∀ (l:List α) (i:Nat) (s:σ),R i l s→Ev (fun k=>xy (B k) l i s) o:=by
 intro l
 induction l with
 | nil=>intro i s h; rw [fin i s h]; exact a0h
 | cons x r ih =>
  intro i s h
  rcases step i x r s h with ⟨s',⟨K,e⟩,h'⟩ | ⟨s',⟨K,e⟩,rfl⟩ | ⟨q,⟨K,e⟩,rfl⟩
  ·obtain ⟨K',e'⟩:=ih _ _ h'
   refine ⟨max K K',fun k hk=>?_⟩
   have:=e k (by omega)
   simp only at this
   simp only [xy,this]
   exact e' k (by omega)
  ·refine ⟨K,fun k hk=>?_⟩
   have:=e k hk
   simp only at this
   simp only [xy,this]
  ·refine ⟨K,fun k hk=>?_⟩
   have:=e k hk
   simp only at this
   simp only [xy,this]
theorem yo {B:Nat→Nat→α→σ→Option (Oc σ ρ)}{o:Oc σ ρ}{l:List α}{s:σ}(hl:l.length≤4611686018427387904)(R:Nat→List α→σ→Prop)(h0:R 0 l s)
  (step:∀ i x r s,R i (x::r) s→(∃ s',Ev (fun k=>B k i x s) (.nxt s')∧R (i+1) r s')∨(∃ s',Ev (fun k=>B k i x s) (.brk s')∧o = .nxt s')∨(∃ q,Ev (fun k=>B k i x s) (.ret q)∧o = .ret q))
  (fin:∀ i s,R i [] s→o = .nxt s) : Ev (fun k=>jt (B k) l s) o:=by
 unfold jt
 simp only [if_pos hl]
 exact qui R step fin l 0 s h0
theorem qu3 {B:Nat→Nat→α→Unit→Option (Oc Unit Bool)}{l:List α}{Q:Nat→α→Prop}(hl:l.length≤4611686018427387904)
  (h:∀ i x,l[i]? = some x→∃ b:Bool,Ev (fun k=>B k i x ()) (if b=true then .ret false else .nxt ())∧(b=true↔¬ Q i x)) :
  ∃ o:Oc Unit Bool,Ev (fun k=>jt (B k) l ()) o∧((o = .nxt ()∧∀ i x,l[i]? = some x→Q i x)∨(o = .ret false∧¬ ∀ i x,l[i]? = some x→Q i x)):=by
 by_cases hq:∀ i x,l[i]? = some x→Q i x
 ·refine ⟨.nxt (),?_,.inl ⟨rfl,hq⟩⟩
  refine yo hl (fun i r _=>l.drop i=r) (by simp) (fun i x r s hr => .inl ?_) (fun i s _=>rfl)
  have hx:l[i]? = some x:=by have:=congrArg (fun z=>z[0]?) hr; simpa using this
  obtain ⟨b,e,hb⟩:=h i x hx
  have:b=false:=by
   cases b with
   | false=>rfl
   | true=>exact absurd (hq i x hx) (hb.1 rfl)
  subst this
  exact ⟨(),e,by have:=congrArg (List.drop 1) hr; simpa [a2b] using this⟩
 ·refine ⟨.ret false,?_,.inr ⟨rfl,hq⟩⟩
  refine yo hl (fun i r _=>l.drop i=r∧∀ j x,j<i→l[j]? = some x→Q j x) (by simp) (fun i x r s ⟨hr,hp⟩=>?_) (fun i s ⟨hr,hp⟩=>?_)
  ·have hx:l[i]? = some x:=by have:=congrArg (fun z=>z[0]?) hr; simpa using this
   obtain ⟨b,e,hb⟩:=h i x hx
   cases b with
   | false =>
    refine .inl ⟨(),e,by have:=congrArg (List.drop 1) hr; simpa [a2b] using this,fun j y hj hy=>?_⟩
    have hqi:Q i x:=by
     by_cases hqx:Q i x
     ·exact hqx
     ·exact absurd (hb.2 hqx) a3n
    rcases a0z j i with hji | hji
    ·exact hp j y hji hy
    ·have:j=i:=by omega
     subst this
     rw [hx] at hy
     cases hy
     exact hqi
   | true=>exact .inr (.inr ⟨false,e,rfl⟩)
  ·exfalso
   apply hq
   intro j x hx
   have hj:j<l.length:=(r9.1 hx).1
   have hi:l.length≤i:=by
    have:=congrArg p9 hr
    simp at this
    omega
   exact hp j x (by omega) hx
theorem Is.all {B:Nat→Nat→α→Unit→Option (Oc Unit Bool)}{l:List α}{Q:Nat→α→Prop}(hl:l.length≤4611686018427387904)
  (h:∀ i x,l[i]? = some x→∃ b:Bool,Ev (fun k=>B k i x ()) (if b=true then .ret false else .nxt ())∧(b=true↔¬ Q i x)) {G:Nat→Unit→Option Bool} {P:Prop} (hG:(∀ i x,l[i]? = some x→Q i x)→Is (fun k=>G k ()) P) (hN:(¬ ∀ i x,l[i]? = some x→Q i x)→¬ P) :
  Is (fun k=>jn (jt (B k) l ()) (G k)) P:=by
 obtain ⟨o,e,ho⟩:=qu3 hl h
 rcases ho with ⟨rfl,hq⟩ | ⟨rfl,hq⟩
 ·obtain ⟨b,e',hb⟩:=hG hq
  exact ⟨b,Ev.jn e e',hb⟩
 ·exact ⟨false,Ev.jn_ret e,by simp [hN hq]⟩
theorem q1k {B:Nat→σ→Option (Oc σ ρ)} : ∀ (m i:Nat) (s:σ),qdv B m i s=xy (fun i _ s=>B i s) (a0t m ()) i s:=by
 intro m
 induction m with
 | zero=>intro i s; rfl
 | succ m ih =>
  intro i s
  simp only [qdv,List.replicate_succ,xy]
  cases B i s with
  | none=>rfl
  | some o=>cases o with
   | nxt s'=>exact ih _ _
   | brk s'=>rfl
   | ret q=>rfl
theorem qdx {B:Nat→σ→Option (Oc σ ρ)}{n:Nat}{s:σ} : wi B (n:Int) s=jt (fun i _ s=>B i s) (a0t n ()) s:=by
 unfold wi jt
 rw [Int.toNat_natCast,List.length_replicate,q1k]
 by_cases h:n≤4611686018427387904
 ·rw [if_pos h,if_pos (by omega)]
 ·rw [if_neg h,if_neg (by omega)]
theorem zer {F:Nat→Option Bool}{P:Prop}(h:Is F P) : ∃ b:Bool,Ev (fun k=>(F k).bind fun v=>if v=true then (some (.ret false) : Option (Oc Unit Bool)) else some (.nxt ())) (if b=true then .ret false else .nxt ())∧(b=true↔P):=by
 obtain ⟨b,e,hb⟩:=h
 refine ⟨b,a0e e ?_,hb⟩
 cases b <;> exact a0h
theorem qil {B:Nat→Nat→α→Unit→Option (Oc Unit ρ)}{l:List α}{Q:Nat→α→Prop}{f:Nat→ρ}(hl:l.length≤4611686018427387904)
  (h:∀ i x,l[i]? = some x→∃ b:Bool,Ev (fun k=>B k i x ()) (if b=true then .ret (f i) else .nxt ())∧(b=true↔Q i x)) :
  (∃ i x,l[i]? = some x∧Q i x∧(∀ j y,j<i→l[j]? = some y→¬ Q j y)∧Ev (fun k=>jt (B k) l ()) (.ret (f i)))∨((∀ i x,l[i]? = some x→¬ Q i x)∧Ev (fun k=>jt (B k) l ()) (.nxt ())):=by
 have key:∀ (r:List α) (i:Nat),l.drop i=r→(∀ j y,j<i→l[j]? = some y→¬ Q j y) →
   (∃ n x,l[n]? = some x∧Q n x∧(∀ j y,j<n→l[j]? = some y→¬ Q j y)∧Ev (fun k=>xy (B k) r i ()) (.ret (f n)))∨((∀ i x,l[i]? = some x→¬ Q i x)∧Ev (fun k=>xy (B k) r i ()) (.nxt ())):=by
  intro r
  induction r with
  | nil =>
   intro i hr hp
   refine .inr ⟨fun j x hx=>hp j x ?_ hx,a0h⟩
   have hj:j<l.length:=(r9.1 hx).1
   have:=congrArg p9 hr
   simp at this
   omega
  | cons x r ih =>
   intro i hr hp
   have hx:l[i]? = some x:=by have:=congrArg (fun z=>z[0]?) hr; simpa using this
   obtain ⟨b,⟨K,e⟩,hb⟩:=h i x hx
   cases b with
   | true =>
    refine .inl ⟨i,x,hx,hb.1 rfl,hp,K,fun k hk=>?_⟩
    have:=e k hk
    simp only [if_true] at this
    simp only [xy,this]
   | false =>
    have hq:¬ Q i x:=fun hq=>a3n (hb.2 hq)
    have hs:∀ {o},Ev (fun k=>xy (B k) r (i+1) ()) o→Ev (fun k=>xy (B k) (x::r) i ()) o:=by
     rintro o ⟨K',e'⟩
     refine ⟨max K K',fun k hk=>?_⟩
     have:=e k (by omega)
     simp only [a06,if_false] at this
     simp only [xy,this]
     exact e' k (by omega)
    rcases ih (i+1) (by have:=congrArg (List.drop 1) hr; simpa [a2b] using this) (fun j y hj hy=>by
     rcases a0z j i with h1 | h1
     ·exact hp j y h1 hy
     ·have:j=i:=by omega
      subst this
      rw [hx] at hy; cases hy
      exact hq) with ⟨n,y,a1,a2,a3,a4⟩ | ⟨a1,a2⟩
    ·exact .inl ⟨n,y,a1,a2,a3,hs a4⟩
    ·exact .inr ⟨a1,hs a2⟩
 have:=key l 0 (by simp) (fun j y hj=>by omega)
 unfold jt
 simp only [if_pos hl]
 exact this
theorem Is.any {B:Nat→Nat→α→Unit→Option (Oc Unit Bool)}{l:List α}{Q:Nat→α→Prop}(hl:l.length≤4611686018427387904)
  (h:∀ i x,l[i]? = some x→∃ b:Bool,Ev (fun k=>B k i x ()) (if b=true then .ret true else .nxt ())∧(b=true↔Q i x)) :
  Is (fun k=>jn (jt (B k) l ()) (fun _=>some false)) (∃ i x,l[i]? = some x∧Q i x):=by
 rcases qil (f:=fun _=>true) hl h with ⟨i,x,h1,h2,h3,h4⟩ | ⟨h1,h2⟩
 ·exact ⟨true,Ev.jn_ret h4,by simp only [true_iff]; exact ⟨i,x,h1,h2⟩⟩
 ·exact ⟨false,Ev.jn h2 a0h,by simp only [a06,false_iff]; rintro ⟨i,x,a,b⟩; exact h1 i x a b⟩
theorem qkx {b:Bool}{P:Prop}{o1 o2:Oc σ ρ}(e:b=true↔P) : ∃ c:Bool,Ev (fun _:Nat=>if b=true then (some o1:Option (Oc σ ρ)) else some o2) (if c=true then o1 else o2)∧(c=true↔P):=⟨b,by cases b <;> exact a0h,e⟩
def qfs (p:Nat→α→Bool) : List α→Nat→List Int
 | [],_=>[]
 | x::r,i=>if p i x=true then (i:Int)::qfs p r (i+1) else qfs p r (i+1)
theorem qqc {p:Nat→α→Bool} : ∀ {l:List α} {i:Nat},(qfs p l i).length≤l.length:=by
 intro l
 induction l with
 | nil=>intro i; simp [qfs]
 | cons x r ih =>
  intro i
  simp only [qfs]
  have:=ih (i:=i+1)
  split <;> simp only [List.length_cons] <;> omega
theorem zae {B:Nat→Nat→α→List Int→Option (Oc (List Int) ρ)}{p:Nat→α→Bool}{l:List α}(hl:l.length≤1048576)
  (h:∀ i x s,l[i]? = some x→s.length≤i→Ev (fun k=>B k i x s) (.nxt (if p i x=true then s++[(i:Int)] else s))) : Ev (fun k=>jt (B k) l []) (.nxt (qfs p l 0)):=by
 refine yo (by omega) (fun i r s=>l.drop i=r∧s.length≤i∧s++qfs p r i=qfs p l 0) (by simp) (fun i x r s ⟨hr,hs,he⟩ => .inl ?_) (fun i s ⟨hr,hs,he⟩=>by rw [←he]; simp [qfs])
 have hx:l[i]? = some x:=by have:=congrArg (fun z=>z[0]?) hr; simpa using this
 refine ⟨_,h i x s hx hs,by have:=congrArg (List.drop 1) hr; simpa [a2b] using this,?_,?_⟩
 ·split
  ·simp; omega
  ·omega
 ·rw [←he]
  simp only [qfs]
  split <;> simp
theorem zav {s:List Int}{v:Int}(h:s.length≤1048576) : ju 8 s [v]=some (s++[v]):=by
 unfold ju
 rw [if_pos (by simp; omega)]
end Go.Proofs.Ytanblnjomhgphaa.X
