/- Plain facts on the loops of plain functions. -/
import Derived.Test.YtddkoiapboeemaaZP
set_option linter.unusedVariables false
set_option linter.unusedSimpArgs false
namespace Go.Proofs.Ytddkoiapboeemaa.X
open Go
variable {α β σ ρ:Type}

def Ev (F:Nat→Option α)(r:α) : Prop:=∃ K,∀ k,K≤k→F k=some r
theorem Ev.of {x:Option α}{r:α}(h:x=some r) : Ev (fun _=>x) r:=⟨0,fun _ _=>h⟩
theorem Ev.rfl {r:α} : Ev (fun _=>some r) r:=⟨0,fun _ _=>Eq.refl _⟩
theorem Ev.eqv {F G:Nat→Option α}{r:α}(h:Ev F r)(e:∀ k,G k=F k) : Ev G r:=by
 obtain ⟨K,h⟩:=h
 exact ⟨K,fun k hk=>(e k).trans (h k hk)⟩
theorem Ev.bind {F:Nat→Option α}{G:Nat→α→Option β}{a:α}{r:β}(h1:Ev F a)(h2:Ev (fun k=>G k a) r) : Ev (fun k=>(F k).bind (G k)) r:=by
 obtain ⟨K1,h1⟩:=h1
 obtain ⟨K2,h2⟩:=h2
 refine ⟨max K1 K2,fun k hk=>?_⟩
 show (F k).bind (G k)=some r
 rw [h1 k (by omega)]
 exact h2 k (by omega)
theorem Ev.bindp {x:Option α}{G:Nat→α→Option β}{a:α}{r:β}(h1:x=some a)(h2:Ev (fun k=>G k a) r) : Ev (fun k=>x.bind (G k)) r:=Ev.bind (Ev.of h1) h2
theorem Ev.jn {F:Nat→Option (Oc σ ρ)}{G:Nat→σ→Option ρ}{s:σ}{r:ρ}(h1:Ev F (.nxt s))(h2:Ev (fun k=>G k s) r) : Ev (fun k=>X.jn (F k) (G k)) r:=Ev.bind h1 h2
theorem Ev.jn_ret {F:Nat→Option (Oc σ ρ)}{G:Nat→σ→Option ρ}{r:ρ}(h1:Ev F (.ret r)) : Ev (fun k=>X.jn (F k) (G k)) r:=Ev.bind h1 Ev.rfl
theorem Ev.iteT {F G:Nat→Option α}{b:Bool}{r:α}(hb:b=true)(h:Ev F r) : Ev (fun k=>if b=true then F k else G k) r:=by
 subst hb
 exact h
theorem Ev.iteF {F G:Nat→Option α}{b:Bool}{r:α}(hb:b=false)(h:Ev G r) : Ev (fun k=>if b=true then F k else G k) r:=by
 subst hb
 exact h
theorem Ev.loop {B:σ→Option (Oc σ ρ)}{o:Oc σ ρ}{s:σ}(R:σ→Prop)(m:σ→Nat)(hs:R s)
  (step:∀ s,R s→(∃ s',B s=some (.nxt s')∧R s'∧m s'<m s)∨(∃ s',B s=some (.brk s')∧o = .nxt s')∨(∃ r,B s=some (.ret r)∧o = .ret r)) : Ev (fun k=>yi B k s) o:=by
 have key:∀ n s,m s<n→R s→∀ k,n≤k→yi B k s=some o:=by
  intro n
  induction n with
  | zero=>intro s h; omega
  | succ n ih =>
   intro s hm hs k hk
   obtain ⟨k,rfl⟩ : ∃ k',k=k'+1:=⟨k - 1,by omega⟩
   rcases step s hs with ⟨s',e,h',hlt⟩ | ⟨s',e,rfl⟩ | ⟨r,e,rfl⟩
   ·simp only [yi,e]
    exact ih s' (by omega) h' k (by omega)
   ·simp only [yi,e]
   ·simp only [yi,e]
 exact ⟨m s+1,fun k hk=>key _ s (by omega) hs k hk⟩
theorem Ev.loopQ {B:σ→Option (Oc σ ρ)}{s:σ}(Q:Oc σ ρ→Prop)(R:σ→Prop)(m:σ→Nat)(hs:R s)
  (step:∀ s,R s→(∃ s',B s=some (.nxt s')∧R s'∧m s'<m s)∨(∃ s',B s=some (.brk s')∧Q (.nxt s'))∨(∃ r,B s=some (.ret r)∧Q (.ret r))) : ∃ o,Ev (fun k=>yi B k s) o∧Q o:=by
 have key:∀ n s,m s<n→R s→∃ o,Q o∧∀ k,n≤k→yi B k s=some o:=by
  intro n
  induction n with
  | zero=>intro s h; omega
  | succ n ih =>
   intro s hm hs
   rcases step s hs with ⟨s',e,h',hlt⟩ | ⟨s',e,hq⟩ | ⟨r,e,hq⟩
   ·obtain ⟨o,ho,hk⟩:=ih s' (by omega) h'
    refine ⟨o,ho,fun k hk'=>?_⟩
    obtain ⟨k,rfl⟩ : ∃ k',k=k'+1:=⟨k - 1,by omega⟩
    simp only [yi,e]
    exact hk k (by omega)
   ·refine ⟨_,hq,fun k hk'=>?_⟩
    obtain ⟨k,rfl⟩ : ∃ k',k=k'+1:=⟨k - 1,by omega⟩
    simp only [yi,e]
   ·refine ⟨_,hq,fun k hk'=>?_⟩
    obtain ⟨k,rfl⟩ : ∃ k',k=k'+1:=⟨k - 1,by omega⟩
    simp only [yi,e]
 obtain ⟨o,ho,hk⟩:=key (m s+1) s (by omega) hs
 exact ⟨o,⟨m s+1,hk⟩,ho⟩
theorem qnh {B:Nat→α→σ→Option (Oc σ ρ)}{o:Oc σ ρ}(R:Nat→List α→σ→Prop)
  (step:∀ i x r s,R i (x::r) s→(∃ s',B i x s=some (.nxt s')∧R (i+1) r s')∨(∃ s',B i x s=some (.brk s')∧o = .nxt s')∨(∃ q,B i x s=some (.ret q)∧o = .ret q))
  (fin:∀ i s,R i [] s→o = .nxt s) : ∀ (l:List α) (i:Nat) (s:σ),R i l s→zq B l i s=some o:=by
 intro l
 induction l with
 | nil=>intro i s h; rw [fin i s h]; exact Eq.refl _
 | cons x r ih =>
  intro i s h
  rcases step i x r s h with ⟨s',e,h'⟩ | ⟨s',e,rfl⟩ | ⟨q,e,rfl⟩
  ·simp only [zq,e]; exact ih _ _ h'
  ·simp only [zq,e]
  ·simp only [zq,e]
theorem qc8 {B:Nat→α→σ→Option (Oc σ ρ)}{o:Oc σ ρ}{l:List α}{s:σ}(hl:l.length≤4611686018427387904)(R:Nat→List α→σ→Prop)(h0:R 0 l s)
  (step:∀ i x r s,R i (x::r) s→(∃ s',B i x s=some (.nxt s')∧R (i+1) r s')∨(∃ s',B i x s=some (.brk s')∧o = .nxt s')∨(∃ q,B i x s=some (.ret q)∧o = .ret q))
  (fin:∀ i s,R i [] s→o = .nxt s) : zk B l s=some o:=by
 unfold zk
 rw [if_pos hl]
 exact qnh R step fin l 0 s h0
theorem qjv {B:Nat→α→σ→Option (Oc σ ρ)}{f:Nat→α→σ→σ} : ∀ (l:List α) (i:Nat) (s:σ),(∀ (j:Nat) x s,l[j]? = some x→B (i+j) x s=some (.nxt (f (i+j) x s)))→zq B l i s=some (.nxt ((l.zipIdx i).foldl (fun s p=>f p.2 p.1 s) s)):=by
 intro l
 induction l with
 | nil=>intro i s h; exact Eq.refl _
 | cons x r ih =>
  intro i s h
  have h0:=h 0 x s (Eq.refl _)
  simp only [Nat.add_zero] at h0
  simp only [zq,h0]
  rw [ih (i+1) _ (fun j y s hy=>by
   have:=h (j+1) y s (by simpa using hy)
   rwa [show i+(j+1)=i+1+j by omega] at this)]
  exact Eq.refl _
theorem qk7 {B:Nat→α→Unit→Option (Oc Unit ρ)}{p:Nat→α→Bool}{q:ρ} : ∀ (l:List α) (i:Nat),(∀ (j:Nat) x,l[j]? = some x→B (i+j) x ()=some (if p (i+j) x=true then .ret q else .nxt ()))→zq B l i ()=some (if (l.zipIdx i).any (fun c=>p c.2 c.1)=true then .ret q else .nxt ()):=by
 intro l
 induction l with
 | nil=>intro i h; exact Eq.refl _
 | cons x r ih =>
  intro i h
  have h0:=h 0 x (Eq.refl _)
  simp only [Nat.add_zero] at h0
  have hr:=ih (i+1) (fun j y hy=>by
   have:=h (j+1) y (by simpa using hy)
   rwa [show i+(j+1)=i+1+j by omega] at this)
  simp only [List.zipIdx_cons,List.any_cons,zq,h0]
  rcases Bool.eq_false_or_eq_true (p i x) with hp | hp
  ·simp [hp]
  ·rw [if_neg (by rw [hp]; exact Bool.false_ne_true)]
   refine hr.trans ?_
   congr 2
   rw [hp,Bool.false_or]
theorem qbj {B:Nat→α→Unit→Option (Oc Unit ρ)}{p:Nat→α→Bool}{q:ρ}{l:List α}(hl:l.length≤4611686018427387904)(h:∀ (j:Nat) x,l[j]? = some x→B j x ()=some (if p j x=true then .ret q else .nxt ())) : zk B l ()=some (if l.zipIdx.any (fun c=>p c.2 c.1)=true then .ret q else .nxt ()):=by
 unfold zk
 rw [if_pos hl]
 exact qk7 l 0 (fun j x hx=>by simpa using h j x hx)
theorem qja {B:Nat→α→σ→Option (Oc σ ρ)}{f:Nat→α→σ→σ}{l:List α}{s:σ}(hl:l.length≤4611686018427387904)(h:∀ (j:Nat) x s,l[j]? = some x→B j x s=some (.nxt (f j x s))) : zk B l s=some (.nxt (l.zipIdx.foldl (fun s p=>f p.2 p.1 s) s)):=by
 unfold zk
 rw [if_pos hl]
 exact qjv l 0 s (fun j x s hx=>by simpa using h j x s hx)
theorem qm1 {B:Nat→σ→Option (Oc σ ρ)}{o:Oc σ ρ}(R:Nat→Nat→σ→Prop)
  (step:∀ i m s,R i (m+1) s→(∃ s',B i s=some (.nxt s')∧R (i+1) m s')∨(∃ s',B i s=some (.brk s')∧o = .nxt s')∨(∃ q,B i s=some (.ret q)∧o = .ret q))
  (fin:∀ i s,R i 0 s→o = .nxt s) : ∀ (m i:Nat) (s:σ),R i m s→ws B m i s=some o:=by
 intro m
 induction m with
 | zero=>intro i s h; rw [fin i s h]; exact Eq.refl _
 | succ m ih =>
  intro i s h
  rcases step i m s h with ⟨s',e,h'⟩ | ⟨s',e,rfl⟩ | ⟨q,e,rfl⟩
  ·simp only [ws,e]; exact ih _ _ h'
  ·simp only [ws,e]
  ·simp only [ws,e]
theorem qmj {B:Nat→σ→Option (Oc σ ρ)}{o:Oc σ ρ}{n:Nat}{s:σ}(hn:n≤4611686018427387904)(R:Nat→Nat→σ→Prop)(h0:R 0 n s)
  (step:∀ i m s,R i (m+1) s→(∃ s',B i s=some (.nxt s')∧R (i+1) m s')∨(∃ s',B i s=some (.brk s')∧o = .nxt s')∨(∃ q,B i s=some (.ret q)∧o = .ret q))
  (fin:∀ i s,R i 0 s→o = .nxt s) : ua B (n:Int) s=some o:=by
 unfold ua
 rw [if_pos (by omega),Int.toNat_natCast]
 exact qm1 R step fin n 0 s h0
theorem qkk {B:Nat→α→σ→Option (Oc σ ρ)}{q:ρ} : ∀ (l l':List α) (i:Nat) (s:σ),zq B l i s=some (.ret q)→zq B (l++l') i s=some (.ret q):=by
 intro l l'
 induction l with
 | nil=>intro i s h; simp [zq] at h
 | cons x r ih =>
  intro i s h
  simp only [zq,List.cons_append] at h ⊢
  split at h
  ·exact ih _ _ h
  ·simp at h
  ·exact h
  ·cases h
theorem qky {B:Nat→α→Bool→Option (Oc Bool ρ)}{c:Nat→α→Bool}{l:List α}{s:Bool}(hl:l.length≤4611686018427387904)(h:∀ (j:Nat) x s,l[j]? = some x→B j x s=some (.nxt (if c j x=true then false else s))) : zk B l s=some (.nxt (s && !(l.zipIdx.any fun p=>c p.2 p.1))):=by
 have:=qja (f:=fun j x s=>if c j x=true then false else s) (s:=s) hl h
 rw [this]
 congr 2
 clear this h hl
 have key:∀ (l:List (α × Nat)) (s:Bool),l.foldl (fun s p=>if c p.2 p.1=true then false else s) s=(s && !(l.any fun p=>c p.2 p.1)):=by
  intro l
  induction l with
  | nil=>intro s; simp
  | cons a r ih =>
   intro s
   simp only [List.foldl_cons,List.any_cons,ih]
   rcases Bool.eq_false_or_eq_true (c a.2 a.1) with h | h
   ·rw [if_pos h,h]; simp
   ·rw [if_neg (by rw [h]; exact Bool.false_ne_true),h]; simp
 exact key _ _

theorem u2 {l:List α}{i:Nat}{x:α}(h:l[i]? = some x) : z2 l (i:Int)=some x:=by simp [z2,h]
theorem kr {l:List α}{i:Int}(h0:0≤i)(h1:i<l.length) : ∃ x,z2 l i=some x∧l[i.toNat]? = some x:=by
 have:i.toNat<l.length:=by omega
 exact ⟨l[i.toNat],by simp [z2,h0,this],by simp [this]⟩
theorem qfe {l:List α}{i:Nat}(h:i≤l.length) : sl l 0 (i:Int)=some (l.take i):=by
 unfold sl
 rw [if_pos ⟨by omega,by omega,by omega⟩]
 simp
theorem kc {n:Int}(h0 : -9223372036854775808≤n)(h1:n≤9223372036854775807) : IntKind.wrap .i64 n=n:=IntWalk.i64_in _ (by omega)

end Go.Proofs.Ytddkoiapboeemaa.X
