/- Plain facts on the loops of plain functions. -/
import Derived.Test.YtanblnjomhgphaaZP
set_option linter.unusedVariables false
set_option linter.unusedSimpArgs false
namespace Go.Proofs.Ytanblnjomhgphaa.X
open Go
variable {α β σ ρ:Type}

def Ev (F:Nat→Option α)(r:α) : Prop:=∃ K,∀ k,K≤k→F k=some r
theorem Ev.of {x:Option α}{r:α}(h:x=some r) : Ev (fun _=>x) r:=⟨0,fun _ _=>h⟩
theorem Ev.rfl {r:α} : Ev (fun _=>some r) r:=⟨0,fun _ _=>Eq.refl _⟩
theorem Ev.eqv {F G:Nat→Option α}{r:α}(h:Ev F r)(e:∀ k,G k=F k) : Ev G r:=by
 obtain ⟨K,h⟩:=h
 exact ⟨K,fun k hk=>(e k).trans (h k hk)⟩
theorem Ev.bind {F:Nat→Option α}{G:Nat→α→Option β}{a:α}{r:β}(h1:Ev F a)(h2:Ev (fun k=>G k a) r) : Ev (fun k=>(F k).bind (G k)) r:=by
 obtain ⟨K1,h1⟩:=h1
 obtain ⟨K2,h2⟩:=h2
 refine ⟨max K1 K2,fun k hk=>?_⟩
 show (F k).bind (G k)=some r
 rw [h1 k (by omega)]
 exact h2 k (by omega)
theorem Ev.bindp {x:Option α}{G:Nat→α→Option β}{a:α}{r:β}(h1:x=some a)(h2:Ev (fun k=>G k a) r) : Ev (fun k=>x.bind (G k)) r:=Ev.bind (Ev.of h1) h2
theorem Ev.jn {F:Nat→Option (Oc σ ρ)}{G:Nat→σ→Option ρ}{s:σ}{r:ρ}(h1:Ev F (.nxt s))(h2:Ev (fun k=>G k s) r) : Ev (fun k=>X.jn (F k) (G k)) r:=Ev.bind h1 h2
theorem Ev.jn_ret {F:Nat→Option (Oc σ ρ)}{G:Nat→σ→Option ρ}{r:ρ}(h1:Ev F (.ret r)) : Ev (fun k=>X.jn (F k) (G k)) r:=Ev.bind h1 Ev.rfl
theorem Ev.iteT {F G:Nat→Option α}{b:Bool}{r:α}(hb:b=true)(h:Ev F r) : Ev (fun k=>if b=true then F k else G k) r:=by
 subst hb
 exact h
theorem Ev.iteF {F G:Nat→Option α}{b:Bool}{r:α}(hb:b=false)(h:Ev G r) : Ev (fun k=>if b=true then F k else G k) r:=by
 subst hb
 exact h
theorem Ev.two {F:Nat→Option α}{r r':α}(h:Ev F r)(h':Ev F r') : r=r':=by
 obtain ⟨K,h⟩:=h
 obtain ⟨K',h'⟩:=h'
 exact Option.some.inj ((h (max K K') (by omega)).symm.trans (h' _ (by omega)))
theorem Ev.loop {B:σ→Option (Oc σ ρ)}{o:Oc σ ρ}{s:σ}(R:σ→Prop)(m:σ→Nat)(hs:R s)
  (step:∀ s,R s→(∃ s',B s=some (.nxt s')∧R s'∧m s'<m s)∨(∃ s',B s=some (.brk s')∧o = .nxt s')∨(∃ r,B s=some (.ret r)∧o = .ret r)) : Ev (fun k=>wo B k s) o:=by
 have key:∀ n s,m s<n→R s→∀ k,n≤k→wo B k s=some o:=by
  intro n
  induction n with
  | zero=>intro s h; omega
  | succ n ih =>
   intro s hm hs k hk
   obtain ⟨k,rfl⟩ : ∃ k',k=k'+1:=⟨k - 1,by omega⟩
   rcases step s hs with ⟨s',e,h',hlt⟩ | ⟨s',e,rfl⟩ | ⟨r,e,rfl⟩
   ·simp only [wo,e]
    exact ih s' (by omega) h' k (by omega)
   ·simp only [wo,e]
   ·simp only [wo,e]
 exact ⟨m s+1,fun k hk=>key _ s (by omega) hs k hk⟩
theorem Ev.loopQ {B:σ→Option (Oc σ ρ)}{s:σ}(Q:Oc σ ρ→Prop)(R:σ→Prop)(m:σ→Nat)(hs:R s)
  (step:∀ s,R s→(∃ s',B s=some (.nxt s')∧R s'∧m s'<m s)∨(∃ s',B s=some (.brk s')∧Q (.nxt s'))∨(∃ r,B s=some (.ret r)∧Q (.ret r))) : ∃ o,Ev (fun k=>wo B k s) o∧Q o:=by
 have key:∀ n s,m s<n→R s→∃ o,Q o∧∀ k,n≤k→wo B k s=some o:=by
  intro n
  induction n with
  | zero=>intro s h; omega
  | succ n ih =>
   intro s hm hs
   rcases step s hs with ⟨s',e,h',hlt⟩ | ⟨s',e,hq⟩ | ⟨r,e,hq⟩
   ·obtain ⟨o,ho,hk⟩:=ih s' (by omega) h'
    refine ⟨o,ho,fun k hk'=>?_⟩
    obtain ⟨k,rfl⟩ : ∃ k',k=k'+1:=⟨k - 1,by omega⟩
    simp only [wo,e]
    exact hk k (by omega)
   ·refine ⟨_,hq,fun k hk'=>?_⟩
    obtain ⟨k,rfl⟩ : ∃ k',k=k'+1:=⟨k - 1,by omega⟩
    simp only [wo,e]
   ·refine ⟨_,hq,fun k hk'=>?_⟩
    obtain ⟨k,rfl⟩ : ∃ k',k=k'+1:=⟨k - 1,by omega⟩
    simp only [wo,e]
 obtain ⟨o,ho,hk⟩:=key (m s+1) s (by omega) hs
 exact ⟨o,⟨m s+1,hk⟩,ho⟩
theorem Ev.loopQk {B:Nat→σ→Option (Oc σ ρ)}{s:σ}(Q:Oc σ ρ→Prop)(R:σ→Prop)(m:σ→Nat)(hs:R s)
  (step:∀ s,R s→(∃ s',Ev (fun k=>B k s) (.nxt s')∧R s'∧m s'<m s)∨(∃ s',Ev (fun k=>B k s) (.brk s')∧Q (.nxt s'))∨(∃ r,Ev (fun k=>B k s) (.ret r)∧Q (.ret r))) : ∃ o,Ev (fun k=>wo (B k) k s) o∧Q o:=by
 have key:∀ n s,m s<n→R s→∃ o,Q o∧∃ K,∀ k j,K≤k→n≤j→wo (B k) j s=some o:=by
  intro n
  induction n with
  | zero=>intro s h; omega
  | succ n ih =>
   intro s hm hs
   rcases step s hs with ⟨s',⟨K1,e⟩,h',hlt⟩ | ⟨s',⟨K1,e⟩,hq⟩ | ⟨r,⟨K1,e⟩,hq⟩
   ·obtain ⟨o,ho,K,hk⟩:=ih s' (by omega) h'
    refine ⟨o,ho,max K K1,fun k j hk' hj=>?_⟩
    obtain ⟨j,rfl⟩ : ∃ j',j=j'+1:=⟨j - 1,by omega⟩
    have:=e k (by omega)
    simp only at this
    simp only [wo,this]
    exact hk k j (by omega) (by omega)
   ·refine ⟨_,hq,K1,fun k j hk' hj=>?_⟩
    obtain ⟨j,rfl⟩ : ∃ j',j=j'+1:=⟨j - 1,by omega⟩
    have:=e k hk'
    simp only at this
    simp only [wo,this]
   ·refine ⟨_,hq,K1,fun k j hk' hj=>?_⟩
    obtain ⟨j,rfl⟩ : ∃ j',j=j'+1:=⟨j - 1,by omega⟩
    have:=e k hk'
    simp only at this
    simp only [wo,this]
 obtain ⟨o,ho,K,hk⟩:=key (m s+1) s (by omega) hs
 exact ⟨o,⟨max K (m s+1),fun k h=>hk k k (by omega) (by omega)⟩,ho⟩
theorem y9 {l:List α}{i:Nat}{x:α}(h:l[i]? = some x) : zy l (i:Int)=some x:=by simp [zy,h]
theorem qmu {l:List α}{i:Int}(h0:0≤i)(h1:i<l.length) : ∃ x,zy l i=some x∧l[i.toNat]? = some x:=by
 have:i.toNat<l.length:=by omega
 exact ⟨l[i.toNat],by simp [zy,h0,this],by simp [this]⟩
theorem qiv {l:List α}{i:Nat}(h:i≤l.length) : sl l 0 (i:Int)=some (l.take i):=by
 unfold sl
 rw [if_pos ⟨by omega,by omega,by omega⟩]
 simp
theorem zaf {l:List α}{i:Nat}(h:i≤l.length) : sl l (i:Int) (l.length:Nat)=some (l.drop i):=by
 unfold sl
 rw [if_pos ⟨by omega,by omega,by omega⟩]
 simp
theorem k9 {n:Int}(h0 : -9223372036854775808≤n)(h1:n≤9223372036854775807) : IntKind.wrap .i64 n=n:=IntWalk.i64_in _ (by omega)

end Go.Proofs.Ytanblnjomhgphaa.X
