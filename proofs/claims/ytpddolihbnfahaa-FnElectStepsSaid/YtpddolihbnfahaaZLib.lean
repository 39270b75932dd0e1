/- Plain facts on the loops of plain functions. -/
import Derived.Test.YtpddolihbnfahaaZP
set_option linter.unusedVariables false
set_option linter.unusedSimpArgs false
namespace Go.Proofs.Ytpddolihbnfahaa.X
open Go
variable {α β σ ρ:Type}

def Ev (F:Nat→Option α)(r:α) : Prop:=∃ K,∀ k,K≤k→F k=some r
theorem Ev.of {x:Option α}{r:α}(h:x=some r) : Ev (fun _=>x) r:=⟨0,fun _ _=>h⟩
theorem Ev.rfl {r:α} : Ev (fun _=>some r) r:=⟨0,fun _ _=>Eq.refl _⟩
theorem Ev.bind {F:Nat→Option α}{G:Nat→α→Option β}{a:α}{r:β}(h1:Ev F a)(h2:Ev (fun k=>G k a) r) : Ev (fun k=>(F k).bind (G k)) r:=by
 obtain ⟨K1,h1⟩:=h1
 obtain ⟨K2,h2⟩:=h2
 refine ⟨max K1 K2,fun k hk=>?_⟩
 show (F k).bind (G k)=some r
 rw [h1 k (by omega)]
 exact h2 k (by omega)
theorem Ev.jn {F:Nat→Option (Oc σ ρ)}{G:Nat→σ→Option ρ}{s:σ}{r:ρ}(h1:Ev F (.nxt s))(h2:Ev (fun k=>G k s) r) : Ev (fun k=>X.jn (F k) (G k)) r:=Ev.bind h1 h2
theorem Ev.jn_ret {F:Nat→Option (Oc σ ρ)}{G:Nat→σ→Option ρ}{r:ρ}(h1:Ev F (.ret r)) : Ev (fun k=>X.jn (F k) (G k)) r:=Ev.bind h1 Ev.rfl
theorem Ev.iteT {F G:Nat→Option α}{b:Bool}{r:α}(hb:b=true)(h:Ev F r) : Ev (fun k=>if b=true then F k else G k) r:=by
 subst hb
 exact h
theorem Ev.iteF {F G:Nat→Option α}{b:Bool}{r:α}(hb:b=false)(h:Ev G r) : Ev (fun k=>if b=true then F k else G k) r:=by
 subst hb
 exact h
theorem Ev.loop {B:σ→Option (Oc σ ρ)}{o:Oc σ ρ}{s:σ}(R:σ→Prop)(m:σ→Nat)(hs:R s)
  (step:∀ s,R s→(∃ s',B s=some (.nxt s')∧R s'∧m s'<m s)∨(∃ s',B s=some (.brk s')∧o = .nxt s')∨(∃ r,B s=some (.ret r)∧o = .ret r)) : Ev (fun k=>uy B k s) o:=by
 have key:∀ n s,m s<n→R s→∀ k,n≤k→uy B k s=some o:=by
  intro n
  induction n with
  | zero=>intro s h; omega
  | succ n ih =>
   intro s hm hs k hk
   obtain ⟨k,rfl⟩ : ∃ k',k=k'+1:=⟨k - 1,by omega⟩
   rcases step s hs with ⟨s',e,h',hlt⟩ | ⟨s',e,rfl⟩ | ⟨r,e,rfl⟩
   ·simp only [uy,e]
    exact ih s' (by omega) h' k (by omega)
   ·simp only [uy,e]
   ·simp only [uy,e]
 exact ⟨m s+1,fun k hk=>key _ s (by omega) hs k hk⟩
end Go.Proofs.Ytpddolihbnfahaa.X
