/- New groups, and steps one after the other. -/
import Derived.Test.YtdhibknhejhfaaaXEL14n
set_option linter.unusedVariables false
set_option linter.unusedSimpArgs false
namespace Go.Proofs.Ytdhibknhejhfaaa.X
open Go

theorem qkx {n:Nat}{E:List Int}(hn:n≤5)(he:E.length≤6) : Ev (fun k=>uo (fun s151=>xx (n:Int) E (List.replicate E.length 0) E s151.1 s151.2) k (0,⟨0,[],List.replicate E.length 0,E⟩)) (.nxt ((n:Int),um n E)):=by
 refine Ev.loop (fun s=>∃ i:Nat,i≤n∧s=((i:Int),um i E)) (fun s=>n - s.1.toNat) ⟨0,by omega,rfl⟩ ?_
 rintro s ⟨i,hi,rfl⟩
 unfold xx
 by_cases h:i<n
 ·refine .inl ⟨(((i+1:Nat) : Int),um (i+1) E),?_,⟨i+1,by omega,rfl⟩,by simp only [Int.toNat_natCast]; omega⟩
  rw [if_pos (by simpa using h),qcj (by omega),Option.bind_some]
  unfold k7
  rw [if_pos (by simp [um]; omega),Option.bind_some,qle (by omega)]
  simp only [um,qmo]
 ·have:i=n:=by omega
  subst this
  refine .inr (.inl ⟨((i:Int),um i E),?_,rfl⟩)
  rw [if_neg (by simp)]
  rfl
theorem qml (n:Int)(E:List Int)(hl:E.length≤1048576) : ∃ v:Readers_ × Bool,Ev (fun k=>kt k n E) v∧Ev (fun _=>ki n E) v∧(v.2=true→GrOk v.1∧∃ m,v.1=um m E∧(1≤m∧m≤5)∧(1≤E.length∧E.length≤6)∧∀ (i:Nat) (e:Int),E[i]? = some e→0≤e∧e≤100)∧v.1.nn≤1000∧((1≤n∧n≤5)→(1≤E.length∧E.length≤6)→(∀ (i:Nat) (e:Int),E[i]? = some e→0≤e∧e≤100)→v.2=true):=by
 by_cases h:(1≤n∧n≤5)∧(1≤E.length∧E.length≤6)
 ·obtain ⟨hn,he⟩:=h
  have c1:((!(zx n 1 5))||(!(zx (List.length E:Int) 1 6)))=false:=by
   simp only [zx,Bool.or_eq_false_iff,Bool.not_eq_false',Bool.and_eq_true,decide_eq_true_eq]; omega
  have c2:((!(zq n 1 5))||(!(zq (List.length E:Int) 1 6)))=false:=by
   simp only [zq,Bool.or_eq_false_iff,Bool.not_eq_false',Bool.and_eq_true,decide_eq_true_eq]; omega
  have hnn:n=((n.toNat:Nat) : Int):=by omega
  have sF:=ur (B:=fun _ i18 x19 _=>xh i18 x19) (Q:=fun _ (x:Int)=>¬ (0≤x∧x≤100)) (f:=fun _=>((⟨0,[],[],[]⟩ : Readers_),false)) (l:=E) (by omega) (fun i x hx=>by
   unfold xh
   refine qbp ?_
   simp only [zx,Bool.not_eq_true',Bool.and_eq_false_iff,decide_eq_false_iff_not]
   omega)
  have iF:=ur (B:=fun _ i1 x2 _=>kq (fun a0=>some (yf a0)) i1 x2) (Q:=fun _ (x:Int)=>¬ (0≤x∧x≤100)) (f:=fun i=>(i:Int)) (l:=E) (by omega) (fun i x hx=>by
   unfold kq yf
   simp only [Option.bind_some]
   refine qbp ?_
   simp only [zq,Bool.not_eq_true',Bool.and_eq_false_iff,decide_eq_false_iff_not]
   omega)
  rcases sF with ⟨i,x,h1,h2,h3,h4⟩ | ⟨h1,h2⟩
  ·rcases iF with ⟨j,y,g1,g2,g3,g4⟩ | ⟨g1,g2⟩
   ·refine ⟨(⟨0,[],[],[]⟩,false),?_,?_,(fun e=>by cases e),by decide,fun _ _ hE=>absurd (hE i x h1) h2⟩
    ·unfold kt
     exact Ev.iteF c1 (Ev.jn_ret h4)
    ·unfold ki ko k9
     refine Ev.bind (a:=true) (Ev.iteF c2 (Ev.bind (Ev.bind (Ev.jn_ret g4) ?_) Ev.rfl)) (Ev.iteT rfl Ev.rfl)
     exact Ev.of (by simp)
   ·exact absurd h2 (g1 i x h1)
  ·rcases iF with ⟨j,y,g1,g2,g3,g4⟩ | ⟨g1,g2⟩
   ·exact absurd g2 (h1 j y g1)
   ·have hE:∀ (i:Nat) (e:Int),E[i]? = some e→0≤e∧e≤100:=fun i e he=>Classical.not_not.1 (h1 i e he)
    refine ⟨(um n.toNat E,true),?_,?_,fun _=>⟨qkl (by omega) he hE,n.toNat,rfl,by omega,he,hE⟩,(qkl (by omega) he hE).nn_le,fun _ _ _=>rfl⟩
    ·unfold kt
     refine Ev.iteF c1 (Ev.jn h2 ?_)
     unfold qci
     refine Ev.bindp (qcj (by omega)) (Ev.bindp (u4 (by omega)) ?_)
     have:=qkx (n:=n.toNat) (E:=E) (by omega) he.2
     rw [←hnn] at this
     exact Ev.jn this Ev.rfl
    ·unfold ki ko k9
     refine Ev.bind (a:=false) (Ev.iteF c2 (Ev.bind (Ev.bind (Ev.jn g2 Ev.rfl) Ev.rfl) Ev.rfl)) (Ev.iteF rfl (Ev.bindp (qcj (by omega)) (Ev.bindp (u4 (by omega)) ?_)))
     have:=qhg (n:=n.toNat) (E:=E) (by omega) he.2
     rw [←hnn] at this
     exact Ev.jn this Ev.rfl
 ·refine ⟨(⟨0,[],[],[]⟩,false),?_,?_,(fun e=>by cases e),by decide,fun a b _=>absurd ⟨a,b⟩ h⟩
  ·unfold kt
   refine Ev.iteT ?_ Ev.rfl
   simp only [zx,Bool.or_eq_true,Bool.not_eq_true',Bool.and_eq_false_iff,decide_eq_false_iff_not]
   omega
  ·unfold ki
   refine Ev.bind (a:=true) (Ev.iteT ?_ Ev.rfl) (Ev.iteT rfl Ev.rfl)
   simp only [zq,Bool.or_eq_true,Bool.not_eq_true',Bool.and_eq_false_iff,decide_eq_false_iff_not]
   omega
inductive Plays:Readers_→List GroupStep→List Bool→Readers_→Prop where
 | nil (r:Readers_) : Plays r [] [] r
 | cons {r r' r2:Readers_} {x:GroupStep} {l:List GroupStep} {b:Bool} {d:List Bool} (h:StepOk r x b r') (t:Plays r' l d r2) : Plays r (x::l) (b::d) r2
theorem qt6:∀ {l:List GroupStep} (hw:∀ x∈l,inI x.K) {r:Readers_},GrOk r→∃ d r',Plays r l d r'∧GrOk r':=by
 intro l
 induction l with
 | nil=>intro hw r h; exact ⟨[],r,.nil r,h⟩
 | cons x l ih =>
  intro hw r h
  obtain ⟨b,r',hs⟩:=qng h (hw x (by simp))
  obtain ⟨d,r2,h1,h2⟩:=ih (fun y hy=>hw y (by simp [hy])) hs.2.2.2.1
  exact ⟨b::d,r2,.cons hs h1,h2⟩
theorem Plays.len {r r':Readers_}{l:List GroupStep}{d:List Bool}(h:Plays r l d r') : d.length=l.length:=by
 induction h with
 | nil=>rfl
 | cons _ _ ih=>simp [ih]
theorem Plays.cut {r r':Readers_}{l:List GroupStep}{d:List Bool}(h:Plays r l d r') : ∀ n:Nat,∃ rk,Plays r (l.take n) (d.take n) rk∧Plays rk (l.drop n) (d.drop n) r':=by
 induction h with
 | nil r=>intro n; exact ⟨r,by simpa using Plays.nil r,by simpa using Plays.nil r⟩
 | @cons r r1 r2 x l b d hs t ih =>
  intro n
  cases n with
  | zero=>exact ⟨r,Plays.nil r,.cons hs t⟩
  | succ n =>
   obtain ⟨rk,h1,h2⟩:=ih n
   exact ⟨rk,.cons hs h1,h2⟩
theorem Plays.evS {r r':Readers_}{l:List GroupStep}{d:List Bool}(h:Plays r l d r')(hr:GrOk r) : ∀ (i:Nat) (d0:List Bool),d0.length+l.length≤1000→Ev (fun _=>wj (fun i x (s:List Bool × Readers_)=>y3 i x s.1 s.2) l i (d0,r)) (.nxt (d0++d,r')):=by
 induction h with
 | nil r=>intro i d0 _; rw [List.append_nil]; exact Ev.rfl
 | @cons r r1 r2 x l b d hs t ih =>
  intro i d0 hl
  simp only [List.length_cons] at hl
  obtain ⟨_,⟨s,⟨K2,e2⟩,hs1⟩,hf,hr1,_⟩:=hs
  have e2:=e2 K2 (Nat.le_refl _)
  simp only at e2
  obtain ⟨K3,e3⟩:=qf0 (Nat.le_trans hr.nn_le (by omega))
  have e3:=e3 K3 (Nat.le_refl _)
  simp only at e3
  have ha:k7 1 d0 [b]=some (d0++[b]):=by unfold k7; rw [if_pos (by simp; omega)]
  have:=ih hr1 (i+1) (d0++[b]) (by simp; omega)
  rw [List.append_assoc] at this
  refine Ev.eqv this (fun k=>?_)
  have hb:y3 i x d0 r=some (.nxt (d0++[b],r1)):=by
   unfold y3
   rw [e3,Option.bind_some,e2,Option.bind_some]
   dsimp only
   unfold qby
   dsimp only
   rw [ha]
   cases b with
   | true=>rw [if_pos rfl,Option.bind_some,Option.bind_some,hs1 rfl]
   | false=>rw [if_neg (by decide),Option.bind_some,Option.bind_some,hf rfl]
  simp only [wj,hb]
theorem qq6 {n:Int}{E:List Int}{r r':Readers_}{l:List GroupStep}{d:List Bool}(hn:Ev (fun k=>kt k n E) (r,true))(hr:GrOk r)(h:Plays r l d r')(hr':GrOk r')(hl:l.length≤80) : Ev (fun k=>wa k n E l) (r',d,true):=by
 unfold wa
 refine Ev.bind hn (Ev.iteF (by simp; omega) (Ev.jn (s:=(d,r')) ?_ ?_))
 ·unfold jl
  simp only [if_pos (show l.length≤4611686018427387904 by omega)]
  exact h.evS hr 0 [] (by simp; omega)
 ·unfold qb0
  exact Ev.bind (qf0 (Nat.le_trans hr'.nn_le (by omega))) Ev.rfl
theorem ql1 {n:Int}{E:List Int}{r:Readers_}{b:Bool}{l:List GroupStep}(hn:Ev (fun k=>kt k n E) (r,b))(hb:b=false∨80<l.length) : Ev (fun k=>wa k n E l) (⟨0,[],[],[]⟩,[],false):=by
 unfold wa
 refine Ev.bind hn (Ev.iteT ?_ Ev.rfl)
 rcases hb with rfl | hb
 ·rfl
 ·simp; omega
end Go.Proofs.Ytdhibknhejhfaaa.X
