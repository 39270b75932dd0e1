/- Pictures of worlds: copies, new worlds. -/
import Derived.Test.YtpkiieniipenjaaXCK
import Derived.Test.YtpkiieniipenjaaZLib3
import Derived.WalkKit
set_option linter.unusedVariables false
set_option linter.unusedSimpArgs false
namespace Go.Proofs.Ytpkiieniipenjaa.X
open Go

theorem qb9 {α:Type}{b:Nat}{l:List α}(h:l.length*b≤70368744177664) : ye b ([] : List α) l=some l:=by
 unfold ye
 rw [if_pos (by simpa using h)]
 simp
theorem js {α:Type}{l:List α}{i:Nat}(h:i<l.length) : ∃ x,l[i]? = some x:=⟨l[i],List.getElem?_eq_getElem h⟩
theorem qpy {s:Snap}(h:s.nn≤1048576) : s.Amounts.length≤1048576∧s.Chans.length≤1048576∧s.Pictures.length≤1048576∧(∀ (i:Nat) (x:Chan),s.Chans[i]? = some x→x.Way.length≤1048576)∧∀ (i:Nat) (x:Picture),s.Pictures[i]? = some x→x.In.length≤1048576∧x.Closed.length≤1048576:=by
 have hh:s.Amounts.length+(nnL Chan.nn s.Chans+(nnL Picture.nn s.Pictures+0))≤1048576:=h
 have h1:=qoo (f:=Chan.nn) (l:=s.Chans)
 have h2:=qoo (f:=Picture.nn) (l:=s.Pictures)
 refine ⟨by omega,by omega,by omega,fun i x hx=>?_,fun i x hx=>?_⟩
 ·have:=qo0 (f:=Chan.nn) hx
  have h3:x.nn=x.Way.length+0:=rfl
  omega
 ·have:=qo0 (f:=Picture.nn) hx
  have h3:x.nn=x.In.length+(x.Closed.length+0):=rfl
  omega
theorem qhd {α σ ρ:Type}{B:Nat→α→σ→Option (Oc σ ρ)}{l:List α}{mk:List α→σ}(hl:l.length≤1048576)(hB:∀ i x,l[i]? = some x→B i x (mk (l.take i))=some (.nxt (mk (l.take i++[x])))) : Ev (fun _=>jk B l (mk [])) (.nxt (mk l)):=by
 refine xg (B:=fun _=>B) (by omega) (fun i q s=>l.drop i=q∧s=mk (l.take i)) ⟨rfl,by simp⟩ (fun i x q s ⟨hq,hs⟩ => .inl ?_) (fun i s ⟨hq,hs⟩=>?_)
 ·subst hs
  have hx:l[i]? = some x:=by have:=congrArg (fun z=>z[0]?) hq; simpa using this
  refine ⟨_,Ev.of (hB i x hx),by have:=congrArg (List.drop 1) hq; simpa [List.drop_drop] using this,?_⟩
  rw [List.take_add_one,hx]
  rfl
 ·subst hs
  have hi:l.length≤i:=by have:=congrArg List.length hq; simp at this; omega
  rw [List.take_of_length_le hi]
theorem qd0 {s:Snap}(h:s.nn≤1048576) : Ev (fun _=>ur s) s:=by
 obtain ⟨h1,h2,h3,h4,h5⟩:=qpy h
 unfold ur
 refine Ev.bindp (qb9 (by omega)) (Ev.jn (qhd (mk:=fun r=>(⟨s.Amounts,r,[],s.Sent,s.Total⟩ : Snap)) h2 (fun i x hx=>?_)) ?_)
 ·have:=h4 i x hx
  unfold qds
  rw [qb9 (by omega),Option.bind_some]
  unfold ye
  rw [if_pos (by dsimp only; rw [List.length_take]; simp; omega)]
  rfl
 ·unfold qfx
  dsimp only
  refine Ev.jn (qhd (mk:=fun r=>(⟨s.Amounts,s.Chans,r,s.Sent,s.Total⟩ : Snap)) h3 (fun i x hx=>?_)) Ev.rfl
  obtain ⟨a,b⟩:=h5 i x hx
  unfold qdu
  rw [qb9 (by omega),Option.bind_some,qb9 (by omega),Option.bind_some]
  unfold ye
  rw [if_pos (by dsimp only; rw [List.length_take]; simp; omega)]
  rfl
def ya (p:Nat) : List Chan:=(List.range p).flatMap fun (a:Nat)=>((List.range p).filter fun (b:Nat)=>decide (a≠b)).map fun (b:Nat)=>⟨(a:Int),(b:Int),[]⟩
def uu (p:Nat)(a:Int) : Snap:=⟨List.replicate p a,ya p,List.replicate p ⟨false,0,List.replicate p 0,List.replicate p false⟩,0,(p:Int)*a⟩
theorem qp8 {α:Type}{F:Nat→Option α}{r:α}(h:∀ k,F (k+10)=some r) : Ev F r:=⟨10,fun k hk=>by
 obtain ⟨j,rfl⟩ : ∃ j,k=j+10:=⟨k - 10,by omega⟩
 exact h j⟩
theorem qhz {n a:Int}(h1:2≤n)(h2:n≤4)(ha:0≤a∧a≤250) : IntKind.wrap .i64 (n*a)=n*a:=by
 have h3:0≤n*a:=Int.mul_nonneg (by omega) ha.1
 have h4:n*a≤4*250:=Int.mul_le_mul h2 ha.2 ha.1 (by omega)
 exact kc (by omega) (by omega)
theorem qpv {n a:Int}(h1:2≤n∧n≤4)(ha:0≤a∧a≤250) : ((!(ja n 2 4))||(!(ja a 0 250)))=false:=by
 simp only [ja,Bool.or_eq_false_iff,Bool.not_eq_false',Bool.and_eq_true,decide_eq_true_eq]; omega
theorem q60 {a:Int}(ha:0≤a∧a≤250) : Ev (fun k=>ku k 2 a) (uu 2 a,true):=by
 unfold ku
 refine Ev.iteF (qpv (by omega) ha) ?_
 rw [qhz (n:=2) (by omega) (by omega) ha]
 exact qp8 (fun k=>rfl)
theorem qs0 {a:Int}(ha:0≤a∧a≤250) : Ev (fun _=>wd 2 a) (uu 2 a):=by
 unfold wd
 rw [qhz (n:=2) (by omega) (by omega) ha]
 exact Ev.of rfl
theorem q6y {a:Int}(ha:0≤a∧a≤250) : Ev (fun k=>ku k 3 a) (uu 3 a,true):=by
 unfold ku
 refine Ev.iteF (qpv (by omega) ha) ?_
 rw [qhz (n:=3) (by omega) (by omega) ha]
 exact qp8 (fun k=>rfl)
theorem qu0 {a:Int}(ha:0≤a∧a≤250) : Ev (fun _=>wd 3 a) (uu 3 a):=by
 unfold wd
 rw [qhz (n:=3) (by omega) (by omega) ha]
 exact Ev.of rfl
theorem q7k {a:Int}(ha:0≤a∧a≤250) : Ev (fun k=>ku k 4 a) (uu 4 a,true):=by
 unfold ku
 refine Ev.iteF (qpv (by omega) ha) ?_
 rw [qhz (n:=4) (by omega) (by omega) ha]
 exact qp8 (fun k=>rfl)
theorem qsa {a:Int}(ha:0≤a∧a≤250) : Ev (fun _=>wd 4 a) (uu 4 a):=by
 unfold wd
 rw [qhz (n:=4) (by omega) (by omega) ha]
 exact Ev.of (by kernel_rfl)
theorem qrc (p a:Int) : (∃ n:Nat,p=n∧(2≤n∧n≤4)∧(0≤a∧a≤250)∧Ev (fun k=>ku k p a) (uu n a,true)∧Ev (fun _=>wd p a) (uu n a))∨(¬ ((2≤p∧p≤4)∧(0≤a∧a≤250))∧Ev (fun k=>ku k p a) (⟨[],[],[],0,0⟩,false)):=by
 by_cases h:(2≤p∧p≤4)∧(0≤a∧a≤250)
 ·refine .inl ?_
  obtain ⟨hp,ha⟩:=h
  have:p=2∨p=3∨p=4:=by omega
  rcases this with rfl | rfl | rfl
  ·exact ⟨2,rfl,by omega,ha,q60 ha,qs0 ha⟩
  ·exact ⟨3,rfl,by omega,ha,q6y ha,qu0 ha⟩
  ·exact ⟨4,rfl,by omega,ha,q7k ha,qsa ha⟩
 ·refine .inr ⟨h,?_⟩
  unfold ku
  refine Ev.iteT ?_ Ev.rfl
  simp only [ja,Bool.or_eq_true,Bool.not_eq_true',Bool.and_eq_false_iff,decide_eq_false_iff_not]
  omega
end Go.Proofs.Ytpkiieniipenjaa.X
