/- SettleGroup: what it answers. -/
import Derived.Test.YtefgfcalgjmhjaaXEL11t
set_option linter.unusedVariables false
set_option linter.unusedSimpArgs false
namespace Go.Proofs.Ytefgfcalgjmhjaa.X
open Go

def qbd (R:List Replica)(x:Replica)(i:Nat) : List Replica:=List.replicate i x++R.drop i
theorem qlp {R:List Replica}{x:Replica}{i j:Nat}(hi:i≤R.length)(hj:j<R.length) : (qbd R x i)[j]? = some (if j<i then x else R[j]):=by
 unfold qbd
 by_cases h:j<i
 ·rw [List.getElem?_append_left (by simpa using h),if_pos h]
  simp [h]
 ·rw [List.getElem?_append_right (by simpa using h),if_neg h,List.length_replicate,List.getElem?_drop,show i+(j - i)=j by omega]
  exact List.getElem?_eq_getElem hj
theorem qlg {R:List Replica}{x:Replica}{i:Nat}(hi:i<R.length) : (qbd R x i).set i x=qbd R x (i+1):=by
 unfold qbd
 rw [List.set_append_right _ _ (by simp),List.length_replicate,Nat.sub_self,List.drop_eq_getElem_cons hi,List.set_cons_zero,List.replicate_succ']
 simp
theorem q45 {R:List Replica}{x:Replica}{i:Nat}(hi:i≤R.length) : (qbd R x i).length=R.length:=by
 unfold qbd; simp; omega
theorem qtm {R:List Replica}{x:Replica} : qbd R x R.length=List.replicate R.length x:=by
 unfold qbd; simp
section
variable {g:Group}
theorem qn5 {s:Group}{i:Nat}{x y:Replica}{L:List Row}(hL:L.length≤30)(hx:s.Replicas[i]? = some x)(hxl:x.Log.length≤30)(hy:zy s.Replicas s.Leader=some y)(hyl:y.Log=L)(hne:s.Leader≠(i:Int)) :
  Ev (fun k=>yc k s (i:Int) 30) ⟨s.Epoch,s.Leader,s.InStep,s.High,s.Replicas.set i ⟨L,s.Epoch,L.length⟩⟩:=by
 have hi:i<s.Replicas.length:=(List.getElem?_eq_some_iff.1 hx).1
 have hp:=qb5 (a:=x.Log) (b:=L)
 have hs:=qfk (g:=s) (i:=(i:Int)) (x:=x) (y:=y) (by omega) (by rw [hyl]; omega) (ju hx) rfl hy
 rw [hyl] at hs
 unfold yc
 have s1:sl L ((pre x.Log L:Nat) : Int) (L.length:Nat)=some (L.drop (pre x.Log L)):=qjz hp.2
 have s2:sl x.Log 0 ((pre x.Log L:Nat) : Int)=some (x.Log.take (pre x.Log L)):=qa9 hp.1
 have hm:mnI 30 ((L.drop (pre x.Log L)).length:Int)=((L.drop (pre x.Log L)).length:Nat):=by
  unfold mnI
  have:(L.drop (pre x.Log L)).length≤30:=by rw [List.length_drop]; omega
  split <;> omega
 refine Ev.bind hs (Ev.bindp hy ?_)
 rw [hyl]
 refine Ev.bindp s1 (Ev.bindp (ju hx) ?_)
 simp only [qf0 hne]
 refine Ev.bindp s2 (Ev.bindp (qaf (by rw [List.length_take]; omega)) ?_)
 rw [hm]
 refine Ev.bindp (a:=L.drop (pre x.Log L)) (by rw [qa9 (Nat.le_refl _),List.take_length]) (Ev.bindp (a:=L) ?_ ?_)
 ·unfold j7
  rw [if_pos (by rw [List.length_take,List.length_drop]; omega),qk5,List.take_append_drop]
 ·refine Ev.bind (a:=⟨s.Epoch,s.Leader,s.InStep,s.High,s.Replicas.set i ⟨L,s.Epoch,L.length⟩⟩) ?_ Ev.rfl
  unfold j8
  refine Ev.bindp (ju (i:=i) (x:=⟨L,x.Epoch,x.Known⟩) (by dsimp only; rw [Int.toNat_natCast,List.getElem?_set_self hi])) ?_
  dsimp only
  rw [Int.toNat_natCast,List.set_set]
  exact Ev.rfl
theorem q3n {s:Group}{i:Nat}{x y:Replica}{L:List Row}(hL:L.length≤30)(hx:s.Replicas[i]? = some x)(hxl:x.Log.length≤30)(hy:zy s.Replicas s.Leader=some y)(hyl:y.Log=L)(hne:s.Leader≠(i:Int)) :
  Ev (fun k=>xy k s (i:Int) 30) ⟨s.Epoch,s.Leader,s.InStep,s.High,s.Replicas.set i ⟨L,s.Epoch,L.length⟩⟩:=by
 have hp:=qb5 (a:=x.Log) (b:=L)
 unfold xy
 refine Ev.bindp hy (Ev.bindp (ju hx) ?_)
 simp only [qf0 hne]
 rw [hyl]
 refine Ev.bind (qm5 (by omega)) ?_
 rw [ka (n:=(List.length L:Int) - ((pre x.Log L:Nat) : Int)) (by omega) (by omega)]
 refine Ev.bind (a:=(List.length L:Int) - ((pre x.Log L:Nat) : Int)) ?_ ?_
 ·by_cases h:(List.length L:Int) - ((pre x.Log L:Nat) : Int)<30
  ·exact Ev.iteT (by simpa using h) Ev.rfl
  ·refine Ev.iteF (by simpa using h) ?_
   rw [show (List.length L:Int) - ((pre x.Log L:Nat) : Int)=30 by omega]
   exact Ev.rfl
 ·unfold um
  rw [hyl,show ((pre x.Log L:Nat) : Int)+((List.length L:Int) - ((pre x.Log L:Nat) : Int))=(L.length:Nat) by omega,ka (by omega) (by omega)]
  refine Ev.bindp (a:=L) (by rw [qa9 (Nat.le_refl _),List.take_length]) (Ev.bindp (qaf (by omega)) ?_)
  rw [Int.toNat_natCast]
  exact Ev.rfl
end
theorem q5m {α:Type}{f:α→Nat}{x:α} : ∀ {n:Nat},yz f (List.replicate n x)=n*f x:=by
 intro n
 induction n with
 | zero=>simp [yz]
 | succ n ih=>rw [List.replicate_succ]; simp only [yz,ih]; rw [Nat.succ_mul]; omega
theorem qsb {s:Group}{i:Nat}{x:Replica}(hx:s.Replicas[i]? = some x) : Ev (fun _=>j8 s (i:Int)) ⟨s.Epoch,s.Leader,s.InStep,s.High,s.Replicas.set i ⟨x.Log,s.Epoch,x.Log.length⟩⟩:=by
 unfold j8
 refine Ev.bindp (ju hx) ?_
 rw [Int.toNat_natCast]
 exact Ev.rfl
theorem qla {i:Nat}{s s':Group}(h1:(i:Int)=s.Leader→Ev (fun _=>j8 s (i:Int)) s')(h2:(i:Int)≠s.Leader→Ev (fun k=>yc k s (i:Int) 30) s')(hl:s'.InStep.length≤1000) : Ev (fun k=>ym k i s s.Replicas) (.nxt (⟨s'.Epoch,s'.Leader,s'.InStep++[(i:Int)],s'.High,s'.Replicas⟩,s'.Replicas)):=by
 have hfin:Ev (fun _=>ut i s' s'.InStep s'.Replicas) (.nxt (⟨s'.Epoch,s'.Leader,s'.InStep++[(i:Int)],s'.High,s'.Replicas⟩,s'.Replicas)):=by
  unfold ut
  rw [q07 (by omega),Option.bind_some]
  exact Ev.rfl
 unfold ym
 by_cases e:(i:Int)=s.Leader
 ·exact Ev.bind (a:=(s',s'.InStep,s'.Replicas)) (Ev.iteT (by simpa using e) (Ev.bind (h1 e) Ev.rfl)) hfin
 ·exact Ev.bind (a:=(s',s'.InStep,s'.Replicas)) (Ev.iteF (by simpa using e) (Ev.bind (h2 e) Ev.rfl)) hfin
theorem qmo {v_0:Group}{L:List Row}{X y:Replica}(r1:2≤v_0.Replicas.length)(r2:v_0.Replicas.length≤4)(hm:qe1 v_0.InStep v_0.Replicas.length)(hr:∀ (j:Nat) (z:Replica),v_0.Replicas[j]? = some z→z.Log.length≤30)(hy2:v_0.Replicas[v_0.Leader.toNat]? = some y)(hyl:y.Log=L)(l1:0≤v_0.Leader)(l2:v_0.Leader<v_0.Replicas.length)(hLl:L.length≤30)(hN:(⟨L,v_0.Epoch,(L.length:Int)⟩ : Replica)=X) : Ev (fun k=>wz (fun i59 s155=>ym k i59 s155.1 s155.2) (List.length v_0.Replicas:Int) (⟨v_0.Epoch,v_0.Leader,[],v_0.High,v_0.Replicas⟩,v_0.Replicas)) (.nxt (⟨v_0.Epoch,v_0.Leader,w8 v_0.Replicas.length,v_0.High,List.replicate v_0.Replicas.length X⟩,List.replicate v_0.Replicas.length X)):=by
 have hld:v_0.Leader=((v_0.Leader.toNat:Nat) : Int):=by omega
 have hldlt:v_0.Leader.toNat<v_0.Replicas.length:=by omega
 have hXL:X.Log=L:=by rw [←hN]
 have hlog:∀ j (hj:j<v_0.Replicas.length),(v_0.Replicas[j]).Log.length≤30:=fun j hj=>hr j _ (List.getElem?_eq_getElem hj)
 have gInt:∀ {R:List Replica} {z:Replica},R[v_0.Leader.toNat]? = some z→zy R v_0.Leader=some z:=fun h=>by unfold zy; rw [if_pos l1]; exact h
 have hnl:=qcg hm
 simp only [qep]
 refine u1 (B:=fun k i _ s=>ym k i s.1 s.2) (by simp; omega) (fun i q s=>i+q.length=v_0.Replicas.length∧s=(⟨v_0.Epoch,v_0.Leader,w8 i,v_0.High,qbd v_0.Replicas X i⟩,qbd v_0.Replicas X i)) ⟨by simp,by simp [qbd,w8]⟩ (fun i u q s ⟨h1,hs⟩ => .inl ?_) (fun i s ⟨h1,hs⟩=>?_)
 ·subst hs
  simp only [List.length_cons] at h1
  have hi:i<v_0.Replicas.length:=by omega
  refine ⟨(⟨v_0.Epoch,v_0.Leader,w8 (i+1),v_0.High,qbd v_0.Replicas X (i+1)⟩,qbd v_0.Replicas X (i+1)),?_,by omega,rfl⟩
  have hxi:=qlp (R:=v_0.Replicas) (x:=X) (i:=i) (j:=i) (by omega) hi
  rw [if_neg (by omega)] at hxi
  have hyl2:=qlp (R:=v_0.Replicas) (x:=X) (i:=i) (j:=v_0.Leader.toNat) (by omega) hldlt
  have hst:=qla (i:=i) (s:=⟨v_0.Epoch,v_0.Leader,w8 i,v_0.High,qbd v_0.Replicas X i⟩) (s':=⟨v_0.Epoch,v_0.Leader,w8 i,v_0.High,qbd v_0.Replicas X (i+1)⟩) (fun e=>by
   have e:(i:Int)=v_0.Leader:=e
   have ei:i=v_0.Leader.toNat:=by omega
   have hz:(v_0.Replicas[i]).Log=L:=by
    have:v_0.Replicas[i]? = some y:=by rw [ei]; exact hy2
    have h2:=List.getElem?_eq_getElem hi
    rw [this] at h2
    rw [←hyl]
    exact congrArg Replica.Log (Option.some.inj h2).symm
   have hk:=qsb (s:=⟨v_0.Epoch,v_0.Leader,w8 i,v_0.High,qbd v_0.Replicas X i⟩) (i:=i) hxi
   dsimp only at hk
   rw [hz,hN,qlg hi] at hk
   exact hk) (fun e=>by
   have e:(i:Int)≠v_0.Leader:=e
   have:=qn5 (s:=⟨v_0.Epoch,v_0.Leader,w8 i,v_0.High,qbd v_0.Replicas X i⟩) (i:=i) hLl hxi (hlog i hi) (gInt hyl2) (by
    split
    ·exact hXL
    ·have h2:=List.getElem?_eq_getElem hldlt
     rw [hy2] at h2
     rw [←hyl]
     exact congrArg Replica.Log (Option.some.inj h2).symm) (fun h=>e h.symm)
   dsimp only at this
   rw [hN,qlg hi] at this
   exact this) (by dsimp only; rw [qh2]; omega)
  dsimp only at hst
  rw [←qfc] at hst
  exact hst
 ·subst hs
  simp only [List.length_nil,Nat.add_zero] at h1
  rw [h1,qtm]
end Go.Proofs.Ytefgfcalgjmhjaa.X
