/- SettleGroup: what it answers. -/
import Derived.Test.YtefgfcalgjmhjaaXGL11t
set_option linter.unusedVariables false
set_option linter.unusedSimpArgs false
namespace Go.Proofs.Ytefgfcalgjmhjaa.X
open Go

def xz (R:List Replica)(x:Replica)(i:Nat) : List Replica:=List.replicate i x++R.drop i
theorem qhs {R:List Replica}{x:Replica}{i j:Nat}(hi:i≤R.length)(hj:j<R.length) : (xz R x i)[j]? = some (if j<i then x else R[j]):=by
 unfold xz
 by_cases h:j<i
 ·rw [List.getElem?_append_left (by simpa using h),if_pos h]
  simp [h]
 ·rw [List.getElem?_append_right (by simpa using h),if_neg h,List.length_replicate,List.getElem?_drop,show i+(j - i)=j by omega]
  exact List.getElem?_eq_getElem hj
theorem qhb {R:List Replica}{x:Replica}{i:Nat}(hi:i<R.length) : (xz R x i).set i x=xz R x (i+1):=by
 unfold xz
 rw [List.set_append_right _ _ (by simp),List.length_replicate,Nat.sub_self,List.drop_eq_getElem_cons hi,List.set_cons_zero,List.replicate_succ']
 simp
theorem qu2 {R:List Replica}{x:Replica}{i:Nat}(hi:i≤R.length) : (xz R x i).length=R.length:=by
 unfold xz; simp; omega
theorem qmv {R:List Replica}{x:Replica} : xz R x R.length=List.replicate R.length x:=by
 unfold xz; simp
section
variable {g:Group}
theorem qpg {s:Group}{i:Nat}{x y:Replica}{L:List Row}(hL:L.length≤30)(hx:s.Replicas[i]? = some x)(hxl:x.Log.length≤30)(hy:zy s.Replicas s.Leader=some y)(hyl:y.Log=L)(hne:s.Leader≠(i:Int)) :
  Ev (fun k=>yp k s (i:Int) 30) ⟨s.Epoch,s.Leader,s.InStep,s.High,s.Replicas.set i ⟨L,s.Epoch,L.length⟩⟩:=by
 have hi:i<s.Replicas.length:=(List.getElem?_eq_some_iff.1 hx).1
 have hp:=qcn (a:=x.Log) (b:=L)
 have hs:=qgd (g:=s) (i:=(i:Int)) (x:=x) (y:=y) (by omega) (by rw [hyl]; omega) (kd hx) rfl hy
 rw [hyl] at hs
 unfold yp
 have s1:sl L ((pre x.Log L:Nat) : Int) (L.length:Nat)=some (L.drop (pre x.Log L)):=qk0 hp.2
 have s2:sl x.Log 0 ((pre x.Log L:Nat) : Int)=some (x.Log.take (pre x.Log L)):=qbn hp.1
 have hm:mnI 30 ((L.drop (pre x.Log L)).length:Int)=((L.drop (pre x.Log L)).length:Nat):=by
  unfold mnI
  have:(L.drop (pre x.Log L)).length≤30:=by rw [List.length_drop]; omega
  split <;> omega
 refine Ev.bind hs (Ev.bindp hy ?_)
 rw [hyl]
 refine Ev.bindp s1 (Ev.bindp (kd hx) ?_)
 simp only [qh5 hne]
 refine Ev.bindp s2 (Ev.bindp (qan (by rw [List.length_take]; omega)) ?_)
 rw [hm]
 refine Ev.bindp (a:=L.drop (pre x.Log L)) (by rw [qbn (Nat.le_refl _),List.take_length]) (Ev.bindp (a:=L) ?_ ?_)
 ·unfold ki
  rw [if_pos (by rw [List.length_take,List.length_drop]; omega),qne,List.take_append_drop]
 ·refine Ev.bind (a:=⟨s.Epoch,s.Leader,s.InStep,s.High,s.Replicas.set i ⟨L,s.Epoch,L.length⟩⟩) ?_ Ev.rfl
  unfold kr
  refine Ev.bindp (kd (i:=i) (x:=⟨L,x.Epoch,x.Known⟩) (by dsimp only; rw [Int.toNat_natCast,List.getElem?_set_self hi])) ?_
  dsimp only
  rw [Int.toNat_natCast,List.set_set]
  exact Ev.rfl
theorem qo2 {s:Group}{i:Nat}{x y:Replica}{L:List Row}(hL:L.length≤30)(hx:s.Replicas[i]? = some x)(hxl:x.Log.length≤30)(hy:zy s.Replicas s.Leader=some y)(hyl:y.Log=L)(hne:s.Leader≠(i:Int)) :
  Ev (fun k=>wu k s (i:Int) 30) ⟨s.Epoch,s.Leader,s.InStep,s.High,s.Replicas.set i ⟨L,s.Epoch,L.length⟩⟩:=by
 have hp:=qcn (a:=x.Log) (b:=L)
 unfold wu
 refine Ev.bindp hy (Ev.bindp (kd hx) ?_)
 simp only [qh5 hne]
 rw [hyl]
 refine Ev.bind (qgy (by omega)) ?_
 rw [ko (n:=(List.length L:Int) - ((pre x.Log L:Nat) : Int)) (by omega) (by omega)]
 refine Ev.bind (a:=(List.length L:Int) - ((pre x.Log L:Nat) : Int)) ?_ ?_
 ·by_cases h:(List.length L:Int) - ((pre x.Log L:Nat) : Int)<30
  ·exact Ev.iteT (by simpa using h) Ev.rfl
  ·refine Ev.iteF (by simpa using h) ?_
   rw [show (List.length L:Int) - ((pre x.Log L:Nat) : Int)=30 by omega]
   exact Ev.rfl
 ·unfold qal
  rw [hyl,show ((pre x.Log L:Nat) : Int)+((List.length L:Int) - ((pre x.Log L:Nat) : Int))=(L.length:Nat) by omega,ko (by omega) (by omega)]
  refine Ev.bindp (a:=L) (by rw [qbn (Nat.le_refl _),List.take_length]) (Ev.bindp (qan (by omega)) ?_)
  rw [Int.toNat_natCast]
  exact Ev.rfl
end
theorem qux {α:Type}{f:α→Nat}{x:α} : ∀ {n:Nat},y9 f (List.replicate n x)=n*f x:=by
 intro n
 induction n with
 | zero=>simp [y9]
 | succ n ih=>rw [List.replicate_succ]; simp only [y9,ih]; rw [Nat.succ_mul]; omega
theorem qs0 {s:Group}{i:Nat}{x:Replica}(hx:s.Replicas[i]? = some x) : Ev (fun _=>kr s (i:Int)) ⟨s.Epoch,s.Leader,s.InStep,s.High,s.Replicas.set i ⟨x.Log,s.Epoch,x.Log.length⟩⟩:=by
 unfold kr
 refine Ev.bindp (kd hx) ?_
 rw [Int.toNat_natCast]
 exact Ev.rfl
theorem ql9 {i:Nat}{s s':Group}(h1:(i:Int)=s.Leader→Ev (fun _=>kr s (i:Int)) s')(h2:(i:Int)≠s.Leader→Ev (fun k=>yp k s (i:Int) 30) s')(hl:s'.InStep.length≤1000) : Ev (fun k=>y8 k i s s.Replicas) (.nxt (⟨s'.Epoch,s'.Leader,s'.InStep++[(i:Int)],s'.High,s'.Replicas⟩,s'.Replicas)):=by
 have hfin:Ev (fun _=>qas i s' s'.InStep s'.Replicas) (.nxt (⟨s'.Epoch,s'.Leader,s'.InStep++[(i:Int)],s'.High,s'.Replicas⟩,s'.Replicas)):=by
  unfold qas
  rw [q4a (by omega),Option.bind_some]
  exact Ev.rfl
 unfold y8
 by_cases e:(i:Int)=s.Leader
 ·exact Ev.bind (a:=(s',s'.InStep,s'.Replicas)) (Ev.iteT (by simpa using e) (Ev.bind (h1 e) Ev.rfl)) hfin
 ·exact Ev.bind (a:=(s',s'.InStep,s'.Replicas)) (Ev.iteF (by simpa using e) (Ev.bind (h2 e) Ev.rfl)) hfin
theorem qmq {i:Nat}{s s':Group}{l:List Int}(h1:(i:Int)=s.Leader→s=s')(h2:(i:Int)≠s.Leader→Ev (fun k=>wu k s (i:Int) 30) s')(hl:Ev (fun k=>qb3 k s'.InStep (i:Int)) l) : Ev (fun k=>wa k i s s.Replicas) (.nxt (⟨s'.Epoch,s'.Leader,l,s'.High,s'.Replicas⟩,s'.Replicas)):=by
 have hfin:Ev (fun k=>qat k i s' s'.InStep s'.Replicas) (.nxt (⟨s'.Epoch,s'.Leader,l,s'.High,s'.Replicas⟩,s'.Replicas)):=by
  unfold qat
  exact Ev.bind hl Ev.rfl
 unfold wa
 by_cases e:(i:Int)=s.Leader
 ·have:=h1 e
  subst this
  exact Ev.bind (a:=(s,s.InStep,s.Replicas)) (Ev.iteF (by simpa using e) Ev.rfl) hfin
 ·exact Ev.bind (a:=(s',s'.InStep,s'.Replicas)) (Ev.iteT (by simpa using e) (Ev.bind (h2 e) Ev.rfl)) hfin
theorem qiv {v_0:Group}{L:List Row}{X y:Replica}(r1:2≤v_0.Replicas.length)(r2:v_0.Replicas.length≤4)(hm:qc6 v_0.InStep v_0.Replicas.length)(hr:∀ (j:Nat) (z:Replica),v_0.Replicas[j]? = some z→z.Log.length≤30)(hy2:v_0.Replicas[v_0.Leader.toNat]? = some y)(hyl:y.Log=L)(l1:0≤v_0.Leader)(l2:v_0.Leader<v_0.Replicas.length)(hLl:L.length≤30)(hN:(⟨L,v_0.Epoch,(L.length:Int)⟩ : Replica)=X) : Ev (fun k=>xn (fun i59 s155=>y8 k i59 s155.1 s155.2) (List.length v_0.Replicas:Int) (⟨v_0.Epoch,v_0.Leader,[],v_0.High,v_0.Replicas⟩,v_0.Replicas)) (.nxt (⟨v_0.Epoch,v_0.Leader,yf v_0.Replicas.length,v_0.High,List.replicate v_0.Replicas.length X⟩,List.replicate v_0.Replicas.length X)):=by
 have hld:v_0.Leader=((v_0.Leader.toNat:Nat) : Int):=by omega
 have hldlt:v_0.Leader.toNat<v_0.Replicas.length:=by omega
 have hXL:X.Log=L:=by rw [←hN]
 have hlog:∀ j (hj:j<v_0.Replicas.length),(v_0.Replicas[j]).Log.length≤30:=fun j hj=>hr j _ (List.getElem?_eq_getElem hj)
 have gInt:∀ {R:List Replica} {z:Replica},R[v_0.Leader.toNat]? = some z→zy R v_0.Leader=some z:=fun h=>by unfold zy; rw [if_pos l1]; exact h
 have hnl:=qbd hm
 simp only [qen]
 refine qaa (B:=fun k i _ s=>y8 k i s.1 s.2) (by simp; omega) (fun i q s=>i+q.length=v_0.Replicas.length∧s=(⟨v_0.Epoch,v_0.Leader,yf i,v_0.High,xz v_0.Replicas X i⟩,xz v_0.Replicas X i)) ⟨by simp,by simp [xz,yf]⟩ (fun i u q s ⟨h1,hs⟩ => .inl ?_) (fun i s ⟨h1,hs⟩=>?_)
 ·subst hs
  simp only [List.length_cons] at h1
  have hi:i<v_0.Replicas.length:=by omega
  refine ⟨(⟨v_0.Epoch,v_0.Leader,yf (i+1),v_0.High,xz v_0.Replicas X (i+1)⟩,xz v_0.Replicas X (i+1)),?_,by omega,rfl⟩
  have hxi:=qhs (R:=v_0.Replicas) (x:=X) (i:=i) (j:=i) (by omega) hi
  rw [if_neg (by omega)] at hxi
  have hyl2:=qhs (R:=v_0.Replicas) (x:=X) (i:=i) (j:=v_0.Leader.toNat) (by omega) hldlt
  have hst:=ql9 (i:=i) (s:=⟨v_0.Epoch,v_0.Leader,yf i,v_0.High,xz v_0.Replicas X i⟩) (s':=⟨v_0.Epoch,v_0.Leader,yf i,v_0.High,xz v_0.Replicas X (i+1)⟩) (fun e=>by
   have e:(i:Int)=v_0.Leader:=e
   have ei:i=v_0.Leader.toNat:=by omega
   have hz:(v_0.Replicas[i]).Log=L:=by
    have:v_0.Replicas[i]? = some y:=by rw [ei]; exact hy2
    have h2:=List.getElem?_eq_getElem hi
    rw [this] at h2
    rw [←hyl]
    exact congrArg Replica.Log (Option.some.inj h2).symm
   have hk:=qs0 (s:=⟨v_0.Epoch,v_0.Leader,yf i,v_0.High,xz v_0.Replicas X i⟩) (i:=i) hxi
   dsimp only at hk
   rw [hz,hN,qhb hi] at hk
   exact hk) (fun e=>by
   have e:(i:Int)≠v_0.Leader:=e
   have:=qpg (s:=⟨v_0.Epoch,v_0.Leader,yf i,v_0.High,xz v_0.Replicas X i⟩) (i:=i) hLl hxi (hlog i hi) (gInt hyl2) (by
    split
    ·exact hXL
    ·have h2:=List.getElem?_eq_getElem hldlt
     rw [hy2] at h2
     rw [←hyl]
     exact congrArg Replica.Log (Option.some.inj h2).symm) (fun h=>e h.symm)
   dsimp only at this
   rw [hN,qhb hi] at this
   exact this) (by dsimp only; rw [qdo]; omega)
  dsimp only at hst
  rw [←qew] at hst
  exact hst
 ·subst hs
  simp only [List.length_nil,Nat.add_zero] at h1
  rw [h1,qmv]
theorem qns {v_0:Group}{L:List Row}{X y:Replica}(r1:2≤v_0.Replicas.length)(r2:v_0.Replicas.length≤4)(hm:qc6 v_0.InStep v_0.Replicas.length)(hr:∀ (j:Nat) (z:Replica),v_0.Replicas[j]? = some z→z.Log.length≤30)(hy2:v_0.Replicas[v_0.Leader.toNat]? = some y)(hyl:y.Log=L)(l1:0≤v_0.Leader)(l2:v_0.Leader<v_0.Replicas.length)(hLl:L.length≤30)(hN:(⟨L,v_0.Epoch,(L.length:Int)⟩ : Replica)=X) : Ev (fun k=>xn (fun i92 s171=>wa k i92 s171.1 s171.2) (List.length v_0.Replicas:Int) (⟨v_0.Epoch,v_0.Leader,v_0.InStep,v_0.High,v_0.Replicas.set v_0.Leader.toNat X⟩,v_0.Replicas.set v_0.Leader.toNat X)) (.nxt (⟨v_0.Epoch,v_0.Leader,yf v_0.Replicas.length,v_0.High,List.replicate v_0.Replicas.length X⟩,List.replicate v_0.Replicas.length X)):=by
 have hld:v_0.Leader=((v_0.Leader.toNat:Nat) : Int):=by omega
 have hldlt:v_0.Leader.toNat<v_0.Replicas.length:=by omega
 have hXL:X.Log=L:=by rw [←hN]
 have hlog:∀ j (hj:j<v_0.Replicas.length),(v_0.Replicas[j]).Log.length≤30:=fun j hj=>hr j _ (List.getElem?_eq_getElem hj)
 have gInt:∀ {R:List Replica} {z:Replica},R[v_0.Leader.toNat]? = some z→zy R v_0.Leader=some z:=fun h=>by unfold zy; rw [if_pos l1]; exact h
 have hnl:=qbd hm
 have hp:=qge hm
 simp only [qen]
 generalize hR:v_0.Replicas.set v_0.Leader.toNat X=R
 have hRl:R.length=v_0.Replicas.length:=by rw [←hR]; simp
 have hRL:R[v_0.Leader.toNat]? = some X:=by rw [←hR]; exact List.getElem?_set_self hldlt
 have hRz:∀ (j:Nat) (z:Replica),R[j]? = some z→z.Log.length≤30:=fun j z h2=>by
  rw [←hR] at h2
  by_cases e:v_0.Leader.toNat=j
  ·subst e
   rw [List.getElem?_set_self hldlt] at h2
   rw [←Option.some.inj h2,hXL]; exact hLl
  ·rw [List.getElem?_set_ne e] at h2
   exact hr j _ h2
 have hRg:∀ j (hj:j<R.length),(R[j]).Log.length≤30:=fun j hj=>hRz j _ (List.getElem?_eq_getElem hj)
 refine qaa (B:=fun k i _ s=>wa k i s.1 s.2) (by simp; omega) (fun i q s=>i+q.length=v_0.Replicas.length∧s=(⟨v_0.Epoch,v_0.Leader,yf i++xb v_0.InStep i,v_0.High,xz R X i⟩,xz R X i)) ⟨by simp,?_⟩ (fun i u q s ⟨h1,hs⟩ => .inl ?_) (fun i s ⟨h1,hs⟩=>?_)
 ·have:xb v_0.InStep ((0:Nat) : Int)=v_0.InStep:=by
   unfold xb
   rw [List.filter_eq_self]
   intro z hz
   obtain ⟨j,hj⟩:=List.getElem?_of_mem hz
   have:=(hm j z hj).1
   simpa using this
  simp [xz,yf,this]
  exact this.symm
 ·subst hs
  simp only [List.length_cons] at h1
  have hi:i<v_0.Replicas.length:=by omega
  refine ⟨(⟨v_0.Epoch,v_0.Leader,yf (i+1)++xb v_0.InStep ((i+1:Nat) : Int),v_0.High,xz R X (i+1)⟩,xz R X (i+1)),?_,by omega,rfl⟩
  have hxi:=qhs (R:=R) (x:=X) (i:=i) (j:=i) (by omega) (by omega)
  rw [if_neg (by omega)] at hxi
  have hyl2:=qhs (R:=R) (x:=X) (i:=i) (j:=v_0.Leader.toNat) (by omega) (by omega)
  have hLR:R[v_0.Leader.toNat]'(by omega)=X:=by
   have h2:=List.getElem?_eq_getElem (l:=R) (i:=v_0.Leader.toNat) (by omega)
   rw [hRL] at h2
   exact (Option.some.inj h2).symm
  have hfl:(xb v_0.InStep (i:Int)).length≤1000 - i:=by
   have:(xb v_0.InStep (i:Int)).length≤v_0.InStep.length:=List.length_filter_le _ _
   omega
  have hput:=qr8 (A:=yf i) (B:=xb v_0.InStep i) (v:=(i:Int)) (by rw [List.length_append,qdo]; omega) (fun z hz=>(qf8 hz).2) (fun z hz=>by unfold xb at hz; simpa using (List.mem_filter.1 hz).2)
  have e:(if (xb v_0.InStep i).head? = some (i:Int) then yf i++xb v_0.InStep i else yf i++(i:Int)::xb v_0.InStep i)=yf (i+1)++xb v_0.InStep ((i+1:Nat) : Int):=by
   have hst:=qpx hp (i:=(i:Int))
   have ec:((i+1:Nat) : Int)=(i:Int)+1:=by omega
   rw [qew,ec]
   by_cases hh:(xb v_0.InStep i).head? = some (i:Int)
   ·rw [if_pos hh] at hst ⊢
    rw [hst]
    simp
   ·rw [if_neg hh] at hst ⊢
    rw [hst]
    simp
  rw [e] at hput
  exact qmq (i:=i) (s:=⟨v_0.Epoch,v_0.Leader,yf i++xb v_0.InStep i,v_0.High,xz R X i⟩) (s':=⟨v_0.Epoch,v_0.Leader,yf i++xb v_0.InStep i,v_0.High,xz R X (i+1)⟩) (fun e=>by
   have e:(i:Int)=v_0.Leader:=e
   have ei:i=v_0.Leader.toNat:=by omega
   have:xz R X i=xz R X (i+1):=by
    rw [←qhb (R:=R) (x:=X) (i:=i) (by omega)]
    refine (List.ext_getElem? (fun j=>?_)).symm
    by_cases hj:i=j
    ·subst hj
     rw [List.getElem?_set_self (by rw [qu2 (by omega)]; omega),hxi]
     congr 1
     simp only [ei]
     exact hLR.symm
    ·rw [List.getElem?_set_ne hj]
   rw [this]) (fun e=>by
   have e:(i:Int)≠v_0.Leader:=e
   have:=qo2 (s:=⟨v_0.Epoch,v_0.Leader,yf i++xb v_0.InStep i,v_0.High,xz R X i⟩) (i:=i) hLl hxi (hRg i (by omega)) (gInt hyl2) (by
    split
    ·exact hXL
    ·rw [hLR]; exact hXL) (fun h=>e h.symm)
   dsimp only at this
   rw [hN,qhb (by omega)] at this
   exact this) hput
 ·subst hs
  simp only [List.length_nil,Nat.add_zero] at h1
  subst h1
  have:xb v_0.InStep (v_0.Replicas.length:Int)=[]:=by
   unfold xb
   rw [List.filter_eq_nil_iff]
   intro z hz
   obtain ⟨j,hj⟩:=List.getElem?_of_mem hz
   have:=(hm j z hj).2.1
   simp; omega
  rw [this,List.append_nil,← hRl,qmv]
theorem qo5 {v_0:Group}(b0:v_0.nn≤1048576) : ∃ (r:Group × Int × Bool),Ev (fun k=>qai k v_0) r∧Ev (fun k=>wz k v_0) r∧r.1.nn≤1048576:=by
 obtain ⟨b,e1,hb⟩:=ug b0
 obtain ⟨b',e0,e2⟩:=(ug b0).two (qc0 b0)
 have:=e1.two e0
 subst this
 unfold qai wz
 cases b with
 | false=>exact ⟨(⟨0,0,[],0,[]⟩,0,false),Ev.bind e1 (Ev.iteT rfl Ev.rfl),Ev.bind e2 (Ev.iteT rfl Ev.rfl),by decide⟩
 | true =>
  obtain ⟨⟨⟨r1,r2⟩,⟨ep1,ep2⟩⟩,⟨hm,hLin,hH⟩,hr⟩:=hb.1 rfl
  obtain ⟨y,hy,hy2,hyl,l1,l2⟩:=qig hm hLin
  have hLl:(lead v_0).length≤30:=by rw [←hyl]; exact (hr _ _ hy2).1.2
  have hr30:∀ (j:Nat) (z:Replica),v_0.Replicas[j]? = some z→z.Log.length≤30:=fun j z hz=>(hr j z hz).1.2
  have hHL:v_0.High≤(lead v_0).length:=by
   obtain ⟨i,hi⟩:=List.getElem?_of_mem hLin
   have:=(hr _ _ hy2).2.2.2.1 (by rw [Int.toNat_of_nonneg l1]; exact hLin)
   rw [hyl,qhc] at this
   exact this
  generalize hLL:lead v_0=L at *
  have hld:v_0.Leader=((v_0.Leader.toNat:Nat) : Int):=by omega
  have hldlt:v_0.Leader.toNat<v_0.Replicas.length:=by omega
  generalize hN:(⟨L,v_0.Epoch,(L.length:Int)⟩ : Replica)=X
  have hXL:X.Log=L:=by rw [←hN]
  have hnl:=qbd hm
  have gInt:∀ {R:List Replica} {z:Replica},R[v_0.Leader.toNat]? = some z→zy R v_0.Leader=some z:=fun h=>by unfold zy; rw [if_pos l1]; exact h
  have hI:=qiv r1 r2 hm hr30 hy2 hyl l1 l2 hLl hN
  have hS:=qns r1 r2 hm hr30 hy2 hyl l1 l2 hLl hN
  have hfinal:Group.nn ⟨v_0.Epoch,v_0.Leader,yf v_0.Replicas.length,(L.length:Int),List.replicate v_0.Replicas.length X⟩≤1048576:=by
   have h2:Group.nn ⟨v_0.Epoch,v_0.Leader,yf v_0.Replicas.length,(L.length:Int),List.replicate v_0.Replicas.length X⟩=(yf v_0.Replicas.length).length+(nnL Replica.nn (List.replicate v_0.Replicas.length X)+0):=rfl
   have h3:nnL Replica.nn (List.replicate v_0.Replicas.length X)=(List.replicate v_0.Replicas.length X).length+y9 Replica.nn (List.replicate v_0.Replicas.length X):=rfl
   have h4:X.nn=X.Log.length+0:=rfl
   rw [h2,h3,qux,qdo,List.length_replicate,h4,hXL]
   have:v_0.Replicas.length*(L.length+0)≤4*30:=Nat.mul_le_mul r2 (by omega)
   omega
  have hget:zy (List.replicate v_0.Replicas.length X) v_0.Leader=some X:=gInt (by simp [hldlt])
  refine ⟨(⟨v_0.Epoch,v_0.Leader,yf v_0.Replicas.length,(L.length:Int),List.replicate v_0.Replicas.length X⟩,(L.length:Int) - v_0.High,true),Ev.bind e1 (Ev.iteF rfl (Ev.bind (qeh b0) (Ev.bindp hy ?_))),Ev.bind e2 (Ev.iteF rfl (Ev.bind (qjq b0) (Ev.jn hI ?_))),hfinal⟩
  ·rw [hyl,hN]
   refine Ev.jn hS ?_
   unfold qca
   have hleast:Ev (fun _=>wj ⟨v_0.Epoch,v_0.Leader,yf v_0.Replicas.length,v_0.High,List.replicate v_0.Replicas.length X⟩) (L.length:Int):=by
    unfold wj
    refine Ev.jn (qaa (B:=fun _ i x s=>kc _ i x s) (by dsimp only; rw [qdo]; omega) (fun i q s=>(∀ z∈q,0≤z∧z<v_0.Replicas.length)∧i+q.length=v_0.Replicas.length∧s=if i=0 then 30 else (L.length:Int)) ⟨fun z hz=>qf8 hz,by dsimp only; rw [qdo]; omega,rfl⟩ (fun i z q s ⟨h0,h1,hs⟩ => .inl ?_) (fun i s ⟨h0,h1,hs⟩=>?_)) Ev.rfl
    ·subst hs
     obtain ⟨z0,z1⟩:=h0 z (by simp)
     refine ⟨(L.length:Int),?_,fun w hw=>h0 w (by simp [hw]),by simp only [List.length_cons] at h1; omega,by rw [if_neg (by omega)]⟩
     unfold kc
     have hz:zy (List.replicate v_0.Replicas.length X) z=some X:=by
      unfold zy; rw [if_pos z0]
      have:z.toNat<v_0.Replicas.length:=by omega
      simp [this]
     refine Ev.bindp hz (Ev.iteF (by rw [←hN]; simp) ?_)
     have hk:X.Known=(L.length:Int):=by rw [←hN]
     rw [hk]
     by_cases h5:i=0
     ·rw [if_pos h5]
      by_cases h6:(L.length:Int)<30
      ·exact Ev.iteT (by simpa using h6) Ev.rfl
      ·refine Ev.iteF (by simpa using h6) ?_
       rw [show (30:Int)=(L.length:Int) by omega]
       exact Ev.rfl
     ·rw [if_neg h5]
      exact Ev.iteF (by simp) Ev.rfl
    ·simp only [List.length_nil,Nat.add_zero] at h1
     rw [hs,if_neg (by omega)]
   refine Ev.bind hleast ?_
   refine Ev.bind (a:=⟨v_0.Epoch,v_0.Leader,yf v_0.Replicas.length,(L.length:Int),List.replicate v_0.Replicas.length X⟩) ?_ ?_
   ·dsimp only
    by_cases h5:v_0.High<(L.length:Int)
    ·exact Ev.iteT (by simpa using h5) Ev.rfl
    ·refine Ev.iteF (by simpa using h5) ?_
     rw [show v_0.High=(L.length:Int) by omega]
     exact Ev.rfl
   ·unfold qcc
    dsimp only
    refine Ev.bind (qeh hfinal) ?_
    rw [ko (by omega) (by omega)]
    exact Ev.rfl
  ·unfold qar
   refine Ev.bindp hget ?_
   dsimp only
   rw [hXL,ko (by omega) (by omega)]
   exact Ev.rfl
end Go.Proofs.Ytefgfcalgjmhjaa.X
