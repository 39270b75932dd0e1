/- Rafts: a play, on both sides; rafts that are the same. -/
import Derived.Test.YtanblnjomhgphaaXBLArefl
import Derived.Test.YtanblnjomhgphaaXBL10t
open Go.Proofs.Ytanblnjomhgphaa.X.Ev renaming bindp→a0c,bind→a0e,iteF→a0b,rfl→a0h
open List renaming getElem?_eq_getElem→s8,mem_of_getElem?→a0o
set_option linter.unusedVariables false
set_option linter.unusedSimpArgs false
namespace Go.Proofs.Ytanblnjomhgphaa.X
open Go

def q8z:Raft:=⟨[],[]⟩
theorem q15 {n:Nat}{l:List RaftStep}(h5:1≤n∧n≤5)(hl:l.length≤1000) : ∃ (R:Raft × List Bool × Bool),Ev (fun k=>qc4 k (n:Int) l) R∧Ev (fun _=>qc6 (n:Int) l) R∧((R=(q8z,[],false)∧100<l.length)∨(R.2.2=true∧RAx R.1∧R.2.1.length≤1000)):=by
 unfold qc4 qc6
 by_cases h100:l.length≤100
 ·obtain ⟨p1,p2,p3⟩:=zdj (n:=n) (l:=l) hl h5
  have q1:=zcw (n:=n) (l:=l) hl h5
  refine ⟨((qdf (ue n) l []).1,(qdf (ue n) l []).2,true),?_,?_,.inr ⟨rfl,p2,by dsimp only; omega⟩⟩
  ·obtain ⟨m,G,hr⟩:=p2
   refine a0e (qpo h5) (a0b (by simp; omega) (Ev.jn p1 ?_))
   unfold qe1
   exact a0e (qoe hr.sg) a0h
  ·refine a0b ?_ (a0e (zbu h5) (Ev.jn q1 a0h))
   rw [Bool.or_eq_false_iff]
   exact ⟨bF (qdg (n:=(n:Int)) (a:=1) (b:=5)) (fun q=>q ⟨by omega,by omega⟩),by simp; omega⟩
 ·exact ⟨(q8z,[],false),a0e (qpo h5) (Ev.iteT (by simp; omega) a0h),Ev.iteT (by simp; omega) a0h,.inl ⟨rfl,by omega⟩⟩
theorem qc0 {l:List Entry}(hl:l.length≤1048576) : Ev (fun _=>w5 l l) true:=by
 unfold w5
 refine a0b (by simp) (Ev.jn (qgu (by omega) (fun i x hx=>?_)) a0h)
 unfold qay
 rw [y9 hx]
 exact a0b (by simp) a0h
theorem qms {r:Raft}(h:r.nn≤1048576) : Ev (fun _=>qcm r r) true:=by
 obtain ⟨z1,z2,z3,z4⟩:=qj9 h
 unfold qcm
 refine a0b (by simp) (Ev.jn (qi7 (B:=fun _ i _=>qad r r i) (by omega) (fun i hi=>?_)) ?_)
 ·have hx:r.Peers[i]? = some (r.Peers[i]'hi):=s8 hi
  have hz:=z3 _ (a0o hx)
  generalize r.Peers[i]'hi=x at hx hz
  unfold qad
  refine a0c (y9 hx) (a0c (y9 hx) (a0e (a:=false) (a0b (by simp) (a0e (qc0 hz.1) a0h)) (a0e (a:=false) (a0b rfl (a0e (qn7 (by omega)) a0h)) (a0b rfl a0h))))
 ·unfold qea
  refine Ev.jn (qi7 (B:=fun _ i _=>u9 r r i) (by omega) (fun i hi=>?_)) a0h
  have hx:r.Mail[i]? = some (r.Mail[i]'hi):=s8 hi
  have hz:=z4 _ (a0o hx)
  generalize r.Mail[i]'hi=x at hx hz
  unfold u9
  exact a0c (y9 hx) (a0c (y9 hx) (a0e (a:=false) (a0b (by simp) (a0e (qc0 hz) a0h)) (a0b rfl a0h)))
theorem RA.some {n:Nat}{r:Raft}{G:Gh}(h:RA n r G) : ∃ p0 t,r.Peers=p0::t:=by
 have:=h.sg.n1
 have hn:=h.sg.hn
 cases hp:r.Peers with
 | nil=>rw [hp] at hn; simp at hn; omega
 | cons p t=>exact ⟨p,t,rfl⟩
end Go.Proofs.Ytanblnjomhgphaa.X
