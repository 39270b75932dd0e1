/- PlayRaft: its core. -/
import Derived.Test.YtanblnjomhgphaaXBL10k
open Go.Proofs.Ytanblnjomhgphaa.X.Ev renaming bindp→a0c,bind→a0e,rfl→a0h
open Int renaming le_refl→a1c
open List renaming length_cons→a0p
set_option linter.unusedVariables false
set_option linter.unusedSimpArgs false
namespace Go.Proofs.Ytanblnjomhgphaa.X
open Go

theorem RA.nn {n:Nat}{r:Raft}{G:Gh}(h:RA n r G) : r.nn≤1048576:=by
 have S:=h.sg
 have n5:=S.n1
 have hn:=S.hn
 have ml:=S.ml
 have a:=qo6 (f:=Peer.nn) (m:=35) (l:=r.Peers) (fun p hp=>by
  have q:=S.mem hp
  have:=q.lg
  have:=q.ml
  unfold Peer.nn
  omega)
 have b:=qo6 (f:=Mail.nn) (m:=1) (l:=r.Mail) (fun p hp=>by
  have:=(S.mg p hp).e
  unfold Mail.nn
  omega)
 have c:r.Peers.length*35≤5*35:=Nat.mul_le_mul_right _ (by omega)
 unfold Raft.nn nnL
 omega
theorem qoh {l:List Bool}{b:Bool}(h:l.length≤1000) : ju 1 l [b]=some (l++[b]):=by
 unfold ju
 rw [if_pos (by simp only [a0p,List.length_nil]; omega)]
def ue (n:Nat) : Raft:=⟨List.replicate n ⟨0,false,[],0,zs n⟩,[]⟩
theorem qpo {n:Nat}(h:1≤n∧n≤5) : Ev (fun k=>qdp k (n:Int)) (ue n,true):=by
 refine ⟨8,fun k hk=>?_⟩
 obtain ⟨d,rfl⟩ : ∃ d,k=d+8:=⟨k - 8,by omega⟩
 match n,h with
 | 1,_=>rfl
 | 2,_=>rfl
 | 3,_=>rfl
 | 4,_=>rfl
 | 5,_=>rfl
 | 0,h=>exact absurd h.1 (by decide)
 | m+6,h=>exact absurd h.2 (by omega)
theorem zbu {n:Nat}(h:1≤n∧n≤5) : Ev (fun _=>qfo (n:Int)) (ue n):=by
 refine Ev.of ?_
 match n,h with
 | 1,_=>rfl
 | 2,_=>rfl
 | 3,_=>rfl
 | 4,_=>rfl
 | 5,_=>rfl
 | 0,h=>exact absurd h.1 (by decide)
 | m+6,h=>exact absurd h.2 (by omega)
theorem qmx {n:Nat}(h:1≤n∧n≤5) : ∃ G,RA n (ue n) G:=by
 have hp:∀ k,je n k→pr (ue n) k=⟨0,false,[],0,zs n⟩:=fun k hk=>by
  unfold pr ue
  have:=hk.2
  rw [if_pos hk.1,List.getElem?_replicate,if_pos (by have:=hk.1; omega)]
  rfl
 refine ⟨_,⟨h,by simp [ue],by simp [ue],fun k hk=>?_,fun m hm=>by cases hm⟩,RInv.init (fun k hk=>by rw [hp k hk]; exact ⟨rfl,rfl,rfl⟩)⟩
 rw [hp k hk]
 exact ⟨a1c _,by show (0:Int)≤100; decide,by simp,a1c _,by simp,by simp [zs],fun x hx=>by rw [qht hx]; simp,fun _ x hx=>qht hx,fun e he=>by cases he⟩
def RAx (r:Raft) : Prop:=∃ n G,RA n r G
open Classical in
noncomputable def stp (r:Raft) (x:RaftStep) : Option Raft:=if h:∃ y,Ev (fun k=>kr k r x) (y,true) then some (Classical.choose h) else none
theorem qk3 {r:Raft}{x:RaftStep}(h:RAx r) : (∃ y,stp r x=some y∧RAx y∧Ev (fun k=>kr k r x) (y,true)∧Ev (fun _=>k8 r x) (y,true))∨(stp r x=none∧Ev (fun k=>kr k r x) (r,false)∧Ev (fun _=>k8 r x) (⟨[],[]⟩,false)):=by
 obtain ⟨n,G,hr⟩:=h
 rcases qnt (x:=x) hr.sg hr.acc with ⟨y,h1,h2,h3⟩ | ⟨h1,h2⟩
 ·refine .inl ⟨y,?_,?_,h2,h3⟩
  ·have hex:∃ y,Ev (fun k=>kr k r x) (y,true):=⟨y,h2⟩
   unfold stp
   rw [dif_pos hex]
   exact congrArg some (congrArg Prod.fst (Ev.two (Classical.choose_spec hex) h2))
  ·obtain ⟨G',hG⟩:=keep hr h1
   exact ⟨n,G',hG⟩
 ·refine .inr ⟨?_,h1,h2⟩
  unfold stp
  rw [dif_neg]
  rintro ⟨y,hy⟩
  have:=congrArg Prod.snd (Ev.two hy h1)
  cases this
theorem qv8 {r:Raft}{x:RaftStep}(h:RAx r) : RAx ((stp r x).getD r):=by
 rcases qk3 (x:=x) h with ⟨y,e,h1,_⟩ | ⟨e,_⟩
 ·rw [e]; exact h1
 ·rw [e]; exact h
noncomputable def qdf:Raft→List RaftStep→List Bool→Raft × List Bool
 | r,[],d=>(r,d)
 | r,x::q,d=>qdf ((stp r x).getD r) q (d++[(stp r x).isSome])
theorem qnz {B:Nat→Nat→RaftStep→List Bool→Raft→Option (Oc (List Bool × Raft) (Raft × List Bool × Bool))}{l:List RaftStep}{r0:Raft}(hl:l.length≤1000)(h0:RAx r0)
  (hB:∀ i x d r,RAx r→d.length≤1000→Ev (fun k=>B k i x d r) (.nxt (d++[(stp r x).isSome],(stp r x).getD r))) :
  Ev (fun k=>jt (fun i x (s:List Bool × Raft)=>B k i x s.1 s.2) l (([] : List Bool),r0)) (.nxt ((qdf r0 l []).2,(qdf r0 l []).1))∧RAx (qdf r0 l []).1∧(qdf r0 l []).2.length=l.length:=by
 have run_inv:∀ (q:List RaftStep) (r:Raft) (d:List Bool),RAx r→RAx (qdf r q d).1∧(qdf r q d).2.length=d.length+q.length:=by
  intro q
  induction q with
  | nil=>intro r d h; exact ⟨h,rfl⟩
  | cons x q ih =>
   intro r d h
   obtain ⟨a,b⟩:=ih ((stp r x).getD r) (d++[(stp r x).isSome]) (qv8 h)
   exact ⟨a,by rw [qdf,b]; simp; omega⟩
 refine ⟨?_,(run_inv l r0 [] h0).1,by rw [(run_inv l r0 [] h0).2]; simp⟩
 refine yo (B:=fun k i x (s:List Bool × Raft)=>B k i x s.1 s.2) (by omega) (fun i q s=>∃ r d,s=(d,r)∧RAx r∧d.length+q.length≤1000∧qdf r q d=qdf r0 l []) ⟨r0,[],rfl,h0,by simpa using hl,rfl⟩ (fun i x q s hs => .inl ?_) (fun i s hs=>?_)
 ·obtain ⟨r,d,rfl,hc,hd,hr⟩:=hs
  simp only [a0p] at hd
  exact ⟨_,hB i x d r hc (by omega),_,_,rfl,qv8 hc,by simp; omega,hr⟩
 ·obtain ⟨r,d,rfl,hc,hd,hr⟩:=hs
  rw [←hr]
  rfl
theorem zdj {l:List RaftStep}{n:Nat}(hl:l.length≤1000)(h5:1≤n∧n≤5) : Ev (fun k=>jt (fun i x (s:List Bool × Raft)=>uk k i x s.1 s.2) l (([] : List Bool),ue n)) (.nxt ((qdf (ue n) l []).2,(qdf (ue n) l []).1))∧RAx (qdf (ue n) l []).1∧(qdf (ue n) l []).2.length=l.length :=
 qnz (B:=fun k i x d r=>uk k i x d r) hl (by obtain ⟨G,h⟩:=qmx h5; exact ⟨n,G,h⟩) (fun i x d r hc hd=>by
  unfold uk
  refine a0e (qoe hc.choose_spec.choose_spec.sg) ?_
  rcases qk3 (x:=x) hc with ⟨y,e,_,h2,_⟩ | ⟨e,h2,_⟩
  ·rw [e]
   refine a0e h2 (a0e (a:=y) (Ev.iteT rfl a0h) ?_)
   unfold qcu
   exact a0c (qoh (by omega)) a0h
  ·rw [e]
   refine a0e h2 (a0e (a:=r) (Ev.iteF rfl a0h) ?_)
   unfold qcu
   exact a0c (qoh (by omega)) a0h)
theorem zcw {l:List RaftStep}{n:Nat}(hl:l.length≤1000)(h5:1≤n∧n≤5) : Ev (fun _=>jt (fun i x (s:List Bool × Raft)=>um i x s.1 s.2) l (([] : List Bool),ue n)) (.nxt ((qdf (ue n) l []).2,(qdf (ue n) l []).1)) :=
 (qnz (B:=fun _ i x d r=>um i x d r) hl (by obtain ⟨G,h⟩:=qmx h5; exact ⟨n,G,h⟩) (fun i x d r hc hd=>by
  unfold um
  rcases qk3 (x:=x) hc with ⟨y,e,_,_,h2⟩ | ⟨e,_,h2⟩
  ·rw [e]
   refine a0e h2 (a0e (a:=y) (Ev.iteT rfl a0h) ?_)
   unfold qcv
   exact a0c (qoh (by omega)) a0h
  ·rw [e]
   refine a0e h2 (a0e (a:=r) (Ev.iteF rfl a0h) ?_)
   unfold qcv
   exact a0c (qoh (by omega)) a0h)).1
end Go.Proofs.Ytanblnjomhgphaa.X
