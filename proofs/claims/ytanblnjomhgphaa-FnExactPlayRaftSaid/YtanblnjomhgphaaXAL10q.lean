/- PlayRaft: its core. -/
import Derived.Test.YtanblnjomhgphaaXAL10k
open Go.Proofs.Ytanblnjomhgphaa.X.Ev renaming bindp→t7,bind→a0a,rfl→a0b
open Int renaming le_refl→a1g
open List renaming length_cons→a0k
set_option linter.unusedVariables false
set_option linter.unusedSimpArgs false
namespace Go.Proofs.Ytanblnjomhgphaa.X
open Go

theorem RA.nn {n:Nat}{r:Raft}{G:Gh}(h:RA n r G) : r.nn≤1048576:=by
 have S:=h.sg
 have n5:=S.n1
 have hn:=S.hn
 have ml:=S.ml
 have a:=qos (f:=Peer.nn) (m:=35) (l:=r.Peers) (fun p hp=>by
  have q:=S.mem hp
  have:=q.lg
  have:=q.ml
  unfold Peer.nn
  omega)
 have b:=qos (f:=Mail.nn) (m:=1) (l:=r.Mail) (fun p hp=>by
  have:=(S.mg p hp).e
  unfold Mail.nn
  omega)
 have c:r.Peers.length*35≤5*35:=Nat.mul_le_mul_right _ (by omega)
 unfold Raft.nn nnL
 omega
theorem qn1 {l:List Bool}{b:Bool}(h:l.length≤1000) : ju 1 l [b]=some (l++[b]):=by
 unfold ju
 rw [if_pos (by simp only [a0k,List.length_nil]; omega)]
def qde (n:Nat) : Raft:=⟨List.replicate n ⟨0,false,[],0,zs n⟩,[]⟩
theorem qyk {n:Nat}(h:1≤n∧n≤5) : Ev (fun k=>qc5 k (n:Int)) (qde n,true):=by
 refine ⟨8,fun k hk=>?_⟩
 obtain ⟨d,rfl⟩ : ∃ d,k=d+8:=⟨k - 8,by omega⟩
 match n,h with
 | 1,_=>rfl
 | 2,_=>rfl
 | 3,_=>rfl
 | 4,_=>rfl
 | 5,_=>rfl
 | 0,h=>exact absurd h.1 (by decide)
 | m+6,h=>exact absurd h.2 (by omega)
theorem zdv {n:Nat}(h:1≤n∧n≤5) : Ev (fun _=>qe5 (n:Int)) (qde n):=by
 refine Ev.of ?_
 match n,h with
 | 1,_=>rfl
 | 2,_=>rfl
 | 3,_=>rfl
 | 4,_=>rfl
 | 5,_=>rfl
 | 0,h=>exact absurd h.1 (by decide)
 | m+6,h=>exact absurd h.2 (by omega)
theorem qqg {n:Nat}(h:1≤n∧n≤5) : ∃ G,RA n (qde n) G:=by
 have hp:∀ k,je n k→pr (qde n) k=⟨0,false,[],0,zs n⟩:=fun k hk=>by
  unfold pr qde
  have:=hk.2
  rw [if_pos hk.1,List.getElem?_replicate,if_pos (by have:=hk.1; omega)]
  rfl
 refine ⟨_,⟨h,by simp [qde],by simp [qde],fun k hk=>?_,fun m hm=>by cases hm⟩,RInv.init (fun k hk=>by rw [hp k hk]; exact ⟨rfl,rfl,rfl⟩)⟩
 rw [hp k hk]
 exact ⟨a1g _,by show (0:Int)≤100; decide,by simp,a1g _,by simp,by simp [zs],fun x hx=>by rw [qg9 hx]; simp,fun _ x hx=>qg9 hx,fun e he=>by cases he⟩
def RAx (r:Raft) : Prop:=∃ n G,RA n r G
open Classical in
noncomputable def stp (r:Raft) (x:RaftStep) : Option Raft:=if h:∃ y,Ev (fun k=>kw k r x) (y,true) then some (Classical.choose h) else none
theorem qkl {r:Raft}{x:RaftStep}(h:RAx r) : (∃ y,stp r x=some y∧RAx y∧Ev (fun k=>kw k r x) (y,true)∧Ev (fun _=>kq r x) (y,true))∨(stp r x=none∧Ev (fun k=>kw k r x) (r,false)∧Ev (fun _=>kq r x) (⟨[],[]⟩,false)):=by
 obtain ⟨n,G,hr⟩:=h
 rcases qr5 (x:=x) hr.sg hr.acc with ⟨y,h1,h2,h3⟩ | ⟨h1,h2⟩
 ·refine .inl ⟨y,?_,?_,h2,h3⟩
  ·have hex:∃ y,Ev (fun k=>kw k r x) (y,true):=⟨y,h2⟩
   unfold stp
   rw [dif_pos hex]
   exact congrArg some (congrArg Prod.fst (Ev.two (Classical.choose_spec hex) h2))
  ·obtain ⟨G',hG⟩:=keep hr h1
   exact ⟨n,G',hG⟩
 ·refine .inr ⟨?_,h1,h2⟩
  unfold stp
  rw [dif_neg]
  rintro ⟨y,hy⟩
  have:=congrArg Prod.snd (Ev.two hy h1)
  cases this
theorem qsk {r:Raft}{x:RaftStep}(h:RAx r) : RAx ((stp r x).getD r):=by
 rcases qkl (x:=x) h with ⟨y,e,h1,_⟩ | ⟨e,_⟩
 ·rw [e]; exact h1
 ·rw [e]; exact h
noncomputable def qcu:Raft→List RaftStep→List Bool→Raft × List Bool
 | r,[],d=>(r,d)
 | r,x::q,d=>qcu ((stp r x).getD r) q (d++[(stp r x).isSome])
theorem qna {B:Nat→Nat→RaftStep→List Bool→Raft→Option (Oc (List Bool × Raft) (Raft × List Bool × Bool))}{l:List RaftStep}{r0:Raft}(hl:l.length≤1000)(h0:RAx r0)
  (hB:∀ i x d r,RAx r→d.length≤1000→Ev (fun k=>B k i x d r) (.nxt (d++[(stp r x).isSome],(stp r x).getD r))) :
  Ev (fun k=>yd (fun i x (s:List Bool × Raft)=>B k i x s.1 s.2) l (([] : List Bool),r0)) (.nxt ((qcu r0 l []).2,(qcu r0 l []).1))∧RAx (qcu r0 l []).1∧(qcu r0 l []).2.length=l.length:=by
 have run_inv:∀ (q:List RaftStep) (r:Raft) (d:List Bool),RAx r→RAx (qcu r q d).1∧(qcu r q d).2.length=d.length+q.length:=by
  intro q
  induction q with
  | nil=>intro r d h; exact ⟨h,rfl⟩
  | cons x q ih =>
   intro r d h
   obtain ⟨a,b⟩:=ih ((stp r x).getD r) (d++[(stp r x).isSome]) (qsk h)
   exact ⟨a,by rw [qcu,b]; simp; omega⟩
 refine ⟨?_,(run_inv l r0 [] h0).1,by rw [(run_inv l r0 [] h0).2]; simp⟩
 refine wk (B:=fun k i x (s:List Bool × Raft)=>B k i x s.1 s.2) (by omega) (fun i q s=>∃ r d,s=(d,r)∧RAx r∧d.length+q.length≤1000∧qcu r q d=qcu r0 l []) ⟨r0,[],rfl,h0,by simpa using hl,rfl⟩ (fun i x q s hs => .inl ?_) (fun i s hs=>?_)
 ·obtain ⟨r,d,rfl,hc,hd,hr⟩:=hs
  simp only [a0k] at hd
  exact ⟨_,hB i x d r hc (by omega),_,_,rfl,qsk hc,by simp; omega,hr⟩
 ·obtain ⟨r,d,rfl,hc,hd,hr⟩:=hs
  rw [←hr]
  rfl
theorem zcw {l:List RaftStep}{n:Nat}(hl:l.length≤1000)(h5:1≤n∧n≤5) : Ev (fun k=>yd (fun i x (s:List Bool × Raft)=>xw k i x s.1 s.2) l (([] : List Bool),qde n)) (.nxt ((qcu (qde n) l []).2,(qcu (qde n) l []).1))∧RAx (qcu (qde n) l []).1∧(qcu (qde n) l []).2.length=l.length :=
 qna (B:=fun k i x d r=>xw k i x d r) hl (by obtain ⟨G,h⟩:=qqg h5; exact ⟨n,G,h⟩) (fun i x d r hc hd=>by
  unfold xw
  refine a0a (q5n hc.choose_spec.choose_spec.sg) ?_
  rcases qkl (x:=x) hc with ⟨y,e,_,h2,_⟩ | ⟨e,h2,_⟩
  ·rw [e]
   refine a0a h2 (a0a (a:=y) (Ev.iteT rfl a0b) ?_)
   unfold qcd
   exact t7 (qn1 (by omega)) a0b
  ·rw [e]
   refine a0a h2 (a0a (a:=r) (Ev.iteF rfl a0b) ?_)
   unfold qcd
   exact t7 (qn1 (by omega)) a0b)
theorem zbu {l:List RaftStep}{n:Nat}(hl:l.length≤1000)(h5:1≤n∧n≤5) : Ev (fun _=>yd (fun i x (s:List Bool × Raft)=>xv i x s.1 s.2) l (([] : List Bool),qde n)) (.nxt ((qcu (qde n) l []).2,(qcu (qde n) l []).1)) :=
 (qna (B:=fun _ i x d r=>xv i x d r) hl (by obtain ⟨G,h⟩:=qqg h5; exact ⟨n,G,h⟩) (fun i x d r hc hd=>by
  unfold xv
  rcases qkl (x:=x) hc with ⟨y,e,_,_,h2⟩ | ⟨e,_,h2⟩
  ·rw [e]
   refine a0a h2 (a0a (a:=y) (Ev.iteT rfl a0b) ?_)
   unfold qcj
   exact t7 (qn1 (by omega)) a0b
  ·rw [e]
   refine a0a h2 (a0a (a:=r) (Ev.iteF rfl a0b) ?_)
   unfold qcj
   exact t7 (qn1 (by omega)) a0b)).1
end Go.Proofs.Ytanblnjomhgphaa.X
