/- PlayCluster: its core. -/
import Derived.Test.YtohofoampalhoaaXML17p
open Go.Proofs.Ytohofoampalhoaa.X.Ev renaming bindp→a0q,bind→a0n,iteF→a0t,iteT→a00,rfl→a0o
open Int renaming le_refl→a3d,toNat_natCast→a1o
open List renaming getElem?_replicate→a2m,getElem?_set_ne→a11,getElem?_set_self→a14,length_cons→a1b,length_nil→a4c,replicate→a0y
set_option linter.unusedVariables false
set_option linter.unusedSimpArgs false
namespace Go.Proofs.Ytohofoampalhoaa.X
open Go

theorem qg6 {c:Cluster}{K:Int}{x:Node}{T:View}{A:List Row}(hk:rng c.Nodes.length K) : nd ⟨T,c.Nodes.set K.toNat x,A⟩=upd (nd c) K x:=by
 funext k
 by_cases e:k=K
 ·subst e
  rw [qdh]
  unfold nd
  rw [if_pos hk.1]
  dsimp only
  rw [a14 (by have:=hk.1; have:=hk.2; omega)]
  rfl
 ·rw [qev e]
  unfold nd
  dsimp only
  by_cases h0:0≤k
  ·rw [if_pos h0,if_pos h0,a11 (by have:=hk.1; omega)]
  ·rw [if_neg h0,if_neg h0]
theorem zc6 {c:Cluster}{i:Nat}{x:Node}(h:c.Nodes[i]? = some x) : nd c (i:Int)=x∧rng c.Nodes.length (i:Int):=by
 have hi:=(List.getElem?_eq_some_iff.1 h).1
 unfold nd
 rw [if_pos (by omega),a1o,h]
 exact ⟨rfl,by omega,by omega⟩
theorem zcv {x:Node}{i:Nat}{m:Int}(h:x.Known[i]? = some m) : kn x (i:Int)=m:=by
 unfold kn
 rw [a1o,h]
 rfl
theorem qhp {v:View}{l:List Row}{K:List Int}{t:Int}{i j m:Int} : kn ⟨v,l,K.set i.toNat m,t⟩ j=if j.toNat=i.toNat∧i.toNat<K.length then m else (K[j.toNat]?).getD 0:=by
 unfold kn
 dsimp only
 by_cases e:j.toNat=i.toNat
 ·by_cases h:i.toNat<K.length
  ·rw [if_pos ⟨e,h⟩,e,a14 h]
   rfl
  ·rw [if_neg (fun q=>h q.2),List.set_eq_of_length_le (by omega)]
 ·rw [if_neg (fun q=>e q.1),a11 (fun q=>e q.symm)]
theorem qks {v:View}{l:List Row}{n:Nat}{t:Int}{j:Int} : kn ⟨v,l,a0y n 0,t⟩ j=0:=by
 unfold kn
 dsimp only
 rw [a2m]
 split <;> rfl
structure Inv17 (c:Cluster) : Prop where
 n:2≤c.Nodes.length∧c.Nodes.length≤4
 g:Gd17 c.Truth (nd c) c.Acked c.Nodes.length
 x:Ext17 c.Truth (nd c) c.Acked c.Nodes.length
theorem Inv17.good {c:Cluster}(h:Inv17 c) : qa9 c:=by
 obtain ⟨hn,G,_⟩:=h
 refine ⟨hn,G.tv,G.ra,fun i x hx=>?_⟩
 obtain ⟨e,hr⟩:=zc6 hx
 have nv:=G.nv _ hr
 have ne:=G.ne _ hr
 have nl:=G.nl _ hr
 have nr:=G.nr _ hr
 have nk:=G.nk _ hr
 have nt:=G.nt _ hr
 have k0:=G.k0 _ hr
 have k1:=G.k1 _ hr
 have a0:=G.a0 (i:Int)
 simp only [led,ep,e] at *
 refine ⟨⟨nv,ne,fun q=>q.2 (nl q.1),nr,by omega,nt.1,nt.2,fun j m hm=>?_⟩,a0⟩
 have hk:=zcv hm
 rw [←hk]
 exact ⟨(k0 _).1,(k0 _).2,fun q=>k1 q _⟩
theorem Inv17.of {c:Cluster}{T:View}{l:List Node}{A:List Row}{N:Int→Node}(hn:2≤c.Nodes.length∧c.Nodes.length≤4)(hl:l.length=c.Nodes.length)(e:nd ⟨T,l,A⟩=N)(h:Gd17 T N A c.Nodes.length∧Ext17 T N A c.Nodes.length) : Inv17 ⟨T,l,A⟩:=by
 refine ⟨by dsimp only; rw [hl]; exact hn,?_,?_⟩
 ·rw [e]; dsimp only; rw [hl]; exact h.1
 ·rw [e]; dsimp only; rw [hl]; exact h.2
theorem que {x:Node} : ∀ o∈x.View.InStep,uh x≤kn x o:=by
 have key:∀ (l:List Int) (m:Int),l.foldl (fun m o=>mnI m (kn x o)) m≤m∧∀ o∈l,l.foldl (fun m o=>mnI m (kn x o)) m≤kn x o:=by
  intro l
  induction l with
  | nil=>intro m; exact ⟨a3d _,by simp⟩
  | cons a l ih =>
   intro m
   obtain ⟨h1,h2⟩:=ih (mnI m (kn x a))
   have h3:mnI m (kn x a)≤m∧mnI m (kn x a)≤kn x a:=by unfold mnI; split <;> omega
   simp only [List.foldl_cons]
   refine ⟨by omega,fun o ho=>?_⟩
   rcases List.mem_cons.1 ho with rfl | ho
   ·omega
   ·exact h2 o ho
 exact (key x.View.InStep 30).2
theorem qx9 {c c':Cluster}{x:ClusterStep}(h:Inv17 c)(hgd:qak c x)(hc:cst c x=some c') : Inv17 c':=by
 obtain ⟨hk,ht,_,_⟩:=hgd
 have hg:=h.good
 have a:=hg.fit hk
 have b:=hg.fit ht
 obtain ⟨hn,G,X⟩:=h
 have hcd:=qrk hc
 have k0:=G.k0 _ hk
 by_cases d1:x.Kind=1
 ·have hE:c.Truth.Epoch<100:=Int.not_le.1 (fun q=>by rw [show cst c x=none from if_pos ⟨d1,q⟩] at hc; cases hc)
  rw [qsk d1] at hcd
  split at hcd
  ·rename_i hin
   cases hcd
   exact Inv17.of hn rfl rfl (qql G X hin hE)
  ·cases hcd
 by_cases d2:x.Kind=2
 ·rw [qxy d2] at hcd
  split at hcd
  ·cases hcd
  rename_i hns
  cases hcd
  refine Inv17.of hn (by unfold uv; simp) (qg6 hk) ?_
  unfold qhn
  by_cases he:(nd c x.K).View.Epoch=c.Truth.Epoch
  ·rw [if_pos he]
   exact qp4 G X hk he (fun q=>hns (by rw [q]; exact ⟨rfl,rfl,rfl⟩))
  ·rw [if_neg he]
   refine qpt G X hk he rfl rfl rfl ?_ (fun j=>?_) (fun q j=>?_) (fun j hj hne=>?_)
   ·dsimp only; split <;> simp
   ·dsimp only
    by_cases q:c.Truth.Leader=x.K
    ·simp only [if_pos q,qhp]
     split
     ·omega
     ·rw [a2m]
      split <;> simp
    ·simp only [if_neg q,qks]
     omega
   ·simp only [if_neg q,qks]
   ·by_cases q:c.Truth.Leader=x.K
    ·simp only [if_pos q,qhp]
     rw [if_neg (fun w=>hne (by have:=w.1; have:=hj.1; have:=hk.1; omega)),a2m]
     split <;> rfl
    ·simp only [if_neg q,qks]
 by_cases d3:x.Kind=3
 ·rw [qys d3] at hcd
  split at hcd
  ·rename_i hh
   cases hcd
   refine Inv17.of hn (by unfold uv; simp) (qg6 hk) ?_
   have hkl:=a.know
   have hlt:=a.lt
   refine qp3 (r:=⟨(nd c x.K).View.Epoch,x.N⟩) G X hk hh.1 rfl rfl rfl ?_ (fun j=>?_) (fun j hj hne=>?_) (qxu (G.nr _ hk) a.ep.1 hh.2.1 (by have:=a.log; omega))
   ·unfold qfr; simp [hkl]
   ·have:=k0 j
    unfold qfr
    rw [qhp]
    dsimp only
    simp only [List.length_append,a1b,a4c]
    split
    ·omega
    ·unfold kn at this
     omega
   ·unfold qfr
    rw [qhp,if_neg (fun w=>hne (by have:=w.1; have:=hj.1; have:=hk.1; omega))]
    rfl
  ·cases hcd
 by_cases d4:x.Kind=4
 ·rw [qls d4] at hcd
  split at hcd
  ·rename_i hh
   obtain ⟨⟨h1,h2,h3,h4⟩,h5⟩:=hh
   cases hcd
   have e:nd ⟨c.Truth,(uv c x.K (qd4 x.N (nd c x.K) (nd c x.To))).set x.To.toNat (qdj x.K x.N (nd c x.K) (nd c x.To)),c.Acked⟩=upd (upd (nd c) x.K (qd4 x.N (nd c x.K) (nd c x.To))) x.To (qdj x.K x.N (nd c x.K) (nd c x.To)):=by
    have e1:=qg6 (x:=qd4 x.N (nd c x.K) (nd c x.To)) (T:=c.Truth) (A:=c.Acked) hk
    rw [←e1]
    exact qg6 (c:=⟨c.Truth,uv c x.K (qd4 x.N (nd c x.K) (nd c x.To)),c.Acked⟩) (by unfold uv; simpa using ht)
   refine Inv17.of hn (by unfold uv; simp) e ?_
   have hkl:=b.know
   have hlt:=a.lt
   have k0':=G.k0 _ ht
   have hfl:((qf9 x.N (nd c x.K) (nd c x.To)).length:Int)≤(nd c x.To).Log.length:=by unfold qf9; simp; omega
   refine qq1 (p:=x.N.toNat) G X hk ht h1 h2 h3 h4 rfl rfl rfl rfl rfl rfl rfl ?_ ?_ (fun j=>?_) (fun j hj hne=>?_)
   ·unfold qdj; simp [hkl]
   ·unfold qdj
    rw [qhp,if_pos ⟨rfl,by omega⟩]
    rfl
   ·have:=k0' j
    unfold qdj
    rw [qhp]
    dsimp only
    split
    ·omega
    ·unfold kn at this
     omega
   ·unfold qdj
    rw [qhp,if_neg (fun w=>hne (by have:=w.1; have:=hj.1; have:=hk.1; omega))]
    rfl
  ·cases hcd
 by_cases d5:x.Kind=5
 ·rw [qot d5] at hcd
  split at hcd
  ·rename_i hh
   cases hcd
   exact Inv17.of hn (by unfold uv; simp) (qg6 hk) (qor G X hk hh.1.1 hh.1.2 hh.2.2 rfl)
  ·cases hcd
 by_cases d6:x.Kind=6
 ·rw [qkg d6] at hcd
  split at hcd
  ·rename_i hh
   cases hcd
   exact Inv17.of hn (by unfold uv; simp) (qg6 hk) (qpg G X hk ht hh.1.1 hh.1.2 rfl hh.2.1 hh.2.2.1 hh.2.2.2)
  ·cases hcd
 by_cases d7:x.Kind=7
 ·rw [qkl d7] at hcd
  split at hcd
  ·rename_i hh
   cases hcd
   have hne:(nd c x.K).View.InStep≠[]:=fun q=>by
    have:=(G.nv _ hk).2.2
    rw [q] at this
    cases this
   exact Inv17.of hn (by unfold uv; simp) (qg6 hk) (qsm G X hk hh.1 rfl hh.2 (qll a.know (fun j=>(k0 j).2) hne) que)
  ·cases hcd
 ·rw [qru (by omega)] at hcd
  cases hcd

def qex (n:Nat) : Cluster:=⟨⟨0,0,qgj n⟩,a0y n ⟨⟨0,0,qgj n⟩,[],a0y n 0,0⟩,[]⟩
theorem qth {n:Nat}(h1:2≤n)(h2:n≤4) : Inv17 (qex n):=by
 have hlen:(qex n).Nodes.length=n:=by unfold qex; simp
 have hnd:∀ k,rng n k→nd (qex n) k=⟨⟨0,0,qgj n⟩,[],a0y n 0,0⟩:=fun k hk=>by
  unfold nd qex
  rw [if_pos hk.1]
  dsimp only
  rw [a2m,if_pos (by have:=hk.1; have:=hk.2; omega)]
  rfl
 have hv:qdq ⟨0,0,qgj n⟩ n:=⟨⟨a3d _,by show (0:Int)≤100; decide⟩,qep.2 ⟨qtp,fun z hz=>qpo hz⟩,by
  unfold qgj
  rw [List.mem_map]
  exact ⟨0,by simp; omega,rfl⟩⟩
 have hz:∀ k,rng n k→∀ j,kn (nd (qex n) k) j=0:=fun k hk j=>by rw [hnd k hk,qks]
 have he:∀ k,rng n k→ep (nd (qex n)) k=0:=fun k hk=>by unfold ep; rw [hnd k hk]
 have r0:∀ m,qa3 [] m:=fun m=>⟨by simp,by simp⟩
 refine ⟨by rw [hlen]; exact ⟨h1,h2⟩,?_,?_⟩
 ·rw [hlen]
  refine ⟨hv,r0 _,fun k hk=>by rw [hnd k hk]; exact hv,fun k hk=>by rw [he k hk]; exact a3d _,fun k hk _=>by rw [hnd k hk]; rfl,fun k hk=>by rw [hnd k hk]; exact r0 _,fun k hk=>by rw [hnd k hk]; simp,fun k hk=>by rw [hnd k hk]; simp,fun k hk j=>by rw [hz k hk]; exact ⟨a3d _,by omega⟩,fun k hk _ j=>hz k hk j,fun k hk=>List.nil_prefix⟩
 ·rw [hlen]
  refine ⟨fun j k hj hk _=>by rw [hnd j hj,hnd k hk],fun k hk _ _=>by rw [hnd k hk]; rfl,fun L k hL hk _ _ q=>?_,fun L hL _ _=>⟨by rw [hnd L hL]; rfl,fun k hk _=>by rw [he k hk,he L hL]; exact a3d _⟩,fun L k hL hk _ m _ _ q=>?_,fun L k hL _ m _ _ _ _=>by rw [hnd L hL]; simp,.inl rfl⟩
  ·rw [hz L hL] at q; omega
  ·rw [he L hL,he k hk] at q; omega
theorem q9u {n:Int}(h:2≤n∧n≤4) : Ev (fun k=>qbo k n) (qex n.toNat,true)∧Ev (fun _=>qc1 n) (qex n.toNat):=by
 have:n=2∨n=3∨n=4:=by omega
 have up:∀ {α:Type} {F:Nat→Option α} {r:α},(∀ k,F (k+10)=some r)→Ev F r:=fun h=>⟨10,fun k hk=>by
  obtain ⟨j,rfl⟩ : ∃ j,k=j+10:=⟨k - 10,by omega⟩
  exact h j⟩
 rcases this with rfl | rfl | rfl
 ·exact ⟨up (fun k=>rfl),Ev.of rfl⟩
 ·exact ⟨up (fun k=>rfl),Ev.of rfl⟩
 ·exact ⟨up (fun k=>rfl),Ev.of rfl⟩
theorem qol {l:List Bool}{b:Bool}(h:l.length≤1000) : k5 1 l [b]=some (l++[b]):=by
 unfold k5
 rw [if_pos (by simp only [a1b,a4c]; omega)]
instance {c:Cluster} {x:ClusterStep} : Decidable (qak c x):=by unfold qak rng; infer_instance
def stp (c:Cluster)(x:ClusterStep) : Option Cluster:=if qak c x then cst c x else none
theorem qno {c c':Cluster}{x:ClusterStep}(h:Inv17 c)(hs:stp c x=some c') : Inv17 c':=by
 unfold stp at hs
 split at hs
 ·rename_i hg
  exact qx9 h hg hs
 ·cases hs
theorem zco {c:Cluster}{x:ClusterStep}(h:Inv17 c) : Ev (fun k=>uu k c x) (qyv c (stp c x)):=by
 unfold stp
 split
 ·rename_i hg
  exact qx2 h.good hg
 ·rename_i hg
  exact qvh hg
theorem zdl {c:Cluster}{x:ClusterStep}(h:Inv17 c) : Ev (fun k=>wq k c x) (match stp c x with | some c'=>(c',true) | none=>(qm4,false)):=by
 rcases qye (x:=x) h.good with ⟨c',h1,h2,h3,e⟩ | ⟨h1,e⟩
 ·have:stp c x=some c':=by
   unfold stp
   rw [if_pos h1]
   exact zah h2 h3
  rw [this]
  exact e
 ·have:stp c x=none:=by
   cases hs:stp c x with
   | none=>rfl
   | some c' =>
    have hi:=qno h hs
    unfold stp at hs
    split at hs
    ·rename_i hg
     exact absurd hi.good (h1 c' hg (qrk hs))
    ·cases hs
  rw [this]
  exact e
def qej:Cluster→List ClusterStep→List Bool→Cluster × List Bool
 | c,[],d=>(c,d)
 | c,x::q,d=>qej ((stp c x).getD c) q (d++[(stp c x).isSome])
theorem qk8 {B:Nat→Nat→ClusterStep→List Bool→Cluster→Option (Oc (List Bool × Cluster) (Cluster × List Bool × Bool))}{l:List ClusterStep}{c0:Cluster}(hl:l.length≤100)(h0:Inv17 c0)
  (hB:∀ i x d c,Inv17 c→d.length≤100→Ev (fun k=>B k i x d c) (.nxt (d++[(stp c x).isSome],(stp c x).getD c))) :
  Ev (fun k=>k9 (fun i x (s:List Bool × Cluster)=>B k i x s.1 s.2) l (([] : List Bool),c0)) (.nxt ((qej c0 l []).2,(qej c0 l []).1))∧Inv17 (qej c0 l []).1∧(qej c0 l []).2.length=l.length:=by
 have run_inv:∀ (q:List ClusterStep) (c:Cluster) (d:List Bool),Inv17 c→Inv17 (qej c q d).1∧(qej c q d).2.length=d.length+q.length:=by
  intro q
  induction q with
  | nil=>intro c d h; exact ⟨h,rfl⟩
  | cons x q ih =>
   intro c d h
   have h2:Inv17 ((stp c x).getD c):=by
    cases hs:stp c x with
    | none=>exact h
    | some c'=>exact qno h hs
   obtain ⟨a,b⟩:=ih ((stp c x).getD c) (d++[(stp c x).isSome]) h2
   exact ⟨a,by rw [qej,b]; simp; omega⟩
 refine ⟨?_,(run_inv l c0 [] h0).1,by rw [(run_inv l c0 [] h0).2]; simp⟩
 refine qce (B:=fun k i x (s:List Bool × Cluster)=>B k i x s.1 s.2) (by omega) (fun i q s=>∃ c d,s=(d,c)∧Inv17 c∧d.length+q.length≤100∧qej c q d=qej c0 l []) ⟨c0,[],rfl,h0,by simpa using hl,rfl⟩ (fun i x q s hs => .inl ?_) (fun i s hs=>?_)
 ·obtain ⟨c,d,rfl,hc,hd,hr⟩:=hs
  simp only [a1b] at hd
  refine ⟨_,hB i x d c hc (by omega),_,_,rfl,?_,by simp; omega,hr⟩
  cases hs:stp c x with
  | none=>exact hc
  | some c'=>exact qno hc hs
 ·obtain ⟨c,d,rfl,hc,hd,hr⟩:=hs
  rw [←hr]
  rfl
theorem PlayCluster_core (f0:Int)(d8:List ClusterStep)(w0:inI f0)(w1:(wfL 32 ClusterStep.wf) d8)(b0:d8.length≤1048576) : ∃ (r:Cluster × List Bool × Bool),Ev (fun k=>qa2 k f0 d8) r∧Ev (fun k=>x8 k f0 d8) r∧r.1.nn≤1048576∧r.2.1.length≤1048576:=by
 unfold qa2 x8
 by_cases h:2≤f0∧f0≤4
 case neg =>
  refine ⟨(qm4,[],false),?_,a00 ?_ a0o,by decide,by decide⟩
  ·refine a0n (a:=(qm4,false)) ?_ (a00 rfl a0o)
   unfold qbo
   exact a00 (zel.2 h) a0o
  ·rw [Bool.or_eq_true,qss]
   exact .inl h
 obtain ⟨n1,n2⟩:=q9u h
 by_cases hl:d8.length≤100
 case neg =>
  refine ⟨(qm4,[],false),a0n n1 (a00 (by simp; omega) a0o),a00 (by simp; omega) a0o,by decide,by decide⟩
 have hi:=qth (n:=f0.toNat) (by omega) (by omega)
 obtain ⟨p1,p2,p3⟩:=qk8 (B:=fun k i x d c=>x5 k i x d c) hl hi (fun i x d c hc hd=>by
  unfold x5
  have hs:=zco (x:=x) hc
  refine a0n (q55 hc.good.nn) (a0n hs ?_)
  cases hst:stp c x with
  | none =>
   refine a0n (a:=c) (a0t rfl a0o) ?_
   unfold qa5
   exact a0q (qol (by omega)) a0o
  | some c' =>
   refine a0n (a:=c') (a00 rfl a0o) ?_
   unfold qa5
   exact a0q (qol (by omega)) a0o)
 obtain ⟨q1,_,_⟩:=qk8 (B:=fun k i x d c=>xz k i x d c) hl hi (fun i x d c hc hd=>by
  unfold xz
  have hs:=zdl (x:=x) hc
  refine a0n hs ?_
  cases hst:stp c x with
  | none =>
   refine a0n (a:=c) (a0t rfl a0o) ?_
   unfold qa6
   exact a0q (qol (by omega)) a0o
  | some c' =>
   refine a0n (a:=c') (a00 rfl a0o) ?_
   unfold qa6
   exact a0q (qol (by omega)) a0o)
 refine ⟨((qej (qex f0.toNat) d8 []).1,(qej (qex f0.toNat) d8 []).2,true),?_,?_,p2.good.nn,by dsimp only; omega⟩
 ·refine a0n n1 (a0t (by simp; omega) (Ev.jn p1 ?_))
  unfold qcz
  exact a0n (q55 p2.good.nn) a0o
 ·refine a0t ?_ (a0n n2 (Ev.jn q1 a0o))
  have:=bF (qss (n:=f0) (a:=2) (b:=4)) (fun q=>q h)
  rw [this]
  simp
  omega
end Go.Proofs.Ytohofoampalhoaa.X
