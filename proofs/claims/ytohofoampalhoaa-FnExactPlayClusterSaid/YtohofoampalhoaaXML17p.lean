/- The cluster: what a play keeps. No acknowledged row is lost. -/
import Derived.Test.YtohofoampalhoaaXML17k
open Classical renaming byContradiction→a2d
open Int renaming le_refl→a3d
open List renaming length_take→a1t,mem_filter→a3i,prefix_iff_eq_take→a20,take_append_of_le_length→a1i
set_option linter.unusedVariables false
set_option linter.unusedSimpArgs false
namespace Go.Proofs.Ytohofoampalhoaa.X
open Go

def upd (N:Int→Node)(K:Int)(x:Node) : Int→Node:=fun k=>if k=K then x else N k
theorem qdh {N:Int→Node}{K:Int}{x:Node} : upd N K x K=x:=if_pos rfl
theorem qev {N:Int→Node}{K k:Int}{x:Node}(h:k≠K) : upd N K x k=N k:=if_neg h
def led (N:Int→Node)(k:Int) : Prop:=(N k).View.Leader=k
abbrev ep (N:Int→Node)(k:Int) : Int:=(N k).View.Epoch
def bnd (N:Int→Node)(L:Int)(m:Nat) : Prop:=∀ j∈(N L).View.InStep,ep N L<ep N j→(m:Int)≤kn (N L) j
structure Gd17 (T:View) (N:Int→Node) (A:List Row) (n:Int) : Prop where
 tv:qdq T n
 ra:qa3 A 100
 nv:∀ k,rng n k→qdq (N k).View n
 ne:∀ k,rng n k→ep N k≤T.Epoch
 nl:∀ k,rng n k→ep N k=T.Epoch→(N k).View.Leader=T.Leader
 nr:∀ k,rng n k→qa3 (N k).Log (ep N k)
 nk:∀ k,rng n k→((N k).Known.length:Int)=n
 nt:∀ k,rng n k→0≤(N k).Told∧(N k).Told≤(N k).Log.length
 k0:∀ k,rng n k→∀ j,0≤kn (N k) j∧kn (N k) j≤(N k).Log.length
 k1:∀ k,rng n k→¬ led N k→∀ j,kn (N k) j=0
 a0:∀ k∈T.InStep,A <+: (N k).Log
structure Ext17 (T:View) (N:Int→Node) (A:List Row) (n:Int) : Prop where
 g:∀ j k,rng n j→rng n k→ep N j=ep N k→(N j).View.Leader=(N k).View.Leader
 d:∀ k,rng n k→led N k→ep N k=T.Epoch→(N k).View.InStep=T.InStep
 f:∀ L k,rng n L→rng n k→led N L→k≠L→0<kn (N L) k→ep N L<ep N k∨(ep N k=ep N L∧(N k).Log=(N L).Log.take (kn (N L) k).toNat)
 h:∀ L,rng n L→led N L→(∀ j∈(N L).View.InStep,ep N j≤ep N L)→(N L).View.InStep=T.InStep∧∀ k,rng n k→led N k→ep N k≤ep N L
 b:∀ L k,rng n L→rng n k→led N L→∀ m,bnd N L m→(k∈T.InStep∨led N k)→ep N L<ep N k→(N L).Log.take m <+: (N k).Log
 c:∀ L k,rng n L→led N L→∀ m,bnd N L m→k∈T.InStep→k ∉ (N L).View.InStep→ep N k≤ep N L→(N L).Log.take m=[]
 a:A=[]∨∃ a,(∀ k∈T.InStep,a≤ep N k)∧(∀ k,rng n k→led N k→a≤ep N k→A <+: (N k).Log)∧(∀ k,rng n k→led N k→ep N k=a→(A.length:Int)≤(N k).Told)∧∀ r∈A,r.Epoch≤a

theorem qdq.rng {v:View}{n:Int}(h:qdq v n){k:Int}(hk:k∈v.InStep) : rng n k:=(qep.1 h.2.1).2 k hk

theorem qql {T:View}{N:Int→Node}{A:List Row}{n K:Int}(G:Gd17 T N A n)(X:Ext17 T N A n)(hK:K∈T.InStep)(hE:T.Epoch<100) : Gd17 ⟨T.Epoch+1,K,T.InStep⟩ N A n∧Ext17 ⟨T.Epoch+1,K,T.InStep⟩ N A n:=by
 have tv:=G.tv
 refine ⟨⟨?_,G.ra,G.nv,?_,?_,G.nr,G.nk,G.nt,G.k0,G.k1,G.a0⟩,⟨X.g,?_,X.f,X.h,X.b,X.c,X.a⟩⟩
 ·obtain ⟨⟨a1,a2⟩,b,c⟩:=tv
  exact ⟨⟨by dsimp only; omega,by dsimp only; omega⟩,b,hK⟩
 ·intro k hk
  have:=G.ne k hk
  dsimp only
  omega
 ·intro k hk h
  have:=G.ne k hk
  dsimp only at h
  omega
 ·intro k hk _ h
  have:=G.ne k hk
  dsimp only at h
  omega

theorem qp4 {T:View}{N:Int→Node}{A:List Row}{n K:Int}(G:Gd17 T N A n)(X:Ext17 T N A n)(hK:rng n K)(he:ep N K=T.Epoch)(hne:(N K).View≠T) : Gd17 T (upd N K ⟨T,(N K).Log,(N K).Known,(N K).Told⟩) A n∧Ext17 T (upd N K ⟨T,(N K).Log,(N K).Known,(N K).Told⟩) A n:=by
 have hld:=G.nl K hK he
 have hnl:¬ led N K:=fun h=>hne (by
  have h2:=X.d K hK h he
  cases hv:(N K).View with
  | mk e l i =>
   rw [hv] at hld h2
   simp only [ep,hv] at he
   cases T
   simp_all)
 have hnl2:¬ T.Leader=K:=fun h=>hnl (hld.trans h)
 generalize hM:upd N K ⟨T,(N K).Log,(N K).Known,(N K).Told⟩=M
 have m1:∀ k,ep M k=ep N k∧(M k).Log=(N k).Log∧(M k).Known=(N k).Known∧(M k).Told=(N k).Told∧(M k).View.Leader=(N k).View.Leader∧(k≠K→(M k).View=(N k).View)∧(k=K→(M k).View=T)∧∀ j,kn (M k) j=kn (N k) j:=by
  intro k
  subst hM
  by_cases e:k=K
  ·subst e
   unfold ep kn
   rw [qdh]
   exact ⟨he.symm,rfl,rfl,rfl,hld.symm,fun h=>absurd rfl h,fun _=>rfl,fun _=>rfl⟩
  ·unfold ep kn
   rw [qev e]
   exact ⟨rfl,rfl,rfl,rfl,rfl,fun _=>rfl,fun h=>absurd h e,fun _=>rfl⟩
 have m2:∀ k,led M k↔led N k:=fun k=>by unfold led; rw [(m1 k).2.2.2.2.1]
 have m3:∀ k,led M k→(M k).View=(N k).View:=fun k h=>(m1 k).2.2.2.2.2.1 (fun e=>hnl (by rw [←e,← m2]; exact h))
 have m4:∀ L m,led M L→(bnd M L m↔bnd N L m):=fun L m h=>by
  unfold bnd
  rw [m3 L h,(m1 L).1]
  constructor
  ·intro q j hj hlt
   rw [←(m1 L).2.2.2.2.2.2.2]
   exact q j hj (by rw [(m1 j).1]; exact hlt)
  ·intro q j hj hlt
   rw [(m1 L).2.2.2.2.2.2.2]
   exact q j hj (by rw [←(m1 j).1]; exact hlt)
 obtain ⟨tv,ra,nv,ne,nl,nr,nk,nt,k0,k1,a0⟩:=G
 obtain ⟨g,d,f,h,b,c,a⟩:=X
 refine ⟨⟨tv,ra,?_,?_,?_,?_,?_,?_,?_,?_,?_⟩,⟨?_,?_,?_,?_,?_,?_,?_⟩⟩
 all_goals try simp only [m2,fun k=>(m1 k).1,fun k=>(m1 k).2.1,fun k=>(m1 k).2.2.1,fun k=>(m1 k).2.2.2.1,fun k=>(m1 k).2.2.2.2.1,fun k=>(m1 k).2.2.2.2.2.2.2]
 ·intro k hk
  by_cases e:k=K
  ·rw [(m1 k).2.2.2.2.2.2.1 e]; exact tv
  ·rw [(m1 k).2.2.2.2.2.1 e]; exact nv k hk
 ·exact ne
 ·exact nl
 ·exact nr
 ·exact nk
 ·exact nt
 ·exact k0
 ·exact k1
 ·exact a0
 ·exact g
 ·intro k hk hl
  rw [m3 k ((m2 k).2 hl)]
  exact d k hk hl
 ·exact f
 ·intro L hL hl
  rw [m3 L ((m2 L).2 hl)]
  exact h L hL hl
 ·intro L k hL hk hl m hm
  rw [m4 L m ((m2 L).2 hl)] at hm
  exact b L k hL hk hl m hm
 ·intro L k hL hl m hm
  rw [m4 L m ((m2 L).2 hl)] at hm
  rw [m3 L ((m2 L).2 hl)]
  exact c L k hL hl m hm
 ·exact a

theorem qjc {l:List Row}{a b:Nat}(h:a≤b) : l.take a <+: l.take b:=by
 rw [show l.take a=(l.take b).take a by rw [List.take_take,Nat.min_eq_left h]]
 exact List.take_prefix _ _
theorem qpt {T:View}{N:Int→Node}{A:List Row}{n K:Int}{y:Node}(G:Gd17 T N A n)(X:Ext17 T N A n)(hK:rng n K)(he:ep N K≠T.Epoch)(y1:y.View=T)(y2:y.Log=(N K).Log)(y3:y.Told=0)(y4:(y.Known.length:Int)=n)(y5:∀ j,0≤kn y j∧kn y j≤y.Log.length)(y6:T.Leader≠K→∀ j,kn y j=0)(y7:∀ j,rng n j→j≠K→kn y j=0) : Gd17 T (upd N K y) A n∧Ext17 T (upd N K y) A n:=by
 obtain ⟨tv,ra,nv,ne,nl,nr,nk,nt,k0,k1,a0⟩:=G
 obtain ⟨g,d,f,h,b,c,a⟩:=X
 have hlt:ep N K<T.Epoch:=by have:=ne K hK; omega
 have hTL:T.Leader∈T.InStep:=tv.2.2
 generalize hM:upd N K y=M
 have mK:M K=y:=by rw [←hM]; exact qdh
 have mN:∀ {k},k≠K→M k=N k:=fun hk=>by rw [←hM]; exact qev hk
 have eK:ep M K=T.Epoch:=by unfold ep; rw [mK,y1]
 have eN:∀ {k},k≠K→ep M k=ep N k:=fun hk=>by unfold ep; rw [mN hk]
 have lg:∀ k,(M k).Log=(N k).Log:=fun k=>by
  by_cases e:k=K
  ·rw [e,mK,y2]
  ·rw [mN e]
 have em:∀ k,ep N k≤ep M k:=fun k=>by
  by_cases e:k=K
  ·rw [e,eK]; omega
  ·rw [eN e]; exact a3d _
 have lK:led M K↔T.Leader=K:=by unfold led; rw [mK,y1]
 have lN:∀ {k},k≠K→(led M k↔led N k):=fun hk=>by unfold led; rw [mN hk]
 have bn:∀ {L m},L≠K→bnd M L m→bnd N L m:=fun {L m} hL hb j hj hlt=>by
  have:=hb j (by rw [mN hL]; exact hj) (by rw [eN hL]; have:=em j; omega)
  rwa [mN hL] at this
 have neM:∀ k,rng n k→ep M k≤T.Epoch:=fun k hk=>by
  by_cases e:k=K
  ·rw [e,eK]; exact a3d _
  ·rw [eN e]; exact ne k hk
 have lin:led M K→K∈T.InStep:=fun hl=>by rw [←lK.1 hl]; exact hTL
 refine ⟨⟨tv,ra,?_,neM,?_,?_,?_,?_,?_,?_,?_⟩,⟨?_,?_,?_,?_,?_,?_,?_⟩⟩
 ·intro k hk
  by_cases e:k=K
  ·rw [e,mK,y1]; exact tv
  ·rw [mN e]; exact nv k hk
 ·intro k hk h1
  by_cases e:k=K
  ·rw [e,mK,y1]
  ·rw [eN e] at h1
   rw [mN e]; exact nl k hk h1
 ·intro k hk
  rw [lg]
  exact qsj (nr k hk) (em k)
 ·intro k hk
  by_cases e:k=K
  ·rw [e,mK]; exact y4
  ·rw [mN e]; exact nk k hk
 ·intro k hk
  by_cases e:k=K
  ·rw [e,mK,y3]; omega
  ·rw [mN e]; exact nt k hk
 ·intro k hk
  by_cases e:k=K
  ·rw [e,mK]; exact y5
  ·rw [mN e]; exact k0 k hk
 ·intro k hk hl
  by_cases e:k=K
  ·subst e
   rw [mK]; exact y6 (fun q=>hl (lK.2 q))
  ·rw [mN e]; exact k1 k hk (fun q=>hl ((lN e).2 q))
 ·intro k hk
  rw [lg]; exact a0 k hk
 ·intro j k hj hk hjk
  by_cases e:j=K <;> by_cases e2:k=K
  ·rw [e,e2]
  ·rw [e,eK,eN e2] at hjk
   rw [e,mK,y1,mN e2,nl k hk hjk.symm]
  ·rw [e2,eK,eN e] at hjk
   rw [e2,mK,y1,mN e,nl j hj hjk]
  ·rw [eN e,eN e2] at hjk
   rw [mN e,mN e2]; exact g j k hj hk hjk
 ·intro k hk hl h1
  by_cases e:k=K
  ·rw [e,mK,y1]
  ·rw [mN e]; exact d k hk ((lN e).1 hl) (by rw [←eN e]; exact h1)
 ·intro L k hL hk hl hne hpos
  by_cases e:L=K
  ·rw [e] at hpos hne
   rw [mK,y7 k hk hne] at hpos
   omega
  ·rw [mN e] at hpos
   have:=f L k hL hk ((lN e).1 hl) hne hpos
   rw [lg,lg,eN e,mN e]
   by_cases e2:k=K
   ·subst e2
    rw [eK]
    left
    rcases this with q | q <;> omega
   ·rw [eN e2]; exact this
 ·intro L hL hl hj
  by_cases e:L=K
  ·subst e
   rw [mK,y1,eK]
   exact ⟨rfl,fun k hk _=>neM k hk⟩
  ·have hl':=(lN e).1 hl
   rw [mN e,eN e] at hj ⊢
   obtain ⟨h1,h2⟩:=h L hL hl' (fun j q=>by have:=hj j q; have:=em j; omega)
   refine ⟨h1,fun k hk hlk=>?_⟩
   by_cases e2:k=K
   ·subst e2
    exact hj k (by rw [h1]; exact lin hlk)
   ·rw [eN e2]; exact h2 k hk ((lN e2).1 hlk)
 ·intro L k hL hk hl m hm hor hlt2
  by_cases e:L=K
  ·subst e
   rw [eK] at hlt2
   have:=neM k hk
   omega
  have hl':=(lN e).1 hl
  have hm':=bn e hm
  rw [lg,lg]
  rw [eN e] at hlt2
  by_cases e2:k=K
  ·subst e2
   have hin:k∈T.InStep:=hor.elim id lin
   by_cases q:ep N L<ep N k
   ·exact b L k hL hk hl' m hm' (.inl hin) q
   ·by_cases hv:k∈(N L).View.InStep
    ·have hmk:=hm k (by rw [mN e]; exact hv) (by rw [eN e]; exact hlt2)
     rw [mN e] at hmk
     by_cases hp:0<kn (N L) k
     ·rcases f L k hL hk hl' (fun z=>e z.symm) hp with z | ⟨_,z⟩
      ·omega
      ·rw [z]
       exact qjc (by omega)
     ·have:m=0:=by omega
      subst this
      simp
    ·rw [c L k hL hl' m hm' hin hv (by omega)]
     exact List.nil_prefix
  ·rw [eN e2] at hlt2
   exact b L k hL hk hl' m hm' (hor.imp id (lN e2).1) hlt2
 ·intro L k hL hl m hm hin hv hle
  by_cases e:L=K
  ·rw [e,mK,y1] at hv
   exact absurd hin hv
  have hl':=(lN e).1 hl
  rw [lg]
  rw [mN e] at hv
  rw [eN e] at hle
  by_cases e2:k=K
  ·subst e2
   rw [eK] at hle
   have:=ne L hL
   rw [d L hL hl' (by omega)] at hv
   exact absurd hin hv
  ·rw [eN e2] at hle
   exact c L k hL hl' m (bn e hm) hin hv hle
 ·rcases a with a | ⟨z,a1,a2,a3,a4⟩
  ·exact .inl a
  ·refine .inr ⟨z,fun k hk=>by have:=a1 k hk; have:=em k; omega,fun k hk hl hz=>?_,fun k hk hl hz=>?_,a4⟩
   ·rw [lg]
    by_cases e:k=K
    ·subst e
     exact a0 k (lin hl)
    ·rw [eN e] at hz
     exact a2 k hk ((lN e).1 hl) hz
   ·by_cases e:k=K
    ·subst e
     rw [eK] at hz
     have:=a1 k (lin hl)
     omega
    ·rw [eN e] at hz
     rw [mN e]
     exact a3 k hk ((lN e).1 hl) hz

theorem qp3 {T:View}{N:Int→Node}{A:List Row}{n K:Int}{y:Node}{r:Row}(G:Gd17 T N A n)(X:Ext17 T N A n)(hK:rng n K)(hl0:led N K)(y1:y.View=(N K).View)(y2:y.Log=(N K).Log++[r])(y3:y.Told=(N K).Told)(y4:(y.Known.length:Int)=n)(y5:∀ j,0≤kn y j∧kn y j≤y.Log.length)(y7:∀ j,rng n j→j≠K→kn y j=kn (N K) j)(hr:qa3 y.Log (ep N K)) : Gd17 T (upd N K y) A n∧Ext17 T (upd N K y) A n:=by
 obtain ⟨tv,ra,nv,ne,nl,nr,nk,nt,k0,k1,a0⟩:=G
 obtain ⟨g,d,f,h,b,c,a⟩:=X
 generalize hM:upd N K y=M
 have mK:M K=y:=by rw [←hM]; exact qdh
 have mN:∀ {k},k≠K→M k=N k:=fun hk=>by rw [←hM]; exact qev hk
 have vw:∀ k,(M k).View=(N k).View:=fun k=>by
  by_cases e:k=K
  ·rw [e,mK,y1]
  ·rw [mN e]
 have ee:∀ k,ep M k=ep N k:=fun k=>by unfold ep; rw [vw]
 have ll:∀ k,led M k↔led N k:=fun k=>by unfold led; rw [vw]
 have lg:∀ k,(N k).Log <+: (M k).Log:=fun k=>by
  by_cases e:k=K
  ·rw [e,mK,y2]; exact List.prefix_append _ _
  ·rw [mN e]; exact List.prefix_rfl
 have lgN:∀ {k},k≠K→(M k).Log=(N k).Log:=fun hk=>by rw [mN hk]
 have bn:∀ {L m},rng n L→bnd M L m→bnd N L m:=fun {L m} hL hb j hj hlt=>by
  have hb:=hb j (by rw [vw]; exact hj) (by rw [ee,ee]; exact hlt)
  have hj':=(nv L hL).rng hj
  by_cases e:L=K
  ·subst e
   rw [mK,y7 j hj' (fun q=>by rw [q] at hlt; omega)] at hb
   exact hb
  ·rw [mN e] at hb
   exact hb
 have tk:∀ {m},bnd M K m→(∃ j∈(N K).View.InStep,ep N K<ep N j)→(M K).Log.take m=(N K).Log.take m:=fun {m} hb ⟨j,hj,hlt⟩=>by
  have h1:=bn hK hb j hj hlt
  have h2:=(k0 K hK j).2
  rw [mK,y2,a1i (by omega)]
 have fz:∀ {k},rng n k→(k∈T.InStep∨led N k)→ep N K<ep N k→∃ j∈(N K).View.InStep,ep N K<ep N j:=fun {k} hk hor hlt=>a2d fun hn=>by
  obtain ⟨h1,h2⟩:=h K hK hl0 (fun j hj=>Int.not_lt.1 (fun q=>hn ⟨j,hj,q⟩))
  rcases hor with q | q
  ·exact hn ⟨k,by rw [h1]; exact q,hlt⟩
  ·have:=h2 k hk q; omega
 refine ⟨⟨tv,ra,?_,?_,?_,?_,?_,?_,?_,?_,?_⟩,⟨?_,?_,?_,?_,?_,?_,?_⟩⟩
 ·intro k hk; rw [vw]; exact nv k hk
 ·intro k hk; rw [ee]; exact ne k hk
 ·intro k hk; rw [ee,vw]; exact nl k hk
 ·intro k hk
  rw [ee]
  by_cases e:k=K
  ·rw [e,mK]; exact hr
  ·rw [mN e]; exact nr k hk
 ·intro k hk
  by_cases e:k=K
  ·rw [e,mK]; exact y4
  ·rw [mN e]; exact nk k hk
 ·intro k hk
  by_cases e:k=K
  ·have:=nt K hK
   rw [e,mK,y3,y2]
   simp only [List.length_append,List.length_cons,List.length_nil]
   omega
  ·rw [mN e]; exact nt k hk
 ·intro k hk
  by_cases e:k=K
  ·rw [e,mK]; exact y5
  ·rw [mN e]; exact k0 k hk
 ·intro k hk hl
  by_cases e:k=K
  ·subst e
   exact absurd ((ll k).2 hl0) hl
  ·rw [mN e]; exact k1 k hk (fun q=>hl ((ll k).2 q))
 ·intro k hk
  exact (a0 k hk).trans (lg k)
 ·intro j k hj hk; rw [ee,ee,vw,vw]; exact g j k hj hk
 ·intro k hk; rw [ll,ee,vw]; exact d k hk
 ·intro L k hL hk hl hne hpos
  rw [ee,ee]
  by_cases e:L=K
  ·subst e
   rw [mK,y7 k hk hne] at hpos
   have:=f L k hL hk hl0 hne hpos
   refine this.imp id (fun ⟨q1,q2⟩=>⟨q1,?_⟩)
   have h2:=(k0 L hL k).2
   rw [lgN hne,q2,mK,y7 k hk hne,y2,a1i (by omega)]
  ·have hl':=(ll L).1 hl
   rw [mN e] at hpos ⊢
   have:=f L k hL hk hl' hne hpos
   by_cases e2:k=K
   ·subst e2
    refine .inl (this.resolve_right fun q=>e ?_)
    have h1:=g k L hk hL q.1
    rw [hl',hl0] at h1
    exact h1.symm
   ·rw [mN e2]; exact this
 ·intro L hL; simp only [ll,ee,vw]; exact h L hL
 ·intro L k hL hk hl m hm hor hlt
  have hl':=(ll L).1 hl
  rw [ll] at hor
  rw [ee,ee] at hlt
  by_cases e:L=K
  ·subst e
   rw [tk hm (fz hk hor hlt)]
   exact (b L k hL hk hl' m (bn hL hm) hor hlt).trans (lg k)
  ·rw [lgN e]
   exact (b L k hL hk hl' m (bn hL hm) hor hlt).trans (lg k)
 ·intro L k hL hl m hm hin hv hle
  have hl':=(ll L).1 hl
  rw [vw] at hv
  rw [ee,ee] at hle
  by_cases e:L=K
  ·subst e
   rw [tk hm (a2d fun hn=>?_)]
   ·exact c L k hL hl' m (bn hL hm) hin hv hle
   ·have:=(h L hL hl' (fun j hj=>Int.not_lt.1 (fun q=>hn ⟨j,hj,q⟩))).1
    rw [this] at hv
    exact hv hin
  ·rw [lgN e]
   exact c L k hL hl' m (bn hL hm) hin hv hle
 ·rcases a with a | ⟨z,a1,a2,a3,a4⟩
  ·exact .inl a
  ·refine .inr ⟨z,fun k hk=>by rw [ee]; exact a1 k hk,fun k hk hl hz=>?_,fun k hk hl hz=>?_,a4⟩
   ·rw [ee] at hz
    exact (a2 k hk ((ll k).1 hl) hz).trans (lg k)
   ·rw [ee] at hz
    have:=a3 k hk ((ll k).1 hl) hz
    by_cases e:k=K
    ·subst e
     rw [mK,y3]; exact this
    ·rw [mN e]; exact this

theorem qqa {a b X:List Row}{p:Nat}(h1:X <+: a)(h2:X <+: b) : X <+: b.take (pre a b+p):=by
 have e1:a.take X.length=X:=a20.1 h1 |>.symm
 have e2:b.take X.length=X:=a20.1 h2 |>.symm
 have hle:X.length≤pre a b:=zai.2 ⟨h1.length_le,h2.length_le,e1.trans e2.symm⟩
 have:=qjc (l:=b) (a:=X.length) (b:=pre a b+p) (by omega)
 rwa [e2] at this
theorem qq1 {T:View}{N:Int→Node}{A:List Row}{n K To:Int}{x y:Node}{p:Nat}(G:Gd17 T N A n)(X:Ext17 T N A n)(hK:rng n K)(hT:rng n To)(hne:K≠To)(hl0:led N To)(hl1:¬ led N K)(he:ep N K=ep N To)(x1:x.View=(N K).View)(x2:x.Log=(N To).Log.take (pre (N K).Log (N To).Log+p))(x3:x.Told=0)(x4:x.Known=(N K).Known)(y1:y.View=(N To).View)(y2:y.Log=(N To).Log)(y3:y.Told=(N To).Told)(y4:(y.Known.length:Int)=n)(y6:kn y K=x.Log.length)(y5:∀ j,0≤kn y j∧kn y j≤y.Log.length)(y7:∀ j,rng n j→j≠K→kn y j=kn (N To) j) : Gd17 T (upd (upd N K x) To y) A n∧Ext17 T (upd (upd N K x) To y) A n:=by
 obtain ⟨tv,ra,nv,ne,nl,nr,nk,nt,k0,k1,a0⟩:=G
 obtain ⟨g,d,f,h,b,c,a⟩:=X
 generalize hM:upd (upd N K x) To y=M
 have mT:M To=y:=by rw [←hM]; exact qdh
 have mK:M K=x:=by rw [←hM,qev hne]; exact qdh
 have mN:∀ {k},k≠K→k≠To→M k=N k:=fun hk ht=>by rw [←hM,qev ht]; exact qev hk
 have cases3:∀ (P:Int→Prop),P K→P To→(∀ k,k≠K→k≠To→P k)→∀ k,P k:=fun P h1 h2 h3 k=>by
  by_cases e:k=K
  ·rw [e]; exact h1
  ·by_cases e2:k=To
   ·rw [e2]; exact h2
   ·exact h3 k e e2
 have vw:∀ k,(M k).View=(N k).View:=cases3 _ (by rw [mK,x1]) (by rw [mT,y1]) (fun k e1 e2=>by rw [mN e1 e2])
 have ee:∀ k,ep M k=ep N k:=fun k=>by unfold ep; rw [vw]
 have ll:∀ k,led M k↔led N k:=fun k=>by unfold led; rw [vw]
 have lgN:∀ k,k≠K→(M k).Log=(N k).Log:=cases3 _ (fun q=>absurd rfl q) (fun _=>by rw [mT,y2]) (fun k e1 e2 _=>by rw [mN e1 e2])
 have ldK:∀ {k},led N k→k≠K:=fun hl e=>hl1 (by rw [←e]; exact hl)
 have knN:∀ {L j},rng n j→led N L→(L=To→j≠K)→kn (M L) j=kn (N L) j:=fun {L j} hj hl hn=>by
  by_cases e:L=To
  ·subst e; rw [mT]; exact y7 j hj (hn rfl)
  ·rw [mN (ldK hl) e]
 have bn:∀ {L m},rng n L→led N L→bnd M L m→bnd N L m:=fun {L m} hL hl hb j hj hlt=>by
  have hb:=hb j (by rw [vw]; exact hj) (by rw [ee,ee]; exact hlt)
  rwa [knN ((nv L hL).rng hj) hl (fun e q=>by rw [e,q] at hlt; omega)] at hb
 refine ⟨⟨tv,ra,?_,?_,?_,?_,?_,?_,?_,?_,?_⟩,⟨?_,?_,?_,?_,?_,?_,?_⟩⟩
 ·intro k hk; rw [vw]; exact nv k hk
 ·intro k hk; rw [ee]; exact ne k hk
 ·intro k hk; rw [ee,vw]; exact nl k hk
 ·intro k hk
  rw [ee]
  by_cases e:k=K
  ·rw [e,mK,x2]
   exact qgu (nr To hT) (by omega)
  ·rw [lgN k e]; exact nr k hk
 ·refine cases3 _ (fun _=>by rw [mK,x4]; exact nk K hK) (fun _=>by rw [mT]; exact y4) (fun k e1 e2 hk=>by rw [mN e1 e2]; exact nk k hk)
 ·refine cases3 _ (fun _=>by rw [mK,x3]; omega) (fun _=>by rw [mT,y3,y2]; exact nt To hT) (fun k e1 e2 hk=>by rw [mN e1 e2]; exact nt k hk)
 ·refine cases3 _ (fun _ j=>?_) (fun _=>by rw [mT]; exact y5) (fun k e1 e2 hk=>by rw [mN e1 e2]; exact k0 k hk)
  have:kn x j=kn (N K) j:=by unfold kn; rw [x4]
  rw [mK,this,k1 K hK hl1]
  omega
 ·refine cases3 _ (fun _ _ j=>?_) (fun _ q=>absurd ((ll To).2 hl0) q) (fun k e1 e2 hk q=>by rw [mN e1 e2]; exact k1 k hk (fun w=>q ((ll k).2 w)))
  have:kn x j=kn (N K) j:=by unfold kn; rw [x4]
  rw [mK,this,k1 K hK hl1]
 ·intro k hk
  by_cases e:k=K
  ·subst e
   rw [mK,x2]
   rcases a with a | ⟨z,a1,a2,a3,a4⟩
   ·rw [a]; exact List.nil_prefix
   ·exact qqa (a0 k hk) (a2 To hT hl0 (by have:=a1 k hk; omega))
  ·rw [lgN k e]; exact a0 k hk
 ·intro j k hj hk; rw [ee,ee,vw,vw]; exact g j k hj hk
 ·intro k hk; rw [ll,ee,vw]; exact d k hk
 ·intro L k hL hk hl hne2 hpos
  have hl':=(ll L).1 hl
  rw [ee,ee,lgN L (ldK hl')]
  by_cases e:k=K
  ·subst e
   by_cases e2:L=To
   ·subst e2
    right
    refine ⟨he,?_⟩
    rw [mK,mT,y6,x2,Int.toNat_natCast,a1t,List.take_eq_take_iff]
    omega
   ·rw [knN hk hl' (fun q=>absurd q e2)] at hpos
    left
    refine (f L k hL hk hl' hne2 hpos).resolve_right fun q=>e2 ?_
    have h1:=g L To hL hT (by omega)
    rw [hl',hl0] at h1
    exact h1
  ·rw [knN hk hl' (fun _=>e)] at hpos ⊢
   rw [lgN k e]
   exact f L k hL hk hl' hne2 hpos
 ·intro L hL; simp only [ll,ee,vw]; exact h L hL
 ·intro L k hL hk hl m hm hor hlt
  have hl':=(ll L).1 hl
  rw [ll] at hor
  rw [ee,ee] at hlt
  have hm':=bn hL hl' hm
  rw [lgN L (ldK hl')]
  by_cases e:k=K
  ·subst e
   rw [mK,x2]
   exact qqa (b L k hL hk hl' m hm' hor hlt) (b L To hL hT hl' m hm' (.inr hl0) (by omega))
  ·rw [lgN k e]
   exact b L k hL hk hl' m hm' hor hlt
 ·intro L k hL hl m hm hin hv hle
  have hl':=(ll L).1 hl
  rw [vw] at hv
  rw [ee,ee] at hle
  rw [lgN L (ldK hl')]
  exact c L k hL hl' m (bn hL hl' hm) hin hv hle
 ·rcases a with a | ⟨z,a1,a2,a3,a4⟩
  ·exact .inl a
  ·refine .inr ⟨z,fun k hk=>by rw [ee]; exact a1 k hk,fun k hk hl hz=>?_,fun k hk hl hz=>?_,a4⟩
   ·have hl':=(ll k).1 hl
    rw [ee] at hz
    rw [lgN k (ldK hl')]
    exact a2 k hk hl' hz
   ·have hl':=(ll k).1 hl
    rw [ee] at hz
    have:=a3 k hk hl' hz
    by_cases e:k=To
    ·subst e
     rw [mT,y3]; exact this
    ·rw [mN (ldK hl') e]; exact this

theorem qkk {T:View}{N:Int→Node}{A:List Row}{n K:Int}{y:Node}{l:List Int}(G:Gd17 T N A n)(X:Ext17 T N A n)(hK:rng n K)(hl0:led N K)(he:ep N K=T.Epoch)(y1:y=⟨⟨ep N K,(N K).View.Leader,l⟩,(N K).Log,(N K).Known,(N K).Told⟩)(hm0:qge l n)(hKl:K∈l)
  (hP:∀ z∈l,z∈T.InStep∨(A <+: (N z).Log∧(∀ L,rng n L→led N L→L≠K→∀ m,bnd N L m→ep N L<ep N z→(N L).Log.take m <+: (N z).Log)∧(∀ L,rng n L→led N L→L≠K→∀ m,bnd N L m→ep N z≤ep N L→(N L).Log.take m=[])∧(A=[]∨ep N z=T.Epoch))) : Gd17 ⟨T.Epoch,T.Leader,l⟩ (upd N K y) A n∧Ext17 ⟨T.Epoch,T.Leader,l⟩ (upd N K y) A n:=by
 obtain ⟨tv,ra,nv,ne,nl,nr,nk,nt,k0,k1,a0⟩:=G
 obtain ⟨g,d,f,h,b,c,a⟩:=X
 have hTL:T.Leader=K:=by rw [←nl K hK he]; exact hl0
 generalize hM:upd N K y=M
 have mK:M K=y:=by rw [←hM]; exact qdh
 have mN:∀ {k},k≠K→M k=N k:=fun hk=>by rw [←hM]; exact qev hk
 have two:∀ (P:Int→Prop),P K→(∀ k,k≠K→P k)→∀ k,P k:=fun P h1 h2 k=>by
  by_cases e:k=K
  ·rw [e]; exact h1
  ·exact h2 k e
 have ee:∀ k,ep M k=ep N k:=two _ (by unfold ep; rw [mK,y1]) (fun k e=>by unfold ep; rw [mN e])
 have ld:∀ k,(M k).View.Leader=(N k).View.Leader:=two _ (by rw [mK,y1]) (fun k e=>by rw [mN e])
 have ll:∀ k,led M k↔led N k:=fun k=>by unfold led; rw [ld]
 have lg:∀ k,(M k).Log=(N k).Log:=two _ (by rw [mK,y1]) (fun k e=>by rw [mN e])
 have kk:∀ k j,kn (M k) j=kn (N k) j:=two _ (fun j=>by unfold kn; rw [mK,y1]) (fun k e j=>by rw [mN e])
 have tt:∀ k,(M k).Told=(N k).Told:=two _ (by rw [mK,y1]) (fun k e=>by rw [mN e])
 have bn:∀ {L m},L≠K→bnd M L m→bnd N L m:=fun {L m} hL hb j hj hlt=>by
  have hb:=hb j (by rw [mN hL]; exact hj) (by rw [ee,ee]; exact hlt)
  rwa [kk] at hb
 have only:∀ {L},rng n L→led N L→ep N L=T.Epoch→L=K:=fun {L} hL hl hq=>by
  have:=nl L hL hq
  rw [hl] at this
  rw [this,hTL]
 have vK:qdq ⟨ep N K,K,l⟩ n:=⟨(nv K hK).1,hm0,hKl⟩
 refine ⟨⟨⟨tv.1,hm0,by rw [hTL]; exact hKl⟩,ra,?_,?_,?_,?_,?_,?_,?_,?_,?_⟩,⟨?_,?_,?_,?_,?_,?_,?_⟩⟩
 ·refine two _ (fun _=>?_) (fun k e hk=>by rw [mN e]; exact nv k hk)
  rw [mK,y1]
  exact ⟨(nv K hK).1,hm0,by rw [hl0]; exact hKl⟩
 ·intro k hk; rw [ee]; exact ne k hk
 ·intro k hk; rw [ee,ld]; exact nl k hk
 ·intro k hk; rw [ee,lg]; exact nr k hk
 ·refine two _ (fun _=>by rw [mK,y1]; exact nk K hK) (fun k e hk=>by rw [mN e]; exact nk k hk)
 ·intro k hk; rw [tt,lg]; exact nt k hk
 ·intro k hk j; rw [kk,lg]; exact k0 k hk j
 ·intro k hk hl j; rw [kk]; exact k1 k hk (fun q=>hl ((ll k).2 q)) j
 ·intro k hk
  rw [lg]
  rcases hP k hk with q | q
  ·exact a0 k q
  ·exact q.1
 ·intro j k hj hk; rw [ee,ee,ld,ld]; exact g j k hj hk
 ·intro k hk hl hq
  rw [ee] at hq
  have:=only hk ((ll k).1 hl) hq
  subst this
  rw [mK,y1]
 ·intro L k hL hk hl hne; rw [ee,ee,lg,lg,kk]; exact f L k hL hk ((ll L).1 hl) hne
 ·intro L hL hl hj
  have hl':=(ll L).1 hl
  by_cases e:L=K
  ·subst e
   refine ⟨by rw [mK,y1],fun k hk _=>?_⟩
   rw [ee,ee,he]; exact ne k hk
  ·rw [mN e] at hj
   have:=(h L hL hl' (fun j q=>by have:=hj j q; rwa [ee,ee] at this)).2 K hK hl0
   have:=ne L hL
   exact absurd (only hL hl' (by omega)) e
 ·intro L k hL hk hl m hm hor hlt
  have hl':=(ll L).1 hl
  rw [ee,ee] at hlt
  rw [lg,lg]
  by_cases e:L=K
  ·subst e
   have:=ne k hk
   omega
  ·rcases hor with q | q
   ·rcases hP k q with q | q
    ·exact b L k hL hk hl' m (bn e hm) (.inl q) hlt
    ·exact q.2.1 L hL hl' e m (bn e hm) hlt
   ·exact b L k hL hk hl' m (bn e hm) (.inr ((ll k).1 q)) hlt
 ·intro L k hL hl m hm hin hv hle
  have hl':=(ll L).1 hl
  rw [ee,ee] at hle
  rw [lg]
  by_cases e:L=K
  ·subst e
   rw [mK,y1] at hv
   exact absurd hin hv
  ·rw [mN e] at hv
   rcases hP k hin with q | q
   ·exact c L k hL hl' m (bn e hm) q hv hle
   ·exact q.2.2.1 L hL hl' e m (bn e hm) hle
 ·rcases a with a | ⟨z,a1,a2,a3,a4⟩
  ·exact .inl a
  ·by_cases hA:A=[]
   ·exact .inl hA
   refine .inr ⟨z,fun k hk=>?_,fun k hk hl hz=>?_,fun k hk hl hz=>?_,a4⟩
   ·rw [ee]
    rcases hP k hk with q | q
    ·exact a1 k q
    ·have h1:=q.2.2.2.resolve_left hA
     have h2:=a1 T.Leader tv.2.2
     rw [hTL] at h2
     omega
   ·rw [ee] at hz
    rw [lg]
    exact a2 k hk ((ll k).1 hl) hz
   ·rw [ee] at hz
    rw [tt]
    exact a3 k hk ((ll k).1 hl) hz
theorem qtm {x:Node}{X:List Row}{q:Int}(hp:X <+: x.Log)(hX:∀ r∈X,r.Epoch<x.View.Epoch)(hq:((x.Log.countP fun r=>decide (r.Epoch<x.View.Epoch) : Nat) : Int)≤q) : (X.length:Int)≤q:=by
 obtain ⟨R,e⟩:=hp
 rw [←e,List.countP_append,List.countP_eq_length.2 (fun r hr=>by simpa using hX r hr)] at hq
 omega
theorem qqd {X l:List Row}{q:Nat}(h:X <+: l)(hq:X.length≤q) : X <+: l.take q:=by
 rw [a20.1 h]
 exact qjc hq
theorem qro {l:List Row}{e:Int}(h:qa3 l e){r:Row}(hr:r∈l) : r.Epoch≤e:=by
 obtain ⟨i,hi⟩:=List.getElem?_of_mem hr
 exact (h.1 i r hi).2.1
theorem qpg {T:View}{N:Int→Node}{A:List Row}{n K To:Int}{y:Node}(G:Gd17 T N A n)(X:Ext17 T N A n)(hK:rng n K)(hT:rng n To)(hl0:led N K)(he:ep N K=T.Epoch)(y1:y=⟨⟨ep N K,(N K).View.Leader,qcj T.InStep To⟩,(N K).Log,(N K).Known,(N K).Told⟩)(hni:¬ To∈T.InStep)(ht:(N K).Told≤kn (N K) To)(ho:(((N K).Log.countP fun r=>decide (r.Epoch<(N K).View.Epoch) : Nat) : Int)≤kn (N K) To) : Gd17 ⟨T.Epoch,T.Leader,qcj T.InStep To⟩ (upd N K y) A n∧Ext17 ⟨T.Epoch,T.Leader,qcj T.InStep To⟩ (upd N K y) A n:=by
 have G0:=G
 have X0:=X
 obtain ⟨tv,ra,nv,ne,nl,nr,nk,nt,k0,k1,a0⟩:=G
 obtain ⟨g,d,f,h,b,c,a⟩:=X
 have hTL:T.Leader=K:=by rw [←nl K hK he]; exact hl0
 have hKin:K∈T.InStep:=by rw [←hTL]; exact tv.2.2
 have hne:To≠K:=fun q=>hni (by rw [q]; exact hKin)
 obtain ⟨mp,mr⟩:=qep.1 tv.2.1
 have key:(kn (N K) To=0∨(ep N To=T.Epoch∧(N To).Log=(N K).Log.take (kn (N K) To).toNat)):=by
  by_cases hp:0<kn (N K) To
  ·rcases f K To hK hT hl0 hne hp with q | ⟨q1,q2⟩
   ·have:=ne To hT; omega
   ·exact .inr ⟨by omega,q2⟩
  ·left
   have:=(k0 K hK To).1
   omega
 have sub:∀ {Y:List Row},Y <+: (N K).Log→(Y.length:Int)≤kn (N K) To→Y <+: (N To).Log∧(Y=[]∨ep N To=T.Epoch):=fun {Y} h1 h2=>by
  rcases key with q | ⟨q1,q2⟩
  ·have:Y=[]:=List.length_eq_zero_iff.1 (by omega)
   rw [this]
   exact ⟨List.nil_prefix,.inl rfl⟩
  ·exact ⟨by rw [q2]; exact qqd h1 (by omega),.inr q1⟩
 have hA:(A.length:Int)≤kn (N K) To:=by
  rcases a with a | ⟨z,a1,a2,a3,a4⟩
  ·rw [a]; exact (k0 K hK To).1
  ·have h1:=a1 K hKin
   by_cases q:z=ep N K
   ·have:=a3 K hK hl0 q.symm
    omega
   ·exact qtm (a0 K hKin) (fun r hr=>by have:=a4 r hr; show r.Epoch<ep N K; omega) ho
 have lold:∀ {L},rng n L→led N L→L≠K→ep N L<ep N K:=fun {L} hL hl hn=>by
  have h1:=ne L hL
  by_cases q:ep N L=T.Epoch
  ·have:=nl L hL q
   rw [hl] at this
   exact absurd (this.trans hTL) hn
  ·omega
 have lsub:∀ {L},rng n L→led N L→L≠K→∀ {m},bnd N L m→(N L).Log.take m <+: (N K).Log∧(((N L).Log.take m).length:Int)≤kn (N K) To:=fun {L} hL hl hn {m} hm=>by
  have h1:=b L K hL hK hl m hm (.inl hKin) (lold hL hl hn)
  refine ⟨h1,qtm h1 (fun r hr=>?_) ho⟩
  have h2:=qro (nr L hL) (List.mem_of_mem_take hr)
  have h3:=lold hL hl hn
  show r.Epoch<ep N K
  omega
 refine qkk G0 X0 hK hl0 he y1 (qep.2 ⟨qw2 mp hni,fun z hz=>?_⟩) (qlt.2 (.inr hKin)) (fun z hz=>?_)
 ·rcases qlt.1 hz with q | q
  ·rw [q]; exact hT
  ·exact mr z q
 ·rcases qlt.1 hz with q | q
  ·subst q
   refine .inr ⟨(sub (a0 K hKin) hA).1,fun L hL hl hn m hm _=>?_,fun L hL hl hn m hm hle=>?_,(sub (a0 K hKin) hA).2⟩
   ·obtain ⟨q1,q2⟩:=lsub hL hl hn hm
    exact (sub q1 q2).1
   ·obtain ⟨q1,q2⟩:=lsub hL hl hn hm
    refine (sub q1 q2).2.resolve_right fun q=>?_
    have:=lold hL hl hn
    omega
  ·exact .inl q
theorem qor {T:View}{N:Int→Node}{A:List Row}{n K To:Int}{y:Node}(G:Gd17 T N A n)(X:Ext17 T N A n)(hK:rng n K)(hl0:led N K)(he:ep N K=T.Epoch)(hne:To≠K)(y1:y=⟨⟨ep N K,(N K).View.Leader,T.InStep.filter fun z=>decide (z≠To)⟩,(N K).Log,(N K).Known,(N K).Told⟩) : Gd17 ⟨T.Epoch,T.Leader,T.InStep.filter fun z=>decide (z≠To)⟩ (upd N K y) A n∧Ext17 ⟨T.Epoch,T.Leader,T.InStep.filter fun z=>decide (z≠To)⟩ (upd N K y) A n:=by
 have hTL:T.Leader=K:=by rw [←G.nl K hK he]; exact hl0
 have hKin:K∈T.InStep:=by rw [←hTL]; exact G.tv.2.2
 obtain ⟨mp,mr⟩:=qep.1 G.tv.2.1
 refine qkk G X hK hl0 he y1 (qep.2 ⟨mp.filter _,fun z hz=>mr z ((a3i.1 hz).1)⟩) ?_ (fun z hz => .inl ((a3i.1 hz).1))
 simp [hKin,Ne.symm hne]
theorem qsm {T:View}{N:Int→Node}{A:List Row}{n K t:Int}{y:Node}(G:Gd17 T N A n)(X:Ext17 T N A n)(hK:rng n K)(hl0:led N K)(y1:y=⟨(N K).View,(N K).Log,(N K).Known,t⟩)(ht:(N K).Told<t)(hle:t≤(N K).Log.length)(hmin:∀ o∈(N K).View.InStep,t≤kn (N K) o) : Gd17 T (upd N K y) (if (A.length:Int)<t then (N K).Log.take t.toNat else A) n∧Ext17 T (upd N K y) (if (A.length:Int)<t then (N K).Log.take t.toNat else A) n:=by
 obtain ⟨tv,ra,nv,ne,nl,nr,nk,nt,k0,k1,a0⟩:=G
 obtain ⟨g,d,f,h,b,c,a⟩:=X
 generalize hM:upd N K y=M
 have mK:M K=y:=by rw [←hM]; exact qdh
 have mN:∀ {k},k≠K→M k=N k:=fun hk=>by rw [←hM]; exact qev hk
 have two:∀ (P:Int→Prop),P K→(∀ k,k≠K→P k)→∀ k,P k:=fun P h1 h2 k=>by
  by_cases e:k=K
  ·rw [e]; exact h1
  ·exact h2 k e
 have vw:∀ k,(M k).View=(N k).View:=two _ (by rw [mK,y1]) (fun k e=>by rw [mN e])
 have ee:∀ k,ep M k=ep N k:=fun k=>by unfold ep; rw [vw]
 have ll:∀ k,led M k↔led N k:=fun k=>by unfold led; rw [vw]
 have lg:∀ k,(M k).Log=(N k).Log:=two _ (by rw [mK,y1]) (fun k e=>by rw [mN e])
 have kk:∀ k j,kn (M k) j=kn (N k) j:=two _ (fun j=>by unfold kn; rw [mK,y1]) (fun k e j=>by rw [mN e])
 have bn:∀ L m,bnd M L m↔bnd N L m:=fun L m=>by
  unfold bnd
  simp only [vw,ee,kk]
 have t0:=(nt K hK).1
 have hb:bnd N K t.toNat:=fun j hj _=>by have:=hmin j hj; omega
 have hlen:((N K).Log.take t.toNat).length=t.toNat:=by rw [a1t]; omega
 have hne:(N K).Log.take t.toNat≠[]:=fun q=>by rw [q] at hlen; simp at hlen; omega
 have hfar:∀ k∈T.InStep,ep N k≤ep N K→k=K∨(ep N k=ep N K∧(N k).Log=(N K).Log.take (kn (N K) k).toNat∧t≤kn (N K) k):=fun k hk hle2=>by
  by_cases e:k=K
  ·exact .inl e
  right
  have hkr:=tv.rng hk
  by_cases hv:k∈(N K).View.InStep
  ·have h1:=hmin k hv
   rcases f K k hK hkr hl0 e (by omega) with q | ⟨q1,q2⟩
   ·omega
   ·exact ⟨q1,q2,h1⟩
  ·exact absurd (c K k hK hl0 t.toNat hb hk hv hle2) hne
 have hold:∀ k∈T.InStep,ep N K≤ep N k∧(N K).Log.take t.toNat <+: (N k).Log:=fun k hk=>by
  by_cases q:ep N K<ep N k
  ·exact ⟨by omega,b K k hK (tv.rng hk) hl0 t.toNat hb (.inl hk) q⟩
  ·rcases hfar k hk (by omega) with e | ⟨e1,e2,e3⟩
   ·rw [e]; exact ⟨a3d _,List.take_prefix _ _⟩
   ·exact ⟨by omega,by rw [e2]; exact qjc (by omega)⟩
 have only:∀ {k},rng n k→led N k→ep N k=ep N K→k=K:=fun {k} hk hl hq=>by
  have:=g k K hk hK hq
  rw [hl,hl0] at this
  exact this
 have rest:∀ B:List Row,qa3 B 100→(∀ k∈T.InStep,B <+: (N k).Log)→(B=[]∨∃ a,(∀ k∈T.InStep,a≤ep N k)∧(∀ k,rng n k→led N k→a≤ep N k→B <+: (N k).Log)∧(∀ k,rng n k→led N k→ep N k=a→(B.length:Int)≤(M k).Told)∧∀ r∈B,r.Epoch≤a)→Gd17 T M B n∧Ext17 T M B n:=by
  intro B rb b0 hB
  refine ⟨⟨tv,rb,?_,?_,?_,?_,?_,?_,?_,?_,?_⟩,⟨?_,?_,?_,?_,?_,?_,?_⟩⟩
  ·intro k hk; rw [vw]; exact nv k hk
  ·intro k hk; rw [ee]; exact ne k hk
  ·intro k hk; rw [ee,vw]; exact nl k hk
  ·intro k hk; rw [ee,lg]; exact nr k hk
  ·exact two _ (fun _=>by rw [mK,y1]; exact nk K hK) (fun k e hk=>by rw [mN e]; exact nk k hk)
  ·exact two _ (fun _=>by rw [mK,y1]; exact ⟨by dsimp only; omega,hle⟩) (fun k e hk=>by rw [mN e]; exact nt k hk)
  ·intro k hk j; rw [kk,lg]; exact k0 k hk j
  ·intro k hk hl j; rw [kk]; exact k1 k hk (fun q=>hl ((ll k).2 q)) j
  ·intro k hk; rw [lg]; exact b0 k hk
  ·intro j k hj hk; rw [ee,ee,vw,vw]; exact g j k hj hk
  ·intro k hk; rw [ll,ee,vw]; exact d k hk
  ·intro L k hL hk hl hne; rw [ee,ee,lg,lg,kk]; exact f L k hL hk ((ll L).1 hl) hne
  ·intro L hL; simp only [ll,ee,vw]; exact h L hL
  ·intro L k hL hk hl m hm; rw [ll,ee,ee,lg,lg]; exact b L k hL hk ((ll L).1 hl) m ((bn L m).1 hm)
  ·intro L k hL hl m hm; rw [vw,ee,ee,lg]; exact c L k hL ((ll L).1 hl) m ((bn L m).1 hm)
  ·simp only [ll,ee,lg]; exact hB
 split
 ·refine rest _ (qgu (nr K hK) (by have:=(nv K hK).1.2; exact this)) (fun k hk=>(hold k hk).2) (.inr ⟨ep N K,fun k hk=>(hold k hk).1,fun k hk hl hz=>?_,fun k hk hl hz=>?_,fun r hr=>qro (nr K hK) (List.mem_of_mem_take hr)⟩)
  ·by_cases q:ep N k=ep N K
   ·rw [only hk hl q]; exact List.take_prefix _ _
   ·exact b K k hK hk hl0 t.toNat hb (.inr hl) (by omega)
  ·rw [only hk hl hz,mK,y1,hlen]
   dsimp only
   omega
 ·refine rest _ ra a0 ?_
  rcases a with a | ⟨z,a1,a2,a3,a4⟩
  ·exact .inl a
  ·refine .inr ⟨z,a1,a2,fun k hk hl hz=>?_,a4⟩
   have:=a3 k hk hl hz
   by_cases e:k=K
   ·subst e
    rw [mK,y1]
    dsimp only
    omega
   ·rw [mN e]; exact this
end Go.Proofs.Ytohofoampalhoaa.X
