/- The cluster: what a step does; the program's side. -/
import Derived.Test.YtohofoampalhoaaXGL17b
import Derived.Test.YtohofoampalhoaaXGL17s
import Derived.Test.YtohofoampalhoaaXGLAcp
open Bool renaming or_eq_true→a2r
open Go.Proofs.Ytohofoampalhoaa.X.Ev renaming bindp→r4,bind→n8,iteF→r5,iteT→t6,of→a3a,rfl→o6
open List renaming filter_eq_self→a2k,getElem?_eq_getElem→i8,length_append→p9,length_cons→a0r,length→f0,replicate→r8,take_add_one→a0w,take_of_length_le→a0j
open Option renaming bind_some→r9
set_option linter.unusedVariables false
set_option linter.unusedSimpArgs false
namespace Go.Proofs.Ytohofoampalhoaa.X
open Go

def rng (n k:Int) : Prop:=0≤k∧k<n
def nd (c:Cluster)(k:Int) : Node:=if 0≤k then (c.Nodes[k.toNat]?).getD ⟨⟨0,0,[]⟩,[],[],0⟩ else ⟨⟨0,0,[]⟩,[],[],0⟩
def kn (x:Node)(k:Int) : Int:=(x.Known[k.toNat]?).getD 0
def qdg (c:Cluster)(K:Int)(x:Node) : List Node:=c.Nodes.set K.toNat x
def qfn (a b:View) : Prop:=a.Epoch=b.Epoch∧a.Leader=b.Leader∧a.InStep=b.InStep
instance {a b:View} : Decidable (qfn a b):=by unfold qfn; infer_instance
def q0t:Cluster:=⟨⟨0,0,[]⟩,[],[]⟩
def qic (T:View)(n:Nat)(K:Int)(me:Node) : Node :=
 if me.View.Epoch=T.Epoch then ⟨T,me.Log,me.Known,me.Told⟩ else ⟨T,me.Log,if T.Leader=K then (r8 n (0:Int)).set K.toNat (me.Log.length:Int) else r8 n 0,0⟩
def qkk (K N:Int)(me:Node) : Node:=⟨me.View,me.Log++[⟨me.View.Epoch,N⟩],me.Known.set K.toNat ((me.Log.length+1:Nat) : Int),me.Told⟩
def qij (N:Int)(me fr:Node) : List Row:=fr.Log.take (pre me.Log fr.Log+N.toNat)
def qib (N:Int)(me fr:Node) : Node:=⟨me.View,qij N me fr,me.Known,0⟩
def qj8 (K N:Int)(me fr:Node) : Node:=⟨fr.View,fr.Log,fr.Known.set K.toNat ((qij N me fr).length:Int),fr.Told⟩
def u1 (x:Node) : Int:=x.View.InStep.foldl (fun m o=>mnI m (kn x o)) 30
def qd1 (x:Node) : Nat:=x.Log.countP fun r=>decide (r.Epoch<x.View.Epoch)
def zc2 (l:List Int)(me:Node) : Node:=⟨⟨me.View.Epoch,me.View.Leader,l⟩,me.Log,me.Known,me.Told⟩
def qir (c:Cluster)(K:Int)(l:List Int) : Cluster:=⟨⟨c.Truth.Epoch,c.Truth.Leader,l⟩,qdg c K (zc2 l (nd c K)),c.Acked⟩
def cdo (c:Cluster)(x:ClusterStep) : Option Cluster :=
 if x.Kind=1 then (if x.K∈c.Truth.InStep then some ⟨⟨c.Truth.Epoch+1,x.K,c.Truth.InStep⟩,c.Nodes,c.Acked⟩ else none)
 else if x.Kind=2 then (if qfn (nd c x.K).View c.Truth then none else some ⟨c.Truth,qdg c x.K (qic c.Truth c.Nodes.length x.K (nd c x.K)),c.Acked⟩)
 else if x.Kind=3 then (if (nd c x.K).View.Leader=x.K∧(0≤x.N∧x.N≤99)∧(nd c x.K).Log.length≠30 then some ⟨c.Truth,qdg c x.K (qkk x.K x.N (nd c x.K)),c.Acked⟩ else none)
 else if x.Kind=4 then (if (x.K≠x.To∧(nd c x.To).View.Leader=x.To∧(nd c x.K).View.Leader≠x.K∧(nd c x.K).View.Epoch=(nd c x.To).View.Epoch)∧(0≤x.N∧x.N≤30) then some ⟨c.Truth,(qdg c x.K (qib x.N (nd c x.K) (nd c x.To))).set x.To.toNat (qj8 x.K x.N (nd c x.K) (nd c x.To)),c.Acked⟩ else none)
 else if x.Kind=5 then (if ((nd c x.K).View.Leader=x.K∧(nd c x.K).View.Epoch=c.Truth.Epoch)∧x.To∈c.Truth.InStep∧x.To≠x.K then some (qir c x.K (c.Truth.InStep.filter fun z=>decide (z≠x.To))) else none)
 else if x.Kind=6 then (if ((nd c x.K).View.Leader=x.K∧(nd c x.K).View.Epoch=c.Truth.Epoch)∧¬ x.To∈c.Truth.InStep∧(nd c x.K).Told≤kn (nd c x.K) x.To∧(qd1 (nd c x.K) : Int)≤kn (nd c x.K) x.To then some (qir c x.K (qf1 c.Truth.InStep x.To)) else none)
 else if x.Kind=7 then (if (nd c x.K).View.Leader=x.K∧(nd c x.K).Told<u1 (nd c x.K) then some ⟨c.Truth,qdg c x.K ⟨(nd c x.K).View,(nd c x.K).Log,(nd c x.K).Known,u1 (nd c x.K)⟩,if (c.Acked.length:Int)<u1 (nd c x.K) then (nd c x.K).Log.take (u1 (nd c x.K)).toNat else c.Acked⟩ else none)
 else none
def qco (c:Cluster)(x:ClusterStep) : Prop:=rng c.Nodes.length x.K∧rng c.Nodes.length x.To∧(x.To=0∨x.Kind=4∨x.Kind=5∨x.Kind=6)∧(x.N=0∨x.Kind=3∨x.Kind=4)
def qx3 (c:Cluster) : Option Cluster→Bool × Cluster
 | some c'=>(true,c')
 | none=>(false,c)

structure FitN (c:Cluster) (k:Int) : Prop where
 get:z7 c.Nodes k=some (nd c k)
 get':c.Nodes[k.toNat]? = some (nd c k)
 lt:k.toNat<c.Nodes.length
 log:(nd c k).Log.length≤30
 ep:0≤(nd c k).View.Epoch∧(nd c k).View.Epoch≤100
 ins:∀ o∈(nd c k).View.InStep,rng c.Nodes.length o
 insl:(nd c k).View.InStep.length≤4
 know:(nd c k).Known.length=c.Nodes.length
 told:0≤(nd c k).Told∧(nd c k).Told≤(nd c k).Log.length
theorem qw4 {l:List Int}{n:Nat}(h:qff l n) : ∀ o∈l,rng n o:=(qw6.1 h).2
theorem qam.fit {c:Cluster}(h:qam c){k:Int}(hk:rng c.Nodes.length k) : FitN c k:=by
 obtain ⟨h0,h1⟩:=hk
 have hlt:k.toNat<c.Nodes.length:=by omega
 have hg:c.Nodes[k.toNat]? = some (nd c k):=by
  unfold nd
  rw [if_pos h0,i8 hlt]
  rfl
 obtain ⟨⟨⟨e1,e2,_⟩,_,_,a4,a5,a6,a7,_⟩,_⟩:=h.2.2.2 _ _ hg
 refine ⟨?_,hg,hlt,a4.2,e1,qw4 e2,?_,a5,a6,a7⟩
 ·unfold z7
  rw [if_pos h0]
  exact hg
 ·have:=qbz e2
  have:=h.1.2
  omega
theorem qgp {x:Node}{n:Nat}{k:Int}(h:x.Known.length=n)(hk:rng n k) : z7 x.Known k=some (kn x k):=by
 obtain ⟨h0,h1⟩:=hk
 have hlt:k.toNat<x.Known.length:=by omega
 unfold z7 kn
 rw [if_pos h0,i8 hlt]
 rfl
theorem qo2 {α:Type}{l:List α}{i:Int}(h0:0≤i)(h1:i≤l.length) : sl l 0 i=some (l.take i.toNat):=by
 have:=qgi (l:=l) (i:=i.toNat) (by omega)
 rwa [Int.toNat_of_nonneg h0] at this

theorem quj {L:List Row}{p:Nat}{n:Int}(hp:p≤L.length)(h0:0≤n)(h1:n≤30)(hL:L.length≤30) : sl (L.drop p) 0 (mnI n (f0 (L.drop p) : Int))=some ((L.drop p).take n.toNat):=by
 have e:mnI n (f0 (L.drop p) : Int)=((min n.toNat (L.drop p).length:Nat) : Int):=by unfold mnI; split <;> omega
 rw [e,qgi (Nat.min_le_right _ _)]
 congr 1
 rcases Nat.le_total n.toNat (L.drop p).length with h | h
 ·rw [Nat.min_eq_left h]
 ·rw [Nat.min_eq_right h,List.take_length,a0j h]
theorem q88 {a L:List Row}{n:Nat} : a.take (pre a L)++(L.drop (pre a L)).take n=L.take (pre a L+n):=by rw [qon,List.take_add]
theorem qi1 {v:View}(h:v.InStep.length≤1048576) : Ev (fun _=>uw v) v:=by
 unfold uw
 exact r4 (ww (by omega)) o6
theorem q2f {l:List Node}{x:Node}(h:l.length≤1048576) : yc 96 l [x]=some (l++[x]):=by
 unfold yc
 rw [if_pos (by simp only [a0r,List.length_nil]; omega)]
theorem qlq {B:Nat→Node→Cluster→Option (Oc Cluster Cluster)}{c:Cluster}(h:c.nn≤1048576)(hB:∀ i x s,c.Nodes[i]? = some x→s.Nodes.length≤1048576→Ev (fun _=>B i x s) (.nxt ⟨⟨s.Truth.Epoch,s.Truth.Leader,c.Truth.InStep⟩,s.Nodes++[x],c.Acked⟩)) : Ev (fun _=>k7 B c.Nodes ⟨c.Truth,[],c.Acked⟩) (.nxt c):=by
 have hn:=(qea h).2.1
 refine qc2 (B:=fun _=>B) (by omega) (fun i r s=>c.Nodes.drop i=r∧s=⟨c.Truth,c.Nodes.take i,c.Acked⟩) ⟨rfl,by simp⟩ (fun i x r s ⟨hr,hs⟩ => .inl ?_) (fun i s ⟨hr,hs⟩=>?_)
 ·have hx:c.Nodes[i]? = some x:=by have:=congrArg (fun z=>z[0]?) hr; simpa using this
  subst hs
  refine ⟨_,hB i x _ hx (by simp; omega),by have:=congrArg (List.drop 1) hr; simpa [List.drop_drop] using this,?_⟩
  rw [a0w,hx]
  rfl
 ·have hi:c.Nodes.length≤i:=by have:=congrArg f0 hr; simp at this; omega
  rw [hs,a0j hi]
theorem qoy {c:Cluster}(h:c.nn≤1048576) : Ev (fun _=>qai c) c:=by
 obtain ⟨t1,t2,t3⟩:=qea h
 unfold qai
 refine n8 (qi1 t1) (r4 (ww (by omega)) (Ev.jn (qlq h (fun i x s hx hs=>?_)) o6))
 obtain ⟨n1,n2,n3⟩:=qin h hx
 unfold qat
 exact n8 (qi1 n1) (r4 (ww (by omega)) (r4 (ww (by omega)) (r4 (q2f hs) o6)))
theorem qqk {a b:View}(ha:a.InStep.length≤1048576) : Is (fun _=>qb9 a b) (qfn a b):=by
 unfold qb9 qfn
 refine (Is.bind (P:=(a.Epoch=b.Epoch∧a.Leader=b.Leader)∧a.InStep=b.InStep) (Is.andb (by simp) (fun _=>Equal_int_is (by omega))) (fun b hb=>Is.of hb)).iff and_assoc
theorem qr2 {c:Cluster}{x:ClusterStep}(hg:qam c)(hk:rng c.Nodes.length x.K)(ht:rng c.Nodes.length x.To) : Ev (fun k=>kw (fun s288=>y7 x s288.1 s288.2) k ((0:Int),c.Nodes)) (.nxt (((pre (nd c x.K).Log (nd c x.To).Log:Nat) : Int),c.Nodes)):=by
 have a:=hg.fit hk
 have b:=hg.fit ht
 have al:=a.log
 have bl:=b.log
 generalize hX:nd c x.K=X at *
 generalize hY:nd c x.To=Y at *
 have ag:z7 c.Nodes x.K=some X:=by rw [←hX]; exact a.get
 have bg:z7 c.Nodes x.To=some Y:=by rw [←hY]; exact b.get
 obtain ⟨o,e,n,rfl,h1,h2,h3,h4⟩:=Ev.loopQ (B:=fun s288:Int × List Node=>y7 x s288.1 s288.2) (s:=((0:Int),c.Nodes)) (fun o=>∃ n:Nat,o = .nxt ((n:Int),c.Nodes)∧CP X.Log Y.Log n) (fun s=>∃ n:Nat,s=((n:Int),c.Nodes)∧n≤X.Log.length∧n≤Y.Log.length∧X.Log.take n=Y.Log.take n) (fun s=>X.Log.length - s.1.toNat) ⟨0,rfl,by omega,by omega,by simp⟩ (fun s hs=>by
  obtain ⟨n,rfl,h1,h2,h3⟩:=hs
  unfold y7
  dsimp only
  rw [ag,r9,bg,r9]
  by_cases hc:n<X.Log.length∧n<Y.Log.length
  ·have ha:X.Log[n]? = some X.Log[n]:=i8 hc.1
   have hb:Y.Log[n]? = some Y.Log[n]:=i8 hc.2
   rw [if_pos (by simp only [decide_eq_true_eq]; unfold mnI; split <;> omega),jr ha,jr hb]
   simp only [r9]
   by_cases he:X.Log[n]=Y.Log[n]
   ·rw [if_pos (by rw [he]; simp)]
    refine .inl ⟨_,rfl,⟨n+1,by rw [xv (by omega)],by omega,by omega,?_⟩,by rw [xv (by omega)]; simp only; omega⟩
    rw [a0w,a0w,h3,ha,hb,he]
   ·rw [if_neg]
    ·exact .inr (.inl ⟨_,rfl,n,rfl,h1,h2,h3,fun _ _=>by rw [ha,hb]; simpa using he⟩)
    ·intro hh
     apply he
     generalize X.Log[n]=p at *
     generalize Y.Log[n]=q at *
     cases p
     cases q
     simpa using hh
  ·rw [if_neg (by simp only [decide_eq_true_eq]; unfold mnI; split <;> omega)]
   simp only [r9]
   rw [if_neg (by simp)]
   exact .inr (.inl ⟨_,rfl,n,rfl,h1,h2,h3,fun g1 g2=>absurd ⟨g1,g2⟩ hc⟩))
 rw [CP_uniq CP_pre ⟨h1,h2,h3,h4⟩]
 exact e
theorem q86 {c:Cluster}{x:ClusterStep}(hg:qam c)(hk:rng c.Nodes.length x.K)(ht:rng c.Nodes.length x.To)(h4:x.Kind=4) : Ev (fun k=>uj k c x) (qx3 c (cdo c x)):=by
 have a:=hg.fit hk
 have b:=hg.fit ht
 have al:=a.log
 have bl:=b.log
 unfold uj cdo
 rw [if_neg (by omega),if_neg (by omega),if_neg (by omega),if_pos h4]
 refine r4 a.get (r4 b.get ?_)
 by_cases c1:x.K≠x.To∧(nd c x.To).View.Leader=x.To∧(nd c x.K).View.Leader≠x.K∧(nd c x.K).View.Epoch=(nd c x.To).View.Epoch
 case neg =>
  rw [if_neg (fun h=>c1 h.1)]
  refine t6 ?_ o6
  simp only [a2r,decide_eq_true_eq]
  by_cases d1:x.K=x.To
  ·exact .inl (.inl (.inl d1))
  ·by_cases d2:(nd c x.To).View.Leader=x.To
   ·by_cases d3:(nd c x.K).View.Leader=x.K
    ·exact .inl (.inr d3)
    ·exact .inr (fun d4=>c1 ⟨d1,d2,d3,d4⟩)
   ·exact .inl (.inl (.inr d2))
 refine r5 (by simp [c1]) ?_
 by_cases c2:0≤x.N∧x.N≤30
 case neg =>
  rw [if_neg (fun h=>c2 h.2)]
  exact t6 (zav.2 c2) o6
 rw [if_pos ⟨c1,c2⟩]
 refine r5 (bF zav (fun h=>h c2)) (Ev.jn (qr2 hg hk ht) ?_)
 unfold qbn
 dsimp only
 have hp:=qwt (a:=(nd c x.K).Log) (b:=(nd c x.To).Log)
 have hpt:=qon (a:=(nd c x.K).Log) (b:=(nd c x.To).Log)
 refine r4 b.get (r4 (qqt hp.2) (r4 a.get ?_))
 rw [qpc (Ne.symm c1.1)]
 have happ:yc 16 (((nd c x.K).Log.take (pre (nd c x.K).Log (nd c x.To).Log))) ((((nd c x.To).Log.drop (pre (nd c x.K).Log (nd c x.To).Log)).take x.N.toNat))=some (qij x.N (nd c x.K) (nd c x.To)):=by
  unfold yc
  rw [if_pos (by simp; omega),q88]
  rfl
 have hkn:=qgp b.know hk
 refine r4 (qgi hp.1) (r4 (ww (by simp; omega)) (r4 (quj hp.2 c2.1 c2.2 bl) (r4 happ (r4 hkn ?_))))
 exact o6
theorem q9q {x:Node}(hl:x.Log.length≤30) : Ev (fun _=>xk (fun i76 s119=>y8 x i76 s119) (f0 x.Log:Int) 0) (.nxt (qd1 x:Int)):=by
 simp only [qi7]
 refine qc2 (B:=fun _ i (_:Unit) s=>y8 x i s) (by simp; omega) (fun i r s=>i+r.length=x.Log.length∧s=(((x.Log.take i).countP fun r=>decide (r.Epoch<x.View.Epoch) : Nat) : Int)) (by simp) (fun i u r s ⟨hr,hs⟩ => .inl ?_) (fun i s ⟨hr,hs⟩=>?_)
 ·simp only [a0r] at hr
  have hx:x.Log[i]? = some (x.Log[i]'(by omega)):=i8 _
  have hc:((x.Log.take i).countP fun r=>decide (r.Epoch<x.View.Epoch))≤(x.Log.take i).length:=List.countP_le_length
  rw [List.length_take] at hc
  subst hs
  unfold y8
  rw [a0w,hx,List.countP_append]
  generalize x.Log[i]'_=y at hx
  by_cases h:y.Epoch<x.View.Epoch
  ·refine ⟨_,r4 (jr hx) (t6 (by simpa using h) o6),by omega,?_⟩
   rw [xv (by omega)]
   simp [h]
  ·refine ⟨_,r4 (jr hx) (r5 (by simpa using h) o6),by omega,?_⟩
   simp [h]
 ·have:x.Log.length≤i:=by simp at hr; omega
  rw [hs,a0j this]
  rfl
theorem qlv {x:Node}{n:Nat}{ρ:Type}{B:Nat→Int→Option (Oc Int ρ)}(hl:x.View.InStep.length≤1000)(hk:x.Known.length=n)(hi:∀ o∈x.View.InStep,rng n o)(hB:∀ i o s,x.View.InStep[i]? = some o→z7 x.Known o=some (kn x o)→B i s=some (.nxt (mnI s (kn x o)))) : Ev (fun _=>xk (fun i s=>B i s) (f0 x.View.InStep:Int) 30) (.nxt (u1 x)):=by
 simp only [qi7]
 refine qc2 (B:=fun _ i (_:Unit) s=>B i s) (by simp; omega) (fun i r s=>i+r.length=x.View.InStep.length∧s=(x.View.InStep.take i).foldl (fun m o=>mnI m (kn x o)) 30) (by simp) (fun i u r s ⟨hr,hs⟩ => .inl ?_) (fun i s ⟨hr,hs⟩=>?_)
 ·simp only [a0r] at hr
  have hx:x.View.InStep[i]? = some (x.View.InStep[i]'(by omega)):=i8 _
  have hm:=List.mem_of_getElem? hx
  subst hs
  refine ⟨_,a3a (hB i _ _ hx (qgp hk (hi _ hm))),by omega,?_⟩
  rw [a0w,hx,List.foldl_append]
  rfl
 ·have:x.View.InStep.length≤i:=by simp at hr; omega
  rw [hs,a0j this]
  rfl
theorem q89 {x:Node}{n:Nat}(hl:x.View.InStep.length≤1000)(hk:x.Known.length=n)(hi:∀ o∈x.View.InStep,rng n o) : Ev (fun _=>xk (fun i346 s381=>ue x i346 s381) (f0 x.View.InStep:Int) 30) (.nxt (u1 x)):=by
 refine qlv hl hk hi (fun i o s hx hg=>?_)
 unfold ue
 rw [jr hx,r9,hg,r9]
theorem qp1 {x:Node}{n:Nat}(hk:x.Known.length=n)(hkl:∀ j,kn x j≤x.Log.length)(h:x.View.InStep≠[]) : u1 x≤x.Log.length:=by
 have key:∀ (l:List Int) (m:Int),l.foldl (fun m o=>mnI m (kn x o)) m≤m∧∀ o∈l,l.foldl (fun m o=>mnI m (kn x o)) m≤kn x o:=by
  intro l
  induction l with
  | nil=>intro m; exact ⟨Int.le_refl _,by simp⟩
  | cons a l ih =>
   intro m
   obtain ⟨h1,h2⟩:=ih (mnI m (kn x a))
   have h3:mnI m (kn x a)≤m∧mnI m (kn x a)≤kn x a:=by unfold mnI; split <;> omega
   simp only [List.foldl_cons]
   refine ⟨by omega,fun o ho=>?_⟩
   rcases List.mem_cons.1 ho with rfl | ho
   ·omega
   ·exact h2 o ho
 obtain ⟨o,q,e⟩:=List.exists_cons_of_ne_nil h
 have:=(key x.View.InStep 30).2 o (by rw [e]; simp)
 have:=hkl o
 unfold u1
 omega
theorem qsk {c:Cluster}{x:ClusterStep}(h:x.Kind=5) : cdo c x=if ((nd c x.K).View.Leader=x.K∧(nd c x.K).View.Epoch=c.Truth.Epoch)∧x.To∈c.Truth.InStep∧x.To≠x.K then some (qir c x.K (c.Truth.InStep.filter fun z=>decide (z≠x.To))) else none:=by
 unfold cdo
 rw [if_neg (by omega),if_neg (by omega),if_neg (by omega),if_neg (by omega),if_pos h]
theorem qli {c:Cluster}{x:ClusterStep}(h:x.Kind=6) : cdo c x=if ((nd c x.K).View.Leader=x.K∧(nd c x.K).View.Epoch=c.Truth.Epoch)∧¬ x.To∈c.Truth.InStep∧(nd c x.K).Told≤kn (nd c x.K) x.To∧(qd1 (nd c x.K) : Int)≤kn (nd c x.K) x.To then some (qir c x.K (qf1 c.Truth.InStep x.To)) else none:=by
 unfold cdo
 rw [if_neg (by omega),if_neg (by omega),if_neg (by omega),if_neg (by omega),if_neg (by omega),if_pos h]
theorem qlb {c:Cluster}{x:ClusterStep}(h:x.Kind=7) : cdo c x=if (nd c x.K).View.Leader=x.K∧(nd c x.K).Told<u1 (nd c x.K) then some ⟨c.Truth,qdg c x.K ⟨(nd c x.K).View,(nd c x.K).Log,(nd c x.K).Known,u1 (nd c x.K)⟩,if (c.Acked.length:Int)<u1 (nd c x.K) then (nd c x.K).Log.take (u1 (nd c x.K)).toNat else c.Acked⟩ else none:=by
 unfold cdo
 rw [if_neg (by omega),if_neg (by omega),if_neg (by omega),if_neg (by omega),if_neg (by omega),if_neg (by omega),if_pos h]
theorem qx4 {c:Cluster}{x:ClusterStep}(h:¬ (1≤x.Kind∧x.Kind≤7)) : cdo c x=none:=by
 unfold cdo
 rw [if_neg (by omega),if_neg (by omega),if_neg (by omega),if_neg (by omega),if_neg (by omega),if_neg (by omega),if_neg (by omega)]
theorem q9d {c:Cluster}{x:ClusterStep}(hg:qam c)(hk:rng c.Nodes.length x.K)(ht:rng c.Nodes.length x.To)(h56:x.Kind=5∨x.Kind=6)(hl:(nd c x.K).View.Leader=x.K∧(nd c x.K).View.Epoch=c.Truth.Epoch) : Ev (fun k=>ug k c x) (qx3 c (cdo c x)):=by
 have a:=hg.fit hk
 have al:=a.log
 have hm:=hg.2.1.2.1
 have hml:=qbz hm
 have hn:=hg.1
 obtain ⟨A,B,hAB,hA,hB,hmem,hB2⟩:=qmc (qfr hm) x.To
 have hABl:(A++B).length≤1000:=by rw [←hAB]; omega
 have hkn:=qgp a.know ht
 have fin:∀ l:List Int,l.length≤1000→Ev (fun _=>uo c x ⟨⟨c.Truth.Epoch,c.Truth.Leader,l⟩,c.Nodes,c.Acked⟩ c.Nodes) (true,qir c x.K l):=by
  intro l hl
  unfold uo
  exact r4 (ww (by dsimp only; omega)) (r4 a.get o6)
 unfold ug
 refine r4 a.get (n8 (a:=((A.length:Int),decide (B.head? = some x.To))) (by rw [hAB]; exact zct hABl hA hB) ?_)
 by_cases h5:x.Kind=5
 ·by_cases c1:x.To∈c.Truth.InStep∧x.To≠x.K
  case neg =>
   rw [show cdo c x=none by rw [qsk h5,if_neg (fun h=>c1 h.2)]]
   refine Ev.jn_ret (t6 (by simpa using h5) (t6 ?_ o6))
   rw [hmem,Decidable.not_and_iff_not_or_not] at c1
   simpa using c1
  rw [show cdo c x=some _ by rw [qsk h5,if_pos ⟨hl,c1⟩]]
  have hh:=hmem.1 c1.1
  obtain ⟨B',rfl⟩ : ∃ B',B=x.To::B':=by
   cases B with
   | nil=>cases hh
   | cons b B=>exact ⟨B,by simp at hh; rw [hh]⟩
  have hB3:=hB2 hh
  have hfl:c.Truth.InStep.filter (fun z=>decide (z≠x.To))=A++B':=by
   rw [hAB,List.filter_append,a2k.2 (fun z hz=>by have:=hA z hz; simp; omega),List.filter_cons_of_neg (by simp),a2k.2 (fun z hz=>by have:=hB3 z hz; simp; omega)]
  rw [hfl]
  refine Ev.jn (s:=(⟨⟨c.Truth.Epoch,c.Truth.Leader,A++B'⟩,c.Nodes,c.Acked⟩,c.Nodes)) (t6 (by simpa using h5) (r5 (by simp [c1.2]) (r4 (a:=A++B') ?_ o6))) (fin _ (by simp at hABl ⊢; omega))
  unfold qbl
  rw [xv (by simp at hABl; omega),hAB]
  exact zaq
 ·have h6:x.Kind=6:=by omega
  have c1:∃ o,Ev (fun _=>uk c x (nd c x.K) ((A.length:Int),decide (B.head? = some x.To)) (qd1 (nd c x.K) : Int)) o∧((o = .nxt (⟨⟨c.Truth.Epoch,c.Truth.Leader,qf1 c.Truth.InStep x.To⟩,c.Nodes,c.Acked⟩,c.Nodes)∧¬ x.To∈c.Truth.InStep∧(nd c x.K).Told≤kn (nd c x.K) x.To∧(qd1 (nd c x.K) : Int)≤kn (nd c x.K) x.To)∨(o = .ret (false,c)∧¬ (¬ x.To∈c.Truth.InStep∧(nd c x.K).Told≤kn (nd c x.K) x.To∧(qd1 (nd c x.K) : Int)≤kn (nd c x.K) x.To))):=by
   unfold uk
   dsimp only
   by_cases d1:x.To∈c.Truth.InStep
   ·exact ⟨_,n8 (a:=true) (t6 (by simpa using hmem.1 d1) o6) (n8 (a:=true) (t6 rfl o6) (t6 rfl o6)),.inr ⟨rfl,fun h=>h.1 d1⟩⟩
   have d1':¬ B.head? = some x.To:=fun h=>d1 (hmem.2 h)
   by_cases d2:(nd c x.K).Told≤kn (nd c x.K) x.To
   case neg =>
    exact ⟨_,n8 (a:=true) (r5 (by simpa using d1') (r4 hkn (a3a (by simp; omega)))) (n8 (a:=true) (t6 rfl o6) (t6 rfl o6)),.inr ⟨rfl,fun h=>d2 h.2.1⟩⟩
   by_cases d3:(qd1 (nd c x.K) : Int)≤kn (nd c x.K) x.To
   case neg =>
    exact ⟨_,n8 (a:=false) (r5 (by simpa using d1') (r4 hkn (a3a (by simp; omega)))) (n8 (a:=true) (r5 rfl (r4 hkn (a3a (by simp; omega)))) (t6 rfl o6)),.inr ⟨rfl,fun h=>d3 h.2.2⟩⟩
   refine ⟨_,n8 (a:=false) (r5 (by simpa using d1') (r4 hkn (a3a (by simp; omega)))) (n8 (a:=false) (r5 rfl (r4 hkn (a3a (by simp; omega)))) (r5 rfl (r4 (a:=(A++x.To::B,[x.To])) ?_ o6))),.inl ⟨?_,d1,d2,d3⟩⟩
   ·unfold qds
    rw [hAB]
    exact zbf hABl
   ·have:qf1 c.Truth.InStep x.To=A++x.To::B:=by
     unfold qf1
     rw [hAB,(flt hA hB).1,(flt hA hB).2]
    rw [this]
  obtain ⟨o,e,h⟩:=c1
  have hh:=r5 (F:=fun _=>if ((!(decide (B.head? = some x.To)))||(decide (x.To=x.K)))=true then (some (.ret (false,c))) else ((qbl c.Truth.InStep (A.length:Int) (IntKind.wrap .i64 ((A.length:Int)+1))).bind fun v43=>(some (.nxt ((Cluster.mk (View.mk c.Truth.Epoch c.Truth.Leader v43) c.Nodes c.Acked),c.Nodes))))) (b:=decide (x.Kind=5)) (by simpa using h5) (Ev.jn (q9q al) e)
  rcases h with ⟨rfl,h⟩ | ⟨rfl,h⟩
  ·rw [show cdo c x=some _ by rw [qli h6,if_pos ⟨hl,h⟩]]
   refine Ev.jn hh (fin _ ?_)
   have hs:qf1 c.Truth.InStep x.To=A++x.To::B:=by
    unfold qf1
    rw [hAB,(flt hA hB).1,(flt hA hB).2]
   rw [hs]
   rw [hAB] at hml
   simp only [p9,a0r] at hml ⊢
   omega
  ·rw [show cdo c x=none by rw [qli h6,if_neg (fun q=>h q.2)]]
   exact Ev.jn_ret hh
theorem zac {c:Cluster}{x:ClusterStep}(hg:qam c)(hk:rng c.Nodes.length x.K)(ht:rng c.Nodes.length x.To) : Ev (fun k=>qba k c x) (qx3 c (cdo c x)):=by
 have a:=hg.fit hk
 have al:=a.log
 have hm:=hg.2.1.2.1
 have hml:=qbz hm
 have hn:=hg.1
 have hkn:=qgp a.know hk
 unfold qba
 refine r4 a.get ?_
 by_cases d1:x.Kind=1
 ·unfold cdo
  rw [if_pos d1]
  refine t6 (by simpa using d1) ?_
  obtain ⟨b,e,hb⟩:=Contains_int_is (l:=c.Truth.InStep) (v:=x.K) (by omega)
  have hE:=hg.2.1.1
  refine n8 e ?_
  by_cases h:x.K∈c.Truth.InStep
  ·rw [if_pos h,hb.2 h]
   refine r5 rfl ?_
   rw [qbt (n:=c.Truth.Epoch+1) (by omega) (by omega)]
   exact o6
  ·rw [if_neg h,bF hb h]
   exact t6 rfl o6
 refine r5 (by simpa using d1) ?_
 by_cases d2:x.Kind=2
 ·unfold cdo
  rw [if_neg d1,if_pos d2]
  refine t6 (by simpa using d2) ?_
  obtain ⟨b,e,hb⟩:=qqk (a:=(nd c x.K).View) (b:=c.Truth) (by have:=a.insl; omega)
  refine n8 e ?_
  by_cases h:qfn (nd c x.K).View c.Truth
  ·rw [if_pos h,hb.2 h]
   exact t6 rfl o6
  rw [if_neg h,bF hb h]
  have hcv:=qi1 (v:=c.Truth) (by omega)
  have hge:∀ y:Node,z7 (c.Nodes.set x.K.toNat y) x.K=some y:=fun y=>by
   unfold z7
   rw [if_pos hk.1]
   exact List.getElem?_set_self a.lt
  refine r5 rfl ?_
  unfold qic qdg
  by_cases c1:(nd c x.K).View.Epoch=c.Truth.Epoch
  ·rw [if_pos c1]
   refine n8 (a:=c.Nodes) (r5 (by simpa using c1) o6) ?_
   unfold ub
   exact n8 hcv (r4 a.get o6)
  ·rw [if_neg c1]
   have hmk:=qjw (b:=8) (n:=c.Nodes.length) (z:=(0:Int)) (by omega)
   by_cases c2:c.Truth.Leader=x.K
   ·rw [if_pos c2]
    have hz:z7 (r8 c.Nodes.length (0:Int)) x.K=some 0:=by
     unfold z7
     rw [if_pos hk.1,List.getElem?_replicate,if_pos a.lt]
    refine n8 (a:=c.Nodes.set x.K.toNat ⟨(nd c x.K).View,(nd c x.K).Log,(r8 c.Nodes.length (0:Int)).set x.K.toNat ((nd c x.K).Log.length:Int),0⟩) (t6 (by simpa using c1) (r4 hmk (t6 (by simpa using c2) (r4 hz o6)))) ?_
    unfold ub
    refine n8 hcv (r4 (hge _) ?_)
    rw [List.set_set]
    exact o6
   ·rw [if_neg c2]
    refine n8 (a:=c.Nodes.set x.K.toNat ⟨(nd c x.K).View,(nd c x.K).Log,r8 c.Nodes.length (0:Int),0⟩) (t6 (by simpa using c1) (r4 hmk (r5 (by simpa using c2) o6))) ?_
    unfold ub
    refine n8 hcv (r4 (hge _) ?_)
    rw [List.set_set]
    exact o6
 refine r5 (by simpa using d2) ?_
 by_cases d3:x.Kind=3
 ·unfold cdo
  rw [if_neg d1,if_neg d2,if_pos d3]
  refine t6 (by simpa using d3) ?_
  by_cases h:(nd c x.K).View.Leader=x.K∧(0≤x.N∧x.N≤99)∧(nd c x.K).Log.length≠30
  ·rw [if_pos h]
   refine r5 (bF (P:=¬ ((nd c x.K).View.Leader=x.K∧(0≤x.N∧x.N≤99)∧(nd c x.K).Log.length≠30)) (by simp [jc]; omega) (fun q=>q h)) ?_
   refine r4 (a:=(nd c x.K).Log++[⟨(nd c x.K).View.Epoch,x.N⟩]) (by unfold yc; rw [if_pos (by simp; omega)]) (r4 hkn ?_)
   rw [p9]
   exact o6
  ·rw [if_neg h]
   exact t6 (by simp [jc]; omega) o6
 refine r5 (by simpa using d3) ?_
 by_cases d4:x.Kind=4
 ·exact t6 (by simpa using d4) (n8 (q86 hg hk ht d4) o6)
 refine r5 (by simpa using d4) ?_
 by_cases d56:x.Kind=5∨x.Kind=6
 ·refine n8 (a:=true) ?_ ?_
  ·rcases d56 with h | h
   ·exact t6 (by simpa using h) (a3a (by simp [h]))
   ·exact r5 (by simp; omega) (a3a (by simp [h]))
  ·unfold qa4
   refine t6 rfl ?_
   by_cases hl:(nd c x.K).View.Leader=x.K∧(nd c x.K).View.Epoch=c.Truth.Epoch
   ·exact r5 (by simp [hl]) (n8 (q9d hg hk ht d56 hl) o6)
   ·have:cdo c x=none:=by
     unfold cdo
     rw [if_neg d1,if_neg d2,if_neg d3,if_neg d4]
     rcases d56 with h | h
     ·rw [if_pos h,if_neg (fun q=>hl q.1)]
     ·rw [if_neg (by omega),if_pos h,if_neg (fun q=>hl q.1)]
    rw [this]
    refine t6 ?_ o6
    simp only [a2r,Bool.not_eq_true',decide_eq_false_iff_not,decide_eq_true_eq]
    by_cases h:(nd c x.K).View.Leader=x.K
    ·exact .inr (fun q=>hl ⟨h,q⟩)
    ·exact .inl h
 refine n8 (a:=false) (r5 (by simp; omega) (a3a (by simp; omega))) ?_
 unfold qa4
 refine r5 (by simp) ?_
 by_cases d7:x.Kind=7
 case neg =>
  rw [qx4 (by omega)]
  exact r5 (by simpa using d7) o6
 refine t6 (by simpa using d7) ?_
 by_cases hl:(nd c x.K).View.Leader=x.K
 case neg =>
  rw [show cdo c x=none by rw [qlb d7,if_neg (fun q=>hl q.1)]]
  exact t6 (by simpa using hl) o6
 have hgn:=(hg.2.2.2 _ _ a.get').1
 have hkl:∀ j,kn (nd c x.K) j≤(nd c x.K).Log.length:=fun j=>by
  unfold kn
  cases h:(nd c x.K).Known[j.toNat]? with
  | none=>show (0:Int)≤_; omega
  | some m=>exact (hgn.2.2.2.2.2.2.2 _ _ h).2.1
 have hle:=qp1 a.know hkl (fun e=>by have:=hgn.1.2.2; rw [e] at this; cases this)
 refine r5 (by simpa using hl) (Ev.jn (q89 (by have:=a.insl; omega) a.know a.ins) ?_)
 unfold qdd
 have hto:=a.told
 by_cases h:(nd c x.K).Told<u1 (nd c x.K)
 case neg =>
  rw [show cdo c x=none by rw [qlb d7,if_neg (fun q=>h q.2)]]
  exact t6 (by simp; omega) o6
 rw [show cdo c x=some _ by rw [qlb d7,if_pos ⟨hl,h⟩]]
 refine r5 (by simp; omega) ?_
 by_cases h2:(c.Acked.length:Int)<u1 (nd c x.K)
 ·refine t6 (by simpa using h2) ?_
  rw [if_pos h2]
  exact (r4 (qo2 (by omega) hle) (r4 (ww (by simp; omega)) o6))
 ·refine r5 (by simpa using h2) ?_
  rw [if_neg h2]
  exact o6
end Go.Proofs.Ytohofoampalhoaa.X
