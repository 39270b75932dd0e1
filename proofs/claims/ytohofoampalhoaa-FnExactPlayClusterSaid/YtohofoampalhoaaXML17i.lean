/- The cluster: what a step does; the program's side. -/
import Derived.Test.YtohofoampalhoaaXML17b
import Derived.Test.YtohofoampalhoaaXML17s
import Derived.Test.YtohofoampalhoaaXMLAcp
open Bool renaming or_eq_true→a3h
open Go.Proofs.Ytohofoampalhoaa.X.Ev renaming bindp→a0q,bind→a0n,iteF→a0t,iteT→a00,jn→a39,of→a32,rfl→a0o
open List renaming filter_eq_self→a3p,getElem?_eq_getElem→a0b,length_append→a0p,length_cons→a1b,length→t6,replicate→a0y,take_add_one→a1v,take_of_length_le→a1h
open Option renaming bind_some→a0x
set_option linter.unusedVariables false
set_option linter.unusedSimpArgs false
namespace Go.Proofs.Ytohofoampalhoaa.X
open Go

def rng (n k:Int) : Prop:=0≤k∧k<n
def nd (c:Cluster)(k:Int) : Node:=if 0≤k then (c.Nodes[k.toNat]?).getD ⟨⟨0,0,[]⟩,[],[],0⟩ else ⟨⟨0,0,[]⟩,[],[],0⟩
def kn (x:Node)(k:Int) : Int:=(x.Known[k.toNat]?).getD 0
def uv (c:Cluster)(K:Int)(x:Node) : List Node:=c.Nodes.set K.toNat x
def qfu (a b:View) : Prop:=a.Epoch=b.Epoch∧a.Leader=b.Leader∧a.InStep=b.InStep
instance {a b:View} : Decidable (qfu a b):=by unfold qfu; infer_instance
def qm4:Cluster:=⟨⟨0,0,[]⟩,[],[]⟩
def qhn (T:View)(n:Nat)(K:Int)(me:Node) : Node :=
 if me.View.Epoch=T.Epoch then ⟨T,me.Log,me.Known,me.Told⟩ else ⟨T,me.Log,if T.Leader=K then (a0y n (0:Int)).set K.toNat (me.Log.length:Int) else a0y n 0,0⟩
def qfr (K N:Int)(me:Node) : Node:=⟨me.View,me.Log++[⟨me.View.Epoch,N⟩],me.Known.set K.toNat ((me.Log.length+1:Nat) : Int),me.Told⟩
def qf9 (N:Int)(me fr:Node) : List Row:=fr.Log.take (pre me.Log fr.Log+N.toNat)
def qd4 (N:Int)(me fr:Node) : Node:=⟨me.View,qf9 N me fr,me.Known,0⟩
def qdj (K N:Int)(me fr:Node) : Node:=⟨fr.View,fr.Log,fr.Known.set K.toNat ((qf9 N me fr).length:Int),fr.Told⟩
def uh (x:Node) : Int:=x.View.InStep.foldl (fun m o=>mnI m (kn x o)) 30
def qd5 (x:Node) : Nat:=x.Log.countP fun r=>decide (r.Epoch<x.View.Epoch)
def zfb (l:List Int)(me:Node) : Node:=⟨⟨me.View.Epoch,me.View.Leader,l⟩,me.Log,me.Known,me.Told⟩
def qi7 (c:Cluster)(K:Int)(l:List Int) : Cluster:=⟨⟨c.Truth.Epoch,c.Truth.Leader,l⟩,uv c K (zfb l (nd c K)),c.Acked⟩
def cdo (c:Cluster)(x:ClusterStep) : Option Cluster :=
 if x.Kind=1 then (if x.K∈c.Truth.InStep then some ⟨⟨c.Truth.Epoch+1,x.K,c.Truth.InStep⟩,c.Nodes,c.Acked⟩ else none)
 else if x.Kind=2 then (if qfu (nd c x.K).View c.Truth then none else some ⟨c.Truth,uv c x.K (qhn c.Truth c.Nodes.length x.K (nd c x.K)),c.Acked⟩)
 else if x.Kind=3 then (if (nd c x.K).View.Leader=x.K∧(0≤x.N∧x.N≤99)∧(nd c x.K).Log.length≠30 then some ⟨c.Truth,uv c x.K (qfr x.K x.N (nd c x.K)),c.Acked⟩ else none)
 else if x.Kind=4 then (if (x.K≠x.To∧(nd c x.To).View.Leader=x.To∧(nd c x.K).View.Leader≠x.K∧(nd c x.K).View.Epoch=(nd c x.To).View.Epoch)∧(0≤x.N∧x.N≤30) then some ⟨c.Truth,(uv c x.K (qd4 x.N (nd c x.K) (nd c x.To))).set x.To.toNat (qdj x.K x.N (nd c x.K) (nd c x.To)),c.Acked⟩ else none)
 else if x.Kind=5 then (if ((nd c x.K).View.Leader=x.K∧(nd c x.K).View.Epoch=c.Truth.Epoch)∧x.To∈c.Truth.InStep∧x.To≠x.K then some (qi7 c x.K (c.Truth.InStep.filter fun z=>decide (z≠x.To))) else none)
 else if x.Kind=6 then (if ((nd c x.K).View.Leader=x.K∧(nd c x.K).View.Epoch=c.Truth.Epoch)∧¬ x.To∈c.Truth.InStep∧(nd c x.K).Told≤kn (nd c x.K) x.To∧(qd5 (nd c x.K) : Int)≤kn (nd c x.K) x.To then some (qi7 c x.K (qcj c.Truth.InStep x.To)) else none)
 else if x.Kind=7 then (if (nd c x.K).View.Leader=x.K∧(nd c x.K).Told<uh (nd c x.K) then some ⟨c.Truth,uv c x.K ⟨(nd c x.K).View,(nd c x.K).Log,(nd c x.K).Known,uh (nd c x.K)⟩,if (c.Acked.length:Int)<uh (nd c x.K) then (nd c x.K).Log.take (uh (nd c x.K)).toNat else c.Acked⟩ else none)
 else none
def qak (c:Cluster)(x:ClusterStep) : Prop:=rng c.Nodes.length x.K∧rng c.Nodes.length x.To∧(x.To=0∨x.Kind=4∨x.Kind=5∨x.Kind=6)∧(x.N=0∨x.Kind=3∨x.Kind=4)
def qyy (c:Cluster) : Option Cluster→Bool × Cluster
 | some c'=>(true,c')
 | none=>(false,c)

structure FitN (c:Cluster) (k:Int) : Prop where
 get:zx c.Nodes k=some (nd c k)
 get':c.Nodes[k.toNat]? = some (nd c k)
 lt:k.toNat<c.Nodes.length
 log:(nd c k).Log.length≤30
 ep:0≤(nd c k).View.Epoch∧(nd c k).View.Epoch≤100
 ins:∀ o∈(nd c k).View.InStep,rng c.Nodes.length o
 insl:(nd c k).View.InStep.length≤4
 know:(nd c k).Known.length=c.Nodes.length
 told:0≤(nd c k).Told∧(nd c k).Told≤(nd c k).Log.length
theorem qx1 {l:List Int}{n:Nat}(h:qge l n) : ∀ o∈l,rng n o:=(qep.1 h).2
theorem qa9.fit {c:Cluster}(h:qa9 c){k:Int}(hk:rng c.Nodes.length k) : FitN c k:=by
 obtain ⟨h0,h1⟩:=hk
 have hlt:k.toNat<c.Nodes.length:=by omega
 have hg:c.Nodes[k.toNat]? = some (nd c k):=by
  unfold nd
  rw [if_pos h0,a0b hlt]
  rfl
 obtain ⟨⟨⟨e1,e2,_⟩,_,_,a4,a5,a6,a7,_⟩,_⟩:=h.2.2.2 _ _ hg
 refine ⟨?_,hg,hlt,a4.2,e1,qx1 e2,?_,a5,a6,a7⟩
 ·unfold zx
  rw [if_pos h0]
  exact hg
 ·have:=qcf e2
  have:=h.1.2
  omega
theorem qhe {x:Node}{n:Nat}{k:Int}(h:x.Known.length=n)(hk:rng n k) : zx x.Known k=some (kn x k):=by
 obtain ⟨h0,h1⟩:=hk
 have hlt:k.toNat<x.Known.length:=by omega
 unfold zx kn
 rw [if_pos h0,a0b hlt]
 rfl
theorem qpc {α:Type}{l:List α}{i:Int}(h0:0≤i)(h1:i≤l.length) : sl l 0 i=some (l.take i.toNat):=by
 have:=qg0 (l:=l) (i:=i.toNat) (by omega)
 rwa [Int.toNat_of_nonneg h0] at this

theorem qtt {L:List Row}{p:Nat}{n:Int}(hp:p≤L.length)(h0:0≤n)(h1:n≤30)(hL:L.length≤30) : sl (L.drop p) 0 (mnI n (t6 (L.drop p) : Int))=some ((L.drop p).take n.toNat):=by
 have e:mnI n (t6 (L.drop p) : Int)=((min n.toNat (L.drop p).length:Nat) : Int):=by unfold mnI; split <;> omega
 rw [e,qg0 (Nat.min_le_right _ _)]
 congr 1
 rcases Nat.le_total n.toNat (L.drop p).length with h | h
 ·rw [Nat.min_eq_left h]
 ·rw [Nat.min_eq_right h,List.take_length,a1h h]
theorem q9b {a L:List Row}{n:Nat} : a.take (pre a L)++(L.drop (pre a L)).take n=L.take (pre a L+n):=by rw [qpj,List.take_add]
theorem qjf {v:View}(h:v.InStep.length≤1048576) : Ev (fun _=>xm v) v:=by
 unfold xm
 exact a0q (w5 (by omega)) a0o
theorem q6k {l:List Node}{x:Node}(h:l.length≤1048576) : k5 96 l [x]=some (l++[x]):=by
 unfold k5
 rw [if_pos (by simp only [a1b,List.length_nil]; omega)]
theorem qmd {B:Nat→Node→Cluster→Option (Oc Cluster Cluster)}{c:Cluster}(h:c.nn≤1048576)(hB:∀ i x s,c.Nodes[i]? = some x→s.Nodes.length≤1048576→Ev (fun _=>B i x s) (.nxt ⟨⟨s.Truth.Epoch,s.Truth.Leader,c.Truth.InStep⟩,s.Nodes++[x],c.Acked⟩)) : Ev (fun _=>k9 B c.Nodes ⟨c.Truth,[],c.Acked⟩) (.nxt c):=by
 have hn:=(qhr h).2.1
 refine qce (B:=fun _=>B) (by omega) (fun i r s=>c.Nodes.drop i=r∧s=⟨c.Truth,c.Nodes.take i,c.Acked⟩) ⟨rfl,by simp⟩ (fun i x r s ⟨hr,hs⟩ => .inl ?_) (fun i s ⟨hr,hs⟩=>?_)
 ·have hx:c.Nodes[i]? = some x:=by have:=congrArg (fun z=>z[0]?) hr; simpa using this
  subst hs
  refine ⟨_,hB i x _ hx (by simp; omega),by have:=congrArg (List.drop 1) hr; simpa [List.drop_drop] using this,?_⟩
  rw [a1v,hx]
  rfl
 ·have hi:c.Nodes.length≤i:=by have:=congrArg t6 hr; simp at this; omega
  rw [hs,a1h hi]
theorem qo8 {c:Cluster}(h:c.nn≤1048576) : Ev (fun _=>qay c) c:=by
 obtain ⟨t1,t2,t3⟩:=qhr h
 unfold qay
 refine a0n (qjf t1) (a0q (w5 (by omega)) (a39 (qmd h (fun i x s hx hs=>?_)) a0o))
 obtain ⟨n1,n2,n3⟩:=qkr h hx
 unfold qa8
 exact a0n (qjf n1) (a0q (w5 (by omega)) (a0q (w5 (by omega)) (a0q (q6k hs) a0o)))
theorem qqu {a b:View}(ha:a.InStep.length≤1048576) : Is (fun _=>qcm a b) (qfu a b):=by
 unfold qcm qfu
 refine (Is.bind (P:=(a.Epoch=b.Epoch∧a.Leader=b.Leader)∧a.InStep=b.InStep) (Is.andb (by simp) (fun _=>Equal_int_is (by omega))) (fun b hb=>Is.of hb)).iff and_assoc
theorem qsq {c:Cluster}{x:ClusterStep}(hg:qa9 c)(hk:rng c.Nodes.length x.K)(ht:rng c.Nodes.length x.To) : Ev (fun k=>ko (fun s288=>we x s288.1 s288.2) k ((0:Int),c.Nodes)) (.nxt (((pre (nd c x.K).Log (nd c x.To).Log:Nat) : Int),c.Nodes)):=by
 have a:=hg.fit hk
 have b:=hg.fit ht
 have al:=a.log
 have bl:=b.log
 generalize hX:nd c x.K=X at *
 generalize hY:nd c x.To=Y at *
 have ag:zx c.Nodes x.K=some X:=by rw [←hX]; exact a.get
 have bg:zx c.Nodes x.To=some Y:=by rw [←hY]; exact b.get
 obtain ⟨o,e,n,rfl,h1,h2,h3,h4⟩:=Ev.loopQ (B:=fun s288:Int × List Node=>we x s288.1 s288.2) (s:=((0:Int),c.Nodes)) (fun o=>∃ n:Nat,o = .nxt ((n:Int),c.Nodes)∧CP X.Log Y.Log n) (fun s=>∃ n:Nat,s=((n:Int),c.Nodes)∧n≤X.Log.length∧n≤Y.Log.length∧X.Log.take n=Y.Log.take n) (fun s=>X.Log.length - s.1.toNat) ⟨0,rfl,by omega,by omega,by simp⟩ (fun s hs=>by
  obtain ⟨n,rfl,h1,h2,h3⟩:=hs
  unfold we
  dsimp only
  rw [ag,a0x,bg,a0x]
  by_cases hc:n<X.Log.length∧n<Y.Log.length
  ·have ha:X.Log[n]? = some X.Log[n]:=a0b hc.1
   have hb:Y.Log[n]? = some Y.Log[n]:=a0b hc.2
   rw [if_pos (by simp only [decide_eq_true_eq]; unfold mnI; split <;> omega),jl ha,jl hb]
   simp only [a0x]
   by_cases he:X.Log[n]=Y.Log[n]
   ·rw [if_pos (by rw [he]; simp)]
    refine .inl ⟨_,rfl,⟨n+1,by rw [xe (by omega)],by omega,by omega,?_⟩,by rw [xe (by omega)]; simp only; omega⟩
    rw [a1v,a1v,h3,ha,hb,he]
   ·rw [if_neg]
    ·exact .inr (.inl ⟨_,rfl,n,rfl,h1,h2,h3,fun _ _=>by rw [ha,hb]; simpa using he⟩)
    ·intro hh
     apply he
     generalize X.Log[n]=p at *
     generalize Y.Log[n]=q at *
     cases p
     cases q
     simpa using hh
  ·rw [if_neg (by simp only [decide_eq_true_eq]; unfold mnI; split <;> omega)]
   simp only [a0x]
   rw [if_neg (by simp)]
   exact .inr (.inl ⟨_,rfl,n,rfl,h1,h2,h3,fun g1 g2=>absurd ⟨g1,g2⟩ hc⟩))
 rw [CP_uniq CP_pre ⟨h1,h2,h3,h4⟩]
 exact e
theorem q8u {c:Cluster}{x:ClusterStep}(hg:qa9 c)(hk:rng c.Nodes.length x.K)(ht:rng c.Nodes.length x.To)(h4:x.Kind=4) : Ev (fun k=>uq k c x) (qyy c (cdo c x)):=by
 have a:=hg.fit hk
 have b:=hg.fit ht
 have al:=a.log
 have bl:=b.log
 unfold uq cdo
 rw [if_neg (by omega),if_neg (by omega),if_neg (by omega),if_pos h4]
 refine a0q a.get (a0q b.get ?_)
 by_cases c1:x.K≠x.To∧(nd c x.To).View.Leader=x.To∧(nd c x.K).View.Leader≠x.K∧(nd c x.K).View.Epoch=(nd c x.To).View.Epoch
 case neg =>
  rw [if_neg (fun h=>c1 h.1)]
  refine a00 ?_ a0o
  simp only [a3h,decide_eq_true_eq]
  by_cases d1:x.K=x.To
  ·exact .inl (.inl (.inl d1))
  ·by_cases d2:(nd c x.To).View.Leader=x.To
   ·by_cases d3:(nd c x.K).View.Leader=x.K
    ·exact .inl (.inr d3)
    ·exact .inr (fun d4=>c1 ⟨d1,d2,d3,d4⟩)
   ·exact .inl (.inl (.inr d2))
 refine a0t (by simp [c1]) ?_
 by_cases c2:0≤x.N∧x.N≤30
 case neg =>
  rw [if_neg (fun h=>c2 h.2)]
  exact a00 (qss.2 c2) a0o
 rw [if_pos ⟨c1,c2⟩]
 refine a0t (bF qss (fun h=>h c2)) (a39 (qsq hg hk ht) ?_)
 unfold qb8
 dsimp only
 have hp:=quz (a:=(nd c x.K).Log) (b:=(nd c x.To).Log)
 have hpt:=qpj (a:=(nd c x.K).Log) (b:=(nd c x.To).Log)
 refine a0q b.get (a0q (qrd hp.2) (a0q a.get ?_))
 rw [qo7 (Ne.symm c1.1)]
 have happ:k5 16 (((nd c x.K).Log.take (pre (nd c x.K).Log (nd c x.To).Log))) ((((nd c x.To).Log.drop (pre (nd c x.K).Log (nd c x.To).Log)).take x.N.toNat))=some (qf9 x.N (nd c x.K) (nd c x.To)):=by
  unfold k5
  rw [if_pos (by simp; omega),q9b]
  rfl
 have hkn:=qhe b.know hk
 refine a0q (qg0 hp.1) (a0q (w5 (by simp; omega)) (a0q (qtt hp.2 c2.1 c2.2 bl) (a0q happ (a0q hkn ?_))))
 exact a0o
theorem q93 {x:Node}(hl:x.Log.length≤30) : Ev (fun _=>xv (fun i76 s119=>wd x i76 s119) (t6 x.Log:Int) 0) (.nxt (qd5 x:Int)):=by
 simp only [qlo]
 refine qce (B:=fun _ i (_:Unit) s=>wd x i s) (by simp; omega) (fun i r s=>i+r.length=x.Log.length∧s=(((x.Log.take i).countP fun r=>decide (r.Epoch<x.View.Epoch) : Nat) : Int)) (by simp) (fun i u r s ⟨hr,hs⟩ => .inl ?_) (fun i s ⟨hr,hs⟩=>?_)
 ·simp only [a1b] at hr
  have hx:x.Log[i]? = some (x.Log[i]'(by omega)):=a0b _
  have hc:((x.Log.take i).countP fun r=>decide (r.Epoch<x.View.Epoch))≤(x.Log.take i).length:=List.countP_le_length
  rw [List.length_take] at hc
  subst hs
  unfold wd
  rw [a1v,hx,List.countP_append]
  generalize x.Log[i]'_=y at hx
  by_cases h:y.Epoch<x.View.Epoch
  ·refine ⟨_,a0q (jl hx) (a00 (by simpa using h) a0o),by omega,?_⟩
   rw [xe (by omega)]
   simp [h]
  ·refine ⟨_,a0q (jl hx) (a0t (by simpa using h) a0o),by omega,?_⟩
   simp [h]
 ·have:x.Log.length≤i:=by simp at hr; omega
  rw [hs,a1h this]
  rfl
theorem qmo {x:Node}{n:Nat}{ρ:Type}{B:Nat→Int→Option (Oc Int ρ)}(hl:x.View.InStep.length≤1000)(hk:x.Known.length=n)(hi:∀ o∈x.View.InStep,rng n o)(hB:∀ i o s,x.View.InStep[i]? = some o→zx x.Known o=some (kn x o)→B i s=some (.nxt (mnI s (kn x o)))) : Ev (fun _=>xv (fun i s=>B i s) (t6 x.View.InStep:Int) 30) (.nxt (uh x)):=by
 simp only [qlo]
 refine qce (B:=fun _ i (_:Unit) s=>B i s) (by simp; omega) (fun i r s=>i+r.length=x.View.InStep.length∧s=(x.View.InStep.take i).foldl (fun m o=>mnI m (kn x o)) 30) (by simp) (fun i u r s ⟨hr,hs⟩ => .inl ?_) (fun i s ⟨hr,hs⟩=>?_)
 ·simp only [a1b] at hr
  have hx:x.View.InStep[i]? = some (x.View.InStep[i]'(by omega)):=a0b _
  have hm:=List.mem_of_getElem? hx
  subst hs
  refine ⟨_,a32 (hB i _ _ hx (qhe hk (hi _ hm))),by omega,?_⟩
  rw [a1v,hx,List.foldl_append]
  rfl
 ·have:x.View.InStep.length≤i:=by simp at hr; omega
  rw [hs,a1h this]
  rfl
theorem q87 {x:Node}{n:Nat}(hl:x.View.InStep.length≤1000)(hk:x.Known.length=n)(hi:∀ o∈x.View.InStep,rng n o) : Ev (fun _=>xv (fun i346 s381=>uk x i346 s381) (t6 x.View.InStep:Int) 30) (.nxt (uh x)):=by
 refine qmo hl hk hi (fun i o s hx hg=>?_)
 unfold uk
 rw [jl hx,a0x,hg,a0x]
theorem qll {x:Node}{n:Nat}(hk:x.Known.length=n)(hkl:∀ j,kn x j≤x.Log.length)(h:x.View.InStep≠[]) : uh x≤x.Log.length:=by
 have key:∀ (l:List Int) (m:Int),l.foldl (fun m o=>mnI m (kn x o)) m≤m∧∀ o∈l,l.foldl (fun m o=>mnI m (kn x o)) m≤kn x o:=by
  intro l
  induction l with
  | nil=>intro m; exact ⟨Int.le_refl _,by simp⟩
  | cons a l ih =>
   intro m
   obtain ⟨h1,h2⟩:=ih (mnI m (kn x a))
   have h3:mnI m (kn x a)≤m∧mnI m (kn x a)≤kn x a:=by unfold mnI; split <;> omega
   simp only [List.foldl_cons]
   refine ⟨by omega,fun o ho=>?_⟩
   rcases List.mem_cons.1 ho with rfl | ho
   ·omega
   ·exact h2 o ho
 obtain ⟨o,q,e⟩:=List.exists_cons_of_ne_nil h
 have:=(key x.View.InStep 30).2 o (by rw [e]; simp)
 have:=hkl o
 unfold uh
 omega
theorem qot {c:Cluster}{x:ClusterStep}(h:x.Kind=5) : cdo c x=if ((nd c x.K).View.Leader=x.K∧(nd c x.K).View.Epoch=c.Truth.Epoch)∧x.To∈c.Truth.InStep∧x.To≠x.K then some (qi7 c x.K (c.Truth.InStep.filter fun z=>decide (z≠x.To))) else none:=by
 unfold cdo
 rw [if_neg (by omega),if_neg (by omega),if_neg (by omega),if_neg (by omega),if_pos h]
theorem qkg {c:Cluster}{x:ClusterStep}(h:x.Kind=6) : cdo c x=if ((nd c x.K).View.Leader=x.K∧(nd c x.K).View.Epoch=c.Truth.Epoch)∧¬ x.To∈c.Truth.InStep∧(nd c x.K).Told≤kn (nd c x.K) x.To∧(qd5 (nd c x.K) : Int)≤kn (nd c x.K) x.To then some (qi7 c x.K (qcj c.Truth.InStep x.To)) else none:=by
 unfold cdo
 rw [if_neg (by omega),if_neg (by omega),if_neg (by omega),if_neg (by omega),if_neg (by omega),if_pos h]
theorem qkl {c:Cluster}{x:ClusterStep}(h:x.Kind=7) : cdo c x=if (nd c x.K).View.Leader=x.K∧(nd c x.K).Told<uh (nd c x.K) then some ⟨c.Truth,uv c x.K ⟨(nd c x.K).View,(nd c x.K).Log,(nd c x.K).Known,uh (nd c x.K)⟩,if (c.Acked.length:Int)<uh (nd c x.K) then (nd c x.K).Log.take (uh (nd c x.K)).toNat else c.Acked⟩ else none:=by
 unfold cdo
 rw [if_neg (by omega),if_neg (by omega),if_neg (by omega),if_neg (by omega),if_neg (by omega),if_neg (by omega),if_pos h]
theorem qru {c:Cluster}{x:ClusterStep}(h:¬ (1≤x.Kind∧x.Kind≤7)) : cdo c x=none:=by
 unfold cdo
 rw [if_neg (by omega),if_neg (by omega),if_neg (by omega),if_neg (by omega),if_neg (by omega),if_neg (by omega),if_neg (by omega)]
theorem q9a {c:Cluster}{x:ClusterStep}(hg:qa9 c)(hk:rng c.Nodes.length x.K)(ht:rng c.Nodes.length x.To)(h56:x.Kind=5∨x.Kind=6)(hl:(nd c x.K).View.Leader=x.K∧(nd c x.K).View.Epoch=c.Truth.Epoch) : Ev (fun k=>uo k c x) (qyy c (cdo c x)):=by
 have a:=hg.fit hk
 have al:=a.log
 have hm:=hg.2.1.2.1
 have hml:=qcf hm
 have hn:=hg.1
 obtain ⟨A,B,hAB,hA,hB,hmem,hB2⟩:=ql7 (qf0 hm) x.To
 have hABl:(A++B).length≤1000:=by rw [←hAB]; omega
 have hkn:=qhe a.know ht
 have fin:∀ l:List Int,l.length≤1000→Ev (fun _=>uy c x ⟨⟨c.Truth.Epoch,c.Truth.Leader,l⟩,c.Nodes,c.Acked⟩ c.Nodes) (true,qi7 c x.K l):=by
  intro l hl
  unfold uy
  exact a0q (w5 (by dsimp only; omega)) (a0q a.get a0o)
 unfold uo
 refine a0q a.get (a0n (a:=((A.length:Int),decide (B.head? = some x.To))) (by rw [hAB]; exact zdp hABl hA hB) ?_)
 by_cases h5:x.Kind=5
 ·by_cases c1:x.To∈c.Truth.InStep∧x.To≠x.K
  case neg =>
   rw [show cdo c x=none by rw [qot h5,if_neg (fun h=>c1 h.2)]]
   refine Ev.jn_ret (a00 (by simpa using h5) (a00 ?_ a0o))
   rw [hmem,Decidable.not_and_iff_not_or_not] at c1
   simpa using c1
  rw [show cdo c x=some _ by rw [qot h5,if_pos ⟨hl,c1⟩]]
  have hh:=hmem.1 c1.1
  obtain ⟨B',rfl⟩ : ∃ B',B=x.To::B':=by
   cases B with
   | nil=>cases hh
   | cons b B=>exact ⟨B,by simp at hh; rw [hh]⟩
  have hB3:=hB2 hh
  have hfl:c.Truth.InStep.filter (fun z=>decide (z≠x.To))=A++B':=by
   rw [hAB,List.filter_append,a3p.2 (fun z hz=>by have:=hA z hz; simp; omega),List.filter_cons_of_neg (by simp),a3p.2 (fun z hz=>by have:=hB3 z hz; simp; omega)]
  rw [hfl]
  refine a39 (s:=(⟨⟨c.Truth.Epoch,c.Truth.Leader,A++B'⟩,c.Nodes,c.Acked⟩,c.Nodes)) (a00 (by simpa using h5) (a0t (by simp [c1.2]) (a0q (a:=A++B') ?_ a0o))) (fin _ (by simp at hABl ⊢; omega))
  unfold qbw
  rw [xe (by simp at hABl; omega),hAB]
  exact zao
 ·have h6:x.Kind=6:=by omega
  have c1:∃ o,Ev (fun _=>u1 c x (nd c x.K) ((A.length:Int),decide (B.head? = some x.To)) (qd5 (nd c x.K) : Int)) o∧((o = .nxt (⟨⟨c.Truth.Epoch,c.Truth.Leader,qcj c.Truth.InStep x.To⟩,c.Nodes,c.Acked⟩,c.Nodes)∧¬ x.To∈c.Truth.InStep∧(nd c x.K).Told≤kn (nd c x.K) x.To∧(qd5 (nd c x.K) : Int)≤kn (nd c x.K) x.To)∨(o = .ret (false,c)∧¬ (¬ x.To∈c.Truth.InStep∧(nd c x.K).Told≤kn (nd c x.K) x.To∧(qd5 (nd c x.K) : Int)≤kn (nd c x.K) x.To))):=by
   unfold u1
   dsimp only
   by_cases d1:x.To∈c.Truth.InStep
   ·exact ⟨_,a0n (a:=true) (a00 (by simpa using hmem.1 d1) a0o) (a0n (a:=true) (a00 rfl a0o) (a00 rfl a0o)),.inr ⟨rfl,fun h=>h.1 d1⟩⟩
   have d1':¬ B.head? = some x.To:=fun h=>d1 (hmem.2 h)
   by_cases d2:(nd c x.K).Told≤kn (nd c x.K) x.To
   case neg =>
    exact ⟨_,a0n (a:=true) (a0t (by simpa using d1') (a0q hkn (a32 (by simp; omega)))) (a0n (a:=true) (a00 rfl a0o) (a00 rfl a0o)),.inr ⟨rfl,fun h=>d2 h.2.1⟩⟩
   by_cases d3:(qd5 (nd c x.K) : Int)≤kn (nd c x.K) x.To
   case neg =>
    exact ⟨_,a0n (a:=false) (a0t (by simpa using d1') (a0q hkn (a32 (by simp; omega)))) (a0n (a:=true) (a0t rfl (a0q hkn (a32 (by simp; omega)))) (a00 rfl a0o)),.inr ⟨rfl,fun h=>d3 h.2.2⟩⟩
   refine ⟨_,a0n (a:=false) (a0t (by simpa using d1') (a0q hkn (a32 (by simp; omega)))) (a0n (a:=false) (a0t rfl (a0q hkn (a32 (by simp; omega)))) (a0t rfl (a0q (a:=(A++x.To::B,[x.To])) ?_ a0o))),.inl ⟨?_,d1,d2,d3⟩⟩
   ·unfold qd1
    rw [hAB]
    exact zbj hABl
   ·have:qcj c.Truth.InStep x.To=A++x.To::B:=by
     unfold qcj
     rw [hAB,(flt hA hB).1,(flt hA hB).2]
    rw [this]
  obtain ⟨o,e,h⟩:=c1
  have hh:=a0t (F:=fun _=>if ((!(decide (B.head? = some x.To)))||(decide (x.To=x.K)))=true then (some (.ret (false,c))) else ((qbw c.Truth.InStep (A.length:Int) (IntKind.wrap .i64 ((A.length:Int)+1))).bind fun v43=>(some (.nxt ((Cluster.mk (View.mk c.Truth.Epoch c.Truth.Leader v43) c.Nodes c.Acked),c.Nodes))))) (b:=decide (x.Kind=5)) (by simpa using h5) (a39 (q93 al) e)
  rcases h with ⟨rfl,h⟩ | ⟨rfl,h⟩
  ·rw [show cdo c x=some _ by rw [qkg h6,if_pos ⟨hl,h⟩]]
   refine a39 hh (fin _ ?_)
   have hs:qcj c.Truth.InStep x.To=A++x.To::B:=by
    unfold qcj
    rw [hAB,(flt hA hB).1,(flt hA hB).2]
   rw [hs]
   rw [hAB] at hml
   simp only [a0p,a1b] at hml ⊢
   omega
  ·rw [show cdo c x=none by rw [qkg h6,if_neg (fun q=>h q.2)]]
   exact Ev.jn_ret hh
theorem zb5 {c:Cluster}{x:ClusterStep}(hg:qa9 c)(hk:rng c.Nodes.length x.K)(ht:rng c.Nodes.length x.To) : Ev (fun k=>qbf k c x) (qyy c (cdo c x)):=by
 have a:=hg.fit hk
 have al:=a.log
 have hm:=hg.2.1.2.1
 have hml:=qcf hm
 have hn:=hg.1
 have hkn:=qhe a.know hk
 unfold qbf
 refine a0q a.get ?_
 by_cases d1:x.Kind=1
 ·unfold cdo
  rw [if_pos d1]
  refine a00 (by simpa using d1) ?_
  obtain ⟨b,e,hb⟩:=Contains_int_is (l:=c.Truth.InStep) (v:=x.K) (by omega)
  have hE:=hg.2.1.1
  refine a0n e ?_
  by_cases h:x.K∈c.Truth.InStep
  ·rw [if_pos h,hb.2 h]
   refine a0t rfl ?_
   rw [qc5 (n:=c.Truth.Epoch+1) (by omega) (by omega)]
   exact a0o
  ·rw [if_neg h,bF hb h]
   exact a00 rfl a0o
 refine a0t (by simpa using d1) ?_
 by_cases d2:x.Kind=2
 ·unfold cdo
  rw [if_neg d1,if_pos d2]
  refine a00 (by simpa using d2) ?_
  obtain ⟨b,e,hb⟩:=qqu (a:=(nd c x.K).View) (b:=c.Truth) (by have:=a.insl; omega)
  refine a0n e ?_
  by_cases h:qfu (nd c x.K).View c.Truth
  ·rw [if_pos h,hb.2 h]
   exact a00 rfl a0o
  rw [if_neg h,bF hb h]
  have hcv:=qjf (v:=c.Truth) (by omega)
  have hge:∀ y:Node,zx (c.Nodes.set x.K.toNat y) x.K=some y:=fun y=>by
   unfold zx
   rw [if_pos hk.1]
   exact List.getElem?_set_self a.lt
  refine a0t rfl ?_
  unfold qhn uv
  by_cases c1:(nd c x.K).View.Epoch=c.Truth.Epoch
  ·rw [if_pos c1]
   refine a0n (a:=c.Nodes) (a0t (by simpa using c1) a0o) ?_
   unfold ur
   exact a0n hcv (a0q a.get a0o)
  ·rw [if_neg c1]
   have hmk:=qp0 (b:=8) (n:=c.Nodes.length) (z:=(0:Int)) (by omega)
   by_cases c2:c.Truth.Leader=x.K
   ·rw [if_pos c2]
    have hz:zx (a0y c.Nodes.length (0:Int)) x.K=some 0:=by
     unfold zx
     rw [if_pos hk.1,List.getElem?_replicate,if_pos a.lt]
    refine a0n (a:=c.Nodes.set x.K.toNat ⟨(nd c x.K).View,(nd c x.K).Log,(a0y c.Nodes.length (0:Int)).set x.K.toNat ((nd c x.K).Log.length:Int),0⟩) (a00 (by simpa using c1) (a0q hmk (a00 (by simpa using c2) (a0q hz a0o)))) ?_
    unfold ur
    refine a0n hcv (a0q (hge _) ?_)
    rw [List.set_set]
    exact a0o
   ·rw [if_neg c2]
    refine a0n (a:=c.Nodes.set x.K.toNat ⟨(nd c x.K).View,(nd c x.K).Log,a0y c.Nodes.length (0:Int),0⟩) (a00 (by simpa using c1) (a0q hmk (a0t (by simpa using c2) a0o))) ?_
    unfold ur
    refine a0n hcv (a0q (hge _) ?_)
    rw [List.set_set]
    exact a0o
 refine a0t (by simpa using d2) ?_
 by_cases d3:x.Kind=3
 ·unfold cdo
  rw [if_neg d1,if_neg d2,if_pos d3]
  refine a00 (by simpa using d3) ?_
  by_cases h:(nd c x.K).View.Leader=x.K∧(0≤x.N∧x.N≤99)∧(nd c x.K).Log.length≠30
  ·rw [if_pos h]
   refine a0t (bF (P:=¬ ((nd c x.K).View.Leader=x.K∧(0≤x.N∧x.N≤99)∧(nd c x.K).Log.length≠30)) (by simp [zw]; omega) (fun q=>q h)) ?_
   refine a0q (a:=(nd c x.K).Log++[⟨(nd c x.K).View.Epoch,x.N⟩]) (by unfold k5; rw [if_pos (by simp; omega)]) (a0q hkn ?_)
   rw [a0p]
   exact a0o
  ·rw [if_neg h]
   exact a00 (by simp [zw]; omega) a0o
 refine a0t (by simpa using d3) ?_
 by_cases d4:x.Kind=4
 ·exact a00 (by simpa using d4) (a0n (q8u hg hk ht d4) a0o)
 refine a0t (by simpa using d4) ?_
 by_cases d56:x.Kind=5∨x.Kind=6
 ·refine a0n (a:=true) ?_ ?_
  ·rcases d56 with h | h
   ·exact a00 (by simpa using h) (a32 (by simp [h]))
   ·exact a0t (by simp; omega) (a32 (by simp [h]))
  ·unfold qbr
   refine a00 rfl ?_
   by_cases hl:(nd c x.K).View.Leader=x.K∧(nd c x.K).View.Epoch=c.Truth.Epoch
   ·exact a0t (by simp [hl]) (a0n (q9a hg hk ht d56 hl) a0o)
   ·have:cdo c x=none:=by
     unfold cdo
     rw [if_neg d1,if_neg d2,if_neg d3,if_neg d4]
     rcases d56 with h | h
     ·rw [if_pos h,if_neg (fun q=>hl q.1)]
     ·rw [if_neg (by omega),if_pos h,if_neg (fun q=>hl q.1)]
    rw [this]
    refine a00 ?_ a0o
    simp only [a3h,Bool.not_eq_true',decide_eq_false_iff_not,decide_eq_true_eq]
    by_cases h:(nd c x.K).View.Leader=x.K
    ·exact .inr (fun q=>hl ⟨h,q⟩)
    ·exact .inl h
 refine a0n (a:=false) (a0t (by simp; omega) (a32 (by simp; omega))) ?_
 unfold qbr
 refine a0t (by simp) ?_
 by_cases d7:x.Kind=7
 case neg =>
  rw [qru (by omega)]
  exact a0t (by simpa using d7) a0o
 refine a00 (by simpa using d7) ?_
 by_cases hl:(nd c x.K).View.Leader=x.K
 case neg =>
  rw [show cdo c x=none by rw [qkl d7,if_neg (fun q=>hl q.1)]]
  exact a00 (by simpa using hl) a0o
 have hgn:=(hg.2.2.2 _ _ a.get').1
 have hkl:∀ j,kn (nd c x.K) j≤(nd c x.K).Log.length:=fun j=>by
  unfold kn
  cases h:(nd c x.K).Known[j.toNat]? with
  | none=>show (0:Int)≤_; omega
  | some m=>exact (hgn.2.2.2.2.2.2.2 _ _ h).2.1
 have hle:=qll a.know hkl (fun e=>by have:=hgn.1.2.2; rw [e] at this; cases this)
 refine a0t (by simpa using hl) (a39 (q87 (by have:=a.insl; omega) a.know a.ins) ?_)
 unfold qde
 have hto:=a.told
 by_cases h:(nd c x.K).Told<uh (nd c x.K)
 case neg =>
  rw [show cdo c x=none by rw [qkl d7,if_neg (fun q=>h q.2)]]
  exact a00 (by simp; omega) a0o
 rw [show cdo c x=some _ by rw [qkl d7,if_pos ⟨hl,h⟩]]
 refine a0t (by simp; omega) ?_
 by_cases h2:(c.Acked.length:Int)<uh (nd c x.K)
 ·refine a00 (by simpa using h2) ?_
  rw [if_pos h2]
  exact (a0q (qpc (by omega) hle) (a0q (w5 (by simp; omega)) a0o))
 ·refine a0t (by simpa using h2) ?_
  rw [if_neg h2]
  exact a0o
end Go.Proofs.Ytohofoampalhoaa.X
