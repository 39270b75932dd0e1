/- Groups of replicas: whether one is good, on both sides. -/
import Derived.Test.YtefgfcalgjmhjaaXEK
import Derived.Test.YtefgfcalgjmhjaaXELAmem
import Derived.Test.YtefgfcalgjmhjaaXELAhas
import Derived.Test.YtefgfcalgjmhjaaXELArows
import Derived.Test.YtefgfcalgjmhjaaXELApre
set_option linter.unusedVariables false
set_option linter.unusedSimpArgs false
namespace Go.Proofs.Ytefgfcalgjmhjaa.X
open Go

def pre:List Row→List Row→Nat
 | x::a,y::b=>if x=y then pre a b+1 else 0
 | _,_=>0
def CP (a b:List Row)(n:Nat) : Prop:=n≤a.length∧n≤b.length∧a.take n=b.take n∧(n<a.length→n<b.length→a[n]? ≠ b[n]?)
theorem CP_pre:∀ {a b:List Row},CP a b (pre a b):=by
 intro a
 induction a with
 | nil=>intro b; exact ⟨by simp [pre],by simp [pre],by simp [pre],fun h=>by simp at h⟩
 | cons x a ih =>
  intro b
  cases b with
  | nil=>exact ⟨by simp [pre],by simp [pre],by simp [pre],fun _ h=>by simp at h⟩
  | cons y b =>
   by_cases e:x=y
   ·subst e
    obtain ⟨h1,h2,h3,h4⟩:=ih (b:=b)
    simp only [pre,if_true]
    exact ⟨by simp; omega,by simp; omega,by simp [h3],fun h5 h6=>by simpa using h4 (by simpa using h5) (by simpa using h6)⟩
   ·simp only [pre,if_neg e]
    exact ⟨by simp,by simp,by simp,fun _ _=>by simpa using e⟩
theorem CP_uniq {a b:List Row}{n m:Nat}(h1:CP a b n)(h2:CP a b m) : n=m:=by
 have key:∀ {n m:Nat},CP a b n→CP a b m→n<m→False:=by
  intro n m ⟨p1,p2,p3,p4⟩ ⟨q1,q2,q3,q4⟩ h
  refine p4 (by omega) (by omega) ?_
  have:=congrArg (fun z=>z[n]?) q3
  simpa [List.getElem?_take_of_lt h] using this
 rcases Nat.lt_trichotomy n m with h | h | h
 ·exact (key h1 h2 h).elim
 ·exact h
 ·exact (key h2 h1 h).elim
theorem qb5 {a b:List Row} : pre a b≤a.length∧pre a b≤b.length:=⟨CP_pre.1,CP_pre.2.1⟩
theorem qk5 {a b:List Row} : a.take (pre a b)=b.take (pre a b):=CP_pre.2.2.1
theorem qf8 {a:List Row} : pre a a=a.length:=CP_uniq CP_pre ⟨Nat.le_refl _,Nat.le_refl _,rfl,fun h=>by omega⟩
theorem qm5 {a b:List Row}(hl:a.length≤1048576) : Ev (fun k=>qan k a b) ((pre a b:Nat) : Int):=by
 obtain ⟨n,e,h1,h2,h3,h4⟩:=qnn (b:=b) hl
 rw [CP_uniq CP_pre ⟨h1,h2,h3,h4⟩]
 exact e
theorem qfk {g:Group}{i j:Int}{x y:Replica}(hl:x.Log.length≤1048576)(hl2:y.Log.length≤1048576)(hx:zy g.Replicas i=some x)(hj:j=g.Leader)(hy:zy g.Replicas j=some y) : Ev (fun k=>kn k g i) ((pre x.Log y.Log:Nat) : Int):=by
 subst hj
 unfold kn
 refine Ev.bindp hx (Ev.bindp hy ?_)
 obtain ⟨o,e,n,rfl,h1,h2,h3,h4⟩:=Ev.loopQ (B:=fun s60=>wo x y s60) (s:=0) (fun o=>∃ n:Nat,o = .nxt (n:Int)∧CP x.Log y.Log n) (fun s=>∃ n:Nat,s=(n:Int)∧n≤x.Log.length∧n≤y.Log.length∧x.Log.take n=y.Log.take n) (fun s=>x.Log.length - s.toNat) ⟨0,rfl,by omega,by omega,by simp⟩ (fun s hs=>by
  obtain ⟨n,rfl,h1,h2,h3⟩:=hs
  unfold wo
  by_cases hc:n<x.Log.length∧n<y.Log.length
  ·have ha:x.Log[n]? = some x.Log[n]:=List.getElem?_eq_getElem hc.1
   have hb:y.Log[n]? = some y.Log[n]:=List.getElem?_eq_getElem hc.2
   rw [if_pos (by simp only [decide_eq_true_eq]; unfold mnI; split <;> omega),ju ha,ju hb]
   simp only [Option.bind_some]
   by_cases he:x.Log[n]=y.Log[n]
   ·refine .inl ⟨((n+1:Nat) : Int),?_,⟨n+1,rfl,by omega,by omega,?_⟩,?_⟩
    ·rw [if_pos (by simp [he]),qjt (by omega)]
    ·rw [List.take_add_one,List.take_add_one,h3,ha,hb,he]
    ·simp only [Int.toNat_natCast]; omega
   ·refine .inr (.inl ⟨(n:Int),?_,n,rfl,h1,h2,h3,fun _ _=>by rw [ha,hb]; exact fun h=>he (Option.some.inj h)⟩)
    rw [if_neg (fun h=>he (by
     simp at h
     cases hh:x.Log[n]; cases hh2:y.Log[n]
     rw [hh,hh2] at h
     simp at h
     rw [h.1,h.2]))]
  ·rw [if_neg (by simp only [decide_eq_true_eq]; unfold mnI; split <;> omega)]
   exact .inr (.inl ⟨(n:Int),rfl,n,rfl,h1,h2,h3,fun x y=>absurd ⟨x,y⟩ hc⟩))
 rw [CP_uniq CP_pre ⟨h1,h2,h3,h4⟩]
 exact Ev.jn e Ev.rfl

def lead (g:Group) : List Row:=match g.Replicas[g.Leader.toNat]? with
 | some x=>x.Log
 | none=>[]
def qgj (g:Group)(i:Nat)(x:Replica) : Prop :=
 qdl x.Log g.Epoch∧(0≤x.Epoch∧x.Epoch≤g.Epoch)∧(0≤x.Known∧x.Known≤x.Log.length)∧((i:Int)∈g.InStep→g.High≤pre x.Log (lead g))∧(x.Epoch=g.Epoch→x.Known≤pre x.Log (lead g))
def ya (g:Group) : Prop:=((2≤g.Replicas.length∧g.Replicas.length≤4)∧(0≤g.Epoch∧g.Epoch≤100))∧(qe1 g.InStep g.Replicas.length∧g.Leader∈g.InStep∧0≤g.High)∧∀ (i:Nat) (x:Replica),g.Replicas[i]? = some x→qgj g i x
theorem qhf {g:Group}(h:g.nn≤1048576) : g.InStep.length≤1048576∧g.Replicas.length≤1048576∧∀ (i:Nat) (x:Replica),g.Replicas[i]? = some x→x.Log.length≤1048576:=by
 have hh:g.InStep.length+(nnL Replica.nn g.Replicas+0)≤1048576:=h
 have hl:=q1h (f:=Replica.nn) (l:=g.Replicas)
 refine ⟨by omega,by omega,fun i x hx=>?_⟩
 have:=q1q (f:=Replica.nn) hx
 have h2:x.nn=x.Log.length+0:=rfl
 omega
theorem qmz {g:Group}(h1:qe1 g.InStep g.Replicas.length)(h2:g.Leader∈g.InStep) : ∃ y,zy g.Replicas g.Leader=some y∧g.Replicas[g.Leader.toNat]? = some y∧y.Log=lead g∧0≤g.Leader∧g.Leader<g.Replicas.length:=by
 obtain ⟨i,hi⟩:=List.getElem?_of_mem h2
 obtain ⟨a,b,_⟩:=h1 i _ hi
 have hlt:g.Leader.toNat<g.Replicas.length:=by omega
 have hy:g.Replicas[g.Leader.toNat]? = some g.Replicas[g.Leader.toNat]:=List.getElem?_eq_getElem hlt
 refine ⟨_,by unfold zy; rw [if_pos a]; exact hy,hy,?_,a,b⟩
 unfold lead
 rw [hy]
theorem q29 {n a b:Int} : (!(kj n a b))=true↔¬ (a≤n∧n≤b):=by
 simp only [kj,Bool.not_eq_true',Bool.and_eq_false_iff,decide_eq_false_iff_not]; omega
theorem qd0 {n a b:Int} : (!(zp n a b))=true↔¬ (a≤n∧n≤b):=by
 simp only [zp,Bool.not_eq_true',Bool.and_eq_false_iff,decide_eq_false_iff_not]; omega
theorem dn {b:Bool}{P:Prop}(h:b=true↔¬ P)(hb:b=false) : P:=Classical.byContradiction fun hn=>by rw [h.2 hn] at hb; cases hb
theorem qi8 {F G:Nat→Option (Oc Unit Bool)}{c:Bool}{P Q:Prop}(hc:c=true↔¬ P)(h:P→∃ b:Bool,Ev G (if b=true then .ret false else .nxt ())∧(b=true↔¬ Q)) : ∃ b:Bool,Ev (fun k=>if c=true then (some (.ret false) : Option (Oc Unit Bool)) else G k) (if b=true then .ret false else .nxt ())∧(b=true↔¬ (P∧Q)):=by
 cases hcc:c with
 | true=>exact ⟨true,Ev.iteT rfl Ev.rfl,by simp only [true_iff]; exact fun hp=>hc.1 hcc hp.1⟩
 | false =>
  have hp:=dn hc hcc
  obtain ⟨b,e,hb⟩:=h hp
  exact ⟨b,Ev.iteF rfl e,hb.trans (not_congr ⟨fun q=>⟨hp,q⟩,fun q=>q.2⟩)⟩
theorem q2c:∃ b:Bool,Ev (fun _=>(some (.nxt ()) : Option (Oc Unit Bool))) (if b=true then .ret false else .nxt ())∧(b=true↔¬ True):=⟨false,Ev.rfl,by simp⟩
theorem qu0 {α:Type}{F:Nat→Option α}{G:Nat→α→Option (Oc Unit Bool)}{a:α}{Q:Prop}(h:Ev F a)(h1:∃ b:Bool,Ev (fun k=>G k a) (if b=true then .ret false else .nxt ())∧(b=true↔¬ Q)) : ∃ b:Bool,Ev (fun k=>(F k).bind (G k)) (if b=true then .ret false else .nxt ())∧(b=true↔¬ Q):=by
 obtain ⟨b,e,hb⟩:=h1
 exact ⟨b,Ev.bind h e,hb⟩
theorem qqa {F:Nat→Option Bool}{G:Nat→Bool→Option (Oc Unit Bool)}{P Q:Prop}(h:Is F P)(h1:∀ b:Bool,(b=true↔P)→∃ c:Bool,Ev (fun k=>G k b) (if c=true then .ret false else .nxt ())∧(c=true↔¬ Q)) : ∃ b:Bool,Ev (fun k=>(F k).bind (G k)) (if b=true then .ret false else .nxt ())∧(b=true↔¬ Q):=by
 obtain ⟨b,e,hb⟩:=h
 obtain ⟨c,e2,hc⟩:=h1 b hb
 exact ⟨c,Ev.bind e e2,hc⟩
theorem q27 {F G:Nat→Option (Oc Unit Bool)}{b:Bool}{Q:Prop}(h1:b=true→∃ c:Bool,Ev F (if c=true then .ret false else .nxt ())∧(c=true↔¬ Q))(h2:b=false→∃ c:Bool,Ev G (if c=true then .ret false else .nxt ())∧(c=true↔¬ Q)) : ∃ c:Bool,Ev (fun k=>if b=true then F k else G k) (if c=true then .ret false else .nxt ())∧(c=true↔¬ Q):=by
 cases b with
 | true=>exact h1 rfl
 | false=>exact h2 rfl
theorem qk2 {F:Nat→Option (Oc Unit Bool)}{P Q:Prop}(h:∃ c:Bool,Ev F (if c=true then .ret false else .nxt ())∧(c=true↔¬ P))(e:P↔Q) : ∃ c:Bool,Ev F (if c=true then .ret false else .nxt ())∧(c=true↔¬ Q):=by
 obtain ⟨c,a,b⟩:=h
 exact ⟨c,a,b.trans (not_congr e)⟩
theorem qmj {g:Group}{i:Nat}{x:Replica}(h:g.nn≤1048576)(hx:g.Replicas[i]? = some x)(hm:qe1 g.InStep g.Replicas.length)(hL:g.Leader∈g.InStep) : ∃ b:Bool,Ev (fun k=>u0 k g i x) (if b=true then .ret false else .nxt ())∧(b=true↔¬ qgj g i x):=by
 obtain ⟨n1,n2,n3⟩:=qhf h
 obtain ⟨y,hy,hy2,hyl,_⟩:=qmz hm hL
 have hxl:=n3 i x hx
 have hsh:=qfk (g:=g) (i:=(i:Int)) hxl (n3 _ _ hy2) (ju hx) rfl hy
 rw [hyl] at hsh
 unfold u0
 have inn:∃ c:Bool,Ev (fun k=>((ky g.InStep (i:Int)).bind fun v119=>(if v119=true then ((kn k g (i:Int)).bind fun v123=>(if (decide (v123<g.High))=true then (some (.ret false)) else (some (.nxt ())))) else (some (.nxt ()))))) (if c=true then Oc.ret false else Oc.nxt ())∧(c=true↔¬ ((i:Int)∈g.InStep→g.High≤pre x.Log (lead g))):=by
  refine qqa (Contains_int_is (by omega)) (fun b hb=>q27 (fun hb2=>?_) (fun hb2=>?_))
  ·have hin:=hb.1 hb2
   exact qu0 hsh (qk2 (P:=g.High≤pre x.Log (lead g)∧True) (qi8 (F:=fun _=>none) (by simp) (fun _=>q2c)) (by simp [hin]))
  ·have hin:(i:Int) ∉ g.InStep:=fun hh=>by rw [hb.2 hh] at hb2; cases hb2
   exact qk2 q2c (by simp [hin])
 refine qk2 (P:=qdl x.Log g.Epoch∧(0≤x.Epoch∧x.Epoch≤g.Epoch)∧(0≤x.Known∧x.Known≤x.Log.length)∧(x.Epoch=g.Epoch→x.Known≤pre x.Log (lead g))∧((i:Int)∈g.InStep→g.High≤pre x.Log (lead g))) ?_ (by unfold qgj; exact ⟨fun ⟨a,b,c,d,e⟩=>⟨a,b,c,e,d⟩,fun ⟨a,b,c,d,e⟩=>⟨a,b,c,e,d⟩⟩)
 refine qqa (qpw (by omega)) (fun b hb=>qi8 (F:=fun _=>none) (by rw [←hb]; cases b <;> simp) (fun _=>qi8 (F:=fun _=>none) qd0 (fun _=>qi8 (F:=fun _=>none) qd0 (fun _=>?_))))
 refine q27 (fun he=>?_) (fun he=>?_)
 ·have he:x.Epoch=g.Epoch:=by simpa using he
  exact qu0 hsh (qk2 (qi8 (F:=fun _=>none) (P:=x.Known≤pre x.Log (lead g)) (by simp) (fun _=>inn)) ⟨fun ⟨a,b⟩=>⟨fun _=>a,b⟩,fun ⟨a,b⟩=>⟨a he,b⟩⟩)
 ·have he:¬ x.Epoch=g.Epoch:=by simpa using he
  exact qk2 inn ⟨fun a=>⟨fun hh=>absurd hh he,a⟩,fun a=>a.2⟩
theorem qn7 {g:Group}(h:g.nn≤1048576) : Is (fun k=>ws k g) (ya g):=by
 obtain ⟨n1,n2,n3⟩:=qhf h
 unfold ws
 rw [ka (n:=(List.length g.Replicas:Int) - 1) (by omega) (by omega)]
 refine Is.bind (P:=¬ ((((2≤g.Replicas.length∧g.Replicas.length≤4)∧(0≤g.Epoch∧g.Epoch≤100))∧(0≤g.Leader∧g.Leader<g.Replicas.length))∧qe1 g.InStep g.Replicas.length)) (Is.ite (fun hb=>Is.T ?_) (fun hb=>Is.bind (qkf (by omega) (by omega) (by omega)) (fun b hb2=>Is.of ?_))) (fun b hb=>?_)
 ·simp only [Bool.or_eq_true,qd0] at hb; rintro ⟨⟨⟨_,_⟩,_⟩,_⟩; omega
 ·obtain ⟨hb,hb3⟩:=(Bool.or_eq_false_iff).1 hb
  obtain ⟨hb,hb4⟩:=(Bool.or_eq_false_iff).1 hb
  have a1:=dn qd0 hb
  have a2:=dn qd0 hb3
  have a3:=dn qd0 hb4
  rw [←hb2]
  cases b <;> simp <;> omega
 refine Is.bind (P:=¬ (((((2≤g.Replicas.length∧g.Replicas.length≤4)∧(0≤g.Epoch∧g.Epoch≤100))∧(0≤g.Leader∧g.Leader<g.Replicas.length))∧qe1 g.InStep g.Replicas.length)∧g.Leader∈g.InStep)) (Is.ite (fun hb2=>Is.T (fun hh=>hb.1 hb2 hh.1)) (fun hb2=>Is.bind (Contains_int_is (by omega)) (fun b3 hb3=>Is.of ?_))) (fun b2 hb2=>?_)
 ·have hA:=dn hb hb2
  simp only [hA,true_and,and_self,← hb3]
  cases b3 <;> simp
 refine Is.ite (fun hc=>Is.F ?_) (fun hc=>?_)
 ·rintro ⟨hA,⟨h1,h2,h3⟩,_⟩
  rcases Bool.or_eq_true_iff.1 hc with hc | hc
  ·obtain ⟨_,_,_,_,l1,l2⟩:=qmz h1 h2
   exact hb2.1 hc ⟨⟨⟨hA,l1,l2⟩,h1⟩,h2⟩
  ·simp at hc; omega
 ·obtain ⟨hc1,hc2⟩:=(Bool.or_eq_false_iff).1 hc
  obtain ⟨⟨⟨hA,_⟩,hm⟩,hL⟩:=dn hb2 hc1
  have hH:0≤g.High:=by simp at hc2; omega
  exact Is.all (Q:=fun i x=>qgj g i x) (by omega) (fun i x hx=>qmj h hx hm hL) (fun hq=>Is.T ⟨hA,⟨hm,hL,hH⟩,hq⟩) (fun hq hh=>hq hh.2.2)
end Go.Proofs.Ytefgfcalgjmhjaa.X
