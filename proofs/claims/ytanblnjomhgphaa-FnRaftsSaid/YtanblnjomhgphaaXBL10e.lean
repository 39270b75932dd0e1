/- A raft: an election; both sides. -/
import Derived.Test.YtanblnjomhgphaaXBL10b
open Go.Proofs.Ytanblnjomhgphaa.X.Ev renaming bindp→a0c,bind→a0e,iteF→a0b,iteT→a0l,of→a23,rfl→a0h
open Int renaming le_refl→a1c
open Go.IntKind renaming wrap→r8
open List renaming append_nil→a2y,ext_getElem?→a3d,length_cons→a0p,length→p9
set_option linter.unusedVariables false
set_option linter.unusedSimpArgs false
namespace Go.Proofs.Ytanblnjomhgphaa.X
open Go

theorem Ev.ck {α:Type}{F:Nat→Option α}{p:Prop}[Decidable p]{a:α}(hp:p)(h:Ev F a) : Ev (fun k=>X.ck p (F k)) a:=by
 obtain ⟨K,hK⟩:=h
 exact ⟨K,fun k hk=>(if_pos hp).trans (hK k hk)⟩
structure SG (n:Nat) (r:Raft) : Prop where
 n1:1≤n∧n≤5
 hn:r.Peers.length=n
 ml:r.Mail.length≤20
 pg:∀ k,je n k→PG n (pr r k)
 mg:∀ m∈r.Mail,MG n m
theorem qwb {l:List Entry}(h:l.length≤1000) : ut l=some (u5 l):=by
 unfold ut
 cases l with
 | nil=>rfl
 | cons x t =>
  obtain ⟨f,f1,f2⟩:=qh4 (l:=x::t) (i:=0) (e:=x) rfl
  have hw:r8 .i64 (((x::t).length:Int) - 1)=(((x::t).length - 1:Nat) : Int):=by
   rw [k9 (n:=((x::t).length:Int) - 1) (by simp only [a0p] at *; omega) (by simp only [a0p] at *; omega)]
   simp only [a0p]
   omega
  rw [if_neg (by simp only [decide_eq_true_eq,a0p]; omega),hw,y9 f1,f2]
  rfl
theorem qpg {l:List Entry}(h:l.length≤1000) : qbl (l.map Entry.Term)=some (u5 l):=by
 unfold qbl
 cases l with
 | nil=>rfl
 | cons x t =>
  obtain ⟨f,f1,f2⟩:=qh4 (l:=x::t) (i:=0) (e:=x) rfl
  have hl:((x::t).map Entry.Term).length=(x::t).length:=by simp
  have hw:r8 .i64 (((((x::t).map Entry.Term).length:Nat) : Int) - 1)=(((x::t).length - 1:Nat) : Int):=by
   rw [hl,k9 (n:=((x::t).length:Int) - 1) (by simp only [a0p] at *; omega) (by simp only [a0p] at *; omega)]
   simp only [a0p]
   omega
  have f3:((x::t).map Entry.Term)[(x::t).length - 1]? = some f.Term:=by rw [List.getElem?_map,f1]; rfl
  rw [if_neg (by simp only [decide_eq_true_eq,hl,a0p]; omega),hw,y9 f3,f2]
  rfl
theorem qnk {l:List Entry}(h:l.length≤1000) : Ev (fun _=>qce l) (l.map Entry.Term):=by
 unfold qce
 refine Ev.jn (s:=l.map Entry.Term) (yo (by omega) (fun i q s=>∃ a,a++q=l∧s=a.map Entry.Term) ⟨[],rfl,rfl⟩ (fun i x q s ⟨a,h1,h2⟩ => .inl ⟨_,?_,a++[x],by simpa using h1,rfl⟩) (fun i s ⟨a,h1,h2⟩=>by rw [h2,← h1]; simp)) (a23 rfl)
 unfold qdl
 refine a0c (a:=s++[x.Term]) ?_ (a23 (by rw [h2]; simp))
 have:=congrArg p9 h1
 simp only [List.length_append,a0p] at this
 unfold ju
 rw [if_pos (by rw [h2]; simp; omega)]
theorem zf4 {a b:List Entry}(ha:a.length≤1000)(hb:b.length≤1000) : Is (fun _=>qcx a b) (upD a b):=by
 unfold qcx
 rw [qwb ha,qwb hb]
 unfold upD
 by_cases h:u5 b<u5 a
 ·refine ⟨true,a23 ?_,by simp [h]⟩
  simp [h]
 ·refine ⟨decide (u5 a=u5 b∧b.length≤a.length),a23 ?_,by simp [h]⟩
  simp [h]
theorem zfp {a b:List Entry}(ha:a.length≤1000)(hb:b.length≤1000) : Is (fun _=>qc7 (u5 a) (a.length:Int) (b.map Entry.Term)) (upD a b):=by
 unfold qc7
 rw [qpg hb]
 unfold upD
 by_cases h:u5 b<u5 a
 ·refine ⟨true,a23 ?_,by simp [h]⟩
  simp [h]
 ·refine ⟨decide (u5 a=u5 b∧b.length≤a.length),a23 ?_,by simp [h]⟩
  simp [h]
structure isMx (f:Int→Int) (t:Int) (S:Int→Prop) : Prop where
 z:0≤t
 le:∀ v,S v→f v≤t
 ex:t=0∨∃ v,S v∧f v=t
theorem isMx.one {f:Int→Int}{t t':Int}{S:Int→Prop}(h:isMx f t S)(h':isMx f t' S) : t=t':=by
 have a:t≤t':=by
  rcases h.ex with e | ⟨v,e1,e2⟩
  ·have:=h'.z; omega
  ·have:=h'.le v e1; omega
 have b:t'≤t:=by
  rcases h'.ex with e | ⟨v,e1,e2⟩
  ·have:=h.z; omega
  ·have:=h.le v e1; omega
 omega
theorem isMx.add {f:Int→Int}{t v:Int}{S S':Int→Prop}(h:isMx f t S)(hS:∀ w,S' w↔S w∨w=v) : isMx f (mxI t (f v)) S':=by
 unfold mxI
 have hz:=h.z
 by_cases q:f v > t
 ·rw [if_pos q]
  refine ⟨by omega,fun w hw=>?_,.inr ⟨v,(hS v).2 (.inr rfl),rfl⟩⟩
  rcases (hS w).1 hw with e | e
  ·have:=h.le w e; omega
  ·rw [e]; exact a1c _
 ·rw [if_neg q]
  refine ⟨hz,fun w hw=>?_,h.ex.imp id (fun ⟨w,e1,e2⟩=>⟨w,(hS w).2 (.inl e1),e2⟩)⟩
  rcases (hS w).1 hw with e | e
  ·exact h.le w e
  ·rw [e]; omega
theorem isMx.same {f:Int→Int}{t:Int}{S S':Int→Prop}(h:isMx f t S)(hS:∀ w,S' w↔S w) : isMx f t S' :=
 ⟨h.z,fun w hw=>h.le w ((hS w).1 hw),h.ex.imp id (fun ⟨w,e1,e2⟩=>⟨w,(hS w).2 e1,e2⟩)⟩
theorem isMx.nil {f:Int→Int}{S:Int→Prop}(h:∀ w,¬ S w) : isMx f 0 S:=⟨a1c _,fun w hw=>absurd hw (h w),.inl rfl⟩
theorem zd4 {f:Int→Int} : ∀ (V:List Int),∃ t,isMx f t (fun w=>w∈V):=by
 intro V
 induction V with
 | nil=>exact ⟨0,isMx.nil (fun w=>by simp)⟩
 | cons v V ih =>
  obtain ⟨t,ht⟩:=ih
  exact ⟨_,ht.add (v:=v) (fun w=>by simp only [List.mem_cons]; exact or_comm)⟩
def qfd (n:Nat)(K t v:Int)(p:Peer) : Peer:=⟨t,decide (v=K),p.Log,p.Commit,zs n⟩
open Classical in
noncomputable def stS (l:List Peer) (n:Nat) (K t:Int) (S:Int→Prop) : List Peer:=l.mapIdx fun i p=>if S (i:Int) then qfd n K t (i:Int) p else p
theorem qnw {l:List Peer}{n:Nat}{K t:Int}{S S':Int→Prop}(h:∀ w,S w↔S' w) : stS l n K t S=stS l n K t S':=by
 have:S=S':=funext fun w=>propext (h w)
 rw [this]
theorem qiw {l:List Peer}{n:Nat}{K t:Int}{S:Int→Prop} : (stS l n K t S).length=l.length:=by unfold stS; simp
open Classical in
theorem qhf {l:List Peer}{n:Nat}{K t:Int}{S:Int→Prop}{i:Nat} : (stS l n K t S)[i]? = (l[i]?).map (fun p=>if S (i:Int) then qfd n K t (i:Int) p else p):=by
 unfold stS
 rw [List.getElem?_mapIdx]
theorem qqm {l:List Peer}{n:Nat}{K t:Int}{S:Int→Prop}(h:∀ w,¬ S w) : stS l n K t S=l:=by
 apply a3d
 intro i
 rw [qhf]
 cases l[i]? with
 | none=>rfl
 | some p=>exact congrArg some (if_neg (h _))
theorem qm7 {l:List Peer}{n:Nat}{K t:Int}{S:Int→Prop}{i:Nat}{p:Peer}(h:l[i]? = some p)(hS:¬ S (i:Int)) : (stS l n K t S)[i]? = some p:=by
 rw [qhf,h]
 exact congrArg some (if_neg hS)
theorem qm1 {l:List Peer}{n:Nat}{K t:Int}{S:Int→Prop}{i:Nat}{p:Peer}(h:l[i]? = some p)(hS:S (i:Int)) : (stS l n K t S)[i]? = some (qfd n K t (i:Int) p):=by
 rw [qhf,h]
 exact congrArg some (if_pos hS)
theorem qqj {l:List Peer}{n:Nat}{K t:Int}{S S':Int→Prop}{i:Nat}{p:Peer}(h:l[i]? = some p)(hS:∀ w,S' w↔S w∨w=(i:Int)) : (stS l n K t S).set i (qfd n K t (i:Int) p)=stS l n K t S':=by
 apply a3d
 intro j
 by_cases e:i=j
 ·subst e
  have hi:=(List.getElem?_eq_some_iff.1 h).1
  rw [List.getElem?_set_self (by rw [qiw]; exact hi),qm1 h ((hS _).2 (.inr rfl))]
 ·rw [List.getElem?_set_ne e,qhf,qhf]
  have hj:S' (j:Int)↔S (j:Int):=(hS _).trans ⟨fun q=>q.resolve_right (by omega),.inl⟩
  cases l[j]? with
  | none=>rfl
  | some p' =>
   refine congrArg some ?_
   by_cases q:S (j:Int)
   ·exact (if_pos q).trans (if_pos (hj.2 q)).symm
   ·exact (if_neg q).trans (if_neg (fun w=>q (hj.1 w))).symm
noncomputable def qgy (r:Raft) (n:Nat) (K t:Int) (V:List Int) : List Peer:=(stS r.Peers n K t (fun w=>w∈V)).set K.toNat ⟨t,true,(pr r K).Log,(pr r K).Commit,(zs n).set K.toNat ((pr r K).Log.length:Int)⟩
structure canE (n:Nat) (r:Raft) (K t:Int) (V:List Int) : Prop where
 m:qak V n
 k:K∈V
 q:n<2*V.length
 u:∀ v∈V,upD (pr r K).Log (pr r v).Log
 t:t≠100
theorem qo1 {r:Raft}{v:Int}(h:je r.Peers.length v) : (v.toNat:Int)=v∧r.Peers[v.toNat]? = some (pr r v)∧v.toNat<r.Peers.length:=⟨by have:=h.1; omega,(wv h).2⟩
theorem qqs {n:Nat}{r:Raft}{K t:Int}{V:List Int}(hn:r.Peers.length=n)(hK:je n K)(hV:K∈V) : zy (stS r.Peers n K t (fun w=>w∈V)) K=some (qfd n K t K (pr r K))∧zy (zs n) K=some 0∧qfd n K t K (pr r K)=⟨t,true,(pr r K).Log,(pr r K).Commit,zs n⟩:=by
 obtain ⟨h1,h2,h3⟩:=qo1 (r:=r) (v:=K) (by rw [hn]; exact hK)
 refine ⟨?_,?_,?_⟩
 ·have:=qm1 (n:=n) (K:=K) (t:=t) (S:=fun w=>w∈V) h2 (by rw [h1]; exact hV)
  rw [h1] at this
  unfold zy
  rw [if_pos hK.1]
  exact this
 ·unfold zy zs
  rw [if_pos hK.1,List.getElem?_replicate,if_pos (by omega)]
 ·unfold qfd
  rw [decide_eq_true rfl]
theorem qny {n:Nat}{r:Raft}{K v s:Int}{i:Nat}(h:SG n r)(hK:je n K)(hv:je n v) : (upD (pr r K).Log (pr r v).Log→Ev (fun _=>wy r K i v s r.Peers) (.nxt (mxI s (pr r v).Term,r.Peers)))∧(¬ upD (pr r K).Log (pr r v).Log→Ev (fun _=>wy r K i v s r.Peers) (.ret (r,false))):=by
 have g1:=(wv (r:=r) (k:=K) (by rw [h.hn]; exact hK)).1
 have g2:=(wv (r:=r) (k:=v) (by rw [h.hn]; exact hv)).1
 have l1:=(h.pg K hK).lg
 have l2:=(h.pg v hv).lg
 have key:∀ w:Peer,w=pr r v→∀ {F:Nat→Option (Oc (Int × List Peer) (Raft × Bool))},(∀ k,F k=(qcx (pr r K).Log w.Log).bind fun v108=>(if (!v108)=true then
  (some (.ret ((Raft.mk r.Peers r.Mail),false))) else (if (decide (s<w.Term))=true then (some (.nxt (w.Term,r.Peers))) else (some (.nxt (s,r.Peers))))))→(upD (pr r K).Log (pr r v).Log→Ev F (.nxt (mxI s (pr r v).Term,r.Peers)))∧(¬ upD (pr r K).Log (pr r v).Log→Ev F (.ret (r,false))):=by
  rintro w rfl F hF
  obtain ⟨b,hb,hb2⟩:=zf4 (a:=(pr r K).Log) (b:=(pr r v).Log) (by omega) (by omega)
  refine ⟨fun q=>?_,fun q=>?_⟩
  ·refine Ev.eqv ?_ hF
   rw [hb2.2 q] at hb
   refine a0e hb (a0b rfl ?_)
   unfold mxI
   by_cases e:s<(pr r v).Term
   ·rw [if_pos e]; exact a0l (by simpa using e) a0h
   ·rw [if_neg e]; exact a0b (by simpa using e) a0h
  ·refine Ev.eqv ?_ hF
   have:b=false:=by
    cases b
    ·rfl
    ·exact absurd (hb2.1 rfl) q
   rw [this] at hb
   exact a0e hb (a0l rfl a0h)
 unfold wy
 simp only [g1,g2,Option.bind_some]
 by_cases e:K=v
 ·subst e
  exact key _ rfl (fun k=>by simp)
 ·exact key _ rfl (fun k=>by simp [e,X.ck])
theorem zay {n N:Nat}{r:Raft}{K t:Int}(h:SG n r)(hK:je n K)(hN:N<32)(ht:isMx (fun v=>(pr r v).Term) t (fun w=>w∈vts N))(ht2:qak (vts N) n→t≤100) : (canE n r K t (vts N)→Ev (fun k=>uj k r K (N:Int)) (⟨qgy r n K (t+1) (vts N),r.Mail⟩,true))∧(¬ canE n r K t (vts N)→Ev (fun k=>uj k r K (N:Int)) (r,false)):=by
 have hn:=h.hn
 have n5:=h.n1
 have hvl:=qqq (N:=N)
 have hV:=q1x hN
 generalize hVV:vts N=V at *
 have e2:r8 .i64 ((2:Int)*(V.length:Int))=2*(V.length:Int):=k9 (by omega) (by omega)
 obtain ⟨g,hg,hg2⟩:=qr2 (l:=V) (n:=(n:Int)) (by omega)
 obtain ⟨b,hb,hb2⟩:=q05 (l:=V) (v:=K) (by omega)
 have h2:Ev (fun _=>(if (!g)=true then (some true) else ((qd6 V K).bind fun v20=>(some (!v20))))) (!(g&&b)):=by
  cases g with
  | false=>exact a0l rfl a0h
  | true=>exact a0b rfl (a0e hb a0h)
 have pre:∀ {o:Raft × Bool},Ev (fun _=>(if (!(g&&b)||(decide ((r8 .i64 ((2:Int)*(p9 V:Int)))≤(p9 r.Peers:Int))))=true then (some (r,
  false)) else (jn (jt (fun i58 x59 s183=>wy r K i58 x59 s183.1 s183.2) V (0,r.Peers)) (fun s328=>qav r K V s328.1 s328.2)))) o→Ev (fun k=>uj k r K (N:Int)) o:=fun ho=>by
  unfold uj
  refine a0e hV ?_
  rw [hn]
  rw [hn] at ho
  exact a0e hg (a0e h2 ho)
 have cond:(!(g&&b)||(decide ((r8 .i64 ((2:Int)*(p9 V:Int)))≤(p9 r.Peers:Int))))=true↔¬ (qak V n∧K∈V∧n<2*V.length):=by
  rw [e2,hn]
  simp only [Bool.or_eq_true,Bool.not_eq_true',Bool.and_eq_false_imp,decide_eq_true_eq,← hg2,← hb2]
  cases g <;> cases b <;> simp <;> omega
 have okS:∀ v∈V,qak V n→je n v:=fun v hv hm=>(wl.1 hm).2 v hv
 have loop1:qak V n→(∀ v∈V,upD (pr r K).Log (pr r v).Log)→Ev (fun _=>jt (fun i58 x59 s183=>wy r K i58 x59 s183.1 s183.2) V (0,r.Peers)) (.nxt (t,r.Peers)):=fun hm hu =>
  yo (by omega) (fun i q s=>∃ a,a++q=V∧s.2=r.Peers∧isMx (fun v=>(pr r v).Term) s.1 (fun w=>w∈a)) ⟨[],rfl,rfl,isMx.nil (fun w=>by simp)⟩ (fun i x q s ⟨a,h1,h2,h3⟩ => .inl ⟨(mxI s.1 (pr r x).Term,r.Peers),by
   have hx:x∈V:=by rw [←h1]; simp
   rw [h2]
   exact (qny h hK (okS x hx hm)).1 (hu x hx),a++[x],by simpa using h1,rfl,h3.add (v:=x) (fun w=>by simp)⟩) (fun i s ⟨a,h1,h2,h3⟩=>by
   simp only [a2y] at h1
   subst h1
   have:=h3.one ht
   obtain ⟨s1,s2⟩:=s
   dsimp only at this h2
   rw [this,h2])
 refine ⟨fun c=>pre ?_,fun c=>pre ?_⟩
 ·refine a0b (bF cond (fun q=>q ⟨c.m,c.k,c.q⟩)) (Ev.jn (loop1 c.m c.u) ?_)
  unfold qav
  refine a0b (by simpa using c.t) ?_
  refine Ev.jn (s:=stS r.Peers n K (t+1) (fun w=>w∈V)) (yo (by omega) (fun i q s=>∃ a,a++q=V∧s=stS r.Peers n K (t+1) (fun w=>w∈a)) ⟨[],rfl,(qqm (fun w=>by simp)).symm⟩ (fun i x q s ⟨a,h1,h2⟩ => .inl ⟨stS r.Peers n K (t+1) (fun w=>w∈a++[x]),?_,a++[x],by simpa using h1,rfl⟩) (fun i s ⟨a,h1,h2⟩=>by
   simp only [a2y] at h1
   rw [h2,h1])) ?_
  ·have hx:x∈V:=by rw [←h1]; simp
   have hr:=okS x hx c.m
   obtain ⟨p1,p2,p3⟩:=qo1 (r:=r) (v:=x) (by rw [hn]; exact hr)
   have hna:¬ x∈a:=fun hxa=>by
    have hp:=qnp c.m
    rw [←h1] at hp
    have:=(List.pairwise_append.1 hp).2.2 x hxa x (by simp)
    omega
   have hg1:zy s x=some (pr r x):=by
    unfold zy
    rw [if_pos hr.1,h2]
    exact qm7 p2 (by rw [p1]; exact hna)
   unfold qc3
   refine a0c hg1 (a0c (qme (n:=s.length) (by rw [h2,qiw]; omega)) (a23 ?_))
   have e1:r8 .i64 (t+1)=t+1:=k9 (by have:=ht.z; omega) (by have:=ht2 c.m; omega)
   rw [e1]
   have:=qqj (n:=n) (K:=K) (t:=t+1) (S:=fun w=>w∈a) (S':=fun w=>w∈a++[x]) p2 (fun w=>by rw [p1]; simp)
   rw [←this,h2,p1,qiw,hn]
   rfl
  ·unfold qe2
   obtain ⟨w1,w2,w3⟩:=qqs (t:=t+1) hn hK c.k
   rw [w3] at w1
   refine a0c w1 (a0c w2 (a23 ?_))
   unfold qgy
   rfl
 ·by_cases q:qak V n∧K∈V∧n<2*V.length
  ·refine a0b (bF cond (fun w=>w q)) ?_
   by_cases u:∀ v∈V,upD (pr r K).Log (pr r v).Log
   ·have t100:t=100:=Classical.byContradiction fun w=>c ⟨q.1,q.2.1,q.2.2,u,w⟩
    refine Ev.jn (loop1 q.1 u) ?_
    unfold qav
    exact a0l (by simpa using t100) a0h
   ·refine Ev.jn_ret (yo (by omega) (fun i q s=>∃ a,a++q=V∧s.2=r.Peers∧∀ v∈a,upD (pr r K).Log (pr r v).Log) ⟨[],rfl,rfl,by simp⟩ (fun i x q' s ⟨a,h1,h2,h3⟩=>?_) (fun i s ⟨a,h1,h2,h3⟩=>?_))
    ·have hx:x∈V:=by rw [←h1]; simp
     have hb1:=qny (s:=s.1) (i:=i) h hK (okS x hx q.1)
     rw [h2]
     by_cases w:upD (pr r K).Log (pr r x).Log
     ·exact .inl ⟨_,hb1.1 w,a++[x],by simpa using h1,rfl,fun v hv=>by
       rcases List.mem_append.1 hv with z | z
       ·exact h3 v z
       ·rw [List.mem_singleton] at z; rw [z]; exact w⟩
     ·exact .inr (.inr ⟨_,hb1.2 w,rfl⟩)
    ·simp only [a2y] at h1
     rw [h1] at h3
     exact absurd h3 u
  ·exact a0l (cond.2 q) a0h
end Go.Proofs.Ytanblnjomhgphaa.X
