/- A command: one answer. -/
import Derived.Test.YtjloihcijdcpeaaXCL12s
set_option linter.unusedVariables false
set_option linter.unusedSimpArgs false
namespace Go.Proofs.Ytjloihcijdcpeaa.X
open Go

def qe9 (c:Control)(x:Command) : List Partition:=if x.Kind=4 then c.Parts++[⟨x.InStep,x.InStep,-2,0,0⟩] else (j7 c x).2.Parts
theorem q47 {c:Control}{x:Command}{p:Partition}(hc:yq c)(hx:uv c.Brokers.length x)(hq:c.Parts[x.Part.toNat]? = some p) : Ev (fun _=>xn c x) (if x.Epoch≠p.Epoch then 2 else if x.Broker≠p.Leader then 3 else if x.Stamp≠p.Stamp then 2 else if ¬ (∀ k∈x.InStep,k∈p.Homes)∨¬ p.Leader∈x.InStep∨yw c.Brokers p x.InStep=true then 4 else 0):=by
 obtain ⟨⟨⟨n1,n2⟩,hp,nx1,nx2⟩,hb,hpt⟩:=hc
 obtain ⟨xb,xe,xp,xs,xi,hk⟩:=hx
 have hil:=yo xi
 have hlt:¬ (c.Parts.length:Int)≤x.Part:=fun h=>by rw [(qej (c:=c) xp.1).2 h] at hq; cases hq
 have hgp:=qhf xp.1 hq
 obtain ⟨hM,hG,he1,hs1⟩:=hpt p (List.mem_of_getElem? hq)
 have hpl:=yo hM.i1
 have hhl:=yo hM.h1
 unfold xn
 refine Ev.iteF (by simpa using hlt) (Ev.bindp hgp ?_)
 by_cases c1:x.Epoch=p.Epoch
 case neg=>rw [if_pos c1]; exact Ev.iteT (by simpa using c1) Ev.rfl
 refine Ev.iteF (by simpa using c1) ?_
 rw [if_neg (show ¬ (x.Epoch≠p.Epoch) from fun h=>h c1)]
 by_cases c2:x.Broker=p.Leader
 case neg=>rw [if_pos c2]; exact Ev.iteT (by simpa using c2) Ev.rfl
 refine Ev.iteF (by simpa using c2) ?_
 rw [if_neg (show ¬ (x.Broker≠p.Leader) from fun h=>h c2)]
 by_cases c3:x.Stamp=p.Stamp
 case neg=>rw [if_pos c3]; exact Ev.iteT (by simpa using c3) Ev.rfl
 refine Ev.iteF (by simpa using c3) ?_
 rw [if_neg (show ¬ (x.Stamp≠p.Stamp) from fun h=>h c3)]
 obtain ⟨a,ea,ha⟩:=qmp (a:=p.Homes) (b:=x.InStep) (by omega) (by omega)
 obtain ⟨g,eg,hgg⟩:=qer (l:=x.InStep) (v:=p.Leader) (by omega)
 refine Ev.bind ea ?_
 cases a with
 | false =>
  have:¬ (∀ k∈x.InStep,k∈p.Homes):=fun h=>by have:=ha.2 h; cases this
  rw [show (if ¬ (∀ k∈x.InStep,k∈p.Homes)∨¬ p.Leader∈x.InStep∨yw c.Brokers p x.InStep=true then (4:Int) else 0)=4 from if_pos (.inl this)]
  exact Ev.bind (a:=true) (Ev.iteT rfl Ev.rfl) (Ev.iteT rfl Ev.rfl)
 | true =>
  have ha:=ha.1 rfl
  cases g with
  | false =>
   have:¬ p.Leader∈x.InStep:=fun h=>by have:=hgg.2 h; cases this
   rw [show (if ¬ (∀ k∈x.InStep,k∈p.Homes)∨¬ p.Leader∈x.InStep∨yw c.Brokers p x.InStep=true then (4:Int) else 0)=4 from if_pos (.inr (.inl this))]
   exact Ev.bind (a:=true) (Ev.iteF rfl (Ev.bind eg Ev.rfl)) (Ev.iteT rfl Ev.rfl)
  | true =>
   have hg:=hgg.1 rfl
   refine Ev.bind (a:=false) (Ev.iteF rfl (Ev.bind eg Ev.rfl)) (Ev.iteF rfl ?_)
   rcases qdg (B:=fun _ i k _=>qah c p i k) (Q:=fun _ k=>((brk c.Brokers k).Fenced && !decide (k∈p.InStep))=true) (f:=fun _=>(4:Int)) (l:=x.InStep) (by omega) (fun i k hk=>by
     have hr:=(y6.1 xi).2 k (List.mem_of_getElem? hk)
     unfold qah
     obtain ⟨g,e,hgg⟩:=qer (l:=p.InStep) (v:=k) (by omega)
     cases hf:(brk c.Brokers k).Fenced with
     | false=>exact ⟨false,Ev.bindp (qbf hr.1 hr.2) (Ev.bind (a:=false) (Ev.iteF (by rw [hf]) Ev.rfl) (Ev.iteF rfl Ev.rfl)),by simp⟩
     | true =>
      refine ⟨!g,Ev.bindp (qbf hr.1 hr.2) (Ev.bind (a := !g) (Ev.iteT (by rw [hf]) (Ev.bind e Ev.rfl)) ?_),?_⟩
      ·cases g with
       | true=>exact Ev.iteF rfl Ev.rfl
       | false=>exact Ev.iteT rfl Ev.rfl
      ·cases g with
       | true=>simp [hgg.1 rfl]
       | false =>
        have:¬ k∈p.InStep:=fun h=>by have:=hgg.2 h; cases this
        simp [this]) with ⟨i,k,h1,h2,h3,h4⟩ | ⟨h1,h2⟩
   ·have:yw c.Brokers p x.InStep=true:=by
     unfold yw
     rw [List.any_eq_true]
     exact ⟨k,List.mem_of_getElem? h1,h2⟩
    rw [show (if ¬ (∀ k∈x.InStep,k∈p.Homes)∨¬ p.Leader∈x.InStep∨yw c.Brokers p x.InStep=true then (4:Int) else 0)=4 from if_pos (.inr (.inr this))]
    exact Ev.jn_ret h4
   ·have:yw c.Brokers p x.InStep=false:=by
     unfold yw
     rw [List.any_eq_false]
     intro k hk hb
     obtain ⟨i,hi⟩:=List.getElem?_of_mem hk
     exact h1 i k hi hb
    have hno:¬ (¬ (∀ k∈x.InStep,k∈p.Homes)∨¬ p.Leader∈x.InStep∨yw c.Brokers p x.InStep=true):=by
     rw [this]
     rintro (h | h | h)
     ·exact h ha
     ·exact h hg
     ·cases h
    rw [if_neg hno]
    exact Ev.jn h2 Ev.rfl
theorem q9i {c:Control}{x:Command}(hc:yq c)(hx:uv c.Brokers.length x) : Ev (fun _=>qed c x) (if (j7 c x).1=0 then (⟨(j7 c x).2.Brokers,qe9 c x,(j7 c x).2.Next⟩,0) else (c,(j7 c x).1)):=by
 have hcc:=hc
 have hxx:=hx
 obtain ⟨⟨⟨n1,n2⟩,hp,nx1,nx2⟩,hb,hpt⟩:=hc
 obtain ⟨xb,xe,xp,xs,xi,hk⟩:=hx
 have hg:=qbf xb.1 xb.2
 have hil:=yo xi
 have tail:∀ (o:Control) (B:List Broker),B.length=c.Brokers.length→Ev (fun _=>qdl o B) (⟨jx B,o.Parts,o.Next⟩,0):=by
  intro o B hB
  unfold qdl
  exact Ev.jn (qil (B:=fun i s=>qdn i s) (l:=B) (by omega) (fun i s=>rfl)) Ev.rfl
 unfold qed qe9 j7
 by_cases d1:x.Kind=1
 ·simp only [if_neg (show ¬ x.Kind=4 by omega)]
  simp only [if_true,if_pos d1]
  by_cases c1:c.Next=1000
  ·simp only [if_true,if_pos c1]
   exact Ev.jn_ret (Ev.iteT (by simpa using d1) (Ev.iteT (by simpa using c1) Ev.rfl))
  ·simp only [if_true,if_neg c1]
   refine Ev.jn (Ev.iteT (by simpa using d1) (Ev.iteF (by simpa using c1) (Ev.bindp hg Ev.rfl))) ?_
   rw [kh (n:=c.Next+1) (by omega) (by omega)]
   exact tail ⟨c.Brokers.set x.Broker.toNat ⟨c.Next,9,false⟩,c.Parts,c.Next+1⟩ (c.Brokers.set x.Broker.toNat ⟨c.Next,9,false⟩) (by simp)
 simp only [if_true,if_neg d1]
 by_cases d2:x.Kind=2
 ·simp only [if_neg (show ¬ x.Kind=4 by omega)]
  simp only [if_true,if_pos d2]
  by_cases c1:(brk c.Brokers x.Broker).Epoch=0
  ·simp only [if_true,if_pos c1]
   exact Ev.jn_ret (Ev.iteF (by simpa using d1) (Ev.iteT (by simpa using d2) (Ev.bindp hg (Ev.iteT (by simpa using c1) Ev.rfl))))
  simp only [if_true,if_neg c1]
  by_cases c2:(brk c.Brokers x.Broker).Epoch=x.Epoch
  ·simp only [if_true,if_neg (show ¬ ((brk c.Brokers x.Broker).Epoch≠x.Epoch) from fun h=>h c2)]
   exact Ev.jn (Ev.iteF (by simpa using d1) (Ev.iteT (by simpa using d2) (Ev.bindp hg (Ev.iteF (by simpa using c1) (Ev.iteF (by simpa using c2) Ev.rfl))))) (tail ⟨c.Brokers.set x.Broker.toNat ⟨(brk c.Brokers x.Broker).Epoch,9,(brk c.Brokers x.Broker).Fenced⟩,c.Parts,c.Next⟩ (c.Brokers.set x.Broker.toNat ⟨(brk c.Brokers x.Broker).Epoch,9,(brk c.Brokers x.Broker).Fenced⟩) (by simp))
  ·simp only [if_true,if_pos (show (brk c.Brokers x.Broker).Epoch≠x.Epoch from c2)]
   exact Ev.jn_ret (Ev.iteF (by simpa using d1) (Ev.iteT (by simpa using d2) (Ev.bindp hg (Ev.iteF (by simpa using c1) (Ev.iteT (by simpa using c2) Ev.rfl)))))
 simp only [if_true,if_neg d2]
 by_cases d3:x.Kind=3
 ·simp only [if_neg (show ¬ x.Kind=4 by omega)]
  simp only [if_true,if_pos d3]
  have hl:=qhm (B:=fun i s=>qb4 i s) (l:=c.Brokers) (f:=fun _ b=>⟨b.Epoch,if 0<b.Left then b.Left - 1 else b.Left,b.Fenced⟩) (by omega) (fun i b s hx hs hlen=>by
   have hbb:=hb b (List.mem_of_getElem? hx)
   have h1:=hbb.2.2.1
   have h2:=hbb.2.2.2.1
   unfold qb4
   refine Ev.bindp (ki hs) ?_
   by_cases h0:0<b.Left
   ·refine Ev.iteT (by simpa using h0) (Ev.of ?_)
    rw [kh (n:=b.Left - 1) (by omega) (by omega),if_pos h0]
    rfl
   ·refine Ev.iteF (by simpa using h0) (Ev.of ?_)
    rw [if_neg h0]
    congr 2
    apply List.ext_getElem?
    intro j
    by_cases hj:i=j
    ·subst hj
     rw [hs,List.getElem?_set_self (List.getElem?_eq_some_iff.1 hs).1]
    ·rw [List.getElem?_set_ne hj])
  rw [qhw] at hl
  exact Ev.jn (Ev.iteF (by simpa using d1) (Ev.iteF (by simpa using d2) (Ev.iteT (by simpa using d3) (Ev.jn hl Ev.rfl)))) (tail ⟨(List.map (fun (b:Broker)=>(⟨b.Epoch,if 0<b.Left then b.Left - 1 else b.Left,b.Fenced⟩ : Broker)) c.Brokers),c.Parts,c.Next⟩ (List.map (fun (b:Broker)=>(⟨b.Epoch,if 0<b.Left then b.Left - 1 else b.Left,b.Fenced⟩ : Broker)) c.Brokers) (by simp))
 simp only [if_true,if_neg d3]
 by_cases d4:x.Kind=4
 ·simp only [if_true,if_pos d4]
  by_cases c1:x.InStep=[]∨c.Parts.length=5
  ·simp only [if_true,if_pos c1]
   refine Ev.jn_ret (Ev.iteF (by simpa using d1) (Ev.iteF (by simpa using d2) (Ev.iteF (by simpa using d3) (Ev.iteT (by simpa using d4) (Ev.iteT ?_ Ev.rfl)))))
   rcases c1 with c1 | c1
   ·simp [c1]
   ·simp [c1]
  ·simp only [if_true,if_neg c1]
   have c2:x.InStep≠[]:=fun h=>c1 (.inl h)
   have c3:c.Parts.length≠5:=fun h=>c1 (.inr h)
   have c4:x.InStep.length≠0:=fun h=>c2 (List.length_eq_zero_iff.1 h)
   exact Ev.jn (Ev.iteF (by simpa using d1) (Ev.iteF (by simpa using d2) (Ev.iteF (by simpa using d3) (Ev.iteT (by simpa using d4) (Ev.iteF (by simp only [Bool.or_eq_false_iff,decide_eq_false_iff_not]; omega) (Ev.bindp (qbj (by omega)) (Ev.bindp (qbj (by omega)) (Ev.bindp (qxz (by omega)) Ev.rfl)))))))) (tail ⟨c.Brokers,c.Parts++[⟨x.InStep,x.InStep,-2,0,0⟩],c.Next⟩ c.Brokers rfl)
 simp only [if_true,if_neg d4]
 have d56:x.Kind=5∨x.Kind=6:=by rcases hk with h | h | h | h | h | h <;> omega
 cases hq:c.Parts[x.Part.toNat]? with
 | none =>
  have:=(qej (c:=c) xp.1).1 hq
  dsimp only
  by_cases d5:x.Kind=5
  ·have ha:Ev (fun _=>xn c x) 1:=by
    unfold xn
    exact Ev.iteT (by simpa using this) Ev.rfl
   exact Ev.jn_ret (Ev.iteF (by simpa using d1) (Ev.iteF (by simpa using d2) (Ev.iteF (by simpa using d3) (Ev.iteF (by simpa using d4) (Ev.iteT (by simpa using d5) (Ev.bind ha (Ev.iteT (by decide) Ev.rfl)))))))
  ·have d6:x.Kind=6:=by omega
   exact Ev.jn_ret (Ev.iteF (by simpa using d1) (Ev.iteF (by simpa using d2) (Ev.iteF (by simpa using d3) (Ev.iteF (by simpa using d4) (Ev.iteF (by simpa using d5) (Ev.iteT (by simpa using d6) (Ev.iteT (by simpa using this) Ev.rfl)))))))
 | some p =>
  dsimp only
  have hlt:¬ (c.Parts.length:Int)≤x.Part:=fun h=>by rw [(qej (c:=c) xp.1).2 h] at hq; cases hq
  have hgp:=qhf xp.1 hq
  obtain ⟨hM,hG,he1,hs1⟩:=hpt p (List.mem_of_getElem? hq)
  have hpl:=yo hM.i1
  by_cases d5:x.Kind=5
  ·simp only [if_true,if_pos d5]
   have ha:=q47 hcc hxx hq
   have bad:∀ v:Int,v≠0→Ev (fun _=>xn c x) v→Ev (fun _=>if (decide (x.Kind=1))=true then (if (decide (c.Next=1000))=true then (some (.ret (c,4)) : Option (Oc (Control × (List Broker)) (Control × Int))) else ((z9 c.Brokers x.Broker).bind fun x35=>(some (.nxt ((Control.mk (List.set c.Brokers x.Broker.toNat (Broker.mk c.Next 9 false)) c.Parts (IntKind.wrap .i64 (c.Next+1))),(List.set c.Brokers x.Broker.toNat (Broker.mk c.Next 9 false))))))) else none) (.ret (c,v))→True:=fun _ _ _ _=>trivial
   by_cases c1:x.Epoch=p.Epoch
   case neg =>
    simp only [if_true,if_pos (show x.Epoch≠p.Epoch from c1)] at ha ⊢
    exact Ev.jn_ret (Ev.iteF (by simpa using d1) (Ev.iteF (by simpa using d2) (Ev.iteF (by simpa using d3) (Ev.iteF (by simpa using d4) (Ev.iteT (by simpa using d5) (Ev.bind ha (Ev.iteT (by decide) Ev.rfl)))))))
   simp only [if_true,if_neg (show ¬ (x.Epoch≠p.Epoch) from fun h=>h c1)] at ha ⊢
   by_cases c2:x.Broker=p.Leader
   case neg =>
    simp only [if_true,if_pos (show x.Broker≠p.Leader from c2)] at ha ⊢
    exact Ev.jn_ret (Ev.iteF (by simpa using d1) (Ev.iteF (by simpa using d2) (Ev.iteF (by simpa using d3) (Ev.iteF (by simpa using d4) (Ev.iteT (by simpa using d5) (Ev.bind ha (Ev.iteT (by decide) Ev.rfl)))))))
   simp only [if_true,if_neg (show ¬ (x.Broker≠p.Leader) from fun h=>h c2)] at ha ⊢
   by_cases c3:x.Stamp=p.Stamp
   case neg =>
    simp only [if_true,if_pos (show x.Stamp≠p.Stamp from c3)] at ha ⊢
    exact Ev.jn_ret (Ev.iteF (by simpa using d1) (Ev.iteF (by simpa using d2) (Ev.iteF (by simpa using d3) (Ev.iteF (by simpa using d4) (Ev.iteT (by simpa using d5) (Ev.bind ha (Ev.iteT (by decide) Ev.rfl)))))))
   simp only [if_true,if_neg (show ¬ (x.Stamp≠p.Stamp) from fun h=>h c3)] at ha ⊢
   by_cases c4:¬ (∀ k∈x.InStep,k∈p.Homes)∨¬ p.Leader∈x.InStep∨yw c.Brokers p x.InStep=true
   ·simp only [if_true,if_pos c4] at ha ⊢
    exact Ev.jn_ret (Ev.iteF (by simpa using d1) (Ev.iteF (by simpa using d2) (Ev.iteF (by simpa using d3) (Ev.iteF (by simpa using d4) (Ev.iteT (by simpa using d5) (Ev.bind ha (Ev.iteT (by decide) Ev.rfl)))))))
   ·simp only [if_true,if_neg c4] at ha ⊢
    have:=hM.s0
    refine Ev.jn (Ev.iteF (by simpa using d1) (Ev.iteF (by simpa using d2) (Ev.iteF (by simpa using d3) (Ev.iteF (by simpa using d4) (Ev.iteT (by simpa using d5) (Ev.bind ha (Ev.iteF (by decide) (Ev.bindp (qbj (by omega)) (Ev.bindp hgp Ev.rfl))))))))) ?_
    rw [kh (n:=p.Stamp+1) (by omega) (by omega)]
    exact tail _ _ rfl
  ·simp only [if_true,if_neg d5]
   have d6:x.Kind=6:=by omega
   obtain ⟨g,eg,hgg⟩:=qer (l:=p.InStep) (v:=x.Broker) (by omega)
   by_cases c1:¬ x.Broker∈p.InStep∨(brk c.Brokers x.Broker).Fenced=true
   ·simp only [if_true,if_pos c1]
    refine Ev.jn_ret (Ev.iteF (by simpa using d1) (Ev.iteF (by simpa using d2) (Ev.iteF (by simpa using d3) (Ev.iteF (by simpa using d4) (Ev.iteF (by simpa using d5) (Ev.iteT (by simpa using d6) (Ev.iteF (by simpa using hlt) (Ev.bindp hgp (Ev.bind eg (Ev.bind (a:=true) ?_ (Ev.iteT rfl Ev.rfl)))))))))))
    cases g with
    | false=>exact Ev.iteT rfl Ev.rfl
    | true =>
     refine Ev.iteF rfl (Ev.bindp hg (Ev.of ?_))
     rcases c1 with c1 | c1
     ·exact absurd (hgg.1 rfl) c1
     ·rw [c1]
   ·simp only [if_true,if_neg c1]
    have c6:g=true:=hgg.2 (Classical.byContradiction fun h=>c1 (.inl h))
    have c7:(brk c.Brokers x.Broker).Fenced=false:=by
     cases hh:(brk c.Brokers x.Broker).Fenced
     ·rfl
     ·exact absurd (.inr hh) c1
    subst c6
    exact Ev.jn (Ev.iteF (by simpa using d1) (Ev.iteF (by simpa using d2) (Ev.iteF (by simpa using d3) (Ev.iteF (by simpa using d4) (Ev.iteF (by simpa using d5) (Ev.iteT (by simpa using d6) (Ev.iteF (by simpa using hlt) (Ev.bindp hgp (Ev.bind eg (Ev.bind (a:=false) (Ev.iteF rfl (Ev.bindp hg (Ev.of (by rw [c7])))) (Ev.iteF rfl Ev.rfl))))))))))) (tail _ _ rfl)

theorem q5f {c:Control}{i:Nat} : (c.Parts.map Partition.Leader)[i]? = c.Parts[i]?.map Partition.Leader:=List.getElem?_map ..
theorem qwx {B:List Broker}{w:Option Int}{p:Partition} : (⟨p.Homes,p.InStep,(kq B w p).Leader,(kq B w p).Epoch,(kq B w p).Stamp⟩ : Partition)=kq B w p:=by
 unfold kq
 split <;> rfl
structure Fit12 (n:Nat) (p:Partition) : Prop where
 i1:uc p.InStep n
 ld:p.Leader<0∨p.Leader∈p.InStep
 e:0≤p.Epoch∧p.Epoch≤1000
 s:0≤p.Stamp∧p.Stamp≤1001
theorem qm9 {o:Control}{old:List Int}{i:Nat}{p:Partition}{s:List Partition}(hf:Fit12 o.Brokers.length p)(hn:o.Brokers.length≤6)(hs:s[i]? = some p)(hio:∀ z∈old,-1≤z)(hol:old.length≤1000) : Ev (fun _=>ur o old i s) (.nxt (s.set i (kq o.Brokers (old[i]?) p))):=by
 have hpl:=yo hf.i1
 have hr:=(y6.1 hf.i1).2
 have he:=hf.e
 have hst:=hf.s
 have hL:=qg3 (B:=o.Brokers) hf.i1 hf.ld
 have hLr : -1≤jp o.Brokers p:=by rcases hL with ⟨a,_⟩ | ⟨a,_⟩ <;> omega
 unfold ur
 refine Ev.bindp (ki hs) (Ev.bind (a:=match old[i]? with | some z=>z | none => -2) ?_ ?_)
 ·cases ho:old[i]? with
  | none =>
   have:=List.getElem?_eq_none_iff.1 ho
   exact Ev.iteF (by simp only [decide_eq_false_iff_not]; omega) Ev.rfl
  | some z =>
   have:=(List.getElem?_eq_some_iff.1 ho).1
   exact Ev.iteT (by simp only [decide_eq_true_eq]; omega) (Ev.bindp (ki ho) Ev.rfl)
 ·unfold qea
  refine Ev.bind (a:=decide (p.Leader<0)||(brk o.Brokers p.Leader).Fenced) ?_ (Ev.bind (a:=⟨p.Homes,p.InStep,jp o.Brokers p,p.Epoch,p.Stamp⟩) ?_ ?_)
  ·by_cases h0:p.Leader<0
   ·exact Ev.iteT (by simpa using h0) (Ev.of (by simp [h0]))
   ·have hm:=hr _ (hf.ld.resolve_left h0)
    exact Ev.iteF (by simpa using h0) (Ev.bindp (qbf hm.1 hm.2) (Ev.of (by simp [h0])))
  ·unfold jp
   by_cases h:p.Leader<0∨(brk o.Brokers p.Leader).Fenced=true
   ·rw [if_pos h]
    exact Ev.iteT (by simpa using h) (Ev.bind (qir (c:=⟨o.Brokers,s,o.Next⟩) (by omega) hr) Ev.rfl)
   ·rw [if_neg h]
    refine Ev.iteF ?_ Ev.rfl
    refine bF (P:=p.Leader<0∨(brk o.Brokers p.Leader).Fenced=true) (by simp only [Bool.or_eq_true,decide_eq_true_eq]) h
  ·unfold qec
   dsimp only
   have hw:(jp o.Brokers p≠match old[i]? with | some z=>z | none => -2)↔¬ old[i]? = some (jp o.Brokers p):=by
    cases ho:old[i]? with
    | none=>simp; omega
    | some z=>simp; exact ⟨fun h e=>h e.symm,fun h e=>h e.symm⟩
   refine Ev.bind (a:=kq o.Brokers (old[i]?) p) ?_ ?_
   ·unfold kq
    by_cases h:old[i]? = some (jp o.Brokers p)
    ·rw [if_pos h]
     refine Ev.iteF ?_ Ev.rfl
     simp only [decide_eq_false_iff_not]
     exact fun hh=>hw.1 hh h
    ·rw [if_neg h]
     refine Ev.iteT (by simpa using hw.2 h) ?_
     by_cases h0:0≤jp o.Brokers p
     ·rw [if_pos h0]
      exact Ev.iteT (by simpa using h0) (Ev.of (by rw [kh (n:=p.Epoch+1) (by omega) (by omega),kh (n:=p.Stamp+1) (by omega) (by omega)]))
     ·rw [if_neg h0]
      exact Ev.iteF (by simpa using h0) (Ev.of (by rw [kh (n:=p.Stamp+1) (by omega) (by omega)]))
   ·unfold qd9
    rw [qwx]
    exact Ev.rfl
theorem qn2 {B:List Broker}{c:Control}{l:List Partition} : l.mapIdx (fun i p=>kq B ((c.Parts.map Partition.Leader)[i]?) p)=yi B c.Parts l:=by
 unfold yi
 apply List.ext_getElem?
 intro i
 rw [List.getElem?_mapIdx,List.getElem?_mapIdx,q5f]
theorem q61 {c:Control}{B:List Broker}{l:List Partition}{n:Int}(hB:B.length≤6)(hl:l.length≤1000)(hcl:c.Parts.length≤1000)(hf:∀ p∈l,Fit12 B.length p)(hio:∀ p∈c.Parts,-1≤p.Leader) : Ev (fun _=>qcg ⟨B,l,n⟩ (c.Parts.map Partition.Leader)) (⟨B,yi B c.Parts l,n⟩,c.Parts.map Partition.Leader):=by
 unfold qcg
 have:=qhm (B:=fun i s=>ur ⟨B,l,n⟩ (c.Parts.map Partition.Leader) i s) (l:=l) (f:=fun i p=>kq B ((c.Parts.map Partition.Leader)[i]?) p) (by omega) (fun i p s hx hs hlen=>qm9 (o:=⟨B,l,n⟩) (hf p (List.mem_of_getElem? hx)) hB hs (fun z hz=>by
  rw [List.mem_map] at hz
  obtain ⟨q,hq,rfl⟩:=hz
  exact hio q hq) (by simpa using hcl))
 rw [qn2] at this
 exact Ev.jn this Ev.rfl
theorem qjy {c:Control}{x:Command}{B:List Broker}(hx:uv c.Brokers.length x)(h:(j7 c x).1=0) : yi B c.Parts (qe9 c x)=yi B c.Parts (j7 c x).2.Parts:=by
 unfold qe9
 by_cases d4:x.Kind=4
 ·rw [if_pos d4]
  have:(j7 c x).2.Parts=c.Parts++[⟨x.InStep,x.InStep,-1,0,0⟩]:=by
   unfold j7 at h ⊢
   rw [if_neg (by omega),if_neg (by omega),if_neg (by omega),if_pos d4] at h ⊢
   split at h
   ·cases h
   ·rename_i c1
    rw [if_neg c1]
  rw [this]
  unfold yi
  rw [List.mapIdx_append,List.mapIdx_append]
  rfl
 ·rw [if_neg d4]
theorem qkv {n:Nat}{o:Control}(h:Mid n o) : ∀ p∈o.Parts,Fit12 n p:=fun p hp=>by
 obtain ⟨a,b,d,e⟩:=h.part p hp
 exact ⟨a.i1,b,⟨a.e0,d⟩,⟨a.s0,e.1⟩⟩
theorem qxc {c:Control}(hc:yq c) : ∀ p∈c.Parts,-1≤p.Leader:=fun p hp=>by
 obtain ⟨a,b,_⟩:=hc.2.2 p hp
 rcases b with ⟨b,_⟩ | ⟨_,b,_⟩
 ·omega
 ·have:=(y6.1 a.i1).2 _ b
  omega
theorem qwa {c:Control}(hn:c.Parts.length≤1000) : Ev (fun _=>jh (fun i51 x52 s100=>xa i51 x52 s100) c.Parts ([] : List Int)) (.nxt (c.Parts.map Partition.Leader)):=by
 refine ud (B:=fun _ i x s=>xa i x s) (by omega) (fun i q s=>c.Parts.drop i=q∧s=(c.Parts.take i).map Partition.Leader) ⟨rfl,by simp⟩ (fun i x q s ⟨hq,hs⟩ => .inl ?_) (fun i s ⟨hq,hs⟩=>?_)
 ·have hx:c.Parts[i]? = some x:=by have:=congrArg (fun z=>z[0]?) hq; simpa using this
  refine ⟨(c.Parts.take (i+1)).map Partition.Leader,?_,by have:=congrArg (List.drop 1) hq; simpa [List.drop_drop] using this,rfl⟩
  unfold xa
  refine Ev.bindp (a:=s++[x.Leader]) ?_ (Ev.of ?_)
  ·unfold j9
   rw [if_pos (by rw [hs]; simp; omega)]
  ·rw [hs,List.take_add_one,hx,List.map_append]
   rfl
 ·have hi:c.Parts.length≤i:=by have:=congrArg List.length hq; simp at this; omega
  rw [hs,List.take_of_length_le hi]
theorem q6e {c o:Control}{n:Nat}(h:Mid n o) : (yy c o).nn≤1048576:=by
 have h1:(yy c o).nn=(yy c o).Brokers.length+(nnL Partition.nn (yy c o).Parts+0):=rfl
 have h2:nnL Partition.nn (yy c o).Parts=(yy c o).Parts.length+qd1 Partition.nn (yy c o).Parts:=rfl
 have hl:=h.out (c:=c)
 have h5:qd1 Partition.nn (yy c o).Parts≤(yy c o).Parts.length*12:=qjm (fun x hx=>by
  obtain ⟨i,hi⟩:=List.getElem?_of_mem hx
  unfold yy yi at hi
  rw [List.getElem?_mapIdx] at hi
  cases hq:o.Parts[i]? with
  | none=>rw [hq] at hi; cases hi
  | some q =>
   rw [hq] at hi
   simp only [Option.map_some,Option.some.injEq] at hi
   subst hi
   obtain ⟨a,_⟩:=h.part q (List.mem_of_getElem? hq)
   obtain ⟨p1,p2,_⟩:=qhi (B:=o.Brokers) (w:=c.Parts[i]?.map Partition.Leader) (p:=q)
   have b1:=yo a.h1
   have b2:=yo a.i1
   have:=h.n2
   have h6:(kq o.Brokers (c.Parts[i]?.map Partition.Leader) q).nn=(kq o.Brokers (c.Parts[i]?.map Partition.Leader) q).Homes.length+((kq o.Brokers (c.Parts[i]?.map Partition.Leader) q).InStep.length+0):=rfl
   rw [p1,p2] at h6
   omega)
 have h6:(yy c o).Parts.length*12≤5*12:=Nat.mul_le_mul_right _ (by rw [hl.2]; exact h.parts)
 have h7:(yy c o).Brokers.length=n:=h.len
 have:=h.n2
 have:=h.parts
 have:=hl.2
 omega
theorem qrf {c:Control}{x:Command}(hc:yq c)(hx:uv c.Brokers.length x) : Ev (fun _=>wn c x) ((qc9 c x).1,(qc9 c x).2,true):=by
 have hnn:=hc.nn
 have hp:=hc.1.2.1
 obtain ⟨g,eg,hg⟩:=qly hnn
 have hil:=yo hx.2.2.2.2.1
 have h6:=hc.1.1.2
 obtain ⟨d,ed,hd⟩:=q3h (c:=c) (x:=x) hc.1.1 (by omega)
 have hg':=hg.2 hc
 have hd':=hd.2 hx
 subst hg' hd'
 unfold wn
 refine Ev.bind eg (Ev.bind (a:=false) (Ev.iteF rfl (Ev.bind ed Ev.rfl)) (Ev.iteF rfl (Ev.jn (qwa (by omega)) ?_)))
 unfold qc5
 have hdo:=q9i hc hx
 refine Ev.bind (qla hnn) ?_
 by_cases h0:(j7 c x).1=0
 ·have hm:=qid hc hx h0
  rw [if_pos h0] at hdo
  refine Ev.bind hdo ?_
  have hfitS:∀ p∈qe9 c x,Fit12 (j7 c x).2.Brokers.length p:=by
   intro p hpp
   rw [hm.len]
   unfold qe9 at hpp
   split at hpp
   ·rename_i d4
    have he:(j7 c x).2.Parts=c.Parts++[⟨x.InStep,x.InStep,-1,0,0⟩]:=by
     have h0':=h0
     unfold j7 at h0' ⊢
     rw [if_neg (by omega),if_neg (by omega),if_neg (by omega),if_pos d4] at h0' ⊢
     split at h0'
     ·cases h0'
     ·rename_i c1
      rw [if_neg c1]
    rcases List.mem_append.1 hpp with hpp | hpp
    ·exact qkv hm p (by rw [he]; exact List.mem_append_left _ hpp)
    ·simp only [List.mem_singleton] at hpp
     subst hpp
     exact ⟨hx.2.2.2.2.1,.inl (by simp),by simp,by simp⟩
   ·exact qkv hm p hpp
  have hlenS:(qe9 c x).length≤5:=by
   have e1:=congrArg List.length (qjy (B:=[]) hx h0)
   unfold yi at e1
   simp only [List.length_mapIdx] at e1
   have:=hm.parts
   omega
  have hls:=q61 (c:=c) (B:=(j7 c x).2.Brokers) (l:=qe9 c x) (n:=(j7 c x).2.Next) (by rw [hm.len]; exact h6) (by omega) (by omega) hfitS (qxc hc)
  rw [qjy hx h0] at hls
  have hout:(⟨(j7 c x).2.Brokers,yi (j7 c x).2.Brokers c.Parts (j7 c x).2.Parts,(j7 c x).2.Next⟩ : Control)=yy c (j7 c x).2:=rfl
  rw [hout] at hls
  have honn:=q6e (c:=c) hm
  obtain ⟨b,eb,hb⟩:=qly honn
  have hiff:=hb.trans (hm.out (c:=c)).1
  unfold qc9
  rw [if_neg (show ¬ ((j7 c x).1≠0) from fun h=>h h0)]
  cases b with
  | true =>
   rw [if_pos (show qdh (yy c (j7 c x).2)=true from hiff.1 rfl)]
   refine Ev.bind (Ev.iteT rfl (Ev.bind hls (Ev.bind eb (Ev.iteF rfl Ev.rfl)))) ?_
   unfold uz
   exact Ev.iteF rfl (Ev.bind (qla honn) Ev.rfl)
  | false =>
   rw [if_neg (show ¬ qdh (yy c (j7 c x).2)=true from fun h=>by have:=hiff.2 h; cases this)]
   refine Ev.bind (Ev.iteT rfl (Ev.bind hls (Ev.bind eb (Ev.iteT rfl Ev.rfl)))) ?_
   unfold uz
   exact Ev.iteT rfl (Ev.bind (qla hnn) Ev.rfl)
 ·rw [if_neg h0] at hdo
  refine Ev.bind hdo ?_
  unfold qc9
  rw [if_pos (show (j7 c x).1≠0 from h0)]
  refine Ev.bind (Ev.iteF (by simpa using h0) Ev.rfl) ?_
  unfold uz
  exact Ev.iteT (by simpa using h0) (Ev.bind (qla hnn) Ev.rfl)
end Go.Proofs.Ytjloihcijdcpeaa.X
