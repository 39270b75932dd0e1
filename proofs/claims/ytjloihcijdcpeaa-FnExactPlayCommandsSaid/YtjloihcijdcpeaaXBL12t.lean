/- A command: one answer. -/
import Derived.Test.YtjloihcijdcpeaaXBL12s
set_option linter.unusedVariables false
set_option linter.unusedSimpArgs false
namespace Go.Proofs.Ytjloihcijdcpeaa.X
open Go

def qe0 (c:Control)(x:Command) : List Partition:=if x.Kind=4 then c.Parts++[⟨x.InStep,x.InStep,-2,0,0⟩] else (j6 c x).2.Parts
theorem q4u {c:Control}{x:Command}{p:Partition}(hc:qa7 c)(hx:uo c.Brokers.length x)(hq:c.Parts[x.Part.toNat]? = some p) : Ev (fun _=>wu c x) (if x.Epoch≠p.Epoch then 2 else if x.Broker≠p.Leader then 3 else if x.Stamp≠p.Stamp then 2 else if ¬ (∀ k∈x.InStep,k∈p.Homes)∨¬ p.Leader∈x.InStep∨yo c.Brokers p x.InStep=true then 4 else 0):=by
 obtain ⟨⟨⟨n1,n2⟩,hp,nx1,nx2⟩,hb,hpt⟩:=hc
 obtain ⟨xb,xe,xp,xs,xi,hk⟩:=hx
 have hil:=y4 xi
 have hlt:¬ (c.Parts.length:Int)≤x.Part:=fun h=>by rw [(qdo (c:=c) xp.1).2 h] at hq; cases hq
 have hgp:=qg3 xp.1 hq
 obtain ⟨hM,hG,he1,hs1⟩:=hpt p (List.mem_of_getElem? hq)
 have hpl:=y4 hM.i1
 have hhl:=y4 hM.h1
 unfold wu
 refine Ev.iteF (by simpa using hlt) (Ev.bindp hgp ?_)
 by_cases c1:x.Epoch=p.Epoch
 case neg=>rw [if_pos c1]; exact Ev.iteT (by simpa using c1) Ev.rfl
 refine Ev.iteF (by simpa using c1) ?_
 rw [if_neg (show ¬ (x.Epoch≠p.Epoch) from fun h=>h c1)]
 by_cases c2:x.Broker=p.Leader
 case neg=>rw [if_pos c2]; exact Ev.iteT (by simpa using c2) Ev.rfl
 refine Ev.iteF (by simpa using c2) ?_
 rw [if_neg (show ¬ (x.Broker≠p.Leader) from fun h=>h c2)]
 by_cases c3:x.Stamp=p.Stamp
 case neg=>rw [if_pos c3]; exact Ev.iteT (by simpa using c3) Ev.rfl
 refine Ev.iteF (by simpa using c3) ?_
 rw [if_neg (show ¬ (x.Stamp≠p.Stamp) from fun h=>h c3)]
 obtain ⟨a,ea,ha⟩:=ql3 (a:=p.Homes) (b:=x.InStep) (by omega) (by omega)
 obtain ⟨g,eg,hgg⟩:=qd8 (l:=x.InStep) (v:=p.Leader) (by omega)
 refine Ev.bind ea ?_
 cases a with
 | false =>
  have:¬ (∀ k∈x.InStep,k∈p.Homes):=fun h=>by have:=ha.2 h; cases this
  rw [show (if ¬ (∀ k∈x.InStep,k∈p.Homes)∨¬ p.Leader∈x.InStep∨yo c.Brokers p x.InStep=true then (4:Int) else 0)=4 from if_pos (.inl this)]
  exact Ev.bind (a:=true) (Ev.iteT rfl Ev.rfl) (Ev.iteT rfl Ev.rfl)
 | true =>
  have ha:=ha.1 rfl
  cases g with
  | false =>
   have:¬ p.Leader∈x.InStep:=fun h=>by have:=hgg.2 h; cases this
   rw [show (if ¬ (∀ k∈x.InStep,k∈p.Homes)∨¬ p.Leader∈x.InStep∨yo c.Brokers p x.InStep=true then (4:Int) else 0)=4 from if_pos (.inr (.inl this))]
   exact Ev.bind (a:=true) (Ev.iteF rfl (Ev.bind eg Ev.rfl)) (Ev.iteT rfl Ev.rfl)
  | true =>
   have hg:=hgg.1 rfl
   refine Ev.bind (a:=false) (Ev.iteF rfl (Ev.bind eg Ev.rfl)) (Ev.iteF rfl ?_)
   rcases qcr (B:=fun _ i k _=>uv c p i k) (Q:=fun _ k=>((brk c.Brokers k).Fenced && !decide (k∈p.InStep))=true) (f:=fun _=>(4:Int)) (l:=x.InStep) (by omega) (fun i k hk=>by
     have hr:=(ud.1 xi).2 k (List.mem_of_getElem? hk)
     unfold uv
     obtain ⟨g,e,hgg⟩:=qd8 (l:=p.InStep) (v:=k) (by omega)
     cases hf:(brk c.Brokers k).Fenced with
     | false=>exact ⟨false,Ev.bindp (qav hr.1 hr.2) (Ev.bind (a:=false) (Ev.iteF (by rw [hf]) Ev.rfl) (Ev.iteF rfl Ev.rfl)),by simp⟩
     | true =>
      refine ⟨!g,Ev.bindp (qav hr.1 hr.2) (Ev.bind (a := !g) (Ev.iteT (by rw [hf]) (Ev.bind e Ev.rfl)) ?_),?_⟩
      ·cases g with
       | true=>exact Ev.iteF rfl Ev.rfl
       | false=>exact Ev.iteT rfl Ev.rfl
      ·cases g with
       | true=>simp [hgg.1 rfl]
       | false =>
        have:¬ k∈p.InStep:=fun h=>by have:=hgg.2 h; cases this
        simp [this]) with ⟨i,k,h1,h2,h3,h4⟩ | ⟨h1,h2⟩
   ·have:yo c.Brokers p x.InStep=true:=by
     unfold yo
     rw [List.any_eq_true]
     exact ⟨k,List.mem_of_getElem? h1,h2⟩
    rw [show (if ¬ (∀ k∈x.InStep,k∈p.Homes)∨¬ p.Leader∈x.InStep∨yo c.Brokers p x.InStep=true then (4:Int) else 0)=4 from if_pos (.inr (.inr this))]
    exact Ev.jn_ret h4
   ·have:yo c.Brokers p x.InStep=false:=by
     unfold yo
     rw [List.any_eq_false]
     intro k hk hb
     obtain ⟨i,hi⟩:=List.getElem?_of_mem hk
     exact h1 i k hi hb
    have hno:¬ (¬ (∀ k∈x.InStep,k∈p.Homes)∨¬ p.Leader∈x.InStep∨yo c.Brokers p x.InStep=true):=by
     rw [this]
     rintro (h | h | h)
     ·exact h ha
     ·exact h hg
     ·cases h
    rw [if_neg hno]
    exact Ev.jn h2 Ev.rfl
theorem q8l {c:Control}{x:Command}(hc:qa7 c)(hx:uo c.Brokers.length x) : Ev (fun _=>qdn c x) (if (j6 c x).1=0 then (⟨(j6 c x).2.Brokers,qe0 c x,(j6 c x).2.Next⟩,0) else (c,(j6 c x).1)):=by
 have hcc:=hc
 have hxx:=hx
 obtain ⟨⟨⟨n1,n2⟩,hp,nx1,nx2⟩,hb,hpt⟩:=hc
 obtain ⟨xb,xe,xp,xs,xi,hk⟩:=hx
 have hg:=qav xb.1 xb.2
 have hil:=y4 xi
 have tail:∀ (o:Control) (B:List Broker),B.length=c.Brokers.length→Ev (fun _=>qcz o B) (⟨jt B,o.Parts,o.Next⟩,0):=by
  intro o B hB
  unfold qcz
  exact Ev.jn (qh3 (B:=fun i s=>qc4 i s) (l:=B) (by omega) (fun i s=>rfl)) Ev.rfl
 unfold qdn qe0 j6
 by_cases d1:x.Kind=1
 ·simp only [if_neg (show ¬ x.Kind=4 by omega)]
  simp only [if_true,if_pos d1]
  by_cases c1:c.Next=1000
  ·simp only [if_true,if_pos c1]
   exact Ev.jn_ret (Ev.iteT (by simpa using d1) (Ev.iteT (by simpa using c1) Ev.rfl))
  ·simp only [if_true,if_neg c1]
   refine Ev.jn (Ev.iteT (by simpa using d1) (Ev.iteF (by simpa using c1) (Ev.bindp hg Ev.rfl))) ?_
   rw [wi (n:=c.Next+1) (by omega) (by omega)]
   exact tail ⟨c.Brokers.set x.Broker.toNat ⟨c.Next,9,false⟩,c.Parts,c.Next+1⟩ (c.Brokers.set x.Broker.toNat ⟨c.Next,9,false⟩) (by simp)
 simp only [if_true,if_neg d1]
 by_cases d2:x.Kind=2
 ·simp only [if_neg (show ¬ x.Kind=4 by omega)]
  simp only [if_true,if_pos d2]
  by_cases c1:(brk c.Brokers x.Broker).Epoch=0
  ·simp only [if_true,if_pos c1]
   exact Ev.jn_ret (Ev.iteF (by simpa using d1) (Ev.iteT (by simpa using d2) (Ev.bindp hg (Ev.iteT (by simpa using c1) Ev.rfl))))
  simp only [if_true,if_neg c1]
  by_cases c2:(brk c.Brokers x.Broker).Epoch=x.Epoch
  ·simp only [if_true,if_neg (show ¬ ((brk c.Brokers x.Broker).Epoch≠x.Epoch) from fun h=>h c2)]
   exact Ev.jn (Ev.iteF (by simpa using d1) (Ev.iteT (by simpa using d2) (Ev.bindp hg (Ev.iteF (by simpa using c1) (Ev.iteF (by simpa using c2) Ev.rfl))))) (tail ⟨c.Brokers.set x.Broker.toNat ⟨(brk c.Brokers x.Broker).Epoch,9,(brk c.Brokers x.Broker).Fenced⟩,c.Parts,c.Next⟩ (c.Brokers.set x.Broker.toNat ⟨(brk c.Brokers x.Broker).Epoch,9,(brk c.Brokers x.Broker).Fenced⟩) (by simp))
  ·simp only [if_true,if_pos (show (brk c.Brokers x.Broker).Epoch≠x.Epoch from c2)]
   exact Ev.jn_ret (Ev.iteF (by simpa using d1) (Ev.iteT (by simpa using d2) (Ev.bindp hg (Ev.iteF (by simpa using c1) (Ev.iteT (by simpa using c2) Ev.rfl)))))
 simp only [if_true,if_neg d2]
 by_cases d3:x.Kind=3
 ·simp only [if_neg (show ¬ x.Kind=4 by omega)]
  simp only [if_true,if_pos d3]
  have hl:=qhd (B:=fun i s=>qbo i s) (l:=c.Brokers) (f:=fun _ b=>⟨b.Epoch,if 0<b.Left then b.Left - 1 else b.Left,b.Fenced⟩) (by omega) (fun i b s hx hs hlen=>by
   have hbb:=hb b (List.mem_of_getElem? hx)
   have h1:=hbb.2.2.1
   have h2:=hbb.2.2.2.1
   unfold qbo
   refine Ev.bindp (z9 hs) ?_
   by_cases h0:0<b.Left
   ·refine Ev.iteT (by simpa using h0) (Ev.of ?_)
    rw [wi (n:=b.Left - 1) (by omega) (by omega),if_pos h0]
    rfl
   ·refine Ev.iteF (by simpa using h0) (Ev.of ?_)
    rw [if_neg h0]
    congr 2
    apply List.ext_getElem?
    intro j
    by_cases hj:i=j
    ·subst hj
     rw [hs,List.getElem?_set_self (List.getElem?_eq_some_iff.1 hs).1]
    ·rw [List.getElem?_set_ne hj])
  rw [qg5] at hl
  exact Ev.jn (Ev.iteF (by simpa using d1) (Ev.iteF (by simpa using d2) (Ev.iteT (by simpa using d3) (Ev.jn hl Ev.rfl)))) (tail ⟨(List.map (fun (b:Broker)=>(⟨b.Epoch,if 0<b.Left then b.Left - 1 else b.Left,b.Fenced⟩ : Broker)) c.Brokers),c.Parts,c.Next⟩ (List.map (fun (b:Broker)=>(⟨b.Epoch,if 0<b.Left then b.Left - 1 else b.Left,b.Fenced⟩ : Broker)) c.Brokers) (by simp))
 simp only [if_true,if_neg d3]
 by_cases d4:x.Kind=4
 ·simp only [if_true,if_pos d4]
  by_cases c1:x.InStep=[]∨c.Parts.length=5
  ·simp only [if_true,if_pos c1]
   refine Ev.jn_ret (Ev.iteF (by simpa using d1) (Ev.iteF (by simpa using d2) (Ev.iteF (by simpa using d3) (Ev.iteT (by simpa using d4) (Ev.iteT ?_ Ev.rfl)))))
   rcases c1 with c1 | c1
   ·simp [c1]
   ·simp [c1]
  ·simp only [if_true,if_neg c1]
   have c2:x.InStep≠[]:=fun h=>c1 (.inl h)
   have c3:c.Parts.length≠5:=fun h=>c1 (.inr h)
   have c4:x.InStep.length≠0:=fun h=>c2 (List.length_eq_zero_iff.1 h)
   exact Ev.jn (Ev.iteF (by simpa using d1) (Ev.iteF (by simpa using d2) (Ev.iteF (by simpa using d3) (Ev.iteT (by simpa using d4) (Ev.iteF (by simp only [Bool.or_eq_false_iff,decide_eq_false_iff_not]; omega) (Ev.bindp (qau (by omega)) (Ev.bindp (qau (by omega)) (Ev.bindp (q1e (by omega)) Ev.rfl)))))))) (tail ⟨c.Brokers,c.Parts++[⟨x.InStep,x.InStep,-2,0,0⟩],c.Next⟩ c.Brokers rfl)
 simp only [if_true,if_neg d4]
 have d56:x.Kind=5∨x.Kind=6:=by rcases hk with h | h | h | h | h | h <;> omega
 cases hq:c.Parts[x.Part.toNat]? with
 | none =>
  have:=(qdo (c:=c) xp.1).1 hq
  dsimp only
  by_cases d5:x.Kind=5
  ·have ha:Ev (fun _=>wu c x) 1:=by
    unfold wu
    exact Ev.iteT (by simpa using this) Ev.rfl
   exact Ev.jn_ret (Ev.iteF (by simpa using d1) (Ev.iteF (by simpa using d2) (Ev.iteF (by simpa using d3) (Ev.iteF (by simpa using d4) (Ev.iteT (by simpa using d5) (Ev.bind ha (Ev.iteT (by decide) Ev.rfl)))))))
  ·have d6:x.Kind=6:=by omega
   exact Ev.jn_ret (Ev.iteF (by simpa using d1) (Ev.iteF (by simpa using d2) (Ev.iteF (by simpa using d3) (Ev.iteF (by simpa using d4) (Ev.iteF (by simpa using d5) (Ev.iteT (by simpa using d6) (Ev.iteT (by simpa using this) Ev.rfl)))))))
 | some p =>
  dsimp only
  have hlt:¬ (c.Parts.length:Int)≤x.Part:=fun h=>by rw [(qdo (c:=c) xp.1).2 h] at hq; cases hq
  have hgp:=qg3 xp.1 hq
  obtain ⟨hM,hG,he1,hs1⟩:=hpt p (List.mem_of_getElem? hq)
  have hpl:=y4 hM.i1
  by_cases d5:x.Kind=5
  ·simp only [if_true,if_pos d5]
   have ha:=q4u hcc hxx hq
   have bad:∀ v:Int,v≠0→Ev (fun _=>wu c x) v→Ev (fun _=>if (decide (x.Kind=1))=true then (if (decide (c.Next=1000))=true then (some (.ret (c,4)) : Option (Oc (Control × (List Broker)) (Control × Int))) else ((zz c.Brokers x.Broker).bind fun x35=>(some (.nxt ((Control.mk (List.set c.Brokers x.Broker.toNat (Broker.mk c.Next 9 false)) c.Parts (IntKind.wrap .i64 (c.Next+1))),(List.set c.Brokers x.Broker.toNat (Broker.mk c.Next 9 false))))))) else none) (.ret (c,v))→True:=fun _ _ _ _=>trivial
   by_cases c1:x.Epoch=p.Epoch
   case neg =>
    simp only [if_true,if_pos (show x.Epoch≠p.Epoch from c1)] at ha ⊢
    exact Ev.jn_ret (Ev.iteF (by simpa using d1) (Ev.iteF (by simpa using d2) (Ev.iteF (by simpa using d3) (Ev.iteF (by simpa using d4) (Ev.iteT (by simpa using d5) (Ev.bind ha (Ev.iteT (by decide) Ev.rfl)))))))
   simp only [if_true,if_neg (show ¬ (x.Epoch≠p.Epoch) from fun h=>h c1)] at ha ⊢
   by_cases c2:x.Broker=p.Leader
   case neg =>
    simp only [if_true,if_pos (show x.Broker≠p.Leader from c2)] at ha ⊢
    exact Ev.jn_ret (Ev.iteF (by simpa using d1) (Ev.iteF (by simpa using d2) (Ev.iteF (by simpa using d3) (Ev.iteF (by simpa using d4) (Ev.iteT (by simpa using d5) (Ev.bind ha (Ev.iteT (by decide) Ev.rfl)))))))
   simp only [if_true,if_neg (show ¬ (x.Broker≠p.Leader) from fun h=>h c2)] at ha ⊢
   by_cases c3:x.Stamp=p.Stamp
   case neg =>
    simp only [if_true,if_pos (show x.Stamp≠p.Stamp from c3)] at ha ⊢
    exact Ev.jn_ret (Ev.iteF (by simpa using d1) (Ev.iteF (by simpa using d2) (Ev.iteF (by simpa using d3) (Ev.iteF (by simpa using d4) (Ev.iteT (by simpa using d5) (Ev.bind ha (Ev.iteT (by decide) Ev.rfl)))))))
   simp only [if_true,if_neg (show ¬ (x.Stamp≠p.Stamp) from fun h=>h c3)] at ha ⊢
   by_cases c4:¬ (∀ k∈x.InStep,k∈p.Homes)∨¬ p.Leader∈x.InStep∨yo c.Brokers p x.InStep=true
   ·simp only [if_true,if_pos c4] at ha ⊢
    exact Ev.jn_ret (Ev.iteF (by simpa using d1) (Ev.iteF (by simpa using d2) (Ev.iteF (by simpa using d3) (Ev.iteF (by simpa using d4) (Ev.iteT (by simpa using d5) (Ev.bind ha (Ev.iteT (by decide) Ev.rfl)))))))
   ·simp only [if_true,if_neg c4] at ha ⊢
    have:=hM.s0
    refine Ev.jn (Ev.iteF (by simpa using d1) (Ev.iteF (by simpa using d2) (Ev.iteF (by simpa using d3) (Ev.iteF (by simpa using d4) (Ev.iteT (by simpa using d5) (Ev.bind ha (Ev.iteF (by decide) (Ev.bindp (qau (by omega)) (Ev.bindp hgp Ev.rfl))))))))) ?_
    rw [wi (n:=p.Stamp+1) (by omega) (by omega)]
    exact tail _ _ rfl
  ·simp only [if_true,if_neg d5]
   have d6:x.Kind=6:=by omega
   obtain ⟨g,eg,hgg⟩:=qd8 (l:=p.InStep) (v:=x.Broker) (by omega)
   by_cases c1:¬ x.Broker∈p.InStep∨(brk c.Brokers x.Broker).Fenced=true
   ·simp only [if_true,if_pos c1]
    refine Ev.jn_ret (Ev.iteF (by simpa using d1) (Ev.iteF (by simpa using d2) (Ev.iteF (by simpa using d3) (Ev.iteF (by simpa using d4) (Ev.iteF (by simpa using d5) (Ev.iteT (by simpa using d6) (Ev.iteF (by simpa using hlt) (Ev.bindp hgp (Ev.bind eg (Ev.bind (a:=true) ?_ (Ev.iteT rfl Ev.rfl)))))))))))
    cases g with
    | false=>exact Ev.iteT rfl Ev.rfl
    | true =>
     refine Ev.iteF rfl (Ev.bindp hg (Ev.of ?_))
     rcases c1 with c1 | c1
     ·exact absurd (hgg.1 rfl) c1
     ·rw [c1]
   ·simp only [if_true,if_neg c1]
    have c6:g=true:=hgg.2 (Classical.byContradiction fun h=>c1 (.inl h))
    have c7:(brk c.Brokers x.Broker).Fenced=false:=by
     cases hh:(brk c.Brokers x.Broker).Fenced
     ·rfl
     ·exact absurd (.inr hh) c1
    subst c6
    exact Ev.jn (Ev.iteF (by simpa using d1) (Ev.iteF (by simpa using d2) (Ev.iteF (by simpa using d3) (Ev.iteF (by simpa using d4) (Ev.iteF (by simpa using d5) (Ev.iteT (by simpa using d6) (Ev.iteF (by simpa using hlt) (Ev.bindp hgp (Ev.bind eg (Ev.bind (a:=false) (Ev.iteF rfl (Ev.bindp hg (Ev.of (by rw [c7])))) (Ev.iteF rfl Ev.rfl))))))))))) (tail _ _ rfl)

theorem q4n {c:Control}{i:Nat} : (c.Parts.map Partition.Leader)[i]? = c.Parts[i]?.map Partition.Leader:=List.getElem?_map ..
theorem quc {B:List Broker}{w:Option Int}{p:Partition} : (⟨p.Homes,p.InStep,(ki B w p).Leader,(ki B w p).Epoch,(ki B w p).Stamp⟩ : Partition)=ki B w p:=by
 unfold ki
 split <;> rfl
structure Fit12 (n:Nat) (p:Partition) : Prop where
 i1:qa3 p.InStep n
 ld:p.Leader<0∨p.Leader∈p.InStep
 e:0≤p.Epoch∧p.Epoch≤1000
 s:0≤p.Stamp∧p.Stamp≤1001
theorem qmv {o:Control}{old:List Int}{i:Nat}{p:Partition}{s:List Partition}(hf:Fit12 o.Brokers.length p)(hn:o.Brokers.length≤6)(hs:s[i]? = some p)(hio:∀ z∈old,-1≤z)(hol:old.length≤1000) : Ev (fun _=>ub o old i s) (.nxt (s.set i (ki o.Brokers (old[i]?) p))):=by
 have hpl:=y4 hf.i1
 have hr:=(ud.1 hf.i1).2
 have he:=hf.e
 have hst:=hf.s
 have hL:=qgd (B:=o.Brokers) hf.i1 hf.ld
 have hLr : -1≤jo o.Brokers p:=by rcases hL with ⟨a,_⟩ | ⟨a,_⟩ <;> omega
 unfold ub
 refine Ev.bindp (z9 hs) (Ev.bind (a:=match old[i]? with | some z=>z | none => -2) ?_ ?_)
 ·cases ho:old[i]? with
  | none =>
   have:=List.getElem?_eq_none_iff.1 ho
   exact Ev.iteF (by simp only [decide_eq_false_iff_not]; omega) Ev.rfl
  | some z =>
   have:=(List.getElem?_eq_some_iff.1 ho).1
   exact Ev.iteT (by simp only [decide_eq_true_eq]; omega) (Ev.bindp (z9 ho) Ev.rfl)
 ·unfold qde
  refine Ev.bind (a:=decide (p.Leader<0)||(brk o.Brokers p.Leader).Fenced) ?_ (Ev.bind (a:=⟨p.Homes,p.InStep,jo o.Brokers p,p.Epoch,p.Stamp⟩) ?_ ?_)
  ·by_cases h0:p.Leader<0
   ·exact Ev.iteT (by simpa using h0) (Ev.of (by simp [h0]))
   ·have hm:=hr _ (hf.ld.resolve_left h0)
    exact Ev.iteF (by simpa using h0) (Ev.bindp (qav hm.1 hm.2) (Ev.of (by simp [h0])))
  ·unfold jo
   by_cases h:p.Leader<0∨(brk o.Brokers p.Leader).Fenced=true
   ·rw [if_pos h]
    exact Ev.iteT (by simpa using h) (Ev.bind (qie (c:=⟨o.Brokers,s,o.Next⟩) (by omega) hr) Ev.rfl)
   ·rw [if_neg h]
    refine Ev.iteF ?_ Ev.rfl
    refine bF (P:=p.Leader<0∨(brk o.Brokers p.Leader).Fenced=true) (by simp only [Bool.or_eq_true,decide_eq_true_eq]) h
  ·unfold qdp
   dsimp only
   have hw:(jo o.Brokers p≠match old[i]? with | some z=>z | none => -2)↔¬ old[i]? = some (jo o.Brokers p):=by
    cases ho:old[i]? with
    | none=>simp; omega
    | some z=>simp; exact ⟨fun h e=>h e.symm,fun h e=>h e.symm⟩
   refine Ev.bind (a:=ki o.Brokers (old[i]?) p) ?_ ?_
   ·unfold ki
    by_cases h:old[i]? = some (jo o.Brokers p)
    ·rw [if_pos h]
     refine Ev.iteF ?_ Ev.rfl
     simp only [decide_eq_false_iff_not]
     exact fun hh=>hw.1 hh h
    ·rw [if_neg h]
     refine Ev.iteT (by simpa using hw.2 h) ?_
     by_cases h0:0≤jo o.Brokers p
     ·rw [if_pos h0]
      exact Ev.iteT (by simpa using h0) (Ev.of (by rw [wi (n:=p.Epoch+1) (by omega) (by omega),wi (n:=p.Stamp+1) (by omega) (by omega)]))
     ·rw [if_neg h0]
      exact Ev.iteF (by simpa using h0) (Ev.of (by rw [wi (n:=p.Stamp+1) (by omega) (by omega)]))
   ·unfold qdw
    rw [quc]
    exact Ev.rfl
theorem qok {B:List Broker}{c:Control}{l:List Partition} : l.mapIdx (fun i p=>ki B ((c.Parts.map Partition.Leader)[i]?) p)=yd B c.Parts l:=by
 unfold yd
 apply List.ext_getElem?
 intro i
 rw [List.getElem?_mapIdx,List.getElem?_mapIdx,q4n]
theorem q5g {c:Control}{B:List Broker}{l:List Partition}{n:Int}(hB:B.length≤6)(hl:l.length≤1000)(hcl:c.Parts.length≤1000)(hf:∀ p∈l,Fit12 B.length p)(hio:∀ p∈c.Parts,-1≤p.Leader) : Ev (fun _=>qb3 ⟨B,l,n⟩ (c.Parts.map Partition.Leader)) (⟨B,yd B c.Parts l,n⟩,c.Parts.map Partition.Leader):=by
 unfold qb3
 have:=qhd (B:=fun i s=>ub ⟨B,l,n⟩ (c.Parts.map Partition.Leader) i s) (l:=l) (f:=fun i p=>ki B ((c.Parts.map Partition.Leader)[i]?) p) (by omega) (fun i p s hx hs hlen=>qmv (o:=⟨B,l,n⟩) (hf p (List.mem_of_getElem? hx)) hB hs (fun z hz=>by
  rw [List.mem_map] at hz
  obtain ⟨q,hq,rfl⟩:=hz
  exact hio q hq) (by simpa using hcl))
 rw [qok] at this
 exact Ev.jn this Ev.rfl
theorem qjo {c:Control}{x:Command}{B:List Broker}(hx:uo c.Brokers.length x)(h:(j6 c x).1=0) : yd B c.Parts (qe0 c x)=yd B c.Parts (j6 c x).2.Parts:=by
 unfold qe0
 by_cases d4:x.Kind=4
 ·rw [if_pos d4]
  have:(j6 c x).2.Parts=c.Parts++[⟨x.InStep,x.InStep,-1,0,0⟩]:=by
   unfold j6 at h ⊢
   rw [if_neg (by omega),if_neg (by omega),if_neg (by omega),if_pos d4] at h ⊢
   split at h
   ·cases h
   ·rename_i c1
    rw [if_neg c1]
  rw [this]
  unfold yd
  rw [List.mapIdx_append,List.mapIdx_append]
  rfl
 ·rw [if_neg d4]
theorem qke {n:Nat}{o:Control}(h:Mid n o) : ∀ p∈o.Parts,Fit12 n p:=fun p hp=>by
 obtain ⟨a,b,d,e⟩:=h.part p hp
 exact ⟨a.i1,b,⟨a.e0,d⟩,⟨a.s0,e.1⟩⟩
theorem qu4 {c:Control}(hc:qa7 c) : ∀ p∈c.Parts,-1≤p.Leader:=fun p hp=>by
 obtain ⟨a,b,_⟩:=hc.2.2 p hp
 rcases b with ⟨b,_⟩ | ⟨_,b,_⟩
 ·omega
 ·have:=(ud.1 a.i1).2 _ b
  omega
theorem qvd {c:Control}(hn:c.Parts.length≤1000) : Ev (fun _=>jq (fun i51 x52 s100=>ws i51 x52 s100) c.Parts ([] : List Int)) (.nxt (c.Parts.map Partition.Leader)):=by
 refine qbl (B:=fun _ i x s=>ws i x s) (by omega) (fun i q s=>c.Parts.drop i=q∧s=(c.Parts.take i).map Partition.Leader) ⟨rfl,by simp⟩ (fun i x q s ⟨hq,hs⟩ => .inl ?_) (fun i s ⟨hq,hs⟩=>?_)
 ·have hx:c.Parts[i]? = some x:=by have:=congrArg (fun z=>z[0]?) hq; simpa using this
  refine ⟨(c.Parts.take (i+1)).map Partition.Leader,?_,by have:=congrArg (List.drop 1) hq; simpa [List.drop_drop] using this,rfl⟩
  unfold ws
  refine Ev.bindp (a:=s++[x.Leader]) ?_ (Ev.of ?_)
  ·unfold kq
   rw [if_pos (by rw [hs]; simp; omega)]
  ·rw [hs,List.take_add_one,hx,List.map_append]
   rfl
 ·have hi:c.Parts.length≤i:=by have:=congrArg List.length hq; simp at this; omega
  rw [hs,List.take_of_length_le hi]
theorem q6o {c o:Control}{n:Nat}(h:Mid n o) : (yp c o).nn≤1048576:=by
 have h1:(yp c o).nn=(yp c o).Brokers.length+(nnL Partition.nn (yp c o).Parts+0):=rfl
 have h2:nnL Partition.nn (yp c o).Parts=(yp c o).Parts.length+zp Partition.nn (yp c o).Parts:=rfl
 have hl:=h.out (c:=c)
 have h5:zp Partition.nn (yp c o).Parts≤(yp c o).Parts.length*12:=qmi (fun x hx=>by
  obtain ⟨i,hi⟩:=List.getElem?_of_mem hx
  unfold yp yd at hi
  rw [List.getElem?_mapIdx] at hi
  cases hq:o.Parts[i]? with
  | none=>rw [hq] at hi; cases hi
  | some q =>
   rw [hq] at hi
   simp only [Option.map_some,Option.some.injEq] at hi
   subst hi
   obtain ⟨a,_⟩:=h.part q (List.mem_of_getElem? hq)
   obtain ⟨p1,p2,_⟩:=qg2 (B:=o.Brokers) (w:=c.Parts[i]?.map Partition.Leader) (p:=q)
   have b1:=y4 a.h1
   have b2:=y4 a.i1
   have:=h.n2
   have h6:(ki o.Brokers (c.Parts[i]?.map Partition.Leader) q).nn=(ki o.Brokers (c.Parts[i]?.map Partition.Leader) q).Homes.length+((ki o.Brokers (c.Parts[i]?.map Partition.Leader) q).InStep.length+0):=rfl
   rw [p1,p2] at h6
   omega)
 have h6:(yp c o).Parts.length*12≤5*12:=Nat.mul_le_mul_right _ (by rw [hl.2]; exact h.parts)
 have h7:(yp c o).Brokers.length=n:=h.len
 have:=h.n2
 have:=h.parts
 have:=hl.2
 omega
theorem q5n {c:Control}{x:Command}(hc:qa7 c)(hx:uo c.Brokers.length x) : Ev (fun _=>xk c x) ((qdr c x).1,(qdr c x).2,true):=by
 have hnn:=hc.nn
 have hp:=hc.1.2.1
 obtain ⟨g,eg,hg⟩:=qll hnn
 have hil:=y4 hx.2.2.2.2.1
 have h6:=hc.1.1.2
 obtain ⟨d,ed,hd⟩:=q1z (c:=c) (x:=x) hc.1.1 (by omega)
 have hg':=hg.2 hc
 have hd':=hd.2 hx
 subst hg' hd'
 unfold xk
 refine Ev.bind eg (Ev.bind (a:=false) (Ev.iteF rfl (Ev.bind ed Ev.rfl)) (Ev.iteF rfl (Ev.jn (qvd (by omega)) ?_)))
 unfold qcm
 have hdo:=q8l hc hx
 refine Ev.bind (qlg hnn) ?_
 by_cases h0:(j6 c x).1=0
 ·have hm:=qht hc hx h0
  rw [if_pos h0] at hdo
  refine Ev.bind hdo ?_
  have hfitS:∀ p∈qe0 c x,Fit12 (j6 c x).2.Brokers.length p:=by
   intro p hpp
   rw [hm.len]
   unfold qe0 at hpp
   split at hpp
   ·rename_i d4
    have he:(j6 c x).2.Parts=c.Parts++[⟨x.InStep,x.InStep,-1,0,0⟩]:=by
     have h0':=h0
     unfold j6 at h0' ⊢
     rw [if_neg (by omega),if_neg (by omega),if_neg (by omega),if_pos d4] at h0' ⊢
     split at h0'
     ·cases h0'
     ·rename_i c1
      rw [if_neg c1]
    rcases List.mem_append.1 hpp with hpp | hpp
    ·exact qke hm p (by rw [he]; exact List.mem_append_left _ hpp)
    ·simp only [List.mem_singleton] at hpp
     subst hpp
     exact ⟨hx.2.2.2.2.1,.inl (by simp),by simp,by simp⟩
   ·exact qke hm p hpp
  have hlenS:(qe0 c x).length≤5:=by
   have e1:=congrArg List.length (qjo (B:=[]) hx h0)
   unfold yd at e1
   simp only [List.length_mapIdx] at e1
   have:=hm.parts
   omega
  have hls:=q5g (c:=c) (B:=(j6 c x).2.Brokers) (l:=qe0 c x) (n:=(j6 c x).2.Next) (by rw [hm.len]; exact h6) (by omega) (by omega) hfitS (qu4 hc)
  rw [qjo hx h0] at hls
  have hout:(⟨(j6 c x).2.Brokers,yd (j6 c x).2.Brokers c.Parts (j6 c x).2.Parts,(j6 c x).2.Next⟩ : Control)=yp c (j6 c x).2:=rfl
  rw [hout] at hls
  have honn:=q6o (c:=c) hm
  obtain ⟨b,eb,hb⟩:=qll honn
  have hiff:=hb.trans (hm.out (c:=c)).1
  unfold qdr
  rw [if_neg (show ¬ ((j6 c x).1≠0) from fun h=>h h0)]
  cases b with
  | true =>
   rw [if_pos (show qcs (yp c (j6 c x).2)=true from hiff.1 rfl)]
   refine Ev.bind (Ev.iteT rfl (Ev.bind hls (Ev.bind eb (Ev.iteF rfl Ev.rfl)))) ?_
   unfold uh
   exact Ev.iteF rfl (Ev.bind (qlg honn) Ev.rfl)
  | false =>
   rw [if_neg (show ¬ qcs (yp c (j6 c x).2)=true from fun h=>by have:=hiff.2 h; cases this)]
   refine Ev.bind (Ev.iteT rfl (Ev.bind hls (Ev.bind eb (Ev.iteT rfl Ev.rfl)))) ?_
   unfold uh
   exact Ev.iteT rfl (Ev.bind (qlg hnn) Ev.rfl)
 ·rw [if_neg h0] at hdo
  refine Ev.bind hdo ?_
  unfold qdr
  rw [if_pos (show (j6 c x).1≠0 from h0)]
  refine Ev.bind (Ev.iteF (by simpa using h0) Ev.rfl) ?_
  unfold uh
  exact Ev.iteT (by simpa using h0) (Ev.bind (qlg hnn) Ev.rfl)
end Go.Proofs.Ytjloihcijdcpeaa.X
