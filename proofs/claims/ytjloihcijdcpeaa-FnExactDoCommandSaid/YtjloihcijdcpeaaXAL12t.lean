/- A command: one answer. -/
import Derived.Test.YtjloihcijdcpeaaXAL12s
set_option linter.unusedVariables false
set_option linter.unusedSimpArgs false
namespace Go.Proofs.Ytjloihcijdcpeaa.X
open Go

def qew (c:Control)(x:Command) : List Partition:=if x.Kind=4 then c.Parts++[⟨x.InStep,x.InStep,-2,0,0⟩] else (j0 c x).2.Parts
theorem q48 {c:Control}{x:Command}{p:Partition}(hc:qby c)(hx:u4 c.Brokers.length x)(hq:c.Parts[x.Part.toNat]? = some p) : Ev (fun _=>wo c x) (if x.Epoch≠p.Epoch then 2 else if x.Broker≠p.Leader then 3 else if x.Stamp≠p.Stamp then 2 else if ¬ (∀ k∈x.InStep,k∈p.Homes)∨¬ p.Leader∈x.InStep∨yh c.Brokers p x.InStep=true then 4 else 0):=by
 obtain ⟨⟨⟨n1,n2⟩,hp,nx1,nx2⟩,hb,hpt⟩:=hc
 obtain ⟨xb,xe,xp,xs,xi,hk⟩:=hx
 have hil:=yw xi
 have hlt:¬ (c.Parts.length:Int)≤x.Part:=fun h=>by rw [(qdu (c:=c) xp.1).2 h] at hq; cases hq
 have hgp:=qg8 xp.1 hq
 obtain ⟨hM,hG,he1,hs1⟩:=hpt p (List.mem_of_getElem? hq)
 have hpl:=yw hM.i1
 have hhl:=yw hM.h1
 unfold wo
 refine Ev.iteF (by simpa using hlt) (Ev.bindp hgp ?_)
 by_cases c1:x.Epoch=p.Epoch
 case neg=>rw [if_pos c1]; exact Ev.iteT (by simpa using c1) Ev.rfl
 refine Ev.iteF (by simpa using c1) ?_
 rw [if_neg (show ¬ (x.Epoch≠p.Epoch) from fun h=>h c1)]
 by_cases c2:x.Broker=p.Leader
 case neg=>rw [if_pos c2]; exact Ev.iteT (by simpa using c2) Ev.rfl
 refine Ev.iteF (by simpa using c2) ?_
 rw [if_neg (show ¬ (x.Broker≠p.Leader) from fun h=>h c2)]
 by_cases c3:x.Stamp=p.Stamp
 case neg=>rw [if_pos c3]; exact Ev.iteT (by simpa using c3) Ev.rfl
 refine Ev.iteF (by simpa using c3) ?_
 rw [if_neg (show ¬ (x.Stamp≠p.Stamp) from fun h=>h c3)]
 obtain ⟨a,ea,ha⟩:=qly (a:=p.Homes) (b:=x.InStep) (by omega) (by omega)
 obtain ⟨g,eg,hgg⟩:=qd8 (l:=x.InStep) (v:=p.Leader) (by omega)
 refine Ev.bind ea ?_
 cases a with
 | false =>
  have:¬ (∀ k∈x.InStep,k∈p.Homes):=fun h=>by have:=ha.2 h; cases this
  rw [show (if ¬ (∀ k∈x.InStep,k∈p.Homes)∨¬ p.Leader∈x.InStep∨yh c.Brokers p x.InStep=true then (4:Int) else 0)=4 from if_pos (.inl this)]
  exact Ev.bind (a:=true) (Ev.iteT rfl Ev.rfl) (Ev.iteT rfl Ev.rfl)
 | true =>
  have ha:=ha.1 rfl
  cases g with
  | false =>
   have:¬ p.Leader∈x.InStep:=fun h=>by have:=hgg.2 h; cases this
   rw [show (if ¬ (∀ k∈x.InStep,k∈p.Homes)∨¬ p.Leader∈x.InStep∨yh c.Brokers p x.InStep=true then (4:Int) else 0)=4 from if_pos (.inr (.inl this))]
   exact Ev.bind (a:=true) (Ev.iteF rfl (Ev.bind eg Ev.rfl)) (Ev.iteT rfl Ev.rfl)
  | true =>
   have hg:=hgg.1 rfl
   refine Ev.bind (a:=false) (Ev.iteF rfl (Ev.bind eg Ev.rfl)) (Ev.iteF rfl ?_)
   rcases qcz (B:=fun _ i k _=>uy c p i k) (Q:=fun _ k=>((brk c.Brokers k).Fenced && !decide (k∈p.InStep))=true) (f:=fun _=>(4:Int)) (l:=x.InStep) (by omega) (fun i k hk=>by
     have hr:=(wy.1 xi).2 k (List.mem_of_getElem? hk)
     unfold uy
     obtain ⟨g,e,hgg⟩:=qd8 (l:=p.InStep) (v:=k) (by omega)
     cases hf:(brk c.Brokers k).Fenced with
     | false=>exact ⟨false,Ev.bindp (qal hr.1 hr.2) (Ev.bind (a:=false) (Ev.iteF (by rw [hf]) Ev.rfl) (Ev.iteF rfl Ev.rfl)),by simp⟩
     | true =>
      refine ⟨!g,Ev.bindp (qal hr.1 hr.2) (Ev.bind (a := !g) (Ev.iteT (by rw [hf]) (Ev.bind e Ev.rfl)) ?_),?_⟩
      ·cases g with
       | true=>exact Ev.iteF rfl Ev.rfl
       | false=>exact Ev.iteT rfl Ev.rfl
      ·cases g with
       | true=>simp [hgg.1 rfl]
       | false =>
        have:¬ k∈p.InStep:=fun h=>by have:=hgg.2 h; cases this
        simp [this]) with ⟨i,k,h1,h2,h3,h4⟩ | ⟨h1,h2⟩
   ·have:yh c.Brokers p x.InStep=true:=by
     unfold yh
     rw [List.any_eq_true]
     exact ⟨k,List.mem_of_getElem? h1,h2⟩
    rw [show (if ¬ (∀ k∈x.InStep,k∈p.Homes)∨¬ p.Leader∈x.InStep∨yh c.Brokers p x.InStep=true then (4:Int) else 0)=4 from if_pos (.inr (.inr this))]
    exact Ev.jn_ret h4
   ·have:yh c.Brokers p x.InStep=false:=by
     unfold yh
     rw [List.any_eq_false]
     intro k hk hb
     obtain ⟨i,hi⟩:=List.getElem?_of_mem hk
     exact h1 i k hi hb
    have hno:¬ (¬ (∀ k∈x.InStep,k∈p.Homes)∨¬ p.Leader∈x.InStep∨yh c.Brokers p x.InStep=true):=by
     rw [this]
     rintro (h | h | h)
     ·exact h ha
     ·exact h hg
     ·cases h
    rw [if_neg hno]
    exact Ev.jn h2 Ev.rfl
theorem q9a {c:Control}{x:Command}(hc:qby c)(hx:u4 c.Brokers.length x) : Ev (fun _=>qdl c x) (if (j0 c x).1=0 then (⟨(j0 c x).2.Brokers,qew c x,(j0 c x).2.Next⟩,0) else (c,(j0 c x).1)):=by
 have hcc:=hc
 have hxx:=hx
 obtain ⟨⟨⟨n1,n2⟩,hp,nx1,nx2⟩,hb,hpt⟩:=hc
 obtain ⟨xb,xe,xp,xs,xi,hk⟩:=hx
 have hg:=qal xb.1 xb.2
 have hil:=yw xi
 have tail:∀ (o:Control) (B:List Broker),B.length=c.Brokers.length→Ev (fun _=>qc3 o B) (⟨jt B,o.Parts,o.Next⟩,0):=by
  intro o B hB
  unfold qc3
  exact Ev.jn (qin (B:=fun i s=>qc8 i s) (l:=B) (by omega) (fun i s=>rfl)) Ev.rfl
 unfold qdl qew j0
 by_cases d1:x.Kind=1
 ·simp only [if_neg (show ¬ x.Kind=4 by omega)]
  simp only [if_true,if_pos d1]
  by_cases c1:c.Next=1000
  ·simp only [if_true,if_pos c1]
   exact Ev.jn_ret (Ev.iteT (by simpa using d1) (Ev.iteT (by simpa using c1) Ev.rfl))
  ·simp only [if_true,if_neg c1]
   refine Ev.jn (Ev.iteT (by simpa using d1) (Ev.iteF (by simpa using c1) (Ev.bindp hg Ev.rfl))) ?_
   rw [y8 (n:=c.Next+1) (by omega) (by omega)]
   exact tail ⟨c.Brokers.set x.Broker.toNat ⟨c.Next,9,false⟩,c.Parts,c.Next+1⟩ (c.Brokers.set x.Broker.toNat ⟨c.Next,9,false⟩) (by simp)
 simp only [if_true,if_neg d1]
 by_cases d2:x.Kind=2
 ·simp only [if_neg (show ¬ x.Kind=4 by omega)]
  simp only [if_true,if_pos d2]
  by_cases c1:(brk c.Brokers x.Broker).Epoch=0
  ·simp only [if_true,if_pos c1]
   exact Ev.jn_ret (Ev.iteF (by simpa using d1) (Ev.iteT (by simpa using d2) (Ev.bindp hg (Ev.iteT (by simpa using c1) Ev.rfl))))
  simp only [if_true,if_neg c1]
  by_cases c2:(brk c.Brokers x.Broker).Epoch=x.Epoch
  ·simp only [if_true,if_neg (show ¬ ((brk c.Brokers x.Broker).Epoch≠x.Epoch) from fun h=>h c2)]
   exact Ev.jn (Ev.iteF (by simpa using d1) (Ev.iteT (by simpa using d2) (Ev.bindp hg (Ev.iteF (by simpa using c1) (Ev.iteF (by simpa using c2) Ev.rfl))))) (tail ⟨c.Brokers.set x.Broker.toNat ⟨(brk c.Brokers x.Broker).Epoch,9,(brk c.Brokers x.Broker).Fenced⟩,c.Parts,c.Next⟩ (c.Brokers.set x.Broker.toNat ⟨(brk c.Brokers x.Broker).Epoch,9,(brk c.Brokers x.Broker).Fenced⟩) (by simp))
  ·simp only [if_true,if_pos (show (brk c.Brokers x.Broker).Epoch≠x.Epoch from c2)]
   exact Ev.jn_ret (Ev.iteF (by simpa using d1) (Ev.iteT (by simpa using d2) (Ev.bindp hg (Ev.iteF (by simpa using c1) (Ev.iteT (by simpa using c2) Ev.rfl)))))
 simp only [if_true,if_neg d2]
 by_cases d3:x.Kind=3
 ·simp only [if_neg (show ¬ x.Kind=4 by omega)]
  simp only [if_true,if_pos d3]
  have hl:=qg3 (B:=fun i s=>qbt i s) (l:=c.Brokers) (f:=fun _ b=>⟨b.Epoch,if 0<b.Left then b.Left - 1 else b.Left,b.Fenced⟩) (by omega) (fun i b s hx hs hlen=>by
   have hbb:=hb b (List.mem_of_getElem? hx)
   have h1:=hbb.2.2.1
   have h2:=hbb.2.2.2.1
   unfold qbt
   refine Ev.bindp (jc hs) ?_
   by_cases h0:0<b.Left
   ·refine Ev.iteT (by simpa using h0) (Ev.of ?_)
    rw [y8 (n:=b.Left - 1) (by omega) (by omega),if_pos h0]
    rfl
   ·refine Ev.iteF (by simpa using h0) (Ev.of ?_)
    rw [if_neg h0]
    congr 2
    apply List.ext_getElem?
    intro j
    by_cases hj:i=j
    ·subst hj
     rw [hs,List.getElem?_set_self (List.getElem?_eq_some_iff.1 hs).1]
    ·rw [List.getElem?_set_ne hj])
  rw [qhb] at hl
  exact Ev.jn (Ev.iteF (by simpa using d1) (Ev.iteF (by simpa using d2) (Ev.iteT (by simpa using d3) (Ev.jn hl Ev.rfl)))) (tail ⟨(List.map (fun (b:Broker)=>(⟨b.Epoch,if 0<b.Left then b.Left - 1 else b.Left,b.Fenced⟩ : Broker)) c.Brokers),c.Parts,c.Next⟩ (List.map (fun (b:Broker)=>(⟨b.Epoch,if 0<b.Left then b.Left - 1 else b.Left,b.Fenced⟩ : Broker)) c.Brokers) (by simp))
 simp only [if_true,if_neg d3]
 by_cases d4:x.Kind=4
 ·simp only [if_true,if_pos d4]
  by_cases c1:x.InStep=[]∨c.Parts.length=5
  ·simp only [if_true,if_pos c1]
   refine Ev.jn_ret (Ev.iteF (by simpa using d1) (Ev.iteF (by simpa using d2) (Ev.iteF (by simpa using d3) (Ev.iteT (by simpa using d4) (Ev.iteT ?_ Ev.rfl)))))
   rcases c1 with c1 | c1
   ·simp [c1]
   ·simp [c1]
  ·simp only [if_true,if_neg c1]
   have c2:x.InStep≠[]:=fun h=>c1 (.inl h)
   have c3:c.Parts.length≠5:=fun h=>c1 (.inr h)
   have c4:x.InStep.length≠0:=fun h=>c2 (List.length_eq_zero_iff.1 h)
   exact Ev.jn (Ev.iteF (by simpa using d1) (Ev.iteF (by simpa using d2) (Ev.iteF (by simpa using d3) (Ev.iteT (by simpa using d4) (Ev.iteF (by simp only [Bool.or_eq_false_iff,decide_eq_false_iff_not]; omega) (Ev.bindp (qaq (by omega)) (Ev.bindp (qaq (by omega)) (Ev.bindp (q27 (by omega)) Ev.rfl)))))))) (tail ⟨c.Brokers,c.Parts++[⟨x.InStep,x.InStep,-2,0,0⟩],c.Next⟩ c.Brokers rfl)
 simp only [if_true,if_neg d4]
 have d56:x.Kind=5∨x.Kind=6:=by rcases hk with h | h | h | h | h | h <;> omega
 cases hq:c.Parts[x.Part.toNat]? with
 | none =>
  have:=(qdu (c:=c) xp.1).1 hq
  dsimp only
  by_cases d5:x.Kind=5
  ·have ha:Ev (fun _=>wo c x) 1:=by
    unfold wo
    exact Ev.iteT (by simpa using this) Ev.rfl
   exact Ev.jn_ret (Ev.iteF (by simpa using d1) (Ev.iteF (by simpa using d2) (Ev.iteF (by simpa using d3) (Ev.iteF (by simpa using d4) (Ev.iteT (by simpa using d5) (Ev.bind ha (Ev.iteT (by decide) Ev.rfl)))))))
  ·have d6:x.Kind=6:=by omega
   exact Ev.jn_ret (Ev.iteF (by simpa using d1) (Ev.iteF (by simpa using d2) (Ev.iteF (by simpa using d3) (Ev.iteF (by simpa using d4) (Ev.iteF (by simpa using d5) (Ev.iteT (by simpa using d6) (Ev.iteT (by simpa using this) Ev.rfl)))))))
 | some p =>
  dsimp only
  have hlt:¬ (c.Parts.length:Int)≤x.Part:=fun h=>by rw [(qdu (c:=c) xp.1).2 h] at hq; cases hq
  have hgp:=qg8 xp.1 hq
  obtain ⟨hM,hG,he1,hs1⟩:=hpt p (List.mem_of_getElem? hq)
  have hpl:=yw hM.i1
  by_cases d5:x.Kind=5
  ·simp only [if_true,if_pos d5]
   have ha:=q48 hcc hxx hq
   have bad:∀ v:Int,v≠0→Ev (fun _=>wo c x) v→Ev (fun _=>if (decide (x.Kind=1))=true then (if (decide (c.Next=1000))=true then (some (.ret (c,4)) : Option (Oc (Control × (List Broker)) (Control × Int))) else ((z2 c.Brokers x.Broker).bind fun x35=>(some (.nxt ((Control.mk (List.set c.Brokers x.Broker.toNat (Broker.mk c.Next 9 false)) c.Parts (IntKind.wrap .i64 (c.Next+1))),(List.set c.Brokers x.Broker.toNat (Broker.mk c.Next 9 false))))))) else none) (.ret (c,v))→True:=fun _ _ _ _=>trivial
   by_cases c1:x.Epoch=p.Epoch
   case neg =>
    simp only [if_true,if_pos (show x.Epoch≠p.Epoch from c1)] at ha ⊢
    exact Ev.jn_ret (Ev.iteF (by simpa using d1) (Ev.iteF (by simpa using d2) (Ev.iteF (by simpa using d3) (Ev.iteF (by simpa using d4) (Ev.iteT (by simpa using d5) (Ev.bind ha (Ev.iteT (by decide) Ev.rfl)))))))
   simp only [if_true,if_neg (show ¬ (x.Epoch≠p.Epoch) from fun h=>h c1)] at ha ⊢
   by_cases c2:x.Broker=p.Leader
   case neg =>
    simp only [if_true,if_pos (show x.Broker≠p.Leader from c2)] at ha ⊢
    exact Ev.jn_ret (Ev.iteF (by simpa using d1) (Ev.iteF (by simpa using d2) (Ev.iteF (by simpa using d3) (Ev.iteF (by simpa using d4) (Ev.iteT (by simpa using d5) (Ev.bind ha (Ev.iteT (by decide) Ev.rfl)))))))
   simp only [if_true,if_neg (show ¬ (x.Broker≠p.Leader) from fun h=>h c2)] at ha ⊢
   by_cases c3:x.Stamp=p.Stamp
   case neg =>
    simp only [if_true,if_pos (show x.Stamp≠p.Stamp from c3)] at ha ⊢
    exact Ev.jn_ret (Ev.iteF (by simpa using d1) (Ev.iteF (by simpa using d2) (Ev.iteF (by simpa using d3) (Ev.iteF (by simpa using d4) (Ev.iteT (by simpa using d5) (Ev.bind ha (Ev.iteT (by decide) Ev.rfl)))))))
   simp only [if_true,if_neg (show ¬ (x.Stamp≠p.Stamp) from fun h=>h c3)] at ha ⊢
   by_cases c4:¬ (∀ k∈x.InStep,k∈p.Homes)∨¬ p.Leader∈x.InStep∨yh c.Brokers p x.InStep=true
   ·simp only [if_true,if_pos c4] at ha ⊢
    exact Ev.jn_ret (Ev.iteF (by simpa using d1) (Ev.iteF (by simpa using d2) (Ev.iteF (by simpa using d3) (Ev.iteF (by simpa using d4) (Ev.iteT (by simpa using d5) (Ev.bind ha (Ev.iteT (by decide) Ev.rfl)))))))
   ·simp only [if_true,if_neg c4] at ha ⊢
    have:=hM.s0
    refine Ev.jn (Ev.iteF (by simpa using d1) (Ev.iteF (by simpa using d2) (Ev.iteF (by simpa using d3) (Ev.iteF (by simpa using d4) (Ev.iteT (by simpa using d5) (Ev.bind ha (Ev.iteF (by decide) (Ev.bindp (qaq (by omega)) (Ev.bindp hgp Ev.rfl))))))))) ?_
    rw [y8 (n:=p.Stamp+1) (by omega) (by omega)]
    exact tail _ _ rfl
  ·simp only [if_true,if_neg d5]
   have d6:x.Kind=6:=by omega
   obtain ⟨g,eg,hgg⟩:=qd8 (l:=p.InStep) (v:=x.Broker) (by omega)
   by_cases c1:¬ x.Broker∈p.InStep∨(brk c.Brokers x.Broker).Fenced=true
   ·simp only [if_true,if_pos c1]
    refine Ev.jn_ret (Ev.iteF (by simpa using d1) (Ev.iteF (by simpa using d2) (Ev.iteF (by simpa using d3) (Ev.iteF (by simpa using d4) (Ev.iteF (by simpa using d5) (Ev.iteT (by simpa using d6) (Ev.iteF (by simpa using hlt) (Ev.bindp hgp (Ev.bind eg (Ev.bind (a:=true) ?_ (Ev.iteT rfl Ev.rfl)))))))))))
    cases g with
    | false=>exact Ev.iteT rfl Ev.rfl
    | true =>
     refine Ev.iteF rfl (Ev.bindp hg (Ev.of ?_))
     rcases c1 with c1 | c1
     ·exact absurd (hgg.1 rfl) c1
     ·rw [c1]
   ·simp only [if_true,if_neg c1]
    have c6:g=true:=hgg.2 (Classical.byContradiction fun h=>c1 (.inl h))
    have c7:(brk c.Brokers x.Broker).Fenced=false:=by
     cases hh:(brk c.Brokers x.Broker).Fenced
     ·rfl
     ·exact absurd (.inr hh) c1
    subst c6
    exact Ev.jn (Ev.iteF (by simpa using d1) (Ev.iteF (by simpa using d2) (Ev.iteF (by simpa using d3) (Ev.iteF (by simpa using d4) (Ev.iteF (by simpa using d5) (Ev.iteT (by simpa using d6) (Ev.iteF (by simpa using hlt) (Ev.bindp hgp (Ev.bind eg (Ev.bind (a:=false) (Ev.iteF rfl (Ev.bindp hg (Ev.of (by rw [c7])))) (Ev.iteF rfl Ev.rfl))))))))))) (tail _ _ rfl)

theorem q5i {c:Control}{i:Nat} : (c.Parts.map Partition.Leader)[i]? = c.Parts[i]?.map Partition.Leader:=List.getElem?_map ..
theorem qvf {B:List Broker}{w:Option Int}{p:Partition} : (⟨p.Homes,p.InStep,(kg B w p).Leader,(kg B w p).Epoch,(kg B w p).Stamp⟩ : Partition)=kg B w p:=by
 unfold kg
 split <;> rfl
structure Fit12 (n:Nat) (p:Partition) : Prop where
 i1:xq p.InStep n
 ld:p.Leader<0∨p.Leader∈p.InStep
 e:0≤p.Epoch∧p.Epoch≤1000
 s:0≤p.Stamp∧p.Stamp≤1001
theorem qnm {o:Control}{old:List Int}{i:Nat}{p:Partition}{s:List Partition}(hf:Fit12 o.Brokers.length p)(hn:o.Brokers.length≤6)(hs:s[i]? = some p)(hio:∀ z∈old,-1≤z)(hol:old.length≤1000) : Ev (fun _=>xl o old i s) (.nxt (s.set i (kg o.Brokers (old[i]?) p))):=by
 have hpl:=yw hf.i1
 have hr:=(wy.1 hf.i1).2
 have he:=hf.e
 have hst:=hf.s
 have hL:=qgg (B:=o.Brokers) hf.i1 hf.ld
 have hLr : -1≤jm o.Brokers p:=by rcases hL with ⟨a,_⟩ | ⟨a,_⟩ <;> omega
 unfold xl
 refine Ev.bindp (jc hs) (Ev.bind (a:=match old[i]? with | some z=>z | none => -2) ?_ ?_)
 ·cases ho:old[i]? with
  | none =>
   have:=List.getElem?_eq_none_iff.1 ho
   exact Ev.iteF (by simp only [decide_eq_false_iff_not]; omega) Ev.rfl
  | some z =>
   have:=(List.getElem?_eq_some_iff.1 ho).1
   exact Ev.iteT (by simp only [decide_eq_true_eq]; omega) (Ev.bindp (jc ho) Ev.rfl)
 ·unfold qdx
  refine Ev.bind (a:=decide (p.Leader<0)||(brk o.Brokers p.Leader).Fenced) ?_ (Ev.bind (a:=⟨p.Homes,p.InStep,jm o.Brokers p,p.Epoch,p.Stamp⟩) ?_ ?_)
  ·by_cases h0:p.Leader<0
   ·exact Ev.iteT (by simpa using h0) (Ev.of (by simp [h0]))
   ·have hm:=hr _ (hf.ld.resolve_left h0)
    exact Ev.iteF (by simpa using h0) (Ev.bindp (qal hm.1 hm.2) (Ev.of (by simp [h0])))
  ·unfold jm
   by_cases h:p.Leader<0∨(brk o.Brokers p.Leader).Fenced=true
   ·rw [if_pos h]
    exact Ev.iteT (by simpa using h) (Ev.bind (qiu (c:=⟨o.Brokers,s,o.Next⟩) (by omega) hr) Ev.rfl)
   ·rw [if_neg h]
    refine Ev.iteF ?_ Ev.rfl
    refine bF (P:=p.Leader<0∨(brk o.Brokers p.Leader).Fenced=true) (by simp only [Bool.or_eq_true,decide_eq_true_eq]) h
  ·unfold qd0
   dsimp only
   have hw:(jm o.Brokers p≠match old[i]? with | some z=>z | none => -2)↔¬ old[i]? = some (jm o.Brokers p):=by
    cases ho:old[i]? with
    | none=>simp; omega
    | some z=>simp; exact ⟨fun h e=>h e.symm,fun h e=>h e.symm⟩
   refine Ev.bind (a:=kg o.Brokers (old[i]?) p) ?_ ?_
   ·unfold kg
    by_cases h:old[i]? = some (jm o.Brokers p)
    ·rw [if_pos h]
     refine Ev.iteF ?_ Ev.rfl
     simp only [decide_eq_false_iff_not]
     exact fun hh=>hw.1 hh h
    ·rw [if_neg h]
     refine Ev.iteT (by simpa using hw.2 h) ?_
     by_cases h0:0≤jm o.Brokers p
     ·rw [if_pos h0]
      exact Ev.iteT (by simpa using h0) (Ev.of (by rw [y8 (n:=p.Epoch+1) (by omega) (by omega),y8 (n:=p.Stamp+1) (by omega) (by omega)]))
     ·rw [if_neg h0]
      exact Ev.iteF (by simpa using h0) (Ev.of (by rw [y8 (n:=p.Stamp+1) (by omega) (by omega)]))
   ·unfold qd1
    rw [qvf]
    exact Ev.rfl
theorem qoy {B:List Broker}{c:Control}{l:List Partition} : l.mapIdx (fun i p=>kg B ((c.Parts.map Partition.Leader)[i]?) p)=ya B c.Parts l:=by
 unfold ya
 apply List.ext_getElem?
 intro i
 rw [List.getElem?_mapIdx,List.getElem?_mapIdx,q5i]
theorem q5t {c:Control}{B:List Broker}{l:List Partition}{n:Int}(hB:B.length≤6)(hl:l.length≤1000)(hcl:c.Parts.length≤1000)(hf:∀ p∈l,Fit12 B.length p)(hio:∀ p∈c.Parts,-1≤p.Leader) : Ev (fun _=>qb8 ⟨B,l,n⟩ (c.Parts.map Partition.Leader)) (⟨B,ya B c.Parts l,n⟩,c.Parts.map Partition.Leader):=by
 unfold qb8
 have:=qg3 (B:=fun i s=>xl ⟨B,l,n⟩ (c.Parts.map Partition.Leader) i s) (l:=l) (f:=fun i p=>kg B ((c.Parts.map Partition.Leader)[i]?) p) (by omega) (fun i p s hx hs hlen=>qnm (o:=⟨B,l,n⟩) (hf p (List.mem_of_getElem? hx)) hB hs (fun z hz=>by
  rw [List.mem_map] at hz
  obtain ⟨q,hq,rfl⟩:=hz
  exact hio q hq) (by simpa using hcl))
 rw [qoy] at this
 exact Ev.jn this Ev.rfl
theorem qj5 {c:Control}{x:Command}{B:List Broker}(hx:u4 c.Brokers.length x)(h:(j0 c x).1=0) : ya B c.Parts (qew c x)=ya B c.Parts (j0 c x).2.Parts:=by
 unfold qew
 by_cases d4:x.Kind=4
 ·rw [if_pos d4]
  have:(j0 c x).2.Parts=c.Parts++[⟨x.InStep,x.InStep,-1,0,0⟩]:=by
   unfold j0 at h ⊢
   rw [if_neg (by omega),if_neg (by omega),if_neg (by omega),if_pos d4] at h ⊢
   split at h
   ·cases h
   ·rename_i c1
    rw [if_neg c1]
  rw [this]
  unfold ya
  rw [List.mapIdx_append,List.mapIdx_append]
  rfl
 ·rw [if_neg d4]
theorem qkj {n:Nat}{o:Control}(h:Mid n o) : ∀ p∈o.Parts,Fit12 n p:=fun p hp=>by
 obtain ⟨a,b,d,e⟩:=h.part p hp
 exact ⟨a.i1,b,⟨a.e0,d⟩,⟨a.s0,e.1⟩⟩
theorem qvk {c:Control}(hc:qby c) : ∀ p∈c.Parts,-1≤p.Leader:=fun p hp=>by
 obtain ⟨a,b,_⟩:=hc.2.2 p hp
 rcases b with ⟨b,_⟩ | ⟨_,b,_⟩
 ·omega
 ·have:=(wy.1 a.i1).2 _ b
  omega
theorem qu7 {c:Control}(hn:c.Parts.length≤1000) : Ev (fun _=>ju (fun i51 x52 s100=>wm i51 x52 s100) c.Parts ([] : List Int)) (.nxt (c.Parts.map Partition.Leader)):=by
 refine qdc (B:=fun _ i x s=>wm i x s) (by omega) (fun i q s=>c.Parts.drop i=q∧s=(c.Parts.take i).map Partition.Leader) ⟨rfl,by simp⟩ (fun i x q s ⟨hq,hs⟩ => .inl ?_) (fun i s ⟨hq,hs⟩=>?_)
 ·have hx:c.Parts[i]? = some x:=by have:=congrArg (fun z=>z[0]?) hq; simpa using this
  refine ⟨(c.Parts.take (i+1)).map Partition.Leader,?_,by have:=congrArg (List.drop 1) hq; simpa [List.drop_drop] using this,rfl⟩
  unfold wm
  refine Ev.bindp (a:=s++[x.Leader]) ?_ (Ev.of ?_)
  ·unfold yi
   rw [if_pos (by rw [hs]; simp; omega)]
  ·rw [hs,List.take_add_one,hx,List.map_append]
   rfl
 ·have hi:c.Parts.length≤i:=by have:=congrArg List.length hq; simp at this; omega
  rw [hs,List.take_of_length_le hi]
theorem q6r {c o:Control}{n:Nat}(h:Mid n o) : (yj c o).nn≤1048576:=by
 have h1:(yj c o).nn=(yj c o).Brokers.length+(nnL Partition.nn (yj c o).Parts+0):=rfl
 have h2:nnL Partition.nn (yj c o).Parts=(yj c o).Parts.length+zy Partition.nn (yj c o).Parts:=rfl
 have hl:=h.out (c:=c)
 have h5:zy Partition.nn (yj c o).Parts≤(yj c o).Parts.length*12:=qlt (fun x hx=>by
  obtain ⟨i,hi⟩:=List.getElem?_of_mem hx
  unfold yj ya at hi
  rw [List.getElem?_mapIdx] at hi
  cases hq:o.Parts[i]? with
  | none=>rw [hq] at hi; cases hi
  | some q =>
   rw [hq] at hi
   simp only [Option.map_some,Option.some.injEq] at hi
   subst hi
   obtain ⟨a,_⟩:=h.part q (List.mem_of_getElem? hq)
   obtain ⟨p1,p2,_⟩:=qhe (B:=o.Brokers) (w:=c.Parts[i]?.map Partition.Leader) (p:=q)
   have b1:=yw a.h1
   have b2:=yw a.i1
   have:=h.n2
   have h6:(kg o.Brokers (c.Parts[i]?.map Partition.Leader) q).nn=(kg o.Brokers (c.Parts[i]?.map Partition.Leader) q).Homes.length+((kg o.Brokers (c.Parts[i]?.map Partition.Leader) q).InStep.length+0):=rfl
   rw [p1,p2] at h6
   omega)
 have h6:(yj c o).Parts.length*12≤5*12:=Nat.mul_le_mul_right _ (by rw [hl.2]; exact h.parts)
 have h7:(yj c o).Brokers.length=n:=h.len
 have:=h.n2
 have:=h.parts
 have:=hl.2
 omega
theorem q5n {c:Control}{x:Command}(hc:qby c)(hx:u4 c.Brokers.length x) : Ev (fun _=>ky c x) ((qef c x).1,(qef c x).2,true):=by
 have hnn:=hc.nn
 have hp:=hc.1.2.1
 obtain ⟨g,eg,hg⟩:=qmi hnn
 have hil:=yw hx.2.2.2.2.1
 have h6:=hc.1.1.2
 obtain ⟨d,ed,hd⟩:=q3h (c:=c) (x:=x) hc.1.1 (by omega)
 have hg':=hg.2 hc
 have hd':=hd.2 hx
 subst hg' hd'
 unfold ky
 refine Ev.bind eg (Ev.bind (a:=false) (Ev.iteF rfl (Ev.bind ed Ev.rfl)) (Ev.iteF rfl (Ev.jn (qu7 (by omega)) ?_)))
 unfold qcs
 have hdo:=q9a hc hx
 refine Ev.bind (qlo hnn) ?_
 by_cases h0:(j0 c x).1=0
 ·have hm:=qig hc hx h0
  rw [if_pos h0] at hdo
  refine Ev.bind hdo ?_
  have hfitS:∀ p∈qew c x,Fit12 (j0 c x).2.Brokers.length p:=by
   intro p hpp
   rw [hm.len]
   unfold qew at hpp
   split at hpp
   ·rename_i d4
    have he:(j0 c x).2.Parts=c.Parts++[⟨x.InStep,x.InStep,-1,0,0⟩]:=by
     have h0':=h0
     unfold j0 at h0' ⊢
     rw [if_neg (by omega),if_neg (by omega),if_neg (by omega),if_pos d4] at h0' ⊢
     split at h0'
     ·cases h0'
     ·rename_i c1
      rw [if_neg c1]
    rcases List.mem_append.1 hpp with hpp | hpp
    ·exact qkj hm p (by rw [he]; exact List.mem_append_left _ hpp)
    ·simp only [List.mem_singleton] at hpp
     subst hpp
     exact ⟨hx.2.2.2.2.1,.inl (by simp),by simp,by simp⟩
   ·exact qkj hm p hpp
  have hlenS:(qew c x).length≤5:=by
   have e1:=congrArg List.length (qj5 (B:=[]) hx h0)
   unfold ya at e1
   simp only [List.length_mapIdx] at e1
   have:=hm.parts
   omega
  have hls:=q5t (c:=c) (B:=(j0 c x).2.Brokers) (l:=qew c x) (n:=(j0 c x).2.Next) (by rw [hm.len]; exact h6) (by omega) (by omega) hfitS (qvk hc)
  rw [qj5 hx h0] at hls
  have hout:(⟨(j0 c x).2.Brokers,ya (j0 c x).2.Brokers c.Parts (j0 c x).2.Parts,(j0 c x).2.Next⟩ : Control)=yj c (j0 c x).2:=rfl
  rw [hout] at hls
  have honn:=q6r (c:=c) hm
  obtain ⟨b,eb,hb⟩:=qmi honn
  have hiff:=hb.trans (hm.out (c:=c)).1
  unfold qef
  rw [if_neg (show ¬ ((j0 c x).1≠0) from fun h=>h h0)]
  cases b with
  | true =>
   rw [if_pos (show qc1 (yj c (j0 c x).2)=true from hiff.1 rfl)]
   refine Ev.bind (Ev.iteT rfl (Ev.bind hls (Ev.bind eb (Ev.iteF rfl Ev.rfl)))) ?_
   unfold xw
   exact Ev.iteF rfl (Ev.bind (qlo honn) Ev.rfl)
  | false =>
   rw [if_neg (show ¬ qc1 (yj c (j0 c x).2)=true from fun h=>by have:=hiff.2 h; cases this)]
   refine Ev.bind (Ev.iteT rfl (Ev.bind hls (Ev.bind eb (Ev.iteT rfl Ev.rfl)))) ?_
   unfold xw
   exact Ev.iteT rfl (Ev.bind (qlo hnn) Ev.rfl)
 ·rw [if_neg h0] at hdo
  refine Ev.bind hdo ?_
  unfold qef
  rw [if_pos (show (j0 c x).1≠0 from h0)]
  refine Ev.bind (Ev.iteF (by simpa using h0) Ev.rfl) ?_
  unfold xw
  exact Ev.iteT (by simpa using h0) (Ev.bind (qlo hnn) Ev.rfl)
end Go.Proofs.Ytjloihcijdcpeaa.X
