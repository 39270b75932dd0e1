/- A command: one answer. -/
import Derived.Test.YtjloihcijdcpeaaXEL12s
open Classical renaming byContradiction→r7
open Go.Proofs.Ytjloihcijdcpeaa.X.Ev renaming bindp→n8,bind→g9,iteF→g8,iteT→m9,jn_ret→a07,jn→a2a,of→a19,rfl→l8
open List renaming ext_getElem?→a1h,getElem?_eq_some_iff→d9,getElem?_mapIdx→a0x,getElem?_of_mem→a0i,length→b6,mem_of_getElem?→i8
set_option linter.unusedVariables false
set_option linter.unusedSimpArgs false
namespace Go.Proofs.Ytjloihcijdcpeaa.X
open Go

def qf3 (c:Control)(x:Command) : List Partition:=if x.Kind=4 then c.Parts++[⟨x.InStep,x.InStep,-2,0,0⟩] else (jh c x).2.Parts
theorem q7s {c:Control}{x:Command}{p:Partition}(hc:ya c)(hx:ww c.Brokers.length x)(hq:c.Parts[x.Part.toNat]? = some p) : Ev (fun _=>uk c x) (if x.Epoch≠p.Epoch then 2 else if x.Broker≠p.Leader then 3 else if x.Stamp≠p.Stamp then 2 else if ¬ (∀ k∈x.InStep,k∈p.Homes)∨¬ p.Leader∈x.InStep∨wo c.Brokers p x.InStep=true then 4 else 0):=by
 obtain ⟨⟨⟨n1,n2⟩,hp,nx1,nx2⟩,hb,hpt⟩:=hc
 obtain ⟨xb,xe,xp,xs,xi,hk⟩:=hx
 have hil:=wg xi
 have hlt:¬ (c.Parts.length:Int)≤x.Part:=fun h=>by rw [(qem (c:=c) xp.1).2 h] at hq; cases hq
 have hgp:=qeq xp.1 hq
 obtain ⟨hM,hG,he1,hs1⟩:=hpt p (i8 hq)
 have hpl:=wg hM.i1
 have hhl:=wg hM.h1
 unfold uk
 refine g8 (by simpa using hlt) (n8 hgp ?_)
 by_cases c1:x.Epoch=p.Epoch
 case neg=>rw [if_pos c1]; exact m9 (by simpa using c1) l8
 refine g8 (by simpa using c1) ?_
 rw [if_neg (show ¬ (x.Epoch≠p.Epoch) from fun h=>h c1)]
 by_cases c2:x.Broker=p.Leader
 case neg=>rw [if_pos c2]; exact m9 (by simpa using c2) l8
 refine g8 (by simpa using c2) ?_
 rw [if_neg (show ¬ (x.Broker≠p.Leader) from fun h=>h c2)]
 by_cases c3:x.Stamp=p.Stamp
 case neg=>rw [if_pos c3]; exact m9 (by simpa using c3) l8
 refine g8 (by simpa using c3) ?_
 rw [if_neg (show ¬ (x.Stamp≠p.Stamp) from fun h=>h c3)]
 obtain ⟨a,ea,ha⟩:=qnn (a:=p.Homes) (b:=x.InStep) (by omega) (by omega)
 obtain ⟨g,eg,hgg⟩:=qfg (l:=x.InStep) (v:=p.Leader) (by omega)
 refine g9 ea ?_
 cases a with
 | false =>
  have:¬ (∀ k∈x.InStep,k∈p.Homes):=fun h=>by have:=ha.2 h; cases this
  rw [show (if ¬ (∀ k∈x.InStep,k∈p.Homes)∨¬ p.Leader∈x.InStep∨wo c.Brokers p x.InStep=true then (4:Int) else 0)=4 from if_pos (.inl this)]
  exact g9 (a:=true) (m9 rfl l8) (m9 rfl l8)
 | true =>
  have ha:=ha.1 rfl
  cases g with
  | false =>
   have:¬ p.Leader∈x.InStep:=fun h=>by have:=hgg.2 h; cases this
   rw [show (if ¬ (∀ k∈x.InStep,k∈p.Homes)∨¬ p.Leader∈x.InStep∨wo c.Brokers p x.InStep=true then (4:Int) else 0)=4 from if_pos (.inr (.inl this))]
   exact g9 (a:=true) (g8 rfl (g9 eg l8)) (m9 rfl l8)
  | true =>
   have hg:=hgg.1 rfl
   refine g9 (a:=false) (g8 rfl (g9 eg l8)) (g8 rfl ?_)
   rcases qd1 (B:=fun _ i k _=>qa5 c p i k) (Q:=fun _ k=>((brk c.Brokers k).Fenced && !decide (k∈p.InStep))=true) (f:=fun _=>(4:Int)) (l:=x.InStep) (by omega) (fun i k hk=>by
     have hr:=(uu.1 xi).2 k (i8 hk)
     unfold qa5
     obtain ⟨g,e,hgg⟩:=qfg (l:=p.InStep) (v:=k) (by omega)
     cases hf:(brk c.Brokers k).Fenced with
     | false=>exact ⟨false,n8 (qb4 hr.1 hr.2) (g9 (a:=false) (g8 (by rw [hf]) l8) (g8 rfl l8)),by simp⟩
     | true =>
      refine ⟨!g,n8 (qb4 hr.1 hr.2) (g9 (a := !g) (m9 (by rw [hf]) (g9 e l8)) ?_),?_⟩
      ·cases g with
       | true=>exact g8 rfl l8
       | false=>exact m9 rfl l8
      ·cases g with
       | true=>simp [hgg.1 rfl]
       | false =>
        have:¬ k∈p.InStep:=fun h=>by have:=hgg.2 h; cases this
        simp [this]) with ⟨i,k,h1,h2,h3,h4⟩ | ⟨h1,h2⟩
   ·have:wo c.Brokers p x.InStep=true:=by
     unfold wo
     rw [List.any_eq_true]
     exact ⟨k,i8 h1,h2⟩
    rw [show (if ¬ (∀ k∈x.InStep,k∈p.Homes)∨¬ p.Leader∈x.InStep∨wo c.Brokers p x.InStep=true then (4:Int) else 0)=4 from if_pos (.inr (.inr this))]
    exact a07 h4
   ·have:wo c.Brokers p x.InStep=false:=by
     unfold wo
     rw [List.any_eq_false]
     intro k hk hb
     obtain ⟨i,hi⟩:=a0i hk
     exact h1 i k hi hb
    have hno:¬ (¬ (∀ k∈x.InStep,k∈p.Homes)∨¬ p.Leader∈x.InStep∨wo c.Brokers p x.InStep=true):=by
     rw [this]
     rintro (h | h | h)
     ·exact h ha
     ·exact h hg
     ·cases h
    rw [if_neg hno]
    exact a2a h2 l8
theorem zck {c:Control}{x:Command}(hc:ya c)(hx:ww c.Brokers.length x) : Ev (fun _=>qe3 c x) (if (jh c x).1=0 then (⟨(jh c x).2.Brokers,qf3 c x,(jh c x).2.Next⟩,0) else (c,(jh c x).1)):=by
 have hcc:=hc
 have hxx:=hx
 obtain ⟨⟨⟨n1,n2⟩,hp,nx1,nx2⟩,hb,hpt⟩:=hc
 obtain ⟨xb,xe,xp,xs,xi,hk⟩:=hx
 have hg:=qb4 xb.1 xb.2
 have hil:=wg xi
 have tail:∀ (o:Control) (B:List Broker),B.length=c.Brokers.length→Ev (fun _=>qd7 o B) (⟨jy B,o.Parts,o.Next⟩,0):=by
  intro o B hB
  unfold qd7
  exact a2a (qi1 (B:=fun i s=>qd5 i s) (l:=B) (by omega) (fun i s=>rfl)) l8
 unfold qe3 qf3 jh
 by_cases d1:x.Kind=1
 ·simp only [if_neg (show ¬ x.Kind=4 by omega)]
  simp only [if_true,if_pos d1]
  by_cases c1:c.Next=1000
  ·simp only [if_true,if_pos c1]
   exact a07 (m9 (by simpa using d1) (m9 (by simpa using c1) l8))
  ·simp only [if_true,if_neg c1]
   refine a2a (m9 (by simpa using d1) (g8 (by simpa using c1) (n8 hg l8))) ?_
   rw [kr (n:=c.Next+1) (by omega) (by omega)]
   exact tail ⟨c.Brokers.set x.Broker.toNat ⟨c.Next,9,false⟩,c.Parts,c.Next+1⟩ (c.Brokers.set x.Broker.toNat ⟨c.Next,9,false⟩) (by simp)
 simp only [if_true,if_neg d1]
 by_cases d2:x.Kind=2
 ·simp only [if_neg (show ¬ x.Kind=4 by omega)]
  simp only [if_true,if_pos d2]
  by_cases c1:(brk c.Brokers x.Broker).Epoch=0
  ·simp only [if_true,if_pos c1]
   exact a07 (g8 (by simpa using d1) (m9 (by simpa using d2) (n8 hg (m9 (by simpa using c1) l8))))
  simp only [if_true,if_neg c1]
  by_cases c2:(brk c.Brokers x.Broker).Epoch=x.Epoch
  ·simp only [if_true,if_neg (show ¬ ((brk c.Brokers x.Broker).Epoch≠x.Epoch) from fun h=>h c2)]
   exact a2a (g8 (by simpa using d1) (m9 (by simpa using d2) (n8 hg (g8 (by simpa using c1) (g8 (by simpa using c2) l8))))) (tail ⟨c.Brokers.set x.Broker.toNat ⟨(brk c.Brokers x.Broker).Epoch,9,(brk c.Brokers x.Broker).Fenced⟩,c.Parts,c.Next⟩ (c.Brokers.set x.Broker.toNat ⟨(brk c.Brokers x.Broker).Epoch,9,(brk c.Brokers x.Broker).Fenced⟩) (by simp))
  ·simp only [if_true,if_pos (show (brk c.Brokers x.Broker).Epoch≠x.Epoch from c2)]
   exact a07 (g8 (by simpa using d1) (m9 (by simpa using d2) (n8 hg (g8 (by simpa using c1) (m9 (by simpa using c2) l8)))))
 simp only [if_true,if_neg d2]
 by_cases d3:x.Kind=3
 ·simp only [if_neg (show ¬ x.Kind=4 by omega)]
  simp only [if_true,if_pos d3]
  have hl:=qik (B:=fun i s=>qct i s) (l:=c.Brokers) (f:=fun _ b=>⟨b.Epoch,if 0<b.Left then b.Left - 1 else b.Left,b.Fenced⟩) (by omega) (fun i b s hx hs hlen=>by
   have hbb:=hb b (i8 hx)
   have h1:=hbb.2.2.1
   have h2:=hbb.2.2.2.1
   unfold qct
   refine n8 (kz hs) ?_
   by_cases h0:0<b.Left
   ·refine m9 (by simpa using h0) (a19 ?_)
    rw [kr (n:=b.Left - 1) (by omega) (by omega),if_pos h0]
    rfl
   ·refine g8 (by simpa using h0) (a19 ?_)
    rw [if_neg h0]
    congr 2
    apply a1h
    intro j
    by_cases hj:i=j
    ·subst hj
     rw [hs,List.getElem?_set_self (d9.1 hs).1]
    ·rw [List.getElem?_set_ne hj])
  rw [qih] at hl
  exact a2a (g8 (by simpa using d1) (g8 (by simpa using d2) (m9 (by simpa using d3) (a2a hl l8)))) (tail ⟨(List.map (fun (b:Broker)=>(⟨b.Epoch,if 0<b.Left then b.Left - 1 else b.Left,b.Fenced⟩ : Broker)) c.Brokers),c.Parts,c.Next⟩ (List.map (fun (b:Broker)=>(⟨b.Epoch,if 0<b.Left then b.Left - 1 else b.Left,b.Fenced⟩ : Broker)) c.Brokers) (by simp))
 simp only [if_true,if_neg d3]
 by_cases d4:x.Kind=4
 ·simp only [if_true,if_pos d4]
  by_cases c1:x.InStep=[]∨c.Parts.length=5
  ·simp only [if_true,if_pos c1]
   refine a07 (g8 (by simpa using d1) (g8 (by simpa using d2) (g8 (by simpa using d3) (m9 (by simpa using d4) (m9 ?_ l8)))))
   rcases c1 with c1 | c1
   ·simp [c1]
   ·simp [c1]
  ·simp only [if_true,if_neg c1]
   have c2:x.InStep≠[]:=fun h=>c1 (.inl h)
   have c3:c.Parts.length≠5:=fun h=>c1 (.inr h)
   have c4:x.InStep.length≠0:=fun h=>c2 (List.length_eq_zero_iff.1 h)
   exact a2a (g8 (by simpa using d1) (g8 (by simpa using d2) (g8 (by simpa using d3) (m9 (by simpa using d4) (g8 (by simp only [Bool.or_eq_false_iff,decide_eq_false_iff_not]; omega) (n8 (qb6 (by omega)) (n8 (qb6 (by omega)) (n8 (q6l (by omega)) l8)))))))) (tail ⟨c.Brokers,c.Parts++[⟨x.InStep,x.InStep,-2,0,0⟩],c.Next⟩ c.Brokers rfl)
 simp only [if_true,if_neg d4]
 have d56:x.Kind=5∨x.Kind=6:=by rcases hk with h | h | h | h | h | h <;> omega
 cases hq:c.Parts[x.Part.toNat]? with
 | none =>
  have:=(qem (c:=c) xp.1).1 hq
  dsimp only
  by_cases d5:x.Kind=5
  ·have ha:Ev (fun _=>uk c x) 1:=by
    unfold uk
    exact m9 (by simpa using this) l8
   exact a07 (g8 (by simpa using d1) (g8 (by simpa using d2) (g8 (by simpa using d3) (g8 (by simpa using d4) (m9 (by simpa using d5) (g9 ha (m9 (by decide) l8)))))))
  ·have d6:x.Kind=6:=by omega
   exact a07 (g8 (by simpa using d1) (g8 (by simpa using d2) (g8 (by simpa using d3) (g8 (by simpa using d4) (g8 (by simpa using d5) (m9 (by simpa using d6) (m9 (by simpa using this) l8)))))))
 | some p =>
  dsimp only
  have hlt:¬ (c.Parts.length:Int)≤x.Part:=fun h=>by rw [(qem (c:=c) xp.1).2 h] at hq; cases hq
  have hgp:=qeq xp.1 hq
  obtain ⟨hM,hG,he1,hs1⟩:=hpt p (i8 hq)
  have hpl:=wg hM.i1
  by_cases d5:x.Kind=5
  ·simp only [if_true,if_pos d5]
   have ha:=q7s hcc hxx hq
   have bad:∀ v:Int,v≠0→Ev (fun _=>uk c x) v→Ev (fun _=>if (decide (x.Kind=1))=true then (if (decide (c.Next=1000))=true then (some (.ret (c,4)) : Option (Oc (Control × (List Broker)) (Control × Int))) else ((jb c.Brokers x.Broker).bind fun x35=>(some (.nxt ((Control.mk (List.set c.Brokers x.Broker.toNat (Broker.mk c.Next 9 false)) c.Parts (IntKind.wrap .i64 (c.Next+1))),(List.set c.Brokers x.Broker.toNat (Broker.mk c.Next 9 false))))))) else none) (.ret (c,v))→True:=fun _ _ _ _=>trivial
   by_cases c1:x.Epoch=p.Epoch
   case neg =>
    simp only [if_true,if_pos (show x.Epoch≠p.Epoch from c1)] at ha ⊢
    exact a07 (g8 (by simpa using d1) (g8 (by simpa using d2) (g8 (by simpa using d3) (g8 (by simpa using d4) (m9 (by simpa using d5) (g9 ha (m9 (by decide) l8)))))))
   simp only [if_true,if_neg (show ¬ (x.Epoch≠p.Epoch) from fun h=>h c1)] at ha ⊢
   by_cases c2:x.Broker=p.Leader
   case neg =>
    simp only [if_true,if_pos (show x.Broker≠p.Leader from c2)] at ha ⊢
    exact a07 (g8 (by simpa using d1) (g8 (by simpa using d2) (g8 (by simpa using d3) (g8 (by simpa using d4) (m9 (by simpa using d5) (g9 ha (m9 (by decide) l8)))))))
   simp only [if_true,if_neg (show ¬ (x.Broker≠p.Leader) from fun h=>h c2)] at ha ⊢
   by_cases c3:x.Stamp=p.Stamp
   case neg =>
    simp only [if_true,if_pos (show x.Stamp≠p.Stamp from c3)] at ha ⊢
    exact a07 (g8 (by simpa using d1) (g8 (by simpa using d2) (g8 (by simpa using d3) (g8 (by simpa using d4) (m9 (by simpa using d5) (g9 ha (m9 (by decide) l8)))))))
   simp only [if_true,if_neg (show ¬ (x.Stamp≠p.Stamp) from fun h=>h c3)] at ha ⊢
   by_cases c4:¬ (∀ k∈x.InStep,k∈p.Homes)∨¬ p.Leader∈x.InStep∨wo c.Brokers p x.InStep=true
   ·simp only [if_true,if_pos c4] at ha ⊢
    exact a07 (g8 (by simpa using d1) (g8 (by simpa using d2) (g8 (by simpa using d3) (g8 (by simpa using d4) (m9 (by simpa using d5) (g9 ha (m9 (by decide) l8)))))))
   ·simp only [if_true,if_neg c4] at ha ⊢
    have:=hM.s0
    refine a2a (g8 (by simpa using d1) (g8 (by simpa using d2) (g8 (by simpa using d3) (g8 (by simpa using d4) (m9 (by simpa using d5) (g9 ha (g8 (by decide) (n8 (qb6 (by omega)) (n8 hgp l8))))))))) ?_
    rw [kr (n:=p.Stamp+1) (by omega) (by omega)]
    exact tail _ _ rfl
  ·simp only [if_true,if_neg d5]
   have d6:x.Kind=6:=by omega
   obtain ⟨g,eg,hgg⟩:=qfg (l:=p.InStep) (v:=x.Broker) (by omega)
   by_cases c1:¬ x.Broker∈p.InStep∨(brk c.Brokers x.Broker).Fenced=true
   ·simp only [if_true,if_pos c1]
    refine a07 (g8 (by simpa using d1) (g8 (by simpa using d2) (g8 (by simpa using d3) (g8 (by simpa using d4) (g8 (by simpa using d5) (m9 (by simpa using d6) (g8 (by simpa using hlt) (n8 hgp (g9 eg (g9 (a:=true) ?_ (m9 rfl l8)))))))))))
    cases g with
    | false=>exact m9 rfl l8
    | true =>
     refine g8 rfl (n8 hg (a19 ?_))
     rcases c1 with c1 | c1
     ·exact absurd (hgg.1 rfl) c1
     ·rw [c1]
   ·simp only [if_true,if_neg c1]
    have c6:g=true:=hgg.2 (r7 fun h=>c1 (.inl h))
    have c7:(brk c.Brokers x.Broker).Fenced=false:=by
     cases hh:(brk c.Brokers x.Broker).Fenced
     ·rfl
     ·exact absurd (.inr hh) c1
    subst c6
    exact a2a (g8 (by simpa using d1) (g8 (by simpa using d2) (g8 (by simpa using d3) (g8 (by simpa using d4) (g8 (by simpa using d5) (m9 (by simpa using d6) (g8 (by simpa using hlt) (n8 hgp (g9 eg (g9 (a:=false) (g8 rfl (n8 hg (a19 (by rw [c7])))) (g8 rfl l8))))))))))) (tail _ _ rfl)

theorem q8d {c:Control}{i:Nat} : (c.Parts.map Partition.Leader)[i]? = c.Parts[i]?.map Partition.Leader:=List.getElem?_map ..
theorem qxq {B:List Broker}{w:Option Int}{p:Partition} : (⟨p.Homes,p.InStep,(ky B w p).Leader,(ky B w p).Epoch,(ky B w p).Stamp⟩ : Partition)=ky B w p:=by
 unfold ky
 split <;> rfl
structure Fit12 (n:Nat) (p:Partition) : Prop where
 i1:qak p.InStep n
 ld:p.Leader<0∨p.Leader∈p.InStep
 e:0≤p.Epoch∧p.Epoch≤1000
 s:0≤p.Stamp∧p.Stamp≤1001
theorem qoh {o:Control}{old:List Int}{i:Nat}{p:Partition}{s:List Partition}(hf:Fit12 o.Brokers.length p)(hn:o.Brokers.length≤6)(hs:s[i]? = some p)(hio:∀ z∈old,-1≤z)(hol:old.length≤1000) : Ev (fun _=>qag o old i s) (.nxt (s.set i (ky o.Brokers (old[i]?) p))):=by
 have hpl:=wg hf.i1
 have hr:=(uu.1 hf.i1).2
 have he:=hf.e
 have hst:=hf.s
 have hL:=qht (B:=o.Brokers) hf.i1 hf.ld
 have hLr : -1≤jx o.Brokers p:=by rcases hL with ⟨a,_⟩ | ⟨a,_⟩ <;> omega
 unfold qag
 refine n8 (kz hs) (g9 (a:=match old[i]? with | some z=>z | none => -2) ?_ ?_)
 ·cases ho:old[i]? with
  | none =>
   have:=List.getElem?_eq_none_iff.1 ho
   exact g8 (by simp only [decide_eq_false_iff_not]; omega) l8
  | some z =>
   have:=(d9.1 ho).1
   exact m9 (by simp only [decide_eq_true_eq]; omega) (n8 (kz ho) l8)
 ·unfold qex
  refine g9 (a:=decide (p.Leader<0)||(brk o.Brokers p.Leader).Fenced) ?_ (g9 (a:=⟨p.Homes,p.InStep,jx o.Brokers p,p.Epoch,p.Stamp⟩) ?_ ?_)
  ·by_cases h0:p.Leader<0
   ·exact m9 (by simpa using h0) (a19 (by simp [h0]))
   ·have hm:=hr _ (hf.ld.resolve_left h0)
    exact g8 (by simpa using h0) (n8 (qb4 hm.1 hm.2) (a19 (by simp [h0])))
  ·unfold jx
   by_cases h:p.Leader<0∨(brk o.Brokers p.Leader).Fenced=true
   ·rw [if_pos h]
    exact m9 (by simpa using h) (g9 (qjg (c:=⟨o.Brokers,s,o.Next⟩) (by omega) hr) l8)
   ·rw [if_neg h]
    refine g8 ?_ l8
    refine bF (P:=p.Leader<0∨(brk o.Brokers p.Leader).Fenced=true) (by simp only [Bool.or_eq_true,decide_eq_true_eq]) h
  ·unfold qet
   dsimp only
   have hw:(jx o.Brokers p≠match old[i]? with | some z=>z | none => -2)↔¬ old[i]? = some (jx o.Brokers p):=by
    cases ho:old[i]? with
    | none=>simp; omega
    | some z=>simp; exact ⟨fun h e=>h e.symm,fun h e=>h e.symm⟩
   refine g9 (a:=ky o.Brokers (old[i]?) p) ?_ ?_
   ·unfold ky
    by_cases h:old[i]? = some (jx o.Brokers p)
    ·rw [if_pos h]
     refine g8 ?_ l8
     simp only [decide_eq_false_iff_not]
     exact fun hh=>hw.1 hh h
    ·rw [if_neg h]
     refine m9 (by simpa using hw.2 h) ?_
     by_cases h0:0≤jx o.Brokers p
     ·rw [if_pos h0]
      exact m9 (by simpa using h0) (a19 (by rw [kr (n:=p.Epoch+1) (by omega) (by omega),kr (n:=p.Stamp+1) (by omega) (by omega)]))
     ·rw [if_neg h0]
      exact g8 (by simpa using h0) (a19 (by rw [kr (n:=p.Stamp+1) (by omega) (by omega)]))
   ·unfold qe2
    rw [qxq]
    exact l8
theorem qpv {B:List Broker}{c:Control}{l:List Partition} : l.mapIdx (fun i p=>ky B ((c.Parts.map Partition.Leader)[i]?) p)=yc B c.Parts l:=by
 unfold yc
 apply a1h
 intro i
 rw [a0x,a0x,q8d]
theorem zaf {c:Control}{B:List Broker}{l:List Partition}{n:Int}(hB:B.length≤6)(hl:l.length≤1000)(hcl:c.Parts.length≤1000)(hf:∀ p∈l,Fit12 B.length p)(hio:∀ p∈c.Parts,-1≤p.Leader) : Ev (fun _=>qc6 ⟨B,l,n⟩ (c.Parts.map Partition.Leader)) (⟨B,yc B c.Parts l,n⟩,c.Parts.map Partition.Leader):=by
 unfold qc6
 have:=qik (B:=fun i s=>qag ⟨B,l,n⟩ (c.Parts.map Partition.Leader) i s) (l:=l) (f:=fun i p=>ky B ((c.Parts.map Partition.Leader)[i]?) p) (by omega) (fun i p s hx hs hlen=>qoh (o:=⟨B,l,n⟩) (hf p (i8 hx)) hB hs (fun z hz=>by
  rw [List.mem_map] at hz
  obtain ⟨q,hq,rfl⟩:=hz
  exact hio q hq) (by simpa using hcl))
 rw [qpv] at this
 exact a2a this l8
theorem qkg {c:Control}{x:Command}{B:List Broker}(hx:ww c.Brokers.length x)(h:(jh c x).1=0) : yc B c.Parts (qf3 c x)=yc B c.Parts (jh c x).2.Parts:=by
 unfold qf3
 by_cases d4:x.Kind=4
 ·rw [if_pos d4]
  have:(jh c x).2.Parts=c.Parts++[⟨x.InStep,x.InStep,-1,0,0⟩]:=by
   unfold jh at h ⊢
   rw [if_neg (by omega),if_neg (by omega),if_neg (by omega),if_pos d4] at h ⊢
   split at h
   ·cases h
   ·rename_i c1
    rw [if_neg c1]
  rw [this]
  unfold yc
  rw [List.mapIdx_append,List.mapIdx_append]
  rfl
 ·rw [if_neg d4]
theorem qlr {n:Nat}{o:Control}(h:Mid n o) : ∀ p∈o.Parts,Fit12 n p:=fun p hp=>by
 obtain ⟨a,b,d,e⟩:=h.part p hp
 exact ⟨a.i1,b,⟨a.e0,d⟩,⟨a.s0,e.1⟩⟩
theorem qyh {c:Control}(hc:ya c) : ∀ p∈c.Parts,-1≤p.Leader:=fun p hp=>by
 obtain ⟨a,b,_⟩:=hc.2.2 p hp
 rcases b with ⟨b,_⟩ | ⟨_,b,_⟩
 ·omega
 ·have:=(uu.1 a.i1).2 _ b
  omega
theorem qx6 {c:Control}(hn:c.Parts.length≤1000) : Ev (fun _=>jj (fun i51 x52 s100=>uf i51 x52 s100) c.Parts ([] : List Int)) (.nxt (c.Parts.map Partition.Leader)):=by
 refine qac (B:=fun _ i x s=>uf i x s) (by omega) (fun i q s=>c.Parts.drop i=q∧s=(c.Parts.take i).map Partition.Leader) ⟨rfl,by simp⟩ (fun i x q s ⟨hq,hs⟩ => .inl ?_) (fun i s ⟨hq,hs⟩=>?_)
 ·have hx:c.Parts[i]? = some x:=by have:=congrArg (fun z=>z[0]?) hq; simpa using this
  refine ⟨(c.Parts.take (i+1)).map Partition.Leader,?_,by have:=congrArg (List.drop 1) hq; simpa [List.drop_drop] using this,rfl⟩
  unfold uf
  refine n8 (a:=s++[x.Leader]) ?_ (a19 ?_)
  ·unfold kg
   rw [if_pos (by rw [hs]; simp; omega)]
  ·rw [hs,List.take_add_one,hx,List.map_append]
   rfl
 ·have hi:c.Parts.length≤i:=by have:=congrArg b6 hq; simp at this; omega
  rw [hs,List.take_of_length_le hi]
theorem zam {c o:Control}{n:Nat}(h:Mid n o) : (y7 c o).nn≤1048576:=by
 have h1:(y7 c o).nn=(y7 c o).Brokers.length+(nnL Partition.nn (y7 c o).Parts+0):=rfl
 have h2:nnL Partition.nn (y7 c o).Parts=(y7 c o).Parts.length+qdw Partition.nn (y7 c o).Parts:=rfl
 have hl:=h.out (c:=c)
 have h5:qdw Partition.nn (y7 c o).Parts≤(y7 c o).Parts.length*12:=qio (fun x hx=>by
  obtain ⟨i,hi⟩:=a0i hx
  unfold y7 yc at hi
  rw [a0x] at hi
  cases hq:o.Parts[i]? with
  | none=>rw [hq] at hi; cases hi
  | some q =>
   rw [hq] at hi
   simp only [Option.map_some,Option.some.injEq] at hi
   subst hi
   obtain ⟨a,_⟩:=h.part q (i8 hq)
   obtain ⟨p1,p2,_⟩:=qgq (B:=o.Brokers) (w:=c.Parts[i]?.map Partition.Leader) (p:=q)
   have b1:=wg a.h1
   have b2:=wg a.i1
   have:=h.n2
   have h6:(ky o.Brokers (c.Parts[i]?.map Partition.Leader) q).nn=(ky o.Brokers (c.Parts[i]?.map Partition.Leader) q).Homes.length+((ky o.Brokers (c.Parts[i]?.map Partition.Leader) q).InStep.length+0):=rfl
   rw [p1,p2] at h6
   omega)
 have h6:(y7 c o).Parts.length*12≤5*12:=Nat.mul_le_mul_right _ (by rw [hl.2]; exact h.parts)
 have h7:(y7 c o).Brokers.length=n:=h.len
 have:=h.n2
 have:=h.parts
 have:=hl.2
 omega
theorem qna {c:Control}{x:Command}(hc:ya c)(hx:ww c.Brokers.length x) : Ev (fun _=>yk c x) ((yg c x).1,(yg c x).2,true):=by
 have hnn:=hc.nn
 have hp:=hc.1.2.1
 obtain ⟨g,eg,hg⟩:=qg2 hnn
 have hil:=wg hx.2.2.2.2.1
 have h6:=hc.1.1.2
 obtain ⟨d,ed,hd⟩:=q5o (c:=c) (x:=x) hc.1.1 (by omega)
 have hg':=hg.2 hc
 have hd':=hd.2 hx
 subst hg' hd'
 unfold yk
 refine g9 eg (g9 (a:=false) (g8 rfl (g9 ed l8)) (g8 rfl (a2a (qx6 (by omega)) ?_)))
 unfold qdp
 have hdo:=zck hc hx
 refine g9 (ql9 hnn) ?_
 by_cases h0:(jh c x).1=0
 ·have hm:=qfz hc hx h0
  rw [if_pos h0] at hdo
  refine g9 hdo ?_
  have hfitS:∀ p∈qf3 c x,Fit12 (jh c x).2.Brokers.length p:=by
   intro p hpp
   rw [hm.len]
   unfold qf3 at hpp
   split at hpp
   ·rename_i d4
    have he:(jh c x).2.Parts=c.Parts++[⟨x.InStep,x.InStep,-1,0,0⟩]:=by
     have h0':=h0
     unfold jh at h0' ⊢
     rw [if_neg (by omega),if_neg (by omega),if_neg (by omega),if_pos d4] at h0' ⊢
     split at h0'
     ·cases h0'
     ·rename_i c1
      rw [if_neg c1]
    rcases List.mem_append.1 hpp with hpp | hpp
    ·exact qlr hm p (by rw [he]; exact List.mem_append_left _ hpp)
    ·simp only [List.mem_singleton] at hpp
     subst hpp
     exact ⟨hx.2.2.2.2.1,.inl (by simp),by simp,by simp⟩
   ·exact qlr hm p hpp
  have hlenS:(qf3 c x).length≤5:=by
   have e1:=congrArg b6 (qkg (B:=[]) hx h0)
   unfold yc at e1
   simp only [List.length_mapIdx] at e1
   have:=hm.parts
   omega
  have hls:=zaf (c:=c) (B:=(jh c x).2.Brokers) (l:=qf3 c x) (n:=(jh c x).2.Next) (by rw [hm.len]; exact h6) (by omega) (by omega) hfitS (qyh hc)
  rw [qkg hx h0] at hls
  have hout:(⟨(jh c x).2.Brokers,yc (jh c x).2.Brokers c.Parts (jh c x).2.Parts,(jh c x).2.Next⟩ : Control)=y7 c (jh c x).2:=rfl
  rw [hout] at hls
  have honn:=zam (c:=c) hm
  obtain ⟨b,eb,hb⟩:=qg2 honn
  have hiff:=hb.trans (hm.out (c:=c)).1
  unfold yg
  rw [if_neg (show ¬ ((jh c x).1≠0) from fun h=>h h0)]
  cases b with
  | true =>
   rw [if_pos (show qd0 (y7 c (jh c x).2)=true from hiff.1 rfl)]
   refine g9 (m9 rfl (g9 hls (g9 eb (g8 rfl l8)))) ?_
   unfold qar
   exact g8 rfl (g9 (ql9 honn) l8)
  | false =>
   rw [if_neg (show ¬ qd0 (y7 c (jh c x).2)=true from fun h=>by have:=hiff.2 h; cases this)]
   refine g9 (m9 rfl (g9 hls (g9 eb (m9 rfl l8)))) ?_
   unfold qar
   exact m9 rfl (g9 (ql9 hnn) l8)
 ·rw [if_neg h0] at hdo
  refine g9 hdo ?_
  unfold yg
  rw [if_pos (show (jh c x).1≠0 from h0)]
  refine g9 (g8 (by simpa using h0) l8) ?_
  unfold qar
  exact m9 (by simpa using h0) (g9 (ql9 hnn) l8)
end Go.Proofs.Ytjloihcijdcpeaa.X
