/- A command on the program's side; plays. -/
import Derived.Test.YtjloihcijdcpeaaXBL12t
set_option linter.unusedVariables false
set_option linter.unusedSimpArgs false
namespace Go.Proofs.Ytjloihcijdcpeaa.X
open Go

theorem quy {α:Type}{l:List α}{i:Nat}{x:α}(h:l[i]? = some x) : l.set i x=l:=by
 apply List.ext_getElem?
 intro j
 by_cases hj:i=j
 ·subst hj
  rw [h,List.getElem?_set_self (List.getElem?_eq_some_iff.1 h).1]
 ·rw [List.getElem?_set_ne hj]
def qi1 (q:Partition) : Bool:=decide (q.Stamp≤1000)&&decide (q.Epoch≤1000)
theorem qmo {c o:Control}{B:List Broker}{v:Int}{i:Nat}{p:Partition}{s:List Partition}(hc:c.nn≤1048576)(hf:Fit12 B.length p)(hl1 : -1≤p.Leader)(hn:B.length≤6)(hs:s[i]? = some p) : Ev (fun _=>yq c (v,o) B i s) (if qi1 (ki B (c.Parts[i]?.map Partition.Leader) p)=true then .nxt (s.set i (ki B (c.Parts[i]?.map Partition.Leader) p)) else .ret (c,4)):=by
 have hpl:=y4 hf.i1
 have hr:=(ud.1 hf.i1).2
 have he:=hf.e
 have hst:=hf.s
 have hL:=qgd (B:=B) hf.i1 hf.ld
 have hLr : -1≤jo B p:=by rcases hL with ⟨a,_⟩ | ⟨a,_⟩ <;> omega
 have hlt:=(List.getElem?_eq_some_iff.1 hs).1
 unfold yq
 refine Ev.bindp (z9 hs) (Ev.bind (a:=decide (p.Leader<0)||(brk B p.Leader).Fenced) ?_ (Ev.bind (a:=s.set i ⟨p.Homes,p.InStep,jo B p,p.Epoch,p.Stamp⟩) ?_ ?_))
 ·by_cases h0:p.Leader = -1
  ·exact Ev.iteT (by simpa using h0) (Ev.of (by simp [h0]))
  ·have h1:¬ p.Leader<0:=by omega
   have hm:=hr _ (hf.ld.resolve_left h1)
   exact Ev.iteF (by simpa using h0) (Ev.bindp (qav hm.1 hm.2) (Ev.of (by simp [h1])))
 ·unfold jo
  by_cases h:p.Leader<0∨(brk B p.Leader).Fenced=true
  ·rw [if_pos h]
   exact Ev.iteT (by simpa using h) (Ev.bind (q4j (c:=⟨B,s,o.Next⟩) (by omega) hr) Ev.rfl)
  ·rw [if_neg h]
   refine Ev.iteF ?_ (Ev.of ?_)
   ·exact bF (P:=p.Leader<0∨(brk B p.Leader).Fenced=true) (by simp only [Bool.or_eq_true,decide_eq_true_eq]) h
   ·congr 1
    exact (quy hs).symm
 ·unfold qcn
  have hg:(s.set i ⟨p.Homes,p.InStep,jo B p,p.Epoch,p.Stamp⟩)[i]? = some ⟨p.Homes,p.InStep,jo B p,p.Epoch,p.Stamp⟩:=List.getElem?_set_self hlt
  have hfin:∀ q:Partition,Ev (fun _=>qay c i (s.set i q)) (if qi1 q=true then .nxt (s.set i q) else .ret (c,4)):=by
   intro q
   have hq:(s.set i q)[i]? = some q:=List.getElem?_set_self hlt
   unfold qay qi1
   refine Ev.bindp (z9 hq) ?_
   by_cases h:q.Stamp≤1000∧q.Epoch≤1000
   ·have h2:(decide (q.Stamp≤1000)&&decide (q.Epoch≤1000))=true:=by simp [h]
    rw [h2]
    exact Ev.iteF (by simp; omega) Ev.rfl
   ·have h2:(decide (q.Stamp≤1000)&&decide (q.Epoch≤1000))=false:=by
     cases hh:(decide (q.Stamp≤1000)&&decide (q.Epoch≤1000))
     ·rfl
     ·exact absurd (by simpa using hh) h
    rw [h2]
    exact Ev.iteT (by simp; omega) (Ev.bind (qn2 hc) Ev.rfl)
  have hset:∀ q:Partition,(s.set i ⟨p.Homes,p.InStep,jo B p,p.Epoch,p.Stamp⟩).set i q=s.set i q:=fun q=>List.set_set ..
  by_cases hw:c.Parts[i]?.map Partition.Leader=some (jo B p)
  ·have hq:ki B (c.Parts[i]?.map Partition.Leader) p=⟨p.Homes,p.InStep,jo B p,p.Epoch,p.Stamp⟩:=by
    unfold ki
    rw [if_pos hw]
   rw [hq]
   cases hcp:c.Parts[i]? with
   | none=>rw [hcp] at hw; cases hw
   | some z =>
    rw [hcp] at hw
    have hz:z.Leader=jo B p:=by simpa using hw
    have:=(List.getElem?_eq_some_iff.1 hcp).1
    refine Ev.bind (a:=false) (Ev.iteF (by simp; omega) (Ev.bindp (z9 hg) (Ev.bindp (z9 hcp) (Ev.of (by simp [hz]))))) (Ev.bind (Ev.iteF rfl Ev.rfl) (hfin _))
  ·have hb:Ev (fun _:Nat=>(if (decide ((List.length c.Parts:Int)≤(i:Int)))=true then (some true) else ((zz (s.set i ⟨p.Homes,p.InStep,jo B p,p.Epoch,p.Stamp⟩) (i:Int)).bind fun x253=>((zz c.Parts (i:Int)).bind fun x271=>(some (decide (x253.Leader≠x271.Leader))))))) true:=by
    cases hcp:c.Parts[i]? with
    | none =>
     have:=List.getElem?_eq_none_iff.1 hcp
     exact Ev.iteT (by simp; omega) Ev.rfl
    | some z =>
     rw [hcp] at hw
     have hz:z.Leader≠jo B p:=by simpa using hw
     have:=(List.getElem?_eq_some_iff.1 hcp).1
     exact Ev.iteF (by simp; omega) (Ev.bindp (z9 hg) (Ev.bindp (z9 hcp) (Ev.of (by simp [Ne.symm hz]))))
   refine Ev.bind hb ?_
   by_cases h0:0≤jo B p
   ·have hq:ki B (c.Parts[i]?.map Partition.Leader) p=⟨p.Homes,p.InStep,jo B p,p.Epoch+1,p.Stamp+1⟩:=by
     unfold ki
     rw [if_neg hw,if_pos h0]
    rw [hq]
    refine Ev.bind (a:=s.set i ⟨p.Homes,p.InStep,jo B p,p.Epoch+1,p.Stamp+1⟩) (Ev.iteT rfl (Ev.bindp (z9 hg) (Ev.iteT (by simp; omega) (Ev.of ?_)))) (hfin _)
    dsimp only
    rw [wi (n:=p.Epoch+1) (by omega) (by omega),wi (n:=p.Stamp+1) (by omega) (by omega),Int.toNat_natCast,hset]
   ·have hq:ki B (c.Parts[i]?.map Partition.Leader) p=⟨p.Homes,p.InStep,jo B p,p.Epoch,p.Stamp+1⟩:=by
     unfold ki
     rw [if_neg hw,if_neg h0]
    rw [hq]
    refine Ev.bind (a:=s.set i ⟨p.Homes,p.InStep,jo B p,p.Epoch,p.Stamp+1⟩) (Ev.iteT rfl (Ev.bindp (z9 hg) (Ev.iteF (by simp; omega) (Ev.of ?_)))) (hfin _)
    dsimp only
    rw [wi (n:=p.Stamp+1) (by omega) (by omega),Int.toNat_natCast,hset]
theorem ql8 {o:Control} : qcs o=true↔∀ p∈o.Parts,qi1 p=true:=by
 unfold qcs qi1
 rw [List.all_eq_true]
theorem q6f {c:Control}{x:Command}(hc:qa7 c)(hx:uo c.Brokers.length x) : Ev (fun _=>qbi c x) (qdr c x):=by
 have hnn:=hc.nn
 have h6:=hc.1.1.2
 obtain ⟨o,eo,ho1,ho2⟩:=q9b hc hx
 unfold qbi qdr
 refine Ev.bind (qn2 hnn) (Ev.bind eo ?_)
 by_cases h0:(j6 c x).1=0
 ·have hm:=qht hc hx h0
  have h2:=ho2 h0
  rw [h2] at hm
  rw [if_neg (show ¬ ((j6 c x).1≠0) from fun h=>h h0)]
  rw [h2]
  have hrl:(jt o.Brokers).length=o.Brokers.length:=by simp [jt]
  have hp5:o.Parts.length≤5:=hm.parts
  refine Ev.iteF (by simpa using h0) (Ev.jn (qh3 (B:=fun i s=>qa2 i s) (l:=o.Brokers) (by omega) (fun i s=>rfl)) ?_)
  have hmf:=qke hm
  have hout:yp c ⟨jt o.Brokers,o.Parts,o.Next⟩=⟨jt o.Brokers,yd (jt o.Brokers) c.Parts o.Parts,o.Next⟩:=rfl
  have hld:∀ p∈o.Parts,-1≤p.Leader:=fun p hp=>(hm.part p hp).2.2.2.2
  have hBl:(jt o.Brokers).length≤6:=by omega
  have hBf:∀ p∈o.Parts,Fit12 (jt o.Brokers).length p:=fun p hp=>by rw [hrl,ho1]; exact hmf p hp
  unfold qco
  simp only [qi8]
  have hget:∀ (i:Nat) (p:Partition),o.Parts[i]? = some p→(yd (jt o.Brokers) c.Parts o.Parts)[i]? = some (ki (jt o.Brokers) (c.Parts[i]?.map Partition.Leader) p):=by
   intro i p hp
   unfold yd
   rw [List.getElem?_mapIdx,hp]
   rfl
  have key:Ev (fun _=>jq (fun i (_:Unit) s=>yq c ((j6 c x).1,o) (jt o.Brokers) i s) (List.replicate o.Parts.length ()) o.Parts) (if qcs (yp c ⟨jt o.Brokers,o.Parts,o.Next⟩)=true then .nxt (yd (jt o.Brokers) c.Parts o.Parts) else .ret (c,4)):=by
   refine qbl (B:=fun _ i _ s=>yq c ((j6 c x).1,o) (jt o.Brokers) i s) (by simp; omega) (fun i q s=>i+q.length=o.Parts.length∧s=(yd (jt o.Brokers) c.Parts o.Parts).take i++o.Parts.drop i∧∀ (j:Nat) (z:Partition),j<i→(yd (jt o.Brokers) c.Parts o.Parts)[j]? = some z→qi1 z=true) ⟨by simp,by simp,by omega⟩ (fun i _ q s ⟨h1,hs,hfit⟩=>?_) (fun i s ⟨h1,hs,hfit⟩=>?_)
   ·simp only [List.length_cons] at h1
    obtain ⟨p,hp⟩ : ∃ p,o.Parts[i]? = some p:=⟨_,List.getElem?_eq_getElem (by omega)⟩
    have hpm:=List.mem_of_getElem? hp
    obtain ⟨u1,u2⟩:=qni (f:=fun i p=>ki (jt o.Brokers) (c.Parts[i]?.map Partition.Leader) p) hp
    have hb:=qmo (c:=c) (o:=o) (v:=(j6 c x).1) (i:=i) (p:=p) (s:=s) hnn (hBf p hpm) (hld p hpm) hBl (by rw [hs]; exact u1)
    by_cases hq:qi1 (ki (jt o.Brokers) (c.Parts[i]?.map Partition.Leader) p)=true
    ·rw [if_pos hq] at hb
     refine .inl ⟨_,hb,by omega,by rw [hs]; exact u2,fun j z hj hz=>?_⟩
     by_cases hji:j=i
     ·subst hji
      rw [hget j p hp] at hz
      cases hz
      exact hq
     ·exact hfit j z (by omega) hz
    ·rw [if_neg hq] at hb
     refine .inr (.inr ⟨_,hb,?_⟩)
     rw [if_neg]
     intro hf
     rw [hout,ql8] at hf
     exact hq (hf _ (List.mem_of_getElem? (hget i p hp)))
   ·simp only [List.length_nil,Nat.add_zero] at h1
    have hll:(yd (jt o.Brokers) c.Parts o.Parts).length=o.Parts.length:=by unfold yd; simp
    rw [hs,h1,List.drop_length,List.append_nil,List.take_of_length_le (by omega),if_pos]
    rw [hout,ql8]
    intro z hz
    obtain ⟨j,hj⟩:=List.getElem?_of_mem hz
    exact hfit j z (by have:=(List.getElem?_eq_some_iff.1 hj).1; dsimp only at this; omega) hj
  by_cases hf:qcs (yp c ⟨jt o.Brokers,o.Parts,o.Next⟩)=true
  ·rw [if_pos hf] at key ⊢
   exact Ev.jn key Ev.rfl
  ·rw [if_neg hf] at key ⊢
   exact Ev.jn_ret key
 ·rw [if_pos (show (j6 c x).1≠0 from h0)]
  exact Ev.iteT (by simpa using h0) (Ev.bind (qn2 hnn) Ev.rfl)
end Go.Proofs.Ytjloihcijdcpeaa.X
