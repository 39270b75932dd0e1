/- A command on the program's side; plays. -/
import Derived.Test.YtjloihcijdcpeaaXCL12t
set_option linter.unusedVariables false
set_option linter.unusedSimpArgs false
namespace Go.Proofs.Ytjloihcijdcpeaa.X
open Go

theorem qwe {α:Type}{l:List α}{i:Nat}{x:α}(h:l[i]? = some x) : l.set i x=l:=by
 apply List.ext_getElem?
 intro j
 by_cases hj:i=j
 ·subst hj
  rw [h,List.getElem?_set_self (List.getElem?_eq_some_iff.1 h).1]
 ·rw [List.getElem?_set_ne hj]
def qji (q:Partition) : Bool:=decide (q.Stamp≤1000)&&decide (q.Epoch≤1000)
theorem qmr {c o:Control}{B:List Broker}{v:Int}{i:Nat}{p:Partition}{s:List Partition}(hc:c.nn≤1048576)(hf:Fit12 B.length p)(hl1 : -1≤p.Leader)(hn:B.length≤6)(hs:s[i]? = some p) : Ev (fun _=>y7 c (v,o) B i s) (if qji (kq B (c.Parts[i]?.map Partition.Leader) p)=true then .nxt (s.set i (kq B (c.Parts[i]?.map Partition.Leader) p)) else .ret (c,4)):=by
 have hpl:=yo hf.i1
 have hr:=(y6.1 hf.i1).2
 have he:=hf.e
 have hst:=hf.s
 have hL:=qg3 (B:=B) hf.i1 hf.ld
 have hLr : -1≤jp B p:=by rcases hL with ⟨a,_⟩ | ⟨a,_⟩ <;> omega
 have hlt:=(List.getElem?_eq_some_iff.1 hs).1
 unfold y7
 refine Ev.bindp (ki hs) (Ev.bind (a:=decide (p.Leader<0)||(brk B p.Leader).Fenced) ?_ (Ev.bind (a:=s.set i ⟨p.Homes,p.InStep,jp B p,p.Epoch,p.Stamp⟩) ?_ ?_))
 ·by_cases h0:p.Leader = -1
  ·exact Ev.iteT (by simpa using h0) (Ev.of (by simp [h0]))
  ·have h1:¬ p.Leader<0:=by omega
   have hm:=hr _ (hf.ld.resolve_left h1)
   exact Ev.iteF (by simpa using h0) (Ev.bindp (qbf hm.1 hm.2) (Ev.of (by simp [h1])))
 ·unfold jp
  by_cases h:p.Leader<0∨(brk B p.Leader).Fenced=true
  ·rw [if_pos h]
   exact Ev.iteT (by simpa using h) (Ev.bind (qni (c:=⟨B,s,o.Next⟩) (by omega) hr) Ev.rfl)
  ·rw [if_neg h]
   refine Ev.iteF ?_ (Ev.of ?_)
   ·exact bF (P:=p.Leader<0∨(brk B p.Leader).Fenced=true) (by simp only [Bool.or_eq_true,decide_eq_true_eq]) h
   ·congr 1
    exact (qwe hs).symm
 ·unfold qc8
  have hg:(s.set i ⟨p.Homes,p.InStep,jp B p,p.Epoch,p.Stamp⟩)[i]? = some ⟨p.Homes,p.InStep,jp B p,p.Epoch,p.Stamp⟩:=List.getElem?_set_self hlt
  have hfin:∀ q:Partition,Ev (fun _=>qbm c i (s.set i q)) (if qji q=true then .nxt (s.set i q) else .ret (c,4)):=by
   intro q
   have hq:(s.set i q)[i]? = some q:=List.getElem?_set_self hlt
   unfold qbm qji
   refine Ev.bindp (ki hq) ?_
   by_cases h:q.Stamp≤1000∧q.Epoch≤1000
   ·have h2:(decide (q.Stamp≤1000)&&decide (q.Epoch≤1000))=true:=by simp [h]
    rw [h2]
    exact Ev.iteF (by simp; omega) Ev.rfl
   ·have h2:(decide (q.Stamp≤1000)&&decide (q.Epoch≤1000))=false:=by
     cases hh:(decide (q.Stamp≤1000)&&decide (q.Epoch≤1000))
     ·rfl
     ·exact absurd (by simpa using hh) h
    rw [h2]
    exact Ev.iteT (by simp; omega) (Ev.bind (qot hc) Ev.rfl)
  have hset:∀ q:Partition,(s.set i ⟨p.Homes,p.InStep,jp B p,p.Epoch,p.Stamp⟩).set i q=s.set i q:=fun q=>List.set_set ..
  by_cases hw:c.Parts[i]?.map Partition.Leader=some (jp B p)
  ·have hq:kq B (c.Parts[i]?.map Partition.Leader) p=⟨p.Homes,p.InStep,jp B p,p.Epoch,p.Stamp⟩:=by
    unfold kq
    rw [if_pos hw]
   rw [hq]
   cases hcp:c.Parts[i]? with
   | none=>rw [hcp] at hw; cases hw
   | some z =>
    rw [hcp] at hw
    have hz:z.Leader=jp B p:=by simpa using hw
    have:=(List.getElem?_eq_some_iff.1 hcp).1
    refine Ev.bind (a:=false) (Ev.iteF (by simp; omega) (Ev.bindp (ki hg) (Ev.bindp (ki hcp) (Ev.of (by simp [hz]))))) (Ev.bind (Ev.iteF rfl Ev.rfl) (hfin _))
  ·have hb:Ev (fun _:Nat=>(if (decide ((List.length c.Parts:Int)≤(i:Int)))=true then (some true) else ((z9 (s.set i ⟨p.Homes,p.InStep,jp B p,p.Epoch,p.Stamp⟩) (i:Int)).bind fun x253=>((z9 c.Parts (i:Int)).bind fun x271=>(some (decide (x253.Leader≠x271.Leader))))))) true:=by
    cases hcp:c.Parts[i]? with
    | none =>
     have:=List.getElem?_eq_none_iff.1 hcp
     exact Ev.iteT (by simp; omega) Ev.rfl
    | some z =>
     rw [hcp] at hw
     have hz:z.Leader≠jp B p:=by simpa using hw
     have:=(List.getElem?_eq_some_iff.1 hcp).1
     exact Ev.iteF (by simp; omega) (Ev.bindp (ki hg) (Ev.bindp (ki hcp) (Ev.of (by simp [Ne.symm hz]))))
   refine Ev.bind hb ?_
   by_cases h0:0≤jp B p
   ·have hq:kq B (c.Parts[i]?.map Partition.Leader) p=⟨p.Homes,p.InStep,jp B p,p.Epoch+1,p.Stamp+1⟩:=by
     unfold kq
     rw [if_neg hw,if_pos h0]
    rw [hq]
    refine Ev.bind (a:=s.set i ⟨p.Homes,p.InStep,jp B p,p.Epoch+1,p.Stamp+1⟩) (Ev.iteT rfl (Ev.bindp (ki hg) (Ev.iteT (by simp; omega) (Ev.of ?_)))) (hfin _)
    dsimp only
    rw [kh (n:=p.Epoch+1) (by omega) (by omega),kh (n:=p.Stamp+1) (by omega) (by omega),Int.toNat_natCast,hset]
   ·have hq:kq B (c.Parts[i]?.map Partition.Leader) p=⟨p.Homes,p.InStep,jp B p,p.Epoch,p.Stamp+1⟩:=by
     unfold kq
     rw [if_neg hw,if_neg h0]
    rw [hq]
    refine Ev.bind (a:=s.set i ⟨p.Homes,p.InStep,jp B p,p.Epoch,p.Stamp+1⟩) (Ev.iteT rfl (Ev.bindp (ki hg) (Ev.iteF (by simp; omega) (Ev.of ?_)))) (hfin _)
    dsimp only
    rw [kh (n:=p.Stamp+1) (by omega) (by omega),Int.toNat_natCast,hset]
theorem qlz {o:Control} : qdh o=true↔∀ p∈o.Parts,qji p=true:=by
 unfold qdh qji
 rw [List.all_eq_true]
theorem q6o {c:Control}{x:Command}(hc:yq c)(hx:uv c.Brokers.length x) : Ev (fun _=>qbo c x) (qc9 c x):=by
 have hnn:=hc.nn
 have h6:=hc.1.1.2
 obtain ⟨o,eo,ho1,ho2⟩:=q9x hc hx
 unfold qbo qc9
 refine Ev.bind (qot hnn) (Ev.bind eo ?_)
 by_cases h0:(j7 c x).1=0
 ·have hm:=qid hc hx h0
  have h2:=ho2 h0
  rw [h2] at hm
  rw [if_neg (show ¬ ((j7 c x).1≠0) from fun h=>h h0)]
  rw [h2]
  have hrl:(jx o.Brokers).length=o.Brokers.length:=by simp [jx]
  have hp5:o.Parts.length≤5:=hm.parts
  refine Ev.iteF (by simpa using h0) (Ev.jn (qil (B:=fun i s=>qbl i s) (l:=o.Brokers) (by omega) (fun i s=>rfl)) ?_)
  have hmf:=qkv hm
  have hout:yy c ⟨jx o.Brokers,o.Parts,o.Next⟩=⟨jx o.Brokers,yi (jx o.Brokers) c.Parts o.Parts,o.Next⟩:=rfl
  have hld:∀ p∈o.Parts,-1≤p.Leader:=fun p hp=>(hm.part p hp).2.2.2.2
  have hBl:(jx o.Brokers).length≤6:=by omega
  have hBf:∀ p∈o.Parts,Fit12 (jx o.Brokers).length p:=fun p hp=>by rw [hrl,ho1]; exact hmf p hp
  unfold qc7
  simp only [qez]
  have hget:∀ (i:Nat) (p:Partition),o.Parts[i]? = some p→(yi (jx o.Brokers) c.Parts o.Parts)[i]? = some (kq (jx o.Brokers) (c.Parts[i]?.map Partition.Leader) p):=by
   intro i p hp
   unfold yi
   rw [List.getElem?_mapIdx,hp]
   rfl
  have key:Ev (fun _=>jh (fun i (_:Unit) s=>y7 c ((j7 c x).1,o) (jx o.Brokers) i s) (List.replicate o.Parts.length ()) o.Parts) (if qdh (yy c ⟨jx o.Brokers,o.Parts,o.Next⟩)=true then .nxt (yi (jx o.Brokers) c.Parts o.Parts) else .ret (c,4)):=by
   refine ud (B:=fun _ i _ s=>y7 c ((j7 c x).1,o) (jx o.Brokers) i s) (by simp; omega) (fun i q s=>i+q.length=o.Parts.length∧s=(yi (jx o.Brokers) c.Parts o.Parts).take i++o.Parts.drop i∧∀ (j:Nat) (z:Partition),j<i→(yi (jx o.Brokers) c.Parts o.Parts)[j]? = some z→qji z=true) ⟨by simp,by simp,by omega⟩ (fun i _ q s ⟨h1,hs,hfit⟩=>?_) (fun i s ⟨h1,hs,hfit⟩=>?_)
   ·simp only [List.length_cons] at h1
    obtain ⟨p,hp⟩ : ∃ p,o.Parts[i]? = some p:=⟨_,List.getElem?_eq_getElem (by omega)⟩
    have hpm:=List.mem_of_getElem? hp
    obtain ⟨u1,u2⟩:=qnk (f:=fun i p=>kq (jx o.Brokers) (c.Parts[i]?.map Partition.Leader) p) hp
    have hb:=qmr (c:=c) (o:=o) (v:=(j7 c x).1) (i:=i) (p:=p) (s:=s) hnn (hBf p hpm) (hld p hpm) hBl (by rw [hs]; exact u1)
    by_cases hq:qji (kq (jx o.Brokers) (c.Parts[i]?.map Partition.Leader) p)=true
    ·rw [if_pos hq] at hb
     refine .inl ⟨_,hb,by omega,by rw [hs]; exact u2,fun j z hj hz=>?_⟩
     by_cases hji:j=i
     ·subst hji
      rw [hget j p hp] at hz
      cases hz
      exact hq
     ·exact hfit j z (by omega) hz
    ·rw [if_neg hq] at hb
     refine .inr (.inr ⟨_,hb,?_⟩)
     rw [if_neg]
     intro hf
     rw [hout,qlz] at hf
     exact hq (hf _ (List.mem_of_getElem? (hget i p hp)))
   ·simp only [List.length_nil,Nat.add_zero] at h1
    have hll:(yi (jx o.Brokers) c.Parts o.Parts).length=o.Parts.length:=by unfold yi; simp
    rw [hs,h1,List.drop_length,List.append_nil,List.take_of_length_le (by omega),if_pos]
    rw [hout,qlz]
    intro z hz
    obtain ⟨j,hj⟩:=List.getElem?_of_mem hz
    exact hfit j z (by have:=(List.getElem?_eq_some_iff.1 hj).1; dsimp only at this; omega) hj
  by_cases hf:qdh (yy c ⟨jx o.Brokers,o.Parts,o.Next⟩)=true
  ·rw [if_pos hf] at key ⊢
   exact Ev.jn key Ev.rfl
  ·rw [if_neg hf] at key ⊢
   exact Ev.jn_ret key
 ·rw [if_pos (show (j7 c x).1≠0 from h0)]
  exact Ev.iteT (by simpa using h0) (Ev.bind (qot hnn) Ev.rfl)
end Go.Proofs.Ytjloihcijdcpeaa.X
