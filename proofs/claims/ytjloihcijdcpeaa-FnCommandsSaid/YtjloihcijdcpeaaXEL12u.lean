/- A command on the program's side; plays. -/
import Derived.Test.YtjloihcijdcpeaaXEL12t
open Go.Proofs.Ytjloihcijdcpeaa.X.Ev renaming bindp→n8,bind→g9,iteF→g8,iteT→m9,of→a19,rfl→l8
open List renaming getElem?_eq_some_iff→d9,getElem?_set_self→a0c,mem_of_getElem?→i8
set_option linter.unusedVariables false
set_option linter.unusedSimpArgs false
namespace Go.Proofs.Ytjloihcijdcpeaa.X
open Go

theorem qyo {α:Type}{l:List α}{i:Nat}{x:α}(h:l[i]? = some x) : l.set i x=l:=by
 apply List.ext_getElem?
 intro j
 by_cases hj:i=j
 ·subst hj
  rw [h,a0c (d9.1 h).1]
 ·rw [List.getElem?_set_ne hj]
def qke (q:Partition) : Bool:=decide (q.Stamp≤1000)&&decide (q.Epoch≤1000)
theorem qn0 {c o:Control}{B:List Broker}{v:Int}{i:Nat}{p:Partition}{s:List Partition}(hc:c.nn≤1048576)(hf:Fit12 B.length p)(hl1 : -1≤p.Leader)(hn:B.length≤6)(hs:s[i]? = some p) : Ev (fun _=>wu c (v,o) B i s) (if qke (ky B (c.Parts[i]?.map Partition.Leader) p)=true then .nxt (s.set i (ky B (c.Parts[i]?.map Partition.Leader) p)) else .ret (c,4)):=by
 have hpl:=wg hf.i1
 have hr:=(uu.1 hf.i1).2
 have he:=hf.e
 have hst:=hf.s
 have hL:=qht (B:=B) hf.i1 hf.ld
 have hLr : -1≤jx B p:=by rcases hL with ⟨a,_⟩ | ⟨a,_⟩ <;> omega
 have hlt:=(d9.1 hs).1
 unfold wu
 refine n8 (kz hs) (g9 (a:=decide (p.Leader<0)||(brk B p.Leader).Fenced) ?_ (g9 (a:=s.set i ⟨p.Homes,p.InStep,jx B p,p.Epoch,p.Stamp⟩) ?_ ?_))
 ·by_cases h0:p.Leader = -1
  ·exact m9 (by simpa using h0) (a19 (by simp [h0]))
  ·have h1:¬ p.Leader<0:=by omega
   have hm:=hr _ (hf.ld.resolve_left h1)
   exact g8 (by simpa using h0) (n8 (qb4 hm.1 hm.2) (a19 (by simp [h1])))
 ·unfold jx
  by_cases h:p.Leader<0∨(brk B p.Leader).Fenced=true
  ·rw [if_pos h]
   exact m9 (by simpa using h) (g9 (qor (c:=⟨B,s,o.Next⟩) (by omega) hr) l8)
  ·rw [if_neg h]
   refine g8 ?_ (a19 ?_)
   ·exact bF (P:=p.Leader<0∨(brk B p.Leader).Fenced=true) (by simp only [Bool.or_eq_true,decide_eq_true_eq]) h
   ·congr 1
    exact (qyo hs).symm
 ·unfold qdu
  have hg:(s.set i ⟨p.Homes,p.InStep,jx B p,p.Epoch,p.Stamp⟩)[i]? = some ⟨p.Homes,p.InStep,jx B p,p.Epoch,p.Stamp⟩:=a0c hlt
  have hfin:∀ q:Partition,Ev (fun _=>qca c i (s.set i q)) (if qke q=true then .nxt (s.set i q) else .ret (c,4)):=by
   intro q
   have hq:(s.set i q)[i]? = some q:=a0c hlt
   unfold qca qke
   refine n8 (kz hq) ?_
   by_cases h:q.Stamp≤1000∧q.Epoch≤1000
   ·have h2:(decide (q.Stamp≤1000)&&decide (q.Epoch≤1000))=true:=by simp [h]
    rw [h2]
    exact g8 (by simp; omega) l8
   ·have h2:(decide (q.Stamp≤1000)&&decide (q.Epoch≤1000))=false:=by
     cases hh:(decide (q.Stamp≤1000)&&decide (q.Epoch≤1000))
     ·rfl
     ·exact absurd (by simpa using hh) h
    rw [h2]
    exact m9 (by simp; omega) (g9 (qpx hc) l8)
  have hset:∀ q:Partition,(s.set i ⟨p.Homes,p.InStep,jx B p,p.Epoch,p.Stamp⟩).set i q=s.set i q:=fun q=>List.set_set ..
  by_cases hw:c.Parts[i]?.map Partition.Leader=some (jx B p)
  ·have hq:ky B (c.Parts[i]?.map Partition.Leader) p=⟨p.Homes,p.InStep,jx B p,p.Epoch,p.Stamp⟩:=by
    unfold ky
    rw [if_pos hw]
   rw [hq]
   cases hcp:c.Parts[i]? with
   | none=>rw [hcp] at hw; cases hw
   | some z =>
    rw [hcp] at hw
    have hz:z.Leader=jx B p:=by simpa using hw
    have:=(d9.1 hcp).1
    refine g9 (a:=false) (g8 (by simp; omega) (n8 (kz hg) (n8 (kz hcp) (a19 (by simp [hz]))))) (g9 (g8 rfl l8) (hfin _))
  ·have hb:Ev (fun _:Nat=>(if (decide ((List.length c.Parts:Int)≤(i:Int)))=true then (some true) else ((jb (s.set i ⟨p.Homes,p.InStep,jx B p,p.Epoch,p.Stamp⟩) (i:Int)).bind fun x253=>((jb c.Parts (i:Int)).bind fun x271=>(some (decide (x253.Leader≠x271.Leader))))))) true:=by
    cases hcp:c.Parts[i]? with
    | none =>
     have:=List.getElem?_eq_none_iff.1 hcp
     exact m9 (by simp; omega) l8
    | some z =>
     rw [hcp] at hw
     have hz:z.Leader≠jx B p:=by simpa using hw
     have:=(d9.1 hcp).1
     exact g8 (by simp; omega) (n8 (kz hg) (n8 (kz hcp) (a19 (by simp [Ne.symm hz]))))
   refine g9 hb ?_
   by_cases h0:0≤jx B p
   ·have hq:ky B (c.Parts[i]?.map Partition.Leader) p=⟨p.Homes,p.InStep,jx B p,p.Epoch+1,p.Stamp+1⟩:=by
     unfold ky
     rw [if_neg hw,if_pos h0]
    rw [hq]
    refine g9 (a:=s.set i ⟨p.Homes,p.InStep,jx B p,p.Epoch+1,p.Stamp+1⟩) (m9 rfl (n8 (kz hg) (m9 (by simp; omega) (a19 ?_)))) (hfin _)
    dsimp only
    rw [kr (n:=p.Epoch+1) (by omega) (by omega),kr (n:=p.Stamp+1) (by omega) (by omega),Int.toNat_natCast,hset]
   ·have hq:ky B (c.Parts[i]?.map Partition.Leader) p=⟨p.Homes,p.InStep,jx B p,p.Epoch,p.Stamp+1⟩:=by
     unfold ky
     rw [if_neg hw,if_neg h0]
    rw [hq]
    refine g9 (a:=s.set i ⟨p.Homes,p.InStep,jx B p,p.Epoch,p.Stamp+1⟩) (m9 rfl (n8 (kz hg) (g8 (by simp; omega) (a19 ?_)))) (hfin _)
    dsimp only
    rw [kr (n:=p.Stamp+1) (by omega) (by omega),Int.toNat_natCast,hset]
theorem qno {o:Control} : qd0 o=true↔∀ p∈o.Parts,qke p=true:=by
 unfold qd0 qke
 rw [List.all_eq_true]
theorem q99 {c:Control}{x:Command}(hc:ya c)(hx:ww c.Brokers.length x) : Ev (fun _=>qch c x) (yg c x):=by
 have hnn:=hc.nn
 have h6:=hc.1.1.2
 obtain ⟨o,eo,ho1,ho2⟩:=zb4 hc hx
 unfold qch yg
 refine g9 (qpx hnn) (g9 eo ?_)
 by_cases h0:(jh c x).1=0
 ·have hm:=qfz hc hx h0
  have h2:=ho2 h0
  rw [h2] at hm
  rw [if_neg (show ¬ ((jh c x).1≠0) from fun h=>h h0)]
  rw [h2]
  have hrl:(jy o.Brokers).length=o.Brokers.length:=by simp [jy]
  have hp5:o.Parts.length≤5:=hm.parts
  refine g8 (by simpa using h0) (Ev.jn (qi1 (B:=fun i s=>qb9 i s) (l:=o.Brokers) (by omega) (fun i s=>rfl)) ?_)
  have hmf:=qlr hm
  have hout:y7 c ⟨jy o.Brokers,o.Parts,o.Next⟩=⟨jy o.Brokers,yc (jy o.Brokers) c.Parts o.Parts,o.Next⟩:=rfl
  have hld:∀ p∈o.Parts,-1≤p.Leader:=fun p hp=>(hm.part p hp).2.2.2.2
  have hBl:(jy o.Brokers).length≤6:=by omega
  have hBf:∀ p∈o.Parts,Fit12 (jy o.Brokers).length p:=fun p hp=>by rw [hrl,ho1]; exact hmf p hp
  unfold qdq
  simp only [qha]
  have hget:∀ (i:Nat) (p:Partition),o.Parts[i]? = some p→(yc (jy o.Brokers) c.Parts o.Parts)[i]? = some (ky (jy o.Brokers) (c.Parts[i]?.map Partition.Leader) p):=by
   intro i p hp
   unfold yc
   rw [List.getElem?_mapIdx,hp]
   rfl
  have key:Ev (fun _=>jj (fun i (_:Unit) s=>wu c ((jh c x).1,o) (jy o.Brokers) i s) (List.replicate o.Parts.length ()) o.Parts) (if qd0 (y7 c ⟨jy o.Brokers,o.Parts,o.Next⟩)=true then .nxt (yc (jy o.Brokers) c.Parts o.Parts) else .ret (c,4)):=by
   refine qac (B:=fun _ i _ s=>wu c ((jh c x).1,o) (jy o.Brokers) i s) (by simp; omega) (fun i q s=>i+q.length=o.Parts.length∧s=(yc (jy o.Brokers) c.Parts o.Parts).take i++o.Parts.drop i∧∀ (j:Nat) (z:Partition),j<i→(yc (jy o.Brokers) c.Parts o.Parts)[j]? = some z→qke z=true) ⟨by simp,by simp,by omega⟩ (fun i _ q s ⟨h1,hs,hfit⟩=>?_) (fun i s ⟨h1,hs,hfit⟩=>?_)
   ·simp only [List.length_cons] at h1
    obtain ⟨p,hp⟩ : ∃ p,o.Parts[i]? = some p:=⟨_,List.getElem?_eq_getElem (by omega)⟩
    have hpm:=i8 hp
    obtain ⟨u1,u2⟩:=qol (f:=fun i p=>ky (jy o.Brokers) (c.Parts[i]?.map Partition.Leader) p) hp
    have hb:=qn0 (c:=c) (o:=o) (v:=(jh c x).1) (i:=i) (p:=p) (s:=s) hnn (hBf p hpm) (hld p hpm) hBl (by rw [hs]; exact u1)
    by_cases hq:qke (ky (jy o.Brokers) (c.Parts[i]?.map Partition.Leader) p)=true
    ·rw [if_pos hq] at hb
     refine .inl ⟨_,hb,by omega,by rw [hs]; exact u2,fun j z hj hz=>?_⟩
     by_cases hji:j=i
     ·subst hji
      rw [hget j p hp] at hz
      cases hz
      exact hq
     ·exact hfit j z (by omega) hz
    ·rw [if_neg hq] at hb
     refine .inr (.inr ⟨_,hb,?_⟩)
     rw [if_neg]
     intro hf
     rw [hout,qno] at hf
     exact hq (hf _ (i8 (hget i p hp)))
   ·simp only [List.length_nil,Nat.add_zero] at h1
    have hll:(yc (jy o.Brokers) c.Parts o.Parts).length=o.Parts.length:=by unfold yc; simp
    rw [hs,h1,List.drop_length,List.append_nil,List.take_of_length_le (by omega),if_pos]
    rw [hout,qno]
    intro z hz
    obtain ⟨j,hj⟩:=List.getElem?_of_mem hz
    exact hfit j z (by have:=(d9.1 hj).1; dsimp only at this; omega) hj
  by_cases hf:qd0 (y7 c ⟨jy o.Brokers,o.Parts,o.Next⟩)=true
  ·rw [if_pos hf] at key ⊢
   exact Ev.jn key l8
  ·rw [if_neg hf] at key ⊢
   exact Ev.jn_ret key
 ·rw [if_pos (show (jh c x).1≠0 from h0)]
  exact m9 (by simpa using h0) (g9 (qpx hnn) l8)
end Go.Proofs.Ytjloihcijdcpeaa.X
