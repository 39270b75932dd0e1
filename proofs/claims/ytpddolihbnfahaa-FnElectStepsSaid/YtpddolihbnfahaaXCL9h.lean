/- Elections: good on the specification's side; what a step keeps of each server; one answer of StepElection. -/
import Derived.Test.YtpddolihbnfahaaXCL9g
set_option linter.unusedVariables false
set_option linter.unusedSimpArgs false
namespace Go.Proofs.Ytpddolihbnfahaa.X
open Go

theorem quy {F:Nat→Option Bool}{P:Prop}(h:Is F P) : ∃ b:Bool,Ev (fun k=>(F k).bind fun v=>if (!v)=true then (some (.ret false) : Option (Oc Unit Bool)) else some (.nxt ())) (if b=true then .ret false else .nxt ())∧(b=true↔¬ P):=q9k h
theorem qea {e:Election}{k:Int} : (!(jp e k))=true↔¬ (0≤k∧k<e.Servers.length):=by
 simp only [jp,Bool.not_eq_true',Bool.and_eq_false_iff,decide_eq_false_iff_not]
 omega
theorem qcc {e:Election}(h:e.nn≤1048576) : Is (fun _=>yp e) (elP e):=by
 obtain ⟨n1,n2,n3,n4⟩:=qhp h
 unfold yp
 refine Is.all (Q:=fun _ s=>qnj e.Servers.length s) (by omega) (fun i s hs=>?_) (fun hq=>?_) (fun hq hh=>hq hh.2.1)
 ·obtain ⟨m1,m2⟩:=n4 i s hs
  unfold qba
  refine quy ?_
  unfold qes
  refine Is.bind (P:=¬ (((0≤s.Term∧s.Term≤100)∧(-1≤s.Voted∧s.Voted<e.Servers.length)∧¬ (s.Stands=true∧s.Leads=true))∧qgt s.Log)) (Is.ite (fun hc=>Is.T ?_) (fun hc=>Is.bind (qhf (by omega)) (fun b hb2=>Is.of ?_))) (fun b hb=>Is.ite (fun hc=>Is.F ?_) (fun hc=>?_))
  ·simp only [Bool.or_eq_true,Bool.and_eq_true,qh8,qea,decide_eq_true_eq] at hc
   rintro ⟨⟨a,b,c⟩,_⟩
   rcases hc with (hc | hc) | hc
   ·exact hc a
   ·omega
   ·exact c hc
  ·obtain ⟨hc,hc3⟩:=(Bool.or_eq_false_iff).1 hc
   obtain ⟨hc,hc2⟩:=(Bool.or_eq_false_iff).1 hc
   have b1:=dn qh8 hc
   have b3:¬ (s.Stands=true∧s.Leads=true):=by
    rw [←Bool.and_eq_true,hc3]; simp
   have b4:(-1≤s.Voted∧s.Voted<e.Servers.length):=by
    by_cases hv:s.Voted = -1
    ·omega
    ·have hv2:decide (s.Voted ≠ -1)=true:=by simpa using hv
     rw [hv2,Bool.true_and] at hc2
     have:=dn qea hc2
     omega
   simp only [b1,b4,b3,not_false_eq_true,and_self,true_and,← hb2]
   cases b <;> simp
  ·exact fun hh=>hb.1 hc ⟨hh.1,hh.2.2.2⟩
  ·obtain ⟨c1,c2⟩:=dn hb hc
   refine Is.ite (fun hd=>Is.of ?_) (fun hd=>(Is.bind (P:=qck s.Got e.Servers.length) (qqb (by omega)) (fun b hb2=>Is.of hb2)).iff ?_)
   ·simp only [Bool.and_eq_true,Bool.not_eq_true'] at hd
    simp only [decide_eq_true_eq]
    constructor
    ·intro h0
     have h1:s.Got=[]:=List.length_eq_zero_iff.1 (by omega)
     exact ⟨c1,by rw [h1]; exact qbf.2 ⟨by simp,by simp⟩,fun _ _=>h1,c2⟩
    ·intro hh
     rw [hh.2.2.1 hd.1 hd.2]
     rfl
   ·constructor
    ·intro hg
     refine ⟨c1,hg,fun h1 h2=>?_,c2⟩
     rw [h1,h2] at hd
     cases hd
    ·exact fun hh=>hh.2.1
 ·unfold qc6
  refine Is.all (Q:=fun _ m=>qol e m) (by omega) (fun i m hm=>?_) (fun hq2=>?_) (fun hq2 hh=>hq2 hh.2.2.1)
  ·unfold qa6
   refine quy ?_
   unfold qeq
   refine Is.ite (fun hc=>Is.F (fun hh=>qea.1 hc hh.1)) (fun hc=>?_)
   have a1:=dn qea hc
   refine Is.ite (fun hd=>Is.F (fun hh=>?_)) (fun hd=>?_)
   ·rcases Bool.or_eq_true_iff.1 hd with hd | hd
    ·exact qea.1 hd hh.2.1
    ·exact hh.2.2.1 (by simpa using hd)
   ·obtain ⟨hd1,hd2⟩:=(Bool.or_eq_false_iff).1 hd
    have a2:=dn qea hd1
    have a3:m.To≠m.From:=by simpa using hd2
    obtain ⟨s,hs⟩:=At.of (e:=e) a2.1 a2.2
    refine Is.bindv (a:=s) (Ev.of (y9 hs)) (Is.ite (fun hf=>Is.F (fun hh=>qh8.1 hf (hh.2.2.2.1 s hs))) (fun hf=>?_))
    have a4:=dn qh8 hf
    have a5:∀ t,At e m.From t→0≤m.Term∧m.Term≤t.Term:=fun t ht=>by cases ht.uniq hs; exact a4
    refine Is.ite (fun hA=>Is.of ?_) (fun hA=>Is.of ?_)
    ·simp only [Bool.and_eq_true,Bool.not_eq_true',q9e]
     exact ⟨fun ⟨⟨x,y⟩,z⟩=>⟨a1,a2,a3,a5,fun _=>⟨x,y,z⟩,fun hB=>(by rw [hA] at hB; cases hB)⟩,fun hh=>by
      obtain ⟨x,y,z⟩:=hh.2.2.2.2.1 hA
      exact ⟨⟨x,y⟩,z⟩⟩
    ·simp only [Bool.and_eq_true,decide_eq_true_eq]
     exact ⟨fun hx=>⟨a1,a2,a3,a5,fun hB=>(by rw [hA] at hB; cases hB),fun _=>hx⟩,fun hh=>hh.2.2.2.2.2 hA⟩
  ·unfold qda
   refine Is.all (Q:=fun _ v=>qn8 e.Servers.length v) (by omega) (fun i v hv=>?_) (fun hq3=>Is.of ?_) (fun hq3 hh=>hq3 hh.2.2.2)
   ·unfold qa8
    refine qkk ?_
    simp only [Bool.or_eq_true,qh8,qea]
    unfold qn8
    constructor
    ·rintro (h1 | h1) ⟨h2,h3⟩
     ·exact h1 h2
     ·exact h1 h3
    ·intro h1
     by_cases h2:0≤v.Term∧v.Term≤100
     ·exact .inr (fun h3=>h1 ⟨h2,h3⟩)
     ·exact .inl h2
   ·simp only [Bool.and_eq_true,q9e,decide_eq_true_eq]
    constructor
    ·rintro ⟨⟨⟨a,b⟩,c⟩,d⟩
     exact ⟨⟨⟨by omega,by omega⟩,by omega,by omega⟩,hq,hq2,hq3⟩
    ·rintro ⟨⟨⟨a,b⟩,c,d⟩,_⟩
     exact ⟨⟨⟨by omega,by omega⟩,by omega⟩,by omega⟩

structure Mo (s s':Server) : Prop where
 term:s.Term≤s'.Term
 vote:s'.Term=s.Term→s.Voted ≠ -1→s'.Voted=s.Voted
 log:s'.Log=s.Log
 got:s'.Got.length≤2*s.Got.length+1
theorem Mo.refl {s:Server} : Mo s s:=⟨Int.le_refl _,fun _ _=>rfl,rfl,by omega⟩
def Mono (e e':Election) : Prop:=e'.Servers.length=e.Servers.length∧∀ i s,At e i s→∃ s',At e' i s'∧Mo s s'
theorem Mono.set {e:Election}{k:Int}{s s':Server}{P:List Letter}{L:List Vote}(hk:At e k s)(h:Mo s s') : Mono e ⟨e.Servers.set k.toNat s',P,L⟩:=by
 obtain ⟨S,P0,L0⟩:=e
 refine ⟨by simp,fun i t ht=>?_⟩
 by_cases e1:i=k
 ·subst e1
  cases ht.uniq hk
  exact ⟨s',hk.self,h⟩
 ·exact ⟨t,ht.ne hk.1 e1,Mo.refl⟩
theorem qyk {l:List Int}{v:Int} : (qcl l v).length≤2*l.length+1:=by
 unfold qcl
 split
 ·omega
 ·have h5:=List.length_filter_le (fun z=>decide (z<v)) l
  have h6:=List.length_filter_le (fun z=>decide (v≤z)) l
  simp only [qh5,List.length_append,List.length_cons]
  omega
theorem qms {e:Election}{k:Int}{s s':Server}{P:List Letter}{L:List Vote}(hk:At e k s)(h:Mo s s') : Mono e (qal ⟨e.Servers.set k.toNat s',P,L⟩ k):=by
 have hs:At ⟨e.Servers.set k.toNat s',P,L⟩ k s':=hk.self
 unfold qal
 rw [hs.2]
 dsimp only
 split
 ·rw [List.set_set]
  exact Mono.set hk ⟨h.term,h.vote,h.log,h.got⟩
 ·exact Mono.set hk h
theorem q7p {s:Server}{t:Int} : Mo s (rise s t):=by
 rcases qcd (s:=s) (t:=t) with ⟨c,e1⟩ | ⟨c,e1⟩
 ·rw [e1]; exact ⟨by dsimp only; omega,fun h=>by dsimp only at h; omega,rfl,by simp⟩
 ·rw [e1]; exact Mo.refl
theorem qvt {e:Election}{m:Letter}(h0:0≤m.To)(h1:m.To<e.Servers.length) : Mono e (come e m):=by
 obtain ⟨s,hk⟩:=At.of h0 h1
 have hr:=q7p (s:=s) (t:=m.Term)
 have hrg:(rise s m.Term).Got.length≤s.Got.length:=by
  rcases qcd (s:=s) (t:=m.Term) with ⟨c,e1⟩ | ⟨c,e1⟩
  ·rw [e1]; simp
  ·rw [e1]; exact Nat.le_refl _
 unfold come
 rw [hk.2]
 dsimp only
 generalize rise s m.Term=R at *
 split
 ·refine Mono.set hk ?_
  split
  ·rename_i hg
   refine ⟨hr.term,fun h2 h3=>?_,hr.log,hr.got⟩
   simp only [qcx,Bool.and_eq_true,Bool.or_eq_true,decide_eq_true_eq] at hg
   have:=hr.vote h2 h3
   dsimp only
   rcases hg.1.2 with h4 | h4
   ·omega
   ·omega
  ·exact hr
 ·refine qms hk ?_
  split
  ·rename_i c
   refine ⟨hr.term,hr.vote,hr.log,?_⟩
   have:=qyk (l:=R.Got) (v:=m.From)
   show (qcl R.Got m.From).length≤2*s.Got.length+1
   omega
  ·exact hr
theorem qoh {e e':Election}{x:ElectStep}(hf:Fit e)(he:est e x=some e') : Mono e e':=by
 have hlt:∀ m,z8 e.Post x.Leader=some m→m∈e.Post:=by
  intro m hg
  unfold z8 at hg
  split at hg
  ·exact List.mem_of_getElem? hg
  ·cases hg
 unfold est at he
 split at he
 ·cases hg:z8 e.Servers x.Leader with
  | none=>rw [hg] at he; cases he
  | some s =>
   rw [hg] at he
   dsimp only at he
   split at he
   ·cases he
   cases he
   exact qms (qg9 hg) ⟨by dsimp only; omega,fun h=>by dsimp only at h; omega,rfl,by simp⟩
 split at he
 ·cases hg:z8 e.Servers x.Leader with
  | none=>rw [hg] at he; cases he
  | some s =>
   rw [hg] at he
   cases he
   exact Mono.set (qg9 hg) ⟨Int.le_refl _,fun _ _=>rfl,rfl,by simp⟩
 split at he
 ·cases hg:z8 e.Post x.Leader with
  | none=>rw [hg] at he; cases he
  | some m =>
   rw [hg] at he
   cases he
   have:=hf.po m (hlt m hg)
   exact qvt (e:=⟨e.Servers,e.Post.eraseIdx x.Leader.toNat,e.Led⟩) this.1 this.2
 split at he
 ·cases hg:z8 e.Post x.Leader with
  | none=>rw [hg] at he; cases he
  | some m =>
   rw [hg] at he
   cases he
   exact ⟨rfl,fun i s hs=>⟨s,hs,Mo.refl⟩⟩
 split at he
 ·cases hg:z8 e.Post x.Leader with
  | none=>rw [hg] at he; cases he
  | some m =>
   rw [hg] at he
   dsimp only at he
   split at he
   ·cases he
   cases he
   exact ⟨rfl,fun i s hs=>⟨s,hs,Mo.refl⟩⟩
 ·cases he
theorem Mono.nn {e e':Election}(hf:Fit e)(h:Mono e e')(hp:e'.Post.length≤1000)(hl:e'.Led.length≤10000) : e'.nn≤1048576:=by
 have h1:e'.nn=nnL Server.nn e'.Servers+(e'.Post.length+(e'.Led.length+0)):=rfl
 have h2:nnL Server.nn e'.Servers=e'.Servers.length+qcq Server.nn e'.Servers:=rfl
 have h4:=hf.n2
 have h0:=h.1
 have h5:qcq Server.nn e'.Servers≤e'.Servers.length*41:=qkw (fun x hx=>by
  obtain ⟨i,hi⟩:=List.getElem?_of_mem hx
  have hlt:i<e.Servers.length:=by have:=(List.getElem?_eq_some_iff.1 hi).1; omega
  obtain ⟨s,hs⟩:=At.of (e:=e) (i:=(i:Int)) (by omega) (by omega)
  obtain ⟨s',hs',hm⟩:=h.2 _ s hs
  cases hs'.uniq (At.nat hi)
  obtain ⟨b1,b2,_⟩:=hf.sv _ s hs
  have h8:=qgd b1
  have h9:=hm.got
  have h10:=hm.log
  have h6:x.nn=x.Got.length+(x.Log.length+0):=rfl
  rw [h10] at h6
  omega)
 have h6:e'.Servers.length*41≤5*41:=Nat.mul_le_mul_right _ (by omega)
 omega
theorem qqk {e:Election}{k:Int}{s:Server}(h:elP e)(hk:At e k s) : elP ⟨e.Servers.set k.toNat ⟨s.Term,s.Voted,false,false,[],s.Log⟩,e.Post,e.Led⟩:=by
 obtain ⟨S,P,L⟩:=e
 obtain ⟨h1,h2,h3,h4⟩:=h
 have hlen:(S.set k.toNat ⟨s.Term,s.Voted,false,false,[],s.Log⟩).length=S.length:=List.length_set ..
 refine ⟨by dsimp only at h1 ⊢; rw [hlen]; exact h1,fun i t ht=>?_,fun i m hm=>?_,by dsimp only at h4 ⊢; rw [hlen]; exact h4⟩
 ·dsimp only
  rw [hlen]
  rcases (At.nat (e:=⟨_,P,L⟩) ht).set (P':=P) (L':=L) hk.1 with ⟨_,rfl⟩ | ⟨_,ht⟩
  ·obtain ⟨a,b,c,d⟩:=h2 _ s hk.2
   exact ⟨⟨a.1,a.2.1,by simp⟩,qbf.2 ⟨by simp,by simp⟩,fun _ _=>rfl,d⟩
  ·exact h2 _ t ht.2
 ·obtain ⟨a,b,c,d,e1,e2⟩:=h3 i m hm
  unfold qol
  dsimp only
  rw [hlen]
  refine ⟨a,b,c,fun t ht=>?_,e1,e2⟩
  rcases ht.set (P':=P) (L':=L) hk.1 with ⟨e3,rfl⟩ | ⟨_,ht⟩
  ·exact d s (e3▸hk)
  ·exact d t ht
theorem qsm {e e':Election}{x:ElectStep}(h:elP e)(hx:x.Term=5)(he:est e x=some e') : elP e':=by
 unfold est at he
 rw [if_neg (by omega),if_pos hx] at he
 cases hg:z8 e.Servers x.Leader with
 | none=>rw [hg] at he; cases he
 | some s =>
  rw [hg] at he
  cases he
  exact qqk h (qg9 hg)
theorem StepElection_all {e:Election}{x:ElectStep}(h:e.nn≤1048576)(hs:elP e→Sta e) : ∃ r:Election × Bool,Ev (fun k=>qav k e x) r∧Ev (fun k=>qax k e x) r∧r.1.nn≤1048576∧(r.2=true→elP e∧est e x=some r.1∧elP r.1):=by
 obtain ⟨b,e1,hb⟩:=qcc h
 obtain ⟨b',e2,hb'⟩:=qbv h
 obtain rfl:b=b':=by cases b <;> cases b' <;> simp_all
 unfold qav qax
 cases b with
 | false=>exact ⟨(⟨[],[],[]⟩,false),Ev.bind e1 (Ev.iteT rfl Ev.rfl),Ev.bind e2 (Ev.iteT rfl Ev.rfl),by decide,by simp⟩
 | true =>
  have hg:=hb.1 rfl
  have hf:=hg.fit
  have hst:=qub (x:=x) hf
  cases he:est e x with
  | none =>
   rw [he] at hst
   have hi:=qsu (x:=x) (d:=fun _=>true) hf (hs hg) (fun e' h=>by rw [he] at h; cases h) (fun _ _ _=>rfl)
   rw [he] at hi
   exact ⟨(⟨[],[],[]⟩,false),Ev.bind e1 (Ev.iteF rfl (Ev.bind (qj4 h) (Ev.bind hst (Ev.bind (a:=true) (Ev.iteT rfl Ev.rfl) (Ev.iteT rfl Ev.rfl))))),Ev.bind e2 (Ev.iteF rfl (Ev.bind hi Ev.rfl)),by decide,by simp⟩
  | some e' =>
   rw [he] at hst
   have hk:=qko he
   have hm:=qoh hf he
   have hnn:e'.nn≤1048576:=hm.nn hf (by have:=hk.post hf.post; omega) (by have:=hk.led1; have:=hf.led; omega)
   obtain ⟨c,c1,hc⟩:=qcc hnn
   obtain ⟨c',c2,hc'⟩:=qbv hnn
   obtain rfl:c=c':=by cases c <;> cases c' <;> simp_all
   have hi:=qsu (x:=x) (d:=fun _=>c) hf (hs hg) (fun e2 h=>by rw [he] at h; cases h; exact c2) (fun e2 h5 h=>by rw [he] at h; cases h; exact hc.2 (qsm hg h5 he))
   rw [he] at hi
   cases c with
   | true=>exact ⟨(e',true),Ev.bind e1 (Ev.iteF rfl (Ev.bind (qj4 h) (Ev.bind hst (Ev.bind (a:=false) (Ev.iteF rfl (Ev.bind c1 Ev.rfl)) (Ev.iteF rfl (Ev.bind (qj4 hnn) Ev.rfl)))))),Ev.bind e2 (Ev.iteF rfl (Ev.bind hi Ev.rfl)),hnn,fun _=>⟨hg,rfl,hc.1 rfl⟩⟩
   | false=>exact ⟨(⟨[],[],[]⟩,false),Ev.bind e1 (Ev.iteF rfl (Ev.bind (qj4 h) (Ev.bind hst (Ev.bind (a:=true) (Ev.iteF rfl (Ev.bind c1 Ev.rfl)) (Ev.iteT rfl Ev.rfl))))),Ev.bind e2 (Ev.iteF rfl (Ev.bind hi Ev.rfl)),by decide,by simp⟩
end Go.Proofs.Ytpddolihbnfahaa.X
