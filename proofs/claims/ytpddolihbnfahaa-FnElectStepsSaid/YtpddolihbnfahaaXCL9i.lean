/- Elections: what a step does; what holds in each election that comes of steps (one vote of a server in a term). -/
import Derived.Test.YtpddolihbnfahaaXCK
import Derived.Test.YtpddolihbnfahaaXCLAput
set_option linter.unusedVariables false
set_option linter.unusedSimpArgs false
namespace Go.Proofs.Ytpddolihbnfahaa.X
open Go

def j0 (l:List Int) : Int:=match l.getLast? with
 | some x=>x
 | none => -1
def up9 (last long:Int)(l:List Int) : Bool:=decide (j0 l<last)||decide (last=j0 l)&&decide ((l.length:Int)≤long)
def qcl (l:List Int)(v:Int) : List Int:=if v∈l then l else qh5 l v
def qal (e:Election)(k:Int) : Election:=match e.Servers[k.toNat]? with
 | some s=>if s.Stands=true∧(e.Servers.length:Int)<2*s.Got.length then ⟨e.Servers.set k.toNat ⟨s.Term,s.Voted,false,true,s.Got,s.Log⟩,e.Post,e.Led++[⟨s.Term,k⟩]⟩ else e
 | none=>e
def asks (n:Nat)(k T last long:Int) : List Letter:=((qdy n).filter (fun z=>decide (z≠k))).map (fun z=>⟨z,k,T,true,last,long,false⟩)
def rise (s:Server)(t:Int) : Server:=if s.Term<t then ⟨t,-1,false,false,[],s.Log⟩ else s
def qcx (s:Server)(m:Letter) : Bool:=decide (m.Term=s.Term)&&(decide (s.Voted = -1)||decide (s.Voted=m.From))&&up9 m.Last m.Long s.Log
def come (e:Election)(m:Letter) : Election:=match e.Servers[m.To.toNat]? with
 | none=>e
 | some s0 =>
  if m.Asks=true then ⟨e.Servers.set m.To.toNat (if qcx (rise s0 m.Term) m=true then { rise s0 m.Term with Voted:=m.From } else rise s0 m.Term),e.Post++[⟨m.From,m.To,(rise s0 m.Term).Term,false,0,0,qcx (rise s0 m.Term) m⟩],e.Led⟩
  else qal ⟨e.Servers.set m.To.toNat (if m.Grant=true∧m.Term=(rise s0 m.Term).Term∧(rise s0 m.Term).Stands=true then { rise s0 m.Term with Got:=qcl (rise s0 m.Term).Got m.From } else rise s0 m.Term),e.Post,e.Led⟩ m.To
def est (e:Election)(x:ElectStep) : Option Election :=
 if x.Term=1 then (match z8 e.Servers x.Leader with
  | none=>none
  | some s=>if s.Leads=true∨s.Term=100∨20<(e.Post.length:Int)+e.Servers.length - 1 then none else some (qal ⟨e.Servers.set x.Leader.toNat ⟨s.Term+1,x.Leader,true,s.Leads,[x.Leader],s.Log⟩,e.Post++asks e.Servers.length x.Leader (s.Term+1) (j0 s.Log) s.Log.length,e.Led⟩ x.Leader))
 else if x.Term=5 then (match z8 e.Servers x.Leader with
  | none=>none
  | some s=>some ⟨e.Servers.set x.Leader.toNat ⟨s.Term,s.Voted,false,false,[],s.Log⟩,e.Post,e.Led⟩)
 else if x.Term=2 then (match z8 e.Post x.Leader with
  | none=>none
  | some m=>some (come ⟨e.Servers,e.Post.eraseIdx x.Leader.toNat,e.Led⟩ m))
 else if x.Term=3 then (match z8 e.Post x.Leader with
  | none=>none
  | some m=>some ⟨e.Servers,e.Post.eraseIdx x.Leader.toNat,e.Led⟩)
 else if x.Term=4 then (match z8 e.Post x.Leader with
  | none=>none
  | some m=>if e.Post.length=20 then none else some ⟨e.Servers,e.Post++[m],e.Led⟩)
 else none

def qgt (l:List Int) : Prop:=(∀ (i:Nat) (x:Int),l[i]? = some x→0≤x∧x≤100∧∀ y,0<i→l[i - 1]? = some y→y≤x)∧l.length≤30
theorem qy2 {l:List Int} : up9 (j0 l) l.length l=true:=by simp [up9]
theorem qvx {a b:List Int} : up9 (j0 a) a.length b=true∨up9 (j0 b) b.length a=true:=by
 simp only [up9,Bool.or_eq_true,Bool.and_eq_true,decide_eq_true_eq]
 omega
theorem qzi {l:List Int}{v z:Int}(h:z∈qcl l v) : z=v∨z∈l:=by
 unfold qcl at h
 split at h
 ·exact .inr h
 ·exact qnr.1 h
theorem qs2 {l:List Int}{v n:Int}(h:qck l n)(h0:0≤v)(h1:v<n) : qck (qcl l v) n:=by
 unfold qcl
 split
 ·exact h
 ·rename_i hv
  obtain ⟨a,b⟩:=qbf.1 h
  refine qbf.2 ⟨qvo a hv,fun z hz=>?_⟩
  rcases qnr.1 hz with rfl | hz
  ·exact ⟨h0,h1⟩
  ·exact b z hz

def At (e:Election)(i:Int)(s:Server) : Prop:=0≤i∧e.Servers[i.toNat]? = some s
theorem At.lt {e:Election}{i:Int}{s:Server}(h:At e i s) : 0≤i∧i<e.Servers.length:=by
 have:=(List.getElem?_eq_some_iff.1 h.2).1
 exact ⟨h.1,by omega⟩
theorem At.of {e:Election}{i:Int}(h0:0≤i)(h1:i<e.Servers.length) : ∃ s,At e i s:=⟨e.Servers[i.toNat]'(by omega),h0,List.getElem?_eq_getElem _⟩
theorem At.uniq {e:Election}{i:Int}{s t:Server}(h:At e i s)(h2:At e i t) : s=t:=Option.some.inj (h.2.symm.trans h2.2)
theorem At.set {S:List Server}{P P':List Letter}{L L':List Vote}{i k:Int}{s s':Server}(h0:0≤k)(h:At ⟨S.set k.toNat s',P,L⟩ i s) : (i=k∧s=s')∨(i≠k∧At ⟨S,P',L'⟩ i s):=by
 obtain ⟨h1,h2⟩:=h
 dsimp only at h2
 by_cases e:k.toNat=i.toNat
 ·left
  have hlt:k.toNat<S.length:=by
   have:=(List.getElem?_eq_some_iff.1 h2).1
   rw [←e] at this
   simpa using this
  rw [←e,List.getElem?_set_self hlt] at h2
  exact ⟨by omega,(Option.some.inj h2).symm⟩
 ·right
  rw [List.getElem?_set_ne e] at h2
  exact ⟨by omega,h1,h2⟩
theorem At.mk {S:List Server}{P P':List Letter}{L L':List Vote}{i:Int}{s:Server}(h:At ⟨S,P,L⟩ i s) : At ⟨S,P',L'⟩ i s:=h
theorem At.self {S:List Server}{P P':List Letter}{L L':List Vote}{k:Int}{s s':Server}(h:At ⟨S,P,L⟩ k s) : At ⟨S.set k.toNat s',P',L'⟩ k s':=by
 have:=h.lt
 refine ⟨h.1,?_⟩
 dsimp only at this ⊢
 exact List.getElem?_set_self (by omega)
theorem At.ne {S:List Server}{P P':List Letter}{L L':List Vote}{i k:Int}{s s':Server}(h:At ⟨S,P,L⟩ i s)(h0:0≤k)(hk:i≠k) : At ⟨S.set k.toNat s',P',L'⟩ i s:=by
 have:=h.1
 refine ⟨h.1,?_⟩
 dsimp only
 rw [List.getElem?_set_ne (by omega)]
 exact h.2

theorem qwm {α:Type}{p q:α→Bool} : ∀ {l:List α},(∀ x∈l,¬ (p x=true∧q x=true))→l.countP p+l.countP q≤l.length:=by
 intro l
 induction l with
 | nil=>intro _; simp
 | cons a l ih =>
  intro h
  have h1:=ih (fun x hx=>h x (by simp [hx]))
  have h2:=h a (by simp)
  rw [List.countP_cons,List.countP_cons,List.length_cons]
  cases hp:p a <;> cases hq:q a <;> simp_all <;> omega
theorem qrk {α:Type}{p q r:α→Bool} : ∀ {l:List α},(∀ x∈l,¬ (p x=true∧q x=true))→(∀ x∈l,p x=true∨q x=true→r x=true)→l.countP p+l.countP q≤l.countP r:=by
 intro l
 induction l with
 | nil=>intro _ _; simp
 | cons a l ih =>
  intro h h3
  have h1:=ih (fun x hx=>h x (by simp [hx])) (fun x hx=>h3 x (by simp [hx]))
  have h2:=h a (by simp)
  have h4:=h3 a (by simp)
  rw [List.countP_cons,List.countP_cons,List.countP_cons]
  cases hp:p a <;> cases hq:q a <;> cases hr:r a <;> simp_all <;> omega
theorem qlc {n:Nat} : ∀ {Q:List Int},Q.Pairwise (· < ·)→(∀ x∈Q,0≤x∧x<(n:Int))→Q.length≤(qdy n).countP (fun z=>decide (z∈Q)):=by
 intro Q
 induction Q with
 | nil=>intro _ _; simp
 | cons a Q ih =>
  intro h1 h2
  rw [List.pairwise_cons] at h1
  have h3:=ih h1.2 (fun x hx=>h2 x (by simp [hx]))
  have ha:=h2 a (by simp)
  have h4:0<(qdy n).countP (fun z=>decide (z=a)):=by
   rw [List.countP_pos_iff]
   refine ⟨a,?_,by simp⟩
   simp only [qdy,List.mem_map,List.mem_range]
   exact ⟨a.toNat,by omega,by omega⟩
  have h5:=qrk (p:=fun z=>decide (z=a)) (q:=fun z=>decide (z∈Q)) (r:=fun z=>decide (z∈a::Q)) (l:=qdy n) (fun x _=>by
   simp only [decide_eq_true_eq]
   rintro ⟨rfl,h⟩
   have:=h1.1 x h
   omega) (fun x _ h=>by
   simp only [decide_eq_true_eq] at h ⊢
   rcases h with rfl | h
   ·simp
   ·simp [h])
  rw [List.length_cons]
  omega
theorem zb9 {n:Nat}{Q R:List Int}(h1:qck Q n)(h2:qck R n)(h3:n<2*Q.length)(h4:n<2*R.length) : ∃ i,i∈Q∧i∈R:=by
 apply Classical.byContradiction
 intro hn
 obtain ⟨a1,a2⟩:=qbf.1 h1
 obtain ⟨b1,b2⟩:=qbf.1 h2
 have c1:=qlc a1 a2
 have c2:=qlc b1 b2
 have c3:=qwm (p:=fun z=>decide (z∈Q)) (q:=fun z=>decide (z∈R)) (l:=qdy n) (fun x _ h=>by
  simp only [decide_eq_true_eq] at h
  exact hn ⟨x,h.1,h.2⟩)
 rw [qkx] at c3
 omega

structure SrvI (n:Nat) (g:Int→Int→Int) (i:Int) (s:Server) : Prop where
 t0:0≤s.Term
 t1:s.Term≤100
 v0 : -1≤s.Voted
 v1:s.Voted<n
 sl:¬ (s.Stands=true∧s.Leads=true)
 got:qck s.Got n
 non:s.Stands=false→s.Leads=false→s.Got=[]
 log:qgt s.Log
 fut:∀ t,s.Term<t→g i t = -1
 cur:g i s.Term=s.Voted
 vot:∀ j∈s.Got,g j s.Term=i
structure LetI (e:Election) (g:Int→Int→Int) (m:Letter) : Prop where
 to0:0≤m.To
 to1:m.To<e.Servers.length
 fr:∃ s,At e m.From s∧m.Term≤s.Term∧(m.Asks=true→m.Last=j0 s.Log∧m.Long=s.Log.length)
 ne:m.To≠m.From
 t0:0≤m.Term
 ask:m.Asks=true→m.Grant=false
 ans:m.Asks=false→m.Last=0∧m.Long=0
 gr:m.Grant=true→g m.From m.Term=m.To
theorem LetI.cast {S:List Server}{P P':List Letter}{L L':List Vote}{g:Int→Int→Int}{m:Letter}(h:LetI ⟨S,P,L⟩ g m) : LetI ⟨S,P',L'⟩ g m:=⟨h.to0,h.to1,h.fr,h.ne,h.t0,h.ask,h.ans,h.gr⟩
def LedI (e:Election)(g:Int→Int→Int)(v:Vote) : Prop:=(0≤v.Term∧v.Term≤100)∧(∃ s,At e v.Leader s∧(v.Term<s.Term∨s.Term=v.Term∧s.Stands=false))∧∃ Q,qck Q e.Servers.length∧e.Servers.length<2*Q.length∧∀ i∈Q,g i v.Term=v.Leader
structure Inv (e:Election) (g:Int→Int→Int) : Prop where
 n1:1≤e.Servers.length
 n2:e.Servers.length≤5
 sv:∀ i s,At e i s→SrvI e.Servers.length g i s
 po:∀ m∈e.Post,LetI e g m
 up:∀ i s t,At e i s→g i t ≠ -1→∃ s',At e (g i t) s'∧up9 (j0 s'.Log) s'.Log.length s.Log=true
 led:∀ v∈e.Led,LedI e g v
 ldr:∀ i s,At e i s→s.Leads=true→(⟨s.Term,i⟩ : Vote)∈e.Led
 pw:e.Led.Pairwise (fun a b=>a.Term≠b.Term)
def Sta (e:Election) : Prop:=∀ i s,At e i s→s.Stands=true→2*s.Got.length≤e.Servers.length

theorem Inv.set {e:Election}{g g':Int→Int→Int}{k:Int}{s s':Server}{L:List Vote}(h:Inv e g)(hk:At e k s)(hlog:s'.Log=s.Log)(hterm:s.Term≤s'.Term)
  (hg:∀ i t,¬ (i=k∧t=s'.Term)→g' i t=g i t) (hx:g' k s'.Term=g k s'.Term∨g k s'.Term = -1) (hnew:g' k s'.Term ≠ -1→∃ s2,At e (g' k s'.Term) s2∧up9 (j0 s2.Log) s2.Log.length s.Log=true)
  (hs:SrvI e.Servers.length g' k s') (hst:s'.Term=s.Term→s.Stands=false→s'.Stands=false) (hl:s'.Leads=true→(⟨s'.Term,k⟩ : Vote)∈L)
  (hL:L=e.Led∨(L=e.Led++[⟨s'.Term,k⟩]∧s'.Stands=false∧(∃ Q,qck Q e.Servers.length∧e.Servers.length<2*Q.length∧∀ i∈Q,g' i s'.Term=k)∧∀ v∈e.Led,v.Term≠s'.Term)) : Inv ⟨e.Servers.set k.toNat s',e.Post,L⟩ g':=by
 obtain ⟨S,P,L0⟩:=e
 have hm:∀ i t,g i t ≠ -1→g' i t=g i t:=by
  intro i t hne
  by_cases c:i=k∧t=s'.Term
  ·obtain ⟨rfl,rfl⟩:=c
   rcases hx with h1 | h1
   ·exact h1
   ·exact absurd h1 hne
  ·exact hg i t c
 have hlen:(S.set k.toNat s').length=S.length:=by simp
 have hk0:=hk.1
 have hlt:=hk.lt
 -- who was there is there,with the same log and a term that's no less
 have old:∀ i t,At ⟨S,P,L0⟩ i t→∃ t',At ⟨S.set k.toNat s',P,L⟩ i t'∧t'.Log=t.Log∧t.Term≤t'.Term∧(t'.Term=t.Term→t.Stands=false→t'.Stands=false):=by
  intro i t ht
  by_cases e:i=k
  ·subst e
   cases ht.uniq hk
   exact ⟨s',ht.self,hlog,hterm,hst⟩
  ·exact ⟨t,ht.ne hk0 e,rfl,Int.le_refl _,fun _ h=>h⟩
 have hsub:∀ v∈L0,v∈L:=by
  intro v hv
  rcases hL with rfl | ⟨rfl,_⟩
  ·exact hv
  ·exact List.mem_append_left _ hv
 have hledI:∀ v∈L0,LedI ⟨S.set k.toNat s',P,L⟩ g' v:=by
  intro v hv
  obtain ⟨a,⟨t,ht,ht2⟩,Q,q1,q2,q3⟩:=h.led v hv
  obtain ⟨t',b1,_,b3,b4⟩:=old _ _ ht
  refine ⟨a,⟨t',b1,?_⟩,Q,by rw [show (Election.Servers ⟨S.set k.toNat s',P,L⟩).length=S.length from hlen]; exact q1,by rw [show (Election.Servers ⟨S.set k.toNat s',P,L⟩).length=S.length from hlen]; exact q2,fun i hi=>?_⟩
  ·rcases ht2 with h1 | ⟨h1,h2⟩
   ·exact .inl (by omega)
   ·by_cases c:t'.Term=t.Term
    ·exact .inr ⟨by omega,b4 c h2⟩
    ·exact .inl (by omega)
  ·have:=q3 i hi
   have h0:=ht.1
   rw [hm i v.Term (by omega),this]
 refine ⟨by dsimp only; rw [hlen]; exact h.n1,by dsimp only; rw [hlen]; exact h.n2,fun i t ht=>?_,fun m hm2=>?_,fun i t u ht hne=>?_,fun v hv=>?_,fun i t ht hl2=>?_,?_⟩
 ·dsimp only
  rw [hlen]
  rcases ht.set (P':=P) (L':=L0) hk0 with ⟨rfl,rfl⟩ | ⟨hne,ht⟩
  ·exact hs
  ·have o:=h.sv i t ht
   refine ⟨o.t0,o.t1,o.v0,o.v1,o.sl,o.got,o.non,o.log,fun u hu=>?_,?_,fun j hj=>?_⟩
   ·rw [hg i u (fun c=>hne c.1)]; exact o.fut u hu
   ·rw [hg i _ (fun c=>hne c.1)]; exact o.cur
   ·have:=o.vot j hj
    have h0:=ht.1
    rw [hm j _ (by omega),this]
 ·have o:=h.po m hm2
  obtain ⟨t,h1,h2,h3⟩:=o.fr
  obtain ⟨t',b1,b2,b3,_⟩:=old _ _ h1
  refine ⟨o.to0,by dsimp only; rw [hlen]; exact o.to1,⟨t',b1,by omega,fun ha=>?_⟩,o.ne,o.t0,o.ask,o.ans,fun hgr=>?_⟩
  ·rw [b2]; exact h3 ha
  ·have:=o.gr hgr
   have h0:=o.to0
   rw [hm _ _ (by omega),this]
 ·have key:∃ s2,At ⟨S,P,L0⟩ (g' i u) s2∧up9 (j0 s2.Log) s2.Log.length t.Log=true:=by
   rcases ht.set (P':=P) (L':=L0) hk0 with ⟨rfl,rfl⟩ | ⟨hn2,ht⟩
   ·by_cases c:u=t.Term
    ·subst c
     rw [hlog]
     exact hnew hne
    ·rw [hg i u (fun c2=>c c2.2)] at hne ⊢
     rw [hlog]
     exact h.up i s u hk hne
   ·rw [hg i u (fun c=>hn2 c.1)] at hne ⊢
    exact h.up i t u ht hne
  obtain ⟨s2,h1,h2⟩:=key
  obtain ⟨t',b1,b2,_⟩:=old _ _ h1
  exact ⟨t',b1,by rw [b2]; exact h2⟩
 ·rcases hL with rfl | ⟨rfl,c1,⟨Q,q1,q2,q3⟩,c2⟩
  ·exact hledI v hv
  ·rcases List.mem_append.1 hv with hv | hv
   ·exact hledI v hv
   ·simp at hv
    subst hv
    exact ⟨⟨hs.t0,hs.t1⟩,⟨s',hk.self,.inr ⟨rfl,c1⟩⟩,Q,by rw [show (Election.Servers ⟨S.set k.toNat s',P,L0++[⟨s'.Term,k⟩]⟩).length=S.length from hlen]; exact q1,by rw [show (Election.Servers ⟨S.set k.toNat s',P,L0++[⟨s'.Term,k⟩]⟩).length=S.length from hlen]; exact q2,q3⟩
 ·rcases ht.set (P':=P) (L':=L0) hk0 with ⟨rfl,rfl⟩ | ⟨hne,ht⟩
  ·exact hl hl2
  ·exact hsub _ (h.ldr i t ht hl2)
 ·dsimp only
  rcases hL with rfl | ⟨rfl,_,_,c2⟩
  ·exact h.pw
  ·rw [List.pairwise_append]
   exact ⟨h.pw,by simp,fun a ha b hb=>by simp at hb; subst hb; exact c2 a ha⟩
theorem Inv.post {S:List Server}{P P':List Letter}{L:List Vote}{g:Int→Int→Int}(h:Inv ⟨S,P,L⟩ g)(hp:∀ m∈P',LetI ⟨S,P',L⟩ g m) : Inv ⟨S,P',L⟩ g:=⟨h.n1,h.n2,h.sv,hp,h.up,h.led,h.ldr,h.pw⟩

theorem Inv.lead {e:Election}{g:Int→Int→Int}{k:Int}(h:Inv e g)(hk:∃ s,At e k s) : Inv (qal e k) g:=by
 obtain ⟨s,hk⟩:=hk
 have o:=h.sv k s hk
 unfold qal
 rw [hk.2]
 dsimp only
 split
 ·rename_i c
  have hc:e.Servers.length<2*s.Got.length:=by omega
  have hl:s.Leads=false:=Bool.eq_false_iff.2 (fun hh=>o.sl ⟨c.1,hh⟩)
  have hq:∃ Q,qck Q e.Servers.length∧e.Servers.length<2*Q.length∧∀ i∈Q,g i s.Term=k:=⟨s.Got,o.got,hc,o.vot⟩
  refine h.set (s':=⟨s.Term,s.Voted,false,true,s.Got,s.Log⟩) hk rfl (Int.le_refl _) (fun _ _ _=>rfl) (.inl rfl) (fun hne=>h.up k s _ hk hne) ⟨o.t0,o.t1,o.v0,o.v1,by simp,o.got,by simp,o.log,o.fut,o.cur,o.vot⟩ (fun _ _=>rfl) (fun _=>by simp) (.inr ⟨rfl,rfl,hq,fun v hv e1=>?_⟩)
  obtain ⟨_,⟨t,ht,ht2⟩,Q,q1,q2,q3⟩:=h.led v hv
  dsimp only at e1
  obtain ⟨i,i1,i2⟩:=zb9 q1 o.got q2 hc
  have a1:=q3 i i1
  have a2:=o.vot i i2
  rw [e1,a2] at a1
  rw [←a1] at ht
  cases ht.uniq hk
  rcases ht2 with h1 | ⟨h1,h2⟩
  ·omega
  ·rw [h2] at c
   exact absurd c.1 (by simp)
 ·exact h
theorem qe3 {e:Election}{k:Int} : (qal e k).Servers.length=e.Servers.length∧(qal e k).Post=e.Post∧(qal e k).Led.length≤e.Led.length+1∧e.Led.length≤(qal e k).Led.length:=by
 unfold qal
 cases e.Servers[k.toNat]? with
 | none=>exact ⟨rfl,rfl,by dsimp only; omega,by dsimp only; omega⟩
 | some s =>
  dsimp only
  split
  ·exact ⟨by simp,rfl,by simp,by simp⟩
  ·exact ⟨rfl,rfl,by omega,by omega⟩
theorem Sta.lead {e:Election}{k:Int}(h:∀ i s,i≠k→At e i s→s.Stands=true→2*s.Got.length≤e.Servers.length)(hk:∃ s,At e k s) : Sta (qal e k):=by
 obtain ⟨s,hk⟩:=hk
 intro i t ht hs
 rw [qe3.1]
 unfold qal at ht
 rw [hk.2] at ht
 dsimp only at ht
 split at ht
 ·obtain ⟨S,P,L⟩:=e
  rcases ht.set (P':=P) (L':=L) hk.1 with ⟨rfl,rfl⟩ | ⟨hne,ht⟩
  ·simp at hs
  ·exact h i t hne ht hs
 ·rename_i c
  by_cases e1:i=k
  ·subst e1
   cases ht.uniq hk
   have:¬ ((e.Servers.length:Int)<2*s.Got.length):=fun hh=>c ⟨hs,hh⟩
   omega
  ·exact h i t e1 ht hs
theorem qy1 {n:Nat}{k T last long:Int}{m:Letter}(h:m∈asks n k T last long) : (0≤m.To∧m.To<n)∧m.To≠k∧m=⟨m.To,k,T,true,last,long,false⟩:=by
 unfold asks at h
 simp only [List.mem_map,List.mem_filter,decide_eq_true_eq] at h
 obtain ⟨z,⟨hz,hne⟩,rfl⟩:=h
 exact ⟨qyv hz,hne,rfl⟩
theorem qyn {n:Nat}{k T last long:Int}(h0:0≤k)(h1:k<n) : (asks n k T last long).length+1≤n:=by
 unfold asks
 rw [List.length_map]
 have h2:=List.length_filter_lt_length_iff_exists (l:=qdy n) (p:=fun z=>decide (z≠k)) |>.2 ⟨k,by simp only [qdy,List.mem_map,List.mem_range]; exact ⟨k.toNat,by omega,by omega⟩,by simp⟩
 rw [qkx] at h2
 omega

structure Kept (e e':Election) : Prop where
 len:e'.Servers.length=e.Servers.length
 led1:e'.Led.length≤e.Led.length+1
 led0:e.Led.length≤e'.Led.length
 post:e.Post.length≤20→e'.Post.length≤20
theorem qg9 {e:Election}{k:Int}{s:Server}(h:z8 e.Servers k=some s) : At e k s:=by
 unfold z8 at h
 split at h
 ·rename_i h0
  exact ⟨h0,h⟩
 ·cases h
theorem qcd {s:Server}{t:Int} : (s.Term<t∧rise s t=⟨t,-1,false,false,[],s.Log⟩)∨(t≤s.Term∧rise s t=s):=by
 unfold rise
 split
 ·exact .inl ⟨by assumption,rfl⟩
 ·exact .inr ⟨by omega,rfl⟩
theorem Inv.rise {e:Election}{g:Int→Int→Int}{k t:Int}{s:Server}(h:Inv e g)(hk:At e k s)(ht:t≤100) : Inv ⟨e.Servers.set k.toNat (rise s t),e.Post,e.Led⟩ g:=by
 have o:=h.sv k s hk
 have h1:=o.t0
 rcases qcd (s:=s) (t:=t) with ⟨c,e1⟩ | ⟨c,e1⟩
 ·rw [e1]
  have hf:=o.fut t c
  have h3:=h.n1
  refine h.set (s':=⟨t,-1,false,false,[],s.Log⟩) hk rfl (by dsimp only; omega) (fun _ _ _=>rfl) (.inl rfl) (fun hne=>absurd hf hne) ⟨by dsimp only; omega,ht,by simp,by dsimp only; omega,by simp,qbf.2 ⟨by simp,by simp⟩,fun _ _=>rfl,o.log,fun u hu=>o.fut u (by dsimp only at hu; omega),hf,by simp⟩ (fun _ _=>rfl) (by simp) (.inl rfl)
 ·rw [e1]
  exact h.set (s':=s) hk rfl (Int.le_refl _) (fun _ _ _=>rfl) (.inl rfl) (fun hne=>h.up k s _ hk hne) o (fun _ h=>h) (fun hl=>h.ldr k s hk hl) (.inl rfl)
theorem Sta.set {S:List Server}{P P':List Letter}{L L':List Vote}{k:Int}{s':Server}(h:Sta ⟨S,P,L⟩)(h0:0≤k)(hs:s'.Stands=true→2*s'.Got.length≤S.length) : Sta ⟨S.set k.toNat s',P',L'⟩:=by
 intro i t ht hst
 dsimp only
 rw [List.length_set]
 rcases ht.set (P':=P) (L':=L) h0 with ⟨rfl,rfl⟩ | ⟨_,ht⟩
 ·exact hs hst
 ·exact h i t ht hst
theorem qzn {e:Election}{g:Int→Int→Int}{m:Letter}(h:Inv e g)(hs:Sta e)(hm:LetI e g m) : ∃ g',Inv (come e m) g'∧Sta (come e m):=by
 obtain ⟨s0,hk⟩:=At.of hm.to0 hm.to1
 obtain ⟨sf,hf1,hf2,hf3⟩:=hm.fr
 have of_:=h.sv _ _ hf1
 have ht1:=of_.t1
 have hr:=h.rise hk (t:=m.Term) (by omega)
 have hk':At ⟨e.Servers.set m.To.toNat (rise s0 m.Term),e.Post,e.Led⟩ m.To (rise s0 m.Term):=hk.self
 have o:=hr.sv _ _ hk'
 have hsr:(rise s0 m.Term).Stands=true→2*(rise s0 m.Term).Got.length≤e.Servers.length:=by
  rcases qcd (s:=s0) (t:=m.Term) with ⟨c,e1⟩ | ⟨c,e1⟩
  ·rw [e1]; simp
  ·rw [e1]; exact hs _ _ hk
 have hsS:Sta ⟨e.Servers.set m.To.toNat (rise s0 m.Term),e.Post,e.Led⟩:=hs.set hk.1 hsr
 have hle:m.Term≤(rise s0 m.Term).Term:=by
  rcases qcd (s:=s0) (t:=m.Term) with ⟨c,e1⟩ | ⟨c,e1⟩
  ·rw [e1]; exact Int.le_refl _
  ·rw [e1]; exact c
 have hlogr:(rise s0 m.Term).Log=s0.Log:=by
  rcases qcd (s:=s0) (t:=m.Term) with ⟨c,e1⟩ | ⟨c,e1⟩ <;> rw [e1]
 have hfr:At ⟨e.Servers.set m.To.toNat (rise s0 m.Term),e.Post,e.Led⟩ m.From sf:=hf1.ne hk.1 (Ne.symm hm.ne)
 unfold come
 rw [hk.2]
 dsimp only
 generalize hR:rise s0 m.Term=R at *
 have hset:∀ x:Server,(e.Servers.set m.To.toNat R).set m.To.toNat x=e.Servers.set m.To.toNat x:=fun x=>List.set_set ..
 by_cases ha:m.Asks=true
 ·rw [if_pos ha]
  -- the answer
  have hans:∀ (g':Int→Int→Int) (R':Server) (b:Bool),R'.Term=R.Term→(b=true→g' m.To R.Term=m.From)→LetI ⟨e.Servers.set m.To.toNat R',e.Post++[⟨m.From,m.To,R.Term,false,0,0,b⟩],e.Led⟩ g' ⟨m.From,m.To,R.Term,false,0,0,b⟩:=by
   intro g' R' b h1 h2
   have hfl:=hf1.lt
   exact ⟨hfl.1,by dsimp only; rw [List.length_set]; exact hfl.2,⟨R',hk.self,by dsimp only; omega,fun h=>(nomatch h)⟩,Ne.symm hm.ne,o.t0,fun h=>(nomatch h),fun _=>⟨rfl,rfl⟩,h2⟩
  by_cases hgr:qcx R m=true
  ·rw [if_pos hgr,hgr]
   simp only [qcx,Bool.and_eq_true,Bool.or_eq_true,decide_eq_true_eq] at hgr
   obtain ⟨⟨g1,g2⟩,g3⟩:=hgr
   have hcur:=o.cur
   have hfl:=hf1.lt
   have hne0:m.From ≠ -1:=by omega
   refine ⟨fun i t=>if i=m.To∧t=R.Term then m.From else g i t,?_,?_⟩
   ·have hI:=hr.set (g':=fun i t=>if i=m.To∧t=R.Term then m.From else g i t) (s':={ R with Voted:=m.From }) (L:=e.Led) hk' rfl (Int.le_refl _) (fun i t hn=>if_neg hn) (by
      dsimp only
      rw [if_pos ⟨rfl,rfl⟩]
      rcases g2 with g2 | g2
      ·right; rw [hcur,g2]
      ·left; rw [hcur,g2]) (fun _=>by
      dsimp only
      rw [if_pos ⟨rfl,rfl⟩]
      refine ⟨sf,hfr,?_⟩
      have:=hf3 ha
      rw [←this.1,← this.2]
      exact g3) ?_ (fun _ h=>h) (fun hl=>hr.ldr _ R hk' hl) (.inl rfl)
    ·dsimp only at hI
     rw [hset] at hI
     refine hI.post (fun x hx=>?_)
     rcases List.mem_append.1 hx with hx | hx
     ·exact (hI.po x hx).cast
     ·simp only [List.mem_singleton] at hx
      subst hx
      exact hans _ _ true rfl (fun _=>if_pos ⟨rfl,rfl⟩)
    ·have hlen:(e.Servers.set m.To.toNat R).length=e.Servers.length:=List.length_set ..
     refine ⟨o.t0,o.t1,by dsimp only; omega,by dsimp only; rw [hlen]; omega,o.sl,o.got,o.non,o.log,fun u hu=>?_,?_,fun j hj=>?_⟩
     ·dsimp only at hu ⊢
      rw [if_neg (by omega)]
      exact o.fut u hu
     ·dsimp only
      rw [if_pos ⟨rfl,rfl⟩]
     ·dsimp only at hj ⊢
      have hv:=o.vot j hj
      split
      ·rename_i c
       obtain ⟨rfl,_⟩:=c
       -- the server itself is among its own votes: it voted for itself
       rw [hcur] at hv
       rcases g2 with g2 | g2
       ·have:=hk.1; omega
       ·have:=hm.ne; omega
      ·exact hv
   ·exact hs.set hk.1 hsr
  ·rw [if_neg hgr]
   have hgr':qcx R m=false:=by simpa using hgr
   rw [hgr']
   refine ⟨g,?_,hs.set hk.1 hsr⟩
   refine hr.post (fun x hx=>?_)
   rcases List.mem_append.1 hx with hx | hx
   ·exact (hr.po x hx).cast
   ·simp only [List.mem_singleton] at hx
    subst hx
    exact hans g R false rfl (fun h=>(nomatch h))
 ·rw [if_neg ha]
  have hleadS:∀ X:Server,(X.Stands=true→True)→∃ s,At ⟨e.Servers.set m.To.toNat X,e.Post,e.Led⟩ m.To s:=fun X _=>⟨X,hk.self⟩
  refine ⟨g,?_,Sta.lead (fun i t hne ht hst=>?_) (hleadS _ (fun _=>trivial))⟩
  ·refine Inv.lead ?_ (hleadS _ (fun _=>trivial))
   split
   ·rename_i c
    have hlen:(e.Servers.set m.To.toNat R).length=e.Servers.length:=List.length_set ..
    have hfl:=hf1.lt
    have hI:=hr.set (g':=g) (s':={ R with Got:=qcl R.Got m.From }) (L:=e.Led) hk' rfl (Int.le_refl _) (fun _ _ _=>rfl) (.inl rfl) (fun hne=>hr.up _ R _ hk' hne) ⟨o.t0,o.t1,o.v0,o.v1,o.sl,qs2 o.got hfl.1 (by rw [hlen]; exact hfl.2),fun h1 _=>(by rw [c.2.2] at h1; cases h1),o.log,o.fut,o.cur,fun j hj=>?_⟩ (fun _ h=>h) (fun hl=>hr.ldr _ R hk' hl) (.inl rfl)
    ·dsimp only at hI
     rw [hset] at hI
     exact hI
    ·rcases qzi hj with rfl | hj
     ·have:=hm.gr c.1
      rw [c.2.1] at this
      exact this
     ·exact o.vot j hj
   ·exact hr
  ·dsimp only
   rw [List.length_set]
   rcases ht.set (P':=e.Post) (L':=e.Led) hk.1 with ⟨rfl,_⟩ | ⟨_,ht⟩
   ·exact absurd rfl hne
   ·exact hs i t ht hst
theorem qxa {e:Election}{m:Letter} : (come e m).Servers.length=e.Servers.length∧(come e m).Led.length≤e.Led.length+1∧e.Led.length≤(come e m).Led.length∧(come e m).Post.length≤e.Post.length+1:=by
 unfold come
 cases e.Servers[m.To.toNat]? with
 | none=>exact ⟨rfl,by dsimp only; omega,by dsimp only; omega,by dsimp only; omega⟩
 | some s =>
  dsimp only
  split
  ·exact ⟨by simp,by dsimp only; omega,by dsimp only; omega,by simp⟩
  ·refine ⟨qe3.1.trans (by simp),?_,?_,?_⟩
   ·have:=qe3 (e:=⟨e.Servers.set m.To.toNat (if m.Grant=true∧m.Term=(rise s m.Term).Term∧(rise s m.Term).Stands=true then { rise s m.Term with Got:=qcl (rise s m.Term).Got m.From } else rise s m.Term),e.Post,e.Led⟩) (k:=m.To)
    exact this.2.2.1
   ·have:=qe3 (e:=⟨e.Servers.set m.To.toNat (if m.Grant=true∧m.Term=(rise s m.Term).Term∧(rise s m.Term).Stands=true then { rise s m.Term with Got:=qcl (rise s m.Term).Got m.From } else rise s m.Term),e.Post,e.Led⟩) (k:=m.To)
    exact this.2.2.2
   ·rw [qe3.2.1]
    dsimp only
    omega
theorem q72 {e e':Election}{g:Int→Int→Int}{x:ElectStep}(h:Inv e g)(hs:Sta e)(he:est e x=some e') : ∃ g',Inv e' g'∧Sta e':=by
 unfold est at he
 split at he
 ·cases hg:z8 e.Servers x.Leader with
  | none=>rw [hg] at he; cases he
  | some s =>
   rw [hg] at he
   dsimp only at he
   split at he
   ·cases he
   rename_i c
   cases he
   have hk:=qg9 hg
   have hkl:=hk.lt
   have o:=h.sv _ _ hk
   have hl:s.Leads=false:=Bool.eq_false_iff.2 (fun hh=>c (.inl hh))
   have ht:s.Term≠100:=fun hh=>c (.inr (.inl hh))
   have t0:=o.t0
   have t1:=o.t1
   have hfut:=o.fut (s.Term+1) (by omega)
   refine ⟨fun i t=>if i=x.Leader∧t=s.Term+1 then x.Leader else g i t,?_,Sta.lead (fun i t hne ht hst=>?_) ⟨_,hk.self⟩⟩
   ·refine Inv.lead ?_ ⟨_,hk.self⟩
    have hI:=h.set (g':=fun i t=>if i=x.Leader∧t=s.Term+1 then x.Leader else g i t) (s':=⟨s.Term+1,x.Leader,true,s.Leads,[x.Leader],s.Log⟩) (L:=e.Led) hk rfl (by dsimp only; omega) (fun i t hn=>by dsimp only at hn ⊢; rw [if_neg hn]) (.inr hfut) (fun _=>by
      dsimp only
      rw [if_pos ⟨rfl,rfl⟩]
      exact ⟨s,hk,qy2⟩) ⟨by dsimp only; omega,by dsimp only; omega,by dsimp only; omega,by dsimp only; omega,by simp [hl],qbf.2 ⟨by simp,by simpa using hkl⟩,by simp,o.log,fun u hu=>by
       dsimp only at hu ⊢
       rw [if_neg (by omega)]
       exact o.fut u (by omega),by simp,fun j hj=>by
       simp only [List.mem_singleton] at hj
       subst hj
       simp⟩ (fun h1=>by dsimp only at h1; omega) (fun h1=>by dsimp only at h1; rw [hl] at h1; cases h1) (.inl rfl)
    refine hI.post (fun m hm=>?_)
    rcases List.mem_append.1 hm with hm | hm
    ·exact (hI.po m hm).cast
    ·obtain ⟨h1,h2,h3⟩:=qy1 hm
     rw [h3]
     exact ⟨h1.1,by dsimp only; rw [List.length_set]; exact h1.2,⟨_,hk.self,Int.le_refl _,fun _=>⟨rfl,rfl⟩⟩,h2,by dsimp only; omega,fun _=>rfl,fun h=>(nomatch h),fun h=>(nomatch h)⟩
   ·dsimp only
    rw [List.length_set]
    rcases ht.set (P':=e.Post) (L':=e.Led) hk.1 with ⟨rfl,_⟩ | ⟨_,ht⟩
    ·exact absurd rfl hne
    ·exact hs i t ht hst
 split at he
 ·cases hg:z8 e.Servers x.Leader with
  | none=>rw [hg] at he; cases he
  | some s =>
   rw [hg] at he
   dsimp only at he
   cases he
   have hk:=qg9 hg
   have o:=h.sv _ _ hk
   refine ⟨g,?_,hs.set hk.1 (by simp)⟩
   exact h.set (s':=⟨s.Term,s.Voted,false,false,[],s.Log⟩) hk rfl (Int.le_refl _) (fun _ _ _=>rfl) (.inl rfl) (fun hne=>h.up _ s _ hk hne) ⟨o.t0,o.t1,o.v0,o.v1,by simp,qbf.2 ⟨by simp,by simp⟩,fun _ _=>rfl,o.log,o.fut,o.cur,by simp⟩ (fun _ _=>rfl) (by simp) (.inl rfl)
 have hrem:∀ i:Nat,Inv ⟨e.Servers,e.Post.eraseIdx i,e.Led⟩ g:=fun i=>h.post (P:=e.Post) (fun m hm=>(h.po m (List.mem_of_mem_eraseIdx hm)).cast)
 split at he
 ·cases hg:z8 e.Post x.Leader with
  | none=>rw [hg] at he; cases he
  | some m =>
   rw [hg] at he
   dsimp only at he
   cases he
   have hm:m∈e.Post:=by
    unfold z8 at hg
    split at hg
    ·exact List.mem_of_getElem? hg
    ·cases hg
   exact qzn (hrem _) hs (h.po m hm).cast
 split at he
 ·cases hg:z8 e.Post x.Leader with
  | none=>rw [hg] at he; cases he
  | some m =>
   rw [hg] at he
   dsimp only at he
   cases he
   exact ⟨g,hrem _,hs⟩
 split at he
 ·cases hg:z8 e.Post x.Leader with
  | none=>rw [hg] at he; cases he
  | some m =>
   rw [hg] at he
   dsimp only at he
   split at he
   ·cases he
   cases he
   have hm:m∈e.Post:=by
    unfold z8 at hg
    split at hg
    ·exact List.mem_of_getElem? hg
    ·cases hg
   refine ⟨g,h.post (P:=e.Post) (fun y hy=>?_),hs⟩
   rcases List.mem_append.1 hy with hy | hy
   ·exact (h.po y hy).cast
   ·simp only [List.mem_singleton] at hy
    subst hy
    exact (h.po y hm).cast
 ·cases he
theorem qko {e e':Election}{x:ElectStep}(he:est e x=some e') : Kept e e':=by
 unfold est at he
 split at he
 ·cases hg:z8 e.Servers x.Leader with
  | none=>rw [hg] at he; cases he
  | some s =>
   rw [hg] at he
   dsimp only at he
   split at he
   ·cases he
   rename_i c
   cases he
   have hk:=(qg9 hg).lt
   have h1:=qe3 (e:=⟨e.Servers.set x.Leader.toNat ⟨s.Term+1,x.Leader,true,s.Leads,[x.Leader],s.Log⟩,e.Post++asks e.Servers.length x.Leader (s.Term+1) (j0 s.Log) s.Log.length,e.Led⟩) (k:=x.Leader)
   refine ⟨h1.1.trans (by simp),h1.2.2.1,h1.2.2.2,fun hp=>?_⟩
   rw [h1.2.1]
   have h2:=qyn (n:=e.Servers.length) (T:=s.Term+1) (last:=j0 s.Log) (long:=s.Log.length) hk.1 hk.2
   have h3:¬ 20<(e.Post.length:Int)+e.Servers.length - 1:=fun hh=>c (.inr (.inr hh))
   rw [List.length_append]
   omega
 split at he
 ·cases hg:z8 e.Servers x.Leader with
  | none=>rw [hg] at he; cases he
  | some s =>
   rw [hg] at he
   dsimp only at he
   cases he
   exact ⟨by simp,by dsimp only; omega,by dsimp only; omega,fun h=>h⟩
 have hlt:∀ m,z8 e.Post x.Leader=some m→x.Leader.toNat<e.Post.length:=by
  intro m hg
  unfold z8 at hg
  split at hg
  ·exact (List.getElem?_eq_some_iff.1 hg).1
  ·cases hg
 split at he
 ·cases hg:z8 e.Post x.Leader with
  | none=>rw [hg] at he; cases he
  | some m =>
   have hl:=hlt m hg
   rw [hg] at he
   dsimp only at he
   cases he
   have h1:=qxa (e:=⟨e.Servers,e.Post.eraseIdx x.Leader.toNat,e.Led⟩) (m:=m)
   refine ⟨h1.1,h1.2.1,h1.2.2.1,fun hp=>?_⟩
   have h2:=h1.2.2.2
   dsimp only at h2
   rw [List.length_eraseIdx,if_pos hl] at h2
   omega
 split at he
 ·cases hg:z8 e.Post x.Leader with
  | none=>rw [hg] at he; cases he
  | some m =>
   rw [hg] at he
   dsimp only at he
   cases he
   exact ⟨rfl,by dsimp only; omega,by dsimp only; omega,fun hp=>by
    dsimp only
    have:=List.length_eraseIdx_le e.Post x.Leader.toNat
    omega⟩
 split at he
 ·cases hg:z8 e.Post x.Leader with
  | none=>rw [hg] at he; cases he
  | some m =>
   rw [hg] at he
   dsimp only at he
   split at he
   ·cases he
   cases he
   exact ⟨rfl,by dsimp only; omega,by dsimp only; omega,fun hp=>by simp; omega⟩
 ·cases he
theorem Inv.one {e:Election}{g:Int→Int→Int}(h:Inv e g){v w:Vote}(hv:v∈e.Led)(hw:w∈e.Led)(ht:v.Term=w.Term) : v=w:=by
 have:=h.pw
 generalize e.Led=l at *
 induction l with
 | nil=>cases hv
 | cons a l ih =>
  rw [List.pairwise_cons] at this
  rcases List.mem_cons.1 hv with rfl | hv' <;> rcases List.mem_cons.1 hw with rfl | hw'
  ·rfl
  ·exact absurd ht (this.1 w hw')
  ·exact absurd ht.symm (this.1 v hv')
  ·exact ih hv' hw' this.2
end Go.Proofs.Ytpddolihbnfahaa.X
