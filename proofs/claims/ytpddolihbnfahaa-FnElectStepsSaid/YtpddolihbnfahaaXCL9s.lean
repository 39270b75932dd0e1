/- A step of an election: what it does, on both sides. -/
import Derived.Test.YtpddolihbnfahaaXCL9a
set_option linter.unusedVariables false
set_option linter.unusedSimpArgs false
namespace Go.Proofs.Ytpddolihbnfahaa.X
open Go

structure Fit (e:Election) : Prop where
 n1:1≤e.Servers.length
 n2:e.Servers.length≤5
 post:e.Post.length≤20
 led:e.Led.length≤1000
 sv:∀ i s,At e i s→qck s.Got e.Servers.length∧s.Log.length≤30∧0≤s.Term∧s.Term≤100
 po:∀ m∈e.Post,0≤m.To∧m.To<e.Servers.length
theorem At.nat {e:Election}{i:Nat}{s:Server}(h:e.Servers[i]? = some s) : At e (i:Int) s:=⟨by omega,by rw [Int.toNat_natCast]; exact h⟩
theorem elP.fit {e:Election}(h:elP e) : Fit e:=by
 obtain ⟨⟨⟨a1,a2⟩,a3,a4⟩,h1,h2,h3⟩:=h
 refine ⟨a1,a2,a3,by omega,fun i s hs=>?_,fun m hm=>?_⟩
 ·obtain ⟨b1,b2,_,b4⟩:=h1 _ s hs.2
  exact ⟨b2,b4.2,b1.1⟩
 ·obtain ⟨i,hi⟩:=List.getElem?_of_mem hm
  exact (h2 i m hi).1
theorem Inv.fit {e:Election}{g:Int→Int→Int}(h:Inv e g)(h1:e.Post.length≤20)(h2:e.Led.length≤1000) : Fit e:=⟨h.n1,h.n2,h1,h2,fun i s hs=>⟨(h.sv i s hs).got,(h.sv i s hs).log.2,(h.sv i s hs).t0,(h.sv i s hs).t1⟩,fun m hm=>⟨(h.po m hm).to0,(h.po m hm).to1⟩⟩
theorem Fit.nn {e:Election}(h:Fit e) : e.nn≤1048576:=by
 have h1:e.nn=nnL Server.nn e.Servers+(e.Post.length+(e.Led.length+0)):=rfl
 have h2:nnL Server.nn e.Servers=e.Servers.length+qcq Server.nn e.Servers:=rfl
 have h4:=h.n2
 have h5:qcq Server.nn e.Servers≤e.Servers.length*35:=qkw (fun x hx=>by
  obtain ⟨i,hi⟩:=List.getElem?_of_mem hx
  have h7:=h.sv _ x (At.nat hi)
  have h8:=qgd h7.1
  have h6:x.nn=x.Got.length+(x.Log.length+0):=rfl
  omega)
 have h6:e.Servers.length*35≤5*35:=Nat.mul_le_mul_right _ h4
 have:=h.post
 have:=h.led
 omega

theorem qmt {B:List Letter→List Vote→Nat→Server→Election→Option (Oc Election Election)}{e:Election}(h:e.nn≤1048576)(hB:∀ i x s,e.Servers[i]? = some x→s.Servers.length≤1048576→B e.Post e.Led i x s=some (.nxt ⟨s.Servers++[x],e.Post,e.Led⟩)) :
  Ev (fun _=>ki (B e.Post e.Led) e.Servers ⟨[],e.Post,e.Led⟩) (.nxt e):=by
 obtain ⟨n1,n2,n3,n4⟩:=qhp h
 refine uo (B:=fun _=>B e.Post e.Led) (by omega) (fun i q s=>e.Servers.drop i=q∧s=⟨e.Servers.take i,e.Post,e.Led⟩) ⟨rfl,by simp⟩ (fun i x q s ⟨hq,hs⟩ => .inl ?_) (fun i s ⟨hq,hs⟩=>?_)
 ·subst hs
  have hx:e.Servers[i]? = some x:=by have:=congrArg (fun z=>z[0]?) hq; simpa using this
  refine ⟨_,Ev.of (hB i x _ hx (by dsimp only; rw [List.length_take]; omega)),by have:=congrArg (List.drop 1) hq; simpa [List.drop_drop] using this,?_⟩
  dsimp only
  rw [List.take_add_one,hx]
  rfl
 ·subst hs
  have hi:e.Servers.length≤i:=by have:=congrArg List.length hq; simp at this; omega
  rw [List.take_of_length_le hi]
theorem qw4 {e:Election}(h:e.nn≤1048576){i:Nat}{x:Server}{s:Election}(hx:e.Servers[i]? = some x)(hs:s.Servers.length≤1048576) : qbu e.Post e.Led i x s=some (.nxt ⟨s.Servers++[x],e.Post,e.Led⟩):=by
 have:=(qhp h).2.2.2 i x hx
 unfold qbu
 rw [qch (by omega),Option.bind_some,qch (by omega),Option.bind_some]
 unfold kd
 rw [if_pos (by simp; omega)]
 rfl
theorem qj4 {e:Election}(h:e.nn≤1048576) : Ev (fun _=>qce e) e:=by
 obtain ⟨n1,n2,n3,n4⟩:=qhp h
 unfold qce
 exact Ev.bindp (qch (by omega)) (Ev.bindp (qch (by omega)) (Ev.jn (qmt (B:=qbu) h (fun i x s hx hs=>qw4 h hx hs)) Ev.rfl))
theorem za8 {e:Election}(h:e.nn≤1048576) : Ev (fun _=>qau e) e:=by
 obtain ⟨n1,n2,n3,n4⟩:=qhp h
 unfold qau
 exact Ev.bindp (qch (by omega)) (Ev.bindp (qch (by omega)) (Ev.jn (qmt (B:=qa9) h (fun i x s hx hs=>qw4 h hx hs)) Ev.rfl))

theorem y9 {e:Election}{k:Int}{s:Server}(h:At e k s) : z8 e.Servers k=some s:=by
 unfold z8
 rw [if_pos h.1]
 exact h.2
theorem qov {e:Election}{k:Int}{s:Server}(hk:At e k s)(hg:s.Got.length≤1000)(hl:e.Led.length≤1000) : qdi e k=some (qal e k):=by
 unfold qdi qal
 rw [y9 hk,hk.2,Option.bind_some]
 dsimp only
 rw [kt (n:=(2:Int)*(s.Got.length:Int)) (by omega) (by omega)]
 by_cases c:s.Stands=true∧(e.Servers.length:Int)<2*s.Got.length
 ·rw [if_pos c,if_pos (by simpa using c)]
  unfold kd
  rw [if_pos (by simp only [List.length_cons,List.length_nil]; omega)]
  rfl
 ·rw [if_neg c,if_neg (by simpa using c)]
theorem qnk {e:Election}{k:Int}{s:Server}(hk:At e k s)(hg:s.Got.length≤1000)(hl:e.Led.length≤1000) : xq e k=some (qal e k):=qov hk hg hl
theorem q8g {e:Election}{k:Int}{s:Server}(hk:At e k s)(h:s.Stands=true→2*s.Got.length≤e.Servers.length) : qal e k=e:=by
 unfold qal
 rw [hk.2]
 dsimp only
 rw [if_neg]
 rintro ⟨a,b⟩
 have:=h a
 omega

theorem qmo {n:Nat}{k T last long:Int} : asks (n+1) k T last long=if (n:Int)≠k then asks n k T last long++[⟨n,k,T,true,last,long,false⟩] else asks n k T last long:=by
 unfold asks
 rw [qtq,List.filter_append]
 by_cases h:(n:Int)=k
 ·rw [if_neg (by simpa using h),List.filter_cons_of_neg (by simpa using h)]
  simp
 ·rw [if_pos h,List.filter_cons_of_pos (by simpa using h)]
  simp
theorem qmq {n:Nat}{k T last long:Int} : (asks n k T last long).length≤n:=by
 unfold asks
 rw [List.length_map]
 exact Nat.le_trans (List.length_filter_le _ _) (by rw [qkx]; exact Nat.le_refl _)
def tmo (e:Election)(k:Int)(s:Server) : Option Election:=if s.Leads=true∨s.Term=100∨20<(e.Post.length:Int)+e.Servers.length - 1 then none else some (qal ⟨e.Servers.set k.toNat ⟨s.Term+1,k,true,s.Leads,[k],s.Log⟩,e.Post++asks e.Servers.length k (s.Term+1) (j0 s.Log) s.Log.length,e.Led⟩ k)
theorem qhw {l:List Letter}{m:Letter}(h:l.length≤1000) : kd 56 l [m]=some (l++[m]):=by
 unfold kd
 rw [if_pos (by simp only [List.length_cons,List.length_nil]; omega)]
theorem qi0 {e:Election}{s:Server}(h1:e.Post.length≤20)(h2:e.Servers.length≤5) : ((s.Leads||(decide (s.Term=100)))||(decide ((20:Int)<(IntKind.wrap .i64 ((IntKind.wrap .i64 ((List.length e.Post:Int)+(List.length e.Servers:Int))) - 1)))))=true↔(s.Leads=true∨s.Term=100∨20<(e.Post.length:Int)+e.Servers.length - 1):=by
 rw [kt (n:=(List.length e.Post:Int)+(List.length e.Servers:Int)) (by omega) (by omega),kt (n:=(List.length e.Post:Int)+(List.length e.Servers:Int) - 1) (by omega) (by omega)]
 simp only [Bool.or_eq_true,decide_eq_true_eq,or_assoc]
theorem zbo {e:Election}{k:Int}{s:Server}(hf:Fit e)(hk:At e k s) : Ev (fun _=>qcs e k) (match tmo e k s with | some e'=>(e',true) | none=>(e,false)):=by
 have h1:=hf.post
 have h2:=hf.n2
 have h3:=hf.led
 obtain ⟨_,h5,h6,h7⟩:=hf.sv k s hk
 unfold qcs tmo
 refine Ev.bindp (y9 hk) ?_
 by_cases c:s.Leads=true∨s.Term=100∨20<(e.Post.length:Int)+e.Servers.length - 1
 ·rw [if_pos c]
  exact Ev.iteT ((qi0 h1 h2).2 c) Ev.rfl
 ·rw [if_neg c]
  refine Ev.iteF (bF (qi0 h1 h2) c) ?_
  simp only [qir]
  refine Ev.jn (s:=⟨e.Servers,e.Post++asks e.Servers.length k (s.Term+1) (j0 s.Log) s.Log.length,e.Led⟩) (uo (B:=fun _ i _ t=>qaw e k s i t) (by simp; omega) (fun i q t=>i+q.length=e.Servers.length∧t=⟨e.Servers,e.Post++asks i k (s.Term+1) (j0 s.Log) s.Log.length,e.Led⟩) ⟨by simp,by simp [asks,qdy]⟩ (fun i _ q t ⟨e1,ht⟩ => .inl ?_) (fun i t ⟨e1,ht⟩=>?_)) ?_
  ·subst ht
   simp only [List.length_cons] at e1
   refine ⟨⟨e.Servers,e.Post++asks (i+1) k (s.Term+1) (j0 s.Log) s.Log.length,e.Led⟩,Ev.of ?_,by omega,rfl⟩
   have:=qmq (n:=i) (k:=k) (T:=s.Term+1) (last:=j0 s.Log) (long:=s.Log.length)
   unfold qaw
   rw [qmo]
   by_cases hik:(i:Int)=k
   ·rw [if_neg (by simpa using hik),if_neg (by simpa using hik)]
   ·rw [if_pos (by simpa using hik),if_pos hik,qie (by omega),Option.bind_some,kt (n:=s.Term+1) (by omega) (by omega),qhw (by simp; omega),Option.bind_some,List.append_assoc]
  ·subst ht
   simp only [List.length_nil,Nat.add_zero] at e1
   rw [e1]
  ·unfold qek
   rw [kt (n:=s.Term+1) (by omega) (by omega)]
   refine Ev.bindp (qov (e:=⟨e.Servers.set k.toNat ⟨s.Term+1,k,true,s.Leads,[k],s.Log⟩,_,e.Led⟩) (hk.self (P':=e.Post++asks e.Servers.length k (s.Term+1) (j0 s.Log) s.Log.length) (L':=e.Led)) (by simp) h3) Ev.rfl
theorem zbs {e:Election}{k:Int}{s:Server}(hf:Fit e)(hk:At e k s) : Ev (fun _=>uu e k) (match tmo e k s with | some e'=>(true,e') | none=>(false,e)):=by
 have h1:=hf.post
 have h2:=hf.n2
 have h3:=hf.led
 obtain ⟨_,h5,h6,h7⟩:=hf.sv k s hk
 unfold uu tmo
 refine Ev.bindp (y9 hk) ?_
 by_cases c:s.Leads=true∨s.Term=100∨20<(e.Post.length:Int)+e.Servers.length - 1
 ·rw [if_pos c]
  exact Ev.iteT ((qi0 h1 h2).2 c) Ev.rfl
 ·rw [if_neg c]
  refine Ev.iteF (bF (qi0 h1 h2) c) ?_
  rw [kt (n:=s.Term+1) (by omega) (by omega)]
  have hk2:At ⟨e.Servers.set k.toNat ⟨s.Term+1,k,true,s.Leads,[k],s.Log⟩,e.Post,e.Led⟩ k ⟨s.Term+1,k,true,s.Leads,[k],s.Log⟩:=hk.self
  have hk3:=y9 hk2
  dsimp only at hk3
  generalize e.Servers.set k.toNat ⟨s.Term+1,k,true,s.Leads,[k],s.Log⟩=S at hk2 hk3 ⊢
  simp only [qir]
  refine Ev.jn (s:=(⟨S,e.Post++asks e.Servers.length k (s.Term+1) (j0 s.Log) s.Log.length,e.Led⟩,S)) (uo (B:=fun _ i _ (t:Election × List Server)=>xg e k i t.1 t.2) (by simp; omega) (fun i q t=>i+q.length=e.Servers.length∧t=(⟨S,e.Post++asks i k (s.Term+1) (j0 s.Log) s.Log.length,e.Led⟩,S)) ⟨by simp,by simp [asks,qdy]⟩ (fun i _ q t ⟨e1,ht⟩ => .inl ?_) (fun i t ⟨e1,ht⟩=>?_)) ?_
  ·subst ht
   simp only [List.length_cons] at e1
   refine ⟨(⟨S,e.Post++asks (i+1) k (s.Term+1) (j0 s.Log) s.Log.length,e.Led⟩,S),Ev.of ?_,by omega,rfl⟩
   have:=qmq (n:=i) (k:=k) (T:=s.Term+1) (last:=j0 s.Log) (long:=s.Log.length)
   unfold xg
   rw [qmo]
   by_cases hik:(i:Int)=k
   ·rw [if_neg (by simpa using hik),if_neg (by simpa using hik)]
   ·rw [if_pos (by simpa using hik),if_pos hik,hk3,Option.bind_some,qhd (by dsimp only; omega),Option.bind_some,qhw (by simp; omega),Option.bind_some,List.append_assoc]
  ·subst ht
   simp only [List.length_nil,Nat.add_zero] at e1
   rw [e1]
  ·unfold qcm
   exact Ev.bindp (qnk (s:=⟨s.Term+1,k,true,s.Leads,[k],s.Log⟩) hk2 (by simp) h3) Ev.rfl

theorem q9s {l:List Int}{v:Int}{n:Nat}(h:qck l n)(hn:n≤1000) : Ev (fun k=>qd9 k l v) (qcl l v):=by
 have hl:=qgd h
 obtain ⟨A,B,rfl,h1,h2,h3,_⟩:=qld (qjl h) v
 have hp:=q94 (by omega) h1 h2
 have e:qcl (A++B) v=if B.head? = some v then A++B else A++v::B:=by
  unfold qcl
  by_cases c:v∈A++B
  ·rw [if_pos c,if_pos (h3.1 c)]
  ·rw [if_neg c,if_neg (fun hh=>c (h3.2 hh))]
   unfold qh5
   rw [(flt h1 h2).1,(flt h1 h2).2]
 rw [e]
 exact hp
theorem q87 {l:List Int}{v:Int}{n:Nat}(h:qck l n)(hn:n≤1000) : ∃ r:Int × Bool,Ev (fun k=>y8 k l v) r∧(r.2=true∧qcl l v=l∨r.2=false∧qco l r.1 [v]=some (qcl l v,[v])):=by
 have hl:=qgd h
 obtain ⟨A,B,rfl,h1,h2,h3,_⟩:=qld (qjl h) v
 refine ⟨_,zbb (by omega) h1 h2,?_⟩
 unfold qcl
 by_cases c:v∈A++B
 ·left
  exact ⟨by simpa using h3.1 c,if_pos c⟩
 ·right
  refine ⟨by simpa using fun hh=>c (h3.2 hh),?_⟩
  rw [if_neg c]
  unfold qh5 qco
  rw [(flt h1 h2).1,(flt h1 h2).2]
  exact q80 (by omega)
theorem qoq {e:Election}{s:Server}{n:Nat}{t:Int}(h:qck s.Got n∧s.Log.length≤30) : qck (rise s t).Got n∧(rise s t).Log.length≤30∧(rise s t).Log=s.Log:=by
 rcases qcd (s:=s) (t:=t) with ⟨_,e1⟩ | ⟨_,e1⟩
 ·rw [e1]; exact ⟨qbf.2 ⟨by simp,by simp⟩,h.2,rfl⟩
 ·rw [e1]; exact ⟨h.1,h.2,rfl⟩
theorem zad {e:Election}{m:Letter}(hf:Fit e)(h0:0≤m.To)(h1:m.To<e.Servers.length)(hp:e.Post.length<20) : Ev (fun k=>qel k e m) (come e m):=by
 obtain ⟨s0,hk⟩:=At.of h0 h1
 have hn:=hf.n2
 have hl:=hf.led
 obtain ⟨q1,q2,_⟩:=hf.sv _ s0 hk
 obtain ⟨r1,r2,r3⟩:=qoq (e:=e) (t:=m.Term) ⟨q1,q2⟩
 have r4:=qgd r1
 unfold qel come
 rw [hk.2]
 dsimp only
 refine Ev.bindp (y9 hk) (Ev.bind (a:=rise s0 m.Term) ?_ ?_)
 ·unfold rise
  by_cases c:s0.Term<m.Term
  ·rw [if_pos c]; exact Ev.iteT (by simpa using c) Ev.rfl
  ·rw [if_neg c]; exact Ev.iteF (by simpa using c) Ev.rfl
 ·generalize rise s0 m.Term=R at *
  obtain ⟨t,v,st,le,go,lo⟩:=R
  dsimp only at r1 r2 r3 r4
  subst r3
  unfold qf6
  by_cases ha:m.Asks=true
  ·rw [if_pos ha]
   refine Ev.iteT ha (Ev.bind (a:=qcx ⟨t,v,st,le,go,s0.Log⟩ m) ?_ ?_)
   ·unfold qcx
    dsimp only
    by_cases c:((decide (m.Term=t))&&((decide (v=(-1)))||(decide (v=m.From))))=true
    ·rw [c]
     exact Ev.iteT rfl (Ev.bindp (qze (by omega)) Ev.rfl)
    ·have c:((decide (m.Term=t))&&((decide (v=(-1)))||(decide (v=m.From))))=false:=by simpa only [Bool.not_eq_true] using c
     rw [c]
     exact Ev.iteF rfl Ev.rfl
   ·have hp2:decide ((List.length e.Post:Int)<20)=true:=by simp; omega
    generalize qcx ⟨t,v,st,le,go,s0.Log⟩ m=b
    cases b with
    | true =>
     refine Ev.bind (Ev.iteT (by rw [hp2]; rfl) Ev.rfl) ?_
     unfold qeh
     exact Ev.bind (Ev.iteT hp2 (Ev.bindp (qhw (by omega)) Ev.rfl)) Ev.rfl
    | false =>
     refine Ev.bind (Ev.iteF rfl Ev.rfl) ?_
     unfold qeh
     exact Ev.bind (Ev.iteT hp2 (Ev.bindp (qhw (by omega)) Ev.rfl)) Ev.rfl
  ·rw [if_neg ha]
   refine Ev.iteF (by simpa using ha) ?_
   dsimp only
   have fin:∀ s1:Server,s1.Log=s0.Log→s1.Got.length≤1000→Ev (fun _=>qef e m s0 s1) (qal ⟨e.Servers.set m.To.toNat s1,e.Post,e.Led⟩ m.To):=by
    intro s1 e1 e2
    obtain ⟨t,v,st,le,go,lo⟩:=s1
    dsimp only at e1 e2
    subst e1
    unfold qef
    exact Ev.bindp (qov (s:=⟨t,v,st,le,go,s0.Log⟩) (hk.self) (by dsimp only; omega) hl) Ev.rfl
   by_cases c:m.Grant=true∧m.Term=t∧st=true
   ·rw [if_pos c]
    refine Ev.bind (Ev.iteT (by simp [c.1,c.2.1,c.2.2]) (Ev.bind (q9s r1 (by omega)) Ev.rfl)) (fin _ rfl ?_)
    dsimp only
    unfold qcl
    split
    ·omega
    ·have h5:=List.length_filter_le (fun z=>decide (z<m.From)) go
     have h6:=List.length_filter_le (fun z=>decide (m.From≤z)) go
     simp only [qh5,List.length_append,List.length_cons]
     omega
   ·rw [if_neg c]
    refine Ev.bind (Ev.iteF ?_ Ev.rfl) (fin _ rfl (by dsimp only; omega))
    refine bF (P:=m.Grant=true∧m.Term=t∧st=true) ?_ c
    simp only [Bool.and_eq_true,decide_eq_true_eq,and_assoc]
theorem q84 {e:Election}{m:Letter}(hf:Fit e)(hs:Sta e)(h0:0≤m.To)(h1:m.To<e.Servers.length)(hp:e.Post.length<20) : Ev (fun k=>qab k e m) (come e m):=by
 obtain ⟨s0,hk⟩:=At.of h0 h1
 have hn:=hf.n2
 have hl:=hf.led
 obtain ⟨q1,q2,_⟩:=hf.sv _ s0 hk
 obtain ⟨r1,r2,r3⟩:=qoq (e:=e) (t:=m.Term) ⟨q1,q2⟩
 have r4:=qgd r1
 have hsr:(rise s0 m.Term).Stands=true→2*(rise s0 m.Term).Got.length≤e.Servers.length:=by
  rcases qcd (s:=s0) (t:=m.Term) with ⟨c,e1⟩ | ⟨c,e1⟩
  ·rw [e1]; simp
  ·rw [e1]; exact hs _ _ hk
 unfold qab come
 rw [hk.2]
 dsimp only
 refine Ev.bindp (y9 hk) (Ev.bind (a:=e.Servers.set m.To.toNat (rise s0 m.Term)) ?_ ?_)
 ·unfold rise
  by_cases c:s0.Term<m.Term
  ·rw [if_pos c]; exact Ev.iteT (by simpa using c) Ev.rfl
  ·rw [if_neg c]
   have:e.Servers.set m.To.toNat s0=e.Servers:=by
    apply List.ext_getElem?
    intro i
    by_cases hi:m.To.toNat=i
    ·subst hi
     rw [hk.2,List.getElem?_set_self (by omega)]
    ·rw [List.getElem?_set_ne hi]
   rw [this]
   exact Ev.iteF (by simpa using c) Ev.rfl
 ·have hA:At ⟨e.Servers.set m.To.toNat (rise s0 m.Term),e.Post,e.Led⟩ m.To (rise s0 m.Term):=hk.self
  have hG:=y9 hA
  dsimp only at hG
  generalize rise s0 m.Term=R at *
  unfold qcy
  have hset:∀ x:Server,(e.Servers.set m.To.toNat R).set m.To.toNat x=e.Servers.set m.To.toNat x:=fun x=>List.set_set ..
  by_cases ha:m.Asks=true
  ·rw [if_pos ha]
   refine Ev.iteT ha (Ev.bindp hG ?_)
   have fin:∀ (b:Bool) (R':Server),R'.Term=R.Term→Ev (fun _=>qah e m b (e.Servers.set m.To.toNat R')) ⟨e.Servers.set m.To.toNat R',e.Post++[⟨m.From,m.To,R.Term,false,0,0,b⟩],e.Led⟩:=by
    intro b R' hR
    have hA':At ⟨e.Servers.set m.To.toNat R',e.Post,e.Led⟩ m.To R':=hk.self
    have hG':=y9 hA'
    dsimp only at hG'
    unfold qah
    refine Ev.bindp hG' (Ev.bindp (qhw (by omega)) ?_)
    rw [hR]
    exact Ev.rfl
   by_cases c:((decide (m.Term=R.Term))&&((decide (R.Voted=(-1)))||(decide (R.Voted=m.From))))=true
   ·have hgb:qcx R m=up9 m.Last m.Long R.Log:=by
     unfold qcx
     rw [c]
     rfl
    refine Ev.iteT c (Ev.bindp (qoj (by omega)) ?_)
    rw [hgb]
    generalize up9 m.Last m.Long R.Log=b
    cases b with
    | true =>
     refine Ev.bind (Ev.iteT rfl Ev.rfl) ?_
     rw [hset]
     exact fin true _ rfl
    | false=>exact Ev.bind (Ev.iteF rfl Ev.rfl) (fin false R rfl)
   ·have c:((decide (m.Term=R.Term))&&((decide (R.Voted=(-1)))||(decide (R.Voted=m.From))))=false:=by simpa only [Bool.not_eq_true] using c
    have hgb:qcx R m=false:=by
     unfold qcx
     rw [c]
     rfl
    rw [hgb]
    exact Ev.iteF c (Ev.bindp (qhw (by omega)) Ev.rfl)
  ·rw [if_neg ha]
   refine Ev.iteF (by simpa using ha) ?_
   by_cases c:m.Grant=true∧m.Term=R.Term∧R.Stands=true
   ·rw [if_pos c]
    refine Ev.bind (a:=true) (Ev.iteT c.1 (Ev.bindp hG (Ev.of (by simp [c.2.1])))) (Ev.bind (a:=true) (Ev.iteT rfl (Ev.bindp hG (Ev.of (by rw [c.2.2])))) (Ev.iteT rfl (Ev.bindp hG ?_)))
    obtain ⟨r,b1,b2⟩:=q87 (v:=m.From) r1 (by omega)
    refine Ev.bind b1 ?_
    have hpl:(qcl R.Got m.From).length≤1000:=by
     unfold qcl
     split
     ·omega
     ·have h5:=List.length_filter_le (fun z=>decide (z<m.From)) R.Got
      have h6:=List.length_filter_le (fun z=>decide (m.From≤z)) R.Got
      simp only [qh5,List.length_append,List.length_cons]
      omega
    rcases b2 with ⟨b2,b3⟩ | ⟨b2,b3⟩
    ·rw [b3]
     exact Ev.iteF (by simp [b2]) (Ev.bindp (qnk (s:=R) hA (by omega) hl) Ev.rfl)
    ·refine Ev.iteT (by simp [b2]) (Ev.bindp b3 ?_)
     rw [hset]
     exact Ev.bindp (qnk (s:={ R with Got:=qcl R.Got m.From }) (hk.self) hpl hl) Ev.rfl
   ·rw [if_neg c,q8g hA (by dsimp only; rw [List.length_set]; exact hsr)]
    by_cases c1:m.Grant=true
    ·by_cases c2:m.Term=R.Term
     ·refine Ev.bind (a:=true) (Ev.iteT c1 (Ev.bindp hG (Ev.of (by simp [c2])))) (Ev.bind (a:=false) (Ev.iteT rfl (Ev.bindp hG (Ev.of ?_))) (Ev.iteF rfl Ev.rfl))
      cases hh:R.Stands
      ·rfl
      ·exact absurd ⟨c1,c2,hh⟩ c
     ·exact Ev.bind (a:=false) (Ev.iteT c1 (Ev.bindp hG (Ev.of (by simp [c2])))) (Ev.bind (a:=false) (Ev.iteF rfl Ev.rfl) (Ev.iteF rfl Ev.rfl))
    ·exact Ev.bind (a:=false) (Ev.iteF (by simpa using c1) Ev.rfl) (Ev.bind (a:=false) (Ev.iteF rfl Ev.rfl) (Ev.iteF rfl Ev.rfl))

def qjs (e:Election) : Option Election→Election × Bool
 | some e'=>(e',true)
 | none=>(e,false)
theorem qp5 {e:Election}{k:Int}{s:Server}(hk:At e k s) : est e ⟨1,k⟩=tmo e k s:=by
 unfold est tmo
 dsimp only
 rw [if_pos rfl,y9 hk]
theorem qhy {α:Type}{l:List α}{k:Int}(h:¬ (0≤k∧k<l.length)) : z8 l k=none:=by
 unfold z8
 split
 ·rw [List.getElem?_eq_none]
  omega
 ·rfl
theorem qpk {α:Type}{l:List α}{k:Int}(h:0≤k∧k<l.length) : ∃ x,z8 l k=some x∧l[k.toNat]? = some x:=by
 have:l[k.toNat]? = some (l[k.toNat]'(by omega)):=List.getElem?_eq_getElem _
 refine ⟨_,?_,this⟩
 unfold z8
 rw [if_pos h.1]
 exact this
theorem qke {l:List Letter}{k:Nat}(h:k<l.length) : l.take k++l.drop (k+1)=l.eraseIdx k:=(List.eraseIdx_eq_take_drop_succ ..).symm
theorem Fit.rem {e:Election}(h:Fit e)(k:Nat) : Fit ⟨e.Servers,e.Post.eraseIdx k,e.Led⟩:=⟨h.n1,h.n2,by have:=List.length_eraseIdx_le e.Post k; have:=h.post; dsimp only; omega,h.led,h.sv,fun m hm=>h.po m (List.mem_of_mem_eraseIdx hm)⟩
theorem qub {e:Election}{x:ElectStep}(hf:Fit e) : Ev (fun k=>qdh k e x) (qjs e (est e x)):=by
 have hp:=hf.post
 have hn:=hf.n2
 obtain ⟨Kd,K⟩:=x
 unfold qdh
 by_cases d:Kd=1∨Kd=5
 ·refine Ev.iteT (by simpa using d) ?_
  by_cases hK:0≤K∧K<e.Servers.length
  ·obtain ⟨s,hk⟩:=At.of hK.1 hK.2
   refine Ev.iteF (by simp [jp]; omega) ?_
   by_cases d1:Kd=1
   ·subst d1
    rw [qp5 hk]
    refine Ev.iteT (by simp) (Ev.bind (zbo hf hk) (Ev.of ?_))
    cases tmo e K s <;> rfl
   ·obtain rfl:Kd=5:=by omega
    refine Ev.iteF (by simp) (Ev.bindp (y9 hk) ?_)
    unfold est
    dsimp only
    rw [if_neg (by decide),if_pos rfl,y9 hk]
    exact Ev.rfl
  ·have hz:est e ⟨Kd,K⟩=none:=by
    unfold est
    dsimp only
    rw [qhy hK]
    rcases d with rfl | rfl
    ·rw [if_pos rfl]
    ·rw [if_neg (by decide),if_pos rfl]
   rw [hz]
   exact Ev.iteT (by simp [jp]; omega) Ev.rfl
 ·refine Ev.iteF (by simpa using d) ?_
  by_cases c:(2≤Kd∧Kd≤4)∧(0≤K∧K<e.Post.length)
  ·obtain ⟨m,hm,hm2⟩:=qpk c.2
   have hmm:=List.mem_of_getElem? hm2
   have hto:=hf.po m hmm
   refine Ev.iteF (by simp [jd]; omega) (Ev.bindp hm ?_)
   by_cases d4:Kd=4
   ·subst d4
    refine Ev.iteT (by simp) ?_
    have hz:est e ⟨4,K⟩=if e.Post.length=20 then none else some ⟨e.Servers,e.Post++[m],e.Led⟩:=by
     unfold est
     dsimp only
     rw [if_neg (by decide),if_neg (by decide),if_neg (by decide),if_neg (by decide),if_pos rfl,hm]
    rw [hz]
    by_cases h20:e.Post.length=20
    ·rw [if_pos h20]
     exact Ev.iteT (by simp [h20]) Ev.rfl
    ·rw [if_neg h20]
     exact Ev.iteF (by simp; omega) (Ev.bindp (qhw (by omega)) Ev.rfl)
   ·refine Ev.iteF (by simpa using d4) ?_
    have hk:K.toNat<e.Post.length:=by omega
    have s1:sl e.Post 0 K=some (e.Post.take K.toNat):=by
     have:=qj3 (l:=e.Post) (i:=K.toNat) (by omega)
     rwa [show ((K.toNat:Nat) : Int)=K by omega] at this
    have s2:sl e.Post (IntKind.wrap .i64 (K+1)) (List.length e.Post)=some (e.Post.drop (K.toNat+1)):=by
     rw [kt (n:=K+1) (by omega) (by omega)]
     have:=qpt (l:=e.Post) (i:=K.toNat+1) (by omega)
     rwa [show ((K.toNat+1:Nat) : Int)=K+1 by omega] at this
    refine Ev.bindp s1 (Ev.bindp (qch (by rw [List.length_take]; omega)) (Ev.bindp s2 (Ev.bindp (a:=e.Post.eraseIdx K.toNat) ?_ ?_)))
    ·unfold kd
     rw [if_pos (by rw [List.length_take,List.length_drop]; omega),qke hk]
    ·have hfr:=hf.rem K.toNat
     by_cases d2:Kd=2
     ·subst d2
      have hz:est e ⟨2,K⟩=some (come ⟨e.Servers,e.Post.eraseIdx K.toNat,e.Led⟩ m):=by
       unfold est
       dsimp only
       rw [if_neg (by decide),if_neg (by decide),if_pos rfl,hm]
      rw [hz]
      exact Ev.iteT (by simp) (Ev.bind (zad hfr hto.1 hto.2 (by dsimp only; rw [List.length_eraseIdx,if_pos hk]; omega)) Ev.rfl)
     ·obtain rfl:Kd=3:=by omega
      have hz:est e ⟨3,K⟩=some ⟨e.Servers,e.Post.eraseIdx K.toNat,e.Led⟩:=by
       unfold est
       dsimp only
       rw [if_neg (by decide),if_neg (by decide),if_neg (by decide),if_pos rfl,hm]
      rw [hz]
      exact Ev.iteF (by simp) Ev.rfl
  ·have hz:est e ⟨Kd,K⟩=none:=by
    unfold est
    dsimp only
    rw [if_neg (by omega),if_neg (by omega)]
    by_cases hK:0≤K∧K<e.Post.length
    ·rw [if_neg (by omega),if_neg (by omega),if_neg (by omega)]
    ·rw [qhy hK]
     split
     ·rfl
     split
     ·rfl
     split <;> rfl
   rw [hz]
   exact Ev.iteT (by simp [jd]; omega) Ev.rfl
theorem qsu {e:Election}{x:ElectStep}{d:Election→Bool}(hf:Fit e)(hs:Sta e)(hd:∀ e',est e x=some e'→Ev (fun _=>k9 e') (d e'))(h5:∀ e',x.Term=5→est e x=some e'→d e'=true) : Ev (fun k=>u9 k e x) (match est e x with | some e'=>if d e'=true then (e',true) else (⟨[],[],[]⟩,false) | none=>(⟨[],[],[]⟩,false)):=by
 have hp:=hf.post
 have hn:=hf.n2
 obtain ⟨Kd,K⟩:=x
 unfold u9
 refine Ev.bind (za8 hf.nn) ?_
 have hw1:IntKind.wrap .i64 ((List.length e.Servers:Int) - 1)=(List.length e.Servers:Int) - 1:=kt (by omega) (by omega)
 have hw2:IntKind.wrap .i64 ((List.length e.Post:Int) - 1)=(List.length e.Post:Int) - 1:=kt (by omega) (by omega)
 -- the end
 have fin:∀ e',est e ⟨Kd,K⟩=some e'→Ev (fun _=>wl true e' e'.Servers) (if d e'=true then (e',true) else (⟨[],[],[]⟩,false)):=by
  intro e' he
  unfold wl
  refine Ev.bind (a := !d e') (Ev.iteF rfl (Ev.bind (hd e' he) Ev.rfl)) ?_
  cases hde:d e' with
  | true=>exact Ev.iteF rfl Ev.rfl
  | false=>exact Ev.iteT rfl Ev.rfl
 have finF:∀ (e':Election) S,Ev (fun _=>wl false e' S) (⟨[],[],[]⟩,false):=by
  intro e' S
  unfold wl
  exact Ev.bind (a:=true) (Ev.iteT rfl Ev.rfl) (Ev.iteT rfl Ev.rfl)
 by_cases dd:Kd=1∨Kd=5
 ·have hb:Ev (fun _=>if (decide (Kd=1))=true then (some (decide (Kd=1))) else (some (decide (Kd=5)))) true:=by
   rcases dd with rfl | rfl
   ·exact Ev.iteT (by simp) (Ev.of (by simp))
   ·exact Ev.iteF (by simp) (Ev.of (by simp))
  by_cases hK:0≤K∧K<e.Servers.length
  ·obtain ⟨s,hk⟩:=At.of hK.1 hK.2
   by_cases d1:Kd=1
   ·subst d1
    have hst:=zbs hf hk
    rw [←qp5 hk] at hst
    cases he:est e ⟨1,K⟩ with
    | none =>
     rw [he] at hst
     refine Ev.jn (s:=(false,e,e.Servers)) (Ev.bind hb ?_) (finF _ _)
     unfold yc
     rw [hw1]
     exact Ev.iteT rfl (Ev.iteF (by simp [zt]; omega) (Ev.bindp (y9 hk) (Ev.iteF (by simp) (Ev.bind hst Ev.rfl))))
    | some e' =>
     rw [he] at hst
     refine Ev.jn (s:=(true,e',e'.Servers)) (Ev.bind hb ?_) (fin e' he)
     unfold yc
     rw [hw1]
     exact Ev.iteT rfl (Ev.iteF (by simp [zt]; omega) (Ev.bindp (y9 hk) (Ev.iteF (by simp) (Ev.bind hst Ev.rfl))))
   ·obtain rfl:Kd=5:=by omega
    have he:est e ⟨5,K⟩=some ⟨e.Servers.set K.toNat ⟨s.Term,s.Voted,false,false,[],s.Log⟩,e.Post,e.Led⟩:=by
     unfold est
     dsimp only
     rw [if_neg (by decide),if_pos rfl,y9 hk]
    have h5':=h5 _ rfl he
    rw [he]
    dsimp only
    rw [if_pos h5']
    refine Ev.jn_ret (Ev.bind hb ?_)
    unfold yc
    rw [hw1]
    exact Ev.iteT rfl (Ev.iteF (by simp [zt]; omega) (Ev.bindp (y9 hk) (Ev.iteT (by simp) Ev.rfl)))
  ·have hz:est e ⟨Kd,K⟩=none:=by
    unfold est
    dsimp only
    rw [qhy hK]
    rcases dd with rfl | rfl
    ·rw [if_pos rfl]
    ·rw [if_neg (by decide),if_pos rfl]
   rw [hz]
   refine Ev.jn_ret (Ev.bind hb ?_)
   unfold yc
   rw [hw1]
   exact Ev.iteT rfl (Ev.iteT (by simp [zt]; omega) Ev.rfl)
 ·have hb:Ev (fun _=>if (decide (Kd=1))=true then (some (decide (Kd=1))) else (some (decide (Kd=5)))) false:=Ev.iteF (by simp; omega) (Ev.of (by simp; omega))
  have hj1:∀ {o},Ev (fun k=>kz k e ⟨Kd,K⟩ e (decide (2≤Kd∧Kd≤4))) o→Ev (fun k=>yc k e ⟨Kd,K⟩ e false) o:=by
   intro o h
   unfold yc
   refine Ev.iteF rfl (Ev.bind (a:=decide (2≤Kd∧Kd≤4)) ?_ h)
   by_cases e2:Kd=2
   ·exact Ev.iteT (by simpa using e2) (Ev.of (by simp [e2]))
   ·refine Ev.iteF (by simpa using e2) ?_
    by_cases e3:Kd=3
    ·exact Ev.iteT (by simpa using e3) (Ev.of (by simp [e3]))
    ·refine Ev.iteF (by simpa using e3) (Ev.of ?_)
     simp only [Option.some.injEq,decide_eq_decide]
     omega
  by_cases c1:2≤Kd∧Kd≤4
  ·have hc1:decide (2≤Kd∧Kd≤4)=true:=by simpa using c1
   rw [hc1] at hj1
   by_cases hK:0≤K∧K<e.Post.length
   ·obtain ⟨m,hm,hm2⟩:=qpk hK
    have hmm:=List.mem_of_getElem? hm2
    have hto:=hf.po m hmm
    have hk:K.toNat<e.Post.length:=by omega
    by_cases d4:Kd=4
    ·subst d4
     have hz:est e ⟨4,K⟩=if e.Post.length=20 then none else some ⟨e.Servers,e.Post++[m],e.Led⟩:=by
      unfold est
      dsimp only
      rw [if_neg (by decide),if_neg (by decide),if_neg (by decide),if_neg (by decide),if_pos rfl,hm]
     have hj:Ev (fun k=>kz k e ⟨4,K⟩ e true) (.nxt (decide ((e.Post.length:Int)<20),⟨e.Servers,e.Post++[m],e.Led⟩,e.Servers)):=by
      unfold kz
      rw [hw2]
      exact Ev.iteT rfl (Ev.iteF (by simp [zt]; omega) (Ev.bindp hm (Ev.iteT (by simp) (Ev.bindp (qhw (by omega)) Ev.rfl))))
     by_cases h20:e.Post.length=20
     ·rw [if_pos h20] at hz
      rw [hz]
      have hd2:decide ((e.Post.length:Int)<20)=false:=by simp; omega
      rw [hd2] at hj
      exact Ev.jn (Ev.bind hb (hj1 hj)) (finF _ _)
     ·rw [if_neg h20] at hz
      have hd2:decide ((e.Post.length:Int)<20)=true:=by simp; omega
      rw [hd2] at hj
      have:=fin _ hz
      rw [hz]
      exact Ev.jn (Ev.bind hb (hj1 hj)) this
    ·have hdel:qa7 e.Post K (IntKind.wrap .i64 (K+1))=some (e.Post.eraseIdx K.toNat):=by
      rw [kt (n:=K+1) (by omega) (by omega)]
      unfold qa7 qnx
      rw [if_pos ⟨hK.1,by omega,by omega⟩,show (K+1).toNat=K.toNat+1 by omega,qke hk]
     have hfr:=hf.rem K.toNat
     have hsr:Sta ⟨e.Servers,e.Post.eraseIdx K.toNat,e.Led⟩:=hs
     by_cases d2:Kd=2
     ·subst d2
      have hz:est e ⟨2,K⟩=some (come ⟨e.Servers,e.Post.eraseIdx K.toNat,e.Led⟩ m):=by
       unfold est
       dsimp only
       rw [if_neg (by decide),if_neg (by decide),if_pos rfl,hm]
      have:=fin _ hz
      rw [hz]
      refine Ev.jn (Ev.bind hb (hj1 (o := .nxt (true,come ⟨e.Servers,e.Post.eraseIdx K.toNat,e.Led⟩ m,(come ⟨e.Servers,e.Post.eraseIdx K.toNat,e.Led⟩ m).Servers)) ?_)) this
      unfold kz
      rw [hw2]
      exact Ev.iteT rfl (Ev.iteF (by simp [zt]; omega) (Ev.bindp hm (Ev.iteF (by simp) (Ev.bindp hdel (Ev.iteT (by simp) (Ev.bind (q84 hfr hsr hto.1 hto.2 (by dsimp only; rw [List.length_eraseIdx,if_pos hk]; omega)) Ev.rfl))))))
     ·obtain rfl:Kd=3:=by omega
      have hz:est e ⟨3,K⟩=some ⟨e.Servers,e.Post.eraseIdx K.toNat,e.Led⟩:=by
       unfold est
       dsimp only
       rw [if_neg (by decide),if_neg (by decide),if_neg (by decide),if_pos rfl,hm]
      have:=fin _ hz
      rw [hz]
      refine Ev.jn (Ev.bind hb (hj1 (o := .nxt (true,⟨e.Servers,e.Post.eraseIdx K.toNat,e.Led⟩,e.Servers)) ?_)) this
      unfold kz
      rw [hw2]
      exact Ev.iteT rfl (Ev.iteF (by simp [zt]; omega) (Ev.bindp hm (Ev.iteF (by simp) (Ev.bindp hdel (Ev.iteF (by simp) Ev.rfl)))))
   ·have hz:est e ⟨Kd,K⟩=none:=by
     unfold est
     dsimp only
     rw [if_neg (by omega),if_neg (by omega),qhy hK]
     split
     ·rfl
     split
     ·rfl
     split <;> rfl
    rw [hz]
    refine Ev.jn_ret (Ev.bind hb (hj1 ?_))
    unfold kz
    rw [hw2]
    exact Ev.iteT rfl (Ev.iteT (by simp [zt]; omega) Ev.rfl)
  ·have hc1:decide (2≤Kd∧Kd≤4)=false:=by simpa using c1
   rw [hc1] at hj1
   have hz:est e ⟨Kd,K⟩=none:=by
    unfold est
    dsimp only
    rw [if_neg (by omega),if_neg (by omega),if_neg (by omega),if_neg (by omega),if_neg (by omega)]
   rw [hz]
   refine Ev.jn (Ev.bind hb (hj1 (o := .nxt (false,e,e.Servers)) ?_)) (finF _ _)
   unfold kz
   exact Ev.iteF rfl Ev.rfl
end Go.Proofs.Ytpddolihbnfahaa.X
