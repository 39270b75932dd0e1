/- FnElectSteps: true at every draw. -/
import Derived.Test.YtpddolihbnfahaaXCL9h
set_option linter.unusedVariables false
set_option linter.unusedSimpArgs false
namespace Go.Proofs.Ytpddolihbnfahaa.X
open Go

structure Shp (e:Election) : Prop where
 nn:e.nn≤1048576
 sta:Sta e
 n1:1≤e.Servers.length
 n2:e.Servers.length≤5
theorem Shp.set {e:Election}(h:Shp e){s s':Server}(hk:At e 0 s)(h1:s'.Stands=s.Stands)(h2:s'.Got=s.Got)(h3:s'.Log=s.Log) : Shp ⟨e.Servers.set (0:Int).toNat s',e.Post,e.Led⟩:=by
 obtain ⟨S,P,L⟩:=e
 refine ⟨?_,h.sta.set (k:=0) (Int.le_refl _) ?_,by simpa using h.n1,by simpa using h.n2⟩
 ·have hh:nnL Server.nn S+(P.length+(L.length+0))≤1048576:=h.nn
  have e1:∀ (l:List Server) (i:Nat) (a b:Server),l[i]? = some a→b.nn=a.nn→qcq Server.nn (l.set i b)=qcq Server.nn l:=by
   intro l
   induction l with
   | nil=>intro i a b h; simp at h
   | cons x l ih =>
    intro i a b h hab
    cases i with
    | zero=>simp at h; subst h; simp [qcq,hab]
    | succ i=>simp only [List.set_cons_succ,qcq]; rw [ih i a b (by simpa using h) hab]
  have e2:=e1 S _ s s' hk.2 (by
   have a1:s'.nn=s'.Got.length+(s'.Log.length+0):=rfl
   have a2:s.nn=s.Got.length+(s.Log.length+0):=rfl
   rw [a1,a2,h2,h3])
  show nnL Server.nn (S.set (0:Int).toNat s')+(P.length+(L.length+0))≤1048576
  have e3:nnL Server.nn (S.set (0:Int).toNat s')=(S.set (0:Int).toNat s').length+qcq Server.nn (S.set (0:Int).toNat s'):=rfl
  have e4:nnL Server.nn S=S.length+qcq Server.nn S:=rfl
  rw [e3,e2,List.length_set]
  omega
 ·intro hst
  rw [h2]
  exact h.sta 0 s hk (by rw [←h1]; exact hst)
theorem Way.shp {e:Election}{m:Nat}(h:Way e m) : Shp e:=⟨h.fit.nn,h.2.1,h.fit.n1,h.fit.n2⟩
theorem zaj {logs:List (List Int)}(hn:nnL IntR.nn logs≤1048576)(ho:qdb logs)(h1:1≤logs.length)(h2:logs.length≤5) : Ev (fun _=>k6 logs) (xh logs,true):=by
 have hxl:∀ {i:Nat} {x},logs[i]? = some x→x.length≤1048576:=fun hx=>Nat.le_trans (qj6 (f:=IntR.nn) hx) hn
 rcases qkj (B:=ur) hn (fun i x s hx hs=>qku hn hx hs (qhf (by have:=hxl hx; omega)) (qie (by have:=hxl hx; omega))) with ⟨_,e⟩ | ⟨a,_⟩
 ·unfold k6
  refine Ev.jn e ?_
  unfold uw
  exact Ev.iteF (bF qh8 (fun h=>h (by omega))) Ev.rfl
 ·exact absurd ho a
theorem qts:qdb [[1],[2]]:=by
 intro l hl
 simp only [List.mem_cons,List.not_mem_nil,or_false] at hl
 rcases hl with rfl | rfl
 ·refine ⟨⟨fun i x hx=>?_,by simp⟩,by simp [j0]⟩
  cases i with
  | zero=>simp at hx; subst hx; exact ⟨by omega,by omega,fun _ h=>by omega⟩
  | succ i=>simp at hx
 ·refine ⟨⟨fun i x hx=>?_,by simp⟩,by simp [j0]⟩
  cases i with
  | zero=>simp at hx; subst hx; exact ⟨by omega,by omega,fun _ h=>by omega⟩
  | succ i=>simp at hx
theorem qhz {c:L1Cur}(hc:Cur 0 c) : ∃ e c',Ev (fun k=>qas k c) (e,c')∧Shp e∧Cur 5000 c':=by
 obtain ⟨l,c1,h1,n1,hc1⟩:=qod hc (by omega)
 obtain ⟨logs,c2,h2,n2,n3,hc2⟩:=qpg hc1 (by omega)
 have hnn:=qpv n2.2 n3
 have hj2:∀ e:Election,Shp e→∃ e' c',qc4 (logs,c2) e=some (e',c')∧Shp e'∧Cur 5000 c':=by
  intro e he
  obtain ⟨s,hs⟩:=At.of (e:=e) (i:=0) (Int.le_refl _) (by have:=he.n1; omega)
  have hg:=y9 hs
  obtain ⟨w,c3,h3,hc3,_⟩:=wy hc2 (by omega) 30 (by omega)
  unfold qc4
  dsimp only
  rw [h3,Option.bind_some]
  dsimp only
  by_cases k0:w=0
  ·obtain ⟨w4,c4,h4,_,hc4⟩:=qiq hc3 (by omega) [-1,100,101] (by decide) (by decide)
   rw [if_pos (by simpa using k0),h4,Option.bind_some,hg,Option.bind_some]
   exact ⟨_,_,rfl,he.set hs rfl rfl rfl,hc4.le (by omega)⟩
  rw [if_neg (by simpa using k0)]
  by_cases k1:w=1
  ·obtain ⟨w4,c4,h4,hc4,_⟩:=wy hc3 (by omega) 8 (by omega)
   rw [if_pos (by simpa using k1),h4,Option.bind_some,hg,Option.bind_some]
   exact ⟨_,_,rfl,he.set hs rfl rfl rfl,hc4.le (by omega)⟩
  rw [if_neg (by simpa using k1)]
  by_cases k2:w=2
  ·rw [if_pos (by simpa using k2),hg,Option.bind_some]
   exact ⟨_,_,rfl,he.set hs rfl rfl rfl,hc3.le (by omega)⟩
  rw [if_neg (by simpa using k2)]
  exact ⟨_,_,rfl,he,hc3.le (by omega)⟩
 have hj1:∀ l':List ElectStep,l'.length≤80→∃ e c',Ev (fun k=>qc1 k (l,c1) l') (e,c')∧Shp e∧Cur 5000 c':=by
  intro l' hl'
  unfold qc1
  rcases PlayElection_s (v_1:=l') hnn with ⟨ho,p1,p2,hl,e1⟩ | e1
  ·have hw:=qoc (l:=l') (d:=[]) (qhb ho p1 p2 hl)
   obtain ⟨e,c',a,b,d⟩:=hj2 _ hw.1.shp
   exact ⟨e,c',Ev.bind h2 (Ev.bind e1 (Ev.bind (Ev.iteF rfl Ev.rfl) (Ev.of a))),b,d⟩
  ·have hw:=qhb qts (by decide) (by decide) (m:=0) (by omega)
   obtain ⟨e,c',a,b,d⟩:=hj2 _ hw.shp
   exact ⟨e,c',Ev.bind h2 (Ev.bind e1 (Ev.bind (a:=xh [[1],[2]]) (Ev.iteT rfl (Ev.bind (zaj (by decide) qts (by decide) (by decide)) Ev.rfl)) (Ev.of a))),b,d⟩
 unfold qas
 by_cases hl:l.length≤80
 ·obtain ⟨e,c',a,b,d⟩:=hj1 l hl
  exact ⟨e,c',Ev.bind h1 (Ev.bind (Ev.iteF (by simp; omega) Ev.rfl) a),b,d⟩
 ·obtain ⟨e,c',a,b,d⟩:=hj1 (l.take 80) (by simp; omega)
  exact ⟨e,c',Ev.bind h1 (Ev.bind (a:=l.take 80) (Ev.iteT (by simp; omega) (Ev.bindp (a:=l.take 80) (qj3 (l:=l) (i:=80) (by omega)) Ev.rfl)) a),b,d⟩
theorem qnz {code:List Int}(hb:Bytes code) : Cur 0 (L1Cur.mk code 0 0):=⟨hb,Int.le_refl _,Int.le_refl _⟩
theorem DrawStep_ok {code:List Int}(hb:Bytes code) : ∃ e x,Ev (fun k=>xx k code) (e,x)∧Shp e:=by
 obtain ⟨e,c1,h1,hs,hc1⟩:=qhz (qnz hb)
 obtain ⟨l,c2,h2,_,_⟩:=qod hc1 (by omega)
 unfold xx
 by_cases hl:l.length=0
 ·exact ⟨e,_,Ev.bind h1 (Ev.bind h2 (Ev.iteT (by simpa using hl) Ev.rfl)),hs⟩
 ·have hx:l[0]? = some (l[0]'(by omega)):=List.getElem?_eq_getElem _
  exact ⟨e,_,Ev.bind h1 (Ev.bind h2 (Ev.iteF (by simpa using hl) (Ev.bindp (wk (i:=0) hx) Ev.rfl))),hs⟩
theorem DrawLeader_ok {code:List Int}(hb:Bytes code) : ∃ e t,Ev (fun k=>qaz k code) (e,t)∧Shp e:=by
 obtain ⟨e,c1,h1,hs,hc1⟩:=qhz (qnz hb)
 obtain ⟨w,c2,h2,_⟩:=wy hc1 (by omega) 6 (by omega)
 unfold qaz
 exact ⟨e,_,Ev.bind h1 (Ev.bindp h2 Ev.rfl),hs⟩
theorem DrawMay_ok {code:List Int}(hb:Bytes code) : ∃ e t,Ev (fun k=>qbl k code) (e,t)∧Shp e:=by
 obtain ⟨e,c1,h1,hs,hc1⟩:=qhz (qnz hb)
 have hn:=hs.n2
 obtain ⟨w,c2,h2,_⟩:=wy hc1 (by omega) ((List.length e.Servers:Int)+1) (by omega)
 refine ⟨e,w,?_,hs⟩
 unfold qbl
 refine Ev.bind h1 ?_
 dsimp only
 rw [kt (n:=(List.length e.Servers:Int)+1) (by omega) (by omega)]
 exact Ev.bindp h2 Ev.rfl
theorem DrawNew_ok {code:List Int}(hb:Bytes code) : ∃ l,Ev (fun k=>uj k code) l∧nnL IntR.nn l≤1048576:=by
 obtain ⟨logs,c2,h2,n2,n3,hc2⟩:=qpg (qnz hb) (by omega)
 unfold uj
 exact ⟨logs,Ev.bind h2 Ev.rfl,qpv n2.2 n3⟩
theorem qq1 {c:L1Cur}(hc:Cur 0 c) : ∃ a b c',Ev (fun k=>qd6 k c) (a,b,c')∧a.length≤31∧b.length≤31:=by
 obtain ⟨a,c1,h1,n1,hc1⟩:=qit hc (by omega)
 obtain ⟨g,hg,_⟩:=qhf (l:=a) (by omega)
 have hj1:∀ (b:Bool) (c:L1Cur),Cur 200 c→∃ a' b' c',Ev (fun k=>w8 k (a,c1) b c) (a',b',c')∧a'.length≤31∧b'.length≤31:=by
  intro b c hc
  unfold w8
  cases b with
  | true =>
   obtain ⟨b,c2,h2,n2,hc2⟩:=qit hc (by omega)
   exact ⟨a,b,c2,Ev.iteT rfl (Ev.bind h2 Ev.rfl),n1,n2⟩
  | false =>
   obtain ⟨w,c2,h2,hc2,p0,p1⟩:=wy hc (by omega) ((List.length a:Int)+1) (by omega)
   have hs:sl a 0 w=some (a.take w.toNat):=by
    have:=qj3 (l:=a) (i:=w.toNat) (by omega)
    rwa [show ((w.toNat:Nat) : Int)=w by omega] at this
   have hj2:∀ m:Int,∃ b' c',Ev (fun k=>qb8 k (a,c1) (w,c2) (a.take w.toNat) m) (a,b',c')∧b'.length≤31:=by
    intro m
    obtain ⟨w3,c3,h3,hc3,q0,q1⟩:=wy hc2 (by omega) 5 (by omega)
    have key:=Ev.loopQ (B:=fun s176:List Int × Int × Int × L1Cur=>qad s176.1 s176.2.1 s176.2.2.1 s176.2.2.2) (s:=((a.take w.toNat,m,w3,c3) : List Int × Int × Int × L1Cur))
     (fun o=>∃ (l:List Int) (e m:Int) (c:L1Cur),o = .nxt (l,e,m,c)∧l.length≤31)
     (fun st=>∃ j:Nat,(j:Int)+st.2.2.1=w3∧0≤st.2.2.1∧st.1.length≤31∧Cur (300+j) st.2.2.2)
     (fun st=>st.2.2.1.toNat) ⟨0,by simp,q0,by rw [List.length_take]; omega,hc3.le (by omega)⟩ ?_
    ·obtain ⟨o,ho,l,e,m',c4,rfl,hl⟩:=key
     refine ⟨l,c4,?_,hl⟩
     unfold qb8
     exact Ev.bindp h3 (Ev.jn ho Ev.rfl)
    ·rintro ⟨l,e,m',c4⟩ ⟨j,hj,hm,hl,hc4⟩
     simp only at hj hm hl hc4
     by_cases hm0:0<m'∧l.length<30
     ·obtain ⟨v,c5,h5,hc5,_⟩:=wy hc4 (by omega) 3 (by omega)
      refine .inl ⟨(l++[IntKind.wrap .i64 (e+v)],IntKind.wrap .i64 (e+v),m' - 1,c5),?_,⟨j+1,by simp only; omega,by simp only; omega,by simp; omega,by simp only; exact hc5.le (by omega)⟩,by simp only; omega⟩
      simp only [qad]
      rw [if_pos (by simp; omega),h5,Option.bind_some,qpi (by omega),Option.bind_some,kt (n:=m' - 1) (by omega) (by omega)]
     ·refine .inr (.inl ⟨(l,e,m',c4),?_,l,e,m',c4,rfl,hl⟩)
      simp only [qad]
      rw [if_neg (by simp; omega)]
   have pre:∀ {m b' c'},Ev (fun k=>qb8 k (a,c1) (w,c2) (a.take w.toNat) m) (a,b',c')→Ev (fun _:Nat=>if (decide ((0:Int)<(List.length (a.take w.toNat) : Int)))=true then ((z8 (a.take w.toNat) (IntKind.wrap .i64 ((List.length (a.take w.toNat) : Int) - 1))).bind fun x83=>(some x83)) else (some 0)) m→Ev (fun k=>w8 k (a,c1) false c) (a,b',c'):=by
    intro m b' c' e1 e2
    unfold w8
    refine Ev.iteF rfl ?_
    dsimp only
    rw [kt (n:=(List.length a:Int)+1) (by omega) (by omega)]
    exact Ev.bindp h2 (Ev.bindp hs (Ev.bindp (qch (by rw [List.length_take]; omega)) (Ev.bind e2 e1)))
   by_cases h0:(a.take w.toNat).length=0
   ·obtain ⟨b',c',e1,e2⟩:=hj2 0
    refine ⟨a,b',c',?_,n1,e2⟩
    have:=pre e1 (Ev.iteF (by simp only [decide_eq_false_iff_not]; omega) Ev.rfl)
    unfold w8 at this
    exact this
   ·obtain ⟨b',c',e1,e2⟩:=hj2 (j0 (a.take w.toNat))
    refine ⟨a,b',c',?_,n1,e2⟩
    have:=pre e1 (Ev.iteT (by simp only [decide_eq_true_eq]; omega) (Ev.bindp (qog (by rw [List.length_take]; omega) h0) Ev.rfl))
    unfold w8 at this
    exact this
 unfold qd6
 cases g with
 | false =>
  obtain ⟨a',b',c',e,r1,r2⟩:=hj1 true c1 (hc1.le (by omega))
  exact ⟨a',b',c',Ev.bind h1 (Ev.bind hg (Ev.bind (Ev.iteT rfl Ev.rfl) e)),r1,r2⟩
 | true =>
  obtain ⟨w,c2,h2,hc2⟩:=qii hc1 (by omega) 6 (by omega)
  obtain ⟨a',b',c',e,r1,r2⟩:=hj1 w c2 (hc2.le (by omega))
  exact ⟨a',b',c',Ev.bind h1 (Ev.bind hg (Ev.bind (Ev.iteF rfl (Ev.bindp h2 Ev.rfl)) e)),r1,r2⟩
theorem DrawUp_ok {code:List Int}(hb:Bytes code) : ∃ a b,Ev (fun k=>qa1 k code) (a,b)∧a.length≤31∧b.length≤31:=by
 obtain ⟨a,b,c',e,r1,r2⟩:=qq1 (qnz hb)
 unfold qa1 qdl
 exact ⟨a,b,Ev.bind (Ev.bind e Ev.rfl) Ev.rfl,r1,r2⟩
theorem qql {e:Election}(h:e.nn≤1048576)(t:Int) : ∃ r,Ev (fun _=>qbs e t) r∧Ev (fun _=>qdf e t) r:=by
 obtain ⟨b,e1,hb⟩:=qcc h
 obtain ⟨b',e2,hb'⟩:=qbv h
 obtain rfl:b=b':=by cases b <;> cases b' <;> simp_all
 obtain ⟨n1,n2,n3,n4⟩:=qhp h
 obtain ⟨r,a1,a2⟩:=qy6 e2 n3 t
 refine ⟨r,a1,?_⟩
 unfold qdf
 cases b with
 | false =>
  rcases a2 with ⟨rfl,_⟩ | ⟨hh,_⟩
  ·exact Ev.bind e1 (Ev.iteT rfl Ev.rfl)
  ·cases hh
 | true =>
  refine Ev.bind e1 (Ev.iteF rfl ?_)
  have fin:∀ o:Oc Unit (Int × Bool),Ev (fun _=>ki (fun i x (_:Unit)=>yg t i x) e.Led ()) o→(o = .nxt ()→r=(0,false))→(∀ q,o = .ret q→r=q)→(∀ u,o ≠ .brk u)→Ev (fun _=>jn (ki (fun i x (_:Unit)=>yg t i x) e.Led ()) (fun _=>qey)) r:=by
   intro o h1 h2 h3 h4
   cases o with
   | nxt u=>rw [h2 rfl]; exact Ev.jn h1 Ev.rfl
   | brk u=>exact absurd rfl (h4 u)
   | ret q=>rw [h3 q rfl]; exact Ev.jn_ret h1
  refine fin (if r.2=true then .ret r else .nxt ()) ?_ ?_ ?_ ?_
  ·rcases a2 with ⟨rfl,hn⟩ | ⟨_,i,v,q1,q2,q3,rfl⟩
   ·have hn:∀ v∈e.Led,v.Term≠t:=hn.resolve_left (by simp)
    exact qjn (B:=fun _ i x _=>yg t i x) (by omega) (fun i x hx=>by
     unfold yg
     exact Ev.iteF (by simpa using hn x (List.mem_of_getElem? hx)) Ev.rfl)
   ·refine uo (B:=fun _ i x _=>yg t i x) (by omega) (fun j q _=>e.Led.drop j=q∧j≤i) ⟨rfl,by omega⟩ (fun j x q _ ⟨hq,hj⟩=>?_) (fun j _ ⟨hq,hj⟩=>?_)
    ·have hx:e.Led[j]? = some x:=by have:=congrArg (fun z=>z[0]?) hq; simpa using this
     by_cases hji:j=i
     ·subst hji
      rw [hx] at q1
      cases q1
      refine .inr (.inr ⟨(v.Leader,true),?_,rfl⟩)
      unfold yg
      exact Ev.iteT (by simpa using q2) Ev.rfl
     ·refine .inl ⟨(),?_,by have:=congrArg (List.drop 1) hq; simpa [List.drop_drop] using this,by omega⟩
      unfold yg
      exact Ev.iteF (by simpa using q3 j x (by omega) hx) Ev.rfl
    ·have:=congrArg List.length hq
     have:=(List.getElem?_eq_some_iff.1 q1).1
     simp at *
     omega
  ·intro ho
   rcases a2 with ⟨rfl,_⟩ | ⟨_,i,v,_,_,_,rfl⟩
   ·rfl
   ·cases ho
  ·intro q ho
   rcases a2 with ⟨rfl,_⟩ | ⟨_,i,v,_,_,_,rfl⟩
   ·cases ho
   ·cases ho; rfl
  ·intro u ho
   rcases a2 with ⟨rfl,_⟩ | ⟨_,i,v,_,_,_,rfl⟩
   ·cases ho
   ·cases ho
theorem q7o {e:Election}(h:e.nn≤1048576)(k:Int) : ∃ r,Ev (fun _=>qac e k) r∧Ev (fun _=>qbk e k) r:=by
 obtain ⟨b,e1,hb⟩:=qcc h
 obtain ⟨b',e2,hb'⟩:=qbv h
 obtain rfl:b=b':=by cases b <;> cases b' <;> simp_all
 cases b with
 | false =>
  unfold qac qbk
  exact ⟨_,Ev.bind e2 (Ev.iteT rfl Ev.rfl),Ev.bind e1 (Ev.iteT rfl Ev.rfl)⟩
 | true =>
  have hg:=hb.1 rfl
  have hf:=hg.fit
  have hn:=hf.n2
  have hn1:=hf.n1
  by_cases hk:0≤k∧k<e.Servers.length
  ·obtain ⟨s,hs⟩:=At.of hk.1 hk.2
   refine ⟨_,zaz hg hs,?_⟩
   obtain ⟨_,hsl,_⟩:=hf.sv k s hs
   have hc:=List.countP_le_length (p:=fun t:Server=>up9 (j0 s.Log) s.Log.length t.Log) (l:=e.Servers)
   unfold qbk
   refine Ev.bind e1 (Ev.iteF ?_ (Ev.jn (s:=((e.Servers.countP (fun t=>up9 (j0 s.Log) s.Log.length t.Log) : Nat) : Int)) (uo (B:=fun _ i x c=>qb3 e k i x c) (by omega) (fun i q c=>e.Servers.drop i=q∧c=(((e.Servers.take i).countP (fun t=>up9 (j0 s.Log) s.Log.length t.Log) : Nat) : Int)) ⟨rfl,by simp⟩ (fun i x q c ⟨hq,hc2⟩ => .inl ?_) (fun i c ⟨hq,hc2⟩=>?_)) ?_))
   ·have:=bF qea (fun h=>h hk)
    rw [this]
    rfl
   ·have hx:e.Servers[i]? = some x:=by have:=congrArg (fun z=>z[0]?) hq; simpa using this
    obtain ⟨_,hxs,_⟩:=hf.sv _ x (At.nat hx)
    have hlt:i<e.Servers.length:=(List.getElem?_eq_some_iff.1 hx).1
    have h5:(e.Servers.take (i+1)).countP (fun t=>up9 (j0 s.Log) s.Log.length t.Log)=(e.Servers.take i).countP (fun t=>up9 (j0 s.Log) s.Log.length t.Log)+if up9 (j0 s.Log) s.Log.length x.Log=true then 1 else 0:=by
     rw [List.take_add_one,hx,List.countP_append]
     simp only [Option.toList_some,List.countP_cons,List.countP_nil,Nat.zero_add]
    have h6:=List.countP_le_length (p:=fun t:Server=>up9 (j0 s.Log) s.Log.length t.Log) (l:=e.Servers.take i)
    rw [List.length_take] at h6
    refine ⟨(((e.Servers.take (i+1)).countP (fun t=>up9 (j0 s.Log) s.Log.length t.Log) : Nat) : Int),?_,by have:=congrArg (List.drop 1) hq; simpa [List.drop_drop] using this,rfl⟩
    unfold qb3
    refine Ev.bindp (y9 hs) (Ev.bindp (qie (by omega)) (Ev.bindp (y9 hs) (Ev.bindp (qze (by omega)) ?_)))
    rw [h5,hc2]
    cases up9 (j0 s.Log) s.Log.length x.Log with
    | true=>exact Ev.iteT rfl (Ev.of (by rw [qqr (by omega)]; rfl))
    | false=>exact Ev.iteF rfl Ev.rfl
   ·have hi:e.Servers.length≤i:=by have:=congrArg List.length hq; simp at this; omega
    rw [hc2,List.take_of_length_le hi]
   ·unfold qfj
    rw [kt (by omega) (by omega)]
    refine Ev.of ?_
    congr 2
    simp only [decide_eq_decide]
    omega
  ·unfold qac qbk
   refine ⟨_,Ev.bind e2 (Ev.iteT ?_ Ev.rfl),Ev.bind e1 (Ev.iteT ?_ Ev.rfl)⟩
   ·rw [kt (n:=(List.length e.Servers:Int) - 1) (by omega) (by omega)]
    simp [zt]
    omega
   ·rw [qea.2 hk]
    rfl
theorem q95 {a b:List Int}(ha:a.length≤31)(hb:b.length≤31) : ∃ r:Bool × Bool,Ev (fun _=>qao a b) r∧Ev (fun _=>qdg a b) r∧(r.2=true→∃ w,Ev (fun _=>qao b a) (w,true)∧(r.1=true∨w=true)):=by
 obtain ⟨x,x1,hx⟩:=qhf (l:=a) (by omega)
 obtain ⟨x',x2,hx'⟩:=qle (l:=a) (by omega)
 obtain rfl:x=x':=by cases x <;> cases x' <;> simp_all
 obtain ⟨y,y1,hy⟩:=qhf (l:=b) (by omega)
 obtain ⟨y',y2,hy'⟩:=qle (l:=b) (by omega)
 obtain rfl:y=y':=by cases y <;> cases y' <;> simp_all
 unfold qao qdg
 cases x with
 | false=>exact ⟨(false,false),Ev.bind x2 (Ev.bind (a:=true) (Ev.iteT rfl Ev.rfl) (Ev.iteT rfl Ev.rfl)),Ev.bind x1 (Ev.bind (a:=true) (Ev.iteT rfl Ev.rfl) (Ev.iteT rfl Ev.rfl)),by simp⟩
 | true =>
  cases y with
  | false=>exact ⟨(false,false),Ev.bind x2 (Ev.bind (a:=true) (Ev.iteF rfl (Ev.bind y2 Ev.rfl)) (Ev.iteT rfl Ev.rfl)),Ev.bind x1 (Ev.bind (a:=true) (Ev.iteF rfl (Ev.bind y1 Ev.rfl)) (Ev.iteT rfl Ev.rfl)),by simp⟩
  | true =>
   refine ⟨(up9 (j0 a) a.length b,true),Ev.bind x2 (Ev.bind (a:=false) (Ev.iteF rfl (Ev.bind y2 Ev.rfl)) (Ev.iteF rfl (Ev.bindp (qhd (by omega)) (Ev.bindp (qoj (by omega)) Ev.rfl)))),Ev.bind x1 (Ev.bind (a:=false) (Ev.iteF rfl (Ev.bind y1 Ev.rfl)) (Ev.iteF rfl (Ev.bindp (qie (by omega)) (Ev.bindp (qze (by omega)) Ev.rfl)))),fun _=>⟨up9 (j0 b) b.length a,?_,qvx⟩⟩
   exact Ev.bind y2 (Ev.bind (a:=false) (Ev.iteF rfl (Ev.bind x2 Ev.rfl)) (Ev.iteF rfl (Ev.bindp (qhd (by omega)) (Ev.bindp (qoj (by omega)) Ev.rfl))))
theorem FnElectSteps_pure (v_0:List Int)(w0:wfL 1 qlz v_0)(v_1:List Int)(w1:wfL 1 qlz v_1) : ∃ k,qa0 k v_0 v_1=some true:=by
 suffices h:Ev (fun k=>qa0 k v_0 v_1) true by
  obtain ⟨K,h⟩:=h
  exact ⟨K,h K (Nat.le_refl _)⟩
 have wl0:=w0.1
 have wl1:=w1.1
 unfold qa0
 by_cases hbig:(1048576:Int)<IntKind.wrap .i64 ((List.length v_0:Int)+(List.length v_1:Int))
 ·exact Ev.iteT (by simpa using hbig) Ev.rfl
 refine Ev.iteF (by simpa using hbig) ?_
 obtain ⟨e,x,hdr,hs⟩:=DrawStep_ok (code:=v_0) (fun x hx=>w0.2 x hx)
 refine Ev.bind hdr ?_
 -- the second half
 have hj:Ev (fun k=>qa5 k v_1) true:=by
  have hb:Bytes v_1:=fun x hx=>w1.2 x hx
  obtain ⟨e1,t1,a1,s1⟩:=DrawLeader_ok hb
  obtain ⟨e2,t2,a2,s2⟩:=DrawMay_ok hb
  obtain ⟨p,q,a3,l1,l2⟩:=DrawUp_ok hb
  obtain ⟨logs,a4,s4⟩:=DrawNew_ok hb
  obtain ⟨r1,b1,b2⟩:=qql s1.nn t1
  obtain ⟨r2,c1,c2⟩:=q7o s2.nn t2
  obtain ⟨r3,d1,d2,d3⟩:=q95 l1 l2
  obtain ⟨r4,f1,f2,f3⟩ : ∃ r:Election × Bool,Ev (fun _=>qbh logs) r∧Ev (fun _=>k6 logs) r∧r.1.nn≤1048576:=by
   unfold qbh
   rcases qp3 s4 with ⟨ho,h1,h2,e1,e2⟩ | ⟨e1,e2⟩
   ·exact ⟨_,Ev.bind e2 Ev.rfl,e1,(qhb ho h1 h2 (m:=0) (by omega)).fit.nn⟩
   ·exact ⟨_,Ev.bind e2 Ev.rfl,e1,by decide⟩
  unfold qa5
  refine Ev.bind a1 (Ev.bind b1 (Ev.bind b2 (Ev.bind a2 (Ev.bind c1 (Ev.bind c2 (Ev.bind a3 (Ev.bind d1 (Ev.bind d2 (Ev.bind a4 (Ev.bind f1 (Ev.bind f2 (Ev.bind (a:=false) (Ev.iteF (by simp) (Ev.bind (qgl f3) Ev.rfl)) (Ev.iteF rfl ?_)))))))))))))
  cases h3:r3.2 with
  | false=>exact Ev.iteF rfl Ev.rfl
  | true =>
   obtain ⟨w,k1,k2⟩:=d3 h3
   refine Ev.iteT rfl (Ev.bind k1 (Ev.of ?_))
   rcases k2 with k2 | k2 <;> simp [k2]
 obtain ⟨r,e1,e2,hrn,hr⟩:=StepElection_all (x:=x) hs.nn (fun _=>hs.sta)
 obtain ⟨b',e3,e4⟩:=(qcc hs.nn).two (qbv hs.nn)
 have hgood:Ev (fun _=>w5 e) b':=by unfold w5; exact Ev.bind e4 Ev.rfl
 refine Ev.bind e2 (Ev.bind e1 (Ev.iteF (by simp) (Ev.bind (qgl hrn) (Ev.iteF rfl (Ev.bind hgood (Ev.bind e3 (Ev.iteF (by simp) ?_)))))))
 cases hr2:r.2 with
 | false=>exact Ev.jn (s:=()) (Ev.iteF rfl Ev.rfl) hj
 | true =>
  obtain ⟨hg,he,hg'⟩:=hr hr2
  have hf:=hg.fit
  have hm:=qoh hf he
  have hk:=qko he
  refine Ev.jn (s:=()) (Ev.iteT rfl ?_) hj
  simp only [qir]
  refine Ev.jn (s:=(e.Servers,r.1.Servers)) (uo (B:=fun _ i _ (s:List Server × List Server)=>uh i s.1 s.2) (by simp; have:=hf.n2; omega) (fun i q s=>i+q.length=e.Servers.length∧s=(e.Servers,r.1.Servers)) ⟨by simp,rfl⟩ (fun i _ q s ⟨hq,hs⟩ => .inl ?_) (fun i s ⟨_,hs⟩=>by rw [hs])) ?_
  ·subst hs
   simp only [List.length_cons] at hq
   obtain ⟨t,ht⟩:=At.of (e:=e) (i:=(i:Int)) (by omega) (by omega)
   obtain ⟨t',ht',hmo⟩:=hm.2 _ t ht
   obtain ⟨_,hsl,_⟩:=hf.sv _ t ht
   refine ⟨(e.Servers,r.1.Servers),?_,by omega,rfl⟩
   unfold uh
   refine Ev.bindp (y9 ht) (Ev.bindp (y9 ht') (Ev.bind (a:=false) (Ev.iteF ?_ ?_) (Ev.iteF rfl Ev.rfl)))
   ·refine bF (P:=t'.Term<t.Term∨(t'.Term=t.Term∧t.Voted ≠ -1)∧t'.Voted≠t.Voted) (by simp only [Bool.or_eq_true,Bool.and_eq_true,decide_eq_true_eq]) ?_
    rintro (h1 | ⟨⟨h1,h2⟩,h3⟩)
    ·have:=hmo.term; omega
    ·exact h3 (hmo.vote h1 h2)
   ·rw [hmo.log]
    exact Ev.bind (qgs (by omega)) Ev.rfl
  ·unfold qc0
   refine Ev.bind (a:=true) (by unfold w5; exact Ev.bind (qp0 hg') Ev.rfl) (Ev.iteF ?_ Ev.rfl)
   have:=hk.led0
   simp
   omega
end Go.Proofs.Ytpddolihbnfahaa.X
