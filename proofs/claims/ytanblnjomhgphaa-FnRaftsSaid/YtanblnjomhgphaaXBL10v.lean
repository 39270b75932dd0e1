/- FnRafts: what is drawn is as the law says. -/
import Derived.Test.YtanblnjomhgphaaXBL10r
import Derived.Test.YtanblnjomhgphaaXBL10u
import Derived.Test.YtanblnjomhgphaaXBW
open Go.Proofs.Ytanblnjomhgphaa.X.Ev renaming bindp→a0c,bind→a0e,iteF→a0b,iteT→a0l,rfl→a0h
open Int renaming toNat_natCast→a05
open List renaming getElem?_eq_getElem→s8,getElem?_eq_some_iff→r9,length_take→a0f,mem_of_getElem?→a0o
set_option linter.unusedVariables false
set_option linter.unusedSimpArgs false
namespace Go.Proofs.Ytanblnjomhgphaa.X
open Go

theorem zdt {l:List Entry}{a b:Nat}(h:a≤b) : (l.take b).take a=l.take a:=by rw [List.take_take,Nat.min_eq_left h]
theorem FnRafts_pure (d8:List Int)(w0:wfL 1 qpp d8) : ∃ k,qd2 k d8=some true:=by
 suffices h:Ev (fun k=>qd2 k d8) true by
  obtain ⟨K,h⟩:=h
  exact ⟨K,h K (Nat.le_refl _)⟩
 unfold qd2
 by_cases hbig:(1048576:Int)<(List.length d8:Int)
 ·exact a0l (by simpa using hbig) a0h
 refine a0b (by simpa using hbig) ?_
 obtain ⟨n,l,hdr,h5,hll⟩:=DrawPlay_ok (code:=d8) (fun x hx=>w0.2 x hx)
 refine a0e hdr ?_
 dsimp only
 obtain ⟨R,e1,e2,hR⟩:=q15 (l:=l) h5 (by omega)
 refine a0e e2 (a0e e1 ?_)
 have hnn:R.1.nn≤1048576:=by
  rcases hR with ⟨rfl,_⟩ | ⟨_,⟨m,G,h⟩,_⟩
  ·decide
  ·exact h.nn
 have hdl:R.2.1.length≤1000:=by
  rcases hR with ⟨rfl,_⟩ | ⟨_,_,h⟩
  ·decide
  ·exact h
 refine a0e (a:=false) (a0b (by simp) (a0e (qnl (by omega)) a0h)) (a0e (a:=false) (a0b rfl (a0e (qms hnn) a0h)) (a0b rfl ?_))
 rcases hR with ⟨rfl,_⟩ | ⟨hok,⟨m,G,hr⟩,_⟩
 ·exact a0l rfl a0h
 refine a0b (by rw [hok]; rfl) ?_
 obtain ⟨r,R⟩:=R
 dsimp only at *
 obtain ⟨p0,t,hp0⟩:=hr.some
 have hg:=hr.good
 have S:=hr.sg
 have I:=hr.ri
 have hn:=S.hn
 have n5:=S.n1
 have c1:=za6 hp0 hnn hg
 have c2:=za8 hnn hg
 obtain ⟨gv,hgv,hgv2⟩:=qj3 hnn
 rw [hgv2.2 hg] at hgv
 have c3:Ev (fun _=>qc9 r) true:=by
  unfold qc9
  exact a0e hgv a0h
 -- the one that has most
 have hbm:qc1 p0 r.Peers∈r.Peers:=by
  rcases qn1 (s:=p0) (l:=r.Peers) with h | h
  ·rw [h,hp0]; simp
  ·exact h
 have hmax:=(qzn (s:=p0) (l:=r.Peers)).2
 obtain ⟨B,hB,hBe⟩:=qwo hn hbm
 rw [hBe] at c1 hmax
 have hpB:=S.pg B hB
 have hc0:=hpB.c0
 have hc1:=hpB.c1
 have hlg:=hpB.lg
 have hcl:((pr r B).Log.take (pr r B).Commit.toNat).length=(pr r B).Commit.toNat:=by rw [a0f]; omega
 generalize hcc:(pr r B).Log.take (pr r B).Commit.toNat=c at *
 refine a0e c1 (a0e c2 (a0e c3 (a0b rfl ?_)))
 -- peer by peer
 have body:∀ (i:Nat) (x:Peer) (s:Int),r.Peers[i]? = some x→Ev (fun k=>uc k (r,R) (c,true) i x s) (.nxt (mxI s x.Term)):=fun i x s hx=>by
  have hi:=(r9.1 hx).1
  have hir:je m (i:Int):=⟨by omega,by omega⟩
  have hxe:x=pr r (i:Int):=by
   have g:=(wv (r:=r) (k:=(i:Int)) (by rw [hn]; exact hir)).2.1
   rw [a05,hx] at g
   exact Option.some.inj g
  have hpx:=S.pg _ hir
  have hle:=hmax x (a0o hx)
  unfold uc
  refine a0e (a:=mxI s x.Term) ?_ ?_
  ·unfold mxI
   by_cases q:x.Term > s
   ·rw [if_pos q]; exact a0l (by simpa using q) a0h
   ·rw [if_neg q]; exact a0b (by simp; omega) a0h
  rw [←hxe] at hpx
  have h0:=hpx.c0
  have h1:=hpx.c1
  have hlx:=hpx.lg
  unfold qfb
  have one:=I.one hir hB (by rw [←hxe]; omega)
  rw [←hxe] at one
  refine a0b (by simp; omega) (a0c (qf6 h0 h1) (a0c (qf6 (l:=c) h0 (by omega)) ?_))
  have ec:c.take x.Commit.toNat=x.Log.take x.Commit.toNat:=by
   rw [←hcc,zdt (by omega),one]
  rw [ec]
  refine a0e (qc0 (by rw [a0f]; omega)) (a0b rfl (a0c (qiv (l:=r.Peers) (i:=i) (by omega)) (Ev.jn (s:=()) ?_ (Ev.of rfl))))
  refine qgu (B:=fun k j y _=>qba k x j y) (by rw [a0f]; omega) (fun j y hy=>?_)
  have hj:=(r9.1 hy).1
  rw [a0f] at hj
  rw [List.getElem?_take_of_lt (by omega)] at hy
  have hjr:je m (j:Int):=⟨by omega,by omega⟩
  have hye:y=pr r (j:Int):=by
   have g:=(wv (r:=r) (k:=(j:Int)) (by rw [hn]; exact hjr)).2.1
   rw [a05,hy] at g
   exact Option.some.inj g
  have up:∀ {k:Int},je m k→qh0 (pr r k).Log 100:=fun {k} hk=>by
   obtain ⟨a,b,d⟩:=hr.log hk
   have:=(S.pg k hk).t1
   exact ⟨fun e he=>⟨(a e he).1,Int.le_trans (a e he).2.1 this,(a e he).2.2⟩,b,d⟩
  have hly:=(S.pg _ hjr).lg
  rw [←hye] at hly
  obtain ⟨k0,mk,cc,me,mc⟩:=(zam (a:=x.Log) (b:=y.Log) (by omega) (by omega)).2 (by rw [hxe,hye]; exact ⟨up hir,up hjr⟩)
  have:cc=true:=mc.2 (by
   rcases mk.eq with e | e
   ·rw [e]; simp
   ·by_cases z:k0=0
    ·rw [z]; simp
    ·have la:=mk.la
     have lb:=mk.lb
     have ga:x.Log[k0 - 1]? = some (x.Log[k0 - 1]'(by omega)):=s8 _
     have gb:y.Log[k0 - 1]? = some (y.Log[k0 - 1]'(by omega)):=s8 _
     rw [ga,gb] at e
     have e':(x.Log[k0 - 1]'(by omega)).Term=(y.Log[k0 - 1]'(by omega)).Term:=Option.some.inj e
     have:=I.match hir hjr (k:=k0 - 1) (by rw [←hxe]; exact ga) (by rw [←hye]; exact gb) e'
     rw [show k0 - 1+1=k0 by omega,← hxe,← hye] at this
     exact this)
  subst this
  unfold qba
  refine a0e me (a0b ?_ a0h)
  have hns:¬ (x.Leads=true∧y.Leads=true∧x.Term=y.Term):=fun w=>by
   rw [hxe,hye] at w
   have:=I.single hir hjr w.1 w.2.1 w.2.2
   omega
  cases hl1:x.Leads <;> cases hl2:y.Leads <;> simp
  exact fun w=>hns ⟨hl1,hl2,w⟩
 have loop:∃ T:Int,(∀ p∈r.Peers,p.Term≤T)∧Ev (fun k=>jt (fun i143 x144 s363=>uc k (r,R) (c,true) i143 x144 s363) r.Peers 0) (.nxt T):=by
  refine ⟨r.Peers.foldl (fun s p=>mxI s p.Term) 0,?_,?_⟩
  ·have key:∀ (l:List Peer) (s:Int),s≤l.foldl (fun s p=>mxI s p.Term) s∧∀ p∈l,p.Term≤l.foldl (fun s p=>mxI s p.Term) s:=by
    intro l
    induction l with
    | nil=>intro s; exact ⟨Int.le_refl _,by simp⟩
    | cons p l ih =>
     intro s
     rw [List.foldl_cons]
     obtain ⟨a,b⟩:=ih (mxI s p.Term)
     have h1:s≤mxI s p.Term∧p.Term≤mxI s p.Term:=by unfold mxI; split <;> omega
     refine ⟨by omega,fun q hq=>?_⟩
     rcases List.mem_cons.1 hq with e | hq
     ·rw [e]; omega
     ·exact b q hq
   exact (key r.Peers 0).2
  ·refine yo (B:=fun k i x s=>uc k (r,R) (c,true) i x s) (by omega) (fun i q s=>r.Peers.drop i=q∧q.foldl (fun s p=>mxI s p.Term) s=r.Peers.foldl (fun s p=>mxI s p.Term) 0) ⟨rfl,rfl⟩ (fun i x q s ⟨h1,h2⟩ => .inl ?_) (fun i s ⟨h1,h2⟩=>by rw [←h2]; rfl)
   have hx:r.Peers[i]? = some x:=by have:=congrArg (fun z=>z[0]?) h1; simpa using this
   exact ⟨_,body i x s hx,by have:=congrArg (List.drop 1) h1; simpa [List.drop_drop] using this,h2⟩
 obtain ⟨T,hT,hloop⟩:=loop
 refine Ev.jn hloop ?_
 unfold qfh
 refine Ev.jn (s:=()) (qi7 (B:=fun _ i _=>qbe (r,R) (c,true) (qlj r,true) T i) (by have:=qqc (p:=fun _ (p:Peer)=>p.Leads) (l:=r.Peers) (i:=0); show (qlj r).length≤_; unfold qlj; omega) (fun i hi=>?_)) (Ev.of rfl)
 have hx:(qlj r)[i]? = some ((qlj r)[i]'hi):=s8 hi
 obtain ⟨j,p,p1,p2,p3⟩:=q2e (a0o hx)
 rw [Nat.zero_add] at p2
 have hj:=(r9.1 p1).1
 have hjr:je m (j:Int):=⟨by omega,by omega⟩
 have hpe:p=pr r (j:Int):=by
  have g:=(wv (r:=r) (k:=(j:Int)) (by rw [hn]; exact hjr)).2.1
  rw [a05,p1] at g
  exact Option.some.inj g
 have hlp:=(S.pg _ hjr).lg
 rw [←hpe] at hlp
 unfold qbe
 refine a0c (y9 hx) ?_
 rw [p2]
 refine a0c (y9 p1) (a0e (a:=false) ?_ (a0b rfl a0h))
 by_cases q:p.Term=T
 ·obtain ⟨a,b⟩:=I.has hB hjr (by rw [←hpe]; exact p3) (by
   show (pr r B).Term≤(pr r (j:Int)).Term
   rw [←hpe,q]
   have:=hT _ hbm
   rwa [hBe] at this)
  rw [←hpe] at a b
  refine a0l (by simpa using q) (a0e (a:=false) (a0b (by simp; omega) (a0c (qiv (l:=p.Log) (i:=c.length) (by omega)) ?_)) a0h)
  have e:p.Log.take c.length=c:=by rw [hcl,b,hcc]
  rw [e]
  exact a0e (qc0 (by omega)) a0h
 ·exact a0b (by simpa using q) a0h
end Go.Proofs.Ytanblnjomhgphaa.X
