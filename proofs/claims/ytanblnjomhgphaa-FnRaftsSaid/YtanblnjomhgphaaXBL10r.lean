/- Drawn steps of a raft: the draw comes to an end. -/
import Derived.Test.YtanblnjomhgphaaXBLArefl
import Derived.Test.YtanblnjomhgphaaXBL10q
open Go.Proofs.Ytanblnjomhgphaa.X.Ev renaming bindp→a0c,bind→a0e,iteF→a0b,iteT→a0l,rfl→a0h
open Int renaming le_refl→a1c
open Go.IntKind renaming wrap→r8
set_option linter.unusedVariables false
set_option linter.unusedSimpArgs false
namespace Go.Proofs.Ytanblnjomhgphaa.X
open Go

def RAn (n:Nat)(r:Raft) : Prop:=∃ G,RA n r G
theorem zdh {n:Nat}{r:Raft}{x:RaftStep}(h:RAn n r) : ∃ (y:Raft) (b:Bool),Ev (fun k=>kr k r x) (y,b)∧(b=true→RAn n y):=by
 obtain ⟨G,hr⟩:=h
 rcases qnt (x:=x) hr.sg hr.acc with ⟨y,h1,h2,h3⟩ | ⟨h1,h2⟩
 ·exact ⟨y,true,h2,fun _=>keep hr h1⟩
 ·exact ⟨r,false,h1,fun w=>by cases w⟩
theorem zbo {l:List RaftStep}{x:RaftStep}(h:l.length≤1000) : ju 32 l [x]=some (l++[x]):=by
 unfold ju
 rw [if_pos (by simp only [List.length_cons,List.length_nil]; omega)]
theorem zdz:∀ n:Fin 6,qde .i64 1 (r8 .u64 (n.val:Int))≤32:=by decide +kernel
theorem q0n {n:Nat}{r:Raft}{b:Bool}{x:RaftStep}(hn:r.Peers.length=n)(h5:1≤n∧n≤5)(hK:je n x.K) : ∃ (s:Int) (K:Int),Ev (fun k=>wo (fun s351:Int × RaftStep=>yu (n:Int) (ue n,b) r s351.1 s351.2) k (0,x)) (.nxt (s,⟨x.Kind,K,x.To,x.N⟩))∧je n K:=by
 have key:=Ev.loopQ (B:=fun s351:Int × RaftStep=>yu (n:Int) (ue n,b) r s351.1 s351.2) (s:=((0,x) : Int × RaftStep))
  (fun o=>∃ (s K:Int),o = .nxt (s,⟨x.Kind,K,x.To,x.N⟩)∧je n K)
  (fun st=>0≤st.1∧st.1≤n∧∃ K,st.2=⟨x.Kind,K,x.To,x.N⟩∧je n K)
  (fun st=>((n:Int) - st.1).toNat) ⟨a1c _,by simp only; omega,x.K,rfl,hK⟩ ?_
 ·obtain ⟨o,ho,s,K,rfl,hk⟩:=key
  exact ⟨s,K,ho,hk⟩
 ·rintro ⟨s,y⟩ ⟨h0,h1,K,rfl,hk⟩
  dsimp only at h0 h1
  have g:=(wv (r:=r) (k:=K) (by rw [hn]; exact hk)).1
  have stop:yu (n:Int) (ue n,b) r s ⟨x.Kind,K,x.To,x.N⟩=some (.brk (s,⟨x.Kind,K,x.To,x.N⟩))→(∃ s':Int × RaftStep,yu (n:Int) (ue n,b) r s ⟨x.Kind,K,x.To,x.N⟩=some (.brk s')∧∃ (s_1 K_1:Int),Oc.nxt (ρ:=L1Cur × RaftStep × List Peer) s' = .nxt (s_1,⟨x.Kind,K_1,x.To,x.N⟩)∧je n K_1):=fun e=>⟨_,e,s,K,rfl,hk⟩
  by_cases c:(b&&decide (s<(n:Int)))=true
  ·rw [Bool.and_eq_true,decide_eq_true_iff] at c
   obtain ⟨rfl,hs⟩:=c
   cases hl:(pr r K).Leads with
   | true =>
    refine .inr (.inl (stop ?_))
    unfold yu
    simp [hs,g,hl]
   | false =>
    refine .inl ⟨(s+1,⟨x.Kind,Int.tmod (K+1) n,x.To,x.N⟩),?_,⟨by dsimp only; omega,by dsimp only; omega,_,rfl,?_⟩,by dsimp only; omega⟩
    ·unfold yu
     have e1:r8 .i64 (s+1)=s+1:=k9 (by omega) (by omega)
     have e2:r8 .i64 (K+1)=K+1:=k9 (by have:=hk.1; omega) (by have:=hk.2; omega)
     have e3:(n:Int)≠0:=by omega
     simp [hs,g,hl,e1,e2,X.ck,e3]
     omega
    ·have:=hk.1
     exact ⟨Int.tmod_nonneg _ (by omega),Int.tmod_lt_of_pos _ (by omega)⟩
  ·refine .inr (.inl (stop ?_))
   unfold yu
   simp only [if_neg c]
   rfl
theorem zdv {n t:Nat}{r:Raft}{l:List RaftStep}{m:Int}{c:L1Cur}(hc:Cur t c)(ht:t≤900000)(h5:1≤n∧n≤5)(hr:RAn n r)(hl:l.length≤500)(hm:0<m∧m≤1000) : ∃ (x:RaftStep) (c':L1Cur) (r':Raft),Ev (fun k=>w8 k (n:Int) (ue n,true) l m c r) (.nxt (l++[x],m - 1,c',r'))∧Cur (t+8) c'∧RAn n r':=by
 obtain ⟨G,hR⟩:=id hr
 have hn:=hR.sg.hn
 -- the step is done
 have j6:∀ (x:RaftStep) (c':L1Cur),∃ r',Ev (fun k=>qab k (ue n,true) l m r c' x r.Peers) (.nxt (l++[x],m - 1,c',r'))∧RAn n r':=fun x c'=>by
  obtain ⟨y,b,e,hy⟩:=zdh (x:=x) hr
  have fin:∀ r':Raft,Ev (fun _=>qby l m c' x r') (.nxt (l++[x],m - 1,c',r')):=fun r'=>by
   unfold qby
   exact a0c (zbo (by omega)) (Ev.of (by rw [k9 (n:=m - 1) (by omega) (by omega)]))
  unfold qab
  cases b with
  | true=>exact ⟨y,a0e (a:=y) (a0l rfl (a0e (qoe hR.sg) (a0e e (a0l rfl a0h)))) (fin y),hy rfl⟩
  | false=>exact ⟨r,a0e (a:=r) (a0l rfl (a0e (qoe hR.sg) (a0e e (a0b rfl a0h)))) (fin r),hr⟩
 -- what is drawn for its kind
 have j3:∀ (x:RaftStep) (c1:L1Cur),Cur (t+2) c1→∃ (x':RaftStep) (c':L1Cur) (r':Raft),Ev (fun k=>qbw k (n:Int) (ue n,true) l m r c1 x) (.nxt (l++[x'],m - 1,c',r'))∧Cur (t+8) c'∧RAn n r':=fun x c1 hc1=>by
  have fin:∀ {F:Nat→Option (L1Cur × RaftStep × List Peer)} (x':RaftStep) (c':L1Cur),Ev F (c',x',r.Peers)→Cur (t+8) c'→∃ (x':RaftStep) (c':L1Cur) (r':Raft),Ev (fun k=>(F k).bind (fun s524=>qab k (ue n,true) l m r s524.1 s524.2.1 s524.2.2)) (.nxt (l++[x'],m - 1,c',r'))∧Cur (t+8) c'∧RAn n r':=fun x' c' hF hc'=>by
   obtain ⟨r',e,hr'⟩:=j6 x' c'
   exact ⟨x',c',r',a0e hF e,hc',hr'⟩
  unfold qbw
  by_cases k1:x.Kind=1
  ·obtain ⟨v,c2,h2,hc2,p0,p1⟩:=xm hc1 (by omega) (n:Int) (by omega)
   have hsh:qde .i64 1 (r8 .u64 (n:Int))≤32:=zdz ⟨n,by omega⟩
   obtain ⟨w,c3,h3,hc3,_⟩:=xm hc2 (by omega) (qde .i64 1 (r8 .u64 (n:Int))) (by omega)
   have u1:0≤r8 .u64 v:=by rw [show r8 .u64 v=v from IntWalk.u64_in _ (by omega)]; exact p0
   have u2:0≤r8 .u64 (n:Int):=by rw [show r8 .u64 (n:Int)=(n:Int) from IntWalk.u64_in _ (by omega)]; omega
   exact fin _ _ (a0l (by simpa using k1) (a0c h2 (Ev.ck u1 (Ev.ck u2 (a0c h3 a0h))))) (hc3.le (by omega))
  ·have hs:∃ s:Bool,Ev (fun _=>(if (decide (x.Kind=4))=true then (some (decide (x.Kind=4))) else (if (decide (x.Kind=5))=true then (some (decide (x.Kind=5))) else (some (decide (x.Kind=6)))))) s:=by
    by_cases k4:x.Kind=4
    ·exact ⟨_,a0l (by simpa using k4) a0h⟩
    ·by_cases k5:x.Kind=5
     ·exact ⟨_,a0b (by simpa using k4) (a0l (by simpa using k5) a0h)⟩
     ·exact ⟨_,a0b (by simpa using k4) (a0b (by simpa using k5) a0h)⟩
   obtain ⟨s,hs⟩:=hs
   have j4:∃ (x':RaftStep) (c':L1Cur),Ev (fun k=>qb2 k (n:Int) (ue n,true) r c1 x s) (c',x',r.Peers)∧Cur (t+8) c':=by
    unfold qb2
    cases s with
    | true =>
     obtain ⟨v,c2,h2,hc2,_⟩:=xm hc1 (by omega) 4 (by omega)
     exact ⟨_,_,a0l rfl (a0c h2 a0h),hc2.le (by omega)⟩
    | false =>
     obtain ⟨v,c2,h2,hc2,p0,p1⟩:=xm hc1 (by omega) (n:Int) (by omega)
     obtain ⟨s,K,e,hK⟩:=q0n (r:=r) (b:=true) (x:=⟨x.Kind,v,x.To,x.N⟩) hn h5 ⟨p0,by dsimp only; omega⟩
     obtain ⟨v6,c3,h3,hc3,_⟩:=xm hc2 (by omega) 6 (by omega)
     by_cases k3:x.Kind=3
     ·obtain ⟨v7,c4,h4,hc4,_⟩:=xm hc3 (by omega) (n:Int) (by omega)
      have g:=(wv (r:=r) (k:=K) (by rw [hn]; exact hK)).1
      have hlg:=(hR.sg.pg K hK).lg
      obtain ⟨v8,c5,h5',hc5,_⟩:=xm hc4 (by omega) (r8 .i64 (((pr r K).Log.length:Int)+1)) (by rw [k9 (by omega) (by omega)]; omega)
      refine ⟨⟨x.Kind,K,v7,v8⟩,c5,a0b rfl (a0c h2 (Ev.jn e ?_)),hc5.le (by omega)⟩
      unfold qb4
      exact a0c h3 (a0l (by simpa using k3) (a0c h4 (a0c g (a0c h5' a0h))))
     ·refine ⟨⟨x.Kind,K,x.To,v6⟩,c3,a0b rfl (a0c h2 (Ev.jn e ?_)),hc3.le (by omega)⟩
      unfold qb4
      exact a0c h3 (a0b (by simpa using k3) a0h)
   obtain ⟨x',c',e,hc'⟩:=j4
   exact fin _ _ (a0b (by simpa using k1) (a0e hs e)) hc'
 obtain ⟨v,c1,h1,_,hc1⟩:=q0t hc (by omega) [2,2,3,3,3,4,4,4,4,4,4,5,6,7,7] (by decide) (by decide)
 have j2:∀ (b:Bool) (c2:L1Cur),Cur (t+2) c2→∃ (x':RaftStep) (c':L1Cur) (r':Raft),Ev (fun k=>qb0 k (n:Int) (ue n,true) l m r (v,c1,[2,2,3,3,3,4,4,4,4,4,4,5,6,7,7]) b c2) (.nxt (l++[x'],m - 1,c',r'))∧Cur (t+8) c'∧RAn n r':=fun b c2 hc2=>by
  unfold qb0
  cases b with
  | true =>
   obtain ⟨x',c',r',e,r1⟩:=j3 ⟨1,0,0,0⟩ c2 hc2
   exact ⟨x',c',r',a0e (a0l rfl a0h) e,r1⟩
  | false =>
   obtain ⟨x',c',r',e,r1⟩:=j3 ⟨v,0,0,0⟩ c2 hc2
   exact ⟨x',c',r',a0e (a0b rfl a0h) e,r1⟩
 unfold w8
 by_cases hl0:(l.length:Int)=0
 ·obtain ⟨x',c',r',e,r1⟩:=j2 true c1 (hc1.le (by omega))
  exact ⟨x',c',r',a0l (by simpa using hm.1) (a0c h1 (a0e (a:=(true,c1)) (a0l (by simpa using hl0) a0h) e)),r1⟩
 ·obtain ⟨w,c2,h2,hc2⟩:=qph hc1 (by omega) 12 (by omega)
  obtain ⟨x',c',r',e,r1⟩:=j2 w c2 (hc2.le (by omega))
  exact ⟨x',c',r',a0l (by simpa using hm.1) (a0c h1 (a0e (a:=(w,c2)) (a0b (by simpa using hl0) (a0c h2 a0h)) e)),r1⟩
theorem q1r {n t:Nat}{c:L1Cur}(hc:Cur t c)(ht:t≤800000)(h5:1≤n∧n≤5) : ∃ l c',Ev (fun k=>qcl k c (n:Int)) (l,c')∧l.length≤101∧Cur (t+1000) c':=by
 obtain ⟨w1,c1,h1,hc1,g0,g1⟩:=xm hc (by omega) 50 (by omega)
 obtain ⟨w2,c2,h2,hc2⟩:=qph hc1 (by omega) 8 (by omega)
 have hj1:∀ (m:Int) (c:L1Cur),0≤m→m≤101→Cur (t+3) c→∃ l c',Ev (fun k=>qcb k (n:Int) m c) (l,c')∧l.length≤101∧Cur (t+1000) c':=by
  intro m0 c hn0 hn1 hc
  have key:=Ev.loopQk (B:=fun k (s528:List RaftStep × Int × L1Cur × Raft)=>w8 k (n:Int) (ue n,true) s528.1 s528.2.1 s528.2.2.1 s528.2.2.2) (s:=(([],m0,c,ue n) : List RaftStep × Int × L1Cur × Raft))
   (fun o=>∃ (l:List RaftStep) (m:Int) (c:L1Cur) (r:Raft),o = .nxt (l,m,c,r)∧l.length≤101∧Cur (t+900) c)
   (fun st=>∃ j:Nat,(j:Int)+st.2.1=m0∧0≤st.2.1∧st.1.length=j∧Cur (t+3+8*j) st.2.2.1∧RAn n st.2.2.2)
   (fun st=>st.2.1.toNat) ⟨0,by simp,hn0,rfl,by simpa using hc,qmx h5⟩ ?_
  ·obtain ⟨o,ho,l,m,c2,r,rfl,hl1,hc2⟩:=key
   have j8:∀ (b:Bool) (c3:L1Cur),(b=true→0<l.length)→Cur (t+901) c3→∃ l' c',Ev (fun _=>qb9 l b c3) (l',c')∧l'.length≤101∧Cur (t+1000) c':=fun b c3 hb hc3=>by
    unfold qb9
    cases b with
    | false=>exact ⟨l,c3,a0b rfl a0h,hl1,hc3.le (by omega)⟩
    | true =>
     have hb:=hb rfl
     obtain ⟨v,d1,e1,hd1,q0,q1⟩:=xm hc3 (by omega) (l.length:Int) (by omega)
     obtain ⟨_,d2,e2,hd2,_⟩:=xm hd1 (by omega) 9 (by omega)
     obtain ⟨_,d3,e3,hd3,_⟩:=xm hd2 (by omega) 7 (by omega)
     obtain ⟨_,d4,e4,hd4,_⟩:=xm hd3 (by omega) 3 (by omega)
     obtain ⟨_,d5,e5,hd5,_⟩:=xm hd4 (by omega) 40 (by omega)
     obtain ⟨x,hx,_⟩:=qmu (l:=l) q0 (by omega)
     exact ⟨_,_,a0l rfl (a0c e1 (a0c e2 (a0c e3 (a0c e4 (a0c e5 (a0c hx a0h)))))),by rw [List.length_set]; exact hl1,hd5.le (by omega)⟩
   have j9:∃ l' c',Ev (fun _=>qbs l m c2 r) (l',c')∧l'.length≤101∧Cur (t+1000) c':=by
    unfold qbs
    by_cases q:0<l.length
    ·obtain ⟨w,d,e,hd⟩:=qph hc2 (by omega) 12 (by omega)
     obtain ⟨l',c',a,b⟩:=j8 w d (fun _=>q) (hd.le (by omega))
     exact ⟨l',c',a0e (a:=(w,d)) (a0l (by rw [decide_eq_true_iff]; omega) (a0c e a0h)) a,b⟩
    ·obtain ⟨l',c',a,b⟩:=j8 false c2 (fun w=>by cases w) (hc2.le (by omega))
     exact ⟨l',c',a0e (a:=(false,c2)) (a0b (by rw [decide_eq_false_iff_not]; omega) a0h) a,b⟩
   obtain ⟨l',c',a,b⟩:=j9
   refine ⟨l',c',?_,b⟩
   unfold qcb
   exact a0e (qpo h5) (Ev.jn ho a)
  ·rintro ⟨l,m,c2,r⟩ ⟨j,hj,hm,hl,hc2,hr⟩
   dsimp only at hj hm hl hc2 hr
   by_cases hm0:0<m
   ·obtain ⟨x,c',r',e,hc',hr'⟩:=zdv hc2 (by omega) h5 hr (by omega) ⟨hm0,by omega⟩ (l:=l)
    exact .inl ⟨_,e,⟨j+1,by dsimp only; omega,by dsimp only; omega,by simp; omega,hc'.le (by omega),hr'⟩,by dsimp only; omega⟩
   ·refine .inr (.inl ⟨(l,m,c2,r),?_,l,m,c2,r,rfl,by omega,hc2.le (by omega)⟩)
    unfold w8
    exact a0b (by simpa using hm0) a0h
 unfold qcl
 cases w2 with
 | true =>
  obtain ⟨w4,c4,h4,hc4,g2,g3⟩:=xm hc2 (by omega) 12 (by omega)
  obtain ⟨l,c',he,r⟩:=hj1 (90+w4) c4 (by omega) (by omega) (hc4.le (by omega))
  exact ⟨l,c',a0c h1 (a0c h2 (a0e (a:=(90+w4,c4)) (a0l rfl (a0c h4 (Ev.of (by rw [k9 (by omega) (by omega)])))) he)),r⟩
 | false =>
  obtain ⟨l,c',he,r⟩:=hj1 w1 c2 (by omega) (by omega) (hc2.le (by omega))
  exact ⟨l,c',a0c h1 (a0c h2 (a0e (a:=(w1,c2)) (a0b rfl a0h) he)),r⟩
theorem DrawPlay_ok {code:List Int}(hb:Bytes code) : ∃ (n:Nat) (l:List RaftStep),Ev (fun k=>qah k code) ((n:Int),l)∧(1≤n∧n≤5)∧l.length≤101:=by
 obtain ⟨w,c,h,hc,p0,p1⟩:=xm (c:=L1Cur.mk code 0 0) (t:=0) ⟨hb,a1c _,a1c _⟩ (by omega) 5 (by omega)
 obtain ⟨l,c',e,hl,_⟩:=q1r (n:=w.toNat+1) hc (by omega) (by omega)
 refine ⟨w.toNat+1,l,?_,by omega,hl⟩
 unfold qah
 have e1:r8 .i64 ((1:Int)+w)=((w.toNat+1:Nat) : Int):=by rw [k9 (by omega) (by omega)]; omega
 refine a0c h ?_
 rw [e1]
 exact a0e e a0h
end Go.Proofs.Ytanblnjomhgphaa.X
