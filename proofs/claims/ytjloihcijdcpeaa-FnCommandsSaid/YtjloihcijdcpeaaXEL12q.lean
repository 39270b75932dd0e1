/- Drawn commands: the draws come to an end. -/
import Derived.Test.YtjloihcijdcpeaaXELArefl
import Derived.Test.YtjloihcijdcpeaaXEL12v
open Go.Proofs.Ytjloihcijdcpeaa.X.Ev renaming bindp→n8,bind→g9,iteF→g8,iteT→m9,of→a19,rfl→l8
open Go.IntKind renaming wrap→d8
open List renaming length_append→r6,length_cons→a0a,length_nil→a03,length→b6
open Option renaming bind_some→n9
set_option linter.unusedVariables false
set_option linter.unusedSimpArgs false
namespace Go.Proofs.Ytjloihcijdcpeaa.X
open Go

theorem qss {σ ρ:Type}{B:Nat→σ→Option (Oc σ ρ)}{n:Nat}{s:σ}(R:Nat→σ→Prop)(hn:n≤1048576)(h0:R 0 s)(step:∀ i s,i<n→R i s→∃ s',B i s=some (.nxt s')∧R (i+1) s') : ∃ s',yq B (n:Int) s=some (.nxt s')∧R n s':=by
 have key:∀ (m i:Nat) (s:σ),i+m=n→R i s→∃ s',qck B m i s=some (.nxt s')∧R n s':=by
  intro m
  induction m with
  | zero =>
   intro i s hi hs
   have:i=n:=by omega
   subst this
   exact ⟨s,rfl,hs⟩
  | succ m ih =>
   intro i s hi hs
   obtain ⟨s',e,hr⟩:=step i s (by omega) hs
   obtain ⟨s2,e2,hr2⟩:=ih (i+1) s' (by omega) hr
   exact ⟨s2,by simp only [qck,e]; exact e2,hr2⟩
 obtain ⟨s',e,hr⟩:=key n 0 s (by omega) h0
 refine ⟨s',?_,hr⟩
 unfold yq
 rw [if_pos (by omega),Int.toNat_natCast]
 exact e
theorem q3c {l:List Int}{x:Int}(h:l.length≤1000) : kg 8 l [x]=some (l++[x]):=by
 unfold kg
 rw [if_pos (by simp only [a0a,a03]; omega)]
def Drw (u:Nat)(x:Command)(c:L1Cur) : Prop:=x.InStep.length≤6∧Cur u c
theorem qx8 {v:Control}{x:Command}{c:L1Cur}{u:Nat}(h:Drw u x c)(hu:u≤900000) : ∃ x' c',yo v c x v.Parts=some (x',c',v)∧Drw (u+5) x' c':=by
 obtain ⟨hl,hc⟩:=h
 obtain ⟨b,c1,h1,hc1⟩:=qgb hc (by omega) 60 (by omega)
 unfold yo
 rw [h1,n9]
 cases b with
 | false=>exact ⟨x,c1,rfl,hl,hc1.le (by omega)⟩
 | true =>
  obtain ⟨v1,d1,k1,hd1,_⟩:=wy hc1 (by omega) 8 (by omega)
  obtain ⟨v2,d2,k2,hd2,_⟩:=wy hd1 (by omega) 8 (by omega)
  obtain ⟨v3,d3,k3,hd3,_⟩:=wy hd2 (by omega) 3 (by omega)
  obtain ⟨v4,d4,k4,hd4,_⟩:=wy hd3 (by omega) 8 (by omega)
  rw [if_pos rfl,k1,n9,k2,n9,k3,n9,k4,n9]
  exact ⟨_,d4,rfl,by simp only [a0a,a03]; omega,hd4.le (by omega)⟩
theorem qxs {v:Control}{p:Partition}{x:Command}{b:Bool}{c:L1Cur}{u:Nat}(hp:p.Homes.length≤6)(hc:Cur u c)(hu:u≤900000) : ∃ x' c',u0 v p (b,c) x=some (.nxt (c',x',v.Parts))∧Drw (u+10) x' c':=by
 have key:=qss (ρ:=Oc (L1Cur × Command × (List Partition)) (Command × L1Cur × Control)) (B:=fun i359 s440=>u5 p i359 s440.1 s440.2) (n:=p.Homes.length) (s:=(c,(Command.mk x.Kind x.Broker x.Epoch x.Part x.Stamp []))) (fun i st=>st.2.InStep.length≤i∧Cur (u+i) st.1) (by omega) ⟨by simp,by simpa using hc⟩ (by
  rintro i ⟨c1,y⟩ hi ⟨h1,h2⟩
  simp only at h1 h2
  have hx:jb p.Homes (i:Int)=some p.Homes[i]:=kz (List.getElem?_eq_getElem hi)
  have h7:∀ (b:Bool) (c2:L1Cur),Cur (u+i+1) c2→∃ s',qbo y p.Homes[i] b c2=some (.nxt s')∧s'.2.InStep.length≤i+1∧Cur (u+(i+1)) s'.1:=by
   intro b c2 h3
   unfold qbo
   cases b with
   | false=>exact ⟨(c2,y),rfl,by simp only; omega,by simpa only [Nat.add_assoc] using h3⟩
   | true =>
    rw [if_pos rfl,q3c (by omega),n9]
    exact ⟨_,rfl,by simp only [r6,a0a,a03]; omega,by simpa only [Nat.add_assoc] using h3⟩
  simp only [u5]
  rw [hx,n9]
  by_cases hl:p.Homes[i]=p.Leader
  ·rw [if_pos (by simpa using hl),n9]
   exact h7 true c1 (h2.le (by omega))
  ·obtain ⟨b2,c2,h3,hc2⟩:=qgb h2 (by omega) 2 (by omega)
   rw [if_neg (by simpa using hl),h3,n9,n9]
   exact h7 b2 c2 (hc2.le (by omega)))
 obtain ⟨⟨c',x'⟩,e,h1,h2⟩:=key
 refine ⟨x',c',?_,by simp only at h1; omega,h2.le (by omega)⟩
 unfold u0
 rw [e]
 rfl
theorem qmk {v:Control}{t17:Int × L1Cur × List Int}{t193 t232:Int × L1Cur}{p:Partition}{b:Bool}{c:L1Cur}{u:Nat}(hp:p.Homes.length≤6)(hc:Cur u c)(hu:u≤850000) : ∃ x' c',qbu v t17 t193 p t232 b c=some (.nxt (c',x',v.Parts))∧Drw (u+20) x' c':=by
 have h5:∀ (b:Bool) (c:L1Cur) (x:Command),Cur (u+1) c→∃ x' c',qbs v p (b,c) x=some (.nxt (c',x',v.Parts))∧Drw (u+20) x' c':=by
  intro b c x hc
  obtain ⟨w,c1,h1,hc1⟩:=qgb hc (by omega) 8 (by omega)
  unfold qbs
  have:∀ y:Command,∃ x' c',u0 v p (w,c1) y=some (.nxt (c',x',v.Parts))∧Drw (u+20) x' c':=by
   intro y
   obtain ⟨x',c',e,d1,d2⟩:=qxs (v:=v) (x:=y) (b:=w) hp hc1 (by omega)
   exact ⟨x',c',e,d1,d2.le (by omega)⟩
  rw [h1,n9]
  cases w with
  | true=>exact this _
  | false=>exact this _
 have h4:∀ (x:Command),∃ x' c',qbm v p c x=some (.nxt (c',x',v.Parts))∧Drw (u+20) x' c':=by
  intro x
  obtain ⟨w,c1,h1,hc1⟩:=qgb hc (by omega) 8 (by omega)
  unfold qbm
  rw [h1,n9]
  cases w with
  | true=>exact h5 _ _ _ hc1
  | false=>exact h5 _ _ _ hc1
 unfold qbu
 cases b with
 | true=>exact h4 _
 | false=>exact h4 _
def OkC (v:Control) : Prop:=(1≤v.Brokers.length∧v.Brokers.length≤6)∧v.Parts.length≤5∧∀ p∈v.Parts,p.Homes.length≤6∧p.InStep.length≤6
theorem ya.okC {v:Control}(h:ya v) : OkC v:=⟨h.1.1,h.1.2.1,fun p hp=>by
 have a:=wg (h.2.2 p hp).1.h1
 have b:=wg (h.2.2 p hp).1.i1
 have:=h.1.1.2
 omega⟩
theorem OkC.nn {c:Control}(h:OkC c) : c.nn≤1048576:=by
 have h1:c.nn=c.Brokers.length+(nnL Partition.nn c.Parts+0):=rfl
 have h2:nnL Partition.nn c.Parts=c.Parts.length+qdw Partition.nn c.Parts:=rfl
 have h5:qdw Partition.nn c.Parts≤c.Parts.length*12:=qio (fun x hx=>by
  have:=h.2.2 x hx
  have h6:x.nn=x.Homes.length+(x.InStep.length+0):=rfl
  omega)
 have h6:c.Parts.length*12≤5*12:=Nat.mul_le_mul_right _ h.2.1
 have:=h.1.2
 have:=h.2.1
 omega
theorem qk4 {v:Control}{c:L1Cur}{t:Nat}(hv:OkC v)(hc:Cur t c)(ht:t≤800000) : ∃ x' c',Ev (fun k=>qad k c v) (x',c',v)∧Drw (t+50) x' c':=by
 obtain ⟨⟨n1,n2⟩,n3,hparts⟩:=hv
 obtain ⟨w,c1,h1,hw,hc1⟩:=qkb hc (by omega) [1,1,2,2,3,3,4,5,5,5,6] (by decide) (by decide)
 have fin:∀ {F:Nat→Option (Oc (L1Cur × Command × (List Partition)) (Command × L1Cur × Control))} {x:Command} {c:L1Cur},Ev F (.nxt (c,x,v.Parts))→Drw (t+45) x c→∃ x' c',Ev (fun k=>jn (F k) (fun s511=>yo v s511.1 s511.2.1 s511.2.2)) (x',c',v)∧Drw (t+50) x' c':=by
  intro F x c hF hd
  obtain ⟨x',c',e,d⟩:=qx8 (v:=v) hd (by omega)
  exact ⟨x',c',Ev.jn hF (a19 e),d⟩
 have wrap:∀ {F:Nat→Option (Oc (L1Cur × Command × (List Partition)) (Command × L1Cur × Control))},(∃ x' c',Ev (fun k=>jn (F k) (fun s511=>yo v s511.1 s511.2.1 s511.2.2)) (x',c',v)∧Drw (t+50) x' c')→∃ x' c',Ev (fun k=>(some (w,c1,[1,1,2,2,3,3,4,5,5,5,6]) : Option (Int × L1Cur × List Int)).bind fun _=>jn (F k) (fun s511=>yo v s511.1 s511.2.1 s511.2.2)) (x',c',v)∧Drw (t+50) x' c':=by
  rintro F ⟨x',c',e,d⟩
  exact ⟨x',c',n8 rfl e,d⟩
 have drw0:∀ {x:Command} {c:L1Cur} {u:Nat},x.InStep=[]→Cur u c→u≤t+45→Drw (t+45) x c:=fun e hc hu=>⟨by rw [e]; decide,hc.le hu⟩
 suffices hm:∃ x' c',Ev (fun k=>jn (if (decide (w=1))=true then ((j6 c1 (b6 v.Brokers:Int)).bind fun v47=>(some (.nxt (v47.2,
  (Command.mk w v47.1 0 0 0 []),v.Parts)))) else (if (decide (w=2))=true then ((j6 c1 (b6 v.Brokers:Int)).bind fun v56 =>
  ((jb v.Brokers v56.1).bind fun x63=>((ux v56.2 6).bind fun v70=>(if v70.1=true then (some (.nxt (v70.2,
  (Command.mk w v56.1 (d8 .i64 (x63.Epoch+1)) 0 0 []),v.Parts))) else (some (.nxt (v70.2,(Command.mk w v56.1 x63.Epoch 0 0 []),
  v.Parts))))))) else (if (decide (w=4))=true then (jn (xw (fun s145=>wb v s145.1 s145.2.1 s145.2.2) k (0,c1,
  (Command.mk w 0 0 0 0 []))) (fun s162=>qda v s162.1 s162.2.1 s162.2.2)) else ((if (decide (w=5))=true then (some (decide (w=5))) else
  (some (decide (w=6)))).bind (fun s466=>u3 v (w,c1,[1,1,2,2,3,3,4,5,5,5,6]) s466))))) (fun s511=>yo v s511.1 s511.2.1 s511.2.2)) (x',c',v)∧Drw (t+50) x' c' by
  obtain ⟨x',c',e,d⟩:=hm
  refine ⟨x',c',?_,d⟩
  unfold qad
  exact n8 h1 e
 by_cases w1:w=1
 ·obtain ⟨a,c2,h2,hc2,_⟩:=wy hc1 (by omega) (v.Brokers.length:Int) (by omega)
  exact fin (m9 (by simpa using w1) (n8 h2 l8)) (drw0 rfl hc2 (by omega))
 ·by_cases w2:w=2
  ·obtain ⟨a,c2,h2,hc2,p0,p1⟩:=wy hc1 (by omega) (v.Brokers.length:Int) (by omega)
   obtain ⟨b,c3,h3,hc3⟩:=qgb hc2 (by omega) 6 (by omega)
   obtain ⟨bk,hbk,_⟩:=qgv (l:=v.Brokers) (i:=a) p0 (by omega)
   cases b with
   | true=>exact fin (g8 (by simpa using w1) (m9 (by simpa using w2) (n8 h2 (n8 hbk (n8 h3 (m9 rfl l8)))))) (drw0 rfl hc3 (by omega))
   | false=>exact fin (g8 (by simpa using w1) (m9 (by simpa using w2) (n8 h2 (n8 hbk (n8 h3 (g8 rfl l8)))))) (drw0 rfl hc3 (by omega))
  ·by_cases w4:w=4
   ·have key:=Ev.loopQ (B:=fun s145:Int × L1Cur × Command=>wb v s145.1 s145.2.1 s145.2.2) (s:=((0,c1,(Command.mk w 0 0 0 0 [])) : Int × L1Cur × Command))
     (fun o=>∃ (i:Int) (c:L1Cur) (x:Command),o = .nxt (i,c,x)∧Drw (t+45) x c)
     (fun st=>∃ j:Nat,st.1=j∧j≤v.Brokers.length∧st.2.2.InStep.length≤j∧Cur (t+1+j) st.2.1)
     (fun st=>(v.Brokers.length - st.1).toNat) ⟨0,rfl,by omega,by simp,by simpa using hc1⟩ ?_
    ·obtain ⟨o,ho,i,c2,x,rfl,hd⟩:=key
     exact fin (g8 (by simpa using w1) (g8 (by simpa using w2) (m9 (by simpa using w4) (Ev.jn ho l8)))) hd
    ·rintro ⟨i,c2,x⟩ ⟨j,hj,hjl,hl,hc2⟩
     simp only at hj hl hc2
     subst hj
     by_cases hlt:(j:Int)<(v.Brokers.length:Int)
     ·obtain ⟨b,c3,h3,hc3⟩:=qgb hc2 (by omega) 2 (by omega)
      simp only [wb]
      rw [if_pos (by simpa using hlt),h3,n9,kr (n:=(j:Int)+1) (by omega) (by omega)]
      cases b with
      | true =>
       rw [if_pos rfl,q3c (by omega),n9]
       exact .inl ⟨_,rfl,⟨j+1,by simp,by omega,by simp only [r6,a0a,a03]; omega,hc3.le (by omega)⟩,by simp only; omega⟩
      | false=>exact .inl ⟨_,rfl,⟨j+1,by simp,by omega,by simp only; omega,hc3.le (by omega)⟩,by simp only; omega⟩
     ·refine .inr (.inl ⟨_,?_,(j:Int),c2,x,rfl,by omega,hc2.le (by omega)⟩)
      simp only [wb]
      rw [if_neg (by simpa using hlt)]
   ·have main:∀ (q:Bool),∃ o,Ev (fun _=>u3 v (w,c1,[1,1,2,2,3,3,4,5,5,5,6]) q) o∧((∃ x c,o = .nxt (c,x,v.Parts)∧Drw (t+45) x c)∨∃ x c,o = .ret (x,c,v)∧Drw (t+50) x c):=by
     intro q
     cases q with
     | false=>exact ⟨_,a19 rfl,.inl ⟨_,_,rfl,drw0 rfl hc1 (by omega)⟩⟩
     | true =>
      have drw1:∀ {x:Command} {c:L1Cur} {u:Nat},x.InStep=[]→Cur u c→u≤t+45→Drw (t+50) x c:=fun e hc hu=>⟨by rw [e]; decide,hc.le (by omega)⟩
      unfold u3
      by_cases h0:v.Parts.length=0
      ·exact ⟨_,m9 rfl (m9 (by simp [h0]) l8),.inr ⟨_,_,rfl,drw1 rfl hc1 (by omega)⟩⟩
      ·obtain ⟨a1,d1,k1,hd1,p0,p1⟩:=wy hc1 (by omega) 12 (by omega)
       have hq:(0:Int)≤Int.tdiv a1 11∧Int.tdiv a1 11≤1:=by
        rw [Int.tdiv_eq_ediv_of_nonneg p0]; omega
       have hw:d8 .i64 ((v.Parts.length:Int)+d8 .i64 (Int.tdiv a1 11))=(v.Parts.length:Int)+Int.tdiv a1 11:=by
        rw [kr (n:=Int.tdiv a1 11) (by omega) (by omega),kr (by omega) (by omega)]
       obtain ⟨a2,d2,k2,hd2,q0,q1⟩:=wy hd1 (by omega) ((v.Parts.length:Int)+Int.tdiv a1 11) (by omega)
       by_cases hge:(v.Parts.length:Int)≤a2
       ·exact ⟨_,m9 rfl (g8 (by simp; exact fun h=>h0 (by simp [h])) (n8 k1 (n8 (a:=(a2,d2)) (by rw [hw]; exact k2) (m9 (by simpa using hge) l8)))),.inr ⟨_,_,rfl,drw1 rfl hd2 (by omega)⟩⟩
       ·obtain ⟨p,hp,hpm⟩:=qgv (l:=v.Parts) (i:=a2) q0 (by omega)
        obtain ⟨a3,d3,k3,hd3,_⟩:=wy hd2 (by omega) (v.Brokers.length:Int) (by omega)
        have hm:p∈v.Parts:=by
         unfold jb at hp
         rw [if_pos q0] at hp
         exact List.mem_of_getElem? hp
        have hph:p.Homes.length≤6:=(hparts p hm).1
        have pre:∀ {G:Nat→Option (Oc (L1Cur × Command × (List Partition)) (Command × L1Cur × Control))} {o},Ev G o→True:=fun _=>trivial
        by_cases w6:w=6
        ·exact ⟨_,m9 rfl (g8 (by simp; exact fun h=>h0 (by simp [h])) (n8 k1 (n8 (a:=(a2,d2)) (by rw [hw]; exact k2) (g8 (by simpa using hge) (n8 hp (n8 k3 (m9 (by simpa using w6) l8))))))),.inr ⟨_,_,rfl,drw1 rfl hd3 (by omega)⟩⟩
        ·by_cases hld:(0:Int)≤p.Leader
         ·obtain ⟨b,d4,k4,hd4⟩:=qgb hd3 (by omega) 6 (by omega)
          obtain ⟨x',c',e,d⟩:=qmk (v:=v) (t17:=(w,c1,[1,1,2,2,3,3,4,5,5,5,6])) (t193:=(a2,d2)) (t232:=(a3,d3)) (p:=p) (b := !b) hph hd4 (by omega)
          exact ⟨_,m9 rfl (g8 (by simp; exact fun h=>h0 (by simp [h])) (n8 k1 (n8 (a:=(a2,d2)) (by rw [hw]; exact k2) (g8 (by simpa using hge) (n8 hp (n8 k3 (g8 (by simpa using w6) (g9 (a:=(!b,d4)) (m9 (by simpa using hld) (n8 k4 l8)) (a19 e))))))))),.inl ⟨x',c',rfl,d.1,d.2.le (by omega)⟩⟩
         ·obtain ⟨x',c',e,d⟩:=qmk (v:=v) (t17:=(w,c1,[1,1,2,2,3,3,4,5,5,5,6])) (t193:=(a2,d2)) (t232:=(a3,d3)) (p:=p) (b:=false) hph hd3 (by omega)
          exact ⟨_,m9 rfl (g8 (by simp; exact fun h=>h0 (by simp [h])) (n8 k1 (n8 (a:=(a2,d2)) (by rw [hw]; exact k2) (g8 (by simpa using hge) (n8 hp (n8 k3 (g8 (by simpa using w6) (g9 (a:=(false,d3)) (g8 (by simpa using hld) l8) (a19 e))))))))),.inl ⟨x',c',rfl,d.1,d.2.le (by omega)⟩⟩
    have hq:∃ q:Bool,(if (decide (w=5))=true then (some (decide (w=5))) else (some (decide (w=6))))=some q:=by
     split <;> exact ⟨_,rfl⟩
    obtain ⟨q,hq⟩:=hq
    obtain ⟨o,ho,⟨x,c2,rfl,hd⟩ | ⟨x,c2,rfl,hd⟩⟩:=main q
    ·exact fin (g8 (by simpa using w1) (g8 (by simpa using w2) (g8 (by simpa using w4) (n8 hq ho)))) hd
    ·exact ⟨x,c2,Ev.jn_ret (g8 (by simpa using w1) (g8 (by simpa using w2) (g8 (by simpa using w4) (n8 hq ho)))),hd⟩
theorem qyl {l:List Command}{x:Command}(h:l.length≤1000) : kg 64 l [x]=some (l++[x]):=by
 unfold kg
 rw [if_pos (by simp only [a0a,a03]; omega)]
theorem qn6 {c:L1Cur}{t:Nat}(hc:Cur t c)(ht:t≤1000) : ∃ n l c',Ev (fun k=>qcr k c) (n,l,c')∧l.length≤81∧(∀ x∈l,x.InStep.length≤6)∧Cur (t+10000) c':=by
 obtain ⟨w1,c1,h1,hc1,p0,p1⟩:=wy hc (by omega) 5 (by omega)
 have hw:d8 .i64 ((1:Int)+w1)=1+w1:=kr (by omega) (by omega)
 obtain ⟨m,hm,hm1,hnew⟩ : ∃ m:Nat,1+w1=m∧(1≤m∧m≤6)∧Ev (fun k=>j7 k (1+w1)) (ub m,true):=by
  rcases ql6 (n:=1+w1) with ⟨m,e,h,h2⟩ | ⟨h,_⟩
  ·exact ⟨m,e,h,h2⟩
  ·exact absurd ⟨by omega,by omega⟩ h
 obtain ⟨w2,c2,h2,hc2,q0,q1⟩:=wy hc1 (by omega) 30 (by omega)
 obtain ⟨w3,c3,h3,hc3⟩:=qgb hc2 (by omega) 12 (by omega)
 have hgood:=(qf1 hm1.1 hm1.2).1
 have hj1:∀ (m0:Int) (c:L1Cur),0≤m0→m0≤81→Cur (t+4) c→∃ n l c',Ev (fun k=>qcl k (w1,c1) (ub m,true) m0 c) (n,l,c')∧l.length≤81∧(∀ x∈l,x.InStep.length≤6)∧Cur (t+10000) c':=by
  intro m0 c hn0 hn1 hc
  have key:=Ev.loopQk (B:=fun k (s:List Command × Int × L1Cur × Control)=>xd k s.1 s.2.1 s.2.2.1 s.2.2.2) (s:=(([],m0,c,ub m) : List Command × Int × L1Cur × Control))
   (fun o=>∃ (l:List Command) (m:Int) (c:L1Cur) (v:Control),o = .nxt (l,m,c,v)∧l.length≤81∧(∀ x∈l,x.InStep.length≤6)∧Cur (t+10000) c)
   (fun st=>∃ j:Nat,(j:Int)+st.2.1=m0∧0≤st.2.1∧st.1.length=j∧(∀ x∈st.1,x.InStep.length≤6)∧Cur (t+4+60*j) st.2.2.1∧ya st.2.2.2)
   (fun st=>st.2.1.toNat) ⟨0,by simp,hn0,rfl,by simp,by simpa using hc,hgood⟩ ?_
  ·obtain ⟨o,ho,l,m,c2,v,rfl,hl1,hl2,hc2⟩:=key
   refine ⟨d8 .i64 ((1:Int)+w1),l,c2,?_,hl1,hl2,hc2⟩
   unfold qcl
   exact Ev.jn ho (a19 rfl)
  ·rintro ⟨l,m,c2,v⟩ ⟨j,hj,hm,hl,hl2,hc2,hv⟩
   simp only at hj hm hl hl2 hc2 hv
   by_cases hm0:0<m
   ·obtain ⟨x,c3,hx,hx6,hc3⟩:=qk4 hv.okC hc2 (by omega)
    have fin:∀ w:Control,ya w→∃ s',Ev (fun _=>qcm l m (x,c3,v) w) (.nxt s')∧((∃ j:Nat,(j:Int)+s'.2.1=m0∧0≤s'.2.1∧s'.1.length=j∧(∀ x∈s'.1,x.InStep.length≤6)∧Cur (t+4+60*j) s'.2.2.1∧ya s'.2.2.2)∧s'.2.1.toNat<m.toNat):=by
     intro w hw
     refine ⟨(l++[x],m - 1,c3,w),a19 ?_,⟨j+1,by simp only; omega,by simp only; omega,by simp; omega,fun z hz=>?_,by simp only; exact hc3.le (by omega),hw⟩,by simp only; omega⟩
     ·unfold qcm
      rw [qyl (by omega),n9,kr (n:=m - 1) (by omega) (by omega)]
     ·rcases List.mem_append.1 hz with h | h
      ·exact hl2 z h
      ·simp at h
       subst h
       exact hx6
    by_cases hok:ya v∧ww v.Brokers.length x
    ·obtain ⟨s',e,f1,f2⟩:=fin (yg v x).1 (qfx hok.1 hok.2).1
     refine .inl ⟨s',?_,f1,f2⟩
     simp only [xd]
     exact m9 (by simpa using hm0) (g9 hx (g9 (qna hok.1 hok.2) (g9 (a:=(yg v x).1) (m9 rfl l8) e)))
    ·obtain ⟨s',e,f1,f2⟩:=fin v hv
     refine .inl ⟨s',?_,f1,f2⟩
     simp only [xd]
     exact m9 (by simpa using hm0) (g9 hx (g9 (qlc hv.nn (show x.InStep.length≤1048576 by omega) hok) (g9 (a:=v) (g8 rfl l8) e)))
   ·refine .inr (.inl ⟨(l,m,c2,v),?_,l,m,c2,v,rfl,by omega,hl2,hc2.le (by omega)⟩)
    simp only [xd]
    exact g8 (by simpa using hm0) l8
 unfold qcr
 cases w3 with
 | true =>
  obtain ⟨w4,c4,h4,hc4,g2,g3⟩:=wy hc3 (by omega) 12 (by omega)
  obtain ⟨n,l,c',he,r⟩:=hj1 (70+w4) c4 (by omega) (by omega) hc4
  exact ⟨n,l,c',n8 h1 (g9 (a:=(ub m,true)) (by simp only [hw]; exact hnew) (n8 h2 (n8 h3 (g9 (a:=(70+w4,c4)) (m9 rfl (n8 h4 (a19 (by rw [kr (by omega) (by omega)])))) he)))),r⟩
 | false =>
  obtain ⟨n,l,c',he,r⟩:=hj1 w2 c3 (by omega) (by omega) (hc3.le (by omega))
  exact ⟨n,l,c',n8 h1 (g9 (a:=(ub m,true)) (by simp only [hw]; exact hnew) (n8 h2 (n8 h3 (g9 (a:=(w2,c3)) (g8 rfl l8) he)))),r⟩
end Go.Proofs.Ytjloihcijdcpeaa.X
