/- Drawn commands: the draws come to an end. -/
import Derived.Test.YtjloihcijdcpeaaXCLArefl
import Derived.Test.YtjloihcijdcpeaaXCL12v
set_option linter.unusedVariables false
set_option linter.unusedSimpArgs false
namespace Go.Proofs.Ytjloihcijdcpeaa.X
open Go

theorem qtc {σ ρ:Type}{B:Nat→σ→Option (Oc σ ρ)}{n:Nat}{s:σ}(R:Nat→σ→Prop)(hn:n≤1048576)(h0:R 0 s)(step:∀ i s,i<n→R i s→∃ s',B i s=some (.nxt s')∧R (i+1) s') : ∃ s',kj B (n:Int) s=some (.nxt s')∧R n s':=by
 have key:∀ (m i:Nat) (s:σ),i+m=n→R i s→∃ s',qbs B m i s=some (.nxt s')∧R n s':=by
  intro m
  induction m with
  | zero =>
   intro i s hi hs
   have:i=n:=by omega
   subst this
   exact ⟨s,rfl,hs⟩
  | succ m ih =>
   intro i s hi hs
   obtain ⟨s',e,hr⟩:=step i s (by omega) hs
   obtain ⟨s2,e2,hr2⟩:=ih (i+1) s' (by omega) hr
   exact ⟨s2,by simp only [qbs,e]; exact e2,hr2⟩
 obtain ⟨s',e,hr⟩:=key n 0 s (by omega) h0
 refine ⟨s',?_,hr⟩
 unfold kj
 rw [if_pos (by omega),Int.toNat_natCast]
 exact e
theorem qyj {l:List Int}{x:Int}(h:l.length≤1000) : j9 8 l [x]=some (l++[x]):=by
 unfold j9
 rw [if_pos (by simp only [List.length_cons,List.length_nil]; omega)]
def Drw (u:Nat)(x:Command)(c:L1Cur) : Prop:=x.InStep.length≤6∧Cur u c
theorem qxm {v:Control}{x:Command}{c:L1Cur}{u:Nat}(h:Drw u x c)(hu:u≤900000) : ∃ x' c',kz v c x v.Parts=some (x',c',v)∧Drw (u+5) x' c':=by
 obtain ⟨hl,hc⟩:=h
 obtain ⟨b,c1,h1,hc1⟩:=qe6 hc (by omega) 60 (by omega)
 unfold kz
 rw [h1,Option.bind_some]
 cases b with
 | false=>exact ⟨x,c1,rfl,hl,hc1.le (by omega)⟩
 | true =>
  obtain ⟨v1,d1,k1,hd1,_⟩:=uu hc1 (by omega) 8 (by omega)
  obtain ⟨v2,d2,k2,hd2,_⟩:=uu hd1 (by omega) 8 (by omega)
  obtain ⟨v3,d3,k3,hd3,_⟩:=uu hd2 (by omega) 3 (by omega)
  obtain ⟨v4,d4,k4,hd4,_⟩:=uu hd3 (by omega) 8 (by omega)
  rw [if_pos rfl,k1,Option.bind_some,k2,Option.bind_some,k3,Option.bind_some,k4,Option.bind_some]
  exact ⟨_,d4,rfl,by simp only [List.length_cons,List.length_nil]; omega,hd4.le (by omega)⟩
theorem qxl {v:Control}{p:Partition}{x:Command}{b:Bool}{c:L1Cur}{u:Nat}(hp:p.Homes.length≤6)(hc:Cur u c)(hu:u≤900000) : ∃ x' c',ul v p (b,c) x=some (.nxt (c',x',v.Parts))∧Drw (u+10) x' c':=by
 have key:=qtc (ρ:=Oc (L1Cur × Command × (List Partition)) (Command × L1Cur × Control)) (B:=fun i359 s440=>uj p i359 s440.1 s440.2) (n:=p.Homes.length) (s:=(c,(Command.mk x.Kind x.Broker x.Epoch x.Part x.Stamp []))) (fun i st=>st.2.InStep.length≤i∧Cur (u+i) st.1) (by omega) ⟨by simp,by simpa using hc⟩ (by
  rintro i ⟨c1,y⟩ hi ⟨h1,h2⟩
  simp only at h1 h2
  have hx:z9 p.Homes (i:Int)=some p.Homes[i]:=ki (List.getElem?_eq_getElem hi)
  have h7:∀ (b:Bool) (c2:L1Cur),Cur (u+i+1) c2→∃ s',qay y p.Homes[i] b c2=some (.nxt s')∧s'.2.InStep.length≤i+1∧Cur (u+(i+1)) s'.1:=by
   intro b c2 h3
   unfold qay
   cases b with
   | false=>exact ⟨(c2,y),rfl,by simp only; omega,by simpa only [Nat.add_assoc] using h3⟩
   | true =>
    rw [if_pos rfl,qyj (by omega),Option.bind_some]
    exact ⟨_,rfl,by simp only [List.length_append,List.length_cons,List.length_nil]; omega,by simpa only [Nat.add_assoc] using h3⟩
  simp only [uj]
  rw [hx,Option.bind_some]
  by_cases hl:p.Homes[i]=p.Leader
  ·rw [if_pos (by simpa using hl),Option.bind_some]
   exact h7 true c1 (h2.le (by omega))
  ·obtain ⟨b2,c2,h3,hc2⟩:=qe6 h2 (by omega) 2 (by omega)
   rw [if_neg (by simpa using hl),h3,Option.bind_some,Option.bind_some]
   exact h7 b2 c2 (hc2.le (by omega)))
 obtain ⟨⟨c',x'⟩,e,h1,h2⟩:=key
 refine ⟨x',c',?_,by simp only at h1; omega,h2.le (by omega)⟩
 unfold ul
 rw [e]
 rfl
theorem qmn {v:Control}{t17:Int × L1Cur × List Int}{t193 t232:Int × L1Cur}{p:Partition}{b:Bool}{c:L1Cur}{u:Nat}(hp:p.Homes.length≤6)(hc:Cur u c)(hu:u≤850000) : ∃ x' c',qbe v t17 t193 p t232 b c=some (.nxt (c',x',v.Parts))∧Drw (u+20) x' c':=by
 have h5:∀ (b:Bool) (c:L1Cur) (x:Command),Cur (u+1) c→∃ x' c',qa8 v p (b,c) x=some (.nxt (c',x',v.Parts))∧Drw (u+20) x' c':=by
  intro b c x hc
  obtain ⟨w,c1,h1,hc1⟩:=qe6 hc (by omega) 8 (by omega)
  unfold qa8
  have:∀ y:Command,∃ x' c',ul v p (w,c1) y=some (.nxt (c',x',v.Parts))∧Drw (u+20) x' c':=by
   intro y
   obtain ⟨x',c',e,d1,d2⟩:=qxl (v:=v) (x:=y) (b:=w) hp hc1 (by omega)
   exact ⟨x',c',e,d1,d2.le (by omega)⟩
  rw [h1,Option.bind_some]
  cases w with
  | true=>exact this _
  | false=>exact this _
 have h4:∀ (x:Command),∃ x' c',qa5 v p c x=some (.nxt (c',x',v.Parts))∧Drw (u+20) x' c':=by
  intro x
  obtain ⟨w,c1,h1,hc1⟩:=qe6 hc (by omega) 8 (by omega)
  unfold qa5
  rw [h1,Option.bind_some]
  cases w with
  | true=>exact h5 _ _ _ hc1
  | false=>exact h5 _ _ _ hc1
 unfold qbe
 cases b with
 | true=>exact h4 _
 | false=>exact h4 _
theorem qn6 {v:Control}{c:L1Cur}{t:Nat}(hv:yq v)(hc:Cur t c)(ht:t≤800000) : ∃ x' c',Ev (fun k=>qbb k c v) (x',c',v)∧Drw (t+50) x' c':=by
 obtain ⟨⟨⟨n1,n2⟩,n3,_⟩,_,hparts⟩:=hv
 obtain ⟨w,c1,h1,hw,hc1⟩:=qwu hc (by omega) [1,1,2,2,3,3,4,5,5,5,6] (by decide) (by decide)
 have fin:∀ {F:Nat→Option (Oc (L1Cur × Command × (List Partition)) (Command × L1Cur × Control))} {x:Command} {c:L1Cur},Ev F (.nxt (c,x,v.Parts))→Drw (t+45) x c→∃ x' c',Ev (fun k=>jn (F k) (fun s511=>kz v s511.1 s511.2.1 s511.2.2)) (x',c',v)∧Drw (t+50) x' c':=by
  intro F x c hF hd
  obtain ⟨x',c',e,d⟩:=qxm (v:=v) hd (by omega)
  exact ⟨x',c',Ev.jn hF (Ev.of e),d⟩
 have wrap:∀ {F:Nat→Option (Oc (L1Cur × Command × (List Partition)) (Command × L1Cur × Control))},(∃ x' c',Ev (fun k=>jn (F k) (fun s511=>kz v s511.1 s511.2.1 s511.2.2)) (x',c',v)∧Drw (t+50) x' c')→∃ x' c',Ev (fun k=>(some (w,c1,[1,1,2,2,3,3,4,5,5,5,6]) : Option (Int × L1Cur × List Int)).bind fun _=>jn (F k) (fun s511=>kz v s511.1 s511.2.1 s511.2.2)) (x',c',v)∧Drw (t+50) x' c':=by
  rintro F ⟨x',c',e,d⟩
  exact ⟨x',c',Ev.bindp rfl e,d⟩
 have drw0:∀ {x:Command} {c:L1Cur} {u:Nat},x.InStep=[]→Cur u c→u≤t+45→Drw (t+45) x c:=fun e hc hu=>⟨by rw [e]; decide,hc.le hu⟩
 suffices hm:∃ x' c',Ev (fun k=>jn (if (decide (w=1))=true then ((kp c1 (List.length v.Brokers:Int)).bind fun v47=>(some (.nxt (v47.2,
  (Command.mk w v47.1 0 0 0 []),v.Parts)))) else (if (decide (w=2))=true then ((kp c1 (List.length v.Brokers:Int)).bind fun v56 =>
  ((z9 v.Brokers v56.1).bind fun x63=>((xy v56.2 6).bind fun v70=>(if v70.1=true then (some (.nxt (v70.2,
  (Command.mk w v56.1 (IntKind.wrap .i64 (x63.Epoch+1)) 0 0 []),v.Parts))) else (some (.nxt (v70.2,(Command.mk w v56.1 x63.Epoch 0 0 []),
  v.Parts))))))) else (if (decide (w=4))=true then (jn (wv (fun s145=>yu v s145.1 s145.2.1 s145.2.2) k (0,c1,
  (Command.mk w 0 0 0 0 []))) (fun s162=>qch v s162.1 s162.2.1 s162.2.2)) else ((if (decide (w=5))=true then (some (decide (w=5))) else
  (some (decide (w=6)))).bind (fun s466=>um v (w,c1,[1,1,2,2,3,3,4,5,5,5,6]) s466))))) (fun s511=>kz v s511.1 s511.2.1 s511.2.2)) (x',c',v)∧Drw (t+50) x' c' by
  obtain ⟨x',c',e,d⟩:=hm
  refine ⟨x',c',?_,d⟩
  unfold qbb
  exact Ev.bindp h1 e
 by_cases w1:w=1
 ·obtain ⟨a,c2,h2,hc2,_⟩:=uu hc1 (by omega) (v.Brokers.length:Int) (by omega)
  exact fin (Ev.iteT (by simpa using w1) (Ev.bindp h2 Ev.rfl)) (drw0 rfl hc2 (by omega))
 ·by_cases w2:w=2
  ·obtain ⟨a,c2,h2,hc2,p0,p1⟩:=uu hc1 (by omega) (v.Brokers.length:Int) (by omega)
   obtain ⟨b,c3,h3,hc3⟩:=qe6 hc2 (by omega) 6 (by omega)
   obtain ⟨bk,hbk,_⟩:=qiw (l:=v.Brokers) (i:=a) p0 (by omega)
   cases b with
   | true=>exact fin (Ev.iteF (by simpa using w1) (Ev.iteT (by simpa using w2) (Ev.bindp h2 (Ev.bindp hbk (Ev.bindp h3 (Ev.iteT rfl Ev.rfl)))))) (drw0 rfl hc3 (by omega))
   | false=>exact fin (Ev.iteF (by simpa using w1) (Ev.iteT (by simpa using w2) (Ev.bindp h2 (Ev.bindp hbk (Ev.bindp h3 (Ev.iteF rfl Ev.rfl)))))) (drw0 rfl hc3 (by omega))
  ·by_cases w4:w=4
   ·have key:=Ev.loopQ (B:=fun s145:Int × L1Cur × Command=>yu v s145.1 s145.2.1 s145.2.2) (s:=((0,c1,(Command.mk w 0 0 0 0 [])) : Int × L1Cur × Command))
     (fun o=>∃ (i:Int) (c:L1Cur) (x:Command),o = .nxt (i,c,x)∧Drw (t+45) x c)
     (fun st=>∃ j:Nat,st.1=j∧j≤v.Brokers.length∧st.2.2.InStep.length≤j∧Cur (t+1+j) st.2.1)
     (fun st=>(v.Brokers.length - st.1).toNat) ⟨0,rfl,by omega,by simp,by simpa using hc1⟩ ?_
    ·obtain ⟨o,ho,i,c2,x,rfl,hd⟩:=key
     exact fin (Ev.iteF (by simpa using w1) (Ev.iteF (by simpa using w2) (Ev.iteT (by simpa using w4) (Ev.jn ho Ev.rfl)))) hd
    ·rintro ⟨i,c2,x⟩ ⟨j,hj,hjl,hl,hc2⟩
     simp only at hj hl hc2
     subst hj
     by_cases hlt:(j:Int)<(v.Brokers.length:Int)
     ·obtain ⟨b,c3,h3,hc3⟩:=qe6 hc2 (by omega) 2 (by omega)
      simp only [yu]
      rw [if_pos (by simpa using hlt),h3,Option.bind_some,kh (n:=(j:Int)+1) (by omega) (by omega)]
      cases b with
      | true =>
       rw [if_pos rfl,qyj (by omega),Option.bind_some]
       exact .inl ⟨_,rfl,⟨j+1,by simp,by omega,by simp only [List.length_append,List.length_cons,List.length_nil]; omega,hc3.le (by omega)⟩,by simp only; omega⟩
      | false=>exact .inl ⟨_,rfl,⟨j+1,by simp,by omega,by simp only; omega,hc3.le (by omega)⟩,by simp only; omega⟩
     ·refine .inr (.inl ⟨_,?_,(j:Int),c2,x,rfl,by omega,hc2.le (by omega)⟩)
      simp only [yu]
      rw [if_neg (by simpa using hlt)]
   ·have main:∀ (q:Bool),∃ o,Ev (fun _=>um v (w,c1,[1,1,2,2,3,3,4,5,5,5,6]) q) o∧((∃ x c,o = .nxt (c,x,v.Parts)∧Drw (t+45) x c)∨∃ x c,o = .ret (x,c,v)∧Drw (t+50) x c):=by
     intro q
     cases q with
     | false=>exact ⟨_,Ev.of rfl,.inl ⟨_,_,rfl,drw0 rfl hc1 (by omega)⟩⟩
     | true =>
      have drw1:∀ {x:Command} {c:L1Cur} {u:Nat},x.InStep=[]→Cur u c→u≤t+45→Drw (t+50) x c:=fun e hc hu=>⟨by rw [e]; decide,hc.le (by omega)⟩
      unfold um
      by_cases h0:v.Parts.length=0
      ·exact ⟨_,Ev.iteT rfl (Ev.iteT (by simp [h0]) Ev.rfl),.inr ⟨_,_,rfl,drw1 rfl hc1 (by omega)⟩⟩
      ·obtain ⟨a1,d1,k1,hd1,p0,p1⟩:=uu hc1 (by omega) 12 (by omega)
       have hq:(0:Int)≤Int.tdiv a1 11∧Int.tdiv a1 11≤1:=by
        rw [Int.tdiv_eq_ediv_of_nonneg p0]; omega
       have hw:IntKind.wrap .i64 ((v.Parts.length:Int)+IntKind.wrap .i64 (Int.tdiv a1 11))=(v.Parts.length:Int)+Int.tdiv a1 11:=by
        rw [kh (n:=Int.tdiv a1 11) (by omega) (by omega),kh (by omega) (by omega)]
       obtain ⟨a2,d2,k2,hd2,q0,q1⟩:=uu hd1 (by omega) ((v.Parts.length:Int)+Int.tdiv a1 11) (by omega)
       by_cases hge:(v.Parts.length:Int)≤a2
       ·exact ⟨_,Ev.iteT rfl (Ev.iteF (by simp; exact fun h=>h0 (by simp [h])) (Ev.bindp k1 (Ev.bindp (a:=(a2,d2)) (by rw [hw]; exact k2) (Ev.iteT (by simpa using hge) Ev.rfl)))),.inr ⟨_,_,rfl,drw1 rfl hd2 (by omega)⟩⟩
       ·obtain ⟨p,hp,hpm⟩:=qiw (l:=v.Parts) (i:=a2) q0 (by omega)
        obtain ⟨a3,d3,k3,hd3,_⟩:=uu hd2 (by omega) (v.Brokers.length:Int) (by omega)
        have hm:p∈v.Parts:=by
         unfold z9 at hp
         rw [if_pos q0] at hp
         exact List.mem_of_getElem? hp
        have hph:p.Homes.length≤6:=by
         have:=yo (hparts p hm).1.h1
         omega
        have pre:∀ {G:Nat→Option (Oc (L1Cur × Command × (List Partition)) (Command × L1Cur × Control))} {o},Ev G o→True:=fun _=>trivial
        by_cases w6:w=6
        ·exact ⟨_,Ev.iteT rfl (Ev.iteF (by simp; exact fun h=>h0 (by simp [h])) (Ev.bindp k1 (Ev.bindp (a:=(a2,d2)) (by rw [hw]; exact k2) (Ev.iteF (by simpa using hge) (Ev.bindp hp (Ev.bindp k3 (Ev.iteT (by simpa using w6) Ev.rfl))))))),.inr ⟨_,_,rfl,drw1 rfl hd3 (by omega)⟩⟩
        ·by_cases hld:(0:Int)≤p.Leader
         ·obtain ⟨b,d4,k4,hd4⟩:=qe6 hd3 (by omega) 6 (by omega)
          obtain ⟨x',c',e,d⟩:=qmn (v:=v) (t17:=(w,c1,[1,1,2,2,3,3,4,5,5,5,6])) (t193:=(a2,d2)) (t232:=(a3,d3)) (p:=p) (b := !b) hph hd4 (by omega)
          exact ⟨_,Ev.iteT rfl (Ev.iteF (by simp; exact fun h=>h0 (by simp [h])) (Ev.bindp k1 (Ev.bindp (a:=(a2,d2)) (by rw [hw]; exact k2) (Ev.iteF (by simpa using hge) (Ev.bindp hp (Ev.bindp k3 (Ev.iteF (by simpa using w6) (Ev.bind (a:=(!b,d4)) (Ev.iteT (by simpa using hld) (Ev.bindp k4 Ev.rfl)) (Ev.of e))))))))),.inl ⟨x',c',rfl,d.1,d.2.le (by omega)⟩⟩
         ·obtain ⟨x',c',e,d⟩:=qmn (v:=v) (t17:=(w,c1,[1,1,2,2,3,3,4,5,5,5,6])) (t193:=(a2,d2)) (t232:=(a3,d3)) (p:=p) (b:=false) hph hd3 (by omega)
          exact ⟨_,Ev.iteT rfl (Ev.iteF (by simp; exact fun h=>h0 (by simp [h])) (Ev.bindp k1 (Ev.bindp (a:=(a2,d2)) (by rw [hw]; exact k2) (Ev.iteF (by simpa using hge) (Ev.bindp hp (Ev.bindp k3 (Ev.iteF (by simpa using w6) (Ev.bind (a:=(false,d3)) (Ev.iteF (by simpa using hld) Ev.rfl) (Ev.of e))))))))),.inl ⟨x',c',rfl,d.1,d.2.le (by omega)⟩⟩
    have hq:∃ q:Bool,(if (decide (w=5))=true then (some (decide (w=5))) else (some (decide (w=6))))=some q:=by
     split <;> exact ⟨_,rfl⟩
    obtain ⟨q,hq⟩:=hq
    obtain ⟨o,ho,⟨x,c2,rfl,hd⟩ | ⟨x,c2,rfl,hd⟩⟩:=main q
    ·exact fin (Ev.iteF (by simpa using w1) (Ev.iteF (by simpa using w2) (Ev.iteF (by simpa using w4) (Ev.bindp hq ho)))) hd
    ·exact ⟨x,c2,Ev.jn_ret (Ev.iteF (by simpa using w1) (Ev.iteF (by simpa using w2) (Ev.iteF (by simpa using w4) (Ev.bindp hq ho)))),hd⟩
theorem qw6 {l:List Command}{x:Command}(h:l.length≤1000) : j9 64 l [x]=some (l++[x]):=by
 unfold j9
 rw [if_pos (by simp only [List.length_cons,List.length_nil]; omega)]
theorem qnb {c:L1Cur}{t:Nat}(hc:Cur t c)(ht:t≤1000) : ∃ n l c',Ev (fun k=>qb3 k c) (n,l,c')∧l.length≤81∧(∀ x∈l,x.InStep.length≤6)∧Cur (t+10000) c':=by
 obtain ⟨w1,c1,h1,hc1,p0,p1⟩:=uu hc (by omega) 5 (by omega)
 have hw:IntKind.wrap .i64 ((1:Int)+w1)=1+w1:=kh (by omega) (by omega)
 obtain ⟨m,hm,hm1,hnew⟩ : ∃ m:Nat,1+w1=m∧(1≤m∧m≤6)∧Ev (fun k=>yh k (1+w1)) (wa m,true):=by
  rcases q1j (n:=1+w1) with ⟨m,e,h,h2⟩ | ⟨h,_⟩
  ·exact ⟨m,e,h,h2⟩
  ·exact absurd ⟨by omega,by omega⟩ h
 obtain ⟨w2,c2,h2,hc2,q0,q1⟩:=uu hc1 (by omega) 30 (by omega)
 obtain ⟨w3,c3,h3,hc3⟩:=qe6 hc2 (by omega) 12 (by omega)
 have hgood:=(qih hm1.1 hm1.2).1
 have hj1:∀ (m0:Int) (c:L1Cur),0≤m0→m0≤81→Cur (t+4) c→∃ n l c',Ev (fun k=>qb0 k (w1,c1) (wa m,true) m0 c) (n,l,c')∧l.length≤81∧(∀ x∈l,x.InStep.length≤6)∧Cur (t+10000) c':=by
  intro m0 c hn0 hn1 hc
  have key:=Ev.loopQk (B:=fun k (s:List Command × Int × L1Cur × Control)=>wd k s.1 s.2.1 s.2.2.1 s.2.2.2) (s:=(([],m0,c,wa m) : List Command × Int × L1Cur × Control))
   (fun o=>∃ (l:List Command) (m:Int) (c:L1Cur) (v:Control),o = .nxt (l,m,c,v)∧l.length≤81∧(∀ x∈l,x.InStep.length≤6)∧Cur (t+10000) c)
   (fun st=>∃ j:Nat,(j:Int)+st.2.1=m0∧0≤st.2.1∧st.1.length=j∧(∀ x∈st.1,x.InStep.length≤6)∧Cur (t+4+60*j) st.2.2.1∧yq st.2.2.2)
   (fun st=>st.2.1.toNat) ⟨0,by simp,hn0,rfl,by simp,by simpa using hc,hgood⟩ ?_
  ·obtain ⟨o,ho,l,m,c2,v,rfl,hl1,hl2,hc2⟩:=key
   refine ⟨IntKind.wrap .i64 ((1:Int)+w1),l,c2,?_,hl1,hl2,hc2⟩
   unfold qb0
   exact Ev.jn ho (Ev.of rfl)
  ·rintro ⟨l,m,c2,v⟩ ⟨j,hj,hm,hl,hl2,hc2,hv⟩
   simp only at hj hm hl hl2 hc2 hv
   by_cases hm0:0<m
   ·obtain ⟨x,c3,hx,hx6,hc3⟩:=qn6 hv hc2 (by omega)
    have fin:∀ w:Control,yq w→∃ s',Ev (fun _=>qbz l m (x,c3,v) w) (.nxt s')∧((∃ j:Nat,(j:Int)+s'.2.1=m0∧0≤s'.2.1∧s'.1.length=j∧(∀ x∈s'.1,x.InStep.length≤6)∧Cur (t+4+60*j) s'.2.2.1∧yq s'.2.2.2)∧s'.2.1.toNat<m.toNat):=by
     intro w hw
     refine ⟨(l++[x],m - 1,c3,w),Ev.of ?_,⟨j+1,by simp only; omega,by simp only; omega,by simp; omega,fun z hz=>?_,by simp only; exact hc3.le (by omega),hw⟩,by simp only; omega⟩
     ·unfold qbz
      rw [qw6 (by omega),Option.bind_some,kh (n:=m - 1) (by omega) (by omega)]
     ·rcases List.mem_append.1 hz with h | h
      ·exact hl2 z h
      ·simp at h
       subst h
       exact hx6
    by_cases hok:yq v∧uv v.Brokers.length x
    ·obtain ⟨s',e,f1,f2⟩:=fin (qc9 v x).1 (qiq hok.1 hok.2).1
     refine .inl ⟨s',?_,f1,f2⟩
     simp only [wd]
     exact Ev.iteT (by simpa using hm0) (Ev.bind hx (Ev.bind (qrf hok.1 hok.2) (Ev.bind (a:=(qc9 v x).1) (Ev.iteT rfl Ev.rfl) e)))
    ·obtain ⟨s',e,f1,f2⟩:=fin v hv
     refine .inl ⟨s',?_,f1,f2⟩
     simp only [wd]
     exact Ev.iteT (by simpa using hm0) (Ev.bind hx (Ev.bind (qnn hv.nn (show x.InStep.length≤1048576 by omega) hok) (Ev.bind (a:=v) (Ev.iteF rfl Ev.rfl) e)))
   ·refine .inr (.inl ⟨(l,m,c2,v),?_,l,m,c2,v,rfl,by omega,hl2,hc2.le (by omega)⟩)
    simp only [wd]
    exact Ev.iteF (by simpa using hm0) Ev.rfl
 unfold qb3
 cases w3 with
 | true =>
  obtain ⟨w4,c4,h4,hc4,g2,g3⟩:=uu hc3 (by omega) 12 (by omega)
  obtain ⟨n,l,c',he,r⟩:=hj1 (70+w4) c4 (by omega) (by omega) hc4
  exact ⟨n,l,c',Ev.bindp h1 (Ev.bind (a:=(wa m,true)) (by simp only [hw]; exact hnew) (Ev.bindp h2 (Ev.bindp h3 (Ev.bind (a:=(70+w4,c4)) (Ev.iteT rfl (Ev.bindp h4 (Ev.of (by rw [kh (by omega) (by omega)])))) he)))),r⟩
 | false =>
  obtain ⟨n,l,c',he,r⟩:=hj1 w2 c3 (by omega) (by omega) (hc3.le (by omega))
  exact ⟨n,l,c',Ev.bindp h1 (Ev.bind (a:=(wa m,true)) (by simp only [hw]; exact hnew) (Ev.bindp h2 (Ev.bindp h3 (Ev.bind (a:=(w2,c3)) (Ev.iteF rfl Ev.rfl) he)))),r⟩
theorem DrawPlay_ok {code:List Int}(hb:Bytes code) : ∃ n l,Ev (fun k=>wj k code) (n,l)∧nnL Command.nn l≤1048576:=by
 obtain ⟨n,l,c',e,h1,h2,_⟩:=qnb (c:=L1Cur.mk code 0 0) (t:=0) ⟨hb,Int.le_refl _,Int.le_refl _⟩ (by omega)
 refine ⟨n,l,?_,?_⟩
 ·unfold wj
  exact Ev.bind e Ev.rfl
 ·have h3:nnL Command.nn l=l.length+qd1 Command.nn l:=rfl
  have h4:qd1 Command.nn l≤l.length*6:=qjm (fun x hx=>h2 x hx)
  have h5:l.length*6≤81*6:=Nat.mul_le_mul_right _ h1
  omega
end Go.Proofs.Ytjloihcijdcpeaa.X
