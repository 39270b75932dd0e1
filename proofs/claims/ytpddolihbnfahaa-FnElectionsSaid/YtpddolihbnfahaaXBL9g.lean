/- FnElections: true at every draw. -/
import Derived.Test.YtpddolihbnfahaaXBL9n
import Derived.Test.YtpddolihbnfahaaXBL9q
import Derived.Test.YtpddolihbnfahaaXBW
set_option linter.unusedVariables false
set_option linter.unusedSimpArgs false
namespace Go.Proofs.Ytpddolihbnfahaa.X
open Go

theorem qe0 {e:Election}(h:e.nn≤1048576) : Ev (fun _=>xx e e) true:=by
 obtain ⟨n1,n2,n3,n4⟩:=qh6 h
 unfold xx
 refine Ev.iteF (by simp) (Ev.jn (qd4 (B:=fun _ i _=>ww e e i) (by omega) (fun i hi=>?_)) ?_)
 ·have hx:e.Servers[i]? = some e.Servers[i]:=List.getElem?_eq_getElem hi
  have:=n4 i _ hx
  unfold ww
  exact Ev.bindp (kx hx) (Ev.bindp (kx hx) (Ev.bind (a:=false) (Ev.iteF (by simp) (Ev.bind (qhh (by omega)) Ev.rfl)) (Ev.bind (a:=false) (Ev.iteF rfl (Ev.bind (qhh (by omega)) Ev.rfl)) (Ev.iteF rfl Ev.rfl))))
 ·unfold qbh
  refine Ev.jn (qd4 (B:=fun _ i _=>wm e e i) (by omega) (fun i hi=>?_)) ?_
  ·have hx:e.Post[i]? = some e.Post[i]:=List.getElem?_eq_getElem hi
   unfold wm
   exact Ev.bindp (kx hx) (Ev.bindp (kx hx) (Ev.iteF (by simp) Ev.rfl))
  ·unfold qa7
   refine Ev.jn (qd4 (B:=fun _ i _=>ws e e i) (by omega) (fun i hi=>?_)) Ev.rfl
   have hx:e.Led[i]? = some e.Led[i]:=List.getElem?_eq_getElem hi
   unfold ws
   exact Ev.bindp (kx hx) (Ev.bindp (kx hx) (Ev.iteF (by simp) Ev.rfl))
theorem ql3 {e:Election}{b:Bool}(hg:Ev (fun _=>kt e) b)(hl:e.Led.length≤1048576)(t:Int) : ∃ r:Int × Bool,Ev (fun _=>qak e t) r∧((r=(0,false)∧(b=false∨∀ v∈e.Led,v.Term≠t))∨(b=true∧∃ (i:Nat) (v:Vote),e.Led[i]? = some v∧v.Term=t∧(∀ j w,j<i→e.Led[j]? = some w→w.Term≠t)∧r=(v.Leader,true))):=by
 unfold qak yn
 rcases qgb (B:=fun _ i x _=>ko (fun a0=>some (ue a0 t)) i x) (Q:=fun _ v=>v.Term=t) (f:=fun i=>(i:Int)) (l:=e.Led) (by omega) (fun i x hx=>by
   unfold ko
   rw [Option.bind_some]
   refine qmt ?_
   unfold ue
   simp) with ⟨i,x,h1,h2,h3,h4⟩ | ⟨h1,h2⟩
 ·cases b with
  | true=>exact ⟨_,Ev.bind (Ev.jn_ret h4) (Ev.bind hg (Ev.iteF (by simp) (Ev.bindp (kx h1) Ev.rfl))),.inr ⟨rfl,i,x,h1,h2,h3,rfl⟩⟩
  | false=>exact ⟨_,Ev.bind (Ev.jn_ret h4) (Ev.bind hg (Ev.iteT rfl Ev.rfl)),.inl ⟨rfl,.inl rfl⟩⟩
 ·refine ⟨_,Ev.bind (Ev.jn h2 Ev.rfl) (Ev.bind hg (Ev.iteT (by simp) Ev.rfl)),.inl ⟨rfl,.inr fun v hv=>?_⟩⟩
  obtain ⟨i,hi⟩:=List.getElem?_of_mem hv
  exact h1 i v hi
theorem q52 {e:Election}{k:Int}{s:Server}(h:elP e)(hk:At e k s) : Ev (fun _=>qcl e k) (decide (e.Servers.length<2*e.Servers.countP (fun t=>up9 (jy s.Log) s.Log.length t.Log)),true):=by
 have hf:=h.fit
 have hn:=hf.n2
 have hl:=hk.lt
 obtain ⟨_,hs,_⟩:=hf.sv k s hk
 unfold qcl
 have hc:=List.countP_le_length (p:=fun t:Server=>up9 (jy s.Log) s.Log.length t.Log) (l:=e.Servers)
 refine Ev.bind (qkb h) (Ev.iteF ?_ (Ev.bindp (wy hk) (Ev.jn (s:=((e.Servers.countP (fun t=>up9 (jy s.Log) s.Log.length t.Log) : Nat) : Int)) (xz (B:=fun _ i x c=>qat s i x c) (by omega) (fun i q c=>e.Servers.drop i=q∧c=(((e.Servers.take i).countP (fun t=>up9 (jy s.Log) s.Log.length t.Log) : Nat) : Int)) ⟨rfl,by simp⟩ (fun i x q c ⟨hq,hc2⟩ => .inl ?_) (fun i c ⟨hq,hc2⟩=>?_)) ?_)))
 ·rw [kh (n:=(List.length e.Servers:Int) - 1) (by omega) (by omega)]
  simp [zk]
  omega
 ·have hx:e.Servers[i]? = some x:=by have:=congrArg (fun z=>z[0]?) hq; simpa using this
  obtain ⟨_,hxs,_⟩:=hf.sv _ x (At.nat hx)
  have hlt:i<e.Servers.length:=(List.getElem?_eq_some_iff.1 hx).1
  have h5:(e.Servers.take (i+1)).countP (fun t=>up9 (jy s.Log) s.Log.length t.Log)=(e.Servers.take i).countP (fun t=>up9 (jy s.Log) s.Log.length t.Log)+if up9 (jy s.Log) s.Log.length x.Log=true then 1 else 0:=by
   rw [List.take_add_one,hx,List.countP_append]
   simp only [Option.toList_some,List.countP_cons,List.countP_nil,Nat.zero_add]
  have h6:=List.countP_le_length (p:=fun t:Server=>up9 (jy s.Log) s.Log.length t.Log) (l:=e.Servers.take i)
  rw [List.length_take] at h6
  refine ⟨(((e.Servers.take (i+1)).countP (fun t=>up9 (jy s.Log) s.Log.length t.Log) : Nat) : Int),?_,by have:=congrArg (List.drop 1) hq; simpa [List.drop_drop] using this,rfl⟩
  unfold qat
  refine Ev.bindp (qh2 (by omega)) (Ev.bindp (qv5 (by omega)) ?_)
  rw [h5,hc2]
  cases up9 (jy s.Log) s.Log.length x.Log with
  | true=>exact Ev.iteT rfl (Ev.of (by rw [qwk (by omega)]; rfl))
  | false=>exact Ev.iteF rfl Ev.rfl
 ·have hi:e.Servers.length≤i:=by have:=congrArg List.length hq; simp at this; omega
  rw [hc2,List.take_of_length_le hi]
 ·unfold qdv
  rw [kh (by omega) (by omega)]
  refine Ev.of ?_
  congr 2
  simp only [decide_eq_decide]
  omega
theorem FnElections_pure (v_0:List Int)(w0:wfL 1 qlk v_0) : ∃ k,uy k v_0=some true:=by
 suffices h:Ev (fun k=>uy k v_0) true by
  obtain ⟨K,h⟩:=h
  exact ⟨K,h K (Nat.le_refl _)⟩
 have wl:=w0.1
 unfold uy
 by_cases hbig:(1048576:Int)<(List.length v_0:Int)
 ·exact Ev.iteT (by simpa using hbig) Ev.rfl
 refine Ev.iteF (by simpa using hbig) ?_
 obtain ⟨logs,l,hdr,hnn,hll⟩:=DrawPlay_ok (code:=v_0) (fun x hx=>w0.2 x hx)
 refine Ev.bind hdr ?_
 dsimp only
 rcases PlayElection_all (v_1:=l) hnn with ⟨ho,h1,h2,hl,e1,e2⟩ | ⟨e1,e2⟩
 ·have hw:=qlc (l:=l) (d:=[]) (qg8 ho h1 h2 hl)
  generalize qa0 (ya logs) l []=R at *
  obtain ⟨e,d⟩:=R
  dsimp only at e1 e2 hw ⊢
  obtain ⟨hway,hd⟩:=hw
  have hgood:=hway.good
  obtain ⟨⟨g,hI⟩,hs,hp,hled⟩:=hway
  have hge:=qkb hgood
  refine Ev.bind e2 (Ev.bind e1 (Ev.bind (a:=false) (Ev.iteF (by simp) (Ev.bind (qgh (by simp at hd ⊢; omega)) Ev.rfl)) (Ev.bind (a:=false) (Ev.iteF rfl (Ev.bind (qe0 hgood.fit.nn) Ev.rfl)) (Ev.iteF rfl (Ev.iteF rfl (Ev.bind (a:=true) (by unfold qa4; exact Ev.bind hge Ev.rfl) (Ev.iteF rfl ?_)))))))
  refine Ev.jn (qd4 (B:=fun _ i _=>xl (e,d,true) i) (by dsimp only; omega) (fun i hi=>?_)) ?_
  ·dsimp only at hi
   have hv:e.Led[i]? = some e.Led[i]:=List.getElem?_eq_getElem hi
   generalize e.Led[i]=v at hv
   have hvm:=List.mem_of_getElem? hv
   unfold xl
   refine Ev.bindp (kx hv) (Ev.bindp (a:=e.Led.take i) (qjv (by dsimp only; omega)) (Ev.jn (qd4 (B:=fun _ j _=>xm v (e.Led.take i) j) (by rw [List.length_take]; omega) (fun j hj=>?_)) ?_))
   ·have hw:(e.Led.take i)[j]? = some (e.Led.take i)[j]:=List.getElem?_eq_getElem hj
    generalize (e.Led.take i)[j]=w at hw
    have hji:j<i:=by rw [List.length_take] at hj; omega
    unfold xm
    refine Ev.bindp (kx hw) (Ev.iteF ?_ Ev.rfl)
    rw [List.getElem?_take_of_lt hji] at hw
    have hpw:=hI.pw
    rw [List.pairwise_iff_getElem] at hpw
    obtain ⟨a1,rfl⟩:=List.getElem?_eq_some_iff.1 hw
    obtain ⟨a2,rfl⟩:=List.getElem?_eq_some_iff.1 hv
    simpa using hpw j i a1 a2 hji
   ·unfold qb3
    obtain ⟨r,k1,k2⟩:=ql3 hge (by omega) v.Term
    obtain ⟨s,m1,m2,m3⟩:=hI.may hvm
    have hr:r=(v.Leader,true):=by
     rcases k2 with ⟨_,hn⟩ | ⟨_,j,w,q1,q2,_,q3⟩
     ·rcases hn with hn | hn
      ·cases hn
      ·exact absurd rfl (hn v hvm)
     ·rw [q3,hI.one (List.mem_of_getElem? q1) hvm q2]
    rw [hr] at k1
    refine Ev.bind k1 (Ev.bind (q52 hgood m1) (Ev.bind (a:=false) (Ev.iteF (by simpa using m3) (Ev.bindp (wy m1) (Ev.of (by simp; omega)))) (Ev.iteF rfl Ev.rfl)))
  ·unfold qb5
   simp only [qg9]
   have hel:e.nn≤1048576:=hgood.fit.nn
   refine Ev.jn (s:=e.Servers) (xz (B:=fun _ i _ s=>xk (e,d,true) i s) (by simp; have:=hgood.fit.n2; omega) (fun i q s=>i+q.length=e.Servers.length∧s=e.Servers) ⟨by simp,rfl⟩ (fun i _ q s ⟨hq,hs⟩ => .inl ?_) (fun i s ⟨_,hs⟩=>by rw [hs])) Ev.rfl
   subst hs
   simp only [List.length_cons] at hq
   have hx:e.Servers[i]? = some (e.Servers[i]'(by omega)):=List.getElem?_eq_getElem _
   generalize e.Servers[i]'(by omega)=x at hx
   obtain ⟨r,k1,k2⟩:=ql3 hge (by omega) x.Term
   refine ⟨e.Servers,?_,by omega,rfl⟩
   unfold xk
   refine Ev.bindp (kx hx) (Ev.bind (a:=r) k1 (Ev.iteF ?_ Ev.rfl))
   cases hlead:x.Leads with
   | false=>rfl
   | true =>
    have hm:=hI.ldr _ x (At.nat hx) hlead
    rcases k2 with ⟨_,hn⟩ | ⟨_,j,w,q1,q2,_,q3⟩
    ·rcases hn with hn | hn
     ·cases hn
     ·exact absurd rfl (hn _ hm)
    ·have:=hI.one (List.mem_of_getElem? q1) hm q2
     rw [q3,this]
     simp
 ·exact Ev.bind e2 (Ev.bind e1 (Ev.bind (a:=false) (Ev.iteF (by simp) (Ev.bind (qgh (by simp)) Ev.rfl)) (Ev.bind (a:=false) (Ev.iteF rfl (Ev.bind (qe0 (by decide)) Ev.rfl)) (Ev.iteF rfl (Ev.iteT rfl (Ev.of (by simp)))))))
end Go.Proofs.Ytpddolihbnfahaa.X
