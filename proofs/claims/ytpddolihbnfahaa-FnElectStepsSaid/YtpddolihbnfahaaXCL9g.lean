/- FnElections: true at every draw. -/
import Derived.Test.YtpddolihbnfahaaXCL9n
import Derived.Test.YtpddolihbnfahaaXCL9q
import Derived.Test.YtpddolihbnfahaaXCW
set_option linter.unusedVariables false
set_option linter.unusedSimpArgs false
namespace Go.Proofs.Ytpddolihbnfahaa.X
open Go

theorem qgl {e:Election}(h:e.nn≤1048576) : Ev (fun _=>xw e e) true:=by
 obtain ⟨n1,n2,n3,n4⟩:=qhp h
 unfold xw
 refine Ev.iteF (by simp) (Ev.jn (qix (B:=fun _ i _=>xv e e i) (by omega) (fun i hi=>?_)) ?_)
 ·have hx:e.Servers[i]? = some e.Servers[i]:=List.getElem?_eq_getElem hi
  have:=n4 i _ hx
  unfold xv
  exact Ev.bindp (wk hx) (Ev.bindp (wk hx) (Ev.bind (a:=false) (Ev.iteF (by simp) (Ev.bind (qgs (by omega)) Ev.rfl)) (Ev.bind (a:=false) (Ev.iteF rfl (Ev.bind (qgs (by omega)) Ev.rfl)) (Ev.iteF rfl Ev.rfl))))
 ·unfold qcz
  refine Ev.jn (qix (B:=fun _ i _=>xz e e i) (by omega) (fun i hi=>?_)) ?_
  ·have hx:e.Post[i]? = some e.Post[i]:=List.getElem?_eq_getElem hi
   unfold xz
   exact Ev.bindp (wk hx) (Ev.bindp (wk hx) (Ev.iteF (by simp) Ev.rfl))
  ·unfold qcr
   refine Ev.jn (qix (B:=fun _ i _=>xy e e i) (by omega) (fun i hi=>?_)) Ev.rfl
   have hx:e.Led[i]? = some e.Led[i]:=List.getElem?_eq_getElem hi
   unfold xy
   exact Ev.bindp (wk hx) (Ev.bindp (wk hx) (Ev.iteF (by simp) Ev.rfl))
theorem qy6 {e:Election}{b:Bool}(hg:Ev (fun _=>k9 e) b)(hl:e.Led.length≤1048576)(t:Int) : ∃ r:Int × Bool,Ev (fun _=>qbs e t) r∧((r=(0,false)∧(b=false∨∀ v∈e.Led,v.Term≠t))∨(b=true∧∃ (i:Nat) (v:Vote),e.Led[i]? = some v∧v.Term=t∧(∀ j w,j<i→e.Led[j]? = some w→w.Term≠t)∧r=(v.Leader,true))):=by
 unfold qbs wm
 rcases qh2 (B:=fun _ i x _=>ya (fun a0=>some (qae a0 t)) i x) (Q:=fun _ v=>v.Term=t) (f:=fun i=>(i:Int)) (l:=e.Led) (by omega) (fun i x hx=>by
   unfold ya
   rw [Option.bind_some]
   refine qkk ?_
   unfold qae
   simp) with ⟨i,x,h1,h2,h3,h4⟩ | ⟨h1,h2⟩
 ·cases b with
  | true=>exact ⟨_,Ev.bind (Ev.jn_ret h4) (Ev.bind hg (Ev.iteF (by simp) (Ev.bindp (wk h1) Ev.rfl))),.inr ⟨rfl,i,x,h1,h2,h3,rfl⟩⟩
  | false=>exact ⟨_,Ev.bind (Ev.jn_ret h4) (Ev.bind hg (Ev.iteT rfl Ev.rfl)),.inl ⟨rfl,.inl rfl⟩⟩
 ·refine ⟨_,Ev.bind (Ev.jn h2 Ev.rfl) (Ev.bind hg (Ev.iteT (by simp) Ev.rfl)),.inl ⟨rfl,.inr fun v hv=>?_⟩⟩
  obtain ⟨i,hi⟩:=List.getElem?_of_mem hv
  exact h1 i v hi
theorem zaz {e:Election}{k:Int}{s:Server}(h:elP e)(hk:At e k s) : Ev (fun _=>qac e k) (decide (e.Servers.length<2*e.Servers.countP (fun t=>up9 (j0 s.Log) s.Log.length t.Log)),true):=by
 have hf:=h.fit
 have hn:=hf.n2
 have hl:=hk.lt
 obtain ⟨_,hs,_⟩:=hf.sv k s hk
 unfold qac
 have hc:=List.countP_le_length (p:=fun t:Server=>up9 (j0 s.Log) s.Log.length t.Log) (l:=e.Servers)
 refine Ev.bind (qp0 h) (Ev.iteF ?_ (Ev.bindp (y9 hk) (Ev.jn (s:=((e.Servers.countP (fun t=>up9 (j0 s.Log) s.Log.length t.Log) : Nat) : Int)) (uo (B:=fun _ i x c=>qb0 s i x c) (by omega) (fun i q c=>e.Servers.drop i=q∧c=(((e.Servers.take i).countP (fun t=>up9 (j0 s.Log) s.Log.length t.Log) : Nat) : Int)) ⟨rfl,by simp⟩ (fun i x q c ⟨hq,hc2⟩ => .inl ?_) (fun i c ⟨hq,hc2⟩=>?_)) ?_)))
 ·rw [kt (n:=(List.length e.Servers:Int) - 1) (by omega) (by omega)]
  simp [zt]
  omega
 ·have hx:e.Servers[i]? = some x:=by have:=congrArg (fun z=>z[0]?) hq; simpa using this
  obtain ⟨_,hxs,_⟩:=hf.sv _ x (At.nat hx)
  have hlt:i<e.Servers.length:=(List.getElem?_eq_some_iff.1 hx).1
  have h5:(e.Servers.take (i+1)).countP (fun t=>up9 (j0 s.Log) s.Log.length t.Log)=(e.Servers.take i).countP (fun t=>up9 (j0 s.Log) s.Log.length t.Log)+if up9 (j0 s.Log) s.Log.length x.Log=true then 1 else 0:=by
   rw [List.take_add_one,hx,List.countP_append]
   simp only [Option.toList_some,List.countP_cons,List.countP_nil,Nat.zero_add]
  have h6:=List.countP_le_length (p:=fun t:Server=>up9 (j0 s.Log) s.Log.length t.Log) (l:=e.Servers.take i)
  rw [List.length_take] at h6
  refine ⟨(((e.Servers.take (i+1)).countP (fun t=>up9 (j0 s.Log) s.Log.length t.Log) : Nat) : Int),?_,by have:=congrArg (List.drop 1) hq; simpa [List.drop_drop] using this,rfl⟩
  unfold qb0
  refine Ev.bindp (qhd (by omega)) (Ev.bindp (qoj (by omega)) ?_)
  rw [h5,hc2]
  cases up9 (j0 s.Log) s.Log.length x.Log with
  | true=>exact Ev.iteT rfl (Ev.of (by rw [qqr (by omega)]; rfl))
  | false=>exact Ev.iteF rfl Ev.rfl
 ·have hi:e.Servers.length≤i:=by have:=congrArg List.length hq; simp at this; omega
  rw [hc2,List.take_of_length_le hi]
 ·unfold qfh
  rw [kt (by omega) (by omega)]
  refine Ev.of ?_
  congr 2
  simp only [decide_eq_decide]
  omega
end Go.Proofs.Ytpddolihbnfahaa.X
