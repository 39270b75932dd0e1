/- FnControls: true at every draw. -/
import Derived.Test.YtjloihcijdcpeaaXCL12q
import Derived.Test.YtjloihcijdcpeaaXCW
set_option linter.unusedVariables false
set_option linter.unusedSimpArgs false
namespace Go.Proofs.Ytjloihcijdcpeaa.X
open Go

theorem qxn {α:Type}{p:Nat→α→Bool} : ∀ {l:List α} {i:Nat} {z:Int},z∈qab p l i↔∃ j x,l[j]? = some x∧z=((i+j:Nat) : Int)∧p (i+j) x=true:=by
 intro l
 induction l with
 | nil=>intro i z; simp [qab]
 | cons a q ih =>
  intro i z
  have key:(∃ j x,(a::q)[j]? = some x∧z=((i+j:Nat) : Int)∧p (i+j) x=true)↔(z=(i:Int)∧p i a=true)∨∃ j x,q[j]? = some x∧z=((i+1+j:Nat) : Int)∧p (i+1+j) x=true:=by
   constructor
   ·rintro ⟨j,x,h1,h2,h3⟩
    cases j with
    | zero=>simp at h1; subst h1; exact .inl ⟨by simpa using h2,by simpa using h3⟩
    | succ j=>exact .inr ⟨j,x,by simpa using h1,by rw [h2]; congr 1; omega,by rwa [show i+1+j=i+(j+1) by omega]⟩
   ·rintro (⟨h1,h2⟩ | ⟨j,x,h1,h2,h3⟩)
    ·exact ⟨0,a,rfl,by simpa using h1,by simpa using h2⟩
    ·exact ⟨j+1,x,by simpa using h1,by rw [h2]; congr 1; omega,by rwa [show i+(j+1)=i+1+j by omega]⟩
  rw [key]
  simp only [qab]
  split
  ·rename_i c
   rw [List.mem_cons,ih]
   simp [c]
  ·rename_i c
   rw [ih]
   simp [c]
theorem qst {α:Type}{p:α→Bool}{l:List α}{i:Nat} : (i:Int)∈qab (fun _ x=>p x) l 0↔∃ x,l[i]? = some x∧p x=true:=by
 rw [qxn]
 constructor
 ·rintro ⟨j,x,h1,h2,h3⟩
  have:i=j:=by omega
  subst this
  exact ⟨x,h1,h3⟩
 ·rintro ⟨x,h1,h2⟩
  exact ⟨i,x,h1,by omega,h2⟩
theorem qkd {a b:Control}(ha:a.nn≤1048576) : Is (fun _=>xh a b) (a=b):=by
 obtain ⟨n1,n2,n3⟩:=qgn ha
 unfold xh
 by_cases h0:a.Next=b.Next∧a.Brokers.length=b.Brokers.length∧a.Parts.length=b.Parts.length
 ·obtain ⟨h1,h2,h3⟩:=h0
  rw [if_neg (by simp [h1,h2,h3])]
  refine Is.allI (Q:=fun i=>a.Brokers[i]? = b.Brokers[i]?) (by omega) (fun i hi=>?_) (fun hq=>?_) (fun hn h=>hn (fun i _=>by rw [h]))
  ·have hx:a.Brokers[i]? = some a.Brokers[i]:=List.getElem?_eq_getElem hi
   have hy:b.Brokers[i]? = some (b.Brokers[i]'(by omega)):=List.getElem?_eq_getElem _
   generalize a.Brokers[i]=x at hx
   generalize b.Brokers[i]'_=y at hy
   unfold u4
   rw [ki hx,ki hy]
   simp only [Option.bind_some]
   refine qdr ?_
   rw [hx,hy]
   obtain ⟨x1,x2,x3⟩:=x
   obtain ⟨y1,y2,y3⟩:=y
   simp [Broker.mk.injEq]
   by_cases g1:x1=y1 <;> by_cases g2:x2=y2 <;> simp [g1,g2]
  ·unfold qbx
   refine Is.allI (Q:=fun i=>a.Parts[i]? = b.Parts[i]?) (by omega) (fun i hi=>?_) (fun hq2=>Is.T ?_) (fun hn h=>hn (fun i _=>by rw [h]))
   ·have hx:a.Parts[i]? = some a.Parts[i]:=List.getElem?_eq_getElem hi
    have hy:b.Parts[i]? = some (b.Parts[i]'(by omega)):=List.getElem?_eq_getElem _
    obtain ⟨m1,m2⟩:=n3 i _ hx
    generalize a.Parts[i]=x at hx m1 m2
    generalize b.Parts[i]'_=y at hy
    obtain ⟨b1,e1,f1⟩:=qf5 (a:=x.Homes) (b:=y.Homes) (by omega)
    obtain ⟨b2,e2,f2⟩:=qf5 (a:=x.InStep) (b:=y.InStep) (by omega)
    unfold qaa
    have g1:∃ v,Ev (fun _:Nat=>(if (((decide (x.Leader≠y.Leader))||(decide (x.Epoch≠y.Epoch)))||(decide (x.Stamp≠y.Stamp)))=true then
      (some true) else ((yf x.Homes y.Homes).bind fun v144=>(some (!v144))))) v∧(v=true↔¬ (x.Leader=y.Leader∧x.Epoch=y.Epoch∧x.Stamp=y.Stamp∧x.Homes=y.Homes)):=by
     by_cases hh:x.Leader=y.Leader∧x.Epoch=y.Epoch∧x.Stamp=y.Stamp
     ·exact ⟨!b1,Ev.iteF (by simp [hh]) (Ev.bind e1 Ev.rfl),by simp only [hh,true_and,← f1]; cases b1 <;> simp⟩
     ·refine ⟨true,Ev.iteT ?_ Ev.rfl,by simp only [true_iff]; exact fun h=>hh ⟨h.1,h.2.1,h.2.2.1⟩⟩
      simp only [Bool.or_eq_true,decide_eq_true_eq]
      by_cases q1:x.Leader=y.Leader
      ·by_cases q2:x.Epoch=y.Epoch
       ·exact .inr fun q3=>hh ⟨q1,q2,q3⟩
       ·exact .inl (.inr q2)
      ·exact .inl (.inl q1)
    obtain ⟨v,ev,fv⟩:=g1
    have g2:∃ w,Ev (fun _:Nat=>(if v=true then (some true) else ((yf x.InStep y.InStep).bind fun v165=>(some (!v165))))) w∧(w=true↔¬ (x=y)):=by
     cases v with
     | true=>exact ⟨true,Ev.iteT rfl Ev.rfl,by simp only [true_iff]; exact fun h=>(fv.1 rfl) (by rw [h]; exact ⟨rfl,rfl,rfl,rfl⟩)⟩
     | false =>
      have hh:x.Leader=y.Leader∧x.Epoch=y.Epoch∧x.Stamp=y.Stamp∧x.Homes=y.Homes:=Classical.not_not.1 (fun h=>by have:=fv.2 h; cases this)
      refine ⟨!b2,Ev.iteF rfl (Ev.bind e2 Ev.rfl),?_⟩
      obtain ⟨x1,x2,x3,x4,x5⟩:=x
      obtain ⟨y1,y2,y3,y4,y5⟩:=y
      simp only at hh f2
      obtain ⟨rfl,rfl,rfl,rfl⟩:=hh
      simp only [Partition.mk.injEq,true_and,and_true,← f2]
      cases b2 <;> simp
    obtain ⟨w,ew,fw⟩:=g2
    refine ⟨w,Ev.bindp (ki hx) (Ev.bindp (ki hy) (Ev.bind ev (Ev.bind ew ?_))),by rw [fw,hx,hy]; simp⟩
    cases w <;> exact Ev.rfl
   ·have e1:a.Brokers=b.Brokers:=List.ext_getElem? fun i=>by
     by_cases hi:i<a.Brokers.length
     ·exact hq i hi
     ·rw [List.getElem?_eq_none (by omega),List.getElem?_eq_none (by omega)]
    have e2:a.Parts=b.Parts:=List.ext_getElem? fun i=>by
     by_cases hi:i<a.Parts.length
     ·exact hq2 i hi
     ·rw [List.getElem?_eq_none (by omega),List.getElem?_eq_none (by omega)]
    obtain ⟨a1,a2,a3⟩:=a
    obtain ⟨b1,b2,b3⟩:=b
    simp only at h1 e1 e2
    rw [h1,e1,e2]
 ·refine ⟨false,Ev.iteT ?_ Ev.rfl,by simp only [Bool.false_eq_true,false_iff]; exact fun h=>h0 (by rw [h]; exact ⟨rfl,rfl,rfl⟩)⟩
  simp only [Bool.or_eq_true,decide_eq_true_eq]
  by_cases q1:a.Next=b.Next
  ·by_cases q2:a.Brokers.length=b.Brokers.length
   ·exact .inr fun q3=>h0 ⟨q1,q2,by omega⟩
   ·exact .inl (.inr fun h=>q2 (by omega))
  ·exact .inl (.inl q1)
theorem qfu {a:Control}(ha:a.nn≤1048576) : Ev (fun _=>xh a a) true:=by
 obtain ⟨b,e,h⟩:=qkd (b:=a) ha
 rw [h.2 rfl] at e
 exact e
theorem q6r {c:Control}(hc:yq c) : Ev (fun _=>qai c) (qab (fun _ (b:Broker) => !b.Fenced) c.Brokers 0,true):=by
 have:=hc.1.1.2
 unfold qai
 refine Ev.bind (qis hc) (Ev.iteF rfl (Ev.jn (qnp (p:=fun _ (b:Broker) => !b.Fenced) (by omega) (fun i x s hx hs=>?_)) Ev.rfl))
 have hi:=(List.getElem?_eq_some_iff.1 hx).1
 unfold qan
 cases hf:x.Fenced with
 | true=>exact Ev.iteF rfl Ev.rfl
 | false=>exact Ev.iteT rfl (Ev.bindp (qnf (by omega)) Ev.rfl)
theorem qnj {c:Control}{k:Int}(hc:yq c) : Ev (fun _=>wq c k) (qab (fun _ (p:Partition)=>decide (p.Leader=k)) c.Parts 0):=by
 have:=hc.1.2.1
 unfold wq
 refine Ev.jn (qnp (p:=fun _ (p:Partition)=>decide (p.Leader=k)) (by omega) (fun i x s hx hs=>?_)) Ev.rfl
 have hi:=(List.getElem?_eq_some_iff.1 hx).1
 unfold uo
 by_cases hf:x.Leader=k
 ·rw [if_pos (by simpa using hf),if_pos (by simpa using hf)]
  exact Ev.bindp (qnf (by omega)) Ev.rfl
 ·rw [if_neg (by simpa using hf),if_neg (by simpa using hf)]
  exact Ev.rfl
theorem qs4 {c:Control}(hc:yq c) : Ev (fun _=>u0 c) (qab (fun _ (p:Partition)=>decide (p.Leader = -1)) c.Parts 0,true):=by
 unfold u0
 exact Ev.bind (qis hc) (Ev.iteF rfl (Ev.bind (qnj hc) Ev.rfl))
theorem qqy {c:Control}{i:Nat}(hc:yq c)(hi:i<c.Brokers.length) : Ev (fun _=>qak c (i:Int)) (qab (fun _ (p:Partition)=>decide (p.Leader=(i:Int))) c.Parts 0,true):=by
 have:=hc.1.1.2
 unfold qak
 refine Ev.bind (qis hc) (Ev.iteF ?_ (Ev.bind (qnj hc) Ev.rfl))
 rw [kh (n:=(List.length c.Brokers:Int) - 1) (by omega) (by omega)]
 simp [zp]
 omega
theorem q5q {c:Control}(hc:yq c) : Ev (fun _=>qag c) true:=by
 unfold qag
 exact Ev.bind (qis hc) Ev.rfl
theorem qjo {α:Type}{p:α→Bool}{l:List α}{i:Nat}{x:α}(hl:l.length≤1048576)(hx:l[i]? = some x) : Ev (fun _=>wg (qab (fun _ x=>p x) l 0) (i:Int)) (p x):=by
 have hc:=qmv (p:=fun _ x=>p x) (l:=l) (i:=0)
 obtain ⟨b,e,h⟩:=qi8 (l:=qab (fun _ x=>p x) l 0) (v:=(i:Int)) (by omega)
 have:b=p x:=by
  rw [qst] at h
  rw [Bool.eq_iff_iff,h]
  constructor
  ·rintro ⟨y,h1,h2⟩
   rw [hx] at h1
   cases h1
   exact h2
  ·exact fun hp=>⟨x,hx,hp⟩
 rw [this] at e
 exact e
theorem qk2 {c:Control}(hc:yq c){i:Nat}{x:Partition}(hx:c.Parts[i]? = some x){B:Nat→Nat→Option (Oc Unit (Oc (List Partition) Bool))}{G:Unit→Option (Oc (List Partition) Bool)}(hG:G ()=some (.nxt c.Parts))
  (hB:∀ j:Nat,B j=fun _=>((qak c (j:Int)).bind fun v342=>(if (!v342.2)=true then (some (.ret (.ret false))) else ((wg v342.1
  (i:Int)).bind fun v361=>(if (!(v361 == (decide (x.Leader=(j:Int)))))=true then (some (.ret (.ret false))) else (some (.nxt ()))))))) : Ev (fun k=>jn (kj (fun j _=>B j k) (c.Brokers.length:Int) ()) (fun _=>G ())) (.nxt c.Parts):=by
 have:=hc.1.1.2
 have:=hc.1.2.1
 refine Ev.jn (qj8 (B:=fun k j _=>B j k) (by omega) (fun j hj=>?_)) (Ev.of hG)
 rw [hB j]
 exact Ev.bind (qqy hc hj) (Ev.iteF rfl (Ev.bind (qjo (p:=fun p:Partition=>decide (p.Leader=(j:Int))) (by omega) hx) (Ev.iteF (by simp) Ev.rfl)))
theorem qlq {c:Control}(hc:yq c){k:Int}(h0:0≤k)(h1:k<c.Brokers.length) : Ev (fun _=>wg (qab (fun _ (b:Broker) => !b.Fenced) c.Brokers 0) k) (!(brk c.Brokers k).Fenced):=by
 have:=hc.1.1.2
 have hg:=qiy h0 h1
 have:=qjo (p:=fun b:Broker => !b.Fenced) (l:=c.Brokers) (i:=k.toNat) (by omega) hg
 rwa [show ((k.toNat:Nat) : Int)=k by omega] at this
theorem FnControls_part {c:Control}(hc:yq c){v14:Control × (List Int) × Bool}(h14:v14.1=c){i:Nat}(hi:i<c.Parts.length) : Ev (fun _=>ua v14 (qab (fun _ (b:Broker) => !b.Fenced) c.Brokers 0,true) (qab (fun _ (p:Partition)=>decide (p.Leader = -1)) c.Parts 0,true) i c.Parts) (.nxt c.Parts):=by
 subst h14
 have nb:=hc.1.1.2
 have np:=hc.1.2.1
 have hx:v14.1.Parts[i]? = some v14.1.Parts[i]:=List.getElem?_eq_getElem hi
 generalize v14.1.Parts[i]=x at hx
 obtain ⟨hm,hld,_⟩:=hc.2.2 x (List.mem_of_getElem? hx)
 have hmr:=(y6.1 hm.i1).2
 have hml:=yo hm.i1
 unfold ua
 refine Ev.bindp (ki hx) (Ev.bind (qjo (p:=fun p:Partition=>decide (p.Leader = -1)) (by omega) hx) (Ev.iteF (by simp) ?_))
 rcases hld with ⟨e,hd⟩ | ⟨hne,hin,hlive⟩
 ·refine Ev.iteF (by simp [e]) (Ev.jn (s:=()) (Ev.iteT (by simp [e]) (Ev.jn (qj8 (B:=fun _ j _=>ub (qab (fun _ (b:Broker) => !b.Fenced) v14.1.Brokers 0,true) x j) (by omega) (fun j hj=>?_)) Ev.rfl)) ?_)
  ·have hk:x.InStep[j]? = some x.InStep[j]:=List.getElem?_eq_getElem hj
   generalize x.InStep[j]=k at hk
   have hkm:=List.mem_of_getElem? hk
   have:=hmr k hkm
   unfold ub
   refine Ev.bindp (ki hk) (Ev.bind (qlq hc this.1 this.2) (Ev.iteF ?_ Ev.rfl))
   rw [qlr hm.i1 hd k hkm]
   rfl
  ·unfold qcu
   exact qk2 hc hx (B:=fun j _=>qa2 v14 v14.1.Parts i x j) (G:=fun _=>qcw v14.1.Parts) rfl (fun j=>rfl)
 ·have hr:=hmr _ hin
  have hhas:Ev (fun _=>wg x.InStep x.Leader) true:=by
   obtain ⟨b,e,h⟩:=qi8 (l:=x.InStep) (v:=x.Leader) (by omega)
   rw [h.2 hin] at e
   exact e
  refine Ev.iteT (by simpa using hr.1) (Ev.bind hhas (Ev.iteF rfl (Ev.bind (qlq hc hr.1 hr.2) (Ev.iteF (by rw [hlive]; rfl) (Ev.jn (s:=()) (Ev.iteF (by simpa using hne) Ev.rfl) ?_)))))
  unfold qcy
  exact qk2 hc hx (B:=fun j _=>qaz v14 v14.1.Parts i x j) (G:=fun _=>qck v14.1.Parts) rfl (fun j=>rfl)
theorem FnControls_pure (v_0:List Int)(w0:wfL 1 ql5 v_0) : ∃ k,qa3 k v_0=some true:=by
 suffices h:Ev (fun k=>qa3 k v_0) true by
  obtain ⟨K,h⟩:=h
  exact ⟨K,h K (Nat.le_refl _)⟩
 have wl:=w0.1
 unfold qa3
 by_cases hbig:(1048576:Int)<(List.length v_0:Int)
 ·exact Ev.iteT (by simpa using hbig) Ev.rfl
 refine Ev.iteF (by simpa using hbig) ?_
 obtain ⟨n,l,hdr,hnn⟩:=DrawPlay_ok (code:=v_0) (fun x hx=>w0.2 x hx)
 refine Ev.bind hdr ?_
 dsimp only
 rcases PlayCommands_all (v_0:=n) (v_1:=l) hnn with ⟨m,rfl,h1,h2,hl,ho,e1,e2⟩ | ⟨e1,e2⟩
 ·obtain ⟨hg,hgn⟩:=qih h1 h2
  have hr:=qvn (l:=l) (d:=[]) hg (by rw [hgn]; exact ho)
  generalize qc6 (wa m) l []=R at *
  obtain ⟨c,d⟩:=R
  dsimp only at e1 e2 hr ⊢
  obtain ⟨hc,_,hd⟩:=hr
  have np:=hc.1.2.1
  refine Ev.bind e2 (Ev.bind e1 (Ev.bind (a:=false) (Ev.iteF (by simp) (Ev.bind (qh1 (by simp at hd ⊢; omega)) Ev.rfl)) (Ev.bind (a:=false) (Ev.iteF rfl (Ev.bind (qfu hc.nn) Ev.rfl)) (Ev.iteF rfl (Ev.iteF rfl (Ev.bind (q6r hc) (Ev.bind (qs4 hc) (Ev.bind (q5q hc) (Ev.iteF rfl ?_)))))))))
  refine Ev.jn (s:=c.Parts) ?_ Ev.rfl
  simp only [qez]
  refine ud (by simp; omega) (fun i r s=>i+r.length=c.Parts.length∧s=c.Parts) (by simp) (fun i x r s ⟨hr,hs⟩ => .inl ?_) (fun i s ⟨_,hs⟩=>by rw [hs])
  subst hs
  exact ⟨c.Parts,FnControls_part hc rfl (by simp only [List.length_cons] at hr; omega),by simp only [List.length_cons] at hr; omega,rfl⟩
 ·exact Ev.bind e2 (Ev.bind e1 (Ev.bind (a:=false) (Ev.iteF (by simp) (Ev.bind (qh1 (by decide)) Ev.rfl)) (Ev.bind (a:=false) (Ev.iteF rfl (Ev.bind (qfu (by decide)) Ev.rfl)) (Ev.iteF rfl (Ev.iteT rfl Ev.rfl)))))
end Go.Proofs.Ytjloihcijdcpeaa.X
