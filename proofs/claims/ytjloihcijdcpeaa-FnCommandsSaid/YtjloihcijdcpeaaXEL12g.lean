/- FnControls: true at every draw. -/
import Derived.Test.YtjloihcijdcpeaaXEL12q
import Derived.Test.YtjloihcijdcpeaaXEW
open Bool renaming or_eq_true→a0q
open Go.Proofs.Ytjloihcijdcpeaa.X.Ev renaming bindp→n8,bind→g9,iteF→g8,iteT→m9,rfl→l8
open List renaming ext_getElem?→a1h,getElem?_eq_getElem→f7,getElem?_eq_none→s8,getElem?_eq_some_iff→d9
set_option linter.unusedVariables false
set_option linter.unusedSimpArgs false
namespace Go.Proofs.Ytjloihcijdcpeaa.X
open Go

theorem qkx {a b:Control}(ha:a.nn≤1048576) : Is (fun _=>yz a b) (a=b):=by
 obtain ⟨n1,n2,n3⟩:=qdy ha
 unfold yz
 by_cases h0:a.Next=b.Next∧a.Brokers.length=b.Brokers.length∧a.Parts.length=b.Parts.length
 ·obtain ⟨h1,h2,h3⟩:=h0
  rw [if_neg (by simp [h1,h2,h3])]
  refine Is.allI (Q:=fun i=>a.Brokers[i]? = b.Brokers[i]?) (by omega) (fun i hi=>?_) (fun hq=>?_) (fun hn h=>hn (fun i _=>by rw [h]))
  ·have hx:a.Brokers[i]? = some a.Brokers[i]:=f7 hi
   have hy:b.Brokers[i]? = some (b.Brokers[i]'(by omega)):=f7 _
   generalize a.Brokers[i]=x at hx
   generalize b.Brokers[i]'_=y at hy
   unfold qaw
   rw [kz hx,kz hy]
   simp only [Option.bind_some]
   refine qee ?_
   rw [hx,hy]
   obtain ⟨x1,x2,x3⟩:=x
   obtain ⟨y1,y2,y3⟩:=y
   simp [Broker.mk.injEq]
   by_cases g1:x1=y1 <;> by_cases g2:x2=y2 <;> simp [g1,g2]
  ·unfold qco
   refine Is.allI (Q:=fun i=>a.Parts[i]? = b.Parts[i]?) (by omega) (fun i hi=>?_) (fun hq2=>Is.T ?_) (fun hn h=>hn (fun i _=>by rw [h]))
   ·have hx:a.Parts[i]? = some a.Parts[i]:=f7 hi
    have hy:b.Parts[i]? = some (b.Parts[i]'(by omega)):=f7 _
    obtain ⟨m1,m2⟩:=n3 i _ hx
    generalize a.Parts[i]=x at hx m1 m2
    generalize b.Parts[i]'_=y at hy
    obtain ⟨b1,e1,f1⟩:=qg3 (a:=x.Homes) (b:=y.Homes) (by omega)
    obtain ⟨b2,e2,f2⟩:=qg3 (a:=x.InStep) (b:=y.InStep) (by omega)
    unfold qau
    have g1:∃ v,Ev (fun _:Nat=>(if (((decide (x.Leader≠y.Leader))||(decide (x.Epoch≠y.Epoch)))||(decide (x.Stamp≠y.Stamp)))=true then
      (some true) else ((kh x.Homes y.Homes).bind fun v144=>(some (!v144))))) v∧(v=true↔¬ (x.Leader=y.Leader∧x.Epoch=y.Epoch∧x.Stamp=y.Stamp∧x.Homes=y.Homes)):=by
     by_cases hh:x.Leader=y.Leader∧x.Epoch=y.Epoch∧x.Stamp=y.Stamp
     ·exact ⟨!b1,g8 (by simp [hh]) (g9 e1 l8),by simp only [hh,true_and,← f1]; cases b1 <;> simp⟩
     ·refine ⟨true,m9 ?_ l8,by simp only [true_iff]; exact fun h=>hh ⟨h.1,h.2.1,h.2.2.1⟩⟩
      simp only [a0q,decide_eq_true_eq]
      by_cases q1:x.Leader=y.Leader
      ·by_cases q2:x.Epoch=y.Epoch
       ·exact .inr fun q3=>hh ⟨q1,q2,q3⟩
       ·exact .inl (.inr q2)
      ·exact .inl (.inl q1)
    obtain ⟨v,ev,fv⟩:=g1
    have g2:∃ w,Ev (fun _:Nat=>(if v=true then (some true) else ((kh x.InStep y.InStep).bind fun v165=>(some (!v165))))) w∧(w=true↔¬ (x=y)):=by
     cases v with
     | true=>exact ⟨true,m9 rfl l8,by simp only [true_iff]; exact fun h=>(fv.1 rfl) (by rw [h]; exact ⟨rfl,rfl,rfl,rfl⟩)⟩
     | false =>
      have hh:x.Leader=y.Leader∧x.Epoch=y.Epoch∧x.Stamp=y.Stamp∧x.Homes=y.Homes:=Classical.not_not.1 (fun h=>by have:=fv.2 h; cases this)
      refine ⟨!b2,g8 rfl (g9 e2 l8),?_⟩
      obtain ⟨x1,x2,x3,x4,x5⟩:=x
      obtain ⟨y1,y2,y3,y4,y5⟩:=y
      simp only at hh f2
      obtain ⟨rfl,rfl,rfl,rfl⟩:=hh
      simp only [Partition.mk.injEq,true_and,and_true,← f2]
      cases b2 <;> simp
    obtain ⟨w,ew,fw⟩:=g2
    refine ⟨w,n8 (kz hx) (n8 (kz hy) (g9 ev (g9 ew ?_))),by rw [fw,hx,hy]; simp⟩
    cases w <;> exact l8
   ·have e1:a.Brokers=b.Brokers:=a1h fun i=>by
     by_cases hi:i<a.Brokers.length
     ·exact hq i hi
     ·rw [s8 (by omega),s8 (by omega)]
    have e2:a.Parts=b.Parts:=a1h fun i=>by
     by_cases hi:i<a.Parts.length
     ·exact hq2 i hi
     ·rw [s8 (by omega),s8 (by omega)]
    obtain ⟨a1,a2,a3⟩:=a
    obtain ⟨b1,b2,b3⟩:=b
    simp only at h1 e1 e2
    rw [h1,e1,e2]
 ·refine ⟨false,m9 ?_ l8,by simp only [Bool.false_eq_true,false_iff]; exact fun h=>h0 (by rw [h]; exact ⟨rfl,rfl,rfl⟩)⟩
  simp only [a0q,decide_eq_true_eq]
  by_cases q1:a.Next=b.Next
  ·by_cases q2:a.Brokers.length=b.Brokers.length
   ·exact .inr fun q3=>h0 ⟨q1,q2,by omega⟩
   ·exact .inl (.inr fun h=>q2 (by omega))
  ·exact .inl (.inl q1)
theorem qb8 {a:Control}(ha:a.nn≤1048576) : Ev (fun _=>yz a a) true:=by
 obtain ⟨b,e,h⟩:=qkx (b:=a) ha
 rw [h.2 rfl] at e
 exact e
theorem q9t {c:Control}(hc:ya c) : Ev (fun _=>xa c) (qdx (fun _ (b:Broker) => !b.Fenced) c.Brokers 0,true):=by
 have:=hc.1.1.2
 unfold xa
 refine g9 (qjn hc) (g8 rfl (Ev.jn (qjh (p:=fun _ (b:Broker) => !b.Fenced) (by omega) (fun i x s hx hs=>?_)) l8))
 have hi:=(d9.1 hx).1
 unfold qbf
 cases hf:x.Fenced with
 | true=>exact g8 rfl l8
 | false=>exact m9 rfl (n8 (qjm (by omega)) l8)
theorem qos {c:Control}{k:Int}(hc:ya c) : Ev (fun _=>xg c k) (qdx (fun _ (p:Partition)=>decide (p.Leader=k)) c.Parts 0):=by
 have:=hc.1.2.1
 unfold xg
 refine Ev.jn (qjh (p:=fun _ (p:Partition)=>decide (p.Leader=k)) (by omega) (fun i x s hx hs=>?_)) l8
 have hi:=(d9.1 hx).1
 unfold qaj
 by_cases hf:x.Leader=k
 ·rw [if_pos (by simpa using hf),if_pos (by simpa using hf)]
  exact n8 (qjm (by omega)) l8
 ·rw [if_neg (by simpa using hf),if_neg (by simpa using hf)]
  exact l8
theorem qt2 {c:Control}(hc:ya c) : Ev (fun _=>wv c) (qdx (fun _ (p:Partition)=>decide (p.Leader = -1)) c.Parts 0,true):=by
 unfold wv
 exact g9 (qjn hc) (g8 rfl (g9 (qos hc) l8))
theorem qqr {c:Control}{i:Nat}(hc:ya c)(hi:i<c.Brokers.length) : Ev (fun _=>qbb c (i:Int)) (qdx (fun _ (p:Partition)=>decide (p.Leader=(i:Int))) c.Parts 0,true):=by
 have:=hc.1.1.2
 unfold qbb
 refine g9 (qjn hc) (g8 ?_ (g9 (qos hc) l8))
 rw [kr (n:=(List.length c.Brokers:Int) - 1) (by omega) (by omega)]
 simp [z0]
 omega
theorem q8m {c:Control}(hc:ya c) : Ev (fun _=>wd c) true:=by
 unfold wd
 exact g9 (qjn hc) l8
end Go.Proofs.Ytjloihcijdcpeaa.X
