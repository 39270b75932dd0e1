/- FnGroups: true at every draw. -/
import Derived.Test.YtefgfcalgjmhjaaXGL11f
import Derived.Test.YtefgfcalgjmhjaaXGL11u
import Derived.Test.YtefgfcalgjmhjaaXGL11q
set_option linter.unusedVariables false
set_option linter.unusedSimpArgs false
namespace Go.Proofs.Ytefgfcalgjmhjaa.X
open Go

theorem qe5 {l:List Row}(hl:l.length≤4611686018427387904) : Ev (fun _=>u2 l l) true:=by
 unfold u2
 refine Ev.iteF (by simp) (Ev.jn (qh1 hl (fun i x hx=>?_)) Ev.rfl)
 unfold qb0
 rw [kd hx]
 exact Ev.iteF (by simp) Ev.rfl
theorem qa1 {g:Group}(h:g.nn≤1048576) : Ev (fun _=>xh g g) true:=by
 obtain ⟨n1,n2,n3⟩:=qfi h
 unfold xh
 refine Ev.bind (a:=false) (Ev.iteF (by simp) (Ev.bind (qls (by omega)) Ev.rfl)) (Ev.iteF (by simp) (Ev.jn (qph (B:=fun _ i _=>um g g i) (by omega) (fun i hi=>?_)) Ev.rfl))
 have hx:g.Replicas[i]? = some g.Replicas[i]:=List.getElem?_eq_getElem hi
 have:=n3 i _ hx
 unfold um
 refine Ev.bindp (kd hx) (Ev.bindp (kd hx) (Ev.bind (a:=false) (Ev.iteF (by simp) (Ev.bind (qe5 (by omega)) Ev.rfl)) (Ev.iteF rfl Ev.rfl)))

def com (g:Group) : List Row:=(lead g).take g.High.toNat
theorem qfo {g:Group}(hg:yb g) : g.High≤(lead g).length:=by
 have hf:=hg.fit
 have hlr:=hf.rng hf.ld
 obtain ⟨l1,l2,l3⟩:=j7 hlr.1 hlr.2
 have:=(hg.2.2 _ _ l2).2.2.2.1 (by rw [Int.toNat_of_nonneg hlr.1]; exact hf.ld)
 have h2:=qcn (a:=(jj g g.Leader).Log) (b:=lead g)
 omega
theorem qk2 {g:Group}(hg:yb g) : ((com g).length:Int)=g.High:=by
 have h1:=qfo hg
 have h2:=hg.fit.high
 unfold com
 rw [List.length_take]
 omega
theorem qij {g:Group}(hg:yb g) : Ev (fun k=>ws k g) true:=by
 obtain ⟨b,e,hb⟩:=qc0 hg.nn
 rw [hb.2 hg] at e
 exact e
theorem qnd {g:Group}(hg:yb g) : Ev (fun k=>yg k g) (com g,true):=by
 have hf:=hg.fit
 have hlr:=hf.rng hf.ld
 obtain ⟨l1,l2,l3⟩:=j7 hlr.1 hlr.2
 have h1:=qfo hg
 have h2:=hf.high
 have h3:=hf.lead
 unfold yg
 refine Ev.bind (qij hg) (Ev.iteF rfl (Ev.bindp l1 ?_))
 rw [←l3]
 have e:sl (uh g g.Leader) 0 g.High=some (com g):=by
  have:=qbn (l:=lead g) (i:=g.High.toNat) (by omega)
  rw [Int.toNat_of_nonneg h2] at this
  exact this
 have hc:=qk2 hg
 exact Ev.bindp e (Ev.bindp (qan (by omega)) Ev.rfl)
theorem q5b {g:Group}(hg:yb g){i:Int}(h0:0≤i)(h1:i<g.Replicas.length) : Ev (fun k=>qay k g i) ((lead g).length - (pre (uh g i) (lead g) : Int),true):=by
 have hf:=hg.fit
 have hlr:=hf.rng hf.ld
 obtain ⟨l1,l2,l3⟩:=j7 hlr.1 hlr.2
 obtain ⟨k1,k2,k3⟩:=j7 h0 h1
 have h3:=hf.lead
 have h4:=hf.logl h0 h1
 have h5:=hf.n2
 have hp:=qcn (a:=uh g i) (b:=lead g)
 unfold qay
 refine Ev.bind (qij hg) (Ev.iteF ?_ (Ev.bindp l1 ?_))
 ·rw [ko (n:=(List.length g.Replicas:Int) - 1) (by omega) (by omega)]
  simp [z7]
  omega
 rw [k3] at h4 hp ⊢
 rw [uy,l3] at h3 hp ⊢
 refine Ev.bind (qgd (by omega) (by omega) k1 rfl l1) ?_
 rw [ko (by omega) (by omega)]
 exact Ev.rfl
theorem qu0 {a b:List Row}{z:Int}(h0:0≤z)(h:z≤(pre a b:Int)) : a.take z.toNat=b.take z.toNat:=(qki.1 ((qkq h0).1 h)).2.2
theorem qmu {g g':Group}{x:IsrStep}(hg:yb g)(h:kt g x=some g') : com g <+: com g':=by
 have hf:=hg.fit
 have hgg:=hg
 obtain ⟨⟨⟨r1,r2⟩,⟨e1,e2⟩⟩,⟨hm,hL,hH⟩,hr⟩:=hg
 have hlr:=hf.rng hL
 obtain ⟨l1,l2,l3⟩:=j7 hlr.1 hlr.2
 have hhl:=qfo hgg
 obtain ⟨Kd,K,N⟩:=x
 by_cases d1:Kd=1
 ·subst d1
  rw [gs1 hf] at h
  split at h
  case isFalse=>cases h
  rename_i c
  cases h
  have hk:=hf.rng c.1
  obtain ⟨k1,k2,k3⟩:=j7 hk.1 hk.2
  have hrk:=hr _ _ k2
  have hlead:lead ⟨g.Epoch+1,K,g.InStep,g.High,yc g K (uh g K) (g.Epoch+1)⟩=uh g K:=by
   unfold lead yc
   dsimp only
   rw [List.getElem?_set_self (by omega)]
  unfold com
  rw [hlead,k3]
  dsimp only
  rw [qu0 hH (hrk.2.2.2.1 (by rw [Int.toNat_of_nonneg hk.1]; exact c.1))]
  exact List.prefix_refl _
 by_cases d2:Kd=2
 ·subst d2
  rw [gs2 hf] at h
  split at h
  case isFalse=>cases h
  rename_i c
  cases h
  have hlead:lead ⟨g.Epoch,g.Leader,g.InStep,g.High,yc g g.Leader (lead g++[⟨g.Epoch,N⟩]) g.Epoch⟩=lead g++[⟨g.Epoch,N⟩]:=by
   unfold lead yc
   dsimp only
   rw [List.getElem?_set_self (by omega)]
  unfold com
  rw [hlead]
  dsimp only
  rw [List.take_append_of_le_length (by omega)]
  exact List.prefix_refl _
 by_cases d3:Kd=3
 ·subst d3
  rw [gs3] at h
  split at h
  case isFalse=>cases h
  rename_i c
  cases h
  have hlead:lead ⟨g.Epoch,g.Leader,g.InStep,g.High,yc g K ((lead g).take (pre (uh g K) (lead g)+N.toNat)) g.Epoch⟩=lead g:=by
   unfold lead yc
   dsimp only
   rw [List.getElem?_set_ne (by omega)]
  unfold com
  rw [hlead]
  exact List.prefix_refl _
 by_cases d4:Kd=4
 ·subst d4
  rw [gs4 hf] at h
  split at h
  case isFalse=>cases h
  cases h
  exact List.prefix_refl _
 by_cases d5:Kd=5
 ·subst d5
  rw [gs5] at h
  split at h
  case isFalse=>cases h
  cases h
  exact List.prefix_refl _
 by_cases d6:Kd=6
 ·subst d6
  rw [gs6 hf] at h
  split at h
  case isFalse=>cases h
  rename_i c
  cases h
  show (lead g).take g.High.toNat <+: (lead g).take (qa5 g 30).toNat
  exact List.take_prefix_take_left (by omega)
 ·rw [gs0 (by simpa using d1) (by simpa using d2) (by simpa using d3) (by simpa using d4) (by simpa using d5) (by simpa using d6)] at h
  cases h
theorem q8c:∀ {l:List IsrStep} {g:Group} {d:List Bool},yb g→com g <+: com (qcb g l d).1:=by
 intro l
 induction l with
 | nil=>intro g d hg; exact List.prefix_refl _
 | cons x l ih =>
  intro g d hg
  refine List.IsPrefix.trans ?_ (ih (qh4 (x:=x) hg))
  cases h:kt g x with
  | none=>exact List.prefix_refl _
  | some g'=>exact qmu hg h
def qdw (g:Group) : Group:=⟨g.Epoch,g.Leader,yf g.Replicas.length,(lead g).length,List.replicate g.Replicas.length ⟨lead g,g.Epoch,(lead g).length⟩⟩
theorem q6x {g:Group}(hg:yb g) : Ev (fun k=>wz k g) (qdw g,(lead g).length - g.High,true):=by
 have hf:=hg.fit
 have hlr:=hf.rng hf.ld
 obtain ⟨l1,l2,l3⟩:=j7 hlr.1 hlr.2
 have h3:=hf.lead
 have h4:=qfo hg
 have h5:=hf.high
 have hI:=qiv (v_0:=g) (L:=lead g) (X:=⟨lead g,g.Epoch,(lead g).length⟩) hf.n1 hf.n2 hf.mem (fun j z hz=>(hf.log j z hz).1) l2 (by rw [←l3]; rfl) hlr.1 hlr.2 h3 rfl
 unfold wz
 refine Ev.bind (qij hg) (Ev.iteF rfl (Ev.bind (qjq hg.nn) (Ev.jn hI ?_)))
 unfold qar
 have hget:zy (List.replicate g.Replicas.length (⟨lead g,g.Epoch,(lead g).length⟩ : Replica)) g.Leader=some ⟨lead g,g.Epoch,(lead g).length⟩:=by
  unfold zy
  rw [if_pos hlr.1,List.getElem?_replicate,if_pos (by omega)]
 refine Ev.bindp hget ?_
 dsimp only
 rw [ko (by omega) (by omega)]
 exact Ev.rfl
theorem qie {g:Group}(hg:yb g) : lead (qdw g)=lead g:=by
 have hf:=hg.fit
 have hlr:=hf.rng hf.ld
 show (match (List.replicate g.Replicas.length (⟨lead g,g.Epoch,(lead g).length⟩ : Replica))[g.Leader.toNat]? with | some x=>x.Log | none=>[])=lead g
 rw [List.getElem?_replicate,if_pos (by omega)]
theorem q6d {g:Group}(hg:yb g) : com (qdw g)=lead g:=by
 unfold com
 rw [qie hg]
 show (lead g).take (Int.toNat ((lead g).length:Int))=lead g
 rw [Int.toNat_natCast,List.take_length]
theorem q48 {g:Group}(hg:yb g) : yb (qdw g):=by
 have hf:=hg.fit
 have hlr:=hf.rng hf.ld
 obtain ⟨l1,l2,l3⟩:=j7 hlr.1 hlr.2
 have hsl:=qie hg
 have hmem:∀ z,z∈yf g.Replicas.length↔0≤z∧z<g.Replicas.length:=fun z=>by
  constructor
  ·exact qf8
  ·intro h
   simp only [yf,List.mem_map,List.mem_range]
   exact ⟨z.toNat,by omega,by omega⟩
 refine ⟨⟨⟨by simpa [qdw] using hf.n1,by simpa [qdw] using hf.n2⟩,hf.e1,hf.e2⟩,⟨qf4.2 ⟨qll,fun z hz=>by simpa [qdw] using (hmem z).1 hz⟩,(hmem _).2 hlr,by simp [qdw]⟩,fun i x hx=>?_⟩
 have hx:(List.replicate g.Replicas.length (⟨lead g,g.Epoch,(lead g).length⟩ : Replica))[i]? = some x:=hx
 rw [List.getElem?_replicate] at hx
 split at hx
 case isFalse=>cases hx
 cases hx
 unfold qfa
 rw [hsl]
 dsimp only
 rw [qhc]
 exact ⟨by rw [uy,l3]; exact (hg.2.2 _ _ l2).1,⟨hf.e1,Int.le_refl _⟩,by omega,fun _=>Int.le_refl _,fun _=>Int.le_refl _⟩
theorem q5g {p c:List Row}(h:p <+: c) : sl c 0 (p.length:Int)=some p:=by
 rw [qbn h.length_le,← List.prefix_iff_eq_take.1 h]
end Go.Proofs.Ytefgfcalgjmhjaa.X
