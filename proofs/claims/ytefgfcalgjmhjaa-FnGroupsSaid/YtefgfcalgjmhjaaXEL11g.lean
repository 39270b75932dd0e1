/- FnGroups: true at every draw. -/
import Derived.Test.YtefgfcalgjmhjaaXEL11f
import Derived.Test.YtefgfcalgjmhjaaXEL11u
import Derived.Test.YtefgfcalgjmhjaaXEL11q
set_option linter.unusedVariables false
set_option linter.unusedSimpArgs false
namespace Go.Proofs.Ytefgfcalgjmhjaa.X
open Go

theorem qa5 {l:List Row}(hl:l.length≤4611686018427387904) : Ev (fun _=>wd l l) true:=by
 unfold wd
 refine Ev.iteF (by simp) (Ev.jn (qfl hl (fun i x hx=>?_)) Ev.rfl)
 unfold qaw
 rw [ju hx]
 exact Ev.iteF (by simp) Ev.rfl
theorem qfi {g:Group}(h:g.nn≤1048576) : Ev (fun _=>xm g g) true:=by
 obtain ⟨n1,n2,n3⟩:=qhf h
 unfold xm
 refine Ev.bind (a:=false) (Ev.iteF (by simp) (Ev.bind (qkl (by omega)) Ev.rfl)) (Ev.iteF (by simp) (Ev.jn (qi0 (B:=fun _ i _=>xg g g i) (by omega) (fun i hi=>?_)) Ev.rfl))
 have hx:g.Replicas[i]? = some g.Replicas[i]:=List.getElem?_eq_getElem hi
 have:=n3 i _ hx
 unfold xg
 refine Ev.bindp (ju hx) (Ev.bindp (ju hx) (Ev.bind (a:=false) (Ev.iteF (by simp) (Ev.bind (qa5 (by omega)) Ev.rfl)) (Ev.iteF rfl Ev.rfl)))

def com (g:Group) : List Row:=(lead g).take g.High.toNat
theorem qeh {g:Group}(hg:ya g) : g.High≤(lead g).length:=by
 have hf:=hg.fit
 have hlr:=hf.rng hf.ld
 obtain ⟨l1,l2,l3⟩:=js hlr.1 hlr.2
 have:=(hg.2.2 _ _ l2).2.2.2.1 (by rw [Int.toNat_of_nonneg hlr.1]; exact hf.ld)
 have h2:=qb5 (a:=(zz g g.Leader).Log) (b:=lead g)
 omega
theorem qjh {g:Group}(hg:ya g) : ((com g).length:Int)=g.High:=by
 have h1:=qeh hg
 have h2:=hg.fit.high
 unfold com
 rw [List.length_take]
 omega
theorem qf1 {g:Group}(hg:ya g) : Ev (fun k=>ws k g) true:=by
 obtain ⟨b,e,hb⟩:=qn7 hg.nn
 rw [hb.2 hg] at e
 exact e
theorem qkt {g:Group}(hg:ya g) : Ev (fun k=>yw k g) (com g,true):=by
 have hf:=hg.fit
 have hlr:=hf.rng hf.ld
 obtain ⟨l1,l2,l3⟩:=js hlr.1 hlr.2
 have h1:=qeh hg
 have h2:=hf.high
 have h3:=hf.lead
 unfold yw
 refine Ev.bind (qf1 hg) (Ev.iteF rfl (Ev.bindp l1 ?_))
 rw [←l3]
 have e:sl (xd g g.Leader) 0 g.High=some (com g):=by
  have:=qa9 (l:=lead g) (i:=g.High.toNat) (by omega)
  rw [Int.toNat_of_nonneg h2] at this
  exact this
 have hc:=qjh hg
 exact Ev.bindp e (Ev.bindp (qaf (by omega)) Ev.rfl)
theorem q11 {g:Group}(hg:ya g){i:Int}(h0:0≤i)(h1:i<g.Replicas.length) : Ev (fun k=>qc0 k g i) ((lead g).length - (pre (xd g i) (lead g) : Int),true):=by
 have hf:=hg.fit
 have hlr:=hf.rng hf.ld
 obtain ⟨l1,l2,l3⟩:=js hlr.1 hlr.2
 obtain ⟨k1,k2,k3⟩:=js h0 h1
 have h3:=hf.lead
 have h4:=hf.logl h0 h1
 have h5:=hf.n2
 have hp:=qb5 (a:=xd g i) (b:=lead g)
 unfold qc0
 refine Ev.bind (qf1 hg) (Ev.iteF ?_ (Ev.bindp l1 ?_))
 ·rw [ka (n:=(List.length g.Replicas:Int) - 1) (by omega) (by omega)]
  simp [zp]
  omega
 rw [k3] at h4 hp ⊢
 rw [uk,l3] at h3 hp ⊢
 refine Ev.bind (qfk (by omega) (by omega) k1 rfl l1) ?_
 rw [ka (by omega) (by omega)]
 exact Ev.rfl
theorem qsv {a b:List Row}{z:Int}(h0:0≤z)(h:z≤(pre a b:Int)) : a.take z.toNat=b.take z.toNat:=(qiq.1 ((qjg h0).1 h)).2.2
theorem qtx {g g':Group}{x:IsrStep}(hg:ya g)(h:kg g x=some g') : com g <+: com g':=by
 have hf:=hg.fit
 have hgg:=hg
 obtain ⟨⟨⟨r1,r2⟩,⟨e1,e2⟩⟩,⟨hm,hL,hH⟩,hr⟩:=hg
 have hlr:=hf.rng hL
 obtain ⟨l1,l2,l3⟩:=js hlr.1 hlr.2
 have hhl:=qeh hgg
 obtain ⟨Kd,K,N⟩:=x
 by_cases d1:Kd=1
 ·subst d1
  rw [gs1 hf] at h
  split at h
  case isFalse=>cases h
  rename_i c
  cases h
  have hk:=hf.rng c.1
  obtain ⟨k1,k2,k3⟩:=js hk.1 hk.2
  have hrk:=hr _ _ k2
  have hlead:lead ⟨g.Epoch+1,K,g.InStep,g.High,kq g K (xd g K) (g.Epoch+1)⟩=xd g K:=by
   unfold lead kq
   dsimp only
   rw [List.getElem?_set_self (by omega)]
  unfold com
  rw [hlead,k3]
  dsimp only
  rw [qsv hH (hrk.2.2.2.1 (by rw [Int.toNat_of_nonneg hk.1]; exact c.1))]
  exact List.prefix_refl _
 by_cases d2:Kd=2
 ·subst d2
  rw [gs2 hf] at h
  split at h
  case isFalse=>cases h
  rename_i c
  cases h
  have hlead:lead ⟨g.Epoch,g.Leader,g.InStep,g.High,kq g g.Leader (lead g++[⟨g.Epoch,N⟩]) g.Epoch⟩=lead g++[⟨g.Epoch,N⟩]:=by
   unfold lead kq
   dsimp only
   rw [List.getElem?_set_self (by omega)]
  unfold com
  rw [hlead]
  dsimp only
  rw [List.take_append_of_le_length (by omega)]
  exact List.prefix_refl _
 by_cases d3:Kd=3
 ·subst d3
  rw [gs3] at h
  split at h
  case isFalse=>cases h
  rename_i c
  cases h
  have hlead:lead ⟨g.Epoch,g.Leader,g.InStep,g.High,kq g K ((lead g).take (pre (xd g K) (lead g)+N.toNat)) g.Epoch⟩=lead g:=by
   unfold lead kq
   dsimp only
   rw [List.getElem?_set_ne (by omega)]
  unfold com
  rw [hlead]
  exact List.prefix_refl _
 by_cases d4:Kd=4
 ·subst d4
  rw [gs4 hf] at h
  split at h
  case isFalse=>cases h
  cases h
  exact List.prefix_refl _
 by_cases d5:Kd=5
 ·subst d5
  rw [gs5] at h
  split at h
  case isFalse=>cases h
  cases h
  exact List.prefix_refl _
 by_cases d6:Kd=6
 ·subst d6
  rw [gs6 hf] at h
  split at h
  case isFalse=>cases h
  rename_i c
  cases h
  show (lead g).take g.High.toNat <+: (lead g).take (u2 g 30).toNat
  exact List.take_prefix_take_left (by omega)
 ·rw [gs0 (by simpa using d1) (by simpa using d2) (by simpa using d3) (by simpa using d4) (by simpa using d5) (by simpa using d6)] at h
  cases h
theorem qtr:∀ {l:List IsrStep} {g:Group} {d:List Bool},ya g→com g <+: com (yl g l d).1:=by
 intro l
 induction l with
 | nil=>intro g d hg; exact List.prefix_refl _
 | cons x l ih =>
  intro g d hg
  refine List.IsPrefix.trans ?_ (ih (qe7 (x:=x) hg))
  cases h:kg g x with
  | none=>exact List.prefix_refl _
  | some g'=>exact qtx hg h
def xn (g:Group) : Group:=⟨g.Epoch,g.Leader,w8 g.Replicas.length,(lead g).length,List.replicate g.Replicas.length ⟨lead g,g.Epoch,(lead g).length⟩⟩
theorem qny {g:Group}(hg:ya g) : Ev (fun k=>uq k g) (xn g,(lead g).length - g.High,true):=by
 have hf:=hg.fit
 have hlr:=hf.rng hf.ld
 obtain ⟨l1,l2,l3⟩:=js hlr.1 hlr.2
 have h3:=hf.lead
 have h4:=qeh hg
 have h5:=hf.high
 have hI:=qmo (v_0:=g) (L:=lead g) (X:=⟨lead g,g.Epoch,(lead g).length⟩) hf.n1 hf.n2 hf.mem (fun j z hz=>(hf.log j z hz).1) l2 (by rw [←l3]; rfl) hlr.1 hlr.2 h3 rfl
 unfold uq
 refine Ev.bind (qf1 hg) (Ev.iteF rfl (Ev.bind (qsq hg.nn) (Ev.jn hI ?_)))
 unfold qbe
 have hget:zy (List.replicate g.Replicas.length (⟨lead g,g.Epoch,(lead g).length⟩ : Replica)) g.Leader=some ⟨lead g,g.Epoch,(lead g).length⟩:=by
  unfold zy
  rw [if_pos hlr.1,List.getElem?_replicate,if_pos (by omega)]
 refine Ev.bindp hget ?_
 dsimp only
 rw [ka (by omega) (by omega)]
 exact Ev.rfl
theorem qez {g:Group}(hg:ya g) : lead (xn g)=lead g:=by
 have hf:=hg.fit
 have hlr:=hf.rng hf.ld
 show (match (List.replicate g.Replicas.length (⟨lead g,g.Epoch,(lead g).length⟩ : Replica))[g.Leader.toNat]? with | some x=>x.Log | none=>[])=lead g
 rw [List.getElem?_replicate,if_pos (by omega)]
theorem ql7 {g:Group}(hg:ya g) : com (xn g)=lead g:=by
 unfold com
 rw [qez hg]
 show (lead g).take (Int.toNat ((lead g).length:Int))=lead g
 rw [Int.toNat_natCast,List.take_length]
theorem qlm {g:Group}(hg:ya g) : ya (xn g):=by
 have hf:=hg.fit
 have hlr:=hf.rng hf.ld
 obtain ⟨l1,l2,l3⟩:=js hlr.1 hlr.2
 have hsl:=qez hg
 have hmem:∀ z,z∈w8 g.Replicas.length↔0≤z∧z<g.Replicas.length:=fun z=>by
  constructor
  ·exact qhy
  ·intro h
   simp only [w8,List.mem_map,List.mem_range]
   exact ⟨z.toNat,by omega,by omega⟩
 refine ⟨⟨⟨by simpa [xn] using hf.n1,by simpa [xn] using hf.n2⟩,hf.e1,hf.e2⟩,⟨qel.2 ⟨qj4,fun z hz=>by simpa [xn] using (hmem z).1 hz⟩,(hmem _).2 hlr,by simp [xn]⟩,fun i x hx=>?_⟩
 have hx:(List.replicate g.Replicas.length (⟨lead g,g.Epoch,(lead g).length⟩ : Replica))[i]? = some x:=hx
 rw [List.getElem?_replicate] at hx
 split at hx
 case isFalse=>cases hx
 cases hx
 unfold qgj
 rw [hsl]
 dsimp only
 rw [qf8]
 exact ⟨by rw [uk,l3]; exact (hg.2.2 _ _ l2).1,⟨hf.e1,Int.le_refl _⟩,by omega,fun _=>Int.le_refl _,fun _=>Int.le_refl _⟩
theorem qq5 {p c:List Row}(h:p <+: c) : sl c 0 (p.length:Int)=some p:=by
 rw [qa9 h.length_le,← List.prefix_iff_eq_take.1 h]
theorem FnGroups_pure (v_0:List Int)(w0:wfL 1 qjn v_0)(v_1:List Int)(w1:wfL 1 qjn v_1) : ∃ k,qa3 k v_0 v_1=some true:=by
 suffices h:Ev (fun k=>qa3 k v_0 v_1) true by
  obtain ⟨K,h⟩:=h
  exact ⟨K,h K (Nat.le_refl _)⟩
 have wl0:=w0.1
 have wl1:=w1.1
 unfold qa3
 by_cases hbig:(1048576:Int)<IntKind.wrap .i64 ((List.length v_0:Int)+(List.length v_1:Int))
 ·exact Ev.iteT (by simpa using hbig) Ev.rfl
 refine Ev.iteF (by simpa using hbig) ?_
 obtain ⟨n,l,hdr,n2,n4,hl⟩:=DrawPlay_ok (code:=v_0) (fun x hx=>w0.2 x hx)
 refine Ev.bind hdr ?_
 have hzero:Ev (fun _=>xm ⟨0,0,[],0,[]⟩ ⟨0,0,[],0,[]⟩) true:=qfi (by decide)
 by_cases hl100:l.length≤100
 case neg =>
  rcases PlayGroup_all (n:Int) l with ⟨_,_,_,_,h,_⟩ | ⟨e1,e2⟩
  ·exact absurd h hl100
  ·refine Ev.bind e2 (Ev.bind e1 (Ev.bind (a:=false) (Ev.iteF rfl (Ev.bind (qft (by simp)) Ev.rfl)) (Ev.bind (a:=false) (Ev.iteF rfl (Ev.bind hzero Ev.rfl)) (Ev.iteF rfl (Ev.iteT rfl Ev.rfl)))))
 have hnew:=qfg n2 n4
 have e2:=qg1 (n:=n) n2 n4 hl100
 have e1:Ev (fun k=>yh k (n:Int) l) ((yl (k7 n) l []).1,(yl (k7 n) l []).2,true):=by
  rcases qks (n:=(n:Int)) with ⟨m,hm,_,e⟩ | ⟨hn,e⟩
  ·obtain rfl:n=m:=by omega
   exact qkb n2 n4 e hl100
  ·exact absurd ⟨by omega,by omega⟩ hn
 have hgd:=qfj (l:=l) (d:=[]) hnew
 refine Ev.bind e2 (Ev.bind e1 ?_)
 obtain ⟨m,em,q0,q1⟩:=qmt (l:=v_1) (by omega) (fun x hx=>w1.2 x hx)
 have ew:IntKind.wrap .i64 ((List.length l:Int)+1)=(List.length l:Int)+1:=ka (by omega) (by omega)
 have hk0:0≤Int.tmod m ((List.length l:Int)+1):=Int.tmod_nonneg _ q0
 have hk1:Int.tmod m ((List.length l:Int)+1)<(List.length l:Int)+1:=Int.tmod_lt_of_pos _ (by omega)
 have hcut:∀ q:Nat,com (yl (k7 n) (l.take q) []).1 <+: com (yl (k7 n) l []).1:=fun q=>by
  have h1:yl (k7 n) l []=yl (yl (k7 n) (l.take q) []).1 (l.drop q) (yl (k7 n) (l.take q) []).2:=by
   rw [←qts,List.take_append_drop]
  rw [h1]
  exact qtr (qfj hnew).1
 generalize hG:(yl (k7 n) l []).1=G at *
 generalize hD:(yl (k7 n) l []).2=D at *
 obtain ⟨hg,hdl⟩:=hgd
 have hdl:D.length=0+l.length:=hdl
 have hcl:=qjh hg
 have hhl:=qeh hg
 have hf:=hg.fit
 have hll:=hf.lead
 refine Ev.bind (a:=false) (Ev.iteF (by simp) (Ev.bind (qft (by dsimp only; omega)) Ev.rfl)) (Ev.bind (a:=false) (Ev.iteF rfl (Ev.bind (qfi hg.nn) Ev.rfl)) (Ev.iteF rfl (Ev.iteF rfl ?_)))
 refine Ev.bind (qkt hg) (Ev.bind (a:=true) (by unfold ud; exact Ev.bind (qf1 hg) Ev.rfl) (Ev.iteF (by simp [hcl]) (Ev.bind em ?_)))
 dsimp only
 rw [ew]
 have hne:(List.length l:Int)+1≠0:=by omega
 simp only [qf0 hne]
 generalize Int.tmod m ((List.length l:Int)+1)=q at hk0 hk1
 have hsl:sl l 0 q=some (l.take q.toNat):=by
  have:=qa9 (l:=l) (i:=q.toNat) (by omega)
  rwa [Int.toNat_of_nonneg hk0] at this
 refine Ev.bindp hsl ?_
 have ep:=qg1 (n:=n) (l:=l.take q.toNat) n2 n4 (by rw [List.length_take]; omega)
 have hpg:=(qfj (l:=l.take q.toNat) (d:=[]) hnew).1
 have hpc:=hcut q.toNat
 refine Ev.bind ep ?_
 generalize (yl (k7 n) (l.take q.toNat) []).1=Gp at *
 refine Ev.bind (qkt hpg) (Ev.bind (a:=false) (Ev.iteF (by have:=hpc.length_le; simp; omega) (Ev.bindp (qq5 hpc) (Ev.bind (qa5 (by have:=qjh hpg; have:=qeh hpg; have:=hpg.fit.lead; dsimp only; omega)) Ev.rfl))) (Ev.iteF rfl ?_))
 have hsg:=qlm hg
 refine Ev.bind (qny hg) (Ev.bind (qkt hsg) ?_)
 rw [ql7 hg]
 have hlr:=hf.rng hf.ld
 obtain ⟨l1,l2,l3⟩:=js hlr.1 hlr.2
 have hcp:com G <+: lead G:=List.take_prefix _ _
 refine Ev.bind (a:=false) (Ev.iteF rfl (Ev.bind (a:=true) (by unfold ud; exact Ev.bind (qf1 hsg) Ev.rfl) Ev.rfl)) ?_
 refine Ev.bind (a:=false) (Ev.iteF ?_ (Ev.bindp l1 (Ev.bind (a:=true) ?_ Ev.rfl))) ?_
 ·show (false||decide (((lead G).length:Int) - G.High≠IntKind.wrap .i64 (((lead G).length:Int) - G.High)))=false
  rw [ka (by have:=hf.high; omega) (by have:=hf.high; omega)]
  simp
 ·rw [←l3]
  exact qa5 (by dsimp only; omega)
 refine Ev.bind (a:=false) (Ev.iteF (by have:=hcp.length_le; simp; omega) (Ev.bindp (qq5 hcp) (Ev.bind (qa5 (by have:=hcp.length_le; omega)) Ev.rfl))) (Ev.iteF rfl ?_)
 have hrl:(xn G).Replicas.length=G.Replicas.length:=by simp [xn]
 refine Ev.jn (qi0 (B:=fun k i _=>ur k (xn G,(lead G).length - G.High,true) (lead G,true) i) (by have:=hf.n2; dsimp only; omega) (fun i hi=>?_)) Ev.rfl
 unfold ur
 have hi:i<G.Replicas.length:=by have:i<(xn G).Replicas.length:=hi; omega
 have hrep:(xn G).Replicas[i]? = some ⟨lead G,G.Epoch,(lead G).length⟩:=by
  show (List.replicate G.Replicas.length (⟨lead G,G.Epoch,(lead G).length⟩ : Replica))[i]? = _
  rw [List.getElem?_replicate,if_pos hi]
 have hla:xd (xn G) (i:Int)=lead G:=by unfold xd; rw [Int.toNat_natCast,hrep]
 have hlag:=q11 hsg (i:=(i:Int)) (by omega) (by omega)
 rw [hla,qez hg,qf8] at hlag
 refine Ev.bind hlag (Ev.bind (a:=false) (Ev.iteF (by simp) (Ev.bindp (ju hrep) (Ev.bind (qa5 (by dsimp only; omega)) Ev.rfl))) (Ev.iteF rfl Ev.rfl))
end Go.Proofs.Ytefgfcalgjmhjaa.X
