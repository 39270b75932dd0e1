/- FnOrders: true at every draw. -/
import Derived.Test.YtddkoiapboeemaaXO1L15l
import Derived.Test.YtddkoiapboeemaaXO1L15gq
import Derived.Test.YtddkoiapboeemaaXO1L15cq
import Derived.Test.YtddkoiapboeemaaXO1L15u
import Derived.Test.YtddkoiapboeemaaXO1L15w
import Derived.Test.YtddkoiapboeemaaXO1W
set_option linter.unusedVariables false
set_option linter.unusedSimpArgs false
namespace Go.Proofs.Ytddkoiapboeemaa.X
open Go

theorem qf7 {l:List Call}(hl:l.length≤1048576)(o:Int) : ul l o=some (if good l=true∧qu o 0 2=true then (l.filter (fun c=>decide (c.Object=o)),true) else ([],false)):=by
 unfold ul
 rw [GoodCalls_eq hl,Option.bind_some]
 by_cases h:good l=true∧qu o 0 2=true
 ·rw [if_pos h,if_neg (by simp [h])]
  have hr:zk (fun i24 x25 s73=>wl o i24 x25 s73) l ([] : List Call)=some (.nxt (l.filter (fun c=>decide (c.Object=o)))):=by
   refine qc8 (by omega) (fun i r s=>i+r.length=l.length∧s.length≤i∧s++r.filter (fun c=>decide (c.Object=o))=l.filter (fun c=>decide (c.Object=o))) ⟨by simp,by simp,by simp⟩ ?_ ?_
   ·rintro i x r s ⟨h1,h2,h3⟩
    refine .inl ?_
    unfold wl
    simp only [List.length_cons] at h1
    by_cases hx:x.Object=o
    ·rw [if_pos (by simp [hx])]
     have:ku 48 s [x]=some (s++[x]):=by
      unfold ku
      rw [if_pos]
      simp only [List.length_cons,List.length_nil]
      omega
     refine ⟨s++[x],by rw [this]; rfl,by omega,by simp; omega,?_⟩
     rw [←h3,List.filter_cons,if_pos (by simp [hx])]
     simp
    ·rw [if_neg (by simp [hx])]
     refine ⟨s,rfl,by omega,by omega,?_⟩
     rw [←h3,List.filter_cons,if_neg (by simp [hx])]
   ·rintro i s ⟨h1,h2,h3⟩
    rw [←h3]
    simp
  rw [hr]
  rfl
 ·rw [if_neg h,if_pos (by
   rcases Bool.eq_false_or_eq_true (good l) with h1 | h1
   ·rcases Bool.eq_false_or_eq_true (qu o 0 2) with h2 | h2
    ·exact absurd ⟨h1,h2⟩ h
    ·simp [h2]
   ·simp [h1])]
def qyt (o q:List Int) : Prop:=∀ j:Nat,(∀ i<j,o[i]? = q[i]?)→∀ a b,o[j]? = some a→q[j]? = some b→a≤b
theorem qqs {n:Nat}{leg:List Int→Bool}{R:Int→Int→Bool} : ∀ (m:Nat) (p q o:List Int),p.length+m=n→Full n leg R (p++q)→js n leg R m p=some o→qyt o (p++q):=by
 intro m
 induction m with
 | zero =>
  intro p q o hp hf hb
  have hq:q=[]:=by
   have:=hf.1
   rw [List.length_append] at this
   exact List.eq_nil_of_length_eq_zero (by omega)
  subst hq
  simp only [js] at hb
  split at hb
  ·cases hb
   intro j _ a b h1 h2
   rw [List.append_nil] at h2
   rw [h1] at h2
   cases h2
   exact Int.le_refl _
  ·cases hb
 | succ m ih =>
  intro p q o hp hf hb
  cases q with
  | nil =>
   have:=hf.1
   rw [List.append_nil] at this
   omega
  | cons k q =>
   have hk:=hf.2.2.1 k (by simp)
   simp only [js] at hb
   obtain ⟨l1,i,l2,e1,e2,e3⟩:=List.findSome?_eq_some_iff.1 hb
   have hat:∀ (z:Nat) w,(List.range' 0 n)[z]? = some w→w=z:=fun z w hw=>by
    have hz:z<n:=by have:=(List.getElem?_eq_some_iff.1 hw).1; simpa using this
    rw [List.getElem?_range' hz] at hw
    have:=Option.some.inj hw
    omega
   have hi:i=l1.length:=hat _ _ (by rw [e1]; simp)
   have e4:js n leg R m (p++[(i:Int)])=some o:=e2
   have hle:(i:Int)≤k:=by
    apply Int.not_lt.1
    intro hlt
    have h5:k.toNat∈l1:=by
     have h6:(List.range' 0 n)[k.toNat]? = some k.toNat:=by
      rw [List.getElem?_range' (by omega)]
      congr 1
      omega
     rw [e1,List.getElem?_append_left (by omega)] at h6
     exact List.mem_of_getElem? h6
    have h6:=e3 _ h5
    have h7:=qfv (leg:=leg) (R:=R) (n:=n) m (p++[k]) q (by simp; omega) (by rw [List.append_assoc]; exact hf)
    have h8:((k.toNat:Nat) : Int)=k:=by omega
    rw [h8] at h6
    rw [h6] at h7
    cases h7
   obtain ⟨_,q2,ho⟩:=qa4 _ _ _ e4
   by_cases hik:(i:Int)=k
   ·have:=ih (p++[(i:Int)]) q o (by simp; omega) (by rw [hik,List.append_assoc]; exact hf) e4
    rw [hik,List.append_assoc] at this
    exact this
   ·have g1:o[p.length]? = some (i:Int):=by rw [ho,List.append_assoc]; simp
    have g2:(p++k::q)[p.length]? = some k:=by simp
    intro j hj a b h1 h2
    rcases Nat.lt_trichotomy j p.length with h | h | h
    ·rw [ho,List.append_assoc,List.getElem?_append_left h] at h1
     rw [List.getElem?_append_left h] at h2
     rw [h1] at h2
     cases h2
     exact Int.le_refl _
    ·subst h
     rw [g1] at h1
     rw [g2] at h2
     cases h1
     cases h2
     exact hle
    ·have:=hj p.length h
     rw [g1,g2] at this
     cases this
     exact absurd rfl hik
theorem qev {α σ ρ:Type}{B:Nat→α→σ→Option (Oc σ ρ)}{l:List α}{s:σ}(R:Nat→σ→Prop)(hn:l.length≤1048576)(h0:R 0 s)(step:∀ (i:Nat) x s,l[i]? = some x→R i s→∃ s',B i x s=some (.nxt s')∧R (i+1) s') : ∃ s',zk B l s=some (.nxt s')∧R l.length s':=by
 have key:∀ (r:List α) (i:Nat) (s:σ),l.drop i=r→i+r.length=l.length→R i s→∃ s',zq B r i s=some (.nxt s')∧R l.length s':=by
  intro r
  induction r with
  | nil =>
   intro i s _ hi hs
   have:i=l.length:=by simpa using hi
   subst this
   exact ⟨s,rfl,hs⟩
  | cons x r ih =>
   intro i s hr hi hs
   have hx:l[i]? = some x:=by have:=congrArg (fun z=>z[0]?) hr; simpa using this
   obtain ⟨s',e,hr'⟩:=step i x s hx hs
   obtain ⟨s2,e2,h2⟩:=ih (i+1) s' (by have:=congrArg (List.drop 1) hr; simpa [List.drop_drop] using this) (by simp at hi; omega) hr'
   exact ⟨s2,by simp only [zq,e]; exact e2,h2⟩
 obtain ⟨s',e,h⟩:=key l 0 s (by simp) (by simp) h0
 refine ⟨s',?_,h⟩
 unfold zk
 rw [if_pos (by omega)]
 exact e
def ovl (x y:Call) : Bool:=decide (x.Begin<y.End)&&decide (y.Begin<x.End)
theorem Overlaps_i {l:List Call}(hg:good l=true){a b:Nat}{x y:Call}(hab:a<b)(hx:l[a]? = some x)(hy:l[b]? = some y)(hno:ovl y x=false) : ∃ n:Int,xh l=some (n,true)∧0≤n∧2*n<(l.length:Int)*(l.length - 1):=by
 have h7:=qd8 hg
 have hbl:=(List.getElem?_eq_some_iff.1 hy).1
 have hx':∀ i:Nat,i≤7→∀ (z:Call) (s:Int),l[i]? = some z→0≤s→s≤1000→∃ s',k9 l i z s=some (.nxt s')∧s≤s'∧s'≤s+i∧(i=b→s'+1≤s+i):=by
  intro i hi z s hz h0 h1
  have hil:=(List.getElem?_eq_some_iff.1 hz).1
  obtain ⟨s',e,r1,r2,r3⟩:=qev (ρ:=Oc Int (Int × Bool)) (B:=fun i43 x44 s97=>yu z i43 x44 s97) (l:=l.take i) (s:=s) (fun j t=>s≤t∧t≤s+j∧(i=b→a<j→t+1≤s+j)) (by simp; omega) ⟨by omega,by omega,fun _ h=>absurd h (by omega)⟩ (by
   intro j w t hw ⟨r1,r2,r3⟩
   have hj:j<i:=by have:=(List.getElem?_eq_some_iff.1 hw).1; simp at this; omega
   rw [List.getElem?_take_of_lt hj] at hw
   unfold yu
   by_cases hov:((decide (z.Begin<w.End))&&(decide (w.Begin<z.End)))=true
   ·rw [if_pos hov,kc (n:=t+1) (by omega) (by omega)]
    refine ⟨t+1,rfl,by omega,by omega,fun hib haj=>?_⟩
    by_cases haj2:a<j
    ·have:=r3 hib haj2
     omega
    ·have haj3:a=j:=by omega
     subst haj3
     subst hib
     rw [hx] at hw
     rw [hy] at hz
     cases hw
     cases hz
     unfold ovl at hno
     rw [hno] at hov
     cases hov
   ·rw [if_neg hov]
    exact ⟨t,rfl,r1,by omega,fun _ _=>by omega⟩)
  have hlt:(l.take i).length=i:=by simp; omega
  rw [hlt] at r2 r3
  refine ⟨s',?_,r1,r2,fun hib=>r3 hib (by omega)⟩
  unfold k9
  rw [qfe (Nat.le_of_lt hil),Option.bind_some,e]
  rfl
 have main:=qev (ρ:=Int × Bool) (B:=fun i7 x8 s111=>k9 l i7 x8 s111) (l:=l) (s:=(0:Int)) (fun i t=>0≤t∧t≤100∧2*t≤(i:Int)*(i - 1)∧(b<i→2*t<(i:Int)*(i - 1))) (by omega) ⟨by omega,by omega,by simp,fun h=>absurd h (by omega)⟩ (by
  intro i z t hz ⟨r0,r1,r2,r3⟩
  have hil:=(List.getElem?_eq_some_iff.1 hz).1
  obtain ⟨s',e,q1,q2,q3⟩:=hx' i (by omega) z t hz r0 (by omega)
  have h0:i=0∨i=1∨i=2∨i=3∨i=4∨i=5∨i=6:=by omega
  refine ⟨s',e,by omega,?_,?_,fun hbi=>?_⟩
  ·rcases h0 with rfl | rfl | rfl | rfl | rfl | rfl | rfl <;> simp at r2 <;> omega
  ·rcases h0 with rfl | rfl | rfl | rfl | rfl | rfl | rfl <;> simp at r2 ⊢ <;> omega
  ·by_cases hib:i=b
   ·have:=q3 hib
    rcases h0 with rfl | rfl | rfl | rfl | rfl | rfl | rfl <;> simp at r2 ⊢ <;> omega
   ·have:=r3 (by omega)
    rcases h0 with rfl | rfl | rfl | rfl | rfl | rfl | rfl <;> simp at this ⊢ <;> omega)
 obtain ⟨n,e,m0,m1,m2,m3⟩:=main
 refine ⟨n,?_,m0,m3 hbl⟩
 unfold xh
 rw [qb6,GoodCalls_eq (by omega),Option.bind_some,if_neg (by simp [hg]),e]
 rfl
theorem qds {l:List Call}(hl:l.length≤1048576) : ub l l=some true:=by
 unfold ub
 rw [if_neg (by simp)]
 obtain ⟨s',e,_⟩:=qev (ρ:=Bool) (B:=fun i2 x3 _=>wd l i2 x3) (l:=l) (s:=()) (fun _ _=>True) hl trivial (by
  intro i x s hx _
  refine ⟨(),?_,trivial⟩
  unfold wd
  rw [u2 hx,Option.bind_some,if_neg (by simp)])
 rw [e]
 rfl
theorem qlb {l x:List Int}(h:l.length≤1000)(h2:x.length≤1000) : ku 8 l x=some (l++x):=by
 unfold ku
 rw [if_pos (by omega)]
theorem qku {c:L1Cur}{t:Nat}(hc:Cur t c)(ht:t≤500){n:Nat}(hn:n≤8) : ∃ o c',Ev (fun k=>qac k c (n:Int)) (o,c')∧o.length≤8:=by
 have k1:=Ev.loopQ (B:=fun s54:List Int × Int=>w8 (n:Int) s54.1 s54.2) (s:=(([],0) : List Int × Int))
  (fun o=>∃ l:List Int,o = .nxt (l,(n:Int))∧l.length=n)
  (fun st=>∃ j:Nat,st.2=j∧j≤n∧st.1.length=j) (fun st=>((n:Int) - st.2).toNat) ⟨0,rfl,by omega,rfl⟩ (by
  rintro ⟨l,i⟩ ⟨j,hj,hjn,hl⟩
  simp only at hj hl
  subst hj
  simp only [w8]
  by_cases hlt:(j:Int)<n
  ·rw [if_pos (by simpa using hlt),qlb (by omega) (by simp),Option.bind_some,kc (n:=(j:Int)+1) (by omega) (by omega)]
   exact .inl ⟨_,rfl,⟨j+1,by simp,by omega,by simp; omega⟩,by simp only; omega⟩
  ·rw [if_neg (by simpa using hlt)]
   have:j=n:=by omega
   subst this
   exact .inr (.inl ⟨_,rfl,l,rfl,hl⟩))
 obtain ⟨o1,ho1,l0,rfl,hl0⟩:=k1
 have k2:=Ev.loopQ (B:=fun s180:List Int × List Int × L1Cur=>w9 s180.1 s180.2.1 s180.2.2) (s:=((l0,[],c) : List Int × List Int × L1Cur))
  (fun o=>∃ (l d:List Int) (c:L1Cur),o = .nxt (l,d,c)∧d.length=n∧Cur (t+10) c)
  (fun st=>st.1.length+st.2.1.length=n∧Cur (t+st.2.1.length) st.2.2) (fun st=>st.1.length) ⟨by simpa using hl0,by simpa using hc⟩ (by
  rintro ⟨l,d,c2⟩ ⟨hl,hc2⟩
  simp only at hl hc2
  simp only [w9]
  by_cases hlt:(0:Int)<(l.length:Int)
  ·obtain ⟨v,c3,h3,hc3,q0,q1⟩:=y6 hc2 (by omega) (l.length:Int) (by omega)
   obtain ⟨x,hx,_⟩:=kr (l:=l) (i:=v) q0 (by omega)
   have s1:sl l 0 v=some (l.take v.toNat):=by
    unfold sl
    rw [if_pos ⟨by omega,by omega,by omega⟩]
    simp
   have s2:sl l (v+1) (List.length l)=some (l.drop (v.toNat+1)):=by
    unfold sl
    rw [if_pos ⟨by omega,by omega,by omega⟩,show ((l.length:Int)).toNat=l.length by omega,List.take_length,show (v+1).toNat=v.toNat+1 by omega]
   rw [if_pos (by simpa using hlt),h3,Option.bind_some,hx,Option.bind_some,qlb (by omega) (by simp),Option.bind_some,s1,Option.bind_some,qlb (by decide) (by simp; omega),Option.bind_some,kc (n:=v+1) (by omega) (by omega),s2,Option.bind_some,qlb (by simp; omega) (by simp; omega),Option.bind_some]
   refine .inl ⟨_,rfl,⟨by simp; omega,?_⟩,by simp; omega⟩
   simp only [List.length_append,List.length_cons,List.length_nil]
   exact hc3.mono (by omega)
  ·rw [if_neg (by simpa using hlt)]
   exact .inr (.inl ⟨_,rfl,l,d,c2,rfl,by omega,hc2.mono (by omega)⟩))
 obtain ⟨o2,ho2,l1,d,c2,rfl,hd,hc2⟩:=k2
 have hj1:∀ (w:Bool) (c3:L1Cur),(w=true→0<n)→Cur (t+20) c3→∃ o c',uw (n:Int) d w c3=some (o,c')∧o.length≤8:=by
  intro w c3 hw hc3
  unfold uw
  cases w with
  | false=>exact ⟨d,c3,rfl,by omega⟩
  | true =>
   obtain ⟨v,c4,h4,hc4,_⟩:=y6 hc3 (by omega) ((n:Int)+1) (by omega)
   obtain ⟨x,hx,_⟩:=kr (l:=d) (i:=0) (by omega) (by have:=hw rfl; omega)
   rw [if_pos rfl,kc (n:=(n:Int)+1) (by omega) (by omega),h4,Option.bind_some,hx,Option.bind_some]
   exact ⟨_,_,rfl,by rw [List.length_set]; omega⟩
 have hj2:∃ o c',ux (n:Int) l1 d c2=some (o,c')∧o.length≤8:=by
  unfold ux
  by_cases h0:(0:Int)<n
  ·obtain ⟨w,c3,h3,hc3⟩:=qdw hc2 (by omega) 30 (by omega)
   rw [if_pos (by simpa using h0),h3,Option.bind_some,Option.bind_some]
   exact hj1 w c3 (fun _=>by omega) (hc3.mono (by omega))
  ·rw [if_neg (by simpa using h0),Option.bind_some]
   exact hj1 false c2 (fun h=>by cases h) (hc2.mono (by omega))
 obtain ⟨o,c',e,ho⟩:=hj2
 refine ⟨o,c',?_,ho⟩
 unfold qac
 refine Ev.jn ho1 ?_
 simp only [qbd]
 exact Ev.jn ho2 (Ev.of e)
theorem DrawIsLegal_ok {code:List Int}(hb:Bytes code) : ∃ l o,Ev (fun k=>wm k code) (l,o)∧l.length≤8∧o.length≤8:=by
 obtain ⟨l,c,he,hl,hc⟩:=qin (c:=L1Cur.mk code 0 0) (t:=0) ⟨hb,Int.le_refl _,Int.le_refl _⟩ (by omega)
 have hord:=qjl (l:=l) (by omega)
 have hol:=qk5 l
 have hj:∀ (w:Bool) (c2:L1Cur),Cur 300 c2→∃ o,Ev (fun k=>yk k (l,c) (qab l) w c2) (l,o)∧o.length≤8:=by
  intro w c2 hc2
  cases w with
  | true=>exact ⟨(qab l).1,by unfold yk; exact Ev.iteT rfl Ev.rfl,by omega⟩
  | false =>
   obtain ⟨o,c3,e,ho⟩:=qku hc2 (by omega) hl
   exact ⟨o,by unfold yk; exact Ev.iteF rfl (Ev.bind e Ev.rfl),ho⟩
 unfold wm
 cases h2:(qab l).2 with
 | true =>
  obtain ⟨w,c3,h3,hc3⟩:=qdw hc (by omega) 2 (by omega)
  obtain ⟨o,e,ho⟩:=hj w c3 (hc3.mono (by omega))
  exact ⟨l,o,Ev.bind he (Ev.bind hord (Ev.bind (a:=(w,c3)) (Ev.iteT h2 (Ev.bindp h3 Ev.rfl)) e)),hl,ho⟩
 | false =>
  obtain ⟨o,e,ho⟩:=hj false c (hc.mono (by omega))
  exact ⟨l,o,Ev.bind he (Ev.bind hord (Ev.bind (a:=(false,c)) (Ev.iteF h2 Ev.rfl) e)),hl,ho⟩
theorem qwq {code:List Int}(hb:Bytes code) : Ev (fun k=>ug k code) true:=by
 obtain ⟨l,c,he,hl,hc⟩:=qin (c:=L1Cur.mk code 0 0) (t:=0) ⟨hb,Int.le_refl _,Int.le_refl _⟩ (by omega)
 obtain ⟨v,c2,h2,_⟩:=y6 hc (by omega) 5 (by omega)
 have hd:Ev (fun k=>we k code) (l,IntKind.wrap .i64 (v - 1)):=by
  unfold we
  exact Ev.bind he (Ev.bindp h2 Ev.rfl)
 unfold ug
 refine Ev.bind hd (Ev.bind (qgd (by dsimp only; omega) _) (Ev.bindp (qf7 (by dsimp only; omega) _) (Ev.bind (a:=true) (Ev.iteT (by simp) (Ev.bind (a:=true) ?_ Ev.rfl)) Ev.rfl)))
 split
 ·exact Ev.of (qds (by have:=List.length_filter_le (fun c=>decide (c.Object=IntKind.wrap .i64 (v - 1))) l; dsimp only; omega))
 ·exact Ev.of (qds (by decide))
theorem FnOrders_pure (v_0:List Int)(w0:wfL 1 qhc v_0)(v_1:List Int)(w1:wfL 1 qhc v_1) : ∃ k,um k v_0 v_1=some true:=by
 suffices h:Ev (fun k=>um k v_0 v_1) true by
  obtain ⟨K,h⟩:=h
  exact ⟨K,h K (Nat.le_refl _)⟩
 unfold um
 by_cases hbig:(1048576:Int)<(IntKind.wrap .i64 ((List.length v_0:Int)+(List.length v_1:Int)))
 ·exact Ev.iteT (by simpa using hbig) Ev.rfl
 refine Ev.iteF (by simpa using hbig) ?_
 obtain ⟨l,o,hdr,hll,hol⟩:=DrawIsLegal_ok (code:=v_0) (fun x hx=>w0.2 x hx)
 refine Ev.bind hdr (Ev.bind (IsLegal_i (by dsimp only; omega) (by dsimp only; omega)) (Ev.bind (IsLegal_s (by dsimp only; omega) (by dsimp only; omega)) (Ev.bind (RespectsTime_i (by dsimp only; omega) (by dsimp only; omega)) (Ev.bind (RespectsTime_s (by dsimp only; omega) (by dsimp only; omega)) (Ev.iteF (by simp) ?_)))))
 dsimp only
 have hlast:=qwq (code:=v_1) (fun x hx=>w1.2 x hx)
 by_cases hq:good l=true∧qbw l.length o
 ·have e1:qes l o=(z8 l o,true):=by unfold qes; rw [if_pos hq]
  have e2:qez l o=(decide (o.Pairwise fun a b=>wt l a b=true),true):=by unfold qez; rw [if_pos hq]
  rw [e1,e2]
  dsimp only
  obtain ⟨hg,hord⟩:=hq
  have hj2:Ev (fun k=>wn k v_1 (l,o) (decide (o.Pairwise fun a b=>wt l a b=true),true)) true:=by
   unfold wn
   by_cases ht:o.Pairwise fun a b=>wt l a b=true
   ·exact Ev.jn (s:=()) (Ev.iteF (by simp [ht]) Ev.rfl) hlast
   ·have hex:∃ (a b:Nat) (x y:Call),a<b∧l[a]? = some x∧l[b]? = some y∧ovl y x=false:=by
     rw [List.pairwise_iff_getElem] at ht
     obtain ⟨i,ht⟩:=Classical.not_forall.1 ht
     obtain ⟨j,ht⟩:=Classical.not_forall.1 ht
     obtain ⟨hi,ht⟩:=Classical.not_forall.1 ht
     obtain ⟨hj,ht⟩:=Classical.not_forall.1 ht
     obtain ⟨hij,ht⟩:=Classical.not_forall.1 ht
     have p1:=hord.2.2 o[i] (List.getElem_mem hi)
     have p2:=hord.2.2 o[j] (List.getElem_mem hj)
     obtain ⟨x,_,hx⟩:=kr p1.1 p1.2
     obtain ⟨y,_,hy⟩:=kr p2.1 p2.2
     have hne:o[i]≠o[j]:=by
      have:=hord.2.1
      rw [List.Nodup,List.pairwise_iff_getElem] at this
      exact this i j hi hj hij
     unfold wt at ht
     rw [hx,hy] at ht
     simp only [decide_eq_true_eq] at ht
     rcases Nat.lt_or_ge (o[i]).toNat (o[j]).toNat with h | h
     ·exact ⟨_,_,x,y,h,hx,hy,by unfold ovl; simp; intro _; omega⟩
     ·exact ⟨_,_,y,x,by omega,hy,hx,by unfold ovl; simp; intro h; omega⟩
    obtain ⟨a,b,x,y,hab,hx,hy,hov⟩:=hex
    obtain ⟨n,en,n0,n1⟩:=Overlaps_i hg hab hx hy hov
    have h7:=qd8 hg
    refine Ev.jn (s:=()) (Ev.iteT (by simp [ht]) (Ev.bindp en (Ev.iteF ?_ Ev.rfl))) hlast
    have h0:l.length=0∨l.length=1∨l.length=2∨l.length=3∨l.length=4∨l.length=5∨l.length=6∨l.length=7:=by omega
    dsimp only
    have hne:n≠IntKind.wrap .i64 (Int.tdiv (IntKind.wrap .i64 ((List.length l:Int)*(IntKind.wrap .i64 ((List.length l:Int) - 1)))) 2):=by
     rcases h0 with h | h | h | h | h | h | h | h <;> rw [h] at n1 ⊢ <;> simp at n1 <;> (intro e; revert e; simp only [show ∀ z:Int,(n=z)=(z=n) from fun z=>propext eq_comm]; intro e; have e2:=e; revert n1; rw [←e2]; decide)
    simp [hne]
  by_cases hboth:z8 l o=true∧o.Pairwise fun a b=>wt l a b=true
  ·have hF:Full l.length (z8 l) (wt l) o:=⟨hord.1,hord.2.1,hord.2.2,hboth.1,hboth.2⟩
   have hsome:=qfv l.length [] o (by simp) hF
   obtain ⟨q,hq⟩:=Option.isSome_iff_exists.1 hsome
   have hlex:=qqs l.length [] o q (by simp) hF hq
   have hqf:=(qa4 _ _ _ hq).1
   have hans:qab l=(q,true):=by
    unfold qab qa1
    rw [if_pos hg,hq]
   have hio:=qj2 (l:=l) (by omega)
   rw [hans] at hio
   refine Ev.jn (s:=()) (Ev.iteT (by simp [hboth]) (Ev.bind hio (Ev.iteF (by simp [hqf.1,hord.1]) (Ev.jn (s:=()) ?_ Ev.rfl)))) hj2
   dsimp only
   simp only [qpq]
   refine qer (by simp; have:=hqf.1; omega) (fun i r _=>i+r.length=q.length∧∀ z<i,q[z]? = o[z]?) ⟨by simp,fun z hz=>absurd hz (by omega)⟩ (fun i x r s ⟨hr,hz⟩=>?_) (fun i s _=>rfl)
   have hiq:i<q.length:=by simp only [List.length_cons] at hr; omega
   have hio2:i<o.length:=by rw [hord.1,← hqf.1]; exact hiq
   have a1:q[i]? = some q[i]:=List.getElem?_eq_getElem hiq
   have a2:o[i]? = some o[i]:=List.getElem?_eq_getElem hio2
   have hle:=hlex i (fun z hz2=>by simpa using hz z hz2) _ _ a1 a2
   by_cases he:q[i]=o[i]
   ·refine .inl ⟨(),?_,by simp only [List.length_cons] at hr; omega,fun z hz2=>?_⟩
    ·unfold wj
     exact Ev.bindp (u2 a1) (Ev.bindp (u2 a2) (Ev.iteF (by simpa using he) Ev.rfl))
    ·by_cases hzi:z<i
     ·exact hz z hzi
     ·have:z=i:=by omega
      subst this
      rw [a1,a2,he]
   ·refine .inr (.inl ⟨(),?_,rfl⟩)
    unfold wj
    exact Ev.bindp (u2 a1) (Ev.bindp (u2 a2) (Ev.iteT (by simpa using he) (Ev.iteF (by simp; omega) Ev.rfl)))
  ·refine Ev.jn (s:=()) (Ev.iteF ?_ Ev.rfl) hj2
   simp only [Bool.true_and,Bool.and_eq_false_iff,decide_eq_false_iff_not]
   by_cases hl:z8 l o=true
   ·exact .inr fun h=>hboth ⟨hl,h⟩
   ·exact .inl (by simpa using hl)
 ·have e1:qes l o=(false,false):=by unfold qes; rw [if_neg hq]
  have e2:qez l o=(false,false):=by unfold qez; rw [if_neg hq]
  rw [e1,e2]
  refine Ev.jn (s:=()) (Ev.iteF rfl Ev.rfl) ?_
  unfold wn
  exact Ev.jn (s:=()) (Ev.iteF rfl Ev.rfl) hlast
end Go.Proofs.Ytddkoiapboeemaa.X
