/- Whether a world is good: the specification and the program ask the same of worlds of a shape. -/
import Derived.Test.YtpkiieniipenjaaXCL8i
set_option linter.unusedVariables false
set_option linter.unusedSimpArgs false
namespace Go.Proofs.Ytpkiieniipenjaa.X
open Go

theorem qh3 {α σ β:Type}{B:Nat→Nat→α→σ→Option (Oc σ β)}{l:List α}{Q:Nat→α→Prop}{st:Nat→σ}{r0:β}(hl:l.length≤4611686018427387904)(hB:∀ (i:Nat) (x:α),l[i]? = some x→∃ b:Bool,Ev (fun k=>B k i x (st i)) (if b=true then .ret r0 else .nxt (st (i+1)))∧(b=true↔¬ Q i x)) :
  ((∀ (i:Nat) (x:α),l[i]? = some x→Q i x)∧Ev (fun k=>jk (B k) l (st 0)) (.nxt (st l.length)))∨((¬ ∀ (i:Nat) (x:α),l[i]? = some x→Q i x)∧Ev (fun k=>jk (B k) l (st 0)) (.ret r0)):=by
 by_cases hq:∀ (i:Nat) (x:α),l[i]? = some x→Q i x
 ·refine .inl ⟨hq,xg hl (fun i q s=>l.drop i=q∧i≤l.length∧s=st i) ⟨by simp,Nat.zero_le _,rfl⟩ (fun i x q s ⟨h1,h2,h3⟩ => .inl ?_) (fun i s ⟨h1,h2,h3⟩=>?_)⟩
  ·subst h3
   have hx:l[i]? = some x:=by have:=congrArg (fun z=>z[0]?) h1; simpa using this
   obtain ⟨b,e,hb⟩:=hB i x hx
   have:b=false:=by
    cases b with
    | false=>rfl
    | true=>exact absurd (hq i x hx) (hb.1 rfl)
   subst this
   exact ⟨_,e,by have:=congrArg (List.drop 1) h1; simpa [List.drop_drop] using this,(List.getElem?_eq_some_iff.1 hx).1,rfl⟩
  ·have hi:l.length≤i:=by have:=congrArg List.length h1; simp at this; omega
   rw [h3,show i=l.length by omega]
 ·refine .inr ⟨hq,xg hl (fun i q s=>l.drop i=q∧s=st i∧∀ (j:Nat) (x:α),j<i→l[j]? = some x→Q j x) ⟨by simp,rfl,fun j x hj=>by omega⟩ (fun i x q s ⟨h1,h2,h3⟩=>?_) (fun i s ⟨h1,h2,h3⟩=>?_)⟩
  ·subst h2
   have hx:l[i]? = some x:=by have:=congrArg (fun z=>z[0]?) h1; simpa using this
   obtain ⟨b,e,hb⟩:=hB i x hx
   cases b with
   | true=>exact .inr (.inr ⟨r0,e,rfl⟩)
   | false =>
    refine .inl ⟨_,e,by have:=congrArg (List.drop 1) h1; simpa [List.drop_drop] using this,rfl,fun j y hj hy=>?_⟩
    rcases Nat.lt_or_ge j i with hji | hji
    ·exact h3 j y hji hy
    ·have:j=i:=by omega
     subst this
     rw [hx] at hy; cases hy
     exact Classical.not_not.1 (fun hh=>Bool.false_ne_true (hb.2 hh))
  ·exfalso
   have hi:l.length≤i:=by have:=congrArg List.length h1; simp at this; omega
   exact hq (fun j x hx=>h3 j x (by have:=(List.getElem?_eq_some_iff.1 hx).1; omega) hx)
theorem qkh {l:List Int}{i:Nat}{x:Int}(h:l[i]? = some x) : (l.take (i+1)).sum=(l.take i).sum+x:=by
 rw [List.take_add_one,h]
 simp
structure Shape (p:Nat) (s:Snap) : Prop where
 pp:2≤p∧p≤4
 am:s.Amounts.length=p
 an:∀ z∈s.Amounts,0≤z∧z≤2000
 pl:s.Pictures.length=p
 pi:∀ (i:Nat) (x:Picture),s.Pictures[i]? = some x→x.In.length=p∧x.Closed.length=p
 inn:∀ (i:Nat) (x:Picture),s.Pictures[i]? = some x→∀ z∈x.In,0≤z∧z≤900000
 pn:∀ (i:Nat) (x:Picture),s.Pictures[i]? = some x→x.Taken=false→x.Amount=0∧(∀ z∈x.In,z=0)∧x.Closed[i]? = some false
 py:∀ (i:Nat) (x:Picture),s.Pictures[i]? = some x→x.Taken=true→(0≤x.Amount∧x.Amount≤1000)∧x.In[i]? = some 0∧x.Closed[i]? = some true
 ft:prs s.Chans=prs (ya p)
 wn:∀ (i:Nat) (c:Chan),s.Chans[i]? = some c→c.Way.length≤9∧∀ z∈c.Way,0≤z∧z≤1000
 sent:0≤s.Sent∧s.Sent≤1000
 tot:0≤s.Total∧s.Total≤1000
def qgg (s:Snap) : Prop:=((∀ (i:Nat) (a:Int),s.Amounts[i]? = some a→a≤1000∧∀ x,s.Pictures[i]? = some x→x.Taken=false→true ∉ x.Closed)∧(∀ (i:Nat) (c:Chan),s.Chans[i]? = some c→c.Way.length≤8∧qc1 s.Pictures c))∧s.Amounts.sum+(y8 s.Chans).sum=s.Total
theorem Shape.chl {p:Nat}{s:Snap}(h:Shape p s) : (s.Chans.length:Int)=p*(p - 1)∧s.Chans.length≤12:=by
 have e:s.Chans.length=(ya p).length:=by
  have:=congrArg List.length h.ft
  simpa only [prs,List.length_map] using this
 rw [e]
 exact ⟨qi6 h.pp,(qgh h.pp).1⟩
theorem Shape.ends {p:Nat}{s:Snap}(h:Shape p s){i:Nat}{c:Chan}(hc:s.Chans[i]? = some c) : ∃ f t:Nat,c.From=(f:Int)∧c.To=(t:Int)∧f<p∧t<p∧f≠t∧∃ c0,(ya p)[i]? = some c0∧c0.From=c.From∧c0.To=c.To:=by
 have hpx:(prs (ya p))[i]? = some (c.From,c.To):=by rw [←h.ft]; simp [prs,hc]
 simp only [prs,List.getElem?_map,Option.map_eq_some_iff] at hpx
 obtain ⟨c0,hc0,hce⟩:=hpx
 have f1:c0.From=c.From:=congrArg Prod.fst hce
 have f2:c0.To=c.To:=congrArg Prod.snd hce
 obtain ⟨h1,h2,h3,_⟩:=(qgh h.pp).2 c0 (List.mem_of_getElem? hc0)
 exact ⟨c.From.toNat,c.To.toNat,by omega,by omega,by omega,by omega,by omega,c0,hc0,f1,f2⟩

/-! what is on the way -/
theorem qos {ρ:Type}{B:Nat→Int→Int→Option (Oc Int ρ)}(hB:∀ i x u,0≤u→u≤1000000→0≤x→x≤1000→B i x u=some (.nxt (u+x))) : ∀ (l:List Int) (i:Nat) (u:Int),(∀ z∈l,0≤z∧z≤1000)→0≤u→u+1000*l.length≤1000000→kt B l i u=some (.nxt (u+l.sum)):=by
 intro l
 induction l with
 | nil=>intro i u _ _ _; simp [kt]
 | cons z l ih =>
  intro i u hz h0 h1
  have hz0:=hz z (by simp)
  simp only [List.length_cons,Int.natCast_add,Int.mul_add] at h1
  simp only [kt,hB i z u h0 (by omega) hz0.1 hz0.2,List.sum_cons]
  rw [ih (i+1) (u+z) (fun y hy=>hz y (by simp [hy])) (by omega) (by omega)]
  congr 2
  omega
theorem qnp {ρ:Type}{B:Nat→Chan→Int→Option (Oc Int ρ)} : ∀ (l:List Chan) (i:Nat) (u:Int),(hB:∀ i c u,c∈l→0≤u→u≤900000→B i c u=some (.nxt (u+c.Way.sum)))→(∀ c∈l,c.Way.length≤9∧∀ z∈c.Way,0≤z∧z≤1000)→0≤u→u+9000*l.length≤900000→kt B l i u=some (.nxt (u+(y8 l).sum)):=by
 intro l
 induction l with
 | nil=>intro i u _ _ _ _; simp [kt,y8]
 | cons c l ih =>
  intro i u hB hz h0 h1
  obtain ⟨hz0,hz1⟩:=hz c (by simp)
  have hs:=qb1 hz1
  simp only [List.length_cons,Int.natCast_add,Int.mul_add] at h1
  simp only [kt,hB i c u (by simp) h0 (by omega)]
  rw [ih (i+1) (u+c.Way.sum) (fun j d v hd=>hB j d v (by simp [hd])) (fun y hy=>hz y (by simp [hy])) (by omega) (by omega)]
  simp only [y8,List.map_cons,List.sum_cons]
  congr 2
  omega
theorem Shape.chmem {p:Nat}{s:Snap}(h:Shape p s) : ∀ c∈s.Chans,c.Way.length≤9∧∀ z∈c.Way,0≤z∧z≤1000:=by
 intro c hc
 obtain ⟨i,hi⟩:=List.getElem?_of_mem hc
 exact h.wn i c hi
theorem q58 {p:Nat}{s:Snap}(h:Shape p s) : xe s=some (y8 s.Chans).sum:=by
 have hl:=h.chl.2
 unfold xe jk
 rw [if_pos (by omega),qnp (B:=fun i x s=>wm i x s) s.Chans 0 0 (fun i c u hc h0 h1=>?_) h.chmem (by omega) (by omega),Int.zero_add]
 ·rfl
 ·obtain ⟨a,b⟩:=h.chmem c hc
  unfold wm jk
  rw [if_pos (by omega),qos (B:=fun i x s=>yd i x s) (fun i x v h2 h3 h4 h5=>by unfold yd; rw [kc (by omega) (by omega)]) c.Way 0 u b h0 (by omega)]
  rfl
theorem qou {p:Nat}{s:Snap}(h:Shape p s) : qbz s=some (y8 s.Chans).sum:=by
 have hl:=h.chl.2
 unfold qbz jk
 rw [if_pos (by omega),qnp (B:=fun i x s=>qa4 i x s) s.Chans 0 0 (fun i c u hc h0 h1=>?_) h.chmem (by omega) (by omega),Int.zero_add]
 ·rfl
 ·obtain ⟨a,b⟩:=h.chmem c hc
  unfold qa4 jk
  rw [if_pos (by omega),qos (B:=fun i x s=>qa0 i x s) (fun i x v h2 h3 h4 h5=>by unfold qa0; rw [kc (by omega) (by omega)]) c.Way 0 u b h0 (by omega)]
  rfl
theorem ql2 {ρ:Type}{B:Nat→Int→Int→Option (Oc Int ρ)}(hB:∀ i x (m:Nat),m≤1000→0≤x→x≤1000→B i x (m:Int)=some (.nxt ((m+(if x=0 then 1 else 0) : Nat) : Int))) : ∀ (l:List Int) (i m:Nat),(∀ z∈l,0≤z∧z≤1000)→m+l.length≤1000→kt B l i (m:Int)=some (.nxt ((m+kg l:Nat) : Int)):=by
 intro l
 induction l with
 | nil=>intro i m _ _; simp [kt,kg]
 | cons z l ih =>
  intro i m hz hm
  have hz0:=hz z (by simp)
  simp only [List.length_cons] at hm
  simp only [kt,hB i z m (by omega) hz0.1 hz0.2]
  rw [ih (i+1) _ (fun y hy=>hz y (by simp [hy])) (by split <;> omega)]
  simp only [kg]
  congr 3
  omega

/-! a picture -/
theorem qnd {p k:Nat}{s:Snap}{x:Picture}(h:Shape p s)(hx:s.Pictures[k]? = some x) : Is (fun q=>xu q x (k:Int) (p:Int)) (x.Taken=false→true ∉ x.Closed):=by
 have hp:=h.pp
 have hl:=h.pi k x hx
 have hin:=h.inn k x hx
 unfold xu
 have hf:Ev (fun _=>yj x.In (fun a0=>some (wq a0))) false:=by
  unfold yj xz
  refine Ev.bind (Ev.jn (qed (by omega) (fun i z hz=>?_)) Ev.rfl) Ev.rfl
  have:=hin z (List.mem_of_getElem? hz)
  unfold w7 wq
  refine Ev.bind Ev.rfl (Ev.iteF ?_ Ev.rfl)
  simp only [zx,Bool.not_eq_false',Bool.and_eq_true,decide_eq_true_eq]
  omega
 refine Is.bindv (a:=false) (Ev.iteF (by simp [hl]) (Ev.bind hf Ev.rfl)) ?_
 refine Is.ite (fun hh=>absurd hh (by decide)) (fun _=>?_)
 cases hT:x.Taken with
 | false =>
  obtain ⟨h1,h2,h3⟩:=h.pn k x hx hT
  refine Is.ite (fun _=>?_) (fun hh=>absurd hh (by decide))
  refine Is.bindv (a:=true) (Ev.iteT (by simp [h1]) (Ev.bind (Max_zero (by omega) h2) Ev.rfl)) ?_
  obtain ⟨b,e,hb⟩:=Contains_bool_is (l:=x.Closed) (v:=true) (by omega)
  refine ⟨!b,Ev.bind (Ev.iteT rfl (Ev.bind e Ev.rfl)) Ev.rfl,?_⟩
  simp only [true_implies,← hb]
  cases b <;> simp
 | true =>
  obtain ⟨h1,h2,h3⟩:=h.py k x hx hT
  refine ⟨true,Ev.iteF rfl (Ev.bind (a:=true) (Ev.iteT ?_ (Ev.bindp (zz h2) Ev.rfl)) (Ev.bind (Ev.iteT rfl (Ev.bindp (zz h3) Ev.rfl)) Ev.rfl)),by simp⟩
  simp only [zx,Bool.and_eq_true,decide_eq_true_eq]; exact h1
theorem qm0 {p k:Nat}{s:Snap}{x:Picture}(h:Shape p s)(hx:s.Pictures[k]? = some x) : Is (fun _=>qaf s (k:Int)) (x.Taken=false→true ∉ x.Closed):=by
 have hp:=h.pp
 have hl:=h.pi k x hx
 have hin:=h.inn k x hx
 have hkp:k<p:=by have:=(List.getElem?_eq_some_iff.1 hx).1; rw [h.pl] at this; exact this
 obtain ⟨v,hv⟩:=js (l:=x.In) (i:=k) (by omega)
 have hfacts:(0≤x.Amount∧x.Amount≤1000)∧(x.Taken=false→x.Amount=0)∧v=0∧x.Closed[k]? = some x.Taken:=by
  cases hT:x.Taken with
  | false =>
   obtain ⟨h1,h2,h3⟩:=h.pn k x hx hT
   exact ⟨by omega,fun _=>h1,h2 v (List.mem_of_getElem? hv),h3⟩
  | true =>
   obtain ⟨h1,h2,h3⟩:=h.py k x hx hT
   rw [hv] at h2
   exact ⟨h1,(fun hh=>by cases hh),Option.some.inj h2,h3⟩
 obtain ⟨f1,f2,f3,f4⟩:=hfacts
 unfold qaf
 refine Is.bindv (Ev.of (zz hx)) ?_
 rw [if_neg (by simp [hl,h.am])]
 refine Is.bindv (a:=false) (Ev.iteF ?_ (Ev.bindp (zz hv) (Ev.of (by simp [f3])))) (Is.bindv (a:=false) (Ev.iteF rfl (Ev.bindp (zz f4) (Ev.of (by simp)))) ?_)
 ·simp only [ja,Bool.or_eq_false_iff,Bool.not_eq_false',Bool.and_eq_true,decide_eq_true_eq,Bool.and_eq_false_iff,decide_eq_false_iff_not]
  refine ⟨f1,?_⟩
  cases hT:x.Taken with
  | false=>exact .inr (by have:=f2 hT; omega)
  | true=>exact .inl rfl
 rw [if_neg (by decide)]
 refine Is.all (Q:=fun i _=>x.Taken=false→x.Closed[i]? ≠ some true) (by omega) (fun i z hz=>?_) (fun hq=>Is.T (fun hT hm=>?_)) (fun hq hP=>hq (fun i z hz hT hc=>hP hT (List.mem_of_getElem? hc)))
 ·obtain ⟨b,hb⟩:=js (l:=x.Closed) (i:=i) (by have:=(List.getElem?_eq_some_iff.1 hz).1; omega)
  have hz0:=hin z (List.mem_of_getElem? hz)
  unfold qbo
  refine q9w (P:=¬ (x.Taken=false→x.Closed[i]? ≠ some true)) ?_
  rw [if_neg (by simp only [ja,Bool.not_eq_true',Bool.and_eq_false_iff,decide_eq_false_iff_not]; omega)]
  cases hT:x.Taken with
  | true=>exact Is.F (by simp)
  | false =>
   have hzz:=(h.pn k x hx hT).2.1 z (List.mem_of_getElem? hz)
   subst hzz
   refine ⟨b,Ev.bind (Ev.iteT rfl (Ev.bind (Ev.iteF (by simp) (Ev.bindp (zz hb) Ev.rfl)) Ev.rfl)) Ev.rfl,?_⟩
   rw [hb]
   cases b <;> simp
 ·obtain ⟨i,hi⟩:=List.getElem?_of_mem hm
  obtain ⟨z,hz⟩:=js (l:=x.In) (i:=i) (by have:=(List.getElem?_eq_some_iff.1 hi).1; omega)
  exact hq i z hz hT hi
theorem qha {p:Nat}{s:Snap}(h:Shape p s)(i:Nat) : 0≤(s.Amounts.take i).sum∧(s.Amounts.take i).sum≤8000:=by
 have:=qb1 (l:=s.Amounts.take i) (b:=2000) (fun z hz=>h.an z (List.mem_of_mem_take hz))
 have h2:(s.Amounts.take i).length≤4:=by rw [List.length_take]; have:=h.am; have:=h.pp; omega
 omega
theorem ql8 {p:Nat}{s:Snap}(h:Shape p s) : 0≤(y8 s.Chans).sum∧(y8 s.Chans).sum≤108000:=by
 have:=qb1 (l:=y8 s.Chans) (b:=9000) (fun z hz=>by
  unfold y8 at hz
  obtain ⟨c,hc,rfl⟩:=List.mem_map.1 hz
  obtain ⟨a,b⟩:=h.chmem c hc
  have:=qb1 b
  omega)
 have h2:(y8 s.Chans).length≤12:=by unfold y8; rw [List.length_map]; exact h.chl.2
 omega
theorem qtp {p:Nat}{s:Snap}(h:Shape p s) : Is (fun k=>ww k s) (qgg s):=by
 have hp:=h.pp
 have ham:=h.am
 have hpl:=h.pl
 have hsent:=h.sent
 have htot:=h.tot
 obtain ⟨hcl,hc12⟩:=h.chl
 have hw1:IntKind.wrap .i64 ((p:Int) - 1)=(p:Int) - 1:=kc (by omega) (by omega)
 have hw2:IntKind.wrap .i64 ((p:Int)*(p - 1))=(p:Int)*(p - 1):=by
  rw [←hcl]
  exact kc (by omega) (by omega)
 unfold ww
 rw [ham,hw1,hw2]
 refine Is.ite (fun hh=>False.elim ?_) (fun _=>?_)
 ·simp only [zx,Bool.or_eq_true,Bool.not_eq_true',Bool.and_eq_false_iff,decide_eq_true_eq,decide_eq_false_iff_not] at hh
  omega
 rcases qh3 (B:=fun k i46 x47 s100=>qad k s i46 x47 s100) (l:=s.Amounts) (Q:=fun i a=>a≤1000∧∀ x,s.Pictures[i]? = some x→x.Taken=false→true ∉ x.Closed) (st:=fun i=>(s.Amounts.take i).sum) (r0:=false) (by omega) (fun i a hx=>by
  obtain ⟨x,hxp⟩:=js (l:=s.Pictures) (i:=i) (by rw [hpl,← ham]; exact (List.getElem?_eq_some_iff.1 hx).1)
  have hab:=h.an a (List.mem_of_getElem? hx)
  have hb:=qha h i
  unfold qad
  rw [ham,qkh hx]
  obtain ⟨b,e,hbb⟩ : Is (fun k=>(if (!(zx a 0 1000))=true then (some true) else ((zt s.Pictures (i:Int)).bind fun x73=>((xu k x73 (i:Int) (p:Int)).bind fun v76=>(some (!v76)))))) (¬ (a≤1000∧∀ x,s.Pictures[i]? = some x→x.Taken=false→true ∉ x.Closed)):=by
   refine Is.ite (fun hh=>Is.T (fun hq=>?_)) (fun hh=>?_)
   ·simp only [zx,Bool.not_eq_true',Bool.and_eq_false_iff,decide_eq_false_iff_not] at hh
    omega
   ·have ha:a≤1000:=by
     simp only [zx,Bool.not_eq_false',Bool.and_eq_true,decide_eq_true_eq] at hh
     omega
    refine Is.bindv (Ev.of (zz hxp)) (Is.bind (qnd h hxp) (fun b hb=>Is.of ?_))
    simp only [ha,true_and,hxp,Option.some.injEq,forall_eq']
    rw [←hb]
    cases b <;> simp
  refine ⟨b,Ev.bind e ?_,hbb⟩
  rw [kc (by omega) (by omega)]
  cases b <;> exact Ev.rfl) with ⟨q1,e1⟩ | ⟨q1,e1⟩
 rotate_left
 ·exact ⟨false,Ev.jn_ret e1,by simp only [Bool.false_eq_true,false_iff]; exact fun hg=>q1 hg.1.1⟩
 have hst0:(s.Amounts.take 0).sum=0:=rfl
 simp only [hst0] at e1
 have hIs:Is (fun k=>qbs s (s.Amounts.take s.Amounts.length).sum) (qgg s):=by
  rw [List.take_length]
  unfold qbs
  rw [ham]
  refine Is.bindv (qm9 hp (by omega)) ?_
  rcases qh3 (B:=fun _ i143 x144 s379=>qag s i143 x144 s379) (l:=s.Chans) (Q:=fun i c=>c.Way.length≤8∧qc1 s.Pictures c) (st:=fun _=>ya p) (r0:=false) (by omega) (fun i c hx=>by
   obtain ⟨f,t,e1,e2,l1,l2,l3,c0,hc0,f1,f2⟩:=h.ends hx
   obtain ⟨w9,wz⟩:=h.wn i c hx
   obtain ⟨xt,hxt⟩:=js (l:=s.Pictures) (i:=t) (by rw [hpl]; exact l2)
   obtain ⟨xf,hxf⟩:=js (l:=s.Pictures) (i:=f) (by rw [hpl]; exact l1)
   obtain ⟨b,hb⟩:=js (l:=xt.Closed) (i:=f) (by rw [(h.pi t xt hxt).2]; exact l1)
   have gt:zt s.Pictures c.To=some xt:=by rw [e2]; exact zz hxt
   have gf:zt s.Pictures c.From=some xf:=by rw [e1]; exact zz hxf
   have gb:zt xt.Closed c.From=some b:=by rw [e1]; exact zz hb
   have hm:qc1 s.Pictures c↔(kg c.Way=if xf.Taken=true∧b=false then 1 else 0)∧(b=true→xf.Taken=true):=by
    unfold qc1
    rw [e1,e2,Int.toNat_natCast,Int.toNat_natCast,qdq hxf,qgd hxt hb]
   unfold qag
   by_cases h8:c.Way.length≤8
   ·have hkey:jk (fun i229 x230 s268=>yv i229 x230 s268) c.Way 0=some (.nxt (kg c.Way:Int)):=by
     unfold jk
     rw [if_pos (by omega)]
     have:=ql2 (B:=fun i229 x230 s268=>yv i229 x230 s268) (fun i x m hm h0 h1=>by
      unfold yv
      rw [if_neg (by simp only [zx,Bool.not_eq_true',Bool.and_eq_false_iff,decide_eq_false_iff_not]; omega)]
      by_cases hz:x=0
      ·rw [if_pos (by simpa using hz),if_pos hz,qkb (by omega)]
      ·rw [if_neg (by simpa using hz),if_neg hz]; rfl) c.Way 0 0 wz (by omega)
     rw [Nat.zero_add] at this
     exact this
    have hj:∃ v:Bool,Ev (fun _=>qby s (ya p) c (kg c.Way:Int)) (if v=true then .ret false else .nxt (ya p))∧(v=true↔¬ qc1 s.Pictures c):=by
     unfold qby
     refine ⟨decide ((kg c.Way:Int)≠(if xf.Taken=true∧b=false then 1 else 0))||(b && !xf.Taken),Ev.bindp gt (Ev.bindp gb (Ev.bindp gf (Ev.bind (a:=(if xf.Taken=true∧b=false then 1 else 0)) ?_ ?_))),?_⟩
     ·cases hT:xf.Taken <;> cases b <;> exact Ev.rfl
     ·unfold qc6
      by_cases hz:(kg c.Way:Int)=(if xf.Taken=true∧b=false then 1 else 0)
      ·refine Ev.bind (a:=b && !xf.Taken) (Ev.iteF (by simpa using hz) (Ev.bind (a:=b && !xf.Taken) ?_ Ev.rfl)) ?_
       ·cases b with
        | false=>exact Ev.iteF rfl Ev.rfl
        | true=>exact Ev.iteT rfl (Ev.bindp gf (Ev.of (by simp)))
       ·rw [show decide ((kg c.Way:Int)≠(if xf.Taken=true∧b=false then 1 else 0))=false by simpa using hz,Bool.false_or]
        cases (b && !xf.Taken) <;> exact Ev.rfl
      ·refine Ev.bind (a:=true) (Ev.iteT (by simpa using hz) Ev.rfl) ?_
       rw [show decide ((kg c.Way:Int)≠(if xf.Taken=true∧b=false then 1 else 0))=true by simpa using hz,Bool.true_or]
       exact Ev.rfl
     ·rw [hm]
      cases hT:xf.Taken <;> cases b <;> simp <;> omega
    obtain ⟨v,ev,hv⟩:=hj
    refine ⟨v,Ev.bindp (zz hc0) (Ev.iteF (by simp [f1,f2]; omega) (Ev.jn (Ev.of hkey) ev)),by rw [hv]; simp [h8]⟩
   ·exact ⟨true,Ev.bindp (zz hc0) (Ev.iteT (by simp; omega) Ev.rfl),by simp only [true_iff]; exact fun hh=>h8 hh.1⟩) with ⟨q2,e2⟩ | ⟨q2,e2⟩
  ·refine (⟨decide (s.Amounts.sum+(y8 s.Chans).sum=s.Total),Ev.jn e2 ?_,?_⟩)
   ·unfold qdb
    have hb:=qha h s.Amounts.length
    rw [List.take_length] at hb
    have hwb:=ql8 h
    refine Ev.bindp (q58 h) (Ev.of ?_)
    rw [kc (by omega) (by omega)]
   ·rw [decide_eq_true_eq]
    exact ⟨fun e=>⟨⟨q1,q2⟩,e⟩,fun hg=>hg.2⟩
  ·exact ⟨false,Ev.jn_ret e2,by simp only [Bool.false_eq_true,false_iff]; exact fun hg=>q2 hg.1.2⟩
 obtain ⟨b,e,hb⟩:=hIs
 exact ⟨b,Ev.jn e1 e,hb⟩
theorem q6a {p:Nat}(hp:2≤p∧p≤4) : Ev (fun k=>qcv k (p:Int)) (ya p):=by
 have:p=2∨p=3∨p=4:=by omega
 rcases this with rfl | rfl | rfl <;> exact qp8 (fun k=>rfl)
theorem GoodSnap_is {p:Nat}{s:Snap}(h:Shape p s) : Is (fun k=>wc k s) (qgg s):=by
 have hp:=h.pp
 have ham:=h.am
 have hpl:=h.pl
 have hsent:=h.sent
 have htot:=h.tot
 obtain ⟨hcl,hc12⟩:=h.chl
 unfold wc
 rw [ham]
 refine Is.bindv (q6a hp) ?_
 rw [if_neg (by
  have:=qi6 hp
  simp only [ja,Bool.or_eq_true,Bool.not_eq_true',Bool.and_eq_false_iff,decide_eq_true_eq,decide_eq_false_iff_not]
  omega)]
 rcases qh3 (B:=fun _ i49 x50 s100=>qan s i49 x50 s100) (l:=s.Amounts) (Q:=fun i a=>a≤1000∧∀ x,s.Pictures[i]? = some x→x.Taken=false→true ∉ x.Closed) (st:=fun i=>(s.Amounts.take i).sum) (r0:=false) (by omega) (fun i a hx=>by
  obtain ⟨x,hxp⟩:=js (l:=s.Pictures) (i:=i) (by rw [hpl,← ham]; exact (List.getElem?_eq_some_iff.1 hx).1)
  have hab:=h.an a (List.mem_of_getElem? hx)
  have hb:=qha h i
  unfold qan
  rw [qkh hx]
  obtain ⟨b,e,hbb⟩ : Is (fun _=>(if (!(ja a 0 1000))=true then (some true) else ((qaf s (i:Int)).bind fun v76=>(some (!v76))))) (¬ (a≤1000∧∀ x,s.Pictures[i]? = some x→x.Taken=false→true ∉ x.Closed)):=by
   by_cases ha:a≤1000
   ·rw [if_neg (by simp only [ja,Bool.not_eq_true',Bool.and_eq_false_iff,decide_eq_false_iff_not]; omega)]
    refine Is.bind (qm0 h hxp) (fun b hb=>Is.of ?_)
    simp only [ha,true_and,hxp,Option.some.injEq,forall_eq']
    rw [←hb]
    cases b <;> simp
   ·rw [if_pos (by simp only [ja,Bool.not_eq_true',Bool.and_eq_false_iff,decide_eq_false_iff_not]; omega)]
    exact Is.T (fun hh=>ha hh.1)
  refine ⟨b,Ev.bind e ?_,hbb⟩
  rw [kc (by omega) (by omega)]
  cases b <;> exact Ev.rfl) with ⟨q1,e1⟩ | ⟨q1,e1⟩
 rotate_left
 ·exact ⟨false,Ev.jn_ret e1,by simp only [Bool.false_eq_true,false_iff]; exact fun hg=>q1 hg.1.1⟩
 have hst0:(s.Amounts.take 0).sum=0:=rfl
 simp only [hst0] at e1
 have hIs:Is (fun k=>qb6 s (ya p) (s.Amounts.take s.Amounts.length).sum) (qgg s):=by
  rw [List.take_length]
  unfold qb6
  rcases qh3 (B:=fun _ i115 x116 s338=>qao s i115 x116 s338) (l:=s.Chans) (Q:=fun i c=>c.Way.length≤8∧qc1 s.Pictures c) (st:=fun _=>ya p) (r0:=false) (by omega) (fun i c hx=>by
   obtain ⟨f,t,e1,e2,l1,l2,l3,c0,hc0,f1,f2⟩:=h.ends hx
   obtain ⟨w9,wz⟩:=h.wn i c hx
   obtain ⟨xt,hxt⟩:=js (l:=s.Pictures) (i:=t) (by rw [hpl]; exact l2)
   obtain ⟨xf,hxf⟩:=js (l:=s.Pictures) (i:=f) (by rw [hpl]; exact l1)
   obtain ⟨b,hb⟩:=js (l:=xt.Closed) (i:=f) (by rw [(h.pi t xt hxt).2]; exact l1)
   have gt:zt s.Pictures c.To=some xt:=by rw [e2]; exact zz hxt
   have gf:zt s.Pictures c.From=some xf:=by rw [e1]; exact zz hxf
   have gb:zt xt.Closed c.From=some b:=by rw [e1]; exact zz hb
   have hm:qc1 s.Pictures c↔(kg c.Way=if xf.Taken=true∧b=false then 1 else 0)∧(b=true→xf.Taken=true):=by
    unfold qc1
    rw [e1,e2,Int.toNat_natCast,Int.toNat_natCast,qdq hxf,qgd hxt hb]
   unfold qao
   by_cases h8:c.Way.length≤8
   ·have hmk:qcs c=some (kg c.Way:Int):=by
     unfold qcs jk
     rw [if_pos (by omega)]
     have:=ql2 (B:=fun i9 x10 s34=>qa1 i9 x10 s34) (fun i x m hm h0 h1=>by
      unfold qa1
      by_cases hz:x=0
      ·rw [if_pos (by simpa using hz),if_pos hz,qkb (by omega)]
      ·rw [if_neg (by simpa using hz),if_neg hz]; rfl) c.Way 0 0 wz (by omega)
     rw [Nat.zero_add] at this
     have h0:((0:Nat) : Int)=0:=rfl
     rw [h0] at this
     rw [this]
     rfl
    have hrng:Ev (fun _=>jk (fun i199 x200 (_:Unit)=>qah i199 x200) c.Way ()) (.nxt ()):=qed (by omega) (fun i z hz=>by
     have:=wz z (List.mem_of_getElem? hz)
     unfold qah
     refine Ev.iteF ?_ Ev.rfl
     simp only [ja,Bool.not_eq_false',Bool.and_eq_true,decide_eq_true_eq]
     omega)
    have hzl:kg c.Way≤9:=by
     have:∀ l:List Int,kg l≤l.length:=by
      intro l
      induction l with
      | nil=>exact Nat.le_refl _
      | cons z l ih=>simp only [kg,List.length_cons]; split <;> omega
     exact Nat.le_trans (this _) w9
    have hj:∃ v:Bool,Ev (fun _=>qcf s (ya p) c) (if v=true then .ret false else .nxt (ya p))∧(v=true↔¬ qc1 s.Pictures c):=by
     unfold qcf
     refine ⟨(xf.Taken&&decide ((kg c.Way:Int)+(if b=true then 1 else 0)≠1))||(!xf.Taken&&decide ((kg c.Way:Int)+(if b=true then 1 else 0)≠0)),Ev.bindp hmk (Ev.bindp gt (Ev.bindp gb (Ev.bind (a:=(kg c.Way:Int)+(if b=true then 1 else 0)) ?_ ?_))),?_⟩
     ·cases b with
      | true=>exact Ev.iteT rfl (Ev.of (by rw [kc (by omega) (by omega)]; simp))
      | false=>exact Ev.iteF rfl (Ev.of (by simp))
     ·unfold qdy
      refine Ev.bindp gf ?_
      cases hA:(xf.Taken&&decide ((kg c.Way:Int)+(if b=true then 1 else 0)≠1)) with
      | true=>exact Ev.bind (a:=true) (Ev.iteT rfl Ev.rfl) (Ev.iteT rfl (by rw [Bool.true_or]; exact Ev.rfl))
      | false =>
       refine Ev.bind (Ev.iteF rfl (Ev.bindp gf Ev.rfl)) ?_
       rw [Bool.false_or]
       cases (!xf.Taken&&decide ((kg c.Way:Int)+(if b=true then 1 else 0)≠0)) <;> exact Ev.rfl
     ·rw [hm]
      cases hT:xf.Taken <;> cases b <;> simp <;> omega
    obtain ⟨v,ev,hv⟩:=hj
    refine ⟨v,Ev.bindp (zz hc0) (Ev.iteF (by simp [f1,f2]; omega) (Ev.jn hrng ev)),by rw [hv]; simp [h8]⟩
   ·exact ⟨true,Ev.bindp (zz hc0) (Ev.iteT (by simp; omega) Ev.rfl),by simp only [true_iff]; exact fun hh=>h8 hh.1⟩) with ⟨q2,e2⟩ | ⟨q2,e2⟩
  ·refine (⟨decide (s.Amounts.sum+(y8 s.Chans).sum=s.Total),Ev.jn e2 ?_,?_⟩)
   ·unfold qd3
    have hb:=qha h s.Amounts.length
    rw [List.take_length] at hb
    have hwb:=ql8 h
    refine Ev.bindp (qou h) ?_
    rw [kc (by omega) (by omega)]
    by_cases he:s.Amounts.sum+(y8 s.Chans).sum=s.Total
    ·refine Ev.iteT (by simpa using he) (Ev.of ?_)
     rw [decide_eq_true he]
     simp only [ja,Option.some.injEq,Bool.and_eq_true,decide_eq_true_eq]
     exact htot
    ·rw [decide_eq_false he]
     exact Ev.iteF rfl Ev.rfl
   ·rw [decide_eq_true_eq]
    exact ⟨fun e=>⟨⟨q1,q2⟩,e⟩,fun hg=>hg.2⟩
  ·exact ⟨false,Ev.jn_ret e2,by simp only [Bool.false_eq_true,false_iff]; exact fun hg=>q2 hg.1.2⟩
 obtain ⟨b,e,hb⟩:=hIs
 exact ⟨b,Ev.jn e1 e,hb⟩
theorem qe5 {p n:Nat}{s:Snap}(hn:n≤900)(h:SnInv p n s)(hg:SnG p s) : Shape p s:=by
 have ht0:0≤s.Total:=by have:=qem h.an; have:=qem h.ways; have:=h.sum; omega
 refine ⟨h.ok.pp,h.ok.am,fun z hz=>by have:=h.am_le hz; omega,h.ok.pl,h.ok.pi,fun i x hx z hz=>by have:=h.inn i x hx z hz; omega,fun i x hx hT=>?_,fun i x hx hT=>(hg.pic i x hx).yes hT,hg.ft,fun i c hc=>⟨by have:=(h.ok.ch i c hc).2.2.2; omega,fun z hz=>h.way_le hc hz⟩,h.sent,ht0,h.tot⟩
 obtain ⟨h1,h2,h3⟩:=(hg.pic i x hx).no hT
 obtain ⟨b,hb⟩:=js (l:=x.Closed) (i:=i) (by have:=(List.getElem?_eq_some_iff.1 hx).1; rw [h.ok.pl] at this; rw [(h.ok.pi i x hx).2]; exact this)
 exact ⟨h1,h2,by rw [hb,h3 b (List.mem_of_getElem? hb)]⟩
theorem q52 {p n:Nat}{s:Snap}(h:SnInv p n s)(hg:SnG p s) : qgg s:=by
 refine ⟨⟨fun i a ha=>⟨(h.am_le (List.mem_of_getElem? ha)).2,fun x hx hT hm=>?_⟩,fun i c hc=>⟨(h.ok.ch i c hc).2.2.2,hg.mks i c hc⟩⟩,h.sum⟩
 exact absurd (((hg.pic i x hx).no hT).2.2 true hm) (by decide)
end Go.Proofs.Ytpkiieniipenjaa.X
