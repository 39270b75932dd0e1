/- What is asked of a good world: whether it is good, what is on the way, what the picture has. -/
import Derived.Test.YtpkiieniipenjaaXCL8g
import Derived.Test.YtpkiieniipenjaaXCLArefl
set_option linter.unusedVariables false
set_option linter.unusedSimpArgs false
namespace Go.Proofs.Ytpkiieniipenjaa.X
open Go

/-! sums,step by step -/
theorem qj5 {α ρ:Type}{B:Nat→Nat→α→Int→Option (Oc Int ρ)}{l:List α}{g:α→Int}{s0:Int}(hB:∀ (i:Nat) (x:α) (s:Int),l[i]? = some x→0≤s→s≤1000000000000→Ev (fun k=>B k i x s) (.nxt (s+g x)))(hg:∀ x∈l,0≤g x∧g x≤1000000000)(hl:l.length≤100)(h0:0≤s0∧s0≤1000000000) : Ev (fun k=>jk (B k) l s0) (.nxt (s0+(l.map g).sum)):=by
 refine xg (by omega) (fun i q s=>l.drop i=q∧0≤s∧s≤1000000000+1000000000*i∧s+(q.map g).sum=s0+(l.map g).sum) ⟨by simp,h0.1,by omega,by simp⟩ (fun i x q s ⟨h1,h2,h3,h4⟩ => .inl ?_) (fun i s ⟨h1,h2,h3,h4⟩=>by rw [←h4]; simp)
 have hx:l[i]? = some x:=by have:=congrArg (fun z=>z[0]?) h1; simpa using this
 have hi:=(List.getElem?_eq_some_iff.1 hx).1
 have hgx:=hg x (List.mem_of_getElem? hx)
 simp only [List.map_cons,List.sum_cons] at h4
 exact ⟨_,hB i x s hx h2 (by omega),by have:=congrArg (List.drop 1) h1; simpa [List.drop_drop] using this,by omega,by omega,by omega⟩
theorem qb1 {l:List Int}{b:Int}(h:∀ z∈l,0≤z∧z≤b) : 0≤l.sum∧l.sum≤b*l.length:=by
 induction l with
 | nil=>simp
 | cons a r ih =>
  have h1:=h a (by simp)
  have h2:=ih (fun z hz=>h z (by simp [hz]))
  simp only [List.sum_cons,List.length_cons,Int.natCast_add,Int.mul_add]
  omega
theorem qkq {l:List Int} : (l.map fun x=>x).sum=l.sum:=by rw [List.map_id']
theorem SnInv.way_sum {p n:Nat}{s:Snap}(h:SnInv p n s) : ∀ c∈s.Chans,0≤c.Way.sum∧c.Way.sum≤1000:=by
 intro c hc
 have h1:=h.ways c.Way.sum (by unfold y8; exact List.mem_map.2 ⟨c,hc,rfl⟩)
 have h2:=qjd h.ways (x:=c.Way.sum) (by unfold y8; exact List.mem_map.2 ⟨c,hc,rfl⟩)
 have h3:=qem h.an
 have h4:=h.sum
 have h5:=h.tot
 exact ⟨h1,by omega⟩
theorem qm4 {p n:Nat}{s:Snap}(h:SnInv p n s) : Ev (fun _=>xe s) (y8 s.Chans).sum:=by
 unfold xe
 have hc:=h.ok.chl
 refine Ev.jn (s:=0+(s.Chans.map fun c=>c.Way.sum).sum) (qj5 (B:=fun _ i x s=>wm i x s) (fun i c t hx h0 h1=>?_) (fun c hcm=>by have:=h.way_sum c hcm; omega) (by omega) (by omega)) ?_
 ·unfold wm
  have hw:=(h.ok.ch i c hx).2.2.2
  by_cases ht:t≤1000000000
  ·refine Ev.jn (s:=t+(c.Way.map fun z=>z).sum) (qj5 (B:=fun _ i x s=>yd i x s) (fun j z u hz hu0 hu1=>Ev.of ?_) (fun z hz=>by have:=h.way_le hx hz; omega) (by omega) ⟨h0,ht⟩) ?_
   ·have:=h.way_le hx (List.mem_of_getElem? hz)
    unfold yd
    rw [kc (by omega) (by omega)]
   ·rw [qkq]
    exact Ev.rfl
  ·refine Ev.jn (s:=t+c.Way.sum) ?_ Ev.rfl
   have key:∀ (l:List Int) (i:Nat) (u:Int),(∀ z∈l,0≤z∧z≤1000)→0≤u→u+1000*l.length≤2000000000000→kt (fun i x s=>yd i x s) l i u=some (.nxt (u+l.sum)):=by
    intro l
    induction l with
    | nil=>intro i u _ _ _; simp [kt]
    | cons z l ih =>
     intro i u hz h0 h1
     have hz0:=hz z (by simp)
     simp only [List.length_cons,Int.natCast_add,Int.mul_add] at h1
     have e:yd i z u=some (.nxt (u+z)):=by
      unfold yd
      rw [kc (by omega) (by omega)]
     simp only [kt,e,List.sum_cons]
     rw [ih (i+1) (u+z) (fun y hy=>hz y (by simp [hy])) (by omega) (by omega)]
     congr 2
     omega
   refine Ev.of ?_
   unfold jk
   rw [if_pos (by omega)]
   exact key c.Way 0 t (fun z hz=>h.way_le hx hz) h0 (by omega)
 ·unfold qc5
  rw [Int.zero_add]
  exact Ev.rfl

/-! a picture -/
theorem Contains_bool_is {l:List Bool}{v:Bool}(hl:l.length≤4611686018427387904) : Is (fun _=>y9 l v) (v∈l):=by
 unfold y9 qbh
 rcases qcl (B:=fun _ i x _=>ue v i x) (Q:=fun _ x=>v=x) (f:=fun i=>(i:Int)) hl (fun i x hx=>by unfold ue; exact qe0 (by simp)) with ⟨i,x,h1,rfl,h3,h4⟩ | ⟨h1,h2⟩
 ·refine Is.bindv (Ev.jn_ret h4) (Is.of ?_)
  simp only [decide_eq_true_eq]
  exact ⟨fun _=>List.mem_of_getElem? h1,fun _=>by omega⟩
 ·refine Is.bindv (Ev.jn h2 Ev.rfl) (Is.F ?_)
  intro h
  obtain ⟨i,hi⟩:=List.getElem?_of_mem h
  exact h1 i v hi rfl
theorem Max_zero {l:List Int}(hl:1≤l.length∧l.length≤100)(h:∀ z∈l,z=0) : Ev (fun k=>qbq k l) 0:=by
 unfold qbq
 have h0:zt l 0=some 0:=by
  obtain ⟨x,hx⟩:=js (l:=l) (i:=0) (by omega)
  show l[0]? = some 0
  rw [hx,h x (List.mem_of_getElem? hx)]
 refine Ev.bind (a:=()) (Ev.iteF (by simp; omega) Ev.rfl) ?_
 unfold qdh
 refine Ev.bindp h0 (Ev.jn (s:=(0,(l.length:Int))) (Ev.loop (fun st=>∃ i:Nat,1≤i∧i≤l.length∧st=(0,(i:Int))) (fun st=>l.length - st.2.toNat) ⟨1,by omega,by omega,rfl⟩ ?_) Ev.rfl)
 rintro st ⟨i,h1,h2,rfl⟩
 unfold qbf
 by_cases hi:i<l.length
 ·obtain ⟨x,hx⟩:=js hi
  have hx0:=h x (List.mem_of_getElem? hx)
  subst hx0
  refine .inl ⟨(0,((i+1:Nat) : Int)),?_,⟨i+1,by omega,by omega,rfl⟩,by simp only [Int.toNat_natCast]; omega⟩
  rw [if_pos (by simpa using hi),zz hx,Option.bind_some,qkb (by omega)]
  rfl
 ·have:i=l.length:=by omega
  subst this
  exact .inr (.inl ⟨(0,(l.length:Int)),by rw [if_neg (by simp)],rfl⟩)
theorem qmt {p n k:Nat}{x:Picture}(hp:2≤p∧p≤4)(hn:n≤900)(hl:x.In.length=p∧x.Closed.length=p)(hin:∀ z∈x.In,0≤z∧z≤1000*(n:Int))(h:PicOk k x) : Ev (fun q=>xu q x (k:Int) (p:Int)) true:=by
 unfold xu
 have hf:Ev (fun _=>yj x.In (fun a0=>some (wq a0))) false:=by
  unfold yj xz
  refine Ev.bind (Ev.jn (qed (by omega) (fun i z hz=>?_)) Ev.rfl) Ev.rfl
  have:=hin z (List.mem_of_getElem? hz)
  unfold w7 wq
  refine Ev.bind Ev.rfl (Ev.iteF ?_ Ev.rfl)
  simp only [zx,Bool.not_eq_false',Bool.and_eq_true,decide_eq_true_eq]
  omega
 refine Ev.bind (a:=false) (Ev.iteF (by simp [hl]) (Ev.bind hf Ev.rfl)) (Ev.iteF rfl ?_)
 cases hT:x.Taken with
 | false =>
  obtain ⟨h1,h2,h3⟩:=h.no hT
  obtain ⟨b,e,hb⟩:=Contains_bool_is (l:=x.Closed) (v:=true) (by omega)
  have hbf:b=false:=by
   cases b with
   | false=>rfl
   | true=>exact absurd (h3 true (hb.1 rfl)) (by decide)
  subst hbf
  refine Ev.iteT rfl (Ev.bind (a:=true) (Ev.iteT (by simp [h1]) (Ev.bind (Max_zero (by omega) h2) Ev.rfl)) ?_)
  exact Ev.bind (Ev.iteT rfl (Ev.bind e Ev.rfl)) Ev.rfl
 | true =>
  obtain ⟨h1,h2,h3⟩:=h.yes hT
  refine Ev.iteF rfl (Ev.bind (a:=true) (Ev.iteT ?_ (Ev.bindp (zz h2) Ev.rfl)) ?_)
  ·simp only [zx,Bool.and_eq_true,decide_eq_true_eq]; exact h1
  ·exact Ev.bind (Ev.iteT rfl (Ev.bindp (zz h3) Ev.rfl)) Ev.rfl
theorem qm9 {p:Nat}{a:Int}(hp:2≤p∧p≤4)(ha:0≤a∧a≤250) : Ev (fun _=>wd (p:Int) a) (uu p a):=by
 have:p=2∨p=3∨p=4:=by omega
 rcases this with rfl | rfl | rfl
 ·exact qs0 ha
 ·exact qu0 ha
 ·exact qsa ha
theorem qi6 {p:Nat}(hp:2≤p∧p≤4) : ((ya p).length:Int)=p*(p - 1):=by
 have:p=2∨p=3∨p=4:=by omega
 rcases this with rfl | rfl | rfl <;> decide
theorem qec {p n:Nat}{s:Snap}(hn:n≤900)(h:SnInv p n s)(hg:SnG p s) : Ev (fun k=>ww k s) true:=by
 have hp:=h.ok.pp
 have ham:=h.ok.am
 have hpl:=h.ok.pl
 have hsent:=h.sent
 have htot:=h.tot
 have ht0:0≤s.Total:=by have:=qem h.an; have:=qem h.ways; have:=h.sum; omega
 have hcl:(s.Chans.length:Int)=p*(p - 1):=by
  rw [←qi6 hp]
  have:=congrArg List.length hg.ft
  simp only [prs,List.length_map] at this
  rw [this]
 have hw1:IntKind.wrap .i64 ((p:Int) - 1)=(p:Int) - 1:=kc (by omega) (by omega)
 have hw2:IntKind.wrap .i64 ((p:Int)*(p - 1))=(p:Int)*(p - 1):=by
  rw [←hcl]
  have:=h.ok.chl
  exact kc (by omega) (by omega)
 unfold ww
 rw [ham,hw1,hw2]
 refine Ev.iteF ?_ (Ev.jn (s:=0+(s.Amounts.map fun z=>z).sum) (qj5 (fun i a t hx h0 h1=>?_) (fun a ha=>by have:=h.am_le ha; omega) (by omega) (by omega)) ?_)
 ·simp only [zx,Bool.or_eq_false_iff,Bool.not_eq_false',Bool.and_eq_true,decide_eq_true_eq,decide_eq_false_iff_not]
  omega
 ·have hab:=h.am_le (List.mem_of_getElem? hx)
  obtain ⟨y,hy⟩:=js (l:=s.Pictures) (i:=i) (by rw [hpl,← ham]; exact (List.getElem?_eq_some_iff.1 hx).1)
  have hpic:=qmt (n:=n) hp hn (h.ok.pi i y hy) (h.inn i y hy) (hg.pic i y hy)
  unfold qad
  rw [ham]
  refine Ev.bind (a:=false) (Ev.iteF ?_ (Ev.bindp (zz hy) (Ev.bind hpic Ev.rfl))) (Ev.iteF rfl ?_)
  ·simp only [zx,Bool.not_eq_false',Bool.and_eq_true,decide_eq_true_eq]; exact hab
  ·rw [kc (by omega) (by omega)]
   exact Ev.rfl
 ·unfold qbs
  rw [ham,qkq,Int.zero_add]
  refine Ev.bind (qm9 hp (by omega)) (Ev.jn (s:=ya p) ?_ ?_)
  ·have hl:=h.ok.chl
   refine xg (by omega) (fun i q t=>s.Chans.drop i=q∧t=ya p) ⟨rfl,rfl⟩ (fun i c q t ⟨h1,h2⟩ => .inl ⟨ya p,?_,by have:=congrArg (List.drop 1) h1; simpa [List.drop_drop] using this,rfl⟩) (fun i t ⟨h1,h2⟩=>by rw [h2])
   subst h2
   have hx:s.Chans[i]? = some c:=by have:=congrArg (fun z=>z[0]?) h1; simpa using this
   obtain ⟨f,t,e1,e2,l1,l2,l3,e3,e4⟩:=h.ok.ends hx
   obtain ⟨m1,m2⟩:=hg.mks i c hx
   have hpx:(prs (ya p))[i]? = some (c.From,c.To):=by rw [←hg.ft]; simp [prs,hx]
   simp only [prs,List.getElem?_map,Option.map_eq_some_iff] at hpx
   obtain ⟨c0,hc0,hce⟩:=hpx
   have f1:c0.From=c.From:=congrArg Prod.fst hce
   have f2:c0.To=c.To:=congrArg Prod.snd hce
   have hwl:=(h.ok.ch i c hx).2.2.2
   obtain ⟨xt,hxt⟩:=js (l:=s.Pictures) (i:=t) (by rw [hpl]; exact l2)
   obtain ⟨xf,hxf⟩:=js (l:=s.Pictures) (i:=f) (by rw [hpl]; exact l1)
   obtain ⟨b,hb⟩:=js (l:=xt.Closed) (i:=f) (by rw [(h.ok.pi t xt hxt).2]; exact l1)
   rw [e3,e4,qdq hxf,qgd hxt hb] at m1 m2
   have gt:zt s.Pictures c.To=some xt:=by rw [e2]; exact zz hxt
   have gf:zt s.Pictures c.From=some xf:=by rw [e1]; exact zz hxf
   have gb:zt xt.Closed c.From=some b:=by rw [e1]; exact zz hb
   unfold qag
   refine Ev.bindp (zz hc0) (Ev.iteF (by simp [f1,f2]; omega) (Ev.jn (s:=(kg c.Way:Int)) ?_ ?_))
   ·have key:∀ (l:List Int) (i m:Nat),(∀ z∈l,0≤z∧z≤1000)→m+l.length≤1000→kt (fun i x s=>yv i x s) l i (m:Int)=some (.nxt ((m+kg l:Nat) : Int)):=by
     intro l
     induction l with
     | nil=>intro i m _ _; simp [kt,kg]
     | cons z l ih =>
      intro i m hz hm
      have hz0:=hz z (by simp)
      simp only [List.length_cons] at hm
      have hin:(!(zx z 0 1000))=false:=by simp only [zx,Bool.not_eq_false',Bool.and_eq_true,decide_eq_true_eq]; exact hz0
      by_cases e:z=0
      ·have eb:yv i z (m:Int)=some (.nxt ((m+1:Nat) : Int)):=by
        unfold yv
        rw [if_neg (by rw [hin]; decide),if_pos (by simpa using e),qkb (by omega)]
       simp only [kt,eb]
       rw [ih (i+1) (m+1) (fun y hy=>hz y (by simp [hy])) (by omega)]
       simp only [kg,if_pos e]
       congr 3
       omega
      ·have eb:yv i z (m:Int)=some (.nxt (m:Int)):=by
        unfold yv
        rw [if_neg (by rw [hin]; decide),if_neg (by simpa using e)]
       simp only [kt,eb]
       rw [ih (i+1) m (fun y hy=>hz y (by simp [hy])) (by omega)]
       simp only [kg,if_neg e,Nat.zero_add]
    refine Ev.of ?_
    unfold jk
    rw [if_pos (by omega)]
    have:=key c.Way 0 0 (fun z hz=>h.way_le hx hz) (by omega)
    rw [Nat.zero_add] at this
    exact this
   ·unfold qby
    refine Ev.bindp gt (Ev.bindp gb (Ev.bindp gf (Ev.bind (a:=(kg c.Way:Int)) ?_ ?_)))
    ·rw [m1]
     cases hT:xf.Taken <;> cases b <;> exact Ev.rfl
    ·unfold qc6
     refine Ev.bind (a:=false) (Ev.iteF (by simp) (Ev.bind (a:=false) ?_ Ev.rfl)) (Ev.iteF rfl Ev.rfl)
     cases b with
     | false=>exact Ev.iteF rfl Ev.rfl
     | true=>exact Ev.iteT rfl (Ev.bindp gf (Ev.of (by rw [m2 rfl]; rfl)))
  ·unfold qdb
   refine Ev.bind (qm4 h) (Ev.of ?_)
   have hsum:=h.sum
   rw [hsum,kc (by omega) (by omega)]
   simp
theorem OnWay_ev {p n:Nat}{s:Snap}(hn:n≤900)(h:SnInv p n s)(hg:SnG p s) : Ev (fun k=>qa8 k s) ((y8 s.Chans).sum,true):=by
 unfold qa8
 exact Ev.bind (qec hn h hg) (Ev.iteF rfl (Ev.bind (qm4 h) Ev.rfl))

/-! the picture -/
def whole (x:Picture) : Prop:=x.Taken=true∧false ∉ x.Closed
theorem qwa:∀ {A:List Int} {P:List Picture},A.length=P.length→(∀ x∈P,whole x)→aS A P=(P.map (·.Amount)).sum:=by
 intro A
 induction A with
 | nil=>intro P h _; cases P with | nil=>rfl | cons=>simp at h
 | cons a A ih =>
  intro P h hw
  cases P with
  | nil=>simp at h
  | cons x P =>
   have hx:=(hw x (by simp)).1
   simp only [aS,wA,hx,if_true,List.map_cons,List.sum_cons]
   rw [ih (by simpa using h) (fun y hy=>hw y (by simp [hy]))]
theorem q6k {α:Type}{f g:α→Int}{l:List α} : (l.map fun x=>f x+g x).sum=(l.map f).sum+(l.map g).sum:=by
 induction l with
 | nil=>rfl
 | cons a r ih=>simp only [List.map_cons,List.sum_cons,ih]; omega
theorem qjq {p n:Nat}{s:Snap}(h:SnInv p n s)(hg:SnG p s)(hw:∀ x∈s.Pictures,whole x) : (s.Pictures.map fun x=>x.Amount+x.In.sum).sum=s.Total:=by
 have hv:=hg.vs
 unfold qkc at hv
 rw [qwa (by rw [h.ok.am,h.ok.pl]) hw] at hv
 have hc:chS s.Pictures s.Chans=0:=by
  unfold chS
  have:s.Chans.map (qdm s.Pictures)=s.Chans.map fun _=>(0:Int):=List.map_congr_left (fun c hc=>by
   obtain ⟨i,hi⟩:=List.getElem?_of_mem hc
   obtain ⟨f,t,e1,e2,l1,l2,l3,e3,e4⟩:=h.ok.ends hi
   obtain ⟨xt,hxt⟩:=js (l:=s.Pictures) (i:=t) (by rw [h.ok.pl]; exact l2)
   obtain ⟨b,hb⟩:=js (l:=xt.Closed) (i:=f) (by rw [(h.ok.pi t xt hxt).2]; exact l1)
   have hbt:b=true:=by
    cases b with
    | true=>rfl
    | false=>exact absurd (List.mem_of_getElem? hb) (hw xt (List.mem_of_getElem? hxt)).2
   subst hbt
   simp only [qdm,e3,e4,qgd hxt hb,if_true])
  rw [this]
  have:∀ l:List Chan,(l.map fun _=>(0:Int)).sum=0:=by
   intro l
   induction l with
   | nil=>rfl
   | cons a r ih=>simp only [List.map_cons,List.sum_cons,ih]; rfl
  exact this _
 rw [q6k]
 rw [hc,Int.add_zero] at hv
 exact hv
theorem qpi {p n:Nat}{s:Snap}(hn:n≤900)(h:SnInv p n s)(hg:SnG p s) : ((∀ x∈s.Pictures,whole x)∧Ev (fun k=>wh k s) (s.Total,true))∨((¬ ∀ x∈s.Pictures,whole x)∧Ev (fun k=>wh k s) (0,false)):=by
 have hp:=h.ok.pp
 have hpl:=h.ok.pl
 have hbody:∀ (i:Nat) (x:Picture) (u:Int),s.Pictures[i]? = some x→0≤u→u≤1000000000→∃ b:Bool,Ev (fun _=>u1 i x u) (if b=true then .ret (0,false) else .nxt (u+(x.Amount+x.In.sum)))∧(b=true↔¬ whole x):=by
  intro i x u hx h0 h1
  have hl:=h.ok.pi i x hx
  have hin:=h.inn i x hx
  unfold u1
  obtain ⟨b,e,hb⟩ : Is (fun _=>if (!x.Taken)=true then some true else ((y9 x.Closed false).bind fun v46=>(some v46))) (¬ whole x):=by
   refine Is.ite (fun hT=>Is.T (fun hw=>by have:=hw.1; simp [this] at hT)) (fun hT=>(Is.bind (Contains_bool_is (by omega)) (fun b hb=>Is.of hb)).iff ?_)
   simp only [Bool.not_eq_false'] at hT
   simp only [whole,hT,true_and,Classical.not_not]
  refine ⟨b,Ev.bind e ?_,hb⟩
  cases b with
  | true=>exact Ev.iteT rfl Ev.rfl
  | false =>
   have hw:whole x:=Classical.not_not.1 (fun hh=>Bool.false_ne_true (hb.2 hh))
   have ha:=((hg.pic i x hx).yes hw.1).1
   have e1:IntKind.wrap .i64 (u+x.Amount)=u+x.Amount:=kc (by omega) (by omega)
   rw [e1]
   refine Ev.iteF rfl (Ev.jn (s:=u+(x.Amount+x.In.sum)) ?_ Ev.rfl)
   have key:∀ (l:List Int) (j:Nat) (v:Int),(∀ z∈l,0≤z∧z≤1000*(n:Int))→0≤v→v+1000*(n:Int)*l.length≤2000000000000→kt (fun i x s=>uf i x s) l j v=some (.nxt (v+l.sum)):=by
    intro l
    induction l with
    | nil=>intro j v _ _ _; simp [kt]
    | cons z l ih =>
     intro j v hz h0 h1
     have hz0:=hz z (by simp)
     simp only [List.length_cons,Int.natCast_add,Int.mul_add] at h1
     have hnn:0≤1000*(n:Int)*(l.length:Int):=Int.mul_nonneg (by omega) (by omega)
     have e:uf j z v=some (.nxt (v+z)):=by
      unfold uf
      rw [kc (by omega) (by omega)]
     simp only [kt,e,List.sum_cons]
     rw [ih (j+1) (v+z) (fun y hy=>hz y (by simp [hy])) (by omega) (by omega)]
     congr 2
     omega
   refine Ev.of ?_
   unfold jk
   rw [if_pos (by omega)]
   have hb4:1000*(n:Int)*x.In.length≤1000*900*4:=by
    rw [hl.1]
    exact Int.mul_le_mul (by omega) (by omega) (by omega) (by omega)
   rw [key x.In 0 (u+x.Amount) hin (by omega) (by omega)]
   congr 2
   omega
 have hsmall:∀ (i:Nat) (x:Picture),s.Pictures[i]? = some x→whole x→0≤x.Amount+x.In.sum∧x.Amount+x.In.sum≤10000000:=by
  intro i x hx hw
  have ha:=((hg.pic i x hx).yes hw.1).1
  have hs:=qb1 (h.inn i x hx)
  have hl:=h.ok.pi i x hx
  have hb4:1000*(n:Int)*x.In.length≤1000*900*4:=by
   rw [hl.1]
   exact Int.mul_le_mul (by omega) (by omega) (by omega) (by omega)
  omega
 by_cases hw:∀ x∈s.Pictures,whole x
 ·refine .inl ⟨hw,?_⟩
  unfold wh
  refine Ev.bind (qec hn h hg) (Ev.iteF rfl (Ev.jn (s:=s.Total) ?_ Ev.rfl))
  rw [←qjq h hg hw]
  refine xg (by omega) (fun i q u=>s.Pictures.drop i=q∧0≤u∧u≤10000000*(i:Int)∧u+(q.map fun x=>x.Amount+x.In.sum).sum=(s.Pictures.map fun x=>x.Amount+x.In.sum).sum) ⟨by simp,by omega,by omega,by simp⟩ (fun i x q u ⟨h1,h2,h3,h4⟩ => .inl ?_) (fun i u ⟨h1,h2,h3,h4⟩=>by rw [←h4]; simp)
  have hx:s.Pictures[i]? = some x:=by have:=congrArg (fun z=>z[0]?) h1; simpa using this
  have hi:=(List.getElem?_eq_some_iff.1 hx).1
  have hwx:=hw x (List.mem_of_getElem? hx)
  have hsm:=hsmall i x hx hwx
  obtain ⟨b,e,hb⟩:=hbody i x u hx h2 (by omega)
  have:b=false:=by
   cases b with
   | false=>rfl
   | true=>exact absurd hwx (hb.1 rfl)
  subst this
  simp only [List.map_cons,List.sum_cons] at h4
  exact ⟨_,e,by have:=congrArg (List.drop 1) h1; simpa [List.drop_drop] using this,by omega,by omega,by omega⟩
 ·refine .inr ⟨hw,?_⟩
  unfold wh
  refine Ev.bind (qec hn h hg) (Ev.iteF rfl (Ev.jn_ret (r:=(0,false)) ?_))
  refine xg (by omega) (fun i q u=>s.Pictures.drop i=q∧0≤u∧u≤10000000*(i:Int)∧∀ (j:Nat) (x:Picture),j<i→s.Pictures[j]? = some x→whole x) ⟨by simp,by omega,by omega,fun j x hj=>by omega⟩ (fun i x q u ⟨h1,h2,h3,h4⟩=>?_) (fun i u ⟨h1,h2,h3,h4⟩=>?_)
  ·have hx:s.Pictures[i]? = some x:=by have:=congrArg (fun z=>z[0]?) h1; simpa using this
   have hi:=(List.getElem?_eq_some_iff.1 hx).1
   obtain ⟨b,e,hb⟩:=hbody i x u hx h2 (by omega)
   cases b with
   | true=>exact .inr (.inr ⟨_,e,rfl⟩)
   | false =>
    have hwx:whole x:=Classical.not_not.1 (fun hh=>Bool.false_ne_true (hb.2 hh))
    have hsm:=hsmall i x hx hwx
    refine .inl ⟨_,e,by have:=congrArg (List.drop 1) h1; simpa [List.drop_drop] using this,by omega,by omega,fun j y hj hy=>?_⟩
    rcases Nat.lt_or_ge j i with hji | hji
    ·exact h4 j y hji hy
    ·have:j=i:=by omega
     subst this
     rw [hx] at hy; cases hy
     exact hwx
  ·exfalso
   have hi:s.Pictures.length≤i:=by have:=congrArg List.length h1; simp at this; omega
   exact hw (fun x hx=>by
    obtain ⟨j,hj⟩:=List.getElem?_of_mem hx
    have:=(List.getElem?_eq_some_iff.1 hj).1
    exact h4 j x (by omega) hj)
end Go.Proofs.Ytpkiieniipenjaa.X
