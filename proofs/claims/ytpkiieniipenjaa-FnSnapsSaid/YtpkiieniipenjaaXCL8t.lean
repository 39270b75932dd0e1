/- A picture is brought to its end, and read: the specification and the program come to the same. -/
import Derived.Test.YtpkiieniipenjaaXCL8s
set_option linter.unusedVariables false
set_option linter.unusedSimpArgs false
namespace Go.Proofs.Ytpkiieniipenjaa.X
open Go

theorem Ev.loop1 {σ ρ:Type}{B:σ→Option (Oc σ ρ)}{s s':σ}{o:Oc σ ρ}(h:B s=some (.nxt s'))(e:Ev (fun k=>yy B k s') o) : Ev (fun k=>yy B k s) o:=by
 obtain ⟨K,e⟩:=e
 refine ⟨K+1,fun k hk=>?_⟩
 obtain ⟨j,rfl⟩ : ∃ j,k=j+1:=⟨k - 1,by omega⟩
 have:=e j (by omega)
 simp only at this
 simp only [yy,h]
 exact this
theorem Ev.loopB {σ ρ:Type}{B:σ→Option (Oc σ ρ)}{s s':σ}(h:B s=some (.brk s')) : Ev (fun k=>yy B k s) (.nxt s'):=by
 refine ⟨1,fun k hk=>?_⟩
 obtain ⟨j,rfl⟩ : ∃ j,k=j+1:=⟨k - 1,by omega⟩
 simp only [yy,h]
theorem Ev.loopR {σ ρ:Type}{B:σ→Option (Oc σ ρ)}{s:σ}{r:ρ}(h:B s=some (.ret r)) : Ev (fun k=>yy B k s) (.ret r):=by
 refine ⟨1,fun k hk=>?_⟩
 obtain ⟨j,rfl⟩ : ∃ j,k=j+1:=⟨k - 1,by omega⟩
 simp only [yy,h]
theorem qhb (s:Snap)(hl:s.Chans.length≤12) : ∃ r:Int,yh s.Chans (fun a0=>some (k9 a0))=some r∧qaj s=some r∧((∃ (i:Nat) (c:Chan),r=(i:Int)∧s.Chans[i]? = some c∧c.Way≠[])∨(r = -1∧∀ c∈s.Chans,c.Way=[])):=by
 have hI:=qcl (B:=fun _ i1 x2 _=>yg (fun a0=>some (k9 a0)) i1 x2) (Q:=fun _ x=>¬ x.Way=[]) (f:=fun i=>(i:Int)) (l:=s.Chans) (by omega) (fun i x hx=>by
  unfold yg k9
  simp only [Option.bind_some]
  refine qe0 ?_
  simp only [decide_eq_true_eq]
  constructor
  ·intro h e; rw [e] at h; simp at h
  ·intro h
   have:=List.length_pos_iff.2 h
   omega)
 have hS:=qcl (B:=fun _ i7 x8 _=>qaz i7 x8) (Q:=fun _ x=>¬ x.Way=[]) (f:=fun i=>(i:Int)) (l:=s.Chans) (by omega) (fun i x hx=>by
  unfold qaz
  refine qe0 ?_
  simp only [decide_eq_true_eq]
  constructor
  ·intro h e; rw [e] at h; simp at h
  ·intro h
   have:=List.length_pos_iff.2 h
   omega)
 unfold yh qaj
 rcases hI with ⟨i,x,g1,g2,g3,g4⟩ | ⟨g1,g2⟩
 ·rcases hS with ⟨j,y,h1,h2,h3,h4⟩ | ⟨h1,h2⟩
  ·have:i=j:=by
    rcases Nat.lt_trichotomy i j with h | h | h
    ·exact absurd g2 (h3 i x h g1)
    ·exact h
    ·exact absurd h2 (g3 j y h h1)
   subst this
   exact ⟨(i:Int),(Ev.jn_ret (G:=fun _ _=>yu) g4).cst,(Ev.jn_ret (G:=fun _ _=>qcp) h4).cst,.inl ⟨i,x,rfl,g1,g2⟩⟩
  ·exact absurd g2 (h1 i x g1)
 ·rcases hS with ⟨j,y,h1,h2,h3,h4⟩ | ⟨h1,h2⟩
  ·exact absurd h2 (g1 j y h1)
  ·refine ⟨-1,(Ev.jn (G:=fun _ _=>yu) g2 Ev.rfl).cst,(Ev.jn (G:=fun _ _=>qcp) h2 Ev.rfl).cst,.inr ⟨rfl,fun c hc=>?_⟩⟩
   obtain ⟨i,hi⟩:=List.getElem?_of_mem hc
   exact Classical.not_not.1 (g1 i c hi)
theorem ql5 {α β:Type}{F:Option (α × β)}{y:α}{b:β}(h:(F.bind fun v=>some (v.1,v.2))=some (y,b)) : F=some (y,b):=by
 cases F with
 | none=>cases h
 | some r=>exact h
theorem q5u {s y:Snap}{i:Nat}{c:Chan}{b:Bool}(hc:s.Chans[i]? = some c)(hw:c.Way≠[])(hl:s.Chans.length≤12)(e:yx s ⟨2,(i:Int),0⟩=some (y,b)) : qbc s (i:Int)=some (y,b):=by
 have hi:=(List.getElem?_eq_some_iff.1 hc).1
 have hwl:=List.length_pos_iff.2 hw
 have e2:yx s ⟨2,(i:Int),0⟩=(qbc s (i:Int)).bind fun v235=>some (v235.1,v235.2) :=
  zu (by simp) (zu (by simp only [Bool.or_eq_false_iff,decide_eq_false_iff_not]; omega) (qw (zz hc) (zu (by simp) (jx (by simp) (zu (by simp; omega) rfl)))))
 rw [e2] at e
 exact ql5 e
theorem q5x {s y:Snap}{x:Picture}{b:Bool}(hx:s.Pictures[0]? = some x)(hT:x.Taken=false)(ha:0<s.Amounts.length)(e:yx s ⟨3,0,0⟩=some (y,b)) : yw s 0=some (y,b):=by
 have e2:yx s ⟨3,0,0⟩=(yw s 0).bind fun v74=>some (v74.1,v74.2) :=
  jx (by simp) (qw (zu (by simp only [Bool.or_eq_false_iff,decide_eq_false_iff_not]; omega) (qw (show zt s.Pictures 0=some x from hx) rfl)) (zu hT rfl))
 rw [e2] at e
 exact ql5 e
theorem qrx {p:Nat} : ∀ (N:Nat) {q m:Nat} {s:Snap},rest s≤N→SnInv p q s→SnG p s→q+rest s≤400→m≤q →
  ∃ v:Snap × Int × Bool,Ev (fun k=>yy (fun s158:Int × Snap × List Int × List Chan × List Picture=>kj s158.1 s158.2.1 s158.2.2.1 s158.2.2.2.1 s158.2.2.2.2) k ((m:Int),s,s.Amounts,s.Chans,s.Pictures)) (.ret v) ∧
   (∀ r,qaj s=some r→∃ o:Bool × Int × Int × Snap × List Int × List Chan × List Picture,Ev (fun k=>yy (fun s256:Bool × Int × Int × Snap × List Int × List Chan × List Picture=>yl s256.1 s256.2.1 s256.2.2.1 s256.2.2.2.1 s256.2.2.2.2.1 s256.2.2.2.2.2.1 s256.2.2.2.2.2.2) k (true,(m:Int),r,s,s.Amounts,s.Chans,s.Pictures)) (.nxt o)∧Ev (fun _=>xv o.1 o.2.1 o.2.2.1 o.2.2.2.1 o.2.2.2.2.1 o.2.2.2.2.2.1 o.2.2.2.2.2.2) v)∧v.1.nn≤1048576:=by
 intro N
 induction N using Nat.strongRecOn with
 | ind N ih =>
  intro q m s hN hi hg hq hm
  obtain ⟨r,f1,f2,hr⟩:=qhb s hi.ok.chl
  rcases hr with ⟨i,c,rfl,hc,hw⟩ | ⟨rfl,hemp⟩
  ·obtain ⟨b,s',e1,⟨y,e2,hy,hyl⟩,hf,h',hrel⟩:=qgm (x:=⟨2,(i:Int),0⟩) hi (by omega)
   have hcome:=q5u hc hw hi.ok.chl e2
   obtain ⟨ry,_,fy,_⟩:=qhb y hyl
   have hS:∀ m':Int,yl true m' (i:Int) s s.Amounts s.Chans s.Pictures=some (.nxt (b,IntKind.wrap .i64 (m'+1),ry,y,y.Amounts,y.Chans,y.Pictures)):=fun m'=>by
    unfold yl
    rw [if_pos (by simp),show (Snap.mk s.Amounts s.Chans s.Pictures s.Sent s.Total)=s from rfl,hcome,Option.bind_some]
    dsimp only
    rw [fy,Option.bind_some]
   cases b with
   | false =>
    have hI:kj (m:Int) s s.Amounts s.Chans s.Pictures=some (.ret (⟨[],[],[],0,0⟩,0,false)):=by
     unfold kj
     rw [f1]
     simp only [Option.bind_some]
     rw [if_neg (by simp),show (Snap.mk s.Amounts s.Chans s.Pictures s.Sent s.Total)=s from rfl,e1]
     simp only [Option.bind_some]
     rw [if_pos (by decide)]
    refine ⟨(⟨[],[],[],0,0⟩,0,false),Ev.loopR hI,fun r hr=>?_,by decide⟩
    rw [f2] at hr
    cases hr
    refine ⟨(false,IntKind.wrap .i64 ((m:Int)+1),ry,y,y.Amounts,y.Chans,y.Pictures),Ev.loop1 (hS _) (Ev.loopB ?_),?_⟩
    ·dsimp only
     unfold yl
     rw [if_neg (by simp)]
    ·unfold xv
     exact Ev.iteT rfl Ev.rfl
   | true =>
    have hys:=hy rfl
    subst hys
    have hd:=hrel.dec rfl hi.ok.chl
    obtain ⟨v,v1,v2,v3⟩:=@ih (rest y) (by omega) (q+1) (m+1) y (Nat.le_refl _) h' (hrel.keepG hi hg) (by omega) (by omega)
    have hI:kj (m:Int) s s.Amounts s.Chans s.Pictures=some (.nxt (((m+1:Nat) : Int),y,y.Amounts,y.Chans,y.Pictures)):=by
     unfold kj
     rw [f1]
     simp only [Option.bind_some]
     rw [if_neg (by simp),show (Snap.mk s.Amounts s.Chans s.Pictures s.Sent s.Total)=s from rfl,e1]
     simp only [Option.bind_some]
     rw [if_neg (by decide),qkb (by omega)]
    refine ⟨v,Ev.loop1 hI v1,fun r hr=>?_,v3⟩
    rw [f2] at hr
    cases hr
    obtain ⟨o,o1,o2⟩:=v2 ry fy
    have hS2:=hS (m:Int)
    rw [qkb (by omega)] at hS2
    exact ⟨o,Ev.loop1 hS2 o1,o2⟩
  ·have hI:kj (m:Int) s s.Amounts s.Chans s.Pictures=some (.ret (s,(m:Int),true)):=by
    unfold kj
    rw [f1]
    simp only [Option.bind_some]
    rw [if_pos (by decide)]
   refine ⟨(s,(m:Int),true),Ev.loopR hI,fun r hr=>?_,Nat.le_trans hi.ok.nn_le (by omega)⟩
   rw [f2] at hr
   cases hr
   refine ⟨(true,(m:Int),-1,s,s.Amounts,s.Chans,s.Pictures),Ev.loopB ?_,?_⟩
   ·dsimp only
    unfold yl
    rw [if_neg (by decide)]
   ·unfold xv
    exact Ev.iteF rfl (Ev.bind (qd0 (Nat.le_trans hi.ok.nn_le (by omega))) Ev.rfl)
theorem q6h {P:List Picture}(hl:P.length≤4) : ∃ b,Ev (fun _=>w8 (fun i51 (s120:Bool × List Picture)=>uw i51 s120.1 s120.2) (List.length P:Int) (false,P)) (.nxt (b,P))∧(b=true↔∃ g,tk P g=true):=by
 refine ⟨P.any (·.Taken),?_,?_⟩
 ·simp only [qif]
  refine xg (by simp; omega) (fun i q s=>i+q.length=P.length∧s=((P.take i).any (·.Taken),P)) ⟨by simp,rfl⟩ (fun i x q s ⟨h1,hs⟩ => .inl ?_) (fun i s ⟨h1,hs⟩=>by rw [hs]; simp at h1; rw [h1,List.take_length])
  subst hs
  simp only [List.length_cons] at h1
  obtain ⟨x,hx⟩:=js (l:=P) (i:=i) (by omega)
  refine ⟨((P.take (i+1)).any (·.Taken),P),?_,by omega,rfl⟩
  unfold uw
  refine Ev.bindp (zz hx) ?_
  rw [List.take_add_one,hx,List.any_append]
  simp only [Option.toList_some,List.any_cons,List.any_nil,Bool.or_false]
  exact Ev.rfl
 ·rw [List.any_eq_true]
  constructor
  ·rintro ⟨x,hx,hT⟩
   obtain ⟨i,hi⟩:=List.getElem?_of_mem hx
   exact ⟨i,by rw [qdq hi]; exact hT⟩
  ·rintro ⟨g,hg⟩
   obtain ⟨x,hx⟩:=js (q1e hg)
   exact ⟨x,List.mem_of_getElem? hx,by rw [qdq hx] at hg; exact hg⟩
theorem qi0 {p n:Nat}{s:Snap}(hn:n≤900)(h:SnInv p n s)(hg:SnG p s) : Ev (fun k=>wc k s) true:=by
 obtain ⟨b,e,hb⟩:=GoodSnap_is (qe5 hn h hg)
 have:b=true:=hb.2 (q52 h hg)
 subst this
 exact e
theorem qp5 {p n:Nat}{s:Snap}(hn:n≤200)(h:SnInv p n s)(hg:SnG p s) : ∃ v:Snap × Int × Bool,Ev (fun k=>yk k s) v∧Ev (fun k=>xd k s) v∧v.1.nn≤1048576:=by
 have hp:=h.ok.pp
 have hpl:=h.ok.pl
 have hnn:s.nn≤1048576:=Nat.le_trans h.ok.nn_le (by omega)
 obtain ⟨b,eb,hb⟩:=qnm (s:=s) (by omega)
 obtain ⟨b',eb',hb'⟩:=q6h (P:=s.Pictures) (by omega)
 have hbb:b'=b:=by
  have:=hb'.trans hb.symm
  cases b <;> cases b' <;> simp_all
 subst hbb
 have hpre:∀ {r:Snap × Int × Bool},Ev (fun k=>((if (!b')=true then ((yf s (SnapStep.mk 3 0 0)).bind fun v66=>(some ((!v66.1),v66.2,v66.2.Amounts,v66.2.Chans,v66.2.Pictures))) else (some (false,s,s.Amounts,s.Chans,s.Pictures))).bind (fun s177:Bool × Snap × List Int × List Chan × List Picture=>yc k s177.1 s177.2.1 s177.2.2.1 s177.2.2.2.1 s177.2.2.2.2))) r→Ev (fun k=>yk k s) r:=by
  intro r hr
  unfold yk
  exact Ev.bind (qec (by omega) h hg) (Ev.iteF rfl (Ev.bind (qim hnn) (Ev.bind eb hr)))
 have hpreS:∀ {r:Snap × Int × Bool},Ev (fun k=>xx k s b' s.Pictures) r→Ev (fun k=>xd k s) r:=by
  intro r hr
  unfold xd
  exact Ev.bind (qi0 (by omega) h hg) (Ev.iteF rfl (Ev.bind (qd0 hnn) (Ev.jn eb' hr)))
 obtain ⟨r0,_,fr0,_⟩:=qhb s h.ok.chl
 cases b' with
 | true =>
  obtain ⟨v,v1,v2,v3⟩:=qrx (rest s) (q:=n) (m:=0) (Nat.le_refl _) h hg (by have:=qji h.ok; omega) (by omega)
  obtain ⟨o,o1,o2⟩:=v2 r0 fr0
  refine ⟨v,hpre (Ev.bind (Ev.iteF rfl Ev.rfl) ?_),hpreS ?_,v3⟩
  ·unfold yc
   exact Ev.iteF rfl (Ev.jn_ret v1)
  ·unfold xx
   refine Ev.bind (Ev.iteF rfl Ev.rfl) ?_
   unfold ux
   exact Ev.bindp fr0 (Ev.jn o1 o2)
 | false =>
  obtain ⟨x0,hx0⟩:=js (l:=s.Pictures) (i:=0) (by omega)
  have hT0:x0.Taken=false:=by
   cases hT:x0.Taken with
   | false=>rfl
   | true=>exact absurd (hb.2 ⟨0,by rw [qdq hx0]; exact hT⟩) (by decide)
  obtain ⟨c,s',e1,⟨y,e2,hy,hyl⟩,hf,h',hr⟩:=qgm (x:=⟨3,0,0⟩) h (by omega)
  have htk:=q5x hx0 hT0 (by have:=h.ok.am; omega) e2
  obtain ⟨ry,_,fy,_⟩:=qhb y hyl
  cases c with
  | false =>
   refine ⟨(⟨[],[],[],0,0⟩,0,false),hpre (Ev.bind (Ev.iteT rfl (Ev.bindp e1 Ev.rfl)) ?_),hpreS ?_,by decide⟩
   ·unfold yc
    exact Ev.iteT rfl Ev.rfl
   ·unfold xx
    refine Ev.bind (Ev.iteT rfl (Ev.bindp htk Ev.rfl)) ?_
    unfold ux
    refine Ev.bindp fy (Ev.jn (s:=(false,0,ry,y,y.Amounts,y.Chans,y.Pictures)) (Ev.loopB ?_) ?_)
    ·dsimp only
     unfold yl
     rw [if_neg (by simp)]
    ·unfold xv
     exact Ev.iteT rfl Ev.rfl
  | true =>
   have hys:=hy rfl
   subst hys
   obtain ⟨v,v1,v2,v3⟩:=qrx (rest y) (q:=n+1) (m:=0) (Nat.le_refl _) h' (hr.keepG h hg) (by have:=qji h'.ok; omega) (by omega)
   obtain ⟨o,o1,o2⟩:=v2 ry fy
   refine ⟨v,hpre (Ev.bind (Ev.iteT rfl (Ev.bindp e1 Ev.rfl)) ?_),hpreS ?_,v3⟩
   ·unfold yc
    exact Ev.iteF rfl (Ev.jn_ret v1)
   ·unfold xx
    refine Ev.bind (Ev.iteT rfl (Ev.bindp htk Ev.rfl)) ?_
    unfold ux
    exact Ev.bindp fy (Ev.jn o1 o2)
theorem qn2 {p n:Nat}{s:Snap}(hn:n≤900)(h:SnInv p n s)(hg:SnG p s) : ∃ v:Int × Bool,Ev (fun k=>wh k s) v∧Ev (fun k=>xq k s) v:=by
 have hp:=h.ok.pp
 have hpl:=h.ok.pl
 have hwq:∀ (i:Nat) (x:Picture),s.Pictures[i]? = some x→(whole x↔∀ (j:Nat) (b:Bool),x.Closed[j]? = some b→b=true):=by
  intro i x hx
  constructor
  ·intro hw j b hb
   cases b with
   | true=>rfl
   | false=>exact absurd (List.mem_of_getElem? hb) hw.2
  ·intro hq
   have hi:i<p:=by have:=(List.getElem?_eq_some_iff.1 hx).1; rw [hpl] at this; exact this
   obtain ⟨b,hb⟩:=js (l:=x.Closed) (i:=i) (by rw [(h.ok.pi i x hx).2]; exact hi)
   refine ⟨?_,fun hm=>?_⟩
   ·cases hT:x.Taken with
    | true=>rfl
    | false =>
     have h1:=hq i b hb
     have h2:=((hg.pic i x hx).no hT).2.2 b (List.mem_of_getElem? hb)
     rw [h1] at h2; cases h2
   ·obtain ⟨j,hj⟩:=List.getElem?_of_mem hm
    have:=hq j false hj
    cases this
 have hgb:∀ (i:Nat) (x:Picture),s.Pictures[i]? = some x→0≤x.In.sum+x.Amount∧x.In.sum+x.Amount≤4000000:=by
  intro i x hx
  have hs:=qb1 (l:=x.In) (b:=900000) (fun z hz=>by have:=h.inn i x hx z hz; omega)
  have hl:=(h.ok.pi i x hx).1
  have ha:0≤x.Amount∧x.Amount≤1000:=by
   cases hT:x.Taken with
   | false=>have:=((hg.pic i x hx).no hT).1; omega
   | true=>exact ((hg.pic i x hx).yes hT).1
  rw [hl] at hs
  omega
 have hst:∀ i,0≤((s.Pictures.take i).map fun x=>x.In.sum+x.Amount).sum∧((s.Pictures.take i).map fun x=>x.In.sum+x.Amount).sum≤16000000:=by
  intro i
  have:=qb1 (l:=(s.Pictures.take i).map fun x=>x.In.sum+x.Amount) (b:=4000000) (fun z hz=>by
   obtain ⟨x,hx,rfl⟩:=List.mem_map.1 hz
   obtain ⟨j,hj⟩:=List.getElem?_of_mem (List.mem_of_mem_take hx)
   exact hgb j x hj)
  have hlen:((s.Pictures.take i).map fun x=>x.In.sum+x.Amount).length≤4:=by
   rw [List.length_map,List.length_take]; omega
  omega
 have key:=qh3 (B:=fun _ i13 x14 s95=>u3 i13 x14 s95) (l:=s.Pictures) (Q:=fun _ x=>∀ (j:Nat) (b:Bool),x.Closed[j]? = some b→b=true) (st:=fun i=>((s.Pictures.take i).map fun x=>x.In.sum+x.Amount).sum) (r0:=((0:Int),false)) (by omega) (fun i x hx=>by
  have hu:=hst i
  have hgx:=hgb i x hx
  have hl:=h.ok.pi i x hx
  have e2:((s.Pictures.take (i+1)).map fun x=>x.In.sum+x.Amount).sum=((s.Pictures.take i).map fun x=>x.In.sum+x.Amount).sum+(x.In.sum+x.Amount):=by
   rw [List.take_add_one,hx]
   simp
  rw [e2]
  have hpre:∀ j,0≤(x.In.take j).sum∧(x.In.take j).sum≤3600000:=by
   intro j
   have:=qb1 (l:=x.In.take j) (b:=900000) (fun z hz=>by have:=h.inn i x hx z (List.mem_of_mem_take hz); omega)
   have hlen:(x.In.take j).length≤4:=by rw [List.length_take]; omega
   omega
  generalize ((s.Pictures.take i).map fun x=>x.In.sum+x.Amount).sum=u at hu
  unfold u3
  have ki:=qh3 (B:=fun _ i45 x46 s82=>u6 x i45 x46 s82) (l:=x.Closed) (Q:=fun _ b=>b=true) (st:=fun j=>u+(x.In.take j).sum) (r0:=(Oc.ret ((0:Int),false) : Oc Int (Int × Bool))) (by omega) (fun j b hb=>by
   obtain ⟨z,hz⟩:=js (l:=x.In) (i:=j) (by have:=(List.getElem?_eq_some_iff.1 hb).1; omega)
   have hz0:=h.inn i x hx z (List.mem_of_getElem? hz)
   have hpj:=hpre j
   refine ⟨!b,?_,by cases b <;> simp⟩
   unfold u6
   cases b with
   | false=>exact Ev.iteT rfl Ev.rfl
   | true =>
    refine Ev.iteF rfl (Ev.bindp (zz hz) ?_)
    rw [kc (by omega) (by omega),qkh hz,Int.add_assoc]
    exact Ev.rfl)
  have h0:u+(x.In.take 0).sum=u:=by simp
  simp only [h0] at ki
  rcases ki with ⟨q1,e1⟩ | ⟨q1,e1⟩
  ·refine ⟨false,Ev.jn e1 ?_,by simp only [Bool.false_eq_true,false_iff,Classical.not_not]; exact q1⟩
   unfold qdk
   rw [show x.Closed.length=x.In.length by omega,List.take_length]
   have ha:0≤x.Amount∧x.Amount≤1000:=by
    cases hT:x.Taken with
    | false=>have:=((hg.pic i x hx).no hT).1; omega
    | true=>exact ((hg.pic i x hx).yes hT).1
   have hps:=hpre x.In.length
   rw [List.take_length] at hps
   rw [kc (by omega) (by omega),Int.add_assoc]
   exact Ev.rfl
  ·exact ⟨true,Ev.jn_ret e1,by simp only [true_iff]; exact q1⟩)
 have h0:((s.Pictures.take 0).map fun x=>x.In.sum+x.Amount).sum=0:=rfl
 simp only [h0] at key
 rcases qpi hn h hg with ⟨hw,e⟩ | ⟨hw,e⟩
 ·refine ⟨_,e,?_⟩
  unfold xq
  refine Ev.bind (qi0 hn h hg) (Ev.iteF rfl ?_)
  rcases key with ⟨q1,e1⟩ | ⟨q1,e1⟩
  ·rw [List.take_length] at e1
   have ht:=qjq h hg hw
   have:(s.Pictures.map fun x=>x.In.sum+x.Amount).sum=s.Total:=by
    rw [←ht]
    congr 1
    apply List.map_congr_left
    intro x _
    exact Int.add_comm _ _
   rw [this] at e1
   exact Ev.jn e1 Ev.rfl
  ·exact absurd (fun i x hx=>(hwq i x hx).1 (hw x (List.mem_of_getElem? hx))) q1
 ·refine ⟨_,e,?_⟩
  unfold xq
  refine Ev.bind (qi0 hn h hg) (Ev.iteF rfl ?_)
  rcases key with ⟨q1,e1⟩ | ⟨q1,e1⟩
  ·refine absurd (fun x hx=>?_) hw
   obtain ⟨i,hi⟩:=List.getElem?_of_mem hx
   exact (hwq i x hi).2 (q1 i x hi)
  ·exact Ev.jn_ret e1
theorem qvf {p n:Nat}{s:Snap}(hn:n≤900)(h:SnInv p n s)(hg:SnG p s) : ∃ v:Int × Bool,Ev (fun k=>qa8 k s) v∧Ev (fun k=>qcd k s) v:=by
 refine ⟨_,OnWay_ev hn h hg,?_⟩
 unfold qcd
 exact Ev.bind (qi0 hn h hg) (Ev.iteF rfl (Ev.bindp (qou (qe5 hn h hg)) Ev.rfl))
end Go.Proofs.Ytpkiieniipenjaa.X
