/- The picture is brought to its end. -/
import Derived.Test.YtpkiieniipenjaaXCL8h
set_option linter.unusedVariables false
set_option linter.unusedSimpArgs false
namespace Go.Proofs.Ytpkiieniipenjaa.X
open Go

theorem qim {s:Snap}(h:s.nn≤1048576) : Ev (fun _=>qax s) s:=by
 obtain ⟨h1,h2,h3,h4,h5⟩:=qpy h
 unfold qax
 refine Ev.bindp (qb9 (by omega)) (Ev.jn (qhd (mk:=fun r=>(⟨s.Amounts,r,[],s.Sent,s.Total⟩ : Snap)) h2 (fun i x hx=>?_)) ?_)
 ·have:=h4 i x hx
  unfold qb7
  rw [qb9 (by omega),Option.bind_some]
  unfold ye
  rw [if_pos (by dsimp only; rw [List.length_take]; simp; omega)]
  rfl
 ·unfold qd4
  dsimp only
  refine Ev.jn (qhd (mk:=fun r=>(⟨s.Amounts,s.Chans,r,s.Sent,s.Total⟩ : Snap)) h3 (fun i x hx=>?_)) Ev.rfl
  obtain ⟨a,b⟩:=h5 i x hx
  unfold qca
  rw [qb9 (by omega),Option.bind_some,qb9 (by omega),Option.bind_some]
  unfold ye
  rw [if_pos (by dsimp only; rw [List.length_take]; simp; omega)]
  rfl
theorem qj2 {α:Type}{f:α→Nat} : ∀ {l:List α} {i:Nat} {x x':α},l[i]? = some x→kd f (l.set i x')+f x=kd f l+f x':=by
 intro l
 induction l with
 | nil=>intro i x x' h; simp at h
 | cons a r ih =>
  intro i x x' h
  cases i with
  | zero=>simp at h; subst h; simp only [List.set_cons_zero,kd]; omega
  | succ i =>
   have:=ih (i:=i) (x:=x) (x':=x') (by simpa using h)
   simp only [List.set_cons_succ,kd]
   omega
def wl (C:List Chan) : Nat:=kd (fun c=>c.Way.length) C
def un (P:List Picture) : Nat:=kd (fun x=>if x.Taken=true then 0 else 1) P
def rest (s:Snap) : Nat:=wl s.Chans+13*un s.Pictures
theorem q5v {k:Int} : ∀ {C:List Chan},wl (C.map (kv k))≤wl C+C.length:=by
 intro C
 unfold wl
 induction C with
 | nil=>simp [kd]
 | cons c r ih =>
  simp only [List.map_cons,kd,List.length_cons]
  have:(kv k c).Way.length≤c.Way.length+1:=by
   unfold kv
   split
   ·simp
   ·omega
  omega
theorem SRel.total {s s':Snap}{x:SnapStep}{b:Bool}(h:SRel s x b s') : s'.Total=s.Total:=by
 cases h <;> rfl
theorem SRel.tkm {s s':Snap}{x:SnapStep}{b:Bool}{g:Nat}(h:SRel s x b s')(hg:tk s.Pictures g=true) : tk s'.Pictures g=true:=by
 have hset:∀ (t:Nat) (y y':Picture),s.Pictures[t]? = some y→y'.Taken=true→tk (s.Pictures.set t y') g=true:=by
  intro t y y' hy hT
  by_cases e:t=g
  ·subst e
   rw [qme (List.getElem?_eq_some_iff.1 hy).1,hT]
  ·rw [qpx e,hg]
 cases h with
 | no=>exact hg
 | took hK k y a hr hy hT ha=>exact hset k y _ hy rfl
 | send hK k f c a z hc hf ha hz=>exact hg
 | cnt hK k f t c a v z w y hc hw hf ht ha hy hT hcl hv hz=>exact hset t y _ hy hT
 | pop hK k f t c a z w y cv hc hw hf ht ha hy hcl hn hz=>exact hg
 | mark hK k f t c w y hc hw hf ht hy hT=>exact hset t y _ hy hT
 | tmark hK k f t c w y a hc hw hf ht hr hy hT ha =>
  dsimp only
  rw [List.set_set]
  exact hset t y _ hy rfl
theorem SRel.dec {s s':Snap}{x:SnapStep}(h:SRel s x true s')(hK:x.Kind=2)(hl:s.Chans.length≤12) : rest s'+1≤rest s:=by
 have hpop:∀ {k:Nat} {c:Chan} {z:Int} {w:List Int},s.Chans[k]? = some c→c.Way=z::w→wl (s.Chans.set k ⟨c.From,c.To,w⟩)+1=wl s.Chans:=by
  intro k c z w hc hw
  have:=qj2 (f:=fun c:Chan=>c.Way.length) (x':=⟨c.From,c.To,w⟩) hc
  unfold wl
  rw [hw] at this
  simp only [List.length_cons] at this
  omega
 have hun:∀ {t:Nat} {y:Picture} {A:Int} {I:List Int} {C:List Bool},s.Pictures[t]? = some y→un (s.Pictures.set t ⟨y.Taken,A,I,C⟩)=un s.Pictures:=by
  intro t y A I C hy
  have:=qj2 (f:=fun x:Picture=>if x.Taken=true then 0 else 1) (x':=⟨y.Taken,A,I,C⟩) hy
  unfold un
  dsimp only at this
  omega
 unfold rest
 cases h with
 | took hK' k y a hr hy hT ha=>rw [hK'] at hK; cases hK
 | send hK' k f c a z hc hf ha hz=>rw [hK'] at hK; cases hK
 | cnt hK' k f t c a v z w y hc hw hf ht ha hy hT hcl hv hz =>
  dsimp only
  rw [hun hy]
  have:=hpop hc hw
  omega
 | pop hK' k f t c a z w y cv hc hw hf ht ha hy hcl hn hz =>
  have:=hpop hc hw
  dsimp only
  omega
 | mark hK' k f t c w y hc hw hf ht hy hT =>
  dsimp only
  rw [hun hy]
  have:=hpop hc hw
  omega
 | tmark hK' k f t c w y a hc hw hf ht hr hy hT ha =>
  dsimp only
  rw [List.set_set]
  have h1:=hpop hc hw
  have h2:=q5v (k:=(t:Int)) (C:=s.Chans.set k ⟨c.From,c.To,w⟩)
  have h3:=qj2 (f:=fun x:Picture=>if x.Taken=true then 0 else 1) (x':=⟨true,a,y.In,(y.Closed.set t true).set f true⟩) hy
  simp only [hT,if_true,Bool.false_eq_true,if_false] at h3
  rw [List.length_set] at h2
  unfold un
  omega
theorem qqw (C:List Chan)(hl:C.length≤12) : (∃ (i:Nat) (c:Chan),C[i]? = some c∧yh C (fun a0=>some (k9 a0))=some (i:Int))∨((∀ c∈C,c.Way=[])∧yh C (fun a0=>some (k9 a0))=some (-1)):=by
 unfold yh
 rcases qcl (B:=fun _ i1 x2 _=>yg (fun a0=>some (k9 a0)) i1 x2) (Q:=fun _ x=>¬ x.Way=[]) (f:=fun i=>(i:Int)) (l:=C) (by omega) (fun i x hx=>by
  unfold yg k9
  simp only [Option.bind_some]
  refine qe0 ?_
  simp only [decide_eq_true_eq]
  constructor
  ·intro h e; rw [e] at h; simp at h
  ·intro h
   have:=List.length_pos_iff.2 h
   omega) with ⟨i,x,g1,g2,g3,g4⟩ | ⟨g1,g2⟩
 ·exact .inl ⟨i,x,g1,(Ev.jn_ret (G:=fun _ _=>yu) g4).cst⟩
 ·refine .inr ⟨fun c hc=>?_,(Ev.jn (G:=fun _ _=>yu) g2 Ev.rfl).cst⟩
  obtain ⟨i,hi⟩:=List.getElem?_of_mem hc
  exact Classical.not_not.1 (g1 i c hi)
structure Done (p:Nat) (T:Int) (f:Snap) : Prop where
 inv:∃ q,q≤900∧SnInv p q f
 g:SnG p f
 tot:f.Total=T
 beg:∃ b,b<p∧tk f.Pictures b=true
 emp:∀ c∈f.Chans,c.Way=[]
theorem qj1 {p q0:Nat}{s0:Snap}(h0:SnInv p q0 s0)(hg0:SnG p s0)(hb0:∃ b,b<p∧tk s0.Pictures b=true)(hq:q0+rest s0≤400) :
  ∃ o,Ev (fun k=>yy (fun s158:Int × Snap × List Int × List Chan × List Picture=>kj s158.1 s158.2.1 s158.2.2.1 s158.2.2.2.1 s158.2.2.2.2) k (0,s0,s0.Amounts,s0.Chans,s0.Pictures)) o∧∃ f m two,o = .ret (f,m,two)∧(two=true→Done p s0.Total f):=by
 refine Ev.loopQ (fun o=>∃ f m two,o = .ret (f,m,two)∧(two=true→Done p s0.Total f)) (fun st=>∃ (q m:Nat) (s:Snap),st=((m:Int),s,s.Amounts,s.Chans,s.Pictures)∧SnInv p q s∧SnG p s∧s.Total=s0.Total∧(∃ b,b<p∧tk s.Pictures b=true)∧q+rest s≤400∧m≤q) (fun st=>rest st.2.1) ⟨q0,0,s0,rfl,h0,hg0,rfl,hb0,hq,Nat.zero_le _⟩ ?_
 rintro st ⟨q,m,s,rfl,hi,hg,hT,hb,hqr,hmq⟩
 unfold kj
 dsimp only
 rcases qqw s.Chans hi.ok.chl with ⟨i,c,hc,e⟩ | ⟨hemp,e⟩
 ·obtain ⟨b,s',e1,_,hf,h',hr⟩:=qgm (x:=⟨2,(i:Int),0⟩) hi (by omega)
  rw [e]
  simp only [Option.bind_some]
  rw [if_neg (by simp),show (Snap.mk s.Amounts s.Chans s.Pictures s.Sent s.Total)=s from rfl,e1]
  simp only [Option.bind_some]
  cases b with
  | false=>exact .inr (.inr ⟨(⟨[],[],[],0,0⟩,0,false),by rw [if_pos (by decide)],_,_,_,rfl,fun h=>by cases h⟩)
  | true =>
   have hd:=hr.dec rfl hi.ok.chl
   obtain ⟨b,hb1,hb2⟩:=hb
   refine .inl ⟨(((m+1:Nat) : Int),s',s'.Amounts,s'.Chans,s'.Pictures),?_,⟨q+1,m+1,s',rfl,h',hr.keepG hi hg,hr.total.trans hT,⟨b,hb1,hr.tkm hb2⟩,by omega,by omega⟩,by simp only; omega⟩
   rw [if_neg (by decide),qkb (by omega)]
 ·rw [e]
  simp only [Option.bind_some]
  rw [if_pos (by decide)]
  exact .inr (.inr ⟨_,rfl,_,_,_,rfl,fun _=>⟨⟨q,by omega,hi⟩,hg,hT,hb,hemp⟩⟩)
theorem qji {p:Nat}{s:Snap}(h:SnOk p s) : rest s≤148:=by
 have hp:=h.pp
 have h1:kd (fun c:Chan=>c.Way.length) s.Chans≤8*s.Chans.length:=qie (fun c hc=>by
  obtain ⟨i,hi⟩:=List.getElem?_of_mem hc
  exact (h.ch i c hi).2.2.2)
 have h2:kd (fun x:Picture=>if x.Taken=true then 0 else 1) s.Pictures≤1*s.Pictures.length:=qie (fun x hx=>by split <;> omega)
 have:=h.chl
 have:=h.pl
 unfold rest wl un
 omega
theorem qnm {s:Snap}(hl:s.Pictures.length≤4) : Is (fun _=>y6 s.Pictures (fun a0=>some (xa a0))) (∃ b,tk s.Pictures b=true):=by
 unfold y6 uc
 rcases qcl (B:=fun _ i1 x2 _=>y5 (fun a0=>some (xa a0)) i1 x2) (Q:=fun _ x=>x.Taken=true) (f:=fun i=>(i:Int)) (l:=s.Pictures) (by omega) (fun i x hx=>by
  unfold y5 xa
  simp only [Option.bind_some]
  exact qe0 Iff.rfl) with ⟨i,x,g1,g2,g3,g4⟩ | ⟨g1,g2⟩
 ·refine Is.bindv (Ev.jn_ret g4) (Is.of ?_)
  simp only [decide_eq_true_eq]
  exact ⟨fun _=>⟨i,by rw [qdq g1]; exact g2⟩,fun _=>by omega⟩
 ·refine Is.bindv (Ev.jn g2 Ev.rfl) (Is.F ?_)
  rintro ⟨b,hb⟩
  unfold tk at hb
  cases hx:s.Pictures[b]? with
  | none=>rw [hx] at hb; cases hb
  | some x=>rw [hx] at hb; exact g1 b x hx hb
theorem q1e {P:List Picture}{b:Nat}(h:tk P b=true) : b<P.length:=by
 unfold tk at h
 cases hx:P[b]? with
 | none=>rw [hx] at h; cases h
 | some x=>exact (List.getElem?_eq_some_iff.1 hx).1
theorem q9x {p n:Nat}{s:Snap}(hn:n≤200)(h:SnInv p n s)(hg:SnG p s) : ∃ f m two,Ev (fun k=>yk k s) (f,m,two)∧(two=true→Done p s.Total f):=by
 have hp:=h.ok.pp
 have hpl:=h.ok.pl
 obtain ⟨b,eb,hb⟩:=qnm (s:=s) (by omega)
 have hpre:∀ {r:Snap × Int × Bool},Ev (fun k=>((if (!b)=true then ((yf s (SnapStep.mk 3 0 0)).bind fun v66=>(some ((!v66.1),v66.2,v66.2.Amounts,v66.2.Chans,v66.2.Pictures))) else (some (false,s,s.Amounts,s.Chans,s.Pictures))).bind (fun s177:Bool × Snap × List Int × List Chan × List Picture=>yc k s177.1 s177.2.1 s177.2.2.1 s177.2.2.2.1 s177.2.2.2.2))) r→Ev (fun k=>yk k s) r:=by
  intro r hr
  unfold yk
  exact Ev.bind (qec (by omega) h hg) (Ev.iteF rfl (Ev.bind (qim (Nat.le_trans h.ok.nn_le (by omega))) (Ev.bind eb hr)))
 cases b with
 | true =>
  obtain ⟨g,hgk⟩:=hb.1 rfl
  obtain ⟨o,ho,f,m,two,rfl,hd⟩:=qj1 h hg ⟨g,by have:=q1e hgk; omega,hgk⟩ (by have:=qji h.ok; omega)
  refine ⟨f,m,two,hpre (Ev.bind (Ev.iteF rfl Ev.rfl) ?_),hd⟩
  unfold yc
  exact Ev.iteF rfl (Ev.jn_ret ho)
 | false =>
  obtain ⟨c,s',e1,_,hf,h',hr⟩:=qgm (x:=⟨3,0,0⟩) h (by omega)
  cases c with
  | false =>
   refine ⟨⟨[],[],[],0,0⟩,0,false,hpre (Ev.bind (Ev.iteT rfl (Ev.bindp e1 Ev.rfl)) ?_),fun hh=>by cases hh⟩
   unfold yc
   exact Ev.iteT rfl Ev.rfl
  | true =>
   have hbeg:∃ g,g<p∧tk s'.Pictures g=true:=by
    cases hr with
    | took hK k y a hrm hy hT ha =>
     have hkl:=(List.getElem?_eq_some_iff.1 hy).1
     exact ⟨k,by omega,by simp only [qas]; exact qme hkl⟩
    | send hK=>cases hK
    | cnt hK=>cases hK
    | pop hK=>cases hK
    | mark hK=>cases hK
    | tmark hK=>cases hK
   have ht:=hr.total
   obtain ⟨o,ho,f,m,two,rfl,hd⟩:=qj1 h' (hr.keepG h hg) hbeg (by have:=qji h'.ok; omega)
   refine ⟨f,m,two,hpre (Ev.bind (Ev.iteT rfl (Ev.bindp e1 Ev.rfl)) ?_),fun hh=>by rw [←ht]; exact hd hh⟩
   unfold yc
   exact Ev.iteF rfl (Ev.jn_ret ho)
theorem qo2 {p f t:Nat}(h1:f<p)(h2:t<p)(h3:f≠t) : ((f:Int),(t:Int))∈prs (ya p):=by
 unfold prs ya
 simp only [List.mem_map,List.mem_flatMap,List.mem_range,List.mem_filter,decide_eq_true_eq]
 exact ⟨⟨(f:Int),(t:Int),[]⟩,⟨f,h1,t,⟨h2,h3⟩,rfl⟩,rfl⟩
theorem Done.whole {p:Nat}{T:Int}{f:Snap}(h:Done p T f) : ∀ x∈f.Pictures,whole x:=by
 obtain ⟨q,hq,hi⟩:=h.inv
 have hg:=h.g
 obtain ⟨b,hbp,hb⟩:=h.beg
 have hcl:∀ {u t:Nat},u<p→t<p→u≠t→tk f.Pictures u=true→cl f.Pictures u t=true:=by
  intro u t h1 h2 h3 hu
  have hm:=qo2 h1 h2 h3
  rw [←hg.ft] at hm
  unfold prs at hm
  obtain ⟨c,hc,hce⟩:=List.mem_map.1 hm
  obtain ⟨i,hi'⟩:=List.getElem?_of_mem hc
  obtain ⟨m1,m2⟩:=hg.mks i c hi'
  have f1:c.From=(u:Int):=congrArg Prod.fst hce
  have f2:c.To=(t:Int):=congrArg Prod.snd hce
  rw [f1,f2,Int.toNat_natCast,Int.toNat_natCast,h.emp c hc,hu] at m1
  cases hh:cl f.Pictures u t with
  | true=>rfl
  | false=>rw [hh] at m1; simp [kg] at m1
 have htk:∀ {t:Nat},t<p→tk f.Pictures t=true:=by
  intro t ht
  by_cases e:b=t
  ·subst e; exact hb
  ·have h1:=hcl hbp ht e hb
   obtain ⟨xt,hxt⟩:=js (l:=f.Pictures) (i:=t) (by rw [hi.ok.pl]; exact ht)
   obtain ⟨v,hv⟩:=js (l:=xt.Closed) (i:=b) (by rw [(hi.ok.pi t xt hxt).2]; exact hbp)
   rw [qgd hxt hv] at h1
   subst h1
   rw [qdq hxt]
   cases hT:xt.Taken with
   | true=>rfl
   | false=>exact absurd (((hg.pic t xt hxt).no hT).2.2 true (List.mem_of_getElem? hv)) (by decide)
 intro x hx
 obtain ⟨t,ht⟩:=List.getElem?_of_mem hx
 have htp:t<p:=by have:=(List.getElem?_eq_some_iff.1 ht).1; rw [hi.ok.pl] at this; exact this
 have hT:x.Taken=true:=by have:=htk htp; rwa [qdq ht] at this
 refine ⟨hT,fun hf=>?_⟩
 obtain ⟨u,hu⟩:=List.getElem?_of_mem hf
 have hup:u<p:=by have:=(List.getElem?_eq_some_iff.1 hu).1; rw [(hi.ok.pi t x ht).2] at this; exact this
 by_cases e:u=t
 ·subst e
  have:=((hg.pic u x ht).yes hT).2.2
  rw [hu] at this
  cases this
 ·have:=hcl hup htp e (htk hup)
  rw [qgd ht hu] at this
  cases this
theorem Done.way {p:Nat}{T:Int}{f:Snap}(h:Done p T f) : (y8 f.Chans).sum=0:=by
 have:∀ {l:List Chan},(∀ c∈l,c.Way=[])→(y8 l).sum=0:=by
  intro l
  induction l with
  | nil=>intro _; rfl
  | cons b r ih =>
   intro h
   show b.Way.sum+(y8 r).sum=0
   rw [ih (fun c hc=>h c (by simp [hc])),h b (by simp)]; rfl
 exact this h.emp
end Go.Proofs.Ytpkiieniipenjaa.X
