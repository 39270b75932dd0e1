/- A step of a play: the specification's and the program's are one. -/
import Derived.Test.YtpkiieniipenjaaXCL8c
set_option linter.unusedVariables false
set_option linter.unusedSimpArgs false
namespace Go.Proofs.Ytpkiieniipenjaa.X
open Go

theorem Ev.cst {α:Type}{x:Option α}{r:α}(h:Ev (fun _=>x) r) : x=some r:=h.elim fun K hk=>hk K (Nat.le_refl _)
theorem ym {α:Type}{l:List α}{i j:Nat}{v y:α}(h:(l.set i v)[j]? = some y) : (i=j∧y=v)∨(i≠j∧l[j]? = some y):=by
 by_cases hij:i=j
 ·subst hij
  obtain ⟨hl,rfl⟩:=List.getElem?_eq_some_iff.1 h
  exact .inl ⟨rfl,by simp⟩
 ·rw [List.getElem?_set_ne hij] at h
  exact .inr ⟨hij,h⟩
theorem SnInv.mono {p n:Nat}{s:Snap}(h:SnInv p n s) : SnInv p (n+1) s :=
 ⟨h.ok,h.an,h.wn,h.sum,h.tot,h.sent,fun i x hx z hz=>by have:=h.inn i x hx z hz; omega⟩
theorem qtg {k:Int}{c:Chan}{z:Int}(hz:z∈(kv k c).Way) : z=0∨z∈c.Way:=by
 unfold kv at hz
 split at hz
 ·simp at hz; rcases hz with h | h
  ·exact .inr h
  ·exact .inl h
 ·exact .inr hz
theorem SnInv.take {p n:Nat}{s:Snap}{k:Nat}{x:Picture}{a:Int}(h:SnInv p n s)(hr:qe8 s k)(hx:s.Pictures[k]? = some x) : SnInv p n (qas s k x a):=by
 refine ⟨⟨h.ok.pp,h.ok.am,?_,fun i c hc=>?_,?_,fun i y hy=>?_⟩,h.an,fun i c hc z hz=>?_,?_,h.tot,h.sent,fun i y hy z hz=>?_⟩
 ·simp only [qas,List.length_map]; exact h.ok.chl
 ·simp only [qas,List.getElem?_map,Option.map_eq_some_iff] at hc
  obtain ⟨d,hd,rfl⟩:=hc
  obtain ⟨h1,h2,h3,h4⟩:=h.ok.ch i d hd
  unfold kv
  split
  ·next hf =>
   have:=hr i d hd hf
   exact ⟨h1,h2,h3,by simp; omega⟩
  ·exact ⟨h1,h2,h3,h4⟩
 ·simp only [qas,List.length_set]; exact h.ok.pl
 ·rcases ym hy with ⟨_,rfl⟩ | ⟨_,hy⟩
  ·have:=h.ok.pi k x hx
   exact ⟨this.1,by simp only [List.length_set]; exact this.2⟩
  ·exact h.ok.pi i y hy
 ·simp only [qas,List.getElem?_map,Option.map_eq_some_iff] at hc
  obtain ⟨d,hd,rfl⟩:=hc
  rcases qtg hz with rfl | hz
  ·exact Int.le_refl _
  ·exact h.wn i d hd z hz
 ·show s.Amounts.sum+(y8 (s.Chans.map (kv k))).sum=s.Total
  rw [qrt]; exact h.sum
 ·rcases ym hy with ⟨_,rfl⟩ | ⟨_,hy⟩
  ·exact h.inn k x hx z hz
  ·exact h.inn i y hy z hz
theorem SnInv.send {p n:Nat}{s:Snap}{k f:Nat}{c:Chan}{a z:Int}(h:SnInv p n s)(hc:s.Chans[k]? = some c)(ha:s.Amounts[f]? = some a)(hz:1≤z∧z≤a)(hw:c.Way.length≠8)(hs:s.Sent≠1000) :
  SnInv p n ⟨s.Amounts.set f (a - z),s.Chans.set k ⟨c.From,c.To,c.Way++[z]⟩,s.Pictures,s.Sent+1,s.Total⟩:=by
 obtain ⟨h1,h2,h3,h4⟩:=h.ok.ch k c hc
 have hs2:=h.sent
 refine ⟨⟨h.ok.pp,by simp only [List.length_set]; exact h.ok.am,by simp only [List.length_set]; exact h.ok.chl,fun i d hd=>?_,h.ok.pl,h.ok.pi⟩,fun y hy=>?_,fun i d hd y hy=>?_,?_,h.tot,by dsimp only; omega,h.inn⟩
 ·rcases ym hd with ⟨_,rfl⟩ | ⟨_,hd⟩
  ·exact ⟨h1,h2,h3,by simp; omega⟩
  ·exact h.ok.ch i d hd
 ·rcases List.mem_or_eq_of_mem_set hy with hy | rfl
  ·exact h.an y hy
  ·omega
 ·rcases ym hd with ⟨_,rfl⟩ | ⟨_,hd⟩
  ·simp only [List.mem_append,List.mem_singleton] at hy
   rcases hy with hy | rfl
   ·exact h.wn k c hc y hy
   ·omega
  ·exact h.wn i d hd y hy
 ·show (s.Amounts.set f (a - z)).sum+(y8 (s.Chans.set k ⟨c.From,c.To,c.Way++[z]⟩)).sum=s.Total
  rw [qgk ha,qnw hc]
  have:=h.sum
  simp only [List.sum_append,List.sum_cons,List.sum_nil]
  omega
theorem SnInv.pop {p n:Nat}{s:Snap}{k t:Nat}{c:Chan}{a z:Int}{w:List Int}(h:SnInv p n s)(hc:s.Chans[k]? = some c)(ha:s.Amounts[t]? = some a)(hw:c.Way=z::w) :
  SnInv p n ⟨s.Amounts.set t (a+z),s.Chans.set k ⟨c.From,c.To,w⟩,s.Pictures,s.Sent,s.Total⟩:=by
 obtain ⟨h1,h2,h3,h4⟩:=h.ok.ch k c hc
 have hz:=h.way_le hc (z:=z) (by rw [hw]; simp)
 rw [hw] at h4
 simp only [List.length_cons] at h4
 refine ⟨⟨h.ok.pp,by simp only [List.length_set]; exact h.ok.am,by simp only [List.length_set]; exact h.ok.chl,fun i d hd=>?_,h.ok.pl,h.ok.pi⟩,fun y hy=>?_,fun i d hd y hy=>?_,?_,h.tot,h.sent,h.inn⟩
 ·rcases ym hd with ⟨_,rfl⟩ | ⟨_,hd⟩
  ·exact ⟨h1,h2,h3,by dsimp only; omega⟩
  ·exact h.ok.ch i d hd
 ·rcases List.mem_or_eq_of_mem_set hy with hy | rfl
  ·exact h.an y hy
  ·have:=h.an a (List.mem_of_getElem? ha); omega
 ·rcases ym hd with ⟨_,rfl⟩ | ⟨_,hd⟩
  ·exact h.wn k c hc y (by rw [hw]; exact List.mem_cons_of_mem _ hy)
  ·exact h.wn i d hd y hy
 ·show (s.Amounts.set t (a+z)).sum+(y8 (s.Chans.set k ⟨c.From,c.To,w⟩)).sum=s.Total
  rw [qgk ha,qnw hc,hw]
  have:=h.sum
  simp only [List.sum_cons]
  omega
theorem SnInv.close {p n:Nat}{s:Snap}{t f:Nat}{x:Picture}(h:SnInv p n s)(hx:s.Pictures[t]? = some x) : SnInv p n ⟨s.Amounts,s.Chans,s.Pictures.set t ⟨x.Taken,x.Amount,x.In,x.Closed.set f true⟩,s.Sent,s.Total⟩:=by
 refine ⟨⟨h.ok.pp,h.ok.am,h.ok.chl,h.ok.ch,by simp only [List.length_set]; exact h.ok.pl,fun i y hy=>?_⟩,h.an,h.wn,h.sum,h.tot,h.sent,fun i y hy z hz=>?_⟩
 ·rcases ym hy with ⟨_,rfl⟩ | ⟨_,hy⟩
  ·have:=h.ok.pi t x hx
   exact ⟨this.1,by simp only [List.length_set]; exact this.2⟩
  ·exact h.ok.pi i y hy
 ·rcases ym hy with ⟨_,rfl⟩ | ⟨_,hy⟩
  ·exact h.inn t x hx z hz
  ·exact h.inn i y hy z hz
theorem SnInv.count {p n:Nat}{s:Snap}{t f:Nat}{x:Picture}{v z:Int}(h:SnInv p n s)(hx:s.Pictures[t]? = some x)(hv:x.In[f]? = some v)(hz:0≤z∧z≤1000) : SnInv p (n+1) ⟨s.Amounts,s.Chans,s.Pictures.set t ⟨x.Taken,x.Amount,x.In.set f (v+z),x.Closed⟩,s.Sent,s.Total⟩:=by
 refine ⟨⟨h.ok.pp,h.ok.am,h.ok.chl,h.ok.ch,by simp only [List.length_set]; exact h.ok.pl,fun i y hy=>?_⟩,h.an,h.wn,h.sum,h.tot,h.sent,fun i y hy u hu=>?_⟩
 ·rcases ym hy with ⟨_,rfl⟩ | ⟨_,hy⟩
  ·have:=h.ok.pi t x hx
   exact ⟨by simp only [List.length_set]; exact this.1,this.2⟩
  ·exact h.ok.pi i y hy
 ·have e:(1000:Int)*((n+1:Nat) : Int)=1000*n+1000:=by omega
  rw [e]
  rcases ym hy with ⟨_,rfl⟩ | ⟨_,hy⟩
  ·rcases List.mem_or_eq_of_mem_set hu with hu | rfl
   ·have:=h.inn t x hx u hu; omega
   ·have:=h.inn t x hx v (List.mem_of_getElem? hv); omega
  ·have:=h.inn i y hy u hu; omega
theorem qwr {s s':Snap}{k t:Nat}{c:Chan}{w:List Int}(hc:s.Chans[k]? = some c)(hf:c.From≠(t:Int))(e:s'.Chans=s.Chans.set k ⟨c.From,c.To,w⟩) : qe8 s' t↔qe8 s t:=by
 unfold qe8
 rw [e]
 constructor
 ·intro h i d hd he
  by_cases hk:k=i
  ·subst hk; rw [hc] at hd; cases hd; exact absurd he hf
  ·exact h i d (by rw [List.getElem?_set_ne hk]; exact hd) he
 ·intro h i d hd he
  rcases ym hd with ⟨_,rfl⟩ | ⟨_,hd⟩
  ·exact absurd he hf
  ·exact h i d hd he
theorem qw {α β:Type}{x:Option α}{a:α}{f:α→Option β}{r:Option β}(h:x=some a)(h2:f a=r) : x.bind f=r:=by rw [h]; exact h2
theorem jx {α:Type}{b:Bool}{x y r:α}(h:b=true)(h2:x=r) : (if b=true then x else y)=r:=by rw [if_pos h]; exact h2
theorem zu {α:Type}{b:Bool}{x y r:α}(h:b=false)(h2:y=r) : (if b=true then x else y)=r:=by rw [if_neg (by simp [h])]; exact h2
inductive SRel (s:Snap) (x:SnapStep) : Bool→Snap→Prop where
 | no:SRel s x false s
 | took (hK:x.Kind=3) (k:Nat) (y:Picture) (a:Int) (hr:qe8 s k) (hy:s.Pictures[k]? = some y) (hT:y.Taken=false) (ha:s.Amounts[k]? = some a) : SRel s x true (qas s k y a)
 | send (hK:x.Kind=1) (k f:Nat) (c:Chan) (a z:Int) (hc:s.Chans[k]? = some c) (hf:c.From=(f:Int)) (ha:s.Amounts[f]? = some a) (hz:1≤z∧z≤a) : SRel s x true ⟨s.Amounts.set f (a - z),s.Chans.set k ⟨c.From,c.To,c.Way++[z]⟩,s.Pictures,s.Sent+1,s.Total⟩
 | cnt (hK:x.Kind=2) (k f t:Nat) (c:Chan) (a v z:Int) (w:List Int) (y:Picture) (hc:s.Chans[k]? = some c) (hw:c.Way=z::w) (hf:c.From=(f:Int)) (ht:c.To=(t:Int)) (ha:s.Amounts[t]? = some a) (hy:s.Pictures[t]? = some y) (hT:y.Taken=true) (hcl:y.Closed[f]? = some false) (hv:y.In[f]? = some v) (hz:0<z) : SRel s x true ⟨s.Amounts.set t (a+z),s.Chans.set k ⟨c.From,c.To,w⟩,s.Pictures.set t ⟨y.Taken,y.Amount,y.In.set f (v+z),y.Closed⟩,s.Sent,s.Total⟩
 | pop (hK:x.Kind=2) (k f t:Nat) (c:Chan) (a z:Int) (w:List Int) (y:Picture) (cl:Bool) (hc:s.Chans[k]? = some c) (hw:c.Way=z::w) (hf:c.From=(f:Int)) (ht:c.To=(t:Int)) (ha:s.Amounts[t]? = some a) (hy:s.Pictures[t]? = some y) (hcl:y.Closed[f]? = some cl) (hn:¬ (y.Taken=true∧cl=false)) (hz:0<z) : SRel s x true ⟨s.Amounts.set t (a+z),s.Chans.set k ⟨c.From,c.To,w⟩,s.Pictures,s.Sent,s.Total⟩
 | mark (hK:x.Kind=2) (k f t:Nat) (c:Chan) (w:List Int) (y:Picture) (hc:s.Chans[k]? = some c) (hw:c.Way=0::w) (hf:c.From=(f:Int)) (ht:c.To=(t:Int)) (hy:s.Pictures[t]? = some y) (hT:y.Taken=true) : SRel s x true ⟨s.Amounts,s.Chans.set k ⟨c.From,c.To,w⟩,s.Pictures.set t ⟨y.Taken,y.Amount,y.In,y.Closed.set f true⟩,s.Sent,s.Total⟩
 | tmark (hK:x.Kind=2) (k f t:Nat) (c:Chan) (w:List Int) (y:Picture) (a:Int) (hc:s.Chans[k]? = some c) (hw:c.Way=0::w) (hf:c.From=(f:Int)) (ht:c.To=(t:Int)) (hr:qe8 s t) (hy:s.Pictures[t]? = some y) (hT:y.Taken=false) (ha:s.Amounts[t]? = some a) : SRel s x true ⟨s.Amounts,(s.Chans.set k ⟨c.From,c.To,w⟩).map (kv (t:Int)),(s.Pictures.set t ⟨true,a,y.In,y.Closed.set t true⟩).set t ⟨true,a,y.In,(y.Closed.set t true).set f true⟩,s.Sent,s.Total⟩
def StepR (p n:Nat)(s:Snap)(x:SnapStep) : Prop:=∃ b s',yf s x=some (b,s')∧(∃ y,yx s x=some (y,b)∧(b=true→y=s')∧y.Chans.length≤12)∧(b=false→s'=s)∧SnInv p (n+1) s'∧SRel s x b s'
theorem StepR.no {p n:Nat}{s y:Snap}{x:SnapStep}(h:SnInv p n s)(h1:yf s x=some (false,s))(h2:yx s x=some (y,false))(hy:y.Chans.length=s.Chans.length:=by rfl) : StepR p n s x :=
 ⟨false,s,h1,⟨y,h2,(fun e=>by cases e),by rw [hy]; exact h.ok.chl⟩,fun _=>rfl,h.mono,.no⟩
theorem StepR.yes {p n:Nat}{s s':Snap}{x:SnapStep}(h:SnInv p (n+1) s')(hr:SRel s x true s')(h1:yf s x=some (true,s'))(h2:yx s x=some (s',true)) : StepR p n s x :=
 ⟨true,s',h1,⟨s',h2,fun _=>rfl,h.ok.chl⟩,(fun e=>by cases e),h,hr⟩
theorem q89 {p n:Nat}{s:Snap}{x:SnapStep}(h:SnInv p n s)(hK:x.Kind=3) : StepR p n s x:=by
 have hp:=h.ok.pp
 have ham:=h.ok.am
 have hw:IntKind.wrap .i64 ((List.length s.Amounts:Int) - 1)=(p:Int) - 1:=by rw [kc (by omega) (by omega),ham]
 by_cases hN:x.N=0
 rotate_left
 ·refine StepR.no (y:=s) h ?_ ?_
  ·exact jx (by simp [hK,hN]) rfl
  ·exact jx (by simp [hK]) (qw (jx (by simp [hN]) rfl) (jx rfl rfl))
 by_cases hk:0≤x.K∧x.K<p
 rotate_left
 ·refine StepR.no (y:=s) h ?_ ?_
  ·refine zu (by simp [hN]) (jx (by simp [hK]) (qw (zu ?_ rfl) (zu rfl rfl)))
   rw [hw]
   simp only [zx,Bool.and_eq_false_iff,decide_eq_false_iff_not]
   omega
  ·refine jx (by simp [hK]) (qw (jx ?_ rfl) (jx rfl rfl))
   simp only [Bool.or_eq_true,decide_eq_true_eq]
   omega
 obtain ⟨k,hkk⟩ : ∃ k:Nat,x.K=k:=⟨x.K.toNat,by omega⟩
 rw [hkk] at hk
 obtain ⟨y,hy⟩:=js (l:=s.Pictures) (i:=k) (by rw [h.ok.pl]; omega)
 have c1:(zx (k:Int) 0 ((p:Int) - 1))=true:=by simp only [zx,Bool.and_eq_true,decide_eq_true_eq]; omega
 have c2:(((decide (x.N≠0))||(decide ((k:Int)<0)))||(decide ((List.length s.Amounts:Int)≤(k:Int))))=false:=by simp only [hN,Bool.or_eq_false_iff,decide_eq_false_iff_not]; omega
 have eI:yf s x=((some (!y.Taken)).bind fun v21=>(if v21=true then ((wx s k).bind fun v53=>(some (v53.1,v53.2))) else (some (false,s)))):=by
  refine zu (by simp [hN]) (jx (by simp [hK]) ?_)
  rw [hw,hkk,if_pos c1,zz hy]
  rfl
 have eS:yx s x=((some y.Taken).bind fun v39=>(if v39=true then (some (s,false)) else ((yw s k).bind fun v74=>(some (v74.1,v74.2))))):=by
  refine jx (by simp [hK]) ?_
  rw [hkk,if_neg (by rw [c2]; simp),zz hy]
  rfl
 by_cases ht:y.Taken=true
 ·exact StepR.no (y:=s) h (by rw [eI,ht]; rfl) (by rw [eS,ht]; rfl)
 ·simp only [Bool.not_eq_true] at ht
  rw [ht] at eI eS
  rcases qjf h.ok (k:=k) (by omega) with ⟨_,e1,e2⟩ | ⟨hr,y',a,hy',ha,e1,e2⟩
  ·exact StepR.no (y:=s) h (by rw [eI]; exact qw rfl (jx rfl (qw e2.cst rfl))) (by rw [eS]; exact qw rfl (zu rfl (qw e1.cst rfl)))
  ·exact StepR.yes (h.take hr hy').mono (.took hK k y' a hr hy' (by rw [hy] at hy'; cases hy'; exact ht) ha) (by rw [eI]; exact qw rfl (jx rfl (qw e2.cst rfl))) (by rw [eS]; exact qw rfl (zu rfl (qw e1.cst rfl)))
theorem rng {p n:Nat}{s:Snap}{x:SnapStep}(h:SnInv p n s) : IntKind.wrap .i64 ((List.length s.Chans:Int) - 1)=(List.length s.Chans:Int) - 1:=by
 have:=h.ok.chl
 exact kc (by omega) (by omega)
theorem q9e {p n:Nat}{s:Snap}{x:SnapStep}{k:Nat}{c:Chan}(h:SnInv p n s)(hK:x.Kind=1)(hk:x.K=(k:Int))(hc:s.Chans[k]? = some c) : StepR p n s x:=by
 have hl:=(List.getElem?_eq_some_iff.1 hc).1
 obtain ⟨⟨f0,f1⟩,⟨t0,t1⟩,hne,hwl⟩:=h.ok.ch k c hc
 obtain ⟨f,hf⟩ : ∃ f:Nat,c.From=f:=⟨c.From.toNat,by omega⟩
 obtain ⟨t,ht⟩ : ∃ t:Nat,c.To=t:=⟨c.To.toNat,by omega⟩
 obtain ⟨y,hy⟩:=js (l:=s.Pictures) (i:=t) (by rw [h.ok.pl]; omega)
 obtain ⟨a,ha⟩:=js (l:=s.Amounts) (i:=f) (by rw [h.ok.am]; omega)
 have hab:=h.am_le (List.mem_of_getElem? ha)
 have hs:=h.sent
 have c1:(!(zx x.K 0 (IntKind.wrap .i64 ((List.length s.Chans:Int) - 1))))=false:=by
  rw [rng (x:=x) h,hk]; simp only [zx,Bool.not_eq_false',Bool.and_eq_true,decide_eq_true_eq]; omega
 have c2:((decide (x.K<0))||(decide ((List.length s.Chans:Int)≤x.K)))=false:=by
  rw [hk]; simp only [Bool.or_eq_false_iff,decide_eq_false_iff_not]; omega
 have gc:zt s.Chans x.K=some c:=by rw [hk]; exact zz hc
 have gp:zt s.Pictures c.To=some y:=by rw [ht]; exact zz hy
 have ga:zt s.Amounts c.From=some a:=by rw [hf]; exact zz ha
 by_cases hb:(1≤x.N∧x.N≤a)∧c.Way.length≠8∧s.Sent≠1000
 ·have i1:=h.send hc ha hb.1 hb.2.1 hb.2.2
  refine StepR.yes i1.mono (.send hK k f c a x.N hc hf ha hb.1) ?_ ?_
  ·refine zu (by simp [hK]) (zu (by simp [hK]) (zu c1 (qw gc (qw gp (jx (by simp [hK]) (qw ga (zu ?_ (qw (qh0 (by omega)) ?_))))))))
   ·simp only [zx,Bool.or_eq_false_iff,Bool.not_eq_false',Bool.and_eq_true,decide_eq_true_eq,decide_eq_false_iff_not]; omega
   ·rw [kc (n:=a - x.N) (by omega) (by omega),kc (n:=s.Sent+1) (by omega) (by omega),hf,hk,Int.toNat_natCast,Int.toNat_natCast]
  ·refine zu (by simp [hK]) (zu c2 (qw gc (jx (by simp [hK]) (qw (zu (by simp; omega) (qw ga rfl)) (zu ?_ (qw ga (qw (qh0 (by omega)) ?_)))))))
   ·simp only [Bool.or_eq_false_iff,decide_eq_false_iff_not]; omega
   ·rw [kc (n:=a - x.N) (by omega) (by omega),kc (n:=s.Sent+1) (by omega) (by omega),hf,hk,Int.toNat_natCast,Int.toNat_natCast]
 ·refine StepR.no (y:=s) h ?_ ?_
  ·refine zu (by simp [hK]) (zu (by simp [hK]) (zu c1 (qw gc (qw gp (jx (by simp [hK]) (qw ga (jx ?_ rfl)))))))
   simp only [zx,Bool.or_eq_true,Bool.not_eq_true',Bool.and_eq_false_iff,decide_eq_true_eq,decide_eq_false_iff_not]; omega
  ·refine zu (by simp [hK]) (zu c2 (qw gc (jx (by simp [hK]) ?_)))
   by_cases hn:x.N<1
   ·exact qw (jx (by simp [hn]) rfl) (jx (by simp) rfl)
   ·refine qw (zu (by simp [hn]) (qw ga rfl)) (jx ?_ rfl)
    simp only [Bool.or_eq_true,decide_eq_true_eq]; omega
theorem q2l {p n:Nat}{s:Snap}{x:SnapStep}{k:Nat}{c:Chan}(h:SnInv p n s)(hn:n≤900)(hK:x.Kind=2)(hk:x.K=(k:Int))(hc:s.Chans[k]? = some c) : StepR p n s x:=by
 have hl:=(List.getElem?_eq_some_iff.1 hc).1
 obtain ⟨⟨f0,f1⟩,⟨t0,t1⟩,hne,hwl⟩:=h.ok.ch k c hc
 obtain ⟨f,hf⟩ : ∃ f:Nat,c.From=f:=⟨c.From.toNat,by omega⟩
 obtain ⟨t,ht⟩ : ∃ t:Nat,c.To=t:=⟨c.To.toNat,by omega⟩
 obtain ⟨y,hy⟩:=js (l:=s.Pictures) (i:=t) (by rw [h.ok.pl]; omega)
 obtain ⟨a,ha⟩:=js (l:=s.Amounts) (i:=t) (by rw [h.ok.am]; omega)
 obtain ⟨y1,y2⟩:=h.ok.pi t y hy
 obtain ⟨v,hv⟩:=js (l:=y.In) (i:=f) (by omega)
 obtain ⟨cl,hcl⟩:=js (l:=y.Closed) (i:=f) (by omega)
 have hab:=h.am_le (List.mem_of_getElem? ha)
 have hvb:=h.inn t y hy v (List.mem_of_getElem? hv)
 have c1:(!(zx x.K 0 (IntKind.wrap .i64 ((List.length s.Chans:Int) - 1))))=false:=by
  rw [rng (x:=x) h,hk]; simp only [zx,Bool.not_eq_false',Bool.and_eq_true,decide_eq_true_eq]; omega
 have c2:((decide (x.K<0))||(decide ((List.length s.Chans:Int)≤x.K)))=false:=by
  rw [hk]; simp only [Bool.or_eq_false_iff,decide_eq_false_iff_not]; omega
 have gc:zt s.Chans x.K=some c:=by rw [hk]; exact zz hc
 have gp:zt s.Pictures c.To=some y:=by rw [ht]; exact zz hy
 have ga:zt s.Amounts c.To=some a:=by rw [ht]; exact zz ha
 have gv:zt y.In c.From=some v:=by rw [hf]; exact zz hv
 have gl:zt y.Closed c.From=some cl:=by rw [hf]; exact zz hcl
 by_cases hN:x.N=0
 rotate_left
 ·refine StepR.no (y:=s) h ?_ ?_
  ·exact jx (by simp [hK,hN]) rfl
  ·exact zu (by simp [hK]) (zu c2 (qw gc (zu (by simp [hK]) (jx (by simp [hK]) (jx (by simp [hN]) rfl)))))
 cases hw:c.Way with
 | nil =>
  refine StepR.no (y:=s) h ?_ ?_
  ·exact zu (by simp [hN]) (zu (by simp [hK]) (zu c1 (qw gc (qw gp (zu (by simp [hK]) (jx (by simp [hK]) (jx (by simp [hw]) rfl)))))))
  ·exact zu (by simp [hK]) (zu c2 (qw gc (zu (by simp [hK]) (jx (by simp [hK]) (jx (by simp [hw]) rfl)))))
 | cons z w =>
  have hz:=h.way_le hc (z:=z) (by rw [hw]; simp)
  rw [hw] at hwl
  simp only [List.length_cons] at hwl
  have gz:zt c.Way (0:Int)=some z:=by rw [hw]; rfl
  have gs:sl c.Way 1 (List.length c.Way)=some w:=by
   have:=q6c (l:=c.Way) (i:=1) (by rw [hw]; simp)
   rw [hw] at this ⊢
   exact this
  have gn:ye 8 ([] : List Int) w=some w:=qb9 (by omega)
  have eS:∀ r,qbc s x.K=some r→yx s x=some (r.1,r.2):=fun r e =>
   zu (by simp [hK]) (zu c2 (qw gc (zu (by simp [hK]) (jx (by simp [hK]) (zu (by simp [hN,hw]; omega) (qw e rfl))))))
  have hpop:=h.pop hc ha hw
  have wa:IntKind.wrap .i64 (a+z)=a+z:=kc (by omega) (by omega)
  have wv:IntKind.wrap .i64 (v+z)=v+z:=kc (by omega) (by omega)
  have hk':x.K.toNat=k:=by omega
  have ht':c.To.toNat=t:=by omega
  have hf':c.From.toNat=f:=by omega
  by_cases hz0:0<z
  ·by_cases hcnt:y.Taken=true∧cl=false
   ·-- counted
    obtain ⟨hT,rfl⟩:=hcnt
    have i1:=hpop.count hy hv hz
    refine StepR.yes i1 (.cnt hK k f t c a v z w y hc hw hf ht ha hy hT hcl hv hz0) ?_ (eS (_,true) ?_)
    ·refine zu (by simp [hN]) (zu (by simp [hK]) (zu c1 (qw gc (qw gp (zu (by simp [hK]) (jx (by simp [hK]) (zu (by simp [hw]; omega) (qw gz (qw (jx (by simp [hz0,hT]) (qw gl rfl)) (qw (jx rfl (qw gv rfl)) (zu ?_ (zu ?_ (qw gs (qw gn (qw ga (qw (jx rfl (qw gv rfl)) ?_))))))))))))))))
     ·rw [wv]; simp only [decide_eq_false_iff_not]; omega
     ·simp only [Bool.and_eq_false_iff,decide_eq_false_iff_not]; omega
     ·refine zu (by simp only [decide_eq_false_iff_not]; omega) ?_
      rw [wa,wv,hk',ht',hf']
    ·refine qw gc (qw gz (qw gs (qw gn (jx (by simpa using hz0) (qw ga (qw gp (qw (jx hT (qw gl rfl)) (qw (jx rfl (qw gv rfl)) ?_))))))))
     unfold qdc
     rw [wa,wv,hk',ht',hf']
   ·-- not counted
    refine StepR.yes hpop.mono (.pop hK k f t c a z w y cl hc hw hf ht ha hy hcl hcnt hz0) ?_ (eS (_,true) ?_)
    ·refine zu (by simp [hN]) (zu (by simp [hK]) (zu c1 (qw gc (qw gp (zu (by simp [hK]) (jx (by simp [hK]) (zu (by simp [hw]; omega) (qw gz (qw (a:=false) ?_ (qw (zu rfl rfl) (zu rfl (zu ?_ (qw gs (qw gn (qw ga (qw (zu rfl rfl) ?_))))))))))))))))
     ·by_cases hT:y.Taken=true
      ·have:cl=true:=by cases cl with | true=>rfl | false=>exact absurd ⟨hT,rfl⟩ hcnt
       subst this
       exact jx (by simp [hz0,hT]) (qw gl rfl)
      ·exact zu (by simp [hT]) rfl
     ·simp only [Bool.and_eq_false_iff,decide_eq_false_iff_not]; omega
     ·refine zu (by simp only [decide_eq_false_iff_not]; omega) ?_
      rw [wa,hk',ht']
    ·refine qw gc (qw gz (qw gs (qw gn (jx (by simpa using hz0) (qw ga (qw gp (qw (a:=false) ?_ (qw (zu rfl rfl) ?_))))))))
     ·by_cases hT:y.Taken=true
      ·have:cl=true:=by cases cl with | true=>rfl | false=>exact absurd ⟨hT,rfl⟩ hcnt
       subst this
       exact jx hT (qw gl rfl)
      ·exact zu (by simpa using hT) rfl
     ·unfold qdc
      rw [wa,hk',ht']
  ·have hz1:z=0:=by omega
   subst hz1
   have wa0:IntKind.wrap .i64 (a+0)=a:=by rw [wa]; omega
   have sa:s.Amounts.set t a=s.Amounts:=qfd ha
   simp only [Int.add_zero,sa] at hpop
   by_cases hT:y.Taken=true
   ·-- the mark comes to one with its picture
    refine StepR.yes (hpop.close hy (f:=f)).mono (.mark hK k f t c w y hc hw hf ht hy hT) ?_ (eS (_,true) ?_)
    ·refine zu (by simp [hN]) (zu (by simp [hK]) (zu c1 (qw gc (qw gp (zu (by simp [hK]) (jx (by simp [hK]) (zu (by simp [hw]; omega) (qw gz (qw (zu (by simp) rfl) (qw (zu rfl rfl) (zu rfl (zu (by simp [hT]) (qw gs (qw gn (qw ga (qw (zu rfl rfl) ?_))))))))))))))))
     refine jx (by simp) (qw gp (qw (a:=⟨c.From,c.To,w⟩) ?_ (qw gl ?_)))
     ·dsimp only
      rw [hk',hk]
      exact zz (by rw [List.getElem?_set_self hl])
     ·dsimp only
      rw [wa0,hk',ht',hf',sa]
    ·refine qw gc (qw gz (qw gs (qw gn (zu (by simp) (qw gp (qw (a:=Oc.nxt _) (zu (by simp [hT]) rfl) ?_))))))
     refine qw gp (qw gl ?_)
     rw [hk',ht',hf']
   ·simp only [Bool.not_eq_true] at hT
    let s1:Snap:=⟨s.Amounts,s.Chans.set k ⟨c.From,c.To,w⟩,s.Pictures,s.Sent,s.Total⟩
    have hroom:qe8 s1 t↔qe8 s t:=qwr hc (by omega) rfl
    have htp:t<p:=by omega
    rcases qjf h.ok (k:=t) htp with ⟨r1,e1,e2⟩ | ⟨r1,x1,a1,hx1,ha1,e1,e2⟩
    ·rcases qjf hpop.ok (k:=t) htp with ⟨r2,g1,g2⟩ | ⟨r2,x2,a2,hx2,ha2,g1,g2⟩
     ·refine StepR.no (y:=s1) h ?_ (eS (s1,false) ?_) (show (s.Chans.set k _).length=_ from List.length_set)
      ·refine zu (by simp [hN]) (zu (by simp [hK]) (zu c1 (qw gc (qw gp (zu (by simp [hK]) (jx (by simp [hK]) (zu (by simp [hw]; omega) (qw gz (qw (zu (by simp) rfl) (qw (zu rfl rfl) (zu rfl (jx (by simp [hT]) (qw (by rw [ht]; exact e2.cst) (jx rfl rfl))))))))))))))
      ·refine qw gc (qw gz (qw gs (qw gn (zu (by simp) (qw gp (qw (a:=Oc.ret (s1,false)) (jx (by simp [hT]) (qw (by rw [hk']; exact (congrArg (yw s1) ht).trans g1.cst) (jx rfl rfl))) rfl))))))
     ·exact absurd (hroom.1 r2) r1
    ·rcases qjf hpop.ok (k:=t) htp with ⟨r2,g1,g2⟩ | ⟨r2,x2,a2,hx2,ha2,g1,g2⟩
     ·exact absurd (hroom.2 r1) r2
     ·have ex1:x1=y:=by rw [hy] at hx1; cases hx1; rfl
      have ex2:x2=y:=by
       have hx2:s.Pictures[t]? = some x2:=hx2
       rw [hy] at hx2; cases hx2; rfl
      have ea1:a1=a:=by rw [ha] at ha1; cases ha1; rfl
      have ea2:a2=a:=by
       have ha2:s.Amounts[t]? = some a2:=ha2
       rw [ha] at ha2; cases ha2; rfl
      subst ex1 ea1
      subst ex2 ea2
      have hmk:kv (t:Int) c=c:=by unfold kv; rw [if_neg (by omega)]
      have hmk2:kv (t:Int) ⟨c.From,c.To,w⟩=⟨c.From,c.To,w⟩:=by unfold kv; rw [if_neg (by dsimp only; omega)]
      have hcm:(s.Chans.set k ⟨c.From,c.To,w⟩).map (kv (t:Int))=(s.Chans.map (kv (t:Int))).set k ⟨c.From,c.To,w⟩:=by rw [List.map_set,hmk2]
      have hlt:t<s.Pictures.length:=by rw [h.ok.pl]; exact htp
      have hcl2:(x2.Closed.set t true)[f]? = some cl:=by
       rw [List.getElem?_set_ne (by omega)]; exact hcl
      have hi:=(hpop.take r2 hx2 (a:=a2)).close (t:=t) (f:=f) (x:=⟨true,a2,x2.In,x2.Closed.set t true⟩) (by show (s.Pictures.set t _)[t]? = _; rw [List.getElem?_set_self hlt])
      have gpt:zt (s.Pictures.set t ⟨true,a2,x2.In,x2.Closed.set t true⟩) c.To=some ⟨true,a2,x2.In,x2.Closed.set t true⟩:=by rw [ht]; exact zz (by rw [List.getElem?_set_self hlt])
      have gcl:zt (x2.Closed.set t true) c.From=some cl:=by rw [hf]; exact zz hcl2
      refine StepR.yes hi.mono (.tmark hK k f t c w x2 a2 hc hw hf ht r1 hy hT ha) ?_ (eS (_,true) ?_)
      ·refine zu (by simp [hN]) (zu (by simp [hK]) (zu c1 (qw gc (qw gp (zu (by simp [hK]) (jx (by simp [hK]) (zu (by simp [hw]; omega) (qw gz (qw (zu (by simp) rfl) (qw (zu rfl rfl) (zu rfl (jx (by simp [hT]) (qw (by rw [ht]; exact e2.cst) (zu rfl (qw (a:=c) ?_ (qw gs (qw gn (qw ga (qw (zu rfl rfl) ?_)))))))))))))))))))
       ·show zt (s.Chans.map (kv (t:Int))) x.K=some c
        rw [hk]
        exact zz (by rw [List.getElem?_map,hc]; exact congrArg some hmk)
       ·refine jx (by simp) (qw gpt (qw (a:=⟨c.From,c.To,w⟩) ?_ (qw gcl ?_)))
        ·show zt ((s.Chans.map (kv (t:Int))).set x.K.toNat _) x.K=_
         rw [hk',hk]
         exact zz (by rw [List.getElem?_set_self (by simpa using hl)])
        ·dsimp only [qas]
         rw [wa0,hk',ht',hf',sa,hcm]
      ·refine qw gc (qw gz (qw gs (qw gn (zu (by simp) (qw gp (qw (a:=Oc.nxt _) (jx (by simp [hT]) (qw (by rw [hk']; exact (congrArg (yw s1) ht).trans g1.cst) (zu rfl rfl))) ?_))))))
       refine qw gpt (qw gcl ?_)
       rw [ht',hf']
theorem qgm {p n:Nat}{s:Snap}{x:SnapStep}(h:SnInv p n s)(hn:n≤900) : StepR p n s x:=by
 by_cases h3:x.Kind=3
 ·exact q89 h h3
 by_cases hN:x.Kind≠1∧x.N≠0
 ·have hi:yf s x=some (false,s):=jx (by simp [hN]) rfl
  by_cases hk:0≤x.K∧x.K<s.Chans.length
  ·obtain ⟨k,hkk⟩ : ∃ k:Nat,x.K=k:=⟨x.K.toNat,by omega⟩
   obtain ⟨c,hc⟩:=js (l:=s.Chans) (i:=k) (by omega)
   by_cases h2:x.Kind=2
   ·exact q2l h hn h2 hkk hc
   ·refine StepR.no (y:=s) h hi (zu (by simp [h3]) (zu ?_ (qw (by rw [hkk]; exact zz hc) (zu (by simp [hN]) (zu (by simp [h2]) rfl)))))
    simp only [Bool.or_eq_false_iff,decide_eq_false_iff_not]; omega
  ·refine StepR.no (y:=s) h hi (zu (by simp [h3]) (jx ?_ rfl))
   simp only [Bool.or_eq_true,decide_eq_true_eq]; omega
 have c0:((decide (x.Kind≠1))&&(decide (x.N≠0)))=false:=by
  simp only [Bool.and_eq_false_iff,decide_eq_false_iff_not]; omega
 by_cases hk:0≤x.K∧x.K<s.Chans.length
 ·obtain ⟨k,hkk⟩ : ∃ k:Nat,x.K=k:=⟨x.K.toNat,by omega⟩
  obtain ⟨c,hc⟩:=js (l:=s.Chans) (i:=k) (by omega)
  by_cases h2:x.Kind=2
  ·exact q2l h hn h2 hkk hc
  by_cases h1:x.Kind=1
  ·exact q9e h h1 hkk hc
  obtain ⟨_,⟨t0,t1⟩,_,_⟩:=h.ok.ch k c hc
  obtain ⟨t,ht⟩ : ∃ t:Nat,c.To=t:=⟨c.To.toNat,by omega⟩
  obtain ⟨y,hy⟩:=js (l:=s.Pictures) (i:=t) (by rw [h.ok.pl]; omega)
  have gc:zt s.Chans x.K=some c:=by rw [hkk]; exact zz hc
  have gp:zt s.Pictures c.To=some y:=by rw [ht]; exact zz hy
  refine StepR.no (y:=s) h (zu c0 (zu (by simp [h3]) (zu ?_ (qw gc (qw gp (zu (by simp [h1]) (zu (by simp [h2]) rfl))))))) (zu (by simp [h3]) (zu ?_ (qw gc (zu (by simp [h1]) (zu (by simp [h2]) rfl)))))
  ·rw [rng (x:=x) h]; simp only [zx,Bool.not_eq_false',Bool.and_eq_true,decide_eq_true_eq]; omega
  ·simp only [Bool.or_eq_false_iff,decide_eq_false_iff_not]; omega
 ·refine StepR.no (y:=s) h (zu c0 (zu (by simp [h3]) (jx ?_ rfl))) (zu (by simp [h3]) (jx ?_ rfl))
  ·rw [rng (x:=x) h]; simp only [zx,Bool.not_eq_true',Bool.and_eq_false_iff,decide_eq_false_iff_not]; omega
  ·simp only [Bool.or_eq_true,decide_eq_true_eq]; omega
end Go.Proofs.Ytpkiieniipenjaa.X
