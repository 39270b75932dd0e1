/- FnSnaps: a step leaves all there is as much, for drawn worlds. -/
import Derived.Test.YtpkiieniipenjaaXCL8t
import Derived.Test.YtpkiieniipenjaaXCL8q
import Derived.Test.YtpkiieniipenjaaXCL8r
import Derived.Test.YtpkiieniipenjaaZFit
set_option linter.unusedVariables false
set_option linter.unusedSimpArgs false
namespace Go.Proofs.Ytpkiieniipenjaa.X
open Go

def DrawnW (s:Snap) : Prop:=∃ p,(2≤p∧p≤4)∧s.Amounts.length=p∧((∃ n,n≤80∧SnInv p n s∧SnG p s)∨(Shape p s∧¬ qgg s))
theorem qmu {p:Nat}{a:Int}{l:List SnapStep}(hp:2≤p∧p≤4)(ha:0≤a∧a≤250)(hl:l.length≤80)(e:Ev (fun k=>ku k (p:Int) a) (uu p a,true)) : ∃ s d,Ev (fun k=>uk k (p:Int) a l) (s,d,true)∧SnInv p l.length s∧SnG p s:=by
 obtain ⟨d,s,h,hs⟩:=qwk (l:=l) (n:=0) (qmk hp ha) (by omega)
 rw [Nat.zero_add] at hs
 exact ⟨s,d,qtj e h hs.ok hl,hs,h.keepG (q76 hp)⟩
theorem qpu {p n:Nat}{s:Snap}{a:Int}(hn:n≤900)(h:SnInv p n s)(hg:SnG p s)(ha:s.Amounts[0]? = some a) : Shape p ⟨s.Amounts.set 0 (a+1),s.Chans,s.Pictures,s.Sent,s.Total⟩∧¬ qgg ⟨s.Amounts.set 0 (a+1),s.Chans,s.Pictures,s.Sent,s.Total⟩:=by
 have hs:=qe5 hn h hg
 have hab:=h.am_le (List.mem_of_getElem? ha)
 refine ⟨⟨hs.pp,by simpa using hs.am,fun z hz=>?_,hs.pl,hs.pi,hs.inn,hs.pn,hs.py,hs.ft,hs.wn,hs.sent,hs.tot⟩,fun hG=>?_⟩
 ·rcases List.mem_or_eq_of_mem_set hz with hz | rfl
  ·exact hs.an z hz
  ·omega
 ·have h1:=hG.2
  have h2:=h.sum
  dsimp only at h1
  rw [qgk ha] at h1
  omega
theorem qpm {p n:Nat}{s:Snap}{x:Picture}{b:Bool}(hn:n≤900)(h:SnInv p n s)(hg:SnG p s)(hx:s.Pictures[0]? = some x)(hb:x.Closed[1]? = some b) : Shape p ⟨s.Amounts,s.Chans,s.Pictures.set 0 ⟨x.Taken,x.Amount,x.In,x.Closed.set 1 (!b)⟩,s.Sent,s.Total⟩∧¬ qgg ⟨s.Amounts,s.Chans,s.Pictures.set 0 ⟨x.Taken,x.Amount,x.In,x.Closed.set 1 (!b)⟩,s.Sent,s.Total⟩:=by
 have hs:=qe5 hn h hg
 have hp:=h.ok.pp
 have hxl:=(List.getElem?_eq_some_iff.1 hx).1
 have hbl:=(List.getElem?_eq_some_iff.1 hb).1
 refine ⟨⟨hs.pp,hs.am,hs.an,by simpa using hs.pl,fun i y hy=>?_,fun i y hy=>?_,fun i y hy hT=>?_,fun i y hy hT=>?_,hs.ft,hs.wn,hs.sent,hs.tot⟩,fun hG=>?_⟩
 ·rcases ym hy with ⟨rfl,rfl⟩ | ⟨_,hy⟩
  ·simpa using hs.pi 0 x hx
  ·exact hs.pi i y hy
 ·rcases ym hy with ⟨rfl,rfl⟩ | ⟨_,hy⟩
  ·exact hs.inn 0 x hx
  ·exact hs.inn i y hy
 ·rcases ym hy with ⟨rfl,rfl⟩ | ⟨_,hy⟩
  ·obtain ⟨h1,h2,h3⟩:=hs.pn 0 x hx hT
   exact ⟨h1,h2,by dsimp only; rw [List.getElem?_set_ne (by decide)]; exact h3⟩
  ·exact hs.pn i y hy hT
 ·rcases ym hy with ⟨rfl,rfl⟩ | ⟨_,hy⟩
  ·obtain ⟨h1,h2,h3⟩:=hs.py 0 x hx hT
   exact ⟨h1,h2,by dsimp only; rw [List.getElem?_set_ne (by decide)]; exact h3⟩
  ·exact hs.py i y hy hT
 ·have hm:=qo2 (p:=p) (f:=1) (t:=0) (by omega) (by omega) (by decide)
  rw [←hg.ft] at hm
  unfold prs at hm
  obtain ⟨c,hc,hce⟩:=List.mem_map.1 hm
  obtain ⟨i,hi⟩:=List.getElem?_of_mem hc
  have f1:c.From=((1:Nat) : Int):=congrArg Prod.fst hce
  have f2:c.To=((0:Nat) : Int):=congrArg Prod.snd hce
  obtain ⟨m1,m2⟩:=hg.mks i c hi
  obtain ⟨g1,g2⟩:=(hG.1.2 i c hi).2
  dsimp only at g1 g2
  rw [f1,f2,Int.toNat_natCast,Int.toNat_natCast] at m1 m2 g1 g2
  rw [qgd hx hb] at m1 m2
  have e1:cl (s.Pictures.set 0 ⟨x.Taken,x.Amount,x.In,x.Closed.set 1 (!b)⟩) 1 0 = !b:=by
   rw [qpr hxl,List.getElem?_set_self hbl]
   rfl
  have e2:tk (s.Pictures.set 0 ⟨x.Taken,x.Amount,x.In,x.Closed.set 1 (!b)⟩) 1=tk s.Pictures 1:=qlv hx rfl
  rw [e1,e2] at g1 g2
  cases hT:tk s.Pictures 1 <;> cases b <;> simp_all
theorem q6f {p n:Nat}{s:Snap}{c:Chan}(hn:n≤900)(h:SnInv p n s)(hg:SnG p s)(hc:s.Chans[0]? = some c) : Shape p ⟨s.Amounts,s.Chans.set 0 ⟨c.From,c.To,c.Way++[0]⟩,s.Pictures,s.Sent,s.Total⟩∧¬ qgg ⟨s.Amounts,s.Chans.set 0 ⟨c.From,c.To,c.Way++[0]⟩,s.Pictures,s.Sent,s.Total⟩:=by
 have hs:=qe5 hn h hg
 refine ⟨⟨hs.pp,hs.am,hs.an,hs.pl,hs.pi,hs.inn,hs.pn,hs.py,(qhy hc).trans hs.ft,fun i d hd=>?_,hs.sent,hs.tot⟩,fun hG=>?_⟩
 ·rcases ym hd with ⟨rfl,rfl⟩ | ⟨_,hd⟩
  ·have h8:=(h.ok.ch 0 c hc).2.2.2
   refine ⟨by simp; omega,fun z hz=>?_⟩
   rcases List.mem_append.1 hz with hz | hz
   ·exact h.way_le hc hz
   ·have:=List.mem_singleton.1 hz; omega
  ·exact hs.wn i d hd
 ·have hl:=(List.getElem?_eq_some_iff.1 hc).1
  obtain ⟨m1,m2⟩:=hg.mks 0 c hc
  obtain ⟨g1,_⟩:=(hG.1.2 0 ⟨c.From,c.To,c.Way++[0]⟩ (by dsimp only; exact List.getElem?_set_self hl)).2
  dsimp only at g1
  rw [qi7,if_pos rfl] at g1
  omega
theorem qwu {l:List Int}{x:Int}(h:l.length≤1000) : ye 8 l [x]=some (l++[x]):=qh0 (by omega)
theorem qpp {p n:Nat}{v:Int × L1Cur × List Int}{s:Snap}{t:Nat}(hn:n≤80)(h:SnInv p n s)(hg:SnG p s)(hc:Cur t v.2.1)(ht:t≤10000) : ∃ s' c',qel v s=some (s',c')∧DrawnW s'∧Cur (t+1) c':=by
 have hp:=h.ok.pp
 have ham:=h.ok.am
 have hpl:=h.ok.pl
 unfold qel
 obtain ⟨w,c1,h1,hc1,_⟩:=qab hc (by omega) 30 (by omega)
 rw [h1,Option.bind_some]
 dsimp only
 by_cases e0:w=0
 ·obtain ⟨a,ha⟩:=js (l:=s.Amounts) (i:=0) (by omega)
  have hab:=h.am_le (List.mem_of_getElem? ha)
  rw [if_pos (by simpa using e0),show zt s.Amounts 0=some a from ha,Option.bind_some,kc (by omega) (by omega)]
  obtain ⟨b1,b2⟩:=qpu (by omega) h hg ha
  exact ⟨_,_,rfl,⟨p,hp,b1.am,.inr ⟨b1,b2⟩⟩,hc1⟩
 rw [if_neg (by simpa using e0)]
 by_cases e1:w=1
 ·obtain ⟨x,hx⟩:=js (l:=s.Pictures) (i:=0) (by omega)
  obtain ⟨b,hb⟩:=js (l:=x.Closed) (i:=1) (by rw [(h.ok.pi 0 x hx).2]; omega)
  rw [if_pos (by simpa using e1),show zt s.Pictures 0=some x from hx,Option.bind_some,show zt x.Closed 1=some b from hb,Option.bind_some]
  obtain ⟨b1,b2⟩:=qpm (by omega) h hg hx hb
  exact ⟨_,_,rfl,⟨p,hp,b1.am,.inr ⟨b1,b2⟩⟩,hc1⟩
 rw [if_neg (by simpa using e1)]
 by_cases e2:w=2
 ·have hlen:0<s.Chans.length:=by
   have:=(qe5 (by omega) h hg).chl.1
   have h2:(0:Int)<p*(p - 1):=Int.mul_pos (by omega) (by omega)
   omega
  obtain ⟨c,hcc⟩:=js (l:=s.Chans) (i:=0) hlen
  have h8:=(h.ok.ch 0 c hcc).2.2.2
  rw [if_pos (by simpa using e2),show zt s.Chans 0=some c from hcc,Option.bind_some,qwu (by omega),Option.bind_some]
  obtain ⟨b1,b2⟩:=q6f (by omega) h hg hcc
  exact ⟨_,_,rfl,⟨p,hp,b1.am,.inr ⟨b1,b2⟩⟩,hc1⟩
 ·rw [if_neg (by simpa using e2)]
  exact ⟨_,_,rfl,⟨p,hp,ham,.inl ⟨n,hn,h,hg⟩⟩,hc1⟩
theorem qot {c:L1Cur}{t:Nat}(hc:Cur t c)(ht:t≤100) : ∃ s c',Ev (fun k=>qd8 k c) (s,c')∧DrawnW s∧Cur (t+1100) c':=by
 obtain ⟨w1,c1,h1,hc1,g0,g1⟩:=qab hc (by omega) 3 (by omega)
 have ew:IntKind.wrap .i64 (2+w1)=2+w1:=kc (by omega) (by omega)
 obtain ⟨l,c2,h2,b1,hc2⟩:=qnj (pn:=2+w1) (by omega) hc1 (by omega)
 have hcut:∃ l',(if (decide ((80:Int)<(List.length l:Int)))=true then ((sl l 0 80).bind fun l41=>(some l41)) else (some l))=some l'∧l'.length≤80:=by
  by_cases h80:80<l.length
  ·refine ⟨l.take 80,?_,by rw [List.length_take]; omega⟩
   rw [if_pos (by simp; omega)]
   unfold sl
   rw [if_pos (by omega)]
   rfl
  ·exact ⟨l,by rw [if_neg (by simp; omega)],by omega⟩
 obtain ⟨l',hl',hl80⟩:=hcut
 obtain ⟨a,c3,h3,ham,hc3⟩:=qki hc2 (by omega) [0,5,100,250] (by decide) (by decide)
 have ha:0≤a∧a≤250:=by simp at ham; omega
 have hj:∃ s c',Ev (fun k=>qeu k (w1,c1) (l,c2) l') (s,c')∧DrawnW s∧Cur (t+1100) c':=by
  unfold qeu
  dsimp only
  rw [ew,h3]
  simp only [Option.bind_some]
  rcases qrc (2+w1) a with ⟨p,hp,hp2,_,e1,_⟩ | ⟨hno,_⟩
  ·rw [hp] at e1 ⊢
   obtain ⟨s,d,e,hs,hg⟩:=qmu hp2 ha hl80 e1
   obtain ⟨s',c',f1,f2,f3⟩:=qpp (v:=(a,c3,[0,5,100,250])) hl80 hs hg hc3 (by omega)
   exact ⟨s',c',Ev.bind e (Ev.bind (Ev.iteF rfl Ev.rfl) (Ev.of f1)),f2,f3.le (by omega)⟩
  ·exact absurd ⟨⟨by omega,by omega⟩,ha⟩ hno
 obtain ⟨s,c',hj,hs,hcc⟩:=hj
 refine ⟨s,c',?_,hs,hcc⟩
 simp only [qd8,h1,Option.bind_some,ew]
 refine Ev.bind h2 ?_
 dsimp only
 rw [hl']
 exact hj
theorem qkk {code:List Int}(hb:Bytes code) : Cur 0 (L1Cur.mk code 0 0):=⟨hb,Int.le_refl _,Int.le_refl _⟩
theorem DrawStep_ok {code:List Int}(hb:Bytes code) : ∃ s x,Ev (fun k=>u7 k code) (s,x)∧DrawnW s:=by
 obtain ⟨s,c1,h1,hs,hc1⟩:=qot (qkk hb) (by omega)
 obtain ⟨p,hp,ham,_⟩:=id hs
 obtain ⟨l,c2,h2,b1,_⟩:=qnj (pn:=(s.Amounts.length:Int)) (by omega) hc1 (by omega)
 unfold u7
 cases l with
 | nil=>exact ⟨s,⟨3,0,0⟩,Ev.bind h1 (Ev.bind h2 (Ev.iteT (by simp) Ev.rfl)),hs⟩
 | cons x l =>
  refine ⟨s,x,Ev.bind h1 (Ev.bind h2 (Ev.iteF (by simp; omega) ?_)),hs⟩
  exact Ev.bindp (show zt (x::l) 0=some x from rfl) Ev.rfl
theorem DrawFinish_ok {code:List Int}(hb:Bytes code) : ∃ s,Ev (fun k=>qar k code) s∧DrawnW s:=by
 obtain ⟨s,c1,h1,hs,hc1⟩:=qot (qkk hb) (by omega)
 exact ⟨s,Ev.bind (Ev.bind h1 Ev.rfl) Ev.rfl,hs⟩
theorem DrawNew_ok {code:List Int}(hb:Bytes code) : ∃ n a,qap code=some (n,a):=by
 obtain ⟨w1,c1,h1,hc1,_⟩:=qab (qkk hb) (by omega) 7 (by omega)
 obtain ⟨a,c3,h3,_⟩:=qki hc1 (by omega) [-1,0,10,250,251] (by decide) (by decide)
 exact ⟨w1,a,by simp only [qap,h1,h3,Option.bind_some]⟩
theorem qkf {s:Snap}(h:DrawnW s) : ∃ b,Ev (fun k=>ww k s) b∧Ev (fun k=>wc k s) b∧(b=true→∃ p n,n≤80∧SnInv p n s∧SnG p s):=by
 obtain ⟨p,hp,ham,⟨n,hn,hi,hg⟩ | ⟨hs,hb⟩⟩:=h
 ·exact ⟨true,qec (by omega) hi hg,qi0 (by omega) hi hg,fun _=>⟨p,n,hn,hi,hg⟩⟩
 ·obtain ⟨b1,e1,hb1⟩:=qtp hs
  obtain ⟨b2,e2,hb2⟩:=GoodSnap_is hs
  have f1:b1=false:=by cases b1 with | false=>rfl | true=>exact absurd (hb1.1 rfl) hb
  have f2:b2=false:=by cases b2 with | false=>rfl | true=>exact absurd (hb2.1 rfl) hb
  subst f1 f2
  exact ⟨false,e1,e2,fun h=>by cases h⟩
theorem qwh {s:Snap}{x:SnapStep}(h:DrawnW s) : ∃ (a:Snap) (ok:Bool),Ev (fun k=>qck k s x) (a,ok)∧Ev (fun k=>qcg k s x) (a,ok)∧a.nn≤1048576∧(ok=true→a.Total=s.Total):=by
 obtain ⟨b,e1,e2,hb⟩:=qkf h
 unfold qck qcg
 cases b with
 | false=>exact ⟨⟨[],[],[],0,0⟩,false,Ev.bind e1 (Ev.iteT rfl Ev.rfl),Ev.bind e2 (Ev.iteT rfl Ev.rfl),by decide,fun h=>by cases h⟩
 | true =>
  obtain ⟨p,n,hn,hi,hg⟩:=hb rfl
  have hnn:s.nn≤1048576:=Nat.le_trans hi.ok.nn_le (by omega)
  obtain ⟨c,s',f1,⟨y,f2,hy,_⟩,hf,h',hr⟩:=qgm (x:=x) hi (by omega)
  cases c with
  | false=>exact ⟨⟨[],[],[],0,0⟩,false,Ev.bind e1 (Ev.iteF rfl (Ev.bind (qim hnn) (Ev.bindp f1 (Ev.iteT rfl Ev.rfl)))),Ev.bind e2 (Ev.iteF rfl (Ev.bind (qd0 hnn) (Ev.bindp f2 (Ev.iteT rfl Ev.rfl)))),by decide,fun h=>by cases h⟩
  | true =>
   have hys:=hy rfl
   subst hys
   have hnn':y.nn≤1048576:=Nat.le_trans h'.ok.nn_le (by omega)
   exact ⟨y,true,Ev.bind e1 (Ev.iteF rfl (Ev.bind (qim hnn) (Ev.bindp f1 (Ev.iteF rfl Ev.rfl)))),Ev.bind e2 (Ev.iteF rfl (Ev.bind (qd0 hnn) (Ev.bindp f2 (Ev.iteF rfl (Ev.bind (qd0 hnn') Ev.rfl))))),hnn',fun _=>hr.total⟩
theorem FnSnaps_pure (v_0:List Int)(w0:wfL 1 qlp v_0)(v_1:List Int)(w1:wfL 1 qlp v_1) : ∃ k,qcr k v_0 v_1=some true:=by
 suffices h:Ev (fun k=>qcr k v_0 v_1) true by
  obtain ⟨K,h⟩:=h
  exact ⟨K,h K (Nat.le_refl _)⟩
 unfold qcr
 by_cases hbig:(1048576:Int)<IntKind.wrap .i64 ((List.length v_0:Int)+(List.length v_1:Int))
 ·exact Ev.iteT (by simpa using hbig) Ev.rfl
 refine Ev.iteF (by simpa using hbig) ?_
 obtain ⟨s,x,d1,hs⟩:=DrawStep_ok (code:=v_0) (fun x hx=>w0.2 x hx)
 obtain ⟨a,ok,s1,s2,han,htot⟩:=qwh (x:=x) hs
 obtain ⟨b,g1,g2,_⟩:=qkf hs
 obtain ⟨t,d2,ht⟩:=DrawFinish_ok (code:=v_1) (fun x hx=>w1.2 x hx)
 obtain ⟨n,m,d3⟩:=DrawNew_ok (code:=v_1) (fun x hx=>w1.2 x hx)
 refine Ev.bind d1 (Ev.bind s1 (Ev.bind s2 (Ev.iteF (by simp) (Ev.bind (qfb han) (Ev.iteF rfl ?_)))))
 unfold qdr
 refine Ev.bind (Ev.bind g1 Ev.rfl) (Ev.bind g2 (Ev.iteF ?_ (Ev.bind d2 ?_)))
 ·cases ok with
  | false=>simp
  | true=>have:=htot rfl; simp [this]
 have hall:∃ (f:Snap × Int × Bool) (q w:Int × Bool),(Ev (fun k=>yk k t) f∧Ev (fun k=>xd k t) f∧f.1.nn≤1048576)∧(Ev (fun k=>wh k t) q∧Ev (fun k=>xq k t) q)∧(Ev (fun k=>qa8 k t) w∧Ev (fun k=>qcd k t) w):=by
  obtain ⟨b,e1,e2,hb⟩:=qkf ht
  cases b with
  | true =>
   obtain ⟨p,n,hn,hi,hg⟩:=hb rfl
   obtain ⟨f,f1,f2,f3⟩:=qp5 (by omega) hi hg
   obtain ⟨q,q1,q2⟩:=qn2 (by omega) hi hg
   obtain ⟨w,w1,w2⟩:=qvf (by omega) hi hg
   exact ⟨f,q,w,⟨f1,f2,f3⟩,⟨q1,q2⟩,⟨w1,w2⟩⟩
  | false =>
   refine ⟨(⟨[],[],[],0,0⟩,0,false),(0,false),(0,false),⟨?_,?_,by decide⟩,⟨?_,?_⟩,⟨?_,?_⟩⟩
   ·unfold yk; exact Ev.bind e1 (Ev.iteT rfl Ev.rfl)
   ·unfold xd; exact Ev.bind e2 (Ev.iteT rfl Ev.rfl)
   ·unfold wh; exact Ev.bind e1 (Ev.iteT rfl Ev.rfl)
   ·unfold xq; exact Ev.bind e2 (Ev.iteT rfl Ev.rfl)
   ·unfold qa8; exact Ev.bind e1 (Ev.iteT rfl Ev.rfl)
   ·unfold qcd; exact Ev.bind e2 (Ev.iteT rfl Ev.rfl)
 obtain ⟨f,q,w,⟨f1,f2,f3⟩,⟨q1,q2⟩,⟨o1,o2⟩⟩:=hall
 have hnew:∃ z:Snap × Bool,Ev (fun _=>qct n m) z∧Ev (fun k=>ku k n m) z∧z.1.nn≤1048576:=by
  unfold qct
  rcases qrc n m with ⟨p,rfl,hp2,ha,e1,e2⟩ | ⟨hno,e1⟩
  ·refine ⟨_,Ev.iteF ?_ (Ev.bind e2 Ev.rfl),e1,Nat.le_trans (qmk hp2 ha).ok.nn_le (by omega)⟩
   simp only [zx,Bool.or_eq_false_iff,Bool.not_eq_false',Bool.and_eq_true,decide_eq_true_eq]; omega
  ·refine ⟨_,Ev.iteT ?_ Ev.rfl,e1,by decide⟩
   simp only [zx,Bool.or_eq_true,Bool.not_eq_true',Bool.and_eq_false_iff,decide_eq_false_iff_not]; omega
 obtain ⟨z,z1,z2,z3⟩:=hnew
 refine Ev.bind f1 (Ev.bind f2 (Ev.bind q1 (Ev.bind q2 (Ev.bind o1 (Ev.bind o2 (Ev.bindp d3 (Ev.bind z1 (Ev.bind z2 ?_))))))))
 refine Ev.bind (a:=true) (Ev.iteT (by simp) (Ev.bind (qfb f3) Ev.rfl)) ?_
 exact Ev.bind (a:=true) (Ev.iteT (by simp) (Ev.bind (qfb z3) Ev.rfl)) Ev.rfl
end Go.Proofs.Ytpkiieniipenjaa.X
