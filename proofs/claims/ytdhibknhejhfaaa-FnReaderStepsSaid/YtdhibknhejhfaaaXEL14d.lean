/- Whether a group that reads is good: the specification and the program ask the same. -/
import Derived.Test.YtdhibknhejhfaaaXEL14n
import Derived.Test.YtdhibknhejhfaaaXELAsame
set_option linter.unusedVariables false
set_option linter.unusedSimpArgs false
namespace Go.Proofs.Ytdhibknhejhfaaa.X
open Go

def qjo (E:List Int) : Prop:=∀ (i:Nat) (e:Int),E[i]? = some e→0≤e∧e≤100
theorem qm7 (n:Nat)(E:List Int)(hl:E.length≤1048576)(hn1:n≤1048576) : ∃ v:Readers_ × Bool,Ev (fun _=>ki (n:Int) E) v∧(v.2=true↔(1≤n∧n≤5)∧(1≤E.length∧E.length≤6)∧qjo E):=by
 by_cases h:(1≤n∧n≤5)∧(1≤E.length∧E.length≤6)
 ·obtain ⟨hn,he⟩:=h
  have c2:((!(zq (n:Int) 1 5))||(!(zq (List.length E:Int) 1 6)))=false:=by
   simp only [zq,Bool.or_eq_false_iff,Bool.not_eq_false',Bool.and_eq_true,decide_eq_true_eq]; omega
  have iF:=ur (B:=fun _ i1 x2 _=>kq (fun a0=>some (yf a0)) i1 x2) (Q:=fun _ (x:Int)=>¬ (0≤x∧x≤100)) (f:=fun i=>(i:Int)) (l:=E) (by omega) (fun i x hx=>by
   unfold kq yf
   simp only [Option.bind_some]
   refine qbp ?_
   simp only [zq,Bool.not_eq_true',Bool.and_eq_false_iff,decide_eq_false_iff_not]
   omega)
  rcases iF with ⟨j,y,g1,g2,g3,g4⟩ | ⟨g1,g2⟩
  ·refine ⟨(⟨0,[],[],[]⟩,false),?_,?_⟩
   ·unfold ki ko k9
    refine Ev.bind (a:=true) (Ev.iteF c2 (Ev.bind (Ev.bind (Ev.jn_ret g4) ?_) Ev.rfl)) (Ev.iteT rfl Ev.rfl)
    exact Ev.of (by simp)
   ·simp only [Bool.false_eq_true,false_iff]
    rintro ⟨_,_,h3⟩
    exact g2 (h3 j y g1)
  ·refine ⟨(um n E,true),?_,by simp only [true_iff]; exact ⟨hn,he,fun i e hh=>Classical.not_not.1 (g1 i e hh)⟩⟩
   unfold ki ko k9
   refine Ev.bind (a:=false) (Ev.iteF c2 (Ev.bind (Ev.bind (Ev.jn g2 Ev.rfl) Ev.rfl) Ev.rfl)) (Ev.iteF rfl (Ev.bindp (qcj (by omega)) (Ev.bindp (u4 (by omega)) ?_)))
   exact Ev.jn (qhg (n:=n) (E:=E) (by omega) he.2) Ev.rfl
 ·refine ⟨(⟨0,[],[],[]⟩,false),?_,?_⟩
  ·unfold ki
   refine Ev.bind (a:=true) (Ev.iteT ?_ Ev.rfl) (Ev.iteT rfl Ev.rfl)
   simp only [zq,Bool.or_eq_true,Bool.not_eq_true',Bool.and_eq_false_iff,decide_eq_false_iff_not]
   omega
  ·simp only [Bool.false_eq_true,false_iff]
   rintro ⟨h1,h2,_⟩
   exact h ⟨h1,h2⟩

theorem qh1 {α:Type}{p:Nat→α→Bool} : ∀ {l:List α} {i:Nat},(uh p l i).Pairwise (· < ·):=by
 intro l
 induction l with
 | nil=>intro i; exact List.Pairwise.nil
 | cons x r ih =>
  intro i
  simp only [uh]
  split
  ·exact List.pairwise_cons.2 ⟨fun z hz=>by have:=qlg hz; omega,ih⟩
  ·exact ih
theorem qow {a b:List Int}(pa:a.Pairwise (· < ·))(pb:b.Pairwise (· < ·)) : ((∀ x,x∈b→x∈a)∧a.length=b.length)↔a=b:=by
 constructor
 ·rintro ⟨h1,h2⟩; exact qkt pa pb h1 h2
 ·rintro rfl; exact ⟨fun x h=>h,rfl⟩
theorem qtd {l:List Int}{n:Nat}(h:qe0 l n) : l.length≤n:=by
 have key:∀ i (hi:i<l.length),(i:Int)≤l[i]:=by
  intro i
  induction i with
  | zero=>intro hi; exact (h 0 l[0] (List.getElem?_eq_getElem hi)).1
  | succ i ih =>
   intro hi
   have h1:=ih (by omega)
   have h2:=(h (i+1) l[i+1] (List.getElem?_eq_getElem hi)).2.2 l[i] (by omega) (by simp)
   omega
 by_cases h0:l.length=0
 ·omega
 ·have h1:=key (l.length - 1) (by omega)
  have h2:=(h (l.length - 1) l[l.length - 1] (List.getElem?_eq_getElem (by omega))).2.1
  omega
theorem qg3 {l:List Int}{n:Nat}(h:qe0 l n) : ∀ p∈l,0≤p∧p<n:=fun p hp=>by
 obtain ⟨i,hi⟩:=List.getElem?_of_mem hp
 have:=h i p hi
 exact ⟨this.1,this.2.1⟩

def rdP (r:Readers_)(k:Nat)(x:Reader) : Prop :=
 (0≤x.Generation∧x.Generation≤r.Generation)∧qe0 x.Share r.Ends.length∧x.Read.length=r.Ends.length∧(x.In=false→x.Generation=0∧x.Share.length=0) ∧
 (∀ (p:Nat) (a:Int),x.Read[p]? = some a→(∀ e,r.Ends[p]? = some e→0≤a∧a≤e)∧((p:Int) ∉ x.Share→a=0))∧(x.In=true→x.Generation=r.Generation→x.Share=jv r.Readers r.Ends.length k)
def grP (r:Readers_) : Prop:=((1≤r.Readers.length∧r.Readers.length≤5)∧(1≤r.Ends.length∧r.Ends.length≤6)∧r.Committed.length=r.Ends.length∧(0≤r.Generation∧r.Generation≤1000)) ∧
 (qjo r.Ends∧∀ (p:Nat) (c:Int),r.Committed[p]? = some c→∀ e,r.Ends[p]? = some e→0≤c∧c≤e)∧∀ (k:Nat) (x:Reader),r.Readers[k]? = some x→rdP r k x
theorem qra {r:Readers_}(h:grP r) : GrOk r:=by
 obtain ⟨⟨h1,h2,h3,h4⟩,⟨h5,h6⟩,h7⟩:=h
 refine ⟨h4,h1,h2,h5,h3,fun i c e hc he=>h6 i c hc e he,fun i x hx=>?_⟩
 obtain ⟨a1,a2,a3,a4,a5,a6⟩:=h7 i x hx
 exact ⟨a3,qg3 a2,Nat.le_trans (qtd a2) h2.2,fun p a e ha he=>(a5 p a ha).1 e he⟩
theorem qf2 {n a b:Int} : (!(zx n a b))=true↔¬ (a≤n∧n≤b):=by
 simp only [zx,Bool.not_eq_true',Bool.and_eq_false_iff,decide_eq_false_iff_not]; omega
theorem qi9 {n a b:Int} : (!(zq n a b))=true↔¬ (a≤n∧n≤b):=by
 simp only [zq,Bool.not_eq_true',Bool.and_eq_false_iff,decide_eq_false_iff_not]; omega
theorem qj5 {r:Readers_}{k:Nat}{x:Reader}(hx:r.Readers[k]? = some x)(hr:r.Readers.length≤5)(he:r.Ends.length≤6)(hs:x.Share.length≤1048576)(hd:x.Read.length≤1048576) : Is (fun _=>qbb r (k:Int)) (rdP r k x):=by
 have hk:k<r.Readers.length:=(List.getElem?_eq_some_iff.1 hx).1
 unfold qbb
 refine Is.bindv (Ev.of (yw hx)) ?_
 refine Is.bind (P:=¬ ((0≤x.Generation∧x.Generation≤r.Generation)∧qe0 x.Share r.Ends.length)) (Is.ite (fun hb=>Is.T (fun hh=>qf2.1 hb hh.1)) (fun hb=>Is.bind (qnu (by omega)) (fun b hb2=>Is.of ?_))) (fun b hb=>?_)
 ·have h1:0≤x.Generation∧x.Generation≤r.Generation:=Classical.byContradiction fun hn=>by rw [qf2.2 hn] at hb; cases hb
  rw [←hb2]
  cases b <;> simp [h1]
 refine Is.ite (fun hc=>Is.F ?_) (fun hc=>?_)
 ·rintro ⟨a1,a2,a3,a4,a5,a6⟩
  have hbf:b=false:=by
   cases b with
   | false=>rfl
   | true=>exact absurd ⟨a1,a2⟩ (hb.1 rfl)
  subst hbf
  cases hin:x.In with
  | true=>simp [hin] at hc; omega
  | false=>have:=a4 hin; simp [hin] at hc; omega
 ·have hbf:b=false:=by
   cases b with
   | false=>rfl
   | true=>simp at hc
  subst hbf
  obtain ⟨a1,a2⟩:=Classical.byContradiction fun hn=>Bool.false_ne_true (hb.2 hn)
  have a3:x.Read.length=r.Ends.length:=by simp at hc; omega
  have a4:x.In=false→x.Generation=0∧x.Share.length=0:=fun hin=>by
   simp [hin] at hc
   exact ⟨by omega,by simpa using hc.2.2⟩
  refine Is.all (Q:=fun p a=>(∀ e,r.Ends[p]? = some e→0≤a∧a≤e)∧((p:Int) ∉ x.Share→a=0)) (by omega) (fun p a hp=>?_) (fun hq=>?_) (fun hq hh=>hq hh.2.2.2.2.1)
  ·obtain ⟨e,hE⟩:=y6 (l:=r.Ends) (i:=p) (by have:=(List.getElem?_eq_some_iff.1 hp).1; omega)
   unfold qa9
   rw [yw hE]
   simp only [Option.bind_some]
   refine qk9 (Is.ite (fun hb=>Is.T (fun hh=>qf2.1 hb (hh.1 e hE))) (fun hb=>Is.bind (qg6 (by omega)) (fun b hb2=>Is.of ?_)))
   have h1:0≤a∧a≤e:=Classical.byContradiction fun hn=>by rw [qf2.2 hn] at hb; cases hb
   have h2:(∀ e',r.Ends[p]? = some e'→0≤a∧a≤e'):=fun e' he'=>by rw [hE] at he'; cases he'; exact h1
   rw [←hb2]
   cases b with
   | true=>simp; exact fun e' he'=>h2 e' he'
   | false =>
    simp only [Bool.not_false,Bool.true_and,decide_eq_true_eq,Bool.false_eq_true,not_false_eq_true,true_implies,not_and]
    exact ⟨fun h3 _=>h3,fun h3=>h3 h2⟩
  ·unfold qc1
   refine Is.ite (fun hb=>Is.T ⟨a1,a2,a3,a4,hq,fun hin hg=>?_⟩) (fun hb=>?_)
   ·simp [hin,hg] at hb
   ·simp at hb
    refine Is.bindv (qg9 (by omega) (by omega) hk) ((Is.bind (qn4 hs (by have:=qe8 (l:=r.Readers) (n:=r.Ends.length) (k:=k); omega)) (fun b hb2=>Is.of hb2)).iff ?_)
    rw [qow (qhp a2) (b:=jv r.Readers r.Ends.length k) qh1]
    exact ⟨fun h=>⟨a1,a2,a3,a4,hq,fun _ _=>h⟩,fun h=>h.2.2.2.2.2 hb.1 hb.2⟩
theorem y9 {r:Readers_}(h:r.nn≤1048576) : Is (fun _=>yb r) (grP r):=by
 obtain ⟨n1,n2,n3,n4⟩:=qdq h
 unfold yb
 refine Is.ite (fun hc=>Is.F ?_) (fun hc=>?_)
 ·rintro ⟨⟨h1,h2,h3,h4⟩,_⟩
  simp [zx] at hc
  omega
 ·have hA:(1≤r.Readers.length∧r.Readers.length≤5)∧(1≤r.Ends.length∧r.Ends.length≤6)∧r.Committed.length=r.Ends.length∧(0≤r.Generation∧r.Generation≤1000):=by
   simp [zx] at hc
   omega
  obtain ⟨h1,h2,h3,h4⟩:=hA
  refine Is.all (Q:=fun p (e:Int)=>(0≤e∧e≤100)∧∀ c,r.Committed[p]? = some c→0≤c∧c≤e) (by omega) (fun p e hp=>?_) (fun hq=>?_) (fun hq hh=>hq (fun p e hp=>⟨hh.2.1.1 p e hp,fun c hc=>hh.2.1.2 p c hc e hp⟩))
  ·obtain ⟨c,hC⟩:=y6 (l:=r.Committed) (i:=p) (by have:=(List.getElem?_eq_some_iff.1 hp).1; omega)
   unfold qag
   rw [yw hC]
   refine qk9 (Is.ite (fun hb=>Is.T (fun hh=>qf2.1 hb hh.1)) (fun hb=>?_))
   have h1:0≤e∧e≤100:=Classical.byContradiction fun hn=>by rw [qf2.2 hn] at hb; cases hb
   simp only [Option.bind_some]
   refine Is.of (qf2.trans (not_congr ⟨fun h5=>⟨h1,fun c' hc'=>by rw [hC] at hc'; cases hc'; exact h5⟩,fun h5=>h5.2 c hC⟩))
  ·unfold qbz
   refine Is.allI (Q:=fun k=>∀ x,r.Readers[k]? = some x→rdP r k x) (by omega) (fun k hk=>?_) (fun hq2=>Is.T ⟨⟨h1,h2,h3,h4⟩,⟨fun p e hp=>(hq p e hp).1,fun p c hc e he=>(hq p e he).2 c hc⟩,fun k x hx=>hq2 k (List.getElem?_eq_some_iff.1 hx).1 x hx⟩) (fun hq2 hh=>hq2 (fun k _ x hx=>hh.2.2 k x hx))
   obtain ⟨x,hx⟩:=y6 hk
   unfold qae
   obtain ⟨b,e,hb⟩:=qpg (qj5 hx h1.2 h2.2 (n4 k x hx).1 (n4 k x hx).2)
   exact ⟨b,e,hb.trans (not_congr ⟨fun hh x' hx'=>by rw [hx] at hx'; cases hx'; exact hh,fun hh=>hh x hx⟩)⟩
theorem qj4 {r:Readers_}{k:Nat}{x:Reader}(hx:r.Readers[k]? = some x)(hr:r.Readers.length≤5)(he:r.Ends.length≤6)(hs:x.Share.length≤1048576)(hd:x.Read.length≤1048576) : ∃ b:Bool,Ev (fun _=>xp r k x) (if b=true then .ret false else .nxt ())∧(b=true↔¬ rdP r k x):=by
 have hk:k<r.Readers.length:=(List.getElem?_eq_some_iff.1 hx).1
 unfold xp
 obtain ⟨b,e1,hb⟩ : Is (fun _:Nat=>(if (decide ((List.length x.Read:Int)≠(List.length r.Ends:Int)))=true then (some true) else ((ue x.Share (List.length r.Ends:Int)).bind fun v126=>(some (!v126))))) (¬ (x.Read.length=r.Ends.length∧qe0 x.Share r.Ends.length)):=by
  refine Is.ite (fun hb=>Is.T (fun hh=>?_)) (fun hb=>Is.bind (qkz (by omega) (by omega) (by omega)) (fun b hb2=>Is.of ?_))
  ·simp at hb; omega
  ·have h1:x.Read.length=r.Ends.length:=by simp at hb; omega
   rw [←hb2]
   cases b <;> simp [h1]
 by_cases hc:((b||(!(zq x.Generation 0 r.Generation)))||((!x.In)&&((decide (x.Generation≠0))||(decide ((0:Int)<(List.length x.Share:Int))))))=true
 ·refine ⟨true,Ev.bind e1 (Ev.iteT hc Ev.rfl),?_⟩
  simp only [true_iff]
  rintro ⟨a1,a2,a3,a4,a5,a6⟩
  have hbf:b=false:=by
   cases b with
   | false=>rfl
   | true=>exact absurd ⟨a3,a2⟩ (hb.1 rfl)
  subst hbf
  cases hin:x.In with
  | true=>simp [hin,zq] at hc; omega
  | false=>have:=a4 hin; simp [hin,zq] at hc; omega
 ·have hcf:=Bool.not_eq_true _▸hc
  have hbf:b=false:=by
   cases b with
   | false=>rfl
   | true=>simp at hc
  subst hbf
  obtain ⟨a3,a2⟩:=Classical.byContradiction fun hn=>Bool.false_ne_true (hb.2 hn)
  have a1:0≤x.Generation∧x.Generation≤r.Generation:=by
   simp [zq] at hc; omega
  have a4:x.In=false→x.Generation=0∧x.Share.length=0:=fun hin=>by
   simp [hin] at hc
   exact ⟨by omega,by simpa using hc.2.2⟩
  rcases ur (B:=fun _ i208 x209 _=>xk r x i208 x209) (Q:=fun p a=>¬ ((∀ e,r.Ends[p]? = some e→0≤a∧a≤e)∧((p:Int) ∉ x.Share→a=0))) (f:=fun _=>(Oc.ret false:Oc Unit Bool)) (l:=x.Read) (by omega) (fun p a hp=>by
   obtain ⟨e,hE⟩:=y6 (l:=r.Ends) (i:=p) (by have:=(List.getElem?_eq_some_iff.1 hp).1; omega)
   unfold xk
   rw [yw hE]
   simp only [Option.bind_some]
   obtain ⟨c,ec,hcc⟩ : Is (fun _:Nat=>(if (!(zq a 0 e))=true then (some true) else ((if (decide (a≠0))=true then ((kn x.Share (p:Int)).bind fun v245=>(some (!v245))) else (some false)).bind fun v245=>(some v245)))) (¬ ((∀ e,r.Ends[p]? = some e→0≤a∧a≤e)∧((p:Int) ∉ x.Share→a=0))):=by
    refine Is.ite (fun hb=>Is.T (fun hh=>qi9.1 hb (hh.1 e hE))) (fun hb=>?_)
    have h1:0≤a∧a≤e:=Classical.byContradiction fun hn=>by rw [qi9.2 hn] at hb; cases hb
    have h2:(∀ e',r.Ends[p]? = some e'→0≤a∧a≤e'):=fun e' he'=>by rw [hE] at he'; cases he'; exact h1
    by_cases h3:a=0
    ·rw [if_neg (by simpa using h3)]
     exact Is.F (fun hh=>hh ⟨h2,fun _=>h3⟩)
    ·simp only [if_pos (show decide (a≠0)=true by simpa using h3)]
     refine Is.bind (P:=(p:Int) ∉ x.Share) (Is.bind (Contains_int_is (by omega)) (fun b hb2=>Is.of ?_)) (fun b hb2=>Is.of ?_)
     ·rw [←hb2]; cases b <;> simp
     ·rw [hb2]
      exact ⟨fun h4 hh=>h3 (hh.2 h4),fun h4 h5=>h4 ⟨h2,fun h6=>absurd h5 h6⟩⟩
   refine ⟨c,Ev.bind ec ?_,hcc⟩
   cases c <;> exact Ev.rfl) with ⟨p,a,g1,g2,g3,g4⟩ | ⟨g1,g2⟩
  ·refine ⟨true,Ev.bind e1 (Ev.iteF hcf (Ev.jn_ret g4)),?_⟩
   simp only [true_iff]
   rintro ⟨_,_,_,_,a5,_⟩
   exact g2 (a5 p a g1)
  ·have a5:∀ (p:Nat) (a:Int),x.Read[p]? = some a→(∀ e,r.Ends[p]? = some e→0≤a∧a≤e)∧((p:Int) ∉ x.Share→a=0):=fun p a hp=>Classical.not_not.1 (g1 p a hp)
   by_cases hin:x.In=true∧x.Generation=r.Generation
   ·have hm:=qfd hx hin.1
    obtain ⟨c,ec,hcc⟩:=Equal_int_is (a:=x.Share) (b:=jv r.Readers r.Ends.length k) (by omega)
    refine ⟨!c,Ev.bind e1 (Ev.iteF hcf (Ev.jn g2 ?_)),?_⟩
    ·unfold qa0
     refine Ev.iteT (by simp [hin]) (Ev.bind (qgy (by omega) (by omega) hk hm) (Ev.bind ec ?_))
     cases c <;> exact Ev.rfl
    ·have:rdP r k x↔x.Share=jv r.Readers r.Ends.length k:=⟨fun hh=>hh.2.2.2.2.2 hin.1 hin.2,fun hh=>⟨a1,a2,a3,a4,a5,fun _ _=>hh⟩⟩
     rw [this,← hcc]
     cases c <;> simp
   ·refine ⟨false,Ev.bind e1 (Ev.iteF hcf (Ev.jn g2 ?_)),?_⟩
    ·unfold qa0
     refine Ev.iteF ?_ Ev.rfl
     simp only [Bool.and_eq_false_iff,decide_eq_false_iff_not]
     by_cases h1:x.In=true
     ·exact .inr (fun h2=>hin ⟨h1,h2⟩)
     ·exact .inl (by simpa using h1)
    ·simp only [Bool.false_eq_true,false_iff,Classical.not_not]
     exact ⟨a1,a2,a3,a4,a5,fun h1 h2=>absurd ⟨h1,h2⟩ hin⟩
theorem y8 {r:Readers_}(h:r.nn≤1048576) : Is (fun _=>yi r) (grP r):=by
 obtain ⟨n1,n2,n3,n4⟩:=qdq h
 unfold yi
 obtain ⟨v,e,hv⟩:=qm7 r.Readers.length r.Ends n3 n1
 refine Is.bindv e (Is.ite (fun hc=>Is.F ?_) (fun hc=>?_))
 ·rintro ⟨⟨h1,h2,h3,h4⟩,⟨h5,h6⟩,_⟩
  rw [hv.2 ⟨h1,h2,h5⟩] at hc
  simp [zq] at hc
  omega
 ·have hA:v.2=true∧r.Committed.length=r.Ends.length∧(0≤r.Generation∧r.Generation≤1000):=by
   cases hv2:v.2 with
   | false=>rw [hv2] at hc; simp at hc
   | true=>rw [hv2] at hc; simp [zq] at hc; exact ⟨rfl,by omega,by omega⟩
  obtain ⟨hv2,h3,h4⟩:=hA
  obtain ⟨h1,h2,h5⟩:=hv.1 hv2
  refine Is.all (Q:=fun p (c:Int)=>∀ e,r.Ends[p]? = some e→0≤c∧c≤e) (by omega) (fun p c hp=>?_) (fun hq=>?_) (fun hq hh=>hq hh.2.1.2)
  ·obtain ⟨e,hE⟩:=y6 (l:=r.Ends) (i:=p) (by have:=(List.getElem?_eq_some_iff.1 hp).1; omega)
   unfold qar
   rw [yw hE]
   simp only [Option.bind_some]
   exact qbp (qi9.trans (not_congr ⟨fun hh e' he'=>by rw [hE] at he'; cases he'; exact hh,fun hh=>hh e hE⟩))
  ·unfold qcd
   refine Is.all (Q:=fun k x=>rdP r k x) (by omega) (fun k x hx=>qj4 hx h1.2 h2.2 (n4 k x hx).1 (n4 k x hx).2) (fun hq2=>Is.T ⟨⟨h1,h2,h3,h4⟩,⟨h5,hq⟩,hq2⟩) (fun hq2 hh=>hq2 hh.2.2)
theorem qlr {r:Readers_}(h:r.nn≤1048576) : Ev (fun _=>qac r) r:=by
 obtain ⟨h1,h2,h3,h4⟩:=qdq h
 unfold qac
 refine Ev.bindp (u4 (by omega)) (Ev.bindp (u4 (by omega)) (Ev.jn (qll h (fun i x s hx hs=>?_)) Ev.rfl))
 obtain ⟨a1,a2⟩:=h4 i x hx
 unfold qai
 rw [u4 (by omega),Option.bind_some,u4 (by omega),Option.bind_some]
 unfold k7
 rw [if_pos (by simp; omega)]
 rfl
end Go.Proofs.Ytdhibknhejhfaaa.X
