/- What a step keeps: marks, shapes, and all there is in the picture. -/
import Derived.Test.YtpkiieniipenjaaXCL8n
set_option linter.unusedVariables false
set_option linter.unusedSimpArgs false
namespace Go.Proofs.Ytpkiieniipenjaa.X
open Go

/-! marks on a way -/
def kg:List Int→Nat
 | []=>0
 | z::w=>(if z=0 then 1 else 0)+kg w
def pre:List Int→Int
 | []=>0
 | z::w=>if z=0 then 0 else z+pre w
theorem qi7 {w:List Int}{z:Int} : kg (w++[z])=kg w+(if z=0 then 1 else 0):=by
 induction w with
 | nil=>simp [kg]
 | cons a w ih=>simp only [List.cons_append,kg,ih]; omega
theorem qw2 {w:List Int} : pre (w++[0])=pre w:=by
 induction w with
 | nil=>rfl
 | cons a w ih=>simp only [List.cons_append,pre,ih]
theorem q5t {w:List Int}{z:Int}(hz:z≠0) : pre (w++[z])=if kg w=0 then pre w+z else pre w:=by
 induction w with
 | nil=>simp [pre,kg,hz]
 | cons a w ih =>
  simp only [List.cons_append,pre,kg,ih]
  by_cases ha:a=0
  ·simp [ha]
  ·simp only [if_neg ha,Nat.zero_add]
   split <;> omega
theorem zbj {w:List Int}(h:∀ z∈w,0≤z) : 0≤pre w:=by
 induction w with
 | nil=>exact Int.le_refl _
 | cons a w ih =>
  have h1:=h a (by simp)
  have h2:=ih (fun z hz=>h z (by simp [hz]))
  simp only [pre]
  split <;> omega

/-! who has closed what -/
def cl (P:List Picture)(f t:Nat) : Bool:=match P[t]? with | some x=>(x.Closed[f]?).getD false | none=>false
def tk (P:List Picture)(f:Nat) : Bool:=match P[f]? with | some x=>x.Taken | none=>false
theorem qgd {P:List Picture}{f t:Nat}{x:Picture}{b:Bool}(hx:P[t]? = some x)(hb:x.Closed[f]? = some b) : cl P f t=b:=by simp [cl,hx,hb]
theorem qdq {P:List Picture}{f:Nat}{x:Picture}(hx:P[f]? = some x) : tk P f=x.Taken:=by simp [tk,hx]
theorem qpe {P:List Picture}{f t t':Nat}{y:Picture}(h:t≠t') : cl (P.set t y) f t'=cl P f t':=by simp only [cl,List.getElem?_set_ne h]
theorem qpx {P:List Picture}{f t:Nat}{y:Picture}(h:t≠f) : tk (P.set t y) f=tk P f:=by simp only [tk,List.getElem?_set_ne h]
theorem qpr {P:List Picture}{f t:Nat}{y:Picture}(h:t<P.length) : cl (P.set t y) f t=(y.Closed[f]?).getD false:=by simp only [cl,List.getElem?_set_self h]
theorem qme {P:List Picture}{t:Nat}{y:Picture}(h:t<P.length) : tk (P.set t y) t=y.Taken:=by simp only [tk,List.getElem?_set_self h]
theorem qlz {P:List Picture}{f t t':Nat}{x y:Picture}(hx:P[t]? = some x)(hy:y.Closed[f]? = x.Closed[f]?) : cl (P.set t y) f t'=cl P f t':=by
 by_cases h:t=t'
 ·subst h
  rw [qpr (List.getElem?_eq_some_iff.1 hx).1,hy]
  simp only [cl,hx]
 ·exact qpe h
theorem qlv {P:List Picture}{f t:Nat}{x y:Picture}(hx:P[t]? = some x)(hy:y.Taken=x.Taken) : tk (P.set t y) f=tk P f:=by
 by_cases h:t=f
 ·subst h
  rw [qme (List.getElem?_eq_some_iff.1 hx).1,hy,qdq hx]
 ·exact qpx h

/-! sums -/
def qdm (P:List Picture)(c:Chan) : Int:=if cl P c.From.toNat c.To.toNat=true then 0 else pre c.Way
def wA (a:Int)(x:Picture) : Int:=if x.Taken=true then x.Amount else a
def aS:List Int→List Picture→Int
 | a::A,x::P=>wA a x+aS A P
 | _,_=>0
def iS (P:List Picture) : Int:=(P.map fun x=>x.In.sum).sum
def chS (P:List Picture)(C:List Chan) : Int:=(C.map (qdm P)).sum
def qkc (s:Snap) : Int:=aS s.Amounts s.Pictures+chS s.Pictures s.Chans+iS s.Pictures
theorem qnx:∀ {A:List Int} {P:List Picture} {i:Nat} {a a':Int} {x x':Picture},A[i]? = some a→P[i]? = some x→aS (A.set i a') (P.set i x')=aS A P - wA a x+wA a' x':=by
 intro A
 induction A with
 | nil=>intro P i a a' x x' h; simp at h
 | cons b A ih =>
  intro P i a a' x x' h1 h2
  cases P with
  | nil=>simp at h2
  | cons y P =>
   cases i with
   | zero=>simp at h1 h2; subst h1 h2; simp only [List.set_cons_zero,aS]; omega
   | succ i =>
    simp only [List.set_cons_succ,aS]
    rw [ih (by simpa using h1) (by simpa using h2)]
    omega
theorem qox {A:List Int}{P:List Picture}{i:Nat}{a a':Int}{x:Picture}(h1:A[i]? = some a)(h2:P[i]? = some x) : aS (A.set i a') P=aS A P - wA a x+wA a' x:=by
 have:=qnx (a':=a') (x':=x) h1 h2
 rwa [qfd h2] at this
theorem qo8 {A:List Int}{P:List Picture}{i:Nat}{a:Int}{x x':Picture}(h1:A[i]? = some a)(h2:P[i]? = some x) : aS A (P.set i x')=aS A P - wA a x+wA a x':=by
 have:=qnx (a':=a) (x':=x') h1 h2
 rwa [qfd h1] at this
theorem qmx {P:List Picture}{i:Nat}{x x':Picture}(h:P[i]? = some x) : iS (P.set i x')=iS P - x.In.sum+x'.In.sum:=by
 unfold iS
 rw [List.map_set]
 exact qgk (by simp [h])
theorem q55 {F G:Chan→Int} : ∀ {C:List Chan} {k:Nat} {c c':Chan},C[k]? = some c→(∀ (i:Nat) (d:Chan),i≠k→C[i]? = some d→G d=F d)→((C.set k c').map G).sum=(C.map F).sum - F c+G c':=by
 intro C
 induction C with
 | nil=>intro k c c' h; simp at h
 | cons a r ih =>
  intro k c c' h hG
  cases k with
  | zero =>
   simp at h
   subst h
   have:r.map G=r.map F:=List.map_congr_left (fun d hd=>by
    obtain ⟨j,hj⟩:=List.getElem?_of_mem hd
    exact hG (j+1) d (by omega) (by simpa using hj))
   simp only [List.set_cons_zero,List.map_cons,List.sum_cons,this]
   omega
  | succ k =>
   have h0:=hG 0 a (by omega) rfl
   simp only [List.set_cons_succ,List.map_cons,List.sum_cons]
   rw [ih (by simpa using h) (fun i d hi hd=>hG (i+1) d (by omega) (by simpa using hd)),h0]
   omega
theorem qjj {P P':List Picture}{C:List Chan}{k:Nat}{c c':Chan}(h:C[k]? = some c)(hG:∀ (i:Nat) (d:Chan),i≠k→C[i]? = some d→qdm P' d=qdm P d) : chS P' (C.set k c')=chS P C - qdm P c+qdm P' c':=q55 h hG

structure PicOk (k:Nat) (x:Picture) : Prop where
 no:x.Taken=false→x.Amount=0∧(∀ z∈x.In,z=0)∧∀ b∈x.Closed,b=false
 yes:x.Taken=true→(0≤x.Amount∧x.Amount≤1000)∧x.In[k]? = some 0∧x.Closed[k]? = some true
 nn:∀ z∈x.In,0≤z
def prs (C:List Chan) : List (Int × Int):=C.map fun c=>(c.From,c.To)
def qc1 (P:List Picture)(c:Chan) : Prop:=(kg c.Way=if tk P c.From.toNat=true∧cl P c.From.toNat c.To.toNat=false then 1 else 0)∧(cl P c.From.toNat c.To.toNat=true→tk P c.From.toNat=true)
structure SnG (p:Nat) (s:Snap) : Prop where
 ft:prs s.Chans=prs (ya p)
 pic:∀ (k:Nat) (x:Picture),s.Pictures[k]? = some x→PicOk k x
 mks:∀ (i:Nat) (c:Chan),s.Chans[i]? = some c→qc1 s.Pictures c
 vs:qkc s=s.Total
theorem qn7 {p:Nat}(hp:2≤p∧p≤4) : (prs (ya p)).Nodup:=by
 have:p=2∨p=3∨p=4:=by omega
 rcases this with rfl | rfl | rfl <;> decide
theorem SnG.uniq {p:Nat}{s:Snap}(hp:2≤p∧p≤4)(h:SnG p s){i j:Nat}{c d:Chan}(hc:s.Chans[i]? = some c)(hd:s.Chans[j]? = some d)(h1:c.From=d.From)(h2:c.To=d.To) : i=j:=by
 have hn:(prs s.Chans).Nodup:=by rw [h.ft]; exact qn7 hp
 have e1:(prs s.Chans)[i]? = some (c.From,c.To):=by simp [prs,hc]
 have e2:(prs s.Chans)[j]? = some (c.From,c.To):=by simp [prs,hd,h1,h2]
 obtain ⟨l1,g1⟩:=List.getElem?_eq_some_iff.1 e1
 obtain ⟨l2,g2⟩:=List.getElem?_eq_some_iff.1 e2
 rcases Nat.lt_trichotomy i j with hij | hij | hij
 ·exact absurd (g1.trans g2.symm) (List.pairwise_iff_getElem.1 hn i j l1 l2 hij)
 ·exact hij
 ·exact absurd (g2.trans g1.symm) (List.pairwise_iff_getElem.1 hn j i l2 l1 hij)
theorem qhy {C:List Chan}{k:Nat}{c:Chan}{w:List Int}(h:C[k]? = some c) : prs (C.set k ⟨c.From,c.To,w⟩)=prs C:=by
 unfold prs
 rw [List.map_set]
 exact qfd (by simp [h])
theorem qxj {C:List Chan}{k:Int} : prs (C.map (kv k))=prs C:=by
 unfold prs
 rw [List.map_map]
 apply List.map_congr_left
 intro c _
 simp only [Function.comp,kv]
 split <;> rfl
theorem SnOk.ends {p:Nat}{s:Snap}(h:SnOk p s){i:Nat}{c:Chan}(hc:s.Chans[i]? = some c) : ∃ f t:Nat,c.From=(f:Int)∧c.To=(t:Int)∧f<p∧t<p∧f≠t∧c.From.toNat=f∧c.To.toNat=t:=by
 obtain ⟨h1,h2,h3,_⟩:=h.ch i c hc
 exact ⟨c.From.toNat,c.To.toNat,by omega,by omega,by omega,by omega,by omega,rfl,rfl⟩
theorem qle {p:Nat}{P:List Picture}{t:Nat}{y':Picture}(h:∀ (k:Nat) (x:Picture),P[k]? = some x→PicOk k x)(hy:PicOk t y') : ∀ (k:Nat) (x:Picture),(P.set t y')[k]? = some x→PicOk k x:=by
 intro k x hx
 rcases ym hx with ⟨rfl,rfl⟩ | ⟨_,hx⟩
 ·exact hy
 ·exact h k x hx
theorem G_took {p n:Nat}{s:Snap}{k:Nat}{y:Picture}{a:Int}(hi:SnInv p n s)(hg:SnG p s)(hy:s.Pictures[k]? = some y)(hT:y.Taken=false)(ha:s.Amounts[k]? = some a) : SnG p (qas s k y a):=by
 have hkp:k<p:=by have:=(List.getElem?_eq_some_iff.1 hy).1; rw [hi.ok.pl] at this; exact this
 have hkl:k<s.Pictures.length:=by rw [hi.ok.pl]; exact hkp
 obtain ⟨q1,q2,q3⟩:=(hg.pic k y hy).no hT
 obtain ⟨z1,z2⟩:=hi.ok.pi k y hy
 have hab:=hi.am_le (List.mem_of_getElem? ha)
 have hcl:∀ f t:Nat,f≠t→cl (s.Pictures.set k ⟨true,a,y.In,y.Closed.set k true⟩) f t=cl s.Pictures f t:=by
  intro f t hft
  by_cases e:k=f
  ·subst e
   exact qpe hft
  ·exact qlz hy (by simp only [List.getElem?_set_ne e])
 refine ⟨by simp only [qas]; rw [qxj]; exact hg.ft,qle (p:=p) hg.pic ⟨(fun h=>by cases h),fun _=>⟨hab,?_,?_⟩,(hg.pic k y hy).nn⟩,fun i c hc=>?_,?_⟩
 ·obtain ⟨v,hv⟩:=js (l:=y.In) (i:=k) (by omega)
  rw [hv,q2 v (List.mem_of_getElem? hv)]
 ·exact List.getElem?_set_self (by omega)
 ·simp only [qas,List.getElem?_map,Option.map_eq_some_iff] at hc
  obtain ⟨d,hd,rfl⟩:=hc
  obtain ⟨f,t,e1,e2,h1,h2,h3,e3,e4⟩:=hi.ok.ends hd
  obtain ⟨m1,m2⟩:=hg.mks i d hd
  have hfr:(kv (k:Int) d).From=d.From:=by unfold kv; split <;> rfl
  have hto:(kv (k:Int) d).To=d.To:=by unfold kv; split <;> rfl
  unfold qc1
  simp only [qas,hfr,hto,e3,e4,hcl f t h3] at m1 m2 ⊢
  by_cases e:f=k
  ·subst e
   have ht:tk s.Pictures f=false:=by rw [qdq hy]; exact hT
   have hc0:cl s.Pictures f t=false:=by
    cases hh:cl s.Pictures f t with
    | false=>rfl
    | true=>rw [m2 hh] at ht; cases ht
   rw [ht] at m1
   simp only [Bool.false_eq_true,false_and,if_false] at m1
   rw [qme hkl,hc0]
   refine ⟨?_,fun h=>rfl⟩
   unfold kv
   rw [if_pos e1]
   simp only [qi7,m1]
   simp
  ·rw [qpx (Ne.symm e)]
   refine ⟨?_,m2⟩
   unfold kv
   rw [if_neg (by omega)]
   exact m1
 ·have hv:=hg.vs
  unfold qkc at hv ⊢
  simp only [qas]
  rw [qo8 ha hy,qmx hy]
  have hcs:chS (s.Pictures.set k ⟨true,a,y.In,y.Closed.set k true⟩) (s.Chans.map (kv (k:Int)))=chS s.Pictures s.Chans:=by
   unfold chS
   rw [List.map_map]
   congr 1
   apply List.map_congr_left
   intro c hc
   obtain ⟨i,hi'⟩:=List.getElem?_of_mem hc
   obtain ⟨f,t,e1,e2,h1,h2,h3,e3,e4⟩:=hi.ok.ends hi'
   have hfr:(kv (k:Int) c).From=c.From:=by unfold kv; split <;> rfl
   have hto:(kv (k:Int) c).To=c.To:=by unfold kv; split <;> rfl
   have hpw:pre (kv (k:Int) c).Way=pre c.Way:=by
    unfold kv
    split
    ·exact qw2
    ·rfl
   simp only [Function.comp,qdm,hfr,hto,e3,e4,hcl f t h3,hpw]
  rw [hcs]
  simp only [wA,hT,Bool.false_eq_true,if_false,if_true]
  omega
theorem G_mark {p n:Nat}{s:Snap}{k f t:Nat}{c:Chan}{w:List Int}{y:Picture}(hi:SnInv p n s)(hg:SnG p s)(hc:s.Chans[k]? = some c)(hw:c.Way=0::w)(hf:c.From=(f:Int))(ht:c.To=(t:Int))(hy:s.Pictures[t]? = some y)(hT:y.Taken=true) :
  SnG p ⟨s.Amounts,s.Chans.set k ⟨c.From,c.To,w⟩,s.Pictures.set t ⟨y.Taken,y.Amount,y.In,y.Closed.set f true⟩,s.Sent,s.Total⟩:=by
 have htl:=(List.getElem?_eq_some_iff.1 hy).1
 have htp:t<p:=by rw [hi.ok.pl] at htl; exact htl
 obtain ⟨g1,g2,g3,_⟩:=hi.ok.ch k c hc
 have hft:f≠t:=by omega
 obtain ⟨z1,z2⟩:=hi.ok.pi t y hy
 obtain ⟨y1,y2,y3⟩:=(hg.pic t y hy).yes hT
 obtain ⟨a,ha⟩:=js (l:=s.Amounts) (i:=t) (by rw [hi.ok.am]; exact htp)
 obtain ⟨m1,m2⟩:=hg.mks k c hc
 rw [hf,ht,Int.toNat_natCast,Int.toNat_natCast] at m1 m2
 rw [hw] at m1
 have hm:tk s.Pictures f=true∧cl s.Pictures f t=false:=by
  by_cases h:tk s.Pictures f=true∧cl s.Pictures f t=false
  ·exact h
  ·rw [if_neg h] at m1
   simp [kg] at m1
 rw [if_pos hm] at m1
 have hzw:kg w=0:=by simp only [kg,if_true] at m1; omega
 have htk:∀ g,tk (s.Pictures.set t ⟨y.Taken,y.Amount,y.In,y.Closed.set f true⟩) g=tk s.Pictures g:=fun g=>qlv hy rfl
 have hclt:cl (s.Pictures.set t ⟨y.Taken,y.Amount,y.In,y.Closed.set f true⟩) f t=true:=by
  rw [qpr htl,List.getElem?_set_self (by omega)]; rfl
 have hcl:∀ (i:Nat) (d:Chan),i≠k→s.Chans[i]? = some d→cl (s.Pictures.set t ⟨y.Taken,y.Amount,y.In,y.Closed.set f true⟩) d.From.toNat d.To.toNat=cl s.Pictures d.From.toNat d.To.toNat:=by
  intro i d hik hd
  obtain ⟨f',t',e1,e2,_,_,_,e3,e4⟩:=hi.ok.ends hd
  rw [e3,e4]
  by_cases e:f=f'
  ·by_cases e':t=t'
   ·exact absurd (hg.uniq hi.ok.pp hd hc (by rw [e1,hf,e]) (by rw [e2,ht,e'])) hik
   ·exact qpe e'
  ·exact qlz hy (by simp only [List.getElem?_set_ne e])
 refine ⟨by rw [qhy hc]; exact hg.ft,qle (p:=p) hg.pic ⟨(fun h=>by rw [hT] at h; cases h),fun _=>⟨y1,y2,?_⟩,(hg.pic t y hy).nn⟩,fun i d hd=>?_,?_⟩
 ·show (y.Closed.set f true)[t]? = some true
  rw [List.getElem?_set_ne hft]
  exact y3
 ·rcases ym hd with ⟨_,rfl⟩ | ⟨hki,hd⟩
  ·unfold qc1
   simp only [hf,ht,Int.toNat_natCast,hclt,htk]
   exact ⟨by rw [hzw]; simp,fun _=>hm.1⟩
  ·unfold qc1
   rw [htk,hcl i d (Ne.symm hki) hd]
   exact hg.mks i d hd
 ·have hv:=hg.vs
  unfold qkc at hv ⊢
  dsimp only
  rw [qo8 ha hy,qmx hy,qjj (P:=s.Pictures) hc (fun i d hik hd=>by simp only [qdm,hcl i d hik hd])]
  simp only [qdm,hf,ht,Int.toNat_natCast,hclt,hm.2,hw]
  simp only [wA,hT,pre,if_true,Bool.false_eq_true,if_false]
  omega
theorem SRel.keepG {p n:Nat}{s s':Snap}{x:SnapStep}{b:Bool}(hr:SRel s x b s')(hi:SnInv p n s)(hg:SnG p s) : SnG p s':=by
 cases hr with
 | no=>exact hg
 | took hK k y a hrm hy hT ha=>exact G_took hi hg hy hT ha
 | mark hK k f t c w y hc hw hf ht hy hT=>exact G_mark hi hg hc hw hf ht hy hT
 | tmark hK k f t c w y a hc hw hf ht hrm hy hT ha =>
  obtain ⟨g1,g2,g3,_⟩:=hi.ok.ch k c hc
  have htl:=(List.getElem?_eq_some_iff.1 hy).1
  have hmk:kv (t:Int) c=c:=by unfold kv; rw [if_neg (by omega)]
  have hmk2:kv (t:Int) ⟨c.From,c.To,w⟩=⟨c.From,c.To,w⟩:=by unfold kv; rw [if_neg (by dsimp only; omega)]
  have h1:=G_took hi hg hy hT ha
  have i1:=hi.take (a:=a) hrm hy
  have h2:=G_mark (k:=k) (f:=f) (t:=t) (c:=c) (w:=w) (y:=⟨true,a,y.In,y.Closed.set t true⟩) i1 h1 (by simp only [qas,List.getElem?_map,hc,Option.map_some,hmk]) hw hf ht (by simp only [qas,List.getElem?_set_self htl]) rfl
  simp only [qas] at h2
  rw [List.map_set,hmk2]
  exact h2
 | send hK k f c a z hc hf ha hz =>
  obtain ⟨f',t,e1,e2,l1,l2,l3,e3,e4⟩:=hi.ok.ends hc
  have:f'=f:=by omega
  subst this
  obtain ⟨x,hx⟩:=js (l:=s.Pictures) (i:=f') (by rw [hi.ok.pl]; exact l1)
  obtain ⟨m1,m2⟩:=hg.mks k c hc
  have hza:kg (c.Way++[z])=kg c.Way:=by rw [qi7,if_neg (by omega)]; rfl
  refine ⟨by rw [qhy hc]; exact hg.ft,hg.pic,fun i d hd=>?_,?_⟩
  ·rcases ym hd with ⟨_,rfl⟩ | ⟨_,hd⟩
   ·unfold qc1
    dsimp only
    rw [hza]
    exact ⟨m1,m2⟩
   ·exact hg.mks i d hd
  ·have hv:=hg.vs
   unfold qkc at hv ⊢
   dsimp only
   rw [qox ha hx,qjj (P:=s.Pictures) hc (fun i d hik hd=>rfl)]
   simp only [qdm]
   rw [q5t (by omega)]
   rw [e3,e4,qdq hx] at m1 m2
   rw [e3,e4]
   cases hT:x.Taken with
   | true =>
    rw [hT] at m1
    simp only [wA,hT,if_true]
    cases hcl:cl s.Pictures f' t with
    | true=>simp only [if_true]; omega
    | false =>
     rw [hcl] at m1
     simp only [and_self,if_true] at m1
     simp only [Bool.false_eq_true,if_false,m1]
     omega
   | false =>
    rw [hT] at m1 m2
    simp only [Bool.false_eq_true,false_and,if_false] at m1
    have hcl:cl s.Pictures f' t=false:=by
     cases hh:cl s.Pictures f' t with
     | false=>rfl
     | true=>have:=m2 hh; cases this
    simp only [wA,hT,hcl,Bool.false_eq_true,if_false,m1,if_true]
    omega
 | cnt hK k f t c a v z w y hc hw hf ht ha hy hT hcl hv hz =>
  obtain ⟨g1,g2,g3,_⟩:=hi.ok.ch k c hc
  have hft:f≠t:=by omega
  obtain ⟨y1,y2,y3⟩:=(hg.pic t y hy).yes hT
  have hcle:cl s.Pictures f t=false:=qgd hy hcl
  have htk:∀ g,tk (s.Pictures.set t ⟨y.Taken,y.Amount,y.In.set f (v+z),y.Closed⟩) g=tk s.Pictures g:=fun g=>qlv hy rfl
  have hcla:∀ g u,cl (s.Pictures.set t ⟨y.Taken,y.Amount,y.In.set f (v+z),y.Closed⟩) g u=cl s.Pictures g u:=fun g u=>qlz hy rfl
  have hzw:kg c.Way=kg w:=by rw [hw]; simp only [kg,if_neg (show ¬ z=0 by omega),Nat.zero_add]
  refine ⟨by rw [qhy hc]; exact hg.ft,qle (p:=p) hg.pic ⟨(fun h=>by rw [hT] at h; cases h),fun _=>⟨y1,?_,y3⟩,fun u hu=>?_⟩,fun i d hd=>?_,?_⟩
  ·show (y.In.set f (v+z))[t]? = some 0
   rw [List.getElem?_set_ne hft]
   exact y2
  ·rcases List.mem_or_eq_of_mem_set hu with hu | rfl
   ·exact (hg.pic t y hy).nn u hu
   ·have:=(hg.pic t y hy).nn v (List.mem_of_getElem? hv); omega
  ·unfold qc1
   rw [htk,hcla]
   rcases ym hd with ⟨_,rfl⟩ | ⟨_,hd⟩
   ·dsimp only
    rw [←hzw]
    exact hg.mks k c hc
   ·exact hg.mks i d hd
  ·have hvs:=hg.vs
   unfold qkc at hvs ⊢
   dsimp only
   rw [qnx ha hy,qmx hy,qjj (P:=s.Pictures) hc (fun i d hik hd=>by simp only [qdm,hcla])]
   simp only [qdm,hcla,hf,ht,Int.toNat_natCast,hcle,hw]
   simp only [wA,hT,pre,if_true,Bool.false_eq_true,if_false,if_neg (show ¬ z=0 by omega)]
   rw [qgk hv]
   omega
 | pop hK k f t c a z w y cv hc hw hf ht ha hy hcl hn hz =>
  have hcle:cl s.Pictures f t=cv:=qgd hy hcl
  have hzw:kg c.Way=kg w:=by rw [hw]; simp only [kg,if_neg (show ¬ z=0 by omega),Nat.zero_add]
  refine ⟨by rw [qhy hc]; exact hg.ft,hg.pic,fun i d hd=>?_,?_⟩
  ·rcases ym hd with ⟨_,rfl⟩ | ⟨_,hd⟩
   ·unfold qc1
    dsimp only
    rw [←hzw]
    exact hg.mks k c hc
   ·exact hg.mks i d hd
  ·have hvs:=hg.vs
   unfold qkc at hvs ⊢
   dsimp only
   rw [qox ha hy,qjj (P:=s.Pictures) hc (fun i d hik hd=>rfl)]
   simp only [qdm,hf,ht,Int.toNat_natCast,hcle,hw,wA,pre,if_neg (show ¬ z=0 by omega)]
   cases hT:y.Taken with
   | true =>
    have:cv=true:=by
     cases cv with
     | true=>rfl
     | false=>exact absurd ⟨hT,rfl⟩ hn
    subst this
    simp only [if_true]
    omega
   | false =>
    have:cv=false:=((hg.pic t y hy).no hT).2.2 cv (List.mem_of_getElem? hcl)
    subst this
    simp only [Bool.false_eq_true,if_false]
    omega
theorem Plays.keepG {p n:Nat}{s s':Snap}{l:List SnapStep}{d:List Bool}(h:Plays p n s l d s') : SnG p s→SnG p s':=by
 induction h with
 | nil=>exact id
 | cons hi _ _ _ hr _ ih=>exact fun hg=>ih (hr.keepG hi hg)
theorem q76 {p:Nat}{a:Int}(hp:2≤p∧p≤4) : SnG p (uu p a):=by
 obtain ⟨c1,c2⟩:=qgh hp
 have hP:∀ {k:Nat} {x:Picture},(uu p a).Pictures[k]? = some x→x=⟨false,0,List.replicate p 0,List.replicate p false⟩:=fun hx=>List.eq_of_mem_replicate (List.mem_of_getElem? hx)
 have htk:∀ g,tk (uu p a).Pictures g=false:=fun g=>by
  unfold tk
  cases hx:(uu p a).Pictures[g]? with
  | none=>rfl
  | some x=>rw [hP hx]
 have hcl:∀ g u,cl (uu p a).Pictures g u=false:=fun g u=>by
  unfold cl
  cases hx:(uu p a).Pictures[u]? with
  | none=>rfl
  | some x =>
   rw [hP hx]
   dsimp only
   cases hb:(List.replicate p false)[g]? with
   | none=>rfl
   | some b=>rw [List.eq_of_mem_replicate (List.mem_of_getElem? hb)]; rfl
 refine ⟨rfl,fun k x hx=>?_,fun i c hc=>?_,?_⟩
 ·rw [hP hx]
  exact ⟨fun _=>⟨rfl,fun z hz=>List.eq_of_mem_replicate hz,fun b hb=>List.eq_of_mem_replicate hb⟩,(fun h=>by cases h),fun z hz=>by rw [List.eq_of_mem_replicate hz]; exact Int.le_refl _⟩
 ·unfold qc1
  rw [htk,hcl,(c2 c (List.mem_of_getElem? hc)).2.2.2]
  exact ⟨rfl,fun h=>by cases h⟩
 ·have h1:∀ n:Nat,aS (List.replicate n a) (List.replicate n ⟨false,0,List.replicate p 0,List.replicate p false⟩)=n*a:=by
   intro n
   induction n with
   | zero=>simp [aS]
   | succ n ih=>simp only [List.replicate_succ,aS,ih,wA,Bool.false_eq_true,if_false,Int.natCast_add,Int.add_mul]; omega
  have h2:chS (uu p a).Pictures (ya p)=0:=by
   have:∀ {l:List Chan},(∀ c∈l,c.Way=[])→(l.map (qdm (uu p a).Pictures)).sum=0:=by
    intro l
    induction l with
    | nil=>intro _; rfl
    | cons b r ih =>
     intro h
     simp only [List.map_cons,List.sum_cons]
     rw [ih (fun c hc=>h c (by simp [hc]))]
     simp only [qdm,h b (by simp),pre]
     split <;> rfl
   exact this (fun c hc=>(c2 c hc).2.2.2)
  have h3:∀ n:Nat,iS (List.replicate n ⟨false,0,List.replicate p 0,List.replicate p false⟩)=0:=by
   intro n
   unfold iS
   induction n with
   | zero=>rfl
   | succ n ih =>
    simp only [List.replicate_succ,List.map_cons,List.sum_cons,ih]
    rw [qo7]
    omega
  show aS (List.replicate p a) _+chS (uu p a).Pictures (ya p)+iS (List.replicate p _)=(p:Int)*a
  rw [h2,h3]
  have:=h1 p
  simp only [uu]
  omega
end Go.Proofs.Ytpkiieniipenjaa.X
