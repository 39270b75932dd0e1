/- Drawn groups. -/
import Derived.Test.YtdhibknhejhfaaaXEL14g
set_option linter.unusedVariables false
set_option linter.unusedSimpArgs false
namespace Go.Proofs.Ytdhibknhejhfaaa.X
open Go

structure DrawnR (r:Readers_) : Prop where
 nr:1≤r.Readers.length∧r.Readers.length≤5
 ne:1≤r.Ends.length∧r.Ends.length≤6
 nc:1≤r.Committed.length∧r.Committed.length≤6
 rd:∀ (i:Nat) (x:Reader),r.Readers[i]? = some x→x.Share.length≤6∧x.Read.length≤6
theorem DrawnR.nn_le {r:Readers_}(h:DrawnR r) : r.nn≤1048576:=by
 have hs:∀ {l:List Reader},(∀ (i:Nat) (x:Reader),l[i]? = some x→x.nn≤12)→kr Reader.nn l≤12*l.length:=by
  intro l
  induction l with
  | nil=>intro _; simp [kr]
  | cons a q ih =>
   intro hh
   have h0:=hh 0 a rfl
   have h1:=ih (fun i x hx=>hh (i+1) x (by simpa using hx))
   simp only [kr,List.length_cons]
   omega
 have h1:=hs (l:=r.Readers) (fun i x hx=>by
  have:=h.rd i x hx
  have h2:x.nn=x.Share.length+(x.Read.length+0):=rfl
  omega)
 have h2:r.nn=nnL Reader.nn r.Readers+(r.Committed.length+(r.Ends.length+0)):=rfl
 have h3:nnL Reader.nn r.Readers=r.Readers.length+kr Reader.nn r.Readers:=rfl
 have:=h.nr
 have:=h.ne
 have:=h.nc
 omega
theorem GrOk.drawn {r:Readers_}(h:GrOk r) : DrawnR r:=by
 have:=h.ne
 have:=h.com
 exact ⟨h.nr,h.ne,by omega,fun i x hx=>by have hr:=h.rd i x hx; have:=hr.slen; have:=hr.read; omega⟩
theorem qhl {v:List GroupStep × L1Cur}{r:Readers_}{t:Nat}(h:DrawnR r)(hc:Cur t v.2)(ht:t≤10000) : ∃ r' c',qb1 v r=some (r',c')∧DrawnR r'∧Cur (t+2) c':=by
 unfold qb1
 obtain ⟨w,c1,h1,hc1,_⟩:=y2 hc (by omega) 30 (by omega)
 rw [h1,Option.bind_some]
 dsimp only
 by_cases e0:w=0
 ·obtain ⟨w2,c2,h2,_,hc2⟩:=qha hc1 (by omega) [-1,1000,1001] (by decide) (by decide)
  rw [if_pos (by simpa using e0),h2,Option.bind_some]
  exact ⟨_,_,rfl,⟨h.nr,h.ne,h.nc,h.rd⟩,hc2⟩
 ·rw [if_neg (by simpa using e0)]
  by_cases e1:w=1
  ·obtain ⟨w2,c2,h2,hc2,_⟩:=y2 hc1 (by omega) 200 (by omega)
   obtain ⟨m,hm⟩:=y6 (l:=r.Committed) (i:=0) (by have:=h.nc; omega)
   rw [if_pos (by simpa using e1),h2,Option.bind_some,show zz r.Committed 0=some m from hm,Option.bind_some]
   exact ⟨_,_,rfl,⟨h.nr,h.ne,by simpa using h.nc,h.rd⟩,hc2⟩
  ·rw [if_neg (by simpa using e1)]
   by_cases e2:w=2
   ·obtain ⟨y,hy⟩:=y6 (l:=r.Readers) (i:=0) (by have:=h.nr; omega)
    rw [if_pos (by simpa using e2),show zz r.Readers 0=some y from hy,Option.bind_some]
    refine ⟨_,_,rfl,⟨by simpa using h.nr,h.ne,h.nc,fun i x hx=>?_⟩,hc1.le (by omega)⟩
    dsimp only at hx
    by_cases e:0=i
    ·subst e
     have hi:0<r.Readers.length:=by have:=h.nr; omega
     rw [show (0:Int).toNat=0 from rfl,List.getElem?_set_self hi] at hx
     cases hx
     exact ⟨by simp,(h.rd 0 y hy).2⟩
    ·rw [show (0:Int).toNat=0 from rfl,List.getElem?_set_ne e] at hx
     exact h.rd i x hx
   ·rw [if_neg (by simpa using e2)]
    exact ⟨_,_,rfl,h,hc1.le (by omega)⟩
theorem qff {c:L1Cur}{t:Nat}(hc:Cur t c)(ht:t≤100) : ∃ r c',Ev (fun k=>xv k c) (r,c')∧DrawnR r∧Cur (t+1100) c':=by
 obtain ⟨w1,c1,h1,hc1,g0,g1⟩:=y2 hc (by omega) 5 (by omega)
 obtain ⟨E,c2,h2,a1,a2,hc2⟩:=qni hc1 (by omega)
 have ew:IntKind.wrap .i64 (1+w1)=1+w1:=yg (by omega) (by omega)
 obtain ⟨l,c3,h3,b1,b2,hc3⟩:=qlj (rn:=1+w1) (pn:=(E.length:Int)) (by omega) (by omega) hc2 (by omega)
 have hcut:∃ l',(if (decide ((80:Int)<(List.length l:Int)))=true then ((sl l 0 80).bind fun l41=>(some l41)) else (some l))=some l'∧l'.length≤80∧∀ y∈l',DrawnS y:=by
  by_cases h80:80<l.length
  ·refine ⟨l.take 80,?_,by rw [List.length_take]; omega,fun y hy=>b2 y (List.mem_of_mem_take hy)⟩
   rw [if_pos (by simp; omega)]
   unfold sl
   rw [if_pos (by omega)]
   rfl
  ·exact ⟨l,by rw [if_neg (by simp; omega)],by omega,b2⟩
 obtain ⟨l',hl',hl80,hld⟩:=hcut
 have hj:∃ r c',Ev (fun k=>qb2 k (w1,c1) (E,c2) (l,c3) l') (r,c')∧DrawnR r∧Cur (t+1100) c':=by
  unfold qb2
  dsimp only
  rw [ew]
  obtain ⟨⟨r0,b⟩,e1,_,hr,_⟩:=qml (1+w1) E (by omega)
  cases b with
  | true =>
   obtain ⟨hg0,_⟩:=hr rfl
   obtain ⟨d,r',hp,hg'⟩:=qt6 (l:=l') (fun x hx=>by have:=hld x hx; exact ⟨by unfold DrawnS at this; omega,by unfold DrawnS at this; omega⟩) hg0
   obtain ⟨r2,c',f1,f2,f3⟩:=qhl (v:=(l,c3)) hg'.drawn hc3 (by omega)
   exact ⟨r2,c',Ev.bind (qq6 e1 hg0 hp hg' hl80) (Ev.bind (Ev.iteF rfl Ev.rfl) (Ev.of f1)),f2,f3.le (by omega)⟩
  | false =>
   obtain ⟨⟨r1,b1⟩,e3,_,hr1,_,hn1⟩:=qml 1 [3] (by decide)
   have hb1:b1=true:=hn1 (by decide) (by decide) (fun i e he=>by
    have:=List.mem_of_getElem? he
    simp at this
    omega)
   subst hb1
   obtain ⟨r2,c',f1,f2,f3⟩:=qhl (v:=(l,c3)) (hr1 rfl).1.drawn hc3 (by omega)
   exact ⟨r2,c',Ev.bind (ql1 e1 (.inl rfl)) (Ev.bind (Ev.iteT rfl (Ev.bind e3 Ev.rfl)) (Ev.of f1)),f2,f3.le (by omega)⟩
 obtain ⟨r,c',hj,hr,hcc⟩:=hj
 refine ⟨r,c',?_,hr,hcc⟩
 simp only [xv,h1,Option.bind_some,ew]
 refine Ev.bind h2 (Ev.bind h3 ?_)
 dsimp only
 rw [hl']
 exact hj
theorem qfo {code:List Int}(hb:Bytes code) : Cur 0 (L1Cur.mk code 0 0):=⟨hb,Int.le_refl _,Int.le_refl _⟩
theorem DrawStep_ok {code:List Int}(hb:Bytes code) : ∃ r x,Ev (fun k=>wo k code) (r,x)∧DrawnR r∧DrawnS x:=by
 obtain ⟨r,c1,h1,hr,hc1⟩:=qff (qfo hb) (by omega)
 have h5:=hr.nr
 have h6:=hr.ne
 obtain ⟨l,c2,h2,b1,b2,_⟩:=qlj (rn:=(r.Readers.length:Int)) (pn:=(r.Ends.length:Int)) (by omega) (by omega) hc1 (by omega)
 unfold wo
 cases l with
 | nil=>exact ⟨r,⟨1,0,0,0⟩,Ev.bind h1 (Ev.bind h2 (Ev.iteT (by simp) Ev.rfl)),hr,by decide,by decide⟩
 | cons x l =>
  refine ⟨r,x,Ev.bind h1 (Ev.bind h2 (Ev.iteF (by simp; omega) ?_)),hr,b2 x (by simp)⟩
  exact Ev.bindp (show zz (x::l) 0=some x from rfl) Ev.rfl
theorem DrawShare_ok {code:List Int}(hb:Bytes code) : ∃ r k,Ev (fun k=>u1 k code) (r,k)∧DrawnR r∧0≤k:=by
 obtain ⟨r,c1,h1,hr,hc1⟩:=qff (qfo hb) (by omega)
 have h5:=hr.nr
 obtain ⟨w,c2,h2,hc2,g0,g1⟩:=y2 hc1 (by omega) ((r.Readers.length:Int)+1) (by omega)
 unfold u1
 refine ⟨r,w,Ev.bind h1 ?_,hr,g0⟩
 dsimp only
 rw [yg (by omega) (by omega)]
 exact Ev.bindp h2 Ev.rfl
theorem DrawOwner_ok {code:List Int}(hb:Bytes code) : ∃ r p,Ev (fun k=>u6 k code) (r,p)∧DrawnR r:=by
 obtain ⟨r,c1,h1,hr,hc1⟩:=qff (qfo hb) (by omega)
 have h5:=hr.ne
 obtain ⟨w,c2,h2,hc2,g0,g1⟩:=y2 hc1 (by omega) ((r.Ends.length:Int)+2) (by omega)
 unfold u6
 refine ⟨r,w - 1,Ev.bind h1 ?_,hr⟩
 dsimp only
 rw [yg (n:=(r.Ends.length:Int)+2) (by omega) (by omega)]
 refine Ev.bindp h2 ?_
 dsimp only
 rw [yg (by omega) (by omega)]
 exact Ev.rfl
theorem DrawLeft_ok {code:List Int}(hb:Bytes code) : ∃ r,Ev (fun k=>qah k code) r∧DrawnR r:=by
 obtain ⟨r,c1,h1,hr,hc1⟩:=qff (qfo hb) (by omega)
 exact ⟨r,Ev.bind (Ev.bind h1 Ev.rfl) Ev.rfl,hr⟩
theorem DrawNew_ok {code:List Int}(hb:Bytes code) : ∃ n E,Ev (fun k=>w7 k code) (n,E)∧E.length≤6:=by
 obtain ⟨w,c1,h1,hc1,_⟩:=y2 (qfo hb) (by omega) 7 (by omega)
 obtain ⟨E,c2,h2,_,a2,_⟩:=qni hc1 (by omega)
 refine ⟨w,E,?_,a2⟩
 unfold w7
 exact Ev.bindp h1 (Ev.bind h2 Ev.rfl)
end Go.Proofs.Ytdhibknhejhfaaa.X
