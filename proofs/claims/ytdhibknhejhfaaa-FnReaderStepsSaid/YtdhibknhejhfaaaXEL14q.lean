/- Drawn groups and steps: the draw comes to an end, within its bounds. -/
import Derived.Test.YtdhibknhejhfaaaXELArefl
set_option linter.unusedVariables false
set_option linter.unusedSimpArgs false
namespace Go.Proofs.Ytdhibknhejhfaaa.X
open Go

theorem q25 {l:List Int}{x:Int}(h:l.length≤1000) : k7 8 l [x]=some (l++[x]):=by
 unfold k7
 rw [if_pos (by simp only [List.length_cons,List.length_nil]; omega)]
theorem qtq {l:List GroupStep}{x:GroupStep}(h:l.length≤1000) : k7 32 l [x]=some (l++[x]):=by
 unfold k7
 rw [if_pos (by simp only [List.length_cons,List.length_nil]; omega)]
theorem qni {c:L1Cur}{t:Nat}(hc:Cur t c)(ht:t≤1000) : ∃ E c',Ev (fun k=>qdf k c) (E,c')∧1≤E.length∧E.length≤6∧Cur (t+9) c':=by
 obtain ⟨w1,c1,h1,hc1,g0,g1⟩:=y2 hc (by omega) 6 (by omega)
 have e1:IntKind.wrap .i64 (1+w1)=1+w1:=yg (by omega) (by omega)
 have key:=Ev.loopQ (B:=fun s72:List Int × Int × L1Cur=>qbg s72.1 s72.2.1 s72.2.2) (s:=(([],1+w1,c1) : List Int × Int × L1Cur))
  (fun o=>∃ (l:List Int) (m:Int) (c:L1Cur),o = .nxt (l,m,c)∧1≤l.length∧l.length≤6∧Cur (t+7) c)
  (fun st=>∃ j:Nat,(j:Int)+st.2.1=1+w1∧0≤st.2.1∧st.1.length=j∧Cur (t+1+j) st.2.2)
  (fun st=>st.2.1.toNat) ⟨0,by simp,by show 0≤1+w1; omega,rfl,hc1⟩ ?_
 ·obtain ⟨o,ho,l,m,c2,rfl,hl1,hl2,hc2⟩:=key
  have hj:∃ E c',qcb l m c2=some (E,c')∧E.length=l.length∧Cur (t+9) c':=by
   unfold qcb
   obtain ⟨w3,c3,h3,hc3⟩:=qmc hc2 (by omega) 30 (by omega)
   rw [h3,Option.bind_some]
   cases w3 with
   | false=>exact ⟨l,c3,rfl,rfl,hc3.le (by omega)⟩
   | true =>
    obtain ⟨w4,c4,h4,_,hc4⟩:=qha hc3 (by omega) [-1,101] (by decide) (by decide)
    obtain ⟨x,hx,_⟩:=qkf (l:=l) (i:=0) (by omega) (by omega)
    rw [if_pos rfl,h4,Option.bind_some,hx,Option.bind_some]
    exact ⟨_,_,rfl,by rw [List.length_set],hc4.le (by omega)⟩
  obtain ⟨E,c',h5,h6,h7⟩:=hj
  refine ⟨E,c',Ev.eqv (Ev.jn (G:=fun _ s=>qcb s.1 s.2.1 s.2.2) ho (Ev.of h5)) (fun k=>?_),by omega,by omega,h7⟩
  simp only [qdf,h1,Option.bind_some,e1]
 ·rintro ⟨l,m,c2⟩ ⟨j,hj,hm,hl,hc2⟩
  simp only at hj hm hl hc2
  by_cases hm0:0<m
  ·obtain ⟨w,c3,h3,_,hc3⟩:=qha hc2 (by omega) [0,3,5,100] (by decide) (by decide)
   refine .inl ⟨(l++[w],m - 1,c3),?_,⟨j+1,by simp only; omega,by simp only; omega,by simp [hl],by simp only; exact hc3.le (by omega)⟩,by simp only; omega⟩
   simp only [qbg]
   rw [if_pos (by simpa using hm0),h3,Option.bind_some,q25 (by omega),Option.bind_some,yg (by omega) (by omega)]
  ·refine .inr (.inl ⟨(l,m,c2),?_,l,m,c2,rfl,by omega,by omega,hc2.le (by omega)⟩)
   simp only [qbg]
   rw [if_neg (by simpa using hm0)]
def DrawnS (x:GroupStep) : Prop := -1≤x.K∧x.K≤300
theorem qi1 {l:List GroupStep}{m:Int}{c:L1Cur}{x:GroupStep}{t:Nat}(hl:l.length≤900)(hm:0<m∧m≤100)(hx:DrawnS x)(hd:∀ y∈l,DrawnS y)(hc:Cur t c) :
  ∃ l' c',qay l m c x=some (.nxt (l',m - 1,c'))∧l'.length=l.length+1∧(∀ y∈l',DrawnS y)∧Cur t c':=by
 unfold qay
 rw [qtq (by omega),Option.bind_some,yg (by omega) (by omega)]
 refine ⟨_,_,rfl,by simp,fun y hy=>?_,hc⟩
 rcases List.mem_append.1 hy with hy | hy
 ·exact hd y hy
 ·have:=List.mem_singleton.1 hy; subst this; exact hx
theorem qiq {l:List GroupStep}{m:Int}{c:L1Cur}{x:GroupStep}{t:Nat}(hl:l.length≤900)(hm:0<m∧m≤100)(hx:DrawnS x)(hd:∀ y∈l,DrawnS y)(hc:Cur t c)(ht:t≤10000) :
  ∃ l' c',qa1 l m c x=some (.nxt (l',m - 1,c'))∧l'.length=l.length+1∧(∀ y∈l',DrawnS y)∧Cur (t+5) c':=by
 unfold qa1
 obtain ⟨w,c1,h1,hc1⟩:=qmc hc (by omega) 60 (by omega)
 rw [h1,Option.bind_some]
 cases w with
 | false =>
  obtain ⟨l',c',a,b,d,e⟩:=qi1 hl hm hx hd (hc1.le (show t+1≤t+5 by omega))
  exact ⟨l',c',a,b,d,e⟩
 | true =>
  obtain ⟨w2,c2,h2,hc2,_⟩:=y2 hc1 (by omega) 7 (by omega)
  obtain ⟨w3,c3,h3,hc3,g30,g31⟩:=y2 hc2 (by omega) 7 (by omega)
  obtain ⟨w4,c4,h4,hc4,_⟩:=y2 hc3 (by omega) 8 (by omega)
  obtain ⟨w5,c5,h5,hc5,_⟩:=y2 hc4 (by omega) 3 (by omega)
  have e3:IntKind.wrap .i64 (w3 - 1)=w3 - 1:=yg (by omega) (by omega)
  rw [if_pos rfl,h2,Option.bind_some,h3,Option.bind_some,h4,Option.bind_some,h5,Option.bind_some,Option.bind_some,e3]
  exact qi1 hl hm ⟨by simp only; omega,by simp only; omega⟩ hd hc5
theorem qiy {l:List GroupStep}{m:Int}{c:L1Cur}{x:GroupStep}{t:Nat}(hl:l.length≤900)(hm:0<m∧m≤100)(hx:DrawnS x)(hd:∀ y∈l,DrawnS y)(hc:Cur t c)(ht:t≤9000) :
  ∃ l' c',qas l m c x=some (.nxt (l',m - 1,c'))∧l'.length=l.length+1∧(∀ y∈l',DrawnS y)∧Cur (t+6) c':=by
 unfold qas
 by_cases h4:x.Kind=4
 ·obtain ⟨w,c1,h1,hc1,_⟩:=y2 hc (by omega) 4 (by omega)
  rw [if_pos (by simpa using h4),h1,Option.bind_some,Option.bind_some]
  obtain ⟨l',c',a,b,d,e⟩:=qiq (x:=⟨x.Kind,x.K,x.Part,IntKind.wrap .i64 (1+w)⟩) hl hm hx hd hc1 (by omega)
  exact ⟨l',c',a,b,d,e.le (by omega)⟩
 ·rw [if_neg (by simpa using h4),Option.bind_some]
  obtain ⟨l',c',a,b,d,e⟩:=qiq hl hm hx hd hc (by omega)
  exact ⟨l',c',a,b,d,e.le (by omega)⟩
theorem qmq {rn pn m:Int}{l:List GroupStep}{c:L1Cur}{t:Nat}(hr:rn≤200)(hp:pn≤200)(hl:l.length≤900)(hm:0<m∧m≤100)(hd:∀ y∈l,DrawnS y)(hc:Cur t c)(ht:t≤8000) :
  ∃ l' c',yp rn pn l m c=some (.nxt (l',m - 1,c'))∧l'.length=l.length+1∧(∀ y∈l',DrawnS y)∧Cur (t+9) c':=by
 unfold yp
 obtain ⟨w1,c1,h1,_,hc1⟩:=qha hc (by omega) [1,1,2,3,3,3,4,4,4,5,5,5] (by decide) (by decide)
 obtain ⟨w2,c2,h2,hc2,g0,g1⟩:=y2 hc1 (by omega) rn (by omega)
 rw [if_pos (by simpa using hm.1),h1,Option.bind_some,h2,Option.bind_some]
 by_cases h4:4≤w1
 ·obtain ⟨w3,c3,h3,hc3,_⟩:=y2 hc2 (by omega) pn (by omega)
  rw [if_pos (by simpa using h4),h3,Option.bind_some,Option.bind_some]
  exact qiy (x:=⟨w1,w2,w3,0⟩) hl hm ⟨by simp only; omega,by simp only; omega⟩ hd hc3 (by omega)
 ·rw [if_neg (by simpa using h4),Option.bind_some]
  obtain ⟨l',c',a,b,d,e⟩:=qiy (x:=⟨w1,w2,0,0⟩) hl hm ⟨by simp only; omega,by simp only; omega⟩ hd hc2 (by omega)
  exact ⟨l',c',a,b,d,e.le (by omega)⟩
theorem qlj {rn pn:Int}{c:L1Cur}{t:Nat}(hr:rn≤200)(hp:pn≤200)(hc:Cur t c)(ht:t≤3000) : ∃ l c',Ev (fun k=>ws k c rn pn) (l,c')∧l.length≤100∧(∀ y∈l,DrawnS y)∧Cur (t+1000) c':=by
 obtain ⟨w1,c1,h1,hc1,g0,g1⟩:=y2 hc (by omega) 40 (by omega)
 obtain ⟨w2,c2,h2,hc2⟩:=qmc hc1 (by omega) 8 (by omega)
 have hj1:∀ (n:Int) (c:L1Cur),0≤n→n≤90→Cur (t+3) c→∃ l c',Ev (fun k=>qb9 k rn pn n c) (l,c')∧l.length≤100∧(∀ y∈l,DrawnS y)∧Cur (t+1000) c':=by
  intro n c hn0 hn1 hc
  have key:=Ev.loopQ (B:=fun s226:List GroupStep × Int × L1Cur=>yp rn pn s226.1 s226.2.1 s226.2.2) (s:=(([],n,c) : List GroupStep × Int × L1Cur))
   (fun o=>∃ (l:List GroupStep) (m:Int) (c:L1Cur),o = .nxt (l,m,c)∧l.length≤100∧(∀ y∈l,DrawnS y)∧Cur (t+1000) c)
   (fun st=>∃ j:Nat,(j:Int)+st.2.1=n∧0≤st.2.1∧st.1.length=j∧(∀ y∈st.1,DrawnS y)∧Cur (t+3+9*j) st.2.2)
   (fun st=>st.2.1.toNat) ⟨0,by simp,hn0,rfl,by simp,by simpa using hc⟩ ?_
  ·obtain ⟨o,ho,l,m,c2,rfl,hl1,hl2,hc2⟩:=key
   exact ⟨l,c2,Ev.eqv (Ev.jn (G:=fun _ s=>qat s.1 s.2.1 s.2.2) ho (Ev.of (rfl:qat l m c2=some (l,c2)))) (fun k=>rfl),hl1,hl2,hc2⟩
  ·rintro ⟨l,m,c2⟩ ⟨j,hj,hm,hl,hd,hc2⟩
   simp only at hj hm hl hc2 hd
   by_cases hm0:0<m
   ·obtain ⟨l',c',a,b,d,e⟩:=qmq hr hp (l:=l) (m:=m) (by omega) ⟨hm0,by omega⟩ hd hc2 (by omega)
    exact .inl ⟨_,a,⟨j+1,by simp only; omega,by simp only; omega,by simp only; omega,d,by simp only; exact e.le (by omega)⟩,by simp only; omega⟩
   ·refine .inr (.inl ⟨(l,m,c2),?_,l,m,c2,rfl,by omega,hd,hc2.le (by omega)⟩)
    simp only [yp]
    rw [if_neg (by simpa using hm0)]
 cases w2 with
 | true =>
  obtain ⟨w3,c3,h3,hc3,g2,g3⟩:=y2 hc2 (by omega) 12 (by omega)
  obtain ⟨l,c',he,r⟩:=hj1 (70+w3) c3 (by omega) (by omega) hc3
  refine ⟨l,c',Ev.eqv he (fun k=>?_),r⟩
  simp only [ws,h1,h2,h3,Option.bind_some,if_true]
  rw [yg (by omega) (by omega)]
 | false =>
  obtain ⟨l,c',he,r⟩:=hj1 w1 c2 (by omega) (by omega) (hc2.le (by omega))
  refine ⟨l,c',Ev.eqv he (fun k=>?_),r⟩
  simp only [ws,h1,h2,Option.bind_some,Bool.false_eq_true,if_false]
end Go.Proofs.Ytdhibknhejhfaaa.X
