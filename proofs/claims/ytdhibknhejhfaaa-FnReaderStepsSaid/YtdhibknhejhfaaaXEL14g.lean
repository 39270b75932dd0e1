/- FnReaders: no two read one part in the newest generation, and what is committed does not fall. -/
import Derived.Test.YtdhibknhejhfaaaXEL14f
import Derived.Test.YtdhibknhejhfaaaXEL14p
import Derived.Test.YtdhibknhejhfaaaXEL14q
import Derived.Test.YtdhibknhejhfaaaZFit
set_option linter.unusedVariables false
set_option linter.unusedSimpArgs false
namespace Go.Proofs.Ytdhibknhejhfaaa.X
open Go

theorem Plays.ok {r r':Readers_}{l:List GroupStep}{d:List Bool}(h:Plays r l d r') : GrOk r→GrOk r':=by
 induction h with
 | nil=>exact id
 | cons hs _ ih=>exact fun hr=>ih hs.2.2.2.1
theorem Plays.grP {r r':Readers_}{l:List GroupStep}{d:List Bool}(h:Plays r l d r') : grP r→grP r':=by
 induction h with
 | nil=>exact id
 | cons hs _ ih=>exact fun hr=>ih (ql7 hr hs.2.2.2.2 hs.2.2.2.1)
def qxi (r r':Readers_) : Prop:=r'.Ends=r.Ends∧∀ (p:Nat) (c c':Int),r.Committed[p]? = some c→r'.Committed[p]? = some c'→c≤c'
theorem StepRel.com {r r':Readers_}{x:GroupStep}{b:Bool}(h:StepRel r x b r') : qxi r r'∧r'.Committed.length=r.Committed.length:=by
 have same:∀ {C:List Int} (p:Nat) (c c':Int),C[p]? = some c→C[p]? = some c'→c≤c':=fun p c c' h1 h2=>by rw [h1] at h2; cases h2; exact Int.le_refl _
 cases h with
 | no=>exact ⟨⟨rfl,same⟩,rfl⟩
 | turn b=>exact ⟨⟨rfl,same⟩,rfl⟩
 | sync y hy hin=>exact ⟨⟨rfl,same⟩,rfl⟩
 | read y v hy hp=>exact ⟨⟨rfl,same⟩,rfl⟩
 | commit y m v hk hy h5 hg hm hv =>
  refine ⟨⟨rfl,fun p c c' h1 h2=>?_⟩,by simp⟩
  dsimp only at h2
  by_cases e:x.Part.toNat=p
  ·subst e
   have hi:x.Part.toNat<r.Committed.length:=(List.getElem?_eq_some_iff.1 hm).1
   rw [List.getElem?_set_self hi] at h2
   rw [hm] at h1
   cases h1; cases h2
   exact hv
  ·rw [List.getElem?_set_ne e,h1] at h2
   cases h2
   exact Int.le_refl _
theorem Plays.com {r r':Readers_}{l:List GroupStep}{d:List Bool}(h:Plays r l d r') : qxi r r'∧r'.Committed.length=r.Committed.length:=by
 induction h with
 | nil r=>exact ⟨⟨rfl,fun p c c' h1 h2=>by rw [h1] at h2; cases h2; exact Int.le_refl _⟩,rfl⟩
 | @cons r r1 r2 x l b d hs t ih =>
  obtain ⟨⟨a1,a2⟩,a3⟩:=hs.2.2.2.2.com
  obtain ⟨⟨b1,b2⟩,b3⟩:=ih
  refine ⟨⟨b1.trans a1,fun p c c' h1 h2=>?_⟩,b3.trans a3⟩
  obtain ⟨m,hm⟩:=y6 (l:=r1.Committed) (i:=p) (by rw [a3]; exact (List.getElem?_eq_some_iff.1 h1).1)
  exact Int.le_trans (a2 p c m h1 hm) (b2 p m c' hm h2)
theorem q6e {n:Nat}{E:List Int}(hn:1≤n∧n≤5)(he:1≤E.length∧E.length≤6)(hE:qjo E) : grP (um n E):=by
 have h:=qkl hn he hE
 refine ⟨⟨h.nr,h.ne,h.com,h.gen⟩,⟨hE,fun p c hc e he=>h.cat_ p c e hc he⟩,fun k x hx=>?_⟩
 have e:x=⟨false,0,[],List.replicate E.length 0⟩:=by
  obtain ⟨hi,e⟩:=List.getElem?_eq_some_iff.1 hx
  simpa [um] using e.symm
 have hrd:=h.rd k x hx
 subst e
 refine ⟨⟨Int.le_refl _,Int.le_refl _⟩,fun i x h=>by simp at h,by simp [um],fun _=>⟨rfl,rfl⟩,fun p a ha=>⟨fun e he=>hrd.at_ p a e ha he,fun _=>qib ha⟩,fun hin=>by cases hin⟩
theorem qfy {r:Readers_}(h:r.nn≤1048576) : Ev (fun _=>xa r r) true:=by
 obtain ⟨h1,h2,h3,h4⟩:=qdq h
 unfold xa
 refine Ev.bind (a:=false) (Ev.iteF (by simp) (Ev.bind (qbu (by omega)) Ev.rfl)) ?_
 refine Ev.bind (a:=false) (Ev.iteF rfl (Ev.bind (qbu (by omega)) Ev.rfl)) ?_
 refine Ev.iteF (by simp) (Ev.jn (qoj (by omega) (fun i hi=>?_)) Ev.rfl)
 obtain ⟨x,hx⟩:=y6 hi
 obtain ⟨a1,a2⟩:=h4 i x hx
 unfold qaj
 rw [yw hx]
 refine Ev.bind (a:=false) (Ev.iteF (by simp) (Ev.bind (qbu (by omega)) Ev.rfl)) ?_
 refine Ev.bind (a:=false) (Ev.iteF rfl (Ev.bind (qbu (by omega)) Ev.rfl)) ?_
 exact Ev.iteF rfl Ev.rfl
def Owns (r:Readers_)(p:Int)(x:Reader) : Prop:=(x.In=true∧x.Generation=r.Generation)∧p∈x.Share
theorem qtb {r:Readers_}(h:grP r){p:Int}{i j:Nat}{x y:Reader}(hi:r.Readers[i]? = some x)(hj:r.Readers[j]? = some y)(hx:Owns r p x)(hy:Owns r p y) : i=j:=by
 obtain ⟨⟨a1,a2⟩,a3⟩:=hx
 obtain ⟨⟨b1,b2⟩,b3⟩:=hy
 rw [(h.2.2 i x hi).2.2.2.2.2 a1 a2] at a3
 rw [(h.2.2 j y hj).2.2.2.2.2 b1 b2] at b3
 exact qjq hi hj a1 b1 a3 b3
theorem Is.andc {F:Nat→Option Bool}{b:Bool}{P Q:Prop}(hb:b=true↔P)(h:Is F Q) : Is (fun k=>if b=true then (F k).bind fun v=>some v else some false) (P∧Q):=by
 cases b with
 | true =>
  have hp:=hb.1 rfl
  obtain ⟨c,e,hc⟩:=h
  exact ⟨c,Ev.bind e Ev.rfl,by simp [hp,hc]⟩
 | false=>exact ⟨false,Ev.rfl,by simp at hb; simp [hb]⟩
theorem qlk {r:Readers_}(h:grP r)(hn:r.nn≤1048576)(p:Int) : (∃ (i:Nat) (x:Reader),r.Readers[i]? = some x∧Owns r p x∧Ev (fun _=>wq r p) ((i:Int),true))∨((∀ (i:Nat) (x:Reader),r.Readers[i]? = some x→¬ Owns r p x)∧Ev (fun _=>wq r p) (0,false)):=by
 obtain ⟨n1,n2,n3,n4⟩:=qdq hn
 obtain ⟨b,e,hb⟩:=y8 hn
 have hbt:b=true:=hb.2 h
 subst hbt
 rcases ur (B:=fun _ i1 x2 _=>ye (fun a0=>uz a0 r p) i1 x2) (Q:=fun _ x=>Owns r p x) (f:=fun i=>(i:Int)) (l:=r.Readers) (by omega) (fun i x hx=>by
  unfold ye uz
  have:=n4 i x hx
  obtain ⟨c,ec,hc⟩:=Is.and (b:=(x.In&&(decide (x.Generation=r.Generation)))) (P:=x.In=true∧x.Generation=r.Generation) (by simp) (fun _=>Contains_int_is (l:=x.Share) (v:=p) (by omega))
  refine ⟨c,Ev.bind ec ?_,hc⟩
  cases c <;> exact Ev.rfl) with ⟨i,x,g1,g2,g3,g4⟩ | ⟨g1,g2⟩
 ·refine .inl ⟨i,x,g1,g2,?_⟩
  unfold wq yu
  exact Ev.bind e (Ev.iteF rfl (Ev.bind (Ev.jn_ret g4) (Ev.iteF (by simp) Ev.rfl)))
 ·refine .inr ⟨g1,?_⟩
  unfold wq yu
  exact Ev.bind e (Ev.iteF rfl (Ev.bind (Ev.jn g2 Ev.rfl) (Ev.iteT (by decide) Ev.rfl)))
def qdv (E C:List Int) : Int:=match E,C with
 | e::E,c::C=>(e - c)+qdv E C
 | _,_=>0
theorem q53:∀ {E C C':List Int},C.length=E.length→C'.length=E.length→(∀ (p:Nat) (c c':Int),C[p]? = some c→C'[p]? = some c'→c≤c')→qdv E C'≤qdv E C:=by
 intro E
 induction E with
 | nil=>intro C C' _ _ _; simp [qdv]
 | cons e E ih =>
  intro C C' h1 h2 h
  match C,C',h1,h2 with
  | c::C,c'::C',h1,h2 =>
   have h0:=h 0 c c' rfl rfl
   have:=ih (C:=C) (C':=C') (by simpa using h1) (by simpa using h2) (fun p a b ha hb=>h (p+1) a b (by simpa using ha) (by simpa using hb))
   simp only [qdv]
   omega
theorem q3c {r:Readers_}(h:grP r)(hn:r.nn≤1048576) : Ev (fun _=>yy r) (qdv r.Ends r.Committed,true):=by
 obtain ⟨b,e,hb⟩:=y8 hn
 have hbt:b=true:=hb.2 h
 subst hbt
 have hok:=qra h
 have hlen:=hok.ne
 unfold yy
 refine Ev.bind e (Ev.iteF rfl (Ev.jn (s:=qdv r.Ends r.Committed) ?_ Ev.rfl))
 refine wv (by omega) (fun i q s=>r.Ends.drop i=q∧0≤s∧s≤100*i∧s+qdv q (r.Committed.drop i)=qdv r.Ends r.Committed) ⟨by simp,by omega,by omega,by simp⟩ (fun i x q s ⟨h1,h2,h3,h4⟩ => .inl ?_) (fun i s ⟨h1,h2,h3,h4⟩=>by rw [←h4]; simp [qdv])
 have hx:r.Ends[i]? = some x:=by have:=congrArg (fun z=>z[0]?) h1; simpa using this
 have hi:=(List.getElem?_eq_some_iff.1 hx).1
 obtain ⟨c,hc⟩:=y6 (l:=r.Committed) (i:=i) (by rw [hok.com]; omega)
 have hce:=hok.cat_ i c x hc hx
 have hee:=hok.ends i x hx
 have hd:r.Committed.drop i=c::r.Committed.drop (i+1):=by
  have hil:=(List.getElem?_eq_some_iff.1 hc).1
  rw [List.drop_eq_getElem_cons hil]
  congr 1
  exact (List.getElem?_eq_some_iff.1 hc).2
 rw [hd] at h4
 simp only [qdv] at h4
 refine ⟨s+(x - c),Ev.of ?_,by have:=congrArg (List.drop 1) h1; simpa [List.drop_drop] using this,by omega,by omega,by omega⟩
 unfold qa2
 rw [yw hc,Option.bind_some,yg (n:=x - c) (by omega) (by omega),yg (by omega) (by omega)]
end Go.Proofs.Ytdhibknhejhfaaa.X
