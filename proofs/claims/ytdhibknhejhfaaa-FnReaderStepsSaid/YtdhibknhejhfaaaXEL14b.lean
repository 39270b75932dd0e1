/- A step of a group that reads: the specification's and the program's are one, and keep what is kept. -/
import Derived.Test.YtdhibknhejhfaaaXEL14a
import Derived.Test.YtdhibknhejhfaaaZFit
set_option linter.unusedVariables false
set_option linter.unusedSimpArgs false
namespace Go.Proofs.Ytdhibknhejhfaaa.X
open Go

structure RdOk (x:Reader) (E:List Int) : Prop where
 read:x.Read.length=E.length
 share:∀ p∈x.Share,0≤p∧p<E.length
 slen:x.Share.length≤6
 at_:∀ (i:Nat) (a e:Int),x.Read[i]? = some a→E[i]? = some e→0≤a∧a≤e
structure GrOk (r:Readers_) : Prop where
 gen:0≤r.Generation∧r.Generation≤1000
 nr:1≤r.Readers.length∧r.Readers.length≤5
 ne:1≤r.Ends.length∧r.Ends.length≤6
 ends:∀ (i:Nat) (e:Int),r.Ends[i]? = some e→0≤e∧e≤100
 com:r.Committed.length=r.Ends.length
 cat_:∀ (i:Nat) (c e:Int),r.Committed[i]? = some c→r.Ends[i]? = some e→0≤c∧c≤e
 rd:∀ (i:Nat) (x:Reader),r.Readers[i]? = some x→RdOk x r.Ends

theorem y6 {α:Type}{l:List α}{i:Nat}(h:i<l.length) : ∃ x,l[i]? = some x:=⟨l[i],List.getElem?_eq_getElem h⟩
theorem qex {α:Type}{l:List α}{i:Nat}{x:α}(h:l[i]? = some x) : l.set i x=l:=by
 obtain ⟨hi,rfl⟩:=List.getElem?_eq_some_iff.1 h
 exact List.set_getElem_self hi
theorem wI {n:Int}(h0 : -1000000≤n)(h1:n≤1000000) : IntKind.wrap .i64 n=n:=yg (by omega) (by omega)
theorem GrOk.setRd {r:Readers_}(h:GrOk r){i:Nat}{x:Reader}{g:Int}(hg:0≤g∧g≤1000)(hx:RdOk x r.Ends) : GrOk ⟨g,r.Readers.set i x,r.Committed,r.Ends⟩:=by
 refine ⟨hg,by simpa using h.nr,h.ne,h.ends,h.com,h.cat_,fun j y hy=>?_⟩
 dsimp only at hy ⊢
 by_cases e:i=j
 ·subst e
  have hi:i<r.Readers.length:=by have:=(List.getElem?_eq_some_iff.1 hy).1; simpa using this
  rw [List.getElem?_set_self hi] at hy
  cases hy
  exact hx
 ·rw [List.getElem?_set_ne e] at hy
  exact h.rd j y hy
theorem RdOk.zero {E:List Int}{b:Bool}{g:Int}(hE:∀ (i:Nat) (e:Int),E[i]? = some e→0≤e∧e≤100) : RdOk ⟨b,g,[],List.replicate E.length 0⟩ E:=by
 refine ⟨by simp,by simp,by simp,fun i a e h1 h2=>?_⟩
 have:=hE i e h2
 have h3:a=0:=by
  have:=List.getElem?_eq_some_iff.1 h1
  obtain ⟨hi,e⟩:=this
  simpa using e.symm
 omega
def qbi (C:List Int)(s:List Int)(z:List Int) : List Int:=s.foldl (fun z p=>z.set p.toNat (C.getD p.toNat 0)) z
theorem qk2 {C:List Int} : ∀ {s z:List Int},(qbi C s z).length=z.length:=by
 intro s
 induction s with
 | nil=>intro z; rfl
 | cons p s ih=>intro z; unfold qbi at ih ⊢; rw [List.foldl_cons,ih]; simp
theorem qqc {C E:List Int}(hC:∀ (i:Nat) (c e:Int),C[i]? = some c→E[i]? = some e→0≤c∧c≤e)(hE:∀ (i:Nat) (e:Int),E[i]? = some e→0≤e∧e≤100) : ∀ {s z:List Int},(∀ (i:Nat) (a e:Int),z[i]? = some a→E[i]? = some e→0≤a∧a≤e)→∀ (i:Nat) (a e:Int),(qbi C s z)[i]? = some a→E[i]? = some e→0≤a∧a≤e:=by
 intro s
 induction s with
 | nil=>intro z h; exact h
 | cons p s ih =>
  intro z h
  unfold qbi at ih ⊢
  rw [List.foldl_cons]
  refine ih (fun i a e h1 h2=>?_)
  by_cases hp:p.toNat=i
  ·subst hp
   have hi:p.toNat<z.length:=by have:=(List.getElem?_eq_some_iff.1 h1).1; simpa using this
   rw [List.getElem?_set_self hi] at h1
   cases h1
   rw [List.getD_eq_getElem?_getD]
   cases hc:C[p.toNat]? with
   | none=>have:=hE _ _ h2; simp; omega
   | some c=>simpa using hC _ _ _ hc h2
  ·rw [List.getElem?_set_ne hp] at h1
   exact h i a e h1 h2
theorem qix {ρ:Type}{B:Nat→List Int→Option (Oc (List Int) ρ)}{C s z:List Int}{n:Nat}(hn:n≤6)(hs:∀ p∈s,0≤p∧p<n)(hl:s.length≤1048576)(hz:z.length=n)(hC:C.length=n)
  (hB:∀ (i:Nat) (w:List Int),B i w=((zz s (i:Int)).bind fun x=>((zz C x).bind fun c=>((zz w x).bind fun y=>(some (.nxt (List.set w x.toNat c))))))) :
  Ev (fun _=>yk B (s.length:Int) z) (.nxt (qbi C s z)):=by
 simp only [qdb]
 refine wv (B:=fun _ i _ w=>B i w) (by simp; omega) (fun i q w=>q.length=s.length - i∧i≤s.length∧w.length=n∧qbi C (s.drop i) w=qbi C s z) (by simp [hz]) (fun i x q w ⟨h1,h2,h3,h4⟩ => .inl ?_) (fun i w ⟨h1,h2,h3,h4⟩=>?_)
 ·have hi:i<s.length:=by simp only [List.length_cons] at h1; omega
  have hp:s[i]? = some s[i]:=List.getElem?_eq_getElem hi
  obtain ⟨p0,p1⟩:=hs s[i] (List.getElem_mem hi)
  obtain ⟨c,hc⟩:=y6 (l:=C) (i:=s[i].toNat) (by omega)
  obtain ⟨y,hy⟩:=y6 (l:=w) (i:=s[i].toNat) (by omega)
  have g1:zz C s[i]=some c:=by unfold zz; rw [if_pos p0]; exact hc
  have g2:zz w s[i]=some y:=by unfold zz; rw [if_pos p0]; exact hy
  refine ⟨w.set s[i].toNat c,Ev.of ?_,by simp only [List.length_cons] at h1; omega,by omega,by simpa using h3,?_⟩
  ·rw [hB,yw hp,Option.bind_some,g1,Option.bind_some,g2,Option.bind_some]
  ·rw [←h4,List.drop_eq_getElem_cons hi]
   unfold qbi
   rw [List.foldl_cons,List.getD_eq_getElem?_getD,hc]
   rfl
 ·have:i=s.length:=by simp at h1; omega
  subst this
  rw [←h4,List.drop_length]
  rfl
theorem qe1:∀ {l:List Reader} {i:Nat} {x y:Reader},l[i]? = some x→y.In=x.In→z3 (l.set i y)=z3 l:=by
 intro l
 induction l with
 | nil=>intro i x y h; simp at h
 | cons a r ih =>
  intro i x y h hy
  cases i with
  | zero=>simp at h; subst h; simp [z3,hy]
  | succ i=>simp only [List.set_cons_succ,z3]; rw [ih (by simpa using h) hy]
theorem qgw {l:List Reader}{i:Nat}{x y:Reader}{n k:Nat}(h:l[i]? = some x)(hy:y.In=x.In) : jv (l.set i y) n k=jv l n k:=by
 unfold jv
 rw [qe1 h hy]
 have e:z3 ((l.set i y).take k)=z3 (l.take k):=by
  by_cases hk:i<k
  ·rw [List.take_set]
   exact qe1 (by rw [List.getElem?_take_of_lt hk]; exact h) hy
  ·rw [List.take_set_of_le (by omega)]
 rw [e]

inductive StepRel (r:Readers_) (x:GroupStep) : Bool→Readers_→Prop where
 | no:StepRel r x false r
 | turn (b:Bool) : StepRel r x true ⟨r.Generation+1,r.Readers.set x.K.toNat ⟨b,0,[],List.replicate r.Ends.length 0⟩,r.Committed,r.Ends⟩
 | sync (y:Reader) (hy:r.Readers[x.K.toNat]? = some y) (hin:y.In=true) : StepRel r x true ⟨r.Generation,r.Readers.set x.K.toNat ⟨y.In,r.Generation,jv r.Readers r.Ends.length x.K.toNat,qbi r.Committed (jv r.Readers r.Ends.length x.K.toNat) (List.replicate r.Ends.length 0)⟩,r.Committed,r.Ends⟩
 | read (y:Reader) (v:Int) (hy:r.Readers[x.K.toNat]? = some y) (hp:x.Part∈y.Share) : StepRel r x true ⟨r.Generation,r.Readers.set x.K.toNat ⟨y.In,y.Generation,y.Share,y.Read.set x.Part.toNat v⟩,r.Committed,r.Ends⟩
 | commit (y:Reader) (m v:Int) (hk:0≤x.K) (hy:r.Readers[x.K.toNat]? = some y) (h5:x.Kind=5) (hg:y.Generation=r.Generation) (hm:r.Committed[x.Part.toNat]? = some m) (hv:m≤v) : StepRel r x true ⟨r.Generation,r.Readers,r.Committed.set x.Part.toNat v,r.Ends⟩
def StepOk (r:Readers_)(x:GroupStep)(b:Bool)(r':Readers_) : Prop :=
 Ev (fun _=>kd r x) (b,r')∧(∃ s,Ev (fun _=>jm r x) (s,b)∧(b=true→s=r'))∧(b=false→r'=r)∧GrOk r'∧StepRel r x b r'
theorem qng {r:Readers_}{x:GroupStep}(h:GrOk r)(hK:inI x.K) : ∃ b r',StepOk r x b r':=by
 have hgen:=h.gen
 have hnr:=h.nr
 have hne:=h.ne
 have hwl:IntKind.wrap .i64 ((List.length r.Readers:Int) - 1)=(List.length r.Readers:Int) - 1:=wI (by omega) (by omega)
 by_cases hg:((0≤x.K∧x.K<r.Readers.length)∧(x.Kind≠4→x.N=0)∧(x.Kind<4→x.Part=0))
 ·obtain ⟨⟨hk0,hk1⟩,hN,hP⟩:=hg
  obtain ⟨y,hy⟩:=y6 (l:=r.Readers) (i:=x.K.toNat) (by omega)
  have hyg:zz r.Readers x.K=some y:=by unfold zz; rw [if_pos hk0]; exact hy
  have hrd:=h.rd _ _ hy
  have hKn:x.K=((x.K.toNat:Nat) : Int):=by omega
  have sg:((((decide (x.K<0))||(decide ((List.length r.Readers:Int)≤x.K)))||((decide (x.Kind<4))&&(decide (x.Part≠0))))||((decide (x.Kind≠4))&&(decide (x.N≠0))))=false:=by
   simp only [Bool.or_eq_false_iff,Bool.and_eq_false_iff,decide_eq_false_iff_not]
   refine ⟨⟨⟨by omega,by omega⟩,?_⟩,?_⟩
   ·by_cases h4:x.Kind<4
    ·exact .inr (by simpa using hP h4)
    ·exact .inl h4
   ·by_cases h4:x.Kind=4
    ·exact .inl (by simpa using h4)
    ·exact .inr (by simpa using hN h4)
  by_cases h5:x.Kind<4∨x.Kind=4∨x.Kind=5
  ·have ig:(((!(zq x.K 0 (IntKind.wrap .i64 ((List.length r.Readers:Int) - 1))))||((decide (x.Kind≠4))&&(decide (x.N≠0))))||(((decide (x.Kind≠4))&&(decide (x.Kind≠5)))&&(decide (x.Part≠0))))=false:=by
    rw [hwl]
    simp only [zq,Bool.or_eq_false_iff,Bool.and_eq_false_iff,decide_eq_false_iff_not,Bool.not_eq_false',Bool.and_eq_true,decide_eq_true_eq]
    refine ⟨⟨⟨by omega,by omega⟩,?_⟩,?_⟩
    ·by_cases h4:x.Kind=4
     ·exact .inl (by simpa using h4)
     ·exact .inr (by simpa using hN h4)
    ·rcases h5 with h5 | h5 | h5
     ·exact .inr (by simpa using hP h5)
     ·exact .inl (.inl (by simpa using h5))
     ·exact .inl (.inr (by simpa using h5))
   -- a step that can't be done on either side
   have no:(Ev (fun _=>kd r x) (false,r))→(∃ s,Ev (fun _=>jm r x) (s,false))→∃ b r',StepOk r x b r':=fun a ⟨s,b⟩=>⟨false,r,a,⟨s,b,fun e=>by cases e⟩,fun _=>rfl,h,.no⟩
   have iA:∀ {o},Ev (fun _=>(if (y.In == (decide (x.Kind=1)))=true then (some (false,r)) else ((if (decide (x.Kind=1))=true then (some (decide (x.Kind=1))) else (some (decide (x.Kind=2)))).bind (fun s376=>z5 r x y s376)))) o→Ev (fun _=>kd r x) o:=by
    intro o ho
    unfold kd
    exact Ev.iteF ig (Ev.bindp hyg ho)
   cases hin:y.In with
   | false =>
    by_cases h1:x.Kind=1
    ·by_cases hg:r.Generation=1000
     ·refine no (iA (Ev.iteF (by simp [hin,h1]) (Ev.bindp (a:=true) (by simp [h1]) ?_))) ⟨r,?_⟩
      ·unfold z5
       exact Ev.iteT rfl (Ev.iteT (by simpa using hg) Ev.rfl)
      ·unfold jm
       refine Ev.iteF sg (Ev.bindp hyg (Ev.jn_ret ?_))
       exact Ev.iteF (by simp [hg]) (Ev.iteT (by simp [hin]) Ev.rfl)
     ·refine ⟨true,⟨r.Generation+1,r.Readers.set x.K.toNat ⟨true,0,[],List.replicate r.Ends.length 0⟩,r.Committed,r.Ends⟩,iA (Ev.iteF (by simp [hin,h1]) (Ev.bindp (a:=true) (by simp [h1]) ?_)),⟨_,?_,fun _=>rfl⟩,(fun e=>by cases e),h.setRd (by omega) (RdOk.zero h.ends),.turn _⟩
      ·unfold z5
       refine Ev.iteT rfl (Ev.iteF (by simpa using hg) (Ev.bindp (qcj (by omega)) ?_))
       rw [wI (by omega) (by omega)]
       simp only [h1,decide_true]
       exact Ev.rfl
      ·unfold jm
       refine Ev.iteF sg (Ev.bindp hyg (Ev.jn (s:=(⟨r.Generation+1,r.Readers,r.Committed,r.Ends⟩,⟨true,0,[],List.replicate r.Ends.length 0⟩,r.Committed)) ?_ (by unfold yz; exact Ev.rfl)))
       refine Ev.iteT (by simp [h1,hin]; omega) (Ev.bindp (qcj (by omega)) ?_)
       rw [wI (by omega) (by omega)]
       exact Ev.rfl
    ·refine no (iA (Ev.iteT (by simp [hin,h1]) Ev.rfl)) ⟨r,?_⟩
     unfold jm
     refine Ev.iteF sg (Ev.bindp hyg (Ev.jn_ret ?_))
     exact Ev.iteF (by simp [h1]) (Ev.iteT (by simp [hin]) Ev.rfl)
   | true =>
    have hmany:=qfd hy hin
    by_cases h1:x.Kind=1
    ·refine no (iA (Ev.iteT (by simp [hin,h1]) Ev.rfl)) ⟨r,?_⟩
     unfold jm
     refine Ev.iteF sg (Ev.bindp hyg (Ev.jn_ret ?_))
     refine Ev.iteF (by simp [hin]) (Ev.iteF (by simp [hin]) (Ev.iteF (by simp [h1]) (Ev.iteF (by simp [h1]) ?_)))
     refine Ev.bindp (a:=false) (by simp [h1]) (Ev.iteF rfl ?_)
     exact Ev.bindp (a:=false) (by simp [h1]) (Ev.iteF rfl Ev.rfl)
    have iB:∀ {o},Ev (fun _=>z5 r x y (decide (x.Kind=2))) o→Ev (fun _=>kd r x) o:=by
     intro o ho
     exact iA (Ev.iteF (by simp [hin,h1]) (Ev.bindp (a:=decide (x.Kind=2)) (by simp [h1]) ho))
    by_cases h2:x.Kind=2
    ·by_cases hg:r.Generation=1000
     ·refine no (iB ?_) ⟨r,?_⟩
      ·unfold z5
       exact Ev.iteT (by simpa using h2) (Ev.iteT (by simpa using hg) Ev.rfl)
      ·unfold jm
       refine Ev.iteF sg (Ev.bindp hyg (Ev.jn_ret ?_))
       refine Ev.iteF (by simp [hin]) (Ev.iteF (by simp [hin]) (Ev.iteF (by simp [hg]) (Ev.iteF (by simp [h2]) ?_)))
       refine Ev.bindp (a:=false) (by simp [h2]) (Ev.iteF rfl ?_)
       exact Ev.bindp (a:=false) (by simp [h2]) (Ev.iteF rfl Ev.rfl)
     ·refine ⟨true,⟨r.Generation+1,r.Readers.set x.K.toNat ⟨false,0,[],List.replicate r.Ends.length 0⟩,r.Committed,r.Ends⟩,iB ?_,⟨_,?_,fun _=>rfl⟩,(fun e=>by cases e),h.setRd (by omega) (RdOk.zero h.ends),.turn _⟩
      ·unfold z5
       refine Ev.iteT (by simpa using h2) (Ev.iteF (by simpa using hg) (Ev.bindp (qcj (by omega)) ?_))
       rw [wI (by omega) (by omega)]
       simp only [h1,decide_false]
       exact Ev.rfl
      ·unfold jm
       refine Ev.iteF sg (Ev.bindp hyg (Ev.jn (s:=(⟨r.Generation+1,r.Readers,r.Committed,r.Ends⟩,⟨false,0,[],List.replicate r.Ends.length 0⟩,r.Committed)) ?_ (by unfold yz; exact Ev.rfl)))
       refine Ev.iteF (by simp [hin]) (Ev.iteF (by simp [hin]) (Ev.iteT (by simp [h2]; omega) (Ev.bindp (qcj (by omega)) ?_)))
       rw [wI (by omega) (by omega)]
       exact Ev.rfl
    have iC:∀ {o},Ev (fun _=>z5 r x y false) o→Ev (fun _=>kd r x) o:=by
     intro o ho
     refine iB ?_
     simpa only [h2,decide_false] using ho
    by_cases h3:x.Kind=3
    ·by_cases hk:y.Generation=r.Generation
     ·refine no (iC ?_) ⟨r,?_⟩
      ·unfold z5
       exact Ev.iteF rfl (Ev.iteT (by simpa using h3) (Ev.iteT (by simpa using hk) Ev.rfl))
      ·unfold jm
       refine Ev.iteF sg (Ev.bindp hyg (Ev.jn_ret ?_))
       refine Ev.iteF (by simp [hin]) (Ev.iteF (by simp [hin]) (Ev.iteF (by simp [h2]) (Ev.iteF (by simp [hk]) ?_)))
       refine Ev.bindp (a:=false) (by simp [h3]) (Ev.iteF rfl ?_)
       exact Ev.bindp (a:=false) (by simp [h3]) (Ev.iteF rfl Ev.rfl)
     ·have hz:List.length (List.replicate r.Ends.length (0:Int))=r.Ends.length:=by simp
      have hsm:∀ p∈jv r.Readers r.Ends.length x.K.toNat,0≤p∧p<r.Ends.length:=fun p hp=>qe9 hp
      have hsl:(jv r.Readers r.Ends.length x.K.toNat).length≤6:=Nat.le_trans qe8 hne.2
      refine ⟨true,⟨r.Generation,r.Readers.set x.K.toNat ⟨y.In,r.Generation,jv r.Readers r.Ends.length x.K.toNat,qbi r.Committed (jv r.Readers r.Ends.length x.K.toNat) (List.replicate r.Ends.length 0)⟩,r.Committed,r.Ends⟩,iC ?_,⟨_,?_,fun _=>rfl⟩,(fun e=>by cases e),h.setRd hgen ⟨by rw [qk2]; exact hz,hsm,hsl,qqc h.cat_ h.ends (RdOk.zero (b:=true) (g:=0) h.ends).at_⟩,.sync y hy hin⟩
      ·unfold z5
       refine Ev.iteF rfl (Ev.iteT (by simpa using h3) (Ev.iteF (by simpa using hk) ?_))
       have hsh:=qgy (r:=⟨r.Generation,r.Readers.set x.K.toNat ⟨y.In,r.Generation,y.Share,y.Read⟩,r.Committed,r.Ends⟩) (k:=x.K.toNat) (by dsimp only; rw [List.length_set]; omega) (by dsimp only; omega) (by dsimp only; rw [List.length_set]; omega) (by dsimp only; rw [qe1 hy (y:=⟨y.In,r.Generation,y.Share,y.Read⟩) rfl]; exact hmany)
       dsimp only at hsh
       rw [qgw hy (y:=⟨y.In,r.Generation,y.Share,y.Read⟩) rfl,← hKn] at hsh
       refine Ev.bind hsh (Ev.bindp (qcj (by omega)) (Ev.jn (qix hne.2 hsm (by omega) hz h.com (fun i w=>rfl)) Ev.rfl))
      ·unfold jm
       refine Ev.iteF sg (Ev.bindp hyg (Ev.jn (s:=(r,⟨y.In,r.Generation,jv r.Readers r.Ends.length x.K.toNat,qbi r.Committed (jv r.Readers r.Ends.length x.K.toNat) (List.replicate r.Ends.length 0)⟩,r.Committed)) ?_ (by unfold yz; exact Ev.rfl)))
       refine Ev.iteF (by simp [hin]) (Ev.iteF (by simp [hin]) (Ev.iteF (by simp [h2]) (Ev.iteT (by simp [h3,hk]) ?_)))
       have hsh:=qg9 (r:=r) (k:=x.K.toNat) (by omega) (by omega) (by omega)
       rw [←hKn] at hsh
       exact Ev.bind hsh (Ev.bindp (qcj (by omega)) (Ev.jn (qix hne.2 hsm (by omega) hz h.com (fun i w=>rfl)) Ev.rfl))
    have spre:∀ {o:Oc (Readers_ × Reader × (List Int)) (Readers_ × Bool)} {G:Option (Oc (Readers_ × Reader × (List Int)) (Readers_ × Bool))} {A B C D:Option (Oc (Readers_ × Reader × (List Int)) (Readers_ × Bool))},Ev (fun _:Nat=>G) o→Ev (fun _:Nat=>(if (((decide (x.Kind=1))&&(!y.In))&&(decide (r.Generation<1000)))=true then A else (if (!y.In)=true then B else (if ((decide (x.Kind=2))&&(decide (r.Generation<1000)))=true then C else (if ((decide (x.Kind=3))&&(decide (y.Generation≠r.Generation)))=true then D else G))))) o:=by
     intro o G A B C D hG
     exact Ev.iteF (by simp [hin]) (Ev.iteF (by simp [hin]) (Ev.iteF (by simp [h2]) (Ev.iteF (by simp [h3]) hG)))
    obtain ⟨c,hc1,hc2⟩:=(Contains_int_is (l:=y.Share) (v:=x.Part) (by have:=hrd.slen; omega)).two (by
     have:=qg6 (l:=y.Share) (v:=x.Part) (by have:=hrd.slen; omega)
     exact this)
    by_cases h4:x.Kind=4
    ·by_cases hcc:c=true∧1≤x.N
     ·obtain ⟨rfl,hn⟩:=hcc
      have hmem:x.Part∈y.Share:=by
       obtain ⟨b,e,hb⟩:=Contains_int_is (l:=y.Share) (v:=x.Part) (by have:=hrd.slen; omega)
       exact hb.1 (e.two hc1)
      obtain ⟨p0,p1⟩:=hrd.share _ hmem
      obtain ⟨a,ha⟩:=y6 (l:=y.Read) (i:=x.Part.toNat) (by rw [hrd.read]; omega)
      obtain ⟨e,he⟩:=y6 (l:=r.Ends) (i:=x.Part.toNat) (by omega)
      have ga:zz y.Read x.Part=some a:=by unfold zz; rw [if_pos p0]; exact ha
      have ge:zz r.Ends x.Part=some e:=by unfold zz; rw [if_pos p0]; exact he
      obtain ⟨a0,a1⟩:=hrd.at_ _ _ _ ha he
      obtain ⟨e0,e1⟩:=h.ends _ _ he
      have hval:IntKind.wrap .i64 (a+(mnI x.N (IntKind.wrap .i64 (e - a))))=if e - a≤x.N then e else a+x.N:=by
       rw [wI (n:=e - a) (by omega) (by omega)]
       unfold mnI
       by_cases hl:e - a<x.N
       ·rw [if_pos hl,if_pos (by omega),wI (by omega) (by omega)]; omega
       ·rw [if_neg hl,wI (by omega) (by omega)]
        split
        ·omega
        ·rfl
      refine ⟨true,⟨r.Generation,r.Readers.set x.K.toNat ⟨y.In,y.Generation,y.Share,y.Read.set x.Part.toNat (if e - a≤x.N then e else a+x.N)⟩,r.Committed,r.Ends⟩,iC ?_,⟨_,?_,fun _=>rfl⟩,(fun e=>by cases e),h.setRd hgen ⟨by simpa using hrd.read,hrd.share,hrd.slen,fun i b f h1 h2=>?_⟩,.read y _ hy hmem⟩
      ·unfold z5
       refine Ev.iteF rfl (Ev.iteF (by simpa using h3) (Ev.iteT (by simpa using h4) (Ev.bind hc1 (Ev.iteF (by simp; omega) (Ev.bindp ga (Ev.bindp ge ?_))))))
       rw [hval]
       exact Ev.rfl
      ·unfold jm
       refine Ev.iteF sg (Ev.bindp hyg (Ev.jn (s:=(r,⟨y.In,y.Generation,y.Share,y.Read.set x.Part.toNat (if e - a≤x.N then e else a+x.N)⟩,r.Committed)) (spre ?_) (by unfold yz; exact Ev.rfl)))
       refine Ev.bind (a:=true) (Ev.iteT (by simpa using h4) (Ev.bind hc2 Ev.rfl)) (Ev.iteT (by simpa using hn) (Ev.bindp ge (Ev.bindp ga ?_)))
       rw [wI (n:=e - a) (by omega) (by omega)]
       by_cases hl:e - a≤x.N
       ·rw [if_pos (by simpa using hl),if_pos hl]; exact Ev.rfl
       ·rw [if_neg (by simpa using hl),if_neg hl,wI (by omega) (by omega)]; exact Ev.rfl
      ·by_cases hi:x.Part.toNat=i
       ·subst hi
        have hlt:x.Part.toNat<y.Read.length:=by rw [hrd.read]; omega
        rw [List.getElem?_set_self hlt] at h1
        rw [he] at h2
        cases h1; cases h2
        split <;> omega
       ·rw [List.getElem?_set_ne hi] at h1
        exact hrd.at_ _ _ _ h1 h2
     ·have hb:(!c||decide (x.N<1))=true:=by
       cases c with
       | false=>rfl
       | true=>simp at hcc; simp; omega
      refine no (iC ?_) ⟨r,?_⟩
      ·unfold z5
       exact Ev.iteF rfl (Ev.iteF (by simpa using h3) (Ev.iteT (by simpa using h4) (Ev.bind hc1 (Ev.iteT hb Ev.rfl))))
      ·unfold jm
       refine Ev.iteF sg (Ev.bindp hyg (Ev.jn_ret (spre ?_)))
       refine Ev.bind (a:=c) (Ev.iteT (by simpa using h4) (Ev.bind hc2 Ev.rfl)) (Ev.iteF (by
        cases c with
        | false=>rfl
        | true=>simp at hb; simp; omega) ?_)
       exact Ev.bindp (a:=false) (by simp [h4]) (Ev.iteF rfl Ev.rfl)
    by_cases h6:x.Kind=5
    ·by_cases hcc:c=true∧y.Generation=r.Generation
     ·obtain ⟨rfl,hn⟩:=hcc
      have hmem:x.Part∈y.Share:=by
       obtain ⟨b,e,hb⟩:=Contains_int_is (l:=y.Share) (v:=x.Part) (by have:=hrd.slen; omega)
       exact hb.1 (e.two hc1)
      obtain ⟨p0,p1⟩:=hrd.share _ hmem
      obtain ⟨a,ha⟩:=y6 (l:=y.Read) (i:=x.Part.toNat) (by rw [hrd.read]; omega)
      obtain ⟨e,he⟩:=y6 (l:=r.Ends) (i:=x.Part.toNat) (by omega)
      obtain ⟨m,hm⟩:=y6 (l:=r.Committed) (i:=x.Part.toNat) (by rw [h.com]; omega)
      have ga:zz y.Read x.Part=some a:=by unfold zz; rw [if_pos p0]; exact ha
      have gm:zz r.Committed x.Part=some m:=by unfold zz; rw [if_pos p0]; exact hm
      obtain ⟨a0,a1⟩:=hrd.at_ _ _ _ ha he
      obtain ⟨m0,m1⟩:=h.cat_ _ _ _ hm he
      refine ⟨true,⟨r.Generation,r.Readers,r.Committed.set x.Part.toNat (mxI m a),r.Ends⟩,iC ?_,?_,(fun e=>by cases e),⟨hgen,hnr,hne,h.ends,by simpa using h.com,fun i b f h1 h2=>?_,h.rd⟩,.commit y m _ hk0 hy h6 hn hm (by unfold mxI; split <;> omega)⟩
      ·unfold z5
       exact Ev.iteF rfl (Ev.iteF (by simpa using h3) (Ev.iteF (by simpa using h4) (Ev.iteT (by simpa using h6) (Ev.iteF (by simp [hn]) (Ev.bind hc1 (Ev.iteF rfl (Ev.bindp gm (Ev.bindp ga Ev.rfl))))))))
      ·by_cases hl:m<a
       ·refine ⟨_,?_,fun _=>rfl⟩
        unfold jm
        refine Ev.iteF sg (Ev.bindp hyg (Ev.jn (s:=(⟨r.Generation,r.Readers,r.Committed.set x.Part.toNat a,r.Ends⟩,y,r.Committed.set x.Part.toNat a)) (spre ?_) ?_))
        ·refine Ev.bind (a:=false) (Ev.iteF (by simpa using h4) Ev.rfl) (Ev.iteF rfl ?_)
         refine Ev.bind (a:=true) (Ev.iteT (by simp [h6,hn]) (Ev.bind hc2 Ev.rfl)) (Ev.iteT rfl (Ev.bindp ga (Ev.bindp gm (Ev.iteT (by simpa using hl) Ev.rfl))))
        ·unfold yz
         dsimp only
         rw [qex hy,show mxI m a=a by unfold mxI; rw [if_pos (by omega)]]
         exact Ev.rfl
       ·refine ⟨_,?_,fun _=>rfl⟩
        unfold jm
        refine Ev.iteF sg (Ev.bindp hyg (Ev.jn (s:=(r,y,r.Committed)) (spre ?_) ?_))
        ·refine Ev.bind (a:=false) (Ev.iteF (by simpa using h4) Ev.rfl) (Ev.iteF rfl ?_)
         refine Ev.bind (a:=true) (Ev.iteT (by simp [h6,hn]) (Ev.bind hc2 Ev.rfl)) (Ev.iteT rfl (Ev.bindp ga (Ev.bindp gm (Ev.iteF (by simpa using hl) Ev.rfl))))
        ·unfold yz
         dsimp only
         rw [qex hy,show mxI m a=m by unfold mxI; rw [if_neg (by omega)],qex hm]
         exact Ev.rfl
      ·by_cases hi:x.Part.toNat=i
       ·subst hi
        have hlt:x.Part.toNat<r.Committed.length:=by rw [h.com]; omega
        dsimp only at h1 h2
        rw [List.getElem?_set_self hlt] at h1
        rw [he] at h2
        cases h1; cases h2
        unfold mxI
        split <;> omega
       ·dsimp only at h1 h2
        rw [List.getElem?_set_ne hi] at h1
        exact h.cat_ _ _ _ h1 h2
     ·refine no (iC ?_) ⟨r,?_⟩
      ·unfold z5
       refine Ev.iteF rfl (Ev.iteF (by simpa using h3) (Ev.iteF (by simpa using h4) (Ev.iteT (by simpa using h6) ?_)))
       by_cases hn:y.Generation=r.Generation
       ·have:c=false:=by
         cases c with
         | false=>rfl
         | true=>exact absurd ⟨rfl,hn⟩ hcc
        subst this
        exact Ev.iteF (by simp [hn]) (Ev.bind hc1 (Ev.iteT rfl Ev.rfl))
       ·exact Ev.iteT (by simp [hn]) Ev.rfl
      ·unfold jm
       refine Ev.iteF sg (Ev.bindp hyg (Ev.jn_ret (spre ?_)))
       refine Ev.bind (a:=false) (Ev.iteF (by simpa using h4) Ev.rfl) (Ev.iteF rfl ?_)
       by_cases hn:y.Generation=r.Generation
       ·have:c=false:=by
         cases c with
         | false=>rfl
         | true=>exact absurd ⟨rfl,hn⟩ hcc
        subst this
        exact Ev.bind (a:=false) (Ev.iteT (by simp [h6,hn]) (Ev.bind hc2 Ev.rfl)) (Ev.iteF rfl Ev.rfl)
       ·exact Ev.bind (a:=false) (Ev.iteF (by simp [hn]) Ev.rfl) (Ev.iteF rfl Ev.rfl)
    ·refine no (iC ?_) ⟨r,?_⟩
     ·unfold z5
      exact Ev.iteF rfl (Ev.iteF (by simpa using h3) (Ev.iteF (by simpa using h4) (Ev.iteF (by simpa using h6) Ev.rfl)))
     ·unfold jm
      refine Ev.iteF sg (Ev.bindp hyg (Ev.jn_ret (spre ?_)))
      refine Ev.bind (a:=false) (Ev.iteF (by simpa using h4) Ev.rfl) (Ev.iteF rfl ?_)
      exact Ev.bind (a:=false) (Ev.iteF (by simp [h6]) Ev.rfl) (Ev.iteF rfl Ev.rfl)
  ·-- no such kind
   have n1:x.Kind≠1:=by omega
   have n2:x.Kind≠2:=by omega
   have n3:x.Kind≠3:=by omega
   have n4:x.Kind≠4:=by omega
   have n5:x.Kind≠5:=by omega
   refine ⟨false,r,?_,⟨r,?_,fun e=>by cases e⟩,fun _=>rfl,h,.no⟩
   ·unfold kd
    cases hb:(((!(zq x.K 0 (IntKind.wrap .i64 ((List.length r.Readers:Int) - 1))))||((decide (x.Kind≠4))&&(decide (x.N≠0))))||(((decide (x.Kind≠4))&&(decide (x.Kind≠5)))&&(decide (x.Part≠0)))) with
    | true=>exact Ev.iteT rfl Ev.rfl
    | false =>
     refine Ev.iteF rfl (Ev.bindp hyg ?_)
     cases hin:y.In with
     | false=>exact Ev.iteT (by simp [n1]) Ev.rfl
     | true =>
      refine Ev.iteF (by simp [n1]) (Ev.bindp (a:=false) (by simp [n1,n2]) ?_)
      unfold z5
      exact Ev.iteF rfl (Ev.iteF (by simpa using n3) (Ev.iteF (by simpa using n4) (Ev.iteF (by simpa using n5) Ev.rfl)))
   ·unfold jm
    refine Ev.iteF sg (Ev.bindp hyg (Ev.jn_ret ?_))
    refine Ev.iteF (by simp [n1]) ?_
    cases hin:y.In with
    | false=>exact Ev.iteT (by simp) Ev.rfl
    | true =>
     refine Ev.iteF (by simp) (Ev.iteF (by simp [n2]) (Ev.iteF (by simp [n3]) ?_))
     refine Ev.bindp (a:=false) (by simp [n4]) (Ev.iteF rfl ?_)
     exact Ev.bindp (a:=false) (by simp [n5]) (Ev.iteF rfl Ev.rfl)
 ·refine ⟨false,r,?_,⟨r,?_,fun e=>by cases e⟩,fun _=>rfl,h,.no⟩
  ·unfold kd
   by_cases hkk:0≤x.K∧x.K<r.Readers.length
   ·by_cases hnn:x.Kind≠4→x.N=0
    ·have hpp:¬ (x.Kind<4→x.Part=0):=fun hp=>hg ⟨hkk,hnn,hp⟩
     obtain ⟨k4,kp⟩:=Classical.not_imp.1 hpp
     exact Ev.iteT (by
      have a1:decide (x.Kind≠4)=true:=by simp only [decide_eq_true_eq]; omega
      have a2:decide (x.Kind≠5)=true:=by simp only [decide_eq_true_eq]; omega
      have a3:decide (x.Part≠0)=true:=by simpa using kp
      rw [a1,a2,a3]; simp) Ev.rfl
    ·obtain ⟨k4,kp⟩:=Classical.not_imp.1 hnn
     exact Ev.iteT (by
      have a1:decide (x.Kind≠4)=true:=by simpa using k4
      have a3:decide (x.N≠0)=true:=by simpa using kp
      rw [a1,a3]; simp) Ev.rfl
   ·refine Ev.iteT ?_ Ev.rfl
    have:zq x.K 0 (IntKind.wrap .i64 ((List.length r.Readers:Int) - 1))=false:=by
     rw [hwl]
     unfold zq
     simp only [Bool.and_eq_false_iff,decide_eq_false_iff_not]
     omega
    rw [this]
    simp
  ·unfold jm
   refine Ev.iteT ?_ Ev.rfl
   simp only [Bool.or_eq_true,Bool.and_eq_true,decide_eq_true_eq,ne_eq]
   by_cases hkk:0≤x.K∧x.K<r.Readers.length
   ·by_cases hnn:x.Kind≠4→x.N=0
    ·have hpp:¬ (x.Kind<4→x.Part=0):=fun hp=>hg ⟨hkk,hnn,hp⟩
     obtain ⟨k4,kp⟩:=Classical.not_imp.1 hpp
     exact .inl (.inr ⟨k4,kp⟩)
    ·obtain ⟨k4,kp⟩:=Classical.not_imp.1 hnn
     exact .inr ⟨k4,kp⟩
   ·refine .inl (.inl ?_)
    omega
theorem GrOk.nn_le {r:Readers_}(h:GrOk r) : r.nn≤1000:=by
 have hs:∀ {l:List Reader},(∀ (i:Nat) (x:Reader),l[i]? = some x→x.nn≤12)→kr Reader.nn l≤12*l.length:=by
  intro l
  induction l with
  | nil=>intro _; simp [kr]
  | cons a q ih =>
   intro hh
   have h0:=hh 0 a rfl
   have h1:=ih (fun i x hx=>hh (i+1) x (by simpa using hx))
   simp only [kr,List.length_cons]
   omega
 have h1:=hs (l:=r.Readers) (fun i x hx=>by
  have hr:=h.rd i x hx
  have h2:x.nn=x.Share.length+(x.Read.length+0):=rfl
  have:=hr.slen
  have:=hr.read
  have:=h.ne
  omega)
 have h2:r.nn=nnL Reader.nn r.Readers+(r.Committed.length+(r.Ends.length+0)):=rfl
 have h3:nnL Reader.nn r.Readers=r.Readers.length+kr Reader.nn r.Readers:=rfl
 have:=h.nr
 have:=h.ne
 have:=h.com
 omega
end Go.Proofs.Ytdhibknhejhfaaa.X
