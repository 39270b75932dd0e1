/- A good group stays good; shares of those that are in do not meet. -/
import Derived.Test.YtdhibknhejhfaaaXEL14d
set_option linter.unusedVariables false
set_option linter.unusedSimpArgs false
namespace Go.Proofs.Ytdhibknhejhfaaa.X
open Go

theorem qpe {l:List Int}{n:Int}(hp:l.Pairwise (· < ·))(hm:∀ z∈l,0≤z∧z<n) : qe0 l n:=by
 intro i x hx
 obtain ⟨hi,rfl⟩:=List.getElem?_eq_some_iff.1 hx
 refine ⟨(hm _ (List.getElem_mem hi)).1,(hm _ (List.getElem_mem hi)).2,fun y h0 hy=>?_⟩
 obtain ⟨hj,rfl⟩:=List.getElem?_eq_some_iff.1 hy
 exact List.pairwise_iff_getElem.1 hp (i - 1) i hj hi (by omega)
theorem qnz {l:List Reader}{n k:Nat} : qe0 (jv l n k) n:=qpe qh1 (fun z hz=>qe9 hz)
theorem qnv {C:List Int}{p:Nat} : ∀ {s z:List Int},(∀ q∈s,q.toNat≠p)→(qbi C s z)[p]? = z[p]? := by
 intro s
 induction s with
 | nil=>intro z _; rfl
 | cons q s ih =>
  intro z h
  unfold qbi at ih ⊢
  rw [List.foldl_cons,ih (fun q hq=>h q (by simp [hq])),List.getElem?_set_ne (h q (by simp))]
theorem qjy {l:List Reader}{i n k:Nat}{x:Reader}{b:Bool}{g:Int}{s z:List Int}(h:l[i]? = some x)(hb:b=x.In) : jv (l.set i ⟨b,g,s,z⟩) n k=jv l n k:=qgw h hb
theorem qnj {r:Readers_}{k i:Nat}{x y z:Reader}{C:List Int}(h:rdP r k z)(hy:r.Readers[i]? = some y)(hx:x.In=y.In) : rdP ⟨r.Generation,r.Readers.set i x,C,r.Ends⟩ k z:=by
 unfold rdP at h ⊢
 dsimp only
 rw [qgw hy hx]
 exact h
theorem qib {n p:Nat}{a:Int}(h:(List.replicate n (0:Int))[p]? = some a) : a=0:=by
 obtain ⟨hi,e⟩:=List.getElem?_eq_some_iff.1 h
 simpa using e.symm
theorem qt2 {r:Readers_}{k:Nat}{b:Bool}(hE:qjo r.Ends)(hg:r.Generation≠0)(h0:0≤r.Generation) : rdP r k ⟨b,0,[],List.replicate r.Ends.length 0⟩:=by
 refine ⟨⟨Int.le_refl _,h0⟩,fun i x h=>by simp at h,by simp,fun _=>⟨rfl,rfl⟩,fun p a ha=>⟨fun e he=>?_,fun _=>qib ha⟩,fun _ hgg=>absurd hgg (Ne.symm hg)⟩
 have:=qib ha
 have:=hE p e he
 omega
theorem ql7 {r r':Readers_}{x:GroupStep}{b:Bool}(h:grP r)(hr:StepRel r x b r')(h':GrOk r') : grP r':=by
 have hh:=h
 obtain ⟨⟨a1,a2,a3,a4⟩,⟨a5,a6⟩,a7⟩:=h
 have top:((1≤r'.Readers.length∧r'.Readers.length≤5)∧(1≤r'.Ends.length∧r'.Ends.length≤6)∧r'.Committed.length=r'.Ends.length∧(0≤r'.Generation∧r'.Generation≤1000)) ∧
   (qjo r'.Ends∧∀ (p:Nat) (c:Int),r'.Committed[p]? = some c→∀ e,r'.Ends[p]? = some e→0≤c∧c≤e):=⟨⟨h'.nr,h'.ne,h'.com,h'.gen⟩,h'.ends,fun p c hc e he=>h'.cat_ p c e hc he⟩
 refine ⟨top.1,top.2,?_⟩
 cases hr with
 | no=>exact a7
 | turn c =>
  intro k z hz
  dsimp only at hz ⊢
  by_cases e:x.K.toNat=k
  ·subst e
   have hi:x.K.toNat<r.Readers.length:=by have:=(List.getElem?_eq_some_iff.1 hz).1; simpa using this
   rw [List.getElem?_set_self hi] at hz
   cases hz
   exact qt2 (r:=⟨r.Generation+1,_,r.Committed,r.Ends⟩) a5 (by show r.Generation+1≠0; omega) (by show 0≤r.Generation+1; omega)
  ·rw [List.getElem?_set_ne e] at hz
   obtain ⟨c1,c2,c3,c4,c5,c6⟩:=a7 k z hz
   exact ⟨⟨c1.1,by show z.Generation≤r.Generation+1; omega⟩,c2,c3,c4,c5,fun _ hg=>absurd (show z.Generation=r.Generation+1 from hg) (by omega)⟩
 | sync y hy hin =>
  intro k z hz
  dsimp only at hz
  by_cases e:x.K.toNat=k
  ·subst e
   have hi:x.K.toNat<r.Readers.length:=by have:=(List.getElem?_eq_some_iff.1 hz).1; simpa using this
   have hrd:=(h'.rd _ _ hz)
   rw [List.getElem?_set_self hi] at hz
   cases hz
   refine ⟨⟨a4.1,Int.le_refl _⟩,qnz,hrd.read,fun hf=>(by rw [hin] at hf; cases hf),fun p a ha=>⟨fun e he=>hrd.at_ p a e ha he,fun hp=>?_⟩,fun _ _=>?_⟩
   ·dsimp only at ha
    rw [qnv (fun q hq hqp=>hp (by have:=qe9 hq; rw [show (p:Int)=q by omega]; exact hq))] at ha
    exact qib ha
   ·exact (qjy hy rfl).symm
  ·rw [List.getElem?_set_ne e] at hz
   exact qnj (a7 k z hz) hy rfl
 | read y v hy hp =>
  intro k z hz
  dsimp only at hz
  by_cases e:x.K.toNat=k
  ·subst e
   have hi:x.K.toNat<r.Readers.length:=by have:=(List.getElem?_eq_some_iff.1 hz).1; simpa using this
   have hrd:=(h'.rd _ _ hz)
   rw [List.getElem?_set_self hi] at hz
   cases hz
   obtain ⟨c1,c2,c3,c4,c5,c6⟩:=a7 _ y hy
   refine ⟨c1,c2,hrd.read,c4,fun p a ha=>⟨fun e he=>hrd.at_ p a e ha he,fun hq=>?_⟩,fun h1 h2=>?_⟩
   ·dsimp only at ha hq
    have hpos:=(qg3 c2 _ hp).1
    rw [List.getElem?_set_ne (fun hne=>hq (by rw [show (p:Int)=x.Part by omega]; exact hp))] at ha
    exact (c5 p a ha).2 hq
   ·exact (c6 h1 h2).trans (qjy hy rfl).symm
  ·rw [List.getElem?_set_ne e] at hz
   exact qnj (a7 k z hz) hy rfl
 | commit y m v hk hy h5 hg hm hv=>exact a7

/-! shares -/
theorem qmi {α:Type}{p:Nat→α→Bool} : ∀ {l:List α} {i:Nat} {z:Int},z∈uh p l i↔∃ (j:Nat) (x:α),l[j]? = some x∧p (i+j) x=true∧z=((i+j:Nat) : Int):=by
 intro l
 induction l with
 | nil=>intro i z; simp [uh]
 | cons a r ih =>
  intro i z
  simp only [uh]
  constructor
  ·intro h
   have key:z∈uh p r (i+1)→∃ (j:Nat) (x:α),(a::r)[j]? = some x∧p (i+j) x=true∧z=((i+j:Nat) : Int):=by
    intro h
    obtain ⟨j,x,h1,h2,h3⟩:=ih.1 h
    exact ⟨j+1,x,by simpa using h1,by rw [show i+(j+1)=i+1+j by omega]; exact h2,by rw [h3]; congr 1; omega⟩
   split at h
   ·rename_i hp
    rcases List.mem_cons.1 h with rfl | h
    ·exact ⟨0,a,rfl,hp,rfl⟩
    ·exact key h
   ·exact key h
  ·rintro ⟨j,x,h1,h2,h3⟩
   cases j with
   | zero =>
    simp at h1
    subst h1
    rw [if_pos (by simpa using h2)]
    simp [h3]
   | succ j =>
    have:z∈uh p r (i+1):=ih.2 ⟨j,x,by simpa using h1,by rw [show i+1+j=i+(j+1) by omega]; exact h2,by rw [h3]; congr 1; omega⟩
    split
    ·exact List.mem_cons_of_mem _ this
    ·exact this
theorem qey {l:List Reader}{n k:Nat}{z:Int} : z∈jv l n k↔∃ q:Nat,z=(q:Int)∧q<n∧0<z3 l∧(q:Int).tmod (z3 l:Int)=(z3 (l.take k) : Int):=by
 unfold jv
 rw [qmi]
 constructor
 ·rintro ⟨j,x,h1,h2,h3⟩
  have hj:j<n:=by have:=(List.getElem?_eq_some_iff.1 h1).1; simpa using this
  simp only [decide_eq_true_eq,Nat.zero_add] at h2 h3
  exact ⟨j,h3,hj,h2.1,h2.2⟩
 ·rintro ⟨q,h1,h2,h3,h4⟩
  exact ⟨q,(),by simp [h2],by simp only [decide_eq_true_eq,Nat.zero_add]; exact ⟨h3,h4⟩,by rw [h1,Nat.zero_add]⟩
theorem qim {l:List Reader}{i j:Nat}(h:i≤j) : z3 (l.take i)≤z3 (l.take j):=by
 obtain ⟨d,rfl⟩ : ∃ d,j=i+d:=⟨j - i,by omega⟩
 clear h
 induction d with
 | zero=>exact Nat.le_refl _
 | succ d ih =>
  rw [←Nat.add_assoc]
  cases hx:l[i+d]? with
  | none =>
   have:l.length≤i+d:=List.getElem?_eq_none_iff.1 hx
   rw [List.take_of_length_le (show l.length≤i+d+1 by omega)]
   rwa [List.take_of_length_le this] at ih
  | some x=>rw [u3 hx]; omega
theorem qjq {l:List Reader}{n i j:Nat}{x y:Reader}(hi:l[i]? = some x)(hj:l[j]? = some y)(hx:x.In=true)(hy:y.In=true){p:Int}(h1:p∈jv l n i)(h2:p∈jv l n j) : i=j:=by
 obtain ⟨q,e1,_,_,g1⟩:=qey.1 h1
 obtain ⟨q',e2,_,_,g2⟩:=qey.1 h2
 have:q'=q:=by omega
 subst this
 have he:z3 (l.take i)=z3 (l.take j):=by omega
 have s1:=u3 hi
 have s2:=u3 hj
 rw [if_pos hx] at s1
 rw [if_pos hy] at s2
 rcases Nat.lt_trichotomy i j with h | h | h
 ·have:=qim (l:=l) (show i+1≤j by omega); omega
 ·exact h
 ·have:=qim (l:=l) (show j+1≤i by omega); omega
end Go.Proofs.Ytdhibknhejhfaaa.X
