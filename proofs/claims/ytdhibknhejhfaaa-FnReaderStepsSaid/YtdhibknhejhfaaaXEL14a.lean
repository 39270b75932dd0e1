/- Groups that read: shares, copies, and what a step keeps. -/
import Derived.Test.YtdhibknhejhfaaaXEK
import Derived.Test.YtdhibknhejhfaaaXELAhas
set_option linter.unusedVariables false
set_option linter.unusedSimpArgs false
namespace Go.Proofs.Ytdhibknhejhfaaa.X
open Go

/-! shares -/
def z3:List Reader→Nat
 | []=>0
 | x::r=>(if x.In=true then 1 else 0)+z3 r
theorem qhz:∀ {l:List Reader},z3 l≤l.length:=by
 intro l
 induction l with
 | nil=>exact Nat.le_refl _
 | cons x r ih=>simp only [z3,List.length_cons]; split <;> omega
theorem u3:∀ {l:List Reader} {i:Nat} {x:Reader},l[i]? = some x→z3 (l.take (i+1))=z3 (l.take i)+(if x.In=true then 1 else 0):=by
 intro l
 induction l with
 | nil=>intro i x h; simp at h
 | cons a r ih =>
  intro i x h
  cases i with
  | zero=>simp at h; subst h; simp [z3]
  | succ i =>
   simp only [List.take_succ_cons,z3]
   rw [ih (by simpa using h)]
   omega
theorem qfd:∀ {l:List Reader} {i:Nat} {x:Reader},l[i]? = some x→x.In=true→0<z3 l:=by
 intro l
 induction l with
 | nil=>intro i x h; simp at h
 | cons a r ih =>
  intro i x h hx
  cases i with
  | zero=>simp at h; subst h; simp [z3,hx]; omega
  | succ i=>have:=ih (i:=i) (by simpa using h) hx; simp only [z3]; omega
def jv (l:List Reader)(n k:Nat) : List Int:=uh (fun p _=>decide (0<z3 l∧(p:Int).tmod (z3 l:Int)=(z3 (l.take k) : Int))) (List.replicate n ()) 0
theorem qlg {α:Type}{p:Nat→α→Bool} : ∀ {l:List α} {i:Nat} {z:Int},z∈uh p l i→(i:Int)≤z∧z<i+l.length:=by
 intro l
 induction l with
 | nil=>intro i z h; simp [uh] at h
 | cons x r ih =>
  intro i z h
  simp only [uh] at h
  simp only [List.length_cons]
  split at h
  ·rcases List.mem_cons.1 h with rfl | h
   ·omega
   ·have:=ih h; omega
  ·have:=ih h; omega
theorem qe9 {l:List Reader}{n k:Nat}{z:Int}(h:z∈jv l n k) : 0≤z∧z<n:=by
 have:=qlg h
 simp at this
 omega
theorem qe8 {l:List Reader}{n k:Nat} : (jv l n k).length≤n:=by
 have:=qm3 (p:=fun p _=>decide (0<z3 l∧(p:Int).tmod (z3 l:Int)=(z3 (l.take k) : Int))) (l:=List.replicate n ()) (i:=0)
 unfold jv
 simpa using this
theorem qgy {r:Readers_}{k:Nat}(hr:r.Readers.length≤1048576)(he:r.Ends.length≤1048576)(hk:k<r.Readers.length)(hm:0<z3 r.Readers) : Ev (fun _=>ya r (k:Int)) (jv r.Readers r.Ends.length k):=by
 unfold ya
 refine Ev.jn (s:=((z3 r.Readers:Int),(z3 (r.Readers.take k) : Int))) (wv (by omega) (fun i q s=>r.Readers.drop i=q∧s=((z3 (r.Readers.take i) : Int),(z3 (r.Readers.take (min i k)) : Int))) ⟨rfl,by simp [z3]⟩ (fun i x q s ⟨hq,hs⟩ => .inl ?_) (fun i s ⟨hq,hs⟩=>?_)) ?_
 ·subst hs
  have hx:r.Readers[i]? = some x:=by have:=congrArg (fun z=>z[0]?) hq; simpa using this
  have h1:=u3 hx
  have hb:z3 (r.Readers.take i)≤1048576:=Nat.le_trans qhz (by rw [List.length_take]; omega)
  have hc:z3 (r.Readers.take (min i k))≤1048576:=Nat.le_trans qhz (by rw [List.length_take]; omega)
  refine ⟨((z3 (r.Readers.take (i+1)) : Int),(z3 (r.Readers.take (min (i+1) k)) : Int)),?_,by have:=congrArg (List.drop 1) hq; simpa [List.drop_drop] using this,rfl⟩
  unfold w6
  dsimp only
  refine Ev.of ?_
  by_cases hin:x.In=true
  ·rw [if_pos hin]
   rw [if_pos hin] at h1
   by_cases hlt:i<k
   ·rw [if_pos (by simpa using hlt),qle (by omega),qle (by omega),h1]
    rw [show min (i+1) k=i+1 by omega,show min i k=i by omega,h1]
   ·rw [if_neg (by simpa using hlt),qle (by omega),h1]
    rw [show min (i+1) k=min i k by omega]
  ·rw [if_neg hin]
   rw [if_neg hin] at h1
   rw [h1]
   by_cases hlt:i<k
   ·rw [show min (i+1) k=i+1 by omega,show min i k=i by omega,h1]; rfl
   ·rw [show min (i+1) k=min i k by omega]; rfl
 ·subst hs
  have hi:r.Readers.length≤i:=by have:=congrArg List.length hq; simp at this; omega
  rw [List.take_of_length_le hi,show min i k=k by omega]
 ·unfold qak
  refine Ev.jn ?_ Ev.rfl
  have e:∀ {F:Nat→Option (Oc (List Int) (List Int))} {o},Ev F o→Ev F o:=fun h=>h
  rw [show (List.length r.Ends:Int)=((List.replicate r.Ends.length ()).length:Int) by simp]
  refine qmn (l:=List.replicate r.Ends.length ()) (by simpa using he) (fun i x s hx hs=>?_)
  have hi:i<r.Ends.length:=by have:=(List.getElem?_eq_some_iff.1 hx).1; simpa using this
  unfold wy
  dsimp only
  rw [ql6 (by omega)]
  simp only [qkn (s:=s) (v:=(i:Int)) (by omega),Option.bind_some,hm,true_and]
  refine Ev.of ?_
  split <;> rfl
theorem qg9 {r:Readers_}{k:Nat}(hr:r.Readers.length≤1048576)(he:r.Ends.length≤1048576)(hk:k<r.Readers.length) : Ev (fun _=>ug r (k:Int)) (jv r.Readers r.Ends.length k):=by
 unfold ug
 refine Ev.jn (s:=((z3 r.Readers:Int),(z3 (r.Readers.take k) : Int))) (wv (by omega) (fun i q s=>r.Readers.drop i=q∧s=((z3 (r.Readers.take i) : Int),((if k<i then z3 (r.Readers.take k) else 0:Nat) : Int))) ⟨rfl,by simp [z3]⟩ (fun i x q s ⟨hq,hs⟩ => .inl ?_) (fun i s ⟨hq,hs⟩=>?_)) ?_
 ·subst hs
  have hx:r.Readers[i]? = some x:=by have:=congrArg (fun z=>z[0]?) hq; simpa using this
  have h1:=u3 hx
  have hb:z3 (r.Readers.take i)≤1048576:=Nat.le_trans qhz (by rw [List.length_take]; omega)
  refine ⟨((z3 (r.Readers.take (i+1)) : Int),((if k<i+1 then z3 (r.Readers.take k) else 0:Nat) : Int)),?_,by have:=congrArg (List.drop 1) hq; simpa [List.drop_drop] using this,rfl⟩
  unfold qbq
  dsimp only
  refine Ev.of ?_
  have hp:(if (decide ((i:Int)=(k:Int)))=true then (some (z3 (r.Readers.take i) : Int)) else (some ((if k<i then z3 (r.Readers.take k) else 0:Nat) : Int)))=some ((if k<i+1 then z3 (r.Readers.take k) else 0:Nat) : Int):=by
   by_cases e:i=k
   ·subst e; rw [if_pos (by simp),if_pos (by omega)]
   ·rw [if_neg (by simp only [decide_eq_true_eq]; omega)]
    by_cases hlt:k<i
    ·rw [if_pos hlt,if_pos (by omega)]
    ·rw [if_neg hlt,if_neg (by omega)]
  rw [hp,Option.bind_some]
  unfold qc9
  by_cases hin:x.In=true
  ·rw [if_pos hin,qle (by omega),h1,if_pos hin]
  ·rw [if_neg hin,h1,if_neg hin]; rfl
 ·subst hs
  have hi:r.Readers.length≤i:=by have:=congrArg List.length hq; simp at this; omega
  rw [List.take_of_length_le hi,if_pos (by omega)]
 ·unfold qdd
  refine Ev.jn ?_ Ev.rfl
  rw [show (List.length r.Ends:Int)=((List.replicate r.Ends.length ()).length:Int) by simp]
  refine qmn (l:=List.replicate r.Ends.length ()) (by simpa using he) (fun i x s hx hs=>?_)
  have hi:i<r.Ends.length:=by have:=(List.getElem?_eq_some_iff.1 hx).1; simpa using this
  unfold qbm
  dsimp only
  refine Ev.of ?_
  by_cases hm:0<z3 r.Readers
  ·rw [if_pos (by simp; omega),ql6 (by omega)]
   simp only [qkn (s:=s) (v:=(i:Int)) (by omega),Option.bind_some,hm,true_and]
   split <;> rfl
  ·rw [if_neg (by simp; omega)]
   simp [hm]

/-! copies -/
theorem u4 {α:Type}{b:Nat}{l:List α}(h:l.length*b≤70368744177664) : k7 b ([] : List α) l=some l:=by
 unfold k7
 rw [if_pos (by simpa using h)]
 simp
theorem qll {B:Nat→Reader→Readers_→Option (Oc Readers_ Readers_)}{r:Readers_}(h:r.nn≤1048576)(hB:∀ i x s,r.Readers[i]? = some x→s.Readers.length≤1048576→B i x s=some (.nxt ⟨s.Generation,s.Readers++[x],r.Committed,r.Ends⟩)) :
  Ev (fun _=>jl B r.Readers ⟨r.Generation,[],r.Committed,r.Ends⟩) (.nxt r):=by
 have hh:nnL Reader.nn r.Readers+(r.Committed.length+(r.Ends.length+0))≤1048576:=h
 have hl:=qnl (f:=Reader.nn) (l:=r.Readers)
 refine wv (B:=fun _=>B) (by omega) (fun i q s=>r.Readers.drop i=q∧s=⟨r.Generation,r.Readers.take i,r.Committed,r.Ends⟩) ⟨rfl,by simp⟩ (fun i x q s ⟨hq,hs⟩ => .inl ?_) (fun i s ⟨hq,hs⟩=>?_)
 ·subst hs
  have hx:r.Readers[i]? = some x:=by have:=congrArg (fun z=>z[0]?) hq; simpa using this
  refine ⟨_,Ev.of (hB i x _ hx (by dsimp only; rw [List.length_take]; omega)),by have:=congrArg (List.drop 1) hq; simpa [List.drop_drop] using this,?_⟩
  dsimp only
  rw [List.take_add_one,hx]
  rfl
 ·subst hs
  have hi:r.Readers.length≤i:=by have:=congrArg List.length hq; simp at this; omega
  rw [List.take_of_length_le hi]
theorem qdq {r:Readers_}(h:r.nn≤1048576) : r.Readers.length≤1048576∧r.Committed.length≤1048576∧r.Ends.length≤1048576∧∀ (i:Nat) (x:Reader),r.Readers[i]? = some x→x.Share.length≤1048576∧x.Read.length≤1048576:=by
 have hh:nnL Reader.nn r.Readers+(r.Committed.length+(r.Ends.length+0))≤1048576:=h
 have hl:=qnl (f:=Reader.nn) (l:=r.Readers)
 refine ⟨by omega,by omega,by omega,fun i x hx=>?_⟩
 have:=q2x (f:=Reader.nn) hx
 have h2:x.nn=x.Share.length+(x.Read.length+0):=rfl
 omega
theorem qf0 {r:Readers_}(h:r.nn≤1048576) : Ev (fun _=>uu r) r:=by
 obtain ⟨h1,h2,h3,h4⟩:=qdq h
 unfold uu
 refine Ev.bindp (u4 (by omega)) (Ev.bindp (u4 (by omega)) (Ev.jn (qll h (fun i x s hx hs=>?_)) Ev.rfl))
 obtain ⟨a1,a2⟩:=h4 i x hx
 unfold qcs
 rw [u4 (by omega),Option.bind_some,u4 (by omega),Option.bind_some]
 unfold k7
 rw [if_pos (by simp; omega)]
 rfl
end Go.Proofs.Ytdhibknhejhfaaa.X
