/- Groups: memory of one's own, rows that rise. -/
import Derived.Test.YtefgfcalgjmhjaaXGL11a
import Derived.Test.YtefgfcalgjmhjaaXGW
set_option linter.unusedVariables false
set_option linter.unusedSimpArgs false
namespace Go.Proofs.Ytefgfcalgjmhjaa.X
open Go

theorem qan {α:Type}{b:Nat}{l:List α}(h:l.length*b≤70368744177664) : ki b ([] : List α) l=some l:=by
 unfold ki
 rw [if_pos (by simpa using h)]
 simp
theorem qna {B:Nat→Replica→Group→Option (Oc Group Group)}{g:Group}(h:g.nn≤1048576)(hB:∀ i x s,g.Replicas[i]? = some x→s.Replicas.length≤1048576→B i x s=some (.nxt ⟨s.Epoch,s.Leader,g.InStep,s.High,s.Replicas++[x]⟩)) :
  Ev (fun _=>kf B g.Replicas ⟨g.Epoch,g.Leader,g.InStep,g.High,[]⟩) (.nxt g):=by
 obtain ⟨n1,n2,n3⟩:=qfi h
 refine qaa (B:=fun _=>B) (by omega) (fun i q s=>g.Replicas.drop i=q∧s=⟨g.Epoch,g.Leader,g.InStep,g.High,g.Replicas.take i⟩) ⟨rfl,by simp⟩ (fun i x q s ⟨hq,hs⟩ => .inl ?_) (fun i s ⟨hq,hs⟩=>?_)
 ·subst hs
  have hx:g.Replicas[i]? = some x:=by have:=congrArg (fun z=>z[0]?) hq; simpa using this
  refine ⟨_,Ev.of (hB i x _ hx (by dsimp only; rw [List.length_take]; omega)),by have:=congrArg (List.drop 1) hq; simpa [List.drop_drop] using this,?_⟩
  dsimp only
  rw [List.take_add_one,hx]
  rfl
 ·subst hs
  have hi:g.Replicas.length≤i:=by have:=congrArg List.length hq; simp at this; omega
  rw [List.take_of_length_le hi]
theorem qeh {g:Group}(h:g.nn≤1048576) : Ev (fun _=>xg g) g:=by
 obtain ⟨n1,n2,n3⟩:=qfi h
 unfold xg
 refine Ev.bindp (qan (by omega)) (Ev.jn (qna h (fun i x s hx hs=>?_)) Ev.rfl)
 have:=n3 i x hx
 unfold qc3
 rw [qan (by omega),Option.bind_some]
 unfold ki
 rw [if_pos (by simp; omega)]
 rfl
theorem qjq {g:Group}(h:g.nn≤1048576) : Ev (fun _=>qac g) g:=by
 obtain ⟨n1,n2,n3⟩:=qfi h
 unfold qac
 refine Ev.bindp (qan (by omega)) (Ev.jn (qna h (fun i x s hx hs=>?_)) Ev.rfl)
 have:=n3 i x hx
 unfold qbh
 rw [qan (by omega),Option.bind_some]
 unfold ki
 rw [if_pos (by simp; omega)]
 rfl

def yf (n:Nat) : List Int:=(List.range n).map fun (i:Nat)=>(i:Int)
theorem qdo {n:Nat} : (yf n).length=n:=by simp [yf]
theorem qew {n:Nat} : yf (n+1)=yf n++[(n:Int)]:=by simp [yf,List.range_succ]
theorem qf8 {n:Nat}{z:Int}(h:z∈yf n) : 0≤z∧z<n:=by
 simp only [yf,List.mem_map,List.mem_range] at h
 obtain ⟨i,h1,rfl⟩:=h
 omega
theorem qr8 {A B:List Int}{v:Int}(hl:(A++B).length≤1000)(hA:∀ z∈A,z<v)(hB:∀ z∈B,v≤z) : Ev (fun k=>qb3 k (A++B) v) (if B.head? = some v then A++B else A++v::B):=by
 unfold qb3
 have hlA:A.length+B.length≤1000:=by simpa using hl
 refine Ev.jn (s:=(A.length:Int)) (Ev.loop (fun s=>∃ i:Nat,i≤A.length∧s=(i:Int)) (fun s=>A.length - s.toNat) ⟨0,by omega,rfl⟩ ?_) ?_
 ·rintro s ⟨i,hi,rfl⟩
  unfold qdn
  by_cases h:i<A.length
  ·have hg:(A++B)[i]? = some A[i]:=by rw [List.getElem?_append_left h]; exact List.getElem?_eq_getElem h
   refine .inl ⟨((i+1:Nat) : Int),?_,⟨i+1,by omega,rfl⟩,by simp only [Int.toNat_natCast]; omega⟩
   rw [if_pos (by simp; omega),kd hg,Option.bind_some,Option.bind_some,if_pos (by simpa using hA _ (List.getElem_mem h)),qky (by omega)]
  ·have hi:i=A.length:=by omega
   subst hi
   refine .inr (.inl ⟨_,?_,rfl⟩)
   by_cases hb:B=[]
   ·subst hb
    rw [if_neg (by simp)]
    rfl
   ·obtain ⟨w,B',rfl⟩:=List.exists_cons_of_ne_nil hb
    have hg:(A++w::B')[A.length]? = some w:=by simp
    have:=hB w (by simp)
    rw [if_pos (by simp; omega),kd hg,Option.bind_some,Option.bind_some,if_neg (by simp; omega)]
 ·unfold qfb
  have tail:∀ {C:List Int},C=B→Ev (fun _=>((sl (A++B) 0 (A.length:Int)).bind fun l76=>((ki 8 ([] : List Int) l76).bind fun l83=>((ki 8 l83 [v]).bind fun l98=>((sl (A++B) (A.length:Int) (List.length (A++B))).bind fun l107=>((ki 8 l98 l107).bind fun l114=>(some l114))))))) (A++v::B):=by
   intro C _
   have s1:sl (A++B) 0 (A.length:Int)=some A:=by rw [qbn (by simp)]; simp
   have s2:sl (A++B) (A.length:Int) ((A++B).length:Nat)=some B:=by rw [qk0 (by simp)]; simp
   refine Ev.bindp s1 (Ev.bindp (qan (by omega)) (Ev.bindp (a:=A++[v]) (by unfold ki; rw [if_pos (by simp; omega)]) (Ev.bindp s2 (Ev.bindp (a:=A++v::B) ?_ Ev.rfl))))
   unfold ki
   rw [if_pos (by simp; omega)]
   simp
  by_cases hb:B=[]
  ·subst hb
   have e0:(if ([] : List Int).head? = some v then A++[] else A++v::[])=A++v::[]:=if_neg (by simp)
   rw [e0]
   refine Ev.bind (a:=false) (Ev.iteF (by simp) Ev.rfl) (Ev.iteF rfl (tail rfl))
  ·obtain ⟨w,B',rfl⟩:=List.exists_cons_of_ne_nil hb
   have hg:(A++w::B')[A.length]? = some w:=by simp
   refine Ev.bind (a:=decide (w=v)) (Ev.iteT (by simp; omega) (Ev.bindp (kd hg) Ev.rfl)) ?_
   by_cases e:w=v
   ·subst e
    have e0:(if (w::B').head? = some w then A++w::B' else A++w::w::B')=A++w::B':=if_pos (by simp)
    rw [e0]
    exact Ev.iteT (by simp) Ev.rfl
   ·have e0:(if (w::B').head? = some v then A++w::B' else A++v::w::B')=A++v::w::B':=if_neg (by simpa using e)
    rw [e0]
    exact Ev.iteF (by simpa using e) (tail rfl)
theorem qge {l:List Int}{n:Int}(h:qc6 l n) : l.Pairwise (· < ·):=by
 rw [List.pairwise_iff_getElem]
 have key:∀ d i (hi:i<l.length) (hj:i+d+1<l.length),l[i]<l[i+d+1]:=by
  intro d
  induction d with
  | zero =>
   intro i hi hj
   have:=(h (i+1) l[i+1] (List.getElem?_eq_getElem hj)).2.2 l[i] (by omega) (by simp)
   simpa using this
  | succ d ih =>
   intro i hi hj
   have h1:=ih i hi (by omega)
   have h2:=(h (i+d+1+1) l[i+d+1+1] (List.getElem?_eq_getElem (by omega))).2.2 l[i+d+1] (by omega) (by simp)
   have:l[i+(d+1)+1]=l[i+d+1+1]:=by congr 1
   rw [this]
   omega
 intro i j hi hj hij
 have:=key (j - i - 1) i hi (by omega)
 have e:i+(j - i - 1)+1=j:=by omega
 simpa [e] using this
def xb (l:List Int)(i:Int) : List Int:=l.filter fun z=>decide (i≤z)
theorem qpx {l:List Int}(h:l.Pairwise (· < ·)){i:Int} : xb l i=if (xb l i).head? = some i then i::xb l (i+1) else xb l (i+1):=by
 induction l with
 | nil=>simp [xb]
 | cons x l ih =>
  have hp:=List.pairwise_cons.1 h
  have ih:=ih hp.2
  unfold xb at ih ⊢
  by_cases h1:x<i
  ·rw [List.filter_cons_of_neg (by simp; omega),List.filter_cons_of_neg (by simp; omega)]
   exact ih
  ·rw [List.filter_cons_of_pos (by simp; omega)]
   by_cases h2:x=i
   ·subst h2
    rw [if_pos (by simp),List.filter_cons_of_neg (by simp; omega)]
    congr 1
    apply List.filter_congr
    intro z hz
    have:=hp.1 z hz
    simp only [decide_eq_decide]; omega
   ·rw [if_neg (by simpa using h2),List.filter_cons_of_pos (by simp; omega)]
    congr 1
    apply List.filter_congr
    intro z hz
    have:=hp.1 z hz
    simp only [decide_eq_decide]; omega
theorem qbd {l:List Int}{n:Nat}(h:qc6 l n) : l.length≤n:=by
 have key:∀ i (hi:i<l.length),(i:Int)≤l[i]:=by
  intro i
  induction i with
  | zero=>intro hi; exact (h 0 l[0] (List.getElem?_eq_getElem hi)).1
  | succ i ih =>
   intro hi
   have h1:=ih (by omega)
   have h2:=(h (i+1) l[i+1] (List.getElem?_eq_getElem hi)).2.2 l[i] (by omega) (by simp)
   omega
 by_cases h0:l.length=0
 ·omega
 ·have h1:=key (l.length - 1) (by omega)
  have h2:=(h (l.length - 1) l[l.length - 1] (List.getElem?_eq_getElem (by omega))).2.1
  omega
end Go.Proofs.Ytefgfcalgjmhjaa.X
