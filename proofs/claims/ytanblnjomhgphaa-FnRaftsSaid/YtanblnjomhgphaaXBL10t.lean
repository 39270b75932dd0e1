/- Rafts: what is committed, who leads, which logs match; the program's side. -/
import Derived.Test.YtanblnjomhgphaaXBL10a
open Go.Proofs.Ytanblnjomhgphaa.X.Ev renaming bindp→a0c,bind→a0e,iteF→a0b,iteT→a0l,rfl→a0h
open List renaming getElem?_eq_getElem→s8,getElem?_eq_none→a00,getElem?_eq_some_iff→r9,length_take→a0f,length→p9,mem_cons→a13
open Option renaming bind_some→a1n
set_option linter.unusedVariables false
set_option linter.unusedSimpArgs false
namespace Go.Proofs.Ytanblnjomhgphaa.X
open Go

def qc1 (s:Peer)(l:List Peer) : Peer:=l.foldl (fun s x=>if s.Commit<x.Commit then x else s) s
theorem qn1:∀ {l:List Peer} {s:Peer},qc1 s l=s∨qc1 s l∈l:=by
 intro l
 induction l with
 | nil=>intro s; exact .inl rfl
 | cons x l ih =>
  intro s
  show qc1 (if s.Commit<x.Commit then x else s) l=s∨qc1 (if s.Commit<x.Commit then x else s) l∈x::l
  rcases ih (s:=if s.Commit<x.Commit then x else s) with h | h
  ·rw [h]
   split
   ·exact .inr (by simp)
   ·exact .inl rfl
  ·exact .inr (List.mem_cons_of_mem _ h)
theorem qzn:∀ {l:List Peer} {s:Peer},s.Commit≤(qc1 s l).Commit∧∀ p∈l,p.Commit≤(qc1 s l).Commit:=by
 intro l
 induction l with
 | nil=>intro s; exact ⟨Int.le_refl _,by simp⟩
 | cons x l ih =>
  intro s
  show s.Commit≤(qc1 (if s.Commit<x.Commit then x else s) l).Commit∧∀ p∈x::l,p.Commit≤(qc1 (if s.Commit<x.Commit then x else s) l).Commit
  obtain ⟨h1,h2⟩:=ih (s:=if s.Commit<x.Commit then x else s)
  refine ⟨?_,fun p hp=>?_⟩
  ·split at h1 <;> rename_i h <;> first | (rw [if_pos h]; omega) | (rw [if_neg h]; omega)
  ·rcases a13.1 hp with e | hp
   ·rw [e]
    split at h1 <;> rename_i h <;> first | (rw [if_pos h]; omega) | (rw [if_neg h]; omega)
   ·exact h2 p hp
theorem za6 {r:Raft}{p0:Peer}{t:List Peer}(hr:r.Peers=p0::t)(hs:r.nn≤1048576)(hg:qol r) : Ev (fun _=>qau r) ((qc1 p0 r.Peers).Log.take (qc1 p0 r.Peers).Commit.toNat,true):=by
 obtain ⟨z1,z2,z3,z4⟩:=qj9 hs
 obtain ⟨v,hv,hv2⟩:=qj3 hs
 rw [hv2.2 hg] at hv
 have hb:qc1 p0 r.Peers∈r.Peers:=by
  rcases qn1 (s:=p0) (l:=r.Peers) with h | h
  ·rw [h,hr]; simp
  ·exact h
 have hp:=hg.2.2.1 _ hb
 have hl:=(z3 _ hb).1
 unfold qau
 refine a0e hv (a0b rfl (a0c (a:=p0) (by rw [hr]; rfl) (Ev.jn (s:=qc1 p0 r.Peers) (yo (by omega) (fun i q s=>qc1 s q=qc1 p0 r.Peers) rfl (fun i x q s h => .inl ⟨if s.Commit<x.Commit then x else s,?_,h⟩) (fun i s h=>by rw [←h]; rfl)) ?_)))
 ·unfold qax
  by_cases c:s.Commit<x.Commit
  ·rw [if_pos c]; exact a0l (by simpa using c) a0h
  ·rw [if_neg c]; exact a0b (by simpa using c) a0h
 ·unfold qdh
  have:=hp.2.2.1
  exact a0c (qf6 this.1 this.2) (a0c (qaq (by rw [a0f]; omega)) a0h)
def qlj (r:Raft) : List Int:=qfs (fun _ (p:Peer)=>p.Leads) r.Peers 0
theorem q2e {α:Type}{p:Nat→α→Bool} : ∀ {l:List α} {i:Nat} {v:Int},v∈qfs p l i→∃ (j:Nat) (x:α),l[j]? = some x∧v=((i+j:Nat) : Int)∧p (i+j) x=true:=by
 intro l
 induction l with
 | nil=>intro i v h; cases h
 | cons x l ih =>
  intro i v h
  unfold qfs at h
  have tail:v∈qfs p l (i+1)→∃ (j:Nat) (y:α),(x::l)[j]? = some y∧v=((i+j:Nat) : Int)∧p (i+j) y=true:=fun h=>by
   obtain ⟨j,y,h1,h2,h3⟩:=ih h
   exact ⟨j+1,y,by simpa using h1,by omega,by rwa [show i+(j+1)=i+1+j by omega]⟩
  split at h
  ·rename_i hp
   rcases a13.1 h with e | h
   ·exact ⟨0,x,rfl,by simpa using e,hp⟩
   ·exact tail h
  ·exact tail h
theorem za8 {r:Raft}(hs:r.nn≤1048576)(hg:qol r) : Ev (fun _=>qcq r) (qlj r,true):=by
 obtain ⟨z1,z2,z3,z4⟩:=qj9 hs
 obtain ⟨v,hv,hv2⟩:=qj3 hs
 rw [hv2.2 hg] at hv
 unfold qcq
 refine a0e hv (a0b rfl (Ev.jn (s:=qlj r) (zae z1 (fun i x s hx hs=>?_)) a0h))
 have hi:=(r9.1 hx).1
 unfold qb7
 cases x.Leads with
 | true=>exact a0l rfl (a0c (zav (by omega)) a0h)
 | false=>exact a0b rfl a0h
structure mtch (a b:List Entry) (i:Nat) : Prop where
 la:i≤a.length
 lb:i≤b.length
 eq:i=0∨(a[i - 1]?).map Entry.Term=(b[i - 1]?).map Entry.Term
 ne:∀ j,i≤j→j<a.length→j<b.length→(a[j]?).map Entry.Term≠(b[j]?).map Entry.Term
theorem mtch.one {a b:List Entry}{i j:Nat}(h:mtch a b i)(h':mtch a b j) : i=j:=by
 have key:∀ {i j:Nat},mtch a b i→mtch a b j→¬ i<j:=fun {i j} h h' q=>by
  rcases h'.eq with e | e
  ·omega
  ·have:=h'.la
   have:=h'.lb
   exact h.ne (j - 1) (by omega) (by omega) (by omega) e
 have:=key h h'
 have:=key h' h
 omega
theorem zbg {x y:Entry} : (!((x.Term == y.Term)&&((x.Value == y.Value)&&true)))=true↔¬ x=y:=by
 obtain ⟨a,b⟩:=x
 obtain ⟨c,d⟩:=y
 by_cases h1:a=c <;> by_cases h2:b=d <;> simp [h1,h2]
theorem Equal_is {a b:List Entry}(hl:a.length≤1048576) : Is (fun _=>uu a b) (a=b):=by
 unfold uu
 by_cases hab:a.length=b.length
 ·rw [if_neg (by simp [hab])]
  refine Is.all (Q:=fun i x=>b[i]? = some x) (by omega) (fun i x hx=>?_) (fun h=>Is.T ?_) (fun h=>?_)
  ·unfold uz
   have hi:i<b.length:=by rw [←hab]; exact (r9.1 hx).1
   have hb:b[i]? = some b[i]:=s8 hi
   rw [y9 hb]
   simp only [a1n]
   refine qkx ?_
   rw [hb,zbg]
   simp only [Option.some.injEq]
   exact not_congr eq_comm
  ·apply List.ext_getElem?
   intro i
   by_cases hi:i<a.length
   ·have ha:a[i]? = some a[i]:=s8 hi
    rw [ha,h i _ ha]
   ·rw [a00 (by omega),a00 (by omega)]
  ·rintro rfl
   exact h (fun i x hx=>hx)
 ·rw [if_pos (by simp; omega)]
  exact Is.F (fun h=>hab (by rw [h]))
theorem zam {a b:List Entry}(ha:a.length≤1048576)(hb:b.length≤1048576) : (¬ (qh0 a 100∧qh0 b 100)→Ev (fun k=>uo k a b) (false,false))∧(qh0 a 100∧qh0 b 100→∃ i,mtch a b i∧∃ c:Bool,Ev (fun k=>uo k a b) (c,true)∧(c=true↔a.take i=b.take i)):=by
 obtain ⟨va,ha1,ha2⟩:=qhh (t:=100) ha
 obtain ⟨vb,hb1,hb2⟩:=qhh (t:=100) hb
 have pre:∀ {o:Bool × Bool},Ev (fun k=>(if (!(va&&vb))=true then (some (false,
  false)) else (jn (wo (fun s69=>uf a b s69) k (mnI (p9 a:Int) (p9 b:Int))) (fun s86=>qbu a b s86)))) o→Ev (fun k=>uo k a b) o:=fun ho=>by
  unfold uo
  refine a0e ha1 (a0e (a := !(va&&vb)) ?_ ho)
  cases va with
  | false=>exact a0l rfl a0h
  | true=>exact a0b rfl (a0e hb1 a0h)
 refine ⟨fun c=>pre (a0l ?_ a0h),fun c=>?_⟩
 ·cases va with
  | false=>rfl
  | true =>
   cases vb with
   | false=>rfl
   | true=>exact absurd ⟨ha2.1 rfl,hb2.1 rfl⟩ c
 ·have e1:=ha2.2 c.1
  have e2:=hb2.2 c.2
  subst e1
  subst e2
  have hmin:mnI (a.length:Int) (b.length:Int)=((min a.length b.length:Nat) : Int):=by unfold mnI; split <;> omega
  obtain ⟨o,ho,i,rfl,hi⟩:=Ev.loopQ (B:=fun s69=>uf a b s69) (s:=mnI (a.length:Int) (b.length:Int)) (fun o=>∃ i:Nat,o = .nxt (i:Int)∧mtch a b i) (fun s=>∃ i:Nat,s=(i:Int)∧i≤a.length∧i≤b.length∧∀ j,i≤j→j<a.length→j<b.length→(a[j]?).map Entry.Term≠(b[j]?).map Entry.Term) (fun s=>s.toNat) ⟨min a.length b.length,hmin,by omega,by omega,fun j h1 h2 h3=>by omega⟩ (by
   rintro s ⟨i,rfl,h1,h2,h3⟩
   unfold uf
   cases i with
   | zero=>exact .inr (.inl ⟨_,rfl,0,rfl,⟨h1,h2,.inl rfl,h3⟩⟩)
   | succ i =>
    have ga:a[i]? = some (a[i]'(by omega)):=s8 _
    have gb:b[i]? = some (b[i]'(by omega)):=s8 _
    have ew:IntKind.wrap .i64 (((i+1:Nat) : Int) - 1)=(i:Int):=by rw [k9 (by omega) (by omega)]; omega
    rw [ew,y9 ga,y9 gb,if_pos (decide_eq_true (by omega))]
    simp only [a1n]
    by_cases q:(a[i]'(by omega)).Term=(b[i]'(by omega)).Term
    ·rw [if_neg (by simpa using q)]
     exact .inr (.inl ⟨_,rfl,i+1,rfl,⟨h1,h2,.inr (by rw [Nat.add_sub_cancel,ga,gb]; exact congrArg some q),h3⟩⟩)
    ·rw [if_pos (by simpa using q)]
     refine .inl ⟨_,rfl,⟨i,rfl,by omega,by omega,fun j g1 g2 g3=>?_⟩,by simp⟩
     by_cases e:j=i
     ·subst e
      rw [ga,gb]
      exact fun w=>q (Option.some.inj w)
     ·exact h3 j (by omega) g2 g3)
  refine ⟨i,hi,?_⟩
  have la:=hi.la
  have lb:=hi.lb
  obtain ⟨c',e,hc⟩:=Equal_is (a:=a.take i) (b:=b.take i) (by rw [a0f]; omega)
  refine ⟨c',pre (a0b rfl (Ev.jn ho ?_)),hc⟩
  unfold qbu
  exact a0c (qiv la) (a0c (qiv lb) (a0e e a0h))
end Go.Proofs.Ytanblnjomhgphaa.X
