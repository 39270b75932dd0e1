/- Elections: whether one is good, on both sides; logs and their last entries. -/
import Derived.Test.YtpddolihbnfahaaXCL9i
set_option linter.unusedVariables false
set_option linter.unusedSimpArgs false
namespace Go.Proofs.Ytpddolihbnfahaa.X
open Go

theorem qle {l:List Int}(hl:l.length≤4611686018427387904) : Is (fun _=>w9 l) (qgt l):=by
 unfold w9
 refine Is.all (Q:=fun i x=>0≤x∧x≤100∧∀ y,0<i→l[i - 1]? = some y→y≤x) hl (fun i x hx=>?_) (fun h=>Is.of ?_) (fun h h2=>h h2.1)
 ·unfold qb6
  refine qk1 (Is.ite (fun hb=>Is.T ?_) (fun hb=>(qj0 (g:=fun y=>decide (x<y)) hl (List.getElem?_eq_some_iff.1 hx).1).iff ?_))
  ·rw [qf3] at hb; rintro ⟨a,b,_⟩; omega
  ·have hr:=dn qf3 hb
   constructor
   ·rintro ⟨y,h1,h2,h3⟩ ⟨_,_,h4⟩
    have:=h4 y h1 h2
    simp at h3
    omega
   ·intro h
    simp only [not_and] at h
    obtain ⟨y,h1,h2,h3⟩:=qip (h hr.1 hr.2)
    exact ⟨y,h1,h2,by simp; omega⟩
 ·unfold qgt
  simp only [decide_eq_true_eq]
  exact ⟨fun e=>⟨h,by omega⟩,fun e=>by have:=e.2; omega⟩
theorem qhf {l:List Int}(hl:l.length≤4611686018427387904) : Is (fun _=>ye l) (qgt l):=by
 unfold ye
 refine Is.all (Q:=fun i x=>0≤x∧x≤100∧∀ y,0<i→l[i - 1]? = some y→y≤x) hl (fun i x hx=>?_) (fun h=>Is.of ?_) (fun h h2=>h h2.1)
 ·unfold qbp
  refine qk1 (Is.ite (fun hb=>Is.T ?_) (fun hb=>(qj0 (g:=fun y=>decide (x<y)) hl (List.getElem?_eq_some_iff.1 hx).1).iff ?_))
  ·rw [qh8] at hb; rintro ⟨a,b,_⟩; omega
  ·have hr:=dn qh8 hb
   constructor
   ·rintro ⟨y,h1,h2,h3⟩ ⟨_,_,h4⟩
    have:=h4 y h1 h2
    simp at h3
    omega
   ·intro h
    simp only [not_and] at h
    obtain ⟨y,h1,h2,h3⟩:=qip (h hr.1 hr.2)
    exact ⟨y,h1,h2,by simp; omega⟩
 ·unfold qgt
  simp only [decide_eq_true_eq]
  exact ⟨fun e=>⟨h,by omega⟩,fun e=>by have:=e.2; omega⟩
theorem qog {l:List Int}(hl:l.length≤4611686018427387904)(h0:l.length≠0) : z8 l (IntKind.wrap .i64 ((List.length l:Int) - 1))=some (j0 l):=by
 rw [show IntKind.wrap .i64 ((List.length l:Int) - 1)=((l.length - 1:Nat) : Int) by rw [kt (by omega) (by omega)]; omega]
 have h1:l[l.length - 1]? = some (l[l.length - 1]'(by omega)):=List.getElem?_eq_getElem _
 rw [wk h1]
 unfold j0
 rw [List.getLast?_eq_getElem?,h1]
theorem qhd {l:List Int}(hl:l.length≤4611686018427387904) : uc l=some (j0 l):=by
 unfold uc
 by_cases h0:l.length=0
 ·rw [if_pos (by simp [h0])]
  rw [List.length_eq_zero_iff.1 h0]
  rfl
 ·rw [if_neg (by simp; exact fun h=>h0 (by simp [h])),qog hl h0]
  rfl
theorem qie {l:List Int}(hl:l.length≤4611686018427387904) : wt l=some (j0 l):=qhd hl
theorem qoj {a b:Int}{l:List Int}(hl:l.length≤4611686018427387904) : qap a b l=some (up9 a b l):=by
 unfold qap up9
 rw [qhd hl]
 simp only [Option.bind_some]
 by_cases h:j0 l<a
 ·rw [if_pos (by simpa using h)]
  simp [h]
 ·rw [if_neg (by simpa using h)]
  simp [h]
theorem qze {a b:Int}{l:List Int}(hl:l.length≤4611686018427387904) : qe0 a b l=some (up9 a b l):=qoj hl

def qnj (n:Nat)(s:Server) : Prop:=((0≤s.Term∧s.Term≤100)∧(-1≤s.Voted∧s.Voted<n)∧¬ (s.Stands=true∧s.Leads=true))∧qck s.Got n∧(s.Stands=false→s.Leads=false→s.Got=[])∧qgt s.Log
def qol (e:Election)(m:Letter) : Prop:=(0≤m.To∧m.To<e.Servers.length)∧(0≤m.From∧m.From<e.Servers.length)∧m.To≠m.From∧(∀ s,At e m.From s→0≤m.Term∧m.Term≤s.Term)∧(m.Asks=true→m.Grant=false∧(-1≤m.Last∧m.Last≤100)∧(0≤m.Long∧m.Long≤30))∧(m.Asks=false→m.Last=0∧m.Long=0)
def qn8 (n:Nat)(v:Vote) : Prop:=(0≤v.Term∧v.Term≤100)∧(0≤v.Leader∧v.Leader<n)
def elP (e:Election) : Prop:=((1≤e.Servers.length∧e.Servers.length≤5)∧e.Post.length≤20∧e.Led.length≤80)∧(∀ (i:Nat) s,e.Servers[i]? = some s→qnj e.Servers.length s)∧(∀ (i:Nat) m,e.Post[i]? = some m→qol e m)∧∀ (i:Nat) v,e.Led[i]? = some v→qn8 e.Servers.length v
theorem qhp {e:Election}(h:e.nn≤1048576) : e.Servers.length≤1048576∧e.Post.length≤1048576∧e.Led.length≤1048576∧∀ (i:Nat) s,e.Servers[i]? = some s→s.Got.length≤1048576∧s.Log.length≤1048576:=by
 have hh:nnL Server.nn e.Servers+(e.Post.length+(e.Led.length+0))≤1048576:=h
 have hl:=ql3 (f:=Server.nn) (l:=e.Servers)
 refine ⟨by omega,by omega,by omega,fun i s hs=>?_⟩
 have:=qj6 (f:=Server.nn) hs
 have h2:s.nn=s.Got.length+(s.Log.length+0):=rfl
 omega
theorem qbv {e:Election}(h:e.nn≤1048576) : Is (fun _=>k9 e) (elP e):=by
 obtain ⟨n1,n2,n3,n4⟩:=qhp h
 unfold k9
 refine Is.ite (fun hb=>Is.F ?_) (fun hb=>?_)
 ·simp only [Bool.or_eq_true,qf3,decide_eq_true_eq] at hb
  rintro ⟨⟨⟨_,_⟩,_,_⟩,_⟩
  omega
 ·obtain ⟨hb,hb3⟩:=(Bool.or_eq_false_iff).1 hb
  obtain ⟨hb,hb2⟩:=(Bool.or_eq_false_iff).1 hb
  have a1:=dn qf3 hb
  have a2:e.Post.length≤20:=by simp at hb2; omega
  have a3:e.Led.length≤80:=by simp at hb3; omega
  have hw:IntKind.wrap .i64 ((List.length e.Servers:Int) - 1)=(List.length e.Servers:Int) - 1:=kt (by omega) (by omega)
  refine Is.all (Q:=fun _ s=>qnj e.Servers.length s) (by omega) (fun i s hs=>?_) (fun hq=>?_) (fun hq hh=>hq hh.2.1)
  ·obtain ⟨m1,m2⟩:=n4 i s hs
   unfold qcb
   rw [hw]
   refine q9u (P:=¬ (((0≤s.Term∧s.Term≤100)∧(-1≤s.Voted∧s.Voted<e.Servers.length)∧¬ (s.Stands=true∧s.Leads=true))∧qck s.Got e.Servers.length)) (Is.ite (fun hc=>Is.T ?_) (fun hc=>Is.bind (qm5 (by omega) (by omega) (by omega)) (fun b hb2=>Is.of ?_))) (fun b hb=>qk1 (P:=¬ qnj e.Servers.length s) (Is.ite (fun hc=>Is.T ?_) (fun hc=>Is.bind (qle (by omega)) (fun b3 hb3=>Is.of ?_))))
   ·simp only [Bool.or_eq_true,Bool.and_eq_true,qf3] at hc
    rintro ⟨⟨a,b,c⟩,_⟩
    rcases hc with (hc | hc) | hc
    ·exact hc a
    ·omega
    ·exact c hc
   ·obtain ⟨hc,hc3⟩:=(Bool.or_eq_false_iff).1 hc
    obtain ⟨hc,hc2⟩:=(Bool.or_eq_false_iff).1 hc
    have b1:=dn qf3 hc
    have b2:=dn qf3 hc2
    have b3:¬ (s.Stands=true∧s.Leads=true):=by
     rw [←Bool.and_eq_true,hc3]; simp
    have b4:(-1≤s.Voted∧s.Voted<e.Servers.length):=by omega
    simp only [b1,b4,b3,not_false_eq_true,and_self,true_and,← hb2]
    cases b <;> simp
   ·rintro ⟨c1,c2,c3,_⟩
    rcases Bool.or_eq_true_iff.1 hc with hc | hc
    ·exact hb.1 hc ⟨c1,c2⟩
    ·simp only [Bool.and_eq_true,Bool.not_eq_true',decide_eq_true_eq] at hc
     have:=c3 hc.1.1 hc.1.2
     rw [this] at hc
     simp at hc
   ·obtain ⟨hc,hc2⟩:=(Bool.or_eq_false_iff).1 hc
    obtain ⟨c1,c2⟩:=dn hb hc
    have c3:s.Stands=false→s.Leads=false→s.Got=[]:=by
     intro h1 h2
     rw [h1,h2] at hc2
     simp at hc2
     exact hc2
    unfold qnj
    rw [←hb3]
    cases b3 with
    | false=>exact ⟨fun _ h=>(by cases h.2.2.2),fun _=>rfl⟩
    | true=>exact ⟨fun h=>(by cases h),fun h=>absurd ⟨c1,c2,c3,rfl⟩ h⟩
  ·unfold qdt
   refine Is.all (Q:=fun _ m=>qol e m) (by omega) (fun i m hm=>?_) (fun hq2=>?_) (fun hq2 hh=>hq2 hh.2.2.1)
   ·unfold qb1
    rw [hw]
    refine zcw (P:=(0≤m.To∧m.To≤(e.Servers.length:Int) - 1)∧((0≤m.From∧m.From≤(e.Servers.length:Int) - 1)∧m.To≠m.From)∧(∀ s,At e m.From s→0≤m.Term∧m.Term≤s.Term)∧((m.Asks=true→m.Grant=false∧(-1≤m.Last∧m.Last≤100)∧(0≤m.Long∧m.Long≤30))∧(m.Asks=false→m.Last=0∧m.Long=0))∧True) ?_ (by
     unfold qol
     constructor
     ·rintro ⟨a,⟨b,c⟩,d,⟨e1,e2⟩,_⟩
      exact ⟨by omega,by omega,c,d,e1,e2⟩
     ·rintro ⟨a,b,c,d,e1,e2⟩
      exact ⟨by omega,⟨by omega,c⟩,d,⟨e1,e2⟩,trivial⟩)
    refine qnc (F:=fun _=>none) qf3 (fun hp=>qnc (F:=fun _=>none) ?_ (fun hp2=>?_))
    ·simp only [Bool.or_eq_true,qf3,decide_eq_true_eq]
     exact ⟨fun h1 h2=>h1.elim (fun h3=>h3 h2.1) (fun h3=>h2.2 h3),fun h1=>Classical.byContradiction fun h2=>h1 ⟨Classical.byContradiction fun h3=>h2 (.inl h3),fun h3=>h2 (.inr h3)⟩⟩
    obtain ⟨s,hs⟩:=At.of (e:=e) hp2.1.1 (by have:=hp2.1.2; omega)
    refine zaw (a:=s) (Ev.of (by unfold z8; rw [if_pos hs.1]; exact hs.2)) (qnc (F:=fun _=>none) ?_ (fun hp3=>qnc (F:=fun _=>none) ?_ (fun _=>zdi)))
    ·rw [qf3]
     exact not_congr ⟨fun h1 t ht=>by cases ht.uniq hs; exact h1,fun h1=>h1 s hs⟩
    ·cases hA:m.Asks <;> cases hG:m.Grant <;> simp [zt] <;> omega
   ·unfold qd3 ug wm
    rcases qh2 (B:=fun _ i x _=>ya (fun a0=>some (ul a0 (List.length e.Servers:Int))) i x) (Q:=fun _ v=>¬ qn8 e.Servers.length v) (f:=fun i=>(i:Int)) (l:=e.Led) (by omega) (fun i x hx=>by
      unfold ya
      rw [Option.bind_some]
      refine qkk ?_
      unfold ul qn8
      rw [hw]
      simp only [Bool.or_eq_true,qf3]
      constructor
      ·rintro (h1 | h1) ⟨h2,h3⟩
       ·exact h1 h2
       ·omega
      ·intro h1
       by_cases h2:0≤x.Term∧x.Term≤100
       ·exact .inr (fun h3=>h1 ⟨h2,by omega⟩)
       ·exact .inl h2) with ⟨i,x,h1,h2,h3,h4⟩ | ⟨h1,h2⟩
    ·refine Is.bindv (a:=true) (Ev.bind (Ev.jn_ret h4) (Ev.of (by simp))) (Is.F ?_)
     exact fun hh=>h2 (hh.2.2.2 i x h1)
    ·refine Is.bindv (a:=false) (Ev.bind (Ev.jn h2 Ev.rfl) (Ev.of (by simp))) (Is.T ?_)
     exact ⟨⟨⟨by omega,by omega⟩,a2,a3⟩,hq,hq2,fun i v hv=>Classical.byContradiction fun hn=>h1 i v hv hn⟩
end Go.Proofs.Ytpddolihbnfahaa.X
