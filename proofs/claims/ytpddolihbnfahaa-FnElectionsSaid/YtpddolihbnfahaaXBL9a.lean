/- Elections: whether one is good, on both sides; logs and their last entries. -/
import Derived.Test.YtpddolihbnfahaaXBL9i
set_option linter.unusedVariables false
set_option linter.unusedSimpArgs false
namespace Go.Proofs.Ytpddolihbnfahaa.X
open Go

theorem quj {l:List Int}(hl:l.length≤4611686018427387904) : Is (fun _=>ub l) (qe1 l):=by
 unfold ub
 refine Is.all (Q:=fun i x=>0≤x∧x≤100∧∀ y,0<i→l[i - 1]? = some y→y≤x) hl (fun i x hx=>?_) (fun h=>Is.of ?_) (fun h h2=>h h2.1)
 ·unfold qas
  refine qk6 (Is.ite (fun hb=>Is.T ?_) (fun hb=>(qjt (g:=fun y=>decide (x<y)) hl (List.getElem?_eq_some_iff.1 hx).1).iff ?_))
  ·rw [qed] at hb; rintro ⟨a,b,_⟩; omega
  ·have hr:=dn qed hb
   constructor
   ·rintro ⟨y,h1,h2,h3⟩ ⟨_,_,h4⟩
    have:=h4 y h1 h2
    simp at h3
    omega
   ·intro h
    simp only [not_and] at h
    obtain ⟨y,h1,h2,h3⟩:=qiy (h hr.1 hr.2)
    exact ⟨y,h1,h2,by simp; omega⟩
 ·unfold qe1
  simp only [decide_eq_true_eq]
  exact ⟨fun e=>⟨h,by omega⟩,fun e=>by have:=e.2; omega⟩
theorem qs0 {l:List Int}(hl:l.length≤4611686018427387904) : Is (fun _=>xu l) (qe1 l):=by
 unfold xu
 refine Is.all (Q:=fun i x=>0≤x∧x≤100∧∀ y,0<i→l[i - 1]? = some y→y≤x) hl (fun i x hx=>?_) (fun h=>Is.of ?_) (fun h h2=>h h2.1)
 ·unfold u7
  refine qk6 (Is.ite (fun hb=>Is.T ?_) (fun hb=>(qjt (g:=fun y=>decide (x<y)) hl (List.getElem?_eq_some_iff.1 hx).1).iff ?_))
  ·rw [qow] at hb; rintro ⟨a,b,_⟩; omega
  ·have hr:=dn qow hb
   constructor
   ·rintro ⟨y,h1,h2,h3⟩ ⟨_,_,h4⟩
    have:=h4 y h1 h2
    simp at h3
    omega
   ·intro h
    simp only [not_and] at h
    obtain ⟨y,h1,h2,h3⟩:=qiy (h hr.1 hr.2)
    exact ⟨y,h1,h2,by simp; omega⟩
 ·unfold qe1
  simp only [decide_eq_true_eq]
  exact ⟨fun e=>⟨h,by omega⟩,fun e=>by have:=e.2; omega⟩
theorem qwe {l:List Int}(hl:l.length≤4611686018427387904)(h0:l.length≠0) : zr l (IntKind.wrap .i64 ((List.length l:Int) - 1))=some (jy l):=by
 rw [show IntKind.wrap .i64 ((List.length l:Int) - 1)=((l.length - 1:Nat) : Int) by rw [kh (by omega) (by omega)]; omega]
 have h1:l[l.length - 1]? = some (l[l.length - 1]'(by omega)):=List.getElem?_eq_getElem _
 rw [kx h1]
 unfold jy
 rw [List.getLast?_eq_getElem?,h1]
theorem qh2 {l:List Int}(hl:l.length≤4611686018427387904) : xv l=some (jy l):=by
 unfold xv
 by_cases h0:l.length=0
 ·rw [if_pos (by simp [h0])]
  rw [List.length_eq_zero_iff.1 h0]
  rfl
 ·rw [if_neg (by simp; exact fun h=>h0 (by simp [h])),qwe hl h0]
  rfl
theorem qlj {l:List Int}(hl:l.length≤4611686018427387904) : w6 l=some (jy l):=qh2 hl
theorem qv5 {a b:Int}{l:List Int}(hl:l.length≤4611686018427387904) : qag a b l=some (up9 a b l):=by
 unfold qag up9
 rw [qh2 hl]
 simp only [Option.bind_some]
 by_cases h:jy l<a
 ·rw [if_pos (by simpa using h)]
  simp [h]
 ·rw [if_neg (by simpa using h)]
  simp [h]
theorem q6t {a b:Int}{l:List Int}(hl:l.length≤4611686018427387904) : qfx a b l=some (up9 a b l):=qv5 hl

def qn5 (n:Nat)(s:Server) : Prop:=((0≤s.Term∧s.Term≤100)∧(-1≤s.Voted∧s.Voted<n)∧¬ (s.Stands=true∧s.Leads=true))∧qbn s.Got n∧(s.Stands=false→s.Leads=false→s.Got=[])∧qe1 s.Log
def qwb (e:Election)(m:Letter) : Prop:=(0≤m.To∧m.To<e.Servers.length)∧(0≤m.From∧m.From<e.Servers.length)∧m.To≠m.From∧(∀ s,At e m.From s→0≤m.Term∧m.Term≤s.Term)∧(m.Asks=true→m.Grant=false∧(-1≤m.Last∧m.Last≤100)∧(0≤m.Long∧m.Long≤30))∧(m.Asks=false→m.Last=0∧m.Long=0)
def qwj (n:Nat)(v:Vote) : Prop:=(0≤v.Term∧v.Term≤100)∧(0≤v.Leader∧v.Leader<n)
def elP (e:Election) : Prop:=((1≤e.Servers.length∧e.Servers.length≤5)∧e.Post.length≤20∧e.Led.length≤80)∧(∀ (i:Nat) s,e.Servers[i]? = some s→qn5 e.Servers.length s)∧(∀ (i:Nat) m,e.Post[i]? = some m→qwb e m)∧∀ (i:Nat) v,e.Led[i]? = some v→qwj e.Servers.length v
theorem qh6 {e:Election}(h:e.nn≤1048576) : e.Servers.length≤1048576∧e.Post.length≤1048576∧e.Led.length≤1048576∧∀ (i:Nat) s,e.Servers[i]? = some s→s.Got.length≤1048576∧s.Log.length≤1048576:=by
 have hh:nnL Server.nn e.Servers+(e.Post.length+(e.Led.length+0))≤1048576:=h
 have hl:=qjy (f:=Server.nn) (l:=e.Servers)
 refine ⟨by omega,by omega,by omega,fun i s hs=>?_⟩
 have:=qkc (f:=Server.nn) hs
 have h2:s.nn=s.Got.length+(s.Log.length+0):=rfl
 omega
theorem qky {e:Election}(h:e.nn≤1048576) : Is (fun _=>kt e) (elP e):=by
 obtain ⟨n1,n2,n3,n4⟩:=qh6 h
 unfold kt
 refine Is.ite (fun hb=>Is.F ?_) (fun hb=>?_)
 ·simp only [Bool.or_eq_true,qed,decide_eq_true_eq] at hb
  rintro ⟨⟨⟨_,_⟩,_,_⟩,_⟩
  omega
 ·obtain ⟨hb,hb3⟩:=(Bool.or_eq_false_iff).1 hb
  obtain ⟨hb,hb2⟩:=(Bool.or_eq_false_iff).1 hb
  have a1:=dn qed hb
  have a2:e.Post.length≤20:=by simp at hb2; omega
  have a3:e.Led.length≤80:=by simp at hb3; omega
  have hw:IntKind.wrap .i64 ((List.length e.Servers:Int) - 1)=(List.length e.Servers:Int) - 1:=kh (by omega) (by omega)
  refine Is.all (Q:=fun _ s=>qn5 e.Servers.length s) (by omega) (fun i s hs=>?_) (fun hq=>?_) (fun hq hh=>hq hh.2.1)
  ·obtain ⟨m1,m2⟩:=n4 i s hs
   unfold qau
   rw [hw]
   refine q4q (P:=¬ (((0≤s.Term∧s.Term≤100)∧(-1≤s.Voted∧s.Voted<e.Servers.length)∧¬ (s.Stands=true∧s.Leads=true))∧qbn s.Got e.Servers.length)) (Is.ite (fun hc=>Is.T ?_) (fun hc=>Is.bind (qk0 (by omega) (by omega) (by omega)) (fun b hb2=>Is.of ?_))) (fun b hb=>qk6 (P:=¬ qn5 e.Servers.length s) (Is.ite (fun hc=>Is.T ?_) (fun hc=>Is.bind (quj (by omega)) (fun b3 hb3=>Is.of ?_))))
   ·simp only [Bool.or_eq_true,Bool.and_eq_true,qed] at hc
    rintro ⟨⟨a,b,c⟩,_⟩
    rcases hc with (hc | hc) | hc
    ·exact hc a
    ·omega
    ·exact c hc
   ·obtain ⟨hc,hc3⟩:=(Bool.or_eq_false_iff).1 hc
    obtain ⟨hc,hc2⟩:=(Bool.or_eq_false_iff).1 hc
    have b1:=dn qed hc
    have b2:=dn qed hc2
    have b3:¬ (s.Stands=true∧s.Leads=true):=by
     rw [←Bool.and_eq_true,hc3]; simp
    have b4:(-1≤s.Voted∧s.Voted<e.Servers.length):=by omega
    simp only [b1,b4,b3,not_false_eq_true,and_self,true_and,← hb2]
    cases b <;> simp
   ·rintro ⟨c1,c2,c3,_⟩
    rcases Bool.or_eq_true_iff.1 hc with hc | hc
    ·exact hb.1 hc ⟨c1,c2⟩
    ·simp only [Bool.and_eq_true,Bool.not_eq_true',decide_eq_true_eq] at hc
     have:=c3 hc.1.1 hc.1.2
     rw [this] at hc
     simp at hc
   ·obtain ⟨hc,hc2⟩:=(Bool.or_eq_false_iff).1 hc
    obtain ⟨c1,c2⟩:=dn hb hc
    have c3:s.Stands=false→s.Leads=false→s.Got=[]:=by
     intro h1 h2
     rw [h1,h2] at hc2
     simp at hc2
     exact hc2
    unfold qn5
    rw [←hb3]
    cases b3 with
    | false=>exact ⟨fun _ h=>(by cases h.2.2.2),fun _=>rfl⟩
    | true=>exact ⟨fun h=>(by cases h),fun h=>absurd ⟨c1,c2,c3,rfl⟩ h⟩
  ·unfold qcg
   refine Is.all (Q:=fun _ m=>qwb e m) (by omega) (fun i m hm=>?_) (fun hq2=>?_) (fun hq2 hh=>hq2 hh.2.2.1)
   ·unfold qav
    rw [hw]
    refine q6z (P:=(0≤m.To∧m.To≤(e.Servers.length:Int) - 1)∧((0≤m.From∧m.From≤(e.Servers.length:Int) - 1)∧m.To≠m.From)∧(∀ s,At e m.From s→0≤m.Term∧m.Term≤s.Term)∧((m.Asks=true→m.Grant=false∧(-1≤m.Last∧m.Last≤100)∧(0≤m.Long∧m.Long≤30))∧(m.Asks=false→m.Last=0∧m.Long=0))∧True) ?_ (by
     unfold qwb
     constructor
     ·rintro ⟨a,⟨b,c⟩,d,⟨e1,e2⟩,_⟩
      exact ⟨by omega,by omega,c,d,e1,e2⟩
     ·rintro ⟨a,b,c,d,e1,e2⟩
      exact ⟨by omega,⟨by omega,c⟩,d,⟨e1,e2⟩,trivial⟩)
    refine qla (F:=fun _=>none) qed (fun hp=>qla (F:=fun _=>none) ?_ (fun hp2=>?_))
    ·simp only [Bool.or_eq_true,qed,decide_eq_true_eq]
     exact ⟨fun h1 h2=>h1.elim (fun h3=>h3 h2.1) (fun h3=>h2.2 h3),fun h1=>Classical.byContradiction fun h2=>h1 ⟨Classical.byContradiction fun h3=>h2 (.inl h3),fun h3=>h2 (.inr h3)⟩⟩
    obtain ⟨s,hs⟩:=At.of (e:=e) hp2.1.1 (by have:=hp2.1.2; omega)
    refine q5z (a:=s) (Ev.of (by unfold zr; rw [if_pos hs.1]; exact hs.2)) (qla (F:=fun _=>none) ?_ (fun hp3=>qla (F:=fun _=>none) ?_ (fun _=>q6v)))
    ·rw [qed]
     exact not_congr ⟨fun h1 t ht=>by cases ht.uniq hs; exact h1,fun h1=>h1 s hs⟩
    ·cases hA:m.Asks <;> cases hG:m.Grant <;> simp [zk] <;> omega
   ·unfold qco xa yn
    rcases qgb (B:=fun _ i x _=>ko (fun a0=>some (xh a0 (List.length e.Servers:Int))) i x) (Q:=fun _ v=>¬ qwj e.Servers.length v) (f:=fun i=>(i:Int)) (l:=e.Led) (by omega) (fun i x hx=>by
      unfold ko
      rw [Option.bind_some]
      refine qmt ?_
      unfold xh qwj
      rw [hw]
      simp only [Bool.or_eq_true,qed]
      constructor
      ·rintro (h1 | h1) ⟨h2,h3⟩
       ·exact h1 h2
       ·omega
      ·intro h1
       by_cases h2:0≤x.Term∧x.Term≤100
       ·exact .inr (fun h3=>h1 ⟨h2,by omega⟩)
       ·exact .inl h2) with ⟨i,x,h1,h2,h3,h4⟩ | ⟨h1,h2⟩
    ·refine Is.bindv (a:=true) (Ev.bind (Ev.jn_ret h4) (Ev.of (by simp))) (Is.F ?_)
     exact fun hh=>h2 (hh.2.2.2 i x h1)
    ·refine Is.bindv (a:=false) (Ev.bind (Ev.jn h2 Ev.rfl) (Ev.of (by simp))) (Is.T ?_)
     exact ⟨⟨⟨by omega,by omega⟩,a2,a3⟩,hq,hq2,fun i v hv=>Classical.byContradiction fun hn=>h1 i v hv hn⟩
end Go.Proofs.Ytpddolihbnfahaa.X
