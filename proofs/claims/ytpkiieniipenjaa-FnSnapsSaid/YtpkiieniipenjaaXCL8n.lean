/- New worlds, and steps one after the other. -/
import Derived.Test.YtpkiieniipenjaaXCL8d
set_option linter.unusedVariables false
set_option linter.unusedSimpArgs false
namespace Go.Proofs.Ytpkiieniipenjaa.X
open Go

theorem qie {α:Type}{f:α→Nat}{m:Nat} : ∀ {l:List α},(∀ x∈l,f x≤m)→kd f l≤m*l.length:=by
 intro l
 induction l with
 | nil=>intro _; simp [kd]
 | cons a r ih =>
  intro h
  have h1:=h a (by simp)
  have h2:=ih (fun x hx=>h x (by simp [hx]))
  show f a+kd f r≤m*(r.length+1)
  rw [Nat.mul_add]; omega
theorem SnOk.nn_le {p:Nat}{s:Snap}(h:SnOk p s) : s.nn≤1000:=by
 have hp:=h.pp
 have h1:kd Chan.nn s.Chans≤8*s.Chans.length:=qie (fun c hc=>by
  obtain ⟨i,hi⟩:=List.getElem?_of_mem hc
  have:=(h.ch i c hi).2.2.2
  show c.Way.length+0≤8
  omega)
 have h2:kd Picture.nn s.Pictures≤8*s.Pictures.length:=qie (fun c hc=>by
  obtain ⟨i,hi⟩:=List.getElem?_of_mem hc
  have:=h.pi i c hi
  show c.In.length+(c.Closed.length+0)≤8
  omega)
 show s.Amounts.length+(nnL Chan.nn s.Chans+(nnL Picture.nn s.Pictures+0))≤1000
 unfold nnL
 have:=h.chl
 have:=h.am
 have:=h.pl
 omega
theorem qgh {p:Nat}(hp:2≤p∧p≤4) : (ya p).length≤12∧∀ c∈ya p,(0≤c.From∧c.From<p)∧(0≤c.To∧c.To<p)∧c.From≠c.To∧c.Way=[]:=by
 have:p=2∨p=3∨p=4:=by omega
 rcases this with rfl | rfl | rfl <;> exact ⟨by decide,by decide⟩
theorem qo7 {n:Nat}{a:Int} : (List.replicate n a).sum=n*a:=by
 induction n with
 | zero=>simp
 | succ n ih=>rw [List.replicate_succ,List.sum_cons,ih,Int.natCast_add,Int.add_mul]; omega
theorem qmk {p:Nat}{a:Int}(hp:2≤p∧p≤4)(ha:0≤a∧a≤250) : SnInv p 0 (uu p a):=by
 obtain ⟨c1,c2⟩:=qgh hp
 have hw:(y8 (ya p)).sum=0:=by
  have:∀ {l:List Chan},(∀ c∈l,c.Way=[])→(y8 l).sum=0:=by
   intro l
   induction l with
   | nil=>intro _; rfl
   | cons b r ih =>
    intro h
    show b.Way.sum+(y8 r).sum=0
    rw [ih (fun c hc=>h c (by simp [hc])),h b (by simp)]; rfl
  exact this (fun c hc=>(c2 c hc).2.2.2)
 refine ⟨⟨hp,by simp [uu],c1,fun i c hc=>?_,by simp [uu],fun i x hx=>?_⟩,fun z hz=>?_,fun i c hc z hz=>?_,?_,?_,by simp [uu],fun i x hx z hz=>?_⟩
 ·obtain ⟨h1,h2,h3,h4⟩:=c2 c (List.mem_of_getElem? hc)
  exact ⟨h1,h2,h3,by rw [h4]; simp⟩
 ·have:=List.eq_of_mem_replicate (List.mem_of_getElem? hx)
  subst this
  exact ⟨by simp,by simp⟩
 ·have:=List.eq_of_mem_replicate hz
  omega
 ·rw [(c2 c (List.mem_of_getElem? hc)).2.2.2] at hz
  cases hz
 ·show (List.replicate p a).sum+(y8 (ya p)).sum=p*a
  rw [hw,qo7]; omega
 ·show (p:Int)*a≤1000
  have:(p:Int)*a≤4*250:=Int.mul_le_mul (by omega) ha.2 ha.1 (by omega)
  omega
 ·have:=List.eq_of_mem_replicate (List.mem_of_getElem? hx)
  subst this
  have:=List.eq_of_mem_replicate hz
  subst this
  omega
inductive Plays (p:Nat) : Nat→Snap→List SnapStep→List Bool→Snap→Prop where
 | nil (n:Nat) (s:Snap) : Plays p n s [] [] s
 | cons {n:Nat} {s s' s2:Snap} {x:SnapStep} {l:List SnapStep} {b:Bool} {d:List Bool} (hi:SnInv p n s) (e1:yf s x=some (b,s')) (e2:∃ y,yx s x=some (y,b)∧(b=true→y=s')∧y.Chans.length≤12) (hf:b=false→s'=s) (hr:SRel s x b s') (t:Plays p (n+1) s' l d s2) : Plays p n s (x::l) (b::d) s2
theorem qwk {p:Nat} : ∀ {l:List SnapStep} {n:Nat} {s:Snap},SnInv p n s→n+l.length≤80→∃ d s',Plays p n s l d s'∧SnInv p (n+l.length) s':=by
 intro l
 induction l with
 | nil=>intro n s h hn; exact ⟨[],s,.nil n s,h⟩
 | cons x l ih =>
  intro n s h hn
  simp only [List.length_cons] at hn
  obtain ⟨b,s',e1,e2,hf,h',hr⟩:=qgm (x:=x) h (by omega)
  obtain ⟨d,s2,h1,h2⟩:=ih h' (by omega)
  exact ⟨b::d,s2,.cons h e1 e2 hf hr h1,by rw [List.length_cons,show n+(l.length+1)=n+1+l.length by omega]; exact h2⟩
theorem Plays.len {p n:Nat}{s s':Snap}{l:List SnapStep}{d:List Bool}(h:Plays p n s l d s') : d.length=l.length:=by
 induction h with
 | nil=>rfl
 | cons _ _ _ _ _ _ ih=>simp [ih]
theorem Plays.evS {p n:Nat}{s s':Snap}{l:List SnapStep}{d:List Bool}(h:Plays p n s l d s') : ∀ (i:Nat) (d0:List Bool),d0.length+l.length≤1000→kt (fun i80 x81 s203=>qai i80 x81 s203.1 s203.2) l i (d0,s)=some (.nxt (d0++d,s')):=by
 induction h with
 | nil n s=>intro i d0 _; rw [List.append_nil]; rfl
 | @cons n s s1 s2 x l b d hi e1 e2 hf hr t ih =>
  intro i d0 hl
  simp only [List.length_cons] at hl
  obtain ⟨y,e2,hy,_⟩:=e2
  have e3:=(qd0 (s:=s) (Nat.le_trans hi.ok.nn_le (by omega))).cst
  have ha:ye 1 d0 [b]=some (d0++[b]):=by unfold ye; rw [if_pos (by simp; omega)]
  have:=ih (i+1) (d0++[b]) (by simp; omega)
  rw [List.append_assoc] at this
  have hb2:qai i x d0 s=some (.nxt (d0++[b],s1)):=by
   refine qw e3 (qw e2 ?_)
   cases b with
   | true=>exact qw (jx rfl rfl) (qw ha (by rw [hy rfl]))
   | false=>exact qw (zu rfl rfl) (qw ha (by rw [hf rfl]))
  simp only [kt,hb2]
  exact this
theorem qtj {p:Nat}{a:Int}{s:Snap}{l:List SnapStep}{d:List Bool}(e:Ev (fun k=>ku k (p:Int) a) (uu p a,true))(h:Plays p 0 (uu p a) l d s)(hs:SnOk p s)(hl:l.length≤80) : Ev (fun k=>uk k (p:Int) a l) (s,d,true):=by
 unfold uk
 refine Ev.bind e (Ev.iteF (by simp; omega) (Ev.jn (s:=(d,s)) (Ev.of ?_) ?_))
 ·unfold jk
  rw [if_pos (by omega)]
  exact h.evS 0 [] (by simp; omega)
 ·exact Ev.bind (qd0 (Nat.le_trans hs.nn_le (by omega))) Ev.rfl
theorem q7d {p a:Int}{s:Snap}{b:Bool}{l:List SnapStep}(e:Ev (fun k=>ku k p a) (s,b))(h:b=false∨80<l.length) : Ev (fun k=>uk k p a l) (⟨[],[],[],0,0⟩,[],false):=by
 unfold uk
 refine Ev.bind e (Ev.iteT ?_ Ev.rfl)
 rcases h with rfl | h
 ·rfl
 ·simp; omega
end Go.Proofs.Ytpkiieniipenjaa.X
