/- A process takes its picture: the specification's and the program's are one. -/
import Derived.Test.YtpkiieniipenjaaXCL8a
set_option linter.unusedVariables false
set_option linter.unusedSimpArgs false
namespace Go.Proofs.Ytpkiieniipenjaa.X
open Go

theorem qfd {α:Type}{l:List α}{i:Nat}{x:α}(h:l[i]? = some x) : l.set i x=l:=by
 obtain ⟨hi,rfl⟩:=List.getElem?_eq_some_iff.1 h
 exact List.set_getElem_self hi
theorem qny {α ρ:Type}{B:Nat→List α→Option (Oc (List α) ρ)}{l:List α}{f:α→α}(hl:l.length≤1048576)(hB:∀ (i:Nat) x (s:List α),l[i]? = some x→s[i]? = some x→B i s=some (.nxt (s.set i (f x)))) : Ev (fun _=>w8 B (l.length:Int) l) (.nxt (l.map f)):=by
 simp only [qif]
 refine xg (B:=fun _ i _ s=>B i s) (by simp; omega) (fun i q s=>i+q.length=l.length∧s=(l.take i).map f++l.drop i) ⟨by simp,by simp⟩ (fun i u q s ⟨h1,hs⟩ => .inl ?_) (fun i s ⟨h1,hs⟩=>?_)
 ·subst hs
  simp only [List.length_cons] at h1
  have hi:i<l.length:=by omega
  have hx:l[i]? = some l[i]:=List.getElem?_eq_getElem hi
  have hlen:((l.take i).map f).length=i:=by simp; omega
  have hsx:((l.take i).map f++l.drop i)[i]? = some l[i]:=by
   rw [List.getElem?_append_right (by omega),hlen,Nat.sub_self,List.getElem?_drop,Nat.add_zero,hx]
  refine ⟨_,Ev.of (hB i _ _ hx hsx),by omega,?_⟩
  rw [List.set_append_right _ _ (by omega),hlen,Nat.sub_self,List.drop_eq_getElem_cons hi,List.set_cons_zero,List.take_add_one,hx,List.map_append]
  simp only [Option.toList_some,List.map_cons,List.map_nil,List.append_assoc,List.singleton_append]
 ·subst hs
  simp only [List.length_nil,Nat.add_zero] at h1
  rw [h1]
  simp
structure SnOk (p:Nat) (s:Snap) : Prop where
 pp:2≤p∧p≤4
 am:s.Amounts.length=p
 chl:s.Chans.length≤12
 ch:∀ (i:Nat) (c:Chan),s.Chans[i]? = some c→(0≤c.From∧c.From<p)∧(0≤c.To∧c.To<p)∧c.From≠c.To∧c.Way.length≤8
 pl:s.Pictures.length=p
 pi:∀ (i:Nat) (x:Picture),s.Pictures[i]? = some x→x.In.length=p∧x.Closed.length=p
def qe8 (s:Snap)(k:Int) : Prop:=∀ (i:Nat) (c:Chan),s.Chans[i]? = some c→c.From=k→c.Way.length≠8
def kv (k:Int)(c:Chan) : Chan:=if c.From=k then ⟨c.From,c.To,c.Way++[0]⟩ else c
def qas (s:Snap)(k:Nat)(x:Picture)(a:Int) : Snap:=⟨s.Amounts,s.Chans.map (kv k),s.Pictures.set k ⟨true,a,x.In,x.Closed.set k true⟩,s.Sent,s.Total⟩
theorem ql3 {ρ:Type}{B:Nat→List Chan→Option (Oc (List Chan) ρ)}{s:Snap}{k:Int}{r:ρ}(hl:s.Chans.length≤12)
  (hB:∀ (i:Nat) (c:Chan),s.Chans[i]? = some c→B i s.Chans=if ((decide (c.From=k))&&(decide ((List.length c.Way:Int)=8)))=true then some (.ret r) else some (.nxt s.Chans)) :
  (qe8 s k∧Ev (fun _=>w8 B (s.Chans.length:Int) s.Chans) (.nxt s.Chans))∨(¬ qe8 s k∧Ev (fun _=>w8 B (s.Chans.length:Int) s.Chans) (.ret r)):=by
 simp only [qif]
 by_cases h:qe8 s k
 ·refine .inl ⟨h,xg (B:=fun _ i _ s=>B i s) (by simp; omega) (fun i q t=>i+q.length=s.Chans.length∧t=s.Chans) ⟨by simp,rfl⟩ (fun i u q t ⟨h1,ht⟩ => .inl ?_) (fun i t ⟨h1,ht⟩=>by rw [ht])⟩
  subst ht
  simp only [List.length_cons] at h1
  obtain ⟨c,hc⟩:=js (l:=s.Chans) (i:=i) (by omega)
  refine ⟨s.Chans,Ev.of ?_,by omega,rfl⟩
  rw [hB i c hc,if_neg]
  simp only [Bool.and_eq_true,decide_eq_true_eq,not_and]
  intro h2 h3
  exact h i c hc h2 (by omega)
 ·refine .inr ⟨h,xg (B:=fun _ i _ s=>B i s) (by simp; omega) (fun i q t=>i+q.length=s.Chans.length∧t=s.Chans∧∀ (j:Nat) (c:Chan),j<i→s.Chans[j]? = some c→c.From=k→c.Way.length≠8) ⟨by simp,rfl,fun j c hj=>by omega⟩ (fun i u q t ⟨h1,ht,hp⟩=>?_) (fun i t ⟨h1,ht,hp⟩=>?_)⟩
  ·subst ht
   simp only [List.length_cons] at h1
   obtain ⟨c,hc⟩:=js (l:=s.Chans) (i:=i) (by omega)
   by_cases hb:c.From=k∧c.Way.length=8
   ·refine .inr (.inr ⟨r,Ev.of ?_,rfl⟩)
    rw [hB i c hc,if_pos (by simp only [Bool.and_eq_true,decide_eq_true_eq]; omega)]
   ·refine .inl ⟨s.Chans,Ev.of ?_,by omega,rfl,fun j c' hj hc' h2 h3=>?_⟩
    ·rw [hB i c hc,if_neg (by simp only [Bool.and_eq_true,decide_eq_true_eq]; omega)]
    ·rcases Nat.lt_or_ge j i with h4 | h4
     ·exact hp j c' h4 hc' h2 h3
     ·have:j=i:=by omega
      subst this
      rw [hc] at hc'
      cases hc'
      exact hb ⟨h2,h3⟩
  ·exfalso
   simp only [List.length_nil,Nat.add_zero] at h1
   exact h (fun j c hc h2=>hp j c (by have:=(List.getElem?_eq_some_iff.1 hc).1; omega) hc h2)
theorem qjf {p:Nat}{s:Snap}{k:Nat}(h:SnOk p s)(hk:k<p) : (¬ qe8 s k∧Ev (fun _=>yw s (k:Int)) (s,false)∧Ev (fun _=>wx s (k:Int)) (false,s)) ∨
  (qe8 s k∧∃ x a,s.Pictures[k]? = some x∧s.Amounts[k]? = some a∧Ev (fun _=>yw s (k:Int)) (qas s k x a,true)∧Ev (fun _=>wx s (k:Int)) (true,qas s k x a)):=by
 have hl:=h.chl
 obtain ⟨x,hx⟩:=js (l:=s.Pictures) (i:=k) (by rw [h.pl]; exact hk)
 obtain ⟨a,ha⟩:=js (l:=s.Amounts) (i:=k) (by rw [h.am]; exact hk)
 obtain ⟨c,hc⟩:=js (l:=x.Closed) (i:=k) (by rw [(h.pi k x hx).2]; exact hk)
 have sF:=ql3 (B:=fun i17 s93=>qbr s (k:Int) i17 s93) (s:=s) (k:=(k:Int)) (r:=(s,false)) hl (fun i c hc=>by
  unfold qbr
  rw [zz hc]
  rfl)
 have iF:=ql3 (B:=fun i7 s79=>u4 s (k:Int) i7 s79) (s:=s) (k:=(k:Int)) (r:=(false,s)) hl (fun i c hc=>by
  unfold u4
  rw [zz hc]
  rfl)
 rcases sF with ⟨r1,e1⟩ | ⟨r1,e1⟩
 ·rcases iF with ⟨r2,e2⟩ | ⟨r2,e2⟩
  ·refine .inr ⟨r1,x,a,hx,ha,?_,?_⟩
   ·unfold yw
    refine Ev.jn e1 ?_
    unfold qfe
    refine Ev.jn (qny (f:=kv (k:Int)) (by omega) (fun i c t hc ht=>?_)) ?_
    ·have hw:=(h.ch i c hc).2.2.2
     unfold qc8
     rw [zz ht,Option.bind_some]
     by_cases hf:c.From=(k:Int)
     ·rw [if_pos (by simpa using hf),qh0 (by omega),Option.bind_some,Int.toNat_natCast]
      unfold kv
      rw [if_pos hf]
     ·rw [if_neg (by simpa using hf)]
      unfold kv
      rw [if_neg hf,qfd ht]
    ·unfold qfa
     refine Ev.bindp (zz hx) (Ev.bindp (zz ha) (Ev.bindp (zz hc) ?_))
     rw [Int.toNat_natCast]
     exact Ev.rfl
   ·unfold wx
    refine Ev.jn e2 ?_
    unfold qdl
    refine Ev.jn (qny (f:=kv (k:Int)) (by omega) (fun i c t hc ht=>?_)) ?_
    ·have hw:=(h.ch i c hc).2.2.2
     unfold qbp
     rw [zz ht,Option.bind_some]
     by_cases hf:c.From=(k:Int)
     ·rw [if_pos (by simpa using hf),qh0 (by omega),Option.bind_some,Int.toNat_natCast]
      unfold kv
      rw [if_pos hf]
     ·rw [if_neg (by simpa using hf)]
      unfold kv
      rw [if_neg hf,qfd ht]
    ·unfold qdj
     refine Ev.bindp (zz hx) (Ev.bindp (zz ha) (Ev.bindp (zz hc) ?_))
     rw [Int.toNat_natCast]
     exact Ev.rfl
  ·exact absurd r1 r2
 ·rcases iF with ⟨r2,e2⟩ | ⟨r2,e2⟩
  ·exact absurd r2 r1
  ·exact .inl ⟨r1,by unfold yw; exact Ev.jn_ret e1,by unfold wx; exact Ev.jn_ret e2⟩
end Go.Proofs.Ytpkiieniipenjaa.X
