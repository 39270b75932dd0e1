/- A raft: an election; the program. -/
import Derived.Test.YtanblnjomhgphaaXBL10e
open Go.Proofs.Ytanblnjomhgphaa.X.Ev renaming bindp→a0c,bind→a0e,iteF→a0b,iteT→a0l,rfl→a0h
open Int renaming toNat_natCast→a05
open Go.IntKind renaming wrap→r8
open List renaming length_cons→a0p,length_nil→a1y,length→p9
open Nat renaming add_zero→o9
set_option linter.unusedVariables false
set_option linter.unusedSimpArgs false
namespace Go.Proofs.Ytanblnjomhgphaa.X
open Go

theorem qn3 {n N i:Nat}{r:Raft}{K s:Int}(h:SG n r)(hK:je n K)(hN:N<32)(hi:i<n) : (¬ (i:Int)∈vts N→Ev (fun _=>kn r (N:Int) ((pr r K).Log.map Entry.Term) i s r.Peers) (.nxt (s,r.Peers)))∧((i:Int)∈vts N→(upD (pr r K).Log (pr r (i:Int)).Log→Ev (fun _=>kn r (N:Int) ((pr r K).Log.map Entry.Term) i s r.Peers) (.nxt (mxI s (pr r (i:Int)).Term,r.Peers)))∧(¬ upD (pr r K).Log (pr r (i:Int)).Log→Ev (fun _=>kn r (N:Int) ((pr r K).Log.map Entry.Term) i s r.Peers) (.ret (false,r)))):=by
 have hir:je n (i:Int):=⟨by omega,by omega⟩
 have g2:=(wv (r:=r) (k:=(i:Int)) (by rw [h.hn]; exact hir)).1
 have l1:=(h.pg K hK).lg
 have l2:=(h.pg _ hir).lg
 have hb:=(qnb (i:=i) hN (by have:=h.n1; omega)).1
 refine ⟨fun q=>?_,fun q=>?_⟩
 ·unfold kn
  exact a0c g2 (Ev.ck (by omega) (a0b (by simpa [hb] using q) a0h))
 ·obtain ⟨b,e1,e2⟩:=zfp (a:=(pr r K).Log) (b:=(pr r (i:Int)).Log) (by omega) (by omega)
  have hlen:((((pr r K).Log.map Entry.Term).length:Nat) : Int)=((pr r K).Log.length:Int):=by simp
  refine ⟨fun u=>?_,fun u=>?_⟩
  ·rw [e2.2 u] at e1
   unfold kn
   rw [hlen]
   exact a0c g2 (Ev.ck (by omega) (a0l (by simpa [hb] using q) (a0c (qpg (by omega)) (a0e (qnk (by omega)) (a0e e1 (a0b rfl a0h))))))
  ·have:b=false:=by
    cases b
    ·rfl
    ·exact absurd (e2.1 rfl) u
   rw [this] at e1
   unfold kn
   rw [hlen]
   exact a0c g2 (Ev.ck (by omega) (a0l (by simpa [hb] using q) (a0c (qpg (by omega)) (a0e (qnk (by omega)) (a0e e1 (a0l rfl a0h))))))
theorem qtc {n:Nat}{r:Raft}{K N:Int}(h:SG n r)(hN:N<0∨32≤N) : Ev (fun _=>wd r K N) (false,r):=by
 have hn:=h.hn
 have n5:=h.n1
 unfold wd
 have h4:Ev (fun _=>(if (decide (N<0))=true then (some true) else (ck (0≤(p9 r.Peers:Int)) (some (decide ((qde .i64 1 (p9 r.Peers:Int))≤N)))))) true:=by
  by_cases q:N<0
  ·exact a0l (by simpa using q) a0h
  ·refine a0b (by simpa using q) (Ev.ck (by omega) (Ev.of ?_))
   have:=zes ⟨n,by omega⟩
   rw [hn]
   have h32:qde .i64 1 (n:Int)≤32:=this
   rw [decide_eq_true (by omega)]
 exact a0e h4 (a0e (a:=true) (a0l rfl a0h) (a0l rfl a0h))
theorem zak {n N:Nat}{r:Raft}{K t:Int}(h:SG n r)(hK:je n K)(hN:N<32)(ht:isMx (fun v=>(pr r v).Term) t (fun w=>w∈vts N))(ht2:qak (vts N) n→t≤100) : (canE n r K t (vts N)→Ev (fun _=>wd r K (N:Int)) (true,⟨qgy r n K (t+1) (vts N),r.Mail⟩))∧(¬ canE n r K t (vts N)→Ev (fun _=>wd r K (N:Int)) (false,r)):=by
 have hn:=h.hn
 have n5:=h.n1
 have hvl:=qqq (N:=N)
 have hlg:=(h.pg K hK).lg
 have e2:r8 .i64 ((2:Int)*(kx (r8 .u64 (N:Int))))=2*((vts N).length:Int):=by
  rw [q1u hN]
  exact k9 (by omega) (by omega)
 have hbK:z8 .i64 (jo .i64 (N:Int) K) 1=0↔¬ K∈vts N:=by
  have:=(qnb (i:=K.toNat) hN (by have:=hK.1; have:=hK.2; omega)).2
  rwa [show ((K.toNat:Nat) : Int)=K by have:=hK.1; omega] at this
 obtain ⟨A,hA⟩ : ∃ A:Bool,A=decide (qde .i64 1 (n:Int)≤(N:Int)):=⟨_,rfl⟩
 obtain ⟨B,hB⟩ : ∃ B:Bool,B=decide (z8 .i64 (jo .i64 (N:Int) K) 1=0):=⟨_,rfl⟩
 have hA2:A=true↔¬ qak (vts N) n:=by rw [hA,decide_eq_true_iff]; exact q11 hN (by omega)
 have hB2:B=true↔¬ K∈vts N:=by rw [hB,decide_eq_true_iff]; exact hbK
 have h4:Ev (fun _=>(if (decide ((N:Int)<0))=true then (some true) else (ck (0≤(p9 r.Peers:Int)) (some (decide ((qde .i64 1 (p9 r.Peers:Int))≤(N:Int))))))) A:=by
  refine a0b (by simp) (Ev.ck (by omega) (Ev.of ?_))
  rw [hn,hA]
 have h22:Ev (fun _=>(if A=true then (some true) else (ck (0≤K) (some (decide ((z8 .i64 (jo .i64 (N:Int) K) 1)=0)))))) (A||B):=by
  cases hc:A with
  | false=>exact a0b rfl (Ev.ck hK.1 (Ev.of (by rw [hB]; rfl)))
  | true=>exact a0l rfl a0h
 have cond:((A||B)||(decide ((r8 .i64 ((2:Int)*(kx (r8 .u64 (N:Int)))))≤(p9 r.Peers:Int))))=true↔¬ (qak (vts N) n∧K∈vts N∧n<2*(vts N).length):=by
  rw [e2,hn]
  simp only [Bool.or_eq_true,decide_eq_true_eq,hA2,hB2]
  by_cases q1:qak (vts N) n <;> by_cases q2:K∈vts N <;> simp [q1,q2]
  omega
 have g1:=(wv (r:=r) (k:=K) (by rw [hn]; exact hK)).1
 have hup:∀ i:Nat,i<n→je n (i:Int):=fun i hi=>⟨by omega,by omega⟩
 have loop1:qak (vts N) n→(∀ v∈vts N,upD (pr r K).Log (pr r v).Log)→Ev (fun _=>wi (fun i84 s167=>kn r (N:Int) ((pr r K).Log.map Entry.Term) i84 s167.1 s167.2) (n:Int) (0,r.Peers)) (.nxt (t,r.Peers)):=fun hm hu=>by
  simp only [qdx]
  refine yo (B:=fun _ i _ s=>kn r (N:Int) ((pr r K).Log.map Entry.Term) i s.1 s.2) (by simp; omega) (fun i q s=>i+q.length=n∧s.2=r.Peers∧isMx (fun v=>(pr r v).Term) s.1 (fun w=>w∈vts N∧w<(i:Int))) ⟨by simp,rfl,isMx.nil (fun w hw=>by have:=((wl.1 hm).2 w hw.1).1; have:=hw.2; omega)⟩ (fun i _ q s ⟨h1,h2,h3⟩ => .inl ?_) (fun i s ⟨h1,h2,h3⟩=>?_)
  ·simp only [a0p] at h1
   obtain ⟨b1,b2⟩:=qn3 (s:=s.1) h hK hN (i:=i) (by omega)
   rw [h2]
   by_cases q:(i:Int)∈vts N
   ·exact ⟨_,(b2 q).1 (hu _ q),by omega,rfl,h3.add (v:=(i:Int)) (fun w=>by
     constructor
     ·rintro ⟨w1,w2⟩
      by_cases e:w=(i:Int)
      ·exact .inr e
      ·exact .inl ⟨w1,by omega⟩
     ·rintro (⟨w1,w2⟩ | e)
      ·exact ⟨w1,by omega⟩
      ·rw [e]; exact ⟨q,by omega⟩)⟩
   ·exact ⟨_,b1 q,by omega,rfl,h3.same (fun w=>by
     constructor
     ·rintro ⟨w1,w2⟩
      have:w≠(i:Int):=fun e=>q (by rw [←e]; exact w1)
      exact ⟨w1,by omega⟩
     ·rintro ⟨w1,w2⟩
      exact ⟨w1,by omega⟩)⟩
  ·simp only [a1y,o9] at h1
   have:=h3.same (S':=fun w=>w∈vts N) (fun w=>⟨fun q=>⟨q,by have:=((wl.1 hm).2 w q).2; omega⟩,fun q=>q.1⟩)
   have:=this.one ht
   obtain ⟨s1,s2⟩:=s
   dsimp only at this h2
   rw [this,h2]
 have pre:∀ {o:Bool × Raft},Ev (fun _=>(if ((A||B)||(decide ((r8 .i64 ((2:Int)*(kx (r8 .u64 (N:Int)))))≤(p9 r.Peers:Int))))=true then (some (false,
  r)) else (jn (wi (fun i84 s167=>kn r (N:Int) ((pr r K).Log.map Entry.Term) i84 s167.1 s167.2)
  (n:Int) (0,r.Peers)) (fun s311=>uv r K (N:Int) ((pr r K).Log.map Entry.Term) s311.1 s311.2)))) o→Ev (fun _=>wd r K (N:Int)) o:=fun ho=>by
  unfold wd
  refine a0e h4 (a0e h22 ?_)
  by_cases q:((A||B)||(decide ((r8 .i64 ((2:Int)*(kx (r8 .u64 (N:Int)))))≤(p9 r.Peers:Int))))=true
  ·simp only [if_pos q] at ho ⊢
   exact ho
  ·simp only [if_neg q] at ho ⊢
   rw [←hn] at ho
   exact a0c g1 (a0e (qnk (by omega)) ho)
 refine ⟨fun c=>pre ?_,fun c=>pre ?_⟩
 ·refine a0b (bF cond (fun q=>q ⟨c.m,c.k,c.q⟩)) (Ev.jn (loop1 c.m c.u) ?_)
  unfold uv
  refine a0b (by simpa using c.t) ?_
  refine Ev.jn (s:=stS r.Peers n K (t+1) (fun w=>w∈vts N)) ?_ ?_
  ·rw [hn]
   simp only [qdx]
   refine yo (B:=fun _ i _ s=>uy r K (N:Int) t i s) (by simp; omega) (fun i q s=>i+q.length=n∧s=stS r.Peers n K (t+1) (fun w=>w∈vts N∧w<(i:Int))) ⟨by simp,(qqm (fun w hw=>by have:=((wl.1 c.m).2 w hw.1).1; have:=hw.2; omega)).symm⟩ (fun i _ q s ⟨h1,h2⟩ => .inl ?_) (fun i s ⟨h1,h2⟩=>?_)
   ·simp only [a0p] at h1
    have hir:=hup i (by omega)
    obtain ⟨p1,p2,p3⟩:=qo1 (r:=r) (v:=(i:Int)) (by rw [hn]; exact hir)
    simp only [a05] at p2
    have hb:=(qnb (i:=i) hN (by omega)).1
    unfold uy
    by_cases q:(i:Int)∈vts N
    ·refine ⟨stS r.Peers n K (t+1) (fun w=>w∈vts N∧w<((i+1:Nat) : Int)),?_,by omega,rfl⟩
     have hg1:zy s (i:Int)=some (pr r (i:Int)):=y9 (by rw [h2]; exact qm7 p2 (fun w=>by have:=w.2; omega))
     refine Ev.ck (by omega) (a0l (by simpa [hb] using q) (a0c hg1 (a0c (qme (n:=r.Peers.length) (by omega)) (Ev.of ?_))))
     have e1:r8 .i64 (t+1)=t+1:=k9 (by have:=ht.z; omega) (by have:=ht2 c.m; omega)
     rw [e1]
     have:=qqj (n:=n) (K:=K) (t:=t+1) (S:=fun w=>w∈vts N∧w<(i:Int)) (S':=fun w=>w∈vts N∧w<((i+1:Nat) : Int)) p2 (fun w=>by
      constructor
      ·rintro ⟨w1,w2⟩
       by_cases e:w=(i:Int)
       ·exact .inr e
       ·exact .inl ⟨w1,by omega⟩
      ·rintro (⟨w1,w2⟩ | e)
       ·exact ⟨w1,by omega⟩
       ·rw [e]; exact ⟨q,by omega⟩)
     rw [←this,h2,hn,a05]
     rfl
    ·refine ⟨s,Ev.ck (by omega) (a0b (by simpa [hb] using q) a0h),by omega,?_⟩
     rw [h2]
     exact qnw (fun w=>by
      constructor
      ·rintro ⟨w1,w2⟩
       exact ⟨w1,by omega⟩
      ·rintro ⟨w1,w2⟩
       have:w≠(i:Int):=fun e=>q (by rw [←e]; exact w1)
       exact ⟨w1,by omega⟩)
   ·simp only [a1y,o9] at h1
    rw [h2]
    exact congrArg Oc.nxt (qnw (fun w=>⟨fun q=>⟨q,by have:=((wl.1 c.m).2 w q).2; omega⟩,fun q=>q.1⟩))
  ·unfold qd0
   obtain ⟨w1,w2,w3⟩:=qqs (t:=t+1) hn hK c.k
   rw [w3] at w1
   refine a0c w1 (a0c w2 (Ev.of ?_))
   unfold qgy
   rw [List.length_map]
 ·by_cases q:qak (vts N) n∧K∈vts N∧n<2*(vts N).length
  ·refine a0b (bF cond (fun w=>w q)) ?_
   by_cases u:∀ v∈vts N,upD (pr r K).Log (pr r v).Log
   ·have t100:t=100:=Classical.byContradiction fun w=>c ⟨q.1,q.2.1,q.2.2,u,w⟩
    refine Ev.jn (loop1 q.1 u) ?_
    unfold uv
    exact a0l (by simpa using t100) a0h
   ·refine Ev.jn_ret ?_
    simp only [qdx]
    refine yo (B:=fun _ i _ s=>kn r (N:Int) ((pr r K).Log.map Entry.Term) i s.1 s.2) (by simp; omega) (fun i q s=>i+q.length=n∧s.2=r.Peers∧∀ v∈vts N,v<(i:Int)→upD (pr r K).Log (pr r v).Log) ⟨by simp,rfl,fun v hv hv2=>by have:=((wl.1 q.1).2 v hv).1; omega⟩ (fun i _ q' s ⟨h1,h2,h3⟩=>?_) (fun i s ⟨h1,h2,h3⟩=>?_)
    ·simp only [a0p] at h1
     obtain ⟨b1,b2⟩:=qn3 (s:=s.1) h hK hN (i:=i) (by omega)
     rw [h2]
     by_cases q2:(i:Int)∈vts N
     ·by_cases w:upD (pr r K).Log (pr r (i:Int)).Log
      ·exact .inl ⟨_,(b2 q2).1 w,by omega,rfl,fun v hv hv2=>by
        by_cases e:v=(i:Int)
        ·rw [e]; exact w
        ·exact h3 v hv (by omega)⟩
      ·exact .inr (.inr ⟨_,(b2 q2).2 w,rfl⟩)
     ·exact .inl ⟨_,b1 q2,by omega,rfl,fun v hv hv2=>by
       have:v≠(i:Int):=fun e=>q2 (by rw [←e]; exact hv)
       exact h3 v hv (by omega)⟩
    ·simp only [a1y,o9] at h1
     exact absurd (fun v hv=>h3 v hv (by have:=((wl.1 q.1).2 v hv).2; omega)) u
  ·exact a0l (cond.2 q) a0h
end Go.Proofs.Ytanblnjomhgphaa.X
