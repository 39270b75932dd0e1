/- The functions' code comes to what the plain functions say (3). -/
import Derived.Test.YtjloihcijdcpeaaXBH2
set_option linter.unusedVariables false
set_option linter.unusedSimpArgs false
set_option maxRecDepth 100000
namespace Go.Proofs.Ytjloihcijdcpeaa.X
open Go
open Nat (reduceEqDiff)
theorem qcj {W:Nat→Bool}{h:Heap} (hW:∀ b,
  (geL h.length) b→W b=true) (l_0:List Int) (many_1:Int) (r:Bool) (hF:xx l_0 many_1=some r) : Ret E W 82 [lst cI l_0,
  .int .i64 many_1] h (fun v h'=>cut h.length h' E.sz false 9 v=some (.bool r)):=by
 refine Ret.of (fn:=x82) rfl (Run.of ?_)
 unfold xx at hF
 have zf0:zc [lst cI l_0,.int .i64 many_1] 0=lst cI l_0:=rfl
 have zf1:zc [lst cI l_0,.int .i64 many_1] 1 = .int .i64 many_1:=rfl
 generalize zc [lst cI l_0,.int .i64 many_1]=fr0 at zf0 zf1 ⊢
 have hS:Sep h (geL h.length) []:=Sep.nil h
 simp only [x82,qd,qc,qe,qa,q36,zf0,zo,qb,zt,B0,reduceIte,reduceEqDiff]
 obtain ⟨oc3,hX5,hk6⟩:=jh hF
 simp only [qyz]
 refine ye (σ:=Unit) l_0 (fun i1 x2 _=>qb1 l_0 many_1 i1 x2 ) (fun s fr' h'=>fr' 0=lst cI l_0∧fr' 1 = .int .i64 many_1∧fr' 7=lst cI l_0∧Sep h'
   (geL h.length) ([])) hX5 ⟨zf0,zf1,rfl,hS⟩ (by simp only [B0,reduceIte,reduceEqDiff]) (by simp only [B0,reduceIte,
   reduceEqDiff]) (fun _ _ _ h=>h) rfl rfl (fun _ _ _ _ h=>h) (fun _ _ _ _ h=>h) (fun _ _ _ _ h=>h) (by decide) ?_ ?_
 ·rintro i1 x2 _ fr15 h16 hx21 ⟨f18,f19,f20,hS17⟩ f22 f23 oc4 hF7 hr8 Q9 hN10 hB14 hK11 hR12 hE13
  unfold qb1 at hF7
  simp only [q1b,qd,qc,f22,qe,f20,zw,B0,reduceIte,reduceEqDiff]
  refine qg (v := .ref (cI x2) 0) (yg hx21 rfl) ?_
  simp only [qm,B0,reduceIte,reduceEqDiff]
  refine qg (v := .int .i64 x2) rfl ?_
  simp only [qe,qa,q0t,qd,qc,qp,qb,yl,B0,reduceIte,reduceEqDiff]
  refine zy 4 (fun fr' h'=>Sep h' (geL h.length) ([])∧fr' 20 = .bool ((decide (x2<0))||(decide
    (many_1≤x2)))∧fr' 0=lst cI l_0∧fr' 1 = .int .i64 many_1∧fr' 5 = .int .i64 (i1:Int)∧fr' 6 = .int .i64 x2∧fr' 7=lst cI l_0∧fr' 8 = .int .i64
    (List.length l_0:Int)∧fr' 9 = .int .i64 (i1:Int)) (fun Q24 hN25=>?_) ?_
  ·simp only [List.take_succ_cons,List.take_zero]
   simp only [qf (g:=16),B0,reduceIte,reduceEqDiff]
   refine zd (t:=(decide (x2<0))) (fun hg26=>?_) (fun hg26=>?_)
   ·simp only [hg26,qf (g:=16),z4,qu,qb,zk,qa,qn,B0,reduceIte,reduceEqDiff]
    exact hN25 _ _ ⟨hS17,by rw [orT hg26]; simp only [B0,reduceIte,reduceEqDiff],f18,f19,rfl,rfl,f20,f23,f22⟩
   ·simp only [hg26,qf (g:=16),qz,qe,f19,qp,qb,qcp,qu,zj,qa,qn,B0,reduceIte,reduceEqDiff]
    exact hN25 _ _ ⟨hS17,by rw [orF hg26]; simp only [B0,reduceIte,reduceEqDiff],f18,f19,rfl,rfl,f20,f23,f22⟩
  rintro fr27 h36 ⟨hS37,f28,f29,f30,f31,f32,f33,f34,f35⟩
  simp only [List.drop_succ_cons,List.drop_zero]
  simp only [f28,qe,B0,reduceIte,reduceEqDiff]
  obtain ⟨v41,hx42,hF43⟩:=ql hF7
  refine zy 12 (fun fr' h'=>Sep h' (geL h.length) ([])∧fr' 33 = .bool v41∧fr' 0=lst cI l_0∧fr' 1 = .int .i64 many_1∧fr' 7=lst cI l_0∧fr' 8 = .int .i64
    (List.length l_0:Int)∧fr' 9 = .int .i64 (i1:Int)) (fun Q38 hN39=>?_) ?_
  ·simp only [List.take_succ_cons,List.take_zero]
   simp only [qf (g:=21),B0,reduceIte,reduceEqDiff]
   refine zd (t:=((decide (x2<0))||(decide (many_1≤x2)))) (fun hg40=>?_) (fun hg40=>?_)
   ·rw [iteT hg40] at hx42
    simp only [hg40,qf (g:=21),z4,qf (g:=24),qey,qu,qb,zk,qa,qn,B0,reduceIte,reduceEqDiff]
    have e44:=qh hx42
    exact hN39 _ _ ⟨hS37,by rw [←e44]; simp only [B0,reduceIte,reduceEqDiff],f29,f30,f33,f34,f35⟩
   ·rw [iteF hg40] at hx42
    simp only [hg40,qf (g:=21),qz,f31,qe,qp,qb,qg7,B0,reduceIte,reduceEqDiff]
    obtain ⟨v48,hx49,hF50⟩:=ql hx42
    refine zy 8 (fun fr' h'=>Sep h' (geL h.length) ([])∧fr' 32 = .bool v48∧fr' 0=lst cI l_0∧fr' 1 = .int .i64 many_1∧fr' 7=lst cI l_0∧fr' 8 = .int .i64
      (List.length l_0:Int)∧fr' 9 = .int .i64 (i1:Int)∧fr' 21 = .bool ((decide (x2<0))||(decide (many_1≤x2)))) (fun Q45 hN46=>?_) ?_
    ·simp only [List.take_succ_cons,List.take_zero]
     simp only [qf (g:=24),B0,reduceIte,reduceEqDiff]
     refine zd (t:=(decide ((0:Int)<(i1:Int)))) (fun hg47=>?_) (fun hg47=>?_)
     ·rw [iteT hg47] at hx49
      obtain ⟨x51,hx52,hF53⟩:=ql hx49
      simp only [hg47,qf (g:=24),q9,f29,qe,f31,qp,qb,qh1,zw,B0,reduceIte,reduceEqDiff]
      refine qg (v := .ref (cI x51) 0) (kf hx52 rfl) ?_
      simp only [hg47,qf (g:=24),q9,qm,B0,reduceIte,reduceEqDiff]
      refine qg (v := .int .i64 x51) rfl ?_
      simp only [hg47,qf (g:=24),q9,f32,qe,qp,qb,qcp,hg40,qf (g:=21),qz,qu,zk,qa,
        qn,B0,reduceIte,reduceEqDiff]
      have e54:=qh hF53
      exact hN46 _ _ ⟨hS37,by rw [←e54]; simp only [B0,reduceIte,reduceEqDiff],f29,f30,f33,f34,f35,by simp only [hg40,B0,reduceIte,reduceEqDiff]⟩
     ·rw [iteF hg47] at hx49
      simp only [hg47,qf (g:=24),zv,hg40,qf (g:=21),qz,qu,qb,zj,qa,qn,B0,reduceIte,
        reduceEqDiff]
      have e55:=qh hx49
      exact hN46 _ _ ⟨hS37,by rw [←e55]; simp only [B0,reduceIte,reduceEqDiff],f29,f30,f33,f34,f35,by simp only [hg40,B0,reduceIte,reduceEqDiff]⟩
    rintro fr56 h64 ⟨hS65,f57,f58,f59,f60,f61,f62,f63⟩
    simp only [List.drop_succ_cons,List.drop_zero]
    simp only [f63,hg40,qu,qb,zj,f57,qa,qn,B0,reduceIte,reduceEqDiff]
    have e66:=qh hF50
    exact hN39 _ _ ⟨hS65,by rw [←e66]; simp only [B0,reduceIte,reduceEqDiff],f58,f59,f60,f61,f62⟩
  rintro fr67 h74 ⟨hS75,f68,f69,f70,f71,f72,f73⟩
  simp only [List.drop_succ_cons,List.drop_zero]
  simp only [qa,f68,qx,B0,reduceIte,reduceEqDiff]
  refine qr (t:=v41) (fun hc76=>?_) (fun hc76=>?_)
  ·rw [iteT hc76] at hF43
   simp only [qd,qc,qe,qa,qv,B0,reduceIte,reduceEqDiff]
   have e77:=qh hF43
   subst e77
   have ho78:=hr8 _ rfl
   have hk79:=hk6
   rw [ho78] at hk79
   dsimp only [jnO] at hk79
   apply hR12
   have he:=qh hk79
   subst he
   simp only [qw,B0,reduceIte,reduceEqDiff]
   exact rfl
  rw [iteF hc76] at hF43
  simp only [q8,qn,B0,reduceIte,reduceEqDiff]
  have e80:=qh hF43
  exact hN10 _ _ _ e80.symm ⟨f69,f70,f71,hS75⟩ (f73) (f72)
 rintro _ fr82 h83 rfl ⟨f85,f86,f87,hS84⟩
 dsimp only [jnO] at hk6
 unfold qf7 at hk6
 simp only [qd,qc,qe,qa,qv,B0,reduceIte,reduceEqDiff]
 have he:=qh hk6
 subst he
 simp only [qw,B0,reduceIte,reduceEqDiff]
 exact rfl
theorem qce {W:Nat→Bool}{h:Heap} (hW:∀ b,
  (geL h.length) b→W b=true) (l_0:List Int) (n_1:Int) (r:Bool) (hF:ul l_0 n_1=some r) : Ret E W 84 [lst cI l_0,
  .int .i64 n_1] h (fun v h'=>cut h.length h' E.sz false 9 v=some (.bool r)):=by
 refine Ret.of (fn:=x84) rfl (Run.of ?_)
 unfold ul at hF
 have zf0:zc [lst cI l_0,.int .i64 n_1] 0=lst cI l_0:=rfl
 have zf1:zc [lst cI l_0,.int .i64 n_1] 1 = .int .i64 n_1:=rfl
 generalize zc [lst cI l_0,.int .i64 n_1]=fr0 at zf0 zf1 ⊢
 have hS:Sep h (geL h.length) []:=Sep.nil h
 simp only [x84,qd,qc,qe,qa,qwr,zf0,zo,qb,zt,B0,reduceIte,reduceEqDiff]
 obtain ⟨oc3,hX5,hk6⟩:=jh hF
 simp only [q05]
 refine ye (σ:=Unit) l_0 (fun i1 x2 _=>qc2 n_1 i1 x2 ) (fun s fr' h'=>fr' 1 = .int .i64 n_1∧fr' 7=lst cI l_0∧Sep h' (geL h.length) ([])) hX5 ⟨zf1,
   rfl,hS⟩ (by simp only [B0,reduceIte,reduceEqDiff]) (by simp only [B0,reduceIte,
   reduceEqDiff]) (fun _ _ _ h=>h) rfl rfl (fun _ _ _ _ h=>h) (fun _ _ _ _ h=>h) (fun _ _ _ _ h=>h) (by decide) ?_ ?_
 ·rintro i1 x2 _ fr15 h16 hx20 ⟨f18,f19,hS17⟩ f21 f22 oc4 hF7 hr8 Q9 hN10 hB14 hK11 hR12 hE13
  unfold qc2 at hF7
  simp only [qw5,qd,qc,f19,f21,zw,B0,reduceIte,reduceEqDiff]
  refine qg (v := .ref (cI x2) 0) (yg hx20 rfl) ?_
  simp only [qm,B0,reduceIte,reduceEqDiff]
  refine qg (v := .int .i64 x2) rfl ?_
  simp only [qe,qa,q1p,qd,qc,f18,qp,qb,je,qx,B0,reduceIte,reduceEqDiff]
  refine qr (t:=(decide (x2=n_1))) (fun hc23=>?_) (fun hc23=>?_)
  ·rw [iteT hc23] at hF7
   simp only [qd,qc,qe,qa,qv,B0,reduceIte,reduceEqDiff]
   have e24:=qh hF7
   subst e24
   have ho25:=hr8 _ rfl
   have hk26:=hk6
   rw [ho25] at hk26
   dsimp only [jnO] at hk26
   apply hR12
   have he:=qh hk26
   subst he
   simp only [qw,B0,reduceIte,reduceEqDiff]
   exact rfl
  rw [iteF hc23] at hF7
  simp only [q8,qn,B0,reduceIte,reduceEqDiff]
  have e27:=qh hF7
  exact hN10 _ _ _ e27.symm ⟨f18,f19,hS17⟩ (f21) (f22)
 rintro _ fr29 h30 rfl ⟨f32,f33,hS31⟩
 dsimp only [jnO] at hk6
 unfold qhk at hk6
 simp only [qd,qc,qe,qa,qv,B0,reduceIte,reduceEqDiff]
 have he:=qh hk6
 subst he
 simp only [qw,B0,reduceIte,reduceEqDiff]
 exact rfl
theorem qf3 {W:Nat→Bool}{h:Heap} (hW:∀ b,
  (geL h.length) b→W b=true) (c_0:Control) (l_1:List Int) (r:Int) (hF:qae c_0 l_1=some r) : Ret E W 85 [.agg [lst qi c_0.Brokers,
  lst qj c_0.Parts,.int .i64 c_0.Next],lst cI l_1] h (fun v h'=>cut h.length h' E.sz false 9 v=some (.int .i64 r)):=by
 refine Ret.of (fn:=x85) rfl (Run.of ?_)
 unfold qae at hF
 have zf0:zc [.agg [lst qi c_0.Brokers,lst qj c_0.Parts,.int .i64 c_0.Next],lst cI l_1] 0 = .agg [lst qi c_0.Brokers,
   lst qj c_0.Parts,.int .i64 c_0.Next]:=rfl
 have zf1:zc [.agg [lst qi c_0.Brokers,lst qj c_0.Parts,.int .i64 c_0.Next],lst cI l_1] 1=lst cI l_1:=rfl
 generalize zc [.agg [lst qi c_0.Brokers,lst qj c_0.Parts,.int .i64 c_0.Next],lst cI l_1]=fr0 at zf0 zf1 ⊢
 have hS:Sep h (geL h.length) []:=Sep.nil h
 simp only [x85,qd,qc,jm,zf0,B0,reduceIte,reduceEqDiff]
 refine z8 (cs:=[lst qi c_0.Brokers,lst qj c_0.Parts,.int .i64 c_0.Next]) hS rfl rfl rfl (fun b1 h2 hS3=>?_)
 simp only [qe,qa,B0,reduceIte,reduceEqDiff]
 refine zu hS3 hW (by simp only [B0,reduceIte,reduceEqDiff]) (fun h5 hS6=>?_)
 simp only [zx,qvw,qd,qc,zf1,qe,zo,qb,zt,qa,B0,reduceIte,reduceEqDiff]
 obtain ⟨oc9,hX11,hk12⟩:=jh hF
 simp only [q2f]
 refine ye (σ:=Unit) l_1 (fun i7 x8 _=>yh c_0 i7 x8 ) (fun s fr' h'=>fr' 2 = .ref [lst qi c_0.Brokers,lst qj c_0.Parts,
   .int .i64 c_0.Next] 0∧fr' 7=lst cI l_1∧Sep h' (geL h.length) ([])) hX11 ⟨rfl,rfl,hS6⟩ (by simp only [B0,reduceIte,reduceEqDiff]) (by simp only [B0,reduceIte,
   reduceEqDiff]) (fun _ _ _ h=>h) rfl rfl (fun _ _ _ _ h=>h) (fun _ _ _ _ h=>h) (fun _ _ _ _ h=>h) (by decide) ?_ ?_
 ·rintro i7 x8 _ fr21 h22 hx26 ⟨f24,f25,hS23⟩ f27 f28 oc10 hF13 hr14 Q15 hN16 hB20 hK17 hR18 hE19
  unfold yh at hF13
  simp only [q0y,qd,qc,f25,f27,zw,B0,reduceIte,reduceEqDiff]
  refine qg (v := .ref (cI x8) 0) (yg hx26 rfl) ?_
  simp only [qm,B0,reduceIte,reduceEqDiff]
  refine qg (v := .int .i64 x8) rfl ?_
  simp only [qe,qa,q10,qd,qc,f24,qo,qb,Nat.reduceAdd,Nat.zero_add,Nat.add_zero,qq,qm,B0,reduceIte,reduceEqDiff]
  refine qg (v:=lst qi c_0.Brokers) rfl ?_
  obtain ⟨x29,hx30,hF31⟩:=ql hF13
  simp only [qe,zw,B0,reduceIte,reduceEqDiff]
  refine qg (v := .ref (qi x29) 0) (kf hx30 rfl) ?_
  simp only [qo,qb,Nat.reduceAdd,Nat.zero_add,Nat.add_zero,qq,qm,B0,reduceIte,reduceEqDiff]
  refine qg (v := .bool x29.Fenced) rfl ?_
  simp only [jl,qb,kd,qa,q1n,qx,B0,reduceIte,reduceEqDiff]
  refine qr (t:=(!x29.Fenced)) (fun hc32=>?_) (fun hc32=>?_)
  ·rw [iteT hc32] at hF31
   simp only [qd,qc,qe,qa,qv,B0,reduceIte,reduceEqDiff]
   have e33:=qh hF31
   subst e33
   have ho34:=hr14 _ rfl
   have hk35:=hk12
   rw [ho34] at hk35
   dsimp only [jnO] at hk35
   apply hR18
   have he:=qh hk35
   subst he
   simp only [qw,B0,reduceIte,reduceEqDiff]
   exact rfl
  rw [iteF hc32] at hF31
  simp only [q8,qn,B0,reduceIte,reduceEqDiff]
  have e36:=qh hF31
  exact hN16 _ _ _ e36.symm ⟨f24,f25,hS23⟩ (f27) (f28)
 rintro _ fr38 h39 rfl ⟨f41,f42,hS40⟩
 dsimp only [jnO] at hk12
 unfold qfw at hk12
 simp only [qd,qc,qe,qa,qv,B0,reduceIte,reduceEqDiff]
 have he:=qh hk12
 subst he
 simp only [qw,B0,reduceIte,reduceEqDiff]
 exact rfl
theorem qhv {W:Nat→Bool}{h:Heap} (hW:∀ b,
  (geL h.length) b→W b=true) (a_0:List Int) (b_1:List Int) (r:Bool) (hF:qck a_0 b_1=some r) : Ret E W 86 [lst cI a_0,
  lst cI b_1] h (fun v h'=>cut h.length h' E.sz false 9 v=some (.bool r)):=by
 refine Ret.of (fn:=x86) rfl (Run.of ?_)
 unfold qck at hF
 have zf0:zc [lst cI a_0,lst cI b_1] 0=lst cI a_0:=rfl
 have zf1:zc [lst cI a_0,lst cI b_1] 1=lst cI b_1:=rfl
 generalize zc [lst cI a_0,lst cI b_1]=fr0 at zf0 zf1 ⊢
 have hS:Sep h (geL h.length) []:=Sep.nil h
 simp only [x86,qd,qc,qe,qa,q4c,zf1,zo,qb,zt,B0,reduceIte,reduceEqDiff]
 obtain ⟨oc3,hX5,hk6⟩:=jh hF
 simp only [qwk]
 refine ye (σ:=Unit) b_1 (fun i1 x2 _=>qc1 a_0 i1 x2 ) (fun s fr' h'=>fr' 0=lst cI a_0∧fr' 7=lst cI b_1∧Sep h' (geL h.length) ([])) hX5 ⟨zf0,rfl,
   hS⟩ (by simp only [B0,reduceIte,reduceEqDiff]) (by simp only [B0,reduceIte,
   reduceEqDiff]) (fun _ _ _ h=>h) rfl rfl (fun _ _ _ _ h=>h) (fun _ _ _ _ h=>h) (fun _ _ _ _ h=>h) (by decide) ?_ ?_
 ·rintro i1 x2 _ fr15 h16 hx20 ⟨f18,f19,hS17⟩ f21 f22 oc4 hF7 hr8 Q9 hN10 hB14 hK11 hR12 hE13
  unfold qc1 at hF7
  simp only [q1f,qd,qc,f19,f21,zw,B0,reduceIte,reduceEqDiff]
  refine qg (v := .ref (cI x2) 0) (yg hx20 rfl) ?_
  simp only [qm,B0,reduceIte,reduceEqDiff]
  refine qg (v := .int .i64 x2) rfl ?_
  obtain ⟨v23,hx24,hF25⟩:=ql hF7
  simp only [qe,qa,q2a,qd,qc,f18,zf,B0,reduceIte,reduceEqDiff]
  refine ja rfl (qk zm (qk qs zg)) (qce (fun b hb=>decide_eq_true hb) a_0 x2 v23 hx24) ?_
  simp only [jl,qb,kd,qa,qx,B0,reduceIte,reduceEqDiff]
  refine qr (t:=(!v23)) (fun hc26=>?_) (fun hc26=>?_)
  ·rw [iteT hc26] at hF25
   simp only [qd,qc,qe,qa,qv,B0,reduceIte,reduceEqDiff]
   have e27:=qh hF25
   subst e27
   have ho28:=hr8 _ rfl
   have hk29:=hk6
   rw [ho28] at hk29
   dsimp only [jnO] at hk29
   apply hR12
   have he:=qh hk29
   subst he
   simp only [qw,B0,reduceIte,reduceEqDiff]
   exact rfl
  rw [iteF hc26] at hF25
  simp only [q8,qn,B0,reduceIte,reduceEqDiff]
  have e30:=qh hF25
  exact hN10 _ _ _ e30.symm ⟨f18,f19,hS17⟩ (f21) (f22)
 rintro _ fr32 h33 rfl ⟨f35,f36,hS34⟩
 dsimp only [jnO] at hk6
 unfold qhj at hk6
 simp only [qd,qc,qe,qa,qv,B0,reduceIte,reduceEqDiff]
 have he:=qh hk6
 subst he
 simp only [qw,B0,reduceIte,reduceEqDiff]
 exact rfl
theorem qks {W:Nat→Bool}{h:Heap} (hW:∀ b,
  (geL h.length) b→W b=true) (v_0:Control) (v_1:Partition) (r:Bool) (hF:qb6 v_0 v_1=some r) : Ret E W 59 [.agg [lst qi v_0.Brokers,
  lst qj v_0.Parts,.int .i64 v_0.Next],.agg [lst cI v_1.Homes,lst cI v_1.InStep,.int .i64 v_1.Leader,.int .i64 v_1.Epoch,
  .int .i64 v_1.Stamp]] h (fun v h'=>cut h.length h' E.sz false 9 v=some (.bool r)):=by
 refine Ret.of (fn:=x59) rfl (Run.of ?_)
 unfold qb6 at hF
 have zf0:zc [.agg [lst qi v_0.Brokers,lst qj v_0.Parts,.int .i64 v_0.Next],.agg [lst cI v_1.Homes,lst cI v_1.InStep,.int .i64 v_1.Leader,
   .int .i64 v_1.Epoch,.int .i64 v_1.Stamp]] 0 = .agg [lst qi v_0.Brokers,lst qj v_0.Parts,.int .i64 v_0.Next]:=rfl
 have zf1:zc [.agg [lst qi v_0.Brokers,lst qj v_0.Parts,.int .i64 v_0.Next],.agg [lst cI v_1.Homes,lst cI v_1.InStep,.int .i64 v_1.Leader,
   .int .i64 v_1.Epoch,.int .i64 v_1.Stamp]] 1 = .agg [lst cI v_1.Homes,lst cI v_1.InStep,.int .i64 v_1.Leader,.int .i64 v_1.Epoch,.int .i64 v_1.Stamp]:=rfl
 generalize zc [.agg [lst qi v_0.Brokers,lst qj v_0.Parts,.int .i64 v_0.Next],.agg [lst cI v_1.Homes,lst cI v_1.InStep,.int .i64 v_1.Leader,
   .int .i64 v_1.Epoch,.int .i64 v_1.Stamp]]=fr0 at zf0 zf1 ⊢
 have hS:Sep h (geL h.length) []:=Sep.nil h
 simp only [x59,qd,qc,jm,zf0,B0,reduceIte,reduceEqDiff]
 refine z8 (cs:=[lst qi v_0.Brokers,lst qj v_0.Parts,.int .i64 v_0.Next]) hS rfl rfl rfl (fun b1 h2 hS3=>?_)
 simp only [jm,zf1,B0,reduceIte,reduceEqDiff]
 refine z8 (cs:=[lst cI v_1.Homes,lst cI v_1.InStep,.int .i64 v_1.Leader,.int .i64 v_1.Epoch,.int .i64 v_1.Stamp]) hS3 rfl rfl rfl (fun b5 h6 hS7=>?_)
 simp only [qe,qa,B0,reduceIte,reduceEqDiff]
 refine zu (Sep.m1 hS7) hW (by simp only [B0,reduceIte,reduceEqDiff]) (fun h9 hS10=>?_)
 refine zu hS10 hW (by simp only [B0,reduceIte,reduceEqDiff]) (fun h11 hS12=>?_)
 simp only [zx,qvx,qd,qc,qo,qb,Nat.reduceAdd,Nat.zero_add,Nat.add_zero,qq,qm,B0,reduceIte,reduceEqDiff]
 refine qg (v:=lst cI v_1.Homes) rfl ?_
 simp only [zo,qb,zt,qp,je,qe,B0,reduceIte,reduceEqDiff]
 obtain ⟨v16,hx17,hF18⟩:=ql hF
 refine zy 8 (fun fr' h'=>Sep h' (geL h.length) ([])∧fr' 17 = .bool v16∧fr' 2 = .ref [lst qi v_0.Brokers,lst qj v_0.Parts,
   .int .i64 v_0.Next] 0∧fr' 3 = .ref [lst cI v_1.Homes,lst cI v_1.InStep,.int .i64 v_1.Leader,.int .i64 v_1.Epoch,.int .i64 v_1.Stamp] 0) (fun Q13 hN14=>?_) ?_
 ·simp only [List.take_succ_cons,List.take_zero]
  simp only [qf (g:=9),B0,reduceIte,reduceEqDiff]
  refine zd (t:=(decide ((List.length v_1.Homes:Int)=0))) (fun hg15=>?_) (fun hg15=>?_)
  ·rw [iteT hg15] at hx17
   simp only [hg15,qf (g:=9),z4,qu,qb,zk,qa,qn,B0,reduceIte,reduceEqDiff]
   have e19:=qh hx17
   exact hN14 _ _ ⟨hS12,by rw [←e19]; simp only [B0,reduceIte,reduceEqDiff],rfl,rfl⟩
  ·rw [iteF hg15] at hx17
   simp only [hg15,qf (g:=9),qz,qo,qb,Nat.reduceAdd,Nat.zero_add,Nat.add_zero,qq,qm,B0,reduceIte,reduceEqDiff]
   refine qg (v:=lst cI v_1.Homes) rfl ?_
   simp only [hg15,qf (g:=9),qz,qo,qb,Nat.reduceAdd,Nat.zero_add,Nat.add_zero,qq,qm,B0,reduceIte,reduceEqDiff]
   refine qg (v:=lst qi v_0.Brokers) rfl ?_
   obtain ⟨v20,hx21,hF22⟩:=ql hx17
   simp only [hg15,qf (g:=9),qz,zo,qb,zt,zf,B0,reduceIte,reduceEqDiff]
   refine ja rfl (qk zm (qk qs zg)) (qcj (fun b hb=>decide_eq_true hb) v_1.Homes (List.length v_0.Brokers:Int) v20 hx21) ?_
   simp only [hg15,qf (g:=9),qz,jl,qb,kd,qu,zj,qa,qn,B0,reduceIte,reduceEqDiff]
   have e23:=qh hF22
   exact hN14 _ _ ⟨hS12,by rw [←e23]; simp only [B0,reduceIte,reduceEqDiff],rfl,rfl⟩
 rintro fr24 h28 ⟨hS29,f25,f26,f27⟩
 simp only [List.drop_succ_cons,List.drop_zero]
 simp only [f25,qe,B0,reduceIte,reduceEqDiff]
 refine zy 5 (fun fr' h'=>Sep h' (geL h.length) ([])∧fr' 23 = .bool (v16||(decide ((List.length v_1.InStep:Int)=0)))∧fr' 2 = .ref [lst qi v_0.Brokers,
   lst qj v_0.Parts,.int .i64 v_0.Next] 0∧fr' 3 = .ref [lst cI v_1.Homes,lst cI v_1.InStep,.int .i64 v_1.Leader,.int .i64 v_1.Epoch,
   .int .i64 v_1.Stamp] 0) (fun Q30 hN31=>?_) ?_
 ·simp only [List.take_succ_cons,List.take_zero]
  simp only [qf (g:=18),B0,reduceIte,reduceEqDiff]
  refine zd (t:=v16) (fun hg32=>?_) (fun hg32=>?_)
  ·simp only [hg32,qf (g:=18),z4,qu,qb,zk,qa,qn,B0,reduceIte,reduceEqDiff]
   exact hN31 _ _ ⟨hS29,by rw [orT hg32]; simp only [B0,reduceIte,reduceEqDiff],f26,f27⟩
  ·simp only [hg32,qf (g:=18),qz,f27,qo,qb,Nat.reduceAdd,Nat.zero_add,Nat.add_zero,qq,qm,B0,reduceIte,reduceEqDiff]
   refine qg (v:=lst cI v_1.InStep) rfl ?_
   simp only [hg32,qf (g:=18),qz,zo,qb,zt,qp,je,qu,zj,qa,qn,B0,reduceIte,reduceEqDiff]
   exact hN31 _ _ ⟨hS29,by rw [orF hg32]; simp only [B0,reduceIte,reduceEqDiff],f26,f27⟩
 rintro fr33 h37 ⟨hS38,f34,f35,f36⟩
 simp only [List.drop_succ_cons,List.drop_zero]
 simp only [f34,qe,B0,reduceIte,reduceEqDiff]
 obtain ⟨v42,hx43,hF44⟩:=ql hF18
 refine zy 8 (fun fr' h'=>Sep h' (geL h.length) ([])∧fr' 32 = .bool v42∧fr' 2 = .ref [lst qi v_0.Brokers,lst qj v_0.Parts,
   .int .i64 v_0.Next] 0∧fr' 3 = .ref [lst cI v_1.Homes,lst cI v_1.InStep,.int .i64 v_1.Leader,.int .i64 v_1.Epoch,.int .i64 v_1.Stamp] 0) (fun Q39 hN40=>?_) ?_
 ·simp only [List.take_succ_cons,List.take_zero]
  simp only [qf (g:=24),B0,reduceIte,reduceEqDiff]
  refine zd (t:=(v16||(decide ((List.length v_1.InStep:Int)=0)))) (fun hg41=>?_) (fun hg41=>?_)
  ·rw [iteT hg41] at hx43
   simp only [hg41,qf (g:=24),z4,qu,qb,zk,qa,qn,B0,reduceIte,reduceEqDiff]
   have e45:=qh hx43
   exact hN40 _ _ ⟨hS38,by rw [←e45]; simp only [B0,reduceIte,reduceEqDiff],f35,f36⟩
  ·rw [iteF hg41] at hx43
   simp only [hg41,qf (g:=24),qz,f36,qo,qb,Nat.reduceAdd,Nat.zero_add,Nat.add_zero,qq,qm,B0,reduceIte,reduceEqDiff]
   refine qg (v:=lst cI v_1.InStep) rfl ?_
   simp only [hg41,qf (g:=24),qz,f35,qo,qb,Nat.reduceAdd,Nat.zero_add,Nat.add_zero,qq,qm,B0,reduceIte,reduceEqDiff]
   refine qg (v:=lst qi v_0.Brokers) rfl ?_
   obtain ⟨v46,hx47,hF48⟩:=ql hx43
   simp only [hg41,qf (g:=24),qz,zo,qb,zt,zf,B0,reduceIte,reduceEqDiff]
   refine ja rfl (qk zm (qk qs zg)) (qcj (fun b hb=>decide_eq_true hb) v_1.InStep (List.length v_0.Brokers:Int) v46 hx47) ?_
   simp only [hg41,qf (g:=24),qz,jl,qb,kd,qu,zj,qa,qn,B0,reduceIte,reduceEqDiff]
   have e49:=qh hF48
   exact hN40 _ _ ⟨hS38,by rw [←e49]; simp only [B0,reduceIte,reduceEqDiff],f35,f36⟩
 rintro fr50 h54 ⟨hS55,f51,f52,f53⟩
 simp only [List.drop_succ_cons,List.drop_zero]
 simp only [f51,qe,B0,reduceIte,reduceEqDiff]
 obtain ⟨v59,hx60,hF61⟩:=ql hF44
 refine zy 7 (fun fr' h'=>Sep h' (geL h.length) ([])∧fr' 40 = .bool v59∧fr' 2 = .ref [lst qi v_0.Brokers,lst qj v_0.Parts,
   .int .i64 v_0.Next] 0∧fr' 3 = .ref [lst cI v_1.Homes,lst cI v_1.InStep,.int .i64 v_1.Leader,.int .i64 v_1.Epoch,.int .i64 v_1.Stamp] 0) (fun Q56 hN57=>?_) ?_
 ·simp only [List.take_succ_cons,List.take_zero]
  simp only [qf (g:=33),B0,reduceIte,reduceEqDiff]
  refine zd (t:=v42) (fun hg58=>?_) (fun hg58=>?_)
  ·rw [iteT hg58] at hx60
   simp only [hg58,qf (g:=33),z4,qu,qb,zk,qa,qn,B0,reduceIte,reduceEqDiff]
   have e62:=qh hx60
   exact hN57 _ _ ⟨hS55,by rw [←e62]; simp only [B0,reduceIte,reduceEqDiff],f52,f53⟩
  ·rw [iteF hg58] at hx60
   simp only [hg58,qf (g:=33),qz,f53,qo,qb,Nat.reduceAdd,Nat.zero_add,Nat.add_zero,qq,qm,B0,reduceIte,reduceEqDiff]
   refine qg (v:=lst cI v_1.Homes) rfl ?_
   simp only [hg58,qf (g:=33),qz,f53,qo,qb,Nat.reduceAdd,Nat.zero_add,Nat.add_zero,qq,qm,B0,reduceIte,reduceEqDiff]
   refine qg (v:=lst cI v_1.InStep) rfl ?_
   obtain ⟨v63,hx64,hF65⟩:=ql hx60
   simp only [hg58,qf (g:=33),qz,zf,B0,reduceIte,reduceEqDiff]
   refine ja rfl (qk zm (qk zm zg)) (qhv (fun b hb=>decide_eq_true hb) v_1.Homes v_1.InStep v63 hx64) ?_
   simp only [hg58,qf (g:=33),qz,jl,qb,kd,qu,zj,qa,qn,B0,reduceIte,reduceEqDiff]
   have e66:=qh hF65
   exact hN57 _ _ ⟨hS55,by rw [←e66]; simp only [B0,reduceIte,reduceEqDiff],f52,f53⟩
 rintro fr67 h71 ⟨hS72,f68,f69,f70⟩
 simp only [List.drop_succ_cons,List.drop_zero]
 simp only [qa,f68,qx,B0,reduceIte,reduceEqDiff]
 refine qr (t:=v59) (fun hc73=>?_) (fun hc73=>?_)
 ·rw [iteT hc73] at hF61
  simp only [qd,qc,qe,qa,qv,B0,reduceIte,reduceEqDiff]
  have he:=qh hF61
  subst he
  simp only [qw,B0,reduceIte,reduceEqDiff]
  exact rfl
 rw [iteF hc73] at hF61
 simp only [q8,qy8,qd,qc,f70,qo,qb,Nat.reduceAdd,Nat.zero_add,Nat.add_zero,qq,qm,B0,reduceIte,reduceEqDiff]
 refine qg (v := .int .i64 v_1.Leader) rfl ?_
 simp only [qp,qb,je,qe,B0,reduceIte,reduceEqDiff]
 obtain ⟨v77,hx78,hF79⟩:=ql hF61
 refine zy 6 (fun fr' h'=>Sep h' (geL h.length) ([])∧fr' 50 = .bool v77∧fr' 2 = .ref [lst qi v_0.Brokers,lst qj v_0.Parts,
   .int .i64 v_0.Next] 0∧fr' 3 = .ref [lst cI v_1.Homes,lst cI v_1.InStep,.int .i64 v_1.Leader,.int .i64 v_1.Epoch,.int .i64 v_1.Stamp] 0) (fun Q74 hN75=>?_) ?_
 ·simp only [List.take_succ_cons,List.take_zero]
  simp only [qf (g:=44),B0,reduceIte,reduceEqDiff]
  refine zd (t:=(decide (v_1.Leader=(-1)))) (fun hg76=>?_) (fun hg76=>?_)
  ·rw [iteT hg76] at hx78
   simp only [hg76,qf (g:=44),q9,f69,qm,B0,reduceIte,reduceEqDiff]
   refine qg (v := .agg [lst qi v_0.Brokers,lst qj v_0.Parts,.int .i64 v_0.Next]) rfl ?_
   simp only [hg76,qf (g:=44),q9,f70,qo,qb,Nat.reduceAdd,Nat.zero_add,Nat.add_zero,qq,qm,B0,reduceIte,reduceEqDiff]
   refine qg (v:=lst cI v_1.InStep) rfl ?_
   obtain ⟨v80,hx81,hF82⟩:=ql hx78
   simp only [hg76,qf (g:=44),q9,zf,B0,reduceIte,reduceEqDiff]
   refine ja rfl (qk (jb (qk zm (qk zm (qk qs zg)))) (qk zm zg)) (qf3
     (fun b hb=>decide_eq_true hb) v_0 v_1.InStep v80 hx81) ?_
   simp only [hg76,qf (g:=44),q9,qp,qb,qcp,qu,zk,qa,qn,B0,reduceIte,reduceEqDiff]
   have e83:=qh hF82
   exact hN75 _ _ ⟨hS72,by rw [←e83]; simp only [B0,reduceIte,reduceEqDiff],f69,f70⟩
  ·rw [iteF hg76] at hx78
   simp only [hg76,qf (g:=44),zv,qu,qb,zj,qa,qn,B0,reduceIte,reduceEqDiff]
   have e84:=qh hx78
   exact hN75 _ _ ⟨hS72,by rw [←e84]; simp only [B0,reduceIte,reduceEqDiff],f69,f70⟩
 rintro fr85 h89 ⟨hS90,f86,f87,f88⟩
 simp only [List.drop_succ_cons,List.drop_zero]
 simp only [f86,qe,B0,reduceIte,reduceEqDiff]
 obtain ⟨v94,hx95,hF96⟩:=ql hF79
 refine zy 21 (fun fr' h'=>Sep h' (geL h.length) ([])∧fr' 72 = .bool v94∧fr' 3 = .ref [lst cI v_1.Homes,lst cI v_1.InStep,.int .i64 v_1.Leader,.int .i64 v_1.Epoch,
   .int .i64 v_1.Stamp] 0) (fun Q91 hN92=>?_) ?_
 ·simp only [List.take_succ_cons,List.take_zero]
  simp only [qf (g:=51),B0,reduceIte,reduceEqDiff]
  refine zd (t:=v77) (fun hg93=>?_) (fun hg93=>?_)
  ·rw [iteT hg93] at hx95
   simp only [hg93,qf (g:=51),z4,qf (g:=55),qey,qf (g:=62),qu,qb,zk,qa,qn,B0,reduceIte,
     reduceEqDiff]
   have e97:=qh hx95
   exact hN92 _ _ ⟨hS90,by rw [←e97]; simp only [B0,reduceIte,reduceEqDiff],f88⟩
  ·rw [iteF hg93] at hx95
   simp only [hg93,qf (g:=51),qz,f88,qo,qb,Nat.reduceAdd,Nat.zero_add,Nat.add_zero,qq,qm,B0,reduceIte,reduceEqDiff]
   refine qg (v := .int .i64 v_1.Leader) rfl ?_
   simp only [hg93,qf (g:=51),qz,qp,qb,kx,qe,B0,reduceIte,reduceEqDiff]
   obtain ⟨v101,hx102,hF103⟩:=ql hx95
   refine zy 16 (fun fr' h'=>Sep h' (geL h.length) ([])∧fr' 71 = .bool v101∧fr' 3 = .ref [lst cI v_1.Homes,lst cI v_1.InStep,.int .i64 v_1.Leader,
     .int .i64 v_1.Epoch,.int .i64 v_1.Stamp] 0∧fr' 51 = .bool v77) (fun Q98 hN99=>?_) ?_
   ·simp only [List.take_succ_cons,List.take_zero]
    simp only [qf (g:=55),B0,reduceIte,reduceEqDiff]
    refine zd (t:=(decide (v_1.Leader≠(-1)))) (fun hg100=>?_) (fun hg100=>?_)
    ·rw [iteT hg100] at hx102
     simp only [hg100,qf (g:=55),q9,f88,qo,qb,Nat.reduceAdd,Nat.zero_add,Nat.add_zero,qq,qm,B0,reduceIte,reduceEqDiff]
     refine qg (v:=lst cI v_1.InStep) rfl ?_
     simp only [hg100,qf (g:=55),q9,f88,qo,qb,Nat.reduceAdd,Nat.zero_add,Nat.add_zero,qq,qm,B0,reduceIte,reduceEqDiff]
     refine qg (v := .int .i64 v_1.Leader) rfl ?_
     obtain ⟨v104,hx105,hF106⟩:=ql hx102
     simp only [hg100,qf (g:=55),q9,zf,B0,reduceIte,reduceEqDiff]
     refine ja rfl (qk zm (qk qs zg)) (qce (fun b hb=>decide_eq_true hb) v_1.InStep v_1.Leader v104 hx105) ?_
     simp only [hg100,qf (g:=55),q9,jl,qb,kd,qe,B0,reduceIte,reduceEqDiff]
     obtain ⟨v110,hx111,hF112⟩:=ql hF106
     refine zy 8 (fun fr' h'=>Sep h' (geL h.length) ([])∧fr' 70 = .bool v110∧fr' 3 = .ref [lst cI v_1.Homes,lst cI v_1.InStep,.int .i64 v_1.Leader,
       .int .i64 v_1.Epoch,.int .i64 v_1.Stamp] 0∧fr' 51 = .bool v77∧fr' 55 = .bool (decide (v_1.Leader≠(-1)))) (fun Q107 hN108=>?_) ?_
     ·simp only [List.take_succ_cons,List.take_zero]
      simp only [qf (g:=62),B0,reduceIte,reduceEqDiff]
      refine zd (t:=(!v104)) (fun hg109=>?_) (fun hg109=>?_)
      ·rw [iteT hg109] at hx111
       simp only [hg109,qf (g:=62),z4,hg100,qf (g:=55),q9,qu,qb,zk,qa,qn,B0,reduceIte,
         reduceEqDiff]
       have e113:=qh hx111
       exact hN108 _ _ ⟨hS90,by rw [←e113]; simp only [B0,reduceIte,reduceEqDiff],f88,by simp only [hg93,B0,reduceIte,reduceEqDiff],by simp only [hg100,B0,
         reduceIte,reduceEqDiff]⟩
      ·rw [iteF hg109] at hx111
       simp only [hg109,qf (g:=62),qz,f87,qo,qb,Nat.reduceAdd,Nat.zero_add,Nat.add_zero,qq,qm,B0,reduceIte,reduceEqDiff]
       refine qg (v:=lst qi v_0.Brokers) rfl ?_
       simp only [hg109,qf (g:=62),qz,f88,qo,qb,Nat.reduceAdd,Nat.zero_add,Nat.add_zero,qq,qm,B0,reduceIte,reduceEqDiff]
       refine qg (v := .int .i64 v_1.Leader) rfl ?_
       obtain ⟨x114,hx115,hF116⟩:=ql hx111
       simp only [hg109,qf (g:=62),qz,zw,B0,reduceIte,reduceEqDiff]
       refine qg (v := .ref (qi x114) 0) (kf hx115 rfl) ?_
       simp only [hg109,qf (g:=62),qz,qo,qb,Nat.reduceAdd,Nat.zero_add,Nat.add_zero,qq,qm,B0,reduceIte,reduceEqDiff]
       refine qg (v := .bool x114.Fenced) rfl ?_
       simp only [hg100,qf (g:=55),q9,hg109,qu,qb,zj,qa,qn,B0,reduceIte,reduceEqDiff]
       have e117:=qh hF116
       exact hN108 _ _ ⟨hS90,by rw [←e117]; simp only [B0,reduceIte,reduceEqDiff],f88,by simp only [hg93,B0,reduceIte,reduceEqDiff],by simp only [hg100,B0,
         reduceIte,reduceEqDiff]⟩
     rintro fr118 h123 ⟨hS124,f119,f120,f121,f122⟩
     simp only [List.drop_succ_cons,List.drop_zero]
     simp only [f121,hg93,qf (g:=51),qz,f122,hg100,qu,qb,zk,f119,qa,qn,B0,reduceIte,reduceEqDiff]
     have e125:=qh hF112
     exact hN99 _ _ ⟨hS124,by rw [←e125]; simp only [B0,reduceIte,reduceEqDiff],f120,by simp only [f121,hg93,B0,reduceIte,reduceEqDiff]⟩
    ·rw [iteF hg100] at hx102
     simp only [hg100,qf (g:=55),zv,qf (g:=62),qey,hg93,qf (g:=51),qz,qu,qb,zj,qa,
       qn,B0,reduceIte,reduceEqDiff]
     have e126:=qh hx102
     exact hN99 _ _ ⟨hS90,by rw [←e126]; simp only [B0,reduceIte,reduceEqDiff],f88,by simp only [hg93,B0,reduceIte,reduceEqDiff]⟩
   rintro fr127 h131 ⟨hS132,f128,f129,f130⟩
   simp only [List.drop_succ_cons,List.drop_zero]
   simp only [f130,hg93,qu,qb,zj,f128,qa,qn,B0,reduceIte,reduceEqDiff]
   have e133:=qh hF103
   exact hN92 _ _ ⟨hS132,by rw [←e133]; simp only [B0,reduceIte,reduceEqDiff],f129⟩
 rintro fr134 h137 ⟨hS138,f135,f136⟩
 simp only [List.drop_succ_cons,List.drop_zero]
 simp only [qa,f135,qx,B0,reduceIte,reduceEqDiff]
 refine qr (t:=v94) (fun hc139=>?_) (fun hc139=>?_)
 ·rw [iteT hc139] at hF96
  simp only [qd,qc,qe,qa,qv,B0,reduceIte,reduceEqDiff]
  have he:=qh hF96
  subst he
  simp only [qw,B0,reduceIte,reduceEqDiff]
  exact rfl
 rw [iteF hc139] at hF96
 simp only [q8,qyl,qd,qc,f136,qo,qb,Nat.reduceAdd,Nat.zero_add,Nat.add_zero,qq,qm,B0,reduceIte,reduceEqDiff]
 refine qg (v := .int .i64 v_1.Epoch) rfl ?_
 simp only [zf,B0,reduceIte,reduceEqDiff]
 refine ja rfl (qk qs (qk qs (qk qs zg))) (y2 (fun b hb=>decide_eq_true hb) v_1.Epoch 0 1000 _ rfl) ?_
 simp only [qe,B0,reduceIte,reduceEqDiff]
 refine zy 4 (fun fr' h'=>Sep h' (geL h.length) ([])∧fr' 80 = .bool ((zl v_1.Epoch 0 1000)&&(zl v_1.Stamp 0 1000))) (fun Q140 hN141=>?_) ?_
 ·simp only [List.take_succ_cons,List.take_zero]
  simp only [qf (g:=76),B0,reduceIte,reduceEqDiff]
  refine zd (t:=(zl v_1.Epoch 0 1000)) (fun hg142=>?_) (fun hg142=>?_)
  ·simp only [hg142,qf (g:=76),q9,f136,qo,qb,Nat.reduceAdd,Nat.zero_add,Nat.add_zero,qq,qm,B0,reduceIte,reduceEqDiff]
   refine qg (v := .int .i64 v_1.Stamp) rfl ?_
   simp only [hg142,qf (g:=76),q9,zf,B0,reduceIte,reduceEqDiff]
   refine ja rfl (qk qs (qk qs (qk qs zg))) (y2 (fun b hb=>decide_eq_true hb) v_1.Stamp 0 1000 _ rfl) ?_
   simp only [hg142,qu,qb,zk,qa,qn,B0,reduceIte,reduceEqDiff]
   exact hN141 _ _ ⟨hS138,by rw [yc hg142]; simp only [B0,reduceIte,reduceEqDiff]⟩
  ·simp only [hg142,qf (g:=76),zv,qu,qb,zj,qa,qn,B0,reduceIte,reduceEqDiff]
   exact hN141 _ _ ⟨hS138,by rw [yb hg142]; simp only [B0,reduceIte,reduceEqDiff]⟩
 rintro fr143 h145 ⟨hS146,f144⟩
 simp only [List.drop_succ_cons,List.drop_zero]
 simp only [f144,qe,qa,qv,B0,reduceIte,reduceEqDiff]
 have he:=qh hF96
 subst he
 simp only [qw,B0,reduceIte,reduceEqDiff]
 exact rfl
end Go.Proofs.Ytjloihcijdcpeaa.X
namespace Go.Proofs.Ytjloihcijdcpeaa.X
open Go
open Nat (reduceEqDiff)
theorem qen {W:Nat→Bool}{h:Heap} (hW:∀ b,
  (geL h.length) b→W b=true) (v_0:Control) (r:Bool) (hF:xj v_0=some r) : Ret E W 20 [.agg [lst qi v_0.Brokers,lst qj v_0.Parts,
  .int .i64 v_0.Next]] h (fun v h'=>cut h.length h' E.sz false 9 v=some (.bool r)):=by
 refine Ret.of (fn:=x20) rfl (Run.of ?_)
 unfold xj at hF
 have zf0:zc [.agg [lst qi v_0.Brokers,lst qj v_0.Parts,.int .i64 v_0.Next]] 0 = .agg [lst qi v_0.Brokers,lst qj v_0.Parts,
   .int .i64 v_0.Next]:=rfl
 generalize zc [.agg [lst qi v_0.Brokers,lst qj v_0.Parts,.int .i64 v_0.Next]]=fr0 at zf0 ⊢
 have hS:Sep h (geL h.length) []:=Sep.nil h
 simp only [x20,qd,qc,jm,zf0,B0,reduceIte,reduceEqDiff]
 refine z8 (cs:=[lst qi v_0.Brokers,lst qj v_0.Parts,.int .i64 v_0.Next]) hS rfl rfl rfl (fun b1 h2 hS3=>?_)
 simp only [qe,qa,B0,reduceIte,reduceEqDiff]
 refine zu hS3 hW (by simp only [B0,reduceIte,reduceEqDiff]) (fun h5 hS6=>?_)
 simp only [zx,qsw,qd,qc,qo,qb,Nat.reduceAdd,Nat.zero_add,Nat.add_zero,qq,qm,B0,reduceIte,reduceEqDiff]
 refine qg (v:=lst qi v_0.Brokers) rfl ?_
 simp only [zo,qb,zt,qe,qa,B0,reduceIte,reduceEqDiff]
 obtain ⟨oc9,hX11,hk12⟩:=jh hF
 simp only [qy2]
 refine ye (σ:=Unit) v_0.Brokers (fun i7 x8 _=>wy v_0 i7 x8 ) (fun s fr' h'=>fr' 1 = .ref [lst qi v_0.Brokers,
   lst qj v_0.Parts,.int .i64 v_0.Next] 0∧fr' 8=lst qi v_0.Brokers∧Sep h' (geL h.length) ([])) hX11 ⟨rfl,rfl,hS6⟩ (by simp only [B0,reduceIte,
   reduceEqDiff]) (by simp only [B0,reduceIte,reduceEqDiff]) (fun _ _ _ h=>h) rfl rfl (fun _ _ _ _ h=>h) (fun _ _ _ _ h=>h) (fun _ _ _ _ h=>h) (by decide) ?_ ?_
 ·rintro i7 x8 _ fr21 h22 hx26 ⟨f24,f25,hS23⟩ f27 f28 oc10 hF13 hr14 Q15 hN16 hB20 hK17 hR18 hE19
  unfold wy at hF13
  simp only [qyd,qd,qc,f25,f27,zw,B0,reduceIte,reduceEqDiff]
  refine qg (v := .ref (qi x8) 0) (yg hx26 rfl) ?_
  simp only [qm,B0,reduceIte,reduceEqDiff]
  refine qg (v := .agg [.int .i64 x8.Epoch,.int .i64 x8.Left,.bool x8.Fenced]) rfl ?_
  simp only [jv,B0,reduceIte,reduceEqDiff]
  refine jc hS23 (fun b29 h30 hS31=>?_)
  simp only [zn,B0,reduceIte,reduceEqDiff]
  refine zi (us:=[.int .i64 x8.Epoch,.int .i64 x8.Left,.bool x8.Fenced]) rfl (cs':=[.int .i64 x8.Epoch,.int .i64 x8.Left,
    .bool x8.Fenced]) hS31 hW rfl rfl (nle rfl) rfl (fun h33 hS34=>?_)
  simp only [qa,B0,reduceIte,reduceEqDiff]
  refine zu hS34 hW (by simp only [B0,reduceIte,reduceEqDiff]) (fun h35 hS36=>?_)
  simp only [zx,qxa,qd,qc,qo,qb,Nat.reduceAdd,Nat.zero_add,Nat.add_zero,qq,qm,B0,reduceIte,reduceEqDiff]
  refine qg (v := .int .i64 x8.Epoch) rfl ?_
  simp only [qp,qb,yl,qe,B0,reduceIte,reduceEqDiff]
  refine zy 6 (fun fr' h'=>Sep h' (geL h.length) ([])∧fr' 23 = .bool ((decide (x8.Epoch<0))||(decide
    (v_0.Next≤x8.Epoch)))∧fr' 1 = .ref [lst qi v_0.Brokers,lst qj v_0.Parts,.int .i64 v_0.Next] 0∧fr' 4 = .ref [.int .i64 x8.Epoch,
    .int .i64 x8.Left,.bool x8.Fenced] 0∧fr' 8=lst qi v_0.Brokers∧fr' 9 = .int .i64 (List.length v_0.Brokers:Int)∧fr' 10 = .int .i64 (i7:Int))
    (fun Q37 hN38=>?_) ?_
  ·simp only [List.take_succ_cons,List.take_zero]
   simp only [qf (g:=17),B0,reduceIte,reduceEqDiff]
   refine zd (t:=(decide (x8.Epoch<0))) (fun hg39=>?_) (fun hg39=>?_)
   ·simp only [hg39,qf (g:=17),z4,qu,qb,zk,qa,qn,B0,reduceIte,reduceEqDiff]
    exact hN38 _ _ ⟨hS36,by rw [orT hg39]; simp only [B0,reduceIte,reduceEqDiff],f24,rfl,f25,f28,f27⟩
   ·simp only [hg39,qf (g:=17),qz,qo,qb,Nat.reduceAdd,Nat.zero_add,Nat.add_zero,qq,qm,B0,reduceIte,reduceEqDiff]
    refine qg (v := .int .i64 x8.Epoch) rfl ?_
    simp only [hg39,qf (g:=17),qz,f24,qo,qb,Nat.reduceAdd,Nat.zero_add,Nat.add_zero,qq,qm,B0,reduceIte,reduceEqDiff]
    refine qg (v := .int .i64 v_0.Next) rfl ?_
    simp only [hg39,qf (g:=17),qz,qp,qb,qcp,qu,zj,qa,qn,B0,reduceIte,reduceEqDiff]
    exact hN38 _ _ ⟨hS36,by rw [orF hg39]; simp only [B0,reduceIte,reduceEqDiff],f24,rfl,f25,f28,f27⟩
  rintro fr40 h47 ⟨hS48,f41,f42,f43,f44,f45,f46⟩
  simp only [List.drop_succ_cons,List.drop_zero]
  simp only [f41,qe,B0,reduceIte,reduceEqDiff]
  refine zy 5 (fun fr' h'=>Sep h' (geL h.length) ([])∧fr' 29 = .bool (((decide (x8.Epoch<0))||(decide (v_0.Next≤x8.Epoch))) ||
    (!(zl x8.Left 0 9)))∧fr' 1 = .ref [lst qi v_0.Brokers,lst qj v_0.Parts,.int .i64 v_0.Next] 0∧fr' 4 = .ref [.int .i64 x8.Epoch,
    .int .i64 x8.Left,.bool x8.Fenced] 0∧fr' 8=lst qi v_0.Brokers∧fr' 9 = .int .i64 (List.length v_0.Brokers:Int)∧fr' 10 = .int .i64 (i7:Int))
    (fun Q49 hN50=>?_) ?_
  ·simp only [List.take_succ_cons,List.take_zero]
   simp only [qf (g:=24),B0,reduceIte,reduceEqDiff]
   refine zd (t:=((decide (x8.Epoch<0))||(decide (v_0.Next≤x8.Epoch)))) (fun hg51=>?_) (fun hg51=>?_)
   ·simp only [hg51,qf (g:=24),z4,qu,qb,zk,qa,qn,B0,reduceIte,reduceEqDiff]
    exact hN50 _ _ ⟨hS48,by rw [orT hg51]; simp only [B0,reduceIte,reduceEqDiff],f42,f43,f44,f45,f46⟩
   ·simp only [hg51,qf (g:=24),qz,f43,qo,qb,Nat.reduceAdd,Nat.zero_add,Nat.add_zero,qq,qm,B0,reduceIte,reduceEqDiff]
    refine qg (v := .int .i64 x8.Left) rfl ?_
    simp only [hg51,qf (g:=24),qz,zf,B0,reduceIte,reduceEqDiff]
    refine ja rfl (qk qs (qk qs (qk qs zg))) (y2 (fun b hb=>decide_eq_true hb) x8.Left 0 9 _ rfl) ?_
    simp only [hg51,qf (g:=24),qz,jl,qb,kd,qu,zj,qa,qn,B0,reduceIte,reduceEqDiff]
    exact hN50 _ _ ⟨hS48,by rw [orF hg51]; simp only [B0,reduceIte,reduceEqDiff],f42,f43,f44,f45,f46⟩
  rintro fr52 h59 ⟨hS60,f53,f54,f55,f56,f57,f58⟩
  simp only [List.drop_succ_cons,List.drop_zero]
  simp only [f53,qe,B0,reduceIte,reduceEqDiff]
  refine zy 7 (fun fr' h'=>Sep h' (geL h.length) ([])∧fr' 37 = .bool ((((decide (x8.Epoch<0))||(decide (v_0.Next≤x8.Epoch)))||(!(zl x8.Left 0 9))) ||
    (!(x8.Fenced == (decide (x8.Left=0)))))∧fr' 1 = .ref [lst qi v_0.Brokers,lst qj v_0.Parts,
    .int .i64 v_0.Next] 0∧fr' 4 = .ref [.int .i64 x8.Epoch,.int .i64 x8.Left,
    .bool x8.Fenced] 0∧fr' 8=lst qi v_0.Brokers∧fr' 9 = .int .i64 (List.length v_0.Brokers:Int)∧fr' 10 = .int .i64 (i7:Int)) (fun Q61 hN62=>?_) ?_
  ·simp only [List.take_succ_cons,List.take_zero]
   simp only [qf (g:=30),B0,reduceIte,reduceEqDiff]
   refine zd (t:=(((decide (x8.Epoch<0))||(decide (v_0.Next≤x8.Epoch)))||(!(zl x8.Left 0 9)))) (fun hg63=>?_) (fun hg63=>?_)
   ·simp only [hg63,qf (g:=30),z4,qu,qb,zk,qa,qn,B0,reduceIte,reduceEqDiff]
    exact hN62 _ _ ⟨hS60,by rw [orT hg63]; simp only [B0,reduceIte,reduceEqDiff],f54,f55,f56,f57,f58⟩
   ·simp only [hg63,qf (g:=30),qz,f55,qo,qb,Nat.reduceAdd,Nat.zero_add,Nat.add_zero,qq,qm,B0,reduceIte,reduceEqDiff]
    refine qg (v := .bool x8.Fenced) rfl ?_
    simp only [hg63,qf (g:=30),qz,f55,qo,qb,Nat.reduceAdd,Nat.zero_add,Nat.add_zero,qq,qm,B0,reduceIte,reduceEqDiff]
    refine qg (v := .int .i64 x8.Left) rfl ?_
    simp only [hg63,qf (g:=30),qz,qp,qb,je,qfe,qgj,qu,zj,qa,qn,B0,reduceIte,reduceEqDiff]
    exact hN62 _ _ ⟨hS60,by rw [orF hg63]; simp only [B0,reduceIte,reduceEqDiff],f54,f55,f56,f57,f58⟩
  rintro fr64 h71 ⟨hS72,f65,f66,f67,f68,f69,f70⟩
  simp only [List.drop_succ_cons,List.drop_zero]
  simp only [f65,qe,B0,reduceIte,reduceEqDiff]
  refine zy 9 (fun fr' h'=>Sep h' (geL h.length) ([])∧fr' 47 = .bool (((((decide (x8.Epoch<0))||(decide (v_0.Next≤x8.Epoch)))||(!(zl x8.Left 0 9))) ||
    (!(x8.Fenced == (decide (x8.Left=0)))))||((decide (x8.Epoch=0))&&(decide ((0:Int)<x8.Left))))∧fr' 1 = .ref [lst qi v_0.Brokers,
    lst qj v_0.Parts,.int .i64 v_0.Next] 0∧fr' 8=lst qi v_0.Brokers∧fr' 9 = .int .i64 (List.length v_0.Brokers:Int)∧fr' 10 = .int .i64
    (i7:Int)) (fun Q73 hN74=>?_) ?_
  ·simp only [List.take_succ_cons,List.take_zero]
   simp only [qf (g:=38),B0,reduceIte,reduceEqDiff]
   refine zd (t:=((((decide (x8.Epoch<0))||(decide (v_0.Next≤x8.Epoch)))||(!(zl x8.Left 0 9)))||(!(x8.Fenced == (decide (x8.Left=0))))))
     (fun hg75=>?_) (fun hg75=>?_)
   ·simp only [hg75,qf (g:=38),z4,qf (g:=42),qey,qu,qb,zk,qa,qn,B0,reduceIte,reduceEqDiff]
    exact hN74 _ _ ⟨hS72,by rw [orT hg75]; simp only [B0,reduceIte,reduceEqDiff],f66,f68,f69,f70⟩
   ·simp only [hg75,qf (g:=38),qz,f67,qo,qb,Nat.reduceAdd,Nat.zero_add,Nat.add_zero,qq,qm,B0,reduceIte,reduceEqDiff]
    refine qg (v := .int .i64 x8.Epoch) rfl ?_
    simp only [hg75,qf (g:=38),qz,qp,qb,je,qe,B0,reduceIte,reduceEqDiff]
    refine zy 4 (fun fr' h'=>Sep h' (geL h.length) ([])∧fr' 46 = .bool ((decide (x8.Epoch=0))&&(decide
      ((0:Int)<x8.Left)))∧fr' 1 = .ref [lst qi v_0.Brokers,lst qj v_0.Parts,
      .int .i64 v_0.Next] 0∧fr' 8=lst qi v_0.Brokers∧fr' 9 = .int .i64 (List.length v_0.Brokers:Int)∧fr' 10 = .int .i64 (i7:Int)∧fr' 38 = .bool
      ((((decide (x8.Epoch<0))||(decide (v_0.Next≤x8.Epoch)))||(!(zl x8.Left 0 9)))||(!(x8.Fenced == (decide (x8.Left=0)))))) (fun Q76 hN77=>?_) ?_
    ·simp only [List.take_succ_cons,List.take_zero]
     simp only [qf (g:=42),B0,reduceIte,reduceEqDiff]
     refine zd (t:=(decide (x8.Epoch=0))) (fun hg78=>?_) (fun hg78=>?_)
     ·simp only [hg78,qf (g:=42),q9,f67,qo,qb,Nat.reduceAdd,Nat.zero_add,Nat.add_zero,qq,qm,B0,reduceIte,reduceEqDiff]
      refine qg (v := .int .i64 x8.Left) rfl ?_
      simp only [hg78,qf (g:=42),q9,qp,qb,qg7,hg75,qf (g:=38),qz,qu,zk,qa,qn,B0,
        reduceIte,reduceEqDiff]
      exact hN77 _ _ ⟨hS72,by rw [yc hg78]; simp only [B0,reduceIte,reduceEqDiff],f66,f68,f69,f70,by simp only [hg75,B0,reduceIte,reduceEqDiff]⟩
     ·simp only [hg78,qf (g:=42),zv,hg75,qf (g:=38),qz,qu,qb,zj,qa,qn,B0,reduceIte,
       reduceEqDiff]
      exact hN77 _ _ ⟨hS72,by rw [yb hg78]; simp only [B0,reduceIte,reduceEqDiff],f66,f68,f69,f70,by simp only [hg75,B0,reduceIte,reduceEqDiff]⟩
    rintro fr79 h86 ⟨hS87,f80,f81,f82,f83,f84,f85⟩
    simp only [List.drop_succ_cons,List.drop_zero]
    simp only [f85,hg75,qu,qb,zj,f80,qa,qn,B0,reduceIte,reduceEqDiff]
    exact hN74 _ _ ⟨hS87,by rw [orF hg75]; simp only [B0,reduceIte,reduceEqDiff],f81,f82,f83,f84⟩
  rintro fr88 h94 ⟨hS95,f89,f90,f91,f92,f93⟩
  simp only [List.drop_succ_cons,List.drop_zero]
  simp only [qa,f89,qx,B0,reduceIte,reduceEqDiff]
  refine qr (t:=(((((decide (x8.Epoch<0))||(decide (v_0.Next≤x8.Epoch)))||(!(zl x8.Left 0 9)))||(!(x8.Fenced == (decide (x8.Left=0)))))||((decide
    (x8.Epoch=0))&&(decide ((0:Int)<x8.Left))))) (fun hc96=>?_) (fun hc96=>?_)
  ·rw [iteT hc96] at hF13
   simp only [qd,qc,qe,qa,qv,B0,reduceIte,reduceEqDiff]
   have e97:=qh hF13
   subst e97
   have ho98:=hr14 _ rfl
   have hk99:=hk12
   rw [ho98] at hk99
   dsimp only [jnO] at hk99
   apply hR18
   have he:=qh hk99
   subst he
   simp only [qw,B0,reduceIte,reduceEqDiff]
   exact rfl
  rw [iteF hc96] at hF13
  simp only [q8,qn,B0,reduceIte,reduceEqDiff]
  have e100:=qh hF13
  exact hN16 _ _ _ e100.symm ⟨f90,f91,hS95⟩ (f93) (f92)
 rintro _ fr102 h103 rfl ⟨f105,f106,hS104⟩
 dsimp only [jnO] at hk12
 unfold qbv at hk12
 simp only [qrd,qd,qc,f105,qo,qb,Nat.reduceAdd,Nat.zero_add,Nat.add_zero,qq,qm,B0,reduceIte,reduceEqDiff]
 refine qg (v:=lst qi v_0.Brokers) rfl ?_
 simp only [zo,qb,zt,zf,B0,reduceIte,reduceEqDiff]
 refine ja rfl (qk qs (qk qs (qk qs zg))) (y2 (fun b hb=>decide_eq_true hb) (List.length v_0.Brokers:Int) 1 6 _ rfl) ?_
 simp only [jl,qb,kd,qe,B0,reduceIte,reduceEqDiff]
 refine zy 5 (fun fr' h'=>Sep h' (geL h.length) ([])∧fr' 59 = .bool ((!(zl (List.length v_0.Brokers:Int) 1 6))||(decide ((5:Int) <
   (List.length v_0.Parts:Int))))∧fr' 1 = .ref [lst qi v_0.Brokers,lst qj v_0.Parts,.int .i64 v_0.Next] 0) (fun Q107 hN108=>?_) ?_
 ·simp only [List.take_succ_cons,List.take_zero]
  simp only [qf (g:=54),B0,reduceIte,reduceEqDiff]
  refine zd (t:=(!(zl (List.length v_0.Brokers:Int) 1 6))) (fun hg109=>?_) (fun hg109=>?_)
  ·simp only [hg109,qf (g:=54),z4,qu,qb,zk,qa,qn,B0,reduceIte,reduceEqDiff]
   exact hN108 _ _ ⟨hS104,by rw [orT hg109]; simp only [B0,reduceIte,reduceEqDiff],f105⟩
  ·simp only [hg109,qf (g:=54),qz,f105,qo,qb,Nat.reduceAdd,Nat.zero_add,Nat.add_zero,qq,qm,B0,reduceIte,reduceEqDiff]
   refine qg (v:=lst qj v_0.Parts) rfl ?_
   simp only [hg109,qf (g:=54),qz,zo,qb,zt,qp,qg7,qu,zj,qa,qn,B0,reduceIte,reduceEqDiff]
   exact hN108 _ _ ⟨hS104,by rw [orF hg109]; simp only [B0,reduceIte,reduceEqDiff],f105⟩
 rintro fr110 h113 ⟨hS114,f111,f112⟩
 simp only [List.drop_succ_cons,List.drop_zero]
 simp only [f111,qe,B0,reduceIte,reduceEqDiff]
 refine zy 5 (fun fr' h'=>Sep h' (geL h.length) ([])∧fr' 65 = .bool (((!(zl (List.length v_0.Brokers:Int) 1 6))||(decide ((5:Int) <
   (List.length v_0.Parts:Int))))||(!(zl v_0.Next 1 1000)))∧fr' 1 = .ref [lst qi v_0.Brokers,lst qj v_0.Parts,
   .int .i64 v_0.Next] 0) (fun Q115 hN116=>?_) ?_
 ·simp only [List.take_succ_cons,List.take_zero]
  simp only [qf (g:=60),B0,reduceIte,reduceEqDiff]
  refine zd (t:=((!(zl (List.length v_0.Brokers:Int) 1 6))||(decide ((5:Int)<(List.length v_0.Parts:Int))))) (fun hg117=>?_) (fun hg117=>?_)
  ·simp only [hg117,qf (g:=60),z4,qu,qb,zk,qa,qn,B0,reduceIte,reduceEqDiff]
   exact hN116 _ _ ⟨hS114,by rw [orT hg117]; simp only [B0,reduceIte,reduceEqDiff],f112⟩
  ·simp only [hg117,qf (g:=60),qz,f112,qo,qb,Nat.reduceAdd,Nat.zero_add,Nat.add_zero,qq,qm,B0,reduceIte,reduceEqDiff]
   refine qg (v := .int .i64 v_0.Next) rfl ?_
   simp only [hg117,qf (g:=60),qz,zf,B0,reduceIte,reduceEqDiff]
   refine ja rfl (qk qs (qk qs (qk qs zg))) (y2 (fun b hb=>decide_eq_true hb) v_0.Next 1 1000 _ rfl) ?_
   simp only [hg117,qf (g:=60),qz,jl,qb,kd,qu,zj,qa,qn,B0,reduceIte,reduceEqDiff]
   exact hN116 _ _ ⟨hS114,by rw [orF hg117]; simp only [B0,reduceIte,reduceEqDiff],f112⟩
 rintro fr118 h121 ⟨hS122,f119,f120⟩
 simp only [List.drop_succ_cons,List.drop_zero]
 simp only [qa,f119,qx,B0,reduceIte,reduceEqDiff]
 refine qr (t:=(((!(zl (List.length v_0.Brokers:Int) 1 6))||(decide ((5:Int)<(List.length v_0.Parts:Int))))||(!(zl v_0.Next 1 1000))))
   (fun hc123=>?_) (fun hc123=>?_)
 ·rw [iteT hc123] at hk12
  simp only [qd,qc,qe,qa,qv,B0,reduceIte,reduceEqDiff]
  have he:=qh hk12
  subst he
  simp only [qw,B0,reduceIte,reduceEqDiff]
  exact rfl
 rw [iteF hc123] at hk12
 simp only [q8,q21,qd,qc,f120,qo,qb,Nat.reduceAdd,Nat.zero_add,Nat.add_zero,qq,qm,B0,reduceIte,reduceEqDiff]
 refine qg (v:=lst qj v_0.Parts) rfl ?_
 simp only [zo,qb,zt,qe,qa,B0,reduceIte,reduceEqDiff]
 obtain ⟨oc126,hX128,hk129⟩:=jh hk12
 simp only [q1q]
 refine ye (σ:=Unit) v_0.Parts (fun i124 x125 _=>u6 v_0 i124 x125 ) (fun s fr' h'=>fr' 1 = .ref [lst qi v_0.Brokers,
   lst qj v_0.Parts,.int .i64 v_0.Next] 0∧fr' 67=lst qj v_0.Parts∧Sep h' (geL h.length) ([])) hX128 ⟨f120,rfl,hS122⟩ (by simp only [B0,
   reduceIte,reduceEqDiff]) (by simp only [B0,reduceIte,
   reduceEqDiff]) (fun _ _ _ h=>h) rfl rfl (fun _ _ _ _ h=>h) (fun _ _ _ _ h=>h) (fun _ _ _ _ h=>h) (by decide) ?_ ?_
 ·rintro i124 x125 _ fr138 h139 hx143 ⟨f141,f142,hS140⟩ f144 f145 oc127 hF130 hr131 Q132 hN133 hB137 hK134 hR135 hE136
  unfold u6 at hF130
  simp only [qxs,qd,qc,f142,f144,zw,B0,reduceIte,reduceEqDiff]
  refine qg (v := .ref (qj x125) 0) (yg hx143 rfl) ?_
  simp only [qm,B0,reduceIte,reduceEqDiff]
  refine qg (v := .agg [lst cI x125.Homes,lst cI x125.InStep,.int .i64 x125.Leader,.int .i64 x125.Epoch,.int .i64 x125.Stamp]) rfl ?_
  simp only [jv,B0,reduceIte,reduceEqDiff]
  refine jc hS140 (fun b146 h147 hS148=>?_)
  simp only [zn,B0,reduceIte,reduceEqDiff]
  refine zi (us:=[lst cI x125.Homes,lst cI x125.InStep,.int .i64 x125.Leader,.int .i64 x125.Epoch,.int .i64 x125.Stamp]) rfl (cs':=[lst cI x125.Homes,
    lst cI x125.InStep,.int .i64 x125.Leader,.int .i64 x125.Epoch,.int .i64 x125.Stamp]) hS148 hW rfl rfl (nle rfl) rfl (fun h150 hS151=>?_)
  simp only [qa,B0,reduceIte,reduceEqDiff]
  refine zu hS151 hW (by simp only [B0,reduceIte,reduceEqDiff]) (fun h152 hS153=>?_)
  simp only [zx,q12,qd,qc,f141,qm,B0,reduceIte,reduceEqDiff]
  refine qg (v := .agg [lst qi v_0.Brokers,lst qj v_0.Parts,.int .i64 v_0.Next]) rfl ?_
  simp only [qm,B0,reduceIte,reduceEqDiff]
  refine qg (v := .agg [lst cI x125.Homes,lst cI x125.InStep,.int .i64 x125.Leader,.int .i64 x125.Epoch,.int .i64 x125.Stamp]) rfl ?_
  obtain ⟨v154,hx155,hF156⟩:=ql hF130
  simp only [zf,B0,reduceIte,reduceEqDiff]
  refine ja rfl (qk (jb (qk zm (qk zm (qk qs zg)))) (qk (jb (qk zm (qk zm (qk qs (qk qs
    (qk qs zg)))))) zg)) (qks (fun b hb=>decide_eq_true hb) v_0 x125 v154 hx155) ?_
  simp only [jl,qb,kd,qa,qx,B0,reduceIte,reduceEqDiff]
  refine qr (t:=(!v154)) (fun hc157=>?_) (fun hc157=>?_)
  ·rw [iteT hc157] at hF156
   simp only [qd,qc,qe,qa,qv,B0,reduceIte,reduceEqDiff]
   have e158:=qh hF156
   subst e158
   have ho159:=hr131 _ rfl
   have hk160:=hk129
   rw [ho159] at hk160
   dsimp only [jnO] at hk160
   apply hR135
   have he:=qh hk160
   subst he
   simp only [qw,B0,reduceIte,reduceEqDiff]
   exact rfl
  rw [iteF hc157] at hF156
  simp only [q8,qn,B0,reduceIte,reduceEqDiff]
  have e161:=qh hF156
  exact hN133 _ _ _ e161.symm ⟨f141,f142,hS153⟩ (f144) (f145)
 rintro _ fr163 h164 rfl ⟨f166,f167,hS165⟩
 dsimp only [jnO] at hk129
 unfold qd3 at hk129
 simp only [qd,qc,qe,qa,qv,B0,reduceIte,reduceEqDiff]
 have he:=qh hk129
 subst he
 simp only [qw,B0,reduceIte,reduceEqDiff]
 exact rfl
end Go.Proofs.Ytjloihcijdcpeaa.X
namespace Go.Proofs.Ytjloihcijdcpeaa.X
open Go
open Nat (reduceEqDiff)
theorem qin {W:Nat→Bool}{h:Heap} (hW:∀ b,
  (geL h.length) b→W b=true) (v_0:Control) (v_1:Command) (r:Bool) (hF:qah v_0 v_1=some r) : Ret E W 54 [.agg [lst qi v_0.Brokers,
  lst qj v_0.Parts,.int .i64 v_0.Next],.agg [.int .i64 v_1.Kind,.int .i64 v_1.Broker,.int .i64 v_1.Epoch,.int .i64 v_1.Part,.int .i64 v_1.Stamp,
  lst cI v_1.InStep]] h (fun v h'=>cut h.length h' E.sz false 9 v=some (.bool r)):=by
 refine Ret.of (fn:=x54) rfl (Run.of ?_)
 unfold qah at hF
 have zf0:zc [.agg [lst qi v_0.Brokers,lst qj v_0.Parts,.int .i64 v_0.Next],.agg [.int .i64 v_1.Kind,.int .i64 v_1.Broker,.int .i64 v_1.Epoch,
   .int .i64 v_1.Part,.int .i64 v_1.Stamp,lst cI v_1.InStep]] 0 = .agg [lst qi v_0.Brokers,lst qj v_0.Parts,.int .i64 v_0.Next]:=rfl
 have zf1:zc [.agg [lst qi v_0.Brokers,lst qj v_0.Parts,.int .i64 v_0.Next],.agg [.int .i64 v_1.Kind,.int .i64 v_1.Broker,.int .i64 v_1.Epoch,
   .int .i64 v_1.Part,.int .i64 v_1.Stamp,lst cI v_1.InStep]] 1 = .agg [.int .i64 v_1.Kind,.int .i64 v_1.Broker,.int .i64 v_1.Epoch,.int .i64 v_1.Part,
   .int .i64 v_1.Stamp,lst cI v_1.InStep]:=rfl
 generalize zc [.agg [lst qi v_0.Brokers,lst qj v_0.Parts,.int .i64 v_0.Next],.agg [.int .i64 v_1.Kind,.int .i64 v_1.Broker,.int .i64 v_1.Epoch,
   .int .i64 v_1.Part,.int .i64 v_1.Stamp,lst cI v_1.InStep]]=fr0 at zf0 zf1 ⊢
 have hS:Sep h (geL h.length) []:=Sep.nil h
 simp only [x54,qd,qc,jm,zf0,B0,reduceIte,reduceEqDiff]
 refine z8 (cs:=[lst qi v_0.Brokers,lst qj v_0.Parts,.int .i64 v_0.Next]) hS rfl rfl rfl (fun b1 h2 hS3=>?_)
 simp only [jm,zf1,B0,reduceIte,reduceEqDiff]
 refine z8 (cs:=[.int .i64 v_1.Kind,.int .i64 v_1.Broker,.int .i64 v_1.Epoch,.int .i64 v_1.Part,.int .i64 v_1.Stamp,
   lst cI v_1.InStep]) hS3 rfl rfl rfl (fun b5 h6 hS7=>?_)
 simp only [qe,qa,B0,reduceIte,reduceEqDiff]
 refine zu (Sep.m1 hS7) hW (by simp only [B0,reduceIte,reduceEqDiff]) (fun h9 hS10=>?_)
 refine zu hS10 hW (by simp only [B0,reduceIte,reduceEqDiff]) (fun h11 hS12=>?_)
 simp only [zx,qr7,qd,qc,qo,qb,Nat.reduceAdd,Nat.zero_add,Nat.add_zero,qq,qm,B0,reduceIte,reduceEqDiff]
 refine qg (v := .int .i64 v_1.Broker) rfl ?_
 simp only [qp,qb,qcp,qe,B0,reduceIte,reduceEqDiff]
 refine zy 7 (fun fr' h'=>Sep h' (geL h.length) ([])∧fr' 17 = .bool ((decide ((0:Int)≤v_1.Broker))&&(decide (v_1.Broker <
   (List.length v_0.Brokers:Int))))∧fr' 2 = .ref [lst qi v_0.Brokers,lst qj v_0.Parts,.int .i64 v_0.Next] 0∧fr' 3 = .ref [.int .i64 v_1.Kind,
   .int .i64 v_1.Broker,.int .i64 v_1.Epoch,.int .i64 v_1.Part,.int .i64 v_1.Stamp,lst cI v_1.InStep] 0) (fun Q13 hN14=>?_) ?_
 ·simp only [List.take_succ_cons,List.take_zero]
  simp only [qf (g:=10),B0,reduceIte,reduceEqDiff]
  refine zd (t:=(decide ((0:Int)≤v_1.Broker))) (fun hg15=>?_) (fun hg15=>?_)
  ·simp only [hg15,qf (g:=10),q9,qo,qb,Nat.reduceAdd,Nat.zero_add,Nat.add_zero,qq,qm,B0,reduceIte,reduceEqDiff]
   refine qg (v := .int .i64 v_1.Broker) rfl ?_
   simp only [hg15,qf (g:=10),q9,qo,qb,Nat.reduceAdd,Nat.zero_add,Nat.add_zero,qq,qm,B0,reduceIte,reduceEqDiff]
   refine qg (v:=lst qi v_0.Brokers) rfl ?_
   simp only [hg15,qf (g:=10),q9,zo,qb,zt,qp,yl,qu,zk,qa,qn,B0,reduceIte,reduceEqDiff]
   exact hN14 _ _ ⟨hS12,by rw [yc hg15]; simp only [B0,reduceIte,reduceEqDiff],rfl,rfl⟩
  ·simp only [hg15,qf (g:=10),zv,qu,qb,zj,qa,qn,B0,reduceIte,reduceEqDiff]
   exact hN14 _ _ ⟨hS12,by rw [yb hg15]; simp only [B0,reduceIte,reduceEqDiff],rfl,rfl⟩
 rintro fr16 h20 ⟨hS21,f17,f18,f19⟩
 simp only [List.drop_succ_cons,List.drop_zero]
 simp only [f17,qe,qa,qop,qd,qc,f19,qo,qb,Nat.reduceAdd,Nat.zero_add,Nat.add_zero,qq,qm,B0,reduceIte,reduceEqDiff]
 refine qg (v:=lst cI v_1.InStep) rfl ?_
 simp only [zo,qb,zt,qp,je,qe,qa,qsc,qd,qc,f19,qo,Nat.reduceAdd,Nat.zero_add,Nat.add_zero,qq,qm,
   B0,reduceIte,reduceEqDiff]
 refine qg (v := .int .i64 v_1.Kind) rfl ?_
 simp only [qa,qtw,jy,qpk,qd,qc,qp,qb,je,qe,qqv,qx,B0,reduceIte,reduceEqDiff]
 refine qr (t:=(decide (v_1.Kind=1))) (fun hc22=>?_) (fun hc22=>?_)
 ·rw [iteT hc22] at hF
  simp only [q2i,qd,qc,qe,B0,reduceIte,reduceEqDiff]
  refine zy 4 (fun fr' h'=>Sep h' (geL h.length) ([])∧fr' 31 = .bool (((decide ((0:Int)≤v_1.Broker))&&(decide (v_1.Broker<(List.length v_0.Brokers:Int)))) &&
    (decide (v_1.Epoch=0)))∧fr' 3 = .ref [.int .i64 v_1.Kind,.int .i64 v_1.Broker,.int .i64 v_1.Epoch,.int .i64 v_1.Part,.int .i64 v_1.Stamp,
    lst cI v_1.InStep] 0∧fr' 6 = .bool (decide ((List.length v_1.InStep:Int)=0))) (fun Q23 hN24=>?_) ?_
  ·simp only [List.take_succ_cons,List.take_zero]
   simp only [qf (g:=27),B0,reduceIte,reduceEqDiff]
   refine zd (t:=((decide ((0:Int)≤v_1.Broker))&&(decide (v_1.Broker<(List.length v_0.Brokers:Int))))) (fun hg25=>?_) (fun hg25=>?_)
   ·simp only [hg25,qf (g:=27),q9,f19,qo,qb,Nat.reduceAdd,Nat.zero_add,Nat.add_zero,qq,qm,B0,reduceIte,reduceEqDiff]
    refine qg (v := .int .i64 v_1.Epoch) rfl ?_
    simp only [hg25,qf (g:=27),q9,qp,qb,je,qu,zk,qa,qn,B0,reduceIte,reduceEqDiff]
    exact hN24 _ _ ⟨hS21,by rw [yc hg25]; simp only [B0,reduceIte,reduceEqDiff],f19,rfl⟩
   ·simp only [hg25,qf (g:=27),zv,qu,qb,zj,qa,qn,B0,reduceIte,reduceEqDiff]
    exact hN24 _ _ ⟨hS21,by rw [yb hg25]; simp only [B0,reduceIte,reduceEqDiff],f19,rfl⟩
  rintro fr26 h30 ⟨hS31,f27,f28,f29⟩
  simp only [List.drop_succ_cons,List.drop_zero]
  simp only [f27,qe,B0,reduceIte,reduceEqDiff]
  refine zy 4 (fun fr' h'=>Sep h' (geL h.length) ([])∧fr' 36 = .bool ((((decide ((0:Int)≤v_1.Broker))&&(decide (v_1.Broker<(List.length v_0.Brokers:Int)))) &&
    (decide (v_1.Epoch=0)))&&(decide (v_1.Part=0)))∧fr' 3 = .ref [.int .i64 v_1.Kind,.int .i64 v_1.Broker,.int .i64 v_1.Epoch,.int .i64 v_1.Part,
    .int .i64 v_1.Stamp,lst cI v_1.InStep] 0∧fr' 6 = .bool (decide ((List.length v_1.InStep:Int)=0))) (fun Q32 hN33=>?_) ?_
  ·simp only [List.take_succ_cons,List.take_zero]
   simp only [qf (g:=32),B0,reduceIte,reduceEqDiff]
   refine zd (t:=(((decide ((0:Int)≤v_1.Broker))&&(decide (v_1.Broker<(List.length v_0.Brokers:Int))))&&(decide (v_1.Epoch=0)))) (fun hg34=>?_)
     (fun hg34=>?_)
   ·simp only [hg34,qf (g:=32),q9,f28,qo,qb,Nat.reduceAdd,Nat.zero_add,Nat.add_zero,qq,qm,B0,reduceIte,reduceEqDiff]
    refine qg (v := .int .i64 v_1.Part) rfl ?_
    simp only [hg34,qf (g:=32),q9,qp,qb,je,qu,zk,qa,qn,B0,reduceIte,reduceEqDiff]
    exact hN33 _ _ ⟨hS31,by rw [yc hg34]; simp only [B0,reduceIte,reduceEqDiff],f28,f29⟩
   ·simp only [hg34,qf (g:=32),zv,qu,qb,zj,qa,qn,B0,reduceIte,reduceEqDiff]
    exact hN33 _ _ ⟨hS31,by rw [yb hg34]; simp only [B0,reduceIte,reduceEqDiff],f28,f29⟩
  rintro fr35 h39 ⟨hS40,f36,f37,f38⟩
  simp only [List.drop_succ_cons,List.drop_zero]
  simp only [f36,qe,B0,reduceIte,reduceEqDiff]
  refine zy 4 (fun fr' h'=>Sep h' (geL h.length) ([])∧fr' 41 = .bool (((((decide ((0:Int)≤v_1.Broker))&&(decide (v_1.Broker<(List.length v_0.Brokers:Int)))) &&
    (decide (v_1.Epoch=0)))&&(decide (v_1.Part=0)))&&(decide (v_1.Stamp=0)))∧fr' 6 = .bool (decide ((List.length v_1.InStep:Int)=0))) (fun Q41 hN42=>?_) ?_
  ·simp only [List.take_succ_cons,List.take_zero]
   simp only [qf (g:=37),B0,reduceIte,reduceEqDiff]
   refine zd (t:=((((decide ((0:Int)≤v_1.Broker))&&(decide (v_1.Broker<(List.length v_0.Brokers:Int))))&&(decide (v_1.Epoch=0)))&&(decide
     (v_1.Part=0)))) (fun hg43=>?_) (fun hg43=>?_)
   ·simp only [hg43,qf (g:=37),q9,f37,qo,qb,Nat.reduceAdd,Nat.zero_add,Nat.add_zero,qq,qm,B0,reduceIte,reduceEqDiff]
    refine qg (v := .int .i64 v_1.Stamp) rfl ?_
    simp only [hg43,qf (g:=37),q9,qp,qb,je,qu,zk,qa,qn,B0,reduceIte,reduceEqDiff]
    exact hN42 _ _ ⟨hS40,by rw [yc hg43]; simp only [B0,reduceIte,reduceEqDiff],f38⟩
   ·simp only [hg43,qf (g:=37),zv,qu,qb,zj,qa,qn,B0,reduceIte,reduceEqDiff]
    exact hN42 _ _ ⟨hS40,by rw [yb hg43]; simp only [B0,reduceIte,reduceEqDiff],f38⟩
  rintro fr44 h47 ⟨hS48,f45,f46⟩
  simp only [List.drop_succ_cons,List.drop_zero]
  simp only [f45,qe,B0,reduceIte,reduceEqDiff]
  refine zy 2 (fun fr' h'=>Sep h' (geL h.length) ([])∧fr' 44 = .bool ((((((decide ((0:Int)≤v_1.Broker))&&(decide (v_1.Broker <
    (List.length v_0.Brokers:Int))))&&(decide (v_1.Epoch=0)))&&(decide (v_1.Part=0)))&&(decide (v_1.Stamp=0)))&&(decide
    ((List.length v_1.InStep:Int)=0)))) (fun Q49 hN50=>?_) ?_
  ·simp only [List.take_succ_cons,List.take_zero]
   simp only [qf (g:=42),B0,reduceIte,reduceEqDiff]
   refine zd (t:=(((((decide ((0:Int)≤v_1.Broker))&&(decide (v_1.Broker<(List.length v_0.Brokers:Int))))&&(decide (v_1.Epoch=0)))&&(decide
     (v_1.Part=0)))&&(decide (v_1.Stamp=0)))) (fun hg51=>?_) (fun hg51=>?_)
   ·simp only [hg51,qf (g:=42),q9,f46,qe,qu,qb,zk,qa,qn,B0,reduceIte,reduceEqDiff]
    exact hN50 _ _ ⟨hS48,by rw [yc hg51]; simp only [B0,reduceIte,reduceEqDiff]⟩
   ·simp only [hg51,qf (g:=42),zv,qu,qb,zj,qa,qn,B0,reduceIte,reduceEqDiff]
    exact hN50 _ _ ⟨hS48,by rw [yb hg51]; simp only [B0,reduceIte,reduceEqDiff]⟩
  rintro fr52 h54 ⟨hS55,f53⟩
  simp only [List.drop_succ_cons,List.drop_zero]
  simp only [f53,qe,qa,qv,B0,reduceIte,reduceEqDiff]
  have he:=qh hF
  subst he
  simp only [qw,B0,reduceIte,reduceEqDiff]
  exact rfl
 rw [iteF hc22] at hF
 simp only [qpm,qd,qc,qp,qb,je,qe,qa,qre,qx,B0,reduceIte,reduceEqDiff]
 refine qr (t:=(decide (v_1.Kind=2))) (fun hc56=>?_) (fun hc56=>?_)
 ·rw [iteT hc56] at hF
  simp only [q38,qd,qc,qe,B0,reduceIte,reduceEqDiff]
  refine zy 4 (fun fr' h'=>Sep h' (geL h.length) ([])∧fr' 52 = .bool (((decide ((0:Int)≤v_1.Broker))&&(decide (v_1.Broker<(List.length v_0.Brokers:Int)))) &&
    (zl v_1.Epoch 0 1000))∧fr' 3 = .ref [.int .i64 v_1.Kind,.int .i64 v_1.Broker,.int .i64 v_1.Epoch,.int .i64 v_1.Part,.int .i64 v_1.Stamp,
    lst cI v_1.InStep] 0∧fr' 6 = .bool (decide ((List.length v_1.InStep:Int)=0))) (fun Q57 hN58=>?_) ?_
  ·simp only [List.take_succ_cons,List.take_zero]
   simp only [qf (g:=48),B0,reduceIte,reduceEqDiff]
   refine zd (t:=((decide ((0:Int)≤v_1.Broker))&&(decide (v_1.Broker<(List.length v_0.Brokers:Int))))) (fun hg59=>?_) (fun hg59=>?_)
   ·simp only [hg59,qf (g:=48),q9,f19,qo,qb,Nat.reduceAdd,Nat.zero_add,Nat.add_zero,qq,qm,B0,reduceIte,reduceEqDiff]
    refine qg (v := .int .i64 v_1.Epoch) rfl ?_
    simp only [hg59,qf (g:=48),q9,zf,B0,reduceIte,reduceEqDiff]
    refine ja rfl (qk qs (qk qs (qk qs zg))) (y2 (fun b hb=>decide_eq_true hb) v_1.Epoch 0 1000 _ rfl) ?_
    simp only [hg59,qu,qb,zk,qa,qn,B0,reduceIte,reduceEqDiff]
    exact hN58 _ _ ⟨hS21,by rw [yc hg59]; simp only [B0,reduceIte,reduceEqDiff],f19,rfl⟩
   ·simp only [hg59,qf (g:=48),zv,qu,qb,zj,qa,qn,B0,reduceIte,reduceEqDiff]
    exact hN58 _ _ ⟨hS21,by rw [yb hg59]; simp only [B0,reduceIte,reduceEqDiff],f19,rfl⟩
  rintro fr60 h64 ⟨hS65,f61,f62,f63⟩
  simp only [List.drop_succ_cons,List.drop_zero]
  simp only [f61,qe,B0,reduceIte,reduceEqDiff]
  refine zy 4 (fun fr' h'=>Sep h' (geL h.length) ([])∧fr' 57 = .bool ((((decide ((0:Int)≤v_1.Broker))&&(decide (v_1.Broker<(List.length v_0.Brokers:Int)))) &&
    (zl v_1.Epoch 0 1000))&&(decide (v_1.Part=0)))∧fr' 3 = .ref [.int .i64 v_1.Kind,.int .i64 v_1.Broker,.int .i64 v_1.Epoch,.int .i64 v_1.Part,
    .int .i64 v_1.Stamp,lst cI v_1.InStep] 0∧fr' 6 = .bool (decide ((List.length v_1.InStep:Int)=0))) (fun Q66 hN67=>?_) ?_
  ·simp only [List.take_succ_cons,List.take_zero]
   simp only [qf (g:=53),B0,reduceIte,reduceEqDiff]
   refine zd (t:=(((decide ((0:Int)≤v_1.Broker))&&(decide (v_1.Broker<(List.length v_0.Brokers:Int))))&&(zl v_1.Epoch 0 1000))) (fun hg68=>?_)
     (fun hg68=>?_)
   ·simp only [hg68,qf (g:=53),q9,f62,qo,qb,Nat.reduceAdd,Nat.zero_add,Nat.add_zero,qq,qm,B0,reduceIte,reduceEqDiff]
    refine qg (v := .int .i64 v_1.Part) rfl ?_
    simp only [hg68,qf (g:=53),q9,qp,qb,je,qu,zk,qa,qn,B0,reduceIte,reduceEqDiff]
    exact hN67 _ _ ⟨hS65,by rw [yc hg68]; simp only [B0,reduceIte,reduceEqDiff],f62,f63⟩
   ·simp only [hg68,qf (g:=53),zv,qu,qb,zj,qa,qn,B0,reduceIte,reduceEqDiff]
    exact hN67 _ _ ⟨hS65,by rw [yb hg68]; simp only [B0,reduceIte,reduceEqDiff],f62,f63⟩
  rintro fr69 h73 ⟨hS74,f70,f71,f72⟩
  simp only [List.drop_succ_cons,List.drop_zero]
  simp only [f70,qe,B0,reduceIte,reduceEqDiff]
  refine zy 4 (fun fr' h'=>Sep h' (geL h.length) ([])∧fr' 62 = .bool (((((decide ((0:Int)≤v_1.Broker))&&(decide (v_1.Broker<(List.length v_0.Brokers:Int)))) &&
    (zl v_1.Epoch 0 1000))&&(decide (v_1.Part=0)))&&(decide (v_1.Stamp=0)))∧fr' 6 = .bool (decide ((List.length v_1.InStep:Int)=0)))
    (fun Q75 hN76=>?_) ?_
  ·simp only [List.take_succ_cons,List.take_zero]
   simp only [qf (g:=58),B0,reduceIte,reduceEqDiff]
   refine zd (t:=((((decide ((0:Int)≤v_1.Broker))&&(decide (v_1.Broker<(List.length v_0.Brokers:Int))))&&(zl v_1.Epoch 0 1000))&&(decide
     (v_1.Part=0)))) (fun hg77=>?_) (fun hg77=>?_)
   ·simp only [hg77,qf (g:=58),q9,f71,qo,qb,Nat.reduceAdd,Nat.zero_add,Nat.add_zero,qq,qm,B0,reduceIte,reduceEqDiff]
    refine qg (v := .int .i64 v_1.Stamp) rfl ?_
    simp only [hg77,qf (g:=58),q9,qp,qb,je,qu,zk,qa,qn,B0,reduceIte,reduceEqDiff]
    exact hN76 _ _ ⟨hS74,by rw [yc hg77]; simp only [B0,reduceIte,reduceEqDiff],f72⟩
   ·simp only [hg77,qf (g:=58),zv,qu,qb,zj,qa,qn,B0,reduceIte,reduceEqDiff]
    exact hN76 _ _ ⟨hS74,by rw [yb hg77]; simp only [B0,reduceIte,reduceEqDiff],f72⟩
  rintro fr78 h81 ⟨hS82,f79,f80⟩
  simp only [List.drop_succ_cons,List.drop_zero]
  simp only [f79,qe,B0,reduceIte,reduceEqDiff]
  refine zy 2 (fun fr' h'=>Sep h' (geL h.length) ([])∧fr' 65 = .bool ((((((decide ((0:Int)≤v_1.Broker))&&(decide (v_1.Broker <
    (List.length v_0.Brokers:Int))))&&(zl v_1.Epoch 0 1000))&&(decide (v_1.Part=0)))&&(decide (v_1.Stamp=0)))&&(decide
    ((List.length v_1.InStep:Int)=0)))) (fun Q83 hN84=>?_) ?_
  ·simp only [List.take_succ_cons,List.take_zero]
   simp only [qf (g:=63),B0,reduceIte,reduceEqDiff]
   refine zd (t:=(((((decide ((0:Int)≤v_1.Broker))&&(decide (v_1.Broker<(List.length v_0.Brokers:Int))))&&(zl v_1.Epoch 0 1000))&&(decide
     (v_1.Part=0)))&&(decide (v_1.Stamp=0)))) (fun hg85=>?_) (fun hg85=>?_)
   ·simp only [hg85,qf (g:=63),q9,f80,qe,qu,qb,zk,qa,qn,B0,reduceIte,reduceEqDiff]
    exact hN84 _ _ ⟨hS82,by rw [yc hg85]; simp only [B0,reduceIte,reduceEqDiff]⟩
   ·simp only [hg85,qf (g:=63),zv,qu,qb,zj,qa,qn,B0,reduceIte,reduceEqDiff]
    exact hN84 _ _ ⟨hS82,by rw [yb hg85]; simp only [B0,reduceIte,reduceEqDiff]⟩
  rintro fr86 h88 ⟨hS89,f87⟩
  simp only [List.drop_succ_cons,List.drop_zero]
  simp only [f87,qe,qa,qv,B0,reduceIte,reduceEqDiff]
  have he:=qh hF
  subst he
  simp only [qw,B0,reduceIte,reduceEqDiff]
  exact rfl
 rw [iteF hc56] at hF
 simp only [qon,qd,qc,qp,qb,je,qe,qa,qsu,qx,B0,reduceIte,reduceEqDiff]
 refine qr (t:=(decide (v_1.Kind=3))) (fun hc90=>?_) (fun hc90=>?_)
 ·rw [iteT hc90] at hF
  simp only [q0u,qd,qc,f19,qo,qb,Nat.reduceAdd,Nat.zero_add,Nat.add_zero,qq,qm,B0,reduceIte,reduceEqDiff]
  refine qg (v := .int .i64 v_1.Broker) rfl ?_
  simp only [qp,qb,je,qe,B0,reduceIte,reduceEqDiff]
  refine zy 4 (fun fr' h'=>Sep h' (geL h.length) ([])∧fr' 75 = .bool ((decide (v_1.Broker=0))&&(decide (v_1.Epoch=0)))∧fr' 3 = .ref [.int .i64 v_1.Kind,
    .int .i64 v_1.Broker,.int .i64 v_1.Epoch,.int .i64 v_1.Part,.int .i64 v_1.Stamp,
    lst cI v_1.InStep] 0∧fr' 6 = .bool (decide ((List.length v_1.InStep:Int)=0))) (fun Q91 hN92=>?_) ?_
  ·simp only [List.take_succ_cons,List.take_zero]
   simp only [qf (g:=71),B0,reduceIte,reduceEqDiff]
   refine zd (t:=(decide (v_1.Broker=0))) (fun hg93=>?_) (fun hg93=>?_)
   ·simp only [hg93,qf (g:=71),q9,f19,qo,qb,Nat.reduceAdd,Nat.zero_add,Nat.add_zero,qq,qm,B0,reduceIte,reduceEqDiff]
    refine qg (v := .int .i64 v_1.Epoch) rfl ?_
    simp only [hg93,qf (g:=71),q9,qp,qb,je,qu,zk,qa,qn,B0,reduceIte,reduceEqDiff]
    exact hN92 _ _ ⟨hS21,by rw [yc hg93]; simp only [B0,reduceIte,reduceEqDiff],f19,rfl⟩
   ·simp only [hg93,qf (g:=71),zv,qu,qb,zj,qa,qn,B0,reduceIte,reduceEqDiff]
    exact hN92 _ _ ⟨hS21,by rw [yb hg93]; simp only [B0,reduceIte,reduceEqDiff],f19,rfl⟩
  rintro fr94 h98 ⟨hS99,f95,f96,f97⟩
  simp only [List.drop_succ_cons,List.drop_zero]
  simp only [f95,qe,B0,reduceIte,reduceEqDiff]
  refine zy 4 (fun fr' h'=>Sep h' (geL h.length) ([])∧fr' 80 = .bool (((decide (v_1.Broker=0))&&(decide (v_1.Epoch=0)))&&(decide
    (v_1.Part=0)))∧fr' 3 = .ref [.int .i64 v_1.Kind,.int .i64 v_1.Broker,.int .i64 v_1.Epoch,.int .i64 v_1.Part,.int .i64 v_1.Stamp,
    lst cI v_1.InStep] 0∧fr' 6 = .bool (decide ((List.length v_1.InStep:Int)=0))) (fun Q100 hN101=>?_) ?_
  ·simp only [List.take_succ_cons,List.take_zero]
   simp only [qf (g:=76),B0,reduceIte,reduceEqDiff]
   refine zd (t:=((decide (v_1.Broker=0))&&(decide (v_1.Epoch=0)))) (fun hg102=>?_) (fun hg102=>?_)
   ·simp only [hg102,qf (g:=76),q9,f96,qo,qb,Nat.reduceAdd,Nat.zero_add,Nat.add_zero,qq,qm,B0,reduceIte,reduceEqDiff]
    refine qg (v := .int .i64 v_1.Part) rfl ?_
    simp only [hg102,qf (g:=76),q9,qp,qb,je,qu,zk,qa,qn,B0,reduceIte,reduceEqDiff]
    exact hN101 _ _ ⟨hS99,by rw [yc hg102]; simp only [B0,reduceIte,reduceEqDiff],f96,f97⟩
   ·simp only [hg102,qf (g:=76),zv,qu,qb,zj,qa,qn,B0,reduceIte,reduceEqDiff]
    exact hN101 _ _ ⟨hS99,by rw [yb hg102]; simp only [B0,reduceIte,reduceEqDiff],f96,f97⟩
  rintro fr103 h107 ⟨hS108,f104,f105,f106⟩
  simp only [List.drop_succ_cons,List.drop_zero]
  simp only [f104,qe,B0,reduceIte,reduceEqDiff]
  refine zy 4 (fun fr' h'=>Sep h' (geL h.length) ([])∧fr' 85 = .bool ((((decide (v_1.Broker=0))&&(decide (v_1.Epoch=0)))&&(decide (v_1.Part=0)))&&(decide
    (v_1.Stamp=0)))∧fr' 6 = .bool (decide ((List.length v_1.InStep:Int)=0))) (fun Q109 hN110=>?_) ?_
  ·simp only [List.take_succ_cons,List.take_zero]
   simp only [qf (g:=81),B0,reduceIte,reduceEqDiff]
   refine zd (t:=(((decide (v_1.Broker=0))&&(decide (v_1.Epoch=0)))&&(decide (v_1.Part=0)))) (fun hg111=>?_) (fun hg111=>?_)
   ·simp only [hg111,qf (g:=81),q9,f105,qo,qb,Nat.reduceAdd,Nat.zero_add,Nat.add_zero,qq,qm,B0,reduceIte,reduceEqDiff]
    refine qg (v := .int .i64 v_1.Stamp) rfl ?_
    simp only [hg111,qf (g:=81),q9,qp,qb,je,qu,zk,qa,qn,B0,reduceIte,reduceEqDiff]
    exact hN110 _ _ ⟨hS108,by rw [yc hg111]; simp only [B0,reduceIte,reduceEqDiff],f106⟩
   ·simp only [hg111,qf (g:=81),zv,qu,qb,zj,qa,qn,B0,reduceIte,reduceEqDiff]
    exact hN110 _ _ ⟨hS108,by rw [yb hg111]; simp only [B0,reduceIte,reduceEqDiff],f106⟩
  rintro fr112 h115 ⟨hS116,f113,f114⟩
  simp only [List.drop_succ_cons,List.drop_zero]
  simp only [f113,qe,B0,reduceIte,reduceEqDiff]
  refine zy 2 (fun fr' h'=>Sep h' (geL h.length) ([])∧fr' 88 = .bool (((((decide (v_1.Broker=0))&&(decide (v_1.Epoch=0)))&&(decide (v_1.Part=0)))&&(decide
    (v_1.Stamp=0)))&&(decide ((List.length v_1.InStep:Int)=0)))) (fun Q117 hN118=>?_) ?_
  ·simp only [List.take_succ_cons,List.take_zero]
   simp only [qf (g:=86),B0,reduceIte,reduceEqDiff]
   refine zd (t:=((((decide (v_1.Broker=0))&&(decide (v_1.Epoch=0)))&&(decide (v_1.Part=0)))&&(decide (v_1.Stamp=0)))) (fun hg119=>?_)
     (fun hg119=>?_)
   ·simp only [hg119,qf (g:=86),q9,f114,qe,qu,qb,zk,qa,qn,B0,reduceIte,reduceEqDiff]
    exact hN118 _ _ ⟨hS116,by rw [yc hg119]; simp only [B0,reduceIte,reduceEqDiff]⟩
   ·simp only [hg119,qf (g:=86),zv,qu,qb,zj,qa,qn,B0,reduceIte,reduceEqDiff]
    exact hN118 _ _ ⟨hS116,by rw [yb hg119]; simp only [B0,reduceIte,reduceEqDiff]⟩
  rintro fr120 h122 ⟨hS123,f121⟩
  simp only [List.drop_succ_cons,List.drop_zero]
  simp only [f121,qe,qa,qv,B0,reduceIte,reduceEqDiff]
  have he:=qh hF
  subst he
  simp only [qw,B0,reduceIte,reduceEqDiff]
  exact rfl
 rw [iteF hc90] at hF
 simp only [qrh,qd,qc,qp,qb,je,qe,qa,qrg,qx,B0,reduceIte,reduceEqDiff]
 refine qr (t:=(decide (v_1.Kind=4))) (fun hc124=>?_) (fun hc124=>?_)
 ·rw [iteT hc124] at hF
  simp only [qwt,qd,qc,f19,qo,qb,Nat.reduceAdd,Nat.zero_add,Nat.add_zero,qq,qm,B0,reduceIte,reduceEqDiff]
  refine qg (v := .int .i64 v_1.Broker) rfl ?_
  simp only [qp,qb,je,qe,B0,reduceIte,reduceEqDiff]
  refine zy 4 (fun fr' h'=>Sep h' (geL h.length) ([])∧fr' 98 = .bool ((decide (v_1.Broker=0))&&(decide (v_1.Epoch=0)))∧fr' 2 = .ref [lst qi v_0.Brokers,
    lst qj v_0.Parts,.int .i64 v_0.Next] 0∧fr' 3 = .ref [.int .i64 v_1.Kind,.int .i64 v_1.Broker,.int .i64 v_1.Epoch,.int .i64 v_1.Part,
    .int .i64 v_1.Stamp,lst cI v_1.InStep] 0) (fun Q125 hN126=>?_) ?_
  ·simp only [List.take_succ_cons,List.take_zero]
   simp only [qf (g:=94),B0,reduceIte,reduceEqDiff]
   refine zd (t:=(decide (v_1.Broker=0))) (fun hg127=>?_) (fun hg127=>?_)
   ·simp only [hg127,qf (g:=94),q9,f19,qo,qb,Nat.reduceAdd,Nat.zero_add,Nat.add_zero,qq,qm,B0,reduceIte,reduceEqDiff]
    refine qg (v := .int .i64 v_1.Epoch) rfl ?_
    simp only [hg127,qf (g:=94),q9,qp,qb,je,qu,zk,qa,qn,B0,reduceIte,reduceEqDiff]
    exact hN126 _ _ ⟨hS21,by rw [yc hg127]; simp only [B0,reduceIte,reduceEqDiff],f18,f19⟩
   ·simp only [hg127,qf (g:=94),zv,qu,qb,zj,qa,qn,B0,reduceIte,reduceEqDiff]
    exact hN126 _ _ ⟨hS21,by rw [yb hg127]; simp only [B0,reduceIte,reduceEqDiff],f18,f19⟩
  rintro fr128 h132 ⟨hS133,f129,f130,f131⟩
  simp only [List.drop_succ_cons,List.drop_zero]
  simp only [f129,qe,B0,reduceIte,reduceEqDiff]
  refine zy 4 (fun fr' h'=>Sep h' (geL h.length) ([])∧fr' 103 = .bool (((decide (v_1.Broker=0))&&(decide (v_1.Epoch=0)))&&(decide
    (v_1.Part=0)))∧fr' 2 = .ref [lst qi v_0.Brokers,lst qj v_0.Parts,.int .i64 v_0.Next] 0∧fr' 3 = .ref [.int .i64 v_1.Kind,
    .int .i64 v_1.Broker,.int .i64 v_1.Epoch,.int .i64 v_1.Part,.int .i64 v_1.Stamp,lst cI v_1.InStep] 0) (fun Q134 hN135=>?_) ?_
  ·simp only [List.take_succ_cons,List.take_zero]
   simp only [qf (g:=99),B0,reduceIte,reduceEqDiff]
   refine zd (t:=((decide (v_1.Broker=0))&&(decide (v_1.Epoch=0)))) (fun hg136=>?_) (fun hg136=>?_)
   ·simp only [hg136,qf (g:=99),q9,f131,qo,qb,Nat.reduceAdd,Nat.zero_add,Nat.add_zero,qq,qm,B0,reduceIte,reduceEqDiff]
    refine qg (v := .int .i64 v_1.Part) rfl ?_
    simp only [hg136,qf (g:=99),q9,qp,qb,je,qu,zk,qa,qn,B0,reduceIte,reduceEqDiff]
    exact hN135 _ _ ⟨hS133,by rw [yc hg136]; simp only [B0,reduceIte,reduceEqDiff],f130,f131⟩
   ·simp only [hg136,qf (g:=99),zv,qu,qb,zj,qa,qn,B0,reduceIte,reduceEqDiff]
    exact hN135 _ _ ⟨hS133,by rw [yb hg136]; simp only [B0,reduceIte,reduceEqDiff],f130,f131⟩
  rintro fr137 h141 ⟨hS142,f138,f139,f140⟩
  simp only [List.drop_succ_cons,List.drop_zero]
  simp only [f138,qe,B0,reduceIte,reduceEqDiff]
  refine zy 4 (fun fr' h'=>Sep h' (geL h.length) ([])∧fr' 108 = .bool ((((decide (v_1.Broker=0))&&(decide (v_1.Epoch=0)))&&(decide (v_1.Part=0)))&&(decide
    (v_1.Stamp=0)))∧fr' 2 = .ref [lst qi v_0.Brokers,lst qj v_0.Parts,.int .i64 v_0.Next] 0∧fr' 3 = .ref [.int .i64 v_1.Kind,
    .int .i64 v_1.Broker,.int .i64 v_1.Epoch,.int .i64 v_1.Part,.int .i64 v_1.Stamp,lst cI v_1.InStep] 0) (fun Q143 hN144=>?_) ?_
  ·simp only [List.take_succ_cons,List.take_zero]
   simp only [qf (g:=104),B0,reduceIte,reduceEqDiff]
   refine zd (t:=(((decide (v_1.Broker=0))&&(decide (v_1.Epoch=0)))&&(decide (v_1.Part=0)))) (fun hg145=>?_) (fun hg145=>?_)
   ·simp only [hg145,qf (g:=104),q9,f140,qo,qb,Nat.reduceAdd,Nat.zero_add,Nat.add_zero,qq,qm,B0,reduceIte,reduceEqDiff]
    refine qg (v := .int .i64 v_1.Stamp) rfl ?_
    simp only [hg145,qf (g:=104),q9,qp,qb,je,qu,zk,qa,qn,B0,reduceIte,reduceEqDiff]
    exact hN144 _ _ ⟨hS142,by rw [yc hg145]; simp only [B0,reduceIte,reduceEqDiff],f139,f140⟩
   ·simp only [hg145,qf (g:=104),zv,qu,qb,zj,qa,qn,B0,reduceIte,reduceEqDiff]
    exact hN144 _ _ ⟨hS142,by rw [yb hg145]; simp only [B0,reduceIte,reduceEqDiff],f139,f140⟩
  rintro fr146 h150 ⟨hS151,f147,f148,f149⟩
  simp only [List.drop_succ_cons,List.drop_zero]
  simp only [f147,qe,B0,reduceIte,reduceEqDiff]
  obtain ⟨v155,hx156,hF157⟩:=ql hF
  refine zy 7 (fun fr' h'=>Sep h' (geL h.length) ([])∧fr' 116 = .bool v155) (fun Q152 hN153=>?_) ?_
  ·simp only [List.take_succ_cons,List.take_zero]
   simp only [qf (g:=109),B0,reduceIte,reduceEqDiff]
   refine zd (t:=((((decide (v_1.Broker=0))&&(decide (v_1.Epoch=0)))&&(decide (v_1.Part=0)))&&(decide (v_1.Stamp=0)))) (fun hg154=>?_)
     (fun hg154=>?_)
   ·rw [iteT hg154] at hx156
    simp only [hg154,qf (g:=109),q9,f149,qo,qb,Nat.reduceAdd,Nat.zero_add,Nat.add_zero,qq,qm,B0,reduceIte,reduceEqDiff]
    refine qg (v:=lst cI v_1.InStep) rfl ?_
    simp only [hg154,qf (g:=109),q9,f148,qo,qb,Nat.reduceAdd,Nat.zero_add,Nat.add_zero,qq,qm,B0,reduceIte,reduceEqDiff]
    refine qg (v:=lst qi v_0.Brokers) rfl ?_
    obtain ⟨v158,hx159,hF160⟩:=ql hx156
    simp only [hg154,qf (g:=109),q9,zo,qb,zt,zf,B0,reduceIte,reduceEqDiff]
    refine ja rfl (qk zm (qk qs zg)) (qcj (fun b hb=>decide_eq_true hb) v_1.InStep (List.length v_0.Brokers:Int) v158 hx159) ?_
    simp only [hg154,qu,qb,zk,qa,qn,B0,reduceIte,reduceEqDiff]
    have e161:=qh hF160
    exact hN153 _ _ ⟨hS151,by rw [←e161]; simp only [B0,reduceIte,reduceEqDiff]⟩
   ·rw [iteF hg154] at hx156
    simp only [hg154,qf (g:=109),zv,qu,qb,zj,qa,qn,B0,reduceIte,reduceEqDiff]
    have e162:=qh hx156
    exact hN153 _ _ ⟨hS151,by rw [←e162]; simp only [B0,reduceIte,reduceEqDiff]⟩
  rintro fr163 h165 ⟨hS166,f164⟩
  simp only [List.drop_succ_cons,List.drop_zero]
  simp only [f164,qe,qa,qv,B0,reduceIte,reduceEqDiff]
  have he:=qh hF157
  subst he
  simp only [qw,B0,reduceIte,reduceEqDiff]
  exact rfl
 rw [iteF hc124] at hF
 simp only [qsv,qd,qc,qp,qb,je,qe,qa,qxi,qx,B0,reduceIte,reduceEqDiff]
 refine qr (t:=(decide (v_1.Kind=5))) (fun hc167=>?_) (fun hc167=>?_)
 ·rw [iteT hc167] at hF
  simp only [q1t,qd,qc,qe,B0,reduceIte,reduceEqDiff]
  refine zy 4 (fun fr' h'=>Sep h' (geL h.length) ([])∧fr' 124 = .bool (((decide ((0:Int)≤v_1.Broker))&&(decide (v_1.Broker<(List.length v_0.Brokers:Int)))) &&
    (zl v_1.Epoch 0 1000))∧fr' 2 = .ref [lst qi v_0.Brokers,lst qj v_0.Parts,.int .i64 v_0.Next] 0∧fr' 3 = .ref [.int .i64 v_1.Kind,
    .int .i64 v_1.Broker,.int .i64 v_1.Epoch,.int .i64 v_1.Part,.int .i64 v_1.Stamp,lst cI v_1.InStep] 0) (fun Q168 hN169=>?_) ?_
  ·simp only [List.take_succ_cons,List.take_zero]
   simp only [qf (g:=120),B0,reduceIte,reduceEqDiff]
   refine zd (t:=((decide ((0:Int)≤v_1.Broker))&&(decide (v_1.Broker<(List.length v_0.Brokers:Int))))) (fun hg170=>?_) (fun hg170=>?_)
   ·simp only [hg170,qf (g:=120),q9,f19,qo,qb,Nat.reduceAdd,Nat.zero_add,Nat.add_zero,qq,qm,B0,reduceIte,reduceEqDiff]
    refine qg (v := .int .i64 v_1.Epoch) rfl ?_
    simp only [hg170,qf (g:=120),q9,zf,B0,reduceIte,reduceEqDiff]
    refine ja rfl (qk qs (qk qs (qk qs zg))) (y2 (fun b hb=>decide_eq_true hb) v_1.Epoch 0 1000 _ rfl) ?_
    simp only [hg170,qu,qb,zk,qa,qn,B0,reduceIte,reduceEqDiff]
    exact hN169 _ _ ⟨hS21,by rw [yc hg170]; simp only [B0,reduceIte,reduceEqDiff],f18,f19⟩
   ·simp only [hg170,qf (g:=120),zv,qu,qb,zj,qa,qn,B0,reduceIte,reduceEqDiff]
    exact hN169 _ _ ⟨hS21,by rw [yb hg170]; simp only [B0,reduceIte,reduceEqDiff],f18,f19⟩
  rintro fr171 h175 ⟨hS176,f172,f173,f174⟩
  simp only [List.drop_succ_cons,List.drop_zero]
  simp only [f172,qe,B0,reduceIte,reduceEqDiff]
  refine zy 4 (fun fr' h'=>Sep h' (geL h.length) ([])∧fr' 129 = .bool ((((decide ((0:Int)≤v_1.Broker))&&(decide (v_1.Broker<(List.length v_0.Brokers:Int)))) &&
    (zl v_1.Epoch 0 1000))&&(zl v_1.Part 0 1000))∧fr' 2 = .ref [lst qi v_0.Brokers,lst qj v_0.Parts,
    .int .i64 v_0.Next] 0∧fr' 3 = .ref [.int .i64 v_1.Kind,.int .i64 v_1.Broker,.int .i64 v_1.Epoch,.int .i64 v_1.Part,.int .i64 v_1.Stamp,
    lst cI v_1.InStep] 0) (fun Q177 hN178=>?_) ?_
  ·simp only [List.take_succ_cons,List.take_zero]
   simp only [qf (g:=125),B0,reduceIte,reduceEqDiff]
   refine zd (t:=(((decide ((0:Int)≤v_1.Broker))&&(decide (v_1.Broker<(List.length v_0.Brokers:Int))))&&(zl v_1.Epoch 0 1000))) (fun hg179=>?_)
     (fun hg179=>?_)
   ·simp only [hg179,qf (g:=125),q9,f174,qo,qb,Nat.reduceAdd,Nat.zero_add,Nat.add_zero,qq,qm,B0,reduceIte,reduceEqDiff]
    refine qg (v := .int .i64 v_1.Part) rfl ?_
    simp only [hg179,qf (g:=125),q9,zf,B0,reduceIte,reduceEqDiff]
    refine ja rfl (qk qs (qk qs (qk qs zg))) (y2 (fun b hb=>decide_eq_true hb) v_1.Part 0 1000 _ rfl) ?_
    simp only [hg179,qu,qb,zk,qa,qn,B0,reduceIte,reduceEqDiff]
    exact hN178 _ _ ⟨hS176,by rw [yc hg179]; simp only [B0,reduceIte,reduceEqDiff],f173,f174⟩
   ·simp only [hg179,qf (g:=125),zv,qu,qb,zj,qa,qn,B0,reduceIte,reduceEqDiff]
    exact hN178 _ _ ⟨hS176,by rw [yb hg179]; simp only [B0,reduceIte,reduceEqDiff],f173,f174⟩
  rintro fr180 h184 ⟨hS185,f181,f182,f183⟩
  simp only [List.drop_succ_cons,List.drop_zero]
  simp only [f181,qe,B0,reduceIte,reduceEqDiff]
  refine zy 4 (fun fr' h'=>Sep h' (geL h.length) ([])∧fr' 134 = .bool (((((decide ((0:Int)≤v_1.Broker))&&(decide (v_1.Broker <
    (List.length v_0.Brokers:Int))))&&(zl v_1.Epoch 0 1000))&&(zl v_1.Part 0 1000)) &&
    (zl v_1.Stamp 0 1000))∧fr' 2 = .ref [lst qi v_0.Brokers,lst qj v_0.Parts,.int .i64 v_0.Next] 0∧fr' 3 = .ref [.int .i64 v_1.Kind,
    .int .i64 v_1.Broker,.int .i64 v_1.Epoch,.int .i64 v_1.Part,.int .i64 v_1.Stamp,lst cI v_1.InStep] 0) (fun Q186 hN187=>?_) ?_
  ·simp only [List.take_succ_cons,List.take_zero]
   simp only [qf (g:=130),B0,reduceIte,reduceEqDiff]
   refine zd (t:=((((decide ((0:Int)≤v_1.Broker))&&(decide (v_1.Broker<(List.length v_0.Brokers:Int))))&&(zl v_1.Epoch 0 1000)) &&
     (zl v_1.Part 0 1000))) (fun hg188=>?_) (fun hg188=>?_)
   ·simp only [hg188,qf (g:=130),q9,f183,qo,qb,Nat.reduceAdd,Nat.zero_add,Nat.add_zero,qq,qm,B0,reduceIte,reduceEqDiff]
    refine qg (v := .int .i64 v_1.Stamp) rfl ?_
    simp only [hg188,qf (g:=130),q9,zf,B0,reduceIte,reduceEqDiff]
    refine ja rfl (qk qs (qk qs (qk qs zg))) (y2 (fun b hb=>decide_eq_true hb) v_1.Stamp 0 1000 _ rfl) ?_
    simp only [hg188,qu,qb,zk,qa,qn,B0,reduceIte,reduceEqDiff]
    exact hN187 _ _ ⟨hS185,by rw [yc hg188]; simp only [B0,reduceIte,reduceEqDiff],f182,f183⟩
   ·simp only [hg188,qf (g:=130),zv,qu,qb,zj,qa,qn,B0,reduceIte,reduceEqDiff]
    exact hN187 _ _ ⟨hS185,by rw [yb hg188]; simp only [B0,reduceIte,reduceEqDiff],f182,f183⟩
  rintro fr189 h193 ⟨hS194,f190,f191,f192⟩
  simp only [List.drop_succ_cons,List.drop_zero]
  simp only [f190,qe,B0,reduceIte,reduceEqDiff]
  obtain ⟨v198,hx199,hF200⟩:=ql hF
  refine zy 7 (fun fr' h'=>Sep h' (geL h.length) ([])∧fr' 142 = .bool v198) (fun Q195 hN196=>?_) ?_
  ·simp only [List.take_succ_cons,List.take_zero]
   simp only [qf (g:=135),B0,reduceIte,reduceEqDiff]
   refine zd (t:=(((((decide ((0:Int)≤v_1.Broker))&&(decide (v_1.Broker<(List.length v_0.Brokers:Int))))&&(zl v_1.Epoch 0 1000)) &&
     (zl v_1.Part 0 1000))&&(zl v_1.Stamp 0 1000))) (fun hg197=>?_) (fun hg197=>?_)
   ·rw [iteT hg197] at hx199
    simp only [hg197,qf (g:=135),q9,f192,qo,qb,Nat.reduceAdd,Nat.zero_add,Nat.add_zero,qq,qm,B0,reduceIte,reduceEqDiff]
    refine qg (v:=lst cI v_1.InStep) rfl ?_
    simp only [hg197,qf (g:=135),q9,f191,qo,qb,Nat.reduceAdd,Nat.zero_add,Nat.add_zero,qq,qm,B0,reduceIte,reduceEqDiff]
    refine qg (v:=lst qi v_0.Brokers) rfl ?_
    obtain ⟨v201,hx202,hF203⟩:=ql hx199
    simp only [hg197,qf (g:=135),q9,zo,qb,zt,zf,B0,reduceIte,reduceEqDiff]
    refine ja rfl (qk zm (qk qs zg)) (qcj (fun b hb=>decide_eq_true hb) v_1.InStep (List.length v_0.Brokers:Int) v201 hx202) ?_
    simp only [hg197,qu,qb,zk,qa,qn,B0,reduceIte,reduceEqDiff]
    have e204:=qh hF203
    exact hN196 _ _ ⟨hS194,by rw [←e204]; simp only [B0,reduceIte,reduceEqDiff]⟩
   ·rw [iteF hg197] at hx199
    simp only [hg197,qf (g:=135),zv,qu,qb,zj,qa,qn,B0,reduceIte,reduceEqDiff]
    have e205:=qh hx199
    exact hN196 _ _ ⟨hS194,by rw [←e205]; simp only [B0,reduceIte,reduceEqDiff]⟩
  rintro fr206 h208 ⟨hS209,f207⟩
  simp only [List.drop_succ_cons,List.drop_zero]
  simp only [f207,qe,qa,qv,B0,reduceIte,reduceEqDiff]
  have he:=qh hF200
  subst he
  simp only [qw,B0,reduceIte,reduceEqDiff]
  exact rfl
 rw [iteF hc167] at hF
 simp only [q3l,qd,qc,qp,qb,je,qe,qa,qvk,qx,B0,reduceIte,reduceEqDiff]
 refine qr (t:=(decide (v_1.Kind=6))) (fun hc210=>?_) (fun hc210=>?_)
 ·rw [iteT hc210] at hF
  simp only [q2w,qd,qc,qe,B0,reduceIte,reduceEqDiff]
  refine zy 4 (fun fr' h'=>Sep h' (geL h.length) ([])∧fr' 150 = .bool (((decide ((0:Int)≤v_1.Broker))&&(decide (v_1.Broker<(List.length v_0.Brokers:Int)))) &&
    (decide (v_1.Epoch=0)))∧fr' 3 = .ref [.int .i64 v_1.Kind,.int .i64 v_1.Broker,.int .i64 v_1.Epoch,.int .i64 v_1.Part,.int .i64 v_1.Stamp,
    lst cI v_1.InStep] 0∧fr' 6 = .bool (decide ((List.length v_1.InStep:Int)=0))) (fun Q211 hN212=>?_) ?_
  ·simp only [List.take_succ_cons,List.take_zero]
   simp only [qf (g:=146),B0,reduceIte,reduceEqDiff]
   refine zd (t:=((decide ((0:Int)≤v_1.Broker))&&(decide (v_1.Broker<(List.length v_0.Brokers:Int))))) (fun hg213=>?_) (fun hg213=>?_)
   ·simp only [hg213,qf (g:=146),q9,f19,qo,qb,Nat.reduceAdd,Nat.zero_add,Nat.add_zero,qq,qm,B0,reduceIte,reduceEqDiff]
    refine qg (v := .int .i64 v_1.Epoch) rfl ?_
    simp only [hg213,qf (g:=146),q9,qp,qb,je,qu,zk,qa,qn,B0,reduceIte,reduceEqDiff]
    exact hN212 _ _ ⟨hS21,by rw [yc hg213]; simp only [B0,reduceIte,reduceEqDiff],f19,rfl⟩
   ·simp only [hg213,qf (g:=146),zv,qu,qb,zj,qa,qn,B0,reduceIte,reduceEqDiff]
    exact hN212 _ _ ⟨hS21,by rw [yb hg213]; simp only [B0,reduceIte,reduceEqDiff],f19,rfl⟩
  rintro fr214 h218 ⟨hS219,f215,f216,f217⟩
  simp only [List.drop_succ_cons,List.drop_zero]
  simp only [f215,qe,B0,reduceIte,reduceEqDiff]
  refine zy 4 (fun fr' h'=>Sep h' (geL h.length) ([])∧fr' 155 = .bool ((((decide ((0:Int)≤v_1.Broker))&&(decide (v_1.Broker<(List.length v_0.Brokers:Int)))) &&
    (decide (v_1.Epoch=0)))&&(zl v_1.Part 0 1000))∧fr' 3 = .ref [.int .i64 v_1.Kind,.int .i64 v_1.Broker,.int .i64 v_1.Epoch,.int .i64 v_1.Part,
    .int .i64 v_1.Stamp,lst cI v_1.InStep] 0∧fr' 6 = .bool (decide ((List.length v_1.InStep:Int)=0))) (fun Q220 hN221=>?_) ?_
  ·simp only [List.take_succ_cons,List.take_zero]
   simp only [qf (g:=151),B0,reduceIte,reduceEqDiff]
   refine zd (t:=(((decide ((0:Int)≤v_1.Broker))&&(decide (v_1.Broker<(List.length v_0.Brokers:Int))))&&(decide (v_1.Epoch=0)))) (fun hg222=>?_)
     (fun hg222=>?_)
   ·simp only [hg222,qf (g:=151),q9,f216,qo,qb,Nat.reduceAdd,Nat.zero_add,Nat.add_zero,qq,qm,B0,reduceIte,reduceEqDiff]
    refine qg (v := .int .i64 v_1.Part) rfl ?_
    simp only [hg222,qf (g:=151),q9,zf,B0,reduceIte,reduceEqDiff]
    refine ja rfl (qk qs (qk qs (qk qs zg))) (y2 (fun b hb=>decide_eq_true hb) v_1.Part 0 1000 _ rfl) ?_
    simp only [hg222,qu,qb,zk,qa,qn,B0,reduceIte,reduceEqDiff]
    exact hN221 _ _ ⟨hS219,by rw [yc hg222]; simp only [B0,reduceIte,reduceEqDiff],f216,f217⟩
   ·simp only [hg222,qf (g:=151),zv,qu,qb,zj,qa,qn,B0,reduceIte,reduceEqDiff]
    exact hN221 _ _ ⟨hS219,by rw [yb hg222]; simp only [B0,reduceIte,reduceEqDiff],f216,f217⟩
  rintro fr223 h227 ⟨hS228,f224,f225,f226⟩
  simp only [List.drop_succ_cons,List.drop_zero]
  simp only [f224,qe,B0,reduceIte,reduceEqDiff]
  refine zy 4 (fun fr' h'=>Sep h' (geL h.length) ([])∧fr' 160 = .bool (((((decide ((0:Int)≤v_1.Broker))&&(decide (v_1.Broker <
    (List.length v_0.Brokers:Int))))&&(decide (v_1.Epoch=0)))&&(zl v_1.Part 0 1000))&&(decide (v_1.Stamp=0)))∧fr' 6 = .bool (decide
    ((List.length v_1.InStep:Int)=0))) (fun Q229 hN230=>?_) ?_
  ·simp only [List.take_succ_cons,List.take_zero]
   simp only [qf (g:=156),B0,reduceIte,reduceEqDiff]
   refine zd (t:=((((decide ((0:Int)≤v_1.Broker))&&(decide (v_1.Broker<(List.length v_0.Brokers:Int))))&&(decide (v_1.Epoch=0))) &&
     (zl v_1.Part 0 1000))) (fun hg231=>?_) (fun hg231=>?_)
   ·simp only [hg231,qf (g:=156),q9,f225,qo,qb,Nat.reduceAdd,Nat.zero_add,Nat.add_zero,qq,qm,B0,reduceIte,reduceEqDiff]
    refine qg (v := .int .i64 v_1.Stamp) rfl ?_
    simp only [hg231,qf (g:=156),q9,qp,qb,je,qu,zk,qa,qn,B0,reduceIte,reduceEqDiff]
    exact hN230 _ _ ⟨hS228,by rw [yc hg231]; simp only [B0,reduceIte,reduceEqDiff],f226⟩
   ·simp only [hg231,qf (g:=156),zv,qu,qb,zj,qa,qn,B0,reduceIte,reduceEqDiff]
    exact hN230 _ _ ⟨hS228,by rw [yb hg231]; simp only [B0,reduceIte,reduceEqDiff],f226⟩
  rintro fr232 h235 ⟨hS236,f233,f234⟩
  simp only [List.drop_succ_cons,List.drop_zero]
  simp only [f233,qe,B0,reduceIte,reduceEqDiff]
  refine zy 2 (fun fr' h'=>Sep h' (geL h.length) ([])∧fr' 163 = .bool ((((((decide ((0:Int)≤v_1.Broker))&&(decide (v_1.Broker <
    (List.length v_0.Brokers:Int))))&&(decide (v_1.Epoch=0)))&&(zl v_1.Part 0 1000))&&(decide (v_1.Stamp=0)))&&(decide
    ((List.length v_1.InStep:Int)=0)))) (fun Q237 hN238=>?_) ?_
  ·simp only [List.take_succ_cons,List.take_zero]
   simp only [qf (g:=161),B0,reduceIte,reduceEqDiff]
   refine zd (t:=(((((decide ((0:Int)≤v_1.Broker))&&(decide (v_1.Broker<(List.length v_0.Brokers:Int))))&&(decide (v_1.Epoch=0))) &&
     (zl v_1.Part 0 1000))&&(decide (v_1.Stamp=0)))) (fun hg239=>?_) (fun hg239=>?_)
   ·simp only [hg239,qf (g:=161),q9,f234,qe,qu,qb,zk,qa,qn,B0,reduceIte,reduceEqDiff]
    exact hN238 _ _ ⟨hS236,by rw [yc hg239]; simp only [B0,reduceIte,reduceEqDiff]⟩
   ·simp only [hg239,qf (g:=161),zv,qu,qb,zj,qa,qn,B0,reduceIte,reduceEqDiff]
    exact hN238 _ _ ⟨hS236,by rw [yb hg239]; simp only [B0,reduceIte,reduceEqDiff]⟩
  rintro fr240 h242 ⟨hS243,f241⟩
  simp only [List.drop_succ_cons,List.drop_zero]
  simp only [f241,qe,qa,qv,B0,reduceIte,reduceEqDiff]
  have he:=qh hF
  subst he
  simp only [qw,B0,reduceIte,reduceEqDiff]
  exact rfl
 rw [iteF hc210] at hF
 simp only [q8,kh,qd,qc,qe,qa,qv,B0,reduceIte,reduceEqDiff]
 have he:=qh hF
 subst he
 simp only [qw,B0,reduceIte,reduceEqDiff]
 exact rfl
end Go.Proofs.Ytjloihcijdcpeaa.X
