/- The functions' code comes to what the plain functions say (1). -/
import Derived.Test.YtjloihcijdcpeaaXCF
import Derived.Test.YtjloihcijdcpeaaXCD
set_option linter.unusedVariables false
set_option linter.unusedSimpArgs false
set_option maxRecDepth 100000
namespace Go.Proofs.Ytjloihcijdcpeaa.X
open Go
open Nat (reduceEqDiff)
def Partition.R:Rep Partition:=fun x cs os=>∃ (v0:XV) (c0:List Obj) (v1:XV) (c1:List Obj),SlF cI 1 3 v0 x.Homes c0∧SlF cI 1 3 v1 x.InStep c1∧cs=[v0,v1,
  .int .i64 x.Leader,.int .i64 x.Epoch,.int .i64 x.Stamp]∧c0++(c1)=os
theorem Partition.RI {x:Partition}{v0:XV}{c0:List Obj}(h0:SlF cI 1 3 v0 x.Homes c0){v1:XV}{c1:List Obj}(h1:SlF cI 1 3 v1 x.InStep c1) : Partition.R x [v0,v1,
  .int .i64 x.Leader,.int .i64 x.Epoch,.int .i64 x.Stamp] (c0++(c1)):=⟨v0,c0,v1,c1,h0,h1,rfl,rfl⟩
theorem Partition.RO:RepOk E.sz Partition.R qd 5 where
 len:=fun {x cs os} H=>by
  obtain ⟨v0,c0,v1,c1,h0,h1,rfl,rfl⟩:=H
  rfl
 flen:=fun _=>rfl
 one:=fun {x cs os} H=>by
  obtain ⟨v0,c0,v1,c1,h0,h1,rfl,rfl⟩:=H
  exact (qs (SlF.one h0) (qs (SlF.one h1) (qs rfl (qs rfl (qs rfl zt)))))
 snap:=fun {x cs os h lo S} m H hS=>by
  obtain ⟨v0,c0,v1,c1,h0,h1,rfl,rfl⟩:=H
  have hS2:Sep h lo (c0++(c1++S)):=(by simpa only [List.append_assoc] using hS)
  exact (qn (SlF.snap h0 hS2 rfl (fun _=>rfl) (fun _=>rfl)) (qn (SlF.snap h1 (Sep.m1 hS2) rfl (fun _=>rfl) (fun _=>rfl)) (qn qu (qn qu
    (qn qu zg)))))
 cut:=fun {x cs os h lo n0 keep S} m H hS hge=>by
  obtain ⟨v0,c0,v1,c1,h0,h1,rfl,rfl⟩:=H
  have hS2:Sep h lo (c0++(c1++S)):=(by simpa only [List.append_assoc] using hS)
  exact (qn (SlF.cut h0 hS2 hge rfl (fun _=>rfl) (fun _=>rfl)) (qn (SlF.cut h1 (Sep.m1 hS2) hge rfl (fun _=>rfl) (fun _=>rfl)) (qn rfl (qn rfl
    (qn rfl zg)))))
 free:=fun {x cs os} H=>by
  obtain ⟨v0,c0,v1,c1,h0,h1,rfl,rfl⟩:=H
  exact (qs (SlF.free1 h0) (qs (SlF.free1 h1) (qs rfl (qs rfl (qs rfl zt)))))
 pf:=fun {x cs os} H=>by
  obtain ⟨v0,c0,v1,c1,h0,h1,rfl,rfl⟩:=H
  exact (j0 (SlF.pf h0 (fun _=>rfl)) (SlF.pf h1 (fun _=>rfl)))
def Command.R:Rep Command:=fun x cs os=>∃ (v5:XV) (c5:List Obj),SlF cI 1 3 v5 x.InStep c5∧cs=[.int .i64 x.Kind,.int .i64 x.Broker,.int .i64 x.Epoch,
  .int .i64 x.Part,.int .i64 x.Stamp,v5]∧c5=os
theorem Command.RI {x:Command}{v5:XV}{c5:List Obj}(h5:SlF cI 1 3 v5 x.InStep c5) : Command.R x [.int .i64 x.Kind,.int .i64 x.Broker,.int .i64 x.Epoch,
  .int .i64 x.Part,.int .i64 x.Stamp,v5] (c5):=⟨v5,c5,h5,rfl,rfl⟩
theorem Command.RO:RepOk E.sz Command.R jy 6 where
 len:=fun {x cs os} H=>by
  obtain ⟨v5,c5,h5,rfl,rfl⟩:=H
  rfl
 flen:=fun _=>rfl
 one:=fun {x cs os} H=>by
  obtain ⟨v5,c5,h5,rfl,rfl⟩:=H
  exact (qs rfl (qs rfl (qs rfl (qs rfl (qs rfl (qs (SlF.one h5) zt))))))
 snap:=fun {x cs os h lo S} m H hS=>by
  obtain ⟨v5,c5,h5,rfl,rfl⟩:=H
  have hS2:Sep h lo (c5++S):=(by simpa only [List.append_assoc] using hS)
  exact (qn qu (qn qu (qn qu (qn qu (qn qu (qn (SlF.snap h5 hS2 rfl (fun _=>rfl) (fun _=>rfl)) zg))))))
 cut:=fun {x cs os h lo n0 keep S} m H hS hge=>by
  obtain ⟨v5,c5,h5,rfl,rfl⟩:=H
  have hS2:Sep h lo (c5++S):=(by simpa only [List.append_assoc] using hS)
  exact (qn rfl (qn rfl (qn rfl (qn rfl (qn rfl (qn (SlF.cut h5 hS2 hge rfl (fun _=>rfl) (fun _=>rfl)) zg))))))
 free:=fun {x cs os} H=>by
  obtain ⟨v5,c5,h5,rfl,rfl⟩:=H
  exact (qs rfl (qs rfl (qs rfl (qs rfl (qs rfl (qs (SlF.free1 h5) zt))))))
 pf:=fun {x cs os} H=>by
  obtain ⟨v5,c5,h5,rfl,rfl⟩:=H
  exact (SlF.pf h5 (fun _=>rfl))
theorem wb {W:Nat→Bool}{h:Heap} (hW:∀ b,
  (geL h.length) b→W b=true) (n_0:Int) (lo_1:Int) (hi_2:Int) (r:Bool) (hF:some (zn n_0 lo_1 hi_2)=some r) : Ret E W 58 [.int .i64 n_0,.int .i64 lo_1,
  .int .i64 hi_2] h (fun v h'=>cut h.length h' E.sz false 9 v=some (.bool r)):=by
 refine Ret.of (fn:=x58) rfl (Run.of ?_)
 unfold zn at hF
 have zf0:zj [.int .i64 n_0,.int .i64 lo_1,.int .i64 hi_2] 0 = .int .i64 n_0:=rfl
 have zf1:zj [.int .i64 n_0,.int .i64 lo_1,.int .i64 hi_2] 1 = .int .i64 lo_1:=rfl
 have zf2:zj [.int .i64 n_0,.int .i64 lo_1,.int .i64 hi_2] 2 = .int .i64 hi_2:=rfl
 generalize zj [.int .i64 n_0,.int .i64 lo_1,.int .i64 hi_2]=fr0 at zf0 zf1 zf2 ⊢
 have hS:Sep h (geL h.length) []:=Sep.nil h
 simp only [x58,qh,qf,qg,qa,q1v,zf0,zf1,qv,qb,qby,B0,reduceIte,reduceEqDiff]
 refine zu 4 (fun fr' h'=>Sep h' (geL h.length) ([])∧fr' 14 = .bool ((decide (lo_1≤n_0))&&(decide (n_0≤hi_2)))) (fun Q1 hN2=>?_) ?_
 ·simp only [List.take_succ_cons,List.take_zero]
  simp only [qc (g:=10),B0,reduceIte,reduceEqDiff]
  refine qx (t:=(decide (lo_1≤n_0))) (fun hg3=>?_) (fun hg3=>?_)
  ·simp only [hg3,qc (g:=10),qz,zf0,qg,zf2,qv,qb,qn0,qr,zh,qa,qk,B0,reduceIte,reduceEqDiff]
   exact hN2 _ _ ⟨hS,by rw [yb hg3]; simp only [B0,reduceIte,reduceEqDiff]⟩
  ·simp only [hg3,qc (g:=10),zy,qr,qb,zi,qa,qk,B0,reduceIte,reduceEqDiff]
   exact hN2 _ _ ⟨hS,by rw [yc hg3]; simp only [B0,reduceIte,reduceEqDiff]⟩
 rintro fr4 h6 ⟨hS7,f5⟩
 simp only [List.drop_succ_cons,List.drop_zero]
 simp only [f5,qg,qa,q8,B0,reduceIte,reduceEqDiff]
 have he:=qj hF
 subst he
 simp only [zc,B0,reduceIte,reduceEqDiff]
 exact rfl
theorem qc2 {W:Nat→Bool}{h:Heap} (hW:∀ b,
  (geL h.length) b→W b=true) (l_0:List Int) (many_1:Int) (r:Bool) (hF:ug l_0 many_1=some r) : Ret E W 82 [lst cI l_0,
  .int .i64 many_1] h (fun v h'=>cut h.length h' E.sz false 9 v=some (.bool r)):=by
 refine Ret.of (fn:=x82) rfl (Run.of ?_)
 unfold ug at hF
 have zf0:zj [lst cI l_0,.int .i64 many_1] 0=lst cI l_0:=rfl
 have zf1:zj [lst cI l_0,.int .i64 many_1] 1 = .int .i64 many_1:=rfl
 generalize zj [lst cI l_0,.int .i64 many_1]=fr0 at zf0 zf1 ⊢
 have hS:Sep h (geL h.length) []:=Sep.nil h
 simp only [x82,qh,qf,qg,qa,q2o,zf0,zr,qb,zx,B0,reduceIte,reduceEqDiff]
 obtain ⟨oc3,hX5,hk6⟩:=jd hF
 simp only [q3r]
 refine kn (σ:=Unit) l_0 (fun i1 x2 _=>qcb l_0 many_1 i1 x2 ) (fun s fr' h'=>fr' 0=lst cI l_0∧fr' 1 = .int .i64 many_1∧fr' 7=lst cI l_0∧Sep h'
   (geL h.length) ([])) hX5 ⟨zf0,zf1,rfl,hS⟩ (by simp only [B0,reduceIte,reduceEqDiff]) (by simp only [B0,reduceIte,
   reduceEqDiff]) (fun _ _ _ h=>h) rfl rfl (fun _ _ _ _ h=>h) (fun _ _ _ _ h=>h) (fun _ _ _ _ h=>h) (by decide) ?_ ?_
 ·rintro i1 x2 _ fr15 h16 hx21 ⟨f18,f19,f20,hS17⟩ f22 f23 oc4 hF7 hr8 Q9 hN10 hB14 hK11 hR12 hE13
  unfold qcb at hF7
  simp only [q26,qh,qf,f22,qg,f20,jb,B0,reduceIte,reduceEqDiff]
  refine qi (v := .ref (cI x2) 0) (ko hx21 rfl) ?_
  simp only [ql,B0,reduceIte,reduceEqDiff]
  refine qi (v := .int .i64 x2) rfl ?_
  simp only [qg,qa,q1u,qh,qf,qv,qb,qhg,B0,reduceIte,reduceEqDiff]
  refine zu 4 (fun fr' h'=>Sep h' (geL h.length) ([])∧fr' 20 = .bool ((decide (x2<0))||(decide
    (many_1≤x2)))∧fr' 0=lst cI l_0∧fr' 1 = .int .i64 many_1∧fr' 5 = .int .i64 (i1:Int)∧fr' 6 = .int .i64 x2∧fr' 7=lst cI l_0∧fr' 8 = .int .i64
    (List.length l_0:Int)∧fr' 9 = .int .i64 (i1:Int)) (fun Q24 hN25=>?_) ?_
  ·simp only [List.take_succ_cons,List.take_zero]
   simp only [qc (g:=16),B0,reduceIte,reduceEqDiff]
   refine qx (t:=(decide (x2<0))) (fun hg26=>?_) (fun hg26=>?_)
   ·simp only [hg26,qc (g:=16),zq,qr,qb,zh,qa,qk,B0,reduceIte,reduceEqDiff]
    exact hN25 _ _ ⟨hS17,by rw [orT hg26]; simp only [B0,reduceIte,reduceEqDiff],f18,f19,rfl,rfl,f20,f23,f22⟩
   ·simp only [hg26,qc (g:=16),qp,qg,f19,qv,qb,qby,qr,zi,qa,qk,B0,reduceIte,reduceEqDiff]
    exact hN25 _ _ ⟨hS17,by rw [orF hg26]; simp only [B0,reduceIte,reduceEqDiff],f18,f19,rfl,rfl,f20,f23,f22⟩
  rintro fr27 h36 ⟨hS37,f28,f29,f30,f31,f32,f33,f34,f35⟩
  simp only [List.drop_succ_cons,List.drop_zero]
  simp only [f28,qg,B0,reduceIte,reduceEqDiff]
  obtain ⟨v41,hx42,hF43⟩:=qm hF7
  refine zu 12 (fun fr' h'=>Sep h' (geL h.length) ([])∧fr' 33 = .bool v41∧fr' 0=lst cI l_0∧fr' 1 = .int .i64 many_1∧fr' 7=lst cI l_0∧fr' 8 = .int .i64
    (List.length l_0:Int)∧fr' 9 = .int .i64 (i1:Int)) (fun Q38 hN39=>?_) ?_
  ·simp only [List.take_succ_cons,List.take_zero]
   simp only [qc (g:=21),B0,reduceIte,reduceEqDiff]
   refine qx (t:=((decide (x2<0))||(decide (many_1≤x2)))) (fun hg40=>?_) (fun hg40=>?_)
   ·rw [iteT hg40] at hx42
    simp only [hg40,qc (g:=21),zq,qc (g:=24),qbu,qr,qb,zh,qa,qk,B0,reduceIte,reduceEqDiff]
    have e44:=qj hx42
    exact hN39 _ _ ⟨hS37,by rw [←e44]; simp only [B0,reduceIte,reduceEqDiff],f29,f30,f33,f34,f35⟩
   ·rw [iteF hg40] at hx42
    simp only [hg40,qc (g:=21),qp,f31,qg,qv,qb,qet,B0,reduceIte,reduceEqDiff]
    obtain ⟨v48,hx49,hF50⟩:=qm hx42
    refine zu 8 (fun fr' h'=>Sep h' (geL h.length) ([])∧fr' 32 = .bool v48∧fr' 0=lst cI l_0∧fr' 1 = .int .i64 many_1∧fr' 7=lst cI l_0∧fr' 8 = .int .i64
      (List.length l_0:Int)∧fr' 9 = .int .i64 (i1:Int)∧fr' 21 = .bool ((decide (x2<0))||(decide (many_1≤x2)))) (fun Q45 hN46=>?_) ?_
    ·simp only [List.take_succ_cons,List.take_zero]
     simp only [qc (g:=24),B0,reduceIte,reduceEqDiff]
     refine qx (t:=(decide ((0:Int)<(i1:Int)))) (fun hg47=>?_) (fun hg47=>?_)
     ·rw [iteT hg47] at hx49
      obtain ⟨x51,hx52,hF53⟩:=qm hx49
      simp only [hg47,qc (g:=24),qz,f29,qg,f31,qv,qb,qf7,jb,B0,reduceIte,reduceEqDiff]
      refine qi (v := .ref (cI x51) 0) (xx hx52 rfl) ?_
      simp only [hg47,qc (g:=24),qz,ql,B0,reduceIte,reduceEqDiff]
      refine qi (v := .int .i64 x51) rfl ?_
      simp only [hg47,qc (g:=24),qz,f32,qg,qv,qb,qby,hg40,qc (g:=21),qp,qr,zh,qa,
        qk,B0,reduceIte,reduceEqDiff]
      have e54:=qj hF53
      exact hN46 _ _ ⟨hS37,by rw [←e54]; simp only [B0,reduceIte,reduceEqDiff],f29,f30,f33,f34,f35,by simp only [hg40,B0,reduceIte,reduceEqDiff]⟩
     ·rw [iteF hg47] at hx49
      simp only [hg47,qc (g:=24),zy,hg40,qc (g:=21),qp,qr,qb,zi,qa,qk,B0,reduceIte,
        reduceEqDiff]
      have e55:=qj hx49
      exact hN46 _ _ ⟨hS37,by rw [←e55]; simp only [B0,reduceIte,reduceEqDiff],f29,f30,f33,f34,f35,by simp only [hg40,B0,reduceIte,reduceEqDiff]⟩
    rintro fr56 h64 ⟨hS65,f57,f58,f59,f60,f61,f62,f63⟩
    simp only [List.drop_succ_cons,List.drop_zero]
    simp only [f63,hg40,qr,qb,zi,f57,qa,qk,B0,reduceIte,reduceEqDiff]
    have e66:=qj hF50
    exact hN39 _ _ ⟨hS65,by rw [←e66]; simp only [B0,reduceIte,reduceEqDiff],f58,f59,f60,f61,f62⟩
  rintro fr67 h74 ⟨hS75,f68,f69,f70,f71,f72,f73⟩
  simp only [List.drop_succ_cons,List.drop_zero]
  simp only [qa,f68,qy,B0,reduceIte,reduceEqDiff]
  refine qw (t:=v41) (fun hc76=>?_) (fun hc76=>?_)
  ·rw [iteT hc76] at hF43
   simp only [qh,qf,qg,qa,q8,B0,reduceIte,reduceEqDiff]
   have e77:=qj hF43
   subst e77
   have ho78:=hr8 _ rfl
   have hk79:=hk6
   rw [ho78] at hk79
   dsimp only [jnO] at hk79
   apply hR12
   have he:=qj hk79
   subst he
   simp only [zc,B0,reduceIte,reduceEqDiff]
   exact rfl
  rw [iteF hc76] at hF43
  simp only [ze,qk,B0,reduceIte,reduceEqDiff]
  have e80:=qj hF43
  exact hN10 _ _ _ e80.symm ⟨f69,f70,f71,hS75⟩ (f73) (f72)
 rintro _ fr82 h83 rfl ⟨f85,f86,f87,hS84⟩
 dsimp only [jnO] at hk6
 unfold qgz at hk6
 simp only [qh,qf,qg,qa,q8,B0,reduceIte,reduceEqDiff]
 have he:=qj hk6
 subst he
 simp only [zc,B0,reduceIte,reduceEqDiff]
 exact rfl
theorem qct {W:Nat→Bool}{h:Heap} (hW:∀ b,
  (geL h.length) b→W b=true) (l_0:List Int) (n_1:Int) (r:Bool) (hF:u5 l_0 n_1=some r) : Ret E W 84 [lst cI l_0,
  .int .i64 n_1] h (fun v h'=>cut h.length h' E.sz false 9 v=some (.bool r)):=by
 refine Ret.of (fn:=x84) rfl (Run.of ?_)
 unfold u5 at hF
 have zf0:zj [lst cI l_0,.int .i64 n_1] 0=lst cI l_0:=rfl
 have zf1:zj [lst cI l_0,.int .i64 n_1] 1 = .int .i64 n_1:=rfl
 generalize zj [lst cI l_0,.int .i64 n_1]=fr0 at zf0 zf1 ⊢
 have hS:Sep h (geL h.length) []:=Sep.nil h
 simp only [x84,qh,qf,qg,qa,qx4,zf0,zr,qb,zx,B0,reduceIte,reduceEqDiff]
 obtain ⟨oc3,hX5,hk6⟩:=jd hF
 simp only [qys]
 refine kn (σ:=Unit) l_0 (fun i1 x2 _=>qdp n_1 i1 x2 ) (fun s fr' h'=>fr' 1 = .int .i64 n_1∧fr' 7=lst cI l_0∧Sep h' (geL h.length) ([])) hX5 ⟨zf1,
   rfl,hS⟩ (by simp only [B0,reduceIte,reduceEqDiff]) (by simp only [B0,reduceIte,
   reduceEqDiff]) (fun _ _ _ h=>h) rfl rfl (fun _ _ _ _ h=>h) (fun _ _ _ _ h=>h) (fun _ _ _ _ h=>h) (by decide) ?_ ?_
 ·rintro i1 x2 _ fr15 h16 hx20 ⟨f18,f19,hS17⟩ f21 f22 oc4 hF7 hr8 Q9 hN10 hB14 hK11 hR12 hE13
  unfold qdp at hF7
  simp only [q2i,qh,qf,f19,f21,jb,B0,reduceIte,reduceEqDiff]
  refine qi (v := .ref (cI x2) 0) (ko hx20 rfl) ?_
  simp only [ql,B0,reduceIte,reduceEqDiff]
  refine qi (v := .int .i64 x2) rfl ?_
  simp only [qg,qa,q1n,qh,qf,f18,qv,qb,z4,qy,B0,reduceIte,reduceEqDiff]
  refine qw (t:=(decide (x2=n_1))) (fun hc23=>?_) (fun hc23=>?_)
  ·rw [iteT hc23] at hF7
   simp only [qh,qf,qg,qa,q8,B0,reduceIte,reduceEqDiff]
   have e24:=qj hF7
   subst e24
   have ho25:=hr8 _ rfl
   have hk26:=hk6
   rw [ho25] at hk26
   dsimp only [jnO] at hk26
   apply hR12
   have he:=qj hk26
   subst he
   simp only [zc,B0,reduceIte,reduceEqDiff]
   exact rfl
  rw [iteF hc23] at hF7
  simp only [ze,qk,B0,reduceIte,reduceEqDiff]
  have e27:=qj hF7
  exact hN10 _ _ _ e27.symm ⟨f18,f19,hS17⟩ (f21) (f22)
 rintro _ fr29 h30 rfl ⟨f32,f33,hS31⟩
 dsimp only [jnO] at hk6
 unfold qhz at hk6
 simp only [qh,qf,qg,qa,q8,B0,reduceIte,reduceEqDiff]
 have he:=qj hk6
 subst he
 simp only [zc,B0,reduceIte,reduceEqDiff]
 exact rfl
theorem qgs {W:Nat→Bool}{h:Heap} (hW:∀ b,
  (geL h.length) b→W b=true) (c_0:Control) (l_1:List Int) (r:Int) (hF:qas c_0 l_1=some r) : Ret E W 85 [.agg [lst qe c_0.Brokers,
  lst qd c_0.Parts,.int .i64 c_0.Next],lst cI l_1] h (fun v h'=>cut h.length h' E.sz false 9 v=some (.int .i64 r)):=by
 refine Ret.of (fn:=x85) rfl (Run.of ?_)
 unfold qas at hF
 have zf0:zj [.agg [lst qe c_0.Brokers,lst qd c_0.Parts,.int .i64 c_0.Next],lst cI l_1] 0 = .agg [lst qe c_0.Brokers,
   lst qd c_0.Parts,.int .i64 c_0.Next]:=rfl
 have zf1:zj [.agg [lst qe c_0.Brokers,lst qd c_0.Parts,.int .i64 c_0.Next],lst cI l_1] 1=lst cI l_1:=rfl
 generalize zj [.agg [lst qe c_0.Brokers,lst qd c_0.Parts,.int .i64 c_0.Next],lst cI l_1]=fr0 at zf0 zf1 ⊢
 have hS:Sep h (geL h.length) []:=Sep.nil h
 simp only [x85,qh,qf,ju,zf0,B0,reduceIte,reduceEqDiff]
 refine je (cs:=[lst qe c_0.Brokers,lst qd c_0.Parts,.int .i64 c_0.Next]) hS rfl rfl rfl (fun b1 h2 hS3=>?_)
 simp only [qg,qa,B0,reduceIte,reduceEqDiff]
 refine zw hS3 hW (by simp only [B0,reduceIte,reduceEqDiff]) (fun h5 hS6=>?_)
 simp only [zv,q3i,qh,qf,zf1,qg,zr,qb,zx,qa,B0,reduceIte,reduceEqDiff]
 obtain ⟨oc9,hX11,hk12⟩:=jd hF
 simp only [q3b]
 refine kn (σ:=Unit) l_1 (fun i7 x8 _=>yn c_0 i7 x8 ) (fun s fr' h'=>fr' 2 = .ref [lst qe c_0.Brokers,lst qd c_0.Parts,
   .int .i64 c_0.Next] 0∧fr' 7=lst cI l_1∧Sep h' (geL h.length) ([])) hX11 ⟨rfl,rfl,hS6⟩ (by simp only [B0,reduceIte,reduceEqDiff]) (by simp only [B0,reduceIte,
   reduceEqDiff]) (fun _ _ _ h=>h) rfl rfl (fun _ _ _ _ h=>h) (fun _ _ _ _ h=>h) (fun _ _ _ _ h=>h) (by decide) ?_ ?_
 ·rintro i7 x8 _ fr21 h22 hx26 ⟨f24,f25,hS23⟩ f27 f28 oc10 hF13 hr14 Q15 hN16 hB20 hK17 hR18 hE19
  unfold yn at hF13
  simp only [q0v,qh,qf,f25,f27,jb,B0,reduceIte,reduceEqDiff]
  refine qi (v := .ref (cI x8) 0) (ko hx26 rfl) ?_
  simp only [ql,B0,reduceIte,reduceEqDiff]
  refine qi (v := .int .i64 x8) rfl ?_
  simp only [qg,qa,q3y,qh,qf,f24,qo,qb,Nat.reduceAdd,Nat.zero_add,Nat.add_zero,qq,ql,B0,reduceIte,reduceEqDiff]
  refine qi (v:=lst qe c_0.Brokers) rfl ?_
  obtain ⟨x29,hx30,hF31⟩:=qm hF13
  simp only [qg,jb,B0,reduceIte,reduceEqDiff]
  refine qi (v := .ref (qe x29) 0) (xx hx30 rfl) ?_
  simp only [qo,qb,Nat.reduceAdd,Nat.zero_add,Nat.add_zero,qq,ql,B0,reduceIte,reduceEqDiff]
  refine qi (v := .bool x29.Fenced) rfl ?_
  simp only [ja,qb,jq,qa,qzn,qy,B0,reduceIte,reduceEqDiff]
  refine qw (t:=(!x29.Fenced)) (fun hc32=>?_) (fun hc32=>?_)
  ·rw [iteT hc32] at hF31
   simp only [qh,qf,qg,qa,q8,B0,reduceIte,reduceEqDiff]
   have e33:=qj hF31
   subst e33
   have ho34:=hr14 _ rfl
   have hk35:=hk12
   rw [ho34] at hk35
   dsimp only [jnO] at hk35
   apply hR18
   have he:=qj hk35
   subst he
   simp only [zc,B0,reduceIte,reduceEqDiff]
   exact rfl
  rw [iteF hc32] at hF31
  simp only [ze,qk,B0,reduceIte,reduceEqDiff]
  have e36:=qj hF31
  exact hN16 _ _ _ e36.symm ⟨f24,f25,hS23⟩ (f27) (f28)
 rintro _ fr38 h39 rfl ⟨f41,f42,hS40⟩
 dsimp only [jnO] at hk12
 unfold qgl at hk12
 simp only [qh,qf,qg,qa,q8,B0,reduceIte,reduceEqDiff]
 have he:=qj hk12
 subst he
 simp only [zc,B0,reduceIte,reduceEqDiff]
 exact rfl
theorem qig {W:Nat→Bool}{h:Heap} (hW:∀ b,
  (geL h.length) b→W b=true) (a_0:List Int) (b_1:List Int) (r:Bool) (hF:qc3 a_0 b_1=some r) : Ret E W 86 [lst cI a_0,
  lst cI b_1] h (fun v h'=>cut h.length h' E.sz false 9 v=some (.bool r)):=by
 refine Ret.of (fn:=x86) rfl (Run.of ?_)
 unfold qc3 at hF
 have zf0:zj [lst cI a_0,lst cI b_1] 0=lst cI a_0:=rfl
 have zf1:zj [lst cI a_0,lst cI b_1] 1=lst cI b_1:=rfl
 generalize zj [lst cI a_0,lst cI b_1]=fr0 at zf0 zf1 ⊢
 have hS:Sep h (geL h.length) []:=Sep.nil h
 simp only [x86,qh,qf,qg,qa,q04,zf1,zr,qb,zx,B0,reduceIte,reduceEqDiff]
 obtain ⟨oc3,hX5,hk6⟩:=jd hF
 simp only [qy8]
 refine kn (σ:=Unit) b_1 (fun i1 x2 _=>qdm a_0 i1 x2 ) (fun s fr' h'=>fr' 0=lst cI a_0∧fr' 7=lst cI b_1∧Sep h' (geL h.length) ([])) hX5 ⟨zf0,rfl,
   hS⟩ (by simp only [B0,reduceIte,reduceEqDiff]) (by simp only [B0,reduceIte,
   reduceEqDiff]) (fun _ _ _ h=>h) rfl rfl (fun _ _ _ _ h=>h) (fun _ _ _ _ h=>h) (fun _ _ _ _ h=>h) (by decide) ?_ ?_
 ·rintro i1 x2 _ fr15 h16 hx20 ⟨f18,f19,hS17⟩ f21 f22 oc4 hF7 hr8 Q9 hN10 hB14 hK11 hR12 hE13
  unfold qdm at hF7
  simp only [q2m,qh,qf,f19,f21,jb,B0,reduceIte,reduceEqDiff]
  refine qi (v := .ref (cI x2) 0) (ko hx20 rfl) ?_
  simp only [ql,B0,reduceIte,reduceEqDiff]
  refine qi (v := .int .i64 x2) rfl ?_
  obtain ⟨v23,hx24,hF25⟩:=qm hF7
  simp only [qg,qa,q2g,qh,qf,f18,zb,B0,reduceIte,reduceEqDiff]
  refine jc rfl (qn zo (qn qu zg)) (qct (fun b hb=>decide_eq_true hb) a_0 x2 v23 hx24) ?_
  simp only [ja,qb,jq,qa,qy,B0,reduceIte,reduceEqDiff]
  refine qw (t:=(!v23)) (fun hc26=>?_) (fun hc26=>?_)
  ·rw [iteT hc26] at hF25
   simp only [qh,qf,qg,qa,q8,B0,reduceIte,reduceEqDiff]
   have e27:=qj hF25
   subst e27
   have ho28:=hr8 _ rfl
   have hk29:=hk6
   rw [ho28] at hk29
   dsimp only [jnO] at hk29
   apply hR12
   have he:=qj hk29
   subst he
   simp only [zc,B0,reduceIte,reduceEqDiff]
   exact rfl
  rw [iteF hc26] at hF25
  simp only [ze,qk,B0,reduceIte,reduceEqDiff]
  have e30:=qj hF25
  exact hN10 _ _ _ e30.symm ⟨f18,f19,hS17⟩ (f21) (f22)
 rintro _ fr32 h33 rfl ⟨f35,f36,hS34⟩
 dsimp only [jnO] at hk6
 unfold qhy at hk6
 simp only [qh,qf,qg,qa,q8,B0,reduceIte,reduceEqDiff]
 have he:=qj hk6
 subst he
 simp only [zc,B0,reduceIte,reduceEqDiff]
 exact rfl
theorem qks {W:Nat→Bool}{h:Heap} (hW:∀ b,
  (geL h.length) b→W b=true) (v_0:Control) (v_1:Partition) (r:Bool) (hF:qcn v_0 v_1=some r) : Ret E W 59 [.agg [lst qe v_0.Brokers,
  lst qd v_0.Parts,.int .i64 v_0.Next],.agg [lst cI v_1.Homes,lst cI v_1.InStep,.int .i64 v_1.Leader,.int .i64 v_1.Epoch,
  .int .i64 v_1.Stamp]] h (fun v h'=>cut h.length h' E.sz false 9 v=some (.bool r)):=by
 refine Ret.of (fn:=x59) rfl (Run.of ?_)
 unfold qcn at hF
 have zf0:zj [.agg [lst qe v_0.Brokers,lst qd v_0.Parts,.int .i64 v_0.Next],.agg [lst cI v_1.Homes,lst cI v_1.InStep,.int .i64 v_1.Leader,
   .int .i64 v_1.Epoch,.int .i64 v_1.Stamp]] 0 = .agg [lst qe v_0.Brokers,lst qd v_0.Parts,.int .i64 v_0.Next]:=rfl
 have zf1:zj [.agg [lst qe v_0.Brokers,lst qd v_0.Parts,.int .i64 v_0.Next],.agg [lst cI v_1.Homes,lst cI v_1.InStep,.int .i64 v_1.Leader,
   .int .i64 v_1.Epoch,.int .i64 v_1.Stamp]] 1 = .agg [lst cI v_1.Homes,lst cI v_1.InStep,.int .i64 v_1.Leader,.int .i64 v_1.Epoch,.int .i64 v_1.Stamp]:=rfl
 generalize zj [.agg [lst qe v_0.Brokers,lst qd v_0.Parts,.int .i64 v_0.Next],.agg [lst cI v_1.Homes,lst cI v_1.InStep,.int .i64 v_1.Leader,
   .int .i64 v_1.Epoch,.int .i64 v_1.Stamp]]=fr0 at zf0 zf1 ⊢
 have hS:Sep h (geL h.length) []:=Sep.nil h
 simp only [x59,qh,qf,ju,zf0,B0,reduceIte,reduceEqDiff]
 refine je (cs:=[lst qe v_0.Brokers,lst qd v_0.Parts,.int .i64 v_0.Next]) hS rfl rfl rfl (fun b1 h2 hS3=>?_)
 simp only [ju,zf1,B0,reduceIte,reduceEqDiff]
 refine je (cs:=[lst cI v_1.Homes,lst cI v_1.InStep,.int .i64 v_1.Leader,.int .i64 v_1.Epoch,.int .i64 v_1.Stamp]) hS3 rfl rfl rfl (fun b5 h6 hS7=>?_)
 simp only [qg,qa,B0,reduceIte,reduceEqDiff]
 refine zw (Sep.m1 hS7) hW (by simp only [B0,reduceIte,reduceEqDiff]) (fun h9 hS10=>?_)
 refine zw hS10 hW (by simp only [B0,reduceIte,reduceEqDiff]) (fun h11 hS12=>?_)
 simp only [zv,q4x,qh,qf,qo,qb,Nat.reduceAdd,Nat.zero_add,Nat.add_zero,qq,ql,B0,reduceIte,reduceEqDiff]
 refine qi (v:=lst cI v_1.Homes) rfl ?_
 simp only [zr,qb,zx,qv,z4,qg,B0,reduceIte,reduceEqDiff]
 obtain ⟨v16,hx17,hF18⟩:=qm hF
 refine zu 8 (fun fr' h'=>Sep h' (geL h.length) ([])∧fr' 17 = .bool v16∧fr' 2 = .ref [lst qe v_0.Brokers,lst qd v_0.Parts,
   .int .i64 v_0.Next] 0∧fr' 3 = .ref [lst cI v_1.Homes,lst cI v_1.InStep,.int .i64 v_1.Leader,.int .i64 v_1.Epoch,.int .i64 v_1.Stamp] 0) (fun Q13 hN14=>?_) ?_
 ·simp only [List.take_succ_cons,List.take_zero]
  simp only [qc (g:=9),B0,reduceIte,reduceEqDiff]
  refine qx (t:=(decide ((List.length v_1.Homes:Int)=0))) (fun hg15=>?_) (fun hg15=>?_)
  ·rw [iteT hg15] at hx17
   simp only [hg15,qc (g:=9),zq,qr,qb,zh,qa,qk,B0,reduceIte,reduceEqDiff]
   have e19:=qj hx17
   exact hN14 _ _ ⟨hS12,by rw [←e19]; simp only [B0,reduceIte,reduceEqDiff],rfl,rfl⟩
  ·rw [iteF hg15] at hx17
   simp only [hg15,qc (g:=9),qp,qo,qb,Nat.reduceAdd,Nat.zero_add,Nat.add_zero,qq,ql,B0,reduceIte,reduceEqDiff]
   refine qi (v:=lst cI v_1.Homes) rfl ?_
   simp only [hg15,qc (g:=9),qp,qo,qb,Nat.reduceAdd,Nat.zero_add,Nat.add_zero,qq,ql,B0,reduceIte,reduceEqDiff]
   refine qi (v:=lst qe v_0.Brokers) rfl ?_
   obtain ⟨v20,hx21,hF22⟩:=qm hx17
   simp only [hg15,qc (g:=9),qp,zr,qb,zx,zb,B0,reduceIte,reduceEqDiff]
   refine jc rfl (qn zo (qn qu zg)) (qc2 (fun b hb=>decide_eq_true hb) v_1.Homes (List.length v_0.Brokers:Int) v20 hx21) ?_
   simp only [hg15,qc (g:=9),qp,ja,qb,jq,qr,zi,qa,qk,B0,reduceIte,reduceEqDiff]
   have e23:=qj hF22
   exact hN14 _ _ ⟨hS12,by rw [←e23]; simp only [B0,reduceIte,reduceEqDiff],rfl,rfl⟩
 rintro fr24 h28 ⟨hS29,f25,f26,f27⟩
 simp only [List.drop_succ_cons,List.drop_zero]
 simp only [f25,qg,B0,reduceIte,reduceEqDiff]
 refine zu 5 (fun fr' h'=>Sep h' (geL h.length) ([])∧fr' 23 = .bool (v16||(decide ((List.length v_1.InStep:Int)=0)))∧fr' 2 = .ref [lst qe v_0.Brokers,
   lst qd v_0.Parts,.int .i64 v_0.Next] 0∧fr' 3 = .ref [lst cI v_1.Homes,lst cI v_1.InStep,.int .i64 v_1.Leader,.int .i64 v_1.Epoch,
   .int .i64 v_1.Stamp] 0) (fun Q30 hN31=>?_) ?_
 ·simp only [List.take_succ_cons,List.take_zero]
  simp only [qc (g:=18),B0,reduceIte,reduceEqDiff]
  refine qx (t:=v16) (fun hg32=>?_) (fun hg32=>?_)
  ·simp only [hg32,qc (g:=18),zq,qr,qb,zh,qa,qk,B0,reduceIte,reduceEqDiff]
   exact hN31 _ _ ⟨hS29,by rw [orT hg32]; simp only [B0,reduceIte,reduceEqDiff],f26,f27⟩
  ·simp only [hg32,qc (g:=18),qp,f27,qo,qb,Nat.reduceAdd,Nat.zero_add,Nat.add_zero,qq,ql,B0,reduceIte,reduceEqDiff]
   refine qi (v:=lst cI v_1.InStep) rfl ?_
   simp only [hg32,qc (g:=18),qp,zr,qb,zx,qv,z4,qr,zi,qa,qk,B0,reduceIte,reduceEqDiff]
   exact hN31 _ _ ⟨hS29,by rw [orF hg32]; simp only [B0,reduceIte,reduceEqDiff],f26,f27⟩
 rintro fr33 h37 ⟨hS38,f34,f35,f36⟩
 simp only [List.drop_succ_cons,List.drop_zero]
 simp only [f34,qg,B0,reduceIte,reduceEqDiff]
 obtain ⟨v42,hx43,hF44⟩:=qm hF18
 refine zu 8 (fun fr' h'=>Sep h' (geL h.length) ([])∧fr' 32 = .bool v42∧fr' 2 = .ref [lst qe v_0.Brokers,lst qd v_0.Parts,
   .int .i64 v_0.Next] 0∧fr' 3 = .ref [lst cI v_1.Homes,lst cI v_1.InStep,.int .i64 v_1.Leader,.int .i64 v_1.Epoch,.int .i64 v_1.Stamp] 0) (fun Q39 hN40=>?_) ?_
 ·simp only [List.take_succ_cons,List.take_zero]
  simp only [qc (g:=24),B0,reduceIte,reduceEqDiff]
  refine qx (t:=(v16||(decide ((List.length v_1.InStep:Int)=0)))) (fun hg41=>?_) (fun hg41=>?_)
  ·rw [iteT hg41] at hx43
   simp only [hg41,qc (g:=24),zq,qr,qb,zh,qa,qk,B0,reduceIte,reduceEqDiff]
   have e45:=qj hx43
   exact hN40 _ _ ⟨hS38,by rw [←e45]; simp only [B0,reduceIte,reduceEqDiff],f35,f36⟩
  ·rw [iteF hg41] at hx43
   simp only [hg41,qc (g:=24),qp,f36,qo,qb,Nat.reduceAdd,Nat.zero_add,Nat.add_zero,qq,ql,B0,reduceIte,reduceEqDiff]
   refine qi (v:=lst cI v_1.InStep) rfl ?_
   simp only [hg41,qc (g:=24),qp,f35,qo,qb,Nat.reduceAdd,Nat.zero_add,Nat.add_zero,qq,ql,B0,reduceIte,reduceEqDiff]
   refine qi (v:=lst qe v_0.Brokers) rfl ?_
   obtain ⟨v46,hx47,hF48⟩:=qm hx43
   simp only [hg41,qc (g:=24),qp,zr,qb,zx,zb,B0,reduceIte,reduceEqDiff]
   refine jc rfl (qn zo (qn qu zg)) (qc2 (fun b hb=>decide_eq_true hb) v_1.InStep (List.length v_0.Brokers:Int) v46 hx47) ?_
   simp only [hg41,qc (g:=24),qp,ja,qb,jq,qr,zi,qa,qk,B0,reduceIte,reduceEqDiff]
   have e49:=qj hF48
   exact hN40 _ _ ⟨hS38,by rw [←e49]; simp only [B0,reduceIte,reduceEqDiff],f35,f36⟩
 rintro fr50 h54 ⟨hS55,f51,f52,f53⟩
 simp only [List.drop_succ_cons,List.drop_zero]
 simp only [f51,qg,B0,reduceIte,reduceEqDiff]
 obtain ⟨v59,hx60,hF61⟩:=qm hF44
 refine zu 7 (fun fr' h'=>Sep h' (geL h.length) ([])∧fr' 40 = .bool v59∧fr' 2 = .ref [lst qe v_0.Brokers,lst qd v_0.Parts,
   .int .i64 v_0.Next] 0∧fr' 3 = .ref [lst cI v_1.Homes,lst cI v_1.InStep,.int .i64 v_1.Leader,.int .i64 v_1.Epoch,.int .i64 v_1.Stamp] 0) (fun Q56 hN57=>?_) ?_
 ·simp only [List.take_succ_cons,List.take_zero]
  simp only [qc (g:=33),B0,reduceIte,reduceEqDiff]
  refine qx (t:=v42) (fun hg58=>?_) (fun hg58=>?_)
  ·rw [iteT hg58] at hx60
   simp only [hg58,qc (g:=33),zq,qr,qb,zh,qa,qk,B0,reduceIte,reduceEqDiff]
   have e62:=qj hx60
   exact hN57 _ _ ⟨hS55,by rw [←e62]; simp only [B0,reduceIte,reduceEqDiff],f52,f53⟩
  ·rw [iteF hg58] at hx60
   simp only [hg58,qc (g:=33),qp,f53,qo,qb,Nat.reduceAdd,Nat.zero_add,Nat.add_zero,qq,ql,B0,reduceIte,reduceEqDiff]
   refine qi (v:=lst cI v_1.Homes) rfl ?_
   simp only [hg58,qc (g:=33),qp,f53,qo,qb,Nat.reduceAdd,Nat.zero_add,Nat.add_zero,qq,ql,B0,reduceIte,reduceEqDiff]
   refine qi (v:=lst cI v_1.InStep) rfl ?_
   obtain ⟨v63,hx64,hF65⟩:=qm hx60
   simp only [hg58,qc (g:=33),qp,zb,B0,reduceIte,reduceEqDiff]
   refine jc rfl (qn zo (qn zo zg)) (qig (fun b hb=>decide_eq_true hb) v_1.Homes v_1.InStep v63 hx64) ?_
   simp only [hg58,qc (g:=33),qp,ja,qb,jq,qr,zi,qa,qk,B0,reduceIte,reduceEqDiff]
   have e66:=qj hF65
   exact hN57 _ _ ⟨hS55,by rw [←e66]; simp only [B0,reduceIte,reduceEqDiff],f52,f53⟩
 rintro fr67 h71 ⟨hS72,f68,f69,f70⟩
 simp only [List.drop_succ_cons,List.drop_zero]
 simp only [qa,f68,qy,B0,reduceIte,reduceEqDiff]
 refine qw (t:=v59) (fun hc73=>?_) (fun hc73=>?_)
 ·rw [iteT hc73] at hF61
  simp only [qh,qf,qg,qa,q8,B0,reduceIte,reduceEqDiff]
  have he:=qj hF61
  subst he
  simp only [zc,B0,reduceIte,reduceEqDiff]
  exact rfl
 rw [iteF hc73] at hF61
 simp only [ze,qy0,qh,qf,f70,qo,qb,Nat.reduceAdd,Nat.zero_add,Nat.add_zero,qq,ql,B0,reduceIte,reduceEqDiff]
 refine qi (v := .int .i64 v_1.Leader) rfl ?_
 simp only [qv,qb,z4,qg,B0,reduceIte,reduceEqDiff]
 obtain ⟨v77,hx78,hF79⟩:=qm hF61
 refine zu 6 (fun fr' h'=>Sep h' (geL h.length) ([])∧fr' 50 = .bool v77∧fr' 2 = .ref [lst qe v_0.Brokers,lst qd v_0.Parts,
   .int .i64 v_0.Next] 0∧fr' 3 = .ref [lst cI v_1.Homes,lst cI v_1.InStep,.int .i64 v_1.Leader,.int .i64 v_1.Epoch,.int .i64 v_1.Stamp] 0) (fun Q74 hN75=>?_) ?_
 ·simp only [List.take_succ_cons,List.take_zero]
  simp only [qc (g:=44),B0,reduceIte,reduceEqDiff]
  refine qx (t:=(decide (v_1.Leader=(-1)))) (fun hg76=>?_) (fun hg76=>?_)
  ·rw [iteT hg76] at hx78
   simp only [hg76,qc (g:=44),qz,f69,ql,B0,reduceIte,reduceEqDiff]
   refine qi (v := .agg [lst qe v_0.Brokers,lst qd v_0.Parts,.int .i64 v_0.Next]) rfl ?_
   simp only [hg76,qc (g:=44),qz,f70,qo,qb,Nat.reduceAdd,Nat.zero_add,Nat.add_zero,qq,ql,B0,reduceIte,reduceEqDiff]
   refine qi (v:=lst cI v_1.InStep) rfl ?_
   obtain ⟨v80,hx81,hF82⟩:=qm hx78
   simp only [hg76,qc (g:=44),qz,zb,B0,reduceIte,reduceEqDiff]
   refine jc rfl (qn (jf (qn zo (qn zo (qn qu zg)))) (qn zo zg)) (qgs
     (fun b hb=>decide_eq_true hb) v_0 v_1.InStep v80 hx81) ?_
   simp only [hg76,qc (g:=44),qz,qv,qb,qby,qr,zh,qa,qk,B0,reduceIte,reduceEqDiff]
   have e83:=qj hF82
   exact hN75 _ _ ⟨hS72,by rw [←e83]; simp only [B0,reduceIte,reduceEqDiff],f69,f70⟩
  ·rw [iteF hg76] at hx78
   simp only [hg76,qc (g:=44),zy,qr,qb,zi,qa,qk,B0,reduceIte,reduceEqDiff]
   have e84:=qj hx78
   exact hN75 _ _ ⟨hS72,by rw [←e84]; simp only [B0,reduceIte,reduceEqDiff],f69,f70⟩
 rintro fr85 h89 ⟨hS90,f86,f87,f88⟩
 simp only [List.drop_succ_cons,List.drop_zero]
 simp only [f86,qg,B0,reduceIte,reduceEqDiff]
 obtain ⟨v94,hx95,hF96⟩:=qm hF79
 refine zu 21 (fun fr' h'=>Sep h' (geL h.length) ([])∧fr' 72 = .bool v94∧fr' 3 = .ref [lst cI v_1.Homes,lst cI v_1.InStep,.int .i64 v_1.Leader,.int .i64 v_1.Epoch,
   .int .i64 v_1.Stamp] 0) (fun Q91 hN92=>?_) ?_
 ·simp only [List.take_succ_cons,List.take_zero]
  simp only [qc (g:=51),B0,reduceIte,reduceEqDiff]
  refine qx (t:=v77) (fun hg93=>?_) (fun hg93=>?_)
  ·rw [iteT hg93] at hx95
   simp only [hg93,qc (g:=51),zq,qc (g:=55),qbu,qc (g:=62),qr,qb,zh,qa,qk,B0,reduceIte,
     reduceEqDiff]
   have e97:=qj hx95
   exact hN92 _ _ ⟨hS90,by rw [←e97]; simp only [B0,reduceIte,reduceEqDiff],f88⟩
  ·rw [iteF hg93] at hx95
   simp only [hg93,qc (g:=51),qp,f88,qo,qb,Nat.reduceAdd,Nat.zero_add,Nat.add_zero,qq,ql,B0,reduceIte,reduceEqDiff]
   refine qi (v := .int .i64 v_1.Leader) rfl ?_
   simp only [hg93,qc (g:=51),qp,qv,qb,ue,qg,B0,reduceIte,reduceEqDiff]
   obtain ⟨v101,hx102,hF103⟩:=qm hx95
   refine zu 16 (fun fr' h'=>Sep h' (geL h.length) ([])∧fr' 71 = .bool v101∧fr' 3 = .ref [lst cI v_1.Homes,lst cI v_1.InStep,.int .i64 v_1.Leader,
     .int .i64 v_1.Epoch,.int .i64 v_1.Stamp] 0∧fr' 51 = .bool v77) (fun Q98 hN99=>?_) ?_
   ·simp only [List.take_succ_cons,List.take_zero]
    simp only [qc (g:=55),B0,reduceIte,reduceEqDiff]
    refine qx (t:=(decide (v_1.Leader≠(-1)))) (fun hg100=>?_) (fun hg100=>?_)
    ·rw [iteT hg100] at hx102
     simp only [hg100,qc (g:=55),qz,f88,qo,qb,Nat.reduceAdd,Nat.zero_add,Nat.add_zero,qq,ql,B0,reduceIte,reduceEqDiff]
     refine qi (v:=lst cI v_1.InStep) rfl ?_
     simp only [hg100,qc (g:=55),qz,f88,qo,qb,Nat.reduceAdd,Nat.zero_add,Nat.add_zero,qq,ql,B0,reduceIte,reduceEqDiff]
     refine qi (v := .int .i64 v_1.Leader) rfl ?_
     obtain ⟨v104,hx105,hF106⟩:=qm hx102
     simp only [hg100,qc (g:=55),qz,zb,B0,reduceIte,reduceEqDiff]
     refine jc rfl (qn zo (qn qu zg)) (qct (fun b hb=>decide_eq_true hb) v_1.InStep v_1.Leader v104 hx105) ?_
     simp only [hg100,qc (g:=55),qz,ja,qb,jq,qg,B0,reduceIte,reduceEqDiff]
     obtain ⟨v110,hx111,hF112⟩:=qm hF106
     refine zu 8 (fun fr' h'=>Sep h' (geL h.length) ([])∧fr' 70 = .bool v110∧fr' 3 = .ref [lst cI v_1.Homes,lst cI v_1.InStep,.int .i64 v_1.Leader,
       .int .i64 v_1.Epoch,.int .i64 v_1.Stamp] 0∧fr' 51 = .bool v77∧fr' 55 = .bool (decide (v_1.Leader≠(-1)))) (fun Q107 hN108=>?_) ?_
     ·simp only [List.take_succ_cons,List.take_zero]
      simp only [qc (g:=62),B0,reduceIte,reduceEqDiff]
      refine qx (t:=(!v104)) (fun hg109=>?_) (fun hg109=>?_)
      ·rw [iteT hg109] at hx111
       simp only [hg109,qc (g:=62),zq,hg100,qc (g:=55),qz,qr,qb,zh,qa,qk,B0,reduceIte,
         reduceEqDiff]
       have e113:=qj hx111
       exact hN108 _ _ ⟨hS90,by rw [←e113]; simp only [B0,reduceIte,reduceEqDiff],f88,by simp only [hg93,B0,reduceIte,reduceEqDiff],by simp only [hg100,B0,
         reduceIte,reduceEqDiff]⟩
      ·rw [iteF hg109] at hx111
       simp only [hg109,qc (g:=62),qp,f87,qo,qb,Nat.reduceAdd,Nat.zero_add,Nat.add_zero,qq,ql,B0,reduceIte,reduceEqDiff]
       refine qi (v:=lst qe v_0.Brokers) rfl ?_
       simp only [hg109,qc (g:=62),qp,f88,qo,qb,Nat.reduceAdd,Nat.zero_add,Nat.add_zero,qq,ql,B0,reduceIte,reduceEqDiff]
       refine qi (v := .int .i64 v_1.Leader) rfl ?_
       obtain ⟨x114,hx115,hF116⟩:=qm hx111
       simp only [hg109,qc (g:=62),qp,jb,B0,reduceIte,reduceEqDiff]
       refine qi (v := .ref (qe x114) 0) (xx hx115 rfl) ?_
       simp only [hg109,qc (g:=62),qp,qo,qb,Nat.reduceAdd,Nat.zero_add,Nat.add_zero,qq,ql,B0,reduceIte,reduceEqDiff]
       refine qi (v := .bool x114.Fenced) rfl ?_
       simp only [hg100,qc (g:=55),qz,hg109,qr,qb,zi,qa,qk,B0,reduceIte,reduceEqDiff]
       have e117:=qj hF116
       exact hN108 _ _ ⟨hS90,by rw [←e117]; simp only [B0,reduceIte,reduceEqDiff],f88,by simp only [hg93,B0,reduceIte,reduceEqDiff],by simp only [hg100,B0,
         reduceIte,reduceEqDiff]⟩
     rintro fr118 h123 ⟨hS124,f119,f120,f121,f122⟩
     simp only [List.drop_succ_cons,List.drop_zero]
     simp only [f121,hg93,qc (g:=51),qp,f122,hg100,qr,qb,zh,f119,qa,qk,B0,reduceIte,reduceEqDiff]
     have e125:=qj hF112
     exact hN99 _ _ ⟨hS124,by rw [←e125]; simp only [B0,reduceIte,reduceEqDiff],f120,by simp only [f121,hg93,B0,reduceIte,reduceEqDiff]⟩
    ·rw [iteF hg100] at hx102
     simp only [hg100,qc (g:=55),zy,qc (g:=62),qbu,hg93,qc (g:=51),qp,qr,qb,zi,qa,
       qk,B0,reduceIte,reduceEqDiff]
     have e126:=qj hx102
     exact hN99 _ _ ⟨hS90,by rw [←e126]; simp only [B0,reduceIte,reduceEqDiff],f88,by simp only [hg93,B0,reduceIte,reduceEqDiff]⟩
   rintro fr127 h131 ⟨hS132,f128,f129,f130⟩
   simp only [List.drop_succ_cons,List.drop_zero]
   simp only [f130,hg93,qr,qb,zi,f128,qa,qk,B0,reduceIte,reduceEqDiff]
   have e133:=qj hF103
   exact hN92 _ _ ⟨hS132,by rw [←e133]; simp only [B0,reduceIte,reduceEqDiff],f129⟩
 rintro fr134 h137 ⟨hS138,f135,f136⟩
 simp only [List.drop_succ_cons,List.drop_zero]
 simp only [qa,f135,qy,B0,reduceIte,reduceEqDiff]
 refine qw (t:=v94) (fun hc139=>?_) (fun hc139=>?_)
 ·rw [iteT hc139] at hF96
  simp only [qh,qf,qg,qa,q8,B0,reduceIte,reduceEqDiff]
  have he:=qj hF96
  subst he
  simp only [zc,B0,reduceIte,reduceEqDiff]
  exact rfl
 rw [iteF hc139] at hF96
 simp only [ze,q11,qh,qf,f136,qo,qb,Nat.reduceAdd,Nat.zero_add,Nat.add_zero,qq,ql,B0,reduceIte,reduceEqDiff]
 refine qi (v := .int .i64 v_1.Epoch) rfl ?_
 simp only [zb,B0,reduceIte,reduceEqDiff]
 refine jc rfl (qn qu (qn qu (qn qu zg))) (wb (fun b hb=>decide_eq_true hb) v_1.Epoch 0 1000 _ rfl) ?_
 simp only [qg,B0,reduceIte,reduceEqDiff]
 refine zu 4 (fun fr' h'=>Sep h' (geL h.length) ([])∧fr' 80 = .bool ((zn v_1.Epoch 0 1000)&&(zn v_1.Stamp 0 1000))) (fun Q140 hN141=>?_) ?_
 ·simp only [List.take_succ_cons,List.take_zero]
  simp only [qc (g:=76),B0,reduceIte,reduceEqDiff]
  refine qx (t:=(zn v_1.Epoch 0 1000)) (fun hg142=>?_) (fun hg142=>?_)
  ·simp only [hg142,qc (g:=76),qz,f136,qo,qb,Nat.reduceAdd,Nat.zero_add,Nat.add_zero,qq,ql,B0,reduceIte,reduceEqDiff]
   refine qi (v := .int .i64 v_1.Stamp) rfl ?_
   simp only [hg142,qc (g:=76),qz,zb,B0,reduceIte,reduceEqDiff]
   refine jc rfl (qn qu (qn qu (qn qu zg))) (wb (fun b hb=>decide_eq_true hb) v_1.Stamp 0 1000 _ rfl) ?_
   simp only [hg142,qr,qb,zh,qa,qk,B0,reduceIte,reduceEqDiff]
   exact hN141 _ _ ⟨hS138,by rw [yb hg142]; simp only [B0,reduceIte,reduceEqDiff]⟩
  ·simp only [hg142,qc (g:=76),zy,qr,qb,zi,qa,qk,B0,reduceIte,reduceEqDiff]
   exact hN141 _ _ ⟨hS138,by rw [yc hg142]; simp only [B0,reduceIte,reduceEqDiff]⟩
 rintro fr143 h145 ⟨hS146,f144⟩
 simp only [List.drop_succ_cons,List.drop_zero]
 simp only [f144,qg,qa,q8,B0,reduceIte,reduceEqDiff]
 have he:=qj hF96
 subst he
 simp only [zc,B0,reduceIte,reduceEqDiff]
 exact rfl
end Go.Proofs.Ytjloihcijdcpeaa.X
namespace Go.Proofs.Ytjloihcijdcpeaa.X
open Go
open Nat (reduceEqDiff)
theorem qfe {W:Nat→Bool}{h:Heap} (hW:∀ b,
  (geL h.length) b→W b=true) (v_0:Control) (r:Bool) (hF:xw v_0=some r) : Ret E W 20 [.agg [lst qe v_0.Brokers,lst qd v_0.Parts,
  .int .i64 v_0.Next]] h (fun v h'=>cut h.length h' E.sz false 9 v=some (.bool r)):=by
 refine Ret.of (fn:=x20) rfl (Run.of ?_)
 unfold xw at hF
 have zf0:zj [.agg [lst qe v_0.Brokers,lst qd v_0.Parts,.int .i64 v_0.Next]] 0 = .agg [lst qe v_0.Brokers,lst qd v_0.Parts,
   .int .i64 v_0.Next]:=rfl
 generalize zj [.agg [lst qe v_0.Brokers,lst qd v_0.Parts,.int .i64 v_0.Next]]=fr0 at zf0 ⊢
 have hS:Sep h (geL h.length) []:=Sep.nil h
 simp only [x20,qh,qf,ju,zf0,B0,reduceIte,reduceEqDiff]
 refine je (cs:=[lst qe v_0.Brokers,lst qd v_0.Parts,.int .i64 v_0.Next]) hS rfl rfl rfl (fun b1 h2 hS3=>?_)
 simp only [qg,qa,B0,reduceIte,reduceEqDiff]
 refine zw hS3 hW (by simp only [B0,reduceIte,reduceEqDiff]) (fun h5 hS6=>?_)
 simp only [zv,qt9,qh,qf,qo,qb,Nat.reduceAdd,Nat.zero_add,Nat.add_zero,qq,ql,B0,reduceIte,reduceEqDiff]
 refine qi (v:=lst qe v_0.Brokers) rfl ?_
 simp only [zr,qb,zx,qg,qa,B0,reduceIte,reduceEqDiff]
 obtain ⟨oc9,hX11,hk12⟩:=jd hF
 simp only [q0x]
 refine kn (σ:=Unit) v_0.Brokers (fun i7 x8 _=>xv v_0 i7 x8 ) (fun s fr' h'=>fr' 1 = .ref [lst qe v_0.Brokers,
   lst qd v_0.Parts,.int .i64 v_0.Next] 0∧fr' 8=lst qe v_0.Brokers∧Sep h' (geL h.length) ([])) hX11 ⟨rfl,rfl,hS6⟩ (by simp only [B0,reduceIte,
   reduceEqDiff]) (by simp only [B0,reduceIte,reduceEqDiff]) (fun _ _ _ h=>h) rfl rfl (fun _ _ _ _ h=>h) (fun _ _ _ _ h=>h) (fun _ _ _ _ h=>h) (by decide) ?_ ?_
 ·rintro i7 x8 _ fr21 h22 hx26 ⟨f24,f25,hS23⟩ f27 f28 oc10 hF13 hr14 Q15 hN16 hB20 hK17 hR18 hE19
  unfold xv at hF13
  simp only [q03,qh,qf,f25,f27,jb,B0,reduceIte,reduceEqDiff]
  refine qi (v := .ref (qe x8) 0) (ko hx26 rfl) ?_
  simp only [ql,B0,reduceIte,reduceEqDiff]
  refine qi (v := .agg [.int .i64 x8.Epoch,.int .i64 x8.Left,.bool x8.Fenced]) rfl ?_
  simp only [jg,B0,reduceIte,reduceEqDiff]
  refine z1 hS23 (fun b29 h30 hS31=>?_)
  simp only [zl,B0,reduceIte,reduceEqDiff]
  refine zf (us:=[.int .i64 x8.Epoch,.int .i64 x8.Left,.bool x8.Fenced]) rfl (cs':=[.int .i64 x8.Epoch,.int .i64 x8.Left,
    .bool x8.Fenced]) hS31 hW rfl rfl (nle rfl) rfl (fun h33 hS34=>?_)
  simp only [qa,B0,reduceIte,reduceEqDiff]
  refine zw hS34 hW (by simp only [B0,reduceIte,reduceEqDiff]) (fun h35 hS36=>?_)
  simp only [zv,q0m,qh,qf,qo,qb,Nat.reduceAdd,Nat.zero_add,Nat.add_zero,qq,ql,B0,reduceIte,reduceEqDiff]
  refine qi (v := .int .i64 x8.Epoch) rfl ?_
  simp only [qv,qb,qhg,qg,B0,reduceIte,reduceEqDiff]
  refine zu 6 (fun fr' h'=>Sep h' (geL h.length) ([])∧fr' 23 = .bool ((decide (x8.Epoch<0))||(decide
    (v_0.Next≤x8.Epoch)))∧fr' 1 = .ref [lst qe v_0.Brokers,lst qd v_0.Parts,.int .i64 v_0.Next] 0∧fr' 4 = .ref [.int .i64 x8.Epoch,
    .int .i64 x8.Left,.bool x8.Fenced] 0∧fr' 8=lst qe v_0.Brokers∧fr' 9 = .int .i64 (List.length v_0.Brokers:Int)∧fr' 10 = .int .i64 (i7:Int))
    (fun Q37 hN38=>?_) ?_
  ·simp only [List.take_succ_cons,List.take_zero]
   simp only [qc (g:=17),B0,reduceIte,reduceEqDiff]
   refine qx (t:=(decide (x8.Epoch<0))) (fun hg39=>?_) (fun hg39=>?_)
   ·simp only [hg39,qc (g:=17),zq,qr,qb,zh,qa,qk,B0,reduceIte,reduceEqDiff]
    exact hN38 _ _ ⟨hS36,by rw [orT hg39]; simp only [B0,reduceIte,reduceEqDiff],f24,rfl,f25,f28,f27⟩
   ·simp only [hg39,qc (g:=17),qp,qo,qb,Nat.reduceAdd,Nat.zero_add,Nat.add_zero,qq,ql,B0,reduceIte,reduceEqDiff]
    refine qi (v := .int .i64 x8.Epoch) rfl ?_
    simp only [hg39,qc (g:=17),qp,f24,qo,qb,Nat.reduceAdd,Nat.zero_add,Nat.add_zero,qq,ql,B0,reduceIte,reduceEqDiff]
    refine qi (v := .int .i64 v_0.Next) rfl ?_
    simp only [hg39,qc (g:=17),qp,qv,qb,qby,qr,zi,qa,qk,B0,reduceIte,reduceEqDiff]
    exact hN38 _ _ ⟨hS36,by rw [orF hg39]; simp only [B0,reduceIte,reduceEqDiff],f24,rfl,f25,f28,f27⟩
  rintro fr40 h47 ⟨hS48,f41,f42,f43,f44,f45,f46⟩
  simp only [List.drop_succ_cons,List.drop_zero]
  simp only [f41,qg,B0,reduceIte,reduceEqDiff]
  refine zu 5 (fun fr' h'=>Sep h' (geL h.length) ([])∧fr' 29 = .bool (((decide (x8.Epoch<0))||(decide (v_0.Next≤x8.Epoch))) ||
    (!(zn x8.Left 0 9)))∧fr' 1 = .ref [lst qe v_0.Brokers,lst qd v_0.Parts,.int .i64 v_0.Next] 0∧fr' 4 = .ref [.int .i64 x8.Epoch,
    .int .i64 x8.Left,.bool x8.Fenced] 0∧fr' 8=lst qe v_0.Brokers∧fr' 9 = .int .i64 (List.length v_0.Brokers:Int)∧fr' 10 = .int .i64 (i7:Int))
    (fun Q49 hN50=>?_) ?_
  ·simp only [List.take_succ_cons,List.take_zero]
   simp only [qc (g:=24),B0,reduceIte,reduceEqDiff]
   refine qx (t:=((decide (x8.Epoch<0))||(decide (v_0.Next≤x8.Epoch)))) (fun hg51=>?_) (fun hg51=>?_)
   ·simp only [hg51,qc (g:=24),zq,qr,qb,zh,qa,qk,B0,reduceIte,reduceEqDiff]
    exact hN50 _ _ ⟨hS48,by rw [orT hg51]; simp only [B0,reduceIte,reduceEqDiff],f42,f43,f44,f45,f46⟩
   ·simp only [hg51,qc (g:=24),qp,f43,qo,qb,Nat.reduceAdd,Nat.zero_add,Nat.add_zero,qq,ql,B0,reduceIte,reduceEqDiff]
    refine qi (v := .int .i64 x8.Left) rfl ?_
    simp only [hg51,qc (g:=24),qp,zb,B0,reduceIte,reduceEqDiff]
    refine jc rfl (qn qu (qn qu (qn qu zg))) (wb (fun b hb=>decide_eq_true hb) x8.Left 0 9 _ rfl) ?_
    simp only [hg51,qc (g:=24),qp,ja,qb,jq,qr,zi,qa,qk,B0,reduceIte,reduceEqDiff]
    exact hN50 _ _ ⟨hS48,by rw [orF hg51]; simp only [B0,reduceIte,reduceEqDiff],f42,f43,f44,f45,f46⟩
  rintro fr52 h59 ⟨hS60,f53,f54,f55,f56,f57,f58⟩
  simp only [List.drop_succ_cons,List.drop_zero]
  simp only [f53,qg,B0,reduceIte,reduceEqDiff]
  refine zu 7 (fun fr' h'=>Sep h' (geL h.length) ([])∧fr' 37 = .bool ((((decide (x8.Epoch<0))||(decide (v_0.Next≤x8.Epoch)))||(!(zn x8.Left 0 9))) ||
    (!(x8.Fenced == (decide (x8.Left=0)))))∧fr' 1 = .ref [lst qe v_0.Brokers,lst qd v_0.Parts,
    .int .i64 v_0.Next] 0∧fr' 4 = .ref [.int .i64 x8.Epoch,.int .i64 x8.Left,
    .bool x8.Fenced] 0∧fr' 8=lst qe v_0.Brokers∧fr' 9 = .int .i64 (List.length v_0.Brokers:Int)∧fr' 10 = .int .i64 (i7:Int)) (fun Q61 hN62=>?_) ?_
  ·simp only [List.take_succ_cons,List.take_zero]
   simp only [qc (g:=30),B0,reduceIte,reduceEqDiff]
   refine qx (t:=(((decide (x8.Epoch<0))||(decide (v_0.Next≤x8.Epoch)))||(!(zn x8.Left 0 9)))) (fun hg63=>?_) (fun hg63=>?_)
   ·simp only [hg63,qc (g:=30),zq,qr,qb,zh,qa,qk,B0,reduceIte,reduceEqDiff]
    exact hN62 _ _ ⟨hS60,by rw [orT hg63]; simp only [B0,reduceIte,reduceEqDiff],f54,f55,f56,f57,f58⟩
   ·simp only [hg63,qc (g:=30),qp,f55,qo,qb,Nat.reduceAdd,Nat.zero_add,Nat.add_zero,qq,ql,B0,reduceIte,reduceEqDiff]
    refine qi (v := .bool x8.Fenced) rfl ?_
    simp only [hg63,qc (g:=30),qp,f55,qo,qb,Nat.reduceAdd,Nat.zero_add,Nat.add_zero,qq,ql,B0,reduceIte,reduceEqDiff]
    refine qi (v := .int .i64 x8.Left) rfl ?_
    simp only [hg63,qc (g:=30),qp,qv,qb,z4,qkw,qg8,qr,zi,qa,qk,B0,reduceIte,reduceEqDiff]
    exact hN62 _ _ ⟨hS60,by rw [orF hg63]; simp only [B0,reduceIte,reduceEqDiff],f54,f55,f56,f57,f58⟩
  rintro fr64 h71 ⟨hS72,f65,f66,f67,f68,f69,f70⟩
  simp only [List.drop_succ_cons,List.drop_zero]
  simp only [f65,qg,B0,reduceIte,reduceEqDiff]
  refine zu 9 (fun fr' h'=>Sep h' (geL h.length) ([])∧fr' 47 = .bool (((((decide (x8.Epoch<0))||(decide (v_0.Next≤x8.Epoch)))||(!(zn x8.Left 0 9))) ||
    (!(x8.Fenced == (decide (x8.Left=0)))))||((decide (x8.Epoch=0))&&(decide ((0:Int)<x8.Left))))∧fr' 1 = .ref [lst qe v_0.Brokers,
    lst qd v_0.Parts,.int .i64 v_0.Next] 0∧fr' 8=lst qe v_0.Brokers∧fr' 9 = .int .i64 (List.length v_0.Brokers:Int)∧fr' 10 = .int .i64
    (i7:Int)) (fun Q73 hN74=>?_) ?_
  ·simp only [List.take_succ_cons,List.take_zero]
   simp only [qc (g:=38),B0,reduceIte,reduceEqDiff]
   refine qx (t:=((((decide (x8.Epoch<0))||(decide (v_0.Next≤x8.Epoch)))||(!(zn x8.Left 0 9)))||(!(x8.Fenced == (decide (x8.Left=0))))))
     (fun hg75=>?_) (fun hg75=>?_)
   ·simp only [hg75,qc (g:=38),zq,qc (g:=42),qbu,qr,qb,zh,qa,qk,B0,reduceIte,reduceEqDiff]
    exact hN74 _ _ ⟨hS72,by rw [orT hg75]; simp only [B0,reduceIte,reduceEqDiff],f66,f68,f69,f70⟩
   ·simp only [hg75,qc (g:=38),qp,f67,qo,qb,Nat.reduceAdd,Nat.zero_add,Nat.add_zero,qq,ql,B0,reduceIte,reduceEqDiff]
    refine qi (v := .int .i64 x8.Epoch) rfl ?_
    simp only [hg75,qc (g:=38),qp,qv,qb,z4,qg,B0,reduceIte,reduceEqDiff]
    refine zu 4 (fun fr' h'=>Sep h' (geL h.length) ([])∧fr' 46 = .bool ((decide (x8.Epoch=0))&&(decide
      ((0:Int)<x8.Left)))∧fr' 1 = .ref [lst qe v_0.Brokers,lst qd v_0.Parts,
      .int .i64 v_0.Next] 0∧fr' 8=lst qe v_0.Brokers∧fr' 9 = .int .i64 (List.length v_0.Brokers:Int)∧fr' 10 = .int .i64 (i7:Int)∧fr' 38 = .bool
      ((((decide (x8.Epoch<0))||(decide (v_0.Next≤x8.Epoch)))||(!(zn x8.Left 0 9)))||(!(x8.Fenced == (decide (x8.Left=0)))))) (fun Q76 hN77=>?_) ?_
    ·simp only [List.take_succ_cons,List.take_zero]
     simp only [qc (g:=42),B0,reduceIte,reduceEqDiff]
     refine qx (t:=(decide (x8.Epoch=0))) (fun hg78=>?_) (fun hg78=>?_)
     ·simp only [hg78,qc (g:=42),qz,f67,qo,qb,Nat.reduceAdd,Nat.zero_add,Nat.add_zero,qq,ql,B0,reduceIte,reduceEqDiff]
      refine qi (v := .int .i64 x8.Left) rfl ?_
      simp only [hg78,qc (g:=42),qz,qv,qb,qet,hg75,qc (g:=38),qp,qr,zh,qa,qk,B0,
        reduceIte,reduceEqDiff]
      exact hN77 _ _ ⟨hS72,by rw [yb hg78]; simp only [B0,reduceIte,reduceEqDiff],f66,f68,f69,f70,by simp only [hg75,B0,reduceIte,reduceEqDiff]⟩
     ·simp only [hg78,qc (g:=42),zy,hg75,qc (g:=38),qp,qr,qb,zi,qa,qk,B0,reduceIte,
       reduceEqDiff]
      exact hN77 _ _ ⟨hS72,by rw [yc hg78]; simp only [B0,reduceIte,reduceEqDiff],f66,f68,f69,f70,by simp only [hg75,B0,reduceIte,reduceEqDiff]⟩
    rintro fr79 h86 ⟨hS87,f80,f81,f82,f83,f84,f85⟩
    simp only [List.drop_succ_cons,List.drop_zero]
    simp only [f85,hg75,qr,qb,zi,f80,qa,qk,B0,reduceIte,reduceEqDiff]
    exact hN74 _ _ ⟨hS87,by rw [orF hg75]; simp only [B0,reduceIte,reduceEqDiff],f81,f82,f83,f84⟩
  rintro fr88 h94 ⟨hS95,f89,f90,f91,f92,f93⟩
  simp only [List.drop_succ_cons,List.drop_zero]
  simp only [qa,f89,qy,B0,reduceIte,reduceEqDiff]
  refine qw (t:=(((((decide (x8.Epoch<0))||(decide (v_0.Next≤x8.Epoch)))||(!(zn x8.Left 0 9)))||(!(x8.Fenced == (decide (x8.Left=0)))))||((decide
    (x8.Epoch=0))&&(decide ((0:Int)<x8.Left))))) (fun hc96=>?_) (fun hc96=>?_)
  ·rw [iteT hc96] at hF13
   simp only [qh,qf,qg,qa,q8,B0,reduceIte,reduceEqDiff]
   have e97:=qj hF13
   subst e97
   have ho98:=hr14 _ rfl
   have hk99:=hk12
   rw [ho98] at hk99
   dsimp only [jnO] at hk99
   apply hR18
   have he:=qj hk99
   subst he
   simp only [zc,B0,reduceIte,reduceEqDiff]
   exact rfl
  rw [iteF hc96] at hF13
  simp only [ze,qk,B0,reduceIte,reduceEqDiff]
  have e100:=qj hF13
  exact hN16 _ _ _ e100.symm ⟨f90,f91,hS95⟩ (f93) (f92)
 rintro _ fr102 h103 rfl ⟨f105,f106,hS104⟩
 dsimp only [jnO] at hk12
 unfold qca at hk12
 simp only [qrs,qh,qf,f105,qo,qb,Nat.reduceAdd,Nat.zero_add,Nat.add_zero,qq,ql,B0,reduceIte,reduceEqDiff]
 refine qi (v:=lst qe v_0.Brokers) rfl ?_
 simp only [zr,qb,zx,zb,B0,reduceIte,reduceEqDiff]
 refine jc rfl (qn qu (qn qu (qn qu zg))) (wb (fun b hb=>decide_eq_true hb) (List.length v_0.Brokers:Int) 1 6 _ rfl) ?_
 simp only [ja,qb,jq,qg,B0,reduceIte,reduceEqDiff]
 refine zu 5 (fun fr' h'=>Sep h' (geL h.length) ([])∧fr' 59 = .bool ((!(zn (List.length v_0.Brokers:Int) 1 6))||(decide ((5:Int) <
   (List.length v_0.Parts:Int))))∧fr' 1 = .ref [lst qe v_0.Brokers,lst qd v_0.Parts,.int .i64 v_0.Next] 0) (fun Q107 hN108=>?_) ?_
 ·simp only [List.take_succ_cons,List.take_zero]
  simp only [qc (g:=54),B0,reduceIte,reduceEqDiff]
  refine qx (t:=(!(zn (List.length v_0.Brokers:Int) 1 6))) (fun hg109=>?_) (fun hg109=>?_)
  ·simp only [hg109,qc (g:=54),zq,qr,qb,zh,qa,qk,B0,reduceIte,reduceEqDiff]
   exact hN108 _ _ ⟨hS104,by rw [orT hg109]; simp only [B0,reduceIte,reduceEqDiff],f105⟩
  ·simp only [hg109,qc (g:=54),qp,f105,qo,qb,Nat.reduceAdd,Nat.zero_add,Nat.add_zero,qq,ql,B0,reduceIte,reduceEqDiff]
   refine qi (v:=lst qd v_0.Parts) rfl ?_
   simp only [hg109,qc (g:=54),qp,zr,qb,zx,qv,qet,qr,zi,qa,qk,B0,reduceIte,reduceEqDiff]
   exact hN108 _ _ ⟨hS104,by rw [orF hg109]; simp only [B0,reduceIte,reduceEqDiff],f105⟩
 rintro fr110 h113 ⟨hS114,f111,f112⟩
 simp only [List.drop_succ_cons,List.drop_zero]
 simp only [f111,qg,B0,reduceIte,reduceEqDiff]
 refine zu 5 (fun fr' h'=>Sep h' (geL h.length) ([])∧fr' 65 = .bool (((!(zn (List.length v_0.Brokers:Int) 1 6))||(decide ((5:Int) <
   (List.length v_0.Parts:Int))))||(!(zn v_0.Next 1 1000)))∧fr' 1 = .ref [lst qe v_0.Brokers,lst qd v_0.Parts,
   .int .i64 v_0.Next] 0) (fun Q115 hN116=>?_) ?_
 ·simp only [List.take_succ_cons,List.take_zero]
  simp only [qc (g:=60),B0,reduceIte,reduceEqDiff]
  refine qx (t:=((!(zn (List.length v_0.Brokers:Int) 1 6))||(decide ((5:Int)<(List.length v_0.Parts:Int))))) (fun hg117=>?_) (fun hg117=>?_)
  ·simp only [hg117,qc (g:=60),zq,qr,qb,zh,qa,qk,B0,reduceIte,reduceEqDiff]
   exact hN116 _ _ ⟨hS114,by rw [orT hg117]; simp only [B0,reduceIte,reduceEqDiff],f112⟩
  ·simp only [hg117,qc (g:=60),qp,f112,qo,qb,Nat.reduceAdd,Nat.zero_add,Nat.add_zero,qq,ql,B0,reduceIte,reduceEqDiff]
   refine qi (v := .int .i64 v_0.Next) rfl ?_
   simp only [hg117,qc (g:=60),qp,zb,B0,reduceIte,reduceEqDiff]
   refine jc rfl (qn qu (qn qu (qn qu zg))) (wb (fun b hb=>decide_eq_true hb) v_0.Next 1 1000 _ rfl) ?_
   simp only [hg117,qc (g:=60),qp,ja,qb,jq,qr,zi,qa,qk,B0,reduceIte,reduceEqDiff]
   exact hN116 _ _ ⟨hS114,by rw [orF hg117]; simp only [B0,reduceIte,reduceEqDiff],f112⟩
 rintro fr118 h121 ⟨hS122,f119,f120⟩
 simp only [List.drop_succ_cons,List.drop_zero]
 simp only [qa,f119,qy,B0,reduceIte,reduceEqDiff]
 refine qw (t:=(((!(zn (List.length v_0.Brokers:Int) 1 6))||(decide ((5:Int)<(List.length v_0.Parts:Int))))||(!(zn v_0.Next 1 1000))))
   (fun hc123=>?_) (fun hc123=>?_)
 ·rw [iteT hc123] at hk12
  simp only [qh,qf,qg,qa,q8,B0,reduceIte,reduceEqDiff]
  have he:=qj hk12
  subst he
  simp only [zc,B0,reduceIte,reduceEqDiff]
  exact rfl
 rw [iteF hc123] at hk12
 simp only [ze,q4g,qh,qf,f120,qo,qb,Nat.reduceAdd,Nat.zero_add,Nat.add_zero,qq,ql,B0,reduceIte,reduceEqDiff]
 refine qi (v:=lst qd v_0.Parts) rfl ?_
 simp only [zr,qb,zx,qg,qa,B0,reduceIte,reduceEqDiff]
 obtain ⟨oc126,hX128,hk129⟩:=jd hk12
 simp only [qyc]
 refine kn (σ:=Unit) v_0.Parts (fun i124 x125 _=>qao v_0 i124 x125 ) (fun s fr' h'=>fr' 1 = .ref [lst qe v_0.Brokers,
   lst qd v_0.Parts,.int .i64 v_0.Next] 0∧fr' 67=lst qd v_0.Parts∧Sep h' (geL h.length) ([])) hX128 ⟨f120,rfl,hS122⟩ (by simp only [B0,
   reduceIte,reduceEqDiff]) (by simp only [B0,reduceIte,
   reduceEqDiff]) (fun _ _ _ h=>h) rfl rfl (fun _ _ _ _ h=>h) (fun _ _ _ _ h=>h) (fun _ _ _ _ h=>h) (by decide) ?_ ?_
 ·rintro i124 x125 _ fr138 h139 hx143 ⟨f141,f142,hS140⟩ f144 f145 oc127 hF130 hr131 Q132 hN133 hB137 hK134 hR135 hE136
  unfold qao at hF130
  simp only [q0e,qh,qf,f142,f144,jb,B0,reduceIte,reduceEqDiff]
  refine qi (v := .ref (qd x125) 0) (ko hx143 rfl) ?_
  simp only [ql,B0,reduceIte,reduceEqDiff]
  refine qi (v := .agg [lst cI x125.Homes,lst cI x125.InStep,.int .i64 x125.Leader,.int .i64 x125.Epoch,.int .i64 x125.Stamp]) rfl ?_
  simp only [jg,B0,reduceIte,reduceEqDiff]
  refine z1 hS140 (fun b146 h147 hS148=>?_)
  simp only [zl,B0,reduceIte,reduceEqDiff]
  refine zf (us:=[lst cI x125.Homes,lst cI x125.InStep,.int .i64 x125.Leader,.int .i64 x125.Epoch,.int .i64 x125.Stamp]) rfl (cs':=[lst cI x125.Homes,
    lst cI x125.InStep,.int .i64 x125.Leader,.int .i64 x125.Epoch,.int .i64 x125.Stamp]) hS148 hW rfl rfl (nle rfl) rfl (fun h150 hS151=>?_)
  simp only [qa,B0,reduceIte,reduceEqDiff]
  refine zw hS151 hW (by simp only [B0,reduceIte,reduceEqDiff]) (fun h152 hS153=>?_)
  simp only [zv,q3m,qh,qf,f141,ql,B0,reduceIte,reduceEqDiff]
  refine qi (v := .agg [lst qe v_0.Brokers,lst qd v_0.Parts,.int .i64 v_0.Next]) rfl ?_
  simp only [ql,B0,reduceIte,reduceEqDiff]
  refine qi (v := .agg [lst cI x125.Homes,lst cI x125.InStep,.int .i64 x125.Leader,.int .i64 x125.Epoch,.int .i64 x125.Stamp]) rfl ?_
  obtain ⟨v154,hx155,hF156⟩:=qm hF130
  simp only [zb,B0,reduceIte,reduceEqDiff]
  refine jc rfl (qn (jf (qn zo (qn zo (qn qu zg)))) (qn (jf (qn zo (qn zo (qn qu (qn qu
    (qn qu zg)))))) zg)) (qks (fun b hb=>decide_eq_true hb) v_0 x125 v154 hx155) ?_
  simp only [ja,qb,jq,qa,qy,B0,reduceIte,reduceEqDiff]
  refine qw (t:=(!v154)) (fun hc157=>?_) (fun hc157=>?_)
  ·rw [iteT hc157] at hF156
   simp only [qh,qf,qg,qa,q8,B0,reduceIte,reduceEqDiff]
   have e158:=qj hF156
   subst e158
   have ho159:=hr131 _ rfl
   have hk160:=hk129
   rw [ho159] at hk160
   dsimp only [jnO] at hk160
   apply hR135
   have he:=qj hk160
   subst he
   simp only [zc,B0,reduceIte,reduceEqDiff]
   exact rfl
  rw [iteF hc157] at hF156
  simp only [ze,qk,B0,reduceIte,reduceEqDiff]
  have e161:=qj hF156
  exact hN133 _ _ _ e161.symm ⟨f141,f142,hS153⟩ (f144) (f145)
 rintro _ fr163 h164 rfl ⟨f166,f167,hS165⟩
 dsimp only [jnO] at hk129
 unfold qel at hk129
 simp only [qh,qf,qg,qa,q8,B0,reduceIte,reduceEqDiff]
 have he:=qj hk129
 subst he
 simp only [zc,B0,reduceIte,reduceEqDiff]
 exact rfl
end Go.Proofs.Ytjloihcijdcpeaa.X
namespace Go.Proofs.Ytjloihcijdcpeaa.X
open Go
open Nat (reduceEqDiff)
theorem qi4 {W:Nat→Bool}{h:Heap} (hW:∀ b,
  (geL h.length) b→W b=true) (v_0:Control) (v_1:Command) (r:Bool) (hF:qbc v_0 v_1=some r) : Ret E W 54 [.agg [lst qe v_0.Brokers,
  lst qd v_0.Parts,.int .i64 v_0.Next],.agg [.int .i64 v_1.Kind,.int .i64 v_1.Broker,.int .i64 v_1.Epoch,.int .i64 v_1.Part,.int .i64 v_1.Stamp,
  lst cI v_1.InStep]] h (fun v h'=>cut h.length h' E.sz false 9 v=some (.bool r)):=by
 refine Ret.of (fn:=x54) rfl (Run.of ?_)
 unfold qbc at hF
 have zf0:zj [.agg [lst qe v_0.Brokers,lst qd v_0.Parts,.int .i64 v_0.Next],.agg [.int .i64 v_1.Kind,.int .i64 v_1.Broker,.int .i64 v_1.Epoch,
   .int .i64 v_1.Part,.int .i64 v_1.Stamp,lst cI v_1.InStep]] 0 = .agg [lst qe v_0.Brokers,lst qd v_0.Parts,.int .i64 v_0.Next]:=rfl
 have zf1:zj [.agg [lst qe v_0.Brokers,lst qd v_0.Parts,.int .i64 v_0.Next],.agg [.int .i64 v_1.Kind,.int .i64 v_1.Broker,.int .i64 v_1.Epoch,
   .int .i64 v_1.Part,.int .i64 v_1.Stamp,lst cI v_1.InStep]] 1 = .agg [.int .i64 v_1.Kind,.int .i64 v_1.Broker,.int .i64 v_1.Epoch,.int .i64 v_1.Part,
   .int .i64 v_1.Stamp,lst cI v_1.InStep]:=rfl
 generalize zj [.agg [lst qe v_0.Brokers,lst qd v_0.Parts,.int .i64 v_0.Next],.agg [.int .i64 v_1.Kind,.int .i64 v_1.Broker,.int .i64 v_1.Epoch,
   .int .i64 v_1.Part,.int .i64 v_1.Stamp,lst cI v_1.InStep]]=fr0 at zf0 zf1 ⊢
 have hS:Sep h (geL h.length) []:=Sep.nil h
 simp only [x54,qh,qf,ju,zf0,B0,reduceIte,reduceEqDiff]
 refine je (cs:=[lst qe v_0.Brokers,lst qd v_0.Parts,.int .i64 v_0.Next]) hS rfl rfl rfl (fun b1 h2 hS3=>?_)
 simp only [ju,zf1,B0,reduceIte,reduceEqDiff]
 refine je (cs:=[.int .i64 v_1.Kind,.int .i64 v_1.Broker,.int .i64 v_1.Epoch,.int .i64 v_1.Part,.int .i64 v_1.Stamp,
   lst cI v_1.InStep]) hS3 rfl rfl rfl (fun b5 h6 hS7=>?_)
 simp only [qg,qa,B0,reduceIte,reduceEqDiff]
 refine zw (Sep.m1 hS7) hW (by simp only [B0,reduceIte,reduceEqDiff]) (fun h9 hS10=>?_)
 refine zw hS10 hW (by simp only [B0,reduceIte,reduceEqDiff]) (fun h11 hS12=>?_)
 simp only [zv,qsx,qh,qf,qo,qb,Nat.reduceAdd,Nat.zero_add,Nat.add_zero,qq,ql,B0,reduceIte,reduceEqDiff]
 refine qi (v := .int .i64 v_1.Broker) rfl ?_
 simp only [qv,qb,qby,qg,B0,reduceIte,reduceEqDiff]
 refine zu 7 (fun fr' h'=>Sep h' (geL h.length) ([])∧fr' 17 = .bool ((decide ((0:Int)≤v_1.Broker))&&(decide (v_1.Broker <
   (List.length v_0.Brokers:Int))))∧fr' 2 = .ref [lst qe v_0.Brokers,lst qd v_0.Parts,.int .i64 v_0.Next] 0∧fr' 3 = .ref [.int .i64 v_1.Kind,
   .int .i64 v_1.Broker,.int .i64 v_1.Epoch,.int .i64 v_1.Part,.int .i64 v_1.Stamp,lst cI v_1.InStep] 0) (fun Q13 hN14=>?_) ?_
 ·simp only [List.take_succ_cons,List.take_zero]
  simp only [qc (g:=10),B0,reduceIte,reduceEqDiff]
  refine qx (t:=(decide ((0:Int)≤v_1.Broker))) (fun hg15=>?_) (fun hg15=>?_)
  ·simp only [hg15,qc (g:=10),qz,qo,qb,Nat.reduceAdd,Nat.zero_add,Nat.add_zero,qq,ql,B0,reduceIte,reduceEqDiff]
   refine qi (v := .int .i64 v_1.Broker) rfl ?_
   simp only [hg15,qc (g:=10),qz,qo,qb,Nat.reduceAdd,Nat.zero_add,Nat.add_zero,qq,ql,B0,reduceIte,reduceEqDiff]
   refine qi (v:=lst qe v_0.Brokers) rfl ?_
   simp only [hg15,qc (g:=10),qz,zr,qb,zx,qv,qhg,qr,zh,qa,qk,B0,reduceIte,reduceEqDiff]
   exact hN14 _ _ ⟨hS12,by rw [yb hg15]; simp only [B0,reduceIte,reduceEqDiff],rfl,rfl⟩
  ·simp only [hg15,qc (g:=10),zy,qr,qb,zi,qa,qk,B0,reduceIte,reduceEqDiff]
   exact hN14 _ _ ⟨hS12,by rw [yc hg15]; simp only [B0,reduceIte,reduceEqDiff],rfl,rfl⟩
 rintro fr16 h20 ⟨hS21,f17,f18,f19⟩
 simp only [List.drop_succ_cons,List.drop_zero]
 simp only [f17,qg,qa,qsu,qh,qf,f19,qo,qb,Nat.reduceAdd,Nat.zero_add,Nat.add_zero,qq,ql,B0,reduceIte,reduceEqDiff]
 refine qi (v:=lst cI v_1.InStep) rfl ?_
 simp only [zr,qb,zx,qv,z4,qg,qa,qsj,qh,qf,f19,qo,Nat.reduceAdd,Nat.zero_add,Nat.add_zero,qq,ql,
   B0,reduceIte,reduceEqDiff]
 refine qi (v := .int .i64 v_1.Kind) rfl ?_
 simp only [qa,qqz,wh,qqj,qh,qf,qv,qb,z4,qg,qsb,qy,B0,reduceIte,reduceEqDiff]
 refine qw (t:=(decide (v_1.Kind=1))) (fun hc22=>?_) (fun hc22=>?_)
 ·rw [iteT hc22] at hF
  simp only [q2w,qh,qf,qg,B0,reduceIte,reduceEqDiff]
  refine zu 4 (fun fr' h'=>Sep h' (geL h.length) ([])∧fr' 31 = .bool (((decide ((0:Int)≤v_1.Broker))&&(decide (v_1.Broker<(List.length v_0.Brokers:Int)))) &&
    (decide (v_1.Epoch=0)))∧fr' 3 = .ref [.int .i64 v_1.Kind,.int .i64 v_1.Broker,.int .i64 v_1.Epoch,.int .i64 v_1.Part,.int .i64 v_1.Stamp,
    lst cI v_1.InStep] 0∧fr' 6 = .bool (decide ((List.length v_1.InStep:Int)=0))) (fun Q23 hN24=>?_) ?_
  ·simp only [List.take_succ_cons,List.take_zero]
   simp only [qc (g:=27),B0,reduceIte,reduceEqDiff]
   refine qx (t:=((decide ((0:Int)≤v_1.Broker))&&(decide (v_1.Broker<(List.length v_0.Brokers:Int))))) (fun hg25=>?_) (fun hg25=>?_)
   ·simp only [hg25,qc (g:=27),qz,f19,qo,qb,Nat.reduceAdd,Nat.zero_add,Nat.add_zero,qq,ql,B0,reduceIte,reduceEqDiff]
    refine qi (v := .int .i64 v_1.Epoch) rfl ?_
    simp only [hg25,qc (g:=27),qz,qv,qb,z4,qr,zh,qa,qk,B0,reduceIte,reduceEqDiff]
    exact hN24 _ _ ⟨hS21,by rw [yb hg25]; simp only [B0,reduceIte,reduceEqDiff],f19,rfl⟩
   ·simp only [hg25,qc (g:=27),zy,qr,qb,zi,qa,qk,B0,reduceIte,reduceEqDiff]
    exact hN24 _ _ ⟨hS21,by rw [yc hg25]; simp only [B0,reduceIte,reduceEqDiff],f19,rfl⟩
  rintro fr26 h30 ⟨hS31,f27,f28,f29⟩
  simp only [List.drop_succ_cons,List.drop_zero]
  simp only [f27,qg,B0,reduceIte,reduceEqDiff]
  refine zu 4 (fun fr' h'=>Sep h' (geL h.length) ([])∧fr' 36 = .bool ((((decide ((0:Int)≤v_1.Broker))&&(decide (v_1.Broker<(List.length v_0.Brokers:Int)))) &&
    (decide (v_1.Epoch=0)))&&(decide (v_1.Part=0)))∧fr' 3 = .ref [.int .i64 v_1.Kind,.int .i64 v_1.Broker,.int .i64 v_1.Epoch,.int .i64 v_1.Part,
    .int .i64 v_1.Stamp,lst cI v_1.InStep] 0∧fr' 6 = .bool (decide ((List.length v_1.InStep:Int)=0))) (fun Q32 hN33=>?_) ?_
  ·simp only [List.take_succ_cons,List.take_zero]
   simp only [qc (g:=32),B0,reduceIte,reduceEqDiff]
   refine qx (t:=(((decide ((0:Int)≤v_1.Broker))&&(decide (v_1.Broker<(List.length v_0.Brokers:Int))))&&(decide (v_1.Epoch=0)))) (fun hg34=>?_)
     (fun hg34=>?_)
   ·simp only [hg34,qc (g:=32),qz,f28,qo,qb,Nat.reduceAdd,Nat.zero_add,Nat.add_zero,qq,ql,B0,reduceIte,reduceEqDiff]
    refine qi (v := .int .i64 v_1.Part) rfl ?_
    simp only [hg34,qc (g:=32),qz,qv,qb,z4,qr,zh,qa,qk,B0,reduceIte,reduceEqDiff]
    exact hN33 _ _ ⟨hS31,by rw [yb hg34]; simp only [B0,reduceIte,reduceEqDiff],f28,f29⟩
   ·simp only [hg34,qc (g:=32),zy,qr,qb,zi,qa,qk,B0,reduceIte,reduceEqDiff]
    exact hN33 _ _ ⟨hS31,by rw [yc hg34]; simp only [B0,reduceIte,reduceEqDiff],f28,f29⟩
  rintro fr35 h39 ⟨hS40,f36,f37,f38⟩
  simp only [List.drop_succ_cons,List.drop_zero]
  simp only [f36,qg,B0,reduceIte,reduceEqDiff]
  refine zu 4 (fun fr' h'=>Sep h' (geL h.length) ([])∧fr' 41 = .bool (((((decide ((0:Int)≤v_1.Broker))&&(decide (v_1.Broker<(List.length v_0.Brokers:Int)))) &&
    (decide (v_1.Epoch=0)))&&(decide (v_1.Part=0)))&&(decide (v_1.Stamp=0)))∧fr' 6 = .bool (decide ((List.length v_1.InStep:Int)=0))) (fun Q41 hN42=>?_) ?_
  ·simp only [List.take_succ_cons,List.take_zero]
   simp only [qc (g:=37),B0,reduceIte,reduceEqDiff]
   refine qx (t:=((((decide ((0:Int)≤v_1.Broker))&&(decide (v_1.Broker<(List.length v_0.Brokers:Int))))&&(decide (v_1.Epoch=0)))&&(decide
     (v_1.Part=0)))) (fun hg43=>?_) (fun hg43=>?_)
   ·simp only [hg43,qc (g:=37),qz,f37,qo,qb,Nat.reduceAdd,Nat.zero_add,Nat.add_zero,qq,ql,B0,reduceIte,reduceEqDiff]
    refine qi (v := .int .i64 v_1.Stamp) rfl ?_
    simp only [hg43,qc (g:=37),qz,qv,qb,z4,qr,zh,qa,qk,B0,reduceIte,reduceEqDiff]
    exact hN42 _ _ ⟨hS40,by rw [yb hg43]; simp only [B0,reduceIte,reduceEqDiff],f38⟩
   ·simp only [hg43,qc (g:=37),zy,qr,qb,zi,qa,qk,B0,reduceIte,reduceEqDiff]
    exact hN42 _ _ ⟨hS40,by rw [yc hg43]; simp only [B0,reduceIte,reduceEqDiff],f38⟩
  rintro fr44 h47 ⟨hS48,f45,f46⟩
  simp only [List.drop_succ_cons,List.drop_zero]
  simp only [f45,qg,B0,reduceIte,reduceEqDiff]
  refine zu 2 (fun fr' h'=>Sep h' (geL h.length) ([])∧fr' 44 = .bool ((((((decide ((0:Int)≤v_1.Broker))&&(decide (v_1.Broker <
    (List.length v_0.Brokers:Int))))&&(decide (v_1.Epoch=0)))&&(decide (v_1.Part=0)))&&(decide (v_1.Stamp=0)))&&(decide
    ((List.length v_1.InStep:Int)=0)))) (fun Q49 hN50=>?_) ?_
  ·simp only [List.take_succ_cons,List.take_zero]
   simp only [qc (g:=42),B0,reduceIte,reduceEqDiff]
   refine qx (t:=(((((decide ((0:Int)≤v_1.Broker))&&(decide (v_1.Broker<(List.length v_0.Brokers:Int))))&&(decide (v_1.Epoch=0)))&&(decide
     (v_1.Part=0)))&&(decide (v_1.Stamp=0)))) (fun hg51=>?_) (fun hg51=>?_)
   ·simp only [hg51,qc (g:=42),qz,f46,qg,qr,qb,zh,qa,qk,B0,reduceIte,reduceEqDiff]
    exact hN50 _ _ ⟨hS48,by rw [yb hg51]; simp only [B0,reduceIte,reduceEqDiff]⟩
   ·simp only [hg51,qc (g:=42),zy,qr,qb,zi,qa,qk,B0,reduceIte,reduceEqDiff]
    exact hN50 _ _ ⟨hS48,by rw [yc hg51]; simp only [B0,reduceIte,reduceEqDiff]⟩
  rintro fr52 h54 ⟨hS55,f53⟩
  simp only [List.drop_succ_cons,List.drop_zero]
  simp only [f53,qg,qa,q8,B0,reduceIte,reduceEqDiff]
  have he:=qj hF
  subst he
  simp only [zc,B0,reduceIte,reduceEqDiff]
  exact rfl
 rw [iteF hc22] at hF
 simp only [qqt,qh,qf,qv,qb,z4,qg,qa,qub,qy,B0,reduceIte,reduceEqDiff]
 refine qw (t:=(decide (v_1.Kind=2))) (fun hc56=>?_) (fun hc56=>?_)
 ·rw [iteT hc56] at hF
  simp only [qz7,qh,qf,qg,B0,reduceIte,reduceEqDiff]
  refine zu 4 (fun fr' h'=>Sep h' (geL h.length) ([])∧fr' 52 = .bool (((decide ((0:Int)≤v_1.Broker))&&(decide (v_1.Broker<(List.length v_0.Brokers:Int)))) &&
    (zn v_1.Epoch 0 1000))∧fr' 3 = .ref [.int .i64 v_1.Kind,.int .i64 v_1.Broker,.int .i64 v_1.Epoch,.int .i64 v_1.Part,.int .i64 v_1.Stamp,
    lst cI v_1.InStep] 0∧fr' 6 = .bool (decide ((List.length v_1.InStep:Int)=0))) (fun Q57 hN58=>?_) ?_
  ·simp only [List.take_succ_cons,List.take_zero]
   simp only [qc (g:=48),B0,reduceIte,reduceEqDiff]
   refine qx (t:=((decide ((0:Int)≤v_1.Broker))&&(decide (v_1.Broker<(List.length v_0.Brokers:Int))))) (fun hg59=>?_) (fun hg59=>?_)
   ·simp only [hg59,qc (g:=48),qz,f19,qo,qb,Nat.reduceAdd,Nat.zero_add,Nat.add_zero,qq,ql,B0,reduceIte,reduceEqDiff]
    refine qi (v := .int .i64 v_1.Epoch) rfl ?_
    simp only [hg59,qc (g:=48),qz,zb,B0,reduceIte,reduceEqDiff]
    refine jc rfl (qn qu (qn qu (qn qu zg))) (wb (fun b hb=>decide_eq_true hb) v_1.Epoch 0 1000 _ rfl) ?_
    simp only [hg59,qr,qb,zh,qa,qk,B0,reduceIte,reduceEqDiff]
    exact hN58 _ _ ⟨hS21,by rw [yb hg59]; simp only [B0,reduceIte,reduceEqDiff],f19,rfl⟩
   ·simp only [hg59,qc (g:=48),zy,qr,qb,zi,qa,qk,B0,reduceIte,reduceEqDiff]
    exact hN58 _ _ ⟨hS21,by rw [yc hg59]; simp only [B0,reduceIte,reduceEqDiff],f19,rfl⟩
  rintro fr60 h64 ⟨hS65,f61,f62,f63⟩
  simp only [List.drop_succ_cons,List.drop_zero]
  simp only [f61,qg,B0,reduceIte,reduceEqDiff]
  refine zu 4 (fun fr' h'=>Sep h' (geL h.length) ([])∧fr' 57 = .bool ((((decide ((0:Int)≤v_1.Broker))&&(decide (v_1.Broker<(List.length v_0.Brokers:Int)))) &&
    (zn v_1.Epoch 0 1000))&&(decide (v_1.Part=0)))∧fr' 3 = .ref [.int .i64 v_1.Kind,.int .i64 v_1.Broker,.int .i64 v_1.Epoch,.int .i64 v_1.Part,
    .int .i64 v_1.Stamp,lst cI v_1.InStep] 0∧fr' 6 = .bool (decide ((List.length v_1.InStep:Int)=0))) (fun Q66 hN67=>?_) ?_
  ·simp only [List.take_succ_cons,List.take_zero]
   simp only [qc (g:=53),B0,reduceIte,reduceEqDiff]
   refine qx (t:=(((decide ((0:Int)≤v_1.Broker))&&(decide (v_1.Broker<(List.length v_0.Brokers:Int))))&&(zn v_1.Epoch 0 1000))) (fun hg68=>?_)
     (fun hg68=>?_)
   ·simp only [hg68,qc (g:=53),qz,f62,qo,qb,Nat.reduceAdd,Nat.zero_add,Nat.add_zero,qq,ql,B0,reduceIte,reduceEqDiff]
    refine qi (v := .int .i64 v_1.Part) rfl ?_
    simp only [hg68,qc (g:=53),qz,qv,qb,z4,qr,zh,qa,qk,B0,reduceIte,reduceEqDiff]
    exact hN67 _ _ ⟨hS65,by rw [yb hg68]; simp only [B0,reduceIte,reduceEqDiff],f62,f63⟩
   ·simp only [hg68,qc (g:=53),zy,qr,qb,zi,qa,qk,B0,reduceIte,reduceEqDiff]
    exact hN67 _ _ ⟨hS65,by rw [yc hg68]; simp only [B0,reduceIte,reduceEqDiff],f62,f63⟩
  rintro fr69 h73 ⟨hS74,f70,f71,f72⟩
  simp only [List.drop_succ_cons,List.drop_zero]
  simp only [f70,qg,B0,reduceIte,reduceEqDiff]
  refine zu 4 (fun fr' h'=>Sep h' (geL h.length) ([])∧fr' 62 = .bool (((((decide ((0:Int)≤v_1.Broker))&&(decide (v_1.Broker<(List.length v_0.Brokers:Int)))) &&
    (zn v_1.Epoch 0 1000))&&(decide (v_1.Part=0)))&&(decide (v_1.Stamp=0)))∧fr' 6 = .bool (decide ((List.length v_1.InStep:Int)=0)))
    (fun Q75 hN76=>?_) ?_
  ·simp only [List.take_succ_cons,List.take_zero]
   simp only [qc (g:=58),B0,reduceIte,reduceEqDiff]
   refine qx (t:=((((decide ((0:Int)≤v_1.Broker))&&(decide (v_1.Broker<(List.length v_0.Brokers:Int))))&&(zn v_1.Epoch 0 1000))&&(decide
     (v_1.Part=0)))) (fun hg77=>?_) (fun hg77=>?_)
   ·simp only [hg77,qc (g:=58),qz,f71,qo,qb,Nat.reduceAdd,Nat.zero_add,Nat.add_zero,qq,ql,B0,reduceIte,reduceEqDiff]
    refine qi (v := .int .i64 v_1.Stamp) rfl ?_
    simp only [hg77,qc (g:=58),qz,qv,qb,z4,qr,zh,qa,qk,B0,reduceIte,reduceEqDiff]
    exact hN76 _ _ ⟨hS74,by rw [yb hg77]; simp only [B0,reduceIte,reduceEqDiff],f72⟩
   ·simp only [hg77,qc (g:=58),zy,qr,qb,zi,qa,qk,B0,reduceIte,reduceEqDiff]
    exact hN76 _ _ ⟨hS74,by rw [yc hg77]; simp only [B0,reduceIte,reduceEqDiff],f72⟩
  rintro fr78 h81 ⟨hS82,f79,f80⟩
  simp only [List.drop_succ_cons,List.drop_zero]
  simp only [f79,qg,B0,reduceIte,reduceEqDiff]
  refine zu 2 (fun fr' h'=>Sep h' (geL h.length) ([])∧fr' 65 = .bool ((((((decide ((0:Int)≤v_1.Broker))&&(decide (v_1.Broker <
    (List.length v_0.Brokers:Int))))&&(zn v_1.Epoch 0 1000))&&(decide (v_1.Part=0)))&&(decide (v_1.Stamp=0)))&&(decide
    ((List.length v_1.InStep:Int)=0)))) (fun Q83 hN84=>?_) ?_
  ·simp only [List.take_succ_cons,List.take_zero]
   simp only [qc (g:=63),B0,reduceIte,reduceEqDiff]
   refine qx (t:=(((((decide ((0:Int)≤v_1.Broker))&&(decide (v_1.Broker<(List.length v_0.Brokers:Int))))&&(zn v_1.Epoch 0 1000))&&(decide
     (v_1.Part=0)))&&(decide (v_1.Stamp=0)))) (fun hg85=>?_) (fun hg85=>?_)
   ·simp only [hg85,qc (g:=63),qz,f80,qg,qr,qb,zh,qa,qk,B0,reduceIte,reduceEqDiff]
    exact hN84 _ _ ⟨hS82,by rw [yb hg85]; simp only [B0,reduceIte,reduceEqDiff]⟩
   ·simp only [hg85,qc (g:=63),zy,qr,qb,zi,qa,qk,B0,reduceIte,reduceEqDiff]
    exact hN84 _ _ ⟨hS82,by rw [yc hg85]; simp only [B0,reduceIte,reduceEqDiff]⟩
  rintro fr86 h88 ⟨hS89,f87⟩
  simp only [List.drop_succ_cons,List.drop_zero]
  simp only [f87,qg,qa,q8,B0,reduceIte,reduceEqDiff]
  have he:=qj hF
  subst he
  simp only [zc,B0,reduceIte,reduceEqDiff]
  exact rfl
 rw [iteF hc56] at hF
 simp only [qqa,qh,qf,qv,qb,z4,qg,qa,qtn,qy,B0,reduceIte,reduceEqDiff]
 refine qw (t:=(decide (v_1.Kind=3))) (fun hc90=>?_) (fun hc90=>?_)
 ·rw [iteT hc90] at hF
  simp only [qyr,qh,qf,f19,qo,qb,Nat.reduceAdd,Nat.zero_add,Nat.add_zero,qq,ql,B0,reduceIte,reduceEqDiff]
  refine qi (v := .int .i64 v_1.Broker) rfl ?_
  simp only [qv,qb,z4,qg,B0,reduceIte,reduceEqDiff]
  refine zu 4 (fun fr' h'=>Sep h' (geL h.length) ([])∧fr' 75 = .bool ((decide (v_1.Broker=0))&&(decide (v_1.Epoch=0)))∧fr' 3 = .ref [.int .i64 v_1.Kind,
    .int .i64 v_1.Broker,.int .i64 v_1.Epoch,.int .i64 v_1.Part,.int .i64 v_1.Stamp,
    lst cI v_1.InStep] 0∧fr' 6 = .bool (decide ((List.length v_1.InStep:Int)=0))) (fun Q91 hN92=>?_) ?_
  ·simp only [List.take_succ_cons,List.take_zero]
   simp only [qc (g:=71),B0,reduceIte,reduceEqDiff]
   refine qx (t:=(decide (v_1.Broker=0))) (fun hg93=>?_) (fun hg93=>?_)
   ·simp only [hg93,qc (g:=71),qz,f19,qo,qb,Nat.reduceAdd,Nat.zero_add,Nat.add_zero,qq,ql,B0,reduceIte,reduceEqDiff]
    refine qi (v := .int .i64 v_1.Epoch) rfl ?_
    simp only [hg93,qc (g:=71),qz,qv,qb,z4,qr,zh,qa,qk,B0,reduceIte,reduceEqDiff]
    exact hN92 _ _ ⟨hS21,by rw [yb hg93]; simp only [B0,reduceIte,reduceEqDiff],f19,rfl⟩
   ·simp only [hg93,qc (g:=71),zy,qr,qb,zi,qa,qk,B0,reduceIte,reduceEqDiff]
    exact hN92 _ _ ⟨hS21,by rw [yc hg93]; simp only [B0,reduceIte,reduceEqDiff],f19,rfl⟩
  rintro fr94 h98 ⟨hS99,f95,f96,f97⟩
  simp only [List.drop_succ_cons,List.drop_zero]
  simp only [f95,qg,B0,reduceIte,reduceEqDiff]
  refine zu 4 (fun fr' h'=>Sep h' (geL h.length) ([])∧fr' 80 = .bool (((decide (v_1.Broker=0))&&(decide (v_1.Epoch=0)))&&(decide
    (v_1.Part=0)))∧fr' 3 = .ref [.int .i64 v_1.Kind,.int .i64 v_1.Broker,.int .i64 v_1.Epoch,.int .i64 v_1.Part,.int .i64 v_1.Stamp,
    lst cI v_1.InStep] 0∧fr' 6 = .bool (decide ((List.length v_1.InStep:Int)=0))) (fun Q100 hN101=>?_) ?_
  ·simp only [List.take_succ_cons,List.take_zero]
   simp only [qc (g:=76),B0,reduceIte,reduceEqDiff]
   refine qx (t:=((decide (v_1.Broker=0))&&(decide (v_1.Epoch=0)))) (fun hg102=>?_) (fun hg102=>?_)
   ·simp only [hg102,qc (g:=76),qz,f96,qo,qb,Nat.reduceAdd,Nat.zero_add,Nat.add_zero,qq,ql,B0,reduceIte,reduceEqDiff]
    refine qi (v := .int .i64 v_1.Part) rfl ?_
    simp only [hg102,qc (g:=76),qz,qv,qb,z4,qr,zh,qa,qk,B0,reduceIte,reduceEqDiff]
    exact hN101 _ _ ⟨hS99,by rw [yb hg102]; simp only [B0,reduceIte,reduceEqDiff],f96,f97⟩
   ·simp only [hg102,qc (g:=76),zy,qr,qb,zi,qa,qk,B0,reduceIte,reduceEqDiff]
    exact hN101 _ _ ⟨hS99,by rw [yc hg102]; simp only [B0,reduceIte,reduceEqDiff],f96,f97⟩
  rintro fr103 h107 ⟨hS108,f104,f105,f106⟩
  simp only [List.drop_succ_cons,List.drop_zero]
  simp only [f104,qg,B0,reduceIte,reduceEqDiff]
  refine zu 4 (fun fr' h'=>Sep h' (geL h.length) ([])∧fr' 85 = .bool ((((decide (v_1.Broker=0))&&(decide (v_1.Epoch=0)))&&(decide (v_1.Part=0)))&&(decide
    (v_1.Stamp=0)))∧fr' 6 = .bool (decide ((List.length v_1.InStep:Int)=0))) (fun Q109 hN110=>?_) ?_
  ·simp only [List.take_succ_cons,List.take_zero]
   simp only [qc (g:=81),B0,reduceIte,reduceEqDiff]
   refine qx (t:=(((decide (v_1.Broker=0))&&(decide (v_1.Epoch=0)))&&(decide (v_1.Part=0)))) (fun hg111=>?_) (fun hg111=>?_)
   ·simp only [hg111,qc (g:=81),qz,f105,qo,qb,Nat.reduceAdd,Nat.zero_add,Nat.add_zero,qq,ql,B0,reduceIte,reduceEqDiff]
    refine qi (v := .int .i64 v_1.Stamp) rfl ?_
    simp only [hg111,qc (g:=81),qz,qv,qb,z4,qr,zh,qa,qk,B0,reduceIte,reduceEqDiff]
    exact hN110 _ _ ⟨hS108,by rw [yb hg111]; simp only [B0,reduceIte,reduceEqDiff],f106⟩
   ·simp only [hg111,qc (g:=81),zy,qr,qb,zi,qa,qk,B0,reduceIte,reduceEqDiff]
    exact hN110 _ _ ⟨hS108,by rw [yc hg111]; simp only [B0,reduceIte,reduceEqDiff],f106⟩
  rintro fr112 h115 ⟨hS116,f113,f114⟩
  simp only [List.drop_succ_cons,List.drop_zero]
  simp only [f113,qg,B0,reduceIte,reduceEqDiff]
  refine zu 2 (fun fr' h'=>Sep h' (geL h.length) ([])∧fr' 88 = .bool (((((decide (v_1.Broker=0))&&(decide (v_1.Epoch=0)))&&(decide (v_1.Part=0)))&&(decide
    (v_1.Stamp=0)))&&(decide ((List.length v_1.InStep:Int)=0)))) (fun Q117 hN118=>?_) ?_
  ·simp only [List.take_succ_cons,List.take_zero]
   simp only [qc (g:=86),B0,reduceIte,reduceEqDiff]
   refine qx (t:=((((decide (v_1.Broker=0))&&(decide (v_1.Epoch=0)))&&(decide (v_1.Part=0)))&&(decide (v_1.Stamp=0)))) (fun hg119=>?_)
     (fun hg119=>?_)
   ·simp only [hg119,qc (g:=86),qz,f114,qg,qr,qb,zh,qa,qk,B0,reduceIte,reduceEqDiff]
    exact hN118 _ _ ⟨hS116,by rw [yb hg119]; simp only [B0,reduceIte,reduceEqDiff]⟩
   ·simp only [hg119,qc (g:=86),zy,qr,qb,zi,qa,qk,B0,reduceIte,reduceEqDiff]
    exact hN118 _ _ ⟨hS116,by rw [yc hg119]; simp only [B0,reduceIte,reduceEqDiff]⟩
  rintro fr120 h122 ⟨hS123,f121⟩
  simp only [List.drop_succ_cons,List.drop_zero]
  simp only [f121,qg,qa,q8,B0,reduceIte,reduceEqDiff]
  have he:=qj hF
  subst he
  simp only [zc,B0,reduceIte,reduceEqDiff]
  exact rfl
 rw [iteF hc90] at hF
 simp only [qvi,qh,qf,qv,qb,z4,qg,qa,qtt,qy,B0,reduceIte,reduceEqDiff]
 refine qw (t:=(decide (v_1.Kind=4))) (fun hc124=>?_) (fun hc124=>?_)
 ·rw [iteT hc124] at hF
  simp only [qze,qh,qf,f19,qo,qb,Nat.reduceAdd,Nat.zero_add,Nat.add_zero,qq,ql,B0,reduceIte,reduceEqDiff]
  refine qi (v := .int .i64 v_1.Broker) rfl ?_
  simp only [qv,qb,z4,qg,B0,reduceIte,reduceEqDiff]
  refine zu 4 (fun fr' h'=>Sep h' (geL h.length) ([])∧fr' 98 = .bool ((decide (v_1.Broker=0))&&(decide (v_1.Epoch=0)))∧fr' 2 = .ref [lst qe v_0.Brokers,
    lst qd v_0.Parts,.int .i64 v_0.Next] 0∧fr' 3 = .ref [.int .i64 v_1.Kind,.int .i64 v_1.Broker,.int .i64 v_1.Epoch,.int .i64 v_1.Part,
    .int .i64 v_1.Stamp,lst cI v_1.InStep] 0) (fun Q125 hN126=>?_) ?_
  ·simp only [List.take_succ_cons,List.take_zero]
   simp only [qc (g:=94),B0,reduceIte,reduceEqDiff]
   refine qx (t:=(decide (v_1.Broker=0))) (fun hg127=>?_) (fun hg127=>?_)
   ·simp only [hg127,qc (g:=94),qz,f19,qo,qb,Nat.reduceAdd,Nat.zero_add,Nat.add_zero,qq,ql,B0,reduceIte,reduceEqDiff]
    refine qi (v := .int .i64 v_1.Epoch) rfl ?_
    simp only [hg127,qc (g:=94),qz,qv,qb,z4,qr,zh,qa,qk,B0,reduceIte,reduceEqDiff]
    exact hN126 _ _ ⟨hS21,by rw [yb hg127]; simp only [B0,reduceIte,reduceEqDiff],f18,f19⟩
   ·simp only [hg127,qc (g:=94),zy,qr,qb,zi,qa,qk,B0,reduceIte,reduceEqDiff]
    exact hN126 _ _ ⟨hS21,by rw [yc hg127]; simp only [B0,reduceIte,reduceEqDiff],f18,f19⟩
  rintro fr128 h132 ⟨hS133,f129,f130,f131⟩
  simp only [List.drop_succ_cons,List.drop_zero]
  simp only [f129,qg,B0,reduceIte,reduceEqDiff]
  refine zu 4 (fun fr' h'=>Sep h' (geL h.length) ([])∧fr' 103 = .bool (((decide (v_1.Broker=0))&&(decide (v_1.Epoch=0)))&&(decide
    (v_1.Part=0)))∧fr' 2 = .ref [lst qe v_0.Brokers,lst qd v_0.Parts,.int .i64 v_0.Next] 0∧fr' 3 = .ref [.int .i64 v_1.Kind,
    .int .i64 v_1.Broker,.int .i64 v_1.Epoch,.int .i64 v_1.Part,.int .i64 v_1.Stamp,lst cI v_1.InStep] 0) (fun Q134 hN135=>?_) ?_
  ·simp only [List.take_succ_cons,List.take_zero]
   simp only [qc (g:=99),B0,reduceIte,reduceEqDiff]
   refine qx (t:=((decide (v_1.Broker=0))&&(decide (v_1.Epoch=0)))) (fun hg136=>?_) (fun hg136=>?_)
   ·simp only [hg136,qc (g:=99),qz,f131,qo,qb,Nat.reduceAdd,Nat.zero_add,Nat.add_zero,qq,ql,B0,reduceIte,reduceEqDiff]
    refine qi (v := .int .i64 v_1.Part) rfl ?_
    simp only [hg136,qc (g:=99),qz,qv,qb,z4,qr,zh,qa,qk,B0,reduceIte,reduceEqDiff]
    exact hN135 _ _ ⟨hS133,by rw [yb hg136]; simp only [B0,reduceIte,reduceEqDiff],f130,f131⟩
   ·simp only [hg136,qc (g:=99),zy,qr,qb,zi,qa,qk,B0,reduceIte,reduceEqDiff]
    exact hN135 _ _ ⟨hS133,by rw [yc hg136]; simp only [B0,reduceIte,reduceEqDiff],f130,f131⟩
  rintro fr137 h141 ⟨hS142,f138,f139,f140⟩
  simp only [List.drop_succ_cons,List.drop_zero]
  simp only [f138,qg,B0,reduceIte,reduceEqDiff]
  refine zu 4 (fun fr' h'=>Sep h' (geL h.length) ([])∧fr' 108 = .bool ((((decide (v_1.Broker=0))&&(decide (v_1.Epoch=0)))&&(decide (v_1.Part=0)))&&(decide
    (v_1.Stamp=0)))∧fr' 2 = .ref [lst qe v_0.Brokers,lst qd v_0.Parts,.int .i64 v_0.Next] 0∧fr' 3 = .ref [.int .i64 v_1.Kind,
    .int .i64 v_1.Broker,.int .i64 v_1.Epoch,.int .i64 v_1.Part,.int .i64 v_1.Stamp,lst cI v_1.InStep] 0) (fun Q143 hN144=>?_) ?_
  ·simp only [List.take_succ_cons,List.take_zero]
   simp only [qc (g:=104),B0,reduceIte,reduceEqDiff]
   refine qx (t:=(((decide (v_1.Broker=0))&&(decide (v_1.Epoch=0)))&&(decide (v_1.Part=0)))) (fun hg145=>?_) (fun hg145=>?_)
   ·simp only [hg145,qc (g:=104),qz,f140,qo,qb,Nat.reduceAdd,Nat.zero_add,Nat.add_zero,qq,ql,B0,reduceIte,reduceEqDiff]
    refine qi (v := .int .i64 v_1.Stamp) rfl ?_
    simp only [hg145,qc (g:=104),qz,qv,qb,z4,qr,zh,qa,qk,B0,reduceIte,reduceEqDiff]
    exact hN144 _ _ ⟨hS142,by rw [yb hg145]; simp only [B0,reduceIte,reduceEqDiff],f139,f140⟩
   ·simp only [hg145,qc (g:=104),zy,qr,qb,zi,qa,qk,B0,reduceIte,reduceEqDiff]
    exact hN144 _ _ ⟨hS142,by rw [yc hg145]; simp only [B0,reduceIte,reduceEqDiff],f139,f140⟩
  rintro fr146 h150 ⟨hS151,f147,f148,f149⟩
  simp only [List.drop_succ_cons,List.drop_zero]
  simp only [f147,qg,B0,reduceIte,reduceEqDiff]
  obtain ⟨v155,hx156,hF157⟩:=qm hF
  refine zu 7 (fun fr' h'=>Sep h' (geL h.length) ([])∧fr' 116 = .bool v155) (fun Q152 hN153=>?_) ?_
  ·simp only [List.take_succ_cons,List.take_zero]
   simp only [qc (g:=109),B0,reduceIte,reduceEqDiff]
   refine qx (t:=((((decide (v_1.Broker=0))&&(decide (v_1.Epoch=0)))&&(decide (v_1.Part=0)))&&(decide (v_1.Stamp=0)))) (fun hg154=>?_)
     (fun hg154=>?_)
   ·rw [iteT hg154] at hx156
    simp only [hg154,qc (g:=109),qz,f149,qo,qb,Nat.reduceAdd,Nat.zero_add,Nat.add_zero,qq,ql,B0,reduceIte,reduceEqDiff]
    refine qi (v:=lst cI v_1.InStep) rfl ?_
    simp only [hg154,qc (g:=109),qz,f148,qo,qb,Nat.reduceAdd,Nat.zero_add,Nat.add_zero,qq,ql,B0,reduceIte,reduceEqDiff]
    refine qi (v:=lst qe v_0.Brokers) rfl ?_
    obtain ⟨v158,hx159,hF160⟩:=qm hx156
    simp only [hg154,qc (g:=109),qz,zr,qb,zx,zb,B0,reduceIte,reduceEqDiff]
    refine jc rfl (qn zo (qn qu zg)) (qc2 (fun b hb=>decide_eq_true hb) v_1.InStep (List.length v_0.Brokers:Int) v158 hx159) ?_
    simp only [hg154,qr,qb,zh,qa,qk,B0,reduceIte,reduceEqDiff]
    have e161:=qj hF160
    exact hN153 _ _ ⟨hS151,by rw [←e161]; simp only [B0,reduceIte,reduceEqDiff]⟩
   ·rw [iteF hg154] at hx156
    simp only [hg154,qc (g:=109),zy,qr,qb,zi,qa,qk,B0,reduceIte,reduceEqDiff]
    have e162:=qj hx156
    exact hN153 _ _ ⟨hS151,by rw [←e162]; simp only [B0,reduceIte,reduceEqDiff]⟩
  rintro fr163 h165 ⟨hS166,f164⟩
  simp only [List.drop_succ_cons,List.drop_zero]
  simp only [f164,qg,qa,q8,B0,reduceIte,reduceEqDiff]
  have he:=qj hF157
  subst he
  simp only [zc,B0,reduceIte,reduceEqDiff]
  exact rfl
 rw [iteF hc124] at hF
 simp only [qqm,qh,qf,qv,qb,z4,qg,qa,q4o,qy,B0,reduceIte,reduceEqDiff]
 refine qw (t:=(decide (v_1.Kind=5))) (fun hc167=>?_) (fun hc167=>?_)
 ·rw [iteT hc167] at hF
  simp only [q3n,qh,qf,qg,B0,reduceIte,reduceEqDiff]
  refine zu 4 (fun fr' h'=>Sep h' (geL h.length) ([])∧fr' 124 = .bool (((decide ((0:Int)≤v_1.Broker))&&(decide (v_1.Broker<(List.length v_0.Brokers:Int)))) &&
    (zn v_1.Epoch 0 1000))∧fr' 2 = .ref [lst qe v_0.Brokers,lst qd v_0.Parts,.int .i64 v_0.Next] 0∧fr' 3 = .ref [.int .i64 v_1.Kind,
    .int .i64 v_1.Broker,.int .i64 v_1.Epoch,.int .i64 v_1.Part,.int .i64 v_1.Stamp,lst cI v_1.InStep] 0) (fun Q168 hN169=>?_) ?_
  ·simp only [List.take_succ_cons,List.take_zero]
   simp only [qc (g:=120),B0,reduceIte,reduceEqDiff]
   refine qx (t:=((decide ((0:Int)≤v_1.Broker))&&(decide (v_1.Broker<(List.length v_0.Brokers:Int))))) (fun hg170=>?_) (fun hg170=>?_)
   ·simp only [hg170,qc (g:=120),qz,f19,qo,qb,Nat.reduceAdd,Nat.zero_add,Nat.add_zero,qq,ql,B0,reduceIte,reduceEqDiff]
    refine qi (v := .int .i64 v_1.Epoch) rfl ?_
    simp only [hg170,qc (g:=120),qz,zb,B0,reduceIte,reduceEqDiff]
    refine jc rfl (qn qu (qn qu (qn qu zg))) (wb (fun b hb=>decide_eq_true hb) v_1.Epoch 0 1000 _ rfl) ?_
    simp only [hg170,qr,qb,zh,qa,qk,B0,reduceIte,reduceEqDiff]
    exact hN169 _ _ ⟨hS21,by rw [yb hg170]; simp only [B0,reduceIte,reduceEqDiff],f18,f19⟩
   ·simp only [hg170,qc (g:=120),zy,qr,qb,zi,qa,qk,B0,reduceIte,reduceEqDiff]
    exact hN169 _ _ ⟨hS21,by rw [yc hg170]; simp only [B0,reduceIte,reduceEqDiff],f18,f19⟩
  rintro fr171 h175 ⟨hS176,f172,f173,f174⟩
  simp only [List.drop_succ_cons,List.drop_zero]
  simp only [f172,qg,B0,reduceIte,reduceEqDiff]
  refine zu 4 (fun fr' h'=>Sep h' (geL h.length) ([])∧fr' 129 = .bool ((((decide ((0:Int)≤v_1.Broker))&&(decide (v_1.Broker<(List.length v_0.Brokers:Int)))) &&
    (zn v_1.Epoch 0 1000))&&(zn v_1.Part 0 1000))∧fr' 2 = .ref [lst qe v_0.Brokers,lst qd v_0.Parts,
    .int .i64 v_0.Next] 0∧fr' 3 = .ref [.int .i64 v_1.Kind,.int .i64 v_1.Broker,.int .i64 v_1.Epoch,.int .i64 v_1.Part,.int .i64 v_1.Stamp,
    lst cI v_1.InStep] 0) (fun Q177 hN178=>?_) ?_
  ·simp only [List.take_succ_cons,List.take_zero]
   simp only [qc (g:=125),B0,reduceIte,reduceEqDiff]
   refine qx (t:=(((decide ((0:Int)≤v_1.Broker))&&(decide (v_1.Broker<(List.length v_0.Brokers:Int))))&&(zn v_1.Epoch 0 1000))) (fun hg179=>?_)
     (fun hg179=>?_)
   ·simp only [hg179,qc (g:=125),qz,f174,qo,qb,Nat.reduceAdd,Nat.zero_add,Nat.add_zero,qq,ql,B0,reduceIte,reduceEqDiff]
    refine qi (v := .int .i64 v_1.Part) rfl ?_
    simp only [hg179,qc (g:=125),qz,zb,B0,reduceIte,reduceEqDiff]
    refine jc rfl (qn qu (qn qu (qn qu zg))) (wb (fun b hb=>decide_eq_true hb) v_1.Part 0 1000 _ rfl) ?_
    simp only [hg179,qr,qb,zh,qa,qk,B0,reduceIte,reduceEqDiff]
    exact hN178 _ _ ⟨hS176,by rw [yb hg179]; simp only [B0,reduceIte,reduceEqDiff],f173,f174⟩
   ·simp only [hg179,qc (g:=125),zy,qr,qb,zi,qa,qk,B0,reduceIte,reduceEqDiff]
    exact hN178 _ _ ⟨hS176,by rw [yc hg179]; simp only [B0,reduceIte,reduceEqDiff],f173,f174⟩
  rintro fr180 h184 ⟨hS185,f181,f182,f183⟩
  simp only [List.drop_succ_cons,List.drop_zero]
  simp only [f181,qg,B0,reduceIte,reduceEqDiff]
  refine zu 4 (fun fr' h'=>Sep h' (geL h.length) ([])∧fr' 134 = .bool (((((decide ((0:Int)≤v_1.Broker))&&(decide (v_1.Broker <
    (List.length v_0.Brokers:Int))))&&(zn v_1.Epoch 0 1000))&&(zn v_1.Part 0 1000)) &&
    (zn v_1.Stamp 0 1000))∧fr' 2 = .ref [lst qe v_0.Brokers,lst qd v_0.Parts,.int .i64 v_0.Next] 0∧fr' 3 = .ref [.int .i64 v_1.Kind,
    .int .i64 v_1.Broker,.int .i64 v_1.Epoch,.int .i64 v_1.Part,.int .i64 v_1.Stamp,lst cI v_1.InStep] 0) (fun Q186 hN187=>?_) ?_
  ·simp only [List.take_succ_cons,List.take_zero]
   simp only [qc (g:=130),B0,reduceIte,reduceEqDiff]
   refine qx (t:=((((decide ((0:Int)≤v_1.Broker))&&(decide (v_1.Broker<(List.length v_0.Brokers:Int))))&&(zn v_1.Epoch 0 1000)) &&
     (zn v_1.Part 0 1000))) (fun hg188=>?_) (fun hg188=>?_)
   ·simp only [hg188,qc (g:=130),qz,f183,qo,qb,Nat.reduceAdd,Nat.zero_add,Nat.add_zero,qq,ql,B0,reduceIte,reduceEqDiff]
    refine qi (v := .int .i64 v_1.Stamp) rfl ?_
    simp only [hg188,qc (g:=130),qz,zb,B0,reduceIte,reduceEqDiff]
    refine jc rfl (qn qu (qn qu (qn qu zg))) (wb (fun b hb=>decide_eq_true hb) v_1.Stamp 0 1000 _ rfl) ?_
    simp only [hg188,qr,qb,zh,qa,qk,B0,reduceIte,reduceEqDiff]
    exact hN187 _ _ ⟨hS185,by rw [yb hg188]; simp only [B0,reduceIte,reduceEqDiff],f182,f183⟩
   ·simp only [hg188,qc (g:=130),zy,qr,qb,zi,qa,qk,B0,reduceIte,reduceEqDiff]
    exact hN187 _ _ ⟨hS185,by rw [yc hg188]; simp only [B0,reduceIte,reduceEqDiff],f182,f183⟩
  rintro fr189 h193 ⟨hS194,f190,f191,f192⟩
  simp only [List.drop_succ_cons,List.drop_zero]
  simp only [f190,qg,B0,reduceIte,reduceEqDiff]
  obtain ⟨v198,hx199,hF200⟩:=qm hF
  refine zu 7 (fun fr' h'=>Sep h' (geL h.length) ([])∧fr' 142 = .bool v198) (fun Q195 hN196=>?_) ?_
  ·simp only [List.take_succ_cons,List.take_zero]
   simp only [qc (g:=135),B0,reduceIte,reduceEqDiff]
   refine qx (t:=(((((decide ((0:Int)≤v_1.Broker))&&(decide (v_1.Broker<(List.length v_0.Brokers:Int))))&&(zn v_1.Epoch 0 1000)) &&
     (zn v_1.Part 0 1000))&&(zn v_1.Stamp 0 1000))) (fun hg197=>?_) (fun hg197=>?_)
   ·rw [iteT hg197] at hx199
    simp only [hg197,qc (g:=135),qz,f192,qo,qb,Nat.reduceAdd,Nat.zero_add,Nat.add_zero,qq,ql,B0,reduceIte,reduceEqDiff]
    refine qi (v:=lst cI v_1.InStep) rfl ?_
    simp only [hg197,qc (g:=135),qz,f191,qo,qb,Nat.reduceAdd,Nat.zero_add,Nat.add_zero,qq,ql,B0,reduceIte,reduceEqDiff]
    refine qi (v:=lst qe v_0.Brokers) rfl ?_
    obtain ⟨v201,hx202,hF203⟩:=qm hx199
    simp only [hg197,qc (g:=135),qz,zr,qb,zx,zb,B0,reduceIte,reduceEqDiff]
    refine jc rfl (qn zo (qn qu zg)) (qc2 (fun b hb=>decide_eq_true hb) v_1.InStep (List.length v_0.Brokers:Int) v201 hx202) ?_
    simp only [hg197,qr,qb,zh,qa,qk,B0,reduceIte,reduceEqDiff]
    have e204:=qj hF203
    exact hN196 _ _ ⟨hS194,by rw [←e204]; simp only [B0,reduceIte,reduceEqDiff]⟩
   ·rw [iteF hg197] at hx199
    simp only [hg197,qc (g:=135),zy,qr,qb,zi,qa,qk,B0,reduceIte,reduceEqDiff]
    have e205:=qj hx199
    exact hN196 _ _ ⟨hS194,by rw [←e205]; simp only [B0,reduceIte,reduceEqDiff]⟩
  rintro fr206 h208 ⟨hS209,f207⟩
  simp only [List.drop_succ_cons,List.drop_zero]
  simp only [f207,qg,qa,q8,B0,reduceIte,reduceEqDiff]
  have he:=qj hF200
  subst he
  simp only [zc,B0,reduceIte,reduceEqDiff]
  exact rfl
 rw [iteF hc167] at hF
 simp only [q2p,qh,qf,qv,qb,z4,qg,qa,qz1,qy,B0,reduceIte,reduceEqDiff]
 refine qw (t:=(decide (v_1.Kind=6))) (fun hc210=>?_) (fun hc210=>?_)
 ·rw [iteT hc210] at hF
  simp only [q3x,qh,qf,qg,B0,reduceIte,reduceEqDiff]
  refine zu 4 (fun fr' h'=>Sep h' (geL h.length) ([])∧fr' 150 = .bool (((decide ((0:Int)≤v_1.Broker))&&(decide (v_1.Broker<(List.length v_0.Brokers:Int)))) &&
    (decide (v_1.Epoch=0)))∧fr' 3 = .ref [.int .i64 v_1.Kind,.int .i64 v_1.Broker,.int .i64 v_1.Epoch,.int .i64 v_1.Part,.int .i64 v_1.Stamp,
    lst cI v_1.InStep] 0∧fr' 6 = .bool (decide ((List.length v_1.InStep:Int)=0))) (fun Q211 hN212=>?_) ?_
  ·simp only [List.take_succ_cons,List.take_zero]
   simp only [qc (g:=146),B0,reduceIte,reduceEqDiff]
   refine qx (t:=((decide ((0:Int)≤v_1.Broker))&&(decide (v_1.Broker<(List.length v_0.Brokers:Int))))) (fun hg213=>?_) (fun hg213=>?_)
   ·simp only [hg213,qc (g:=146),qz,f19,qo,qb,Nat.reduceAdd,Nat.zero_add,Nat.add_zero,qq,ql,B0,reduceIte,reduceEqDiff]
    refine qi (v := .int .i64 v_1.Epoch) rfl ?_
    simp only [hg213,qc (g:=146),qz,qv,qb,z4,qr,zh,qa,qk,B0,reduceIte,reduceEqDiff]
    exact hN212 _ _ ⟨hS21,by rw [yb hg213]; simp only [B0,reduceIte,reduceEqDiff],f19,rfl⟩
   ·simp only [hg213,qc (g:=146),zy,qr,qb,zi,qa,qk,B0,reduceIte,reduceEqDiff]
    exact hN212 _ _ ⟨hS21,by rw [yc hg213]; simp only [B0,reduceIte,reduceEqDiff],f19,rfl⟩
  rintro fr214 h218 ⟨hS219,f215,f216,f217⟩
  simp only [List.drop_succ_cons,List.drop_zero]
  simp only [f215,qg,B0,reduceIte,reduceEqDiff]
  refine zu 4 (fun fr' h'=>Sep h' (geL h.length) ([])∧fr' 155 = .bool ((((decide ((0:Int)≤v_1.Broker))&&(decide (v_1.Broker<(List.length v_0.Brokers:Int)))) &&
    (decide (v_1.Epoch=0)))&&(zn v_1.Part 0 1000))∧fr' 3 = .ref [.int .i64 v_1.Kind,.int .i64 v_1.Broker,.int .i64 v_1.Epoch,.int .i64 v_1.Part,
    .int .i64 v_1.Stamp,lst cI v_1.InStep] 0∧fr' 6 = .bool (decide ((List.length v_1.InStep:Int)=0))) (fun Q220 hN221=>?_) ?_
  ·simp only [List.take_succ_cons,List.take_zero]
   simp only [qc (g:=151),B0,reduceIte,reduceEqDiff]
   refine qx (t:=(((decide ((0:Int)≤v_1.Broker))&&(decide (v_1.Broker<(List.length v_0.Brokers:Int))))&&(decide (v_1.Epoch=0)))) (fun hg222=>?_)
     (fun hg222=>?_)
   ·simp only [hg222,qc (g:=151),qz,f216,qo,qb,Nat.reduceAdd,Nat.zero_add,Nat.add_zero,qq,ql,B0,reduceIte,reduceEqDiff]
    refine qi (v := .int .i64 v_1.Part) rfl ?_
    simp only [hg222,qc (g:=151),qz,zb,B0,reduceIte,reduceEqDiff]
    refine jc rfl (qn qu (qn qu (qn qu zg))) (wb (fun b hb=>decide_eq_true hb) v_1.Part 0 1000 _ rfl) ?_
    simp only [hg222,qr,qb,zh,qa,qk,B0,reduceIte,reduceEqDiff]
    exact hN221 _ _ ⟨hS219,by rw [yb hg222]; simp only [B0,reduceIte,reduceEqDiff],f216,f217⟩
   ·simp only [hg222,qc (g:=151),zy,qr,qb,zi,qa,qk,B0,reduceIte,reduceEqDiff]
    exact hN221 _ _ ⟨hS219,by rw [yc hg222]; simp only [B0,reduceIte,reduceEqDiff],f216,f217⟩
  rintro fr223 h227 ⟨hS228,f224,f225,f226⟩
  simp only [List.drop_succ_cons,List.drop_zero]
  simp only [f224,qg,B0,reduceIte,reduceEqDiff]
  refine zu 4 (fun fr' h'=>Sep h' (geL h.length) ([])∧fr' 160 = .bool (((((decide ((0:Int)≤v_1.Broker))&&(decide (v_1.Broker <
    (List.length v_0.Brokers:Int))))&&(decide (v_1.Epoch=0)))&&(zn v_1.Part 0 1000))&&(decide (v_1.Stamp=0)))∧fr' 6 = .bool (decide
    ((List.length v_1.InStep:Int)=0))) (fun Q229 hN230=>?_) ?_
  ·simp only [List.take_succ_cons,List.take_zero]
   simp only [qc (g:=156),B0,reduceIte,reduceEqDiff]
   refine qx (t:=((((decide ((0:Int)≤v_1.Broker))&&(decide (v_1.Broker<(List.length v_0.Brokers:Int))))&&(decide (v_1.Epoch=0))) &&
     (zn v_1.Part 0 1000))) (fun hg231=>?_) (fun hg231=>?_)
   ·simp only [hg231,qc (g:=156),qz,f225,qo,qb,Nat.reduceAdd,Nat.zero_add,Nat.add_zero,qq,ql,B0,reduceIte,reduceEqDiff]
    refine qi (v := .int .i64 v_1.Stamp) rfl ?_
    simp only [hg231,qc (g:=156),qz,qv,qb,z4,qr,zh,qa,qk,B0,reduceIte,reduceEqDiff]
    exact hN230 _ _ ⟨hS228,by rw [yb hg231]; simp only [B0,reduceIte,reduceEqDiff],f226⟩
   ·simp only [hg231,qc (g:=156),zy,qr,qb,zi,qa,qk,B0,reduceIte,reduceEqDiff]
    exact hN230 _ _ ⟨hS228,by rw [yc hg231]; simp only [B0,reduceIte,reduceEqDiff],f226⟩
  rintro fr232 h235 ⟨hS236,f233,f234⟩
  simp only [List.drop_succ_cons,List.drop_zero]
  simp only [f233,qg,B0,reduceIte,reduceEqDiff]
  refine zu 2 (fun fr' h'=>Sep h' (geL h.length) ([])∧fr' 163 = .bool ((((((decide ((0:Int)≤v_1.Broker))&&(decide (v_1.Broker <
    (List.length v_0.Brokers:Int))))&&(decide (v_1.Epoch=0)))&&(zn v_1.Part 0 1000))&&(decide (v_1.Stamp=0)))&&(decide
    ((List.length v_1.InStep:Int)=0)))) (fun Q237 hN238=>?_) ?_
  ·simp only [List.take_succ_cons,List.take_zero]
   simp only [qc (g:=161),B0,reduceIte,reduceEqDiff]
   refine qx (t:=(((((decide ((0:Int)≤v_1.Broker))&&(decide (v_1.Broker<(List.length v_0.Brokers:Int))))&&(decide (v_1.Epoch=0))) &&
     (zn v_1.Part 0 1000))&&(decide (v_1.Stamp=0)))) (fun hg239=>?_) (fun hg239=>?_)
   ·simp only [hg239,qc (g:=161),qz,f234,qg,qr,qb,zh,qa,qk,B0,reduceIte,reduceEqDiff]
    exact hN238 _ _ ⟨hS236,by rw [yb hg239]; simp only [B0,reduceIte,reduceEqDiff]⟩
   ·simp only [hg239,qc (g:=161),zy,qr,qb,zi,qa,qk,B0,reduceIte,reduceEqDiff]
    exact hN238 _ _ ⟨hS236,by rw [yc hg239]; simp only [B0,reduceIte,reduceEqDiff]⟩
  rintro fr240 h242 ⟨hS243,f241⟩
  simp only [List.drop_succ_cons,List.drop_zero]
  simp only [f241,qg,qa,q8,B0,reduceIte,reduceEqDiff]
  have he:=qj hF
  subst he
  simp only [zc,B0,reduceIte,reduceEqDiff]
  exact rfl
 rw [iteF hc210] at hF
 simp only [ze,xd,qh,qf,qg,qa,q8,B0,reduceIte,reduceEqDiff]
 have he:=qj hF
 subst he
 simp only [zc,B0,reduceIte,reduceEqDiff]
 exact rfl
end Go.Proofs.Ytjloihcijdcpeaa.X
