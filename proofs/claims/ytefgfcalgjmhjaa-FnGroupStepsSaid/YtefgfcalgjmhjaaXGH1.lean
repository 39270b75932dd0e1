/- The functions' code comes to what the plain functions say (1). -/
import Derived.Test.YtefgfcalgjmhjaaXGF
import Derived.Test.YtefgfcalgjmhjaaXGD
set_option linter.unusedVariables false
set_option linter.unusedSimpArgs false
set_option maxRecDepth 100000
namespace Go.Proofs.Ytefgfcalgjmhjaa.X
open Go
open Nat (reduceEqDiff)
def Replica.R:Rep Replica:=fun x cs os=>∃ (v0:XV) (c0:List Obj),SlF Row.cells 2 98 v0 x.Log c0∧cs=[v0,.int .i64 x.Epoch,.int .i64 x.Known]∧c0=os
theorem Replica.RI {x:Replica}{v0:XV}{c0:List Obj}(h0:SlF Row.cells 2 98 v0 x.Log c0) : Replica.R x [v0,.int .i64 x.Epoch,.int .i64 x.Known] (c0):=⟨v0,c0,h0,rfl,
  rfl⟩
theorem Replica.RO:RepOk E.sz Replica.R Replica.cells 3 where
 len:=fun {x cs os} H=>by
  obtain ⟨v0,c0,h0,rfl,rfl⟩:=H
  rfl
 flen:=fun _=>rfl
 one:=fun {x cs os} H=>by
  obtain ⟨v0,c0,h0,rfl,rfl⟩:=H
  exact (qk (SlF.one h0) (qk rfl (qk rfl zn)))
 snap:=fun {x cs os h lo S} m H hS=>by
  obtain ⟨v0,c0,h0,rfl,rfl⟩:=H
  have hS2:Sep h lo (c0++S):=(by simpa only [List.append_assoc] using hS)
  exact (qh (SlF.snap h0 hS2 rfl (fun _=>rfl) (fun _=>rfl)) (qh qm (qh qm qz)))
 cut:=fun {x cs os h lo n0 keep S} m H hS hge=>by
  obtain ⟨v0,c0,h0,rfl,rfl⟩:=H
  have hS2:Sep h lo (c0++S):=(by simpa only [List.append_assoc] using hS)
  exact (qh (SlF.cut h0 hS2 hge rfl (fun _=>rfl) (fun _=>rfl)) (qh rfl (qh rfl qz)))
 free:=fun {x cs os} H=>by
  obtain ⟨v0,c0,h0,rfl,rfl⟩:=H
  exact (qk (SlF.free1 h0) (qk rfl (qk rfl zn)))
 pf:=fun {x cs os} H=>by
  obtain ⟨v0,c0,h0,rfl,rfl⟩:=H
  exact (SlF.pf h0 (fun _=>rfl))
theorem qhy {W:Nat→Bool}{h:Heap}{lo:Nat→Prop}{S0:List Obj} (hW:∀ b,
  lo b→W b=true) (pv0:XV) (pc0:List Obj) (s_0:List Int) (ph0:SlF cI 1 3 pv0 s_0 pc0) (i_1:Int) (pv2:XV) (pc2:List Obj) (v_2:List Int)
  (ph2:SlF cI 1 3 pv2 v_2 pc2) (r:List Int × List Int) (hF:qdb s_0 i_1 v_2=some r) (hS:Sep h lo (pc0++(pc2++S0))) : Ret E W 91 [pv0,.int .i64 i_1,
  pv2] h (fun v h'=>∃ rv0 rc0 ic2,v=rv0∧SlF cI 1 3 rv0 r.1 rc0∧SlF cI 1 3 pv2 r.2 ic2∧Sep h' lo (rc0++(ic2++S0))):=q6l rfl rfl hW ph0 ph2 hF hS
theorem qab {W:Nat→Bool}{h:Heap} (hW:∀ b,
  (geL h.length) b→W b=true) (n_0:Int) (lo_1:Int) (hi_2:Int) (r:Bool) (hF:some (z9 n_0 lo_1 hi_2)=some r) : Ret E W 72 [.int .i64 n_0,.int .i64 lo_1,
  .int .i64 hi_2] h (fun v h'=>cut h.length h' E.sz false 9 v=some (.bool r)):=by
 refine Ret.of (fn:=x72) rfl (Run.of ?_)
 unfold z9 at hF
 have zf0:ze [.int .i64 n_0,.int .i64 lo_1,.int .i64 hi_2] 0 = .int .i64 n_0:=rfl
 have zf1:ze [.int .i64 n_0,.int .i64 lo_1,.int .i64 hi_2] 1 = .int .i64 lo_1:=rfl
 have zf2:ze [.int .i64 n_0,.int .i64 lo_1,.int .i64 hi_2] 2 = .int .i64 hi_2:=rfl
 generalize ze [.int .i64 n_0,.int .i64 lo_1,.int .i64 hi_2]=fr0 at zf0 zf1 zf2 ⊢
 have hS:Sep h (geL h.length) []:=Sep.nil h
 simp only [x72,qe,qd,qc,qa,qzj,zf0,zf1,q9,qb,qht,B0,reduceIte,reduceEqDiff]
 refine ji 4 (fun fr' h'=>Sep h' (geL h.length) ([])∧fr' 14 = .bool ((decide (lo_1≤n_0))&&(decide (n_0≤hi_2)))) (fun Q1 hN2=>?_) ?_
 ·simp only [List.take_succ_cons,List.take_zero]
  simp only [qf (g:=10),B0,reduceIte,reduceEqDiff]
  refine zf (t:=(decide (lo_1≤n_0))) (fun hg3=>?_) (fun hg3=>?_)
  ·simp only [hg3,qf (g:=10),zl,zf0,qc,zf2,q9,qb,qi8,qt,zh,qa,qo,B0,reduceIte,reduceEqDiff]
   exact hN2 _ _ ⟨hS,by rw [xd hg3]; simp only [B0,reduceIte,reduceEqDiff]⟩
  ·simp only [hg3,qf (g:=10),jo,qt,qb,zi,qa,qo,B0,reduceIte,reduceEqDiff]
   exact hN2 _ _ ⟨hS,by rw [xe hg3]; simp only [B0,reduceIte,reduceEqDiff]⟩
 rintro fr4 h6 ⟨hS7,f5⟩
 simp only [List.drop_succ_cons,List.drop_zero]
 simp only [f5,qc,qa,q8,B0,reduceIte,reduceEqDiff]
 have he:=ql hF
 subst he
 simp only [zj,B0,reduceIte,reduceEqDiff]
 exact rfl
theorem qk3 {W:Nat→Bool}{h:Heap} (hW:∀ b,
  (geL h.length) b→W b=true) (l_0:List Int) (many_1:Int) (r:Bool) (hF:qcp l_0 many_1=some r) : Ret E W 73 [lst cI l_0,
  .int .i64 many_1] h (fun v h'=>cut h.length h' E.sz false 9 v=some (.bool r)):=by
 refine Ret.of (fn:=x73) rfl (Run.of ?_)
 unfold qcp at hF
 have zf0:ze [lst cI l_0,.int .i64 many_1] 0=lst cI l_0:=rfl
 have zf1:ze [lst cI l_0,.int .i64 many_1] 1 = .int .i64 many_1:=rfl
 generalize ze [lst cI l_0,.int .i64 many_1]=fr0 at zf0 zf1 ⊢
 have hS:Sep h (geL h.length) []:=Sep.nil h
 simp only [x73,qe,qd,qc,qa,q0g,zf0,jb,qb,jl,B0,reduceIte,reduceEqDiff]
 obtain ⟨oc3,hX5,hk6⟩:=kq hF
 simp only [q2k]
 refine xl (σ:=Unit) l_0 (fun i1 x2 _=>qcd l_0 many_1 i1 x2 ) (fun s fr' h'=>fr' 0=lst cI l_0∧fr' 1 = .int .i64 many_1∧fr' 7=lst cI l_0∧Sep h'
   (geL h.length) ([])) hX5 ⟨zf0,zf1,rfl,hS⟩ (by simp only [B0,reduceIte,reduceEqDiff]) (by simp only [B0,reduceIte,
   reduceEqDiff]) (fun _ _ _ h=>h) rfl rfl (fun _ _ _ _ h=>h) (fun _ _ _ _ h=>h) (fun _ _ _ _ h=>h) (by decide) ?_ ?_
 ·rintro i1 x2 _ fr15 h16 hx21 ⟨f18,f19,f20,hS17⟩ f22 f23 oc4 hF7 hr8 Q9 hN10 hB14 hK11 hR12 hE13
  unfold qcd at hF7
  simp only [qxy,qe,qd,f22,qc,f20,j0,B0,reduceIte,reduceEqDiff]
  refine qj (v := .ref (cI x2) 0) (xw hx21 rfl) ?_
  simp only [qp,B0,reduceIte,reduceEqDiff]
  refine qj (v := .int .i64 x2) rfl ?_
  simp only [qc,qa,q2p,qe,qd,q9,qb,u0,B0,reduceIte,reduceEqDiff]
  refine ji 4 (fun fr' h'=>Sep h' (geL h.length) ([])∧fr' 20 = .bool ((decide (x2<0))||(decide
    (many_1≤x2)))∧fr' 0=lst cI l_0∧fr' 1 = .int .i64 many_1∧fr' 5 = .int .i64 (i1:Int)∧fr' 6 = .int .i64 x2∧fr' 7=lst cI l_0∧fr' 8 = .int .i64
    (List.length l_0:Int)∧fr' 9 = .int .i64 (i1:Int)) (fun Q24 hN25=>?_) ?_
  ·simp only [List.take_succ_cons,List.take_zero]
   simp only [qf (g:=16),B0,reduceIte,reduceEqDiff]
   refine zf (t:=(decide (x2<0))) (fun hg26=>?_) (fun hg26=>?_)
   ·simp only [hg26,qf (g:=16),jf,qt,qb,zh,qa,qo,B0,reduceIte,reduceEqDiff]
    exact hN25 _ _ ⟨hS17,by rw [orT hg26]; simp only [B0,reduceIte,reduceEqDiff],f18,f19,rfl,rfl,f20,f23,f22⟩
   ·simp only [hg26,qf (g:=16),qv,qc,f19,q9,qb,qht,qt,zi,qa,qo,B0,reduceIte,reduceEqDiff]
    exact hN25 _ _ ⟨hS17,by rw [orF hg26]; simp only [B0,reduceIte,reduceEqDiff],f18,f19,rfl,rfl,f20,f23,f22⟩
  rintro fr27 h36 ⟨hS37,f28,f29,f30,f31,f32,f33,f34,f35⟩
  simp only [List.drop_succ_cons,List.drop_zero]
  simp only [f28,qc,B0,reduceIte,reduceEqDiff]
  obtain ⟨v41,hx42,hF43⟩:=qi hF7
  refine ji 12 (fun fr' h'=>Sep h' (geL h.length) ([])∧fr' 33 = .bool v41∧fr' 0=lst cI l_0∧fr' 1 = .int .i64 many_1∧fr' 7=lst cI l_0∧fr' 8 = .int .i64
    (List.length l_0:Int)∧fr' 9 = .int .i64 (i1:Int)) (fun Q38 hN39=>?_) ?_
  ·simp only [List.take_succ_cons,List.take_zero]
   simp only [qf (g:=21),B0,reduceIte,reduceEqDiff]
   refine zf (t:=((decide (x2<0))||(decide (many_1≤x2)))) (fun hg40=>?_) (fun hg40=>?_)
   ·rw [iteT hg40] at hx42
    simp only [hg40,qf (g:=21),jf,qf (g:=24),qgi,qt,qb,zh,qa,qo,B0,reduceIte,reduceEqDiff]
    have e44:=ql hx42
    exact hN39 _ _ ⟨hS37,by rw [←e44]; simp only [B0,reduceIte,reduceEqDiff],f29,f30,f33,f34,f35⟩
   ·rw [iteF hg40] at hx42
    simp only [hg40,qf (g:=21),qv,f31,qc,q9,qb,qcv,B0,reduceIte,reduceEqDiff]
    obtain ⟨v48,hx49,hF50⟩:=qi hx42
    refine ji 8 (fun fr' h'=>Sep h' (geL h.length) ([])∧fr' 32 = .bool v48∧fr' 0=lst cI l_0∧fr' 1 = .int .i64 many_1∧fr' 7=lst cI l_0∧fr' 8 = .int .i64
      (List.length l_0:Int)∧fr' 9 = .int .i64 (i1:Int)∧fr' 21 = .bool ((decide (x2<0))||(decide (many_1≤x2)))) (fun Q45 hN46=>?_) ?_
    ·simp only [List.take_succ_cons,List.take_zero]
     simp only [qf (g:=24),B0,reduceIte,reduceEqDiff]
     refine zf (t:=(decide ((0:Int)<(i1:Int)))) (fun hg47=>?_) (fun hg47=>?_)
     ·rw [iteT hg47] at hx49
      obtain ⟨x51,hx52,hF53⟩:=qi hx49
      simp only [hg47,qf (g:=24),zl,f29,qc,f31,q9,qb,qdd,j0,B0,reduceIte,reduceEqDiff]
      refine qj (v := .ref (cI x51) 0) (kz hx52 rfl) ?_
      simp only [hg47,qf (g:=24),zl,qp,B0,reduceIte,reduceEqDiff]
      refine qj (v := .int .i64 x51) rfl ?_
      simp only [hg47,qf (g:=24),zl,f32,qc,q9,qb,qht,hg40,qf (g:=21),qv,qt,zh,qa,
        qo,B0,reduceIte,reduceEqDiff]
      have e54:=ql hF53
      exact hN46 _ _ ⟨hS37,by rw [←e54]; simp only [B0,reduceIte,reduceEqDiff],f29,f30,f33,f34,f35,by simp only [hg40,B0,reduceIte,reduceEqDiff]⟩
     ·rw [iteF hg47] at hx49
      simp only [hg47,qf (g:=24),jo,hg40,qf (g:=21),qv,qt,qb,zi,qa,qo,B0,reduceIte,
        reduceEqDiff]
      have e55:=ql hx49
      exact hN46 _ _ ⟨hS37,by rw [←e55]; simp only [B0,reduceIte,reduceEqDiff],f29,f30,f33,f34,f35,by simp only [hg40,B0,reduceIte,reduceEqDiff]⟩
    rintro fr56 h64 ⟨hS65,f57,f58,f59,f60,f61,f62,f63⟩
    simp only [List.drop_succ_cons,List.drop_zero]
    simp only [f63,hg40,qt,qb,zi,f57,qa,qo,B0,reduceIte,reduceEqDiff]
    have e66:=ql hF50
    exact hN39 _ _ ⟨hS65,by rw [←e66]; simp only [B0,reduceIte,reduceEqDiff],f58,f59,f60,f61,f62⟩
  rintro fr67 h74 ⟨hS75,f68,f69,f70,f71,f72,f73⟩
  simp only [List.drop_succ_cons,List.drop_zero]
  simp only [qa,f68,zb,B0,reduceIte,reduceEqDiff]
  refine zd (t:=v41) (fun hc76=>?_) (fun hc76=>?_)
  ·rw [iteT hc76] at hF43
   simp only [qe,qd,qc,qa,q8,B0,reduceIte,reduceEqDiff]
   have e77:=ql hF43
   subst e77
   have ho78:=hr8 _ rfl
   have hk79:=hk6
   rw [ho78] at hk79
   dsimp only [jnO] at hk79
   apply hR12
   have he:=ql hk79
   subst he
   simp only [zj,B0,reduceIte,reduceEqDiff]
   exact rfl
  rw [iteF hc76] at hF43
  simp only [zk,qo,B0,reduceIte,reduceEqDiff]
  have e80:=ql hF43
  exact hN10 _ _ _ e80.symm ⟨f69,f70,f71,hS75⟩ (f73) (f72)
 rintro _ fr82 h83 rfl ⟨f85,f86,f87,hS84⟩
 dsimp only [jnO] at hk6
 unfold qgn at hk6
 simp only [qe,qd,qc,qa,q8,B0,reduceIte,reduceEqDiff]
 have he:=ql hk6
 subst he
 simp only [zj,B0,reduceIte,reduceEqDiff]
 exact rfl
theorem qfs {W:Nat→Bool}{h:Heap} (hW:∀ b,
  (geL h.length) b→W b=true) (l_0:List Int) (n_1:Int) (r:Bool) (hF:qb2 l_0 n_1=some r) : Ret E W 74 [lst cI l_0,
  .int .i64 n_1] h (fun v h'=>cut h.length h' E.sz false 9 v=some (.bool r)):=by
 refine Ret.of (fn:=x74) rfl (Run.of ?_)
 unfold qb2 at hF
 have zf0:ze [lst cI l_0,.int .i64 n_1] 0=lst cI l_0:=rfl
 have zf1:ze [lst cI l_0,.int .i64 n_1] 1 = .int .i64 n_1:=rfl
 generalize ze [lst cI l_0,.int .i64 n_1]=fr0 at zf0 zf1 ⊢
 have hS:Sep h (geL h.length) []:=Sep.nil h
 simp only [x74,qe,qd,qc,qa,qx5,zf0,jb,qb,jl,B0,reduceIte,reduceEqDiff]
 obtain ⟨oc3,hX5,hk6⟩:=kq hF
 simp only [q3f]
 refine xl (σ:=Unit) l_0 (fun i1 x2 _=>qdh n_1 i1 x2 ) (fun s fr' h'=>fr' 1 = .int .i64 n_1∧fr' 7=lst cI l_0∧Sep h' (geL h.length) ([])) hX5 ⟨zf1,
   rfl,hS⟩ (by simp only [B0,reduceIte,reduceEqDiff]) (by simp only [B0,reduceIte,
   reduceEqDiff]) (fun _ _ _ h=>h) rfl rfl (fun _ _ _ _ h=>h) (fun _ _ _ _ h=>h) (fun _ _ _ _ h=>h) (by decide) ?_ ?_
 ·rintro i1 x2 _ fr15 h16 hx20 ⟨f18,f19,hS17⟩ f21 f22 oc4 hF7 hr8 Q9 hN10 hB14 hK11 hR12 hE13
  unfold qdh at hF7
  simp only [qz3,qe,qd,f19,f21,j0,B0,reduceIte,reduceEqDiff]
  refine qj (v := .ref (cI x2) 0) (xw hx20 rfl) ?_
  simp only [qp,B0,reduceIte,reduceEqDiff]
  refine qj (v := .int .i64 x2) rfl ?_
  simp only [qc,qa,q1t,qe,qd,f18,q9,qb,yd,zb,B0,reduceIte,reduceEqDiff]
  refine zd (t:=(decide (x2=n_1))) (fun hc23=>?_) (fun hc23=>?_)
  ·rw [iteT hc23] at hF7
   simp only [qe,qd,qc,qa,q8,B0,reduceIte,reduceEqDiff]
   have e24:=ql hF7
   subst e24
   have ho25:=hr8 _ rfl
   have hk26:=hk6
   rw [ho25] at hk26
   dsimp only [jnO] at hk26
   apply hR12
   have he:=ql hk26
   subst he
   simp only [zj,B0,reduceIte,reduceEqDiff]
   exact rfl
  rw [iteF hc23] at hF7
  simp only [zk,qo,B0,reduceIte,reduceEqDiff]
  have e27:=ql hF7
  exact hN10 _ _ _ e27.symm ⟨f18,f19,hS17⟩ (f21) (f22)
 rintro _ fr29 h30 rfl ⟨f32,f33,hS31⟩
 dsimp only [jnO] at hk6
 unfold qhv at hk6
 simp only [qe,qd,qc,qa,q8,B0,reduceIte,reduceEqDiff]
 have he:=ql hk6
 subst he
 simp only [zj,B0,reduceIte,reduceEqDiff]
 exact rfl
theorem qlp {W:Nat→Bool}{h:Heap} (hW:∀ b,
  (geL h.length) b→W b=true) (l_0:List Row) (epoch_1:Int) (r:Bool) (hF:qde l_0 epoch_1=some r) : Ret E W 75 [lst Row.cells l_0,
  .int .i64 epoch_1] h (fun v h'=>cut h.length h' E.sz false 9 v=some (.bool r)):=by
 refine Ret.of (fn:=x75) rfl (Run.of ?_)
 unfold qde at hF
 have zf0:ze [lst Row.cells l_0,.int .i64 epoch_1] 0=lst Row.cells l_0:=rfl
 have zf1:ze [lst Row.cells l_0,.int .i64 epoch_1] 1 = .int .i64 epoch_1:=rfl
 generalize ze [lst Row.cells l_0,.int .i64 epoch_1]=fr0 at zf0 zf1 ⊢
 have hS:Sep h (geL h.length) []:=Sep.nil h
 simp only [x75,qe,qd,qc,qa,qwe,zf0,jb,qb,jl,B0,reduceIte,reduceEqDiff]
 obtain ⟨oc3,hX5,hk6⟩:=kq hF
 simp only [qy7]
 refine xl (σ:=Unit) l_0 (fun i1 x2 _=>qcx l_0 epoch_1 i1 x2 )
   (fun s fr' h'=>fr' 0=lst Row.cells l_0∧fr' 1 = .int .i64 epoch_1∧fr' 7=lst Row.cells l_0∧Sep h' (geL h.length) ([])) hX5 ⟨zf0,zf1,rfl,hS⟩ (by simp only [B0,
   reduceIte,reduceEqDiff]) (by simp only [B0,reduceIte,
   reduceEqDiff]) (fun _ _ _ h=>h) rfl rfl (fun _ _ _ _ h=>h) (fun _ _ _ _ h=>h) (fun _ _ _ _ h=>h) (by decide) ?_ ?_
 ·rintro i1 x2 _ fr15 h16 hx21 ⟨f18,f19,f20,hS17⟩ f22 f23 oc4 hF7 hr8 Q9 hN10 hB14 hK11 hR12 hE13
  unfold qcx at hF7
  simp only [q25,qe,qd,f22,qc,f20,j0,B0,reduceIte,reduceEqDiff]
  refine qj (v := .ref (Row.cells x2) 0) (xw hx21 rfl) ?_
  simp only [qp,B0,reduceIte,reduceEqDiff]
  refine qj (v := .agg [.int .i64 x2.Epoch,.int .i64 x2.Value]) rfl ?_
  simp only [je,B0,reduceIte,reduceEqDiff]
  refine zt hS17 (fun b24 h25 hS26=>?_)
  simp only [qc,zg,B0,reduceIte,reduceEqDiff]
  refine qy (us:=[.int .i64 x2.Epoch,.int .i64 x2.Value]) rfl (cs':=[.int .i64 x2.Epoch,
    .int .i64 x2.Value]) hS26 hW rfl rfl (Nat.le_of_ble_eq_true rfl) rfl (fun h28 hS29=>?_)
  simp only [qa,B0,reduceIte,reduceEqDiff]
  refine zz hS29 hW (by simp only [B0,reduceIte,reduceEqDiff]) (fun h30 hS31=>?_)
  simp only [zw,q04,qe,jh,zq,qg,Nat.reduceAdd,Nat.zero_add,Nat.add_zero,qr,zm,B0,reduceIte,reduceEqDiff]
  refine qq (v := .int .i64 x2.Epoch) rfl ?_
  simp only [f19,zp,qg,k8,B0,reduceIte,reduceEqDiff]
  refine qbm rfl (qh qm (qh qm (qh qm qz))) (qab (fun b hb=>decide_eq_true hb) x2.Epoch 0 epoch_1 _ rfl) ?_
  simp only [qer,qg,kx,zp,B0,reduceIte,reduceEqDiff]
  simp only [qn (g:=19),B0,reduceIte,reduceEqDiff]
  refine jg (t:=(!(z9 x2.Epoch 0 epoch_1))) (fun hg32=>?_) (fun hg32=>?_)
  ·rw [iteT hg32] at hF7
   simp only [hg32,qn (g:=19),wt,z8,qg,zh,zp,qn (g:=25),qn (g:=28),qd3,qu,zb,
     qco,qe,qd,qc,qa,q8,B0,reduceIte,reduceEqDiff]
   have e33:=ql hF7
   subst e33
   have ho34:=hr8 _ rfl
   have hk35:=hk6
   rw [ho34] at hk35
   dsimp only [jnO] at hk35
   apply hR12
   have he:=ql hk35
   subst he
   simp only [zj,B0,reduceIte,reduceEqDiff]
   exact rfl
  rw [iteF hg32] at hF7
  simp only [hg32,qn (g:=19),zr,zq,qg,Nat.reduceAdd,Nat.zero_add,Nat.add_zero,qr,zm,B0,reduceIte,reduceEqDiff]
  refine qq (v := .int .i64 x2.Value) rfl ?_
  simp only [hg32,qn (g:=19),zr,k8,B0,reduceIte,reduceEqDiff]
  refine qbm rfl (qh qm (qh qm (qh qm qz))) (qab (fun b hb=>decide_eq_true hb) x2.Value 0 99 _ rfl) ?_
  simp only [hg32,qn (g:=19),zr,qer,qg,kx,z8,zi,zp,B0,reduceIte,reduceEqDiff]
  obtain ⟨v39,hx40,hF41⟩:=qi hF7
  refine qak 14 (fun fr' h'=>Sep h' (geL h.length)
    ([])∧fr' 39 = .bool v39∧fr' 0=lst Row.cells l_0∧fr' 1 = .int .i64 epoch_1∧fr' 7=lst Row.cells l_0∧fr' 8 = .int .i64
    (List.length l_0:Int)∧fr' 9 = .int .i64 (i1:Int)) rfl (fun Q36 hN37=>?_) ?_
  ·simp only [List.take_succ_cons,List.take_zero]
   simp only [qn (g:=25),B0,reduceIte,reduceEqDiff]
   refine jg (t:=(!(z9 x2.Value 0 99))) (fun hg38=>?_) (fun hg38=>?_)
   ·rw [iteT hg38] at hx40
    simp only [hg38,qn (g:=25),wt,qn (g:=28),qd3,z8,qg,zh,qu,qo,B0,reduceIte,reduceEqDiff]
    have e42:=ql hx40
    exact hN37 _ _ ⟨hS31,by rw [←e42]; simp only [B0,reduceIte,reduceEqDiff],f18,f19,f20,f23,f22⟩
   ·rw [iteF hg38] at hx40
    simp only [hg38,qn (g:=25),zr,zp,qg,kh,qcv,B0,reduceIte,reduceEqDiff]
    obtain ⟨v46,hx47,hF48⟩:=qi hx40
    refine qak 10 (fun fr' h'=>Sep h' (geL h.length)
      ([])∧fr' 38 = .bool v46∧fr' 0=lst Row.cells l_0∧fr' 1 = .int .i64 epoch_1∧fr' 7=lst Row.cells l_0∧fr' 8 = .int .i64
      (List.length l_0:Int)∧fr' 9 = .int .i64 (i1:Int)∧fr' 25 = .bool (!(z9 x2.Value 0 99))) rfl (fun Q43 hN44=>?_) ?_
    ·simp only [List.take_succ_cons,List.take_zero]
     simp only [qn (g:=28),B0,reduceIte,reduceEqDiff]
     refine jg (t:=(decide ((0:Int)<(i1:Int)))) (fun hg45=>?_) (fun hg45=>?_)
     ·rw [iteT hg45] at hx47
      obtain ⟨x49,hx50,hF51⟩:=qi hx47
      simp only [hg45,qn (g:=28),zc,f18,zp,qg,kh,qdd,wo,B0,reduceIte,reduceEqDiff]
      refine qq (v := .ref (Row.cells x49) 0) (kz hx50 rfl) ?_
      simp only [hg45,qn (g:=28),zc,zq,qg,Nat.reduceAdd,Nat.zero_add,Nat.add_zero,qr,zm,B0,reduceIte,reduceEqDiff]
      refine qq (v := .int .i64 x49.Epoch) rfl ?_
      simp only [hg45,qn (g:=28),zc,zq,qg,Nat.reduceAdd,Nat.zero_add,Nat.add_zero,qr,zm,B0,reduceIte,reduceEqDiff]
      refine qq (v := .int .i64 x2.Epoch) rfl ?_
      simp only [hg45,qn (g:=28),zc,kh,qg,qcv,hg38,qn (g:=25),zr,z8,zh,qu,qo,B0,
        reduceIte,reduceEqDiff]
      have e52:=ql hF51
      exact hN44 _ _ ⟨hS31,by rw [←e52]; simp only [B0,reduceIte,reduceEqDiff],f18,f19,f20,f23,f22,by simp only [hg38,B0,reduceIte,reduceEqDiff]⟩
     ·rw [iteF hg45] at hx47
      simp only [hg45,qn (g:=28),ky,hg38,qn (g:=25),zr,z8,qg,zi,qu,qo,B0,reduceIte,
        reduceEqDiff]
      have e53:=ql hx47
      exact hN44 _ _ ⟨hS31,by rw [←e53]; simp only [B0,reduceIte,reduceEqDiff],f18,f19,f20,f23,f22,by simp only [hg38,B0,reduceIte,reduceEqDiff]⟩
    rintro fr54 h62 ⟨hS63,f55,f56,f57,f58,f59,f60,f61⟩
    simp only [List.drop_succ_cons,List.drop_zero]
    simp only [f61,hg38,z8,qg,zi,f55,qu,qo,B0,reduceIte,reduceEqDiff]
    have e64:=ql hF48
    exact hN37 _ _ ⟨hS63,by rw [←e64]; simp only [B0,reduceIte,reduceEqDiff],f56,f57,f58,f59,f60⟩
  rintro fr65 h72 ⟨hS73,f66,f67,f68,f69,f70,f71⟩
  simp only [List.drop_succ_cons,List.drop_zero]
  simp only [qu,f66,zb,B0,reduceIte,reduceEqDiff]
  refine zd (t:=v39) (fun hc74=>?_) (fun hc74=>?_)
  ·rw [iteT hc74] at hF41
   simp only [qe,qd,qc,qa,q8,B0,reduceIte,reduceEqDiff]
   have e75:=ql hF41
   subst e75
   have ho76:=hr8 _ rfl
   have hk77:=hk6
   rw [ho76] at hk77
   dsimp only [jnO] at hk77
   apply hR12
   have he:=ql hk77
   subst he
   simp only [zj,B0,reduceIte,reduceEqDiff]
   exact rfl
  rw [iteF hc74] at hF41
  simp only [zk,qo,B0,reduceIte,reduceEqDiff]
  have e78:=ql hF41
  exact hN10 _ _ _ e78.symm ⟨f67,f68,f69,hS73⟩ (f71) (f70)
 rintro _ fr80 h81 rfl ⟨f83,f84,f85,hS82⟩
 dsimp only [jnO] at hk6
 unfold qg5 at hk6
 simp only [q1d,qe,qd,f83,qc,jb,qb,jl,q9,qi8,qa,q8,B0,reduceIte,reduceEqDiff]
 have he:=ql hk6
 subst he
 simp only [zj,B0,reduceIte,reduceEqDiff]
 exact rfl
theorem qbq {W:Nat→Bool}{h:Heap} (hW:∀ b,
  (geL h.length) b→W b=true) (k:Nat) (a_0:List Row) (b_1:List Row) (r:Int) (hF:wh k a_0 b_1=some r) : Ret E W 76 [lst Row.cells a_0,
  lst Row.cells b_1] h (fun v h'=>cut h.length h' E.sz false 9 v=some (.int .i64 r)):=by
 refine Ret.of (fn:=x76) rfl (Run.of ?_)
 unfold wh at hF
 have zf0:ze [lst Row.cells a_0,lst Row.cells b_1] 0=lst Row.cells a_0:=rfl
 have zf1:ze [lst Row.cells a_0,lst Row.cells b_1] 1=lst Row.cells b_1:=rfl
 generalize ze [lst Row.cells a_0,lst Row.cells b_1]=fr0 at zf0 zf1 ⊢
 have hS:Sep h (geL h.length) []:=Sep.nil h
 simp only [x76,qe,qd,qc,qa,q1q,qv1,B0,reduceIte,reduceEqDiff]
 obtain ⟨oc5,hX7,hk8⟩:=kq hF
 simp only [qwx]
 refine qfn (σ:=Int) (fun s58=>qa3 a_0 b_1 s58) (fun s fr' h'=>fr' 0=lst Row.cells a_0∧fr' 1=lst Row.cells b_1∧fr' 5 = .int .i64 s∧Sep h'
   (geL h.length) ([])) hX7 ⟨zf0,zf1,rfl,hS⟩ (fun _ _ _ h=>h) ?_ ?_
 ·rintro s2 fr17 h18 ⟨f20,f21,f22,hS19⟩ oc6 hF9 hr10 Q11 hN12 hK13 hR14 hE15
  unfold qa3 at hF9
  simp only [qw2,qe,jh,f22,zp,qg,f20,qd2,jl,kh,u0,B0,reduceIte,reduceEqDiff]
  refine qak 5 (fun fr' h'=>Sep h' (geL h.length) ([])∧fr' 15 = .bool ((decide (s2<(List.length a_0:Int)))&&(decide (s2 <
    (List.length b_1:Int))))∧fr' 0=lst Row.cells a_0∧fr' 1=lst Row.cells b_1∧fr' 5 = .int .i64 s2) rfl (fun Q24 hN25=>?_) ?_
  ·simp only [List.take_succ_cons,List.take_zero]
   simp only [qn (g:=10),B0,reduceIte,reduceEqDiff]
   refine jg (t:=(decide (s2<(List.length a_0:Int)))) (fun hg26=>?_) (fun hg26=>?_)
   ·simp only [hg26,qn (g:=10),zc,f22,zp,qg,f21,qd2,jl,kh,u0,z8,zh,qu,qo,B0,reduceIte,
     reduceEqDiff]
    exact hN25 _ _ ⟨hS19,by rw [xd hg26]; simp only [B0,reduceIte,reduceEqDiff],f20,f21,f22⟩
   ·simp only [hg26,qn (g:=10),ky,z8,qg,zi,qu,qo,B0,reduceIte,reduceEqDiff]
    exact hN25 _ _ ⟨hS19,by rw [xe hg26]; simp only [B0,reduceIte,reduceEqDiff],f20,f21,f22⟩
  rintro fr27 h32 ⟨hS33,f28,f29,f30,f31⟩
  simp only [List.drop_succ_cons,List.drop_zero]
  simp only [f28,zp,qg,B0,reduceIte,reduceEqDiff]
  obtain ⟨v37,hx38,hF39⟩:=qi hF9
  refine qak 10 (fun fr' h'=>Sep h' (geL h.length) ([])∧fr' 26 = .bool v37∧fr' 0=lst Row.cells a_0∧fr' 1=lst Row.cells b_1∧fr' 5 = .int .i64 s2) rfl
    (fun Q34 hN35=>?_) ?_
  ·simp only [List.take_succ_cons,List.take_zero]
   simp only [qn (g:=16),B0,reduceIte,reduceEqDiff]
   refine jg (t:=((decide (s2<(List.length a_0:Int)))&&(decide (s2<(List.length b_1:Int))))) (fun hg36=>?_) (fun hg36=>?_)
   ·rw [iteT hg36] at hx38
    obtain ⟨x40,hx41,hF42⟩:=qi hx38
    simp only [hg36,qn (g:=16),zc,f29,zp,qg,f31,wo,B0,reduceIte,reduceEqDiff]
    refine qq (v := .ref (Row.cells x40) 0) (kz hx41 rfl) ?_
    simp only [hg36,qn (g:=16),zc,zm,B0,reduceIte,reduceEqDiff]
    refine qq (v := .agg [.int .i64 x40.Epoch,.int .i64 x40.Value]) rfl ?_
    obtain ⟨x43,hx44,hF45⟩:=qi hF42
    simp only [hg36,qn (g:=16),zc,f30,zp,qg,f31,wo,B0,reduceIte,reduceEqDiff]
    refine qq (v := .ref (Row.cells x43) 0) (kz hx44 rfl) ?_
    simp only [hg36,qn (g:=16),zc,zm,B0,reduceIte,reduceEqDiff]
    refine qq (v := .agg [.int .i64 x43.Epoch,.int .i64 x43.Value]) rfl ?_
    simp only [hg36,qn (g:=16),zc,qmc,B0,reduceIte,reduceEqDiff]
    refine qq (v := .bool ((x40.Epoch == x43.Epoch)&&((x40.Value == x43.Value)&&true))) rfl ?_
    simp only [hg36,z8,qg,zh,qu,qo,B0,reduceIte,reduceEqDiff]
    have e46:=ql hF45
    exact hN35 _ _ ⟨hS33,by rw [←e46]; simp only [B0,reduceIte,reduceEqDiff],f29,f30,f31⟩
   ·rw [iteF hg36] at hx38
    simp only [hg36,qn (g:=16),ky,z8,qg,zi,qu,qo,B0,reduceIte,reduceEqDiff]
    have e47:=ql hx38
    exact hN35 _ _ ⟨hS33,by rw [←e47]; simp only [B0,reduceIte,reduceEqDiff],f29,f30,f31⟩
  rintro fr48 h53 ⟨hS54,f49,f50,f51,f52⟩
  simp only [List.drop_succ_cons,List.drop_zero]
  simp only [qu,f49,zb,B0,reduceIte,reduceEqDiff]
  refine zd (t:=v37) (fun hc55=>?_) (fun hc55=>?_)
  ·rw [iteT hc55] at hF39
   simp only [zk,w6,qd,f52,qc,q9,qb,qbf,qa,wb,qo,B0,reduceIte,reduceEqDiff]
   have e56:=ql hF39
   exact hN12 _ _ _ e56.symm ⟨f50,f51,rfl,hS54⟩
  rw [iteF hc55] at hF39
  simp only [qdq,qci,qdt,B0,reduceIte,reduceEqDiff]
  have e57:=ql hF39
  exact hK13 _ _ _ e57.symm ⟨f50,f51,f52,hS54⟩
 rintro s59 fr60 h61 rfl ⟨f63,f64,f65,hS62⟩
 dsimp only [jnO] at hk8
 unfold qgl at hk8
 simp only [qe,qd,f65,qc,qa,q8,B0,reduceIte,reduceEqDiff]
 have he:=ql hk8
 subst he
 simp only [zj,B0,reduceIte,reduceEqDiff]
 exact rfl
theorem qah {W:Nat→Bool}{h:Heap} (hW:∀ b,
  (geL h.length) b→W b=true) (k:Nat) (v_0:Group) (r:Bool) (hF:y7 k v_0=some r) : Ret E W 35 [.agg [.int .i64 v_0.Epoch,.int .i64 v_0.Leader,
  lst cI v_0.InStep,.int .i64 v_0.High,lst Replica.cells v_0.Replicas]] h (fun v h'=>cut h.length h' E.sz false 9 v=some (.bool r)):=by
 refine Ret.of (fn:=x35) rfl (Run.of ?_)
 unfold y7 at hF
 have zf0:ze [.agg [.int .i64 v_0.Epoch,.int .i64 v_0.Leader,lst cI v_0.InStep,.int .i64 v_0.High,lst Replica.cells v_0.Replicas]] 0 = .agg [.int .i64 v_0.Epoch,
   .int .i64 v_0.Leader,lst cI v_0.InStep,.int .i64 v_0.High,lst Replica.cells v_0.Replicas]:=rfl
 generalize ze [.agg [.int .i64 v_0.Epoch,.int .i64 v_0.Leader,lst cI v_0.InStep,.int .i64 v_0.High,lst Replica.cells v_0.Replicas]]=fr0 at zf0 ⊢
 have hS:Sep h (geL h.length) []:=Sep.nil h
 simp only [x35,qe,qd,kp,zf0,B0,reduceIte,reduceEqDiff]
 refine jz (cs:=[.int .i64 v_0.Epoch,.int .i64 v_0.Leader,lst cI v_0.InStep,.int .i64 v_0.High,lst Replica.cells v_0.Replicas]) hS rfl rfl rfl (fun b1 h2 hS3=>?_)
 simp only [qc,qa,B0,reduceIte,reduceEqDiff]
 refine zz hS3 hW (by simp only [B0,reduceIte,reduceEqDiff]) (fun h5 hS6=>?_)
 simp only [zw,q2n,qe,qd,qs,qb,Nat.reduceAdd,Nat.zero_add,Nat.add_zero,qr,qp,B0,reduceIte,reduceEqDiff]
 refine qj (v:=lst Replica.cells v_0.Replicas) rfl ?_
 simp only [jb,qb,jl,qc,qa,qy4,qe,qd,za,B0,reduceIte,reduceEqDiff]
 refine js rfl (qh qm (qh qm (qh qm qz))) (qab (fun b hb=>decide_eq_true hb) (List.length v_0.Replicas:Int) 2 4 _ rfl) ?_
 simp only [ka,qb,kx,qc,B0,reduceIte,reduceEqDiff]
 refine ji 5 (fun fr' h'=>Sep h' (geL h.length) ([])∧fr' 17 = .bool ((!(z9 (List.length v_0.Replicas:Int) 2 4)) ||
   (!(z9 v_0.Epoch 0 100)))∧fr' 1 = .ref [.int .i64 v_0.Epoch,.int .i64 v_0.Leader,lst cI v_0.InStep,.int .i64 v_0.High,
   lst Replica.cells v_0.Replicas] 0∧fr' 3 = .int .i64 (List.length v_0.Replicas:Int)) (fun Q7 hN8=>?_) ?_
 ·simp only [List.take_succ_cons,List.take_zero]
  simp only [qf (g:=12),B0,reduceIte,reduceEqDiff]
  refine zf (t:=(!(z9 (List.length v_0.Replicas:Int) 2 4))) (fun hg9=>?_) (fun hg9=>?_)
  ·simp only [hg9,qf (g:=12),jf,qt,qb,zh,qa,qo,B0,reduceIte,reduceEqDiff]
   exact hN8 _ _ ⟨hS6,by rw [orT hg9]; simp only [B0,reduceIte,reduceEqDiff],rfl,rfl⟩
  ·simp only [hg9,qf (g:=12),qv,qs,qb,Nat.reduceAdd,Nat.zero_add,Nat.add_zero,qr,qp,B0,reduceIte,reduceEqDiff]
   refine qj (v := .int .i64 v_0.Epoch) rfl ?_
   simp only [hg9,qf (g:=12),qv,za,B0,reduceIte,reduceEqDiff]
   refine js rfl (qh qm (qh qm (qh qm qz))) (qab (fun b hb=>decide_eq_true hb) v_0.Epoch 0 100 _ rfl) ?_
   simp only [hg9,qf (g:=12),qv,ka,qb,kx,qt,zi,qa,qo,B0,reduceIte,reduceEqDiff]
   exact hN8 _ _ ⟨hS6,by rw [orF hg9]; simp only [B0,reduceIte,reduceEqDiff],rfl,rfl⟩
 rintro fr10 h14 ⟨hS15,f11,f12,f13⟩
 simp only [List.drop_succ_cons,List.drop_zero]
 simp only [f11,qc,B0,reduceIte,reduceEqDiff]
 obtain ⟨v19,hx20,hF21⟩:=qi hF
 refine ji 6 (fun fr' h'=>Sep h' (geL h.length) ([])∧fr' 24 = .bool v19∧fr' 1 = .ref [.int .i64 v_0.Epoch,.int .i64 v_0.Leader,lst cI v_0.InStep,.int .i64 v_0.High,
   lst Replica.cells v_0.Replicas] 0) (fun Q16 hN17=>?_) ?_
 ·simp only [List.take_succ_cons,List.take_zero]
  simp only [qf (g:=18),B0,reduceIte,reduceEqDiff]
  refine zf (t:=((!(z9 (List.length v_0.Replicas:Int) 2 4))||(!(z9 v_0.Epoch 0 100)))) (fun hg18=>?_) (fun hg18=>?_)
  ·rw [iteT hg18] at hx20
   simp only [hg18,qf (g:=18),jf,qt,qb,zh,qa,qo,B0,reduceIte,reduceEqDiff]
   have e22:=ql hx20
   exact hN17 _ _ ⟨hS15,by rw [←e22]; simp only [B0,reduceIte,reduceEqDiff],f12⟩
  ·rw [iteF hg18] at hx20
   simp only [hg18,qf (g:=18),qv,f12,qs,qb,Nat.reduceAdd,Nat.zero_add,Nat.add_zero,qr,qp,B0,reduceIte,reduceEqDiff]
   refine qj (v:=lst cI v_0.InStep) rfl ?_
   obtain ⟨v23,hx24,hF25⟩:=qi hx20
   simp only [hg18,qf (g:=18),qv,f13,qc,za,B0,reduceIte,reduceEqDiff]
   refine js rfl (qh zo (qh qm qz)) (qk3 (fun b hb=>decide_eq_true hb) v_0.InStep (List.length v_0.Replicas:Int) v23 hx24) ?_
   simp only [hg18,qf (g:=18),qv,ka,qb,kx,qt,zi,qa,qo,B0,reduceIte,reduceEqDiff]
   have e26:=ql hF25
   exact hN17 _ _ ⟨hS15,by rw [←e26]; simp only [B0,reduceIte,reduceEqDiff],f12⟩
 rintro fr27 h30 ⟨hS31,f28,f29⟩
 simp only [List.drop_succ_cons,List.drop_zero]
 simp only [f28,qc,B0,reduceIte,reduceEqDiff]
 obtain ⟨v35,hx36,hF37⟩:=qi hF21
 refine ji 7 (fun fr' h'=>Sep h' (geL h.length) ([])∧fr' 32 = .bool v35∧fr' 1 = .ref [.int .i64 v_0.Epoch,.int .i64 v_0.Leader,lst cI v_0.InStep,.int .i64 v_0.High,
   lst Replica.cells v_0.Replicas] 0) (fun Q32 hN33=>?_) ?_
 ·simp only [List.take_succ_cons,List.take_zero]
  simp only [qf (g:=25),B0,reduceIte,reduceEqDiff]
  refine zf (t:=v19) (fun hg34=>?_) (fun hg34=>?_)
  ·rw [iteT hg34] at hx36
   simp only [hg34,qf (g:=25),jf,qt,qb,zh,qa,qo,B0,reduceIte,reduceEqDiff]
   have e38:=ql hx36
   exact hN33 _ _ ⟨hS31,by rw [←e38]; simp only [B0,reduceIte,reduceEqDiff],f29⟩
  ·rw [iteF hg34] at hx36
   simp only [hg34,qf (g:=25),qv,f29,qs,qb,Nat.reduceAdd,Nat.zero_add,Nat.add_zero,qr,qp,B0,reduceIte,reduceEqDiff]
   refine qj (v:=lst cI v_0.InStep) rfl ?_
   simp only [hg34,qf (g:=25),qv,f29,qs,qb,Nat.reduceAdd,Nat.zero_add,Nat.add_zero,qr,qp,B0,reduceIte,reduceEqDiff]
   refine qj (v := .int .i64 v_0.Leader) rfl ?_
   obtain ⟨v39,hx40,hF41⟩:=qi hx36
   simp only [hg34,qf (g:=25),qv,za,B0,reduceIte,reduceEqDiff]
   refine js rfl (qh zo (qh qm qz)) (qfs (fun b hb=>decide_eq_true hb) v_0.InStep v_0.Leader v39 hx40) ?_
   simp only [hg34,qf (g:=25),qv,ka,qb,kx,qt,zi,qa,qo,B0,reduceIte,reduceEqDiff]
   have e42:=ql hF41
   exact hN33 _ _ ⟨hS31,by rw [←e42]; simp only [B0,reduceIte,reduceEqDiff],f29⟩
 rintro fr43 h46 ⟨hS47,f44,f45⟩
 simp only [List.drop_succ_cons,List.drop_zero]
 simp only [f44,qc,B0,reduceIte,reduceEqDiff]
 refine ji 4 (fun fr' h'=>Sep h' (geL h.length) ([])∧fr' 37 = .bool (v35||(decide (v_0.High<0)))∧fr' 1 = .ref [.int .i64 v_0.Epoch,.int .i64 v_0.Leader,
   lst cI v_0.InStep,.int .i64 v_0.High,lst Replica.cells v_0.Replicas] 0) (fun Q48 hN49=>?_) ?_
 ·simp only [List.take_succ_cons,List.take_zero]
  simp only [qf (g:=33),B0,reduceIte,reduceEqDiff]
  refine zf (t:=v35) (fun hg50=>?_) (fun hg50=>?_)
  ·simp only [hg50,qf (g:=33),jf,qt,qb,zh,qa,qo,B0,reduceIte,reduceEqDiff]
   exact hN49 _ _ ⟨hS47,by rw [orT hg50]; simp only [B0,reduceIte,reduceEqDiff],f45⟩
  ·simp only [hg50,qf (g:=33),qv,f45,qs,qb,Nat.reduceAdd,Nat.zero_add,Nat.add_zero,qr,qp,B0,reduceIte,reduceEqDiff]
   refine qj (v := .int .i64 v_0.High) rfl ?_
   simp only [hg50,qf (g:=33),qv,q9,qb,u0,qt,zi,qa,qo,B0,reduceIte,reduceEqDiff]
   exact hN49 _ _ ⟨hS47,by rw [orF hg50]; simp only [B0,reduceIte,reduceEqDiff],f45⟩
 rintro fr51 h54 ⟨hS55,f52,f53⟩
 simp only [List.drop_succ_cons,List.drop_zero]
 simp only [qa,f52,zb,B0,reduceIte,reduceEqDiff]
 refine zd (t:=(v35||(decide (v_0.High<0)))) (fun hc56=>?_) (fun hc56=>?_)
 ·rw [iteT hc56] at hF37
  simp only [qe,qd,qc,qa,q8,B0,reduceIte,reduceEqDiff]
  have he:=ql hF37
  subst he
  simp only [zj,B0,reduceIte,reduceEqDiff]
  exact rfl
 rw [iteF hc56] at hF37
 simp only [zk,qvz,qe,qd,f53,qs,qb,Nat.reduceAdd,Nat.zero_add,Nat.add_zero,qr,qp,B0,reduceIte,reduceEqDiff]
 refine qj (v:=lst Replica.cells v_0.Replicas) rfl ?_
 simp only [jb,qb,jl,qc,qa,B0,reduceIte,reduceEqDiff]
 obtain ⟨oc59,hX61,hk62⟩:=kq hF37
 simp only [q16]
 refine xl (σ:=Unit) v_0.Replicas (fun i57 x58 _=>u7 k v_0 i57 x58 ) (fun s fr' h'=>fr' 1 = .ref [.int .i64 v_0.Epoch,.int .i64 v_0.Leader,
   lst cI v_0.InStep,.int .i64 v_0.High,lst Replica.cells v_0.Replicas] 0∧fr' 39=lst Replica.cells v_0.Replicas∧Sep h' (geL h.length) ([])) hX61 ⟨f53,rfl,
   hS55⟩ (by simp only [B0,reduceIte,reduceEqDiff]) (by simp only [B0,reduceIte,
   reduceEqDiff]) (fun _ _ _ h=>h) rfl rfl (fun _ _ _ _ h=>h) (fun _ _ _ _ h=>h) (fun _ _ _ _ h=>h) (by decide) ?_ ?_
 ·rintro i57 x58 _ fr71 h72 hx76 ⟨f74,f75,hS73⟩ f77 f78 oc60 hF63 hr64 Q65 hN66 hB70 hK67 hR68 hE69
  unfold u7 at hF63
  simp only [qv5,qe,qd,f77,qc,f75,j0,B0,reduceIte,reduceEqDiff]
  refine qj (v := .ref (Replica.cells x58) 0) (xw hx76 rfl) ?_
  simp only [qp,B0,reduceIte,reduceEqDiff]
  refine qj (v := .agg [lst Row.cells x58.Log,.int .i64 x58.Epoch,.int .i64 x58.Known]) rfl ?_
  simp only [je,B0,reduceIte,reduceEqDiff]
  refine zt hS73 (fun b79 h80 hS81=>?_)
  simp only [qc,zg,B0,reduceIte,reduceEqDiff]
  refine qy (us:=[lst Row.cells x58.Log,.int .i64 x58.Epoch,.int .i64 x58.Known]) rfl (cs':=[lst Row.cells x58.Log,.int .i64 x58.Epoch,
    .int .i64 x58.Known]) hS81 hW rfl rfl (Nat.le_of_ble_eq_true rfl) rfl (fun h83 hS84=>?_)
  simp only [qa,B0,reduceIte,reduceEqDiff]
  refine zz hS84 hW (by simp only [B0,reduceIte,reduceEqDiff]) (fun h85 hS86=>?_)
  simp only [zw,qze,qe,qd,qs,qb,Nat.reduceAdd,Nat.zero_add,Nat.add_zero,qr,qp,B0,reduceIte,reduceEqDiff]
  refine qj (v:=lst Row.cells x58.Log) rfl ?_
  simp only [f74,qs,qb,Nat.reduceAdd,Nat.zero_add,Nat.add_zero,qr,qp,B0,reduceIte,reduceEqDiff]
  refine qj (v := .int .i64 v_0.Epoch) rfl ?_
  obtain ⟨v87,hx88,hF89⟩:=qi hF63
  simp only [za,B0,reduceIte,reduceEqDiff]
  refine js rfl (qh zo (qh qm qz)) (qlp (fun b hb=>decide_eq_true hb) x58.Log v_0.Epoch v87 hx88) ?_
  simp only [ka,qb,kx,qc,B0,reduceIte,reduceEqDiff]
  refine ji 7 (fun fr' h'=>Sep h' (geL h.length) ([])∧fr' 59 = .bool ((!v87)||(!(z9 x58.Epoch 0 v_0.Epoch)))∧fr' 1 = .ref [.int .i64 v_0.Epoch,
    .int .i64 v_0.Leader,lst cI v_0.InStep,.int .i64 v_0.High,lst Replica.cells v_0.Replicas] 0∧fr' 4 = .int .i64 (i57:Int)∧fr' 5 = .ref [lst Row.cells x58.Log,
    .int .i64 x58.Epoch,.int .i64 x58.Known] 0∧fr' 39=lst Replica.cells v_0.Replicas∧fr' 40 = .int .i64 (List.length v_0.Replicas:Int)∧fr' 41 = .int .i64
    (i57:Int)) (fun Q90 hN91=>?_) ?_
  ·simp only [List.take_succ_cons,List.take_zero]
   simp only [qf (g:=52),B0,reduceIte,reduceEqDiff]
   refine zf (t:=(!v87)) (fun hg92=>?_) (fun hg92=>?_)
   ·simp only [hg92,qf (g:=52),jf,qt,qb,zh,qa,qo,B0,reduceIte,reduceEqDiff]
    exact hN91 _ _ ⟨hS86,by rw [orT hg92]; simp only [B0,reduceIte,reduceEqDiff],f74,rfl,rfl,f75,f78,f77⟩
   ·simp only [hg92,qf (g:=52),qv,qs,qb,Nat.reduceAdd,Nat.zero_add,Nat.add_zero,qr,qp,B0,reduceIte,reduceEqDiff]
    refine qj (v := .int .i64 x58.Epoch) rfl ?_
    simp only [hg92,qf (g:=52),qv,f74,qs,qb,Nat.reduceAdd,Nat.zero_add,Nat.add_zero,qr,qp,B0,reduceIte,reduceEqDiff]
    refine qj (v := .int .i64 v_0.Epoch) rfl ?_
    simp only [hg92,qf (g:=52),qv,za,B0,reduceIte,reduceEqDiff]
    refine js rfl (qh qm (qh qm (qh qm qz))) (qab (fun b hb=>decide_eq_true hb) x58.Epoch 0 v_0.Epoch _ rfl) ?_
    simp only [hg92,qf (g:=52),qv,ka,qb,kx,qt,zi,qa,qo,B0,reduceIte,reduceEqDiff]
    exact hN91 _ _ ⟨hS86,by rw [orF hg92]; simp only [B0,reduceIte,reduceEqDiff],f74,rfl,rfl,f75,f78,f77⟩
  rintro fr93 h101 ⟨hS102,f94,f95,f96,f97,f98,f99,f100⟩
  simp only [List.drop_succ_cons,List.drop_zero]
  simp only [f94,qc,B0,reduceIte,reduceEqDiff]
  refine ji 4 (fun fr' h'=>Sep h' (geL h.length) ([])∧fr' 64 = .bool (((!v87)||(!(z9 x58.Epoch 0 v_0.Epoch)))||(decide
    (x58.Known<0)))∧fr' 1 = .ref [.int .i64 v_0.Epoch,.int .i64 v_0.Leader,lst cI v_0.InStep,.int .i64 v_0.High,
    lst Replica.cells v_0.Replicas] 0∧fr' 4 = .int .i64 (i57:Int)∧fr' 5 = .ref [lst Row.cells x58.Log,.int .i64 x58.Epoch,
    .int .i64 x58.Known] 0∧fr' 39=lst Replica.cells v_0.Replicas∧fr' 40 = .int .i64 (List.length v_0.Replicas:Int)∧fr' 41 = .int .i64 (i57:Int))
    (fun Q103 hN104=>?_) ?_
  ·simp only [List.take_succ_cons,List.take_zero]
   simp only [qf (g:=60),B0,reduceIte,reduceEqDiff]
   refine zf (t:=((!v87)||(!(z9 x58.Epoch 0 v_0.Epoch)))) (fun hg105=>?_) (fun hg105=>?_)
   ·simp only [hg105,qf (g:=60),jf,qt,qb,zh,qa,qo,B0,reduceIte,reduceEqDiff]
    exact hN104 _ _ ⟨hS102,by rw [orT hg105]; simp only [B0,reduceIte,reduceEqDiff],f95,f96,f97,f98,f99,f100⟩
   ·simp only [hg105,qf (g:=60),qv,f97,qs,qb,Nat.reduceAdd,Nat.zero_add,Nat.add_zero,qr,qp,B0,reduceIte,reduceEqDiff]
    refine qj (v := .int .i64 x58.Known) rfl ?_
    simp only [hg105,qf (g:=60),qv,q9,qb,u0,qt,zi,qa,qo,B0,reduceIte,reduceEqDiff]
    exact hN104 _ _ ⟨hS102,by rw [orF hg105]; simp only [B0,reduceIte,reduceEqDiff],f95,f96,f97,f98,f99,f100⟩
  rintro fr106 h114 ⟨hS115,f107,f108,f109,f110,f111,f112,f113⟩
  simp only [List.drop_succ_cons,List.drop_zero]
  simp only [f107,qc,B0,reduceIte,reduceEqDiff]
  refine ji 7 (fun fr' h'=>Sep h' (geL h.length) ([])∧fr' 72 = .bool ((((!v87)||(!(z9 x58.Epoch 0 v_0.Epoch)))||(decide (x58.Known<0)))||(decide
    ((List.length x58.Log:Int)<x58.Known)))∧fr' 1 = .ref [.int .i64 v_0.Epoch,.int .i64 v_0.Leader,lst cI v_0.InStep,.int .i64 v_0.High,
    lst Replica.cells v_0.Replicas] 0∧fr' 4 = .int .i64 (i57:Int)∧fr' 5 = .ref [lst Row.cells x58.Log,.int .i64 x58.Epoch,
    .int .i64 x58.Known] 0∧fr' 39=lst Replica.cells v_0.Replicas∧fr' 40 = .int .i64 (List.length v_0.Replicas:Int)∧fr' 41 = .int .i64 (i57:Int))
    (fun Q116 hN117=>?_) ?_
  ·simp only [List.take_succ_cons,List.take_zero]
   simp only [qf (g:=65),B0,reduceIte,reduceEqDiff]
   refine zf (t:=(((!v87)||(!(z9 x58.Epoch 0 v_0.Epoch)))||(decide (x58.Known<0)))) (fun hg118=>?_) (fun hg118=>?_)
   ·simp only [hg118,qf (g:=65),jf,qt,qb,zh,qa,qo,B0,reduceIte,reduceEqDiff]
    exact hN117 _ _ ⟨hS115,by rw [orT hg118]; simp only [B0,reduceIte,reduceEqDiff],f108,f109,f110,f111,f112,f113⟩
   ·simp only [hg118,qf (g:=65),qv,f110,qs,qb,Nat.reduceAdd,Nat.zero_add,Nat.add_zero,qr,qp,B0,reduceIte,reduceEqDiff]
    refine qj (v := .int .i64 x58.Known) rfl ?_
    simp only [hg118,qf (g:=65),qv,f110,qs,qb,Nat.reduceAdd,Nat.zero_add,Nat.add_zero,qr,qp,B0,reduceIte,reduceEqDiff]
    refine qj (v:=lst Row.cells x58.Log) rfl ?_
    simp only [hg118,qf (g:=65),qv,jb,qb,jl,q9,qcv,qt,zi,qa,qo,B0,reduceIte,reduceEqDiff]
    exact hN117 _ _ ⟨hS115,by rw [orF hg118]; simp only [B0,reduceIte,reduceEqDiff],f108,f109,f110,f111,f112,f113⟩
  rintro fr119 h127 ⟨hS128,f120,f121,f122,f123,f124,f125,f126⟩
  simp only [List.drop_succ_cons,List.drop_zero]
  simp only [qa,f120,zb,B0,reduceIte,reduceEqDiff]
  refine zd (t:=((((!v87)||(!(z9 x58.Epoch 0 v_0.Epoch)))||(decide (x58.Known<0)))||(decide ((List.length x58.Log:Int)<x58.Known))))
    (fun hc129=>?_) (fun hc129=>?_)
  ·rw [iteT hc129] at hF89
   simp only [qe,qd,qc,qa,q8,B0,reduceIte,reduceEqDiff]
   have e130:=ql hF89
   subst e130
   have ho131:=hr64 _ rfl
   have hk132:=hk62
   rw [ho131] at hk132
   dsimp only [jnO] at hk132
   apply hR68
   have he:=ql hk132
   subst he
   simp only [zj,B0,reduceIte,reduceEqDiff]
   exact rfl
  rw [iteF hc129] at hF89
  simp only [zk,q23,qe,jh,f121,zq,qg,Nat.reduceAdd,Nat.zero_add,Nat.add_zero,qr,zm,B0,reduceIte,reduceEqDiff]
  refine qq (v:=lst cI v_0.InStep) rfl ?_
  obtain ⟨v133,hx134,hF135⟩:=qi hF89
  simp only [f122,zp,qg,k8,B0,reduceIte,reduceEqDiff]
  refine qbm rfl (qh zo (qh qm qz)) (qfs (fun b hb=>decide_eq_true hb) v_0.InStep (i57:Int) v133 hx134) ?_
  simp only [zp,qg,B0,reduceIte,reduceEqDiff]
  simp only [qn (g:=77),B0,reduceIte,reduceEqDiff]
  refine jg (t:=v133) (fun hg136=>?_) (fun hg136=>?_)
  ·rw [iteT hg136] at hF135
   simp only [hg136,qn (g:=77),zc,f123,zq,qg,Nat.reduceAdd,Nat.zero_add,Nat.add_zero,qr,zm,B0,reduceIte,reduceEqDiff]
   refine qq (v:=lst Row.cells x58.Log) rfl ?_
   simp only [hg136,qn (g:=77),zc,f121,zq,qg,Nat.reduceAdd,Nat.zero_add,Nat.add_zero,qr,zm,B0,reduceIte,reduceEqDiff]
   refine qq (v:=lst Replica.cells v_0.Replicas) rfl ?_
   simp only [hg136,qn (g:=77),zc,f121,zq,qg,Nat.reduceAdd,Nat.zero_add,Nat.add_zero,qr,zm,B0,reduceIte,reduceEqDiff]
   refine qq (v := .int .i64 v_0.Leader) rfl ?_
   obtain ⟨x137,hx138,hF139⟩:=qi hF135
   simp only [hg136,qn (g:=77),zc,wo,B0,reduceIte,reduceEqDiff]
   refine qq (v := .ref (Replica.cells x137) 0) (kz hx138 rfl) ?_
   simp only [hg136,qn (g:=77),zc,zq,qg,Nat.reduceAdd,Nat.zero_add,Nat.add_zero,qr,zm,B0,reduceIte,reduceEqDiff]
   refine qq (v:=lst Row.cells x137.Log) rfl ?_
   obtain ⟨v140,hx141,hF142⟩:=qi hF139
   simp only [hg136,qn (g:=77),zc,yy,B0,reduceIte,reduceEqDiff]
   refine qd6 rfl (qh zo (qh zo qz)) (qbq (fun b hb=>decide_eq_true hb) k x58.Log x137.Log v140 hx141) ?_
   simp only [hg136,qn (g:=77),zc,f121,uu,qg,Nat.reduceAdd,Nat.zero_add,Nat.add_zero,qr,wv,yz,B0,reduceIte,reduceEqDiff]
   refine qq (v := .int .i64 v_0.High) rfl ?_
   simp only [hg136,qn (g:=77),zc,kh,qg,u0,z8,zh,qu,zb,B0,reduceIte,reduceEqDiff]
   refine zd (t:=(decide (v140<v_0.High))) (fun hc143=>?_) (fun hc143=>?_)
   ·rw [iteT hc143] at hF142
    simp only [qe,qd,qc,qa,q8,B0,reduceIte,reduceEqDiff]
    have e144:=ql hF142
    subst e144
    have ho145:=hr64 _ rfl
    have hk146:=hk62
    rw [ho145] at hk146
    dsimp only [jnO] at hk146
    apply hR68
    have he:=ql hk146
    subst he
    simp only [zj,B0,reduceIte,reduceEqDiff]
    exact rfl
   rw [iteF hc143] at hF142
   simp only [zk,qo6,qe,jh,f123,zq,qg,Nat.reduceAdd,Nat.zero_add,Nat.add_zero,qr,zm,B0,reduceIte,reduceEqDiff]
   refine qq (v := .int .i64 x58.Epoch) rfl ?_
   simp only [f121,zq,qg,Nat.reduceAdd,Nat.zero_add,Nat.add_zero,qr,zm,B0,reduceIte,reduceEqDiff]
   refine qq (v := .int .i64 v_0.Epoch) rfl ?_
   simp only [kh,qg,yd,zp,B0,reduceIte,reduceEqDiff]
   simp only [qn (g:=97),B0,reduceIte,reduceEqDiff]
   refine jg (t:=(decide (x58.Epoch=v_0.Epoch))) (fun hg147=>?_) (fun hg147=>?_)
   ·rw [iteT hg147] at hF142
    simp only [hg147,qn (g:=97),zc,f123,zq,qg,Nat.reduceAdd,Nat.zero_add,Nat.add_zero,qr,zm,B0,reduceIte,reduceEqDiff]
    refine qq (v:=lst Row.cells x58.Log) rfl ?_
    simp only [hg147,qn (g:=97),zc,f121,zq,qg,Nat.reduceAdd,Nat.zero_add,Nat.add_zero,qr,zm,B0,reduceIte,reduceEqDiff]
    refine qq (v:=lst Replica.cells v_0.Replicas) rfl ?_
    simp only [hg147,qn (g:=97),zc,f121,zq,qg,Nat.reduceAdd,Nat.zero_add,Nat.add_zero,qr,zm,B0,reduceIte,reduceEqDiff]
    refine qq (v := .int .i64 v_0.Leader) rfl ?_
    obtain ⟨x148,hx149,hF150⟩:=qi hF142
    simp only [hg147,qn (g:=97),zc,wo,B0,reduceIte,reduceEqDiff]
    refine qq (v := .ref (Replica.cells x148) 0) (kz hx149 rfl) ?_
    simp only [hg147,qn (g:=97),zc,zq,qg,Nat.reduceAdd,Nat.zero_add,Nat.add_zero,qr,zm,B0,reduceIte,reduceEqDiff]
    refine qq (v:=lst Row.cells x148.Log) rfl ?_
    obtain ⟨v151,hx152,hF153⟩:=qi hF150
    simp only [hg147,qn (g:=97),zc,yy,B0,reduceIte,reduceEqDiff]
    refine qd6 rfl (qh zo (qh zo qz)) (qbq (fun b hb=>decide_eq_true hb) k x58.Log x148.Log v151 hx152) ?_
    simp only [hg147,qn (g:=97),zc,f123,uu,qg,Nat.reduceAdd,Nat.zero_add,Nat.add_zero,qr,wv,yz,B0,reduceIte,
      reduceEqDiff]
    refine qq (v := .int .i64 x58.Known) rfl ?_
    simp only [hg147,qn (g:=97),zc,kh,qg,u0,z8,zh,qu,zb,B0,reduceIte,reduceEqDiff]
    refine zd (t:=(decide (v151<x58.Known))) (fun hc154=>?_) (fun hc154=>?_)
    ·rw [iteT hc154] at hF153
     simp only [qe,qd,qc,qa,q8,B0,reduceIte,reduceEqDiff]
     have e155:=ql hF153
     subst e155
     have ho156:=hr64 _ rfl
     have hk157:=hk62
     rw [ho156] at hk157
     dsimp only [jnO] at hk157
     apply hR68
     have he:=ql hk157
     subst he
     simp only [zj,B0,reduceIte,reduceEqDiff]
     exact rfl
    rw [iteF hc154] at hF153
    simp only [zk,qo,B0,reduceIte,reduceEqDiff]
    have e158:=ql hF153
    exact hN66 _ _ _ e158.symm ⟨f121,f124,hS128⟩ (f126) (f125)
   rw [iteF hg147] at hF142
   simp only [hg147,qn (g:=97),ky,z8,qg,zi,qu,zb,qa4,zk,qo,B0,reduceIte,reduceEqDiff]
   have e159:=ql hF142
   exact hN66 _ _ _ e159.symm ⟨f121,f124,hS128⟩ (f126) (f125)
  rw [iteF hg136] at hF135
  simp only [hg136,qn (g:=77),ky,z8,qg,zi,qu,zb,qa4,zk,qo6,qe,jh,f123,zq,
    Nat.reduceAdd,Nat.zero_add,Nat.add_zero,qr,zm,B0,reduceIte,reduceEqDiff]
  refine qq (v := .int .i64 x58.Epoch) rfl ?_
  simp only [f121,zq,qg,Nat.reduceAdd,Nat.zero_add,Nat.add_zero,qr,zm,B0,reduceIte,reduceEqDiff]
  refine qq (v := .int .i64 v_0.Epoch) rfl ?_
  simp only [kh,qg,yd,zp,B0,reduceIte,reduceEqDiff]
  simp only [qn (g:=97),B0,reduceIte,reduceEqDiff]
  refine jg (t:=(decide (x58.Epoch=v_0.Epoch))) (fun hg160=>?_) (fun hg160=>?_)
  ·rw [iteT hg160] at hF135
   simp only [hg160,qn (g:=97),zc,f123,zq,qg,Nat.reduceAdd,Nat.zero_add,Nat.add_zero,qr,zm,B0,reduceIte,reduceEqDiff]
   refine qq (v:=lst Row.cells x58.Log) rfl ?_
   simp only [hg160,qn (g:=97),zc,f121,zq,qg,Nat.reduceAdd,Nat.zero_add,Nat.add_zero,qr,zm,B0,reduceIte,reduceEqDiff]
   refine qq (v:=lst Replica.cells v_0.Replicas) rfl ?_
   simp only [hg160,qn (g:=97),zc,f121,zq,qg,Nat.reduceAdd,Nat.zero_add,Nat.add_zero,qr,zm,B0,reduceIte,reduceEqDiff]
   refine qq (v := .int .i64 v_0.Leader) rfl ?_
   obtain ⟨x161,hx162,hF163⟩:=qi hF135
   simp only [hg160,qn (g:=97),zc,wo,B0,reduceIte,reduceEqDiff]
   refine qq (v := .ref (Replica.cells x161) 0) (kz hx162 rfl) ?_
   simp only [hg160,qn (g:=97),zc,zq,qg,Nat.reduceAdd,Nat.zero_add,Nat.add_zero,qr,zm,B0,reduceIte,reduceEqDiff]
   refine qq (v:=lst Row.cells x161.Log) rfl ?_
   obtain ⟨v164,hx165,hF166⟩:=qi hF163
   simp only [hg160,qn (g:=97),zc,yy,B0,reduceIte,reduceEqDiff]
   refine qd6 rfl (qh zo (qh zo qz)) (qbq (fun b hb=>decide_eq_true hb) k x58.Log x161.Log v164 hx165) ?_
   simp only [hg160,qn (g:=97),zc,f123,uu,qg,Nat.reduceAdd,Nat.zero_add,Nat.add_zero,qr,wv,yz,B0,reduceIte,reduceEqDiff]
   refine qq (v := .int .i64 x58.Known) rfl ?_
   simp only [hg160,qn (g:=97),zc,kh,qg,u0,z8,zh,qu,zb,B0,reduceIte,reduceEqDiff]
   refine zd (t:=(decide (v164<x58.Known))) (fun hc167=>?_) (fun hc167=>?_)
   ·rw [iteT hc167] at hF166
    simp only [qe,qd,qc,qa,q8,B0,reduceIte,reduceEqDiff]
    have e168:=ql hF166
    subst e168
    have ho169:=hr64 _ rfl
    have hk170:=hk62
    rw [ho169] at hk170
    dsimp only [jnO] at hk170
    apply hR68
    have he:=ql hk170
    subst he
    simp only [zj,B0,reduceIte,reduceEqDiff]
    exact rfl
   rw [iteF hc167] at hF166
   simp only [zk,qo,B0,reduceIte,reduceEqDiff]
   have e171:=ql hF166
   exact hN66 _ _ _ e171.symm ⟨f121,f124,hS128⟩ (f126) (f125)
  rw [iteF hg160] at hF135
  simp only [hg160,qn (g:=97),ky,z8,qg,zi,qu,zb,qa4,zk,qo,B0,reduceIte,reduceEqDiff]
  have e172:=ql hF135
  exact hN66 _ _ _ e172.symm ⟨f121,f124,hS128⟩ (f126) (f125)
 rintro _ fr174 h175 rfl ⟨f177,f178,hS176⟩
 dsimp only [jnO] at hk62
 unfold qfd at hk62
 simp only [qe,qd,qc,qa,q8,B0,reduceIte,reduceEqDiff]
 have he:=ql hk62
 subst he
 simp only [zj,B0,reduceIte,reduceEqDiff]
 exact rfl
end Go.Proofs.Ytefgfcalgjmhjaa.X
namespace Go.Proofs.Ytefgfcalgjmhjaa.X
open Go
open Nat (reduceEqDiff)
theorem qaw {W:Nat→Bool}{h:Heap} (hW:∀ b,
  (geL h.length) b→W b=true) (g_0:Group) (r:Group) (hF:xg g_0=some r) : Ret E W 46 [.agg [.int .i64 g_0.Epoch,.int .i64 g_0.Leader,lst cI g_0.InStep,
  .int .i64 g_0.High,lst Replica.cells g_0.Replicas]] h (fun v h'=>∃ rv0_2 rc0_2 rv0_4 rc0_4,v = .agg [.int .i64 r.Epoch,.int .i64 r.Leader,rv0_2,.int .i64 r.High,
  rv0_4]∧SlF cI 1 3 rv0_2 r.InStep rc0_2∧SlN Replica.R 3 51 rv0_4 r.Replicas rc0_4∧Sep h' (geL h.length) (rc0_2++(rc0_4++([])))):=by
 refine Ret.of (fn:=x46) rfl (Run.of ?_)
 unfold xg at hF
 have zf0:ze [.agg [.int .i64 g_0.Epoch,.int .i64 g_0.Leader,lst cI g_0.InStep,.int .i64 g_0.High,lst Replica.cells g_0.Replicas]] 0 = .agg [.int .i64 g_0.Epoch,
   .int .i64 g_0.Leader,lst cI g_0.InStep,.int .i64 g_0.High,lst Replica.cells g_0.Replicas]:=rfl
 generalize ze [.agg [.int .i64 g_0.Epoch,.int .i64 g_0.Leader,lst cI g_0.InStep,.int .i64 g_0.High,lst Replica.cells g_0.Replicas]]=fr0 at zf0 ⊢
 have hS:Sep h (geL h.length) []:=Sep.nil h
 simp only [x46,qe,qd,kp,zf0,B0,reduceIte,reduceEqDiff]
 refine jz (cs:=[.int .i64 g_0.Epoch,.int .i64 g_0.Leader,lst cI g_0.InStep,.int .i64 g_0.High,lst Replica.cells g_0.Replicas]) hS rfl rfl rfl (fun b1 h2 hS3=>?_)
 simp only [je,B0,reduceIte,reduceEqDiff]
 refine zt hS3 (fun b5 h6 hS7=>?_)
 simp only [qa,B0,reduceIte,reduceEqDiff]
 refine zz (Sep.m1 hS7) hW (by simp only [B0,reduceIte,reduceEqDiff]) (fun h9 hS10=>?_)
 simp only [zw,qyf,qe,jh,qcw,evp,B0,reduceIte,reduceEqDiff]
 refine ux (n:=1) (f:=cI) ([] : List Int) hS10 rfl rfl (fun v11 c12 h13 hv14 hS15=>?_)
 simp only [qkb,B0,reduceIte,reduceEqDiff]
 refine qd1 hS15 (fun b17 h18 hS19=>?_)
 simp only [uu,qg,Nat.reduceAdd,Nat.zero_add,Nat.add_zero,qr,wv,yz,B0,reduceIte,reduceEqDiff]
 refine qq (v := .int .i64 g_0.Epoch) rfl ?_
 simp only [uu,qg,Nat.reduceAdd,Nat.zero_add,Nat.add_zero,qr,wv,yz,B0,reduceIte,reduceEqDiff]
 refine qq (v := .int .i64 g_0.Leader) rfl ?_
 simp only [zq,qg,Nat.reduceAdd,Nat.zero_add,Nat.add_zero,qr,zm,B0,reduceIte,reduceEqDiff]
 refine qq (v:=lst cI g_0.InStep) rfl ?_
 simp only [qom,B0,reduceIte,reduceEqDiff]
 obtain ⟨l21,hx22,hF23⟩:=qi hF
 have hq24:=nwq (fun z hz=>Sep.dj (Sep.m2 (Sep.m2 hS19)) qou (SlF.rowfp hv14 z hz))
 refine qwi qqs ?_
 refine qbt (f:=cI) hv14 (Sep.m1 hS19) hW (fun _=>rfl) (fun _=>rfl) (qb9 (fun _=>rfl)) hx22 (fun v25 c26 h27 hv28 hS29=>?_)
 simp only [uu,qg,Nat.reduceAdd,Nat.zero_add,Nat.add_zero,qr,wv,yz,B0,reduceIte,reduceEqDiff]
 refine qq (v := .int .i64 g_0.High) rfl ?_
 simp only [qi9,evp,B0,reduceIte,reduceEqDiff]
 refine qq (v := .agg [.int .i64 g_0.Epoch,.int .i64 g_0.Leader,v25,.int .i64 g_0.High,
   .nil]) (qev (qdi (us:=[.int .i64 g_0.Epoch]) (vs:=[.int .i64 g_0.Epoch,.int .i64 0,.nil,.int .i64 0,
   .nil]) rfl rfl (Nat.le_of_ble_eq_true rfl) rfl rfl (qdi (us:=[.int .i64 g_0.Leader]) (vs:=[.int .i64 g_0.Epoch,.int .i64 g_0.Leader,.nil,.int .i64 0,
   .nil]) rfl rfl (Nat.le_of_ble_eq_true rfl) rfl rfl (qdi (us:=[v25]) (vs:=[.int .i64 g_0.Epoch,.int .i64 g_0.Leader,v25,.int .i64 0,
   .nil]) (k5 (SlF.one hv28)) rfl (Nat.le_of_ble_eq_true rfl) (qk (SlF.one hv28) zn) rfl (qdi (us:=[.int .i64 g_0.High]) (vs:=[.int .i64 g_0.Epoch,
   .int .i64 g_0.Leader,v25,.int .i64 g_0.High,.nil]) rfl rfl (Nat.le_of_ble_eq_true rfl) rfl rfl qio))))) ?_
 simp only [qdj,B0,reduceIte,reduceEqDiff]
 refine xk (us:=[.int .i64 g_0.Epoch,.int .i64 g_0.Leader,v25,.int .i64 g_0.High,.nil]) rfl (cs':=[.int .i64 g_0.Epoch,.int .i64 g_0.Leader,v25,
   .int .i64 g_0.High,.nil]) (Sep.m1 hS29) hW rfl (qk rfl (qk rfl (qk (SlF.one hv28) (qk rfl (qk rfl zn))))) (Nat.le_of_ble_eq_true rfl) rfl
   (fun h31 hS32=>?_)
 simp only [qu,qzw,qe,qd,qs,qb,Nat.reduceAdd,Nat.zero_add,Nat.add_zero,qr,qp,B0,reduceIte,reduceEqDiff]
 refine qj (v:=lst Replica.cells g_0.Replicas) rfl ?_
 simp only [jb,qb,jl,qc,qa,B0,reduceIte,reduceEqDiff]
 obtain ⟨oc45,hX47,hk48⟩:=kq hF23
 simp only [q2w]
 refine xl (σ:=Group) g_0.Replicas (fun i43 x44 s107=>qc3 l21 i43 x44 s107) (fun s fr' h'=>∃ v40 c41,
   fr' 2 = .ptr b5 0∧fr' 3 = .ptr b17 0∧fr' 18=lst Replica.cells g_0.Replicas∧SlN Replica.R 3 51 v40 s.Replicas c41∧Sep h' (geL h.length) ([Blk1 b5 [.int .i64 0,
   .int .i64 0,.nil,.int .i64 0,.nil] 29]++([Blk1 b17 [.int .i64 s.Epoch,.int .i64 s.Leader,v25,.int .i64 s.High,v40] 29]++(c26++(c41++([])))))) hX47 ⟨.nil,[],
   rfl,rfl,rfl,SlN.nil,((Sep.m2 (Sep.m1 (Sep.m1 hS32))) : Sep _ (geL h.length) ([Blk1 b5 [.int .i64 0,.int .i64 0,.nil,.int .i64 0,
   .nil] 29]++([Blk1 b17 [.int .i64 g_0.Epoch,.int .i64 g_0.Leader,v25,.int .i64 g_0.High,.nil] 29]++(c26++([])))))⟩ (by simp only [B0,reduceIte,
   reduceEqDiff]) (by simp only [B0,reduceIte,reduceEqDiff]) (fun _ _ _ h=>h) rfl rfl (fun _ _ _ _ h=>h) (fun _ _ _ _ h=>h) (fun _ _ _ _ h=>h) (by decide) ?_ ?_
 ·rintro i43 x44 s38 fr57 h58 hx63 ⟨v40,c41,f60,f61,f62,hv42,hS59⟩ f64 f65 oc46 hF49 hr50 Q51 hN52 hB56 hK53 hR54 hE55
  unfold qc3 at hF49
  simp only [qx8,qe,qd,f62,f64,j0,B0,reduceIte,reduceEqDiff]
  refine qj (v := .ref (Replica.cells x44) 0) (xw hx63 rfl) ?_
  simp only [qp,B0,reduceIte,reduceEqDiff]
  refine qj (v := .agg [lst Row.cells x44.Log,.int .i64 x44.Epoch,.int .i64 x44.Known]) rfl ?_
  simp only [je,B0,reduceIte,reduceEqDiff]
  refine zt hS59 (fun b66 h67 hS68=>?_)
  simp only [zg,B0,reduceIte,reduceEqDiff]
  refine qy (us:=[lst Row.cells x44.Log,.int .i64 x44.Epoch,.int .i64 x44.Known]) rfl (cs':=[lst Row.cells x44.Log,.int .i64 x44.Epoch,
    .int .i64 x44.Known]) hS68 hW rfl rfl (Nat.le_of_ble_eq_true rfl) rfl (fun h70 hS71=>?_)
  simp only [qa,qxm,qe,qd,yu,evp,B0,reduceIte,reduceEqDiff]
  refine ye (n:=2) (f:=Row.cells) ([] : List Row) hS71 rfl rfl (fun v72 c73 h74 hv75 hS76=>?_)
  simp only [qs,qb,Nat.reduceAdd,Nat.zero_add,Nat.add_zero,qw,qp,B0,reduceIte,reduceEqDiff]
  refine qj (v:=lst Row.cells x44.Log) ((zu (Sep.bk _ _ _ (Sep.m1 hS76))).trans rfl) ?_
  simp only [uc,B0,reduceIte,reduceEqDiff]
  obtain ⟨l78,hx79,hF80⟩:=qi hF49
  refine wq (f:=Row.cells) hv75 hS76 hW (fun _=>rfl) (fun _=>rfl) (qb9 (fun _=>rfl)) hx79 (fun v81 c82 h83 hv84 hS85=>?_)
  simp only [qs,qb,Nat.reduceAdd,Nat.zero_add,Nat.add_zero,qw,zg,B0,reduceIte,reduceEqDiff]
  refine qy (us:=[v81]) (k5 (SlF.one hv84)) (cs':=[v81,.int .i64 x44.Epoch,
    .int .i64 x44.Known]) (Sep.m1 hS85) hW rfl (qk (SlF.one hv84) zn) (Nat.le_of_ble_eq_true rfl) rfl (fun h87 hS88=>?_)
  simp only [qa,qwh,qd,f61,qs,qb,Nat.reduceAdd,Nat.zero_add,Nat.add_zero,qw,qp,B0,reduceIte,reduceEqDiff]
  refine qj (v:=v40) ((zu (Sep.bk _ _ _ (Sep.m3 hS88))).trans rfl) ?_
  simp only [qp,B0,reduceIte,reduceEqDiff]
  refine qj (v := .agg [v81,.int .i64 x44.Epoch,.int .i64 x44.Known]) ((zv (Sep.bk _ _ _ hS88)).trans rfl) ?_
  simp only [yu,evp,B0,reduceIte,reduceEqDiff]
  refine qib (R:=Replica.R) (n:=3) (cs:=[v81,.int .i64 x44.Epoch,.int .i64 x44.Known]) (os:=c82) (Sep.m1 hS88) (qdi (us:=[v81,.int .i64 x44.Epoch,
    .int .i64 x44.Known]) (vs:=[v81,.int .i64 x44.Epoch,
    .int .i64 x44.Known]) rfl rfl (Nat.le_of_ble_eq_true rfl) (qk (SlF.one hv84) (qk rfl (qk rfl zn))) rfl qio) (Replica.RI (x :=
    (Replica.mk l78 x44.Epoch x44.Known)) hv84) rfl (fun v89 c90 h91 hv92 hS93=>?_)
  simp only [uc,B0,reduceIte,reduceEqDiff]
  obtain ⟨l95,hx96,hF97⟩:=qi hF80
  refine qlg (R:=Replica.R) (c:=c41) hv42 hv92 (Sep.m5 hS93) hW Replica.RO.len Replica.RO.one hx96 (fun v98 c99 h100 hv101 hS102=>?_)
  simp only [f61,qs,qb,Nat.reduceAdd,Nat.zero_add,Nat.add_zero,qw,zg,B0,reduceIte,reduceEqDiff]
  refine qy (us:=[v98]) (k5 (SlN.one hv101)) (cs':=[.int .i64 s38.Epoch,.int .i64 s38.Leader,v25,.int .i64 s38.High,
    v98]) (Sep.m3 hS102) hW rfl (qk (SlN.one hv101) zn) (Nat.le_of_ble_eq_true rfl) rfl (fun h104 hS105=>?_)
  simp only [qa,qo,B0,reduceIte,reduceEqDiff]
  have e106:=ql hF97
  exact hN52 _ _ _ e106.symm ⟨v98,c99,f60,f61,f62,hv101,(Sep.m3 (Sep.m2 (Sep.m3 (Sep.m1 (Sep.dc (Sep.m2 hS105))))))⟩ (f64) (f65)
 rintro s108 fr113 h114 rfl ⟨v110,c111,f116,f117,f118,hv112,hS115⟩
 dsimp only [jnO] at hk48
 unfold qg6 at hk48
 simp only [qe,qd,f117,qp,B0,reduceIte,reduceEqDiff]
 refine qj (v := .agg [.int .i64 s108.Epoch,.int .i64 s108.Leader,v25,.int .i64 s108.High,v110]) ((zv (Sep.bk _ _ _ (Sep.m1 hS115))).trans rfl) ?_
 simp only [f116,zg,B0,reduceIte,reduceEqDiff]
 refine qy (us:=[.int .i64 s108.Epoch,.int .i64 s108.Leader,v25,.int .i64 s108.High,v110]) rfl (cs':=[.int .i64 s108.Epoch,.int .i64 s108.Leader,v25,
   .int .i64 s108.High,v110]) hS115 hW rfl (qk rfl (qk rfl (qk (SlF.one hv28) (qk rfl (qk (SlN.one hv112) zn))))) (Nat.le_of_ble_eq_true rfl) rfl
   (fun h119 hS120=>?_)
 simp only [qa,q8,B0,reduceIte,reduceEqDiff]
 have he:=ql hk48
 subst he
 refine we (bb:=b5) (oo:=0) (v := .agg [.int .i64 s108.Epoch,.int .i64 s108.Leader,v25,.int .i64 s108.High,v110]) (by simp only [f116,B0,reduceIte,
   reduceEqDiff]) ((zv (Sep.bk _ _ _ hS120)).trans rfl) ?_
 exact ⟨v25,c26,v110,c111,by first | trivial | rfl,hv28,hv112,(Sep.m1 (Sep.m1 (Sep.dc ((Sep.dc (hS120))))))⟩
theorem qgm {W:Nat→Bool}{h:Heap}{lo:Nat→Prop}{S0:List Obj} (hW:∀ b,
  lo b→W b=true) (k:Nat) (g_0:Group) (pv0_2:XV) (pc0_2:List Obj) (ph0_2:SlF cI 1 3 pv0_2 g_0.InStep pc0_2) (pv0_4:XV) (pc0_4:List Obj)
  (ph0_4:SlN Replica.R 3 51 pv0_4 g_0.Replicas pc0_4) (k_1:Int) (n_2:Int) (r:Group) (hF:wu k g_0 k_1 n_2=some r) (hS:Sep h lo (pc0_2++(pc0_4 ++
  (S0)))) : Ret E W 47 [.agg [.int .i64 g_0.Epoch,.int .i64 g_0.Leader,pv0_2,.int .i64 g_0.High,pv0_4],.int .i64 k_1,.int .i64 n_2] h (fun v h'=>∃ rc0_2 rc0_4,
  v = .agg [.int .i64 r.Epoch,.int .i64 r.Leader,pv0_2,.int .i64 r.High,
  pv0_4]∧SlF cI 1 3 pv0_2 r.InStep rc0_2∧SlN Replica.R 3 51 pv0_4 r.Replicas rc0_4∧Sep h' lo (rc0_2++(rc0_4++(S0)))):=by
 refine Ret.of (fn:=x47) rfl (Run.of ?_)
 unfold wu at hF
 have zf0:ze [.agg [.int .i64 g_0.Epoch,.int .i64 g_0.Leader,pv0_2,.int .i64 g_0.High,pv0_4],.int .i64 k_1,.int .i64 n_2] 0 = .agg [.int .i64 g_0.Epoch,
   .int .i64 g_0.Leader,pv0_2,.int .i64 g_0.High,pv0_4]:=rfl
 have zf1:ze [.agg [.int .i64 g_0.Epoch,.int .i64 g_0.Leader,pv0_2,.int .i64 g_0.High,pv0_4],.int .i64 k_1,.int .i64 n_2] 1 = .int .i64 k_1:=rfl
 have zf2:ze [.agg [.int .i64 g_0.Epoch,.int .i64 g_0.Leader,pv0_2,.int .i64 g_0.High,pv0_4],.int .i64 k_1,.int .i64 n_2] 2 = .int .i64 n_2:=rfl
 generalize ze [.agg [.int .i64 g_0.Epoch,.int .i64 g_0.Leader,pv0_2,.int .i64 g_0.High,pv0_4],.int .i64 k_1,.int .i64 n_2]=fr0 at zf0 zf1 zf2 ⊢
 simp only [x47,qe,qd,kp,zf0,B0,reduceIte,reduceEqDiff]
 refine jz (cs:=[.int .i64 g_0.Epoch,.int .i64 g_0.Leader,pv0_2,.int .i64 g_0.High,
   pv0_4]) hS rfl rfl (qk rfl (qk rfl (qk (SlF.one ph0_2) (qk rfl (qk (SlN.one ph0_4) zn))))) (fun b1 h2 hS3=>?_)
 simp only [je,B0,reduceIte,reduceEqDiff]
 refine zt hS3 (fun b5 h6 hS7=>?_)
 simp only [qa,B0,reduceIte,reduceEqDiff]
 refine zz (Sep.m1 hS7) hW (by simp only [B0,reduceIte,reduceEqDiff]) (fun h9 hS10=>?_)
 simp only [zw,qs6,qe,qd,qs,qb,Nat.reduceAdd,Nat.zero_add,Nat.add_zero,qr,qp,B0,reduceIte,reduceEqDiff]
 refine qj (v:=pv0_4) rfl ?_
 simp only [qs,qb,Nat.reduceAdd,Nat.zero_add,Nat.add_zero,qr,qp,B0,reduceIte,reduceEqDiff]
 refine qj (v := .int .i64 g_0.Leader) rfl ?_
 obtain ⟨x11,hx12,hF13⟩:=qi hF
 simp only [j0,B0,reduceIte,reduceEqDiff]
 obtain ⟨b14,hb15⟩:=SlN.isrow ph0_4 (ur hx12)
 refine qj (SlN.ia ph0_4 hb15 hx12) ?_
 obtain ⟨c16,cs17,os18,hv19,hR20,hS21⟩:=SlG.opn (SlN.toG ph0_4 hb15 Replica.RO.len) hx12 jk Replica.RO.len (Sep.m2 hS10)
 obtain ⟨v23,c24,hv25,rfl,rfl⟩:=hR20
 have hS22:=Sep.no1 hS21
 simp only [qs,qb,Nat.reduceAdd,Nat.zero_add,Nat.add_zero,qw,qp,B0,reduceIte,reduceEqDiff]
 refine qj (v:=v23) ((SlG.ld (o:=0) hv19 rfl hx12 hS22 (Nat.le_of_ble_eq_true rfl)).trans rfl) ?_
 simp only [qc,qa,qwd,qe,qd,qs,qb,Nat.reduceAdd,Nat.zero_add,Nat.add_zero,qr,qp,B0,reduceIte,reduceEqDiff]
 refine qj (v:=pv0_4) rfl ?_
 obtain ⟨x27,hx28,hF29⟩:=qi hF13
 simp only [zf1,qc,j0,B0,reduceIte,reduceEqDiff]
 refine qj (SlG.ia hv19 hx28) ?_
 obtain ⟨hp30,hF31⟩:=qiq hF29
 have hn32:=qyr hp30 hx12 hx28
 obtain ⟨c33,cs34,os35,hv36,hR37,hS38⟩:=SlG.opn hv19 hx28 ((qgj hn32).trans jk) Replica.RO.len hS22
 obtain ⟨v40,c41,hv42,rfl,rfl⟩:=hR37
 have hS39:=Sep.no1 hS38
 simp only [qp,B0,reduceIte,reduceEqDiff]
 refine qj (v := .agg [v40,.int .i64 x27.Epoch,.int .i64 x27.Known]) ((SlG.lds (o:=0) hv36 rfl hx28 hS39 (Nat.le_of_ble_eq_true rfl)).trans rfl) ?_
 simp only [je,B0,reduceIte,reduceEqDiff]
 refine zt hS39 (fun b44 h45 hS46=>?_)
 simp only [zg,B0,reduceIte,reduceEqDiff]
 refine qy (us:=[v40,.int .i64 x27.Epoch,.int .i64 x27.Known]) rfl (cs':=[v40,.int .i64 x27.Epoch,
   .int .i64 x27.Known]) hS46 hW rfl (qk (SlF.one hv42) (qk rfl (qk rfl zn))) (Nat.le_of_ble_eq_true rfl) rfl (fun h48 hS49=>?_)
 simp only [qa,qye,qe,qd,qs,qb,Nat.reduceAdd,Nat.zero_add,Nat.add_zero,qw,qp,B0,reduceIte,reduceEqDiff]
 refine qj (v:=v40) ((zu (Sep.bk _ _ _ hS49)).trans rfl) ?_
 obtain ⟨v50,hx51,hF52⟩:=qi hF31
 simp only [qc,za,B0,reduceIte,reduceEqDiff]
 refine js rfl (qh (SlF.snap hv42 (Sep.m2 hS49) rfl (fun _=>rfl) (fun _=>rfl)) (qh (SlF.snap hv25 (Sep.m3 hS49) rfl (fun _=>rfl) (fun _=>rfl)) qz))
   (qbq (fun b hb=>decide_eq_true hb) k x27.Log x11.Log v50 hx51) ?_
 simp only [qc,qa,qyt,qe,qd,zf2,jb,qb,SlF.plen hv25,q9,qdd,qcv,qwk,zb,B0,reduceIte,reduceEqDiff]
 obtain ⟨s53,hX55,hk56⟩:=qi hF52
 refine qb4 (t:=(decide ((IntKind.wrap .i64 ((List.length x11.Log:Int) - v50))<n_2)))
   (fun fr' h'=>fr' 1 = .int .i64 k_1∧fr' 2 = .int .i64 s53∧fr' 3 = .ref [.int .i64 g_0.Epoch,.int .i64 g_0.Leader,pv0_2,.int .i64 g_0.High,
   pv0_4] 0∧fr' 6 = .ptr b5 0∧fr' 7=v23∧fr' 8 = .ptr b44 0∧fr' 9 = .int .i64 v50∧Sep h' lo (pc0_2++(c33++([Blk1 b5 [.int .i64 0,.int .i64 0,.nil,.int .i64 0,
   .nil] 29]++(c24++([Blk1 b44 [v40,.int .i64 x27.Epoch,.int .i64 x27.Known] 51]++(c41++(S0)))))))) (fun Q57 hN58 hR59 hE60=>⟨fun hc61=>?_,fun hc61=>?_⟩) ?_
 ·rw [iteT hc61] at hX55
  simp only [qw6,qd,qc,jb,qb,SlF.plen hv25,q9,qdd,qa,qo,B0,reduceIte,reduceEqDiff]
  have e62:=ql hX55
  subst e62
  exact hN58 _ _ ⟨zf1,rfl,rfl,rfl,rfl,rfl,rfl,(Sep.m5 (Sep.m4 (Sep.m4 (Sep.m3 (Sep.m1 (Sep.m2 hS49))))))⟩
 ·rw [iteF hc61] at hX55
  simp only [zk,qo,B0,reduceIte,reduceEqDiff]
  have e63:=ql hX55
  subst e63
  exact hN58 _ _ ⟨zf1,zf2,rfl,rfl,rfl,rfl,rfl,(Sep.m5 (Sep.m4 (Sep.m4 (Sep.m3 (Sep.m1 (Sep.m2 hS49))))))⟩
 rintro fr64 h65 ⟨f67,f68,f69,f70,f71,f72,f73,hS66⟩
 unfold qal at hk56
 simp only [qx4,qe,qd,yu,evp,B0,reduceIte,reduceEqDiff]
 refine ye (n:=2) (f:=Row.cells) ([] : List Row) hS66 rfl rfl (fun v74 c75 h76 hv77 hS78=>?_)
 obtain ⟨l80,hx81,hF82⟩:=qi hk56
 simp only [f71,qc,f73,f68,q9,qb,qbf,qeq,Option.map_some,Option.map_none,B0,reduceIte,reduceEqDiff]
 obtain ⟨w83,i84,he85,hw86⟩:=SlF.win (f:=Row.cells) (ty:=98) none (some (IntKind.wrap .i64 (v50+s53))) hv25 hx81 (Sep.m4 hS78)
 refine qj he85 ?_
 simp only [uc,B0,reduceIte,reduceEqDiff]
 obtain ⟨l87,hx88,hF89⟩:=qi hF82
 refine wq (f:=Row.cells) hv77 hS78 hW (fun _=>rfl) (fun _=>rfl) (SlW.first hw86 hv25 (Sep.m4 hS78) (fun _=>rfl)) hx88 (fun v90 c91 h92 hv93 hS94=>?_)
 simp only [f72,qs,qb,Nat.reduceAdd,Nat.zero_add,Nat.add_zero,qw,zg,B0,reduceIte,reduceEqDiff]
 refine qy (us:=[v90]) (k5 (SlF.one hv93)) (cs':=[v90,.int .i64 x27.Epoch,
   .int .i64 x27.Known]) (Sep.m5 hS94) hW rfl (qk (SlF.one hv93) zn) (Nat.le_of_ble_eq_true rfl) rfl (fun h96 hS97=>?_)
 simp only [qa,qyz,qe,qd,f69,qs,qb,Nat.reduceAdd,Nat.zero_add,Nat.add_zero,qr,qp,B0,reduceIte,reduceEqDiff]
 refine qj (v := .int .i64 g_0.Epoch) rfl ?_
 simp only [f72,qs,qb,Nat.reduceAdd,Nat.zero_add,Nat.add_zero,qw,zg,B0,reduceIte,reduceEqDiff]
 refine qy (us:=[.int .i64 g_0.Epoch]) rfl (cs':=[v90,.int .i64 g_0.Epoch,.int .i64 x27.Known]) hS97 hW rfl rfl (Nat.le_of_ble_eq_true rfl) rfl (fun h98 hS99=>?_)
 simp only [qa,qy1,qe,qd,f72,qs,qb,Nat.reduceAdd,Nat.zero_add,Nat.add_zero,qw,qp,B0,reduceIte,reduceEqDiff]
 refine qj (v:=v90) ((zu (Sep.bk _ _ _ hS99)).trans rfl) ?_
 simp only [jb,qb,SlF.plen hv93,f72,qs,Nat.reduceAdd,Nat.zero_add,Nat.add_zero,qw,zg,B0,reduceIte,reduceEqDiff]
 refine qy (us:=[.int .i64 (List.length l87:Int)]) rfl (cs':=[v90,.int .i64 g_0.Epoch,
   .int .i64 (List.length l87:Int)]) hS99 hW rfl rfl (Nat.le_of_ble_eq_true rfl) rfl (fun h100 hS101=>?_)
 simp only [qa,qv6,qe,qd,f69,qs,qb,Nat.reduceAdd,Nat.zero_add,Nat.add_zero,qr,qp,B0,reduceIte,reduceEqDiff]
 refine qj (v:=pv0_4) rfl ?_
 simp only [f67,qc,f72,qp,B0,reduceIte,reduceEqDiff]
 refine qj (v := .agg [v90,.int .i64 g_0.Epoch,.int .i64 (List.length l87:Int)]) ((zv (Sep.bk _ _ _ hS101)).trans rfl) ?_
 simp only [j0,B0,reduceIte,reduceEqDiff]
 refine qj (SlG.ia hv36 hx28) ?_
 simp only [zg,B0,reduceIte,reduceEqDiff]
 refine qe0 (n:=3) (us:=[v90,.int .i64 g_0.Epoch,.int .i64 (List.length l87:Int)]) (cs:=[v40,.int .i64 x27.Epoch,.int .i64 x27.Known]) (o:=0) (cs':=[v90,
   .int .i64 g_0.Epoch,.int .i64 (List.length l87:Int)]) rfl hv36 rfl hx28 (Sep.m3 hS101) hW rfl (qk (SlF.one hv93) (qk rfl (qk rfl zn)))
   (Nat.le_of_ble_eq_true rfl) rfl (fun c104 h102 hv105 hS103=>?_)
 simp only [qa,qe,qd,f69,qp,B0,reduceIte,reduceEqDiff]
 refine qj (v := .agg [.int .i64 g_0.Epoch,.int .i64 g_0.Leader,pv0_2,.int .i64 g_0.High,pv0_4]) rfl ?_
 simp only [f70,zg,B0,reduceIte,reduceEqDiff]
 refine qy (us:=[.int .i64 g_0.Epoch,.int .i64 g_0.Leader,pv0_2,.int .i64 g_0.High,pv0_4]) rfl (cs':=[.int .i64 g_0.Epoch,.int .i64 g_0.Leader,pv0_2,
   .int .i64 g_0.High,pv0_4]) (Sep.m4 hS103) hW rfl (qk rfl (qk rfl (qk (SlF.one ph0_2) (qk rfl (qk (SlG.one hv105) zn))))) (Nat.le_of_ble_eq_true rfl) rfl
   (fun h106 hS107=>?_)
 simp only [qa,q8,B0,reduceIte,reduceEqDiff]
 obtain ⟨c108,hv109,hS110⟩:=SlG.cls (e':=(Replica.mk l87 g_0.Epoch (List.length l87:Int))) (c:=c104) (os:=c91) hv105 rfl hx28 ((qgj hn32).trans jk) (Replica.RI
   (x:=(Replica.mk l87 g_0.Epoch (List.length l87:Int))) hv93) (Sep.m2 (Sep.m3 hS107))
 have hx111:=qcm (x':=(Replica.mk l87 g_0.Epoch (List.length l87:Int))) hx28
 have hx112:=qiw (e:=(Replica.mk l87 g_0.Epoch (List.length l87:Int))) hx12 (Ne.symm hn32)
 obtain ⟨c113,hv114,hS115⟩:=SlG.cls0 (c:=c108) (os:=c24) hv109 rfl hx112 jk (Replica.RI (x:=x11) hv25) (Sep.m1 (Sep.m4 hS110))
 have hv116:=SlG.toN hv114
 have he:=ql hF89
 subst he
 refine we (bb:=b5) (oo:=0) (v := .agg [.int .i64 g_0.Epoch,.int .i64 g_0.Leader,pv0_2,.int .i64 g_0.High,pv0_4]) (by simp only [f70,B0,reduceIte,
   reduceEqDiff]) ((zv (Sep.bk _ _ _ (Sep.m1 hS115))).trans rfl) ?_
 exact ⟨pc0_2,c113,by first | trivial | rfl,ph0_2,hv116,(Sep.m1 (Sep.dc (Sep.m2 (Sep.dc (Sep.m1 (Sep.dc (Sep.m1 hS115)))))))⟩
theorem qh3 {W:Nat→Bool}{h:Heap}{lo:Nat→Prop}{S0:List Obj} (hW:∀ b,
  lo b→W b=true) (k:Nat) (pv0:XV) (pc0:List Obj) (l_0:List Int) (ph0:SlF cI 1 3 pv0 l_0 pc0) (n_1:Int) (r:List Int) (hF:qb3 k l_0 n_1=some r)
  (hS:Sep h lo (pc0++(S0))) : Ret E W 48 [pv0,.int .i64 n_1] h (fun v h'=>∃ rv0 rc0,v=rv0∧SlF cI 1 3 rv0 r rc0∧Sep h' lo (rc0++(S0))):=by
 refine Ret.of (fn:=x48) rfl (Run.of ?_)
 unfold qb3 at hF
 have zf0:ze [pv0,.int .i64 n_1] 0=pv0:=rfl
 have zf1:ze [pv0,.int .i64 n_1] 1 = .int .i64 n_1:=rfl
 generalize ze [pv0,.int .i64 n_1]=fr0 at zf0 zf1 ⊢
 simp only [x48,qe,qd,qc,qa,qq5,q1p,B0,reduceIte,reduceEqDiff]
 obtain ⟨oc5,hX7,hk8⟩:=kq hF
 simp only [q0u]
 refine qfn (σ:=Int) (fun s47=>qdn l_0 n_1 s47) (fun s fr' h'=>fr' 0=pv0∧fr' 1 = .int .i64 n_1∧fr' 5 = .int .i64 s∧Sep h' lo (pc0++(S0))) hX7 ⟨zf0,
   zf1,rfl,hS⟩ (fun _ _ _ h=>h) ?_ ?_
 ·rintro s2 fr17 h18 ⟨f20,f21,f22,hS19⟩ oc6 hF9 hr10 Q11 hN12 hK13 hR14 hE15
  unfold qdn at hF9
  simp only [qzq,qe,qd,f22,qc,f20,jb,qb,SlF.plen ph0,q9,u0,B0,reduceIte,reduceEqDiff]
  obtain ⟨v27,hx28,hF29⟩:=qi hF9
  refine ji 7 (fun fr' h'=>Sep h' lo (pc0++(S0))∧fr' 18 = .bool v27∧fr' 0=pv0∧fr' 1 = .int .i64 n_1∧fr' 5 = .int .i64 s2) (fun Q24 hN25=>?_) ?_
  ·simp only [List.take_succ_cons,List.take_zero]
   simp only [qf (g:=11),B0,reduceIte,reduceEqDiff]
   refine zf (t:=(decide (s2<(List.length l_0:Int)))) (fun hg26=>?_) (fun hg26=>?_)
   ·rw [iteT hg26] at hx28
    obtain ⟨x30,hx31,hF32⟩:=qi hx28
    simp only [hg26,qf (g:=11),zl,f20,qc,f22,j0,B0,reduceIte,reduceEqDiff]
    obtain ⟨b33,hb34⟩:=SlF.isrow ph0 (ur hx31)
    refine qj (SlF.ia ph0 hb34 hx31) ?_
    simp only [hg26,qf (g:=11),zl,qp,B0,reduceIte,reduceEqDiff]
    refine qj (v := .int .i64 x30) ((SlF.ld (o:=0) ph0 hS19 hb34 hx31 (fun _=>rfl) (Nat.le_of_ble_eq_true rfl)).trans rfl) ?_
    simp only [hg26,qf (g:=11),zl,f21,qc,q9,qb,u0,qt,zh,qa,qo,B0,reduceIte,reduceEqDiff]
    have e35:=ql hF32
    exact hN25 _ _ ⟨hS19,by rw [←e35]; simp only [B0,reduceIte,reduceEqDiff],f20,f21,f22⟩
   ·rw [iteF hg26] at hx28
    simp only [hg26,qf (g:=11),jo,qt,qb,zi,qa,qo,B0,reduceIte,reduceEqDiff]
    have e36:=ql hx28
    exact hN25 _ _ ⟨hS19,by rw [←e36]; simp only [B0,reduceIte,reduceEqDiff],f20,f21,f22⟩
  rintro fr37 h42 ⟨hS43,f38,f39,f40,f41⟩
  simp only [List.drop_succ_cons,List.drop_zero]
  simp only [qa,f38,zb,B0,reduceIte,reduceEqDiff]
  refine zd (t:=v27) (fun hc44=>?_) (fun hc44=>?_)
  ·rw [iteT hc44] at hF29
   simp only [zk,w6,qd,f41,qc,q9,qb,qbf,qa,wb,qo,B0,reduceIte,reduceEqDiff]
   have e45:=ql hF29
   exact hN12 _ _ _ e45.symm ⟨f39,f40,rfl,hS43⟩
  rw [iteF hc44] at hF29
  simp only [qdq,qci,qdt,B0,reduceIte,reduceEqDiff]
  have e46:=ql hF29
  exact hK13 _ _ _ e46.symm ⟨f39,f40,f41,hS43⟩
 rintro s48 fr49 h50 rfl ⟨f52,f53,f54,hS51⟩
 dsimp only [jnO] at hk8
 unfold qfb at hk8
 simp only [q1c,qe,qd,f54,qc,f52,jb,qb,SlF.plen ph0,q9,u0,B0,reduceIte,reduceEqDiff]
 obtain ⟨v58,hx59,hF60⟩:=qi hk8
 refine ji 7 (fun fr' h'=>Sep h' lo (pc0++(S0))∧fr' 32 = .bool v58∧fr' 0=pv0∧fr' 1 = .int .i64 n_1∧fr' 5 = .int .i64 s48) (fun Q55 hN56=>?_) ?_
 ·simp only [List.take_succ_cons,List.take_zero]
  simp only [qf (g:=25),B0,reduceIte,reduceEqDiff]
  refine zf (t:=(decide (s48<(List.length l_0:Int)))) (fun hg57=>?_) (fun hg57=>?_)
  ·rw [iteT hg57] at hx59
   obtain ⟨x61,hx62,hF63⟩:=qi hx59
   simp only [hg57,qf (g:=25),zl,f52,qc,f54,j0,B0,reduceIte,reduceEqDiff]
   obtain ⟨b64,hb65⟩:=SlF.isrow ph0 (ur hx62)
   refine qj (SlF.ia ph0 hb65 hx62) ?_
   simp only [hg57,qf (g:=25),zl,qp,B0,reduceIte,reduceEqDiff]
   refine qj (v := .int .i64 x61) ((SlF.ld (o:=0) ph0 hS51 hb65 hx62 (fun _=>rfl) (Nat.le_of_ble_eq_true rfl)).trans rfl) ?_
   simp only [hg57,qf (g:=25),zl,f53,qc,q9,qb,yd,qt,zh,qa,qo,B0,reduceIte,reduceEqDiff]
   have e66:=ql hF63
   exact hN56 _ _ ⟨hS51,by rw [←e66]; simp only [B0,reduceIte,reduceEqDiff],f52,f53,f54⟩
  ·rw [iteF hg57] at hx59
   simp only [hg57,qf (g:=25),jo,qt,qb,zi,qa,qo,B0,reduceIte,reduceEqDiff]
   have e67:=ql hx59
   exact hN56 _ _ ⟨hS51,by rw [←e67]; simp only [B0,reduceIte,reduceEqDiff],f52,f53,f54⟩
 rintro fr68 h73 ⟨hS74,f69,f70,f71,f72⟩
 simp only [List.drop_succ_cons,List.drop_zero]
 simp only [qa,q2f,f69,zb,B0,reduceIte,reduceEqDiff]
 refine zd (t:=v58) (fun hc75=>?_) (fun hc75=>?_)
 ·rw [iteT hc75] at hF60
  simp only [qe,qd,f70,qc,qa,q8,B0,reduceIte,reduceEqDiff]
  have he:=ql hF60
  subst he
  simp only [zj,B0,reduceIte,reduceEqDiff]
  exact ⟨pv0,pc0,by first | trivial | rfl,ph0,hS74⟩
 rw [iteF hc75] at hF60
 obtain ⟨l76,hx77,hF78⟩:=qi hF60
 simp only [zk,qyx,qe,qd,qc,qa,q2x,f70,f72,qeq,Option.map_some,Option.map_none,B0,reduceIte,reduceEqDiff]
 obtain ⟨w79,i80,he81,hw82⟩:=SlF.win (f:=cI) (ty:=3) none (some s48) ph0 hx77 hS74
 refine qj he81 ?_
 simp only [uc,B0,reduceIte,reduceEqDiff]
 obtain ⟨l83,hx84,hF85⟩:=qi hF78
 refine wq (f:=cI) SlF.nil hS74 hW (fun _=>rfl) (fun _=>rfl) (SlW.first hw82 ph0 hS74 (fun _=>rfl)) hx84 (fun v86 c87 h88 hv89 hS90=>?_)
 simp only [qc,qa,q2e,qe,qd,f71,yu,evp,B0,reduceIte,reduceEqDiff]
 refine ye (n:=1) (f:=cI) [n_1] hS90 rfl rfl (fun v92 c93 h94 hv95 hS96=>?_)
 simp only [uc,B0,reduceIte,reduceEqDiff]
 obtain ⟨l98,hx99,hF100⟩:=qi hF85
 refine wq (f:=cI) hv89 (Sep.m1 hS96) hW (fun _=>rfl) (fun _=>rfl) (SlF.first hv95 hS96 (fun _=>rfl)) hx99 (fun v101 c102 h103 hv104 hS105=>?_)
 obtain ⟨l107,hx108,hF109⟩:=qi hF100
 simp only [qc,qa,q2d,qe,qd,f70,f72,qeq,Option.map_some,Option.map_none,B0,reduceIte,reduceEqDiff]
 obtain ⟨w110,i111,he112,hw113⟩:=SlF.win (f:=cI) (ty:=3) (some s48) none ph0 hx108 (Sep.m2 hS105)
 refine qj he112 ?_
 simp only [uc,B0,reduceIte,reduceEqDiff]
 obtain ⟨l114,hx115,hF116⟩:=qi hF109
 refine wq (f:=cI) hv104 hS105 hW (fun _=>rfl) (fun _=>rfl) (SlW.first hw113 ph0 (Sep.m2 hS105) (fun _=>rfl)) hx115 (fun v117 c118 h119 hv120 hS121=>?_)
 simp only [qc,qa,q8,B0,reduceIte,reduceEqDiff]
 have he:=ql hF116
 subst he
 simp only [zj,B0,reduceIte,reduceEqDiff]
 exact ⟨v117,c118,by first | trivial | rfl,hv120,(Sep.dc (Sep.m1 (Sep.dc (Sep.m1 hS121))))⟩
theorem qd5 {W:Nat→Bool}{h:Heap} (hW:∀ b,
  (geL h.length) b→W b=true) (g_0:Group) (r:Int) (hF:wj g_0=some r) : Ret E W 49 [.agg [.int .i64 g_0.Epoch,.int .i64 g_0.Leader,lst cI g_0.InStep,
  .int .i64 g_0.High,lst Replica.cells g_0.Replicas]] h (fun v h'=>cut h.length h' E.sz false 9 v=some (.int .i64 r)):=by
 refine Ret.of (fn:=x49) rfl (Run.of ?_)
 unfold wj at hF
 have zf0:ze [.agg [.int .i64 g_0.Epoch,.int .i64 g_0.Leader,lst cI g_0.InStep,.int .i64 g_0.High,lst Replica.cells g_0.Replicas]] 0 = .agg [.int .i64 g_0.Epoch,
   .int .i64 g_0.Leader,lst cI g_0.InStep,.int .i64 g_0.High,lst Replica.cells g_0.Replicas]:=rfl
 generalize ze [.agg [.int .i64 g_0.Epoch,.int .i64 g_0.Leader,lst cI g_0.InStep,.int .i64 g_0.High,lst Replica.cells g_0.Replicas]]=fr0 at zf0 ⊢
 have hS:Sep h (geL h.length) []:=Sep.nil h
 simp only [x49,qe,qd,kp,zf0,B0,reduceIte,reduceEqDiff]
 refine jz (cs:=[.int .i64 g_0.Epoch,.int .i64 g_0.Leader,lst cI g_0.InStep,.int .i64 g_0.High,lst Replica.cells g_0.Replicas]) hS rfl rfl rfl (fun b1 h2 hS3=>?_)
 simp only [qc,qa,B0,reduceIte,reduceEqDiff]
 refine zz hS3 hW (by simp only [B0,reduceIte,reduceEqDiff]) (fun h5 hS6=>?_)
 simp only [zw,qwc,qe,qd,qc,qa,qww,qs,qb,Nat.reduceAdd,Nat.zero_add,Nat.add_zero,qr,qp,B0,reduceIte,
   reduceEqDiff]
 refine qj (v:=lst cI g_0.InStep) rfl ?_
 simp only [jb,qb,jl,qc,qa,B0,reduceIte,reduceEqDiff]
 obtain ⟨oc11,hX13,hk14⟩:=kq hF
 simp only [qyd]
 refine xl (σ:=Int) g_0.InStep (fun i9 x10 s50=>kc g_0 i9 x10 s50) (fun s fr' h'=>fr' 1 = .ref [.int .i64 g_0.Epoch,.int .i64 g_0.Leader,
   lst cI g_0.InStep,.int .i64 g_0.High,lst Replica.cells g_0.Replicas] 0∧fr' 3 = .int .i64 s∧fr' 8=lst cI g_0.InStep∧Sep h' (geL h.length) ([])) hX13 ⟨rfl,rfl,rfl,
   hS6⟩ (by simp only [B0,reduceIte,reduceEqDiff]) (by simp only [B0,reduceIte,
   reduceEqDiff]) (fun _ _ _ h=>h) rfl rfl (fun _ _ _ _ h=>h) (fun _ _ _ _ h=>h) (fun _ _ _ _ h=>h) (by decide) ?_ ?_
 ·rintro i9 x10 s8 fr23 h24 hx29 ⟨f26,f27,f28,hS25⟩ f30 f31 oc12 hF15 hr16 Q17 hN18 hB22 hK19 hR20 hE21
  unfold kc at hF15
  simp only [q05,qe,qd,f28,f30,j0,B0,reduceIte,reduceEqDiff]
  refine qj (v := .ref (cI x10) 0) (xw hx29 rfl) ?_
  simp only [qp,B0,reduceIte,reduceEqDiff]
  refine qj (v := .int .i64 x10) rfl ?_
  simp only [qc,qa,q2h,qe,qd,f26,qs,qb,Nat.reduceAdd,Nat.zero_add,Nat.add_zero,qr,qp,B0,reduceIte,reduceEqDiff]
  refine qj (v:=lst Replica.cells g_0.Replicas) rfl ?_
  obtain ⟨x32,hx33,hF34⟩:=qi hF15
  simp only [qc,j0,B0,reduceIte,reduceEqDiff]
  refine qj (v := .ref (Replica.cells x32) 0) (kz hx33 rfl) ?_
  simp only [qp,B0,reduceIte,reduceEqDiff]
  refine qj (v := .agg [lst Row.cells x32.Log,.int .i64 x32.Epoch,.int .i64 x32.Known]) rfl ?_
  simp only [je,B0,reduceIte,reduceEqDiff]
  refine zt hS25 (fun b35 h36 hS37=>?_)
  simp only [zg,B0,reduceIte,reduceEqDiff]
  refine qy (us:=[lst Row.cells x32.Log,.int .i64 x32.Epoch,.int .i64 x32.Known]) rfl (cs':=[lst Row.cells x32.Log,.int .i64 x32.Epoch,
    .int .i64 x32.Known]) hS37 hW rfl rfl (Nat.le_of_ble_eq_true rfl) rfl (fun h39 hS40=>?_)
  simp only [qa,B0,reduceIte,reduceEqDiff]
  refine zz hS40 hW (by simp only [B0,reduceIte,reduceEqDiff]) (fun h41 hS42=>?_)
  simp only [zw,qyq,qe,qd,qs,qb,Nat.reduceAdd,Nat.zero_add,Nat.add_zero,qr,qp,B0,reduceIte,reduceEqDiff]
  refine qj (v := .int .i64 x32.Epoch) rfl ?_
  simp only [f26,qs,qb,Nat.reduceAdd,Nat.zero_add,Nat.add_zero,qr,qp,B0,reduceIte,reduceEqDiff]
  refine qj (v := .int .i64 g_0.Epoch) rfl ?_
  simp only [q9,qb,qao,qa,zb,B0,reduceIte,reduceEqDiff]
  refine zd (t:=(decide (x32.Epoch≠g_0.Epoch))) (fun hc43=>?_) (fun hc43=>?_)
  ·rw [iteT hc43] at hF34
   simp only [qe,qd,qc,qa,q8,B0,reduceIte,reduceEqDiff]
   have e44:=ql hF34
   subst e44
   have ho45:=hr16 _ rfl
   have hk46:=hk14
   rw [ho45] at hk46
   dsimp only [jnO] at hk46
   apply hR20
   have he:=ql hk46
   subst he
   simp only [zj,B0,reduceIte,reduceEqDiff]
   exact rfl
  rw [iteF hc43] at hF34
  simp only [zk,qv8,qe,qd,qs,qb,Nat.reduceAdd,Nat.zero_add,Nat.add_zero,qr,qp,B0,reduceIte,reduceEqDiff]
  refine qj (v := .int .i64 x32.Known) rfl ?_
  simp only [f27,qc,q9,qb,u0,qa,qwj,zb,B0,reduceIte,reduceEqDiff]
  refine zd (t:=(decide (x32.Known<s8))) (fun hc47=>?_) (fun hc47=>?_)
  ·rw [iteT hc47] at hF34
   simp only [qd,qs,qb,Nat.reduceAdd,Nat.zero_add,Nat.add_zero,qr,qp,B0,reduceIte,reduceEqDiff]
   refine qj (v := .int .i64 x32.Known) rfl ?_
   simp only [qc,qa,qo,B0,reduceIte,reduceEqDiff]
   have e48:=ql hF34
   exact hN18 _ _ _ e48.symm ⟨f26,rfl,f28,hS42⟩ (f30) (f31)
  rw [iteF hc47] at hF34
  simp only [zk,qo,B0,reduceIte,reduceEqDiff]
  have e49:=ql hF34
  exact hN18 _ _ _ e49.symm ⟨f26,f27,f28,hS42⟩ (f30) (f31)
 rintro s51 fr52 h53 rfl ⟨f55,f56,f57,hS54⟩
 dsimp only [jnO] at hk14
 unfold qft at hk14
 simp only [qe,qd,f56,qc,qa,q8,B0,reduceIte,reduceEqDiff]
 have he:=ql hk14
 subst he
 simp only [zj,B0,reduceIte,reduceEqDiff]
 exact rfl
theorem qh9 {W:Nat→Bool}{h:Heap} (hW:∀ b,
  (geL h.length) b→W b=true) (k:Nat) (v_0:Group) (r:Group × Int × Bool) (hF:qai k v_0=some r) : Ret E W 9 [.agg [.int .i64 v_0.Epoch,
  .int .i64 v_0.Leader,lst cI v_0.InStep,.int .i64 v_0.High,lst Replica.cells v_0.Replicas]] h (fun v h'=>∃ rv0_2 rc0_2 rv0_4 rc0_4,v = .tup [.agg [.int .i64 r.1.Epoch,
  .int .i64 r.1.Leader,rv0_2,.int .i64 r.1.High,rv0_4],.int .i64 r.2.1,
  .bool r.2.2]∧SlF cI 1 3 rv0_2 r.1.InStep rc0_2∧SlN Replica.R 3 51 rv0_4 r.1.Replicas rc0_4∧Sep h' (geL h.length) (rc0_2++(rc0_4++([])))):=by
 refine Ret.of (fn:=x9) rfl (Run.of ?_)
 unfold qai at hF
 have zf0:ze [.agg [.int .i64 v_0.Epoch,.int .i64 v_0.Leader,lst cI v_0.InStep,.int .i64 v_0.High,lst Replica.cells v_0.Replicas]] 0 = .agg [.int .i64 v_0.Epoch,
   .int .i64 v_0.Leader,lst cI v_0.InStep,.int .i64 v_0.High,lst Replica.cells v_0.Replicas]:=rfl
 generalize ze [.agg [.int .i64 v_0.Epoch,.int .i64 v_0.Leader,lst cI v_0.InStep,.int .i64 v_0.High,lst Replica.cells v_0.Replicas]]=fr0 at zf0 ⊢
 have hS:Sep h (geL h.length) []:=Sep.nil h
 simp only [x9,qe,qd,kp,zf0,B0,reduceIte,reduceEqDiff]
 refine jz (cs:=[.int .i64 v_0.Epoch,.int .i64 v_0.Leader,lst cI v_0.InStep,.int .i64 v_0.High,lst Replica.cells v_0.Replicas]) hS rfl rfl rfl (fun b1 h2 hS3=>?_)
 simp only [je,B0,reduceIte,reduceEqDiff]
 refine zt hS3 (fun b5 h6 hS7=>?_)
 simp only [qc,qa,B0,reduceIte,reduceEqDiff]
 refine zz (Sep.m1 hS7) hW (by simp only [B0,reduceIte,reduceEqDiff]) (fun h9 hS10=>?_)
 simp only [zw,qyb,qe,qd,qp,B0,reduceIte,reduceEqDiff]
 refine qj (v := .agg [.int .i64 v_0.Epoch,.int .i64 v_0.Leader,lst cI v_0.InStep,.int .i64 v_0.High,lst Replica.cells v_0.Replicas]) rfl ?_
 obtain ⟨v11,hx12,hF13⟩:=qi hF
 simp only [za,B0,reduceIte,reduceEqDiff]
 refine js rfl (qh (jd (qh qm (qh qm (qh zo (qh qm (qh zo qz)))))) qz) (qah
   (fun b hb=>decide_eq_true hb) k v_0 v11 hx12) ?_
 simp only [ka,qb,kx,qa,q5e,zb,B0,reduceIte,reduceEqDiff]
 refine zd (t:=(!v11)) (fun hc14=>?_) (fun hc14=>?_)
 ·rw [iteT hc14] at hF13
  simp only [q4s,qe,qd,run_build,evp,B0,reduceIte,reduceEqDiff]
  refine qj (v := .agg [.int .i64 0,.int .i64 0,.nil,.int .i64 0,.nil]) rfl ?_
  simp only [zg,B0,reduceIte,reduceEqDiff]
  refine qy (us:=[.int .i64 0,.int .i64 0,.nil,.int .i64 0,.nil]) rfl (cs':=[.int .i64 0,.int .i64 0,.nil,.int .i64 0,
    .nil]) hS10 hW rfl rfl (Nat.le_of_ble_eq_true rfl) rfl (fun h15 hS16=>?_)
  simp only [qc,qa,q8,B0,reduceIte,reduceEqDiff]
  have he:=ql hF13
  subst he
  refine jy (qh (j6 (bb:=b5) (oo:=0) (v := .agg [.int .i64 0,.int .i64 0,.nil,.int .i64 0,
    .nil]) (rfl) ((zv (Sep.bk _ _ _ hS16)).trans rfl)) (qh (yq (v := .int .i64 0) (rfl)) (qh (yq (v := .bool false) (rfl)) qz))) ?_
  exact ⟨.nil,[],.nil,[],by first | trivial | rfl,SlF.nil,SlN.nil,((Sep.dc (hS16)) : Sep _ (geL h.length) ([]))⟩
 rw [iteF hc14] at hF13
 simp only [zk,qxz,qe,qd,qp,B0,reduceIte,reduceEqDiff]
 refine qj (v := .agg [.int .i64 v_0.Epoch,.int .i64 v_0.Leader,lst cI v_0.InStep,.int .i64 v_0.High,lst Replica.cells v_0.Replicas]) rfl ?_
 obtain ⟨v17,hx18,hF19⟩:=qi hF13
 simp only [za,B0,reduceIte,reduceEqDiff]
 refine uo rfl hS10 (qh (jd (qh qm (qh qm (qh zo (qh qm (qh zo qz)))))) qz) (qaw
   (fun b hb=>decide_eq_true hb) v_0 v17 hx18) ?_
 rintro _ h28 ⟨v20,c21,v24,c25,rfl,hv22,hv26,hS29⟩
 refine ⟨_,qcg (qk rfl (qk rfl (qk (SlF.free1 hv22) (qk rfl (qk (SlN.free1 hv26) zn))))),hS29,
   (jt (SlF.pf hv22 (fun _=>rfl)) (jt (SlN.pf hv26 Replica.RO) wi)),fun h30 hS31=>?_⟩
 have hS32:Sep h30 (geL h.length) (c21++(c25++([Blk1 b5 [.int .i64 0,.int .i64 0,.nil,.int .i64 0,.nil] 29]++([])))):=by simpa only [List.append_assoc,
   List.nil_append] using hS31
 simp only [je,B0,reduceIte,reduceEqDiff]
 refine zt hS32 (fun b33 h34 hS35=>?_)
 simp only [zg,B0,reduceIte,reduceEqDiff]
 refine qy (us:=[.int .i64 v17.Epoch,.int .i64 v17.Leader,v20,.int .i64 v17.High,v24]) rfl (cs':=[.int .i64 v17.Epoch,.int .i64 v17.Leader,v20,
   .int .i64 v17.High,v24]) hS35 hW rfl (qk rfl (qk rfl (qk (SlF.one hv22) (qk rfl (qk (SlN.one hv26) zn))))) (Nat.le_of_ble_eq_true rfl) rfl
   (fun h37 hS38=>?_)
 simp only [qa,qxo,qe,qd,qs,qb,Nat.reduceAdd,Nat.zero_add,Nat.add_zero,qw,qp,B0,reduceIte,reduceEqDiff]
 refine qj (v:=v24) ((zu (Sep.bk _ _ _ hS38)).trans rfl) ?_
 simp only [qs,qb,Nat.reduceAdd,Nat.zero_add,Nat.add_zero,qw,qp,B0,reduceIte,reduceEqDiff]
 refine qj (v := .int .i64 v17.Leader) ((zu (Sep.bk _ _ _ hS38)).trans rfl) ?_
 obtain ⟨x39,hx40,hF41⟩:=qi hF19
 simp only [j0,B0,reduceIte,reduceEqDiff]
 obtain ⟨b42,hb43⟩:=SlN.isrow hv26 (ur hx40)
 refine qj (SlN.ia hv26 hb43 hx40) ?_
 obtain ⟨c44,cs45,os46,hv47,hR48,hS49⟩:=SlG.opn (SlN.toG hv26 hb43 Replica.RO.len) hx40 jk Replica.RO.len (Sep.m2 hS38)
 obtain ⟨v51,c52,hv53,rfl,rfl⟩:=hR48
 have hS50:=Sep.no1 hS49
 simp only [qp,B0,reduceIte,reduceEqDiff]
 refine qj (v := .agg [v51,.int .i64 x39.Epoch,.int .i64 x39.Known]) ((SlG.lds (o:=0) hv47 rfl hx40 hS50 (Nat.le_of_ble_eq_true rfl)).trans rfl) ?_
 simp only [je,B0,reduceIte,reduceEqDiff]
 refine zt hS50 (fun b55 h56 hS57=>?_)
 simp only [zg,B0,reduceIte,reduceEqDiff]
 refine qy (us:=[v51,.int .i64 x39.Epoch,.int .i64 x39.Known]) rfl (cs':=[v51,.int .i64 x39.Epoch,
   .int .i64 x39.Known]) hS57 hW rfl (qk (SlF.one hv53) (qk rfl (qk rfl zn))) (Nat.le_of_ble_eq_true rfl) rfl (fun h59 hS60=>?_)
 simp only [qa,qx0,qe,qd,qs,qb,Nat.reduceAdd,Nat.zero_add,Nat.add_zero,qw,qp,B0,reduceIte,reduceEqDiff]
 refine qj (v := .int .i64 v17.Epoch) ((zu (Sep.bk _ _ _ (Sep.m3 hS60))).trans rfl) ?_
 simp only [qs,qb,Nat.reduceAdd,Nat.zero_add,Nat.add_zero,qw,zg,B0,reduceIte,reduceEqDiff]
 refine qy (us:=[.int .i64 v17.Epoch]) rfl (cs':=[v51,.int .i64 v17.Epoch,.int .i64 x39.Known]) hS60 hW rfl rfl (Nat.le_of_ble_eq_true rfl) rfl (fun h61 hS62=>?_)
 simp only [qa,qyi,qe,qd,qs,qb,Nat.reduceAdd,Nat.zero_add,Nat.add_zero,qw,qp,B0,reduceIte,reduceEqDiff]
 refine qj (v:=v51) ((zu (Sep.bk _ _ _ hS62)).trans rfl) ?_
 simp only [jb,qb,SlF.plen hv53,qs,Nat.reduceAdd,Nat.zero_add,Nat.add_zero,qw,zg,B0,reduceIte,reduceEqDiff]
 refine qy (us:=[.int .i64 (List.length x39.Log:Int)]) rfl (cs':=[v51,.int .i64 v17.Epoch,
   .int .i64 (List.length x39.Log:Int)]) hS62 hW rfl rfl (Nat.le_of_ble_eq_true rfl) rfl (fun h63 hS64=>?_)
 simp only [qa,qyj,qe,qd,qs,qb,Nat.reduceAdd,Nat.zero_add,Nat.add_zero,qw,qp,B0,reduceIte,reduceEqDiff]
 refine qj (v:=v24) ((zu (Sep.bk _ _ _ (Sep.m3 hS64))).trans rfl) ?_
 simp only [qs,qb,Nat.reduceAdd,Nat.zero_add,Nat.add_zero,qw,qp,B0,reduceIte,reduceEqDiff]
 refine qj (v := .int .i64 v17.Leader) ((zu (Sep.bk _ _ _ (Sep.m3 hS64))).trans rfl) ?_
 simp only [qp,B0,reduceIte,reduceEqDiff]
 refine qj (v := .agg [v51,.int .i64 v17.Epoch,.int .i64 (List.length x39.Log:Int)]) ((zv (Sep.bk _ _ _ hS64)).trans rfl) ?_
 simp only [j0,B0,reduceIte,reduceEqDiff]
 refine qj (SlG.ia hv47 hx40) ?_
 simp only [zg,B0,reduceIte,reduceEqDiff]
 refine qe0 (n:=3) (us:=[v51,.int .i64 v17.Epoch,.int .i64 (List.length x39.Log:Int)]) (cs:=[v51,.int .i64 x39.Epoch,
   .int .i64 x39.Known]) (o:=0) (cs':=[v51,.int .i64 v17.Epoch,
   .int .i64 (List.length x39.Log:Int)]) rfl hv47 rfl hx40 (Sep.m1 hS64) hW rfl (qk (SlF.one hv53) (qk rfl (qk rfl zn))) (Nat.le_of_ble_eq_true rfl) rfl
   (fun c67 h65 hv68 hS66=>?_)
 simp only [qa,q3j,qe,qd,qs,qb,Nat.reduceAdd,Nat.zero_add,Nat.add_zero,qw,qp,B0,reduceIte,reduceEqDiff]
 refine qj (v:=v24) ((zu (Sep.bk _ _ _ (Sep.m3 hS66))).trans rfl) ?_
 simp only [jb,qb,SlG.plen hv68,qc,qa,B0,reduceIte,reduceEqDiff]
 obtain ⟨c69,hv70,hS71⟩:=SlG.cls (e':=(Replica.mk x39.Log v17.Epoch (List.length x39.Log:Int))) (c:=c67) (os:=c52) hv68 rfl hx40 jk (Replica.RI (x :=
   (Replica.mk x39.Log v17.Epoch (List.length x39.Log:Int))) hv53) (Sep.m1 (Sep.m2 hS66))
 have hx72:=qcm (x':=(Replica.mk x39.Log v17.Epoch (List.length x39.Log:Int))) hx40
 have hv73:=SlG.toN hv70
 obtain ⟨oc92,hX94,hk95⟩:=kq hF41
 simp only [q52]
 refine qei (σ:=Group × (List Replica)) (fun i90 s164=>wa k i90 s164.1 s164.2) (fun s fr' h'=>∃ v84 c85 c88,fr' 1 = .ref [.int .i64 v_0.Epoch,
   .int .i64 v_0.Leader,lst cI v_0.InStep,.int .i64 v_0.High,
   lst Replica.cells v_0.Replicas] 0∧fr' 2 = .ptr b5 0∧fr' 5 = .ptr b33 0∧SlF cI 1 3 v84 s.1.InStep c85∧SlN Replica.R 3 51 v24 s.2 c88∧Sep h' (geL h.length)
   ([Blk1 b5 [.int .i64 0,.int .i64 0,.nil,.int .i64 0,.nil] 29]++([Blk1 b33 [.int .i64 s.1.Epoch,.int .i64 s.1.Leader,v84,.int .i64 s.1.High,
   v24] 29]++(c85++(c88++([])))))) hX94 ⟨v20,c21,c69,rfl,rfl,rfl,hv22,hv73,(Sep.m3 (Sep.m2 (Sep.m2 (Sep.dc (Sep.m1 hS71)))))⟩ (by simp only [B0,reduceIte,
   reduceEqDiff]) (by simp only [B0,reduceIte,reduceEqDiff]) (fun _ _ _ h=>h) rfl rfl (fun _ _ _ _ h=>h) (fun _ _ _ _ h=>h) (fun _ _ _ _ h=>h) (by decide) ?_ ?_
 ·rintro i90 ⟨s82,s87⟩ fr104 h105 hx110 ⟨v84,c85,c88,f107,f108,f109,hv86,hv89,hS106⟩ f111 f112 oc93 hF96 hr97 Q98 hN99 hB103 hK100 hR101 hE102
  dsimp only at *
  unfold wa at hF96
  simp only [q43,qe,qd,f111,qc,qa,q5f,f109,qs,qb,Nat.reduceAdd,Nat.zero_add,Nat.add_zero,qw,qp,B0,reduceIte,
    reduceEqDiff]
  refine qj (v := .int .i64 s82.Leader) ((zu (Sep.bk _ _ _ (Sep.m1 hS106))).trans rfl) ?_
  simp only [q9,qb,qao,qa,q4u,zb,B0,reduceIte,reduceEqDiff]
  obtain ⟨sv123,hX121,hk122⟩:=qi hF96
  refine qb4 (t:=(decide ((i90:Int)≠s82.Leader))) (fun fr' h'=>∃ c115 c118,fr' 1 = .ref [.int .i64 v_0.Epoch,.int .i64 v_0.Leader,lst cI v_0.InStep,
    .int .i64 v_0.High,lst Replica.cells v_0.Replicas] 0∧fr' 2 = .ptr b5 0∧fr' 5 = .ptr b33 0∧fr' 7 = .int .i64 (i90:Int)∧fr' 36 = .int .i64
    (List.length v17.Replicas:Int)∧fr' 37 = .int .i64 (i90:Int)∧SlF cI 1 3 v84 sv123.2.1 c115∧SlN Replica.R 3 51 v24 sv123.2.2 c118∧Sep h' (geL h.length)
    ([Blk1 b5 [.int .i64 0,.int .i64 0,.nil,.int .i64 0,.nil] 29]++([Blk1 b33 [.int .i64 sv123.1.Epoch,.int .i64 sv123.1.Leader,v84,.int .i64 sv123.1.High,
    v24] 29]++(c115++(c118++([])))))) (fun Q124 hN125 hR126 hE127=>⟨fun hc128=>?_,fun hc128=>?_⟩) ?_
  ·rw [iteT hc128] at hX121
   simp only [q5u,qd,f109,qp,B0,reduceIte,reduceEqDiff]
   refine qj (v := .agg [.int .i64 s82.Epoch,.int .i64 s82.Leader,v84,.int .i64 s82.High,v24]) ((zv (Sep.bk _ _ _ (Sep.m1 hS106))).trans rfl) ?_
   obtain ⟨v129,hx130,hF131⟩:=qi hX121
   simp only [qc,za,B0,reduceIte,reduceEqDiff]
   refine ku rfl (qgm hW k (Group.mk s82.Epoch s82.Leader s82.InStep s82.High s87) v84 c85 hv86 v24 c88 hv89 (i90:Int) 30 v129 hx130 (Sep.m3 (Sep.m3 hS106))) ?_
   rintro _ h136 ⟨c132,c134,rfl,hv133,hv135,hS137⟩
   simp only [f109,zg,B0,reduceIte,reduceEqDiff]
   refine qy (us:=[.int .i64 v129.Epoch,.int .i64 v129.Leader,v84,.int .i64 v129.High,v24]) rfl (cs':=[.int .i64 v129.Epoch,.int .i64 v129.Leader,v84,
     .int .i64 v129.High,v24]) (Sep.m3 hS137) hW rfl (qk rfl (qk rfl (qk (SlF.one hv133) (qk rfl (qk (SlN.one hv135) zn)))))
     (Nat.le_of_ble_eq_true rfl) rfl (fun h138 hS139=>?_)
   simp only [qa,qo,B0,reduceIte,reduceEqDiff]
   have e140:=ql hF131
   subst e140
   exact hN125 _ _ ⟨c132,c134,f107,f108,f109,rfl,f112,f111,hv133,hv135,(Sep.m3 (Sep.m2 (Sep.m2 (Sep.m2 hS139))))⟩
  ·rw [iteF hc128] at hX121
   simp only [zk,qo,B0,reduceIte,reduceEqDiff]
   have e141:=ql hX121
   subst e141
   exact hN125 _ _ ⟨c85,c88,f107,f108,f109,rfl,f112,f111,hv86,hv89,(Sep.m3 (Sep.m3 (Sep.m3 (Sep.m3 hS106))))⟩
  rintro fr142 h143 ⟨c115,c118,f145,f146,f147,f148,f149,f150,hv116,hv119,hS144⟩
  obtain ⟨s113,s114,s117⟩:=sv123
  dsimp only at *
  unfold qat at hk122
  simp only [q50,qd,f147,qs,qb,Nat.reduceAdd,Nat.zero_add,Nat.add_zero,qw,qp,B0,reduceIte,reduceEqDiff]
  refine qj (v:=v84) ((zu (Sep.bk _ _ _ (Sep.m1 hS144))).trans rfl) ?_
  obtain ⟨v151,hx152,hF153⟩:=qi hk122
  simp only [f148,qc,za,B0,reduceIte,reduceEqDiff]
  refine ku rfl (qh3 hW k v84 c115 s114 hv116 (i90:Int) v151 hx152 (Sep.m2 hS144)) ?_
  rintro v154 h158 ⟨_,c155,rfl,hv156,hS159⟩
  simp only [f147,qs,qb,Nat.reduceAdd,Nat.zero_add,Nat.add_zero,qw,zg,B0,reduceIte,reduceEqDiff]
  refine qy (us:=[v154]) (k5 (SlF.one hv156)) (cs':=[.int .i64 s113.Epoch,.int .i64 s113.Leader,v154,.int .i64 s113.High,
    v24]) (Sep.m2 hS159) hW rfl (qk (SlF.one hv156) zn) (Nat.le_of_ble_eq_true rfl) rfl (fun h160 hS161=>?_)
  simp only [qa,qo,B0,reduceIte,reduceEqDiff]
  have e162:=ql hF153
  exact hN99 _ _ _ e162.symm ⟨v154,c155,c118,f145,f146,f147,hv156,hv119,(Sep.m3 (Sep.m2 (Sep.m2 (Sep.m3 hS161))))⟩ (f150) (f149)
 rintro ⟨s165,s170⟩ fr173 h174 rfl ⟨v167,c168,c171,f176,f177,f178,hv169,hv172,hS175⟩
 dsimp only [jnO] at hk95
 dsimp only at *
 unfold qca at hk95
 simp only [qzv,qe,qd,f178,qp,B0,reduceIte,reduceEqDiff]
 refine qj (v := .agg [.int .i64 s165.Epoch,.int .i64 s165.Leader,v167,.int .i64 s165.High,v24]) ((zv (Sep.bk _ _ _ (Sep.m1 hS175))).trans rfl) ?_
 obtain ⟨v179,hx180,hF181⟩:=qi hk95
 simp only [za,B0,reduceIte,reduceEqDiff]
 refine js rfl (qh (jd (qh qm (qh qm (qh (SlF.snap hv169 (Sep.m2 hS175) rfl (fun _=>rfl) (fun _=>rfl)) (qh qm (qh
   (SlN.snap hv172 _ (Sep.m3 hS175) rfl Replica.RO) qz)))))) qz) (qd5 (fun b hb=>decide_eq_true hb)
   (Group.mk s165.Epoch s165.Leader s165.InStep s165.High s170) v179 hx180) ?_
 simp only [qc,qa,q0i,qe,qd,f178,qs,qb,Nat.reduceAdd,Nat.zero_add,Nat.add_zero,qw,qp,B0,reduceIte,reduceEqDiff]
 refine qj (v := .int .i64 s165.High) ((zu (Sep.bk _ _ _ (Sep.m1 hS175))).trans rfl) ?_
 simp only [q9,qb,qcv,qa,qyc,zb,B0,reduceIte,reduceEqDiff]
 obtain ⟨s182,hX184,hk185⟩:=qi hF181
 refine qb4 (t:=(decide (s165.High<v179))) (fun fr' h'=>fr' 1 = .ref [.int .i64 v_0.Epoch,.int .i64 v_0.Leader,lst cI v_0.InStep,.int .i64 v_0.High,
   lst Replica.cells v_0.Replicas] 0∧fr' 2 = .ptr b5 0∧fr' 5 = .ptr b33 0∧Sep h' (geL h.length) ([Blk1 b5 [.int .i64 0,.int .i64 0,.nil,.int .i64 0,
   .nil] 29]++([Blk1 b33 [.int .i64 s182.Epoch,.int .i64 s182.Leader,v167,.int .i64 s182.High,
   v24] 29]++(c168++(c171++([])))))) (fun Q186 hN187 hR188 hE189=>⟨fun hc190=>?_,fun hc190=>?_⟩) ?_
 ·rw [iteT hc190] at hX184
  simp only [qd,qc,f178,qs,qb,Nat.reduceAdd,Nat.zero_add,Nat.add_zero,qw,zg,B0,reduceIte,reduceEqDiff]
  refine qy (us:=[.int .i64 v179]) rfl (cs':=[.int .i64 s165.Epoch,.int .i64 s165.Leader,v167,.int .i64 v179,
    v24]) (Sep.m1 hS175) hW rfl rfl (Nat.le_of_ble_eq_true rfl) rfl (fun h191 hS192=>?_)
  simp only [qa,qo,B0,reduceIte,reduceEqDiff]
  have e193:=ql hX184
  subst e193
  exact hN187 _ _ ⟨f176,f177,f178,(Sep.m3 (Sep.m2 (Sep.m3 (Sep.m3 hS192))))⟩
 ·rw [iteF hc190] at hX184
  simp only [zk,qo,B0,reduceIte,reduceEqDiff]
  have e194:=ql hX184
  subst e194
  exact hN187 _ _ ⟨f176,f177,f178,(Sep.m3 (Sep.m3 (Sep.m3 (Sep.m3 hS175))))⟩
 rintro fr195 h196 ⟨f198,f199,f200,hS197⟩
 unfold qcc at hk185
 simp only [qws,qe,jh,f200,zm,B0,reduceIte,reduceEqDiff]
 refine qq (v := .agg [.int .i64 s182.Epoch,.int .i64 s182.Leader,v167,.int .i64 s182.High,v24]) ((zv (Sep.bk _ _ _ (Sep.m1 hS197))).trans rfl) ?_
 obtain ⟨v201,hx202,hF203⟩:=qi hk185
 simp only [yy,B0,reduceIte,reduceEqDiff]
 refine ql8 rfl hS197 (qh (jd (qh qm (qh qm (qh (SlF.snap hv169 (Sep.m2 hS197) rfl (fun _=>rfl) (fun _=>rfl)) (qh qm (qh
   (SlN.snap hv172 _ (Sep.m3 hS197) rfl Replica.RO) qz)))))) qz) (qaw (fun b hb=>decide_eq_true hb)
   (Group.mk s182.Epoch s182.Leader s165.InStep s182.High s170) v201 hx202) ?_
 rintro _ h212 ⟨v204,c205,v208,c209,rfl,hv206,hv210,hS213⟩
 refine ⟨_,qcg (qk rfl (qk rfl (qk (SlF.free1 hv206) (qk rfl (qk (SlN.free1 hv210) zn))))),hS213,
   (jt (SlF.pf hv206 (fun _=>rfl)) (jt (SlN.pf hv210 Replica.RO) wi)),fun h214 hS215=>?_⟩
 have hS216:Sep h214 (geL h.length) (c205++(c209++([Blk1 b5 [.int .i64 0,.int .i64 0,.nil,.int .i64 0,.nil] 29]++([Blk1 b33 [.int .i64 s182.Epoch,
   .int .i64 s182.Leader,v167,.int .i64 s182.High,v24] 29]++(c168++(c171++([]))))))):=by simpa only [List.append_assoc,List.nil_append] using hS215
 simp only [f200,uu,qg,Nat.reduceAdd,Nat.zero_add,Nat.add_zero,qw,wv,B0,reduceIte,reduceEqDiff]
 refine qim (Sep.ltk (Sep.m1 hS197)) ?_
 refine qq (v := .int .i64 s182.High) ((zu (Sep.bk _ _ _ (Sep.m3 hS216))).trans rfl) ?_
 simp only [f198,uu,qg,Nat.reduceAdd,Nat.zero_add,Nat.add_zero,qr,wv,yz,B0,reduceIte,reduceEqDiff]
 refine qq (v := .int .i64 v_0.High) rfl ?_
 simp only [qsa,qg,qdd,f199,qor,B0,reduceIte,reduceEqDiff]
 refine qve (qow (Sep.bne (Sep.m3 (Sep.m3 hS216))) ql1) ?_
 refine xk (us:=[.int .i64 v201.Epoch,.int .i64 v201.Leader,v204,.int .i64 v201.High,v208]) rfl (cs':=[.int .i64 v201.Epoch,.int .i64 v201.Leader,v204,
   .int .i64 v201.High,v208]) (Sep.m2 hS216) hW rfl (qk rfl (qk rfl (qk (SlF.one hv206) (qk rfl (qk (SlN.one hv210) zn))))) (Nat.le_of_ble_eq_true rfl) rfl
   (fun h217 hS218=>?_)
 simp only [zp,qg,qu,q8,B0,reduceIte,reduceEqDiff]
 have he:=ql hF203
 subst he
 refine jy (qh (j6 (bb:=b5) (oo:=0) (v := .agg [.int .i64 v201.Epoch,.int .i64 v201.Leader,v204,.int .i64 v201.High,
   v208]) (f199) ((zv (Sep.bk _ _ _ hS218)).trans rfl)) (qh (yq (v := .int .i64 (IntKind.wrap .i64 (s182.High - v_0.High))) (rfl)) (qh (yq (v := .bool true)
   (rfl)) qz))) ?_
 exact ⟨v204,c205,v208,c209,by first | trivial | rfl,hv206,hv210,(Sep.m1 (Sep.m1 (Sep.dc (Sep.m2 (Sep.dc (Sep.m2 (Sep.dc (Sep.m2 (Sep.dc (hS218))))))))))⟩
theorem w8 {W:Nat→Bool}{h:Heap} (hW:∀ b,
  (geL h.length) b→W b=true) (n_0:Int) (low_1:Int) (high_2:Int) (r:Bool) (hF:some (z7 n_0 low_1 high_2)=some r) : Ret E W 64 [.int .i64 n_0,
  .int .i64 low_1,.int .i64 high_2] h (fun v h'=>cut h.length h' E.sz false 9 v=some (.bool r)):=by
 refine Ret.of (fn:=x64) rfl (Run.of ?_)
 unfold z7 at hF
 have zf0:ze [.int .i64 n_0,.int .i64 low_1,.int .i64 high_2] 0 = .int .i64 n_0:=rfl
 have zf1:ze [.int .i64 n_0,.int .i64 low_1,.int .i64 high_2] 1 = .int .i64 low_1:=rfl
 have zf2:ze [.int .i64 n_0,.int .i64 low_1,.int .i64 high_2] 2 = .int .i64 high_2:=rfl
 generalize ze [.int .i64 n_0,.int .i64 low_1,.int .i64 high_2]=fr0 at zf0 zf1 zf2 ⊢
 have hS:Sep h (geL h.length) []:=Sep.nil h
 simp only [x64,qe,qd,qc,qa,q2b,zf0,zf1,q9,qb,qht,B0,reduceIte,reduceEqDiff]
 refine ji 4 (fun fr' h'=>Sep h' (geL h.length) ([])∧fr' 14 = .bool ((decide (low_1≤n_0))&&(decide (n_0≤high_2)))) (fun Q1 hN2=>?_) ?_
 ·simp only [List.take_succ_cons,List.take_zero]
  simp only [qf (g:=10),B0,reduceIte,reduceEqDiff]
  refine zf (t:=(decide (low_1≤n_0))) (fun hg3=>?_) (fun hg3=>?_)
  ·simp only [hg3,qf (g:=10),zl,zf0,qc,zf2,q9,qb,qi8,qt,zh,qa,qo,B0,reduceIte,reduceEqDiff]
   exact hN2 _ _ ⟨hS,by rw [xd hg3]; simp only [B0,reduceIte,reduceEqDiff]⟩
  ·simp only [hg3,qf (g:=10),jo,qt,qb,zi,qa,qo,B0,reduceIte,reduceEqDiff]
   exact hN2 _ _ ⟨hS,by rw [xe hg3]; simp only [B0,reduceIte,reduceEqDiff]⟩
 rintro fr4 h6 ⟨hS7,f5⟩
 simp only [List.drop_succ_cons,List.drop_zero]
 simp only [f5,qc,qa,q8,B0,reduceIte,reduceEqDiff]
 have he:=ql hF
 subst he
 simp only [zj,B0,reduceIte,reduceEqDiff]
 exact rfl
end Go.Proofs.Ytefgfcalgjmhjaa.X
