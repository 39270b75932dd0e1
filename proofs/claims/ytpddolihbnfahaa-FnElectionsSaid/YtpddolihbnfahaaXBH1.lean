/- The functions' code comes to what the plain functions say (1). -/
import Derived.Test.YtpddolihbnfahaaXBF
import Derived.Test.YtpddolihbnfahaaXBD
set_option linter.unusedVariables false
set_option linter.unusedSimpArgs false
set_option maxRecDepth 100000
namespace Go.Proofs.Ytpddolihbnfahaa.X
open Go
open Nat (reduceEqDiff)
def RL44:Rep (List Int):=fun x cs os=>∃ (v0:XV) (c0:List Obj),SlF cI 1 3 v0 x c0∧cs=[v0]∧c0=os
theorem RL44I {x:List Int}{v0:XV}{c0:List Obj}(h0:SlF cI 1 3 v0 x c0) : RL44 x [v0] (c0):=⟨v0,c0,h0,rfl,rfl⟩
theorem RL44O:RepOk E.sz RL44 (cL cI) 1 where
 len:=fun {x cs os} H=>by
  obtain ⟨v0,c0,h0,rfl,rfl⟩:=H
  rfl
 flen:=fun _=>rfl
 one:=fun {x cs os} H=>by
  obtain ⟨v0,c0,h0,rfl,rfl⟩:=H
  exact (qm (SlF.one h0) zm)
 snap:=fun {x cs os h lo S} m H hS=>by
  obtain ⟨v0,c0,h0,rfl,rfl⟩:=H
  have hS2:Sep h lo (c0++S):=(by simpa only [List.append_assoc] using hS)
  exact (qo (SlF.snap h0 hS2 rfl (fun _=>rfl) (fun _=>rfl)) zh)
 cut:=fun {x cs os h lo n0 keep S} m H hS hge=>by
  obtain ⟨v0,c0,h0,rfl,rfl⟩:=H
  have hS2:Sep h lo (c0++S):=(by simpa only [List.append_assoc] using hS)
  exact (qo (SlF.cut h0 hS2 hge rfl (fun _=>rfl) (fun _=>rfl)) zh)
 free:=fun {x cs os} H=>by
  obtain ⟨v0,c0,h0,rfl,rfl⟩:=H
  exact (qm (SlF.free1 h0) zm)
 pf:=fun {x cs os} H=>by
  obtain ⟨v0,c0,h0,rfl,rfl⟩:=H
  exact (SlF.pf h0 (fun _=>rfl))
def Server.R:Rep Server:=fun x cs os=>∃ (v4:XV) (c4:List Obj) (v5:XV) (c5:List Obj),SlF cI 1 3 v4 x.Got c4∧SlF cI 1 3 v5 x.Log c5∧cs=[.int .i64 x.Term,
  .int .i64 x.Voted,.bool x.Stands,.bool x.Leads,v4,v5]∧c4++(c5)=os
theorem Server.RI {x:Server}{v4:XV}{c4:List Obj}(h4:SlF cI 1 3 v4 x.Got c4){v5:XV}{c5:List Obj}(h5:SlF cI 1 3 v5 x.Log c5) : Server.R x [.int .i64 x.Term,
  .int .i64 x.Voted,.bool x.Stands,.bool x.Leads,v4,v5] (c4++(c5)):=⟨v4,c4,v5,c5,h4,h5,rfl,rfl⟩
theorem Server.RO:RepOk E.sz Server.R Server.cells 6 where
 len:=fun {x cs os} H=>by
  obtain ⟨v4,c4,v5,c5,h4,h5,rfl,rfl⟩:=H
  rfl
 flen:=fun _=>rfl
 one:=fun {x cs os} H=>by
  obtain ⟨v4,c4,v5,c5,h4,h5,rfl,rfl⟩:=H
  exact (qm rfl (qm rfl (qm rfl (qm rfl (qm (SlF.one h4) (qm (SlF.one h5) zm))))))
 snap:=fun {x cs os h lo S} m H hS=>by
  obtain ⟨v4,c4,v5,c5,h4,h5,rfl,rfl⟩:=H
  have hS2:Sep h lo (c4++(c5++S)):=(by simpa only [List.append_assoc] using hS)
  exact (qo zf (qo zf (qo qkk (qo qkk (qo (SlF.snap h4 hS2 rfl (fun _=>rfl) (fun _=>rfl)) (qo (SlF.snap h5 (Sep.m1 hS2) rfl
    (fun _=>rfl) (fun _=>rfl)) zh))))))
 cut:=fun {x cs os h lo n0 keep S} m H hS hge=>by
  obtain ⟨v4,c4,v5,c5,h4,h5,rfl,rfl⟩:=H
  have hS2:Sep h lo (c4++(c5++S)):=(by simpa only [List.append_assoc] using hS)
  exact (qo rfl (qo rfl (qo rfl (qo rfl (qo (SlF.cut h4 hS2 hge rfl (fun _=>rfl) (fun _=>rfl)) (qo (SlF.cut h5 (Sep.m1 hS2) hge rfl (fun _=>rfl)
    (fun _=>rfl)) zh))))))
 free:=fun {x cs os} H=>by
  obtain ⟨v4,c4,v5,c5,h4,h5,rfl,rfl⟩:=H
  exact (qm rfl (qm rfl (qm rfl (qm rfl (qm (SlF.free1 h4) (qm (SlF.free1 h5) zm))))))
 pf:=fun {x cs os} H=>by
  obtain ⟨v4,c4,v5,c5,h4,h5,rfl,rfl⟩:=H
  exact (ku (SlF.pf h4 (fun _=>rfl)) (SlF.pf h5 (fun _=>rfl)))
theorem qhq {W:Nat→Bool}{h:Heap}{lo:Nat→Prop}{S0:List Obj} (hW:∀ b,
  lo b→W b=true) (pv0:XV) (pc0:List Obj) (s_0:List Int) (ph0:SlF cI 1 3 pv0 s_0 pc0) (i_1:Int) (pv2:XV) (pc2:List Obj) (v_2:List Int)
  (ph2:SlF cI 1 3 pv2 v_2 pc2) (r:List Int × List Int) (hF:qa5 s_0 i_1 v_2=some r) (hS:Sep h lo (pc0++(pc2++S0))) : Ret E W 115 [pv0,.int .i64 i_1,
  pv2] h (fun v h'=>∃ rv0 rc0 ic2,v=rv0∧SlF cI 1 3 rv0 r.1 rc0∧SlF cI 1 3 pv2 r.2 ic2∧Sep h' lo (rc0++(ic2++S0))):=q5j rfl rfl hW ph0 ph2 hF hS
theorem qin {W:Nat→Bool}{h:Heap}{lo:Nat→Prop}{S0:List Obj} (hW:∀ b,
  lo b→W b=true) (pb0:Nat) (c_0:L1Cur) (r:Int × L1Cur) (hF:qdm c_0=some r) (hS:Sep h lo ([Blk1 pb0 [lst cU8 c_0.code,.int .i64 c_0.at_,
  .int .u64 c_0.seed] 87]++(S0))) : Ret E W 103 [.ptr pb0 0] h (fun v h'=>v = .int .i64 r.1∧Sep h' lo ([Blk1 pb0 [lst cU8 r.2.code,.int .i64 r.2.at_,
  .int .u64 r.2.seed] 87]++(S0))):=by
 refine Ret.of (fn:=qo6) rfl (Run.of ?_)
 unfold qdm at hF
 have zf0:zb [.ptr pb0 0] 0 = .ptr pb0 0:=rfl
 generalize zb [.ptr pb0 0]=fr0 at zf0 ⊢
 simp only [qo6,qf,qd,qe,qa,qq8,qqm,jr,zf0,zw,qk,j7,zo,zx,Nat.reduceAdd,Nat.zero_add,Nat.add_zero,
   qs,zv,B0,reduceIte,reduceEqDiff]
 refine qu (v := .int .i64 c_0.at_) ((zz (Sep.bk _ _ _ hS)).trans rfl) ?_
 simp only [zf0,zw,qk,j7,zo,zx,Nat.reduceAdd,Nat.zero_add,Nat.add_zero,qs,zv,B0,reduceIte,reduceEqDiff]
 refine qu (v:=lst cU8 c_0.code) ((zz (Sep.bk _ _ _ hS)).trans rfl) ?_
 simp only [qgj,qk,zt,xw,qdj,zd,qrs,za,B0,reduceIte,reduceEqDiff]
 obtain ⟨s1,hX3,hk4⟩:=qh hF
 refine uv (t:=(decide (c_0.at_<(List.length c_0.code:Int)))) (fun fr' h'=>fr' 0 = .ptr pb0 0∧fr' 3 = .int .i64 s1∧Sep h' lo ([Blk1 pb0 [lst cU8 c_0.code,
   .int .i64 c_0.at_,.int .u64 c_0.seed] 87]++(S0))) (fun Q5 hN6 hR7 hE8=>⟨fun hc9=>?_,fun hc9=>?_⟩) ?_
 ·rw [iteT hc9] at hX3
  simp only [qp3,jr,zf0,zw,qk,j7,zo,zx,Nat.reduceAdd,Nat.zero_add,Nat.add_zero,qs,zv,B0,reduceIte,reduceEqDiff]
  refine qu (v:=lst cU8 c_0.code) ((zz (Sep.bk _ _ _ hS)).trans rfl) ?_
  simp only [zf0,zw,qk,j7,zo,zx,Nat.reduceAdd,Nat.zero_add,Nat.add_zero,qs,zv,B0,reduceIte,reduceEqDiff]
  refine qu (v := .int .i64 c_0.at_) ((zz (Sep.bk _ _ _ hS)).trans rfl) ?_
  obtain ⟨x10,hx11,hF12⟩:=qh hX3
  simp only [qdg,B0,reduceIte,reduceEqDiff]
  refine qu (v := .ref (cU8 x10) 0) (yg hx11 rfl) ?_
  simp only [zv,B0,reduceIte,reduceEqDiff]
  refine qu (v := .int .u8 x10) rfl ?_
  simp only [q32,qk,qjn,zw,zd,qj,B0,reduceIte,reduceEqDiff]
  have e13:=qi hF12
  subst e13
  exact hN6 _ _ ⟨zf0,rfl,hS⟩
 ·rw [iteF hc9] at hX3
  simp only [zc,qj,B0,reduceIte,reduceEqDiff]
  have e14:=qi hX3
  subst e14
  exact hN6 _ _ ⟨zf0,rfl,hS⟩
 rintro fr15 h16 ⟨f18,f19,hS17⟩
 unfold qd1 at hk4
 simp only [qpb,qf,qd,f18,qe,yx,qb,zo,qp,Nat.reduceAdd,Nat.zero_add,Nat.add_zero,qs,ql,B0,reduceIte,reduceEqDiff]
 refine qg (v := .int .i64 c_0.at_) ((zz (Sep.bk _ _ _ hS17)).trans rfl) ?_
 simp only [qv,qb,qbj,yx,zo,qp,Nat.reduceAdd,Nat.zero_add,Nat.add_zero,qs,zg,B0,reduceIte,reduceEqDiff]
 refine qw (us:=[.int .i64 (IntKind.wrap .i64 (c_0.at_+1))]) rfl (cs':=[lst cU8 c_0.code,.int .i64 (IntKind.wrap .i64 (c_0.at_+1)),
   .int .u64 c_0.seed]) hS17 hW rfl rfl (nle rfl) rfl (fun h20 hS21=>?_)
 simp only [qa,qqr,qf,qd,f18,qe,yx,qb,zo,qp,Nat.reduceAdd,Nat.zero_add,Nat.add_zero,qs,ql,B0,reduceIte,
   reduceEqDiff]
 refine qg (v := .int .u64 c_0.seed) ((zz (Sep.bk _ _ _ hS21)).trans rfl) ?_
 simp only [qv,qb,qlf,f19,qe,qj0,qjn,qbj,yx,zo,qp,Nat.reduceAdd,Nat.zero_add,Nat.add_zero,qs,zg,B0,reduceIte,
   reduceEqDiff]
 refine qw (us:=[.int .u64 (IntKind.wrap .u64 ((IntKind.wrap .u64 ((IntKind.wrap .u64 (c_0.seed*6364136223846793005)) +
   (IntKind.wrap .u64 s1)))+1442695040888963407))]) rfl (cs':=[lst cU8 c_0.code,.int .i64 (IntKind.wrap .i64 (c_0.at_+1)),
   .int .u64 (IntKind.wrap .u64 ((IntKind.wrap .u64 ((IntKind.wrap .u64 (c_0.seed*6364136223846793005))+(IntKind.wrap .u64 s1)))+1442695040888963407))]) hS21 hW rfl rfl
   (nle rfl) rfl (fun h22 hS23=>?_)
 simp only [qa,qrm,qf,jr,f18,zw,qk,j7,zo,zx,Nat.reduceAdd,Nat.zero_add,Nat.add_zero,qs,zv,B0,reduceIte,
   reduceEqDiff]
 refine qu (v := .int .i64 (IntKind.wrap .i64 (c_0.at_+1))) ((zz (Sep.bk _ _ _ hS23)).trans rfl) ?_
 simp only [f18,zw,qk,j7,zo,zx,Nat.reduceAdd,Nat.zero_add,Nat.add_zero,qs,zv,B0,reduceIte,reduceEqDiff]
 refine qu (v:=lst cU8 c_0.code) ((zz (Sep.bk _ _ _ hS23)).trans rfl) ?_
 simp only [qgj,qk,zt,xw,qjs,zd,qt6,za,B0,reduceIte,reduceEqDiff]
 refine q8 (t:=(decide ((IntKind.wrap .i64 (c_0.at_+1))≤(List.length c_0.code:Int)))) (fun hc24=>?_) (fun hc24=>?_)
 ·rw [iteT hc24] at hk4
  simp only [qf,qd,f19,qe,qa,q9,B0,reduceIte,reduceEqDiff]
  have he:=qi hk4
  subst he
  simp only [zl,B0,reduceIte,reduceEqDiff]
  exact ⟨by first | trivial | rfl,hS23⟩
 rw [iteF hc24] at hk4
 simp only [zc,qql,qf,qd,f18,qe,yx,qb,zo,qp,Nat.reduceAdd,Nat.zero_add,Nat.add_zero,qs,ql,B0,reduceIte,
   reduceEqDiff]
 refine qg (v := .int .u64 (IntKind.wrap .u64 ((IntKind.wrap .u64 ((IntKind.wrap .u64 (c_0.seed*6364136223846793005))+(IntKind.wrap .u64 s1)))+1442695040888963407)))
   ((zz (Sep.bk _ _ _ hS23)).trans rfl) ?_
 simp only [qv,qb,qnl (n:=40) (by decide),q3j,qj0,qjn,qe,qa,q9,B0,reduceIte,reduceEqDiff]
 have he:=qi hk4
 subst he
 simp only [zl,B0,reduceIte,reduceEqDiff]
 exact ⟨by first | trivial | rfl,hS23⟩
theorem yw {W:Nat→Bool}{h:Heap}{lo:Nat→Prop}{S0:List Obj} (hW:∀ b,
  lo b→W b=true) (pb0:Nat) (c_0:L1Cur) (n_1:Int) (r:Int × L1Cur) (hF:yh c_0 n_1=some r) (hS:Sep h lo ([Blk1 pb0 [lst cU8 c_0.code,.int .i64 c_0.at_,
  .int .u64 c_0.seed] 87]++(S0))) : Ret E W 64 [.ptr pb0 0,.int .i64 n_1] h (fun v h'=>v = .int .i64 r.1∧Sep h' lo ([Blk1 pb0 [lst cU8 r.2.code,.int .i64 r.2.at_,
  .int .u64 r.2.seed] 87]++(S0))):=by
 refine Ret.of (fn:=x64) rfl (Run.of ?_)
 unfold yh at hF
 have zf0:zb [.ptr pb0 0,.int .i64 n_1] 0 = .ptr pb0 0:=rfl
 have zf1:zb [.ptr pb0 0,.int .i64 n_1] 1 = .int .i64 n_1:=rfl
 generalize zb [.ptr pb0 0,.int .i64 n_1]=fr0 at zf0 zf1 ⊢
 simp only [x64,qf,qd,qe,qa,qxe,zf1,qv,qb,qjs,za,B0,reduceIte,reduceEqDiff]
 refine q8 (t:=(decide (n_1≤1))) (fun hc1=>?_) (fun hc1=>?_)
 ·rw [iteT hc1] at hF
  simp only [qf,qd,qe,qa,q9,B0,reduceIte,reduceEqDiff]
  have he:=qi hF
  subst he
  simp only [zl,B0,reduceIte,reduceEqDiff]
  exact ⟨by first | trivial | rfl,hS⟩
 rw [iteF hc1] at hF
 obtain ⟨v2,hx3,hF4⟩:=qh hF
 simp only [zc,q19,qf,qd,zf0,qe,qz,B0,reduceIte,reduceEqDiff]
 refine kq rfl (qin hW pb0 c_0 v2 hx3 hS) ?_
 rintro _ h5 ⟨rfl,hS6⟩
 simp only [qe,qa,qye,qf,qd,zf1,qv,qb,xj,qzj,za,B0,reduceIte,reduceEqDiff]
 refine q8 (t:=(decide ((200:Int)<n_1))) (fun hc7=>?_) (fun hc7=>?_)
 ·rw [iteT hc7] at hF4
  obtain ⟨v8,hx9,hF10⟩:=qh hF4
  simp only [q1u,qd,qe,qv,qb,qlf,zf0,qz,B0,reduceIte,reduceEqDiff]
  refine kq rfl (qin hW pb0 v2.2 v8 hx9 hS6) ?_
  rintro _ h11 ⟨rfl,hS12⟩
  obtain ⟨hp13,hF14⟩:=qnr hF10
  simp only [qv,qb,qbj,qe,qa,qoz,qf,qd,zf1,qnv (n:=n_1) hp13,q9,B0,reduceIte,reduceEqDiff]
  have he:=qi hF14
  subst he
  simp only [zl,B0,reduceIte,reduceEqDiff]
  exact ⟨by first | trivial | rfl,hS12⟩
 rw [iteF hc7] at hF4
 obtain ⟨hp15,hF16⟩:=qnr hF4
 simp only [zc,qoz,qf,qd,qe,zf1,qv,qb,qnv (n:=n_1) hp15,qa,q9,B0,reduceIte,reduceEqDiff]
 have he:=qi hF16
 subst he
 simp only [zl,B0,reduceIte,reduceEqDiff]
 exact ⟨by first | trivial | rfl,hS6⟩
theorem qb0 {W:Nat→Bool}{h:Heap} (hW:∀ b,
  (geL h.length) b→W b=true) (l_0:List Int) (r:Int) (hF:w6 l_0=some r) : Ret E W 66 [lst cI l_0] h (fun v h'=>cut h.length h' E.sz false 9 v=some
  (.int .i64 r)):=by
 refine Ret.of (fn:=x66) rfl (Run.of ?_)
 unfold w6 at hF
 have zf0:zb [lst cI l_0] 0=lst cI l_0:=rfl
 generalize zb [lst cI l_0]=fr0 at zf0 ⊢
 have hS:Sep h (geL h.length) []:=Sep.nil h
 simp only [x66,qf,qd,qe,qa,q1w,zf0,zn,qb,zt,qv,yo,za,B0,reduceIte,reduceEqDiff]
 refine q8 (t:=(decide ((List.length l_0:Int)=0))) (fun hc1=>?_) (fun hc1=>?_)
 ·rw [iteT hc1] at hF
  simp only [qf,qd,qe,qa,q9,B0,reduceIte,reduceEqDiff]
  have he:=qi hF
  subst he
  simp only [zl,B0,reduceIte,reduceEqDiff]
  exact rfl
 rw [iteF hc1] at hF
 obtain ⟨x2,hx3,hF4⟩:=qh hF
 simp only [zc,q10,qf,qd,zf0,qe,zn,qb,zt,qv,qbr,jg,B0,reduceIte,reduceEqDiff]
 refine qg (v := .ref (cI x2) 0) (yg hx3 rfl) ?_
 simp only [ql,B0,reduceIte,reduceEqDiff]
 refine qg (v := .int .i64 x2) rfl ?_
 simp only [qe,qa,q9,B0,reduceIte,reduceEqDiff]
 have he:=qi hF4
 subst he
 simp only [zl,B0,reduceIte,reduceEqDiff]
 exact rfl
theorem qga {W:Nat→Bool}{h:Heap} (hW:∀ b,
  (geL h.length) b→W b=true) (n_0:Int) (lo_1:Int) (hi_2:Int) (r:Bool) (hF:some (kr n_0 lo_1 hi_2)=some r) : Ret E W 62 [.int .i64 n_0,.int .i64 lo_1,
  .int .i64 hi_2] h (fun v h'=>cut h.length h' E.sz false 9 v=some (.bool r)):=by
 refine Ret.of (fn:=x62) rfl (Run.of ?_)
 unfold kr at hF
 have zf0:zb [.int .i64 n_0,.int .i64 lo_1,.int .i64 hi_2] 0 = .int .i64 n_0:=rfl
 have zf1:zb [.int .i64 n_0,.int .i64 lo_1,.int .i64 hi_2] 1 = .int .i64 lo_1:=rfl
 have zf2:zb [.int .i64 n_0,.int .i64 lo_1,.int .i64 hi_2] 2 = .int .i64 hi_2:=rfl
 generalize zb [.int .i64 n_0,.int .i64 lo_1,.int .i64 hi_2]=fr0 at zf0 zf1 zf2 ⊢
 have hS:Sep h (geL h.length) []:=Sep.nil h
 simp only [x62,qf,qd,qe,qa,qzr,zf0,zf1,qv,qb,qhy,B0,reduceIte,reduceEqDiff]
 refine ja 4 (fun fr' h'=>Sep h' (geL h.length) ([])∧fr' 14 = .bool ((decide (lo_1≤n_0))&&(decide (n_0≤hi_2)))) (fun Q1 hN2=>?_) ?_
 ·simp only [List.take_succ_cons,List.take_zero]
  simp only [qc (g:=10),B0,reduceIte,reduceEqDiff]
  refine qy (t:=(decide (lo_1≤n_0))) (fun hg3=>?_) (fun hg3=>?_)
  ·simp only [hg3,qc (g:=10),ze,zf0,qe,zf2,qv,qb,qjs,qq,zj,qa,qj,B0,reduceIte,reduceEqDiff]
   exact hN2 _ _ ⟨hS,by rw [qba hg3]; simp only [B0,reduceIte,reduceEqDiff]⟩
  ·simp only [hg3,qc (g:=10),jv,qq,qb,zi,qa,qj,B0,reduceIte,reduceEqDiff]
   exact hN2 _ _ ⟨hS,by rw [qbf hg3]; simp only [B0,reduceIte,reduceEqDiff]⟩
 rintro fr4 h6 ⟨hS7,f5⟩
 simp only [List.drop_succ_cons,List.drop_zero]
 simp only [f5,qe,qa,q9,B0,reduceIte,reduceEqDiff]
 have he:=qi hF
 subst he
 simp only [zl,B0,reduceIte,reduceEqDiff]
 exact rfl
theorem qex {W:Nat→Bool}{h:Heap} (hW:∀ b,
  (geL h.length) b→W b=true) (l_0:List Int) (r:Bool) (hF:xu l_0=some r) : Ret E W 69 [lst cI l_0] h (fun v h'=>cut h.length h' E.sz false 9 v=some
  (.bool r)):=by
 refine Ret.of (fn:=x69) rfl (Run.of ?_)
 unfold xu at hF
 have zf0:zb [lst cI l_0] 0=lst cI l_0:=rfl
 generalize zb [lst cI l_0]=fr0 at zf0 ⊢
 have hS:Sep h (geL h.length) []:=Sep.nil h
 simp only [x69,qf,qd,qe,qa,qz4,zf0,zn,qb,zt,B0,reduceIte,reduceEqDiff]
 obtain ⟨oc3,hX5,hk6⟩:=kd hF
 simp only [q16]
 refine wj (σ:=Unit) l_0 (fun i1 x2 _=>u7 l_0 i1 x2 ) (fun s fr' h'=>fr' 0=lst cI l_0∧fr' 5=lst cI l_0∧Sep h' (geL h.length) ([])) hX5 ⟨zf0,
   rfl,hS⟩ (by simp only [B0,reduceIte,reduceEqDiff]) (by simp only [B0,reduceIte,
   reduceEqDiff]) (fun _ _ _ h=>h) rfl rfl (fun _ _ _ _ h=>h) (fun _ _ _ _ h=>h) (fun _ _ _ _ h=>h) (by decide) ?_ ?_
 ·rintro i1 x2 _ fr15 h16 hx20 ⟨f18,f19,hS17⟩ f21 f22 oc4 hF7 hr8 Q9 hN10 hB14 hK11 hR12 hE13
  unfold u7 at hF7
  simp only [qy1,qf,qd,f21,qe,f19,jg,B0,reduceIte,reduceEqDiff]
  refine qg (v := .ref (cI x2) 0) (wi hx20 rfl) ?_
  simp only [ql,B0,reduceIte,reduceEqDiff]
  refine qg (v := .int .i64 x2) rfl ?_
  simp only [qe,qa,q0t,qf,qd,qz,B0,reduceIte,reduceEqDiff]
  refine jp rfl (qo zf (qo zf (qo zf zh))) (qga (fun b hb=>decide_eq_true hb) x2 0 100 _ rfl) ?_
  simp only [js,qb,ki,qe,B0,reduceIte,reduceEqDiff]
  obtain ⟨v26,hx27,hF28⟩:=qh hF7
  refine ja 12 (fun fr' h'=>Sep h' (geL h.length) ([])∧fr' 27 = .bool v26∧fr' 0=lst cI l_0∧fr' 5=lst cI l_0∧fr' 6 = .int .i64
    (List.length l_0:Int)∧fr' 7 = .int .i64 (i1:Int)) (fun Q23 hN24=>?_) ?_
  ·simp only [List.take_succ_cons,List.take_zero]
   simp only [qc (g:=15),B0,reduceIte,reduceEqDiff]
   refine qy (t:=(!(kr x2 0 100))) (fun hg25=>?_) (fun hg25=>?_)
   ·rw [iteT hg25] at hx27
    simp only [hg25,qc (g:=15),zq,qc (g:=18),y9,qq,qb,zj,qa,qj,B0,reduceIte,reduceEqDiff]
    have e29:=qi hx27
    exact hN24 _ _ ⟨hS17,by rw [←e29]; simp only [B0,reduceIte,reduceEqDiff],f18,f19,f22,f21⟩
   ·rw [iteF hg25] at hx27
    simp only [hg25,qc (g:=15),qn,qe,qv,qb,xj,B0,reduceIte,reduceEqDiff]
    obtain ⟨v33,hx34,hF35⟩:=qh hx27
    refine ja 8 (fun fr' h'=>Sep h' (geL h.length) ([])∧fr' 26 = .bool v33∧fr' 0=lst cI l_0∧fr' 5=lst cI l_0∧fr' 6 = .int .i64
      (List.length l_0:Int)∧fr' 7 = .int .i64 (i1:Int)∧fr' 15 = .bool (!(kr x2 0 100))) (fun Q30 hN31=>?_) ?_
    ·simp only [List.take_succ_cons,List.take_zero]
     simp only [qc (g:=18),B0,reduceIte,reduceEqDiff]
     refine qy (t:=(decide ((0:Int)<(i1:Int)))) (fun hg32=>?_) (fun hg32=>?_)
     ·rw [iteT hg32] at hx34
      obtain ⟨x36,hx37,hF38⟩:=qh hx34
      simp only [hg32,qc (g:=18),ze,f18,qe,qv,qb,qbr,jg,B0,reduceIte,reduceEqDiff]
      refine qg (v := .ref (cI x36) 0) (yg hx37 rfl) ?_
      simp only [hg32,qc (g:=18),ze,ql,B0,reduceIte,reduceEqDiff]
      refine qg (v := .int .i64 x36) rfl ?_
      simp only [hg32,qc (g:=18),ze,qe,qv,qb,xj,hg25,qc (g:=15),qn,qq,zj,qa,qj,
        B0,reduceIte,reduceEqDiff]
      have e39:=qi hF38
      exact hN31 _ _ ⟨hS17,by rw [←e39]; simp only [B0,reduceIte,reduceEqDiff],f18,f19,f22,f21,by simp only [hg25,B0,reduceIte,reduceEqDiff]⟩
     ·rw [iteF hg32] at hx34
      simp only [hg32,qc (g:=18),jv,hg25,qc (g:=15),qn,qq,qb,zi,qa,qj,B0,reduceIte,
        reduceEqDiff]
      have e40:=qi hx34
      exact hN31 _ _ ⟨hS17,by rw [←e40]; simp only [B0,reduceIte,reduceEqDiff],f18,f19,f22,f21,by simp only [hg25,B0,reduceIte,reduceEqDiff]⟩
    rintro fr41 h48 ⟨hS49,f42,f43,f44,f45,f46,f47⟩
    simp only [List.drop_succ_cons,List.drop_zero]
    simp only [f47,hg25,qq,qb,zi,f42,qa,qj,B0,reduceIte,reduceEqDiff]
    have e50:=qi hF35
    exact hN24 _ _ ⟨hS49,by rw [←e50]; simp only [B0,reduceIte,reduceEqDiff],f43,f44,f45,f46⟩
  rintro fr51 h57 ⟨hS58,f52,f53,f54,f55,f56⟩
  simp only [List.drop_succ_cons,List.drop_zero]
  simp only [qa,f52,za,B0,reduceIte,reduceEqDiff]
  refine q8 (t:=v26) (fun hc59=>?_) (fun hc59=>?_)
  ·rw [iteT hc59] at hF28
   simp only [qf,qd,qe,qa,q9,B0,reduceIte,reduceEqDiff]
   have e60:=qi hF28
   subst e60
   have ho61:=hr8 _ rfl
   have hk62:=hk6
   rw [ho61] at hk62
   dsimp only [jnO] at hk62
   apply hR12
   have he:=qi hk62
   subst he
   simp only [zl,B0,reduceIte,reduceEqDiff]
   exact rfl
  rw [iteF hc59] at hF28
  simp only [zc,qj,B0,reduceIte,reduceEqDiff]
  have e63:=qi hF28
  exact hN10 _ _ _ e63.symm ⟨f53,f54,hS58⟩ (f56) (f55)
 rintro _ fr65 h66 rfl ⟨f68,f69,hS67⟩
 dsimp only [jnO] at hk6
 unfold qd8 at hk6
 simp only [q1z,qf,qd,f68,qe,zn,qb,zt,qv,qjs,qa,q9,B0,reduceIte,reduceEqDiff]
 have he:=qi hk6
 subst he
 simp only [zl,B0,reduceIte,reduceEqDiff]
 exact rfl
theorem qdr {W:Nat→Bool}{h:Heap}{lo:Nat→Prop}{S0:List Obj} (hW:∀ b,
  lo b→W b=true) (pb0:Nat) (c_0:L1Cur) (n_1:Int) (r:Bool × L1Cur) (hF:qbp c_0 n_1=some r) (hS:Sep h lo ([Blk1 pb0 [lst cU8 c_0.code,.int .i64 c_0.at_,
  .int .u64 c_0.seed] 87]++(S0))) : Ret E W 91 [.ptr pb0 0,.int .i64 n_1] h (fun v h'=>v = .bool r.1∧Sep h' lo ([Blk1 pb0 [lst cU8 r.2.code,.int .i64 r.2.at_,
  .int .u64 r.2.seed] 87]++(S0))):=by
 refine Ret.of (fn:=x91) rfl (Run.of ?_)
 unfold qbp at hF
 have zf0:zb [.ptr pb0 0,.int .i64 n_1] 0 = .ptr pb0 0:=rfl
 have zf1:zb [.ptr pb0 0,.int .i64 n_1] 1 = .int .i64 n_1:=rfl
 generalize zb [.ptr pb0 0,.int .i64 n_1]=fr0 at zf0 zf1 ⊢
 obtain ⟨v1,hx2,hF3⟩:=qh hF
 simp only [x91,qf,qd,qe,qa,q2c,zf0,zf1,qz,B0,reduceIte,reduceEqDiff]
 refine kq rfl (yw hW pb0 c_0 n_1 v1 hx2 hS) ?_
 rintro _ h4 ⟨rfl,hS5⟩
 simp only [qv,qb,yo,qe,qa,q9,B0,reduceIte,reduceEqDiff]
 have he:=qi hF3
 subst he
 simp only [zl,B0,reduceIte,reduceEqDiff]
 exact ⟨by first | trivial | rfl,hS5⟩
theorem qfn {W:Nat→Bool}{h:Heap}{lo:Nat→Prop}{S0:List Obj} (hW:∀ b,
  lo b→W b=true) (pb0:Nat) (c_0:L1Cur) (pv1:XV) (pc1:List Obj) (list_1:List Int) (ph1:SlF cI 1 3 pv1 list_1 pc1) (r:Int × L1Cur × (List Int))
  (hF:qbl c_0 list_1=some r) (hS:Sep h lo ([Blk1 pb0 [lst cU8 c_0.code,.int .i64 c_0.at_,.int .u64 c_0.seed] 87]++(pc1++(S0)))) : Ret E W 92 [.ptr pb0 0,
  pv1] h (fun v h'=>∃ ic1,v = .int .i64 r.1∧SlF cI 1 3 pv1 r.2.2 ic1∧Sep h' lo ([Blk1 pb0 [lst cU8 r.2.1.code,.int .i64 r.2.1.at_,
  .int .u64 r.2.1.seed] 87]++(ic1++(S0)))):=by
 refine Ret.of (fn:=x92) rfl (Run.of ?_)
 unfold qbl at hF
 have zf0:zb [.ptr pb0 0,pv1] 0 = .ptr pb0 0:=rfl
 have zf1:zb [.ptr pb0 0,pv1] 1=pv1:=rfl
 generalize zb [.ptr pb0 0,pv1]=fr0 at zf0 zf1 ⊢
 obtain ⟨v1,hx2,hF3⟩:=qh hF
 simp only [x92,qf,qd,qe,qa,qzk,zf1,zf0,zn,qb,SlF.plen ph1,qz,B0,reduceIte,reduceEqDiff]
 refine kq rfl (yw hW pb0 c_0 (List.length list_1:Int) v1 hx2 hS) ?_
 rintro _ h4 ⟨rfl,hS5⟩
 obtain ⟨x6,hx7,hF8⟩:=qh hF3
 simp only [jg,B0,reduceIte,reduceEqDiff]
 obtain ⟨b9,hb10⟩:=SlF.isrow ph1 (wv hx7)
 refine qg (SlF.ia ph1 hb10 hx7) ?_
 simp only [ql,B0,reduceIte,reduceEqDiff]
 refine qg (v := .int .i64 x6) ((SlF.ld (o:=0) ph1 (Sep.m1 hS5) hb10 hx7 (fun _=>rfl) (nle rfl)).trans rfl) ?_
 simp only [qe,qa,q9,B0,reduceIte,reduceEqDiff]
 have he:=qi hF8
 subst he
 simp only [zl,B0,reduceIte,reduceEqDiff]
 exact ⟨pc1,by first | trivial | rfl,ph1,(Sep.m1 (Sep.m1 hS5))⟩
theorem qj8 {W:Nat→Bool}{h:Heap}{lo:Nat→Prop}{S0:List Obj} (hW:∀ b,
  lo b→W b=true) (k:Nat) (pb0:Nat) (c_0:L1Cur) (r:(List Int) × L1Cur) (hF:qct k c_0=some r) (hS:Sep h lo ([Blk1 pb0 [lst cU8 c_0.code,
  .int .i64 c_0.at_,.int .u64 c_0.seed] 87]++(S0))) : Ret E W 90 [.ptr pb0 0] h (fun v h'=>∃ rv0 rc0,
  v=rv0∧SlF cI 1 3 rv0 r.1 rc0∧Sep h' lo (rc0++([Blk1 pb0 [lst cU8 r.2.code,.int .i64 r.2.at_,.int .u64 r.2.seed] 87]++(S0)))):=by
 refine Ret.of (fn:=x90) rfl (Run.of ?_)
 unfold qct at hF
 have zf0:zb [.ptr pb0 0] 0 = .ptr pb0 0:=rfl
 generalize zb [.ptr pb0 0]=fr0 at zf0 ⊢
 obtain ⟨v1,hx2,hF3⟩:=qh hF
 simp only [x90,qf,qd,qe,qa,quy,qt7,zf0,qz,B0,reduceIte,reduceEqDiff]
 refine kq rfl (yw hW pb0 c_0 3 v1 hx2 hS) ?_
 rintro _ h4 ⟨rfl,hS5⟩
 obtain ⟨v6,hx7,hF8⟩:=qh hF3
 simp only [qe,qa,qqe,qf,qd,zf0,qz,B0,reduceIte,reduceEqDiff]
 refine kq rfl (yw hW pb0 v1.2 10 v6 hx7 hS5) ?_
 rintro _ h9 ⟨rfl,hS10⟩
 obtain ⟨v11,hx12,hF13⟩:=qh hF8
 simp only [qe,qa,qth,qf,qd,zf0,qz,B0,reduceIte,reduceEqDiff]
 refine kq rfl (qdr hW pb0 v6.2 20 v11 hx12 hS10) ?_
 rintro _ h14 ⟨rfl,hS15⟩
 simp only [qa,q0n,za,B0,reduceIte,reduceEqDiff]
 obtain ⟨sv21,hX19,hk20⟩:=qh hF13
 refine uv (t:=v11.1) (fun fr' h'=>fr' 0 = .ptr pb0 0∧fr' 3 = .nil∧fr' 4 = .int .i64 v1.1∧fr' 5 = .int .i64 sv21.1∧Sep h' lo ([Blk1 pb0 [lst cU8 sv21.2.code,
   .int .i64 sv21.2.at_,.int .u64 sv21.2.seed] 87]++(S0))) (fun Q22 hN23 hR24 hE25=>⟨fun hc26=>?_,fun hc26=>?_⟩) ?_
 ·rw [iteT hc26] at hX19
  obtain ⟨v27,hx28,hF29⟩:=qh hX19
  simp only [q0k,qd,zf0,qe,qz,B0,reduceIte,reduceEqDiff]
  refine kq rfl (yw hW pb0 v11.2 2 v27 hx28 hS15) ?_
  rintro _ h30 ⟨rfl,hS31⟩
  simp only [qv,qb,qbj,qe,qa,qj,B0,reduceIte,reduceEqDiff]
  have e32:=qi hF29
  subst e32
  exact hN23 _ _ ⟨zf0,rfl,rfl,rfl,hS31⟩
 ·rw [iteF hc26] at hX19
  simp only [zc,qj,B0,reduceIte,reduceEqDiff]
  have e33:=qi hX19
  subst e33
  exact hN23 _ _ ⟨zf0,rfl,rfl,rfl,hS15⟩
 rintro fr34 h35 ⟨f37,f38,f39,f40,hS36⟩
 obtain ⟨s16,s17⟩:=sv21
 dsimp only at *
 unfold qb6 at hk20
 simp only [qtb,qf,B0,reduceIte,reduceEqDiff]
 obtain ⟨oc59,hX61,hk62⟩:=kd hk20
 simp only [qyg]
 refine qgm (σ:=(List Int) × Int × Int × L1Cur) (fun s110=>ua s110.1 s110.2.1 s110.2.2.1 s110.2.2.2) (fun s fr' h'=>∃ v51 c52,
   fr' 0 = .ptr pb0 0∧fr' 3=v51∧fr' 4 = .int .i64 s.2.1∧fr' 5 = .int .i64 s.2.2.1∧SlF cI 1 3 v51 s.1 c52∧Sep h' lo ([Blk1 pb0 [lst cU8 s.2.2.2.code,
   .int .i64 s.2.2.2.at_,.int .u64 s.2.2.2.seed] 87]++(c52++(S0)))) hX61 ⟨.nil,[],f37,f38,f39,f40,SlF.nil,(hS36:Sep _ lo ([Blk1 pb0 [lst cU8 s17.code,
   .int .i64 s17.at_,.int .u64 s17.seed] 87]++(S0)))⟩ (fun _ _ _ h=>h) ?_ ?_
 ·rintro ⟨s49,s54,s55,s56⟩ fr71 h72 ⟨v51,c52,f74,f75,f76,f77,hv53,hS73⟩ oc60 hF63 hr64 Q65 hN66 hK67 hR68 hE69
  dsimp only at *
  unfold ua at hF63
  simp only [qza,qf,qd,f77,qe,qv,qb,xj,qa,za,B0,reduceIte,reduceEqDiff]
  refine q8 (t:=(decide ((0:Int)<s55))) (fun hc79=>?_) (fun hc79=>?_)
  ·rw [iteT hc79] at hF63
   simp only [zc,q0g,qf,qaw,q0h,qd,f75,qe,f76,ju,evp,B0,reduceIte,reduceEqDiff]
   refine jk (n:=1) (f:=cI) [s54] hS73 rfl rfl (fun v80 c81 h82 hv83 hS84=>?_)
   simp only [wa,B0,reduceIte,reduceEqDiff]
   obtain ⟨l86,hx87,hF88⟩:=qh hF63
   refine yj (f:=cI) hv53 (Sep.m2 hS84) hW (fun _=>rfl) (fun _=>rfl) (SlF.first hv83 hS84 (fun _=>rfl)) hx87 (fun v89 c90 h91 hv92 hS93=>?_)
   simp only [qe,qa,q06,qd,f76,f74,ju,evp,B0,reduceIte,reduceEqDiff]
   refine jk (n:=1) (f:=cI) [0,0,0,1,2] hS93 rfl rfl (fun v95 c96 h97 hv98 hS99=>?_)
   obtain ⟨v101,hx102,hF103⟩:=qh hF88
   simp only [qz,B0,reduceIte,reduceEqDiff]
   refine kq rfl (qfn hW pb0 s56 v95 c96 [0,0,0,1,2] hv98 v101 hx102 (Sep.m3 hS99)) ?_
   rintro _ h106 ⟨c104,rfl,hv105,hS107⟩
   simp only [qv,qb,qbj,qe,qa,qbc,qd,f77,qbr,qj,B0,reduceIte,reduceEqDiff]
   have e108:=qi hF103
   exact hN66 _ _ _ e108.symm ⟨v89,c90,f74,rfl,rfl,rfl,hv92,(Sep.m1 (Sep.m1 (Sep.dc (Sep.m2 (Sep.dc (Sep.m1 hS107))))))⟩
  rw [iteF hc79] at hF63
  simp only [qdl,qcm,qea,B0,reduceIte,reduceEqDiff]
  have e109:=qi hF63
  exact hK67 _ _ _ e109.symm ⟨v51,c52,f74,f75,f76,f77,hv53,(Sep.m1 (Sep.m1 hS73))⟩
 rintro ⟨s111,s116,s117,s118⟩ fr119 h120 rfl ⟨v113,c114,f122,f123,f124,f125,hv115,hS121⟩
 dsimp only [jnO] at hk62
 dsimp only at *
 unfold qb9 at hk62
 simp only [qsc,qf,qd,f123,qe,zn,qb,SlF.plen hv115,qv,xj,B0,reduceIte,reduceEqDiff]
 obtain ⟨sv131,hX129,hk130⟩:=qh hk62
 refine ja 3 (fun fr' h'=>fr' 0 = .ptr pb0 0∧fr' 3=v113∧fr' 34 = .bool sv131.1∧Sep h' lo ([Blk1 pb0 [lst cU8 sv131.2.code,.int .i64 sv131.2.at_,
   .int .u64 sv131.2.seed] 87]++(c114++(S0)))) (fun Q132 hN133=>?_) ?_
 ·simp only [List.take_succ_cons,List.take_zero]
  simp only [qc (g:=31),B0,reduceIte,reduceEqDiff]
  refine qy (t:=(decide ((0:Int)<(List.length s111:Int)))) (fun hg136=>?_) (fun hg136=>?_)
  ·rw [iteT hg136] at hX129
   obtain ⟨v137,hx138,hF139⟩:=qh hX129
   simp only [hg136,qc (g:=31),ze,f122,qe,qz,B0,reduceIte,reduceEqDiff]
   refine kq rfl (qdr hW pb0 s118 20 v137 hx138 hS121) ?_
   rintro _ h140 ⟨rfl,hS141⟩
   simp only [hg136,qq,qb,zj,qa,qj,B0,reduceIte,reduceEqDiff]
   have e142:=qi hF139
   subst e142
   exact hN133 _ _ ⟨f122,f123,rfl,(Sep.m1 (Sep.m1 hS141))⟩
  ·rw [iteF hg136] at hX129
   simp only [hg136,qc (g:=31),jv,qq,qb,zi,qa,qj,B0,reduceIte,reduceEqDiff]
   have e143:=qi hX129
   subst e143
   exact hN133 _ _ ⟨f122,f123,rfl,(Sep.m1 (Sep.m1 hS121))⟩
 rintro fr144 h145 ⟨f147,f148,f149,hS146⟩
 obtain ⟨s126,s127⟩:=sv131
 dsimp only at *
 unfold qb7 at hk130
 simp only [List.drop_succ_cons,List.drop_zero]
 simp only [qa,q15,f149,za,B0,reduceIte,reduceEqDiff]
 refine q8 (t:=s126) (fun hc150=>?_) (fun hc150=>?_)
 ·rw [iteT hc150] at hk130
  obtain ⟨v151,hx152,hF153⟩:=qh hk130
  simp only [q0y,qd,f148,qe,f147,zn,qb,SlF.plen hv115,qz,B0,reduceIte,reduceEqDiff]
  refine kq rfl (yw hW pb0 s127 (List.length s111:Int) v151 hx152 hS146) ?_
  rintro _ h154 ⟨rfl,hS155⟩
  simp only [f147,qe,ju,evp,B0,reduceIte,reduceEqDiff]
  refine jk (n:=1) (f:=cI) [(-1),0,100,101] hS155 rfl rfl (fun v156 c157 h158 hv159 hS160=>?_)
  obtain ⟨v162,hx163,hF164⟩:=qh hF153
  simp only [qz,B0,reduceIte,reduceEqDiff]
  refine kq rfl (qfn hW pb0 v151.2 v156 c157 [(-1),0,100,101] hv159 v162 hx163 (Sep.m1 hS160)) ?_
  rintro _ h167 ⟨c165,rfl,hv166,hS168⟩
  obtain ⟨x169,hx170,hF171⟩:=qh hF164
  simp only [jg,B0,reduceIte,reduceEqDiff]
  obtain ⟨b172,hb173⟩:=SlF.isrow hv115 (wv hx170)
  refine qg (SlF.ia hv115 hb173 hx170) ?_
  simp only [zg,B0,reduceIte,reduceEqDiff]
  refine qu7 (f:=cI) (x':=v162.1) (o:=0) hv115 (Sep.m2 hS168) hW hb173 hx170 (fun _=>rfl) rfl rfl (nle rfl) rfl (fun c176 h174 hv177 hS175=>?_)
  have hx178:=xd (x':=v162.1) hx170
  simp only [qa,qf,qd,f148,qe,q9,B0,reduceIte,reduceEqDiff]
  have he:=qi hF171
  subst he
  simp only [zl,B0,reduceIte,reduceEqDiff]
  exact ⟨v113,c176,by first | trivial | rfl,hv177,(Sep.m1 (Sep.m1 (Sep.dc (Sep.m2 hS175))))⟩
 rw [iteF hc150] at hk130
 simp only [zc,qf,qd,f148,qe,qa,q9,B0,reduceIte,reduceEqDiff]
 have he:=qi hk130
 subst he
 simp only [zl,B0,reduceIte,reduceEqDiff]
 exact ⟨v113,c114,by first | trivial | rfl,hv115,(Sep.m1 hS146)⟩
theorem qlo {W:Nat→Bool}{h:Heap}{lo:Nat→Prop}{S0:List Obj} (hW:∀ b,
  lo b→W b=true) (k:Nat) (pb0:Nat) (c_0:L1Cur) (r:(List (List Int)) × L1Cur) (hF:qc2 k c_0=some r) (hS:Sep h lo ([Blk1 pb0 [lst cU8 c_0.code,
  .int .i64 c_0.at_,.int .u64 c_0.seed] 87]++(S0))) : Ret E W 47 [.ptr pb0 0] h (fun v h'=>∃ rv0 rc0,
  v=rv0∧SlN RL44 1 44 rv0 r.1 rc0∧Sep h' lo (rc0++([Blk1 pb0 [lst cU8 r.2.code,.int .i64 r.2.at_,.int .u64 r.2.seed] 87]++(S0)))):=by
 refine Ret.of (fn:=x47) rfl (Run.of ?_)
 unfold qc2 at hF
 have zf0:zb [.ptr pb0 0] 0 = .ptr pb0 0:=rfl
 generalize zb [.ptr pb0 0]=fr0 at zf0 ⊢
 obtain ⟨v1,hx2,hF3⟩:=qh hF
 simp only [x47,qf,qd,qe,qa,qsx,qpo,zf0,qz,B0,reduceIte,reduceEqDiff]
 refine kq rfl (yw hW pb0 c_0 5 v1 hx2 hS) ?_
 rintro _ h4 ⟨rfl,hS5⟩
 simp only [qv,qb,qbj,qe,qa,B0,reduceIte,reduceEqDiff]
 obtain ⟨oc22,hX24,hk25⟩:=kd hF3
 simp only [qy6]
 refine qgm (σ:=(List (List Int)) × Int × L1Cur) (fun s119=>ug k s119.1 s119.2.1 s119.2.2) (fun s fr' h'=>∃ v15 c16,
   fr' 0 = .ptr pb0 0∧fr' 3=v15∧fr' 4 = .int .i64 s.2.1∧SlN RL44 1 44 v15 s.1 c16∧Sep h' lo ([Blk1 pb0 [lst cU8 s.2.2.code,.int .i64 s.2.2.at_,
   .int .u64 s.2.2.seed] 87]++(c16++(S0)))) hX24 ⟨.nil,[],zf0,rfl,rfl,SlN.nil,(hS5:Sep _ lo ([Blk1 pb0 [lst cU8 v1.2.code,.int .i64 v1.2.at_,
   .int .u64 v1.2.seed] 87]++(S0)))⟩ (fun _ _ _ h=>h) ?_ ?_
 ·rintro ⟨s13,s18,s19⟩ fr34 h35 ⟨v15,c16,f37,f38,f39,hv17,hS36⟩ oc23 hF26 hr27 Q28 hN29 hK30 hR31 hE32
  dsimp only at *
  unfold ug at hF26
  simp only [qxx,qf,qd,f39,qe,qv,qb,xj,qa,za,B0,reduceIte,reduceEqDiff]
  refine q8 (t:=(decide ((0:Int)<s18))) (fun hc41=>?_) (fun hc41=>?_)
  ·rw [iteT hc41] at hF26
   obtain ⟨v42,hx43,hF44⟩:=qh hF26
   simp only [zc,qzs,qf,qaw,q0l,qd,f37,qe,qz,B0,reduceIte,reduceEqDiff]
   refine kq rfl (qj8 hW k pb0 s19 v42 hx43 hS36) ?_
   rintro v45 h49 ⟨_,c46,rfl,hv47,hS50⟩
   obtain ⟨v51,hx52,hF53⟩:=qh hF44
   simp only [qe,qa,qxy,qf,qd,qz,B0,reduceIte,reduceEqDiff]
   refine jp rfl (qo (SlF.snap hv47 hS50 rfl (fun _=>rfl) (fun _=>rfl)) zh) (qex (fun b hb=>decide_eq_true hb) v42.1 v51 hx52) ?_
   simp only [js,qb,ki,qe,B0,reduceIte,reduceEqDiff]
   obtain ⟨v57,hx58,hF59⟩:=qh hF53
   refine ja 4 (fun fr' h'=>Sep h' lo ([Blk1 pb0 [lst cU8 v42.2.code,.int .i64 v42.2.at_,
     .int .u64 v42.2.seed] 87]++(c16++(c46++(S0))))∧fr' 22 = .bool v57∧fr' 0 = .ptr pb0 0∧fr' 3=v15∧fr' 4 = .int .i64 s18∧fr' 5=v45)
     (fun Q54 hN55=>?_) ?_
   ·simp only [List.take_succ_cons,List.take_zero]
    simp only [qc (g:=18),B0,reduceIte,reduceEqDiff]
    refine qy (t:=(!v51)) (fun hg56=>?_) (fun hg56=>?_)
    ·rw [iteT hg56] at hx58
     simp only [hg56,qc (g:=18),zq,qq,qb,zj,qa,qj,B0,reduceIte,reduceEqDiff]
     have e60:=qi hx58
     exact hN55 _ _ ⟨(Sep.m2 (Sep.m2 hS50)),by rw [←e60]; simp only [B0,reduceIte,reduceEqDiff],f37,f38,f39,rfl⟩
    ·rw [iteF hg56] at hx58
     obtain ⟨v61,hx62,hF63⟩:=qh hx58
     simp only [hg56,qc (g:=18),qn,qe,qz,B0,reduceIte,reduceEqDiff]
     refine jp rfl (qo (SlF.snap hv47 hS50 rfl (fun _=>rfl) (fun _=>rfl)) zh) (qb0 (fun b hb=>decide_eq_true hb) v42.1 v61 hx62) ?_
     simp only [hg56,qc (g:=18),qn,qv,qb,xj,qq,zi,qa,qj,B0,reduceIte,reduceEqDiff]
     have e64:=qi hF63
     exact hN55 _ _ ⟨(Sep.m2 (Sep.m2 hS50)),by rw [←e64]; simp only [B0,reduceIte,reduceEqDiff],f37,f38,f39,rfl⟩
   rintro fr65 h71 ⟨hS72,f66,f67,f68,f69,f70⟩
   simp only [List.drop_succ_cons,List.drop_zero]
   simp only [qa,qzc,f66,za,B0,reduceIte,reduceEqDiff]
   obtain ⟨s73,hX79,hk80⟩:=qh hF59
   refine uv (t:=v57) (fun fr' h'=>∃ v75 c76,
     fr' 0 = .ptr pb0 0∧fr' 3=v15∧fr' 4 = .int .i64 s18∧fr' 5=v75∧SlF cI 1 3 v75 s73 c76∧Sep h' lo ([Blk1 pb0 [lst cU8 v42.2.code,.int .i64 v42.2.at_,
     .int .u64 v42.2.seed] 87]++(c16++(c76++(S0))))) (fun Q81 hN82 hR83 hE84=>⟨fun hc85=>?_,fun hc85=>?_⟩) ?_
   ·rw [iteT hc85] at hX79
    simp only [qd,ju,evp,B0,reduceIte,reduceEqDiff]
    refine jk (n:=1) (f:=cI) [1,2] hS72 rfl rfl (fun v86 c87 h88 hv89 hS90=>?_)
    simp only [qe,qa,qj,B0,reduceIte,reduceEqDiff]
    have e92:=qi hX79
    subst e92
    exact hN82 _ _ ⟨v86,c87,f67,f68,f69,rfl,hv89,(Sep.m2 (Sep.m2 (Sep.dc (Sep.m3 hS90))))⟩
   ·rw [iteF hc85] at hX79
    simp only [zc,qj,B0,reduceIte,reduceEqDiff]
    have e93:=qi hX79
    subst e93
    exact hN82 _ _ ⟨v45,c46,f67,f68,f69,f70,hv47,(Sep.m2 (Sep.m2 (Sep.m2 hS72)))⟩
   rintro fr94 h95 ⟨v75,c76,f97,f98,f99,f100,hv77,hS96⟩
   unfold qby at hk80
   simp only [q08,qd,f98,qe,f100,ju,evp,B0,reduceIte,reduceEqDiff]
   refine qdu (R:=RL44) (n:=1) (cs:=[v75]) (os:=c76) (Sep.m2 hS96) (uz (us:=[v75]) (vs:=[v75]) (jd (SlF.one hv77)) rfl (nle rfl) (qm
     (SlF.one hv77) zm) rfl qen) (RL44I (x:=s73) hv77) rfl (fun v101 c102 h103 hv104 hS105=>?_)
   simp only [wa,B0,reduceIte,reduceEqDiff]
   obtain ⟨l107,hx108,hF109⟩:=qh hk80
   refine qf5 (R:=RL44) (c:=c16) hv17 hv104 (Sep.m2 hS105) hW RL44O.len RL44O.one hx108 (fun v110 c111 h112 hv113 hS114=>?_)
   simp only [qe,qa,qbc,qd,f99,qv,qb,qbr,qj,B0,reduceIte,reduceEqDiff]
   have e116:=qi hF109
   exact hN29 _ _ _ e116.symm ⟨v110,c111,f97,rfl,rfl,hv113,(Sep.m1 hS114)⟩
  rw [iteF hc41] at hF26
  simp only [qdl,qcm,qea,B0,reduceIte,reduceEqDiff]
  have e118:=qi hF26
  exact hK30 _ _ _ e118.symm ⟨v15,c16,f37,f38,f39,hv17,(Sep.m1 (Sep.m1 hS36))⟩
 rintro ⟨s120,s125,s126⟩ fr127 h128 rfl ⟨v122,c123,f130,f131,f132,hv124,hS129⟩
 dsimp only [jnO] at hk25
 dsimp only at *
 unfold qbw at hk25
 obtain ⟨v133,hx134,hF135⟩:=qh hk25
 simp only [qpg,qf,qd,f130,qe,qz,B0,reduceIte,reduceEqDiff]
 refine kq rfl (qdr hW pb0 s126 30 v133 hx134 hS129) ?_
 rintro _ h136 ⟨rfl,hS137⟩
 simp only [qa,qpz,za,B0,reduceIte,reduceEqDiff]
 refine q8 (t:=v133.1) (fun hc138=>?_) (fun hc138=>?_)
 ·rw [iteT hc138] at hF135
  simp only [q1h,qd,f131,qe,ju,evp,B0,reduceIte,reduceEqDiff]
  refine jk (n:=1) (f:=cI) [11] hS137 rfl rfl (fun v139 c140 h141 hv142 hS143=>?_)
  obtain ⟨x145,hx146,hF147⟩:=qh hF135
  simp only [jg,B0,reduceIte,reduceEqDiff]
  obtain ⟨b148,hb149⟩:=SlN.isrow hv124 (wv hx146)
  refine qg (SlN.ia hv124 hb149 hx146) ?_
  obtain ⟨c152,cs153,os154,hv155,hR156,hS157⟩:=SlG.opn (SlN.toG hv124 hb149 RL44O.len) hx146 jm RL44O.len (Sep.m2 hS143)
  obtain ⟨v159,c160,hv161,rfl,rfl⟩:=hR156
  have hS158:=Sep.no1 hS157
  simp only [zg,B0,reduceIte,reduceEqDiff]
  refine yi (n:=1) (us:=[v139]) (cs:=[v159]) (o:=0) (cs':=[v139]) (jd (SlF.one hv142)) hv155 rfl hx146 hS158 hW rfl (qm (SlF.one hv142) zm)
    (nle rfl) rfl (fun c163 h150 hv164 hS151=>?_)
  simp only [qa,qf,qd,f131,qe,q9,B0,reduceIte,reduceEqDiff]
  obtain ⟨c165,hv166,hS167⟩:=SlG.cls (e':=[11]) (c:=c163) (os:=c140) hv164 rfl hx146 jm (RL44I (x:=[11]) hv142) (Sep.m1 (Sep.m2 hS151))
  have hx168:=xd (x':=[11]) hx146
  have hv169:=SlG.toN hv166
  have he:=qi hF147
  subst he
  simp only [zl,B0,reduceIte,reduceEqDiff]
  exact ⟨v122,c165,by first | trivial | rfl,hv169,(Sep.m1 (Sep.m1 (Sep.dc (Sep.m1 hS167))))⟩
 rw [iteF hc138] at hF135
 simp only [zc,qf,qd,f131,qe,qa,q9,B0,reduceIte,reduceEqDiff]
 have he:=qi hF135
 subst he
 simp only [zl,B0,reduceIte,reduceEqDiff]
 exact ⟨v122,c123,by first | trivial | rfl,hv124,(Sep.m1 hS137)⟩
theorem qic {W:Nat→Bool}{h:Heap}{lo:Nat→Prop}{S0:List Obj} (hW:∀ b,
  lo b→W b=true) (k:Nat) (pb0:Nat) (c_0:L1Cur) (r:(List ElectStep) × L1Cur) (hF:qaq k c_0=some r) (hS:Sep h lo ([Blk1 pb0 [lst cU8 c_0.code,
  .int .i64 c_0.at_,.int .u64 c_0.seed] 87]++(S0))) : Ret E W 48 [.ptr pb0 0] h (fun v h'=>∃ rv0 rc0,
  v=rv0∧SlF ElectStep.cells 2 49 rv0 r.1 rc0∧Sep h' lo (rc0++([Blk1 pb0 [lst cU8 r.2.code,.int .i64 r.2.at_,.int .u64 r.2.seed] 87]++(S0)))):=by
 refine Ret.of (fn:=x48) rfl (Run.of ?_)
 unfold qaq at hF
 have zf0:zb [.ptr pb0 0] 0 = .ptr pb0 0:=rfl
 generalize zb [.ptr pb0 0]=fr0 at zf0 ⊢
 obtain ⟨v1,hx2,hF3⟩:=qh hF
 simp only [x48,qf,qd,qe,qa,qq4,qqb,zf0,qz,B0,reduceIte,reduceEqDiff]
 refine kq rfl (yw hW pb0 c_0 30 v1 hx2 hS) ?_
 rintro _ h4 ⟨rfl,hS5⟩
 obtain ⟨v6,hx7,hF8⟩:=qh hF3
 simp only [qe,qa,qq5,qf,qd,zf0,qz,B0,reduceIte,reduceEqDiff]
 refine kq rfl (qdr hW pb0 v1.2 12 v6 hx7 hS5) ?_
 rintro _ h9 ⟨rfl,hS10⟩
 simp only [qa,qzy,za,B0,reduceIte,reduceEqDiff]
 obtain ⟨sv16,hX14,hk15⟩:=qh hF8
 refine uv (t:=v6.1) (fun fr' h'=>fr' 0 = .ptr pb0 0∧fr' 3 = .nil∧fr' 4 = .int .i64 sv16.1∧Sep h' lo ([Blk1 pb0 [lst cU8 sv16.2.code,.int .i64 sv16.2.at_,
   .int .u64 sv16.2.seed] 87]++(S0))) (fun Q17 hN18 hR19 hE20=>⟨fun hc21=>?_,fun hc21=>?_⟩) ?_
 ·rw [iteT hc21] at hX14
  obtain ⟨v22,hx23,hF24⟩:=qh hX14
  simp only [q01,qd,zf0,qe,qz,B0,reduceIte,reduceEqDiff]
  refine kq rfl (yw hW pb0 v6.2 12 v22 hx23 hS10) ?_
  rintro _ h25 ⟨rfl,hS26⟩
  simp only [qv,qb,qbj,qe,qa,qj,B0,reduceIte,reduceEqDiff]
  have e27:=qi hF24
  subst e27
  exact hN18 _ _ ⟨zf0,rfl,rfl,hS26⟩
 ·rw [iteF hc21] at hX14
  simp only [zc,qj,B0,reduceIte,reduceEqDiff]
  have e28:=qi hX14
  subst e28
  exact hN18 _ _ ⟨zf0,rfl,rfl,hS10⟩
 rintro fr29 h30 ⟨f32,f33,f34,hS31⟩
 obtain ⟨s11,s12⟩:=sv16
 dsimp only at *
 unfold qam at hk15
 simp only [qrt,qf,B0,reduceIte,reduceEqDiff]
 obtain ⟨oc51,hX53,hk54⟩:=kd hk15
 simp only [qpa]
 refine qgm (σ:=(List ElectStep) × Int × L1Cur) (fun s150=>yv s150.1 s150.2.1 s150.2.2) (fun s fr' h'=>∃ v44 c45,
   fr' 0 = .ptr pb0 0∧fr' 3=v44∧fr' 4 = .int .i64 s.2.1∧SlF ElectStep.cells 2 49 v44 s.1 c45∧Sep h' lo ([Blk1 pb0 [lst cU8 s.2.2.code,.int .i64 s.2.2.at_,
   .int .u64 s.2.2.seed] 87]++(c45++(S0)))) hX53 ⟨.nil,[],f32,f33,f34,SlF.nil,(hS31:Sep _ lo ([Blk1 pb0 [lst cU8 s12.code,.int .i64 s12.at_,
   .int .u64 s12.seed] 87]++(S0)))⟩ (fun _ _ _ h=>h) ?_ ?_
 ·rintro ⟨s42,s47,s48⟩ fr63 h64 ⟨v44,c45,f66,f67,f68,hv46,hS65⟩ oc52 hF55 hr56 Q57 hN58 hK59 hR60 hE61
  dsimp only at *
  unfold yv at hF55
  simp only [q17,qf,qd,f68,qe,qv,qb,xj,qa,za,B0,reduceIte,reduceEqDiff]
  refine q8 (t:=(decide ((0:Int)<s47))) (fun hc70=>?_) (fun hc70=>?_)
  ·rw [iteT hc70] at hF55
   simp only [zc,qx0,qf,qaw,qw4,qd,f66,qe,ju,evp,B0,reduceIte,reduceEqDiff]
   refine jk (n:=1) (f:=cI) [1,2,2,2,2,2,3,4] hS65 rfl rfl (fun v71 c72 h73 hv74 hS75=>?_)
   obtain ⟨v77,hx78,hF79⟩:=qh hF55
   simp only [qz,B0,reduceIte,reduceEqDiff]
   refine kq rfl (qfn hW pb0 s48 v71 c72 [1,2,2,2,2,2,3,4] hv74 v77 hx78 (Sep.m1 hS75)) ?_
   rintro _ h82 ⟨c80,rfl,hv81,hS83⟩
   obtain ⟨v84,hx85,hF86⟩:=qh hF79
   simp only [f66,qe,qz,B0,reduceIte,reduceEqDiff]
   refine kq rfl (yw hW pb0 v77.2.1 5 v84 hx85 hS83) ?_
   rintro _ h87 ⟨rfl,hS88⟩
   simp only [run_build,evp,B0,reduceIte,reduceEqDiff]
   refine qg (v := .agg [.int .i64 v77.1,.int .i64 v84.1]) rfl ?_
   simp only [jj,B0,reduceIte,reduceEqDiff]
   refine z8 hS88 (fun b89 h90 hS91=>?_)
   simp only [zg,B0,reduceIte,reduceEqDiff]
   refine qw (us:=[.int .i64 v77.1,.int .i64 v84.1]) rfl (cs':=[.int .i64 v77.1,.int .i64 v84.1]) hS91 hW rfl rfl (nle rfl) rfl (fun h93 hS94=>?_)
   obtain ⟨v95,hx96,hF97⟩:=qh hF86
   simp only [qa,qxu,qf,qd,f66,qe,qz,B0,reduceIte,reduceEqDiff]
   refine kq rfl (qdr hW pb0 v84.2 30 v95 hx96 (Sep.m1 hS94)) ?_
   rintro _ h98 ⟨rfl,hS99⟩
   simp only [qa,qzp,za,B0,reduceIte,reduceEqDiff]
   obtain ⟨sv105,hX103,hk104⟩:=qh hF97
   refine uv (t:=v95.1) (fun fr' h'=>fr' 0 = .ptr pb0 0∧fr' 3=v44∧fr' 4 = .int .i64 s47∧fr' 5 = .ptr b89 0∧Sep h' lo ([Blk1 pb0 [lst cU8 sv105.1.code,
     .int .i64 sv105.1.at_,.int .u64 sv105.1.seed] 87]++(c45++([Blk1 b89 [.int .i64 sv105.2.Term,
     .int .i64 sv105.2.Leader] 49]++(S0))))) (fun Q106 hN107 hR108 hE109=>⟨fun hc110=>?_,fun hc110=>?_⟩) ?_
   ·rw [iteT hc110] at hX103
    obtain ⟨v111,hx112,hF113⟩:=qh hX103
    simp only [qx2,qd,f66,qe,qz,B0,reduceIte,reduceEqDiff]
    refine kq rfl (yw hW pb0 v95.2 7 v111 hx112 hS99) ?_
    rintro _ h114 ⟨rfl,hS115⟩
    obtain ⟨v116,hx117,hF118⟩:=qh hF113
    simp only [f66,qe,qz,B0,reduceIte,reduceEqDiff]
    refine kq rfl (yw hW pb0 v111.2 8 v116 hx117 hS115) ?_
    rintro _ h119 ⟨rfl,hS120⟩
    simp only [qv,qb,qbr,run_build,evp,B0,reduceIte,reduceEqDiff]
    refine qg (v := .agg [.int .i64 v111.1,.int .i64 (IntKind.wrap .i64 (v116.1 - 1))]) rfl ?_
    simp only [zg,B0,reduceIte,reduceEqDiff]
    refine qw (us:=[.int .i64 v111.1,.int .i64 (IntKind.wrap .i64 (v116.1 - 1))]) rfl (cs':=[.int .i64 v111.1,
      .int .i64 (IntKind.wrap .i64 (v116.1 - 1))]) (Sep.m1 hS120) hW rfl rfl (nle rfl) rfl (fun h121 hS122=>?_)
    simp only [qa,qj,B0,reduceIte,reduceEqDiff]
    have e123:=qi hF118
    subst e123
    exact hN107 _ _ ⟨f66,f67,f68,rfl,(Sep.m2 (Sep.m2 (Sep.dc (Sep.m2 hS122))))⟩
   ·rw [iteF hc110] at hX103
    simp only [zc,qj,B0,reduceIte,reduceEqDiff]
    have e124:=qi hX103
    subst e124
    exact hN107 _ _ ⟨f66,f67,f68,rfl,(Sep.m2 (Sep.m2 (Sep.m1 (Sep.dc (Sep.m2 hS99)))))⟩
   rintro fr125 h126 ⟨f128,f129,f130,f131,hS127⟩
   obtain ⟨s100,s101⟩:=sv105
   dsimp only at *
   unfold qao at hk104
   simp only [qy2,qd,f129,qe,f131,ql,B0,reduceIte,reduceEqDiff]
   refine qg (v := .agg [.int .i64 s101.Term,.int .i64 s101.Leader]) ((zu (Sep.bk _ _ _ (Sep.m2 hS127))).trans rfl) ?_
   simp only [ju,evp,B0,reduceIte,reduceEqDiff]
   refine jk (n:=2) (f:=ElectStep.cells) [s101] hS127 rfl rfl (fun v132 c133 h134 hv135 hS136=>?_)
   simp only [wa,B0,reduceIte,reduceEqDiff]
   obtain ⟨l138,hx139,hF140⟩:=qh hk104
   refine yj (f:=ElectStep.cells) hv46 (Sep.m2 hS136) hW (fun _=>rfl) (fun _=>rfl) (SlF.first hv135 hS136 (fun _=>rfl)) hx139
     (fun v141 c142 h143 hv144 hS145=>?_)
   simp only [qe,qa,qbc,qd,f130,qv,qb,qbr,qj,B0,reduceIte,reduceEqDiff]
   have e147:=qi hF140
   exact hN58 _ _ _ e147.symm ⟨v141,c142,f128,rfl,rfl,hv144,(Sep.m1 (Sep.dc (Sep.m2 (Sep.dc (Sep.m1 hS145)))))⟩
  rw [iteF hc70] at hF55
  simp only [qdl,qcm,qea,B0,reduceIte,reduceEqDiff]
  have e149:=qi hF55
  exact hK59 _ _ _ e149.symm ⟨v44,c45,f66,f67,f68,hv46,(Sep.m1 (Sep.m1 hS65))⟩
 rintro ⟨s151,s156,s157⟩ fr158 h159 rfl ⟨v153,c154,f161,f162,f163,hv155,hS160⟩
 dsimp only [jnO] at hk54
 dsimp only at *
 unfold qeu at hk54
 simp only [qf,qd,f162,qe,qa,q9,B0,reduceIte,reduceEqDiff]
 have he:=qi hk54
 subst he
 simp only [zl,B0,reduceIte,reduceEqDiff]
 exact ⟨v153,c154,by first | trivial | rfl,hv155,(Sep.m1 hS160)⟩
theorem qfu {W:Nat→Bool}{h:Heap} (hW:∀ b,
  (geL h.length) b→W b=true) (k:Nat) (code_0:List Int) (r:(List (List Int)) × (List ElectStep))
  (hF:wz k code_0=some r) : Ret E W 7 [lst cU8 code_0] h (fun v h'=>∃ rv0 rc0 rv1 rc1,v = .tup [rv0,
  rv1]∧SlN RL44 1 44 rv0 r.1 rc0∧SlF ElectStep.cells 2 49 rv1 r.2 rc1∧Sep h' (geL h.length) (rc0++(rc1++([])))):=by
 refine Ret.of (fn:=x7) rfl (Run.of ?_)
 unfold wz at hF
 have zf0:zb [lst cU8 code_0] 0=lst cU8 code_0:=rfl
 generalize zb [lst cU8 code_0]=fr0 at zf0 ⊢
 have hS:Sep h (geL h.length) []:=Sep.nil h
 simp only [x7,qf,qd,qe,qa,q3u,zf0,run_build,evp,B0,reduceIte,reduceEqDiff]
 refine qg (v := .agg [lst cU8 code_0,.int .i64 0,.int .u64 0]) rfl ?_
 simp only [yb,B0,reduceIte,reduceEqDiff]
 refine kg (cs:=[lst cU8 code_0,.int .i64 0,.int .u64 0]) hS rfl rfl rfl (fun b1 h2 hS3=>?_)
 obtain ⟨v5,hx6,hF7⟩:=qh hF
 simp only [qe,qa,q5b,qf,qd,qz,B0,reduceIte,reduceEqDiff]
 refine kq rfl (qlo hW k b1 (L1Cur.mk code_0 0 0) v5 hx6 hS3) ?_
 rintro v8 h12 ⟨_,c9,rfl,hv10,hS13⟩
 obtain ⟨v14,hx15,hF16⟩:=qh hF7
 simp only [qe,qz,B0,reduceIte,reduceEqDiff]
 refine kq rfl (qic hW k b1 v5.2 v14 hx15 (Sep.m1 hS13)) ?_
 rintro v17 h21 ⟨_,c18,rfl,hv19,hS22⟩
 simp only [qe,qa,q9,B0,reduceIte,reduceEqDiff]
 have he:=qi hF16
 subst he
 simp only [qeh,B0,reduceIte,reduceEqDiff]
 exact ⟨v8,c9,v17,c18,by first | trivial | rfl,hv10,hv19,(Sep.m1 (Sep.dc (Sep.m1 hS22)))⟩
theorem yk {W:Nat→Bool}{h:Heap} (hW:∀ b,
  (geL h.length) b→W b=true) (n_0:Int) (low_1:Int) (high_2:Int) (r:Bool) (hF:some (zk n_0 low_1 high_2)=some r) : Ret E W 56 [.int .i64 n_0,
  .int .i64 low_1,.int .i64 high_2] h (fun v h'=>cut h.length h' E.sz false 9 v=some (.bool r)):=by
 refine Ret.of (fn:=x56) rfl (Run.of ?_)
 unfold zk at hF
 have zf0:zb [.int .i64 n_0,.int .i64 low_1,.int .i64 high_2] 0 = .int .i64 n_0:=rfl
 have zf1:zb [.int .i64 n_0,.int .i64 low_1,.int .i64 high_2] 1 = .int .i64 low_1:=rfl
 have zf2:zb [.int .i64 n_0,.int .i64 low_1,.int .i64 high_2] 2 = .int .i64 high_2:=rfl
 generalize zb [.int .i64 n_0,.int .i64 low_1,.int .i64 high_2]=fr0 at zf0 zf1 zf2 ⊢
 have hS:Sep h (geL h.length) []:=Sep.nil h
 simp only [x56,qf,qd,qe,qa,q1r,zf0,zf1,qv,qb,qhy,B0,reduceIte,reduceEqDiff]
 refine ja 4 (fun fr' h'=>Sep h' (geL h.length) ([])∧fr' 14 = .bool ((decide (low_1≤n_0))&&(decide (n_0≤high_2)))) (fun Q1 hN2=>?_) ?_
 ·simp only [List.take_succ_cons,List.take_zero]
  simp only [qc (g:=10),B0,reduceIte,reduceEqDiff]
  refine qy (t:=(decide (low_1≤n_0))) (fun hg3=>?_) (fun hg3=>?_)
  ·simp only [hg3,qc (g:=10),ze,zf0,qe,zf2,qv,qb,qjs,qq,zj,qa,qj,B0,reduceIte,reduceEqDiff]
   exact hN2 _ _ ⟨hS,by rw [qba hg3]; simp only [B0,reduceIte,reduceEqDiff]⟩
  ·simp only [hg3,qc (g:=10),jv,qq,qb,zi,qa,qj,B0,reduceIte,reduceEqDiff]
   exact hN2 _ _ ⟨hS,by rw [qbf hg3]; simp only [B0,reduceIte,reduceEqDiff]⟩
 rintro fr4 h6 ⟨hS7,f5⟩
 simp only [List.drop_succ_cons,List.drop_zero]
 simp only [f5,qe,qa,q9,B0,reduceIte,reduceEqDiff]
 have he:=qi hF
 subst he
 simp only [zl,B0,reduceIte,reduceEqDiff]
 exact rfl
theorem qbz {W:Nat→Bool}{h:Heap} (hW:∀ b,
  (geL h.length) b→W b=true) (l_0:List Int) (r:Int) (hF:xv l_0=some r) : Ret E W 58 [lst cI l_0] h (fun v h'=>cut h.length h' E.sz false 9 v=some
  (.int .i64 r)):=by
 refine Ret.of (fn:=x58) rfl (Run.of ?_)
 unfold xv at hF
 have zf0:zb [lst cI l_0] 0=lst cI l_0:=rfl
 generalize zb [lst cI l_0]=fr0 at zf0 ⊢
 have hS:Sep h (geL h.length) []:=Sep.nil h
 simp only [x58,qf,qd,qe,qa,qyo,zf0,zn,qb,zt,qv,yo,za,B0,reduceIte,reduceEqDiff]
 refine q8 (t:=(decide ((List.length l_0:Int)=0))) (fun hc1=>?_) (fun hc1=>?_)
 ·rw [iteT hc1] at hF
  simp only [qf,qd,qe,qa,q9,B0,reduceIte,reduceEqDiff]
  have he:=qi hF
  subst he
  simp only [zl,B0,reduceIte,reduceEqDiff]
  exact rfl
 rw [iteF hc1] at hF
 obtain ⟨x2,hx3,hF4⟩:=qh hF
 simp only [zc,q00,qf,qd,zf0,qe,zn,qb,zt,qv,qbr,jg,B0,reduceIte,reduceEqDiff]
 refine qg (v := .ref (cI x2) 0) (yg hx3 rfl) ?_
 simp only [ql,B0,reduceIte,reduceEqDiff]
 refine qg (v := .int .i64 x2) rfl ?_
 simp only [qe,qa,q9,B0,reduceIte,reduceEqDiff]
 have he:=qi hF4
 subst he
 simp only [zl,B0,reduceIte,reduceEqDiff]
 exact rfl
end Go.Proofs.Ytpddolihbnfahaa.X
namespace Go.Proofs.Ytpddolihbnfahaa.X
open Go
open Nat (reduceEqDiff)
theorem qe9 {W:Nat→Bool}{h:Heap} (hW:∀ b,
  (geL h.length) b→W b=true) (l_0:List Int) (r:Bool) (hF:ub l_0=some r) : Ret E W 68 [lst cI l_0] h (fun v h'=>cut h.length h' E.sz false 9 v=some
  (.bool r)):=by
 refine Ret.of (fn:=x68) rfl (Run.of ?_)
 unfold ub at hF
 have zf0:zb [lst cI l_0] 0=lst cI l_0:=rfl
 generalize zb [lst cI l_0]=fr0 at zf0 ⊢
 have hS:Sep h (geL h.length) []:=Sep.nil h
 simp only [x68,qf,qd,qe,qa,qyd,zf0,zn,qb,zt,B0,reduceIte,reduceEqDiff]
 obtain ⟨oc3,hX5,hk6⟩:=kd hF
 simp only [q0w]
 refine wj (σ:=Unit) l_0 (fun i1 x2 _=>qas l_0 i1 x2 ) (fun s fr' h'=>fr' 0=lst cI l_0∧fr' 5=lst cI l_0∧Sep h' (geL h.length) ([])) hX5 ⟨zf0,
   rfl,hS⟩ (by simp only [B0,reduceIte,reduceEqDiff]) (by simp only [B0,reduceIte,
   reduceEqDiff]) (fun _ _ _ h=>h) rfl rfl (fun _ _ _ _ h=>h) (fun _ _ _ _ h=>h) (fun _ _ _ _ h=>h) (by decide) ?_ ?_
 ·rintro i1 x2 _ fr15 h16 hx20 ⟨f18,f19,hS17⟩ f21 f22 oc4 hF7 hr8 Q9 hN10 hB14 hK11 hR12 hE13
  unfold qas at hF7
  simp only [q05,qf,qd,f21,qe,f19,jg,B0,reduceIte,reduceEqDiff]
  refine qg (v := .ref (cI x2) 0) (wi hx20 rfl) ?_
  simp only [ql,B0,reduceIte,reduceEqDiff]
  refine qg (v := .int .i64 x2) rfl ?_
  simp only [qe,qa,qyp,qf,qd,qz,B0,reduceIte,reduceEqDiff]
  refine jp rfl (qo zf (qo zf (qo zf zh))) (yk (fun b hb=>decide_eq_true hb) x2 0 100 _ rfl) ?_
  simp only [js,qb,ki,qe,B0,reduceIte,reduceEqDiff]
  obtain ⟨v26,hx27,hF28⟩:=qh hF7
  refine ja 12 (fun fr' h'=>Sep h' (geL h.length) ([])∧fr' 27 = .bool v26∧fr' 0=lst cI l_0∧fr' 5=lst cI l_0∧fr' 6 = .int .i64
    (List.length l_0:Int)∧fr' 7 = .int .i64 (i1:Int)) (fun Q23 hN24=>?_) ?_
  ·simp only [List.take_succ_cons,List.take_zero]
   simp only [qc (g:=15),B0,reduceIte,reduceEqDiff]
   refine qy (t:=(!(zk x2 0 100))) (fun hg25=>?_) (fun hg25=>?_)
   ·rw [iteT hg25] at hx27
    simp only [hg25,qc (g:=15),zq,qc (g:=18),y9,qq,qb,zj,qa,qj,B0,reduceIte,reduceEqDiff]
    have e29:=qi hx27
    exact hN24 _ _ ⟨hS17,by rw [←e29]; simp only [B0,reduceIte,reduceEqDiff],f18,f19,f22,f21⟩
   ·rw [iteF hg25] at hx27
    simp only [hg25,qc (g:=15),qn,qe,qv,qb,xj,B0,reduceIte,reduceEqDiff]
    obtain ⟨v33,hx34,hF35⟩:=qh hx27
    refine ja 8 (fun fr' h'=>Sep h' (geL h.length) ([])∧fr' 26 = .bool v33∧fr' 0=lst cI l_0∧fr' 5=lst cI l_0∧fr' 6 = .int .i64
      (List.length l_0:Int)∧fr' 7 = .int .i64 (i1:Int)∧fr' 15 = .bool (!(zk x2 0 100))) (fun Q30 hN31=>?_) ?_
    ·simp only [List.take_succ_cons,List.take_zero]
     simp only [qc (g:=18),B0,reduceIte,reduceEqDiff]
     refine qy (t:=(decide ((0:Int)<(i1:Int)))) (fun hg32=>?_) (fun hg32=>?_)
     ·rw [iteT hg32] at hx34
      obtain ⟨x36,hx37,hF38⟩:=qh hx34
      simp only [hg32,qc (g:=18),ze,f18,qe,qv,qb,qbr,jg,B0,reduceIte,reduceEqDiff]
      refine qg (v := .ref (cI x36) 0) (yg hx37 rfl) ?_
      simp only [hg32,qc (g:=18),ze,ql,B0,reduceIte,reduceEqDiff]
      refine qg (v := .int .i64 x36) rfl ?_
      simp only [hg32,qc (g:=18),ze,qe,qv,qb,xj,hg25,qc (g:=15),qn,qq,zj,qa,qj,
        B0,reduceIte,reduceEqDiff]
      have e39:=qi hF38
      exact hN31 _ _ ⟨hS17,by rw [←e39]; simp only [B0,reduceIte,reduceEqDiff],f18,f19,f22,f21,by simp only [hg25,B0,reduceIte,reduceEqDiff]⟩
     ·rw [iteF hg32] at hx34
      simp only [hg32,qc (g:=18),jv,hg25,qc (g:=15),qn,qq,qb,zi,qa,qj,B0,reduceIte,
        reduceEqDiff]
      have e40:=qi hx34
      exact hN31 _ _ ⟨hS17,by rw [←e40]; simp only [B0,reduceIte,reduceEqDiff],f18,f19,f22,f21,by simp only [hg25,B0,reduceIte,reduceEqDiff]⟩
    rintro fr41 h48 ⟨hS49,f42,f43,f44,f45,f46,f47⟩
    simp only [List.drop_succ_cons,List.drop_zero]
    simp only [f47,hg25,qq,qb,zi,f42,qa,qj,B0,reduceIte,reduceEqDiff]
    have e50:=qi hF35
    exact hN24 _ _ ⟨hS49,by rw [←e50]; simp only [B0,reduceIte,reduceEqDiff],f43,f44,f45,f46⟩
  rintro fr51 h57 ⟨hS58,f52,f53,f54,f55,f56⟩
  simp only [List.drop_succ_cons,List.drop_zero]
  simp only [qa,f52,za,B0,reduceIte,reduceEqDiff]
  refine q8 (t:=v26) (fun hc59=>?_) (fun hc59=>?_)
  ·rw [iteT hc59] at hF28
   simp only [qf,qd,qe,qa,q9,B0,reduceIte,reduceEqDiff]
   have e60:=qi hF28
   subst e60
   have ho61:=hr8 _ rfl
   have hk62:=hk6
   rw [ho61] at hk62
   dsimp only [jnO] at hk62
   apply hR12
   have he:=qi hk62
   subst he
   simp only [zl,B0,reduceIte,reduceEqDiff]
   exact rfl
  rw [iteF hc59] at hF28
  simp only [zc,qj,B0,reduceIte,reduceEqDiff]
  have e63:=qi hF28
  exact hN10 _ _ _ e63.symm ⟨f53,f54,hS58⟩ (f56) (f55)
 rintro _ fr65 h66 rfl ⟨f68,f69,hS67⟩
 dsimp only [jnO] at hk6
 unfold qes at hk6
 simp only [q1i,qf,qd,f68,qe,zn,qb,zt,qv,qjs,qa,q9,B0,reduceIte,reduceEqDiff]
 have he:=qi hk6
 subst he
 simp only [zl,B0,reduceIte,reduceEqDiff]
 exact rfl
theorem qh3 {W:Nat→Bool}{h:Heap} (hW:∀ b,
  (geL h.length) b→W b=true) (logs_0:List (List Int)) (r:Election × Bool) (hF:wk logs_0=some r) : Ret E W 49 [lst (cL cI) logs_0] h
  (fun v h'=>∃ rv0_0 rc0_0 rv0_1 rc0_1 rv0_2 rc0_2,v = .tup [.agg [rv0_0,rv0_1,rv0_2],
  .bool r.2]∧SlN Server.R 6 46 rv0_0 r.1.Servers rc0_0∧SlF Letter.cells 7 93 rv0_1 r.1.Post rc0_1∧SlF Vote.cells 2 39 rv0_2 r.1.Led rc0_2∧Sep h' (geL h.length)
  (rc0_0++(rc0_1++(rc0_2++([]))))):=by
 refine Ret.of (fn:=x49) rfl (Run.of ?_)
 unfold wk at hF
 have zf0:zb [lst (cL cI) logs_0] 0=lst (cL cI) logs_0:=rfl
 generalize zb [lst (cL cI) logs_0]=fr0 at zf0 ⊢
 have hS:Sep h (geL h.length) []:=Sep.nil h
 simp only [x49,qf,qd,jj,B0,reduceIte,reduceEqDiff]
 refine z8 hS (fun b1 h2 hS3=>?_)
 simp only [qe,qa,qut,qf,qd,zf0,zn,qb,zt,qz,B0,reduceIte,reduceEqDiff]
 refine jp rfl (qo zf (qo zf (qo zf zh))) (yk (fun b hb=>decide_eq_true hb) (List.length logs_0:Int) 1 5 _ rfl) ?_
 simp only [js,qb,ki,qa,qxl,za,B0,reduceIte,reduceEqDiff]
 refine q8 (t:=(!(zk (List.length logs_0:Int) 1 5))) (fun hc5=>?_) (fun hc5=>?_)
 ·rw [iteT hc5] at hF
  simp only [qf,qd,run_build,evp,B0,reduceIte,reduceEqDiff]
  refine qg (v := .agg [.nil,.nil,.nil]) rfl ?_
  simp only [zg,B0,reduceIte,reduceEqDiff]
  refine qw (us:=[.nil,.nil,.nil]) rfl (cs':=[.nil,.nil,.nil]) hS3 hW rfl rfl (nle rfl) rfl (fun h6 hS7=>?_)
  simp only [qe,qa,q9,B0,reduceIte,reduceEqDiff]
  have he:=qi hF
  subst he
  refine jz (qo (kf (bb:=b1) (oo:=0) (v := .agg [.nil,.nil,
    .nil]) (rfl) ((zu (Sep.bk _ _ _ hS7)).trans rfl)) (qo (yl (v := .bool false) (rfl)) zh)) ?_
  exact ⟨.nil,[],.nil,[],.nil,[],by first | trivial | rfl,SlN.nil,SlF.nil,SlF.nil,((Sep.dc (hS7)) : Sep _ (geL h.length) ([]))⟩
 rw [iteF hc5] at hF
 simp only [zc,qyk,qf,qd,run_build,evp,B0,reduceIte,reduceEqDiff]
 refine qg (v := .agg [.nil,.nil,.nil]) rfl ?_
 simp only [jj,B0,reduceIte,reduceEqDiff]
 refine z8 hS3 (fun b8 h9 hS10=>?_)
 simp only [zg,B0,reduceIte,reduceEqDiff]
 refine qw (us:=[.nil,.nil,.nil]) rfl (cs':=[.nil,.nil,.nil]) hS10 hW rfl rfl (nle rfl) rfl (fun h12 hS13=>?_)
 simp only [qa,qze,qf,qd,zf0,qe,zn,qb,zt,B0,reduceIte,reduceEqDiff]
 obtain ⟨oc26,hX28,hk29⟩:=kd hF
 simp only [qz2]
 refine wj (σ:=Election) logs_0 (fun i24 x25 s113=>qaa i24 x25 s113) (fun s fr' h'=>∃ v21 c22,
   fr' 2 = .ptr b1 0∧fr' 4 = .ptr b8 0∧fr' 13=lst (cL cI) logs_0∧SlN Server.R 6 46 v21 s.Servers c22∧Sep h' (geL h.length) ([Blk1 b1 [.nil,.nil,
   .nil] 31]++([Blk1 b8 [v21,.nil,.nil] 31]++(c22++([]))))) hX28 ⟨.nil,[],rfl,rfl,rfl,SlN.nil,((Sep.m1 hS13) : Sep _ (geL h.length) ([Blk1 b1 [.nil,.nil,
   .nil] 31]++([Blk1 b8 [.nil,.nil,.nil] 31]++([]))))⟩ (by simp only [B0,reduceIte,reduceEqDiff]) (by simp only [B0,reduceIte,
   reduceEqDiff]) (fun _ _ _ h=>h) rfl rfl (fun _ _ _ _ h=>h) (fun _ _ _ _ h=>h) (fun _ _ _ _ h=>h) (by decide) ?_ ?_
 ·rintro i24 x25 s19 fr38 h39 hx44 ⟨v21,c22,f41,f42,f43,hv23,hS40⟩ f45 f46 oc27 hF30 hr31 Q32 hN33 hB37 hK34 hR35 hE36
  unfold qaa at hF30
  simp only [qwm,qf,qd,f43,f45,jg,B0,reduceIte,reduceEqDiff]
  refine qg (v := .ref ((cL cI) x25) 0) (wi hx44 rfl) ?_
  simp only [ql,B0,reduceIte,reduceEqDiff]
  refine qg (v:=lst cI x25) rfl ?_
  obtain ⟨v47,hx48,hF49⟩:=qh hF30
  simp only [qe,qa,q0r,qf,qd,qz,B0,reduceIte,reduceEqDiff]
  refine jp rfl (qo ji zh) (qe9 (fun b hb=>decide_eq_true hb) x25 v47 hx48) ?_
  simp only [js,qb,ki,qe,B0,reduceIte,reduceEqDiff]
  obtain ⟨v53,hx54,hF55⟩:=qh hF49
  refine ja 4 (fun fr' h'=>Sep h' (geL h.length) ([Blk1 b1 [.nil,.nil,.nil] 31]++([Blk1 b8 [v21,.nil,
    .nil] 31]++(c22++([]))))∧fr' 26 = .bool v53∧fr' 2 = .ptr b1 0∧fr' 4 = .ptr b8 0∧fr' 6=lst cI x25∧fr' 13=lst (cL cI) logs_0∧fr' 14 = .int .i64
    (List.length logs_0:Int)∧fr' 15 = .int .i64 (i24:Int)) (fun Q50 hN51=>?_) ?_
  ·simp only [List.take_succ_cons,List.take_zero]
   simp only [qc (g:=22),B0,reduceIte,reduceEqDiff]
   refine qy (t:=(!v47)) (fun hg52=>?_) (fun hg52=>?_)
   ·rw [iteT hg52] at hx54
    simp only [hg52,qc (g:=22),zq,qq,qb,zj,qa,qj,B0,reduceIte,reduceEqDiff]
    have e56:=qi hx54
    exact hN51 _ _ ⟨(Sep.m2 (Sep.m2 (Sep.m2 hS40))),by rw [←e56]; simp only [B0,reduceIte,reduceEqDiff],f41,f42,rfl,f43,f46,f45⟩
   ·rw [iteF hg52] at hx54
    obtain ⟨v57,hx58,hF59⟩:=qh hx54
    simp only [hg52,qc (g:=22),qn,qe,qz,B0,reduceIte,reduceEqDiff]
    refine jp rfl (qo ji zh) (qbz (fun b hb=>decide_eq_true hb) x25 v57 hx58) ?_
    simp only [hg52,qc (g:=22),qn,qv,qb,xj,qq,zi,qa,qj,B0,reduceIte,reduceEqDiff]
    have e60:=qi hF59
    exact hN51 _ _ ⟨(Sep.m2 (Sep.m2 (Sep.m2 hS40))),by rw [←e60]; simp only [B0,reduceIte,reduceEqDiff],f41,f42,rfl,f43,f46,f45⟩
  rintro fr61 h69 ⟨hS70,f62,f63,f64,f65,f66,f67,f68⟩
  simp only [List.drop_succ_cons,List.drop_zero]
  simp only [qa,qwy,f62,za,B0,reduceIte,reduceEqDiff]
  refine q8 (t:=v53) (fun hc71=>?_) (fun hc71=>?_)
  ·rw [iteT hc71] at hF55
   simp only [qf,qd,run_build,evp,B0,reduceIte,reduceEqDiff]
   refine qg (v := .agg [.nil,.nil,.nil]) rfl ?_
   simp only [f63,zg,B0,reduceIte,reduceEqDiff]
   refine qw (us:=[.nil,.nil,.nil]) rfl (cs':=[.nil,.nil,.nil]) hS70 hW rfl rfl (nle rfl) rfl (fun h72 hS73=>?_)
   simp only [qe,qa,q9,B0,reduceIte,reduceEqDiff]
   have e74:=qi hF55
   subst e74
   have ho75:=hr31 _ rfl
   have hk76:=hk29
   rw [ho75] at hk76
   dsimp only [jnO] at hk76
   apply hR35
   have he:=qi hk76
   subst he
   refine jz (qo (kf (bb:=b1) (oo:=0) (v := .agg [.nil,.nil,
     .nil]) (f63) ((zu (Sep.bk _ _ _ hS73)).trans rfl)) (qo (yl (v := .bool false) (rfl)) zh)) ?_
   exact ⟨.nil,[],.nil,[],.nil,[],by first | trivial | rfl,SlN.nil,SlF.nil,SlF.nil,((Sep.dc ((Sep.dc ((Sep.dc (hS73)))))) : Sep _ (geL h.length) ([]))⟩
  rw [iteF hc71] at hF55
  simp only [zc,qxh,jr,f64,qc0,qk,Nat.reduceAdd,Nat.zero_add,Nat.add_zero,qs,qb8,B0,reduceIte,reduceEqDiff]
  refine qdq (Sep.ltk (Sep.m1 hS70)) ?_
  refine qu (v:=v21) ((zz (Sep.bk _ _ _ (Sep.m1 hS70))).trans rfl) ?_
  simp only [wt,evp,B0,reduceIte,reduceEqDiff]
  refine yy (n:=1) (f:=cI) ([] : List Int) hS70 rfl rfl (fun v78 c79 h80 hv81 hS82 hq77=>?_)
  simp only [f65,zw,qk,qgk,B0,reduceIte,reduceEqDiff]
  obtain ⟨l84,hx85,hF86⟩:=qh hF55
  have hq87:=nwq (fun z hz=>Sep.dj (Sep.m1 (Sep.m1 hS82)) qeo (SlF.rowfp hv81 z hz))
  have hq88:=nwq (fun z hz=>Sep.dj (Sep.m1 (Sep.m2 hS82)) qeo (SlF.rowfp hv81 z hz))
  refine qjl (qto (fun z hz=>Sep.dj (Sep.m1 (Sep.m2 hS82)) qeo (SlF.rowfp hv81 z hz)) qhr) ?_
  refine yz (f:=cI) hv81 hS82 hW (fun _=>rfl) (fun _=>rfl) (w5 (fun _=>rfl)) hx85 (fun v89 c90 h91 hv92 hS93=>?_)
  simp only [qa1,evp,B0,reduceIte,reduceEqDiff]
  refine qu (v := .agg [.int .i64 10,.int .i64 (-1),.bool false,.bool false,.nil,v89]) (qc9 (uz (us:=[.int .i64 10]) (vs:=[.int .i64 10,.int .i64 0,
    .bool false,.bool false,.nil,.nil]) rfl rfl (nle rfl) rfl rfl (uz (us:=[.int .i64 (-1)]) (vs:=[.int .i64 10,.int .i64 (-1),.bool false,.bool false,.nil,
    .nil]) rfl rfl (nle rfl) rfl rfl (uz (us:=[v89]) (vs:=[.int .i64 10,.int .i64 (-1),.bool false,.bool false,.nil,
    v89]) (jd (SlF.one hv92)) rfl (nle rfl) (qm (SlF.one hv92) zm) rfl qen)))) ?_
  simp only [wt,evp,B0,reduceIte,reduceEqDiff]
  refine qhk (R:=Server.R) (n:=6) (cs:=[.int .i64 10,.int .i64 (-1),.bool false,.bool false,.nil,
    v89]) (os:=[]++(c90)) (Sep.bi2 (c1:=[]) (c2:=c90) (S:=([Blk1 b1 [.nil,.nil,.nil] 31]++([Blk1 b8 [v21,.nil,
    .nil] 31]++(c22++([]))))) (hS93:Sep _ (geL h.length) (c90++([Blk1 b1 [.nil,.nil,.nil] 31]++([Blk1 b8 [v21,.nil,
    .nil] 31]++(c22++([]))))))) (uz (us:=[.int .i64 10,.int .i64 (-1),.bool false,.bool false,.nil,v89]) (vs:=[.int .i64 10,.int .i64 (-1),.bool false,
    .bool false,.nil,v89]) rfl rfl (nle rfl) (qm rfl (qm rfl (qm rfl (qm rfl (qm rfl (qm (SlF.one hv92) zm)))))) rfl qen) (Server.RI (x :=
    (Server.mk 10 (-1) false false [] l84)) SlF.nil hv92) rfl (fun v95 c96 h97 hv98 hS99=>?_)
  simp only [qcr,B0,reduceIte,reduceEqDiff]
  obtain ⟨l101,hx102,hF103⟩:=qh hF86
  refine qi4 (R:=Server.R) (c:=c22) hv23 hv98 (Sep.m3 hS99) hW Server.RO.len Server.RO.one hx102 (fun v104 c105 h106 hv107 hS108=>?_)
  simp only [f64,zx,qk,Nat.reduceAdd,Nat.zero_add,Nat.add_zero,qs,qcv,B0,reduceIte,reduceEqDiff]
  refine xe (us:=[v104]) (jd (SlN.one hv107)) (cs':=[v104,.nil,
    .nil]) (Sep.m2 hS108) hW rfl (qm (SlN.one hv107) zm) (nle rfl) rfl (fun h110 hS111=>?_)
  simp only [zd,qj,B0,reduceIte,reduceEqDiff]
  have e112:=qi hF103
  exact hN33 _ _ _ e112.symm ⟨v104,c105,f63,f64,f66,hv107,(Sep.m2 (Sep.m1 (Sep.m1 hS111)))⟩ (f68) (f67)
 rintro s114 fr119 h120 rfl ⟨v116,c117,f122,f123,f124,hv118,hS121⟩
 dsimp only [jnO] at hk29
 unfold qd7 at hk29
 simp only [qf,qd,f123,ql,B0,reduceIte,reduceEqDiff]
 refine qg (v := .agg [v116,.nil,.nil]) ((zu (Sep.bk _ _ _ (Sep.m1 hS121))).trans rfl) ?_
 simp only [f122,zg,B0,reduceIte,reduceEqDiff]
 refine qw (us:=[v116,.nil,.nil]) rfl (cs':=[v116,.nil,
   .nil]) hS121 hW rfl (qm (SlN.one hv118) (qm rfl (qm rfl zm))) (nle rfl) rfl (fun h125 hS126=>?_)
 simp only [qe,qa,q9,B0,reduceIte,reduceEqDiff]
 have he:=qi hk29
 subst he
 refine jz (qo (kf (bb:=b1) (oo:=0) (v := .agg [v116,.nil,
   .nil]) (f122) ((zu (Sep.bk _ _ _ hS126)).trans rfl)) (qo (yl (v := .bool true) (rfl)) zh)) ?_
 exact ⟨v116,c117,.nil,[],.nil,[],by first | trivial | rfl,hv118,SlF.nil,SlF.nil,((Sep.dc ((Sep.dc (hS126)))) : Sep _ (geL h.length) (c117++([])))⟩
theorem qid {W:Nat→Bool}{h:Heap} (hW:∀ b,
  (geL h.length) b→W b=true) (list_0:List Int) (many_1:Int) (r:Bool) (hF:qar list_0 many_1=some r) : Ret E W 99 [lst cI list_0,
  .int .i64 many_1] h (fun v h'=>cut h.length h' E.sz false 9 v=some (.bool r)):=by
 refine Ret.of (fn:=x99) rfl (Run.of ?_)
 unfold qar at hF
 have zf0:zb [lst cI list_0,.int .i64 many_1] 0=lst cI list_0:=rfl
 have zf1:zb [lst cI list_0,.int .i64 many_1] 1 = .int .i64 many_1:=rfl
 generalize zb [lst cI list_0,.int .i64 many_1]=fr0 at zf0 zf1 ⊢
 have hS:Sep h (geL h.length) []:=Sep.nil h
 simp only [x99,qf,qd,qe,qa,qwu,zf0,zn,qb,zt,B0,reduceIte,reduceEqDiff]
 obtain ⟨oc3,hX5,hk6⟩:=kd hF
 simp only [qyy]
 refine wj (σ:=Unit) list_0 (fun i1 x2 _=>qan list_0 many_1 i1 x2 )
   (fun s fr' h'=>fr' 0=lst cI list_0∧fr' 1 = .int .i64 many_1∧fr' 7=lst cI list_0∧Sep h' (geL h.length) ([])) hX5 ⟨zf0,zf1,rfl,hS⟩ (by simp only [B0,reduceIte,
   reduceEqDiff]) (by simp only [B0,reduceIte,reduceEqDiff]) (fun _ _ _ h=>h) rfl rfl (fun _ _ _ _ h=>h) (fun _ _ _ _ h=>h) (fun _ _ _ _ h=>h) (by decide) ?_ ?_
 ·rintro i1 x2 _ fr15 h16 hx21 ⟨f18,f19,f20,hS17⟩ f22 f23 oc4 hF7 hr8 Q9 hN10 hB14 hK11 hR12 hE13
  unfold qan at hF7
  simp only [q0b,qf,qd,f22,qe,f20,jg,B0,reduceIte,reduceEqDiff]
  refine qg (v := .ref (cI x2) 0) (wi hx21 rfl) ?_
  simp only [ql,B0,reduceIte,reduceEqDiff]
  refine qg (v := .int .i64 x2) rfl ?_
  simp only [qe,qa,q1s,qf,qd,f19,qv,qb,qbr,qz,B0,reduceIte,reduceEqDiff]
  refine jp rfl (qo zf (qo zf (qo zf zh))) (yk (fun b hb=>decide_eq_true hb) x2 0 (IntKind.wrap .i64 (many_1 - 1)) _ rfl) ?_
  simp only [js,qb,ki,qe,B0,reduceIte,reduceEqDiff]
  obtain ⟨v27,hx28,hF29⟩:=qh hF7
  refine ja 12 (fun fr' h'=>Sep h' (geL h.length) ([])∧fr' 31 = .bool v27∧fr' 0=lst cI list_0∧fr' 1 = .int .i64 many_1∧fr' 7=lst cI list_0∧fr' 8 = .int .i64
    (List.length list_0:Int)∧fr' 9 = .int .i64 (i1:Int)) (fun Q24 hN25=>?_) ?_
  ·simp only [List.take_succ_cons,List.take_zero]
   simp only [qc (g:=19),B0,reduceIte,reduceEqDiff]
   refine qy (t:=(!(zk x2 0 (IntKind.wrap .i64 (many_1 - 1))))) (fun hg26=>?_) (fun hg26=>?_)
   ·rw [iteT hg26] at hx28
    simp only [hg26,qc (g:=19),zq,qc (g:=22),y9,qq,qb,zj,qa,qj,B0,reduceIte,reduceEqDiff]
    have e30:=qi hx28
    exact hN25 _ _ ⟨hS17,by rw [←e30]; simp only [B0,reduceIte,reduceEqDiff],f18,f19,f20,f23,f22⟩
   ·rw [iteF hg26] at hx28
    simp only [hg26,qc (g:=19),qn,qe,qv,qb,xj,B0,reduceIte,reduceEqDiff]
    obtain ⟨v34,hx35,hF36⟩:=qh hx28
    refine ja 8 (fun fr' h'=>Sep h' (geL h.length)
      ([])∧fr' 30 = .bool v34∧fr' 0=lst cI list_0∧fr' 1 = .int .i64 many_1∧fr' 7=lst cI list_0∧fr' 8 = .int .i64
      (List.length list_0:Int)∧fr' 9 = .int .i64 (i1:Int)∧fr' 19 = .bool (!(zk x2 0 (IntKind.wrap .i64 (many_1 - 1))))) (fun Q31 hN32=>?_) ?_
    ·simp only [List.take_succ_cons,List.take_zero]
     simp only [qc (g:=22),B0,reduceIte,reduceEqDiff]
     refine qy (t:=(decide ((0:Int)<(i1:Int)))) (fun hg33=>?_) (fun hg33=>?_)
     ·rw [iteT hg33] at hx35
      obtain ⟨x37,hx38,hF39⟩:=qh hx35
      simp only [hg33,qc (g:=22),ze,f18,qe,qv,qb,qbr,jg,B0,reduceIte,reduceEqDiff]
      refine qg (v := .ref (cI x37) 0) (yg hx38 rfl) ?_
      simp only [hg33,qc (g:=22),ze,ql,B0,reduceIte,reduceEqDiff]
      refine qg (v := .int .i64 x37) rfl ?_
      simp only [hg33,qc (g:=22),ze,qe,qv,qb,qhy,hg26,qc (g:=19),qn,qq,zj,qa,qj,
        B0,reduceIte,reduceEqDiff]
      have e40:=qi hF39
      exact hN32 _ _ ⟨hS17,by rw [←e40]; simp only [B0,reduceIte,reduceEqDiff],f18,f19,f20,f23,f22,by simp only [hg26,B0,reduceIte,reduceEqDiff]⟩
     ·rw [iteF hg33] at hx35
      simp only [hg33,qc (g:=22),jv,hg26,qc (g:=19),qn,qq,qb,zi,qa,qj,B0,reduceIte,
        reduceEqDiff]
      have e41:=qi hx35
      exact hN32 _ _ ⟨hS17,by rw [←e41]; simp only [B0,reduceIte,reduceEqDiff],f18,f19,f20,f23,f22,by simp only [hg26,B0,reduceIte,reduceEqDiff]⟩
    rintro fr42 h50 ⟨hS51,f43,f44,f45,f46,f47,f48,f49⟩
    simp only [List.drop_succ_cons,List.drop_zero]
    simp only [f49,hg26,qq,qb,zi,f43,qa,qj,B0,reduceIte,reduceEqDiff]
    have e52:=qi hF36
    exact hN25 _ _ ⟨hS51,by rw [←e52]; simp only [B0,reduceIte,reduceEqDiff],f44,f45,f46,f47,f48⟩
  rintro fr53 h60 ⟨hS61,f54,f55,f56,f57,f58,f59⟩
  simp only [List.drop_succ_cons,List.drop_zero]
  simp only [qa,f54,za,B0,reduceIte,reduceEqDiff]
  refine q8 (t:=v27) (fun hc62=>?_) (fun hc62=>?_)
  ·rw [iteT hc62] at hF29
   simp only [qf,qd,qe,qa,q9,B0,reduceIte,reduceEqDiff]
   have e63:=qi hF29
   subst e63
   have ho64:=hr8 _ rfl
   have hk65:=hk6
   rw [ho64] at hk65
   dsimp only [jnO] at hk65
   apply hR12
   have he:=qi hk65
   subst he
   simp only [zl,B0,reduceIte,reduceEqDiff]
   exact rfl
  rw [iteF hc62] at hF29
  simp only [zc,qj,B0,reduceIte,reduceEqDiff]
  have e66:=qi hF29
  exact hN10 _ _ _ e66.symm ⟨f55,f56,f57,hS61⟩ (f59) (f58)
 rintro _ fr68 h69 rfl ⟨f71,f72,f73,hS70⟩
 dsimp only [jnO] at hk6
 unfold qez at hk6
 simp only [qf,qd,qe,qa,q9,B0,reduceIte,reduceEqDiff]
 have he:=qi hk6
 subst he
 simp only [zl,B0,reduceIte,reduceEqDiff]
 exact rfl
theorem qc5 {W:Nat→Bool}{h:Heap} (hW:∀ b,
  (geL h.length) b→W b=true) (s_0:List Vote) {g1:Nat} {caps1:List XV} (hm1:E.mode g1=1) (f_1:Vote→Option Bool) (hf1:∀ (W:Nat→Bool) (h:Heap),(∀ b,
  h.length≤b→W b=true)→∀ a0 r,f_1 a0=some r→Ret E W g1 ([.agg [.int .i64 a0.Term,
  .int .i64 a0.Leader]]++caps1) h (fun v h'=>cut h.length h' E.sz false 9 v=some (.bool r))) (r:Int)
  (hF:yn s_0 f_1=some r) : Ret E W 54 [lst Vote.cells s_0,.fn g1 caps1] h (fun v h'=>cut h.length h' E.sz false 9 v=some (.int .i64 r)):=by
 refine Ret.of (fn:=x54) rfl (Run.of ?_)
 unfold yn at hF
 have zf0:zb [lst Vote.cells s_0,.fn g1 caps1] 0=lst Vote.cells s_0:=rfl
 have zf1:zb [lst Vote.cells s_0,.fn g1 caps1] 1 = .fn g1 caps1:=rfl
 generalize zb [lst Vote.cells s_0,.fn g1 caps1]=fr0 at zf0 zf1 ⊢
 have hS:Sep h (geL h.length) []:=Sep.nil h
 simp only [x54,qf,qd,qe,qa,qw8,zf0,zn,qb,zt,B0,reduceIte,reduceEqDiff]
 obtain ⟨oc3,hX5,hk6⟩:=kd hF
 simp only [q0x]
 refine wj (σ:=Unit) s_0 (fun i1 x2 _=>ko f_1 i1 x2 ) (fun s fr' h'=>fr' 0=lst Vote.cells s_0∧fr' 1 = .fn g1 caps1∧Sep h' (geL h.length)
   ([])) hX5 ⟨zf0,zf1,hS⟩ (by simp only [B0,reduceIte,reduceEqDiff]) (by simp only [B0,reduceIte,
   reduceEqDiff]) (fun _ _ _ h=>h) rfl rfl (fun _ _ _ _ h=>h) (fun _ _ _ _ h=>h) (fun _ _ _ _ h=>h) (by decide) ?_ ?_
 ·rintro i1 x2 _ fr15 h16 hx20 ⟨f18,f19,hS17⟩ f21 f22 oc4 hF7 hr8 Q9 hN10 hB14 hK11 hR12 hE13
  unfold ko at hF7
  simp only [qxd,qf,qd,f21,qe,qa,qxa,f19,f18,jg,B0,reduceIte,reduceEqDiff]
  refine qg (v := .ref (Vote.cells x2) 0) (wi hx20 rfl) ?_
  simp only [ql,B0,reduceIte,reduceEqDiff]
  refine qg (v := .agg [.int .i64 x2.Term,.int .i64 x2.Leader]) rfl ?_
  obtain ⟨v23,hx24,hF25⟩:=qh hF7
  simp only [qz,B0,reduceIte,reduceEqDiff]
  refine jp hm1 (qo (yq (qo zf (qo zf zh))) zh) (hf1 _ _ (fun b hb=>decide_eq_true hb) x2 v23 hx24) ?_
  simp only [qa,q1b,za,B0,reduceIte,reduceEqDiff]
  refine q8 (t:=v23) (fun hc26=>?_) (fun hc26=>?_)
  ·rw [iteT hc26] at hF25
   simp only [qf,qd,qe,qa,q9,B0,reduceIte,reduceEqDiff]
   have e27:=qi hF25
   subst e27
   have ho28:=hr8 _ rfl
   have hk29:=hk6
   rw [ho28] at hk29
   dsimp only [jnO] at hk29
   apply hR12
   have he:=qi hk29
   subst he
   simp only [zl,B0,reduceIte,reduceEqDiff]
   exact rfl
  rw [iteF hc26] at hF25
  simp only [zc,qj,B0,reduceIte,reduceEqDiff]
  have e30:=qi hF25
  exact hN10 _ _ _ e30.symm ⟨f18,f19,hS17⟩ (f21) (f22)
 rintro _ fr32 h33 rfl ⟨f35,f36,hS34⟩
 dsimp only [jnO] at hk6
 unfold qci at hk6
 simp only [qf,qd,qe,qa,q9,B0,reduceIte,reduceEqDiff]
 have he:=qi hk6
 subst he
 simp only [zl,B0,reduceIte,reduceEqDiff]
 exact rfl
theorem qe3 {W:Nat→Bool}{h:Heap} (hW:∀ b,
  (geL h.length) b→W b=true) (s_0:List Vote) {g1:Nat} {caps1:List XV} (hm1:E.mode g1=1) (f_1:Vote→Option Bool) (hf1:∀ (W:Nat→Bool) (h:Heap),(∀ b,
  h.length≤b→W b=true)→∀ a0 r,f_1 a0=some r→Ret E W g1 ([.agg [.int .i64 a0.Term,
  .int .i64 a0.Leader]]++caps1) h (fun v h'=>cut h.length h' E.sz false 9 v=some (.bool r))) (r:Bool)
  (hF:xa s_0 f_1=some r) : Ret E W 100 [lst Vote.cells s_0,.fn g1 caps1] h (fun v h'=>cut h.length h' E.sz false 9 v=some (.bool r)):=by
 refine Ret.of (fn:=qox) rfl (Run.of ?_)
 unfold xa at hF
 have zf0:zb [lst Vote.cells s_0,.fn g1 caps1] 0=lst Vote.cells s_0:=rfl
 have zf1:zb [lst Vote.cells s_0,.fn g1 caps1] 1 = .fn g1 caps1:=rfl
 generalize zb [lst Vote.cells s_0,.fn g1 caps1]=fr0 at zf0 zf1 ⊢
 have hS:Sep h (geL h.length) []:=Sep.nil h
 obtain ⟨v1,hx2,hF3⟩:=qh hF
 simp only [qox,qf,qd,qe,qa,qqz,zf0,zf1,qz,B0,reduceIte,reduceEqDiff]
 refine jp rfl (qo ji (qo qjw zh)) (qc5 (fun b hb=>decide_eq_true hb) s_0 (g1:=g1) (caps1:=caps1) hm1 f_1 hf1 v1 hx2) ?_
 simp only [qv,qb,qhy,qe,qa,q9,B0,reduceIte,reduceEqDiff]
 have he:=qi hF3
 subst he
 simp only [zl,B0,reduceIte,reduceEqDiff]
 exact rfl
theorem qho {W:Nat→Bool}{h:Heap} (hW:∀ b,
  (geL h.length) b→W b=true) (v_0:Vote) (cap_0:Int) (r:Bool) (hF:some (xh v_0 cap_0)=some r) : Ret E W 101 [.agg [.int .i64 v_0.Term,
  .int .i64 v_0.Leader],.ref (cI cap_0) 0] h (fun v h'=>cut h.length h' E.sz false 9 v=some (.bool r)):=by
 refine Ret.of (fn:=qoa) rfl (Run.of ?_)
 unfold xh at hF
 have zf0:zb [.agg [.int .i64 v_0.Term,.int .i64 v_0.Leader],.ref (cI cap_0) 0] 0 = .agg [.int .i64 v_0.Term,.int .i64 v_0.Leader]:=rfl
 have zf1:zb [.agg [.int .i64 v_0.Term,.int .i64 v_0.Leader],.ref (cI cap_0) 0] 1 = .ref (cI cap_0) 0:=rfl
 generalize zb [.agg [.int .i64 v_0.Term,.int .i64 v_0.Leader],.ref (cI cap_0) 0]=fr0 at zf0 zf1 ⊢
 have hS:Sep h (geL h.length) []:=Sep.nil h
 simp only [qoa,qf,qd,yb,zf0,B0,reduceIte,reduceEqDiff]
 refine kg (cs:=[.int .i64 v_0.Term,.int .i64 v_0.Leader]) hS rfl rfl rfl (fun b1 h2 hS3=>?_)
 simp only [qe,qa,B0,reduceIte,reduceEqDiff]
 refine jb hS3 hW (by simp only [B0,reduceIte,reduceEqDiff]) (fun h5 hS6=>?_)
 simp only [z9,qq1,qf,qd,qp,qb,Nat.reduceAdd,Nat.zero_add,Nat.add_zero,qr,ql,B0,reduceIte,reduceEqDiff]
 refine qg (v := .int .i64 v_0.Term) rfl ?_
 simp only [qz,B0,reduceIte,reduceEqDiff]
 refine jp rfl (qo zf (qo zf (qo zf zh))) (yk (fun b hb=>decide_eq_true hb) v_0.Term 0 100 _ rfl) ?_
 simp only [js,qb,ki,qe,B0,reduceIte,reduceEqDiff]
 refine ja 7 (fun fr' h'=>Sep h' (geL h.length) ([])∧fr' 15 = .bool ((!(zk v_0.Term 0 100))||(!(zk v_0.Leader 0 (IntKind.wrap .i64 (cap_0 - 1))))))
   (fun Q7 hN8=>?_) ?_
 ·simp only [List.take_succ_cons,List.take_zero]
  simp only [qc (g:=8),B0,reduceIte,reduceEqDiff]
  refine qy (t:=(!(zk v_0.Term 0 100))) (fun hg9=>?_) (fun hg9=>?_)
  ·simp only [hg9,qc (g:=8),zq,qq,qb,zj,qa,qj,B0,reduceIte,reduceEqDiff]
   exact hN8 _ _ ⟨hS6,by rw [orT hg9]; simp only [B0,reduceIte,reduceEqDiff]⟩
  ·simp only [hg9,qc (g:=8),qn,qp,qb,Nat.reduceAdd,Nat.zero_add,Nat.add_zero,qr,ql,B0,reduceIte,reduceEqDiff]
   refine qg (v := .int .i64 v_0.Leader) rfl ?_
   simp only [hg9,qc (g:=8),qn,zf1,ql,B0,reduceIte,reduceEqDiff]
   refine qg (v := .int .i64 cap_0) rfl ?_
   simp only [hg9,qc (g:=8),qn,qv,qb,qbr,qz,B0,reduceIte,reduceEqDiff]
   refine jp rfl (qo zf (qo zf (qo zf zh))) (yk (fun b hb=>decide_eq_true hb) v_0.Leader 0 (IntKind.wrap .i64 (cap_0 - 1)) _ rfl) ?_
   simp only [hg9,qc (g:=8),qn,js,qb,ki,qq,zi,qa,qj,B0,reduceIte,reduceEqDiff]
   exact hN8 _ _ ⟨hS6,by rw [orF hg9]; simp only [B0,reduceIte,reduceEqDiff]⟩
 rintro fr10 h12 ⟨hS13,f11⟩
 simp only [List.drop_succ_cons,List.drop_zero]
 simp only [f11,qe,qa,q9,B0,reduceIte,reduceEqDiff]
 have he:=qi hF
 subst he
 simp only [zl,B0,reduceIte,reduceEqDiff]
 exact rfl
end Go.Proofs.Ytpddolihbnfahaa.X
