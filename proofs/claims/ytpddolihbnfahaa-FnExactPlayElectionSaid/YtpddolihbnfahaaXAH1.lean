/- The functions' code comes to what the plain functions say (1). -/
import Derived.Test.YtpddolihbnfahaaXAF
import Derived.Test.YtpddolihbnfahaaXAD
set_option linter.unusedVariables false
set_option linter.unusedSimpArgs false
set_option maxRecDepth 100000
namespace Go.Proofs.Ytpddolihbnfahaa.X
open Go
open Nat (reduceEqDiff)
def Server.R:Rep Server:=fun x cs os=>∃ (v4:XV) (c4:List Obj) (v5:XV) (c5:List Obj),SlF cI 1 3 v4 x.Got c4∧SlF cI 1 3 v5 x.Log c5∧cs=[.int .i64 x.Term,
  .int .i64 x.Voted,.bool x.Stands,.bool x.Leads,v4,v5]∧c4++(c5)=os
theorem Server.RI {x:Server}{v4:XV}{c4:List Obj}(h4:SlF cI 1 3 v4 x.Got c4){v5:XV}{c5:List Obj}(h5:SlF cI 1 3 v5 x.Log c5) : Server.R x [.int .i64 x.Term,
  .int .i64 x.Voted,.bool x.Stands,.bool x.Leads,v4,v5] (c4++(c5)):=⟨v4,c4,v5,c5,h4,h5,rfl,rfl⟩
theorem Server.RO:RepOk E.sz Server.R Server.cells 6 where
 len:=fun {x cs os} H=>by
  obtain ⟨v4,c4,v5,c5,h4,h5,rfl,rfl⟩:=H
  rfl
 flen:=fun _=>rfl
 one:=fun {x cs os} H=>by
  obtain ⟨v4,c4,v5,c5,h4,h5,rfl,rfl⟩:=H
  exact (qo rfl (qo rfl (qo rfl (qo rfl (qo (SlF.one h4) (qo (SlF.one h5) zn))))))
 snap:=fun {x cs os h lo S} m H hS=>by
  obtain ⟨v4,c4,v5,c5,h4,h5,rfl,rfl⟩:=H
  have hS2:Sep h lo (c4++(c5++S)):=(by simpa only [List.append_assoc] using hS)
  exact (qk za (qk za (qk u9 (qk u9 (qk (SlF.snap h4 hS2 rfl (fun _=>rfl) (fun _=>rfl)) (qk (SlF.snap h5 (Sep.m1 hS2) rfl
    (fun _=>rfl) (fun _=>rfl)) zd))))))
 cut:=fun {x cs os h lo n0 keep S} m H hS hge=>by
  obtain ⟨v4,c4,v5,c5,h4,h5,rfl,rfl⟩:=H
  have hS2:Sep h lo (c4++(c5++S)):=(by simpa only [List.append_assoc] using hS)
  exact (qk rfl (qk rfl (qk rfl (qk rfl (qk (SlF.cut h4 hS2 hge rfl (fun _=>rfl) (fun _=>rfl)) (qk (SlF.cut h5 (Sep.m1 hS2) hge rfl (fun _=>rfl)
    (fun _=>rfl)) zd))))))
 free:=fun {x cs os} H=>by
  obtain ⟨v4,c4,v5,c5,h4,h5,rfl,rfl⟩:=H
  exact (qo rfl (qo rfl (qo rfl (qo rfl (qo (SlF.free1 h4) (qo (SlF.free1 h5) zn))))))
 pf:=fun {x cs os} H=>by
  obtain ⟨v4,c4,v5,c5,h4,h5,rfl,rfl⟩:=H
  exact (j0 (SlF.pf h4 (fun _=>rfl)) (SlF.pf h5 (fun _=>rfl)))
def RL44:Rep (List Int):=fun x cs os=>∃ (v0:XV) (c0:List Obj),SlF cI 1 3 v0 x c0∧cs=[v0]∧c0=os
theorem RL44I {x:List Int}{v0:XV}{c0:List Obj}(h0:SlF cI 1 3 v0 x c0) : RL44 x [v0] (c0):=⟨v0,c0,h0,rfl,rfl⟩
theorem RL44O:RepOk E.sz RL44 (cL cI) 1 where
 len:=fun {x cs os} H=>by
  obtain ⟨v0,c0,h0,rfl,rfl⟩:=H
  rfl
 flen:=fun _=>rfl
 one:=fun {x cs os} H=>by
  obtain ⟨v0,c0,h0,rfl,rfl⟩:=H
  exact (qo (SlF.one h0) zn)
 snap:=fun {x cs os h lo S} m H hS=>by
  obtain ⟨v0,c0,h0,rfl,rfl⟩:=H
  have hS2:Sep h lo (c0++S):=(by simpa only [List.append_assoc] using hS)
  exact (qk (SlF.snap h0 hS2 rfl (fun _=>rfl) (fun _=>rfl)) zd)
 cut:=fun {x cs os h lo n0 keep S} m H hS hge=>by
  obtain ⟨v0,c0,h0,rfl,rfl⟩:=H
  have hS2:Sep h lo (c0++S):=(by simpa only [List.append_assoc] using hS)
  exact (qk (SlF.cut h0 hS2 hge rfl (fun _=>rfl) (fun _=>rfl)) zd)
 free:=fun {x cs os} H=>by
  obtain ⟨v0,c0,h0,rfl,rfl⟩:=H
  exact (qo (SlF.free1 h0) zn)
 pf:=fun {x cs os} H=>by
  obtain ⟨v0,c0,h0,rfl,rfl⟩:=H
  exact (SlF.pf h0 (fun _=>rfl))
theorem qit {W:Nat→Bool}{h:Heap}{lo:Nat→Prop}{S0:List Obj} (hW:∀ b,
  lo b→W b=true) (pv0:XV) (pc0:List Obj) (s_0:List Int) (ph0:SlF cI 1 3 pv0 s_0 pc0) (i_1:Int) (pv2:XV) (pc2:List Obj) (v_2:List Int)
  (ph2:SlF cI 1 3 pv2 v_2 pc2) (r:List Int × List Int) (hF:qbp s_0 i_1 v_2=some r) (hS:Sep h lo (pc0++(pc2++S0))) : Ret E W 115 [pv0,.int .i64 i_1,
  pv2] h (fun v h'=>∃ rv0 rc0 ic2,v=rv0∧SlF cI 1 3 rv0 r.1 rc0∧SlF cI 1 3 pv2 r.2 ic2∧Sep h' lo (rc0++(ic2++S0))):=zbv rfl rfl hW ph0 ph2 hF hS
theorem y7 {W:Nat→Bool}{h:Heap} (hW:∀ b,
  (geL h.length) b→W b=true) (n_0:Int) (low_1:Int) (high_2:Int) (r:Bool) (hF:some (zl n_0 low_1 high_2)=some r) : Ret E W 56 [.int .i64 n_0,
  .int .i64 low_1,.int .i64 high_2] h (fun v h'=>cut h.length h' E.sz false 9 v=some (.bool r)):=by
 refine Ret.of (fn:=x56) rfl (Run.of ?_)
 unfold zl at hF
 have zf0:qy [.int .i64 n_0,.int .i64 low_1,.int .i64 high_2] 0 = .int .i64 n_0:=rfl
 have zf1:qy [.int .i64 n_0,.int .i64 low_1,.int .i64 high_2] 1 = .int .i64 low_1:=rfl
 have zf2:qy [.int .i64 n_0,.int .i64 low_1,.int .i64 high_2] 2 = .int .i64 high_2:=rfl
 generalize qy [.int .i64 n_0,.int .i64 low_1,.int .i64 high_2]=fr0 at zf0 zf1 zf2 ⊢
 have hS:Sep h (geL h.length) []:=Sep.nil h
 simp only [x56,qd,qc,qe,qa,qz8,zf0,zf1,qm,qb,qi6,B0,reduceIte,reduceEqDiff]
 refine jh 4 (fun fr' h'=>Sep h' (geL h.length) ([])∧fr' 14 = .bool ((decide (low_1≤n_0))&&(decide (n_0≤high_2)))) (fun Q1 hN2=>?_) ?_
 ·simp only [List.take_succ_cons,List.take_zero]
  simp only [qg (g:=10),B0,reduceIte,reduceEqDiff]
  refine zf (t:=(decide (low_1≤n_0))) (fun hg3=>?_) (fun hg3=>?_)
  ·simp only [hg3,qg (g:=10),zi,zf0,qe,zf2,qm,qb,qqv,qz,zp,qa,ql,B0,reduceIte,reduceEqDiff]
   exact hN2 _ _ ⟨hS,by rw [qcb hg3]; simp only [B0,reduceIte,reduceEqDiff]⟩
  ·simp only [hg3,qg (g:=10),kf,qz,qb,zo,qa,ql,B0,reduceIte,reduceEqDiff]
   exact hN2 _ _ ⟨hS,by rw [qcd hg3]; simp only [B0,reduceIte,reduceEqDiff]⟩
 rintro fr4 h6 ⟨hS7,f5⟩
 simp only [List.drop_succ_cons,List.drop_zero]
 simp only [f5,qe,qa,qs,B0,reduceIte,reduceEqDiff]
 have he:=qf hF
 subst he
 simp only [qw,B0,reduceIte,reduceEqDiff]
 exact rfl
theorem qd4 {W:Nat→Bool}{h:Heap} (hW:∀ b,
  (geL h.length) b→W b=true) (l_0:List Int) (r:Int) (hF:u7 l_0=some r) : Ret E W 58 [lst cI l_0] h (fun v h'=>cut h.length h' E.sz false 9 v=some
  (.int .i64 r)):=by
 refine Ret.of (fn:=x58) rfl (Run.of ?_)
 unfold u7 at hF
 have zf0:qy [lst cI l_0] 0=lst cI l_0:=rfl
 generalize qy [lst cI l_0]=fr0 at zf0 ⊢
 have hS:Sep h (geL h.length) []:=Sep.nil h
 simp only [x58,qd,qc,qe,qa,q3i,zf0,zj,qb,zr,qm,yi,qr,B0,reduceIte,reduceEqDiff]
 refine qq (t:=(decide ((List.length l_0:Int)=0))) (fun hc1=>?_) (fun hc1=>?_)
 ·rw [iteT hc1] at hF
  simp only [qd,qc,qe,qa,qs,B0,reduceIte,reduceEqDiff]
  have he:=qf hF
  subst he
  simp only [qw,B0,reduceIte,reduceEqDiff]
  exact rfl
 rw [iteF hc1] at hF
 obtain ⟨x2,hx3,hF4⟩:=qi hF
 simp only [qt,q2w,qd,qc,zf0,qe,zj,qb,zr,qm,qcz,zt,B0,reduceIte,reduceEqDiff]
 refine qh (v := .ref (cI x2) 0) (je hx3 rfl) ?_
 simp only [qj,B0,reduceIte,reduceEqDiff]
 refine qh (v := .int .i64 x2) rfl ?_
 simp only [qe,qa,qs,B0,reduceIte,reduceEqDiff]
 have he:=qf hF4
 subst he
 simp only [qw,B0,reduceIte,reduceEqDiff]
 exact rfl
theorem qf6 {W:Nat→Bool}{h:Heap} (hW:∀ b,
  (geL h.length) b→W b=true) (l_0:List Int) (r:Bool) (hF:uc l_0=some r) : Ret E W 68 [lst cI l_0] h (fun v h'=>cut h.length h' E.sz false 9 v=some
  (.bool r)):=by
 refine Ret.of (fn:=x68) rfl (Run.of ?_)
 unfold uc at hF
 have zf0:qy [lst cI l_0] 0=lst cI l_0:=rfl
 generalize qy [lst cI l_0]=fr0 at zf0 ⊢
 have hS:Sep h (geL h.length) []:=Sep.nil h
 simp only [x68,qd,qc,qe,qa,qza,zf0,zj,qb,zr,B0,reduceIte,reduceEqDiff]
 obtain ⟨oc3,hX5,hk6⟩:=jm hF
 simp only [q2h]
 refine uh (σ:=Unit) l_0 (fun i1 x2 _=>qa4 l_0 i1 x2 ) (fun s fr' h'=>fr' 0=lst cI l_0∧fr' 5=lst cI l_0∧Sep h' (geL h.length) ([])) hX5 ⟨zf0,
   rfl,hS⟩ (by simp only [B0,reduceIte,reduceEqDiff]) (by simp only [B0,reduceIte,
   reduceEqDiff]) (fun _ _ _ h=>h) rfl rfl (fun _ _ _ _ h=>h) (fun _ _ _ _ h=>h) (fun _ _ _ _ h=>h) (by decide) ?_ ?_
 ·rintro i1 x2 _ fr15 h16 hx20 ⟨f18,f19,hS17⟩ f21 f22 oc4 hF7 hr8 Q9 hN10 hB14 hK11 hR12 hE13
  unfold qa4 at hF7
  simp only [q1v,qd,qc,f21,qe,f19,zt,B0,reduceIte,reduceEqDiff]
  refine qh (v := .ref (cI x2) 0) (ug hx20 rfl) ?_
  simp only [qj,B0,reduceIte,reduceEqDiff]
  refine qh (v := .int .i64 x2) rfl ?_
  simp only [qe,qa,qzj,qd,qc,zb,B0,reduceIte,reduceEqDiff]
  refine jg rfl (qk za (qk za (qk za zd))) (y7 (fun b hb=>decide_eq_true hb) x2 0 100 _ rfl) ?_
  simp only [js,qb,kt,qe,B0,reduceIte,reduceEqDiff]
  obtain ⟨v26,hx27,hF28⟩:=qi hF7
  refine jh 12 (fun fr' h'=>Sep h' (geL h.length) ([])∧fr' 27 = .bool v26∧fr' 0=lst cI l_0∧fr' 5=lst cI l_0∧fr' 6 = .int .i64
    (List.length l_0:Int)∧fr' 7 = .int .i64 (i1:Int)) (fun Q23 hN24=>?_) ?_
  ·simp only [List.take_succ_cons,List.take_zero]
   simp only [qg (g:=15),B0,reduceIte,reduceEqDiff]
   refine zf (t:=(!(zl x2 0 100))) (fun hg25=>?_) (fun hg25=>?_)
   ·rw [iteT hg25] at hx27
    simp only [hg25,qg (g:=15),zz,qg (g:=18),wt,qz,qb,zp,qa,ql,B0,reduceIte,reduceEqDiff]
    have e29:=qf hx27
    exact hN24 _ _ ⟨hS17,by rw [←e29]; simp only [B0,reduceIte,reduceEqDiff],f18,f19,f22,f21⟩
   ·rw [iteF hg25] at hx27
    simp only [hg25,qg (g:=15),qv,qe,qm,qb,qby,B0,reduceIte,reduceEqDiff]
    obtain ⟨v33,hx34,hF35⟩:=qi hx27
    refine jh 8 (fun fr' h'=>Sep h' (geL h.length) ([])∧fr' 26 = .bool v33∧fr' 0=lst cI l_0∧fr' 5=lst cI l_0∧fr' 6 = .int .i64
      (List.length l_0:Int)∧fr' 7 = .int .i64 (i1:Int)∧fr' 15 = .bool (!(zl x2 0 100))) (fun Q30 hN31=>?_) ?_
    ·simp only [List.take_succ_cons,List.take_zero]
     simp only [qg (g:=18),B0,reduceIte,reduceEqDiff]
     refine zf (t:=(decide ((0:Int)<(i1:Int)))) (fun hg32=>?_) (fun hg32=>?_)
     ·rw [iteT hg32] at hx34
      obtain ⟨x36,hx37,hF38⟩:=qi hx34
      simp only [hg32,qg (g:=18),zi,f18,qe,qm,qb,qcz,zt,B0,reduceIte,reduceEqDiff]
      refine qh (v := .ref (cI x36) 0) (je hx37 rfl) ?_
      simp only [hg32,qg (g:=18),zi,qj,B0,reduceIte,reduceEqDiff]
      refine qh (v := .int .i64 x36) rfl ?_
      simp only [hg32,qg (g:=18),zi,qe,qm,qb,qby,hg25,qg (g:=15),qv,qz,zp,qa,ql,
        B0,reduceIte,reduceEqDiff]
      have e39:=qf hF38
      exact hN31 _ _ ⟨hS17,by rw [←e39]; simp only [B0,reduceIte,reduceEqDiff],f18,f19,f22,f21,by simp only [hg25,B0,reduceIte,reduceEqDiff]⟩
     ·rw [iteF hg32] at hx34
      simp only [hg32,qg (g:=18),kf,hg25,qg (g:=15),qv,qz,qb,zo,qa,ql,B0,reduceIte,
        reduceEqDiff]
      have e40:=qf hx34
      exact hN31 _ _ ⟨hS17,by rw [←e40]; simp only [B0,reduceIte,reduceEqDiff],f18,f19,f22,f21,by simp only [hg25,B0,reduceIte,reduceEqDiff]⟩
    rintro fr41 h48 ⟨hS49,f42,f43,f44,f45,f46,f47⟩
    simp only [List.drop_succ_cons,List.drop_zero]
    simp only [f47,hg25,qz,qb,zo,f42,qa,ql,B0,reduceIte,reduceEqDiff]
    have e50:=qf hF35
    exact hN24 _ _ ⟨hS49,by rw [←e50]; simp only [B0,reduceIte,reduceEqDiff],f43,f44,f45,f46⟩
  rintro fr51 h57 ⟨hS58,f52,f53,f54,f55,f56⟩
  simp only [List.drop_succ_cons,List.drop_zero]
  simp only [qa,f52,qr,B0,reduceIte,reduceEqDiff]
  refine qq (t:=v26) (fun hc59=>?_) (fun hc59=>?_)
  ·rw [iteT hc59] at hF28
   simp only [qd,qc,qe,qa,qs,B0,reduceIte,reduceEqDiff]
   have e60:=qf hF28
   subst e60
   have ho61:=hr8 _ rfl
   have hk62:=hk6
   rw [ho61] at hk62
   dsimp only [jnO] at hk62
   apply hR12
   have he:=qf hk62
   subst he
   simp only [qw,B0,reduceIte,reduceEqDiff]
   exact rfl
  rw [iteF hc59] at hF28
  simp only [qt,ql,B0,reduceIte,reduceEqDiff]
  have e63:=qf hF28
  exact hN10 _ _ _ e63.symm ⟨f53,f54,hS58⟩ (f56) (f55)
 rintro _ fr65 h66 rfl ⟨f68,f69,hS67⟩
 dsimp only [jnO] at hk6
 unfold qfl at hk6
 simp only [q3l,qd,qc,f68,qe,zj,qb,zr,qm,qqv,qa,qs,B0,reduceIte,reduceEqDiff]
 have he:=qf hk6
 subst he
 simp only [qw,B0,reduceIte,reduceEqDiff]
 exact rfl
theorem qjd {W:Nat→Bool}{h:Heap} (hW:∀ b,
  (geL h.length) b→W b=true) (logs_0:List (List Int)) (r:Election × Bool) (hF:wq logs_0=some r) : Ret E W 49 [lst (cL cI) logs_0] h
  (fun v h'=>∃ rv0_0 rc0_0 rv0_1 rc0_1 rv0_2 rc0_2,v = .tup [.agg [rv0_0,rv0_1,rv0_2],
  .bool r.2]∧SlN Server.R 6 46 rv0_0 r.1.Servers rc0_0∧SlF Letter.cells 7 93 rv0_1 r.1.Post rc0_1∧SlF Vote.cells 2 39 rv0_2 r.1.Led rc0_2∧Sep h' (geL h.length)
  (rc0_0++(rc0_1++(rc0_2++([]))))):=by
 refine Ret.of (fn:=x49) rfl (Run.of ?_)
 unfold wq at hF
 have zf0:qy [lst (cL cI) logs_0] 0=lst (cL cI) logs_0:=rfl
 generalize qy [lst (cL cI) logs_0]=fr0 at zf0 ⊢
 have hS:Sep h (geL h.length) []:=Sep.nil h
 simp only [x49,qd,qc,jv,B0,reduceIte,reduceEqDiff]
 refine jb hS (fun b1 h2 hS3=>?_)
 simp only [qe,qa,qtn,qd,qc,zf0,zj,qb,zr,zb,B0,reduceIte,reduceEqDiff]
 refine jg rfl (qk za (qk za (qk za zd))) (y7 (fun b hb=>decide_eq_true hb) (List.length logs_0:Int) 1 5 _ rfl) ?_
 simp only [js,qb,kt,qa,q3p,qr,B0,reduceIte,reduceEqDiff]
 refine qq (t:=(!(zl (List.length logs_0:Int) 1 5))) (fun hc5=>?_) (fun hc5=>?_)
 ·rw [iteT hc5] at hF
  simp only [qd,qc,run_build,evp,B0,reduceIte,reduceEqDiff]
  refine qh (v := .agg [.nil,.nil,.nil]) rfl ?_
  simp only [ze,B0,reduceIte,reduceEqDiff]
  refine zc (us:=[.nil,.nil,.nil]) rfl (cs':=[.nil,.nil,.nil]) hS3 hW rfl rfl (Nat.le_of_ble_eq_true rfl) rfl (fun h6 hS7=>?_)
  simp only [qe,qa,qs,B0,reduceIte,reduceEqDiff]
  have he:=qf hF
  subst he
  refine j7 (qk (kp (bb:=b1) (oo:=0) (v := .agg [.nil,.nil,
    .nil]) (rfl) ((zw (Sep.bk _ _ _ hS7)).trans rfl)) (qk (yu (v := .bool false) (rfl)) zd)) ?_
  exact ⟨.nil,[],.nil,[],.nil,[],by first | trivial | rfl,SlN.nil,SlF.nil,SlF.nil,((Sep.dc (hS7)) : Sep _ (geL h.length) ([]))⟩
 rw [iteF hc5] at hF
 simp only [qt,qzz,qd,qc,run_build,evp,B0,reduceIte,reduceEqDiff]
 refine qh (v := .agg [.nil,.nil,.nil]) rfl ?_
 simp only [jv,B0,reduceIte,reduceEqDiff]
 refine jb hS3 (fun b8 h9 hS10=>?_)
 simp only [ze,B0,reduceIte,reduceEqDiff]
 refine zc (us:=[.nil,.nil,.nil]) rfl (cs':=[.nil,.nil,.nil]) hS10 hW rfl rfl (Nat.le_of_ble_eq_true rfl) rfl (fun h12 hS13=>?_)
 simp only [qa,q2c,qd,qc,zf0,qe,zj,qb,zr,B0,reduceIte,reduceEqDiff]
 obtain ⟨oc26,hX28,hk29⟩:=jm hF
 simp only [qzv]
 refine uh (σ:=Election) logs_0 (fun i24 x25 s113=>qas i24 x25 s113) (fun s fr' h'=>∃ v21 c22,
   fr' 2 = .ptr b1 0∧fr' 4 = .ptr b8 0∧fr' 13=lst (cL cI) logs_0∧SlN Server.R 6 46 v21 s.Servers c22∧Sep h' (geL h.length) ([Blk1 b1 [.nil,.nil,
   .nil] 31]++([Blk1 b8 [v21,.nil,.nil] 31]++(c22++([]))))) hX28 ⟨.nil,[],rfl,rfl,rfl,SlN.nil,((Sep.m1 hS13) : Sep _ (geL h.length) ([Blk1 b1 [.nil,.nil,
   .nil] 31]++([Blk1 b8 [.nil,.nil,.nil] 31]++([]))))⟩ (by simp only [B0,reduceIte,reduceEqDiff]) (by simp only [B0,reduceIte,
   reduceEqDiff]) (fun _ _ _ h=>h) rfl rfl (fun _ _ _ _ h=>h) (fun _ _ _ _ h=>h) (fun _ _ _ _ h=>h) (by decide) ?_ ?_
 ·rintro i24 x25 s19 fr38 h39 hx44 ⟨v21,c22,f41,f42,f43,hv23,hS40⟩ f45 f46 oc27 hF30 hr31 Q32 hN33 hB37 hK34 hR35 hE36
  unfold qas at hF30
  simp only [q5o,qd,qc,f43,f45,zt,B0,reduceIte,reduceEqDiff]
  refine qh (v := .ref ((cL cI) x25) 0) (ug hx44 rfl) ?_
  simp only [qj,B0,reduceIte,reduceEqDiff]
  refine qh (v:=lst cI x25) rfl ?_
  obtain ⟨v47,hx48,hF49⟩:=qi hF30
  simp only [qe,qa,q43,qd,qc,zb,B0,reduceIte,reduceEqDiff]
  refine jg rfl (qk zx zd) (qf6 (fun b hb=>decide_eq_true hb) x25 v47 hx48) ?_
  simp only [js,qb,kt,qe,B0,reduceIte,reduceEqDiff]
  obtain ⟨v53,hx54,hF55⟩:=qi hF49
  refine jh 4 (fun fr' h'=>Sep h' (geL h.length) ([Blk1 b1 [.nil,.nil,.nil] 31]++([Blk1 b8 [v21,.nil,
    .nil] 31]++(c22++([]))))∧fr' 26 = .bool v53∧fr' 2 = .ptr b1 0∧fr' 4 = .ptr b8 0∧fr' 6=lst cI x25∧fr' 13=lst (cL cI) logs_0∧fr' 14 = .int .i64
    (List.length logs_0:Int)∧fr' 15 = .int .i64 (i24:Int)) (fun Q50 hN51=>?_) ?_
  ·simp only [List.take_succ_cons,List.take_zero]
   simp only [qg (g:=22),B0,reduceIte,reduceEqDiff]
   refine zf (t:=(!v47)) (fun hg52=>?_) (fun hg52=>?_)
   ·rw [iteT hg52] at hx54
    simp only [hg52,qg (g:=22),zz,qz,qb,zp,qa,ql,B0,reduceIte,reduceEqDiff]
    have e56:=qf hx54
    exact hN51 _ _ ⟨(Sep.m2 (Sep.m2 (Sep.m2 hS40))),by rw [←e56]; simp only [B0,reduceIte,reduceEqDiff],f41,f42,rfl,f43,f46,f45⟩
   ·rw [iteF hg52] at hx54
    obtain ⟨v57,hx58,hF59⟩:=qi hx54
    simp only [hg52,qg (g:=22),qv,qe,zb,B0,reduceIte,reduceEqDiff]
    refine jg rfl (qk zx zd) (qd4 (fun b hb=>decide_eq_true hb) x25 v57 hx58) ?_
    simp only [hg52,qg (g:=22),qv,qm,qb,qby,qz,zo,qa,ql,B0,reduceIte,reduceEqDiff]
    have e60:=qf hF59
    exact hN51 _ _ ⟨(Sep.m2 (Sep.m2 (Sep.m2 hS40))),by rw [←e60]; simp only [B0,reduceIte,reduceEqDiff],f41,f42,rfl,f43,f46,f45⟩
  rintro fr61 h69 ⟨hS70,f62,f63,f64,f65,f66,f67,f68⟩
  simp only [List.drop_succ_cons,List.drop_zero]
  simp only [qa,q7m,f62,qr,B0,reduceIte,reduceEqDiff]
  refine qq (t:=v53) (fun hc71=>?_) (fun hc71=>?_)
  ·rw [iteT hc71] at hF55
   simp only [qd,qc,run_build,evp,B0,reduceIte,reduceEqDiff]
   refine qh (v := .agg [.nil,.nil,.nil]) rfl ?_
   simp only [f63,ze,B0,reduceIte,reduceEqDiff]
   refine zc (us:=[.nil,.nil,.nil]) rfl (cs':=[.nil,.nil,.nil]) hS70 hW rfl rfl (Nat.le_of_ble_eq_true rfl) rfl (fun h72 hS73=>?_)
   simp only [qe,qa,qs,B0,reduceIte,reduceEqDiff]
   have e74:=qf hF55
   subst e74
   have ho75:=hr31 _ rfl
   have hk76:=hk29
   rw [ho75] at hk76
   dsimp only [jnO] at hk76
   apply hR35
   have he:=qf hk76
   subst he
   refine j7 (qk (kp (bb:=b1) (oo:=0) (v := .agg [.nil,.nil,
     .nil]) (f63) ((zw (Sep.bk _ _ _ hS73)).trans rfl)) (qk (yu (v := .bool false) (rfl)) zd)) ?_
   exact ⟨.nil,[],.nil,[],.nil,[],by first | trivial | rfl,SlN.nil,SlF.nil,SlF.nil,((Sep.dc ((Sep.dc ((Sep.dc (hS73)))))) : Sep _ (geL h.length) ([]))⟩
  rw [iteF hc71] at hF55
  simp only [qt,q30,j5,f64,qd0,qp,Nat.reduceAdd,Nat.zero_add,Nat.add_zero,qx,qdd,B0,reduceIte,reduceEqDiff]
  refine qec (Sep.ltk (Sep.m1 hS70)) ?_
  refine q9 (v:=v21) ((z9 (Sep.bk _ _ _ (Sep.m1 hS70))).trans rfl) ?_
  simp only [w3,evp,B0,reduceIte,reduceEqDiff]
  refine wb (n:=1) (f:=cI) ([] : List Int) hS70 rfl rfl (fun v78 c79 h80 hv81 hS82 hq77=>?_)
  simp only [f65,ja,qp,qhp,B0,reduceIte,reduceEqDiff]
  obtain ⟨l84,hx85,hF86⟩:=qi hF55
  have hq87:=nwq (fun z hz=>Sep.dj (Sep.m1 (Sep.m1 hS82)) qfi (SlF.rowfp hv81 z hz))
  have hq88:=nwq (fun z hz=>Sep.dj (Sep.m1 (Sep.m2 hS82)) qfi (SlF.rowfp hv81 z hz))
  refine qlf (qug (fun z hz=>Sep.dj (Sep.m1 (Sep.m2 hS82)) qfi (SlF.rowfp hv81 z hz)) qiy) ?_
  refine wc (f:=cI) hv81 hS82 hW (fun _=>rfl) (fun _=>rfl) (w4 (fun _=>rfl)) hx85 (fun v89 c90 h91 hv92 hS93=>?_)
  simp only [qbo,evp,B0,reduceIte,reduceEqDiff]
  refine q9 (v := .agg [.int .i64 10,.int .i64 (-1),.bool false,.bool false,.nil,v89]) (qdr (qa8 (us:=[.int .i64 10]) (vs:=[.int .i64 10,.int .i64 0,
    .bool false,.bool false,.nil,.nil]) rfl rfl (Nat.le_of_ble_eq_true rfl) rfl rfl (qa8 (us:=[.int .i64 (-1)]) (vs:=[.int .i64 10,.int .i64 (-1),.bool false,
    .bool false,.nil,.nil]) rfl rfl (Nat.le_of_ble_eq_true rfl) rfl rfl (qa8 (us:=[v89]) (vs:=[.int .i64 10,.int .i64 (-1),.bool false,.bool false,.nil,
    v89]) (jl (SlF.one hv92)) rfl (Nat.le_of_ble_eq_true rfl) (qo (SlF.one hv92) zn) rfl qgc)))) ?_
  simp only [w3,evp,B0,reduceIte,reduceEqDiff]
  refine qim (R:=Server.R) (n:=6) (cs:=[.int .i64 10,.int .i64 (-1),.bool false,.bool false,.nil,
    v89]) (os:=[]++(c90)) (Sep.bi2 (c1:=[]) (c2:=c90) (S:=([Blk1 b1 [.nil,.nil,.nil] 31]++([Blk1 b8 [v21,.nil,
    .nil] 31]++(c22++([]))))) (hS93:Sep _ (geL h.length) (c90++([Blk1 b1 [.nil,.nil,.nil] 31]++([Blk1 b8 [v21,.nil,
    .nil] 31]++(c22++([]))))))) (qa8 (us:=[.int .i64 10,.int .i64 (-1),.bool false,.bool false,.nil,v89]) (vs:=[.int .i64 10,.int .i64 (-1),.bool false,
    .bool false,.nil,v89]) rfl rfl (Nat.le_of_ble_eq_true rfl) (qo rfl (qo rfl (qo rfl (qo rfl (qo rfl (qo (SlF.one hv92) zn)))))) rfl qgc)
    (Server.RI (x:=(Server.mk 10 (-1) false false [] l84)) SlF.nil hv92) rfl (fun v95 c96 h97 hv98 hS99=>?_)
  simp only [qcs,B0,reduceIte,reduceEqDiff]
  obtain ⟨l101,hx102,hF103⟩:=qi hF86
  refine qk0 (R:=Server.R) (c:=c22) hv23 hv98 (Sep.m3 hS99) hW Server.RO.len Server.RO.one hx102 (fun v104 c105 h106 hv107 hS108=>?_)
  simp only [f64,jf,qp,Nat.reduceAdd,Nat.zero_add,Nat.add_zero,qx,qdk,B0,reduceIte,reduceEqDiff]
  refine w9 (us:=[v104]) (jl (SlN.one hv107)) (cs':=[v104,.nil,
    .nil]) (Sep.m2 hS108) hW rfl (qo (SlN.one hv107) zn) (Nat.le_of_ble_eq_true rfl) rfl (fun h110 hS111=>?_)
  simp only [zk,ql,B0,reduceIte,reduceEqDiff]
  have e112:=qf hF103
  exact hN33 _ _ _ e112.symm ⟨v104,c105,f63,f64,f66,hv107,(Sep.m2 (Sep.m1 (Sep.m1 hS111)))⟩ (f68) (f67)
 rintro s114 fr119 h120 rfl ⟨v116,c117,f122,f123,f124,hv118,hS121⟩
 dsimp only [jnO] at hk29
 unfold qe1 at hk29
 simp only [qd,qc,f123,qj,B0,reduceIte,reduceEqDiff]
 refine qh (v := .agg [v116,.nil,.nil]) ((zw (Sep.bk _ _ _ (Sep.m1 hS121))).trans rfl) ?_
 simp only [f122,ze,B0,reduceIte,reduceEqDiff]
 refine zc (us:=[v116,.nil,.nil]) rfl (cs':=[v116,.nil,
   .nil]) hS121 hW rfl (qo (SlN.one hv118) (qo rfl (qo rfl zn))) (Nat.le_of_ble_eq_true rfl) rfl (fun h125 hS126=>?_)
 simp only [qe,qa,qs,B0,reduceIte,reduceEqDiff]
 have he:=qf hk29
 subst he
 refine j7 (qk (kp (bb:=b1) (oo:=0) (v := .agg [v116,.nil,
   .nil]) (f122) ((zw (Sep.bk _ _ _ hS126)).trans rfl)) (qk (yu (v := .bool true) (rfl)) zd)) ?_
 exact ⟨v116,c117,.nil,[],.nil,[],by first | trivial | rfl,hv118,SlF.nil,SlF.nil,((Sep.dc ((Sep.dc (hS126)))) : Sep _ (geL h.length) (c117++([])))⟩
theorem qjs {W:Nat→Bool}{h:Heap} (hW:∀ b,
  (geL h.length) b→W b=true) (list_0:List Int) (many_1:Int) (r:Bool) (hF:qbg list_0 many_1=some r) : Ret E W 99 [lst cI list_0,
  .int .i64 many_1] h (fun v h'=>cut h.length h' E.sz false 9 v=some (.bool r)):=by
 refine Ret.of (fn:=x99) rfl (Run.of ?_)
 unfold qbg at hF
 have zf0:qy [lst cI list_0,.int .i64 many_1] 0=lst cI list_0:=rfl
 have zf1:qy [lst cI list_0,.int .i64 many_1] 1 = .int .i64 many_1:=rfl
 generalize qy [lst cI list_0,.int .i64 many_1]=fr0 at zf0 zf1 ⊢
 have hS:Sep h (geL h.length) []:=Sep.nil h
 simp only [x99,qd,qc,qe,qa,q6d,zf0,zj,qb,zr,B0,reduceIte,reduceEqDiff]
 obtain ⟨oc3,hX5,hk6⟩:=jm hF
 simp only [q5m]
 refine uh (σ:=Unit) list_0 (fun i1 x2 _=>qa9 list_0 many_1 i1 x2 )
   (fun s fr' h'=>fr' 0=lst cI list_0∧fr' 1 = .int .i64 many_1∧fr' 7=lst cI list_0∧Sep h' (geL h.length) ([])) hX5 ⟨zf0,zf1,rfl,hS⟩ (by simp only [B0,reduceIte,
   reduceEqDiff]) (by simp only [B0,reduceIte,reduceEqDiff]) (fun _ _ _ h=>h) rfl rfl (fun _ _ _ _ h=>h) (fun _ _ _ _ h=>h) (fun _ _ _ _ h=>h) (by decide) ?_ ?_
 ·rintro i1 x2 _ fr15 h16 hx21 ⟨f18,f19,f20,hS17⟩ f22 f23 oc4 hF7 hr8 Q9 hN10 hB14 hK11 hR12 hE13
  unfold qa9 at hF7
  simp only [q5n,qd,qc,f22,qe,f20,zt,B0,reduceIte,reduceEqDiff]
  refine qh (v := .ref (cI x2) 0) (ug hx21 rfl) ?_
  simp only [qj,B0,reduceIte,reduceEqDiff]
  refine qh (v := .int .i64 x2) rfl ?_
  simp only [qe,qa,q24,qd,qc,f19,qm,qb,qcz,zb,B0,reduceIte,reduceEqDiff]
  refine jg rfl (qk za (qk za (qk za zd))) (y7 (fun b hb=>decide_eq_true hb) x2 0 (IntKind.wrap .i64 (many_1 - 1)) _ rfl) ?_
  simp only [js,qb,kt,qe,B0,reduceIte,reduceEqDiff]
  obtain ⟨v27,hx28,hF29⟩:=qi hF7
  refine jh 12 (fun fr' h'=>Sep h' (geL h.length) ([])∧fr' 31 = .bool v27∧fr' 0=lst cI list_0∧fr' 1 = .int .i64 many_1∧fr' 7=lst cI list_0∧fr' 8 = .int .i64
    (List.length list_0:Int)∧fr' 9 = .int .i64 (i1:Int)) (fun Q24 hN25=>?_) ?_
  ·simp only [List.take_succ_cons,List.take_zero]
   simp only [qg (g:=19),B0,reduceIte,reduceEqDiff]
   refine zf (t:=(!(zl x2 0 (IntKind.wrap .i64 (many_1 - 1))))) (fun hg26=>?_) (fun hg26=>?_)
   ·rw [iteT hg26] at hx28
    simp only [hg26,qg (g:=19),zz,qg (g:=22),wt,qz,qb,zp,qa,ql,B0,reduceIte,reduceEqDiff]
    have e30:=qf hx28
    exact hN25 _ _ ⟨hS17,by rw [←e30]; simp only [B0,reduceIte,reduceEqDiff],f18,f19,f20,f23,f22⟩
   ·rw [iteF hg26] at hx28
    simp only [hg26,qg (g:=19),qv,qe,qm,qb,qby,B0,reduceIte,reduceEqDiff]
    obtain ⟨v34,hx35,hF36⟩:=qi hx28
    refine jh 8 (fun fr' h'=>Sep h' (geL h.length)
      ([])∧fr' 30 = .bool v34∧fr' 0=lst cI list_0∧fr' 1 = .int .i64 many_1∧fr' 7=lst cI list_0∧fr' 8 = .int .i64
      (List.length list_0:Int)∧fr' 9 = .int .i64 (i1:Int)∧fr' 19 = .bool (!(zl x2 0 (IntKind.wrap .i64 (many_1 - 1))))) (fun Q31 hN32=>?_) ?_
    ·simp only [List.take_succ_cons,List.take_zero]
     simp only [qg (g:=22),B0,reduceIte,reduceEqDiff]
     refine zf (t:=(decide ((0:Int)<(i1:Int)))) (fun hg33=>?_) (fun hg33=>?_)
     ·rw [iteT hg33] at hx35
      obtain ⟨x37,hx38,hF39⟩:=qi hx35
      simp only [hg33,qg (g:=22),zi,f18,qe,qm,qb,qcz,zt,B0,reduceIte,reduceEqDiff]
      refine qh (v := .ref (cI x37) 0) (je hx38 rfl) ?_
      simp only [hg33,qg (g:=22),zi,qj,B0,reduceIte,reduceEqDiff]
      refine qh (v := .int .i64 x37) rfl ?_
      simp only [hg33,qg (g:=22),zi,qe,qm,qb,qi6,hg26,qg (g:=19),qv,qz,zp,qa,ql,
        B0,reduceIte,reduceEqDiff]
      have e40:=qf hF39
      exact hN32 _ _ ⟨hS17,by rw [←e40]; simp only [B0,reduceIte,reduceEqDiff],f18,f19,f20,f23,f22,by simp only [hg26,B0,reduceIte,reduceEqDiff]⟩
     ·rw [iteF hg33] at hx35
      simp only [hg33,qg (g:=22),kf,hg26,qg (g:=19),qv,qz,qb,zo,qa,ql,B0,reduceIte,
        reduceEqDiff]
      have e41:=qf hx35
      exact hN32 _ _ ⟨hS17,by rw [←e41]; simp only [B0,reduceIte,reduceEqDiff],f18,f19,f20,f23,f22,by simp only [hg26,B0,reduceIte,reduceEqDiff]⟩
    rintro fr42 h50 ⟨hS51,f43,f44,f45,f46,f47,f48,f49⟩
    simp only [List.drop_succ_cons,List.drop_zero]
    simp only [f49,hg26,qz,qb,zo,f43,qa,ql,B0,reduceIte,reduceEqDiff]
    have e52:=qf hF36
    exact hN25 _ _ ⟨hS51,by rw [←e52]; simp only [B0,reduceIte,reduceEqDiff],f44,f45,f46,f47,f48⟩
  rintro fr53 h60 ⟨hS61,f54,f55,f56,f57,f58,f59⟩
  simp only [List.drop_succ_cons,List.drop_zero]
  simp only [qa,f54,qr,B0,reduceIte,reduceEqDiff]
  refine qq (t:=v27) (fun hc62=>?_) (fun hc62=>?_)
  ·rw [iteT hc62] at hF29
   simp only [qd,qc,qe,qa,qs,B0,reduceIte,reduceEqDiff]
   have e63:=qf hF29
   subst e63
   have ho64:=hr8 _ rfl
   have hk65:=hk6
   rw [ho64] at hk65
   dsimp only [jnO] at hk65
   apply hR12
   have he:=qf hk65
   subst he
   simp only [qw,B0,reduceIte,reduceEqDiff]
   exact rfl
  rw [iteF hc62] at hF29
  simp only [qt,ql,B0,reduceIte,reduceEqDiff]
  have e66:=qf hF29
  exact hN10 _ _ _ e66.symm ⟨f55,f56,f57,hS61⟩ (f59) (f58)
 rintro _ fr68 h69 rfl ⟨f71,f72,f73,hS70⟩
 dsimp only [jnO] at hk6
 unfold qfs at hk6
 simp only [qd,qc,qe,qa,qs,B0,reduceIte,reduceEqDiff]
 have he:=qf hk6
 subst he
 simp only [qw,B0,reduceIte,reduceEqDiff]
 exact rfl
theorem qgy {W:Nat→Bool}{h:Heap} (hW:∀ b,
  (geL h.length) b→W b=true) (s_0:List Vote) {g1:Nat} {caps1:List XV} (hm1:E.mode g1=1) (f_1:Vote→Option Bool) (hf1:∀ (W:Nat→Bool) (h:Heap),(∀ b,
  h.length≤b→W b=true)→∀ a0 r,f_1 a0=some r→Ret E W g1 ([.agg [.int .i64 a0.Term,
  .int .i64 a0.Leader]]++caps1) h (fun v h'=>cut h.length h' E.sz false 9 v=some (.bool r))) (r:Int)
  (hF:ue s_0 f_1=some r) : Ret E W 54 [lst Vote.cells s_0,.fn g1 caps1] h (fun v h'=>cut h.length h' E.sz false 9 v=some (.int .i64 r)):=by
 refine Ret.of (fn:=x54) rfl (Run.of ?_)
 unfold ue at hF
 have zf0:qy [lst Vote.cells s_0,.fn g1 caps1] 0=lst Vote.cells s_0:=rfl
 have zf1:qy [lst Vote.cells s_0,.fn g1 caps1] 1 = .fn g1 caps1:=rfl
 generalize qy [lst Vote.cells s_0,.fn g1 caps1]=fr0 at zf0 zf1 ⊢
 have hS:Sep h (geL h.length) []:=Sep.nil h
 simp only [x54,qd,qc,qe,qa,q6c,zf0,zj,qb,zr,B0,reduceIte,reduceEqDiff]
 obtain ⟨oc3,hX5,hk6⟩:=jm hF
 simp only [q0m]
 refine uh (σ:=Unit) s_0 (fun i1 x2 _=>y9 f_1 i1 x2 ) (fun s fr' h'=>fr' 0=lst Vote.cells s_0∧fr' 1 = .fn g1 caps1∧Sep h' (geL h.length)
   ([])) hX5 ⟨zf0,zf1,hS⟩ (by simp only [B0,reduceIte,reduceEqDiff]) (by simp only [B0,reduceIte,
   reduceEqDiff]) (fun _ _ _ h=>h) rfl rfl (fun _ _ _ _ h=>h) (fun _ _ _ _ h=>h) (fun _ _ _ _ h=>h) (by decide) ?_ ?_
 ·rintro i1 x2 _ fr15 h16 hx20 ⟨f18,f19,hS17⟩ f21 f22 oc4 hF7 hr8 Q9 hN10 hB14 hK11 hR12 hE13
  unfold y9 at hF7
  simp only [q3g,qd,qc,f21,qe,qa,q3a,f19,f18,zt,B0,reduceIte,reduceEqDiff]
  refine qh (v := .ref (Vote.cells x2) 0) (ug hx20 rfl) ?_
  simp only [qj,B0,reduceIte,reduceEqDiff]
  refine qh (v := .agg [.int .i64 x2.Term,.int .i64 x2.Leader]) rfl ?_
  obtain ⟨v23,hx24,hF25⟩:=qi hF7
  simp only [zb,B0,reduceIte,reduceEqDiff]
  refine jg hm1 (qk (kq (qk za (qk za zd))) zd) (hf1 _ _ (fun b hb=>decide_eq_true hb) x2 v23 hx24) ?_
  simp only [qa,q2o,qr,B0,reduceIte,reduceEqDiff]
  refine qq (t:=v23) (fun hc26=>?_) (fun hc26=>?_)
  ·rw [iteT hc26] at hF25
   simp only [qd,qc,qe,qa,qs,B0,reduceIte,reduceEqDiff]
   have e27:=qf hF25
   subst e27
   have ho28:=hr8 _ rfl
   have hk29:=hk6
   rw [ho28] at hk29
   dsimp only [jnO] at hk29
   apply hR12
   have he:=qf hk29
   subst he
   simp only [qw,B0,reduceIte,reduceEqDiff]
   exact rfl
  rw [iteF hc26] at hF25
  simp only [qt,ql,B0,reduceIte,reduceEqDiff]
  have e30:=qf hF25
  exact hN10 _ _ _ e30.symm ⟨f18,f19,hS17⟩ (f21) (f22)
 rintro _ fr32 h33 rfl ⟨f35,f36,hS34⟩
 dsimp only [jnO] at hk6
 unfold qcx at hk6
 simp only [qd,qc,qe,qa,qs,B0,reduceIte,reduceEqDiff]
 have he:=qf hk6
 subst he
 simp only [qw,B0,reduceIte,reduceEqDiff]
 exact rfl
theorem qfv {W:Nat→Bool}{h:Heap} (hW:∀ b,
  (geL h.length) b→W b=true) (s_0:List Vote) {g1:Nat} {caps1:List XV} (hm1:E.mode g1=1) (f_1:Vote→Option Bool) (hf1:∀ (W:Nat→Bool) (h:Heap),(∀ b,
  h.length≤b→W b=true)→∀ a0 r,f_1 a0=some r→Ret E W g1 ([.agg [.int .i64 a0.Term,
  .int .i64 a0.Leader]]++caps1) h (fun v h'=>cut h.length h' E.sz false 9 v=some (.bool r))) (r:Bool)
  (hF:w8 s_0 f_1=some r) : Ret E W 100 [lst Vote.cells s_0,.fn g1 caps1] h (fun v h'=>cut h.length h' E.sz false 9 v=some (.bool r)):=by
 refine Ret.of (fn:=qqq) rfl (Run.of ?_)
 unfold w8 at hF
 have zf0:qy [lst Vote.cells s_0,.fn g1 caps1] 0=lst Vote.cells s_0:=rfl
 have zf1:qy [lst Vote.cells s_0,.fn g1 caps1] 1 = .fn g1 caps1:=rfl
 generalize qy [lst Vote.cells s_0,.fn g1 caps1]=fr0 at zf0 zf1 ⊢
 have hS:Sep h (geL h.length) []:=Sep.nil h
 obtain ⟨v1,hx2,hF3⟩:=qi hF
 simp only [qqq,qd,qc,qe,qa,qum,zf0,zf1,zb,B0,reduceIte,reduceEqDiff]
 refine jg rfl (qk zx (qk qp1 zd)) (qgy (fun b hb=>decide_eq_true hb) s_0 (g1:=g1) (caps1:=caps1) hm1 f_1 hf1 v1 hx2) ?_
 simp only [qm,qb,qi6,qe,qa,qs,B0,reduceIte,reduceEqDiff]
 have he:=qf hF3
 subst he
 simp only [qw,B0,reduceIte,reduceEqDiff]
 exact rfl
theorem qiq {W:Nat→Bool}{h:Heap} (hW:∀ b,
  (geL h.length) b→W b=true) (v_0:Vote) (cap_0:Int) (r:Bool) (hF:some (xj v_0 cap_0)=some r) : Ret E W 101 [.agg [.int .i64 v_0.Term,
  .int .i64 v_0.Leader],.ref (cI cap_0) 0] h (fun v h'=>cut h.length h' E.sz false 9 v=some (.bool r)):=by
 refine Ret.of (fn:=qp3) rfl (Run.of ?_)
 unfold xj at hF
 have zf0:qy [.agg [.int .i64 v_0.Term,.int .i64 v_0.Leader],.ref (cI cap_0) 0] 0 = .agg [.int .i64 v_0.Term,.int .i64 v_0.Leader]:=rfl
 have zf1:qy [.agg [.int .i64 v_0.Term,.int .i64 v_0.Leader],.ref (cI cap_0) 0] 1 = .ref (cI cap_0) 0:=rfl
 generalize qy [.agg [.int .i64 v_0.Term,.int .i64 v_0.Leader],.ref (cI cap_0) 0]=fr0 at zf0 zf1 ⊢
 have hS:Sep h (geL h.length) []:=Sep.nil h
 simp only [qp3,qd,qc,kx,zf0,B0,reduceIte,reduceEqDiff]
 refine ju (cs:=[.int .i64 v_0.Term,.int .i64 v_0.Leader]) hS rfl rfl rfl (fun b1 h2 hS3=>?_)
 simp only [qe,qa,B0,reduceIte,reduceEqDiff]
 refine jd hS3 hW (by simp only [B0,reduceIte,reduceEqDiff]) (fun h5 hS6=>?_)
 simp only [jc,qux,qd,qc,qn,qb,Nat.reduceAdd,Nat.zero_add,Nat.add_zero,qu,qj,B0,reduceIte,reduceEqDiff]
 refine qh (v := .int .i64 v_0.Term) rfl ?_
 simp only [zb,B0,reduceIte,reduceEqDiff]
 refine jg rfl (qk za (qk za (qk za zd))) (y7 (fun b hb=>decide_eq_true hb) v_0.Term 0 100 _ rfl) ?_
 simp only [js,qb,kt,qe,B0,reduceIte,reduceEqDiff]
 refine jh 7 (fun fr' h'=>Sep h' (geL h.length) ([])∧fr' 15 = .bool ((!(zl v_0.Term 0 100))||(!(zl v_0.Leader 0 (IntKind.wrap .i64 (cap_0 - 1))))))
   (fun Q7 hN8=>?_) ?_
 ·simp only [List.take_succ_cons,List.take_zero]
  simp only [qg (g:=8),B0,reduceIte,reduceEqDiff]
  refine zf (t:=(!(zl v_0.Term 0 100))) (fun hg9=>?_) (fun hg9=>?_)
  ·simp only [hg9,qg (g:=8),zz,qz,qb,zp,qa,ql,B0,reduceIte,reduceEqDiff]
   exact hN8 _ _ ⟨hS6,by rw [orT hg9]; simp only [B0,reduceIte,reduceEqDiff]⟩
  ·simp only [hg9,qg (g:=8),qv,qn,qb,Nat.reduceAdd,Nat.zero_add,Nat.add_zero,qu,qj,B0,reduceIte,reduceEqDiff]
   refine qh (v := .int .i64 v_0.Leader) rfl ?_
   simp only [hg9,qg (g:=8),qv,zf1,qj,B0,reduceIte,reduceEqDiff]
   refine qh (v := .int .i64 cap_0) rfl ?_
   simp only [hg9,qg (g:=8),qv,qm,qb,qcz,zb,B0,reduceIte,reduceEqDiff]
   refine jg rfl (qk za (qk za (qk za zd))) (y7 (fun b hb=>decide_eq_true hb) v_0.Leader 0 (IntKind.wrap .i64 (cap_0 - 1)) _ rfl) ?_
   simp only [hg9,qg (g:=8),qv,js,qb,kt,qz,zo,qa,ql,B0,reduceIte,reduceEqDiff]
   exact hN8 _ _ ⟨hS6,by rw [orF hg9]; simp only [B0,reduceIte,reduceEqDiff]⟩
 rintro fr10 h12 ⟨hS13,f11⟩
 simp only [List.drop_succ_cons,List.drop_zero]
 simp only [f11,qe,qa,qs,B0,reduceIte,reduceEqDiff]
 have he:=qf hF
 subst he
 simp only [qw,B0,reduceIte,reduceEqDiff]
 exact rfl
end Go.Proofs.Ytpddolihbnfahaa.X
namespace Go.Proofs.Ytpddolihbnfahaa.X
open Go
open Nat (reduceEqDiff)
theorem qjr {W:Nat→Bool}{h:Heap} (hW:∀ b,
  (geL h.length) b→W b=true) (v_0:Election) (r:Bool) (hF:xe v_0=some r) : Ret E W 53 [.agg [lst Server.cells v_0.Servers,lst Letter.cells v_0.Post,
  lst Vote.cells v_0.Led]] h (fun v h'=>cut h.length h' E.sz false 9 v=some (.bool r)):=by
 refine Ret.of (fn:=x53) rfl (Run.of ?_)
 unfold xe at hF
 have zf0:qy [.agg [lst Server.cells v_0.Servers,lst Letter.cells v_0.Post,lst Vote.cells v_0.Led]] 0 = .agg [lst Server.cells v_0.Servers,lst Letter.cells v_0.Post,
   lst Vote.cells v_0.Led]:=rfl
 generalize qy [.agg [lst Server.cells v_0.Servers,lst Letter.cells v_0.Post,lst Vote.cells v_0.Led]]=fr0 at zf0 ⊢
 have hS:Sep h (geL h.length) []:=Sep.nil h
 simp only [x53,qd,qc,kx,zf0,B0,reduceIte,reduceEqDiff]
 refine ju (cs:=[lst Server.cells v_0.Servers,lst Letter.cells v_0.Post,lst Vote.cells v_0.Led]) hS rfl rfl rfl (fun b1 h2 hS3=>?_)
 simp only [qe,qa,B0,reduceIte,reduceEqDiff]
 refine jd hS3 hW (by simp only [B0,reduceIte,reduceEqDiff]) (fun h5 hS6=>?_)
 simp only [jc,qtp,qd,qc,qn,qb,Nat.reduceAdd,Nat.zero_add,Nat.add_zero,qu,qj,B0,reduceIte,reduceEqDiff]
 refine qh (v:=lst Server.cells v_0.Servers) rfl ?_
 simp only [zj,qb,zr,jv,B0,reduceIte,reduceEqDiff]
 refine jb hS6 (fun b7 h8 hS9=>?_)
 simp only [ze,B0,reduceIte,reduceEqDiff]
 refine zc (us:=[.int .i64 (List.length v_0.Servers:Int)]) rfl (cs':=[.int .i64 (List.length v_0.Servers:Int)]) hS9 hW rfl rfl (Nat.le_of_ble_eq_true rfl) rfl
   (fun h11 hS12=>?_)
 simp only [qa,B0,reduceIte,reduceEqDiff]
 refine jd hS12 hW (by simp only [B0,reduceIte,reduceEqDiff]) (fun h13 hS14=>?_)
 simp only [jc,qwf,qd,qc,qj,B0,reduceIte,reduceEqDiff]
 refine qh (v := .int .i64 (List.length v_0.Servers:Int)) rfl ?_
 simp only [zb,B0,reduceIte,reduceEqDiff]
 refine jg rfl (qk za (qk za (qk za zd))) (y7 (fun b hb=>decide_eq_true hb) (List.length v_0.Servers:Int) 1 5 _ rfl) ?_
 simp only [js,qb,kt,qe,B0,reduceIte,reduceEqDiff]
 refine jh 5 (fun fr' h'=>Sep h' (geL h.length) ([])∧fr' 19 = .bool ((!(zl (List.length v_0.Servers:Int) 1 5))||(decide ((20:Int) <
   (List.length v_0.Post:Int))))∧fr' 1 = .ref [lst Server.cells v_0.Servers,lst Letter.cells v_0.Post,
   lst Vote.cells v_0.Led] 0∧fr' 3 = .ref [.int .i64 (List.length v_0.Servers:Int)] 0) (fun Q15 hN16=>?_) ?_
 ·simp only [List.take_succ_cons,List.take_zero]
  simp only [qg (g:=14),B0,reduceIte,reduceEqDiff]
  refine zf (t:=(!(zl (List.length v_0.Servers:Int) 1 5))) (fun hg17=>?_) (fun hg17=>?_)
  ·simp only [hg17,qg (g:=14),zz,qz,qb,zp,qa,ql,B0,reduceIte,reduceEqDiff]
   exact hN16 _ _ ⟨hS14,by rw [orT hg17]; simp only [B0,reduceIte,reduceEqDiff],rfl,rfl⟩
  ·simp only [hg17,qg (g:=14),qv,qn,qb,Nat.reduceAdd,Nat.zero_add,Nat.add_zero,qu,qj,B0,reduceIte,reduceEqDiff]
   refine qh (v:=lst Letter.cells v_0.Post) rfl ?_
   simp only [hg17,qg (g:=14),qv,zj,qb,zr,qm,qby,qz,zo,qa,ql,B0,reduceIte,reduceEqDiff]
   exact hN16 _ _ ⟨hS14,by rw [orF hg17]; simp only [B0,reduceIte,reduceEqDiff],rfl,rfl⟩
 rintro fr18 h22 ⟨hS23,f19,f20,f21⟩
 simp only [List.drop_succ_cons,List.drop_zero]
 simp only [f19,qe,B0,reduceIte,reduceEqDiff]
 refine jh 5 (fun fr' h'=>Sep h' (geL h.length) ([])∧fr' 25 = .bool (((!(zl (List.length v_0.Servers:Int) 1 5))||(decide ((20:Int) <
   (List.length v_0.Post:Int))))||(decide ((80:Int)<(List.length v_0.Led:Int))))∧fr' 1 = .ref [lst Server.cells v_0.Servers,lst Letter.cells v_0.Post,
   lst Vote.cells v_0.Led] 0∧fr' 3 = .ref [.int .i64 (List.length v_0.Servers:Int)] 0) (fun Q24 hN25=>?_) ?_
 ·simp only [List.take_succ_cons,List.take_zero]
  simp only [qg (g:=20),B0,reduceIte,reduceEqDiff]
  refine zf (t:=((!(zl (List.length v_0.Servers:Int) 1 5))||(decide ((20:Int)<(List.length v_0.Post:Int))))) (fun hg26=>?_) (fun hg26=>?_)
  ·simp only [hg26,qg (g:=20),zz,qz,qb,zp,qa,ql,B0,reduceIte,reduceEqDiff]
   exact hN25 _ _ ⟨hS23,by rw [orT hg26]; simp only [B0,reduceIte,reduceEqDiff],f20,f21⟩
  ·simp only [hg26,qg (g:=20),qv,f20,qn,qb,Nat.reduceAdd,Nat.zero_add,Nat.add_zero,qu,qj,B0,reduceIte,reduceEqDiff]
   refine qh (v:=lst Vote.cells v_0.Led) rfl ?_
   simp only [hg26,qg (g:=20),qv,zj,qb,zr,qm,qby,qz,zo,qa,ql,B0,reduceIte,reduceEqDiff]
   exact hN25 _ _ ⟨hS23,by rw [orF hg26]; simp only [B0,reduceIte,reduceEqDiff],f20,f21⟩
 rintro fr27 h31 ⟨hS32,f28,f29,f30⟩
 simp only [List.drop_succ_cons,List.drop_zero]
 simp only [qa,f28,qr,B0,reduceIte,reduceEqDiff]
 refine qq (t:=(((!(zl (List.length v_0.Servers:Int) 1 5))||(decide ((20:Int)<(List.length v_0.Post:Int))))||(decide ((80:Int) <
   (List.length v_0.Led:Int))))) (fun hc33=>?_) (fun hc33=>?_)
 ·rw [iteT hc33] at hF
  simp only [qd,qc,qe,qa,qs,B0,reduceIte,reduceEqDiff]
  have he:=qf hF
  subst he
  simp only [qw,B0,reduceIte,reduceEqDiff]
  exact rfl
 rw [iteF hc33] at hF
 simp only [qt,qvc,qd,qc,f29,qn,qb,Nat.reduceAdd,Nat.zero_add,Nat.add_zero,qu,qj,B0,reduceIte,reduceEqDiff]
 refine qh (v:=lst Server.cells v_0.Servers) rfl ?_
 simp only [zj,qb,zr,qe,qa,B0,reduceIte,reduceEqDiff]
 obtain ⟨oc36,hX38,hk39⟩:=jm hF
 simp only [q41]
 refine uh (σ:=Unit) v_0.Servers (fun i34 x35 _=>qbb v_0 i34 x35 ) (fun s fr' h'=>fr' 1 = .ref [lst Server.cells v_0.Servers,
   lst Letter.cells v_0.Post,lst Vote.cells v_0.Led] 0∧fr' 3 = .ref [.int .i64 (List.length v_0.Servers:Int)] 0∧fr' 27=lst Server.cells v_0.Servers∧Sep h'
   (geL h.length) ([])) hX38 ⟨f29,f30,rfl,hS32⟩ (by simp only [B0,reduceIte,reduceEqDiff]) (by simp only [B0,reduceIte,
   reduceEqDiff]) (fun _ _ _ h=>h) rfl rfl (fun _ _ _ _ h=>h) (fun _ _ _ _ h=>h) (fun _ _ _ _ h=>h) (by decide) ?_ ?_
 ·rintro i34 x35 _ fr48 h49 hx54 ⟨f51,f52,f53,hS50⟩ f55 f56 oc37 hF40 hr41 Q42 hN43 hB47 hK44 hR45 hE46
  unfold qbb at hF40
  simp only [q7u,qd,qc,f53,f55,zt,B0,reduceIte,reduceEqDiff]
  refine qh (v := .ref (Server.cells x35) 0) (ug hx54 rfl) ?_
  simp only [qj,B0,reduceIte,reduceEqDiff]
  refine qh (v := .agg [.int .i64 x35.Term,.int .i64 x35.Voted,.bool x35.Stands,.bool x35.Leads,lst cI x35.Got,lst cI x35.Log]) rfl ?_
  simp only [jv,B0,reduceIte,reduceEqDiff]
  refine jb hS50 (fun b57 h58 hS59=>?_)
  simp only [ze,B0,reduceIte,reduceEqDiff]
  refine zc (us:=[.int .i64 x35.Term,.int .i64 x35.Voted,.bool x35.Stands,.bool x35.Leads,lst cI x35.Got,lst cI x35.Log]) rfl (cs':=[.int .i64 x35.Term,
    .int .i64 x35.Voted,.bool x35.Stands,.bool x35.Leads,lst cI x35.Got,lst cI x35.Log]) hS59 hW rfl rfl (Nat.le_of_ble_eq_true rfl) rfl (fun h61 hS62=>?_)
  simp only [qa,B0,reduceIte,reduceEqDiff]
  refine jd hS62 hW (by simp only [B0,reduceIte,reduceEqDiff]) (fun h63 hS64=>?_)
  simp only [jc,q4j,qd,qc,qn,qb,Nat.reduceAdd,Nat.zero_add,Nat.add_zero,qu,qj,B0,reduceIte,reduceEqDiff]
  refine qh (v := .int .i64 x35.Term) rfl ?_
  simp only [zb,B0,reduceIte,reduceEqDiff]
  refine jg rfl (qk za (qk za (qk za zd))) (y7 (fun b hb=>decide_eq_true hb) x35.Term 0 100 _ rfl) ?_
  simp only [js,qb,kt,qe,B0,reduceIte,reduceEqDiff]
  refine jh 7 (fun fr' h'=>Sep h' (geL h.length) ([])∧fr' 44 = .bool ((!(zl x35.Term 0 100))||(!(zl x35.Voted (-1) (IntKind.wrap .i64
    ((List.length v_0.Servers:Int) - 1)))))∧fr' 1 = .ref [lst Server.cells v_0.Servers,lst Letter.cells v_0.Post,
    lst Vote.cells v_0.Led] 0∧fr' 3 = .ref [.int .i64 (List.length v_0.Servers:Int)] 0∧fr' 5 = .ref [.int .i64 x35.Term,.int .i64 x35.Voted,.bool x35.Stands,
    .bool x35.Leads,lst cI x35.Got,lst cI x35.Log] 0∧fr' 27=lst Server.cells v_0.Servers∧fr' 28 = .int .i64 (List.length v_0.Servers:Int)∧fr' 29 = .int .i64
    (i34:Int)) (fun Q65 hN66=>?_) ?_
  ·simp only [List.take_succ_cons,List.take_zero]
   simp only [qg (g:=37),B0,reduceIte,reduceEqDiff]
   refine zf (t:=(!(zl x35.Term 0 100))) (fun hg67=>?_) (fun hg67=>?_)
   ·simp only [hg67,qg (g:=37),zz,qz,qb,zp,qa,ql,B0,reduceIte,reduceEqDiff]
    exact hN66 _ _ ⟨hS64,by rw [orT hg67]; simp only [B0,reduceIte,reduceEqDiff],f51,f52,rfl,f53,f56,f55⟩
   ·simp only [hg67,qg (g:=37),qv,qn,qb,Nat.reduceAdd,Nat.zero_add,Nat.add_zero,qu,qj,B0,reduceIte,reduceEqDiff]
    refine qh (v := .int .i64 x35.Voted) rfl ?_
    simp only [hg67,qg (g:=37),qv,f52,qj,B0,reduceIte,reduceEqDiff]
    refine qh (v := .int .i64 (List.length v_0.Servers:Int)) rfl ?_
    simp only [hg67,qg (g:=37),qv,qm,qb,qcz,zb,B0,reduceIte,reduceEqDiff]
    refine jg rfl (qk za (qk za (qk za zd))) (y7 (fun b hb=>decide_eq_true hb) x35.Voted (-1) (IntKind.wrap .i64
      ((List.length v_0.Servers:Int) - 1)) _ rfl) ?_
    simp only [hg67,qg (g:=37),qv,js,qb,kt,qz,zo,qa,ql,B0,reduceIte,reduceEqDiff]
    exact hN66 _ _ ⟨hS64,by rw [orF hg67]; simp only [B0,reduceIte,reduceEqDiff],f51,f52,rfl,f53,f56,f55⟩
  rintro fr68 h76 ⟨hS77,f69,f70,f71,f72,f73,f74,f75⟩
  simp only [List.drop_succ_cons,List.drop_zero]
  simp only [f69,qe,B0,reduceIte,reduceEqDiff]
  refine jh 7 (fun fr' h'=>Sep h' (geL h.length) ([])∧fr' 52 = .bool (((!(zl x35.Term 0 100))||(!(zl x35.Voted (-1) (IntKind.wrap .i64
    ((List.length v_0.Servers:Int) - 1)))))||(x35.Stands&&x35.Leads))∧fr' 1 = .ref [lst Server.cells v_0.Servers,lst Letter.cells v_0.Post,
    lst Vote.cells v_0.Led] 0∧fr' 3 = .ref [.int .i64 (List.length v_0.Servers:Int)] 0∧fr' 5 = .ref [.int .i64 x35.Term,.int .i64 x35.Voted,.bool x35.Stands,
    .bool x35.Leads,lst cI x35.Got,lst cI x35.Log] 0∧fr' 27=lst Server.cells v_0.Servers∧fr' 28 = .int .i64 (List.length v_0.Servers:Int)∧fr' 29 = .int .i64
    (i34:Int)) (fun Q78 hN79=>?_) ?_
  ·simp only [List.take_succ_cons,List.take_zero]
   simp only [qg (g:=45),B0,reduceIte,reduceEqDiff]
   refine zf (t:=((!(zl x35.Term 0 100))||(!(zl x35.Voted (-1) (IntKind.wrap .i64 ((List.length v_0.Servers:Int) - 1)))))) (fun hg80=>?_)
     (fun hg80=>?_)
   ·simp only [hg80,qg (g:=45),zz,qg (g:=48),wt,qz,qb,zp,qa,ql,B0,reduceIte,reduceEqDiff]
    exact hN79 _ _ ⟨hS77,by rw [orT hg80]; simp only [B0,reduceIte,reduceEqDiff],f70,f71,f72,f73,f74,f75⟩
   ·simp only [hg80,qg (g:=45),qv,f72,qn,qb,Nat.reduceAdd,Nat.zero_add,Nat.add_zero,qu,qj,B0,reduceIte,reduceEqDiff]
    refine qh (v := .bool x35.Stands) rfl ?_
    simp only [hg80,qg (g:=45),qv,qe,B0,reduceIte,reduceEqDiff]
    refine jh 3 (fun fr' h'=>Sep h' (geL h.length) ([])∧fr' 51 = .bool (x35.Stands&&x35.Leads)∧fr' 1 = .ref [lst Server.cells v_0.Servers,
      lst Letter.cells v_0.Post,lst Vote.cells v_0.Led] 0∧fr' 3 = .ref [.int .i64 (List.length v_0.Servers:Int)] 0∧fr' 5 = .ref [.int .i64 x35.Term,
      .int .i64 x35.Voted,.bool x35.Stands,.bool x35.Leads,lst cI x35.Got,
      lst cI x35.Log] 0∧fr' 27=lst Server.cells v_0.Servers∧fr' 28 = .int .i64 (List.length v_0.Servers:Int)∧fr' 29 = .int .i64 (i34:Int)∧fr' 45 = .bool
      ((!(zl x35.Term 0 100))||(!(zl x35.Voted (-1) (IntKind.wrap .i64 ((List.length v_0.Servers:Int) - 1)))))) (fun Q81 hN82=>?_) ?_
    ·simp only [List.take_succ_cons,List.take_zero]
     simp only [qg (g:=48),B0,reduceIte,reduceEqDiff]
     refine zf (t:=x35.Stands) (fun hg83=>?_) (fun hg83=>?_)
     ·simp only [hg83,qg (g:=48),zi,f72,qn,qb,Nat.reduceAdd,Nat.zero_add,Nat.add_zero,qu,qj,B0,reduceIte,reduceEqDiff]
      refine qh (v := .bool x35.Leads) rfl ?_
      simp only [hg80,qg (g:=45),qv,hg83,qz,qb,zp,qa,ql,B0,reduceIte,reduceEqDiff]
      exact hN82 _ _ ⟨hS77,by rw [qcb hg83]; simp only [B0,reduceIte,reduceEqDiff],f70,f71,by simp only [f72,B0,reduceIte,reduceEqDiff,hg83],f73,f74,f75,
        by simp only [hg80,B0,reduceIte,reduceEqDiff]⟩
     ·simp only [hg83,qg (g:=48),kf,hg80,qg (g:=45),qv,qz,qb,zo,qa,ql,B0,reduceIte,
       reduceEqDiff]
      exact hN82 _ _ ⟨hS77,by rw [qcd hg83]; simp only [B0,reduceIte,reduceEqDiff],f70,f71,by simp only [f72,B0,reduceIte,reduceEqDiff,hg83],f73,f74,f75,
        by simp only [hg80,B0,reduceIte,reduceEqDiff]⟩
    rintro fr84 h93 ⟨hS94,f85,f86,f87,f88,f89,f90,f91,f92⟩
    simp only [List.drop_succ_cons,List.drop_zero]
    simp only [f92,hg80,qz,qb,zo,f85,qa,ql,B0,reduceIte,reduceEqDiff]
    exact hN79 _ _ ⟨hS94,by rw [orF hg80]; simp only [B0,reduceIte,reduceEqDiff],f86,f87,f88,f89,f90,f91⟩
  rintro fr95 h103 ⟨hS104,f96,f97,f98,f99,f100,f101,f102⟩
  simp only [List.drop_succ_cons,List.drop_zero]
  simp only [f96,qe,B0,reduceIte,reduceEqDiff]
  obtain ⟨v108,hx109,hF110⟩:=qi hF40
  refine jh 6 (fun fr' h'=>Sep h' (geL h.length) ([])∧fr' 59 = .bool v108∧fr' 1 = .ref [lst Server.cells v_0.Servers,lst Letter.cells v_0.Post,
    lst Vote.cells v_0.Led] 0∧fr' 3 = .ref [.int .i64 (List.length v_0.Servers:Int)] 0∧fr' 5 = .ref [.int .i64 x35.Term,.int .i64 x35.Voted,.bool x35.Stands,
    .bool x35.Leads,lst cI x35.Got,lst cI x35.Log] 0∧fr' 27=lst Server.cells v_0.Servers∧fr' 28 = .int .i64 (List.length v_0.Servers:Int)∧fr' 29 = .int .i64
    (i34:Int)) (fun Q105 hN106=>?_) ?_
  ·simp only [List.take_succ_cons,List.take_zero]
   simp only [qg (g:=53),B0,reduceIte,reduceEqDiff]
   refine zf (t:=(((!(zl x35.Term 0 100))||(!(zl x35.Voted (-1) (IntKind.wrap .i64 ((List.length v_0.Servers:Int) - 1))))) ||
     (x35.Stands&&x35.Leads))) (fun hg107=>?_) (fun hg107=>?_)
   ·rw [iteT hg107] at hx109
    simp only [hg107,qg (g:=53),zz,qz,qb,zp,qa,ql,B0,reduceIte,reduceEqDiff]
    have e111:=qf hx109
    exact hN106 _ _ ⟨hS104,by rw [←e111]; simp only [B0,reduceIte,reduceEqDiff],f97,f98,f99,f100,f101,f102⟩
   ·rw [iteF hg107] at hx109
    simp only [hg107,qg (g:=53),qv,f99,qn,qb,Nat.reduceAdd,Nat.zero_add,Nat.add_zero,qu,qj,B0,reduceIte,reduceEqDiff]
    refine qh (v:=lst cI x35.Got) rfl ?_
    simp only [hg107,qg (g:=53),qv,f98,qj,B0,reduceIte,reduceEqDiff]
    refine qh (v := .int .i64 (List.length v_0.Servers:Int)) rfl ?_
    obtain ⟨v112,hx113,hF114⟩:=qi hx109
    simp only [hg107,qg (g:=53),qv,zb,B0,reduceIte,reduceEqDiff]
    refine jg rfl (qk zx (qk za zd)) (qjs (fun b hb=>decide_eq_true hb) x35.Got (List.length v_0.Servers:Int) v112 hx113) ?_
    simp only [hg107,qg (g:=53),qv,js,qb,kt,qz,zo,qa,ql,B0,reduceIte,reduceEqDiff]
    have e115:=qf hF114
    exact hN106 _ _ ⟨hS104,by rw [←e115]; simp only [B0,reduceIte,reduceEqDiff],f97,f98,f99,f100,f101,f102⟩
  rintro fr116 h124 ⟨hS125,f117,f118,f119,f120,f121,f122,f123⟩
  simp only [List.drop_succ_cons,List.drop_zero]
  simp only [f117,qe,B0,reduceIte,reduceEqDiff]
  refine jh 15 (fun fr' h'=>Sep h' (geL h.length) ([])∧fr' 75 = .bool (v108||(((!x35.Stands)&&(!x35.Leads))&&(decide ((0:Int) <
    (List.length x35.Got:Int)))))∧fr' 1 = .ref [lst Server.cells v_0.Servers,lst Letter.cells v_0.Post,
    lst Vote.cells v_0.Led] 0∧fr' 3 = .ref [.int .i64 (List.length v_0.Servers:Int)] 0∧fr' 5 = .ref [.int .i64 x35.Term,.int .i64 x35.Voted,.bool x35.Stands,
    .bool x35.Leads,lst cI x35.Got,lst cI x35.Log] 0∧fr' 27=lst Server.cells v_0.Servers∧fr' 28 = .int .i64 (List.length v_0.Servers:Int)∧fr' 29 = .int .i64
    (i34:Int)) (fun Q126 hN127=>?_) ?_
  ·simp only [List.take_succ_cons,List.take_zero]
   simp only [qg (g:=60),B0,reduceIte,reduceEqDiff]
   refine zf (t:=v108) (fun hg128=>?_) (fun hg128=>?_)
   ·simp only [hg128,qg (g:=60),zz,qg (g:=64),wt,qg (g:=69),qz,qb,zp,qa,ql,B0,reduceIte,
     reduceEqDiff]
    exact hN127 _ _ ⟨hS125,by rw [orT hg128]; simp only [B0,reduceIte,reduceEqDiff],f118,f119,f120,f121,f122,f123⟩
   ·simp only [hg128,qg (g:=60),qv,f120,qn,qb,Nat.reduceAdd,Nat.zero_add,Nat.add_zero,qu,qj,B0,reduceIte,reduceEqDiff]
    refine qh (v := .bool x35.Stands) rfl ?_
    simp only [hg128,qg (g:=60),qv,js,qb,kt,qe,B0,reduceIte,reduceEqDiff]
    refine jh 4 (fun fr' h'=>Sep h' (geL h.length) ([])∧fr' 68 = .bool ((!x35.Stands)&&(!x35.Leads))∧fr' 1 = .ref [lst Server.cells v_0.Servers,
      lst Letter.cells v_0.Post,lst Vote.cells v_0.Led] 0∧fr' 3 = .ref [.int .i64 (List.length v_0.Servers:Int)] 0∧fr' 5 = .ref [.int .i64 x35.Term,
      .int .i64 x35.Voted,.bool x35.Stands,.bool x35.Leads,lst cI x35.Got,
      lst cI x35.Log] 0∧fr' 27=lst Server.cells v_0.Servers∧fr' 28 = .int .i64 (List.length v_0.Servers:Int)∧fr' 29 = .int .i64 (i34:Int)∧fr' 60 = .bool v108)
      (fun Q129 hN130=>?_) ?_
    ·simp only [List.take_succ_cons,List.take_zero]
     simp only [qg (g:=64),B0,reduceIte,reduceEqDiff]
     refine zf (t:=(!x35.Stands)) (fun hg131=>?_) (fun hg131=>?_)
     ·simp only [hg131,qg (g:=64),zi,f120,qn,qb,Nat.reduceAdd,Nat.zero_add,Nat.add_zero,qu,qj,B0,reduceIte,reduceEqDiff]
      refine qh (v := .bool x35.Leads) rfl ?_
      simp only [hg131,qg (g:=64),zi,js,qb,kt,hg128,qg (g:=60),qv,qz,zp,qa,ql,B0,
        reduceIte,reduceEqDiff]
      exact hN130 _ _ ⟨hS125,by rw [qcb hg131]; simp only [B0,reduceIte,reduceEqDiff],f118,f119,f120,f121,f122,f123,by simp only [hg128,B0,reduceIte,
        reduceEqDiff]⟩
     ·simp only [hg131,qg (g:=64),kf,hg128,qg (g:=60),qv,qz,qb,zo,qa,ql,B0,reduceIte,
       reduceEqDiff]
      exact hN130 _ _ ⟨hS125,by rw [qcd hg131]; simp only [B0,reduceIte,reduceEqDiff],f118,f119,f120,f121,f122,f123,by simp only [hg128,B0,reduceIte,
        reduceEqDiff]⟩
    rintro fr132 h141 ⟨hS142,f133,f134,f135,f136,f137,f138,f139,f140⟩
    simp only [List.drop_succ_cons,List.drop_zero]
    simp only [f140,hg128,qg (g:=60),qv,f133,qe,B0,reduceIte,reduceEqDiff]
    refine jh 5 (fun fr' h'=>Sep h' (geL h.length) ([])∧fr' 74 = .bool (((!x35.Stands)&&(!x35.Leads))&&(decide ((0:Int) <
      (List.length x35.Got:Int))))∧fr' 1 = .ref [lst Server.cells v_0.Servers,lst Letter.cells v_0.Post,
      lst Vote.cells v_0.Led] 0∧fr' 3 = .ref [.int .i64 (List.length v_0.Servers:Int)] 0∧fr' 5 = .ref [.int .i64 x35.Term,.int .i64 x35.Voted,.bool x35.Stands,
      .bool x35.Leads,lst cI x35.Got,lst cI x35.Log] 0∧fr' 27=lst Server.cells v_0.Servers∧fr' 28 = .int .i64 (List.length v_0.Servers:Int)∧fr' 29 = .int .i64
      (i34:Int)∧fr' 60 = .bool v108) (fun Q143 hN144=>?_) ?_
    ·simp only [List.take_succ_cons,List.take_zero]
     simp only [qg (g:=69),B0,reduceIte,reduceEqDiff]
     refine zf (t:=((!x35.Stands)&&(!x35.Leads))) (fun hg145=>?_) (fun hg145=>?_)
     ·simp only [hg145,qg (g:=69),zi,f136,qn,qb,Nat.reduceAdd,Nat.zero_add,Nat.add_zero,qu,qj,B0,reduceIte,reduceEqDiff]
      refine qh (v:=lst cI x35.Got) rfl ?_
      simp only [hg145,qg (g:=69),zi,zj,qb,zr,qm,qby,f140,hg128,qg (g:=60),qv,qz,zp,
        qa,ql,B0,reduceIte,reduceEqDiff]
      exact hN144 _ _ ⟨hS142,by rw [qcb hg145]; simp only [B0,reduceIte,reduceEqDiff],f134,f135,f136,f137,f138,f139,by simp only [f140,hg128,B0,reduceIte,
        reduceEqDiff]⟩
     ·simp only [hg145,qg (g:=69),kf,f140,hg128,qg (g:=60),qv,qz,qb,zo,qa,ql,B0,reduceIte,
       reduceEqDiff]
      exact hN144 _ _ ⟨hS142,by rw [qcd hg145]; simp only [B0,reduceIte,reduceEqDiff],f134,f135,f136,f137,f138,f139,by simp only [f140,hg128,B0,reduceIte,
        reduceEqDiff]⟩
    rintro fr146 h155 ⟨hS156,f147,f148,f149,f150,f151,f152,f153,f154⟩
    simp only [List.drop_succ_cons,List.drop_zero]
    simp only [f154,hg128,qz,qb,zo,f147,qa,ql,B0,reduceIte,reduceEqDiff]
    exact hN127 _ _ ⟨hS156,by rw [orF hg128]; simp only [B0,reduceIte,reduceEqDiff],f148,f149,f150,f151,f152,f153⟩
  rintro fr157 h165 ⟨hS166,f158,f159,f160,f161,f162,f163,f164⟩
  simp only [List.drop_succ_cons,List.drop_zero]
  simp only [f158,qe,B0,reduceIte,reduceEqDiff]
  obtain ⟨v170,hx171,hF172⟩:=qi hF110
  refine jh 5 (fun fr' h'=>Sep h' (geL h.length) ([])∧fr' 81 = .bool v170∧fr' 1 = .ref [lst Server.cells v_0.Servers,lst Letter.cells v_0.Post,
    lst Vote.cells v_0.Led] 0∧fr' 3 = .ref [.int .i64 (List.length v_0.Servers:Int)] 0∧fr' 27=lst Server.cells v_0.Servers∧fr' 28 = .int .i64
    (List.length v_0.Servers:Int)∧fr' 29 = .int .i64 (i34:Int)) (fun Q167 hN168=>?_) ?_
  ·simp only [List.take_succ_cons,List.take_zero]
   simp only [qg (g:=76),B0,reduceIte,reduceEqDiff]
   refine zf (t:=(v108||(((!x35.Stands)&&(!x35.Leads))&&(decide ((0:Int)<(List.length x35.Got:Int)))))) (fun hg169=>?_) (fun hg169=>?_)
   ·rw [iteT hg169] at hx171
    simp only [hg169,qg (g:=76),zz,qz,qb,zp,qa,ql,B0,reduceIte,reduceEqDiff]
    have e173:=qf hx171
    exact hN168 _ _ ⟨hS166,by rw [←e173]; simp only [B0,reduceIte,reduceEqDiff],f159,f160,f162,f163,f164⟩
   ·rw [iteF hg169] at hx171
    simp only [hg169,qg (g:=76),qv,f161,qn,qb,Nat.reduceAdd,Nat.zero_add,Nat.add_zero,qu,qj,B0,reduceIte,reduceEqDiff]
    refine qh (v:=lst cI x35.Log) rfl ?_
    obtain ⟨v174,hx175,hF176⟩:=qi hx171
    simp only [hg169,qg (g:=76),qv,zb,B0,reduceIte,reduceEqDiff]
    refine jg rfl (qk zx zd) (qf6 (fun b hb=>decide_eq_true hb) x35.Log v174 hx175) ?_
    simp only [hg169,qg (g:=76),qv,js,qb,kt,qz,zo,qa,ql,B0,reduceIte,reduceEqDiff]
    have e177:=qf hF176
    exact hN168 _ _ ⟨hS166,by rw [←e177]; simp only [B0,reduceIte,reduceEqDiff],f159,f160,f162,f163,f164⟩
  rintro fr178 h185 ⟨hS186,f179,f180,f181,f182,f183,f184⟩
  simp only [List.drop_succ_cons,List.drop_zero]
  simp only [qa,f179,qr,B0,reduceIte,reduceEqDiff]
  refine qq (t:=v170) (fun hc187=>?_) (fun hc187=>?_)
  ·rw [iteT hc187] at hF172
   simp only [qd,qc,qe,qa,qs,B0,reduceIte,reduceEqDiff]
   have e188:=qf hF172
   subst e188
   have ho189:=hr41 _ rfl
   have hk190:=hk39
   rw [ho189] at hk190
   dsimp only [jnO] at hk190
   apply hR45
   have he:=qf hk190
   subst he
   simp only [qw,B0,reduceIte,reduceEqDiff]
   exact rfl
  rw [iteF hc187] at hF172
  simp only [qt,ql,B0,reduceIte,reduceEqDiff]
  have e191:=qf hF172
  exact hN43 _ _ _ e191.symm ⟨f180,f181,f182,hS186⟩ (f184) (f183)
 rintro _ fr193 h194 rfl ⟨f196,f197,f198,hS195⟩
 dsimp only [jnO] at hk39
 unfold qc3 at hk39
 simp only [qt8,qd,qc,f196,qn,qb,Nat.reduceAdd,Nat.zero_add,Nat.add_zero,qu,qj,B0,reduceIte,reduceEqDiff]
 refine qh (v:=lst Letter.cells v_0.Post) rfl ?_
 simp only [zj,qb,zr,qe,qa,B0,reduceIte,reduceEqDiff]
 obtain ⟨oc201,hX203,hk204⟩:=jm hk39
 simp only [q3o]
 refine uh (σ:=Unit) v_0.Post (fun i199 x200 _=>qa6 v_0 i199 x200 ) (fun s fr' h'=>fr' 1 = .ref [lst Server.cells v_0.Servers,
   lst Letter.cells v_0.Post,lst Vote.cells v_0.Led] 0∧fr' 3 = .ref [.int .i64 (List.length v_0.Servers:Int)] 0∧fr' 84=lst Letter.cells v_0.Post∧Sep h'
   (geL h.length) ([])) hX203 ⟨f196,f197,rfl,hS195⟩ (by simp only [B0,reduceIte,reduceEqDiff]) (by simp only [B0,reduceIte,
   reduceEqDiff]) (fun _ _ _ h=>h) rfl rfl (fun _ _ _ _ h=>h) (fun _ _ _ _ h=>h) (fun _ _ _ _ h=>h) (by decide) ?_ ?_
 ·rintro i199 x200 _ fr213 h214 hx219 ⟨f216,f217,f218,hS215⟩ f220 f221 oc202 hF205 hr206 Q207 hN208 hB212 hK209 hR210 hE211
  unfold qa6 at hF205
  simp only [q3x,qd,qc,f218,f220,zt,B0,reduceIte,reduceEqDiff]
  refine qh (v := .ref (Letter.cells x200) 0) (ug hx219 rfl) ?_
  simp only [qj,B0,reduceIte,reduceEqDiff]
  refine qh (v := .agg [.int .i64 x200.To,.int .i64 x200.From,.int .i64 x200.Term,.bool x200.Asks,.int .i64 x200.Last,.int .i64 x200.Long,.bool x200.Grant]) rfl ?_
  simp only [jv,B0,reduceIte,reduceEqDiff]
  refine jb hS215 (fun b222 h223 hS224=>?_)
  simp only [ze,B0,reduceIte,reduceEqDiff]
  refine zc (us:=[.int .i64 x200.To,.int .i64 x200.From,.int .i64 x200.Term,.bool x200.Asks,.int .i64 x200.Last,.int .i64 x200.Long,
    .bool x200.Grant]) rfl (cs':=[.int .i64 x200.To,.int .i64 x200.From,.int .i64 x200.Term,.bool x200.Asks,.int .i64 x200.Last,.int .i64 x200.Long,
    .bool x200.Grant]) hS224 hW rfl rfl (Nat.le_of_ble_eq_true rfl) rfl (fun h226 hS227=>?_)
  simp only [qa,B0,reduceIte,reduceEqDiff]
  refine jd hS227 hW (by simp only [B0,reduceIte,reduceEqDiff]) (fun h228 hS229=>?_)
  simp only [jc,q2i,qd,j5,jf,qp,Nat.reduceAdd,Nat.zero_add,Nat.add_zero,qu,z8,B0,reduceIte,reduceEqDiff]
  refine q9 (v := .int .i64 x200.To) rfl ?_
  simp only [f217,z8,B0,reduceIte,reduceEqDiff]
  refine q9 (v := .int .i64 (List.length v_0.Servers:Int)) rfl ?_
  simp only [qbs,qp,qcz,wa,B0,reduceIte,reduceEqDiff]
  refine qds rfl (qk za (qk za (qk za zd))) (y7 (fun b hb=>decide_eq_true hb) x200.To 0 (IntKind.wrap .i64
    ((List.length v_0.Servers:Int) - 1)) _ rfl) ?_
  simp only [qhd,qp,kt,ja,B0,reduceIte,reduceEqDiff]
  simp only [zh (g:=96),B0,reduceIte,reduceEqDiff]
  refine yy (t:=(!(zl x200.To 0 (IntKind.wrap .i64 ((List.length v_0.Servers:Int) - 1))))) (fun hg230=>?_) (fun hg230=>?_)
  ·rw [iteT hg230] at hF205
   simp only [hg230,zh (g:=96),qcm,yl,qp,zp,ja,zh (g:=104),zh (g:=111),zk,qr,qmm,
     qd,qc,qe,qa,qs,B0,reduceIte,reduceEqDiff]
   have e231:=qf hF205
   subst e231
   have ho232:=hr206 _ rfl
   have hk233:=hk204
   rw [ho232] at hk233
   dsimp only [jnO] at hk233
   apply hR210
   have he:=qf hk233
   subst he
   simp only [qw,B0,reduceIte,reduceEqDiff]
   exact rfl
  rw [iteF hg230] at hF205
  simp only [hg230,zh (g:=96),jo,jf,qp,Nat.reduceAdd,Nat.zero_add,Nat.add_zero,qu,z8,B0,reduceIte,reduceEqDiff]
  refine q9 (v := .int .i64 x200.From) rfl ?_
  simp only [hg230,zh (g:=96),jo,f217,z8,B0,reduceIte,reduceEqDiff]
  refine q9 (v := .int .i64 (List.length v_0.Servers:Int)) rfl ?_
  simp only [hg230,zh (g:=96),jo,qbs,qp,qcz,wa,B0,reduceIte,reduceEqDiff]
  refine qds rfl (qk za (qk za (qk za zd))) (y7 (fun b hb=>decide_eq_true hb) x200.From 0 (IntKind.wrap .i64
    ((List.length v_0.Servers:Int) - 1)) _ rfl) ?_
  simp only [hg230,zh (g:=96),jo,qhd,qp,kt,yl,zo,ja,B0,reduceIte,reduceEqDiff]
  refine qfn 6 (fun fr' h'=>Sep h' (geL h.length) ([])∧fr' 110 = .bool ((!(zl x200.From 0 (IntKind.wrap .i64 ((List.length v_0.Servers:Int) - 1))))||(decide
    (x200.To=x200.From)))∧fr' 1 = .ref [lst Server.cells v_0.Servers,lst Letter.cells v_0.Post,
    lst Vote.cells v_0.Led] 0∧fr' 3 = .ref [.int .i64 (List.length v_0.Servers:Int)] 0∧fr' 7 = .ref [.int .i64 x200.To,.int .i64 x200.From,.int .i64 x200.Term,
    .bool x200.Asks,.int .i64 x200.Last,.int .i64 x200.Long,
    .bool x200.Grant] 0∧fr' 84=lst Letter.cells v_0.Post∧fr' 85 = .int .i64 (List.length v_0.Post:Int)∧fr' 86 = .int .i64 (i199:Int)) rfl (fun Q234 hN235=>?_) ?_
  ·simp only [List.take_succ_cons,List.take_zero]
   simp only [zh (g:=104),B0,reduceIte,reduceEqDiff]
   refine yy (t:=(!(zl x200.From 0 (IntKind.wrap .i64 ((List.length v_0.Servers:Int) - 1))))) (fun hg236=>?_) (fun hg236=>?_)
   ·simp only [hg236,zh (g:=104),qcm,yl,qp,zp,zk,ql,B0,reduceIte,reduceEqDiff]
    exact hN235 _ _ ⟨hS229,by rw [orT hg236]; simp only [B0,reduceIte,reduceEqDiff],f216,f217,rfl,f218,f221,f220⟩
   ·simp only [hg236,zh (g:=104),jo,jf,qp,Nat.reduceAdd,Nat.zero_add,Nat.add_zero,qu,z8,B0,reduceIte,reduceEqDiff]
    refine q9 (v := .int .i64 x200.To) rfl ?_
    simp only [hg236,zh (g:=104),jo,jf,qp,Nat.reduceAdd,Nat.zero_add,Nat.add_zero,qu,z8,B0,reduceIte,reduceEqDiff]
    refine q9 (v := .int .i64 x200.From) rfl ?_
    simp only [hg236,zh (g:=104),jo,qbs,qp,yi,yl,zo,zk,ql,B0,reduceIte,reduceEqDiff]
    exact hN235 _ _ ⟨hS229,by rw [orF hg236]; simp only [B0,reduceIte,reduceEqDiff],f216,f217,rfl,f218,f221,f220⟩
  rintro fr237 h245 ⟨hS246,f238,f239,f240,f241,f242,f243,f244⟩
  simp only [List.drop_succ_cons,List.drop_zero]
  simp only [f238,ja,qp,B0,reduceIte,reduceEqDiff]
  simp only [zh (g:=111),B0,reduceIte,reduceEqDiff]
  refine yy (t:=((!(zl x200.From 0 (IntKind.wrap .i64 ((List.length v_0.Servers:Int) - 1))))||(decide (x200.To=x200.From)))) (fun hg247=>?_)
    (fun hg247=>?_)
  ·rw [iteT hg247] at hF205
   simp only [hg247,zh (g:=111),qcm,yl,qp,zp,zk,qr,qmm,qd,qc,qe,qa,qs,B0,
     reduceIte,reduceEqDiff]
   have e248:=qf hF205
   subst e248
   have ho249:=hr206 _ rfl
   have hk250:=hk204
   rw [ho249] at hk250
   dsimp only [jnO] at hk250
   apply hR210
   have he:=qf hk250
   subst he
   simp only [qw,B0,reduceIte,reduceEqDiff]
   exact rfl
  rw [iteF hg247] at hF205
  simp only [hg247,zh (g:=111),jo,f241,jf,qp,Nat.reduceAdd,Nat.zero_add,Nat.add_zero,qu,z8,B0,reduceIte,reduceEqDiff]
  refine q9 (v := .int .i64 x200.Term) rfl ?_
  simp only [hg247,zh (g:=111),jo,f239,jf,qp,Nat.reduceAdd,Nat.zero_add,Nat.add_zero,qu,z8,B0,reduceIte,reduceEqDiff]
  refine q9 (v:=lst Server.cells v_0.Servers) rfl ?_
  simp only [hg247,zh (g:=111),jo,f241,jf,qp,Nat.reduceAdd,Nat.zero_add,Nat.add_zero,qu,z8,B0,reduceIte,reduceEqDiff]
  refine q9 (v := .int .i64 x200.From) rfl ?_
  obtain ⟨x251,hx252,hF253⟩:=qi hF205
  simp only [hg247,zh (g:=111),jo,qbq,B0,reduceIte,reduceEqDiff]
  refine q9 (v := .ref (Server.cells x251) 0) (je hx252 rfl) ?_
  simp only [hg247,zh (g:=111),jo,jf,qp,Nat.reduceAdd,Nat.zero_add,Nat.add_zero,qu,z8,B0,reduceIte,reduceEqDiff]
  refine q9 (v := .int .i64 x251.Term) rfl ?_
  simp only [hg247,zh (g:=111),jo,wa,B0,reduceIte,reduceEqDiff]
  refine qds rfl (qk za (qk za (qk za zd))) (y7 (fun b hb=>decide_eq_true hb) x200.Term 0 x251.Term _ rfl) ?_
  simp only [hg247,zh (g:=111),jo,qhd,qp,kt,yl,zo,zk,qr,B0,reduceIte,reduceEqDiff]
  refine qq (t:=(!(zl x200.Term 0 x251.Term))) (fun hc254=>?_) (fun hc254=>?_)
  ·rw [iteT hc254] at hF253
   simp only [qd,qc,qe,qa,qs,B0,reduceIte,reduceEqDiff]
   have e255:=qf hF253
   subst e255
   have ho256:=hr206 _ rfl
   have hk257:=hk204
   rw [ho256] at hk257
   dsimp only [jnO] at hk257
   apply hR210
   have he:=qf hk257
   subst he
   simp only [qw,B0,reduceIte,reduceEqDiff]
   exact rfl
  rw [iteF hc254] at hF253
  simp only [qt,q3y,qd,qc,f241,qn,qb,Nat.reduceAdd,Nat.zero_add,Nat.add_zero,qu,qj,B0,reduceIte,reduceEqDiff]
  refine qh (v := .bool x200.Asks) rfl ?_
  simp only [qe,B0,reduceIte,reduceEqDiff]
  refine jh 15 (fun fr' h'=>Sep h' (geL h.length) ([])∧fr' 141 = .bool (x200.Asks&&((x200.Grant||(!(zl x200.Last (-1) 100))) ||
    (!(zl x200.Long 0 30))))∧fr' 1 = .ref [lst Server.cells v_0.Servers,lst Letter.cells v_0.Post,
    lst Vote.cells v_0.Led] 0∧fr' 3 = .ref [.int .i64 (List.length v_0.Servers:Int)] 0∧fr' 7 = .ref [.int .i64 x200.To,.int .i64 x200.From,.int .i64 x200.Term,
    .bool x200.Asks,.int .i64 x200.Last,.int .i64 x200.Long,
    .bool x200.Grant] 0∧fr' 84=lst Letter.cells v_0.Post∧fr' 85 = .int .i64 (List.length v_0.Post:Int)∧fr' 86 = .int .i64 (i199:Int)) (fun Q258 hN259=>?_) ?_
  ·simp only [List.take_succ_cons,List.take_zero]
   simp only [qg (g:=126),B0,reduceIte,reduceEqDiff]
   refine zf (t:=x200.Asks) (fun hg260=>?_) (fun hg260=>?_)
   ·simp only [hg260,qg (g:=126),zi,f241,qn,qb,Nat.reduceAdd,Nat.zero_add,Nat.add_zero,qu,qj,B0,reduceIte,reduceEqDiff]
    refine qh (v := .bool x200.Grant) rfl ?_
    simp only [hg260,qg (g:=126),zi,qe,B0,reduceIte,reduceEqDiff]
    refine jh 5 (fun fr' h'=>Sep h' (geL h.length) ([])∧fr' 134 = .bool (x200.Grant||(!(zl x200.Last (-1) 100)))∧fr' 1 = .ref [lst Server.cells v_0.Servers,
      lst Letter.cells v_0.Post,lst Vote.cells v_0.Led] 0∧fr' 3 = .ref [.int .i64 (List.length v_0.Servers:Int)] 0∧fr' 7 = .ref [.int .i64 x200.To,
      .int .i64 x200.From,.int .i64 x200.Term,.bool x200.Asks,.int .i64 x200.Last,.int .i64 x200.Long,
      .bool x200.Grant] 0∧fr' 84=lst Letter.cells v_0.Post∧fr' 85 = .int .i64 (List.length v_0.Post:Int)∧fr' 86 = .int .i64
      (i199:Int)∧fr' 126 = .bool x200.Asks) (fun Q261 hN262=>?_) ?_
    ·simp only [List.take_succ_cons,List.take_zero]
     simp only [qg (g:=129),B0,reduceIte,reduceEqDiff]
     refine zf (t:=x200.Grant) (fun hg263=>?_) (fun hg263=>?_)
     ·simp only [hg263,qg (g:=129),zz,hg260,qg (g:=126),zi,qz,qb,zp,qa,ql,B0,reduceIte,
       reduceEqDiff]
      exact hN262 _ _ ⟨hS246,by rw [orT hg263]; simp only [B0,reduceIte,reduceEqDiff],f239,f240,by simp only [f241,B0,reduceIte,reduceEqDiff,hg263],f242,f243,
        f244,by simp only [hg260,B0,reduceIte,reduceEqDiff]⟩
     ·simp only [hg263,qg (g:=129),qv,f241,qn,qb,Nat.reduceAdd,Nat.zero_add,Nat.add_zero,qu,qj,B0,reduceIte,reduceEqDiff]
      refine qh (v := .int .i64 x200.Last) rfl ?_
      simp only [hg263,qg (g:=129),qv,zb,B0,reduceIte,reduceEqDiff]
      refine jg rfl (qk za (qk za (qk za zd))) (y7 (fun b hb=>decide_eq_true hb) x200.Last (-1) 100 _ rfl) ?_
      simp only [hg263,qg (g:=129),qv,js,qb,kt,hg260,qg (g:=126),zi,qz,zo,qa,ql,B0,
        reduceIte,reduceEqDiff]
      exact hN262 _ _ ⟨hS246,by rw [orF hg263]; simp only [B0,reduceIte,reduceEqDiff],f239,f240,by simp only [f241,B0,reduceIte,reduceEqDiff,hg263],f242,f243,
        f244,by simp only [hg260,B0,reduceIte,reduceEqDiff]⟩
    rintro fr264 h273 ⟨hS274,f265,f266,f267,f268,f269,f270,f271,f272⟩
    simp only [List.drop_succ_cons,List.drop_zero]
    simp only [f272,hg260,qg (g:=126),zi,f265,qe,B0,reduceIte,reduceEqDiff]
    refine jh 5 (fun fr' h'=>Sep h' (geL h.length) ([])∧fr' 140 = .bool ((x200.Grant||(!(zl x200.Last (-1) 100))) ||
      (!(zl x200.Long 0 30)))∧fr' 1 = .ref [lst Server.cells v_0.Servers,lst Letter.cells v_0.Post,
      lst Vote.cells v_0.Led] 0∧fr' 3 = .ref [.int .i64 (List.length v_0.Servers:Int)] 0∧fr' 7 = .ref [.int .i64 x200.To,.int .i64 x200.From,.int .i64 x200.Term,
      .bool x200.Asks,.int .i64 x200.Last,.int .i64 x200.Long,
      .bool x200.Grant] 0∧fr' 84=lst Letter.cells v_0.Post∧fr' 85 = .int .i64 (List.length v_0.Post:Int)∧fr' 86 = .int .i64
      (i199:Int)∧fr' 126 = .bool x200.Asks) (fun Q275 hN276=>?_) ?_
    ·simp only [List.take_succ_cons,List.take_zero]
     simp only [qg (g:=135),B0,reduceIte,reduceEqDiff]
     refine zf (t:=(x200.Grant||(!(zl x200.Last (-1) 100)))) (fun hg277=>?_) (fun hg277=>?_)
     ·simp only [hg277,qg (g:=135),zz,f272,hg260,qg (g:=126),zi,qz,qb,zp,qa,ql,B0,reduceIte,
       reduceEqDiff]
      exact hN276 _ _ ⟨hS274,by rw [orT hg277]; simp only [B0,reduceIte,reduceEqDiff],f266,f267,f268,f269,f270,f271,by simp only [f272,hg260,B0,reduceIte,
        reduceEqDiff]⟩
     ·simp only [hg277,qg (g:=135),qv,f268,qn,qb,Nat.reduceAdd,Nat.zero_add,Nat.add_zero,qu,qj,B0,reduceIte,reduceEqDiff]
      refine qh (v := .int .i64 x200.Long) rfl ?_
      simp only [hg277,qg (g:=135),qv,zb,B0,reduceIte,reduceEqDiff]
      refine jg rfl (qk za (qk za (qk za zd))) (y7 (fun b hb=>decide_eq_true hb) x200.Long 0 30 _ rfl) ?_
      simp only [hg277,qg (g:=135),qv,js,qb,kt,f272,hg260,qg (g:=126),zi,qz,zo,qa,ql,
        B0,reduceIte,reduceEqDiff]
      exact hN276 _ _ ⟨hS274,by rw [orF hg277]; simp only [B0,reduceIte,reduceEqDiff],f266,f267,f268,f269,f270,f271,by simp only [f272,hg260,B0,reduceIte,
        reduceEqDiff]⟩
    rintro fr278 h287 ⟨hS288,f279,f280,f281,f282,f283,f284,f285,f286⟩
    simp only [List.drop_succ_cons,List.drop_zero]
    simp only [f286,hg260,qz,qb,zp,f279,qa,ql,B0,reduceIte,reduceEqDiff]
    exact hN259 _ _ ⟨hS288,by rw [qcb hg260]; simp only [B0,reduceIte,reduceEqDiff],f280,f281,by simp only [f282,B0,reduceIte,reduceEqDiff,hg260],f283,f284,f285⟩
   ·simp only [hg260,qg (g:=126),kf,qg (g:=129),wt,qg (g:=135),qz,qb,zo,qa,ql,B0,
     reduceIte,reduceEqDiff]
    exact hN259 _ _ ⟨hS246,by rw [qcd hg260]; simp only [B0,reduceIte,reduceEqDiff],f239,f240,by simp only [f241,B0,reduceIte,reduceEqDiff,hg260],f242,f243,f244⟩
  rintro fr289 h297 ⟨hS298,f290,f291,f292,f293,f294,f295,f296⟩
  simp only [List.drop_succ_cons,List.drop_zero]
  simp only [f290,qe,B0,reduceIte,reduceEqDiff]
  refine jh 14 (fun fr' h'=>Sep h' (geL h.length) ([])∧fr' 156 = .bool ((x200.Asks&&((x200.Grant||(!(zl x200.Last (-1) 100))) ||
    (!(zl x200.Long 0 30))))||((!x200.Asks)&&((decide (x200.Last≠0))||(decide (x200.Long≠0)))))∧fr' 1 = .ref [lst Server.cells v_0.Servers,
    lst Letter.cells v_0.Post,lst Vote.cells v_0.Led] 0∧fr' 3 = .ref [.int .i64
    (List.length v_0.Servers:Int)] 0∧fr' 84=lst Letter.cells v_0.Post∧fr' 85 = .int .i64 (List.length v_0.Post:Int)∧fr' 86 = .int .i64 (i199:Int))
    (fun Q299 hN300=>?_) ?_
  ·simp only [List.take_succ_cons,List.take_zero]
   simp only [qg (g:=142),B0,reduceIte,reduceEqDiff]
   refine zf (t:=(x200.Asks&&((x200.Grant||(!(zl x200.Last (-1) 100)))||(!(zl x200.Long 0 30))))) (fun hg301=>?_) (fun hg301=>?_)
   ·simp only [hg301,qg (g:=142),zz,qg (g:=146),wt,qg (g:=150),qz,qb,zp,qa,ql,B0,
     reduceIte,reduceEqDiff]
    exact hN300 _ _ ⟨hS298,by rw [orT hg301]; simp only [B0,reduceIte,reduceEqDiff],f291,f292,f294,f295,f296⟩
   ·simp only [hg301,qg (g:=142),qv,f293,qn,qb,Nat.reduceAdd,Nat.zero_add,Nat.add_zero,qu,qj,B0,reduceIte,reduceEqDiff]
    refine qh (v := .bool x200.Asks) rfl ?_
    simp only [hg301,qg (g:=142),qv,js,qb,kt,qe,B0,reduceIte,reduceEqDiff]
    refine jh 9 (fun fr' h'=>Sep h' (geL h.length) ([])∧fr' 155 = .bool ((!x200.Asks)&&((decide (x200.Last≠0))||(decide
      (x200.Long≠0))))∧fr' 1 = .ref [lst Server.cells v_0.Servers,lst Letter.cells v_0.Post,
      lst Vote.cells v_0.Led] 0∧fr' 3 = .ref [.int .i64 (List.length v_0.Servers:Int)] 0∧fr' 84=lst Letter.cells v_0.Post∧fr' 85 = .int .i64
      (List.length v_0.Post:Int)∧fr' 86 = .int .i64 (i199:Int)∧fr' 142 = .bool (x200.Asks&&((x200.Grant||(!(zl x200.Last (-1) 100))) ||
      (!(zl x200.Long 0 30))))) (fun Q302 hN303=>?_) ?_
    ·simp only [List.take_succ_cons,List.take_zero]
     simp only [qg (g:=146),B0,reduceIte,reduceEqDiff]
     refine zf (t:=(!x200.Asks)) (fun hg304=>?_) (fun hg304=>?_)
     ·simp only [hg304,qg (g:=146),zi,f293,qn,qb,Nat.reduceAdd,Nat.zero_add,Nat.add_zero,qu,qj,B0,reduceIte,reduceEqDiff]
      refine qh (v := .int .i64 x200.Last) rfl ?_
      simp only [hg304,qg (g:=146),zi,qm,qb,yq,qe,B0,reduceIte,reduceEqDiff]
      refine jh 4 (fun fr' h'=>Sep h' (geL h.length) ([])∧fr' 154 = .bool ((decide (x200.Last≠0))||(decide
        (x200.Long≠0)))∧fr' 1 = .ref [lst Server.cells v_0.Servers,lst Letter.cells v_0.Post,
        lst Vote.cells v_0.Led] 0∧fr' 3 = .ref [.int .i64 (List.length v_0.Servers:Int)] 0∧fr' 84=lst Letter.cells v_0.Post∧fr' 85 = .int .i64
        (List.length v_0.Post:Int)∧fr' 86 = .int .i64 (i199:Int)∧fr' 142 = .bool (x200.Asks&&((x200.Grant||(!(zl x200.Last (-1) 100))) ||
        (!(zl x200.Long 0 30))))∧fr' 146 = .bool (!x200.Asks)) (fun Q305 hN306=>?_) ?_
      ·simp only [List.take_succ_cons,List.take_zero]
       simp only [qg (g:=150),B0,reduceIte,reduceEqDiff]
       refine zf (t:=(decide (x200.Last≠0))) (fun hg307=>?_) (fun hg307=>?_)
       ·simp only [hg307,qg (g:=150),zz,hg304,qg (g:=146),zi,qz,qb,zp,qa,ql,B0,reduceIte,
         reduceEqDiff]
        exact hN306 _ _ ⟨hS298,by rw [orT hg307]; simp only [B0,reduceIte,reduceEqDiff],f291,f292,f294,f295,f296,by simp only [hg301,B0,reduceIte,
          reduceEqDiff],by simp only [hg304,B0,reduceIte,reduceEqDiff]⟩
       ·simp only [hg307,qg (g:=150),qv,f293,qn,qb,Nat.reduceAdd,Nat.zero_add,Nat.add_zero,qu,qj,B0,reduceIte,
         reduceEqDiff]
        refine qh (v := .int .i64 x200.Long) rfl ?_
        simp only [hg307,qg (g:=150),qv,qm,qb,yq,hg304,qg (g:=146),zi,qz,zo,qa,ql,
          B0,reduceIte,reduceEqDiff]
        exact hN306 _ _ ⟨hS298,by rw [orF hg307]; simp only [B0,reduceIte,reduceEqDiff],f291,f292,f294,f295,f296,by simp only [hg301,B0,reduceIte,
          reduceEqDiff],by simp only [hg304,B0,reduceIte,reduceEqDiff]⟩
      rintro fr308 h317 ⟨hS318,f309,f310,f311,f312,f313,f314,f315,f316⟩
      simp only [List.drop_succ_cons,List.drop_zero]
      simp only [f315,hg301,qg (g:=142),qv,f316,hg304,qz,qb,zp,f309,qa,ql,B0,reduceIte,reduceEqDiff]
      exact hN303 _ _ ⟨hS318,by rw [qcb hg304]; simp only [B0,reduceIte,reduceEqDiff],f310,f311,f312,f313,f314,by simp only [f315,hg301,B0,reduceIte,
        reduceEqDiff]⟩
     ·simp only [hg304,qg (g:=146),kf,qg (g:=150),wt,hg301,qg (g:=142),qv,qz,qb,zo,
       qa,ql,B0,reduceIte,reduceEqDiff]
      exact hN303 _ _ ⟨hS298,by rw [qcd hg304]; simp only [B0,reduceIte,reduceEqDiff],f291,f292,f294,f295,f296,by simp only [hg301,B0,reduceIte,reduceEqDiff]⟩
    rintro fr319 h327 ⟨hS328,f320,f321,f322,f323,f324,f325,f326⟩
    simp only [List.drop_succ_cons,List.drop_zero]
    simp only [f326,hg301,qz,qb,zo,f320,qa,ql,B0,reduceIte,reduceEqDiff]
    exact hN300 _ _ ⟨hS328,by rw [orF hg301]; simp only [B0,reduceIte,reduceEqDiff],f321,f322,f323,f324,f325⟩
  rintro fr329 h336 ⟨hS337,f330,f331,f332,f333,f334,f335⟩
  simp only [List.drop_succ_cons,List.drop_zero]
  simp only [qa,f330,qr,B0,reduceIte,reduceEqDiff]
  refine qq (t:=((x200.Asks&&((x200.Grant||(!(zl x200.Last (-1) 100)))||(!(zl x200.Long 0 30))))||((!x200.Asks)&&((decide (x200.Last≠0)) ||
    (decide (x200.Long≠0)))))) (fun hc338=>?_) (fun hc338=>?_)
  ·rw [iteT hc338] at hF253
   simp only [qd,qc,qe,qa,qs,B0,reduceIte,reduceEqDiff]
   have e339:=qf hF253
   subst e339
   have ho340:=hr206 _ rfl
   have hk341:=hk204
   rw [ho340] at hk341
   dsimp only [jnO] at hk341
   apply hR210
   have he:=qf hk341
   subst he
   simp only [qw,B0,reduceIte,reduceEqDiff]
   exact rfl
  rw [iteF hc338] at hF253
  simp only [qt,ql,B0,reduceIte,reduceEqDiff]
  have e342:=qf hF253
  exact hN208 _ _ _ e342.symm ⟨f331,f332,f333,hS337⟩ (f335) (f334)
 rintro _ fr344 h345 rfl ⟨f347,f348,f349,hS346⟩
 dsimp only [jnO] at hk204
 unfold qc2 at hk204
 simp only [qti,qd,qc,f347,qn,qb,Nat.reduceAdd,Nat.zero_add,Nat.add_zero,qu,qj,B0,reduceIte,reduceEqDiff]
 refine qh (v:=lst Vote.cells v_0.Led) rfl ?_
 obtain ⟨v350,hx351,hF352⟩:=qi hk204
 simp only [q79,f348,zb,B0,reduceIte,reduceEqDiff]
 refine jg rfl (qk zx (qk qp1 zd)) (qfv (fun b hb=>decide_eq_true hb) v_0.Led (g1:=101) (caps1:=[.ref [.int .i64
   (List.length v_0.Servers:Int)] 0]) rfl (fun a0=>some (xj a0 (List.length v_0.Servers:Int))) (fun W h hW a0 r hr=>qiq hW a0
   (List.length v_0.Servers:Int) r hr) v350 hx351) ?_
 simp only [js,qb,kt,qe,qa,qs,B0,reduceIte,reduceEqDiff]
 have he:=qf hF352
 subst he
 simp only [qw,B0,reduceIte,reduceEqDiff]
 exact rfl
end Go.Proofs.Ytpddolihbnfahaa.X
