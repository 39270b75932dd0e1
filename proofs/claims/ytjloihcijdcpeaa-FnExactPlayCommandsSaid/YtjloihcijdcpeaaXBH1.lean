/- The functions' code comes to what the plain functions say (1). -/
import Derived.Test.YtjloihcijdcpeaaXBF
import Derived.Test.YtjloihcijdcpeaaXBD
set_option linter.unusedVariables false
set_option linter.unusedSimpArgs false
set_option maxRecDepth 100000
namespace Go.Proofs.Ytjloihcijdcpeaa.X
open Go
open Nat (reduceEqDiff)
def Partition.R:Rep Partition:=fun x cs os=>∃ (v0:XV) (c0:List Obj) (v1:XV) (c1:List Obj),SlF cI 1 3 v0 x.Homes c0∧SlF cI 1 3 v1 x.InStep c1∧cs=[v0,v1,
  .int .i64 x.Leader,.int .i64 x.Epoch,.int .i64 x.Stamp]∧c0++(c1)=os
theorem Partition.RI {x:Partition}{v0:XV}{c0:List Obj}(h0:SlF cI 1 3 v0 x.Homes c0){v1:XV}{c1:List Obj}(h1:SlF cI 1 3 v1 x.InStep c1) : Partition.R x [v0,v1,
  .int .i64 x.Leader,.int .i64 x.Epoch,.int .i64 x.Stamp] (c0++(c1)):=⟨v0,c0,v1,c1,h0,h1,rfl,rfl⟩
theorem Partition.RO:RepOk E.sz Partition.R qj 5 where
 len:=fun {x cs os} H=>by
  obtain ⟨v0,c0,v1,c1,h0,h1,rfl,rfl⟩:=H
  rfl
 flen:=fun _=>rfl
 one:=fun {x cs os} H=>by
  obtain ⟨v0,c0,v1,c1,h0,h1,rfl,rfl⟩:=H
  exact (qt (SlF.one h0) (qt (SlF.one h1) (qt rfl (qt rfl (qt rfl zr)))))
 snap:=fun {x cs os h lo S} m H hS=>by
  obtain ⟨v0,c0,v1,c1,h0,h1,rfl,rfl⟩:=H
  have hS2:Sep h lo (c0++(c1++S)):=(by simpa only [List.append_assoc] using hS)
  exact (qk (SlF.snap h0 hS2 rfl (fun _=>rfl) (fun _=>rfl)) (qk (SlF.snap h1 (Sep.m1 hS2) rfl (fun _=>rfl) (fun _=>rfl)) (qk qs (qk qs
    (qk qs zg)))))
 cut:=fun {x cs os h lo n0 keep S} m H hS hge=>by
  obtain ⟨v0,c0,v1,c1,h0,h1,rfl,rfl⟩:=H
  have hS2:Sep h lo (c0++(c1++S)):=(by simpa only [List.append_assoc] using hS)
  exact (qk (SlF.cut h0 hS2 hge rfl (fun _=>rfl) (fun _=>rfl)) (qk (SlF.cut h1 (Sep.m1 hS2) hge rfl (fun _=>rfl) (fun _=>rfl)) (qk rfl (qk rfl
    (qk rfl zg)))))
 free:=fun {x cs os} H=>by
  obtain ⟨v0,c0,v1,c1,h0,h1,rfl,rfl⟩:=H
  exact (qt (SlF.free1 h0) (qt (SlF.free1 h1) (qt rfl (qt rfl (qt rfl zr)))))
 pf:=fun {x cs os} H=>by
  obtain ⟨v0,c0,v1,c1,h0,h1,rfl,rfl⟩:=H
  exact (j5 (SlF.pf h0 (fun _=>rfl)) (SlF.pf h1 (fun _=>rfl)))
def Command.R:Rep Command:=fun x cs os=>∃ (v5:XV) (c5:List Obj),SlF cI 1 3 v5 x.InStep c5∧cs=[.int .i64 x.Kind,.int .i64 x.Broker,.int .i64 x.Epoch,
  .int .i64 x.Part,.int .i64 x.Stamp,v5]∧c5=os
theorem Command.RI {x:Command}{v5:XV}{c5:List Obj}(h5:SlF cI 1 3 v5 x.InStep c5) : Command.R x [.int .i64 x.Kind,.int .i64 x.Broker,.int .i64 x.Epoch,
  .int .i64 x.Part,.int .i64 x.Stamp,v5] (c5):=⟨v5,c5,h5,rfl,rfl⟩
theorem Command.RO:RepOk E.sz Command.R zh 6 where
 len:=fun {x cs os} H=>by
  obtain ⟨v5,c5,h5,rfl,rfl⟩:=H
  rfl
 flen:=fun _=>rfl
 one:=fun {x cs os} H=>by
  obtain ⟨v5,c5,h5,rfl,rfl⟩:=H
  exact (qt rfl (qt rfl (qt rfl (qt rfl (qt rfl (qt (SlF.one h5) zr))))))
 snap:=fun {x cs os h lo S} m H hS=>by
  obtain ⟨v5,c5,h5,rfl,rfl⟩:=H
  have hS2:Sep h lo (c5++S):=(by simpa only [List.append_assoc] using hS)
  exact (qk qs (qk qs (qk qs (qk qs (qk qs (qk (SlF.snap h5 hS2 rfl (fun _=>rfl) (fun _=>rfl)) zg))))))
 cut:=fun {x cs os h lo n0 keep S} m H hS hge=>by
  obtain ⟨v5,c5,h5,rfl,rfl⟩:=H
  have hS2:Sep h lo (c5++S):=(by simpa only [List.append_assoc] using hS)
  exact (qk rfl (qk rfl (qk rfl (qk rfl (qk rfl (qk (SlF.cut h5 hS2 hge rfl (fun _=>rfl) (fun _=>rfl)) zg))))))
 free:=fun {x cs os} H=>by
  obtain ⟨v5,c5,h5,rfl,rfl⟩:=H
  exact (qt rfl (qt rfl (qt rfl (qt rfl (qt rfl (qt (SlF.free1 h5) zr))))))
 pf:=fun {x cs os} H=>by
  obtain ⟨v5,c5,h5,rfl,rfl⟩:=H
  exact (SlF.pf h5 (fun _=>rfl))
theorem qda {W:Nat→Bool}{h:Heap} (hW:∀ b,
  (geL h.length) b→W b=true) (n_0:Int) (low_1:Int) (high_2:Int) (r:Bool) (hF:some (jk n_0 low_1 high_2)=some r) : Ret E W 46 [.int .i64 n_0,
  .int .i64 low_1,.int .i64 high_2] h (fun v h'=>cut h.length h' E.sz false 9 v=some (.bool r)):=by
 refine Ret.of (fn:=x46) rfl (Run.of ?_)
 unfold jk at hF
 have zf0:zc [.int .i64 n_0,.int .i64 low_1,.int .i64 high_2] 0 = .int .i64 n_0:=rfl
 have zf1:zc [.int .i64 n_0,.int .i64 low_1,.int .i64 high_2] 1 = .int .i64 low_1:=rfl
 have zf2:zc [.int .i64 n_0,.int .i64 low_1,.int .i64 high_2] 2 = .int .i64 high_2:=rfl
 generalize zc [.int .i64 n_0,.int .i64 low_1,.int .i64 high_2]=fr0 at zf0 zf1 zf2 ⊢
 have hS:Sep h (geL h.length) []:=Sep.nil h
 simp only [x46,qd,qc,qe,qa,q0f,zf0,zf1,qp,qb,qcp,B0,reduceIte,reduceEqDiff]
 refine zy 4 (fun fr' h'=>Sep h' (geL h.length) ([])∧fr' 14 = .bool ((decide (low_1≤n_0))&&(decide (n_0≤high_2)))) (fun Q1 hN2=>?_) ?_
 ·simp only [List.take_succ_cons,List.take_zero]
  simp only [qf (g:=10),B0,reduceIte,reduceEqDiff]
  refine zd (t:=(decide (low_1≤n_0))) (fun hg3=>?_) (fun hg3=>?_)
  ·simp only [hg3,qf (g:=10),q9,zf0,qe,zf2,qp,qb,q68,qu,zk,qa,qn,B0,reduceIte,reduceEqDiff]
   exact hN2 _ _ ⟨hS,by rw [yc hg3]; simp only [B0,reduceIte,reduceEqDiff]⟩
  ·simp only [hg3,qf (g:=10),zv,qu,qb,zj,qa,qn,B0,reduceIte,reduceEqDiff]
   exact hN2 _ _ ⟨hS,by rw [yb hg3]; simp only [B0,reduceIte,reduceEqDiff]⟩
 rintro fr4 h6 ⟨hS7,f5⟩
 simp only [List.drop_succ_cons,List.drop_zero]
 simp only [f5,qe,qa,qv,B0,reduceIte,reduceEqDiff]
 have he:=qh hF
 subst he
 simp only [qw,B0,reduceIte,reduceEqDiff]
 exact rfl
theorem qip {W:Nat→Bool}{h:Heap} (hW:∀ b,
  (geL h.length) b→W b=true) (brokers_0:Int) (r:Control) (hF:qao brokers_0=some r) : Ret E W 47 [.int .i64 brokers_0] h
  (fun v h'=>∃ rv0_0 rc0_0 rv0_1 rc0_1,v = .agg [rv0_0,rv0_1,
  .int .i64 r.Next]∧SlF qi 3 86 rv0_0 r.Brokers rc0_0∧SlN Partition.R 5 39 rv0_1 r.Parts rc0_1∧Sep h' (geL h.length) (rc0_0++(rc0_1++([])))):=by
 refine Ret.of (fn:=x47) rfl (Run.of ?_)
 unfold qao at hF
 have zf0:zc [.int .i64 brokers_0] 0 = .int .i64 brokers_0:=rfl
 generalize zc [.int .i64 brokers_0]=fr0 at zf0 ⊢
 have hS:Sep h (geL h.length) []:=Sep.nil h
 simp only [x47,qd,qc,jv,B0,reduceIte,reduceEqDiff]
 refine jc hS (fun b1 h2 hS3=>?_)
 simp only [qa,q2v,qd,qc,run_build,evp,B0,reduceIte,reduceEqDiff]
 refine qg (v := .agg [.nil,.nil,.int .i64 1]) rfl ?_
 simp only [jv,B0,reduceIte,reduceEqDiff]
 refine jc hS3 (fun b5 h6 hS7=>?_)
 simp only [zn,B0,reduceIte,reduceEqDiff]
 refine zi (us:=[.nil,.nil,.int .i64 1]) rfl (cs':=[.nil,.nil,.int .i64 1]) hS7 hW rfl rfl (nle rfl) rfl (fun h9 hS10=>?_)
 simp only [qa,q1x,qd,qc,zf0,qe,B0,reduceIte,reduceEqDiff]
 obtain ⟨oc23,hX25,hk26⟩:=jh hF
 simp only [qzt]
 refine qc6 (σ:=Control) (fun i21 s61=>xz i21 s61) (fun s fr' h'=>∃ v18 c19,
   fr' 2 = .ptr b1 0∧fr' 3 = .ptr b5 0∧SlF qi 3 86 v18 s.Brokers c19∧Sep h' (geL h.length) ([Blk1 b1 [.nil,.nil,.int .i64 0] 29]++([Blk1 b5 [v18,.nil,
   .int .i64 s.Next] 29]++(c19++([]))))) hX25 ⟨.nil,[],rfl,rfl,SlF.nil,((Sep.m1 hS10) : Sep _ (geL h.length) ([Blk1 b1 [.nil,.nil,
   .int .i64 0] 29]++([Blk1 b5 [.nil,.nil,.int .i64 1] 29]++([]))))⟩ (by simp only [B0,reduceIte,reduceEqDiff]) (by simp only [B0,reduceIte,
   reduceEqDiff]) (fun _ _ _ h=>h) rfl rfl (fun _ _ _ _ h=>h) (fun _ _ _ _ h=>h) (fun _ _ _ _ h=>h) (by decide) ?_ ?_
 ·rintro i21 s16 fr35 h36 hx40 ⟨v18,c19,f38,f39,hv20,hS37⟩ f41 f42 oc24 hF27 hr28 Q29 hN30 hB34 hK31 hR32 hE33
  unfold xz at hF27
  simp only [qxd,qc,f39,qo,qb,Nat.reduceAdd,Nat.zero_add,Nat.add_zero,za,qm,B0,reduceIte,reduceEqDiff]
  refine qg (v:=v18) ((ji (Sep.bk _ _ _ (Sep.m1 hS37))).trans rfl) ?_
  simp only [run_build,evp,B0,reduceIte,reduceEqDiff]
  refine qg (v := .agg [.int .i64 0,.int .i64 0,.bool true]) rfl ?_
  simp only [y3,evp,B0,reduceIte,reduceEqDiff]
  refine yf (n:=3) (f:=qi) [(Broker.mk 0 0 true)] hS37 rfl rfl (fun v43 c44 h45 hv46 hS47=>?_)
  simp only [qa5,B0,reduceIte,reduceEqDiff]
  obtain ⟨l49,hx50,hF51⟩:=ql hF27
  refine uq (f:=qi) hv20 (Sep.m3 hS47) hW (fun _=>rfl) (fun _=>rfl) (SlF.first hv46 hS47 (fun _=>rfl)) hx50 (fun v52 c53 h54 hv55 hS56=>?_)
  simp only [f39,qo,qb,Nat.reduceAdd,Nat.zero_add,Nat.add_zero,za,zn,B0,reduceIte,reduceEqDiff]
  refine zi (us:=[v52]) (ko (SlF.one hv55)) (cs':=[v52,.nil,
    .int .i64 s16.Next]) (Sep.m3 hS56) hW rfl (qt (SlF.one hv55) zr) (nle rfl) rfl (fun h58 hS59=>?_)
  simp only [qa,qn,B0,reduceIte,reduceEqDiff]
  have e60:=qh hF51
  exact hN30 _ _ _ e60.symm ⟨v52,c53,f38,f39,hv55,(Sep.m2 (Sep.m1 (Sep.m1 (Sep.dc (Sep.m2 hS59)))))⟩ (f41) (f42)
 rintro s62 fr67 h68 rfl ⟨v64,c65,f70,f71,hv66,hS69⟩
 dsimp only [jnO] at hk26
 unfold qeq at hk26
 simp only [qd,qc,f71,qm,B0,reduceIte,reduceEqDiff]
 refine qg (v := .agg [v64,.nil,.int .i64 s62.Next]) ((z7 (Sep.bk _ _ _ (Sep.m1 hS69))).trans rfl) ?_
 simp only [f70,zn,B0,reduceIte,reduceEqDiff]
 refine zi (us:=[v64,.nil,.int .i64 s62.Next]) rfl (cs':=[v64,.nil,
   .int .i64 s62.Next]) hS69 hW rfl (qt (SlF.one hv66) (qt rfl (qt rfl zr))) (nle rfl) rfl (fun h72 hS73=>?_)
 simp only [qa,qv,B0,reduceIte,reduceEqDiff]
 have he:=qh hk26
 subst he
 refine qb8 (bb:=b1) (oo:=0) (v := .agg [v64,.nil,.int .i64 s62.Next]) (by simp only [f70,B0,reduceIte,reduceEqDiff]) ((z7 (Sep.bk _ _ _ hS73)).trans rfl) ?_
 exact ⟨v64,c65,.nil,[],by first | trivial | rfl,hv66,SlN.nil,((Sep.dc ((Sep.dc (hS73)))) : Sep _ (geL h.length) (c65++([])))⟩
theorem qiq {W:Nat→Bool}{h:Heap} (hW:∀ b,
  (geL h.length) b→W b=true) (list_0:List Int) (many_1:Int) (r:Bool) (hF:qam list_0 many_1=some r) : Ret E W 75 [lst cI list_0,
  .int .i64 many_1] h (fun v h'=>cut h.length h' E.sz false 9 v=some (.bool r)):=by
 refine Ret.of (fn:=x75) rfl (Run.of ?_)
 unfold qam at hF
 have zf0:zc [lst cI list_0,.int .i64 many_1] 0=lst cI list_0:=rfl
 have zf1:zc [lst cI list_0,.int .i64 many_1] 1 = .int .i64 many_1:=rfl
 generalize zc [lst cI list_0,.int .i64 many_1]=fr0 at zf0 zf1 ⊢
 have hS:Sep h (geL h.length) []:=Sep.nil h
 simp only [x75,qd,qc,qe,qa,q4b,zf0,zo,qb,zt,B0,reduceIte,reduceEqDiff]
 obtain ⟨oc3,hX5,hk6⟩:=jh hF
 simp only [qz0]
 refine ye (σ:=Unit) list_0 (fun i1 x2 _=>qan list_0 many_1 i1 x2 )
   (fun s fr' h'=>fr' 0=lst cI list_0∧fr' 1 = .int .i64 many_1∧fr' 7=lst cI list_0∧Sep h' (geL h.length) ([])) hX5 ⟨zf0,zf1,rfl,hS⟩ (by simp only [B0,reduceIte,
   reduceEqDiff]) (by simp only [B0,reduceIte,reduceEqDiff]) (fun _ _ _ h=>h) rfl rfl (fun _ _ _ _ h=>h) (fun _ _ _ _ h=>h) (fun _ _ _ _ h=>h) (by decide) ?_ ?_
 ·rintro i1 x2 _ fr15 h16 hx21 ⟨f18,f19,f20,hS17⟩ f22 f23 oc4 hF7 hr8 Q9 hN10 hB14 hK11 hR12 hE13
  unfold qan at hF7
  simp only [qzl,qd,qc,f22,qe,f20,zw,B0,reduceIte,reduceEqDiff]
  refine qg (v := .ref (cI x2) 0) (yg hx21 rfl) ?_
  simp only [qm,B0,reduceIte,reduceEqDiff]
  refine qg (v := .int .i64 x2) rfl ?_
  simp only [qe,qa,q1g,qd,qc,f19,qp,qb,qh1,zf,B0,reduceIte,reduceEqDiff]
  refine ja rfl (qk qs (qk qs (qk qs zg))) (qda (fun b hb=>decide_eq_true hb) x2 0 (IntKind.wrap .i64 (many_1 - 1)) _ rfl) ?_
  simp only [jl,qb,kd,qe,B0,reduceIte,reduceEqDiff]
  obtain ⟨v27,hx28,hF29⟩:=ql hF7
  refine zy 12 (fun fr' h'=>Sep h' (geL h.length) ([])∧fr' 31 = .bool v27∧fr' 0=lst cI list_0∧fr' 1 = .int .i64 many_1∧fr' 7=lst cI list_0∧fr' 8 = .int .i64
    (List.length list_0:Int)∧fr' 9 = .int .i64 (i1:Int)) (fun Q24 hN25=>?_) ?_
  ·simp only [List.take_succ_cons,List.take_zero]
   simp only [qf (g:=19),B0,reduceIte,reduceEqDiff]
   refine zd (t:=(!(jk x2 0 (IntKind.wrap .i64 (many_1 - 1))))) (fun hg26=>?_) (fun hg26=>?_)
   ·rw [iteT hg26] at hx28
    simp only [hg26,qf (g:=19),z4,qf (g:=22),qey,qu,qb,zk,qa,qn,B0,reduceIte,reduceEqDiff]
    have e30:=qh hx28
    exact hN25 _ _ ⟨hS17,by rw [←e30]; simp only [B0,reduceIte,reduceEqDiff],f18,f19,f20,f23,f22⟩
   ·rw [iteF hg26] at hx28
    simp only [hg26,qf (g:=19),qz,qe,qp,qb,qg7,B0,reduceIte,reduceEqDiff]
    obtain ⟨v34,hx35,hF36⟩:=ql hx28
    refine zy 8 (fun fr' h'=>Sep h' (geL h.length)
      ([])∧fr' 30 = .bool v34∧fr' 0=lst cI list_0∧fr' 1 = .int .i64 many_1∧fr' 7=lst cI list_0∧fr' 8 = .int .i64
      (List.length list_0:Int)∧fr' 9 = .int .i64 (i1:Int)∧fr' 19 = .bool (!(jk x2 0 (IntKind.wrap .i64 (many_1 - 1))))) (fun Q31 hN32=>?_) ?_
    ·simp only [List.take_succ_cons,List.take_zero]
     simp only [qf (g:=22),B0,reduceIte,reduceEqDiff]
     refine zd (t:=(decide ((0:Int)<(i1:Int)))) (fun hg33=>?_) (fun hg33=>?_)
     ·rw [iteT hg33] at hx35
      obtain ⟨x37,hx38,hF39⟩:=ql hx35
      simp only [hg33,qf (g:=22),q9,f18,qe,qp,qb,qh1,zw,B0,reduceIte,reduceEqDiff]
      refine qg (v := .ref (cI x37) 0) (kf hx38 rfl) ?_
      simp only [hg33,qf (g:=22),q9,qm,B0,reduceIte,reduceEqDiff]
      refine qg (v := .int .i64 x37) rfl ?_
      simp only [hg33,qf (g:=22),q9,qe,qp,qb,qcp,hg26,qf (g:=19),qz,qu,zk,qa,qn,
        B0,reduceIte,reduceEqDiff]
      have e40:=qh hF39
      exact hN32 _ _ ⟨hS17,by rw [←e40]; simp only [B0,reduceIte,reduceEqDiff],f18,f19,f20,f23,f22,by simp only [hg26,B0,reduceIte,reduceEqDiff]⟩
     ·rw [iteF hg33] at hx35
      simp only [hg33,qf (g:=22),zv,hg26,qf (g:=19),qz,qu,qb,zj,qa,qn,B0,reduceIte,
        reduceEqDiff]
      have e41:=qh hx35
      exact hN32 _ _ ⟨hS17,by rw [←e41]; simp only [B0,reduceIte,reduceEqDiff],f18,f19,f20,f23,f22,by simp only [hg26,B0,reduceIte,reduceEqDiff]⟩
    rintro fr42 h50 ⟨hS51,f43,f44,f45,f46,f47,f48,f49⟩
    simp only [List.drop_succ_cons,List.drop_zero]
    simp only [f49,hg26,qu,qb,zj,f43,qa,qn,B0,reduceIte,reduceEqDiff]
    have e52:=qh hF36
    exact hN25 _ _ ⟨hS51,by rw [←e52]; simp only [B0,reduceIte,reduceEqDiff],f44,f45,f46,f47,f48⟩
  rintro fr53 h60 ⟨hS61,f54,f55,f56,f57,f58,f59⟩
  simp only [List.drop_succ_cons,List.drop_zero]
  simp only [qa,f54,qx,B0,reduceIte,reduceEqDiff]
  refine qr (t:=v27) (fun hc62=>?_) (fun hc62=>?_)
  ·rw [iteT hc62] at hF29
   simp only [qd,qc,qe,qa,qv,B0,reduceIte,reduceEqDiff]
   have e63:=qh hF29
   subst e63
   have ho64:=hr8 _ rfl
   have hk65:=hk6
   rw [ho64] at hk65
   dsimp only [jnO] at hk65
   apply hR12
   have he:=qh hk65
   subst he
   simp only [qw,B0,reduceIte,reduceEqDiff]
   exact rfl
  rw [iteF hc62] at hF29
  simp only [q8,qn,B0,reduceIte,reduceEqDiff]
  have e66:=qh hF29
  exact hN10 _ _ _ e66.symm ⟨f55,f56,f57,hS61⟩ (f59) (f58)
 rintro _ fr68 h69 rfl ⟨f71,f72,f73,hS70⟩
 dsimp only [jnO] at hk6
 unfold qer at hk6
 simp only [qd,qc,qe,qa,qv,B0,reduceIte,reduceEqDiff]
 have he:=qh hk6
 subst he
 simp only [qw,B0,reduceIte,reduceEqDiff]
 exact rfl
theorem qjb {W:Nat→Bool}{h:Heap} (hW:∀ b,
  (geL h.length) b→W b=true) (v_0:Command) (v_1:Int) (r:Bool) (hF:qbh v_0 v_1=some r) : Ret E W 48 [.agg [.int .i64 v_0.Kind,.int .i64 v_0.Broker,
  .int .i64 v_0.Epoch,.int .i64 v_0.Part,.int .i64 v_0.Stamp,lst cI v_0.InStep],.int .i64 v_1] h (fun v h'=>cut h.length h' E.sz false 9 v=some (.bool r)):=by
 refine Ret.of (fn:=x48) rfl (Run.of ?_)
 unfold qbh at hF
 have zf0:zc [.agg [.int .i64 v_0.Kind,.int .i64 v_0.Broker,.int .i64 v_0.Epoch,.int .i64 v_0.Part,.int .i64 v_0.Stamp,lst cI v_0.InStep],
   .int .i64 v_1] 0 = .agg [.int .i64 v_0.Kind,.int .i64 v_0.Broker,.int .i64 v_0.Epoch,.int .i64 v_0.Part,.int .i64 v_0.Stamp,lst cI v_0.InStep]:=rfl
 have zf1:zc [.agg [.int .i64 v_0.Kind,.int .i64 v_0.Broker,.int .i64 v_0.Epoch,.int .i64 v_0.Part,.int .i64 v_0.Stamp,lst cI v_0.InStep],
   .int .i64 v_1] 1 = .int .i64 v_1:=rfl
 generalize zc [.agg [.int .i64 v_0.Kind,.int .i64 v_0.Broker,.int .i64 v_0.Epoch,.int .i64 v_0.Part,.int .i64 v_0.Stamp,lst cI v_0.InStep],
   .int .i64 v_1]=fr0 at zf0 zf1 ⊢
 have hS:Sep h (geL h.length) []:=Sep.nil h
 simp only [x48,qd,qc,jm,zf0,B0,reduceIte,reduceEqDiff]
 refine z8 (cs:=[.int .i64 v_0.Kind,.int .i64 v_0.Broker,.int .i64 v_0.Epoch,.int .i64 v_0.Part,.int .i64 v_0.Stamp,
   lst cI v_0.InStep]) hS rfl rfl rfl (fun b1 h2 hS3=>?_)
 simp only [qe,qa,B0,reduceIte,reduceEqDiff]
 refine zu hS3 hW (by simp only [B0,reduceIte,reduceEqDiff]) (fun h5 hS6=>?_)
 simp only [zx,qpb,qd,qc,qo,qb,Nat.reduceAdd,Nat.zero_add,Nat.add_zero,qq,qm,B0,reduceIte,reduceEqDiff]
 refine qg (v := .int .i64 v_0.Broker) rfl ?_
 simp only [zf1,qe,qp,qb,qh1,zf,B0,reduceIte,reduceEqDiff]
 refine ja rfl (qk qs (qk qs (qk qs zg))) (qda (fun b hb=>decide_eq_true hb) v_0.Broker 0 (IntKind.wrap .i64 (v_1 - 1)) _ rfl) ?_
 simp only [jl,qb,kd,qe,B0,reduceIte,reduceEqDiff]
 refine zy 5 (fun fr' h'=>Sep h' (geL h.length) ([])∧fr' 17 = .bool ((!(jk v_0.Broker 0 (IntKind.wrap .i64 (v_1 - 1)))) ||
   (!(jk v_0.Epoch 0 1000)))∧fr' 1 = .int .i64 v_1∧fr' 2 = .ref [.int .i64 v_0.Kind,.int .i64 v_0.Broker,.int .i64 v_0.Epoch,.int .i64 v_0.Part,
   .int .i64 v_0.Stamp,lst cI v_0.InStep] 0) (fun Q7 hN8=>?_) ?_
 ·simp only [List.take_succ_cons,List.take_zero]
  simp only [qf (g:=12),B0,reduceIte,reduceEqDiff]
  refine zd (t:=(!(jk v_0.Broker 0 (IntKind.wrap .i64 (v_1 - 1))))) (fun hg9=>?_) (fun hg9=>?_)
  ·simp only [hg9,qf (g:=12),z4,qu,qb,zk,qa,qn,B0,reduceIte,reduceEqDiff]
   exact hN8 _ _ ⟨hS6,by rw [orT hg9]; simp only [B0,reduceIte,reduceEqDiff],zf1,rfl⟩
  ·simp only [hg9,qf (g:=12),qz,qo,qb,Nat.reduceAdd,Nat.zero_add,Nat.add_zero,qq,qm,B0,reduceIte,reduceEqDiff]
   refine qg (v := .int .i64 v_0.Epoch) rfl ?_
   simp only [hg9,qf (g:=12),qz,zf,B0,reduceIte,reduceEqDiff]
   refine ja rfl (qk qs (qk qs (qk qs zg))) (qda (fun b hb=>decide_eq_true hb) v_0.Epoch 0 1000 _ rfl) ?_
   simp only [hg9,qf (g:=12),qz,jl,qb,kd,qu,zj,qa,qn,B0,reduceIte,reduceEqDiff]
   exact hN8 _ _ ⟨hS6,by rw [orF hg9]; simp only [B0,reduceIte,reduceEqDiff],zf1,rfl⟩
 rintro fr10 h14 ⟨hS15,f11,f12,f13⟩
 simp only [List.drop_succ_cons,List.drop_zero]
 simp only [f11,qe,B0,reduceIte,reduceEqDiff]
 refine zy 5 (fun fr' h'=>Sep h' (geL h.length) ([])∧fr' 23 = .bool (((!(jk v_0.Broker 0 (IntKind.wrap .i64 (v_1 - 1))))||(!(jk v_0.Epoch 0 1000))) ||
   (!(jk v_0.Part 0 1000)))∧fr' 1 = .int .i64 v_1∧fr' 2 = .ref [.int .i64 v_0.Kind,.int .i64 v_0.Broker,.int .i64 v_0.Epoch,.int .i64 v_0.Part,.int .i64 v_0.Stamp,
   lst cI v_0.InStep] 0) (fun Q16 hN17=>?_) ?_
 ·simp only [List.take_succ_cons,List.take_zero]
  simp only [qf (g:=18),B0,reduceIte,reduceEqDiff]
  refine zd (t:=((!(jk v_0.Broker 0 (IntKind.wrap .i64 (v_1 - 1))))||(!(jk v_0.Epoch 0 1000)))) (fun hg18=>?_) (fun hg18=>?_)
  ·simp only [hg18,qf (g:=18),z4,qu,qb,zk,qa,qn,B0,reduceIte,reduceEqDiff]
   exact hN17 _ _ ⟨hS15,by rw [orT hg18]; simp only [B0,reduceIte,reduceEqDiff],f12,f13⟩
  ·simp only [hg18,qf (g:=18),qz,f13,qo,qb,Nat.reduceAdd,Nat.zero_add,Nat.add_zero,qq,qm,B0,reduceIte,reduceEqDiff]
   refine qg (v := .int .i64 v_0.Part) rfl ?_
   simp only [hg18,qf (g:=18),qz,zf,B0,reduceIte,reduceEqDiff]
   refine ja rfl (qk qs (qk qs (qk qs zg))) (qda (fun b hb=>decide_eq_true hb) v_0.Part 0 1000 _ rfl) ?_
   simp only [hg18,qf (g:=18),qz,jl,qb,kd,qu,zj,qa,qn,B0,reduceIte,reduceEqDiff]
   exact hN17 _ _ ⟨hS15,by rw [orF hg18]; simp only [B0,reduceIte,reduceEqDiff],f12,f13⟩
 rintro fr19 h23 ⟨hS24,f20,f21,f22⟩
 simp only [List.drop_succ_cons,List.drop_zero]
 simp only [f20,qe,B0,reduceIte,reduceEqDiff]
 refine zy 5 (fun fr' h'=>Sep h' (geL h.length) ([])∧fr' 29 = .bool ((((!(jk v_0.Broker 0 (IntKind.wrap .i64 (v_1 - 1))))||(!(jk v_0.Epoch 0 1000))) ||
   (!(jk v_0.Part 0 1000)))||(!(jk v_0.Stamp 0 1000)))∧fr' 1 = .int .i64 v_1∧fr' 2 = .ref [.int .i64 v_0.Kind,.int .i64 v_0.Broker,.int .i64 v_0.Epoch,
   .int .i64 v_0.Part,.int .i64 v_0.Stamp,lst cI v_0.InStep] 0) (fun Q25 hN26=>?_) ?_
 ·simp only [List.take_succ_cons,List.take_zero]
  simp only [qf (g:=24),B0,reduceIte,reduceEqDiff]
  refine zd (t:=(((!(jk v_0.Broker 0 (IntKind.wrap .i64 (v_1 - 1))))||(!(jk v_0.Epoch 0 1000)))||(!(jk v_0.Part 0 1000)))) (fun hg27=>?_)
    (fun hg27=>?_)
  ·simp only [hg27,qf (g:=24),z4,qu,qb,zk,qa,qn,B0,reduceIte,reduceEqDiff]
   exact hN26 _ _ ⟨hS24,by rw [orT hg27]; simp only [B0,reduceIte,reduceEqDiff],f21,f22⟩
  ·simp only [hg27,qf (g:=24),qz,f22,qo,qb,Nat.reduceAdd,Nat.zero_add,Nat.add_zero,qq,qm,B0,reduceIte,reduceEqDiff]
   refine qg (v := .int .i64 v_0.Stamp) rfl ?_
   simp only [hg27,qf (g:=24),qz,zf,B0,reduceIte,reduceEqDiff]
   refine ja rfl (qk qs (qk qs (qk qs zg))) (qda (fun b hb=>decide_eq_true hb) v_0.Stamp 0 1000 _ rfl) ?_
   simp only [hg27,qf (g:=24),qz,jl,qb,kd,qu,zj,qa,qn,B0,reduceIte,reduceEqDiff]
   exact hN26 _ _ ⟨hS24,by rw [orF hg27]; simp only [B0,reduceIte,reduceEqDiff],f21,f22⟩
 rintro fr28 h32 ⟨hS33,f29,f30,f31⟩
 simp only [List.drop_succ_cons,List.drop_zero]
 simp only [f29,qe,B0,reduceIte,reduceEqDiff]
 obtain ⟨v37,hx38,hF39⟩:=ql hF
 refine zy 6 (fun fr' h'=>Sep h' (geL h.length) ([])∧fr' 36 = .bool v37∧fr' 2 = .ref [.int .i64 v_0.Kind,.int .i64 v_0.Broker,.int .i64 v_0.Epoch,.int .i64 v_0.Part,
   .int .i64 v_0.Stamp,lst cI v_0.InStep] 0) (fun Q34 hN35=>?_) ?_
 ·simp only [List.take_succ_cons,List.take_zero]
  simp only [qf (g:=30),B0,reduceIte,reduceEqDiff]
  refine zd (t:=((((!(jk v_0.Broker 0 (IntKind.wrap .i64 (v_1 - 1))))||(!(jk v_0.Epoch 0 1000)))||(!(jk v_0.Part 0 1000))) ||
    (!(jk v_0.Stamp 0 1000)))) (fun hg36=>?_) (fun hg36=>?_)
  ·rw [iteT hg36] at hx38
   simp only [hg36,qf (g:=30),z4,qu,qb,zk,qa,qn,B0,reduceIte,reduceEqDiff]
   have e40:=qh hx38
   exact hN35 _ _ ⟨hS33,by rw [←e40]; simp only [B0,reduceIte,reduceEqDiff],f31⟩
  ·rw [iteF hg36] at hx38
   simp only [hg36,qf (g:=30),qz,f31,qo,qb,Nat.reduceAdd,Nat.zero_add,Nat.add_zero,qq,qm,B0,reduceIte,reduceEqDiff]
   refine qg (v:=lst cI v_0.InStep) rfl ?_
   obtain ⟨v41,hx42,hF43⟩:=ql hx38
   simp only [hg36,qf (g:=30),qz,f30,qe,zf,B0,reduceIte,reduceEqDiff]
   refine ja rfl (qk zm (qk qs zg)) (qiq (fun b hb=>decide_eq_true hb) v_0.InStep v_1 v41 hx42) ?_
   simp only [hg36,qf (g:=30),qz,jl,qb,kd,qu,zj,qa,qn,B0,reduceIte,reduceEqDiff]
   have e44:=qh hF43
   exact hN35 _ _ ⟨hS33,by rw [←e44]; simp only [B0,reduceIte,reduceEqDiff],f31⟩
 rintro fr45 h48 ⟨hS49,f46,f47⟩
 simp only [List.drop_succ_cons,List.drop_zero]
 simp only [qa,f46,qx,B0,reduceIte,reduceEqDiff]
 refine qr (t:=v37) (fun hc50=>?_) (fun hc50=>?_)
 ·rw [iteT hc50] at hF39
  simp only [qd,qc,qe,qa,qv,B0,reduceIte,reduceEqDiff]
  have he:=qh hF39
  subst he
  simp only [qw,B0,reduceIte,reduceEqDiff]
  exact rfl
 rw [iteF hc50] at hF39
 simp only [q8,qsk,qd,qc,f47,qo,qb,Nat.reduceAdd,Nat.zero_add,Nat.add_zero,qq,qm,B0,reduceIte,reduceEqDiff]
 refine qg (v := .int .i64 v_0.Epoch) rfl ?_
 simp only [qp,qb,je,qe,B0,reduceIte,reduceEqDiff]
 refine zy 4 (fun fr' h'=>Sep h' (geL h.length) ([])∧fr' 44 = .bool ((decide (v_0.Epoch=0))&&(decide (v_0.Stamp=0)))∧fr' 2 = .ref [.int .i64 v_0.Kind,
   .int .i64 v_0.Broker,.int .i64 v_0.Epoch,.int .i64 v_0.Part,.int .i64 v_0.Stamp,lst cI v_0.InStep] 0) (fun Q51 hN52=>?_) ?_
 ·simp only [List.take_succ_cons,List.take_zero]
  simp only [qf (g:=40),B0,reduceIte,reduceEqDiff]
  refine zd (t:=(decide (v_0.Epoch=0))) (fun hg53=>?_) (fun hg53=>?_)
  ·simp only [hg53,qf (g:=40),q9,f47,qo,qb,Nat.reduceAdd,Nat.zero_add,Nat.add_zero,qq,qm,B0,reduceIte,reduceEqDiff]
   refine qg (v := .int .i64 v_0.Stamp) rfl ?_
   simp only [hg53,qf (g:=40),q9,qp,qb,je,qu,zk,qa,qn,B0,reduceIte,reduceEqDiff]
   exact hN52 _ _ ⟨hS49,by rw [yc hg53]; simp only [B0,reduceIte,reduceEqDiff],f47⟩
  ·simp only [hg53,qf (g:=40),zv,qu,qb,zj,qa,qn,B0,reduceIte,reduceEqDiff]
   exact hN52 _ _ ⟨hS49,by rw [yb hg53]; simp only [B0,reduceIte,reduceEqDiff],f47⟩
 rintro fr54 h57 ⟨hS58,f55,f56⟩
 simp only [List.drop_succ_cons,List.drop_zero]
 simp only [f55,qe,B0,reduceIte,reduceEqDiff]
 refine zy 5 (fun fr' h'=>Sep h' (geL h.length) ([])∧fr' 50 = .bool (((decide (v_0.Epoch=0))&&(decide (v_0.Stamp=0)))&&(decide
   ((List.length v_0.InStep:Int)=0)))∧fr' 2 = .ref [.int .i64 v_0.Kind,.int .i64 v_0.Broker,.int .i64 v_0.Epoch,.int .i64 v_0.Part,.int .i64 v_0.Stamp,
   lst cI v_0.InStep] 0) (fun Q59 hN60=>?_) ?_
 ·simp only [List.take_succ_cons,List.take_zero]
  simp only [qf (g:=45),B0,reduceIte,reduceEqDiff]
  refine zd (t:=((decide (v_0.Epoch=0))&&(decide (v_0.Stamp=0)))) (fun hg61=>?_) (fun hg61=>?_)
  ·simp only [hg61,qf (g:=45),q9,f56,qo,qb,Nat.reduceAdd,Nat.zero_add,Nat.add_zero,qq,qm,B0,reduceIte,reduceEqDiff]
   refine qg (v:=lst cI v_0.InStep) rfl ?_
   simp only [hg61,qf (g:=45),q9,zo,qb,zt,qp,je,qu,zk,qa,qn,B0,reduceIte,reduceEqDiff]
   exact hN60 _ _ ⟨hS58,by rw [yc hg61]; simp only [B0,reduceIte,reduceEqDiff],f56⟩
  ·simp only [hg61,qf (g:=45),zv,qu,qb,zj,qa,qn,B0,reduceIte,reduceEqDiff]
   exact hN60 _ _ ⟨hS58,by rw [yb hg61]; simp only [B0,reduceIte,reduceEqDiff],f56⟩
 rintro fr62 h65 ⟨hS66,f63,f64⟩
 simp only [List.drop_succ_cons,List.drop_zero]
 simp only [f63,qe,qa,qtc,qd,qc,f64,qo,qb,Nat.reduceAdd,Nat.zero_add,Nat.add_zero,qq,qm,B0,reduceIte,reduceEqDiff]
 refine qg (v := .int .i64 v_0.Kind) rfl ?_
 simp only [qa,qtv,jy,qp6,qd,qc,qp,qb,je,qe,qom,qx,B0,reduceIte,reduceEqDiff]
 refine qr (t:=(decide (v_0.Kind=1))) (fun hc67=>?_) (fun hc67=>?_)
 ·rw [iteT hc67] at hF39
  simp only [q3r,qd,qc,qe,B0,reduceIte,reduceEqDiff]
  refine zy 4 (fun fr' h'=>Sep h' (geL h.length) ([])∧fr' 60 = .bool ((((decide (v_0.Epoch=0))&&(decide (v_0.Stamp=0)))&&(decide
    ((List.length v_0.InStep:Int)=0)))&&(decide (v_0.Part=0)))) (fun Q68 hN69=>?_) ?_
  ·simp only [List.take_succ_cons,List.take_zero]
   simp only [qf (g:=56),B0,reduceIte,reduceEqDiff]
   refine zd (t:=(((decide (v_0.Epoch=0))&&(decide (v_0.Stamp=0)))&&(decide ((List.length v_0.InStep:Int)=0)))) (fun hg70=>?_) (fun hg70=>?_)
   ·simp only [hg70,qf (g:=56),q9,f64,qo,qb,Nat.reduceAdd,Nat.zero_add,Nat.add_zero,qq,qm,B0,reduceIte,reduceEqDiff]
    refine qg (v := .int .i64 v_0.Part) rfl ?_
    simp only [hg70,qf (g:=56),q9,qp,qb,je,qu,zk,qa,qn,B0,reduceIte,reduceEqDiff]
    exact hN69 _ _ ⟨hS66,by rw [yc hg70]; simp only [B0,reduceIte,reduceEqDiff]⟩
   ·simp only [hg70,qf (g:=56),zv,qu,qb,zj,qa,qn,B0,reduceIte,reduceEqDiff]
    exact hN69 _ _ ⟨hS66,by rw [yb hg70]; simp only [B0,reduceIte,reduceEqDiff]⟩
  rintro fr71 h73 ⟨hS74,f72⟩
  simp only [List.drop_succ_cons,List.drop_zero]
  simp only [f72,qe,qa,qv,B0,reduceIte,reduceEqDiff]
  have he:=qh hF39
  subst he
  simp only [qw,B0,reduceIte,reduceEqDiff]
  exact rfl
 rw [iteF hc67] at hF39
 simp only [qqa,qd,qc,qp,qb,je,qe,qa,qph,qx,B0,reduceIte,reduceEqDiff]
 refine qr (t:=(decide (v_0.Kind=2))) (fun hc75=>?_) (fun hc75=>?_)
 ·rw [iteT hc75] at hF39
  simp only [qv6,qd,qc,f64,qo,qb,Nat.reduceAdd,Nat.zero_add,Nat.add_zero,qq,qm,B0,reduceIte,reduceEqDiff]
  refine qg (v := .int .i64 v_0.Stamp) rfl ?_
  simp only [qp,qb,je,qe,B0,reduceIte,reduceEqDiff]
  refine zy 5 (fun fr' h'=>Sep h' (geL h.length) ([])∧fr' 71 = .bool ((decide (v_0.Stamp=0))&&(decide
    ((List.length v_0.InStep:Int)=0)))∧fr' 2 = .ref [.int .i64 v_0.Kind,.int .i64 v_0.Broker,.int .i64 v_0.Epoch,.int .i64 v_0.Part,.int .i64 v_0.Stamp,
    lst cI v_0.InStep] 0) (fun Q76 hN77=>?_) ?_
  ·simp only [List.take_succ_cons,List.take_zero]
   simp only [qf (g:=66),B0,reduceIte,reduceEqDiff]
   refine zd (t:=(decide (v_0.Stamp=0))) (fun hg78=>?_) (fun hg78=>?_)
   ·simp only [hg78,qf (g:=66),q9,f64,qo,qb,Nat.reduceAdd,Nat.zero_add,Nat.add_zero,qq,qm,B0,reduceIte,reduceEqDiff]
    refine qg (v:=lst cI v_0.InStep) rfl ?_
    simp only [hg78,qf (g:=66),q9,zo,qb,zt,qp,je,qu,zk,qa,qn,B0,reduceIte,reduceEqDiff]
    exact hN77 _ _ ⟨hS66,by rw [yc hg78]; simp only [B0,reduceIte,reduceEqDiff],f64⟩
   ·simp only [hg78,qf (g:=66),zv,qu,qb,zj,qa,qn,B0,reduceIte,reduceEqDiff]
    exact hN77 _ _ ⟨hS66,by rw [yb hg78]; simp only [B0,reduceIte,reduceEqDiff],f64⟩
  rintro fr79 h82 ⟨hS83,f80,f81⟩
  simp only [List.drop_succ_cons,List.drop_zero]
  simp only [f80,qe,B0,reduceIte,reduceEqDiff]
  refine zy 4 (fun fr' h'=>Sep h' (geL h.length) ([])∧fr' 76 = .bool (((decide (v_0.Stamp=0))&&(decide ((List.length v_0.InStep:Int)=0)))&&(decide
    (v_0.Part=0)))) (fun Q84 hN85=>?_) ?_
  ·simp only [List.take_succ_cons,List.take_zero]
   simp only [qf (g:=72),B0,reduceIte,reduceEqDiff]
   refine zd (t:=((decide (v_0.Stamp=0))&&(decide ((List.length v_0.InStep:Int)=0)))) (fun hg86=>?_) (fun hg86=>?_)
   ·simp only [hg86,qf (g:=72),q9,f81,qo,qb,Nat.reduceAdd,Nat.zero_add,Nat.add_zero,qq,qm,B0,reduceIte,reduceEqDiff]
    refine qg (v := .int .i64 v_0.Part) rfl ?_
    simp only [hg86,qf (g:=72),q9,qp,qb,je,qu,zk,qa,qn,B0,reduceIte,reduceEqDiff]
    exact hN85 _ _ ⟨hS83,by rw [yc hg86]; simp only [B0,reduceIte,reduceEqDiff]⟩
   ·simp only [hg86,qf (g:=72),zv,qu,qb,zj,qa,qn,B0,reduceIte,reduceEqDiff]
    exact hN85 _ _ ⟨hS83,by rw [yb hg86]; simp only [B0,reduceIte,reduceEqDiff]⟩
  rintro fr87 h89 ⟨hS90,f88⟩
  simp only [List.drop_succ_cons,List.drop_zero]
  simp only [f88,qe,qa,qv,B0,reduceIte,reduceEqDiff]
  have he:=qh hF39
  subst he
  simp only [qw,B0,reduceIte,reduceEqDiff]
  exact rfl
 rw [iteF hc75] at hF39
 simp only [qoz,qd,qc,qp,qb,je,qe,qa,qpe,qx,B0,reduceIte,reduceEqDiff]
 refine qr (t:=(decide (v_0.Kind=3))) (fun hc91=>?_) (fun hc91=>?_)
 ·rw [iteT hc91] at hF39
  simp only [qxv,qd,qc,qe,B0,reduceIte,reduceEqDiff]
  refine zy 4 (fun fr' h'=>Sep h' (geL h.length) ([])∧fr' 84 = .bool ((((decide (v_0.Epoch=0))&&(decide (v_0.Stamp=0)))&&(decide
    ((List.length v_0.InStep:Int)=0)))&&(decide (v_0.Part=0)))∧fr' 2 = .ref [.int .i64 v_0.Kind,.int .i64 v_0.Broker,.int .i64 v_0.Epoch,.int .i64 v_0.Part,
    .int .i64 v_0.Stamp,lst cI v_0.InStep] 0) (fun Q92 hN93=>?_) ?_
  ·simp only [List.take_succ_cons,List.take_zero]
   simp only [qf (g:=80),B0,reduceIte,reduceEqDiff]
   refine zd (t:=(((decide (v_0.Epoch=0))&&(decide (v_0.Stamp=0)))&&(decide ((List.length v_0.InStep:Int)=0)))) (fun hg94=>?_) (fun hg94=>?_)
   ·simp only [hg94,qf (g:=80),q9,f64,qo,qb,Nat.reduceAdd,Nat.zero_add,Nat.add_zero,qq,qm,B0,reduceIte,reduceEqDiff]
    refine qg (v := .int .i64 v_0.Part) rfl ?_
    simp only [hg94,qf (g:=80),q9,qp,qb,je,qu,zk,qa,qn,B0,reduceIte,reduceEqDiff]
    exact hN93 _ _ ⟨hS66,by rw [yc hg94]; simp only [B0,reduceIte,reduceEqDiff],f64⟩
   ·simp only [hg94,qf (g:=80),zv,qu,qb,zj,qa,qn,B0,reduceIte,reduceEqDiff]
    exact hN93 _ _ ⟨hS66,by rw [yb hg94]; simp only [B0,reduceIte,reduceEqDiff],f64⟩
  rintro fr95 h98 ⟨hS99,f96,f97⟩
  simp only [List.drop_succ_cons,List.drop_zero]
  simp only [f96,qe,B0,reduceIte,reduceEqDiff]
  refine zy 4 (fun fr' h'=>Sep h' (geL h.length) ([])∧fr' 89 = .bool (((((decide (v_0.Epoch=0))&&(decide (v_0.Stamp=0)))&&(decide
    ((List.length v_0.InStep:Int)=0)))&&(decide (v_0.Part=0)))&&(decide (v_0.Broker=0)))) (fun Q100 hN101=>?_) ?_
  ·simp only [List.take_succ_cons,List.take_zero]
   simp only [qf (g:=85),B0,reduceIte,reduceEqDiff]
   refine zd (t:=((((decide (v_0.Epoch=0))&&(decide (v_0.Stamp=0)))&&(decide ((List.length v_0.InStep:Int)=0)))&&(decide (v_0.Part=0))))
     (fun hg102=>?_) (fun hg102=>?_)
   ·simp only [hg102,qf (g:=85),q9,f97,qo,qb,Nat.reduceAdd,Nat.zero_add,Nat.add_zero,qq,qm,B0,reduceIte,reduceEqDiff]
    refine qg (v := .int .i64 v_0.Broker) rfl ?_
    simp only [hg102,qf (g:=85),q9,qp,qb,je,qu,zk,qa,qn,B0,reduceIte,reduceEqDiff]
    exact hN101 _ _ ⟨hS99,by rw [yc hg102]; simp only [B0,reduceIte,reduceEqDiff]⟩
   ·simp only [hg102,qf (g:=85),zv,qu,qb,zj,qa,qn,B0,reduceIte,reduceEqDiff]
    exact hN101 _ _ ⟨hS99,by rw [yb hg102]; simp only [B0,reduceIte,reduceEqDiff]⟩
  rintro fr103 h105 ⟨hS106,f104⟩
  simp only [List.drop_succ_cons,List.drop_zero]
  simp only [f104,qe,qa,qv,B0,reduceIte,reduceEqDiff]
  have he:=qh hF39
  subst he
  simp only [qw,B0,reduceIte,reduceEqDiff]
  exact rfl
 rw [iteF hc91] at hF39
 simp only [qrj,qd,qc,qp,qb,je,qe,qa,q2t,qx,B0,reduceIte,reduceEqDiff]
 refine qr (t:=(decide (v_0.Kind=4))) (fun hc107=>?_) (fun hc107=>?_)
 ·rw [iteT hc107] at hF39
  simp only [q1a,qd,qc,f64,qo,qb,Nat.reduceAdd,Nat.zero_add,Nat.add_zero,qq,qm,B0,reduceIte,reduceEqDiff]
  refine qg (v := .int .i64 v_0.Epoch) rfl ?_
  simp only [qp,qb,je,qe,B0,reduceIte,reduceEqDiff]
  refine zy 4 (fun fr' h'=>Sep h' (geL h.length) ([])∧fr' 99 = .bool ((decide (v_0.Epoch=0))&&(decide (v_0.Stamp=0)))∧fr' 2 = .ref [.int .i64 v_0.Kind,
    .int .i64 v_0.Broker,.int .i64 v_0.Epoch,.int .i64 v_0.Part,.int .i64 v_0.Stamp,lst cI v_0.InStep] 0) (fun Q108 hN109=>?_) ?_
  ·simp only [List.take_succ_cons,List.take_zero]
   simp only [qf (g:=95),B0,reduceIte,reduceEqDiff]
   refine zd (t:=(decide (v_0.Epoch=0))) (fun hg110=>?_) (fun hg110=>?_)
   ·simp only [hg110,qf (g:=95),q9,f64,qo,qb,Nat.reduceAdd,Nat.zero_add,Nat.add_zero,qq,qm,B0,reduceIte,reduceEqDiff]
    refine qg (v := .int .i64 v_0.Stamp) rfl ?_
    simp only [hg110,qf (g:=95),q9,qp,qb,je,qu,zk,qa,qn,B0,reduceIte,reduceEqDiff]
    exact hN109 _ _ ⟨hS66,by rw [yc hg110]; simp only [B0,reduceIte,reduceEqDiff],f64⟩
   ·simp only [hg110,qf (g:=95),zv,qu,qb,zj,qa,qn,B0,reduceIte,reduceEqDiff]
    exact hN109 _ _ ⟨hS66,by rw [yb hg110]; simp only [B0,reduceIte,reduceEqDiff],f64⟩
  rintro fr111 h114 ⟨hS115,f112,f113⟩
  simp only [List.drop_succ_cons,List.drop_zero]
  simp only [f112,qe,B0,reduceIte,reduceEqDiff]
  refine zy 4 (fun fr' h'=>Sep h' (geL h.length) ([])∧fr' 104 = .bool (((decide (v_0.Epoch=0))&&(decide (v_0.Stamp=0)))&&(decide
    (v_0.Part=0)))∧fr' 2 = .ref [.int .i64 v_0.Kind,.int .i64 v_0.Broker,.int .i64 v_0.Epoch,.int .i64 v_0.Part,.int .i64 v_0.Stamp,
    lst cI v_0.InStep] 0) (fun Q116 hN117=>?_) ?_
  ·simp only [List.take_succ_cons,List.take_zero]
   simp only [qf (g:=100),B0,reduceIte,reduceEqDiff]
   refine zd (t:=((decide (v_0.Epoch=0))&&(decide (v_0.Stamp=0)))) (fun hg118=>?_) (fun hg118=>?_)
   ·simp only [hg118,qf (g:=100),q9,f113,qo,qb,Nat.reduceAdd,Nat.zero_add,Nat.add_zero,qq,qm,B0,reduceIte,reduceEqDiff]
    refine qg (v := .int .i64 v_0.Part) rfl ?_
    simp only [hg118,qf (g:=100),q9,qp,qb,je,qu,zk,qa,qn,B0,reduceIte,reduceEqDiff]
    exact hN117 _ _ ⟨hS115,by rw [yc hg118]; simp only [B0,reduceIte,reduceEqDiff],f113⟩
   ·simp only [hg118,qf (g:=100),zv,qu,qb,zj,qa,qn,B0,reduceIte,reduceEqDiff]
    exact hN117 _ _ ⟨hS115,by rw [yb hg118]; simp only [B0,reduceIte,reduceEqDiff],f113⟩
  rintro fr119 h122 ⟨hS123,f120,f121⟩
  simp only [List.drop_succ_cons,List.drop_zero]
  simp only [f120,qe,B0,reduceIte,reduceEqDiff]
  refine zy 4 (fun fr' h'=>Sep h' (geL h.length) ([])∧fr' 109 = .bool ((((decide (v_0.Epoch=0))&&(decide (v_0.Stamp=0)))&&(decide (v_0.Part=0)))&&(decide
    (v_0.Broker=0)))) (fun Q124 hN125=>?_) ?_
  ·simp only [List.take_succ_cons,List.take_zero]
   simp only [qf (g:=105),B0,reduceIte,reduceEqDiff]
   refine zd (t:=(((decide (v_0.Epoch=0))&&(decide (v_0.Stamp=0)))&&(decide (v_0.Part=0)))) (fun hg126=>?_) (fun hg126=>?_)
   ·simp only [hg126,qf (g:=105),q9,f121,qo,qb,Nat.reduceAdd,Nat.zero_add,Nat.add_zero,qq,qm,B0,reduceIte,reduceEqDiff]
    refine qg (v := .int .i64 v_0.Broker) rfl ?_
    simp only [hg126,qf (g:=105),q9,qp,qb,je,qu,zk,qa,qn,B0,reduceIte,reduceEqDiff]
    exact hN125 _ _ ⟨hS123,by rw [yc hg126]; simp only [B0,reduceIte,reduceEqDiff]⟩
   ·simp only [hg126,qf (g:=105),zv,qu,qb,zj,qa,qn,B0,reduceIte,reduceEqDiff]
    exact hN125 _ _ ⟨hS123,by rw [yb hg126]; simp only [B0,reduceIte,reduceEqDiff]⟩
  rintro fr127 h129 ⟨hS130,f128⟩
  simp only [List.drop_succ_cons,List.drop_zero]
  simp only [f128,qe,qa,qv,B0,reduceIte,reduceEqDiff]
  have he:=qh hF39
  subst he
  simp only [qw,B0,reduceIte,reduceEqDiff]
  exact rfl
 rw [iteF hc107] at hF39
 simp only [q3b,qd,qc,qp,qb,je,qe,qa,qx5,qx,B0,reduceIte,reduceEqDiff]
 refine qr (t:=(decide (v_0.Kind=5))) (fun hc131=>?_) (fun hc131=>?_)
 ·rw [iteT hc131] at hF39
  simp only [qd,qc,qe,qa,qv,B0,reduceIte,reduceEqDiff]
  have he:=qh hF39
  subst he
  simp only [qw,B0,reduceIte,reduceEqDiff]
  exact rfl
 rw [iteF hc131] at hF39
 simp only [q22,qd,qc,qp,qb,je,qe,qa,q2d,qx,B0,reduceIte,reduceEqDiff]
 refine qr (t:=(decide (v_0.Kind=6))) (fun hc132=>?_) (fun hc132=>?_)
 ·rw [iteT hc132] at hF39
  simp only [qd,qc,qe,qa,qv,B0,reduceIte,reduceEqDiff]
  have he:=qh hF39
  subst he
  simp only [qw,B0,reduceIte,reduceEqDiff]
  exact rfl
 rw [iteF hc132] at hF39
 simp only [q8,kh,qd,qc,qe,qa,qv,B0,reduceIte,reduceEqDiff]
 have he:=qh hF39
 subst he
 simp only [qw,B0,reduceIte,reduceEqDiff]
 exact rfl
theorem qcd {W:Nat→Bool}{h:Heap} (hW:∀ b,
  (geL h.length) b→W b=true) (c_0:Control) (r:Control) (hF:y5 c_0=some r) : Ret E W 76 [.agg [lst qi c_0.Brokers,
  lst qj c_0.Parts,.int .i64 c_0.Next]] h (fun v h'=>∃ rv0_0 rc0_0 rv0_1 rc0_1,v = .agg [rv0_0,rv0_1,
  .int .i64 r.Next]∧SlF qi 3 86 rv0_0 r.Brokers rc0_0∧SlN Partition.R 5 39 rv0_1 r.Parts rc0_1∧Sep h' (geL h.length) (rc0_0++(rc0_1++([])))):=by
 refine Ret.of (fn:=x76) rfl (Run.of ?_)
 unfold y5 at hF
 have zf0:zc [.agg [lst qi c_0.Brokers,lst qj c_0.Parts,.int .i64 c_0.Next]] 0 = .agg [lst qi c_0.Brokers,lst qj c_0.Parts,
   .int .i64 c_0.Next]:=rfl
 generalize zc [.agg [lst qi c_0.Brokers,lst qj c_0.Parts,.int .i64 c_0.Next]]=fr0 at zf0 ⊢
 have hS:Sep h (geL h.length) []:=Sep.nil h
 simp only [x76,qd,qc,jm,zf0,B0,reduceIte,reduceEqDiff]
 refine z8 (cs:=[lst qi c_0.Brokers,lst qj c_0.Parts,.int .i64 c_0.Next]) hS rfl rfl rfl (fun b1 h2 hS3=>?_)
 simp only [jv,B0,reduceIte,reduceEqDiff]
 refine jc hS3 (fun b5 h6 hS7=>?_)
 simp only [qa,B0,reduceIte,reduceEqDiff]
 refine zu (Sep.m1 hS7) hW (by simp only [B0,reduceIte,reduceEqDiff]) (fun h9 hS10=>?_)
 simp only [zx,qwp,qd,jz,qbk,evp,B0,reduceIte,reduceEqDiff]
 refine ut (n:=3) (f:=qi) ([] : List Broker) hS10 rfl rfl (fun v12 c13 h14 hv15 hS16 hq11=>?_)
 simp only [qmk,B0,reduceIte,reduceEqDiff]
 refine qhf hS16 (fun b18 h19 hS20=>?_)
 simp only [jd,qy,Nat.reduceAdd,Nat.zero_add,Nat.add_zero,qq,z6,B0,reduceIte,reduceEqDiff]
 refine ze (v:=lst qi c_0.Brokers) rfl ?_
 simp only [qdb,B0,reduceIte,reduceEqDiff]
 obtain ⟨l22,hx23,hF24⟩:=ql hF
 have hq25:=nwq (fun z hz=>Sep.dj (Sep.m2 (Sep.m2 hS20)) qa0 (SlF.rowfp hv15 z hz))
 refine qf2 qem ?_
 refine qal (f:=qi) hv15 (Sep.m1 hS20) hW (fun _=>rfl) (fun _=>rfl) (yn (fun _=>rfl)) hx23 (fun v26 c27 h28 hv29 hS30=>?_)
 simp only [qf5,qy,Nat.reduceAdd,Nat.zero_add,Nat.add_zero,qq,qeg,qd9,B0,reduceIte,reduceEqDiff]
 refine ze (v := .int .i64 c_0.Next) rfl ?_
 simp only [qgy,evp,B0,reduceIte,reduceEqDiff]
 refine ze (v := .agg [v26,.nil,.int .i64 c_0.Next]) (qej (qbw (us:=[v26]) (vs:=[v26,.nil,
   .int .i64 0]) (ko (SlF.one hv29)) rfl (nle rfl) (qt (SlF.one hv29) zr) rfl (qbw (us:=[.int .i64 c_0.Next]) (vs:=[v26,.nil,
   .int .i64 c_0.Next]) rfl rfl (nle rfl) rfl rfl qf9))) ?_
 simp only [qdi,B0,reduceIte,reduceEqDiff]
 refine qdt (us:=[v26,.nil,.int .i64 c_0.Next]) rfl (cs':=[v26,.nil,
   .int .i64 c_0.Next]) (Sep.m1 hS30) hW rfl (qt (SlF.one hv29) (qt rfl (qt rfl zr))) (nle rfl) rfl (fun h32 hS33=>?_)
 simp only [zq,qvr,qd,qc,qo,qb,Nat.reduceAdd,Nat.zero_add,Nat.add_zero,qq,qm,B0,reduceIte,reduceEqDiff]
 refine qg (v:=lst qj c_0.Parts) rfl ?_
 simp only [zo,qb,zt,qe,qa,B0,reduceIte,reduceEqDiff]
 obtain ⟨oc46,hX48,hk49⟩:=jh hF24
 simp only [q29]
 refine ye (σ:=Control) c_0.Parts (fun i44 x45 s125=>u5 l22 i44 x45 s125) (fun s fr' h'=>∃ v41 c42,
   fr' 2 = .ptr b5 0∧fr' 3 = .ptr b18 0∧fr' 14=lst qj c_0.Parts∧SlN Partition.R 5 39 v41 s.Parts c42∧Sep h' (geL h.length) ([Blk1 b5 [.nil,.nil,
   .int .i64 0] 29]++([Blk1 b18 [v26,v41,.int .i64 s.Next] 29]++(c27++(c42++([])))))) hX48 ⟨.nil,[],rfl,rfl,rfl,SlN.nil,
   ((Sep.m2 (Sep.m1 (Sep.m1 hS33))) : Sep _ (geL h.length) ([Blk1 b5 [.nil,.nil,.int .i64 0] 29]++([Blk1 b18 [v26,.nil,
   .int .i64 c_0.Next] 29]++(c27++([])))))⟩ (by simp only [B0,reduceIte,reduceEqDiff]) (by simp only [B0,reduceIte,
   reduceEqDiff]) (fun _ _ _ h=>h) rfl rfl (fun _ _ _ _ h=>h) (fun _ _ _ _ h=>h) (fun _ _ _ _ h=>h) (by decide) ?_ ?_
 ·rintro i44 x45 s39 fr58 h59 hx64 ⟨v41,c42,f61,f62,f63,hv43,hS60⟩ f65 f66 oc47 hF50 hr51 Q52 hN53 hB57 hK54 hR55 hE56
  unfold u5 at hF50
  simp only [q2r,qd,qc,f63,f65,zw,B0,reduceIte,reduceEqDiff]
  refine qg (v := .ref (qj x45) 0) (yg hx64 rfl) ?_
  simp only [qm,B0,reduceIte,reduceEqDiff]
  refine qg (v := .agg [lst cI x45.Homes,lst cI x45.InStep,.int .i64 x45.Leader,.int .i64 x45.Epoch,.int .i64 x45.Stamp]) rfl ?_
  simp only [jv,B0,reduceIte,reduceEqDiff]
  refine jc hS60 (fun b67 h68 hS69=>?_)
  simp only [zn,B0,reduceIte,reduceEqDiff]
  refine zi (us:=[lst cI x45.Homes,lst cI x45.InStep,.int .i64 x45.Leader,.int .i64 x45.Epoch,.int .i64 x45.Stamp]) rfl (cs':=[lst cI x45.Homes,
    lst cI x45.InStep,.int .i64 x45.Leader,.int .i64 x45.Epoch,.int .i64 x45.Stamp]) hS69 hW rfl rfl (nle rfl) rfl (fun h71 hS72=>?_)
  simp only [qa,qzy,qd,qc,y3,evp,B0,reduceIte,reduceEqDiff]
  refine yf (n:=1) (f:=cI) ([] : List Int) hS72 rfl rfl (fun v73 c74 h75 hv76 hS77=>?_)
  simp only [qo,qb,Nat.reduceAdd,Nat.zero_add,Nat.add_zero,za,qm,B0,reduceIte,reduceEqDiff]
  refine qg (v:=lst cI x45.Homes) ((ji (Sep.bk _ _ _ (Sep.m1 hS77))).trans rfl) ?_
  simp only [qa5,B0,reduceIte,reduceEqDiff]
  obtain ⟨l79,hx80,hF81⟩:=ql hF50
  refine uq (f:=cI) hv76 hS77 hW (fun _=>rfl) (fun _=>rfl) (yn (fun _=>rfl)) hx80 (fun v82 c83 h84 hv85 hS86=>?_)
  simp only [qo,qb,Nat.reduceAdd,Nat.zero_add,Nat.add_zero,za,zn,B0,reduceIte,reduceEqDiff]
  refine zi (us:=[v82]) (ko (SlF.one hv85)) (cs':=[v82,lst cI x45.InStep,.int .i64 x45.Leader,.int .i64 x45.Epoch,
    .int .i64 x45.Stamp]) (Sep.m1 hS86) hW rfl (qt (SlF.one hv85) zr) (nle rfl) rfl (fun h88 hS89=>?_)
  simp only [qa,qyp,qd,qc,y3,evp,B0,reduceIte,reduceEqDiff]
  refine yf (n:=1) (f:=cI) ([] : List Int) hS89 rfl rfl (fun v90 c91 h92 hv93 hS94=>?_)
  simp only [qo,qb,Nat.reduceAdd,Nat.zero_add,Nat.add_zero,za,qm,B0,reduceIte,reduceEqDiff]
  refine qg (v:=lst cI x45.InStep) ((ji (Sep.bk _ _ _ (Sep.m1 hS94))).trans rfl) ?_
  simp only [qa5,B0,reduceIte,reduceEqDiff]
  obtain ⟨l96,hx97,hF98⟩:=ql hF81
  refine uq (f:=cI) hv93 hS94 hW (fun _=>rfl) (fun _=>rfl) (yn (fun _=>rfl)) hx97 (fun v99 c100 h101 hv102 hS103=>?_)
  simp only [qo,qb,Nat.reduceAdd,Nat.zero_add,Nat.add_zero,za,zn,B0,reduceIte,reduceEqDiff]
  refine zi (us:=[v99]) (ko (SlF.one hv102)) (cs':=[v82,v99,.int .i64 x45.Leader,.int .i64 x45.Epoch,
    .int .i64 x45.Stamp]) (Sep.m1 hS103) hW rfl (qt (SlF.one hv102) zr) (nle rfl) rfl (fun h105 hS106=>?_)
  simp only [qa,qws,qc,f62,qo,qb,Nat.reduceAdd,Nat.zero_add,Nat.add_zero,za,qm,B0,reduceIte,reduceEqDiff]
  refine qg (v:=v41) ((ji (Sep.bk _ _ _ (Sep.m4 hS106))).trans rfl) ?_
  simp only [qm,B0,reduceIte,reduceEqDiff]
  refine qg (v := .agg [v82,v99,.int .i64 x45.Leader,.int .i64 x45.Epoch,.int .i64 x45.Stamp]) ((z7 (Sep.bk _ _ _ hS106)).trans rfl) ?_
  simp only [y3,evp,B0,reduceIte,reduceEqDiff]
  refine qft (R:=Partition.R) (n:=5) (cs:=[v82,v99,.int .i64 x45.Leader,.int .i64 x45.Epoch,
    .int .i64 x45.Stamp]) (os:=c83++(c100)) (Sep.bi2 (c1:=c83) (c2:=c100) (Sep.m2 (Sep.m1 hS106))) (qbw (us:=[v82,v99,.int .i64 x45.Leader,.int .i64 x45.Epoch,
    .int .i64 x45.Stamp]) (vs:=[v82,v99,.int .i64 x45.Leader,.int .i64 x45.Epoch,
    .int .i64 x45.Stamp]) rfl rfl (nle rfl) (qt (SlF.one hv85) (qt (SlF.one hv102) (qt rfl (qt rfl (qt rfl zr))))) rfl qf9) (Partition.RI (x :=
    (Partition.mk l79 l96 x45.Leader x45.Epoch x45.Stamp)) hv85 hv102) rfl (fun v107 c108 h109 hv110 hS111=>?_)
  simp only [qa5,B0,reduceIte,reduceEqDiff]
  obtain ⟨l113,hx114,hF115⟩:=ql hF98
  refine qh5 (R:=Partition.R) (c:=c42) hv43 hv110 (Sep.m5 hS111) hW Partition.RO.len Partition.RO.one hx114 (fun v116 c117 h118 hv119 hS120=>?_)
  simp only [f62,qo,qb,Nat.reduceAdd,Nat.zero_add,Nat.add_zero,za,zn,B0,reduceIte,reduceEqDiff]
  refine zi (us:=[v116]) (ko (SlN.one hv119)) (cs':=[v26,v116,
    .int .i64 s39.Next]) (Sep.m3 hS120) hW rfl (qt (SlN.one hv119) zr) (nle rfl) rfl (fun h122 hS123=>?_)
  simp only [qa,qn,B0,reduceIte,reduceEqDiff]
  have e124:=qh hF115
  exact hN53 _ _ _ e124.symm ⟨v116,c117,f61,f62,f63,hv119,(Sep.m3 (Sep.m2 (Sep.m3 (Sep.m1 (Sep.dc (Sep.m2 hS123))))))⟩ (f65) (f66)
 rintro s126 fr131 h132 rfl ⟨v128,c129,f134,f135,f136,hv130,hS133⟩
 dsimp only [jnO] at hk49
 unfold qdz at hk49
 simp only [qd,qc,f135,qm,B0,reduceIte,reduceEqDiff]
 refine qg (v := .agg [v26,v128,.int .i64 s126.Next]) ((z7 (Sep.bk _ _ _ (Sep.m1 hS133))).trans rfl) ?_
 simp only [f134,zn,B0,reduceIte,reduceEqDiff]
 refine zi (us:=[v26,v128,.int .i64 s126.Next]) rfl (cs':=[v26,v128,
   .int .i64 s126.Next]) hS133 hW rfl (qt (SlF.one hv29) (qt (SlN.one hv130) (qt rfl zr))) (nle rfl) rfl (fun h137 hS138=>?_)
 simp only [qa,qv,B0,reduceIte,reduceEqDiff]
 have he:=qh hk49
 subst he
 refine qb8 (bb:=b5) (oo:=0) (v := .agg [v26,v128,.int .i64 s126.Next]) (by simp only [f134,B0,reduceIte,
   reduceEqDiff]) ((z7 (Sep.bk _ _ _ hS138)).trans rfl) ?_
 exact ⟨v26,c27,v128,c129,by first | trivial | rfl,hv29,hv130,(Sep.m1 (Sep.m1 (Sep.dc ((Sep.dc (hS138))))))⟩
theorem qh8 {W:Nat→Bool}{h:Heap} (hW:∀ b,
  (geL h.length) b→W b=true) (s_0:List Int) (v_1:Int) (r:Int) (hF:qbn s_0 v_1=some r) : Ret E W 96 [lst cI s_0,
  .int .i64 v_1] h (fun v h'=>cut h.length h' E.sz false 9 v=some (.int .i64 r)):=by
 refine Ret.of (fn:=x96) rfl (Run.of ?_)
 unfold qbn at hF
 have zf0:zc [lst cI s_0,.int .i64 v_1] 0=lst cI s_0:=rfl
 have zf1:zc [lst cI s_0,.int .i64 v_1] 1 = .int .i64 v_1:=rfl
 generalize zc [lst cI s_0,.int .i64 v_1]=fr0 at zf0 zf1 ⊢
 have hS:Sep h (geL h.length) []:=Sep.nil h
 simp only [x96,qd,qc,qe,qa,qvv,zf0,zo,qb,zt,B0,reduceIte,reduceEqDiff]
 obtain ⟨oc3,hX5,hk6⟩:=jh hF
 simp only [qvp]
 refine ye (σ:=Unit) s_0 (fun i1 x2 _=>w8 v_1 i1 x2 ) (fun s fr' h'=>fr' 0=lst cI s_0∧fr' 1 = .int .i64 v_1∧Sep h' (geL h.length)
   ([])) hX5 ⟨zf0,zf1,hS⟩ (by simp only [B0,reduceIte,reduceEqDiff]) (by simp only [B0,reduceIte,
   reduceEqDiff]) (fun _ _ _ h=>h) rfl rfl (fun _ _ _ _ h=>h) (fun _ _ _ _ h=>h) (fun _ _ _ _ h=>h) (by decide) ?_ ?_
 ·rintro i1 x2 _ fr15 h16 hx20 ⟨f18,f19,hS17⟩ f21 f22 oc4 hF7 hr8 Q9 hN10 hB14 hK11 hR12 hE13
  unfold w8 at hF7
  simp only [q3g,qd,qc,f21,qe,qa,q0r,f19,f18,zw,B0,reduceIte,reduceEqDiff]
  refine qg (v := .ref (cI x2) 0) (yg hx20 rfl) ?_
  simp only [qm,B0,reduceIte,reduceEqDiff]
  refine qg (v := .int .i64 x2) rfl ?_
  simp only [qp,qb,je,qa,qy7,qx,B0,reduceIte,reduceEqDiff]
  refine qr (t:=(decide (v_1=x2))) (fun hc23=>?_) (fun hc23=>?_)
  ·rw [iteT hc23] at hF7
   simp only [qd,qc,qe,qa,qv,B0,reduceIte,reduceEqDiff]
   have e24:=qh hF7
   subst e24
   have ho25:=hr8 _ rfl
   have hk26:=hk6
   rw [ho25] at hk26
   dsimp only [jnO] at hk26
   apply hR12
   have he:=qh hk26
   subst he
   simp only [qw,B0,reduceIte,reduceEqDiff]
   exact rfl
  rw [iteF hc23] at hF7
  simp only [q8,qn,B0,reduceIte,reduceEqDiff]
  have e27:=qh hF7
  exact hN10 _ _ _ e27.symm ⟨f18,f19,hS17⟩ (f21) (f22)
 rintro _ fr29 h30 rfl ⟨f32,f33,hS31⟩
 dsimp only [jnO] at hk6
 unfold qd0 at hk6
 simp only [qd,qc,qe,qa,qv,B0,reduceIte,reduceEqDiff]
 have he:=qh hk6
 subst he
 simp only [qw,B0,reduceIte,reduceEqDiff]
 exact rfl
theorem x6 {W:Nat→Bool}{h:Heap} (hW:∀ b,
  (geL h.length) b→W b=true) (s_0:List Int) (v_1:Int) (r:Bool) (hF:jx s_0 v_1=some r) : Ret E W 80 [lst cI s_0,
  .int .i64 v_1] h (fun v h'=>cut h.length h' E.sz false 9 v=some (.bool r)):=by
 refine Ret.of (fn:=x80) rfl (Run.of ?_)
 unfold jx at hF
 have zf0:zc [lst cI s_0,.int .i64 v_1] 0=lst cI s_0:=rfl
 have zf1:zc [lst cI s_0,.int .i64 v_1] 1 = .int .i64 v_1:=rfl
 generalize zc [lst cI s_0,.int .i64 v_1]=fr0 at zf0 zf1 ⊢
 have hS:Sep h (geL h.length) []:=Sep.nil h
 obtain ⟨v1,hx2,hF3⟩:=ql hF
 simp only [x80,qd,qc,qe,qa,q0x,zf0,zf1,zf,B0,reduceIte,reduceEqDiff]
 refine ja rfl (qk zm (qk qs zg)) (qh8 (fun b hb=>decide_eq_true hb) s_0 v_1 v1 hx2) ?_
 simp only [qp,qb,qcp,qe,qa,qv,B0,reduceIte,reduceEqDiff]
 have he:=qh hF3
 subst he
 simp only [qw,B0,reduceIte,reduceEqDiff]
 exact rfl
theorem qkk {W:Nat→Bool}{h:Heap} (hW:∀ b,
  (geL h.length) b→W b=true) (k_0:Int) (cap_0:List Int) (r:Bool) (hF:qdx k_0 cap_0=some r) : Ret E W 95 [.int .i64 k_0,
  .ref ((cL cI) cap_0) 0] h (fun v h'=>cut h.length h' E.sz false 9 v=some (.bool r)):=by
 refine Ret.of (fn:=x95) rfl (Run.of ?_)
 unfold qdx at hF
 have zf0:zc [.int .i64 k_0,.ref ((cL cI) cap_0) 0] 0 = .int .i64 k_0:=rfl
 have zf1:zc [.int .i64 k_0,.ref ((cL cI) cap_0) 0] 1 = .ref ((cL cI) cap_0) 0:=rfl
 generalize zc [.int .i64 k_0,.ref ((cL cI) cap_0) 0]=fr0 at zf0 zf1 ⊢
 have hS:Sep h (geL h.length) []:=Sep.nil h
 simp only [x95,qd,qc,qe,qa,qv1,zf1,qm,B0,reduceIte,reduceEqDiff]
 refine qg (v:=lst cI cap_0) rfl ?_
 obtain ⟨v1,hx2,hF3⟩:=ql hF
 simp only [zf0,qe,zf,B0,reduceIte,reduceEqDiff]
 refine ja rfl (qk zm (qk qs zg)) (x6 (fun b hb=>decide_eq_true hb) cap_0 k_0 v1 hx2) ?_
 simp only [jl,qb,kd,qe,qa,qv,B0,reduceIte,reduceEqDiff]
 have he:=qh hF3
 subst he
 simp only [qw,B0,reduceIte,reduceEqDiff]
 exact rfl
end Go.Proofs.Ytjloihcijdcpeaa.X
