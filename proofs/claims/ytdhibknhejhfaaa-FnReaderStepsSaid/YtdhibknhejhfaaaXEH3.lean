/- The functions' code comes to what the plain functions say (3). -/
import Derived.Test.YtdhibknhejhfaaaXEH2
set_option linter.unusedVariables false
set_option linter.unusedSimpArgs false
set_option maxRecDepth 100000
namespace Go.Proofs.Ytdhibknhejhfaaa.X
open Go
open Nat (reduceEqDiff)
theorem qgm {W:Nat→Bool}{h:Heap}{lo:Nat→Prop}{S0:List Obj} (hW:∀ b,
  lo b→W b=true) (v_0:Readers_) (pv0_1:XV) (pc0_1:List Obj) (ph0_1:SlN Reader.R 4 37 pv0_1 v_0.Readers pc0_1) (pv0_2:XV) (pc0_2:List Obj)
  (ph0_2:SlF cI 1 3 pv0_2 v_0.Committed pc0_2) (pv0_3:XV) (pc0_3:List Obj) (ph0_3:SlF cI 1 3 pv0_3 v_0.Ends pc0_3) (v_1:GroupStep) (r:Readers_ × Bool)
  (hF:jm v_0 v_1=some r) (hS:Sep h lo (pc0_1++(pc0_2++(pc0_3++(S0))))) : Ret E W 53 [.agg [.int .i64 v_0.Generation,pv0_1,pv0_2,pv0_3],
  .agg [.int .i64 v_1.Kind,.int .i64 v_1.K,.int .i64 v_1.Part,.int .i64 v_1.N]] h (fun v h'=>∃ rc0_1 rc0_2 rc0_3,v = .tup [.agg [.int .i64 r.1.Generation,pv0_1,pv0_2,
  pv0_3],.bool r.2]∧SlN Reader.R 4 37 pv0_1 r.1.Readers rc0_1∧SlF cI 1 3 pv0_2 r.1.Committed rc0_2∧SlF cI 1 3 pv0_3 r.1.Ends rc0_3∧Sep h' lo (rc0_1++(rc0_2 ++
  (rc0_3++(S0))))):=by
 refine Ret.of (fn:=x53) rfl (Run.of ?_)
 unfold jm at hF
 have zf0:zb [.agg [.int .i64 v_0.Generation,pv0_1,pv0_2,pv0_3],.agg [.int .i64 v_1.Kind,.int .i64 v_1.K,.int .i64 v_1.Part,
   .int .i64 v_1.N]] 0 = .agg [.int .i64 v_0.Generation,pv0_1,pv0_2,pv0_3]:=rfl
 have zf1:zb [.agg [.int .i64 v_0.Generation,pv0_1,pv0_2,pv0_3],.agg [.int .i64 v_1.Kind,.int .i64 v_1.K,.int .i64 v_1.Part,
   .int .i64 v_1.N]] 1 = .agg [.int .i64 v_1.Kind,.int .i64 v_1.K,.int .i64 v_1.Part,.int .i64 v_1.N]:=rfl
 generalize zb [.agg [.int .i64 v_0.Generation,pv0_1,pv0_2,pv0_3],.agg [.int .i64 v_1.Kind,.int .i64 v_1.K,.int .i64 v_1.Part,.int .i64 v_1.N]]=fr0 at zf0 zf1 ⊢
 simp only [x53,qf,qe,jy,zf0,B0,reduceIte,reduceEqDiff]
 refine jk (cs:=[.int .i64 v_0.Generation,pv0_1,pv0_2,
   pv0_3]) hS rfl rfl (qk rfl (qk (SlN.one ph0_1) (qk (SlF.one ph0_2) (qk (SlF.one ph0_3) zl)))) (fun b1 h2 hS3=>?_)
 simp only [jy,zf1,B0,reduceIte,reduceEqDiff]
 refine jk (cs:=[.int .i64 v_1.Kind,.int .i64 v_1.K,.int .i64 v_1.Part,.int .i64 v_1.N]) hS3 rfl rfl rfl (fun b5 h6 hS7=>?_)
 simp only [ja,B0,reduceIte,reduceEqDiff]
 refine zw hS7 (fun b9 h10 hS11=>?_)
 simp only [qd,qa,B0,reduceIte,reduceEqDiff]
 refine zu (Sep.m1 hS11) hW (by simp only [B0,reduceIte,reduceEqDiff]) (fun h13 hS14=>?_)
 simp only [zp,qql,qf,qe,qt,qb,Nat.reduceAdd,Nat.zero_add,Nat.add_zero,qq,qn,B0,reduceIte,reduceEqDiff]
 refine qj (v := .int .i64 v_1.K) rfl ?_
 simp only [q9,qb,qeb,qd,B0,reduceIte,reduceEqDiff]
 refine z4 7 (fun fr' h'=>Sep h' lo ([Blk1 b1 [.int .i64 v_0.Generation,pv0_1,pv0_2,pv0_3] 29]++([Blk1 b9 [.int .i64 0,.nil,.nil,
   .nil] 29]++(pc0_1++(pc0_2++(pc0_3++(S0))))))∧fr' 19 = .bool ((decide (v_1.K<0))||(decide
   ((List.length v_0.Readers:Int)≤v_1.K)))∧fr' 2 = .ptr b1 0∧fr' 3 = .ref [.int .i64 v_1.Kind,.int .i64 v_1.K,.int .i64 v_1.Part,
   .int .i64 v_1.N] 0∧fr' 4 = .ptr b9 0) (fun Q15 hN16=>?_) ?_
 ·simp only [List.take_succ_cons,List.take_zero]
  simp only [qc (g:=12),B0,reduceIte,reduceEqDiff]
  refine q8 (t:=(decide (v_1.K<0))) (fun hg17=>?_) (fun hg17=>?_)
  ·simp only [hg17,qc (g:=12),zy,qr,qb,zk,qa,qm,B0,reduceIte,reduceEqDiff]
   exact hN16 _ _ ⟨(Sep.m4 (Sep.m3 (Sep.m4 (Sep.m4 (Sep.m4 hS14))))),by rw [orT hg17]; simp only [B0,reduceIte,reduceEqDiff],rfl,rfl,rfl⟩
  ·simp only [hg17,qc (g:=12),qo,qt,qb,Nat.reduceAdd,Nat.zero_add,Nat.add_zero,qq,qn,B0,reduceIte,reduceEqDiff]
   refine qj (v := .int .i64 v_1.K) rfl ?_
   simp only [hg17,qc (g:=12),qo,qt,qb,Nat.reduceAdd,Nat.zero_add,Nat.add_zero,zg,qn,B0,reduceIte,reduceEqDiff]
   refine qj (v:=pv0_1) ((z9 (Sep.bk _ _ _ (Sep.m1 hS14))).trans rfl) ?_
   simp only [hg17,qc (g:=12),qo,zo,qb,SlN.len ph0_1,q9,qd5,qr,zj,qa,qm,B0,reduceIte,reduceEqDiff]
   exact hN16 _ _ ⟨(Sep.m4 (Sep.m3 (Sep.m4 (Sep.m4 (Sep.m4 hS14))))),by rw [orF hg17]; simp only [B0,reduceIte,reduceEqDiff],rfl,rfl,rfl⟩
 rintro fr18 h23 ⟨hS24,f19,f20,f21,f22⟩
 simp only [List.drop_succ_cons,List.drop_zero]
 simp only [f19,qd,B0,reduceIte,reduceEqDiff]
 refine z4 9 (fun fr' h'=>Sep h' lo ([Blk1 b1 [.int .i64 v_0.Generation,pv0_1,pv0_2,pv0_3] 29]++([Blk1 b9 [.int .i64 0,.nil,.nil,
   .nil] 29]++(pc0_1++(pc0_2++(pc0_3++(S0))))))∧fr' 29 = .bool (((decide (v_1.K<0))||(decide ((List.length v_0.Readers:Int)≤v_1.K)))||((decide
   (v_1.Kind<4))&&(decide (v_1.Part≠0))))∧fr' 2 = .ptr b1 0∧fr' 3 = .ref [.int .i64 v_1.Kind,.int .i64 v_1.K,.int .i64 v_1.Part,
   .int .i64 v_1.N] 0∧fr' 4 = .ptr b9 0) (fun Q25 hN26=>?_) ?_
 ·simp only [List.take_succ_cons,List.take_zero]
  simp only [qc (g:=20),B0,reduceIte,reduceEqDiff]
  refine q8 (t:=((decide (v_1.K<0))||(decide ((List.length v_0.Readers:Int)≤v_1.K)))) (fun hg27=>?_) (fun hg27=>?_)
  ·simp only [hg27,qc (g:=20),zy,qc (g:=24),uq,qr,qb,zk,qa,qm,B0,reduceIte,reduceEqDiff]
   exact hN26 _ _ ⟨(Sep.m4 (Sep.m4 (Sep.m4 (Sep.m4 (Sep.m4 hS24))))),by rw [orT hg27]; simp only [B0,reduceIte,reduceEqDiff],f20,f21,f22⟩
  ·simp only [hg27,qc (g:=20),qo,f21,qt,qb,Nat.reduceAdd,Nat.zero_add,Nat.add_zero,qq,qn,B0,reduceIte,reduceEqDiff]
   refine qj (v := .int .i64 v_1.Kind) rfl ?_
   simp only [hg27,qc (g:=20),qo,q9,qb,qeb,qd,B0,reduceIte,reduceEqDiff]
   refine z4 4 (fun fr' h'=>Sep h' lo ([Blk1 b1 [.int .i64 v_0.Generation,pv0_1,pv0_2,pv0_3] 29]++([Blk1 b9 [.int .i64 0,.nil,.nil,
     .nil] 29]++(pc0_1++(pc0_2++(pc0_3++(S0))))))∧fr' 28 = .bool ((decide (v_1.Kind<4))&&(decide
     (v_1.Part≠0)))∧fr' 2 = .ptr b1 0∧fr' 3 = .ref [.int .i64 v_1.Kind,.int .i64 v_1.K,.int .i64 v_1.Part,
     .int .i64 v_1.N] 0∧fr' 4 = .ptr b9 0∧fr' 20 = .bool ((decide (v_1.K<0))||(decide ((List.length v_0.Readers:Int)≤v_1.K)))) (fun Q28 hN29=>?_) ?_
   ·simp only [List.take_succ_cons,List.take_zero]
    simp only [qc (g:=24),B0,reduceIte,reduceEqDiff]
    refine q8 (t:=(decide (v_1.Kind<4))) (fun hg30=>?_) (fun hg30=>?_)
    ·simp only [hg30,qc (g:=24),zf,f21,qt,qb,Nat.reduceAdd,Nat.zero_add,Nat.add_zero,qq,qn,B0,reduceIte,reduceEqDiff]
     refine qj (v := .int .i64 v_1.Part) rfl ?_
     simp only [hg30,qc (g:=24),zf,q9,qb,wx,hg27,qc (g:=20),qo,qr,zk,qa,qm,B0,
       reduceIte,reduceEqDiff]
     exact hN29 _ _ ⟨(Sep.m4 (Sep.m4 (Sep.m4 (Sep.m4 (Sep.m4 hS24))))),by rw [xj hg30]; simp only [B0,reduceIte,reduceEqDiff],f20,f21,f22,by simp only [hg27,B0,
       reduceIte,reduceEqDiff]⟩
    ·simp only [hg30,qc (g:=24),jh,hg27,qc (g:=20),qo,qr,qb,zj,qa,qm,B0,reduceIte,reduceEqDiff]
     exact hN29 _ _ ⟨(Sep.m4 (Sep.m4 (Sep.m4 (Sep.m4 (Sep.m4 hS24))))),by rw [xy hg30]; simp only [B0,reduceIte,reduceEqDiff],f20,f21,f22,by simp only [hg27,B0,
       reduceIte,reduceEqDiff]⟩
   rintro fr31 h37 ⟨hS38,f32,f33,f34,f35,f36⟩
   simp only [List.drop_succ_cons,List.drop_zero]
   simp only [f36,hg27,qr,qb,zj,f32,qa,qm,B0,reduceIte,reduceEqDiff]
   exact hN26 _ _ ⟨(Sep.m4 (Sep.m4 (Sep.m4 (Sep.m4 (Sep.m4 hS38))))),by rw [orF hg27]; simp only [B0,reduceIte,reduceEqDiff],f33,f34,f35⟩
 rintro fr39 h44 ⟨hS45,f40,f41,f42,f43⟩
 simp only [List.drop_succ_cons,List.drop_zero]
 simp only [f40,qd,B0,reduceIte,reduceEqDiff]
 refine z4 9 (fun fr' h'=>Sep h' lo ([Blk1 b1 [.int .i64 v_0.Generation,pv0_1,pv0_2,pv0_3] 29]++([Blk1 b9 [.int .i64 0,.nil,.nil,
   .nil] 29]++(pc0_1++(pc0_2++(pc0_3++(S0))))))∧fr' 39 = .bool ((((decide (v_1.K<0))||(decide ((List.length v_0.Readers:Int)≤v_1.K)))||((decide
   (v_1.Kind<4))&&(decide (v_1.Part≠0))))||((decide (v_1.Kind≠4))&&(decide (v_1.N≠0))))∧fr' 2 = .ptr b1 0∧fr' 3 = .ref [.int .i64 v_1.Kind,.int .i64 v_1.K,
   .int .i64 v_1.Part,.int .i64 v_1.N] 0∧fr' 4 = .ptr b9 0) (fun Q46 hN47=>?_) ?_
 ·simp only [List.take_succ_cons,List.take_zero]
  simp only [qc (g:=30),B0,reduceIte,reduceEqDiff]
  refine q8 (t:=(((decide (v_1.K<0))||(decide ((List.length v_0.Readers:Int)≤v_1.K)))||((decide (v_1.Kind<4))&&(decide (v_1.Part≠0)))))
    (fun hg48=>?_) (fun hg48=>?_)
  ·simp only [hg48,qc (g:=30),zy,qc (g:=34),uq,qr,qb,zk,qa,qm,B0,reduceIte,reduceEqDiff]
   exact hN47 _ _ ⟨(Sep.m4 (Sep.m4 (Sep.m4 (Sep.m4 (Sep.m4 hS45))))),by rw [orT hg48]; simp only [B0,reduceIte,reduceEqDiff],f41,f42,f43⟩
  ·simp only [hg48,qc (g:=30),qo,f42,qt,qb,Nat.reduceAdd,Nat.zero_add,Nat.add_zero,qq,qn,B0,reduceIte,reduceEqDiff]
   refine qj (v := .int .i64 v_1.Kind) rfl ?_
   simp only [hg48,qc (g:=30),qo,q9,qb,wx,qd,B0,reduceIte,reduceEqDiff]
   refine z4 4 (fun fr' h'=>Sep h' lo ([Blk1 b1 [.int .i64 v_0.Generation,pv0_1,pv0_2,pv0_3] 29]++([Blk1 b9 [.int .i64 0,.nil,.nil,
     .nil] 29]++(pc0_1++(pc0_2++(pc0_3++(S0))))))∧fr' 38 = .bool ((decide (v_1.Kind≠4))&&(decide
     (v_1.N≠0)))∧fr' 2 = .ptr b1 0∧fr' 3 = .ref [.int .i64 v_1.Kind,.int .i64 v_1.K,.int .i64 v_1.Part,
     .int .i64 v_1.N] 0∧fr' 4 = .ptr b9 0∧fr' 30 = .bool (((decide (v_1.K<0))||(decide ((List.length v_0.Readers:Int)≤v_1.K)))||((decide (v_1.Kind<4)) &&
     (decide (v_1.Part≠0))))) (fun Q49 hN50=>?_) ?_
   ·simp only [List.take_succ_cons,List.take_zero]
    simp only [qc (g:=34),B0,reduceIte,reduceEqDiff]
    refine q8 (t:=(decide (v_1.Kind≠4))) (fun hg51=>?_) (fun hg51=>?_)
    ·simp only [hg51,qc (g:=34),zf,f42,qt,qb,Nat.reduceAdd,Nat.zero_add,Nat.add_zero,qq,qn,B0,reduceIte,reduceEqDiff]
     refine qj (v := .int .i64 v_1.N) rfl ?_
     simp only [hg51,qc (g:=34),zf,q9,qb,wx,hg48,qc (g:=30),qo,qr,zk,qa,qm,B0,
       reduceIte,reduceEqDiff]
     exact hN50 _ _ ⟨(Sep.m4 (Sep.m4 (Sep.m4 (Sep.m4 (Sep.m4 hS45))))),by rw [xj hg51]; simp only [B0,reduceIte,reduceEqDiff],f41,f42,f43,by simp only [hg48,B0,
       reduceIte,reduceEqDiff]⟩
    ·simp only [hg51,qc (g:=34),jh,hg48,qc (g:=30),qo,qr,qb,zj,qa,qm,B0,reduceIte,reduceEqDiff]
     exact hN50 _ _ ⟨(Sep.m4 (Sep.m4 (Sep.m4 (Sep.m4 (Sep.m4 hS45))))),by rw [xy hg51]; simp only [B0,reduceIte,reduceEqDiff],f41,f42,f43,by simp only [hg48,B0,
       reduceIte,reduceEqDiff]⟩
   rintro fr52 h58 ⟨hS59,f53,f54,f55,f56,f57⟩
   simp only [List.drop_succ_cons,List.drop_zero]
   simp only [f57,hg48,qr,qb,zj,f53,qa,qm,B0,reduceIte,reduceEqDiff]
   exact hN47 _ _ ⟨(Sep.m4 (Sep.m4 (Sep.m4 (Sep.m4 (Sep.m4 hS59))))),by rw [orF hg48]; simp only [B0,reduceIte,reduceEqDiff],f54,f55,f56⟩
 rintro fr60 h65 ⟨hS66,f61,f62,f63,f64⟩
 simp only [List.drop_succ_cons,List.drop_zero]
 simp only [qa,q1m,f61,za,B0,reduceIte,reduceEqDiff]
 refine qz (t:=((((decide (v_1.K<0))||(decide ((List.length v_0.Readers:Int)≤v_1.K)))||((decide (v_1.Kind<4))&&(decide (v_1.Part≠0))))||((decide
   (v_1.Kind≠4))&&(decide (v_1.N≠0))))) (fun hc67=>?_) (fun hc67=>?_)
 ·rw [iteT hc67] at hF
  simp only [qf,qe,f62,qn,B0,reduceIte,reduceEqDiff]
  refine qj (v := .agg [.int .i64 v_0.Generation,pv0_1,pv0_2,pv0_3]) ((z7 (Sep.bk _ _ _ hS66)).trans rfl) ?_
  simp only [f64,zn,B0,reduceIte,reduceEqDiff]
  refine zd (us:=[.int .i64 v_0.Generation,pv0_1,pv0_2,pv0_3]) rfl (cs':=[.int .i64 v_0.Generation,pv0_1,pv0_2,
    pv0_3]) (Sep.m1 hS66) hW rfl (qk rfl (qk (SlN.one ph0_1) (qk (SlF.one ph0_2) (qk (SlF.one ph0_3) zl)))) (Nat.le_of_ble_eq_true rfl) rfl (fun h68 hS69=>?_)
  simp only [qd,qa,qx,B0,reduceIte,reduceEqDiff]
  have he:=qg hF
  subst he
  refine ka (qi (kg (bb:=b9) (oo:=0) (v := .agg [.int .i64 v_0.Generation,pv0_1,pv0_2,
    pv0_3]) (f64) ((z7 (Sep.bk _ _ _ hS69)).trans rfl)) (qi (wz (v := .bool false) (rfl)) qy)) ?_
  exact ⟨pc0_1,pc0_2,pc0_3,by first | trivial | rfl,ph0_1,ph0_2,ph0_3,(Sep.m2 (Sep.m2 (Sep.m2 (Sep.dc ((Sep.dc (hS69)))))))⟩
 rw [iteF hc67] at hF
 simp only [zh,qpr,qf,qe,f62,qt,qb,Nat.reduceAdd,Nat.zero_add,Nat.add_zero,zg,qn,B0,reduceIte,reduceEqDiff]
 refine qj (v:=pv0_1) ((z9 (Sep.bk _ _ _ hS66)).trans rfl) ?_
 simp only [f63,qt,qb,Nat.reduceAdd,Nat.zero_add,Nat.add_zero,qq,qn,B0,reduceIte,reduceEqDiff]
 refine qj (v := .int .i64 v_1.K) rfl ?_
 obtain ⟨x70,hx71,hF72⟩:=qh hF
 simp only [jo,B0,reduceIte,reduceEqDiff]
 obtain ⟨b73,hb74⟩:=SlN.isrow ph0_1 (ku hx71)
 refine qj (SlN.ia ph0_1 hb74 hx71) ?_
 obtain ⟨c75,cs76,os77,hv78,hR79,hS80⟩:=SlG.opn (SlN.toG ph0_1 hb74 Reader.RO.len) hx71 kv Reader.RO.len (Sep.m2 hS66)
 obtain ⟨v82,c83,v86,c87,hv84,hv88,rfl,rfl⟩:=hR79
 have hS81:=Sep.no2 hS80
 simp only [qn,B0,reduceIte,reduceEqDiff]
 refine qj (v := .agg [.bool x70.In,.int .i64 x70.Generation,v82,v86]) ((SlG.lds (o:=0) hv78 rfl hx71 hS81 (Nat.le_of_ble_eq_true rfl)).trans rfl) ?_
 simp only [ja,B0,reduceIte,reduceEqDiff]
 refine zw hS81 (fun b90 h91 hS92=>?_)
 simp only [zn,B0,reduceIte,reduceEqDiff]
 refine zd (us:=[.bool x70.In,.int .i64 x70.Generation,v82,v86]) rfl (cs':=[.bool x70.In,.int .i64 x70.Generation,v82,
   v86]) hS92 hW rfl (qk rfl (qk rfl (qk (SlF.one hv84) (qk (SlF.one hv88) zl)))) (Nat.le_of_ble_eq_true rfl) rfl (fun h94 hS95=>?_)
 simp only [qa,qrm,qf,qav,qqd,qe,f63,qt,qb,Nat.reduceAdd,Nat.zero_add,Nat.add_zero,qq,qn,B0,reduceIte,
   reduceEqDiff]
 refine qj (v := .int .i64 v_1.Kind) rfl ?_
 simp only [q9,qb,yx,qd,B0,reduceIte,reduceEqDiff]
 refine z4 4 (fun fr' h'=>Sep h' lo ([Blk1 b1 [.int .i64 v_0.Generation,pv0_1,pv0_2,pv0_3] 29]++([Blk1 b9 [.int .i64 0,.nil,.nil,
   .nil] 29]++([Blk1 b90 [.bool x70.In,.int .i64 x70.Generation,v82,
   v86] 37]++(c75++(pc0_2++(pc0_3++(c83++(c87++(S0)))))))))∧fr' 56 = .bool ((decide (v_1.Kind=1)) &&
   (!x70.In))∧fr' 2 = .ptr b1 0∧fr' 3 = .ref [.int .i64 v_1.Kind,.int .i64 v_1.K,.int .i64 v_1.Part,
   .int .i64 v_1.N] 0∧fr' 4 = .ptr b9 0∧fr' 6 = .ptr b90 0) (fun Q96 hN97=>?_) ?_
 ·simp only [List.take_succ_cons,List.take_zero]
  simp only [qc (g:=52),B0,reduceIte,reduceEqDiff]
  refine q8 (t:=(decide (v_1.Kind=1))) (fun hg98=>?_) (fun hg98=>?_)
  ·simp only [hg98,qc (g:=52),zf,qt,qb,Nat.reduceAdd,Nat.zero_add,Nat.add_zero,zg,qn,B0,reduceIte,reduceEqDiff]
   refine qj (v := .bool x70.In) ((z9 (Sep.bk _ _ _ hS95)).trans rfl) ?_
   simp only [hg98,qc (g:=52),zf,jf,qb,jt,qr,zk,qa,qm,B0,reduceIte,reduceEqDiff]
   exact hN97 _ _ ⟨(Sep.m7 (Sep.m7 (Sep.m5 (Sep.m5 (Sep.m7 (Sep.m7 (Sep.m3 (Sep.m3 hS95)))))))),by rw [xj hg98]; simp only [B0,reduceIte,reduceEqDiff],f62,f63,f64,rfl⟩
  ·simp only [hg98,qc (g:=52),jh,qr,qb,zj,qa,qm,B0,reduceIte,reduceEqDiff]
   exact hN97 _ _ ⟨(Sep.m7 (Sep.m7 (Sep.m5 (Sep.m5 (Sep.m7 (Sep.m7 (Sep.m3 (Sep.m3 hS95)))))))),by rw [xy hg98]; simp only [B0,reduceIte,reduceEqDiff],f62,f63,f64,rfl⟩
 rintro fr99 h105 ⟨hS106,f100,f101,f102,f103,f104⟩
 simp only [List.drop_succ_cons,List.drop_zero]
 simp only [f100,qd,B0,reduceIte,reduceEqDiff]
 refine z4 4 (fun fr' h'=>Sep h' lo ([Blk1 b1 [.int .i64 v_0.Generation,pv0_1,pv0_2,pv0_3] 29]++([Blk1 b9 [.int .i64 0,.nil,.nil,
   .nil] 29]++([Blk1 b90 [.bool x70.In,.int .i64 x70.Generation,v82,
   v86] 37]++(c75++(pc0_2++(pc0_3++(c83++(c87++(S0)))))))))∧fr' 61 = .bool (((decide (v_1.Kind=1))&&(!x70.In))&&(decide
   (v_0.Generation<1000)))∧fr' 2 = .ptr b1 0∧fr' 3 = .ref [.int .i64 v_1.Kind,.int .i64 v_1.K,.int .i64 v_1.Part,
   .int .i64 v_1.N] 0∧fr' 4 = .ptr b9 0∧fr' 6 = .ptr b90 0) (fun Q107 hN108=>?_) ?_
 ·simp only [List.take_succ_cons,List.take_zero]
  simp only [qc (g:=57),B0,reduceIte,reduceEqDiff]
  refine q8 (t:=((decide (v_1.Kind=1))&&(!x70.In))) (fun hg109=>?_) (fun hg109=>?_)
  ·simp only [hg109,qc (g:=57),zf,f101,qt,qb,Nat.reduceAdd,Nat.zero_add,Nat.add_zero,zg,qn,B0,reduceIte,reduceEqDiff]
   refine qj (v := .int .i64 v_0.Generation) ((z9 (Sep.bk _ _ _ hS106)).trans rfl) ?_
   simp only [hg109,qc (g:=57),zf,q9,qb,qeb,qr,zk,qa,qm,B0,reduceIte,reduceEqDiff]
   exact hN108 _ _ ⟨(Sep.m7 (Sep.m7 (Sep.m7 (Sep.m7 (Sep.m7 (Sep.m7 (Sep.m7 (Sep.m7 hS106)))))))),by rw [xj hg109]; simp only [B0,reduceIte,reduceEqDiff],f101,f102,
     f103,f104⟩
  ·simp only [hg109,qc (g:=57),jh,qr,qb,zj,qa,qm,B0,reduceIte,reduceEqDiff]
   exact hN108 _ _ ⟨(Sep.m7 (Sep.m7 (Sep.m7 (Sep.m7 (Sep.m7 (Sep.m7 (Sep.m7 (Sep.m7 hS106)))))))),by rw [xy hg109]; simp only [B0,reduceIte,reduceEqDiff],f101,f102,
     f103,f104⟩
 rintro fr110 h116 ⟨hS117,f111,f112,f113,f114,f115⟩
 simp only [List.drop_succ_cons,List.drop_zero]
 simp only [f111,qd,qa,qrz,za,B0,reduceIte,reduceEqDiff]
 obtain ⟨oc131,hX132,hk133⟩:=jj hF72
 refine qbs (t:=(((decide (v_1.Kind=1))&&(!x70.In))&&(decide (v_0.Generation<1000)))) (fun fr' h'=>∃ s,oc131 = .nxt s∧∃ v121 c122 v125 c126 c129,
   fr' 2 = .ptr b1 0∧fr' 3 = .ref [.int .i64 v_1.Kind,.int .i64 v_1.K,.int .i64 v_1.Part,
   .int .i64 v_1.N] 0∧fr' 4 = .ptr b9 0∧fr' 6 = .ptr b90 0∧SlF cI 1 3 v121 s.2.1.Share c122∧SlF cI 1 3 v125 s.2.1.Read c126∧SlF cI 1 3 pv0_2 s.2.2 c129∧Sep h' lo
   ([Blk1 b1 [.int .i64 s.1.Generation,pv0_1,pv0_2,pv0_3] 29]++([Blk1 b9 [.int .i64 0,.nil,.nil,.nil] 29]++([Blk1 b90 [.bool s.2.1.In,.int .i64 s.2.1.Generation,
   v121,v125] 37]++(c75++(c129++(pc0_3++(c122++(c126++(S0)))))))))) (fun Q134 hN135 hR136 hE137=>⟨fun hc138=>?_,fun hc138=>?_⟩) ?_
 ·rw [iteT hc138] at hX132
  simp only [qvt,qf,qe,f112,qt,qb,Nat.reduceAdd,Nat.zero_add,Nat.add_zero,zg,qn,B0,reduceIte,reduceEqDiff]
  refine qj (v := .int .i64 v_0.Generation) ((z9 (Sep.bk _ _ _ hS117)).trans rfl) ?_
  simp only [q9,qb,u0,f112,qt,Nat.reduceAdd,Nat.zero_add,Nat.add_zero,zg,zn,B0,reduceIte,reduceEqDiff]
  refine zd (us:=[.int .i64 (IntKind.wrap .i64 (v_0.Generation+1))]) rfl (cs':=[.int .i64 (IntKind.wrap .i64 (v_0.Generation+1)),pv0_1,pv0_2,
    pv0_3]) hS117 hW rfl rfl (Nat.le_of_ble_eq_true rfl) rfl (fun h139 hS140=>?_)
  simp only [qa,q1h,qe,f112,qt,qb,Nat.reduceAdd,Nat.zero_add,Nat.add_zero,zg,qn,B0,reduceIte,reduceEqDiff]
  refine qj (v:=pv0_3) ((z9 (Sep.bk _ _ _ hS140)).trans rfl) ?_
  obtain ⟨l141,hx142,hF143⟩:=qh hX132
  simp only [zo,qb,SlF.plen ph0_3,qh9,B0,reduceIte,reduceEqDiff]
  refine qer (f:=cI) (z:=(0:Int)) hS140 hx142 rfl (fun v144 c145 h146 hv147 hS148=>?_)
  simp only [run_build,evp,B0,reduceIte,reduceEqDiff]
  refine qj (v := .agg [.bool true,.int .i64 0,.nil,v144]) (xd (xe (us:=[.bool true]) (vs:=[.bool true,.int .i64 0,.nil,
    .nil]) rfl rfl (Nat.le_of_ble_eq_true rfl) rfl rfl (xe (us:=[v144]) (vs:=[.bool true,.int .i64 0,.nil,
    v144]) (jr (SlF.one hv147)) rfl (Nat.le_of_ble_eq_true rfl) (qk (SlF.one hv147) zl) rfl qcv))) ?_
  simp only [f115,zn,B0,reduceIte,reduceEqDiff]
  refine zd (us:=[.bool true,.int .i64 0,.nil,v144]) rfl (cs':=[.bool true,.int .i64 0,.nil,
    v144]) (Sep.m3 hS148) hW rfl (qk rfl (qk rfl (qk rfl (qk (SlF.one hv147) zl)))) (Nat.le_of_ble_eq_true rfl) rfl (fun h150 hS151=>?_)
  simp only [qa,qm,B0,reduceIte,reduceEqDiff]
  have e152:=qg hF143
  exact hN135 _ _ ⟨_,e152.symm,.nil,[],v144,c145,pc0_2,f112,f113,f114,f115,SlF.nil,hv147,ph0_2,
    ((Sep.m6 (Sep.m6 (Sep.m4 (Sep.m6 (Sep.m6 (Sep.m6 (Sep.m1 (Sep.dc (Sep.m7 (Sep.dc (Sep.m7 hS151))))))))))) : Sep _ lo ([Blk1 b1 [.int .i64 (IntKind.wrap .i64
    (v_0.Generation+1)),pv0_1,pv0_2,pv0_3] 29]++([Blk1 b9 [.int .i64 0,.nil,.nil,.nil] 29]++([Blk1 b90 [.bool true,.int .i64 0,.nil,
    v144] 37]++(c75++(pc0_2++(pc0_3++(c145++(S0)))))))))⟩
 ·rw [iteF hc138] at hX132
  simp only [qpn,qf,qe,f115,qt,qb,Nat.reduceAdd,Nat.zero_add,Nat.add_zero,zg,qn,B0,reduceIte,reduceEqDiff]
  refine qj (v := .bool x70.In) ((z9 (Sep.bk _ _ _ (Sep.m2 hS117))).trans rfl) ?_
  simp only [jf,qb,jt,qd,qa,qqi,za,B0,reduceIte,reduceEqDiff]
  refine qz (t:=(!x70.In)) (fun hc153=>?_) (fun hc153=>?_)
  ·rw [iteT hc153] at hX132
   simp only [qf,qe,f112,qn,B0,reduceIte,reduceEqDiff]
   refine qj (v := .agg [.int .i64 v_0.Generation,pv0_1,pv0_2,pv0_3]) ((z7 (Sep.bk _ _ _ hS117)).trans rfl) ?_
   simp only [f114,zn,B0,reduceIte,reduceEqDiff]
   refine zd (us:=[.int .i64 v_0.Generation,pv0_1,pv0_2,pv0_3]) rfl (cs':=[.int .i64 v_0.Generation,pv0_1,pv0_2,
     pv0_3]) (Sep.m1 hS117) hW rfl (qk rfl (qk (SlG.one hv78) (qk (SlF.one ph0_2) (qk (SlF.one ph0_3) zl)))) (Nat.le_of_ble_eq_true rfl) rfl
     (fun h154 hS155=>?_)
   simp only [qd,qa,qx,B0,reduceIte,reduceEqDiff]
   have e156:=qg hX132
   subst e156
   have hk133':=hk133
   dsimp only [jnO] at hk133'
   apply hR136
   obtain ⟨c157,hv158,hS159⟩:=SlG.cls0 (c:=c75) (os:=c83++(c87)) hv78 rfl hx71 kv (Reader.RI (x:=x70) hv84 hv88) (Sep.ni2 (c1:=c83) (c2:=c87) (Sep.m5
     (Sep.m7 (Sep.m7 hS155))))
   have hv160:=SlG.toN hv158
   have he:=qg hk133'
   subst he
   refine ka (qi (kg (bb:=b9) (oo:=0) (v := .agg [.int .i64 v_0.Generation,pv0_1,pv0_2,
     pv0_3]) (f114) ((z7 (Sep.bk _ _ _ (Sep.m1 hS159))).trans rfl)) (qi (wz (v := .bool false) (rfl)) qy)) ?_
   exact ⟨c157,pc0_2,pc0_3,by first | trivial | rfl,hv160,ph0_2,ph0_3,(Sep.m2 (Sep.m2 (Sep.m2 (Sep.dc (Sep.m1 (Sep.dc (Sep.m1 (Sep.dc (Sep.m1 hS159)))))))))⟩
  rw [iteF hc153] at hX132
  simp only [qr9,qf,qe,f113,qt,qb,Nat.reduceAdd,Nat.zero_add,Nat.add_zero,qq,qn,B0,reduceIte,reduceEqDiff]
  refine qj (v := .int .i64 v_1.Kind) rfl ?_
  simp only [q9,qb,yx,qd,B0,reduceIte,reduceEqDiff]
  refine z4 4 (fun fr' h'=>Sep h' lo ([Blk1 b1 [.int .i64 v_0.Generation,pv0_1,pv0_2,pv0_3] 29]++([Blk1 b9 [.int .i64 0,.nil,.nil,
    .nil] 29]++([Blk1 b90 [.bool x70.In,.int .i64 x70.Generation,v82,
    v86] 37]++(c75++(pc0_2++(pc0_3++(c83++(c87++(S0)))))))))∧fr' 84 = .bool ((decide (v_1.Kind=2))&&(decide
    (v_0.Generation<1000)))∧fr' 2 = .ptr b1 0∧fr' 3 = .ref [.int .i64 v_1.Kind,.int .i64 v_1.K,.int .i64 v_1.Part,
    .int .i64 v_1.N] 0∧fr' 4 = .ptr b9 0∧fr' 6 = .ptr b90 0) (fun Q161 hN162=>?_) ?_
  ·simp only [List.take_succ_cons,List.take_zero]
   simp only [qc (g:=80),B0,reduceIte,reduceEqDiff]
   refine q8 (t:=(decide (v_1.Kind=2))) (fun hg163=>?_) (fun hg163=>?_)
   ·simp only [hg163,qc (g:=80),zf,f112,qt,qb,Nat.reduceAdd,Nat.zero_add,Nat.add_zero,zg,qn,B0,reduceIte,reduceEqDiff]
    refine qj (v := .int .i64 v_0.Generation) ((z9 (Sep.bk _ _ _ hS117)).trans rfl) ?_
    simp only [hg163,qc (g:=80),zf,q9,qb,qeb,qr,zk,qa,qm,B0,reduceIte,reduceEqDiff]
    exact hN162 _ _ ⟨(Sep.m7 (Sep.m7 (Sep.m7 (Sep.m7 (Sep.m7 (Sep.m7 (Sep.m7 (Sep.m7 hS117)))))))),by rw [xj hg163]; simp only [B0,reduceIte,reduceEqDiff],f112,f113,
      f114,f115⟩
   ·simp only [hg163,qc (g:=80),jh,qr,qb,zj,qa,qm,B0,reduceIte,reduceEqDiff]
    exact hN162 _ _ ⟨(Sep.m7 (Sep.m7 (Sep.m7 (Sep.m7 (Sep.m7 (Sep.m7 (Sep.m7 (Sep.m7 hS117)))))))),by rw [xy hg163]; simp only [B0,reduceIte,reduceEqDiff],f112,f113,
      f114,f115⟩
  rintro fr164 h170 ⟨hS171,f165,f166,f167,f168,f169⟩
  simp only [List.drop_succ_cons,List.drop_zero]
  simp only [f165,qd,qa,qou,za,B0,reduceIte,reduceEqDiff]
  refine qz (t:=((decide (v_1.Kind=2))&&(decide (v_0.Generation<1000)))) (fun hc172=>?_) (fun hc172=>?_)
  ·rw [iteT hc172] at hX132
   simp only [qxf,qf,qe,f166,qt,qb,Nat.reduceAdd,Nat.zero_add,Nat.add_zero,zg,qn,B0,reduceIte,reduceEqDiff]
   refine qj (v := .int .i64 v_0.Generation) ((z9 (Sep.bk _ _ _ hS171)).trans rfl) ?_
   simp only [q9,qb,u0,f166,qt,Nat.reduceAdd,Nat.zero_add,Nat.add_zero,zg,zn,B0,reduceIte,reduceEqDiff]
   refine zd (us:=[.int .i64 (IntKind.wrap .i64 (v_0.Generation+1))]) rfl (cs':=[.int .i64 (IntKind.wrap .i64 (v_0.Generation+1)),pv0_1,pv0_2,
     pv0_3]) hS171 hW rfl rfl (Nat.le_of_ble_eq_true rfl) rfl (fun h173 hS174=>?_)
   simp only [qa,qx8,qe,f166,qt,qb,Nat.reduceAdd,Nat.zero_add,Nat.add_zero,zg,qn,B0,reduceIte,reduceEqDiff]
   refine qj (v:=pv0_3) ((z9 (Sep.bk _ _ _ hS174)).trans rfl) ?_
   obtain ⟨l175,hx176,hF177⟩:=qh hX132
   simp only [zo,qb,SlF.plen ph0_3,qh9,B0,reduceIte,reduceEqDiff]
   refine qer (f:=cI) (z:=(0:Int)) hS174 hx176 rfl (fun v178 c179 h180 hv181 hS182=>?_)
   simp only [run_build,evp,B0,reduceIte,reduceEqDiff]
   refine qj (v := .agg [.bool false,.int .i64 0,.nil,v178]) (xd (xe (us:=[v178]) (vs:=[.bool false,.int .i64 0,.nil,
     v178]) (jr (SlF.one hv181)) rfl (Nat.le_of_ble_eq_true rfl) (qk (SlF.one hv181) zl) rfl qcv)) ?_
   simp only [f169,zn,B0,reduceIte,reduceEqDiff]
   refine zd (us:=[.bool false,.int .i64 0,.nil,v178]) rfl (cs':=[.bool false,.int .i64 0,.nil,
     v178]) (Sep.m3 hS182) hW rfl (qk rfl (qk rfl (qk rfl (qk (SlF.one hv181) zl)))) (Nat.le_of_ble_eq_true rfl) rfl (fun h184 hS185=>?_)
   simp only [qa,qm,B0,reduceIte,reduceEqDiff]
   have e186:=qg hF177
   exact hN135 _ _ ⟨_,e186.symm,.nil,[],v178,c179,pc0_2,f166,f167,f168,f169,SlF.nil,hv181,ph0_2,
     ((Sep.m6 (Sep.m6 (Sep.m4 (Sep.m6 (Sep.m6 (Sep.m6 (Sep.m1 (Sep.dc (Sep.m7 (Sep.dc (Sep.m7 hS185))))))))))) : Sep _ lo ([Blk1 b1 [.int .i64 (IntKind.wrap .i64
     (v_0.Generation+1)),pv0_1,pv0_2,pv0_3] 29]++([Blk1 b9 [.int .i64 0,.nil,.nil,.nil] 29]++([Blk1 b90 [.bool false,.int .i64 0,.nil,
     v178] 37]++(c75++(pc0_2++(pc0_3++(c179++(S0)))))))))⟩
  rw [iteF hc172] at hX132
  simp only [qrp,qf,qe,f167,qt,qb,Nat.reduceAdd,Nat.zero_add,Nat.add_zero,qq,qn,B0,reduceIte,reduceEqDiff]
  refine qj (v := .int .i64 v_1.Kind) rfl ?_
  simp only [q9,qb,yx,qd,B0,reduceIte,reduceEqDiff]
  refine z4 6 (fun fr' h'=>Sep h' lo ([Blk1 b1 [.int .i64 v_0.Generation,pv0_1,pv0_2,pv0_3] 29]++([Blk1 b9 [.int .i64 0,.nil,.nil,
    .nil] 29]++([Blk1 b90 [.bool x70.In,.int .i64 x70.Generation,v82,
    v86] 37]++(c75++(pc0_2++(pc0_3++(c83++(c87++(S0)))))))))∧fr' 104 = .bool ((decide (v_1.Kind=3))&&(decide
    (x70.Generation≠v_0.Generation)))∧fr' 2 = .ptr b1 0∧fr' 3 = .ref [.int .i64 v_1.Kind,.int .i64 v_1.K,.int .i64 v_1.Part,
    .int .i64 v_1.N] 0∧fr' 4 = .ptr b9 0∧fr' 6 = .ptr b90 0) (fun Q187 hN188=>?_) ?_
  ·simp only [List.take_succ_cons,List.take_zero]
   simp only [qc (g:=98),B0,reduceIte,reduceEqDiff]
   refine q8 (t:=(decide (v_1.Kind=3))) (fun hg189=>?_) (fun hg189=>?_)
   ·simp only [hg189,qc (g:=98),zf,f169,qt,qb,Nat.reduceAdd,Nat.zero_add,Nat.add_zero,zg,qn,B0,reduceIte,reduceEqDiff]
    refine qj (v := .int .i64 x70.Generation) ((z9 (Sep.bk _ _ _ (Sep.m2 hS171))).trans rfl) ?_
    simp only [hg189,qc (g:=98),zf,f166,qt,qb,Nat.reduceAdd,Nat.zero_add,Nat.add_zero,zg,qn,B0,reduceIte,reduceEqDiff]
    refine qj (v := .int .i64 v_0.Generation) ((z9 (Sep.bk _ _ _ hS171)).trans rfl) ?_
    simp only [hg189,qc (g:=98),zf,q9,qb,wx,qr,zk,qa,qm,B0,reduceIte,reduceEqDiff]
    exact hN188 _ _ ⟨(Sep.m7 (Sep.m7 (Sep.m7 (Sep.m7 (Sep.m7 (Sep.m7 (Sep.m7 (Sep.m7 hS171)))))))),by rw [xj hg189]; simp only [B0,reduceIte,reduceEqDiff],f166,f167,
      f168,f169⟩
   ·simp only [hg189,qc (g:=98),jh,qr,qb,zj,qa,qm,B0,reduceIte,reduceEqDiff]
    exact hN188 _ _ ⟨(Sep.m7 (Sep.m7 (Sep.m7 (Sep.m7 (Sep.m7 (Sep.m7 (Sep.m7 (Sep.m7 hS171)))))))),by rw [xy hg189]; simp only [B0,reduceIte,reduceEqDiff],f166,f167,
      f168,f169⟩
  rintro fr190 h196 ⟨hS197,f191,f192,f193,f194,f195⟩
  simp only [List.drop_succ_cons,List.drop_zero]
  simp only [f191,qd,qa,qo8,za,B0,reduceIte,reduceEqDiff]
  refine qz (t:=((decide (v_1.Kind=3))&&(decide (x70.Generation≠v_0.Generation)))) (fun hc198=>?_) (fun hc198=>?_)
  ·rw [iteT hc198] at hX132
   simp only [qqf,qf,qe,f192,qt,qb,Nat.reduceAdd,Nat.zero_add,Nat.add_zero,zg,qn,B0,reduceIte,reduceEqDiff]
   refine qj (v := .int .i64 v_0.Generation) ((z9 (Sep.bk _ _ _ hS197)).trans rfl) ?_
   simp only [f195,qt,qb,Nat.reduceAdd,Nat.zero_add,Nat.add_zero,zg,zn,B0,reduceIte,reduceEqDiff]
   refine zd (us:=[.int .i64 v_0.Generation]) rfl (cs':=[.bool x70.In,.int .i64 v_0.Generation,v82,
     v86]) (Sep.m2 hS197) hW rfl rfl (Nat.le_of_ble_eq_true rfl) rfl (fun h199 hS200=>?_)
   simp only [qa,qqx,qf,qe,f192,qn,B0,reduceIte,reduceEqDiff]
   refine qj (v := .agg [.int .i64 v_0.Generation,pv0_1,pv0_2,pv0_3]) ((z7 (Sep.bk _ _ _ (Sep.m1 hS200))).trans rfl) ?_
   simp only [f193,qt,qb,Nat.reduceAdd,Nat.zero_add,Nat.add_zero,qq,qn,B0,reduceIte,reduceEqDiff]
   refine qj (v := .int .i64 v_1.K) rfl ?_
   obtain ⟨c201,hv202,hS203⟩:=SlG.cls0 (c:=c75) (os:=c83++(c87)) hv78 rfl hx71 kv (Reader.RI (x:=x70) hv84 hv88) (Sep.ni2 (c1:=c83) (c2:=c87) (Sep.m5
     (Sep.m7 (Sep.m7 hS200))))
   have hv204:=SlG.toN hv202
   obtain ⟨v205,hx206,hF207⟩:=qh hX132
   simp only [qw,B0,reduceIte,reduceEqDiff]
   refine xz rfl hS200 (qi (jb (qi qs (qi (SlN.snap hv204 _ hS203 rfl Reader.RO) (qi (SlF.snap ph0_2 (Sep.m4 hS203) rfl (fun _=>rfl)
     (fun _=>rfl)) (qi (SlF.snap ph0_3 (Sep.m5 hS203) rfl (fun _=>rfl) (fun _=>rfl)) qy))))) (qi qs qy)) (qds
     (fun b hb=>decide_eq_true hb) v_0 v_1.K v205 hx206) ?_
   rintro v208 h212 ⟨_,c209,rfl,hv210,hS213⟩
   refine ⟨_,qgs (SlF.free1 hv210),hS213,(z0 (SlF.pf hv210 (fun _=>rfl)) yc),fun h214 hS215=>?_⟩
   have hS216:Sep h214 lo (c209++([Blk1 b90 [.bool x70.In,.int .i64 v_0.Generation,v82,v86] 37]++([Blk1 b1 [.int .i64 v_0.Generation,pv0_1,pv0_2,
     pv0_3] 29]++([Blk1 b9 [.int .i64 0,.nil,.nil,.nil] 29]++(c75++(pc0_2++(pc0_3++(c83++(c87++(S0)))))))))):=by simpa only [List.append_assoc,
     List.nil_append] using hS215
   simp only [f195,qt,qb,Nat.reduceAdd,Nat.zero_add,Nat.add_zero,zg,zn,B0,reduceIte,reduceEqDiff]
   refine zd (us:=[v208]) (jr (SlF.one hv210)) (cs':=[.bool x70.In,.int .i64 v_0.Generation,v208,
     v86]) (Sep.m1 hS216) hW rfl (qk (SlF.one hv210) zl) (Nat.le_of_ble_eq_true rfl) rfl (fun h217 hS218=>?_)
   simp only [qa,qpa,qf,qe,f192,qt,qb,Nat.reduceAdd,Nat.zero_add,Nat.add_zero,zg,qn,B0,reduceIte,reduceEqDiff]
   refine qj (v:=pv0_3) ((z9 (Sep.bk _ _ _ (Sep.m2 hS218))).trans rfl) ?_
   obtain ⟨l219,hx220,hF221⟩:=qh hF207
   simp only [zo,qb,SlF.plen ph0_3,qh9,B0,reduceIte,reduceEqDiff]
   refine qer (f:=cI) (z:=(0:Int)) hS218 hx220 rfl (fun v222 c223 h224 hv225 hS226=>?_)
   simp only [f195,qt,qb,Nat.reduceAdd,Nat.zero_add,Nat.add_zero,zg,zn,B0,reduceIte,reduceEqDiff]
   refine zd (us:=[v222]) (jr (SlF.one hv225)) (cs':=[.bool x70.In,.int .i64 v_0.Generation,v208,
     v222]) (Sep.m1 hS226) hW rfl (qk (SlF.one hv225) zl) (Nat.le_of_ble_eq_true rfl) rfl (fun h228 hS229=>?_)
   simp only [qa,qsz,qf,qe,f195,qt,qb,Nat.reduceAdd,Nat.zero_add,Nat.add_zero,zg,qn,B0,reduceIte,reduceEqDiff]
   refine qj (v:=v208) ((z9 (Sep.bk _ _ _ hS229)).trans rfl) ?_
   simp only [zo,qb,SlF.plen hv210,qd,qa,B0,reduceIte,reduceEqDiff]
   obtain ⟨oc238,hX240,hk241⟩:=jj hF221
   simp only [qwe]
   refine qbr (σ:=(List Int)) (fun i236 s282=>qdx v_0 v205 i236 s282) (fun s fr' h'=>∃ c234,fr' 2 = .ptr b1 0∧fr' 3 = .ref [.int .i64 v_1.Kind,
     .int .i64 v_1.K,.int .i64 v_1.Part,.int .i64 v_1.N] 0∧fr' 4 = .ptr b9 0∧fr' 6 = .ptr b90 0∧fr' 119=v208∧SlF cI 1 3 v222 s c234∧Sep h' lo
     ([Blk1 b1 [.int .i64 v_0.Generation,pv0_1,pv0_2,pv0_3] 29]++([Blk1 b9 [.int .i64 0,.nil,.nil,.nil] 29]++([Blk1 b90 [.bool x70.In,.int .i64 v_0.Generation,
     v208,v222] 37]++(c209++(c75++(pc0_2++(pc0_3++(c234++(c83++(c87++(S0)))))))))))) hX240 ⟨c223,f192,f193,f194,f195,rfl,hv225,
     (Sep.m9 (Sep.m9 (Sep.m7 (Sep.m7 (Sep.m9 (Sep.m9 (Sep.m9 (Sep.m3 (Sep.m9 (Sep.m9 hS229))))))))))⟩ (by simp only [B0,reduceIte,reduceEqDiff]) (by simp only [B0,
     reduceIte,reduceEqDiff]) (fun _ _ _ h=>h) rfl rfl (fun _ _ _ _ h=>h) (fun _ _ _ _ h=>h) (fun _ _ _ _ h=>h) (by decide) ?_ ?_
   ·rintro i236 s233 fr250 h251 hx258 ⟨c234,f253,f254,f255,f256,f257,hv235,hS252⟩ f259 f260 oc239 hF242 hr243 Q244 hN245 hB249 hK246 hR247 hE248
    unfold qdx at hF242
    obtain ⟨x261,hx262,hF263⟩:=qh hF242
    simp only [qur,qf,qe,f257,f259,jo,B0,reduceIte,reduceEqDiff]
    obtain ⟨b264,hb265⟩:=SlF.isrow hv210 (ku hx262)
    refine qj (SlF.ia hv210 hb265 hx262) ?_
    simp only [qn,B0,reduceIte,reduceEqDiff]
    refine qj (v := .int .i64 x261) ((SlF.ld (o:=0) hv210 (Sep.m3 hS252) hb265 hx262 (fun _=>rfl) (Nat.le_of_ble_eq_true rfl)).trans rfl) ?_
    simp only [qd,qa,qzq,jc,f256,zv,ql,Nat.reduceAdd,Nat.zero_add,Nat.add_zero,zg,zm,B0,reduceIte,reduceEqDiff]
    refine qp (v:=v222) ((z9 (Sep.bk _ _ _ (Sep.m2 hS252))).trans rfl) ?_
    simp only [z8,ql,f253,zv,Nat.reduceAdd,Nat.zero_add,Nat.add_zero,zg,zm,B0,reduceIte,reduceEqDiff]
    refine qp (v:=pv0_2) ((z9 (Sep.bk _ _ _ hS252)).trans rfl) ?_
    obtain ⟨x266,hx267,hF268⟩:=qh hF263
    simp only [z8,ql,yj,B0,reduceIte,reduceEqDiff]
    obtain ⟨b269,hb270⟩:=SlF.isrow ph0_2 (ku hx267)
    refine qp (SlF.ia ph0_2 hb270 hx267) ?_
    simp only [zm,B0,reduceIte,reduceEqDiff]
    refine qp (v := .int .i64 x266) ((SlF.ld (o:=0) ph0_2 (Sep.m5 hS252) hb270 hx267 (fun _=>rfl) (Nat.le_of_ble_eq_true rfl)).trans rfl) ?_
    obtain ⟨x271,hx272,hF273⟩:=qh hF268
    simp only [yj,B0,reduceIte,reduceEqDiff]
    obtain ⟨b274,hb275⟩:=SlF.isrow hv235 (ku hx272)
    refine qp (SlF.ia hv235 hb275 hx272) ?_
    simp only [xb,B0,reduceIte,reduceEqDiff]
    refine qbk (f:=cI) (x':=x266) (o:=0) hv235 (Sep.m7 hS252) hW hb275 hx272 (fun _=>rfl) rfl rfl (Nat.le_of_ble_eq_true rfl) rfl
      (fun c278 h276 hv279 hS277=>?_)
    have hx280:=wb (x':=x266) hx272
    simp only [zc,qm,B0,reduceIte,reduceEqDiff]
    have e281:=qg hF273
    exact hN245 _ _ _ e281.symm ⟨c278,f253,f254,f255,f256,f257,hv279,
      (Sep.m9 (Sep.m9 (Sep.m9 (Sep.m9 (Sep.m9 (Sep.m9 (Sep.m9 (Sep.m2 (Sep.m9 (Sep.m9 hS277))))))))))⟩ (f259) (f260)
   rintro s283 fr286 h287 rfl ⟨c284,f289,f290,f291,f292,f293,hv285,hS288⟩
   dsimp only [jnO] at hk241
   unfold qgb at hk241
   simp only [qm,B0,reduceIte,reduceEqDiff]
   have e294:=qg hk241
   exact hN135 _ _ ⟨_,e294.symm,v208,c209,v222,c284,pc0_2,f289,f290,f291,f292,hv210,hv285,ph0_2,
     (Sep.m7 (Sep.m7 (Sep.m7 (Sep.m7 (Sep.m7 (Sep.m7 (Sep.m4 (Sep.m7 (Sep.dc (Sep.m8 (Sep.dc (Sep.m8 hS288))))))))))))⟩
  rw [iteF hc198] at hX132
  simp only [qo1,qf,qe,f193,qt,qb,Nat.reduceAdd,Nat.zero_add,Nat.add_zero,qq,qn,B0,reduceIte,reduceEqDiff]
  refine qj (v := .int .i64 v_1.Kind) rfl ?_
  simp only [q9,qb,yx,qd,B0,reduceIte,reduceEqDiff]
  obtain ⟨v299,hx300,hF301⟩:=qh hX132
  refine z4 6 (fun fr' h'=>Sep h' lo ([Blk1 b1 [.int .i64 v_0.Generation,pv0_1,pv0_2,pv0_3] 29]++([Blk1 b9 [.int .i64 0,.nil,.nil,
    .nil] 29]++([Blk1 b90 [.bool x70.In,.int .i64 x70.Generation,v82,
    v86] 37]++(c75++(pc0_2++(pc0_3++(c83++(c87++(S0)))))))))∧fr' 145 = .bool v299∧fr' 2 = .ptr b1 0∧fr' 3 = .ref [.int .i64 v_1.Kind,.int .i64 v_1.K,
    .int .i64 v_1.Part,.int .i64 v_1.N] 0∧fr' 4 = .ptr b9 0∧fr' 6 = .ptr b90 0) (fun Q296 hN297=>?_) ?_
  ·simp only [List.take_succ_cons,List.take_zero]
   simp only [qc (g:=139),B0,reduceIte,reduceEqDiff]
   refine q8 (t:=(decide (v_1.Kind=4))) (fun hg298=>?_) (fun hg298=>?_)
   ·rw [iteT hg298] at hx300
    simp only [hg298,qc (g:=139),zf,f195,qt,qb,Nat.reduceAdd,Nat.zero_add,Nat.add_zero,zg,qn,B0,reduceIte,reduceEqDiff]
    refine qj (v:=v82) ((z9 (Sep.bk _ _ _ (Sep.m2 hS197))).trans rfl) ?_
    simp only [hg298,qc (g:=139),zf,f193,qt,qb,Nat.reduceAdd,Nat.zero_add,Nat.add_zero,qq,qn,B0,reduceIte,reduceEqDiff]
    refine qj (v := .int .i64 v_1.Part) rfl ?_
    obtain ⟨v302,hx303,hF304⟩:=qh hx300
    simp only [hg298,qc (g:=139),zf,qw,B0,reduceIte,reduceEqDiff]
    refine je rfl (qi (SlF.snap hv84 (Sep.m6 hS197) rfl (fun _=>rfl) (fun _=>rfl)) (qi qs qy)) (qch
      (fun b hb=>decide_eq_true hb) x70.Share v_1.Part v302 hx303) ?_
    simp only [hg298,qr,qb,zk,qa,qm,B0,reduceIte,reduceEqDiff]
    have e305:=qg hF304
    exact hN297 _ _ ⟨(Sep.m7 (Sep.m7 (Sep.m7 (Sep.m7 (Sep.m7 (Sep.m7 (Sep.m7 (Sep.m7 hS197)))))))),by rw [←e305]; simp only [B0,reduceIte,reduceEqDiff],f192,f193,f194,
      f195⟩
   ·rw [iteF hg298] at hx300
    simp only [hg298,qc (g:=139),jh,qr,qb,zj,qa,qm,B0,reduceIte,reduceEqDiff]
    have e306:=qg hx300
    exact hN297 _ _ ⟨(Sep.m7 (Sep.m7 (Sep.m7 (Sep.m7 (Sep.m7 (Sep.m7 (Sep.m7 (Sep.m7 hS197)))))))),by rw [←e306]; simp only [B0,reduceIte,reduceEqDiff],f192,f193,f194,
      f195⟩
  rintro fr307 h313 ⟨hS314,f308,f309,f310,f311,f312⟩
  simp only [List.drop_succ_cons,List.drop_zero]
  simp only [f308,qd,B0,reduceIte,reduceEqDiff]
  refine z4 4 (fun fr' h'=>Sep h' lo ([Blk1 b1 [.int .i64 v_0.Generation,pv0_1,pv0_2,pv0_3] 29]++([Blk1 b9 [.int .i64 0,.nil,.nil,
    .nil] 29]++([Blk1 b90 [.bool x70.In,.int .i64 x70.Generation,v82,
    v86] 37]++(c75++(pc0_2++(pc0_3++(c83++(c87++(S0)))))))))∧fr' 150 = .bool (v299&&(decide
    ((1:Int)≤v_1.N)))∧fr' 2 = .ptr b1 0∧fr' 3 = .ref [.int .i64 v_1.Kind,.int .i64 v_1.K,.int .i64 v_1.Part,
    .int .i64 v_1.N] 0∧fr' 4 = .ptr b9 0∧fr' 6 = .ptr b90 0) (fun Q315 hN316=>?_) ?_
  ·simp only [List.take_succ_cons,List.take_zero]
   simp only [qc (g:=146),B0,reduceIte,reduceEqDiff]
   refine q8 (t:=v299) (fun hg317=>?_) (fun hg317=>?_)
   ·simp only [hg317,qc (g:=146),zf,f310,qt,qb,Nat.reduceAdd,Nat.zero_add,Nat.add_zero,qq,qn,B0,reduceIte,reduceEqDiff]
    refine qj (v := .int .i64 v_1.N) rfl ?_
    simp only [hg317,qc (g:=146),zf,q9,qb,qd5,qr,zk,qa,qm,B0,reduceIte,reduceEqDiff]
    exact hN316 _ _ ⟨(Sep.m7 (Sep.m7 (Sep.m7 (Sep.m7 (Sep.m7 (Sep.m7 (Sep.m7 (Sep.m7 hS314)))))))),by rw [xj hg317]; simp only [B0,reduceIte,reduceEqDiff],f309,f310,
      f311,f312⟩
   ·simp only [hg317,qc (g:=146),jh,qr,qb,zj,qa,qm,B0,reduceIte,reduceEqDiff]
    exact hN316 _ _ ⟨(Sep.m7 (Sep.m7 (Sep.m7 (Sep.m7 (Sep.m7 (Sep.m7 (Sep.m7 (Sep.m7 hS314)))))))),by rw [xy hg317]; simp only [B0,reduceIte,reduceEqDiff],f309,f310,
      f311,f312⟩
  rintro fr318 h324 ⟨hS325,f319,f320,f321,f322,f323⟩
  simp only [List.drop_succ_cons,List.drop_zero]
  simp only [f319,qd,qa,qry,za,B0,reduceIte,reduceEqDiff]
  refine qz (t:=(v299&&(decide ((1:Int)≤v_1.N)))) (fun hc326=>?_) (fun hc326=>?_)
  ·rw [iteT hc326] at hF301
   simp only [qsb,qf,jc,f321,zv,ql,Nat.reduceAdd,Nat.zero_add,Nat.add_zero,qq,zm,B0,reduceIte,reduceEqDiff]
   refine qp (v := .int .i64 v_1.N) rfl ?_
   simp only [f320,zv,ql,Nat.reduceAdd,Nat.zero_add,Nat.add_zero,zg,zm,B0,reduceIte,reduceEqDiff]
   refine qp (v:=pv0_3) ((z9 (Sep.bk _ _ _ hS325)).trans rfl) ?_
   simp only [f321,zv,ql,Nat.reduceAdd,Nat.zero_add,Nat.add_zero,qq,zm,B0,reduceIte,reduceEqDiff]
   refine qp (v := .int .i64 v_1.Part) rfl ?_
   obtain ⟨x327,hx328,hF329⟩:=qh hF301
   simp only [yj,B0,reduceIte,reduceEqDiff]
   obtain ⟨b330,hb331⟩:=SlF.isrow ph0_3 (ku hx328)
   refine qp (SlF.ia ph0_3 hb331 hx328) ?_
   simp only [zm,B0,reduceIte,reduceEqDiff]
   refine qp (v := .int .i64 x327) ((SlF.ld (o:=0) ph0_3 (Sep.m5 hS325) hb331 hx328 (fun _=>rfl) (Nat.le_of_ble_eq_true rfl)).trans rfl) ?_
   simp only [f323,zv,ql,Nat.reduceAdd,Nat.zero_add,Nat.add_zero,zg,zm,B0,reduceIte,reduceEqDiff]
   refine qp (v:=v86) ((z9 (Sep.bk _ _ _ (Sep.m2 hS325))).trans rfl) ?_
   simp only [f321,zv,ql,Nat.reduceAdd,Nat.zero_add,Nat.add_zero,qq,zm,B0,reduceIte,reduceEqDiff]
   refine qp (v := .int .i64 v_1.Part) rfl ?_
   obtain ⟨x332,hx333,hF334⟩:=qh hF329
   simp only [yj,B0,reduceIte,reduceEqDiff]
   obtain ⟨b335,hb336⟩:=SlF.isrow hv88 (ku hx333)
   refine qp (SlF.ia hv88 hb336 hx333) ?_
   simp only [zm,B0,reduceIte,reduceEqDiff]
   refine qp (v := .int .i64 x332) ((SlF.ld (o:=0) hv88 (Sep.m7 hS325) hb336 hx333 (fun _=>rfl) (Nat.le_of_ble_eq_true rfl)).trans rfl) ?_
   simp only [yh,ql,qdm,qd5,zc,qpu,za,B0,reduceIte,reduceEqDiff]
   refine qz (t:=(decide ((IntKind.wrap .i64 (x327 - x332))≤v_1.N))) (fun hc337=>?_) (fun hc337=>?_)
   ·rw [iteT hc337] at hF334
    simp only [qri,jc,f323,zv,ql,Nat.reduceAdd,Nat.zero_add,Nat.add_zero,zg,zm,B0,reduceIte,reduceEqDiff]
    refine qp (v:=v86) ((z9 (Sep.bk _ _ _ (Sep.m2 hS325))).trans rfl) ?_
    simp only [f321,zv,ql,Nat.reduceAdd,Nat.zero_add,Nat.add_zero,qq,zm,B0,reduceIte,reduceEqDiff]
    refine qp (v := .int .i64 v_1.Part) rfl ?_
    simp only [f320,zv,ql,Nat.reduceAdd,Nat.zero_add,Nat.add_zero,zg,zm,B0,reduceIte,reduceEqDiff]
    refine qp (v:=pv0_3) ((z9 (Sep.bk _ _ _ hS325)).trans rfl) ?_
    simp only [f321,zv,ql,Nat.reduceAdd,Nat.zero_add,Nat.add_zero,qq,zm,B0,reduceIte,reduceEqDiff]
    refine qp (v := .int .i64 v_1.Part) rfl ?_
    simp only [yj,B0,reduceIte,reduceEqDiff]
    refine qp (SlF.ia ph0_3 hb331 hx328) ?_
    simp only [zm,B0,reduceIte,reduceEqDiff]
    refine qp (v := .int .i64 x327) ((SlF.ld (o:=0) ph0_3 (Sep.m5 hS325) hb331 hx328 (fun _=>rfl) (Nat.le_of_ble_eq_true rfl)).trans rfl) ?_
    simp only [yj,B0,reduceIte,reduceEqDiff]
    refine qp (SlF.ia hv88 hb336 hx333) ?_
    simp only [xb,B0,reduceIte,reduceEqDiff]
    refine qbk (f:=cI) (x':=x327) (o:=0) hv88 (Sep.m7 hS325) hW hb336 hx333 (fun _=>rfl) rfl rfl (Nat.le_of_ble_eq_true rfl) rfl (fun c340 h338 hv341 hS339=>?_)
    have hx342:=wb (x':=x327) hx333
    simp only [zc,qm,B0,reduceIte,reduceEqDiff]
    have e343:=qg hF334
    exact hN135 _ _ ⟨_,e343.symm,v82,c83,v86,c340,pc0_2,f320,f321,f322,f323,hv84,hv341,ph0_2,(Sep.m7 (Sep.m7 (Sep.m7 (Sep.m7 (Sep.m7 (Sep.m7 (Sep.m7 hS339)))))))⟩
   rw [iteF hc337] at hF334
   simp only [qpc,jc,f323,zv,ql,Nat.reduceAdd,Nat.zero_add,Nat.add_zero,zg,zm,B0,reduceIte,reduceEqDiff]
   refine qp (v:=v86) ((z9 (Sep.bk _ _ _ (Sep.m2 hS325))).trans rfl) ?_
   simp only [f321,zv,ql,Nat.reduceAdd,Nat.zero_add,Nat.add_zero,qq,zm,B0,reduceIte,reduceEqDiff]
   refine qp (v := .int .i64 v_1.Part) rfl ?_
   simp only [yj,B0,reduceIte,reduceEqDiff]
   refine qp (SlF.ia hv88 hb336 hx333) ?_
   simp only [zm,B0,reduceIte,reduceEqDiff]
   refine qp (v := .int .i64 x332) ((SlF.ld (o:=0) hv88 (Sep.m7 hS325) hb336 hx333 (fun _=>rfl) (Nat.le_of_ble_eq_true rfl)).trans rfl) ?_
   simp only [f321,zv,ql,Nat.reduceAdd,Nat.zero_add,Nat.add_zero,qq,zm,B0,reduceIte,reduceEqDiff]
   refine qp (v := .int .i64 v_1.N) rfl ?_
   simp only [yh,ql,u0,yj,B0,reduceIte,reduceEqDiff]
   refine qp (SlF.ia hv88 hb336 hx333) ?_
   simp only [xb,B0,reduceIte,reduceEqDiff]
   refine qbk (f:=cI) (x':=(IntKind.wrap .i64 (x332+v_1.N))) (o:=0) hv88 (Sep.m7 hS325) hW hb336 hx333 (fun _=>rfl) rfl rfl (Nat.le_of_ble_eq_true rfl) rfl
     (fun c346 h344 hv347 hS345=>?_)
   have hx348:=wb (x':=(IntKind.wrap .i64 (x332+v_1.N))) hx333
   simp only [zc,qm,B0,reduceIte,reduceEqDiff]
   have e349:=qg hF334
   exact hN135 _ _ ⟨_,e349.symm,v82,c83,v86,c346,pc0_2,f320,f321,f322,f323,hv84,hv347,ph0_2,(Sep.m7 (Sep.m7 (Sep.m7 (Sep.m7 (Sep.m7 (Sep.m7 (Sep.m7 hS345)))))))⟩
  rw [iteF hc326] at hF301
  simp only [qpw,qf,qe,f321,qt,qb,Nat.reduceAdd,Nat.zero_add,Nat.add_zero,qq,qn,B0,reduceIte,reduceEqDiff]
  refine qj (v := .int .i64 v_1.Kind) rfl ?_
  simp only [q9,qb,yx,qd,B0,reduceIte,reduceEqDiff]
  refine z4 6 (fun fr' h'=>Sep h' lo ([Blk1 b1 [.int .i64 v_0.Generation,pv0_1,pv0_2,pv0_3] 29]++([Blk1 b9 [.int .i64 0,.nil,.nil,
    .nil] 29]++([Blk1 b90 [.bool x70.In,.int .i64 x70.Generation,v82,
    v86] 37]++(c75++(pc0_2++(pc0_3++(c83++(c87++(S0)))))))))∧fr' 198 = .bool ((decide (v_1.Kind=5))&&(decide
    (x70.Generation=v_0.Generation)))∧fr' 2 = .ptr b1 0∧fr' 3 = .ref [.int .i64 v_1.Kind,.int .i64 v_1.K,.int .i64 v_1.Part,
    .int .i64 v_1.N] 0∧fr' 4 = .ptr b9 0∧fr' 6 = .ptr b90 0) (fun Q350 hN351=>?_) ?_
  ·simp only [List.take_succ_cons,List.take_zero]
   simp only [qc (g:=192),B0,reduceIte,reduceEqDiff]
   refine q8 (t:=(decide (v_1.Kind=5))) (fun hg352=>?_) (fun hg352=>?_)
   ·simp only [hg352,qc (g:=192),zf,f323,qt,qb,Nat.reduceAdd,Nat.zero_add,Nat.add_zero,zg,qn,B0,reduceIte,reduceEqDiff]
    refine qj (v := .int .i64 x70.Generation) ((z9 (Sep.bk _ _ _ (Sep.m2 hS325))).trans rfl) ?_
    simp only [hg352,qc (g:=192),zf,f320,qt,qb,Nat.reduceAdd,Nat.zero_add,Nat.add_zero,zg,qn,B0,reduceIte,reduceEqDiff]
    refine qj (v := .int .i64 v_0.Generation) ((z9 (Sep.bk _ _ _ hS325)).trans rfl) ?_
    simp only [hg352,qc (g:=192),zf,q9,qb,yx,qr,zk,qa,qm,B0,reduceIte,reduceEqDiff]
    exact hN351 _ _ ⟨(Sep.m7 (Sep.m7 (Sep.m7 (Sep.m7 (Sep.m7 (Sep.m7 (Sep.m7 (Sep.m7 hS325)))))))),by rw [xj hg352]; simp only [B0,reduceIte,reduceEqDiff],f320,f321,
      f322,f323⟩
   ·simp only [hg352,qc (g:=192),jh,qr,qb,zj,qa,qm,B0,reduceIte,reduceEqDiff]
    exact hN351 _ _ ⟨(Sep.m7 (Sep.m7 (Sep.m7 (Sep.m7 (Sep.m7 (Sep.m7 (Sep.m7 (Sep.m7 hS325)))))))),by rw [xy hg352]; simp only [B0,reduceIte,reduceEqDiff],f320,f321,
      f322,f323⟩
  rintro fr353 h359 ⟨hS360,f354,f355,f356,f357,f358⟩
  simp only [List.drop_succ_cons,List.drop_zero]
  simp only [f354,qd,B0,reduceIte,reduceEqDiff]
  obtain ⟨v364,hx365,hF366⟩:=qh hF301
  refine z4 6 (fun fr' h'=>Sep h' lo ([Blk1 b1 [.int .i64 v_0.Generation,pv0_1,pv0_2,pv0_3] 29]++([Blk1 b9 [.int .i64 0,.nil,.nil,
    .nil] 29]++([Blk1 b90 [.bool x70.In,.int .i64 x70.Generation,v82,
    v86] 37]++(c75++(pc0_2++(pc0_3++(c83++(c87++(S0)))))))))∧fr' 205 = .bool v364∧fr' 2 = .ptr b1 0∧fr' 3 = .ref [.int .i64 v_1.Kind,.int .i64 v_1.K,
    .int .i64 v_1.Part,.int .i64 v_1.N] 0∧fr' 4 = .ptr b9 0∧fr' 6 = .ptr b90 0) (fun Q361 hN362=>?_) ?_
  ·simp only [List.take_succ_cons,List.take_zero]
   simp only [qc (g:=199),B0,reduceIte,reduceEqDiff]
   refine q8 (t:=((decide (v_1.Kind=5))&&(decide (x70.Generation=v_0.Generation)))) (fun hg363=>?_) (fun hg363=>?_)
   ·rw [iteT hg363] at hx365
    simp only [hg363,qc (g:=199),zf,f358,qt,qb,Nat.reduceAdd,Nat.zero_add,Nat.add_zero,zg,qn,B0,reduceIte,reduceEqDiff]
    refine qj (v:=v82) ((z9 (Sep.bk _ _ _ (Sep.m2 hS360))).trans rfl) ?_
    simp only [hg363,qc (g:=199),zf,f356,qt,qb,Nat.reduceAdd,Nat.zero_add,Nat.add_zero,qq,qn,B0,reduceIte,reduceEqDiff]
    refine qj (v := .int .i64 v_1.Part) rfl ?_
    obtain ⟨v367,hx368,hF369⟩:=qh hx365
    simp only [hg363,qc (g:=199),zf,qw,B0,reduceIte,reduceEqDiff]
    refine je rfl (qi (SlF.snap hv84 (Sep.m6 hS360) rfl (fun _=>rfl) (fun _=>rfl)) (qi qs qy)) (qch
      (fun b hb=>decide_eq_true hb) x70.Share v_1.Part v367 hx368) ?_
    simp only [hg363,qr,qb,zk,qa,qm,B0,reduceIte,reduceEqDiff]
    have e370:=qg hF369
    exact hN362 _ _ ⟨(Sep.m7 (Sep.m7 (Sep.m7 (Sep.m7 (Sep.m7 (Sep.m7 (Sep.m7 (Sep.m7 hS360)))))))),by rw [←e370]; simp only [B0,reduceIte,reduceEqDiff],f355,f356,f357,
      f358⟩
   ·rw [iteF hg363] at hx365
    simp only [hg363,qc (g:=199),jh,qr,qb,zj,qa,qm,B0,reduceIte,reduceEqDiff]
    have e371:=qg hx365
    exact hN362 _ _ ⟨(Sep.m7 (Sep.m7 (Sep.m7 (Sep.m7 (Sep.m7 (Sep.m7 (Sep.m7 (Sep.m7 hS360)))))))),by rw [←e371]; simp only [B0,reduceIte,reduceEqDiff],f355,f356,f357,
      f358⟩
  rintro fr372 h378 ⟨hS379,f373,f374,f375,f376,f377⟩
  simp only [List.drop_succ_cons,List.drop_zero]
  simp only [f373,qd,qa,qo0,za,B0,reduceIte,reduceEqDiff]
  refine qz (t:=v364) (fun hc380=>?_) (fun hc380=>?_)
  ·rw [iteT hc380] at hF366
   simp only [qp4,qf,jc,f377,zv,ql,Nat.reduceAdd,Nat.zero_add,Nat.add_zero,zg,zm,B0,reduceIte,reduceEqDiff]
   refine qp (v:=v86) ((z9 (Sep.bk _ _ _ (Sep.m2 hS379))).trans rfl) ?_
   simp only [f375,zv,ql,Nat.reduceAdd,Nat.zero_add,Nat.add_zero,qq,zm,B0,reduceIte,reduceEqDiff]
   refine qp (v := .int .i64 v_1.Part) rfl ?_
   obtain ⟨x381,hx382,hF383⟩:=qh hF366
   simp only [yj,B0,reduceIte,reduceEqDiff]
   obtain ⟨b384,hb385⟩:=SlF.isrow hv88 (ku hx382)
   refine qp (SlF.ia hv88 hb385 hx382) ?_
   simp only [zm,B0,reduceIte,reduceEqDiff]
   refine qp (v := .int .i64 x381) ((SlF.ld (o:=0) hv88 (Sep.m7 hS379) hb385 hx382 (fun _=>rfl) (Nat.le_of_ble_eq_true rfl)).trans rfl) ?_
   simp only [f374,zv,ql,Nat.reduceAdd,Nat.zero_add,Nat.add_zero,zg,zm,B0,reduceIte,reduceEqDiff]
   refine qp (v:=pv0_2) ((z9 (Sep.bk _ _ _ hS379)).trans rfl) ?_
   simp only [f375,zv,ql,Nat.reduceAdd,Nat.zero_add,Nat.add_zero,qq,zm,B0,reduceIte,reduceEqDiff]
   refine qp (v := .int .i64 v_1.Part) rfl ?_
   obtain ⟨x386,hx387,hF388⟩:=qh hF383
   simp only [yj,B0,reduceIte,reduceEqDiff]
   obtain ⟨b389,hb390⟩:=SlF.isrow ph0_2 (ku hx387)
   refine qp (SlF.ia ph0_2 hb390 hx387) ?_
   simp only [zm,B0,reduceIte,reduceEqDiff]
   refine qp (v := .int .i64 x386) ((SlF.ld (o:=0) ph0_2 (Sep.m4 hS379) hb390 hx387 (fun _=>rfl) (Nat.le_of_ble_eq_true rfl)).trans rfl) ?_
   simp only [yh,ql,qe3,zc,qsn,za,B0,reduceIte,reduceEqDiff]
   refine qz (t:=(decide (x386<x381))) (fun hc391=>?_) (fun hc391=>?_)
   ·rw [iteT hc391] at hF388
    simp only [qso,jc,f374,zv,ql,Nat.reduceAdd,Nat.zero_add,Nat.add_zero,zg,zm,B0,reduceIte,reduceEqDiff]
    refine qp (v:=pv0_2) ((z9 (Sep.bk _ _ _ hS379)).trans rfl) ?_
    simp only [f375,zv,ql,Nat.reduceAdd,Nat.zero_add,Nat.add_zero,qq,zm,B0,reduceIte,reduceEqDiff]
    refine qp (v := .int .i64 v_1.Part) rfl ?_
    simp only [f377,zv,ql,Nat.reduceAdd,Nat.zero_add,Nat.add_zero,zg,zm,B0,reduceIte,reduceEqDiff]
    refine qp (v:=v86) ((z9 (Sep.bk _ _ _ (Sep.m2 hS379))).trans rfl) ?_
    simp only [f375,zv,ql,Nat.reduceAdd,Nat.zero_add,Nat.add_zero,qq,zm,B0,reduceIte,reduceEqDiff]
    refine qp (v := .int .i64 v_1.Part) rfl ?_
    simp only [yj,B0,reduceIte,reduceEqDiff]
    refine qp (SlF.ia hv88 hb385 hx382) ?_
    simp only [zm,B0,reduceIte,reduceEqDiff]
    refine qp (v := .int .i64 x381) ((SlF.ld (o:=0) hv88 (Sep.m7 hS379) hb385 hx382 (fun _=>rfl) (Nat.le_of_ble_eq_true rfl)).trans rfl) ?_
    simp only [yj,B0,reduceIte,reduceEqDiff]
    refine qp (SlF.ia ph0_2 hb390 hx387) ?_
    simp only [xb,B0,reduceIte,reduceEqDiff]
    refine qbk (f:=cI) (x':=x381) (o:=0) ph0_2 (Sep.m4 hS379) hW hb390 hx387 (fun _=>rfl) rfl rfl (Nat.le_of_ble_eq_true rfl) rfl
      (fun c394 h392 hv395 hS393=>?_)
    have hx396:=wb (x':=x381) hx387
    simp only [zc,qm,B0,reduceIte,reduceEqDiff]
    have e397:=qg hF388
    exact hN135 _ _ ⟨_,e397.symm,v82,c83,v86,c87,c394,f374,f375,f376,f377,hv84,hv88,hv395,
      (Sep.m7 (Sep.m7 (Sep.m7 (Sep.m7 (Sep.m3 (Sep.m7 (Sep.m7 (Sep.m7 hS393))))))))⟩
   rw [iteF hc391] at hF388
   simp only [zh,qm,B0,reduceIte,reduceEqDiff]
   have e398:=qg hF388
   exact hN135 _ _ ⟨_,e398.symm,v82,c83,v86,c87,pc0_2,f374,f375,f376,f377,hv84,hv88,ph0_2,
     (Sep.m7 (Sep.m7 (Sep.m7 (Sep.m7 (Sep.m7 (Sep.m7 (Sep.m7 (Sep.m7 hS379))))))))⟩
  rw [iteF hc380] at hF366
  simp only [qf,qe,f374,qn,B0,reduceIte,reduceEqDiff]
  refine qj (v := .agg [.int .i64 v_0.Generation,pv0_1,pv0_2,pv0_3]) ((z7 (Sep.bk _ _ _ hS379)).trans rfl) ?_
  simp only [f376,zn,B0,reduceIte,reduceEqDiff]
  refine zd (us:=[.int .i64 v_0.Generation,pv0_1,pv0_2,pv0_3]) rfl (cs':=[.int .i64 v_0.Generation,pv0_1,pv0_2,
    pv0_3]) (Sep.m1 hS379) hW rfl (qk rfl (qk (SlG.one hv78) (qk (SlF.one ph0_2) (qk (SlF.one ph0_3) zl)))) (Nat.le_of_ble_eq_true rfl) rfl
    (fun h399 hS400=>?_)
  simp only [qd,qa,qx,B0,reduceIte,reduceEqDiff]
  have e401:=qg hF366
  subst e401
  have hk133':=hk133
  dsimp only [jnO] at hk133'
  apply hR136
  obtain ⟨c402,hv403,hS404⟩:=SlG.cls0 (c:=c75) (os:=c83++(c87)) hv78 rfl hx71 kv (Reader.RI (x:=x70) hv84 hv88) (Sep.ni2 (c1:=c83) (c2:=c87) (Sep.m5 (Sep.m7
    (Sep.m7 hS400))))
  have hv405:=SlG.toN hv403
  have he:=qg hk133'
  subst he
  refine ka (qi (kg (bb:=b9) (oo:=0) (v := .agg [.int .i64 v_0.Generation,pv0_1,pv0_2,
    pv0_3]) (f376) ((z7 (Sep.bk _ _ _ (Sep.m1 hS404))).trans rfl)) (qi (wz (v := .bool false) (rfl)) qy)) ?_
  exact ⟨c402,pc0_2,pc0_3,by first | trivial | rfl,hv405,ph0_2,ph0_3,(Sep.m2 (Sep.m2 (Sep.m2 (Sep.dc (Sep.m1 (Sep.dc (Sep.m1 (Sep.dc (Sep.m1 hS404)))))))))⟩
 rintro fr406 h407 ⟨⟨s118,s119,s128⟩,rfl,v121,c122,v125,c126,c129,f409,f410,f411,f412,hv123,hv127,hv130,hS408⟩
 dsimp only [jnO] at hk133
 dsimp only at *
 unfold yz at hk133
 simp only [qbx,qsg,qf,qe,f409,qt,qb,Nat.reduceAdd,Nat.zero_add,Nat.add_zero,zg,qn,B0,reduceIte,reduceEqDiff]
 refine qj (v:=pv0_1) ((z9 (Sep.bk _ _ _ hS408)).trans rfl) ?_
 simp only [f410,qt,qb,Nat.reduceAdd,Nat.zero_add,Nat.add_zero,qq,qn,B0,reduceIte,reduceEqDiff]
 refine qj (v := .int .i64 v_1.K) rfl ?_
 simp only [f412,qn,B0,reduceIte,reduceEqDiff]
 refine qj (v := .agg [.bool s119.In,.int .i64 s119.Generation,v121,v125]) ((z7 (Sep.bk _ _ _ (Sep.m2 hS408))).trans rfl) ?_
 simp only [jo,B0,reduceIte,reduceEqDiff]
 refine qj (SlG.ia hv78 hx71) ?_
 simp only [zn,B0,reduceIte,reduceEqDiff]
 refine qf9 (us:=[.bool s119.In,.int .i64 s119.Generation,v121,v125]) (o:=0) (cs':=[.bool s119.In,.int .i64 s119.Generation,v121,
   v125]) rfl hv78 rfl hx71 (Sep.m3 hS408) hW rfl (qk rfl (qk rfl (qk (SlF.one hv123) (qk (SlF.one hv127) zl)))) (Nat.le_of_ble_eq_true rfl) rfl
   (fun c415 h413 hv416 hS414=>?_)
 simp only [qa,qf,qe,f409,qn,B0,reduceIte,reduceEqDiff]
 refine qj (v := .agg [.int .i64 s118.Generation,pv0_1,pv0_2,pv0_3]) ((z7 (Sep.bk _ _ _ (Sep.m1 hS414))).trans rfl) ?_
 simp only [f411,zn,B0,reduceIte,reduceEqDiff]
 refine zd (us:=[.int .i64 s118.Generation,pv0_1,pv0_2,pv0_3]) rfl (cs':=[.int .i64 s118.Generation,pv0_1,pv0_2,
   pv0_3]) (Sep.m2 hS414) hW rfl (qk rfl (qk (SlG.one hv416) (qk (SlF.one hv130) (qk (SlF.one ph0_3) zl)))) (Nat.le_of_ble_eq_true rfl) rfl (fun h417 hS418=>?_)
 simp only [qd,qa,qx,B0,reduceIte,reduceEqDiff]
 obtain ⟨c419,hv420,hS421⟩:=SlG.cls (e':=s119) (c:=c415) (os:=c122++(c126)) hv416 rfl hx71 kv (Reader.RI (x:=s119) hv123 hv127) (Sep.ni2 (c1:=c122)
   (c2:=c126) (Sep.m3 (Sep.m7 (Sep.m7 hS418))))
 have hx422:=wb (x':=s119) hx71
 have hv423:=SlG.toN hv420
 have he:=qg hk133
 subst he
 refine ka (qi (kg (bb:=b9) (oo:=0) (v := .agg [.int .i64 s118.Generation,pv0_1,pv0_2,
   pv0_3]) (f411) ((z7 (Sep.bk _ _ _ (Sep.m1 hS421))).trans rfl)) (qi (wz (v := .bool true) (rfl)) qy)) ?_
 exact ⟨c419,c129,pc0_3,by first | trivial | rfl,hv423,hv130,ph0_3,(Sep.m2 (Sep.m2 (Sep.m2 (Sep.dc (Sep.m1 (Sep.dc (Sep.m1 (Sep.dc (Sep.m1 hS421)))))))))⟩
end Go.Proofs.Ytdhibknhejhfaaa.X
namespace Go.Proofs.Ytdhibknhejhfaaa.X
open Go
open Nat (reduceEqDiff)
theorem qc7 {W:Nat→Bool}{h:Heap} (hW:∀ b,
  (geL h.length) b→W b=true) (r_0:Readers_) (r:Readers_) (hF:uu r_0=some r) : Ret E W 54 [.agg [.int .i64 r_0.Generation,lst Reader.cells r_0.Readers,
  lst cI r_0.Committed,lst cI r_0.Ends]] h (fun v h'=>∃ rv0_1 rc0_1 rv0_2 rc0_2 rv0_3 rc0_3,v = .agg [.int .i64 r.Generation,rv0_1,rv0_2,
  rv0_3]∧SlN Reader.R 4 37 rv0_1 r.Readers rc0_1∧SlF cI 1 3 rv0_2 r.Committed rc0_2∧SlF cI 1 3 rv0_3 r.Ends rc0_3∧Sep h' (geL h.length) (rc0_1++(rc0_2++(rc0_3 ++
  ([]))))):=by
 refine Ret.of (fn:=x54) rfl (Run.of ?_)
 unfold uu at hF
 have zf0:zb [.agg [.int .i64 r_0.Generation,lst Reader.cells r_0.Readers,lst cI r_0.Committed,lst cI r_0.Ends]] 0 = .agg [.int .i64 r_0.Generation,
   lst Reader.cells r_0.Readers,lst cI r_0.Committed,lst cI r_0.Ends]:=rfl
 generalize zb [.agg [.int .i64 r_0.Generation,lst Reader.cells r_0.Readers,lst cI r_0.Committed,lst cI r_0.Ends]]=fr0 at zf0 ⊢
 have hS:Sep h (geL h.length) []:=Sep.nil h
 simp only [x54,qf,qe,jy,zf0,B0,reduceIte,reduceEqDiff]
 refine jk (cs:=[.int .i64 r_0.Generation,lst Reader.cells r_0.Readers,lst cI r_0.Committed,lst cI r_0.Ends]) hS rfl rfl rfl (fun b1 h2 hS3=>?_)
 simp only [ja,B0,reduceIte,reduceEqDiff]
 refine zw hS3 (fun b5 h6 hS7=>?_)
 simp only [qa,B0,reduceIte,reduceEqDiff]
 refine zu (Sep.m1 hS7) hW (by simp only [B0,reduceIte,reduceEqDiff]) (fun h9 hS10=>?_)
 simp only [zp,qvb,qf,jc,qdg,evp,B0,reduceIte,reduceEqDiff]
 refine qaq (n:=1) (f:=cI) ([] : List Int) hS10 rfl rfl (fun v11 c12 h13 hv14 hS15=>?_)
 simp only [qku,evp,B0,reduceIte,reduceEqDiff]
 refine qaq (n:=1) (f:=cI) ([] : List Int) hS15 rfl rfl (fun v17 c18 h19 hv20 hS21=>?_)
 simp only [qgn,B0,reduceIte,reduceEqDiff]
 refine qcp hS21 (fun b23 h24 hS25=>?_)
 simp only [qg0,ql,Nat.reduceAdd,Nat.zero_add,Nat.add_zero,qq,qcu,qba,B0,reduceIte,reduceEqDiff]
 refine qp (v := .int .i64 r_0.Generation) rfl ?_
 simp only [zv,ql,Nat.reduceAdd,Nat.zero_add,Nat.add_zero,qq,zm,B0,reduceIte,reduceEqDiff]
 refine qp (v:=lst cI r_0.Committed) rfl ?_
 simp only [qig,B0,reduceIte,reduceEqDiff]
 obtain ⟨l27,hx28,hF29⟩:=qh hF
 refine qk8 qjk ?_
 refine qct (f:=cI) hv14 (Sep.m2 hS25) hW (fun _=>rfl) (fun _=>rfl) (wl (fun _=>rfl)) hx28 (fun v30 c31 h32 hv33 hS34=>?_)
 simp only [qg0,ql,Nat.reduceAdd,Nat.zero_add,Nat.add_zero,qq,qcu,qba,B0,reduceIte,reduceEqDiff]
 refine qp (v:=lst cI r_0.Ends) rfl ?_
 simp only [qig,B0,reduceIte,reduceEqDiff]
 obtain ⟨l36,hx37,hF38⟩:=qh hF29
 refine qk8 qjk ?_
 refine qct (f:=cI) hv20 (Sep.m2 hS34) hW (fun _=>rfl) (fun _=>rfl) (wl (fun _=>rfl)) hx37 (fun v39 c40 h41 hv42 hS43=>?_)
 simp only [qde,evp,B0,reduceIte,reduceEqDiff]
 refine qp (v := .agg [.int .i64 r_0.Generation,.nil,v30,v39]) (xd (xe (us:=[.int .i64 r_0.Generation]) (vs:=[.int .i64 r_0.Generation,.nil,.nil,
   .nil]) rfl rfl (Nat.le_of_ble_eq_true rfl) rfl rfl (xe (us:=[v30]) (vs:=[.int .i64 r_0.Generation,.nil,v30,
   .nil]) (jr (SlF.one hv33)) rfl (Nat.le_of_ble_eq_true rfl) (qk (SlF.one hv33) zl) rfl (xe (us:=[v39]) (vs:=[.int .i64 r_0.Generation,.nil,v30,
   v39]) (jr (SlF.one hv42)) rfl (Nat.le_of_ble_eq_true rfl) (qk (SlF.one hv42) zl) rfl qcv)))) ?_
 simp only [xb,B0,reduceIte,reduceEqDiff]
 refine y7 (us:=[.int .i64 r_0.Generation,.nil,v30,v39]) rfl (cs':=[.int .i64 r_0.Generation,.nil,v30,
   v39]) (Sep.m2 hS43) hW rfl (qk rfl (qk rfl (qk (SlF.one hv33) (qk (SlF.one hv42) zl)))) (Nat.le_of_ble_eq_true rfl) rfl (fun h45 hS46=>?_)
 simp only [zc,q15,qf,qe,qt,qb,Nat.reduceAdd,Nat.zero_add,Nat.add_zero,qq,qn,B0,reduceIte,reduceEqDiff]
 refine qj (v:=lst Reader.cells r_0.Readers) rfl ?_
 simp only [zo,qb,zr,qd,qa,B0,reduceIte,reduceEqDiff]
 obtain ⟨oc59,hX61,hk62⟩:=jj hF38
 simp only [quz]
 refine j8 (σ:=Readers_) r_0.Readers (fun i57 x58 s138=>qcs l27 l36 i57 x58 s138) (fun s fr' h'=>∃ v54 c55,
   fr' 2 = .ptr b5 0∧fr' 3 = .ptr b23 0∧fr' 18=lst Reader.cells r_0.Readers∧SlN Reader.R 4 37 v54 s.Readers c55∧Sep h' (geL h.length) ([Blk1 b5 [.int .i64 0,.nil,
   .nil,.nil] 29]++([Blk1 b23 [.int .i64 s.Generation,v54,v30,v39] 29]++(c55++(c31++(c40++([]))))))) hX61 ⟨.nil,[],rfl,rfl,rfl,SlN.nil,
   ((Sep.m3 (Sep.m2 (Sep.m2 (Sep.m1 hS46)))) : Sep _ (geL h.length) ([Blk1 b5 [.int .i64 0,.nil,.nil,.nil] 29]++([Blk1 b23 [.int .i64 r_0.Generation,.nil,v30,
   v39] 29]++(c31++(c40++([]))))))⟩ (by simp only [B0,reduceIte,reduceEqDiff]) (by simp only [B0,reduceIte,
   reduceEqDiff]) (fun _ _ _ h=>h) rfl rfl (fun _ _ _ _ h=>h) (fun _ _ _ _ h=>h) (fun _ _ _ _ h=>h) (by decide) ?_ ?_
 ·rintro i57 x58 s52 fr71 h72 hx77 ⟨v54,c55,f74,f75,f76,hv56,hS73⟩ f78 f79 oc60 hF63 hr64 Q65 hN66 hB70 hK67 hR68 hE69
  unfold qcs at hF63
  simp only [qxr,qf,qe,f76,f78,jo,B0,reduceIte,reduceEqDiff]
  refine qj (v := .ref (Reader.cells x58) 0) (j7 hx77 rfl) ?_
  simp only [qn,B0,reduceIte,reduceEqDiff]
  refine qj (v := .agg [.bool x58.In,.int .i64 x58.Generation,lst cI x58.Share,lst cI x58.Read]) rfl ?_
  simp only [ja,B0,reduceIte,reduceEqDiff]
  refine zw hS73 (fun b80 h81 hS82=>?_)
  simp only [zn,B0,reduceIte,reduceEqDiff]
  refine zd (us:=[.bool x58.In,.int .i64 x58.Generation,lst cI x58.Share,lst cI x58.Read]) rfl (cs':=[.bool x58.In,.int .i64 x58.Generation,lst cI x58.Share,
    lst cI x58.Read]) hS82 hW rfl rfl (Nat.le_of_ble_eq_true rfl) rfl (fun h84 hS85=>?_)
  simp only [qa,qvy,qf,qe,kf,evp,B0,reduceIte,reduceEqDiff]
  refine ju (n:=1) (f:=cI) ([] : List Int) hS85 rfl rfl (fun v86 c87 h88 hv89 hS90=>?_)
  simp only [qt,qb,Nat.reduceAdd,Nat.zero_add,Nat.add_zero,zg,qn,B0,reduceIte,reduceEqDiff]
  refine qj (v:=lst cI x58.Share) ((z9 (Sep.bk _ _ _ (Sep.m1 hS90))).trans rfl) ?_
  simp only [qal,B0,reduceIte,reduceEqDiff]
  obtain ⟨l92,hx93,hF94⟩:=qh hF63
  refine xq (f:=cI) hv89 hS90 hW (fun _=>rfl) (fun _=>rfl) (wl (fun _=>rfl)) hx93 (fun v95 c96 h97 hv98 hS99=>?_)
  simp only [qt,qb,Nat.reduceAdd,Nat.zero_add,Nat.add_zero,zg,zn,B0,reduceIte,reduceEqDiff]
  refine zd (us:=[v95]) (jr (SlF.one hv98)) (cs':=[.bool x58.In,.int .i64 x58.Generation,v95,
    lst cI x58.Read]) (Sep.m1 hS99) hW rfl (qk (SlF.one hv98) zl) (Nat.le_of_ble_eq_true rfl) rfl (fun h101 hS102=>?_)
  simp only [qa,qwu,qf,qe,kf,evp,B0,reduceIte,reduceEqDiff]
  refine ju (n:=1) (f:=cI) ([] : List Int) hS102 rfl rfl (fun v103 c104 h105 hv106 hS107=>?_)
  simp only [qt,qb,Nat.reduceAdd,Nat.zero_add,Nat.add_zero,zg,qn,B0,reduceIte,reduceEqDiff]
  refine qj (v:=lst cI x58.Read) ((z9 (Sep.bk _ _ _ (Sep.m1 hS107))).trans rfl) ?_
  simp only [qal,B0,reduceIte,reduceEqDiff]
  obtain ⟨l109,hx110,hF111⟩:=qh hF94
  refine xq (f:=cI) hv106 hS107 hW (fun _=>rfl) (fun _=>rfl) (wl (fun _=>rfl)) hx110 (fun v112 c113 h114 hv115 hS116=>?_)
  simp only [qt,qb,Nat.reduceAdd,Nat.zero_add,Nat.add_zero,zg,zn,B0,reduceIte,reduceEqDiff]
  refine zd (us:=[v112]) (jr (SlF.one hv115)) (cs':=[.bool x58.In,.int .i64 x58.Generation,v95,
    v112]) (Sep.m1 hS116) hW rfl (qk (SlF.one hv115) zl) (Nat.le_of_ble_eq_true rfl) rfl (fun h118 hS119=>?_)
  simp only [qa,q0g,qe,f75,qt,qb,Nat.reduceAdd,Nat.zero_add,Nat.add_zero,zg,qn,B0,reduceIte,reduceEqDiff]
  refine qj (v:=v54) ((z9 (Sep.bk _ _ _ (Sep.m4 hS119))).trans rfl) ?_
  simp only [qn,B0,reduceIte,reduceEqDiff]
  refine qj (v := .agg [.bool x58.In,.int .i64 x58.Generation,v95,v112]) ((z7 (Sep.bk _ _ _ hS119)).trans rfl) ?_
  simp only [kf,evp,B0,reduceIte,reduceEqDiff]
  refine qfr (R:=Reader.R) (n:=4) (cs:=[.bool x58.In,.int .i64 x58.Generation,v95,
    v112]) (os:=c96++(c113)) (Sep.bi2 (c1:=c96) (c2:=c113) (Sep.m2 (Sep.m1 hS119))) (xe (us:=[.bool x58.In,.int .i64 x58.Generation,v95,
    v112]) (vs:=[.bool x58.In,.int .i64 x58.Generation,v95,
    v112]) rfl rfl (Nat.le_of_ble_eq_true rfl) (qk rfl (qk rfl (qk (SlF.one hv98) (qk (SlF.one hv115) zl)))) rfl qcv) (Reader.RI (x :=
    (Reader.mk x58.In x58.Generation l92 l109)) hv98 hv115) rfl (fun v120 c121 h122 hv123 hS124=>?_)
  simp only [qal,B0,reduceIte,reduceEqDiff]
  obtain ⟨l126,hx127,hF128⟩:=qh hF111
  refine qhx (R:=Reader.R) (c:=c55) hv56 hv123 (Sep.m4 hS124) hW Reader.RO.len Reader.RO.one hx127 (fun v129 c130 h131 hv132 hS133=>?_)
  simp only [f75,qt,qb,Nat.reduceAdd,Nat.zero_add,Nat.add_zero,zg,zn,B0,reduceIte,reduceEqDiff]
  refine zd (us:=[v129]) (jr (SlN.one hv132)) (cs':=[.int .i64 s52.Generation,v129,v30,
    v39]) (Sep.m3 hS133) hW rfl (qk (SlN.one hv132) zl) (Nat.le_of_ble_eq_true rfl) rfl (fun h135 hS136=>?_)
  simp only [qa,qm,B0,reduceIte,reduceEqDiff]
  have e137:=qg hF128
  exact hN66 _ _ _ e137.symm ⟨v129,c130,f74,f75,f76,hv132,(Sep.m4 (Sep.m3 (Sep.m3 (Sep.m4 (Sep.m4 (Sep.dc (Sep.m2 hS136)))))))⟩ (f78) (f79)
 rintro s139 fr144 h145 rfl ⟨v141,c142,f147,f148,f149,hv143,hS146⟩
 dsimp only [jnO] at hk62
 unfold qgo at hk62
 simp only [qf,qe,f148,qn,B0,reduceIte,reduceEqDiff]
 refine qj (v := .agg [.int .i64 s139.Generation,v141,v30,v39]) ((z7 (Sep.bk _ _ _ (Sep.m1 hS146))).trans rfl) ?_
 simp only [f147,zn,B0,reduceIte,reduceEqDiff]
 refine zd (us:=[.int .i64 s139.Generation,v141,v30,v39]) rfl (cs':=[.int .i64 s139.Generation,v141,v30,
   v39]) hS146 hW rfl (qk rfl (qk (SlN.one hv143) (qk (SlF.one hv33) (qk (SlF.one hv42) zl)))) (Nat.le_of_ble_eq_true rfl) rfl (fun h150 hS151=>?_)
 simp only [qa,qx,B0,reduceIte,reduceEqDiff]
 have he:=qg hk62
 subst he
 refine xm (bb:=b5) (oo:=0) (v := .agg [.int .i64 s139.Generation,v141,v30,v39]) (by simp only [f147,B0,reduceIte,
   reduceEqDiff]) ((z7 (Sep.bk _ _ _ hS151)).trans rfl) ?_
 exact ⟨v141,c142,v30,c31,v39,c40,by first | trivial | rfl,hv143,hv33,hv42,(Sep.m2 (Sep.m2 (Sep.m2 (Sep.dc ((Sep.dc (hS151)))))))⟩
theorem qhu {W:Nat→Bool}{h:Heap} (hW:∀ b,
  (geL h.length) b→W b=true) (r_0:Readers_) (x_1:GroupStep) (r:Readers_ × Bool) (hF:qad r_0 x_1=some r) : Ret E W 31 [.agg [.int .i64 r_0.Generation,
  lst Reader.cells r_0.Readers,lst cI r_0.Committed,lst cI r_0.Ends],.agg [.int .i64 x_1.Kind,.int .i64 x_1.K,.int .i64 x_1.Part,
  .int .i64 x_1.N]] h (fun v h'=>∃ rv0_1 rc0_1 rv0_2 rc0_2 rv0_3 rc0_3,v = .tup [.agg [.int .i64 r.1.Generation,rv0_1,rv0_2,rv0_3],
  .bool r.2]∧SlN Reader.R 4 37 rv0_1 r.1.Readers rc0_1∧SlF cI 1 3 rv0_2 r.1.Committed rc0_2∧SlF cI 1 3 rv0_3 r.1.Ends rc0_3∧Sep h' (geL h.length) (rc0_1++(rc0_2 ++
  (rc0_3++([]))))):=by
 refine Ret.of (fn:=x31) rfl (Run.of ?_)
 unfold qad at hF
 have zf0:zb [.agg [.int .i64 r_0.Generation,lst Reader.cells r_0.Readers,lst cI r_0.Committed,lst cI r_0.Ends],.agg [.int .i64 x_1.Kind,.int .i64 x_1.K,
   .int .i64 x_1.Part,.int .i64 x_1.N]] 0 = .agg [.int .i64 r_0.Generation,lst Reader.cells r_0.Readers,lst cI r_0.Committed,lst cI r_0.Ends]:=rfl
 have zf1:zb [.agg [.int .i64 r_0.Generation,lst Reader.cells r_0.Readers,lst cI r_0.Committed,lst cI r_0.Ends],.agg [.int .i64 x_1.Kind,.int .i64 x_1.K,
   .int .i64 x_1.Part,.int .i64 x_1.N]] 1 = .agg [.int .i64 x_1.Kind,.int .i64 x_1.K,.int .i64 x_1.Part,.int .i64 x_1.N]:=rfl
 generalize zb [.agg [.int .i64 r_0.Generation,lst Reader.cells r_0.Readers,lst cI r_0.Committed,lst cI r_0.Ends],.agg [.int .i64 x_1.Kind,.int .i64 x_1.K,
   .int .i64 x_1.Part,.int .i64 x_1.N]]=fr0 at zf0 zf1 ⊢
 have hS:Sep h (geL h.length) []:=Sep.nil h
 simp only [x31,qf,qe,jy,zf0,B0,reduceIte,reduceEqDiff]
 refine jk (cs:=[.int .i64 r_0.Generation,lst Reader.cells r_0.Readers,lst cI r_0.Committed,lst cI r_0.Ends]) hS rfl rfl rfl (fun b1 h2 hS3=>?_)
 simp only [jy,zf1,B0,reduceIte,reduceEqDiff]
 refine jk (cs:=[.int .i64 x_1.Kind,.int .i64 x_1.K,.int .i64 x_1.Part,.int .i64 x_1.N]) hS3 rfl rfl rfl (fun b5 h6 hS7=>?_)
 simp only [ja,B0,reduceIte,reduceEqDiff]
 refine zw hS7 (fun b9 h10 hS11=>?_)
 simp only [qd,qa,B0,reduceIte,reduceEqDiff]
 refine zu (Sep.m2 hS11) hW (by simp only [B0,reduceIte,reduceEqDiff]) (fun h13 hS14=>?_)
 refine zu (Sep.m1 hS14) hW (by simp only [B0,reduceIte,reduceEqDiff]) (fun h15 hS16=>?_)
 simp only [zp,q2g,qf,qe,qn,B0,reduceIte,reduceEqDiff]
 refine qj (v := .agg [.int .i64 r_0.Generation,lst Reader.cells r_0.Readers,lst cI r_0.Committed,lst cI r_0.Ends]) rfl ?_
 obtain ⟨v17,hx18,hF19⟩:=qh hF
 simp only [qw,B0,reduceIte,reduceEqDiff]
 refine je rfl (qi (jb (qi qs (qi ze (qi ze (qi ze qy))))) qy) (xw
   (fun b hb=>decide_eq_true hb) r_0 v17 hx18) ?_
 simp only [jf,qb,jt,qa,qve,za,B0,reduceIte,reduceEqDiff]
 refine qz (t:=(!v17)) (fun hc20=>?_) (fun hc20=>?_)
 ·rw [iteT hc20] at hF19
  simp only [qf,qe,run_build,evp,B0,reduceIte,reduceEqDiff]
  refine qj (v := .agg [.int .i64 0,.nil,.nil,.nil]) rfl ?_
  simp only [zn,B0,reduceIte,reduceEqDiff]
  refine zd (us:=[.int .i64 0,.nil,.nil,.nil]) rfl (cs':=[.int .i64 0,.nil,.nil,.nil]) hS16 hW rfl rfl (Nat.le_of_ble_eq_true rfl) rfl (fun h21 hS22=>?_)
  simp only [qd,qa,qx,B0,reduceIte,reduceEqDiff]
  have he:=qg hF19
  subst he
  refine ka (qi (kg (bb:=b9) (oo:=0) (v := .agg [.int .i64 0,.nil,.nil,
    .nil]) (rfl) ((z7 (Sep.bk _ _ _ hS22)).trans rfl)) (qi (wz (v := .bool false) (rfl)) qy)) ?_
  exact ⟨.nil,[],.nil,[],.nil,[],by first | trivial | rfl,SlN.nil,SlF.nil,SlF.nil,((Sep.dc (hS22)) : Sep _ (geL h.length) ([]))⟩
 rw [iteF hc20] at hF19
 simp only [zh,qvk,qf,jc,qgn,B0,reduceIte,reduceEqDiff]
 refine qcp hS16 (fun b23 h24 hS25=>?_)
 simp only [zm,B0,reduceIte,reduceEqDiff]
 refine qp (v := .agg [.int .i64 r_0.Generation,lst Reader.cells r_0.Readers,lst cI r_0.Committed,lst cI r_0.Ends]) rfl ?_
 obtain ⟨v27,hx28,hF29⟩:=qh hF19
 simp only [ut,B0,reduceIte,reduceEqDiff]
 refine qjf rfl hS25 (qi (jb (qi qs (qi ze (qi ze (qi ze qy))))) qy) (qc7
   (fun b hb=>decide_eq_true hb) r_0 v27 hx28) ?_
 rintro _ h42 ⟨v30,c31,v34,c35,v38,c39,rfl,hv32,hv36,hv40,hS43⟩
 refine ⟨_,qft (qk rfl (qk (SlN.free1 hv32) (qk (SlF.free1 hv36) (qk (SlF.free1 hv40) zl)))),hS43,
   (z0 (SlN.pf hv32 Reader.RO) (z0 (SlF.pf hv36 (fun _=>rfl)) (z0 (SlF.pf hv40 (fun _=>rfl)) yc))),fun h44 hS45=>?_⟩
 have hS46:Sep h44 (geL h.length) (c31++(c35++(c39++([Blk1 b23 [.int .i64 0,.nil,.nil,.nil] 29]++([Blk1 b9 [.int .i64 0,.nil,.nil,
   .nil] 29]++([])))))):=by simpa only [List.append_assoc,List.nil_append] using hS45
 simp only [qcu,qba,B0,reduceIte,reduceEqDiff]
 refine qp (v := .agg [.int .i64 x_1.Kind,.int .i64 x_1.K,.int .i64 x_1.Part,.int .i64 x_1.N]) rfl ?_
 obtain ⟨v47,hx48,hF49⟩:=qh hF29
 simp only [y5,B0,reduceIte,reduceEqDiff]
 refine qps rfl (qgm hW v27 v30 c31 hv32 v34 c35 hv36 v38 c39 hv40 x_1 v47 hx48 (Sep.m2 (Sep.m2 (Sep.m2 hS46)))) ?_
 rintro _ h56 ⟨c50,c52,c54,rfl,hv51,hv53,hv55,hS57⟩
 simp only [z8,ql,qp5,yv,qqp,yq,xb,B0,reduceIte,reduceEqDiff]
 refine y7 (us:=[.int .i64 v47.1.Generation,v30,v34,v38]) rfl (cs':=[.int .i64 v47.1.Generation,v30,v34,
   v38]) (Sep.m3 hS57) hW rfl (qk rfl (qk (SlN.one hv51) (qk (SlF.one hv53) (qk (SlF.one hv55) zl)))) (Nat.le_of_ble_eq_true rfl) rfl (fun h58 hS59=>?_)
 simp only [z8,ql,zc,B0,reduceIte,reduceEqDiff]
 refine zu hS59 hW (by simp only [B0,reduceIte,reduceEqDiff]) (fun h60 hS61=>?_)
 simp only [zp,qut,qf,qe,qd,jf,qb,jt,qa,qwr,za,B0,reduceIte,reduceEqDiff]
 refine qz (t:=(!v47.2)) (fun hc62=>?_) (fun hc62=>?_)
 ·rw [iteT hc62] at hF49
  simp only [qf,qe,run_build,evp,B0,reduceIte,reduceEqDiff]
  refine qj (v := .agg [.int .i64 0,.nil,.nil,.nil]) rfl ?_
  simp only [zn,B0,reduceIte,reduceEqDiff]
  refine zd (us:=[.int .i64 0,.nil,.nil,.nil]) rfl (cs':=[.int .i64 0,.nil,.nil,
    .nil]) (Sep.m3 hS61) hW rfl rfl (Nat.le_of_ble_eq_true rfl) rfl (fun h63 hS64=>?_)
  simp only [qd,qa,qx,B0,reduceIte,reduceEqDiff]
  have he:=qg hF49
  subst he
  refine ka (qi (kg (bb:=b9) (oo:=0) (v := .agg [.int .i64 0,.nil,.nil,
    .nil]) (rfl) ((z7 (Sep.bk _ _ _ hS64)).trans rfl)) (qi (wz (v := .bool false) (rfl)) qy)) ?_
  exact ⟨.nil,[],.nil,[],.nil,[],by first | trivial | rfl,SlN.nil,SlF.nil,SlF.nil,((Sep.dc ((Sep.dc ((Sep.dc ((Sep.dc (hS64)))))))) : Sep _ (geL h.length) ([]))⟩
 rw [iteF hc62] at hF49
 simp only [zh,qxe,qf,qe,qn,B0,reduceIte,reduceEqDiff]
 refine qj (v := .agg [.int .i64 v47.1.Generation,v30,v34,v38]) rfl ?_
 obtain ⟨v65,hx66,hF67⟩:=qh hF49
 simp only [qw,B0,reduceIte,reduceEqDiff]
 refine xz rfl hS61 (qi (jb (qi qs (qi (SlN.snap hv51 _ hS61 rfl Reader.RO) (qi (SlF.snap hv53 (Sep.m1 hS61) rfl (fun _=>rfl) (fun _=>rfl)) (qi
   (SlF.snap hv55 (Sep.m2 hS61) rfl (fun _=>rfl) (fun _=>rfl)) qy))))) qy) (qc7 (fun b hb=>decide_eq_true hb) v47.1 v65 hx66) ?_
 rintro _ h80 ⟨v68,c69,v72,c73,v76,c77,rfl,hv70,hv74,hv78,hS81⟩
 refine ⟨_,qft (qk rfl (qk (SlN.free1 hv70) (qk (SlF.free1 hv74) (qk (SlF.free1 hv78) zl)))),hS81,
   (z0 (SlN.pf hv70 Reader.RO) (z0 (SlF.pf hv74 (fun _=>rfl)) (z0 (SlF.pf hv78 (fun _=>rfl)) yc))),fun h82 hS83=>?_⟩
 have hS84:Sep h82 (geL h.length) (c69++(c73++(c77++(c50++(c52++(c54++([Blk1 b9 [.int .i64 0,.nil,.nil,
   .nil] 29]++([])))))))):=by simpa only [List.append_assoc,List.nil_append] using hS83
 simp only [zn,B0,reduceIte,reduceEqDiff]
 refine zd (us:=[.int .i64 v65.Generation,v68,v72,v76]) rfl (cs':=[.int .i64 v65.Generation,v68,v72,
   v76]) (Sep.m6 hS84) hW rfl (qk rfl (qk (SlN.one hv70) (qk (SlF.one hv74) (qk (SlF.one hv78) zl)))) (Nat.le_of_ble_eq_true rfl) rfl (fun h85 hS86=>?_)
 simp only [qd,qa,qx,B0,reduceIte,reduceEqDiff]
 have he:=qg hF67
 subst he
 refine ka (qi (kg (bb:=b9) (oo:=0) (v := .agg [.int .i64 v65.Generation,v68,v72,
   v76]) (rfl) ((z7 (Sep.bk _ _ _ hS86)).trans rfl)) (qi (wz (v := .bool true) (rfl)) qy)) ?_
 exact ⟨v68,c69,v72,c73,v76,c77,by first | trivial | rfl,hv70,hv74,hv78,(Sep.m2 (Sep.m2 (Sep.m2 (Sep.dc (Sep.m3 (Sep.dc (Sep.m3 (Sep.dc (Sep.m3 (Sep.dc (hS86)))))))))))⟩
end Go.Proofs.Ytdhibknhejhfaaa.X
