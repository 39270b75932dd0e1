/- The functions' code comes to what the plain functions say (4). -/
import Derived.Test.YtdhibknhejhfaaaXEH3
set_option linter.unusedVariables false
set_option linter.unusedSimpArgs false
set_option maxRecDepth 100000
namespace Go.Proofs.Ytdhibknhejhfaaa.X
open Go
open Nat (reduceEqDiff)
theorem qhn {W:Nat→Bool}{h:Heap}{lo:Nat→Prop}{S0:List Obj} (hW:∀ b,
  lo b→W b=true) (pb0:Nat) (v_0:Readers_) (pv0_1:XV) (pc0_1:List Obj) (ph0_1:SlN Reader.R 4 37 pv0_1 v_0.Readers pc0_1) (pv0_2:XV) (pc0_2:List Obj)
  (ph0_2:SlF cI 1 3 pv0_2 v_0.Committed pc0_2) (pv0_3:XV) (pc0_3:List Obj) (ph0_3:SlF cI 1 3 pv0_3 v_0.Ends pc0_3) (v_1:GroupStep) (r:Bool × Readers_)
  (hF:kd v_0 v_1=some r) (hS:Sep h lo ([Blk1 pb0 [.int .i64 v_0.Generation,pv0_1,pv0_2,
  pv0_3] 29]++(pc0_1++(pc0_2++(pc0_3++(S0)))))) : Ret E W 52 [.ptr pb0 0,.agg [.int .i64 v_1.Kind,.int .i64 v_1.K,.int .i64 v_1.Part,
  .int .i64 v_1.N]] h (fun v h'=>∃ ic0_1 ic0_2 ic0_3,
  v = .bool r.1∧SlN Reader.R 4 37 pv0_1 r.2.Readers ic0_1∧SlF cI 1 3 pv0_2 r.2.Committed ic0_2∧SlF cI 1 3 pv0_3 r.2.Ends ic0_3∧Sep h' lo
  ([Blk1 pb0 [.int .i64 r.2.Generation,pv0_1,pv0_2,pv0_3] 29]++(ic0_1++(ic0_2++(ic0_3++(S0)))))):=by
 refine Ret.of (fn:=x52) rfl (Run.of ?_)
 unfold kd at hF
 have zf0:zb [.ptr pb0 0,.agg [.int .i64 v_1.Kind,.int .i64 v_1.K,.int .i64 v_1.Part,.int .i64 v_1.N]] 0 = .ptr pb0 0:=rfl
 have zf1:zb [.ptr pb0 0,.agg [.int .i64 v_1.Kind,.int .i64 v_1.K,.int .i64 v_1.Part,.int .i64 v_1.N]] 1 = .agg [.int .i64 v_1.Kind,.int .i64 v_1.K,.int .i64 v_1.Part,
   .int .i64 v_1.N]:=rfl
 generalize zb [.ptr pb0 0,.agg [.int .i64 v_1.Kind,.int .i64 v_1.K,.int .i64 v_1.Part,.int .i64 v_1.N]]=fr0 at zf0 zf1 ⊢
 simp only [x52,qf,qe,jy,zf1,B0,reduceIte,reduceEqDiff]
 refine jk (cs:=[.int .i64 v_1.Kind,.int .i64 v_1.K,.int .i64 v_1.Part,.int .i64 v_1.N]) hS rfl rfl rfl (fun b1 h2 hS3=>?_)
 simp only [qd,qa,B0,reduceIte,reduceEqDiff]
 refine zu hS3 hW (by simp only [B0,reduceIte,reduceEqDiff]) (fun h5 hS6=>?_)
 simp only [zp,qqz,qf,jc,zv,ql,Nat.reduceAdd,Nat.zero_add,Nat.add_zero,qq,zm,B0,reduceIte,reduceEqDiff]
 refine qp (v := .int .i64 v_1.K) rfl ?_
 simp only [zf0,z8,ql,yd,jd,zv,Nat.reduceAdd,Nat.zero_add,Nat.add_zero,zg,zm,B0,reduceIte,reduceEqDiff]
 refine qp (v:=pv0_1) ((z9 (Sep.bk _ _ _ hS6)).trans rfl) ?_
 simp only [qen,ql,SlN.len ph0_1,yh,qdm,y5,B0,reduceIte,reduceEqDiff]
 refine qel rfl (qi qs (qi qs (qi qs qy))) (uv (fun b hb=>decide_eq_true hb) v_1.K 0 (IntKind.wrap .i64
   ((List.length v_0.Readers:Int) - 1)) _ rfl) ?_
 simp only [qf5,ql,jt,z8,B0,reduceIte,reduceEqDiff]
 refine qc2 9 (fun fr' h'=>Sep h' lo ([Blk1 pb0 [.int .i64 v_0.Generation,pv0_1,pv0_2,
   pv0_3] 29]++(pc0_1++(pc0_2++(pc0_3++(S0)))))∧fr' 28 = .bool ((!(zq v_1.K 0 (IntKind.wrap .i64 ((List.length v_0.Readers:Int) - 1))))||((decide
   (v_1.Kind≠4))&&(decide (v_1.N≠0))))∧fr' 0 = .ptr pb0 0∧fr' 3 = .ref [.int .i64 v_1.Kind,.int .i64 v_1.K,.int .i64 v_1.Part,
   .int .i64 v_1.N] 0) rfl (fun Q7 hN8=>?_) ?_
 ·simp only [List.take_succ_cons,List.take_zero]
  simp only [qv (g:=19),B0,reduceIte,reduceEqDiff]
  refine kj (t:=(!(zq v_1.K 0 (IntKind.wrap .i64 ((List.length v_0.Readers:Int) - 1))))) (fun hg9=>?_) (fun hg9=>?_)
  ·simp only [hg9,qv (g:=19),xg,qv (g:=23),qhc,jx,ql,zk,zc,qm,B0,reduceIte,reduceEqDiff]
   exact hN8 _ _ ⟨(Sep.m3 (Sep.m3 (Sep.m3 (Sep.m3 hS6)))),by rw [orT hg9]; simp only [B0,reduceIte,reduceEqDiff],zf0,rfl⟩
  ·simp only [hg9,qv (g:=19),zt,zv,ql,Nat.reduceAdd,Nat.zero_add,Nat.add_zero,qq,zm,B0,reduceIte,reduceEqDiff]
   refine qp (v := .int .i64 v_1.Kind) rfl ?_
   simp only [hg9,qv (g:=19),zt,yh,ql,wx,z8,B0,reduceIte,reduceEqDiff]
   refine qc2 4 (fun fr' h'=>Sep h' lo ([Blk1 pb0 [.int .i64 v_0.Generation,pv0_1,pv0_2,
     pv0_3] 29]++(pc0_1++(pc0_2++(pc0_3++(S0)))))∧fr' 27 = .bool ((decide (v_1.Kind≠4))&&(decide
     (v_1.N≠0)))∧fr' 0 = .ptr pb0 0∧fr' 3 = .ref [.int .i64 v_1.Kind,.int .i64 v_1.K,.int .i64 v_1.Part,
     .int .i64 v_1.N] 0∧fr' 19 = .bool (!(zq v_1.K 0 (IntKind.wrap .i64 ((List.length v_0.Readers:Int) - 1))))) rfl (fun Q10 hN11=>?_) ?_
   ·simp only [List.take_succ_cons,List.take_zero]
    simp only [qv (g:=23),B0,reduceIte,reduceEqDiff]
    refine kj (t:=(decide (v_1.Kind≠4))) (fun hg12=>?_) (fun hg12=>?_)
    ·simp only [hg12,qv (g:=23),j5,zv,ql,Nat.reduceAdd,Nat.zero_add,Nat.add_zero,qq,zm,B0,reduceIte,reduceEqDiff]
     refine qp (v := .int .i64 v_1.N) rfl ?_
     simp only [hg12,qv (g:=23),j5,yh,ql,wx,hg9,qv (g:=19),zt,jx,zk,zc,qm,B0,
       reduceIte,reduceEqDiff]
     exact hN11 _ _ ⟨(Sep.m3 (Sep.m3 (Sep.m3 (Sep.m3 hS6)))),by rw [xj hg12]; simp only [B0,reduceIte,reduceEqDiff],zf0,rfl,by simp only [hg9,B0,reduceIte,
       reduceEqDiff]⟩
    ·simp only [hg12,qv (g:=23),qcn,hg9,qv (g:=19),zt,jx,ql,zj,zc,qm,B0,reduceIte,
      reduceEqDiff]
     exact hN11 _ _ ⟨(Sep.m3 (Sep.m3 (Sep.m3 (Sep.m3 hS6)))),by rw [xy hg12]; simp only [B0,reduceIte,reduceEqDiff],zf0,rfl,by simp only [hg9,B0,reduceIte,
       reduceEqDiff]⟩
   rintro fr13 h18 ⟨hS19,f14,f15,f16,f17⟩
   simp only [List.drop_succ_cons,List.drop_zero]
   simp only [f17,hg9,jx,ql,zj,f14,zc,qm,B0,reduceIte,reduceEqDiff]
   exact hN8 _ _ ⟨(Sep.m3 (Sep.m3 (Sep.m3 (Sep.m3 hS19)))),by rw [orF hg9]; simp only [B0,reduceIte,reduceEqDiff],f15,f16⟩
 rintro fr20 h24 ⟨hS25,f21,f22,f23⟩
 simp only [List.drop_succ_cons,List.drop_zero]
 simp only [f21,z8,ql,B0,reduceIte,reduceEqDiff]
 refine qc2 14 (fun fr' h'=>Sep h' lo ([Blk1 pb0 [.int .i64 v_0.Generation,pv0_1,pv0_2,
   pv0_3] 29]++(pc0_1++(pc0_2++(pc0_3++(S0)))))∧fr' 43 = .bool (((!(zq v_1.K 0 (IntKind.wrap .i64 ((List.length v_0.Readers:Int) - 1))))||((decide
   (v_1.Kind≠4))&&(decide (v_1.N≠0))))||(((decide (v_1.Kind≠4))&&(decide (v_1.Kind≠5)))&&(decide
   (v_1.Part≠0))))∧fr' 0 = .ptr pb0 0∧fr' 3 = .ref [.int .i64 v_1.Kind,.int .i64 v_1.K,.int .i64 v_1.Part,.int .i64 v_1.N] 0) rfl (fun Q26 hN27=>?_) ?_
 ·simp only [List.take_succ_cons,List.take_zero]
  simp only [qv (g:=29),B0,reduceIte,reduceEqDiff]
  refine kj (t:=((!(zq v_1.K 0 (IntKind.wrap .i64 ((List.length v_0.Readers:Int) - 1))))||((decide (v_1.Kind≠4))&&(decide (v_1.N≠0)))))
    (fun hg28=>?_) (fun hg28=>?_)
  ·simp only [hg28,qv (g:=29),xg,qv (g:=33),qhc,qv (g:=38),jx,ql,zk,zc,qm,B0,
    reduceIte,reduceEqDiff]
   exact hN27 _ _ ⟨(Sep.m3 (Sep.m3 (Sep.m3 (Sep.m3 hS25)))),by rw [orT hg28]; simp only [B0,reduceIte,reduceEqDiff],f22,f23⟩
  ·simp only [hg28,qv (g:=29),zt,f23,zv,ql,Nat.reduceAdd,Nat.zero_add,Nat.add_zero,qq,zm,B0,reduceIte,reduceEqDiff]
   refine qp (v := .int .i64 v_1.Kind) rfl ?_
   simp only [hg28,qv (g:=29),zt,yh,ql,wx,z8,B0,reduceIte,reduceEqDiff]
   refine qc2 4 (fun fr' h'=>Sep h' lo ([Blk1 pb0 [.int .i64 v_0.Generation,pv0_1,pv0_2,
     pv0_3] 29]++(pc0_1++(pc0_2++(pc0_3++(S0)))))∧fr' 37 = .bool ((decide (v_1.Kind≠4))&&(decide
     (v_1.Kind≠5)))∧fr' 0 = .ptr pb0 0∧fr' 3 = .ref [.int .i64 v_1.Kind,.int .i64 v_1.K,.int .i64 v_1.Part,
     .int .i64 v_1.N] 0∧fr' 29 = .bool ((!(zq v_1.K 0 (IntKind.wrap .i64 ((List.length v_0.Readers:Int) - 1))))||((decide (v_1.Kind≠4))&&(decide
     (v_1.N≠0))))) rfl (fun Q29 hN30=>?_) ?_
   ·simp only [List.take_succ_cons,List.take_zero]
    simp only [qv (g:=33),B0,reduceIte,reduceEqDiff]
    refine kj (t:=(decide (v_1.Kind≠4))) (fun hg31=>?_) (fun hg31=>?_)
    ·simp only [hg31,qv (g:=33),j5,f23,zv,ql,Nat.reduceAdd,Nat.zero_add,Nat.add_zero,qq,zm,B0,reduceIte,reduceEqDiff]
     refine qp (v := .int .i64 v_1.Kind) rfl ?_
     simp only [hg31,qv (g:=33),j5,yh,ql,wx,hg28,qv (g:=29),zt,jx,zk,zc,qm,B0,
       reduceIte,reduceEqDiff]
     exact hN30 _ _ ⟨(Sep.m3 (Sep.m3 (Sep.m3 (Sep.m3 hS25)))),by rw [xj hg31]; simp only [B0,reduceIte,reduceEqDiff],f22,f23,by simp only [hg28,B0,reduceIte,
       reduceEqDiff]⟩
    ·simp only [hg31,qv (g:=33),qcn,hg28,qv (g:=29),zt,jx,ql,zj,zc,qm,B0,reduceIte,
      reduceEqDiff]
     exact hN30 _ _ ⟨(Sep.m3 (Sep.m3 (Sep.m3 (Sep.m3 hS25)))),by rw [xy hg31]; simp only [B0,reduceIte,reduceEqDiff],f22,f23,by simp only [hg28,B0,reduceIte,
       reduceEqDiff]⟩
   rintro fr32 h37 ⟨hS38,f33,f34,f35,f36⟩
   simp only [List.drop_succ_cons,List.drop_zero]
   simp only [f36,hg28,qv (g:=29),zt,f33,z8,ql,B0,reduceIte,reduceEqDiff]
   refine qc2 4 (fun fr' h'=>Sep h' lo ([Blk1 pb0 [.int .i64 v_0.Generation,pv0_1,pv0_2,
     pv0_3] 29]++(pc0_1++(pc0_2++(pc0_3++(S0)))))∧fr' 42 = .bool (((decide (v_1.Kind≠4))&&(decide (v_1.Kind≠5)))&&(decide
     (v_1.Part≠0)))∧fr' 0 = .ptr pb0 0∧fr' 3 = .ref [.int .i64 v_1.Kind,.int .i64 v_1.K,.int .i64 v_1.Part,
     .int .i64 v_1.N] 0∧fr' 29 = .bool ((!(zq v_1.K 0 (IntKind.wrap .i64 ((List.length v_0.Readers:Int) - 1))))||((decide (v_1.Kind≠4))&&(decide
     (v_1.N≠0))))) rfl (fun Q39 hN40=>?_) ?_
   ·simp only [List.take_succ_cons,List.take_zero]
    simp only [qv (g:=38),B0,reduceIte,reduceEqDiff]
    refine kj (t:=((decide (v_1.Kind≠4))&&(decide (v_1.Kind≠5)))) (fun hg41=>?_) (fun hg41=>?_)
    ·simp only [hg41,qv (g:=38),j5,f35,zv,ql,Nat.reduceAdd,Nat.zero_add,Nat.add_zero,qq,zm,B0,reduceIte,reduceEqDiff]
     refine qp (v := .int .i64 v_1.Part) rfl ?_
     simp only [hg41,qv (g:=38),j5,yh,ql,wx,f36,hg28,qv (g:=29),zt,jx,zk,zc,qm,B0,
       reduceIte,reduceEqDiff]
     exact hN40 _ _ ⟨(Sep.m3 (Sep.m3 (Sep.m3 (Sep.m3 hS38)))),by rw [xj hg41]; simp only [B0,reduceIte,reduceEqDiff],f34,f35,by simp only [f36,hg28,B0,reduceIte,
       reduceEqDiff]⟩
    ·simp only [hg41,qv (g:=38),qcn,f36,hg28,qv (g:=29),zt,jx,ql,zj,zc,qm,B0,reduceIte,
      reduceEqDiff]
     exact hN40 _ _ ⟨(Sep.m3 (Sep.m3 (Sep.m3 (Sep.m3 hS38)))),by rw [xy hg41]; simp only [B0,reduceIte,reduceEqDiff],f34,f35,by simp only [f36,hg28,B0,reduceIte,
       reduceEqDiff]⟩
   rintro fr42 h47 ⟨hS48,f43,f44,f45,f46⟩
   simp only [List.drop_succ_cons,List.drop_zero]
   simp only [f46,hg28,jx,ql,zj,f43,zc,qm,B0,reduceIte,reduceEqDiff]
   exact hN27 _ _ ⟨(Sep.m3 (Sep.m3 (Sep.m3 (Sep.m3 hS48)))),by rw [orF hg28]; simp only [B0,reduceIte,reduceEqDiff],f44,f45⟩
 rintro fr49 h53 ⟨hS54,f50,f51,f52⟩
 simp only [List.drop_succ_cons,List.drop_zero]
 simp only [zc,f50,za,B0,reduceIte,reduceEqDiff]
 refine qz (t:=(((!(zq v_1.K 0 (IntKind.wrap .i64 ((List.length v_0.Readers:Int) - 1))))||((decide (v_1.Kind≠4))&&(decide (v_1.N≠0))))||(((decide
   (v_1.Kind≠4))&&(decide (v_1.Kind≠5)))&&(decide (v_1.Part≠0))))) (fun hc55=>?_) (fun hc55=>?_)
 ·rw [iteT hc55] at hF
  simp only [qf,qe,qd,qa,qx,B0,reduceIte,reduceEqDiff]
  have he:=qg hF
  subst he
  simp only [zi,B0,reduceIte,reduceEqDiff]
  exact ⟨pc0_1,pc0_2,pc0_3,by first | trivial | rfl,ph0_1,ph0_2,ph0_3,(Sep.m3 (Sep.m3 (Sep.m3 (Sep.m3 hS54))))⟩
 rw [iteF hc55] at hF
 simp only [zh,qrj,qf,jc,f51,z8,ql,yd,jd,zv,Nat.reduceAdd,Nat.zero_add,Nat.add_zero,zg,zm,B0,reduceIte,
   reduceEqDiff]
 refine qp (v:=pv0_1) ((z9 (Sep.bk _ _ _ hS54)).trans rfl) ?_
 simp only [f52,zv,ql,Nat.reduceAdd,Nat.zero_add,Nat.add_zero,qq,zm,B0,reduceIte,reduceEqDiff]
 refine qp (v := .int .i64 v_1.K) rfl ?_
 obtain ⟨x56,hx57,hF58⟩:=qh hF
 simp only [yj,B0,reduceIte,reduceEqDiff]
 obtain ⟨b59,hb60⟩:=SlN.isrow ph0_1 (ku hx57)
 refine qp (SlN.ia ph0_1 hb60 hx57) ?_
 obtain ⟨c61,cs62,os63,hv64,hR65,hS66⟩:=SlG.opn (SlN.toG ph0_1 hb60 Reader.RO.len) hx57 kv Reader.RO.len (Sep.m1 hS54)
 obtain ⟨v68,c69,v72,c73,hv70,hv74,rfl,rfl⟩:=hR65
 have hS67:=Sep.no2 hS66
 simp only [z8,ql,zc,qr2,qf,jc,yd,jd,zv,Nat.reduceAdd,Nat.zero_add,Nat.add_zero,zg,zm,B0,reduceIte,
   reduceEqDiff]
 refine qp (v := .bool x56.In) ((SlG.ld (o:=0) hv64 rfl hx57 hS67 (Nat.le_of_ble_eq_true rfl)).trans rfl) ?_
 simp only [f52,zv,ql,Nat.reduceAdd,Nat.zero_add,Nat.add_zero,qq,zm,B0,reduceIte,reduceEqDiff]
 refine qp (v := .int .i64 v_1.Kind) rfl ?_
 simp only [yh,ql,yx,ql2,qhs,zc,za,B0,reduceIte,reduceEqDiff]
 refine qz (t:=(x56.In == (decide (v_1.Kind=1)))) (fun hc76=>?_) (fun hc76=>?_)
 ·rw [iteT hc76] at hF58
  simp only [qf,qe,qd,qa,qx,B0,reduceIte,reduceEqDiff]
  obtain ⟨c77,hv78,hS79⟩:=SlG.cls0 (c:=c61) (os:=c69++(c73)) hv64 rfl hx57 kv (Reader.RI (x:=x56) hv70 hv74) (Sep.ni2 (c1:=c69) (c2:=c73) (Sep.m2 (Sep.m2
    (Sep.m2 hS67))))
  have hv80:=SlG.toN hv78
  have he:=qg hF58
  subst he
  simp only [zi,B0,reduceIte,reduceEqDiff]
  exact ⟨c77,pc0_2,pc0_3,by first | trivial | rfl,hv80,ph0_2,ph0_3,(Sep.m3 (Sep.m2 (Sep.m3 (Sep.m3 hS79))))⟩
 rw [iteF hc76] at hF58
 simp only [zh,qpl,qf,jc,z8,ql,yd,jd,zv,Nat.reduceAdd,Nat.zero_add,Nat.add_zero,zg,zm,B0,reduceIte,
   reduceEqDiff]
 refine qp (v := .int .i64 x56.Generation) ((SlG.ld (o:=1) hv64 rfl hx57 hS67 (Nat.le_of_ble_eq_true rfl)).trans rfl) ?_
 simp only [f51,z8,ql,yd,jd,zv,Nat.reduceAdd,Nat.zero_add,Nat.add_zero,zg,zm,B0,reduceIte,reduceEqDiff]
 refine qp (v := .int .i64 v_0.Generation) ((z9 (Sep.bk _ _ _ (Sep.m3 hS67))).trans rfl) ?_
 simp only [yh,ql,yx,z8,zc,qs0,qf,qe,f52,qt,qb,Nat.reduceAdd,Nat.zero_add,Nat.add_zero,qq,qn,B0,
   reduceIte,reduceEqDiff]
 refine qj (v := .int .i64 v_1.Kind) rfl ?_
 simp only [qa,qsl,qav,qp8,qf,qe,q9,qb,yx,qd,qw8,za,B0,reduceIte,reduceEqDiff]
 obtain ⟨c81,hv82,hS83⟩:=SlG.cls0 (c:=c61) (os:=c69++(c73)) hv64 rfl hx57 kv (Reader.RI (x:=x56) hv70 hv74) (Sep.ni2 (c1:=c69) (c2:=c73) (Sep.m2 (Sep.m2
   (Sep.m2 hS67))))
 have hv84:=SlG.toN hv82
 obtain ⟨s85,hX87,hk88⟩:=qh hF58
 refine qbs (t:=(decide (v_1.Kind=1))) (fun fr' h'=>fr' 0 = .ptr pb0 0∧fr' 3 = .ref [.int .i64 v_1.Kind,.int .i64 v_1.K,.int .i64 v_1.Part,
   .int .i64 v_1.N] 0∧fr' 5 = .ptr b59 (v_1.K.toNat*4)∧fr' 6 = .bool (decide
   (x56.Generation=v_0.Generation))∧fr' 69 = .int .i64 v_1.Kind∧fr' 70 = .bool s85∧Sep h' lo ([Blk1 pb0 [.int .i64 v_0.Generation,pv0_1,pv0_2,
   pv0_3] 29]++(c81++(pc0_2++(pc0_3++(S0)))))) (fun Q89 hN90 hR91 hE92=>⟨fun hc93=>?_,fun hc93=>?_⟩) ?_
 ·rw [iteT hc93] at hX87
  simp only [zh,qm,B0,reduceIte,reduceEqDiff]
  have e94:=qg hX87
  subst e94
  exact hN90 _ _ ⟨f51,f52,rfl,rfl,rfl,rfl,(Sep.m3 (Sep.m2 (Sep.m3 (Sep.m3 hS83))))⟩
 ·rw [iteF hc93] at hX87
  simp only [qe,q9,qb,yx,qd,qa,qm,B0,reduceIte,reduceEqDiff]
  have e95:=qg hX87
  subst e95
  exact hN90 _ _ ⟨f51,f52,rfl,rfl,rfl,rfl,(Sep.m3 (Sep.m2 (Sep.m3 (Sep.m3 hS83))))⟩
 rintro fr96 h97 ⟨f99,f100,f101,f102,f103,f104,hS98⟩
 unfold z5 at hk88
 simp only [qoq,f104,za,B0,reduceIte,reduceEqDiff]
 refine qz (t:=s85) (fun hc105=>?_) (fun hc105=>?_)
 ·rw [iteT hc105] at hk88
  simp only [qy9,qf,qe,f99,qd,ux,qb,jd,qt,Nat.reduceAdd,Nat.zero_add,Nat.add_zero,zg,qn,B0,reduceIte,reduceEqDiff]
  refine qj (v := .int .i64 v_0.Generation) ((z9 (Sep.bk _ _ _ hS98)).trans rfl) ?_
  simp only [q9,qb,yx,qa,za,B0,reduceIte,reduceEqDiff]
  refine qz (t:=(decide (v_0.Generation=1000))) (fun hc106=>?_) (fun hc106=>?_)
  ·rw [iteT hc106] at hk88
   simp only [qf,qe,qd,qa,qx,B0,reduceIte,reduceEqDiff]
   have he:=qg hk88
   subst he
   simp only [zi,B0,reduceIte,reduceEqDiff]
   exact ⟨c81,pc0_2,pc0_3,by first | trivial | rfl,hv84,ph0_2,ph0_3,(Sep.m3 (Sep.m3 (Sep.m3 (Sep.m3 hS98))))⟩
  rw [iteF hc106] at hk88
  simp only [zh,qvz,qf,qe,f99,qd,ux,qb,jd,qt,Nat.reduceAdd,Nat.zero_add,Nat.add_zero,zg,qn,B0,reduceIte,
    reduceEqDiff]
  refine qj (v := .int .i64 v_0.Generation) ((z9 (Sep.bk _ _ _ hS98)).trans rfl) ?_
  simp only [q9,qb,u0,ux,jd,qt,Nat.reduceAdd,Nat.zero_add,Nat.add_zero,zg,zn,B0,reduceIte,reduceEqDiff]
  refine zd (us:=[.int .i64 (IntKind.wrap .i64 (v_0.Generation+1))]) rfl (cs':=[.int .i64 (IntKind.wrap .i64 (v_0.Generation+1)),pv0_1,pv0_2,
    pv0_3]) hS98 hW rfl rfl (Nat.le_of_ble_eq_true rfl) rfl (fun h107 hS108=>?_)
  simp only [qa,qvh,qf,jc,f101,z8,ql,f100,zv,Nat.reduceAdd,Nat.zero_add,Nat.add_zero,qq,zm,B0,reduceIte,reduceEqDiff]
  refine qp (v := .int .i64 v_1.Kind) rfl ?_
  simp only [yh,ql,yx,f99,z8,yd,jd,zv,Nat.reduceAdd,Nat.zero_add,Nat.add_zero,zg,zm,B0,reduceIte,reduceEqDiff]
  refine qp (v:=pv0_3) ((z9 (Sep.bk _ _ _ hS108)).trans rfl) ?_
  obtain ⟨l109,hx110,hF111⟩:=qh hk88
  simp only [qen,ql,SlF.plen ph0_3,qme,B0,reduceIte,reduceEqDiff]
  refine qdr (f:=cI) (z:=(0:Int)) hS108 hx110 rfl (fun v112 c113 h114 hv115 hS116=>?_)
  simp only [qde,evp,B0,reduceIte,reduceEqDiff]
  refine qp (v := .agg [.bool (decide (v_1.Kind=1)),.int .i64 0,.nil,
    v112]) (xd (xe (us:=[.bool (decide (v_1.Kind=1))]) (vs:=[.bool (decide (v_1.Kind=1)),.int .i64 0,.nil,
    .nil]) rfl rfl (Nat.le_of_ble_eq_true rfl) rfl rfl (xe (us:=[v112]) (vs:=[.bool (decide (v_1.Kind=1)),.int .i64 0,.nil,
    v112]) (jr (SlF.one hv115)) rfl (Nat.le_of_ble_eq_true rfl) (qk (SlF.one hv115) zl) rfl qcv))) ?_
  obtain ⟨c120,cs121,os122,hv123,hR124,hS125⟩:=SlG.opn (SlN.toG hv84 hb60 Reader.RO.len) hx57 kv Reader.RO.len (Sep.m2 hS116)
  obtain ⟨v127,c128,v131,c132,hv129,hv133,rfl,rfl⟩:=hR124
  have hS126:=Sep.no2 hS125
  simp only [yd,ql,jd,xb,B0,reduceIte,reduceEqDiff]
  refine qjr (us:=[.bool (decide (v_1.Kind=1)),.int .i64 0,.nil,v112]) (o:=0) (cs':=[.bool (decide (v_1.Kind=1)),.int .i64 0,.nil,
    v112]) rfl hv123 rfl hx57 hS126 hW rfl (qk rfl (qk rfl (qk rfl (qk (SlF.one hv115) zl)))) (Nat.le_of_ble_eq_true rfl) rfl (fun c135 h118 hv136 hS119=>?_)
  simp only [zc,qf,qe,qd,qa,qx,B0,reduceIte,reduceEqDiff]
  obtain ⟨c137,hv138,hS139⟩:=SlG.cls (e':=(Reader.mk (decide (v_1.Kind=1)) 0 [] l109)) (c:=c135) (os:=[]++(c113)) hv136 rfl hx57 kv (Reader.RI (x :=
    (Reader.mk (decide (v_1.Kind=1)) 0 [] l109)) SlF.nil hv115) (Sep.ni2 (c1:=[]) (c2:=c113) (S:=(c128++(c132++([Blk1 pb0 [.int .i64 (IntKind.wrap .i64
    (v_0.Generation+1)),pv0_1,pv0_2,pv0_3] 29]++(pc0_2++(pc0_3++(S0))))))) ((Sep.m1 (Sep.m3 hS119)) : Sep _ lo (c135++(c113++(c128++(c132 ++
    ([Blk1 pb0 [.int .i64 (IntKind.wrap .i64 (v_0.Generation+1)),pv0_1,pv0_2,pv0_3] 29]++(pc0_2++(pc0_3++(S0))))))))))
  have hx140:=wb (x':=(Reader.mk (decide (v_1.Kind=1)) 0 [] l109)) hx57
  have hv141:=SlG.toN hv138
  have he:=qg hF111
  subst he
  simp only [zi,B0,reduceIte,reduceEqDiff]
  exact ⟨c137,pc0_2,pc0_3,by first | trivial | rfl,hv141,ph0_2,ph0_3,(Sep.m3 (Sep.m2 (Sep.m3 (Sep.m3 (Sep.dc (Sep.m1 (Sep.dc (Sep.m1 hS139))))))))⟩
 rw [iteF hc105] at hk88
 simp only [qsr,qf,qe,f103,q9,qb,yx,qd,qa,qqq,za,B0,reduceIte,reduceEqDiff]
 refine qz (t:=(decide (v_1.Kind=3))) (fun hc142=>?_) (fun hc142=>?_)
 ·rw [iteT hc142] at hk88
  simp only [qsc,qf,qe,f102,qd,qa,za,B0,reduceIte,reduceEqDiff]
  refine qz (t:=(decide (x56.Generation=v_0.Generation))) (fun hc143=>?_) (fun hc143=>?_)
  ·rw [iteT hc143] at hk88
   simp only [qf,qe,qd,qa,qx,B0,reduceIte,reduceEqDiff]
   have he:=qg hk88
   subst he
   simp only [zi,B0,reduceIte,reduceEqDiff]
   exact ⟨c81,pc0_2,pc0_3,by first | trivial | rfl,hv84,ph0_2,ph0_3,(Sep.m3 (Sep.m3 (Sep.m3 (Sep.m3 hS98))))⟩
  rw [iteF hc143] at hk88
  simp only [zh,qpp,qf,qe,f101,qd,f99,ux,qb,jd,qt,Nat.reduceAdd,Nat.zero_add,Nat.add_zero,zg,qn,B0,
    reduceIte,reduceEqDiff]
  refine qj (v := .int .i64 v_0.Generation) ((z9 (Sep.bk _ _ _ hS98)).trans rfl) ?_
  obtain ⟨c146,cs147,os148,hv149,hR150,hS151⟩:=SlG.opn (SlN.toG hv84 hb60 Reader.RO.len) hx57 kv Reader.RO.len (Sep.m1 hS98)
  obtain ⟨v153,c154,v157,c158,hv155,hv159,rfl,rfl⟩:=hR150
  have hS152:=Sep.no2 hS151
  simp only [ux,qb,jd,qt,Nat.reduceAdd,Nat.zero_add,Nat.add_zero,zg,zn,B0,reduceIte,reduceEqDiff]
  refine qf9 (us:=[.int .i64 v_0.Generation]) (o:=1) (cs':=[.bool x56.In,.int .i64 v_0.Generation,v153,
    v157]) rfl hv149 rfl hx57 hS152 hW rfl rfl (Nat.le_of_ble_eq_true rfl) rfl (fun c161 h144 hv162 hS145=>?_)
  simp only [qa,qpi,qf,jc,f101,qk5,ql,f99,z8,yd,jd,zm,B0,reduceIte,reduceEqDiff]
  refine qp (v := .agg [.int .i64 v_0.Generation,pv0_1,pv0_2,pv0_3]) ((z7 (Sep.bk _ _ _ (Sep.m3 hS145))).trans rfl) ?_
  simp only [f100,zv,ql,Nat.reduceAdd,Nat.zero_add,Nat.add_zero,qq,zm,B0,reduceIte,reduceEqDiff]
  refine qp (v := .int .i64 v_1.K) rfl ?_
  obtain ⟨c163,hv164,hS165⟩:=SlG.cls (e':=(Reader.mk x56.In v_0.Generation x56.Share x56.Read)) (c:=c161) (os:=c154++(c158)) hv162 rfl hx57 kv (Reader.RI (x :=
    (Reader.mk x56.In v_0.Generation x56.Share x56.Read)) hv155 hv159) (Sep.ni2 (c1:=c154) (c2:=c158) (Sep.m2 (Sep.m2 (Sep.m2 hS145))))
  have hx166:=wb (x':=(Reader.mk x56.In v_0.Generation x56.Share x56.Read)) hx57
  have hv167:=SlG.toN hv164
  obtain ⟨v168,hx169,hF170⟩:=qh hk88
  simp only [y5,B0,reduceIte,reduceEqDiff]
  refine q3p rfl hS165 (qi (jb (qi qs (qi (SlN.snap hv167 _ hS165 rfl Reader.RO) (qi (SlF.snap ph0_2 (Sep.m2 hS165) rfl (fun _=>rfl)
    (fun _=>rfl)) (qi (SlF.snap ph0_3 (Sep.m3 hS165) rfl (fun _=>rfl) (fun _=>rfl)) qy))))) (qi qs qy)) (qa8
    (fun b hb=>decide_eq_true hb) (Readers_.mk v_0.Generation (List.set v_0.Readers v_1.K.toNat
    (Reader.mk x56.In v_0.Generation x56.Share x56.Read)) v_0.Committed v_0.Ends) v_1.K v168 hx169) ?_
  rintro v171 h175 ⟨_,c172,rfl,hv173,hS176⟩
  refine ⟨_,qgs (SlF.free1 hv173),hS176,(z0 (SlF.pf hv173 (fun _=>rfl)) yc),fun h177 hS178=>?_⟩
  have hS179:Sep h177 lo (c172++(c163++([Blk1 pb0 [.int .i64 v_0.Generation,pv0_1,pv0_2,pv0_3] 29]++(pc0_2++(pc0_3++(S0)))))):=by simpa only [List.append_assoc,
    List.nil_append] using hS178
  obtain ⟨c182,cs183,os184,hv185,hR186,hS187⟩:=SlG.opn (SlN.toG hv167 hb60 Reader.RO.len) hx166 kv Reader.RO.len (Sep.m1 hS179)
  obtain ⟨v189,c190,v193,c194,hv191,hv195,rfl,rfl⟩:=hR186
  have hS188:=Sep.no2 hS187
  simp only [yd,ql,jd,zv,Nat.reduceAdd,Nat.zero_add,Nat.add_zero,zg,xb,B0,reduceIte,reduceEqDiff]
  refine qjr (us:=[v171]) (o:=2) (cs':=[.bool ((Reader.mk x56.In v_0.Generation x56.Share x56.Read).In),
    .int .i64 ((Reader.mk x56.In v_0.Generation x56.Share x56.Read).Generation),v171,
    v193]) (jr (SlF.one hv173)) hv185 rfl hx166 hS188 hW rfl (qk (SlF.one hv173) zl) (Nat.le_of_ble_eq_true rfl) rfl (fun c197 h180 hv198 hS181=>?_)
  simp only [zc,qqn,qf,qe,f101,qd,f99,ux,qb,jd,qt,Nat.reduceAdd,Nat.zero_add,Nat.add_zero,zg,qn,B0,
    reduceIte,reduceEqDiff]
  refine qj (v:=pv0_3) ((z9 (Sep.bk _ _ _ (Sep.m4 hS181))).trans rfl) ?_
  obtain ⟨l199,hx200,hF201⟩:=qh hF170
  simp only [zo,qb,SlF.plen ph0_3,qh9,B0,reduceIte,reduceEqDiff]
  refine qer (f:=cI) (z:=(0:Int)) hS181 hx200 rfl (fun v202 c203 h204 hv205 hS206=>?_)
  simp only [ux,qb,jd,qt,Nat.reduceAdd,Nat.zero_add,Nat.add_zero,zg,zn,B0,reduceIte,reduceEqDiff]
  refine qf9 (us:=[v202]) (o:=3) (cs':=[.bool ((Reader.mk x56.In v_0.Generation x56.Share x56.Read).In),
    .int .i64 ((Reader.mk x56.In v_0.Generation x56.Share x56.Read).Generation),v171,
    v202]) (jr (SlF.one hv205)) hv198 rfl hx166 (Sep.m1 hS206) hW rfl (qk (SlF.one hv205) zl) (Nat.le_of_ble_eq_true rfl) rfl (fun c210 h208 hv211 hS209=>?_)
  simp only [qa,q1c,qf,qe,f101,qd,ux,qb,jd,qt,Nat.reduceAdd,Nat.zero_add,Nat.add_zero,zg,qn,B0,reduceIte,
    reduceEqDiff]
  refine qj (v:=v171) ((SlG.ld (o:=2) hv211 rfl hx166 hS209 (Nat.le_of_ble_eq_true rfl)).trans rfl) ?_
  simp only [zo,qb,SlF.plen hv173,qd,qa,B0,reduceIte,reduceEqDiff]
  obtain ⟨oc220,hX222,hk223⟩:=jj hF201
  simp only [q2e]
  refine qbr (σ:=(List Int)) (fun i218 s262=>qbl v_0 v168 i218 s262) (fun s fr' h'=>∃ c216,
    fr' 0 = .ptr pb0 0∧fr' 5 = .ptr b59 (v_1.K.toNat*4)∧fr' 128=v171∧SlF cI 1 3 v202 s c216∧Sep h' lo ([Blk1 pb0 [.int .i64 v_0.Generation,pv0_1,pv0_2,
    pv0_3] 29]++(c210++(c172++(pc0_2++(pc0_3++(c216++(S0)))))))) hX222 ⟨c203,f99,f101,rfl,hv205,
    (Sep.m5 (Sep.m4 (Sep.m4 (Sep.m5 (Sep.m5 (Sep.m1 (Sep.dc (Sep.m2 (Sep.dc (Sep.m2 hS209))))))))))⟩ (by simp only [B0,reduceIte,reduceEqDiff]) (by simp only [B0,reduceIte,
    reduceEqDiff]) (fun _ _ _ h=>h) rfl rfl (fun _ _ _ _ h=>h) (fun _ _ _ _ h=>h) (fun _ _ _ _ h=>h) (by decide) ?_ ?_
  ·rintro i218 s215 fr232 h233 hx238 ⟨c216,f235,f236,f237,hv217,hS234⟩ f239 f240 oc221 hF224 hr225 Q226 hN227 hB231 hK228 hR229 hE230
   unfold qbl at hF224
   obtain ⟨x241,hx242,hF243⟩:=qh hF224
   simp only [q07,qf,qe,f237,f239,jo,B0,reduceIte,reduceEqDiff]
   obtain ⟨b244,hb245⟩:=SlF.isrow hv173 (ku hx242)
   refine qj (SlF.ia hv173 hb245 hx242) ?_
   simp only [qn,B0,reduceIte,reduceEqDiff]
   refine qj (v := .int .i64 x241) ((SlF.ld (o:=0) hv173 (Sep.m2 hS234) hb245 hx242 (fun _=>rfl) (Nat.le_of_ble_eq_true rfl)).trans rfl) ?_
   simp only [qd,qa,qvn,jc,f236,z8,ql,yd,jd,zv,Nat.reduceAdd,Nat.zero_add,Nat.add_zero,zg,zm,B0,reduceIte,
     reduceEqDiff]
   refine qp (v:=v202) ((SlG.ld (o:=3) hv211 rfl hx166 (Sep.m1 hS234) (Nat.le_of_ble_eq_true rfl)).trans rfl) ?_
   simp only [z8,ql,f235,yd,jd,zv,Nat.reduceAdd,Nat.zero_add,Nat.add_zero,zg,zm,B0,reduceIte,reduceEqDiff]
   refine qp (v:=pv0_2) ((z9 (Sep.bk _ _ _ hS234)).trans rfl) ?_
   obtain ⟨x246,hx247,hF248⟩:=qh hF243
   simp only [z8,ql,yj,B0,reduceIte,reduceEqDiff]
   obtain ⟨b249,hb250⟩:=SlF.isrow ph0_2 (ku hx247)
   refine qp (SlF.ia ph0_2 hb250 hx247) ?_
   simp only [zm,B0,reduceIte,reduceEqDiff]
   refine qp (v := .int .i64 x246) ((SlF.ld (o:=0) ph0_2 (Sep.m3 hS234) hb250 hx247 (fun _=>rfl) (Nat.le_of_ble_eq_true rfl)).trans rfl) ?_
   obtain ⟨x251,hx252,hF253⟩:=qh hF248
   simp only [yj,B0,reduceIte,reduceEqDiff]
   obtain ⟨b254,hb255⟩:=SlF.isrow hv217 (ku hx252)
   refine qp (SlF.ia hv217 hb255 hx252) ?_
   simp only [xb,B0,reduceIte,reduceEqDiff]
   refine qbk (f:=cI) (x':=x246) (o:=0) hv217 (Sep.m5 hS234) hW hb255 hx252 (fun _=>rfl) rfl rfl (Nat.le_of_ble_eq_true rfl) rfl (fun c258 h256 hv259 hS257=>?_)
   have hx260:=wb (x':=x246) hx252
   simp only [zc,qm,B0,reduceIte,reduceEqDiff]
   have e261:=qg hF253
   exact hN227 _ _ _ e261.symm ⟨c258,f235,f236,f237,hv259,(Sep.m5 (Sep.m5 (Sep.m5 (Sep.m5 (Sep.m5 hS257)))))⟩ (f239) (f240)
  rintro s263 fr266 h267 rfl ⟨c264,f269,f270,f271,hv265,hS268⟩
  dsimp only [jnO] at hk223
  unfold qdo at hk223
  simp only [qf,qe,qd,qa,qx,B0,reduceIte,reduceEqDiff]
  obtain ⟨c272,hv273,hS274⟩:=SlG.cls (e':=(Reader.mk ((Reader.mk x56.In v_0.Generation x56.Share x56.Read).In)
    ((Reader.mk x56.In v_0.Generation x56.Share x56.Read).Generation) v168 s263)) (c:=c210) (os:=c172++(c264)) hv211 rfl hx166 kv (Reader.RI (x:=(Reader.mk
    ((Reader.mk x56.In v_0.Generation x56.Share x56.Read).In) ((Reader.mk x56.In v_0.Generation x56.Share x56.Read).Generation) v168 s263)) hv173 hv265) (Sep.ni2 (c1:=c172)
    (c2:=c264) (Sep.m3 (Sep.m3 (Sep.m5 hS268))))
  rw [List.set_set] at hv273
  have hx275:=wb (x':=(Reader.mk ((Reader.mk x56.In v_0.Generation x56.Share x56.Read).In)
    ((Reader.mk x56.In v_0.Generation x56.Share x56.Read).Generation) v168 s263)) hx57
  have hv276:=SlG.toN hv273
  have he:=qg hk223
  subst he
  simp only [zi,B0,reduceIte,reduceEqDiff]
  exact ⟨c272,pc0_2,pc0_3,by first | trivial | rfl,hv276,ph0_2,ph0_3,(Sep.m3 (Sep.m2 (Sep.m3 (Sep.m3 hS274))))⟩
 rw [iteF hc142] at hk88
 simp only [qq8,qf,qe,f103,q9,qb,yx,qd,qa,qrs,za,B0,reduceIte,reduceEqDiff]
 refine qz (t:=(decide (v_1.Kind=4))) (fun hc278=>?_) (fun hc278=>?_)
 ·rw [iteT hc278] at hk88
  obtain ⟨c279,cs280,os281,hv282,hR283,hS284⟩:=SlG.opn (SlN.toG hv84 hb60 Reader.RO.len) hx57 kv Reader.RO.len (Sep.m1 hS98)
  obtain ⟨v286,c287,v290,c291,hv288,hv292,rfl,rfl⟩:=hR283
  have hS285:=Sep.no2 hS284
  simp only [qq1,qf,jc,f101,z8,ql,yd,jd,zv,Nat.reduceAdd,Nat.zero_add,Nat.add_zero,zg,zm,B0,reduceIte,reduceEqDiff]
  refine qp (v:=v286) ((SlG.ld (o:=2) hv282 rfl hx57 hS285 (Nat.le_of_ble_eq_true rfl)).trans rfl) ?_
  simp only [f100,zv,ql,Nat.reduceAdd,Nat.zero_add,Nat.add_zero,qq,zm,B0,reduceIte,reduceEqDiff]
  refine qp (v := .int .i64 v_1.Part) rfl ?_
  obtain ⟨v294,hx295,hF296⟩:=qh hk88
  simp only [y5,B0,reduceIte,reduceEqDiff]
  refine qel rfl (qi (SlF.snap hv288 (Sep.m1 hS285) rfl (fun _=>rfl) (fun _=>rfl)) (qi qs qy)) (x8
    (fun b hb=>decide_eq_true hb) x56.Share v_1.Part v294 hx295) ?_
  simp only [qf5,ql,jt,z8,B0,reduceIte,reduceEqDiff]
  refine qc2 4 (fun fr' h'=>Sep h' lo ([Blk1 pb0 [.int .i64 v_0.Generation,pv0_1,pv0_2,
    pv0_3] 29]++(c279++(pc0_2++(pc0_3++(c287++(c291++(S0)))))))∧fr' 162 = .bool ((!v294)||(decide
    (v_1.N<1)))∧fr' 0 = .ptr pb0 0∧fr' 3 = .ref [.int .i64 v_1.Kind,.int .i64 v_1.K,.int .i64 v_1.Part,
    .int .i64 v_1.N] 0∧fr' 5 = .ptr b59 (v_1.K.toNat*4)) rfl (fun Q297 hN298=>?_) ?_
  ·simp only [List.take_succ_cons,List.take_zero]
   simp only [qv (g:=158),B0,reduceIte,reduceEqDiff]
   refine kj (t:=(!v294)) (fun hg299=>?_) (fun hg299=>?_)
   ·simp only [hg299,qv (g:=158),xg,jx,ql,zk,zc,qm,B0,reduceIte,reduceEqDiff]
    exact hN298 _ _ ⟨(Sep.m5 (Sep.m4 (Sep.m5 (Sep.m5 (Sep.m2 (Sep.m2 hS285)))))),by rw [orT hg299]; simp only [B0,reduceIte,reduceEqDiff],f99,f100,f101⟩
   ·simp only [hg299,qv (g:=158),zt,f100,zv,ql,Nat.reduceAdd,Nat.zero_add,Nat.add_zero,qq,zm,B0,reduceIte,reduceEqDiff]
    refine qp (v := .int .i64 v_1.N) rfl ?_
    simp only [hg299,qv (g:=158),zt,yh,ql,qeb,jx,zj,zc,qm,B0,reduceIte,reduceEqDiff]
    exact hN298 _ _ ⟨(Sep.m5 (Sep.m4 (Sep.m5 (Sep.m5 (Sep.m2 (Sep.m2 hS285)))))),by rw [orF hg299]; simp only [B0,reduceIte,reduceEqDiff],f99,f100,f101⟩
  rintro fr300 h305 ⟨hS306,f301,f302,f303,f304⟩
  simp only [List.drop_succ_cons,List.drop_zero]
  simp only [zc,f301,za,B0,reduceIte,reduceEqDiff]
  refine qz (t:=((!v294)||(decide (v_1.N<1)))) (fun hc307=>?_) (fun hc307=>?_)
  ·rw [iteT hc307] at hF296
   simp only [qf,qe,qd,qa,qx,B0,reduceIte,reduceEqDiff]
   obtain ⟨c308,hv309,hS310⟩:=SlG.cls0 (c:=c279) (os:=c287++(c291)) hv282 rfl hx57 kv (Reader.RI (x:=x56) hv288 hv292) (Sep.ni2 (c1:=c287) (c2:=c291)
     (Sep.m3 (Sep.m5 (Sep.m5 hS306))))
   have hv311:=SlG.toN hv309
   have he:=qg hF296
   subst he
   simp only [zi,B0,reduceIte,reduceEqDiff]
   exact ⟨c308,pc0_2,pc0_3,by first | trivial | rfl,hv311,ph0_2,ph0_3,(Sep.m3 (Sep.m2 (Sep.m3 (Sep.m3 hS310))))⟩
  rw [iteF hc307] at hF296
  simp only [zh,qsy,qf,jc,f304,z8,ql,yd,jd,zv,Nat.reduceAdd,Nat.zero_add,Nat.add_zero,zg,zm,B0,reduceIte,
    reduceEqDiff]
  refine qp (v:=v290) ((SlG.ld (o:=3) hv282 rfl hx57 (Sep.m1 hS306) (Nat.le_of_ble_eq_true rfl)).trans rfl) ?_
  simp only [f303,zv,ql,Nat.reduceAdd,Nat.zero_add,Nat.add_zero,qq,zm,B0,reduceIte,reduceEqDiff]
  refine qp (v := .int .i64 v_1.Part) rfl ?_
  obtain ⟨x312,hx313,hF314⟩:=qh hF296
  simp only [yj,B0,reduceIte,reduceEqDiff]
  obtain ⟨b315,hb316⟩:=SlF.isrow hv292 (ku hx313)
  refine qp (SlF.ia hv292 hb316 hx313) ?_
  simp only [zm,B0,reduceIte,reduceEqDiff]
  refine qp (v := .int .i64 x312) ((SlF.ld (o:=0) hv292 (Sep.m5 hS306) hb316 hx313 (fun _=>rfl) (Nat.le_of_ble_eq_true rfl)).trans rfl) ?_
  simp only [f303,zv,ql,Nat.reduceAdd,Nat.zero_add,Nat.add_zero,qq,zm,B0,reduceIte,reduceEqDiff]
  refine qp (v := .int .i64 v_1.N) rfl ?_
  simp only [f302,z8,ql,yd,jd,zv,Nat.reduceAdd,Nat.zero_add,Nat.add_zero,zg,zm,B0,reduceIte,reduceEqDiff]
  refine qp (v:=pv0_3) ((z9 (Sep.bk _ _ _ hS306)).trans rfl) ?_
  simp only [f303,zv,ql,Nat.reduceAdd,Nat.zero_add,Nat.add_zero,qq,zm,B0,reduceIte,reduceEqDiff]
  refine qp (v := .int .i64 v_1.Part) rfl ?_
  obtain ⟨x317,hx318,hF319⟩:=qh hF314
  simp only [yj,B0,reduceIte,reduceEqDiff]
  obtain ⟨b320,hb321⟩:=SlF.isrow ph0_3 (ku hx318)
  refine qp (SlF.ia ph0_3 hb321 hx318) ?_
  simp only [zm,B0,reduceIte,reduceEqDiff]
  refine qp (v := .int .i64 x317) ((SlF.ld (o:=0) ph0_3 (Sep.m3 hS306) hb321 hx318 (fun _=>rfl) (Nat.le_of_ble_eq_true rfl)).trans rfl) ?_
  simp only [f304,z8,ql,yd,jd,zv,Nat.reduceAdd,Nat.zero_add,Nat.add_zero,zg,zm,B0,reduceIte,reduceEqDiff]
  refine qp (v:=v290) ((SlG.ld (o:=3) hv282 rfl hx57 (Sep.m1 hS306) (Nat.le_of_ble_eq_true rfl)).trans rfl) ?_
  simp only [f303,zv,ql,Nat.reduceAdd,Nat.zero_add,Nat.add_zero,qq,zm,B0,reduceIte,reduceEqDiff]
  refine qp (v := .int .i64 v_1.Part) rfl ?_
  simp only [yj,B0,reduceIte,reduceEqDiff]
  refine qp (SlF.ia hv292 hb316 hx313) ?_
  simp only [zm,B0,reduceIte,reduceEqDiff]
  refine qp (v := .int .i64 x312) ((SlF.ld (o:=0) hv292 (Sep.m5 hS306) hb316 hx313 (fun _=>rfl) (Nat.le_of_ble_eq_true rfl)).trans rfl) ?_
  simp only [yh,ql,qdm,qrb,q5l,u0,yj,B0,reduceIte,reduceEqDiff]
  refine qp (SlF.ia hv292 hb316 hx313) ?_
  simp only [xb,B0,reduceIte,reduceEqDiff]
  refine qbk (f:=cI) (x':=(IntKind.wrap .i64 (x312+(mnI v_1.N (IntKind.wrap .i64 (x317 - x312)))))) (o:=0) hv292 (Sep.m5 hS306) hW hb316 hx313
    (fun _=>rfl) rfl rfl (Nat.le_of_ble_eq_true rfl) rfl (fun c324 h322 hv325 hS323=>?_)
  have hx326:=wb (x':=(IntKind.wrap .i64 (x312+(mnI v_1.N (IntKind.wrap .i64 (x317 - x312)))))) hx313
  simp only [zc,qf,qe,qd,qa,qx,B0,reduceIte,reduceEqDiff]
  obtain ⟨c327,hv328,hS329⟩:=SlG.cls (e':=(Reader.mk x56.In x56.Generation x56.Share (List.set x56.Read v_1.Part.toNat (IntKind.wrap .i64 (x312+(mnI v_1.N
    (IntKind.wrap .i64 (x317 - x312)))))))) (c:=c279) (os:=c287++(c324)) hv282 rfl hx57 kv (Reader.RI (x:=(Reader.mk x56.In x56.Generation x56.Share
    (List.set x56.Read v_1.Part.toNat (IntKind.wrap .i64 (x312+(mnI v_1.N (IntKind.wrap .i64 (x317 - x312)))))))) hv288 hv325) (Sep.ni2 (c1:=c287) (c2:=c324) (Sep.m3
    (Sep.m5 hS323)))
  have hx330:=wb (x':=(Reader.mk x56.In x56.Generation x56.Share (List.set x56.Read v_1.Part.toNat (IntKind.wrap .i64 (x312+(mnI v_1.N (IntKind.wrap .i64
    (x317 - x312)))))))) hx57
  have hv331:=SlG.toN hv328
  have he:=qg hF319
  subst he
  simp only [zi,B0,reduceIte,reduceEqDiff]
  exact ⟨c327,pc0_2,pc0_3,by first | trivial | rfl,hv331,ph0_2,ph0_3,(Sep.m3 (Sep.m2 (Sep.m3 (Sep.m3 hS329))))⟩
 rw [iteF hc278] at hk88
 simp only [qo2,qf,qe,f103,q9,qb,yx,qd,qa,qq7,za,B0,reduceIte,reduceEqDiff]
 refine qz (t:=(decide (v_1.Kind=5))) (fun hc332=>?_) (fun hc332=>?_)
 ·rw [iteT hc332] at hk88
  simp only [qsu,qf,jc,f102,z8,ql,qf5,jt,B0,reduceIte,reduceEqDiff]
  simp only [qv (g:=197),B0,reduceIte,reduceEqDiff]
  refine kj (t:=(!(decide (x56.Generation=v_0.Generation)))) (fun hg333=>?_) (fun hg333=>?_)
  ·rw [iteT hg333] at hk88
   simp only [hg333,qv (g:=197),xg,jx,ql,zk,zc,za,qhw,qf,qe,qd,qa,qx,B0,
     reduceIte,reduceEqDiff]
   have he:=qg hk88
   subst he
   simp only [zi,B0,reduceIte,reduceEqDiff]
   exact ⟨c81,pc0_2,pc0_3,by first | trivial | rfl,hv84,ph0_2,ph0_3,(Sep.m3 (Sep.m3 (Sep.m3 (Sep.m3 hS98))))⟩
  rw [iteF hg333] at hk88
  obtain ⟨c334,cs335,os336,hv337,hR338,hS339⟩:=SlG.opn (SlN.toG hv84 hb60 Reader.RO.len) hx57 kv Reader.RO.len (Sep.m1 hS98)
  obtain ⟨v341,c342,v345,c346,hv343,hv347,rfl,rfl⟩:=hR338
  have hS340:=Sep.no2 hS339
  simp only [hg333,qv (g:=197),zt,f101,z8,ql,yd,jd,zv,Nat.reduceAdd,Nat.zero_add,Nat.add_zero,zg,zm,B0,
    reduceIte,reduceEqDiff]
  refine qp (v:=v341) ((SlG.ld (o:=2) hv337 rfl hx57 hS340 (Nat.le_of_ble_eq_true rfl)).trans rfl) ?_
  simp only [hg333,qv (g:=197),zt,f100,zv,ql,Nat.reduceAdd,Nat.zero_add,Nat.add_zero,qq,zm,B0,reduceIte,reduceEqDiff]
  refine qp (v := .int .i64 v_1.Part) rfl ?_
  obtain ⟨v349,hx350,hF351⟩:=qh hk88
  simp only [hg333,qv (g:=197),zt,y5,B0,reduceIte,reduceEqDiff]
  refine qel rfl (qi (SlF.snap hv343 (Sep.m1 hS340) rfl (fun _=>rfl) (fun _=>rfl)) (qi qs qy)) (x8
    (fun b hb=>decide_eq_true hb) x56.Share v_1.Part v349 hx350) ?_
  simp only [hg333,qv (g:=197),zt,qf5,ql,jt,jx,zj,zc,za,B0,reduceIte,reduceEqDiff]
  refine qz (t:=(!v349)) (fun hc352=>?_) (fun hc352=>?_)
  ·rw [iteT hc352] at hF351
   simp only [qf,qe,qd,qa,qx,B0,reduceIte,reduceEqDiff]
   obtain ⟨c353,hv354,hS355⟩:=SlG.cls0 (c:=c334) (os:=c342++(c346)) hv337 rfl hx57 kv (Reader.RI (x:=x56) hv343 hv347) (Sep.ni2 (c1:=c342) (c2:=c346)
     (Sep.m2 (Sep.m2 (Sep.m2 hS340))))
   have hv356:=SlG.toN hv354
   have he:=qg hF351
   subst he
   simp only [zi,B0,reduceIte,reduceEqDiff]
   exact ⟨c353,pc0_2,pc0_3,by first | trivial | rfl,hv356,ph0_2,ph0_3,(Sep.m3 (Sep.m2 (Sep.m3 (Sep.m3 hS355))))⟩
  rw [iteF hc352] at hF351
  simp only [zh,qo5,qf,jc,f99,z8,ql,yd,jd,zv,Nat.reduceAdd,Nat.zero_add,Nat.add_zero,zg,zm,B0,reduceIte,
    reduceEqDiff]
  refine qp (v:=pv0_2) ((z9 (Sep.bk _ _ _ (Sep.m3 hS340))).trans rfl) ?_
  simp only [f100,zv,ql,Nat.reduceAdd,Nat.zero_add,Nat.add_zero,qq,zm,B0,reduceIte,reduceEqDiff]
  refine qp (v := .int .i64 v_1.Part) rfl ?_
  simp only [f99,z8,ql,yd,jd,zv,Nat.reduceAdd,Nat.zero_add,Nat.add_zero,zg,zm,B0,reduceIte,reduceEqDiff]
  refine qp (v:=pv0_2) ((z9 (Sep.bk _ _ _ (Sep.m3 hS340))).trans rfl) ?_
  simp only [f100,zv,ql,Nat.reduceAdd,Nat.zero_add,Nat.add_zero,qq,zm,B0,reduceIte,reduceEqDiff]
  refine qp (v := .int .i64 v_1.Part) rfl ?_
  obtain ⟨x357,hx358,hF359⟩:=qh hF351
  simp only [yj,B0,reduceIte,reduceEqDiff]
  obtain ⟨b360,hb361⟩:=SlF.isrow ph0_2 (ku hx358)
  refine qp (SlF.ia ph0_2 hb361 hx358) ?_
  simp only [zm,B0,reduceIte,reduceEqDiff]
  refine qp (v := .int .i64 x357) ((SlF.ld (o:=0) ph0_2 (Sep.m4 hS340) hb361 hx358 (fun _=>rfl) (Nat.le_of_ble_eq_true rfl)).trans rfl) ?_
  simp only [f101,z8,ql,yd,jd,zv,Nat.reduceAdd,Nat.zero_add,Nat.add_zero,zg,zm,B0,reduceIte,reduceEqDiff]
  refine qp (v:=v345) ((SlG.ld (o:=3) hv337 rfl hx57 hS340 (Nat.le_of_ble_eq_true rfl)).trans rfl) ?_
  simp only [f100,zv,ql,Nat.reduceAdd,Nat.zero_add,Nat.add_zero,qq,zm,B0,reduceIte,reduceEqDiff]
  refine qp (v := .int .i64 v_1.Part) rfl ?_
  obtain ⟨x362,hx363,hF364⟩:=qh hF359
  simp only [yj,B0,reduceIte,reduceEqDiff]
  obtain ⟨b365,hb366⟩:=SlF.isrow hv347 (ku hx363)
  refine qp (SlF.ia hv347 hb366 hx363) ?_
  simp only [zm,B0,reduceIte,reduceEqDiff]
  refine qp (v := .int .i64 x362) ((SlF.ld (o:=0) hv347 (Sep.m2 hS340) hb366 hx363 (fun _=>rfl) (Nat.le_of_ble_eq_true rfl)).trans rfl) ?_
  simp only [qrb,ql,q52,yj,B0,reduceIte,reduceEqDiff]
  refine qp (SlF.ia ph0_2 hb361 hx358) ?_
  simp only [xb,B0,reduceIte,reduceEqDiff]
  refine qbk (f:=cI) (x':=(mxI x357 x362)) (o:=0) ph0_2 (Sep.m4 hS340) hW hb361 hx358 (fun _=>rfl) rfl rfl (Nat.le_of_ble_eq_true rfl) rfl
    (fun c369 h367 hv370 hS368=>?_)
  have hx371:=wb (x':=(mxI x357 x362)) hx358
  simp only [zc,qf,qe,qd,qa,qx,B0,reduceIte,reduceEqDiff]
  obtain ⟨c372,hv373,hS374⟩:=SlG.cls0 (c:=c334) (os:=c342++(c346)) hv337 rfl hx57 kv (Reader.RI (x:=x56) hv343 hv347) (Sep.ni2 (c1:=c342) (c2:=c346) (Sep.m3
    (Sep.m3 (Sep.m3 hS368))))
  have hv375:=SlG.toN hv373
  have he:=qg hF364
  subst he
  simp only [zi,B0,reduceIte,reduceEqDiff]
  exact ⟨c372,c369,pc0_3,by first | trivial | rfl,hv375,hv370,ph0_3,(Sep.m3 (Sep.m2 (Sep.m2 (Sep.m3 hS374))))⟩
 rw [iteF hc332] at hk88
 simp only [zh,qbx,qf,qe,qd,qa,qx,B0,reduceIte,reduceEqDiff]
 have he:=qg hk88
 subst he
 simp only [zi,B0,reduceIte,reduceEqDiff]
 exact ⟨c81,pc0_2,pc0_3,by first | trivial | rfl,hv84,ph0_2,ph0_3,(Sep.m3 (Sep.m3 (Sep.m3 (Sep.m3 hS98))))⟩
theorem qht {W:Nat→Bool}{h:Heap} (hW:∀ b,
  (geL h.length) b→W b=true) (r_0:Readers_) (r:Readers_) (hF:qac r_0=some r) : Ret E W 67 [.agg [.int .i64 r_0.Generation,lst Reader.cells r_0.Readers,
  lst cI r_0.Committed,lst cI r_0.Ends]] h (fun v h'=>∃ rv0_1 rc0_1 rv0_2 rc0_2 rv0_3 rc0_3,v = .agg [.int .i64 r.Generation,rv0_1,rv0_2,
  rv0_3]∧SlN Reader.R 4 37 rv0_1 r.Readers rc0_1∧SlF cI 1 3 rv0_2 r.Committed rc0_2∧SlF cI 1 3 rv0_3 r.Ends rc0_3∧Sep h' (geL h.length) (rc0_1++(rc0_2++(rc0_3 ++
  ([]))))):=by
 refine Ret.of (fn:=x67) rfl (Run.of ?_)
 unfold qac at hF
 have zf0:zb [.agg [.int .i64 r_0.Generation,lst Reader.cells r_0.Readers,lst cI r_0.Committed,lst cI r_0.Ends]] 0 = .agg [.int .i64 r_0.Generation,
   lst Reader.cells r_0.Readers,lst cI r_0.Committed,lst cI r_0.Ends]:=rfl
 generalize zb [.agg [.int .i64 r_0.Generation,lst Reader.cells r_0.Readers,lst cI r_0.Committed,lst cI r_0.Ends]]=fr0 at zf0 ⊢
 have hS:Sep h (geL h.length) []:=Sep.nil h
 simp only [x67,qf,qe,jy,zf0,B0,reduceIte,reduceEqDiff]
 refine jk (cs:=[.int .i64 r_0.Generation,lst Reader.cells r_0.Readers,lst cI r_0.Committed,lst cI r_0.Ends]) hS rfl rfl rfl (fun b1 h2 hS3=>?_)
 simp only [ja,B0,reduceIte,reduceEqDiff]
 refine zw hS3 (fun b5 h6 hS7=>?_)
 simp only [qa,B0,reduceIte,reduceEqDiff]
 refine zu (Sep.m1 hS7) hW (by simp only [B0,reduceIte,reduceEqDiff]) (fun h9 hS10=>?_)
 simp only [zp,q1w,qf,jc,qdg,evp,B0,reduceIte,reduceEqDiff]
 refine qaq (n:=1) (f:=cI) ([] : List Int) hS10 rfl rfl (fun v11 c12 h13 hv14 hS15=>?_)
 simp only [qku,evp,B0,reduceIte,reduceEqDiff]
 refine qaq (n:=1) (f:=cI) ([] : List Int) hS15 rfl rfl (fun v17 c18 h19 hv20 hS21=>?_)
 simp only [qgn,B0,reduceIte,reduceEqDiff]
 refine qcp hS21 (fun b23 h24 hS25=>?_)
 simp only [qg0,ql,Nat.reduceAdd,Nat.zero_add,Nat.add_zero,qq,qcu,qba,B0,reduceIte,reduceEqDiff]
 refine qp (v := .int .i64 r_0.Generation) rfl ?_
 simp only [zv,ql,Nat.reduceAdd,Nat.zero_add,Nat.add_zero,qq,zm,B0,reduceIte,reduceEqDiff]
 refine qp (v:=lst cI r_0.Committed) rfl ?_
 simp only [qig,B0,reduceIte,reduceEqDiff]
 obtain ⟨l27,hx28,hF29⟩:=qh hF
 refine qk8 qjk ?_
 refine qct (f:=cI) hv14 (Sep.m2 hS25) hW (fun _=>rfl) (fun _=>rfl) (wl (fun _=>rfl)) hx28 (fun v30 c31 h32 hv33 hS34=>?_)
 simp only [qg0,ql,Nat.reduceAdd,Nat.zero_add,Nat.add_zero,qq,qcu,qba,B0,reduceIte,reduceEqDiff]
 refine qp (v:=lst cI r_0.Ends) rfl ?_
 simp only [qig,B0,reduceIte,reduceEqDiff]
 obtain ⟨l36,hx37,hF38⟩:=qh hF29
 refine qk8 qjk ?_
 refine qct (f:=cI) hv20 (Sep.m2 hS34) hW (fun _=>rfl) (fun _=>rfl) (wl (fun _=>rfl)) hx37 (fun v39 c40 h41 hv42 hS43=>?_)
 simp only [qde,evp,B0,reduceIte,reduceEqDiff]
 refine qp (v := .agg [.int .i64 r_0.Generation,.nil,v30,v39]) (xd (xe (us:=[.int .i64 r_0.Generation]) (vs:=[.int .i64 r_0.Generation,.nil,.nil,
   .nil]) rfl rfl (Nat.le_of_ble_eq_true rfl) rfl rfl (xe (us:=[v30]) (vs:=[.int .i64 r_0.Generation,.nil,v30,
   .nil]) (jr (SlF.one hv33)) rfl (Nat.le_of_ble_eq_true rfl) (qk (SlF.one hv33) zl) rfl (xe (us:=[v39]) (vs:=[.int .i64 r_0.Generation,.nil,v30,
   v39]) (jr (SlF.one hv42)) rfl (Nat.le_of_ble_eq_true rfl) (qk (SlF.one hv42) zl) rfl qcv)))) ?_
 simp only [xb,B0,reduceIte,reduceEqDiff]
 refine y7 (us:=[.int .i64 r_0.Generation,.nil,v30,v39]) rfl (cs':=[.int .i64 r_0.Generation,.nil,v30,
   v39]) (Sep.m2 hS43) hW rfl (qk rfl (qk rfl (qk (SlF.one hv33) (qk (SlF.one hv42) zl)))) (Nat.le_of_ble_eq_true rfl) rfl (fun h45 hS46=>?_)
 simp only [zc,qxy,qf,qe,qt,qb,Nat.reduceAdd,Nat.zero_add,Nat.add_zero,qq,qn,B0,reduceIte,reduceEqDiff]
 refine qj (v:=lst Reader.cells r_0.Readers) rfl ?_
 simp only [zo,qb,zr,qd,qa,B0,reduceIte,reduceEqDiff]
 obtain ⟨oc59,hX61,hk62⟩:=jj hF38
 simp only [qwy]
 refine j8 (σ:=Readers_) r_0.Readers (fun i57 x58 s138=>qai l27 l36 i57 x58 s138) (fun s fr' h'=>∃ v54 c55,
   fr' 2 = .ptr b5 0∧fr' 3 = .ptr b23 0∧fr' 18=lst Reader.cells r_0.Readers∧SlN Reader.R 4 37 v54 s.Readers c55∧Sep h' (geL h.length) ([Blk1 b5 [.int .i64 0,.nil,
   .nil,.nil] 29]++([Blk1 b23 [.int .i64 s.Generation,v54,v30,v39] 29]++(c55++(c31++(c40++([]))))))) hX61 ⟨.nil,[],rfl,rfl,rfl,SlN.nil,
   ((Sep.m3 (Sep.m2 (Sep.m2 (Sep.m1 hS46)))) : Sep _ (geL h.length) ([Blk1 b5 [.int .i64 0,.nil,.nil,.nil] 29]++([Blk1 b23 [.int .i64 r_0.Generation,.nil,v30,
   v39] 29]++(c31++(c40++([]))))))⟩ (by simp only [B0,reduceIte,reduceEqDiff]) (by simp only [B0,reduceIte,
   reduceEqDiff]) (fun _ _ _ h=>h) rfl rfl (fun _ _ _ _ h=>h) (fun _ _ _ _ h=>h) (fun _ _ _ _ h=>h) (by decide) ?_ ?_
 ·rintro i57 x58 s52 fr71 h72 hx77 ⟨v54,c55,f74,f75,f76,hv56,hS73⟩ f78 f79 oc60 hF63 hr64 Q65 hN66 hB70 hK67 hR68 hE69
  unfold qai at hF63
  simp only [qwk,qf,qe,f76,f78,jo,B0,reduceIte,reduceEqDiff]
  refine qj (v := .ref (Reader.cells x58) 0) (j7 hx77 rfl) ?_
  simp only [qn,B0,reduceIte,reduceEqDiff]
  refine qj (v := .agg [.bool x58.In,.int .i64 x58.Generation,lst cI x58.Share,lst cI x58.Read]) rfl ?_
  simp only [ja,B0,reduceIte,reduceEqDiff]
  refine zw hS73 (fun b80 h81 hS82=>?_)
  simp only [zn,B0,reduceIte,reduceEqDiff]
  refine zd (us:=[.bool x58.In,.int .i64 x58.Generation,lst cI x58.Share,lst cI x58.Read]) rfl (cs':=[.bool x58.In,.int .i64 x58.Generation,lst cI x58.Share,
    lst cI x58.Read]) hS82 hW rfl rfl (Nat.le_of_ble_eq_true rfl) rfl (fun h84 hS85=>?_)
  simp only [qa,qxv,qf,qe,kf,evp,B0,reduceIte,reduceEqDiff]
  refine ju (n:=1) (f:=cI) ([] : List Int) hS85 rfl rfl (fun v86 c87 h88 hv89 hS90=>?_)
  simp only [qt,qb,Nat.reduceAdd,Nat.zero_add,Nat.add_zero,zg,qn,B0,reduceIte,reduceEqDiff]
  refine qj (v:=lst cI x58.Share) ((z9 (Sep.bk _ _ _ (Sep.m1 hS90))).trans rfl) ?_
  simp only [qal,B0,reduceIte,reduceEqDiff]
  obtain ⟨l92,hx93,hF94⟩:=qh hF63
  refine xq (f:=cI) hv89 hS90 hW (fun _=>rfl) (fun _=>rfl) (wl (fun _=>rfl)) hx93 (fun v95 c96 h97 hv98 hS99=>?_)
  simp only [qt,qb,Nat.reduceAdd,Nat.zero_add,Nat.add_zero,zg,zn,B0,reduceIte,reduceEqDiff]
  refine zd (us:=[v95]) (jr (SlF.one hv98)) (cs':=[.bool x58.In,.int .i64 x58.Generation,v95,
    lst cI x58.Read]) (Sep.m1 hS99) hW rfl (qk (SlF.one hv98) zl) (Nat.le_of_ble_eq_true rfl) rfl (fun h101 hS102=>?_)
  simp only [qa,qx5,qf,qe,kf,evp,B0,reduceIte,reduceEqDiff]
  refine ju (n:=1) (f:=cI) ([] : List Int) hS102 rfl rfl (fun v103 c104 h105 hv106 hS107=>?_)
  simp only [qt,qb,Nat.reduceAdd,Nat.zero_add,Nat.add_zero,zg,qn,B0,reduceIte,reduceEqDiff]
  refine qj (v:=lst cI x58.Read) ((z9 (Sep.bk _ _ _ (Sep.m1 hS107))).trans rfl) ?_
  simp only [qal,B0,reduceIte,reduceEqDiff]
  obtain ⟨l109,hx110,hF111⟩:=qh hF94
  refine xq (f:=cI) hv106 hS107 hW (fun _=>rfl) (fun _=>rfl) (wl (fun _=>rfl)) hx110 (fun v112 c113 h114 hv115 hS116=>?_)
  simp only [qt,qb,Nat.reduceAdd,Nat.zero_add,Nat.add_zero,zg,zn,B0,reduceIte,reduceEqDiff]
  refine zd (us:=[v112]) (jr (SlF.one hv115)) (cs':=[.bool x58.In,.int .i64 x58.Generation,v95,
    v112]) (Sep.m1 hS116) hW rfl (qk (SlF.one hv115) zl) (Nat.le_of_ble_eq_true rfl) rfl (fun h118 hS119=>?_)
  simp only [qa,quq,qe,f75,qt,qb,Nat.reduceAdd,Nat.zero_add,Nat.add_zero,zg,qn,B0,reduceIte,reduceEqDiff]
  refine qj (v:=v54) ((z9 (Sep.bk _ _ _ (Sep.m4 hS119))).trans rfl) ?_
  simp only [qn,B0,reduceIte,reduceEqDiff]
  refine qj (v := .agg [.bool x58.In,.int .i64 x58.Generation,v95,v112]) ((z7 (Sep.bk _ _ _ hS119)).trans rfl) ?_
  simp only [kf,evp,B0,reduceIte,reduceEqDiff]
  refine qfr (R:=Reader.R) (n:=4) (cs:=[.bool x58.In,.int .i64 x58.Generation,v95,
    v112]) (os:=c96++(c113)) (Sep.bi2 (c1:=c96) (c2:=c113) (Sep.m2 (Sep.m1 hS119))) (xe (us:=[.bool x58.In,.int .i64 x58.Generation,v95,
    v112]) (vs:=[.bool x58.In,.int .i64 x58.Generation,v95,
    v112]) rfl rfl (Nat.le_of_ble_eq_true rfl) (qk rfl (qk rfl (qk (SlF.one hv98) (qk (SlF.one hv115) zl)))) rfl qcv) (Reader.RI (x :=
    (Reader.mk x58.In x58.Generation l92 l109)) hv98 hv115) rfl (fun v120 c121 h122 hv123 hS124=>?_)
  simp only [qal,B0,reduceIte,reduceEqDiff]
  obtain ⟨l126,hx127,hF128⟩:=qh hF111
  refine qhx (R:=Reader.R) (c:=c55) hv56 hv123 (Sep.m4 hS124) hW Reader.RO.len Reader.RO.one hx127 (fun v129 c130 h131 hv132 hS133=>?_)
  simp only [f75,qt,qb,Nat.reduceAdd,Nat.zero_add,Nat.add_zero,zg,zn,B0,reduceIte,reduceEqDiff]
  refine zd (us:=[v129]) (jr (SlN.one hv132)) (cs':=[.int .i64 s52.Generation,v129,v30,
    v39]) (Sep.m3 hS133) hW rfl (qk (SlN.one hv132) zl) (Nat.le_of_ble_eq_true rfl) rfl (fun h135 hS136=>?_)
  simp only [qa,qm,B0,reduceIte,reduceEqDiff]
  have e137:=qg hF128
  exact hN66 _ _ _ e137.symm ⟨v129,c130,f74,f75,f76,hv132,(Sep.m4 (Sep.m3 (Sep.m3 (Sep.m4 (Sep.m4 (Sep.dc (Sep.m2 hS136)))))))⟩ (f78) (f79)
 rintro s139 fr144 h145 rfl ⟨v141,c142,f147,f148,f149,hv143,hS146⟩
 dsimp only [jnO] at hk62
 unfold qd1 at hk62
 simp only [qf,qe,f148,qn,B0,reduceIte,reduceEqDiff]
 refine qj (v := .agg [.int .i64 s139.Generation,v141,v30,v39]) ((z7 (Sep.bk _ _ _ (Sep.m1 hS146))).trans rfl) ?_
 simp only [f147,zn,B0,reduceIte,reduceEqDiff]
 refine zd (us:=[.int .i64 s139.Generation,v141,v30,v39]) rfl (cs':=[.int .i64 s139.Generation,v141,v30,
   v39]) hS146 hW rfl (qk rfl (qk (SlN.one hv143) (qk (SlF.one hv33) (qk (SlF.one hv42) zl)))) (Nat.le_of_ble_eq_true rfl) rfl (fun h150 hS151=>?_)
 simp only [qa,qx,B0,reduceIte,reduceEqDiff]
 have he:=qg hk62
 subst he
 refine xm (bb:=b5) (oo:=0) (v := .agg [.int .i64 s139.Generation,v141,v30,v39]) (by simp only [f147,B0,reduceIte,
   reduceEqDiff]) ((z7 (Sep.bk _ _ _ hS151)).trans rfl) ?_
 exact ⟨v141,c142,v30,c31,v39,c40,by first | trivial | rfl,hv143,hv33,hv42,(Sep.m2 (Sep.m2 (Sep.m2 (Sep.dc ((Sep.dc (hS151)))))))⟩
end Go.Proofs.Ytdhibknhejhfaaa.X
namespace Go.Proofs.Ytdhibknhejhfaaa.X
open Go
open Nat (reduceEqDiff)
theorem qhr {W:Nat→Bool}{h:Heap} (hW:∀ b,
  (geL h.length) b→W b=true) (r_0:Readers_) (x_1:GroupStep) (r:Readers_ × Bool) (hF:u2 r_0 x_1=some r) : Ret E W 34 [.agg [.int .i64 r_0.Generation,
  lst Reader.cells r_0.Readers,lst cI r_0.Committed,lst cI r_0.Ends],.agg [.int .i64 x_1.Kind,.int .i64 x_1.K,.int .i64 x_1.Part,
  .int .i64 x_1.N]] h (fun v h'=>∃ rv0_1 rc0_1 rv0_2 rc0_2 rv0_3 rc0_3,v = .tup [.agg [.int .i64 r.1.Generation,rv0_1,rv0_2,rv0_3],
  .bool r.2]∧SlN Reader.R 4 37 rv0_1 r.1.Readers rc0_1∧SlF cI 1 3 rv0_2 r.1.Committed rc0_2∧SlF cI 1 3 rv0_3 r.1.Ends rc0_3∧Sep h' (geL h.length) (rc0_1++(rc0_2 ++
  (rc0_3++([]))))):=by
 refine Ret.of (fn:=x34) rfl (Run.of ?_)
 unfold u2 at hF
 have zf0:zb [.agg [.int .i64 r_0.Generation,lst Reader.cells r_0.Readers,lst cI r_0.Committed,lst cI r_0.Ends],.agg [.int .i64 x_1.Kind,.int .i64 x_1.K,
   .int .i64 x_1.Part,.int .i64 x_1.N]] 0 = .agg [.int .i64 r_0.Generation,lst Reader.cells r_0.Readers,lst cI r_0.Committed,lst cI r_0.Ends]:=rfl
 have zf1:zb [.agg [.int .i64 r_0.Generation,lst Reader.cells r_0.Readers,lst cI r_0.Committed,lst cI r_0.Ends],.agg [.int .i64 x_1.Kind,.int .i64 x_1.K,
   .int .i64 x_1.Part,.int .i64 x_1.N]] 1 = .agg [.int .i64 x_1.Kind,.int .i64 x_1.K,.int .i64 x_1.Part,.int .i64 x_1.N]:=rfl
 generalize zb [.agg [.int .i64 r_0.Generation,lst Reader.cells r_0.Readers,lst cI r_0.Committed,lst cI r_0.Ends],.agg [.int .i64 x_1.Kind,.int .i64 x_1.K,
   .int .i64 x_1.Part,.int .i64 x_1.N]]=fr0 at zf0 zf1 ⊢
 have hS:Sep h (geL h.length) []:=Sep.nil h
 simp only [x34,qf,qe,jy,zf0,B0,reduceIte,reduceEqDiff]
 refine jk (cs:=[.int .i64 r_0.Generation,lst Reader.cells r_0.Readers,lst cI r_0.Committed,lst cI r_0.Ends]) hS rfl rfl rfl (fun b1 h2 hS3=>?_)
 simp only [jy,zf1,B0,reduceIte,reduceEqDiff]
 refine jk (cs:=[.int .i64 x_1.Kind,.int .i64 x_1.K,.int .i64 x_1.Part,.int .i64 x_1.N]) hS3 rfl rfl rfl (fun b5 h6 hS7=>?_)
 simp only [ja,B0,reduceIte,reduceEqDiff]
 refine zw hS7 (fun b9 h10 hS11=>?_)
 simp only [qd,qa,B0,reduceIte,reduceEqDiff]
 refine zu (Sep.m2 hS11) hW (by simp only [B0,reduceIte,reduceEqDiff]) (fun h13 hS14=>?_)
 refine zu (Sep.m1 hS14) hW (by simp only [B0,reduceIte,reduceEqDiff]) (fun h15 hS16=>?_)
 simp only [zp,q1f,qf,qe,qn,B0,reduceIte,reduceEqDiff]
 refine qj (v := .agg [.int .i64 r_0.Generation,lst Reader.cells r_0.Readers,lst cI r_0.Committed,lst cI r_0.Ends]) rfl ?_
 obtain ⟨v17,hx18,hF19⟩:=qh hF
 simp only [qw,B0,reduceIte,reduceEqDiff]
 refine je rfl (qi (jb (qi qs (qi ze (qi ze (qi ze qy))))) qy) (uk
   (fun b hb=>decide_eq_true hb) r_0 v17 hx18) ?_
 simp only [jf,qb,jt,qa,qyx,za,B0,reduceIte,reduceEqDiff]
 refine qz (t:=(!v17)) (fun hc20=>?_) (fun hc20=>?_)
 ·rw [iteT hc20] at hF19
  simp only [qf,qe,run_build,evp,B0,reduceIte,reduceEqDiff]
  refine qj (v := .agg [.int .i64 0,.nil,.nil,.nil]) rfl ?_
  simp only [zn,B0,reduceIte,reduceEqDiff]
  refine zd (us:=[.int .i64 0,.nil,.nil,.nil]) rfl (cs':=[.int .i64 0,.nil,.nil,.nil]) hS16 hW rfl rfl (Nat.le_of_ble_eq_true rfl) rfl (fun h21 hS22=>?_)
  simp only [qd,qa,qx,B0,reduceIte,reduceEqDiff]
  have he:=qg hF19
  subst he
  refine ka (qi (kg (bb:=b9) (oo:=0) (v := .agg [.int .i64 0,.nil,.nil,
    .nil]) (rfl) ((z7 (Sep.bk _ _ _ hS22)).trans rfl)) (qi (wz (v := .bool false) (rfl)) qy)) ?_
  exact ⟨.nil,[],.nil,[],.nil,[],by first | trivial | rfl,SlN.nil,SlF.nil,SlF.nil,((Sep.dc (hS22)) : Sep _ (geL h.length) ([]))⟩
 rw [iteF hc20] at hF19
 simp only [zh,qy6,qf,qe,qn,B0,reduceIte,reduceEqDiff]
 refine qj (v := .agg [.int .i64 r_0.Generation,lst Reader.cells r_0.Readers,lst cI r_0.Committed,lst cI r_0.Ends]) rfl ?_
 obtain ⟨v23,hx24,hF25⟩:=qh hF19
 simp only [qw,B0,reduceIte,reduceEqDiff]
 refine xz rfl hS16 (qi (jb (qi qs (qi ze (qi ze (qi ze qy))))) qy) (qht
   (fun b hb=>decide_eq_true hb) r_0 v23 hx24) ?_
 rintro _ h38 ⟨v26,c27,v30,c31,v34,c35,rfl,hv28,hv32,hv36,hS39⟩
 refine ⟨_,qft (qk rfl (qk (SlN.free1 hv28) (qk (SlF.free1 hv32) (qk (SlF.free1 hv36) zl)))),hS39,
   (z0 (SlN.pf hv28 Reader.RO) (z0 (SlF.pf hv32 (fun _=>rfl)) (z0 (SlF.pf hv36 (fun _=>rfl)) yc))),fun h40 hS41=>?_⟩
 have hS42:Sep h40 (geL h.length) (c27++(c31++(c35++([Blk1 b9 [.int .i64 0,.nil,.nil,.nil] 29]++([]))))):=by simpa only [List.append_assoc,
   List.nil_append] using hS41
 simp only [ja,B0,reduceIte,reduceEqDiff]
 refine zw hS42 (fun b43 h44 hS45=>?_)
 simp only [zn,B0,reduceIte,reduceEqDiff]
 refine zd (us:=[.int .i64 v23.Generation,v26,v30,v34]) rfl (cs':=[.int .i64 v23.Generation,v26,v30,
   v34]) hS45 hW rfl (qk rfl (qk (SlN.one hv28) (qk (SlF.one hv32) (qk (SlF.one hv36) zl)))) (Nat.le_of_ble_eq_true rfl) rfl (fun h47 hS48=>?_)
 simp only [qa,qzl,qf,qe,qn,B0,reduceIte,reduceEqDiff]
 refine qj (v := .agg [.int .i64 x_1.Kind,.int .i64 x_1.K,.int .i64 x_1.Part,.int .i64 x_1.N]) rfl ?_
 obtain ⟨v49,hx50,hF51⟩:=qh hF25
 simp only [qw,B0,reduceIte,reduceEqDiff]
 refine ky rfl (qhn hW b43 v23 v26 c27 hv28 v30 c31 hv32 v34 c35 hv36 x_1 v49 hx50 (Sep.m3 (Sep.m3 (Sep.m3 (Sep.m3 hS48))))) ?_
 rintro _ h58 ⟨c52,c54,c56,rfl,hv53,hv55,hv57,hS59⟩
 simp only [jf,qb,jt,qa,qyn,za,B0,reduceIte,reduceEqDiff]
 refine qz (t:=(!v49.1)) (fun hc60=>?_) (fun hc60=>?_)
 ·rw [iteT hc60] at hF51
  simp only [qf,qe,run_build,evp,B0,reduceIte,reduceEqDiff]
  refine qj (v := .agg [.int .i64 0,.nil,.nil,.nil]) rfl ?_
  simp only [zn,B0,reduceIte,reduceEqDiff]
  refine zd (us:=[.int .i64 0,.nil,.nil,.nil]) rfl (cs':=[.int .i64 0,.nil,.nil,
    .nil]) (Sep.m4 hS59) hW rfl rfl (Nat.le_of_ble_eq_true rfl) rfl (fun h61 hS62=>?_)
  simp only [qd,qa,qx,B0,reduceIte,reduceEqDiff]
  have he:=qg hF51
  subst he
  refine ka (qi (kg (bb:=b9) (oo:=0) (v := .agg [.int .i64 0,.nil,.nil,
    .nil]) (rfl) ((z7 (Sep.bk _ _ _ hS62)).trans rfl)) (qi (wz (v := .bool false) (rfl)) qy)) ?_
  exact ⟨.nil,[],.nil,[],.nil,[],by first | trivial | rfl,SlN.nil,SlF.nil,SlF.nil,
    ((Sep.dc ((Sep.dc ((Sep.dc ((Sep.dc ((Sep.dc (hS62)))))))))) : Sep _ (geL h.length) ([]))⟩
 rw [iteF hc60] at hF51
 simp only [zh,qf,qe,qn,B0,reduceIte,reduceEqDiff]
 refine qj (v := .agg [.int .i64 v49.2.Generation,v26,v30,v34]) ((z7 (Sep.bk _ _ _ hS59)).trans rfl) ?_
 simp only [zn,B0,reduceIte,reduceEqDiff]
 refine zd (us:=[.int .i64 v49.2.Generation,v26,v30,v34]) rfl (cs':=[.int .i64 v49.2.Generation,v26,v30,
   v34]) (Sep.m4 hS59) hW rfl (qk rfl (qk (SlN.one hv53) (qk (SlF.one hv55) (qk (SlF.one hv57) zl)))) (Nat.le_of_ble_eq_true rfl) rfl (fun h63 hS64=>?_)
 simp only [qd,qa,qx,B0,reduceIte,reduceEqDiff]
 have he:=qg hF51
 subst he
 refine ka (qi (kg (bb:=b9) (oo:=0) (v := .agg [.int .i64 v49.2.Generation,v26,v30,
   v34]) (rfl) ((z7 (Sep.bk _ _ _ hS64)).trans rfl)) (qi (wz (v := .bool true) (rfl)) qy)) ?_
 exact ⟨v26,c52,v30,c54,v34,c56,by first | trivial | rfl,hv53,hv55,hv57,(Sep.m2 (Sep.m2 (Sep.m2 (Sep.dc ((Sep.dc (hS64)))))))⟩
theorem qip {W:Nat→Bool}{h:Heap}{lo:Nat→Prop}{S0:List Obj} (hW:∀ b,
  lo b→W b=true) (pb0:Nat) (c_0:L1Cur) (r:Int × L1Cur) (hF:qdh c_0=some r) (hS:Sep h lo ([Blk1 pb0 [lst cU8 c_0.code,.int .i64 c_0.at_,
  .int .u64 c_0.seed] 80]++(S0))) : Ret E W 76 [.ptr pb0 0] h (fun v h'=>v = .int .i64 r.1∧Sep h' lo ([Blk1 pb0 [lst cU8 r.2.code,.int .i64 r.2.at_,
  .int .u64 r.2.seed] 80]++(S0))):=by
 refine Ret.of (fn:=x76) rfl (Run.of ?_)
 unfold qdh at hF
 have zf0:zb [.ptr pb0 0] 0 = .ptr pb0 0:=rfl
 generalize zb [.ptr pb0 0]=fr0 at zf0 ⊢
 simp only [x76,qf,qe,qd,qa,quv,qyo,jc,zf0,z8,ql,yd,jd,zv,Nat.reduceAdd,Nat.zero_add,Nat.add_zero,
   zg,zm,B0,reduceIte,reduceEqDiff]
 refine qp (v := .int .i64 c_0.at_) ((z9 (Sep.bk _ _ _ hS)).trans rfl) ?_
 simp only [zf0,z8,ql,yd,jd,zv,Nat.reduceAdd,Nat.zero_add,Nat.add_zero,zg,zm,B0,reduceIte,reduceEqDiff]
 refine qp (v:=lst cU8 c_0.code) ((z9 (Sep.bk _ _ _ hS)).trans rfl) ?_
 simp only [qen,ql,zr,yh,qeb,zc,qx1,za,B0,reduceIte,reduceEqDiff]
 obtain ⟨s1,hX3,hk4⟩:=qh hF
 refine qbs (t:=(decide (c_0.at_<(List.length c_0.code:Int)))) (fun fr' h'=>fr' 0 = .ptr pb0 0∧fr' 3 = .int .i64 s1∧Sep h' lo ([Blk1 pb0 [lst cU8 c_0.code,
   .int .i64 c_0.at_,.int .u64 c_0.seed] 80]++(S0))) (fun Q5 hN6 hR7 hE8=>⟨fun hc9=>?_,fun hc9=>?_⟩) ?_
 ·rw [iteT hc9] at hX3
  simp only [qz2,jc,zf0,z8,ql,yd,jd,zv,Nat.reduceAdd,Nat.zero_add,Nat.add_zero,zg,zm,B0,reduceIte,reduceEqDiff]
  refine qp (v:=lst cU8 c_0.code) ((z9 (Sep.bk _ _ _ hS)).trans rfl) ?_
  simp only [zf0,z8,ql,yd,jd,zv,Nat.reduceAdd,Nat.zero_add,Nat.add_zero,zg,zm,B0,reduceIte,reduceEqDiff]
  refine qp (v := .int .i64 c_0.at_) ((z9 (Sep.bk _ _ _ hS)).trans rfl) ?_
  obtain ⟨x10,hx11,hF12⟩:=qh hX3
  simp only [yj,B0,reduceIte,reduceEqDiff]
  refine qp (v := .ref (cU8 x10) 0) (wu hx11 rfl) ?_
  simp only [zm,B0,reduceIte,reduceEqDiff]
  refine qp (v := .int .u8 x10) rfl ?_
  simp only [q4d,ql,qln,z8,zc,qm,B0,reduceIte,reduceEqDiff]
  have e13:=qg hF12
  subst e13
  exact hN6 _ _ ⟨zf0,rfl,hS⟩
 ·rw [iteF hc9] at hX3
  simp only [zh,qm,B0,reduceIte,reduceEqDiff]
  have e14:=qg hX3
  subst e14
  exact hN6 _ _ ⟨zf0,rfl,hS⟩
 rintro fr15 h16 ⟨f18,f19,hS17⟩
 unfold qdp at hk4
 simp only [qxg,qf,qe,f18,qd,ux,qb,jd,qt,Nat.reduceAdd,Nat.zero_add,Nat.add_zero,zg,qn,B0,reduceIte,reduceEqDiff]
 refine qj (v := .int .i64 c_0.at_) ((z9 (Sep.bk _ _ _ hS17)).trans rfl) ?_
 simp only [q9,qb,u0,ux,jd,qt,Nat.reduceAdd,Nat.zero_add,Nat.add_zero,zg,zn,B0,reduceIte,reduceEqDiff]
 refine zd (us:=[.int .i64 (IntKind.wrap .i64 (c_0.at_+1))]) rfl (cs':=[lst cU8 c_0.code,.int .i64 (IntKind.wrap .i64 (c_0.at_+1)),
   .int .u64 c_0.seed]) hS17 hW rfl rfl (Nat.le_of_ble_eq_true rfl) rfl (fun h20 hS21=>?_)
 simp only [qa,q0z,qf,qe,f18,qd,ux,qb,jd,qt,Nat.reduceAdd,Nat.zero_add,Nat.add_zero,zg,qn,B0,reduceIte,
   reduceEqDiff]
 refine qj (v := .int .u64 c_0.seed) ((z9 (Sep.bk _ _ _ hS21)).trans rfl) ?_
 simp only [q9,qb,q39,f19,qd,qne,qln,u0,ux,jd,qt,Nat.reduceAdd,Nat.zero_add,Nat.add_zero,zg,zn,B0,reduceIte,
   reduceEqDiff]
 refine zd (us:=[.int .u64 (IntKind.wrap .u64 ((IntKind.wrap .u64 ((IntKind.wrap .u64 (c_0.seed*6364136223846793005)) +
   (IntKind.wrap .u64 s1)))+1442695040888963407))]) rfl (cs':=[lst cU8 c_0.code,.int .i64 (IntKind.wrap .i64 (c_0.at_+1)),
   .int .u64 (IntKind.wrap .u64 ((IntKind.wrap .u64 ((IntKind.wrap .u64 (c_0.seed*6364136223846793005))+(IntKind.wrap .u64 s1)))+1442695040888963407))]) hS21 hW rfl rfl
   (Nat.le_of_ble_eq_true rfl) rfl (fun h22 hS23=>?_)
 simp only [qa,q0f,qf,jc,f18,z8,ql,yd,jd,zv,Nat.reduceAdd,Nat.zero_add,Nat.add_zero,zg,zm,B0,reduceIte,
   reduceEqDiff]
 refine qp (v := .int .i64 (IntKind.wrap .i64 (c_0.at_+1))) ((z9 (Sep.bk _ _ _ hS23)).trans rfl) ?_
 simp only [f18,z8,ql,yd,jd,zv,Nat.reduceAdd,Nat.zero_add,Nat.add_zero,zg,zm,B0,reduceIte,reduceEqDiff]
 refine qp (v:=lst cU8 c_0.code) ((z9 (Sep.bk _ _ _ hS23)).trans rfl) ?_
 simp only [qen,ql,zr,yh,qn1,zc,qxm,za,B0,reduceIte,reduceEqDiff]
 refine qz (t:=(decide ((IntKind.wrap .i64 (c_0.at_+1))≤(List.length c_0.code:Int)))) (fun hc24=>?_) (fun hc24=>?_)
 ·rw [iteT hc24] at hk4
  simp only [qf,qe,f19,qd,qa,qx,B0,reduceIte,reduceEqDiff]
  have he:=qg hk4
  subst he
  simp only [zi,B0,reduceIte,reduceEqDiff]
  exact ⟨by first | trivial | rfl,hS23⟩
 rw [iteF hc24] at hk4
 simp only [zh,qzo,qf,qe,f18,qd,ux,qb,jd,qt,Nat.reduceAdd,Nat.zero_add,Nat.add_zero,zg,qn,B0,reduceIte,
   reduceEqDiff]
 refine qj (v := .int .u64 (IntKind.wrap .u64 ((IntKind.wrap .u64 ((IntKind.wrap .u64 (c_0.seed*6364136223846793005))+(IntKind.wrap .u64 s1)))+1442695040888963407)))
   ((z9 (Sep.bk _ _ _ hS23)).trans rfl) ?_
 simp only [q9,qb,q2t (n:=40) (by decide),q3o,qne,qln,qd,qa,qx,B0,reduceIte,reduceEqDiff]
 have he:=qg hk4
 subst he
 simp only [zi,B0,reduceIte,reduceEqDiff]
 exact ⟨by first | trivial | rfl,hS23⟩
theorem j6 {W:Nat→Bool}{h:Heap}{lo:Nat→Prop}{S0:List Obj} (hW:∀ b,
  lo b→W b=true) (pb0:Nat) (c_0:L1Cur) (n_1:Int) (r:Int × L1Cur) (hF:kc c_0 n_1=some r) (hS:Sep h lo ([Blk1 pb0 [lst cU8 c_0.code,.int .i64 c_0.at_,
  .int .u64 c_0.seed] 80]++(S0))) : Ret E W 48 [.ptr pb0 0,.int .i64 n_1] h (fun v h'=>v = .int .i64 r.1∧Sep h' lo ([Blk1 pb0 [lst cU8 r.2.code,.int .i64 r.2.at_,
  .int .u64 r.2.seed] 80]++(S0))):=by
 refine Ret.of (fn:=x48) rfl (Run.of ?_)
 unfold kc at hF
 have zf0:zb [.ptr pb0 0,.int .i64 n_1] 0 = .ptr pb0 0:=rfl
 have zf1:zb [.ptr pb0 0,.int .i64 n_1] 1 = .int .i64 n_1:=rfl
 generalize zb [.ptr pb0 0,.int .i64 n_1]=fr0 at zf0 zf1 ⊢
 simp only [x48,qf,qe,qd,qa,qwj,zf1,q9,qb,qn1,za,B0,reduceIte,reduceEqDiff]
 refine qz (t:=(decide (n_1≤1))) (fun hc1=>?_) (fun hc1=>?_)
 ·rw [iteT hc1] at hF
  simp only [qf,qe,qd,qa,qx,B0,reduceIte,reduceEqDiff]
  have he:=qg hF
  subst he
  simp only [zi,B0,reduceIte,reduceEqDiff]
  exact ⟨by first | trivial | rfl,hS⟩
 rw [iteF hc1] at hF
 obtain ⟨v2,hx3,hF4⟩:=qh hF
 simp only [zh,qyl,qf,qe,zf0,qd,qw,B0,reduceIte,reduceEqDiff]
 refine ky rfl (qip hW pb0 c_0 v2 hx3 hS) ?_
 rintro _ h5 ⟨rfl,hS6⟩
 simp only [qd,qa,q0d,qf,qe,zf1,q9,qb,qe3,q0j,za,B0,reduceIte,reduceEqDiff]
 refine qz (t:=(decide ((200:Int)<n_1))) (fun hc7=>?_) (fun hc7=>?_)
 ·rw [iteT hc7] at hF4
  obtain ⟨v8,hx9,hF10⟩:=qh hF4
  simp only [qvv,qe,qd,q9,qb,q39,zf0,qw,B0,reduceIte,reduceEqDiff]
  refine ky rfl (qip hW pb0 v2.2 v8 hx9 hS6) ?_
  rintro _ h11 ⟨rfl,hS12⟩
  obtain ⟨hp13,hF14⟩:=qh8 hF10
  simp only [q9,qb,u0,qd,qa,qnx,qf,qe,zf1,qif (n:=n_1) hp13,qx,B0,reduceIte,reduceEqDiff]
  have he:=qg hF14
  subst he
  simp only [zi,B0,reduceIte,reduceEqDiff]
  exact ⟨by first | trivial | rfl,hS12⟩
 rw [iteF hc7] at hF4
 obtain ⟨hp15,hF16⟩:=qh8 hF4
 simp only [zh,qnx,qf,qe,qd,zf1,q9,qb,qif (n:=n_1) hp15,qa,qx,B0,reduceIte,reduceEqDiff]
 have he:=qg hF16
 subst he
 simp only [zi,B0,reduceIte,reduceEqDiff]
 exact ⟨by first | trivial | rfl,hS6⟩
theorem qdy {W:Nat→Bool}{h:Heap}{lo:Nat→Prop}{S0:List Obj} (hW:∀ b,
  lo b→W b=true) (pb0:Nat) (c_0:L1Cur) (pv1:XV) (pc1:List Obj) (list_1:List Int) (ph1:SlF cI 1 3 pv1 list_1 pc1) (r:Int × L1Cur × (List Int))
  (hF:qa4 c_0 list_1=some r) (hS:Sep h lo ([Blk1 pb0 [lst cU8 c_0.code,.int .i64 c_0.at_,.int .u64 c_0.seed] 80]++(pc1++(S0)))) : Ret E W 77 [.ptr pb0 0,
  pv1] h (fun v h'=>∃ ic1,v = .int .i64 r.1∧SlF cI 1 3 pv1 r.2.2 ic1∧Sep h' lo ([Blk1 pb0 [lst cU8 r.2.1.code,.int .i64 r.2.1.at_,
  .int .u64 r.2.1.seed] 80]++(ic1++(S0)))):=by
 refine Ret.of (fn:=x77) rfl (Run.of ?_)
 unfold qa4 at hF
 have zf0:zb [.ptr pb0 0,pv1] 0 = .ptr pb0 0:=rfl
 have zf1:zb [.ptr pb0 0,pv1] 1=pv1:=rfl
 generalize zb [.ptr pb0 0,pv1]=fr0 at zf0 zf1 ⊢
 obtain ⟨v1,hx2,hF3⟩:=qh hF
 simp only [x77,qf,qe,qd,qa,qwf,zf1,zf0,zo,qb,SlF.plen ph1,qw,B0,reduceIte,reduceEqDiff]
 refine ky rfl (j6 hW pb0 c_0 (List.length list_1:Int) v1 hx2 hS) ?_
 rintro _ h4 ⟨rfl,hS5⟩
 obtain ⟨x6,hx7,hF8⟩:=qh hF3
 simp only [jo,B0,reduceIte,reduceEqDiff]
 obtain ⟨b9,hb10⟩:=SlF.isrow ph1 (ku hx7)
 refine qj (SlF.ia ph1 hb10 hx7) ?_
 simp only [qn,B0,reduceIte,reduceEqDiff]
 refine qj (v := .int .i64 x6) ((SlF.ld (o:=0) ph1 (Sep.m1 hS5) hb10 hx7 (fun _=>rfl) (Nat.le_of_ble_eq_true rfl)).trans rfl) ?_
 simp only [qd,qa,qx,B0,reduceIte,reduceEqDiff]
 have he:=qg hF8
 subst he
 simp only [zi,B0,reduceIte,reduceEqDiff]
 exact ⟨pc1,by first | trivial | rfl,ph1,(Sep.m1 (Sep.m1 hS5))⟩
theorem qgz {W:Nat→Bool}{h:Heap}{lo:Nat→Prop}{S0:List Obj} (hW:∀ b,
  lo b→W b=true) (pb0:Nat) (c_0:L1Cur) (n_1:Int) (r:Bool × L1Cur) (hF:qda c_0 n_1=some r) (hS:Sep h lo ([Blk1 pb0 [lst cU8 c_0.code,.int .i64 c_0.at_,
  .int .u64 c_0.seed] 80]++(S0))) : Ret E W 78 [.ptr pb0 0,.int .i64 n_1] h (fun v h'=>v = .bool r.1∧Sep h' lo ([Blk1 pb0 [lst cU8 r.2.code,.int .i64 r.2.at_,
  .int .u64 r.2.seed] 80]++(S0))):=by
 refine Ret.of (fn:=x78) rfl (Run.of ?_)
 unfold qda at hF
 have zf0:zb [.ptr pb0 0,.int .i64 n_1] 0 = .ptr pb0 0:=rfl
 have zf1:zb [.ptr pb0 0,.int .i64 n_1] 1 = .int .i64 n_1:=rfl
 generalize zb [.ptr pb0 0,.int .i64 n_1]=fr0 at zf0 zf1 ⊢
 obtain ⟨v1,hx2,hF3⟩:=qh hF
 simp only [x78,qf,qe,qd,qa,q1t,zf0,zf1,qw,B0,reduceIte,reduceEqDiff]
 refine ky rfl (j6 hW pb0 c_0 n_1 v1 hx2 hS) ?_
 rintro _ h4 ⟨rfl,hS5⟩
 simp only [q9,qb,yx,qd,qa,qx,B0,reduceIte,reduceEqDiff]
 have he:=qg hF3
 subst he
 simp only [zi,B0,reduceIte,reduceEqDiff]
 exact ⟨by first | trivial | rfl,hS5⟩
theorem qe5 {W:Nat→Bool}{h:Heap}{lo:Nat→Prop}{S0:List Obj} (hW:∀ b,
  lo b→W b=true) (k:Nat) (pb0:Nat) (c_0:L1Cur) (readers_1:Int) (parts_2:Int) (r:(List GroupStep) × L1Cur)
  (hF:ws k c_0 readers_1 parts_2=some r) (hS:Sep h lo ([Blk1 pb0 [lst cU8 c_0.code,.int .i64 c_0.at_,
  .int .u64 c_0.seed] 80]++(S0))) : Ret E W 50 [.ptr pb0 0,.int .i64 readers_1,.int .i64 parts_2] h (fun v h'=>∃ rv0 rc0,
  v=rv0∧SlF GroupStep.cells 4 64 rv0 r.1 rc0∧Sep h' lo (rc0++([Blk1 pb0 [lst cU8 r.2.code,.int .i64 r.2.at_,.int .u64 r.2.seed] 80]++(S0)))):=by
 refine Ret.of (fn:=x50) rfl (Run.of ?_)
 unfold ws at hF
 have zf0:zb [.ptr pb0 0,.int .i64 readers_1,.int .i64 parts_2] 0 = .ptr pb0 0:=rfl
 have zf1:zb [.ptr pb0 0,.int .i64 readers_1,.int .i64 parts_2] 1 = .int .i64 readers_1:=rfl
 have zf2:zb [.ptr pb0 0,.int .i64 readers_1,.int .i64 parts_2] 2 = .int .i64 parts_2:=rfl
 generalize zb [.ptr pb0 0,.int .i64 readers_1,.int .i64 parts_2]=fr0 at zf0 zf1 zf2 ⊢
 obtain ⟨v1,hx2,hF3⟩:=qh hF
 simp only [x50,qf,qe,qd,qa,qrr,qq0,zf0,qw,B0,reduceIte,reduceEqDiff]
 refine ky rfl (j6 hW pb0 c_0 40 v1 hx2 hS) ?_
 rintro _ h4 ⟨rfl,hS5⟩
 obtain ⟨v6,hx7,hF8⟩:=qh hF3
 simp only [qd,qa,qrl,qf,qe,zf0,qw,B0,reduceIte,reduceEqDiff]
 refine ky rfl (qgz hW pb0 v1.2 8 v6 hx7 hS5) ?_
 rintro _ h9 ⟨rfl,hS10⟩
 simp only [qa,qy7,za,B0,reduceIte,reduceEqDiff]
 obtain ⟨sv16,hX14,hk15⟩:=qh hF8
 refine qbs (t:=v6.1) (fun fr' h'=>fr' 0 = .ptr pb0 0∧fr' 1 = .int .i64 readers_1∧fr' 2 = .int .i64 parts_2∧fr' 7 = .nil∧fr' 8 = .int .i64 sv16.1∧Sep h' lo
   ([Blk1 pb0 [lst cU8 sv16.2.code,.int .i64 sv16.2.at_,.int .u64 sv16.2.seed] 80]++(S0))) (fun Q17 hN18 hR19 hE20=>⟨fun hc21=>?_,fun hc21=>?_⟩) ?_
 ·rw [iteT hc21] at hX14
  obtain ⟨v22,hx23,hF24⟩:=qh hX14
  simp only [qzy,qe,zf0,qd,qw,B0,reduceIte,reduceEqDiff]
  refine ky rfl (j6 hW pb0 v6.2 12 v22 hx23 hS10) ?_
  rintro _ h25 ⟨rfl,hS26⟩
  simp only [q9,qb,u0,qd,qa,qm,B0,reduceIte,reduceEqDiff]
  have e27:=qg hF24
  subst e27
  exact hN18 _ _ ⟨zf0,zf1,zf2,rfl,rfl,hS26⟩
 ·rw [iteF hc21] at hX14
  simp only [zh,qm,B0,reduceIte,reduceEqDiff]
  have e28:=qg hX14
  subst e28
  exact hN18 _ _ ⟨zf0,zf1,zf2,rfl,rfl,hS10⟩
 rintro fr29 h30 ⟨f32,f33,f34,f35,f36,hS31⟩
 obtain ⟨s11,s12⟩:=sv16
 dsimp only at *
 unfold qb9 at hk15
 simp only [qsv,qf,B0,reduceIte,reduceEqDiff]
 obtain ⟨oc53,hX55,hk56⟩:=jj hk15
 simp only [qo3]
 refine qj7 (σ:=(List GroupStep) × Int × L1Cur) (fun s226=>yp readers_1 parts_2 s226.1 s226.2.1 s226.2.2) (fun s fr' h'=>∃ v46 c47,
   fr' 0 = .ptr pb0 0∧fr' 1 = .int .i64 readers_1∧fr' 2 = .int .i64 parts_2∧fr' 7=v46∧fr' 8 = .int .i64 s.2.1∧SlF GroupStep.cells 4 64 v46 s.1 c47∧Sep h' lo
   ([Blk1 pb0 [lst cU8 s.2.2.code,.int .i64 s.2.2.at_,.int .u64 s.2.2.seed] 80]++(c47++(S0)))) hX55 ⟨.nil,[],f32,f33,f34,f35,f36,SlF.nil,
   (hS31:Sep _ lo ([Blk1 pb0 [lst cU8 s12.code,.int .i64 s12.at_,.int .u64 s12.seed] 80]++(S0)))⟩ (fun _ _ _ h=>h) ?_ ?_
 ·rintro ⟨s44,s49,s50⟩ fr65 h66 ⟨v46,c47,f68,f69,f70,f71,f72,hv48,hS67⟩ oc54 hF57 hr58 Q59 hN60 hK61 hR62 hE63
  dsimp only at *
  unfold yp at hF57
  simp only [qqk,qf,qe,f72,qd,q9,qb,qe3,qa,za,B0,reduceIte,reduceEqDiff]
  refine qz (t:=(decide ((0:Int)<s49))) (fun hc74=>?_) (fun hc74=>?_)
  ·rw [iteT hc74] at hF57
   simp only [zh,qp6,qf,qav,qov,qe,f68,qd,kf,evp,B0,reduceIte,reduceEqDiff]
   refine ju (n:=1) (f:=cI) [1,1,2,3,3,3,4,4,4,5,5,5] hS67 rfl rfl (fun v75 c76 h77 hv78 hS79=>?_)
   obtain ⟨v81,hx82,hF83⟩:=qh hF57
   simp only [qw,B0,reduceIte,reduceEqDiff]
   refine ky rfl (qdy hW pb0 s50 v75 c76 [1,1,2,3,3,3,4,4,4,5,5,5] hv78 v81 hx82 (Sep.m1 hS79)) ?_
   rintro _ h86 ⟨c84,rfl,hv85,hS87⟩
   obtain ⟨v88,hx89,hF90⟩:=qh hF83
   simp only [f68,qd,f69,qw,B0,reduceIte,reduceEqDiff]
   refine ky rfl (j6 hW pb0 v81.2.1 readers_1 v88 hx89 hS87) ?_
   rintro _ h91 ⟨rfl,hS92⟩
   simp only [run_build,evp,B0,reduceIte,reduceEqDiff]
   refine qj (v := .agg [.int .i64 v81.1,.int .i64 v88.1,.int .i64 0,.int .i64 0]) rfl ?_
   simp only [ja,B0,reduceIte,reduceEqDiff]
   refine zw hS92 (fun b93 h94 hS95=>?_)
   simp only [zn,B0,reduceIte,reduceEqDiff]
   refine zd (us:=[.int .i64 v81.1,.int .i64 v88.1,.int .i64 0,.int .i64 0]) rfl (cs':=[.int .i64 v81.1,.int .i64 v88.1,.int .i64 0,
     .int .i64 0]) hS95 hW rfl rfl (Nat.le_of_ble_eq_true rfl) rfl (fun h97 hS98=>?_)
   simp only [qa,qr1,qf,qe,qt,qb,Nat.reduceAdd,Nat.zero_add,Nat.add_zero,zg,qn,B0,reduceIte,reduceEqDiff]
   refine qj (v := .int .i64 v81.1) ((z9 (Sep.bk _ _ _ hS98)).trans rfl) ?_
   simp only [q9,qb,qd5,qa,qv2,za,B0,reduceIte,reduceEqDiff]
   obtain ⟨sv104,hX102,hk103⟩:=qh hF90
   refine qbs (t:=(decide ((4:Int)≤v81.1)))
     (fun fr' h'=>fr' 0 = .ptr pb0 0∧fr' 1 = .int .i64 readers_1∧fr' 2 = .int .i64 parts_2∧fr' 7=v46∧fr' 8 = .int .i64 s49∧fr' 9 = .ptr b93 0∧Sep h' lo
     ([Blk1 pb0 [lst cU8 sv104.1.code,.int .i64 sv104.1.at_,.int .u64 sv104.1.seed] 80]++(c47++([Blk1 b93 [.int .i64 sv104.2.Kind,.int .i64 sv104.2.K,
     .int .i64 sv104.2.Part,.int .i64 sv104.2.N] 64]++(S0))))) (fun Q105 hN106 hR107 hE108=>⟨fun hc109=>?_,fun hc109=>?_⟩) ?_
   ·rw [iteT hc109] at hX102
    obtain ⟨v110,hx111,hF112⟩:=qh hX102
    simp only [qxz,qe,f68,qd,f70,qw,B0,reduceIte,reduceEqDiff]
    refine ky rfl (j6 hW pb0 v88.2 parts_2 v110 hx111 (Sep.m1 hS98)) ?_
    rintro _ h113 ⟨rfl,hS114⟩
    simp only [qt,qb,Nat.reduceAdd,Nat.zero_add,Nat.add_zero,zg,zn,B0,reduceIte,reduceEqDiff]
    refine zd (us:=[.int .i64 v110.1]) rfl (cs':=[.int .i64 v81.1,.int .i64 v88.1,.int .i64 v110.1,
      .int .i64 0]) (Sep.m1 hS114) hW rfl rfl (Nat.le_of_ble_eq_true rfl) rfl (fun h115 hS116=>?_)
    simp only [qa,qm,B0,reduceIte,reduceEqDiff]
    have e117:=qg hF112
    subst e117
    exact hN106 _ _ ⟨f68,f69,f70,f71,f72,rfl,(Sep.m2 (Sep.m2 (Sep.dc (Sep.m2 hS116))))⟩
   ·rw [iteF hc109] at hX102
    simp only [zh,qm,B0,reduceIte,reduceEqDiff]
    have e118:=qg hX102
    subst e118
    exact hN106 _ _ ⟨f68,f69,f70,f71,f72,rfl,(Sep.m2 (Sep.m2 (Sep.dc (Sep.m2 hS98))))⟩
   rintro fr119 h120 ⟨f122,f123,f124,f125,f126,f127,hS121⟩
   obtain ⟨s99,s100⟩:=sv104
   dsimp only at *
   unfold qas at hk103
   simp only [qot,qf,qe,f127,qt,qb,Nat.reduceAdd,Nat.zero_add,Nat.add_zero,zg,qn,B0,reduceIte,reduceEqDiff]
   refine qj (v := .int .i64 s100.Kind) ((z9 (Sep.bk _ _ _ (Sep.m2 hS121))).trans rfl) ?_
   simp only [q9,qb,yx,qa,qw2,za,B0,reduceIte,reduceEqDiff]
   obtain ⟨sv133,hX131,hk132⟩:=qh hk103
   refine qbs (t:=(decide (s100.Kind=4)))
     (fun fr' h'=>fr' 0 = .ptr pb0 0∧fr' 1 = .int .i64 readers_1∧fr' 2 = .int .i64 parts_2∧fr' 7=v46∧fr' 8 = .int .i64 s49∧fr' 9 = .ptr b93 0∧Sep h' lo
     ([Blk1 pb0 [lst cU8 sv133.1.code,.int .i64 sv133.1.at_,.int .u64 sv133.1.seed] 80]++(c47++([Blk1 b93 [.int .i64 sv133.2.Kind,.int .i64 sv133.2.K,
     .int .i64 sv133.2.Part,.int .i64 sv133.2.N] 64]++(S0))))) (fun Q134 hN135 hR136 hE137=>⟨fun hc138=>?_,fun hc138=>?_⟩) ?_
   ·rw [iteT hc138] at hX131
    obtain ⟨v139,hx140,hF141⟩:=qh hX131
    simp only [qwx,qe,f122,qd,qw,B0,reduceIte,reduceEqDiff]
    refine ky rfl (j6 hW pb0 s99 4 v139 hx140 hS121) ?_
    rintro _ h142 ⟨rfl,hS143⟩
    simp only [q9,qb,u0,f127,qt,Nat.reduceAdd,Nat.zero_add,Nat.add_zero,zg,zn,B0,reduceIte,reduceEqDiff]
    refine zd (us:=[.int .i64 (IntKind.wrap .i64 ((1:Int)+v139.1))]) rfl (cs':=[.int .i64 s100.Kind,.int .i64 s100.K,.int .i64 s100.Part,
      .int .i64 (IntKind.wrap .i64 ((1:Int)+v139.1))]) (Sep.m2 hS143) hW rfl rfl (Nat.le_of_ble_eq_true rfl) rfl (fun h144 hS145=>?_)
    simp only [qa,qm,B0,reduceIte,reduceEqDiff]
    have e146:=qg hF141
    subst e146
    exact hN135 _ _ ⟨f122,f123,f124,f125,f126,f127,(Sep.m2 (Sep.m2 hS145))⟩
   ·rw [iteF hc138] at hX131
    simp only [zh,qm,B0,reduceIte,reduceEqDiff]
    have e147:=qg hX131
    subst e147
    exact hN135 _ _ ⟨f122,f123,f124,f125,f126,f127,(Sep.m2 (Sep.m2 (Sep.m2 hS121)))⟩
   rintro fr148 h149 ⟨f151,f152,f153,f154,f155,f156,hS150⟩
   obtain ⟨s128,s129⟩:=sv133
   dsimp only at *
   unfold qa1 at hk132
   obtain ⟨v157,hx158,hF159⟩:=qh hk132
   simp only [qqm,qf,qe,f151,qd,qw,B0,reduceIte,reduceEqDiff]
   refine ky rfl (qgz hW pb0 s128 60 v157 hx158 hS150) ?_
   rintro _ h160 ⟨rfl,hS161⟩
   simp only [qa,qwz,za,B0,reduceIte,reduceEqDiff]
   obtain ⟨sv167,hX165,hk166⟩:=qh hF159
   refine qbs (t:=v157.1) (fun fr' h'=>fr' 0 = .ptr pb0 0∧fr' 1 = .int .i64 readers_1∧fr' 2 = .int .i64 parts_2∧fr' 7=v46∧fr' 8 = .int .i64 s49∧fr' 9 = .ptr b93 0∧Sep h' lo
     ([Blk1 pb0 [lst cU8 sv167.1.code,.int .i64 sv167.1.at_,.int .u64 sv167.1.seed] 80]++(c47++([Blk1 b93 [.int .i64 sv167.2.Kind,.int .i64 sv167.2.K,
     .int .i64 sv167.2.Part,.int .i64 sv167.2.N] 64]++(S0))))) (fun Q168 hN169 hR170 hE171=>⟨fun hc172=>?_,fun hc172=>?_⟩) ?_
   ·rw [iteT hc172] at hX165
    obtain ⟨v173,hx174,hF175⟩:=qh hX165
    simp only [qw3,qe,f151,qd,qw,B0,reduceIte,reduceEqDiff]
    refine ky rfl (j6 hW pb0 v157.2 7 v173 hx174 hS161) ?_
    rintro _ h176 ⟨rfl,hS177⟩
    obtain ⟨v178,hx179,hF180⟩:=qh hF175
    simp only [f151,qd,qw,B0,reduceIte,reduceEqDiff]
    refine ky rfl (j6 hW pb0 v173.2 7 v178 hx179 hS177) ?_
    rintro _ h181 ⟨rfl,hS182⟩
    obtain ⟨v183,hx184,hF185⟩:=qh hF180
    simp only [q9,qb,qdm,f151,qd,qw,B0,reduceIte,reduceEqDiff]
    refine ky rfl (j6 hW pb0 v178.2 8 v183 hx184 hS182) ?_
    rintro _ h186 ⟨rfl,hS187⟩
    obtain ⟨v188,hx189,hF190⟩:=qh hF185
    simp only [q9,qb,qdm,f151,qd,qw,B0,reduceIte,reduceEqDiff]
    refine ky rfl (j6 hW pb0 v183.2 3 v188 hx189 hS187) ?_
    rintro _ h191 ⟨rfl,hS192⟩
    simp only [run_build,evp,B0,reduceIte,reduceEqDiff]
    refine qj (v := .agg [.int .i64 v173.1,.int .i64 (IntKind.wrap .i64 (v178.1 - 1)),.int .i64 (IntKind.wrap .i64 (v183.1 - 1)),.int .i64 v188.1]) rfl ?_
    simp only [f156,zn,B0,reduceIte,reduceEqDiff]
    refine zd (us:=[.int .i64 v173.1,.int .i64 (IntKind.wrap .i64 (v178.1 - 1)),.int .i64 (IntKind.wrap .i64 (v183.1 - 1)),
      .int .i64 v188.1]) rfl (cs':=[.int .i64 v173.1,.int .i64 (IntKind.wrap .i64 (v178.1 - 1)),.int .i64 (IntKind.wrap .i64 (v183.1 - 1)),
      .int .i64 v188.1]) (Sep.m2 hS192) hW rfl rfl (Nat.le_of_ble_eq_true rfl) rfl (fun h193 hS194=>?_)
    simp only [qa,qm,B0,reduceIte,reduceEqDiff]
    have e195:=qg hF190
    subst e195
    exact hN169 _ _ ⟨f151,f152,f153,f154,f155,f156,(Sep.m2 (Sep.m2 hS194))⟩
   ·rw [iteF hc172] at hX165
    simp only [zh,qm,B0,reduceIte,reduceEqDiff]
    have e196:=qg hX165
    subst e196
    exact hN169 _ _ ⟨f151,f152,f153,f154,f155,f156,(Sep.m2 (Sep.m2 (Sep.m2 hS161)))⟩
   rintro fr197 h198 ⟨f200,f201,f202,f203,f204,f205,hS199⟩
   obtain ⟨s162,s163⟩:=sv167
   dsimp only at *
   unfold qay at hk166
   simp only [qyc,qe,f203,qd,f205,qn,B0,reduceIte,reduceEqDiff]
   refine qj (v := .agg [.int .i64 s163.Kind,.int .i64 s163.K,.int .i64 s163.Part,.int .i64 s163.N]) ((z7 (Sep.bk _ _ _ (Sep.m2 hS199))).trans rfl) ?_
   simp only [kf,evp,B0,reduceIte,reduceEqDiff]
   refine ju (n:=4) (f:=GroupStep.cells) [s163] hS199 rfl rfl (fun v206 c207 h208 hv209 hS210=>?_)
   simp only [qal,B0,reduceIte,reduceEqDiff]
   obtain ⟨l212,hx213,hF214⟩:=qh hk166
   refine xq (f:=GroupStep.cells) hv48 (Sep.m2 hS210) hW (fun _=>rfl) (fun _=>rfl) (SlF.first hv209 hS210 (fun _=>rfl)) hx213
     (fun v215 c216 h217 hv218 hS219=>?_)
   simp only [qd,qa,qbx,qe,f204,q9,qb,qdm,qm,B0,reduceIte,reduceEqDiff]
   have e221:=qg hF214
   exact hN60 _ _ _ e221.symm ⟨v215,c216,f200,f201,f202,rfl,rfl,hv218,(Sep.m1 (Sep.dc (Sep.m2 (Sep.dc (Sep.m1 hS219)))))⟩
  rw [iteF hc74] at hF57
  simp only [qgu,qfx,qgr,B0,reduceIte,reduceEqDiff]
  have e225:=qg hF57
  exact hK61 _ _ _ e225.symm ⟨v46,c47,f68,f69,f70,f71,f72,hv48,(Sep.m1 (Sep.m1 hS67))⟩
 rintro ⟨s227,s232,s233⟩ fr234 h235 rfl ⟨v229,c230,f237,f238,f239,f240,f241,hv231,hS236⟩
 dsimp only [jnO] at hk56
 dsimp only at *
 unfold qat at hk56
 simp only [qf,qe,f240,qd,qa,qx,B0,reduceIte,reduceEqDiff]
 have he:=qg hk56
 subst he
 simp only [zi,B0,reduceIte,reduceEqDiff]
 exact ⟨v229,c230,by first | trivial | rfl,hv231,(Sep.m1 hS236)⟩
theorem qcz {W:Nat→Bool}{h:Heap} (hW:∀ b,
  (geL h.length) b→W b=true) (k:Nat) (readers_0:Int) (ends_1:List Int) (r:Readers_ × Bool)
  (hF:kt k readers_0 ends_1=some r) : Ret E W 47 [.int .i64 readers_0,lst cI ends_1] h (fun v h'=>∃ rv0_1 rc0_1 rv0_2 rc0_2 rv0_3 rc0_3,
  v = .tup [.agg [.int .i64 r.1.Generation,rv0_1,rv0_2,rv0_3],
  .bool r.2]∧SlN Reader.R 4 37 rv0_1 r.1.Readers rc0_1∧SlF cI 1 3 rv0_2 r.1.Committed rc0_2∧SlF cI 1 3 rv0_3 r.1.Ends rc0_3∧Sep h' (geL h.length) (rc0_1++(rc0_2 ++
  (rc0_3++([]))))):=by
 refine Ret.of (fn:=x47) rfl (Run.of ?_)
 unfold kt at hF
 have zf0:zb [.int .i64 readers_0,lst cI ends_1] 0 = .int .i64 readers_0:=rfl
 have zf1:zb [.int .i64 readers_0,lst cI ends_1] 1=lst cI ends_1:=rfl
 generalize zb [.int .i64 readers_0,lst cI ends_1]=fr0 at zf0 zf1 ⊢
 have hS:Sep h (geL h.length) []:=Sep.nil h
 simp only [x47,qf,qe,ja,B0,reduceIte,reduceEqDiff]
 refine zw hS (fun b1 h2 hS3=>?_)
 simp only [qd,qa,qqb,qf,qe,zf0,qw,B0,reduceIte,reduceEqDiff]
 refine je rfl (qi qs (qi qs (qi qs qy))) (wm (fun b hb=>decide_eq_true hb) readers_0 1 5 _ rfl) ?_
 simp only [jf,qb,jt,qd,B0,reduceIte,reduceEqDiff]
 refine z4 5 (fun fr' h'=>Sep h' (geL h.length) ([Blk1 b1 [.int .i64 0,.nil,.nil,
   .nil] 29]++([]))∧fr' 18 = .bool ((!(zx readers_0 1 5))||(!(zx
   (List.length ends_1:Int) 1 6)))∧fr' 0 = .int .i64 readers_0∧fr' 1=lst cI ends_1∧fr' 4 = .ptr b1 0) (fun Q5 hN6=>?_) ?_
 ·simp only [List.take_succ_cons,List.take_zero]
  simp only [qc (g:=13),B0,reduceIte,reduceEqDiff]
  refine q8 (t:=(!(zx readers_0 1 5))) (fun hg7=>?_) (fun hg7=>?_)
  ·simp only [hg7,qc (g:=13),zy,qr,qb,zk,qa,qm,B0,reduceIte,reduceEqDiff]
   exact hN6 _ _ ⟨hS3,by rw [orT hg7]; simp only [B0,reduceIte,reduceEqDiff],zf0,zf1,rfl⟩
  ·simp only [hg7,qc (g:=13),qo,zf1,qd,zo,qb,zr,qw,B0,reduceIte,reduceEqDiff]
   refine je rfl (qi qs (qi qs (qi qs qy))) (wm (fun b hb=>decide_eq_true hb) (List.length ends_1:Int) 1 6 _ rfl) ?_
   simp only [hg7,qc (g:=13),qo,jf,qb,jt,qr,zj,qa,qm,B0,reduceIte,reduceEqDiff]
   exact hN6 _ _ ⟨hS3,by rw [orF hg7]; simp only [B0,reduceIte,reduceEqDiff],zf0,zf1,rfl⟩
 rintro fr8 h13 ⟨hS14,f9,f10,f11,f12⟩
 simp only [List.drop_succ_cons,List.drop_zero]
 simp only [qa,qzp,f9,za,B0,reduceIte,reduceEqDiff]
 refine qz (t:=((!(zx readers_0 1 5))||(!(zx (List.length ends_1:Int) 1 6)))) (fun hc15=>?_) (fun hc15=>?_)
 ·rw [iteT hc15] at hF
  simp only [qf,qe,run_build,evp,B0,reduceIte,reduceEqDiff]
  refine qj (v := .agg [.int .i64 0,.nil,.nil,.nil]) rfl ?_
  simp only [f12,zn,B0,reduceIte,reduceEqDiff]
  refine zd (us:=[.int .i64 0,.nil,.nil,.nil]) rfl (cs':=[.int .i64 0,.nil,.nil,.nil]) hS14 hW rfl rfl (Nat.le_of_ble_eq_true rfl) rfl (fun h16 hS17=>?_)
  simp only [qd,qa,qx,B0,reduceIte,reduceEqDiff]
  have he:=qg hF
  subst he
  refine ka (qi (kg (bb:=b1) (oo:=0) (v := .agg [.int .i64 0,.nil,.nil,
    .nil]) (f12) ((z7 (Sep.bk _ _ _ hS17)).trans rfl)) (qi (wz (v := .bool false) (rfl)) qy)) ?_
  exact ⟨.nil,[],.nil,[],.nil,[],by first | trivial | rfl,SlN.nil,SlF.nil,SlF.nil,((Sep.dc (hS17)) : Sep _ (geL h.length) ([]))⟩
 rw [iteF hc15] at hF
 simp only [zh,qo6,qf,qe,f11,qd,zo,qb,zr,qa,B0,reduceIte,reduceEqDiff]
 obtain ⟨oc20,hX22,hk23⟩:=jj hF
 simp only [qu7]
 refine j8 (σ:=Unit) ends_1 (fun i18 x19 _=>xh i18 x19 )
   (fun s fr' h'=>fr' 0 = .int .i64 readers_0∧fr' 1=lst cI ends_1∧fr' 4 = .ptr b1 0∧fr' 20=lst cI ends_1∧Sep h' (geL h.length) ([Blk1 b1 [.int .i64 0,.nil,.nil,
   .nil] 29]++([]))) hX22 ⟨f10,f11,f12,rfl,hS14⟩ (by simp only [B0,reduceIte,reduceEqDiff]) (by simp only [B0,reduceIte,
   reduceEqDiff]) (fun _ _ _ h=>h) rfl rfl (fun _ _ _ _ h=>h) (fun _ _ _ _ h=>h) (fun _ _ _ _ h=>h) (by decide) ?_ ?_
 ·rintro i18 x19 _ fr32 h33 hx39 ⟨f35,f36,f37,f38,hS34⟩ f40 f41 oc21 hF24 hr25 Q26 hN27 hB31 hK28 hR29 hE30
  unfold xh at hF24
  simp only [q1l,qf,qe,f38,f40,jo,B0,reduceIte,reduceEqDiff]
  refine qj (v := .ref (cI x19) 0) (j7 hx39 rfl) ?_
  simp only [qn,B0,reduceIte,reduceEqDiff]
  refine qj (v := .int .i64 x19) rfl ?_
  simp only [qd,qa,qu2,qf,qe,qw,B0,reduceIte,reduceEqDiff]
  refine je rfl (qi qs (qi qs (qi qs qy))) (wm (fun b hb=>decide_eq_true hb) x19 0 100 _ rfl) ?_
  simp only [jf,qb,jt,qa,qv7,za,B0,reduceIte,reduceEqDiff]
  refine qz (t:=(!(zx x19 0 100))) (fun hc42=>?_) (fun hc42=>?_)
  ·rw [iteT hc42] at hF24
   simp only [qf,qe,run_build,evp,B0,reduceIte,reduceEqDiff]
   refine qj (v := .agg [.int .i64 0,.nil,.nil,.nil]) rfl ?_
   simp only [f37,zn,B0,reduceIte,reduceEqDiff]
   refine zd (us:=[.int .i64 0,.nil,.nil,.nil]) rfl (cs':=[.int .i64 0,.nil,.nil,.nil]) hS34 hW rfl rfl (Nat.le_of_ble_eq_true rfl) rfl (fun h43 hS44=>?_)
   simp only [qd,qa,qx,B0,reduceIte,reduceEqDiff]
   have e45:=qg hF24
   subst e45
   have ho46:=hr25 _ rfl
   have hk47:=hk23
   rw [ho46] at hk47
   dsimp only [jnO] at hk47
   apply hR29
   have he:=qg hk47
   subst he
   refine ka (qi (kg (bb:=b1) (oo:=0) (v := .agg [.int .i64 0,.nil,.nil,
     .nil]) (f37) ((z7 (Sep.bk _ _ _ hS44)).trans rfl)) (qi (wz (v := .bool false) (rfl)) qy)) ?_
   exact ⟨.nil,[],.nil,[],.nil,[],by first | trivial | rfl,SlN.nil,SlF.nil,SlF.nil,((Sep.dc (hS44)) : Sep _ (geL h.length) ([]))⟩
  rw [iteF hc42] at hF24
  simp only [zh,qm,B0,reduceIte,reduceEqDiff]
  have e48:=qg hF24
  exact hN27 _ _ _ e48.symm ⟨f35,f36,f37,f38,hS34⟩ (f40) (f41)
 rintro _ fr50 h51 rfl ⟨f53,f54,f55,f56,hS52⟩
 dsimp only [jnO] at hk23
 unfold qci at hk23
 obtain ⟨l57,hx58,hF59⟩:=qh hk23
 simp only [qrk,qf,jc,f54,qk5,ql,qr6,zr,qqe,B0,reduceIte,reduceEqDiff]
 refine qdr (f:=cI) (z:=(0:Int)) hS52 hx58 rfl (fun v60 c61 h62 hv63 hS64=>?_)
 simp only [qdg,evp,B0,reduceIte,reduceEqDiff]
 refine qaq (n:=1) (f:=cI) ([] : List Int) hS64 rfl rfl (fun v66 c67 h68 hv69 hS70=>?_)
 simp only [qgn,B0,reduceIte,reduceEqDiff]
 refine qcp hS70 (fun b72 h73 hS74=>?_)
 simp only [f54,z8,ql,qjp,B0,reduceIte,reduceEqDiff]
 obtain ⟨l76,hx77,hF78⟩:=qh hF59
 refine qct (f:=cI) hv69 (Sep.m1 hS74) hW (fun _=>rfl) (fun _=>rfl) (wl (fun _=>rfl)) hx77 (fun v79 c80 h81 hv82 hS83=>?_)
 simp only [qde,evp,B0,reduceIte,reduceEqDiff]
 refine qp (v := .agg [.int .i64 0,.nil,v60,v79]) (xd (xe (us:=[v60]) (vs:=[.int .i64 0,.nil,v60,
   .nil]) (jr (SlF.one hv63)) rfl (Nat.le_of_ble_eq_true rfl) (qk (SlF.one hv63) zl) rfl (xe (us:=[v79]) (vs:=[.int .i64 0,.nil,v60,
   v79]) (jr (SlF.one hv82)) rfl (Nat.le_of_ble_eq_true rfl) (qk (SlF.one hv82) zl) rfl qcv))) ?_
 simp only [xb,B0,reduceIte,reduceEqDiff]
 refine y7 (us:=[.int .i64 0,.nil,v60,v79]) rfl (cs':=[.int .i64 0,.nil,v60,
   v79]) (Sep.m1 hS83) hW rfl (qk rfl (qk rfl (qk (SlF.one hv63) (qk (SlF.one hv82) zl)))) (Nat.le_of_ble_eq_true rfl) rfl (fun h85 hS86=>?_)
 simp only [zc,qrg,qf,qe,qd,qa,B0,reduceIte,reduceEqDiff]
 obtain ⟨oc101,hX103,hk104⟩:=jj hF78
 simp only [qp2]
 refine qj7 (σ:=Int × Readers_) (fun s151=>xx readers_0 ends_1 l57 l76 s151.1 s151.2) (fun s fr' h'=>∃ v96 c97,
   fr' 0 = .int .i64 readers_0∧fr' 1=lst cI ends_1∧fr' 4 = .ptr b1 0∧fr' 8 = .ptr b72 0∧fr' 9 = .int .i64 s.1∧SlN Reader.R 4 37 v96 s.2.Readers c97∧Sep h'
   (geL h.length) ([Blk1 b1 [.int .i64 0,.nil,.nil,.nil] 29]++([Blk1 b72 [.int .i64 s.2.Generation,v96,v60,v79] 29]++(c97++(c61++(c80++([]))))))) hX103 ⟨.nil,
   [],f53,f54,f55,rfl,rfl,SlN.nil,((Sep.m3 (Sep.m2 (Sep.m2 (Sep.m1 hS86)))) : Sep _ (geL h.length) ([Blk1 b1 [.int .i64 0,.nil,.nil,
   .nil] 29]++([Blk1 b72 [.int .i64 0,.nil,v60,v79] 29]++(c61++(c80++([]))))))⟩ (fun _ _ _ h=>h) ?_ ?_
 ·rintro ⟨s93,s94⟩ fr113 h114 ⟨v96,c97,f116,f117,f118,f119,f120,hv98,hS115⟩ oc102 hF105 hr106 Q107 hN108 hK109 hR110 hE111
  dsimp only at *
  unfold xx at hF105
  simp only [q2d,qf,qe,f120,qd,f116,q9,qb,qeb,qa,za,B0,reduceIte,reduceEqDiff]
  refine qz (t:=(decide (s93<readers_0))) (fun hc122=>?_) (fun hc122=>?_)
  ·rw [iteT hc122] at hF105
   simp only [zh,qyg,qf,qav,q0s,jc,f119,zv,ql,Nat.reduceAdd,Nat.zero_add,Nat.add_zero,zg,zm,B0,reduceIte,
     reduceEqDiff]
   refine qp (v:=v96) ((z9 (Sep.bk _ _ _ (Sep.m1 hS115))).trans rfl) ?_
   obtain ⟨l123,hx124,hF125⟩:=qh hF105
   simp only [f117,z8,ql,qen,zr,qme,B0,reduceIte,reduceEqDiff]
   refine qdr (f:=cI) (z:=(0:Int)) hS115 hx124 rfl (fun v126 c127 h128 hv129 hS130=>?_)
   simp only [qde,evp,B0,reduceIte,reduceEqDiff]
   refine qp (v := .agg [.bool false,.int .i64 0,.nil,v126]) (xd (xe (us:=[v126]) (vs:=[.bool false,.int .i64 0,.nil,
     v126]) (jr (SlF.one hv129)) rfl (Nat.le_of_ble_eq_true rfl) (qk (SlF.one hv129) zl) rfl qcv)) ?_
   simp only [qdg,evp,B0,reduceIte,reduceEqDiff]
   refine qhj (R:=Reader.R) (n:=4) (cs:=[.bool false,.int .i64 0,.nil,
     v126]) (os:=[]++(c127)) (Sep.bi2 (c1:=[]) (c2:=c127) (S:=([Blk1 b1 [.int .i64 0,.nil,.nil,.nil] 29]++([Blk1 b72 [.int .i64 s94.Generation,v96,v60,
     v79] 29]++(c97++(c61++(c80++([]))))))) (hS130:Sep _ (geL h.length) (c127++([Blk1 b1 [.int .i64 0,.nil,.nil,
     .nil] 29]++([Blk1 b72 [.int .i64 s94.Generation,v96,v60,v79] 29]++(c97++(c61++(c80++([]))))))))) (xe (us:=[.bool false,.int .i64 0,.nil,
     v126]) (vs:=[.bool false,.int .i64 0,.nil,
     v126]) rfl rfl (Nat.le_of_ble_eq_true rfl) (qk rfl (qk rfl (qk rfl (qk (SlF.one hv129) zl)))) rfl qcv) (Reader.RI (x :=
     (Reader.mk false 0 [] l123)) SlF.nil hv129) rfl (fun v132 c133 h134 hv135 hS136=>?_)
   simp only [qjp,B0,reduceIte,reduceEqDiff]
   obtain ⟨l138,hx139,hF140⟩:=qh hF125
   refine qjh (R:=Reader.R) (c:=c97) hv98 hv135 (Sep.m3 hS136) hW Reader.RO.len Reader.RO.one hx139 (fun v141 c142 h143 hv144 hS145=>?_)
   simp only [f119,zv,ql,Nat.reduceAdd,Nat.zero_add,Nat.add_zero,zg,xb,B0,reduceIte,reduceEqDiff]
   refine y7 (us:=[v141]) (jr (SlN.one hv144)) (cs':=[.int .i64 s94.Generation,v141,v60,
     v79]) (Sep.m2 hS145) hW rfl (qk (SlN.one hv144) zl) (Nat.le_of_ble_eq_true rfl) rfl (fun h147 hS148=>?_)
   simp only [zc,qbx,qe,f120,qd,q9,qb,u0,qa,qm,B0,reduceIte,reduceEqDiff]
   have e149:=qg hF140
   exact hN108 _ _ _ e149.symm ⟨v141,c142,f116,f117,f118,f119,rfl,hv144,(Sep.m4 (Sep.m3 (Sep.m3 (Sep.m4 (Sep.m4 hS148)))))⟩
  rw [iteF hc122] at hF105
  simp only [qgu,qfx,qgr,B0,reduceIte,reduceEqDiff]
  have e150:=qg hF105
  exact hK109 _ _ _ e150.symm ⟨v96,c97,f116,f117,f118,f119,f120,hv98,(Sep.m4 (Sep.m4 (Sep.m4 (Sep.m4 (Sep.m4 hS115)))))⟩
 rintro ⟨s152,s153⟩ fr158 h159 rfl ⟨v155,c156,f161,f162,f163,f164,f165,hv157,hS160⟩
 dsimp only [jnO] at hk104
 dsimp only at *
 unfold qek at hk104
 simp only [qf,qe,f164,qn,B0,reduceIte,reduceEqDiff]
 refine qj (v := .agg [.int .i64 s153.Generation,v155,v60,v79]) ((z7 (Sep.bk _ _ _ (Sep.m1 hS160))).trans rfl) ?_
 simp only [f163,zn,B0,reduceIte,reduceEqDiff]
 refine zd (us:=[.int .i64 s153.Generation,v155,v60,v79]) rfl (cs':=[.int .i64 s153.Generation,v155,v60,
   v79]) hS160 hW rfl (qk rfl (qk (SlN.one hv157) (qk (SlF.one hv63) (qk (SlF.one hv82) zl)))) (Nat.le_of_ble_eq_true rfl) rfl (fun h166 hS167=>?_)
 simp only [qd,qa,qx,B0,reduceIte,reduceEqDiff]
 have he:=qg hk104
 subst he
 refine ka (qi (kg (bb:=b1) (oo:=0) (v := .agg [.int .i64 s153.Generation,v155,v60,
   v79]) (f163) ((z7 (Sep.bk _ _ _ hS167)).trans rfl)) (qi (wz (v := .bool true) (rfl)) qy)) ?_
 exact ⟨v155,c156,v60,c61,v79,c80,by first | trivial | rfl,hv157,hv63,hv82,(Sep.m2 (Sep.m2 (Sep.m2 (Sep.dc ((Sep.dc (hS167)))))))⟩
end Go.Proofs.Ytdhibknhejhfaaa.X
