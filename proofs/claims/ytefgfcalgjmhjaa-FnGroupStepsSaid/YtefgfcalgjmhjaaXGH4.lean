/- The functions' code comes to what the plain functions say (4). -/
import Derived.Test.YtefgfcalgjmhjaaXGH3
set_option linter.unusedVariables false
set_option linter.unusedSimpArgs false
set_option maxRecDepth 100000
namespace Go.Proofs.Ytefgfcalgjmhjaa.X
open Go
open Nat (reduceEqDiff)
theorem qgz {W:Nat→Bool}{h:Heap}{lo:Nat→Prop}{S0:List Obj} (hW:∀ b,
  lo b→W b=true) (k:Nat) (v_0:Group) (pv0_2:XV) (pc0_2:List Obj) (ph0_2:SlF cI 1 3 pv0_2 v_0.InStep pc0_2) (pv0_4:XV) (pc0_4:List Obj)
  (ph0_4:SlN Replica.R 3 51 pv0_4 v_0.Replicas pc0_4) (v_1:IsrStep) (r:Group × Bool) (hF:qbj k v_0 v_1=some r) (hS:Sep h lo (pc0_2++(pc0_4 ++
  (S0)))) : Ret E W 67 [.agg [.int .i64 v_0.Epoch,.int .i64 v_0.Leader,pv0_2,.int .i64 v_0.High,pv0_4],.agg [.int .i64 v_1.Kind,.int .i64 v_1.K,
  .int .i64 v_1.N]] h (fun v h'=>∃ rv0_2 rc0_2 rc0_4,v = .tup [.agg [.int .i64 r.1.Epoch,.int .i64 r.1.Leader,rv0_2,.int .i64 r.1.High,pv0_4],
  .bool r.2]∧SlF cI 1 3 rv0_2 r.1.InStep rc0_2∧SlN Replica.R 3 51 pv0_4 r.1.Replicas rc0_4∧Sep h' lo (rc0_2++(rc0_4++(S0)))):=by
 refine Ret.of (fn:=x67) rfl (Run.of ?_)
 unfold qbj at hF
 have zf0:ze [.agg [.int .i64 v_0.Epoch,.int .i64 v_0.Leader,pv0_2,.int .i64 v_0.High,pv0_4],.agg [.int .i64 v_1.Kind,.int .i64 v_1.K,
   .int .i64 v_1.N]] 0 = .agg [.int .i64 v_0.Epoch,.int .i64 v_0.Leader,pv0_2,.int .i64 v_0.High,pv0_4]:=rfl
 have zf1:ze [.agg [.int .i64 v_0.Epoch,.int .i64 v_0.Leader,pv0_2,.int .i64 v_0.High,pv0_4],.agg [.int .i64 v_1.Kind,.int .i64 v_1.K,
   .int .i64 v_1.N]] 1 = .agg [.int .i64 v_1.Kind,.int .i64 v_1.K,.int .i64 v_1.N]:=rfl
 generalize ze [.agg [.int .i64 v_0.Epoch,.int .i64 v_0.Leader,pv0_2,.int .i64 v_0.High,pv0_4],.agg [.int .i64 v_1.Kind,.int .i64 v_1.K,
   .int .i64 v_1.N]]=fr0 at zf0 zf1 ⊢
 simp only [x67,qe,qd,kp,zf0,B0,reduceIte,reduceEqDiff]
 refine jz (cs:=[.int .i64 v_0.Epoch,.int .i64 v_0.Leader,pv0_2,.int .i64 v_0.High,
   pv0_4]) hS rfl rfl (qk rfl (qk rfl (qk (SlF.one ph0_2) (qk rfl (qk (SlN.one ph0_4) zn))))) (fun b1 h2 hS3=>?_)
 simp only [kp,zf1,B0,reduceIte,reduceEqDiff]
 refine jz (cs:=[.int .i64 v_1.Kind,.int .i64 v_1.K,.int .i64 v_1.N]) hS3 rfl rfl rfl (fun b5 h6 hS7=>?_)
 simp only [je,B0,reduceIte,reduceEqDiff]
 refine zt hS7 (fun b9 h10 hS11=>?_)
 simp only [qc,qa,B0,reduceIte,reduceEqDiff]
 refine zz (Sep.m1 hS11) hW (by simp only [B0,reduceIte,reduceEqDiff]) (fun h13 hS14=>?_)
 simp only [zw,qto,qe,qd,qs,qb,Nat.reduceAdd,Nat.zero_add,Nat.add_zero,qw,qp,B0,reduceIte,reduceEqDiff]
 refine qj (v:=pv0_2) ((zu (Sep.bk _ _ _ (Sep.m1 hS14))).trans rfl) ?_
 simp only [qs,qb,Nat.reduceAdd,Nat.zero_add,Nat.add_zero,qr,qp,B0,reduceIte,reduceEqDiff]
 refine qj (v := .int .i64 v_1.K) rfl ?_
 obtain ⟨v15,hx16,hF17⟩:=qi hF
 simp only [za,B0,reduceIte,reduceEqDiff]
 refine js rfl (qh (SlF.snap ph0_2 (Sep.m2 hS14) rfl (fun _=>rfl) (fun _=>rfl)) (qh qm qz)) (qfs
   (fun b hb=>decide_eq_true hb) v_0.InStep v_1.K v15 hx16) ?_
 simp only [qc,qa,qt7,qe,qd,qs,qb,Nat.reduceAdd,Nat.zero_add,Nat.add_zero,qr,qp,B0,reduceIte,reduceEqDiff]
 refine qj (v := .int .i64 v_1.K) rfl ?_
 simp only [q9,qb,qht,qc,B0,reduceIte,reduceEqDiff]
 refine ji 7 (fun fr' h'=>Sep h' lo ([Blk1 b1 [.int .i64 v_0.Epoch,.int .i64 v_0.Leader,pv0_2,.int .i64 v_0.High,pv0_4] 29]++([Blk1 b9 [.int .i64 0,.int .i64 0,.nil,
   .int .i64 0,.nil] 29]++(pc0_2++(pc0_4++(S0)))))∧fr' 28 = .bool ((decide ((0:Int)≤v_1.K))&&(decide (v_1.K <
   (List.length v_0.Replicas:Int))))∧fr' 2 = .ptr b1 0∧fr' 3 = .ref [.int .i64 v_1.Kind,.int .i64 v_1.K,
   .int .i64 v_1.N] 0∧fr' 4 = .ptr b9 0∧fr' 6 = .bool v15) (fun Q18 hN19=>?_) ?_
 ·simp only [List.take_succ_cons,List.take_zero]
  simp only [qf (g:=21),B0,reduceIte,reduceEqDiff]
  refine zf (t:=(decide ((0:Int)≤v_1.K))) (fun hg20=>?_) (fun hg20=>?_)
  ·simp only [hg20,qf (g:=21),zl,qs,qb,Nat.reduceAdd,Nat.zero_add,Nat.add_zero,qr,qp,B0,reduceIte,reduceEqDiff]
   refine qj (v := .int .i64 v_1.K) rfl ?_
   simp only [hg20,qf (g:=21),zl,qs,qb,Nat.reduceAdd,Nat.zero_add,Nat.add_zero,qw,qp,B0,reduceIte,reduceEqDiff]
   refine qj (v:=pv0_4) ((zu (Sep.bk _ _ _ (Sep.m1 hS14))).trans rfl) ?_
   simp only [hg20,qf (g:=21),zl,jb,qb,SlN.len ph0_4,q9,u0,qt,zh,qa,qo,B0,reduceIte,reduceEqDiff]
   exact hN19 _ _ ⟨(Sep.m3 (Sep.m2 (Sep.m3 (Sep.m3 hS14)))),by rw [xd hg20]; simp only [B0,reduceIte,reduceEqDiff],rfl,rfl,rfl,rfl⟩
  ·simp only [hg20,qf (g:=21),jo,qt,qb,zi,qa,qo,B0,reduceIte,reduceEqDiff]
   exact hN19 _ _ ⟨(Sep.m3 (Sep.m2 (Sep.m3 (Sep.m3 hS14)))),by rw [xe hg20]; simp only [B0,reduceIte,reduceEqDiff],rfl,rfl,rfl,rfl⟩
 rintro fr21 h27 ⟨hS28,f22,f23,f24,f25,f26⟩
 simp only [List.drop_succ_cons,List.drop_zero]
 simp only [f22,qc,qa,qri,qe,qd,f23,qs,qb,Nat.reduceAdd,Nat.zero_add,Nat.add_zero,qw,qp,B0,reduceIte,reduceEqDiff]
 refine qj (v:=pv0_4) ((zu (Sep.bk _ _ _ hS28)).trans rfl) ?_
 simp only [f23,qs,qb,Nat.reduceAdd,Nat.zero_add,Nat.add_zero,qw,qp,B0,reduceIte,reduceEqDiff]
 refine qj (v := .int .i64 v_0.Leader) ((zu (Sep.bk _ _ _ hS28)).trans rfl) ?_
 obtain ⟨x29,hx30,hF31⟩:=qi hF17
 simp only [j0,B0,reduceIte,reduceEqDiff]
 obtain ⟨b32,hb33⟩:=SlN.isrow ph0_4 (ur hx30)
 refine qj (SlN.ia ph0_4 hb33 hx30) ?_
 obtain ⟨c34,cs35,os36,hv37,hR38,hS39⟩:=SlG.opn (SlN.toG ph0_4 hb33 Replica.RO.len) hx30 jk Replica.RO.len (Sep.m3 hS28)
 obtain ⟨v41,c42,hv43,rfl,rfl⟩:=hR38
 have hS40:=Sep.no1 hS39
 simp only [qp,B0,reduceIte,reduceEqDiff]
 refine qj (v := .agg [v41,.int .i64 x29.Epoch,.int .i64 x29.Known]) ((SlG.lds (o:=0) hv37 rfl hx30 hS40 (Nat.le_of_ble_eq_true rfl)).trans rfl) ?_
 simp only [je,B0,reduceIte,reduceEqDiff]
 refine zt hS40 (fun b45 h46 hS47=>?_)
 simp only [zg,B0,reduceIte,reduceEqDiff]
 refine qy (us:=[v41,.int .i64 x29.Epoch,.int .i64 x29.Known]) rfl (cs':=[v41,.int .i64 x29.Epoch,
   .int .i64 x29.Known]) hS47 hW rfl (qk (SlF.one hv43) (qk rfl (qk rfl zn))) (Nat.le_of_ble_eq_true rfl) rfl (fun h49 hS50=>?_)
 simp only [qa,qqp,qe,w6,qqy,qd,f24,qs,qb,Nat.reduceAdd,Nat.zero_add,Nat.add_zero,qr,qp,B0,reduceIte,
   reduceEqDiff]
 refine qj (v := .int .i64 v_1.Kind) rfl ?_
 simp only [q9,qb,yd,qc,B0,reduceIte,reduceEqDiff]
 refine ji 2 (fun fr' h'=>Sep h' lo ([Blk1 b1 [.int .i64 v_0.Epoch,.int .i64 v_0.Leader,pv0_2,.int .i64 v_0.High,pv0_4] 29]++([Blk1 b9 [.int .i64 0,.int .i64 0,.nil,
   .int .i64 0,.nil] 29]++([Blk1 b45 [v41,.int .i64 x29.Epoch,
   .int .i64 x29.Known] 51]++(pc0_2++(c34++(c42++(S0)))))))∧fr' 42 = .bool ((decide (v_1.Kind=1))&&v15)∧fr' 2 = .ptr b1 0∧fr' 3 = .ref [.int .i64 v_1.Kind,
   .int .i64 v_1.K,.int .i64 v_1.N] 0∧fr' 4 = .ptr b9 0∧fr' 6 = .bool v15∧fr' 7 = .bool ((decide ((0:Int)≤v_1.K))&&(decide (v_1.K <
   (List.length v_0.Replicas:Int))))∧fr' 8 = .ptr b45 0) (fun Q51 hN52=>?_) ?_
 ·simp only [List.take_succ_cons,List.take_zero]
  simp only [qf (g:=40),B0,reduceIte,reduceEqDiff]
  refine zf (t:=(decide (v_1.Kind=1))) (fun hg53=>?_) (fun hg53=>?_)
  ·simp only [hg53,qf (g:=40),zl,f26,qc,qt,qb,zh,qa,qo,B0,reduceIte,reduceEqDiff]
   exact hN52 _ _ ⟨(Sep.m5 (Sep.m5 (Sep.m3 (Sep.m5 (Sep.m2 (Sep.m2 hS50)))))),by rw [xd hg53]; simp only [B0,reduceIte,reduceEqDiff],f23,f24,f25,f26,rfl,rfl⟩
  ·simp only [hg53,qf (g:=40),jo,qt,qb,zi,qa,qo,B0,reduceIte,reduceEqDiff]
   exact hN52 _ _ ⟨(Sep.m5 (Sep.m5 (Sep.m3 (Sep.m5 (Sep.m2 (Sep.m2 hS50)))))),by rw [xe hg53]; simp only [B0,reduceIte,reduceEqDiff],f23,f24,f25,f26,rfl,rfl⟩
 rintro fr54 h62 ⟨hS63,f55,f56,f57,f58,f59,f60,f61⟩
 simp only [List.drop_succ_cons,List.drop_zero]
 simp only [f55,qc,B0,reduceIte,reduceEqDiff]
 refine ji 4 (fun fr' h'=>Sep h' lo ([Blk1 b1 [.int .i64 v_0.Epoch,.int .i64 v_0.Leader,pv0_2,.int .i64 v_0.High,pv0_4] 29]++([Blk1 b9 [.int .i64 0,.int .i64 0,.nil,
   .int .i64 0,.nil] 29]++([Blk1 b45 [v41,.int .i64 x29.Epoch,
   .int .i64 x29.Known] 51]++(pc0_2++(c34++(c42++(S0)))))))∧fr' 47 = .bool (((decide (v_1.Kind=1))&&v15)&&(decide
   (v_1.N=0)))∧fr' 2 = .ptr b1 0∧fr' 3 = .ref [.int .i64 v_1.Kind,.int .i64 v_1.K,
   .int .i64 v_1.N] 0∧fr' 4 = .ptr b9 0∧fr' 6 = .bool v15∧fr' 7 = .bool ((decide ((0:Int)≤v_1.K))&&(decide (v_1.K <
   (List.length v_0.Replicas:Int))))∧fr' 8 = .ptr b45 0) (fun Q64 hN65=>?_) ?_
 ·simp only [List.take_succ_cons,List.take_zero]
  simp only [qf (g:=43),B0,reduceIte,reduceEqDiff]
  refine zf (t:=((decide (v_1.Kind=1))&&v15)) (fun hg66=>?_) (fun hg66=>?_)
  ·simp only [hg66,qf (g:=43),zl,f57,qs,qb,Nat.reduceAdd,Nat.zero_add,Nat.add_zero,qr,qp,B0,reduceIte,reduceEqDiff]
   refine qj (v := .int .i64 v_1.N) rfl ?_
   simp only [hg66,qf (g:=43),zl,q9,qb,yd,qt,zh,qa,qo,B0,reduceIte,reduceEqDiff]
   exact hN65 _ _ ⟨(Sep.m5 (Sep.m5 (Sep.m5 (Sep.m5 (Sep.m5 (Sep.m5 hS63)))))),by rw [xd hg66]; simp only [B0,reduceIte,reduceEqDiff],f56,f57,f58,f59,f60,f61⟩
  ·simp only [hg66,qf (g:=43),jo,qt,qb,zi,qa,qo,B0,reduceIte,reduceEqDiff]
   exact hN65 _ _ ⟨(Sep.m5 (Sep.m5 (Sep.m5 (Sep.m5 (Sep.m5 (Sep.m5 hS63)))))),by rw [xe hg66]; simp only [B0,reduceIte,reduceEqDiff],f56,f57,f58,f59,f60,f61⟩
 rintro fr67 h75 ⟨hS76,f68,f69,f70,f71,f72,f73,f74⟩
 simp only [List.drop_succ_cons,List.drop_zero]
 simp only [f68,qc,B0,reduceIte,reduceEqDiff]
 refine ji 4 (fun fr' h'=>Sep h' lo ([Blk1 b1 [.int .i64 v_0.Epoch,.int .i64 v_0.Leader,pv0_2,.int .i64 v_0.High,pv0_4] 29]++([Blk1 b9 [.int .i64 0,.int .i64 0,.nil,
   .int .i64 0,.nil] 29]++([Blk1 b45 [v41,.int .i64 x29.Epoch,
   .int .i64 x29.Known] 51]++(pc0_2++(c34++(c42++(S0)))))))∧fr' 52 = .bool ((((decide (v_1.Kind=1))&&v15)&&(decide (v_1.N=0)))&&(decide
   (v_0.Epoch<100)))∧fr' 2 = .ptr b1 0∧fr' 3 = .ref [.int .i64 v_1.Kind,.int .i64 v_1.K,
   .int .i64 v_1.N] 0∧fr' 4 = .ptr b9 0∧fr' 6 = .bool v15∧fr' 7 = .bool ((decide ((0:Int)≤v_1.K))&&(decide (v_1.K <
   (List.length v_0.Replicas:Int))))∧fr' 8 = .ptr b45 0) (fun Q77 hN78=>?_) ?_
 ·simp only [List.take_succ_cons,List.take_zero]
  simp only [qf (g:=48),B0,reduceIte,reduceEqDiff]
  refine zf (t:=(((decide (v_1.Kind=1))&&v15)&&(decide (v_1.N=0)))) (fun hg79=>?_) (fun hg79=>?_)
  ·simp only [hg79,qf (g:=48),zl,f69,qs,qb,Nat.reduceAdd,Nat.zero_add,Nat.add_zero,qw,qp,B0,reduceIte,reduceEqDiff]
   refine qj (v := .int .i64 v_0.Epoch) ((zu (Sep.bk _ _ _ hS76)).trans rfl) ?_
   simp only [hg79,qf (g:=48),zl,q9,qb,u0,qt,zh,qa,qo,B0,reduceIte,reduceEqDiff]
   exact hN78 _ _ ⟨(Sep.m5 (Sep.m5 (Sep.m5 (Sep.m5 (Sep.m5 (Sep.m5 hS76)))))),by rw [xd hg79]; simp only [B0,reduceIte,reduceEqDiff],f69,f70,f71,f72,f73,f74⟩
  ·simp only [hg79,qf (g:=48),jo,qt,qb,zi,qa,qo,B0,reduceIte,reduceEqDiff]
   exact hN78 _ _ ⟨(Sep.m5 (Sep.m5 (Sep.m5 (Sep.m5 (Sep.m5 (Sep.m5 hS76)))))),by rw [xe hg79]; simp only [B0,reduceIte,reduceEqDiff],f69,f70,f71,f72,f73,f74⟩
 rintro fr80 h88 ⟨hS89,f81,f82,f83,f84,f85,f86,f87⟩
 simp only [List.drop_succ_cons,List.drop_zero]
 simp only [f81,qc,qa,qrs,zb,B0,reduceIte,reduceEqDiff]
 refine zd (t:=((((decide (v_1.Kind=1))&&v15)&&(decide (v_1.N=0)))&&(decide (v_0.Epoch<100)))) (fun hc90=>?_) (fun hc90=>?_)
 ·rw [iteT hc90] at hF31
  simp only [q1i,qe,qd,f82,qs,qb,Nat.reduceAdd,Nat.zero_add,Nat.add_zero,qw,qp,B0,reduceIte,reduceEqDiff]
  refine qj (v := .int .i64 v_0.Epoch) ((zu (Sep.bk _ _ _ hS89)).trans rfl) ?_
  simp only [q9,qb,qbf,f82,qs,Nat.reduceAdd,Nat.zero_add,Nat.add_zero,qw,zg,B0,reduceIte,reduceEqDiff]
  refine qy (us:=[.int .i64 (IntKind.wrap .i64 (v_0.Epoch+1))]) rfl (cs':=[.int .i64 (IntKind.wrap .i64 (v_0.Epoch+1)),.int .i64 v_0.Leader,pv0_2,
    .int .i64 v_0.High,pv0_4]) hS89 hW rfl rfl (Nat.le_of_ble_eq_true rfl) rfl (fun h91 hS92=>?_)
  simp only [qa,qw0,qe,qd,f83,qs,qb,Nat.reduceAdd,Nat.zero_add,Nat.add_zero,qr,qp,B0,reduceIte,reduceEqDiff]
  refine qj (v := .int .i64 v_1.K) rfl ?_
  simp only [f82,qs,qb,Nat.reduceAdd,Nat.zero_add,Nat.add_zero,qw,zg,B0,reduceIte,reduceEqDiff]
  refine qy (us:=[.int .i64 v_1.K]) rfl (cs':=[.int .i64 (IntKind.wrap .i64 (v_0.Epoch+1)),.int .i64 v_1.K,pv0_2,.int .i64 v_0.High,
    pv0_4]) hS92 hW rfl rfl (Nat.le_of_ble_eq_true rfl) rfl (fun h93 hS94=>?_)
  simp only [qa,q26,qe,qd,f82,qs,qb,Nat.reduceAdd,Nat.zero_add,Nat.add_zero,qw,qp,B0,reduceIte,reduceEqDiff]
  refine qj (v:=pv0_4) ((zu (Sep.bk _ _ _ hS94)).trans rfl) ?_
  simp only [f83,qs,qb,Nat.reduceAdd,Nat.zero_add,Nat.add_zero,qr,qp,B0,reduceIte,reduceEqDiff]
  refine qj (v := .int .i64 v_1.K) rfl ?_
  obtain ⟨x95,hx96,hF97⟩:=qi hF31
  simp only [j0,B0,reduceIte,reduceEqDiff]
  refine qj (SlG.ia hv37 hx96) ?_
  obtain ⟨c98,hv99,hS100⟩:=SlG.cls0 (c:=c34) (os:=c42) hv37 rfl hx30 jk (Replica.RI (x:=x29) hv43) (Sep.m5 (Sep.m5 hS94))
  have hv101:=SlG.toN hv99
  obtain ⟨c102,cs103,os104,hv105,hR106,hS107⟩:=SlG.opn (SlN.toG hv101 hb33 Replica.RO.len) hx96 jk Replica.RO.len hS100
  obtain ⟨v109,c110,hv111,rfl,rfl⟩:=hR106
  have hS108:=Sep.no1 hS107
  simp only [qp,B0,reduceIte,reduceEqDiff]
  refine qj (v := .agg [v109,.int .i64 x95.Epoch,.int .i64 x95.Known]) ((SlG.lds (o:=0) hv105 rfl hx96 hS108 (Nat.le_of_ble_eq_true rfl)).trans rfl) ?_
  simp only [je,B0,reduceIte,reduceEqDiff]
  refine zt hS108 (fun b113 h114 hS115=>?_)
  simp only [zg,B0,reduceIte,reduceEqDiff]
  refine qy (us:=[v109,.int .i64 x95.Epoch,.int .i64 x95.Known]) rfl (cs':=[v109,.int .i64 x95.Epoch,
    .int .i64 x95.Known]) hS115 hW rfl (qk (SlF.one hv111) (qk rfl (qk rfl zn))) (Nat.le_of_ble_eq_true rfl) rfl (fun h117 hS118=>?_)
  simp only [qa,q29,qe,qd,f82,qs,qb,Nat.reduceAdd,Nat.zero_add,Nat.add_zero,qw,qp,B0,reduceIte,reduceEqDiff]
  refine qj (v := .int .i64 (IntKind.wrap .i64 (v_0.Epoch+1))) ((zu (Sep.bk _ _ _ (Sep.m3 hS118))).trans rfl) ?_
  simp only [qs,qb,Nat.reduceAdd,Nat.zero_add,Nat.add_zero,qw,zg,B0,reduceIte,reduceEqDiff]
  refine qy (us:=[.int .i64 (IntKind.wrap .i64 (v_0.Epoch+1))]) rfl (cs':=[v109,.int .i64 (IntKind.wrap .i64 (v_0.Epoch+1)),
    .int .i64 x95.Known]) hS118 hW rfl rfl (Nat.le_of_ble_eq_true rfl) rfl (fun h119 hS120=>?_)
  simp only [qa,q1k,qe,qd,qs,qb,Nat.reduceAdd,Nat.zero_add,Nat.add_zero,qw,qp,B0,reduceIte,reduceEqDiff]
  refine qj (v:=v109) ((zu (Sep.bk _ _ _ hS120)).trans rfl) ?_
  simp only [jb,qb,SlF.plen hv111,qs,Nat.reduceAdd,Nat.zero_add,Nat.add_zero,qw,zg,B0,reduceIte,reduceEqDiff]
  refine qy (us:=[.int .i64 (List.length x95.Log:Int)]) rfl (cs':=[v109,.int .i64 (IntKind.wrap .i64 (v_0.Epoch+1)),
    .int .i64 (List.length x95.Log:Int)]) hS120 hW rfl rfl (Nat.le_of_ble_eq_true rfl) rfl (fun h121 hS122=>?_)
  simp only [qa,qzg,qd,f82,qs,qb,Nat.reduceAdd,Nat.zero_add,Nat.add_zero,qw,qp,B0,reduceIte,reduceEqDiff]
  refine qj (v:=pv0_4) ((zu (Sep.bk _ _ _ (Sep.m3 hS122))).trans rfl) ?_
  simp only [f83,qs,qb,Nat.reduceAdd,Nat.zero_add,Nat.add_zero,qr,qp,B0,reduceIte,reduceEqDiff]
  refine qj (v := .int .i64 v_1.K) rfl ?_
  simp only [qp,B0,reduceIte,reduceEqDiff]
  refine qj (v := .agg [v109,.int .i64 (IntKind.wrap .i64 (v_0.Epoch+1)),.int .i64 (List.length x95.Log:Int)]) ((zv (Sep.bk _ _ _ hS122)).trans rfl) ?_
  simp only [j0,B0,reduceIte,reduceEqDiff]
  refine qj (SlG.ia hv105 hx96) ?_
  simp only [zg,B0,reduceIte,reduceEqDiff]
  refine qe0 (n:=3) (us:=[v109,.int .i64 (IntKind.wrap .i64 (v_0.Epoch+1)),.int .i64 (List.length x95.Log:Int)]) (cs:=[v109,.int .i64 x95.Epoch,
    .int .i64 x95.Known]) (o:=0) (cs':=[v109,.int .i64 (IntKind.wrap .i64 (v_0.Epoch+1)),
    .int .i64 (List.length x95.Log:Int)]) rfl hv105 rfl hx96 (Sep.m1 hS122) hW rfl (qk (SlF.one hv111) (qk rfl (qk rfl zn))) (Nat.le_of_ble_eq_true rfl) rfl
    (fun c125 h123 hv126 hS124=>?_)
  simp only [qa,wb,qe,qd,f82,qp,B0,reduceIte,reduceEqDiff]
  refine qj (v := .agg [.int .i64 (IntKind.wrap .i64 (v_0.Epoch+1)),.int .i64 v_1.K,pv0_2,.int .i64 v_0.High,
    pv0_4]) ((zv (Sep.bk _ _ _ (Sep.m3 hS124))).trans rfl) ?_
  simp only [f84,zg,B0,reduceIte,reduceEqDiff]
  refine qy (us:=[.int .i64 (IntKind.wrap .i64 (v_0.Epoch+1)),.int .i64 v_1.K,pv0_2,.int .i64 v_0.High,
    pv0_4]) rfl (cs':=[.int .i64 (IntKind.wrap .i64 (v_0.Epoch+1)),.int .i64 v_1.K,pv0_2,.int .i64 v_0.High,
    pv0_4]) (Sep.m4 hS124) hW rfl (qk rfl (qk rfl (qk (SlF.one ph0_2) (qk rfl (qk (SlG.one hv126) zn))))) (Nat.le_of_ble_eq_true rfl) rfl
    (fun h127 hS128=>?_)
  simp only [qc,qa,q8,B0,reduceIte,reduceEqDiff]
  obtain ⟨c129,hv130,hS131⟩:=SlG.cls (e':=(Replica.mk x95.Log (IntKind.wrap .i64 (v_0.Epoch+1)) (List.length x95.Log:Int))) (c:=c125)
    (os:=c110) hv126 rfl hx96 jk (Replica.RI (x:=(Replica.mk x95.Log (IntKind.wrap .i64 (v_0.Epoch+1)) (List.length x95.Log:Int))) hv111) (Sep.m2 (Sep.m3 hS128))
  have hx132:=qcm (x':=(Replica.mk x95.Log (IntKind.wrap .i64 (v_0.Epoch+1)) (List.length x95.Log:Int))) hx96
  have hv133:=SlG.toN hv130
  have he:=ql hF97
  subst he
  refine jy (qh (j6 (bb:=b9) (oo:=0) (v := .agg [.int .i64 (IntKind.wrap .i64 (v_0.Epoch+1)),.int .i64 v_1.K,pv0_2,.int .i64 v_0.High,
    pv0_4]) (f84) ((zv (Sep.bk _ _ _ (Sep.m1 hS131))).trans rfl)) (qh (yq (v := .bool true) (rfl)) qz)) ?_
  exact ⟨pv0_2,pc0_2,c129,by first | trivial | rfl,ph0_2,hv133,(Sep.m1 (Sep.dc (Sep.m1 (Sep.dc (Sep.m1 (Sep.dc (Sep.m1 (Sep.dc (Sep.m1 hS131)))))))))⟩
 rw [iteF hc90] at hF31
 simp only [qro,qe,qd,f83,qs,qb,Nat.reduceAdd,Nat.zero_add,Nat.add_zero,qr,qp,B0,reduceIte,reduceEqDiff]
 refine qj (v := .int .i64 v_1.Kind) rfl ?_
 simp only [q9,qb,yd,qc,B0,reduceIte,reduceEqDiff]
 refine ji 4 (fun fr' h'=>Sep h' lo ([Blk1 b1 [.int .i64 v_0.Epoch,.int .i64 v_0.Leader,pv0_2,.int .i64 v_0.High,pv0_4] 29]++([Blk1 b9 [.int .i64 0,.int .i64 0,.nil,
   .int .i64 0,.nil] 29]++([Blk1 b45 [v41,.int .i64 x29.Epoch,
   .int .i64 x29.Known] 51]++(pc0_2++(c34++(c42++(S0)))))))∧fr' 87 = .bool ((decide (v_1.Kind=2))&&(decide
   (v_1.K=0)))∧fr' 2 = .ptr b1 0∧fr' 3 = .ref [.int .i64 v_1.Kind,.int .i64 v_1.K,
   .int .i64 v_1.N] 0∧fr' 4 = .ptr b9 0∧fr' 6 = .bool v15∧fr' 7 = .bool ((decide ((0:Int)≤v_1.K))&&(decide (v_1.K <
   (List.length v_0.Replicas:Int))))∧fr' 8 = .ptr b45 0) (fun Q134 hN135=>?_) ?_
 ·simp only [List.take_succ_cons,List.take_zero]
  simp only [qf (g:=83),B0,reduceIte,reduceEqDiff]
  refine zf (t:=(decide (v_1.Kind=2))) (fun hg136=>?_) (fun hg136=>?_)
  ·simp only [hg136,qf (g:=83),zl,f83,qs,qb,Nat.reduceAdd,Nat.zero_add,Nat.add_zero,qr,qp,B0,reduceIte,reduceEqDiff]
   refine qj (v := .int .i64 v_1.K) rfl ?_
   simp only [hg136,qf (g:=83),zl,q9,qb,yd,qt,zh,qa,qo,B0,reduceIte,reduceEqDiff]
   exact hN135 _ _ ⟨(Sep.m5 (Sep.m5 (Sep.m5 (Sep.m5 (Sep.m5 (Sep.m5 hS89)))))),by rw [xd hg136]; simp only [B0,reduceIte,reduceEqDiff],f82,f83,f84,f85,f86,f87⟩
  ·simp only [hg136,qf (g:=83),jo,qt,qb,zi,qa,qo,B0,reduceIte,reduceEqDiff]
   exact hN135 _ _ ⟨(Sep.m5 (Sep.m5 (Sep.m5 (Sep.m5 (Sep.m5 (Sep.m5 hS89)))))),by rw [xe hg136]; simp only [B0,reduceIte,reduceEqDiff],f82,f83,f84,f85,f86,f87⟩
 rintro fr137 h145 ⟨hS146,f138,f139,f140,f141,f142,f143,f144⟩
 simp only [List.drop_succ_cons,List.drop_zero]
 simp only [f138,qc,B0,reduceIte,reduceEqDiff]
 refine ji 4 (fun fr' h'=>Sep h' lo ([Blk1 b1 [.int .i64 v_0.Epoch,.int .i64 v_0.Leader,pv0_2,.int .i64 v_0.High,pv0_4] 29]++([Blk1 b9 [.int .i64 0,.int .i64 0,.nil,
   .int .i64 0,.nil] 29]++([Blk1 b45 [v41,.int .i64 x29.Epoch,
   .int .i64 x29.Known] 51]++(pc0_2++(c34++(c42++(S0)))))))∧fr' 92 = .bool (((decide (v_1.Kind=2))&&(decide (v_1.K=0))) &&
   (z9 v_1.N 0 99))∧fr' 2 = .ptr b1 0∧fr' 3 = .ref [.int .i64 v_1.Kind,.int .i64 v_1.K,
   .int .i64 v_1.N] 0∧fr' 4 = .ptr b9 0∧fr' 6 = .bool v15∧fr' 7 = .bool ((decide ((0:Int)≤v_1.K))&&(decide (v_1.K <
   (List.length v_0.Replicas:Int))))∧fr' 8 = .ptr b45 0) (fun Q147 hN148=>?_) ?_
 ·simp only [List.take_succ_cons,List.take_zero]
  simp only [qf (g:=88),B0,reduceIte,reduceEqDiff]
  refine zf (t:=((decide (v_1.Kind=2))&&(decide (v_1.K=0)))) (fun hg149=>?_) (fun hg149=>?_)
  ·simp only [hg149,qf (g:=88),zl,f140,qs,qb,Nat.reduceAdd,Nat.zero_add,Nat.add_zero,qr,qp,B0,reduceIte,reduceEqDiff]
   refine qj (v := .int .i64 v_1.N) rfl ?_
   simp only [hg149,qf (g:=88),zl,za,B0,reduceIte,reduceEqDiff]
   refine js rfl (qh qm (qh qm (qh qm qz))) (qab (fun b hb=>decide_eq_true hb) v_1.N 0 99 _ rfl) ?_
   simp only [hg149,qt,qb,zh,qa,qo,B0,reduceIte,reduceEqDiff]
   exact hN148 _ _ ⟨(Sep.m5 (Sep.m5 (Sep.m5 (Sep.m5 (Sep.m5 (Sep.m5 hS146)))))),by rw [xd hg149]; simp only [B0,reduceIte,reduceEqDiff],f139,f140,f141,f142,f143,f144⟩
  ·simp only [hg149,qf (g:=88),jo,qt,qb,zi,qa,qo,B0,reduceIte,reduceEqDiff]
   exact hN148 _ _ ⟨(Sep.m5 (Sep.m5 (Sep.m5 (Sep.m5 (Sep.m5 (Sep.m5 hS146)))))),by rw [xe hg149]; simp only [B0,reduceIte,reduceEqDiff],f139,f140,f141,f142,f143,f144⟩
 rintro fr150 h158 ⟨hS159,f151,f152,f153,f154,f155,f156,f157⟩
 simp only [List.drop_succ_cons,List.drop_zero]
 simp only [f151,qc,B0,reduceIte,reduceEqDiff]
 refine ji 5 (fun fr' h'=>Sep h' lo ([Blk1 b1 [.int .i64 v_0.Epoch,.int .i64 v_0.Leader,pv0_2,.int .i64 v_0.High,pv0_4] 29]++([Blk1 b9 [.int .i64 0,.int .i64 0,.nil,
   .int .i64 0,.nil] 29]++([Blk1 b45 [v41,.int .i64 x29.Epoch,
   .int .i64 x29.Known] 51]++(pc0_2++(c34++(c42++(S0)))))))∧fr' 98 = .bool ((((decide (v_1.Kind=2))&&(decide (v_1.K=0)))&&(z9 v_1.N 0 99))&&(decide
   ((List.length x29.Log:Int)<30)))∧fr' 2 = .ptr b1 0∧fr' 3 = .ref [.int .i64 v_1.Kind,.int .i64 v_1.K,
   .int .i64 v_1.N] 0∧fr' 4 = .ptr b9 0∧fr' 6 = .bool v15∧fr' 7 = .bool ((decide ((0:Int)≤v_1.K))&&(decide (v_1.K <
   (List.length v_0.Replicas:Int))))∧fr' 8 = .ptr b45 0) (fun Q160 hN161=>?_) ?_
 ·simp only [List.take_succ_cons,List.take_zero]
  simp only [qf (g:=93),B0,reduceIte,reduceEqDiff]
  refine zf (t:=(((decide (v_1.Kind=2))&&(decide (v_1.K=0)))&&(z9 v_1.N 0 99))) (fun hg162=>?_) (fun hg162=>?_)
  ·simp only [hg162,qf (g:=93),zl,f157,qs,qb,Nat.reduceAdd,Nat.zero_add,Nat.add_zero,qw,qp,B0,reduceIte,reduceEqDiff]
   refine qj (v:=v41) ((zu (Sep.bk _ _ _ (Sep.m2 hS159))).trans rfl) ?_
   simp only [hg162,qf (g:=93),zl,jb,qb,SlF.plen hv43,q9,u0,qt,zh,qa,qo,B0,reduceIte,reduceEqDiff]
   exact hN161 _ _ ⟨(Sep.m5 (Sep.m5 (Sep.m5 (Sep.m5 (Sep.m5 (Sep.m5 hS159)))))),by rw [xd hg162]; simp only [B0,reduceIte,reduceEqDiff],f152,f153,f154,f155,f156,f157⟩
  ·simp only [hg162,qf (g:=93),jo,qt,qb,zi,qa,qo,B0,reduceIte,reduceEqDiff]
   exact hN161 _ _ ⟨(Sep.m5 (Sep.m5 (Sep.m5 (Sep.m5 (Sep.m5 (Sep.m5 hS159)))))),by rw [xe hg162]; simp only [B0,reduceIte,reduceEqDiff],f152,f153,f154,f155,f156,f157⟩
 rintro fr163 h171 ⟨hS172,f164,f165,f166,f167,f168,f169,f170⟩
 simp only [List.drop_succ_cons,List.drop_zero]
 simp only [f164,qc,qa,qr9,zb,B0,reduceIte,reduceEqDiff]
 refine zd (t:=((((decide (v_1.Kind=2))&&(decide (v_1.K=0)))&&(z9 v_1.N 0 99))&&(decide ((List.length x29.Log:Int)<30)))) (fun hc173=>?_)
   (fun hc173=>?_)
 ·rw [iteT hc173] at hF31
  simp only [qsr,qe,qd,f170,qs,qb,Nat.reduceAdd,Nat.zero_add,Nat.add_zero,qw,qp,B0,reduceIte,reduceEqDiff]
  refine qj (v:=v41) ((zu (Sep.bk _ _ _ (Sep.m2 hS172))).trans rfl) ?_
  simp only [f165,qs,qb,Nat.reduceAdd,Nat.zero_add,Nat.add_zero,qw,qp,B0,reduceIte,reduceEqDiff]
  refine qj (v := .int .i64 v_0.Epoch) ((zu (Sep.bk _ _ _ hS172)).trans rfl) ?_
  simp only [f166,qs,qb,Nat.reduceAdd,Nat.zero_add,Nat.add_zero,qr,qp,B0,reduceIte,reduceEqDiff]
  refine qj (v := .int .i64 v_1.N) rfl ?_
  simp only [run_build,evp,B0,reduceIte,reduceEqDiff]
  refine qj (v := .agg [.int .i64 v_0.Epoch,.int .i64 v_1.N]) rfl ?_
  simp only [yu,evp,B0,reduceIte,reduceEqDiff]
  refine ye (n:=2) (f:=Row.cells) [(Row.mk v_0.Epoch v_1.N)] hS172 rfl rfl (fun v174 c175 h176 hv177 hS178=>?_)
  simp only [uc,B0,reduceIte,reduceEqDiff]
  obtain ⟨l180,hx181,hF182⟩:=qi hF31
  refine wq (f:=Row.cells) hv43 (Sep.m6 hS178) hW (fun _=>rfl) (fun _=>rfl) (SlF.first hv177 hS178 (fun _=>rfl)) hx181 (fun v183 c184 h185 hv186 hS187=>?_)
  simp only [f170,qs,qb,Nat.reduceAdd,Nat.zero_add,Nat.add_zero,qw,zg,B0,reduceIte,reduceEqDiff]
  refine qy (us:=[v183]) (k5 (SlF.one hv186)) (cs':=[v183,.int .i64 x29.Epoch,
    .int .i64 x29.Known]) (Sep.m4 hS187) hW rfl (qk (SlF.one hv186) zn) (Nat.le_of_ble_eq_true rfl) rfl (fun h189 hS190=>?_)
  simp only [qa,qzu,qe,qd,f165,qs,qb,Nat.reduceAdd,Nat.zero_add,Nat.add_zero,qw,qp,B0,reduceIte,reduceEqDiff]
  refine qj (v := .int .i64 v_0.Epoch) ((zu (Sep.bk _ _ _ (Sep.m3 hS190))).trans rfl) ?_
  simp only [f170,qs,qb,Nat.reduceAdd,Nat.zero_add,Nat.add_zero,qw,zg,B0,reduceIte,reduceEqDiff]
  refine qy (us:=[.int .i64 v_0.Epoch]) rfl (cs':=[v183,.int .i64 v_0.Epoch,
    .int .i64 x29.Known]) hS190 hW rfl rfl (Nat.le_of_ble_eq_true rfl) rfl (fun h191 hS192=>?_)
  simp only [qa,q11,qe,qd,f170,qs,qb,Nat.reduceAdd,Nat.zero_add,Nat.add_zero,qw,qp,B0,reduceIte,reduceEqDiff]
  refine qj (v:=v183) ((zu (Sep.bk _ _ _ hS192)).trans rfl) ?_
  simp only [jb,qb,SlF.plen hv186,f170,qs,Nat.reduceAdd,Nat.zero_add,Nat.add_zero,qw,zg,B0,reduceIte,reduceEqDiff]
  refine qy (us:=[.int .i64 (List.length l180:Int)]) rfl (cs':=[v183,.int .i64 v_0.Epoch,
    .int .i64 (List.length l180:Int)]) hS192 hW rfl rfl (Nat.le_of_ble_eq_true rfl) rfl (fun h193 hS194=>?_)
  simp only [qa,q02,qd,f165,qs,qb,Nat.reduceAdd,Nat.zero_add,Nat.add_zero,qw,qp,B0,reduceIte,reduceEqDiff]
  refine qj (v:=pv0_4) ((zu (Sep.bk _ _ _ (Sep.m3 hS194))).trans rfl) ?_
  simp only [f165,qs,qb,Nat.reduceAdd,Nat.zero_add,Nat.add_zero,qw,qp,B0,reduceIte,reduceEqDiff]
  refine qj (v := .int .i64 v_0.Leader) ((zu (Sep.bk _ _ _ (Sep.m3 hS194))).trans rfl) ?_
  simp only [f170,qp,B0,reduceIte,reduceEqDiff]
  refine qj (v := .agg [v183,.int .i64 v_0.Epoch,.int .i64 (List.length l180:Int)]) ((zv (Sep.bk _ _ _ hS194)).trans rfl) ?_
  simp only [j0,B0,reduceIte,reduceEqDiff]
  refine qj (SlG.ia hv37 hx30) ?_
  simp only [zg,B0,reduceIte,reduceEqDiff]
  refine qe0 (n:=3) (us:=[v183,.int .i64 v_0.Epoch,.int .i64 (List.length l180:Int)]) (cs:=[v41,.int .i64 x29.Epoch,
    .int .i64 x29.Known]) (o:=0) (cs':=[v183,.int .i64 v_0.Epoch,
    .int .i64 (List.length l180:Int)]) rfl hv37 rfl hx30 (Sep.m6 hS194) hW rfl (qk (SlF.one hv186) (qk rfl (qk rfl zn))) (Nat.le_of_ble_eq_true rfl) rfl
    (fun c197 h195 hv198 hS196=>?_)
  simp only [qa,wb,qe,qd,f165,qp,B0,reduceIte,reduceEqDiff]
  refine qj (v := .agg [.int .i64 v_0.Epoch,.int .i64 v_0.Leader,pv0_2,.int .i64 v_0.High,pv0_4]) ((zv (Sep.bk _ _ _ (Sep.m4 hS196))).trans rfl) ?_
  simp only [f167,zg,B0,reduceIte,reduceEqDiff]
  refine qy (us:=[.int .i64 v_0.Epoch,.int .i64 v_0.Leader,pv0_2,.int .i64 v_0.High,pv0_4]) rfl (cs':=[.int .i64 v_0.Epoch,.int .i64 v_0.Leader,pv0_2,
    .int .i64 v_0.High,pv0_4]) (Sep.m5 hS196) hW rfl (qk rfl (qk rfl (qk (SlF.one ph0_2) (qk rfl (qk (SlG.one hv198) zn)))))
    (Nat.le_of_ble_eq_true rfl) rfl (fun h199 hS200=>?_)
  simp only [qc,qa,q8,B0,reduceIte,reduceEqDiff]
  obtain ⟨c201,hv202,hS203⟩:=SlG.cls (e':=(Replica.mk l180 v_0.Epoch (List.length l180:Int))) (c:=c197) (os:=c184) hv198 rfl hx30 jk (Replica.RI (x :=
    (Replica.mk l180 v_0.Epoch (List.length l180:Int))) hv186) (Sep.m2 (Sep.m3 hS200))
  have hx204:=qcm (x':=(Replica.mk l180 v_0.Epoch (List.length l180:Int))) hx30
  have hv205:=SlG.toN hv202
  have he:=ql hF182
  subst he
  refine jy (qh (j6 (bb:=b9) (oo:=0) (v := .agg [.int .i64 v_0.Epoch,.int .i64 v_0.Leader,pv0_2,.int .i64 v_0.High,
    pv0_4]) (f167) ((zv (Sep.bk _ _ _ (Sep.m1 hS203))).trans rfl)) (qh (yq (v := .bool true) (rfl)) qz)) ?_
  exact ⟨pv0_2,pc0_2,c201,by first | trivial | rfl,ph0_2,hv205,(Sep.m1 (Sep.dc (Sep.m1 (Sep.dc (Sep.m1 (Sep.dc (Sep.m1 (Sep.dc (Sep.m1 hS203)))))))))⟩
 rw [iteF hc173] at hF31
 simp only [qs4,qe,qd,f166,qs,qb,Nat.reduceAdd,Nat.zero_add,Nat.add_zero,qr,qp,B0,reduceIte,reduceEqDiff]
 refine qj (v := .int .i64 v_1.Kind) rfl ?_
 simp only [q9,qb,yd,qc,B0,reduceIte,reduceEqDiff]
 refine ji 2 (fun fr' h'=>Sep h' lo ([Blk1 b1 [.int .i64 v_0.Epoch,.int .i64 v_0.Leader,pv0_2,.int .i64 v_0.High,pv0_4] 29]++([Blk1 b9 [.int .i64 0,.int .i64 0,.nil,
   .int .i64 0,.nil] 29]++(pc0_2++(c34++(c42++(S0))))))∧fr' 128 = .bool ((decide (v_1.Kind=3))&&((decide ((0:Int)≤v_1.K))&&(decide (v_1.K <
   (List.length v_0.Replicas:Int)))))∧fr' 2 = .ptr b1 0∧fr' 3 = .ref [.int .i64 v_1.Kind,.int .i64 v_1.K,
   .int .i64 v_1.N] 0∧fr' 4 = .ptr b9 0∧fr' 6 = .bool v15∧fr' 7 = .bool ((decide ((0:Int)≤v_1.K))&&(decide (v_1.K<(List.length v_0.Replicas:Int)))))
   (fun Q206 hN207=>?_) ?_
 ·simp only [List.take_succ_cons,List.take_zero]
  simp only [qf (g:=126),B0,reduceIte,reduceEqDiff]
  refine zf (t:=(decide (v_1.Kind=3))) (fun hg208=>?_) (fun hg208=>?_)
  ·simp only [hg208,qf (g:=126),zl,f169,qc,qt,qb,zh,qa,qo,B0,reduceIte,reduceEqDiff]
   exact hN207 _ _ ⟨(Sep.m4 (Sep.m4 (Sep.m4 (Sep.m4 (Sep.m4 (Sep.dc (Sep.m2 hS172))))))),by rw [xd hg208]; simp only [B0,reduceIte,reduceEqDiff],f165,f166,f167,f168,
     f169⟩
  ·simp only [hg208,qf (g:=126),jo,qt,qb,zi,qa,qo,B0,reduceIte,reduceEqDiff]
   exact hN207 _ _ ⟨(Sep.m4 (Sep.m4 (Sep.m4 (Sep.m4 (Sep.m4 (Sep.dc (Sep.m2 hS172))))))),by rw [xe hg208]; simp only [B0,reduceIte,reduceEqDiff],f165,f166,f167,f168,
     f169⟩
 rintro fr209 h216 ⟨hS217,f210,f211,f212,f213,f214,f215⟩
 simp only [List.drop_succ_cons,List.drop_zero]
 simp only [f210,qc,B0,reduceIte,reduceEqDiff]
 refine ji 6 (fun fr' h'=>Sep h' lo ([Blk1 b1 [.int .i64 v_0.Epoch,.int .i64 v_0.Leader,pv0_2,.int .i64 v_0.High,pv0_4] 29]++([Blk1 b9 [.int .i64 0,.int .i64 0,.nil,
   .int .i64 0,.nil] 29]++(pc0_2++(c34++(c42++(S0))))))∧fr' 135 = .bool (((decide (v_1.Kind=3))&&((decide ((0:Int)≤v_1.K))&&(decide (v_1.K <
   (List.length v_0.Replicas:Int)))))&&(decide (v_1.K≠v_0.Leader)))∧fr' 2 = .ptr b1 0∧fr' 3 = .ref [.int .i64 v_1.Kind,.int .i64 v_1.K,
   .int .i64 v_1.N] 0∧fr' 4 = .ptr b9 0∧fr' 6 = .bool v15∧fr' 7 = .bool ((decide ((0:Int)≤v_1.K))&&(decide (v_1.K<(List.length v_0.Replicas:Int)))))
   (fun Q218 hN219=>?_) ?_
 ·simp only [List.take_succ_cons,List.take_zero]
  simp only [qf (g:=129),B0,reduceIte,reduceEqDiff]
  refine zf (t:=((decide (v_1.Kind=3))&&((decide ((0:Int)≤v_1.K))&&(decide (v_1.K<(List.length v_0.Replicas:Int)))))) (fun hg220=>?_) (fun hg220=>?_)
  ·simp only [hg220,qf (g:=129),zl,f212,qs,qb,Nat.reduceAdd,Nat.zero_add,Nat.add_zero,qr,qp,B0,reduceIte,reduceEqDiff]
   refine qj (v := .int .i64 v_1.K) rfl ?_
   simp only [hg220,qf (g:=129),zl,f211,qs,qb,Nat.reduceAdd,Nat.zero_add,Nat.add_zero,qw,qp,B0,reduceIte,reduceEqDiff]
   refine qj (v := .int .i64 v_0.Leader) ((zu (Sep.bk _ _ _ hS217)).trans rfl) ?_
   simp only [hg220,qf (g:=129),zl,q9,qb,qao,qt,zh,qa,qo,B0,reduceIte,reduceEqDiff]
   exact hN219 _ _ ⟨(Sep.m4 (Sep.m4 (Sep.m4 (Sep.m4 (Sep.m4 hS217))))),by rw [xd hg220]; simp only [B0,reduceIte,reduceEqDiff],f211,f212,f213,f214,f215⟩
  ·simp only [hg220,qf (g:=129),jo,qt,qb,zi,qa,qo,B0,reduceIte,reduceEqDiff]
   exact hN219 _ _ ⟨(Sep.m4 (Sep.m4 (Sep.m4 (Sep.m4 (Sep.m4 hS217))))),by rw [xe hg220]; simp only [B0,reduceIte,reduceEqDiff],f211,f212,f213,f214,f215⟩
 rintro fr221 h228 ⟨hS229,f222,f223,f224,f225,f226,f227⟩
 simp only [List.drop_succ_cons,List.drop_zero]
 simp only [f222,qc,B0,reduceIte,reduceEqDiff]
 refine ji 4 (fun fr' h'=>Sep h' lo ([Blk1 b1 [.int .i64 v_0.Epoch,.int .i64 v_0.Leader,pv0_2,.int .i64 v_0.High,pv0_4] 29]++([Blk1 b9 [.int .i64 0,.int .i64 0,.nil,
   .int .i64 0,.nil] 29]++(pc0_2++(c34++(c42++(S0))))))∧fr' 140 = .bool ((((decide (v_1.Kind=3))&&((decide ((0:Int)≤v_1.K))&&(decide (v_1.K <
   (List.length v_0.Replicas:Int)))))&&(decide (v_1.K≠v_0.Leader)))&&(z9 v_1.N 0 30))∧fr' 2 = .ptr b1 0∧fr' 3 = .ref [.int .i64 v_1.Kind,.int .i64 v_1.K,
   .int .i64 v_1.N] 0∧fr' 4 = .ptr b9 0∧fr' 6 = .bool v15∧fr' 7 = .bool ((decide ((0:Int)≤v_1.K))&&(decide (v_1.K<(List.length v_0.Replicas:Int)))))
   (fun Q230 hN231=>?_) ?_
 ·simp only [List.take_succ_cons,List.take_zero]
  simp only [qf (g:=136),B0,reduceIte,reduceEqDiff]
  refine zf (t:=(((decide (v_1.Kind=3))&&((decide ((0:Int)≤v_1.K))&&(decide (v_1.K<(List.length v_0.Replicas:Int)))))&&(decide
    (v_1.K≠v_0.Leader)))) (fun hg232=>?_) (fun hg232=>?_)
  ·simp only [hg232,qf (g:=136),zl,f224,qs,qb,Nat.reduceAdd,Nat.zero_add,Nat.add_zero,qr,qp,B0,reduceIte,reduceEqDiff]
   refine qj (v := .int .i64 v_1.N) rfl ?_
   simp only [hg232,qf (g:=136),zl,za,B0,reduceIte,reduceEqDiff]
   refine js rfl (qh qm (qh qm (qh qm qz))) (qab (fun b hb=>decide_eq_true hb) v_1.N 0 30 _ rfl) ?_
   simp only [hg232,qt,qb,zh,qa,qo,B0,reduceIte,reduceEqDiff]
   exact hN231 _ _ ⟨(Sep.m4 (Sep.m4 (Sep.m4 (Sep.m4 (Sep.m4 hS229))))),by rw [xd hg232]; simp only [B0,reduceIte,reduceEqDiff],f223,f224,f225,f226,f227⟩
  ·simp only [hg232,qf (g:=136),jo,qt,qb,zi,qa,qo,B0,reduceIte,reduceEqDiff]
   exact hN231 _ _ ⟨(Sep.m4 (Sep.m4 (Sep.m4 (Sep.m4 (Sep.m4 hS229))))),by rw [xe hg232]; simp only [B0,reduceIte,reduceEqDiff],f223,f224,f225,f226,f227⟩
 rintro fr233 h240 ⟨hS241,f234,f235,f236,f237,f238,f239⟩
 simp only [List.drop_succ_cons,List.drop_zero]
 simp only [f234,qc,qa,qso,zb,B0,reduceIte,reduceEqDiff]
 refine zd (t:=((((decide (v_1.Kind=3))&&((decide ((0:Int)≤v_1.K))&&(decide (v_1.K<(List.length v_0.Replicas:Int)))))&&(decide
   (v_1.K≠v_0.Leader)))&&(z9 v_1.N 0 30))) (fun hc242=>?_) (fun hc242=>?_)
 ·rw [iteT hc242] at hF31
  simp only [qt0,qe,qd,f235,qp,B0,reduceIte,reduceEqDiff]
  refine qj (v := .agg [.int .i64 v_0.Epoch,.int .i64 v_0.Leader,pv0_2,.int .i64 v_0.High,pv0_4]) ((zv (Sep.bk _ _ _ hS241)).trans rfl) ?_
  simp only [f236,qs,qb,Nat.reduceAdd,Nat.zero_add,Nat.add_zero,qr,qp,B0,reduceIte,reduceEqDiff]
  refine qj (v := .int .i64 v_1.K) rfl ?_
  simp only [f236,qs,qb,Nat.reduceAdd,Nat.zero_add,Nat.add_zero,qr,qp,B0,reduceIte,reduceEqDiff]
  refine qj (v := .int .i64 v_1.N) rfl ?_
  obtain ⟨c243,hv244,hS245⟩:=SlG.cls0 (c:=c34) (os:=c42) hv37 rfl hx30 jk (Replica.RI (x:=x29) hv43) (Sep.m4 (Sep.m4 hS241))
  have hv246:=SlG.toN hv244
  obtain ⟨v247,hx248,hF249⟩:=qi hF31
  simp only [za,B0,reduceIte,reduceEqDiff]
  refine ku rfl (qgm hW k v_0 pv0_2 pc0_2 ph0_2 pv0_4 c243 hv246 v_1.K v_1.N v247 hx248 (Sep.m3 hS245)) ?_
  rintro _ h254 ⟨c250,c252,rfl,hv251,hv253,hS255⟩
  simp only [f237,zg,B0,reduceIte,reduceEqDiff]
  refine qy (us:=[.int .i64 v247.Epoch,.int .i64 v247.Leader,pv0_2,.int .i64 v247.High,pv0_4]) rfl (cs':=[.int .i64 v247.Epoch,.int .i64 v247.Leader,pv0_2,
    .int .i64 v247.High,pv0_4]) (Sep.m3 hS255) hW rfl (qk rfl (qk rfl (qk (SlF.one hv251) (qk rfl (qk (SlN.one hv253) zn)))))
    (Nat.le_of_ble_eq_true rfl) rfl (fun h256 hS257=>?_)
  simp only [qc,qa,q8,B0,reduceIte,reduceEqDiff]
  have he:=ql hF249
  subst he
  refine jy (qh (j6 (bb:=b9) (oo:=0) (v := .agg [.int .i64 v247.Epoch,.int .i64 v247.Leader,pv0_2,.int .i64 v247.High,
    pv0_4]) (f237) ((zv (Sep.bk _ _ _ hS257)).trans rfl)) (qh (yq (v := .bool true) (rfl)) qz)) ?_
  exact ⟨pv0_2,c250,c252,by first | trivial | rfl,hv251,hv253,(Sep.m1 (Sep.m1 (Sep.dc (Sep.m2 (Sep.dc (hS257))))))⟩
 rw [iteF hc242] at hF31
 simp only [qub,qe,qd,f236,qs,qb,Nat.reduceAdd,Nat.zero_add,Nat.add_zero,qr,qp,B0,reduceIte,reduceEqDiff]
 refine qj (v := .int .i64 v_1.Kind) rfl ?_
 simp only [q9,qb,yd,qc,B0,reduceIte,reduceEqDiff]
 refine ji 2 (fun fr' h'=>Sep h' lo ([Blk1 b1 [.int .i64 v_0.Epoch,.int .i64 v_0.Leader,pv0_2,.int .i64 v_0.High,pv0_4] 29]++([Blk1 b9 [.int .i64 0,.int .i64 0,.nil,
   .int .i64 0,.nil] 29]++(pc0_2++(c34++(c42++(S0))))))∧fr' 153 = .bool ((decide (v_1.Kind=4))&&v15)∧fr' 2 = .ptr b1 0∧fr' 3 = .ref [.int .i64 v_1.Kind,
   .int .i64 v_1.K,.int .i64 v_1.N] 0∧fr' 4 = .ptr b9 0∧fr' 6 = .bool v15∧fr' 7 = .bool ((decide ((0:Int)≤v_1.K))&&(decide (v_1.K <
   (List.length v_0.Replicas:Int))))) (fun Q258 hN259=>?_) ?_
 ·simp only [List.take_succ_cons,List.take_zero]
  simp only [qf (g:=151),B0,reduceIte,reduceEqDiff]
  refine zf (t:=(decide (v_1.Kind=4))) (fun hg260=>?_) (fun hg260=>?_)
  ·simp only [hg260,qf (g:=151),zl,f238,qc,qt,qb,zh,qa,qo,B0,reduceIte,reduceEqDiff]
   exact hN259 _ _ ⟨(Sep.m4 (Sep.m4 (Sep.m4 (Sep.m4 (Sep.m4 hS241))))),by rw [xd hg260]; simp only [B0,reduceIte,reduceEqDiff],f235,f236,f237,f238,f239⟩
  ·simp only [hg260,qf (g:=151),jo,qt,qb,zi,qa,qo,B0,reduceIte,reduceEqDiff]
   exact hN259 _ _ ⟨(Sep.m4 (Sep.m4 (Sep.m4 (Sep.m4 (Sep.m4 hS241))))),by rw [xe hg260]; simp only [B0,reduceIte,reduceEqDiff],f235,f236,f237,f238,f239⟩
 rintro fr261 h268 ⟨hS269,f262,f263,f264,f265,f266,f267⟩
 simp only [List.drop_succ_cons,List.drop_zero]
 simp only [f262,qc,B0,reduceIte,reduceEqDiff]
 refine ji 6 (fun fr' h'=>Sep h' lo ([Blk1 b1 [.int .i64 v_0.Epoch,.int .i64 v_0.Leader,pv0_2,.int .i64 v_0.High,pv0_4] 29]++([Blk1 b9 [.int .i64 0,.int .i64 0,.nil,
   .int .i64 0,.nil] 29]++(pc0_2++(c34++(c42++(S0))))))∧fr' 160 = .bool (((decide (v_1.Kind=4))&&v15)&&(decide
   (v_1.K≠v_0.Leader)))∧fr' 2 = .ptr b1 0∧fr' 3 = .ref [.int .i64 v_1.Kind,.int .i64 v_1.K,
   .int .i64 v_1.N] 0∧fr' 4 = .ptr b9 0∧fr' 6 = .bool v15∧fr' 7 = .bool ((decide ((0:Int)≤v_1.K))&&(decide (v_1.K<(List.length v_0.Replicas:Int)))))
   (fun Q270 hN271=>?_) ?_
 ·simp only [List.take_succ_cons,List.take_zero]
  simp only [qf (g:=154),B0,reduceIte,reduceEqDiff]
  refine zf (t:=((decide (v_1.Kind=4))&&v15)) (fun hg272=>?_) (fun hg272=>?_)
  ·simp only [hg272,qf (g:=154),zl,f264,qs,qb,Nat.reduceAdd,Nat.zero_add,Nat.add_zero,qr,qp,B0,reduceIte,reduceEqDiff]
   refine qj (v := .int .i64 v_1.K) rfl ?_
   simp only [hg272,qf (g:=154),zl,f263,qs,qb,Nat.reduceAdd,Nat.zero_add,Nat.add_zero,qw,qp,B0,reduceIte,reduceEqDiff]
   refine qj (v := .int .i64 v_0.Leader) ((zu (Sep.bk _ _ _ hS269)).trans rfl) ?_
   simp only [hg272,qf (g:=154),zl,q9,qb,qao,qt,zh,qa,qo,B0,reduceIte,reduceEqDiff]
   exact hN271 _ _ ⟨(Sep.m4 (Sep.m4 (Sep.m4 (Sep.m4 (Sep.m4 hS269))))),by rw [xd hg272]; simp only [B0,reduceIte,reduceEqDiff],f263,f264,f265,f266,f267⟩
  ·simp only [hg272,qf (g:=154),jo,qt,qb,zi,qa,qo,B0,reduceIte,reduceEqDiff]
   exact hN271 _ _ ⟨(Sep.m4 (Sep.m4 (Sep.m4 (Sep.m4 (Sep.m4 hS269))))),by rw [xe hg272]; simp only [B0,reduceIte,reduceEqDiff],f263,f264,f265,f266,f267⟩
 rintro fr273 h280 ⟨hS281,f274,f275,f276,f277,f278,f279⟩
 simp only [List.drop_succ_cons,List.drop_zero]
 simp only [f274,qc,B0,reduceIte,reduceEqDiff]
 refine ji 4 (fun fr' h'=>Sep h' lo ([Blk1 b1 [.int .i64 v_0.Epoch,.int .i64 v_0.Leader,pv0_2,.int .i64 v_0.High,pv0_4] 29]++([Blk1 b9 [.int .i64 0,.int .i64 0,.nil,
   .int .i64 0,.nil] 29]++(pc0_2++(c34++(c42++(S0))))))∧fr' 165 = .bool ((((decide (v_1.Kind=4))&&v15)&&(decide (v_1.K≠v_0.Leader)))&&(decide
   (v_1.N=0)))∧fr' 2 = .ptr b1 0∧fr' 3 = .ref [.int .i64 v_1.Kind,.int .i64 v_1.K,
   .int .i64 v_1.N] 0∧fr' 4 = .ptr b9 0∧fr' 6 = .bool v15∧fr' 7 = .bool ((decide ((0:Int)≤v_1.K))&&(decide (v_1.K<(List.length v_0.Replicas:Int)))))
   (fun Q282 hN283=>?_) ?_
 ·simp only [List.take_succ_cons,List.take_zero]
  simp only [qf (g:=161),B0,reduceIte,reduceEqDiff]
  refine zf (t:=(((decide (v_1.Kind=4))&&v15)&&(decide (v_1.K≠v_0.Leader)))) (fun hg284=>?_) (fun hg284=>?_)
  ·simp only [hg284,qf (g:=161),zl,f276,qs,qb,Nat.reduceAdd,Nat.zero_add,Nat.add_zero,qr,qp,B0,reduceIte,reduceEqDiff]
   refine qj (v := .int .i64 v_1.N) rfl ?_
   simp only [hg284,qf (g:=161),zl,q9,qb,yd,qt,zh,qa,qo,B0,reduceIte,reduceEqDiff]
   exact hN283 _ _ ⟨(Sep.m4 (Sep.m4 (Sep.m4 (Sep.m4 (Sep.m4 hS281))))),by rw [xd hg284]; simp only [B0,reduceIte,reduceEqDiff],f275,f276,f277,f278,f279⟩
  ·simp only [hg284,qf (g:=161),jo,qt,qb,zi,qa,qo,B0,reduceIte,reduceEqDiff]
   exact hN283 _ _ ⟨(Sep.m4 (Sep.m4 (Sep.m4 (Sep.m4 (Sep.m4 hS281))))),by rw [xe hg284]; simp only [B0,reduceIte,reduceEqDiff],f275,f276,f277,f278,f279⟩
 rintro fr285 h292 ⟨hS293,f286,f287,f288,f289,f290,f291⟩
 simp only [List.drop_succ_cons,List.drop_zero]
 simp only [f286,qc,qa,quh,zb,B0,reduceIte,reduceEqDiff]
 refine zd (t:=((((decide (v_1.Kind=4))&&v15)&&(decide (v_1.K≠v_0.Leader)))&&(decide (v_1.N=0)))) (fun hc294=>?_) (fun hc294=>?_)
 ·rw [iteT hc294] at hF31
  simp only [qrr,qe,qd,qc,qa,qt8,f287,qs,qb,Nat.reduceAdd,Nat.zero_add,Nat.add_zero,qw,qp,B0,reduceIte,
    reduceEqDiff]
  refine qj (v:=pv0_2) ((zu (Sep.bk _ _ _ hS293)).trans rfl) ?_
  simp only [jb,qb,SlF.plen ph0_2,qc,qa,B0,reduceIte,reduceEqDiff]
  obtain ⟨c295,hv296,hS297⟩:=SlG.cls0 (c:=c34) (os:=c42) hv37 rfl hx30 jk (Replica.RI (x:=x29) hv43) (Sep.m4 (Sep.m4 hS293))
  have hv298:=SlG.toN hv296
  obtain ⟨oc311,hX313,hk314⟩:=kq hF31
  simp only [qrm]
  refine qei (σ:=(List Int)) (fun i309 s357=>uq v_0 v_1 i309 s357) (fun s fr' h'=>∃ v306 c307,fr' 2 = .ptr b1 0∧fr' 3 = .ref [.int .i64 v_1.Kind,
    .int .i64 v_1.K,.int .i64 v_1.N] 0∧fr' 4 = .ptr b9 0∧fr' 10=v306∧fr' 167=pv0_2∧SlF cI 1 3 v306 s c307∧Sep h' lo ([Blk1 b1 [.int .i64 v_0.Epoch,
    .int .i64 v_0.Leader,pv0_2,.int .i64 v_0.High,pv0_4] 29]++([Blk1 b9 [.int .i64 0,.int .i64 0,.nil,.int .i64 0,
    .nil] 29]++(c307++(pc0_2++(c295++(S0))))))) hX313 ⟨.nil,[],f287,f288,f289,rfl,rfl,SlF.nil,
    ((Sep.m3 (Sep.m3 (Sep.m3 hS297))) : Sep _ lo ([Blk1 b1 [.int .i64 v_0.Epoch,.int .i64 v_0.Leader,pv0_2,.int .i64 v_0.High,pv0_4] 29]++([Blk1 b9 [.int .i64 0,
    .int .i64 0,.nil,.int .i64 0,.nil] 29]++(pc0_2++(c295++(S0))))))⟩ (by simp only [B0,reduceIte,reduceEqDiff]) (by simp only [B0,reduceIte,
    reduceEqDiff]) (fun _ _ _ h=>h) rfl rfl (fun _ _ _ _ h=>h) (fun _ _ _ _ h=>h) (fun _ _ _ _ h=>h) (by decide) ?_ ?_
  ·rintro i309 s304 fr323 h324 hx331 ⟨v306,c307,f326,f327,f328,f329,f330,hv308,hS325⟩ f332 f333 oc312 hF315 hr316 Q317 hN318 hB322 hK319 hR320 hE321
   unfold uq at hF315
   obtain ⟨x334,hx335,hF336⟩:=qi hF315
   simp only [qqx,qe,qd,f330,f332,j0,B0,reduceIte,reduceEqDiff]
   obtain ⟨b337,hb338⟩:=SlF.isrow ph0_2 (ur hx335)
   refine qj (SlF.ia ph0_2 hb338 hx335) ?_
   simp only [qp,B0,reduceIte,reduceEqDiff]
   refine qj (v := .int .i64 x334) ((SlF.ld (o:=0) ph0_2 (Sep.m3 hS325) hb338 hx335 (fun _=>rfl) (Nat.le_of_ble_eq_true rfl)).trans rfl) ?_
   simp only [qc,qa,qts,qe,qd,f327,qs,qb,Nat.reduceAdd,Nat.zero_add,Nat.add_zero,qr,qp,B0,reduceIte,reduceEqDiff]
   refine qj (v := .int .i64 v_1.K) rfl ?_
   simp only [q9,qb,qao,qa,quc,zb,B0,reduceIte,reduceEqDiff]
   refine zd (t:=(decide (x334≠v_1.K))) (fun hc339=>?_) (fun hc339=>?_)
   ·rw [iteT hc339] at hF336
    simp only [qs5,qd,f329,qc,yu,evp,B0,reduceIte,reduceEqDiff]
    refine ye (n:=1) (f:=cI) [x334] hS325 rfl rfl (fun v340 c341 h342 hv343 hS344=>?_)
    simp only [uc,B0,reduceIte,reduceEqDiff]
    obtain ⟨l346,hx347,hF348⟩:=qi hF336
    refine wq (f:=cI) hv308 (Sep.m3 hS344) hW (fun _=>rfl) (fun _=>rfl) (SlF.first hv343 hS344 (fun _=>rfl)) hx347 (fun v349 c350 h351 hv352 hS353=>?_)
    simp only [qc,qa,qo,B0,reduceIte,reduceEqDiff]
    have e355:=ql hF348
    exact hN318 _ _ _ e355.symm ⟨v349,c350,f326,f327,f328,rfl,f330,hv352,(Sep.m4 (Sep.m4 (Sep.m2 (Sep.m4 (Sep.m4 (Sep.dc (Sep.m1 hS353)))))))⟩ (f332) (f333)
   rw [iteF hc339] at hF336
   simp only [zk,qo,B0,reduceIte,reduceEqDiff]
   have e356:=ql hF336
   exact hN318 _ _ _ e356.symm ⟨v306,c307,f326,f327,f328,f329,f330,hv308,(Sep.m4 (Sep.m4 (Sep.m4 (Sep.m4 (Sep.m4 hS325)))))⟩ (f332) (f333)
  rintro s358 fr363 h364 rfl ⟨v360,c361,f366,f367,f368,f369,f370,hv362,hS365⟩
  dsimp only [jnO] at hk314
  unfold qgo at hk314
  simp only [qd,f369,qc,f366,qs,qb,Nat.reduceAdd,Nat.zero_add,Nat.add_zero,qw,zg,B0,reduceIte,reduceEqDiff]
  refine qy (us:=[v360]) (k5 (SlF.one hv362)) (cs':=[.int .i64 v_0.Epoch,.int .i64 v_0.Leader,v360,.int .i64 v_0.High,
    pv0_4]) hS365 hW rfl (qk (SlF.one hv362) zn) (Nat.le_of_ble_eq_true rfl) rfl (fun h371 hS372=>?_)
  simp only [qa,wb,qe,qd,f366,qp,B0,reduceIte,reduceEqDiff]
  refine qj (v := .agg [.int .i64 v_0.Epoch,.int .i64 v_0.Leader,v360,.int .i64 v_0.High,pv0_4]) ((zv (Sep.bk _ _ _ hS372)).trans rfl) ?_
  simp only [f368,zg,B0,reduceIte,reduceEqDiff]
  refine qy (us:=[.int .i64 v_0.Epoch,.int .i64 v_0.Leader,v360,.int .i64 v_0.High,pv0_4]) rfl (cs':=[.int .i64 v_0.Epoch,.int .i64 v_0.Leader,v360,
    .int .i64 v_0.High,pv0_4]) (Sep.m1 hS372) hW rfl (qk rfl (qk rfl (qk (SlF.one hv362) (qk rfl (qk (SlN.one hv298) zn)))))
    (Nat.le_of_ble_eq_true rfl) rfl (fun h373 hS374=>?_)
  simp only [qc,qa,q8,B0,reduceIte,reduceEqDiff]
  have he:=ql hk314
  subst he
  refine jy (qh (j6 (bb:=b9) (oo:=0) (v := .agg [.int .i64 v_0.Epoch,.int .i64 v_0.Leader,v360,.int .i64 v_0.High,
    pv0_4]) (f368) ((zv (Sep.bk _ _ _ hS374)).trans rfl)) (qh (yq (v := .bool true) (rfl)) qz)) ?_
  exact ⟨v360,c361,c295,by first | trivial | rfl,hv362,hv298,(Sep.m1 (Sep.m1 (Sep.dc (Sep.m1 (Sep.dc ((Sep.dc (hS374))))))))⟩
 rw [iteF hc294] at hF31
 simp only [qq6,qe,jh,f288,zq,qg,Nat.reduceAdd,Nat.zero_add,Nat.add_zero,qr,zm,B0,reduceIte,reduceEqDiff]
 refine qq (v := .int .i64 v_1.Kind) rfl ?_
 simp only [kh,qg,yd,zp,B0,reduceIte,reduceEqDiff]
 refine qak 2 (fun fr' h'=>Sep h' lo ([Blk1 b1 [.int .i64 v_0.Epoch,.int .i64 v_0.Leader,pv0_2,.int .i64 v_0.High,pv0_4] 29]++([Blk1 b9 [.int .i64 0,.int .i64 0,
   .nil,.int .i64 0,.nil] 29]++(pc0_2++(c34++(c42++(S0))))))∧fr' 190 = .bool ((decide (v_1.Kind=5))&&((decide ((0:Int)≤v_1.K))&&(decide (v_1.K <
   (List.length v_0.Replicas:Int)))))∧fr' 2 = .ptr b1 0∧fr' 3 = .ref [.int .i64 v_1.Kind,.int .i64 v_1.K,
   .int .i64 v_1.N] 0∧fr' 4 = .ptr b9 0∧fr' 6 = .bool v15) rfl (fun Q376 hN377=>?_) ?_
 ·simp only [List.take_succ_cons,List.take_zero]
  simp only [qn (g:=188),B0,reduceIte,reduceEqDiff]
  refine jg (t:=(decide (v_1.Kind=5))) (fun hg378=>?_) (fun hg378=>?_)
  ·simp only [hg378,qn (g:=188),zc,f291,zp,qg,z8,zh,qu,qo,B0,reduceIte,reduceEqDiff]
   exact hN377 _ _ ⟨(Sep.m4 (Sep.m4 (Sep.m4 (Sep.m4 (Sep.m4 hS293))))),by rw [xd hg378]; simp only [B0,reduceIte,reduceEqDiff],f287,f288,f289,f290⟩
  ·simp only [hg378,qn (g:=188),ky,z8,qg,zi,qu,qo,B0,reduceIte,reduceEqDiff]
   exact hN377 _ _ ⟨(Sep.m4 (Sep.m4 (Sep.m4 (Sep.m4 (Sep.m4 hS293))))),by rw [xe hg378]; simp only [B0,reduceIte,reduceEqDiff],f287,f288,f289,f290⟩
 rintro fr379 h385 ⟨hS386,f380,f381,f382,f383,f384⟩
 simp only [List.drop_succ_cons,List.drop_zero]
 simp only [f380,zp,qg,B0,reduceIte,reduceEqDiff]
 refine qak 3 (fun fr' h'=>Sep h' lo ([Blk1 b1 [.int .i64 v_0.Epoch,.int .i64 v_0.Leader,pv0_2,.int .i64 v_0.High,pv0_4] 29]++([Blk1 b9 [.int .i64 0,.int .i64 0,
   .nil,.int .i64 0,.nil] 29]++(pc0_2++(c34++(c42++(S0))))))∧fr' 194 = .bool (((decide (v_1.Kind=5))&&((decide ((0:Int)≤v_1.K))&&(decide (v_1.K <
   (List.length v_0.Replicas:Int)))))&&(!v15))∧fr' 2 = .ptr b1 0∧fr' 3 = .ref [.int .i64 v_1.Kind,.int .i64 v_1.K,
   .int .i64 v_1.N] 0∧fr' 4 = .ptr b9 0) rfl (fun Q387 hN388=>?_) ?_
 ·simp only [List.take_succ_cons,List.take_zero]
  simp only [qn (g:=191),B0,reduceIte,reduceEqDiff]
  refine jg (t:=((decide (v_1.Kind=5))&&((decide ((0:Int)≤v_1.K))&&(decide (v_1.K<(List.length v_0.Replicas:Int)))))) (fun hg389=>?_)
    (fun hg389=>?_)
  ·simp only [hg389,qn (g:=191),zc,f384,zp,qg,qer,kx,z8,zh,qu,qo,B0,reduceIte,reduceEqDiff]
   exact hN388 _ _ ⟨(Sep.m4 (Sep.m4 (Sep.m4 (Sep.m4 (Sep.m4 hS386))))),by rw [xd hg389]; simp only [B0,reduceIte,reduceEqDiff],f381,f382,f383⟩
  ·simp only [hg389,qn (g:=191),ky,z8,qg,zi,qu,qo,B0,reduceIte,reduceEqDiff]
   exact hN388 _ _ ⟨(Sep.m4 (Sep.m4 (Sep.m4 (Sep.m4 (Sep.m4 hS386))))),by rw [xe hg389]; simp only [B0,reduceIte,reduceEqDiff],f381,f382,f383⟩
 rintro fr390 h395 ⟨hS396,f391,f392,f393,f394⟩
 simp only [List.drop_succ_cons,List.drop_zero]
 simp only [f391,zp,qg,B0,reduceIte,reduceEqDiff]
 refine qak 4 (fun fr' h'=>Sep h' lo ([Blk1 b1 [.int .i64 v_0.Epoch,.int .i64 v_0.Leader,pv0_2,.int .i64 v_0.High,pv0_4] 29]++([Blk1 b9 [.int .i64 0,.int .i64 0,
   .nil,.int .i64 0,.nil] 29]++(pc0_2++(c34++(c42++(S0))))))∧fr' 199 = .bool ((((decide (v_1.Kind=5))&&((decide ((0:Int)≤v_1.K))&&(decide (v_1.K <
   (List.length v_0.Replicas:Int)))))&&(!v15))&&(decide (v_1.N=0)))∧fr' 2 = .ptr b1 0∧fr' 3 = .ref [.int .i64 v_1.Kind,.int .i64 v_1.K,
   .int .i64 v_1.N] 0∧fr' 4 = .ptr b9 0) rfl (fun Q397 hN398=>?_) ?_
 ·simp only [List.take_succ_cons,List.take_zero]
  simp only [qn (g:=195),B0,reduceIte,reduceEqDiff]
  refine jg (t:=(((decide (v_1.Kind=5))&&((decide ((0:Int)≤v_1.K))&&(decide (v_1.K<(List.length v_0.Replicas:Int)))))&&(!v15))) (fun hg399=>?_)
    (fun hg399=>?_)
  ·simp only [hg399,qn (g:=195),zc,f393,zq,qg,Nat.reduceAdd,Nat.zero_add,Nat.add_zero,qr,zm,B0,reduceIte,reduceEqDiff]
   refine qq (v := .int .i64 v_1.N) rfl ?_
   simp only [hg399,qn (g:=195),zc,kh,qg,yd,z8,zh,qu,qo,B0,reduceIte,reduceEqDiff]
   exact hN398 _ _ ⟨(Sep.m4 (Sep.m4 (Sep.m4 (Sep.m4 (Sep.m4 hS396))))),by rw [xd hg399]; simp only [B0,reduceIte,reduceEqDiff],f392,f393,f394⟩
  ·simp only [hg399,qn (g:=195),ky,z8,qg,zi,qu,qo,B0,reduceIte,reduceEqDiff]
   exact hN398 _ _ ⟨(Sep.m4 (Sep.m4 (Sep.m4 (Sep.m4 (Sep.m4 hS396))))),by rw [xe hg399]; simp only [B0,reduceIte,reduceEqDiff],f392,f393,f394⟩
 rintro fr400 h405 ⟨hS406,f401,f402,f403,f404⟩
 simp only [List.drop_succ_cons,List.drop_zero]
 simp only [f401,zp,qg,B0,reduceIte,reduceEqDiff]
 obtain ⟨v410,hx411,hF412⟩:=qi hF31
 refine qak 11 (fun fr' h'=>Sep h' lo ([Blk1 b1 [.int .i64 v_0.Epoch,.int .i64 v_0.Leader,pv0_2,.int .i64 v_0.High,pv0_4] 29]++([Blk1 b9 [.int .i64 0,.int .i64 0,
   .nil,.int .i64 0,.nil] 29]++(pc0_2++(c34++(c42++(S0))))))∧fr' 211 = .bool v410∧fr' 2 = .ptr b1 0∧fr' 3 = .ref [.int .i64 v_1.Kind,.int .i64 v_1.K,
   .int .i64 v_1.N] 0∧fr' 4 = .ptr b9 0) rfl (fun Q407 hN408=>?_) ?_
 ·simp only [List.take_succ_cons,List.take_zero]
  simp only [qn (g:=200),B0,reduceIte,reduceEqDiff]
  refine jg (t:=((((decide (v_1.Kind=5))&&((decide ((0:Int)≤v_1.K))&&(decide (v_1.K<(List.length v_0.Replicas:Int)))))&&(!v15))&&(decide
    (v_1.N=0)))) (fun hg409=>?_) (fun hg409=>?_)
  ·rw [iteT hg409] at hx411
   simp only [hg409,qn (g:=200),zc,f402,zq,qg,Nat.reduceAdd,Nat.zero_add,Nat.add_zero,qw,zm,B0,reduceIte,reduceEqDiff]
   refine qq (v:=pv0_4) ((zu (Sep.bk _ _ _ hS406)).trans rfl) ?_
   simp only [hg409,qn (g:=200),zc,f403,zq,qg,Nat.reduceAdd,Nat.zero_add,Nat.add_zero,qr,zm,B0,reduceIte,reduceEqDiff]
   refine qq (v := .int .i64 v_1.K) rfl ?_
   obtain ⟨x413,hx414,hF415⟩:=qi hx411
   simp only [hg409,qn (g:=200),zc,wo,B0,reduceIte,reduceEqDiff]
   refine qq (SlG.ia hv37 hx414) ?_
   obtain ⟨c416,hv417,hS418⟩:=SlG.cls0 (c:=c34) (os:=c42) hv37 rfl hx30 jk (Replica.RI (x:=x29) hv43) (Sep.m4 (Sep.m4 hS406))
   have hv419:=SlG.toN hv417
   obtain ⟨c420,cs421,os422,hv423,hR424,hS425⟩:=SlG.opn (SlN.toG hv419 hb33 Replica.RO.len) hx414 jk Replica.RO.len hS418
   obtain ⟨v427,c428,hv429,rfl,rfl⟩:=hR424
   have hS426:=Sep.no1 hS425
   simp only [hg409,qn (g:=200),zc,zq,qg,Nat.reduceAdd,Nat.zero_add,Nat.add_zero,qw,zm,B0,reduceIte,reduceEqDiff]
   refine qq (v := .int .i64 x413.Epoch) ((SlG.ld (o:=1) hv423 rfl hx414 hS426 (Nat.le_of_ble_eq_true rfl)).trans rfl) ?_
   simp only [hg409,qn (g:=200),zc,f402,zq,qg,Nat.reduceAdd,Nat.zero_add,Nat.add_zero,qw,zm,B0,reduceIte,reduceEqDiff]
   refine qq (v := .int .i64 v_0.Epoch) ((zu (Sep.bk _ _ _ (Sep.m2 hS426))).trans rfl) ?_
   simp only [hg409,qn (g:=200),zc,kh,qg,yd,z8,zh,qu,qo,B0,reduceIte,reduceEqDiff]
   have e431:=ql hF415
   exact hN408 _ _ ⟨(Sep.m4 (Sep.m4 (Sep.m4 (Sep.m4 (Sep.m4 hS406))))),by rw [←e431]; simp only [B0,reduceIte,reduceEqDiff],f402,f403,f404⟩
  ·rw [iteF hg409] at hx411
   simp only [hg409,qn (g:=200),ky,z8,qg,zi,qu,qo,B0,reduceIte,reduceEqDiff]
   have e432:=ql hx411
   exact hN408 _ _ ⟨(Sep.m4 (Sep.m4 (Sep.m4 (Sep.m4 (Sep.m4 hS406))))),by rw [←e432]; simp only [B0,reduceIte,reduceEqDiff],f402,f403,f404⟩
 rintro fr433 h438 ⟨hS439,f434,f435,f436,f437⟩
 simp only [List.drop_succ_cons,List.drop_zero]
 simp only [f434,zp,qg,B0,reduceIte,reduceEqDiff]
 obtain ⟨v443,hx444,hF445⟩:=qi hF412
 refine qak 11 (fun fr' h'=>Sep h' lo ([Blk1 b1 [.int .i64 v_0.Epoch,.int .i64 v_0.Leader,pv0_2,.int .i64 v_0.High,pv0_4] 29]++([Blk1 b9 [.int .i64 0,.int .i64 0,
   .nil,.int .i64 0,.nil] 29]++(pc0_2++(c34++(c42++(S0))))))∧fr' 223 = .bool v443∧fr' 2 = .ptr b1 0∧fr' 3 = .ref [.int .i64 v_1.Kind,.int .i64 v_1.K,
   .int .i64 v_1.N] 0∧fr' 4 = .ptr b9 0) rfl (fun Q440 hN441=>?_) ?_
 ·simp only [List.take_succ_cons,List.take_zero]
  simp only [qn (g:=212),B0,reduceIte,reduceEqDiff]
  refine jg (t:=v410) (fun hg442=>?_) (fun hg442=>?_)
  ·rw [iteT hg442] at hx444
   simp only [hg442,qn (g:=212),zc,f435,zq,qg,Nat.reduceAdd,Nat.zero_add,Nat.add_zero,qw,zm,B0,reduceIte,reduceEqDiff]
   refine qq (v:=pv0_4) ((zu (Sep.bk _ _ _ hS439)).trans rfl) ?_
   simp only [hg442,qn (g:=212),zc,f436,zq,qg,Nat.reduceAdd,Nat.zero_add,Nat.add_zero,qr,zm,B0,reduceIte,reduceEqDiff]
   refine qq (v := .int .i64 v_1.K) rfl ?_
   obtain ⟨x446,hx447,hF448⟩:=qi hx444
   simp only [hg442,qn (g:=212),zc,wo,B0,reduceIte,reduceEqDiff]
   refine qq (SlG.ia hv37 hx447) ?_
   obtain ⟨c449,hv450,hS451⟩:=SlG.cls0 (c:=c34) (os:=c42) hv37 rfl hx30 jk (Replica.RI (x:=x29) hv43) (Sep.m4 (Sep.m4 hS439))
   have hv452:=SlG.toN hv450
   obtain ⟨c453,cs454,os455,hv456,hR457,hS458⟩:=SlG.opn (SlN.toG hv452 hb33 Replica.RO.len) hx447 jk Replica.RO.len hS451
   obtain ⟨v460,c461,hv462,rfl,rfl⟩:=hR457
   have hS459:=Sep.no1 hS458
   simp only [hg442,qn (g:=212),zc,zq,qg,Nat.reduceAdd,Nat.zero_add,Nat.add_zero,qw,zm,B0,reduceIte,reduceEqDiff]
   refine qq (v := .int .i64 x446.Known) ((SlG.ld (o:=2) hv456 rfl hx447 hS459 (Nat.le_of_ble_eq_true rfl)).trans rfl) ?_
   simp only [hg442,qn (g:=212),zc,f435,zq,qg,Nat.reduceAdd,Nat.zero_add,Nat.add_zero,qw,zm,B0,reduceIte,reduceEqDiff]
   refine qq (v := .int .i64 v_0.High) ((zu (Sep.bk _ _ _ (Sep.m2 hS459))).trans rfl) ?_
   simp only [hg442,qn (g:=212),zc,kh,qg,qht,z8,zh,qu,qo,B0,reduceIte,reduceEqDiff]
   have e464:=ql hF448
   exact hN441 _ _ ⟨(Sep.m4 (Sep.m4 (Sep.m4 (Sep.m4 (Sep.m4 hS439))))),by rw [←e464]; simp only [B0,reduceIte,reduceEqDiff],f435,f436,f437⟩
  ·rw [iteF hg442] at hx444
   simp only [hg442,qn (g:=212),ky,z8,qg,zi,qu,qo,B0,reduceIte,reduceEqDiff]
   have e465:=ql hx444
   exact hN441 _ _ ⟨(Sep.m4 (Sep.m4 (Sep.m4 (Sep.m4 (Sep.m4 hS439))))),by rw [←e465]; simp only [B0,reduceIte,reduceEqDiff],f435,f436,f437⟩
 rintro fr466 h471 ⟨hS472,f467,f468,f469,f470⟩
 simp only [List.drop_succ_cons,List.drop_zero]
 simp only [f467,zp,qg,qu,qry,zb,B0,reduceIte,reduceEqDiff]
 refine zd (t:=v443) (fun hc473=>?_) (fun hc473=>?_)
 ·rw [iteT hc473] at hF445
  simp only [qsu,qd,f468,qs,qb,Nat.reduceAdd,Nat.zero_add,Nat.add_zero,qw,qp,B0,reduceIte,reduceEqDiff]
  refine qj (v:=pv0_2) ((zu (Sep.bk _ _ _ hS472)).trans rfl) ?_
  simp only [f469,qs,qb,Nat.reduceAdd,Nat.zero_add,Nat.add_zero,qr,qp,B0,reduceIte,reduceEqDiff]
  refine qj (v := .int .i64 v_1.K) rfl ?_
  obtain ⟨v474,hx475,hF476⟩:=qi hF445
  simp only [za,B0,reduceIte,reduceEqDiff]
  refine ku rfl (qh3 hW k pv0_2 pc0_2 v_0.InStep ph0_2 v_1.K v474 hx475 (Sep.m2 hS472)) ?_
  rintro v477 h481 ⟨_,c478,rfl,hv479,hS482⟩
  simp only [f468,qs,qb,Nat.reduceAdd,Nat.zero_add,Nat.add_zero,qw,zg,B0,reduceIte,reduceEqDiff]
  refine qy (us:=[v477]) (k5 (SlF.one hv479)) (cs':=[.int .i64 v_0.Epoch,.int .i64 v_0.Leader,v477,.int .i64 v_0.High,
    pv0_4]) (Sep.m1 hS482) hW rfl (qk (SlF.one hv479) zn) (Nat.le_of_ble_eq_true rfl) rfl (fun h483 hS484=>?_)
  simp only [qa,wb,qe,qd,f468,qp,B0,reduceIte,reduceEqDiff]
  refine qj (v := .agg [.int .i64 v_0.Epoch,.int .i64 v_0.Leader,v477,.int .i64 v_0.High,pv0_4]) ((zv (Sep.bk _ _ _ hS484)).trans rfl) ?_
  simp only [f470,zg,B0,reduceIte,reduceEqDiff]
  refine qy (us:=[.int .i64 v_0.Epoch,.int .i64 v_0.Leader,v477,.int .i64 v_0.High,pv0_4]) rfl (cs':=[.int .i64 v_0.Epoch,.int .i64 v_0.Leader,v477,
    .int .i64 v_0.High,pv0_4]) (Sep.m2 hS484) hW rfl (qk rfl (qk rfl (qk (SlF.one hv479) (qk rfl (qk (SlG.one hv37) zn))))) (Nat.le_of_ble_eq_true rfl) rfl
    (fun h485 hS486=>?_)
  simp only [qc,qa,q8,B0,reduceIte,reduceEqDiff]
  obtain ⟨c487,hv488,hS489⟩:=SlG.cls0 (c:=c34) (os:=c42) hv37 rfl hx30 jk (Replica.RI (x:=x29) hv43) (Sep.m4 (Sep.m4 hS486))
  have hv490:=SlG.toN hv488
  have he:=ql hF476
  subst he
  refine jy (qh (j6 (bb:=b9) (oo:=0) (v := .agg [.int .i64 v_0.Epoch,.int .i64 v_0.Leader,v477,.int .i64 v_0.High,
    pv0_4]) (f470) ((zv (Sep.bk _ _ _ (Sep.m1 hS489))).trans rfl)) (qh (yq (v := .bool true) (rfl)) qz)) ?_
  exact ⟨v477,c478,c487,by first | trivial | rfl,hv479,hv490,(Sep.m1 (Sep.dc (Sep.m1 (Sep.dc (Sep.m1 hS489)))))⟩
 rw [iteF hc473] at hF445
 simp only [qtr,qe,jh,f469,zq,qg,Nat.reduceAdd,Nat.zero_add,Nat.add_zero,qr,zm,B0,reduceIte,reduceEqDiff]
 refine qq (v := .int .i64 v_1.Kind) rfl ?_
 simp only [kh,qg,yd,zp,B0,reduceIte,reduceEqDiff]
 refine qak 4 (fun fr' h'=>Sep h' lo ([Blk1 b1 [.int .i64 v_0.Epoch,.int .i64 v_0.Leader,pv0_2,.int .i64 v_0.High,pv0_4] 29]++([Blk1 b9 [.int .i64 0,.int .i64 0,
   .nil,.int .i64 0,.nil] 29]++(pc0_2++(c34++(c42++(S0))))))∧fr' 238 = .bool ((decide (v_1.Kind=6))&&(decide
   (v_1.K=0)))∧fr' 2 = .ptr b1 0∧fr' 3 = .ref [.int .i64 v_1.Kind,.int .i64 v_1.K,.int .i64 v_1.N] 0∧fr' 4 = .ptr b9 0) rfl (fun Q491 hN492=>?_) ?_
 ·simp only [List.take_succ_cons,List.take_zero]
  simp only [qn (g:=234),B0,reduceIte,reduceEqDiff]
  refine jg (t:=(decide (v_1.Kind=6))) (fun hg493=>?_) (fun hg493=>?_)
  ·simp only [hg493,qn (g:=234),zc,f469,zq,qg,Nat.reduceAdd,Nat.zero_add,Nat.add_zero,qr,zm,B0,reduceIte,reduceEqDiff]
   refine qq (v := .int .i64 v_1.K) rfl ?_
   simp only [hg493,qn (g:=234),zc,kh,qg,yd,z8,zh,qu,qo,B0,reduceIte,reduceEqDiff]
   exact hN492 _ _ ⟨(Sep.m4 (Sep.m4 (Sep.m4 (Sep.m4 (Sep.m4 hS472))))),by rw [xd hg493]; simp only [B0,reduceIte,reduceEqDiff],f468,f469,f470⟩
  ·simp only [hg493,qn (g:=234),ky,z8,qg,zi,qu,qo,B0,reduceIte,reduceEqDiff]
   exact hN492 _ _ ⟨(Sep.m4 (Sep.m4 (Sep.m4 (Sep.m4 (Sep.m4 hS472))))),by rw [xe hg493]; simp only [B0,reduceIte,reduceEqDiff],f468,f469,f470⟩
 rintro fr494 h499 ⟨hS500,f495,f496,f497,f498⟩
 simp only [List.drop_succ_cons,List.drop_zero]
 simp only [f495,zp,qg,B0,reduceIte,reduceEqDiff]
 refine qak 4 (fun fr' h'=>Sep h' lo ([Blk1 b1 [.int .i64 v_0.Epoch,.int .i64 v_0.Leader,pv0_2,.int .i64 v_0.High,pv0_4] 29]++([Blk1 b9 [.int .i64 0,.int .i64 0,
   .nil,.int .i64 0,.nil] 29]++(pc0_2++(c34++(c42++(S0))))))∧fr' 243 = .bool (((decide (v_1.Kind=6))&&(decide (v_1.K=0)))&&(decide
   (v_1.N=0)))∧fr' 2 = .ptr b1 0∧fr' 4 = .ptr b9 0) rfl (fun Q501 hN502=>?_) ?_
 ·simp only [List.take_succ_cons,List.take_zero]
  simp only [qn (g:=239),B0,reduceIte,reduceEqDiff]
  refine jg (t:=((decide (v_1.Kind=6))&&(decide (v_1.K=0)))) (fun hg503=>?_) (fun hg503=>?_)
  ·simp only [hg503,qn (g:=239),zc,f497,zq,qg,Nat.reduceAdd,Nat.zero_add,Nat.add_zero,qr,zm,B0,reduceIte,reduceEqDiff]
   refine qq (v := .int .i64 v_1.N) rfl ?_
   simp only [hg503,qn (g:=239),zc,kh,qg,yd,z8,zh,qu,qo,B0,reduceIte,reduceEqDiff]
   exact hN502 _ _ ⟨(Sep.m4 (Sep.m4 (Sep.m4 (Sep.m4 (Sep.m4 hS500))))),by rw [xd hg503]; simp only [B0,reduceIte,reduceEqDiff],f496,f498⟩
  ·simp only [hg503,qn (g:=239),ky,z8,qg,zi,qu,qo,B0,reduceIte,reduceEqDiff]
   exact hN502 _ _ ⟨(Sep.m4 (Sep.m4 (Sep.m4 (Sep.m4 (Sep.m4 hS500))))),by rw [xe hg503]; simp only [B0,reduceIte,reduceEqDiff],f496,f498⟩
 rintro fr504 h508 ⟨hS509,f505,f506,f507⟩
 simp only [List.drop_succ_cons,List.drop_zero]
 simp only [f505,zp,qg,B0,reduceIte,reduceEqDiff]
 simp only [qn (g:=244),B0,reduceIte,reduceEqDiff]
 refine jg (t:=(((decide (v_1.Kind=6))&&(decide (v_1.K=0)))&&(decide (v_1.N=0)))) (fun hg510=>?_) (fun hg510=>?_)
 ·rw [iteT hg510] at hF445
  simp only [hg510,qn (g:=244),zc,f506,zm,B0,reduceIte,reduceEqDiff]
  refine qq (v := .agg [.int .i64 v_0.Epoch,.int .i64 v_0.Leader,pv0_2,.int .i64 v_0.High,pv0_4]) ((zv (Sep.bk _ _ _ hS509)).trans rfl) ?_
  obtain ⟨c511,hv512,hS513⟩:=SlG.cls0 (c:=c34) (os:=c42) hv37 rfl hx30 jk (Replica.RI (x:=x29) hv43) (Sep.m4 (Sep.m4 hS509))
  have hv514:=SlG.toN hv512
  obtain ⟨v515,hx516,hF517⟩:=qi hF445
  simp only [hg510,qn (g:=244),zc,yy,B0,reduceIte,reduceEqDiff]
  refine qd6 rfl (qh (jd (qh qm (qh qm (qh (SlF.snap ph0_2 (Sep.m3 hS513) rfl (fun _=>rfl) (fun _=>rfl)) (qh qm (qh
    (SlN.snap hv514 _ hS513 rfl Replica.RO) qz)))))) qz) (qd5 (fun b hb=>decide_eq_true hb) v_0 v515 hx516) ?_
  simp only [hg510,qn (g:=244),zc,f506,uu,qg,Nat.reduceAdd,Nat.zero_add,Nat.add_zero,qw,wv,B0,reduceIte,reduceEqDiff]
  refine qim (Sep.ltk hS472) ?_
  refine qq (v := .int .i64 v_0.High) ((zu (Sep.bk _ _ _ (Sep.m1 hS513))).trans rfl) ?_
  simp only [hg510,qn (g:=244),zc,kh,qg,qcv,z8,zh,zp,qu,qnj,zb,B0,reduceIte,reduceEqDiff]
  refine zd (t:=(decide (v_0.High<v515))) (fun hc518=>?_) (fun hc518=>?_)
  ·rw [iteT hc518] at hF517
   simp only [qqk,qd,f506,qp,B0,reduceIte,reduceEqDiff]
   refine qj (v := .agg [.int .i64 v_0.Epoch,.int .i64 v_0.Leader,pv0_2,.int .i64 v_0.High,pv0_4]) ((zv (Sep.bk _ _ _ (Sep.m1 hS513))).trans rfl) ?_
   obtain ⟨v519,hx520,hF521⟩:=qi hF517
   simp only [za,B0,reduceIte,reduceEqDiff]
   refine js rfl (qh (jd (qh qm (qh qm (qh (SlF.snap ph0_2 (Sep.m3 hS513) rfl (fun _=>rfl) (fun _=>rfl)) (qh qm (qh
     (SlN.snap hv514 _ hS513 rfl Replica.RO) qz)))))) qz) (qd5 (fun b hb=>decide_eq_true hb) v_0 v519 hx520) ?_
   simp only [f506,qs,qb,Nat.reduceAdd,Nat.zero_add,Nat.add_zero,qw,zg,B0,reduceIte,reduceEqDiff]
   refine qy (us:=[.int .i64 v519]) rfl (cs':=[.int .i64 v_0.Epoch,.int .i64 v_0.Leader,pv0_2,.int .i64 v519,
     pv0_4]) (Sep.m1 hS513) hW rfl rfl (Nat.le_of_ble_eq_true rfl) rfl (fun h522 hS523=>?_)
   simp only [qa,wb,qe,qd,f506,qp,B0,reduceIte,reduceEqDiff]
   refine qj (v := .agg [.int .i64 v_0.Epoch,.int .i64 v_0.Leader,pv0_2,.int .i64 v519,pv0_4]) ((zv (Sep.bk _ _ _ hS523)).trans rfl) ?_
   simp only [f507,zg,B0,reduceIte,reduceEqDiff]
   refine qy (us:=[.int .i64 v_0.Epoch,.int .i64 v_0.Leader,pv0_2,.int .i64 v519,pv0_4]) rfl (cs':=[.int .i64 v_0.Epoch,.int .i64 v_0.Leader,pv0_2,
     .int .i64 v519,pv0_4]) (Sep.m2 hS523) hW rfl (qk rfl (qk rfl (qk (SlF.one ph0_2) (qk rfl (qk (SlN.one hv514) zn))))) (Nat.le_of_ble_eq_true rfl) rfl
     (fun h524 hS525=>?_)
   simp only [qc,qa,q8,B0,reduceIte,reduceEqDiff]
   have he:=ql hF521
   subst he
   refine jy (qh (j6 (bb:=b9) (oo:=0) (v := .agg [.int .i64 v_0.Epoch,.int .i64 v_0.Leader,pv0_2,.int .i64 v519,
     pv0_4]) (f507) ((zv (Sep.bk _ _ _ hS525)).trans rfl)) (qh (yq (v := .bool true) (rfl)) qz)) ?_
   exact ⟨pv0_2,pc0_2,c511,by first | trivial | rfl,ph0_2,hv514,(Sep.m1 (Sep.dc ((Sep.dc (hS525)))))⟩
  rw [iteF hc518] at hF517
  simp only [qe,qd,f506,qp,B0,reduceIte,reduceEqDiff]
  refine qj (v := .agg [.int .i64 v_0.Epoch,.int .i64 v_0.Leader,pv0_2,.int .i64 v_0.High,pv0_4]) ((zv (Sep.bk _ _ _ (Sep.m1 hS513))).trans rfl) ?_
  simp only [f507,zg,B0,reduceIte,reduceEqDiff]
  refine qy (us:=[.int .i64 v_0.Epoch,.int .i64 v_0.Leader,pv0_2,.int .i64 v_0.High,pv0_4]) rfl (cs':=[.int .i64 v_0.Epoch,.int .i64 v_0.Leader,pv0_2,
    .int .i64 v_0.High,pv0_4]) (Sep.m2 hS513) hW rfl (qk rfl (qk rfl (qk (SlF.one ph0_2) (qk rfl (qk (SlN.one hv514) zn)))))
    (Nat.le_of_ble_eq_true rfl) rfl (fun h526 hS527=>?_)
  simp only [qc,qa,q8,B0,reduceIte,reduceEqDiff]
  have he:=ql hF517
  subst he
  refine jy (qh (j6 (bb:=b9) (oo:=0) (v := .agg [.int .i64 v_0.Epoch,.int .i64 v_0.Leader,pv0_2,.int .i64 v_0.High,
    pv0_4]) (f507) ((zv (Sep.bk _ _ _ hS527)).trans rfl)) (qh (yq (v := .bool false) (rfl)) qz)) ?_
  exact ⟨pv0_2,pc0_2,c511,by first | trivial | rfl,ph0_2,hv514,(Sep.m1 (Sep.dc (Sep.m1 (Sep.dc (hS527)))))⟩
 rw [iteF hg510] at hF445
 simp only [hg510,qn (g:=244),ky,z8,qg,zi,zp,qu,qnj,zb,qa4,qe,qd,f506,qp,B0,
   reduceIte,reduceEqDiff]
 refine qj (v := .agg [.int .i64 v_0.Epoch,.int .i64 v_0.Leader,pv0_2,.int .i64 v_0.High,pv0_4]) ((zv (Sep.bk _ _ _ hS509)).trans rfl) ?_
 simp only [f507,zg,B0,reduceIte,reduceEqDiff]
 refine qy (us:=[.int .i64 v_0.Epoch,.int .i64 v_0.Leader,pv0_2,.int .i64 v_0.High,pv0_4]) rfl (cs':=[.int .i64 v_0.Epoch,.int .i64 v_0.Leader,pv0_2,
   .int .i64 v_0.High,pv0_4]) (Sep.m1 hS509) hW rfl (qk rfl (qk rfl (qk (SlF.one ph0_2) (qk rfl (qk (SlG.one hv37) zn))))) (Nat.le_of_ble_eq_true rfl) rfl
   (fun h528 hS529=>?_)
 simp only [qc,qa,q8,B0,reduceIte,reduceEqDiff]
 obtain ⟨c530,hv531,hS532⟩:=SlG.cls0 (c:=c34) (os:=c42) hv37 rfl hx30 jk (Replica.RI (x:=x29) hv43) (Sep.m4 (Sep.m4 hS529))
 have hv533:=SlG.toN hv531
 have he:=ql hF445
 subst he
 refine jy (qh (j6 (bb:=b9) (oo:=0) (v := .agg [.int .i64 v_0.Epoch,.int .i64 v_0.Leader,pv0_2,.int .i64 v_0.High,
   pv0_4]) (f507) ((zv (Sep.bk _ _ _ (Sep.m1 hS532))).trans rfl)) (qh (yq (v := .bool false) (rfl)) qz)) ?_
 exact ⟨pv0_2,pc0_2,c530,by first | trivial | rfl,ph0_2,hv533,(Sep.m1 (Sep.dc (Sep.m1 (Sep.dc (Sep.m1 hS532)))))⟩
end Go.Proofs.Ytefgfcalgjmhjaa.X
