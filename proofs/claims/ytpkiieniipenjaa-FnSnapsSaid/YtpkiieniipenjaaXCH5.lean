/- The functions' code comes to what the plain functions say (5). -/
import Derived.Test.YtpkiieniipenjaaXCH4
set_option linter.unusedVariables false
set_option linter.unusedSimpArgs false
set_option maxRecDepth 100000
namespace Go.Proofs.Ytpkiieniipenjaa.X
open Go
open Nat (reduceEqDiff)
theorem qio {W:Nat→Bool}{h:Heap}{lo:Nat→Prop}{S0:List Obj} (hW:∀ b,
  lo b→W b=true) (v_0:Snap) (pv0_0:XV) (pc0_0:List Obj) (ph0_0:SlF cI 1 3 pv0_0 v_0.Amounts pc0_0) (pv0_1:XV) (pc0_1:List Obj)
  (ph0_1:SlN Chan.R 3 74 pv0_1 v_0.Chans pc0_1) (pv0_2:XV) (pc0_2:List Obj) (ph0_2:SlN Picture.R 4 76 pv0_2 v_0.Pictures pc0_2) (v_1:SnapStep) (r:Snap × Bool)
  (hF:yx v_0 v_1=some r) (hS:Sep h lo (pc0_0++(pc0_1++(pc0_2++(S0))))) : Ret E W 42 [.agg [pv0_0,pv0_1,pv0_2,.int .i64 v_0.Sent,.int .i64 v_0.Total],
  .agg [.int .i64 v_1.Kind,.int .i64 v_1.K,.int .i64 v_1.N]] h (fun v h'=>∃ rc0_0 rc0_1 rc0_2,v = .tup [.agg [pv0_0,pv0_1,pv0_2,.int .i64 r.1.Sent,.int .i64 r.1.Total],
  .bool r.2]∧SlF cI 1 3 pv0_0 r.1.Amounts rc0_0∧SlN Chan.R 3 74 pv0_1 r.1.Chans rc0_1∧SlN Picture.R 4 76 pv0_2 r.1.Pictures rc0_2∧Sep h' lo (rc0_0++(rc0_1 ++
  (rc0_2++(S0))))):=by
 refine Ret.of (fn:=x42) rfl (Run.of ?_)
 unfold yx at hF
 have zf0:zh [.agg [pv0_0,pv0_1,pv0_2,.int .i64 v_0.Sent,.int .i64 v_0.Total],.agg [.int .i64 v_1.Kind,.int .i64 v_1.K,.int .i64 v_1.N]] 0 = .agg [pv0_0,pv0_1,
   pv0_2,.int .i64 v_0.Sent,.int .i64 v_0.Total]:=rfl
 have zf1:zh [.agg [pv0_0,pv0_1,pv0_2,.int .i64 v_0.Sent,.int .i64 v_0.Total],.agg [.int .i64 v_1.Kind,.int .i64 v_1.K,.int .i64 v_1.N]] 1 = .agg [.int .i64 v_1.Kind,
   .int .i64 v_1.K,.int .i64 v_1.N]:=rfl
 generalize zh [.agg [pv0_0,pv0_1,pv0_2,.int .i64 v_0.Sent,.int .i64 v_0.Total],.agg [.int .i64 v_1.Kind,.int .i64 v_1.K,.int .i64 v_1.N]]=fr0 at zf0 zf1 ⊢
 simp only [x42,qd,qc,kh,zf0,B0,reduceIte,reduceEqDiff]
 refine jt (cs:=[pv0_0,pv0_1,pv0_2,.int .i64 v_0.Sent,
   .int .i64 v_0.Total]) hS rfl rfl (qi (SlF.one ph0_0) (qi (SlN.one ph0_1) (qi (SlN.one ph0_2) (qi rfl (qi rfl zk))))) (fun b1 h2 hS3=>?_)
 simp only [kh,zf1,B0,reduceIte,reduceEqDiff]
 refine jt (cs:=[.int .i64 v_1.Kind,.int .i64 v_1.K,.int .i64 v_1.N]) hS3 rfl rfl rfl (fun b5 h6 hS7=>?_)
 simp only [jb,B0,reduceIte,reduceEqDiff]
 refine zv hS7 (fun b9 h10 hS11=>?_)
 simp only [qe,qa,B0,reduceIte,reduceEqDiff]
 refine zw (Sep.m1 hS11) hW (by simp only [B0,reduceIte,reduceEqDiff]) (fun h13 hS14=>?_)
 simp only [zo,qq3,qd,qc,qt,qb,Nat.reduceAdd,Nat.zero_add,Nat.add_zero,qr,qp,B0,reduceIte,reduceEqDiff]
 refine qh (v := .int .i64 v_1.Kind) rfl ?_
 simp only [zf,qb,wi,qa,q4m,zc,B0,reduceIte,reduceEqDiff]
 refine zb (t:=(decide (v_1.Kind=3))) (fun hc15=>?_) (fun hc15=>?_)
 ·rw [iteT hc15] at hF
  simp only [q0p,qd,qc,qt,qb,Nat.reduceAdd,Nat.zero_add,Nat.add_zero,qr,qp,B0,reduceIte,reduceEqDiff]
  refine qh (v := .int .i64 v_1.N) rfl ?_
  simp only [zf,qb,ws,qe,B0,reduceIte,reduceEqDiff]
  refine j0 4 (fun fr' h'=>Sep h' lo ([Blk1 b1 [pv0_0,pv0_1,pv0_2,.int .i64 v_0.Sent,.int .i64 v_0.Total] 30]++([Blk1 b9 [.nil,.nil,.nil,.int .i64 0,
    .int .i64 0] 30]++(pc0_0++(pc0_1++(pc0_2++(S0))))))∧fr' 17 = .bool ((decide (v_1.N≠0))||(decide
    (v_1.K<0)))∧fr' 2 = .ptr b1 0∧fr' 3 = .ref [.int .i64 v_1.Kind,.int .i64 v_1.K,.int .i64 v_1.N] 0∧fr' 4 = .ptr b9 0) (fun Q16 hN17=>?_) ?_
  ·simp only [List.take_succ_cons,List.take_zero]
   simp only [ql (g:=13),B0,reduceIte,reduceEqDiff]
   refine zn (t:=(decide (v_1.N≠0))) (fun hg18=>?_) (fun hg18=>?_)
   ·simp only [hg18,ql (g:=13),jm,za,qb,zp,qa,qo,B0,reduceIte,reduceEqDiff]
    exact hN17 _ _ ⟨(Sep.m4 (Sep.m3 (Sep.m4 (Sep.m4 (Sep.m4 hS14))))),by rw [orT hg18]; simp only [B0,reduceIte,reduceEqDiff],rfl,rfl,rfl⟩
   ·simp only [hg18,ql (g:=13),qv,qt,qb,Nat.reduceAdd,Nat.zero_add,Nat.add_zero,qr,qp,B0,reduceIte,reduceEqDiff]
    refine qh (v := .int .i64 v_1.K) rfl ?_
    simp only [hg18,ql (g:=13),qv,zf,qb,qgr,za,zq,qa,qo,B0,reduceIte,reduceEqDiff]
    exact hN17 _ _ ⟨(Sep.m4 (Sep.m3 (Sep.m4 (Sep.m4 (Sep.m4 hS14))))),by rw [orF hg18]; simp only [B0,reduceIte,reduceEqDiff],rfl,rfl,rfl⟩
  rintro fr19 h24 ⟨hS25,f20,f21,f22,f23⟩
  simp only [List.drop_succ_cons,List.drop_zero]
  simp only [f20,qe,B0,reduceIte,reduceEqDiff]
  refine j0 7 (fun fr' h'=>Sep h' lo ([Blk1 b1 [pv0_0,pv0_1,pv0_2,.int .i64 v_0.Sent,.int .i64 v_0.Total] 30]++([Blk1 b9 [.nil,.nil,.nil,.int .i64 0,
    .int .i64 0] 30]++(pc0_0++(pc0_1++(pc0_2++(S0))))))∧fr' 25 = .bool (((decide (v_1.N≠0))||(decide (v_1.K<0)))||(decide
    ((List.length v_0.Amounts:Int)≤v_1.K)))∧fr' 2 = .ptr b1 0∧fr' 3 = .ref [.int .i64 v_1.Kind,.int .i64 v_1.K,
    .int .i64 v_1.N] 0∧fr' 4 = .ptr b9 0) (fun Q26 hN27=>?_) ?_
  ·simp only [List.take_succ_cons,List.take_zero]
   simp only [ql (g:=18),B0,reduceIte,reduceEqDiff]
   refine zn (t:=((decide (v_1.N≠0))||(decide (v_1.K<0)))) (fun hg28=>?_) (fun hg28=>?_)
   ·simp only [hg28,ql (g:=18),jm,za,qb,zp,qa,qo,B0,reduceIte,reduceEqDiff]
    exact hN27 _ _ ⟨(Sep.m4 (Sep.m4 (Sep.m4 (Sep.m4 (Sep.m4 hS25))))),by rw [orT hg28]; simp only [B0,reduceIte,reduceEqDiff],f21,f22,f23⟩
   ·simp only [hg28,ql (g:=18),qv,f22,qt,qb,Nat.reduceAdd,Nat.zero_add,Nat.add_zero,qr,qp,B0,reduceIte,reduceEqDiff]
    refine qh (v := .int .i64 v_1.K) rfl ?_
    simp only [hg28,ql (g:=18),qv,f21,qt,qb,Nat.reduceAdd,Nat.zero_add,Nat.add_zero,qu,qp,B0,reduceIte,reduceEqDiff]
    refine qh (v:=pv0_0) ((jj (Sep.bk _ _ _ hS25)).trans rfl) ?_
    simp only [hg28,ql (g:=18),qv,z6,qb,SlF.plen ph0_0,zf,qja,za,zq,qa,qo,B0,reduceIte,reduceEqDiff]
    exact hN27 _ _ ⟨(Sep.m4 (Sep.m4 (Sep.m4 (Sep.m4 (Sep.m4 hS25))))),by rw [orF hg28]; simp only [B0,reduceIte,reduceEqDiff],f21,f22,f23⟩
  rintro fr29 h34 ⟨hS35,f30,f31,f32,f33⟩
  simp only [List.drop_succ_cons,List.drop_zero]
  simp only [f30,qe,B0,reduceIte,reduceEqDiff]
  obtain ⟨v39,hx40,hF41⟩:=qg hF
  refine j0 8 (fun fr' h'=>Sep h' lo ([Blk1 b1 [pv0_0,pv0_1,pv0_2,.int .i64 v_0.Sent,.int .i64 v_0.Total] 30]++([Blk1 b9 [.nil,.nil,.nil,.int .i64 0,
    .int .i64 0] 30]++(pc0_0++(pc0_1++(pc0_2++(S0))))))∧fr' 34 = .bool v39∧fr' 2 = .ptr b1 0∧fr' 3 = .ref [.int .i64 v_1.Kind,.int .i64 v_1.K,
    .int .i64 v_1.N] 0∧fr' 4 = .ptr b9 0) (fun Q36 hN37=>?_) ?_
  ·simp only [List.take_succ_cons,List.take_zero]
   simp only [ql (g:=26),B0,reduceIte,reduceEqDiff]
   refine zn (t:=(((decide (v_1.N≠0))||(decide (v_1.K<0)))||(decide ((List.length v_0.Amounts:Int)≤v_1.K)))) (fun hg38=>?_) (fun hg38=>?_)
   ·rw [iteT hg38] at hx40
    simp only [hg38,ql (g:=26),jm,za,qb,zp,qa,qo,B0,reduceIte,reduceEqDiff]
    have e42:=qk hx40
    exact hN37 _ _ ⟨(Sep.m4 (Sep.m4 (Sep.m4 (Sep.m4 (Sep.m4 hS35))))),by rw [←e42]; simp only [B0,reduceIte,reduceEqDiff],f31,f32,f33⟩
   ·rw [iteF hg38] at hx40
    simp only [hg38,ql (g:=26),qv,f31,qt,qb,Nat.reduceAdd,Nat.zero_add,Nat.add_zero,qu,qp,B0,reduceIte,reduceEqDiff]
    refine qh (v:=pv0_2) ((jj (Sep.bk _ _ _ hS35)).trans rfl) ?_
    simp only [hg38,ql (g:=26),qv,f32,qt,qb,Nat.reduceAdd,Nat.zero_add,Nat.add_zero,qr,qp,B0,reduceIte,reduceEqDiff]
    refine qh (v := .int .i64 v_1.K) rfl ?_
    obtain ⟨x43,hx44,hF45⟩:=qg hx40
    simp only [hg38,ql (g:=26),qv,jg,B0,reduceIte,reduceEqDiff]
    obtain ⟨b46,hb47⟩:=SlN.isrow ph0_2 (jq hx44)
    refine qh (SlN.ia ph0_2 hb47 hx44) ?_
    obtain ⟨c48,cs49,os50,hv51,hR52,hS53⟩:=SlG.opn (SlN.toG ph0_2 hb47 Picture.RO.len) hx44 z7 Picture.RO.len (Sep.m4 hS35)
    obtain ⟨v55,c56,v59,c60,hv57,hv61,rfl,rfl⟩:=hR52
    have hS54:=Sep.no2 hS53
    simp only [hg38,ql (g:=26),qv,qt,qb,Nat.reduceAdd,Nat.zero_add,Nat.add_zero,qu,qp,B0,reduceIte,reduceEqDiff]
    refine qh (v := .bool x43.Taken) ((SlG.ld (o:=0) hv51 rfl hx44 hS54 (Nat.le_of_ble_eq_true rfl)).trans rfl) ?_
    simp only [hg38,za,qb,zq,qa,qo,B0,reduceIte,reduceEqDiff]
    have e63:=qk hF45
    exact hN37 _ _ ⟨(Sep.m4 (Sep.m4 (Sep.m4 (Sep.m4 (Sep.m4 hS35))))),by rw [←e63]; simp only [B0,reduceIte,reduceEqDiff],f31,f32,f33⟩
  rintro fr64 h69 ⟨hS70,f65,f66,f67,f68⟩
  simp only [List.drop_succ_cons,List.drop_zero]
  simp only [qa,q4q,f65,zc,B0,reduceIte,reduceEqDiff]
  refine zb (t:=v39) (fun hc71=>?_) (fun hc71=>?_)
  ·rw [iteT hc71] at hF41
   simp only [qd,qc,f66,qp,B0,reduceIte,reduceEqDiff]
   refine qh (v := .agg [pv0_0,pv0_1,pv0_2,.int .i64 v_0.Sent,.int .i64 v_0.Total]) ((z0 (Sep.bk _ _ _ hS70)).trans rfl) ?_
   simp only [f68,zj,B0,reduceIte,reduceEqDiff]
   refine qx (us:=[pv0_0,pv0_1,pv0_2,.int .i64 v_0.Sent,.int .i64 v_0.Total]) rfl (cs':=[pv0_0,pv0_1,pv0_2,.int .i64 v_0.Sent,
     .int .i64 v_0.Total]) (Sep.m1 hS70) hW rfl (qi (SlF.one ph0_0) (qi (SlN.one ph0_1) (qi (SlN.one ph0_2) (qi rfl (qi rfl zk)))))
     (Nat.le_of_ble_eq_true rfl) rfl (fun h72 hS73=>?_)
   simp only [qe,qa,qz,B0,reduceIte,reduceEqDiff]
   have he:=qk hF41
   subst he
   refine jr (qj (jv (bb:=b9) (oo:=0) (v := .agg [pv0_0,pv0_1,pv0_2,.int .i64 v_0.Sent,
     .int .i64 v_0.Total]) (f68) ((z0 (Sep.bk _ _ _ hS73)).trans rfl)) (qj (kz (v := .bool false) (rfl)) q9)) ?_
   exact ⟨pc0_0,pc0_1,pc0_2,by first | trivial | rfl,ph0_0,ph0_1,ph0_2,(Sep.m2 (Sep.m2 (Sep.m2 (Sep.dc ((Sep.dc (hS73)))))))⟩
  rw [iteF hc71] at hF41
  simp only [zg,q3e,qd,qc,f66,qp,B0,reduceIte,reduceEqDiff]
  refine qh (v := .agg [pv0_0,pv0_1,pv0_2,.int .i64 v_0.Sent,.int .i64 v_0.Total]) ((z0 (Sep.bk _ _ _ hS70)).trans rfl) ?_
  simp only [f67,qt,qb,Nat.reduceAdd,Nat.zero_add,Nat.add_zero,qr,qp,B0,reduceIte,reduceEqDiff]
  refine qh (v := .int .i64 v_1.K) rfl ?_
  obtain ⟨v74,hx75,hF76⟩:=qg hF41
  simp only [zd,B0,reduceIte,reduceEqDiff]
  refine yp rfl (qfy hW v_0 pv0_0 pc0_0 ph0_0 pv0_1 pc0_1 ph0_1 pv0_2 pc0_2 ph0_2 v_1.K v74 hx75 (Sep.m4 (Sep.m4 (Sep.m4 hS70)))) ?_
  rintro _ h83 ⟨c77,c79,c81,rfl,hv78,hv80,hv82,hS84⟩
  simp only [wj,qb,w6,w5,f68,zj,B0,reduceIte,reduceEqDiff]
  refine qx (us:=[pv0_0,pv0_1,pv0_2,.int .i64 v74.1.Sent,.int .i64 v74.1.Total]) rfl (cs':=[pv0_0,pv0_1,pv0_2,.int .i64 v74.1.Sent,
    .int .i64 v74.1.Total]) (Sep.m4 hS84) hW rfl (qi (SlF.one hv78) (qi (SlN.one hv80) (qi (SlN.one hv82) (qi rfl (qi rfl zk)))))
    (Nat.le_of_ble_eq_true rfl) rfl (fun h85 hS86=>?_)
  simp only [qe,qa,qz,B0,reduceIte,reduceEqDiff]
  have he:=qk hF76
  subst he
  refine jr (qj (jv (bb:=b9) (oo:=0) (v := .agg [pv0_0,pv0_1,pv0_2,.int .i64 v74.1.Sent,
    .int .i64 v74.1.Total]) (f68) ((z0 (Sep.bk _ _ _ hS86)).trans rfl)) (qj (kz (v := .bool v74.2) (rfl)) q9)) ?_
  exact ⟨c77,c79,c81,by first | trivial | rfl,hv78,hv80,hv82,(Sep.m2 (Sep.m2 (Sep.m2 (Sep.dc (Sep.m3 (Sep.dc (hS86)))))))⟩
 rw [iteF hc15] at hF
 simp only [zg,qr8,qd,qc,qt,qb,Nat.reduceAdd,Nat.zero_add,Nat.add_zero,qr,qp,B0,reduceIte,reduceEqDiff]
 refine qh (v := .int .i64 v_1.K) rfl ?_
 simp only [zf,qb,qgr,qe,B0,reduceIte,reduceEqDiff]
 refine j0 7 (fun fr' h'=>Sep h' lo ([Blk1 b1 [pv0_0,pv0_1,pv0_2,.int .i64 v_0.Sent,.int .i64 v_0.Total] 30]++([Blk1 b9 [.nil,.nil,.nil,.int .i64 0,
   .int .i64 0] 30]++(pc0_0++(pc0_1++(pc0_2++(S0))))))∧fr' 52 = .bool ((decide (v_1.K<0))||(decide
   ((List.length v_0.Chans:Int)≤v_1.K)))∧fr' 2 = .ptr b1 0∧fr' 3 = .ref [.int .i64 v_1.Kind,.int .i64 v_1.K,
   .int .i64 v_1.N] 0∧fr' 4 = .ptr b9 0) (fun Q87 hN88=>?_) ?_
 ·simp only [List.take_succ_cons,List.take_zero]
  simp only [ql (g:=45),B0,reduceIte,reduceEqDiff]
  refine zn (t:=(decide (v_1.K<0))) (fun hg89=>?_) (fun hg89=>?_)
  ·simp only [hg89,ql (g:=45),jm,za,qb,zp,qa,qo,B0,reduceIte,reduceEqDiff]
   exact hN88 _ _ ⟨(Sep.m4 (Sep.m3 (Sep.m4 (Sep.m4 (Sep.m4 hS14))))),by rw [orT hg89]; simp only [B0,reduceIte,reduceEqDiff],rfl,rfl,rfl⟩
  ·simp only [hg89,ql (g:=45),qv,qt,qb,Nat.reduceAdd,Nat.zero_add,Nat.add_zero,qr,qp,B0,reduceIte,reduceEqDiff]
   refine qh (v := .int .i64 v_1.K) rfl ?_
   simp only [hg89,ql (g:=45),qv,qt,qb,Nat.reduceAdd,Nat.zero_add,Nat.add_zero,qu,qp,B0,reduceIte,reduceEqDiff]
   refine qh (v:=pv0_1) ((jj (Sep.bk _ _ _ (Sep.m1 hS14))).trans rfl) ?_
   simp only [hg89,ql (g:=45),qv,z6,qb,SlN.len ph0_1,zf,qja,za,zq,qa,qo,B0,reduceIte,reduceEqDiff]
   exact hN88 _ _ ⟨(Sep.m4 (Sep.m3 (Sep.m4 (Sep.m4 (Sep.m4 hS14))))),by rw [orF hg89]; simp only [B0,reduceIte,reduceEqDiff],rfl,rfl,rfl⟩
 rintro fr90 h95 ⟨hS96,f91,f92,f93,f94⟩
 simp only [List.drop_succ_cons,List.drop_zero]
 simp only [qa,qx4,f91,zc,B0,reduceIte,reduceEqDiff]
 refine zb (t:=((decide (v_1.K<0))||(decide ((List.length v_0.Chans:Int)≤v_1.K)))) (fun hc97=>?_) (fun hc97=>?_)
 ·rw [iteT hc97] at hF
  simp only [qd,qc,f92,qp,B0,reduceIte,reduceEqDiff]
  refine qh (v := .agg [pv0_0,pv0_1,pv0_2,.int .i64 v_0.Sent,.int .i64 v_0.Total]) ((z0 (Sep.bk _ _ _ hS96)).trans rfl) ?_
  simp only [f94,zj,B0,reduceIte,reduceEqDiff]
  refine qx (us:=[pv0_0,pv0_1,pv0_2,.int .i64 v_0.Sent,.int .i64 v_0.Total]) rfl (cs':=[pv0_0,pv0_1,pv0_2,.int .i64 v_0.Sent,
    .int .i64 v_0.Total]) (Sep.m1 hS96) hW rfl (qi (SlF.one ph0_0) (qi (SlN.one ph0_1) (qi (SlN.one ph0_2) (qi rfl (qi rfl zk)))))
    (Nat.le_of_ble_eq_true rfl) rfl (fun h98 hS99=>?_)
  simp only [qe,qa,qz,B0,reduceIte,reduceEqDiff]
  have he:=qk hF
  subst he
  refine jr (qj (jv (bb:=b9) (oo:=0) (v := .agg [pv0_0,pv0_1,pv0_2,.int .i64 v_0.Sent,
    .int .i64 v_0.Total]) (f94) ((z0 (Sep.bk _ _ _ hS99)).trans rfl)) (qj (kz (v := .bool false) (rfl)) q9)) ?_
  exact ⟨pc0_0,pc0_1,pc0_2,by first | trivial | rfl,ph0_0,ph0_1,ph0_2,(Sep.m2 (Sep.m2 (Sep.m2 (Sep.dc ((Sep.dc (hS99)))))))⟩
 rw [iteF hc97] at hF
 simp only [zg,que,qd,qc,f92,qt,qb,Nat.reduceAdd,Nat.zero_add,Nat.add_zero,qu,qp,B0,reduceIte,reduceEqDiff]
 refine qh (v:=pv0_1) ((jj (Sep.bk _ _ _ hS96)).trans rfl) ?_
 simp only [f93,qt,qb,Nat.reduceAdd,Nat.zero_add,Nat.add_zero,qr,qp,B0,reduceIte,reduceEqDiff]
 refine qh (v := .int .i64 v_1.K) rfl ?_
 obtain ⟨x100,hx101,hF102⟩:=qg hF
 simp only [jg,B0,reduceIte,reduceEqDiff]
 obtain ⟨b103,hb104⟩:=SlN.isrow ph0_1 (jq hx101)
 refine qh (SlN.ia ph0_1 hb104 hx101) ?_
 obtain ⟨c105,cs106,os107,hv108,hR109,hS110⟩:=SlG.opn (SlN.toG ph0_1 hb104 Chan.RO.len) hx101 z7 Chan.RO.len (Sep.m3 hS96)
 obtain ⟨v112,c113,hv114,rfl,rfl⟩:=hR109
 have hS111:=Sep.no1 hS110
 simp only [qp,B0,reduceIte,reduceEqDiff]
 refine qh (v := .agg [.int .i64 x100.From,.int .i64 x100.To,v112]) ((SlG.lds (o:=0) hv108 rfl hx101 hS111 (Nat.le_of_ble_eq_true rfl)).trans rfl) ?_
 simp only [jb,B0,reduceIte,reduceEqDiff]
 refine zv hS111 (fun b116 h117 hS118=>?_)
 simp only [zj,B0,reduceIte,reduceEqDiff]
 refine qx (us:=[.int .i64 x100.From,.int .i64 x100.To,v112]) rfl (cs':=[.int .i64 x100.From,.int .i64 x100.To,
   v112]) hS118 hW rfl (qi rfl (qi rfl (qi (SlF.one hv114) zk))) (Nat.le_of_ble_eq_true rfl) rfl (fun h120 hS121=>?_)
 simp only [qa,B0,reduceIte,reduceEqDiff]
 refine zw hS121 hW (by simp only [B0,reduceIte,reduceEqDiff]) (fun h122 hS123=>?_)
 simp only [zo,qt0,qd,qc,f93,qt,qb,Nat.reduceAdd,Nat.zero_add,Nat.add_zero,qr,qp,B0,reduceIte,reduceEqDiff]
 refine qh (v := .int .i64 v_1.Kind) rfl ?_
 simp only [qa,qt5,xn,qqg,qd,qc,zf,qb,wi,qe,quv,zc,B0,reduceIte,reduceEqDiff]
 refine zb (t:=(decide (v_1.Kind=1))) (fun hc124=>?_) (fun hc124=>?_)
 ·rw [iteT hc124] at hF102
  simp only [qq6,qd,jd,f93,zi,qf,Nat.reduceAdd,Nat.zero_add,Nat.add_zero,qr,ze,B0,reduceIte,reduceEqDiff]
  refine qm (v := .int .i64 v_1.N) rfl ?_
  simp only [kn,qf,qgr,zr,B0,reduceIte,reduceEqDiff]
  obtain ⟨v128,hx129,hF130⟩:=qg hF102
  refine wo 10 (fun fr' h'=>Sep h' lo ([Blk1 b1 [pv0_0,pv0_1,pv0_2,.int .i64 v_0.Sent,.int .i64 v_0.Total] 30]++([Blk1 b9 [.nil,.nil,.nil,.int .i64 0,
    .int .i64 0] 30]++(c113++(pc0_0++(c105++(pc0_2++(S0)))))))∧fr' 77 = .bool v128∧fr' 2 = .ptr b1 0∧fr' 3 = .ref [.int .i64 v_1.Kind,.int .i64 v_1.K,
    .int .i64 v_1.N] 0∧fr' 4 = .ptr b9 0∧fr' 6 = .ref [.int .i64 x100.From,.int .i64 x100.To,v112] 0) rfl (fun Q125 hN126=>?_) ?_
  ·simp only [List.take_succ_cons,List.take_zero]
   simp only [qn (g:=67),B0,reduceIte,reduceEqDiff]
   refine jf (t:=(decide (v_1.N<1))) (fun hg127=>?_) (fun hg127=>?_)
   ·rw [iteT hg127] at hx129
    simp only [hg127,qn (g:=67),kr,z8,qf,zp,qs,qo,B0,reduceIte,reduceEqDiff]
    have e131:=qk hx129
    exact hN126 _ _ ⟨(Sep.m5 (Sep.m5 (Sep.m3 (Sep.m5 (Sep.m1 (Sep.m5 hS123)))))),by rw [←e131]; simp only [B0,reduceIte,reduceEqDiff],f92,f93,f94,rfl⟩
   ·rw [iteF hg127] at hx129
    simp only [hg127,qn (g:=67),q8,f93,zi,qf,Nat.reduceAdd,Nat.zero_add,Nat.add_zero,qr,ze,B0,reduceIte,reduceEqDiff]
    refine qm (v := .int .i64 v_1.N) rfl ?_
    simp only [hg127,qn (g:=67),q8,f92,zi,qf,Nat.reduceAdd,Nat.zero_add,Nat.add_zero,qu,ze,B0,reduceIte,reduceEqDiff]
    refine qm (v:=pv0_0) ((jj (Sep.bk _ _ _ (Sep.m2 hS123))).trans rfl) ?_
    simp only [hg127,qn (g:=67),q8,zi,qf,Nat.reduceAdd,Nat.zero_add,Nat.add_zero,qr,ze,B0,reduceIte,reduceEqDiff]
    refine qm (v := .int .i64 x100.From) rfl ?_
    obtain ⟨x132,hx133,hF134⟩:=qg hx129
    simp only [hg127,qn (g:=67),q8,jo,B0,reduceIte,reduceEqDiff]
    obtain ⟨b135,hb136⟩:=SlF.isrow ph0_0 (jq hx133)
    refine qm (SlF.ia ph0_0 hb136 hx133) ?_
    simp only [hg127,qn (g:=67),q8,ze,B0,reduceIte,reduceEqDiff]
    refine qm (v := .int .i64 x132) ((SlF.ld (o:=0) ph0_0 (Sep.m4 hS123) hb136 hx133 (fun _=>rfl) (Nat.le_of_ble_eq_true rfl)).trans rfl) ?_
    simp only [hg127,qn (g:=67),q8,kn,qf,qe7,z8,zq,qs,qo,B0,reduceIte,reduceEqDiff]
    have e137:=qk hF134
    exact hN126 _ _ ⟨(Sep.m5 (Sep.m5 (Sep.m3 (Sep.m5 (Sep.m1 (Sep.m5 hS123)))))),by rw [←e137]; simp only [B0,reduceIte,reduceEqDiff],f92,f93,f94,rfl⟩
  rintro fr138 h144 ⟨hS145,f139,f140,f141,f142,f143⟩
  simp only [List.drop_succ_cons,List.drop_zero]
  simp only [f139,zr,qf,B0,reduceIte,reduceEqDiff]
  refine wo 5 (fun fr' h'=>Sep h' lo ([Blk1 b1 [pv0_0,pv0_1,pv0_2,.int .i64 v_0.Sent,.int .i64 v_0.Total] 30]++([Blk1 b9 [.nil,.nil,.nil,.int .i64 0,
    .int .i64 0] 30]++(c113++(pc0_0++(c105++(pc0_2++(S0)))))))∧fr' 83 = .bool (v128||(decide
    ((List.length x100.Way:Int)=8)))∧fr' 2 = .ptr b1 0∧fr' 3 = .ref [.int .i64 v_1.Kind,.int .i64 v_1.K,
    .int .i64 v_1.N] 0∧fr' 4 = .ptr b9 0∧fr' 6 = .ref [.int .i64 x100.From,.int .i64 x100.To,v112] 0) rfl (fun Q146 hN147=>?_) ?_
  ·simp only [List.take_succ_cons,List.take_zero]
   simp only [qn (g:=78),B0,reduceIte,reduceEqDiff]
   refine jf (t:=v128) (fun hg148=>?_) (fun hg148=>?_)
   ·simp only [hg148,qn (g:=78),kr,z8,qf,zp,qs,qo,B0,reduceIte,reduceEqDiff]
    exact hN147 _ _ ⟨(Sep.m5 (Sep.m5 (Sep.m5 (Sep.m5 (Sep.m5 (Sep.m5 hS145)))))),by rw [orT hg148]; simp only [B0,reduceIte,reduceEqDiff],f140,f141,f142,f143⟩
   ·simp only [hg148,qn (g:=78),q8,f143,zi,qf,Nat.reduceAdd,Nat.zero_add,Nat.add_zero,qr,ze,B0,reduceIte,reduceEqDiff]
    refine qm (v:=v112) rfl ?_
    simp only [hg148,qn (g:=78),q8,qch,qf,SlF.plen hv114,kn,wi,z8,zq,qs,qo,B0,reduceIte,
      reduceEqDiff]
    exact hN147 _ _ ⟨(Sep.m5 (Sep.m5 (Sep.m5 (Sep.m5 (Sep.m5 (Sep.m5 hS145)))))),by rw [orF hg148]; simp only [B0,reduceIte,reduceEqDiff],f140,f141,f142,f143⟩
  rintro fr149 h155 ⟨hS156,f150,f151,f152,f153,f154⟩
  simp only [List.drop_succ_cons,List.drop_zero]
  simp only [f150,zr,qf,B0,reduceIte,reduceEqDiff]
  refine wo 4 (fun fr' h'=>Sep h' lo ([Blk1 b1 [pv0_0,pv0_1,pv0_2,.int .i64 v_0.Sent,.int .i64 v_0.Total] 30]++([Blk1 b9 [.nil,.nil,.nil,.int .i64 0,
    .int .i64 0] 30]++(c113++(pc0_0++(c105++(pc0_2++(S0)))))))∧fr' 88 = .bool ((v128||(decide ((List.length x100.Way:Int)=8)))||(decide
    (v_0.Sent=1000)))∧fr' 2 = .ptr b1 0∧fr' 3 = .ref [.int .i64 v_1.Kind,.int .i64 v_1.K,.int .i64 v_1.N] 0∧fr' 4 = .ptr b9 0∧fr' 6 = .ref [.int .i64 x100.From,
    .int .i64 x100.To,v112] 0) rfl (fun Q157 hN158=>?_) ?_
  ·simp only [List.take_succ_cons,List.take_zero]
   simp only [qn (g:=84),B0,reduceIte,reduceEqDiff]
   refine jf (t:=(v128||(decide ((List.length x100.Way:Int)=8)))) (fun hg159=>?_) (fun hg159=>?_)
   ·simp only [hg159,qn (g:=84),kr,z8,qf,zp,qs,qo,B0,reduceIte,reduceEqDiff]
    exact hN158 _ _ ⟨(Sep.m5 (Sep.m5 (Sep.m5 (Sep.m5 (Sep.m5 (Sep.m5 hS156)))))),by rw [orT hg159]; simp only [B0,reduceIte,reduceEqDiff],f151,f152,f153,f154⟩
   ·simp only [hg159,qn (g:=84),q8,f151,zi,qf,Nat.reduceAdd,Nat.zero_add,Nat.add_zero,qu,ze,B0,reduceIte,reduceEqDiff]
    refine qm (v := .int .i64 v_0.Sent) ((jj (Sep.bk _ _ _ hS156)).trans rfl) ?_
    simp only [hg159,qn (g:=84),q8,kn,qf,wi,z8,zq,qs,qo,B0,reduceIte,reduceEqDiff]
    exact hN158 _ _ ⟨(Sep.m5 (Sep.m5 (Sep.m5 (Sep.m5 (Sep.m5 (Sep.m5 hS156)))))),by rw [orF hg159]; simp only [B0,reduceIte,reduceEqDiff],f151,f152,f153,f154⟩
  rintro fr160 h166 ⟨hS167,f161,f162,f163,f164,f165⟩
  simp only [List.drop_succ_cons,List.drop_zero]
  simp only [qs,q0s,f161,zc,B0,reduceIte,reduceEqDiff]
  refine zb (t:=((v128||(decide ((List.length x100.Way:Int)=8)))||(decide (v_0.Sent=1000)))) (fun hc168=>?_) (fun hc168=>?_)
  ·rw [iteT hc168] at hF130
   simp only [qd,qc,f162,qp,B0,reduceIte,reduceEqDiff]
   refine qh (v := .agg [pv0_0,pv0_1,pv0_2,.int .i64 v_0.Sent,.int .i64 v_0.Total]) ((z0 (Sep.bk _ _ _ hS167)).trans rfl) ?_
   simp only [f164,zj,B0,reduceIte,reduceEqDiff]
   refine qx (us:=[pv0_0,pv0_1,pv0_2,.int .i64 v_0.Sent,.int .i64 v_0.Total]) rfl (cs':=[pv0_0,pv0_1,pv0_2,.int .i64 v_0.Sent,
     .int .i64 v_0.Total]) (Sep.m1 hS167) hW rfl (qi (SlF.one ph0_0) (qi (SlG.one hv108) (qi (SlN.one ph0_2) (qi rfl (qi rfl zk)))))
     (Nat.le_of_ble_eq_true rfl) rfl (fun h169 hS170=>?_)
   simp only [qe,qa,qz,B0,reduceIte,reduceEqDiff]
   obtain ⟨c171,hv172,hS173⟩:=SlG.cls0 (c:=c105) (os:=c113) hv108 rfl hx101 z7 (Chan.RI (x:=x100) hv114) (Sep.m4 (Sep.m2 hS170))
   have hv174:=SlG.toN hv172
   have he:=qk hF130
   subst he
   refine jr (qj (jv (bb:=b9) (oo:=0) (v := .agg [pv0_0,pv0_1,pv0_2,.int .i64 v_0.Sent,
     .int .i64 v_0.Total]) (f164) ((z0 (Sep.bk _ _ _ (Sep.m1 hS173))).trans rfl)) (qj (kz (v := .bool false) (rfl)) q9)) ?_
   exact ⟨pc0_0,c171,pc0_2,by first | trivial | rfl,ph0_0,hv174,ph0_2,(Sep.m2 (Sep.m1 (Sep.m2 (Sep.dc (Sep.m1 (Sep.dc (Sep.m1 hS173)))))))⟩
  rw [iteF hc168] at hF130
  simp only [zg,qx3,qd,jd,f162,zi,qf,Nat.reduceAdd,Nat.zero_add,Nat.add_zero,qu,ze,B0,reduceIte,reduceEqDiff]
  refine qm (v:=pv0_0) ((jj (Sep.bk _ _ _ hS167)).trans rfl) ?_
  simp only [f165,zi,qf,Nat.reduceAdd,Nat.zero_add,Nat.add_zero,qr,ze,B0,reduceIte,reduceEqDiff]
  refine qm (v := .int .i64 x100.From) rfl ?_
  obtain ⟨x175,hx176,hF177⟩:=qg hF130
  simp only [jo,B0,reduceIte,reduceEqDiff]
  obtain ⟨b178,hb179⟩:=SlF.isrow ph0_0 (jq hx176)
  refine qm (SlF.ia ph0_0 hb179 hx176) ?_
  simp only [ze,B0,reduceIte,reduceEqDiff]
  refine qm (v := .int .i64 x175) ((SlF.ld (o:=0) ph0_0 (Sep.m3 hS167) hb179 hx176 (fun _=>rfl) (Nat.le_of_ble_eq_true rfl)).trans rfl) ?_
  simp only [f163,zi,qf,Nat.reduceAdd,Nat.zero_add,Nat.add_zero,qr,ze,B0,reduceIte,reduceEqDiff]
  refine qm (v := .int .i64 v_1.N) rfl ?_
  simp only [kn,qf,qi4,jo,B0,reduceIte,reduceEqDiff]
  refine qm (SlF.ia ph0_0 hb179 hx176) ?_
  simp only [xj,B0,reduceIte,reduceEqDiff]
  refine uv (f:=cI) (x':=(IntKind.wrap .i64 (x175 - v_1.N))) (o:=0) ph0_0 (Sep.m3 hS167) hW hb179 hx176 (fun _=>rfl) rfl rfl (Nat.le_of_ble_eq_true rfl) rfl
    (fun c182 h180 hv183 hS181=>?_)
  have hx184:=j7 (x':=(IntKind.wrap .i64 (x175 - v_1.N))) hx176
  simp only [qs,q11,qd,jd,f162,qdw,qf,Nat.reduceAdd,Nat.zero_add,Nat.add_zero,qu,qbl,B0,reduceIte,reduceEqDiff]
  refine qhs (Sep.ltk (Sep.m1 hS181)) ?_
  refine qm (v:=pv0_1) ((jj (Sep.bk _ _ _ (Sep.m1 hS181))).trans rfl) ?_
  simp only [f163,qdw,qf,Nat.reduceAdd,Nat.zero_add,Nat.add_zero,qr,qbl,qbt,B0,reduceIte,reduceEqDiff]
  refine qm (v := .int .i64 v_1.K) rfl ?_
  simp only [f162,zi,qf,Nat.reduceAdd,Nat.zero_add,Nat.add_zero,qu,ze,B0,reduceIte,reduceEqDiff]
  refine qm (v:=pv0_1) ((jj (Sep.bk _ _ _ (Sep.m1 hS181))).trans rfl) ?_
  simp only [f163,zi,qf,Nat.reduceAdd,Nat.zero_add,Nat.add_zero,qr,ze,B0,reduceIte,reduceEqDiff]
  refine qm (v := .int .i64 v_1.K) rfl ?_
  simp only [jo,B0,reduceIte,reduceEqDiff]
  refine qm (SlG.ia hv108 hx101) ?_
  simp only [zi,qf,Nat.reduceAdd,Nat.zero_add,Nat.add_zero,qu,ze,B0,reduceIte,reduceEqDiff]
  refine qm (v:=v112) ((SlG.ld (o:=2) hv108 rfl hx101 (Sep.m4 hS181) (Nat.le_of_ble_eq_true rfl)).trans rfl) ?_
  simp only [f163,zi,qf,Nat.reduceAdd,Nat.zero_add,Nat.add_zero,qr,ze,B0,reduceIte,reduceEqDiff]
  refine qm (v := .int .i64 v_1.N) rfl ?_
  simp only [u9,evp,B0,reduceIte,reduceEqDiff]
  refine uh (n:=1) (f:=cI) [v_1.N] hS181 rfl rfl (fun v185 c186 h187 hv188 hS189=>?_)
  simp only [qez,B0,reduceIte,reduceEqDiff]
  obtain ⟨l191,hx192,hF193⟩:=qg hF177
  refine qij (qkv (fun z hz=>Sep.dj (Sep.m4 (Sep.m2 hS189)) qkw (SlF.rowfp hv114 z hz)) qgy) ?_
  refine qa2 (f:=cI) hv114 (Sep.m4 hS189) hW (fun _=>rfl) (fun _=>rfl) (SlF.first hv188 hS189 (fun _=>rfl)) hx192 (fun v194 c195 h196 hv197 hS198=>?_)
  simp only [jo,B0,reduceIte,reduceEqDiff]
  refine qm (SlG.ia hv108 hx101) ?_
  simp only [zi,qf,Nat.reduceAdd,Nat.zero_add,Nat.add_zero,qu,xj,B0,reduceIte,reduceEqDiff]
  refine qcc (us:=[v194]) (o:=2) (cs':=[.int .i64 x100.From,.int .i64 x100.To,
    v194]) (j6 (SlF.one hv197)) hv108 rfl hx101 (Sep.m5 hS198) hW rfl (qi (SlF.one hv197) zk) (Nat.le_of_ble_eq_true rfl) rfl (fun c202 h200 hv203 hS201=>?_)
  simp only [qs,q1r,qd,qc,f162,qt,qb,Nat.reduceAdd,Nat.zero_add,Nat.add_zero,qu,qp,B0,reduceIte,reduceEqDiff]
  refine qh (v := .int .i64 v_0.Sent) ((jj (Sep.bk _ _ _ (Sep.m4 hS201))).trans rfl) ?_
  simp only [zf,qb,yz,f162,qt,Nat.reduceAdd,Nat.zero_add,Nat.add_zero,qu,zj,B0,reduceIte,reduceEqDiff]
  refine qx (us:=[.int .i64 (IntKind.wrap .i64 (v_0.Sent+1))]) rfl (cs':=[pv0_0,pv0_1,pv0_2,.int .i64 (IntKind.wrap .i64 (v_0.Sent+1)),
    .int .i64 v_0.Total]) (Sep.m4 hS201) hW rfl rfl (Nat.le_of_ble_eq_true rfl) rfl (fun h204 hS205=>?_)
  simp only [qa,qd,qc,f162,qp,B0,reduceIte,reduceEqDiff]
  refine qh (v := .agg [pv0_0,pv0_1,pv0_2,.int .i64 (IntKind.wrap .i64 (v_0.Sent+1)),.int .i64 v_0.Total]) ((z0 (Sep.bk _ _ _ hS205)).trans rfl) ?_
  simp only [f164,zj,B0,reduceIte,reduceEqDiff]
  refine qx (us:=[pv0_0,pv0_1,pv0_2,.int .i64 (IntKind.wrap .i64 (v_0.Sent+1)),.int .i64 v_0.Total]) rfl (cs':=[pv0_0,pv0_1,pv0_2,
    .int .i64 (IntKind.wrap .i64 (v_0.Sent+1)),
    .int .i64 v_0.Total]) (Sep.m5 hS205) hW rfl (qi (SlF.one hv183) (qi (SlG.one hv203) (qi (SlN.one ph0_2) (qi rfl (qi rfl zk)))))
    (Nat.le_of_ble_eq_true rfl) rfl (fun h206 hS207=>?_)
  simp only [qe,qa,qz,B0,reduceIte,reduceEqDiff]
  obtain ⟨c208,hv209,hS210⟩:=SlG.cls (e':=(Chan.mk x100.From x100.To l191)) (c:=c202) (os:=c195) hv203 rfl hx101 z7 (Chan.RI (x :=
    (Chan.mk x100.From x100.To l191)) hv197) (Sep.m3 (Sep.m3 hS207))
  have hx211:=j7 (x':=(Chan.mk x100.From x100.To l191)) hx101
  have hv212:=SlG.toN hv209
  have he:=qk hF193
  subst he
  refine jr (qj (jv (bb:=b9) (oo:=0) (v := .agg [pv0_0,pv0_1,pv0_2,.int .i64 (IntKind.wrap .i64 (v_0.Sent+1)),
    .int .i64 v_0.Total]) (f164) ((z0 (Sep.bk _ _ _ (Sep.m1 hS210))).trans rfl)) (qj (kz (v := .bool true) (rfl)) q9)) ?_
  exact ⟨c182,c208,pc0_2,by first | trivial | rfl,hv183,hv212,ph0_2,(Sep.m2 (Sep.m1 (Sep.m2 (Sep.dc (Sep.m1 (Sep.dc (Sep.m1 (Sep.dc (Sep.m1 hS210)))))))))⟩
 rw [iteF hc124] at hF102
 simp only [qt1,qd,qc,zf,qb,wi,qe,qa,qu8,zc,B0,reduceIte,reduceEqDiff]
 refine zb (t:=(decide (v_1.Kind=2))) (fun hc213=>?_) (fun hc213=>?_)
 ·rw [iteT hc213] at hF102
  simp only [qtm,qd,qc,f93,qt,qb,Nat.reduceAdd,Nat.zero_add,Nat.add_zero,qr,qp,B0,reduceIte,reduceEqDiff]
  refine qh (v := .int .i64 v_1.N) rfl ?_
  simp only [zf,qb,ws,qe,B0,reduceIte,reduceEqDiff]
  refine j0 5 (fun fr' h'=>Sep h' lo ([Blk1 b1 [pv0_0,pv0_1,pv0_2,.int .i64 v_0.Sent,.int .i64 v_0.Total] 30]++([Blk1 b9 [.nil,.nil,.nil,.int .i64 0,
    .int .i64 0] 30]++(pc0_0++(c105++(pc0_2++(c113++(S0)))))))∧fr' 132 = .bool ((decide (v_1.N≠0))||(decide
    ((List.length x100.Way:Int)=0)))∧fr' 2 = .ptr b1 0∧fr' 3 = .ref [.int .i64 v_1.Kind,.int .i64 v_1.K,
    .int .i64 v_1.N] 0∧fr' 4 = .ptr b9 0) (fun Q214 hN215=>?_) ?_
  ·simp only [List.take_succ_cons,List.take_zero]
   simp only [ql (g:=127),B0,reduceIte,reduceEqDiff]
   refine zn (t:=(decide (v_1.N≠0))) (fun hg216=>?_) (fun hg216=>?_)
   ·simp only [hg216,ql (g:=127),jm,za,qb,zp,qa,qo,B0,reduceIte,reduceEqDiff]
    exact hN215 _ _ ⟨(Sep.m5 (Sep.m5 (Sep.m5 (Sep.m2 (Sep.m5 (Sep.m1 hS123)))))),by rw [orT hg216]; simp only [B0,reduceIte,reduceEqDiff],f92,f93,f94⟩
   ·simp only [hg216,ql (g:=127),qv,qt,qb,Nat.reduceAdd,Nat.zero_add,Nat.add_zero,qr,qp,B0,reduceIte,reduceEqDiff]
    refine qh (v:=v112) rfl ?_
    simp only [hg216,ql (g:=127),qv,z6,qb,SlF.plen hv114,zf,wi,za,zq,qa,qo,B0,reduceIte,
      reduceEqDiff]
    exact hN215 _ _ ⟨(Sep.m5 (Sep.m5 (Sep.m5 (Sep.m2 (Sep.m5 (Sep.m1 hS123)))))),by rw [orF hg216]; simp only [B0,reduceIte,reduceEqDiff],f92,f93,f94⟩
  rintro fr217 h222 ⟨hS223,f218,f219,f220,f221⟩
  simp only [List.drop_succ_cons,List.drop_zero]
  simp only [qa,qqf,f218,zc,B0,reduceIte,reduceEqDiff]
  refine zb (t:=((decide (v_1.N≠0))||(decide ((List.length x100.Way:Int)=0)))) (fun hc224=>?_) (fun hc224=>?_)
  ·rw [iteT hc224] at hF102
   simp only [qd,qc,f219,qp,B0,reduceIte,reduceEqDiff]
   refine qh (v := .agg [pv0_0,pv0_1,pv0_2,.int .i64 v_0.Sent,.int .i64 v_0.Total]) ((z0 (Sep.bk _ _ _ hS223)).trans rfl) ?_
   simp only [f221,zj,B0,reduceIte,reduceEqDiff]
   refine qx (us:=[pv0_0,pv0_1,pv0_2,.int .i64 v_0.Sent,.int .i64 v_0.Total]) rfl (cs':=[pv0_0,pv0_1,pv0_2,.int .i64 v_0.Sent,
     .int .i64 v_0.Total]) (Sep.m1 hS223) hW rfl (qi (SlF.one ph0_0) (qi (SlG.one hv108) (qi (SlN.one ph0_2) (qi rfl (qi rfl zk)))))
     (Nat.le_of_ble_eq_true rfl) rfl (fun h225 hS226=>?_)
   simp only [qe,qa,qz,B0,reduceIte,reduceEqDiff]
   obtain ⟨c227,hv228,hS229⟩:=SlG.cls0 (c:=c105) (os:=c113) hv108 rfl hx101 z7 (Chan.RI (x:=x100) hv114) (Sep.m4 (Sep.m5 hS226))
   have hv230:=SlG.toN hv228
   have he:=qk hF102
   subst he
   refine jr (qj (jv (bb:=b9) (oo:=0) (v := .agg [pv0_0,pv0_1,pv0_2,.int .i64 v_0.Sent,
     .int .i64 v_0.Total]) (f221) ((z0 (Sep.bk _ _ _ (Sep.m1 hS229))).trans rfl)) (qj (kz (v := .bool false) (rfl)) q9)) ?_
   exact ⟨pc0_0,c227,pc0_2,by first | trivial | rfl,ph0_0,hv230,ph0_2,(Sep.m2 (Sep.m1 (Sep.m2 (Sep.dc (Sep.m1 (Sep.dc (Sep.m1 hS229)))))))⟩
  rw [iteF hc224] at hF102
  simp only [zg,qq7,qd,qc,f219,qp,B0,reduceIte,reduceEqDiff]
  refine qh (v := .agg [pv0_0,pv0_1,pv0_2,.int .i64 v_0.Sent,.int .i64 v_0.Total]) ((z0 (Sep.bk _ _ _ hS223)).trans rfl) ?_
  simp only [f220,qt,qb,Nat.reduceAdd,Nat.zero_add,Nat.add_zero,qr,qp,B0,reduceIte,reduceEqDiff]
  refine qh (v := .int .i64 v_1.K) rfl ?_
  obtain ⟨c231,hv232,hS233⟩:=SlG.cls0 (c:=c105) (os:=c113) hv108 rfl hx101 z7 (Chan.RI (x:=x100) hv114) (Sep.m4 (Sep.m5 hS223))
  have hv234:=SlG.toN hv232
  obtain ⟨v235,hx236,hF237⟩:=qg hF102
  simp only [zd,B0,reduceIte,reduceEqDiff]
  refine yp rfl (qip hW v_0 pv0_0 pc0_0 ph0_0 pv0_1 c231 hv234 pv0_2 pc0_2 ph0_2 v_1.K v235 hx236 (Sep.m4 (Sep.m1 (Sep.m4 hS233)))) ?_
  rintro _ h244 ⟨c238,c240,c242,rfl,hv239,hv241,hv243,hS245⟩
  simp only [wj,qb,w6,w5,f221,zj,B0,reduceIte,reduceEqDiff]
  refine qx (us:=[pv0_0,pv0_1,pv0_2,.int .i64 v235.1.Sent,.int .i64 v235.1.Total]) rfl (cs':=[pv0_0,pv0_1,pv0_2,.int .i64 v235.1.Sent,
    .int .i64 v235.1.Total]) (Sep.m4 hS245) hW rfl (qi (SlF.one hv239) (qi (SlN.one hv241) (qi (SlN.one hv243) (qi rfl (qi rfl zk)))))
    (Nat.le_of_ble_eq_true rfl) rfl (fun h246 hS247=>?_)
  simp only [qe,qa,qz,B0,reduceIte,reduceEqDiff]
  have he:=qk hF237
  subst he
  refine jr (qj (jv (bb:=b9) (oo:=0) (v := .agg [pv0_0,pv0_1,pv0_2,.int .i64 v235.1.Sent,
    .int .i64 v235.1.Total]) (f221) ((z0 (Sep.bk _ _ _ hS247)).trans rfl)) (qj (kz (v := .bool v235.2) (rfl)) q9)) ?_
  exact ⟨c238,c240,c242,by first | trivial | rfl,hv239,hv241,hv243,(Sep.m2 (Sep.m2 (Sep.m2 (Sep.dc (Sep.m3 (Sep.dc (hS247)))))))⟩
 rw [iteF hc213] at hF102
 simp only [zg,uo,qd,qc,f92,qp,B0,reduceIte,reduceEqDiff]
 refine qh (v := .agg [pv0_0,pv0_1,pv0_2,.int .i64 v_0.Sent,.int .i64 v_0.Total]) ((z0 (Sep.bk _ _ _ (Sep.m2 hS123))).trans rfl) ?_
 simp only [f94,zj,B0,reduceIte,reduceEqDiff]
 refine qx (us:=[pv0_0,pv0_1,pv0_2,.int .i64 v_0.Sent,.int .i64 v_0.Total]) rfl (cs':=[pv0_0,pv0_1,pv0_2,.int .i64 v_0.Sent,
   .int .i64 v_0.Total]) (Sep.m3 hS123) hW rfl (qi (SlF.one ph0_0) (qi (SlG.one hv108) (qi (SlN.one ph0_2) (qi rfl (qi rfl zk)))))
   (Nat.le_of_ble_eq_true rfl) rfl (fun h248 hS249=>?_)
 simp only [qe,qa,qz,B0,reduceIte,reduceEqDiff]
 obtain ⟨c250,hv251,hS252⟩:=SlG.cls0 (c:=c105) (os:=c113) hv108 rfl hx101 z7 (Chan.RI (x:=x100) hv114) (Sep.m2 (Sep.m2 hS249))
 have hv253:=SlG.toN hv251
 have he:=qk hF102
 subst he
 refine jr (qj (jv (bb:=b9) (oo:=0) (v := .agg [pv0_0,pv0_1,pv0_2,.int .i64 v_0.Sent,
   .int .i64 v_0.Total]) (f94) ((z0 (Sep.bk _ _ _ (Sep.m1 hS252))).trans rfl)) (qj (kz (v := .bool false) (rfl)) q9)) ?_
 exact ⟨pc0_0,c250,pc0_2,by first | trivial | rfl,ph0_0,hv253,ph0_2,(Sep.m2 (Sep.m1 (Sep.m2 (Sep.dc (Sep.m1 (Sep.dc (Sep.m1 hS252)))))))⟩
theorem qbv {W:Nat→Bool}{h:Heap} (hW:∀ b,
  (geL h.length) b→W b=true) (s_0:Snap) (r:Snap) (hF:ur s_0=some r) : Ret E W 43 [.agg [lst cI s_0.Amounts,lst Chan.cells s_0.Chans,
  lst Picture.cells s_0.Pictures,.int .i64 s_0.Sent,.int .i64 s_0.Total]] h (fun v h'=>∃ rv0_0 rc0_0 rv0_1 rc0_1 rv0_2 rc0_2,v = .agg [rv0_0,rv0_1,rv0_2,
  .int .i64 r.Sent,.int .i64 r.Total]∧SlF cI 1 3 rv0_0 r.Amounts rc0_0∧SlN Chan.R 3 74 rv0_1 r.Chans rc0_1∧SlN Picture.R 4 76 rv0_2 r.Pictures rc0_2∧Sep h'
  (geL h.length) (rc0_0++(rc0_1++(rc0_2++([]))))):=by
 refine Ret.of (fn:=x43) rfl (Run.of ?_)
 unfold ur at hF
 have zf0:zh [.agg [lst cI s_0.Amounts,lst Chan.cells s_0.Chans,lst Picture.cells s_0.Pictures,.int .i64 s_0.Sent,.int .i64 s_0.Total]] 0 = .agg [lst cI s_0.Amounts,
   lst Chan.cells s_0.Chans,lst Picture.cells s_0.Pictures,.int .i64 s_0.Sent,.int .i64 s_0.Total]:=rfl
 generalize zh [.agg [lst cI s_0.Amounts,lst Chan.cells s_0.Chans,lst Picture.cells s_0.Pictures,.int .i64 s_0.Sent,.int .i64 s_0.Total]]=fr0 at zf0 ⊢
 have hS:Sep h (geL h.length) []:=Sep.nil h
 simp only [x43,qd,qc,kh,zf0,B0,reduceIte,reduceEqDiff]
 refine jt (cs:=[lst cI s_0.Amounts,lst Chan.cells s_0.Chans,lst Picture.cells s_0.Pictures,.int .i64 s_0.Sent,
   .int .i64 s_0.Total]) hS rfl rfl rfl (fun b1 h2 hS3=>?_)
 simp only [jb,B0,reduceIte,reduceEqDiff]
 refine zv hS3 (fun b5 h6 hS7=>?_)
 simp only [qa,B0,reduceIte,reduceEqDiff]
 refine zw (Sep.m1 hS7) hW (by simp only [B0,reduceIte,reduceEqDiff]) (fun h9 hS10=>?_)
 simp only [zo,qu3,qd,jd,u9,evp,B0,reduceIte,reduceEqDiff]
 refine uh (n:=1) (f:=cI) ([] : List Int) hS10 rfl rfl (fun v11 c12 h13 hv14 hS15=>?_)
 simp only [qkt,B0,reduceIte,reduceEqDiff]
 refine qge hS15 (fun b17 h18 hS19=>?_)
 simp only [zi,qf,Nat.reduceAdd,Nat.zero_add,Nat.add_zero,qr,ze,B0,reduceIte,reduceEqDiff]
 refine qm (v:=lst cI s_0.Amounts) rfl ?_
 simp only [qez,B0,reduceIte,reduceEqDiff]
 obtain ⟨l21,hx22,hF23⟩:=qg hF
 refine qij qgy ?_
 refine qa2 (f:=cI) hv14 (Sep.m1 hS19) hW (fun _=>rfl) (fun _=>rfl) (qaa (fun _=>rfl)) hx22 (fun v24 c25 h26 hv27 hS28=>?_)
 simp only [qdw,qf,Nat.reduceAdd,Nat.zero_add,Nat.add_zero,qr,qbl,qbt,B0,reduceIte,reduceEqDiff]
 refine qm (v := .int .i64 s_0.Sent) rfl ?_
 simp only [qdw,qf,Nat.reduceAdd,Nat.zero_add,Nat.add_zero,qr,qbl,qbt,B0,reduceIte,reduceEqDiff]
 refine qm (v := .int .i64 s_0.Total) rfl ?_
 simp only [qic,evp,B0,reduceIte,reduceEqDiff]
 refine qm (v := .agg [v24,.nil,.nil,.int .i64 s_0.Sent,.int .i64 s_0.Total]) (qdo (qat (us:=[v24]) (vs:=[v24,.nil,.nil,.int .i64 0,
   .int .i64 0]) (j6 (SlF.one hv27)) rfl (Nat.le_of_ble_eq_true rfl) (qi (SlF.one hv27) zk) rfl (qat (us:=[.int .i64 s_0.Sent]) (vs:=[v24,.nil,.nil,
   .int .i64 s_0.Sent,.int .i64 0]) rfl rfl (Nat.le_of_ble_eq_true rfl) rfl rfl (qat (us:=[.int .i64 s_0.Total]) (vs:=[v24,.nil,.nil,.int .i64 s_0.Sent,
   .int .i64 s_0.Total]) rfl rfl (Nat.le_of_ble_eq_true rfl) rfl rfl qeg)))) ?_
 simp only [xj,B0,reduceIte,reduceEqDiff]
 refine qa6 (us:=[v24,.nil,.nil,.int .i64 s_0.Sent,.int .i64 s_0.Total]) rfl (cs':=[v24,.nil,.nil,.int .i64 s_0.Sent,
   .int .i64 s_0.Total]) (Sep.m1 hS28) hW rfl (qi (SlF.one hv27) (qi rfl (qi rfl (qi rfl (qi rfl zk))))) (Nat.le_of_ble_eq_true rfl) rfl (fun h30 hS31=>?_)
 simp only [qs,qto,qd,qc,qt,qb,Nat.reduceAdd,Nat.zero_add,Nat.add_zero,qr,qp,B0,reduceIte,reduceEqDiff]
 refine qh (v:=lst Chan.cells s_0.Chans) rfl ?_
 simp only [z6,qb,z5,qe,qa,B0,reduceIte,reduceEqDiff]
 obtain ⟨oc44,hX46,hk47⟩:=jp hF23
 simp only [qx9]
 refine ko (σ:=Snap) s_0.Chans (fun i42 x43 s107=>qds l21 i42 x43 s107) (fun s fr' h'=>∃ v39 c40,fr' 1 = .ref [lst cI s_0.Amounts,
   lst Chan.cells s_0.Chans,lst Picture.cells s_0.Pictures,.int .i64 s_0.Sent,
   .int .i64 s_0.Total] 0∧fr' 2 = .ptr b5 0∧fr' 3 = .ptr b17 0∧fr' 18=lst Chan.cells s_0.Chans∧SlN Chan.R 3 74 v39 s.Chans c40∧Sep h' (geL h.length)
   ([Blk1 b5 [.nil,.nil,.nil,.int .i64 0,.int .i64 0] 30]++([Blk1 b17 [v24,v39,.nil,.int .i64 s.Sent,.int .i64 s.Total] 30]++(c25++(c40++([])))))) hX46 ⟨.nil,
   [],rfl,rfl,rfl,rfl,SlN.nil,((Sep.m2 (Sep.m1 (Sep.m1 hS31))) : Sep _ (geL h.length) ([Blk1 b5 [.nil,.nil,.nil,.int .i64 0,.int .i64 0] 30]++([Blk1 b17 [v24,.nil,
   .nil,.int .i64 s_0.Sent,.int .i64 s_0.Total] 30]++(c25++([])))))⟩ (by simp only [B0,reduceIte,reduceEqDiff]) (by simp only [B0,reduceIte,
   reduceEqDiff]) (fun _ _ _ h=>h) rfl rfl (fun _ _ _ _ h=>h) (fun _ _ _ _ h=>h) (fun _ _ _ _ h=>h) (by decide) ?_ ?_
 ·rintro i42 x43 s37 fr56 h57 hx63 ⟨v39,c40,f59,f60,f61,f62,hv41,hS58⟩ f64 f65 oc45 hF48 hr49 Q50 hN51 hB55 hK52 hR53 hE54
  unfold qds at hF48
  simp only [q16,qd,qc,f62,f64,jg,B0,reduceIte,reduceEqDiff]
  refine qh (v := .ref (Chan.cells x43) 0) (kp hx63 rfl) ?_
  simp only [qp,B0,reduceIte,reduceEqDiff]
  refine qh (v := .agg [.int .i64 x43.From,.int .i64 x43.To,lst cI x43.Way]) rfl ?_
  simp only [jb,B0,reduceIte,reduceEqDiff]
  refine zv hS58 (fun b66 h67 hS68=>?_)
  simp only [zj,B0,reduceIte,reduceEqDiff]
  refine qx (us:=[.int .i64 x43.From,.int .i64 x43.To,lst cI x43.Way]) rfl (cs':=[.int .i64 x43.From,.int .i64 x43.To,
    lst cI x43.Way]) hS68 hW rfl rfl (Nat.le_of_ble_eq_true rfl) rfl (fun h70 hS71=>?_)
  simp only [qa,qyv,qd,qc,kx,evp,B0,reduceIte,reduceEqDiff]
  refine k8 (n:=1) (f:=cI) ([] : List Int) hS71 rfl rfl (fun v72 c73 h74 hv75 hS76=>?_)
  simp only [qt,qb,Nat.reduceAdd,Nat.zero_add,Nat.add_zero,qu,qp,B0,reduceIte,reduceEqDiff]
  refine qh (v:=lst cI x43.Way) ((jj (Sep.bk _ _ _ (Sep.m1 hS76))).trans rfl) ?_
  simp only [xh,B0,reduceIte,reduceEqDiff]
  obtain ⟨l78,hx79,hF80⟩:=qg hF48
  refine xw (f:=cI) hv75 hS76 hW (fun _=>rfl) (fun _=>rfl) (qaa (fun _=>rfl)) hx79 (fun v81 c82 h83 hv84 hS85=>?_)
  simp only [qt,qb,Nat.reduceAdd,Nat.zero_add,Nat.add_zero,qu,zj,B0,reduceIte,reduceEqDiff]
  refine qx (us:=[v81]) (j6 (SlF.one hv84)) (cs':=[.int .i64 x43.From,.int .i64 x43.To,
    v81]) (Sep.m1 hS85) hW rfl (qi (SlF.one hv84) zk) (Nat.le_of_ble_eq_true rfl) rfl (fun h87 hS88=>?_)
  simp only [qa,q42,qc,f61,qt,qb,Nat.reduceAdd,Nat.zero_add,Nat.add_zero,qu,qp,B0,reduceIte,reduceEqDiff]
  refine qh (v:=v39) ((jj (Sep.bk _ _ _ (Sep.m3 hS88))).trans rfl) ?_
  simp only [qp,B0,reduceIte,reduceEqDiff]
  refine qh (v := .agg [.int .i64 x43.From,.int .i64 x43.To,v81]) ((z0 (Sep.bk _ _ _ hS88)).trans rfl) ?_
  simp only [kx,evp,B0,reduceIte,reduceEqDiff]
  refine qal (R:=Chan.R) (n:=3) (cs:=[.int .i64 x43.From,.int .i64 x43.To,v81]) (os:=c82) (Sep.m1 hS88) (qat (us:=[.int .i64 x43.From,.int .i64 x43.To,
    v81]) (vs:=[.int .i64 x43.From,.int .i64 x43.To,
    v81]) rfl rfl (Nat.le_of_ble_eq_true rfl) (qi rfl (qi rfl (qi (SlF.one hv84) zk))) rfl qeg) (Chan.RI (x:=(Chan.mk x43.From x43.To l78)) hv84) rfl
    (fun v89 c90 h91 hv92 hS93=>?_)
  simp only [xh,B0,reduceIte,reduceEqDiff]
  obtain ⟨l95,hx96,hF97⟩:=qg hF80
  refine qcz (R:=Chan.R) (c:=c40) hv41 hv92 (Sep.m5 hS93) hW Chan.RO.len Chan.RO.one hx96 (fun v98 c99 h100 hv101 hS102=>?_)
  simp only [f61,qt,qb,Nat.reduceAdd,Nat.zero_add,Nat.add_zero,qu,zj,B0,reduceIte,reduceEqDiff]
  refine qx (us:=[v98]) (j6 (SlN.one hv101)) (cs':=[v24,v98,.nil,.int .i64 s37.Sent,
    .int .i64 s37.Total]) (Sep.m3 hS102) hW rfl (qi (SlN.one hv101) zk) (Nat.le_of_ble_eq_true rfl) rfl (fun h104 hS105=>?_)
  simp only [qa,qo,B0,reduceIte,reduceEqDiff]
  have e106:=qk hF97
  exact hN51 _ _ _ e106.symm ⟨v98,c99,f59,f60,f61,f62,hv101,(Sep.m3 (Sep.m2 (Sep.m3 (Sep.m1 (Sep.dc (Sep.m2 hS105))))))⟩ (f64) (f65)
 rintro s108 fr113 h114 rfl ⟨v110,c111,f116,f117,f118,f119,hv112,hS115⟩
 dsimp only [jnO] at hk47
 unfold qfx at hk47
 simp only [qrd,qd,qc,f116,qt,qb,Nat.reduceAdd,Nat.zero_add,Nat.add_zero,qr,qp,B0,reduceIte,reduceEqDiff]
 refine qh (v:=lst Picture.cells s_0.Pictures) rfl ?_
 simp only [z6,qb,z5,qe,qa,B0,reduceIte,reduceEqDiff]
 obtain ⟨oc132,hX134,hk135⟩:=jp hk47
 simp only [qut]
 refine ko (σ:=Snap) s_0.Pictures (fun i130 x131 s211=>qdu l21 s108 i130 x131 s211) (fun s fr' h'=>∃ v127 c128,
   fr' 2 = .ptr b5 0∧fr' 3 = .ptr b17 0∧fr' 37=lst Picture.cells s_0.Pictures∧SlN Picture.R 4 76 v127 s.Pictures c128∧Sep h' (geL h.length) ([Blk1 b5 [.nil,.nil,
   .nil,.int .i64 0,.int .i64 0] 30]++([Blk1 b17 [v24,v110,v127,.int .i64 s.Sent,.int .i64 s.Total] 30]++(c25++(c111++(c128++([]))))))) hX134 ⟨.nil,[],f117,
   f118,rfl,SlN.nil,((Sep.m3 (Sep.m3 (Sep.m3 (Sep.m3 hS115)))) : Sep _ (geL h.length) ([Blk1 b5 [.nil,.nil,.nil,.int .i64 0,.int .i64 0] 30]++([Blk1 b17 [v24,v110,
   .nil,.int .i64 s108.Sent,.int .i64 s108.Total] 30]++(c25++(c111++([]))))))⟩ (by simp only [B0,reduceIte,reduceEqDiff]) (by simp only [B0,reduceIte,
   reduceEqDiff]) (fun _ _ _ h=>h) rfl rfl (fun _ _ _ _ h=>h) (fun _ _ _ _ h=>h) (fun _ _ _ _ h=>h) (by decide) ?_ ?_
 ·rintro i130 x131 s125 fr144 h145 hx150 ⟨v127,c128,f147,f148,f149,hv129,hS146⟩ f151 f152 oc133 hF136 hr137 Q138 hN139 hB143 hK140 hR141 hE142
  unfold qdu at hF136
  simp only [qzr,qd,qc,f149,f151,jg,B0,reduceIte,reduceEqDiff]
  refine qh (v := .ref (Picture.cells x131) 0) (kp hx150 rfl) ?_
  simp only [qp,B0,reduceIte,reduceEqDiff]
  refine qh (v := .agg [.bool x131.Taken,.int .i64 x131.Amount,lst cI x131.In,lst cB x131.Closed]) rfl ?_
  simp only [jb,B0,reduceIte,reduceEqDiff]
  refine zv hS146 (fun b153 h154 hS155=>?_)
  simp only [zj,B0,reduceIte,reduceEqDiff]
  refine qx (us:=[.bool x131.Taken,.int .i64 x131.Amount,lst cI x131.In,lst cB x131.Closed]) rfl (cs':=[.bool x131.Taken,.int .i64 x131.Amount,lst cI x131.In,
    lst cB x131.Closed]) hS155 hW rfl rfl (Nat.le_of_ble_eq_true rfl) rfl (fun h157 hS158=>?_)
  simp only [qa,qyl,qd,qc,kx,evp,B0,reduceIte,reduceEqDiff]
  refine k8 (n:=1) (f:=cI) ([] : List Int) hS158 rfl rfl (fun v159 c160 h161 hv162 hS163=>?_)
  simp only [qt,qb,Nat.reduceAdd,Nat.zero_add,Nat.add_zero,qu,qp,B0,reduceIte,reduceEqDiff]
  refine qh (v:=lst cI x131.In) ((jj (Sep.bk _ _ _ (Sep.m1 hS163))).trans rfl) ?_
  simp only [xh,B0,reduceIte,reduceEqDiff]
  obtain ⟨l165,hx166,hF167⟩:=qg hF136
  refine xw (f:=cI) hv162 hS163 hW (fun _=>rfl) (fun _=>rfl) (qaa (fun _=>rfl)) hx166 (fun v168 c169 h170 hv171 hS172=>?_)
  simp only [qt,qb,Nat.reduceAdd,Nat.zero_add,Nat.add_zero,qu,zj,B0,reduceIte,reduceEqDiff]
  refine qx (us:=[v168]) (j6 (SlF.one hv171)) (cs':=[.bool x131.Taken,.int .i64 x131.Amount,v168,
    lst cB x131.Closed]) (Sep.m1 hS172) hW rfl (qi (SlF.one hv171) zk) (Nat.le_of_ble_eq_true rfl) rfl (fun h174 hS175=>?_)
  simp only [qa,q0g,qd,qc,kx,evp,B0,reduceIte,reduceEqDiff]
  refine k8 (n:=1) (f:=cB) ([] : List Bool) hS175 rfl rfl (fun v176 c177 h178 hv179 hS180=>?_)
  simp only [qt,qb,Nat.reduceAdd,Nat.zero_add,Nat.add_zero,qu,qp,B0,reduceIte,reduceEqDiff]
  refine qh (v:=lst cB x131.Closed) ((jj (Sep.bk _ _ _ (Sep.m1 hS180))).trans rfl) ?_
  simp only [xh,B0,reduceIte,reduceEqDiff]
  obtain ⟨l182,hx183,hF184⟩:=qg hF167
  refine xw (f:=cB) hv179 hS180 hW (fun _=>rfl) (fun _=>rfl) (qaa (fun _=>rfl)) hx183 (fun v185 c186 h187 hv188 hS189=>?_)
  simp only [qt,qb,Nat.reduceAdd,Nat.zero_add,Nat.add_zero,qu,zj,B0,reduceIte,reduceEqDiff]
  refine qx (us:=[v185]) (j6 (SlF.one hv188)) (cs':=[.bool x131.Taken,.int .i64 x131.Amount,v168,
    v185]) (Sep.m1 hS189) hW rfl (qi (SlF.one hv188) zk) (Nat.le_of_ble_eq_true rfl) rfl (fun h191 hS192=>?_)
  simp only [qa,q41,qc,f148,qt,qb,Nat.reduceAdd,Nat.zero_add,Nat.add_zero,qu,qp,B0,reduceIte,reduceEqDiff]
  refine qh (v:=v127) ((jj (Sep.bk _ _ _ (Sep.m4 hS192))).trans rfl) ?_
  simp only [qp,B0,reduceIte,reduceEqDiff]
  refine qh (v := .agg [.bool x131.Taken,.int .i64 x131.Amount,v168,v185]) ((z0 (Sep.bk _ _ _ hS192)).trans rfl) ?_
  simp only [kx,evp,B0,reduceIte,reduceEqDiff]
  refine qal (R:=Picture.R) (n:=4) (cs:=[.bool x131.Taken,.int .i64 x131.Amount,v168,
    v185]) (os:=c169++(c186)) (Sep.bi2 (c1:=c169) (c2:=c186) (Sep.m2 (Sep.m1 hS192))) (qat (us:=[.bool x131.Taken,.int .i64 x131.Amount,v168,
    v185]) (vs:=[.bool x131.Taken,.int .i64 x131.Amount,v168,
    v185]) rfl rfl (Nat.le_of_ble_eq_true rfl) (qi rfl (qi rfl (qi (SlF.one hv171) (qi (SlF.one hv188) zk)))) rfl qeg) (Picture.RI (x :=
    (Picture.mk x131.Taken x131.Amount l165 l182)) hv171 hv188) rfl (fun v193 c194 h195 hv196 hS197=>?_)
  simp only [xh,B0,reduceIte,reduceEqDiff]
  obtain ⟨l199,hx200,hF201⟩:=qg hF184
  refine qcz (R:=Picture.R) (c:=c128) hv129 hv196 (Sep.m6 hS197) hW Picture.RO.len Picture.RO.one hx200 (fun v202 c203 h204 hv205 hS206=>?_)
  simp only [f148,qt,qb,Nat.reduceAdd,Nat.zero_add,Nat.add_zero,qu,zj,B0,reduceIte,reduceEqDiff]
  refine qx (us:=[v202]) (j6 (SlN.one hv205)) (cs':=[v24,v110,v202,.int .i64 s125.Sent,
    .int .i64 s125.Total]) (Sep.m3 hS206) hW rfl (qi (SlN.one hv205) zk) (Nat.le_of_ble_eq_true rfl) rfl (fun h208 hS209=>?_)
  simp only [qa,qo,B0,reduceIte,reduceEqDiff]
  have e210:=qk hF201
  exact hN139 _ _ _ e210.symm ⟨v202,c203,f147,f148,f149,hv205,(Sep.m4 (Sep.m3 (Sep.m4 (Sep.m4 (Sep.m1 (Sep.dc (Sep.m2 hS209)))))))⟩ (f151) (f152)
 rintro s212 fr217 h218 rfl ⟨v214,c215,f220,f221,f222,hv216,hS219⟩
 dsimp only [jnO] at hk135
 unfold qis at hk135
 simp only [qd,qc,f221,qp,B0,reduceIte,reduceEqDiff]
 refine qh (v := .agg [v24,v110,v214,.int .i64 s212.Sent,.int .i64 s212.Total]) ((z0 (Sep.bk _ _ _ (Sep.m1 hS219))).trans rfl) ?_
 simp only [f220,zj,B0,reduceIte,reduceEqDiff]
 refine qx (us:=[v24,v110,v214,.int .i64 s212.Sent,.int .i64 s212.Total]) rfl (cs':=[v24,v110,v214,.int .i64 s212.Sent,
   .int .i64 s212.Total]) hS219 hW rfl (qi (SlF.one hv27) (qi (SlN.one hv112) (qi (SlN.one hv216) (qi rfl (qi rfl zk))))) (Nat.le_of_ble_eq_true rfl) rfl
   (fun h223 hS224=>?_)
 simp only [qa,qz,B0,reduceIte,reduceEqDiff]
 have he:=qk hk135
 subst he
 refine ua (bb:=b5) (oo:=0) (v := .agg [v24,v110,v214,.int .i64 s212.Sent,.int .i64 s212.Total]) (by simp only [f220,B0,reduceIte,
   reduceEqDiff]) ((z0 (Sep.bk _ _ _ hS224)).trans rfl) ?_
 exact ⟨v24,c25,v110,c111,v214,c215,by first | trivial | rfl,hv27,hv112,hv216,(Sep.m2 (Sep.m2 (Sep.m2 (Sep.dc ((Sep.dc (hS224)))))))⟩
end Go.Proofs.Ytpkiieniipenjaa.X
namespace Go.Proofs.Ytpkiieniipenjaa.X
open Go
open Nat (reduceEqDiff)
theorem qkx {W:Nat→Bool}{h:Heap} (hW:∀ b,
  (geL h.length) b→W b=true) (k:Nat) (procs_0:Int) (amount_1:Int) (l_2:List SnapStep) (r:Snap × (List Bool) × Bool)
  (hF:uk k procs_0 amount_1 l_2=some r) : Ret E W 8 [.int .i64 procs_0,.int .i64 amount_1,
  lst SnapStep.cells l_2] h (fun v h'=>∃ rv0_0 rc0_0 rv0_1 rc0_1 rv0_2 rc0_2 rv1 rc1,v = .tup [.agg [rv0_0,rv0_1,rv0_2,.int .i64 r.1.Sent,.int .i64 r.1.Total],rv1,
  .bool r.2.2]∧SlF cI 1 3 rv0_0 r.1.Amounts rc0_0∧SlN Chan.R 3 74 rv0_1 r.1.Chans rc0_1∧SlN Picture.R 4 76 rv0_2 r.1.Pictures rc0_2∧SlF cB 1 4 rv1 r.2.1 rc1∧Sep h'
  (geL h.length) (rc0_0++(rc0_1++(rc0_2++(rc1++([])))))):=by
 refine Ret.of (fn:=x8) rfl (Run.of ?_)
 unfold uk at hF
 have zf0:zh [.int .i64 procs_0,.int .i64 amount_1,lst SnapStep.cells l_2] 0 = .int .i64 procs_0:=rfl
 have zf1:zh [.int .i64 procs_0,.int .i64 amount_1,lst SnapStep.cells l_2] 1 = .int .i64 amount_1:=rfl
 have zf2:zh [.int .i64 procs_0,.int .i64 amount_1,lst SnapStep.cells l_2] 2=lst SnapStep.cells l_2:=rfl
 generalize zh [.int .i64 procs_0,.int .i64 amount_1,lst SnapStep.cells l_2]=fr0 at zf0 zf1 zf2 ⊢
 have hS:Sep h (geL h.length) []:=Sep.nil h
 simp only [x8,qd,qc,jb,B0,reduceIte,reduceEqDiff]
 refine zv hS (fun b1 h2 hS3=>?_)
 obtain ⟨v5,hx6,hF7⟩:=qg hF
 simp only [qe,qa,q5o,qd,qc,zf0,zf1,zd,B0,reduceIte,reduceEqDiff]
 refine ut rfl hS3 (qj qq (qj qq q9)) (qe4 (fun b hb=>decide_eq_true hb) k procs_0 amount_1 v5 hx6) ?_
 rintro _ h20 ⟨v8,c9,v12,c13,v16,c17,rfl,hv10,hv14,hv18,hS21⟩
 refine ⟨_,qex (qi (qcn (qi (SlF.free1 hv10) (qi (SlN.free1 hv14) (qi (SlN.free1 hv18) (qi rfl (qi rfl zk)))))) (qi rfl zk)),hS21,
   (jc (SlF.pf hv10 (fun _=>rfl)) (jc (SlN.pf hv14 Chan.RO) (jc (SlN.pf hv18 Picture.RO) wt))),fun h22 hS23=>?_⟩
 have hS24:Sep h22 (geL h.length) (c9++(c13++(c17++([Blk1 b1 [.nil,.nil,.nil,.int .i64 0,.int .i64 0] 30]++([]))))):=by simpa only [List.append_assoc,
   List.nil_append] using hS23
 simp only [qe,wj,qb,w6,w5,jb,B0,reduceIte,reduceEqDiff]
 refine zv hS24 (fun b25 h26 hS27=>?_)
 simp only [zj,B0,reduceIte,reduceEqDiff]
 refine qx (us:=[v8,v12,v16,.int .i64 v5.1.Sent,.int .i64 v5.1.Total]) rfl (cs':=[v8,v12,v16,.int .i64 v5.1.Sent,
   .int .i64 v5.1.Total]) hS27 hW rfl (qi (SlF.one hv10) (qi (SlN.one hv14) (qi (SlN.one hv18) (qi rfl (qi rfl zk))))) (Nat.le_of_ble_eq_true rfl) rfl
   (fun h29 hS30=>?_)
 simp only [qe,qa,q0n,qd,qc,jz,qb,kf,B0,reduceIte,reduceEqDiff]
 refine j0 4 (fun fr' h'=>Sep h' (geL h.length) ([Blk1 b1 [.nil,.nil,.nil,.int .i64 0,.int .i64 0] 30]++([Blk1 b25 [v8,v12,v16,.int .i64 v5.1.Sent,
   .int .i64 v5.1.Total] 30]++(c9++(c13++(c17++([]))))))∧fr' 28 = .bool ((!v5.2)||(decide ((80:Int) <
   (List.length l_2:Int))))∧fr' 2=lst SnapStep.cells l_2∧fr' 6 = .ptr b1 0∧fr' 9 = .ptr b25 0) (fun Q31 hN32=>?_) ?_
 ·simp only [List.take_succ_cons,List.take_zero]
  simp only [ql (g:=24),B0,reduceIte,reduceEqDiff]
  refine zn (t:=(!v5.2)) (fun hg33=>?_) (fun hg33=>?_)
  ·simp only [hg33,ql (g:=24),jm,za,qb,zp,qa,qo,B0,reduceIte,reduceEqDiff]
   exact hN32 _ _ ⟨(Sep.m4 (Sep.m3 (Sep.m3 (Sep.m3 (Sep.m3 hS30))))),by rw [orT hg33]; simp only [B0,reduceIte,reduceEqDiff],zf2,rfl,rfl⟩
  ·simp only [hg33,ql (g:=24),qv,zf2,qe,z6,qb,z5,zf,qe7,za,zq,qa,qo,B0,reduceIte,
    reduceEqDiff]
   exact hN32 _ _ ⟨(Sep.m4 (Sep.m3 (Sep.m3 (Sep.m3 (Sep.m3 hS30))))),by rw [orF hg33]; simp only [B0,reduceIte,reduceEqDiff],zf2,rfl,rfl⟩
 rintro fr34 h39 ⟨hS40,f35,f36,f37,f38⟩
 simp only [List.drop_succ_cons,List.drop_zero]
 simp only [qa,q7u,f35,zc,B0,reduceIte,reduceEqDiff]
 refine zb (t:=((!v5.2)||(decide ((80:Int)<(List.length l_2:Int))))) (fun hc41=>?_) (fun hc41=>?_)
 ·rw [iteT hc41] at hF7
  simp only [q7b,qd,qc,run_build,evp,B0,reduceIte,reduceEqDiff]
  refine qh (v := .agg [.nil,.nil,.nil,.int .i64 0,.int .i64 0]) rfl ?_
  simp only [f37,zj,B0,reduceIte,reduceEqDiff]
  refine qx (us:=[.nil,.nil,.nil,.int .i64 0,.int .i64 0]) rfl (cs':=[.nil,.nil,.nil,.int .i64 0,
    .int .i64 0]) hS40 hW rfl rfl (Nat.le_of_ble_eq_true rfl) rfl (fun h42 hS43=>?_)
  simp only [qe,qa,qz,B0,reduceIte,reduceEqDiff]
  have he:=qk hF7
  subst he
  refine jr (qj (jv (bb:=b1) (oo:=0) (v := .agg [.nil,.nil,.nil,.int .i64 0,
    .int .i64 0]) (f37) ((z0 (Sep.bk _ _ _ hS43)).trans rfl)) (qj (kz (v := .nil) (rfl)) (qj (kz (v := .bool false) (rfl)) q9))) ?_
  exact ⟨.nil,[],.nil,[],.nil,[],.nil,[],by first | trivial | rfl,SlF.nil,SlN.nil,SlN.nil,SlF.nil,
    ((Sep.dc ((Sep.dc ((Sep.dc ((Sep.dc ((Sep.dc (hS43)))))))))) : Sep _ (geL h.length) ([]))⟩
 rw [iteF hc41] at hF7
 simp only [zg,qxt,qd,qc,qe,qa,qye,f36,z6,qb,z5,B0,reduceIte,reduceEqDiff]
 obtain ⟨oc82,hX84,hk85⟩:=jp hF7
 simp only [q74]
 refine ko (σ:=(List Bool) × Snap) l_2 (fun i80 x81 s203=>qai i80 x81 s203.1 s203.2) (fun s fr' h'=>∃ v64 c65 v69 c70 v73 c74 v77 c78,
   fr' 6 = .ptr b1 0∧fr' 9 = .ptr b25 0∧fr' 11=v64∧fr' 30=lst SnapStep.cells l_2∧SlF cB 1 4 v64 s.1 c65∧SlF cI 1 3 v69 s.2.Amounts c70∧SlN Chan.R 3 74 v73 s.2.Chans c74∧SlN Picture.R 4 76 v77 s.2.Pictures c78∧Sep h'
   (geL h.length) ([Blk1 b1 [.nil,.nil,.nil,.int .i64 0,.int .i64 0] 30]++([Blk1 b25 [v69,v73,v77,.int .i64 s.2.Sent,
   .int .i64 s.2.Total] 30]++(c65++(c70++(c74++(c78++([])))))))) hX84 ⟨.nil,[],v8,c9,v12,c13,v16,c17,f37,f38,rfl,rfl,SlF.nil,hv10,hv14,hv18,
   ((Sep.m4 (Sep.m4 (Sep.m4 (Sep.m4 (Sep.m4 hS40))))) : Sep _ (geL h.length) ([Blk1 b1 [.nil,.nil,.nil,.int .i64 0,.int .i64 0] 30]++([Blk1 b25 [v8,v12,v16,
   .int .i64 v5.1.Sent,.int .i64 v5.1.Total] 30]++(c9++(c13++(c17++([])))))))⟩ (by simp only [B0,reduceIte,reduceEqDiff]) (by simp only [B0,reduceIte,
   reduceEqDiff]) (fun _ _ _ h=>h) rfl rfl (fun _ _ _ _ h=>h) (fun _ _ _ _ h=>h) (fun _ _ _ _ h=>h) (by decide) ?_ ?_
 ·rintro i80 x81 ⟨s62,s67⟩ fr94 h95 hx101 ⟨v64,c65,v69,c70,v73,c74,v77,c78,f97,f98,f99,f100,hv66,hv71,hv75,hv79,
   hS96⟩ f102 f103 oc83 hF86 hr87 Q88 hN89 hB93 hK90 hR91 hE92
  dsimp only at *
  unfold qai at hF86
  simp only [q75,qd,qc,f100,f102,jg,B0,reduceIte,reduceEqDiff]
  refine qh (v := .ref (SnapStep.cells x81) 0) (kp hx101 rfl) ?_
  simp only [qp,B0,reduceIte,reduceEqDiff]
  refine qh (v := .agg [.int .i64 x81.Kind,.int .i64 x81.K,.int .i64 x81.N]) rfl ?_
  simp only [jb,B0,reduceIte,reduceEqDiff]
  refine zv hS96 (fun b104 h105 hS106=>?_)
  simp only [zj,B0,reduceIte,reduceEqDiff]
  refine qx (us:=[.int .i64 x81.Kind,.int .i64 x81.K,.int .i64 x81.N]) rfl (cs':=[.int .i64 x81.Kind,.int .i64 x81.K,
    .int .i64 x81.N]) hS106 hW rfl rfl (Nat.le_of_ble_eq_true rfl) rfl (fun h108 hS109=>?_)
  simp only [qa,B0,reduceIte,reduceEqDiff]
  refine zw hS109 hW (by simp only [B0,reduceIte,reduceEqDiff]) (fun h110 hS111=>?_)
  simp only [zo,q73,qd,jd,qkt,B0,reduceIte,reduceEqDiff]
  refine qge hS111 (fun b112 h113 hS114=>?_)
  simp only [f98,ze,B0,reduceIte,reduceEqDiff]
  refine qm (v := .agg [v69,v73,v77,.int .i64 s67.Sent,.int .i64 s67.Total]) ((z0 (Sep.bk _ _ _ (Sep.m2 hS114))).trans rfl) ?_
  obtain ⟨v116,hx117,hF118⟩:=qg hF86
  simp only [qdn,B0,reduceIte,reduceEqDiff]
  refine qvv rfl hS114 (qj (ji (qj (SlF.snap hv71 (Sep.m4 hS114) rfl (fun _=>rfl) (fun _=>rfl)) (qj (SlN.snap hv75 _ (Sep.m5 hS114) rfl Chan.RO) (qj
    (SlN.snap hv79 _ (Sep.m6 hS114) rfl Picture.RO) (qj qq (qj qq q9)))))) q9) (qbv (fun b hb=>decide_eq_true hb) s67 v116 hx117) ?_
  rintro _ h131 ⟨v119,c120,v123,c124,v127,c128,rfl,hv121,hv125,hv129,hS132⟩
  refine ⟨_,qci (qi (SlF.free1 hv121) (qi (SlN.free1 hv125) (qi (SlN.free1 hv129) (qi rfl (qi rfl zk))))),hS132,
    (jc (SlF.pf hv121 (fun _=>rfl)) (jc (SlN.pf hv125 Chan.RO) (jc (SlN.pf hv129 Picture.RO) wt))),fun h133 hS134=>?_⟩
  have hS135:Sep h133 (geL h.length) (c120++(c124++(c128++([Blk1 b112 [.nil,.nil,.nil,.int .i64 0,.int .i64 0] 30]++([Blk1 b1 [.nil,.nil,.nil,.int .i64 0,
    .int .i64 0] 30]++([Blk1 b25 [v69,v73,v77,.int .i64 s67.Sent,
    .int .i64 s67.Total] 30]++(c65++(c70++(c74++(c78++([]))))))))))):=by simpa only [List.append_assoc,List.nil_append] using hS134
  simp only [qbl,qbt,B0,reduceIte,reduceEqDiff]
  refine qm (v := .agg [.int .i64 x81.Kind,.int .i64 x81.K,.int .i64 x81.N]) rfl ?_
  obtain ⟨v136,hx137,hF138⟩:=qg hF118
  simp only [wu,B0,reduceIte,reduceEqDiff]
  refine qla rfl (qio hW v116 v119 c120 hv121 v123 c124 hv125 v127 c128 hv129 x81 v136 hx137 (Sep.m2 (Sep.m2 (Sep.m2 hS135)))) ?_
  rintro _ h145 ⟨c139,c141,c143,rfl,hv140,hv142,hv144,hS146⟩
  simp only [zr,qf,qrv,w6,quj,w5,xj,B0,reduceIte,reduceEqDiff]
  refine qa6 (us:=[v119,v123,v127,.int .i64 v136.1.Sent,.int .i64 v136.1.Total]) rfl (cs':=[v119,v123,v127,.int .i64 v136.1.Sent,
    .int .i64 v136.1.Total]) (Sep.m3 hS146) hW rfl (qi (SlF.one hv140) (qi (SlN.one hv142) (qi (SlN.one hv144) (qi rfl (qi rfl zk)))))
    (Nat.le_of_ble_eq_true rfl) rfl (fun h147 hS148=>?_)
  simp only [zr,qf,qs,B0,reduceIte,reduceEqDiff]
  refine zw hS148 hW (by simp only [B0,reduceIte,reduceEqDiff]) (fun h149 hS150=>?_)
  simp only [zo,q8n,qd,qc,qe,qa,q8k,zc,B0,reduceIte,reduceEqDiff]
  obtain ⟨s151,hX165,hk166⟩:=qg hF138
  refine u5 (t:=v136.2) (fun fr' h'=>∃ v153 c154 v157 c158 v161 c162,
    fr' 6 = .ptr b1 0∧fr' 9 = .ptr b25 0∧fr' 11=v64∧fr' 15 = .bool v136.2∧fr' 30=lst SnapStep.cells l_2∧fr' 31 = .int .i64
    (List.length l_2:Int)∧fr' 32 = .int .i64
    (i80:Int)∧SlF cI 1 3 v153 s151.Amounts c154∧SlN Chan.R 3 74 v157 s151.Chans c158∧SlN Picture.R 4 76 v161 s151.Pictures c162∧Sep h' (geL h.length)
    ([Blk1 b1 [.nil,.nil,.nil,.int .i64 0,.int .i64 0] 30]++([Blk1 b25 [v153,v157,v161,.int .i64 s151.Sent,
    .int .i64 s151.Total] 30]++(c65++(c154++(c158++(c162++([])))))))) (fun Q167 hN168 hR169 hE170=>⟨fun hc171=>?_,fun hc171=>?_⟩) ?_
  ·rw [iteT hc171] at hX165
   simp only [qc,qp,B0,reduceIte,reduceEqDiff]
   refine qh (v := .agg [v119,v123,v127,.int .i64 v136.1.Sent,.int .i64 v136.1.Total]) rfl ?_
   simp only [f98,zj,B0,reduceIte,reduceEqDiff]
   refine qx (us:=[v119,v123,v127,.int .i64 v136.1.Sent,.int .i64 v136.1.Total]) rfl (cs':=[v119,v123,v127,.int .i64 v136.1.Sent,
     .int .i64 v136.1.Total]) (Sep.m4 hS150) hW rfl (qi (SlF.one hv140) (qi (SlN.one hv142) (qi (SlN.one hv144) (qi rfl (qi rfl zk)))))
     (Nat.le_of_ble_eq_true rfl) rfl (fun h172 hS173=>?_)
   simp only [qa,qo,B0,reduceIte,reduceEqDiff]
   have e174:=qk hX165
   subst e174
   exact hN168 _ _ ⟨v119,c139,v123,c141,v127,c143,f97,f98,f99,rfl,f100,f103,f102,hv140,hv142,hv144,
     (Sep.m5 (Sep.m4 (Sep.m5 (Sep.m3 (Sep.m3 (Sep.m3 (Sep.dc (Sep.m6 (Sep.dc (Sep.m6 (Sep.dc (Sep.m6 hS173))))))))))))⟩
  ·rw [iteF hc171] at hX165
   simp only [zg,qo,B0,reduceIte,reduceEqDiff]
   have e175:=qk hX165
   subst e175
   exact hN168 _ _ ⟨v69,c70,v73,c74,v77,c78,f97,f98,f99,rfl,f100,f103,f102,hv71,hv75,hv79,
     (Sep.m5 (Sep.m5 (Sep.m5 (Sep.m5 (Sep.m5 (Sep.m5 (Sep.dc ((Sep.dc ((Sep.dc (hS150))))))))))))⟩
  rintro fr176 h177 ⟨v153,c154,v157,c158,v161,c162,f179,f180,f181,f182,f183,f184,f185,hv155,hv159,hv163,hS178⟩
  unfold qgz at hk166
  simp only [q8g,qc,f181,qe,f182,kx,evp,B0,reduceIte,reduceEqDiff]
  refine k8 (n:=1) (f:=cB) [v136.2] hS178 rfl rfl (fun v186 c187 h188 hv189 hS190=>?_)
  simp only [xh,B0,reduceIte,reduceEqDiff]
  obtain ⟨l192,hx193,hF194⟩:=qg hk166
  refine xw (f:=cB) hv66 (Sep.m3 hS190) hW (fun _=>rfl) (fun _=>rfl) (SlF.first hv189 hS190 (fun _=>rfl)) hx193 (fun v195 c196 h197 hv198 hS199=>?_)
  simp only [qe,qa,qo,B0,reduceIte,reduceEqDiff]
  have e201:=qk hF194
  exact hN89 _ _ _ e201.symm ⟨v195,c196,v153,c154,v157,c158,v161,c162,f179,f180,rfl,f183,hv198,hv155,hv159,hv163,
    (Sep.m5 (Sep.m5 (Sep.m3 (Sep.m5 (Sep.m5 (Sep.m5 (Sep.dc (Sep.m1 hS199))))))))⟩ (f185) (f184)
 rintro ⟨s204,s209⟩ fr222 h223 rfl ⟨v206,c207,v211,c212,v215,c216,v219,c220,f225,f226,f227,f228,hv208,hv213,hv217,hv221,hS224⟩
 dsimp only [jnO] at hk85
 dsimp only at *
 unfold qgp at hk85
 simp only [q1f,qd,qc,f226,qp,B0,reduceIte,reduceEqDiff]
 refine qh (v := .agg [v211,v215,v219,.int .i64 s209.Sent,.int .i64 s209.Total]) ((z0 (Sep.bk _ _ _ (Sep.m1 hS224))).trans rfl) ?_
 obtain ⟨v229,hx230,hF231⟩:=qg hk85
 simp only [zd,B0,reduceIte,reduceEqDiff]
 refine ut rfl hS224 (qj (ji (qj (SlF.snap hv213 (Sep.m3 hS224) rfl (fun _=>rfl) (fun _=>rfl)) (qj (SlN.snap hv217 _ (Sep.m4 hS224) rfl Chan.RO) (qj
   (SlN.snap hv221 _ (Sep.m5 hS224) rfl Picture.RO) (qj qq (qj qq q9)))))) q9) (qbv (fun b hb=>decide_eq_true hb) s209 v229 hx230) ?_
 rintro _ h244 ⟨v232,c233,v236,c237,v240,c241,rfl,hv234,hv238,hv242,hS245⟩
 refine ⟨_,qci (qi (SlF.free1 hv234) (qi (SlN.free1 hv238) (qi (SlN.free1 hv242) (qi rfl (qi rfl zk))))),hS245,
   (jc (SlF.pf hv234 (fun _=>rfl)) (jc (SlN.pf hv238 Chan.RO) (jc (SlN.pf hv242 Picture.RO) wt))),fun h246 hS247=>?_⟩
 have hS248:Sep h246 (geL h.length) (c233++(c237++(c241++([Blk1 b1 [.nil,.nil,.nil,.int .i64 0,.int .i64 0] 30]++([Blk1 b25 [v211,v215,v219,.int .i64 s209.Sent,
   .int .i64 s209.Total] 30]++(c207++(c212++(c216++(c220++([])))))))))):=by simpa only [List.append_assoc,List.nil_append] using hS247
 simp only [f227,qe,f225,zj,B0,reduceIte,reduceEqDiff]
 refine qx (us:=[v232,v236,v240,.int .i64 v229.Sent,.int .i64 v229.Total]) rfl (cs':=[v232,v236,v240,.int .i64 v229.Sent,
   .int .i64 v229.Total]) (Sep.m3 hS248) hW rfl (qi (SlF.one hv234) (qi (SlN.one hv238) (qi (SlN.one hv242) (qi rfl (qi rfl zk)))))
   (Nat.le_of_ble_eq_true rfl) rfl (fun h249 hS250=>?_)
 simp only [qe,qa,qz,B0,reduceIte,reduceEqDiff]
 have he:=qk hF231
 subst he
 refine jr (qj (jv (bb:=b1) (oo:=0) (v := .agg [v232,v236,v240,.int .i64 v229.Sent,
   .int .i64 v229.Total]) (f225) ((z0 (Sep.bk _ _ _ hS250)).trans rfl)) (qj (kz (v:=v206) (rfl)) (qj (kz (v := .bool true) (rfl)) q9))) ?_
 exact ⟨v232,c233,v236,c237,v240,c241,v206,c207,by first | trivial | rfl,hv234,hv238,hv242,hv208,
   (Sep.m3 (Sep.m3 (Sep.m3 (Sep.m3 (Sep.dc (Sep.m4 (Sep.dc (Sep.m4 (Sep.dc (Sep.m4 (Sep.dc (Sep.m3 (Sep.dc (hS250))))))))))))))⟩
theorem qjo {W:Nat→Bool}{h:Heap}{lo:Nat→Prop}{S0:List Obj} (hW:∀ b,
  lo b→W b=true) (k:Nat) (pb0:Nat) (v_0:L1Cur) (r:Snap × L1Cur) (hF:qd8 k v_0=some r) (hS:Sep h lo ([Blk1 pb0 [lst cU8 v_0.code,.int .i64 v_0.at_,
  .int .u64 v_0.seed] 64]++(S0))) : Ret E W 64 [.ptr pb0 0] h (fun v h'=>∃ rv0_0 rc0_0 rv0_1 rc0_1 rv0_2 rc0_2,v = .agg [rv0_0,rv0_1,rv0_2,.int .i64 r.1.Sent,
  .int .i64 r.1.Total]∧SlF cI 1 3 rv0_0 r.1.Amounts rc0_0∧SlN Chan.R 3 74 rv0_1 r.1.Chans rc0_1∧SlN Picture.R 4 76 rv0_2 r.1.Pictures rc0_2∧Sep h' lo (rc0_0 ++
  (rc0_1++(rc0_2++([Blk1 pb0 [lst cU8 r.2.code,.int .i64 r.2.at_,.int .u64 r.2.seed] 64]++(S0)))))):=by
 refine Ret.of (fn:=x64) rfl (Run.of ?_)
 unfold qd8 at hF
 have zf0:zh [.ptr pb0 0] 0 = .ptr pb0 0:=rfl
 generalize zh [.ptr pb0 0]=fr0 at zf0 ⊢
 simp only [x64,qd,qc,jb,B0,reduceIte,reduceEqDiff]
 refine zv hS (fun b1 h2 hS3=>?_)
 obtain ⟨v5,hx6,hF7⟩:=qg hF
 simp only [qa,qvu,qd,qc,zf0,qe,zd,B0,reduceIte,reduceEqDiff]
 refine yp rfl (wg hW pb0 v_0 3 v5 hx6 (Sep.m1 hS3)) ?_
 rintro _ h8 ⟨rfl,hS9⟩
 obtain ⟨v10,hx11,hF12⟩:=qg hF7
 simp only [zf,qb,yz,qe,qa,qqn,qd,qc,zf0,zd,B0,reduceIte,reduceEqDiff]
 refine yp rfl (qg3 hW k pb0 v5.2 (IntKind.wrap .i64 ((2:Int)+v5.1)) v10 hx11 hS9) ?_
 rintro v13 h17 ⟨_,c14,rfl,hv15,hS18⟩
 simp only [qe,qa,qub,qd,qc,z6,qb,SlF.plen hv15,zf,qe7,qzi,zc,B0,reduceIte,reduceEqDiff]
 obtain ⟨s19,hX25,hk26⟩:=qg hF12
 refine u5 (t:=(decide ((80:Int)<(List.length v10.1:Int)))) (fun fr' h'=>∃ v21 c22,
   fr' 0 = .ptr pb0 0∧fr' 2 = .ptr b1 0∧fr' 3 = .int .i64 (IntKind.wrap .i64 ((2:Int)+v5.1))∧fr' 4=v21∧SlF SnapStep.cells 3 51 v21 s19 c22∧Sep h' lo
   ([Blk1 pb0 [lst cU8 v10.2.code,.int .i64 v10.2.at_,.int .u64 v10.2.seed] 64]++([Blk1 b1 [.nil,.nil,.nil,.int .i64 0,
   .int .i64 0] 30]++(c22++(S0))))) (fun Q27 hN28 hR29 hE30=>⟨fun hc31=>?_,fun hc31=>?_⟩) ?_
 ·rw [iteT hc31] at hX25
  obtain ⟨l32,hx33,hF34⟩:=qg hX25
  simp only [qc,qe,qlo,Option.map_some,Option.map_none,B0,reduceIte,reduceEqDiff]
  obtain ⟨v35,he36,hv37⟩:=SlF.trunc (f1:=SnapStep.cells) hv15 hx33 (fun _=>rfl) hS18
  refine qh he36 ?_
  simp only [qe,qa,qo,B0,reduceIte,reduceEqDiff]
  have e39:=qk hF34
  subst e39
  exact hN28 _ _ ⟨v35,c14,zf0,rfl,rfl,rfl,hv37,(Sep.m2 (Sep.m2 hS18))⟩
 ·rw [iteF hc31] at hX25
  simp only [zg,qo,B0,reduceIte,reduceEqDiff]
  have e40:=qk hX25
  subst e40
  exact hN28 _ _ ⟨v13,c14,zf0,rfl,rfl,rfl,hv15,(Sep.m2 (Sep.m2 hS18))⟩
 rintro fr41 h42 ⟨v21,c22,f44,f45,f46,f47,hv23,hS43⟩
 unfold qeu at hk26
 simp only [qse,qd,qc,f46,qe,f44,kx,evp,B0,reduceIte,reduceEqDiff]
 refine k8 (n:=1) (f:=cI) [0,5,100,250] hS43 rfl rfl (fun v48 c49 h50 hv51 hS52=>?_)
 obtain ⟨v54,hx55,hF56⟩:=qg hk26
 simp only [zd,B0,reduceIte,reduceEqDiff]
 refine yp rfl (qgw hW pb0 v10.2 v48 c49 [0,5,100,250] hv51 v54 hx55 (Sep.m1 hS52)) ?_
 rintro _ h59 ⟨c57,rfl,hv58,hS60⟩
 obtain ⟨v61,hx62,hF63⟩:=qg hF56
 simp only [f47,qe,zd,B0,reduceIte,reduceEqDiff]
 refine ut rfl hS60 (qj qq (qj qq (qj (SlF.snap hv23 (Sep.m3 hS60) rfl (fun _=>rfl) (fun _=>rfl)) q9))) (qkx
   (fun b hb=>decide_eq_true hb) k (IntKind.wrap .i64 ((2:Int)+v5.1)) v54.1 s19 v61 hx62) ?_
 rintro _ h80 ⟨v64,c65,v68,c69,v72,c73,v76,c77,rfl,hv66,hv70,hv74,hv78,hS81⟩
 refine ⟨_,qex (qi (qcn (qi (SlF.free1 hv66) (qi (SlN.free1 hv70) (qi (SlN.free1 hv74) (qi rfl (qi rfl zk)))))) (qi (q6o (SlF.free1 hv78))
   (qi rfl zk))),hS81,(jc (SlF.pf hv66 (fun _=>rfl)) (jc (SlN.pf hv70 Chan.RO) (jc (SlN.pf hv74 Picture.RO) (jc (SlF.pf hv78
   (fun _=>rfl)) wt)))),fun h82 hS83=>?_⟩
 have hS84:Sep h82 lo (c65++(c69++(c73++(c77++([Blk1 pb0 [lst cU8 v54.2.1.code,.int .i64 v54.2.1.at_,.int .u64 v54.2.1.seed] 64]++(c57++([Blk1 b1 [.nil,.nil,
   .nil,.int .i64 0,.int .i64 0] 30]++(c22++(S0))))))))):=by simpa only [List.append_assoc,List.nil_append] using hS83
 simp only [qe,wj,qb,w6,w5,qm6,jb,B0,reduceIte,reduceEqDiff]
 refine zv hS84 (fun b85 h86 hS87=>?_)
 simp only [zj,B0,reduceIte,reduceEqDiff]
 refine qx (us:=[v64,v68,v72,.int .i64 v61.1.Sent,.int .i64 v61.1.Total]) rfl (cs':=[v64,v68,v72,.int .i64 v61.1.Sent,
   .int .i64 v61.1.Total]) hS87 hW rfl (qi (SlF.one hv66) (qi (SlN.one hv70) (qi (SlN.one hv74) (qi rfl (qi rfl zk))))) (Nat.le_of_ble_eq_true rfl) rfl
   (fun h89 hS90=>?_)
 simp only [qe,qa,qq2,qd,qc,jz,qb,kf,qx8,zc,B0,reduceIte,reduceEqDiff]
 obtain ⟨s91,hX105,hk106⟩:=qg hF63
 refine u5 (t:=(!v61.2.2)) (fun fr' h'=>∃ v93 c94 v97 c98 v101 c102,
   fr' 0 = .ptr pb0 0∧fr' 2 = .ptr b1 0∧fr' 5 = .ptr b85 0∧SlF cI 1 3 v93 s91.Amounts c94∧SlN Chan.R 3 74 v97 s91.Chans c98∧SlN Picture.R 4 76 v101 s91.Pictures c102∧Sep h' lo
   ([Blk1 pb0 [lst cU8 v54.2.1.code,.int .i64 v54.2.1.at_,.int .u64 v54.2.1.seed] 64]++([Blk1 b1 [.nil,.nil,.nil,.int .i64 0,.int .i64 0] 30]++([Blk1 b85 [v93,v97,
   v101,.int .i64 s91.Sent,.int .i64 s91.Total] 30]++(c94++(c98++(c102++(S0)))))))) (fun Q107 hN108 hR109 hE110=>⟨fun hc111=>?_,fun hc111=>?_⟩) ?_
 ·rw [iteT hc111] at hX105
  obtain ⟨v112,hx113,hF114⟩:=qg hX105
  simp only [q38,qc,zd,B0,reduceIte,reduceEqDiff]
  refine ut rfl hS90 (qj qq (qj qq q9)) (qe4 (fun b hb=>decide_eq_true hb) k 2 5 v112 hx113) ?_
  rintro _ h127 ⟨v115,c116,v119,c120,v123,c124,rfl,hv117,hv121,hv125,hS128⟩
  refine ⟨_,qex (qi (qcn (qi (SlF.free1 hv117) (qi (SlN.free1 hv121) (qi (SlN.free1 hv125) (qi rfl (qi rfl zk)))))) (qi rfl zk)),hS128,
    (jc (SlF.pf hv117 (fun _=>rfl)) (jc (SlN.pf hv121 Chan.RO) (jc (SlN.pf hv125 Picture.RO) wt))),fun h129 hS130=>?_⟩
  have hS131:Sep h129 lo (c116++(c120++(c124++([Blk1 b85 [v64,v68,v72,.int .i64 v61.1.Sent,
    .int .i64 v61.1.Total] 30]++(c65++(c69++(c73++(c77++([Blk1 pb0 [lst cU8 v54.2.1.code,.int .i64 v54.2.1.at_,
    .int .u64 v54.2.1.seed] 64]++(c57++([Blk1 b1 [.nil,.nil,.nil,.int .i64 0,.int .i64 0] 30]++(c22++(S0))))))))))))):=by simpa only [List.append_assoc,
    List.nil_append] using hS130
  simp only [qe,wj,qb,w6,w5,zj,B0,reduceIte,reduceEqDiff]
  refine qx (us:=[v115,v119,v123,.int .i64 v112.1.Sent,.int .i64 v112.1.Total]) rfl (cs':=[v115,v119,v123,.int .i64 v112.1.Sent,
    .int .i64 v112.1.Total]) (Sep.m3 hS131) hW rfl (qi (SlF.one hv117) (qi (SlN.one hv121) (qi (SlN.one hv125) (qi rfl (qi rfl zk)))))
    (Nat.le_of_ble_eq_true rfl) rfl (fun h132 hS133=>?_)
  simp only [qa,qo,B0,reduceIte,reduceEqDiff]
  have e134:=qk hF114
  subst e134
  exact hN108 _ _ ⟨v115,c116,v119,c120,v123,c124,f44,f45,rfl,hv117,hv121,hv125,
    (Sep.m5 (Sep.m5 (Sep.m3 (Sep.m3 (Sep.m3 (Sep.m3 (Sep.dc (Sep.m6 (Sep.dc (Sep.m5 (Sep.dc (Sep.m4 (Sep.dc (Sep.m4 (Sep.dc (Sep.m4 (Sep.dc (Sep.m4 hS133))))))))))))))))))⟩
 ·rw [iteF hc111] at hX105
  simp only [zg,qo,B0,reduceIte,reduceEqDiff]
  have e135:=qk hX105
  subst e135
  exact hN108 _ _ ⟨v64,c65,v68,c69,v72,c73,f44,f45,rfl,hv66,hv70,hv74,
    (Sep.m5 (Sep.m5 (Sep.m3 (Sep.m3 (Sep.m3 (Sep.m3 (Sep.dc (Sep.m6 (Sep.dc (Sep.m5 (Sep.dc (Sep.m4 hS90))))))))))))⟩
 rintro fr136 h137 ⟨v93,c94,v97,c98,v101,c102,f139,f140,f141,hv95,hv99,hv103,hS138⟩
 unfold qel at hk106
 obtain ⟨v142,hx143,hF144⟩:=qg hk106
 simp only [qvj,qd,qc,f139,qe,zd,B0,reduceIte,reduceEqDiff]
 refine yp rfl (wg hW pb0 v54.2.1 30 v142 hx143 hS138) ?_
 rintro _ h145 ⟨rfl,hS146⟩
 simp only [qa,qsq,xn,qt6,qd,qc,zf,qb,wi,qe,quu,zc,B0,reduceIte,reduceEqDiff]
 refine zb (t:=(decide (v142.1=0))) (fun hc147=>?_) (fun hc147=>?_)
 ·rw [iteT hc147] at hF144
  simp only [q5c,qc,f141,qt,qb,Nat.reduceAdd,Nat.zero_add,Nat.add_zero,qu,qp,B0,reduceIte,reduceEqDiff]
  refine qh (v:=v93) ((jj (Sep.bk _ _ _ (Sep.m2 hS146))).trans rfl) ?_
  obtain ⟨x148,hx149,hF150⟩:=qg hF144
  simp only [jg,B0,reduceIte,reduceEqDiff]
  obtain ⟨b151,hb152⟩:=SlF.isrow hv95 (jq hx149)
  refine qh (SlF.ia hv95 hb152 hx149) ?_
  simp only [qp,B0,reduceIte,reduceEqDiff]
  refine qh (v := .int .i64 x148) ((SlF.ld (o:=0) hv95 (Sep.m3 hS146) hb152 hx149 (fun _=>rfl) (Nat.le_of_ble_eq_true rfl)).trans rfl) ?_
  simp only [zf,qb,yz,jg,B0,reduceIte,reduceEqDiff]
  refine qh (SlF.ia hv95 hb152 hx149) ?_
  simp only [zj,B0,reduceIte,reduceEqDiff]
  refine qg4 (f:=cI) (x':=(IntKind.wrap .i64 (x148+1))) (o:=0) (i:=(0:Int)) (n:=1) hv95 (Sep.m3 hS146) hW hb152 hx149 (fun _=>rfl) rfl rfl
    (Nat.le_of_ble_eq_true rfl) rfl (fun c155 h153 hv156 hS154=>?_)
  have hx157:=j7 (x':=(IntKind.wrap .i64 (x148+1))) hx149
  simp only [qa,uo,qd,qc,f141,qp,B0,reduceIte,reduceEqDiff]
  refine qh (v := .agg [v93,v97,v101,.int .i64 s91.Sent,.int .i64 s91.Total]) ((z0 (Sep.bk _ _ _ (Sep.m3 hS154))).trans rfl) ?_
  simp only [f140,zj,B0,reduceIte,reduceEqDiff]
  refine qx (us:=[v93,v97,v101,.int .i64 s91.Sent,.int .i64 s91.Total]) rfl (cs':=[v93,v97,v101,.int .i64 s91.Sent,
    .int .i64 s91.Total]) (Sep.m2 hS154) hW rfl (qi (SlF.one hv156) (qi (SlN.one hv99) (qi (SlN.one hv103) (qi rfl (qi rfl zk)))))
    (Nat.le_of_ble_eq_true rfl) rfl (fun h158 hS159=>?_)
  simp only [qa,qz,B0,reduceIte,reduceEqDiff]
  have he:=qk hF150
  subst he
  refine ua (bb:=b1) (oo:=0) (v := .agg [v93,v97,v101,.int .i64 s91.Sent,.int .i64 s91.Total]) (by simp only [f140,B0,reduceIte,
    reduceEqDiff]) ((z0 (Sep.bk _ _ _ hS159)).trans rfl) ?_
  exact ⟨v93,c155,v97,c98,v101,c102,by first | trivial | rfl,hv156,hv99,hv103,(Sep.m3 (Sep.m3 (Sep.m3 (Sep.m1 (Sep.dc (Sep.m2 (Sep.dc (hS159))))))))⟩
 rw [iteF hc147] at hF144
 simp only [qu4,qd,qc,zf,qb,wi,qe,qa,q46,zc,B0,reduceIte,reduceEqDiff]
 refine zb (t:=(decide (v142.1=1))) (fun hc160=>?_) (fun hc160=>?_)
 ·rw [iteT hc160] at hF144
  simp only [qy0,jd,f141,zi,qf,Nat.reduceAdd,Nat.zero_add,Nat.add_zero,qu,ze,B0,reduceIte,reduceEqDiff]
  refine qm (v:=v101) ((jj (Sep.bk _ _ _ (Sep.m2 hS146))).trans rfl) ?_
  obtain ⟨x161,hx162,hF163⟩:=qg hF144
  simp only [jo,B0,reduceIte,reduceEqDiff]
  obtain ⟨b164,hb165⟩:=SlN.isrow hv103 (jq hx162)
  refine qm (SlN.ia hv103 hb165 hx162) ?_
  obtain ⟨c166,cs167,os168,hv169,hR170,hS171⟩:=SlG.opn (SlN.toG hv103 hb165 Picture.RO.len) hx162 z7 Picture.RO.len (Sep.m5 hS146)
  obtain ⟨v173,c174,v177,c178,hv175,hv179,rfl,rfl⟩:=hR170
  have hS172:=Sep.no2 hS171
  simp only [zi,qf,Nat.reduceAdd,Nat.zero_add,Nat.add_zero,qu,ze,B0,reduceIte,reduceEqDiff]
  refine qm (v:=v177) ((SlG.ld (o:=3) hv169 rfl hx162 hS172 (Nat.le_of_ble_eq_true rfl)).trans rfl) ?_
  simp only [f141,zi,qf,Nat.reduceAdd,Nat.zero_add,Nat.add_zero,qu,ze,B0,reduceIte,reduceEqDiff]
  refine qm (v:=v101) ((jj (Sep.bk _ _ _ (Sep.m5 hS172))).trans rfl) ?_
  simp only [jo,B0,reduceIte,reduceEqDiff]
  refine qm (SlG.ia hv169 hx162) ?_
  simp only [zi,qf,Nat.reduceAdd,Nat.zero_add,Nat.add_zero,qu,ze,B0,reduceIte,reduceEqDiff]
  refine qm (v:=v177) ((SlG.ld (o:=3) hv169 rfl hx162 hS172 (Nat.le_of_ble_eq_true rfl)).trans rfl) ?_
  obtain ⟨x181,hx182,hF183⟩:=qg hF163
  simp only [jo,B0,reduceIte,reduceEqDiff]
  obtain ⟨b184,hb185⟩:=SlF.isrow hv179 (jq hx182)
  refine qm (SlF.ia hv179 hb185 hx182) ?_
  simp only [ze,B0,reduceIte,reduceEqDiff]
  refine qm (v := .bool x181) ((SlF.ld (o:=0) hv179 (Sep.m2 hS172) hb185 hx182 (fun _=>rfl) (Nat.le_of_ble_eq_true rfl)).trans rfl) ?_
  simp only [qdv,qf,kf,jo,B0,reduceIte,reduceEqDiff]
  refine qm (SlF.ia hv179 hb185 hx182) ?_
  simp only [xj,B0,reduceIte,reduceEqDiff]
  refine uv (f:=cB) (x':=(!x181)) (o:=0) (i:=(1:Int)) (n:=1) hv179 (Sep.m2 hS172) hW hb185 hx182 (fun _=>rfl) rfl rfl (Nat.le_of_ble_eq_true rfl) rfl
    (fun c188 h186 hv189 hS187=>?_)
  have hx190:=j7 (x':=(!x181)) hx182
  simp only [qs,uo,qd,qc,f141,qp,B0,reduceIte,reduceEqDiff]
  refine qh (v := .agg [v93,v97,v101,.int .i64 s91.Sent,.int .i64 s91.Total]) ((z0 (Sep.bk _ _ _ (Sep.m5 hS187))).trans rfl) ?_
  simp only [f140,zj,B0,reduceIte,reduceEqDiff]
  refine qx (us:=[v93,v97,v101,.int .i64 s91.Sent,.int .i64 s91.Total]) rfl (cs':=[v93,v97,v101,.int .i64 s91.Sent,
    .int .i64 s91.Total]) (Sep.m4 hS187) hW rfl (qi (SlF.one hv95) (qi (SlN.one hv99) (qi (SlG.one hv169) (qi rfl (qi rfl zk)))))
    (Nat.le_of_ble_eq_true rfl) rfl (fun h191 hS192=>?_)
  simp only [qa,qz,B0,reduceIte,reduceEqDiff]
  obtain ⟨c193,hv194,hS195⟩:=SlG.cls (e':=(Picture.mk x161.Taken x161.Amount x161.In (List.set x161.Closed (1:Int).toNat (!x181)))) (c:=c166) (os:=c174 ++
    (c188)) hv169 rfl hx162 z7 (Picture.RI (x:=(Picture.mk x161.Taken x161.Amount x161.In (List.set x161.Closed (1:Int).toNat (!x181)))) hv175 hv189) (Sep.ni2
    (c1:=c174) (c2:=c188) (Sep.m3 (Sep.m3 (Sep.m1 hS192))))
  have hx196:=j7 (x':=(Picture.mk x161.Taken x161.Amount x161.In (List.set x161.Closed (1:Int).toNat (!x181)))) hx162
  have hv197:=SlG.toN hv194
  have he:=qk hF183
  subst he
  refine ua (bb:=b1) (oo:=0) (v := .agg [v93,v97,v101,.int .i64 s91.Sent,.int .i64 s91.Total]) (by simp only [f140,B0,reduceIte,
    reduceEqDiff]) ((z0 (Sep.bk _ _ _ (Sep.m1 hS195))).trans rfl) ?_
  exact ⟨v93,c94,v97,c98,v101,c193,by first | trivial | rfl,hv95,hv99,hv197,(Sep.m3 (Sep.m3 (Sep.m1 (Sep.m1 (Sep.dc (Sep.m2 (Sep.dc (Sep.m1 hS195))))))))⟩
 rw [iteF hc160] at hF144
 simp only [q1b,qd,qc,zf,qb,wi,qe,qa,q1m,zc,B0,reduceIte,reduceEqDiff]
 refine zb (t:=(decide (v142.1=2))) (fun hc198=>?_) (fun hc198=>?_)
 ·rw [iteT hc198] at hF144
  simp only [q0f,jd,f141,qdw,qf,Nat.reduceAdd,Nat.zero_add,Nat.add_zero,qu,qbl,B0,reduceIte,reduceEqDiff]
  refine qhs (Sep.ltk (Sep.m2 hS146)) ?_
  refine qm (v:=v97) ((jj (Sep.bk _ _ _ (Sep.m2 hS146))).trans rfl) ?_
  simp only [f141,zi,qf,Nat.reduceAdd,Nat.zero_add,Nat.add_zero,qu,ze,B0,reduceIte,reduceEqDiff]
  refine qm (v:=v97) ((jj (Sep.bk _ _ _ (Sep.m2 hS146))).trans rfl) ?_
  obtain ⟨x199,hx200,hF201⟩:=qg hF144
  simp only [jo,B0,reduceIte,reduceEqDiff]
  obtain ⟨b202,hb203⟩:=SlN.isrow hv99 (jq hx200)
  refine qm (SlN.ia hv99 hb203 hx200) ?_
  obtain ⟨c204,cs205,os206,hv207,hR208,hS209⟩:=SlG.opn (SlN.toG hv99 hb203 Chan.RO.len) hx200 z7 Chan.RO.len (Sep.m4 hS146)
  obtain ⟨v211,c212,hv213,rfl,rfl⟩:=hR208
  have hS210:=Sep.no1 hS209
  simp only [zi,qf,Nat.reduceAdd,Nat.zero_add,Nat.add_zero,qu,ze,B0,reduceIte,reduceEqDiff]
  refine qm (v:=v211) ((SlG.ld (o:=2) hv207 rfl hx200 hS210 (Nat.le_of_ble_eq_true rfl)).trans rfl) ?_
  simp only [u9,evp,B0,reduceIte,reduceEqDiff]
  refine uh (n:=1) (f:=cI) [0] hS210 rfl rfl (fun v215 c216 h217 hv218 hS219=>?_)
  simp only [qez,B0,reduceIte,reduceEqDiff]
  obtain ⟨l221,hx222,hF223⟩:=qg hF201
  refine qij (qkv (fun z hz=>Sep.dj (Sep.m3 (Sep.m5 hS219)) qkw (SlF.rowfp hv213 z hz)) qgy) ?_
  refine qa2 (f:=cI) hv213 (Sep.m2 hS219) hW (fun _=>rfl) (fun _=>rfl) (SlF.first hv218 hS219 (fun _=>rfl)) hx222 (fun v224 c225 h226 hv227 hS228=>?_)
  simp only [jo,B0,reduceIte,reduceEqDiff]
  refine qm (SlG.ia hv207 hx200) ?_
  simp only [zi,qf,Nat.reduceAdd,Nat.zero_add,Nat.add_zero,qu,xj,B0,reduceIte,reduceEqDiff]
  refine qcc (us:=[v224]) (o:=2) (cs':=[.int .i64 x199.From,.int .i64 x199.To,
    v224]) (j6 (SlF.one hv227)) hv207 rfl hx200 (Sep.m2 hS228) hW rfl (qi (SlF.one hv227) zk) (Nat.le_of_ble_eq_true rfl) rfl (fun c232 h230 hv233 hS231=>?_)
  simp only [qs,uo,qd,qc,f141,qp,B0,reduceIte,reduceEqDiff]
  refine qh (v := .agg [v93,v97,v101,.int .i64 s91.Sent,.int .i64 s91.Total]) ((z0 (Sep.bk _ _ _ (Sep.m5 hS231))).trans rfl) ?_
  simp only [f140,zj,B0,reduceIte,reduceEqDiff]
  refine qx (us:=[v93,v97,v101,.int .i64 s91.Sent,.int .i64 s91.Total]) rfl (cs':=[v93,v97,v101,.int .i64 s91.Sent,
    .int .i64 s91.Total]) (Sep.m4 hS231) hW rfl (qi (SlF.one hv95) (qi (SlG.one hv233) (qi (SlN.one hv103) (qi rfl (qi rfl zk)))))
    (Nat.le_of_ble_eq_true rfl) rfl (fun h234 hS235=>?_)
  simp only [qa,qz,B0,reduceIte,reduceEqDiff]
  obtain ⟨c236,hv237,hS238⟩:=SlG.cls (e':=(Chan.mk x199.From x199.To l221)) (c:=c232) (os:=c225) hv233 rfl hx200 z7 (Chan.RI (x :=
    (Chan.mk x199.From x199.To l221)) hv227) (Sep.m2 (Sep.m2 hS235))
  have hx239:=j7 (x':=(Chan.mk x199.From x199.To l221)) hx200
  have hv240:=SlG.toN hv237
  have he:=qk hF223
  subst he
  refine ua (bb:=b1) (oo:=0) (v := .agg [v93,v97,v101,.int .i64 s91.Sent,.int .i64 s91.Total]) (by simp only [f140,B0,reduceIte,
    reduceEqDiff]) ((z0 (Sep.bk _ _ _ (Sep.m1 hS238))).trans rfl) ?_
  exact ⟨v93,c94,v97,c236,v101,c102,by first | trivial | rfl,hv95,hv240,hv103,
    (Sep.m3 (Sep.m2 (Sep.m3 (Sep.m1 (Sep.dc (Sep.m2 (Sep.dc (Sep.m1 (Sep.dc (Sep.m1 hS238))))))))))⟩
 rw [iteF hc198] at hF144
 simp only [zg,uo,qd,qc,f141,qp,B0,reduceIte,reduceEqDiff]
 refine qh (v := .agg [v93,v97,v101,.int .i64 s91.Sent,.int .i64 s91.Total]) ((z0 (Sep.bk _ _ _ (Sep.m2 hS146))).trans rfl) ?_
 simp only [f140,zj,B0,reduceIte,reduceEqDiff]
 refine qx (us:=[v93,v97,v101,.int .i64 s91.Sent,.int .i64 s91.Total]) rfl (cs':=[v93,v97,v101,.int .i64 s91.Sent,
   .int .i64 s91.Total]) (Sep.m1 hS146) hW rfl (qi (SlF.one hv95) (qi (SlN.one hv99) (qi (SlN.one hv103) (qi rfl (qi rfl zk)))))
   (Nat.le_of_ble_eq_true rfl) rfl (fun h241 hS242=>?_)
 simp only [qa,qz,B0,reduceIte,reduceEqDiff]
 have he:=qk hF144
 subst he
 refine ua (bb:=b1) (oo:=0) (v := .agg [v93,v97,v101,.int .i64 s91.Sent,.int .i64 s91.Total]) (by simp only [f140,B0,reduceIte,
   reduceEqDiff]) ((z0 (Sep.bk _ _ _ hS242)).trans rfl) ?_
 exact ⟨v93,c94,v97,c98,v101,c102,by first | trivial | rfl,hv95,hv99,hv103,(Sep.m3 (Sep.m3 (Sep.m3 (Sep.dc (Sep.m1 (Sep.dc (hS242)))))))⟩
theorem qiu {W:Nat→Bool}{h:Heap} (hW:∀ b,
  (geL h.length) b→W b=true) (k:Nat) (code_0:List Int) (r:Snap × SnapStep) (hF:u7 k code_0=some r) : Ret E W 25 [lst cU8 code_0] h
  (fun v h'=>∃ rv0_0 rc0_0 rv0_1 rc0_1 rv0_2 rc0_2,v = .tup [.agg [rv0_0,rv0_1,rv0_2,.int .i64 r.1.Sent,.int .i64 r.1.Total],.agg [.int .i64 r.2.Kind,.int .i64 r.2.K,
  .int .i64 r.2.N]]∧SlF cI 1 3 rv0_0 r.1.Amounts rc0_0∧SlN Chan.R 3 74 rv0_1 r.1.Chans rc0_1∧SlN Picture.R 4 76 rv0_2 r.1.Pictures rc0_2∧Sep h' (geL h.length) (rc0_0 ++
  (rc0_1++(rc0_2++([]))))):=by
 refine Ret.of (fn:=x25) rfl (Run.of ?_)
 unfold u7 at hF
 have zf0:zh [lst cU8 code_0] 0=lst cU8 code_0:=rfl
 generalize zh [lst cU8 code_0]=fr0 at zf0 ⊢
 have hS:Sep h (geL h.length) []:=Sep.nil h
 simp only [x25,qd,qc,jb,B0,reduceIte,reduceEqDiff]
 refine zv hS (fun b1 h2 hS3=>?_)
 simp only [jb,B0,reduceIte,reduceEqDiff]
 refine zv hS3 (fun b5 h6 hS7=>?_)
 simp only [qa,qzv,qd,qc,zf0,qe,run_build,evp,B0,reduceIte,reduceEqDiff]
 refine qh (v := .agg [lst cU8 code_0,.int .i64 0,.int .u64 0]) rfl ?_
 simp only [kh,B0,reduceIte,reduceEqDiff]
 refine jt (cs:=[lst cU8 code_0,.int .i64 0,.int .u64 0]) hS7 rfl rfl rfl (fun b9 h10 hS11=>?_)
 obtain ⟨v13,hx14,hF15⟩:=qg hF
 simp only [qe,qa,q4j,qd,qc,zd,B0,reduceIte,reduceEqDiff]
 refine yp rfl (qjo hW k b9 (L1Cur.mk code_0 0 0) v13 hx14 hS11) ?_
 rintro _ h28 ⟨v16,c17,v20,c21,v24,c25,rfl,hv18,hv22,hv26,hS29⟩
 simp only [jb,B0,reduceIte,reduceEqDiff]
 refine zv hS29 (fun b30 h31 hS32=>?_)
 simp only [zj,B0,reduceIte,reduceEqDiff]
 refine qx (us:=[v16,v20,v24,.int .i64 v13.1.Sent,.int .i64 v13.1.Total]) rfl (cs':=[v16,v20,v24,.int .i64 v13.1.Sent,
   .int .i64 v13.1.Total]) hS32 hW rfl (qi (SlF.one hv18) (qi (SlN.one hv22) (qi (SlN.one hv26) (qi rfl (qi rfl zk))))) (Nat.le_of_ble_eq_true rfl) rfl
   (fun h34 hS35=>?_)
 simp only [qa,B0,reduceIte,reduceEqDiff]
 refine zw hS35 hW (by simp only [B0,reduceIte,reduceEqDiff]) (fun h36 hS37=>?_)
 simp only [zo,q4b,qd,qc,qe,qt,qb,Nat.reduceAdd,Nat.zero_add,Nat.add_zero,qr,qp,B0,reduceIte,reduceEqDiff]
 refine qh (v:=v16) rfl ?_
 obtain ⟨v38,hx39,hF40⟩:=qg hF15
 simp only [z6,qb,SlF.plen hv18,zd,B0,reduceIte,reduceEqDiff]
 refine yp rfl (qg3 hW k b9 v13.2 (List.length v13.1.Amounts:Int) v38 hx39 (Sep.m3 hS37)) ?_
 rintro v41 h45 ⟨_,c42,rfl,hv43,hS46⟩
 simp only [qe,qa,q1w,qd,qc,z6,qb,SlF.plen hv43,zf,wi,qyc,zc,B0,reduceIte,reduceEqDiff]
 refine zb (t:=(decide ((List.length v38.1:Int)=0))) (fun hc47=>?_) (fun hc47=>?_)
 ·rw [iteT hc47] at hF40
  simp only [q07,qd,qc,qp,B0,reduceIte,reduceEqDiff]
  refine qh (v := .agg [v16,v20,v24,.int .i64 v13.1.Sent,.int .i64 v13.1.Total]) rfl ?_
  simp only [run_build,evp,B0,reduceIte,reduceEqDiff]
  refine qh (v := .agg [.int .i64 3,.int .i64 0,.int .i64 0]) rfl ?_
  simp only [zj,B0,reduceIte,reduceEqDiff]
  refine qx (us:=[v16,v20,v24,.int .i64 v13.1.Sent,.int .i64 v13.1.Total]) rfl (cs':=[v16,v20,v24,.int .i64 v13.1.Sent,
    .int .i64 v13.1.Total]) (Sep.m6 hS46) hW rfl (qi (SlF.one hv18) (qi (SlN.one hv22) (qi (SlN.one hv26) (qi rfl (qi rfl zk)))))
    (Nat.le_of_ble_eq_true rfl) rfl (fun h48 hS49=>?_)
  simp only [zj,B0,reduceIte,reduceEqDiff]
  refine qx (us:=[.int .i64 3,.int .i64 0,.int .i64 0]) rfl (cs':=[.int .i64 3,.int .i64 0,
    .int .i64 0]) (Sep.m6 hS49) hW rfl rfl (Nat.le_of_ble_eq_true rfl) rfl (fun h50 hS51=>?_)
  simp only [qa,qz,B0,reduceIte,reduceEqDiff]
  have he:=qk hF40
  subst he
  refine jr (qj (jv (bb:=b1) (oo:=0) (v := .agg [v16,v20,v24,.int .i64 v13.1.Sent,
    .int .i64 v13.1.Total]) (rfl) ((z0 (Sep.bk _ _ _ (Sep.m1 hS51))).trans rfl)) (qj (jv (bb:=b5) (oo:=0) (v := .agg [.int .i64 3,.int .i64 0,
    .int .i64 0]) (rfl) ((z0 (Sep.bk _ _ _ hS51)).trans rfl)) q9)) ?_
  exact ⟨v16,c17,v20,c21,v24,c25,by first | trivial | rfl,hv18,hv22,hv26,(Sep.m2 (Sep.m2 (Sep.m2 (Sep.dc ((Sep.dc ((Sep.dc ((Sep.dc (hS51)))))))))))⟩
 rw [iteF hc47] at hF40
 simp only [zg,qzf,qd,jd,ze,B0,reduceIte,reduceEqDiff]
 refine qm (v := .agg [v16,v20,v24,.int .i64 v13.1.Sent,.int .i64 v13.1.Total]) rfl ?_
 obtain ⟨x52,hx53,hF54⟩:=qg hF40
 simp only [qhm,qf,q9t,B0,reduceIte,reduceEqDiff]
 obtain ⟨b55,hb56⟩:=SlF.isrow hv43 (jq hx53)
 refine qm (SlF.ia hv43 hb56 hx53) ?_
 simp only [qbl,B0,reduceIte,reduceEqDiff]
 refine qhs (SlF.ltk hv43 hb56 hS46) ?_
 refine qm (v := .agg [.int .i64 x52.Kind,.int .i64 x52.K,
   .int .i64 x52.N]) ((SlF.lds (o:=0) hv43 hS46 hb56 hx53 (fun _=>rfl) (Nat.le_of_ble_eq_true rfl)).trans rfl) ?_
 simp only [q80,B0,reduceIte,reduceEqDiff]
 refine zaj (q8w (Sep.dj (Sep.m6 hS46) (SlF.bfp hv43 hb56) qkw) q9p) ?_
 refine qa6 (us:=[v16,v20,v24,.int .i64 v13.1.Sent,.int .i64 v13.1.Total]) rfl (cs':=[v16,v20,v24,.int .i64 v13.1.Sent,
   .int .i64 v13.1.Total]) (Sep.m6 hS46) hW rfl (qi (SlF.one hv18) (qi (SlN.one hv22) (qi (SlN.one hv26) (qi rfl (qi rfl zk)))))
   (Nat.le_of_ble_eq_true rfl) rfl (fun h57 hS58=>?_)
 simp only [xj,B0,reduceIte,reduceEqDiff]
 refine qa6 (us:=[.int .i64 x52.Kind,.int .i64 x52.K,.int .i64 x52.N]) rfl (cs':=[.int .i64 x52.Kind,.int .i64 x52.K,
   .int .i64 x52.N]) (Sep.m6 hS58) hW rfl rfl (Nat.le_of_ble_eq_true rfl) rfl (fun h59 hS60=>?_)
 simp only [qs,qz,B0,reduceIte,reduceEqDiff]
 have he:=qk hF54
 subst he
 refine jr (qj (jv (bb:=b1) (oo:=0) (v := .agg [v16,v20,v24,.int .i64 v13.1.Sent,
   .int .i64 v13.1.Total]) (rfl) ((z0 (Sep.bk _ _ _ (Sep.m1 hS60))).trans rfl)) (qj (jv (bb:=b5) (oo:=0) (v := .agg [.int .i64 x52.Kind,.int .i64 x52.K,
   .int .i64 x52.N]) (rfl) ((z0 (Sep.bk _ _ _ hS60)).trans rfl)) q9)) ?_
 exact ⟨v16,c17,v20,c21,v24,c25,by first | trivial | rfl,hv18,hv22,hv26,(Sep.m2 (Sep.m2 (Sep.m2 (Sep.dc ((Sep.dc ((Sep.dc ((Sep.dc (hS60)))))))))))⟩
theorem qk3 {W:Nat→Bool}{h:Heap} (hW:∀ b,
  (geL h.length) b→W b=true) (k:Nat) (s_0:Snap) (x_1:SnapStep) (r:Snap × Bool) (hF:qck k s_0 x_1=some r) : Ret E W 26 [.agg [lst cI s_0.Amounts,
  lst Chan.cells s_0.Chans,lst Picture.cells s_0.Pictures,.int .i64 s_0.Sent,.int .i64 s_0.Total],.agg [.int .i64 x_1.Kind,.int .i64 x_1.K,
  .int .i64 x_1.N]] h (fun v h'=>∃ rv0_0 rc0_0 rv0_1 rc0_1 rv0_2 rc0_2,v = .tup [.agg [rv0_0,rv0_1,rv0_2,.int .i64 r.1.Sent,.int .i64 r.1.Total],
  .bool r.2]∧SlF cI 1 3 rv0_0 r.1.Amounts rc0_0∧SlN Chan.R 3 74 rv0_1 r.1.Chans rc0_1∧SlN Picture.R 4 76 rv0_2 r.1.Pictures rc0_2∧Sep h' (geL h.length) (rc0_0 ++
  (rc0_1++(rc0_2++([]))))):=by
 refine Ret.of (fn:=x26) rfl (Run.of ?_)
 unfold qck at hF
 have zf0:zh [.agg [lst cI s_0.Amounts,lst Chan.cells s_0.Chans,lst Picture.cells s_0.Pictures,.int .i64 s_0.Sent,.int .i64 s_0.Total],.agg [.int .i64 x_1.Kind,
   .int .i64 x_1.K,.int .i64 x_1.N]] 0 = .agg [lst cI s_0.Amounts,lst Chan.cells s_0.Chans,lst Picture.cells s_0.Pictures,.int .i64 s_0.Sent,.int .i64 s_0.Total]:=rfl
 have zf1:zh [.agg [lst cI s_0.Amounts,lst Chan.cells s_0.Chans,lst Picture.cells s_0.Pictures,.int .i64 s_0.Sent,.int .i64 s_0.Total],.agg [.int .i64 x_1.Kind,
   .int .i64 x_1.K,.int .i64 x_1.N]] 1 = .agg [.int .i64 x_1.Kind,.int .i64 x_1.K,.int .i64 x_1.N]:=rfl
 generalize zh [.agg [lst cI s_0.Amounts,lst Chan.cells s_0.Chans,lst Picture.cells s_0.Pictures,.int .i64 s_0.Sent,.int .i64 s_0.Total],.agg [.int .i64 x_1.Kind,
   .int .i64 x_1.K,.int .i64 x_1.N]]=fr0 at zf0 zf1 ⊢
 have hS:Sep h (geL h.length) []:=Sep.nil h
 simp only [x26,qd,qc,kh,zf0,B0,reduceIte,reduceEqDiff]
 refine jt (cs:=[lst cI s_0.Amounts,lst Chan.cells s_0.Chans,lst Picture.cells s_0.Pictures,.int .i64 s_0.Sent,
   .int .i64 s_0.Total]) hS rfl rfl rfl (fun b1 h2 hS3=>?_)
 simp only [kh,zf1,B0,reduceIte,reduceEqDiff]
 refine jt (cs:=[.int .i64 x_1.Kind,.int .i64 x_1.K,.int .i64 x_1.N]) hS3 rfl rfl rfl (fun b5 h6 hS7=>?_)
 simp only [jb,B0,reduceIte,reduceEqDiff]
 refine zv hS7 (fun b9 h10 hS11=>?_)
 simp only [qe,qa,B0,reduceIte,reduceEqDiff]
 refine zw (Sep.m2 hS11) hW (by simp only [B0,reduceIte,reduceEqDiff]) (fun h13 hS14=>?_)
 refine zw (Sep.m1 hS14) hW (by simp only [B0,reduceIte,reduceEqDiff]) (fun h15 hS16=>?_)
 simp only [zo,q4y,qd,qc,qp,B0,reduceIte,reduceEqDiff]
 refine qh (v := .agg [lst cI s_0.Amounts,lst Chan.cells s_0.Chans,lst Picture.cells s_0.Pictures,.int .i64 s_0.Sent,.int .i64 s_0.Total]) rfl ?_
 obtain ⟨v17,hx18,hF19⟩:=qg hF
 simp only [zd,B0,reduceIte,reduceEqDiff]
 refine j5 rfl (qj (ji (qj zm (qj zm (qj zm (qj qq (qj qq q9)))))) q9) (qcj
   (fun b hb=>decide_eq_true hb) k s_0 v17 hx18) ?_
 simp only [jz,qb,kf,qa,q3r,zc,B0,reduceIte,reduceEqDiff]
 refine zb (t:=(!v17)) (fun hc20=>?_) (fun hc20=>?_)
 ·rw [iteT hc20] at hF19
  simp only [qd,qc,run_build,evp,B0,reduceIte,reduceEqDiff]
  refine qh (v := .agg [.nil,.nil,.nil,.int .i64 0,.int .i64 0]) rfl ?_
  simp only [zj,B0,reduceIte,reduceEqDiff]
  refine qx (us:=[.nil,.nil,.nil,.int .i64 0,.int .i64 0]) rfl (cs':=[.nil,.nil,.nil,.int .i64 0,
    .int .i64 0]) hS16 hW rfl rfl (Nat.le_of_ble_eq_true rfl) rfl (fun h21 hS22=>?_)
  simp only [qe,qa,qz,B0,reduceIte,reduceEqDiff]
  have he:=qk hF19
  subst he
  refine jr (qj (jv (bb:=b9) (oo:=0) (v := .agg [.nil,.nil,.nil,.int .i64 0,
    .int .i64 0]) (rfl) ((z0 (Sep.bk _ _ _ hS22)).trans rfl)) (qj (kz (v := .bool false) (rfl)) q9)) ?_
  exact ⟨.nil,[],.nil,[],.nil,[],by first | trivial | rfl,SlF.nil,SlN.nil,SlN.nil,((Sep.dc (hS22)) : Sep _ (geL h.length) ([]))⟩
 rw [iteF hc20] at hF19
 simp only [zg,q2r,qd,qc,qp,B0,reduceIte,reduceEqDiff]
 refine qh (v := .agg [lst cI s_0.Amounts,lst Chan.cells s_0.Chans,lst Picture.cells s_0.Pictures,.int .i64 s_0.Sent,.int .i64 s_0.Total]) rfl ?_
 obtain ⟨v23,hx24,hF25⟩:=qg hF19
 simp only [zd,B0,reduceIte,reduceEqDiff]
 refine ut rfl hS16 (qj (ji (qj zm (qj zm (qj zm (qj qq (qj qq q9)))))) q9) (qhk
   (fun b hb=>decide_eq_true hb) s_0 v23 hx24) ?_
 rintro _ h38 ⟨v26,c27,v30,c31,v34,c35,rfl,hv28,hv32,hv36,hS39⟩
 refine ⟨_,qci (qi (SlF.free1 hv28) (qi (SlN.free1 hv32) (qi (SlN.free1 hv36) (qi rfl (qi rfl zk))))),hS39,
   (jc (SlF.pf hv28 (fun _=>rfl)) (jc (SlN.pf hv32 Chan.RO) (jc (SlN.pf hv36 Picture.RO) wt))),fun h40 hS41=>?_⟩
 have hS42:Sep h40 (geL h.length) (c27++(c31++(c35++([Blk1 b9 [.nil,.nil,.nil,.int .i64 0,.int .i64 0] 30]++([]))))):=by simpa only [List.append_assoc,
   List.nil_append] using hS41
 simp only [jb,B0,reduceIte,reduceEqDiff]
 refine zv hS42 (fun b43 h44 hS45=>?_)
 simp only [zj,B0,reduceIte,reduceEqDiff]
 refine qx (us:=[v26,v30,v34,.int .i64 v23.Sent,.int .i64 v23.Total]) rfl (cs':=[v26,v30,v34,.int .i64 v23.Sent,
   .int .i64 v23.Total]) hS45 hW rfl (qi (SlF.one hv28) (qi (SlN.one hv32) (qi (SlN.one hv36) (qi rfl (qi rfl zk))))) (Nat.le_of_ble_eq_true rfl) rfl
   (fun h47 hS48=>?_)
 simp only [qa,qxn,qd,qc,qp,B0,reduceIte,reduceEqDiff]
 refine qh (v := .agg [.int .i64 x_1.Kind,.int .i64 x_1.K,.int .i64 x_1.N]) rfl ?_
 obtain ⟨v49,hx50,hF51⟩:=qg hF25
 simp only [zd,B0,reduceIte,reduceEqDiff]
 refine yp rfl (qd5 hW b43 v23 v26 c27 hv28 v30 c31 hv32 v34 c35 hv36 x_1 v49 hx50 (Sep.m3 (Sep.m3 (Sep.m3 (Sep.m3 hS48))))) ?_
 rintro _ h58 ⟨c52,c54,c56,rfl,hv53,hv55,hv57,hS59⟩
 simp only [jz,qb,kf,qa,q3l,zc,B0,reduceIte,reduceEqDiff]
 refine zb (t:=(!v49.1)) (fun hc60=>?_) (fun hc60=>?_)
 ·rw [iteT hc60] at hF51
  simp only [qd,qc,run_build,evp,B0,reduceIte,reduceEqDiff]
  refine qh (v := .agg [.nil,.nil,.nil,.int .i64 0,.int .i64 0]) rfl ?_
  simp only [zj,B0,reduceIte,reduceEqDiff]
  refine qx (us:=[.nil,.nil,.nil,.int .i64 0,.int .i64 0]) rfl (cs':=[.nil,.nil,.nil,.int .i64 0,
    .int .i64 0]) (Sep.m4 hS59) hW rfl rfl (Nat.le_of_ble_eq_true rfl) rfl (fun h61 hS62=>?_)
  simp only [qe,qa,qz,B0,reduceIte,reduceEqDiff]
  have he:=qk hF51
  subst he
  refine jr (qj (jv (bb:=b9) (oo:=0) (v := .agg [.nil,.nil,.nil,.int .i64 0,
    .int .i64 0]) (rfl) ((z0 (Sep.bk _ _ _ hS62)).trans rfl)) (qj (kz (v := .bool false) (rfl)) q9)) ?_
  exact ⟨.nil,[],.nil,[],.nil,[],by first | trivial | rfl,SlF.nil,SlN.nil,SlN.nil,
    ((Sep.dc ((Sep.dc ((Sep.dc ((Sep.dc ((Sep.dc (hS62)))))))))) : Sep _ (geL h.length) ([]))⟩
 rw [iteF hc60] at hF51
 simp only [zg,qd,qc,qp,B0,reduceIte,reduceEqDiff]
 refine qh (v := .agg [v26,v30,v34,.int .i64 v49.2.Sent,.int .i64 v49.2.Total]) ((z0 (Sep.bk _ _ _ hS59)).trans rfl) ?_
 simp only [zj,B0,reduceIte,reduceEqDiff]
 refine qx (us:=[v26,v30,v34,.int .i64 v49.2.Sent,.int .i64 v49.2.Total]) rfl (cs':=[v26,v30,v34,.int .i64 v49.2.Sent,
   .int .i64 v49.2.Total]) (Sep.m4 hS59) hW rfl (qi (SlF.one hv53) (qi (SlN.one hv55) (qi (SlN.one hv57) (qi rfl (qi rfl zk)))))
   (Nat.le_of_ble_eq_true rfl) rfl (fun h63 hS64=>?_)
 simp only [qe,qa,qz,B0,reduceIte,reduceEqDiff]
 have he:=qk hF51
 subst he
 refine jr (qj (jv (bb:=b9) (oo:=0) (v := .agg [v26,v30,v34,.int .i64 v49.2.Sent,
   .int .i64 v49.2.Total]) (rfl) ((z0 (Sep.bk _ _ _ hS64)).trans rfl)) (qj (kz (v := .bool true) (rfl)) q9)) ?_
 exact ⟨v26,c52,v30,c54,v34,c56,by first | trivial | rfl,hv53,hv55,hv57,(Sep.m2 (Sep.m2 (Sep.m2 (Sep.dc ((Sep.dc (hS64)))))))⟩
end Go.Proofs.Ytpkiieniipenjaa.X
