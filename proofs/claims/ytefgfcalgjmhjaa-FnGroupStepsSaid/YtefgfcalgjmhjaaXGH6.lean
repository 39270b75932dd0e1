/- The functions' code comes to what the plain functions say (6). -/
import Derived.Test.YtefgfcalgjmhjaaXGH5
set_option linter.unusedVariables false
set_option linter.unusedSimpArgs false
set_option maxRecDepth 100000
namespace Go.Proofs.Ytefgfcalgjmhjaa.X
open Go
open Nat (reduceEqDiff)
theorem qjn {W:Nat→Bool}{h:Heap} (hW:∀ b,
  (geL h.length) b→W b=true) (k:Nat) (g_0:Group) (x_1:IsrStep) (r:Group × Bool) (hF:qbo k g_0 x_1=some r) : Ret E W 34 [.agg [.int .i64 g_0.Epoch,
  .int .i64 g_0.Leader,lst cI g_0.InStep,.int .i64 g_0.High,lst Replica.cells g_0.Replicas],.agg [.int .i64 x_1.Kind,.int .i64 x_1.K,
  .int .i64 x_1.N]] h (fun v h'=>∃ rv0_2 rc0_2 rv0_4 rc0_4,v = .tup [.agg [.int .i64 r.1.Epoch,.int .i64 r.1.Leader,rv0_2,.int .i64 r.1.High,rv0_4],
  .bool r.2]∧SlF cI 1 3 rv0_2 r.1.InStep rc0_2∧SlN Replica.R 3 51 rv0_4 r.1.Replicas rc0_4∧Sep h' (geL h.length) (rc0_2++(rc0_4++([])))):=by
 refine Ret.of (fn:=x34) rfl (Run.of ?_)
 unfold qbo at hF
 have zf0:ze [.agg [.int .i64 g_0.Epoch,.int .i64 g_0.Leader,lst cI g_0.InStep,.int .i64 g_0.High,lst Replica.cells g_0.Replicas],.agg [.int .i64 x_1.Kind,
   .int .i64 x_1.K,.int .i64 x_1.N]] 0 = .agg [.int .i64 g_0.Epoch,.int .i64 g_0.Leader,lst cI g_0.InStep,.int .i64 g_0.High,lst Replica.cells g_0.Replicas]:=rfl
 have zf1:ze [.agg [.int .i64 g_0.Epoch,.int .i64 g_0.Leader,lst cI g_0.InStep,.int .i64 g_0.High,lst Replica.cells g_0.Replicas],.agg [.int .i64 x_1.Kind,
   .int .i64 x_1.K,.int .i64 x_1.N]] 1 = .agg [.int .i64 x_1.Kind,.int .i64 x_1.K,.int .i64 x_1.N]:=rfl
 generalize ze [.agg [.int .i64 g_0.Epoch,.int .i64 g_0.Leader,lst cI g_0.InStep,.int .i64 g_0.High,lst Replica.cells g_0.Replicas],.agg [.int .i64 x_1.Kind,
   .int .i64 x_1.K,.int .i64 x_1.N]]=fr0 at zf0 zf1 ⊢
 have hS:Sep h (geL h.length) []:=Sep.nil h
 simp only [x34,qe,qd,kp,zf0,B0,reduceIte,reduceEqDiff]
 refine jz (cs:=[.int .i64 g_0.Epoch,.int .i64 g_0.Leader,lst cI g_0.InStep,.int .i64 g_0.High,lst Replica.cells g_0.Replicas]) hS rfl rfl rfl (fun b1 h2 hS3=>?_)
 simp only [kp,zf1,B0,reduceIte,reduceEqDiff]
 refine jz (cs:=[.int .i64 x_1.Kind,.int .i64 x_1.K,.int .i64 x_1.N]) hS3 rfl rfl rfl (fun b5 h6 hS7=>?_)
 simp only [je,B0,reduceIte,reduceEqDiff]
 refine zt hS7 (fun b9 h10 hS11=>?_)
 simp only [qc,qa,B0,reduceIte,reduceEqDiff]
 refine zz (Sep.m2 hS11) hW (by simp only [B0,reduceIte,reduceEqDiff]) (fun h13 hS14=>?_)
 refine zz (Sep.m1 hS14) hW (by simp only [B0,reduceIte,reduceEqDiff]) (fun h15 hS16=>?_)
 simp only [zw,qv3,qe,qd,qp,B0,reduceIte,reduceEqDiff]
 refine qj (v := .agg [.int .i64 g_0.Epoch,.int .i64 g_0.Leader,lst cI g_0.InStep,.int .i64 g_0.High,lst Replica.cells g_0.Replicas]) rfl ?_
 obtain ⟨v17,hx18,hF19⟩:=qi hF
 simp only [za,B0,reduceIte,reduceEqDiff]
 refine js rfl (qh (jd (qh qm (qh qm (qh zo (qh qm (qh zo qz)))))) qz) (qah
   (fun b hb=>decide_eq_true hb) k g_0 v17 hx18) ?_
 simp only [ka,qb,kx,qa,qx7,zb,B0,reduceIte,reduceEqDiff]
 refine zd (t:=(!v17)) (fun hc20=>?_) (fun hc20=>?_)
 ·rw [iteT hc20] at hF19
  simp only [qe,qd,run_build,evp,B0,reduceIte,reduceEqDiff]
  refine qj (v := .agg [.int .i64 0,.int .i64 0,.nil,.int .i64 0,.nil]) rfl ?_
  simp only [zg,B0,reduceIte,reduceEqDiff]
  refine qy (us:=[.int .i64 0,.int .i64 0,.nil,.int .i64 0,.nil]) rfl (cs':=[.int .i64 0,.int .i64 0,.nil,.int .i64 0,
    .nil]) hS16 hW rfl rfl (Nat.le_of_ble_eq_true rfl) rfl (fun h21 hS22=>?_)
  simp only [qc,qa,q8,B0,reduceIte,reduceEqDiff]
  have he:=ql hF19
  subst he
  refine jy (qh (j6 (bb:=b9) (oo:=0) (v := .agg [.int .i64 0,.int .i64 0,.nil,.int .i64 0,
    .nil]) (rfl) ((zv (Sep.bk _ _ _ hS22)).trans rfl)) (qh (yq (v := .bool false) (rfl)) qz)) ?_
  exact ⟨.nil,[],.nil,[],by first | trivial | rfl,SlF.nil,SlN.nil,((Sep.dc (hS22)) : Sep _ (geL h.length) ([]))⟩
 rw [iteF hc20] at hF19
 simp only [zk,q12,qe,jh,qkb,B0,reduceIte,reduceEqDiff]
 refine qd1 hS16 (fun b23 h24 hS25=>?_)
 simp only [zm,B0,reduceIte,reduceEqDiff]
 refine qq (v := .agg [.int .i64 g_0.Epoch,.int .i64 g_0.Leader,lst cI g_0.InStep,.int .i64 g_0.High,lst Replica.cells g_0.Replicas]) rfl ?_
 obtain ⟨v27,hx28,hF29⟩:=qi hF19
 simp only [yy,B0,reduceIte,reduceEqDiff]
 refine ql8 rfl hS25 (qh (jd (qh qm (qh qm (qh zo (qh qm (qh zo qz)))))) qz) (qaw
   (fun b hb=>decide_eq_true hb) g_0 v27 hx28) ?_
 rintro _ h38 ⟨v30,c31,v34,c35,rfl,hv32,hv36,hS39⟩
 refine ⟨_,qcg (qk rfl (qk rfl (qk (SlF.free1 hv32) (qk rfl (qk (SlN.free1 hv36) zn))))),hS39,
   (jt (SlF.pf hv32 (fun _=>rfl)) (jt (SlN.pf hv36 Replica.RO) wi)),fun h40 hS41=>?_⟩
 have hS42:Sep h40 (geL h.length) (c31++(c35++([Blk1 b23 [.int .i64 0,.int .i64 0,.nil,.int .i64 0,.nil] 29]++([Blk1 b9 [.int .i64 0,.int .i64 0,.nil,.int .i64 0,
   .nil] 29]++([]))))):=by simpa only [List.append_assoc,List.nil_append] using hS41
 simp only [wv,yz,B0,reduceIte,reduceEqDiff]
 refine qq (v := .agg [.int .i64 x_1.Kind,.int .i64 x_1.K,.int .i64 x_1.N]) rfl ?_
 obtain ⟨v43,hx44,hF45⟩:=qi hF29
 simp only [k8,B0,reduceIte,reduceEqDiff]
 refine qm7 rfl (qgz hW k v27 v30 c31 hv32 v34 c35 hv36 x_1 v43 hx44 (Sep.m1 (Sep.m1 hS42))) ?_
 rintro _ h52 ⟨v46,c47,c50,rfl,hv48,hv51,hS53⟩
 simp only [zp,qg,qmy,xu,qt1,xj,qdj,B0,reduceIte,reduceEqDiff]
 refine xk (us:=[.int .i64 v43.1.Epoch,.int .i64 v43.1.Leader,v46,.int .i64 v43.1.High,v34]) rfl (cs':=[.int .i64 v43.1.Epoch,.int .i64 v43.1.Leader,v46,
   .int .i64 v43.1.High,v34]) (Sep.m2 hS53) hW rfl (qk rfl (qk rfl (qk (SlF.one hv48) (qk rfl (qk (SlN.one hv51) zn))))) (Nat.le_of_ble_eq_true rfl) rfl
   (fun h54 hS55=>?_)
 simp only [zp,qg,qu,B0,reduceIte,reduceEqDiff]
 refine zz hS55 hW (by simp only [B0,reduceIte,reduceEqDiff]) (fun h56 hS57=>?_)
 simp only [zw,q1g,qe,qd,qc,ka,qb,kx,qa,qzt,zb,B0,reduceIte,reduceEqDiff]
 refine zd (t:=(!v43.2)) (fun hc58=>?_) (fun hc58=>?_)
 ·rw [iteT hc58] at hF45
  simp only [qe,qd,run_build,evp,B0,reduceIte,reduceEqDiff]
  refine qj (v := .agg [.int .i64 0,.int .i64 0,.nil,.int .i64 0,.nil]) rfl ?_
  simp only [zg,B0,reduceIte,reduceEqDiff]
  refine qy (us:=[.int .i64 0,.int .i64 0,.nil,.int .i64 0,.nil]) rfl (cs':=[.int .i64 0,.int .i64 0,.nil,.int .i64 0,
    .nil]) (Sep.m2 hS57) hW rfl rfl (Nat.le_of_ble_eq_true rfl) rfl (fun h59 hS60=>?_)
  simp only [qc,qa,q8,B0,reduceIte,reduceEqDiff]
  have he:=ql hF45
  subst he
  refine jy (qh (j6 (bb:=b9) (oo:=0) (v := .agg [.int .i64 0,.int .i64 0,.nil,.int .i64 0,
    .nil]) (rfl) ((zv (Sep.bk _ _ _ hS60)).trans rfl)) (qh (yq (v := .bool false) (rfl)) qz)) ?_
  exact ⟨.nil,[],.nil,[],by first | trivial | rfl,SlF.nil,SlN.nil,((Sep.dc ((Sep.dc ((Sep.dc (hS60)))))) : Sep _ (geL h.length) ([]))⟩
 rw [iteF hc58] at hF45
 simp only [zk,q0b,qe,qd,qp,B0,reduceIte,reduceEqDiff]
 refine qj (v := .agg [.int .i64 v43.1.Epoch,.int .i64 v43.1.Leader,v46,.int .i64 v43.1.High,v34]) rfl ?_
 obtain ⟨v61,hx62,hF63⟩:=qi hF45
 simp only [za,B0,reduceIte,reduceEqDiff]
 refine uo rfl hS57 (qh (jd (qh qm (qh qm (qh (SlF.snap hv48 hS57 rfl (fun _=>rfl) (fun _=>rfl)) (qh qm (qh (SlN.snap hv51 _
   (Sep.m1 hS57) rfl Replica.RO) qz)))))) qz) (qaw (fun b hb=>decide_eq_true hb) v43.1 v61 hx62) ?_
 rintro _ h72 ⟨v64,c65,v68,c69,rfl,hv66,hv70,hS73⟩
 refine ⟨_,qcg (qk rfl (qk rfl (qk (SlF.free1 hv66) (qk rfl (qk (SlN.free1 hv70) zn))))),hS73,
   (jt (SlF.pf hv66 (fun _=>rfl)) (jt (SlN.pf hv70 Replica.RO) wi)),fun h74 hS75=>?_⟩
 have hS76:Sep h74 (geL h.length) (c65++(c69++(c47++(c50++([Blk1 b9 [.int .i64 0,.int .i64 0,.nil,.int .i64 0,
   .nil] 29]++([])))))):=by simpa only [List.append_assoc,List.nil_append] using hS75
 simp only [zg,B0,reduceIte,reduceEqDiff]
 refine qy (us:=[.int .i64 v61.Epoch,.int .i64 v61.Leader,v64,.int .i64 v61.High,v68]) rfl (cs':=[.int .i64 v61.Epoch,.int .i64 v61.Leader,v64,
   .int .i64 v61.High,v68]) (Sep.m4 hS76) hW rfl (qk rfl (qk rfl (qk (SlF.one hv66) (qk rfl (qk (SlN.one hv70) zn))))) (Nat.le_of_ble_eq_true rfl) rfl
   (fun h77 hS78=>?_)
 simp only [qc,qa,q8,B0,reduceIte,reduceEqDiff]
 have he:=ql hF63
 subst he
 refine jy (qh (j6 (bb:=b9) (oo:=0) (v := .agg [.int .i64 v61.Epoch,.int .i64 v61.Leader,v64,.int .i64 v61.High,
   v68]) (rfl) ((zv (Sep.bk _ _ _ hS78)).trans rfl)) (qh (yq (v := .bool true) (rfl)) qz)) ?_
 exact ⟨v64,c65,v68,c69,by first | trivial | rfl,hv66,hv70,(Sep.m1 (Sep.m1 (Sep.dc (Sep.m2 (Sep.dc (Sep.m2 (Sep.dc (hS78))))))))⟩
theorem qi7 {W:Nat→Bool}{h:Heap} (hW:∀ b,
  (geL h.length) b→W b=true) (k:Nat) (code_0:List Int) (r:Group × Int) (hF:qbl k code_0=some r) : Ret E W 36 [lst cU8 code_0] h
  (fun v h'=>cut h.length h' E.sz false 9 v=some (.tup [.agg [.int .i64 r.1.Epoch,.int .i64 r.1.Leader,lst cI r.1.InStep,.int .i64 r.1.High,
  lst Replica.cells r.1.Replicas],.int .i64 r.2])):=by
 refine Ret.of (fn:=x36) rfl (Run.of ?_)
 unfold qbl at hF
 have zf0:ze [lst cU8 code_0] 0=lst cU8 code_0:=rfl
 generalize ze [lst cU8 code_0]=fr0 at zf0 ⊢
 have hS:Sep h (geL h.length) []:=Sep.nil h
 simp only [x36,qe,qd,je,B0,reduceIte,reduceEqDiff]
 refine zt hS (fun b1 h2 hS3=>?_)
 simp only [qc,qa,qzx,qe,qd,zf0,run_build,evp,B0,reduceIte,reduceEqDiff]
 refine qj (v := .agg [lst cU8 code_0,.int .i64 0,.int .u64 0]) rfl ?_
 simp only [kp,B0,reduceIte,reduceEqDiff]
 refine jz (cs:=[lst cU8 code_0,.int .i64 0,.int .u64 0]) hS3 rfl rfl rfl (fun b5 h6 hS7=>?_)
 obtain ⟨v9,hx10,hF11⟩:=qi hF
 simp only [qc,qa,q06,qe,qd,za,B0,reduceIte,reduceEqDiff]
 refine ku rfl (qfx hW k b5 (L1Cur.mk code_0 0 0) v9 hx10 hS7) ?_
 rintro _ h20 ⟨v12,c13,v16,c17,rfl,hv14,hv18,hS21⟩
 simp only [je,B0,reduceIte,reduceEqDiff]
 refine zt hS21 (fun b22 h23 hS24=>?_)
 simp only [zg,B0,reduceIte,reduceEqDiff]
 refine qy (us:=[.int .i64 v9.1.Epoch,.int .i64 v9.1.Leader,v12,.int .i64 v9.1.High,v16]) rfl (cs':=[.int .i64 v9.1.Epoch,.int .i64 v9.1.Leader,v12,
   .int .i64 v9.1.High,v16]) hS24 hW rfl (qk rfl (qk rfl (qk (SlF.one hv14) (qk rfl (qk (SlN.one hv18) zn))))) (Nat.le_of_ble_eq_true rfl) rfl
   (fun h26 hS27=>?_)
 simp only [qa,B0,reduceIte,reduceEqDiff]
 refine zz hS27 hW (by simp only [B0,reduceIte,reduceEqDiff]) (fun h28 hS29=>?_)
 simp only [zw,qx9,qe,jh,wv,yz,B0,reduceIte,reduceEqDiff]
 refine qq (v := .agg [.int .i64 v9.1.Epoch,.int .i64 v9.1.Leader,v12,.int .i64 v9.1.High,v16]) rfl ?_
 simp only [zp,qg,zq,Nat.reduceAdd,Nat.zero_add,Nat.add_zero,qr,zm,B0,reduceIte,reduceEqDiff]
 refine qq (v:=v16) rfl ?_
 obtain ⟨v30,hx31,hF32⟩:=qi hF11
 simp only [qd2,qg,SlN.len hv18,kh,qbf,yy,B0,reduceIte,reduceEqDiff]
 refine q5n rfl (ms:=[b5]) rfl ql1 hW (Sep.m2 hS29) rfl (Nat.le_refl _) (fun b hb=>((Sep.dc (Sep.m2 hS29)).ran b hb).2) (fun hWq hSq=>k7 hWq b5 v9.2
   (IntKind.wrap .i64 ((List.length v9.1.Replicas:Int)+1)) v30 hx31 hSq) ?_
 rintro _ h33 ⟨rfl,hS34⟩ hback
 replace hS34:=hback _ hS34
 simp only [qdj,B0,reduceIte,reduceEqDiff]
 refine xk (us:=[.int .i64 v9.1.Epoch,.int .i64 v9.1.Leader,v12,.int .i64 v9.1.High,v16]) rfl (cs':=[.int .i64 v9.1.Epoch,.int .i64 v9.1.Leader,v12,
   .int .i64 v9.1.High,v16]) (Sep.m3 hS34) hW rfl (qk rfl (qk rfl (qk (SlF.one hv14) (qk rfl (qk (SlN.one hv18) zn))))) (Nat.le_of_ble_eq_true rfl) rfl
   (fun h35 hS36=>?_)
 simp only [zp,qg,qu,q8,B0,reduceIte,reduceEqDiff]
 have he:=ql hF32
 subst he
 refine jy (qh (j6 (bb:=b1) (oo:=0) (v := .agg [.int .i64 v9.1.Epoch,.int .i64 v9.1.Leader,v12,.int .i64 v9.1.High,
   v16]) (rfl) ((zv (Sep.bk _ _ _ hS36)).trans rfl)) (qh (yq (v := .int .i64 v30.1) (rfl)) qz)) ?_
 exact qdx (qh (qku (qh rfl (qh rfl (qh (SlF.cut hv14 (Sep.m2 hS36) (fun _ hb=>hb) rfl (fun _=>rfl) (fun _=>rfl)) (qh rfl (qh (SlN.cut hv18 _
   (Sep.m3 hS36) (fun _ hb=>hb) rfl Replica.RO) qz)))))) (qh rfl qz))
theorem qni {W:Nat→Bool}{h:Heap} (hW:∀ b,
  (geL h.length) b→W b=true) (k:Nat) (g_0:Group) (replica_1:Int) (r:Int × Bool) (hF:qbw k g_0 replica_1=some r) : Ret E W 37 [.agg [.int .i64 g_0.Epoch,
  .int .i64 g_0.Leader,lst cI g_0.InStep,.int .i64 g_0.High,lst Replica.cells g_0.Replicas],
  .int .i64 replica_1] h (fun v h'=>cut h.length h' E.sz false 9 v=some (.tup [.int .i64 r.1,.bool r.2])):=by
 refine Ret.of (fn:=x37) rfl (Run.of ?_)
 unfold qbw at hF
 have zf0:ze [.agg [.int .i64 g_0.Epoch,.int .i64 g_0.Leader,lst cI g_0.InStep,.int .i64 g_0.High,lst Replica.cells g_0.Replicas],
   .int .i64 replica_1] 0 = .agg [.int .i64 g_0.Epoch,.int .i64 g_0.Leader,lst cI g_0.InStep,.int .i64 g_0.High,lst Replica.cells g_0.Replicas]:=rfl
 have zf1:ze [.agg [.int .i64 g_0.Epoch,.int .i64 g_0.Leader,lst cI g_0.InStep,.int .i64 g_0.High,lst Replica.cells g_0.Replicas],
   .int .i64 replica_1] 1 = .int .i64 replica_1:=rfl
 generalize ze [.agg [.int .i64 g_0.Epoch,.int .i64 g_0.Leader,lst cI g_0.InStep,.int .i64 g_0.High,lst Replica.cells g_0.Replicas],.int .i64 replica_1]=fr0 at zf0 zf1 ⊢
 have hS:Sep h (geL h.length) []:=Sep.nil h
 simp only [x37,qe,qd,kp,zf0,B0,reduceIte,reduceEqDiff]
 refine jz (cs:=[.int .i64 g_0.Epoch,.int .i64 g_0.Leader,lst cI g_0.InStep,.int .i64 g_0.High,lst Replica.cells g_0.Replicas]) hS rfl rfl rfl (fun b1 h2 hS3=>?_)
 simp only [qc,qa,B0,reduceIte,reduceEqDiff]
 refine zz hS3 hW (by simp only [B0,reduceIte,reduceEqDiff]) (fun h5 hS6=>?_)
 simp only [zw,q03,qe,qd,qp,B0,reduceIte,reduceEqDiff]
 refine qj (v := .agg [.int .i64 g_0.Epoch,.int .i64 g_0.Leader,lst cI g_0.InStep,.int .i64 g_0.High,lst Replica.cells g_0.Replicas]) rfl ?_
 obtain ⟨v7,hx8,hF9⟩:=qi hF
 simp only [za,B0,reduceIte,reduceEqDiff]
 refine js rfl (qh (jd (qh qm (qh qm (qh zo (qh qm (qh zo qz)))))) qz) (qah
   (fun b hb=>decide_eq_true hb) k g_0 v7 hx8) ?_
 simp only [ka,qb,kx,qc,B0,reduceIte,reduceEqDiff]
 refine ji 3 (fun fr' h'=>Sep h' (geL h.length) ([])∧fr' 13 = .bool ((!v7)||(decide (replica_1<0)))∧fr' 1 = .int .i64 replica_1∧fr' 2 = .ref [.int .i64 g_0.Epoch,
   .int .i64 g_0.Leader,lst cI g_0.InStep,.int .i64 g_0.High,lst Replica.cells g_0.Replicas] 0) (fun Q10 hN11=>?_) ?_
 ·simp only [List.take_succ_cons,List.take_zero]
  simp only [qf (g:=10),B0,reduceIte,reduceEqDiff]
  refine zf (t:=(!v7)) (fun hg12=>?_) (fun hg12=>?_)
  ·simp only [hg12,qf (g:=10),jf,qt,qb,zh,qa,qo,B0,reduceIte,reduceEqDiff]
   exact hN11 _ _ ⟨hS6,by rw [orT hg12]; simp only [B0,reduceIte,reduceEqDiff],zf1,rfl⟩
  ·simp only [hg12,qf (g:=10),qv,zf1,qc,q9,qb,u0,qt,zi,qa,qo,B0,reduceIte,reduceEqDiff]
   exact hN11 _ _ ⟨hS6,by rw [orF hg12]; simp only [B0,reduceIte,reduceEqDiff],zf1,rfl⟩
 rintro fr13 h17 ⟨hS18,f14,f15,f16⟩
 simp only [List.drop_succ_cons,List.drop_zero]
 simp only [f14,qc,B0,reduceIte,reduceEqDiff]
 refine ji 6 (fun fr' h'=>Sep h' (geL h.length) ([])∧fr' 20 = .bool (((!v7)||(decide (replica_1<0)))||(decide
   ((List.length g_0.Replicas:Int)≤replica_1)))∧fr' 1 = .int .i64 replica_1∧fr' 2 = .ref [.int .i64 g_0.Epoch,.int .i64 g_0.Leader,lst cI g_0.InStep,
   .int .i64 g_0.High,lst Replica.cells g_0.Replicas] 0) (fun Q19 hN20=>?_) ?_
 ·simp only [List.take_succ_cons,List.take_zero]
  simp only [qf (g:=14),B0,reduceIte,reduceEqDiff]
  refine zf (t:=((!v7)||(decide (replica_1<0)))) (fun hg21=>?_) (fun hg21=>?_)
  ·simp only [hg21,qf (g:=14),jf,qt,qb,zh,qa,qo,B0,reduceIte,reduceEqDiff]
   exact hN20 _ _ ⟨hS18,by rw [orT hg21]; simp only [B0,reduceIte,reduceEqDiff],f15,f16⟩
  ·simp only [hg21,qf (g:=14),qv,f15,qc,f16,qs,qb,Nat.reduceAdd,Nat.zero_add,Nat.add_zero,qr,qp,B0,reduceIte,
    reduceEqDiff]
   refine qj (v:=lst Replica.cells g_0.Replicas) rfl ?_
   simp only [hg21,qf (g:=14),qv,jb,qb,jl,q9,qht,qt,zi,qa,qo,B0,reduceIte,reduceEqDiff]
   exact hN20 _ _ ⟨hS18,by rw [orF hg21]; simp only [B0,reduceIte,reduceEqDiff],f15,f16⟩
 rintro fr22 h26 ⟨hS27,f23,f24,f25⟩
 simp only [List.drop_succ_cons,List.drop_zero]
 simp only [qa,qx1,f23,zb,B0,reduceIte,reduceEqDiff]
 refine zd (t:=(((!v7)||(decide (replica_1<0)))||(decide ((List.length g_0.Replicas:Int)≤replica_1)))) (fun hc28=>?_) (fun hc28=>?_)
 ·rw [iteT hc28] at hF9
  simp only [qe,qd,qc,qa,q8,B0,reduceIte,reduceEqDiff]
  have he:=ql hF9
  subst he
  simp only [qbs,B0,reduceIte,reduceEqDiff]
  exact qdx (qh rfl (qh rfl qz))
 rw [iteF hc28] at hF9
 simp only [zk,qxt,qe,qd,f25,qs,qb,Nat.reduceAdd,Nat.zero_add,Nat.add_zero,qr,qp,B0,reduceIte,reduceEqDiff]
 refine qj (v:=lst Replica.cells g_0.Replicas) rfl ?_
 simp only [f25,qs,qb,Nat.reduceAdd,Nat.zero_add,Nat.add_zero,qr,qp,B0,reduceIte,reduceEqDiff]
 refine qj (v := .int .i64 g_0.Leader) rfl ?_
 obtain ⟨x29,hx30,hF31⟩:=qi hF9
 simp only [j0,B0,reduceIte,reduceEqDiff]
 refine qj (v := .ref (Replica.cells x29) 0) (kz hx30 rfl) ?_
 simp only [qs,qb,Nat.reduceAdd,Nat.zero_add,Nat.add_zero,qr,qp,B0,reduceIte,reduceEqDiff]
 refine qj (v:=lst Row.cells x29.Log) rfl ?_
 simp only [qc,qa,qyu,qe,qd,jb,qb,jl,f25,qs,Nat.reduceAdd,Nat.zero_add,Nat.add_zero,qr,qp,B0,reduceIte,
   reduceEqDiff]
 refine qj (v:=lst Replica.cells g_0.Replicas) rfl ?_
 obtain ⟨x32,hx33,hF34⟩:=qi hF31
 simp only [f24,qc,j0,B0,reduceIte,reduceEqDiff]
 refine qj (v := .ref (Replica.cells x32) 0) (kz hx33 rfl) ?_
 simp only [qs,qb,Nat.reduceAdd,Nat.zero_add,Nat.add_zero,qr,qp,B0,reduceIte,reduceEqDiff]
 refine qj (v:=lst Row.cells x32.Log) rfl ?_
 obtain ⟨v35,hx36,hF37⟩:=qi hF34
 simp only [qc,za,B0,reduceIte,reduceEqDiff]
 refine js rfl (qh zo (qh zo qz)) (qbq (fun b hb=>decide_eq_true hb) k x32.Log x29.Log v35 hx36) ?_
 simp only [q9,qb,qdd,qc,qa,q8,B0,reduceIte,reduceEqDiff]
 have he:=ql hF37
 subst he
 simp only [qbs,B0,reduceIte,reduceEqDiff]
 exact qdx (qh rfl (qh rfl qz))
theorem qhl {W:Nat→Bool}{h:Heap} (hW:∀ b,
  (geL h.length) b→W b=true) (k:Nat) (code_0:List Int) (r:Group) (hF:qaz k code_0=some r) : Ret E W 77 [lst cU8 code_0] h
  (fun v h'=>∃ rv0_2 rc0_2 rv0_4 rc0_4,v = .agg [.int .i64 r.Epoch,.int .i64 r.Leader,rv0_2,.int .i64 r.High,
  rv0_4]∧SlF cI 1 3 rv0_2 r.InStep rc0_2∧SlN Replica.R 3 51 rv0_4 r.Replicas rc0_4∧Sep h' (geL h.length) (rc0_2++(rc0_4++([])))):=by
 refine Ret.of (fn:=x77) rfl (Run.of ?_)
 unfold qaz at hF
 have zf0:ze [lst cU8 code_0] 0=lst cU8 code_0:=rfl
 generalize ze [lst cU8 code_0]=fr0 at zf0 ⊢
 have hS:Sep h (geL h.length) []:=Sep.nil h
 simp only [x77,qe,qd,je,B0,reduceIte,reduceEqDiff]
 refine zt hS (fun b1 h2 hS3=>?_)
 simp only [qa,q0z,qe,qd,zf0,qc,run_build,evp,B0,reduceIte,reduceEqDiff]
 refine qj (v := .agg [lst cU8 code_0,.int .i64 0,.int .u64 0]) rfl ?_
 simp only [kp,B0,reduceIte,reduceEqDiff]
 refine jz (cs:=[lst cU8 code_0,.int .i64 0,.int .u64 0]) hS3 rfl rfl rfl (fun b5 h6 hS7=>?_)
 obtain ⟨v9,hx10,hF11⟩:=qi hF
 simp only [qc,qa,qe,qd,za,B0,reduceIte,reduceEqDiff]
 refine ku rfl (qfx hW k b5 (L1Cur.mk code_0 0 0) v9 hx10 hS7) ?_
 rintro _ h20 ⟨v12,c13,v16,c17,rfl,hv14,hv18,hS21⟩
 simp only [zg,B0,reduceIte,reduceEqDiff]
 refine qy (us:=[.int .i64 v9.1.Epoch,.int .i64 v9.1.Leader,v12,.int .i64 v9.1.High,v16]) rfl (cs':=[.int .i64 v9.1.Epoch,.int .i64 v9.1.Leader,v12,
   .int .i64 v9.1.High,v16]) (Sep.m3 hS21) hW rfl (qk rfl (qk rfl (qk (SlF.one hv14) (qk rfl (qk (SlN.one hv18) zn))))) (Nat.le_of_ble_eq_true rfl) rfl
   (fun h22 hS23=>?_)
 simp only [qa,q8,B0,reduceIte,reduceEqDiff]
 have he:=ql hF11
 subst he
 refine we (bb:=b1) (oo:=0) (v := .agg [.int .i64 v9.1.Epoch,.int .i64 v9.1.Leader,v12,.int .i64 v9.1.High,v16]) (by simp only [B0,reduceIte,
   reduceEqDiff]) ((zv (Sep.bk _ _ _ hS23)).trans rfl) ?_
 exact ⟨v12,c13,v16,c17,by first | trivial | rfl,hv14,hv18,(Sep.m1 (Sep.m1 (Sep.dc (Sep.m2 (Sep.dc (hS23))))))⟩
theorem qgq {W:Nat→Bool}{h:Heap} (hW:∀ b,
  (geL h.length) b→W b=true) (k:Nat) (code_0:List Int) (r:Group) (hF:xm k code_0=some r) : Ret E W 38 [lst cU8 code_0] h
  (fun v h'=>∃ rv0_2 rc0_2 rv0_4 rc0_4,v = .agg [.int .i64 r.Epoch,.int .i64 r.Leader,rv0_2,.int .i64 r.High,
  rv0_4]∧SlF cI 1 3 rv0_2 r.InStep rc0_2∧SlN Replica.R 3 51 rv0_4 r.Replicas rc0_4∧Sep h' (geL h.length) (rc0_2++(rc0_4++([])))):=by
 refine Ret.of (fn:=x38) rfl (Run.of ?_)
 unfold xm at hF
 have zf0:ze [lst cU8 code_0] 0=lst cU8 code_0:=rfl
 generalize ze [lst cU8 code_0]=fr0 at zf0 ⊢
 have hS:Sep h (geL h.length) []:=Sep.nil h
 simp only [x38,qe,qd,je,B0,reduceIte,reduceEqDiff]
 refine zt hS (fun b1 h2 hS3=>?_)
 obtain ⟨v5,hx6,hF7⟩:=qi hF
 simp only [qa,qe,qd,zf0,qc,za,B0,reduceIte,reduceEqDiff]
 refine uo rfl hS3 (qh zo qz) (qhl (fun b hb=>decide_eq_true hb) k code_0 v5 hx6) ?_
 rintro _ h16 ⟨v8,c9,v12,c13,rfl,hv10,hv14,hS17⟩
 refine ⟨_,qcg (qk rfl (qk rfl (qk (SlF.free1 hv10) (qk rfl (qk (SlN.free1 hv14) zn))))),hS17,
   (jt (SlF.pf hv10 (fun _=>rfl)) (jt (SlN.pf hv14 Replica.RO) wi)),fun h18 hS19=>?_⟩
 have hS20:Sep h18 (geL h.length) (c9++(c13++([Blk1 b1 [.int .i64 0,.int .i64 0,.nil,.int .i64 0,.nil] 29]++([])))):=by simpa only [List.append_assoc,
   List.nil_append] using hS19
 simp only [zg,B0,reduceIte,reduceEqDiff]
 refine qy (us:=[.int .i64 v5.Epoch,.int .i64 v5.Leader,v8,.int .i64 v5.High,v12]) rfl (cs':=[.int .i64 v5.Epoch,.int .i64 v5.Leader,v8,.int .i64 v5.High,
   v12]) (Sep.m2 hS20) hW rfl (qk rfl (qk rfl (qk (SlF.one hv10) (qk rfl (qk (SlN.one hv14) zn))))) (Nat.le_of_ble_eq_true rfl) rfl (fun h21 hS22=>?_)
 simp only [qa,q8,B0,reduceIte,reduceEqDiff]
 have he:=ql hF7
 subst he
 refine we (bb:=b1) (oo:=0) (v := .agg [.int .i64 v5.Epoch,.int .i64 v5.Leader,v8,.int .i64 v5.High,v12]) (by simp only [B0,reduceIte,
   reduceEqDiff]) ((zv (Sep.bk _ _ _ hS22)).trans rfl) ?_
 exact ⟨v8,c9,v12,c13,by first | trivial | rfl,hv10,hv14,(Sep.m1 (Sep.m1 (Sep.dc (hS22))))⟩
theorem qhh {W:Nat→Bool}{h:Heap} (hW:∀ b,
  (geL h.length) b→W b=true) (k:Nat) (g_0:Group) (r:(List Row) × Bool) (hF:xa k g_0=some r) : Ret E W 39 [.agg [.int .i64 g_0.Epoch,
  .int .i64 g_0.Leader,lst cI g_0.InStep,.int .i64 g_0.High,lst Replica.cells g_0.Replicas]] h (fun v h'=>∃ rv0 rc0,v = .tup [rv0,
  .bool r.2]∧SlF Row.cells 2 98 rv0 r.1 rc0∧Sep h' (geL h.length) (rc0++([]))):=by
 refine Ret.of (fn:=x39) rfl (Run.of ?_)
 unfold xa at hF
 have zf0:ze [.agg [.int .i64 g_0.Epoch,.int .i64 g_0.Leader,lst cI g_0.InStep,.int .i64 g_0.High,lst Replica.cells g_0.Replicas]] 0 = .agg [.int .i64 g_0.Epoch,
   .int .i64 g_0.Leader,lst cI g_0.InStep,.int .i64 g_0.High,lst Replica.cells g_0.Replicas]:=rfl
 generalize ze [.agg [.int .i64 g_0.Epoch,.int .i64 g_0.Leader,lst cI g_0.InStep,.int .i64 g_0.High,lst Replica.cells g_0.Replicas]]=fr0 at zf0 ⊢
 have hS:Sep h (geL h.length) []:=Sep.nil h
 simp only [x39,qe,qd,kp,zf0,B0,reduceIte,reduceEqDiff]
 refine jz (cs:=[.int .i64 g_0.Epoch,.int .i64 g_0.Leader,lst cI g_0.InStep,.int .i64 g_0.High,lst Replica.cells g_0.Replicas]) hS rfl rfl rfl (fun b1 h2 hS3=>?_)
 simp only [qc,qa,B0,reduceIte,reduceEqDiff]
 refine zz hS3 hW (by simp only [B0,reduceIte,reduceEqDiff]) (fun h5 hS6=>?_)
 simp only [zw,q0a,qe,qd,qp,B0,reduceIte,reduceEqDiff]
 refine qj (v := .agg [.int .i64 g_0.Epoch,.int .i64 g_0.Leader,lst cI g_0.InStep,.int .i64 g_0.High,lst Replica.cells g_0.Replicas]) rfl ?_
 obtain ⟨v7,hx8,hF9⟩:=qi hF
 simp only [za,B0,reduceIte,reduceEqDiff]
 refine js rfl (qh (jd (qh qm (qh qm (qh zo (qh qm (qh zo qz)))))) qz) (qah
   (fun b hb=>decide_eq_true hb) k g_0 v7 hx8) ?_
 simp only [ka,qb,kx,qa,q2a,zb,B0,reduceIte,reduceEqDiff]
 refine zd (t:=(!v7)) (fun hc10=>?_) (fun hc10=>?_)
 ·rw [iteT hc10] at hF9
  simp only [qe,qd,qc,qa,q8,B0,reduceIte,reduceEqDiff]
  have he:=ql hF9
  subst he
  simp only [qbs,B0,reduceIte,reduceEqDiff]
  exact ⟨.nil,[],by first | trivial | rfl,SlF.nil,(hS6:Sep _ (geL h.length) ([]))⟩
 rw [iteF hc10] at hF9
 simp only [zk,q1x,qe,jh,qcw,evp,B0,reduceIte,reduceEqDiff]
 refine ux (n:=2) (f:=Row.cells) ([] : List Row) hS6 rfl rfl (fun v11 c12 h13 hv14 hS15=>?_)
 simp only [zq,qg,Nat.reduceAdd,Nat.zero_add,Nat.add_zero,qr,zm,B0,reduceIte,reduceEqDiff]
 refine qq (v:=lst Replica.cells g_0.Replicas) rfl ?_
 simp only [zq,qg,Nat.reduceAdd,Nat.zero_add,Nat.add_zero,qr,zm,B0,reduceIte,reduceEqDiff]
 refine qq (v := .int .i64 g_0.Leader) rfl ?_
 obtain ⟨x17,hx18,hF19⟩:=qi hF9
 simp only [wo,B0,reduceIte,reduceEqDiff]
 refine qq (v := .ref (Replica.cells x17) 0) (kz hx18 rfl) ?_
 simp only [zq,qg,Nat.reduceAdd,Nat.zero_add,Nat.add_zero,qr,zm,B0,reduceIte,reduceEqDiff]
 refine qq (v:=lst Row.cells x17.Log) rfl ?_
 simp only [zq,qg,Nat.reduceAdd,Nat.zero_add,Nat.add_zero,qr,zm,B0,reduceIte,reduceEqDiff]
 refine qq (v := .int .i64 g_0.High) rfl ?_
 obtain ⟨l20,hx21,hF22⟩:=qi hF19
 simp only [qg9,Option.map_some,Option.map_none,B0,reduceIte,reduceEqDiff]
 refine qq (qi3 hx21 (fun _=>rfl)) ?_
 simp only [qg7,B0,reduceIte,reduceEqDiff]
 obtain ⟨l23,hx24,hF25⟩:=qi hF22
 refine qbt (f:=Row.cells) hv14 hS15 hW (fun _=>rfl) (fun _=>rfl) (qb9 (fun _=>rfl)) hx24 (fun v26 c27 h28 hv29 hS30=>?_)
 simp only [zp,qg,qu,q8,B0,reduceIte,reduceEqDiff]
 have he:=ql hF25
 subst he
 simp only [qbs,B0,reduceIte,reduceEqDiff]
 exact ⟨v26,c27,by first | trivial | rfl,hv29,hS30⟩
theorem qh0 {W:Nat→Bool}{h:Heap} (hW:∀ b,
  (geL h.length) b→W b=true) (code_0:List Int) (r:Int) (hF:u3 code_0=some r) : Ret E W 40 [lst cU8 code_0] h
  (fun v h'=>cut h.length h' E.sz false 9 v=some (.int .i64 r)):=by
 refine Ret.of (fn:=x40) rfl (Run.of ?_)
 unfold u3 at hF
 have zf0:ze [lst cU8 code_0] 0=lst cU8 code_0:=rfl
 generalize ze [lst cU8 code_0]=fr0 at zf0 ⊢
 have hS:Sep h (geL h.length) []:=Sep.nil h
 simp only [x40,qe,qd,qc,qa,qxp,zf0,run_build,evp,B0,reduceIte,reduceEqDiff]
 refine qj (v := .agg [lst cU8 code_0,.int .i64 0,.int .u64 0]) rfl ?_
 simp only [kp,B0,reduceIte,reduceEqDiff]
 refine jz (cs:=[lst cU8 code_0,.int .i64 0,.int .u64 0]) hS rfl rfl rfl (fun b1 h2 hS3=>?_)
 obtain ⟨v5,hx6,hF7⟩:=qi hF
 simp only [qc,qa,qe,qd,za,B0,reduceIte,reduceEqDiff]
 refine ku rfl (k7 hW b1 (L1Cur.mk code_0 0 0) 7 v5 hx6 hS3) ?_
 rintro _ h8 ⟨rfl,hS9⟩
 simp only [qc,qa,q8,B0,reduceIte,reduceEqDiff]
 have he:=ql hF7
 subst he
 simp only [zj,B0,reduceIte,reduceEqDiff]
 exact rfl
theorem qkf {W:Nat→Bool}{h:Heap} (hW:∀ b,
  (geL h.length) b→W b=true) (replicas_0:Int) (r:Group) (hF:qb7 replicas_0=some r) : Ret E W 65 [.int .i64 replicas_0] h
  (fun v h'=>∃ rv0_2 rc0_2 rv0_4 rc0_4,v = .agg [.int .i64 r.Epoch,.int .i64 r.Leader,rv0_2,.int .i64 r.High,
  rv0_4]∧SlF cI 1 3 rv0_2 r.InStep rc0_2∧SlN Replica.R 3 51 rv0_4 r.Replicas rc0_4∧Sep h' (geL h.length) (rc0_2++(rc0_4++([])))):=by
 refine Ret.of (fn:=x65) rfl (Run.of ?_)
 unfold qb7 at hF
 have zf0:ze [.int .i64 replicas_0] 0 = .int .i64 replicas_0:=rfl
 generalize ze [.int .i64 replicas_0]=fr0 at zf0 ⊢
 have hS:Sep h (geL h.length) []:=Sep.nil h
 simp only [x65,qe,qd,je,B0,reduceIte,reduceEqDiff]
 refine zt hS (fun b1 h2 hS3=>?_)
 obtain ⟨l5,hx6,hF7⟩:=qi hF
 simp only [qa,qyw,qe,qd,zf0,qc,qoi,B0,reduceIte,reduceEqDiff]
 refine qle (R:=Replica.R) (e:=(Replica.mk [] (0:Int) (0:Int))) (z:=[.nil,.int .i64 0,
   .int .i64 0]) hS3 hx6 (Replica.RI (x:=(Replica.mk [] 0 0)) SlF.nil) rfl (fun v8 c9 h10 hv11 hS12=>?_)
 simp only [run_build,evp,B0,reduceIte,reduceEqDiff]
 refine qj (v := .agg [.int .i64 0,.int .i64 0,.nil,.int .i64 0,v8]) (qev (qdi (us:=[v8]) (vs:=[.int .i64 0,.int .i64 0,.nil,.int .i64 0,
   v8]) (k5 (SlN.one hv11)) rfl (Nat.le_of_ble_eq_true rfl) (qk (SlN.one hv11) zn) rfl qio)) ?_
 simp only [je,B0,reduceIte,reduceEqDiff]
 refine zt hS12 (fun b14 h15 hS16=>?_)
 simp only [zg,B0,reduceIte,reduceEqDiff]
 refine qy (us:=[.int .i64 0,.int .i64 0,.nil,.int .i64 0,v8]) rfl (cs':=[.int .i64 0,.int .i64 0,.nil,.int .i64 0,
   v8]) hS16 hW rfl (qk rfl (qk rfl (qk rfl (qk rfl (qk (SlN.one hv11) zn))))) (Nat.le_of_ble_eq_true rfl) rfl (fun h18 hS19=>?_)
 simp only [qa,q2u,qe,qd,zf0,qc,B0,reduceIte,reduceEqDiff]
 obtain ⟨oc32,hX34,hk35⟩:=kq hF7
 simp only [qzh]
 refine qei (σ:=Group) (fun i30 s70=>qaj l5 i30 s70) (fun s fr' h'=>∃ v27 c28,
   fr' 2 = .ptr b1 0∧fr' 3 = .ptr b14 0∧SlF cI 1 3 v27 s.InStep c28∧Sep h' (geL h.length) ([Blk1 b1 [.int .i64 0,.int .i64 0,.nil,.int .i64 0,
   .nil] 29]++([Blk1 b14 [.int .i64 s.Epoch,.int .i64 s.Leader,v27,.int .i64 s.High,v8] 29]++(c28++(c9++([])))))) hX34 ⟨.nil,[],rfl,rfl,SlF.nil,
   ((Sep.m2 (Sep.m1 (Sep.m1 hS19))) : Sep _ (geL h.length) ([Blk1 b1 [.int .i64 0,.int .i64 0,.nil,.int .i64 0,.nil] 29]++([Blk1 b14 [.int .i64 0,.int .i64 0,.nil,
   .int .i64 0,v8] 29]++(c9++([])))))⟩ (by simp only [B0,reduceIte,reduceEqDiff]) (by simp only [B0,reduceIte,
   reduceEqDiff]) (fun _ _ _ h=>h) rfl rfl (fun _ _ _ _ h=>h) (fun _ _ _ _ h=>h) (fun _ _ _ _ h=>h) (by decide) ?_ ?_
 ·rintro i30 s25 fr44 h45 hx49 ⟨v27,c28,f47,f48,hv29,hS46⟩ f50 f51 oc33 hF36 hr37 Q38 hN39 hB43 hK40 hR41 hE42
  unfold qaj at hF36
  simp only [q0s,qe,qd,f50,qc,qa,q2m,f48,qs,qb,Nat.reduceAdd,Nat.zero_add,Nat.add_zero,qw,qp,B0,reduceIte,
    reduceEqDiff]
  refine qj (v:=v27) ((zu (Sep.bk _ _ _ (Sep.m1 hS46))).trans rfl) ?_
  simp only [qc,yu,evp,B0,reduceIte,reduceEqDiff]
  refine ye (n:=1) (f:=cI) [(i30:Int)] hS46 rfl rfl (fun v52 c53 h54 hv55 hS56=>?_)
  simp only [uc,B0,reduceIte,reduceEqDiff]
  obtain ⟨l58,hx59,hF60⟩:=qi hF36
  refine wq (f:=cI) hv29 (Sep.m3 hS56) hW (fun _=>rfl) (fun _=>rfl) (SlF.first hv55 hS56 (fun _=>rfl)) hx59 (fun v61 c62 h63 hv64 hS65=>?_)
  simp only [f48,qs,qb,Nat.reduceAdd,Nat.zero_add,Nat.add_zero,qw,zg,B0,reduceIte,reduceEqDiff]
  refine qy (us:=[v61]) (k5 (SlF.one hv64)) (cs':=[.int .i64 s25.Epoch,.int .i64 s25.Leader,v61,.int .i64 s25.High,
    v8]) (Sep.m3 hS65) hW rfl (qk (SlF.one hv64) zn) (Nat.le_of_ble_eq_true rfl) rfl (fun h67 hS68=>?_)
  simp only [qa,qo,B0,reduceIte,reduceEqDiff]
  have e69:=ql hF60
  exact hN39 _ _ _ e69.symm ⟨v61,c62,f47,f48,hv64,(Sep.m3 (Sep.m2 (Sep.m2 (Sep.m3 (Sep.dc (Sep.m2 hS68))))))⟩ (f50) (f51)
 rintro s71 fr76 h77 rfl ⟨v73,c74,f79,f80,hv75,hS78⟩
 dsimp only [jnO] at hk35
 unfold qfq at hk35
 simp only [qe,qd,f80,qp,B0,reduceIte,reduceEqDiff]
 refine qj (v := .agg [.int .i64 s71.Epoch,.int .i64 s71.Leader,v73,.int .i64 s71.High,v8]) ((zv (Sep.bk _ _ _ (Sep.m1 hS78))).trans rfl) ?_
 simp only [f79,zg,B0,reduceIte,reduceEqDiff]
 refine qy (us:=[.int .i64 s71.Epoch,.int .i64 s71.Leader,v73,.int .i64 s71.High,v8]) rfl (cs':=[.int .i64 s71.Epoch,.int .i64 s71.Leader,v73,
   .int .i64 s71.High,v8]) hS78 hW rfl (qk rfl (qk rfl (qk (SlF.one hv75) (qk rfl (qk (SlN.one hv11) zn))))) (Nat.le_of_ble_eq_true rfl) rfl
   (fun h81 hS82=>?_)
 simp only [qa,q8,B0,reduceIte,reduceEqDiff]
 have he:=ql hk35
 subst he
 refine we (bb:=b1) (oo:=0) (v := .agg [.int .i64 s71.Epoch,.int .i64 s71.Leader,v73,.int .i64 s71.High,v8]) (by simp only [f79,B0,reduceIte,
   reduceEqDiff]) ((zv (Sep.bk _ _ _ hS82)).trans rfl) ?_
 exact ⟨v73,c74,v8,c9,by first | trivial | rfl,hv75,hv11,(Sep.m1 (Sep.m1 (Sep.dc ((Sep.dc (hS82))))))⟩
theorem qj0 {W:Nat→Bool}{h:Heap} (hW:∀ b,
  (geL h.length) b→W b=true) (replicas_0:Int) (r:Group × Bool) (hF:qb6 replicas_0=some r) : Ret E W 41 [.int .i64 replicas_0] h
  (fun v h'=>cut h.length h' E.sz false 9 v=some (.tup [.agg [.int .i64 r.1.Epoch,.int .i64 r.1.Leader,lst cI r.1.InStep,.int .i64 r.1.High,
  lst Replica.cells r.1.Replicas],.bool r.2])):=by
 refine Ret.of (fn:=x41) rfl (Run.of ?_)
 unfold qb6 at hF
 have zf0:ze [.int .i64 replicas_0] 0 = .int .i64 replicas_0:=rfl
 generalize ze [.int .i64 replicas_0]=fr0 at zf0 ⊢
 have hS:Sep h (geL h.length) []:=Sep.nil h
 simp only [x41,qe,qd,je,B0,reduceIte,reduceEqDiff]
 refine zt hS (fun b1 h2 hS3=>?_)
 simp only [qc,qa,qwz,qe,qd,zf0,za,B0,reduceIte,reduceEqDiff]
 refine js rfl (qh qm (qh qm (qh qm qz))) (w8 (fun b hb=>decide_eq_true hb) replicas_0 2 4 _ rfl) ?_
 simp only [ka,qb,kx,qa,q2g,zb,B0,reduceIte,reduceEqDiff]
 refine zd (t:=(!(z7 replicas_0 2 4))) (fun hc5=>?_) (fun hc5=>?_)
 ·rw [iteT hc5] at hF
  simp only [qe,qd,run_build,evp,B0,reduceIte,reduceEqDiff]
  refine qj (v := .agg [.int .i64 0,.int .i64 0,.nil,.int .i64 0,.nil]) rfl ?_
  simp only [zg,B0,reduceIte,reduceEqDiff]
  refine qy (us:=[.int .i64 0,.int .i64 0,.nil,.int .i64 0,.nil]) rfl (cs':=[.int .i64 0,.int .i64 0,.nil,.int .i64 0,
    .nil]) hS3 hW rfl rfl (Nat.le_of_ble_eq_true rfl) rfl (fun h6 hS7=>?_)
  simp only [qc,qa,q8,B0,reduceIte,reduceEqDiff]
  have he:=ql hF
  subst he
  refine jy (qh (j6 (bb:=b1) (oo:=0) (v := .agg [.int .i64 0,.int .i64 0,.nil,.int .i64 0,
    .nil]) (rfl) ((zv (Sep.bk _ _ _ hS7)).trans rfl)) (qh (yq (v := .bool false) (rfl)) qz)) ?_
  exact qdx (qh (qku (qh rfl (qh rfl (qh rfl (qh rfl (qh rfl qz)))))) (qh rfl qz))
 rw [iteF hc5] at hF
 obtain ⟨v8,hx9,hF10⟩:=qi hF
 simp only [zk,qz5,qe,qd,zf0,qc,za,B0,reduceIte,reduceEqDiff]
 refine uo rfl hS3 (qh qm qz) (qkf (fun b hb=>decide_eq_true hb) replicas_0 v8 hx9) ?_
 rintro _ h19 ⟨v11,c12,v15,c16,rfl,hv13,hv17,hS20⟩
 refine ⟨_,qcg (qk rfl (qk rfl (qk (SlF.free1 hv13) (qk rfl (qk (SlN.free1 hv17) zn))))),hS20,
   (jt (SlF.pf hv13 (fun _=>rfl)) (jt (SlN.pf hv17 Replica.RO) wi)),fun h21 hS22=>?_⟩
 have hS23:Sep h21 (geL h.length) (c12++(c16++([Blk1 b1 [.int .i64 0,.int .i64 0,.nil,.int .i64 0,.nil] 29]++([])))):=by simpa only [List.append_assoc,
   List.nil_append] using hS22
 simp only [zg,B0,reduceIte,reduceEqDiff]
 refine qy (us:=[.int .i64 v8.Epoch,.int .i64 v8.Leader,v11,.int .i64 v8.High,v15]) rfl (cs':=[.int .i64 v8.Epoch,.int .i64 v8.Leader,v11,.int .i64 v8.High,
   v15]) (Sep.m2 hS23) hW rfl (qk rfl (qk rfl (qk (SlF.one hv13) (qk rfl (qk (SlN.one hv17) zn))))) (Nat.le_of_ble_eq_true rfl) rfl (fun h24 hS25=>?_)
 simp only [qc,qa,q8,B0,reduceIte,reduceEqDiff]
 have he:=ql hF10
 subst he
 refine jy (qh (j6 (bb:=b1) (oo:=0) (v := .agg [.int .i64 v8.Epoch,.int .i64 v8.Leader,v11,.int .i64 v8.High,
   v15]) (rfl) ((zv (Sep.bk _ _ _ hS25)).trans rfl)) (qh (yq (v := .bool true) (rfl)) qz)) ?_
 exact qdx (qh (qku (qh rfl (qh rfl (qh (SlF.cut hv13 (Sep.m1 hS25) (fun _ hb=>hb) rfl (fun _=>rfl) (fun _=>rfl)) (qh rfl (qh (SlN.cut hv17 _
   (Sep.m2 hS25) (fun _ hb=>hb) rfl Replica.RO) qz)))))) (qh rfl qz))
end Go.Proofs.Ytefgfcalgjmhjaa.X
namespace Go.Proofs.Ytefgfcalgjmhjaa.X
open Go
open Nat (reduceEqDiff)
theorem qhz {W:Nat→Bool}{h:Heap} (hW:∀ b,
  (geL h.length) b→W b=true) (k:Nat) (v_0:List Int) (v_1:List Int) (r:Bool) (hF:u4 k v_0 v_1=some r) : Ret E W 6 [lst cU8 v_0,
  lst cU8 v_1] h (fun v h'=>cut h.length h' E.sz false 9 v=some (.bool r)):=by
 refine Ret.of (fn:=x6) rfl (Run.of ?_)
 unfold u4 at hF
 have zf0:ze [lst cU8 v_0,lst cU8 v_1] 0=lst cU8 v_0:=rfl
 have zf1:ze [lst cU8 v_0,lst cU8 v_1] 1=lst cU8 v_1:=rfl
 generalize ze [lst cU8 v_0,lst cU8 v_1]=fr0 at zf0 zf1 ⊢
 have hS:Sep h (geL h.length) []:=Sep.nil h
 simp only [x6,qe,qd,qc,qa,qv7,zf0,jb,qb,jl,zf1,q9,qbf,qcv,zb,B0,reduceIte,reduceEqDiff]
 refine zd (t:=(decide ((1048576:Int)<(IntKind.wrap .i64 ((List.length v_0:Int)+(List.length v_1:Int)))))) (fun hc1=>?_) (fun hc1=>?_)
 ·rw [iteT hc1] at hF
  simp only [qe,qd,qc,qa,q8,B0,reduceIte,reduceEqDiff]
  have he:=ql hF
  subst he
  simp only [zj,B0,reduceIte,reduceEqDiff]
  exact rfl
 rw [iteF hc1] at hF
 obtain ⟨v2,hx3,hF4⟩:=qi hF
 simp only [zk,qzp,qe,qd,zf0,qc,za,B0,reduceIte,reduceEqDiff]
 refine uo rfl hS (qh zo qz) (qhk (fun b hb=>decide_eq_true hb) k v_0 v2 hx3) ?_
 rintro _ h13 ⟨v5,c6,v9,c10,rfl,hv7,hv11,hS14⟩
 refine ⟨_,qb5 (qk (qc1 (qk rfl (qk rfl (qk (SlF.free1 hv7) (qk rfl (qk (SlN.free1 hv11) zn)))))) (qk (qc1 (qk rfl (qk rfl
   (qk rfl zn)))) zn)),hS14,(jt (SlF.pf hv7 (fun _=>rfl)) (jt (SlN.pf hv11 Replica.RO) wi)),fun h15 hS16=>?_⟩
 have hS17:Sep h15 (geL h.length) (c6++(c10++([]))):=by simpa only [List.append_assoc,List.nil_append] using hS16
 simp only [qc,xy,qb,xu,xj,je,B0,reduceIte,reduceEqDiff]
 refine zt hS17 (fun b18 h19 hS20=>?_)
 simp only [je,B0,reduceIte,reduceEqDiff]
 refine zt hS20 (fun b22 h23 hS24=>?_)
 simp only [zg,B0,reduceIte,reduceEqDiff]
 refine qy (us:=[.int .i64 v2.1.Epoch,.int .i64 v2.1.Leader,v5,.int .i64 v2.1.High,v9]) rfl (cs':=[.int .i64 v2.1.Epoch,.int .i64 v2.1.Leader,v5,
   .int .i64 v2.1.High,v9]) (Sep.m1 hS24) hW rfl (qk rfl (qk rfl (qk (SlF.one hv7) (qk rfl (qk (SlN.one hv11) zn))))) (Nat.le_of_ble_eq_true rfl) rfl
   (fun h26 hS27=>?_)
 simp only [zg,B0,reduceIte,reduceEqDiff]
 refine qy (us:=[.int .i64 v2.2.Kind,.int .i64 v2.2.K,.int .i64 v2.2.N]) rfl (cs':=[.int .i64 v2.2.Kind,.int .i64 v2.2.K,
   .int .i64 v2.2.N]) (Sep.m1 hS27) hW rfl rfl (Nat.le_of_ble_eq_true rfl) rfl (fun h28 hS29=>?_)
 simp only [qa,B0,reduceIte,reduceEqDiff]
 refine zz (Sep.m1 hS29) hW (by simp only [B0,reduceIte,reduceEqDiff]) (fun h30 hS31=>?_)
 refine zz hS31 hW (by simp only [B0,reduceIte,reduceEqDiff]) (fun h32 hS33=>?_)
 simp only [zw,qzc,qe,qd,qp,B0,reduceIte,reduceEqDiff]
 refine qj (v := .agg [.int .i64 v2.1.Epoch,.int .i64 v2.1.Leader,v5,.int .i64 v2.1.High,v9]) rfl ?_
 simp only [qp,B0,reduceIte,reduceEqDiff]
 refine qj (v := .agg [.int .i64 v2.2.Kind,.int .i64 v2.2.K,.int .i64 v2.2.N]) rfl ?_
 obtain ⟨v34,hx35,hF36⟩:=qi hF4
 simp only [za,B0,reduceIte,reduceEqDiff]
 refine uo rfl hS33 (qh (jd (qh qm (qh qm (qh (SlF.snap hv7 hS33 rfl (fun _=>rfl) (fun _=>rfl)) (qh qm (qh (SlN.snap hv11 _
   (Sep.m1 hS33) rfl Replica.RO) qz)))))) (qh (jd (qh qm (qh qm (qh qm qz)))) qz)) (qjh
   (fun b hb=>decide_eq_true hb) k v2.1 v2.2 v34 hx35) ?_
 rintro _ h45 ⟨v37,c38,v41,c42,rfl,hv39,hv43,hS46⟩
 refine ⟨_,qb5 (qk (qc1 (qk rfl (qk rfl (qk (SlF.free1 hv39) (qk rfl (qk (SlN.free1 hv43) zn)))))) (qk rfl zn)),hS46,
   (jt (SlF.pf hv39 (fun _=>rfl)) (jt (SlN.pf hv43 Replica.RO) wi)),fun h47 hS48=>?_⟩
 have hS49:Sep h47 (geL h.length) (c38++(c42++(c6++(c10++([]))))):=by simpa only [List.append_assoc,List.nil_append] using hS48
 simp only [qc,xy,qb,xu,xj,je,B0,reduceIte,reduceEqDiff]
 refine zt hS49 (fun b50 h51 hS52=>?_)
 simp only [zg,B0,reduceIte,reduceEqDiff]
 refine qy (us:=[.int .i64 v34.1.Epoch,.int .i64 v34.1.Leader,v37,.int .i64 v34.1.High,v41]) rfl (cs':=[.int .i64 v34.1.Epoch,.int .i64 v34.1.Leader,v37,
   .int .i64 v34.1.High,v41]) hS52 hW rfl (qk rfl (qk rfl (qk (SlF.one hv39) (qk rfl (qk (SlN.one hv43) zn))))) (Nat.le_of_ble_eq_true rfl) rfl
   (fun h54 hS55=>?_)
 simp only [qc,qa,B0,reduceIte,reduceEqDiff]
 refine zz hS55 hW (by simp only [B0,reduceIte,reduceEqDiff]) (fun h56 hS57=>?_)
 simp only [zw,q0o,qe,qd,qp,B0,reduceIte,reduceEqDiff]
 refine qj (v := .agg [.int .i64 v2.1.Epoch,.int .i64 v2.1.Leader,v5,.int .i64 v2.1.High,v9]) rfl ?_
 simp only [qp,B0,reduceIte,reduceEqDiff]
 refine qj (v := .agg [.int .i64 v2.2.Kind,.int .i64 v2.2.K,.int .i64 v2.2.N]) rfl ?_
 obtain ⟨v58,hx59,hF60⟩:=qi hF36
 simp only [za,B0,reduceIte,reduceEqDiff]
 refine uo rfl hS57 (qh (jd (qh qm (qh qm (qh (SlF.snap hv7 (Sep.m2 hS57) rfl (fun _=>rfl) (fun _=>rfl)) (qh qm (qh
   (SlN.snap hv11 _ (Sep.m3 hS57) rfl Replica.RO) qz)))))) (qh (jd (qh qm (qh qm (qh qm qz)))) qz)) (qjn
   (fun b hb=>decide_eq_true hb) k v2.1 v2.2 v58 hx59) ?_
 rintro _ h69 ⟨v61,c62,v65,c66,rfl,hv63,hv67,hS70⟩
 refine ⟨_,qb5 (qk (qc1 (qk rfl (qk rfl (qk (SlF.free1 hv63) (qk rfl (qk (SlN.free1 hv67) zn)))))) (qk rfl zn)),hS70,
   (jt (SlF.pf hv63 (fun _=>rfl)) (jt (SlN.pf hv67 Replica.RO) wi)),fun h71 hS72=>?_⟩
 have hS73:Sep h71 (geL h.length) (c62++(c66++(c38++(c42++(c6++(c10++([]))))))):=by simpa only [List.append_assoc,List.nil_append] using hS72
 simp only [qc,xy,qb,xu,xj,je,B0,reduceIte,reduceEqDiff]
 refine zt hS73 (fun b74 h75 hS76=>?_)
 simp only [zg,B0,reduceIte,reduceEqDiff]
 refine qy (us:=[.int .i64 v58.1.Epoch,.int .i64 v58.1.Leader,v61,.int .i64 v58.1.High,v65]) rfl (cs':=[.int .i64 v58.1.Epoch,.int .i64 v58.1.Leader,v61,
   .int .i64 v58.1.High,v65]) hS76 hW rfl (qk rfl (qk rfl (qk (SlF.one hv63) (qk rfl (qk (SlN.one hv67) zn))))) (Nat.le_of_ble_eq_true rfl) rfl
   (fun h78 hS79=>?_)
 simp only [qc,qa,B0,reduceIte,reduceEqDiff]
 refine zz hS79 hW (by simp only [B0,reduceIte,reduceEqDiff]) (fun h80 hS81=>?_)
 simp only [zw,qx6,qe,jh,zp,qg,quf,qtp,B0,reduceIte,reduceEqDiff]
 simp only [qn (g:=63),B0,reduceIte,reduceEqDiff]
 refine jg (t:=(!(v34.2 == v58.2))) (fun hg82=>?_) (fun hg82=>?_)
 ·rw [iteT hg82] at hF60
  simp only [hg82,qn (g:=63),wt,z8,qg,zh,zp,qn (g:=69),qu,zb,qco,qe,qd,qc,
    qa,q8,B0,reduceIte,reduceEqDiff]
  have he:=ql hF60
  subst he
  simp only [zj,B0,reduceIte,reduceEqDiff]
  exact rfl
 rw [iteF hg82] at hF60
 simp only [hg82,qn (g:=63),zr,zm,B0,reduceIte,reduceEqDiff]
 refine qq (v := .agg [.int .i64 v34.1.Epoch,.int .i64 v34.1.Leader,v37,.int .i64 v34.1.High,v41]) rfl ?_
 simp only [hg82,qn (g:=63),zr,zm,B0,reduceIte,reduceEqDiff]
 refine qq (v := .agg [.int .i64 v58.1.Epoch,.int .i64 v58.1.Leader,v61,.int .i64 v58.1.High,v65]) rfl ?_
 obtain ⟨v83,hx84,hF85⟩:=qi hF60
 simp only [hg82,qn (g:=63),zr,k8,B0,reduceIte,reduceEqDiff]
 refine qbm rfl (qh (jd (qh qm (qh qm (qh (SlF.snap hv39 (Sep.m2 hS81) rfl (fun _=>rfl) (fun _=>rfl)) (qh qm (qh
   (SlN.snap hv43 _ (Sep.m3 hS81) rfl Replica.RO) qz)))))) (qh (jd (qh qm (qh qm (qh (SlF.snap hv63 hS81 rfl (fun _=>rfl) (fun _=>rfl))
   (qh qm (qh (SlN.snap hv67 _ (Sep.m1 hS81) rfl Replica.RO) qz)))))) qz)) (qc9 (fun b hb=>decide_eq_true hb) v34.1 v58.1 v83 hx84) ?_
 simp only [hg82,qn (g:=63),zr,qer,qg,kx,z8,zi,zp,B0,reduceIte,reduceEqDiff]
 simp only [qn (g:=69),B0,reduceIte,reduceEqDiff]
 refine jg (t:=(!v83)) (fun hg86=>?_) (fun hg86=>?_)
 ·rw [iteT hg86] at hF85
  simp only [hg86,qn (g:=69),wt,z8,qg,zh,qu,zb,qco,qe,qd,qc,qa,q8,B0,
    reduceIte,reduceEqDiff]
  have he:=ql hF85
  subst he
  simp only [zj,B0,reduceIte,reduceEqDiff]
  exact rfl
 rw [iteF hg86] at hF85
 simp only [hg86,qn (g:=69),zr,zm,B0,reduceIte,reduceEqDiff]
 refine qq (v := .agg [.int .i64 v2.1.Epoch,.int .i64 v2.1.Leader,v5,.int .i64 v2.1.High,v9]) rfl ?_
 obtain ⟨v87,hx88,hF89⟩:=qi hF85
 simp only [hg86,qn (g:=69),zr,yy,B0,reduceIte,reduceEqDiff]
 refine qd6 rfl (qh (jd (qh qm (qh qm (qh (SlF.snap hv7 (Sep.m4 hS81) rfl (fun _=>rfl) (fun _=>rfl)) (qh qm (qh (SlN.snap hv11 _
   (Sep.m5 hS81) rfl Replica.RO) qz)))))) qz) (qfy (fun b hb=>decide_eq_true hb) k v2.1 v87 hx88) ?_
 simp only [hg86,qn (g:=69),zr,wv,yz,B0,reduceIte,reduceEqDiff]
 refine qq (v := .agg [.int .i64 v2.1.Epoch,.int .i64 v2.1.Leader,v5,.int .i64 v2.1.High,v9]) rfl ?_
 obtain ⟨v90,hx91,hF92⟩:=qi hF89
 simp only [hg86,qn (g:=69),zr,k8,B0,reduceIte,reduceEqDiff]
 refine qbm rfl (qh (jd (qh qm (qh qm (qh (SlF.snap hv7 (Sep.m4 hS81) rfl (fun _=>rfl) (fun _=>rfl)) (qh qm (qh (SlN.snap hv11 _
   (Sep.m5 hS81) rfl Replica.RO) qz)))))) qz) (qah (fun b hb=>decide_eq_true hb) k v2.1 v90 hx91) ?_
 simp only [hg86,qn (g:=69),zr,quf,qg,qtp,z8,zi,qu,zb,B0,reduceIte,reduceEqDiff]
 refine zd (t:=(!(v87 == v90))) (fun hc93=>?_) (fun hc93=>?_)
 ·rw [iteT hc93] at hF92
  simp only [qe,qd,qc,qa,q8,B0,reduceIte,reduceEqDiff]
  have he:=ql hF92
  subst he
  simp only [zj,B0,reduceIte,reduceEqDiff]
  exact rfl
 rw [iteF hc93] at hF92
 simp only [zk,q13,qe,qd,qc,qa,q5d,zb,B0,reduceIte,reduceEqDiff]
 obtain ⟨oc94,hX95,hk96⟩:=kq hF92
 refine qb4 (t:=v34.2) (fun fr' h'=>∃ s,oc94 = .nxt s∧fr' 1=lst cU8 v_1∧Sep h' (geL h.length) ([])) (fun Q97 hN98 hR99 hE100=>⟨fun hc101=>?_,
   fun hc101=>?_⟩) ?_
 ·rw [iteT hc101] at hX95
  simp only [q5m,qe,qd,qp,B0,reduceIte,reduceEqDiff]
  refine qj (v := .agg [.int .i64 v2.1.Epoch,.int .i64 v2.1.Leader,v5,.int .i64 v2.1.High,v9]) rfl ?_
  obtain ⟨v102,hx103,hF104⟩:=qi hX95
  simp only [za,B0,reduceIte,reduceEqDiff]
  refine uo rfl hS81 (qh (jd (qh qm (qh qm (qh (SlF.snap hv7 (Sep.m4 hS81) rfl (fun _=>rfl) (fun _=>rfl)) (qh qm (qh
    (SlN.snap hv11 _ (Sep.m5 hS81) rfl Replica.RO) qz)))))) qz) (qb1 (fun b hb=>decide_eq_true hb) k v2.1 v102 hx103) ?_
  rintro _ h109 ⟨v105,c106,rfl,hv107,hS110⟩
  refine ⟨_,qb5 (qk (qgx (SlF.free1 hv107)) (qk rfl zn)),hS110,(jt (SlF.pf hv107 (fun _=>rfl)) wi),fun h111 hS112=>?_⟩
  have hS113:Sep h111 (geL h.length) (c106++(c62++(c66++(c38++(c42++(c6++(c10++([])))))))):=by simpa only [List.append_assoc,List.nil_append] using hS112
  simp only [qc,xy,qb,xu,xj,qa,q5a,qe,qd,qp,B0,reduceIte,reduceEqDiff]
  refine qj (v := .agg [.int .i64 v34.1.Epoch,.int .i64 v34.1.Leader,v37,.int .i64 v34.1.High,v41]) rfl ?_
  obtain ⟨v114,hx115,hF116⟩:=qi hF104
  simp only [za,B0,reduceIte,reduceEqDiff]
  refine uo rfl hS113 (qh (jd (qh qm (qh qm (qh (SlF.snap hv39 (Sep.m3 hS113) rfl (fun _=>rfl) (fun _=>rfl)) (qh qm (qh
    (SlN.snap hv43 _ (Sep.m4 hS113) rfl Replica.RO) qz)))))) qz) (qb1 (fun b hb=>decide_eq_true hb) k v34.1 v114 hx115) ?_
  rintro _ h121 ⟨v117,c118,rfl,hv119,hS122⟩
  refine ⟨_,qb5 (qk (qgx (SlF.free1 hv119)) (qk rfl zn)),hS122,(jt (SlF.pf hv119 (fun _=>rfl)) wi),fun h123 hS124=>?_⟩
  have hS125:Sep h123 (geL h.length) (c118++(c106++(c62++(c66++(c38++(c42++(c6++(c10++([]))))))))):=by simpa only [List.append_assoc,
    List.nil_append] using hS124
  simp only [qc,xy,qb,xu,xj,qa,q5i,qe,qd,qp,B0,reduceIte,reduceEqDiff]
  refine qj (v := .agg [.int .i64 v34.1.Epoch,.int .i64 v34.1.Leader,v37,.int .i64 v34.1.High,v41]) rfl ?_
  obtain ⟨v126,hx127,hF128⟩:=qi hF116
  simp only [za,B0,reduceIte,reduceEqDiff]
  refine js rfl (qh (jd (qh qm (qh qm (qh (SlF.snap hv39 (Sep.m4 hS125) rfl (fun _=>rfl) (fun _=>rfl)) (qh qm (qh
    (SlN.snap hv43 _ (Sep.m5 hS125) rfl Replica.RO) qz)))))) qz) (qfy (fun b hb=>decide_eq_true hb) k v34.1 v126 hx127) ?_
  simp only [ka,qb,kx,qc,B0,reduceIte,reduceEqDiff]
  refine ji 3 (fun fr' h'=>Sep h' (geL h.length) (c106++(c118++([])))∧fr' 93 = .bool ((!v126) ||
    (!v102.2))∧fr' 1=lst cU8 v_1∧fr' 11=v105∧fr' 13=v117∧fr' 14 = .bool v114.2) (fun Q129 hN130=>?_) ?_
  ·simp only [List.take_succ_cons,List.take_zero]
   simp only [qf (g:=90),B0,reduceIte,reduceEqDiff]
   refine zf (t:=(!v126)) (fun hg131=>?_) (fun hg131=>?_)
   ·simp only [hg131,qf (g:=90),jf,qt,qb,zh,qa,qo,B0,reduceIte,reduceEqDiff]
    exact hN130 _ _ ⟨(Sep.m1 (Sep.dc (Sep.m2 (Sep.dc (Sep.m2 (Sep.dc (Sep.m2 (Sep.dc (Sep.m2 (Sep.dc (Sep.m2 (Sep.dc (Sep.m2 hS125))))))))))))),
      by rw [orT hg131]; simp only [B0,reduceIte,reduceEqDiff],zf1,rfl,rfl,rfl⟩
   ·simp only [hg131,qf (g:=90),qv,qc,ka,qb,kx,qt,zi,qa,qo,B0,reduceIte,reduceEqDiff]
    exact hN130 _ _ ⟨(Sep.m1 (Sep.dc (Sep.m2 (Sep.dc (Sep.m2 (Sep.dc (Sep.m2 (Sep.dc (Sep.m2 (Sep.dc (Sep.m2 (Sep.dc (Sep.m2 hS125))))))))))))),
      by rw [orF hg131]; simp only [B0,reduceIte,reduceEqDiff],zf1,rfl,rfl,rfl⟩
  rintro fr132 h138 ⟨hS139,f133,f134,f135,f136,f137⟩
  simp only [List.drop_succ_cons,List.drop_zero]
  simp only [f133,qc,B0,reduceIte,reduceEqDiff]
  refine ji 3 (fun fr' h'=>Sep h' (geL h.length) (c106++(c118++([])))∧fr' 97 = .bool (((!v126)||(!v102.2)) ||
    (!v114.2))∧fr' 1=lst cU8 v_1∧fr' 11=v105∧fr' 13=v117) (fun Q140 hN141=>?_) ?_
  ·simp only [List.take_succ_cons,List.take_zero]
   simp only [qf (g:=94),B0,reduceIte,reduceEqDiff]
   refine zf (t:=((!v126)||(!v102.2))) (fun hg142=>?_) (fun hg142=>?_)
   ·simp only [hg142,qf (g:=94),jf,qt,qb,zh,qa,qo,B0,reduceIte,reduceEqDiff]
    exact hN141 _ _ ⟨(Sep.m1 (Sep.m1 hS139)),by rw [orT hg142]; simp only [B0,reduceIte,reduceEqDiff],f134,f135,f136⟩
   ·simp only [hg142,qf (g:=94),qv,f137,qc,ka,qb,kx,qt,zi,qa,qo,B0,reduceIte,reduceEqDiff]
    exact hN141 _ _ ⟨(Sep.m1 (Sep.m1 hS139)),by rw [orF hg142]; simp only [B0,reduceIte,reduceEqDiff],f134,f135,f136⟩
  rintro fr143 h148 ⟨hS149,f144,f145,f146,f147⟩
  simp only [List.drop_succ_cons,List.drop_zero]
  simp only [f144,qc,B0,reduceIte,reduceEqDiff]
  refine ji 6 (fun fr' h'=>Sep h' (geL h.length) (c106++(c118++([])))∧fr' 104 = .bool ((((!v126)||(!v102.2))||(!v114.2))||(decide ((List.length v114.1:Int) <
    (List.length v102.1:Int))))∧fr' 1=lst cU8 v_1∧fr' 11=v105∧fr' 13=v117) (fun Q150 hN151=>?_) ?_
  ·simp only [List.take_succ_cons,List.take_zero]
   simp only [qf (g:=98),B0,reduceIte,reduceEqDiff]
   refine zf (t:=(((!v126)||(!v102.2))||(!v114.2))) (fun hg152=>?_) (fun hg152=>?_)
   ·simp only [hg152,qf (g:=98),jf,qt,qb,zh,qa,qo,B0,reduceIte,reduceEqDiff]
    exact hN151 _ _ ⟨(Sep.m1 (Sep.m1 hS149)),by rw [orT hg152]; simp only [B0,reduceIte,reduceEqDiff],f145,f146,f147⟩
   ·simp only [hg152,qf (g:=98),qv,f146,qc,jb,qb,SlF.plen hv107,f147,SlF.plen hv119,q9,qcv,qt,zi,qa,
     qo,B0,reduceIte,reduceEqDiff]
    exact hN151 _ _ ⟨(Sep.m1 (Sep.m1 hS149)),by rw [orF hg152]; simp only [B0,reduceIte,reduceEqDiff],f145,f146,f147⟩
  rintro fr153 h158 ⟨hS159,f154,f155,f156,f157⟩
  simp only [List.drop_succ_cons,List.drop_zero]
  simp only [f154,qc,B0,reduceIte,reduceEqDiff]
  obtain ⟨v163,hx164,hF165⟩:=qi hF128
  refine ji 8 (fun fr' h'=>Sep h' (geL h.length) ([])∧fr' 113 = .bool v163∧fr' 1=lst cU8 v_1) (fun Q160 hN161=>?_) ?_
  ·simp only [List.take_succ_cons,List.take_zero]
   simp only [qf (g:=105),B0,reduceIte,reduceEqDiff]
   refine zf (t:=((((!v126)||(!v102.2))||(!v114.2))||(decide ((List.length v114.1:Int)<(List.length v102.1:Int))))) (fun hg162=>?_) (fun hg162=>?_)
   ·rw [iteT hg162] at hx164
    simp only [hg162,qf (g:=105),jf,qt,qb,zh,qa,qo,B0,reduceIte,reduceEqDiff]
    have e166:=ql hx164
    exact hN161 _ _ ⟨(Sep.dc ((Sep.dc (hS159)))),by rw [←e166]; simp only [B0,reduceIte,reduceEqDiff],f155⟩
   ·rw [iteF hg162] at hx164
    obtain ⟨l167,hx168,hF169⟩:=qi hx164
    simp only [hg162,qf (g:=105),qv,f156,qc,f157,jb,qb,SlF.plen hv107,qeq,Option.map_some,Option.map_none,B0,reduceIte,
      reduceEqDiff]
    obtain ⟨v170,he171,hv172⟩:=SlF.trunc (f1:=Row.cells) hv119 hx168 (fun _=>rfl) (Sep.m1 hS159)
    refine qj he171 ?_
    obtain ⟨v174,hx175,hF176⟩:=qi hF169
    simp only [hg162,qf (g:=105),qv,za,B0,reduceIte,reduceEqDiff]
    refine js rfl (qh (SlF.snap hv107 hS159 rfl (fun _=>rfl) (fun _=>rfl)) (qh (SlF.snap hv172 (Sep.m1 hS159) rfl (fun _=>rfl) (fun _=>rfl)) qz))
      (qd4 (fun b hb=>decide_eq_true hb) v102.1 l167 v174 hx175) ?_
    simp only [hg162,qf (g:=105),qv,ka,qb,kx,qt,zi,qa,qo,B0,reduceIte,reduceEqDiff]
    have e177:=ql hF176
    exact hN161 _ _ ⟨(Sep.dc ((Sep.dc (hS159)))),by rw [←e177]; simp only [B0,reduceIte,reduceEqDiff],f155⟩
  rintro fr178 h181 ⟨hS182,f179,f180⟩
  simp only [List.drop_succ_cons,List.drop_zero]
  simp only [qa,f179,zb,B0,reduceIte,reduceEqDiff]
  refine zd (t:=v163) (fun hc183=>?_) (fun hc183=>?_)
  ·rw [iteT hc183] at hF165
   simp only [qe,qd,qc,qa,q8,B0,reduceIte,reduceEqDiff]
   have e184:=ql hF165
   subst e184
   have hk96':=hk96
   dsimp only [jnO] at hk96'
   apply hR99
   have he:=ql hk96'
   subst he
   simp only [zj,B0,reduceIte,reduceEqDiff]
   exact rfl
  rw [iteF hc183] at hF165
  simp only [zk,qo,B0,reduceIte,reduceEqDiff]
  have e185:=ql hF165
  exact hN98 _ _ ⟨_,e185.symm,f180,hS182⟩
 ·rw [iteF hc101] at hX95
  simp only [zk,qo,B0,reduceIte,reduceEqDiff]
  have e186:=ql hX95
  exact hN98 _ _ ⟨_,e186.symm,zf1,(Sep.dc ((Sep.dc ((Sep.dc ((Sep.dc ((Sep.dc ((Sep.dc (hS81))))))))))))⟩
 rintro fr187 h188 ⟨_,rfl,f190,hS189⟩
 dsimp only [jnO] at hk96
 unfold u9 at hk96
 obtain ⟨v191,hx192,hF193⟩:=qi hk96
 simp only [qzy,qe,qd,f190,qc,za,B0,reduceIte,reduceEqDiff]
 refine js rfl (qh zo qz) (qi7 (fun b hb=>decide_eq_true hb) k v_1 v191 hx192) ?_
 simp only [qc,xy,qb,xu,xj,je,B0,reduceIte,reduceEqDiff]
 refine zt hS189 (fun b194 h195 hS196=>?_)
 simp only [zg,B0,reduceIte,reduceEqDiff]
 refine qy (us:=[.int .i64 v191.1.Epoch,.int .i64 v191.1.Leader,lst cI v191.1.InStep,.int .i64 v191.1.High,
   lst Replica.cells v191.1.Replicas]) rfl (cs':=[.int .i64 v191.1.Epoch,.int .i64 v191.1.Leader,lst cI v191.1.InStep,.int .i64 v191.1.High,
   lst Replica.cells v191.1.Replicas]) hS196 hW rfl rfl (Nat.le_of_ble_eq_true rfl) rfl (fun h198 hS199=>?_)
 simp only [qc,qa,B0,reduceIte,reduceEqDiff]
 refine zz hS199 hW (by simp only [B0,reduceIte,reduceEqDiff]) (fun h200 hS201=>?_)
 simp only [zw,qy6,qe,qd,qp,B0,reduceIte,reduceEqDiff]
 refine qj (v := .agg [.int .i64 v191.1.Epoch,.int .i64 v191.1.Leader,lst cI v191.1.InStep,.int .i64 v191.1.High,lst Replica.cells v191.1.Replicas]) rfl ?_
 obtain ⟨v202,hx203,hF204⟩:=qi hF193
 simp only [qc,za,B0,reduceIte,reduceEqDiff]
 refine js rfl (qh (jd (qh qm (qh qm (qh zo (qh qm (qh zo qz)))))) (qh qm qz)) (qmn
   (fun b hb=>decide_eq_true hb) k v191.1 v191.2 v202 hx203) ?_
 simp only [qc,xy,qb,xu,xj,qa,qz0,qe,qd,qp,B0,reduceIte,reduceEqDiff]
 refine qj (v := .agg [.int .i64 v191.1.Epoch,.int .i64 v191.1.Leader,lst cI v191.1.InStep,.int .i64 v191.1.High,lst Replica.cells v191.1.Replicas]) rfl ?_
 obtain ⟨v205,hx206,hF207⟩:=qi hF204
 simp only [qc,za,B0,reduceIte,reduceEqDiff]
 refine js rfl (qh (jd (qh qm (qh qm (qh zo (qh qm (qh zo qz)))))) (qh qm qz)) (qni
   (fun b hb=>decide_eq_true hb) k v191.1 v191.2 v205 hx206) ?_
 obtain ⟨v208,hx209,hF210⟩:=qi hF207
 simp only [qc,xy,qb,xu,xj,qa,qxk,qe,qd,f190,za,B0,reduceIte,reduceEqDiff]
 refine uo rfl hS201 (qh zo qz) (qgq (fun b hb=>decide_eq_true hb) k v_1 v208 hx209) ?_
 rintro _ h219 ⟨v211,c212,v215,c216,rfl,hv213,hv217,hS220⟩
 refine ⟨_,qcg (qk rfl (qk rfl (qk (SlF.free1 hv213) (qk rfl (qk (SlN.free1 hv217) zn))))),hS220,
   (jt (SlF.pf hv213 (fun _=>rfl)) (jt (SlN.pf hv217 Replica.RO) wi)),fun h221 hS222=>?_⟩
 have hS223:Sep h221 (geL h.length) (c212++(c216++([]))):=by simpa only [List.append_assoc,List.nil_append] using hS222
 simp only [je,B0,reduceIte,reduceEqDiff]
 refine zt hS223 (fun b224 h225 hS226=>?_)
 simp only [zg,B0,reduceIte,reduceEqDiff]
 refine qy (us:=[.int .i64 v208.Epoch,.int .i64 v208.Leader,v211,.int .i64 v208.High,v215]) rfl (cs':=[.int .i64 v208.Epoch,.int .i64 v208.Leader,v211,
   .int .i64 v208.High,v215]) hS226 hW rfl (qk rfl (qk rfl (qk (SlF.one hv213) (qk rfl (qk (SlN.one hv217) zn))))) (Nat.le_of_ble_eq_true rfl) rfl
   (fun h228 hS229=>?_)
 simp only [qa,B0,reduceIte,reduceEqDiff]
 refine zz hS229 hW (by simp only [B0,reduceIte,reduceEqDiff]) (fun h230 hS231=>?_)
 simp only [zw,qz1,qe,qd,qp,B0,reduceIte,reduceEqDiff]
 refine qj (v := .agg [.int .i64 v208.Epoch,.int .i64 v208.Leader,v211,.int .i64 v208.High,v215]) rfl ?_
 obtain ⟨v232,hx233,hF234⟩:=qi hF210
 simp only [za,B0,reduceIte,reduceEqDiff]
 refine uo rfl hS231 (qh (jd (qh qm (qh qm (qh (SlF.snap hv213 hS231 rfl (fun _=>rfl) (fun _=>rfl)) (qh qm (qh (SlN.snap hv217 _
   (Sep.m1 hS231) rfl Replica.RO) qz)))))) qz) (qic (fun b hb=>decide_eq_true hb) k v208 v232 hx233) ?_
 rintro _ h243 ⟨v235,c236,v239,c240,rfl,hv237,hv241,hS244⟩
 refine ⟨_,qb5 (qk (qc1 (qk rfl (qk rfl (qk (SlF.free1 hv237) (qk rfl (qk (SlN.free1 hv241) zn)))))) (qk rfl (qk rfl zn))),hS244,
   (jt (SlF.pf hv237 (fun _=>rfl)) (jt (SlN.pf hv241 Replica.RO) wi)),fun h245 hS246=>?_⟩
 have hS247:Sep h245 (geL h.length) (c236++(c240++(c212++(c216++([]))))):=by simpa only [List.append_assoc,List.nil_append] using hS246
 simp only [qc,xy,qb,xu,xj,qmj,je,B0,reduceIte,reduceEqDiff]
 refine zt hS247 (fun b248 h249 hS250=>?_)
 simp only [zg,B0,reduceIte,reduceEqDiff]
 refine qy (us:=[.int .i64 v232.1.Epoch,.int .i64 v232.1.Leader,v235,.int .i64 v232.1.High,v239]) rfl (cs':=[.int .i64 v232.1.Epoch,.int .i64 v232.1.Leader,v235,
   .int .i64 v232.1.High,v239]) hS250 hW rfl (qk rfl (qk rfl (qk (SlF.one hv237) (qk rfl (qk (SlN.one hv241) zn))))) (Nat.le_of_ble_eq_true rfl) rfl
   (fun h252 hS253=>?_)
 simp only [qc,qa,B0,reduceIte,reduceEqDiff]
 refine zz hS253 hW (by simp only [B0,reduceIte,reduceEqDiff]) (fun h254 hS255=>?_)
 simp only [zw,qwg,qe,qd,qp,B0,reduceIte,reduceEqDiff]
 refine qj (v := .agg [.int .i64 v208.Epoch,.int .i64 v208.Leader,v211,.int .i64 v208.High,v215]) rfl ?_
 obtain ⟨v256,hx257,hF258⟩:=qi hF234
 simp only [za,B0,reduceIte,reduceEqDiff]
 refine uo rfl hS255 (qh (jd (qh qm (qh qm (qh (SlF.snap hv213 (Sep.m2 hS255) rfl (fun _=>rfl) (fun _=>rfl)) (qh qm (qh
   (SlN.snap hv217 _ (Sep.m3 hS255) rfl Replica.RO) qz)))))) qz) (qh9 (fun b hb=>decide_eq_true hb) k v208 v256 hx257) ?_
 rintro _ h267 ⟨v259,c260,v263,c264,rfl,hv261,hv265,hS268⟩
 refine ⟨_,qb5 (qk (qc1 (qk rfl (qk rfl (qk (SlF.free1 hv261) (qk rfl (qk (SlN.free1 hv265) zn)))))) (qk rfl (qk rfl zn))),hS268,
   (jt (SlF.pf hv261 (fun _=>rfl)) (jt (SlN.pf hv265 Replica.RO) wi)),fun h269 hS270=>?_⟩
 have hS271:Sep h269 (geL h.length) (c260++(c264++(c236++(c240++(c212++(c216++([]))))))):=by simpa only [List.append_assoc,List.nil_append] using hS270
 simp only [qc,xy,qb,xu,xj,qmj,je,B0,reduceIte,reduceEqDiff]
 refine zt hS271 (fun b272 h273 hS274=>?_)
 simp only [zg,B0,reduceIte,reduceEqDiff]
 refine qy (us:=[.int .i64 v256.1.Epoch,.int .i64 v256.1.Leader,v259,.int .i64 v256.1.High,v263]) rfl (cs':=[.int .i64 v256.1.Epoch,.int .i64 v256.1.Leader,v259,
   .int .i64 v256.1.High,v263]) hS274 hW rfl (qk rfl (qk rfl (qk (SlF.one hv261) (qk rfl (qk (SlN.one hv265) zn))))) (Nat.le_of_ble_eq_true rfl) rfl
   (fun h276 hS277=>?_)
 simp only [qc,qa,B0,reduceIte,reduceEqDiff]
 refine zz hS277 hW (by simp only [B0,reduceIte,reduceEqDiff]) (fun h278 hS279=>?_)
 simp only [zw,q10,qe,qd,qp,B0,reduceIte,reduceEqDiff]
 refine qj (v := .agg [.int .i64 v208.Epoch,.int .i64 v208.Leader,v211,.int .i64 v208.High,v215]) rfl ?_
 obtain ⟨v280,hx281,hF282⟩:=qi hF258
 simp only [za,B0,reduceIte,reduceEqDiff]
 refine uo rfl hS279 (qh (jd (qh qm (qh qm (qh (SlF.snap hv213 (Sep.m4 hS279) rfl (fun _=>rfl) (fun _=>rfl)) (qh qm (qh
   (SlN.snap hv217 _ (Sep.m5 hS279) rfl Replica.RO) qz)))))) qz) (qb1 (fun b hb=>decide_eq_true hb) k v208 v280 hx281) ?_
 rintro _ h287 ⟨v283,c284,rfl,hv285,hS288⟩
 refine ⟨_,qb5 (qk (qgx (SlF.free1 hv285)) (qk rfl zn)),hS288,(jt (SlF.pf hv285 (fun _=>rfl)) wi),fun h289 hS290=>?_⟩
 have hS291:Sep h289 (geL h.length) (c284++(c260++(c264++(c236++(c240++(c212++(c216++([])))))))):=by simpa only [List.append_assoc,List.nil_append] using hS290
 simp only [qc,xy,qb,xu,xj,qa,q5x,qe,qd,qp,B0,reduceIte,reduceEqDiff]
 refine qj (v := .agg [.int .i64 v208.Epoch,.int .i64 v208.Leader,v211,.int .i64 v208.High,v215]) rfl ?_
 obtain ⟨v292,hx293,hF294⟩:=qi hF282
 simp only [za,B0,reduceIte,reduceEqDiff]
 refine uo rfl hS291 (qh (jd (qh qm (qh qm (qh (SlF.snap hv213 (Sep.m5 hS291) rfl (fun _=>rfl) (fun _=>rfl)) (qh qm (qh
   (SlN.snap hv217 _ (Sep.m6 hS291) rfl Replica.RO) qz)))))) qz) (qhh (fun b hb=>decide_eq_true hb) k v208 v292 hx293) ?_
 rintro _ h299 ⟨v295,c296,rfl,hv297,hS300⟩
 refine ⟨_,qb5 (qk (qgx (SlF.free1 hv297)) (qk rfl zn)),hS300,(jt (SlF.pf hv297 (fun _=>rfl)) wi),fun h301 hS302=>?_⟩
 have hS303:Sep h301 (geL h.length) (c296++(c284++(c260++(c264++(c236++(c240++(c212++(c216++([]))))))))):=by simpa only [List.append_assoc,
   List.nil_append] using hS302
 obtain ⟨v304,hx305,hF306⟩:=qi hF294
 simp only [qc,xy,qb,xu,xj,qa,q4z,qe,qd,f190,za,B0,reduceIte,reduceEqDiff]
 refine js rfl (qh zo qz) (qh0 (fun b hb=>decide_eq_true hb) v_1 v304 hx305) ?_
 obtain ⟨v307,hx308,hF309⟩:=qi hF306
 simp only [qc,qa,q45,qe,qd,za,B0,reduceIte,reduceEqDiff]
 refine js rfl (qh qm qz) (qj0 (fun b hb=>decide_eq_true hb) v304 v307 hx308) ?_
 simp only [qc,xy,qb,xu,xj,je,B0,reduceIte,reduceEqDiff]
 refine zt hS303 (fun b310 h311 hS312=>?_)
 simp only [zg,B0,reduceIte,reduceEqDiff]
 refine qy (us:=[.int .i64 v307.1.Epoch,.int .i64 v307.1.Leader,lst cI v307.1.InStep,.int .i64 v307.1.High,
   lst Replica.cells v307.1.Replicas]) rfl (cs':=[.int .i64 v307.1.Epoch,.int .i64 v307.1.Leader,lst cI v307.1.InStep,.int .i64 v307.1.High,
   lst Replica.cells v307.1.Replicas]) hS312 hW rfl rfl (Nat.le_of_ble_eq_true rfl) rfl (fun h314 hS315=>?_)
 simp only [qc,qa,B0,reduceIte,reduceEqDiff]
 refine zz hS315 hW (by simp only [B0,reduceIte,reduceEqDiff]) (fun h316 hS317=>?_)
 obtain ⟨v318,hx319,hF320⟩:=qi hF309
 simp only [zw,q6b,qe,qd,qc,za,B0,reduceIte,reduceEqDiff]
 refine uo rfl hS317 (qh qm qz) (qgb (fun b hb=>decide_eq_true hb) k v304 v318 hx319) ?_
 rintro _ h329 ⟨v321,c322,v325,c326,rfl,hv323,hv327,hS330⟩
 refine ⟨_,qb5 (qk (qc1 (qk rfl (qk rfl (qk (SlF.free1 hv323) (qk rfl (qk (SlN.free1 hv327) zn)))))) (qk rfl zn)),hS330,
   (jt (SlF.pf hv323 (fun _=>rfl)) (jt (SlN.pf hv327 Replica.RO) wi)),fun h331 hS332=>?_⟩
 have hS333:Sep h331 (geL h.length) (c322++(c326++(c296++(c284++(c260++(c264++(c236++(c240++(c212++(c216 ++
   ([]))))))))))):=by simpa only [List.append_assoc,List.nil_append] using hS332
 simp only [qc,xy,qb,xu,xj,je,B0,reduceIte,reduceEqDiff]
 refine zt hS333 (fun b334 h335 hS336=>?_)
 simp only [zg,B0,reduceIte,reduceEqDiff]
 refine qy (us:=[.int .i64 v318.1.Epoch,.int .i64 v318.1.Leader,v321,.int .i64 v318.1.High,v325]) rfl (cs':=[.int .i64 v318.1.Epoch,.int .i64 v318.1.Leader,v321,
   .int .i64 v318.1.High,v325]) hS336 hW rfl (qk rfl (qk rfl (qk (SlF.one hv323) (qk rfl (qk (SlN.one hv327) zn))))) (Nat.le_of_ble_eq_true rfl) rfl
   (fun h338 hS339=>?_)
 simp only [qc,qa,B0,reduceIte,reduceEqDiff]
 refine zz hS339 hW (by simp only [B0,reduceIte,reduceEqDiff]) (fun h340 hS341=>?_)
 simp only [zw,q5r,qe,qd,qc,qih,qb,qke,B0,reduceIte,reduceEqDiff]
 refine ji 4 (fun fr' h'=>Sep h' (geL h.length) (c236++(c240++(c260++(c264++(c284++(c296++(c322++(c326++([])))))))))∧fr' 174 = .bool
   ((v202.2 == v205.2)&&(decide (v202.1=v205.1)))∧fr' 22 = .ref [.int .i64 v232.1.Epoch,.int .i64 v232.1.Leader,v235,.int .i64 v232.1.High,
   v239] 0∧fr' 23 = .int .i64 v232.2.1∧fr' 24 = .bool v232.2.2∧fr' 25 = .ref [.int .i64 v256.1.Epoch,.int .i64 v256.1.Leader,v259,.int .i64 v256.1.High,
   v263] 0∧fr' 26 = .int .i64 v256.2.1∧fr' 27 = .bool v256.2.2∧fr' 28=v283∧fr' 29 = .bool v280.2∧fr' 30=v295∧fr' 31 = .bool v292.2∧fr' 33 = .ref [.int .i64 v307.1.Epoch,
   .int .i64 v307.1.Leader,lst cI v307.1.InStep,.int .i64 v307.1.High,lst Replica.cells v307.1.Replicas] 0∧fr' 34 = .bool v307.2∧fr' 35 = .ref [.int .i64 v318.1.Epoch,
   .int .i64 v318.1.Leader,v321,.int .i64 v318.1.High,v325] 0∧fr' 36 = .bool v318.2) (fun Q342 hN343=>?_) ?_
 ·simp only [List.take_succ_cons,List.take_zero]
  simp only [qf (g:=170),B0,reduceIte,reduceEqDiff]
  refine zf (t:=(v202.2 == v205.2)) (fun hg344=>?_) (fun hg344=>?_)
  ·simp only [hg344,qf (g:=170),zl,qc,q9,qb,yd,qt,zh,qa,qo,B0,reduceIte,reduceEqDiff]
   exact hN343 _ _ ⟨(Sep.m7 (Sep.m7 (Sep.m5 (Sep.m5 (Sep.m3 (Sep.m2 (Sep.m1 (Sep.m1 (Sep.dc (Sep.m8 (Sep.dc (Sep.m8 hS341)))))))))))),by rw [xd hg344]; simp only [B0,
     reduceIte,reduceEqDiff],rfl,rfl,rfl,rfl,rfl,rfl,rfl,rfl,rfl,rfl,rfl,rfl,rfl,rfl⟩
  ·simp only [hg344,qf (g:=170),jo,qt,qb,zi,qa,qo,B0,reduceIte,reduceEqDiff]
   exact hN343 _ _ ⟨(Sep.m7 (Sep.m7 (Sep.m5 (Sep.m5 (Sep.m3 (Sep.m2 (Sep.m1 (Sep.m1 (Sep.dc (Sep.m8 (Sep.dc (Sep.m8 hS341)))))))))))),by rw [xe hg344]; simp only [B0,
     reduceIte,reduceEqDiff],rfl,rfl,rfl,rfl,rfl,rfl,rfl,rfl,rfl,rfl,rfl,rfl,rfl,rfl⟩
 rintro fr345 h361 ⟨hS362,f346,f347,f348,f349,f350,f351,f352,f353,f354,f355,f356,f357,f358,f359,f360⟩
 simp only [List.drop_succ_cons,List.drop_zero]
 simp only [f346,qc,B0,reduceIte,reduceEqDiff]
 refine ji 4 (fun fr' h'=>Sep h' (geL h.length) (c236++(c240++(c260++(c264++(c284++(c296++(c322++(c326++([])))))))))∧fr' 179 = .bool
   (((v202.2 == v205.2)&&(decide (v202.1=v205.1)))&&(v232.2.2 == v256.2.2))∧fr' 22 = .ref [.int .i64 v232.1.Epoch,.int .i64 v232.1.Leader,v235,.int .i64 v232.1.High,
   v239] 0∧fr' 23 = .int .i64 v232.2.1∧fr' 25 = .ref [.int .i64 v256.1.Epoch,.int .i64 v256.1.Leader,v259,.int .i64 v256.1.High,
   v263] 0∧fr' 26 = .int .i64 v256.2.1∧fr' 28=v283∧fr' 29 = .bool v280.2∧fr' 30=v295∧fr' 31 = .bool v292.2∧fr' 33 = .ref [.int .i64 v307.1.Epoch,
   .int .i64 v307.1.Leader,lst cI v307.1.InStep,.int .i64 v307.1.High,lst Replica.cells v307.1.Replicas] 0∧fr' 34 = .bool v307.2∧fr' 35 = .ref [.int .i64 v318.1.Epoch,
   .int .i64 v318.1.Leader,v321,.int .i64 v318.1.High,v325] 0∧fr' 36 = .bool v318.2) (fun Q363 hN364=>?_) ?_
 ·simp only [List.take_succ_cons,List.take_zero]
  simp only [qf (g:=175),B0,reduceIte,reduceEqDiff]
  refine zf (t:=((v202.2 == v205.2)&&(decide (v202.1=v205.1)))) (fun hg365=>?_) (fun hg365=>?_)
  ·simp only [hg365,qf (g:=175),zl,f349,qc,f352,qih,qb,qke,qt,zh,qa,qo,B0,reduceIte,reduceEqDiff]
   exact hN364 _ _ ⟨(Sep.m7 (Sep.m7 (Sep.m7 (Sep.m7 (Sep.m7 (Sep.m7 (Sep.m7 (Sep.m7 hS362)))))))),by rw [xd hg365]; simp only [B0,reduceIte,reduceEqDiff],f347,f348,
     f350,f351,f353,f354,f355,f356,f357,f358,f359,f360⟩
  ·simp only [hg365,qf (g:=175),jo,qt,qb,zi,qa,qo,B0,reduceIte,reduceEqDiff]
   exact hN364 _ _ ⟨(Sep.m7 (Sep.m7 (Sep.m7 (Sep.m7 (Sep.m7 (Sep.m7 (Sep.m7 (Sep.m7 hS362)))))))),by rw [xe hg365]; simp only [B0,reduceIte,reduceEqDiff],f347,f348,
     f350,f351,f353,f354,f355,f356,f357,f358,f359,f360⟩
 rintro fr366 h380 ⟨hS381,f367,f368,f369,f370,f371,f372,f373,f374,f375,f376,f377,f378,f379⟩
 simp only [List.drop_succ_cons,List.drop_zero]
 simp only [f367,qc,B0,reduceIte,reduceEqDiff]
 refine ji 4 (fun fr' h'=>Sep h' (geL h.length) (c236++(c240++(c260++(c264++(c284++(c296++(c322++(c326++([])))))))))∧fr' 184 = .bool
   ((((v202.2 == v205.2)&&(decide (v202.1=v205.1)))&&(v232.2.2 == v256.2.2))&&(decide (v232.2.1=v256.2.1)))∧fr' 22 = .ref [.int .i64 v232.1.Epoch,
   .int .i64 v232.1.Leader,v235,.int .i64 v232.1.High,v239] 0∧fr' 25 = .ref [.int .i64 v256.1.Epoch,.int .i64 v256.1.Leader,v259,.int .i64 v256.1.High,
   v263] 0∧fr' 28=v283∧fr' 29 = .bool v280.2∧fr' 30=v295∧fr' 31 = .bool v292.2∧fr' 33 = .ref [.int .i64 v307.1.Epoch,.int .i64 v307.1.Leader,
   lst cI v307.1.InStep,.int .i64 v307.1.High,lst Replica.cells v307.1.Replicas] 0∧fr' 34 = .bool v307.2∧fr' 35 = .ref [.int .i64 v318.1.Epoch,.int .i64 v318.1.Leader,
   v321,.int .i64 v318.1.High,v325] 0∧fr' 36 = .bool v318.2) (fun Q382 hN383=>?_) ?_
 ·simp only [List.take_succ_cons,List.take_zero]
  simp only [qf (g:=180),B0,reduceIte,reduceEqDiff]
  refine zf (t:=(((v202.2 == v205.2)&&(decide (v202.1=v205.1)))&&(v232.2.2 == v256.2.2))) (fun hg384=>?_) (fun hg384=>?_)
  ·simp only [hg384,qf (g:=180),zl,f369,qc,f371,q9,qb,yd,qt,zh,qa,qo,B0,reduceIte,reduceEqDiff]
   exact hN383 _ _ ⟨(Sep.m7 (Sep.m7 (Sep.m7 (Sep.m7 (Sep.m7 (Sep.m7 (Sep.m7 (Sep.m7 hS381)))))))),by rw [xd hg384]; simp only [B0,reduceIte,reduceEqDiff],f368,f370,
     f372,f373,f374,f375,f376,f377,f378,f379⟩
  ·simp only [hg384,qf (g:=180),jo,qt,qb,zi,qa,qo,B0,reduceIte,reduceEqDiff]
   exact hN383 _ _ ⟨(Sep.m7 (Sep.m7 (Sep.m7 (Sep.m7 (Sep.m7 (Sep.m7 (Sep.m7 (Sep.m7 hS381)))))))),by rw [xe hg384]; simp only [B0,reduceIte,reduceEqDiff],f368,f370,
     f372,f373,f374,f375,f376,f377,f378,f379⟩
 rintro fr385 h397 ⟨hS398,f386,f387,f388,f389,f390,f391,f392,f393,f394,f395,f396⟩
 simp only [List.drop_succ_cons,List.drop_zero]
 simp only [f386,qc,B0,reduceIte,reduceEqDiff]
 obtain ⟨v402,hx403,hF404⟩:=qi hF320
 refine ji 4 (fun fr' h'=>Sep h' (geL h.length) (c284++(c296++(c322++(c326 ++
   ([])))))∧fr' 189 = .bool v402∧fr' 28=v283∧fr' 29 = .bool v280.2∧fr' 30=v295∧fr' 31 = .bool v292.2∧fr' 33 = .ref [.int .i64 v307.1.Epoch,
   .int .i64 v307.1.Leader,lst cI v307.1.InStep,.int .i64 v307.1.High,lst Replica.cells v307.1.Replicas] 0∧fr' 34 = .bool v307.2∧fr' 35 = .ref [.int .i64 v318.1.Epoch,
   .int .i64 v318.1.Leader,v321,.int .i64 v318.1.High,v325] 0∧fr' 36 = .bool v318.2) (fun Q399 hN400=>?_) ?_
 ·simp only [List.take_succ_cons,List.take_zero]
  simp only [qf (g:=185),B0,reduceIte,reduceEqDiff]
  refine zf (t:=((((v202.2 == v205.2)&&(decide (v202.1=v205.1)))&&(v232.2.2 == v256.2.2))&&(decide (v232.2.1=v256.2.1)))) (fun hg401=>?_) (fun hg401=>?_)
  ·rw [iteT hg401] at hx403
   simp only [hg401,qf (g:=185),zl,f387,qp,B0,reduceIte,reduceEqDiff]
   refine qj (v := .agg [.int .i64 v232.1.Epoch,.int .i64 v232.1.Leader,v235,.int .i64 v232.1.High,v239]) rfl ?_
   simp only [hg401,qf (g:=185),zl,f388,qp,B0,reduceIte,reduceEqDiff]
   refine qj (v := .agg [.int .i64 v256.1.Epoch,.int .i64 v256.1.Leader,v259,.int .i64 v256.1.High,v263]) rfl ?_
   obtain ⟨v405,hx406,hF407⟩:=qi hx403
   simp only [hg401,qf (g:=185),zl,za,B0,reduceIte,reduceEqDiff]
   refine js rfl (qh (jd (qh qm (qh qm (qh (SlF.snap hv237 hS398 rfl (fun _=>rfl) (fun _=>rfl)) (qh qm (qh (SlN.snap hv241 _
     (Sep.m1 hS398) rfl Replica.RO) qz)))))) (qh (jd (qh qm (qh qm (qh (SlF.snap hv261 (Sep.m2 hS398) rfl (fun _=>rfl) (fun _=>rfl))
     (qh qm (qh (SlN.snap hv265 _ (Sep.m3 hS398) rfl Replica.RO) qz)))))) qz)) (qc9
     (fun b hb=>decide_eq_true hb) v232.1 v256.1 v405 hx406) ?_
   simp only [hg401,qt,qb,zh,qa,qo,B0,reduceIte,reduceEqDiff]
   have e408:=ql hF407
   exact hN400 _ _ ⟨(Sep.m3 (Sep.m3 (Sep.m3 (Sep.m3 (Sep.dc ((Sep.dc ((Sep.dc ((Sep.dc (hS398)))))))))))),by rw [←e408]; simp only [B0,reduceIte,reduceEqDiff],f389,f390,
     f391,f392,f393,f394,f395,f396⟩
  ·rw [iteF hg401] at hx403
   simp only [hg401,qf (g:=185),jo,qt,qb,zi,qa,qo,B0,reduceIte,reduceEqDiff]
   have e409:=ql hx403
   exact hN400 _ _ ⟨(Sep.m3 (Sep.m3 (Sep.m3 (Sep.m3 (Sep.dc ((Sep.dc ((Sep.dc ((Sep.dc (hS398)))))))))))),by rw [←e409]; simp only [B0,reduceIte,reduceEqDiff],f389,f390,
     f391,f392,f393,f394,f395,f396⟩
 rintro fr410 h420 ⟨hS421,f411,f412,f413,f414,f415,f416,f417,f418,f419⟩
 simp only [List.drop_succ_cons,List.drop_zero]
 simp only [f411,qc,B0,reduceIte,reduceEqDiff]
 refine ji 4 (fun fr' h'=>Sep h' (geL h.length) (c284++(c296++(c322++(c326++([])))))∧fr' 194 = .bool (v402 &&
   (v280.2 == v292.2))∧fr' 28=v283∧fr' 30=v295∧fr' 33 = .ref [.int .i64 v307.1.Epoch,.int .i64 v307.1.Leader,lst cI v307.1.InStep,.int .i64 v307.1.High,
   lst Replica.cells v307.1.Replicas] 0∧fr' 34 = .bool v307.2∧fr' 35 = .ref [.int .i64 v318.1.Epoch,.int .i64 v318.1.Leader,v321,.int .i64 v318.1.High,
   v325] 0∧fr' 36 = .bool v318.2) (fun Q422 hN423=>?_) ?_
 ·simp only [List.take_succ_cons,List.take_zero]
  simp only [qf (g:=190),B0,reduceIte,reduceEqDiff]
  refine zf (t:=v402) (fun hg424=>?_) (fun hg424=>?_)
  ·simp only [hg424,qf (g:=190),zl,f413,qc,f415,qih,qb,qke,qt,zh,qa,qo,B0,reduceIte,reduceEqDiff]
   exact hN423 _ _ ⟨(Sep.m3 (Sep.m3 (Sep.m3 (Sep.m3 hS421)))),by rw [xd hg424]; simp only [B0,reduceIte,reduceEqDiff],f412,f414,f416,f417,f418,f419⟩
  ·simp only [hg424,qf (g:=190),jo,qt,qb,zi,qa,qo,B0,reduceIte,reduceEqDiff]
   exact hN423 _ _ ⟨(Sep.m3 (Sep.m3 (Sep.m3 (Sep.m3 hS421)))),by rw [xe hg424]; simp only [B0,reduceIte,reduceEqDiff],f412,f414,f416,f417,f418,f419⟩
 rintro fr425 h433 ⟨hS434,f426,f427,f428,f429,f430,f431,f432⟩
 simp only [List.drop_succ_cons,List.drop_zero]
 simp only [f426,qc,B0,reduceIte,reduceEqDiff]
 obtain ⟨v438,hx439,hF440⟩:=qi hF404
 refine ji 4 (fun fr' h'=>Sep h' (geL h.length) (c322++(c326++([])))∧fr' 199 = .bool v438∧fr' 33 = .ref [.int .i64 v307.1.Epoch,.int .i64 v307.1.Leader,
   lst cI v307.1.InStep,.int .i64 v307.1.High,lst Replica.cells v307.1.Replicas] 0∧fr' 34 = .bool v307.2∧fr' 35 = .ref [.int .i64 v318.1.Epoch,.int .i64 v318.1.Leader,
   v321,.int .i64 v318.1.High,v325] 0∧fr' 36 = .bool v318.2) (fun Q435 hN436=>?_) ?_
 ·simp only [List.take_succ_cons,List.take_zero]
  simp only [qf (g:=195),B0,reduceIte,reduceEqDiff]
  refine zf (t:=(v402&&(v280.2 == v292.2))) (fun hg437=>?_) (fun hg437=>?_)
  ·rw [iteT hg437] at hx439
   obtain ⟨v441,hx442,hF443⟩:=qi hx439
   simp only [hg437,qf (g:=195),zl,f427,qc,f428,za,B0,reduceIte,reduceEqDiff]
   refine js rfl (qh (SlF.snap hv285 hS434 rfl (fun _=>rfl) (fun _=>rfl)) (qh (SlF.snap hv297 (Sep.m1 hS434) rfl (fun _=>rfl) (fun _=>rfl)) qz))
     (qd4 (fun b hb=>decide_eq_true hb) v280.1 v292.1 v441 hx442) ?_
   simp only [hg437,qt,qb,zh,qa,qo,B0,reduceIte,reduceEqDiff]
   have e444:=ql hF443
   exact hN436 _ _ ⟨(Sep.m1 (Sep.m1 (Sep.dc ((Sep.dc (hS434)))))),by rw [←e444]; simp only [B0,reduceIte,reduceEqDiff],f429,f430,f431,f432⟩
  ·rw [iteF hg437] at hx439
   simp only [hg437,qf (g:=195),jo,qt,qb,zi,qa,qo,B0,reduceIte,reduceEqDiff]
   have e445:=ql hx439
   exact hN436 _ _ ⟨(Sep.m1 (Sep.m1 (Sep.dc ((Sep.dc (hS434)))))),by rw [←e445]; simp only [B0,reduceIte,reduceEqDiff],f429,f430,f431,f432⟩
 rintro fr446 h452 ⟨hS453,f447,f448,f449,f450,f451⟩
 simp only [List.drop_succ_cons,List.drop_zero]
 simp only [f447,qc,B0,reduceIte,reduceEqDiff]
 refine ji 4 (fun fr' h'=>Sep h' (geL h.length) (c322++(c326++([])))∧fr' 204 = .bool (v438&&(v307.2 == v318.2))∧fr' 33 = .ref [.int .i64 v307.1.Epoch,
   .int .i64 v307.1.Leader,lst cI v307.1.InStep,.int .i64 v307.1.High,lst Replica.cells v307.1.Replicas] 0∧fr' 35 = .ref [.int .i64 v318.1.Epoch,.int .i64 v318.1.Leader,
   v321,.int .i64 v318.1.High,v325] 0) (fun Q454 hN455=>?_) ?_
 ·simp only [List.take_succ_cons,List.take_zero]
  simp only [qf (g:=200),B0,reduceIte,reduceEqDiff]
  refine zf (t:=v438) (fun hg456=>?_) (fun hg456=>?_)
  ·simp only [hg456,qf (g:=200),zl,f449,qc,f451,qih,qb,qke,qt,zh,qa,qo,B0,reduceIte,reduceEqDiff]
   exact hN455 _ _ ⟨(Sep.m1 (Sep.m1 hS453)),by rw [xd hg456]; simp only [B0,reduceIte,reduceEqDiff],f448,f450⟩
  ·simp only [hg456,qf (g:=200),jo,qt,qb,zi,qa,qo,B0,reduceIte,reduceEqDiff]
   exact hN455 _ _ ⟨(Sep.m1 (Sep.m1 hS453)),by rw [xe hg456]; simp only [B0,reduceIte,reduceEqDiff],f448,f450⟩
 rintro fr457 h461 ⟨hS462,f458,f459,f460⟩
 simp only [List.drop_succ_cons,List.drop_zero]
 simp only [f458,qc,B0,reduceIte,reduceEqDiff]
 obtain ⟨v466,hx467,hF468⟩:=qi hF440
 refine ji 4 (fun fr' h'=>Sep h' (geL h.length) ([])∧fr' 209 = .bool v466) (fun Q463 hN464=>?_) ?_
 ·simp only [List.take_succ_cons,List.take_zero]
  simp only [qf (g:=205),B0,reduceIte,reduceEqDiff]
  refine zf (t:=(v438&&(v307.2 == v318.2))) (fun hg465=>?_) (fun hg465=>?_)
  ·rw [iteT hg465] at hx467
   simp only [hg465,qf (g:=205),zl,f459,qp,B0,reduceIte,reduceEqDiff]
   refine qj (v := .agg [.int .i64 v307.1.Epoch,.int .i64 v307.1.Leader,lst cI v307.1.InStep,.int .i64 v307.1.High,lst Replica.cells v307.1.Replicas]) rfl ?_
   simp only [hg465,qf (g:=205),zl,f460,qp,B0,reduceIte,reduceEqDiff]
   refine qj (v := .agg [.int .i64 v318.1.Epoch,.int .i64 v318.1.Leader,v321,.int .i64 v318.1.High,v325]) rfl ?_
   obtain ⟨v469,hx470,hF471⟩:=qi hx467
   simp only [hg465,qf (g:=205),zl,za,B0,reduceIte,reduceEqDiff]
   refine js rfl (qh (jd (qh qm (qh qm (qh zo (qh qm (qh zo qz)))))) (qh (jd (qh qm
     (qh qm (qh (SlF.snap hv323 hS462 rfl (fun _=>rfl) (fun _=>rfl)) (qh qm (qh (SlN.snap hv327 _
     (Sep.m1 hS462) rfl Replica.RO) qz)))))) qz)) (qc9 (fun b hb=>decide_eq_true hb) v307.1 v318.1 v469 hx470) ?_
   simp only [hg465,qt,qb,zh,qa,qo,B0,reduceIte,reduceEqDiff]
   have e472:=ql hF471
   exact hN464 _ _ ⟨(Sep.dc ((Sep.dc (hS462)))),by rw [←e472]; simp only [B0,reduceIte,reduceEqDiff]⟩
  ·rw [iteF hg465] at hx467
   simp only [hg465,qf (g:=205),jo,qt,qb,zi,qa,qo,B0,reduceIte,reduceEqDiff]
   have e473:=ql hx467
   exact hN464 _ _ ⟨(Sep.dc ((Sep.dc (hS462)))),by rw [←e473]; simp only [B0,reduceIte,reduceEqDiff]⟩
 rintro fr474 h476 ⟨hS477,f475⟩
 simp only [List.drop_succ_cons,List.drop_zero]
 simp only [f475,qc,qa,q8,B0,reduceIte,reduceEqDiff]
 have he:=ql hF468
 subst he
 simp only [zj,B0,reduceIte,reduceEqDiff]
 exact rfl
end Go.Proofs.Ytefgfcalgjmhjaa.X
