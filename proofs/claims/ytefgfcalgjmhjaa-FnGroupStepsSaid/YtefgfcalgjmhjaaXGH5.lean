/- The functions' code comes to what the plain functions say (5). -/
import Derived.Test.YtefgfcalgjmhjaaXGH4
set_option linter.unusedVariables false
set_option linter.unusedSimpArgs false
set_option maxRecDepth 100000
namespace Go.Proofs.Ytefgfcalgjmhjaa.X
open Go
open Nat (reduceEqDiff)
theorem qjr {W:Nat→Bool}{h:Heap} (hW:∀ b,
  (geL h.length) b→W b=true) (k:Nat) (replicas_0:Int) (l_1:List IsrStep) (r:Group × (List Bool) × Bool)
  (hF:wk k replicas_0 l_1=some r) : Ret E W 17 [.int .i64 replicas_0,lst IsrStep.cells l_1] h (fun v h'=>∃ rv0_2 rc0_2 rv0_4 rc0_4 rv1 rc1,
  v = .tup [.agg [.int .i64 r.1.Epoch,.int .i64 r.1.Leader,rv0_2,.int .i64 r.1.High,rv0_4],rv1,
  .bool r.2.2]∧SlF cI 1 3 rv0_2 r.1.InStep rc0_2∧SlN Replica.R 3 51 rv0_4 r.1.Replicas rc0_4∧SlF cB 1 4 rv1 r.2.1 rc1∧Sep h' (geL h.length) (rc0_2++(rc0_4++(rc1 ++
  ([]))))):=by
 refine Ret.of (fn:=x17) rfl (Run.of ?_)
 unfold wk at hF
 have zf0:ze [.int .i64 replicas_0,lst IsrStep.cells l_1] 0 = .int .i64 replicas_0:=rfl
 have zf1:ze [.int .i64 replicas_0,lst IsrStep.cells l_1] 1=lst IsrStep.cells l_1:=rfl
 generalize ze [.int .i64 replicas_0,lst IsrStep.cells l_1]=fr0 at zf0 zf1 ⊢
 have hS:Sep h (geL h.length) []:=Sep.nil h
 simp only [x17,qe,qd,je,B0,reduceIte,reduceEqDiff]
 refine zt hS (fun b1 h2 hS3=>?_)
 obtain ⟨v5,hx6,hF7⟩:=qi hF
 simp only [qc,qa,qqq,qe,qd,zf0,za,B0,reduceIte,reduceEqDiff]
 refine uo rfl hS3 (qh qm qz) (qgb (fun b hb=>decide_eq_true hb) k replicas_0 v5 hx6) ?_
 rintro _ h16 ⟨v8,c9,v12,c13,rfl,hv10,hv14,hS17⟩
 refine ⟨_,qb5 (qk (qc1 (qk rfl (qk rfl (qk (SlF.free1 hv10) (qk rfl (qk (SlN.free1 hv14) zn)))))) (qk rfl zn)),hS17,
   (jt (SlF.pf hv10 (fun _=>rfl)) (jt (SlN.pf hv14 Replica.RO) wi)),fun h18 hS19=>?_⟩
 have hS20:Sep h18 (geL h.length) (c9++(c13++([Blk1 b1 [.int .i64 0,.int .i64 0,.nil,.int .i64 0,.nil] 29]++([])))):=by simpa only [List.append_assoc,
   List.nil_append] using hS19
 simp only [qc,xy,qb,xu,xj,je,B0,reduceIte,reduceEqDiff]
 refine zt hS20 (fun b21 h22 hS23=>?_)
 simp only [zg,B0,reduceIte,reduceEqDiff]
 refine qy (us:=[.int .i64 v5.1.Epoch,.int .i64 v5.1.Leader,v8,.int .i64 v5.1.High,v12]) rfl (cs':=[.int .i64 v5.1.Epoch,.int .i64 v5.1.Leader,v8,
   .int .i64 v5.1.High,v12]) hS23 hW rfl (qk rfl (qk rfl (qk (SlF.one hv10) (qk rfl (qk (SlN.one hv14) zn))))) (Nat.le_of_ble_eq_true rfl) rfl
   (fun h25 hS26=>?_)
 simp only [qc,qa,qty,qe,qd,ka,qb,kx,B0,reduceIte,reduceEqDiff]
 refine ji 4 (fun fr' h'=>Sep h' (geL h.length) ([Blk1 b1 [.int .i64 0,.int .i64 0,.nil,.int .i64 0,.nil] 29]++([Blk1 b21 [.int .i64 v5.1.Epoch,.int .i64 v5.1.Leader,
   v8,.int .i64 v5.1.High,v12] 29]++(c9++(c13++([])))))∧fr' 25 = .bool ((!v5.2)||(decide ((100:Int) <
   (List.length l_1:Int))))∧fr' 1=lst IsrStep.cells l_1∧fr' 4 = .ptr b1 0∧fr' 7 = .ptr b21 0) (fun Q27 hN28=>?_) ?_
 ·simp only [List.take_succ_cons,List.take_zero]
  simp only [qf (g:=21),B0,reduceIte,reduceEqDiff]
  refine zf (t:=(!v5.2)) (fun hg29=>?_) (fun hg29=>?_)
  ·simp only [hg29,qf (g:=21),jf,qt,qb,zh,qa,qo,B0,reduceIte,reduceEqDiff]
   exact hN28 _ _ ⟨(Sep.m3 (Sep.m2 (Sep.m2 (Sep.m2 hS26)))),by rw [orT hg29]; simp only [B0,reduceIte,reduceEqDiff],zf1,rfl,rfl⟩
  ·simp only [hg29,qf (g:=21),qv,zf1,qc,jb,qb,jl,q9,qcv,qt,zi,qa,qo,B0,reduceIte,
    reduceEqDiff]
   exact hN28 _ _ ⟨(Sep.m3 (Sep.m2 (Sep.m2 (Sep.m2 hS26)))),by rw [orF hg29]; simp only [B0,reduceIte,reduceEqDiff],zf1,rfl,rfl⟩
 rintro fr30 h35 ⟨hS36,f31,f32,f33,f34⟩
 simp only [List.drop_succ_cons,List.drop_zero]
 simp only [qa,q1b,f31,zb,B0,reduceIte,reduceEqDiff]
 refine zd (t:=((!v5.2)||(decide ((100:Int)<(List.length l_1:Int))))) (fun hc37=>?_) (fun hc37=>?_)
 ·rw [iteT hc37] at hF7
  simp only [q1l,qe,qd,run_build,evp,B0,reduceIte,reduceEqDiff]
  refine qj (v := .agg [.int .i64 0,.int .i64 0,.nil,.int .i64 0,.nil]) rfl ?_
  simp only [f33,zg,B0,reduceIte,reduceEqDiff]
  refine qy (us:=[.int .i64 0,.int .i64 0,.nil,.int .i64 0,.nil]) rfl (cs':=[.int .i64 0,.int .i64 0,.nil,.int .i64 0,
    .nil]) hS36 hW rfl rfl (Nat.le_of_ble_eq_true rfl) rfl (fun h38 hS39=>?_)
  simp only [qc,qa,q8,B0,reduceIte,reduceEqDiff]
  have he:=ql hF7
  subst he
  refine jy (qh (j6 (bb:=b1) (oo:=0) (v := .agg [.int .i64 0,.int .i64 0,.nil,.int .i64 0,
    .nil]) (f33) ((zv (Sep.bk _ _ _ hS39)).trans rfl)) (qh (yq (v := .nil) (rfl)) (qh (yq (v := .bool false) (rfl)) qz))) ?_
  exact ⟨.nil,[],.nil,[],.nil,[],by first | trivial | rfl,SlF.nil,SlN.nil,SlF.nil,((Sep.dc ((Sep.dc ((Sep.dc ((Sep.dc (hS39)))))))) : Sep _ (geL h.length) ([]))⟩
 rw [iteF hc37] at hF7
 simp only [zk,qs1,qe,qd,qc,qa,qud,f32,jb,qb,jl,B0,reduceIte,reduceEqDiff]
 obtain ⟨oc70,hX72,hk73⟩:=kq hF7
 simp only [q1m]
 refine xl (σ:=(List Bool) × Group) l_1 (fun i68 x69 s183=>u6 k i68 x69 s183.1 s183.2) (fun s fr' h'=>∃ v56 c57 v61 c62 v65 c66,
   fr' 4 = .ptr b1 0∧fr' 7 = .ptr b21 0∧fr' 9=v56∧fr' 27=lst IsrStep.cells l_1∧SlF cB 1 4 v56 s.1 c57∧SlF cI 1 3 v61 s.2.InStep c62∧SlN Replica.R 3 51 v65 s.2.Replicas c66∧Sep h'
   (geL h.length) ([Blk1 b1 [.int .i64 0,.int .i64 0,.nil,.int .i64 0,.nil] 29]++([Blk1 b21 [.int .i64 s.2.Epoch,.int .i64 s.2.Leader,v61,.int .i64 s.2.High,
   v65] 29]++(c57++(c62++(c66++([]))))))) hX72 ⟨.nil,[],v8,c9,v12,c13,f33,f34,rfl,rfl,SlF.nil,hv10,hv14,
   ((Sep.m3 (Sep.m3 (Sep.m3 (Sep.m3 hS36)))) : Sep _ (geL h.length) ([Blk1 b1 [.int .i64 0,.int .i64 0,.nil,.int .i64 0,.nil] 29]++([Blk1 b21 [.int .i64 v5.1.Epoch,
   .int .i64 v5.1.Leader,v8,.int .i64 v5.1.High,v12] 29]++(c9++(c13++([]))))))⟩ (by simp only [B0,reduceIte,reduceEqDiff]) (by simp only [B0,reduceIte,
   reduceEqDiff]) (fun _ _ _ h=>h) rfl rfl (fun _ _ _ _ h=>h) (fun _ _ _ _ h=>h) (fun _ _ _ _ h=>h) (by decide) ?_ ?_
 ·rintro i68 x69 ⟨s54,s59⟩ fr82 h83 hx89 ⟨v56,c57,v61,c62,v65,c66,f85,f86,f87,f88,hv58,hv63,hv67,hS84⟩ f90 f91 oc71 hF74 hr75 Q76 hN77 hB81 hK78 hR79 hE80
  dsimp only at *
  unfold u6 at hF74
  simp only [qyg,qe,qd,f88,f90,j0,B0,reduceIte,reduceEqDiff]
  refine qj (v := .ref (IsrStep.cells x69) 0) (xw hx89 rfl) ?_
  simp only [qp,B0,reduceIte,reduceEqDiff]
  refine qj (v := .agg [.int .i64 x69.Kind,.int .i64 x69.K,.int .i64 x69.N]) rfl ?_
  simp only [je,B0,reduceIte,reduceEqDiff]
  refine zt hS84 (fun b92 h93 hS94=>?_)
  simp only [zg,B0,reduceIte,reduceEqDiff]
  refine qy (us:=[.int .i64 x69.Kind,.int .i64 x69.K,.int .i64 x69.N]) rfl (cs':=[.int .i64 x69.Kind,.int .i64 x69.K,
    .int .i64 x69.N]) hS94 hW rfl rfl (Nat.le_of_ble_eq_true rfl) rfl (fun h96 hS97=>?_)
  simp only [qa,B0,reduceIte,reduceEqDiff]
  refine zz hS97 hW (by simp only [B0,reduceIte,reduceEqDiff]) (fun h98 hS99=>?_)
  simp only [zw,qys,qe,jh,qkb,B0,reduceIte,reduceEqDiff]
  refine qd1 hS99 (fun b100 h101 hS102=>?_)
  simp only [f86,zm,B0,reduceIte,reduceEqDiff]
  refine qq (v := .agg [.int .i64 s59.Epoch,.int .i64 s59.Leader,v61,.int .i64 s59.High,v65]) ((zv (Sep.bk _ _ _ (Sep.m2 hS102))).trans rfl) ?_
  obtain ⟨v104,hx105,hF106⟩:=qi hF74
  simp only [yy,B0,reduceIte,reduceEqDiff]
  refine ql8 rfl hS102 (qh (jd (qh qm (qh qm (qh (SlF.snap hv63 (Sep.m4 hS102) rfl (fun _=>rfl) (fun _=>rfl)) (qh qm (qh
    (SlN.snap hv67 _ (Sep.m5 hS102) rfl Replica.RO) qz)))))) qz) (qaw (fun b hb=>decide_eq_true hb) s59 v104 hx105) ?_
  rintro _ h115 ⟨v107,c108,v111,c112,rfl,hv109,hv113,hS116⟩
  refine ⟨_,qcg (qk rfl (qk rfl (qk (SlF.free1 hv109) (qk rfl (qk (SlN.free1 hv113) zn))))),hS116,
    (jt (SlF.pf hv109 (fun _=>rfl)) (jt (SlN.pf hv113 Replica.RO) wi)),fun h117 hS118=>?_⟩
  have hS119:Sep h117 (geL h.length) (c108++(c112++([Blk1 b100 [.int .i64 0,.int .i64 0,.nil,.int .i64 0,.nil] 29]++([Blk1 b1 [.int .i64 0,.int .i64 0,.nil,
    .int .i64 0,.nil] 29]++([Blk1 b21 [.int .i64 s59.Epoch,.int .i64 s59.Leader,v61,.int .i64 s59.High,
    v65] 29]++(c57++(c62++(c66++([]))))))))):=by simpa only [List.append_assoc,List.nil_append] using hS118
  simp only [wv,yz,B0,reduceIte,reduceEqDiff]
  refine qq (v := .agg [.int .i64 x69.Kind,.int .i64 x69.K,.int .i64 x69.N]) rfl ?_
  obtain ⟨v120,hx121,hF122⟩:=qi hF106
  simp only [k8,B0,reduceIte,reduceEqDiff]
  refine qm7 rfl (qgz hW k v104 v107 c108 hv109 v111 c112 hv113 x69 v120 hx121 (Sep.m1 (Sep.m1 hS119))) ?_
  rintro _ h129 ⟨v123,c124,c127,rfl,hv125,hv128,hS130⟩
  simp only [zp,qg,qmy,xu,qt1,xj,qdj,B0,reduceIte,reduceEqDiff]
  refine xk (us:=[.int .i64 v120.1.Epoch,.int .i64 v120.1.Leader,v123,.int .i64 v120.1.High,v111]) rfl (cs':=[.int .i64 v120.1.Epoch,.int .i64 v120.1.Leader,
    v123,.int .i64 v120.1.High,v111]) (Sep.m2 hS130) hW rfl (qk rfl (qk rfl (qk (SlF.one hv125) (qk rfl (qk (SlN.one hv128) zn)))))
    (Nat.le_of_ble_eq_true rfl) rfl (fun h131 hS132=>?_)
  simp only [zp,qg,qu,B0,reduceIte,reduceEqDiff]
  refine zz hS132 hW (by simp only [B0,reduceIte,reduceEqDiff]) (fun h133 hS134=>?_)
  simp only [zw,qw9,qe,qd,qc,qa,qy3,zb,B0,reduceIte,reduceEqDiff]
  obtain ⟨s135,hX145,hk146⟩:=qi hF122
  refine qb4 (t:=v120.2) (fun fr' h'=>∃ v137 c138 v141 c142,
    fr' 4 = .ptr b1 0∧fr' 7 = .ptr b21 0∧fr' 9=v56∧fr' 13 = .bool v120.2∧fr' 27=lst IsrStep.cells l_1∧fr' 28 = .int .i64
    (List.length l_1:Int)∧fr' 29 = .int .i64 (i68:Int)∧SlF cI 1 3 v137 s135.InStep c138∧SlN Replica.R 3 51 v141 s135.Replicas c142∧Sep h' (geL h.length)
    ([Blk1 b1 [.int .i64 0,.int .i64 0,.nil,.int .i64 0,.nil] 29]++([Blk1 b21 [.int .i64 s135.Epoch,.int .i64 s135.Leader,v137,.int .i64 s135.High,
    v141] 29]++(c57++(c138++(c142++([]))))))) (fun Q147 hN148 hR149 hE150=>⟨fun hc151=>?_,fun hc151=>?_⟩) ?_
  ·rw [iteT hc151] at hX145
   simp only [qd,qp,B0,reduceIte,reduceEqDiff]
   refine qj (v := .agg [.int .i64 v120.1.Epoch,.int .i64 v120.1.Leader,v123,.int .i64 v120.1.High,v111]) rfl ?_
   simp only [f86,zg,B0,reduceIte,reduceEqDiff]
   refine qy (us:=[.int .i64 v120.1.Epoch,.int .i64 v120.1.Leader,v123,.int .i64 v120.1.High,v111]) rfl (cs':=[.int .i64 v120.1.Epoch,.int .i64 v120.1.Leader,
     v123,.int .i64 v120.1.High,v111]) (Sep.m3 hS134) hW rfl (qk rfl (qk rfl (qk (SlF.one hv125) (qk rfl (qk (SlN.one hv128) zn)))))
     (Nat.le_of_ble_eq_true rfl) rfl (fun h152 hS153=>?_)
   simp only [qa,qo,B0,reduceIte,reduceEqDiff]
   have e154:=ql hX145
   subst e154
   exact hN148 _ _ ⟨v123,c124,v111,c127,f85,f86,f87,rfl,f88,f91,f90,hv125,hv128,
     (Sep.m4 (Sep.m3 (Sep.m4 (Sep.m2 (Sep.m2 (Sep.dc (Sep.m5 (Sep.dc (Sep.m5 hS153)))))))))⟩
  ·rw [iteF hc151] at hX145
   simp only [zk,qo,B0,reduceIte,reduceEqDiff]
   have e155:=ql hX145
   subst e155
   exact hN148 _ _ ⟨v61,c62,v65,c66,f85,f86,f87,rfl,f88,f91,f90,hv63,hv67,(Sep.m4 (Sep.m4 (Sep.m4 (Sep.m4 (Sep.m4 (Sep.dc ((Sep.dc (hS134)))))))))⟩
  rintro fr156 h157 ⟨v137,c138,v141,c142,f159,f160,f161,f162,f163,f164,f165,hv139,hv143,hS158⟩
  unfold qc8 at hk146
  simp only [q21,qd,f161,qc,f162,yu,evp,B0,reduceIte,reduceEqDiff]
  refine ye (n:=1) (f:=cB) [v120.2] hS158 rfl rfl (fun v166 c167 h168 hv169 hS170=>?_)
  simp only [uc,B0,reduceIte,reduceEqDiff]
  obtain ⟨l172,hx173,hF174⟩:=qi hk146
  refine wq (f:=cB) hv58 (Sep.m3 hS170) hW (fun _=>rfl) (fun _=>rfl) (SlF.first hv169 hS170 (fun _=>rfl)) hx173 (fun v175 c176 h177 hv178 hS179=>?_)
  simp only [qc,qa,qo,B0,reduceIte,reduceEqDiff]
  have e181:=ql hF174
  exact hN77 _ _ _ e181.symm ⟨v175,c176,v137,c138,v141,c142,f159,f160,rfl,f163,hv178,hv139,hv143,
    (Sep.m4 (Sep.m4 (Sep.m2 (Sep.m4 (Sep.m4 (Sep.dc (Sep.m1 hS179)))))))⟩ (f165) (f164)
 rintro ⟨s184,s189⟩ fr198 h199 rfl ⟨v186,c187,v191,c192,v195,c196,f201,f202,f203,f204,hv188,hv193,hv197,hS200⟩
 dsimp only [jnO] at hk73
 dsimp only at *
 unfold qdc at hk73
 simp only [qqf,qe,qd,f202,qp,B0,reduceIte,reduceEqDiff]
 refine qj (v := .agg [.int .i64 s189.Epoch,.int .i64 s189.Leader,v191,.int .i64 s189.High,v195]) ((zv (Sep.bk _ _ _ (Sep.m1 hS200))).trans rfl) ?_
 obtain ⟨v205,hx206,hF207⟩:=qi hk73
 simp only [za,B0,reduceIte,reduceEqDiff]
 refine uo rfl hS200 (qh (jd (qh qm (qh qm (qh (SlF.snap hv193 (Sep.m3 hS200) rfl (fun _=>rfl) (fun _=>rfl)) (qh qm (qh
   (SlN.snap hv197 _ (Sep.m4 hS200) rfl Replica.RO) qz)))))) qz) (qaw (fun b hb=>decide_eq_true hb) s189 v205 hx206) ?_
 rintro _ h216 ⟨v208,c209,v212,c213,rfl,hv210,hv214,hS217⟩
 refine ⟨_,qcg (qk rfl (qk rfl (qk (SlF.free1 hv210) (qk rfl (qk (SlN.free1 hv214) zn))))),hS217,
   (jt (SlF.pf hv210 (fun _=>rfl)) (jt (SlN.pf hv214 Replica.RO) wi)),fun h218 hS219=>?_⟩
 have hS220:Sep h218 (geL h.length) (c209++(c213++([Blk1 b1 [.int .i64 0,.int .i64 0,.nil,.int .i64 0,.nil] 29]++([Blk1 b21 [.int .i64 s189.Epoch,
   .int .i64 s189.Leader,v191,.int .i64 s189.High,v195] 29]++(c187++(c192++(c196++([])))))))):=by simpa only [List.append_assoc,List.nil_append] using hS219
 simp only [f203,qc,f201,zg,B0,reduceIte,reduceEqDiff]
 refine qy (us:=[.int .i64 v205.Epoch,.int .i64 v205.Leader,v208,.int .i64 v205.High,v212]) rfl (cs':=[.int .i64 v205.Epoch,.int .i64 v205.Leader,v208,
   .int .i64 v205.High,v212]) (Sep.m2 hS220) hW rfl (qk rfl (qk rfl (qk (SlF.one hv210) (qk rfl (qk (SlN.one hv214) zn))))) (Nat.le_of_ble_eq_true rfl) rfl
   (fun h221 hS222=>?_)
 simp only [qc,qa,q8,B0,reduceIte,reduceEqDiff]
 have he:=ql hF207
 subst he
 refine jy (qh (j6 (bb:=b1) (oo:=0) (v := .agg [.int .i64 v205.Epoch,.int .i64 v205.Leader,v208,.int .i64 v205.High,
   v212]) (f201) ((zv (Sep.bk _ _ _ hS222)).trans rfl)) (qh (yq (v:=v186) (rfl)) (qh (yq (v := .bool true) (rfl)) qz))) ?_
 exact ⟨v208,c209,v212,c213,v186,c187,by first | trivial | rfl,hv210,hv214,hv188,
   (Sep.m2 (Sep.m2 (Sep.m2 (Sep.dc (Sep.m3 (Sep.dc (Sep.m3 (Sep.dc (Sep.m2 (Sep.dc (hS222)))))))))))⟩
theorem qfx {W:Nat→Bool}{h:Heap}{lo:Nat→Prop}{S0:List Obj} (hW:∀ b,
  lo b→W b=true) (k:Nat) (pb0:Nat) (c_0:L1Cur) (r:Group × L1Cur) (hF:qby k c_0=some r) (hS:Sep h lo ([Blk1 pb0 [lst cU8 c_0.code,.int .i64 c_0.at_,
  .int .u64 c_0.seed] 91]++(S0))) : Ret E W 71 [.ptr pb0 0] h (fun v h'=>∃ rv0_2 rc0_2 rv0_4 rc0_4,v = .agg [.int .i64 r.1.Epoch,.int .i64 r.1.Leader,rv0_2,
  .int .i64 r.1.High,rv0_4]∧SlF cI 1 3 rv0_2 r.1.InStep rc0_2∧SlN Replica.R 3 51 rv0_4 r.1.Replicas rc0_4∧Sep h' lo (rc0_2++(rc0_4++([Blk1 pb0 [lst cU8 r.2.code,
  .int .i64 r.2.at_,.int .u64 r.2.seed] 91]++(S0))))):=by
 refine Ret.of (fn:=x71) rfl (Run.of ?_)
 unfold qby at hF
 have zf0:ze [.ptr pb0 0] 0 = .ptr pb0 0:=rfl
 generalize ze [.ptr pb0 0]=fr0 at zf0 ⊢
 simp only [x71,qe,qd,je,B0,reduceIte,reduceEqDiff]
 refine zt hS (fun b1 h2 hS3=>?_)
 obtain ⟨v5,hx6,hF7⟩:=qi hF
 simp only [qa,qqg,qe,qd,zf0,qc,za,B0,reduceIte,reduceEqDiff]
 refine ku rfl (k7 hW pb0 c_0 3 v5 hx6 (Sep.m1 hS3)) ?_
 rintro _ h8 ⟨rfl,hS9⟩
 obtain ⟨v10,hx11,hF12⟩:=qi hF7
 simp only [q9,qb,qbf,qc,qa,qrl,qe,qd,zf0,za,B0,reduceIte,reduceEqDiff]
 refine ku rfl (qgg hW k pb0 v5.2 (IntKind.wrap .i64 ((2:Int)+v5.1)) v10 hx11 hS9) ?_
 rintro v13 h17 ⟨_,c14,rfl,hv15,hS18⟩
 simp only [qc,qa,qsb,qe,qd,jb,qb,SlF.plen hv15,q9,qcv,qyp,zb,B0,reduceIte,reduceEqDiff]
 obtain ⟨s19,hX25,hk26⟩:=qi hF12
 refine qb4 (t:=(decide ((100:Int)<(List.length v10.1:Int)))) (fun fr' h'=>∃ v21 c22,
   fr' 0 = .ptr pb0 0∧fr' 2 = .ptr b1 0∧fr' 3 = .int .i64 (IntKind.wrap .i64 ((2:Int)+v5.1))∧fr' 4=v21∧SlF IsrStep.cells 3 63 v21 s19 c22∧Sep h' lo
   ([Blk1 pb0 [lst cU8 v10.2.code,.int .i64 v10.2.at_,.int .u64 v10.2.seed] 91]++([Blk1 b1 [.int .i64 0,.int .i64 0,.nil,.int .i64 0,
   .nil] 29]++(c22++(S0))))) (fun Q27 hN28 hR29 hE30=>⟨fun hc31=>?_,fun hc31=>?_⟩) ?_
 ·rw [iteT hc31] at hX25
  obtain ⟨l32,hx33,hF34⟩:=qi hX25
  simp only [qd,qc,qeq,Option.map_some,Option.map_none,B0,reduceIte,reduceEqDiff]
  obtain ⟨v35,he36,hv37⟩:=SlF.trunc (f1:=IsrStep.cells) hv15 hx33 (fun _=>rfl) hS18
  refine qj he36 ?_
  simp only [qc,qa,qo,B0,reduceIte,reduceEqDiff]
  have e39:=ql hF34
  subst e39
  exact hN28 _ _ ⟨v35,c14,zf0,rfl,rfl,rfl,hv37,(Sep.m2 (Sep.m2 hS18))⟩
 ·rw [iteF hc31] at hX25
  simp only [zk,qo,B0,reduceIte,reduceEqDiff]
  have e40:=ql hX25
  subst e40
  exact hN28 _ _ ⟨v13,c14,zf0,rfl,rfl,rfl,hv15,(Sep.m2 (Sep.m2 hS18))⟩
 rintro fr41 h42 ⟨v21,c22,f44,f45,f46,f47,hv23,hS43⟩
 unfold qdl at hk26
 obtain ⟨v48,hx49,hF50⟩:=qi hk26
 simp only [qq2,qe,qd,f46,qc,f47,za,B0,reduceIte,reduceEqDiff]
 refine uo rfl hS43 (qh qm (qh (SlF.snap hv23 (Sep.m2 hS43) rfl (fun _=>rfl) (fun _=>rfl)) qz)) (qjr (fun b hb=>decide_eq_true hb) k
   (IntKind.wrap .i64 ((2:Int)+v5.1)) s19 v48 hx49) ?_
 rintro _ h63 ⟨v51,c52,v55,c56,v59,c60,rfl,hv53,hv57,hv61,hS64⟩
 refine ⟨_,qb5 (qk (qc1 (qk rfl (qk rfl (qk (SlF.free1 hv53) (qk rfl (qk (SlN.free1 hv57) zn)))))) (qk (qgx (SlF.free1 hv61))
   (qk rfl zn))),hS64,(jt (SlF.pf hv53 (fun _=>rfl)) (jt (SlN.pf hv57 Replica.RO) (jt (SlF.pf hv61 (fun _=>rfl)) wi))),fun h65 hS66=>?_⟩
 have hS67:Sep h65 lo (c52++(c56++(c60++([Blk1 pb0 [lst cU8 v10.2.code,.int .i64 v10.2.at_,.int .u64 v10.2.seed] 91]++([Blk1 b1 [.int .i64 0,.int .i64 0,.nil,
   .int .i64 0,.nil] 29]++(c22++(S0))))))):=by simpa only [List.append_assoc,List.nil_append] using hS66
 simp only [qc,xy,qb,xu,xj,qmj,je,B0,reduceIte,reduceEqDiff]
 refine zt hS67 (fun b68 h69 hS70=>?_)
 simp only [zg,B0,reduceIte,reduceEqDiff]
 refine qy (us:=[.int .i64 v48.1.Epoch,.int .i64 v48.1.Leader,v51,.int .i64 v48.1.High,v55]) rfl (cs':=[.int .i64 v48.1.Epoch,.int .i64 v48.1.Leader,v51,
   .int .i64 v48.1.High,v55]) hS70 hW rfl (qk rfl (qk rfl (qk (SlF.one hv53) (qk rfl (qk (SlN.one hv57) zn))))) (Nat.le_of_ble_eq_true rfl) rfl
   (fun h72 hS73=>?_)
 obtain ⟨v74,hx75,hF76⟩:=qi hF50
 simp only [qc,qa,qp2,qe,qd,f44,za,B0,reduceIte,reduceEqDiff]
 refine ku rfl (k7 hW pb0 v10.2 30 v74 hx75 (Sep.m4 hS73)) ?_
 rintro _ h77 ⟨rfl,hS78⟩
 simp only [qa,qtq,w6,qp4,qe,qd,q9,qb,yd,qc,qrv,zb,B0,reduceIte,reduceEqDiff]
 refine zd (t:=(decide (v74.1=0))) (fun hc79=>?_) (fun hc79=>?_)
 ·rw [iteT hc79] at hF76
  simp only [q00,qd,qs,qb,Nat.reduceAdd,Nat.zero_add,Nat.add_zero,qw,qp,B0,reduceIte,reduceEqDiff]
  refine qj (v := .int .i64 v48.1.High) ((zu (Sep.bk _ _ _ (Sep.m1 hS78))).trans rfl) ?_
  simp only [q9,qb,qbf,qs,Nat.reduceAdd,Nat.zero_add,Nat.add_zero,qw,zg,B0,reduceIte,reduceEqDiff]
  refine qy (us:=[.int .i64 (IntKind.wrap .i64 (v48.1.High+1))]) rfl (cs':=[.int .i64 v48.1.Epoch,.int .i64 v48.1.Leader,v51,
    .int .i64 (IntKind.wrap .i64 (v48.1.High+1)),v55]) (Sep.m1 hS78) hW rfl rfl (Nat.le_of_ble_eq_true rfl) rfl (fun h80 hS81=>?_)
  simp only [qa,wb,qe,qd,qp,B0,reduceIte,reduceEqDiff]
  refine qj (v := .agg [.int .i64 v48.1.Epoch,.int .i64 v48.1.Leader,v51,.int .i64 (IntKind.wrap .i64 (v48.1.High+1)),v55]) ((zv (Sep.bk _ _ _ hS81)).trans rfl) ?_
  simp only [f45,zg,B0,reduceIte,reduceEqDiff]
  refine qy (us:=[.int .i64 v48.1.Epoch,.int .i64 v48.1.Leader,v51,.int .i64 (IntKind.wrap .i64 (v48.1.High+1)),v55]) rfl (cs':=[.int .i64 v48.1.Epoch,
    .int .i64 v48.1.Leader,v51,.int .i64 (IntKind.wrap .i64 (v48.1.High+1)),
    v55]) (Sep.m5 hS81) hW rfl (qk rfl (qk rfl (qk (SlF.one hv53) (qk rfl (qk (SlN.one hv57) zn))))) (Nat.le_of_ble_eq_true rfl) rfl (fun h82 hS83=>?_)
  simp only [qa,q8,B0,reduceIte,reduceEqDiff]
  have he:=ql hF76
  subst he
  refine we (bb:=b1) (oo:=0) (v := .agg [.int .i64 v48.1.Epoch,.int .i64 v48.1.Leader,v51,.int .i64 (IntKind.wrap .i64 (v48.1.High+1)),
    v55]) (by simp only [f45,B0,reduceIte,reduceEqDiff]) ((zv (Sep.bk _ _ _ hS83)).trans rfl) ?_
  exact ⟨v51,c52,v55,c56,by first | trivial | rfl,hv53,hv57,(Sep.m2 (Sep.m2 (Sep.dc (Sep.m3 (Sep.dc (Sep.m3 (Sep.dc ((Sep.dc (hS83))))))))))⟩
 rw [iteF hc79] at hF76
 simp only [qql,qe,qd,q9,qb,yd,qc,qa,qtn,zb,B0,reduceIte,reduceEqDiff]
 refine zd (t:=(decide (v74.1=1))) (fun hc84=>?_) (fun hc84=>?_)
 ·rw [iteT hc84] at hF76
  simp only [qya,qd,f44,qc,yu,evp,B0,reduceIte,reduceEqDiff]
  refine ye (n:=1) (f:=cI) [(-1),0,100,101] hS78 rfl rfl (fun v85 c86 h87 hv88 hS89=>?_)
  obtain ⟨v91,hx92,hF93⟩:=qi hF76
  simp only [za,B0,reduceIte,reduceEqDiff]
  refine ku rfl (qh6 hW pb0 v74.2 v85 c86 [(-1),0,100,101] hv88 v91 hx92 (Sep.m1 hS89)) ?_
  rintro _ h96 ⟨c94,rfl,hv95,hS97⟩
  simp only [qs,qb,Nat.reduceAdd,Nat.zero_add,Nat.add_zero,qw,zg,B0,reduceIte,reduceEqDiff]
  refine qy (us:=[.int .i64 v91.1]) rfl (cs':=[.int .i64 v91.1,.int .i64 v48.1.Leader,v51,.int .i64 v48.1.High,
    v55]) (Sep.m2 hS97) hW rfl rfl (Nat.le_of_ble_eq_true rfl) rfl (fun h98 hS99=>?_)
  simp only [qa,wb,qe,qd,qp,B0,reduceIte,reduceEqDiff]
  refine qj (v := .agg [.int .i64 v91.1,.int .i64 v48.1.Leader,v51,.int .i64 v48.1.High,v55]) ((zv (Sep.bk _ _ _ hS99)).trans rfl) ?_
  simp only [f45,zg,B0,reduceIte,reduceEqDiff]
  refine qy (us:=[.int .i64 v91.1,.int .i64 v48.1.Leader,v51,.int .i64 v48.1.High,v55]) rfl (cs':=[.int .i64 v91.1,.int .i64 v48.1.Leader,v51,
    .int .i64 v48.1.High,v55]) (Sep.m6 hS99) hW rfl (qk rfl (qk rfl (qk (SlF.one hv53) (qk rfl (qk (SlN.one hv57) zn))))) (Nat.le_of_ble_eq_true rfl) rfl
    (fun h100 hS101=>?_)
  simp only [qa,q8,B0,reduceIte,reduceEqDiff]
  have he:=ql hF93
  subst he
  refine we (bb:=b1) (oo:=0) (v := .agg [.int .i64 v91.1,.int .i64 v48.1.Leader,v51,.int .i64 v48.1.High,v55]) (by simp only [f45,B0,reduceIte,
    reduceEqDiff]) ((zv (Sep.bk _ _ _ hS101)).trans rfl) ?_
  exact ⟨v51,c52,v55,c56,by first | trivial | rfl,hv53,hv57,(Sep.m2 (Sep.m2 (Sep.dc (Sep.m3 (Sep.dc (Sep.m3 (Sep.dc (Sep.m1 (Sep.dc ((Sep.dc (hS101))))))))))))⟩
 rw [iteF hc84] at hF76
 simp only [q09,qe,qd,q9,qb,yd,qc,qa,q0q,zb,B0,reduceIte,reduceEqDiff]
 refine zd (t:=(decide (v74.1=2))) (fun hc102=>?_) (fun hc102=>?_)
 ·rw [iteT hc102] at hF76
  simp only [qxd,qd,qs,qb,Nat.reduceAdd,Nat.zero_add,Nat.add_zero,qw,qp,B0,reduceIte,reduceEqDiff]
  refine qj (v:=v55) ((zu (Sep.bk _ _ _ (Sep.m1 hS78))).trans rfl) ?_
  obtain ⟨x103,hx104,hF105⟩:=qi hF76
  simp only [j0,B0,reduceIte,reduceEqDiff]
  obtain ⟨b106,hb107⟩:=SlN.isrow hv57 (ur hx104)
  refine qj (SlN.ia hv57 hb107 hx104) ?_
  obtain ⟨c108,cs109,os110,hv111,hR112,hS113⟩:=SlG.opn (SlN.toG hv57 hb107 Replica.RO.len) hx104 jk Replica.RO.len (Sep.m3 hS78)
  obtain ⟨v115,c116,hv117,rfl,rfl⟩:=hR112
  have hS114:=Sep.no1 hS113
  simp only [qs,qb,Nat.reduceAdd,Nat.zero_add,Nat.add_zero,qw,qp,B0,reduceIte,reduceEqDiff]
  refine qj (v := .int .i64 x103.Known) ((SlG.ld (o:=2) hv111 rfl hx104 hS114 (Nat.le_of_ble_eq_true rfl)).trans rfl) ?_
  simp only [q9,qb,qbf,j0,B0,reduceIte,reduceEqDiff]
  refine qj (SlG.ia hv111 hx104) ?_
  simp only [qs,qb,Nat.reduceAdd,Nat.zero_add,Nat.add_zero,qw,zg,B0,reduceIte,reduceEqDiff]
  refine qe0 (n:=3) (us:=[.int .i64 (IntKind.wrap .i64 (x103.Known+1))]) (cs:=[v115,.int .i64 x103.Epoch,.int .i64 x103.Known]) (o:=2) (cs':=[v115,
    .int .i64 x103.Epoch,.int .i64 (IntKind.wrap .i64 (x103.Known+1))]) rfl hv111 rfl hx104 hS114 hW rfl rfl (Nat.le_of_ble_eq_true rfl) rfl
    (fun c121 h119 hv122 hS120=>?_)
  simp only [qa,wb,qe,qd,qp,B0,reduceIte,reduceEqDiff]
  refine qj (v := .agg [.int .i64 v48.1.Epoch,.int .i64 v48.1.Leader,v51,.int .i64 v48.1.High,v55]) ((zv (Sep.bk _ _ _ (Sep.m3 hS120))).trans rfl) ?_
  simp only [f45,zg,B0,reduceIte,reduceEqDiff]
  refine qy (us:=[.int .i64 v48.1.Epoch,.int .i64 v48.1.Leader,v51,.int .i64 v48.1.High,v55]) rfl (cs':=[.int .i64 v48.1.Epoch,.int .i64 v48.1.Leader,v51,
    .int .i64 v48.1.High,v55]) (Sep.m6 hS120) hW rfl (qk rfl (qk rfl (qk (SlF.one hv53) (qk rfl (qk (SlG.one hv122) zn))))) (Nat.le_of_ble_eq_true rfl) rfl
    (fun h123 hS124=>?_)
  simp only [qa,q8,B0,reduceIte,reduceEqDiff]
  obtain ⟨c125,hv126,hS127⟩:=SlG.cls (e':=(Replica.mk x103.Log x103.Epoch (IntKind.wrap .i64 (x103.Known+1)))) (c:=c121) (os:=c116) hv122 rfl hx104 jk
    (Replica.RI (x:=(Replica.mk x103.Log x103.Epoch (IntKind.wrap .i64 (x103.Known+1)))) hv117) (Sep.m2 (Sep.m2 hS124))
  have hx128:=qcm (x':=(Replica.mk x103.Log x103.Epoch (IntKind.wrap .i64 (x103.Known+1)))) hx104
  have hv129:=SlG.toN hv126
  have he:=ql hF105
  subst he
  refine we (bb:=b1) (oo:=0) (v := .agg [.int .i64 v48.1.Epoch,.int .i64 v48.1.Leader,v51,.int .i64 v48.1.High,v55]) (by simp only [f45,B0,reduceIte,
    reduceEqDiff]) ((zv (Sep.bk _ _ _ (Sep.m1 hS127))).trans rfl) ?_
  exact ⟨v51,c52,v55,c125,by first | trivial | rfl,hv53,hv129,(Sep.m2 (Sep.m1 (Sep.m1 (Sep.dc (Sep.m3 (Sep.dc (Sep.m3 (Sep.dc (Sep.m2 (Sep.dc (Sep.m1 hS127)))))))))))⟩
 rw [iteF hc102] at hF76
 simp only [q2z,qe,qd,q9,qb,yd,qc,qa,qwa,zb,B0,reduceIte,reduceEqDiff]
 refine zd (t:=(decide (v74.1=3))) (fun hc130=>?_) (fun hc130=>?_)
 ·rw [iteT hc130] at hF76
  obtain ⟨v131,hx132,hF133⟩:=qi hF76
  simp only [qwt,qd,f44,qc,za,B0,reduceIte,reduceEqDiff]
  refine ku rfl (k7 hW pb0 v74.2 5 v131 hx132 hS78) ?_
  rintro _ h134 ⟨rfl,hS135⟩
  simp only [qs,qb,Nat.reduceAdd,Nat.zero_add,Nat.add_zero,qw,zg,B0,reduceIte,reduceEqDiff]
  refine qy (us:=[.int .i64 v131.1]) rfl (cs':=[.int .i64 v48.1.Epoch,.int .i64 v131.1,v51,.int .i64 v48.1.High,
    v55]) (Sep.m1 hS135) hW rfl rfl (Nat.le_of_ble_eq_true rfl) rfl (fun h136 hS137=>?_)
  simp only [qa,wb,qe,qd,qp,B0,reduceIte,reduceEqDiff]
  refine qj (v := .agg [.int .i64 v48.1.Epoch,.int .i64 v131.1,v51,.int .i64 v48.1.High,v55]) ((zv (Sep.bk _ _ _ hS137)).trans rfl) ?_
  simp only [f45,zg,B0,reduceIte,reduceEqDiff]
  refine qy (us:=[.int .i64 v48.1.Epoch,.int .i64 v131.1,v51,.int .i64 v48.1.High,v55]) rfl (cs':=[.int .i64 v48.1.Epoch,.int .i64 v131.1,v51,
    .int .i64 v48.1.High,v55]) (Sep.m5 hS137) hW rfl (qk rfl (qk rfl (qk (SlF.one hv53) (qk rfl (qk (SlN.one hv57) zn))))) (Nat.le_of_ble_eq_true rfl) rfl
    (fun h138 hS139=>?_)
  simp only [qa,q8,B0,reduceIte,reduceEqDiff]
  have he:=ql hF133
  subst he
  refine we (bb:=b1) (oo:=0) (v := .agg [.int .i64 v48.1.Epoch,.int .i64 v131.1,v51,.int .i64 v48.1.High,v55]) (by simp only [f45,B0,reduceIte,
    reduceEqDiff]) ((zv (Sep.bk _ _ _ hS139)).trans rfl) ?_
  exact ⟨v51,c52,v55,c56,by first | trivial | rfl,hv53,hv57,(Sep.m2 (Sep.m2 (Sep.dc (Sep.m3 (Sep.dc (Sep.m3 (Sep.dc ((Sep.dc (hS139))))))))))⟩
 rw [iteF hc130] at hF76
 simp only [zk,wb,qe,qd,qp,B0,reduceIte,reduceEqDiff]
 refine qj (v := .agg [.int .i64 v48.1.Epoch,.int .i64 v48.1.Leader,v51,.int .i64 v48.1.High,v55]) ((zv (Sep.bk _ _ _ (Sep.m1 hS78))).trans rfl) ?_
 simp only [f45,zg,B0,reduceIte,reduceEqDiff]
 refine qy (us:=[.int .i64 v48.1.Epoch,.int .i64 v48.1.Leader,v51,.int .i64 v48.1.High,v55]) rfl (cs':=[.int .i64 v48.1.Epoch,.int .i64 v48.1.Leader,v51,
   .int .i64 v48.1.High,v55]) (Sep.m5 hS78) hW rfl (qk rfl (qk rfl (qk (SlF.one hv53) (qk rfl (qk (SlN.one hv57) zn))))) (Nat.le_of_ble_eq_true rfl) rfl
   (fun h140 hS141=>?_)
 simp only [qa,q8,B0,reduceIte,reduceEqDiff]
 have he:=ql hF76
 subst he
 refine we (bb:=b1) (oo:=0) (v := .agg [.int .i64 v48.1.Epoch,.int .i64 v48.1.Leader,v51,.int .i64 v48.1.High,v55]) (by simp only [f45,B0,reduceIte,
   reduceEqDiff]) ((zv (Sep.bk _ _ _ hS141)).trans rfl) ?_
 exact ⟨v51,c52,v55,c56,by first | trivial | rfl,hv53,hv57,(Sep.m2 (Sep.m2 (Sep.dc (Sep.m3 (Sep.dc (Sep.m3 (Sep.dc (Sep.m1 (Sep.dc (hS141))))))))))⟩
theorem qhk {W:Nat→Bool}{h:Heap} (hW:∀ b,
  (geL h.length) b→W b=true) (k:Nat) (code_0:List Int) (r:Group × IsrStep) (hF:uk k code_0=some r) : Ret E W 32 [lst cU8 code_0] h
  (fun v h'=>∃ rv0_2 rc0_2 rv0_4 rc0_4,v = .tup [.agg [.int .i64 r.1.Epoch,.int .i64 r.1.Leader,rv0_2,.int .i64 r.1.High,rv0_4],.agg [.int .i64 r.2.Kind,
  .int .i64 r.2.K,.int .i64 r.2.N]]∧SlF cI 1 3 rv0_2 r.1.InStep rc0_2∧SlN Replica.R 3 51 rv0_4 r.1.Replicas rc0_4∧Sep h' (geL h.length) (rc0_2++(rc0_4++([])))):=by
 refine Ret.of (fn:=x32) rfl (Run.of ?_)
 unfold uk at hF
 have zf0:ze [lst cU8 code_0] 0=lst cU8 code_0:=rfl
 generalize ze [lst cU8 code_0]=fr0 at zf0 ⊢
 have hS:Sep h (geL h.length) []:=Sep.nil h
 simp only [x32,qe,qd,je,B0,reduceIte,reduceEqDiff]
 refine zt hS (fun b1 h2 hS3=>?_)
 simp only [je,B0,reduceIte,reduceEqDiff]
 refine zt hS3 (fun b5 h6 hS7=>?_)
 simp only [qa,q28,qe,qd,zf0,qc,run_build,evp,B0,reduceIte,reduceEqDiff]
 refine qj (v := .agg [lst cU8 code_0,.int .i64 0,.int .u64 0]) rfl ?_
 simp only [kp,B0,reduceIte,reduceEqDiff]
 refine jz (cs:=[lst cU8 code_0,.int .i64 0,.int .u64 0]) hS7 rfl rfl rfl (fun b9 h10 hS11=>?_)
 obtain ⟨v13,hx14,hF15⟩:=qi hF
 simp only [qc,qa,qxq,qe,qd,za,B0,reduceIte,reduceEqDiff]
 refine ku rfl (qfx hW k b9 (L1Cur.mk code_0 0 0) v13 hx14 hS11) ?_
 rintro _ h24 ⟨v16,c17,v20,c21,rfl,hv18,hv22,hS25⟩
 simp only [je,B0,reduceIte,reduceEqDiff]
 refine zt hS25 (fun b26 h27 hS28=>?_)
 simp only [zg,B0,reduceIte,reduceEqDiff]
 refine qy (us:=[.int .i64 v13.1.Epoch,.int .i64 v13.1.Leader,v16,.int .i64 v13.1.High,v20]) rfl (cs':=[.int .i64 v13.1.Epoch,.int .i64 v13.1.Leader,v16,
   .int .i64 v13.1.High,v20]) hS28 hW rfl (qk rfl (qk rfl (qk (SlF.one hv18) (qk rfl (qk (SlN.one hv22) zn))))) (Nat.le_of_ble_eq_true rfl) rfl
   (fun h30 hS31=>?_)
 simp only [qa,B0,reduceIte,reduceEqDiff]
 refine zz hS31 hW (by simp only [B0,reduceIte,reduceEqDiff]) (fun h32 hS33=>?_)
 simp only [zw,qzs,qe,qd,qc,qs,qb,Nat.reduceAdd,Nat.zero_add,Nat.add_zero,qr,qp,B0,reduceIte,reduceEqDiff]
 refine qj (v:=v20) rfl ?_
 obtain ⟨v34,hx35,hF36⟩:=qi hF15
 simp only [jb,qb,SlN.len hv22,za,B0,reduceIte,reduceEqDiff]
 refine ku rfl (qgg hW k b9 v13.2 (List.length v13.1.Replicas:Int) v34 hx35 (Sep.m2 hS33)) ?_
 rintro v37 h41 ⟨_,c38,rfl,hv39,hS42⟩
 simp only [qc,qa,qxb,qe,qd,jb,qb,SlF.plen hv39,q9,yd,qvw,zb,B0,reduceIte,reduceEqDiff]
 refine zd (t:=(decide ((List.length v34.1:Int)=0))) (fun hc43=>?_) (fun hc43=>?_)
 ·rw [iteT hc43] at hF36
  simp only [q18,qe,qd,qp,B0,reduceIte,reduceEqDiff]
  refine qj (v := .agg [.int .i64 v13.1.Epoch,.int .i64 v13.1.Leader,v16,.int .i64 v13.1.High,v20]) rfl ?_
  simp only [run_build,evp,B0,reduceIte,reduceEqDiff]
  refine qj (v := .agg [.int .i64 6,.int .i64 0,.int .i64 0]) rfl ?_
  simp only [zg,B0,reduceIte,reduceEqDiff]
  refine qy (us:=[.int .i64 v13.1.Epoch,.int .i64 v13.1.Leader,v16,.int .i64 v13.1.High,v20]) rfl (cs':=[.int .i64 v13.1.Epoch,.int .i64 v13.1.Leader,v16,
    .int .i64 v13.1.High,v20]) (Sep.m5 hS42) hW rfl (qk rfl (qk rfl (qk (SlF.one hv18) (qk rfl (qk (SlN.one hv22) zn))))) (Nat.le_of_ble_eq_true rfl) rfl
    (fun h44 hS45=>?_)
  simp only [zg,B0,reduceIte,reduceEqDiff]
  refine qy (us:=[.int .i64 6,.int .i64 0,.int .i64 0]) rfl (cs':=[.int .i64 6,.int .i64 0,
    .int .i64 0]) (Sep.m5 hS45) hW rfl rfl (Nat.le_of_ble_eq_true rfl) rfl (fun h46 hS47=>?_)
  simp only [qa,q8,B0,reduceIte,reduceEqDiff]
  have he:=ql hF36
  subst he
  refine jy (qh (j6 (bb:=b1) (oo:=0) (v := .agg [.int .i64 v13.1.Epoch,.int .i64 v13.1.Leader,v16,.int .i64 v13.1.High,
    v20]) (rfl) ((zv (Sep.bk _ _ _ (Sep.m1 hS47))).trans rfl)) (qh (j6 (bb:=b5) (oo:=0) (v := .agg [.int .i64 6,.int .i64 0,
    .int .i64 0]) (rfl) ((zv (Sep.bk _ _ _ hS47)).trans rfl)) qz)) ?_
  exact ⟨v16,c17,v20,c21,by first | trivial | rfl,hv18,hv22,(Sep.m1 (Sep.m1 (Sep.dc ((Sep.dc ((Sep.dc ((Sep.dc (hS47))))))))))⟩
 rw [iteF hc43] at hF36
 simp only [zk,q1y,qe,jh,zm,B0,reduceIte,reduceEqDiff]
 refine qq (v := .agg [.int .i64 v13.1.Epoch,.int .i64 v13.1.Leader,v16,.int .i64 v13.1.High,v20]) rfl ?_
 obtain ⟨x48,hx49,hF50⟩:=qi hF36
 simp only [qj9,qg,q0m,B0,reduceIte,reduceEqDiff]
 obtain ⟨b51,hb52⟩:=SlF.isrow hv39 (ur hx49)
 refine qq (SlF.ia hv39 hb52 hx49) ?_
 simp only [wv,B0,reduceIte,reduceEqDiff]
 refine qim (SlF.ltk hv39 hb52 hS42) ?_
 refine qq (v := .agg [.int .i64 x48.Kind,.int .i64 x48.K,
   .int .i64 x48.N]) ((SlF.lds (o:=0) hv39 hS42 hb52 hx49 (fun _=>rfl) (Nat.le_of_ble_eq_true rfl)).trans rfl) ?_
 simp only [qor,B0,reduceIte,reduceEqDiff]
 refine qve (qow (Sep.dj (Sep.m5 hS42) (SlF.bfp hv39 hb52) qou) ql1) ?_
 refine xk (us:=[.int .i64 v13.1.Epoch,.int .i64 v13.1.Leader,v16,.int .i64 v13.1.High,v20]) rfl (cs':=[.int .i64 v13.1.Epoch,.int .i64 v13.1.Leader,v16,
   .int .i64 v13.1.High,v20]) (Sep.m5 hS42) hW rfl (qk rfl (qk rfl (qk (SlF.one hv18) (qk rfl (qk (SlN.one hv22) zn))))) (Nat.le_of_ble_eq_true rfl) rfl
   (fun h53 hS54=>?_)
 simp only [qdj,B0,reduceIte,reduceEqDiff]
 refine xk (us:=[.int .i64 x48.Kind,.int .i64 x48.K,.int .i64 x48.N]) rfl (cs':=[.int .i64 x48.Kind,.int .i64 x48.K,
   .int .i64 x48.N]) (Sep.m5 hS54) hW rfl rfl (Nat.le_of_ble_eq_true rfl) rfl (fun h55 hS56=>?_)
 simp only [qu,q8,B0,reduceIte,reduceEqDiff]
 have he:=ql hF50
 subst he
 refine jy (qh (j6 (bb:=b1) (oo:=0) (v := .agg [.int .i64 v13.1.Epoch,.int .i64 v13.1.Leader,v16,.int .i64 v13.1.High,
   v20]) (rfl) ((zv (Sep.bk _ _ _ (Sep.m1 hS56))).trans rfl)) (qh (j6 (bb:=b5) (oo:=0) (v := .agg [.int .i64 x48.Kind,.int .i64 x48.K,
   .int .i64 x48.N]) (rfl) ((zv (Sep.bk _ _ _ hS56)).trans rfl)) qz)) ?_
 exact ⟨v16,c17,v20,c21,by first | trivial | rfl,hv18,hv22,(Sep.m1 (Sep.m1 (Sep.dc ((Sep.dc ((Sep.dc ((Sep.dc (hS56))))))))))⟩
theorem qgp {W:Nat→Bool}{h:Heap} (hW:∀ b,
  (geL h.length) b→W b=true) (x_0:Int) (r:Bool) (hF:some (yl x_0)=some r) : Ret E W 102 [.int .i64 x_0] h
  (fun v h'=>cut h.length h' E.sz false 9 v=some (.bool r)):=by
 refine Ret.of (fn:=qpo) rfl (Run.of ?_)
 unfold yl at hF
 have zf0:ze [.int .i64 x_0] 0 = .int .i64 x_0:=rfl
 generalize ze [.int .i64 x_0]=fr0 at zf0 ⊢
 have hS:Sep h (geL h.length) []:=Sep.nil h
 simp only [qpo,qe,qd,qc,qa,qsv,zf0,q9,qb,qao,q8,B0,reduceIte,reduceEqDiff]
 have he:=ql hF
 subst he
 simp only [zj,B0,reduceIte,reduceEqDiff]
 exact rfl
theorem qla {W:Nat→Bool}{h:Heap} (hW:∀ b,
  (geL h.length) b→W b=true) (x_0:Int) (y_1:Int) (r:Bool) (hF:some (qbp x_0 y_1)=some r) : Ret E W 96 [.int .i64 x_0,
  .int .i64 y_1] h (fun v h'=>cut h.length h' E.sz false 9 v=some (.bool r)):=by
 refine Ret.of (fn:=x96) rfl (Run.of ?_)
 unfold qbp at hF
 have zf0:ze [.int .i64 x_0,.int .i64 y_1] 0 = .int .i64 x_0:=rfl
 have zf1:ze [.int .i64 x_0,.int .i64 y_1] 1 = .int .i64 y_1:=rfl
 generalize ze [.int .i64 x_0,.int .i64 y_1]=fr0 at zf0 zf1 ⊢
 have hS:Sep h (geL h.length) []:=Sep.nil h
 simp only [x96,qe,qd,qc,qa,qv9,zf0,za,B0,reduceIte,reduceEqDiff]
 refine js rfl (qh qm qz) (qgp (fun b hb=>decide_eq_true hb) x_0 _ rfl) ?_
 simp only [qc,B0,reduceIte,reduceEqDiff]
 refine ji 4 (fun fr' h'=>Sep h' (geL h.length) ([])∧fr' 11 = .bool ((yl x_0)&&(!(yl y_1)))∧fr' 0 = .int .i64 x_0∧fr' 1 = .int .i64 y_1)
   (fun Q1 hN2=>?_) ?_
 ·simp only [List.take_succ_cons,List.take_zero]
  simp only [qf (g:=7),B0,reduceIte,reduceEqDiff]
  refine zf (t:=(yl x_0)) (fun hg3=>?_) (fun hg3=>?_)
  ·simp only [hg3,qf (g:=7),zl,zf1,qc,za,B0,reduceIte,reduceEqDiff]
   refine js rfl (qh qm qz) (qgp (fun b hb=>decide_eq_true hb) y_1 _ rfl) ?_
   simp only [hg3,qf (g:=7),zl,ka,qb,kx,qt,zh,qa,qo,B0,reduceIte,reduceEqDiff]
   exact hN2 _ _ ⟨hS,by rw [xd hg3]; simp only [B0,reduceIte,reduceEqDiff],zf0,zf1⟩
  ·simp only [hg3,qf (g:=7),jo,qt,qb,zi,qa,qo,B0,reduceIte,reduceEqDiff]
   exact hN2 _ _ ⟨hS,by rw [xe hg3]; simp only [B0,reduceIte,reduceEqDiff],zf0,zf1⟩
 rintro fr4 h8 ⟨hS9,f5,f6,f7⟩
 simp only [List.drop_succ_cons,List.drop_zero]
 simp only [f5,qc,B0,reduceIte,reduceEqDiff]
 refine ji 4 (fun fr' h'=>Sep h' (geL h.length) ([])∧fr' 16 = .bool (((yl x_0)&&(!(yl y_1)))||(decide (x_0<y_1)))) (fun Q10 hN11=>?_) ?_
 ·simp only [List.take_succ_cons,List.take_zero]
  simp only [qf (g:=12),B0,reduceIte,reduceEqDiff]
  refine zf (t:=((yl x_0)&&(!(yl y_1)))) (fun hg12=>?_) (fun hg12=>?_)
  ·simp only [hg12,qf (g:=12),jf,qt,qb,zh,qa,qo,B0,reduceIte,reduceEqDiff]
   exact hN11 _ _ ⟨hS9,by rw [orT hg12]; simp only [B0,reduceIte,reduceEqDiff]⟩
  ·simp only [hg12,qf (g:=12),qv,f6,qc,f7,q9,qb,u0,qt,zi,qa,qo,B0,reduceIte,reduceEqDiff]
   exact hN11 _ _ ⟨hS9,by rw [orF hg12]; simp only [B0,reduceIte,reduceEqDiff]⟩
 rintro fr13 h15 ⟨hS16,f14⟩
 simp only [List.drop_succ_cons,List.drop_zero]
 simp only [f14,qc,qa,q8,B0,reduceIte,reduceEqDiff]
 have he:=ql hF
 subst he
 simp only [zj,B0,reduceIte,reduceEqDiff]
 exact rfl
theorem qey {W:Nat→Bool}{h:Heap} (hW:∀ b,
  (geL h.length) b→W b=true) (x_0:Int) (r:Bool) (hF:some (wd x_0)=some r) : Ret E W 97 [.int .i64 x_0] h
  (fun v h'=>cut h.length h' E.sz false 9 v=some (.bool r)):=by
 refine Ret.of (fn:=x97) rfl (Run.of ?_)
 unfold wd at hF
 have zf0:ze [.int .i64 x_0] 0 = .int .i64 x_0:=rfl
 generalize ze [.int .i64 x_0]=fr0 at zf0 ⊢
 have hS:Sep h (geL h.length) []:=Sep.nil h
 simp only [x97,qe,qd,qc,qa,qw5,zf0,q9,qb,qao,q8,B0,reduceIte,reduceEqDiff]
 have he:=ql hF
 subst he
 simp only [zj,B0,reduceIte,reduceEqDiff]
 exact rfl
theorem qff {W:Nat→Bool}{h:Heap} (hW:∀ b,
  (geL h.length) b→W b=true) (k:Nat) (x_0:List Int) (target_1:Int) (r:Int × Bool) (hF:wm k x_0 target_1=some r) : Ret E W 89 [lst cI x_0,
  .int .i64 target_1] h (fun v h'=>cut h.length h' E.sz false 9 v=some (.tup [.int .i64 r.1,.bool r.2])):=by
 refine Ret.of (fn:=x89) rfl (Run.of ?_)
 unfold wm at hF
 have zf0:ze [lst cI x_0,.int .i64 target_1] 0=lst cI x_0:=rfl
 have zf1:ze [lst cI x_0,.int .i64 target_1] 1 = .int .i64 target_1:=rfl
 generalize ze [lst cI x_0,.int .i64 target_1]=fr0 at zf0 zf1 ⊢
 have hS:Sep h (geL h.length) []:=Sep.nil h
 simp only [x89,qe,qd,qc,qa,qti,zf0,jb,qb,jl,qxs,qzn,B0,reduceIte,reduceEqDiff]
 obtain ⟨oc7,hX9,hk10⟩:=kq hF
 simp only [qwr]
 refine qfn (σ:=Int × Int) (fun s36=>yx x_0 target_1 s36.1 s36.2)
   (fun s fr' h'=>fr' 0=lst cI x_0∧fr' 1 = .int .i64 target_1∧fr' 6 = .int .i64 (List.length x_0:Int)∧fr' 7 = .int .i64 s.1∧fr' 8 = .int .i64 s.2∧Sep h'
   (geL h.length) ([])) hX9 ⟨zf0,zf1,rfl,rfl,rfl,hS⟩ (fun _ _ _ h=>h) ?_ ?_
 ·rintro ⟨s3,s4⟩ fr19 h20 ⟨f22,f23,f24,f25,f26,hS21⟩ oc8 hF11 hr12 Q13 hN14 hK15 hR16 hE17
  dsimp only at *
  unfold yx at hF11
  simp only [q3b,qe,qd,f25,qc,f26,q9,qb,u0,qa,zb,B0,reduceIte,reduceEqDiff]
  refine zd (t:=(decide (s3<s4))) (fun hc28=>?_) (fun hc28=>?_)
  ·rw [iteT hc28] at hF11
   obtain ⟨x29,hx30,hF31⟩:=qi hF11
   simp only [zk,qxr,w6,q3i,qe,qd,f25,qc,f26,q9,qb,qbf,qkp,qjt,qog (n:=1) (by decide),qa,
     qzz,f22,j0,B0,reduceIte,reduceEqDiff]
   refine qj (v := .ref (cI x29) 0) (kz hx30 rfl) ?_
   simp only [qp,B0,reduceIte,reduceEqDiff]
   refine qj (v := .int .i64 x29) rfl ?_
   simp only [f23,qc,za,B0,reduceIte,reduceEqDiff]
   refine js rfl (qh qm (qh qm qz)) (qla (fun b hb=>decide_eq_true hb) x29 target_1 _ rfl) ?_
   simp only [qa,qz2,zb,B0,reduceIte,reduceEqDiff]
   refine zd (t:=(qbp x29 target_1)) (fun hc32=>?_) (fun hc32=>?_)
   ·rw [iteT hc32] at hF31
    simp only [qd,qc,q9,qb,qbf,qa,wb,qo,B0,reduceIte,reduceEqDiff]
    have e33:=ql hF31
    exact hN14 _ _ _ e33.symm ⟨f22,f23,f24,rfl,f26,hS21⟩
   rw [iteF hc32] at hF31
   simp only [qd,qc,qa,wb,qo,B0,reduceIte,reduceEqDiff]
   have e34:=ql hF31
   exact hN14 _ _ _ e34.symm ⟨f22,f23,f24,f25,rfl,hS21⟩
  rw [iteF hc28] at hF11
  simp only [qdq,qci,qdt,B0,reduceIte,reduceEqDiff]
  have e35:=ql hF11
  exact hK15 _ _ _ e35.symm ⟨f22,f23,f24,f25,f26,hS21⟩
 rintro ⟨s37,s38⟩ fr39 h40 rfl ⟨f42,f43,f44,f45,f46,hS41⟩
 dsimp only [jnO] at hk10
 dsimp only at *
 unfold uz at hk10
 simp only [qxx,qe,qd,f45,qc,f44,q9,qb,u0,B0,reduceIte,reduceEqDiff]
 obtain ⟨v50,hx51,hF52⟩:=qi hk10
 refine ji 18 (fun fr' h'=>Sep h' (geL h.length) ([])∧fr' 53 = .bool v50∧fr' 31 = .int .i64 s37) (fun Q47 hN48=>?_) ?_
 ·simp only [List.take_succ_cons,List.take_zero]
  simp only [qf (g:=35),B0,reduceIte,reduceEqDiff]
  refine zf (t:=(decide (s37<(List.length x_0:Int)))) (fun hg49=>?_) (fun hg49=>?_)
  ·rw [iteT hg49] at hx51
   obtain ⟨x53,hx54,hF55⟩:=qi hx51
   simp only [hg49,qf (g:=35),zl,f42,qc,f45,j0,B0,reduceIte,reduceEqDiff]
   refine qj (v := .ref (cI x53) 0) (kz hx54 rfl) ?_
   simp only [hg49,qf (g:=35),zl,qp,B0,reduceIte,reduceEqDiff]
   refine qj (v := .int .i64 x53) rfl ?_
   simp only [hg49,qf (g:=35),zl,f43,qc,q9,qb,yd,B0,reduceIte,reduceEqDiff]
   obtain ⟨v59,hx60,hF61⟩:=qi hF55
   refine ji 10 (fun fr' h'=>Sep h' (geL h.length) ([])∧fr' 52 = .bool v59∧fr' 31 = .int .i64 s37∧fr' 35 = .bool (decide (s37<(List.length x_0:Int))))
     (fun Q56 hN57=>?_) ?_
   ·simp only [List.take_succ_cons,List.take_zero]
    simp only [qf (g:=42),B0,reduceIte,reduceEqDiff]
    refine zf (t:=(decide (x53=target_1))) (fun hg58=>?_) (fun hg58=>?_)
    ·rw [iteT hg58] at hx60
     simp only [hg58,qf (g:=42),jf,qf (g:=48),qgi,hg49,qf (g:=35),zl,qt,qb,zh,qa,
       qo,B0,reduceIte,reduceEqDiff]
     have e62:=ql hx60
     exact hN57 _ _ ⟨hS41,by rw [←e62]; simp only [B0,reduceIte,reduceEqDiff],rfl,by simp only [hg49,B0,reduceIte,reduceEqDiff]⟩
    ·rw [iteF hg58] at hx60
     obtain ⟨x63,hx64,hF65⟩:=qi hx60
     simp only [hg58,qf (g:=42),qv,f42,qc,f45,j0,B0,reduceIte,reduceEqDiff]
     refine qj (v := .ref (cI x63) 0) (kz hx64 rfl) ?_
     simp only [hg58,qf (g:=42),qv,qp,B0,reduceIte,reduceEqDiff]
     refine qj (v := .int .i64 x63) rfl ?_
     simp only [hg58,qf (g:=42),qv,za,B0,reduceIte,reduceEqDiff]
     refine js rfl (qh qm qz) (qey (fun b hb=>decide_eq_true hb) x63 _ rfl) ?_
     simp only [hg58,qf (g:=42),qv,qc,B0,reduceIte,reduceEqDiff]
     refine ji 3 (fun fr' h'=>Sep h' (geL h.length) ([])∧fr' 51 = .bool ((wd x63) &&
       (wd target_1))∧fr' 31 = .int .i64 s37∧fr' 35 = .bool (decide (s37<(List.length x_0:Int)))∧fr' 42 = .bool (decide (x53=target_1)))
       (fun Q66 hN67=>?_) ?_
     ·simp only [List.take_succ_cons,List.take_zero]
      simp only [qf (g:=48),B0,reduceIte,reduceEqDiff]
      refine zf (t:=(wd x63)) (fun hg68=>?_) (fun hg68=>?_)
      ·simp only [hg68,qf (g:=48),zl,f43,qc,za,B0,reduceIte,reduceEqDiff]
       refine js rfl (qh qm qz) (qey (fun b hb=>decide_eq_true hb) target_1 _ rfl) ?_
       simp only [hg58,qf (g:=42),qv,hg68,qt,qb,zh,qa,qo,B0,reduceIte,reduceEqDiff]
       exact hN67 _ _ ⟨hS41,by rw [xd hg68]; simp only [B0,reduceIte,reduceEqDiff],rfl,by simp only [hg49,B0,reduceIte,reduceEqDiff],by simp only [hg58,B0,
         reduceIte,reduceEqDiff]⟩
      ·simp only [hg68,qf (g:=48),jo,hg58,qf (g:=42),qv,qt,qb,zi,qa,qo,B0,reduceIte,
        reduceEqDiff]
       exact hN67 _ _ ⟨hS41,by rw [xe hg68]; simp only [B0,reduceIte,reduceEqDiff],rfl,by simp only [hg49,B0,reduceIte,reduceEqDiff],by simp only [hg58,B0,
         reduceIte,reduceEqDiff]⟩
     rintro fr69 h74 ⟨hS75,f70,f71,f72,f73⟩
     simp only [List.drop_succ_cons,List.drop_zero]
     simp only [f72,hg49,qf (g:=35),zl,f73,hg58,qt,qb,zi,f70,qa,qo,B0,reduceIte,reduceEqDiff]
     have e76:=ql hF65
     exact hN57 _ _ ⟨hS75,by rw [←e76]; simp only [B0,reduceIte,reduceEqDiff],f71,by simp only [f72,hg49,B0,reduceIte,reduceEqDiff]⟩
   rintro fr77 h81 ⟨hS82,f78,f79,f80⟩
   simp only [List.drop_succ_cons,List.drop_zero]
   simp only [f80,hg49,qt,qb,zh,f78,qa,qo,B0,reduceIte,reduceEqDiff]
   have e83:=ql hF61
   exact hN48 _ _ ⟨hS82,by rw [←e83]; simp only [B0,reduceIte,reduceEqDiff],f79⟩
  ·rw [iteF hg49] at hx51
   simp only [hg49,qf (g:=35),jo,qf (g:=42),qgi,qf (g:=48),qt,qb,zi,qa,qo,B0,reduceIte,
     reduceEqDiff]
   have e84:=ql hx51
   exact hN48 _ _ ⟨hS41,by rw [←e84]; simp only [B0,reduceIte,reduceEqDiff],rfl⟩
 rintro fr85 h88 ⟨hS89,f86,f87⟩
 simp only [List.drop_succ_cons,List.drop_zero]
 simp only [f87,qc,f86,qa,q8,B0,reduceIte,reduceEqDiff]
 have he:=ql hF52
 subst he
 simp only [qbs,B0,reduceIte,reduceEqDiff]
 exact qdx (qh rfl (qh rfl qz))
theorem qhx {W:Nat→Bool}{h:Heap}{lo:Nat→Prop}{S0:List Obj} (hW:∀ b,
  lo b→W b=true) (pv0:XV) (pc0:List Obj) (s_0:List Int) (ph0:SlF cI 1 3 pv0 s_0 pc0) (i_1:Int) (j_2:Int) (r:List Int)
  (hF:qc7 s_0 i_1 j_2=some r) (hS:Sep h lo (pc0++S0)) : Ret E W 90 [pv0,.int .i64 i_1,.int .i64 j_2] h (fun v h'=>∃ rv0 rc0,
  v=rv0∧SlF cI 1 3 rv0 r rc0∧Sep h' lo (rc0++S0)):=q5z (f:=cI) (n:=1) (ty:=3) (bytes:=8) (z:=[(.int .i64 0)]) rfl (fun _=>rfl)
  (fun _=>rfl) rfl rfl rfl hW ph0 hF hS
end Go.Proofs.Ytefgfcalgjmhjaa.X
namespace Go.Proofs.Ytefgfcalgjmhjaa.X
open Go
open Nat (reduceEqDiff)
theorem qit {W:Nat→Bool}{h:Heap}{lo:Nat→Prop}{S0:List Obj} (hW:∀ b,
  lo b→W b=true) (k:Nat) (pb0:Nat) (v_0:Group) (pv0_2:XV) (pc0_2:List Obj) (ph0_2:SlF cI 1 3 pv0_2 v_0.InStep pc0_2) (pv0_4:XV) (pc0_4:List Obj)
  (ph0_4:SlN Replica.R 3 51 pv0_4 v_0.Replicas pc0_4) (v_1:IsrStep) (r:Bool × Group) (hF:qa0 k v_0 v_1=some r) (hS:Sep h lo
  ([Blk1 pb0 [.int .i64 v_0.Epoch,.int .i64 v_0.Leader,pv0_2,.int .i64 v_0.High,pv0_4] 29]++(pc0_2++(pc0_4++(S0))))) : Ret E W 66 [.ptr pb0 0,
  .agg [.int .i64 v_1.Kind,.int .i64 v_1.K,.int .i64 v_1.N]] h (fun v h'=>∃ iv0_2 ic0_2 ic0_4,
  v = .bool r.1∧SlF cI 1 3 iv0_2 r.2.InStep ic0_2∧SlN Replica.R 3 51 pv0_4 r.2.Replicas ic0_4∧Sep h' lo ([Blk1 pb0 [.int .i64 r.2.Epoch,.int .i64 r.2.Leader,iv0_2,
  .int .i64 r.2.High,pv0_4] 29]++(ic0_2++(ic0_4++(S0))))):=by
 refine Ret.of (fn:=x66) rfl (Run.of ?_)
 unfold qa0 at hF
 have zf0:ze [.ptr pb0 0,.agg [.int .i64 v_1.Kind,.int .i64 v_1.K,.int .i64 v_1.N]] 0 = .ptr pb0 0:=rfl
 have zf1:ze [.ptr pb0 0,.agg [.int .i64 v_1.Kind,.int .i64 v_1.K,.int .i64 v_1.N]] 1 = .agg [.int .i64 v_1.Kind,.int .i64 v_1.K,.int .i64 v_1.N]:=rfl
 generalize ze [.ptr pb0 0,.agg [.int .i64 v_1.Kind,.int .i64 v_1.K,.int .i64 v_1.N]]=fr0 at zf0 zf1 ⊢
 simp only [x66,qe,qd,kp,zf1,B0,reduceIte,reduceEqDiff]
 refine jz (cs:=[.int .i64 v_1.Kind,.int .i64 v_1.K,.int .i64 v_1.N]) hS rfl rfl rfl (fun b1 h2 hS3=>?_)
 simp only [qc,qa,B0,reduceIte,reduceEqDiff]
 refine zz hS3 hW (by simp only [B0,reduceIte,reduceEqDiff]) (fun h5 hS6=>?_)
 simp only [zw,qtl,qe,qd,qs,qb,Nat.reduceAdd,Nat.zero_add,Nat.add_zero,qr,qp,B0,reduceIte,reduceEqDiff]
 refine qj (v := .int .i64 v_1.Kind) rfl ?_
 simp only [q9,qb,qao,qc,B0,reduceIte,reduceEqDiff]
 refine ji 4 (fun fr' h'=>Sep h' lo ([Blk1 pb0 [.int .i64 v_0.Epoch,.int .i64 v_0.Leader,pv0_2,.int .i64 v_0.High,
   pv0_4] 29]++(pc0_2++(pc0_4++(S0))))∧fr' 19 = .bool ((decide (v_1.Kind≠2))&&(decide (v_1.Kind≠3)))∧fr' 0 = .ptr pb0 0∧fr' 3 = .ref [.int .i64 v_1.Kind,
   .int .i64 v_1.K,.int .i64 v_1.N] 0) (fun Q7 hN8=>?_) ?_
 ·simp only [List.take_succ_cons,List.take_zero]
  simp only [qf (g:=15),B0,reduceIte,reduceEqDiff]
  refine zf (t:=(decide (v_1.Kind≠2))) (fun hg9=>?_) (fun hg9=>?_)
  ·simp only [hg9,qf (g:=15),zl,qs,qb,Nat.reduceAdd,Nat.zero_add,Nat.add_zero,qr,qp,B0,reduceIte,reduceEqDiff]
   refine qj (v := .int .i64 v_1.Kind) rfl ?_
   simp only [hg9,qf (g:=15),zl,q9,qb,qao,qt,zh,qa,qo,B0,reduceIte,reduceEqDiff]
   exact hN8 _ _ ⟨(Sep.m2 (Sep.m2 (Sep.m2 hS6))),by rw [xd hg9]; simp only [B0,reduceIte,reduceEqDiff],zf0,rfl⟩
  ·simp only [hg9,qf (g:=15),jo,qt,qb,zi,qa,qo,B0,reduceIte,reduceEqDiff]
   exact hN8 _ _ ⟨(Sep.m2 (Sep.m2 (Sep.m2 hS6))),by rw [xe hg9]; simp only [B0,reduceIte,reduceEqDiff],zf0,rfl⟩
 rintro fr10 h14 ⟨hS15,f11,f12,f13⟩
 simp only [List.drop_succ_cons,List.drop_zero]
 simp only [f11,qc,B0,reduceIte,reduceEqDiff]
 refine ji 4 (fun fr' h'=>Sep h' lo ([Blk1 pb0 [.int .i64 v_0.Epoch,.int .i64 v_0.Leader,pv0_2,.int .i64 v_0.High,
   pv0_4] 29]++(pc0_2++(pc0_4++(S0))))∧fr' 24 = .bool (((decide (v_1.Kind≠2))&&(decide (v_1.Kind≠3)))&&(decide
   (v_1.N≠0)))∧fr' 0 = .ptr pb0 0∧fr' 3 = .ref [.int .i64 v_1.Kind,.int .i64 v_1.K,.int .i64 v_1.N] 0) (fun Q16 hN17=>?_) ?_
 ·simp only [List.take_succ_cons,List.take_zero]
  simp only [qf (g:=20),B0,reduceIte,reduceEqDiff]
  refine zf (t:=((decide (v_1.Kind≠2))&&(decide (v_1.Kind≠3)))) (fun hg18=>?_) (fun hg18=>?_)
  ·simp only [hg18,qf (g:=20),zl,f13,qs,qb,Nat.reduceAdd,Nat.zero_add,Nat.add_zero,qr,qp,B0,reduceIte,reduceEqDiff]
   refine qj (v := .int .i64 v_1.N) rfl ?_
   simp only [hg18,qf (g:=20),zl,q9,qb,qao,qt,zh,qa,qo,B0,reduceIte,reduceEqDiff]
   exact hN17 _ _ ⟨(Sep.m2 (Sep.m2 (Sep.m2 hS15))),by rw [xd hg18]; simp only [B0,reduceIte,reduceEqDiff],f12,f13⟩
  ·simp only [hg18,qf (g:=20),jo,qt,qb,zi,qa,qo,B0,reduceIte,reduceEqDiff]
   exact hN17 _ _ ⟨(Sep.m2 (Sep.m2 (Sep.m2 hS15))),by rw [xe hg18]; simp only [B0,reduceIte,reduceEqDiff],f12,f13⟩
 rintro fr19 h23 ⟨hS24,f20,f21,f22⟩
 simp only [List.drop_succ_cons,List.drop_zero]
 simp only [qa,f20,zb,B0,reduceIte,reduceEqDiff]
 refine zd (t:=(((decide (v_1.Kind≠2))&&(decide (v_1.Kind≠3)))&&(decide (v_1.N≠0)))) (fun hc25=>?_) (fun hc25=>?_)
 ·rw [iteT hc25] at hF
  simp only [qe,qd,qc,qa,q8,B0,reduceIte,reduceEqDiff]
  have he:=ql hF
  subst he
  simp only [zj,B0,reduceIte,reduceEqDiff]
  exact ⟨pv0_2,pc0_2,pc0_4,by first | trivial | rfl,ph0_2,ph0_4,(Sep.m2 (Sep.m2 (Sep.m2 hS24)))⟩
 rw [iteF hc25] at hF
 simp only [zk,qq8,qe,jh,f22,zq,qg,Nat.reduceAdd,Nat.zero_add,Nat.add_zero,qr,zm,B0,reduceIte,reduceEqDiff]
 refine qq (v := .int .i64 v_1.K) rfl ?_
 simp only [f21,zp,qg,k9,ja,zq,Nat.reduceAdd,Nat.zero_add,Nat.add_zero,qw,zm,B0,reduceIte,reduceEqDiff]
 refine qq (v:=pv0_4) ((zu (Sep.bk _ _ _ hS24)).trans rfl) ?_
 simp only [qd2,qg,SlN.len ph0_4,kh,qdd,k8,B0,reduceIte,reduceEqDiff]
 refine qbm rfl (qh qm (qh qm (qh qm qz))) (w8 (fun b hb=>decide_eq_true hb) v_1.K 0 (IntKind.wrap .i64
   ((List.length v_0.Replicas:Int) - 1)) _ rfl) ?_
 simp only [qer,qg,kx,qu,zb,B0,reduceIte,reduceEqDiff]
 refine zd (t:=(!(z7 v_1.K 0 (IntKind.wrap .i64 ((List.length v_0.Replicas:Int) - 1))))) (fun hc26=>?_) (fun hc26=>?_)
 ·rw [iteT hc26] at hF
  simp only [qe,qd,qc,qa,q8,B0,reduceIte,reduceEqDiff]
  have he:=ql hF
  subst he
  simp only [zj,B0,reduceIte,reduceEqDiff]
  exact ⟨pv0_2,pc0_2,pc0_4,by first | trivial | rfl,ph0_2,ph0_4,(Sep.m2 (Sep.m2 (Sep.m2 hS24)))⟩
 rw [iteF hc26] at hF
 simp only [zk,que,qe,jh,f21,zp,qg,k9,ja,zq,Nat.reduceAdd,Nat.zero_add,Nat.add_zero,qw,zm,B0,reduceIte,
   reduceEqDiff]
 refine qq (v:=pv0_2) ((zu (Sep.bk _ _ _ hS24)).trans rfl) ?_
 simp only [f22,zq,qg,Nat.reduceAdd,Nat.zero_add,Nat.add_zero,qr,zm,B0,reduceIte,reduceEqDiff]
 refine qq (v := .int .i64 v_1.K) rfl ?_
 obtain ⟨v27,hx28,hF29⟩:=qi hF
 simp only [k8,B0,reduceIte,reduceEqDiff]
 refine qbm rfl (qh (SlF.snap ph0_2 (Sep.m1 hS24) rfl (fun _=>rfl) (fun _=>rfl)) (qh qm qz)) (qff
   (fun b hb=>decide_eq_true hb) k v_0.InStep v_1.K v27 hx28) ?_
 simp only [zp,qg,qmy,xu,xj,qu,qqr,qe,jh,f21,k9,ja,zq,Nat.reduceAdd,Nat.zero_add,Nat.add_zero,qw,
   zm,B0,reduceIte,reduceEqDiff]
 refine qq (v:=pv0_4) ((zu (Sep.bk _ _ _ hS24)).trans rfl) ?_
 simp only [f22,zq,qg,Nat.reduceAdd,Nat.zero_add,Nat.add_zero,qr,zm,B0,reduceIte,reduceEqDiff]
 refine qq (v := .int .i64 v_1.K) rfl ?_
 obtain ⟨x30,hx31,hF32⟩:=qi hF29
 simp only [wo,B0,reduceIte,reduceEqDiff]
 obtain ⟨b33,hb34⟩:=SlN.isrow ph0_4 (ur hx31)
 refine qq (SlN.ia ph0_4 hb34 hx31) ?_
 obtain ⟨c35,cs36,os37,hv38,hR39,hS40⟩:=SlG.opn (SlN.toG ph0_4 hb34 Replica.RO.len) hx31 jk Replica.RO.len (Sep.m2 hS24)
 obtain ⟨v42,c43,hv44,rfl,rfl⟩:=hR39
 have hS41:=Sep.no1 hS40
 simp only [zm,B0,reduceIte,reduceEqDiff]
 refine qq (v := .agg [v42,.int .i64 x30.Epoch,.int .i64 x30.Known]) ((SlG.lds (o:=0) hv38 rfl hx31 hS41 (Nat.le_of_ble_eq_true rfl)).trans rfl) ?_
 simp only [q49,B0,reduceIte,reduceEqDiff]
 refine qd1 hS41 (fun b46 h47 hS48=>?_)
 simp only [qdj,B0,reduceIte,reduceEqDiff]
 refine xk (us:=[v42,.int .i64 x30.Epoch,.int .i64 x30.Known]) rfl (cs':=[v42,.int .i64 x30.Epoch,
   .int .i64 x30.Known]) hS48 hW rfl (qk (SlF.one hv44) (qk rfl (qk rfl zn))) (Nat.le_of_ble_eq_true rfl) rfl (fun h50 hS51=>?_)
 simp only [qu,B0,reduceIte,reduceEqDiff]
 refine zz hS51 hW (by simp only [B0,reduceIte,reduceEqDiff]) (fun h52 hS53=>?_)
 simp only [zw,qrf,qe,qd,f22,qs,qb,Nat.reduceAdd,Nat.zero_add,Nat.add_zero,qr,qp,B0,reduceIte,reduceEqDiff]
 refine qj (v := .int .i64 v_1.Kind) rfl ?_
 simp only [qa,qrx,w6,qpz,qe,qd,q9,qb,yd,qc,qrj,zb,B0,reduceIte,reduceEqDiff]
 refine zd (t:=(decide (v_1.Kind=1))) (fun hc54=>?_) (fun hc54=>?_)
 ·rw [iteT hc54] at hF32
  simp only [qxu,qe,qd,qc,ka,qb,kx,B0,reduceIte,reduceEqDiff]
  refine ji 6 (fun fr' h'=>Sep h' lo ([Blk1 pb0 [.int .i64 v_0.Epoch,.int .i64 v_0.Leader,pv0_2,.int .i64 v_0.High,
    pv0_4] 29]++(pc0_2++(c35++(c43++(S0)))))∧fr' 65 = .bool ((!v27.2)||(decide (v_0.Epoch=100)))∧fr' 0 = .ptr pb0 0∧fr' 3 = .ref [.int .i64 v_1.Kind,
    .int .i64 v_1.K,.int .i64 v_1.N] 0) (fun Q55 hN56=>?_) ?_
  ·simp only [List.take_succ_cons,List.take_zero]
   simp only [qf (g:=59),B0,reduceIte,reduceEqDiff]
   refine zf (t:=(!v27.2)) (fun hg57=>?_) (fun hg57=>?_)
   ·simp only [hg57,qf (g:=59),jf,qt,qb,zh,qa,qo,B0,reduceIte,reduceEqDiff]
    exact hN56 _ _ ⟨(Sep.m3 (Sep.m3 (Sep.m1 (Sep.m1 hS53)))),by rw [orT hg57]; simp only [B0,reduceIte,reduceEqDiff],f21,f22⟩
   ·simp only [hg57,qf (g:=59),qv,f21,qc,wl,qb,ja,qs,Nat.reduceAdd,Nat.zero_add,Nat.add_zero,qw,qp,B0,
     reduceIte,reduceEqDiff]
    refine qj (v := .int .i64 v_0.Epoch) ((zu (Sep.bk _ _ _ (Sep.m2 hS53))).trans rfl) ?_
    simp only [hg57,qf (g:=59),qv,q9,qb,yd,qt,zi,qa,qo,B0,reduceIte,reduceEqDiff]
    exact hN56 _ _ ⟨(Sep.m3 (Sep.m3 (Sep.m1 (Sep.m1 hS53)))),by rw [orF hg57]; simp only [B0,reduceIte,reduceEqDiff],f21,f22⟩
  rintro fr58 h62 ⟨hS63,f59,f60,f61⟩
  simp only [List.drop_succ_cons,List.drop_zero]
  simp only [qa,f59,zb,B0,reduceIte,reduceEqDiff]
  refine zd (t:=((!v27.2)||(decide (v_0.Epoch=100)))) (fun hc64=>?_) (fun hc64=>?_)
  ·rw [iteT hc64] at hF32
   simp only [qe,qd,qc,qa,q8,B0,reduceIte,reduceEqDiff]
   obtain ⟨c65,hv66,hS67⟩:=SlG.cls0 (c:=c35) (os:=c43) hv38 rfl hx31 jk (Replica.RI (x:=x30) hv44) (Sep.m3 (Sep.m3 hS63))
   have hv68:=SlG.toN hv66
   have he:=ql hF32
   subst he
   simp only [zj,B0,reduceIte,reduceEqDiff]
   exact ⟨pv0_2,pc0_2,c65,by first | trivial | rfl,ph0_2,hv68,(Sep.m2 (Sep.m2 hS67))⟩
  rw [iteF hc64] at hF32
  simp only [zk,qxv,qe,qd,f60,qc,wl,qb,ja,qs,Nat.reduceAdd,Nat.zero_add,Nat.add_zero,qw,qp,B0,reduceIte,
    reduceEqDiff]
  refine qj (v := .int .i64 v_0.Epoch) ((zu (Sep.bk _ _ _ hS63)).trans rfl) ?_
  simp only [q9,qb,qbf,wl,ja,qs,Nat.reduceAdd,Nat.zero_add,Nat.add_zero,qw,zg,B0,reduceIte,reduceEqDiff]
  refine qy (us:=[.int .i64 (IntKind.wrap .i64 (v_0.Epoch+1))]) rfl (cs':=[.int .i64 (IntKind.wrap .i64 (v_0.Epoch+1)),.int .i64 v_0.Leader,pv0_2,
    .int .i64 v_0.High,pv0_4]) hS63 hW rfl rfl (Nat.le_of_ble_eq_true rfl) rfl (fun h69 hS70=>?_)
  simp only [qa,qx2,qe,qd,f60,qc,f61,qs,qb,Nat.reduceAdd,Nat.zero_add,Nat.add_zero,qr,qp,B0,reduceIte,reduceEqDiff]
  refine qj (v := .int .i64 v_1.K) rfl ?_
  simp only [wl,qb,ja,qs,Nat.reduceAdd,Nat.zero_add,Nat.add_zero,qw,zg,B0,reduceIte,reduceEqDiff]
  refine qy (us:=[.int .i64 v_1.K]) rfl (cs':=[.int .i64 (IntKind.wrap .i64 (v_0.Epoch+1)),.int .i64 v_1.K,pv0_2,.int .i64 v_0.High,
    pv0_4]) hS70 hW rfl rfl (Nat.le_of_ble_eq_true rfl) rfl (fun h71 hS72=>?_)
  simp only [qa,q3d,qe,qd,f60,qc,f61,qs,qb,Nat.reduceAdd,Nat.zero_add,Nat.add_zero,qr,qp,B0,reduceIte,reduceEqDiff]
  refine qj (v := .int .i64 v_1.K) rfl ?_
  obtain ⟨c73,hv74,hS75⟩:=SlG.cls0 (c:=c35) (os:=c43) hv38 rfl hx31 jk (Replica.RI (x:=x30) hv44) (Sep.m3 (Sep.m3 hS72))
  have hv76:=SlG.toN hv74
  obtain ⟨v77,hx78,hF79⟩:=qi hF32
  simp only [za,B0,reduceIte,reduceEqDiff]
  refine ku rfl (qbg hW pb0 (Group.mk (IntKind.wrap .i64
    (v_0.Epoch+1)) v_1.K v_0.InStep v_0.High v_0.Replicas) pv0_2 pc0_2 ph0_2 pv0_4 c73 hv76 v_1.K v77 hx78 (Sep.m2 (Sep.m2 hS75))) ?_
  rintro _ h84 ⟨c80,c82,rfl,hv81,hv83,hS85⟩
  simp only [qa,qe,qd,qc,q8,B0,reduceIte,reduceEqDiff]
  have he:=ql hF79
  subst he
  simp only [zj,B0,reduceIte,reduceEqDiff]
  exact ⟨pv0_2,c80,c82,by first | trivial | rfl,hv81,hv83,(Sep.m2 (Sep.m2 (Sep.m2 hS85)))⟩
 rw [iteF hc54] at hF32
 simp only [qsi,qe,qd,q9,qb,yd,qc,qa,qt9,zb,B0,reduceIte,reduceEqDiff]
 refine zd (t:=(decide (v_1.Kind=2))) (fun hc86=>?_) (fun hc86=>?_)
 ·rw [iteT hc86] at hF32
  simp only [q1e,qe,jh,f21,zp,qg,k9,ja,zq,Nat.reduceAdd,Nat.zero_add,Nat.add_zero,qw,zm,B0,reduceIte,reduceEqDiff]
  refine qq (v:=pv0_4) ((zu (Sep.bk _ _ _ (Sep.m2 hS53))).trans rfl) ?_
  simp only [f21,zp,qg,k9,ja,zq,Nat.reduceAdd,Nat.zero_add,Nat.add_zero,qw,zm,B0,reduceIte,reduceEqDiff]
  refine qq (v := .int .i64 v_0.Leader) ((zu (Sep.bk _ _ _ (Sep.m2 hS53))).trans rfl) ?_
  obtain ⟨x87,hx88,hF89⟩:=qi hF32
  simp only [wo,B0,reduceIte,reduceEqDiff]
  refine qq (SlG.ia hv38 hx88) ?_
  simp only [zp,qg,qu,qxe,qe,qd,f22,qs,qb,Nat.reduceAdd,Nat.zero_add,Nat.add_zero,qr,qp,B0,reduceIte,
    reduceEqDiff]
  refine qj (v := .int .i64 v_1.K) rfl ?_
  simp only [q9,qb,qao,qc,B0,reduceIte,reduceEqDiff]
  refine ji 5 (fun fr' h'=>Sep h' lo ([Blk1 pb0 [.int .i64 v_0.Epoch,.int .i64 v_0.Leader,pv0_2,.int .i64 v_0.High,
    pv0_4] 29]++(c35++(pc0_2++(c43++(S0)))))∧fr' 101 = .bool ((decide (v_1.K≠0)) ||
    (!(z7 v_1.N 0 99)))∧fr' 0 = .ptr pb0 0∧fr' 3 = .ref [.int .i64 v_1.Kind,.int .i64 v_1.K,
    .int .i64 v_1.N] 0∧fr' 8 = .ptr b33 (v_0.Leader.toNat*3)) (fun Q90 hN91=>?_) ?_
  ·simp only [List.take_succ_cons,List.take_zero]
   simp only [qf (g:=96),B0,reduceIte,reduceEqDiff]
   refine zf (t:=(decide (v_1.K≠0))) (fun hg92=>?_) (fun hg92=>?_)
   ·simp only [hg92,qf (g:=96),jf,qt,qb,zh,qa,qo,B0,reduceIte,reduceEqDiff]
    exact hN91 _ _ ⟨(Sep.m3 (Sep.m2 (Sep.m3 (Sep.m1 hS53)))),by rw [orT hg92]; simp only [B0,reduceIte,reduceEqDiff],f21,f22,rfl⟩
   ·simp only [hg92,qf (g:=96),qv,f22,qs,qb,Nat.reduceAdd,Nat.zero_add,Nat.add_zero,qr,qp,B0,reduceIte,reduceEqDiff]
    refine qj (v := .int .i64 v_1.N) rfl ?_
    simp only [hg92,qf (g:=96),qv,za,B0,reduceIte,reduceEqDiff]
    refine js rfl (qh qm (qh qm (qh qm qz))) (w8 (fun b hb=>decide_eq_true hb) v_1.N 0 99 _ rfl) ?_
    simp only [hg92,qf (g:=96),qv,ka,qb,kx,qt,zi,qa,qo,B0,reduceIte,reduceEqDiff]
    exact hN91 _ _ ⟨(Sep.m3 (Sep.m2 (Sep.m3 (Sep.m1 hS53)))),by rw [orF hg92]; simp only [B0,reduceIte,reduceEqDiff],f21,f22,rfl⟩
  rintro fr93 h98 ⟨hS99,f94,f95,f96,f97⟩
  simp only [List.drop_succ_cons,List.drop_zero]
  simp only [f94,qc,B0,reduceIte,reduceEqDiff]
  refine ji 7 (fun fr' h'=>Sep h' lo ([Blk1 pb0 [.int .i64 v_0.Epoch,.int .i64 v_0.Leader,pv0_2,.int .i64 v_0.High,
    pv0_4] 29]++(c35++(pc0_2++(c43++(S0)))))∧fr' 109 = .bool (((decide (v_1.K≠0))||(!(z7 v_1.N 0 99)))||(decide
    ((List.length x87.Log:Int)=30)))∧fr' 0 = .ptr pb0 0∧fr' 3 = .ref [.int .i64 v_1.Kind,.int .i64 v_1.K,
    .int .i64 v_1.N] 0∧fr' 8 = .ptr b33 (v_0.Leader.toNat*3)) (fun Q100 hN101=>?_) ?_
  ·simp only [List.take_succ_cons,List.take_zero]
   simp only [qf (g:=102),B0,reduceIte,reduceEqDiff]
   refine zf (t:=((decide (v_1.K≠0))||(!(z7 v_1.N 0 99)))) (fun hg102=>?_) (fun hg102=>?_)
   ·simp only [hg102,qf (g:=102),jf,qt,qb,zh,qa,qo,B0,reduceIte,reduceEqDiff]
    exact hN101 _ _ ⟨(Sep.m3 (Sep.m3 (Sep.m3 (Sep.m3 hS99)))),by rw [orT hg102]; simp only [B0,reduceIte,reduceEqDiff],f95,f96,f97⟩
   ·obtain ⟨c103,hv104,hS105⟩:=SlG.cls0 (c:=c35) (os:=c43) hv38 rfl hx31 jk (Replica.RI (x:=x30) hv44) (Sep.m2 (Sep.m3 hS99))
    have hv106:=SlG.toN hv104
    obtain ⟨c107,cs108,os109,hv110,hR111,hS112⟩:=SlG.opn (SlN.toG hv106 hb34 Replica.RO.len) hx88 jk Replica.RO.len hS105
    obtain ⟨v114,c115,hv116,rfl,rfl⟩:=hR111
    have hS113:=Sep.no1 hS112
    simp only [hg102,qf (g:=102),qv,f97,qc,wl,qb,ja,qs,Nat.reduceAdd,Nat.zero_add,Nat.add_zero,qw,qp,B0,
      reduceIte,reduceEqDiff]
    refine qj (v:=v114) ((SlG.ld (o:=0) hv110 rfl hx88 hS113 (Nat.le_of_ble_eq_true rfl)).trans rfl) ?_
    simp only [hg102,qf (g:=102),qv,jb,qb,SlF.plen hv116,q9,yd,qt,zi,qa,qo,B0,reduceIte,
      reduceEqDiff]
    exact hN101 _ _ ⟨(Sep.m3 (Sep.m3 (Sep.m3 (Sep.m3 hS99)))),by rw [orF hg102]; simp only [B0,reduceIte,reduceEqDiff],f95,f96,f97⟩
  rintro fr118 h123 ⟨hS124,f119,f120,f121,f122⟩
  simp only [List.drop_succ_cons,List.drop_zero]
  simp only [qa,f119,zb,B0,reduceIte,reduceEqDiff]
  refine zd (t:=(((decide (v_1.K≠0))||(!(z7 v_1.N 0 99)))||(decide ((List.length x87.Log:Int)=30)))) (fun hc125=>?_) (fun hc125=>?_)
  ·rw [iteT hc125] at hF89
   simp only [qe,qd,qc,qa,q8,B0,reduceIte,reduceEqDiff]
   obtain ⟨c126,hv127,hS128⟩:=SlG.cls0 (c:=c35) (os:=c43) hv38 rfl hx31 jk (Replica.RI (x:=x30) hv44) (Sep.m2 (Sep.m3 hS124))
   have hv129:=SlG.toN hv127
   have he:=ql hF89
   subst he
   simp only [zj,B0,reduceIte,reduceEqDiff]
   exact ⟨pv0_2,pc0_2,c126,by first | trivial | rfl,ph0_2,hv129,(Sep.m2 (Sep.m2 hS128))⟩
  rw [iteF hc125] at hF89
  obtain ⟨c130,hv131,hS132⟩:=SlG.cls0 (c:=c35) (os:=c43) hv38 rfl hx31 jk (Replica.RI (x:=x30) hv44) (Sep.m2 (Sep.m3 hS124))
  have hv133:=SlG.toN hv131
  obtain ⟨c134,cs135,os136,hv137,hR138,hS139⟩:=SlG.opn (SlN.toG hv133 hb34 Replica.RO.len) hx88 jk Replica.RO.len hS132
  obtain ⟨v141,c142,hv143,rfl,rfl⟩:=hR138
  have hS140:=Sep.no1 hS139
  simp only [zk,qzd,qe,jh,f122,qj9,qg,zp,k9,ja,zq,Nat.reduceAdd,Nat.zero_add,Nat.add_zero,qw,zm,B0,
    reduceIte,reduceEqDiff]
  refine qq (v:=v141) ((SlG.ld (o:=0) hv137 rfl hx88 hS140 (Nat.le_of_ble_eq_true rfl)).trans rfl) ?_
  simp only [f120,zp,qg,k9,ja,zq,Nat.reduceAdd,Nat.zero_add,Nat.add_zero,qw,zm,B0,reduceIte,reduceEqDiff]
  refine qq (v := .int .i64 v_0.Epoch) ((zu (Sep.bk _ _ _ (Sep.m2 hS140))).trans rfl) ?_
  simp only [f121,zq,qg,Nat.reduceAdd,Nat.zero_add,Nat.add_zero,qr,zm,B0,reduceIte,reduceEqDiff]
  refine qq (v := .int .i64 v_1.N) rfl ?_
  simp only [qi9,evp,B0,reduceIte,reduceEqDiff]
  refine qq (v := .agg [.int .i64 v_0.Epoch,.int .i64 v_1.N]) rfl ?_
  simp only [qcw,evp,B0,reduceIte,reduceEqDiff]
  refine ux (n:=2) (f:=Row.cells) [(Row.mk v_0.Epoch v_1.N)] hS140 rfl rfl (fun v145 c146 h147 hv148 hS149=>?_)
  simp only [qg7,B0,reduceIte,reduceEqDiff]
  obtain ⟨l151,hx152,hF153⟩:=qi hF89
  refine qbt (f:=Row.cells) hv143 (Sep.m2 hS149) hW (fun _=>rfl) (fun _=>rfl) (SlF.first hv148 hS149 (fun _=>rfl)) hx152 (fun v154 c155 h156 hv157 hS158=>?_)
  simp only [k9,qg,ja,zq,Nat.reduceAdd,Nat.zero_add,Nat.add_zero,qw,qdj,B0,reduceIte,reduceEqDiff]
  refine qfj (n:=3) (us:=[v154]) (cs:=[v141,.int .i64 x87.Epoch,.int .i64 x87.Known]) (o:=0) (cs':=[v154,.int .i64 x87.Epoch,
    .int .i64 x87.Known]) (k5 (SlF.one hv157)) hv137 rfl hx88 (Sep.m2 hS158) hW rfl (qk (SlF.one hv157) zn) (Nat.le_of_ble_eq_true rfl) rfl
    (fun c162 h160 hv163 hS161=>?_)
  simp only [qu,q2j,qe,qd,f120,qc,wl,qb,ja,qs,Nat.reduceAdd,Nat.zero_add,Nat.add_zero,qw,qp,B0,
    reduceIte,reduceEqDiff]
  refine qj (v := .int .i64 v_0.Leader) ((zu (Sep.bk _ _ _ (Sep.m3 hS161))).trans rfl) ?_
  obtain ⟨c164,hv165,hS166⟩:=SlG.cls (e':=(Replica.mk l151 x87.Epoch x87.Known)) (c:=c162) (os:=c155) hv163 rfl hx88 jk (Replica.RI (x :=
    (Replica.mk l151 x87.Epoch x87.Known)) hv157) (Sep.m1 (Sep.m1 hS161))
  have hx167:=qcm (x':=(Replica.mk l151 x87.Epoch x87.Known)) hx88
  have hv168:=SlG.toN hv165
  obtain ⟨v169,hx170,hF171⟩:=qi hF153
  simp only [za,B0,reduceIte,reduceEqDiff]
  refine ku rfl (qbg hW pb0 (Group.mk v_0.Epoch v_0.Leader v_0.InStep v_0.High (List.set v_0.Replicas v_0.Leader.toNat
    (Replica.mk l151 x87.Epoch x87.Known))) pv0_2 pc0_2 ph0_2 pv0_4 c164 hv168 v_0.Leader v169 hx170 (Sep.m3 (Sep.m3 hS166))) ?_
  rintro _ h176 ⟨c172,c174,rfl,hv173,hv175,hS177⟩
  simp only [qa,qe,qd,qc,q8,B0,reduceIte,reduceEqDiff]
  have he:=ql hF171
  subst he
  simp only [zj,B0,reduceIte,reduceEqDiff]
  exact ⟨pv0_2,c172,c174,by first | trivial | rfl,hv173,hv175,(Sep.m2 (Sep.m2 (Sep.m2 (Sep.dc (Sep.m3 hS177)))))⟩
 rw [iteF hc86] at hF32
 simp only [qsx,qe,qd,q9,qb,yd,qc,qa,qs7,zb,B0,reduceIte,reduceEqDiff]
 refine zd (t:=(decide (v_1.Kind=3))) (fun hc178=>?_) (fun hc178=>?_)
 ·rw [iteT hc178] at hF32
  simp only [qr3,qe,jh,f22,zq,qg,Nat.reduceAdd,Nat.zero_add,Nat.add_zero,qr,zm,B0,reduceIte,reduceEqDiff]
  refine qq (v := .int .i64 v_1.K) rfl ?_
  simp only [f21,zp,qg,k9,ja,zq,Nat.reduceAdd,Nat.zero_add,Nat.add_zero,qw,zm,B0,reduceIte,reduceEqDiff]
  refine qq (v := .int .i64 v_0.Leader) ((zu (Sep.bk _ _ _ (Sep.m2 hS53))).trans rfl) ?_
  simp only [kh,qg,yd,zp,B0,reduceIte,reduceEqDiff]
  simp only [qn (g:=141),B0,reduceIte,reduceEqDiff]
  refine jg (t:=(decide (v_1.K=v_0.Leader))) (fun hg179=>?_) (fun hg179=>?_)
  ·rw [iteT hg179] at hF32
   simp only [hg179,qn (g:=141),wt,z8,qg,zh,qu,zb,qco,qe,qd,qc,qa,q8,B0,
     reduceIte,reduceEqDiff]
   obtain ⟨c180,hv181,hS182⟩:=SlG.cls0 (c:=c35) (os:=c43) hv38 rfl hx31 jk (Replica.RI (x:=x30) hv44) (Sep.m1 (Sep.m1 hS53))
   have hv183:=SlG.toN hv181
   have he:=ql hF32
   subst he
   simp only [zj,B0,reduceIte,reduceEqDiff]
   exact ⟨pv0_2,pc0_2,c180,by first | trivial | rfl,ph0_2,hv183,(Sep.m2 (Sep.m2 hS182))⟩
  rw [iteF hg179] at hF32
  simp only [hg179,qn (g:=141),zr,f22,zq,qg,Nat.reduceAdd,Nat.zero_add,Nat.add_zero,qr,zm,B0,reduceIte,reduceEqDiff]
  refine qq (v := .int .i64 v_1.N) rfl ?_
  simp only [hg179,qn (g:=141),zr,k8,B0,reduceIte,reduceEqDiff]
  refine qbm rfl (qh qm (qh qm (qh qm qz))) (w8 (fun b hb=>decide_eq_true hb) v_1.N 0 30 _ rfl) ?_
  simp only [hg179,qn (g:=141),zr,qer,qg,kx,z8,zi,qu,zb,B0,reduceIte,reduceEqDiff]
  refine zd (t:=(!(z7 v_1.N 0 30))) (fun hc184=>?_) (fun hc184=>?_)
  ·rw [iteT hc184] at hF32
   simp only [qe,qd,qc,qa,q8,B0,reduceIte,reduceEqDiff]
   obtain ⟨c185,hv186,hS187⟩:=SlG.cls0 (c:=c35) (os:=c43) hv38 rfl hx31 jk (Replica.RI (x:=x30) hv44) (Sep.m1 (Sep.m1 hS53))
   have hv188:=SlG.toN hv186
   have he:=ql hF32
   subst he
   simp only [zj,B0,reduceIte,reduceEqDiff]
   exact ⟨pv0_2,pc0_2,c185,by first | trivial | rfl,ph0_2,hv188,(Sep.m2 (Sep.m2 hS187))⟩
  rw [iteF hc184] at hF32
  simp only [zk,qz4,qe,qd,f21,qc,f22,qs,qb,Nat.reduceAdd,Nat.zero_add,Nat.add_zero,qr,qp,B0,reduceIte,reduceEqDiff]
  refine qj (v := .int .i64 v_1.K) rfl ?_
  simp only [f22,qs,qb,Nat.reduceAdd,Nat.zero_add,Nat.add_zero,qr,qp,B0,reduceIte,reduceEqDiff]
  refine qj (v := .int .i64 v_1.N) rfl ?_
  obtain ⟨c189,hv190,hS191⟩:=SlG.cls0 (c:=c35) (os:=c43) hv38 rfl hx31 jk (Replica.RI (x:=x30) hv44) (Sep.m1 (Sep.m1 hS53))
  have hv192:=SlG.toN hv190
  obtain ⟨v193,hx194,hF195⟩:=qi hF32
  simp only [za,B0,reduceIte,reduceEqDiff]
  refine ku rfl (qe2 hW k pb0 v_0 pv0_2 pc0_2 ph0_2 pv0_4 c189 hv192 v_1.K v_1.N v193 hx194 (Sep.m2 (Sep.m2 hS191))) ?_
  rintro _ h200 ⟨c196,c198,rfl,hv197,hv199,hS201⟩
  simp only [qa,qe,qd,qc,q8,B0,reduceIte,reduceEqDiff]
  have he:=ql hF195
  subst he
  simp only [zj,B0,reduceIte,reduceEqDiff]
  exact ⟨pv0_2,c196,c198,by first | trivial | rfl,hv197,hv199,(Sep.m2 (Sep.m2 (Sep.m2 hS201)))⟩
 rw [iteF hc178] at hF32
 simp only [qr7,qe,qd,q9,qb,yd,qc,qa,qrc,zb,B0,reduceIte,reduceEqDiff]
 refine zd (t:=(decide (v_1.Kind=4))) (fun hc202=>?_) (fun hc202=>?_)
 ·rw [iteT hc202] at hF32
  simp only [qrw,qe,jh,zp,qg,qer,kx,B0,reduceIte,reduceEqDiff]
  refine qak 8 (fun fr' h'=>Sep h' lo ([Blk1 pb0 [.int .i64 v_0.Epoch,.int .i64 v_0.Leader,pv0_2,.int .i64 v_0.High,
    pv0_4] 29]++(pc0_2++(c35++(c43++(S0)))))∧fr' 165 = .bool ((!v27.2)||(decide (v_1.K=v_0.Leader)))∧fr' 0 = .ptr pb0 0∧fr' 5 = .int .i64 v27.1) rfl
    (fun Q203 hN204=>?_) ?_
  ·simp only [List.take_succ_cons,List.take_zero]
   simp only [qn (g:=157),B0,reduceIte,reduceEqDiff]
   refine jg (t:=(!v27.2)) (fun hg205=>?_) (fun hg205=>?_)
   ·simp only [hg205,qn (g:=157),wt,z8,qg,zh,qu,qo,B0,reduceIte,reduceEqDiff]
    exact hN204 _ _ ⟨(Sep.m3 (Sep.m3 (Sep.m1 (Sep.m1 hS53)))),by rw [orT hg205]; simp only [B0,reduceIte,reduceEqDiff],f21,rfl⟩
   ·simp only [hg205,qn (g:=157),zr,f22,zq,qg,Nat.reduceAdd,Nat.zero_add,Nat.add_zero,qr,zm,B0,reduceIte,reduceEqDiff]
    refine qq (v := .int .i64 v_1.K) rfl ?_
    simp only [hg205,qn (g:=157),zr,f21,zp,qg,k9,ja,zq,Nat.reduceAdd,Nat.zero_add,Nat.add_zero,qw,zm,B0,
      reduceIte,reduceEqDiff]
    refine qq (v := .int .i64 v_0.Leader) ((zu (Sep.bk _ _ _ (Sep.m2 hS53))).trans rfl) ?_
    simp only [hg205,qn (g:=157),zr,kh,qg,yd,z8,zi,qu,qo,B0,reduceIte,reduceEqDiff]
    exact hN204 _ _ ⟨(Sep.m3 (Sep.m3 (Sep.m1 (Sep.m1 hS53)))),by rw [orF hg205]; simp only [B0,reduceIte,reduceEqDiff],f21,rfl⟩
  rintro fr206 h210 ⟨hS211,f207,f208,f209⟩
  simp only [List.drop_succ_cons,List.drop_zero]
  simp only [qu,f207,zb,B0,reduceIte,reduceEqDiff]
  refine zd (t:=((!v27.2)||(decide (v_1.K=v_0.Leader)))) (fun hc212=>?_) (fun hc212=>?_)
  ·rw [iteT hc212] at hF32
   simp only [qe,qd,qc,qa,q8,B0,reduceIte,reduceEqDiff]
   obtain ⟨c213,hv214,hS215⟩:=SlG.cls0 (c:=c35) (os:=c43) hv38 rfl hx31 jk (Replica.RI (x:=x30) hv44) (Sep.m3 (Sep.m3 hS211))
   have hv216:=SlG.toN hv214
   have he:=ql hF32
   subst he
   simp only [zj,B0,reduceIte,reduceEqDiff]
   exact ⟨pv0_2,pc0_2,c213,by first | trivial | rfl,ph0_2,hv216,(Sep.m2 (Sep.m2 hS215))⟩
  rw [iteF hc212] at hF32
  simp only [zk,qqh,qe,qd,f208,qc,wl,qb,ja,qs,Nat.reduceAdd,Nat.zero_add,Nat.add_zero,qw,qp,B0,reduceIte,
    reduceEqDiff]
  refine qj (v:=pv0_2) ((zu (Sep.bk _ _ _ hS211)).trans rfl) ?_
  obtain ⟨v217,hx218,hF219⟩:=qi hF32
  simp only [f209,qc,q9,qb,qbf,za,B0,reduceIte,reduceEqDiff]
  refine ku rfl (qhx hW pv0_2 pc0_2 v_0.InStep ph0_2 v27.1 (IntKind.wrap .i64 (v27.1+1)) v217 hx218 (Sep.m1 hS211)) ?_
  rintro v220 h224 ⟨_,c221,rfl,hv222,hS225⟩
  simp only [wl,qb,ja,qs,Nat.reduceAdd,Nat.zero_add,Nat.add_zero,qw,zg,B0,reduceIte,reduceEqDiff]
  refine qy (us:=[v220]) (k5 (SlF.one hv222)) (cs':=[.int .i64 v_0.Epoch,.int .i64 v_0.Leader,v220,.int .i64 v_0.High,
    pv0_4]) (Sep.m1 hS225) hW rfl (qk (SlF.one hv222) zn) (Nat.le_of_ble_eq_true rfl) rfl (fun h226 hS227=>?_)
  simp only [qa,qe,qd,qc,q8,B0,reduceIte,reduceEqDiff]
  obtain ⟨c228,hv229,hS230⟩:=SlG.cls0 (c:=c35) (os:=c43) hv38 rfl hx31 jk (Replica.RI (x:=x30) hv44) (Sep.m3 (Sep.m3 hS227))
  have hv231:=SlG.toN hv229
  have he:=ql hF219
  subst he
  simp only [zj,B0,reduceIte,reduceEqDiff]
  exact ⟨v220,c221,c228,by first | trivial | rfl,hv222,hv231,(Sep.m2 (Sep.m2 hS230))⟩
 rw [iteF hc202] at hF32
 simp only [qtu,qe,qd,q9,qb,yd,qc,qa,qs3,zb,B0,reduceIte,reduceEqDiff]
 refine zd (t:=(decide (v_1.Kind=5))) (fun hc232=>?_) (fun hc232=>?_)
 ·rw [iteT hc232] at hF32
  simp only [qqi,qe,jh,zp,qg,B0,reduceIte,reduceEqDiff]
  refine qak 8 (fun fr' h'=>Sep h' lo ([Blk1 pb0 [.int .i64 v_0.Epoch,.int .i64 v_0.Leader,pv0_2,.int .i64 v_0.High,
    pv0_4] 29]++(c43++(pc0_2++(c35++(S0)))))∧fr' 188 = .bool (v27.2||(decide (x30.Epoch≠v_0.Epoch)))∧fr' 0 = .ptr pb0 0∧fr' 3 = .ref [.int .i64 v_1.Kind,
    .int .i64 v_1.K,.int .i64 v_1.N] 0∧fr' 5 = .int .i64 v27.1∧fr' 7 = .ref [v42,.int .i64 x30.Epoch,.int .i64 x30.Known] 0) rfl (fun Q233 hN234=>?_) ?_
  ·simp only [List.take_succ_cons,List.take_zero]
   simp only [qn (g:=180),B0,reduceIte,reduceEqDiff]
   refine jg (t:=v27.2) (fun hg235=>?_) (fun hg235=>?_)
   ·simp only [hg235,qn (g:=180),wt,z8,qg,zh,qu,qo,B0,reduceIte,reduceEqDiff]
    exact hN234 _ _ ⟨(Sep.m3 (Sep.m2 (Sep.m3 hS53))),by rw [orT hg235]; simp only [B0,reduceIte,reduceEqDiff],f21,f22,rfl,rfl⟩
   ·simp only [hg235,qn (g:=180),zr,zq,qg,Nat.reduceAdd,Nat.zero_add,Nat.add_zero,qr,zm,B0,reduceIte,reduceEqDiff]
    refine qq (v := .int .i64 x30.Epoch) rfl ?_
    simp only [hg235,qn (g:=180),zr,f21,zp,qg,k9,ja,zq,Nat.reduceAdd,Nat.zero_add,Nat.add_zero,qw,zm,B0,
      reduceIte,reduceEqDiff]
    refine qq (v := .int .i64 v_0.Epoch) ((zu (Sep.bk _ _ _ (Sep.m2 hS53))).trans rfl) ?_
    simp only [hg235,qn (g:=180),zr,kh,qg,qao,z8,zi,qu,qo,B0,reduceIte,reduceEqDiff]
    exact hN234 _ _ ⟨(Sep.m3 (Sep.m2 (Sep.m3 hS53))),by rw [orF hg235]; simp only [B0,reduceIte,reduceEqDiff],f21,f22,rfl,rfl⟩
  rintro fr236 h242 ⟨hS243,f237,f238,f239,f240,f241⟩
  simp only [List.drop_succ_cons,List.drop_zero]
  simp only [f237,zp,qg,B0,reduceIte,reduceEqDiff]
  refine qak 8 (fun fr' h'=>Sep h' lo ([Blk1 pb0 [.int .i64 v_0.Epoch,.int .i64 v_0.Leader,pv0_2,.int .i64 v_0.High,
    pv0_4] 29]++(pc0_2++(c35++(c43++(S0)))))∧fr' 197 = .bool ((v27.2||(decide (x30.Epoch≠v_0.Epoch)))||(decide
    (x30.Known<v_0.High)))∧fr' 0 = .ptr pb0 0∧fr' 3 = .ref [.int .i64 v_1.Kind,.int .i64 v_1.K,
    .int .i64 v_1.N] 0∧fr' 5 = .int .i64 v27.1) rfl (fun Q244 hN245=>?_) ?_
  ·simp only [List.take_succ_cons,List.take_zero]
   simp only [qn (g:=189),B0,reduceIte,reduceEqDiff]
   refine jg (t:=(v27.2||(decide (x30.Epoch≠v_0.Epoch)))) (fun hg246=>?_) (fun hg246=>?_)
   ·simp only [hg246,qn (g:=189),wt,z8,qg,zh,qu,qo,B0,reduceIte,reduceEqDiff]
    exact hN245 _ _ ⟨(Sep.m3 (Sep.m3 (Sep.m3 (Sep.m1 hS243)))),by rw [orT hg246]; simp only [B0,reduceIte,reduceEqDiff],f238,f239,f240⟩
   ·simp only [hg246,qn (g:=189),zr,f241,zq,qg,Nat.reduceAdd,Nat.zero_add,Nat.add_zero,qr,zm,B0,reduceIte,reduceEqDiff]
    refine qq (v := .int .i64 x30.Known) rfl ?_
    simp only [hg246,qn (g:=189),zr,f238,zp,qg,k9,ja,zq,Nat.reduceAdd,Nat.zero_add,Nat.add_zero,qw,zm,B0,
      reduceIte,reduceEqDiff]
    refine qq (v := .int .i64 v_0.High) ((zu (Sep.bk _ _ _ hS243)).trans rfl) ?_
    simp only [hg246,qn (g:=189),zr,kh,qg,u0,z8,zi,qu,qo,B0,reduceIte,reduceEqDiff]
    exact hN245 _ _ ⟨(Sep.m3 (Sep.m3 (Sep.m3 (Sep.m1 hS243)))),by rw [orF hg246]; simp only [B0,reduceIte,reduceEqDiff],f238,f239,f240⟩
  rintro fr247 h252 ⟨hS253,f248,f249,f250,f251⟩
  simp only [List.drop_succ_cons,List.drop_zero]
  simp only [qu,f248,zb,B0,reduceIte,reduceEqDiff]
  refine zd (t:=((v27.2||(decide (x30.Epoch≠v_0.Epoch)))||(decide (x30.Known<v_0.High)))) (fun hc254=>?_) (fun hc254=>?_)
  ·rw [iteT hc254] at hF32
   simp only [qe,qd,qc,qa,q8,B0,reduceIte,reduceEqDiff]
   obtain ⟨c255,hv256,hS257⟩:=SlG.cls0 (c:=c35) (os:=c43) hv38 rfl hx31 jk (Replica.RI (x:=x30) hv44) (Sep.m3 (Sep.m3 hS253))
   have hv258:=SlG.toN hv256
   have he:=ql hF32
   subst he
   simp only [zj,B0,reduceIte,reduceEqDiff]
   exact ⟨pv0_2,pc0_2,c255,by first | trivial | rfl,ph0_2,hv258,(Sep.m2 (Sep.m2 hS257))⟩
  rw [iteF hc254] at hF32
  simp only [zk,qtf,qe,jh,f249,qj9,qg,zp,k9,ja,zq,Nat.reduceAdd,Nat.zero_add,Nat.add_zero,qw,zm,B0,
    reduceIte,reduceEqDiff]
  refine qq (v:=pv0_2) ((zu (Sep.bk _ _ _ hS253)).trans rfl) ?_
  simp only [f251,zp,qg,f250,zq,Nat.reduceAdd,Nat.zero_add,Nat.add_zero,qr,zm,B0,reduceIte,reduceEqDiff]
  refine qq (v := .int .i64 v_1.K) rfl ?_
  simp only [qcw,evp,B0,reduceIte,reduceEqDiff]
  refine ux (n:=1) (f:=cI) [v_1.K] hS253 rfl rfl (fun v259 c260 h261 hv262 hS263=>?_)
  obtain ⟨v265,hx266,hF267⟩:=qi hF32
  simp only [k8,B0,reduceIte,reduceEqDiff]
  refine qm7 rfl (qhy hW pv0_2 pc0_2 v_0.InStep ph0_2 v27.1 v259 c260 [v_1.K] hv262 v265 hx266 (Sep.m2 hS263)) ?_
  rintro v268 h274 ⟨_,c269,c272,rfl,hv270,hv273,hS275⟩
  simp only [k9,qg,ja,zq,Nat.reduceAdd,Nat.zero_add,Nat.add_zero,qw,qdj,B0,reduceIte,reduceEqDiff]
  refine xk (us:=[v268]) (k5 (SlF.one hv270)) (cs':=[.int .i64 v_0.Epoch,.int .i64 v_0.Leader,v268,.int .i64 v_0.High,
    pv0_4]) (Sep.m2 hS275) hW rfl (qk (SlF.one hv270) zn) (Nat.le_of_ble_eq_true rfl) rfl (fun h276 hS277=>?_)
  simp only [qu,qe,qd,qc,qa,q8,B0,reduceIte,reduceEqDiff]
  obtain ⟨c278,hv279,hS280⟩:=SlG.cls0 (c:=c35) (os:=c43) hv38 rfl hx31 jk (Replica.RI (x:=x30) hv44) (Sep.m4 (Sep.m4 hS277))
  have hv281:=SlG.toN hv279
  have he:=ql hF267
  subst he
  simp only [zj,B0,reduceIte,reduceEqDiff]
  exact ⟨v268,c269,c278,by first | trivial | rfl,hv270,hv281,(Sep.m2 (Sep.m2 (Sep.dc (Sep.m3 hS280))))⟩
 rw [iteF hc232] at hF32
 simp only [qt6,qe,qd,q9,qb,yd,qc,qa,qtw,zb,B0,reduceIte,reduceEqDiff]
 refine zd (t:=(decide (v_1.Kind=6))) (fun hc282=>?_) (fun hc282=>?_)
 ·rw [iteT hc282] at hF32
  simp only [qr0,qe,qd,qc,qa,qp6,f21,wl,qb,ja,qs,Nat.reduceAdd,Nat.zero_add,Nat.add_zero,qw,qp,B0,
    reduceIte,reduceEqDiff]
  refine qj (v:=pv0_2) ((zu (Sep.bk _ _ _ (Sep.m2 hS53))).trans rfl) ?_
  simp only [jb,qb,SlF.plen ph0_2,qc,qa,B0,reduceIte,reduceEqDiff]
  obtain ⟨c283,hv284,hS285⟩:=SlG.cls0 (c:=c35) (os:=c43) hv38 rfl hx31 jk (Replica.RI (x:=x30) hv44) (Sep.m1 (Sep.m1 hS53))
  have hv286:=SlG.toN hv284
  obtain ⟨oc297,hX299,hk300⟩:=kq hF32
  simp only [qrn]
  refine qei (σ:=Int × (List Replica)) (fun i295 s351=>wg v_0 i295 s351.1 s351.2) (fun s fr' h'=>∃ c293,
    fr' 0 = .ptr pb0 0∧fr' 3 = .ref [.int .i64 v_1.Kind,.int .i64 v_1.K,
    .int .i64 v_1.N] 0∧fr' 9 = .int .i64 s.1∧fr' 215=pv0_2∧SlN Replica.R 3 51 pv0_4 s.2 c293∧Sep h' lo ([Blk1 pb0 [.int .i64 v_0.Epoch,.int .i64 v_0.Leader,pv0_2,
    .int .i64 v_0.High,pv0_4] 29]++(pc0_2++(c293++(S0))))) hX299 ⟨c283,f21,f22,rfl,rfl,hv286,(Sep.m2 (Sep.m2 hS285))⟩ (by simp only [B0,reduceIte,
    reduceEqDiff]) (by simp only [B0,reduceIte,reduceEqDiff]) (fun _ _ _ h=>h) rfl rfl (fun _ _ _ _ h=>h) (fun _ _ _ _ h=>h) (fun _ _ _ _ h=>h) (by decide) ?_ ?_
  ·rintro i295 ⟨s291,s292⟩ fr309 h310 hx316 ⟨c293,f312,f313,f314,f315,hv294,hS311⟩ f317 f318 oc298 hF301 hr302 Q303 hN304 hB308 hK305 hR306 hE307
   dsimp only at *
   unfold wg at hF301
   obtain ⟨x319,hx320,hF321⟩:=qi hF301
   simp only [qt5,qe,qd,f315,f317,j0,B0,reduceIte,reduceEqDiff]
   obtain ⟨b322,hb323⟩:=SlF.isrow ph0_2 (ur hx320)
   refine qj (SlF.ia ph0_2 hb323 hx320) ?_
   simp only [qp,B0,reduceIte,reduceEqDiff]
   refine qj (v := .int .i64 x319) ((SlF.ld (o:=0) ph0_2 (Sep.m1 hS311) hb323 hx320 (fun _=>rfl) (Nat.le_of_ble_eq_true rfl)).trans rfl) ?_
   simp only [qc,qa,qth,qe,jh,f312,zp,qg,k9,ja,zq,Nat.reduceAdd,Nat.zero_add,Nat.add_zero,qw,zm,B0,
     reduceIte,reduceEqDiff]
   refine qq (v:=pv0_4) ((zu (Sep.bk _ _ _ hS311)).trans rfl) ?_
   obtain ⟨x324,hx325,hF326⟩:=qi hF321
   simp only [zp,qg,wo,B0,reduceIte,reduceEqDiff]
   refine qq (SlN.ia hv294 hb34 hx325) ?_
   obtain ⟨c327,cs328,os329,hv330,hR331,hS332⟩:=SlG.opn (SlN.toG hv294 hb34 Replica.RO.len) hx325 jk Replica.RO.len (Sep.m2 hS311)
   obtain ⟨v334,c335,hv336,rfl,rfl⟩:=hR331
   have hS333:=Sep.no1 hS332
   simp only [zq,qg,Nat.reduceAdd,Nat.zero_add,Nat.add_zero,qw,zm,B0,reduceIte,reduceEqDiff]
   refine qq (v := .int .i64 x324.Epoch) ((SlG.ld (o:=1) hv330 rfl hx325 hS333 (Nat.le_of_ble_eq_true rfl)).trans rfl) ?_
   simp only [f312,zp,qg,k9,ja,zq,Nat.reduceAdd,Nat.zero_add,Nat.add_zero,qw,zm,B0,reduceIte,reduceEqDiff]
   refine qq (v := .int .i64 v_0.Epoch) ((zu (Sep.bk _ _ _ (Sep.m2 hS333))).trans rfl) ?_
   simp only [kh,qg,qao,qu,zb,B0,reduceIte,reduceEqDiff]
   refine zd (t:=(decide (x324.Epoch≠v_0.Epoch))) (fun hc338=>?_) (fun hc338=>?_)
   ·rw [iteT hc338] at hF326
    simp only [qe,qd,qc,qa,q8,B0,reduceIte,reduceEqDiff]
    have e339:=ql hF326
    subst e339
    have ho340:=hr302 _ rfl
    have hk341:=hk300
    rw [ho340] at hk341
    dsimp only [jnO] at hk341
    apply hR306
    obtain ⟨c342,hv343,hS344⟩:=SlG.cls0 (c:=c327) (os:=c335) hv330 rfl hx325 jk (Replica.RI (x:=x324) hv336) (Sep.m1 (Sep.m1 hS333))
    have hv345:=SlG.toN hv343
    have he:=ql hk341
    subst he
    simp only [zj,B0,reduceIte,reduceEqDiff]
    exact ⟨pv0_2,pc0_2,c342,by first | trivial | rfl,ph0_2,hv345,(Sep.m2 (Sep.m2 hS344))⟩
   rw [iteF hc338] at hF326
   simp only [zk,qqn,qd,f314,qc,f312,wl,qb,ja,qs,Nat.reduceAdd,Nat.zero_add,Nat.add_zero,qw,qp,B0,reduceIte,
     reduceEqDiff]
   refine qj (v:=pv0_4) ((zu (Sep.bk _ _ _ (Sep.m2 hS333))).trans rfl) ?_
   simp only [qc,j0,B0,reduceIte,reduceEqDiff]
   refine qj (SlG.ia hv330 hx325) ?_
   simp only [qs,qb,Nat.reduceAdd,Nat.zero_add,Nat.add_zero,qw,qp,B0,reduceIte,reduceEqDiff]
   refine qj (v := .int .i64 x324.Known) ((SlG.ld (o:=2) hv330 rfl hx325 hS333 (Nat.le_of_ble_eq_true rfl)).trans rfl) ?_
   simp only [q4g,qb,qo9,qc,qa,qo,B0,reduceIte,reduceEqDiff]
   obtain ⟨c346,hv347,hS348⟩:=SlG.cls0 (c:=c327) (os:=c335) hv330 rfl hx325 jk (Replica.RI (x:=x324) hv336) (Sep.m1 (Sep.m1 hS333))
   have hv349:=SlG.toN hv347
   have e350:=ql hF326
   exact hN304 _ _ _ e350.symm ⟨c346,f312,f313,rfl,f315,hv349,(Sep.m2 (Sep.m2 hS348))⟩ (f317) (f318)
  rintro ⟨s352,s353⟩ fr356 h357 rfl ⟨c354,f359,f360,f361,f362,hv355,hS358⟩
  dsimp only [jnO] at hk300
  dsimp only at *
  unfold qcu at hk300
  simp only [qsc,qe,qd,f360,qs,qb,Nat.reduceAdd,Nat.zero_add,Nat.add_zero,qr,qp,B0,reduceIte,reduceEqDiff]
  refine qj (v := .int .i64 v_1.K) rfl ?_
  simp only [q9,qb,qao,qc,B0,reduceIte,reduceEqDiff]
  refine ji 7 (fun fr' h'=>Sep h' lo ([Blk1 pb0 [.int .i64 v_0.Epoch,.int .i64 v_0.Leader,pv0_2,.int .i64 v_0.High,
    pv0_4] 29]++(pc0_2++(c354++(S0))))∧fr' 255 = .bool ((decide (v_1.K≠0))||(decide (s352≤v_0.High)))∧fr' 0 = .ptr pb0 0∧fr' 9 = .int .i64 s352)
    (fun Q363 hN364=>?_) ?_
  ·simp only [List.take_succ_cons,List.take_zero]
   simp only [qf (g:=248),B0,reduceIte,reduceEqDiff]
   refine zf (t:=(decide (v_1.K≠0))) (fun hg365=>?_) (fun hg365=>?_)
   ·simp only [hg365,qf (g:=248),jf,qt,qb,zh,qa,qo,B0,reduceIte,reduceEqDiff]
    exact hN364 _ _ ⟨(Sep.m2 (Sep.m2 (Sep.m2 hS358))),by rw [orT hg365]; simp only [B0,reduceIte,reduceEqDiff],f359,f361⟩
   ·simp only [hg365,qf (g:=248),qv,f361,qc,f359,wl,qb,ja,qs,Nat.reduceAdd,Nat.zero_add,Nat.add_zero,qw,qp,
     B0,reduceIte,reduceEqDiff]
    refine qj (v := .int .i64 v_0.High) ((zu (Sep.bk _ _ _ hS358)).trans rfl) ?_
    simp only [hg365,qf (g:=248),qv,q9,qb,qi8,qt,zi,qa,qo,B0,reduceIte,reduceEqDiff]
    exact hN364 _ _ ⟨(Sep.m2 (Sep.m2 (Sep.m2 hS358))),by rw [orF hg365]; simp only [B0,reduceIte,reduceEqDiff],f359,f361⟩
  rintro fr366 h370 ⟨hS371,f367,f368,f369⟩
  simp only [List.drop_succ_cons,List.drop_zero]
  simp only [qa,f367,zb,B0,reduceIte,reduceEqDiff]
  refine zd (t:=((decide (v_1.K≠0))||(decide (s352≤v_0.High)))) (fun hc372=>?_) (fun hc372=>?_)
  ·rw [iteT hc372] at hk300
   simp only [qe,qd,qc,qa,q8,B0,reduceIte,reduceEqDiff]
   have he:=ql hk300
   subst he
   simp only [zj,B0,reduceIte,reduceEqDiff]
   exact ⟨pv0_2,pc0_2,c354,by first | trivial | rfl,ph0_2,hv355,(Sep.m2 (Sep.m2 (Sep.m2 hS371)))⟩
  rw [iteF hc372] at hk300
  simp only [zk,qr1,qe,qd,f368,qc,f369,wl,qb,ja,qs,Nat.reduceAdd,Nat.zero_add,Nat.add_zero,qw,zg,B0,
    reduceIte,reduceEqDiff]
  refine qy (us:=[.int .i64 s352]) rfl (cs':=[.int .i64 v_0.Epoch,.int .i64 v_0.Leader,pv0_2,.int .i64 s352,
    pv0_4]) hS371 hW rfl rfl (Nat.le_of_ble_eq_true rfl) rfl (fun h373 hS374=>?_)
  simp only [qa,qe,qd,qc,q8,B0,reduceIte,reduceEqDiff]
  have he:=ql hk300
  subst he
  simp only [zj,B0,reduceIte,reduceEqDiff]
  exact ⟨pv0_2,pc0_2,c354,by first | trivial | rfl,ph0_2,hv355,(Sep.m2 (Sep.m2 (Sep.m2 hS374)))⟩
 rw [iteF hc282] at hF32
 simp only [zk,wb,qe,qd,qc,qa,q8,B0,reduceIte,reduceEqDiff]
 obtain ⟨c376,hv377,hS378⟩:=SlG.cls0 (c:=c35) (os:=c43) hv38 rfl hx31 jk (Replica.RI (x:=x30) hv44) (Sep.m1 (Sep.m1 hS53))
 have hv379:=SlG.toN hv377
 have he:=ql hF32
 subst he
 simp only [zj,B0,reduceIte,reduceEqDiff]
 exact ⟨pv0_2,pc0_2,c376,by first | trivial | rfl,ph0_2,hv379,(Sep.m2 (Sep.m2 hS378))⟩
theorem qjh {W:Nat→Bool}{h:Heap} (hW:∀ b,
  (geL h.length) b→W b=true) (k:Nat) (g_0:Group) (x_1:IsrStep) (r:Group × Bool) (hF:qbi k g_0 x_1=some r) : Ret E W 33 [.agg [.int .i64 g_0.Epoch,
  .int .i64 g_0.Leader,lst cI g_0.InStep,.int .i64 g_0.High,lst Replica.cells g_0.Replicas],.agg [.int .i64 x_1.Kind,.int .i64 x_1.K,
  .int .i64 x_1.N]] h (fun v h'=>∃ rv0_2 rc0_2 rv0_4 rc0_4,v = .tup [.agg [.int .i64 r.1.Epoch,.int .i64 r.1.Leader,rv0_2,.int .i64 r.1.High,rv0_4],
  .bool r.2]∧SlF cI 1 3 rv0_2 r.1.InStep rc0_2∧SlN Replica.R 3 51 rv0_4 r.1.Replicas rc0_4∧Sep h' (geL h.length) (rc0_2++(rc0_4++([])))):=by
 refine Ret.of (fn:=x33) rfl (Run.of ?_)
 unfold qbi at hF
 have zf0:ze [.agg [.int .i64 g_0.Epoch,.int .i64 g_0.Leader,lst cI g_0.InStep,.int .i64 g_0.High,lst Replica.cells g_0.Replicas],.agg [.int .i64 x_1.Kind,
   .int .i64 x_1.K,.int .i64 x_1.N]] 0 = .agg [.int .i64 g_0.Epoch,.int .i64 g_0.Leader,lst cI g_0.InStep,.int .i64 g_0.High,lst Replica.cells g_0.Replicas]:=rfl
 have zf1:ze [.agg [.int .i64 g_0.Epoch,.int .i64 g_0.Leader,lst cI g_0.InStep,.int .i64 g_0.High,lst Replica.cells g_0.Replicas],.agg [.int .i64 x_1.Kind,
   .int .i64 x_1.K,.int .i64 x_1.N]] 1 = .agg [.int .i64 x_1.Kind,.int .i64 x_1.K,.int .i64 x_1.N]:=rfl
 generalize ze [.agg [.int .i64 g_0.Epoch,.int .i64 g_0.Leader,lst cI g_0.InStep,.int .i64 g_0.High,lst Replica.cells g_0.Replicas],.agg [.int .i64 x_1.Kind,
   .int .i64 x_1.K,.int .i64 x_1.N]]=fr0 at zf0 zf1 ⊢
 have hS:Sep h (geL h.length) []:=Sep.nil h
 simp only [x33,qe,qd,kp,zf0,B0,reduceIte,reduceEqDiff]
 refine jz (cs:=[.int .i64 g_0.Epoch,.int .i64 g_0.Leader,lst cI g_0.InStep,.int .i64 g_0.High,lst Replica.cells g_0.Replicas]) hS rfl rfl rfl (fun b1 h2 hS3=>?_)
 simp only [kp,zf1,B0,reduceIte,reduceEqDiff]
 refine jz (cs:=[.int .i64 x_1.Kind,.int .i64 x_1.K,.int .i64 x_1.N]) hS3 rfl rfl rfl (fun b5 h6 hS7=>?_)
 simp only [je,B0,reduceIte,reduceEqDiff]
 refine zt hS7 (fun b9 h10 hS11=>?_)
 simp only [qc,qa,B0,reduceIte,reduceEqDiff]
 refine zz (Sep.m2 hS11) hW (by simp only [B0,reduceIte,reduceEqDiff]) (fun h13 hS14=>?_)
 refine zz (Sep.m1 hS14) hW (by simp only [B0,reduceIte,reduceEqDiff]) (fun h15 hS16=>?_)
 simp only [zw,qwf,qe,qd,qp,B0,reduceIte,reduceEqDiff]
 refine qj (v := .agg [.int .i64 g_0.Epoch,.int .i64 g_0.Leader,lst cI g_0.InStep,.int .i64 g_0.High,lst Replica.cells g_0.Replicas]) rfl ?_
 obtain ⟨v17,hx18,hF19⟩:=qi hF
 simp only [za,B0,reduceIte,reduceEqDiff]
 refine js rfl (qh (jd (qh qm (qh qm (qh zo (qh qm (qh zo qz)))))) qz) (qbr
   (fun b hb=>decide_eq_true hb) k g_0 v17 hx18) ?_
 simp only [ka,qb,kx,qa,qyn,zb,B0,reduceIte,reduceEqDiff]
 refine zd (t:=(!v17)) (fun hc20=>?_) (fun hc20=>?_)
 ·rw [iteT hc20] at hF19
  simp only [qe,qd,run_build,evp,B0,reduceIte,reduceEqDiff]
  refine qj (v := .agg [.int .i64 0,.int .i64 0,.nil,.int .i64 0,.nil]) rfl ?_
  simp only [zg,B0,reduceIte,reduceEqDiff]
  refine qy (us:=[.int .i64 0,.int .i64 0,.nil,.int .i64 0,.nil]) rfl (cs':=[.int .i64 0,.int .i64 0,.nil,.int .i64 0,
    .nil]) hS16 hW rfl rfl (Nat.le_of_ble_eq_true rfl) rfl (fun h21 hS22=>?_)
  simp only [qc,qa,q8,B0,reduceIte,reduceEqDiff]
  have he:=ql hF19
  subst he
  refine jy (qh (j6 (bb:=b9) (oo:=0) (v := .agg [.int .i64 0,.int .i64 0,.nil,.int .i64 0,
    .nil]) (rfl) ((zv (Sep.bk _ _ _ hS22)).trans rfl)) (qh (yq (v := .bool false) (rfl)) qz)) ?_
  exact ⟨.nil,[],.nil,[],by first | trivial | rfl,SlF.nil,SlN.nil,((Sep.dc (hS22)) : Sep _ (geL h.length) ([]))⟩
 rw [iteF hc20] at hF19
 simp only [zk,qy5,qe,qd,qp,B0,reduceIte,reduceEqDiff]
 refine qj (v := .agg [.int .i64 g_0.Epoch,.int .i64 g_0.Leader,lst cI g_0.InStep,.int .i64 g_0.High,lst Replica.cells g_0.Replicas]) rfl ?_
 obtain ⟨v23,hx24,hF25⟩:=qi hF19
 simp only [za,B0,reduceIte,reduceEqDiff]
 refine uo rfl hS16 (qh (jd (qh qm (qh qm (qh zo (qh qm (qh zo qz)))))) qz) (qf5
   (fun b hb=>decide_eq_true hb) g_0 v23 hx24) ?_
 rintro _ h34 ⟨v26,c27,v30,c31,rfl,hv28,hv32,hS35⟩
 refine ⟨_,qcg (qk rfl (qk rfl (qk (SlF.free1 hv28) (qk rfl (qk (SlN.free1 hv32) zn))))),hS35,
   (jt (SlF.pf hv28 (fun _=>rfl)) (jt (SlN.pf hv32 Replica.RO) wi)),fun h36 hS37=>?_⟩
 have hS38:Sep h36 (geL h.length) (c27++(c31++([Blk1 b9 [.int .i64 0,.int .i64 0,.nil,.int .i64 0,.nil] 29]++([])))):=by simpa only [List.append_assoc,
   List.nil_append] using hS37
 simp only [je,B0,reduceIte,reduceEqDiff]
 refine zt hS38 (fun b39 h40 hS41=>?_)
 simp only [zg,B0,reduceIte,reduceEqDiff]
 refine qy (us:=[.int .i64 v23.Epoch,.int .i64 v23.Leader,v26,.int .i64 v23.High,v30]) rfl (cs':=[.int .i64 v23.Epoch,.int .i64 v23.Leader,v26,
   .int .i64 v23.High,v30]) hS41 hW rfl (qk rfl (qk rfl (qk (SlF.one hv28) (qk rfl (qk (SlN.one hv32) zn))))) (Nat.le_of_ble_eq_true rfl) rfl
   (fun h43 hS44=>?_)
 simp only [qa,qzl,qe,qd,qp,B0,reduceIte,reduceEqDiff]
 refine qj (v := .agg [.int .i64 x_1.Kind,.int .i64 x_1.K,.int .i64 x_1.N]) rfl ?_
 obtain ⟨v45,hx46,hF47⟩:=qi hF25
 simp only [za,B0,reduceIte,reduceEqDiff]
 refine ku rfl (qit hW k b39 v23 v26 c27 hv28 v30 c31 hv32 x_1 v45 hx46 (Sep.m2 (Sep.m2 (Sep.m2 hS44)))) ?_
 rintro _ h54 ⟨v48,c49,c52,rfl,hv50,hv53,hS55⟩
 simp only [ka,qb,kx,qa,qzk,zb,B0,reduceIte,reduceEqDiff]
 refine zd (t:=(!v45.1)) (fun hc56=>?_) (fun hc56=>?_)
 ·rw [iteT hc56] at hF47
  simp only [qe,qd,run_build,evp,B0,reduceIte,reduceEqDiff]
  refine qj (v := .agg [.int .i64 0,.int .i64 0,.nil,.int .i64 0,.nil]) rfl ?_
  simp only [zg,B0,reduceIte,reduceEqDiff]
  refine qy (us:=[.int .i64 0,.int .i64 0,.nil,.int .i64 0,.nil]) rfl (cs':=[.int .i64 0,.int .i64 0,.nil,.int .i64 0,
    .nil]) (Sep.m3 hS55) hW rfl rfl (Nat.le_of_ble_eq_true rfl) rfl (fun h57 hS58=>?_)
  simp only [qc,qa,q8,B0,reduceIte,reduceEqDiff]
  have he:=ql hF47
  subst he
  refine jy (qh (j6 (bb:=b9) (oo:=0) (v := .agg [.int .i64 0,.int .i64 0,.nil,.int .i64 0,
    .nil]) (rfl) ((zv (Sep.bk _ _ _ hS58)).trans rfl)) (qh (yq (v := .bool false) (rfl)) qz)) ?_
  exact ⟨.nil,[],.nil,[],by first | trivial | rfl,SlF.nil,SlN.nil,((Sep.dc ((Sep.dc ((Sep.dc ((Sep.dc (hS58)))))))) : Sep _ (geL h.length) ([]))⟩
 rw [iteF hc56] at hF47
 simp only [zk,qe,qd,qp,B0,reduceIte,reduceEqDiff]
 refine qj (v := .agg [.int .i64 v45.2.Epoch,.int .i64 v45.2.Leader,v48,.int .i64 v45.2.High,v30]) ((zv (Sep.bk _ _ _ hS55)).trans rfl) ?_
 simp only [zg,B0,reduceIte,reduceEqDiff]
 refine qy (us:=[.int .i64 v45.2.Epoch,.int .i64 v45.2.Leader,v48,.int .i64 v45.2.High,v30]) rfl (cs':=[.int .i64 v45.2.Epoch,.int .i64 v45.2.Leader,v48,
   .int .i64 v45.2.High,v30]) (Sep.m3 hS55) hW rfl (qk rfl (qk rfl (qk (SlF.one hv50) (qk rfl (qk (SlN.one hv53) zn))))) (Nat.le_of_ble_eq_true rfl) rfl
   (fun h59 hS60=>?_)
 simp only [qc,qa,q8,B0,reduceIte,reduceEqDiff]
 have he:=ql hF47
 subst he
 refine jy (qh (j6 (bb:=b9) (oo:=0) (v := .agg [.int .i64 v45.2.Epoch,.int .i64 v45.2.Leader,v48,.int .i64 v45.2.High,
   v30]) (rfl) ((zv (Sep.bk _ _ _ hS60)).trans rfl)) (qh (yq (v := .bool true) (rfl)) qz)) ?_
 exact ⟨v48,c49,v30,c52,by first | trivial | rfl,hv50,hv53,(Sep.m1 (Sep.m1 (Sep.dc ((Sep.dc (hS60))))))⟩
end Go.Proofs.Ytefgfcalgjmhjaa.X
