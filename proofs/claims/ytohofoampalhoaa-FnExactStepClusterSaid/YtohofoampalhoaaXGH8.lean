/- The functions' code comes to what the plain functions say (8). -/
import Derived.Test.YtohofoampalhoaaXGH7
open List renaming append_assoc→l5,drop_succ_cons→i0,drop_zero→i6,nil_append→r7,take_succ_cons→f4,take_zero→i7
open Nat renaming reduceEqDiff→a9
open Go.Proofs.Ytohofoampalhoaa.X.Sep renaming dc→o8,m1→n7,m2→l9,m3→l6,m5→t9,m6→s9,m7→o7,m8→i5
open Go.Proofs.Ytohofoampalhoaa.X.SlF renaming free1→a0n,one→l7,pf→a1j,snap→a0c
open Go.Proofs.Ytohofoampalhoaa.X.SlN renaming free1→a2m,one→a09,snap→a15
set_option linter.unusedVariables false
set_option linter.unusedSimpArgs false
set_option maxRecDepth 100000
namespace Go.Proofs.Ytohofoampalhoaa.X
open Go
theorem qgf {W:Nat→Bool}{h:Heap} (hW:∀ b,
  (geL h.length) b→W b=true) (k:Nat) (v_0:Cluster) (v_1:ClusterStep) (r:Bool)
  (hF:wj k v_0 v_1=some r) : Ret E W 8 [.agg [.int .i64 v_0.Truth.Epoch,.int .i64 v_0.Truth.Leader,lst cI v_0.Truth.InStep,lst qq v_0.Nodes,
  lst qg v_0.Acked],.agg [.int .i64 v_1.Kind,.int .i64 v_1.K,.int .i64 v_1.To,.int .i64 v_1.N]] h (fun v h'=>cut h.length h' E.sz false 9 v=some (.bool r)):=by
 refine Ret.of (fn:=x8) rfl (Run.of ?_)
 unfold wj at hF
 have zf0:zb [.agg [.int .i64 v_0.Truth.Epoch,.int .i64 v_0.Truth.Leader,lst cI v_0.Truth.InStep,lst qq v_0.Nodes,lst qg v_0.Acked],
   .agg [.int .i64 v_1.Kind,.int .i64 v_1.K,.int .i64 v_1.To,.int .i64 v_1.N]] 0 = .agg [.int .i64 v_0.Truth.Epoch,.int .i64 v_0.Truth.Leader,lst cI v_0.Truth.InStep,
   lst qq v_0.Nodes,lst qg v_0.Acked]:=rfl
 have zf1:zb [.agg [.int .i64 v_0.Truth.Epoch,.int .i64 v_0.Truth.Leader,lst cI v_0.Truth.InStep,lst qq v_0.Nodes,lst qg v_0.Acked],
   .agg [.int .i64 v_1.Kind,.int .i64 v_1.K,.int .i64 v_1.To,.int .i64 v_1.N]] 1 = .agg [.int .i64 v_1.Kind,.int .i64 v_1.K,.int .i64 v_1.To,.int .i64 v_1.N]:=rfl
 generalize zb [.agg [.int .i64 v_0.Truth.Epoch,.int .i64 v_0.Truth.Leader,lst cI v_0.Truth.InStep,lst qq v_0.Nodes,lst qg v_0.Acked],
   .agg [.int .i64 v_1.Kind,.int .i64 v_1.K,.int .i64 v_1.To,.int .i64 v_1.N]]=fr0 at zf0 zf1 ⊢
 have hS:Sep h (geL h.length) []:=Sep.nil h
 simp only [x8,qc,qd,jp,zf0,B0,reduceIte,a9]
 refine je (cs:=[.int .i64 v_0.Truth.Epoch,.int .i64 v_0.Truth.Leader,lst cI v_0.Truth.InStep,lst qq v_0.Nodes,
   lst qg v_0.Acked]) hS rfl rfl rfl (fun b1 h2 hS3=>?_)
 simp only [jp,zf1,B0,reduceIte,a9]
 refine je (cs:=[.int .i64 v_1.Kind,.int .i64 v_1.K,.int .i64 v_1.To,.int .i64 v_1.N]) hS3 rfl rfl rfl (fun b5 h6 hS7=>?_)
 simp only [qf,qa,B0,reduceIte,a9]
 refine zx (n7 hS7) hW (by simp only [B0,reduceIte,a9]) (fun h9 hS10=>?_)
 refine zx hS10 hW (by simp only [B0,reduceIte,a9]) (fun h11 hS12=>?_)
 simp only [zw,qyn,qc,qd,qf,qa,q4k,qn,B0,reduceIte,a9]
 refine qh (v := .agg [.int .i64 v_0.Truth.Epoch,.int .i64 v_0.Truth.Leader,lst cI v_0.Truth.InStep,lst qq v_0.Nodes,lst qg v_0.Acked]) rfl ?_
 obtain ⟨v13,hx14,hF15⟩:=qk hF
 simp only [qf,zg,B0,reduceIte,a9]
 refine jo rfl (qi (zv (qi qo (qi qo (qi zk (qi zk (qi zk zc)))))) (qi qo zc)) (qk7
   (fun b hb=>decide_eq_true hb) k v_0 1048576 v13 hx14) ?_
 simp only [qf,qa,q0x,qc,qd,qz,qb,kq,q9,B0,reduceIte,a9]
 refine qy (t:=(decide (v13<0))) (fun hc16=>?_) (fun hc16=>?_)
 ·rw [iteT hc16] at hF15
  simp only [qc,qd,qf,qa,qx,B0,reduceIte,a9]
  have he:=qj hF15
  subst he
  simp only [q8,B0,reduceIte,a9]
  exact rfl
 rw [iteF hc16] at hF15
 simp only [zh,q02,qc,js,qh4,B0,reduceIte,a9]
 refine qdq hS12 (fun b17 h18 hS19=>?_)
 simp only [zt,B0,reduceIte,a9]
 refine qu (v := .agg [.int .i64 v_0.Truth.Epoch,.int .i64 v_0.Truth.Leader,lst cI v_0.Truth.InStep,lst qq v_0.Nodes,lst qg v_0.Acked]) rfl ?_
 obtain ⟨v21,hx22,hF23⟩:=qk hF15
 simp only [wg,B0,reduceIte,a9]
 refine qgv rfl hS19 (qi (zv (qi qo (qi qo (qi zk (qi zk (qi zk zc)))))) zc) (qb7
   (fun b hb=>decide_eq_true hb) k v_0 v21 hx22) ?_
 rintro _ h36 ⟨v24,c25,v28,c29,v32,c33,rfl,hv26,hv30,hv34,hS37⟩
 refine ⟨_,uz (qm rfl (qm rfl (qm (a0n hv26) (qm (a2m hv30) (qm (a0n hv34) zq))))),hS37,
   (jz (a1j hv26 (fun _=>rfl)) (jz (SlN.pf hv30 Node.RO) (jz (a1j hv34 (fun _=>rfl)) yu))),fun h38 hS39=>?_⟩
 have hS40:Sep h38 (geL h.length) (c25++(c29++(c33++([Blk1 b17 [.int .i64 0,.int .i64 0,.nil,.nil,.nil] 28]++([]))))):=by simpa only [l5,
   r7] using hS39
 simp only [w9,xy,B0,reduceIte,a9]
 refine qu (v := .agg [.int .i64 v_1.Kind,.int .i64 v_1.K,.int .i64 v_1.To,.int .i64 v_1.N]) rfl ?_
 simp only [ki,B0,reduceIte,a9]
 refine uy rfl (qi (zv (qi qo (qi qo (qi qo (qi qo zc))))) zc) (qb0
   (fun b hb=>decide_eq_true hb) v_1 _ rfl) ?_
 obtain ⟨v41,hx42,hF43⟩:=qk hF23
 simp only [ki,B0,reduceIte,a9]
 refine qo7 rfl hS40 (qi (zv (qi qo (qi qo (qi (a0c hv26 hS40 rfl (fun _=>rfl) (fun _=>rfl)) (qi (a15 hv30 _
   (n7 hS40) rfl Node.RO) (qi (a0c hv34 (l9 hS40) rfl (fun _=>rfl) (fun _=>rfl)) zc)))))) (qi (zv (qi qo (qi qo
   (qi qo (qi qo zc))))) zc)) (qjx (fun b hb=>decide_eq_true hb) k v21 (yk v_1) v41 hx42) ?_
 rintro _ h56 ⟨v44,c45,v48,c49,v52,c53,rfl,hv46,hv50,hv54,hS57⟩
 refine ⟨_,qlz (qm (qkp (qm rfl (qm rfl (qm (a0n hv46) (qm (a2m hv50) (qm (a0n hv54) zq)))))) (qm rfl zq)),hS57,
   (jz (a1j hv46 (fun _=>rfl)) (jz (SlN.pf hv50 Node.RO) (jz (a1j hv54 (fun _=>rfl)) yu))),fun h58 hS59=>?_⟩
 have hS60:Sep h58 (geL h.length) (c45++(c49++(c53++(c25++(c29++(c33++([Blk1 b17 [.int .i64 0,.int .i64 0,.nil,.nil,
   .nil] 28]++([])))))))):=by simpa only [l5,r7] using hS59
 simp only [zr,ql,qjz,qcd,qml,qcb,qcu,B0,reduceIte,a9]
 refine qbb (us:=[.int .i64 v41.1.Truth.Epoch,.int .i64 v41.1.Truth.Leader,v44,v48,v52]) rfl (cs':=[.int .i64 v41.1.Truth.Epoch,.int .i64 v41.1.Truth.Leader,v44,
   v48,v52]) (s9 hS60) hW rfl (qm rfl (qm rfl (qm (l7 hv46) (qm (a09 hv50) (qm (l7 hv54) zq))))) (nle rfl) rfl (fun h61 hS62=>?_)
 simp only [zr,ql,za,B0,reduceIte,a9]
 refine zx hS62 hW (by simp only [B0,reduceIte,a9]) (fun h63 hS64=>?_)
 simp only [zw,q1l,qc,qd,qn,B0,reduceIte,a9]
 refine qh (v := .agg [.int .i64 v_0.Truth.Epoch,.int .i64 v_0.Truth.Leader,lst cI v_0.Truth.InStep,lst qq v_0.Nodes,lst qg v_0.Acked]) rfl ?_
 obtain ⟨v65,hx66,hF67⟩:=qk hF43
 simp only [zg,B0,reduceIte,a9]
 refine qb1 rfl hS64 (qi (zv (qi qo (qi qo (qi zk (qi zk (qi zk zc)))))) zc) (qb7
   (fun b hb=>decide_eq_true hb) k v_0 v65 hx66) ?_
 rintro _ h80 ⟨v68,c69,v72,c73,v76,c77,rfl,hv70,hv74,hv78,hS81⟩
 refine ⟨_,uz (qm rfl (qm rfl (qm (a0n hv70) (qm (a2m hv74) (qm (a0n hv78) zq))))),hS81,
   (jz (a1j hv70 (fun _=>rfl)) (jz (SlN.pf hv74 Node.RO) (jz (a1j hv78 (fun _=>rfl)) yu))),fun h82 hS83=>?_⟩
 have hS84:Sep h82 (geL h.length) (c69++(c73++(c77++(c45++(c49++(c53++(c25++(c29++(c33++([])))))))))):=by simpa only [l5,
   r7] using hS83
 simp only [kd,B0,reduceIte,a9]
 refine jt hS84 (fun b85 h86 hS87=>?_)
 simp only [zp,B0,reduceIte,a9]
 refine zm (us:=[.int .i64 v65.Truth.Epoch,.int .i64 v65.Truth.Leader,v68,v72,v76]) rfl (cs':=[.int .i64 v65.Truth.Epoch,.int .i64 v65.Truth.Leader,v68,v72,
   v76]) hS87 hW rfl (qm rfl (qm rfl (qm (l7 hv70) (qm (a09 hv74) (qm (l7 hv78) zq))))) (nle rfl) rfl (fun h89 hS90=>?_)
 simp only [qa,B0,reduceIte,a9]
 refine zx hS90 hW (by simp only [B0,reduceIte,a9]) (fun h91 hS92=>?_)
 simp only [zw,q1f,qc,js,qh4,B0,reduceIte,a9]
 refine qdq hS92 (fun b93 h94 hS95=>?_)
 simp only [w9,xy,B0,reduceIte,a9]
 refine qu (v := .agg [.int .i64 v65.Truth.Epoch,.int .i64 v65.Truth.Leader,v68,v72,v76]) rfl ?_
 simp only [zt,B0,reduceIte,a9]
 refine qu (v := .agg [.int .i64 v_1.Kind,.int .i64 v_1.K,.int .i64 v_1.To,.int .i64 v_1.N]) rfl ?_
 simp only [wg,B0,reduceIte,a9]
 refine qkf rfl (qi (zv (qi qo (qi qo (qi qo (qi qo zc))))) zc) (qb0
   (fun b hb=>decide_eq_true hb) v_1 _ rfl) ?_
 obtain ⟨v97,hx98,hF99⟩:=qk hF67
 simp only [ki,B0,reduceIte,a9]
 refine qo7 rfl hS95 (qi (zv (qi qo (qi qo (qi (a0c hv70 (n7 hS95) rfl (fun _=>rfl) (fun _=>rfl)) (qi (a15 hv74 _
   (l9 hS95) rfl Node.RO) (qi (a0c hv78 (l6 hS95) rfl (fun _=>rfl) (fun _=>rfl)) zc)))))) (qi (zv (qi qo (qi qo
   (qi qo (qi qo zc))))) zc)) (qfv (fun b hb=>decide_eq_true hb) k v65 (yk v_1) v97 hx98) ?_
 rintro _ h112 ⟨v100,c101,v104,c105,v108,c109,rfl,hv102,hv106,hv110,hS113⟩
 refine ⟨_,qlz (qm (qkp (qm rfl (qm rfl (qm (a0n hv102) (qm (a2m hv106) (qm (a0n hv110) zq)))))) (qm rfl zq)),hS113,
   (jz (a1j hv102 (fun _=>rfl)) (jz (SlN.pf hv106 Node.RO) (jz (a1j hv110 (fun _=>rfl)) yu))),fun h114 hS115=>?_⟩
 have hS116:Sep h114 (geL h.length) (c101++(c105++(c109++([Blk1 b93 [.int .i64 0,.int .i64 0,.nil,.nil,
   .nil] 28]++(c69++(c73++(c77++(c45++(c49++(c53++(c25++(c29++(c33++([])))))))))))))):=by simpa only [l5,r7] using hS115
 simp only [zr,ql,qjz,qcd,qml,qcb,qcu,B0,reduceIte,a9]
 refine qbb (us:=[.int .i64 v97.1.Truth.Epoch,.int .i64 v97.1.Truth.Leader,v100,v104,v108]) rfl (cs':=[.int .i64 v97.1.Truth.Epoch,.int .i64 v97.1.Truth.Leader,
   v100,v104,v108]) (l6 hS116) hW rfl (qm rfl (qm rfl (qm (l7 hv102) (qm (a09 hv106) (qm (l7 hv110) zq))))) (nle rfl) rfl
   (fun h117 hS118=>?_)
 simp only [zr,ql,za,B0,reduceIte,a9]
 refine zx hS118 hW (by simp only [B0,reduceIte,a9]) (fun h119 hS120=>?_)
 simp only [zw,q4d,qc,qd,qn,B0,reduceIte,a9]
 refine qh (v := .agg [.int .i64 v97.1.Truth.Epoch,.int .i64 v97.1.Truth.Leader,v100,v104,v108]) rfl ?_
 simp only [qn,B0,reduceIte,a9]
 refine qh (v := .agg [.int .i64 v41.1.Truth.Epoch,.int .i64 v41.1.Truth.Leader,v44,v48,v52]) rfl ?_
 obtain ⟨v121,hx122,hF123⟩:=qk hF99
 simp only [zg,B0,reduceIte,a9]
 refine jo rfl (qi (zv (qi qo (qi qo (qi (a0c hv102 hS120 rfl (fun _=>rfl) (fun _=>rfl)) (qi (a15 hv106 _
   (n7 hS120) rfl Node.RO) (qi (a0c hv110 (l9 hS120) rfl (fun _=>rfl) (fun _=>rfl)) zc)))))) (qi (zv (qi qo (qi qo (qi
   (a0c hv46 (s9 hS120) rfl (fun _=>rfl) (fun _=>rfl)) (qi (a15 hv50 _ (o7 hS120) rfl Node.RO) (qi (a0c hv54 (i5 hS120) rfl (fun _=>rfl)
   (fun _=>rfl)) zc)))))) zc)) (qby (fun b hb=>decide_eq_true hb) k v97.1 v41.1 v121 hx122) ?_
 simp only [j8,qb,ko,qf,B0,reduceIte,a9]
 refine ji 4 (fun fr' h'=>Sep h' (geL h.length) (c45++(c49++(c53++(c69++(c73++(c77++(c101++(c105++(c109++([]))))))))))∧fr' 46 = .bool ((!v121) ||
   (!(v97.2 == v41.2)))∧fr' 2 = .ref [.int .i64 v_0.Truth.Epoch,.int .i64 v_0.Truth.Leader,lst cI v_0.Truth.InStep,lst qq v_0.Nodes,
   lst qg v_0.Acked] 0∧fr' 3 = .ref [.int .i64 v_1.Kind,.int .i64 v_1.K,.int .i64 v_1.To,.int .i64 v_1.N] 0∧fr' 6 = .ref [.int .i64 v41.1.Truth.Epoch,
   .int .i64 v41.1.Truth.Leader,v44,v48,v52] 0∧fr' 7 = .bool v41.2∧fr' 8 = .ref [.int .i64 v65.Truth.Epoch,.int .i64 v65.Truth.Leader,v68,v72,
   v76] 0∧fr' 9 = .ref [.int .i64 v97.1.Truth.Epoch,.int .i64 v97.1.Truth.Leader,v100,v104,v108] 0∧fr' 10 = .bool v97.2) (fun Q124 hN125=>?_) ?_
 ·simp only [f4,i7]
  simp only [qe (g:=42),B0,reduceIte,a9]
  refine ze (t:=(!v121)) (fun hg126=>?_) (fun hg126=>?_)
  ·simp only [hg126,qe (g:=42),jk,qw,qb,zo,qa,qp,B0,reduceIte,a9]
   exact hN125 _ _ ⟨(i5 (i5 (i5 (t9 (t9 (t9 (l9 (l9 (l9 (o8 (Sep.m9 (o8 (Sep.m9 (o8 (Sep.m9 hS120))))))))))))))),
     by rw [orT hg126]; simp only [B0,reduceIte,a9],rfl,rfl,rfl,rfl,rfl,rfl,rfl⟩
  ·simp only [hg126,qe (g:=42),qv,qf,qms,qb,qpk,qw,zn,qa,qp,B0,reduceIte,a9]
   exact hN125 _ _ ⟨(i5 (i5 (i5 (t9 (t9 (t9 (l9 (l9 (l9 (o8 (Sep.m9 (o8 (Sep.m9 (o8 (Sep.m9 hS120))))))))))))))),
     by rw [orF hg126]; simp only [B0,reduceIte,a9],rfl,rfl,rfl,rfl,rfl,rfl,rfl⟩
 rintro fr127 h136 ⟨hS137,f128,f129,f130,f131,f132,f133,f134,f135⟩
 simp only [i0,i6]
 simp only [qa,f128,q9,B0,reduceIte,a9]
 refine qy (t:=((!v121)||(!(v97.2 == v41.2)))) (fun hc138=>?_) (fun hc138=>?_)
 ·rw [iteT hc138] at hF123
  simp only [qc,qd,qf,qa,qx,B0,reduceIte,a9]
  have he:=qj hF123
  subst he
  simp only [q8,B0,reduceIte,a9]
  exact rfl
 rw [iteF hc138] at hF123
 simp only [zh,qy5,qc,js,f133,w9,xy,B0,reduceIte,a9]
 refine qu (v := .agg [.int .i64 v65.Truth.Epoch,.int .i64 v65.Truth.Leader,v68,v72,v76]) rfl ?_
 simp only [f129,zt,B0,reduceIte,a9]
 refine qu (v := .agg [.int .i64 v_0.Truth.Epoch,.int .i64 v_0.Truth.Leader,lst cI v_0.Truth.InStep,lst qq v_0.Nodes,lst qg v_0.Acked]) rfl ?_
 obtain ⟨v139,hx140,hF141⟩:=qk hF123
 simp only [wg,B0,reduceIte,a9]
 refine qgv rfl hS137 (qi (zv (qi qo (qi qo (qi zk (qi zk (qi zk zc)))))) zc) (qb7
   (fun b hb=>decide_eq_true hb) k v_0 v139 hx140) ?_
 rintro _ h154 ⟨v142,c143,v146,c147,v150,c151,rfl,hv144,hv148,hv152,hS155⟩
 refine ⟨_,uz (qm rfl (qm rfl (qm (a0n hv144) (qm (a2m hv148) (qm (a0n hv152) zq))))),hS155,
   (jz (a1j hv144 (fun _=>rfl)) (jz (SlN.pf hv148 Node.RO) (jz (a1j hv152 (fun _=>rfl)) yu))),fun h156 hS157=>?_⟩
 have hS158:Sep h156 (geL h.length) (c143++(c147++(c151++(c45++(c49++(c53++(c69++(c73++(c77++(c101++(c105++(c109 ++
   ([]))))))))))))):=by simpa only [l5,r7] using hS157
 obtain ⟨v159,hx160,hF161⟩:=qk hF141
 simp only [ki,B0,reduceIte,a9]
 refine uy rfl (qi (zv (qi qo (qi qo (qi (a0c hv70 (s9 hS158) rfl (fun _=>rfl) (fun _=>rfl)) (qi (a15 hv74 _
   (o7 hS158) rfl Node.RO) (qi (a0c hv78 (i5 hS158) rfl (fun _=>rfl) (fun _=>rfl)) zc)))))) (qi (zv (qi qo (qi qo (qi
   (a0c hv144 hS158 rfl (fun _=>rfl) (fun _=>rfl)) (qi (a15 hv148 _ (n7 hS158) rfl Node.RO) (qi (a0c hv152 (l9 hS158) rfl (fun _=>rfl)
   (fun _=>rfl)) zc)))))) zc)) (qby (fun b hb=>decide_eq_true hb) k v65 v139 v159 hx160) ?_
 simp only [qcx,ql,ko,za,q9,B0,reduceIte,a9]
 refine qy (t:=(!v159)) (fun hc162=>?_) (fun hc162=>?_)
 ·rw [iteT hc162] at hF161
  simp only [qc,qd,qf,qa,qx,B0,reduceIte,a9]
  have he:=qj hF161
  subst he
  simp only [q8,B0,reduceIte,a9]
  exact rfl
 rw [iteF hc162] at hF161
 simp only [zh,q0i,qc,qd,qf,qa,q75,f133,qn,B0,reduceIte,a9]
 refine qh (v := .agg [.int .i64 v65.Truth.Epoch,.int .i64 v65.Truth.Leader,v68,v72,v76]) rfl ?_
 obtain ⟨v163,hx164,hF165⟩:=qk hF161
 simp only [qf,zg,B0,reduceIte,a9]
 refine y9 rfl (qfy hW k v65 v68 c69 hv70 v72 c73 hv74 v76 c77 hv78 1 v163 hx164 (i5 (i5 (i5 hS158)))) ?_
 rintro _ h172 ⟨c166,c168,c170,rfl,hv167,hv169,hv171,hS173⟩
 simp only [qf,qa,q64,qc,qd,qz,qb,kq,B0,reduceIte,a9]
 obtain ⟨v177,hx178,hF179⟩:=qk hF165
 refine ji 5 (fun fr' h'=>Sep h' (geL h.length) (c45++(c49++(c53++(c101++(c105++(c109 ++
   ([])))))))∧fr' 62 = .bool v177∧fr' 2 = .ref [.int .i64 v_0.Truth.Epoch,.int .i64 v_0.Truth.Leader,lst cI v_0.Truth.InStep,lst qq v_0.Nodes,
   lst qg v_0.Acked] 0∧fr' 3 = .ref [.int .i64 v_1.Kind,.int .i64 v_1.K,.int .i64 v_1.To,.int .i64 v_1.N] 0∧fr' 6 = .ref [.int .i64 v41.1.Truth.Epoch,
   .int .i64 v41.1.Truth.Leader,v44,v48,v52] 0∧fr' 7 = .bool v41.2∧fr' 9 = .ref [.int .i64 v97.1.Truth.Epoch,.int .i64 v97.1.Truth.Leader,v100,v104,
   v108] 0∧fr' 10 = .bool v97.2) (fun Q174 hN175=>?_) ?_
 ·simp only [f4,i7]
  simp only [qe (g:=57),B0,reduceIte,a9]
  refine ze (t:=(decide (v163.1<0))) (fun hg176=>?_) (fun hg176=>?_)
  ·rw [iteT hg176] at hx178
   simp only [hg176,qe (g:=57),jk,qw,qb,zo,qa,qp,B0,reduceIte,a9]
   have e180:=qj hx178
   exact hN175 _ _ ⟨(t9 (t9 (t9 (t9 (t9 (t9 (o8 ((o8 ((o8 ((o8 ((o8 ((o8 (hS173)))))))))))))))))),
     by rw [←e180]; simp only [B0,reduceIte,a9],f129,f130,f131,f132,f134,f135⟩
  ·rw [iteF hg176] at hx178
   simp only [hg176,qe (g:=57),qv,f134,qn,B0,reduceIte,a9]
   refine qh (v := .agg [.int .i64 v97.1.Truth.Epoch,.int .i64 v97.1.Truth.Leader,v100,v104,v108]) rfl ?_
   simp only [hg176,qe (g:=57),qv,f131,qn,B0,reduceIte,a9]
   refine qh (v := .agg [.int .i64 v41.1.Truth.Epoch,.int .i64 v41.1.Truth.Leader,v44,v48,v52]) rfl ?_
   obtain ⟨v181,hx182,hF183⟩:=qk hx178
   simp only [hg176,qe (g:=57),qv,zg,B0,reduceIte,a9]
   refine jo rfl (qi (zv (qi qo (qi qo (qi (a0c hv102 (Sep.m9 hS173) rfl (fun _=>rfl) (fun _=>rfl)) (qi (a15 hv106 _
     (Sep.m10 hS173) rfl Node.RO) (qi (a0c hv110 (Sep.m11 hS173) rfl (fun _=>rfl) (fun _=>rfl)) zc)))))) (qi (zv (qi qo (qi qo
     (qi (a0c hv46 (s9 hS173) rfl (fun _=>rfl) (fun _=>rfl)) (qi (a15 hv50 _ (o7 hS173) rfl Node.RO) (qi (a0c hv54 (i5 hS173) rfl
     (fun _=>rfl) (fun _=>rfl)) zc)))))) zc)) (qby (fun b hb=>decide_eq_true hb) k v97.1 v41.1 v181 hx182) ?_
   simp only [hg176,qe (g:=57),qv,j8,qb,ko,qw,zn,qa,qp,B0,reduceIte,a9]
   have e184:=qj hF183
   exact hN175 _ _ ⟨(t9 (t9 (t9 (t9 (t9 (t9 (o8 ((o8 ((o8 ((o8 ((o8 ((o8 (hS173)))))))))))))))))),
     by rw [←e184]; simp only [B0,reduceIte,a9],f129,f130,f131,f132,f134,f135⟩
 rintro fr185 h193 ⟨hS194,f186,f187,f188,f189,f190,f191,f192⟩
 simp only [i0,i6]
 simp only [f186,qf,B0,reduceIte,a9]
 refine ji 4 (fun fr' h'=>Sep h' (geL h.length) (c45++(c49++(c53++(c101++(c105++(c109++([])))))))∧fr' 67 = .bool (v177 ||
   (!(v97.2 == v41.2)))∧fr' 2 = .ref [.int .i64 v_0.Truth.Epoch,.int .i64 v_0.Truth.Leader,lst cI v_0.Truth.InStep,lst qq v_0.Nodes,
   lst qg v_0.Acked] 0∧fr' 3 = .ref [.int .i64 v_1.Kind,.int .i64 v_1.K,.int .i64 v_1.To,.int .i64 v_1.N] 0∧fr' 6 = .ref [.int .i64 v41.1.Truth.Epoch,
   .int .i64 v41.1.Truth.Leader,v44,v48,v52] 0∧fr' 7 = .bool v41.2∧fr' 9 = .ref [.int .i64 v97.1.Truth.Epoch,.int .i64 v97.1.Truth.Leader,v100,v104,
   v108] 0) (fun Q195 hN196=>?_) ?_
 ·simp only [f4,i7]
  simp only [qe (g:=63),B0,reduceIte,a9]
  refine ze (t:=v177) (fun hg197=>?_) (fun hg197=>?_)
  ·simp only [hg197,qe (g:=63),jk,qw,qb,zo,qa,qp,B0,reduceIte,a9]
   exact hN196 _ _ ⟨(t9 (t9 (t9 (t9 (t9 (t9 hS194)))))),by rw [orT hg197]; simp only [B0,reduceIte,a9],f187,f188,f189,f190,f191⟩
  ·simp only [hg197,qe (g:=63),qv,f192,qf,f190,qms,qb,qpk,qw,zn,qa,qp,B0,reduceIte,a9]
   exact hN196 _ _ ⟨(t9 (t9 (t9 (t9 (t9 (t9 hS194)))))),by rw [orF hg197]; simp only [B0,reduceIte,a9],f187,f188,f189,f190,f191⟩
 rintro fr198 h205 ⟨hS206,f199,f200,f201,f202,f203,f204⟩
 simp only [i0,i6]
 simp only [qa,f199,q9,B0,reduceIte,a9]
 refine qy (t:=(v177||(!(v97.2 == v41.2)))) (fun hc207=>?_) (fun hc207=>?_)
 ·rw [iteT hc207] at hF179
  simp only [qc,qd,qf,qa,qx,B0,reduceIte,a9]
  have he:=qj hF179
  subst he
  simp only [q8,B0,reduceIte,a9]
  exact rfl
 rw [iteF hc207] at hF179
 simp only [zh,q22,qc,qd,qf,qa,q66,f204,qn,B0,reduceIte,a9]
 refine qh (v := .agg [.int .i64 v97.1.Truth.Epoch,.int .i64 v97.1.Truth.Leader,v100,v104,v108]) rfl ?_
 obtain ⟨v208,hx209,hF210⟩:=qk hF179
 simp only [qf,zg,B0,reduceIte,a9]
 refine y9 rfl (qfy hW k v97.1 v100 c101 hv102 v104 c105 hv106 v108 c109 hv110 1 v208 hx209 (t9 (t9 (t9 hS206)))) ?_
 rintro _ h217 ⟨c211,c213,c215,rfl,hv212,hv214,hv216,hS218⟩
 simp only [qf,qa,q3l,qc,qd,zaw,f204,qn,B0,reduceIte,a9]
 refine qh (v := .agg [.int .i64 v97.1.Truth.Epoch,.int .i64 v97.1.Truth.Leader,v100,v104,v108]) rfl ?_
 obtain ⟨v219,hx220,hF221⟩:=qk hF210
 simp only [qf,zg,B0,reduceIte,a9]
 refine jo rfl (qi (zv (qi qo (qi qo (qi (a0c hv212 hS218 rfl (fun _=>rfl) (fun _=>rfl)) (qi (a15 hv214 _
   (n7 hS218) rfl Node.RO) (qi (a0c hv216 (l9 hS218) rfl (fun _=>rfl) (fun _=>rfl)) zc)))))) (qi qo zc)) (qfp
   (fun b hb=>decide_eq_true hb) k (Cluster.mk (View.mk v97.1.Truth.Epoch v97.1.Truth.Leader v208.2.Truth.InStep) v208.2.Nodes v208.2.Acked) 1 v219 hx220) ?_
 simp only [qf,qa,zbe,qc,qd,qz,qb,kq,q9,B0,reduceIte,a9]
 refine qy (t:=(decide (v219<0))) (fun hc222=>?_) (fun hc222=>?_)
 ·rw [iteT hc222] at hF221
  simp only [qc,qd,qf,qa,qx,B0,reduceIte,a9]
  have he:=qj hF221
  subst he
  simp only [q8,B0,reduceIte,a9]
  exact rfl
 rw [iteF hc222] at hF221
 simp only [zh,za8,qc,qd,qf,qz,qb,ya,qa,q9,B0,reduceIte,a9]
 refine qy (t:=(decide (v219≠v208.1))) (fun hc223=>?_) (fun hc223=>?_)
 ·rw [iteT hc223] at hF221
  simp only [qc,qd,qf,qa,qx,B0,reduceIte,a9]
  have he:=qj hF221
  subst he
  simp only [q8,B0,reduceIte,a9]
  exact rfl
 rw [iteF hc223] at hF221
 simp only [zh,za2,qc,js,qh4,B0,reduceIte,a9]
 refine qdq hS218 (fun b224 h225 hS226=>?_)
 simp only [f200,zt,B0,reduceIte,a9]
 refine qu (v := .agg [.int .i64 v_0.Truth.Epoch,.int .i64 v_0.Truth.Leader,lst cI v_0.Truth.InStep,lst qq v_0.Nodes,lst qg v_0.Acked]) rfl ?_
 obtain ⟨v228,hx229,hF230⟩:=qk hF221
 simp only [wg,B0,reduceIte,a9]
 refine qgv rfl hS226 (qi (zv (qi qo (qi qo (qi zk (qi zk (qi zk zc)))))) zc) (qb7
   (fun b hb=>decide_eq_true hb) k v_0 v228 hx229) ?_
 rintro _ h243 ⟨v231,c232,v235,c236,v239,c240,rfl,hv233,hv237,hv241,hS244⟩
 refine ⟨_,uz (qm rfl (qm rfl (qm (a0n hv233) (qm (a2m hv237) (qm (a0n hv241) zq))))),hS244,
   (jz (a1j hv233 (fun _=>rfl)) (jz (SlN.pf hv237 Node.RO) (jz (a1j hv241 (fun _=>rfl)) yu))),fun h245 hS246=>?_⟩
 have hS247:Sep h245 (geL h.length) (c232++(c236++(c240++([Blk1 b224 [.int .i64 0,.int .i64 0,.nil,.nil,
   .nil] 28]++(c211++(c213++(c215++(c45++(c49++(c53++([]))))))))))):=by simpa only [l5,r7] using hS246
 simp only [f201,w9,xy,B0,reduceIte,a9]
 refine qu (v := .agg [.int .i64 v_1.Kind,.int .i64 v_1.K,.int .i64 v_1.To,.int .i64 v_1.N]) rfl ?_
 simp only [ki,B0,reduceIte,a9]
 refine uy rfl (qi (zv (qi qo (qi qo (qi qo (qi qo zc))))) zc) (qb0
   (fun b hb=>decide_eq_true hb) v_1 _ rfl) ?_
 obtain ⟨v248,hx249,hF250⟩:=qk hF230
 simp only [ki,B0,reduceIte,a9]
 refine qo7 rfl hS247 (qi (zv (qi qo (qi qo (qi (a0c hv233 hS247 rfl (fun _=>rfl) (fun _=>rfl)) (qi (a15 hv237 _
   (n7 hS247) rfl Node.RO) (qi (a0c hv241 (l9 hS247) rfl (fun _=>rfl) (fun _=>rfl)) zc)))))) (qi (zv (qi qo (qi qo
   (qi qo (qi qo zc))))) zc)) (qfv (fun b hb=>decide_eq_true hb) k v228 (yk v_1) v248 hx249) ?_
 rintro _ h263 ⟨v251,c252,v255,c256,v259,c260,rfl,hv253,hv257,hv261,hS264⟩
 refine ⟨_,qlz (qm (qkp (qm rfl (qm rfl (qm (a0n hv253) (qm (a2m hv257) (qm (a0n hv261) zq)))))) (qm rfl zq)),hS264,
   (jz (a1j hv253 (fun _=>rfl)) (jz (SlN.pf hv257 Node.RO) (jz (a1j hv261 (fun _=>rfl)) yu))),fun h265 hS266=>?_⟩
 have hS267:Sep h265 (geL h.length) (c252++(c256++(c260++(c232++(c236++(c240++([Blk1 b224 [.int .i64 0,.int .i64 0,.nil,.nil,
   .nil] 28]++(c211++(c213++(c215++(c45++(c49++(c53++([])))))))))))))):=by simpa only [l5,r7] using hS266
 simp only [zr,ql,qjz,qcd,qml,qcb,qcu,B0,reduceIte,a9]
 refine qbb (us:=[.int .i64 v248.1.Truth.Epoch,.int .i64 v248.1.Truth.Leader,v251,v255,v259]) rfl (cs':=[.int .i64 v248.1.Truth.Epoch,
   .int .i64 v248.1.Truth.Leader,v251,v255,
   v259]) (s9 hS267) hW rfl (qm rfl (qm rfl (qm (l7 hv253) (qm (a09 hv257) (qm (l7 hv261) zq))))) (nle rfl) rfl (fun h268 hS269=>?_)
 simp only [zr,ql,za,B0,reduceIte,a9]
 refine zx hS269 hW (by simp only [B0,reduceIte,a9]) (fun h270 hS271=>?_)
 simp only [zw,zam,qc,qd,qn,B0,reduceIte,a9]
 refine qh (v := .agg [.int .i64 v248.1.Truth.Epoch,.int .i64 v248.1.Truth.Leader,v251,v255,v259]) rfl ?_
 simp only [f202,qn,B0,reduceIte,a9]
 refine qh (v := .agg [.int .i64 v41.1.Truth.Epoch,.int .i64 v41.1.Truth.Leader,v44,v48,v52]) rfl ?_
 obtain ⟨v272,hx273,hF274⟩:=qk hF250
 simp only [zg,B0,reduceIte,a9]
 refine jo rfl (qi (zv (qi qo (qi qo (qi (a0c hv253 hS271 rfl (fun _=>rfl) (fun _=>rfl)) (qi (a15 hv257 _
   (n7 hS271) rfl Node.RO) (qi (a0c hv261 (l9 hS271) rfl (fun _=>rfl) (fun _=>rfl)) zc)))))) (qi (zv (qi qo (qi qo (qi
   (a0c hv46 (Sep.m9 hS271) rfl (fun _=>rfl) (fun _=>rfl)) (qi (a15 hv50 _ (Sep.m10 hS271) rfl Node.RO) (qi (a0c hv54 (Sep.m11 hS271) rfl
   (fun _=>rfl) (fun _=>rfl)) zc)))))) zc)) (qby (fun b hb=>decide_eq_true hb) k v248.1 v41.1 v272 hx273) ?_
 simp only [j8,qb,ko,qf,B0,reduceIte,a9]
 refine ji 4 (fun fr' h'=>Sep h' (geL h.length) (c211++(c213++(c215++([]))))∧fr' 95 = .bool ((!v272) ||
   (!(v248.2 == v41.2)))∧fr' 9 = .ref [.int .i64 v97.1.Truth.Epoch,.int .i64 v97.1.Truth.Leader,v100,v104,v108] 0∧fr' 12 = .int .i64 v208.1) (fun Q275 hN276=>?_) ?_
 ·simp only [f4,i7]
  simp only [qe (g:=91),B0,reduceIte,a9]
  refine ze (t:=(!v272)) (fun hg277=>?_) (fun hg277=>?_)
  ·simp only [hg277,qe (g:=91),jk,qw,qb,zo,qa,qp,B0,reduceIte,a9]
   exact hN276 _ _ ⟨(l9 (l9 (l9 (o8 (l6 (o8 (l6 (o8 (l6 (o8 ((o8 ((o8 ((o8 ((o8 ((o8 (hS271))))))))))))))))))))),
     by rw [orT hg277]; simp only [B0,reduceIte,a9],f204,rfl⟩
  ·simp only [hg277,qe (g:=91),qv,qf,f203,qms,qb,qpk,qw,zn,qa,qp,B0,reduceIte,a9]
   exact hN276 _ _ ⟨(l9 (l9 (l9 (o8 (l6 (o8 (l6 (o8 (l6 (o8 ((o8 ((o8 ((o8 ((o8 ((o8 (hS271))))))))))))))))))))),
     by rw [orF hg277]; simp only [B0,reduceIte,a9],f204,rfl⟩
 rintro fr278 h282 ⟨hS283,f279,f280,f281⟩
 simp only [i0,i6]
 simp only [qa,f279,q9,B0,reduceIte,a9]
 refine qy (t:=((!v272)||(!(v248.2 == v41.2)))) (fun hc284=>?_) (fun hc284=>?_)
 ·rw [iteT hc284] at hF274
  simp only [qc,qd,qf,qa,qx,B0,reduceIte,a9]
  have he:=qj hF274
  subst he
  simp only [q8,B0,reduceIte,a9]
  exact rfl
 rw [iteF hc284] at hF274
 simp only [zh,zaf,qc,qd,qf,qa,zax,f280,qn,B0,reduceIte,a9]
 refine qh (v := .agg [.int .i64 v97.1.Truth.Epoch,.int .i64 v97.1.Truth.Leader,v100,v104,v108]) rfl ?_
 obtain ⟨v285,hx286,hF287⟩:=qk hF274
 simp only [qf,zg,B0,reduceIte,a9]
 refine jo rfl (qi (zv (qi qo (qi qo (qi (a0c hv212 hS283 rfl (fun _=>rfl) (fun _=>rfl)) (qi (a15 hv214 _
   (n7 hS283) rfl Node.RO) (qi (a0c hv216 (l9 hS283) rfl (fun _=>rfl) (fun _=>rfl)) zc)))))) (qi qo zc)) (qfp
   (fun b hb=>decide_eq_true hb) k (Cluster.mk (View.mk v97.1.Truth.Epoch v97.1.Truth.Leader v208.2.Truth.InStep) v208.2.Nodes v208.2.Acked) 1 v285 hx286) ?_
 simp only [qf,qa,q97,qc,qd,qz,qb,kq,q9,B0,reduceIte,a9]
 refine qy (t:=(decide (v285<0))) (fun hc288=>?_) (fun hc288=>?_)
 ·rw [iteT hc288] at hF287
  simp only [qc,qd,qf,qa,qx,B0,reduceIte,a9]
  have he:=qj hF287
  subst he
  simp only [q8,B0,reduceIte,a9]
  exact rfl
 rw [iteF hc288] at hF287
 simp only [zh,q94,qc,qd,qf,f281,qz,qb,ya,qa,q9,B0,reduceIte,a9]
 refine qy (t:=(decide (v285≠v208.1))) (fun hc289=>?_) (fun hc289=>?_)
 ·rw [iteT hc289] at hF287
  simp only [qc,qd,qf,qa,qx,B0,reduceIte,a9]
  have he:=qj hF287
  subst he
  simp only [q8,B0,reduceIte,a9]
  exact rfl
 rw [iteF hc289] at hF287
 simp only [zh,qc,qd,qf,qa,qx,B0,reduceIte,a9]
 have he:=qj hF287
 subst he
 simp only [q8,B0,reduceIte,a9]
 exact rfl
end Go.Proofs.Ytohofoampalhoaa.X
