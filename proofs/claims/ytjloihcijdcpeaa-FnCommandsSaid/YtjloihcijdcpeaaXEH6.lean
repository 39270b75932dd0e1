/- The functions' code comes to what the plain functions say (6). -/
import Derived.Test.YtjloihcijdcpeaaXEH5
open Go.IntKind renaming wrap→d8
open List renaming append_assoc→f6,drop_succ_cons→b7,drop_zero→e8,length→b6,nil_append→o8,take_succ_cons→d7,take_zero→e9
open Nat renaming add_zero→b4,le_refl→l7,reduceAdd→a8,reduceEqDiff→a7,zero_add→a9
open Go.Proofs.Ytjloihcijdcpeaa.X.Sep renaming bk→l9,dc→l6,m1→f8,m2→f0,m3→i5,m4→o6,m5→s7,m6→r5,ni2→a1d,nil→a0t,no2→a13
open Go.Proofs.Ytjloihcijdcpeaa.X.SlF renaming free1→a0k,ia→a18,one→n7,pf→a1n
open Go.Proofs.Ytjloihcijdcpeaa.X.SlG renaming opn→a12,toN→a1c
open Go.Proofs.Ytjloihcijdcpeaa.X.SlN renaming free1→a01,isrow→a1y,len→a2h,one→t7,pf→a2d,toG→a11
set_option linter.unusedVariables false
set_option linter.unusedSimpArgs false
set_option maxRecDepth 100000
namespace Go.Proofs.Ytjloihcijdcpeaa.X
open Go
theorem qkf {W:Nat→Bool}{h:Heap}{lo:Nat→Prop}{S0:List Obj} (hW:∀ b,
  lo b→W b=true) (k:Nat) (pb0:Nat) (c_0:L1Cur) (r:Int × (List Command) × L1Cur) (hF:qcr k c_0=some r) (hS:Sep h lo ([Blk1 pb0 [lst cU8 c_0.code,
  .int .i64 c_0.at_,.int .u64 c_0.seed] 79]++(S0))) : Ret E W 45 [.ptr pb0 0] h (fun v h'=>∃ rv1 rc1,v = .tup [.int .i64 r.1,
  rv1]∧SlN Command.R 6 44 rv1 r.2.1 rc1∧Sep h' lo (rc1++([Blk1 pb0 [lst cU8 r.2.2.code,.int .i64 r.2.2.at_,.int .u64 r.2.2.seed] 79]++(S0)))):=by
 refine Ret.of (fn:=x45) rfl (Run.of ?_)
 unfold qcr at hF
 have zf0:zj [.ptr pb0 0] 0 = .ptr pb0 0:=rfl
 generalize zj [.ptr pb0 0]=fr0 at zf0 ⊢
 obtain ⟨v1,hx2,hF3⟩:=qk hF
 simp only [x45,qh,qf,qg,qa,qsm,zf0,za,B0,reduceIte,a7]
 refine kp rfl (kd hW pb0 c_0 5 v1 hx2 hS) ?_
 rintro _ h4 ⟨rfl,hS5⟩
 obtain ⟨v6,hx7,hF8⟩:=qk hF3
 simp only [qv,qb,qal,qg,qa,qrj,qh,qf,za,B0,reduceIte,a7]
 refine wq rfl hS5 (ql qu zd) (qap (fun b hb=>decide_eq_true hb) k (d8 .i64 ((1:Int)+v1.1)) v6 hx7) ?_
 rintro _ h17 ⟨v9,c10,v13,c14,rfl,hv11,hv15,hS18⟩
 refine ⟨_,u6 (qo (uj (qo (a0k hv11) (qo (a01 hv15) (qo rfl zl)))) (qo rfl zl)),hS18,
   (jg (a1n hv11 (fun _=>rfl)) (jg (a2d hv15 Partition.RO) ye)),fun h19 hS20=>?_⟩
 have hS21:Sep h19 lo (c10++(c14++([Blk1 pb0 [lst cU8 v1.2.code,.int .i64 v1.2.at_,.int .u64 v1.2.seed] 79]++(S0)))):=by simpa only [f6,
   o8] using hS20
 simp only [qg,yi,qb,y6,y8,z5,B0,reduceIte,a7]
 refine zt hS21 (fun b22 h23 hS24=>?_)
 simp only [zk,B0,reduceIte,a7]
 refine zb (us:=[v9,v13,.int .i64 v6.1.Next]) rfl (cs':=[v9,v13,
   .int .i64 v6.1.Next]) hS24 hW rfl (qo (n7 hv11) (qo (t7 hv15) (qo rfl zl))) (nle rfl) rfl (fun h26 hS27=>?_)
 obtain ⟨v28,hx29,hF30⟩:=qk hF8
 simp only [qg,qa,qxc,qh,qf,qs6,zf0,za,B0,reduceIte,a7]
 refine kp rfl (kd hW pb0 v1.2 30 v28 hx29 (i5 hS27)) ?_
 rintro _ h31 ⟨rfl,hS32⟩
 obtain ⟨v33,hx34,hF35⟩:=qk hF30
 simp only [qg,qa,qug,qh,qf,zf0,za,B0,reduceIte,a7]
 refine kp rfl (qbz hW pb0 v28.2 12 v33 hx34 hS32) ?_
 rintro _ h36 ⟨rfl,hS37⟩
 simp only [qa,q0b,qz,B0,reduceIte,a7]
 obtain ⟨sv43,hX41,hk42⟩:=qk hF35
 refine ue (t:=v33.1) (fun fr' h'=>fr' 0 = .ptr pb0 0∧fr' 4 = .int .i64 (d8 .i64
   ((1:Int)+v1.1))∧fr' 5 = .ptr b22 0∧fr' 7 = .nil∧fr' 8 = .int .i64 sv43.1∧Sep h' lo ([Blk1 pb0 [lst cU8 sv43.2.code,.int .i64 sv43.2.at_,
   .int .u64 sv43.2.seed] 79]++([Blk1 b22 [v9,v13,.int .i64 v6.1.Next] 29]++(c10++(c14++(S0)))))) (fun Q44 hN45 hR46 hE47=>⟨fun hc48=>?_,fun hc48=>?_⟩) ?_
 ·rw [iteT hc48] at hX41
  obtain ⟨v49,hx50,hF51⟩:=qk hX41
  simp only [q4u,qf,zf0,qg,za,B0,reduceIte,a7]
  refine kp rfl (kd hW pb0 v33.2 12 v49 hx50 hS37) ?_
  rintro _ h52 ⟨rfl,hS53⟩
  simp only [qv,qb,qal,qg,qa,qn,B0,reduceIte,a7]
  have e54:=qj hF51
  subst e54
  exact hN45 _ _ ⟨zf0,rfl,rfl,rfl,rfl,(i5 (i5 (i5 (i5 hS53))))⟩
 ·rw [iteF hc48] at hX41
  simp only [zf,qn,B0,reduceIte,a7]
  have e55:=qj hX41
  subst e55
  exact hN45 _ _ ⟨zf0,rfl,rfl,rfl,rfl,(i5 (i5 (i5 (i5 hS37))))⟩
 rintro fr56 h57 ⟨f59,f60,f61,f62,f63,hS58⟩
 obtain ⟨s38,s39⟩:=sv43
 dsimp only at *
 unfold qcl at hk42
 simp only [qwk,qh,B0,reduceIte,a7]
 obtain ⟨oc98,hX100,hk101⟩:=jo hk42
 simp only [qvj]
 refine qlk (σ:=(List Command) × Int × L1Cur × Control) (fun s213=>xd k s213.1 s213.2.1 s213.2.2.1 s213.2.2.2) (fun s fr' h'=>∃ v82 c83 v89 c90 v93 c94,
   fr' 0 = .ptr pb0 0∧fr' 4 = .int .i64 (d8 .i64
   ((1:Int)+v1.1))∧fr' 5 = .ptr b22 0∧fr' 7=v82∧fr' 8 = .int .i64 s.2.1∧SlN Command.R 6 44 v82 s.1 c83∧SlF qe 3 86 v89 s.2.2.2.Brokers c90∧SlN Partition.R 5 39 v93 s.2.2.2.Parts c94∧Sep h' lo
   ([Blk1 pb0 [lst cU8 s.2.2.1.code,.int .i64 s.2.2.1.at_,.int .u64 s.2.2.1.seed] 79]++([Blk1 b22 [v89,v93,
   .int .i64 s.2.2.2.Next] 29]++(c83++(c90++(c94++(S0))))))) hX100 ⟨.nil,[],v9,c10,v13,c14,f59,f60,f61,f62,f63,SlN.nil,hv11,hv15,
   ((i5 (i5 (i5 (i5 hS58)))) : Sep _ lo ([Blk1 pb0 [lst cU8 s39.code,.int .i64 s39.at_,.int .u64 s39.seed] 79]++([Blk1 b22 [v9,v13,
   .int .i64 v6.1.Next] 29]++(c10++(c14++(S0))))))⟩ (fun _ _ _ h=>h) ?_ ?_
 ·rintro ⟨s80,s85,s86,s87⟩ fr110 h111 ⟨v82,c83,v89,c90,v93,c94,f113,f114,f115,f116,f117,hv84,hv91,hv95,hS112⟩ oc99 hF102 hr103 Q104 hN105 hK106 hR107 hE108
  dsimp only at *
  unfold xd at hF102
  simp only [qzi,qh,qf,f117,qg,qv,qb,qc7,qa,qz,B0,reduceIte,a7]
  refine qx (t:=(decide ((0:Int)<s85))) (fun hc119=>?_) (fun hc119=>?_)
  ·rw [iteT hc119] at hF102
   simp only [zf,q4p,qh,wi,qy5,qf,f113,qg,f115,qm,B0,reduceIte,a7]
   refine qi (v := .agg [v89,v93,.int .i64 s87.Next]) ((zw (l9 _ _ _ (f8 hS112))).trans rfl) ?_
   obtain ⟨v120,hx121,hF122⟩:=qk hF102
   simp only [za,B0,reduceIte,a7]
   refine kp rfl (qgl hW k pb0 s86 s87 v89 c90 hv91 v93 c94 hv95 v120 hx121 (f0 (o6 (o6 hS112)))) ?_
   rintro _ h131 ⟨v123,c124,c127,c129,rfl,hv125,hv128,hv130,hS132⟩
   simp only [z5,B0,reduceIte,a7]
   refine zt hS132 (fun b133 h134 hS135=>?_)
   simp only [zk,B0,reduceIte,a7]
   refine zb (us:=[.int .i64 v120.1.Kind,.int .i64 v120.1.Broker,.int .i64 v120.1.Epoch,.int .i64 v120.1.Part,.int .i64 v120.1.Stamp,
     v123]) rfl (cs':=[.int .i64 v120.1.Kind,.int .i64 v120.1.Broker,.int .i64 v120.1.Epoch,.int .i64 v120.1.Part,.int .i64 v120.1.Stamp,
     v123]) hS135 hW rfl (qo rfl (qo rfl (qo rfl (qo rfl (qo rfl (qo (n7 hv125) zl)))))) (nle rfl) rfl (fun h137 hS138=>?_)
   simp only [qa,B0,reduceIte,a7]
   refine zq hS138 hW (by simp only [B0,reduceIte,a7]) (fun h139 hS140=>?_)
   simp only [zp,q1g,qh,qf,f115,qm,B0,reduceIte,a7]
   refine qi (v := .agg [v89,v93,.int .i64 s87.Next]) ((zw (l9 _ _ _ (o6 hS140))).trans rfl) ?_
   simp only [qm,B0,reduceIte,a7]
   refine qi (v := .agg [.int .i64 v120.1.Kind,.int .i64 v120.1.Broker,.int .i64 v120.1.Epoch,.int .i64 v120.1.Part,.int .i64 v120.1.Stamp,v123]) rfl ?_
   obtain ⟨v141,hx142,hF143⟩:=qk hF122
   simp only [za,B0,reduceIte,a7]
   refine wq rfl hS140 (ql (z4 (ql (SlF.snap hv128 (f0 hS140) rfl (fun _=>rfl) (fun _=>rfl)) (ql (SlN.snap hv130 _ (i5 hS140) rfl Partition.RO)
     (ql qu zd)))) (ql (z4 (ql qu (ql qu (ql qu (ql qu (ql qu (ql (SlF.snap hv125 hS140 rfl
     (fun _=>rfl) (fun _=>rfl)) zd))))))) zd)) (qec (fun b hb=>decide_eq_true hb)
     (Control.mk v120.2.2.Brokers v120.2.2.Parts s87.Next) v120.1 v141 hx142) ?_
   rintro _ h152 ⟨v144,c145,v148,c149,rfl,hv146,hv150,hS153⟩
   refine ⟨_,u6 (qo (uj (qo (a0k hv146) (qo (a01 hv150) (qo rfl zl)))) (qo rfl (qo rfl zl))),hS153,
     (jg (a1n hv146 (fun _=>rfl)) (jg (a2d hv150 Partition.RO) ye)),fun h154 hS155=>?_⟩
   have hS156:Sep h154 lo (c145++(c149++(c124++([Blk1 pb0 [lst cU8 v120.2.1.code,.int .i64 v120.2.1.at_,
     .int .u64 v120.2.1.seed] 79]++(c127++(c129++([Blk1 b22 [v89,v93,.int .i64 s87.Next] 29]++(c83++(S0))))))))):=by simpa only [f6,
     o8] using hS155
   simp only [qg,yi,qb,y6,y8,qgx,z5,B0,reduceIte,a7]
   refine zt hS156 (fun b157 h158 hS159=>?_)
   simp only [zk,B0,reduceIte,a7]
   refine zb (us:=[v144,v148,.int .i64 v141.1.Next]) rfl (cs':=[v144,v148,
     .int .i64 v141.1.Next]) hS159 hW rfl (qo (n7 hv146) (qo (t7 hv150) (qo rfl zl))) (nle rfl) rfl (fun h161 hS162=>?_)
   simp only [qg,qa,B0,reduceIte,a7]
   refine zq hS162 hW (by simp only [B0,reduceIte,a7]) (fun h163 hS164=>?_)
   simp only [zp,q28,qh,qf,qg,qa,q5k,qz,B0,reduceIte,a7]
   obtain ⟨s165,hX175,hk176⟩:=qk hF143
   refine ue (t:=v141.2.2) (fun fr' h'=>∃ v167 c168 v171 c172,
     fr' 0 = .ptr pb0 0∧fr' 4 = .int .i64 (d8 .i64
     ((1:Int)+v1.1))∧fr' 5 = .ptr b22 0∧fr' 7=v82∧fr' 8 = .int .i64 s85∧fr' 9 = .ref [.int .i64 v120.1.Kind,.int .i64 v120.1.Broker,.int .i64 v120.1.Epoch,
     .int .i64 v120.1.Part,.int .i64 v120.1.Stamp,
     v123] 0∧SlF qe 3 86 v167 s165.Brokers c168∧SlN Partition.R 5 39 v171 s165.Parts c172∧Sep h' lo ([Blk1 pb0 [lst cU8 v120.2.1.code,.int .i64 v120.2.1.at_,
     .int .u64 v120.2.1.seed] 79]++([Blk1 b22 [v167,v171,
     .int .i64 s165.Next] 29]++(c83++(c124++(c168++(c172++(S0)))))))) (fun Q177 hN178 hR179 hE180=>⟨fun hc181=>?_,fun hc181=>?_⟩) ?_
   ·rw [iteT hc181] at hX175
    simp only [qf,qm,B0,reduceIte,a7]
    refine qi (v := .agg [v144,v148,.int .i64 v141.1.Next]) rfl ?_
    simp only [f115,zk,B0,reduceIte,a7]
    refine zb (us:=[v144,v148,.int .i64 v141.1.Next]) rfl (cs':=[v144,v148,
      .int .i64 v141.1.Next]) (r5 hS164) hW rfl (qo (n7 hv146) (qo (t7 hv150) (qo rfl zl))) (nle rfl) rfl (fun h182 hS183=>?_)
    simp only [qa,qn,B0,reduceIte,a7]
    have e184:=qj hX175
    subst e184
    exact hN178 _ _ ⟨v144,c145,v148,c149,f113,f114,f115,f116,f117,rfl,hv146,hv150,
      (s7 (o6 (s7 (i5 (f0 (f0 (l6 (s7 (l6 (s7 hS183))))))))))⟩
   ·rw [iteF hc181] at hX175
    simp only [zf,qn,B0,reduceIte,a7]
    have e185:=qj hX175
    subst e185
    exact hN178 _ _ ⟨v89,c127,v93,c129,f113,f114,f115,f116,f117,rfl,hv128,hv130,(s7 (s7 (s7 (f0 (i5 (i5 (l6 ((l6 (hS164))))))))))⟩
   rintro fr186 h187 ⟨v167,c168,v171,c172,f189,f190,f191,f192,f193,f194,hv169,hv173,hS188⟩
   unfold qcm at hk176
   simp only [q0s,qf,f192,qg,f194,qm,B0,reduceIte,a7]
   refine qi (v := .agg [.int .i64 v120.1.Kind,.int .i64 v120.1.Broker,.int .i64 v120.1.Epoch,.int .i64 v120.1.Part,.int .i64 v120.1.Stamp,v123]) rfl ?_
   simp only [j0,evp,B0,reduceIte,a7]
   refine qey (R:=Command.R) (n:=6) (cs:=[.int .i64 v120.1.Kind,.int .i64 v120.1.Broker,.int .i64 v120.1.Epoch,.int .i64 v120.1.Part,.int .i64 v120.1.Stamp,
     v123]) (os:=c124) (i5 hS188) (qat (us:=[.int .i64 v120.1.Kind,.int .i64 v120.1.Broker,.int .i64 v120.1.Epoch,.int .i64 v120.1.Part,.int .i64 v120.1.Stamp,
     v123]) (vs:=[.int .i64 v120.1.Kind,.int .i64 v120.1.Broker,.int .i64 v120.1.Epoch,.int .i64 v120.1.Part,.int .i64 v120.1.Stamp,
     v123]) rfl rfl (nle rfl) (qo rfl (qo rfl (qo rfl (qo rfl (qo rfl (qo (n7 hv125) zl)))))) rfl qfu) (Command.RI (x:=v120.1) hv125) rfl
     (fun v195 c196 h197 hv198 hS199=>?_)
   simp only [wz,B0,reduceIte,a7]
   obtain ⟨l201,hx202,hF203⟩:=qk hk176
   refine qhl (R:=Command.R) (c:=c83) hv84 hv198 (i5 hS199) hW Command.RO.len Command.RO.one hx202 (fun v204 c205 h206 hv207 hS208=>?_)
   simp only [qg,qa,ki,qf,f193,qv,qb,qe1,qn,B0,reduceIte,a7]
   have e210:=qj hF203
   exact hN105 _ _ _ e210.symm ⟨v204,c205,v167,c168,v171,c172,f189,f190,f191,rfl,rfl,hv207,hv169,hv173,(o6 (o6 (f0 (o6 (o6 hS208)))))⟩
  rw [iteF hc119] at hF102
  simp only [qiq,qg9,qh2,B0,reduceIte,a7]
  have e212:=qj hF102
  exact hK106 _ _ _ e212.symm ⟨v82,c83,v89,c90,v93,c94,f113,f114,f115,f116,f117,hv84,hv91,hv95,(o6 (o6 (o6 (o6 (o6 hS112)))))⟩
 rintro ⟨s214,s219,s220,s221⟩ fr230 h231 rfl ⟨v216,c217,v223,c224,v227,c228,f233,f234,f235,f236,f237,hv218,hv225,hv229,hS232⟩
 dsimp only [jnO] at hk101
 dsimp only at *
 unfold qg1 at hk101
 simp only [que,qh,qf,f234,qg,f236,qa,q8,B0,reduceIte,a7]
 have he:=qj hk101
 subst he
 simp only [ur,B0,reduceIte,a7]
 exact ⟨v216,c217,by first | trivial | rfl,hv218,(f8 (l6 (f0 (l6 (f0 (l6 (f8 hS232)))))))⟩
theorem qfd {W:Nat→Bool}{h:Heap}{lo:Nat→Prop}{S0:List Obj} (hW:∀ b,
  lo b→W b=true) (k:Nat) (pb0:Nat) (v_0:L1Cur) (r:Control × L1Cur) (hF:qa7 k v_0=some r) (hS:Sep h lo ([Blk1 pb0 [lst cU8 v_0.code,.int .i64 v_0.at_,
  .int .u64 v_0.seed] 79]++(S0))) : Ret E W 52 [.ptr pb0 0] h (fun v h'=>∃ rv0_0 rc0_0 rv0_1 rc0_1,v = .agg [rv0_0,rv0_1,
  .int .i64 r.1.Next]∧SlF qe 3 86 rv0_0 r.1.Brokers rc0_0∧SlN Partition.R 5 39 rv0_1 r.1.Parts rc0_1∧Sep h' lo (rc0_0++(rc0_1++([Blk1 pb0 [lst cU8 r.2.code,
  .int .i64 r.2.at_,.int .u64 r.2.seed] 79]++(S0))))):=by
 refine Ret.of (fn:=x52) rfl (Run.of ?_)
 unfold qa7 at hF
 have zf0:zj [.ptr pb0 0] 0 = .ptr pb0 0:=rfl
 generalize zj [.ptr pb0 0]=fr0 at zf0 ⊢
 simp only [x52,qh,qf,z5,B0,reduceIte,a7]
 refine zt hS (fun b1 h2 hS3=>?_)
 obtain ⟨v5,hx6,hF7⟩:=qk hF
 simp only [qa,qvl,qh,qf,zf0,qg,za,B0,reduceIte,a7]
 refine kp rfl (qkf hW k pb0 v_0 v5 hx6 (f8 hS3)) ?_
 rintro _ h12 ⟨v8,c9,rfl,hv10,hS13⟩
 simp only [qg,yi,qb,y6,y8,qa,qru,qh,qf,zx,a2h hv10,qv,qc7,qzh,qz,B0,reduceIte,a7]
 refine qx (t:=(decide ((80:Int)<(b6 v5.2.1:Int)))) (fun hc14=>?_) (fun hc14=>?_)
 ·rw [iteT hc14] at hF7
  obtain ⟨l15,hx16,hF17⟩:=qk hF7
  simp only [qf,qg,q7o,Option.map_some,Option.map_none,B0,reduceIte,a7]
  obtain ⟨w18,i19,he20,hw21⟩:=SlN.win (ty:=44) hv10 hx16 hS13
  refine qi he20 ?_
  obtain ⟨v22,hx23,hF24⟩:=qk hF17
  simp only [qg,qa,qm0,qh,qf,za,B0,reduceIte,a7]
  refine wq rfl hS13 (ql qu (ql (SlWN.snap hw21 hv10 _ hS13 rfl Command.RO) zd)) (qfc (fun b hb=>decide_eq_true hb) k v5.1 l15 v22 hx23) ?_
  rintro _ h37 ⟨v25,c26,v29,c30,v33,c34,rfl,hv27,hv31,hv35,hS38⟩
  refine ⟨_,u6 (qo (uj (qo (a0k hv27) (qo (a01 hv31) (qo rfl zl)))) (qo (qjl (a0k hv35)) (qo rfl zl))),hS38,
    (jg (a1n hv27 (fun _=>rfl)) (jg (a2d hv31 Partition.RO) (jg (a1n hv35 (fun _=>rfl)) ye))),fun h39 hS40=>?_⟩
  have hS41:Sep h39 lo (c26++(c30++(c34++(c9++([Blk1 pb0 [lst cU8 v5.2.2.code,.int .i64 v5.2.2.at_,.int .u64 v5.2.2.seed] 79]++([Blk1 b1 [.nil,.nil,
    .int .i64 0] 29]++(S0))))))):=by simpa only [f6,o8] using hS40
  simp only [qg,yi,qb,y6,y8,qgx,z5,B0,reduceIte,a7]
  refine zt hS41 (fun b42 h43 hS44=>?_)
  simp only [zk,B0,reduceIte,a7]
  refine zb (us:=[v25,v29,.int .i64 v22.1.Next]) rfl (cs':=[v25,v29,
    .int .i64 v22.1.Next]) hS44 hW rfl (qo (n7 hv27) (qo (t7 hv31) (qo rfl zl))) (nle rfl) rfl (fun h46 hS47=>?_)
  simp only [qg,qa,qm4,qh,qf,je,qb,jt,qo4,qz,B0,reduceIte,a7]
  obtain ⟨s48,hX58,hk59⟩:=qk hF24
  refine ue (t:=(!v22.2.2)) (fun fr' h'=>∃ v50 c51 v54 c55,
    fr' 0 = .ptr pb0 0∧fr' 2 = .ptr b1 0∧fr' 5 = .ptr b42 0∧SlF qe 3 86 v50 s48.Brokers c51∧SlN Partition.R 5 39 v54 s48.Parts c55∧Sep h' lo
    ([Blk1 pb0 [lst cU8 v5.2.2.code,.int .i64 v5.2.2.at_,.int .u64 v5.2.2.seed] 79]++([Blk1 b1 [.nil,.nil,.int .i64 0] 29]++([Blk1 b42 [v50,v54,
    .int .i64 s48.Next] 29]++(c51++(c55++(S0))))))) (fun Q60 hN61 hR62 hE63=>⟨fun hc64=>?_,fun hc64=>?_⟩) ?_
  ·rw [iteT hc64] at hX58
   obtain ⟨v65,hx66,hF67⟩:=qk hX58
   simp only [qpm,qf,za,B0,reduceIte,a7]
   refine wq rfl hS47 (ql qu zd) (qap (fun b hb=>decide_eq_true hb) k 2 v65 hx66) ?_
   rintro _ h76 ⟨v68,c69,v72,c73,rfl,hv70,hv74,hS77⟩
   refine ⟨_,u6 (qo (uj (qo (a0k hv70) (qo (a01 hv74) (qo rfl zl)))) (qo rfl zl)),hS77,
     (jg (a1n hv70 (fun _=>rfl)) (jg (a2d hv74 Partition.RO) ye)),fun h78 hS79=>?_⟩
   have hS80:Sep h78 lo (c69++(c73++([Blk1 b42 [v25,v29,.int .i64 v22.1.Next] 29]++(c26++(c30++(c34++(c9++([Blk1 pb0 [lst cU8 v5.2.2.code,
     .int .i64 v5.2.2.at_,.int .u64 v5.2.2.seed] 79]++([Blk1 b1 [.nil,.nil,.int .i64 0] 29]++(S0)))))))))):=by simpa only [f6,
     o8] using hS79
   simp only [qg,yi,qb,y6,y8,zk,B0,reduceIte,a7]
   refine zb (us:=[v68,v72,.int .i64 v65.1.Next]) rfl (cs':=[v68,v72,
     .int .i64 v65.1.Next]) (f0 hS80) hW rfl (qo (n7 hv70) (qo (t7 hv74) (qo rfl zl))) (nle rfl) rfl (fun h81 hS82=>?_)
   simp only [qa,qn,B0,reduceIte,a7]
   have e83:=qj hF67
   subst e83
   exact hN61 _ _ ⟨v68,c69,v72,c73,zf0,rfl,rfl,hv70,hv74,
     (o6 (o6 (f0 (f0 (f0 (l6 (i5 (l6 (i5 (l6 (i5 (l6 (i5 hS82)))))))))))))⟩
  ·rw [iteF hc64] at hX58
   simp only [zf,qn,B0,reduceIte,a7]
   have e84:=qj hX58
   subst e84
   exact hN61 _ _ ⟨v25,c26,v29,c30,zf0,rfl,rfl,hv27,hv31,(o6 (o6 (f0 (f0 (f0 (l6 (i5 (l6 (i5 hS47)))))))))⟩
  rintro fr85 h86 ⟨v50,c51,v54,c55,f88,f89,f90,hv52,hv56,hS87⟩
  unfold qc2 at hk59
  obtain ⟨v91,hx92,hF93⟩:=qk hk59
  simp only [qmg,qh,qf,f88,qg,za,B0,reduceIte,a7]
  refine kp rfl (kd hW pb0 v5.2.2 30 v91 hx92 hS87) ?_
  rintro _ h94 ⟨rfl,hS95⟩
  simp only [qa,qmt,wi,qnb,qh,qf,qv,qb,z8,qg,qmx,qz,B0,reduceIte,a7]
  refine qx (t:=(decide (v91.1=0))) (fun hc96=>?_) (fun hc96=>?_)
  ·rw [iteT hc96] at hF93
   simp only [qpl,qf,f88,qg,j0,evp,B0,reduceIte,a7]
   refine ju (n:=1) (f:=cI) [0,1,1000,1001] hS95 rfl rfl (fun v97 c98 h99 hv100 hS101=>?_)
   obtain ⟨v103,hx104,hF105⟩:=qk hF93
   simp only [za,B0,reduceIte,a7]
   refine kp rfl (qdj hW pb0 v91.2 v97 c98 [0,1,1000,1001] hv100 v103 hx104 (f8 hS101)) ?_
   rintro _ h108 ⟨c106,rfl,hv107,hS109⟩
   simp only [f90,qp,qb,a8,a9,b4,q9,zk,B0,reduceIte,a7]
   refine zb (us:=[.int .i64 v103.1]) rfl (cs':=[v50,v54,.int .i64 v103.1]) (i5 hS109) hW rfl rfl (nle rfl) rfl (fun h110 hS111=>?_)
   simp only [qa,ki,qh,qf,f90,qm,B0,reduceIte,a7]
   refine qi (v := .agg [v50,v54,.int .i64 v103.1]) ((zw (l9 _ _ _ hS111)).trans rfl) ?_
   simp only [f89,zk,B0,reduceIte,a7]
   refine zb (us:=[v50,v54,.int .i64 v103.1]) rfl (cs':=[v50,v54,
     .int .i64 v103.1]) (i5 hS111) hW rfl (qo (n7 hv52) (qo (t7 hv56) (qo rfl zl))) (nle rfl) rfl (fun h112 hS113=>?_)
   simp only [qa,q8,B0,reduceIte,a7]
   have he:=qj hF105
   subst he
   refine jk (bb:=b1) (oo:=0) (v := .agg [v50,v54,.int .i64 v103.1]) (by simp only [f89,B0,reduceIte,
     a7]) ((zw (l9 _ _ _ hS113)).trans rfl) ?_
   exact ⟨v50,c51,v54,c55,by first | trivial | rfl,hv52,hv56,(f0 (f0 (l6 (f8 (l6 ((l6 (hS113))))))))⟩
  rw [iteF hc96] at hF93
  simp only [qns,qh,qf,qv,qb,z8,qg,qa,qni,qz,B0,reduceIte,a7]
  refine qx (t:=(decide (v91.1=1))) (fun hc114=>?_) (fun hc114=>?_)
  ·rw [iteT hc114] at hF93
   simp only [qp2,ji,f90,z3,qt,a8,a9,b4,q9,z2,B0,reduceIte,a7]
   refine zc (v:=v50) ((z6 (l9 _ _ _ (f0 hS95))).trans rfl) ?_
   simp only [f90,z3,qt,a8,a9,b4,q9,z2,B0,reduceIte,a7]
   refine zc (v:=v50) ((z6 (l9 _ _ _ (f0 hS95))).trans rfl) ?_
   obtain ⟨x115,hx116,hF117⟩:=qk hF93
   simp only [wn,B0,reduceIte,a7]
   obtain ⟨b118,hb119⟩:=SlF.isrow hv52 (kq hx116)
   refine zc (a18 hv52 hb119 hx116) ?_
   simp only [z3,qt,a8,a9,b4,q9,z2,B0,reduceIte,a7]
   refine zc (v := .bool x115.Fenced) ((SlF.ld (o:=2) hv52 (i5 hS95) hb119 hx116 (fun _=>rfl) (nle rfl)).trans rfl) ?_
   simp only [qhi,qt,jt,wn,B0,reduceIte,a7]
   refine zc (a18 hv52 hb119 hx116) ?_
   simp only [z3,qt,a8,a9,b4,q9,uy,B0,reduceIte,a7]
   refine qfv (f:=qe) (x':=(Broker.mk x115.Epoch x115.Left (!x115.Fenced))) (o:=2) (i:=(0:Int)) (n:=3) hv52 (i5 hS95) hW hb119 hx116
     (fun _=>rfl) rfl rfl (nle rfl) rfl (fun c122 h120 hv123 hS121=>?_)
   have hx124:=k7 (x':=(Broker.mk x115.Epoch x115.Left (!x115.Fenced))) hx116
   simp only [zm,ki,qh,qf,f90,qm,B0,reduceIte,a7]
   refine qi (v := .agg [v50,v54,.int .i64 s48.Next]) ((zw (l9 _ _ _ (i5 hS121))).trans rfl) ?_
   simp only [f89,zk,B0,reduceIte,a7]
   refine zb (us:=[v50,v54,.int .i64 s48.Next]) rfl (cs':=[v50,v54,
     .int .i64 s48.Next]) (f0 hS121) hW rfl (qo (n7 hv123) (qo (t7 hv56) (qo rfl zl))) (nle rfl) rfl (fun h125 hS126=>?_)
   simp only [qa,q8,B0,reduceIte,a7]
   have he:=qj hF117
   subst he
   refine jk (bb:=b1) (oo:=0) (v := .agg [v50,v54,.int .i64 s48.Next]) (by simp only [f89,B0,reduceIte,
     a7]) ((zw (l9 _ _ _ hS126)).trans rfl) ?_
   exact ⟨v50,c122,v54,c55,by first | trivial | rfl,hv123,hv56,(f0 (f0 (f8 (l6 (f0 (l6 (hS126)))))))⟩
  rw [iteF hc114] at hF93
  simp only [qmd,qh,qf,qv,qb,z8,qg,qa,qm1,qz,B0,reduceIte,a7]
  refine qx (t:=(decide (v91.1=2))) (fun hc127=>?_) (fun hc127=>?_)
  ·rw [iteT hc127] at hF93
   simp only [qp8,qh,qf,f90,qp,qb,a8,a9,b4,q9,qm,B0,reduceIte,a7]
   refine qi (v:=v54) ((z6 (l9 _ _ _ (f0 hS95))).trans rfl) ?_
   simp only [zx,qb,a2h hv56,qv,qc7,qa,qpu,qz,B0,reduceIte,a7]
   refine qx (t:=(decide ((0:Int)<(b6 s48.Parts:Int)))) (fun hc128=>?_) (fun hc128=>?_)
   ·rw [iteT hc128] at hF93
    simp only [qo3,ji,f90,qdl,qt,a8,a9,b4,q9,qbc,B0,reduceIte,a7]
    refine qfp (Sep.ltk (f0 hS95)) ?_
    refine zc (v:=v54) ((z6 (l9 _ _ _ (f0 hS95))).trans rfl) ?_
    obtain ⟨v129,hx130,hF131⟩:=qk hF93
    simp only [f88,jm,qt,qa1,B0,reduceIte,a7]
    refine qk3 rfl (ms:=[pb0]) rfl (ql5 (Sep.bne (f8 (f0 hS95))) qjk) hW hS95 rfl (l7 _) (fun b hb=>((l6 hS95).ran b hb).2)
      (fun hWq hSq=>kd hWq pb0 v91.2 5 v129 hx130 hSq) ?_
    rintro _ h132 ⟨rfl,hS133⟩ hback
    replace hS133:=hback _ hS133
    obtain ⟨x134,hx135,hF136⟩:=qk hF131
    simp only [wt,qt,qe1,wn,B0,reduceIte,a7]
    obtain ⟨b137,hb138⟩:=a1y hv56 (kq hx135)
    refine zc (SlN.ia hv56 hb138 hx135) ?_
    obtain ⟨c141,cs142,os143,hv144,hR145,hS146⟩:=a12 (a11 hv56 hb138 Partition.RO.len) hx135 jl Partition.RO.len (o6 hS133)
    obtain ⟨v148,c149,v152,c153,hv150,hv154,rfl,rfl⟩:=hR145
    have hS147:=a13 hS146
    simp only [z3,qt,a8,a9,b4,q9,uy,B0,reduceIte,a7]
    refine qcp (n:=5) (us:=[.int .i64 (d8 .i64 (v129.1 - 1))]) (cs:=[v148,v152,.int .i64 x134.Leader,.int .i64 x134.Epoch,
      .int .i64 x134.Stamp]) (o:=2) (cs':=[v148,v152,.int .i64 (d8 .i64 (v129.1 - 1)),.int .i64 x134.Epoch,
      .int .i64 x134.Stamp]) rfl hv144 rfl hx135 hS147 hW rfl rfl (nle rfl) rfl (fun c156 h139 hv157 hS140=>?_)
    simp only [zm,ki,qh,qf,f90,qm,B0,reduceIte,a7]
    refine qi (v := .agg [v50,v54,.int .i64 s48.Next]) ((zw (l9 _ _ _ (s7 hS140))).trans rfl) ?_
    simp only [f89,zk,B0,reduceIte,a7]
    refine zb (us:=[v50,v54,.int .i64 s48.Next]) rfl (cs':=[v50,v54,
      .int .i64 s48.Next]) (o6 hS140) hW rfl (qo (n7 hv52) (qo (SlG.one hv157) (qo rfl zl))) (nle rfl) rfl (fun h158 hS159=>?_)
    simp only [qa,q8,B0,reduceIte,a7]
    obtain ⟨c160,hv161,hS162⟩:=SlG.cls (e':=(Partition.mk x134.Homes x134.InStep (d8 .i64 (v129.1 - 1)) x134.Epoch x134.Stamp)) (c:=c156) (os:=c149 ++
      (c153)) hv157 rfl hx135 jl (Partition.RI (x:=(Partition.mk x134.Homes x134.InStep (d8 .i64 (v129.1 - 1)) x134.Epoch x134.Stamp)) hv150 hv154) (a1d
      (c1:=c149) (c2:=c153) (i5 (i5 (i5 hS159))))
    have hx163:=k7 (x':=(Partition.mk x134.Homes x134.InStep (d8 .i64 (v129.1 - 1)) x134.Epoch x134.Stamp)) hx135
    have hv164:=a1c hv161
    have he:=qj hF136
    subst he
    refine jk (bb:=b1) (oo:=0) (v := .agg [v50,v54,.int .i64 s48.Next]) (by simp only [f89,B0,reduceIte,
      a7]) ((zw (l9 _ _ _ (f8 hS162))).trans rfl) ?_
    exact ⟨v50,c51,v54,c160,by first | trivial | rfl,hv52,hv164,(f0 (f8 (f8 (l6 (f0 (l6 (f8 hS162)))))))⟩
   rw [iteF hc128] at hF93
   simp only [zf,ki,qh,qf,f90,qm,B0,reduceIte,a7]
   refine qi (v := .agg [v50,v54,.int .i64 s48.Next]) ((zw (l9 _ _ _ (f0 hS95))).trans rfl) ?_
   simp only [f89,zk,B0,reduceIte,a7]
   refine zb (us:=[v50,v54,.int .i64 s48.Next]) rfl (cs':=[v50,v54,
     .int .i64 s48.Next]) (f8 hS95) hW rfl (qo (n7 hv52) (qo (t7 hv56) (qo rfl zl))) (nle rfl) rfl (fun h165 hS166=>?_)
   simp only [qa,q8,B0,reduceIte,a7]
   have he:=qj hF93
   subst he
   refine jk (bb:=b1) (oo:=0) (v := .agg [v50,v54,.int .i64 s48.Next]) (by simp only [f89,B0,reduceIte,
     a7]) ((zw (l9 _ _ _ hS166)).trans rfl) ?_
   exact ⟨v50,c51,v54,c55,by first | trivial | rfl,hv52,hv56,(f0 (f0 (l6 (f8 (l6 (hS166))))))⟩
  rw [iteF hc127] at hF93
  simp only [qm3,qh,qf,qv,qb,z8,qg,qa,qms,qz,B0,reduceIte,a7]
  refine qx (t:=(decide (v91.1=3))) (fun hc167=>?_) (fun hc167=>?_)
  ·rw [iteT hc167] at hF93
   simp only [qme,qh,qf,f90,qp,qb,a8,a9,b4,q9,qm,B0,reduceIte,a7]
   refine qi (v:=v54) ((z6 (l9 _ _ _ (f0 hS95))).trans rfl) ?_
   simp only [zx,qb,a2h hv56,qv,qc7,qa,qmu,qz,B0,reduceIte,a7]
   refine qx (t:=(decide ((0:Int)<(b6 s48.Parts:Int)))) (fun hc168=>?_) (fun hc168=>?_)
   ·rw [iteT hc168] at hF93
    simp only [qpb,ji,f90,qdl,qt,a8,a9,b4,q9,qbc,B0,reduceIte,a7]
    refine qfp (Sep.ltk (f0 hS95)) ?_
    refine zc (v:=v54) ((z6 (l9 _ _ _ (f0 hS95))).trans rfl) ?_
    simp only [f88,jm,qt,qa0,evp,B0,reduceIte,a7]
    refine xm (n:=1) (f:=cI) [1000,1001] hS95 rfl rfl (fun v170 c171 h172 hv173 hS174 hq169=>?_)
    obtain ⟨v176,hx177,hF178⟩:=qk hF93
    simp only [qa1,B0,reduceIte,a7]
    refine qow rfl (ms:=[pb0]) (q89 (SlF.noptr hv173)) (ql5 (Sep.bne (f0 (i5 hS174))) qjk) hW (f8 hS174) rfl hq169 (fun b hb =>
      ((l6 hS95).ran b hb).2) (fun hWq hSq=>qdj hWq pb0 v91.2 v170 c171 [1000,1001] hv173 v176 hx177 hSq) ?_
    rintro _ h181 ⟨c179,rfl,hv180,hS182⟩ hback
    replace hS182:=hback _ _ hS182
    obtain ⟨x183,hx184,hF185⟩:=qk hF178
    simp only [wn,B0,reduceIte,a7]
    obtain ⟨b186,hb187⟩:=a1y hv56 (kq hx184)
    refine zc (SlN.ia hv56 hb187 hx184) ?_
    obtain ⟨c190,cs191,os192,hv193,hR194,hS195⟩:=a12 (a11 hv56 hb187 Partition.RO.len) hx184 jl Partition.RO.len (s7 hS182)
    obtain ⟨v197,c198,v201,c202,hv199,hv203,rfl,rfl⟩:=hR194
    have hS196:=a13 hS195
    simp only [z3,qt,a8,a9,b4,q9,uy,B0,reduceIte,a7]
    refine qcp (n:=5) (us:=[.int .i64 v176.1]) (cs:=[v197,v201,.int .i64 x183.Leader,.int .i64 x183.Epoch,.int .i64 x183.Stamp]) (o:=4) (cs':=[v197,v201,
      .int .i64 x183.Leader,.int .i64 x183.Epoch,.int .i64 v176.1]) rfl hv193 rfl hx184 hS196 hW rfl rfl (nle rfl) rfl (fun c205 h188 hv206 hS189=>?_)
    simp only [zm,ki,qh,qf,f90,qm,B0,reduceIte,a7]
    refine qi (v := .agg [v50,v54,.int .i64 s48.Next]) ((zw (l9 _ _ _ (r5 hS189))).trans rfl) ?_
    simp only [f89,zk,B0,reduceIte,a7]
    refine zb (us:=[v50,v54,.int .i64 s48.Next]) rfl (cs':=[v50,v54,
      .int .i64 s48.Next]) (s7 hS189) hW rfl (qo (n7 hv52) (qo (SlG.one hv206) (qo rfl zl))) (nle rfl) rfl (fun h207 hS208=>?_)
    simp only [qa,q8,B0,reduceIte,a7]
    obtain ⟨c209,hv210,hS211⟩:=SlG.cls (e':=(Partition.mk x183.Homes x183.InStep x183.Leader x183.Epoch v176.1)) (c:=c205) (os:=c198 ++
      (c202)) hv206 rfl hx184 jl (Partition.RI (x:=(Partition.mk x183.Homes x183.InStep x183.Leader x183.Epoch v176.1)) hv199 hv203) (a1d (c1:=c198)
      (c2:=c202) (i5 (i5 (i5 hS208))))
    have hx212:=k7 (x':=(Partition.mk x183.Homes x183.InStep x183.Leader x183.Epoch v176.1)) hx184
    have hv213:=a1c hv210
    have he:=qj hF185
    subst he
    refine jk (bb:=b1) (oo:=0) (v := .agg [v50,v54,.int .i64 s48.Next]) (by simp only [f89,B0,reduceIte,
      a7]) ((zw (l9 _ _ _ (f8 hS211))).trans rfl) ?_
    exact ⟨v50,c51,v54,c209,by first | trivial | rfl,hv52,hv213,(f0 (f8 (f8 (l6 (f0 (l6 (f0 (l6 (f8 hS211)))))))))⟩
   rw [iteF hc168] at hF93
   simp only [zf,ki,qh,qf,f90,qm,B0,reduceIte,a7]
   refine qi (v := .agg [v50,v54,.int .i64 s48.Next]) ((zw (l9 _ _ _ (f0 hS95))).trans rfl) ?_
   simp only [f89,zk,B0,reduceIte,a7]
   refine zb (us:=[v50,v54,.int .i64 s48.Next]) rfl (cs':=[v50,v54,
     .int .i64 s48.Next]) (f8 hS95) hW rfl (qo (n7 hv52) (qo (t7 hv56) (qo rfl zl))) (nle rfl) rfl (fun h214 hS215=>?_)
   simp only [qa,q8,B0,reduceIte,a7]
   have he:=qj hF93
   subst he
   refine jk (bb:=b1) (oo:=0) (v := .agg [v50,v54,.int .i64 s48.Next]) (by simp only [f89,B0,reduceIte,
     a7]) ((zw (l9 _ _ _ hS215)).trans rfl) ?_
   exact ⟨v50,c51,v54,c55,by first | trivial | rfl,hv52,hv56,(f0 (f0 (l6 (f8 (l6 (hS215))))))⟩
  rw [iteF hc167] at hF93
  simp only [zf,ki,qh,qf,f90,qm,B0,reduceIte,a7]
  refine qi (v := .agg [v50,v54,.int .i64 s48.Next]) ((zw (l9 _ _ _ (f0 hS95))).trans rfl) ?_
  simp only [f89,zk,B0,reduceIte,a7]
  refine zb (us:=[v50,v54,.int .i64 s48.Next]) rfl (cs':=[v50,v54,
    .int .i64 s48.Next]) (f8 hS95) hW rfl (qo (n7 hv52) (qo (t7 hv56) (qo rfl zl))) (nle rfl) rfl (fun h216 hS217=>?_)
  simp only [qa,q8,B0,reduceIte,a7]
  have he:=qj hF93
  subst he
  refine jk (bb:=b1) (oo:=0) (v := .agg [v50,v54,.int .i64 s48.Next]) (by simp only [f89,B0,reduceIte,
    a7]) ((zw (l9 _ _ _ hS217)).trans rfl) ?_
  exact ⟨v50,c51,v54,c55,by first | trivial | rfl,hv52,hv56,(f0 (f0 (l6 (f8 (l6 (hS217))))))⟩
 rw [iteF hc14] at hF7
 obtain ⟨v219,hx220,hF221⟩:=qk hF7
 simp only [zf,qm0,qh,qf,qg,za,B0,reduceIte,a7]
 refine wq rfl hS13 (ql qu (ql (SlN.snap hv10 _ hS13 rfl Command.RO) zd)) (qfc (fun b hb=>decide_eq_true hb) k v5.1 v5.2.1 v219 hx220) ?_
 rintro _ h234 ⟨v222,c223,v226,c227,v230,c231,rfl,hv224,hv228,hv232,hS235⟩
 refine ⟨_,u6 (qo (uj (qo (a0k hv224) (qo (a01 hv228) (qo rfl zl)))) (qo (qjl (a0k hv232)) (qo rfl zl))),hS235,
   (jg (a1n hv224 (fun _=>rfl)) (jg (a2d hv228 Partition.RO) (jg (a1n hv232 (fun _=>rfl)) ye))),fun h236 hS237=>?_⟩
 have hS238:Sep h236 lo (c223++(c227++(c231++(c9++([Blk1 pb0 [lst cU8 v5.2.2.code,.int .i64 v5.2.2.at_,.int .u64 v5.2.2.seed] 79]++([Blk1 b1 [.nil,.nil,
   .int .i64 0] 29]++(S0))))))):=by simpa only [f6,o8] using hS237
 simp only [qg,yi,qb,y6,y8,qgx,z5,B0,reduceIte,a7]
 refine zt hS238 (fun b239 h240 hS241=>?_)
 simp only [zk,B0,reduceIte,a7]
 refine zb (us:=[v222,v226,.int .i64 v219.1.Next]) rfl (cs':=[v222,v226,
   .int .i64 v219.1.Next]) hS241 hW rfl (qo (n7 hv224) (qo (t7 hv228) (qo rfl zl))) (nle rfl) rfl (fun h243 hS244=>?_)
 simp only [qg,qa,qm4,qh,qf,je,qb,jt,qo4,qz,B0,reduceIte,a7]
 obtain ⟨s245,hX255,hk256⟩:=qk hF221
 refine ue (t:=(!v219.2.2)) (fun fr' h'=>∃ v247 c248 v251 c252,
   fr' 0 = .ptr pb0 0∧fr' 2 = .ptr b1 0∧fr' 5 = .ptr b239 0∧SlF qe 3 86 v247 s245.Brokers c248∧SlN Partition.R 5 39 v251 s245.Parts c252∧Sep h' lo
   ([Blk1 pb0 [lst cU8 v5.2.2.code,.int .i64 v5.2.2.at_,.int .u64 v5.2.2.seed] 79]++([Blk1 b1 [.nil,.nil,.int .i64 0] 29]++([Blk1 b239 [v247,v251,
   .int .i64 s245.Next] 29]++(c248++(c252++(S0))))))) (fun Q257 hN258 hR259 hE260=>⟨fun hc261=>?_,fun hc261=>?_⟩) ?_
 ·rw [iteT hc261] at hX255
  obtain ⟨v262,hx263,hF264⟩:=qk hX255
  simp only [qpm,qf,za,B0,reduceIte,a7]
  refine wq rfl hS244 (ql qu zd) (qap (fun b hb=>decide_eq_true hb) k 2 v262 hx263) ?_
  rintro _ h273 ⟨v265,c266,v269,c270,rfl,hv267,hv271,hS274⟩
  refine ⟨_,u6 (qo (uj (qo (a0k hv267) (qo (a01 hv271) (qo rfl zl)))) (qo rfl zl)),hS274,
    (jg (a1n hv267 (fun _=>rfl)) (jg (a2d hv271 Partition.RO) ye)),fun h275 hS276=>?_⟩
  have hS277:Sep h275 lo (c266++(c270++([Blk1 b239 [v222,v226,.int .i64 v219.1.Next] 29]++(c223++(c227++(c231++(c9++([Blk1 pb0 [lst cU8 v5.2.2.code,
    .int .i64 v5.2.2.at_,.int .u64 v5.2.2.seed] 79]++([Blk1 b1 [.nil,.nil,.int .i64 0] 29]++(S0)))))))))):=by simpa only [f6,
    o8] using hS276
  simp only [qg,yi,qb,y6,y8,zk,B0,reduceIte,a7]
  refine zb (us:=[v265,v269,.int .i64 v262.1.Next]) rfl (cs':=[v265,v269,
    .int .i64 v262.1.Next]) (f0 hS277) hW rfl (qo (n7 hv267) (qo (t7 hv271) (qo rfl zl))) (nle rfl) rfl (fun h278 hS279=>?_)
  simp only [qa,qn,B0,reduceIte,a7]
  have e280:=qj hF264
  subst e280
  exact hN258 _ _ ⟨v265,c266,v269,c270,zf0,rfl,rfl,hv267,hv271,
    (o6 (o6 (f0 (f0 (f0 (l6 (i5 (l6 (i5 (l6 (i5 (l6 (i5 hS279)))))))))))))⟩
 ·rw [iteF hc261] at hX255
  simp only [zf,qn,B0,reduceIte,a7]
  have e281:=qj hX255
  subst e281
  exact hN258 _ _ ⟨v222,c223,v226,c227,zf0,rfl,rfl,hv224,hv228,(o6 (o6 (f0 (f0 (f0 (l6 (i5 (l6 (i5 hS244)))))))))⟩
 rintro fr282 h283 ⟨v247,c248,v251,c252,f285,f286,f287,hv249,hv253,hS284⟩
 unfold qho at hk256
 obtain ⟨v288,hx289,hF290⟩:=qk hk256
 simp only [qmg,qh,qf,f285,qg,za,B0,reduceIte,a7]
 refine kp rfl (kd hW pb0 v5.2.2 30 v288 hx289 hS284) ?_
 rintro _ h291 ⟨rfl,hS292⟩
 simp only [qa,qmt,wi,qnb,qh,qf,qv,qb,z8,qg,qmx,qz,B0,reduceIte,a7]
 refine qx (t:=(decide (v288.1=0))) (fun hc293=>?_) (fun hc293=>?_)
 ·rw [iteT hc293] at hF290
  simp only [qpl,qf,f285,qg,j0,evp,B0,reduceIte,a7]
  refine ju (n:=1) (f:=cI) [0,1,1000,1001] hS292 rfl rfl (fun v294 c295 h296 hv297 hS298=>?_)
  obtain ⟨v300,hx301,hF302⟩:=qk hF290
  simp only [za,B0,reduceIte,a7]
  refine kp rfl (qdj hW pb0 v288.2 v294 c295 [0,1,1000,1001] hv297 v300 hx301 (f8 hS298)) ?_
  rintro _ h305 ⟨c303,rfl,hv304,hS306⟩
  simp only [f287,qp,qb,a8,a9,b4,q9,zk,B0,reduceIte,a7]
  refine zb (us:=[.int .i64 v300.1]) rfl (cs':=[v247,v251,.int .i64 v300.1]) (i5 hS306) hW rfl rfl (nle rfl) rfl (fun h307 hS308=>?_)
  simp only [qa,ki,qh,qf,f287,qm,B0,reduceIte,a7]
  refine qi (v := .agg [v247,v251,.int .i64 v300.1]) ((zw (l9 _ _ _ hS308)).trans rfl) ?_
  simp only [f286,zk,B0,reduceIte,a7]
  refine zb (us:=[v247,v251,.int .i64 v300.1]) rfl (cs':=[v247,v251,
    .int .i64 v300.1]) (i5 hS308) hW rfl (qo (n7 hv249) (qo (t7 hv253) (qo rfl zl))) (nle rfl) rfl (fun h309 hS310=>?_)
  simp only [qa,q8,B0,reduceIte,a7]
  have he:=qj hF302
  subst he
  refine jk (bb:=b1) (oo:=0) (v := .agg [v247,v251,.int .i64 v300.1]) (by simp only [f286,B0,reduceIte,
    a7]) ((zw (l9 _ _ _ hS310)).trans rfl) ?_
  exact ⟨v247,c248,v251,c252,by first | trivial | rfl,hv249,hv253,(f0 (f0 (l6 (f8 (l6 ((l6 (hS310))))))))⟩
 rw [iteF hc293] at hF290
 simp only [qns,qh,qf,qv,qb,z8,qg,qa,qni,qz,B0,reduceIte,a7]
 refine qx (t:=(decide (v288.1=1))) (fun hc311=>?_) (fun hc311=>?_)
 ·rw [iteT hc311] at hF290
  simp only [qp2,ji,f287,z3,qt,a8,a9,b4,q9,z2,B0,reduceIte,a7]
  refine zc (v:=v247) ((z6 (l9 _ _ _ (f0 hS292))).trans rfl) ?_
  simp only [f287,z3,qt,a8,a9,b4,q9,z2,B0,reduceIte,a7]
  refine zc (v:=v247) ((z6 (l9 _ _ _ (f0 hS292))).trans rfl) ?_
  obtain ⟨x312,hx313,hF314⟩:=qk hF290
  simp only [wn,B0,reduceIte,a7]
  obtain ⟨b315,hb316⟩:=SlF.isrow hv249 (kq hx313)
  refine zc (a18 hv249 hb316 hx313) ?_
  simp only [z3,qt,a8,a9,b4,q9,z2,B0,reduceIte,a7]
  refine zc (v := .bool x312.Fenced) ((SlF.ld (o:=2) hv249 (i5 hS292) hb316 hx313 (fun _=>rfl) (nle rfl)).trans rfl) ?_
  simp only [qhi,qt,jt,wn,B0,reduceIte,a7]
  refine zc (a18 hv249 hb316 hx313) ?_
  simp only [z3,qt,a8,a9,b4,q9,uy,B0,reduceIte,a7]
  refine qfv (f:=qe) (x':=(Broker.mk x312.Epoch x312.Left (!x312.Fenced))) (o:=2) (i:=(0:Int)) (n:=3) hv249 (i5 hS292) hW hb316 hx313
    (fun _=>rfl) rfl rfl (nle rfl) rfl (fun c319 h317 hv320 hS318=>?_)
  have hx321:=k7 (x':=(Broker.mk x312.Epoch x312.Left (!x312.Fenced))) hx313
  simp only [zm,ki,qh,qf,f287,qm,B0,reduceIte,a7]
  refine qi (v := .agg [v247,v251,.int .i64 s245.Next]) ((zw (l9 _ _ _ (i5 hS318))).trans rfl) ?_
  simp only [f286,zk,B0,reduceIte,a7]
  refine zb (us:=[v247,v251,.int .i64 s245.Next]) rfl (cs':=[v247,v251,
    .int .i64 s245.Next]) (f0 hS318) hW rfl (qo (n7 hv320) (qo (t7 hv253) (qo rfl zl))) (nle rfl) rfl (fun h322 hS323=>?_)
  simp only [qa,q8,B0,reduceIte,a7]
  have he:=qj hF314
  subst he
  refine jk (bb:=b1) (oo:=0) (v := .agg [v247,v251,.int .i64 s245.Next]) (by simp only [f286,B0,reduceIte,
    a7]) ((zw (l9 _ _ _ hS323)).trans rfl) ?_
  exact ⟨v247,c319,v251,c252,by first | trivial | rfl,hv320,hv253,(f0 (f0 (f8 (l6 (f0 (l6 (hS323)))))))⟩
 rw [iteF hc311] at hF290
 simp only [qmd,qh,qf,qv,qb,z8,qg,qa,qm1,qz,B0,reduceIte,a7]
 refine qx (t:=(decide (v288.1=2))) (fun hc324=>?_) (fun hc324=>?_)
 ·rw [iteT hc324] at hF290
  simp only [qp8,qh,qf,f287,qp,qb,a8,a9,b4,q9,qm,B0,reduceIte,a7]
  refine qi (v:=v251) ((z6 (l9 _ _ _ (f0 hS292))).trans rfl) ?_
  simp only [zx,qb,a2h hv253,qv,qc7,qa,qpu,qz,B0,reduceIte,a7]
  refine qx (t:=(decide ((0:Int)<(b6 s245.Parts:Int)))) (fun hc325=>?_) (fun hc325=>?_)
  ·rw [iteT hc325] at hF290
   simp only [qo3,ji,f287,qdl,qt,a8,a9,b4,q9,qbc,B0,reduceIte,a7]
   refine qfp (Sep.ltk (f0 hS292)) ?_
   refine zc (v:=v251) ((z6 (l9 _ _ _ (f0 hS292))).trans rfl) ?_
   obtain ⟨v326,hx327,hF328⟩:=qk hF290
   simp only [f285,jm,qt,qa1,B0,reduceIte,a7]
   refine qk3 rfl (ms:=[pb0]) rfl (ql5 (Sep.bne (f8 (f0 hS292))) qjk) hW hS292 rfl (l7 _) (fun b hb=>((l6 hS292).ran b hb).2)
     (fun hWq hSq=>kd hWq pb0 v288.2 5 v326 hx327 hSq) ?_
   rintro _ h329 ⟨rfl,hS330⟩ hback
   replace hS330:=hback _ hS330
   obtain ⟨x331,hx332,hF333⟩:=qk hF328
   simp only [wt,qt,qe1,wn,B0,reduceIte,a7]
   obtain ⟨b334,hb335⟩:=a1y hv253 (kq hx332)
   refine zc (SlN.ia hv253 hb335 hx332) ?_
   obtain ⟨c338,cs339,os340,hv341,hR342,hS343⟩:=a12 (a11 hv253 hb335 Partition.RO.len) hx332 jl Partition.RO.len (o6 hS330)
   obtain ⟨v345,c346,v349,c350,hv347,hv351,rfl,rfl⟩:=hR342
   have hS344:=a13 hS343
   simp only [z3,qt,a8,a9,b4,q9,uy,B0,reduceIte,a7]
   refine qcp (n:=5) (us:=[.int .i64 (d8 .i64 (v326.1 - 1))]) (cs:=[v345,v349,.int .i64 x331.Leader,.int .i64 x331.Epoch,
     .int .i64 x331.Stamp]) (o:=2) (cs':=[v345,v349,.int .i64 (d8 .i64 (v326.1 - 1)),.int .i64 x331.Epoch,
     .int .i64 x331.Stamp]) rfl hv341 rfl hx332 hS344 hW rfl rfl (nle rfl) rfl (fun c353 h336 hv354 hS337=>?_)
   simp only [zm,ki,qh,qf,f287,qm,B0,reduceIte,a7]
   refine qi (v := .agg [v247,v251,.int .i64 s245.Next]) ((zw (l9 _ _ _ (s7 hS337))).trans rfl) ?_
   simp only [f286,zk,B0,reduceIte,a7]
   refine zb (us:=[v247,v251,.int .i64 s245.Next]) rfl (cs':=[v247,v251,
     .int .i64 s245.Next]) (o6 hS337) hW rfl (qo (n7 hv249) (qo (SlG.one hv354) (qo rfl zl))) (nle rfl) rfl (fun h355 hS356=>?_)
   simp only [qa,q8,B0,reduceIte,a7]
   obtain ⟨c357,hv358,hS359⟩:=SlG.cls (e':=(Partition.mk x331.Homes x331.InStep (d8 .i64 (v326.1 - 1)) x331.Epoch x331.Stamp)) (c:=c353) (os:=c346 ++
     (c350)) hv354 rfl hx332 jl (Partition.RI (x:=(Partition.mk x331.Homes x331.InStep (d8 .i64 (v326.1 - 1)) x331.Epoch x331.Stamp)) hv347 hv351) (a1d
     (c1:=c346) (c2:=c350) (i5 (i5 (i5 hS356))))
   have hx360:=k7 (x':=(Partition.mk x331.Homes x331.InStep (d8 .i64 (v326.1 - 1)) x331.Epoch x331.Stamp)) hx332
   have hv361:=a1c hv358
   have he:=qj hF333
   subst he
   refine jk (bb:=b1) (oo:=0) (v := .agg [v247,v251,.int .i64 s245.Next]) (by simp only [f286,B0,reduceIte,
     a7]) ((zw (l9 _ _ _ (f8 hS359))).trans rfl) ?_
   exact ⟨v247,c248,v251,c357,by first | trivial | rfl,hv249,hv361,(f0 (f8 (f8 (l6 (f0 (l6 (f8 hS359)))))))⟩
  rw [iteF hc325] at hF290
  simp only [zf,ki,qh,qf,f287,qm,B0,reduceIte,a7]
  refine qi (v := .agg [v247,v251,.int .i64 s245.Next]) ((zw (l9 _ _ _ (f0 hS292))).trans rfl) ?_
  simp only [f286,zk,B0,reduceIte,a7]
  refine zb (us:=[v247,v251,.int .i64 s245.Next]) rfl (cs':=[v247,v251,
    .int .i64 s245.Next]) (f8 hS292) hW rfl (qo (n7 hv249) (qo (t7 hv253) (qo rfl zl))) (nle rfl) rfl (fun h362 hS363=>?_)
  simp only [qa,q8,B0,reduceIte,a7]
  have he:=qj hF290
  subst he
  refine jk (bb:=b1) (oo:=0) (v := .agg [v247,v251,.int .i64 s245.Next]) (by simp only [f286,B0,reduceIte,
    a7]) ((zw (l9 _ _ _ hS363)).trans rfl) ?_
  exact ⟨v247,c248,v251,c252,by first | trivial | rfl,hv249,hv253,(f0 (f0 (l6 (f8 (l6 (hS363))))))⟩
 rw [iteF hc324] at hF290
 simp only [qm3,qh,qf,qv,qb,z8,qg,qa,qms,qz,B0,reduceIte,a7]
 refine qx (t:=(decide (v288.1=3))) (fun hc364=>?_) (fun hc364=>?_)
 ·rw [iteT hc364] at hF290
  simp only [qme,qh,qf,f287,qp,qb,a8,a9,b4,q9,qm,B0,reduceIte,a7]
  refine qi (v:=v251) ((z6 (l9 _ _ _ (f0 hS292))).trans rfl) ?_
  simp only [zx,qb,a2h hv253,qv,qc7,qa,qmu,qz,B0,reduceIte,a7]
  refine qx (t:=(decide ((0:Int)<(b6 s245.Parts:Int)))) (fun hc365=>?_) (fun hc365=>?_)
  ·rw [iteT hc365] at hF290
   simp only [qpb,ji,f287,qdl,qt,a8,a9,b4,q9,qbc,B0,reduceIte,a7]
   refine qfp (Sep.ltk (f0 hS292)) ?_
   refine zc (v:=v251) ((z6 (l9 _ _ _ (f0 hS292))).trans rfl) ?_
   simp only [f285,jm,qt,qa0,evp,B0,reduceIte,a7]
   refine xm (n:=1) (f:=cI) [1000,1001] hS292 rfl rfl (fun v367 c368 h369 hv370 hS371 hq366=>?_)
   obtain ⟨v373,hx374,hF375⟩:=qk hF290
   simp only [qa1,B0,reduceIte,a7]
   refine qow rfl (ms:=[pb0]) (q89 (SlF.noptr hv370)) (ql5 (Sep.bne (f0 (i5 hS371))) qjk) hW (f8 hS371) rfl hq366 (fun b hb =>
     ((l6 hS292).ran b hb).2) (fun hWq hSq=>qdj hWq pb0 v288.2 v367 c368 [1000,1001] hv370 v373 hx374 hSq) ?_
   rintro _ h378 ⟨c376,rfl,hv377,hS379⟩ hback
   replace hS379:=hback _ _ hS379
   obtain ⟨x380,hx381,hF382⟩:=qk hF375
   simp only [wn,B0,reduceIte,a7]
   obtain ⟨b383,hb384⟩:=a1y hv253 (kq hx381)
   refine zc (SlN.ia hv253 hb384 hx381) ?_
   obtain ⟨c387,cs388,os389,hv390,hR391,hS392⟩:=a12 (a11 hv253 hb384 Partition.RO.len) hx381 jl Partition.RO.len (s7 hS379)
   obtain ⟨v394,c395,v398,c399,hv396,hv400,rfl,rfl⟩:=hR391
   have hS393:=a13 hS392
   simp only [z3,qt,a8,a9,b4,q9,uy,B0,reduceIte,a7]
   refine qcp (n:=5) (us:=[.int .i64 v373.1]) (cs:=[v394,v398,.int .i64 x380.Leader,.int .i64 x380.Epoch,.int .i64 x380.Stamp]) (o:=4) (cs':=[v394,v398,
     .int .i64 x380.Leader,.int .i64 x380.Epoch,.int .i64 v373.1]) rfl hv390 rfl hx381 hS393 hW rfl rfl (nle rfl) rfl (fun c402 h385 hv403 hS386=>?_)
   simp only [zm,ki,qh,qf,f287,qm,B0,reduceIte,a7]
   refine qi (v := .agg [v247,v251,.int .i64 s245.Next]) ((zw (l9 _ _ _ (r5 hS386))).trans rfl) ?_
   simp only [f286,zk,B0,reduceIte,a7]
   refine zb (us:=[v247,v251,.int .i64 s245.Next]) rfl (cs':=[v247,v251,
     .int .i64 s245.Next]) (s7 hS386) hW rfl (qo (n7 hv249) (qo (SlG.one hv403) (qo rfl zl))) (nle rfl) rfl (fun h404 hS405=>?_)
   simp only [qa,q8,B0,reduceIte,a7]
   obtain ⟨c406,hv407,hS408⟩:=SlG.cls (e':=(Partition.mk x380.Homes x380.InStep x380.Leader x380.Epoch v373.1)) (c:=c402) (os:=c395++(c399)) hv403 rfl hx381 jl
     (Partition.RI (x:=(Partition.mk x380.Homes x380.InStep x380.Leader x380.Epoch v373.1)) hv396 hv400) (a1d (c1:=c395) (c2:=c399) (i5 (i5 (i5 hS405))))
   have hx409:=k7 (x':=(Partition.mk x380.Homes x380.InStep x380.Leader x380.Epoch v373.1)) hx381
   have hv410:=a1c hv407
   have he:=qj hF382
   subst he
   refine jk (bb:=b1) (oo:=0) (v := .agg [v247,v251,.int .i64 s245.Next]) (by simp only [f286,B0,reduceIte,
     a7]) ((zw (l9 _ _ _ (f8 hS408))).trans rfl) ?_
   exact ⟨v247,c248,v251,c406,by first | trivial | rfl,hv249,hv410,(f0 (f8 (f8 (l6 (f0 (l6 (f0 (l6 (f8 hS408)))))))))⟩
  rw [iteF hc365] at hF290
  simp only [zf,ki,qh,qf,f287,qm,B0,reduceIte,a7]
  refine qi (v := .agg [v247,v251,.int .i64 s245.Next]) ((zw (l9 _ _ _ (f0 hS292))).trans rfl) ?_
  simp only [f286,zk,B0,reduceIte,a7]
  refine zb (us:=[v247,v251,.int .i64 s245.Next]) rfl (cs':=[v247,v251,
    .int .i64 s245.Next]) (f8 hS292) hW rfl (qo (n7 hv249) (qo (t7 hv253) (qo rfl zl))) (nle rfl) rfl (fun h411 hS412=>?_)
  simp only [qa,q8,B0,reduceIte,a7]
  have he:=qj hF290
  subst he
  refine jk (bb:=b1) (oo:=0) (v := .agg [v247,v251,.int .i64 s245.Next]) (by simp only [f286,B0,reduceIte,
    a7]) ((zw (l9 _ _ _ hS412)).trans rfl) ?_
  exact ⟨v247,c248,v251,c252,by first | trivial | rfl,hv249,hv253,(f0 (f0 (l6 (f8 (l6 (hS412))))))⟩
 rw [iteF hc364] at hF290
 simp only [zf,ki,qh,qf,f287,qm,B0,reduceIte,a7]
 refine qi (v := .agg [v247,v251,.int .i64 s245.Next]) ((zw (l9 _ _ _ (f0 hS292))).trans rfl) ?_
 simp only [f286,zk,B0,reduceIte,a7]
 refine zb (us:=[v247,v251,.int .i64 s245.Next]) rfl (cs':=[v247,v251,
   .int .i64 s245.Next]) (f8 hS292) hW rfl (qo (n7 hv249) (qo (t7 hv253) (qo rfl zl))) (nle rfl) rfl (fun h413 hS414=>?_)
 simp only [qa,q8,B0,reduceIte,a7]
 have he:=qj hF290
 subst he
 refine jk (bb:=b1) (oo:=0) (v := .agg [v247,v251,.int .i64 s245.Next]) (by simp only [f286,B0,reduceIte,
   a7]) ((zw (l9 _ _ _ hS414)).trans rfl) ?_
 exact ⟨v247,c248,v251,c252,by first | trivial | rfl,hv249,hv253,(f0 (f0 (l6 (f8 (l6 (hS414))))))⟩
end Go.Proofs.Ytjloihcijdcpeaa.X
namespace Go.Proofs.Ytjloihcijdcpeaa.X
open Go
theorem qid {W:Nat→Bool}{h:Heap} (hW:∀ b,
  (geL h.length) b→W b=true) (k:Nat) (code_0:List Int) (r:Control × Command) (hF:u7 k code_0=some r) : Ret E W 17 [lst cU8 code_0] h
  (fun v h'=>∃ rv0_0 rc0_0 rv0_1 rc0_1 rv1_5 rc1_5,v = .tup [.agg [rv0_0,rv0_1,.int .i64 r.1.Next],.agg [.int .i64 r.2.Kind,.int .i64 r.2.Broker,.int .i64 r.2.Epoch,
  .int .i64 r.2.Part,.int .i64 r.2.Stamp,
  rv1_5]]∧SlF qe 3 86 rv0_0 r.1.Brokers rc0_0∧SlN Partition.R 5 39 rv0_1 r.1.Parts rc0_1∧SlF cI 1 3 rv1_5 r.2.InStep rc1_5∧Sep h' (geL h.length) (rc0_0 ++
  (rc0_1++(rc1_5++([]))))):=by
 refine Ret.of (fn:=x17) rfl (Run.of ?_)
 unfold u7 at hF
 have zf0:zj [lst cU8 code_0] 0=lst cU8 code_0:=rfl
 generalize zj [lst cU8 code_0]=fr0 at zf0 ⊢
 have hS:Sep h (geL h.length) []:=a0t h
 simp only [x17,qh,qf,z5,B0,reduceIte,a7]
 refine zt hS (fun b1 h2 hS3=>?_)
 simp only [z5,B0,reduceIte,a7]
 refine zt hS3 (fun b5 h6 hS7=>?_)
 simp only [qa,q5w,qh,qf,zf0,qg,run_build,evp,B0,reduceIte,a7]
 refine qi (v := .agg [lst cU8 code_0,.int .i64 0,.int .u64 0]) rfl ?_
 simp only [jp,B0,reduceIte,a7]
 refine jc (cs:=[lst cU8 code_0,.int .i64 0,.int .u64 0]) hS7 rfl rfl rfl (fun b9 h10 hS11=>?_)
 obtain ⟨v13,hx14,hF15⟩:=qk hF
 simp only [qg,qa,q3g,qh,qf,za,B0,reduceIte,a7]
 refine kp rfl (qfd hW k b9 (L1Cur.mk code_0 0 0) v13 hx14 hS11) ?_
 rintro _ h24 ⟨v16,c17,v20,c21,rfl,hv18,hv22,hS25⟩
 simp only [z5,B0,reduceIte,a7]
 refine zt hS25 (fun b26 h27 hS28=>?_)
 simp only [zk,B0,reduceIte,a7]
 refine zb (us:=[v16,v20,.int .i64 v13.1.Next]) rfl (cs':=[v16,v20,
   .int .i64 v13.1.Next]) hS28 hW rfl (qo (n7 hv18) (qo (t7 hv22) (qo rfl zl))) (nle rfl) rfl (fun h30 hS31=>?_)
 simp only [qa,B0,reduceIte,a7]
 refine zq hS31 hW (by simp only [B0,reduceIte,a7]) (fun h32 hS33=>?_)
 simp only [zp,qzm,qh,ji,qbc,qci,B0,reduceIte,a7]
 refine zc (v := .agg [v16,v20,.int .i64 v13.1.Next]) rfl ?_
 simp only [jm,qt,z2,B0,reduceIte,a7]
 refine zc (v := .agg [v16,v20,.int .i64 v13.1.Next]) rfl ?_
 obtain ⟨v34,hx35,hF36⟩:=qk hF15
 simp only [qoe,B0,reduceIte,a7]
 refine q93 rfl hW (f0 (f8 (f8 hS33))) (fun hWq hSq=>qgl hWq k b9 v13.2 v13.1 v16 c17 hv18 v20 c21 hv22 v34 hx35 hSq) ?_
 rintro _ h45 ⟨v37,c38,c41,c43,rfl,hv39,hv42,hv44,hS46⟩ hback
 replace hS46:=hback _ hS46
 simp only [uy,B0,reduceIte,a7]
 refine qay (us:=[v16,v20,.int .i64 v13.1.Next]) rfl (cs':=[v16,v20,
   .int .i64 v13.1.Next]) (s7 hS46) hW rfl (qo (n7 hv42) (qo (t7 hv44) (qo rfl zl))) (nle rfl) rfl (fun h47 hS48=>?_)
 simp only [uy,B0,reduceIte,a7]
 refine qay (us:=[.int .i64 v34.1.Kind,.int .i64 v34.1.Broker,.int .i64 v34.1.Epoch,.int .i64 v34.1.Part,.int .i64 v34.1.Stamp,
   v37]) rfl (cs':=[.int .i64 v34.1.Kind,.int .i64 v34.1.Broker,.int .i64 v34.1.Epoch,.int .i64 v34.1.Part,.int .i64 v34.1.Stamp,
   v37]) (s7 hS48) hW rfl (qo rfl (qo rfl (qo rfl (qo rfl (qo rfl (qo (n7 hv39) zl)))))) (nle rfl) rfl (fun h49 hS50=>?_)
 simp only [zm,q8,B0,reduceIte,a7]
 have he:=qj hF36
 subst he
 refine j8 (ql (kn (bb:=b1) (oo:=0) (v := .agg [v16,v20,
   .int .i64 v13.1.Next]) (rfl) ((zw (l9 _ _ _ (f8 hS50))).trans rfl)) (ql (kn (bb:=b5) (oo:=0) (v := .agg [.int .i64 v34.1.Kind,
   .int .i64 v34.1.Broker,.int .i64 v34.1.Epoch,.int .i64 v34.1.Part,.int .i64 v34.1.Stamp,v37]) (rfl) ((zw (l9 _ _ _ hS50)).trans rfl)) zd)) ?_
 exact ⟨v16,c41,v20,c43,v37,c38,by first | trivial | rfl,hv42,hv44,hv39,(f0 (f0 (l6 (f8 (l6 ((l6 (hS50))))))))⟩
theorem qj5 {W:Nat→Bool}{h:Heap} (hW:∀ b,
  (geL h.length) b→W b=true) (v_0:Command) (v_1:Int) (r:Bool) (hF:qcd v_0 v_1=some r) : Ret E W 48 [.agg [.int .i64 v_0.Kind,.int .i64 v_0.Broker,
  .int .i64 v_0.Epoch,.int .i64 v_0.Part,.int .i64 v_0.Stamp,lst cI v_0.InStep],.int .i64 v_1] h (fun v h'=>cut h.length h' E.sz false 9 v=some (.bool r)):=by
 refine Ret.of (fn:=x48) rfl (Run.of ?_)
 unfold qcd at hF
 have zf0:zj [.agg [.int .i64 v_0.Kind,.int .i64 v_0.Broker,.int .i64 v_0.Epoch,.int .i64 v_0.Part,.int .i64 v_0.Stamp,lst cI v_0.InStep],
   .int .i64 v_1] 0 = .agg [.int .i64 v_0.Kind,.int .i64 v_0.Broker,.int .i64 v_0.Epoch,.int .i64 v_0.Part,.int .i64 v_0.Stamp,lst cI v_0.InStep]:=rfl
 have zf1:zj [.agg [.int .i64 v_0.Kind,.int .i64 v_0.Broker,.int .i64 v_0.Epoch,.int .i64 v_0.Part,.int .i64 v_0.Stamp,lst cI v_0.InStep],
   .int .i64 v_1] 1 = .int .i64 v_1:=rfl
 generalize zj [.agg [.int .i64 v_0.Kind,.int .i64 v_0.Broker,.int .i64 v_0.Epoch,.int .i64 v_0.Part,.int .i64 v_0.Stamp,lst cI v_0.InStep],
   .int .i64 v_1]=fr0 at zf0 zf1 ⊢
 have hS:Sep h (geL h.length) []:=a0t h
 simp only [x48,qh,qf,jp,zf0,B0,reduceIte,a7]
 refine jc (cs:=[.int .i64 v_0.Kind,.int .i64 v_0.Broker,.int .i64 v_0.Epoch,.int .i64 v_0.Part,.int .i64 v_0.Stamp,
   lst cI v_0.InStep]) hS rfl rfl rfl (fun b1 h2 hS3=>?_)
 simp only [qg,qa,B0,reduceIte,a7]
 refine zq hS3 hW (by simp only [B0,reduceIte,a7]) (fun h5 hS6=>?_)
 simp only [zp,qxd,qh,qf,qp,qb,a8,a9,b4,qs,qm,B0,reduceIte,a7]
 refine qi (v := .int .i64 v_0.Broker) rfl ?_
 simp only [zf1,qg,qv,qb,qe1,za,B0,reduceIte,a7]
 refine ja rfl (ql qu (ql qu (ql qu zd))) (xk (fun b hb=>decide_eq_true hb) v_0.Broker 0 (d8 .i64 (v_1 - 1)) _ rfl) ?_
 simp only [je,qb,jt,qg,B0,reduceIte,a7]
 refine zr 5 (fun fr' h'=>Sep h' (geL h.length) ([])∧fr' 17 = .bool ((!(z0 v_0.Broker 0 (d8 .i64 (v_1 - 1)))) ||
   (!(z0 v_0.Epoch 0 1000)))∧fr' 1 = .int .i64 v_1∧fr' 2 = .ref [.int .i64 v_0.Kind,.int .i64 v_0.Broker,.int .i64 v_0.Epoch,.int .i64 v_0.Part,
   .int .i64 v_0.Stamp,lst cI v_0.InStep] 0) (fun Q7 hN8=>?_) ?_
 ·simp only [d7,e9]
  simp only [qc (g:=12),B0,reduceIte,a7]
  refine qy (t:=(!(z0 v_0.Broker 0 (d8 .i64 (v_1 - 1))))) (fun hg9=>?_) (fun hg9=>?_)
  ·simp only [hg9,qc (g:=12),zv,qr,qb,zh,qa,qn,B0,reduceIte,a7]
   exact hN8 _ _ ⟨hS6,by rw [orT hg9]; simp only [B0,reduceIte,a7],zf1,rfl⟩
  ·simp only [hg9,qc (g:=12),qq,qp,qb,a8,a9,b4,qs,qm,B0,reduceIte,a7]
   refine qi (v := .int .i64 v_0.Epoch) rfl ?_
   simp only [hg9,qc (g:=12),qq,za,B0,reduceIte,a7]
   refine ja rfl (ql qu (ql qu (ql qu zd))) (xk (fun b hb=>decide_eq_true hb) v_0.Epoch 0 1000 _ rfl) ?_
   simp only [hg9,qc (g:=12),qq,je,qb,jt,qr,zi,qa,qn,B0,reduceIte,a7]
   exact hN8 _ _ ⟨hS6,by rw [orF hg9]; simp only [B0,reduceIte,a7],zf1,rfl⟩
 rintro fr10 h14 ⟨hS15,f11,f12,f13⟩
 simp only [b7,e8]
 simp only [f11,qg,B0,reduceIte,a7]
 refine zr 5 (fun fr' h'=>Sep h' (geL h.length) ([])∧fr' 23 = .bool (((!(z0 v_0.Broker 0 (d8 .i64 (v_1 - 1))))||(!(z0 v_0.Epoch 0 1000))) ||
   (!(z0 v_0.Part 0 1000)))∧fr' 1 = .int .i64 v_1∧fr' 2 = .ref [.int .i64 v_0.Kind,.int .i64 v_0.Broker,.int .i64 v_0.Epoch,.int .i64 v_0.Part,.int .i64 v_0.Stamp,
   lst cI v_0.InStep] 0) (fun Q16 hN17=>?_) ?_
 ·simp only [d7,e9]
  simp only [qc (g:=18),B0,reduceIte,a7]
  refine qy (t:=((!(z0 v_0.Broker 0 (d8 .i64 (v_1 - 1))))||(!(z0 v_0.Epoch 0 1000)))) (fun hg18=>?_) (fun hg18=>?_)
  ·simp only [hg18,qc (g:=18),zv,qr,qb,zh,qa,qn,B0,reduceIte,a7]
   exact hN17 _ _ ⟨hS15,by rw [orT hg18]; simp only [B0,reduceIte,a7],f12,f13⟩
  ·simp only [hg18,qc (g:=18),qq,f13,qp,qb,a8,a9,b4,qs,qm,B0,reduceIte,a7]
   refine qi (v := .int .i64 v_0.Part) rfl ?_
   simp only [hg18,qc (g:=18),qq,za,B0,reduceIte,a7]
   refine ja rfl (ql qu (ql qu (ql qu zd))) (xk (fun b hb=>decide_eq_true hb) v_0.Part 0 1000 _ rfl) ?_
   simp only [hg18,qc (g:=18),qq,je,qb,jt,qr,zi,qa,qn,B0,reduceIte,a7]
   exact hN17 _ _ ⟨hS15,by rw [orF hg18]; simp only [B0,reduceIte,a7],f12,f13⟩
 rintro fr19 h23 ⟨hS24,f20,f21,f22⟩
 simp only [b7,e8]
 simp only [f20,qg,B0,reduceIte,a7]
 refine zr 5 (fun fr' h'=>Sep h' (geL h.length) ([])∧fr' 29 = .bool ((((!(z0 v_0.Broker 0 (d8 .i64 (v_1 - 1))))||(!(z0 v_0.Epoch 0 1000))) ||
   (!(z0 v_0.Part 0 1000)))||(!(z0 v_0.Stamp 0 1000)))∧fr' 1 = .int .i64 v_1∧fr' 2 = .ref [.int .i64 v_0.Kind,.int .i64 v_0.Broker,.int .i64 v_0.Epoch,
   .int .i64 v_0.Part,.int .i64 v_0.Stamp,lst cI v_0.InStep] 0) (fun Q25 hN26=>?_) ?_
 ·simp only [d7,e9]
  simp only [qc (g:=24),B0,reduceIte,a7]
  refine qy (t:=(((!(z0 v_0.Broker 0 (d8 .i64 (v_1 - 1))))||(!(z0 v_0.Epoch 0 1000)))||(!(z0 v_0.Part 0 1000)))) (fun hg27=>?_)
    (fun hg27=>?_)
  ·simp only [hg27,qc (g:=24),zv,qr,qb,zh,qa,qn,B0,reduceIte,a7]
   exact hN26 _ _ ⟨hS24,by rw [orT hg27]; simp only [B0,reduceIte,a7],f21,f22⟩
  ·simp only [hg27,qc (g:=24),qq,f22,qp,qb,a8,a9,b4,qs,qm,B0,reduceIte,a7]
   refine qi (v := .int .i64 v_0.Stamp) rfl ?_
   simp only [hg27,qc (g:=24),qq,za,B0,reduceIte,a7]
   refine ja rfl (ql qu (ql qu (ql qu zd))) (xk (fun b hb=>decide_eq_true hb) v_0.Stamp 0 1000 _ rfl) ?_
   simp only [hg27,qc (g:=24),qq,je,qb,jt,qr,zi,qa,qn,B0,reduceIte,a7]
   exact hN26 _ _ ⟨hS24,by rw [orF hg27]; simp only [B0,reduceIte,a7],f21,f22⟩
 rintro fr28 h32 ⟨hS33,f29,f30,f31⟩
 simp only [b7,e8]
 simp only [f29,qg,B0,reduceIte,a7]
 obtain ⟨v37,hx38,hF39⟩:=qk hF
 refine zr 6 (fun fr' h'=>Sep h' (geL h.length) ([])∧fr' 36 = .bool v37∧fr' 2 = .ref [.int .i64 v_0.Kind,.int .i64 v_0.Broker,.int .i64 v_0.Epoch,.int .i64 v_0.Part,
   .int .i64 v_0.Stamp,lst cI v_0.InStep] 0) (fun Q34 hN35=>?_) ?_
 ·simp only [d7,e9]
  simp only [qc (g:=30),B0,reduceIte,a7]
  refine qy (t:=((((!(z0 v_0.Broker 0 (d8 .i64 (v_1 - 1))))||(!(z0 v_0.Epoch 0 1000)))||(!(z0 v_0.Part 0 1000))) ||
    (!(z0 v_0.Stamp 0 1000)))) (fun hg36=>?_) (fun hg36=>?_)
  ·rw [iteT hg36] at hx38
   simp only [hg36,qc (g:=30),zv,qr,qb,zh,qa,qn,B0,reduceIte,a7]
   have e40:=qj hx38
   exact hN35 _ _ ⟨hS33,by rw [←e40]; simp only [B0,reduceIte,a7],f31⟩
  ·rw [iteF hg36] at hx38
   simp only [hg36,qc (g:=30),qq,f31,qp,qb,a8,a9,b4,qs,qm,B0,reduceIte,a7]
   refine qi (v:=lst cI v_0.InStep) rfl ?_
   obtain ⟨v41,hx42,hF43⟩:=qk hx38
   simp only [hg36,qc (g:=30),qq,f30,qg,za,B0,reduceIte,a7]
   refine ja rfl (ql zn (ql qu zd)) (qdt (fun b hb=>decide_eq_true hb) v_0.InStep v_1 v41 hx42) ?_
   simp only [hg36,qc (g:=30),qq,je,qb,jt,qr,zi,qa,qn,B0,reduceIte,a7]
   have e44:=qj hF43
   exact hN35 _ _ ⟨hS33,by rw [←e44]; simp only [B0,reduceIte,a7],f31⟩
 rintro fr45 h48 ⟨hS49,f46,f47⟩
 simp only [b7,e8]
 simp only [qa,f46,qz,B0,reduceIte,a7]
 refine qx (t:=v37) (fun hc50=>?_) (fun hc50=>?_)
 ·rw [iteT hc50] at hF39
  simp only [qh,qf,qg,qa,q8,B0,reduceIte,a7]
  have he:=qj hF39
  subst he
  simp only [zg,B0,reduceIte,a7]
  exact rfl
 rw [iteF hc50] at hF39
 simp only [zf,qtv,qh,qf,f47,qp,qb,a8,a9,b4,qs,qm,B0,reduceIte,a7]
 refine qi (v := .int .i64 v_0.Epoch) rfl ?_
 simp only [qv,qb,z8,qg,B0,reduceIte,a7]
 refine zr 4 (fun fr' h'=>Sep h' (geL h.length) ([])∧fr' 44 = .bool ((decide (v_0.Epoch=0))&&(decide (v_0.Stamp=0)))∧fr' 2 = .ref [.int .i64 v_0.Kind,
   .int .i64 v_0.Broker,.int .i64 v_0.Epoch,.int .i64 v_0.Part,.int .i64 v_0.Stamp,lst cI v_0.InStep] 0) (fun Q51 hN52=>?_) ?_
 ·simp only [d7,e9]
  simp only [qc (g:=40),B0,reduceIte,a7]
  refine qy (t:=(decide (v_0.Epoch=0))) (fun hg53=>?_) (fun hg53=>?_)
  ·simp only [hg53,qc (g:=40),qw,f47,qp,qb,a8,a9,b4,qs,qm,B0,reduceIte,a7]
   refine qi (v := .int .i64 v_0.Stamp) rfl ?_
   simp only [hg53,qc (g:=40),qw,qv,qb,z8,qr,zh,qa,qn,B0,reduceIte,a7]
   exact hN52 _ _ ⟨hS49,by rw [k8 hg53]; simp only [B0,reduceIte,a7],f47⟩
  ·simp only [hg53,qc (g:=40),zy,qr,qb,zi,qa,qn,B0,reduceIte,a7]
   exact hN52 _ _ ⟨hS49,by rw [k9 hg53]; simp only [B0,reduceIte,a7],f47⟩
 rintro fr54 h57 ⟨hS58,f55,f56⟩
 simp only [b7,e8]
 simp only [f55,qg,B0,reduceIte,a7]
 refine zr 5 (fun fr' h'=>Sep h' (geL h.length) ([])∧fr' 50 = .bool (((decide (v_0.Epoch=0))&&(decide (v_0.Stamp=0)))&&(decide
   ((b6 v_0.InStep:Int)=0)))∧fr' 2 = .ref [.int .i64 v_0.Kind,.int .i64 v_0.Broker,.int .i64 v_0.Epoch,.int .i64 v_0.Part,.int .i64 v_0.Stamp,
   lst cI v_0.InStep] 0) (fun Q59 hN60=>?_) ?_
 ·simp only [d7,e9]
  simp only [qc (g:=45),B0,reduceIte,a7]
  refine qy (t:=((decide (v_0.Epoch=0))&&(decide (v_0.Stamp=0)))) (fun hg61=>?_) (fun hg61=>?_)
  ·simp only [hg61,qc (g:=45),qw,f56,qp,qb,a8,a9,b4,qs,qm,B0,reduceIte,a7]
   refine qi (v:=lst cI v_0.InStep) rfl ?_
   simp only [hg61,qc (g:=45),qw,zx,qb,z1,qv,z8,qr,zh,qa,qn,B0,reduceIte,a7]
   exact hN60 _ _ ⟨hS58,by rw [k8 hg61]; simp only [B0,reduceIte,a7],f56⟩
  ·simp only [hg61,qc (g:=45),zy,qr,qb,zi,qa,qn,B0,reduceIte,a7]
   exact hN60 _ _ ⟨hS58,by rw [k9 hg61]; simp only [B0,reduceIte,a7],f56⟩
 rintro fr62 h65 ⟨hS66,f63,f64⟩
 simp only [b7,e8]
 simp only [f63,qg,qa,qq5,qh,qf,f64,qp,qb,a8,a9,b4,qs,qm,B0,reduceIte,a7]
 refine qi (v := .int .i64 v_0.Kind) rfl ?_
 simp only [qa,qrv,wi,qvz,qh,qf,qv,qb,z8,qg,qt9,qz,B0,reduceIte,a7]
 refine qx (t:=(decide (v_0.Kind=1))) (fun hc67=>?_) (fun hc67=>?_)
 ·rw [iteT hc67] at hF39
  simp only [q0u,qh,qf,qg,B0,reduceIte,a7]
  refine zr 4 (fun fr' h'=>Sep h' (geL h.length) ([])∧fr' 60 = .bool ((((decide (v_0.Epoch=0))&&(decide (v_0.Stamp=0)))&&(decide
    ((b6 v_0.InStep:Int)=0)))&&(decide (v_0.Part=0)))) (fun Q68 hN69=>?_) ?_
  ·simp only [d7,e9]
   simp only [qc (g:=56),B0,reduceIte,a7]
   refine qy (t:=(((decide (v_0.Epoch=0))&&(decide (v_0.Stamp=0)))&&(decide ((b6 v_0.InStep:Int)=0)))) (fun hg70=>?_) (fun hg70=>?_)
   ·simp only [hg70,qc (g:=56),qw,f64,qp,qb,a8,a9,b4,qs,qm,B0,reduceIte,a7]
    refine qi (v := .int .i64 v_0.Part) rfl ?_
    simp only [hg70,qc (g:=56),qw,qv,qb,z8,qr,zh,qa,qn,B0,reduceIte,a7]
    exact hN69 _ _ ⟨hS66,by rw [k8 hg70]; simp only [B0,reduceIte,a7]⟩
   ·simp only [hg70,qc (g:=56),zy,qr,qb,zi,qa,qn,B0,reduceIte,a7]
    exact hN69 _ _ ⟨hS66,by rw [k9 hg70]; simp only [B0,reduceIte,a7]⟩
  rintro fr71 h73 ⟨hS74,f72⟩
  simp only [b7,e8]
  simp only [f72,qg,qa,q8,B0,reduceIte,a7]
  have he:=qj hF39
  subst he
  simp only [zg,B0,reduceIte,a7]
  exact rfl
 rw [iteF hc67] at hF39
 simp only [qsa,qh,qf,qv,qb,z8,qg,qa,qv0,qz,B0,reduceIte,a7]
 refine qx (t:=(decide (v_0.Kind=2))) (fun hc75=>?_) (fun hc75=>?_)
 ·rw [iteT hc75] at hF39
  simp only [q2c,qh,qf,f64,qp,qb,a8,a9,b4,qs,qm,B0,reduceIte,a7]
  refine qi (v := .int .i64 v_0.Stamp) rfl ?_
  simp only [qv,qb,z8,qg,B0,reduceIte,a7]
  refine zr 5 (fun fr' h'=>Sep h' (geL h.length) ([])∧fr' 71 = .bool ((decide (v_0.Stamp=0))&&(decide
    ((b6 v_0.InStep:Int)=0)))∧fr' 2 = .ref [.int .i64 v_0.Kind,.int .i64 v_0.Broker,.int .i64 v_0.Epoch,.int .i64 v_0.Part,.int .i64 v_0.Stamp,
    lst cI v_0.InStep] 0) (fun Q76 hN77=>?_) ?_
  ·simp only [d7,e9]
   simp only [qc (g:=66),B0,reduceIte,a7]
   refine qy (t:=(decide (v_0.Stamp=0))) (fun hg78=>?_) (fun hg78=>?_)
   ·simp only [hg78,qc (g:=66),qw,f64,qp,qb,a8,a9,b4,qs,qm,B0,reduceIte,a7]
    refine qi (v:=lst cI v_0.InStep) rfl ?_
    simp only [hg78,qc (g:=66),qw,zx,qb,z1,qv,z8,qr,zh,qa,qn,B0,reduceIte,a7]
    exact hN77 _ _ ⟨hS66,by rw [k8 hg78]; simp only [B0,reduceIte,a7],f64⟩
   ·simp only [hg78,qc (g:=66),zy,qr,qb,zi,qa,qn,B0,reduceIte,a7]
    exact hN77 _ _ ⟨hS66,by rw [k9 hg78]; simp only [B0,reduceIte,a7],f64⟩
  rintro fr79 h82 ⟨hS83,f80,f81⟩
  simp only [b7,e8]
  simp only [f80,qg,B0,reduceIte,a7]
  refine zr 4 (fun fr' h'=>Sep h' (geL h.length) ([])∧fr' 76 = .bool (((decide (v_0.Stamp=0))&&(decide ((b6 v_0.InStep:Int)=0)))&&(decide
    (v_0.Part=0)))) (fun Q84 hN85=>?_) ?_
  ·simp only [d7,e9]
   simp only [qc (g:=72),B0,reduceIte,a7]
   refine qy (t:=((decide (v_0.Stamp=0))&&(decide ((b6 v_0.InStep:Int)=0)))) (fun hg86=>?_) (fun hg86=>?_)
   ·simp only [hg86,qc (g:=72),qw,f81,qp,qb,a8,a9,b4,qs,qm,B0,reduceIte,a7]
    refine qi (v := .int .i64 v_0.Part) rfl ?_
    simp only [hg86,qc (g:=72),qw,qv,qb,z8,qr,zh,qa,qn,B0,reduceIte,a7]
    exact hN85 _ _ ⟨hS83,by rw [k8 hg86]; simp only [B0,reduceIte,a7]⟩
   ·simp only [hg86,qc (g:=72),zy,qr,qb,zi,qa,qn,B0,reduceIte,a7]
    exact hN85 _ _ ⟨hS83,by rw [k9 hg86]; simp only [B0,reduceIte,a7]⟩
  rintro fr87 h89 ⟨hS90,f88⟩
  simp only [b7,e8]
  simp only [f88,qg,qa,q8,B0,reduceIte,a7]
  have he:=qj hF39
  subst he
  simp only [zg,B0,reduceIte,a7]
  exact rfl
 rw [iteF hc75] at hF39
 simp only [qto,qh,qf,qv,qb,z8,qg,qa,qwj,qz,B0,reduceIte,a7]
 refine qx (t:=(decide (v_0.Kind=3))) (fun hc91=>?_) (fun hc91=>?_)
 ·rw [iteT hc91] at hF39
  simp only [q50,qh,qf,qg,B0,reduceIte,a7]
  refine zr 4 (fun fr' h'=>Sep h' (geL h.length) ([])∧fr' 84 = .bool ((((decide (v_0.Epoch=0))&&(decide (v_0.Stamp=0)))&&(decide
    ((b6 v_0.InStep:Int)=0)))&&(decide (v_0.Part=0)))∧fr' 2 = .ref [.int .i64 v_0.Kind,.int .i64 v_0.Broker,.int .i64 v_0.Epoch,.int .i64 v_0.Part,
    .int .i64 v_0.Stamp,lst cI v_0.InStep] 0) (fun Q92 hN93=>?_) ?_
  ·simp only [d7,e9]
   simp only [qc (g:=80),B0,reduceIte,a7]
   refine qy (t:=(((decide (v_0.Epoch=0))&&(decide (v_0.Stamp=0)))&&(decide ((b6 v_0.InStep:Int)=0)))) (fun hg94=>?_) (fun hg94=>?_)
   ·simp only [hg94,qc (g:=80),qw,f64,qp,qb,a8,a9,b4,qs,qm,B0,reduceIte,a7]
    refine qi (v := .int .i64 v_0.Part) rfl ?_
    simp only [hg94,qc (g:=80),qw,qv,qb,z8,qr,zh,qa,qn,B0,reduceIte,a7]
    exact hN93 _ _ ⟨hS66,by rw [k8 hg94]; simp only [B0,reduceIte,a7],f64⟩
   ·simp only [hg94,qc (g:=80),zy,qr,qb,zi,qa,qn,B0,reduceIte,a7]
    exact hN93 _ _ ⟨hS66,by rw [k9 hg94]; simp only [B0,reduceIte,a7],f64⟩
  rintro fr95 h98 ⟨hS99,f96,f97⟩
  simp only [b7,e8]
  simp only [f96,qg,B0,reduceIte,a7]
  refine zr 4 (fun fr' h'=>Sep h' (geL h.length) ([])∧fr' 89 = .bool (((((decide (v_0.Epoch=0))&&(decide (v_0.Stamp=0)))&&(decide
    ((b6 v_0.InStep:Int)=0)))&&(decide (v_0.Part=0)))&&(decide (v_0.Broker=0)))) (fun Q100 hN101=>?_) ?_
  ·simp only [d7,e9]
   simp only [qc (g:=85),B0,reduceIte,a7]
   refine qy (t:=((((decide (v_0.Epoch=0))&&(decide (v_0.Stamp=0)))&&(decide ((b6 v_0.InStep:Int)=0)))&&(decide (v_0.Part=0))))
     (fun hg102=>?_) (fun hg102=>?_)
   ·simp only [hg102,qc (g:=85),qw,f97,qp,qb,a8,a9,b4,qs,qm,B0,reduceIte,a7]
    refine qi (v := .int .i64 v_0.Broker) rfl ?_
    simp only [hg102,qc (g:=85),qw,qv,qb,z8,qr,zh,qa,qn,B0,reduceIte,a7]
    exact hN101 _ _ ⟨hS99,by rw [k8 hg102]; simp only [B0,reduceIte,a7]⟩
   ·simp only [hg102,qc (g:=85),zy,qr,qb,zi,qa,qn,B0,reduceIte,a7]
    exact hN101 _ _ ⟨hS99,by rw [k9 hg102]; simp only [B0,reduceIte,a7]⟩
  rintro fr103 h105 ⟨hS106,f104⟩
  simp only [b7,e8]
  simp only [f104,qg,qa,q8,B0,reduceIte,a7]
  have he:=qj hF39
  subst he
  simp only [zg,B0,reduceIte,a7]
  exact rfl
 rw [iteF hc91] at hF39
 simp only [qtz,qh,qf,qv,qb,z8,qg,qa,q5c,qz,B0,reduceIte,a7]
 refine qx (t:=(decide (v_0.Kind=4))) (fun hc107=>?_) (fun hc107=>?_)
 ·rw [iteT hc107] at hF39
  simp only [q1a,qh,qf,f64,qp,qb,a8,a9,b4,qs,qm,B0,reduceIte,a7]
  refine qi (v := .int .i64 v_0.Epoch) rfl ?_
  simp only [qv,qb,z8,qg,B0,reduceIte,a7]
  refine zr 4 (fun fr' h'=>Sep h' (geL h.length) ([])∧fr' 99 = .bool ((decide (v_0.Epoch=0))&&(decide (v_0.Stamp=0)))∧fr' 2 = .ref [.int .i64 v_0.Kind,
    .int .i64 v_0.Broker,.int .i64 v_0.Epoch,.int .i64 v_0.Part,.int .i64 v_0.Stamp,lst cI v_0.InStep] 0) (fun Q108 hN109=>?_) ?_
  ·simp only [d7,e9]
   simp only [qc (g:=95),B0,reduceIte,a7]
   refine qy (t:=(decide (v_0.Epoch=0))) (fun hg110=>?_) (fun hg110=>?_)
   ·simp only [hg110,qc (g:=95),qw,f64,qp,qb,a8,a9,b4,qs,qm,B0,reduceIte,a7]
    refine qi (v := .int .i64 v_0.Stamp) rfl ?_
    simp only [hg110,qc (g:=95),qw,qv,qb,z8,qr,zh,qa,qn,B0,reduceIte,a7]
    exact hN109 _ _ ⟨hS66,by rw [k8 hg110]; simp only [B0,reduceIte,a7],f64⟩
   ·simp only [hg110,qc (g:=95),zy,qr,qb,zi,qa,qn,B0,reduceIte,a7]
    exact hN109 _ _ ⟨hS66,by rw [k9 hg110]; simp only [B0,reduceIte,a7],f64⟩
  rintro fr111 h114 ⟨hS115,f112,f113⟩
  simp only [b7,e8]
  simp only [f112,qg,B0,reduceIte,a7]
  refine zr 4 (fun fr' h'=>Sep h' (geL h.length) ([])∧fr' 104 = .bool (((decide (v_0.Epoch=0))&&(decide (v_0.Stamp=0)))&&(decide
    (v_0.Part=0)))∧fr' 2 = .ref [.int .i64 v_0.Kind,.int .i64 v_0.Broker,.int .i64 v_0.Epoch,.int .i64 v_0.Part,.int .i64 v_0.Stamp,
    lst cI v_0.InStep] 0) (fun Q116 hN117=>?_) ?_
  ·simp only [d7,e9]
   simp only [qc (g:=100),B0,reduceIte,a7]
   refine qy (t:=((decide (v_0.Epoch=0))&&(decide (v_0.Stamp=0)))) (fun hg118=>?_) (fun hg118=>?_)
   ·simp only [hg118,qc (g:=100),qw,f113,qp,qb,a8,a9,b4,qs,qm,B0,reduceIte,a7]
    refine qi (v := .int .i64 v_0.Part) rfl ?_
    simp only [hg118,qc (g:=100),qw,qv,qb,z8,qr,zh,qa,qn,B0,reduceIte,a7]
    exact hN117 _ _ ⟨hS115,by rw [k8 hg118]; simp only [B0,reduceIte,a7],f113⟩
   ·simp only [hg118,qc (g:=100),zy,qr,qb,zi,qa,qn,B0,reduceIte,a7]
    exact hN117 _ _ ⟨hS115,by rw [k9 hg118]; simp only [B0,reduceIte,a7],f113⟩
  rintro fr119 h122 ⟨hS123,f120,f121⟩
  simp only [b7,e8]
  simp only [f120,qg,B0,reduceIte,a7]
  refine zr 4 (fun fr' h'=>Sep h' (geL h.length) ([])∧fr' 109 = .bool ((((decide (v_0.Epoch=0))&&(decide (v_0.Stamp=0)))&&(decide (v_0.Part=0)))&&(decide
    (v_0.Broker=0)))) (fun Q124 hN125=>?_) ?_
  ·simp only [d7,e9]
   simp only [qc (g:=105),B0,reduceIte,a7]
   refine qy (t:=(((decide (v_0.Epoch=0))&&(decide (v_0.Stamp=0)))&&(decide (v_0.Part=0)))) (fun hg126=>?_) (fun hg126=>?_)
   ·simp only [hg126,qc (g:=105),qw,f121,qp,qb,a8,a9,b4,qs,qm,B0,reduceIte,a7]
    refine qi (v := .int .i64 v_0.Broker) rfl ?_
    simp only [hg126,qc (g:=105),qw,qv,qb,z8,qr,zh,qa,qn,B0,reduceIte,a7]
    exact hN125 _ _ ⟨hS123,by rw [k8 hg126]; simp only [B0,reduceIte,a7]⟩
   ·simp only [hg126,qc (g:=105),zy,qr,qb,zi,qa,qn,B0,reduceIte,a7]
    exact hN125 _ _ ⟨hS123,by rw [k9 hg126]; simp only [B0,reduceIte,a7]⟩
  rintro fr127 h129 ⟨hS130,f128⟩
  simp only [b7,e8]
  simp only [f128,qg,qa,q8,B0,reduceIte,a7]
  have he:=qj hF39
  subst he
  simp only [zg,B0,reduceIte,a7]
  exact rfl
 rw [iteF hc107] at hF39
 simp only [qze,qh,qf,qv,qb,z8,qg,qa,q30,qz,B0,reduceIte,a7]
 refine qx (t:=(decide (v_0.Kind=5))) (fun hc131=>?_) (fun hc131=>?_)
 ·rw [iteT hc131] at hF39
  simp only [qh,qf,qg,qa,q8,B0,reduceIte,a7]
  have he:=qj hF39
  subst he
  simp only [zg,B0,reduceIte,a7]
  exact rfl
 rw [iteF hc131] at hF39
 simp only [q2j,qh,qf,qv,qb,z8,qg,qa,q5g,qz,B0,reduceIte,a7]
 refine qx (t:=(decide (v_0.Kind=6))) (fun hc132=>?_) (fun hc132=>?_)
 ·rw [iteT hc132] at hF39
  simp only [qh,qf,qg,qa,q8,B0,reduceIte,a7]
  have he:=qj hF39
  subst he
  simp only [zg,B0,reduceIte,a7]
  exact rfl
 rw [iteF hc132] at hF39
 simp only [zf,ki,qh,qf,qg,qa,q8,B0,reduceIte,a7]
 have he:=qj hF39
 subst he
 simp only [zg,B0,reduceIte,a7]
 exact rfl
theorem qdi {W:Nat→Bool}{h:Heap} (hW:∀ b,
  (geL h.length) b→W b=true) (c_0:Control) (r:Control) (hF:w9 c_0=some r) : Ret E W 76 [.agg [lst qe c_0.Brokers,
  lst qd c_0.Parts,.int .i64 c_0.Next]] h (fun v h'=>∃ rv0_0 rc0_0 rv0_1 rc0_1,v = .agg [rv0_0,rv0_1,
  .int .i64 r.Next]∧SlF qe 3 86 rv0_0 r.Brokers rc0_0∧SlN Partition.R 5 39 rv0_1 r.Parts rc0_1∧Sep h' (geL h.length) (rc0_0++(rc0_1++([])))):=by
 refine Ret.of (fn:=x76) rfl (Run.of ?_)
 unfold w9 at hF
 have zf0:zj [.agg [lst qe c_0.Brokers,lst qd c_0.Parts,.int .i64 c_0.Next]] 0 = .agg [lst qe c_0.Brokers,lst qd c_0.Parts,
   .int .i64 c_0.Next]:=rfl
 generalize zj [.agg [lst qe c_0.Brokers,lst qd c_0.Parts,.int .i64 c_0.Next]]=fr0 at zf0 ⊢
 have hS:Sep h (geL h.length) []:=a0t h
 simp only [x76,qh,qf,jp,zf0,B0,reduceIte,a7]
 refine jc (cs:=[lst qe c_0.Brokers,lst qd c_0.Parts,.int .i64 c_0.Next]) hS rfl rfl rfl (fun b1 h2 hS3=>?_)
 simp only [z5,B0,reduceIte,a7]
 refine zt hS3 (fun b5 h6 hS7=>?_)
 simp only [qa,B0,reduceIte,a7]
 refine zq (f8 hS7) hW (by simp only [B0,reduceIte,a7]) (fun h9 hS10=>?_)
 simp only [zp,q62,qh,ji,qa0,evp,B0,reduceIte,a7]
 refine xm (n:=3) (f:=qe) ([] : List Broker) hS10 rfl rfl (fun v12 c13 h14 hv15 hS16 hq11=>?_)
 simp only [qnc,B0,reduceIte,a7]
 refine qin hS16 (fun b18 h19 hS20=>?_)
 simp only [z3,qt,a8,a9,b4,qs,z2,B0,reduceIte,a7]
 refine zc (v:=lst qe c_0.Brokers) rfl ?_
 simp only [qeg,B0,reduceIte,a7]
 obtain ⟨l22,hx23,hF24⟩:=qk hF
 have hq25:=nwq (fun z hz=>Sep.dj (f0 (f0 hS20)) qcb (SlF.rowfp hv15 z hz))
 refine qhq qf0 ?_
 refine qbv (f:=qe) hv15 (f8 hS20) hW (fun _=>rfl) (fun _=>rfl) (wk (fun _=>rfl)) hx23 (fun v26 c27 h28 hv29 hS30=>?_)
 simp only [qdl,qt,a8,a9,b4,qs,qbc,qci,B0,reduceIte,a7]
 refine zc (v := .int .i64 c_0.Next) rfl ?_
 simp only [qil,evp,B0,reduceIte,a7]
 refine zc (v := .agg [v26,.nil,.int .i64 c_0.Next]) (qdz (qat (us:=[v26]) (vs:=[v26,.nil,
   .int .i64 0]) (kw (n7 hv29)) rfl (nle rfl) (qo (n7 hv29) zl) rfl (qat (us:=[.int .i64 c_0.Next]) (vs:=[v26,.nil,
   .int .i64 c_0.Next]) rfl rfl (nle rfl) rfl rfl qfu))) ?_
 simp only [uy,B0,reduceIte,a7]
 refine qay (us:=[v26,.nil,.int .i64 c_0.Next]) rfl (cs':=[v26,.nil,
   .int .i64 c_0.Next]) (f8 hS30) hW rfl (qo (n7 hv29) (qo rfl (qo rfl zl))) (nle rfl) rfl (fun h32 hS33=>?_)
 simp only [zm,qzs,qh,qf,qp,qb,a8,a9,b4,qs,qm,B0,reduceIte,a7]
 refine qi (v:=lst qd c_0.Parts) rfl ?_
 simp only [zx,qb,z1,qg,qa,B0,reduceIte,a7]
 obtain ⟨oc46,hX48,hk49⟩:=jo hF24
 simp only [q4e]
 refine ku (σ:=Control) c_0.Parts (fun i44 x45 s125=>qbe l22 i44 x45 s125) (fun s fr' h'=>∃ v41 c42,
   fr' 2 = .ptr b5 0∧fr' 3 = .ptr b18 0∧fr' 14=lst qd c_0.Parts∧SlN Partition.R 5 39 v41 s.Parts c42∧Sep h' (geL h.length) ([Blk1 b5 [.nil,.nil,
   .int .i64 0] 29]++([Blk1 b18 [v26,v41,.int .i64 s.Next] 29]++(c27++(c42++([])))))) hX48 ⟨.nil,[],rfl,rfl,rfl,SlN.nil,
   ((f0 (f8 (f8 hS33))) : Sep _ (geL h.length) ([Blk1 b5 [.nil,.nil,.int .i64 0] 29]++([Blk1 b18 [v26,.nil,
   .int .i64 c_0.Next] 29]++(c27++([])))))⟩ (by simp only [B0,reduceIte,a7]) (by simp only [B0,reduceIte,
   a7]) (fun _ _ _ h=>h) rfl rfl (fun _ _ _ _ h=>h) (fun _ _ _ _ h=>h) (fun _ _ _ _ h=>h) (by decide) ?_ ?_
 ·rintro i44 x45 s39 fr58 h59 hx64 ⟨v41,c42,f61,f62,f63,hv43,hS60⟩ f65 f66 oc47 hF50 hr51 Q52 hN53 hB57 hK54 hR55 hE56
  unfold qbe at hF50
  simp only [q32,qh,qf,f63,f65,jf,B0,reduceIte,a7]
  refine qi (v := .ref (qd x45) 0) (kt hx64 rfl) ?_
  simp only [qm,B0,reduceIte,a7]
  refine qi (v := .agg [lst cI x45.Homes,lst cI x45.InStep,.int .i64 x45.Leader,.int .i64 x45.Epoch,.int .i64 x45.Stamp]) rfl ?_
  simp only [z5,B0,reduceIte,a7]
  refine zt hS60 (fun b67 h68 hS69=>?_)
  simp only [zk,B0,reduceIte,a7]
  refine zb (us:=[lst cI x45.Homes,lst cI x45.InStep,.int .i64 x45.Leader,.int .i64 x45.Epoch,.int .i64 x45.Stamp]) rfl (cs':=[lst cI x45.Homes,
    lst cI x45.InStep,.int .i64 x45.Leader,.int .i64 x45.Epoch,.int .i64 x45.Stamp]) hS69 hW rfl rfl (nle rfl) rfl (fun h71 hS72=>?_)
  simp only [qa,q3w,qh,qf,j0,evp,B0,reduceIte,a7]
  refine ju (n:=1) (f:=cI) ([] : List Int) hS72 rfl rfl (fun v73 c74 h75 hv76 hS77=>?_)
  simp only [qp,qb,a8,a9,b4,q9,qm,B0,reduceIte,a7]
  refine qi (v:=lst cI x45.Homes) ((z6 (l9 _ _ _ (f8 hS77))).trans rfl) ?_
  simp only [wz,B0,reduceIte,a7]
  obtain ⟨l79,hx80,hF81⟩:=qk hF50
  refine yx (f:=cI) hv76 hS77 hW (fun _=>rfl) (fun _=>rfl) (wk (fun _=>rfl)) hx80 (fun v82 c83 h84 hv85 hS86=>?_)
  simp only [qp,qb,a8,a9,b4,q9,zk,B0,reduceIte,a7]
  refine zb (us:=[v82]) (kw (n7 hv85)) (cs':=[v82,lst cI x45.InStep,.int .i64 x45.Leader,.int .i64 x45.Epoch,
    .int .i64 x45.Stamp]) (f8 hS86) hW rfl (qo (n7 hv85) zl) (nle rfl) rfl (fun h88 hS89=>?_)
  simp only [qa,q6w,qh,qf,j0,evp,B0,reduceIte,a7]
  refine ju (n:=1) (f:=cI) ([] : List Int) hS89 rfl rfl (fun v90 c91 h92 hv93 hS94=>?_)
  simp only [qp,qb,a8,a9,b4,q9,qm,B0,reduceIte,a7]
  refine qi (v:=lst cI x45.InStep) ((z6 (l9 _ _ _ (f8 hS94))).trans rfl) ?_
  simp only [wz,B0,reduceIte,a7]
  obtain ⟨l96,hx97,hF98⟩:=qk hF81
  refine yx (f:=cI) hv93 hS94 hW (fun _=>rfl) (fun _=>rfl) (wk (fun _=>rfl)) hx97 (fun v99 c100 h101 hv102 hS103=>?_)
  simp only [qp,qb,a8,a9,b4,q9,zk,B0,reduceIte,a7]
  refine zb (us:=[v99]) (kw (n7 hv102)) (cs':=[v82,v99,.int .i64 x45.Leader,.int .i64 x45.Epoch,
    .int .i64 x45.Stamp]) (f8 hS103) hW rfl (qo (n7 hv102) zl) (nle rfl) rfl (fun h105 hS106=>?_)
  simp only [qa,q2u,qf,f62,qp,qb,a8,a9,b4,q9,qm,B0,reduceIte,a7]
  refine qi (v:=v41) ((z6 (l9 _ _ _ (o6 hS106))).trans rfl) ?_
  simp only [qm,B0,reduceIte,a7]
  refine qi (v := .agg [v82,v99,.int .i64 x45.Leader,.int .i64 x45.Epoch,.int .i64 x45.Stamp]) ((zw (l9 _ _ _ hS106)).trans rfl) ?_
  simp only [j0,evp,B0,reduceIte,a7]
  refine qey (R:=Partition.R) (n:=5) (cs:=[v82,v99,.int .i64 x45.Leader,.int .i64 x45.Epoch,
    .int .i64 x45.Stamp]) (os:=c83++(c100)) (Sep.bi2 (c1:=c83) (c2:=c100) (f0 (f8 hS106))) (qat (us:=[v82,v99,.int .i64 x45.Leader,.int .i64 x45.Epoch,
    .int .i64 x45.Stamp]) (vs:=[v82,v99,.int .i64 x45.Leader,.int .i64 x45.Epoch,
    .int .i64 x45.Stamp]) rfl rfl (nle rfl) (qo (n7 hv85) (qo (n7 hv102) (qo rfl (qo rfl (qo rfl zl))))) rfl qfu) (Partition.RI (x :=
    (Partition.mk l79 l96 x45.Leader x45.Epoch x45.Stamp)) hv85 hv102) rfl (fun v107 c108 h109 hv110 hS111=>?_)
  simp only [wz,B0,reduceIte,a7]
  obtain ⟨l113,hx114,hF115⟩:=qk hF98
  refine qhl (R:=Partition.R) (c:=c42) hv43 hv110 (s7 hS111) hW Partition.RO.len Partition.RO.one hx114 (fun v116 c117 h118 hv119 hS120=>?_)
  simp only [f62,qp,qb,a8,a9,b4,q9,zk,B0,reduceIte,a7]
  refine zb (us:=[v116]) (kw (t7 hv119)) (cs':=[v26,v116,
    .int .i64 s39.Next]) (i5 hS120) hW rfl (qo (t7 hv119) zl) (nle rfl) rfl (fun h122 hS123=>?_)
  simp only [qa,qn,B0,reduceIte,a7]
  have e124:=qj hF115
  exact hN53 _ _ _ e124.symm ⟨v116,c117,f61,f62,f63,hv119,(i5 (f0 (i5 (f8 (l6 (f0 hS123))))))⟩ (f65) (f66)
 rintro s126 fr131 h132 rfl ⟨v128,c129,f134,f135,f136,hv130,hS133⟩
 dsimp only [jnO] at hk49
 unfold qfa at hk49
 simp only [qh,qf,f135,qm,B0,reduceIte,a7]
 refine qi (v := .agg [v26,v128,.int .i64 s126.Next]) ((zw (l9 _ _ _ (f8 hS133))).trans rfl) ?_
 simp only [f134,zk,B0,reduceIte,a7]
 refine zb (us:=[v26,v128,.int .i64 s126.Next]) rfl (cs':=[v26,v128,
   .int .i64 s126.Next]) hS133 hW rfl (qo (n7 hv29) (qo (t7 hv130) (qo rfl zl))) (nle rfl) rfl (fun h137 hS138=>?_)
 simp only [qa,q8,B0,reduceIte,a7]
 have he:=qj hk49
 subst he
 refine jk (bb:=b5) (oo:=0) (v := .agg [v26,v128,.int .i64 s126.Next]) (by simp only [f134,B0,reduceIte,
   a7]) ((zw (l9 _ _ _ hS138)).trans rfl) ?_
 exact ⟨v26,c27,v128,c129,by first | trivial | rfl,hv29,hv130,(f8 (f8 (l6 ((l6 (hS138))))))⟩
end Go.Proofs.Ytjloihcijdcpeaa.X
