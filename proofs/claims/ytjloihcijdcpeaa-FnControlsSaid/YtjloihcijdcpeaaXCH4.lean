/- The functions' code comes to what the plain functions say (4). -/
import Derived.Test.YtjloihcijdcpeaaXCH3
set_option linter.unusedVariables false
set_option linter.unusedSimpArgs false
set_option maxRecDepth 100000
namespace Go.Proofs.Ytjloihcijdcpeaa.X
open Go
open Nat (reduceEqDiff)
theorem qj0 {W:Nat→Bool}{h:Heap}{lo:Nat→Prop}{S0:List Obj} (hW:∀ b,
  lo b→W b=true) (k:Nat) (pb0:Nat) (c_0:L1Cur) (r:Int × (List Command) × L1Cur) (hF:qb3 k c_0=some r) (hS:Sep h lo ([Blk1 pb0 [lst cU8 c_0.code,
  .int .i64 c_0.at_,.int .u64 c_0.seed] 79]++(S0))) : Ret E W 45 [.ptr pb0 0] h (fun v h'=>∃ rv1 rc1,v = .tup [.int .i64 r.1,
  rv1]∧SlN Command.R 6 44 rv1 r.2.1 rc1∧Sep h' lo (rc1++([Blk1 pb0 [lst cU8 r.2.2.code,.int .i64 r.2.2.at_,.int .u64 r.2.2.seed] 79]++(S0)))):=by
 refine Ret.of (fn:=x45) rfl (Run.of ?_)
 unfold qb3 at hF
 have zf0:zj [.ptr pb0 0] 0 = .ptr pb0 0:=rfl
 generalize zj [.ptr pb0 0]=fr0 at zf0 ⊢
 obtain ⟨v1,hx2,hF3⟩:=qm hF
 simp only [x45,qh,qf,qg,qa,qp8,zf0,zb,B0,reduceIte,reduceEqDiff]
 refine kv rfl (kx hW pb0 c_0 5 v1 hx2 hS) ?_
 rintro _ h4 ⟨rfl,hS5⟩
 obtain ⟨v6,hx7,hF8⟩:=qm hF3
 simp only [qv,qb,qaq,qg,qa,qqd,qh,qf,zb,B0,reduceIte,reduceEqDiff]
 refine u9 rfl hS5 (qn qu zg) (qft (fun b hb=>decide_eq_true hb) k (IntKind.wrap .i64 ((1:Int)+v1.1)) v6 hx7) ?_
 rintro _ h17 ⟨v9,c10,v13,c14,rfl,hv11,hv15,hS18⟩
 refine ⟨_,qcl (qs (qew (qs (SlF.free1 hv11) (qs (SlN.free1 hv15) (qs rfl zt)))) (qs rfl zt)),hS18,
   (j0 (SlF.pf hv11 (fun _=>rfl)) (j0 (SlN.pf hv15 Partition.RO) wt)),fun h19 hS20=>?_⟩
 have hS21:Sep h19 lo (c10++(c14++([Blk1 pb0 [lst cU8 v1.2.code,.int .i64 v1.2.at_,.int .u64 v1.2.seed] 79]++(S0)))):=by simpa only [List.append_assoc,
   List.nil_append] using hS20
 simp only [qg,qad,qb,qa7,qa0,jg,B0,reduceIte,reduceEqDiff]
 refine z1 hS21 (fun b22 h23 hS24=>?_)
 simp only [zl,B0,reduceIte,reduceEqDiff]
 refine zf (us:=[v9,v13,.int .i64 v6.1.Next]) rfl (cs':=[v9,v13,
   .int .i64 v6.1.Next]) hS24 hW rfl (qs (SlF.one hv11) (qs (SlN.one hv15) (qs rfl zt))) (nle rfl) rfl (fun h26 hS27=>?_)
 obtain ⟨v28,hx29,hF30⟩:=qm hF8
 simp only [qg,qa,qo7,qh,qf,qtq,zf0,zb,B0,reduceIte,reduceEqDiff]
 refine kv rfl (kx hW pb0 v1.2 30 v28 hx29 (Sep.m3 hS27)) ?_
 rintro _ h31 ⟨rfl,hS32⟩
 obtain ⟨v33,hx34,hF35⟩:=qm hF30
 simp only [qg,qa,qp3,qh,qf,zf0,zb,B0,reduceIte,reduceEqDiff]
 refine kv rfl (qbd hW pb0 v28.2 12 v33 hx34 hS32) ?_
 rintro _ h36 ⟨rfl,hS37⟩
 simp only [qa,qy6,qy,B0,reduceIte,reduceEqDiff]
 obtain ⟨sv43,hX41,hk42⟩:=qm hF35
 refine xq (t:=v33.1) (fun fr' h'=>fr' 0 = .ptr pb0 0∧fr' 4 = .int .i64 (IntKind.wrap .i64
   ((1:Int)+v1.1))∧fr' 5 = .ptr b22 0∧fr' 7 = .nil∧fr' 8 = .int .i64 sv43.1∧Sep h' lo ([Blk1 pb0 [lst cU8 sv43.2.code,.int .i64 sv43.2.at_,
   .int .u64 sv43.2.seed] 79]++([Blk1 b22 [v9,v13,.int .i64 v6.1.Next] 29]++(c10++(c14++(S0)))))) (fun Q44 hN45 hR46 hE47=>⟨fun hc48=>?_,fun hc48=>?_⟩) ?_
 ·rw [iteT hc48] at hX41
  obtain ⟨v49,hx50,hF51⟩:=qm hX41
  simp only [q0z,qf,zf0,qg,zb,B0,reduceIte,reduceEqDiff]
  refine kv rfl (kx hW pb0 v33.2 12 v49 hx50 hS37) ?_
  rintro _ h52 ⟨rfl,hS53⟩
  simp only [qv,qb,qaq,qg,qa,qk,B0,reduceIte,reduceEqDiff]
  have e54:=qj hF51
  subst e54
  exact hN45 _ _ ⟨zf0,rfl,rfl,rfl,rfl,(Sep.m3 (Sep.m3 (Sep.m3 (Sep.m3 hS53))))⟩
 ·rw [iteF hc48] at hX41
  simp only [ze,qk,B0,reduceIte,reduceEqDiff]
  have e55:=qj hX41
  subst e55
  exact hN45 _ _ ⟨zf0,rfl,rfl,rfl,rfl,(Sep.m3 (Sep.m3 (Sep.m3 (Sep.m3 hS37))))⟩
 rintro fr56 h57 ⟨f59,f60,f61,f62,f63,hS58⟩
 obtain ⟨s38,s39⟩:=sv43
 dsimp only at *
 unfold qb0 at hk42
 simp only [qut,qh,B0,reduceIte,reduceEqDiff]
 obtain ⟨oc98,hX100,hk101⟩:=jd hk42
 simp only [qvy]
 refine qkt (σ:=(List Command) × Int × L1Cur × Control) (fun s213=>wd k s213.1 s213.2.1 s213.2.2.1 s213.2.2.2) (fun s fr' h'=>∃ v82 c83 v89 c90 v93 c94,
   fr' 0 = .ptr pb0 0∧fr' 4 = .int .i64 (IntKind.wrap .i64
   ((1:Int)+v1.1))∧fr' 5 = .ptr b22 0∧fr' 7=v82∧fr' 8 = .int .i64 s.2.1∧SlN Command.R 6 44 v82 s.1 c83∧SlF qe 3 86 v89 s.2.2.2.Brokers c90∧SlN Partition.R 5 39 v93 s.2.2.2.Parts c94∧Sep h' lo
   ([Blk1 pb0 [lst cU8 s.2.2.1.code,.int .i64 s.2.2.1.at_,.int .u64 s.2.2.1.seed] 79]++([Blk1 b22 [v89,v93,
   .int .i64 s.2.2.2.Next] 29]++(c83++(c90++(c94++(S0))))))) hX100 ⟨.nil,[],v9,c10,v13,c14,f59,f60,f61,f62,f63,SlN.nil,hv11,hv15,
   ((Sep.m3 (Sep.m3 (Sep.m3 (Sep.m3 hS58)))) : Sep _ lo ([Blk1 pb0 [lst cU8 s39.code,.int .i64 s39.at_,.int .u64 s39.seed] 79]++([Blk1 b22 [v9,v13,
   .int .i64 v6.1.Next] 29]++(c10++(c14++(S0))))))⟩ (fun _ _ _ h=>h) ?_ ?_
 ·rintro ⟨s80,s85,s86,s87⟩ fr110 h111 ⟨v82,c83,v89,c90,v93,c94,f113,f114,f115,f116,f117,hv84,hv91,hv95,hS112⟩ oc99 hF102 hr103 Q104 hN105 hK106 hR107 hE108
  dsimp only at *
  unfold wd at hF102
  simp only [q3v,qh,qf,f117,qg,qv,qb,qet,qa,qy,B0,reduceIte,reduceEqDiff]
  refine qw (t:=(decide ((0:Int)<s85))) (fun hc119=>?_) (fun hc119=>?_)
  ·rw [iteT hc119] at hF102
   simp only [ze,q3c,qh,wh,q31,qf,f113,qg,f115,ql,B0,reduceIte,reduceEqDiff]
   refine qi (v := .agg [v89,v93,.int .i64 s87.Next]) ((z3 (Sep.bk _ _ _ (Sep.m1 hS112))).trans rfl) ?_
   obtain ⟨v120,hx121,hF122⟩:=qm hF102
   simp only [zb,B0,reduceIte,reduceEqDiff]
   refine kv rfl (qiz hW k pb0 s86 s87 v89 c90 hv91 v93 c94 hv95 v120 hx121 (Sep.m2 (Sep.m4 (Sep.m4 hS112)))) ?_
   rintro _ h131 ⟨v123,c124,c127,c129,rfl,hv125,hv128,hv130,hS132⟩
   simp only [jg,B0,reduceIte,reduceEqDiff]
   refine z1 hS132 (fun b133 h134 hS135=>?_)
   simp only [zl,B0,reduceIte,reduceEqDiff]
   refine zf (us:=[.int .i64 v120.1.Kind,.int .i64 v120.1.Broker,.int .i64 v120.1.Epoch,.int .i64 v120.1.Part,.int .i64 v120.1.Stamp,
     v123]) rfl (cs':=[.int .i64 v120.1.Kind,.int .i64 v120.1.Broker,.int .i64 v120.1.Epoch,.int .i64 v120.1.Part,.int .i64 v120.1.Stamp,
     v123]) hS135 hW rfl (qs rfl (qs rfl (qs rfl (qs rfl (qs rfl (qs (SlF.one hv125) zt)))))) (nle rfl) rfl (fun h137 hS138=>?_)
   simp only [qa,B0,reduceIte,reduceEqDiff]
   refine zw hS138 hW (by simp only [B0,reduceIte,reduceEqDiff]) (fun h139 hS140=>?_)
   simp only [zv,q3u,qh,qf,f115,ql,B0,reduceIte,reduceEqDiff]
   refine qi (v := .agg [v89,v93,.int .i64 s87.Next]) ((z3 (Sep.bk _ _ _ (Sep.m4 hS140))).trans rfl) ?_
   simp only [ql,B0,reduceIte,reduceEqDiff]
   refine qi (v := .agg [.int .i64 v120.1.Kind,.int .i64 v120.1.Broker,.int .i64 v120.1.Epoch,.int .i64 v120.1.Part,.int .i64 v120.1.Stamp,v123]) rfl ?_
   obtain ⟨v141,hx142,hF143⟩:=qm hF122
   simp only [zb,B0,reduceIte,reduceEqDiff]
   refine u9 rfl hS140 (qn (jf (qn (SlF.snap hv128 (Sep.m2 hS140) rfl (fun _=>rfl) (fun _=>rfl)) (qn (SlN.snap hv130 _ (Sep.m3 hS140) rfl Partition.RO)
     (qn qu zg)))) (qn (jf (qn qu (qn qu (qn qu (qn qu (qn qu (qn (SlF.snap hv125 hS140 rfl
     (fun _=>rfl) (fun _=>rfl)) zg))))))) zg)) (qgk (fun b hb=>decide_eq_true hb)
     (Control.mk v120.2.2.Brokers v120.2.2.Parts s87.Next) v120.1 v141 hx142) ?_
   rintro _ h152 ⟨v144,c145,v148,c149,rfl,hv146,hv150,hS153⟩
   refine ⟨_,qcl (qs (qew (qs (SlF.free1 hv146) (qs (SlN.free1 hv150) (qs rfl zt)))) (qs rfl (qs rfl zt))),hS153,
     (j0 (SlF.pf hv146 (fun _=>rfl)) (j0 (SlN.pf hv150 Partition.RO) wt)),fun h154 hS155=>?_⟩
   have hS156:Sep h154 lo (c145++(c149++(c124++([Blk1 pb0 [lst cU8 v120.2.1.code,.int .i64 v120.2.1.at_,
     .int .u64 v120.2.1.seed] 79]++(c127++(c129++([Blk1 b22 [v89,v93,.int .i64 s87.Next] 29]++(c83++(S0))))))))):=by simpa only [List.append_assoc,
     List.nil_append] using hS155
   simp only [qg,qad,qb,qa7,qa0,qjw,jg,B0,reduceIte,reduceEqDiff]
   refine z1 hS156 (fun b157 h158 hS159=>?_)
   simp only [zl,B0,reduceIte,reduceEqDiff]
   refine zf (us:=[v144,v148,.int .i64 v141.1.Next]) rfl (cs':=[v144,v148,
     .int .i64 v141.1.Next]) hS159 hW rfl (qs (SlF.one hv146) (qs (SlN.one hv150) (qs rfl zt))) (nle rfl) rfl (fun h161 hS162=>?_)
   simp only [qg,qa,B0,reduceIte,reduceEqDiff]
   refine zw hS162 hW (by simp only [B0,reduceIte,reduceEqDiff]) (fun h163 hS164=>?_)
   simp only [zv,q1w,qh,qf,qg,qa,qy2,qy,B0,reduceIte,reduceEqDiff]
   obtain ⟨s165,hX175,hk176⟩:=qm hF143
   refine xq (t:=v141.2.2) (fun fr' h'=>∃ v167 c168 v171 c172,
     fr' 0 = .ptr pb0 0∧fr' 4 = .int .i64 (IntKind.wrap .i64
     ((1:Int)+v1.1))∧fr' 5 = .ptr b22 0∧fr' 7=v82∧fr' 8 = .int .i64 s85∧fr' 9 = .ref [.int .i64 v120.1.Kind,.int .i64 v120.1.Broker,.int .i64 v120.1.Epoch,
     .int .i64 v120.1.Part,.int .i64 v120.1.Stamp,
     v123] 0∧SlF qe 3 86 v167 s165.Brokers c168∧SlN Partition.R 5 39 v171 s165.Parts c172∧Sep h' lo ([Blk1 pb0 [lst cU8 v120.2.1.code,.int .i64 v120.2.1.at_,
     .int .u64 v120.2.1.seed] 79]++([Blk1 b22 [v167,v171,
     .int .i64 s165.Next] 29]++(c83++(c124++(c168++(c172++(S0)))))))) (fun Q177 hN178 hR179 hE180=>⟨fun hc181=>?_,fun hc181=>?_⟩) ?_
   ·rw [iteT hc181] at hX175
    simp only [qf,ql,B0,reduceIte,reduceEqDiff]
    refine qi (v := .agg [v144,v148,.int .i64 v141.1.Next]) rfl ?_
    simp only [f115,zl,B0,reduceIte,reduceEqDiff]
    refine zf (us:=[v144,v148,.int .i64 v141.1.Next]) rfl (cs':=[v144,v148,
      .int .i64 v141.1.Next]) (Sep.m6 hS164) hW rfl (qs (SlF.one hv146) (qs (SlN.one hv150) (qs rfl zt))) (nle rfl) rfl (fun h182 hS183=>?_)
    simp only [qa,qk,B0,reduceIte,reduceEqDiff]
    have e184:=qj hX175
    subst e184
    exact hN178 _ _ ⟨v144,c145,v148,c149,f113,f114,f115,f116,f117,rfl,hv146,hv150,
      (Sep.m5 (Sep.m4 (Sep.m5 (Sep.m3 (Sep.m2 (Sep.m2 (Sep.dc (Sep.m5 (Sep.dc (Sep.m5 hS183))))))))))⟩
   ·rw [iteF hc181] at hX175
    simp only [ze,qk,B0,reduceIte,reduceEqDiff]
    have e185:=qj hX175
    subst e185
    exact hN178 _ _ ⟨v89,c127,v93,c129,f113,f114,f115,f116,f117,rfl,hv128,hv130,(Sep.m5 (Sep.m5 (Sep.m5 (Sep.m2 (Sep.m3 (Sep.m3 (Sep.dc ((Sep.dc (hS164))))))))))⟩
   rintro fr186 h187 ⟨v167,c168,v171,c172,f189,f190,f191,f192,f193,f194,hv169,hv173,hS188⟩
   unfold qbz at hk176
   simp only [q2f,qf,f192,qg,f194,ql,B0,reduceIte,reduceEqDiff]
   refine qi (v := .agg [.int .i64 v120.1.Kind,.int .i64 v120.1.Broker,.int .i64 v120.1.Epoch,.int .i64 v120.1.Part,.int .i64 v120.1.Stamp,v123]) rfl ?_
   simp only [j6,evp,B0,reduceIte,reduceEqDiff]
   refine qd5 (R:=Command.R) (n:=6) (cs:=[.int .i64 v120.1.Kind,.int .i64 v120.1.Broker,.int .i64 v120.1.Epoch,.int .i64 v120.1.Part,.int .i64 v120.1.Stamp,
     v123]) (os:=c124) (Sep.m3 hS188) (u7 (us:=[.int .i64 v120.1.Kind,.int .i64 v120.1.Broker,.int .i64 v120.1.Epoch,.int .i64 v120.1.Part,.int .i64 v120.1.Stamp,
     v123]) (vs:=[.int .i64 v120.1.Kind,.int .i64 v120.1.Broker,.int .i64 v120.1.Epoch,.int .i64 v120.1.Part,.int .i64 v120.1.Stamp,
     v123]) rfl rfl (nle rfl) (qs rfl (qs rfl (qs rfl (qs rfl (qs rfl (qs (SlF.one hv125) zt)))))) rfl qe3) (Command.RI (x:=v120.1) hv125) rfl
     (fun v195 c196 h197 hv198 hS199=>?_)
   simp only [xj,B0,reduceIte,reduceEqDiff]
   obtain ⟨l201,hx202,hF203⟩:=qm hk176
   refine qgu (R:=Command.R) (c:=c83) hv84 hv198 (Sep.m3 hS199) hW Command.RO.len Command.RO.one hx202 (fun v204 c205 h206 hv207 hS208=>?_)
   simp only [qg,qa,xd,qf,f193,qv,qb,qf7,qk,B0,reduceIte,reduceEqDiff]
   have e210:=qj hF203
   exact hN105 _ _ _ e210.symm ⟨v204,c205,v167,c168,v171,c172,f189,f190,f191,rfl,rfl,hv207,hv169,hv173,(Sep.m4 (Sep.m4 (Sep.m2 (Sep.m4 (Sep.m4 hS208)))))⟩
  rw [iteF hc119] at hF102
  simp only [qhp,qgf,qhc,B0,reduceIte,reduceEqDiff]
  have e212:=qj hF102
  exact hK106 _ _ _ e212.symm ⟨v82,c83,v89,c90,v93,c94,f113,f114,f115,f116,f117,hv84,hv91,hv95,(Sep.m4 (Sep.m4 (Sep.m4 (Sep.m4 (Sep.m4 hS112)))))⟩
 rintro ⟨s214,s219,s220,s221⟩ fr230 h231 rfl ⟨v216,c217,v223,c224,v227,c228,f233,f234,f235,f236,f237,hv218,hv225,hv229,hS232⟩
 dsimp only [jnO] at hk101
 dsimp only at *
 unfold qgd at hk101
 simp only [qu5,qh,qf,f234,qg,f236,qa,q8,B0,reduceIte,reduceEqDiff]
 have he:=qj hk101
 subst he
 simp only [qcj,B0,reduceIte,reduceEqDiff]
 exact ⟨v216,c217,by first | trivial | rfl,hv218,(Sep.m1 (Sep.dc (Sep.m2 (Sep.dc (Sep.m2 (Sep.dc (Sep.m1 hS232)))))))⟩
theorem qgq {W:Nat→Bool}{h:Heap} (hW:∀ b,
  (geL h.length) b→W b=true) (k:Nat) (code_0:List Int) (r:Int × (List Command)) (hF:wj k code_0=some r) : Ret E W 7 [lst cU8 code_0] h
  (fun v h'=>∃ rv1 rc1,v = .tup [.int .i64 r.1,rv1]∧SlN Command.R 6 44 rv1 r.2 rc1∧Sep h' (geL h.length) (rc1++([]))):=by
 refine Ret.of (fn:=x7) rfl (Run.of ?_)
 unfold wj at hF
 have zf0:zj [lst cU8 code_0] 0=lst cU8 code_0:=rfl
 generalize zj [lst cU8 code_0]=fr0 at zf0 ⊢
 have hS:Sep h (geL h.length) []:=Sep.nil h
 simp only [x7,qh,qf,qg,qa,q57,zf0,run_build,evp,B0,reduceIte,reduceEqDiff]
 refine qi (v := .agg [lst cU8 code_0,.int .i64 0,.int .u64 0]) rfl ?_
 simp only [ju,B0,reduceIte,reduceEqDiff]
 refine je (cs:=[lst cU8 code_0,.int .i64 0,.int .u64 0]) hS rfl rfl rfl (fun b1 h2 hS3=>?_)
 obtain ⟨v5,hx6,hF7⟩:=qm hF
 simp only [qg,qa,q6a,qh,qf,zb,B0,reduceIte,reduceEqDiff]
 refine kv rfl (qj0 hW k b1 (L1Cur.mk code_0 0 0) v5 hx6 hS3) ?_
 rintro _ h12 ⟨v8,c9,rfl,hv10,hS13⟩
 simp only [qad,qb,qa7,qa0,qg,qa,q8,B0,reduceIte,reduceEqDiff]
 have he:=qj hF7
 subst he
 simp only [qcj,B0,reduceIte,reduceEqDiff]
 exact ⟨v8,c9,by first | trivial | rfl,hv10,(Sep.dc (Sep.m1 hS13))⟩
theorem wk {W:Nat→Bool}{h:Heap} (hW:∀ b,
  (geL h.length) b→W b=true) (n_0:Int) (low_1:Int) (high_2:Int) (r:Bool) (hF:some (zp n_0 low_1 high_2)=some r) : Ret E W 46 [.int .i64 n_0,
  .int .i64 low_1,.int .i64 high_2] h (fun v h'=>cut h.length h' E.sz false 9 v=some (.bool r)):=by
 refine Ret.of (fn:=x46) rfl (Run.of ?_)
 unfold zp at hF
 have zf0:zj [.int .i64 n_0,.int .i64 low_1,.int .i64 high_2] 0 = .int .i64 n_0:=rfl
 have zf1:zj [.int .i64 n_0,.int .i64 low_1,.int .i64 high_2] 1 = .int .i64 low_1:=rfl
 have zf2:zj [.int .i64 n_0,.int .i64 low_1,.int .i64 high_2] 2 = .int .i64 high_2:=rfl
 generalize zj [.int .i64 n_0,.int .i64 low_1,.int .i64 high_2]=fr0 at zf0 zf1 zf2 ⊢
 have hS:Sep h (geL h.length) []:=Sep.nil h
 simp only [x46,qh,qf,qg,qa,qya,zf0,zf1,qv,qb,qby,B0,reduceIte,reduceEqDiff]
 refine zu 4 (fun fr' h'=>Sep h' (geL h.length) ([])∧fr' 14 = .bool ((decide (low_1≤n_0))&&(decide (n_0≤high_2)))) (fun Q1 hN2=>?_) ?_
 ·simp only [List.take_succ_cons,List.take_zero]
  simp only [qc (g:=10),B0,reduceIte,reduceEqDiff]
  refine qx (t:=(decide (low_1≤n_0))) (fun hg3=>?_) (fun hg3=>?_)
  ·simp only [hg3,qc (g:=10),qz,zf0,qg,zf2,qv,qb,qn0,qr,zh,qa,qk,B0,reduceIte,reduceEqDiff]
   exact hN2 _ _ ⟨hS,by rw [yb hg3]; simp only [B0,reduceIte,reduceEqDiff]⟩
  ·simp only [hg3,qc (g:=10),zy,qr,qb,zi,qa,qk,B0,reduceIte,reduceEqDiff]
   exact hN2 _ _ ⟨hS,by rw [yc hg3]; simp only [B0,reduceIte,reduceEqDiff]⟩
 rintro fr4 h6 ⟨hS7,f5⟩
 simp only [List.drop_succ_cons,List.drop_zero]
 simp only [f5,qg,qa,q8,B0,reduceIte,reduceEqDiff]
 have he:=qj hF
 subst he
 simp only [zc,B0,reduceIte,reduceEqDiff]
 exact rfl
theorem qi0 {W:Nat→Bool}{h:Heap} (hW:∀ b,
  (geL h.length) b→W b=true) (brokers_0:Int) (r:Control) (hF:qax brokers_0=some r) : Ret E W 47 [.int .i64 brokers_0] h
  (fun v h'=>∃ rv0_0 rc0_0 rv0_1 rc0_1,v = .agg [rv0_0,rv0_1,
  .int .i64 r.Next]∧SlF qe 3 86 rv0_0 r.Brokers rc0_0∧SlN Partition.R 5 39 rv0_1 r.Parts rc0_1∧Sep h' (geL h.length) (rc0_0++(rc0_1++([])))):=by
 refine Ret.of (fn:=x47) rfl (Run.of ?_)
 unfold qax at hF
 have zf0:zj [.int .i64 brokers_0] 0 = .int .i64 brokers_0:=rfl
 generalize zj [.int .i64 brokers_0]=fr0 at zf0 ⊢
 have hS:Sep h (geL h.length) []:=Sep.nil h
 simp only [x47,qh,qf,jg,B0,reduceIte,reduceEqDiff]
 refine z1 hS (fun b1 h2 hS3=>?_)
 simp only [qa,q0n,qh,qf,run_build,evp,B0,reduceIte,reduceEqDiff]
 refine qi (v := .agg [.nil,.nil,.int .i64 1]) rfl ?_
 simp only [jg,B0,reduceIte,reduceEqDiff]
 refine z1 hS3 (fun b5 h6 hS7=>?_)
 simp only [zl,B0,reduceIte,reduceEqDiff]
 refine zf (us:=[.nil,.nil,.int .i64 1]) rfl (cs':=[.nil,.nil,.int .i64 1]) hS7 hW rfl rfl (nle rfl) rfl (fun h9 hS10=>?_)
 simp only [qa,qxp,qh,qf,zf0,qg,B0,reduceIte,reduceEqDiff]
 obtain ⟨oc23,hX25,hk26⟩:=jd hF
 simp only [q25]
 refine wc (σ:=Control) (fun i21 s61=>uf i21 s61) (fun s fr' h'=>∃ v18 c19,
   fr' 2 = .ptr b1 0∧fr' 3 = .ptr b5 0∧SlF qe 3 86 v18 s.Brokers c19∧Sep h' (geL h.length) ([Blk1 b1 [.nil,.nil,.int .i64 0] 29]++([Blk1 b5 [v18,.nil,
   .int .i64 s.Next] 29]++(c19++([]))))) hX25 ⟨.nil,[],rfl,rfl,SlF.nil,((Sep.m1 hS10) : Sep _ (geL h.length) ([Blk1 b1 [.nil,.nil,
   .int .i64 0] 29]++([Blk1 b5 [.nil,.nil,.int .i64 1] 29]++([]))))⟩ (by simp only [B0,reduceIte,reduceEqDiff]) (by simp only [B0,reduceIte,
   reduceEqDiff]) (fun _ _ _ h=>h) rfl rfl (fun _ _ _ _ h=>h) (fun _ _ _ _ h=>h) (fun _ _ _ _ h=>h) (by decide) ?_ ?_
 ·rintro i21 s16 fr35 h36 hx40 ⟨v18,c19,f38,f39,hv20,hS37⟩ f41 f42 oc24 hF27 hr28 Q29 hN30 hB34 hK31 hR32 hE33
  unfold uf at hF27
  simp only [q38,qf,f39,qo,qb,Nat.reduceAdd,Nat.zero_add,Nat.add_zero,q9,ql,B0,reduceIte,reduceEqDiff]
  refine qi (v:=v18) ((z5 (Sep.bk _ _ _ (Sep.m1 hS37))).trans rfl) ?_
  simp only [run_build,evp,B0,reduceIte,reduceEqDiff]
  refine qi (v := .agg [.int .i64 0,.int .i64 0,.bool true]) rfl ?_
  simp only [j6,evp,B0,reduceIte,reduceEqDiff]
  refine jv (n:=3) (f:=qe) [(Broker.mk 0 0 true)] hS37 rfl rfl (fun v43 c44 h45 hv46 hS47=>?_)
  simp only [xj,B0,reduceIte,reduceEqDiff]
  obtain ⟨l49,hx50,hF51⟩:=qm hF27
  refine y8 (f:=qe) hv20 (Sep.m3 hS47) hW (fun _=>rfl) (fun _=>rfl) (SlF.first hv46 hS47 (fun _=>rfl)) hx50 (fun v52 c53 h54 hv55 hS56=>?_)
  simp only [f39,qo,qb,Nat.reduceAdd,Nat.zero_add,Nat.add_zero,q9,zl,B0,reduceIte,reduceEqDiff]
  refine zf (us:=[v52]) (kd (SlF.one hv55)) (cs':=[v52,.nil,
    .int .i64 s16.Next]) (Sep.m3 hS56) hW rfl (qs (SlF.one hv55) zt) (nle rfl) rfl (fun h58 hS59=>?_)
  simp only [qa,qk,B0,reduceIte,reduceEqDiff]
  have e60:=qj hF51
  exact hN30 _ _ _ e60.symm ⟨v52,c53,f38,f39,hv55,(Sep.m2 (Sep.m1 (Sep.m1 (Sep.dc (Sep.m2 hS59)))))⟩ (f41) (f42)
 rintro s62 fr67 h68 rfl ⟨v64,c65,f70,f71,hv66,hS69⟩
 dsimp only [jnO] at hk26
 unfold qe8 at hk26
 simp only [qh,qf,f71,ql,B0,reduceIte,reduceEqDiff]
 refine qi (v := .agg [v64,.nil,.int .i64 s62.Next]) ((z3 (Sep.bk _ _ _ (Sep.m1 hS69))).trans rfl) ?_
 simp only [f70,zl,B0,reduceIte,reduceEqDiff]
 refine zf (us:=[v64,.nil,.int .i64 s62.Next]) rfl (cs':=[v64,.nil,
   .int .i64 s62.Next]) hS69 hW rfl (qs (SlF.one hv66) (qs rfl (qs rfl zt))) (nle rfl) rfl (fun h72 hS73=>?_)
 simp only [qa,q8,B0,reduceIte,reduceEqDiff]
 have he:=qj hk26
 subst he
 refine wz (bb:=b1) (oo:=0) (v := .agg [v64,.nil,.int .i64 s62.Next]) (by simp only [f70,B0,reduceIte,reduceEqDiff]) ((z3 (Sep.bk _ _ _ hS73)).trans rfl) ?_
 exact ⟨v64,c65,.nil,[],by first | trivial | rfl,hv66,SlN.nil,((Sep.dc ((Sep.dc (hS73)))) : Sep _ (geL h.length) (c65++([])))⟩
theorem qdc {W:Nat→Bool}{h:Heap} (hW:∀ b,
  (geL h.length) b→W b=true) (list_0:List Int) (many_1:Int) (r:Bool) (hF:w7 list_0 many_1=some r) : Ret E W 75 [lst cI list_0,
  .int .i64 many_1] h (fun v h'=>cut h.length h' E.sz false 9 v=some (.bool r)):=by
 refine Ret.of (fn:=x75) rfl (Run.of ?_)
 unfold w7 at hF
 have zf0:zj [lst cI list_0,.int .i64 many_1] 0=lst cI list_0:=rfl
 have zf1:zj [lst cI list_0,.int .i64 many_1] 1 = .int .i64 many_1:=rfl
 generalize zj [lst cI list_0,.int .i64 many_1]=fr0 at zf0 zf1 ⊢
 have hS:Sep h (geL h.length) []:=Sep.nil h
 simp only [x75,qh,qf,qg,qa,q15,zf0,zr,qb,zx,B0,reduceIte,reduceEqDiff]
 obtain ⟨oc3,hX5,hk6⟩:=jd hF
 simp only [q0r]
 refine kn (σ:=Unit) list_0 (fun i1 x2 _=>qa4 list_0 many_1 i1 x2 )
   (fun s fr' h'=>fr' 0=lst cI list_0∧fr' 1 = .int .i64 many_1∧fr' 7=lst cI list_0∧Sep h' (geL h.length) ([])) hX5 ⟨zf0,zf1,rfl,hS⟩ (by simp only [B0,reduceIte,
   reduceEqDiff]) (by simp only [B0,reduceIte,reduceEqDiff]) (fun _ _ _ h=>h) rfl rfl (fun _ _ _ _ h=>h) (fun _ _ _ _ h=>h) (fun _ _ _ _ h=>h) (by decide) ?_ ?_
 ·rintro i1 x2 _ fr15 h16 hx21 ⟨f18,f19,f20,hS17⟩ f22 f23 oc4 hF7 hr8 Q9 hN10 hB14 hK11 hR12 hE13
  unfold qa4 at hF7
  simp only [q3p,qh,qf,f22,qg,f20,jb,B0,reduceIte,reduceEqDiff]
  refine qi (v := .ref (cI x2) 0) (ko hx21 rfl) ?_
  simp only [ql,B0,reduceIte,reduceEqDiff]
  refine qi (v := .int .i64 x2) rfl ?_
  simp only [qg,qa,qzo,qh,qf,f19,qv,qb,qf7,zb,B0,reduceIte,reduceEqDiff]
  refine jc rfl (qn qu (qn qu (qn qu zg))) (wk (fun b hb=>decide_eq_true hb) x2 0 (IntKind.wrap .i64 (many_1 - 1)) _ rfl) ?_
  simp only [ja,qb,jq,qg,B0,reduceIte,reduceEqDiff]
  obtain ⟨v27,hx28,hF29⟩:=qm hF7
  refine zu 12 (fun fr' h'=>Sep h' (geL h.length) ([])∧fr' 31 = .bool v27∧fr' 0=lst cI list_0∧fr' 1 = .int .i64 many_1∧fr' 7=lst cI list_0∧fr' 8 = .int .i64
    (List.length list_0:Int)∧fr' 9 = .int .i64 (i1:Int)) (fun Q24 hN25=>?_) ?_
  ·simp only [List.take_succ_cons,List.take_zero]
   simp only [qc (g:=19),B0,reduceIte,reduceEqDiff]
   refine qx (t:=(!(zp x2 0 (IntKind.wrap .i64 (many_1 - 1))))) (fun hg26=>?_) (fun hg26=>?_)
   ·rw [iteT hg26] at hx28
    simp only [hg26,qc (g:=19),zq,qc (g:=22),qbu,qr,qb,zh,qa,qk,B0,reduceIte,reduceEqDiff]
    have e30:=qj hx28
    exact hN25 _ _ ⟨hS17,by rw [←e30]; simp only [B0,reduceIte,reduceEqDiff],f18,f19,f20,f23,f22⟩
   ·rw [iteF hg26] at hx28
    simp only [hg26,qc (g:=19),qp,qg,qv,qb,qet,B0,reduceIte,reduceEqDiff]
    obtain ⟨v34,hx35,hF36⟩:=qm hx28
    refine zu 8 (fun fr' h'=>Sep h' (geL h.length)
      ([])∧fr' 30 = .bool v34∧fr' 0=lst cI list_0∧fr' 1 = .int .i64 many_1∧fr' 7=lst cI list_0∧fr' 8 = .int .i64
      (List.length list_0:Int)∧fr' 9 = .int .i64 (i1:Int)∧fr' 19 = .bool (!(zp x2 0 (IntKind.wrap .i64 (many_1 - 1))))) (fun Q31 hN32=>?_) ?_
    ·simp only [List.take_succ_cons,List.take_zero]
     simp only [qc (g:=22),B0,reduceIte,reduceEqDiff]
     refine qx (t:=(decide ((0:Int)<(i1:Int)))) (fun hg33=>?_) (fun hg33=>?_)
     ·rw [iteT hg33] at hx35
      obtain ⟨x37,hx38,hF39⟩:=qm hx35
      simp only [hg33,qc (g:=22),qz,f18,qg,qv,qb,qf7,jb,B0,reduceIte,reduceEqDiff]
      refine qi (v := .ref (cI x37) 0) (xx hx38 rfl) ?_
      simp only [hg33,qc (g:=22),qz,ql,B0,reduceIte,reduceEqDiff]
      refine qi (v := .int .i64 x37) rfl ?_
      simp only [hg33,qc (g:=22),qz,qg,qv,qb,qby,hg26,qc (g:=19),qp,qr,zh,qa,qk,
        B0,reduceIte,reduceEqDiff]
      have e40:=qj hF39
      exact hN32 _ _ ⟨hS17,by rw [←e40]; simp only [B0,reduceIte,reduceEqDiff],f18,f19,f20,f23,f22,by simp only [hg26,B0,reduceIte,reduceEqDiff]⟩
     ·rw [iteF hg33] at hx35
      simp only [hg33,qc (g:=22),zy,hg26,qc (g:=19),qp,qr,qb,zi,qa,qk,B0,reduceIte,
        reduceEqDiff]
      have e41:=qj hx35
      exact hN32 _ _ ⟨hS17,by rw [←e41]; simp only [B0,reduceIte,reduceEqDiff],f18,f19,f20,f23,f22,by simp only [hg26,B0,reduceIte,reduceEqDiff]⟩
    rintro fr42 h50 ⟨hS51,f43,f44,f45,f46,f47,f48,f49⟩
    simp only [List.drop_succ_cons,List.drop_zero]
    simp only [f49,hg26,qr,qb,zi,f43,qa,qk,B0,reduceIte,reduceEqDiff]
    have e52:=qj hF36
    exact hN25 _ _ ⟨hS51,by rw [←e52]; simp only [B0,reduceIte,reduceEqDiff],f44,f45,f46,f47,f48⟩
  rintro fr53 h60 ⟨hS61,f54,f55,f56,f57,f58,f59⟩
  simp only [List.drop_succ_cons,List.drop_zero]
  simp only [qa,f54,qy,B0,reduceIte,reduceEqDiff]
  refine qw (t:=v27) (fun hc62=>?_) (fun hc62=>?_)
  ·rw [iteT hc62] at hF29
   simp only [qh,qf,qg,qa,q8,B0,reduceIte,reduceEqDiff]
   have e63:=qj hF29
   subst e63
   have ho64:=hr8 _ rfl
   have hk65:=hk6
   rw [ho64] at hk65
   dsimp only [jnO] at hk65
   apply hR12
   have he:=qj hk65
   subst he
   simp only [zc,B0,reduceIte,reduceEqDiff]
   exact rfl
  rw [iteF hc62] at hF29
  simp only [ze,qk,B0,reduceIte,reduceEqDiff]
  have e66:=qj hF29
  exact hN10 _ _ _ e66.symm ⟨f55,f56,f57,hS61⟩ (f59) (f58)
 rintro _ fr68 h69 rfl ⟨f71,f72,f73,hS70⟩
 dsimp only [jnO] at hk6
 unfold qfc at hk6
 simp only [qh,qf,qg,qa,q8,B0,reduceIte,reduceEqDiff]
 have he:=qj hk6
 subst he
 simp only [zc,B0,reduceIte,reduceEqDiff]
 exact rfl
theorem qjn {W:Nat→Bool}{h:Heap} (hW:∀ b,
  (geL h.length) b→W b=true) (v_0:Command) (v_1:Int) (r:Bool) (hF:qbr v_0 v_1=some r) : Ret E W 48 [.agg [.int .i64 v_0.Kind,.int .i64 v_0.Broker,
  .int .i64 v_0.Epoch,.int .i64 v_0.Part,.int .i64 v_0.Stamp,lst cI v_0.InStep],.int .i64 v_1] h (fun v h'=>cut h.length h' E.sz false 9 v=some (.bool r)):=by
 refine Ret.of (fn:=x48) rfl (Run.of ?_)
 unfold qbr at hF
 have zf0:zj [.agg [.int .i64 v_0.Kind,.int .i64 v_0.Broker,.int .i64 v_0.Epoch,.int .i64 v_0.Part,.int .i64 v_0.Stamp,lst cI v_0.InStep],
   .int .i64 v_1] 0 = .agg [.int .i64 v_0.Kind,.int .i64 v_0.Broker,.int .i64 v_0.Epoch,.int .i64 v_0.Part,.int .i64 v_0.Stamp,lst cI v_0.InStep]:=rfl
 have zf1:zj [.agg [.int .i64 v_0.Kind,.int .i64 v_0.Broker,.int .i64 v_0.Epoch,.int .i64 v_0.Part,.int .i64 v_0.Stamp,lst cI v_0.InStep],
   .int .i64 v_1] 1 = .int .i64 v_1:=rfl
 generalize zj [.agg [.int .i64 v_0.Kind,.int .i64 v_0.Broker,.int .i64 v_0.Epoch,.int .i64 v_0.Part,.int .i64 v_0.Stamp,lst cI v_0.InStep],
   .int .i64 v_1]=fr0 at zf0 zf1 ⊢
 have hS:Sep h (geL h.length) []:=Sep.nil h
 simp only [x48,qh,qf,ju,zf0,B0,reduceIte,reduceEqDiff]
 refine je (cs:=[.int .i64 v_0.Kind,.int .i64 v_0.Broker,.int .i64 v_0.Epoch,.int .i64 v_0.Part,.int .i64 v_0.Stamp,
   lst cI v_0.InStep]) hS rfl rfl rfl (fun b1 h2 hS3=>?_)
 simp only [qg,qa,B0,reduceIte,reduceEqDiff]
 refine zw hS3 hW (by simp only [B0,reduceIte,reduceEqDiff]) (fun h5 hS6=>?_)
 simp only [zv,qo5,qh,qf,qo,qb,Nat.reduceAdd,Nat.zero_add,Nat.add_zero,qq,ql,B0,reduceIte,reduceEqDiff]
 refine qi (v := .int .i64 v_0.Broker) rfl ?_
 simp only [zf1,qg,qv,qb,qf7,zb,B0,reduceIte,reduceEqDiff]
 refine jc rfl (qn qu (qn qu (qn qu zg))) (wk (fun b hb=>decide_eq_true hb) v_0.Broker 0 (IntKind.wrap .i64 (v_1 - 1)) _ rfl) ?_
 simp only [ja,qb,jq,qg,B0,reduceIte,reduceEqDiff]
 refine zu 5 (fun fr' h'=>Sep h' (geL h.length) ([])∧fr' 17 = .bool ((!(zp v_0.Broker 0 (IntKind.wrap .i64 (v_1 - 1)))) ||
   (!(zp v_0.Epoch 0 1000)))∧fr' 1 = .int .i64 v_1∧fr' 2 = .ref [.int .i64 v_0.Kind,.int .i64 v_0.Broker,.int .i64 v_0.Epoch,.int .i64 v_0.Part,
   .int .i64 v_0.Stamp,lst cI v_0.InStep] 0) (fun Q7 hN8=>?_) ?_
 ·simp only [List.take_succ_cons,List.take_zero]
  simp only [qc (g:=12),B0,reduceIte,reduceEqDiff]
  refine qx (t:=(!(zp v_0.Broker 0 (IntKind.wrap .i64 (v_1 - 1))))) (fun hg9=>?_) (fun hg9=>?_)
  ·simp only [hg9,qc (g:=12),zq,qr,qb,zh,qa,qk,B0,reduceIte,reduceEqDiff]
   exact hN8 _ _ ⟨hS6,by rw [orT hg9]; simp only [B0,reduceIte,reduceEqDiff],zf1,rfl⟩
  ·simp only [hg9,qc (g:=12),qp,qo,qb,Nat.reduceAdd,Nat.zero_add,Nat.add_zero,qq,ql,B0,reduceIte,reduceEqDiff]
   refine qi (v := .int .i64 v_0.Epoch) rfl ?_
   simp only [hg9,qc (g:=12),qp,zb,B0,reduceIte,reduceEqDiff]
   refine jc rfl (qn qu (qn qu (qn qu zg))) (wk (fun b hb=>decide_eq_true hb) v_0.Epoch 0 1000 _ rfl) ?_
   simp only [hg9,qc (g:=12),qp,ja,qb,jq,qr,zi,qa,qk,B0,reduceIte,reduceEqDiff]
   exact hN8 _ _ ⟨hS6,by rw [orF hg9]; simp only [B0,reduceIte,reduceEqDiff],zf1,rfl⟩
 rintro fr10 h14 ⟨hS15,f11,f12,f13⟩
 simp only [List.drop_succ_cons,List.drop_zero]
 simp only [f11,qg,B0,reduceIte,reduceEqDiff]
 refine zu 5 (fun fr' h'=>Sep h' (geL h.length) ([])∧fr' 23 = .bool (((!(zp v_0.Broker 0 (IntKind.wrap .i64 (v_1 - 1))))||(!(zp v_0.Epoch 0 1000))) ||
   (!(zp v_0.Part 0 1000)))∧fr' 1 = .int .i64 v_1∧fr' 2 = .ref [.int .i64 v_0.Kind,.int .i64 v_0.Broker,.int .i64 v_0.Epoch,.int .i64 v_0.Part,.int .i64 v_0.Stamp,
   lst cI v_0.InStep] 0) (fun Q16 hN17=>?_) ?_
 ·simp only [List.take_succ_cons,List.take_zero]
  simp only [qc (g:=18),B0,reduceIte,reduceEqDiff]
  refine qx (t:=((!(zp v_0.Broker 0 (IntKind.wrap .i64 (v_1 - 1))))||(!(zp v_0.Epoch 0 1000)))) (fun hg18=>?_) (fun hg18=>?_)
  ·simp only [hg18,qc (g:=18),zq,qr,qb,zh,qa,qk,B0,reduceIte,reduceEqDiff]
   exact hN17 _ _ ⟨hS15,by rw [orT hg18]; simp only [B0,reduceIte,reduceEqDiff],f12,f13⟩
  ·simp only [hg18,qc (g:=18),qp,f13,qo,qb,Nat.reduceAdd,Nat.zero_add,Nat.add_zero,qq,ql,B0,reduceIte,reduceEqDiff]
   refine qi (v := .int .i64 v_0.Part) rfl ?_
   simp only [hg18,qc (g:=18),qp,zb,B0,reduceIte,reduceEqDiff]
   refine jc rfl (qn qu (qn qu (qn qu zg))) (wk (fun b hb=>decide_eq_true hb) v_0.Part 0 1000 _ rfl) ?_
   simp only [hg18,qc (g:=18),qp,ja,qb,jq,qr,zi,qa,qk,B0,reduceIte,reduceEqDiff]
   exact hN17 _ _ ⟨hS15,by rw [orF hg18]; simp only [B0,reduceIte,reduceEqDiff],f12,f13⟩
 rintro fr19 h23 ⟨hS24,f20,f21,f22⟩
 simp only [List.drop_succ_cons,List.drop_zero]
 simp only [f20,qg,B0,reduceIte,reduceEqDiff]
 refine zu 5 (fun fr' h'=>Sep h' (geL h.length) ([])∧fr' 29 = .bool ((((!(zp v_0.Broker 0 (IntKind.wrap .i64 (v_1 - 1))))||(!(zp v_0.Epoch 0 1000))) ||
   (!(zp v_0.Part 0 1000)))||(!(zp v_0.Stamp 0 1000)))∧fr' 1 = .int .i64 v_1∧fr' 2 = .ref [.int .i64 v_0.Kind,.int .i64 v_0.Broker,.int .i64 v_0.Epoch,
   .int .i64 v_0.Part,.int .i64 v_0.Stamp,lst cI v_0.InStep] 0) (fun Q25 hN26=>?_) ?_
 ·simp only [List.take_succ_cons,List.take_zero]
  simp only [qc (g:=24),B0,reduceIte,reduceEqDiff]
  refine qx (t:=(((!(zp v_0.Broker 0 (IntKind.wrap .i64 (v_1 - 1))))||(!(zp v_0.Epoch 0 1000)))||(!(zp v_0.Part 0 1000)))) (fun hg27=>?_)
    (fun hg27=>?_)
  ·simp only [hg27,qc (g:=24),zq,qr,qb,zh,qa,qk,B0,reduceIte,reduceEqDiff]
   exact hN26 _ _ ⟨hS24,by rw [orT hg27]; simp only [B0,reduceIte,reduceEqDiff],f21,f22⟩
  ·simp only [hg27,qc (g:=24),qp,f22,qo,qb,Nat.reduceAdd,Nat.zero_add,Nat.add_zero,qq,ql,B0,reduceIte,reduceEqDiff]
   refine qi (v := .int .i64 v_0.Stamp) rfl ?_
   simp only [hg27,qc (g:=24),qp,zb,B0,reduceIte,reduceEqDiff]
   refine jc rfl (qn qu (qn qu (qn qu zg))) (wk (fun b hb=>decide_eq_true hb) v_0.Stamp 0 1000 _ rfl) ?_
   simp only [hg27,qc (g:=24),qp,ja,qb,jq,qr,zi,qa,qk,B0,reduceIte,reduceEqDiff]
   exact hN26 _ _ ⟨hS24,by rw [orF hg27]; simp only [B0,reduceIte,reduceEqDiff],f21,f22⟩
 rintro fr28 h32 ⟨hS33,f29,f30,f31⟩
 simp only [List.drop_succ_cons,List.drop_zero]
 simp only [f29,qg,B0,reduceIte,reduceEqDiff]
 obtain ⟨v37,hx38,hF39⟩:=qm hF
 refine zu 6 (fun fr' h'=>Sep h' (geL h.length) ([])∧fr' 36 = .bool v37∧fr' 2 = .ref [.int .i64 v_0.Kind,.int .i64 v_0.Broker,.int .i64 v_0.Epoch,.int .i64 v_0.Part,
   .int .i64 v_0.Stamp,lst cI v_0.InStep] 0) (fun Q34 hN35=>?_) ?_
 ·simp only [List.take_succ_cons,List.take_zero]
  simp only [qc (g:=30),B0,reduceIte,reduceEqDiff]
  refine qx (t:=((((!(zp v_0.Broker 0 (IntKind.wrap .i64 (v_1 - 1))))||(!(zp v_0.Epoch 0 1000)))||(!(zp v_0.Part 0 1000))) ||
    (!(zp v_0.Stamp 0 1000)))) (fun hg36=>?_) (fun hg36=>?_)
  ·rw [iteT hg36] at hx38
   simp only [hg36,qc (g:=30),zq,qr,qb,zh,qa,qk,B0,reduceIte,reduceEqDiff]
   have e40:=qj hx38
   exact hN35 _ _ ⟨hS33,by rw [←e40]; simp only [B0,reduceIte,reduceEqDiff],f31⟩
  ·rw [iteF hg36] at hx38
   simp only [hg36,qc (g:=30),qp,f31,qo,qb,Nat.reduceAdd,Nat.zero_add,Nat.add_zero,qq,ql,B0,reduceIte,reduceEqDiff]
   refine qi (v:=lst cI v_0.InStep) rfl ?_
   obtain ⟨v41,hx42,hF43⟩:=qm hx38
   simp only [hg36,qc (g:=30),qp,f30,qg,zb,B0,reduceIte,reduceEqDiff]
   refine jc rfl (qn zo (qn qu zg)) (qdc (fun b hb=>decide_eq_true hb) v_0.InStep v_1 v41 hx42) ?_
   simp only [hg36,qc (g:=30),qp,ja,qb,jq,qr,zi,qa,qk,B0,reduceIte,reduceEqDiff]
   have e44:=qj hF43
   exact hN35 _ _ ⟨hS33,by rw [←e44]; simp only [B0,reduceIte,reduceEqDiff],f31⟩
 rintro fr45 h48 ⟨hS49,f46,f47⟩
 simp only [List.drop_succ_cons,List.drop_zero]
 simp only [qa,f46,qy,B0,reduceIte,reduceEqDiff]
 refine qw (t:=v37) (fun hc50=>?_) (fun hc50=>?_)
 ·rw [iteT hc50] at hF39
  simp only [qh,qf,qg,qa,q8,B0,reduceIte,reduceEqDiff]
  have he:=qj hF39
  subst he
  simp only [zc,B0,reduceIte,reduceEqDiff]
  exact rfl
 rw [iteF hc50] at hF39
 simp only [ze,qs9,qh,qf,f47,qo,qb,Nat.reduceAdd,Nat.zero_add,Nat.add_zero,qq,ql,B0,reduceIte,reduceEqDiff]
 refine qi (v := .int .i64 v_0.Epoch) rfl ?_
 simp only [qv,qb,z4,qg,B0,reduceIte,reduceEqDiff]
 refine zu 4 (fun fr' h'=>Sep h' (geL h.length) ([])∧fr' 44 = .bool ((decide (v_0.Epoch=0))&&(decide (v_0.Stamp=0)))∧fr' 2 = .ref [.int .i64 v_0.Kind,
   .int .i64 v_0.Broker,.int .i64 v_0.Epoch,.int .i64 v_0.Part,.int .i64 v_0.Stamp,lst cI v_0.InStep] 0) (fun Q51 hN52=>?_) ?_
 ·simp only [List.take_succ_cons,List.take_zero]
  simp only [qc (g:=40),B0,reduceIte,reduceEqDiff]
  refine qx (t:=(decide (v_0.Epoch=0))) (fun hg53=>?_) (fun hg53=>?_)
  ·simp only [hg53,qc (g:=40),qz,f47,qo,qb,Nat.reduceAdd,Nat.zero_add,Nat.add_zero,qq,ql,B0,reduceIte,reduceEqDiff]
   refine qi (v := .int .i64 v_0.Stamp) rfl ?_
   simp only [hg53,qc (g:=40),qz,qv,qb,z4,qr,zh,qa,qk,B0,reduceIte,reduceEqDiff]
   exact hN52 _ _ ⟨hS49,by rw [yb hg53]; simp only [B0,reduceIte,reduceEqDiff],f47⟩
  ·simp only [hg53,qc (g:=40),zy,qr,qb,zi,qa,qk,B0,reduceIte,reduceEqDiff]
   exact hN52 _ _ ⟨hS49,by rw [yc hg53]; simp only [B0,reduceIte,reduceEqDiff],f47⟩
 rintro fr54 h57 ⟨hS58,f55,f56⟩
 simp only [List.drop_succ_cons,List.drop_zero]
 simp only [f55,qg,B0,reduceIte,reduceEqDiff]
 refine zu 5 (fun fr' h'=>Sep h' (geL h.length) ([])∧fr' 50 = .bool (((decide (v_0.Epoch=0))&&(decide (v_0.Stamp=0)))&&(decide
   ((List.length v_0.InStep:Int)=0)))∧fr' 2 = .ref [.int .i64 v_0.Kind,.int .i64 v_0.Broker,.int .i64 v_0.Epoch,.int .i64 v_0.Part,.int .i64 v_0.Stamp,
   lst cI v_0.InStep] 0) (fun Q59 hN60=>?_) ?_
 ·simp only [List.take_succ_cons,List.take_zero]
  simp only [qc (g:=45),B0,reduceIte,reduceEqDiff]
  refine qx (t:=((decide (v_0.Epoch=0))&&(decide (v_0.Stamp=0)))) (fun hg61=>?_) (fun hg61=>?_)
  ·simp only [hg61,qc (g:=45),qz,f56,qo,qb,Nat.reduceAdd,Nat.zero_add,Nat.add_zero,qq,ql,B0,reduceIte,reduceEqDiff]
   refine qi (v:=lst cI v_0.InStep) rfl ?_
   simp only [hg61,qc (g:=45),qz,zr,qb,zx,qv,z4,qr,zh,qa,qk,B0,reduceIte,reduceEqDiff]
   exact hN60 _ _ ⟨hS58,by rw [yb hg61]; simp only [B0,reduceIte,reduceEqDiff],f56⟩
  ·simp only [hg61,qc (g:=45),zy,qr,qb,zi,qa,qk,B0,reduceIte,reduceEqDiff]
   exact hN60 _ _ ⟨hS58,by rw [yc hg61]; simp only [B0,reduceIte,reduceEqDiff],f56⟩
 rintro fr62 h65 ⟨hS66,f63,f64⟩
 simp only [List.drop_succ_cons,List.drop_zero]
 simp only [f63,qg,qa,qu1,qh,qf,f64,qo,qb,Nat.reduceAdd,Nat.zero_add,Nat.add_zero,qq,ql,B0,reduceIte,reduceEqDiff]
 refine qi (v := .int .i64 v_0.Kind) rfl ?_
 simp only [qa,qsh,wh,qp0,qh,qf,qv,qb,z4,qg,qpw,qy,B0,reduceIte,reduceEqDiff]
 refine qw (t:=(decide (v_0.Kind=1))) (fun hc67=>?_) (fun hc67=>?_)
 ·rw [iteT hc67] at hF39
  simp only [q2h,qh,qf,qg,B0,reduceIte,reduceEqDiff]
  refine zu 4 (fun fr' h'=>Sep h' (geL h.length) ([])∧fr' 60 = .bool ((((decide (v_0.Epoch=0))&&(decide (v_0.Stamp=0)))&&(decide
    ((List.length v_0.InStep:Int)=0)))&&(decide (v_0.Part=0)))) (fun Q68 hN69=>?_) ?_
  ·simp only [List.take_succ_cons,List.take_zero]
   simp only [qc (g:=56),B0,reduceIte,reduceEqDiff]
   refine qx (t:=(((decide (v_0.Epoch=0))&&(decide (v_0.Stamp=0)))&&(decide ((List.length v_0.InStep:Int)=0)))) (fun hg70=>?_) (fun hg70=>?_)
   ·simp only [hg70,qc (g:=56),qz,f64,qo,qb,Nat.reduceAdd,Nat.zero_add,Nat.add_zero,qq,ql,B0,reduceIte,reduceEqDiff]
    refine qi (v := .int .i64 v_0.Part) rfl ?_
    simp only [hg70,qc (g:=56),qz,qv,qb,z4,qr,zh,qa,qk,B0,reduceIte,reduceEqDiff]
    exact hN69 _ _ ⟨hS66,by rw [yb hg70]; simp only [B0,reduceIte,reduceEqDiff]⟩
   ·simp only [hg70,qc (g:=56),zy,qr,qb,zi,qa,qk,B0,reduceIte,reduceEqDiff]
    exact hN69 _ _ ⟨hS66,by rw [yc hg70]; simp only [B0,reduceIte,reduceEqDiff]⟩
  rintro fr71 h73 ⟨hS74,f72⟩
  simp only [List.drop_succ_cons,List.drop_zero]
  simp only [f72,qg,qa,q8,B0,reduceIte,reduceEqDiff]
  have he:=qj hF39
  subst he
  simp only [zc,B0,reduceIte,reduceEqDiff]
  exact rfl
 rw [iteF hc67] at hF39
 simp only [quq,qh,qf,qv,qb,z4,qg,qa,qq8,qy,B0,reduceIte,reduceEqDiff]
 refine qw (t:=(decide (v_0.Kind=2))) (fun hc75=>?_) (fun hc75=>?_)
 ·rw [iteT hc75] at hF39
  simp only [qzt,qh,qf,f64,qo,qb,Nat.reduceAdd,Nat.zero_add,Nat.add_zero,qq,ql,B0,reduceIte,reduceEqDiff]
  refine qi (v := .int .i64 v_0.Stamp) rfl ?_
  simp only [qv,qb,z4,qg,B0,reduceIte,reduceEqDiff]
  refine zu 5 (fun fr' h'=>Sep h' (geL h.length) ([])∧fr' 71 = .bool ((decide (v_0.Stamp=0))&&(decide
    ((List.length v_0.InStep:Int)=0)))∧fr' 2 = .ref [.int .i64 v_0.Kind,.int .i64 v_0.Broker,.int .i64 v_0.Epoch,.int .i64 v_0.Part,.int .i64 v_0.Stamp,
    lst cI v_0.InStep] 0) (fun Q76 hN77=>?_) ?_
  ·simp only [List.take_succ_cons,List.take_zero]
   simp only [qc (g:=66),B0,reduceIte,reduceEqDiff]
   refine qx (t:=(decide (v_0.Stamp=0))) (fun hg78=>?_) (fun hg78=>?_)
   ·simp only [hg78,qc (g:=66),qz,f64,qo,qb,Nat.reduceAdd,Nat.zero_add,Nat.add_zero,qq,ql,B0,reduceIte,reduceEqDiff]
    refine qi (v:=lst cI v_0.InStep) rfl ?_
    simp only [hg78,qc (g:=66),qz,zr,qb,zx,qv,z4,qr,zh,qa,qk,B0,reduceIte,reduceEqDiff]
    exact hN77 _ _ ⟨hS66,by rw [yb hg78]; simp only [B0,reduceIte,reduceEqDiff],f64⟩
   ·simp only [hg78,qc (g:=66),zy,qr,qb,zi,qa,qk,B0,reduceIte,reduceEqDiff]
    exact hN77 _ _ ⟨hS66,by rw [yc hg78]; simp only [B0,reduceIte,reduceEqDiff],f64⟩
  rintro fr79 h82 ⟨hS83,f80,f81⟩
  simp only [List.drop_succ_cons,List.drop_zero]
  simp only [f80,qg,B0,reduceIte,reduceEqDiff]
  refine zu 4 (fun fr' h'=>Sep h' (geL h.length) ([])∧fr' 76 = .bool (((decide (v_0.Stamp=0))&&(decide ((List.length v_0.InStep:Int)=0)))&&(decide
    (v_0.Part=0)))) (fun Q84 hN85=>?_) ?_
  ·simp only [List.take_succ_cons,List.take_zero]
   simp only [qc (g:=72),B0,reduceIte,reduceEqDiff]
   refine qx (t:=((decide (v_0.Stamp=0))&&(decide ((List.length v_0.InStep:Int)=0)))) (fun hg86=>?_) (fun hg86=>?_)
   ·simp only [hg86,qc (g:=72),qz,f81,qo,qb,Nat.reduceAdd,Nat.zero_add,Nat.add_zero,qq,ql,B0,reduceIte,reduceEqDiff]
    refine qi (v := .int .i64 v_0.Part) rfl ?_
    simp only [hg86,qc (g:=72),qz,qv,qb,z4,qr,zh,qa,qk,B0,reduceIte,reduceEqDiff]
    exact hN85 _ _ ⟨hS83,by rw [yb hg86]; simp only [B0,reduceIte,reduceEqDiff]⟩
   ·simp only [hg86,qc (g:=72),zy,qr,qb,zi,qa,qk,B0,reduceIte,reduceEqDiff]
    exact hN85 _ _ ⟨hS83,by rw [yc hg86]; simp only [B0,reduceIte,reduceEqDiff]⟩
  rintro fr87 h89 ⟨hS90,f88⟩
  simp only [List.drop_succ_cons,List.drop_zero]
  simp only [f88,qg,qa,q8,B0,reduceIte,reduceEqDiff]
  have he:=qj hF39
  subst he
  simp only [zc,B0,reduceIte,reduceEqDiff]
  exact rfl
 rw [iteF hc75] at hF39
 simp only [qty,qh,qf,qv,qb,z4,qg,qa,qv2,qy,B0,reduceIte,reduceEqDiff]
 refine qw (t:=(decide (v_0.Kind=3))) (fun hc91=>?_) (fun hc91=>?_)
 ·rw [iteT hc91] at hF39
  simp only [qyg,qh,qf,qg,B0,reduceIte,reduceEqDiff]
  refine zu 4 (fun fr' h'=>Sep h' (geL h.length) ([])∧fr' 84 = .bool ((((decide (v_0.Epoch=0))&&(decide (v_0.Stamp=0)))&&(decide
    ((List.length v_0.InStep:Int)=0)))&&(decide (v_0.Part=0)))∧fr' 2 = .ref [.int .i64 v_0.Kind,.int .i64 v_0.Broker,.int .i64 v_0.Epoch,.int .i64 v_0.Part,
    .int .i64 v_0.Stamp,lst cI v_0.InStep] 0) (fun Q92 hN93=>?_) ?_
  ·simp only [List.take_succ_cons,List.take_zero]
   simp only [qc (g:=80),B0,reduceIte,reduceEqDiff]
   refine qx (t:=(((decide (v_0.Epoch=0))&&(decide (v_0.Stamp=0)))&&(decide ((List.length v_0.InStep:Int)=0)))) (fun hg94=>?_) (fun hg94=>?_)
   ·simp only [hg94,qc (g:=80),qz,f64,qo,qb,Nat.reduceAdd,Nat.zero_add,Nat.add_zero,qq,ql,B0,reduceIte,reduceEqDiff]
    refine qi (v := .int .i64 v_0.Part) rfl ?_
    simp only [hg94,qc (g:=80),qz,qv,qb,z4,qr,zh,qa,qk,B0,reduceIte,reduceEqDiff]
    exact hN93 _ _ ⟨hS66,by rw [yb hg94]; simp only [B0,reduceIte,reduceEqDiff],f64⟩
   ·simp only [hg94,qc (g:=80),zy,qr,qb,zi,qa,qk,B0,reduceIte,reduceEqDiff]
    exact hN93 _ _ ⟨hS66,by rw [yc hg94]; simp only [B0,reduceIte,reduceEqDiff],f64⟩
  rintro fr95 h98 ⟨hS99,f96,f97⟩
  simp only [List.drop_succ_cons,List.drop_zero]
  simp only [f96,qg,B0,reduceIte,reduceEqDiff]
  refine zu 4 (fun fr' h'=>Sep h' (geL h.length) ([])∧fr' 89 = .bool (((((decide (v_0.Epoch=0))&&(decide (v_0.Stamp=0)))&&(decide
    ((List.length v_0.InStep:Int)=0)))&&(decide (v_0.Part=0)))&&(decide (v_0.Broker=0)))) (fun Q100 hN101=>?_) ?_
  ·simp only [List.take_succ_cons,List.take_zero]
   simp only [qc (g:=85),B0,reduceIte,reduceEqDiff]
   refine qx (t:=((((decide (v_0.Epoch=0))&&(decide (v_0.Stamp=0)))&&(decide ((List.length v_0.InStep:Int)=0)))&&(decide (v_0.Part=0))))
     (fun hg102=>?_) (fun hg102=>?_)
   ·simp only [hg102,qc (g:=85),qz,f97,qo,qb,Nat.reduceAdd,Nat.zero_add,Nat.add_zero,qq,ql,B0,reduceIte,reduceEqDiff]
    refine qi (v := .int .i64 v_0.Broker) rfl ?_
    simp only [hg102,qc (g:=85),qz,qv,qb,z4,qr,zh,qa,qk,B0,reduceIte,reduceEqDiff]
    exact hN101 _ _ ⟨hS99,by rw [yb hg102]; simp only [B0,reduceIte,reduceEqDiff]⟩
   ·simp only [hg102,qc (g:=85),zy,qr,qb,zi,qa,qk,B0,reduceIte,reduceEqDiff]
    exact hN101 _ _ ⟨hS99,by rw [yc hg102]; simp only [B0,reduceIte,reduceEqDiff]⟩
  rintro fr103 h105 ⟨hS106,f104⟩
  simp only [List.drop_succ_cons,List.drop_zero]
  simp only [f104,qg,qa,q8,B0,reduceIte,reduceEqDiff]
  have he:=qj hF39
  subst he
  simp only [zc,B0,reduceIte,reduceEqDiff]
  exact rfl
 rw [iteF hc91] at hF39
 simp only [qsq,qh,qf,qv,qb,z4,qg,qa,q4l,qy,B0,reduceIte,reduceEqDiff]
 refine qw (t:=(decide (v_0.Kind=4))) (fun hc107=>?_) (fun hc107=>?_)
 ·rw [iteT hc107] at hF39
  simp only [q3f,qh,qf,f64,qo,qb,Nat.reduceAdd,Nat.zero_add,Nat.add_zero,qq,ql,B0,reduceIte,reduceEqDiff]
  refine qi (v := .int .i64 v_0.Epoch) rfl ?_
  simp only [qv,qb,z4,qg,B0,reduceIte,reduceEqDiff]
  refine zu 4 (fun fr' h'=>Sep h' (geL h.length) ([])∧fr' 99 = .bool ((decide (v_0.Epoch=0))&&(decide (v_0.Stamp=0)))∧fr' 2 = .ref [.int .i64 v_0.Kind,
    .int .i64 v_0.Broker,.int .i64 v_0.Epoch,.int .i64 v_0.Part,.int .i64 v_0.Stamp,lst cI v_0.InStep] 0) (fun Q108 hN109=>?_) ?_
  ·simp only [List.take_succ_cons,List.take_zero]
   simp only [qc (g:=95),B0,reduceIte,reduceEqDiff]
   refine qx (t:=(decide (v_0.Epoch=0))) (fun hg110=>?_) (fun hg110=>?_)
   ·simp only [hg110,qc (g:=95),qz,f64,qo,qb,Nat.reduceAdd,Nat.zero_add,Nat.add_zero,qq,ql,B0,reduceIte,reduceEqDiff]
    refine qi (v := .int .i64 v_0.Stamp) rfl ?_
    simp only [hg110,qc (g:=95),qz,qv,qb,z4,qr,zh,qa,qk,B0,reduceIte,reduceEqDiff]
    exact hN109 _ _ ⟨hS66,by rw [yb hg110]; simp only [B0,reduceIte,reduceEqDiff],f64⟩
   ·simp only [hg110,qc (g:=95),zy,qr,qb,zi,qa,qk,B0,reduceIte,reduceEqDiff]
    exact hN109 _ _ ⟨hS66,by rw [yc hg110]; simp only [B0,reduceIte,reduceEqDiff],f64⟩
  rintro fr111 h114 ⟨hS115,f112,f113⟩
  simp only [List.drop_succ_cons,List.drop_zero]
  simp only [f112,qg,B0,reduceIte,reduceEqDiff]
  refine zu 4 (fun fr' h'=>Sep h' (geL h.length) ([])∧fr' 104 = .bool (((decide (v_0.Epoch=0))&&(decide (v_0.Stamp=0)))&&(decide
    (v_0.Part=0)))∧fr' 2 = .ref [.int .i64 v_0.Kind,.int .i64 v_0.Broker,.int .i64 v_0.Epoch,.int .i64 v_0.Part,.int .i64 v_0.Stamp,
    lst cI v_0.InStep] 0) (fun Q116 hN117=>?_) ?_
  ·simp only [List.take_succ_cons,List.take_zero]
   simp only [qc (g:=100),B0,reduceIte,reduceEqDiff]
   refine qx (t:=((decide (v_0.Epoch=0))&&(decide (v_0.Stamp=0)))) (fun hg118=>?_) (fun hg118=>?_)
   ·simp only [hg118,qc (g:=100),qz,f113,qo,qb,Nat.reduceAdd,Nat.zero_add,Nat.add_zero,qq,ql,B0,reduceIte,reduceEqDiff]
    refine qi (v := .int .i64 v_0.Part) rfl ?_
    simp only [hg118,qc (g:=100),qz,qv,qb,z4,qr,zh,qa,qk,B0,reduceIte,reduceEqDiff]
    exact hN117 _ _ ⟨hS115,by rw [yb hg118]; simp only [B0,reduceIte,reduceEqDiff],f113⟩
   ·simp only [hg118,qc (g:=100),zy,qr,qb,zi,qa,qk,B0,reduceIte,reduceEqDiff]
    exact hN117 _ _ ⟨hS115,by rw [yc hg118]; simp only [B0,reduceIte,reduceEqDiff],f113⟩
  rintro fr119 h122 ⟨hS123,f120,f121⟩
  simp only [List.drop_succ_cons,List.drop_zero]
  simp only [f120,qg,B0,reduceIte,reduceEqDiff]
  refine zu 4 (fun fr' h'=>Sep h' (geL h.length) ([])∧fr' 109 = .bool ((((decide (v_0.Epoch=0))&&(decide (v_0.Stamp=0)))&&(decide (v_0.Part=0)))&&(decide
    (v_0.Broker=0)))) (fun Q124 hN125=>?_) ?_
  ·simp only [List.take_succ_cons,List.take_zero]
   simp only [qc (g:=105),B0,reduceIte,reduceEqDiff]
   refine qx (t:=(((decide (v_0.Epoch=0))&&(decide (v_0.Stamp=0)))&&(decide (v_0.Part=0)))) (fun hg126=>?_) (fun hg126=>?_)
   ·simp only [hg126,qc (g:=105),qz,f121,qo,qb,Nat.reduceAdd,Nat.zero_add,Nat.add_zero,qq,ql,B0,reduceIte,reduceEqDiff]
    refine qi (v := .int .i64 v_0.Broker) rfl ?_
    simp only [hg126,qc (g:=105),qz,qv,qb,z4,qr,zh,qa,qk,B0,reduceIte,reduceEqDiff]
    exact hN125 _ _ ⟨hS123,by rw [yb hg126]; simp only [B0,reduceIte,reduceEqDiff]⟩
   ·simp only [hg126,qc (g:=105),zy,qr,qb,zi,qa,qk,B0,reduceIte,reduceEqDiff]
    exact hN125 _ _ ⟨hS123,by rw [yc hg126]; simp only [B0,reduceIte,reduceEqDiff]⟩
  rintro fr127 h129 ⟨hS130,f128⟩
  simp only [List.drop_succ_cons,List.drop_zero]
  simp only [f128,qg,qa,q8,B0,reduceIte,reduceEqDiff]
  have he:=qj hF39
  subst he
  simp only [zc,B0,reduceIte,reduceEqDiff]
  exact rfl
 rw [iteF hc107] at hF39
 simp only [qyu,qh,qf,qv,qb,z4,qg,qa,q35,qy,B0,reduceIte,reduceEqDiff]
 refine qw (t:=(decide (v_0.Kind=5))) (fun hc131=>?_) (fun hc131=>?_)
 ·rw [iteT hc131] at hF39
  simp only [qh,qf,qg,qa,q8,B0,reduceIte,reduceEqDiff]
  have he:=qj hF39
  subst he
  simp only [zc,B0,reduceIte,reduceEqDiff]
  exact rfl
 rw [iteF hc131] at hF39
 simp only [q4i,qh,qf,qv,qb,z4,qg,qa,q4t,qy,B0,reduceIte,reduceEqDiff]
 refine qw (t:=(decide (v_0.Kind=6))) (fun hc132=>?_) (fun hc132=>?_)
 ·rw [iteT hc132] at hF39
  simp only [qh,qf,qg,qa,q8,B0,reduceIte,reduceEqDiff]
  have he:=qj hF39
  subst he
  simp only [zc,B0,reduceIte,reduceEqDiff]
  exact rfl
 rw [iteF hc132] at hF39
 simp only [ze,xd,qh,qf,qg,qa,q8,B0,reduceIte,reduceEqDiff]
 have he:=qj hF39
 subst he
 simp only [zc,B0,reduceIte,reduceEqDiff]
 exact rfl
end Go.Proofs.Ytjloihcijdcpeaa.X
namespace Go.Proofs.Ytjloihcijdcpeaa.X
open Go
open Nat (reduceEqDiff)
theorem qcv {W:Nat→Bool}{h:Heap} (hW:∀ b,
  (geL h.length) b→W b=true) (c_0:Control) (r:Control) (hF:we c_0=some r) : Ret E W 76 [.agg [lst qe c_0.Brokers,
  lst qd c_0.Parts,.int .i64 c_0.Next]] h (fun v h'=>∃ rv0_0 rc0_0 rv0_1 rc0_1,v = .agg [rv0_0,rv0_1,
  .int .i64 r.Next]∧SlF qe 3 86 rv0_0 r.Brokers rc0_0∧SlN Partition.R 5 39 rv0_1 r.Parts rc0_1∧Sep h' (geL h.length) (rc0_0++(rc0_1++([])))):=by
 refine Ret.of (fn:=x76) rfl (Run.of ?_)
 unfold we at hF
 have zf0:zj [.agg [lst qe c_0.Brokers,lst qd c_0.Parts,.int .i64 c_0.Next]] 0 = .agg [lst qe c_0.Brokers,lst qd c_0.Parts,
   .int .i64 c_0.Next]:=rfl
 generalize zj [.agg [lst qe c_0.Brokers,lst qd c_0.Parts,.int .i64 c_0.Next]]=fr0 at zf0 ⊢
 have hS:Sep h (geL h.length) []:=Sep.nil h
 simp only [x76,qh,qf,ju,zf0,B0,reduceIte,reduceEqDiff]
 refine je (cs:=[lst qe c_0.Brokers,lst qd c_0.Parts,.int .i64 c_0.Next]) hS rfl rfl rfl (fun b1 h2 hS3=>?_)
 simp only [jg,B0,reduceIte,reduceEqDiff]
 refine z1 hS3 (fun b5 h6 hS7=>?_)
 simp only [qa,B0,reduceIte,reduceEqDiff]
 refine zw (Sep.m1 hS7) hW (by simp only [B0,reduceIte,reduceEqDiff]) (fun h9 hS10=>?_)
 simp only [zv,q0a,qh,jo,qbv,evp,B0,reduceIte,reduceEqDiff]
 refine qac (n:=3) (f:=qe) ([] : List Broker) hS10 rfl rfl (fun v12 c13 h14 hv15 hS16 hq11=>?_)
 simp only [qma,B0,reduceIte,reduceEqDiff]
 refine qhe hS16 (fun b18 h19 hS20=>?_)
 simp only [z8,qt,Nat.reduceAdd,Nat.zero_add,Nat.add_zero,qq,z2,B0,reduceIte,reduceEqDiff]
 refine zd (v:=lst qe c_0.Brokers) rfl ?_
 simp only [qdy,B0,reduceIte,reduceEqDiff]
 obtain ⟨l22,hx23,hF24⟩:=qm hF
 have hq25:=nwq (fun z hz=>Sep.dj (Sep.m2 (Sep.m2 hS20)) qbn (SlF.rowfp hv15 z hz))
 refine qgt qfi ?_
 refine qaw (f:=qe) hv15 (Sep.m1 hS20) hW (fun _=>rfl) (fun _=>rfl) (yv (fun _=>rfl)) hx23 (fun v26 c27 h28 hv29 hS30=>?_)
 simp only [qdo,qt,Nat.reduceAdd,Nat.zero_add,Nat.add_zero,qq,qcc,qbq,B0,reduceIte,reduceEqDiff]
 refine zd (v := .int .i64 c_0.Next) rfl ?_
 simp only [qhd,evp,B0,reduceIte,reduceEqDiff]
 refine zd (v := .agg [v26,.nil,.int .i64 c_0.Next]) (qdf (u7 (us:=[v26]) (vs:=[v26,.nil,
   .int .i64 0]) (kd (SlF.one hv29)) rfl (nle rfl) (qs (SlF.one hv29) zt) rfl (u7 (us:=[.int .i64 c_0.Next]) (vs:=[v26,.nil,
   .int .i64 c_0.Next]) rfl rfl (nle rfl) rfl rfl qe3))) ?_
 simp only [qdj,B0,reduceIte,reduceEqDiff]
 refine qc1 (us:=[v26,.nil,.int .i64 c_0.Next]) rfl (cs':=[v26,.nil,
   .int .i64 c_0.Next]) (Sep.m1 hS30) hW rfl (qs (SlF.one hv29) (qs rfl (qs rfl zt))) (nle rfl) rfl (fun h32 hS33=>?_)
 simp only [zm,qxw,qh,qf,qo,qb,Nat.reduceAdd,Nat.zero_add,Nat.add_zero,qq,ql,B0,reduceIte,reduceEqDiff]
 refine qi (v:=lst qd c_0.Parts) rfl ?_
 simp only [zr,qb,zx,qg,qa,B0,reduceIte,reduceEqDiff]
 obtain ⟨oc46,hX48,hk49⟩:=jd hF24
 simp only [q4m]
 refine kn (σ:=Control) c_0.Parts (fun i44 x45 s125=>qap l22 i44 x45 s125) (fun s fr' h'=>∃ v41 c42,
   fr' 2 = .ptr b5 0∧fr' 3 = .ptr b18 0∧fr' 14=lst qd c_0.Parts∧SlN Partition.R 5 39 v41 s.Parts c42∧Sep h' (geL h.length) ([Blk1 b5 [.nil,.nil,
   .int .i64 0] 29]++([Blk1 b18 [v26,v41,.int .i64 s.Next] 29]++(c27++(c42++([])))))) hX48 ⟨.nil,[],rfl,rfl,rfl,SlN.nil,
   ((Sep.m2 (Sep.m1 (Sep.m1 hS33))) : Sep _ (geL h.length) ([Blk1 b5 [.nil,.nil,.int .i64 0] 29]++([Blk1 b18 [v26,.nil,
   .int .i64 c_0.Next] 29]++(c27++([])))))⟩ (by simp only [B0,reduceIte,reduceEqDiff]) (by simp only [B0,reduceIte,
   reduceEqDiff]) (fun _ _ _ h=>h) rfl rfl (fun _ _ _ _ h=>h) (fun _ _ _ _ h=>h) (fun _ _ _ _ h=>h) (by decide) ?_ ?_
 ·rintro i44 x45 s39 fr58 h59 hx64 ⟨v41,c42,f61,f62,f63,hv43,hS60⟩ f65 f66 oc47 hF50 hr51 Q52 hN53 hB57 hK54 hR55 hE56
  unfold qap at hF50
  simp only [q4e,qh,qf,f63,f65,jb,B0,reduceIte,reduceEqDiff]
  refine qi (v := .ref (qd x45) 0) (ko hx64 rfl) ?_
  simp only [ql,B0,reduceIte,reduceEqDiff]
  refine qi (v := .agg [lst cI x45.Homes,lst cI x45.InStep,.int .i64 x45.Leader,.int .i64 x45.Epoch,.int .i64 x45.Stamp]) rfl ?_
  simp only [jg,B0,reduceIte,reduceEqDiff]
  refine z1 hS60 (fun b67 h68 hS69=>?_)
  simp only [zl,B0,reduceIte,reduceEqDiff]
  refine zf (us:=[lst cI x45.Homes,lst cI x45.InStep,.int .i64 x45.Leader,.int .i64 x45.Epoch,.int .i64 x45.Stamp]) rfl (cs':=[lst cI x45.Homes,
    lst cI x45.InStep,.int .i64 x45.Leader,.int .i64 x45.Epoch,.int .i64 x45.Stamp]) hS69 hW rfl rfl (nle rfl) rfl (fun h71 hS72=>?_)
  simp only [qa,q0u,qh,qf,j6,evp,B0,reduceIte,reduceEqDiff]
  refine jv (n:=1) (f:=cI) ([] : List Int) hS72 rfl rfl (fun v73 c74 h75 hv76 hS77=>?_)
  simp only [qo,qb,Nat.reduceAdd,Nat.zero_add,Nat.add_zero,q9,ql,B0,reduceIte,reduceEqDiff]
  refine qi (v:=lst cI x45.Homes) ((z5 (Sep.bk _ _ _ (Sep.m1 hS77))).trans rfl) ?_
  simp only [xj,B0,reduceIte,reduceEqDiff]
  obtain ⟨l79,hx80,hF81⟩:=qm hF50
  refine y8 (f:=cI) hv76 hS77 hW (fun _=>rfl) (fun _=>rfl) (yv (fun _=>rfl)) hx80 (fun v82 c83 h84 hv85 hS86=>?_)
  simp only [qo,qb,Nat.reduceAdd,Nat.zero_add,Nat.add_zero,q9,zl,B0,reduceIte,reduceEqDiff]
  refine zf (us:=[v82]) (kd (SlF.one hv85)) (cs':=[v82,lst cI x45.InStep,.int .i64 x45.Leader,.int .i64 x45.Epoch,
    .int .i64 x45.Stamp]) (Sep.m1 hS86) hW rfl (qs (SlF.one hv85) zt) (nle rfl) rfl (fun h88 hS89=>?_)
  simp only [qa,q1g,qh,qf,j6,evp,B0,reduceIte,reduceEqDiff]
  refine jv (n:=1) (f:=cI) ([] : List Int) hS89 rfl rfl (fun v90 c91 h92 hv93 hS94=>?_)
  simp only [qo,qb,Nat.reduceAdd,Nat.zero_add,Nat.add_zero,q9,ql,B0,reduceIte,reduceEqDiff]
  refine qi (v:=lst cI x45.InStep) ((z5 (Sep.bk _ _ _ (Sep.m1 hS94))).trans rfl) ?_
  simp only [xj,B0,reduceIte,reduceEqDiff]
  obtain ⟨l96,hx97,hF98⟩:=qm hF81
  refine y8 (f:=cI) hv93 hS94 hW (fun _=>rfl) (fun _=>rfl) (yv (fun _=>rfl)) hx97 (fun v99 c100 h101 hv102 hS103=>?_)
  simp only [qo,qb,Nat.reduceAdd,Nat.zero_add,Nat.add_zero,q9,zl,B0,reduceIte,reduceEqDiff]
  refine zf (us:=[v99]) (kd (SlF.one hv102)) (cs':=[v82,v99,.int .i64 x45.Leader,.int .i64 x45.Epoch,
    .int .i64 x45.Stamp]) (Sep.m1 hS103) hW rfl (qs (SlF.one hv102) zt) (nle rfl) rfl (fun h105 hS106=>?_)
  simp only [qa,qzv,qf,f62,qo,qb,Nat.reduceAdd,Nat.zero_add,Nat.add_zero,q9,ql,B0,reduceIte,reduceEqDiff]
  refine qi (v:=v41) ((z5 (Sep.bk _ _ _ (Sep.m4 hS106))).trans rfl) ?_
  simp only [ql,B0,reduceIte,reduceEqDiff]
  refine qi (v := .agg [v82,v99,.int .i64 x45.Leader,.int .i64 x45.Epoch,.int .i64 x45.Stamp]) ((z3 (Sep.bk _ _ _ hS106)).trans rfl) ?_
  simp only [j6,evp,B0,reduceIte,reduceEqDiff]
  refine qd5 (R:=Partition.R) (n:=5) (cs:=[v82,v99,.int .i64 x45.Leader,.int .i64 x45.Epoch,
    .int .i64 x45.Stamp]) (os:=c83++(c100)) (Sep.bi2 (c1:=c83) (c2:=c100) (Sep.m2 (Sep.m1 hS106))) (u7 (us:=[v82,v99,.int .i64 x45.Leader,.int .i64 x45.Epoch,
    .int .i64 x45.Stamp]) (vs:=[v82,v99,.int .i64 x45.Leader,.int .i64 x45.Epoch,
    .int .i64 x45.Stamp]) rfl rfl (nle rfl) (qs (SlF.one hv85) (qs (SlF.one hv102) (qs rfl (qs rfl (qs rfl zt))))) rfl qe3) (Partition.RI (x :=
    (Partition.mk l79 l96 x45.Leader x45.Epoch x45.Stamp)) hv85 hv102) rfl (fun v107 c108 h109 hv110 hS111=>?_)
  simp only [xj,B0,reduceIte,reduceEqDiff]
  obtain ⟨l113,hx114,hF115⟩:=qm hF98
  refine qgu (R:=Partition.R) (c:=c42) hv43 hv110 (Sep.m5 hS111) hW Partition.RO.len Partition.RO.one hx114 (fun v116 c117 h118 hv119 hS120=>?_)
  simp only [f62,qo,qb,Nat.reduceAdd,Nat.zero_add,Nat.add_zero,q9,zl,B0,reduceIte,reduceEqDiff]
  refine zf (us:=[v116]) (kd (SlN.one hv119)) (cs':=[v26,v116,
    .int .i64 s39.Next]) (Sep.m3 hS120) hW rfl (qs (SlN.one hv119) zt) (nle rfl) rfl (fun h122 hS123=>?_)
  simp only [qa,qk,B0,reduceIte,reduceEqDiff]
  have e124:=qj hF115
  exact hN53 _ _ _ e124.symm ⟨v116,c117,f61,f62,f63,hv119,(Sep.m3 (Sep.m2 (Sep.m3 (Sep.m1 (Sep.dc (Sep.m2 hS123))))))⟩ (f65) (f66)
 rintro s126 fr131 h132 rfl ⟨v128,c129,f134,f135,f136,hv130,hS133⟩
 dsimp only [jnO] at hk49
 unfold qen at hk49
 simp only [qh,qf,f135,ql,B0,reduceIte,reduceEqDiff]
 refine qi (v := .agg [v26,v128,.int .i64 s126.Next]) ((z3 (Sep.bk _ _ _ (Sep.m1 hS133))).trans rfl) ?_
 simp only [f134,zl,B0,reduceIte,reduceEqDiff]
 refine zf (us:=[v26,v128,.int .i64 s126.Next]) rfl (cs':=[v26,v128,
   .int .i64 s126.Next]) hS133 hW rfl (qs (SlF.one hv29) (qs (SlN.one hv130) (qs rfl zt))) (nle rfl) rfl (fun h137 hS138=>?_)
 simp only [qa,q8,B0,reduceIte,reduceEqDiff]
 have he:=qj hk49
 subst he
 refine wz (bb:=b5) (oo:=0) (v := .agg [v26,v128,.int .i64 s126.Next]) (by simp only [f134,B0,reduceIte,
   reduceEqDiff]) ((z3 (Sep.bk _ _ _ hS138)).trans rfl) ?_
 exact ⟨v26,c27,v128,c129,by first | trivial | rfl,hv29,hv130,(Sep.m1 (Sep.m1 (Sep.dc ((Sep.dc (hS138))))))⟩
theorem qim {W:Nat→Bool}{h:Heap} (hW:∀ b,
  (geL h.length) b→W b=true) (s_0:List Int) (v_1:Int) (r:Int) (hF:qbw s_0 v_1=some r) : Ret E W 96 [lst cI s_0,
  .int .i64 v_1] h (fun v h'=>cut h.length h' E.sz false 9 v=some (.int .i64 r)):=by
 refine Ret.of (fn:=x96) rfl (Run.of ?_)
 unfold qbw at hF
 have zf0:zj [lst cI s_0,.int .i64 v_1] 0=lst cI s_0:=rfl
 have zf1:zj [lst cI s_0,.int .i64 v_1] 1 = .int .i64 v_1:=rfl
 generalize zj [lst cI s_0,.int .i64 v_1]=fr0 at zf0 zf1 ⊢
 have hS:Sep h (geL h.length) []:=Sep.nil h
 simp only [x96,qh,qf,qg,qa,q0y,zf0,zr,qb,zx,B0,reduceIte,reduceEqDiff]
 obtain ⟨oc3,hX5,hk6⟩:=jd hF
 simp only [qxu]
 refine kn (σ:=Unit) s_0 (fun i1 x2 _=>xu v_1 i1 x2 ) (fun s fr' h'=>fr' 0=lst cI s_0∧fr' 1 = .int .i64 v_1∧Sep h' (geL h.length)
   ([])) hX5 ⟨zf0,zf1,hS⟩ (by simp only [B0,reduceIte,reduceEqDiff]) (by simp only [B0,reduceIte,
   reduceEqDiff]) (fun _ _ _ h=>h) rfl rfl (fun _ _ _ _ h=>h) (fun _ _ _ _ h=>h) (fun _ _ _ _ h=>h) (by decide) ?_ ?_
 ·rintro i1 x2 _ fr15 h16 hx20 ⟨f18,f19,hS17⟩ f21 f22 oc4 hF7 hr8 Q9 hN10 hB14 hK11 hR12 hE13
  unfold xu at hF7
  simp only [q36,qh,qf,f21,qg,qa,q4s,f19,f18,jb,B0,reduceIte,reduceEqDiff]
  refine qi (v := .ref (cI x2) 0) (ko hx20 rfl) ?_
  simp only [ql,B0,reduceIte,reduceEqDiff]
  refine qi (v := .int .i64 x2) rfl ?_
  simp only [qv,qb,z4,qa,q2j,qy,B0,reduceIte,reduceEqDiff]
  refine qw (t:=(decide (v_1=x2))) (fun hc23=>?_) (fun hc23=>?_)
  ·rw [iteT hc23] at hF7
   simp only [qh,qf,qg,qa,q8,B0,reduceIte,reduceEqDiff]
   have e24:=qj hF7
   subst e24
   have ho25:=hr8 _ rfl
   have hk26:=hk6
   rw [ho25] at hk26
   dsimp only [jnO] at hk26
   apply hR12
   have he:=qj hk26
   subst he
   simp only [zc,B0,reduceIte,reduceEqDiff]
   exact rfl
  rw [iteF hc23] at hF7
  simp only [ze,qk,B0,reduceIte,reduceEqDiff]
  have e27:=qj hF7
  exact hN10 _ _ _ e27.symm ⟨f18,f19,hS17⟩ (f21) (f22)
 rintro _ fr29 h30 rfl ⟨f32,f33,hS31⟩
 dsimp only [jnO] at hk6
 unfold qeo at hk6
 simp only [qh,qf,qg,qa,q8,B0,reduceIte,reduceEqDiff]
 have he:=qj hk6
 subst he
 simp only [zc,B0,reduceIte,reduceEqDiff]
 exact rfl
theorem wm {W:Nat→Bool}{h:Heap} (hW:∀ b,
  (geL h.length) b→W b=true) (s_0:List Int) (v_1:Int) (r:Bool) (hF:jt s_0 v_1=some r) : Ret E W 80 [lst cI s_0,
  .int .i64 v_1] h (fun v h'=>cut h.length h' E.sz false 9 v=some (.bool r)):=by
 refine Ret.of (fn:=x80) rfl (Run.of ?_)
 unfold jt at hF
 have zf0:zj [lst cI s_0,.int .i64 v_1] 0=lst cI s_0:=rfl
 have zf1:zj [lst cI s_0,.int .i64 v_1] 1 = .int .i64 v_1:=rfl
 generalize zj [lst cI s_0,.int .i64 v_1]=fr0 at zf0 zf1 ⊢
 have hS:Sep h (geL h.length) []:=Sep.nil h
 obtain ⟨v1,hx2,hF3⟩:=qm hF
 simp only [x80,qh,qf,qg,qa,qz6,zf0,zf1,zb,B0,reduceIte,reduceEqDiff]
 refine jc rfl (qn zo (qn qu zg)) (qim (fun b hb=>decide_eq_true hb) s_0 v_1 v1 hx2) ?_
 simp only [qv,qb,qby,qg,qa,q8,B0,reduceIte,reduceEqDiff]
 have he:=qj hF3
 subst he
 simp only [zc,B0,reduceIte,reduceEqDiff]
 exact rfl
theorem qkr {W:Nat→Bool}{h:Heap} (hW:∀ b,
  (geL h.length) b→W b=true) (k_0:Int) (cap_0:List Int) (r:Bool) (hF:qd6 k_0 cap_0=some r) : Ret E W 95 [.int .i64 k_0,
  .ref ((cL cI) cap_0) 0] h (fun v h'=>cut h.length h' E.sz false 9 v=some (.bool r)):=by
 refine Ret.of (fn:=x95) rfl (Run.of ?_)
 unfold qd6 at hF
 have zf0:zj [.int .i64 k_0,.ref ((cL cI) cap_0) 0] 0 = .int .i64 k_0:=rfl
 have zf1:zj [.int .i64 k_0,.ref ((cL cI) cap_0) 0] 1 = .ref ((cL cI) cap_0) 0:=rfl
 generalize zj [.int .i64 k_0,.ref ((cL cI) cap_0) 0]=fr0 at zf0 zf1 ⊢
 have hS:Sep h (geL h.length) []:=Sep.nil h
 simp only [x95,qh,qf,qg,qa,q30,zf1,ql,B0,reduceIte,reduceEqDiff]
 refine qi (v:=lst cI cap_0) rfl ?_
 obtain ⟨v1,hx2,hF3⟩:=qm hF
 simp only [zf0,qg,zb,B0,reduceIte,reduceEqDiff]
 refine jc rfl (qn zo (qn qu zg)) (wm (fun b hb=>decide_eq_true hb) cap_0 k_0 v1 hx2) ?_
 simp only [ja,qb,jq,qg,qa,q8,B0,reduceIte,reduceEqDiff]
 have he:=qj hF3
 subst he
 simp only [zc,B0,reduceIte,reduceEqDiff]
 exact rfl
theorem qic {W:Nat→Bool}{h:Heap} (hW:∀ b,
  (geL h.length) b→W b=true) (list_0:List Int) (of_1:List Int) (r:Bool) (hF:qa9 list_0 of_1=some r) : Ret E W 79 [lst cI list_0,
  lst cI of_1] h (fun v h'=>cut h.length h' E.sz false 9 v=some (.bool r)):=by
 refine Ret.of (fn:=x79) rfl (Run.of ?_)
 unfold qa9 at hF
 have zf0:zj [lst cI list_0,lst cI of_1] 0=lst cI list_0:=rfl
 have zf1:zj [lst cI list_0,lst cI of_1] 1=lst cI of_1:=rfl
 generalize zj [lst cI list_0,lst cI of_1]=fr0 at zf0 zf1 ⊢
 have hS:Sep h (geL h.length) []:=Sep.nil h
 simp only [x79,qh,qf,ju,zf1,B0,reduceIte,reduceEqDiff]
 refine je (cs:=[lst cI of_1]) hS rfl rfl rfl (fun b1 h2 hS3=>?_)
 simp only [qg,qa,B0,reduceIte,reduceEqDiff]
 refine zw hS3 hW (by simp only [B0,reduceIte,reduceEqDiff]) (fun h5 hS6=>?_)
 simp only [zv,q02,qh,qf,zf0,qg,qnz,zb,B0,reduceIte,reduceEqDiff]
 refine kv rfl (Ret.of (fn:=x94) rfl (Run.of ?_)) (fun _ _ h=>h)
 have zf7:zj ([lst cI list_0,.fn 95 [.ref [lst cI of_1] 0]]++[]) 0=lst cI list_0:=rfl
 have zf8:zj ([lst cI list_0,.fn 95 [.ref [lst cI of_1] 0]]++[]) 1 = .fn 95 [.ref [lst cI of_1] 0]:=rfl
 generalize zj ([lst cI list_0,.fn 95 [.ref [lst cI of_1] 0]]++[])=fr9 at zf7 zf8 ⊢
 simp only [x94,qh,qf,qg,qa,qo0,zf7,zf8,zb,B0,reduceIte,reduceEqDiff]
 obtain ⟨v10,hx11,hF12⟩:=qm hF
 refine kv rfl (R:=(fun u h'=>u = .int .i64 v10∧Sep h' (geL h.length) ([]))) (Ret.of (fn:=x98) rfl (Run.of ?_)) ?_
 ·have zf13:zj ([lst cI list_0,.fn 95 [.ref [lst cI of_1] 0]]++[]) 0=lst cI list_0:=rfl
  have zf14:zj ([lst cI list_0,.fn 95 [.ref [lst cI of_1] 0]]++[]) 1 = .fn 95 [.ref [lst cI of_1] 0]:=rfl
  generalize zj ([lst cI list_0,.fn 95 [.ref [lst cI of_1] 0]]++[])=fr15 at zf13 zf14 ⊢
  simp only [x98,qh,qf,qg,qa,qo4,zf13,zr,qb,zx,B0,reduceIte,reduceEqDiff]
  obtain ⟨oc18,hX20,hk21⟩:=jd hx11
  simp only [qox]
  refine kn (σ:=Unit) list_0 (fun i16 x17 _=>qb7 of_1 i16 x17 ) (fun s fr' h'=>fr' 0=lst cI list_0∧fr' 1 = .fn 95 [.ref [lst cI of_1] 0]∧Sep h'
    (geL h.length) ([])) hX20 ⟨zf13,zf14,hS6⟩ (by simp only [B0,reduceIte,reduceEqDiff]) (by simp only [B0,reduceIte,
    reduceEqDiff]) (fun _ _ _ h=>h) rfl rfl (fun _ _ _ _ h=>h) (fun _ _ _ _ h=>h) (fun _ _ _ _ h=>h) (by decide) ?_ ?_
  ·rintro i16 x17 _ fr30 h31 hx35 ⟨f33,f34,hS32⟩ f36 f37 oc19 hF22 hr23 Q24 hN25 hB29 hK26 hR27 hE28
   unfold qb7 at hF22
   simp only [qoq,qh,qf,f36,qg,qa,qn8,f34,f33,jb,B0,reduceIte,reduceEqDiff]
   refine qi (v := .ref (cI x17) 0) (ko hx35 rfl) ?_
   simp only [ql,B0,reduceIte,reduceEqDiff]
   refine qi (v := .int .i64 x17) rfl ?_
   obtain ⟨v38,hx39,hF40⟩:=qm hF22
   simp only [zb,B0,reduceIte,reduceEqDiff]
   refine jc rfl (qn qu zg) (qkr (fun b hb=>decide_eq_true hb) x17 of_1 v38 hx39) ?_
   simp only [qa,qo1,qy,B0,reduceIte,reduceEqDiff]
   refine qw (t:=v38) (fun hc41=>?_) (fun hc41=>?_)
   ·rw [iteT hc41] at hF40
    simp only [qh,qf,qg,qa,q8,B0,reduceIte,reduceEqDiff]
    have e42:=qj hF40
    subst e42
    have ho43:=hr23 _ rfl
    have hk44:=hk21
    rw [ho43] at hk44
    dsimp only [jnO] at hk44
    apply hR27
    have he:=qj hk44
    subst he
    simp only [zc,B0,reduceIte,reduceEqDiff]
    exact ⟨by first | trivial | rfl,hS32⟩
   rw [iteF hc41] at hF40
   simp only [ze,qk,B0,reduceIte,reduceEqDiff]
   have e45:=qj hF40
   exact hN25 _ _ _ e45.symm ⟨f33,f34,hS32⟩ (f36) (f37)
  rintro _ fr47 h48 rfl ⟨f50,f51,hS49⟩
  dsimp only [jnO] at hk21
  unfold qh0 at hk21
  simp only [qh,qf,qg,qa,q8,B0,reduceIte,reduceEqDiff]
  have he:=qj hk21
  subst he
  simp only [zc,B0,reduceIte,reduceEqDiff]
  exact ⟨by first | trivial | rfl,hS49⟩
 rintro _ h53 ⟨rfl,hS54⟩
 simp only [qv,qb,qby,qg,qa,q8,B0,reduceIte,reduceEqDiff]
 simp only [zc,B0,reduceIte,reduceEqDiff]
 simp only [ja,qb,jq,qg,qa,q8,B0,reduceIte,reduceEqDiff]
 have he:=qj hF12
 subst he
 simp only [zc,B0,reduceIte,reduceEqDiff]
 exact rfl
end Go.Proofs.Ytjloihcijdcpeaa.X
