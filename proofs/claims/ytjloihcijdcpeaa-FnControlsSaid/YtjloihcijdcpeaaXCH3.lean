/- The functions' code comes to what the plain functions say (3). -/
import Derived.Test.YtjloihcijdcpeaaXCH2
set_option linter.unusedVariables false
set_option linter.unusedSimpArgs false
set_option maxRecDepth 100000
namespace Go.Proofs.Ytjloihcijdcpeaa.X
open Go
open Nat (reduceEqDiff)
theorem qkn {W:Nat→Bool}{h:Heap}{lo:Nat→Prop}{S0:List Obj} (hW:∀ b,
  lo b→W b=true) (c_0:Control) (pv0_0:XV) (pc0_0:List Obj) (ph0_0:SlF qe 3 86 pv0_0 c_0.Brokers pc0_0) (pv0_1:XV) (pc0_1:List Obj)
  (ph0_1:SlN Partition.R 5 39 pv0_1 c_0.Parts pc0_1) (pv1:XV) (pc1:List Obj) (old_1:List Int) (ph1:SlF cI 1 3 pv1 old_1 pc1) (r:Control × (List Int))
  (hF:qcg c_0 old_1=some r) (hS:Sep h lo (pc0_0++(pc0_1++(pc1++(S0))))) : Ret E W 57 [.agg [pv0_0,pv0_1,.int .i64 c_0.Next],
  pv1] h (fun v h'=>∃ rc0_0 rc0_1 ic1,v = .agg [pv0_0,pv0_1,
  .int .i64 r.1.Next]∧SlF qe 3 86 pv0_0 r.1.Brokers rc0_0∧SlN Partition.R 5 39 pv0_1 r.1.Parts rc0_1∧SlF cI 1 3 pv1 r.2 ic1∧Sep h' lo (rc0_0++(rc0_1 ++
  (ic1++(S0))))):=by
 refine Ret.of (fn:=x57) rfl (Run.of ?_)
 unfold qcg at hF
 have zf0:zj [.agg [pv0_0,pv0_1,.int .i64 c_0.Next],pv1] 0 = .agg [pv0_0,pv0_1,.int .i64 c_0.Next]:=rfl
 have zf1:zj [.agg [pv0_0,pv0_1,.int .i64 c_0.Next],pv1] 1=pv1:=rfl
 generalize zj [.agg [pv0_0,pv0_1,.int .i64 c_0.Next],pv1]=fr0 at zf0 zf1 ⊢
 simp only [x57,qh,qf,ju,zf0,B0,reduceIte,reduceEqDiff]
 refine je (cs:=[pv0_0,pv0_1,.int .i64 c_0.Next]) hS rfl rfl (qs (SlF.one ph0_0) (qs (SlN.one ph0_1) (qs rfl zt))) (fun b1 h2 hS3=>?_)
 simp only [jg,B0,reduceIte,reduceEqDiff]
 refine z1 hS3 (fun b5 h6 hS7=>?_)
 simp only [qa,B0,reduceIte,reduceEqDiff]
 refine zw (Sep.m1 hS7) hW (by simp only [B0,reduceIte,reduceEqDiff]) (fun h9 hS10=>?_)
 simp only [zv,qqv,qh,qf,qo,qb,Nat.reduceAdd,Nat.zero_add,Nat.add_zero,qq,ql,B0,reduceIte,reduceEqDiff]
 refine qi (v:=pv0_1) rfl ?_
 simp only [zr,qb,SlN.len ph0_1,qg,qa,B0,reduceIte,reduceEqDiff]
 obtain ⟨oc19,hX21,hk22⟩:=jd hF
 simp only [quh]
 refine wc (σ:=(List Partition)) (fun i17 s194=>ur c_0 old_1 i17 s194) (fun s fr' h'=>∃ c15,fr' 1=pv1∧fr' 2 = .ref [pv0_0,pv0_1,
   .int .i64 c_0.Next] 0∧fr' 4 = .ptr b5 0∧fr' 9=pv0_1∧SlN Partition.R 5 39 pv0_1 s c15∧Sep h' lo (pc1++(pc0_0++(c15++([Blk1 b5 [.nil,.nil,
   .int .i64 0] 29]++(S0)))))) hX21 ⟨pc0_1,zf1,rfl,rfl,rfl,ph0_1,(Sep.m3 (Sep.m2 (Sep.m2 hS10)))⟩ (by simp only [B0,reduceIte,reduceEqDiff]) (by simp only [B0,
   reduceIte,reduceEqDiff]) (fun _ _ _ h=>h) rfl rfl (fun _ _ _ _ h=>h) (fun _ _ _ _ h=>h) (fun _ _ _ _ h=>h) (by decide) ?_ ?_
 ·rintro i17 s14 fr31 h32 hx38 ⟨c15,f34,f35,f36,f37,hv16,hS33⟩ f39 f40 oc20 hF23 hr24 Q25 hN26 hB30 hK27 hR28 hE29
  unfold ur at hF23
  obtain ⟨x41,hx42,hF43⟩:=qm hF23
  simp only [quu,qh,qf,f39,qg,f37,jb,B0,reduceIte,reduceEqDiff]
  obtain ⟨b44,hb45⟩:=SlN.isrow hv16 (k8 hx42)
  refine qi (SlN.ia hv16 hb45 hx42) ?_
  obtain ⟨c46,cs47,os48,hv49,hR50,hS51⟩:=SlG.opn (SlN.toG hv16 hb45 Partition.RO.len) hx42 jr Partition.RO.len (Sep.m2 hS33)
  obtain ⟨v53,c54,v57,c58,hv55,hv59,rfl,rfl⟩:=hR50
  have hS52:=Sep.no2 hS51
  simp only [ql,B0,reduceIte,reduceEqDiff]
  refine qi (v := .agg [v53,v57,.int .i64 x41.Leader,.int .i64 x41.Epoch,.int .i64 x41.Stamp]) ((SlG.lds (o:=0) hv49 rfl hx42 hS52 (nle rfl)).trans rfl) ?_
  simp only [jg,B0,reduceIte,reduceEqDiff]
  refine z1 hS52 (fun b61 h62 hS63=>?_)
  simp only [qg,zl,B0,reduceIte,reduceEqDiff]
  refine zf (us:=[v53,v57,.int .i64 x41.Leader,.int .i64 x41.Epoch,.int .i64 x41.Stamp]) rfl (cs':=[v53,v57,.int .i64 x41.Leader,.int .i64 x41.Epoch,
    .int .i64 x41.Stamp]) hS63 hW rfl (qs (SlF.one hv55) (qs (SlF.one hv59) (qs rfl (qs rfl (qs rfl zt))))) (nle rfl) rfl (fun h65 hS66=>?_)
  simp only [qa,qpp,qh,qf,qg,qr4,f34,zr,qb,SlF.plen ph1,qv,qhg,q2x,qy,B0,reduceIte,reduceEqDiff]
  obtain ⟨s67,hX69,hk70⟩:=qm hF43
  refine xq (t:=(decide ((i17:Int)<(List.length old_1:Int)))) (fun fr' h'=>fr' 1=pv1∧fr' 2 = .ref [pv0_0,pv0_1,
    .int .i64 c_0.Next] 0∧fr' 4 = .ptr b5 0∧fr' 5 = .int .i64 (i17:Int)∧fr' 6 = .ptr b61 0∧fr' 7 = .int .i64 s67∧fr' 9=pv0_1∧fr' 10 = .int .i64
    (List.length c_0.Parts:Int)∧fr' 11 = .int .i64 (i17:Int)∧Sep h' lo (pc1++(pc0_0++(c46++([Blk1 b5 [.nil,.nil,.int .i64 0] 29]++([Blk1 b61 [v53,v57,
    .int .i64 x41.Leader,.int .i64 x41.Epoch,.int .i64 x41.Stamp] 39]++(c54++(c58++(S0))))))))) (fun Q71 hN72 hR73 hE74=>⟨fun hc75=>?_,fun hc75=>?_⟩) ?_
  ·rw [iteT hc75] at hX69
   obtain ⟨x76,hx77,hF78⟩:=qm hX69
   simp only [q0p,qf,f34,qg,jb,B0,reduceIte,reduceEqDiff]
   obtain ⟨b79,hb80⟩:=SlF.isrow ph1 (k8 hx77)
   refine qi (SlF.ia ph1 hb80 hx77) ?_
   simp only [ql,B0,reduceIte,reduceEqDiff]
   refine qi (v := .int .i64 x76) ((SlF.ld (o:=0) ph1 (Sep.m4 hS66) hb80 hx77 (fun _=>rfl) (nle rfl)).trans rfl) ?_
   simp only [qg,qa,qk,B0,reduceIte,reduceEqDiff]
   have e81:=qj hF78
   subst e81
   exact hN72 _ _ ⟨f34,f35,f36,rfl,rfl,rfl,f37,f40,f39,(Sep.m6 (Sep.m6 (Sep.m4 (Sep.m6 (Sep.m2 (Sep.m3 (Sep.m3 hS66)))))))⟩
  ·rw [iteF hc75] at hX69
   simp only [ze,qk,B0,reduceIte,reduceEqDiff]
   have e82:=qj hX69
   subst e82
   exact hN72 _ _ ⟨f34,f35,f36,rfl,rfl,rfl,f37,f40,f39,(Sep.m6 (Sep.m6 (Sep.m4 (Sep.m6 (Sep.m2 (Sep.m3 (Sep.m3 hS66)))))))⟩
  rintro fr83 h84 ⟨f86,f87,f88,f89,f90,f91,f92,f93,f94,hS85⟩
  unfold qea at hk70
  simp only [qu2,qh,qf,f90,qo,qb,Nat.reduceAdd,Nat.zero_add,Nat.add_zero,q9,ql,B0,reduceIte,reduceEqDiff]
  refine qi (v := .int .i64 x41.Leader) ((z5 (Sep.bk _ _ _ (Sep.m4 hS85))).trans rfl) ?_
  simp only [qv,qb,qhg,qg,B0,reduceIte,reduceEqDiff]
  obtain ⟨v98,hx99,hF100⟩:=qm hk70
  refine zu 8 (fun fr' h'=>Sep h' lo (pc1++(pc0_0++(c46++([Blk1 b5 [.nil,.nil,.int .i64 0] 29]++([Blk1 b61 [v53,v57,.int .i64 x41.Leader,.int .i64 x41.Epoch,
    .int .i64 x41.Stamp] 39]++(c54++(c58++(S0))))))))∧fr' 35 = .bool v98∧fr' 1=pv1∧fr' 2 = .ref [pv0_0,pv0_1,
    .int .i64 c_0.Next] 0∧fr' 4 = .ptr b5 0∧fr' 5 = .int .i64 (i17:Int)∧fr' 6 = .ptr b61 0∧fr' 7 = .int .i64 s67∧fr' 9=pv0_1∧fr' 10 = .int .i64
    (List.length c_0.Parts:Int)∧fr' 11 = .int .i64 (i17:Int)) (fun Q95 hN96=>?_) ?_
  ·simp only [List.take_succ_cons,List.take_zero]
   simp only [qc (g:=27),B0,reduceIte,reduceEqDiff]
   refine qx (t:=(decide (x41.Leader<0))) (fun hg97=>?_) (fun hg97=>?_)
   ·rw [iteT hg97] at hx99
    simp only [hg97,qc (g:=27),zq,qr,qb,zh,qa,qk,B0,reduceIte,reduceEqDiff]
    have e101:=qj hx99
    exact hN96 _ _ ⟨(Sep.m6 (Sep.m6 (Sep.m6 (Sep.m6 (Sep.m6 (Sep.m6 (Sep.m6 hS85))))))),by rw [←e101]; simp only [B0,reduceIte,reduceEqDiff],f86,f87,f88,f89,f90,f91,
      f92,f93,f94⟩
   ·rw [iteF hg97] at hx99
    simp only [hg97,qc (g:=27),qp,f87,qo,qb,Nat.reduceAdd,Nat.zero_add,Nat.add_zero,qq,ql,B0,reduceIte,reduceEqDiff]
    refine qi (v:=pv0_0) rfl ?_
    simp only [hg97,qc (g:=27),qp,f90,qo,qb,Nat.reduceAdd,Nat.zero_add,Nat.add_zero,q9,ql,B0,reduceIte,reduceEqDiff]
    refine qi (v := .int .i64 x41.Leader) ((z5 (Sep.bk _ _ _ (Sep.m4 hS85))).trans rfl) ?_
    obtain ⟨x102,hx103,hF104⟩:=qm hx99
    simp only [hg97,qc (g:=27),qp,jb,B0,reduceIte,reduceEqDiff]
    obtain ⟨b105,hb106⟩:=SlF.isrow ph0_0 (k8 hx103)
    refine qi (SlF.ia ph0_0 hb106 hx103) ?_
    simp only [hg97,qc (g:=27),qp,qo,qb,Nat.reduceAdd,Nat.zero_add,Nat.add_zero,q9,ql,B0,reduceIte,reduceEqDiff]
    refine qi (v := .bool x102.Fenced) ((SlF.ld (o:=2) ph0_0 (Sep.m1 hS85) hb106 hx103 (fun _=>rfl) (nle rfl)).trans rfl) ?_
    simp only [hg97,qr,qb,zi,qa,qk,B0,reduceIte,reduceEqDiff]
    have e107:=qj hF104
    exact hN96 _ _ ⟨(Sep.m6 (Sep.m6 (Sep.m6 (Sep.m6 (Sep.m6 (Sep.m6 (Sep.m6 hS85))))))),by rw [←e107]; simp only [B0,reduceIte,reduceEqDiff],f86,f87,f88,f89,f90,f91,
      f92,f93,f94⟩
  rintro fr108 h119 ⟨hS120,f109,f110,f111,f112,f113,f114,f115,f116,f117,f118⟩
  simp only [List.drop_succ_cons,List.drop_zero]
  simp only [qa,q4u,f109,qy,B0,reduceIte,reduceEqDiff]
  obtain ⟨s121,hX123,hk124⟩:=qm hF100
  refine xq (t:=v98) (fun fr' h'=>fr' 1=pv1∧fr' 2 = .ref [pv0_0,pv0_1,
    .int .i64 c_0.Next] 0∧fr' 4 = .ptr b5 0∧fr' 5 = .int .i64 (i17:Int)∧fr' 6 = .ptr b61 0∧fr' 7 = .int .i64 s67∧fr' 9=pv0_1∧fr' 10 = .int .i64
    (List.length c_0.Parts:Int)∧fr' 11 = .int .i64 (i17:Int)∧Sep h' lo (pc1++(pc0_0++(c46++([Blk1 b5 [.nil,.nil,.int .i64 0] 29]++([Blk1 b61 [v53,v57,
    .int .i64 s121.Leader,.int .i64 s121.Epoch,.int .i64 s121.Stamp] 39]++(c54++(c58++(S0))))))))) (fun Q125 hN126 hR127 hE128=>⟨fun hc129=>?_,fun hc129=>?_⟩) ?_
  ·rw [iteT hc129] at hX123
   simp only [q1k,qf,f111,ql,B0,reduceIte,reduceEqDiff]
   refine qi (v := .agg [pv0_0,pv0_1,.int .i64 c_0.Next]) rfl ?_
   simp only [f114,qo,qb,Nat.reduceAdd,Nat.zero_add,Nat.add_zero,q9,ql,B0,reduceIte,reduceEqDiff]
   refine qi (v:=v57) ((z5 (Sep.bk _ _ _ (Sep.m4 hS120))).trans rfl) ?_
   obtain ⟨c130,hv131,hS132⟩:=SlG.cls0 (c:=c46) (os:=c54++(c58)) hv49 rfl hx42 jr (Partition.RI (x:=x41) hv55 hv59) (Sep.ni2 (c1:=c54) (c2:=c58) (Sep.m4
     (Sep.m6 (Sep.m6 hS120))))
   have hv133:=SlG.toN hv131
   obtain ⟨v134,hx135,hF136⟩:=qm hX123
   simp only [zb,B0,reduceIte,reduceEqDiff]
   refine jc rfl (qn (jf (qn (SlF.snap ph0_0 (Sep.m2 hS132) rfl (fun _=>rfl) (fun _=>rfl)) (qn (SlN.snap hv133 _ hS132 rfl Partition.RO)
     (qn qu zg)))) (qn (SlF.snap hv59 (Sep.m6 hS120) rfl (fun _=>rfl) (fun _=>rfl)) zg)) (qgs (fun b hb=>decide_eq_true hb)
     (Control.mk c_0.Brokers s14 c_0.Next) x41.InStep v134 hx135) ?_
   simp only [f114,qo,qb,Nat.reduceAdd,Nat.zero_add,Nat.add_zero,q9,zl,B0,reduceIte,reduceEqDiff]
   refine zf (us:=[.int .i64 v134]) rfl (cs':=[v53,v57,.int .i64 v134,.int .i64 x41.Epoch,
     .int .i64 x41.Stamp]) (Sep.m4 hS120) hW rfl rfl (nle rfl) rfl (fun h137 hS138=>?_)
   simp only [qa,qk,B0,reduceIte,reduceEqDiff]
   have e139:=qj hF136
   subst e139
   exact hN126 _ _ ⟨f110,f111,f112,f113,f114,f115,f116,f117,f118,(Sep.m6 (Sep.m6 (Sep.m6 (Sep.m6 (Sep.m2 (Sep.m6 (Sep.m6 hS138)))))))⟩
  ·rw [iteF hc129] at hX123
   simp only [ze,qk,B0,reduceIte,reduceEqDiff]
   have e140:=qj hX123
   subst e140
   exact hN126 _ _ ⟨f110,f111,f112,f113,f114,f115,f116,f117,f118,(Sep.m6 (Sep.m6 (Sep.m6 (Sep.m6 (Sep.m6 (Sep.m6 (Sep.m6 hS120)))))))⟩
  rintro fr141 h142 ⟨f144,f145,f146,f147,f148,f149,f150,f151,f152,hS143⟩
  unfold qec at hk124
  simp only [qtl,qh,qf,f148,qo,qb,Nat.reduceAdd,Nat.zero_add,Nat.add_zero,q9,ql,B0,reduceIte,reduceEqDiff]
  refine qi (v := .int .i64 s121.Leader) ((z5 (Sep.bk _ _ _ (Sep.m4 hS143))).trans rfl) ?_
  simp only [f149,qg,qv,qb,ue,qa,q4h,qy,B0,reduceIte,reduceEqDiff]
  obtain ⟨s153,hX155,hk156⟩:=qm hk124
  refine xq (t:=(decide (s121.Leader≠s67))) (fun fr' h'=>fr' 1=pv1∧fr' 2 = .ref [pv0_0,pv0_1,
    .int .i64 c_0.Next] 0∧fr' 4 = .ptr b5 0∧fr' 5 = .int .i64 (i17:Int)∧fr' 6 = .ptr b61 0∧fr' 9=pv0_1∧fr' 10 = .int .i64
    (List.length c_0.Parts:Int)∧fr' 11 = .int .i64 (i17:Int)∧Sep h' lo (pc1++(pc0_0++(c46++([Blk1 b5 [.nil,.nil,.int .i64 0] 29]++([Blk1 b61 [v53,v57,
    .int .i64 s153.Leader,.int .i64 s153.Epoch,.int .i64 s153.Stamp] 39]++(c54++(c58++(S0))))))))) (fun Q157 hN158 hR159 hE160=>⟨fun hc161=>?_,fun hc161=>?_⟩) ?_
  ·rw [iteT hc161] at hX155
   simp only [qxv,qh,qf,f148,qo,qb,Nat.reduceAdd,Nat.zero_add,Nat.add_zero,q9,ql,B0,reduceIte,reduceEqDiff]
   refine qi (v := .int .i64 s121.Stamp) ((z5 (Sep.bk _ _ _ (Sep.m4 hS143))).trans rfl) ?_
   simp only [qv,qb,qaq,f148,qo,Nat.reduceAdd,Nat.zero_add,Nat.add_zero,q9,zl,B0,reduceIte,reduceEqDiff]
   refine zf (us:=[.int .i64 (IntKind.wrap .i64 (s121.Stamp+1))]) rfl (cs':=[v53,v57,.int .i64 s121.Leader,.int .i64 s121.Epoch,
     .int .i64 (IntKind.wrap .i64 (s121.Stamp+1))]) (Sep.m4 hS143) hW rfl rfl (nle rfl) rfl (fun h162 hS163=>?_)
   simp only [qa,q3o,qh,qf,f148,qo,qb,Nat.reduceAdd,Nat.zero_add,Nat.add_zero,q9,ql,B0,reduceIte,reduceEqDiff]
   refine qi (v := .int .i64 s121.Leader) ((z5 (Sep.bk _ _ _ hS163)).trans rfl) ?_
   simp only [qv,qb,qby,qa,qyh,qy,B0,reduceIte,reduceEqDiff]
   refine qw (t:=(decide ((0:Int)≤s121.Leader))) (fun hc164=>?_) (fun hc164=>?_)
   ·rw [iteT hc164] at hX155
    simp only [qzd,qf,f148,qo,qb,Nat.reduceAdd,Nat.zero_add,Nat.add_zero,q9,ql,B0,reduceIte,reduceEqDiff]
    refine qi (v := .int .i64 s121.Epoch) ((z5 (Sep.bk _ _ _ hS163)).trans rfl) ?_
    simp only [qv,qb,qaq,f148,qo,Nat.reduceAdd,Nat.zero_add,Nat.add_zero,q9,zl,B0,reduceIte,reduceEqDiff]
    refine zf (us:=[.int .i64 (IntKind.wrap .i64 (s121.Epoch+1))]) rfl (cs':=[v53,v57,.int .i64 s121.Leader,.int .i64 (IntKind.wrap .i64 (s121.Epoch+1)),
      .int .i64 (IntKind.wrap .i64 (s121.Stamp+1))]) hS163 hW rfl rfl (nle rfl) rfl (fun h165 hS166=>?_)
    simp only [qa,qk,B0,reduceIte,reduceEqDiff]
    have e167:=qj hX155
    subst e167
    exact hN158 _ _ ⟨f144,f145,f146,f147,f148,f150,f151,f152,(Sep.m6 (Sep.m6 (Sep.m6 (Sep.m6 (Sep.m2 (Sep.m6 (Sep.m6 hS166)))))))⟩
   rw [iteF hc164] at hX155
   simp only [ze,qk,B0,reduceIte,reduceEqDiff]
   have e168:=qj hX155
   subst e168
   exact hN158 _ _ ⟨f144,f145,f146,f147,f148,f150,f151,f152,(Sep.m6 (Sep.m6 (Sep.m6 (Sep.m6 (Sep.m2 (Sep.m6 (Sep.m6 hS163)))))))⟩
  ·rw [iteF hc161] at hX155
   simp only [ze,qk,B0,reduceIte,reduceEqDiff]
   have e169:=qj hX155
   subst e169
   exact hN158 _ _ ⟨f144,f145,f146,f147,f148,f150,f151,f152,(Sep.m6 (Sep.m6 (Sep.m6 (Sep.m6 (Sep.m6 (Sep.m6 (Sep.m6 hS143)))))))⟩
  rintro fr170 h171 ⟨f173,f174,f175,f176,f177,f178,f179,f180,hS172⟩
  unfold qd9 at hk156
  simp only [qvl,qf,f174,qo,qb,Nat.reduceAdd,Nat.zero_add,Nat.add_zero,qq,ql,B0,reduceIte,reduceEqDiff]
  refine qi (v:=pv0_1) rfl ?_
  simp only [f176,qg,f177,ql,B0,reduceIte,reduceEqDiff]
  refine qi (v := .agg [v53,v57,.int .i64 s153.Leader,.int .i64 s153.Epoch,.int .i64 s153.Stamp]) ((z3 (Sep.bk _ _ _ (Sep.m4 hS172))).trans rfl) ?_
  simp only [jb,B0,reduceIte,reduceEqDiff]
  refine qi (SlG.ia hv49 hx42) ?_
  simp only [zl,B0,reduceIte,reduceEqDiff]
  refine qcm (n:=5) (us:=[v53,v57,.int .i64 s153.Leader,.int .i64 s153.Epoch,.int .i64 s153.Stamp]) (cs:=[v53,v57,.int .i64 x41.Leader,.int .i64 x41.Epoch,
    .int .i64 x41.Stamp]) (o:=0) (cs':=[v53,v57,.int .i64 s153.Leader,.int .i64 s153.Epoch,
    .int .i64 s153.Stamp]) rfl hv49 rfl hx42 (Sep.m2 hS172) hW rfl (qs (SlF.one hv55) (qs (SlF.one hv59) (qs rfl (qs rfl (qs rfl zt))))) (nle rfl) rfl
    (fun c183 h181 hv184 hS182=>?_)
  simp only [qa,qk,B0,reduceIte,reduceEqDiff]
  obtain ⟨c185,hv186,hS187⟩:=SlG.cls (e':=(Partition.mk x41.Homes x41.InStep s153.Leader s153.Epoch s153.Stamp)) (c:=c183) (os:=c54++(c58)) hv184 rfl hx42 jr
    (Partition.RI (x:=(Partition.mk x41.Homes x41.InStep s153.Leader s153.Epoch s153.Stamp)) hv55 hv59) (Sep.ni2 (c1:=c54) (c2:=c58) (Sep.m2 (Sep.m6 (Sep.m6 hS182))))
  have hx188:=ym (x':=(Partition.mk x41.Homes x41.InStep s153.Leader s153.Epoch s153.Stamp)) hx42
  have hv189:=SlG.toN hv186
  have e190:=qj hk156
  exact hN26 _ _ _ e190.symm ⟨c185,f173,f174,f175,f178,hv189,(Sep.m3 (Sep.m3 (Sep.m1 (Sep.m3 (Sep.dc (Sep.m4 hS187))))))⟩ (f180) (f179)
 rintro s195 fr198 h199 rfl ⟨c196,f201,f202,f203,f204,hv197,hS200⟩
 dsimp only [jnO] at hk22
 unfold qgr at hk22
 simp only [qh,qf,f202,ql,B0,reduceIte,reduceEqDiff]
 refine qi (v := .agg [pv0_0,pv0_1,.int .i64 c_0.Next]) rfl ?_
 simp only [f203,zl,B0,reduceIte,reduceEqDiff]
 refine zf (us:=[pv0_0,pv0_1,.int .i64 c_0.Next]) rfl (cs':=[pv0_0,pv0_1,
   .int .i64 c_0.Next]) (Sep.m3 hS200) hW rfl (qs (SlF.one ph0_0) (qs (SlN.one hv197) (qs rfl zt))) (nle rfl) rfl (fun h205 hS206=>?_)
 simp only [qa,q8,B0,reduceIte,reduceEqDiff]
 have he:=qj hk22
 subst he
 refine wz (bb:=b5) (oo:=0) (v := .agg [pv0_0,pv0_1,.int .i64 c_0.Next]) (by simp only [f203,B0,reduceIte,
   reduceEqDiff]) ((z3 (Sep.bk _ _ _ hS206)).trans rfl) ?_
 exact ⟨pc0_0,c196,pc1,by first | trivial | rfl,ph0_0,hv197,ph1,(Sep.m2 (Sep.m2 (Sep.dc (hS206))))⟩
theorem qgk {W:Nat→Bool}{h:Heap} (hW:∀ b,
  (geL h.length) b→W b=true) (c_0:Control) (x_1:Command) (r:Control × Int × Bool)
  (hF:wn c_0 x_1=some r) : Ret E W 19 [.agg [lst qe c_0.Brokers,lst qd c_0.Parts,.int .i64 c_0.Next],.agg [.int .i64 x_1.Kind,
  .int .i64 x_1.Broker,.int .i64 x_1.Epoch,.int .i64 x_1.Part,.int .i64 x_1.Stamp,lst cI x_1.InStep]] h (fun v h'=>∃ rv0_0 rc0_0 rv0_1 rc0_1,v = .tup [.agg [rv0_0,rv0_1,
  .int .i64 r.1.Next],.int .i64 r.2.1,
  .bool r.2.2]∧SlF qe 3 86 rv0_0 r.1.Brokers rc0_0∧SlN Partition.R 5 39 rv0_1 r.1.Parts rc0_1∧Sep h' (geL h.length) (rc0_0++(rc0_1++([])))):=by
 refine Ret.of (fn:=x19) rfl (Run.of ?_)
 unfold wn at hF
 have zf0:zj [.agg [lst qe c_0.Brokers,lst qd c_0.Parts,.int .i64 c_0.Next],.agg [.int .i64 x_1.Kind,.int .i64 x_1.Broker,.int .i64 x_1.Epoch,
   .int .i64 x_1.Part,.int .i64 x_1.Stamp,lst cI x_1.InStep]] 0 = .agg [lst qe c_0.Brokers,lst qd c_0.Parts,.int .i64 c_0.Next]:=rfl
 have zf1:zj [.agg [lst qe c_0.Brokers,lst qd c_0.Parts,.int .i64 c_0.Next],.agg [.int .i64 x_1.Kind,.int .i64 x_1.Broker,.int .i64 x_1.Epoch,
   .int .i64 x_1.Part,.int .i64 x_1.Stamp,lst cI x_1.InStep]] 1 = .agg [.int .i64 x_1.Kind,.int .i64 x_1.Broker,.int .i64 x_1.Epoch,.int .i64 x_1.Part,
   .int .i64 x_1.Stamp,lst cI x_1.InStep]:=rfl
 generalize zj [.agg [lst qe c_0.Brokers,lst qd c_0.Parts,.int .i64 c_0.Next],.agg [.int .i64 x_1.Kind,.int .i64 x_1.Broker,.int .i64 x_1.Epoch,
   .int .i64 x_1.Part,.int .i64 x_1.Stamp,lst cI x_1.InStep]]=fr0 at zf0 zf1 ⊢
 have hS:Sep h (geL h.length) []:=Sep.nil h
 simp only [x19,qh,qf,ju,zf0,B0,reduceIte,reduceEqDiff]
 refine je (cs:=[lst qe c_0.Brokers,lst qd c_0.Parts,.int .i64 c_0.Next]) hS rfl rfl rfl (fun b1 h2 hS3=>?_)
 simp only [ju,zf1,B0,reduceIte,reduceEqDiff]
 refine je (cs:=[.int .i64 x_1.Kind,.int .i64 x_1.Broker,.int .i64 x_1.Epoch,.int .i64 x_1.Part,.int .i64 x_1.Stamp,
   lst cI x_1.InStep]) hS3 rfl rfl rfl (fun b5 h6 hS7=>?_)
 simp only [jg,B0,reduceIte,reduceEqDiff]
 refine z1 hS7 (fun b9 h10 hS11=>?_)
 simp only [qg,qa,B0,reduceIte,reduceEqDiff]
 refine zw (Sep.m2 hS11) hW (by simp only [B0,reduceIte,reduceEqDiff]) (fun h13 hS14=>?_)
 refine zw (Sep.m1 hS14) hW (by simp only [B0,reduceIte,reduceEqDiff]) (fun h15 hS16=>?_)
 simp only [zv,qph,qh,qf,ql,B0,reduceIte,reduceEqDiff]
 refine qi (v := .agg [lst qe c_0.Brokers,lst qd c_0.Parts,.int .i64 c_0.Next]) rfl ?_
 obtain ⟨v17,hx18,hF19⟩:=qm hF
 simp only [zb,B0,reduceIte,reduceEqDiff]
 refine jc rfl (qn (jf (qn zo (qn zo (qn qu zg)))) zg) (qfe (fun b hb=>decide_eq_true hb) c_0 v17 hx18) ?_
 simp only [ja,qb,jq,qg,B0,reduceIte,reduceEqDiff]
 obtain ⟨v23,hx24,hF25⟩:=qm hF19
 refine zu 5 (fun fr' h'=>Sep h' (geL h.length) ([Blk1 b9 [.nil,.nil,.int .i64 0] 29]++([]))∧fr' 20 = .bool v23∧fr' 2 = .ref [lst qe c_0.Brokers,
   lst qd c_0.Parts,.int .i64 c_0.Next] 0∧fr' 3 = .ref [.int .i64 x_1.Kind,.int .i64 x_1.Broker,.int .i64 x_1.Epoch,.int .i64 x_1.Part,.int .i64 x_1.Stamp,
   lst cI x_1.InStep] 0∧fr' 4 = .ptr b9 0) (fun Q20 hN21=>?_) ?_
 ·simp only [List.take_succ_cons,List.take_zero]
  simp only [qc (g:=15),B0,reduceIte,reduceEqDiff]
  refine qx (t:=(!v17)) (fun hg22=>?_) (fun hg22=>?_)
  ·rw [iteT hg22] at hx24
   simp only [hg22,qc (g:=15),zq,qr,qb,zh,qa,qk,B0,reduceIte,reduceEqDiff]
   have e26:=qj hx24
   exact hN21 _ _ ⟨hS16,by rw [←e26]; simp only [B0,reduceIte,reduceEqDiff],rfl,rfl,rfl⟩
  ·rw [iteF hg22] at hx24
   simp only [hg22,qc (g:=15),qp,ql,B0,reduceIte,reduceEqDiff]
   refine qi (v := .agg [lst qe c_0.Brokers,lst qd c_0.Parts,.int .i64 c_0.Next]) rfl ?_
   simp only [hg22,qc (g:=15),qp,ql,B0,reduceIte,reduceEqDiff]
   refine qi (v := .agg [.int .i64 x_1.Kind,.int .i64 x_1.Broker,.int .i64 x_1.Epoch,.int .i64 x_1.Part,.int .i64 x_1.Stamp,lst cI x_1.InStep]) rfl ?_
   obtain ⟨v27,hx28,hF29⟩:=qm hx24
   simp only [hg22,qc (g:=15),qp,zb,B0,reduceIte,reduceEqDiff]
   refine jc rfl (qn (jf (qn zo (qn zo (qn qu zg)))) (qn (jf (qn qu (qn qu (qn qu (qn qu
     (qn qu (qn zo zg))))))) zg)) (qi4 (fun b hb=>decide_eq_true hb) c_0 x_1 v27 hx28) ?_
   simp only [hg22,qc (g:=15),qp,ja,qb,jq,qr,zi,qa,qk,B0,reduceIte,reduceEqDiff]
   have e30:=qj hF29
   exact hN21 _ _ ⟨hS16,by rw [←e30]; simp only [B0,reduceIte,reduceEqDiff],rfl,rfl,rfl⟩
 rintro fr31 h36 ⟨hS37,f32,f33,f34,f35⟩
 simp only [List.drop_succ_cons,List.drop_zero]
 simp only [qa,q1s,f32,qy,B0,reduceIte,reduceEqDiff]
 refine qw (t:=v23) (fun hc38=>?_) (fun hc38=>?_)
 ·rw [iteT hc38] at hF25
  simp only [q2q,qh,qf,run_build,evp,B0,reduceIte,reduceEqDiff]
  refine qi (v := .agg [.nil,.nil,.int .i64 0]) rfl ?_
  simp only [f35,zl,B0,reduceIte,reduceEqDiff]
  refine zf (us:=[.nil,.nil,.int .i64 0]) rfl (cs':=[.nil,.nil,.int .i64 0]) hS37 hW rfl rfl (nle rfl) rfl (fun h39 hS40=>?_)
  simp only [qg,qa,q8,B0,reduceIte,reduceEqDiff]
  have he:=qj hF25
  subst he
  refine kc (qn (kr (bb:=b9) (oo:=0) (v := .agg [.nil,.nil,
    .int .i64 0]) (f35) ((z3 (Sep.bk _ _ _ hS40)).trans rfl)) (qn (ye (v := .int .i64 0) (rfl)) (qn (ye (v := .bool false) (rfl)) zg))) ?_
  exact ⟨.nil,[],.nil,[],by first | trivial | rfl,SlF.nil,SlN.nil,((Sep.dc (hS40)) : Sep _ (geL h.length) ([]))⟩
 rw [iteF hc38] at hF25
 simp only [ze,qtu,qh,qf,qg,qa,qq2,f33,qo,qb,Nat.reduceAdd,Nat.zero_add,Nat.add_zero,qq,ql,B0,reduceIte,
   reduceEqDiff]
 refine qi (v:=lst qd c_0.Parts) rfl ?_
 simp only [zr,qb,zx,qg,qa,B0,reduceIte,reduceEqDiff]
 obtain ⟨oc53,hX55,hk56⟩:=jd hF25
 simp only [q1a]
 refine kn (σ:=(List Int)) c_0.Parts (fun i51 x52 s100=>xa i51 x52 s100) (fun s fr' h'=>∃ v48 c49,fr' 2 = .ref [lst qe c_0.Brokers,
   lst qd c_0.Parts,.int .i64 c_0.Next] 0∧fr' 3 = .ref [.int .i64 x_1.Kind,.int .i64 x_1.Broker,.int .i64 x_1.Epoch,.int .i64 x_1.Part,.int .i64 x_1.Stamp,
   lst cI x_1.InStep] 0∧fr' 4 = .ptr b9 0∧fr' 7=v48∧fr' 23=lst qd c_0.Parts∧SlF cI 1 3 v48 s c49∧Sep h' (geL h.length) ([Blk1 b9 [.nil,.nil,
   .int .i64 0] 29]++(c49++([])))) hX55 ⟨.nil,[],f33,f34,f35,rfl,rfl,SlF.nil,(hS37:Sep _ (geL h.length) ([Blk1 b9 [.nil,.nil,
   .int .i64 0] 29]++([])))⟩ (by simp only [B0,reduceIte,reduceEqDiff]) (by simp only [B0,reduceIte,
   reduceEqDiff]) (fun _ _ _ h=>h) rfl rfl (fun _ _ _ _ h=>h) (fun _ _ _ _ h=>h) (fun _ _ _ _ h=>h) (by decide) ?_ ?_
 ·rintro i51 x52 s46 fr65 h66 hx73 ⟨v48,c49,f68,f69,f70,f71,f72,hv50,hS67⟩ f74 f75 oc54 hF57 hr58 Q59 hN60 hB64 hK61 hR62 hE63
  unfold xa at hF57
  simp only [qzx,qh,qf,f72,f74,jb,B0,reduceIte,reduceEqDiff]
  refine qi (v := .ref (qd x52) 0) (ko hx73 rfl) ?_
  simp only [ql,B0,reduceIte,reduceEqDiff]
  refine qi (v := .agg [lst cI x52.Homes,lst cI x52.InStep,.int .i64 x52.Leader,.int .i64 x52.Epoch,.int .i64 x52.Stamp]) rfl ?_
  simp only [jg,B0,reduceIte,reduceEqDiff]
  refine z1 hS67 (fun b76 h77 hS78=>?_)
  simp only [zl,B0,reduceIte,reduceEqDiff]
  refine zf (us:=[lst cI x52.Homes,lst cI x52.InStep,.int .i64 x52.Leader,.int .i64 x52.Epoch,.int .i64 x52.Stamp]) rfl (cs':=[lst cI x52.Homes,
    lst cI x52.InStep,.int .i64 x52.Leader,.int .i64 x52.Epoch,.int .i64 x52.Stamp]) hS78 hW rfl rfl (nle rfl) rfl (fun h80 hS81=>?_)
  simp only [qa,B0,reduceIte,reduceEqDiff]
  refine zw hS81 hW (by simp only [B0,reduceIte,reduceEqDiff]) (fun h82 hS83=>?_)
  simp only [zv,qzr,qf,f71,qg,qo,qb,Nat.reduceAdd,Nat.zero_add,Nat.add_zero,qq,ql,B0,reduceIte,reduceEqDiff]
  refine qi (v := .int .i64 x52.Leader) rfl ?_
  simp only [j6,evp,B0,reduceIte,reduceEqDiff]
  refine jv (n:=1) (f:=cI) [x52.Leader] hS83 rfl rfl (fun v84 c85 h86 hv87 hS88=>?_)
  simp only [xj,B0,reduceIte,reduceEqDiff]
  obtain ⟨l90,hx91,hF92⟩:=qm hF57
  refine y8 (f:=cI) hv50 (Sep.m2 hS88) hW (fun _=>rfl) (fun _=>rfl) (SlF.first hv87 hS88 (fun _=>rfl)) hx91 (fun v93 c94 h95 hv96 hS97=>?_)
  simp only [qg,qa,qk,B0,reduceIte,reduceEqDiff]
  have e99:=qj hF92
  exact hN60 _ _ _ e99.symm ⟨v93,c94,f68,f69,f70,rfl,f72,hv96,(Sep.m1 (Sep.dc (Sep.m1 hS97)))⟩ (f74) (f75)
 rintro s101 fr106 h107 rfl ⟨v103,c104,f109,f110,f111,f112,f113,hv105,hS108⟩
 dsimp only [jnO] at hk56
 unfold qc5 at hk56
 simp only [qv1,qh,jo,qma,B0,reduceIte,reduceEqDiff]
 refine qhe hS108 (fun b114 h115 hS116=>?_)
 simp only [f109,z2,B0,reduceIte,reduceEqDiff]
 refine zd (v := .agg [lst qe c_0.Brokers,lst qd c_0.Parts,.int .i64 c_0.Next]) rfl ?_
 obtain ⟨v118,hx119,hF120⟩:=qm hk56
 simp only [qdd,B0,reduceIte,reduceEqDiff]
 refine q6n rfl hS116 (qn (jf (qn zo (qn zo (qn qu zg)))) zg) (qfp (fun b hb=>decide_eq_true hb) c_0 v118 hx119) ?_
 rintro _ h129 ⟨v121,c122,v125,c126,rfl,hv123,hv127,hS130⟩
 refine ⟨_,qgb (qs (SlF.free1 hv123) (qs (SlN.free1 hv127) (qs rfl zt))),hS130,
   (j0 (SlF.pf hv123 (fun _=>rfl)) (j0 (SlN.pf hv127 Partition.RO) wt)),fun h131 hS132=>?_⟩
 have hS133:Sep h131 (geL h.length) (c122++(c126++([Blk1 b114 [.nil,.nil,.int .i64 0] 29]++([Blk1 b9 [.nil,.nil,
   .int .i64 0] 29]++(c104++([])))))):=by simpa only [List.append_assoc,List.nil_append] using hS132
 simp only [f110,qcc,qbq,B0,reduceIte,reduceEqDiff]
 refine zd (v := .agg [.int .i64 x_1.Kind,.int .i64 x_1.Broker,.int .i64 x_1.Epoch,.int .i64 x_1.Part,.int .i64 x_1.Stamp,lst cI x_1.InStep]) rfl ?_
 obtain ⟨v134,hx135,hF136⟩:=qm hF120
 simp only [xz,B0,reduceIte,reduceEqDiff]
 refine qq7 rfl (ql4 hW v118 v121 c122 hv123 v125 c126 hv127 x_1 v134 hx135 (Sep.m1 (Sep.m1 hS133))) ?_
 rintro _ h143 ⟨c137,v139,c140,rfl,hv138,hv141,hS144⟩
 simp only [jl,qt,q6v,qa7,q51,qa0,qdj,B0,reduceIte,reduceEqDiff]
 refine qc1 (us:=[v121,v139,.int .i64 v134.1.Next]) rfl (cs':=[v121,v139,
   .int .i64 v134.1.Next]) (Sep.m2 hS144) hW rfl (qs (SlF.one hv138) (qs (SlN.one hv141) (qs rfl zt))) (nle rfl) rfl (fun h145 hS146=>?_)
 simp only [jl,qt,zm,qqf,qh,qf,qg,qv,qb,z4,qa,q3k,qy,B0,reduceIte,reduceEqDiff]
 obtain ⟨sv158,hX156,hk157⟩:=qm hF136
 refine xq (t:=(decide (v134.2=0))) (fun fr' h'=>∃ c150 c153,fr' 2 = .ref [lst qe c_0.Brokers,lst qd c_0.Parts,
   .int .i64 c_0.Next] 0∧fr' 4 = .ptr b9 0∧fr' 10 = .ptr b114 0∧fr' 11 = .int .i64 sv158.1∧SlF qe 3 86 v121 sv158.2.2.1 c150∧SlN Partition.R 5 39 v139 sv158.2.2.2 c153∧Sep h'
   (geL h.length) ([Blk1 b9 [.nil,.nil,.int .i64 0] 29]++([Blk1 b114 [v121,v139,
   .int .i64 sv158.2.1.Next] 29]++(c150++(c153++([])))))) (fun Q159 hN160 hR161 hE162=>⟨fun hc163=>?_,fun hc163=>?_⟩) ?_
 ·rw [iteT hc163] at hX156
  simp only [q4d,qh,qf,ql,B0,reduceIte,reduceEqDiff]
  refine qi (v := .agg [v121,v139,.int .i64 v134.1.Next]) ((z3 (Sep.bk _ _ _ hS146)).trans rfl) ?_
  obtain ⟨v164,hx165,hF166⟩:=qm hX156
  simp only [f112,qg,zb,B0,reduceIte,reduceEqDiff]
  refine kv rfl (qkn hW v134.1 v121 c137 hv138 v139 c140 hv141 v103 c104 s101 hv105 v164 hx165 (Sep.m3 (Sep.m3 (Sep.m4 hS146)))) ?_
  rintro _ h173 ⟨c167,c169,c171,rfl,hv168,hv170,hv172,hS174⟩
  simp only [zl,B0,reduceIte,reduceEqDiff]
  refine zf (us:=[v121,v139,.int .i64 v164.1.Next]) rfl (cs':=[v121,v139,
    .int .i64 v164.1.Next]) (Sep.m3 hS174) hW rfl (qs (SlF.one hv168) (qs (SlN.one hv170) (qs rfl zt))) (nle rfl) rfl (fun h175 hS176=>?_)
  simp only [qa,q4b,qh,qf,ql,B0,reduceIte,reduceEqDiff]
  refine qi (v := .agg [v121,v139,.int .i64 v164.1.Next]) ((z3 (Sep.bk _ _ _ hS176)).trans rfl) ?_
  obtain ⟨v177,hx178,hF179⟩:=qm hF166
  simp only [zb,B0,reduceIte,reduceEqDiff]
  refine jc rfl (qn (jf (qn (SlF.snap hv168 (Sep.m1 hS176) rfl (fun _=>rfl) (fun _=>rfl)) (qn (SlN.snap hv170 _ (Sep.m2 hS176) rfl Partition.RO)
    (qn qu zg)))) zg) (qfe (fun b hb=>decide_eq_true hb) v164.1 v177 hx178) ?_
  simp only [ja,qb,jq,qa,qy,B0,reduceIte,reduceEqDiff]
  refine qw (t:=(!v177)) (fun hc180=>?_) (fun hc180=>?_)
  ·rw [iteT hc180] at hF179
   simp only [qf,qg,qa,qk,B0,reduceIte,reduceEqDiff]
   have e181:=qj hF179
   subst e181
   exact hN160 _ _ ⟨c167,c169,f109,f111,rfl,rfl,hv168,hv170,(Sep.m3 (Sep.m2 (Sep.m2 (Sep.m2 (Sep.dc (Sep.m3 hS176))))))⟩
  rw [iteF hc180] at hF179
  simp only [ze,qk,B0,reduceIte,reduceEqDiff]
  have e182:=qj hF179
  subst e182
  exact hN160 _ _ ⟨c167,c169,f109,f111,rfl,rfl,hv168,hv170,(Sep.m3 (Sep.m2 (Sep.m2 (Sep.m2 (Sep.dc (Sep.m3 hS176))))))⟩
 ·rw [iteF hc163] at hX156
  simp only [ze,qk,B0,reduceIte,reduceEqDiff]
  have e183:=qj hX156
  subst e183
  exact hN160 _ _ ⟨c137,c140,f109,f111,rfl,rfl,hv138,hv141,(Sep.m3 (Sep.m2 (Sep.m2 (Sep.m2 (Sep.dc (Sep.m4 hS146))))))⟩
 rintro fr184 h185 ⟨c150,c153,f187,f188,f189,f190,hv151,hv154,hS186⟩
 obtain ⟨s147,s148,s149,s152⟩:=sv158
 dsimp only at *
 unfold uz at hk157
 simp only [qs7,qh,qf,f190,qg,qv,qb,ue,qa,qpl,qy,B0,reduceIte,reduceEqDiff]
 refine qw (t:=(decide (s147≠0))) (fun hc191=>?_) (fun hc191=>?_)
 ·rw [iteT hc191] at hk157
  simp only [qpq,qh,qf,f187,ql,B0,reduceIte,reduceEqDiff]
  refine qi (v := .agg [lst qe c_0.Brokers,lst qd c_0.Parts,.int .i64 c_0.Next]) rfl ?_
  obtain ⟨v192,hx193,hF194⟩:=qm hk157
  simp only [zb,B0,reduceIte,reduceEqDiff]
  refine u9 rfl hS186 (qn (jf (qn zo (qn zo (qn qu zg)))) zg) (qfp (fun b hb=>decide_eq_true hb) c_0 v192 hx193) ?_
  rintro _ h203 ⟨v195,c196,v199,c200,rfl,hv197,hv201,hS204⟩
  refine ⟨_,qgb (qs (SlF.free1 hv197) (qs (SlN.free1 hv201) (qs rfl zt))),hS204,
    (j0 (SlF.pf hv197 (fun _=>rfl)) (j0 (SlN.pf hv201 Partition.RO) wt)),fun h205 hS206=>?_⟩
  have hS207:Sep h205 (geL h.length) (c196++(c200++([Blk1 b9 [.nil,.nil,.int .i64 0] 29]++([Blk1 b114 [v121,v139,
    .int .i64 s148.Next] 29]++(c150++(c153++([]))))))):=by simpa only [List.append_assoc,List.nil_append] using hS206
  simp only [f190,qg,f188,zl,B0,reduceIte,reduceEqDiff]
  refine zf (us:=[v195,v199,.int .i64 v192.Next]) rfl (cs':=[v195,v199,
    .int .i64 v192.Next]) (Sep.m2 hS207) hW rfl (qs (SlF.one hv197) (qs (SlN.one hv201) (qs rfl zt))) (nle rfl) rfl (fun h208 hS209=>?_)
  simp only [qg,qa,q8,B0,reduceIte,reduceEqDiff]
  have he:=qj hF194
  subst he
  refine kc (qn (kr (bb:=b9) (oo:=0) (v := .agg [v195,v199,
    .int .i64 v192.Next]) (f188) ((z3 (Sep.bk _ _ _ hS209)).trans rfl)) (qn (ye (v := .int .i64 s147) (rfl)) (qn (ye (v := .bool true) (rfl)) zg))) ?_
  exact ⟨v195,c196,v199,c200,by first | trivial | rfl,hv197,hv201,(Sep.m1 (Sep.m1 (Sep.dc (Sep.m2 (Sep.dc (Sep.m2 (Sep.dc (Sep.m2 (Sep.dc (hS209))))))))))⟩
 rw [iteF hc191] at hk157
 simp only [ze,qrd,qh,qf,f189,ql,B0,reduceIte,reduceEqDiff]
 refine qi (v := .agg [v121,v139,.int .i64 s148.Next]) ((z3 (Sep.bk _ _ _ (Sep.m1 hS186))).trans rfl) ?_
 obtain ⟨v210,hx211,hF212⟩:=qm hk157
 simp only [zb,B0,reduceIte,reduceEqDiff]
 refine u9 rfl hS186 (qn (jf (qn (SlF.snap hv151 (Sep.m2 hS186) rfl (fun _=>rfl) (fun _=>rfl)) (qn (SlN.snap hv154 _ (Sep.m3 hS186) rfl Partition.RO)
   (qn qu zg)))) zg) (qfp (fun b hb=>decide_eq_true hb) (Control.mk s149 s152 s148.Next) v210 hx211) ?_
 rintro _ h221 ⟨v213,c214,v217,c218,rfl,hv215,hv219,hS222⟩
 refine ⟨_,qgb (qs (SlF.free1 hv215) (qs (SlN.free1 hv219) (qs rfl zt))),hS222,
   (j0 (SlF.pf hv215 (fun _=>rfl)) (j0 (SlN.pf hv219 Partition.RO) wt)),fun h223 hS224=>?_⟩
 have hS225:Sep h223 (geL h.length) (c214++(c218++([Blk1 b9 [.nil,.nil,.int .i64 0] 29]++([Blk1 b114 [v121,v139,
   .int .i64 s148.Next] 29]++(c150++(c153++([]))))))):=by simpa only [List.append_assoc,List.nil_append] using hS224
 simp only [f188,zl,B0,reduceIte,reduceEqDiff]
 refine zf (us:=[v213,v217,.int .i64 v210.Next]) rfl (cs':=[v213,v217,
   .int .i64 v210.Next]) (Sep.m2 hS225) hW rfl (qs (SlF.one hv215) (qs (SlN.one hv219) (qs rfl zt))) (nle rfl) rfl (fun h226 hS227=>?_)
 simp only [qg,qa,q8,B0,reduceIte,reduceEqDiff]
 have he:=qj hF212
 subst he
 refine kc (qn (kr (bb:=b9) (oo:=0) (v := .agg [v213,v217,
   .int .i64 v210.Next]) (f188) ((z3 (Sep.bk _ _ _ hS227)).trans rfl)) (qn (ye (v := .int .i64 0) (rfl)) (qn (ye (v := .bool true) (rfl)) zg))) ?_
 exact ⟨v213,c214,v217,c218,by first | trivial | rfl,hv215,hv219,(Sep.m1 (Sep.m1 (Sep.dc (Sep.m2 (Sep.dc (Sep.m2 (Sep.dc (Sep.m2 (Sep.dc (hS227))))))))))⟩
theorem qft {W:Nat→Bool}{h:Heap} (hW:∀ b,
  (geL h.length) b→W b=true) (k:Nat) (brokers_0:Int) (r:Control × Bool) (hF:yh k brokers_0=some r) : Ret E W 28 [.int .i64 brokers_0] h
  (fun v h'=>∃ rv0_0 rc0_0 rv0_1 rc0_1,v = .tup [.agg [rv0_0,rv0_1,.int .i64 r.1.Next],
  .bool r.2]∧SlF qe 3 86 rv0_0 r.1.Brokers rc0_0∧SlN Partition.R 5 39 rv0_1 r.1.Parts rc0_1∧Sep h' (geL h.length) (rc0_0++(rc0_1++([])))):=by
 refine Ret.of (fn:=x28) rfl (Run.of ?_)
 unfold yh at hF
 have zf0:zj [.int .i64 brokers_0] 0 = .int .i64 brokers_0:=rfl
 generalize zj [.int .i64 brokers_0]=fr0 at zf0 ⊢
 have hS:Sep h (geL h.length) []:=Sep.nil h
 simp only [x28,qh,qf,jg,B0,reduceIte,reduceEqDiff]
 refine z1 hS (fun b1 h2 hS3=>?_)
 simp only [qg,qa,q1f,qh,qf,zf0,zb,B0,reduceIte,reduceEqDiff]
 refine jc rfl (qn qu (qn qu (qn qu zg))) (wb (fun b hb=>decide_eq_true hb) brokers_0 1 6 _ rfl) ?_
 simp only [ja,qb,jq,qa,q4v,qy,B0,reduceIte,reduceEqDiff]
 refine qw (t:=(!(zn brokers_0 1 6))) (fun hc5=>?_) (fun hc5=>?_)
 ·rw [iteT hc5] at hF
  simp only [qh,qf,run_build,evp,B0,reduceIte,reduceEqDiff]
  refine qi (v := .agg [.nil,.nil,.int .i64 0]) rfl ?_
  simp only [zl,B0,reduceIte,reduceEqDiff]
  refine zf (us:=[.nil,.nil,.int .i64 0]) rfl (cs':=[.nil,.nil,.int .i64 0]) hS3 hW rfl rfl (nle rfl) rfl (fun h6 hS7=>?_)
  simp only [qg,qa,q8,B0,reduceIte,reduceEqDiff]
  have he:=qj hF
  subst he
  refine kc (qn (kr (bb:=b1) (oo:=0) (v := .agg [.nil,.nil,
    .int .i64 0]) (rfl) ((z3 (Sep.bk _ _ _ hS7)).trans rfl)) (qn (ye (v := .bool false) (rfl)) zg)) ?_
  exact ⟨.nil,[],.nil,[],by first | trivial | rfl,SlF.nil,SlN.nil,((Sep.dc (hS7)) : Sep _ (geL h.length) ([]))⟩
 rw [iteF hc5] at hF
 simp only [ze,q0w,qh,qf,run_build,evp,B0,reduceIte,reduceEqDiff]
 refine qi (v := .agg [.nil,.nil,.int .i64 1]) rfl ?_
 simp only [jg,B0,reduceIte,reduceEqDiff]
 refine z1 hS3 (fun b8 h9 hS10=>?_)
 simp only [zl,B0,reduceIte,reduceEqDiff]
 refine zf (us:=[.nil,.nil,.int .i64 1]) rfl (cs':=[.nil,.nil,.int .i64 1]) hS10 hW rfl rfl (nle rfl) rfl (fun h12 hS13=>?_)
 simp only [qa,qyk,qh,qf,qg,B0,reduceIte,reduceEqDiff]
 obtain ⟨oc28,hX30,hk31⟩:=jd hF
 simp only [qzc]
 refine qkt (σ:=Int × Control) (fun s68=>uh brokers_0 s68.1 s68.2) (fun s fr' h'=>∃ v23 c24,
   fr' 0 = .int .i64 brokers_0∧fr' 2 = .ptr b1 0∧fr' 4 = .ptr b8 0∧fr' 5 = .int .i64 s.1∧SlF qe 3 86 v23 s.2.Brokers c24∧Sep h' (geL h.length)
   ([Blk1 b1 [.nil,.nil,.int .i64 0] 29]++([Blk1 b8 [v23,.nil,.int .i64 s.2.Next] 29]++(c24++([]))))) hX30 ⟨.nil,[],zf0,rfl,rfl,rfl,SlF.nil,
   ((Sep.m1 hS13) : Sep _ (geL h.length) ([Blk1 b1 [.nil,.nil,.int .i64 0] 29]++([Blk1 b8 [.nil,.nil,.int .i64 1] 29]++([]))))⟩ (fun _ _ _ h=>h) ?_ ?_
 ·rintro ⟨s20,s21⟩ fr40 h41 ⟨v23,c24,f43,f44,f45,f46,hv25,hS42⟩ oc29 hF32 hr33 Q34 hN35 hK36 hR37 hE38
  dsimp only at *
  unfold uh at hF32
  simp only [qzp,qh,qf,f46,qg,f43,qv,qb,qhg,qa,qy,B0,reduceIte,reduceEqDiff]
  refine qw (t:=(decide (s20<brokers_0))) (fun hc48=>?_) (fun hc48=>?_)
  ·rw [iteT hc48] at hF32
   simp only [ze,q1q,qh,wh,q10,qf,f45,qo,qb,Nat.reduceAdd,Nat.zero_add,Nat.add_zero,q9,ql,B0,reduceIte,
     reduceEqDiff]
   refine qi (v:=v23) ((z5 (Sep.bk _ _ _ (Sep.m1 hS42))).trans rfl) ?_
   simp only [run_build,evp,B0,reduceIte,reduceEqDiff]
   refine qi (v := .agg [.int .i64 0,.int .i64 0,.bool true]) rfl ?_
   simp only [j6,evp,B0,reduceIte,reduceEqDiff]
   refine jv (n:=3) (f:=qe) [(Broker.mk 0 0 true)] hS42 rfl rfl (fun v49 c50 h51 hv52 hS53=>?_)
   simp only [xj,B0,reduceIte,reduceEqDiff]
   obtain ⟨l55,hx56,hF57⟩:=qm hF32
   refine y8 (f:=qe) hv25 (Sep.m3 hS53) hW (fun _=>rfl) (fun _=>rfl) (SlF.first hv52 hS53 (fun _=>rfl)) hx56 (fun v58 c59 h60 hv61 hS62=>?_)
   simp only [f45,qo,qb,Nat.reduceAdd,Nat.zero_add,Nat.add_zero,q9,zl,B0,reduceIte,reduceEqDiff]
   refine zf (us:=[v58]) (kd (SlF.one hv61)) (cs':=[v58,.nil,
     .int .i64 s21.Next]) (Sep.m3 hS62) hW rfl (qs (SlF.one hv61) zt) (nle rfl) rfl (fun h64 hS65=>?_)
   simp only [qa,xd,qf,f46,qg,qv,qb,qaq,qk,B0,reduceIte,reduceEqDiff]
   have e66:=qj hF57
   exact hN35 _ _ _ e66.symm ⟨v58,c59,f43,f44,f45,rfl,hv61,(Sep.m2 (Sep.m1 (Sep.m1 (Sep.dc (Sep.m2 hS65)))))⟩
  rw [iteF hc48] at hF32
  simp only [qhp,qgf,qhc,B0,reduceIte,reduceEqDiff]
  have e67:=qj hF32
  exact hK36 _ _ _ e67.symm ⟨v23,c24,f43,f44,f45,f46,hv25,(Sep.m2 (Sep.m2 (Sep.m2 hS42)))⟩
 rintro ⟨s69,s70⟩ fr75 h76 rfl ⟨v72,c73,f78,f79,f80,f81,hv74,hS77⟩
 dsimp only [jnO] at hk31
 dsimp only at *
 unfold qfd at hk31
 simp only [qh,qf,f80,ql,B0,reduceIte,reduceEqDiff]
 refine qi (v := .agg [v72,.nil,.int .i64 s70.Next]) ((z3 (Sep.bk _ _ _ (Sep.m1 hS77))).trans rfl) ?_
 simp only [f79,zl,B0,reduceIte,reduceEqDiff]
 refine zf (us:=[v72,.nil,.int .i64 s70.Next]) rfl (cs':=[v72,.nil,
   .int .i64 s70.Next]) hS77 hW rfl (qs (SlF.one hv74) (qs rfl (qs rfl zt))) (nle rfl) rfl (fun h82 hS83=>?_)
 simp only [qg,qa,q8,B0,reduceIte,reduceEqDiff]
 have he:=qj hk31
 subst he
 refine kc (qn (kr (bb:=b1) (oo:=0) (v := .agg [v72,.nil,
   .int .i64 s70.Next]) (f79) ((z3 (Sep.bk _ _ _ hS83)).trans rfl)) (qn (ye (v := .bool true) (rfl)) zg)) ?_
 exact ⟨v72,c73,.nil,[],by first | trivial | rfl,hv74,SlN.nil,((Sep.dc ((Sep.dc (hS83)))) : Sep _ (geL h.length) (c73++([])))⟩
theorem qi6 {W:Nat→Bool}{h:Heap}{lo:Nat→Prop}{S0:List Obj} (hW:∀ b,
  lo b→W b=true) (pb0:Nat) (c_0:L1Cur) (r:Int × L1Cur) (hF:qdw c_0=some r) (hS:Sep h lo ([Blk1 pb0 [lst cU8 c_0.code,.int .i64 c_0.at_,
  .int .u64 c_0.seed] 79]++(S0))) : Ret E W 87 [.ptr pb0 0] h (fun v h'=>v = .int .i64 r.1∧Sep h' lo ([Blk1 pb0 [lst cU8 r.2.code,.int .i64 r.2.at_,
  .int .u64 r.2.seed] 79]++(S0))):=by
 refine Ret.of (fn:=x87) rfl (Run.of ?_)
 unfold qdw at hF
 have zf0:zj [.ptr pb0 0] 0 = .ptr pb0 0:=rfl
 generalize zj [.ptr pb0 0]=fr0 at zf0 ⊢
 simp only [x87,qh,qf,qg,qa,qyf,q2e,jo,zf0,jl,qt,k7,zz,z8,Nat.reduceAdd,Nat.zero_add,Nat.add_zero,
   q9,z2,B0,reduceIte,reduceEqDiff]
 refine zd (v := .int .i64 c_0.at_) ((z5 (Sep.bk _ _ _ hS)).trans rfl) ?_
 simp only [zf0,jl,qt,k7,zz,z8,Nat.reduceAdd,Nat.zero_add,Nat.add_zero,q9,z2,B0,reduceIte,reduceEqDiff]
 refine zd (v:=lst cU8 c_0.code) ((z5 (Sep.bk _ _ _ hS)).trans rfl) ?_
 simp only [qj5,qt,zx,u3,qhg,zm,q4q,qy,B0,reduceIte,reduceEqDiff]
 obtain ⟨s1,hX3,hk4⟩:=qm hF
 refine xq (t:=(decide (c_0.at_<(List.length c_0.code:Int)))) (fun fr' h'=>fr' 0 = .ptr pb0 0∧fr' 3 = .int .i64 s1∧Sep h' lo ([Blk1 pb0 [lst cU8 c_0.code,
   .int .i64 c_0.at_,.int .u64 c_0.seed] 79]++(S0))) (fun Q5 hN6 hR7 hE8=>⟨fun hc9=>?_,fun hc9=>?_⟩) ?_
 ·rw [iteT hc9] at hX3
  simp only [q00,jo,zf0,jl,qt,k7,zz,z8,Nat.reduceAdd,Nat.zero_add,Nat.add_zero,q9,z2,B0,reduceIte,reduceEqDiff]
  refine zd (v:=lst cU8 c_0.code) ((z5 (Sep.bk _ _ _ hS)).trans rfl) ?_
  simp only [zf0,jl,qt,k7,zz,z8,Nat.reduceAdd,Nat.zero_add,Nat.add_zero,q9,z2,B0,reduceIte,reduceEqDiff]
  refine zd (v := .int .i64 c_0.at_) ((z5 (Sep.bk _ _ _ hS)).trans rfl) ?_
  obtain ⟨x10,hx11,hF12⟩:=qm hX3
  simp only [qam,B0,reduceIte,reduceEqDiff]
  refine zd (v := .ref (cU8 x10) 0) (xx hx11 rfl) ?_
  simp only [z2,B0,reduceIte,reduceEqDiff]
  refine zd (v := .int .u8 x10) rfl ?_
  simp only [q7x,qt,qlw,jl,zm,qk,B0,reduceIte,reduceEqDiff]
  have e13:=qj hF12
  subst e13
  exact hN6 _ _ ⟨zf0,rfl,hS⟩
 ·rw [iteF hc9] at hX3
  simp only [ze,qk,B0,reduceIte,reduceEqDiff]
  have e14:=qj hX3
  subst e14
  exact hN6 _ _ ⟨zf0,rfl,hS⟩
 rintro fr15 h16 ⟨f18,f19,hS17⟩
 unfold qd2 at hk4
 simp only [qye,qh,qf,f18,qg,kg,qb,zz,qo,Nat.reduceAdd,Nat.zero_add,Nat.add_zero,q9,ql,B0,reduceIte,reduceEqDiff]
 refine qi (v := .int .i64 c_0.at_) ((z5 (Sep.bk _ _ _ hS17)).trans rfl) ?_
 simp only [qv,qb,qaq,kg,zz,qo,Nat.reduceAdd,Nat.zero_add,Nat.add_zero,q9,zl,B0,reduceIte,reduceEqDiff]
 refine zf (us:=[.int .i64 (IntKind.wrap .i64 (c_0.at_+1))]) rfl (cs':=[lst cU8 c_0.code,.int .i64 (IntKind.wrap .i64 (c_0.at_+1)),
   .int .u64 c_0.seed]) hS17 hW rfl rfl (nle rfl) rfl (fun h20 hS21=>?_)
 simp only [qa,q3l,qh,qf,f18,qg,kg,qb,zz,qo,Nat.reduceAdd,Nat.zero_add,Nat.add_zero,q9,ql,B0,reduceIte,
   reduceEqDiff]
 refine qi (v := .int .u64 c_0.seed) ((z5 (Sep.bk _ _ _ hS21)).trans rfl) ?_
 simp only [qv,qb,q6i,f19,qg,qnx,qlw,qaq,kg,zz,qo,Nat.reduceAdd,Nat.zero_add,Nat.add_zero,q9,zl,B0,reduceIte,
   reduceEqDiff]
 refine zf (us:=[.int .u64 (IntKind.wrap .u64 ((IntKind.wrap .u64 ((IntKind.wrap .u64 (c_0.seed*6364136223846793005)) +
   (IntKind.wrap .u64 s1)))+1442695040888963407))]) rfl (cs':=[lst cU8 c_0.code,.int .i64 (IntKind.wrap .i64 (c_0.at_+1)),
   .int .u64 (IntKind.wrap .u64 ((IntKind.wrap .u64 ((IntKind.wrap .u64 (c_0.seed*6364136223846793005))+(IntKind.wrap .u64 s1)))+1442695040888963407))]) hS21 hW rfl rfl
   (nle rfl) rfl (fun h22 hS23=>?_)
 simp only [qa,qzk,qh,jo,f18,jl,qt,k7,zz,z8,Nat.reduceAdd,Nat.zero_add,Nat.add_zero,q9,z2,B0,reduceIte,
   reduceEqDiff]
 refine zd (v := .int .i64 (IntKind.wrap .i64 (c_0.at_+1))) ((z5 (Sep.bk _ _ _ hS23)).trans rfl) ?_
 simp only [f18,jl,qt,k7,zz,z8,Nat.reduceAdd,Nat.zero_add,Nat.add_zero,q9,z2,B0,reduceIte,reduceEqDiff]
 refine zd (v:=lst cU8 c_0.code) ((z5 (Sep.bk _ _ _ hS23)).trans rfl) ?_
 simp only [qj5,qt,zx,u3,qn0,zm,q12,qy,B0,reduceIte,reduceEqDiff]
 refine qw (t:=(decide ((IntKind.wrap .i64 (c_0.at_+1))≤(List.length c_0.code:Int)))) (fun hc24=>?_) (fun hc24=>?_)
 ·rw [iteT hc24] at hk4
  simp only [qh,qf,f19,qg,qa,q8,B0,reduceIte,reduceEqDiff]
  have he:=qj hk4
  subst he
  simp only [zc,B0,reduceIte,reduceEqDiff]
  exact ⟨by first | trivial | rfl,hS23⟩
 rw [iteF hc24] at hk4
 simp only [ze,qzw,qh,qf,f18,qg,kg,qb,zz,qo,Nat.reduceAdd,Nat.zero_add,Nat.add_zero,q9,ql,B0,reduceIte,
   reduceEqDiff]
 refine qi (v := .int .u64 (IntKind.wrap .u64 ((IntKind.wrap .u64 ((IntKind.wrap .u64 (c_0.seed*6364136223846793005))+(IntKind.wrap .u64 s1)))+1442695040888963407)))
   ((z5 (Sep.bk _ _ _ hS23)).trans rfl) ?_
 simp only [qv,qb,q5x (n:=40) (by decide),q7v,qnx,qlw,qg,qa,q8,B0,reduceIte,reduceEqDiff]
 have he:=qj hk4
 subst he
 simp only [zc,B0,reduceIte,reduceEqDiff]
 exact ⟨by first | trivial | rfl,hS23⟩
theorem kx {W:Nat→Bool}{h:Heap}{lo:Nat→Prop}{S0:List Obj} (hW:∀ b,
  lo b→W b=true) (pb0:Nat) (c_0:L1Cur) (n_1:Int) (r:Int × L1Cur) (hF:kp c_0 n_1=some r) (hS:Sep h lo ([Blk1 pb0 [lst cU8 c_0.code,.int .i64 c_0.at_,
  .int .u64 c_0.seed] 79]++(S0))) : Ret E W 60 [.ptr pb0 0,.int .i64 n_1] h (fun v h'=>v = .int .i64 r.1∧Sep h' lo ([Blk1 pb0 [lst cU8 r.2.code,.int .i64 r.2.at_,
  .int .u64 r.2.seed] 79]++(S0))):=by
 refine Ret.of (fn:=x60) rfl (Run.of ?_)
 unfold kp at hF
 have zf0:zj [.ptr pb0 0,.int .i64 n_1] 0 = .ptr pb0 0:=rfl
 have zf1:zj [.ptr pb0 0,.int .i64 n_1] 1 = .int .i64 n_1:=rfl
 generalize zj [.ptr pb0 0,.int .i64 n_1]=fr0 at zf0 zf1 ⊢
 simp only [x60,qh,qf,qg,qa,qyd,zf1,qv,qb,qn0,qy,B0,reduceIte,reduceEqDiff]
 refine qw (t:=(decide (n_1≤1))) (fun hc1=>?_) (fun hc1=>?_)
 ·rw [iteT hc1] at hF
  simp only [qh,qf,qg,qa,q8,B0,reduceIte,reduceEqDiff]
  have he:=qj hF
  subst he
  simp only [zc,B0,reduceIte,reduceEqDiff]
  exact ⟨by first | trivial | rfl,hS⟩
 rw [iteF hc1] at hF
 obtain ⟨v2,hx3,hF4⟩:=qm hF
 simp only [ze,q0i,qh,qf,zf0,qg,zb,B0,reduceIte,reduceEqDiff]
 refine kv rfl (qi6 hW pb0 c_0 v2 hx3 hS) ?_
 rintro _ h5 ⟨rfl,hS6⟩
 simp only [qg,qa,q4w,qh,qf,zf1,qv,qb,qet,qzy,qy,B0,reduceIte,reduceEqDiff]
 refine qw (t:=(decide ((200:Int)<n_1))) (fun hc7=>?_) (fun hc7=>?_)
 ·rw [iteT hc7] at hF4
  obtain ⟨v8,hx9,hF10⟩:=qm hF4
  simp only [q09,qf,qg,qv,qb,q6i,zf0,zb,B0,reduceIte,reduceEqDiff]
  refine kv rfl (qi6 hW pb0 v2.2 v8 hx9 hS6) ?_
  rintro _ h11 ⟨rfl,hS12⟩
  obtain ⟨hp13,hF14⟩:=qny hF10
  simp only [qv,qb,qaq,qg,qa,qoa,qh,qf,zf1,qnt (n:=n_1) hp13,q8,B0,reduceIte,reduceEqDiff]
  have he:=qj hF14
  subst he
  simp only [zc,B0,reduceIte,reduceEqDiff]
  exact ⟨by first | trivial | rfl,hS12⟩
 rw [iteF hc7] at hF4
 obtain ⟨hp15,hF16⟩:=qny hF4
 simp only [ze,qoa,qh,qf,qg,zf1,qv,qb,qnt (n:=n_1) hp15,qa,q8,B0,reduceIte,reduceEqDiff]
 have he:=qj hF16
 subst he
 simp only [zc,B0,reduceIte,reduceEqDiff]
 exact ⟨by first | trivial | rfl,hS6⟩
theorem qbd {W:Nat→Bool}{h:Heap}{lo:Nat→Prop}{S0:List Obj} (hW:∀ b,
  lo b→W b=true) (pb0:Nat) (c_0:L1Cur) (n_1:Int) (r:Bool × L1Cur) (hF:xy c_0 n_1=some r) (hS:Sep h lo ([Blk1 pb0 [lst cU8 c_0.code,.int .i64 c_0.at_,
  .int .u64 c_0.seed] 79]++(S0))) : Ret E W 74 [.ptr pb0 0,.int .i64 n_1] h (fun v h'=>v = .bool r.1∧Sep h' lo ([Blk1 pb0 [lst cU8 r.2.code,.int .i64 r.2.at_,
  .int .u64 r.2.seed] 79]++(S0))):=by
 refine Ret.of (fn:=x74) rfl (Run.of ?_)
 unfold xy at hF
 have zf0:zj [.ptr pb0 0,.int .i64 n_1] 0 = .ptr pb0 0:=rfl
 have zf1:zj [.ptr pb0 0,.int .i64 n_1] 1 = .int .i64 n_1:=rfl
 generalize zj [.ptr pb0 0,.int .i64 n_1]=fr0 at zf0 zf1 ⊢
 obtain ⟨v1,hx2,hF3⟩:=qm hF
 simp only [x74,qh,qf,qg,qa,q24,zf0,zf1,zb,B0,reduceIte,reduceEqDiff]
 refine kv rfl (kx hW pb0 c_0 n_1 v1 hx2 hS) ?_
 rintro _ h4 ⟨rfl,hS5⟩
 simp only [qv,qb,z4,qg,qa,q8,B0,reduceIte,reduceEqDiff]
 have he:=qj hF3
 subst he
 simp only [zc,B0,reduceIte,reduceEqDiff]
 exact ⟨by first | trivial | rfl,hS5⟩
theorem qls {W:Nat→Bool}{h:Heap}{lo:Nat→Prop}{S0:List Obj} (hW:∀ b,
  lo b→W b=true) (pb0:Nat) (c_0:L1Cur) (pv1:XV) (pc1:List Obj) (list_1:List Int) (ph1:SlF cI 1 3 pv1 list_1 pc1) (r:Int × L1Cur × (List Int))
  (hF:qd7 c_0 list_1=some r) (hS:Sep h lo ([Blk1 pb0 [lst cU8 c_0.code,.int .i64 c_0.at_,.int .u64 c_0.seed] 79]++(pc1++(S0)))) : Ret E W 81 [.ptr pb0 0,
  pv1] h (fun v h'=>∃ ic1,v = .int .i64 r.1∧SlF cI 1 3 pv1 r.2.2 ic1∧Sep h' lo ([Blk1 pb0 [lst cU8 r.2.1.code,.int .i64 r.2.1.at_,
  .int .u64 r.2.1.seed] 79]++(ic1++(S0)))):=by
 refine Ret.of (fn:=x81) rfl (Run.of ?_)
 unfold qd7 at hF
 have zf0:zj [.ptr pb0 0,pv1] 0 = .ptr pb0 0:=rfl
 have zf1:zj [.ptr pb0 0,pv1] 1=pv1:=rfl
 generalize zj [.ptr pb0 0,pv1]=fr0 at zf0 zf1 ⊢
 obtain ⟨v1,hx2,hF3⟩:=qm hF
 simp only [x81,qh,qf,qg,qa,q0b,zf1,zf0,zr,qb,SlF.plen ph1,zb,B0,reduceIte,reduceEqDiff]
 refine kv rfl (kx hW pb0 c_0 (List.length list_1:Int) v1 hx2 hS) ?_
 rintro _ h4 ⟨rfl,hS5⟩
 obtain ⟨x6,hx7,hF8⟩:=qm hF3
 simp only [jb,B0,reduceIte,reduceEqDiff]
 obtain ⟨b9,hb10⟩:=SlF.isrow ph1 (k8 hx7)
 refine qi (SlF.ia ph1 hb10 hx7) ?_
 simp only [ql,B0,reduceIte,reduceEqDiff]
 refine qi (v := .int .i64 x6) ((SlF.ld (o:=0) ph1 (Sep.m1 hS5) hb10 hx7 (fun _=>rfl) (nle rfl)).trans rfl) ?_
 simp only [qg,qa,q8,B0,reduceIte,reduceEqDiff]
 have he:=qj hF8
 subst he
 simp only [zc,B0,reduceIte,reduceEqDiff]
 exact ⟨pc1,by first | trivial | rfl,ph1,(Sep.m1 (Sep.m1 hS5))⟩
end Go.Proofs.Ytjloihcijdcpeaa.X
namespace Go.Proofs.Ytjloihcijdcpeaa.X
open Go
open Nat (reduceEqDiff)
theorem qiz {W:Nat→Bool}{h:Heap}{lo:Nat→Prop}{S0:List Obj} (hW:∀ b,
  lo b→W b=true) (k:Nat) (pb0:Nat) (v_0:L1Cur) (v_1:Control) (pv1_0:XV) (pc1_0:List Obj) (ph1_0:SlF qe 3 86 pv1_0 v_1.Brokers pc1_0) (pv1_1:XV)
  (pc1_1:List Obj) (ph1_1:SlN Partition.R 5 39 pv1_1 v_1.Parts pc1_1) (r:Command × L1Cur × Control) (hF:qbb k v_0 v_1=some r) (hS:Sep h lo
  ([Blk1 pb0 [lst cU8 v_0.code,.int .i64 v_0.at_,.int .u64 v_0.seed] 79]++(pc1_0++(pc1_1++(S0))))) : Ret E W 53 [.ptr pb0 0,.agg [pv1_0,pv1_1,
  .int .i64 v_1.Next]] h (fun v h'=>∃ rv0_5 rc0_5 ic1_0 ic1_1,v = .agg [.int .i64 r.1.Kind,.int .i64 r.1.Broker,.int .i64 r.1.Epoch,.int .i64 r.1.Part,
  .int .i64 r.1.Stamp,rv0_5]∧SlF cI 1 3 rv0_5 r.1.InStep rc0_5∧SlF qe 3 86 pv1_0 r.2.2.Brokers ic1_0∧SlN Partition.R 5 39 pv1_1 r.2.2.Parts ic1_1∧Sep h' lo
  (rc0_5++([Blk1 pb0 [lst cU8 r.2.1.code,.int .i64 r.2.1.at_,.int .u64 r.2.1.seed] 79]++(ic1_0++(ic1_1++(S0)))))):=by
 refine Ret.of (fn:=x53) rfl (Run.of ?_)
 unfold qbb at hF
 have zf0:zj [.ptr pb0 0,.agg [pv1_0,pv1_1,.int .i64 v_1.Next]] 0 = .ptr pb0 0:=rfl
 have zf1:zj [.ptr pb0 0,.agg [pv1_0,pv1_1,.int .i64 v_1.Next]] 1 = .agg [pv1_0,pv1_1,.int .i64 v_1.Next]:=rfl
 generalize zj [.ptr pb0 0,.agg [pv1_0,pv1_1,.int .i64 v_1.Next]]=fr0 at zf0 zf1 ⊢
 simp only [x53,qh,qf,ju,zf1,B0,reduceIte,reduceEqDiff]
 refine je (cs:=[pv1_0,pv1_1,.int .i64 v_1.Next]) hS rfl rfl (qs (SlF.one ph1_0) (qs (SlN.one ph1_1) (qs rfl zt))) (fun b1 h2 hS3=>?_)
 simp only [jg,B0,reduceIte,reduceEqDiff]
 refine z1 hS3 (fun b5 h6 hS7=>?_)
 simp only [qa,B0,reduceIte,reduceEqDiff]
 refine zw (Sep.m1 hS7) hW (by simp only [B0,reduceIte,reduceEqDiff]) (fun h9 hS10=>?_)
 simp only [zv,qpb,qh,qf,qo,qb,Nat.reduceAdd,Nat.zero_add,Nat.add_zero,qq,ql,B0,reduceIte,reduceEqDiff]
 refine qi (v:=pv1_0) rfl ?_
 simp only [zr,qb,SlF.plen ph1_0,qg,qa,qsi,qh,qf,zf0,j6,evp,B0,reduceIte,reduceEqDiff]
 refine jv (n:=1) (f:=cI) [1,1,2,2,3,3,4,5,5,5,6] hS10 rfl rfl (fun v11 c12 h13 hv14 hS15=>?_)
 obtain ⟨v17,hx18,hF19⟩:=qm hF
 simp only [zb,B0,reduceIte,reduceEqDiff]
 refine kv rfl (qls hW pb0 v_0 v11 c12 [1,1,2,2,3,3,4,5,5,5,6] hv14 v17 hx18 (Sep.m2 hS15)) ?_
 rintro _ h22 ⟨c20,rfl,hv21,hS23⟩
 simp only [run_build,evp,B0,reduceIte,reduceEqDiff]
 refine qi (v := .agg [.int .i64 v17.1,.int .i64 0,.int .i64 0,.int .i64 0,.int .i64 0,.nil]) rfl ?_
 simp only [jg,B0,reduceIte,reduceEqDiff]
 refine z1 hS23 (fun b24 h25 hS26=>?_)
 simp only [zl,B0,reduceIte,reduceEqDiff]
 refine zf (us:=[.int .i64 v17.1,.int .i64 0,.int .i64 0,.int .i64 0,.int .i64 0,.nil]) rfl (cs':=[.int .i64 v17.1,.int .i64 0,.int .i64 0,.int .i64 0,
   .int .i64 0,.nil]) hS26 hW rfl rfl (nle rfl) rfl (fun h28 hS29=>?_)
 simp only [qa,qps,qh,qf,qo,qb,Nat.reduceAdd,Nat.zero_add,Nat.add_zero,q9,ql,B0,reduceIte,reduceEqDiff]
 refine qi (v := .int .i64 v17.1) ((z5 (Sep.bk _ _ _ hS29)).trans rfl) ?_
 simp only [qa,qqx,wh,qrn,qh,qf,qv,qb,z4,qg,qsa,qy,B0,reduceIte,reduceEqDiff]
 obtain ⟨oc39,hX40,hk41⟩:=jd hF19
 refine xq (t:=(decide (v17.1=1))) (fun fr' h'=>∃ s,oc39 = .nxt s∧∃ v33 c34 c37,
   fr' 0 = .ptr pb0 0∧fr' 4 = .ptr b5 0∧fr' 6 = .ptr b24 0∧SlF cI 1 3 v33 s.2.1.InStep c34∧SlN Partition.R 5 39 pv1_1 s.2.2 c37∧Sep h' lo
   ([Blk1 pb0 [lst cU8 s.1.code,.int .i64 s.1.at_,.int .u64 s.1.seed] 79]++([Blk1 b5 [.int .i64 0,.int .i64 0,.int .i64 0,.int .i64 0,.int .i64 0,
   .nil] 44]++([Blk1 b24 [.int .i64 s.2.1.Kind,.int .i64 s.2.1.Broker,.int .i64 s.2.1.Epoch,.int .i64 s.2.1.Part,.int .i64 s.2.1.Stamp,
   v33] 44]++(pc1_0++(c37++(c34++(S0)))))))) (fun Q42 hN43 hR44 hE45=>⟨fun hc46=>?_,fun hc46=>?_⟩) ?_
 ·rw [iteT hc46] at hX40
  obtain ⟨v47,hx48,hF49⟩:=qm hX40
  simp only [q4p,qf,zf0,qg,zb,B0,reduceIte,reduceEqDiff]
  refine kv rfl (kx hW pb0 v17.2.1 (List.length v_1.Brokers:Int) v47 hx48 (Sep.m1 hS29)) ?_
  rintro _ h50 ⟨rfl,hS51⟩
  simp only [qo,qb,Nat.reduceAdd,Nat.zero_add,Nat.add_zero,q9,zl,B0,reduceIte,reduceEqDiff]
  refine zf (us:=[.int .i64 v47.1]) rfl (cs':=[.int .i64 v17.1,.int .i64 v47.1,.int .i64 0,.int .i64 0,.int .i64 0,
    .nil]) (Sep.m1 hS51) hW rfl rfl (nle rfl) rfl (fun h52 hS53=>?_)
  simp only [qa,qk,B0,reduceIte,reduceEqDiff]
  have e54:=qj hF49
  exact hN43 _ _ ⟨_,e54.symm,.nil,[],pc1_1,zf0,rfl,rfl,SlF.nil,ph1_1,
    ((Sep.m4 (Sep.m4 (Sep.m2 (Sep.m4 (Sep.m4 (Sep.dc (Sep.m2 hS53))))))) : Sep _ lo ([Blk1 pb0 [lst cU8 v47.2.code,.int .i64 v47.2.at_,
    .int .u64 v47.2.seed] 79]++([Blk1 b5 [.int .i64 0,.int .i64 0,.int .i64 0,.int .i64 0,.int .i64 0,.nil] 44]++([Blk1 b24 [.int .i64 v17.1,.int .i64 v47.1,
    .int .i64 0,.int .i64 0,.int .i64 0,.nil] 44]++(pc1_0++(pc1_1++(S0)))))))⟩
 ·rw [iteF hc46] at hX40
  simp only [qvh,qh,qf,qv,qb,z4,qg,qa,qpu,qy,B0,reduceIte,reduceEqDiff]
  refine qw (t:=(decide (v17.1=2))) (fun hc55=>?_) (fun hc55=>?_)
  ·rw [iteT hc55] at hX40
   obtain ⟨v56,hx57,hF58⟩:=qm hX40
   simp only [q4r,qh,qf,zf0,qg,zb,B0,reduceIte,reduceEqDiff]
   refine kv rfl (kx hW pb0 v17.2.1 (List.length v_1.Brokers:Int) v56 hx57 (Sep.m1 hS29)) ?_
   rintro _ h59 ⟨rfl,hS60⟩
   simp only [qo,qb,Nat.reduceAdd,Nat.zero_add,Nat.add_zero,q9,zl,B0,reduceIte,reduceEqDiff]
   refine zf (us:=[.int .i64 v56.1]) rfl (cs':=[.int .i64 v17.1,.int .i64 v56.1,.int .i64 0,.int .i64 0,.int .i64 0,
     .nil]) (Sep.m1 hS60) hW rfl rfl (nle rfl) rfl (fun h61 hS62=>?_)
   simp only [qa,q0t,qh,qf,qo,qb,Nat.reduceAdd,Nat.zero_add,Nat.add_zero,qq,ql,B0,reduceIte,reduceEqDiff]
   refine qi (v:=pv1_0) rfl ?_
   simp only [qo,qb,Nat.reduceAdd,Nat.zero_add,Nat.add_zero,q9,ql,B0,reduceIte,reduceEqDiff]
   refine qi (v := .int .i64 v56.1) ((z5 (Sep.bk _ _ _ hS62)).trans rfl) ?_
   obtain ⟨x63,hx64,hF65⟩:=qm hF58
   simp only [jb,B0,reduceIte,reduceEqDiff]
   obtain ⟨b66,hb67⟩:=SlF.isrow ph1_0 (k8 hx64)
   refine qi (SlF.ia ph1_0 hb67 hx64) ?_
   simp only [qo,qb,Nat.reduceAdd,Nat.zero_add,Nat.add_zero,q9,ql,B0,reduceIte,reduceEqDiff]
   refine qi (v := .int .i64 x63.Epoch) ((SlF.ld (o:=0) ph1_0 (Sep.m4 hS62) hb67 hx64 (fun _=>rfl) (nle rfl)).trans rfl) ?_
   simp only [qo,qb,Nat.reduceAdd,Nat.zero_add,Nat.add_zero,q9,zl,B0,reduceIte,reduceEqDiff]
   refine zf (us:=[.int .i64 x63.Epoch]) rfl (cs':=[.int .i64 v17.1,.int .i64 v56.1,.int .i64 x63.Epoch,.int .i64 0,.int .i64 0,
     .nil]) hS62 hW rfl rfl (nle rfl) rfl (fun h68 hS69=>?_)
   obtain ⟨v70,hx71,hF72⟩:=qm hF65
   simp only [qa,qzz,qh,qf,zf0,qg,zb,B0,reduceIte,reduceEqDiff]
   refine kv rfl (qbd hW pb0 v56.2 6 v70 hx71 (Sep.m1 hS69)) ?_
   rintro _ h73 ⟨rfl,hS74⟩
   simp only [qa,q16,qy,B0,reduceIte,reduceEqDiff]
   refine qw (t:=v70.1) (fun hc75=>?_) (fun hc75=>?_)
   ·rw [iteT hc75] at hF72
    simp only [q01,qf,qo,qb,Nat.reduceAdd,Nat.zero_add,Nat.add_zero,q9,ql,B0,reduceIte,reduceEqDiff]
    refine qi (v := .int .i64 x63.Epoch) ((z5 (Sep.bk _ _ _ (Sep.m1 hS74))).trans rfl) ?_
    simp only [qv,qb,qaq,qo,Nat.reduceAdd,Nat.zero_add,Nat.add_zero,q9,zl,B0,reduceIte,reduceEqDiff]
    refine zf (us:=[.int .i64 (IntKind.wrap .i64 (x63.Epoch+1))]) rfl (cs':=[.int .i64 v17.1,.int .i64 v56.1,.int .i64 (IntKind.wrap .i64 (x63.Epoch+1)),
      .int .i64 0,.int .i64 0,.nil]) (Sep.m1 hS74) hW rfl rfl (nle rfl) rfl (fun h76 hS77=>?_)
    simp only [qa,qk,B0,reduceIte,reduceEqDiff]
    have e78:=qj hF72
    exact hN43 _ _ ⟨_,e78.symm,.nil,[],pc1_1,zf0,rfl,rfl,SlF.nil,ph1_1,
      ((Sep.m4 (Sep.m4 (Sep.m2 (Sep.m4 (Sep.m4 (Sep.dc (Sep.m2 hS77))))))) : Sep _ lo ([Blk1 pb0 [lst cU8 v70.2.code,.int .i64 v70.2.at_,
      .int .u64 v70.2.seed] 79]++([Blk1 b5 [.int .i64 0,.int .i64 0,.int .i64 0,.int .i64 0,.int .i64 0,.nil] 44]++([Blk1 b24 [.int .i64 v17.1,.int .i64 v56.1,
      .int .i64 (IntKind.wrap .i64 (x63.Epoch+1)),.int .i64 0,.int .i64 0,.nil] 44]++(pc1_0++(pc1_1++(S0)))))))⟩
   rw [iteF hc75] at hF72
   simp only [ze,qk,B0,reduceIte,reduceEqDiff]
   have e79:=qj hF72
   exact hN43 _ _ ⟨_,e79.symm,.nil,[],pc1_1,zf0,rfl,rfl,SlF.nil,ph1_1,
     ((Sep.m4 (Sep.m4 (Sep.m3 (Sep.m4 (Sep.m4 (Sep.dc (Sep.m2 hS74))))))) : Sep _ lo ([Blk1 pb0 [lst cU8 v70.2.code,.int .i64 v70.2.at_,
     .int .u64 v70.2.seed] 79]++([Blk1 b5 [.int .i64 0,.int .i64 0,.int .i64 0,.int .i64 0,.int .i64 0,.nil] 44]++([Blk1 b24 [.int .i64 v17.1,.int .i64 v56.1,
     .int .i64 x63.Epoch,.int .i64 0,.int .i64 0,.nil] 44]++(pc1_0++(pc1_1++(S0)))))))⟩
  rw [iteF hc55] at hX40
  simp only [qpz,qh,qf,qv,qb,z4,qg,qa,qvc,qy,B0,reduceIte,reduceEqDiff]
  refine qw (t:=(decide (v17.1=4))) (fun hc80=>?_) (fun hc80=>?_)
  ·rw [iteT hc80] at hX40
   simp only [qqp,qh,qf,qg,qa,B0,reduceIte,reduceEqDiff]
   obtain ⟨oc97,hX99,hk100⟩:=jd hX40
   simp only [qqw]
   refine qkt (σ:=Int × L1Cur × Command) (fun s145=>yu v_1 s145.1 s145.2.1 s145.2.2) (fun s fr' h'=>∃ v92 c93,
     fr' 0 = .ptr pb0 0∧fr' 4 = .ptr b5 0∧fr' 5 = .int .i64
     (List.length v_1.Brokers:Int)∧fr' 6 = .ptr b24 0∧fr' 7 = .int .i64 s.1∧SlF cI 1 3 v92 s.2.2.InStep c93∧Sep h' lo ([Blk1 pb0 [lst cU8 s.2.1.code,
     .int .i64 s.2.1.at_,.int .u64 s.2.1.seed] 79]++([Blk1 b5 [.int .i64 0,.int .i64 0,.int .i64 0,.int .i64 0,.int .i64 0,
     .nil] 44]++([Blk1 b24 [.int .i64 s.2.2.Kind,.int .i64 s.2.2.Broker,.int .i64 s.2.2.Epoch,.int .i64 s.2.2.Part,.int .i64 s.2.2.Stamp,
     v92] 44]++(pc1_0++(pc1_1++(c93++(S0)))))))) hX99 ⟨.nil,[],zf0,rfl,rfl,rfl,rfl,SlF.nil,
     ((Sep.m4 (Sep.m4 (Sep.m2 (Sep.m4 (Sep.m4 (Sep.dc (Sep.m2 hS29))))))) : Sep _ lo ([Blk1 pb0 [lst cU8 v17.2.1.code,.int .i64 v17.2.1.at_,
     .int .u64 v17.2.1.seed] 79]++([Blk1 b5 [.int .i64 0,.int .i64 0,.int .i64 0,.int .i64 0,.int .i64 0,.nil] 44]++([Blk1 b24 [.int .i64 v17.1,.int .i64 0,
     .int .i64 0,.int .i64 0,.int .i64 0,.nil] 44]++(pc1_0++(pc1_1++(S0)))))))⟩ (fun _ _ _ h=>h) ?_ ?_
   ·rintro ⟨s88,s89,s90⟩ fr109 h110 ⟨v92,c93,f112,f113,f114,f115,f116,hv94,hS111⟩ oc98 hF101 hr102 Q103 hN104 hK105 hR106 hE107
    dsimp only at *
    unfold yu at hF101
    simp only [que,qh,qf,f116,qg,f114,qv,qb,qhg,qa,qy,B0,reduceIte,reduceEqDiff]
    refine qw (t:=(decide (s88<(List.length v_1.Brokers:Int)))) (fun hc118=>?_) (fun hc118=>?_)
    ·rw [iteT hc118] at hF101
     obtain ⟨v119,hx120,hF121⟩:=qm hF101
     simp only [ze,qr0,qh,wh,qzg,qf,f112,qg,zb,B0,reduceIte,reduceEqDiff]
     refine kv rfl (qbd hW pb0 s89 2 v119 hx120 hS111) ?_
     rintro _ h122 ⟨rfl,hS123⟩
     simp only [qa,q2y,qy,B0,reduceIte,reduceEqDiff]
     refine qw (t:=v119.1) (fun hc124=>?_) (fun hc124=>?_)
     ·rw [iteT hc124] at hF121
      simp only [q2r,qf,f115,qo,qb,Nat.reduceAdd,Nat.zero_add,Nat.add_zero,q9,ql,B0,reduceIte,reduceEqDiff]
      refine qi (v:=v92) ((z5 (Sep.bk _ _ _ (Sep.m2 hS123))).trans rfl) ?_
      simp only [f116,qg,j6,evp,B0,reduceIte,reduceEqDiff]
      refine jv (n:=1) (f:=cI) [s88] hS123 rfl rfl (fun v125 c126 h127 hv128 hS129=>?_)
      simp only [xj,B0,reduceIte,reduceEqDiff]
      obtain ⟨l131,hx132,hF133⟩:=qm hF121
      refine y8 (f:=cI) hv94 (Sep.m6 hS129) hW (fun _=>rfl) (fun _=>rfl) (SlF.first hv128 hS129 (fun _=>rfl)) hx132 (fun v134 c135 h136 hv137 hS138=>?_)
      simp only [f115,qo,qb,Nat.reduceAdd,Nat.zero_add,Nat.add_zero,q9,zl,B0,reduceIte,reduceEqDiff]
      refine zf (us:=[v134]) (kd (SlF.one hv137)) (cs':=[.int .i64 s90.Kind,.int .i64 s90.Broker,.int .i64 s90.Epoch,.int .i64 s90.Part,
        .int .i64 s90.Stamp,v134]) (Sep.m4 hS138) hW rfl (qs (SlF.one hv137) zt) (nle rfl) rfl (fun h140 hS141=>?_)
      simp only [qa,xd,qf,f116,qg,qv,qb,qaq,qk,B0,reduceIte,reduceEqDiff]
      have e142:=qj hF133
      exact hN104 _ _ _ e142.symm ⟨v134,c135,f112,f113,f114,f115,rfl,hv137,(Sep.m5 (Sep.m5 (Sep.m3 (Sep.m5 (Sep.m5 (Sep.m1 (Sep.dc (Sep.m2 hS141))))))))⟩
     rw [iteF hc124] at hF121
     simp only [ze,xd,qf,f116,qg,qv,qb,qaq,qa,qk,B0,reduceIte,reduceEqDiff]
     have e143:=qj hF121
     exact hN104 _ _ _ e143.symm ⟨v92,c93,f112,f113,f114,f115,rfl,hv94,(Sep.m5 (Sep.m5 (Sep.m5 (Sep.m5 (Sep.m5 (Sep.m5 hS123))))))⟩
    rw [iteF hc118] at hF101
    simp only [qhp,qgf,qhc,B0,reduceIte,reduceEqDiff]
    have e144:=qj hF101
    exact hK105 _ _ _ e144.symm ⟨v92,c93,f112,f113,f114,f115,f116,hv94,(Sep.m5 (Sep.m5 (Sep.m5 (Sep.m5 (Sep.m5 (Sep.m5 hS111))))))⟩
   rintro ⟨s146,s147,s148⟩ fr153 h154 rfl ⟨v150,c151,f156,f157,f158,f159,f160,hv152,hS155⟩
   dsimp only [jnO] at hk100
   dsimp only at *
   unfold qch at hk100
   simp only [qk,B0,reduceIte,reduceEqDiff]
   have e161:=qj hk100
   exact hN43 _ _ ⟨_,e161.symm,v150,c151,pc1_1,f156,f157,f159,hv152,ph1_1,(Sep.m5 (Sep.m5 (Sep.m5 (Sep.m5 (Sep.m5 (Sep.m5 hS155))))))⟩
  rw [iteF hc80] at hX40
  simp only [qr5,qh,qf,qv,qb,z4,qg,qa,qsv,qy,B0,reduceIte,reduceEqDiff]
  obtain ⟨s163,hX165,hk166⟩:=qm hX40
  refine xq (t:=(decide (v17.1=5))) (fun fr' h'=>fr' 0 = .ptr pb0 0∧fr' 3 = .ref [pv1_0,pv1_1,
    .int .i64 v_1.Next] 0∧fr' 4 = .ptr b5 0∧fr' 5 = .int .i64 (List.length v_1.Brokers:Int)∧fr' 6 = .ptr b24 0∧fr' 61 = .bool s163∧Sep h' lo
    ([Blk1 pb0 [lst cU8 v17.2.1.code,.int .i64 v17.2.1.at_,.int .u64 v17.2.1.seed] 79]++(pc1_0++(pc1_1++([Blk1 b5 [.int .i64 0,.int .i64 0,.int .i64 0,.int .i64 0,
    .int .i64 0,.nil] 44]++([Blk1 b24 [.int .i64 v17.1,.int .i64 0,.int .i64 0,.int .i64 0,.int .i64 0,
    .nil] 44]++(S0))))))) (fun Q167 hN168 hR169 hE170=>⟨fun hc171=>?_,fun hc171=>?_⟩) ?_
  ·rw [iteT hc171] at hX165
   simp only [ze,qk,B0,reduceIte,reduceEqDiff]
   have e172:=qj hX165
   subst e172
   exact hN168 _ _ ⟨zf0,rfl,rfl,rfl,rfl,rfl,(Sep.m4 (Sep.m4 (Sep.m4 (Sep.m2 (Sep.dc (Sep.m2 hS29))))))⟩
  ·rw [iteF hc171] at hX165
   simp only [qf,qv,qb,z4,qg,qa,qk,B0,reduceIte,reduceEqDiff]
   have e173:=qj hX165
   subst e173
   exact hN168 _ _ ⟨zf0,rfl,rfl,rfl,rfl,rfl,(Sep.m4 (Sep.m4 (Sep.m4 (Sep.m2 (Sep.dc (Sep.m2 hS29))))))⟩
  rintro fr174 h175 ⟨f177,f178,f179,f180,f181,f182,hS176⟩
  unfold um at hk166
  simp only [qsz,f182,qy,B0,reduceIte,reduceEqDiff]
  refine qw (t:=s163) (fun hc183=>?_) (fun hc183=>?_)
  ·rw [iteT hc183] at hk166
   simp only [qti,qh,qf,f178,qo,qb,Nat.reduceAdd,Nat.zero_add,Nat.add_zero,qq,ql,B0,reduceIte,reduceEqDiff]
   refine qi (v:=pv1_1) rfl ?_
   simp only [zr,qb,SlN.len ph1_1,qv,z4,qa,qr9,qy,B0,reduceIte,reduceEqDiff]
   refine qw (t:=(decide ((List.length v_1.Parts:Int)=0))) (fun hc184=>?_) (fun hc184=>?_)
   ·rw [iteT hc184] at hk166
    simp only [qh,qf,run_build,evp,B0,reduceIte,reduceEqDiff]
    refine qi (v := .agg [.int .i64 3,.int .i64 0,.int .i64 0,.int .i64 0,.int .i64 0,.nil]) rfl ?_
    simp only [f179,zl,B0,reduceIte,reduceEqDiff]
    refine zf (us:=[.int .i64 3,.int .i64 0,.int .i64 0,.int .i64 0,.int .i64 0,.nil]) rfl (cs':=[.int .i64 3,.int .i64 0,.int .i64 0,.int .i64 0,
      .int .i64 0,.nil]) (Sep.m3 hS176) hW rfl rfl (nle rfl) rfl (fun h185 hS186=>?_)
    simp only [qa,q8,B0,reduceIte,reduceEqDiff]
    have e187:=qj hk166
    subst e187
    have hk41':=hk41
    dsimp only [jnO] at hk41'
    apply hR44
    have he:=qj hk41'
    subst he
    refine wz (bb:=b5) (oo:=0) (v := .agg [.int .i64 3,.int .i64 0,.int .i64 0,.int .i64 0,.int .i64 0,.nil]) (by simp only [f179,B0,reduceIte,
      reduceEqDiff]) ((z3 (Sep.bk _ _ _ hS186)).trans rfl) ?_
    exact ⟨.nil,[],pc1_0,pc1_1,by first | trivial | rfl,SlF.nil,ph1_0,ph1_1,
      ((Sep.m2 (Sep.m2 (Sep.m2 (Sep.dc (Sep.m3 (Sep.dc (hS186))))))) : Sep _ lo ([Blk1 pb0 [lst cU8 v17.2.1.code,.int .i64 v17.2.1.at_,
      .int .u64 v17.2.1.seed] 79]++(pc1_0++(pc1_1++(S0)))))⟩
   rw [iteF hc184] at hk166
   simp only [ze,qtv,qh,jo,f177,qj1,qt,f178,qdo,Nat.reduceAdd,Nat.zero_add,Nat.add_zero,qq,qcc,qbq,B0,reduceIte,
     reduceEqDiff]
   refine zd (v:=pv1_1) rfl ?_
   obtain ⟨v188,hx189,hF190⟩:=qm hk166
   simp only [q62,qt,SlN.len ph1_1,f177,jl,qdd,B0,reduceIte,reduceEqDiff]
   refine q7i rfl (ms:=[pb0]) rfl q8x hW hS176 rfl (Nat.le_refl _) (fun b hb=>((Sep.dc hS176).ran b hb).2)
     (fun hWq hSq=>kx hWq pb0 v17.2.1 12 v188 hx189 hSq) ?_
   rintro _ h191 ⟨rfl,hS192⟩ hback
   replace hS192:=hback _ hS192
   obtain ⟨v193,hx194,hF195⟩:=qm hF190
   simp only [u3,qt,q5u (n:=11) (by decide),qaq,xz,B0,reduceIte,reduceEqDiff]
   refine qq7 rfl (kx hW pb0 v188.2 (IntKind.wrap .i64 ((List.length v_1.Parts:Int)+(IntKind.wrap .i64 (Int.tdiv v188.1 11)))) v193 hx194 hS192) ?_
   rintro _ h196 ⟨rfl,hS197⟩
   simp only [f181,z8,qt,Nat.reduceAdd,Nat.zero_add,Nat.add_zero,q9,qdj,B0,reduceIte,reduceEqDiff]
   refine qc1 (us:=[.int .i64 v193.1]) rfl (cs':=[.int .i64 v17.1,.int .i64 0,.int .i64 0,.int .i64 v193.1,.int .i64 0,
     .nil]) (Sep.m4 hS197) hW rfl rfl (nle rfl) rfl (fun h198 hS199=>?_)
   simp only [zm,qua,qh,qf,f181,qo,qb,Nat.reduceAdd,Nat.zero_add,Nat.add_zero,q9,ql,B0,reduceIte,reduceEqDiff]
   refine qi (v := .int .i64 v193.1) ((z5 (Sep.bk _ _ _ hS199)).trans rfl) ?_
   simp only [f178,qo,qb,Nat.reduceAdd,Nat.zero_add,Nat.add_zero,qq,ql,B0,reduceIte,reduceEqDiff]
   refine qi (v:=pv1_1) rfl ?_
   simp only [zr,qb,SlN.len ph1_1,qv,qby,qa,qsr,qy,B0,reduceIte,reduceEqDiff]
   refine qw (t:=(decide ((List.length v_1.Parts:Int)≤v193.1))) (fun hc200=>?_) (fun hc200=>?_)
   ·rw [iteT hc200] at hF195
    simp only [qum,qh,qf,f181,qo,qb,Nat.reduceAdd,Nat.zero_add,Nat.add_zero,q9,ql,B0,reduceIte,reduceEqDiff]
    refine qi (v := .int .i64 v193.1) ((z5 (Sep.bk _ _ _ hS199)).trans rfl) ?_
    simp only [run_build,evp,B0,reduceIte,reduceEqDiff]
    refine qi (v := .agg [.int .i64 6,.int .i64 0,.int .i64 0,.int .i64 v193.1,.int .i64 0,.nil]) rfl ?_
    simp only [f179,zl,B0,reduceIte,reduceEqDiff]
    refine zf (us:=[.int .i64 6,.int .i64 0,.int .i64 0,.int .i64 v193.1,.int .i64 0,.nil]) rfl (cs':=[.int .i64 6,.int .i64 0,.int .i64 0,.int .i64 v193.1,
      .int .i64 0,.nil]) (Sep.m4 hS199) hW rfl rfl (nle rfl) rfl (fun h201 hS202=>?_)
    simp only [qa,q8,B0,reduceIte,reduceEqDiff]
    have e203:=qj hF195
    subst e203
    have hk41':=hk41
    dsimp only [jnO] at hk41'
    apply hR44
    have he:=qj hk41'
    subst he
    refine wz (bb:=b5) (oo:=0) (v := .agg [.int .i64 6,.int .i64 0,.int .i64 0,.int .i64 v193.1,.int .i64 0,.nil]) (by simp only [f179,B0,reduceIte,
      reduceEqDiff]) ((z3 (Sep.bk _ _ _ hS202)).trans rfl) ?_
    exact ⟨.nil,[],pc1_0,pc1_1,by first | trivial | rfl,SlF.nil,ph1_0,ph1_1,
      ((Sep.m2 (Sep.m2 (Sep.m2 (Sep.dc ((Sep.dc (hS202))))))) : Sep _ lo ([Blk1 pb0 [lst cU8 v193.2.code,.int .i64 v193.2.at_,
      .int .u64 v193.2.seed] 79]++(pc1_0++(pc1_1++(S0)))))⟩
   rw [iteF hc200] at hF195
   simp only [ze,qv0,qh,qf,f178,qo,qb,Nat.reduceAdd,Nat.zero_add,Nat.add_zero,qq,ql,B0,reduceIte,reduceEqDiff]
   refine qi (v:=pv1_1) rfl ?_
   simp only [f181,qo,qb,Nat.reduceAdd,Nat.zero_add,Nat.add_zero,q9,ql,B0,reduceIte,reduceEqDiff]
   refine qi (v := .int .i64 v193.1) ((z5 (Sep.bk _ _ _ hS199)).trans rfl) ?_
   obtain ⟨x204,hx205,hF206⟩:=qm hF195
   simp only [jb,B0,reduceIte,reduceEqDiff]
   obtain ⟨b207,hb208⟩:=SlN.isrow ph1_1 (k8 hx205)
   refine qi (SlN.ia ph1_1 hb208 hx205) ?_
   obtain ⟨c209,cs210,os211,hv212,hR213,hS214⟩:=SlG.opn (SlN.toG ph1_1 hb208 Partition.RO.len) hx205 jr Partition.RO.len (Sep.m3 hS199)
   obtain ⟨v216,c217,v220,c221,hv218,hv222,rfl,rfl⟩:=hR213
   have hS215:=Sep.no2 hS214
   simp only [ql,B0,reduceIte,reduceEqDiff]
   refine qi (v := .agg [v216,v220,.int .i64 x204.Leader,.int .i64 x204.Epoch,.int .i64 x204.Stamp]) ((SlG.lds (o:=0) hv212 rfl hx205 hS215 (nle rfl)).trans rfl) ?_
   simp only [jg,B0,reduceIte,reduceEqDiff]
   refine z1 hS215 (fun b224 h225 hS226=>?_)
   simp only [zl,B0,reduceIte,reduceEqDiff]
   refine zf (us:=[v216,v220,.int .i64 x204.Leader,.int .i64 x204.Epoch,.int .i64 x204.Stamp]) rfl (cs':=[v216,v220,.int .i64 x204.Leader,
     .int .i64 x204.Epoch,.int .i64 x204.Stamp]) hS226 hW rfl (qs (SlF.one hv218) (qs (SlF.one hv222) (qs rfl (qs rfl (qs rfl zt))))) (nle rfl) rfl
     (fun h228 hS229=>?_)
   simp only [qa,B0,reduceIte,reduceEqDiff]
   refine zw hS229 hW (by simp only [B0,reduceIte,reduceEqDiff]) (fun h230 hS231=>?_)
   obtain ⟨v232,hx233,hF234⟩:=qm hF206
   simp only [zv,qqs,qh,qf,f177,qg,f180,zb,B0,reduceIte,reduceEqDiff]
   refine kv rfl (kx hW pb0 v193.2 (List.length v_1.Brokers:Int) v232 hx233 (Sep.m4 hS231)) ?_
   rintro _ h235 ⟨rfl,hS236⟩
   simp only [f181,qo,qb,Nat.reduceAdd,Nat.zero_add,Nat.add_zero,q9,zl,B0,reduceIte,reduceEqDiff]
   refine zf (us:=[.int .i64 v232.1]) rfl (cs':=[.int .i64 v17.1,.int .i64 v232.1,.int .i64 0,.int .i64 v193.1,.int .i64 0,
     .nil]) (Sep.m4 hS236) hW rfl rfl (nle rfl) rfl (fun h237 hS238=>?_)
   simp only [qa,qur,qh,qf,f181,qo,qb,Nat.reduceAdd,Nat.zero_add,Nat.add_zero,q9,ql,B0,reduceIte,reduceEqDiff]
   refine qi (v := .int .i64 v17.1) ((z5 (Sep.bk _ _ _ hS238)).trans rfl) ?_
   simp only [qv,qb,z4,qa,qu7,qy,B0,reduceIte,reduceEqDiff]
   refine qw (t:=(decide (v17.1=6))) (fun hc239=>?_) (fun hc239=>?_)
   ·rw [iteT hc239] at hF234
    simp only [qh,qf,f181,ql,B0,reduceIte,reduceEqDiff]
    refine qi (v := .agg [.int .i64 v17.1,.int .i64 v232.1,.int .i64 0,.int .i64 v193.1,.int .i64 0,.nil]) ((z3 (Sep.bk _ _ _ hS238)).trans rfl) ?_
    simp only [f179,zl,B0,reduceIte,reduceEqDiff]
    refine zf (us:=[.int .i64 v17.1,.int .i64 v232.1,.int .i64 0,.int .i64 v193.1,.int .i64 0,.nil]) rfl (cs':=[.int .i64 v17.1,.int .i64 v232.1,.int .i64 0,
      .int .i64 v193.1,.int .i64 0,.nil]) (Sep.m6 hS238) hW rfl rfl (nle rfl) rfl (fun h240 hS241=>?_)
    simp only [qa,q8,B0,reduceIte,reduceEqDiff]
    have e242:=qj hF234
    subst e242
    have hk41':=hk41
    dsimp only [jnO] at hk41'
    apply hR44
    obtain ⟨c243,hv244,hS245⟩:=SlG.cls0 (c:=c209) (os:=c217++(c221)) hv212 rfl hx205 jr (Partition.RI (x:=x204) hv218 hv222) (Sep.ni2 (c1:=c217)
      (c2:=c221) (Sep.m5 (Sep.m5 (Sep.m5 hS241))))
    have hv246:=SlG.toN hv244
    have he:=qj hk41'
    subst he
    refine wz (bb:=b5) (oo:=0) (v := .agg [.int .i64 v17.1,.int .i64 v232.1,.int .i64 0,.int .i64 v193.1,.int .i64 0,.nil]) (by simp only [f179,B0,
      reduceIte,reduceEqDiff]) ((z3 (Sep.bk _ _ _ (Sep.m1 hS245))).trans rfl) ?_
    exact ⟨.nil,[],pc1_0,c243,by first | trivial | rfl,SlF.nil,ph1_0,hv246,
      ((Sep.m2 (Sep.m2 (Sep.dc (Sep.m1 (Sep.dc (Sep.m1 hS245)))))) : Sep _ lo ([Blk1 pb0 [lst cU8 v232.2.code,.int .i64 v232.2.at_,
      .int .u64 v232.2.seed] 79]++(pc1_0++(c243++(S0)))))⟩
   rw [iteF hc239] at hF234
   simp only [ze,qo6,qh,qf,qo,qb,Nat.reduceAdd,Nat.zero_add,Nat.add_zero,qq,ql,B0,reduceIte,reduceEqDiff]
   refine qi (v := .int .i64 x204.Leader) rfl ?_
   simp only [qv,qb,qby,qg,B0,reduceIte,reduceEqDiff]
   obtain ⟨sv252,hX250,hk251⟩:=qm hF234
   refine zu 4 (fun fr' h'=>fr' 0 = .ptr pb0 0∧fr' 4 = .ptr b5 0∧fr' 6 = .ptr b24 0∧fr' 8 = .ref [v216,v220,.int .i64 x204.Leader,.int .i64 x204.Epoch,
     .int .i64 x204.Stamp] 0∧fr' 109 = .bool sv252.1∧Sep h' lo ([Blk1 pb0 [lst cU8 sv252.2.code,.int .i64 sv252.2.at_,
     .int .u64 sv252.2.seed] 79]++([Blk1 b5 [.int .i64 0,.int .i64 0,.int .i64 0,.int .i64 0,.int .i64 0,.nil] 44]++([Blk1 b24 [.int .i64 v17.1,.int .i64 v232.1,
     .int .i64 0,.int .i64 v193.1,.int .i64 0,.nil] 44]++(c217++(c221++(pc1_0++(c209++(S0))))))))) (fun Q253 hN254=>?_) ?_
   ·simp only [List.take_succ_cons,List.take_zero]
    simp only [qc (g:=105),B0,reduceIte,reduceEqDiff]
    refine qx (t:=(decide ((0:Int)≤x204.Leader))) (fun hg257=>?_) (fun hg257=>?_)
    ·rw [iteT hg257] at hX250
     obtain ⟨v258,hx259,hF260⟩:=qm hX250
     simp only [hg257,qc (g:=105),qz,f177,qg,zb,B0,reduceIte,reduceEqDiff]
     refine kv rfl (qbd hW pb0 v232.2 6 v258 hx259 (Sep.m1 hS238)) ?_
     rintro _ h261 ⟨rfl,hS262⟩
     simp only [hg257,qc (g:=105),qz,ja,qb,jq,qr,zh,qa,qk,B0,reduceIte,reduceEqDiff]
     have e263:=qj hF260
     subst e263
     exact hN254 _ _ ⟨f177,f179,f181,rfl,rfl,(Sep.m6 (Sep.m6 (Sep.m5 (Sep.m5 (Sep.m5 (Sep.m5 (Sep.m2 hS262)))))))⟩
    ·rw [iteF hg257] at hX250
     simp only [hg257,qc (g:=105),zy,qr,qb,zi,qa,qk,B0,reduceIte,reduceEqDiff]
     have e264:=qj hX250
     subst e264
     exact hN254 _ _ ⟨f177,f179,f181,rfl,rfl,(Sep.m6 (Sep.m6 (Sep.m4 (Sep.m5 (Sep.m5 (Sep.m5 (Sep.m2 hS238)))))))⟩
   rintro fr265 h266 ⟨f268,f269,f270,f271,f272,hS267⟩
   obtain ⟨s247,s248⟩:=sv252
   dsimp only at *
   unfold qbe at hk251
   simp only [List.drop_succ_cons,List.drop_zero]
   simp only [qa,qq1,f272,qy,B0,reduceIte,reduceEqDiff]
   obtain ⟨s273,hX275,hk276⟩:=qm hk251
   refine xq (t:=s247) (fun fr' h'=>fr' 0 = .ptr pb0 0∧fr' 4 = .ptr b5 0∧fr' 6 = .ptr b24 0∧fr' 8 = .ref [v216,v220,.int .i64 x204.Leader,.int .i64 x204.Epoch,
     .int .i64 x204.Stamp] 0∧Sep h' lo ([Blk1 pb0 [lst cU8 s248.code,.int .i64 s248.at_,.int .u64 s248.seed] 79]++([Blk1 b5 [.int .i64 0,.int .i64 0,.int .i64 0,
     .int .i64 0,.int .i64 0,.nil] 44]++([Blk1 b24 [.int .i64 s273.Kind,.int .i64 s273.Broker,.int .i64 s273.Epoch,.int .i64 s273.Part,.int .i64 s273.Stamp,
     .nil] 44]++(c217++(c221++(pc1_0++(c209++(S0))))))))) (fun Q277 hN278 hR279 hE280=>⟨fun hc281=>?_,fun hc281=>?_⟩) ?_
   ·rw [iteT hc281] at hX275
    simp only [qvq,qf,f271,qo,qb,Nat.reduceAdd,Nat.zero_add,Nat.add_zero,qq,ql,B0,reduceIte,reduceEqDiff]
    refine qi (v := .int .i64 x204.Leader) rfl ?_
    simp only [f270,qo,qb,Nat.reduceAdd,Nat.zero_add,Nat.add_zero,q9,zl,B0,reduceIte,reduceEqDiff]
    refine zf (us:=[.int .i64 x204.Leader]) rfl (cs':=[.int .i64 v17.1,.int .i64 x204.Leader,.int .i64 0,.int .i64 v193.1,.int .i64 0,
      .nil]) (Sep.m2 hS267) hW rfl rfl (nle rfl) rfl (fun h282 hS283=>?_)
    simp only [qa,qk,B0,reduceIte,reduceEqDiff]
    have e284:=qj hX275
    subst e284
    exact hN278 _ _ ⟨f268,f269,f270,f271,(Sep.m6 (Sep.m6 (Sep.m4 (Sep.m6 (Sep.m6 (Sep.m6 (Sep.m6 hS283)))))))⟩
   ·rw [iteF hc281] at hX275
    simp only [ze,qk,B0,reduceIte,reduceEqDiff]
    have e285:=qj hX275
    subst e285
    exact hN278 _ _ ⟨f268,f269,f270,f271,(Sep.m6 (Sep.m6 (Sep.m6 (Sep.m6 (Sep.m6 (Sep.m6 (Sep.m6 hS267)))))))⟩
   rintro fr286 h287 ⟨f289,f290,f291,f292,hS288⟩
   unfold qa5 at hk276
   simp only [qt3,qh,qf,f292,qo,qb,Nat.reduceAdd,Nat.zero_add,Nat.add_zero,qq,ql,B0,reduceIte,reduceEqDiff]
   refine qi (v := .int .i64 x204.Epoch) rfl ?_
   simp only [f291,qo,qb,Nat.reduceAdd,Nat.zero_add,Nat.add_zero,q9,zl,B0,reduceIte,reduceEqDiff]
   refine zf (us:=[.int .i64 x204.Epoch]) rfl (cs':=[.int .i64 s273.Kind,.int .i64 s273.Broker,.int .i64 x204.Epoch,.int .i64 s273.Part,.int .i64 s273.Stamp,
     .nil]) (Sep.m2 hS288) hW rfl rfl (nle rfl) rfl (fun h293 hS294=>?_)
   simp only [qa,qsk,qh,qf,f292,qo,qb,Nat.reduceAdd,Nat.zero_add,Nat.add_zero,qq,ql,B0,reduceIte,reduceEqDiff]
   refine qi (v := .int .i64 x204.Stamp) rfl ?_
   simp only [f291,qo,qb,Nat.reduceAdd,Nat.zero_add,Nat.add_zero,q9,zl,B0,reduceIte,reduceEqDiff]
   refine zf (us:=[.int .i64 x204.Stamp]) rfl (cs':=[.int .i64 s273.Kind,.int .i64 s273.Broker,.int .i64 x204.Epoch,.int .i64 s273.Part,.int .i64 x204.Stamp,
     .nil]) hS294 hW rfl rfl (nle rfl) rfl (fun h295 hS296=>?_)
   obtain ⟨v297,hx298,hF299⟩:=qm hk276
   simp only [qa,qvx,qh,qf,f289,qg,zb,B0,reduceIte,reduceEqDiff]
   refine kv rfl (qbd hW pb0 s248 8 v297 hx298 (Sep.m1 hS296)) ?_
   rintro _ h300 ⟨rfl,hS301⟩
   simp only [qa,qtr,qy,B0,reduceIte,reduceEqDiff]
   obtain ⟨s302,hX304,hk305⟩:=qm hF299
   refine xq (t:=v297.1) (fun fr' h'=>fr' 0 = .ptr pb0 0∧fr' 4 = .ptr b5 0∧fr' 6 = .ptr b24 0∧fr' 8 = .ref [v216,v220,.int .i64 x204.Leader,
     .int .i64 x204.Epoch,.int .i64 x204.Stamp] 0∧Sep h' lo ([Blk1 pb0 [lst cU8 v297.2.code,.int .i64 v297.2.at_,.int .u64 v297.2.seed] 79]++([Blk1 b5 [.int .i64 0,
     .int .i64 0,.int .i64 0,.int .i64 0,.int .i64 0,.nil] 44]++([Blk1 b24 [.int .i64 s302.Kind,.int .i64 s302.Broker,.int .i64 s302.Epoch,.int .i64 s302.Part,
     .int .i64 s302.Stamp,.nil] 44]++(c217++(c221++(pc1_0++(c209++(S0))))))))) (fun Q306 hN307 hR308 hE309=>⟨fun hc310=>?_,fun hc310=>?_⟩) ?_
   ·rw [iteT hc310] at hX304
    simp only [qtz,qf,f291,qo,qb,Nat.reduceAdd,Nat.zero_add,Nat.add_zero,q9,ql,B0,reduceIte,reduceEqDiff]
    refine qi (v := .int .i64 x204.Epoch) ((z5 (Sep.bk _ _ _ (Sep.m1 hS301))).trans rfl) ?_
    simp only [qv,qb,qaq,f291,qo,Nat.reduceAdd,Nat.zero_add,Nat.add_zero,q9,zl,B0,reduceIte,reduceEqDiff]
    refine zf (us:=[.int .i64 (IntKind.wrap .i64 (x204.Epoch+1))]) rfl (cs':=[.int .i64 s273.Kind,.int .i64 s273.Broker,
      .int .i64 (IntKind.wrap .i64 (x204.Epoch+1)),.int .i64 s273.Part,.int .i64 x204.Stamp,.nil]) (Sep.m1 hS301) hW rfl rfl (nle rfl) rfl (fun h311 hS312=>?_)
    simp only [qa,qk,B0,reduceIte,reduceEqDiff]
    have e313:=qj hX304
    subst e313
    exact hN307 _ _ ⟨f289,f290,f291,f292,(Sep.m6 (Sep.m6 (Sep.m4 (Sep.m6 (Sep.m6 (Sep.m6 (Sep.m6 hS312)))))))⟩
   ·rw [iteF hc310] at hX304
    simp only [ze,qk,B0,reduceIte,reduceEqDiff]
    have e314:=qj hX304
    subst e314
    exact hN307 _ _ ⟨f289,f290,f291,f292,(Sep.m6 (Sep.m6 (Sep.m5 (Sep.m6 (Sep.m6 (Sep.m6 (Sep.m6 hS301)))))))⟩
   rintro fr315 h316 ⟨f318,f319,f320,f321,hS317⟩
   unfold qa8 at hk305
   obtain ⟨v322,hx323,hF324⟩:=qm hk305
   simp only [qp2,qh,qf,f318,qg,zb,B0,reduceIte,reduceEqDiff]
   refine kv rfl (qbd hW pb0 v297.2 8 v322 hx323 hS317) ?_
   rintro _ h325 ⟨rfl,hS326⟩
   simp only [qa,qp1,qy,B0,reduceIte,reduceEqDiff]
   obtain ⟨s327,hX329,hk330⟩:=qm hF324
   refine xq (t:=v322.1) (fun fr' h'=>fr' 0 = .ptr pb0 0∧fr' 4 = .ptr b5 0∧fr' 6 = .ptr b24 0∧fr' 8 = .ref [v216,v220,.int .i64 x204.Leader,
     .int .i64 x204.Epoch,.int .i64 x204.Stamp] 0∧Sep h' lo ([Blk1 pb0 [lst cU8 v322.2.code,.int .i64 v322.2.at_,.int .u64 v322.2.seed] 79]++([Blk1 b5 [.int .i64 0,
     .int .i64 0,.int .i64 0,.int .i64 0,.int .i64 0,.nil] 44]++([Blk1 b24 [.int .i64 s327.Kind,.int .i64 s327.Broker,.int .i64 s327.Epoch,.int .i64 s327.Part,
     .int .i64 s327.Stamp,.nil] 44]++(c217++(c221++(pc1_0++(c209++(S0))))))))) (fun Q331 hN332 hR333 hE334=>⟨fun hc335=>?_,fun hc335=>?_⟩) ?_
   ·rw [iteT hc335] at hX329
    simp only [qso,qf,f320,qo,qb,Nat.reduceAdd,Nat.zero_add,Nat.add_zero,q9,ql,B0,reduceIte,reduceEqDiff]
    refine qi (v := .int .i64 s302.Stamp) ((z5 (Sep.bk _ _ _ (Sep.m2 hS326))).trans rfl) ?_
    simp only [qv,qb,qaq,f320,qo,Nat.reduceAdd,Nat.zero_add,Nat.add_zero,q9,zl,B0,reduceIte,reduceEqDiff]
    refine zf (us:=[.int .i64 (IntKind.wrap .i64 (s302.Stamp+1))]) rfl (cs':=[.int .i64 s302.Kind,.int .i64 s302.Broker,.int .i64 s302.Epoch,
      .int .i64 s302.Part,.int .i64 (IntKind.wrap .i64 (s302.Stamp+1)),.nil]) (Sep.m2 hS326) hW rfl rfl (nle rfl) rfl (fun h336 hS337=>?_)
    simp only [qa,qk,B0,reduceIte,reduceEqDiff]
    have e338:=qj hX329
    subst e338
    exact hN332 _ _ ⟨f318,f319,f320,f321,(Sep.m6 (Sep.m6 (Sep.m4 (Sep.m6 (Sep.m6 (Sep.m6 (Sep.m6 hS337)))))))⟩
   ·rw [iteF hc335] at hX329
    simp only [ze,qk,B0,reduceIte,reduceEqDiff]
    have e339:=qj hX329
    subst e339
    exact hN332 _ _ ⟨f318,f319,f320,f321,(Sep.m6 (Sep.m6 (Sep.m6 (Sep.m6 (Sep.m6 (Sep.m6 (Sep.m6 hS326)))))))⟩
   rintro fr340 h341 ⟨f343,f344,f345,f346,hS342⟩
   unfold ul at hk330
   simp only [qp5,qh,qf,f346,qo,qb,Nat.reduceAdd,Nat.zero_add,Nat.add_zero,qq,ql,B0,reduceIte,reduceEqDiff]
   refine qi (v:=v216) rfl ?_
   simp only [zr,qb,SlF.plen hv218,qg,qa,B0,reduceIte,reduceEqDiff]
   obtain ⟨oc361,hX363,hk364⟩:=jd hk330
   simp only [qql]
   refine wc (σ:=L1Cur × Command) (fun i359 s440=>uj x204 i359 s440.1 s440.2) (fun s fr' h'=>∃ v356 c357,
     fr' 0 = .ptr pb0 0∧fr' 4 = .ptr b5 0∧fr' 6 = .ptr b24 0∧fr' 8 = .ref [v216,v220,.int .i64 x204.Leader,.int .i64 x204.Epoch,
     .int .i64 x204.Stamp] 0∧fr' 132=v216∧SlF cI 1 3 v356 s.2.InStep c357∧Sep h' lo ([Blk1 pb0 [lst cU8 s.1.code,.int .i64 s.1.at_,
     .int .u64 s.1.seed] 79]++([Blk1 b5 [.int .i64 0,.int .i64 0,.int .i64 0,.int .i64 0,.int .i64 0,.nil] 44]++([Blk1 b24 [.int .i64 s.2.Kind,.int .i64 s.2.Broker,
     .int .i64 s.2.Epoch,.int .i64 s.2.Part,.int .i64 s.2.Stamp,v356] 44]++(c217++(c221++(pc1_0++(c209++(c357++(S0)))))))))) hX363 ⟨.nil,[],f343,f344,f345,
     f346,rfl,SlF.nil,((Sep.m6 (Sep.m6 (Sep.m6 (Sep.m6 (Sep.m6 (Sep.m6 (Sep.m6 hS342))))))) : Sep _ lo ([Blk1 pb0 [lst cU8 v322.2.code,.int .i64 v322.2.at_,
     .int .u64 v322.2.seed] 79]++([Blk1 b5 [.int .i64 0,.int .i64 0,.int .i64 0,.int .i64 0,.int .i64 0,.nil] 44]++([Blk1 b24 [.int .i64 s327.Kind,
     .int .i64 s327.Broker,.int .i64 s327.Epoch,.int .i64 s327.Part,.int .i64 s327.Stamp,
     .nil] 44]++(c217++(c221++(pc1_0++(c209++(S0)))))))))⟩ (by simp only [B0,reduceIte,reduceEqDiff]) (by simp only [B0,reduceIte,
     reduceEqDiff]) (fun _ _ _ h=>h) rfl rfl (fun _ _ _ _ h=>h) (fun _ _ _ _ h=>h) (fun _ _ _ _ h=>h) (by decide) ?_ ?_
   ·rintro i359 ⟨s353,s354⟩ fr373 h374 hx381 ⟨v356,c357,f376,f377,f378,f379,f380,hv358,hS375⟩ f382 f383 oc362 hF365 hr366 Q367 hN368 hB372 hK369 hR370 hE371
    dsimp only at *
    unfold uj at hF365
    obtain ⟨x384,hx385,hF386⟩:=qm hF365
    simp only [qsd,qh,qf,f380,f382,jb,B0,reduceIte,reduceEqDiff]
    obtain ⟨b387,hb388⟩:=SlF.isrow hv218 (k8 hx385)
    refine qi (SlF.ia hv218 hb388 hx385) ?_
    simp only [ql,B0,reduceIte,reduceEqDiff]
    refine qi (v := .int .i64 x384) ((SlF.ld (o:=0) hv218 (Sep.m3 hS375) hb388 hx385 (fun _=>rfl) (nle rfl)).trans rfl) ?_
    simp only [qg,qa,qqh,qh,qf,f379,qo,qb,Nat.reduceAdd,Nat.zero_add,Nat.add_zero,qq,ql,B0,reduceIte,reduceEqDiff]
    refine qi (v := .int .i64 x204.Leader) rfl ?_
    simp only [qv,qb,z4,qg,B0,reduceIte,reduceEqDiff]
    obtain ⟨sv394,hX392,hk393⟩:=qm hF386
    refine zu 3 (fun fr' h'=>fr' 0 = .ptr pb0 0∧fr' 4 = .ptr b5 0∧fr' 6 = .ptr b24 0∧fr' 8 = .ref [v216,v220,.int .i64 x204.Leader,.int .i64 x204.Epoch,
      .int .i64 x204.Stamp] 0∧fr' 10 = .int .i64 x384∧fr' 132=v216∧fr' 133 = .int .i64 (List.length x204.Homes:Int)∧fr' 134 = .int .i64
      (i359:Int)∧fr' 145 = .bool sv394.1∧Sep h' lo ([Blk1 pb0 [lst cU8 sv394.2.code,.int .i64 sv394.2.at_,.int .u64 sv394.2.seed] 79]++([Blk1 b5 [.int .i64 0,
      .int .i64 0,.int .i64 0,.int .i64 0,.int .i64 0,.nil] 44]++([Blk1 b24 [.int .i64 s354.Kind,.int .i64 s354.Broker,.int .i64 s354.Epoch,.int .i64 s354.Part,
      .int .i64 s354.Stamp,v356] 44]++(c217++(c221++(pc1_0++(c209++(c357++(S0)))))))))) (fun Q395 hN396=>?_) ?_
    ·simp only [List.take_succ_cons,List.take_zero]
     simp only [qc (g:=142),B0,reduceIte,reduceEqDiff]
     refine qx (t:=(decide (x384=x204.Leader))) (fun hg399=>?_) (fun hg399=>?_)
     ·rw [iteT hg399] at hX392
      simp only [hg399,qc (g:=142),zq,qr,qb,zh,qa,qk,B0,reduceIte,reduceEqDiff]
      have e400:=qj hX392
      subst e400
      exact hN396 _ _ ⟨f376,f377,f378,f379,rfl,f380,f383,f382,rfl,(Sep.m7 (Sep.m7 (Sep.m7 (Sep.m7 (Sep.m7 (Sep.m7 (Sep.m7 (Sep.m7 hS375))))))))⟩
     ·rw [iteF hg399] at hX392
      obtain ⟨v401,hx402,hF403⟩:=qm hX392
      simp only [hg399,qc (g:=142),qp,f376,qg,zb,B0,reduceIte,reduceEqDiff]
      refine kv rfl (qbd hW pb0 s353 2 v401 hx402 hS375) ?_
      rintro _ h404 ⟨rfl,hS405⟩
      simp only [hg399,qr,qb,zi,qa,qk,B0,reduceIte,reduceEqDiff]
      have e406:=qj hF403
      subst e406
      exact hN396 _ _ ⟨f376,f377,f378,f379,rfl,f380,f383,f382,rfl,(Sep.m7 (Sep.m7 (Sep.m7 (Sep.m7 (Sep.m7 (Sep.m7 (Sep.m7 (Sep.m7 hS405))))))))⟩
    rintro fr407 h408 ⟨f410,f411,f412,f413,f414,f415,f416,f417,f418,hS409⟩
    obtain ⟨s389,s390⟩:=sv394
    dsimp only at *
    unfold qay at hk393
    simp only [List.drop_succ_cons,List.drop_zero]
    simp only [qa,quy,f418,qy,B0,reduceIte,reduceEqDiff]
    refine qw (t:=s389) (fun hc419=>?_) (fun hc419=>?_)
    ·rw [iteT hc419] at hk393
     simp only [qq9,qf,f412,qo,qb,Nat.reduceAdd,Nat.zero_add,Nat.add_zero,q9,ql,B0,reduceIte,reduceEqDiff]
     refine qi (v:=v356) ((z5 (Sep.bk _ _ _ (Sep.m2 hS409))).trans rfl) ?_
     simp only [f414,qg,j6,evp,B0,reduceIte,reduceEqDiff]
     refine jv (n:=1) (f:=cI) [x384] hS409 rfl rfl (fun v420 c421 h422 hv423 hS424=>?_)
     simp only [xj,B0,reduceIte,reduceEqDiff]
     obtain ⟨l426,hx427,hF428⟩:=qm hk393
     refine y8 (f:=cI) hv358 (Sep.m8 hS424) hW (fun _=>rfl) (fun _=>rfl) (SlF.first hv423 hS424 (fun _=>rfl)) hx427 (fun v429 c430 h431 hv432 hS433=>?_)
     simp only [f412,qo,qb,Nat.reduceAdd,Nat.zero_add,Nat.add_zero,q9,zl,B0,reduceIte,reduceEqDiff]
     refine zf (us:=[v429]) (kd (SlF.one hv432)) (cs':=[.int .i64 s354.Kind,.int .i64 s354.Broker,.int .i64 s354.Epoch,.int .i64 s354.Part,
       .int .i64 s354.Stamp,v429]) (Sep.m4 hS433) hW rfl (qs (SlF.one hv432) zt) (nle rfl) rfl (fun h435 hS436=>?_)
     simp only [qa,qk,B0,reduceIte,reduceEqDiff]
     have e437:=qj hF428
     exact hN368 _ _ _ e437.symm ⟨v429,c430,f410,f411,f412,f413,f415,hv432,
       (Sep.m7 (Sep.m7 (Sep.m5 (Sep.m7 (Sep.m7 (Sep.m7 (Sep.m7 (Sep.m1 (Sep.dc (Sep.m2 hS436))))))))))⟩ (f417) (f416)
    rw [iteF hc419] at hk393
    simp only [ze,qk,B0,reduceIte,reduceEqDiff]
    have e438:=qj hk393
    exact hN368 _ _ _ e438.symm ⟨v356,c357,f410,f411,f412,f413,f415,hv358,(Sep.m7 (Sep.m7 (Sep.m7 (Sep.m7 (Sep.m7 (Sep.m7 (Sep.m7 (Sep.m7 hS409))))))))⟩ (f417) (f416)
   rintro ⟨s441,s442⟩ fr447 h448 rfl ⟨v444,c445,f450,f451,f452,f453,f454,hv446,hS449⟩
   dsimp only [jnO] at hk364
   dsimp only at *
   unfold qfa at hk364
   simp only [qk,B0,reduceIte,reduceEqDiff]
   obtain ⟨c455,hv456,hS457⟩:=SlG.cls0 (c:=c209) (os:=c217++(c221)) hv212 rfl hx205 jr (Partition.RI (x:=x204) hv218 hv222) (Sep.ni2 (c1:=c217) (c2:=c221)
     (Sep.m6 (Sep.m4 (Sep.m4 hS449))))
   have hv458:=SlG.toN hv456
   have e459:=qj hk364
   exact hN43 _ _ ⟨_,e459.symm,v444,c445,c455,f450,f451,f452,hv446,hv458,(Sep.m5 (Sep.m5 (Sep.m5 (Sep.m5 (Sep.m1 (Sep.m5 hS457))))))⟩
  rw [iteF hc183] at hk166
  simp only [ze,qk,B0,reduceIte,reduceEqDiff]
  have e465:=qj hk166
  exact hN43 _ _ ⟨_,e465.symm,.nil,[],pc1_1,f177,f179,f181,SlF.nil,ph1_1,
    ((Sep.m4 (Sep.m4 (Sep.m4 (Sep.m2 (Sep.m2 hS176))))) : Sep _ lo ([Blk1 pb0 [lst cU8 v17.2.1.code,.int .i64 v17.2.1.at_,
    .int .u64 v17.2.1.seed] 79]++([Blk1 b5 [.int .i64 0,.int .i64 0,.int .i64 0,.int .i64 0,.int .i64 0,.nil] 44]++([Blk1 b24 [.int .i64 v17.1,.int .i64 0,
    .int .i64 0,.int .i64 0,.int .i64 0,.nil] 44]++(pc1_0++(pc1_1++(S0)))))))⟩
 rintro fr467 h468 ⟨⟨s30,s31,s36⟩,rfl,v33,c34,c37,f470,f471,f472,hv35,hv38,hS469⟩
 dsimp only [jnO] at hk41
 dsimp only at *
 unfold kz at hk41
 obtain ⟨v473,hx474,hF475⟩:=qm hk41
 simp only [xd,qte,qh,qf,f470,qg,zb,B0,reduceIte,reduceEqDiff]
 refine kv rfl (qbd hW pb0 s30 60 v473 hx474 hS469) ?_
 rintro _ h476 ⟨rfl,hS477⟩
 simp only [qa,qsw,qy,B0,reduceIte,reduceEqDiff]
 refine qw (t:=v473.1) (fun hc478=>?_) (fun hc478=>?_)
 ·rw [iteT hc478] at hF475
  obtain ⟨v479,hx480,hF481⟩:=qm hF475
  simp only [qtd,qf,f470,qg,zb,B0,reduceIte,reduceEqDiff]
  refine kv rfl (kx hW pb0 v473.2 8 v479 hx480 hS477) ?_
  rintro _ h482 ⟨rfl,hS483⟩
  obtain ⟨v484,hx485,hF486⟩:=qm hF481
  simp only [f470,qg,zb,B0,reduceIte,reduceEqDiff]
  refine kv rfl (kx hW pb0 v479.2 8 v484 hx485 hS483) ?_
  rintro _ h487 ⟨rfl,hS488⟩
  obtain ⟨v489,hx490,hF491⟩:=qm hF486
  simp only [qv,qb,qf7,f470,qg,zb,B0,reduceIte,reduceEqDiff]
  refine kv rfl (kx hW pb0 v484.2 3 v489 hx490 hS488) ?_
  rintro _ h492 ⟨rfl,hS493⟩
  obtain ⟨v494,hx495,hF496⟩:=qm hF491
  simp only [f470,qg,zb,B0,reduceIte,reduceEqDiff]
  refine kv rfl (kx hW pb0 v489.2 8 v494 hx495 hS493) ?_
  rintro _ h497 ⟨rfl,hS498⟩
  simp only [qv,qb,qf7,j6,evp,B0,reduceIte,reduceEqDiff]
  refine jv (n:=1) (f:=cI) [(IntKind.wrap .i64 (v494.1 - 1))] hS498 rfl rfl (fun v499 c500 h501 hv502 hS503=>?_)
  simp only [run_build,evp,B0,reduceIte,reduceEqDiff]
  refine qi (v := .agg [.int .i64 v479.1,.int .i64 (IntKind.wrap .i64 (v484.1 - 1)),.int .i64 0,.int .i64 v489.1,.int .i64 0,
    v499]) (qdf (u7 (us:=[.int .i64 v479.1]) (vs:=[.int .i64 v479.1,.int .i64 0,.int .i64 0,.int .i64 0,.int .i64 0,
    .nil]) rfl rfl (nle rfl) rfl rfl (u7 (us:=[.int .i64 (IntKind.wrap .i64 (v484.1 - 1))]) (vs:=[.int .i64 v479.1,.int .i64 (IntKind.wrap .i64 (v484.1 - 1)),
    .int .i64 0,.int .i64 0,.int .i64 0,.nil]) rfl rfl (nle rfl) rfl rfl (u7 (us:=[.int .i64 v489.1]) (vs:=[.int .i64 v479.1,
    .int .i64 (IntKind.wrap .i64 (v484.1 - 1)),.int .i64 0,.int .i64 v489.1,.int .i64 0,.nil]) rfl rfl (nle rfl) rfl rfl (u7 (us:=[v499]) (vs:=[.int .i64 v479.1,
    .int .i64 (IntKind.wrap .i64 (v484.1 - 1)),.int .i64 0,.int .i64 v489.1,.int .i64 0,
    v499]) (kd (SlF.one hv502)) rfl (nle rfl) (qs (SlF.one hv502) zt) rfl qe3))))) ?_
  simp only [f472,zl,B0,reduceIte,reduceEqDiff]
  refine zf (us:=[.int .i64 v479.1,.int .i64 (IntKind.wrap .i64 (v484.1 - 1)),.int .i64 0,.int .i64 v489.1,.int .i64 0,v499]) rfl (cs':=[.int .i64 v479.1,
    .int .i64 (IntKind.wrap .i64 (v484.1 - 1)),.int .i64 0,.int .i64 v489.1,.int .i64 0,
    v499]) (Sep.m3 hS503) hW rfl (qs rfl (qs rfl (qs rfl (qs rfl (qs rfl (qs (SlF.one hv502) zt)))))) (nle rfl) rfl (fun h505 hS506=>?_)
  simp only [qa,qh,qf,f472,ql,B0,reduceIte,reduceEqDiff]
  refine qi (v := .agg [.int .i64 v479.1,.int .i64 (IntKind.wrap .i64 (v484.1 - 1)),.int .i64 0,.int .i64 v489.1,.int .i64 0,
    v499]) ((z3 (Sep.bk _ _ _ hS506)).trans rfl) ?_
  simp only [f471,zl,B0,reduceIte,reduceEqDiff]
  refine zf (us:=[.int .i64 v479.1,.int .i64 (IntKind.wrap .i64 (v484.1 - 1)),.int .i64 0,.int .i64 v489.1,.int .i64 0,v499]) rfl (cs':=[.int .i64 v479.1,
    .int .i64 (IntKind.wrap .i64 (v484.1 - 1)),.int .i64 0,.int .i64 v489.1,.int .i64 0,
    v499]) (Sep.m3 hS506) hW rfl (qs rfl (qs rfl (qs rfl (qs rfl (qs rfl (qs (SlF.one hv502) zt)))))) (nle rfl) rfl (fun h507 hS508=>?_)
  simp only [qa,q8,B0,reduceIte,reduceEqDiff]
  have he:=qj hF496
  subst he
  refine wz (bb:=b5) (oo:=0) (v := .agg [.int .i64 v479.1,.int .i64 (IntKind.wrap .i64 (v484.1 - 1)),.int .i64 0,.int .i64 v489.1,.int .i64 0,
    v499]) (by simp only [f471,B0,reduceIte,reduceEqDiff]) ((z3 (Sep.bk _ _ _ hS508)).trans rfl) ?_
  exact ⟨v499,c500,pc1_0,c37,by first | trivial | rfl,hv502,ph1_0,hv38,(Sep.m3 (Sep.m3 (Sep.m3 (Sep.m3 (Sep.dc (Sep.m4 (Sep.dc ((Sep.dc (hS508))))))))))⟩
 rw [iteF hc478] at hF475
 simp only [ze,qh,qf,f472,ql,B0,reduceIte,reduceEqDiff]
 refine qi (v := .agg [.int .i64 s31.Kind,.int .i64 s31.Broker,.int .i64 s31.Epoch,.int .i64 s31.Part,.int .i64 s31.Stamp,
   v33]) ((z3 (Sep.bk _ _ _ (Sep.m2 hS477))).trans rfl) ?_
 simp only [f471,zl,B0,reduceIte,reduceEqDiff]
 refine zf (us:=[.int .i64 s31.Kind,.int .i64 s31.Broker,.int .i64 s31.Epoch,.int .i64 s31.Part,.int .i64 s31.Stamp,v33]) rfl (cs':=[.int .i64 s31.Kind,
   .int .i64 s31.Broker,.int .i64 s31.Epoch,.int .i64 s31.Part,.int .i64 s31.Stamp,
   v33]) (Sep.m1 hS477) hW rfl (qs rfl (qs rfl (qs rfl (qs rfl (qs rfl (qs (SlF.one hv35) zt)))))) (nle rfl) rfl (fun h509 hS510=>?_)
 simp only [qa,q8,B0,reduceIte,reduceEqDiff]
 have he:=qj hF475
 subst he
 refine wz (bb:=b5) (oo:=0) (v := .agg [.int .i64 s31.Kind,.int .i64 s31.Broker,.int .i64 s31.Epoch,.int .i64 s31.Part,.int .i64 s31.Stamp,
   v33]) (by simp only [f471,B0,reduceIte,reduceEqDiff]) ((z3 (Sep.bk _ _ _ hS510)).trans rfl) ?_
 exact ⟨v33,c34,pc1_0,c37,by first | trivial | rfl,hv35,ph1_0,hv38,(Sep.m3 (Sep.m2 (Sep.m2 (Sep.m2 (Sep.dc (Sep.m1 (Sep.dc (hS510))))))))⟩
end Go.Proofs.Ytjloihcijdcpeaa.X
