/- The functions' code comes to what the plain functions say (5). -/
import Derived.Test.YtjloihcijdcpeaaXBH4
set_option linter.unusedVariables false
set_option linter.unusedSimpArgs false
set_option maxRecDepth 100000
namespace Go.Proofs.Ytjloihcijdcpeaa.X
open Go
open Nat (reduceEqDiff)
theorem qkf {W:Nat→Bool}{h:Heap}{lo:Nat→Prop}{S0:List Obj} (hW:∀ b,
  lo b→W b=true) (c_0:Control) (pv0_0:XV) (pc0_0:List Obj) (ph0_0:SlF qi 3 86 pv0_0 c_0.Brokers pc0_0) (pv0_1:XV) (pc0_1:List Obj)
  (ph0_1:SlN Partition.R 5 39 pv0_1 c_0.Parts pc0_1) (pv1:XV) (pc1:List Obj) (old_1:List Int) (ph1:SlF cI 1 3 pv1 old_1 pc1) (r:Control × (List Int))
  (hF:qb3 c_0 old_1=some r) (hS:Sep h lo (pc0_0++(pc0_1++(pc1++(S0))))) : Ret E W 57 [.agg [pv0_0,pv0_1,.int .i64 c_0.Next],
  pv1] h (fun v h'=>∃ rc0_0 rc0_1 ic1,v = .agg [pv0_0,pv0_1,
  .int .i64 r.1.Next]∧SlF qi 3 86 pv0_0 r.1.Brokers rc0_0∧SlN Partition.R 5 39 pv0_1 r.1.Parts rc0_1∧SlF cI 1 3 pv1 r.2 ic1∧Sep h' lo (rc0_0++(rc0_1 ++
  (ic1++(S0))))):=by
 refine Ret.of (fn:=x57) rfl (Run.of ?_)
 unfold qb3 at hF
 have zf0:zc [.agg [pv0_0,pv0_1,.int .i64 c_0.Next],pv1] 0 = .agg [pv0_0,pv0_1,.int .i64 c_0.Next]:=rfl
 have zf1:zc [.agg [pv0_0,pv0_1,.int .i64 c_0.Next],pv1] 1=pv1:=rfl
 generalize zc [.agg [pv0_0,pv0_1,.int .i64 c_0.Next],pv1]=fr0 at zf0 zf1 ⊢
 simp only [x57,qd,qc,jm,zf0,B0,reduceIte,reduceEqDiff]
 refine z8 (cs:=[pv0_0,pv0_1,.int .i64 c_0.Next]) hS rfl rfl (qt (SlF.one ph0_0) (qt (SlN.one ph0_1) (qt rfl zr))) (fun b1 h2 hS3=>?_)
 simp only [jv,B0,reduceIte,reduceEqDiff]
 refine jc hS3 (fun b5 h6 hS7=>?_)
 simp only [qa,B0,reduceIte,reduceEqDiff]
 refine zu (Sep.m1 hS7) hW (by simp only [B0,reduceIte,reduceEqDiff]) (fun h9 hS10=>?_)
 simp only [zx,qtn,qd,qc,qo,qb,Nat.reduceAdd,Nat.zero_add,Nat.add_zero,qq,qm,B0,reduceIte,reduceEqDiff]
 refine qg (v:=pv0_1) rfl ?_
 simp only [zo,qb,SlN.len ph0_1,qe,qa,B0,reduceIte,reduceEqDiff]
 obtain ⟨oc19,hX21,hk22⟩:=jh hF
 simp only [qr6]
 refine qc6 (σ:=(List Partition)) (fun i17 s194=>ub c_0 old_1 i17 s194) (fun s fr' h'=>∃ c15,fr' 1=pv1∧fr' 2 = .ref [pv0_0,pv0_1,
   .int .i64 c_0.Next] 0∧fr' 4 = .ptr b5 0∧fr' 9=pv0_1∧SlN Partition.R 5 39 pv0_1 s c15∧Sep h' lo (pc1++(pc0_0++(c15++([Blk1 b5 [.nil,.nil,
   .int .i64 0] 29]++(S0)))))) hX21 ⟨pc0_1,zf1,rfl,rfl,rfl,ph0_1,(Sep.m3 (Sep.m2 (Sep.m2 hS10)))⟩ (by simp only [B0,reduceIte,reduceEqDiff]) (by simp only [B0,
   reduceIte,reduceEqDiff]) (fun _ _ _ h=>h) rfl rfl (fun _ _ _ _ h=>h) (fun _ _ _ _ h=>h) (fun _ _ _ _ h=>h) (by decide) ?_ ?_
 ·rintro i17 s14 fr31 h32 hx38 ⟨c15,f34,f35,f36,f37,hv16,hS33⟩ f39 f40 oc20 hF23 hr24 Q25 hN26 hB30 hK27 hR28 hE29
  unfold ub at hF23
  obtain ⟨x41,hx42,hF43⟩:=ql hF23
  simp only [qtl,qd,qc,f39,qe,f37,zw,B0,reduceIte,reduceEqDiff]
  obtain ⟨b44,hb45⟩:=SlN.isrow hv16 (k8 hx42)
  refine qg (SlN.ia hv16 hb45 hx42) ?_
  obtain ⟨c46,cs47,os48,hv49,hR50,hS51⟩:=SlG.opn (SlN.toG hv16 hb45 Partition.RO.len) hx42 js Partition.RO.len (Sep.m2 hS33)
  obtain ⟨v53,c54,v57,c58,hv55,hv59,rfl,rfl⟩:=hR50
  have hS52:=Sep.no2 hS51
  simp only [qm,B0,reduceIte,reduceEqDiff]
  refine qg (v := .agg [v53,v57,.int .i64 x41.Leader,.int .i64 x41.Epoch,.int .i64 x41.Stamp]) ((SlG.lds (o:=0) hv49 rfl hx42 hS52 (nle rfl)).trans rfl) ?_
  simp only [jv,B0,reduceIte,reduceEqDiff]
  refine jc hS52 (fun b61 h62 hS63=>?_)
  simp only [qe,zn,B0,reduceIte,reduceEqDiff]
  refine zi (us:=[v53,v57,.int .i64 x41.Leader,.int .i64 x41.Epoch,.int .i64 x41.Stamp]) rfl (cs':=[v53,v57,.int .i64 x41.Leader,.int .i64 x41.Epoch,
    .int .i64 x41.Stamp]) hS63 hW rfl (qt (SlF.one hv55) (qt (SlF.one hv59) (qt rfl (qt rfl (qt rfl zr))))) (nle rfl) rfl (fun h65 hS66=>?_)
  simp only [qa,qqu,qd,qc,qe,qsx,f34,zo,qb,SlF.plen ph1,qp,yl,q33,qx,B0,reduceIte,reduceEqDiff]
  obtain ⟨s67,hX69,hk70⟩:=ql hF43
  refine qev (t:=(decide ((i17:Int)<(List.length old_1:Int)))) (fun fr' h'=>fr' 1=pv1∧fr' 2 = .ref [pv0_0,pv0_1,
    .int .i64 c_0.Next] 0∧fr' 4 = .ptr b5 0∧fr' 5 = .int .i64 (i17:Int)∧fr' 6 = .ptr b61 0∧fr' 7 = .int .i64 s67∧fr' 9=pv0_1∧fr' 10 = .int .i64
    (List.length c_0.Parts:Int)∧fr' 11 = .int .i64 (i17:Int)∧Sep h' lo (pc1++(pc0_0++(c46++([Blk1 b5 [.nil,.nil,.int .i64 0] 29]++([Blk1 b61 [v53,v57,
    .int .i64 x41.Leader,.int .i64 x41.Epoch,.int .i64 x41.Stamp] 39]++(c54++(c58++(S0))))))))) (fun Q71 hN72 hR73 hE74=>⟨fun hc75=>?_,fun hc75=>?_⟩) ?_
  ·rw [iteT hc75] at hX69
   obtain ⟨x76,hx77,hF78⟩:=ql hX69
   simp only [qwb,qc,f34,qe,zw,B0,reduceIte,reduceEqDiff]
   obtain ⟨b79,hb80⟩:=SlF.isrow ph1 (k8 hx77)
   refine qg (SlF.ia ph1 hb80 hx77) ?_
   simp only [qm,B0,reduceIte,reduceEqDiff]
   refine qg (v := .int .i64 x76) ((SlF.ld (o:=0) ph1 (Sep.m4 hS66) hb80 hx77 (fun _=>rfl) (nle rfl)).trans rfl) ?_
   simp only [qe,qa,qn,B0,reduceIte,reduceEqDiff]
   have e81:=qh hF78
   subst e81
   exact hN72 _ _ ⟨f34,f35,f36,rfl,rfl,rfl,f37,f40,f39,(Sep.m6 (Sep.m6 (Sep.m4 (Sep.m6 (Sep.m2 (Sep.m3 (Sep.m3 hS66)))))))⟩
  ·rw [iteF hc75] at hX69
   simp only [q8,qn,B0,reduceIte,reduceEqDiff]
   have e82:=qh hX69
   subst e82
   exact hN72 _ _ ⟨f34,f35,f36,rfl,rfl,rfl,f37,f40,f39,(Sep.m6 (Sep.m6 (Sep.m4 (Sep.m6 (Sep.m2 (Sep.m3 (Sep.m3 hS66)))))))⟩
  rintro fr83 h84 ⟨f86,f87,f88,f89,f90,f91,f92,f93,f94,hS85⟩
  unfold qde at hk70
  simp only [qso,qd,qc,f90,qo,qb,Nat.reduceAdd,Nat.zero_add,Nat.add_zero,za,qm,B0,reduceIte,reduceEqDiff]
  refine qg (v := .int .i64 x41.Leader) ((ji (Sep.bk _ _ _ (Sep.m4 hS85))).trans rfl) ?_
  simp only [qp,qb,yl,qe,B0,reduceIte,reduceEqDiff]
  obtain ⟨v98,hx99,hF100⟩:=ql hk70
  refine zy 8 (fun fr' h'=>Sep h' lo (pc1++(pc0_0++(c46++([Blk1 b5 [.nil,.nil,.int .i64 0] 29]++([Blk1 b61 [v53,v57,.int .i64 x41.Leader,.int .i64 x41.Epoch,
    .int .i64 x41.Stamp] 39]++(c54++(c58++(S0))))))))∧fr' 35 = .bool v98∧fr' 1=pv1∧fr' 2 = .ref [pv0_0,pv0_1,
    .int .i64 c_0.Next] 0∧fr' 4 = .ptr b5 0∧fr' 5 = .int .i64 (i17:Int)∧fr' 6 = .ptr b61 0∧fr' 7 = .int .i64 s67∧fr' 9=pv0_1∧fr' 10 = .int .i64
    (List.length c_0.Parts:Int)∧fr' 11 = .int .i64 (i17:Int)) (fun Q95 hN96=>?_) ?_
  ·simp only [List.take_succ_cons,List.take_zero]
   simp only [qf (g:=27),B0,reduceIte,reduceEqDiff]
   refine zd (t:=(decide (x41.Leader<0))) (fun hg97=>?_) (fun hg97=>?_)
   ·rw [iteT hg97] at hx99
    simp only [hg97,qf (g:=27),z4,qu,qb,zk,qa,qn,B0,reduceIte,reduceEqDiff]
    have e101:=qh hx99
    exact hN96 _ _ ⟨(Sep.m6 (Sep.m6 (Sep.m6 (Sep.m6 (Sep.m6 (Sep.m6 (Sep.m6 hS85))))))),by rw [←e101]; simp only [B0,reduceIte,reduceEqDiff],f86,f87,f88,f89,f90,f91,
      f92,f93,f94⟩
   ·rw [iteF hg97] at hx99
    simp only [hg97,qf (g:=27),qz,f87,qo,qb,Nat.reduceAdd,Nat.zero_add,Nat.add_zero,qq,qm,B0,reduceIte,reduceEqDiff]
    refine qg (v:=pv0_0) rfl ?_
    simp only [hg97,qf (g:=27),qz,f90,qo,qb,Nat.reduceAdd,Nat.zero_add,Nat.add_zero,za,qm,B0,reduceIte,reduceEqDiff]
    refine qg (v := .int .i64 x41.Leader) ((ji (Sep.bk _ _ _ (Sep.m4 hS85))).trans rfl) ?_
    obtain ⟨x102,hx103,hF104⟩:=ql hx99
    simp only [hg97,qf (g:=27),qz,zw,B0,reduceIte,reduceEqDiff]
    obtain ⟨b105,hb106⟩:=SlF.isrow ph0_0 (k8 hx103)
    refine qg (SlF.ia ph0_0 hb106 hx103) ?_
    simp only [hg97,qf (g:=27),qz,qo,qb,Nat.reduceAdd,Nat.zero_add,Nat.add_zero,za,qm,B0,reduceIte,reduceEqDiff]
    refine qg (v := .bool x102.Fenced) ((SlF.ld (o:=2) ph0_0 (Sep.m1 hS85) hb106 hx103 (fun _=>rfl) (nle rfl)).trans rfl) ?_
    simp only [hg97,qu,qb,zj,qa,qn,B0,reduceIte,reduceEqDiff]
    have e107:=qh hF104
    exact hN96 _ _ ⟨(Sep.m6 (Sep.m6 (Sep.m6 (Sep.m6 (Sep.m6 (Sep.m6 (Sep.m6 hS85))))))),by rw [←e107]; simp only [B0,reduceIte,reduceEqDiff],f86,f87,f88,f89,f90,f91,
      f92,f93,f94⟩
  rintro fr108 h119 ⟨hS120,f109,f110,f111,f112,f113,f114,f115,f116,f117,f118⟩
  simp only [List.drop_succ_cons,List.drop_zero]
  simp only [qa,qvl,f109,qx,B0,reduceIte,reduceEqDiff]
  obtain ⟨s121,hX123,hk124⟩:=ql hF100
  refine qev (t:=v98) (fun fr' h'=>fr' 1=pv1∧fr' 2 = .ref [pv0_0,pv0_1,
    .int .i64 c_0.Next] 0∧fr' 4 = .ptr b5 0∧fr' 5 = .int .i64 (i17:Int)∧fr' 6 = .ptr b61 0∧fr' 7 = .int .i64 s67∧fr' 9=pv0_1∧fr' 10 = .int .i64
    (List.length c_0.Parts:Int)∧fr' 11 = .int .i64 (i17:Int)∧Sep h' lo (pc1++(pc0_0++(c46++([Blk1 b5 [.nil,.nil,.int .i64 0] 29]++([Blk1 b61 [v53,v57,
    .int .i64 s121.Leader,.int .i64 s121.Epoch,.int .i64 s121.Stamp] 39]++(c54++(c58++(S0))))))))) (fun Q125 hN126 hR127 hE128=>⟨fun hc129=>?_,fun hc129=>?_⟩) ?_
  ·rw [iteT hc129] at hX123
   simp only [q3e,qc,f111,qm,B0,reduceIte,reduceEqDiff]
   refine qg (v := .agg [pv0_0,pv0_1,.int .i64 c_0.Next]) rfl ?_
   simp only [f114,qo,qb,Nat.reduceAdd,Nat.zero_add,Nat.add_zero,za,qm,B0,reduceIte,reduceEqDiff]
   refine qg (v:=v57) ((ji (Sep.bk _ _ _ (Sep.m4 hS120))).trans rfl) ?_
   obtain ⟨c130,hv131,hS132⟩:=SlG.cls0 (c:=c46) (os:=c54++(c58)) hv49 rfl hx42 js (Partition.RI (x:=x41) hv55 hv59) (Sep.ni2 (c1:=c54) (c2:=c58) (Sep.m4
     (Sep.m6 (Sep.m6 hS120))))
   have hv133:=SlG.toN hv131
   obtain ⟨v134,hx135,hF136⟩:=ql hX123
   simp only [zf,B0,reduceIte,reduceEqDiff]
   refine ja rfl (qk (jb (qk (SlF.snap ph0_0 (Sep.m2 hS132) rfl (fun _=>rfl) (fun _=>rfl)) (qk (SlN.snap hv133 _ hS132 rfl Partition.RO)
     (qk qs zg)))) (qk (SlF.snap hv59 (Sep.m6 hS120) rfl (fun _=>rfl) (fun _=>rfl)) zg)) (qf3 (fun b hb=>decide_eq_true hb)
     (Control.mk c_0.Brokers s14 c_0.Next) x41.InStep v134 hx135) ?_
   simp only [f114,qo,qb,Nat.reduceAdd,Nat.zero_add,Nat.add_zero,za,zn,B0,reduceIte,reduceEqDiff]
   refine zi (us:=[.int .i64 v134]) rfl (cs':=[v53,v57,.int .i64 v134,.int .i64 x41.Epoch,
     .int .i64 x41.Stamp]) (Sep.m4 hS120) hW rfl rfl (nle rfl) rfl (fun h137 hS138=>?_)
   simp only [qa,qn,B0,reduceIte,reduceEqDiff]
   have e139:=qh hF136
   subst e139
   exact hN126 _ _ ⟨f110,f111,f112,f113,f114,f115,f116,f117,f118,(Sep.m6 (Sep.m6 (Sep.m6 (Sep.m6 (Sep.m2 (Sep.m6 (Sep.m6 hS138)))))))⟩
  ·rw [iteF hc129] at hX123
   simp only [q8,qn,B0,reduceIte,reduceEqDiff]
   have e140:=qh hX123
   subst e140
   exact hN126 _ _ ⟨f110,f111,f112,f113,f114,f115,f116,f117,f118,(Sep.m6 (Sep.m6 (Sep.m6 (Sep.m6 (Sep.m6 (Sep.m6 (Sep.m6 hS120)))))))⟩
  rintro fr141 h142 ⟨f144,f145,f146,f147,f148,f149,f150,f151,f152,hS143⟩
  unfold qdp at hk124
  simp only [qtt,qd,qc,f148,qo,qb,Nat.reduceAdd,Nat.zero_add,Nat.add_zero,za,qm,B0,reduceIte,reduceEqDiff]
  refine qg (v := .int .i64 s121.Leader) ((ji (Sep.bk _ _ _ (Sep.m4 hS143))).trans rfl) ?_
  simp only [f149,qe,qp,qb,kx,qa,q0a,qx,B0,reduceIte,reduceEqDiff]
  obtain ⟨s153,hX155,hk156⟩:=ql hk124
  refine qev (t:=(decide (s121.Leader≠s67))) (fun fr' h'=>fr' 1=pv1∧fr' 2 = .ref [pv0_0,pv0_1,
    .int .i64 c_0.Next] 0∧fr' 4 = .ptr b5 0∧fr' 5 = .int .i64 (i17:Int)∧fr' 6 = .ptr b61 0∧fr' 9=pv0_1∧fr' 10 = .int .i64
    (List.length c_0.Parts:Int)∧fr' 11 = .int .i64 (i17:Int)∧Sep h' lo (pc1++(pc0_0++(c46++([Blk1 b5 [.nil,.nil,.int .i64 0] 29]++([Blk1 b61 [v53,v57,
    .int .i64 s153.Leader,.int .i64 s153.Epoch,.int .i64 s153.Stamp] 39]++(c54++(c58++(S0))))))))) (fun Q157 hN158 hR159 hE160=>⟨fun hc161=>?_,fun hc161=>?_⟩) ?_
  ·rw [iteT hc161] at hX155
   simp only [q0z,qd,qc,f148,qo,qb,Nat.reduceAdd,Nat.zero_add,Nat.add_zero,za,qm,B0,reduceIte,reduceEqDiff]
   refine qg (v := .int .i64 s121.Stamp) ((ji (Sep.bk _ _ _ (Sep.m4 hS143))).trans rfl) ?_
   simp only [qp,qb,k7,f148,qo,Nat.reduceAdd,Nat.zero_add,Nat.add_zero,za,zn,B0,reduceIte,reduceEqDiff]
   refine zi (us:=[.int .i64 (IntKind.wrap .i64 (s121.Stamp+1))]) rfl (cs':=[v53,v57,.int .i64 s121.Leader,.int .i64 s121.Epoch,
     .int .i64 (IntKind.wrap .i64 (s121.Stamp+1))]) (Sep.m4 hS143) hW rfl rfl (nle rfl) rfl (fun h162 hS163=>?_)
   simp only [qa,qxq,qd,qc,f148,qo,qb,Nat.reduceAdd,Nat.zero_add,Nat.add_zero,za,qm,B0,reduceIte,reduceEqDiff]
   refine qg (v := .int .i64 s121.Leader) ((ji (Sep.bk _ _ _ hS163)).trans rfl) ?_
   simp only [qp,qb,qcp,qa,qy1,qx,B0,reduceIte,reduceEqDiff]
   refine qr (t:=(decide ((0:Int)≤s121.Leader))) (fun hc164=>?_) (fun hc164=>?_)
   ·rw [iteT hc164] at hX155
    simp only [q02,qc,f148,qo,qb,Nat.reduceAdd,Nat.zero_add,Nat.add_zero,za,qm,B0,reduceIte,reduceEqDiff]
    refine qg (v := .int .i64 s121.Epoch) ((ji (Sep.bk _ _ _ hS163)).trans rfl) ?_
    simp only [qp,qb,k7,f148,qo,Nat.reduceAdd,Nat.zero_add,Nat.add_zero,za,zn,B0,reduceIte,reduceEqDiff]
    refine zi (us:=[.int .i64 (IntKind.wrap .i64 (s121.Epoch+1))]) rfl (cs':=[v53,v57,.int .i64 s121.Leader,.int .i64 (IntKind.wrap .i64 (s121.Epoch+1)),
      .int .i64 (IntKind.wrap .i64 (s121.Stamp+1))]) hS163 hW rfl rfl (nle rfl) rfl (fun h165 hS166=>?_)
    simp only [qa,qn,B0,reduceIte,reduceEqDiff]
    have e167:=qh hX155
    subst e167
    exact hN158 _ _ ⟨f144,f145,f146,f147,f148,f150,f151,f152,(Sep.m6 (Sep.m6 (Sep.m6 (Sep.m6 (Sep.m2 (Sep.m6 (Sep.m6 hS166)))))))⟩
   rw [iteF hc164] at hX155
   simp only [q8,qn,B0,reduceIte,reduceEqDiff]
   have e168:=qh hX155
   subst e168
   exact hN158 _ _ ⟨f144,f145,f146,f147,f148,f150,f151,f152,(Sep.m6 (Sep.m6 (Sep.m6 (Sep.m6 (Sep.m2 (Sep.m6 (Sep.m6 hS163)))))))⟩
  ·rw [iteF hc161] at hX155
   simp only [q8,qn,B0,reduceIte,reduceEqDiff]
   have e169:=qh hX155
   subst e169
   exact hN158 _ _ ⟨f144,f145,f146,f147,f148,f150,f151,f152,(Sep.m6 (Sep.m6 (Sep.m6 (Sep.m6 (Sep.m6 (Sep.m6 (Sep.m6 hS143)))))))⟩
  rintro fr170 h171 ⟨f173,f174,f175,f176,f177,f178,f179,f180,hS172⟩
  unfold qdw at hk156
  simp only [qsf,qc,f174,qo,qb,Nat.reduceAdd,Nat.zero_add,Nat.add_zero,qq,qm,B0,reduceIte,reduceEqDiff]
  refine qg (v:=pv0_1) rfl ?_
  simp only [f176,qe,f177,qm,B0,reduceIte,reduceEqDiff]
  refine qg (v := .agg [v53,v57,.int .i64 s153.Leader,.int .i64 s153.Epoch,.int .i64 s153.Stamp]) ((z7 (Sep.bk _ _ _ (Sep.m4 hS172))).trans rfl) ?_
  simp only [zw,B0,reduceIte,reduceEqDiff]
  refine qg (SlG.ia hv49 hx42) ?_
  simp only [zn,B0,reduceIte,reduceEqDiff]
  refine ya (n:=5) (us:=[v53,v57,.int .i64 s153.Leader,.int .i64 s153.Epoch,.int .i64 s153.Stamp]) (cs:=[v53,v57,.int .i64 x41.Leader,.int .i64 x41.Epoch,
    .int .i64 x41.Stamp]) (o:=0) (cs':=[v53,v57,.int .i64 s153.Leader,.int .i64 s153.Epoch,
    .int .i64 s153.Stamp]) rfl hv49 rfl hx42 (Sep.m2 hS172) hW rfl (qt (SlF.one hv55) (qt (SlF.one hv59) (qt rfl (qt rfl (qt rfl zr))))) (nle rfl) rfl
    (fun c183 h181 hv184 hS182=>?_)
  simp only [qa,qn,B0,reduceIte,reduceEqDiff]
  obtain ⟨c185,hv186,hS187⟩:=SlG.cls (e':=(Partition.mk x41.Homes x41.InStep s153.Leader s153.Epoch s153.Stamp)) (c:=c183) (os:=c54++(c58)) hv184 rfl hx42 js
    (Partition.RI (x:=(Partition.mk x41.Homes x41.InStep s153.Leader s153.Epoch s153.Stamp)) hv55 hv59) (Sep.ni2 (c1:=c54) (c2:=c58) (Sep.m2 (Sep.m6 (Sep.m6 hS182))))
  have hx188:=ka (x':=(Partition.mk x41.Homes x41.InStep s153.Leader s153.Epoch s153.Stamp)) hx42
  have hv189:=SlG.toN hv186
  have e190:=qh hk156
  exact hN26 _ _ _ e190.symm ⟨c185,f173,f174,f175,f178,hv189,(Sep.m3 (Sep.m3 (Sep.m1 (Sep.m3 (Sep.dc (Sep.m4 hS187))))))⟩ (f180) (f179)
 rintro s195 fr198 h199 rfl ⟨c196,f201,f202,f203,f204,hv197,hS200⟩
 dsimp only [jnO] at hk22
 unfold qf1 at hk22
 simp only [qd,qc,f202,qm,B0,reduceIte,reduceEqDiff]
 refine qg (v := .agg [pv0_0,pv0_1,.int .i64 c_0.Next]) rfl ?_
 simp only [f203,zn,B0,reduceIte,reduceEqDiff]
 refine zi (us:=[pv0_0,pv0_1,.int .i64 c_0.Next]) rfl (cs':=[pv0_0,pv0_1,
   .int .i64 c_0.Next]) (Sep.m3 hS200) hW rfl (qt (SlF.one ph0_0) (qt (SlN.one hv197) (qt rfl zr))) (nle rfl) rfl (fun h205 hS206=>?_)
 simp only [qa,qv,B0,reduceIte,reduceEqDiff]
 have he:=qh hk22
 subst he
 refine qb8 (bb:=b5) (oo:=0) (v := .agg [pv0_0,pv0_1,.int .i64 c_0.Next]) (by simp only [f203,B0,reduceIte,
   reduceEqDiff]) ((z7 (Sep.bk _ _ _ hS206)).trans rfl) ?_
 exact ⟨pc0_0,c196,pc1,by first | trivial | rfl,ph0_0,hv197,ph1,(Sep.m2 (Sep.m2 (Sep.dc (hS206))))⟩
theorem qjf {W:Nat→Bool}{h:Heap} (hW:∀ b,
  (geL h.length) b→W b=true) (c_0:Control) (x_1:Command) (r:Control × Int × Bool)
  (hF:xk c_0 x_1=some r) : Ret E W 19 [.agg [lst qi c_0.Brokers,lst qj c_0.Parts,.int .i64 c_0.Next],.agg [.int .i64 x_1.Kind,
  .int .i64 x_1.Broker,.int .i64 x_1.Epoch,.int .i64 x_1.Part,.int .i64 x_1.Stamp,lst cI x_1.InStep]] h (fun v h'=>∃ rv0_0 rc0_0 rv0_1 rc0_1,v = .tup [.agg [rv0_0,rv0_1,
  .int .i64 r.1.Next],.int .i64 r.2.1,
  .bool r.2.2]∧SlF qi 3 86 rv0_0 r.1.Brokers rc0_0∧SlN Partition.R 5 39 rv0_1 r.1.Parts rc0_1∧Sep h' (geL h.length) (rc0_0++(rc0_1++([])))):=by
 refine Ret.of (fn:=x19) rfl (Run.of ?_)
 unfold xk at hF
 have zf0:zc [.agg [lst qi c_0.Brokers,lst qj c_0.Parts,.int .i64 c_0.Next],.agg [.int .i64 x_1.Kind,.int .i64 x_1.Broker,.int .i64 x_1.Epoch,
   .int .i64 x_1.Part,.int .i64 x_1.Stamp,lst cI x_1.InStep]] 0 = .agg [lst qi c_0.Brokers,lst qj c_0.Parts,.int .i64 c_0.Next]:=rfl
 have zf1:zc [.agg [lst qi c_0.Brokers,lst qj c_0.Parts,.int .i64 c_0.Next],.agg [.int .i64 x_1.Kind,.int .i64 x_1.Broker,.int .i64 x_1.Epoch,
   .int .i64 x_1.Part,.int .i64 x_1.Stamp,lst cI x_1.InStep]] 1 = .agg [.int .i64 x_1.Kind,.int .i64 x_1.Broker,.int .i64 x_1.Epoch,.int .i64 x_1.Part,
   .int .i64 x_1.Stamp,lst cI x_1.InStep]:=rfl
 generalize zc [.agg [lst qi c_0.Brokers,lst qj c_0.Parts,.int .i64 c_0.Next],.agg [.int .i64 x_1.Kind,.int .i64 x_1.Broker,.int .i64 x_1.Epoch,
   .int .i64 x_1.Part,.int .i64 x_1.Stamp,lst cI x_1.InStep]]=fr0 at zf0 zf1 ⊢
 have hS:Sep h (geL h.length) []:=Sep.nil h
 simp only [x19,qd,qc,jm,zf0,B0,reduceIte,reduceEqDiff]
 refine z8 (cs:=[lst qi c_0.Brokers,lst qj c_0.Parts,.int .i64 c_0.Next]) hS rfl rfl rfl (fun b1 h2 hS3=>?_)
 simp only [jm,zf1,B0,reduceIte,reduceEqDiff]
 refine z8 (cs:=[.int .i64 x_1.Kind,.int .i64 x_1.Broker,.int .i64 x_1.Epoch,.int .i64 x_1.Part,.int .i64 x_1.Stamp,
   lst cI x_1.InStep]) hS3 rfl rfl rfl (fun b5 h6 hS7=>?_)
 simp only [jv,B0,reduceIte,reduceEqDiff]
 refine jc hS7 (fun b9 h10 hS11=>?_)
 simp only [qe,qa,B0,reduceIte,reduceEqDiff]
 refine zu (Sep.m2 hS11) hW (by simp only [B0,reduceIte,reduceEqDiff]) (fun h13 hS14=>?_)
 refine zu (Sep.m1 hS14) hW (by simp only [B0,reduceIte,reduceEqDiff]) (fun h15 hS16=>?_)
 simp only [zx,qs8,qd,qc,qm,B0,reduceIte,reduceEqDiff]
 refine qg (v := .agg [lst qi c_0.Brokers,lst qj c_0.Parts,.int .i64 c_0.Next]) rfl ?_
 obtain ⟨v17,hx18,hF19⟩:=ql hF
 simp only [zf,B0,reduceIte,reduceEqDiff]
 refine ja rfl (qk (jb (qk zm (qk zm (qk qs zg)))) zg) (qen (fun b hb=>decide_eq_true hb) c_0 v17 hx18) ?_
 simp only [jl,qb,kd,qe,B0,reduceIte,reduceEqDiff]
 obtain ⟨v23,hx24,hF25⟩:=ql hF19
 refine zy 5 (fun fr' h'=>Sep h' (geL h.length) ([Blk1 b9 [.nil,.nil,.int .i64 0] 29]++([]))∧fr' 20 = .bool v23∧fr' 2 = .ref [lst qi c_0.Brokers,
   lst qj c_0.Parts,.int .i64 c_0.Next] 0∧fr' 3 = .ref [.int .i64 x_1.Kind,.int .i64 x_1.Broker,.int .i64 x_1.Epoch,.int .i64 x_1.Part,.int .i64 x_1.Stamp,
   lst cI x_1.InStep] 0∧fr' 4 = .ptr b9 0) (fun Q20 hN21=>?_) ?_
 ·simp only [List.take_succ_cons,List.take_zero]
  simp only [qf (g:=15),B0,reduceIte,reduceEqDiff]
  refine zd (t:=(!v17)) (fun hg22=>?_) (fun hg22=>?_)
  ·rw [iteT hg22] at hx24
   simp only [hg22,qf (g:=15),z4,qu,qb,zk,qa,qn,B0,reduceIte,reduceEqDiff]
   have e26:=qh hx24
   exact hN21 _ _ ⟨hS16,by rw [←e26]; simp only [B0,reduceIte,reduceEqDiff],rfl,rfl,rfl⟩
  ·rw [iteF hg22] at hx24
   simp only [hg22,qf (g:=15),qz,qm,B0,reduceIte,reduceEqDiff]
   refine qg (v := .agg [lst qi c_0.Brokers,lst qj c_0.Parts,.int .i64 c_0.Next]) rfl ?_
   simp only [hg22,qf (g:=15),qz,qm,B0,reduceIte,reduceEqDiff]
   refine qg (v := .agg [.int .i64 x_1.Kind,.int .i64 x_1.Broker,.int .i64 x_1.Epoch,.int .i64 x_1.Part,.int .i64 x_1.Stamp,lst cI x_1.InStep]) rfl ?_
   obtain ⟨v27,hx28,hF29⟩:=ql hx24
   simp only [hg22,qf (g:=15),qz,zf,B0,reduceIte,reduceEqDiff]
   refine ja rfl (qk (jb (qk zm (qk zm (qk qs zg)))) (qk (jb (qk qs (qk qs (qk qs (qk qs
     (qk qs (qk zm zg))))))) zg)) (qin (fun b hb=>decide_eq_true hb) c_0 x_1 v27 hx28) ?_
   simp only [hg22,qf (g:=15),qz,jl,qb,kd,qu,zj,qa,qn,B0,reduceIte,reduceEqDiff]
   have e30:=qh hF29
   exact hN21 _ _ ⟨hS16,by rw [←e30]; simp only [B0,reduceIte,reduceEqDiff],rfl,rfl,rfl⟩
 rintro fr31 h36 ⟨hS37,f32,f33,f34,f35⟩
 simp only [List.drop_succ_cons,List.drop_zero]
 simp only [qa,q15,f32,qx,B0,reduceIte,reduceEqDiff]
 refine qr (t:=v23) (fun hc38=>?_) (fun hc38=>?_)
 ·rw [iteT hc38] at hF25
  simp only [qzq,qd,qc,run_build,evp,B0,reduceIte,reduceEqDiff]
  refine qg (v := .agg [.nil,.nil,.int .i64 0]) rfl ?_
  simp only [f35,zn,B0,reduceIte,reduceEqDiff]
  refine zi (us:=[.nil,.nil,.int .i64 0]) rfl (cs':=[.nil,.nil,.int .i64 0]) hS37 hW rfl rfl (nle rfl) rfl (fun h39 hS40=>?_)
  simp only [qe,qa,qv,B0,reduceIte,reduceEqDiff]
  have he:=qh hF25
  subst he
  refine kc (qk (kn (bb:=b9) (oo:=0) (v := .agg [.nil,.nil,
    .int .i64 0]) (f35) ((z7 (Sep.bk _ _ _ hS40)).trans rfl)) (qk (kz (v := .int .i64 0) (rfl)) (qk (kz (v := .bool false) (rfl)) zg))) ?_
  exact ⟨.nil,[],.nil,[],by first | trivial | rfl,SlF.nil,SlN.nil,((Sep.dc (hS40)) : Sep _ (geL h.length) ([]))⟩
 rw [iteF hc38] at hF25
 simp only [q8,qs2,qd,qc,qe,qa,qps,f33,qo,qb,Nat.reduceAdd,Nat.zero_add,Nat.add_zero,qq,qm,B0,reduceIte,
   reduceEqDiff]
 refine qg (v:=lst qj c_0.Parts) rfl ?_
 simp only [zo,qb,zt,qe,qa,B0,reduceIte,reduceEqDiff]
 obtain ⟨oc53,hX55,hk56⟩:=jh hF25
 simp only [q30]
 refine ye (σ:=(List Int)) c_0.Parts (fun i51 x52 s100=>ws i51 x52 s100) (fun s fr' h'=>∃ v48 c49,fr' 2 = .ref [lst qi c_0.Brokers,
   lst qj c_0.Parts,.int .i64 c_0.Next] 0∧fr' 3 = .ref [.int .i64 x_1.Kind,.int .i64 x_1.Broker,.int .i64 x_1.Epoch,.int .i64 x_1.Part,.int .i64 x_1.Stamp,
   lst cI x_1.InStep] 0∧fr' 4 = .ptr b9 0∧fr' 7=v48∧fr' 23=lst qj c_0.Parts∧SlF cI 1 3 v48 s c49∧Sep h' (geL h.length) ([Blk1 b9 [.nil,.nil,
   .int .i64 0] 29]++(c49++([])))) hX55 ⟨.nil,[],f33,f34,f35,rfl,rfl,SlF.nil,(hS37:Sep _ (geL h.length) ([Blk1 b9 [.nil,.nil,
   .int .i64 0] 29]++([])))⟩ (by simp only [B0,reduceIte,reduceEqDiff]) (by simp only [B0,reduceIte,
   reduceEqDiff]) (fun _ _ _ h=>h) rfl rfl (fun _ _ _ _ h=>h) (fun _ _ _ _ h=>h) (fun _ _ _ _ h=>h) (by decide) ?_ ?_
 ·rintro i51 x52 s46 fr65 h66 hx73 ⟨v48,c49,f68,f69,f70,f71,f72,hv50,hS67⟩ f74 f75 oc54 hF57 hr58 Q59 hN60 hB64 hK61 hR62 hE63
  unfold ws at hF57
  simp only [qy0,qd,qc,f72,f74,zw,B0,reduceIte,reduceEqDiff]
  refine qg (v := .ref (qj x52) 0) (yg hx73 rfl) ?_
  simp only [qm,B0,reduceIte,reduceEqDiff]
  refine qg (v := .agg [lst cI x52.Homes,lst cI x52.InStep,.int .i64 x52.Leader,.int .i64 x52.Epoch,.int .i64 x52.Stamp]) rfl ?_
  simp only [jv,B0,reduceIte,reduceEqDiff]
  refine jc hS67 (fun b76 h77 hS78=>?_)
  simp only [zn,B0,reduceIte,reduceEqDiff]
  refine zi (us:=[lst cI x52.Homes,lst cI x52.InStep,.int .i64 x52.Leader,.int .i64 x52.Epoch,.int .i64 x52.Stamp]) rfl (cs':=[lst cI x52.Homes,
    lst cI x52.InStep,.int .i64 x52.Leader,.int .i64 x52.Epoch,.int .i64 x52.Stamp]) hS78 hW rfl rfl (nle rfl) rfl (fun h80 hS81=>?_)
  simp only [qa,B0,reduceIte,reduceEqDiff]
  refine zu hS81 hW (by simp only [B0,reduceIte,reduceEqDiff]) (fun h82 hS83=>?_)
  simp only [zx,q20,qc,f71,qe,qo,qb,Nat.reduceAdd,Nat.zero_add,Nat.add_zero,qq,qm,B0,reduceIte,reduceEqDiff]
  refine qg (v := .int .i64 x52.Leader) rfl ?_
  simp only [y3,evp,B0,reduceIte,reduceEqDiff]
  refine yf (n:=1) (f:=cI) [x52.Leader] hS83 rfl rfl (fun v84 c85 h86 hv87 hS88=>?_)
  simp only [qa5,B0,reduceIte,reduceEqDiff]
  obtain ⟨l90,hx91,hF92⟩:=ql hF57
  refine uq (f:=cI) hv50 (Sep.m2 hS88) hW (fun _=>rfl) (fun _=>rfl) (SlF.first hv87 hS88 (fun _=>rfl)) hx91 (fun v93 c94 h95 hv96 hS97=>?_)
  simp only [qe,qa,qn,B0,reduceIte,reduceEqDiff]
  have e99:=qh hF92
  exact hN60 _ _ _ e99.symm ⟨v93,c94,f68,f69,f70,rfl,f72,hv96,(Sep.m1 (Sep.dc (Sep.m1 hS97)))⟩ (f74) (f75)
 rintro s101 fr106 h107 rfl ⟨v103,c104,f109,f110,f111,f112,f113,hv105,hS108⟩
 dsimp only [jnO] at hk56
 unfold qcm at hk56
 simp only [qtr,qd,jz,qmk,B0,reduceIte,reduceEqDiff]
 refine qhf hS108 (fun b114 h115 hS116=>?_)
 simp only [f109,z6,B0,reduceIte,reduceEqDiff]
 refine ze (v := .agg [lst qi c_0.Brokers,lst qj c_0.Parts,.int .i64 c_0.Next]) rfl ?_
 obtain ⟨v118,hx119,hF120⟩:=ql hk56
 simp only [qmt,B0,reduceIte,reduceEqDiff]
 refine q5a rfl hS116 (qk (jb (qk zm (qk zm (qk qs zg)))) zg) (qe6 (fun b hb=>decide_eq_true hb) c_0 v118 hx119) ?_
 rintro _ h129 ⟨v121,c122,v125,c126,rfl,hv123,hv127,hS130⟩
 refine ⟨_,qeu (qt (SlF.free1 hv123) (qt (SlN.free1 hv127) (qt rfl zr))),hS130,
   (j5 (SlF.pf hv123 (fun _=>rfl)) (j5 (SlN.pf hv127 Partition.RO) we)),fun h131 hS132=>?_⟩
 have hS133:Sep h131 (geL h.length) (c122++(c126++([Blk1 b114 [.nil,.nil,.int .i64 0] 29]++([Blk1 b9 [.nil,.nil,
   .int .i64 0] 29]++(c104++([])))))):=by simpa only [List.append_assoc,List.nil_append] using hS132
 simp only [f110,qeg,qd9,B0,reduceIte,reduceEqDiff]
 refine ze (v := .agg [.int .i64 x_1.Kind,.int .i64 x_1.Broker,.int .i64 x_1.Epoch,.int .i64 x_1.Part,.int .i64 x_1.Stamp,lst cI x_1.InStep]) rfl ?_
 obtain ⟨v134,hx135,hF136⟩:=ql hF120
 simp only [xn,B0,reduceIte,reduceEqDiff]
 refine q6p rfl (qlx hW v118 v121 c122 hv123 v125 c126 hv127 x_1 v134 hx135 (Sep.m1 (Sep.m1 hS133))) ?_
 rintro _ h143 ⟨c137,v139,c140,rfl,hv138,hv141,hS144⟩
 simp only [j8,qy,q5i,qfn,q5s,qfk,qdi,B0,reduceIte,reduceEqDiff]
 refine qdt (us:=[v121,v139,.int .i64 v134.1.Next]) rfl (cs':=[v121,v139,
   .int .i64 v134.1.Next]) (Sep.m2 hS144) hW rfl (qt (SlF.one hv138) (qt (SlN.one hv141) (qt rfl zr))) (nle rfl) rfl (fun h145 hS146=>?_)
 simp only [j8,qy,zq,qo9,qd,qc,qe,qp,qb,je,qa,qwz,qx,B0,reduceIte,reduceEqDiff]
 obtain ⟨sv158,hX156,hk157⟩:=ql hF136
 refine qev (t:=(decide (v134.2=0))) (fun fr' h'=>∃ c150 c153,fr' 2 = .ref [lst qi c_0.Brokers,lst qj c_0.Parts,
   .int .i64 c_0.Next] 0∧fr' 4 = .ptr b9 0∧fr' 10 = .ptr b114 0∧fr' 11 = .int .i64 sv158.1∧SlF qi 3 86 v121 sv158.2.2.1 c150∧SlN Partition.R 5 39 v139 sv158.2.2.2 c153∧Sep h'
   (geL h.length) ([Blk1 b9 [.nil,.nil,.int .i64 0] 29]++([Blk1 b114 [v121,v139,
   .int .i64 sv158.2.1.Next] 29]++(c150++(c153++([])))))) (fun Q159 hN160 hR161 hE162=>⟨fun hc163=>?_,fun hc163=>?_⟩) ?_
 ·rw [iteT hc163] at hX156
  simp only [qwa,qd,qc,qm,B0,reduceIte,reduceEqDiff]
  refine qg (v := .agg [v121,v139,.int .i64 v134.1.Next]) ((z7 (Sep.bk _ _ _ hS146)).trans rfl) ?_
  obtain ⟨v164,hx165,hF166⟩:=ql hX156
  simp only [f112,qe,zf,B0,reduceIte,reduceEqDiff]
  refine qa1 rfl (qkf hW v134.1 v121 c137 hv138 v139 c140 hv141 v103 c104 s101 hv105 v164 hx165 (Sep.m3 (Sep.m3 (Sep.m4 hS146)))) ?_
  rintro _ h173 ⟨c167,c169,c171,rfl,hv168,hv170,hv172,hS174⟩
  simp only [zn,B0,reduceIte,reduceEqDiff]
  refine zi (us:=[v121,v139,.int .i64 v164.1.Next]) rfl (cs':=[v121,v139,
    .int .i64 v164.1.Next]) (Sep.m3 hS174) hW rfl (qt (SlF.one hv168) (qt (SlN.one hv170) (qt rfl zr))) (nle rfl) rfl (fun h175 hS176=>?_)
  simp only [qa,qwn,qd,qc,qm,B0,reduceIte,reduceEqDiff]
  refine qg (v := .agg [v121,v139,.int .i64 v164.1.Next]) ((z7 (Sep.bk _ _ _ hS176)).trans rfl) ?_
  obtain ⟨v177,hx178,hF179⟩:=ql hF166
  simp only [zf,B0,reduceIte,reduceEqDiff]
  refine ja rfl (qk (jb (qk (SlF.snap hv168 (Sep.m1 hS176) rfl (fun _=>rfl) (fun _=>rfl)) (qk (SlN.snap hv170 _ (Sep.m2 hS176) rfl Partition.RO)
    (qk qs zg)))) zg) (qen (fun b hb=>decide_eq_true hb) v164.1 v177 hx178) ?_
  simp only [jl,qb,kd,qa,qx,B0,reduceIte,reduceEqDiff]
  refine qr (t:=(!v177)) (fun hc180=>?_) (fun hc180=>?_)
  ·rw [iteT hc180] at hF179
   simp only [qc,qe,qa,qn,B0,reduceIte,reduceEqDiff]
   have e181:=qh hF179
   subst e181
   exact hN160 _ _ ⟨c167,c169,f109,f111,rfl,rfl,hv168,hv170,(Sep.m3 (Sep.m2 (Sep.m2 (Sep.m2 (Sep.dc (Sep.m3 hS176))))))⟩
  rw [iteF hc180] at hF179
  simp only [q8,qn,B0,reduceIte,reduceEqDiff]
  have e182:=qh hF179
  subst e182
  exact hN160 _ _ ⟨c167,c169,f109,f111,rfl,rfl,hv168,hv170,(Sep.m3 (Sep.m2 (Sep.m2 (Sep.m2 (Sep.dc (Sep.m3 hS176))))))⟩
 ·rw [iteF hc163] at hX156
  simp only [q8,qn,B0,reduceIte,reduceEqDiff]
  have e183:=qh hX156
  subst e183
  exact hN160 _ _ ⟨c137,c140,f109,f111,rfl,rfl,hv138,hv141,(Sep.m3 (Sep.m2 (Sep.m2 (Sep.m2 (Sep.dc (Sep.m4 hS146))))))⟩
 rintro fr184 h185 ⟨c150,c153,f187,f188,f189,f190,hv151,hv154,hS186⟩
 obtain ⟨s147,s148,s149,s152⟩:=sv158
 dsimp only at *
 unfold uh at hk157
 simp only [qs5,qd,qc,f190,qe,qp,qb,kx,qa,qot,qx,B0,reduceIte,reduceEqDiff]
 refine qr (t:=(decide (s147≠0))) (fun hc191=>?_) (fun hc191=>?_)
 ·rw [iteT hc191] at hk157
  simp only [qqi,qd,qc,f187,qm,B0,reduceIte,reduceEqDiff]
  refine qg (v := .agg [lst qi c_0.Brokers,lst qj c_0.Parts,.int .i64 c_0.Next]) rfl ?_
  obtain ⟨v192,hx193,hF194⟩:=ql hk157
  simp only [zf,B0,reduceIte,reduceEqDiff]
  refine u7 rfl hS186 (qk (jb (qk zm (qk zm (qk qs zg)))) zg) (qe6 (fun b hb=>decide_eq_true hb) c_0 v192 hx193) ?_
  rintro _ h203 ⟨v195,c196,v199,c200,rfl,hv197,hv201,hS204⟩
  refine ⟨_,qeu (qt (SlF.free1 hv197) (qt (SlN.free1 hv201) (qt rfl zr))),hS204,
    (j5 (SlF.pf hv197 (fun _=>rfl)) (j5 (SlN.pf hv201 Partition.RO) we)),fun h205 hS206=>?_⟩
  have hS207:Sep h205 (geL h.length) (c196++(c200++([Blk1 b9 [.nil,.nil,.int .i64 0] 29]++([Blk1 b114 [v121,v139,
    .int .i64 s148.Next] 29]++(c150++(c153++([]))))))):=by simpa only [List.append_assoc,List.nil_append] using hS206
  simp only [f190,qe,f188,zn,B0,reduceIte,reduceEqDiff]
  refine zi (us:=[v195,v199,.int .i64 v192.Next]) rfl (cs':=[v195,v199,
    .int .i64 v192.Next]) (Sep.m2 hS207) hW rfl (qt (SlF.one hv197) (qt (SlN.one hv201) (qt rfl zr))) (nle rfl) rfl (fun h208 hS209=>?_)
  simp only [qe,qa,qv,B0,reduceIte,reduceEqDiff]
  have he:=qh hF194
  subst he
  refine kc (qk (kn (bb:=b9) (oo:=0) (v := .agg [v195,v199,
    .int .i64 v192.Next]) (f188) ((z7 (Sep.bk _ _ _ hS209)).trans rfl)) (qk (kz (v := .int .i64 s147) (rfl)) (qk (kz (v := .bool true) (rfl)) zg))) ?_
  exact ⟨v195,c196,v199,c200,by first | trivial | rfl,hv197,hv201,(Sep.m1 (Sep.m1 (Sep.dc (Sep.m2 (Sep.dc (Sep.m2 (Sep.dc (Sep.m2 (Sep.dc (hS209))))))))))⟩
 rw [iteF hc191] at hk157
 simp only [q8,qqc,qd,qc,f189,qm,B0,reduceIte,reduceEqDiff]
 refine qg (v := .agg [v121,v139,.int .i64 s148.Next]) ((z7 (Sep.bk _ _ _ (Sep.m1 hS186))).trans rfl) ?_
 obtain ⟨v210,hx211,hF212⟩:=ql hk157
 simp only [zf,B0,reduceIte,reduceEqDiff]
 refine u7 rfl hS186 (qk (jb (qk (SlF.snap hv151 (Sep.m2 hS186) rfl (fun _=>rfl) (fun _=>rfl)) (qk (SlN.snap hv154 _ (Sep.m3 hS186) rfl Partition.RO)
   (qk qs zg)))) zg) (qe6 (fun b hb=>decide_eq_true hb) (Control.mk s149 s152 s148.Next) v210 hx211) ?_
 rintro _ h221 ⟨v213,c214,v217,c218,rfl,hv215,hv219,hS222⟩
 refine ⟨_,qeu (qt (SlF.free1 hv215) (qt (SlN.free1 hv219) (qt rfl zr))),hS222,
   (j5 (SlF.pf hv215 (fun _=>rfl)) (j5 (SlN.pf hv219 Partition.RO) we)),fun h223 hS224=>?_⟩
 have hS225:Sep h223 (geL h.length) (c214++(c218++([Blk1 b9 [.nil,.nil,.int .i64 0] 29]++([Blk1 b114 [v121,v139,
   .int .i64 s148.Next] 29]++(c150++(c153++([]))))))):=by simpa only [List.append_assoc,List.nil_append] using hS224
 simp only [f188,zn,B0,reduceIte,reduceEqDiff]
 refine zi (us:=[v213,v217,.int .i64 v210.Next]) rfl (cs':=[v213,v217,
   .int .i64 v210.Next]) (Sep.m2 hS225) hW rfl (qt (SlF.one hv215) (qt (SlN.one hv219) (qt rfl zr))) (nle rfl) rfl (fun h226 hS227=>?_)
 simp only [qe,qa,qv,B0,reduceIte,reduceEqDiff]
 have he:=qh hF212
 subst he
 refine kc (qk (kn (bb:=b9) (oo:=0) (v := .agg [v213,v217,
   .int .i64 v210.Next]) (f188) ((z7 (Sep.bk _ _ _ hS227)).trans rfl)) (qk (kz (v := .int .i64 0) (rfl)) (qk (kz (v := .bool true) (rfl)) zg))) ?_
 exact ⟨v213,c214,v217,c218,by first | trivial | rfl,hv215,hv219,(Sep.m1 (Sep.m1 (Sep.dc (Sep.m2 (Sep.dc (Sep.m2 (Sep.dc (Sep.m2 (Sep.dc (hS227))))))))))⟩
theorem qir {W:Nat→Bool}{h:Heap} (hW:∀ b,
  (geL h.length) b→W b=true) (k:Nat) (brokers_0:Int) (r:Control × Bool) (hF:wn k brokers_0=some r) : Ret E W 28 [.int .i64 brokers_0] h
  (fun v h'=>∃ rv0_0 rc0_0 rv0_1 rc0_1,v = .tup [.agg [rv0_0,rv0_1,.int .i64 r.1.Next],
  .bool r.2]∧SlF qi 3 86 rv0_0 r.1.Brokers rc0_0∧SlN Partition.R 5 39 rv0_1 r.1.Parts rc0_1∧Sep h' (geL h.length) (rc0_0++(rc0_1++([])))):=by
 refine Ret.of (fn:=x28) rfl (Run.of ?_)
 unfold wn at hF
 have zf0:zc [.int .i64 brokers_0] 0 = .int .i64 brokers_0:=rfl
 generalize zc [.int .i64 brokers_0]=fr0 at zf0 ⊢
 have hS:Sep h (geL h.length) []:=Sep.nil h
 simp only [x28,qd,qc,jv,B0,reduceIte,reduceEqDiff]
 refine jc hS (fun b1 h2 hS3=>?_)
 simp only [qe,qa,qx6,qd,qc,zf0,zf,B0,reduceIte,reduceEqDiff]
 refine ja rfl (qk qs (qk qs (qk qs zg))) (y2 (fun b hb=>decide_eq_true hb) brokers_0 1 6 _ rfl) ?_
 simp only [jl,qb,kd,qa,qxu,qx,B0,reduceIte,reduceEqDiff]
 refine qr (t:=(!(zl brokers_0 1 6))) (fun hc5=>?_) (fun hc5=>?_)
 ·rw [iteT hc5] at hF
  simp only [qd,qc,run_build,evp,B0,reduceIte,reduceEqDiff]
  refine qg (v := .agg [.nil,.nil,.int .i64 0]) rfl ?_
  simp only [zn,B0,reduceIte,reduceEqDiff]
  refine zi (us:=[.nil,.nil,.int .i64 0]) rfl (cs':=[.nil,.nil,.int .i64 0]) hS3 hW rfl rfl (nle rfl) rfl (fun h6 hS7=>?_)
  simp only [qe,qa,qv,B0,reduceIte,reduceEqDiff]
  have he:=qh hF
  subst he
  refine kc (qk (kn (bb:=b1) (oo:=0) (v := .agg [.nil,.nil,
    .int .i64 0]) (rfl) ((z7 (Sep.bk _ _ _ hS7)).trans rfl)) (qk (kz (v := .bool false) (rfl)) zg)) ?_
  exact ⟨.nil,[],.nil,[],by first | trivial | rfl,SlF.nil,SlN.nil,((Sep.dc (hS7)) : Sep _ (geL h.length) ([]))⟩
 rw [iteF hc5] at hF
 simp only [q8,q2l,qd,qc,run_build,evp,B0,reduceIte,reduceEqDiff]
 refine qg (v := .agg [.nil,.nil,.int .i64 1]) rfl ?_
 simp only [jv,B0,reduceIte,reduceEqDiff]
 refine jc hS3 (fun b8 h9 hS10=>?_)
 simp only [zn,B0,reduceIte,reduceEqDiff]
 refine zi (us:=[.nil,.nil,.int .i64 1]) rfl (cs':=[.nil,.nil,.int .i64 1]) hS10 hW rfl rfl (nle rfl) rfl (fun h12 hS13=>?_)
 simp only [qa,q14,qd,qc,qe,B0,reduceIte,reduceEqDiff]
 obtain ⟨oc28,hX30,hk31⟩:=jh hF
 simp only [q1u]
 refine xh (σ:=Int × Control) (fun s68=>xu brokers_0 s68.1 s68.2) (fun s fr' h'=>∃ v23 c24,
   fr' 0 = .int .i64 brokers_0∧fr' 2 = .ptr b1 0∧fr' 4 = .ptr b8 0∧fr' 5 = .int .i64 s.1∧SlF qi 3 86 v23 s.2.Brokers c24∧Sep h' (geL h.length)
   ([Blk1 b1 [.nil,.nil,.int .i64 0] 29]++([Blk1 b8 [v23,.nil,.int .i64 s.2.Next] 29]++(c24++([]))))) hX30 ⟨.nil,[],zf0,rfl,rfl,rfl,SlF.nil,
   ((Sep.m1 hS13) : Sep _ (geL h.length) ([Blk1 b1 [.nil,.nil,.int .i64 0] 29]++([Blk1 b8 [.nil,.nil,.int .i64 1] 29]++([]))))⟩ (fun _ _ _ h=>h) ?_ ?_
 ·rintro ⟨s20,s21⟩ fr40 h41 ⟨v23,c24,f43,f44,f45,f46,hv25,hS42⟩ oc29 hF32 hr33 Q34 hN35 hK36 hR37 hE38
  dsimp only at *
  unfold xu at hF32
  simp only [qvy,qd,qc,f46,qe,f43,qp,qb,yl,qa,qx,B0,reduceIte,reduceEqDiff]
  refine qr (t:=(decide (s20<brokers_0))) (fun hc48=>?_) (fun hc48=>?_)
  ·rw [iteT hc48] at hF32
   simp only [q8,q1r,qd,jy,q1c,qc,f45,qo,qb,Nat.reduceAdd,Nat.zero_add,Nat.add_zero,za,qm,B0,reduceIte,
     reduceEqDiff]
   refine qg (v:=v23) ((ji (Sep.bk _ _ _ (Sep.m1 hS42))).trans rfl) ?_
   simp only [run_build,evp,B0,reduceIte,reduceEqDiff]
   refine qg (v := .agg [.int .i64 0,.int .i64 0,.bool true]) rfl ?_
   simp only [y3,evp,B0,reduceIte,reduceEqDiff]
   refine yf (n:=3) (f:=qi) [(Broker.mk 0 0 true)] hS42 rfl rfl (fun v49 c50 h51 hv52 hS53=>?_)
   simp only [qa5,B0,reduceIte,reduceEqDiff]
   obtain ⟨l55,hx56,hF57⟩:=ql hF32
   refine uq (f:=qi) hv25 (Sep.m3 hS53) hW (fun _=>rfl) (fun _=>rfl) (SlF.first hv52 hS53 (fun _=>rfl)) hx56 (fun v58 c59 h60 hv61 hS62=>?_)
   simp only [f45,qo,qb,Nat.reduceAdd,Nat.zero_add,Nat.add_zero,za,zn,B0,reduceIte,reduceEqDiff]
   refine zi (us:=[v58]) (ko (SlF.one hv61)) (cs':=[v58,.nil,
     .int .i64 s21.Next]) (Sep.m3 hS62) hW rfl (qt (SlF.one hv61) zr) (nle rfl) rfl (fun h64 hS65=>?_)
   simp only [qa,kh,qc,f46,qe,qp,qb,k7,qn,B0,reduceIte,reduceEqDiff]
   have e66:=qh hF57
   exact hN35 _ _ _ e66.symm ⟨v58,c59,f43,f44,f45,rfl,hv61,(Sep.m2 (Sep.m1 (Sep.m1 (Sep.dc (Sep.m2 hS65)))))⟩
  rw [iteF hc48] at hF32
  simp only [yv,yk,wb,B0,reduceIte,reduceEqDiff]
  have e67:=qh hF32
  exact hK36 _ _ _ e67.symm ⟨v23,c24,f43,f44,f45,f46,hv25,(Sep.m2 (Sep.m2 (Sep.m2 hS42)))⟩
 rintro ⟨s69,s70⟩ fr75 h76 rfl ⟨v72,c73,f78,f79,f80,f81,hv74,hS77⟩
 dsimp only [jnO] at hk31
 dsimp only at *
 unfold qet at hk31
 simp only [qd,qc,f80,qm,B0,reduceIte,reduceEqDiff]
 refine qg (v := .agg [v72,.nil,.int .i64 s70.Next]) ((z7 (Sep.bk _ _ _ (Sep.m1 hS77))).trans rfl) ?_
 simp only [f79,zn,B0,reduceIte,reduceEqDiff]
 refine zi (us:=[v72,.nil,.int .i64 s70.Next]) rfl (cs':=[v72,.nil,
   .int .i64 s70.Next]) hS77 hW rfl (qt (SlF.one hv74) (qt rfl (qt rfl zr))) (nle rfl) rfl (fun h82 hS83=>?_)
 simp only [qe,qa,qv,B0,reduceIte,reduceEqDiff]
 have he:=qh hk31
 subst he
 refine kc (qk (kn (bb:=b1) (oo:=0) (v := .agg [v72,.nil,
   .int .i64 s70.Next]) (f79) ((z7 (Sep.bk _ _ _ hS83)).trans rfl)) (qk (kz (v := .bool true) (rfl)) zg)) ?_
 exact ⟨v72,c73,.nil,[],by first | trivial | rfl,hv74,SlN.nil,((Sep.dc ((Sep.dc (hS83)))) : Sep _ (geL h.length) (c73++([])))⟩
theorem qhq {W:Nat→Bool}{h:Heap} (hW:∀ b,
  (geL h.length) b→W b=true) (k:Nat) (brokers_0:Int) (l_1:List Command) (r:Control × (List Int) × Bool)
  (hF:yu k brokers_0 l_1=some r) : Ret E W 9 [.int .i64 brokers_0,lst zh l_1] h (fun v h'=>∃ rv0_0 rc0_0 rv0_1 rc0_1 rv1 rc1,
  v = .tup [.agg [rv0_0,rv0_1,.int .i64 r.1.Next],rv1,
  .bool r.2.2]∧SlF qi 3 86 rv0_0 r.1.Brokers rc0_0∧SlN Partition.R 5 39 rv0_1 r.1.Parts rc0_1∧SlF cI 1 3 rv1 r.2.1 rc1∧Sep h' (geL h.length) (rc0_0 ++
  (rc0_1++(rc1++([]))))):=by
 refine Ret.of (fn:=x9) rfl (Run.of ?_)
 unfold yu at hF
 have zf0:zc [.int .i64 brokers_0,lst zh l_1] 0 = .int .i64 brokers_0:=rfl
 have zf1:zc [.int .i64 brokers_0,lst zh l_1] 1=lst zh l_1:=rfl
 generalize zc [.int .i64 brokers_0,lst zh l_1]=fr0 at zf0 zf1 ⊢
 have hS:Sep h (geL h.length) []:=Sep.nil h
 simp only [x9,qd,qc,jv,B0,reduceIte,reduceEqDiff]
 refine jc hS (fun b1 h2 hS3=>?_)
 obtain ⟨v5,hx6,hF7⟩:=ql hF
 simp only [qe,qa,qzc,qd,qc,zf0,zf,B0,reduceIte,reduceEqDiff]
 refine u7 rfl hS3 (qk qs zg) (qir (fun b hb=>decide_eq_true hb) k brokers_0 v5 hx6) ?_
 rintro _ h16 ⟨v8,c9,v12,c13,rfl,hv10,hv14,hS17⟩
 refine ⟨_,qgu (qt (qfg (qt (SlF.free1 hv10) (qt (SlN.free1 hv14) (qt rfl zr)))) (qt rfl zr)),hS17,
   (j5 (SlF.pf hv10 (fun _=>rfl)) (j5 (SlN.pf hv14 Partition.RO) we)),fun h18 hS19=>?_⟩
 have hS20:Sep h18 (geL h.length) (c9++(c13++([Blk1 b1 [.nil,.nil,.int .i64 0] 29]++([])))):=by simpa only [List.append_assoc,List.nil_append] using hS19
 simp only [qe,qff,qb,qfn,qfk,jv,B0,reduceIte,reduceEqDiff]
 refine jc hS20 (fun b21 h22 hS23=>?_)
 simp only [zn,B0,reduceIte,reduceEqDiff]
 refine zi (us:=[v8,v12,.int .i64 v5.1.Next]) rfl (cs':=[v8,v12,
   .int .i64 v5.1.Next]) hS23 hW rfl (qt (SlF.one hv10) (qt (SlN.one hv14) (qt rfl zr))) (nle rfl) rfl (fun h25 hS26=>?_)
 simp only [qe,qa,q3o,qd,qc,jl,qb,kd,B0,reduceIte,reduceEqDiff]
 refine zy 4 (fun fr' h'=>Sep h' (geL h.length) ([Blk1 b1 [.nil,.nil,.int .i64 0] 29]++([Blk1 b21 [v8,v12,
   .int .i64 v5.1.Next] 29]++(c9++(c13++([])))))∧fr' 26 = .bool ((!v5.2)||(decide ((80:Int) <
   (List.length l_1:Int))))∧fr' 1=lst zh l_1∧fr' 4 = .ptr b1 0∧fr' 7 = .ptr b21 0) (fun Q27 hN28=>?_) ?_
 ·simp only [List.take_succ_cons,List.take_zero]
  simp only [qf (g:=22),B0,reduceIte,reduceEqDiff]
  refine zd (t:=(!v5.2)) (fun hg29=>?_) (fun hg29=>?_)
  ·simp only [hg29,qf (g:=22),z4,qu,qb,zk,qa,qn,B0,reduceIte,reduceEqDiff]
   exact hN28 _ _ ⟨(Sep.m3 (Sep.m2 (Sep.m2 (Sep.m2 hS26)))),by rw [orT hg29]; simp only [B0,reduceIte,reduceEqDiff],zf1,rfl,rfl⟩
  ·simp only [hg29,qf (g:=22),qz,zf1,qe,zo,qb,zt,qp,qg7,qu,zj,qa,qn,B0,reduceIte,
    reduceEqDiff]
   exact hN28 _ _ ⟨(Sep.m3 (Sep.m2 (Sep.m2 (Sep.m2 hS26)))),by rw [orF hg29]; simp only [B0,reduceIte,reduceEqDiff],zf1,rfl,rfl⟩
 rintro fr30 h35 ⟨hS36,f31,f32,f33,f34⟩
 simp only [List.drop_succ_cons,List.drop_zero]
 simp only [qa,q6k,f31,qx,B0,reduceIte,reduceEqDiff]
 refine qr (t:=((!v5.2)||(decide ((80:Int)<(List.length l_1:Int))))) (fun hc37=>?_) (fun hc37=>?_)
 ·rw [iteT hc37] at hF7
  simp only [q61,qd,qc,run_build,evp,B0,reduceIte,reduceEqDiff]
  refine qg (v := .agg [.nil,.nil,.int .i64 0]) rfl ?_
  simp only [f33,zn,B0,reduceIte,reduceEqDiff]
  refine zi (us:=[.nil,.nil,.int .i64 0]) rfl (cs':=[.nil,.nil,.int .i64 0]) hS36 hW rfl rfl (nle rfl) rfl (fun h38 hS39=>?_)
  simp only [qe,qa,qv,B0,reduceIte,reduceEqDiff]
  have he:=qh hF7
  subst he
  refine kc (qk (kn (bb:=b1) (oo:=0) (v := .agg [.nil,.nil,
    .int .i64 0]) (f33) ((z7 (Sep.bk _ _ _ hS39)).trans rfl)) (qk (kz (v := .nil) (rfl)) (qk (kz (v := .bool false) (rfl)) zg))) ?_
  exact ⟨.nil,[],.nil,[],.nil,[],by first | trivial | rfl,SlF.nil,SlN.nil,SlF.nil,((Sep.dc ((Sep.dc ((Sep.dc ((Sep.dc (hS39)))))))) : Sep _ (geL h.length) ([]))⟩
 rw [iteF hc37] at hF7
 simp only [q8,qv4,qd,qc,qe,qa,qyn,f32,zo,qb,zt,B0,reduceIte,reduceEqDiff]
 obtain ⟨oc70,hX72,hk73⟩:=jh hF7
 simp only [qxr]
 refine ye (σ:=(List Int) × Control) l_1 (fun i68 x69 s148=>wl i68 x69 s148.1 s148.2) (fun s fr' h'=>∃ v56 c57 v61 c62 v65 c66,
   fr' 4 = .ptr b1 0∧fr' 7 = .ptr b21 0∧fr' 9=v56∧fr' 28=lst zh l_1∧SlF cI 1 3 v56 s.1 c57∧SlF qi 3 86 v61 s.2.Brokers c62∧SlN Partition.R 5 39 v65 s.2.Parts c66∧Sep h'
   (geL h.length) ([Blk1 b1 [.nil,.nil,.int .i64 0] 29]++([Blk1 b21 [v61,v65,.int .i64 s.2.Next] 29]++(c57++(c62++(c66++([]))))))) hX72 ⟨.nil,[],v8,c9,v12,
   c13,f33,f34,rfl,rfl,SlF.nil,hv10,hv14,((Sep.m3 (Sep.m3 (Sep.m3 (Sep.m3 hS36)))) : Sep _ (geL h.length) ([Blk1 b1 [.nil,.nil,.int .i64 0] 29]++([Blk1 b21 [v8,
   v12,.int .i64 v5.1.Next] 29]++(c9++(c13++([]))))))⟩ (by simp only [B0,reduceIte,reduceEqDiff]) (by simp only [B0,reduceIte,
   reduceEqDiff]) (fun _ _ _ h=>h) rfl rfl (fun _ _ _ _ h=>h) (fun _ _ _ _ h=>h) (fun _ _ _ _ h=>h) (by decide) ?_ ?_
 ·rintro i68 x69 ⟨s54,s59⟩ fr82 h83 hx89 ⟨v56,c57,v61,c62,v65,c66,f85,f86,f87,f88,hv58,hv63,hv67,hS84⟩ f90 f91 oc71 hF74 hr75 Q76 hN77 hB81 hK78 hR79 hE80
  dsimp only at *
  unfold wl at hF74
  simp only [q6m,qd,qc,f88,f90,zw,B0,reduceIte,reduceEqDiff]
  refine qg (v := .ref (zh x69) 0) (yg hx89 rfl) ?_
  simp only [qm,B0,reduceIte,reduceEqDiff]
  refine qg (v := .agg [.int .i64 x69.Kind,.int .i64 x69.Broker,.int .i64 x69.Epoch,.int .i64 x69.Part,.int .i64 x69.Stamp,lst cI x69.InStep]) rfl ?_
  simp only [jv,B0,reduceIte,reduceEqDiff]
  refine jc hS84 (fun b92 h93 hS94=>?_)
  simp only [zn,B0,reduceIte,reduceEqDiff]
  refine zi (us:=[.int .i64 x69.Kind,.int .i64 x69.Broker,.int .i64 x69.Epoch,.int .i64 x69.Part,.int .i64 x69.Stamp,
    lst cI x69.InStep]) rfl (cs':=[.int .i64 x69.Kind,.int .i64 x69.Broker,.int .i64 x69.Epoch,.int .i64 x69.Part,.int .i64 x69.Stamp,
    lst cI x69.InStep]) hS94 hW rfl rfl (nle rfl) rfl (fun h96 hS97=>?_)
  simp only [qa,B0,reduceIte,reduceEqDiff]
  refine zu hS97 hW (by simp only [B0,reduceIte,reduceEqDiff]) (fun h98 hS99=>?_)
  simp only [zx,q5k,qd,qc,f86,qm,B0,reduceIte,reduceEqDiff]
  refine qg (v := .agg [v61,v65,.int .i64 s59.Next]) ((z7 (Sep.bk _ _ _ (Sep.m1 hS99))).trans rfl) ?_
  simp only [qm,B0,reduceIte,reduceEqDiff]
  refine qg (v := .agg [.int .i64 x69.Kind,.int .i64 x69.Broker,.int .i64 x69.Epoch,.int .i64 x69.Part,.int .i64 x69.Stamp,lst cI x69.InStep]) rfl ?_
  obtain ⟨v100,hx101,hF102⟩:=ql hF74
  simp only [zf,B0,reduceIte,reduceEqDiff]
  refine u7 rfl hS99 (qk (jb (qk (SlF.snap hv63 (Sep.m3 hS99) rfl (fun _=>rfl) (fun _=>rfl)) (qk (SlN.snap hv67 _ (Sep.m4 hS99) rfl Partition.RO)
    (qk qs zg)))) (qk (jb (qk qs (qk qs (qk qs (qk qs (qk qs (qk zm zg))))))) zg))
    (qjf (fun b hb=>decide_eq_true hb) s59 x69 v100 hx101) ?_
  rintro _ h111 ⟨v103,c104,v107,c108,rfl,hv105,hv109,hS112⟩
  refine ⟨_,qgu (qt (qfg (qt (SlF.free1 hv105) (qt (SlN.free1 hv109) (qt rfl zr)))) (qt rfl (qt rfl zr))),hS112,
    (j5 (SlF.pf hv105 (fun _=>rfl)) (j5 (SlN.pf hv109 Partition.RO) we)),fun h113 hS114=>?_⟩
  have hS115:Sep h113 (geL h.length) (c104++(c108++([Blk1 b1 [.nil,.nil,.int .i64 0] 29]++([Blk1 b21 [v61,v65,
    .int .i64 s59.Next] 29]++(c57++(c62++(c66++([])))))))):=by simpa only [List.append_assoc,List.nil_append] using hS114
  simp only [qe,qff,qb,qfn,qfk,qj2,jv,B0,reduceIte,reduceEqDiff]
  refine jc hS115 (fun b116 h117 hS118=>?_)
  simp only [zn,B0,reduceIte,reduceEqDiff]
  refine zi (us:=[v103,v107,.int .i64 v100.1.Next]) rfl (cs':=[v103,v107,
    .int .i64 v100.1.Next]) hS118 hW rfl (qt (SlF.one hv105) (qt (SlN.one hv109) (qt rfl zr))) (nle rfl) rfl (fun h120 hS121=>?_)
  simp only [qe,qa,B0,reduceIte,reduceEqDiff]
  refine zu hS121 hW (by simp only [B0,reduceIte,reduceEqDiff]) (fun h122 hS123=>?_)
  simp only [zx,q5q,qd,qc,qe,jl,qb,kd,qa,q5o,qx,B0,reduceIte,reduceEqDiff]
  refine qr (t:=(!v100.2.2)) (fun hc124=>?_) (fun hc124=>?_)
  ·rw [iteT hc124] at hF102
   simp only [q63,qd,qc,run_build,evp,B0,reduceIte,reduceEqDiff]
   refine qg (v := .agg [.nil,.nil,.int .i64 0]) rfl ?_
   simp only [f85,zn,B0,reduceIte,reduceEqDiff]
   refine zi (us:=[.nil,.nil,.int .i64 0]) rfl (cs':=[.nil,.nil,.int .i64 0]) (Sep.m2 hS123) hW rfl rfl (nle rfl) rfl (fun h125 hS126=>?_)
   simp only [qe,qa,qv,B0,reduceIte,reduceEqDiff]
   have e127:=qh hF102
   subst e127
   have ho128:=hr75 _ rfl
   have hk129:=hk73
   rw [ho128] at hk129
   dsimp only [jnO] at hk129
   apply hR79
   have he:=qh hk129
   subst he
   refine kc (qk (kn (bb:=b1) (oo:=0) (v := .agg [.nil,.nil,
     .int .i64 0]) (f85) ((z7 (Sep.bk _ _ _ hS126)).trans rfl)) (qk (kz (v := .nil) (rfl)) (qk (kz (v := .bool false) (rfl)) zg))) ?_
   exact ⟨.nil,[],.nil,[],.nil,[],by first | trivial | rfl,SlF.nil,SlN.nil,SlF.nil,
     ((Sep.dc ((Sep.dc ((Sep.dc ((Sep.dc ((Sep.dc ((Sep.dc ((Sep.dc (hS126)))))))))))))) : Sep _ (geL h.length) ([]))⟩
  rw [iteF hc124] at hF102
  simp only [q8,q5t,qd,qc,qm,B0,reduceIte,reduceEqDiff]
  refine qg (v := .agg [v103,v107,.int .i64 v100.1.Next]) rfl ?_
  simp only [f86,zn,B0,reduceIte,reduceEqDiff]
  refine zi (us:=[v103,v107,.int .i64 v100.1.Next]) rfl (cs':=[v103,v107,
    .int .i64 v100.1.Next]) (Sep.m3 hS123) hW rfl (qt (SlF.one hv105) (qt (SlN.one hv109) (qt rfl zr))) (nle rfl) rfl (fun h130 hS131=>?_)
  simp only [qa,q6a,qc,f87,qe,y3,evp,B0,reduceIte,reduceEqDiff]
  refine yf (n:=1) (f:=cI) [v100.2.1] hS131 rfl rfl (fun v132 c133 h134 hv135 hS136=>?_)
  simp only [qa5,B0,reduceIte,reduceEqDiff]
  obtain ⟨l138,hx139,hF140⟩:=ql hF102
  refine uq (f:=cI) hv58 (Sep.m5 hS136) hW (fun _=>rfl) (fun _=>rfl) (SlF.first hv135 hS136 (fun _=>rfl)) hx139 (fun v141 c142 h143 hv144 hS145=>?_)
  simp only [qe,qa,qn,B0,reduceIte,reduceEqDiff]
  have e147:=qh hF140
  exact hN77 _ _ _ e147.symm ⟨v141,c142,v103,c104,v107,c108,f85,f86,rfl,f88,hv144,hv105,hv109,
    (Sep.m4 (Sep.m3 (Sep.m2 (Sep.m3 (Sep.m3 (Sep.dc (Sep.m5 (Sep.dc (Sep.m5 (Sep.dc (Sep.m1 hS145)))))))))))⟩ (f90) (f91)
 rintro ⟨s149,s154⟩ fr163 h164 rfl ⟨v151,c152,v156,c157,v160,c161,f166,f167,f168,f169,hv153,hv158,hv162,hS165⟩
 dsimp only [jnO] at hk73
 dsimp only at *
 unfold qdq at hk73
 simp only [qv5,qd,qc,f167,qm,B0,reduceIte,reduceEqDiff]
 refine qg (v := .agg [v156,v160,.int .i64 s154.Next]) ((z7 (Sep.bk _ _ _ (Sep.m1 hS165))).trans rfl) ?_
 simp only [f168,qe,f166,zn,B0,reduceIte,reduceEqDiff]
 refine zi (us:=[v156,v160,.int .i64 s154.Next]) rfl (cs':=[v156,v160,
   .int .i64 s154.Next]) hS165 hW rfl (qt (SlF.one hv158) (qt (SlN.one hv162) (qt rfl zr))) (nle rfl) rfl (fun h170 hS171=>?_)
 simp only [qe,qa,qv,B0,reduceIte,reduceEqDiff]
 have he:=qh hk73
 subst he
 refine kc (qk (kn (bb:=b1) (oo:=0) (v := .agg [v156,v160,
   .int .i64 s154.Next]) (f166) ((z7 (Sep.bk _ _ _ hS171)).trans rfl)) (qk (kz (v:=v151) (rfl)) (qk (kz (v := .bool true) (rfl)) zg))) ?_
 exact ⟨v156,c157,v160,c161,v151,c152,by first | trivial | rfl,hv158,hv162,hv153,(Sep.m2 (Sep.m2 (Sep.dc ((Sep.dc (hS171))))))⟩
theorem qk9 {W:Nat→Bool}{h:Heap} (hW:∀ b,
  (geL h.length) b→W b=true) (a_0:List Int) (left_1:Int) (r:Int) (hF:qct a_0 left_1=some r) : Ret E W 70 [lst cI a_0,
  .int .i64 left_1] h (fun v h'=>cut h.length h' E.sz false 9 v=some (.int .i64 r)):=by
 refine Ret.of (fn:=x70) rfl (Run.of ?_)
 unfold qct at hF
 have zf0:zc [lst cI a_0,.int .i64 left_1] 0=lst cI a_0:=rfl
 have zf1:zc [lst cI a_0,.int .i64 left_1] 1 = .int .i64 left_1:=rfl
 generalize zc [lst cI a_0,.int .i64 left_1]=fr0 at zf0 zf1 ⊢
 have hS:Sep h (geL h.length) []:=Sep.nil h
 simp only [x70,qd,qc,qe,qa,qxf,zf1,zf0,zo,qb,zt,qp,qh1,q34,yl,qx,B0,reduceIte,reduceEqDiff]
 refine qr (t:=(decide ((IntKind.wrap .i64 (left_1 - (List.length a_0:Int)))<0))) (fun hc1=>?_) (fun hc1=>?_)
 ·rw [iteT hc1] at hF
  simp only [qd,qc,qe,qa,qv,B0,reduceIte,reduceEqDiff]
  have he:=qh hF
  subst he
  simp only [qw,B0,reduceIte,reduceEqDiff]
  exact rfl
 rw [iteF hc1] at hF
 simp only [q8,qd,qc,qe,qa,qv,B0,reduceIte,reduceEqDiff]
 have he:=qh hF
 subst he
 simp only [qw,B0,reduceIte,reduceEqDiff]
 exact rfl
end Go.Proofs.Ytjloihcijdcpeaa.X
namespace Go.Proofs.Ytjloihcijdcpeaa.X
open Go
open Nat (reduceEqDiff)
theorem qi3 {W:Nat→Bool}{h:Heap} (hW:∀ b,
  (geL h.length) b→W b=true) (a_0:Command) (left_1:Int) (r:Int) (hF:qbf a_0 left_1=some r) : Ret E W 40 [.agg [.int .i64 a_0.Kind,.int .i64 a_0.Broker,
  .int .i64 a_0.Epoch,.int .i64 a_0.Part,.int .i64 a_0.Stamp,lst cI a_0.InStep],.int .i64 left_1] h (fun v h'=>cut h.length h' E.sz false 9 v=some (.int .i64 r)):=by
 refine Ret.of (fn:=x40) rfl (Run.of ?_)
 unfold qbf at hF
 have zf0:zc [.agg [.int .i64 a_0.Kind,.int .i64 a_0.Broker,.int .i64 a_0.Epoch,.int .i64 a_0.Part,.int .i64 a_0.Stamp,lst cI a_0.InStep],
   .int .i64 left_1] 0 = .agg [.int .i64 a_0.Kind,.int .i64 a_0.Broker,.int .i64 a_0.Epoch,.int .i64 a_0.Part,.int .i64 a_0.Stamp,lst cI a_0.InStep]:=rfl
 have zf1:zc [.agg [.int .i64 a_0.Kind,.int .i64 a_0.Broker,.int .i64 a_0.Epoch,.int .i64 a_0.Part,.int .i64 a_0.Stamp,lst cI a_0.InStep],
   .int .i64 left_1] 1 = .int .i64 left_1:=rfl
 generalize zc [.agg [.int .i64 a_0.Kind,.int .i64 a_0.Broker,.int .i64 a_0.Epoch,.int .i64 a_0.Part,.int .i64 a_0.Stamp,lst cI a_0.InStep],
   .int .i64 left_1]=fr0 at zf0 zf1 ⊢
 have hS:Sep h (geL h.length) []:=Sep.nil h
 simp only [x40,qd,qc,jm,zf0,B0,reduceIte,reduceEqDiff]
 refine z8 (cs:=[.int .i64 a_0.Kind,.int .i64 a_0.Broker,.int .i64 a_0.Epoch,.int .i64 a_0.Part,.int .i64 a_0.Stamp,
   lst cI a_0.InStep]) hS rfl rfl rfl (fun b1 h2 hS3=>?_)
 simp only [qe,qa,B0,reduceIte,reduceEqDiff]
 refine zu hS3 hW (by simp only [B0,reduceIte,reduceEqDiff]) (fun h5 hS6=>?_)
 simp only [zx,qy9,qd,qc,qo,qb,Nat.reduceAdd,Nat.zero_add,Nat.add_zero,qq,qm,B0,reduceIte,reduceEqDiff]
 refine qg (v:=lst cI a_0.InStep) rfl ?_
 obtain ⟨v7,hx8,hF9⟩:=ql hF
 simp only [zf1,qe,zf,B0,reduceIte,reduceEqDiff]
 refine ja rfl (qk zm (qk qs zg)) (qk9 (fun b hb=>decide_eq_true hb) a_0.InStep left_1 v7 hx8) ?_
 simp only [qe,qa,q3z,qd,qc,qp,qb,yl,qx,B0,reduceIte,reduceEqDiff]
 refine qr (t:=(decide (v7<0))) (fun hc10=>?_) (fun hc10=>?_)
 ·rw [iteT hc10] at hF9
  simp only [qd,qc,qe,qa,qv,B0,reduceIte,reduceEqDiff]
  have he:=qh hF9
  subst he
  simp only [qw,B0,reduceIte,reduceEqDiff]
  exact rfl
 rw [iteF hc10] at hF9
 simp only [q8,qd,qc,qe,qa,qv,B0,reduceIte,reduceEqDiff]
 have he:=qh hF9
 subst he
 simp only [qw,B0,reduceIte,reduceEqDiff]
 exact rfl
theorem qis {W:Nat→Bool}{h:Heap} (hW:∀ b,
  (geL h.length) b→W b=true) (k:Nat) (a_0:List Command) (left_1:Int) (r:Int) (hF:qap k a_0 left_1=some r) : Ret E W 29 [lst zh a_0,
  .int .i64 left_1] h (fun v h'=>cut h.length h' E.sz false 9 v=some (.int .i64 r)):=by
 refine Ret.of (fn:=x29) rfl (Run.of ?_)
 unfold qap at hF
 have zf0:zc [lst zh a_0,.int .i64 left_1] 0=lst zh a_0:=rfl
 have zf1:zc [lst zh a_0,.int .i64 left_1] 1 = .int .i64 left_1:=rfl
 generalize zc [lst zh a_0,.int .i64 left_1]=fr0 at zf0 zf1 ⊢
 have hS:Sep h (geL h.length) []:=Sep.nil h
 simp only [x29,qd,qc,qe,qa,q23,zf1,zf0,zo,qb,zt,qp,qh1,q2j,yl,qx,B0,reduceIte,reduceEqDiff]
 refine qr (t:=(decide ((IntKind.wrap .i64 (left_1 - (List.length a_0:Int)))<0))) (fun hc1=>?_) (fun hc1=>?_)
 ·rw [iteT hc1] at hF
  simp only [qd,qc,qe,qa,qv,B0,reduceIte,reduceEqDiff]
  have he:=qh hF
  subst he
  simp only [qw,B0,reduceIte,reduceEqDiff]
  exact rfl
 rw [iteF hc1] at hF
 simp only [q8,q0l,qd,qc,qe,qa,B0,reduceIte,reduceEqDiff]
 obtain ⟨oc8,hX10,hk11⟩:=jh hF
 simp only [qw2]
 refine xh (σ:=Int × Int) (fun s40=>xw a_0 s40.1 s40.2)
   (fun s fr' h'=>fr' 0=lst zh a_0∧fr' 1 = .int .i64 s.1∧fr' 5 = .int .i64 s.2∧Sep h' (geL h.length) ([])) hX10 ⟨zf0,rfl,rfl,hS⟩ (fun _ _ _ h=>h) ?_ ?_
 ·rintro ⟨s4,s5⟩ fr20 h21 ⟨f23,f24,f25,hS22⟩ oc9 hF12 hr13 Q14 hN15 hK16 hR17 hE18
  dsimp only at *
  unfold xw at hF12
  simp only [qyq,qd,qc,f25,qe,f23,zo,qb,zt,qp,yl,qa,qx,B0,reduceIte,reduceEqDiff]
  refine qr (t:=(decide (s5<(List.length a_0:Int)))) (fun hc27=>?_) (fun hc27=>?_)
  ·rw [iteT hc27] at hF12
   obtain ⟨x28,hx29,hF30⟩:=ql hF12
   simp only [q8,q2m,qd,jy,q0q,qc,f23,qe,f25,zw,B0,reduceIte,reduceEqDiff]
   refine qg (v := .ref (zh x28) 0) (kf hx29 rfl) ?_
   simp only [qm,B0,reduceIte,reduceEqDiff]
   refine qg (v := .agg [.int .i64 x28.Kind,.int .i64 x28.Broker,.int .i64 x28.Epoch,.int .i64 x28.Part,.int .i64 x28.Stamp,lst cI x28.InStep]) rfl ?_
   obtain ⟨v31,hx32,hF33⟩:=ql hF30
   simp only [f24,qe,zf,B0,reduceIte,reduceEqDiff]
   refine ja rfl (qk (jb (qk qs (qk qs (qk qs (qk qs (qk qs (qk zm zg))))))) (qk qs zg))
     (qi3 (fun b hb=>decide_eq_true hb) x28 s4 v31 hx32) ?_
   simp only [qe,qa,q0g,qd,qc,qp,qb,yl,qx,B0,reduceIte,reduceEqDiff]
   refine qr (t:=(decide (v31<0))) (fun hc34=>?_) (fun hc34=>?_)
   ·rw [iteT hc34] at hF33
    simp only [qd,qc,qe,qa,qv,B0,reduceIte,reduceEqDiff]
    have e35:=qh hF33
    subst e35
    have ho36:=hr13 _ rfl
    have hk37:=hk11
    rw [ho36] at hk37
    dsimp only [jnO] at hk37
    apply hR17
    have he:=qh hk37
    subst he
    simp only [qw,B0,reduceIte,reduceEqDiff]
    exact rfl
   rw [iteF hc34] at hF33
   simp only [q8,kh,qc,f25,qe,qp,qb,k7,qa,qn,B0,reduceIte,reduceEqDiff]
   have e38:=qh hF33
   exact hN15 _ _ _ e38.symm ⟨f23,rfl,rfl,hS22⟩
  rw [iteF hc27] at hF12
  simp only [yv,yk,wb,B0,reduceIte,reduceEqDiff]
  have e39:=qh hF12
  exact hK16 _ _ _ e39.symm ⟨f23,f24,f25,hS22⟩
 rintro ⟨s41,s42⟩ fr43 h44 rfl ⟨f46,f47,f48,hS45⟩
 dsimp only [jnO] at hk11
 dsimp only at *
 unfold qel at hk11
 simp only [qd,qc,f47,qe,qa,qv,B0,reduceIte,reduceEqDiff]
 have he:=qh hk11
 subst he
 simp only [qw,B0,reduceIte,reduceEqDiff]
 exact rfl
theorem qk6 {W:Nat→Bool}{h:Heap} (hW:∀ b,
  (geL h.length) b→W b=true) (k:Nat) (a_0:List Int) (r:List Int) (hF:qcw k a_0=some r) : Ret E W 73 [lst cI a_0] h (fun v h'=>∃ rv0 rc0,
  v=rv0∧SlF cI 1 3 rv0 r rc0∧Sep h' (geL h.length) (rc0++([]))):=by
 refine Ret.of (fn:=x73) rfl (Run.of ?_)
 unfold qcw at hF
 have zf0:zc [lst cI a_0] 0=lst cI a_0:=rfl
 generalize zc [lst cI a_0]=fr0 at zf0 ⊢
 have hS:Sep h (geL h.length) []:=Sep.nil h
 obtain ⟨l1,hx2,hF3⟩:=ql hF
 simp only [x73,qd,qc,qe,qa,q1m,zf0,zo,qb,zt,qnj,B0,reduceIte,reduceEqDiff]
 refine qta (f:=cI) (z:=(0:Int)) hS hx2 rfl (fun v4 c5 h6 hv7 hS8=>?_)
 simp only [qe,qa,qza,qd,qc,B0,reduceIte,reduceEqDiff]
 obtain ⟨oc20,hX22,hk23⟩:=jh hF3
 simp only [qxg]
 refine xh (σ:=Int × (List Int)) (fun s55=>qa6 a_0 s55.1 s55.2) (fun s fr' h'=>∃ c16,
   fr' 0=lst cI a_0∧fr' 3=v4∧fr' 4 = .int .i64 s.1∧SlF cI 1 3 v4 s.2 c16∧Sep h' (geL h.length) (c16++([]))) hX22 ⟨c5,zf0,rfl,rfl,hv7,
   hS8⟩ (fun _ _ _ h=>h) ?_ ?_
 ·rintro ⟨s14,s15⟩ fr32 h33 ⟨c16,f35,f36,f37,hv17,hS34⟩ oc21 hF24 hr25 Q26 hN27 hK28 hR29 hE30
  dsimp only at *
  unfold qa6 at hF24
  simp only [qw0,qd,qc,f37,qe,f35,zo,qb,zt,qp,yl,qa,qx,B0,reduceIte,reduceEqDiff]
  refine qr (t:=(decide (s14<(List.length a_0:Int)))) (fun hc39=>?_) (fun hc39=>?_)
  ·rw [iteT hc39] at hF24
   obtain ⟨x40,hx41,hF42⟩:=ql hF24
   simp only [q8,qvu,qd,jy,qwc,qc,f36,qe,f37,f35,zw,B0,reduceIte,reduceEqDiff]
   refine qg (v := .ref (cI x40) 0) (kf hx41 rfl) ?_
   simp only [qm,B0,reduceIte,reduceEqDiff]
   refine qg (v := .int .i64 x40) rfl ?_
   obtain ⟨x43,hx44,hF45⟩:=ql hF42
   simp only [zw,B0,reduceIte,reduceEqDiff]
   obtain ⟨b46,hb47⟩:=SlF.isrow hv17 (k8 hx44)
   refine qg (SlF.ia hv17 hb47 hx44) ?_
   simp only [zn,B0,reduceIte,reduceEqDiff]
   refine ue (f:=cI) (x':=x40) (o:=0) hv17 hS34 hW hb47 hx44 (fun _=>rfl) rfl rfl (nle rfl) rfl (fun c50 h48 hv51 hS49=>?_)
   have hx52:=ka (x':=x40) hx44
   simp only [qa,kh,qc,f37,qe,qp,qb,k7,qn,B0,reduceIte,reduceEqDiff]
   have e53:=qh hF45
   exact hN27 _ _ _ e53.symm ⟨c50,f35,f36,rfl,hv51,hS49⟩
  rw [iteF hc39] at hF24
  simp only [yv,yk,wb,B0,reduceIte,reduceEqDiff]
  have e54:=qh hF24
  exact hK28 _ _ _ e54.symm ⟨c16,f35,f36,f37,hv17,hS34⟩
 rintro ⟨s56,s57⟩ fr60 h61 rfl ⟨c58,f63,f64,f65,hv59,hS62⟩
 dsimp only [jnO] at hk23
 dsimp only at *
 unfold qgs at hk23
 simp only [qd,qc,f64,qe,qa,qv,B0,reduceIte,reduceEqDiff]
 have he:=qh hk23
 subst he
 simp only [qw,B0,reduceIte,reduceEqDiff]
 exact ⟨v4,c58,by first | trivial | rfl,hv59,hS62⟩
theorem qjc {W:Nat→Bool}{h:Heap} (hW:∀ b,
  (geL h.length) b→W b=true) (k:Nat) (a_0:Command) (r:Command) (hF:qbj k a_0=some r) : Ret E W 42 [.agg [.int .i64 a_0.Kind,.int .i64 a_0.Broker,
  .int .i64 a_0.Epoch,.int .i64 a_0.Part,.int .i64 a_0.Stamp,lst cI a_0.InStep]] h (fun v h'=>∃ rv0_5 rc0_5,v = .agg [.int .i64 r.Kind,.int .i64 r.Broker,
  .int .i64 r.Epoch,.int .i64 r.Part,.int .i64 r.Stamp,rv0_5]∧SlF cI 1 3 rv0_5 r.InStep rc0_5∧Sep h' (geL h.length) (rc0_5++([]))):=by
 refine Ret.of (fn:=x42) rfl (Run.of ?_)
 unfold qbj at hF
 have zf0:zc [.agg [.int .i64 a_0.Kind,.int .i64 a_0.Broker,.int .i64 a_0.Epoch,.int .i64 a_0.Part,.int .i64 a_0.Stamp,lst cI a_0.InStep]] 0 = .agg [.int .i64 a_0.Kind,
   .int .i64 a_0.Broker,.int .i64 a_0.Epoch,.int .i64 a_0.Part,.int .i64 a_0.Stamp,lst cI a_0.InStep]:=rfl
 generalize zc [.agg [.int .i64 a_0.Kind,.int .i64 a_0.Broker,.int .i64 a_0.Epoch,.int .i64 a_0.Part,.int .i64 a_0.Stamp,lst cI a_0.InStep]]=fr0 at zf0 ⊢
 have hS:Sep h (geL h.length) []:=Sep.nil h
 simp only [x42,qd,qc,jm,zf0,B0,reduceIte,reduceEqDiff]
 refine z8 (cs:=[.int .i64 a_0.Kind,.int .i64 a_0.Broker,.int .i64 a_0.Epoch,.int .i64 a_0.Part,.int .i64 a_0.Stamp,
   lst cI a_0.InStep]) hS rfl rfl rfl (fun b1 h2 hS3=>?_)
 simp only [jv,B0,reduceIte,reduceEqDiff]
 refine jc hS3 (fun b5 h6 hS7=>?_)
 simp only [qa,B0,reduceIte,reduceEqDiff]
 refine zu (Sep.m1 hS7) hW (by simp only [B0,reduceIte,reduceEqDiff]) (fun h9 hS10=>?_)
 simp only [zx,q3q,qd,qc,jv,B0,reduceIte,reduceEqDiff]
 refine jc hS10 (fun b11 h12 hS13=>?_)
 simp only [qa,q0c,qd,qc,qo,qb,Nat.reduceAdd,Nat.zero_add,Nat.add_zero,qq,qm,B0,reduceIte,reduceEqDiff]
 refine qg (v := .int .i64 a_0.Kind) rfl ?_
 simp only [qo,qb,Nat.reduceAdd,Nat.zero_add,Nat.add_zero,za,zn,B0,reduceIte,reduceEqDiff]
 refine zi (us:=[.int .i64 a_0.Kind]) rfl (cs':=[.int .i64 a_0.Kind,.int .i64 0,.int .i64 0,.int .i64 0,.int .i64 0,
   .nil]) hS13 hW rfl rfl (nle rfl) rfl (fun h15 hS16=>?_)
 simp only [qa,qv0,qd,qc,qo,qb,Nat.reduceAdd,Nat.zero_add,Nat.add_zero,qq,qm,B0,reduceIte,reduceEqDiff]
 refine qg (v := .int .i64 a_0.Broker) rfl ?_
 simp only [qo,qb,Nat.reduceAdd,Nat.zero_add,Nat.add_zero,za,zn,B0,reduceIte,reduceEqDiff]
 refine zi (us:=[.int .i64 a_0.Broker]) rfl (cs':=[.int .i64 a_0.Kind,.int .i64 a_0.Broker,.int .i64 0,.int .i64 0,.int .i64 0,
   .nil]) hS16 hW rfl rfl (nle rfl) rfl (fun h17 hS18=>?_)
 simp only [qa,q4a,qd,qc,qo,qb,Nat.reduceAdd,Nat.zero_add,Nat.add_zero,qq,qm,B0,reduceIte,reduceEqDiff]
 refine qg (v := .int .i64 a_0.Epoch) rfl ?_
 simp only [qo,qb,Nat.reduceAdd,Nat.zero_add,Nat.add_zero,za,zn,B0,reduceIte,reduceEqDiff]
 refine zi (us:=[.int .i64 a_0.Epoch]) rfl (cs':=[.int .i64 a_0.Kind,.int .i64 a_0.Broker,.int .i64 a_0.Epoch,.int .i64 0,.int .i64 0,
   .nil]) hS18 hW rfl rfl (nle rfl) rfl (fun h19 hS20=>?_)
 simp only [qa,qzs,qd,qc,qo,qb,Nat.reduceAdd,Nat.zero_add,Nat.add_zero,qq,qm,B0,reduceIte,reduceEqDiff]
 refine qg (v := .int .i64 a_0.Part) rfl ?_
 simp only [qo,qb,Nat.reduceAdd,Nat.zero_add,Nat.add_zero,za,zn,B0,reduceIte,reduceEqDiff]
 refine zi (us:=[.int .i64 a_0.Part]) rfl (cs':=[.int .i64 a_0.Kind,.int .i64 a_0.Broker,.int .i64 a_0.Epoch,.int .i64 a_0.Part,.int .i64 0,
   .nil]) hS20 hW rfl rfl (nle rfl) rfl (fun h21 hS22=>?_)
 simp only [qa,qx3,qd,qc,qo,qb,Nat.reduceAdd,Nat.zero_add,Nat.add_zero,qq,qm,B0,reduceIte,reduceEqDiff]
 refine qg (v := .int .i64 a_0.Stamp) rfl ?_
 simp only [qo,qb,Nat.reduceAdd,Nat.zero_add,Nat.add_zero,za,zn,B0,reduceIte,reduceEqDiff]
 refine zi (us:=[.int .i64 a_0.Stamp]) rfl (cs':=[.int .i64 a_0.Kind,.int .i64 a_0.Broker,.int .i64 a_0.Epoch,.int .i64 a_0.Part,.int .i64 a_0.Stamp,
   .nil]) hS22 hW rfl rfl (nle rfl) rfl (fun h23 hS24=>?_)
 simp only [qa,qvs,qd,qc,qo,qb,Nat.reduceAdd,Nat.zero_add,Nat.add_zero,qq,qm,B0,reduceIte,reduceEqDiff]
 refine qg (v:=lst cI a_0.InStep) rfl ?_
 obtain ⟨v25,hx26,hF27⟩:=ql hF
 simp only [zf,B0,reduceIte,reduceEqDiff]
 refine u7 rfl hS24 (qk zm zg) (qk6 (fun b hb=>decide_eq_true hb) k a_0.InStep v25 hx26) ?_
 rintro v28 h32 ⟨_,c29,rfl,hv30,hS33⟩
 refine ⟨_,qhs (SlF.free1 hv30),hS33,(j5 (SlF.pf hv30 (fun _=>rfl)) we),fun h34 hS35=>?_⟩
 have hS36:Sep h34 (geL h.length) (c29++([Blk1 b11 [.int .i64 a_0.Kind,.int .i64 a_0.Broker,.int .i64 a_0.Epoch,.int .i64 a_0.Part,.int .i64 a_0.Stamp,
   .nil] 44]++([Blk1 b5 [.int .i64 0,.int .i64 0,.int .i64 0,.int .i64 0,.int .i64 0,.nil] 44]++([])))):=by simpa only [List.append_assoc,List.nil_append] using hS35
 simp only [qo,qb,Nat.reduceAdd,Nat.zero_add,Nat.add_zero,za,zn,B0,reduceIte,reduceEqDiff]
 refine zi (us:=[v28]) (ko (SlF.one hv30)) (cs':=[.int .i64 a_0.Kind,.int .i64 a_0.Broker,.int .i64 a_0.Epoch,.int .i64 a_0.Part,.int .i64 a_0.Stamp,
   v28]) (Sep.m1 hS36) hW rfl (qt (SlF.one hv30) zr) (nle rfl) rfl (fun h37 hS38=>?_)
 simp only [qa,qd,qc,qm,B0,reduceIte,reduceEqDiff]
 refine qg (v := .agg [.int .i64 a_0.Kind,.int .i64 a_0.Broker,.int .i64 a_0.Epoch,.int .i64 a_0.Part,.int .i64 a_0.Stamp,
   v28]) ((z7 (Sep.bk _ _ _ hS38)).trans rfl) ?_
 simp only [zn,B0,reduceIte,reduceEqDiff]
 refine zi (us:=[.int .i64 a_0.Kind,.int .i64 a_0.Broker,.int .i64 a_0.Epoch,.int .i64 a_0.Part,.int .i64 a_0.Stamp,v28]) rfl (cs':=[.int .i64 a_0.Kind,
   .int .i64 a_0.Broker,.int .i64 a_0.Epoch,.int .i64 a_0.Part,.int .i64 a_0.Stamp,
   v28]) (Sep.m2 hS38) hW rfl (qt rfl (qt rfl (qt rfl (qt rfl (qt rfl (qt (SlF.one hv30) zr)))))) (nle rfl) rfl (fun h39 hS40=>?_)
 simp only [qa,qv,B0,reduceIte,reduceEqDiff]
 have he:=qh hF27
 subst he
 refine qb8 (bb:=b5) (oo:=0) (v := .agg [.int .i64 a_0.Kind,.int .i64 a_0.Broker,.int .i64 a_0.Epoch,.int .i64 a_0.Part,.int .i64 a_0.Stamp,
   v28]) (by simp only [B0,reduceIte,reduceEqDiff]) ((z7 (Sep.bk _ _ _ hS40)).trans rfl) ?_
 exact ⟨v28,c29,by first | trivial | rfl,hv30,(Sep.dc ((Sep.dc (hS40))))⟩
theorem qaz {W:Nat→Bool}{h:Heap} (hW:∀ b,
  (geL h.length) b→W b=true) (k:Nat) (a_0:List Command) (r:List Command) (hF:yx k a_0=some r) : Ret E W 30 [lst zh a_0] h
  (fun v h'=>∃ rv0 rc0,v=rv0∧SlN Command.R 6 44 rv0 r rc0∧Sep h' (geL h.length) (rc0++([]))):=by
 refine Ret.of (fn:=x30) rfl (Run.of ?_)
 unfold yx at hF
 have zf0:zc [lst zh a_0] 0=lst zh a_0:=rfl
 generalize zc [lst zh a_0]=fr0 at zf0 ⊢
 have hS:Sep h (geL h.length) []:=Sep.nil h
 obtain ⟨l1,hx2,hF3⟩:=ql hF
 simp only [x30,qd,qc,qe,qa,qxb,zf0,zo,qb,zt,qnj,B0,reduceIte,reduceEqDiff]
 refine qtz (R:=Command.R) (e:=(Command.mk (0:Int) (0:Int) (0:Int) (0:Int) (0:Int) [])) (z:=[.int .i64 0,.int .i64 0,.int .i64 0,.int .i64 0,
   .int .i64 0,.nil]) hS hx2 (Command.RI (x:=(Command.mk 0 0 0 0 0 [])) SlF.nil) rfl (fun v4 c5 h6 hv7 hS8=>?_)
 simp only [qe,qa,qw1,qd,qc,B0,reduceIte,reduceEqDiff]
 obtain ⟨oc20,hX22,hk23⟩:=jh hF3
 simp only [q0m]
 refine xh (σ:=Int × (List Command)) (fun s82=>xq k a_0 s82.1 s82.2) (fun s fr' h'=>∃ c16,
   fr' 0=lst zh a_0∧fr' 3=v4∧fr' 4 = .int .i64 s.1∧SlN Command.R 6 44 v4 s.2 c16∧Sep h' (geL h.length) (c16++([]))) hX22 ⟨c5,zf0,rfl,rfl,hv7,
   hS8⟩ (fun _ _ _ h=>h) ?_ ?_
 ·rintro ⟨s14,s15⟩ fr32 h33 ⟨c16,f35,f36,f37,hv17,hS34⟩ oc21 hF24 hr25 Q26 hN27 hK28 hR29 hE30
  dsimp only at *
  unfold xq at hF24
  simp only [qxh,qd,qc,f37,qe,f35,zo,qb,zt,qp,yl,qa,qx,B0,reduceIte,reduceEqDiff]
  refine qr (t:=(decide (s14<(List.length a_0:Int)))) (fun hc39=>?_) (fun hc39=>?_)
  ·rw [iteT hc39] at hF24
   obtain ⟨x40,hx41,hF42⟩:=ql hF24
   simp only [q8,qxw,qd,jy,q0j,qc,f36,qe,f37,f35,zw,B0,reduceIte,reduceEqDiff]
   refine qg (v := .ref (zh x40) 0) (kf hx41 rfl) ?_
   simp only [qm,B0,reduceIte,reduceEqDiff]
   refine qg (v := .agg [.int .i64 x40.Kind,.int .i64 x40.Broker,.int .i64 x40.Epoch,.int .i64 x40.Part,.int .i64 x40.Stamp,lst cI x40.InStep]) rfl ?_
   obtain ⟨v43,hx44,hF45⟩:=ql hF42
   simp only [zf,B0,reduceIte,reduceEqDiff]
   refine u7 rfl hS34 (qk (jb (qk qs (qk qs (qk qs (qk qs (qk qs (qk zm zg))))))) zg) (qjc
     (fun b hb=>decide_eq_true hb) k x40 v43 hx44) ?_
   rintro _ h50 ⟨v46,c47,rfl,hv48,hS51⟩
   refine ⟨_,qeu (qt rfl (qt rfl (qt rfl (qt rfl (qt rfl (qt (SlF.free1 hv48) zr)))))),hS51,(j5 (SlF.pf hv48 (fun _=>rfl)) we),
     fun h52 hS53=>?_⟩
   have hS54:Sep h52 (geL h.length) (c47++(c16++([]))):=by simpa only [List.append_assoc,List.nil_append] using hS53
   obtain ⟨x55,hx56,hF57⟩:=ql hF45
   simp only [zw,B0,reduceIte,reduceEqDiff]
   obtain ⟨b58,hb59⟩:=SlN.isrow hv17 (k8 hx56)
   refine qg (SlN.ia hv17 hb59 hx56) ?_
   obtain ⟨c62,cs63,os64,hv65,hR66,hS67⟩:=SlG.opn (SlN.toG hv17 hb59 Command.RO.len) hx56 js Command.RO.len (Sep.m1 hS54)
   obtain ⟨v69,c70,hv71,rfl,rfl⟩:=hR66
   have hS68:=Sep.no1 hS67
   simp only [zn,B0,reduceIte,reduceEqDiff]
   refine ya (n:=6) (us:=[.int .i64 v43.Kind,.int .i64 v43.Broker,.int .i64 v43.Epoch,.int .i64 v43.Part,.int .i64 v43.Stamp,v46]) (cs:=[.int .i64 x55.Kind,
     .int .i64 x55.Broker,.int .i64 x55.Epoch,.int .i64 x55.Part,.int .i64 x55.Stamp,v69]) (o:=0) (cs':=[.int .i64 v43.Kind,.int .i64 v43.Broker,
     .int .i64 v43.Epoch,.int .i64 v43.Part,.int .i64 v43.Stamp,
     v46]) rfl hv65 rfl hx56 hS68 hW rfl (qt rfl (qt rfl (qt rfl (qt rfl (qt rfl (qt (SlF.one hv48) zr)))))) (nle rfl) rfl (fun c73 h60 hv74 hS61=>?_)
   simp only [qa,kh,qc,f37,qe,qp,qb,k7,qn,B0,reduceIte,reduceEqDiff]
   obtain ⟨c75,hv76,hS77⟩:=SlG.cls (e':=v43) (c:=c73) (os:=c47) hv74 rfl hx56 js (Command.RI (x:=v43) hv48) (Sep.m1 (Sep.m2 hS61))
   have hx78:=ka (x':=v43) hx56
   have hv79:=SlG.toN hv76
   have e80:=qh hF57
   exact hN27 _ _ _ e80.symm ⟨c75,f35,f36,rfl,hv79,(Sep.dc (Sep.m1 hS77))⟩
  rw [iteF hc39] at hF24
  simp only [yv,yk,wb,B0,reduceIte,reduceEqDiff]
  have e81:=qh hF24
  exact hK28 _ _ _ e81.symm ⟨c16,f35,f36,f37,hv17,hS34⟩
 rintro ⟨s83,s84⟩ fr87 h88 rfl ⟨c85,f90,f91,f92,hv86,hS89⟩
 dsimp only [jnO] at hk23
 dsimp only at *
 unfold qew at hk23
 simp only [qd,qc,f91,qe,qa,qv,B0,reduceIte,reduceEqDiff]
 have he:=qh hk23
 subst he
 simp only [qw,B0,reduceIte,reduceEqDiff]
 exact ⟨v4,c85,by first | trivial | rfl,hv86,hS89⟩
theorem qj6 {W:Nat→Bool}{h:Heap} (hW:∀ b,
  (geL h.length) b→W b=true) (a_0:Broker) (b_1:Broker) (r:Bool) (hF:qbp a_0 b_1=some r) : Ret E W 88 [.agg [.int .i64 a_0.Epoch,.int .i64 a_0.Left,
  .bool a_0.Fenced],.agg [.int .i64 b_1.Epoch,.int .i64 b_1.Left,.bool b_1.Fenced]] h (fun v h'=>cut h.length h' E.sz false 9 v=some (.bool r)):=by
 refine Ret.of (fn:=x88) rfl (Run.of ?_)
 unfold qbp at hF
 have zf0:zc [.agg [.int .i64 a_0.Epoch,.int .i64 a_0.Left,.bool a_0.Fenced],.agg [.int .i64 b_1.Epoch,.int .i64 b_1.Left,
   .bool b_1.Fenced]] 0 = .agg [.int .i64 a_0.Epoch,.int .i64 a_0.Left,.bool a_0.Fenced]:=rfl
 have zf1:zc [.agg [.int .i64 a_0.Epoch,.int .i64 a_0.Left,.bool a_0.Fenced],.agg [.int .i64 b_1.Epoch,.int .i64 b_1.Left,
   .bool b_1.Fenced]] 1 = .agg [.int .i64 b_1.Epoch,.int .i64 b_1.Left,.bool b_1.Fenced]:=rfl
 generalize zc [.agg [.int .i64 a_0.Epoch,.int .i64 a_0.Left,.bool a_0.Fenced],.agg [.int .i64 b_1.Epoch,.int .i64 b_1.Left,.bool b_1.Fenced]]=fr0 at zf0 zf1 ⊢
 have hS:Sep h (geL h.length) []:=Sep.nil h
 simp only [x88,qd,qc,jm,zf0,B0,reduceIte,reduceEqDiff]
 refine z8 (cs:=[.int .i64 a_0.Epoch,.int .i64 a_0.Left,.bool a_0.Fenced]) hS rfl rfl rfl (fun b1 h2 hS3=>?_)
 simp only [jm,zf1,B0,reduceIte,reduceEqDiff]
 refine z8 (cs:=[.int .i64 b_1.Epoch,.int .i64 b_1.Left,.bool b_1.Fenced]) hS3 rfl rfl rfl (fun b5 h6 hS7=>?_)
 simp only [qe,qa,B0,reduceIte,reduceEqDiff]
 refine zu (Sep.m1 hS7) hW (by simp only [B0,reduceIte,reduceEqDiff]) (fun h9 hS10=>?_)
 refine zu hS10 hW (by simp only [B0,reduceIte,reduceEqDiff]) (fun h11 hS12=>?_)
 simp only [zx,q4d,qd,qc,qo,qb,Nat.reduceAdd,Nat.zero_add,Nat.add_zero,qq,qm,B0,reduceIte,reduceEqDiff]
 refine qg (v := .int .i64 a_0.Epoch) rfl ?_
 simp only [qo,qb,Nat.reduceAdd,Nat.zero_add,Nat.add_zero,qq,qm,B0,reduceIte,reduceEqDiff]
 refine qg (v := .int .i64 b_1.Epoch) rfl ?_
 simp only [qp,qb,kx,qa,qx,B0,reduceIte,reduceEqDiff]
 refine qr (t:=(decide (a_0.Epoch≠b_1.Epoch))) (fun hc13=>?_) (fun hc13=>?_)
 ·rw [iteT hc13] at hF
  simp only [qd,qc,qe,qa,qv,B0,reduceIte,reduceEqDiff]
  have he:=qh hF
  subst he
  simp only [qw,B0,reduceIte,reduceEqDiff]
  exact rfl
 rw [iteF hc13] at hF
 simp only [q8,q2c,qd,qc,qo,qb,Nat.reduceAdd,Nat.zero_add,Nat.add_zero,qq,qm,B0,reduceIte,reduceEqDiff]
 refine qg (v := .int .i64 a_0.Left) rfl ?_
 simp only [qo,qb,Nat.reduceAdd,Nat.zero_add,Nat.add_zero,qq,qm,B0,reduceIte,reduceEqDiff]
 refine qg (v := .int .i64 b_1.Left) rfl ?_
 simp only [qp,qb,kx,qa,qx,B0,reduceIte,reduceEqDiff]
 refine qr (t:=(decide (a_0.Left≠b_1.Left))) (fun hc14=>?_) (fun hc14=>?_)
 ·rw [iteT hc14] at hF
  simp only [qd,qc,qe,qa,qv,B0,reduceIte,reduceEqDiff]
  have he:=qh hF
  subst he
  simp only [qw,B0,reduceIte,reduceEqDiff]
  exact rfl
 rw [iteF hc14] at hF
 simp only [q8,qvi,qd,qc,qo,qb,Nat.reduceAdd,Nat.zero_add,Nat.add_zero,qq,qm,B0,reduceIte,reduceEqDiff]
 refine qg (v := .bool a_0.Fenced) rfl ?_
 simp only [qo,qb,Nat.reduceAdd,Nat.zero_add,Nat.add_zero,qq,qm,B0,reduceIte,reduceEqDiff]
 refine qg (v := .bool b_1.Fenced) rfl ?_
 simp only [qfe,qb,qgj,qa,qx,B0,reduceIte,reduceEqDiff]
 refine qr (t:=(!(a_0.Fenced == b_1.Fenced))) (fun hc15=>?_) (fun hc15=>?_)
 ·rw [iteT hc15] at hF
  simp only [qd,qc,qe,qa,qv,B0,reduceIte,reduceEqDiff]
  have he:=qh hF
  subst he
  simp only [qw,B0,reduceIte,reduceEqDiff]
  exact rfl
 rw [iteF hc15] at hF
 simp only [q8,qd,qc,qe,qa,qv,B0,reduceIte,reduceEqDiff]
 have he:=qh hF
 subst he
 simp only [qw,B0,reduceIte,reduceEqDiff]
 exact rfl
theorem qja {W:Nat→Bool}{h:Heap} (hW:∀ b,
  (geL h.length) b→W b=true) (k:Nat) (a_0:List Broker) (b_1:List Broker) (r:Bool) (hF:qba k a_0 b_1=some r) : Ret E W 62 [lst qi a_0,
  lst qi b_1] h (fun v h'=>cut h.length h' E.sz false 9 v=some (.bool r)):=by
 refine Ret.of (fn:=x62) rfl (Run.of ?_)
 unfold qba at hF
 have zf0:zc [lst qi a_0,lst qi b_1] 0=lst qi a_0:=rfl
 have zf1:zc [lst qi a_0,lst qi b_1] 1=lst qi b_1:=rfl
 generalize zc [lst qi a_0,lst qi b_1]=fr0 at zf0 zf1 ⊢
 have hS:Sep h (geL h.length) []:=Sep.nil h
 simp only [x62,qd,qc,qe,qa,qw9,zf0,zo,qb,zt,zf1,qp,kx,qx,B0,reduceIte,reduceEqDiff]
 refine qr (t:=(decide ((List.length a_0:Int)≠(List.length b_1:Int)))) (fun hc1=>?_) (fun hc1=>?_)
 ·rw [iteT hc1] at hF
  simp only [qd,qc,qe,qa,qv,B0,reduceIte,reduceEqDiff]
  have he:=qh hF
  subst he
  simp only [qw,B0,reduceIte,reduceEqDiff]
  exact rfl
 rw [iteF hc1] at hF
 simp only [q8,q35,qd,qc,qe,qa,B0,reduceIte,reduceEqDiff]
 obtain ⟨oc6,hX8,hk9⟩:=jh hF
 simp only [qvh]
 refine xh (σ:=Int) (fun s41=>ug a_0 b_1 s41) (fun s fr' h'=>fr' 0=lst qi a_0∧fr' 1=lst qi b_1∧fr' 5 = .int .i64 s∧Sep h'
   (geL h.length) ([])) hX8 ⟨zf0,zf1,rfl,hS⟩ (fun _ _ _ h=>h) ?_ ?_
 ·rintro s3 fr18 h19 ⟨f21,f22,f23,hS20⟩ oc7 hF10 hr11 Q12 hN13 hK14 hR15 hE16
  unfold ug at hF10
  simp only [q18,qd,qc,f23,qe,f21,zo,qb,zt,qp,yl,qa,qx,B0,reduceIte,reduceEqDiff]
  refine qr (t:=(decide (s3<(List.length a_0:Int)))) (fun hc25=>?_) (fun hc25=>?_)
  ·rw [iteT hc25] at hF10
   obtain ⟨x26,hx27,hF28⟩:=ql hF10
   simp only [q8,q1y,qd,jy,q0v,jz,f21,j8,qy,f23,xm,B0,reduceIte,reduceEqDiff]
   refine ze (v := .ref (qi x26) 0) (kf hx27 rfl) ?_
   simp only [z6,B0,reduceIte,reduceEqDiff]
   refine ze (v := .agg [.int .i64 x26.Epoch,.int .i64 x26.Left,.bool x26.Fenced]) rfl ?_
   obtain ⟨x29,hx30,hF31⟩:=ql hF28
   simp only [f22,j8,qy,f23,xm,B0,reduceIte,reduceEqDiff]
   refine ze (v := .ref (qi x29) 0) (kf hx30 rfl) ?_
   simp only [z6,B0,reduceIte,reduceEqDiff]
   refine ze (v := .agg [.int .i64 x29.Epoch,.int .i64 x29.Left,.bool x29.Fenced]) rfl ?_
   obtain ⟨v32,hx33,hF34⟩:=ql hF31
   simp only [xn,B0,reduceIte,reduceEqDiff]
   refine qez rfl (qk (jb (qk qs (qk qs (qk qk3 zg)))) (qk (jb (qk qs (qk qs
     (qk qk3 zg)))) zg)) (qj6 (fun b hb=>decide_eq_true hb) x26 x29 v32 hx33) ?_
   simp only [qg8,qy,kd,zq,qx,B0,reduceIte,reduceEqDiff]
   refine qr (t:=(!v32)) (fun hc35=>?_) (fun hc35=>?_)
   ·rw [iteT hc35] at hF34
    simp only [qd,qc,qe,qa,qv,B0,reduceIte,reduceEqDiff]
    have e36:=qh hF34
    subst e36
    have ho37:=hr11 _ rfl
    have hk38:=hk9
    rw [ho37] at hk38
    dsimp only [jnO] at hk38
    apply hR15
    have he:=qh hk38
    subst he
    simp only [qw,B0,reduceIte,reduceEqDiff]
    exact rfl
   rw [iteF hc35] at hF34
   simp only [q8,kh,qc,f23,qe,qp,qb,k7,qa,qn,B0,reduceIte,reduceEqDiff]
   have e39:=qh hF34
   exact hN13 _ _ _ e39.symm ⟨f21,f22,rfl,hS20⟩
  rw [iteF hc25] at hF10
  simp only [yv,yk,wb,B0,reduceIte,reduceEqDiff]
  have e40:=qh hF10
  exact hK14 _ _ _ e40.symm ⟨f21,f22,f23,hS20⟩
 rintro s42 fr43 h44 rfl ⟨f46,f47,f48,hS45⟩
 dsimp only [jnO] at hk9
 unfold qe8 at hk9
 simp only [qd,qc,qe,qa,qv,B0,reduceIte,reduceEqDiff]
 have he:=qh hk9
 subst he
 simp only [qw,B0,reduceIte,reduceEqDiff]
 exact rfl
theorem qab {W:Nat→Bool}{h:Heap} (hW:∀ b,
  (geL h.length) b→W b=true) (k:Nat) (a_0:List Int) (b_1:List Int) (r:Bool) (hF:wd k a_0 b_1=some r) : Ret E W 32 [lst cI a_0,
  lst cI b_1] h (fun v h'=>cut h.length h' E.sz false 9 v=some (.bool r)):=by
 refine Ret.of (fn:=x32) rfl (Run.of ?_)
 unfold wd at hF
 have zf0:zc [lst cI a_0,lst cI b_1] 0=lst cI a_0:=rfl
 have zf1:zc [lst cI a_0,lst cI b_1] 1=lst cI b_1:=rfl
 generalize zc [lst cI a_0,lst cI b_1]=fr0 at zf0 zf1 ⊢
 have hS:Sep h (geL h.length) []:=Sep.nil h
 simp only [x32,qd,qc,qe,qa,qyg,zf0,zo,qb,zt,zf1,qp,kx,qx,B0,reduceIte,reduceEqDiff]
 refine qr (t:=(decide ((List.length a_0:Int)≠(List.length b_1:Int)))) (fun hc1=>?_) (fun hc1=>?_)
 ·rw [iteT hc1] at hF
  simp only [qd,qc,qe,qa,qv,B0,reduceIte,reduceEqDiff]
  have he:=qh hF
  subst he
  simp only [qw,B0,reduceIte,reduceEqDiff]
  exact rfl
 rw [iteF hc1] at hF
 simp only [q8,qye,qd,qc,qe,qa,B0,reduceIte,reduceEqDiff]
 obtain ⟨oc6,hX8,hk9⟩:=jh hF
 simp only [qx1]
 refine xh (σ:=Int) (fun s38=>qbb a_0 b_1 s38) (fun s fr' h'=>fr' 0=lst cI a_0∧fr' 1=lst cI b_1∧fr' 5 = .int .i64 s∧Sep h' (geL h.length)
   ([])) hX8 ⟨zf0,zf1,rfl,hS⟩ (fun _ _ _ h=>h) ?_ ?_
 ·rintro s3 fr18 h19 ⟨f21,f22,f23,hS20⟩ oc7 hF10 hr11 Q12 hN13 hK14 hR15 hE16
  unfold qbb at hF10
  simp only [qv8,qd,qc,f23,qe,f21,zo,qb,zt,qp,yl,qa,qx,B0,reduceIte,reduceEqDiff]
  refine qr (t:=(decide (s3<(List.length a_0:Int)))) (fun hc25=>?_) (fun hc25=>?_)
  ·rw [iteT hc25] at hF10
   obtain ⟨x26,hx27,hF28⟩:=ql hF10
   simp only [q8,q1k,qd,jy,qxo,jz,f21,j8,qy,f23,xm,B0,reduceIte,reduceEqDiff]
   refine ze (v := .ref (cI x26) 0) (kf hx27 rfl) ?_
   simp only [z6,B0,reduceIte,reduceEqDiff]
   refine ze (v := .int .i64 x26) rfl ?_
   obtain ⟨x29,hx30,hF31⟩:=ql hF28
   simp only [f22,j8,qy,f23,xm,B0,reduceIte,reduceEqDiff]
   refine ze (v := .ref (cI x29) 0) (kf hx30 rfl) ?_
   simp only [z6,B0,reduceIte,reduceEqDiff]
   refine ze (v := .int .i64 x29) rfl ?_
   simp only [qbr,qy,kx,zq,qx,B0,reduceIte,reduceEqDiff]
   refine qr (t:=(decide (x26≠x29))) (fun hc32=>?_) (fun hc32=>?_)
   ·rw [iteT hc32] at hF31
    simp only [qd,qc,qe,qa,qv,B0,reduceIte,reduceEqDiff]
    have e33:=qh hF31
    subst e33
    have ho34:=hr11 _ rfl
    have hk35:=hk9
    rw [ho34] at hk35
    dsimp only [jnO] at hk35
    apply hR15
    have he:=qh hk35
    subst he
    simp only [qw,B0,reduceIte,reduceEqDiff]
    exact rfl
   rw [iteF hc32] at hF31
   simp only [q8,kh,qc,f23,qe,qp,qb,k7,qa,qn,B0,reduceIte,reduceEqDiff]
   have e36:=qh hF31
   exact hN13 _ _ _ e36.symm ⟨f21,f22,rfl,hS20⟩
  rw [iteF hc25] at hF10
  simp only [yv,yk,wb,B0,reduceIte,reduceEqDiff]
  have e37:=qh hF10
  exact hK14 _ _ _ e37.symm ⟨f21,f22,f23,hS20⟩
 rintro s39 fr40 h41 rfl ⟨f43,f44,f45,hS42⟩
 dsimp only [jnO] at hk9
 unfold qgq at hk9
 simp only [qd,qc,qe,qa,qv,B0,reduceIte,reduceEqDiff]
 have he:=qh hk9
 subst he
 simp only [qw,B0,reduceIte,reduceEqDiff]
 exact rfl
theorem qhz {W:Nat→Bool}{h:Heap} (hW:∀ b,
  (geL h.length) b→W b=true) (k:Nat) (a_0:Partition) (b_1:Partition) (r:Bool) (hF:ux k a_0 b_1=some r) : Ret E W 89 [.agg [lst cI a_0.Homes,
  lst cI a_0.InStep,.int .i64 a_0.Leader,.int .i64 a_0.Epoch,.int .i64 a_0.Stamp],.agg [lst cI b_1.Homes,lst cI b_1.InStep,.int .i64 b_1.Leader,.int .i64 b_1.Epoch,
  .int .i64 b_1.Stamp]] h (fun v h'=>cut h.length h' E.sz false 9 v=some (.bool r)):=by
 refine Ret.of (fn:=x89) rfl (Run.of ?_)
 unfold ux at hF
 have zf0:zc [.agg [lst cI a_0.Homes,lst cI a_0.InStep,.int .i64 a_0.Leader,.int .i64 a_0.Epoch,.int .i64 a_0.Stamp],.agg [lst cI b_1.Homes,lst cI b_1.InStep,
   .int .i64 b_1.Leader,.int .i64 b_1.Epoch,.int .i64 b_1.Stamp]] 0 = .agg [lst cI a_0.Homes,lst cI a_0.InStep,.int .i64 a_0.Leader,.int .i64 a_0.Epoch,
   .int .i64 a_0.Stamp]:=rfl
 have zf1:zc [.agg [lst cI a_0.Homes,lst cI a_0.InStep,.int .i64 a_0.Leader,.int .i64 a_0.Epoch,.int .i64 a_0.Stamp],.agg [lst cI b_1.Homes,lst cI b_1.InStep,
   .int .i64 b_1.Leader,.int .i64 b_1.Epoch,.int .i64 b_1.Stamp]] 1 = .agg [lst cI b_1.Homes,lst cI b_1.InStep,.int .i64 b_1.Leader,.int .i64 b_1.Epoch,
   .int .i64 b_1.Stamp]:=rfl
 generalize zc [.agg [lst cI a_0.Homes,lst cI a_0.InStep,.int .i64 a_0.Leader,.int .i64 a_0.Epoch,.int .i64 a_0.Stamp],.agg [lst cI b_1.Homes,lst cI b_1.InStep,
   .int .i64 b_1.Leader,.int .i64 b_1.Epoch,.int .i64 b_1.Stamp]]=fr0 at zf0 zf1 ⊢
 have hS:Sep h (geL h.length) []:=Sep.nil h
 simp only [x89,qd,qc,jm,zf0,B0,reduceIte,reduceEqDiff]
 refine z8 (cs:=[lst cI a_0.Homes,lst cI a_0.InStep,.int .i64 a_0.Leader,.int .i64 a_0.Epoch,.int .i64 a_0.Stamp]) hS rfl rfl rfl (fun b1 h2 hS3=>?_)
 simp only [jm,zf1,B0,reduceIte,reduceEqDiff]
 refine z8 (cs:=[lst cI b_1.Homes,lst cI b_1.InStep,.int .i64 b_1.Leader,.int .i64 b_1.Epoch,.int .i64 b_1.Stamp]) hS3 rfl rfl rfl (fun b5 h6 hS7=>?_)
 simp only [qe,qa,B0,reduceIte,reduceEqDiff]
 refine zu (Sep.m1 hS7) hW (by simp only [B0,reduceIte,reduceEqDiff]) (fun h9 hS10=>?_)
 refine zu hS10 hW (by simp only [B0,reduceIte,reduceEqDiff]) (fun h11 hS12=>?_)
 simp only [zx,q0e,qd,qc,qo,qb,Nat.reduceAdd,Nat.zero_add,Nat.add_zero,qq,qm,B0,reduceIte,reduceEqDiff]
 refine qg (v:=lst cI a_0.Homes) rfl ?_
 simp only [qo,qb,Nat.reduceAdd,Nat.zero_add,Nat.add_zero,qq,qm,B0,reduceIte,reduceEqDiff]
 refine qg (v:=lst cI b_1.Homes) rfl ?_
 obtain ⟨v13,hx14,hF15⟩:=ql hF
 simp only [zf,B0,reduceIte,reduceEqDiff]
 refine ja rfl (qk zm (qk zm zg)) (qab (fun b hb=>decide_eq_true hb) k a_0.Homes b_1.Homes v13 hx14) ?_
 simp only [jl,qb,kd,qa,qx,B0,reduceIte,reduceEqDiff]
 refine qr (t:=(!v13)) (fun hc16=>?_) (fun hc16=>?_)
 ·rw [iteT hc16] at hF15
  simp only [qd,qc,qe,qa,qv,B0,reduceIte,reduceEqDiff]
  have he:=qh hF15
  subst he
  simp only [qw,B0,reduceIte,reduceEqDiff]
  exact rfl
 rw [iteF hc16] at hF15
 simp only [q8,qx2,qd,qc,qo,qb,Nat.reduceAdd,Nat.zero_add,Nat.add_zero,qq,qm,B0,reduceIte,reduceEqDiff]
 refine qg (v:=lst cI a_0.InStep) rfl ?_
 simp only [qo,qb,Nat.reduceAdd,Nat.zero_add,Nat.add_zero,qq,qm,B0,reduceIte,reduceEqDiff]
 refine qg (v:=lst cI b_1.InStep) rfl ?_
 obtain ⟨v17,hx18,hF19⟩:=ql hF15
 simp only [zf,B0,reduceIte,reduceEqDiff]
 refine ja rfl (qk zm (qk zm zg)) (qab (fun b hb=>decide_eq_true hb) k a_0.InStep b_1.InStep v17 hx18) ?_
 simp only [jl,qb,kd,qa,qx,B0,reduceIte,reduceEqDiff]
 refine qr (t:=(!v17)) (fun hc20=>?_) (fun hc20=>?_)
 ·rw [iteT hc20] at hF19
  simp only [qd,qc,qe,qa,qv,B0,reduceIte,reduceEqDiff]
  have he:=qh hF19
  subst he
  simp only [qw,B0,reduceIte,reduceEqDiff]
  exact rfl
 rw [iteF hc20] at hF19
 simp only [q8,qzh,qd,qc,qo,qb,Nat.reduceAdd,Nat.zero_add,Nat.add_zero,qq,qm,B0,reduceIte,reduceEqDiff]
 refine qg (v := .int .i64 a_0.Leader) rfl ?_
 simp only [qo,qb,Nat.reduceAdd,Nat.zero_add,Nat.add_zero,qq,qm,B0,reduceIte,reduceEqDiff]
 refine qg (v := .int .i64 b_1.Leader) rfl ?_
 simp only [qp,qb,kx,qa,qx,B0,reduceIte,reduceEqDiff]
 refine qr (t:=(decide (a_0.Leader≠b_1.Leader))) (fun hc21=>?_) (fun hc21=>?_)
 ·rw [iteT hc21] at hF19
  simp only [qd,qc,qe,qa,qv,B0,reduceIte,reduceEqDiff]
  have he:=qh hF19
  subst he
  simp only [qw,B0,reduceIte,reduceEqDiff]
  exact rfl
 rw [iteF hc21] at hF19
 simp only [q8,q1h,qd,qc,qo,qb,Nat.reduceAdd,Nat.zero_add,Nat.add_zero,qq,qm,B0,reduceIte,reduceEqDiff]
 refine qg (v := .int .i64 a_0.Epoch) rfl ?_
 simp only [qo,qb,Nat.reduceAdd,Nat.zero_add,Nat.add_zero,qq,qm,B0,reduceIte,reduceEqDiff]
 refine qg (v := .int .i64 b_1.Epoch) rfl ?_
 simp only [qp,qb,kx,qa,qx,B0,reduceIte,reduceEqDiff]
 refine qr (t:=(decide (a_0.Epoch≠b_1.Epoch))) (fun hc22=>?_) (fun hc22=>?_)
 ·rw [iteT hc22] at hF19
  simp only [qd,qc,qe,qa,qv,B0,reduceIte,reduceEqDiff]
  have he:=qh hF19
  subst he
  simp only [qw,B0,reduceIte,reduceEqDiff]
  exact rfl
 rw [iteF hc22] at hF19
 simp only [q8,qzx,qd,qc,qo,qb,Nat.reduceAdd,Nat.zero_add,Nat.add_zero,qq,qm,B0,reduceIte,reduceEqDiff]
 refine qg (v := .int .i64 a_0.Stamp) rfl ?_
 simp only [qo,qb,Nat.reduceAdd,Nat.zero_add,Nat.add_zero,qq,qm,B0,reduceIte,reduceEqDiff]
 refine qg (v := .int .i64 b_1.Stamp) rfl ?_
 simp only [qp,qb,kx,qa,qx,B0,reduceIte,reduceEqDiff]
 refine qr (t:=(decide (a_0.Stamp≠b_1.Stamp))) (fun hc23=>?_) (fun hc23=>?_)
 ·rw [iteT hc23] at hF19
  simp only [qd,qc,qe,qa,qv,B0,reduceIte,reduceEqDiff]
  have he:=qh hF19
  subst he
  simp only [qw,B0,reduceIte,reduceEqDiff]
  exact rfl
 rw [iteF hc23] at hF19
 simp only [q8,qd,qc,qe,qa,qv,B0,reduceIte,reduceEqDiff]
 have he:=qh hF19
 subst he
 simp only [qw,B0,reduceIte,reduceEqDiff]
 exact rfl
theorem qhp {W:Nat→Bool}{h:Heap} (hW:∀ b,
  (geL h.length) b→W b=true) (k:Nat) (a_0:List Partition) (b_1:List Partition) (r:Bool)
  (hF:uk k a_0 b_1=some r) : Ret E W 63 [lst qj a_0,
  lst qj b_1] h (fun v h'=>cut h.length h' E.sz false 9 v=some (.bool r)):=by
 refine Ret.of (fn:=x63) rfl (Run.of ?_)
 unfold uk at hF
 have zf0:zc [lst qj a_0,lst qj b_1] 0=lst qj a_0:=rfl
 have zf1:zc [lst qj a_0,lst qj b_1] 1=lst qj b_1:=rfl
 generalize zc [lst qj a_0,lst qj b_1]=fr0 at zf0 zf1 ⊢
 have hS:Sep h (geL h.length) []:=Sep.nil h
 simp only [x63,qd,qc,qe,qa,q09,zf0,zo,qb,zt,zf1,qp,kx,qx,B0,reduceIte,reduceEqDiff]
 refine qr (t:=(decide ((List.length a_0:Int)≠(List.length b_1:Int)))) (fun hc1=>?_) (fun hc1=>?_)
 ·rw [iteT hc1] at hF
  simp only [qd,qc,qe,qa,qv,B0,reduceIte,reduceEqDiff]
  have he:=qh hF
  subst he
  simp only [qw,B0,reduceIte,reduceEqDiff]
  exact rfl
 rw [iteF hc1] at hF
 simp only [q8,q2s,qd,qc,qe,qa,B0,reduceIte,reduceEqDiff]
 obtain ⟨oc6,hX8,hk9⟩:=jh hF
 simp only [qyi]
 refine xh (σ:=Int) (fun s41=>wk k a_0 b_1 s41)
   (fun s fr' h'=>fr' 0=lst qj a_0∧fr' 1=lst qj b_1∧fr' 5 = .int .i64 s∧Sep h' (geL h.length) ([])) hX8 ⟨zf0,zf1,rfl,
   hS⟩ (fun _ _ _ h=>h) ?_ ?_
 ·rintro s3 fr18 h19 ⟨f21,f22,f23,hS20⟩ oc7 hF10 hr11 Q12 hN13 hK14 hR15 hE16
  unfold wk at hF10
  simp only [qy3,qd,qc,f23,qe,f21,zo,qb,zt,qp,yl,qa,qx,B0,reduceIte,reduceEqDiff]
  refine qr (t:=(decide (s3<(List.length a_0:Int)))) (fun hc25=>?_) (fun hc25=>?_)
  ·rw [iteT hc25] at hF10
   obtain ⟨x26,hx27,hF28⟩:=ql hF10
   simp only [q8,q13,qd,jy,qyu,jz,f21,j8,qy,f23,xm,B0,reduceIte,reduceEqDiff]
   refine ze (v := .ref (qj x26) 0) (kf hx27 rfl) ?_
   simp only [z6,B0,reduceIte,reduceEqDiff]
   refine ze (v := .agg [lst cI x26.Homes,lst cI x26.InStep,.int .i64 x26.Leader,.int .i64 x26.Epoch,.int .i64 x26.Stamp]) rfl ?_
   obtain ⟨x29,hx30,hF31⟩:=ql hF28
   simp only [f22,j8,qy,f23,xm,B0,reduceIte,reduceEqDiff]
   refine ze (v := .ref (qj x29) 0) (kf hx30 rfl) ?_
   simp only [z6,B0,reduceIte,reduceEqDiff]
   refine ze (v := .agg [lst cI x29.Homes,lst cI x29.InStep,.int .i64 x29.Leader,.int .i64 x29.Epoch,.int .i64 x29.Stamp]) rfl ?_
   obtain ⟨v32,hx33,hF34⟩:=ql hF31
   simp only [xn,B0,reduceIte,reduceEqDiff]
   refine qez rfl (qk (jb (qk zm (qk zm (qk qs (qk qs (qk qs zg)))))) (qk (jb (qk zm
     (qk zm (qk qs (qk qs (qk qs zg)))))) zg)) (qhz (fun b hb=>decide_eq_true hb) k x26 x29 v32 hx33) ?_
   simp only [qg8,qy,kd,zq,qx,B0,reduceIte,reduceEqDiff]
   refine qr (t:=(!v32)) (fun hc35=>?_) (fun hc35=>?_)
   ·rw [iteT hc35] at hF34
    simp only [qd,qc,qe,qa,qv,B0,reduceIte,reduceEqDiff]
    have e36:=qh hF34
    subst e36
    have ho37:=hr11 _ rfl
    have hk38:=hk9
    rw [ho37] at hk38
    dsimp only [jnO] at hk38
    apply hR15
    have he:=qh hk38
    subst he
    simp only [qw,B0,reduceIte,reduceEqDiff]
    exact rfl
   rw [iteF hc35] at hF34
   simp only [q8,kh,qc,f23,qe,qp,qb,k7,qa,qn,B0,reduceIte,reduceEqDiff]
   have e39:=qh hF34
   exact hN13 _ _ _ e39.symm ⟨f21,f22,rfl,hS20⟩
  rw [iteF hc25] at hF10
  simp only [yv,yk,wb,B0,reduceIte,reduceEqDiff]
  have e40:=qh hF10
  exact hK14 _ _ _ e40.symm ⟨f21,f22,f23,hS20⟩
 rintro s42 fr43 h44 rfl ⟨f46,f47,f48,hS45⟩
 dsimp only [jnO] at hk9
 unfold qdv at hk9
 simp only [qd,qc,qe,qa,qv,B0,reduceIte,reduceEqDiff]
 have he:=qh hk9
 subst he
 simp only [qw,B0,reduceIte,reduceEqDiff]
 exact rfl
theorem qc8 {W:Nat→Bool}{h:Heap} (hW:∀ b,
  (geL h.length) b→W b=true) (k:Nat) (a_0:Control) (b_1:Control) (r:Bool) (hF:xa k a_0 b_1=some r) : Ret E W 31 [.agg [lst qi a_0.Brokers,
  lst qj a_0.Parts,.int .i64 a_0.Next],.agg [lst qi b_1.Brokers,lst qj b_1.Parts,
  .int .i64 b_1.Next]] h (fun v h'=>cut h.length h' E.sz false 9 v=some (.bool r)):=by
 refine Ret.of (fn:=x31) rfl (Run.of ?_)
 unfold xa at hF
 have zf0:zc [.agg [lst qi a_0.Brokers,lst qj a_0.Parts,.int .i64 a_0.Next],.agg [lst qi b_1.Brokers,lst qj b_1.Parts,
   .int .i64 b_1.Next]] 0 = .agg [lst qi a_0.Brokers,lst qj a_0.Parts,.int .i64 a_0.Next]:=rfl
 have zf1:zc [.agg [lst qi a_0.Brokers,lst qj a_0.Parts,.int .i64 a_0.Next],.agg [lst qi b_1.Brokers,lst qj b_1.Parts,
   .int .i64 b_1.Next]] 1 = .agg [lst qi b_1.Brokers,lst qj b_1.Parts,.int .i64 b_1.Next]:=rfl
 generalize zc [.agg [lst qi a_0.Brokers,lst qj a_0.Parts,.int .i64 a_0.Next],.agg [lst qi b_1.Brokers,lst qj b_1.Parts,
   .int .i64 b_1.Next]]=fr0 at zf0 zf1 ⊢
 have hS:Sep h (geL h.length) []:=Sep.nil h
 simp only [x31,qd,qc,jm,zf0,B0,reduceIte,reduceEqDiff]
 refine z8 (cs:=[lst qi a_0.Brokers,lst qj a_0.Parts,.int .i64 a_0.Next]) hS rfl rfl rfl (fun b1 h2 hS3=>?_)
 simp only [jm,zf1,B0,reduceIte,reduceEqDiff]
 refine z8 (cs:=[lst qi b_1.Brokers,lst qj b_1.Parts,.int .i64 b_1.Next]) hS3 rfl rfl rfl (fun b5 h6 hS7=>?_)
 simp only [qe,qa,B0,reduceIte,reduceEqDiff]
 refine zu (Sep.m1 hS7) hW (by simp only [B0,reduceIte,reduceEqDiff]) (fun h9 hS10=>?_)
 refine zu hS10 hW (by simp only [B0,reduceIte,reduceEqDiff]) (fun h11 hS12=>?_)
 simp only [zx,qvf,qd,qc,qo,qb,Nat.reduceAdd,Nat.zero_add,Nat.add_zero,qq,qm,B0,reduceIte,reduceEqDiff]
 refine qg (v:=lst qi a_0.Brokers) rfl ?_
 simp only [qo,qb,Nat.reduceAdd,Nat.zero_add,Nat.add_zero,qq,qm,B0,reduceIte,reduceEqDiff]
 refine qg (v:=lst qi b_1.Brokers) rfl ?_
 obtain ⟨v13,hx14,hF15⟩:=ql hF
 simp only [zf,B0,reduceIte,reduceEqDiff]
 refine ja rfl (qk zm (qk zm zg)) (qja (fun b hb=>decide_eq_true hb) k a_0.Brokers b_1.Brokers v13 hx14) ?_
 simp only [jl,qb,kd,qa,qx,B0,reduceIte,reduceEqDiff]
 refine qr (t:=(!v13)) (fun hc16=>?_) (fun hc16=>?_)
 ·rw [iteT hc16] at hF15
  simp only [qd,qc,qe,qa,qv,B0,reduceIte,reduceEqDiff]
  have he:=qh hF15
  subst he
  simp only [qw,B0,reduceIte,reduceEqDiff]
  exact rfl
 rw [iteF hc16] at hF15
 simp only [q8,q19,qd,qc,qo,qb,Nat.reduceAdd,Nat.zero_add,Nat.add_zero,qq,qm,B0,reduceIte,reduceEqDiff]
 refine qg (v:=lst qj a_0.Parts) rfl ?_
 simp only [qo,qb,Nat.reduceAdd,Nat.zero_add,Nat.add_zero,qq,qm,B0,reduceIte,reduceEqDiff]
 refine qg (v:=lst qj b_1.Parts) rfl ?_
 obtain ⟨v17,hx18,hF19⟩:=ql hF15
 simp only [zf,B0,reduceIte,reduceEqDiff]
 refine ja rfl (qk zm (qk zm zg)) (qhp (fun b hb=>decide_eq_true hb) k a_0.Parts b_1.Parts v17 hx18) ?_
 simp only [jl,qb,kd,qa,qx,B0,reduceIte,reduceEqDiff]
 refine qr (t:=(!v17)) (fun hc20=>?_) (fun hc20=>?_)
 ·rw [iteT hc20] at hF19
  simp only [qd,qc,qe,qa,qv,B0,reduceIte,reduceEqDiff]
  have he:=qh hF19
  subst he
  simp only [qw,B0,reduceIte,reduceEqDiff]
  exact rfl
 rw [iteF hc20] at hF19
 simp only [q8,qw4,qd,qc,qo,qb,Nat.reduceAdd,Nat.zero_add,Nat.add_zero,qq,qm,B0,reduceIte,reduceEqDiff]
 refine qg (v := .int .i64 a_0.Next) rfl ?_
 simp only [qo,qb,Nat.reduceAdd,Nat.zero_add,Nat.add_zero,qq,qm,B0,reduceIte,reduceEqDiff]
 refine qg (v := .int .i64 b_1.Next) rfl ?_
 simp only [qp,qb,kx,qa,qx,B0,reduceIte,reduceEqDiff]
 refine qr (t:=(decide (a_0.Next≠b_1.Next))) (fun hc21=>?_) (fun hc21=>?_)
 ·rw [iteT hc21] at hF19
  simp only [qd,qc,qe,qa,qv,B0,reduceIte,reduceEqDiff]
  have he:=qh hF19
  subst he
  simp only [qw,B0,reduceIte,reduceEqDiff]
  exact rfl
 rw [iteF hc21] at hF19
 simp only [q8,qd,qc,qe,qa,qv,B0,reduceIte,reduceEqDiff]
 have he:=qh hF19
 subst he
 simp only [qw,B0,reduceIte,reduceEqDiff]
 exact rfl
end Go.Proofs.Ytjloihcijdcpeaa.X
