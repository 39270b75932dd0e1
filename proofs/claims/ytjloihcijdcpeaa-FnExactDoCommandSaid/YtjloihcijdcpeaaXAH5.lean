/- The functions' code comes to what the plain functions say (5). -/
import Derived.Test.YtjloihcijdcpeaaXAH4
set_option linter.unusedVariables false
set_option linter.unusedSimpArgs false
set_option maxRecDepth 100000
namespace Go.Proofs.Ytjloihcijdcpeaa.X
open Go
open Nat (reduceEqDiff)
theorem qkw {W:Nat→Bool}{h:Heap}{lo:Nat→Prop}{S0:List Obj} (hW:∀ b,
  lo b→W b=true) (c_0:Control) (pv0_0:XV) (pc0_0:List Obj) (ph0_0:SlF qg 3 86 pv0_0 c_0.Brokers pc0_0) (pv0_1:XV) (pc0_1:List Obj)
  (ph0_1:SlN Partition.R 5 39 pv0_1 c_0.Parts pc0_1) (pv1:XV) (pc1:List Obj) (old_1:List Int) (ph1:SlF cI 1 3 pv1 old_1 pc1) (r:Control × (List Int))
  (hF:qb8 c_0 old_1=some r) (hS:Sep h lo (pc0_0++(pc0_1++(pc1++(S0))))) : Ret E W 57 [.agg [pv0_0,pv0_1,.int .i64 c_0.Next],
  pv1] h (fun v h'=>∃ rc0_0 rc0_1 ic1,v = .agg [pv0_0,pv0_1,
  .int .i64 r.1.Next]∧SlF qg 3 86 pv0_0 r.1.Brokers rc0_0∧SlN Partition.R 5 39 pv0_1 r.1.Parts rc0_1∧SlF cI 1 3 pv1 r.2 ic1∧Sep h' lo (rc0_0++(rc0_1 ++
  (ic1++(S0))))):=by
 refine Ret.of (fn:=x57) rfl (Run.of ?_)
 unfold qb8 at hF
 have zf0:zd [.agg [pv0_0,pv0_1,.int .i64 c_0.Next],pv1] 0 = .agg [pv0_0,pv0_1,.int .i64 c_0.Next]:=rfl
 have zf1:zd [.agg [pv0_0,pv0_1,.int .i64 c_0.Next],pv1] 1=pv1:=rfl
 generalize zd [.agg [pv0_0,pv0_1,.int .i64 c_0.Next],pv1]=fr0 at zf0 zf1 ⊢
 simp only [x57,qf,qe,ja,zf0,B0,reduceIte,reduceEqDiff]
 refine z0 (cs:=[pv0_0,pv0_1,.int .i64 c_0.Next]) hS rfl rfl (qv (SlF.one ph0_0) (qv (SlN.one ph0_1) (qv rfl zx))) (fun b1 h2 hS3=>?_)
 simp only [j6,B0,reduceIte,reduceEqDiff]
 refine jg hS3 (fun b5 h6 hS7=>?_)
 simp only [qa,B0,reduceIte,reduceEqDiff]
 refine zn (Sep.m1 hS7) hW (by simp only [B0,reduceIte,reduceEqDiff]) (fun h9 hS10=>?_)
 simp only [zo,qrg,qf,qe,qn,qb,Nat.reduceAdd,Nat.zero_add,Nat.add_zero,qq,ql,B0,reduceIte,reduceEqDiff]
 refine qi (v:=pv0_1) rfl ?_
 simp only [zq,qb,SlN.len ph0_1,qh,qa,B0,reduceIte,reduceEqDiff]
 obtain ⟨oc19,hX21,hk22⟩:=jl hF
 simp only [qrs]
 refine qd7 (σ:=(List Partition)) (fun i17 s194=>xl c_0 old_1 i17 s194) (fun s fr' h'=>∃ c15,fr' 1=pv1∧fr' 2 = .ref [pv0_0,pv0_1,
   .int .i64 c_0.Next] 0∧fr' 4 = .ptr b5 0∧fr' 9=pv0_1∧SlN Partition.R 5 39 pv0_1 s c15∧Sep h' lo (pc1++(pc0_0++(c15++([Blk1 b5 [.nil,.nil,
   .int .i64 0] 29]++(S0)))))) hX21 ⟨pc0_1,zf1,rfl,rfl,rfl,ph0_1,(Sep.m3 (Sep.m2 (Sep.m2 hS10)))⟩ (by simp only [B0,reduceIte,reduceEqDiff]) (by simp only [B0,
   reduceIte,reduceEqDiff]) (fun _ _ _ h=>h) rfl rfl (fun _ _ _ _ h=>h) (fun _ _ _ _ h=>h) (fun _ _ _ _ h=>h) (by decide) ?_ ?_
 ·rintro i17 s14 fr31 h32 hx38 ⟨c15,f34,f35,f36,f37,hv16,hS33⟩ f39 f40 oc20 hF23 hr24 Q25 hN26 hB30 hK27 hR28 hE29
  unfold xl at hF23
  obtain ⟨x41,hx42,hF43⟩:=qm hF23
  simp only [qts,qf,qe,f39,qh,f37,z1,B0,reduceIte,reduceEqDiff]
  obtain ⟨b44,hb45⟩:=SlN.isrow hv16 (kz hx42)
  refine qi (SlN.ia hv16 hb45 hx42) ?_
  obtain ⟨c46,cs47,os48,hv49,hR50,hS51⟩:=SlG.opn (SlN.toG hv16 hb45 Partition.RO.len) hx42 jx Partition.RO.len (Sep.m2 hS33)
  obtain ⟨v53,c54,v57,c58,hv55,hv59,rfl,rfl⟩:=hR50
  have hS52:=Sep.no2 hS51
  simp only [ql,B0,reduceIte,reduceEqDiff]
  refine qi (v := .agg [v53,v57,.int .i64 x41.Leader,.int .i64 x41.Epoch,.int .i64 x41.Stamp]) ((SlG.lds (o:=0) hv49 rfl hx42 hS52 (nle rfl)).trans rfl) ?_
  simp only [j6,B0,reduceIte,reduceEqDiff]
  refine jg hS52 (fun b61 h62 hS63=>?_)
  simp only [qh,zm,B0,reduceIte,reduceEqDiff]
  refine zk (us:=[v53,v57,.int .i64 x41.Leader,.int .i64 x41.Epoch,.int .i64 x41.Stamp]) rfl (cs':=[v53,v57,.int .i64 x41.Leader,.int .i64 x41.Epoch,
    .int .i64 x41.Stamp]) hS63 hW rfl (qv (SlF.one hv55) (qv (SlF.one hv59) (qv rfl (qv rfl (qv rfl zx))))) (nle rfl) rfl (fun h65 hS66=>?_)
  simp only [qa,qqo,qf,qe,qh,qpl,f34,zq,qb,SlF.plen ph1,qs,k8,q2f,qy,B0,reduceIte,reduceEqDiff]
  obtain ⟨s67,hX69,hk70⟩:=qm hF43
  refine qes (t:=(decide ((i17:Int)<(List.length old_1:Int)))) (fun fr' h'=>fr' 1=pv1∧fr' 2 = .ref [pv0_0,pv0_1,
    .int .i64 c_0.Next] 0∧fr' 4 = .ptr b5 0∧fr' 5 = .int .i64 (i17:Int)∧fr' 6 = .ptr b61 0∧fr' 7 = .int .i64 s67∧fr' 9=pv0_1∧fr' 10 = .int .i64
    (List.length c_0.Parts:Int)∧fr' 11 = .int .i64 (i17:Int)∧Sep h' lo (pc1++(pc0_0++(c46++([Blk1 b5 [.nil,.nil,.int .i64 0] 29]++([Blk1 b61 [v53,v57,
    .int .i64 x41.Leader,.int .i64 x41.Epoch,.int .i64 x41.Stamp] 39]++(c54++(c58++(S0))))))))) (fun Q71 hN72 hR73 hE74=>⟨fun hc75=>?_,fun hc75=>?_⟩) ?_
  ·rw [iteT hc75] at hX69
   obtain ⟨x76,hx77,hF78⟩:=qm hX69
   simp only [qxc,qe,f34,qh,z1,B0,reduceIte,reduceEqDiff]
   obtain ⟨b79,hb80⟩:=SlF.isrow ph1 (kz hx77)
   refine qi (SlF.ia ph1 hb80 hx77) ?_
   simp only [ql,B0,reduceIte,reduceEqDiff]
   refine qi (v := .int .i64 x76) ((SlF.ld (o:=0) ph1 (Sep.m4 hS66) hb80 hx77 (fun _=>rfl) (nle rfl)).trans rfl) ?_
   simp only [qh,qa,qo,B0,reduceIte,reduceEqDiff]
   have e81:=qj hF78
   subst e81
   exact hN72 _ _ ⟨f34,f35,f36,rfl,rfl,rfl,f37,f40,f39,(Sep.m6 (Sep.m6 (Sep.m4 (Sep.m6 (Sep.m2 (Sep.m3 (Sep.m3 hS66)))))))⟩
  ·rw [iteF hc75] at hX69
   simp only [za,qo,B0,reduceIte,reduceEqDiff]
   have e82:=qj hX69
   subst e82
   exact hN72 _ _ ⟨f34,f35,f36,rfl,rfl,rfl,f37,f40,f39,(Sep.m6 (Sep.m6 (Sep.m4 (Sep.m6 (Sep.m2 (Sep.m3 (Sep.m3 hS66)))))))⟩
  rintro fr83 h84 ⟨f86,f87,f88,f89,f90,f91,f92,f93,f94,hS85⟩
  unfold qdx at hk70
  simp only [qrr,qf,qe,f90,qn,qb,Nat.reduceAdd,Nat.zero_add,Nat.add_zero,zb,ql,B0,reduceIte,reduceEqDiff]
  refine qi (v := .int .i64 x41.Leader) ((jk (Sep.bk _ _ _ (Sep.m4 hS85))).trans rfl) ?_
  simp only [qs,qb,k8,qh,B0,reduceIte,reduceEqDiff]
  obtain ⟨v98,hx99,hF100⟩:=qm hk70
  refine zt 8 (fun fr' h'=>Sep h' lo (pc1++(pc0_0++(c46++([Blk1 b5 [.nil,.nil,.int .i64 0] 29]++([Blk1 b61 [v53,v57,.int .i64 x41.Leader,.int .i64 x41.Epoch,
    .int .i64 x41.Stamp] 39]++(c54++(c58++(S0))))))))∧fr' 35 = .bool v98∧fr' 1=pv1∧fr' 2 = .ref [pv0_0,pv0_1,
    .int .i64 c_0.Next] 0∧fr' 4 = .ptr b5 0∧fr' 5 = .int .i64 (i17:Int)∧fr' 6 = .ptr b61 0∧fr' 7 = .int .i64 s67∧fr' 9=pv0_1∧fr' 10 = .int .i64
    (List.length c_0.Parts:Int)∧fr' 11 = .int .i64 (i17:Int)) (fun Q95 hN96=>?_) ?_
  ·simp only [List.take_succ_cons,List.take_zero]
   simp only [qc (g:=27),B0,reduceIte,reduceEqDiff]
   refine q9 (t:=(decide (x41.Leader<0))) (fun hg97=>?_) (fun hg97=>?_)
   ·rw [iteT hg97] at hx99
    simp only [hg97,qc (g:=27),zu,qr,qb,zj,qa,qo,B0,reduceIte,reduceEqDiff]
    have e101:=qj hx99
    exact hN96 _ _ ⟨(Sep.m6 (Sep.m6 (Sep.m6 (Sep.m6 (Sep.m6 (Sep.m6 (Sep.m6 hS85))))))),by rw [←e101]; simp only [B0,reduceIte,reduceEqDiff],f86,f87,f88,f89,f90,f91,
      f92,f93,f94⟩
   ·rw [iteF hg97] at hx99
    simp only [hg97,qc (g:=27),qt,f87,qn,qb,Nat.reduceAdd,Nat.zero_add,Nat.add_zero,qq,ql,B0,reduceIte,reduceEqDiff]
    refine qi (v:=pv0_0) rfl ?_
    simp only [hg97,qc (g:=27),qt,f90,qn,qb,Nat.reduceAdd,Nat.zero_add,Nat.add_zero,zb,ql,B0,reduceIte,reduceEqDiff]
    refine qi (v := .int .i64 x41.Leader) ((jk (Sep.bk _ _ _ (Sep.m4 hS85))).trans rfl) ?_
    obtain ⟨x102,hx103,hF104⟩:=qm hx99
    simp only [hg97,qc (g:=27),qt,z1,B0,reduceIte,reduceEqDiff]
    obtain ⟨b105,hb106⟩:=SlF.isrow ph0_0 (kz hx103)
    refine qi (SlF.ia ph0_0 hb106 hx103) ?_
    simp only [hg97,qc (g:=27),qt,qn,qb,Nat.reduceAdd,Nat.zero_add,Nat.add_zero,zb,ql,B0,reduceIte,reduceEqDiff]
    refine qi (v := .bool x102.Fenced) ((SlF.ld (o:=2) ph0_0 (Sep.m1 hS85) hb106 hx103 (fun _=>rfl) (nle rfl)).trans rfl) ?_
    simp only [hg97,qr,qb,zi,qa,qo,B0,reduceIte,reduceEqDiff]
    have e107:=qj hF104
    exact hN96 _ _ ⟨(Sep.m6 (Sep.m6 (Sep.m6 (Sep.m6 (Sep.m6 (Sep.m6 (Sep.m6 hS85))))))),by rw [←e107]; simp only [B0,reduceIte,reduceEqDiff],f86,f87,f88,f89,f90,f91,
      f92,f93,f94⟩
  rintro fr108 h119 ⟨hS120,f109,f110,f111,f112,f113,f114,f115,f116,f117,f118⟩
  simp only [List.drop_succ_cons,List.drop_zero]
  simp only [qa,qyb,f109,qy,B0,reduceIte,reduceEqDiff]
  obtain ⟨s121,hX123,hk124⟩:=qm hF100
  refine qes (t:=v98) (fun fr' h'=>fr' 1=pv1∧fr' 2 = .ref [pv0_0,pv0_1,
    .int .i64 c_0.Next] 0∧fr' 4 = .ptr b5 0∧fr' 5 = .int .i64 (i17:Int)∧fr' 6 = .ptr b61 0∧fr' 7 = .int .i64 s67∧fr' 9=pv0_1∧fr' 10 = .int .i64
    (List.length c_0.Parts:Int)∧fr' 11 = .int .i64 (i17:Int)∧Sep h' lo (pc1++(pc0_0++(c46++([Blk1 b5 [.nil,.nil,.int .i64 0] 29]++([Blk1 b61 [v53,v57,
    .int .i64 s121.Leader,.int .i64 s121.Epoch,.int .i64 s121.Stamp] 39]++(c54++(c58++(S0))))))))) (fun Q125 hN126 hR127 hE128=>⟨fun hc129=>?_,fun hc129=>?_⟩) ?_
  ·rw [iteT hc129] at hX123
   simp only [q3d,qe,f111,ql,B0,reduceIte,reduceEqDiff]
   refine qi (v := .agg [pv0_0,pv0_1,.int .i64 c_0.Next]) rfl ?_
   simp only [f114,qn,qb,Nat.reduceAdd,Nat.zero_add,Nat.add_zero,zb,ql,B0,reduceIte,reduceEqDiff]
   refine qi (v:=v57) ((jk (Sep.bk _ _ _ (Sep.m4 hS120))).trans rfl) ?_
   obtain ⟨c130,hv131,hS132⟩:=SlG.cls0 (c:=c46) (os:=c54++(c58)) hv49 rfl hx42 jx (Partition.RI (x:=x41) hv55 hv59) (Sep.ni2 (c1:=c54) (c2:=c58) (Sep.m4
     (Sep.m6 (Sep.m6 hS120))))
   have hv133:=SlG.toN hv131
   obtain ⟨v134,hx135,hF136⟩:=qm hX123
   simp only [zg,B0,reduceIte,reduceEqDiff]
   refine z5 rfl (qk (zv (qk (SlF.snap ph0_0 (Sep.m2 hS132) rfl (fun _=>rfl) (fun _=>rfl)) (qk (SlN.snap hv133 _ hS132 rfl Partition.RO)
     (qk qp ze)))) (qk (SlF.snap hv59 (Sep.m6 hS120) rfl (fun _=>rfl) (fun _=>rfl)) ze)) (qga (fun b hb=>decide_eq_true hb)
     (Control.mk c_0.Brokers s14 c_0.Next) x41.InStep v134 hx135) ?_
   simp only [f114,qn,qb,Nat.reduceAdd,Nat.zero_add,Nat.add_zero,zb,zm,B0,reduceIte,reduceEqDiff]
   refine zk (us:=[.int .i64 v134]) rfl (cs':=[v53,v57,.int .i64 v134,.int .i64 x41.Epoch,
     .int .i64 x41.Stamp]) (Sep.m4 hS120) hW rfl rfl (nle rfl) rfl (fun h137 hS138=>?_)
   simp only [qa,qo,B0,reduceIte,reduceEqDiff]
   have e139:=qj hF136
   subst e139
   exact hN126 _ _ ⟨f110,f111,f112,f113,f114,f115,f116,f117,f118,(Sep.m6 (Sep.m6 (Sep.m6 (Sep.m6 (Sep.m2 (Sep.m6 (Sep.m6 hS138)))))))⟩
  ·rw [iteF hc129] at hX123
   simp only [za,qo,B0,reduceIte,reduceEqDiff]
   have e140:=qj hX123
   subst e140
   exact hN126 _ _ ⟨f110,f111,f112,f113,f114,f115,f116,f117,f118,(Sep.m6 (Sep.m6 (Sep.m6 (Sep.m6 (Sep.m6 (Sep.m6 (Sep.m6 hS120)))))))⟩
  rintro fr141 h142 ⟨f144,f145,f146,f147,f148,f149,f150,f151,f152,hS143⟩
  unfold qd0 at hk124
  simp only [qst,qf,qe,f148,qn,qb,Nat.reduceAdd,Nat.zero_add,Nat.add_zero,zb,ql,B0,reduceIte,reduceEqDiff]
  refine qi (v := .int .i64 s121.Leader) ((jk (Sep.bk _ _ _ (Sep.m4 hS143))).trans rfl) ?_
  simp only [f149,qh,qs,qb,kh,qa,qvw,qy,B0,reduceIte,reduceEqDiff]
  obtain ⟨s153,hX155,hk156⟩:=qm hk124
  refine qes (t:=(decide (s121.Leader≠s67))) (fun fr' h'=>fr' 1=pv1∧fr' 2 = .ref [pv0_0,pv0_1,
    .int .i64 c_0.Next] 0∧fr' 4 = .ptr b5 0∧fr' 5 = .int .i64 (i17:Int)∧fr' 6 = .ptr b61 0∧fr' 9=pv0_1∧fr' 10 = .int .i64
    (List.length c_0.Parts:Int)∧fr' 11 = .int .i64 (i17:Int)∧Sep h' lo (pc1++(pc0_0++(c46++([Blk1 b5 [.nil,.nil,.int .i64 0] 29]++([Blk1 b61 [v53,v57,
    .int .i64 s153.Leader,.int .i64 s153.Epoch,.int .i64 s153.Stamp] 39]++(c54++(c58++(S0))))))))) (fun Q157 hN158 hR159 hE160=>⟨fun hc161=>?_,fun hc161=>?_⟩) ?_
  ·rw [iteT hc161] at hX155
   simp only [q0d,qf,qe,f148,qn,qb,Nat.reduceAdd,Nat.zero_add,Nat.add_zero,zb,ql,B0,reduceIte,reduceEqDiff]
   refine qi (v := .int .i64 s121.Stamp) ((jk (Sep.bk _ _ _ (Sep.m4 hS143))).trans rfl) ?_
   simp only [qs,qb,yv,f148,qn,Nat.reduceAdd,Nat.zero_add,Nat.add_zero,zb,zm,B0,reduceIte,reduceEqDiff]
   refine zk (us:=[.int .i64 (IntKind.wrap .i64 (s121.Stamp+1))]) rfl (cs':=[v53,v57,.int .i64 s121.Leader,.int .i64 s121.Epoch,
     .int .i64 (IntKind.wrap .i64 (s121.Stamp+1))]) (Sep.m4 hS143) hW rfl rfl (nle rfl) rfl (fun h162 hS163=>?_)
   simp only [qa,qxv,qf,qe,f148,qn,qb,Nat.reduceAdd,Nat.zero_add,Nat.add_zero,zb,ql,B0,reduceIte,reduceEqDiff]
   refine qi (v := .int .i64 s121.Leader) ((jk (Sep.bk _ _ _ hS163)).trans rfl) ?_
   simp only [qs,qb,qcr,qa,qxw,qy,B0,reduceIte,reduceEqDiff]
   refine qu (t:=(decide ((0:Int)≤s121.Leader))) (fun hc164=>?_) (fun hc164=>?_)
   ·rw [iteT hc164] at hX155
    simp only [qz6,qe,f148,qn,qb,Nat.reduceAdd,Nat.zero_add,Nat.add_zero,zb,ql,B0,reduceIte,reduceEqDiff]
    refine qi (v := .int .i64 s121.Epoch) ((jk (Sep.bk _ _ _ hS163)).trans rfl) ?_
    simp only [qs,qb,yv,f148,qn,Nat.reduceAdd,Nat.zero_add,Nat.add_zero,zb,zm,B0,reduceIte,reduceEqDiff]
    refine zk (us:=[.int .i64 (IntKind.wrap .i64 (s121.Epoch+1))]) rfl (cs':=[v53,v57,.int .i64 s121.Leader,.int .i64 (IntKind.wrap .i64 (s121.Epoch+1)),
      .int .i64 (IntKind.wrap .i64 (s121.Stamp+1))]) hS163 hW rfl rfl (nle rfl) rfl (fun h165 hS166=>?_)
    simp only [qa,qo,B0,reduceIte,reduceEqDiff]
    have e167:=qj hX155
    subst e167
    exact hN158 _ _ ⟨f144,f145,f146,f147,f148,f150,f151,f152,(Sep.m6 (Sep.m6 (Sep.m6 (Sep.m6 (Sep.m2 (Sep.m6 (Sep.m6 hS166)))))))⟩
   rw [iteF hc164] at hX155
   simp only [za,qo,B0,reduceIte,reduceEqDiff]
   have e168:=qj hX155
   subst e168
   exact hN158 _ _ ⟨f144,f145,f146,f147,f148,f150,f151,f152,(Sep.m6 (Sep.m6 (Sep.m6 (Sep.m6 (Sep.m2 (Sep.m6 (Sep.m6 hS163)))))))⟩
  ·rw [iteF hc161] at hX155
   simp only [za,qo,B0,reduceIte,reduceEqDiff]
   have e169:=qj hX155
   subst e169
   exact hN158 _ _ ⟨f144,f145,f146,f147,f148,f150,f151,f152,(Sep.m6 (Sep.m6 (Sep.m6 (Sep.m6 (Sep.m6 (Sep.m6 (Sep.m6 hS143)))))))⟩
  rintro fr170 h171 ⟨f173,f174,f175,f176,f177,f178,f179,f180,hS172⟩
  unfold qd1 at hk156
  simp only [qt1,qe,f174,qn,qb,Nat.reduceAdd,Nat.zero_add,Nat.add_zero,qq,ql,B0,reduceIte,reduceEqDiff]
  refine qi (v:=pv0_1) rfl ?_
  simp only [f176,qh,f177,ql,B0,reduceIte,reduceEqDiff]
  refine qi (v := .agg [v53,v57,.int .i64 s153.Leader,.int .i64 s153.Epoch,.int .i64 s153.Stamp]) ((jf (Sep.bk _ _ _ (Sep.m4 hS172))).trans rfl) ?_
  simp only [z1,B0,reduceIte,reduceEqDiff]
  refine qi (SlG.ia hv49 hx42) ?_
  simp only [zm,B0,reduceIte,reduceEqDiff]
  refine xd (n:=5) (us:=[v53,v57,.int .i64 s153.Leader,.int .i64 s153.Epoch,.int .i64 s153.Stamp]) (cs:=[v53,v57,.int .i64 x41.Leader,.int .i64 x41.Epoch,
    .int .i64 x41.Stamp]) (o:=0) (cs':=[v53,v57,.int .i64 s153.Leader,.int .i64 s153.Epoch,
    .int .i64 s153.Stamp]) rfl hv49 rfl hx42 (Sep.m2 hS172) hW rfl (qv (SlF.one hv55) (qv (SlF.one hv59) (qv rfl (qv rfl (qv rfl zx))))) (nle rfl) rfl
    (fun c183 h181 hv184 hS182=>?_)
  simp only [qa,qo,B0,reduceIte,reduceEqDiff]
  obtain ⟨c185,hv186,hS187⟩:=SlG.cls (e':=(Partition.mk x41.Homes x41.InStep s153.Leader s153.Epoch s153.Stamp)) (c:=c183) (os:=c54++(c58)) hv184 rfl hx42 jx
    (Partition.RI (x:=(Partition.mk x41.Homes x41.InStep s153.Leader s153.Epoch s153.Stamp)) hv55 hv59) (Sep.ni2 (c1:=c54) (c2:=c58) (Sep.m2 (Sep.m6 (Sep.m6 hS182))))
  have hx188:=j9 (x':=(Partition.mk x41.Homes x41.InStep s153.Leader s153.Epoch s153.Stamp)) hx42
  have hv189:=SlG.toN hv186
  have e190:=qj hk156
  exact hN26 _ _ _ e190.symm ⟨c185,f173,f174,f175,f178,hv189,(Sep.m3 (Sep.m3 (Sep.m1 (Sep.m3 (Sep.dc (Sep.m4 hS187))))))⟩ (f180) (f179)
 rintro s195 fr198 h199 rfl ⟨c196,f201,f202,f203,f204,hv197,hS200⟩
 dsimp only [jnO] at hk22
 unfold qf9 at hk22
 simp only [qf,qe,f202,ql,B0,reduceIte,reduceEqDiff]
 refine qi (v := .agg [pv0_0,pv0_1,.int .i64 c_0.Next]) rfl ?_
 simp only [f203,zm,B0,reduceIte,reduceEqDiff]
 refine zk (us:=[pv0_0,pv0_1,.int .i64 c_0.Next]) rfl (cs':=[pv0_0,pv0_1,
   .int .i64 c_0.Next]) (Sep.m3 hS200) hW rfl (qv (SlF.one ph0_0) (qv (SlN.one hv197) (qv rfl zx))) (nle rfl) rfl (fun h205 hS206=>?_)
 simp only [qa,qx,B0,reduceIte,reduceEqDiff]
 have he:=qj hk22
 subst he
 refine uw (bb:=b5) (oo:=0) (v := .agg [pv0_0,pv0_1,.int .i64 c_0.Next]) (by simp only [f203,B0,reduceIte,
   reduceEqDiff]) ((jf (Sep.bk _ _ _ hS206)).trans rfl) ?_
 exact ⟨pc0_0,c196,pc1,by first | trivial | rfl,ph0_0,hv197,ph1,(Sep.m2 (Sep.m2 (Sep.dc (hS206))))⟩
theorem qje {W:Nat→Bool}{h:Heap} (hW:∀ b,
  (geL h.length) b→W b=true) (c_0:Control) (x_1:Command) (r:Control × Int × Bool)
  (hF:ky c_0 x_1=some r) : Ret E W 19 [.agg [lst qg c_0.Brokers,lst qd c_0.Parts,.int .i64 c_0.Next],.agg [.int .i64 x_1.Kind,
  .int .i64 x_1.Broker,.int .i64 x_1.Epoch,.int .i64 x_1.Part,.int .i64 x_1.Stamp,lst cI x_1.InStep]] h (fun v h'=>∃ rv0_0 rc0_0 rv0_1 rc0_1,v = .tup [.agg [rv0_0,rv0_1,
  .int .i64 r.1.Next],.int .i64 r.2.1,
  .bool r.2.2]∧SlF qg 3 86 rv0_0 r.1.Brokers rc0_0∧SlN Partition.R 5 39 rv0_1 r.1.Parts rc0_1∧Sep h' (geL h.length) (rc0_0++(rc0_1++([])))):=by
 refine Ret.of (fn:=x19) rfl (Run.of ?_)
 unfold ky at hF
 have zf0:zd [.agg [lst qg c_0.Brokers,lst qd c_0.Parts,.int .i64 c_0.Next],.agg [.int .i64 x_1.Kind,.int .i64 x_1.Broker,.int .i64 x_1.Epoch,
   .int .i64 x_1.Part,.int .i64 x_1.Stamp,lst cI x_1.InStep]] 0 = .agg [lst qg c_0.Brokers,lst qd c_0.Parts,.int .i64 c_0.Next]:=rfl
 have zf1:zd [.agg [lst qg c_0.Brokers,lst qd c_0.Parts,.int .i64 c_0.Next],.agg [.int .i64 x_1.Kind,.int .i64 x_1.Broker,.int .i64 x_1.Epoch,
   .int .i64 x_1.Part,.int .i64 x_1.Stamp,lst cI x_1.InStep]] 1 = .agg [.int .i64 x_1.Kind,.int .i64 x_1.Broker,.int .i64 x_1.Epoch,.int .i64 x_1.Part,
   .int .i64 x_1.Stamp,lst cI x_1.InStep]:=rfl
 generalize zd [.agg [lst qg c_0.Brokers,lst qd c_0.Parts,.int .i64 c_0.Next],.agg [.int .i64 x_1.Kind,.int .i64 x_1.Broker,.int .i64 x_1.Epoch,
   .int .i64 x_1.Part,.int .i64 x_1.Stamp,lst cI x_1.InStep]]=fr0 at zf0 zf1 ⊢
 have hS:Sep h (geL h.length) []:=Sep.nil h
 simp only [x19,qf,qe,ja,zf0,B0,reduceIte,reduceEqDiff]
 refine z0 (cs:=[lst qg c_0.Brokers,lst qd c_0.Parts,.int .i64 c_0.Next]) hS rfl rfl rfl (fun b1 h2 hS3=>?_)
 simp only [ja,zf1,B0,reduceIte,reduceEqDiff]
 refine z0 (cs:=[.int .i64 x_1.Kind,.int .i64 x_1.Broker,.int .i64 x_1.Epoch,.int .i64 x_1.Part,.int .i64 x_1.Stamp,
   lst cI x_1.InStep]) hS3 rfl rfl rfl (fun b5 h6 hS7=>?_)
 simp only [j6,B0,reduceIte,reduceEqDiff]
 refine jg hS7 (fun b9 h10 hS11=>?_)
 simp only [qh,qa,B0,reduceIte,reduceEqDiff]
 refine zn (Sep.m2 hS11) hW (by simp only [B0,reduceIte,reduceEqDiff]) (fun h13 hS14=>?_)
 refine zn (Sep.m1 hS14) hW (by simp only [B0,reduceIte,reduceEqDiff]) (fun h15 hS16=>?_)
 simp only [zo,qs5,qf,qe,ql,B0,reduceIte,reduceEqDiff]
 refine qi (v := .agg [lst qg c_0.Brokers,lst qd c_0.Parts,.int .i64 c_0.Next]) rfl ?_
 obtain ⟨v17,hx18,hF19⟩:=qm hF
 simp only [zg,B0,reduceIte,reduceEqDiff]
 refine z5 rfl (qk (zv (qk zh (qk zh (qk qp ze)))) ze) (qeo (fun b hb=>decide_eq_true hb) c_0 v17 hx18) ?_
 simp only [ji,qb,j5,qh,B0,reduceIte,reduceEqDiff]
 obtain ⟨v23,hx24,hF25⟩:=qm hF19
 refine zt 5 (fun fr' h'=>Sep h' (geL h.length) ([Blk1 b9 [.nil,.nil,.int .i64 0] 29]++([]))∧fr' 20 = .bool v23∧fr' 2 = .ref [lst qg c_0.Brokers,
   lst qd c_0.Parts,.int .i64 c_0.Next] 0∧fr' 3 = .ref [.int .i64 x_1.Kind,.int .i64 x_1.Broker,.int .i64 x_1.Epoch,.int .i64 x_1.Part,.int .i64 x_1.Stamp,
   lst cI x_1.InStep] 0∧fr' 4 = .ptr b9 0) (fun Q20 hN21=>?_) ?_
 ·simp only [List.take_succ_cons,List.take_zero]
  simp only [qc (g:=15),B0,reduceIte,reduceEqDiff]
  refine q9 (t:=(!v17)) (fun hg22=>?_) (fun hg22=>?_)
  ·rw [iteT hg22] at hx24
   simp only [hg22,qc (g:=15),zu,qr,qb,zj,qa,qo,B0,reduceIte,reduceEqDiff]
   have e26:=qj hx24
   exact hN21 _ _ ⟨hS16,by rw [←e26]; simp only [B0,reduceIte,reduceEqDiff],rfl,rfl,rfl⟩
  ·rw [iteF hg22] at hx24
   simp only [hg22,qc (g:=15),qt,ql,B0,reduceIte,reduceEqDiff]
   refine qi (v := .agg [lst qg c_0.Brokers,lst qd c_0.Parts,.int .i64 c_0.Next]) rfl ?_
   simp only [hg22,qc (g:=15),qt,ql,B0,reduceIte,reduceEqDiff]
   refine qi (v := .agg [.int .i64 x_1.Kind,.int .i64 x_1.Broker,.int .i64 x_1.Epoch,.int .i64 x_1.Part,.int .i64 x_1.Stamp,lst cI x_1.InStep]) rfl ?_
   obtain ⟨v27,hx28,hF29⟩:=qm hx24
   simp only [hg22,qc (g:=15),qt,zg,B0,reduceIte,reduceEqDiff]
   refine z5 rfl (qk (zv (qk zh (qk zh (qk qp ze)))) (qk (zv (qk qp (qk qp (qk qp (qk qp
     (qk qp (qk zh ze))))))) ze)) (qi2 (fun b hb=>decide_eq_true hb) c_0 x_1 v27 hx28) ?_
   simp only [hg22,qc (g:=15),qt,ji,qb,j5,qr,zi,qa,qo,B0,reduceIte,reduceEqDiff]
   have e30:=qj hF29
   exact hN21 _ _ ⟨hS16,by rw [←e30]; simp only [B0,reduceIte,reduceEqDiff],rfl,rfl,rfl⟩
 rintro fr31 h36 ⟨hS37,f32,f33,f34,f35⟩
 simp only [List.drop_succ_cons,List.drop_zero]
 simp only [qa,qwi,f32,qy,B0,reduceIte,reduceEqDiff]
 refine qu (t:=v23) (fun hc38=>?_) (fun hc38=>?_)
 ·rw [iteT hc38] at hF25
  simp only [qym,qf,qe,run_build,evp,B0,reduceIte,reduceEqDiff]
  refine qi (v := .agg [.nil,.nil,.int .i64 0]) rfl ?_
  simp only [f35,zm,B0,reduceIte,reduceEqDiff]
  refine zk (us:=[.nil,.nil,.int .i64 0]) rfl (cs':=[.nil,.nil,.int .i64 0]) hS37 hW rfl rfl (nle rfl) rfl (fun h39 hS40=>?_)
  simp only [qh,qa,qx,B0,reduceIte,reduceEqDiff]
  have he:=qj hF25
  subst he
  refine k7 (qk (ym (bb:=b9) (oo:=0) (v := .agg [.nil,.nil,
    .int .i64 0]) (f35) ((jf (Sep.bk _ _ _ hS40)).trans rfl)) (qk (xa (v := .int .i64 0) (rfl)) (qk (xa (v := .bool false) (rfl)) ze))) ?_
  exact ⟨.nil,[],.nil,[],by first | trivial | rfl,SlF.nil,SlN.nil,((Sep.dc (hS40)) : Sep _ (geL h.length) ([]))⟩
 rw [iteF hc38] at hF25
 simp only [za,qtg,qf,qe,qh,qa,qth,f33,qn,qb,Nat.reduceAdd,Nat.zero_add,Nat.add_zero,qq,ql,B0,reduceIte,
   reduceEqDiff]
 refine qi (v:=lst qd c_0.Parts) rfl ?_
 simp only [zq,qb,zw,qh,qa,B0,reduceIte,reduceEqDiff]
 obtain ⟨oc53,hX55,hk56⟩:=jl hF25
 simp only [q3c]
 refine yf (σ:=(List Int)) c_0.Parts (fun i51 x52 s100=>wm i51 x52 s100) (fun s fr' h'=>∃ v48 c49,fr' 2 = .ref [lst qg c_0.Brokers,
   lst qd c_0.Parts,.int .i64 c_0.Next] 0∧fr' 3 = .ref [.int .i64 x_1.Kind,.int .i64 x_1.Broker,.int .i64 x_1.Epoch,.int .i64 x_1.Part,.int .i64 x_1.Stamp,
   lst cI x_1.InStep] 0∧fr' 4 = .ptr b9 0∧fr' 7=v48∧fr' 23=lst qd c_0.Parts∧SlF cI 1 3 v48 s c49∧Sep h' (geL h.length) ([Blk1 b9 [.nil,.nil,
   .int .i64 0] 29]++(c49++([])))) hX55 ⟨.nil,[],f33,f34,f35,rfl,rfl,SlF.nil,(hS37:Sep _ (geL h.length) ([Blk1 b9 [.nil,.nil,
   .int .i64 0] 29]++([])))⟩ (by simp only [B0,reduceIte,reduceEqDiff]) (by simp only [B0,reduceIte,
   reduceEqDiff]) (fun _ _ _ h=>h) rfl rfl (fun _ _ _ _ h=>h) (fun _ _ _ _ h=>h) (fun _ _ _ _ h=>h) (by decide) ?_ ?_
 ·rintro i51 x52 s46 fr65 h66 hx73 ⟨v48,c49,f68,f69,f70,f71,f72,hv50,hS67⟩ f74 f75 oc54 hF57 hr58 Q59 hN60 hB64 hK61 hR62 hE63
  unfold wm at hF57
  simp only [qzc,qf,qe,f72,f74,z1,B0,reduceIte,reduceEqDiff]
  refine qi (v := .ref (qd x52) 0) (ye hx73 rfl) ?_
  simp only [ql,B0,reduceIte,reduceEqDiff]
  refine qi (v := .agg [lst cI x52.Homes,lst cI x52.InStep,.int .i64 x52.Leader,.int .i64 x52.Epoch,.int .i64 x52.Stamp]) rfl ?_
  simp only [j6,B0,reduceIte,reduceEqDiff]
  refine jg hS67 (fun b76 h77 hS78=>?_)
  simp only [zm,B0,reduceIte,reduceEqDiff]
  refine zk (us:=[lst cI x52.Homes,lst cI x52.InStep,.int .i64 x52.Leader,.int .i64 x52.Epoch,.int .i64 x52.Stamp]) rfl (cs':=[lst cI x52.Homes,
    lst cI x52.InStep,.int .i64 x52.Leader,.int .i64 x52.Epoch,.int .i64 x52.Stamp]) hS78 hW rfl rfl (nle rfl) rfl (fun h80 hS81=>?_)
  simp only [qa,B0,reduceIte,reduceEqDiff]
  refine zn hS81 hW (by simp only [B0,reduceIte,reduceEqDiff]) (fun h82 hS83=>?_)
  simp only [zo,q1b,qe,f71,qh,qn,qb,Nat.reduceAdd,Nat.zero_add,Nat.add_zero,qq,ql,B0,reduceIte,reduceEqDiff]
  refine qi (v := .int .i64 x52.Leader) rfl ?_
  simp only [qbo,evp,B0,reduceIte,reduceEqDiff]
  refine qbe (n:=1) (f:=cI) [x52.Leader] hS83 rfl rfl (fun v84 c85 h86 hv87 hS88=>?_)
  simp only [qee,B0,reduceIte,reduceEqDiff]
  obtain ⟨l90,hx91,hF92⟩:=qm hF57
  refine qdb (f:=cI) hv50 (Sep.m2 hS88) hW (fun _=>rfl) (fun _=>rfl) (SlF.first hv87 hS88 (fun _=>rfl)) hx91 (fun v93 c94 h95 hv96 hS97=>?_)
  simp only [qh,qa,qo,B0,reduceIte,reduceEqDiff]
  have e99:=qj hF92
  exact hN60 _ _ _ e99.symm ⟨v93,c94,f68,f69,f70,rfl,f72,hv96,(Sep.m1 (Sep.dc (Sep.m1 hS97)))⟩ (f74) (f75)
 rintro s101 fr106 h107 rfl ⟨v103,c104,f109,f110,f111,f112,f113,hv105,hS108⟩
 dsimp only [jnO] at hk56
 unfold qcs at hk56
 simp only [qql,qf,jq,qif,B0,reduceIte,reduceEqDiff]
 refine qdk hS108 (fun b114 h115 hS116=>?_)
 simp only [f109,z8,B0,reduceIte,reduceEqDiff]
 refine zf (v := .agg [lst qg c_0.Brokers,lst qd c_0.Parts,.int .i64 c_0.Next]) rfl ?_
 obtain ⟨v118,hx119,hF120⟩:=qm hk56
 simp only [qc0,B0,reduceIte,reduceEqDiff]
 refine qh0 rfl hS116 (qk (zv (qk zh (qk zh (qk qp ze)))) ze) (qe7 (fun b hb=>decide_eq_true hb) c_0 v118 hx119) ?_
 rintro _ h129 ⟨v121,c122,v125,c126,rfl,hv123,hv127,hS130⟩
 refine ⟨_,uz (qv (SlF.free1 hv123) (qv (SlN.free1 hv127) (qv rfl zx))),hS130,
   (js (SlF.pf hv123 (fun _=>rfl)) (js (SlN.pf hv127 Partition.RO) k9)),fun h131 hS132=>?_⟩
 have hS133:Sep h131 (geL h.length) (c122++(c126++([Blk1 b114 [.nil,.nil,.int .i64 0] 29]++([Blk1 b9 [.nil,.nil,
   .int .i64 0] 29]++(c104++([])))))):=by simpa only [List.append_assoc,List.nil_append] using hS132
 simp only [f110,qb2,qa2,B0,reduceIte,reduceEqDiff]
 refine zf (v := .agg [.int .i64 x_1.Kind,.int .i64 x_1.Broker,.int .i64 x_1.Epoch,.int .i64 x_1.Part,.int .i64 x_1.Stamp,lst cI x_1.InStep]) rfl ?_
 obtain ⟨v134,hx135,hF136⟩:=qm hF120
 simp only [kq,B0,reduceIte,reduceEqDiff]
 refine q6t rfl (ql6 hW v118 v121 c122 hv123 v125 c126 hv127 x_1 v134 hx135 (Sep.m1 (Sep.m1 hS133))) ?_
 rintro _ h143 ⟨c137,v139,c140,rfl,hv138,hv141,hS144⟩
 simp only [jy,qz,qme,qib,qmv,qh4,qcp,B0,reduceIte,reduceEqDiff]
 refine qbn (us:=[v121,v139,.int .i64 v134.1.Next]) rfl (cs':=[v121,v139,
   .int .i64 v134.1.Next]) (Sep.m2 hS144) hW rfl (qv (SlF.one hv138) (qv (SlN.one hv141) (qv rfl zx))) (nle rfl) rfl (fun h145 hS146=>?_)
 simp only [jy,qz,zp,qt8,qf,qe,qh,qs,qb,jb,qa,qv9,qy,B0,reduceIte,reduceEqDiff]
 obtain ⟨sv158,hX156,hk157⟩:=qm hF136
 refine qes (t:=(decide (v134.2=0))) (fun fr' h'=>∃ c150 c153,fr' 2 = .ref [lst qg c_0.Brokers,lst qd c_0.Parts,
   .int .i64 c_0.Next] 0∧fr' 4 = .ptr b9 0∧fr' 10 = .ptr b114 0∧fr' 11 = .int .i64 sv158.1∧SlF qg 3 86 v121 sv158.2.2.1 c150∧SlN Partition.R 5 39 v139 sv158.2.2.2 c153∧Sep h'
   (geL h.length) ([Blk1 b9 [.nil,.nil,.int .i64 0] 29]++([Blk1 b114 [v121,v139,
   .int .i64 sv158.2.1.Next] 29]++(c150++(c153++([])))))) (fun Q159 hN160 hR161 hE162=>⟨fun hc163=>?_,fun hc163=>?_⟩) ?_
 ·rw [iteT hc163] at hX156
  simp only [qye,qf,qe,ql,B0,reduceIte,reduceEqDiff]
  refine qi (v := .agg [v121,v139,.int .i64 v134.1.Next]) ((jf (Sep.bk _ _ _ hS146)).trans rfl) ?_
  obtain ⟨v164,hx165,hF166⟩:=qm hX156
  simp only [f112,qh,zg,B0,reduceIte,reduceEqDiff]
  refine qau rfl (qkw hW v134.1 v121 c137 hv138 v139 c140 hv141 v103 c104 s101 hv105 v164 hx165 (Sep.m3 (Sep.m3 (Sep.m4 hS146)))) ?_
  rintro _ h173 ⟨c167,c169,c171,rfl,hv168,hv170,hv172,hS174⟩
  simp only [zm,B0,reduceIte,reduceEqDiff]
  refine zk (us:=[v121,v139,.int .i64 v164.1.Next]) rfl (cs':=[v121,v139,
    .int .i64 v164.1.Next]) (Sep.m3 hS174) hW rfl (qv (SlF.one hv168) (qv (SlN.one hv170) (qv rfl zx))) (nle rfl) rfl (fun h175 hS176=>?_)
  simp only [qa,q39,qf,qe,ql,B0,reduceIte,reduceEqDiff]
  refine qi (v := .agg [v121,v139,.int .i64 v164.1.Next]) ((jf (Sep.bk _ _ _ hS176)).trans rfl) ?_
  obtain ⟨v177,hx178,hF179⟩:=qm hF166
  simp only [zg,B0,reduceIte,reduceEqDiff]
  refine z5 rfl (qk (zv (qk (SlF.snap hv168 (Sep.m1 hS176) rfl (fun _=>rfl) (fun _=>rfl)) (qk (SlN.snap hv170 _ (Sep.m2 hS176) rfl Partition.RO)
    (qk qp ze)))) ze) (qeo (fun b hb=>decide_eq_true hb) v164.1 v177 hx178) ?_
  simp only [ji,qb,j5,qa,qy,B0,reduceIte,reduceEqDiff]
  refine qu (t:=(!v177)) (fun hc180=>?_) (fun hc180=>?_)
  ·rw [iteT hc180] at hF179
   simp only [qe,qh,qa,qo,B0,reduceIte,reduceEqDiff]
   have e181:=qj hF179
   subst e181
   exact hN160 _ _ ⟨c167,c169,f109,f111,rfl,rfl,hv168,hv170,(Sep.m3 (Sep.m2 (Sep.m2 (Sep.m2 (Sep.dc (Sep.m3 hS176))))))⟩
  rw [iteF hc180] at hF179
  simp only [za,qo,B0,reduceIte,reduceEqDiff]
  have e182:=qj hF179
  subst e182
  exact hN160 _ _ ⟨c167,c169,f109,f111,rfl,rfl,hv168,hv170,(Sep.m3 (Sep.m2 (Sep.m2 (Sep.m2 (Sep.dc (Sep.m3 hS176))))))⟩
 ·rw [iteF hc163] at hX156
  simp only [za,qo,B0,reduceIte,reduceEqDiff]
  have e183:=qj hX156
  subst e183
  exact hN160 _ _ ⟨c137,c140,f109,f111,rfl,rfl,hv138,hv141,(Sep.m3 (Sep.m2 (Sep.m2 (Sep.m2 (Sep.dc (Sep.m4 hS146))))))⟩
 rintro fr184 h185 ⟨c150,c153,f187,f188,f189,f190,hv151,hv154,hS186⟩
 obtain ⟨s147,s148,s149,s152⟩:=sv158
 dsimp only at *
 unfold xw at hk157
 simp only [qqz,qf,qe,f190,qh,qs,qb,kh,qa,qsa,qy,B0,reduceIte,reduceEqDiff]
 refine qu (t:=(decide (s147≠0))) (fun hc191=>?_) (fun hc191=>?_)
 ·rw [iteT hc191] at hk157
  simp only [qsc,qf,qe,f187,ql,B0,reduceIte,reduceEqDiff]
  refine qi (v := .agg [lst qg c_0.Brokers,lst qd c_0.Parts,.int .i64 c_0.Next]) rfl ?_
  obtain ⟨v192,hx193,hF194⟩:=qm hk157
  simp only [zg,B0,reduceIte,reduceEqDiff]
  refine qbp rfl hS186 (qk (zv (qk zh (qk zh (qk qp ze)))) ze) (qe7 (fun b hb=>decide_eq_true hb) c_0 v192 hx193) ?_
  rintro _ h203 ⟨v195,c196,v199,c200,rfl,hv197,hv201,hS204⟩
  refine ⟨_,uz (qv (SlF.free1 hv197) (qv (SlN.free1 hv201) (qv rfl zx))),hS204,
    (js (SlF.pf hv197 (fun _=>rfl)) (js (SlN.pf hv201 Partition.RO) k9)),fun h205 hS206=>?_⟩
  have hS207:Sep h205 (geL h.length) (c196++(c200++([Blk1 b9 [.nil,.nil,.int .i64 0] 29]++([Blk1 b114 [v121,v139,
    .int .i64 s148.Next] 29]++(c150++(c153++([]))))))):=by simpa only [List.append_assoc,List.nil_append] using hS206
  simp only [f190,qh,f188,zm,B0,reduceIte,reduceEqDiff]
  refine zk (us:=[v195,v199,.int .i64 v192.Next]) rfl (cs':=[v195,v199,
    .int .i64 v192.Next]) (Sep.m2 hS207) hW rfl (qv (SlF.one hv197) (qv (SlN.one hv201) (qv rfl zx))) (nle rfl) rfl (fun h208 hS209=>?_)
  simp only [qh,qa,qx,B0,reduceIte,reduceEqDiff]
  have he:=qj hF194
  subst he
  refine k7 (qk (ym (bb:=b9) (oo:=0) (v := .agg [v195,v199,
    .int .i64 v192.Next]) (f188) ((jf (Sep.bk _ _ _ hS209)).trans rfl)) (qk (xa (v := .int .i64 s147) (rfl)) (qk (xa (v := .bool true) (rfl)) ze))) ?_
  exact ⟨v195,c196,v199,c200,by first | trivial | rfl,hv197,hv201,(Sep.m1 (Sep.m1 (Sep.dc (Sep.m2 (Sep.dc (Sep.m2 (Sep.dc (Sep.m2 (Sep.dc (hS209))))))))))⟩
 rw [iteF hc191] at hk157
 simp only [za,qo3,qf,qe,f189,ql,B0,reduceIte,reduceEqDiff]
 refine qi (v := .agg [v121,v139,.int .i64 s148.Next]) ((jf (Sep.bk _ _ _ (Sep.m1 hS186))).trans rfl) ?_
 obtain ⟨v210,hx211,hF212⟩:=qm hk157
 simp only [zg,B0,reduceIte,reduceEqDiff]
 refine qbp rfl hS186 (qk (zv (qk (SlF.snap hv151 (Sep.m2 hS186) rfl (fun _=>rfl) (fun _=>rfl)) (qk (SlN.snap hv154 _ (Sep.m3 hS186) rfl Partition.RO)
   (qk qp ze)))) ze) (qe7 (fun b hb=>decide_eq_true hb) (Control.mk s149 s152 s148.Next) v210 hx211) ?_
 rintro _ h221 ⟨v213,c214,v217,c218,rfl,hv215,hv219,hS222⟩
 refine ⟨_,uz (qv (SlF.free1 hv215) (qv (SlN.free1 hv219) (qv rfl zx))),hS222,
   (js (SlF.pf hv215 (fun _=>rfl)) (js (SlN.pf hv219 Partition.RO) k9)),fun h223 hS224=>?_⟩
 have hS225:Sep h223 (geL h.length) (c214++(c218++([Blk1 b9 [.nil,.nil,.int .i64 0] 29]++([Blk1 b114 [v121,v139,
   .int .i64 s148.Next] 29]++(c150++(c153++([]))))))):=by simpa only [List.append_assoc,List.nil_append] using hS224
 simp only [f188,zm,B0,reduceIte,reduceEqDiff]
 refine zk (us:=[v213,v217,.int .i64 v210.Next]) rfl (cs':=[v213,v217,
   .int .i64 v210.Next]) (Sep.m2 hS225) hW rfl (qv (SlF.one hv215) (qv (SlN.one hv219) (qv rfl zx))) (nle rfl) rfl (fun h226 hS227=>?_)
 simp only [qh,qa,qx,B0,reduceIte,reduceEqDiff]
 have he:=qj hF212
 subst he
 refine k7 (qk (ym (bb:=b9) (oo:=0) (v := .agg [v213,v217,
   .int .i64 v210.Next]) (f188) ((jf (Sep.bk _ _ _ hS227)).trans rfl)) (qk (xa (v := .int .i64 0) (rfl)) (qk (xa (v := .bool true) (rfl)) ze))) ?_
 exact ⟨v213,c214,v217,c218,by first | trivial | rfl,hv215,hv219,(Sep.m1 (Sep.m1 (Sep.dc (Sep.m2 (Sep.dc (Sep.m2 (Sep.dc (Sep.m2 (Sep.dc (hS227))))))))))⟩
theorem qkf {W:Nat→Bool}{h:Heap} (hW:∀ b,
  (geL h.length) b→W b=true) (a_0:Broker) (b_1:Broker) (r:Bool) (hF:qbu a_0 b_1=some r) : Ret E W 88 [.agg [.int .i64 a_0.Epoch,.int .i64 a_0.Left,
  .bool a_0.Fenced],.agg [.int .i64 b_1.Epoch,.int .i64 b_1.Left,.bool b_1.Fenced]] h (fun v h'=>cut h.length h' E.sz false 9 v=some (.bool r)):=by
 refine Ret.of (fn:=x88) rfl (Run.of ?_)
 unfold qbu at hF
 have zf0:zd [.agg [.int .i64 a_0.Epoch,.int .i64 a_0.Left,.bool a_0.Fenced],.agg [.int .i64 b_1.Epoch,.int .i64 b_1.Left,
   .bool b_1.Fenced]] 0 = .agg [.int .i64 a_0.Epoch,.int .i64 a_0.Left,.bool a_0.Fenced]:=rfl
 have zf1:zd [.agg [.int .i64 a_0.Epoch,.int .i64 a_0.Left,.bool a_0.Fenced],.agg [.int .i64 b_1.Epoch,.int .i64 b_1.Left,
   .bool b_1.Fenced]] 1 = .agg [.int .i64 b_1.Epoch,.int .i64 b_1.Left,.bool b_1.Fenced]:=rfl
 generalize zd [.agg [.int .i64 a_0.Epoch,.int .i64 a_0.Left,.bool a_0.Fenced],.agg [.int .i64 b_1.Epoch,.int .i64 b_1.Left,.bool b_1.Fenced]]=fr0 at zf0 zf1 ⊢
 have hS:Sep h (geL h.length) []:=Sep.nil h
 simp only [x88,qf,qe,ja,zf0,B0,reduceIte,reduceEqDiff]
 refine z0 (cs:=[.int .i64 a_0.Epoch,.int .i64 a_0.Left,.bool a_0.Fenced]) hS rfl rfl rfl (fun b1 h2 hS3=>?_)
 simp only [ja,zf1,B0,reduceIte,reduceEqDiff]
 refine z0 (cs:=[.int .i64 b_1.Epoch,.int .i64 b_1.Left,.bool b_1.Fenced]) hS3 rfl rfl rfl (fun b5 h6 hS7=>?_)
 simp only [qh,qa,B0,reduceIte,reduceEqDiff]
 refine zn (Sep.m1 hS7) hW (by simp only [B0,reduceIte,reduceEqDiff]) (fun h9 hS10=>?_)
 refine zn hS10 hW (by simp only [B0,reduceIte,reduceEqDiff]) (fun h11 hS12=>?_)
 simp only [zo,q17,qf,qe,qn,qb,Nat.reduceAdd,Nat.zero_add,Nat.add_zero,qq,ql,B0,reduceIte,reduceEqDiff]
 refine qi (v := .int .i64 a_0.Epoch) rfl ?_
 simp only [qn,qb,Nat.reduceAdd,Nat.zero_add,Nat.add_zero,qq,ql,B0,reduceIte,reduceEqDiff]
 refine qi (v := .int .i64 b_1.Epoch) rfl ?_
 simp only [qs,qb,kh,qa,qy,B0,reduceIte,reduceEqDiff]
 refine qu (t:=(decide (a_0.Epoch≠b_1.Epoch))) (fun hc13=>?_) (fun hc13=>?_)
 ·rw [iteT hc13] at hF
  simp only [qf,qe,qh,qa,qx,B0,reduceIte,reduceEqDiff]
  have he:=qj hF
  subst he
  simp only [qw,B0,reduceIte,reduceEqDiff]
  exact rfl
 rw [iteF hc13] at hF
 simp only [za,qws,qf,qe,qn,qb,Nat.reduceAdd,Nat.zero_add,Nat.add_zero,qq,ql,B0,reduceIte,reduceEqDiff]
 refine qi (v := .int .i64 a_0.Left) rfl ?_
 simp only [qn,qb,Nat.reduceAdd,Nat.zero_add,Nat.add_zero,qq,ql,B0,reduceIte,reduceEqDiff]
 refine qi (v := .int .i64 b_1.Left) rfl ?_
 simp only [qs,qb,kh,qa,qy,B0,reduceIte,reduceEqDiff]
 refine qu (t:=(decide (a_0.Left≠b_1.Left))) (fun hc14=>?_) (fun hc14=>?_)
 ·rw [iteT hc14] at hF
  simp only [qf,qe,qh,qa,qx,B0,reduceIte,reduceEqDiff]
  have he:=qj hF
  subst he
  simp only [qw,B0,reduceIte,reduceEqDiff]
  exact rfl
 rw [iteF hc14] at hF
 simp only [za,q0o,qf,qe,qn,qb,Nat.reduceAdd,Nat.zero_add,Nat.add_zero,qq,ql,B0,reduceIte,reduceEqDiff]
 refine qi (v := .bool a_0.Fenced) rfl ?_
 simp only [qn,qb,Nat.reduceAdd,Nat.zero_add,Nat.add_zero,qq,ql,B0,reduceIte,reduceEqDiff]
 refine qi (v := .bool b_1.Fenced) rfl ?_
 simp only [qeg,qb,qfp,qa,qy,B0,reduceIte,reduceEqDiff]
 refine qu (t:=(!(a_0.Fenced == b_1.Fenced))) (fun hc15=>?_) (fun hc15=>?_)
 ·rw [iteT hc15] at hF
  simp only [qf,qe,qh,qa,qx,B0,reduceIte,reduceEqDiff]
  have he:=qj hF
  subst he
  simp only [qw,B0,reduceIte,reduceEqDiff]
  exact rfl
 rw [iteF hc15] at hF
 simp only [za,qf,qe,qh,qa,qx,B0,reduceIte,reduceEqDiff]
 have he:=qj hF
 subst he
 simp only [qw,B0,reduceIte,reduceEqDiff]
 exact rfl
theorem qjj {W:Nat→Bool}{h:Heap} (hW:∀ b,
  (geL h.length) b→W b=true) (k:Nat) (a_0:List Broker) (b_1:List Broker) (r:Bool) (hF:qa1 k a_0 b_1=some r) : Ret E W 62 [lst qg a_0,
  lst qg b_1] h (fun v h'=>cut h.length h' E.sz false 9 v=some (.bool r)):=by
 refine Ret.of (fn:=x62) rfl (Run.of ?_)
 unfold qa1 at hF
 have zf0:zd [lst qg a_0,lst qg b_1] 0=lst qg a_0:=rfl
 have zf1:zd [lst qg a_0,lst qg b_1] 1=lst qg b_1:=rfl
 generalize zd [lst qg a_0,lst qg b_1]=fr0 at zf0 zf1 ⊢
 have hS:Sep h (geL h.length) []:=Sep.nil h
 simp only [x62,qf,qe,qh,qa,qya,zf0,zq,qb,zw,zf1,qs,kh,qy,B0,reduceIte,reduceEqDiff]
 refine qu (t:=(decide ((List.length a_0:Int)≠(List.length b_1:Int)))) (fun hc1=>?_) (fun hc1=>?_)
 ·rw [iteT hc1] at hF
  simp only [qf,qe,qh,qa,qx,B0,reduceIte,reduceEqDiff]
  have he:=qj hF
  subst he
  simp only [qw,B0,reduceIte,reduceEqDiff]
  exact rfl
 rw [iteF hc1] at hF
 simp only [za,q4o,qf,qe,qh,qa,B0,reduceIte,reduceEqDiff]
 obtain ⟨oc6,hX8,hk9⟩:=jl hF
 simp only [qw0]
 refine uj (σ:=Int) (fun s41=>ua a_0 b_1 s41) (fun s fr' h'=>fr' 0=lst qg a_0∧fr' 1=lst qg b_1∧fr' 5 = .int .i64 s∧Sep h'
   (geL h.length) ([])) hX8 ⟨zf0,zf1,rfl,hS⟩ (fun _ _ _ h=>h) ?_ ?_
 ·rintro s3 fr18 h19 ⟨f21,f22,f23,hS20⟩ oc7 hF10 hr11 Q12 hN13 hK14 hR15 hE16
  unfold ua at hF10
  simp only [qyq,qf,qe,f23,qh,f21,zq,qb,zw,qs,k8,qa,qy,B0,reduceIte,reduceEqDiff]
  refine qu (t:=(decide (s3<(List.length a_0:Int)))) (fun hc25=>?_) (fun hc25=>?_)
  ·rw [iteT hc25] at hF10
   obtain ⟨x26,hx27,hF28⟩:=qm hF10
   simp only [za,qy5,qf,ka,q22,jq,f21,jy,qz,f23,ue,B0,reduceIte,reduceEqDiff]
   refine zf (v := .ref (qg x26) 0) (kc hx27 rfl) ?_
   simp only [z8,B0,reduceIte,reduceEqDiff]
   refine zf (v := .agg [.int .i64 x26.Epoch,.int .i64 x26.Left,.bool x26.Fenced]) rfl ?_
   obtain ⟨x29,hx30,hF31⟩:=qm hF28
   simp only [f22,jy,qz,f23,ue,B0,reduceIte,reduceEqDiff]
   refine zf (v := .ref (qg x29) 0) (kc hx30 rfl) ?_
   simp only [z8,B0,reduceIte,reduceEqDiff]
   refine zf (v := .agg [.int .i64 x29.Epoch,.int .i64 x29.Left,.bool x29.Fenced]) rfl ?_
   obtain ⟨v32,hx33,hF34⟩:=qm hF31
   simp only [kq,B0,reduceIte,reduceEqDiff]
   refine qds rfl (qk (zv (qk qp (qk qp (qk qh9 ze)))) (qk (zv (qk qp (qk qp
     (qk qh9 ze)))) ze)) (qkf (fun b hb=>decide_eq_true hb) x26 x29 v32 hx33) ?_
   simp only [qf1,qz,j5,zp,qy,B0,reduceIte,reduceEqDiff]
   refine qu (t:=(!v32)) (fun hc35=>?_) (fun hc35=>?_)
   ·rw [iteT hc35] at hF34
    simp only [qf,qe,qh,qa,qx,B0,reduceIte,reduceEqDiff]
    have e36:=qj hF34
    subst e36
    have ho37:=hr11 _ rfl
    have hk38:=hk9
    rw [ho37] at hk38
    dsimp only [jnO] at hk38
    apply hR15
    have he:=qj hk38
    subst he
    simp only [qw,B0,reduceIte,reduceEqDiff]
    exact rfl
   rw [iteF hc35] at hF34
   simp only [za,kj,qe,f23,qh,qs,qb,yv,qa,qo,B0,reduceIte,reduceEqDiff]
   have e39:=qj hF34
   exact hN13 _ _ _ e39.symm ⟨f21,f22,rfl,hS20⟩
  rw [iteF hc25] at hF10
  simp only [wh,yu,w7,B0,reduceIte,reduceEqDiff]
  have e40:=qj hF10
  exact hK14 _ _ _ e40.symm ⟨f21,f22,f23,hS20⟩
 rintro s42 fr43 h44 rfl ⟨f46,f47,f48,hS45⟩
 dsimp only [jnO] at hk9
 unfold qe9 at hk9
 simp only [qf,qe,qh,qa,qx,B0,reduceIte,reduceEqDiff]
 have he:=qj hk9
 subst he
 simp only [qw,B0,reduceIte,reduceEqDiff]
 exact rfl
theorem qe2 {W:Nat→Bool}{h:Heap} (hW:∀ b,
  (geL h.length) b→W b=true) (k:Nat) (a_0:List Int) (b_1:List Int) (r:Bool) (hF:qao k a_0 b_1=some r) : Ret E W 32 [lst cI a_0,
  lst cI b_1] h (fun v h'=>cut h.length h' E.sz false 9 v=some (.bool r)):=by
 refine Ret.of (fn:=x32) rfl (Run.of ?_)
 unfold qao at hF
 have zf0:zd [lst cI a_0,lst cI b_1] 0=lst cI a_0:=rfl
 have zf1:zd [lst cI a_0,lst cI b_1] 1=lst cI b_1:=rfl
 generalize zd [lst cI a_0,lst cI b_1]=fr0 at zf0 zf1 ⊢
 have hS:Sep h (geL h.length) []:=Sep.nil h
 simp only [x32,qf,qe,qh,qa,qwj,zf0,zq,qb,zw,zf1,qs,kh,qy,B0,reduceIte,reduceEqDiff]
 refine qu (t:=(decide ((List.length a_0:Int)≠(List.length b_1:Int)))) (fun hc1=>?_) (fun hc1=>?_)
 ·rw [iteT hc1] at hF
  simp only [qf,qe,qh,qa,qx,B0,reduceIte,reduceEqDiff]
  have he:=qj hF
  subst he
  simp only [qw,B0,reduceIte,reduceEqDiff]
  exact rfl
 rw [iteF hc1] at hF
 simp only [za,q3r,qf,qe,qh,qa,B0,reduceIte,reduceEqDiff]
 obtain ⟨oc6,hX8,hk9⟩:=jl hF
 simp only [qy3]
 refine uj (σ:=Int) (fun s38=>qay a_0 b_1 s38) (fun s fr' h'=>fr' 0=lst cI a_0∧fr' 1=lst cI b_1∧fr' 5 = .int .i64 s∧Sep h' (geL h.length)
   ([])) hX8 ⟨zf0,zf1,rfl,hS⟩ (fun _ _ _ h=>h) ?_ ?_
 ·rintro s3 fr18 h19 ⟨f21,f22,f23,hS20⟩ oc7 hF10 hr11 Q12 hN13 hK14 hR15 hE16
  unfold qay at hF10
  simp only [qzs,qf,qe,f23,qh,f21,zq,qb,zw,qs,k8,qa,qy,B0,reduceIte,reduceEqDiff]
  refine qu (t:=(decide (s3<(List.length a_0:Int)))) (fun hc25=>?_) (fun hc25=>?_)
  ·rw [iteT hc25] at hF10
   obtain ⟨x26,hx27,hF28⟩:=qm hF10
   simp only [za,q3i,qf,ka,q25,jq,f21,jy,qz,f23,ue,B0,reduceIte,reduceEqDiff]
   refine zf (v := .ref (cI x26) 0) (kc hx27 rfl) ?_
   simp only [z8,B0,reduceIte,reduceEqDiff]
   refine zf (v := .int .i64 x26) rfl ?_
   obtain ⟨x29,hx30,hF31⟩:=qm hF28
   simp only [f22,jy,qz,f23,ue,B0,reduceIte,reduceEqDiff]
   refine zf (v := .ref (cI x29) 0) (kc hx30 rfl) ?_
   simp only [z8,B0,reduceIte,reduceEqDiff]
   refine zf (v := .int .i64 x29) rfl ?_
   simp only [qbq,qz,kh,zp,qy,B0,reduceIte,reduceEqDiff]
   refine qu (t:=(decide (x26≠x29))) (fun hc32=>?_) (fun hc32=>?_)
   ·rw [iteT hc32] at hF31
    simp only [qf,qe,qh,qa,qx,B0,reduceIte,reduceEqDiff]
    have e33:=qj hF31
    subst e33
    have ho34:=hr11 _ rfl
    have hk35:=hk9
    rw [ho34] at hk35
    dsimp only [jnO] at hk35
    apply hR15
    have he:=qj hk35
    subst he
    simp only [qw,B0,reduceIte,reduceEqDiff]
    exact rfl
   rw [iteF hc32] at hF31
   simp only [za,kj,qe,f23,qh,qs,qb,yv,qa,qo,B0,reduceIte,reduceEqDiff]
   have e36:=qj hF31
   exact hN13 _ _ _ e36.symm ⟨f21,f22,rfl,hS20⟩
  rw [iteF hc25] at hF10
  simp only [wh,yu,w7,B0,reduceIte,reduceEqDiff]
  have e37:=qj hF10
  exact hK14 _ _ _ e37.symm ⟨f21,f22,f23,hS20⟩
 rintro s39 fr40 h41 rfl ⟨f43,f44,f45,hS42⟩
 dsimp only [jnO] at hk9
 unfold qgl at hk9
 simp only [qf,qe,qh,qa,qx,B0,reduceIte,reduceEqDiff]
 have he:=qj hk9
 subst he
 simp only [qw,B0,reduceIte,reduceEqDiff]
 exact rfl
theorem qh6 {W:Nat→Bool}{h:Heap} (hW:∀ b,
  (geL h.length) b→W b=true) (k:Nat) (a_0:Partition) (b_1:Partition) (r:Bool) (hF:uq k a_0 b_1=some r) : Ret E W 89 [.agg [lst cI a_0.Homes,
  lst cI a_0.InStep,.int .i64 a_0.Leader,.int .i64 a_0.Epoch,.int .i64 a_0.Stamp],.agg [lst cI b_1.Homes,lst cI b_1.InStep,.int .i64 b_1.Leader,.int .i64 b_1.Epoch,
  .int .i64 b_1.Stamp]] h (fun v h'=>cut h.length h' E.sz false 9 v=some (.bool r)):=by
 refine Ret.of (fn:=x89) rfl (Run.of ?_)
 unfold uq at hF
 have zf0:zd [.agg [lst cI a_0.Homes,lst cI a_0.InStep,.int .i64 a_0.Leader,.int .i64 a_0.Epoch,.int .i64 a_0.Stamp],.agg [lst cI b_1.Homes,lst cI b_1.InStep,
   .int .i64 b_1.Leader,.int .i64 b_1.Epoch,.int .i64 b_1.Stamp]] 0 = .agg [lst cI a_0.Homes,lst cI a_0.InStep,.int .i64 a_0.Leader,.int .i64 a_0.Epoch,
   .int .i64 a_0.Stamp]:=rfl
 have zf1:zd [.agg [lst cI a_0.Homes,lst cI a_0.InStep,.int .i64 a_0.Leader,.int .i64 a_0.Epoch,.int .i64 a_0.Stamp],.agg [lst cI b_1.Homes,lst cI b_1.InStep,
   .int .i64 b_1.Leader,.int .i64 b_1.Epoch,.int .i64 b_1.Stamp]] 1 = .agg [lst cI b_1.Homes,lst cI b_1.InStep,.int .i64 b_1.Leader,.int .i64 b_1.Epoch,
   .int .i64 b_1.Stamp]:=rfl
 generalize zd [.agg [lst cI a_0.Homes,lst cI a_0.InStep,.int .i64 a_0.Leader,.int .i64 a_0.Epoch,.int .i64 a_0.Stamp],.agg [lst cI b_1.Homes,lst cI b_1.InStep,
   .int .i64 b_1.Leader,.int .i64 b_1.Epoch,.int .i64 b_1.Stamp]]=fr0 at zf0 zf1 ⊢
 have hS:Sep h (geL h.length) []:=Sep.nil h
 simp only [x89,qf,qe,ja,zf0,B0,reduceIte,reduceEqDiff]
 refine z0 (cs:=[lst cI a_0.Homes,lst cI a_0.InStep,.int .i64 a_0.Leader,.int .i64 a_0.Epoch,.int .i64 a_0.Stamp]) hS rfl rfl rfl (fun b1 h2 hS3=>?_)
 simp only [ja,zf1,B0,reduceIte,reduceEqDiff]
 refine z0 (cs:=[lst cI b_1.Homes,lst cI b_1.InStep,.int .i64 b_1.Leader,.int .i64 b_1.Epoch,.int .i64 b_1.Stamp]) hS3 rfl rfl rfl (fun b5 h6 hS7=>?_)
 simp only [qh,qa,B0,reduceIte,reduceEqDiff]
 refine zn (Sep.m1 hS7) hW (by simp only [B0,reduceIte,reduceEqDiff]) (fun h9 hS10=>?_)
 refine zn hS10 hW (by simp only [B0,reduceIte,reduceEqDiff]) (fun h11 hS12=>?_)
 simp only [zo,q10,qf,qe,qn,qb,Nat.reduceAdd,Nat.zero_add,Nat.add_zero,qq,ql,B0,reduceIte,reduceEqDiff]
 refine qi (v:=lst cI a_0.Homes) rfl ?_
 simp only [qn,qb,Nat.reduceAdd,Nat.zero_add,Nat.add_zero,qq,ql,B0,reduceIte,reduceEqDiff]
 refine qi (v:=lst cI b_1.Homes) rfl ?_
 obtain ⟨v13,hx14,hF15⟩:=qm hF
 simp only [zg,B0,reduceIte,reduceEqDiff]
 refine z5 rfl (qk zh (qk zh ze)) (qe2 (fun b hb=>decide_eq_true hb) k a_0.Homes b_1.Homes v13 hx14) ?_
 simp only [ji,qb,j5,qa,qy,B0,reduceIte,reduceEqDiff]
 refine qu (t:=(!v13)) (fun hc16=>?_) (fun hc16=>?_)
 ·rw [iteT hc16] at hF15
  simp only [qf,qe,qh,qa,qx,B0,reduceIte,reduceEqDiff]
  have he:=qj hF15
  subst he
  simp only [qw,B0,reduceIte,reduceEqDiff]
  exact rfl
 rw [iteF hc16] at hF15
 simp only [za,qvv,qf,qe,qn,qb,Nat.reduceAdd,Nat.zero_add,Nat.add_zero,qq,ql,B0,reduceIte,reduceEqDiff]
 refine qi (v:=lst cI a_0.InStep) rfl ?_
 simp only [qn,qb,Nat.reduceAdd,Nat.zero_add,Nat.add_zero,qq,ql,B0,reduceIte,reduceEqDiff]
 refine qi (v:=lst cI b_1.InStep) rfl ?_
 obtain ⟨v17,hx18,hF19⟩:=qm hF15
 simp only [zg,B0,reduceIte,reduceEqDiff]
 refine z5 rfl (qk zh (qk zh ze)) (qe2 (fun b hb=>decide_eq_true hb) k a_0.InStep b_1.InStep v17 hx18) ?_
 simp only [ji,qb,j5,qa,qy,B0,reduceIte,reduceEqDiff]
 refine qu (t:=(!v17)) (fun hc20=>?_) (fun hc20=>?_)
 ·rw [iteT hc20] at hF19
  simp only [qf,qe,qh,qa,qx,B0,reduceIte,reduceEqDiff]
  have he:=qj hF19
  subst he
  simp only [qw,B0,reduceIte,reduceEqDiff]
  exact rfl
 rw [iteF hc20] at hF19
 simp only [za,q4i,qf,qe,qn,qb,Nat.reduceAdd,Nat.zero_add,Nat.add_zero,qq,ql,B0,reduceIte,reduceEqDiff]
 refine qi (v := .int .i64 a_0.Leader) rfl ?_
 simp only [qn,qb,Nat.reduceAdd,Nat.zero_add,Nat.add_zero,qq,ql,B0,reduceIte,reduceEqDiff]
 refine qi (v := .int .i64 b_1.Leader) rfl ?_
 simp only [qs,qb,kh,qa,qy,B0,reduceIte,reduceEqDiff]
 refine qu (t:=(decide (a_0.Leader≠b_1.Leader))) (fun hc21=>?_) (fun hc21=>?_)
 ·rw [iteT hc21] at hF19
  simp only [qf,qe,qh,qa,qx,B0,reduceIte,reduceEqDiff]
  have he:=qj hF19
  subst he
  simp only [qw,B0,reduceIte,reduceEqDiff]
  exact rfl
 rw [iteF hc21] at hF19
 simp only [za,qz3,qf,qe,qn,qb,Nat.reduceAdd,Nat.zero_add,Nat.add_zero,qq,ql,B0,reduceIte,reduceEqDiff]
 refine qi (v := .int .i64 a_0.Epoch) rfl ?_
 simp only [qn,qb,Nat.reduceAdd,Nat.zero_add,Nat.add_zero,qq,ql,B0,reduceIte,reduceEqDiff]
 refine qi (v := .int .i64 b_1.Epoch) rfl ?_
 simp only [qs,qb,kh,qa,qy,B0,reduceIte,reduceEqDiff]
 refine qu (t:=(decide (a_0.Epoch≠b_1.Epoch))) (fun hc22=>?_) (fun hc22=>?_)
 ·rw [iteT hc22] at hF19
  simp only [qf,qe,qh,qa,qx,B0,reduceIte,reduceEqDiff]
  have he:=qj hF19
  subst he
  simp only [qw,B0,reduceIte,reduceEqDiff]
  exact rfl
 rw [iteF hc22] at hF19
 simp only [za,qze,qf,qe,qn,qb,Nat.reduceAdd,Nat.zero_add,Nat.add_zero,qq,ql,B0,reduceIte,reduceEqDiff]
 refine qi (v := .int .i64 a_0.Stamp) rfl ?_
 simp only [qn,qb,Nat.reduceAdd,Nat.zero_add,Nat.add_zero,qq,ql,B0,reduceIte,reduceEqDiff]
 refine qi (v := .int .i64 b_1.Stamp) rfl ?_
 simp only [qs,qb,kh,qa,qy,B0,reduceIte,reduceEqDiff]
 refine qu (t:=(decide (a_0.Stamp≠b_1.Stamp))) (fun hc23=>?_) (fun hc23=>?_)
 ·rw [iteT hc23] at hF19
  simp only [qf,qe,qh,qa,qx,B0,reduceIte,reduceEqDiff]
  have he:=qj hF19
  subst he
  simp only [qw,B0,reduceIte,reduceEqDiff]
  exact rfl
 rw [iteF hc23] at hF19
 simp only [za,qf,qe,qh,qa,qx,B0,reduceIte,reduceEqDiff]
 have he:=qj hF19
 subst he
 simp only [qw,B0,reduceIte,reduceEqDiff]
 exact rfl
end Go.Proofs.Ytjloihcijdcpeaa.X
namespace Go.Proofs.Ytjloihcijdcpeaa.X
open Go
open Nat (reduceEqDiff)
theorem qht {W:Nat→Bool}{h:Heap} (hW:∀ b,
  (geL h.length) b→W b=true) (k:Nat) (a_0:List Partition) (b_1:List Partition) (r:Bool)
  (hF:x9 k a_0 b_1=some r) : Ret E W 63 [lst qd a_0,
  lst qd b_1] h (fun v h'=>cut h.length h' E.sz false 9 v=some (.bool r)):=by
 refine Ret.of (fn:=x63) rfl (Run.of ?_)
 unfold x9 at hF
 have zf0:zd [lst qd a_0,lst qd b_1] 0=lst qd a_0:=rfl
 have zf1:zd [lst qd a_0,lst qd b_1] 1=lst qd b_1:=rfl
 generalize zd [lst qd a_0,lst qd b_1]=fr0 at zf0 zf1 ⊢
 have hS:Sep h (geL h.length) []:=Sep.nil h
 simp only [x63,qf,qe,qh,qa,qxk,zf0,zq,qb,zw,zf1,qs,kh,qy,B0,reduceIte,reduceEqDiff]
 refine qu (t:=(decide ((List.length a_0:Int)≠(List.length b_1:Int)))) (fun hc1=>?_) (fun hc1=>?_)
 ·rw [iteT hc1] at hF
  simp only [qf,qe,qh,qa,qx,B0,reduceIte,reduceEqDiff]
  have he:=qj hF
  subst he
  simp only [qw,B0,reduceIte,reduceEqDiff]
  exact rfl
 rw [iteF hc1] at hF
 simp only [za,q1a,qf,qe,qh,qa,B0,reduceIte,reduceEqDiff]
 obtain ⟨oc6,hX8,hk9⟩:=jl hF
 simp only [qyc]
 refine uj (σ:=Int) (fun s41=>wi k a_0 b_1 s41)
   (fun s fr' h'=>fr' 0=lst qd a_0∧fr' 1=lst qd b_1∧fr' 5 = .int .i64 s∧Sep h' (geL h.length) ([])) hX8 ⟨zf0,zf1,rfl,
   hS⟩ (fun _ _ _ h=>h) ?_ ?_
 ·rintro s3 fr18 h19 ⟨f21,f22,f23,hS20⟩ oc7 hF10 hr11 Q12 hN13 hK14 hR15 hE16
  unfold wi at hF10
  simp only [q1k,qf,qe,f23,qh,f21,zq,qb,zw,qs,k8,qa,qy,B0,reduceIte,reduceEqDiff]
  refine qu (t:=(decide (s3<(List.length a_0:Int)))) (fun hc25=>?_) (fun hc25=>?_)
  ·rw [iteT hc25] at hF10
   obtain ⟨x26,hx27,hF28⟩:=qm hF10
   simp only [za,qwb,qf,ka,q30,jq,f21,jy,qz,f23,ue,B0,reduceIte,reduceEqDiff]
   refine zf (v := .ref (qd x26) 0) (kc hx27 rfl) ?_
   simp only [z8,B0,reduceIte,reduceEqDiff]
   refine zf (v := .agg [lst cI x26.Homes,lst cI x26.InStep,.int .i64 x26.Leader,.int .i64 x26.Epoch,.int .i64 x26.Stamp]) rfl ?_
   obtain ⟨x29,hx30,hF31⟩:=qm hF28
   simp only [f22,jy,qz,f23,ue,B0,reduceIte,reduceEqDiff]
   refine zf (v := .ref (qd x29) 0) (kc hx30 rfl) ?_
   simp only [z8,B0,reduceIte,reduceEqDiff]
   refine zf (v := .agg [lst cI x29.Homes,lst cI x29.InStep,.int .i64 x29.Leader,.int .i64 x29.Epoch,.int .i64 x29.Stamp]) rfl ?_
   obtain ⟨v32,hx33,hF34⟩:=qm hF31
   simp only [kq,B0,reduceIte,reduceEqDiff]
   refine qds rfl (qk (zv (qk zh (qk zh (qk qp (qk qp (qk qp ze)))))) (qk (zv (qk zh
     (qk zh (qk qp (qk qp (qk qp ze)))))) ze)) (qh6 (fun b hb=>decide_eq_true hb) k x26 x29 v32 hx33) ?_
   simp only [qf1,qz,j5,zp,qy,B0,reduceIte,reduceEqDiff]
   refine qu (t:=(!v32)) (fun hc35=>?_) (fun hc35=>?_)
   ·rw [iteT hc35] at hF34
    simp only [qf,qe,qh,qa,qx,B0,reduceIte,reduceEqDiff]
    have e36:=qj hF34
    subst e36
    have ho37:=hr11 _ rfl
    have hk38:=hk9
    rw [ho37] at hk38
    dsimp only [jnO] at hk38
    apply hR15
    have he:=qj hk38
    subst he
    simp only [qw,B0,reduceIte,reduceEqDiff]
    exact rfl
   rw [iteF hc35] at hF34
   simp only [za,kj,qe,f23,qh,qs,qb,yv,qa,qo,B0,reduceIte,reduceEqDiff]
   have e39:=qj hF34
   exact hN13 _ _ _ e39.symm ⟨f21,f22,rfl,hS20⟩
  rw [iteF hc25] at hF10
  simp only [wh,yu,w7,B0,reduceIte,reduceEqDiff]
  have e40:=qj hF10
  exact hK14 _ _ _ e40.symm ⟨f21,f22,f23,hS20⟩
 rintro s42 fr43 h44 rfl ⟨f46,f47,f48,hS45⟩
 dsimp only [jnO] at hk9
 unfold qdo at hk9
 simp only [qf,qe,qh,qa,qx,B0,reduceIte,reduceEqDiff]
 have he:=qj hk9
 subst he
 simp only [qw,B0,reduceIte,reduceEqDiff]
 exact rfl
theorem qbl {W:Nat→Bool}{h:Heap} (hW:∀ b,
  (geL h.length) b→W b=true) (k:Nat) (a_0:Control) (b_1:Control) (r:Bool) (hF:wa k a_0 b_1=some r) : Ret E W 31 [.agg [lst qg a_0.Brokers,
  lst qd a_0.Parts,.int .i64 a_0.Next],.agg [lst qg b_1.Brokers,lst qd b_1.Parts,
  .int .i64 b_1.Next]] h (fun v h'=>cut h.length h' E.sz false 9 v=some (.bool r)):=by
 refine Ret.of (fn:=x31) rfl (Run.of ?_)
 unfold wa at hF
 have zf0:zd [.agg [lst qg a_0.Brokers,lst qd a_0.Parts,.int .i64 a_0.Next],.agg [lst qg b_1.Brokers,lst qd b_1.Parts,
   .int .i64 b_1.Next]] 0 = .agg [lst qg a_0.Brokers,lst qd a_0.Parts,.int .i64 a_0.Next]:=rfl
 have zf1:zd [.agg [lst qg a_0.Brokers,lst qd a_0.Parts,.int .i64 a_0.Next],.agg [lst qg b_1.Brokers,lst qd b_1.Parts,
   .int .i64 b_1.Next]] 1 = .agg [lst qg b_1.Brokers,lst qd b_1.Parts,.int .i64 b_1.Next]:=rfl
 generalize zd [.agg [lst qg a_0.Brokers,lst qd a_0.Parts,.int .i64 a_0.Next],.agg [lst qg b_1.Brokers,lst qd b_1.Parts,
   .int .i64 b_1.Next]]=fr0 at zf0 zf1 ⊢
 have hS:Sep h (geL h.length) []:=Sep.nil h
 simp only [x31,qf,qe,ja,zf0,B0,reduceIte,reduceEqDiff]
 refine z0 (cs:=[lst qg a_0.Brokers,lst qd a_0.Parts,.int .i64 a_0.Next]) hS rfl rfl rfl (fun b1 h2 hS3=>?_)
 simp only [ja,zf1,B0,reduceIte,reduceEqDiff]
 refine z0 (cs:=[lst qg b_1.Brokers,lst qd b_1.Parts,.int .i64 b_1.Next]) hS3 rfl rfl rfl (fun b5 h6 hS7=>?_)
 simp only [qh,qa,B0,reduceIte,reduceEqDiff]
 refine zn (Sep.m1 hS7) hW (by simp only [B0,reduceIte,reduceEqDiff]) (fun h9 hS10=>?_)
 refine zn hS10 hW (by simp only [B0,reduceIte,reduceEqDiff]) (fun h11 hS12=>?_)
 simp only [zo,q2i,qf,qe,qn,qb,Nat.reduceAdd,Nat.zero_add,Nat.add_zero,qq,ql,B0,reduceIte,reduceEqDiff]
 refine qi (v:=lst qg a_0.Brokers) rfl ?_
 simp only [qn,qb,Nat.reduceAdd,Nat.zero_add,Nat.add_zero,qq,ql,B0,reduceIte,reduceEqDiff]
 refine qi (v:=lst qg b_1.Brokers) rfl ?_
 obtain ⟨v13,hx14,hF15⟩:=qm hF
 simp only [zg,B0,reduceIte,reduceEqDiff]
 refine z5 rfl (qk zh (qk zh ze)) (qjj (fun b hb=>decide_eq_true hb) k a_0.Brokers b_1.Brokers v13 hx14) ?_
 simp only [ji,qb,j5,qa,qy,B0,reduceIte,reduceEqDiff]
 refine qu (t:=(!v13)) (fun hc16=>?_) (fun hc16=>?_)
 ·rw [iteT hc16] at hF15
  simp only [qf,qe,qh,qa,qx,B0,reduceIte,reduceEqDiff]
  have he:=qj hF15
  subst he
  simp only [qw,B0,reduceIte,reduceEqDiff]
  exact rfl
 rw [iteF hc16] at hF15
 simp only [za,q4j,qf,qe,qn,qb,Nat.reduceAdd,Nat.zero_add,Nat.add_zero,qq,ql,B0,reduceIte,reduceEqDiff]
 refine qi (v:=lst qd a_0.Parts) rfl ?_
 simp only [qn,qb,Nat.reduceAdd,Nat.zero_add,Nat.add_zero,qq,ql,B0,reduceIte,reduceEqDiff]
 refine qi (v:=lst qd b_1.Parts) rfl ?_
 obtain ⟨v17,hx18,hF19⟩:=qm hF15
 simp only [zg,B0,reduceIte,reduceEqDiff]
 refine z5 rfl (qk zh (qk zh ze)) (qht (fun b hb=>decide_eq_true hb) k a_0.Parts b_1.Parts v17 hx18) ?_
 simp only [ji,qb,j5,qa,qy,B0,reduceIte,reduceEqDiff]
 refine qu (t:=(!v17)) (fun hc20=>?_) (fun hc20=>?_)
 ·rw [iteT hc20] at hF19
  simp only [qf,qe,qh,qa,qx,B0,reduceIte,reduceEqDiff]
  have he:=qj hF19
  subst he
  simp only [qw,B0,reduceIte,reduceEqDiff]
  exact rfl
 rw [iteF hc20] at hF19
 simp only [za,qxz,qf,qe,qn,qb,Nat.reduceAdd,Nat.zero_add,Nat.add_zero,qq,ql,B0,reduceIte,reduceEqDiff]
 refine qi (v := .int .i64 a_0.Next) rfl ?_
 simp only [qn,qb,Nat.reduceAdd,Nat.zero_add,Nat.add_zero,qq,ql,B0,reduceIte,reduceEqDiff]
 refine qi (v := .int .i64 b_1.Next) rfl ?_
 simp only [qs,qb,kh,qa,qy,B0,reduceIte,reduceEqDiff]
 refine qu (t:=(decide (a_0.Next≠b_1.Next))) (fun hc21=>?_) (fun hc21=>?_)
 ·rw [iteT hc21] at hF19
  simp only [qf,qe,qh,qa,qx,B0,reduceIte,reduceEqDiff]
  have he:=qj hF19
  subst he
  simp only [qw,B0,reduceIte,reduceEqDiff]
  exact rfl
 rw [iteF hc21] at hF19
 simp only [za,qf,qe,qh,qa,qx,B0,reduceIte,reduceEqDiff]
 have he:=qj hF19
 subst he
 simp only [qw,B0,reduceIte,reduceEqDiff]
 exact rfl
theorem qh7 {W:Nat→Bool}{h:Heap}{lo:Nat→Prop}{S0:List Obj} (hW:∀ b,
  lo b→W b=true) (k:Nat) (pv0:XV) (pc0:List Obj) (a_0:List Broker) (ph0:SlF qg 3 86 pv0 a_0 pc0) (k_1:Int) (r:Int × (List Broker))
  (hF:uu k a_0 k_1=some r) (hS:Sep h lo (pc0++(S0))) : Ret E W 64 [pv0,.int .i64 k_1] h (fun v h'=>∃ ic0,
  v = .int .i64 r.1∧SlF qg 3 86 pv0 r.2 ic0∧Sep h' lo (ic0++(S0))):=by
 refine Ret.of (fn:=x64) rfl (Run.of ?_)
 unfold uu at hF
 have zf0:zd [pv0,.int .i64 k_1] 0=pv0:=rfl
 have zf1:zd [pv0,.int .i64 k_1] 1 = .int .i64 k_1:=rfl
 generalize zd [pv0,.int .i64 k_1]=fr0 at zf0 zf1 ⊢
 simp only [x64,qf,qe,qh,qa,qo8,B0,reduceIte,reduceEqDiff]
 obtain ⟨oc13,hX15,hk16⟩:=jl hF
 simp only [qv7]
 refine uj (σ:=Int × Int × (List Broker)) (fun s55=>ww s55.1 s55.2.1 s55.2.2) (fun s fr' h'=>∃ c9,
   fr' 0=pv0∧fr' 1 = .int .i64 s.1∧fr' 5 = .int .i64 s.2.1∧SlF qg 3 86 pv0 s.2.2 c9∧Sep h' lo (c9++(S0))) hX15 ⟨pc0,zf0,zf1,rfl,ph0,
   hS⟩ (fun _ _ _ h=>h) ?_ ?_
 ·rintro ⟨s6,s7,s8⟩ fr25 h26 ⟨c9,f28,f29,f30,hv10,hS27⟩ oc14 hF17 hr18 Q19 hN20 hK21 hR22 hE23
  dsimp only at *
  unfold ww at hF17
  simp only [q0j,qf,qe,f30,qh,f28,zq,qb,SlF.plen hv10,qs,k8,qa,qy,B0,reduceIte,reduceEqDiff]
  refine qu (t:=(decide (s7<(List.length s8:Int)))) (fun hc32=>?_) (fun hc32=>?_)
  ·rw [iteT hc32] at hF17
   obtain ⟨x33,hx34,hF35⟩:=qm hF17
   simp only [za,q1l,qf,ka,qxg,qe,f28,qh,f30,f29,z1,B0,reduceIte,reduceEqDiff]
   obtain ⟨b36,hb37⟩:=SlF.isrow hv10 (kz hx34)
   refine qi (SlF.ia hv10 hb37 hx34) ?_
   simp only [qn,qb,Nat.reduceAdd,Nat.zero_add,Nat.add_zero,zb,zm,B0,reduceIte,reduceEqDiff]
   refine wz (f:=qg) (x':=(Broker.mk s6 x33.Left x33.Fenced)) (o:=0) hv10 hS27 hW hb37 hx34 (fun _=>rfl) rfl rfl (nle rfl) rfl
     (fun c40 h38 hv41 hS39=>?_)
   have hx42:=j9 (x':=(Broker.mk s6 x33.Left x33.Fenced)) hx34
   simp only [qa,qzo,qf,qe,f29,qh,qs,qb,yv,q28,f28,f30,z1,B0,reduceIte,reduceEqDiff]
   refine qi (SlF.ia hv41 hb37 hx42) ?_
   simp only [qn,qb,Nat.reduceAdd,Nat.zero_add,Nat.add_zero,zb,zm,B0,reduceIte,reduceEqDiff]
   refine wz (f:=qg) (x':=(Broker.mk s6 (IntKind.wrap .i64 (s6+1)) x33.Fenced)) (o:=1) hv41 hS39 hW hb37 hx42 (fun _=>rfl) rfl rfl (nle rfl) rfl
     (fun c45 h43 hv46 hS44=>?_)
   rw [List.set_set] at hv46
   have hx47:=j9 (x':=(Broker.mk s6 (IntKind.wrap .i64 (s6+1)) x33.Fenced)) hx34
   simp only [qa,qx3,qf,qe,qh,qs,qb,yv,q04,f28,f30,qn2 (n:=3) (by decide),jb,z1,B0,reduceIte,reduceEqDiff]
   refine qi (SlF.ia hv46 hb37 hx47) ?_
   simp only [qn,qb,Nat.reduceAdd,Nat.zero_add,Nat.add_zero,zb,zm,B0,reduceIte,reduceEqDiff]
   refine wz (f:=qg) (x':=(Broker.mk s6 (IntKind.wrap .i64 (s6+1)) (decide ((Int.tmod (IntKind.wrap .i64 ((IntKind.wrap .i64 (s6+1))+1)) 3)=0))))
     (o:=2) hv46 hS44 hW hb37 hx47 (fun _=>rfl) rfl rfl (nle rfl) rfl (fun c50 h48 hv51 hS49=>?_)
   rw [List.set_set] at hv51
   have hx52:=j9 (x':=(Broker.mk s6 (IntKind.wrap .i64 (s6+1)) (decide ((Int.tmod (IntKind.wrap .i64 ((IntKind.wrap .i64 (s6+1))+1)) 3)=0)))) hx34
   simp only [qa,qe,qh,qs,qb,yv,kj,f30,qo,B0,reduceIte,reduceEqDiff]
   have e53:=qj hF35
   exact hN20 _ _ _ e53.symm ⟨c50,f28,rfl,rfl,hv51,hS49⟩
  rw [iteF hc32] at hF17
  simp only [wh,yu,w7,B0,reduceIte,reduceEqDiff]
  have e54:=qj hF17
  exact hK21 _ _ _ e54.symm ⟨c9,f28,f29,f30,hv10,hS27⟩
 rintro ⟨s56,s57,s58⟩ fr61 h62 rfl ⟨c59,f64,f65,f66,hv60,hS63⟩
 dsimp only [jnO] at hk16
 dsimp only at *
 unfold qd2 at hk16
 simp only [qf,qe,f65,qh,qa,qx,B0,reduceIte,reduceEqDiff]
 have he:=qj hk16
 subst he
 simp only [qw,B0,reduceIte,reduceEqDiff]
 exact ⟨c59,by first | trivial | rfl,hv60,hS63⟩
theorem qdv {W:Nat→Bool}{h:Heap}{lo:Nat→Prop}{S0:List Obj} (hW:∀ b,
  lo b→W b=true) (k:Nat) (pv0:XV) (pc0:List Obj) (a_0:List Int) (ph0:SlF cI 1 3 pv0 a_0 pc0) (k_1:Int) (r:Int × (List Int))
  (hF:xu k a_0 k_1=some r) (hS:Sep h lo (pc0++(S0))) : Ret E W 36 [pv0,.int .i64 k_1] h (fun v h'=>∃ ic0,
  v = .int .i64 r.1∧SlF cI 1 3 pv0 r.2 ic0∧Sep h' lo (ic0++(S0))):=by
 refine Ret.of (fn:=x36) rfl (Run.of ?_)
 unfold xu at hF
 have zf0:zd [pv0,.int .i64 k_1] 0=pv0:=rfl
 have zf1:zd [pv0,.int .i64 k_1] 1 = .int .i64 k_1:=rfl
 generalize zd [pv0,.int .i64 k_1]=fr0 at zf0 zf1 ⊢
 simp only [x36,qf,qe,qh,qa,qwm,B0,reduceIte,reduceEqDiff]
 obtain ⟨oc13,hX15,hk16⟩:=jl hF
 simp only [qzn]
 refine uj (σ:=Int × Int × (List Int)) (fun s45=>ux s45.1 s45.2.1 s45.2.2) (fun s fr' h'=>∃ c9,
   fr' 0=pv0∧fr' 1 = .int .i64 s.1∧fr' 5 = .int .i64 s.2.1∧SlF cI 1 3 pv0 s.2.2 c9∧Sep h' lo (c9++(S0))) hX15 ⟨pc0,zf0,zf1,rfl,ph0,hS⟩ (fun _ _ _ h=>h) ?_ ?_
 ·rintro ⟨s6,s7,s8⟩ fr25 h26 ⟨c9,f28,f29,f30,hv10,hS27⟩ oc14 hF17 hr18 Q19 hN20 hK21 hR22 hE23
  dsimp only at *
  unfold ux at hF17
  simp only [q2t,qf,qe,f30,qh,f28,zq,qb,SlF.plen hv10,qs,k8,qa,qy,B0,reduceIte,reduceEqDiff]
  refine qu (t:=(decide (s7<(List.length s8:Int)))) (fun hc32=>?_) (fun hc32=>?_)
  ·rw [iteT hc32] at hF17
   obtain ⟨x33,hx34,hF35⟩:=qm hF17
   simp only [za,q11,qf,ka,qyf,qe,f28,qh,f30,f29,z1,B0,reduceIte,reduceEqDiff]
   obtain ⟨b36,hb37⟩:=SlF.isrow hv10 (kz hx34)
   refine qi (SlF.ia hv10 hb37 hx34) ?_
   simp only [zm,B0,reduceIte,reduceEqDiff]
   refine wz (f:=cI) (x':=s6) (o:=0) hv10 hS27 hW hb37 hx34 (fun _=>rfl) rfl rfl (nle rfl) rfl (fun c40 h38 hv41 hS39=>?_)
   have hx42:=j9 (x':=s6) hx34
   simp only [qa,qe,f29,qh,qs,qb,yv,kj,f30,qo,B0,reduceIte,reduceEqDiff]
   have e43:=qj hF35
   exact hN20 _ _ _ e43.symm ⟨c40,f28,rfl,rfl,hv41,hS39⟩
  rw [iteF hc32] at hF17
  simp only [wh,yu,w7,B0,reduceIte,reduceEqDiff]
  have e44:=qj hF17
  exact hK21 _ _ _ e44.symm ⟨c9,f28,f29,f30,hv10,hS27⟩
 rintro ⟨s46,s47,s48⟩ fr51 h52 rfl ⟨c49,f54,f55,f56,hv50,hS53⟩
 dsimp only [jnO] at hk16
 dsimp only at *
 unfold qfs at hk16
 simp only [qf,qe,f55,qh,qa,qx,B0,reduceIte,reduceEqDiff]
 have he:=qj hk16
 subst he
 simp only [qw,B0,reduceIte,reduceEqDiff]
 exact ⟨c49,by first | trivial | rfl,hv50,hS53⟩
theorem qgj {W:Nat→Bool}{h:Heap}{lo:Nat→Prop}{S0:List Obj} (hW:∀ b,
  lo b→W b=true) (k:Nat) (pv0:XV) (pc0:List Obj) (a_0:List Partition) (ph0:SlN Partition.R 5 39 pv0 a_0 pc0) (k_1:Int) (r:Int × (List Partition))
  (hF:wu k a_0 k_1=some r) (hS:Sep h lo (pc0++(S0))) : Ret E W 65 [pv0,.int .i64 k_1] h (fun v h'=>∃ ic0,
  v = .int .i64 r.1∧SlN Partition.R 5 39 pv0 r.2 ic0∧Sep h' lo (ic0++(S0))):=by
 refine Ret.of (fn:=x65) rfl (Run.of ?_)
 unfold wu at hF
 have zf0:zd [pv0,.int .i64 k_1] 0=pv0:=rfl
 have zf1:zd [pv0,.int .i64 k_1] 1 = .int .i64 k_1:=rfl
 generalize zd [pv0,.int .i64 k_1]=fr0 at zf0 zf1 ⊢
 simp only [x65,qf,qe,qh,qa,qt0,B0,reduceIte,reduceEqDiff]
 obtain ⟨oc13,hX15,hk16⟩:=jl hF
 simp only [qp7]
 refine uj (σ:=Int × Int × (List Partition)) (fun s86=>yn k s86.1 s86.2.1 s86.2.2) (fun s fr' h'=>∃ c9,
   fr' 0=pv0∧fr' 1 = .int .i64 s.1∧fr' 5 = .int .i64 s.2.1∧SlN Partition.R 5 39 pv0 s.2.2 c9∧Sep h' lo (c9++(S0))) hX15 ⟨pc0,zf0,zf1,rfl,ph0,
   hS⟩ (fun _ _ _ h=>h) ?_ ?_
 ·rintro ⟨s6,s7,s8⟩ fr25 h26 ⟨c9,f28,f29,f30,hv10,hS27⟩ oc14 hF17 hr18 Q19 hN20 hK21 hR22 hE23
  dsimp only at *
  unfold yn at hF17
  simp only [qys,qf,qe,f30,qh,f28,zq,qb,SlN.len hv10,qs,k8,qa,qy,B0,reduceIte,reduceEqDiff]
  refine qu (t:=(decide (s7<(List.length s8:Int)))) (fun hc32=>?_) (fun hc32=>?_)
  ·rw [iteT hc32] at hF17
   obtain ⟨x33,hx34,hF35⟩:=qm hF17
   simp only [za,q4p,qf,ka,qyz,qe,f28,qh,f30,z1,B0,reduceIte,reduceEqDiff]
   obtain ⟨b36,hb37⟩:=SlN.isrow hv10 (kz hx34)
   refine qi (SlN.ia hv10 hb37 hx34) ?_
   obtain ⟨c38,cs39,os40,hv41,hR42,hS43⟩:=SlG.opn (SlN.toG hv10 hb37 Partition.RO.len) hx34 jx Partition.RO.len hS27
   obtain ⟨v45,c46,v49,c50,hv47,hv51,rfl,rfl⟩:=hR42
   have hS44:=Sep.no2 hS43
   simp only [qn,qb,Nat.reduceAdd,Nat.zero_add,Nat.add_zero,zb,ql,B0,reduceIte,reduceEqDiff]
   refine qi (v:=v45) ((SlG.ld (o:=0) hv41 rfl hx34 hS44 (nle rfl)).trans rfl) ?_
   obtain ⟨v53,hx54,hF55⟩:=qm hF35
   simp only [f29,qh,zg,B0,reduceIte,reduceEqDiff]
   refine qau rfl (qdv hW k v45 c46 x33.Homes hv47 s6 v53 hx54 (Sep.m1 hS44)) ?_
   rintro _ h58 ⟨c56,rfl,hv57,hS59⟩
   simp only [qh,qa,qwc,qf,qe,f28,f30,z1,B0,reduceIte,reduceEqDiff]
   refine qi (SlG.ia hv41 hx34) ?_
   simp only [qn,qb,Nat.reduceAdd,Nat.zero_add,Nat.add_zero,zb,ql,B0,reduceIte,reduceEqDiff]
   refine qi (v:=v49) ((SlG.ld (o:=1) hv41 rfl hx34 (Sep.m1 hS59) (nle rfl)).trans rfl) ?_
   obtain ⟨v60,hx61,hF62⟩:=qm hF55
   simp only [qh,zg,B0,reduceIte,reduceEqDiff]
   refine qau rfl (qdv hW k v49 c50 x33.InStep hv51 v53.1 v60 hx61 (Sep.m2 hS59)) ?_
   rintro _ h65 ⟨c63,rfl,hv64,hS66⟩
   simp only [qh,qa,q0g,qf,qe,f28,f30,z1,B0,reduceIte,reduceEqDiff]
   refine qi (SlG.ia hv41 hx34) ?_
   simp only [qn,qb,Nat.reduceAdd,Nat.zero_add,Nat.add_zero,zb,zm,B0,reduceIte,reduceEqDiff]
   refine xd (n:=5) (us:=[.int .i64 v60.1]) (cs:=[v45,v49,.int .i64 x33.Leader,.int .i64 x33.Epoch,.int .i64 x33.Stamp]) (o:=2) (cs':=[v45,v49,
     .int .i64 v60.1,.int .i64 x33.Epoch,.int .i64 x33.Stamp]) rfl hv41 rfl hx34 (Sep.m2 hS66) hW rfl rfl (nle rfl) rfl (fun c69 h67 hv70 hS68=>?_)
   simp only [qa,q2o,qf,qe,qh,qs,qb,yv,q02,f28,f30,z1,B0,reduceIte,reduceEqDiff]
   refine qi (SlG.ia hv70 hx34) ?_
   simp only [qn,qb,Nat.reduceAdd,Nat.zero_add,Nat.add_zero,zb,zm,B0,reduceIte,reduceEqDiff]
   refine xd (n:=5) (us:=[.int .i64 (IntKind.wrap .i64 (v60.1+1))]) (cs:=[v45,v49,.int .i64 v60.1,.int .i64 x33.Epoch,
     .int .i64 x33.Stamp]) (o:=3) (cs':=[v45,v49,.int .i64 v60.1,.int .i64 (IntKind.wrap .i64 (v60.1+1)),
     .int .i64 x33.Stamp]) rfl hv70 rfl hx34 hS68 hW rfl rfl (nle rfl) rfl (fun c73 h71 hv74 hS72=>?_)
   simp only [qa,q03,qf,qe,qh,qs,qb,yv,q0v,f28,f30,z1,B0,reduceIte,reduceEqDiff]
   refine qi (SlG.ia hv74 hx34) ?_
   simp only [qn,qb,Nat.reduceAdd,Nat.zero_add,Nat.add_zero,zb,zm,B0,reduceIte,reduceEqDiff]
   refine xd (n:=5) (us:=[.int .i64 (IntKind.wrap .i64 ((IntKind.wrap .i64 (v60.1+1))+1))]) (cs:=[v45,v49,.int .i64 v60.1,
     .int .i64 (IntKind.wrap .i64 (v60.1+1)),.int .i64 x33.Stamp]) (o:=4) (cs':=[v45,v49,.int .i64 v60.1,.int .i64 (IntKind.wrap .i64 (v60.1+1)),
     .int .i64 (IntKind.wrap .i64 ((IntKind.wrap .i64 (v60.1+1))+1))]) rfl hv74 rfl hx34 hS72 hW rfl rfl (nle rfl) rfl (fun c77 h75 hv78 hS76=>?_)
   simp only [qa,qe,qh,qs,qb,yv,kj,f30,qo,B0,reduceIte,reduceEqDiff]
   obtain ⟨c79,hv80,hS81⟩:=SlG.cls (e':=(Partition.mk v53.2 v60.2 v60.1 (IntKind.wrap .i64 (v60.1+1)) (IntKind.wrap .i64 ((IntKind.wrap .i64 (v60.1+1))+1))))
     (c:=c77) (os:=c56++(c63)) hv78 rfl hx34 jx (Partition.RI (x:=(Partition.mk v53.2 v60.2 v60.1 (IntKind.wrap .i64 (v60.1+1)) (IntKind.wrap .i64
     ((IntKind.wrap .i64 (v60.1+1))+1)))) hv57 hv64) (Sep.ni2 (c1:=c56) (c2:=c63) (Sep.m2 (Sep.m2 (Sep.m1 hS76))))
   have hx82:=j9 (x':=(Partition.mk v53.2 v60.2 v60.1 (IntKind.wrap .i64 (v60.1+1)) (IntKind.wrap .i64 ((IntKind.wrap .i64 (v60.1+1))+1)))) hx34
   have hv83:=SlG.toN hv80
   have e84:=qj hF62
   exact hN20 _ _ _ e84.symm ⟨c79,f28,rfl,rfl,hv83,hS81⟩
  rw [iteF hc32] at hF17
  simp only [wh,yu,w7,B0,reduceIte,reduceEqDiff]
  have e85:=qj hF17
  exact hK21 _ _ _ e85.symm ⟨c9,f28,f29,f30,hv10,hS27⟩
 rintro ⟨s87,s88,s89⟩ fr92 h93 rfl ⟨c90,f95,f96,f97,hv91,hS94⟩
 dsimp only [jnO] at hk16
 dsimp only at *
 unfold qcx at hk16
 simp only [qf,qe,f96,qh,qa,qx,B0,reduceIte,reduceEqDiff]
 have he:=qj hk16
 subst he
 simp only [qw,B0,reduceIte,reduceEqDiff]
 exact ⟨c90,by first | trivial | rfl,hv91,hS94⟩
theorem qer {W:Nat→Bool}{h:Heap}{lo:Nat→Prop}{S0:List Obj} (hW:∀ b,
  lo b→W b=true) (k:Nat) (a_0:Control) (pv0_0:XV) (pc0_0:List Obj) (ph0_0:SlF qg 3 86 pv0_0 a_0.Brokers pc0_0) (pv0_1:XV) (pc0_1:List Obj)
  (ph0_1:SlN Partition.R 5 39 pv0_1 a_0.Parts pc0_1) (k_1:Int) (r:Int × Control) (hF:w8 k a_0 k_1=some r) (hS:Sep h lo (pc0_0++(pc0_1 ++
  (S0)))) : Ret E W 35 [.agg [pv0_0,pv0_1,.int .i64 a_0.Next],.int .i64 k_1] h (fun v h'=>∃ ic0_0 ic0_1,
  v = .int .i64 r.1∧SlF qg 3 86 pv0_0 r.2.Brokers ic0_0∧SlN Partition.R 5 39 pv0_1 r.2.Parts ic0_1∧Sep h' lo (ic0_0++(ic0_1++(S0)))):=by
 refine Ret.of (fn:=x35) rfl (Run.of ?_)
 unfold w8 at hF
 have zf0:zd [.agg [pv0_0,pv0_1,.int .i64 a_0.Next],.int .i64 k_1] 0 = .agg [pv0_0,pv0_1,.int .i64 a_0.Next]:=rfl
 have zf1:zd [.agg [pv0_0,pv0_1,.int .i64 a_0.Next],.int .i64 k_1] 1 = .int .i64 k_1:=rfl
 generalize zd [.agg [pv0_0,pv0_1,.int .i64 a_0.Next],.int .i64 k_1]=fr0 at zf0 zf1 ⊢
 simp only [x35,qf,qe,ja,zf0,B0,reduceIte,reduceEqDiff]
 refine z0 (cs:=[pv0_0,pv0_1,.int .i64 a_0.Next]) hS rfl rfl (qv (SlF.one ph0_0) (qv (SlN.one ph0_1) (qv rfl zx))) (fun b1 h2 hS3=>?_)
 simp only [qh,qa,B0,reduceIte,reduceEqDiff]
 refine zn hS3 hW (by simp only [B0,reduceIte,reduceEqDiff]) (fun h5 hS6=>?_)
 simp only [zo,q3y,qf,qe,qn,qb,Nat.reduceAdd,Nat.zero_add,Nat.add_zero,qq,ql,B0,reduceIte,reduceEqDiff]
 refine qi (v:=pv0_0) rfl ?_
 obtain ⟨v7,hx8,hF9⟩:=qm hF
 simp only [zf1,qh,zg,B0,reduceIte,reduceEqDiff]
 refine qau rfl (qh7 hW k pv0_0 pc0_0 a_0.Brokers ph0_0 k_1 v7 hx8 hS6) ?_
 rintro _ h12 ⟨c10,rfl,hv11,hS13⟩
 simp only [qh,qa,q4h,qf,qe,qn,qb,Nat.reduceAdd,Nat.zero_add,Nat.add_zero,qq,ql,B0,reduceIte,reduceEqDiff]
 refine qi (v:=pv0_1) rfl ?_
 obtain ⟨v14,hx15,hF16⟩:=qm hF9
 simp only [qh,zg,B0,reduceIte,reduceEqDiff]
 refine qau rfl (qgj hW k pv0_1 pc0_1 a_0.Parts ph0_1 v7.1 v14 hx15 (Sep.m1 hS13)) ?_
 rintro _ h19 ⟨c17,rfl,hv18,hS20⟩
 simp only [qh,qa,qf,qe,qx,B0,reduceIte,reduceEqDiff]
 have he:=qj hF16
 subst he
 simp only [qw,B0,reduceIte,reduceEqDiff]
 exact ⟨c10,c17,by first | trivial | rfl,hv11,hv18,(Sep.m1 hS20)⟩
theorem qh2 {W:Nat→Bool}{h:Heap} (hW:∀ b,
  (geL h.length) b→W b=true) (k:Nat) (a_0:List Broker) (k_1:Int) (r:Int) (hF:uv k a_0 k_1=some r) : Ret E W 66 [lst qg a_0,
  .int .i64 k_1] h (fun v h'=>cut h.length h' E.sz false 9 v=some (.int .i64 r)):=by
 refine Ret.of (fn:=x66) rfl (Run.of ?_)
 unfold uv at hF
 have zf0:zd [lst qg a_0,.int .i64 k_1] 0=lst qg a_0:=rfl
 have zf1:zd [lst qg a_0,.int .i64 k_1] 1 = .int .i64 k_1:=rfl
 generalize zd [lst qg a_0,.int .i64 k_1]=fr0 at zf0 zf1 ⊢
 have hS:Sep h (geL h.length) []:=Sep.nil h
 simp only [x66,qf,qe,qh,qa,qsm,B0,reduceIte,reduceEqDiff]
 obtain ⟨oc7,hX9,hk10⟩:=jl hF
 simp only [qxs]
 refine uj (σ:=Int × Int) (fun s50=>wx a_0 s50.1 s50.2)
   (fun s fr' h'=>fr' 0=lst qg a_0∧fr' 1 = .int .i64 s.1∧fr' 5 = .int .i64 s.2∧Sep h' (geL h.length) ([])) hX9 ⟨zf0,zf1,rfl,hS⟩ (fun _ _ _ h=>h) ?_ ?_
 ·rintro ⟨s3,s4⟩ fr19 h20 ⟨f22,f23,f24,hS21⟩ oc8 hF11 hr12 Q13 hN14 hK15 hR16 hE17
  dsimp only at *
  unfold wx at hF11
  simp only [q1r,qf,qe,f24,qh,f22,zq,qb,zw,qs,k8,qa,qy,B0,reduceIte,reduceEqDiff]
  refine qu (t:=(decide (s4<(List.length a_0:Int)))) (fun hc26=>?_) (fun hc26=>?_)
  ·rw [iteT hc26] at hF11
   obtain ⟨x27,hx28,hF29⟩:=qm hF11
   simp only [za,qwo,qf,ka,qzh,qe,f22,qh,f24,z1,B0,reduceIte,reduceEqDiff]
   refine qi (v := .ref (qg x27) 0) (kc hx28 rfl) ?_
   simp only [qn,qb,Nat.reduceAdd,Nat.zero_add,Nat.add_zero,qq,ql,B0,reduceIte,reduceEqDiff]
   refine qi (v := .int .i64 x27.Epoch) rfl ?_
   simp only [f23,qh,qs,qb,kh,qa,qy,B0,reduceIte,reduceEqDiff]
   refine qu (t:=(decide (x27.Epoch≠s3))) (fun hc30=>?_) (fun hc30=>?_)
   ·rw [iteT hc30] at hF29
    simp only [qf,qe,qh,qa,qx,B0,reduceIte,reduceEqDiff]
    have e31:=qj hF29
    subst e31
    have ho32:=hr12 _ rfl
    have hk33:=hk10
    rw [ho32] at hk33
    dsimp only [jnO] at hk33
    apply hR16
    have he:=qj hk33
    subst he
    simp only [qw,B0,reduceIte,reduceEqDiff]
    exact rfl
   rw [iteF hc30] at hF29
   obtain ⟨x34,hx35,hF36⟩:=qm hF29
   simp only [za,qyg,qf,qe,f23,qh,qs,qb,yv,qa,q3n,f22,f24,z1,B0,reduceIte,reduceEqDiff]
   refine qi (v := .ref (qg x34) 0) (kc hx35 rfl) ?_
   simp only [qn,qb,Nat.reduceAdd,Nat.zero_add,Nat.add_zero,qq,ql,B0,reduceIte,reduceEqDiff]
   refine qi (v := .int .i64 x34.Left) rfl ?_
   simp only [qh,qs,qb,kh,qa,qy,B0,reduceIte,reduceEqDiff]
   refine qu (t:=(decide (x34.Left≠(IntKind.wrap .i64 (s3+1))))) (fun hc37=>?_) (fun hc37=>?_)
   ·rw [iteT hc37] at hF36
    simp only [qf,qe,qh,qa,qx,B0,reduceIte,reduceEqDiff]
    have e38:=qj hF36
    subst e38
    have ho39:=hr12 _ rfl
    have hk40:=hk10
    rw [ho39] at hk40
    dsimp only [jnO] at hk40
    apply hR16
    have he:=qj hk40
    subst he
    simp only [qw,B0,reduceIte,reduceEqDiff]
    exact rfl
   rw [iteF hc37] at hF36
   obtain ⟨x41,hx42,hF43⟩:=qm hF36
   simp only [za,q3v,qf,qe,qh,qs,qb,yv,qa,qvt,f22,f24,z1,B0,reduceIte,reduceEqDiff]
   refine qi (v := .ref (qg x41) 0) (kc hx42 rfl) ?_
   simp only [qn,qb,Nat.reduceAdd,Nat.zero_add,Nat.add_zero,qq,ql,B0,reduceIte,reduceEqDiff]
   refine qi (v := .bool x41.Fenced) rfl ?_
   simp only [qh,qs,qb,qn2 (n:=3) (by decide),jb,qeg,qfp,qa,qy,B0,reduceIte,reduceEqDiff]
   refine qu (t:=(!(x41.Fenced == (decide ((Int.tmod (IntKind.wrap .i64 ((IntKind.wrap .i64 (s3+1))+1)) 3)=0))))) (fun hc44=>?_) (fun hc44=>?_)
   ·rw [iteT hc44] at hF43
    simp only [qf,qe,qh,qa,qx,B0,reduceIte,reduceEqDiff]
    have e45:=qj hF43
    subst e45
    have ho46:=hr12 _ rfl
    have hk47:=hk10
    rw [ho46] at hk47
    dsimp only [jnO] at hk47
    apply hR16
    have he:=qj hk47
    subst he
    simp only [qw,B0,reduceIte,reduceEqDiff]
    exact rfl
   rw [iteF hc44] at hF43
   simp only [za,qe,qh,qs,qb,yv,qa,kj,f24,qo,B0,reduceIte,reduceEqDiff]
   have e48:=qj hF43
   exact hN14 _ _ _ e48.symm ⟨f22,rfl,rfl,hS21⟩
  rw [iteF hc26] at hF11
  simp only [wh,yu,w7,B0,reduceIte,reduceEqDiff]
  have e49:=qj hF11
  exact hK15 _ _ _ e49.symm ⟨f22,f23,f24,hS21⟩
 rintro ⟨s51,s52⟩ fr53 h54 rfl ⟨f56,f57,f58,hS55⟩
 dsimp only [jnO] at hk10
 dsimp only at *
 unfold qd3 at hk10
 simp only [qf,qe,f57,qh,qa,qx,B0,reduceIte,reduceEqDiff]
 have he:=qj hk10
 subst he
 simp only [qw,B0,reduceIte,reduceEqDiff]
 exact rfl
theorem qfz {W:Nat→Bool}{h:Heap} (hW:∀ b,
  (geL h.length) b→W b=true) (k:Nat) (a_0:List Int) (k_1:Int) (r:Int) (hF:u6 k a_0 k_1=some r) : Ret E W 38 [lst cI a_0,
  .int .i64 k_1] h (fun v h'=>cut h.length h' E.sz false 9 v=some (.int .i64 r)):=by
 refine Ret.of (fn:=x38) rfl (Run.of ?_)
 unfold u6 at hF
 have zf0:zd [lst cI a_0,.int .i64 k_1] 0=lst cI a_0:=rfl
 have zf1:zd [lst cI a_0,.int .i64 k_1] 1 = .int .i64 k_1:=rfl
 generalize zd [lst cI a_0,.int .i64 k_1]=fr0 at zf0 zf1 ⊢
 have hS:Sep h (geL h.length) []:=Sep.nil h
 simp only [x38,qf,qe,qh,qa,qwa,B0,reduceIte,reduceEqDiff]
 obtain ⟨oc7,hX9,hk10⟩:=jl hF
 simp only [q1t]
 refine uj (σ:=Int × Int) (fun s36=>ut a_0 s36.1 s36.2) (fun s fr' h'=>fr' 0=lst cI a_0∧fr' 1 = .int .i64 s.1∧fr' 5 = .int .i64 s.2∧Sep h'
   (geL h.length) ([])) hX9 ⟨zf0,zf1,rfl,hS⟩ (fun _ _ _ h=>h) ?_ ?_
 ·rintro ⟨s3,s4⟩ fr19 h20 ⟨f22,f23,f24,hS21⟩ oc8 hF11 hr12 Q13 hN14 hK15 hR16 hE17
  dsimp only at *
  unfold ut at hF11
  simp only [qxp,qf,qe,f24,qh,f22,zq,qb,zw,qs,k8,qa,qy,B0,reduceIte,reduceEqDiff]
  refine qu (t:=(decide (s4<(List.length a_0:Int)))) (fun hc26=>?_) (fun hc26=>?_)
  ·rw [iteT hc26] at hF11
   obtain ⟨x27,hx28,hF29⟩:=qm hF11
   simp only [za,q0c,qf,ka,qwq,qe,f22,qh,f24,z1,B0,reduceIte,reduceEqDiff]
   refine qi (v := .ref (cI x27) 0) (kc hx28 rfl) ?_
   simp only [ql,B0,reduceIte,reduceEqDiff]
   refine qi (v := .int .i64 x27) rfl ?_
   simp only [f23,qh,qs,qb,kh,qa,qy,B0,reduceIte,reduceEqDiff]
   refine qu (t:=(decide (x27≠s3))) (fun hc30=>?_) (fun hc30=>?_)
   ·rw [iteT hc30] at hF29
    simp only [qf,qe,qh,qa,qx,B0,reduceIte,reduceEqDiff]
    have e31:=qj hF29
    subst e31
    have ho32:=hr12 _ rfl
    have hk33:=hk10
    rw [ho32] at hk33
    dsimp only [jnO] at hk33
    apply hR16
    have he:=qj hk33
    subst he
    simp only [qw,B0,reduceIte,reduceEqDiff]
    exact rfl
   rw [iteF hc30] at hF29
   simp only [za,qe,f23,qh,qs,qb,yv,qa,kj,f24,qo,B0,reduceIte,reduceEqDiff]
   have e34:=qj hF29
   exact hN14 _ _ _ e34.symm ⟨f22,rfl,rfl,hS21⟩
  rw [iteF hc26] at hF11
  simp only [wh,yu,w7,B0,reduceIte,reduceEqDiff]
  have e35:=qj hF11
  exact hK15 _ _ _ e35.symm ⟨f22,f23,f24,hS21⟩
 rintro ⟨s37,s38⟩ fr39 h40 rfl ⟨f42,f43,f44,hS41⟩
 dsimp only [jnO] at hk10
 dsimp only at *
 unfold qfm at hk10
 simp only [qf,qe,f43,qh,qa,qx,B0,reduceIte,reduceEqDiff]
 have he:=qj hk10
 subst he
 simp only [qw,B0,reduceIte,reduceEqDiff]
 exact rfl
theorem qgy {W:Nat→Bool}{h:Heap} (hW:∀ b,
  (geL h.length) b→W b=true) (k:Nat) (a_0:List Partition) (k_1:Int) (r:Int) (hF:ws k a_0 k_1=some r) : Ret E W 67 [lst qd a_0,
  .int .i64 k_1] h (fun v h'=>cut h.length h' E.sz false 9 v=some (.int .i64 r)):=by
 refine Ret.of (fn:=x67) rfl (Run.of ?_)
 unfold ws at hF
 have zf0:zd [lst qd a_0,.int .i64 k_1] 0=lst qd a_0:=rfl
 have zf1:zd [lst qd a_0,.int .i64 k_1] 1 = .int .i64 k_1:=rfl
 generalize zd [lst qd a_0,.int .i64 k_1]=fr0 at zf0 zf1 ⊢
 have hS:Sep h (geL h.length) []:=Sep.nil h
 simp only [x67,qf,qe,qh,qa,qqs,B0,reduceIte,reduceEqDiff]
 obtain ⟨oc7,hX9,hk10⟩:=jl hF
 simp only [qq8]
 refine uj (σ:=Int × Int) (fun s70=>yo k a_0 s70.1 s70.2)
   (fun s fr' h'=>fr' 0=lst qd a_0∧fr' 1 = .int .i64 s.1∧fr' 5 = .int .i64 s.2∧Sep h' (geL h.length) ([])) hX9 ⟨zf0,zf1,rfl,
   hS⟩ (fun _ _ _ h=>h) ?_ ?_
 ·rintro ⟨s3,s4⟩ fr19 h20 ⟨f22,f23,f24,hS21⟩ oc8 hF11 hr12 Q13 hN14 hK15 hR16 hE17
  dsimp only at *
  unfold yo at hF11
  simp only [qtc,qf,qe,f24,qh,f22,zq,qb,zw,qs,k8,qa,qy,B0,reduceIte,reduceEqDiff]
  refine qu (t:=(decide (s4<(List.length a_0:Int)))) (fun hc26=>?_) (fun hc26=>?_)
  ·rw [iteT hc26] at hF11
   obtain ⟨x27,hx28,hF29⟩:=qm hF11
   simp only [za,qp0,qf,ka,qx5,qe,f22,qh,f24,z1,B0,reduceIte,reduceEqDiff]
   refine qi (v := .ref (qd x27) 0) (kc hx28 rfl) ?_
   simp only [qn,qb,Nat.reduceAdd,Nat.zero_add,Nat.add_zero,qq,ql,B0,reduceIte,reduceEqDiff]
   refine qi (v:=lst cI x27.Homes) rfl ?_
   obtain ⟨v30,hx31,hF32⟩:=qm hF29
   simp only [f23,qh,zg,B0,reduceIte,reduceEqDiff]
   refine z5 rfl (qk zh (qk qp ze)) (qfz (fun b hb=>decide_eq_true hb) k x27.Homes s3 v30 hx31) ?_
   simp only [qh,qa,q3b,qf,qe,qs,qb,k8,qy,B0,reduceIte,reduceEqDiff]
   refine qu (t:=(decide (v30<0))) (fun hc33=>?_) (fun hc33=>?_)
   ·rw [iteT hc33] at hF32
    simp only [qf,qe,qh,qa,qx,B0,reduceIte,reduceEqDiff]
    have e34:=qj hF32
    subst e34
    have ho35:=hr12 _ rfl
    have hk36:=hk10
    rw [ho35] at hk36
    dsimp only [jnO] at hk36
    apply hR16
    have he:=qj hk36
    subst he
    simp only [qw,B0,reduceIte,reduceEqDiff]
    exact rfl
   rw [iteF hc33] at hF32
   obtain ⟨x37,hx38,hF39⟩:=qm hF32
   simp only [za,qwe,qf,qe,f22,qh,f24,z1,B0,reduceIte,reduceEqDiff]
   refine qi (v := .ref (qd x37) 0) (kc hx38 rfl) ?_
   simp only [qn,qb,Nat.reduceAdd,Nat.zero_add,Nat.add_zero,qq,ql,B0,reduceIte,reduceEqDiff]
   refine qi (v:=lst cI x37.InStep) rfl ?_
   obtain ⟨v40,hx41,hF42⟩:=qm hF39
   simp only [qh,zg,B0,reduceIte,reduceEqDiff]
   refine z5 rfl (qk zh (qk qp ze)) (qfz (fun b hb=>decide_eq_true hb) k x37.InStep v30 v40 hx41) ?_
   simp only [qh,qa,qyk,qf,qe,qs,qb,k8,qy,B0,reduceIte,reduceEqDiff]
   refine qu (t:=(decide (v40<0))) (fun hc43=>?_) (fun hc43=>?_)
   ·rw [iteT hc43] at hF42
    simp only [qf,qe,qh,qa,qx,B0,reduceIte,reduceEqDiff]
    have e44:=qj hF42
    subst e44
    have ho45:=hr12 _ rfl
    have hk46:=hk10
    rw [ho45] at hk46
    dsimp only [jnO] at hk46
    apply hR16
    have he:=qj hk46
    subst he
    simp only [qw,B0,reduceIte,reduceEqDiff]
    exact rfl
   rw [iteF hc43] at hF42
   obtain ⟨x47,hx48,hF49⟩:=qm hF42
   simp only [za,qvn,qf,qe,f22,qh,f24,z1,B0,reduceIte,reduceEqDiff]
   refine qi (v := .ref (qd x47) 0) (kc hx48 rfl) ?_
   simp only [qn,qb,Nat.reduceAdd,Nat.zero_add,Nat.add_zero,qq,ql,B0,reduceIte,reduceEqDiff]
   refine qi (v := .int .i64 x47.Leader) rfl ?_
   simp only [qh,qs,qb,kh,qa,qy,B0,reduceIte,reduceEqDiff]
   refine qu (t:=(decide (x47.Leader≠v40))) (fun hc50=>?_) (fun hc50=>?_)
   ·rw [iteT hc50] at hF49
    simp only [qf,qe,qh,qa,qx,B0,reduceIte,reduceEqDiff]
    have e51:=qj hF49
    subst e51
    have ho52:=hr12 _ rfl
    have hk53:=hk10
    rw [ho52] at hk53
    dsimp only [jnO] at hk53
    apply hR16
    have he:=qj hk53
    subst he
    simp only [qw,B0,reduceIte,reduceEqDiff]
    exact rfl
   rw [iteF hc50] at hF49
   obtain ⟨x54,hx55,hF56⟩:=qm hF49
   simp only [za,qwd,qf,qe,qh,qs,qb,yv,qa,qw1,f22,f24,z1,B0,reduceIte,reduceEqDiff]
   refine qi (v := .ref (qd x54) 0) (kc hx55 rfl) ?_
   simp only [qn,qb,Nat.reduceAdd,Nat.zero_add,Nat.add_zero,qq,ql,B0,reduceIte,reduceEqDiff]
   refine qi (v := .int .i64 x54.Epoch) rfl ?_
   simp only [qh,qs,qb,kh,qa,qy,B0,reduceIte,reduceEqDiff]
   refine qu (t:=(decide (x54.Epoch≠(IntKind.wrap .i64 (v40+1))))) (fun hc57=>?_) (fun hc57=>?_)
   ·rw [iteT hc57] at hF56
    simp only [qf,qe,qh,qa,qx,B0,reduceIte,reduceEqDiff]
    have e58:=qj hF56
    subst e58
    have ho59:=hr12 _ rfl
    have hk60:=hk10
    rw [ho59] at hk60
    dsimp only [jnO] at hk60
    apply hR16
    have he:=qj hk60
    subst he
    simp only [qw,B0,reduceIte,reduceEqDiff]
    exact rfl
   rw [iteF hc57] at hF56
   obtain ⟨x61,hx62,hF63⟩:=qm hF56
   simp only [za,q4e,qf,qe,qh,qs,qb,yv,qa,qx1,f22,f24,z1,B0,reduceIte,reduceEqDiff]
   refine qi (v := .ref (qd x61) 0) (kc hx62 rfl) ?_
   simp only [qn,qb,Nat.reduceAdd,Nat.zero_add,Nat.add_zero,qq,ql,B0,reduceIte,reduceEqDiff]
   refine qi (v := .int .i64 x61.Stamp) rfl ?_
   simp only [qh,qs,qb,kh,qa,qy,B0,reduceIte,reduceEqDiff]
   refine qu (t:=(decide (x61.Stamp≠(IntKind.wrap .i64 ((IntKind.wrap .i64 (v40+1))+1))))) (fun hc64=>?_) (fun hc64=>?_)
   ·rw [iteT hc64] at hF63
    simp only [qf,qe,qh,qa,qx,B0,reduceIte,reduceEqDiff]
    have e65:=qj hF63
    subst e65
    have ho66:=hr12 _ rfl
    have hk67:=hk10
    rw [ho66] at hk67
    dsimp only [jnO] at hk67
    apply hR16
    have he:=qj hk67
    subst he
    simp only [qw,B0,reduceIte,reduceEqDiff]
    exact rfl
   rw [iteF hc64] at hF63
   simp only [za,qe,qh,qs,qb,yv,qa,kj,f24,qo,B0,reduceIte,reduceEqDiff]
   have e68:=qj hF63
   exact hN14 _ _ _ e68.symm ⟨f22,rfl,rfl,hS21⟩
  rw [iteF hc26] at hF11
  simp only [wh,yu,w7,B0,reduceIte,reduceEqDiff]
  have e69:=qj hF11
  exact hK15 _ _ _ e69.symm ⟨f22,f23,f24,hS21⟩
 rintro ⟨s71,s72⟩ fr73 h74 rfl ⟨f76,f77,f78,hS75⟩
 dsimp only [jnO] at hk10
 dsimp only at *
 unfold qcy at hk10
 simp only [qf,qe,f77,qh,qa,qx,B0,reduceIte,reduceEqDiff]
 have he:=qj hk10
 subst he
 simp only [qw,B0,reduceIte,reduceEqDiff]
 exact rfl
theorem qev {W:Nat→Bool}{h:Heap} (hW:∀ b,
  (geL h.length) b→W b=true) (k:Nat) (a_0:Control) (k_1:Int) (r:Int) (hF:w6 k a_0 k_1=some r) : Ret E W 37 [.agg [lst qg a_0.Brokers,
  lst qd a_0.Parts,.int .i64 a_0.Next],.int .i64 k_1] h (fun v h'=>cut h.length h' E.sz false 9 v=some (.int .i64 r)):=by
 refine Ret.of (fn:=x37) rfl (Run.of ?_)
 unfold w6 at hF
 have zf0:zd [.agg [lst qg a_0.Brokers,lst qd a_0.Parts,.int .i64 a_0.Next],.int .i64 k_1] 0 = .agg [lst qg a_0.Brokers,
   lst qd a_0.Parts,.int .i64 a_0.Next]:=rfl
 have zf1:zd [.agg [lst qg a_0.Brokers,lst qd a_0.Parts,.int .i64 a_0.Next],.int .i64 k_1] 1 = .int .i64 k_1:=rfl
 generalize zd [.agg [lst qg a_0.Brokers,lst qd a_0.Parts,.int .i64 a_0.Next],.int .i64 k_1]=fr0 at zf0 zf1 ⊢
 have hS:Sep h (geL h.length) []:=Sep.nil h
 simp only [x37,qf,qe,ja,zf0,B0,reduceIte,reduceEqDiff]
 refine z0 (cs:=[lst qg a_0.Brokers,lst qd a_0.Parts,.int .i64 a_0.Next]) hS rfl rfl rfl (fun b1 h2 hS3=>?_)
 simp only [qh,qa,B0,reduceIte,reduceEqDiff]
 refine zn hS3 hW (by simp only [B0,reduceIte,reduceEqDiff]) (fun h5 hS6=>?_)
 simp only [zo,qy8,qf,qe,qn,qb,Nat.reduceAdd,Nat.zero_add,Nat.add_zero,qq,ql,B0,reduceIte,reduceEqDiff]
 refine qi (v:=lst qg a_0.Brokers) rfl ?_
 obtain ⟨v7,hx8,hF9⟩:=qm hF
 simp only [zf1,qh,zg,B0,reduceIte,reduceEqDiff]
 refine z5 rfl (qk zh (qk qp ze)) (qh2 (fun b hb=>decide_eq_true hb) k a_0.Brokers k_1 v7 hx8) ?_
 simp only [qh,qa,q3e,qf,qe,qs,qb,k8,qy,B0,reduceIte,reduceEqDiff]
 refine qu (t:=(decide (v7<0))) (fun hc10=>?_) (fun hc10=>?_)
 ·rw [iteT hc10] at hF9
  simp only [qf,qe,qh,qa,qx,B0,reduceIte,reduceEqDiff]
  have he:=qj hF9
  subst he
  simp only [qw,B0,reduceIte,reduceEqDiff]
  exact rfl
 rw [iteF hc10] at hF9
 simp only [za,qv5,qf,qe,qn,qb,Nat.reduceAdd,Nat.zero_add,Nat.add_zero,qq,ql,B0,reduceIte,reduceEqDiff]
 refine qi (v:=lst qd a_0.Parts) rfl ?_
 obtain ⟨v11,hx12,hF13⟩:=qm hF9
 simp only [qh,zg,B0,reduceIte,reduceEqDiff]
 refine z5 rfl (qk zh (qk qp ze)) (qgy (fun b hb=>decide_eq_true hb) k a_0.Parts v7 v11 hx12) ?_
 simp only [qh,qa,qxu,qf,qe,qs,qb,k8,qy,B0,reduceIte,reduceEqDiff]
 refine qu (t:=(decide (v11<0))) (fun hc14=>?_) (fun hc14=>?_)
 ·rw [iteT hc14] at hF13
  simp only [qf,qe,qh,qa,qx,B0,reduceIte,reduceEqDiff]
  have he:=qj hF13
  subst he
  simp only [qw,B0,reduceIte,reduceEqDiff]
  exact rfl
 rw [iteF hc14] at hF13
 simp only [za,qf,qe,qh,qa,qx,B0,reduceIte,reduceEqDiff]
 have he:=qj hF13
 subst he
 simp only [qw,B0,reduceIte,reduceEqDiff]
 exact rfl
theorem qjp {W:Nat→Bool}{h:Heap} (hW:∀ b,
  (geL h.length) b→W b=true) (a_0:List Broker) (left_1:Int) (r:Int) (hF:qbf a_0 left_1=some r) : Ret E W 68 [lst qg a_0,
  .int .i64 left_1] h (fun v h'=>cut h.length h' E.sz false 9 v=some (.int .i64 r)):=by
 refine Ret.of (fn:=x68) rfl (Run.of ?_)
 unfold qbf at hF
 have zf0:zd [lst qg a_0,.int .i64 left_1] 0=lst qg a_0:=rfl
 have zf1:zd [lst qg a_0,.int .i64 left_1] 1 = .int .i64 left_1:=rfl
 generalize zd [lst qg a_0,.int .i64 left_1]=fr0 at zf0 zf1 ⊢
 have hS:Sep h (geL h.length) []:=Sep.nil h
 simp only [x68,qf,qe,qh,qa,q08,zf1,zf0,zq,qb,zw,qs,qgc,q2e,k8,qy,B0,reduceIte,reduceEqDiff]
 refine qu (t:=(decide ((IntKind.wrap .i64 (left_1 - (List.length a_0:Int)))<0))) (fun hc1=>?_) (fun hc1=>?_)
 ·rw [iteT hc1] at hF
  simp only [qf,qe,qh,qa,qx,B0,reduceIte,reduceEqDiff]
  have he:=qj hF
  subst he
  simp only [qw,B0,reduceIte,reduceEqDiff]
  exact rfl
 rw [iteF hc1] at hF
 simp only [za,qf,qe,qh,qa,qx,B0,reduceIte,reduceEqDiff]
 have he:=qj hF
 subst he
 simp only [qw,B0,reduceIte,reduceEqDiff]
 exact rfl
theorem qe5 {W:Nat→Bool}{h:Heap} (hW:∀ b,
  (geL h.length) b→W b=true) (a_0:List Int) (left_1:Int) (r:Int) (hF:qat a_0 left_1=some r) : Ret E W 70 [lst cI a_0,
  .int .i64 left_1] h (fun v h'=>cut h.length h' E.sz false 9 v=some (.int .i64 r)):=by
 refine Ret.of (fn:=x70) rfl (Run.of ?_)
 unfold qat at hF
 have zf0:zd [lst cI a_0,.int .i64 left_1] 0=lst cI a_0:=rfl
 have zf1:zd [lst cI a_0,.int .i64 left_1] 1 = .int .i64 left_1:=rfl
 generalize zd [lst cI a_0,.int .i64 left_1]=fr0 at zf0 zf1 ⊢
 have hS:Sep h (geL h.length) []:=Sep.nil h
 simp only [x70,qf,qe,qh,qa,q1s,zf1,zf0,zq,qb,zw,qs,qgc,q0x,k8,qy,B0,reduceIte,reduceEqDiff]
 refine qu (t:=(decide ((IntKind.wrap .i64 (left_1 - (List.length a_0:Int)))<0))) (fun hc1=>?_) (fun hc1=>?_)
 ·rw [iteT hc1] at hF
  simp only [qf,qe,qh,qa,qx,B0,reduceIte,reduceEqDiff]
  have he:=qj hF
  subst he
  simp only [qw,B0,reduceIte,reduceEqDiff]
  exact rfl
 rw [iteF hc1] at hF
 simp only [za,qf,qe,qh,qa,qx,B0,reduceIte,reduceEqDiff]
 have he:=qj hF
 subst he
 simp only [qw,B0,reduceIte,reduceEqDiff]
 exact rfl
theorem qhx {W:Nat→Bool}{h:Heap} (hW:∀ b,
  (geL h.length) b→W b=true) (a_0:Partition) (left_1:Int) (r:Int) (hF:um a_0 left_1=some r) : Ret E W 90 [.agg [lst cI a_0.Homes,lst cI a_0.InStep,
  .int .i64 a_0.Leader,.int .i64 a_0.Epoch,.int .i64 a_0.Stamp],.int .i64 left_1] h (fun v h'=>cut h.length h' E.sz false 9 v=some (.int .i64 r)):=by
 refine Ret.of (fn:=x90) rfl (Run.of ?_)
 unfold um at hF
 have zf0:zd [.agg [lst cI a_0.Homes,lst cI a_0.InStep,.int .i64 a_0.Leader,.int .i64 a_0.Epoch,.int .i64 a_0.Stamp],.int .i64 left_1] 0 = .agg [lst cI a_0.Homes,
   lst cI a_0.InStep,.int .i64 a_0.Leader,.int .i64 a_0.Epoch,.int .i64 a_0.Stamp]:=rfl
 have zf1:zd [.agg [lst cI a_0.Homes,lst cI a_0.InStep,.int .i64 a_0.Leader,.int .i64 a_0.Epoch,.int .i64 a_0.Stamp],.int .i64 left_1] 1 = .int .i64 left_1:=rfl
 generalize zd [.agg [lst cI a_0.Homes,lst cI a_0.InStep,.int .i64 a_0.Leader,.int .i64 a_0.Epoch,.int .i64 a_0.Stamp],.int .i64 left_1]=fr0 at zf0 zf1 ⊢
 have hS:Sep h (geL h.length) []:=Sep.nil h
 simp only [x90,qf,qe,ja,zf0,B0,reduceIte,reduceEqDiff]
 refine z0 (cs:=[lst cI a_0.Homes,lst cI a_0.InStep,.int .i64 a_0.Leader,.int .i64 a_0.Epoch,.int .i64 a_0.Stamp]) hS rfl rfl rfl (fun b1 h2 hS3=>?_)
 simp only [qh,qa,B0,reduceIte,reduceEqDiff]
 refine zn hS3 hW (by simp only [B0,reduceIte,reduceEqDiff]) (fun h5 hS6=>?_)
 simp only [zo,q0q,qf,qe,qn,qb,Nat.reduceAdd,Nat.zero_add,Nat.add_zero,qq,ql,B0,reduceIte,reduceEqDiff]
 refine qi (v:=lst cI a_0.Homes) rfl ?_
 obtain ⟨v7,hx8,hF9⟩:=qm hF
 simp only [zf1,qh,zg,B0,reduceIte,reduceEqDiff]
 refine z5 rfl (qk zh (qk qp ze)) (qe5 (fun b hb=>decide_eq_true hb) a_0.Homes left_1 v7 hx8) ?_
 simp only [qh,qa,qvo,qf,qe,qs,qb,k8,qy,B0,reduceIte,reduceEqDiff]
 refine qu (t:=(decide (v7<0))) (fun hc10=>?_) (fun hc10=>?_)
 ·rw [iteT hc10] at hF9
  simp only [qf,qe,qh,qa,qx,B0,reduceIte,reduceEqDiff]
  have he:=qj hF9
  subst he
  simp only [qw,B0,reduceIte,reduceEqDiff]
  exact rfl
 rw [iteF hc10] at hF9
 simp only [za,q2g,qf,qe,qn,qb,Nat.reduceAdd,Nat.zero_add,Nat.add_zero,qq,ql,B0,reduceIte,reduceEqDiff]
 refine qi (v:=lst cI a_0.InStep) rfl ?_
 obtain ⟨v11,hx12,hF13⟩:=qm hF9
 simp only [qh,zg,B0,reduceIte,reduceEqDiff]
 refine z5 rfl (qk zh (qk qp ze)) (qe5 (fun b hb=>decide_eq_true hb) a_0.InStep v7 v11 hx12) ?_
 simp only [qh,qa,qx7,qf,qe,qs,qb,k8,qy,B0,reduceIte,reduceEqDiff]
 refine qu (t:=(decide (v11<0))) (fun hc14=>?_) (fun hc14=>?_)
 ·rw [iteT hc14] at hF13
  simp only [qf,qe,qh,qa,qx,B0,reduceIte,reduceEqDiff]
  have he:=qj hF13
  subst he
  simp only [qw,B0,reduceIte,reduceEqDiff]
  exact rfl
 rw [iteF hc14] at hF13
 simp only [za,qf,qe,qh,qa,qx,B0,reduceIte,reduceEqDiff]
 have he:=qj hF13
 subst he
 simp only [qw,B0,reduceIte,reduceEqDiff]
 exact rfl
theorem qhs {W:Nat→Bool}{h:Heap} (hW:∀ b,
  (geL h.length) b→W b=true) (k:Nat) (a_0:List Partition) (left_1:Int) (r:Int) (hF:xy k a_0 left_1=some r) : Ret E W 69 [lst qd a_0,
  .int .i64 left_1] h (fun v h'=>cut h.length h' E.sz false 9 v=some (.int .i64 r)):=by
 refine Ret.of (fn:=x69) rfl (Run.of ?_)
 unfold xy at hF
 have zf0:zd [lst qd a_0,.int .i64 left_1] 0=lst qd a_0:=rfl
 have zf1:zd [lst qd a_0,.int .i64 left_1] 1 = .int .i64 left_1:=rfl
 generalize zd [lst qd a_0,.int .i64 left_1]=fr0 at zf0 zf1 ⊢
 have hS:Sep h (geL h.length) []:=Sep.nil h
 simp only [x69,qf,qe,qh,qa,qxx,zf1,zf0,zq,qb,zw,qs,qgc,q3u,k8,qy,B0,reduceIte,reduceEqDiff]
 refine qu (t:=(decide ((IntKind.wrap .i64 (left_1 - (List.length a_0:Int)))<0))) (fun hc1=>?_) (fun hc1=>?_)
 ·rw [iteT hc1] at hF
  simp only [qf,qe,qh,qa,qx,B0,reduceIte,reduceEqDiff]
  have he:=qj hF
  subst he
  simp only [qw,B0,reduceIte,reduceEqDiff]
  exact rfl
 rw [iteF hc1] at hF
 simp only [za,q12,qf,qe,qh,qa,B0,reduceIte,reduceEqDiff]
 obtain ⟨oc8,hX10,hk11⟩:=jl hF
 simp only [qzw]
 refine uj (σ:=Int × Int) (fun s40=>wd a_0 s40.1 s40.2)
   (fun s fr' h'=>fr' 0=lst qd a_0∧fr' 1 = .int .i64 s.1∧fr' 5 = .int .i64 s.2∧Sep h' (geL h.length) ([])) hX10 ⟨zf0,rfl,rfl,
   hS⟩ (fun _ _ _ h=>h) ?_ ?_
 ·rintro ⟨s4,s5⟩ fr20 h21 ⟨f23,f24,f25,hS22⟩ oc9 hF12 hr13 Q14 hN15 hK16 hR17 hE18
  dsimp only at *
  unfold wd at hF12
  simp only [qv1,qf,qe,f25,qh,f23,zq,qb,zw,qs,k8,qa,qy,B0,reduceIte,reduceEqDiff]
  refine qu (t:=(decide (s5<(List.length a_0:Int)))) (fun hc27=>?_) (fun hc27=>?_)
  ·rw [iteT hc27] at hF12
   obtain ⟨x28,hx29,hF30⟩:=qm hF12
   simp only [za,qx0,qf,ka,q0u,qe,f23,qh,f25,z1,B0,reduceIte,reduceEqDiff]
   refine qi (v := .ref (qd x28) 0) (kc hx29 rfl) ?_
   simp only [ql,B0,reduceIte,reduceEqDiff]
   refine qi (v := .agg [lst cI x28.Homes,lst cI x28.InStep,.int .i64 x28.Leader,.int .i64 x28.Epoch,.int .i64 x28.Stamp]) rfl ?_
   obtain ⟨v31,hx32,hF33⟩:=qm hF30
   simp only [f24,qh,zg,B0,reduceIte,reduceEqDiff]
   refine z5 rfl (qk (zv (qk zh (qk zh (qk qp (qk qp (qk qp ze)))))) (qk qp ze)) (qhx
     (fun b hb=>decide_eq_true hb) x28 s4 v31 hx32) ?_
   simp only [qh,qa,qyl,qf,qe,qs,qb,k8,qy,B0,reduceIte,reduceEqDiff]
   refine qu (t:=(decide (v31<0))) (fun hc34=>?_) (fun hc34=>?_)
   ·rw [iteT hc34] at hF33
    simp only [qf,qe,qh,qa,qx,B0,reduceIte,reduceEqDiff]
    have e35:=qj hF33
    subst e35
    have ho36:=hr13 _ rfl
    have hk37:=hk11
    rw [ho36] at hk37
    dsimp only [jnO] at hk37
    apply hR17
    have he:=qj hk37
    subst he
    simp only [qw,B0,reduceIte,reduceEqDiff]
    exact rfl
   rw [iteF hc34] at hF33
   simp only [za,kj,qe,f25,qh,qs,qb,yv,qa,qo,B0,reduceIte,reduceEqDiff]
   have e38:=qj hF33
   exact hN15 _ _ _ e38.symm ⟨f23,rfl,rfl,hS22⟩
  rw [iteF hc27] at hF12
  simp only [wh,yu,w7,B0,reduceIte,reduceEqDiff]
  have e39:=qj hF12
  exact hK16 _ _ _ e39.symm ⟨f23,f24,f25,hS22⟩
 rintro ⟨s41,s42⟩ fr43 h44 rfl ⟨f46,f47,f48,hS45⟩
 dsimp only [jnO] at hk11
 dsimp only at *
 unfold qdz at hk11
 simp only [qf,qe,f47,qh,qa,qx,B0,reduceIte,reduceEqDiff]
 have he:=qj hk11
 subst he
 simp only [qw,B0,reduceIte,reduceEqDiff]
 exact rfl
end Go.Proofs.Ytjloihcijdcpeaa.X
