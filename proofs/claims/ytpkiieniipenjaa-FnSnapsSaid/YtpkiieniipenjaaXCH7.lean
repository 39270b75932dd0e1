/- The functions' code comes to what the plain functions say (7). -/
import Derived.Test.YtpkiieniipenjaaXCH6
set_option linter.unusedVariables false
set_option linter.unusedSimpArgs false
set_option maxRecDepth 100000
namespace Go.Proofs.Ytpkiieniipenjaa.X
open Go
open Nat (reduceEqDiff)
theorem qjl {W:Nat→Bool}{h:Heap} (hW:∀ b,
  (geL h.length) b→W b=true) (k:Nat) (s_0:Snap) (r:Snap × Int × Bool) (hF:xd k s_0=some r) : Ret E W 30 [.agg [lst cI s_0.Amounts,
  lst Chan.cells s_0.Chans,lst Picture.cells s_0.Pictures,.int .i64 s_0.Sent,.int .i64 s_0.Total]] h (fun v h'=>∃ rv0_0 rc0_0 rv0_1 rc0_1 rv0_2 rc0_2,
  v = .tup [.agg [rv0_0,rv0_1,rv0_2,.int .i64 r.1.Sent,.int .i64 r.1.Total],.int .i64 r.2.1,
  .bool r.2.2]∧SlF cI 1 3 rv0_0 r.1.Amounts rc0_0∧SlN Chan.R 3 74 rv0_1 r.1.Chans rc0_1∧SlN Picture.R 4 76 rv0_2 r.1.Pictures rc0_2∧Sep h' (geL h.length) (rc0_0 ++
  (rc0_1++(rc0_2++([]))))):=by
 refine Ret.of (fn:=x30) rfl (Run.of ?_)
 unfold xd at hF
 have zf0:zh [.agg [lst cI s_0.Amounts,lst Chan.cells s_0.Chans,lst Picture.cells s_0.Pictures,.int .i64 s_0.Sent,.int .i64 s_0.Total]] 0 = .agg [lst cI s_0.Amounts,
   lst Chan.cells s_0.Chans,lst Picture.cells s_0.Pictures,.int .i64 s_0.Sent,.int .i64 s_0.Total]:=rfl
 generalize zh [.agg [lst cI s_0.Amounts,lst Chan.cells s_0.Chans,lst Picture.cells s_0.Pictures,.int .i64 s_0.Sent,.int .i64 s_0.Total]]=fr0 at zf0 ⊢
 have hS:Sep h (geL h.length) []:=Sep.nil h
 simp only [x30,qd,qc,kh,zf0,B0,reduceIte,reduceEqDiff]
 refine jt (cs:=[lst cI s_0.Amounts,lst Chan.cells s_0.Chans,lst Picture.cells s_0.Pictures,.int .i64 s_0.Sent,
   .int .i64 s_0.Total]) hS rfl rfl rfl (fun b1 h2 hS3=>?_)
 simp only [jb,B0,reduceIte,reduceEqDiff]
 refine zv hS3 (fun b5 h6 hS7=>?_)
 simp only [qe,qa,B0,reduceIte,reduceEqDiff]
 refine zw (Sep.m1 hS7) hW (by simp only [B0,reduceIte,reduceEqDiff]) (fun h9 hS10=>?_)
 simp only [zo,qu2,qd,qc,qp,B0,reduceIte,reduceEqDiff]
 refine qh (v := .agg [lst cI s_0.Amounts,lst Chan.cells s_0.Chans,lst Picture.cells s_0.Pictures,.int .i64 s_0.Sent,.int .i64 s_0.Total]) rfl ?_
 obtain ⟨v11,hx12,hF13⟩:=qg hF
 simp only [zd,B0,reduceIte,reduceEqDiff]
 refine j5 rfl (qj (ji (qj zm (qj zm (qj zm (qj qq (qj qq q9)))))) q9) (qay
   (fun b hb=>decide_eq_true hb) k s_0 v11 hx12) ?_
 simp only [jz,qb,kf,qa,q1a,zc,B0,reduceIte,reduceEqDiff]
 refine zb (t:=(!v11)) (fun hc14=>?_) (fun hc14=>?_)
 ·rw [iteT hc14] at hF13
  simp only [q2a,qd,qc,run_build,evp,B0,reduceIte,reduceEqDiff]
  refine qh (v := .agg [.nil,.nil,.nil,.int .i64 0,.int .i64 0]) rfl ?_
  simp only [zj,B0,reduceIte,reduceEqDiff]
  refine qx (us:=[.nil,.nil,.nil,.int .i64 0,.int .i64 0]) rfl (cs':=[.nil,.nil,.nil,.int .i64 0,
    .int .i64 0]) hS10 hW rfl rfl (Nat.le_of_ble_eq_true rfl) rfl (fun h15 hS16=>?_)
  simp only [qe,qa,qz,B0,reduceIte,reduceEqDiff]
  have he:=qk hF13
  subst he
  refine jr (qj (jv (bb:=b5) (oo:=0) (v := .agg [.nil,.nil,.nil,.int .i64 0,
    .int .i64 0]) (rfl) ((z0 (Sep.bk _ _ _ hS16)).trans rfl)) (qj (kz (v := .int .i64 0) (rfl)) (qj (kz (v := .bool false) (rfl)) q9))) ?_
  exact ⟨.nil,[],.nil,[],.nil,[],by first | trivial | rfl,SlF.nil,SlN.nil,SlN.nil,((Sep.dc (hS16)) : Sep _ (geL h.length) ([]))⟩
 rw [iteF hc14] at hF13
 simp only [zg,qv0,qd,qc,qp,B0,reduceIte,reduceEqDiff]
 refine qh (v := .agg [lst cI s_0.Amounts,lst Chan.cells s_0.Chans,lst Picture.cells s_0.Pictures,.int .i64 s_0.Sent,.int .i64 s_0.Total]) rfl ?_
 obtain ⟨v17,hx18,hF19⟩:=qg hF13
 simp only [zd,B0,reduceIte,reduceEqDiff]
 refine ut rfl hS10 (qj (ji (qj zm (qj zm (qj zm (qj qq (qj qq q9)))))) q9) (qbv
   (fun b hb=>decide_eq_true hb) s_0 v17 hx18) ?_
 rintro _ h32 ⟨v20,c21,v24,c25,v28,c29,rfl,hv22,hv26,hv30,hS33⟩
 refine ⟨_,qci (qi (SlF.free1 hv22) (qi (SlN.free1 hv26) (qi (SlN.free1 hv30) (qi rfl (qi rfl zk))))),hS33,
   (jc (SlF.pf hv22 (fun _=>rfl)) (jc (SlN.pf hv26 Chan.RO) (jc (SlN.pf hv30 Picture.RO) wt))),fun h34 hS35=>?_⟩
 have hS36:Sep h34 (geL h.length) (c21++(c25++(c29++([Blk1 b5 [.nil,.nil,.nil,.int .i64 0,.int .i64 0] 30]++([]))))):=by simpa only [List.append_assoc,
   List.nil_append] using hS35
 simp only [jb,B0,reduceIte,reduceEqDiff]
 refine zv hS36 (fun b37 h38 hS39=>?_)
 simp only [zj,B0,reduceIte,reduceEqDiff]
 refine qx (us:=[v20,v24,v28,.int .i64 v17.Sent,.int .i64 v17.Total]) rfl (cs':=[v20,v24,v28,.int .i64 v17.Sent,
   .int .i64 v17.Total]) hS39 hW rfl (qi (SlF.one hv22) (qi (SlN.one hv26) (qi (SlN.one hv30) (qi rfl (qi rfl zk))))) (Nat.le_of_ble_eq_true rfl) rfl
   (fun h41 hS42=>?_)
 simp only [qa,qsx,qd,qc,qe,qsy,qt,qb,Nat.reduceAdd,Nat.zero_add,Nat.add_zero,qu,qp,B0,reduceIte,reduceEqDiff]
 refine qh (v:=v28) ((jj (Sep.bk _ _ _ hS42)).trans rfl) ?_
 simp only [z6,qb,SlN.len hv30,qe,qa,B0,reduceIte,reduceEqDiff]
 obtain ⟨oc53,hX55,hk56⟩:=jp hF19
 simp only [q3m]
 refine qce (σ:=Bool × (List Picture)) (fun i51 s120=>uw i51 s120.1 s120.2) (fun s fr' h'=>∃ c49,
   fr' 2 = .ptr b5 0∧fr' 5 = .ptr b37 0∧fr' 6 = .bool s.1∧fr' 19=v28∧SlN Picture.R 4 76 v28 s.2 c49∧Sep h' (geL h.length) ([Blk1 b5 [.nil,.nil,.nil,.int .i64 0,
   .int .i64 0] 30]++([Blk1 b37 [v20,v24,v28,.int .i64 v17.Sent,.int .i64 v17.Total] 30]++(c49++(c21++(c25++([]))))))) hX55 ⟨c29,rfl,rfl,rfl,rfl,hv30,
   (Sep.m4 (Sep.m3 (Sep.m3 (Sep.m2 (Sep.m2 hS42)))))⟩ (by simp only [B0,reduceIte,reduceEqDiff]) (by simp only [B0,reduceIte,
   reduceEqDiff]) (fun _ _ _ h=>h) rfl rfl (fun _ _ _ _ h=>h) (fun _ _ _ _ h=>h) (fun _ _ _ _ h=>h) (by decide) ?_ ?_
 ·rintro i51 ⟨s47,s48⟩ fr65 h66 hx72 ⟨c49,f68,f69,f70,f71,hv50,hS67⟩ f73 f74 oc54 hF57 hr58 Q59 hN60 hB64 hK61 hR62 hE63
  dsimp only at *
  unfold uw at hF57
  obtain ⟨x75,hx76,hF77⟩:=qg hF57
  simp only [qys,qd,qc,f71,f73,jg,B0,reduceIte,reduceEqDiff]
  obtain ⟨b78,hb79⟩:=SlN.isrow hv50 (jq hx76)
  refine qh (SlN.ia hv50 hb79 hx76) ?_
  obtain ⟨c80,cs81,os82,hv83,hR84,hS85⟩:=SlG.opn (SlN.toG hv50 hb79 Picture.RO.len) hx76 z7 Picture.RO.len (Sep.m2 hS67)
  obtain ⟨v87,c88,v91,c92,hv89,hv93,rfl,rfl⟩:=hR84
  have hS86:=Sep.no2 hS85
  simp only [qp,B0,reduceIte,reduceEqDiff]
  refine qh (v := .agg [.bool x75.Taken,.int .i64 x75.Amount,v87,v91]) ((SlG.lds (o:=0) hv83 rfl hx76 hS86 (Nat.le_of_ble_eq_true rfl)).trans rfl) ?_
  simp only [jb,B0,reduceIte,reduceEqDiff]
  refine zv hS86 (fun b95 h96 hS97=>?_)
  simp only [zj,B0,reduceIte,reduceEqDiff]
  refine qx (us:=[.bool x75.Taken,.int .i64 x75.Amount,v87,v91]) rfl (cs':=[.bool x75.Taken,.int .i64 x75.Amount,v87,
    v91]) hS97 hW rfl (qi rfl (qi rfl (qi (SlF.one hv89) (qi (SlF.one hv93) zk)))) (Nat.le_of_ble_eq_true rfl) rfl (fun h99 hS100=>?_)
  simp only [qa,B0,reduceIte,reduceEqDiff]
  refine zw hS100 hW (by simp only [B0,reduceIte,reduceEqDiff]) (fun h101 hS102=>?_)
  simp only [zo,qya,qc,f70,qe,B0,reduceIte,reduceEqDiff]
  refine j0 3 (fun fr' h'=>Sep h' (geL h.length) ([Blk1 b5 [.nil,.nil,.nil,.int .i64 0,.int .i64 0] 30]++([Blk1 b37 [v20,v24,v28,.int .i64 v17.Sent,
    .int .i64 v17.Total] 30]++(c80++(c21++(c25++(c88++(c92++([]))))))))∧fr' 29 = .bool
    (s47||x75.Taken)∧fr' 2 = .ptr b5 0∧fr' 5 = .ptr b37 0∧fr' 19=v28∧fr' 20 = .int .i64 (List.length v17.Pictures:Int)∧fr' 21 = .int .i64 (i51:Int))
    (fun Q103 hN104=>?_) ?_
  ·simp only [List.take_succ_cons,List.take_zero]
   simp only [ql (g:=26),B0,reduceIte,reduceEqDiff]
   refine zn (t:=s47) (fun hg105=>?_) (fun hg105=>?_)
   ·simp only [hg105,ql (g:=26),jm,za,qb,zp,qa,qo,B0,reduceIte,reduceEqDiff]
    exact hN104 _ _ ⟨(Sep.m6 (Sep.m6 (Sep.m4 (Sep.m6 (Sep.m6 (Sep.m2 (Sep.m2 hS102))))))),by rw [orT hg105]; simp only [B0,reduceIte,reduceEqDiff],f68,f69,f71,f74,f73⟩
   ·simp only [hg105,ql (g:=26),qv,qt,qb,Nat.reduceAdd,Nat.zero_add,Nat.add_zero,qr,qp,B0,reduceIte,reduceEqDiff]
    refine qh (v := .bool x75.Taken) rfl ?_
    simp only [hg105,za,qb,zq,qa,qo,B0,reduceIte,reduceEqDiff]
    exact hN104 _ _ ⟨(Sep.m6 (Sep.m6 (Sep.m4 (Sep.m6 (Sep.m6 (Sep.m2 (Sep.m2 hS102))))))),by rw [orF hg105]; simp only [B0,reduceIte,reduceEqDiff],f68,f69,f71,f74,f73⟩
  rintro fr106 h113 ⟨hS114,f107,f108,f109,f110,f111,f112⟩
  simp only [List.drop_succ_cons,List.drop_zero]
  simp only [f107,qe,qa,qo,B0,reduceIte,reduceEqDiff]
  obtain ⟨c115,hv116,hS117⟩:=SlG.cls0 (c:=c80) (os:=c88++(c92)) hv83 rfl hx76 z7 (Picture.RI (x:=x75) hv89 hv93) (Sep.ni2 (c1:=c88) (c2:=c92) (Sep.m4
    (Sep.m6 (Sep.m6 hS114))))
  have hv118:=SlG.toN hv116
  have e119:=qk hF77
  exact hN60 _ _ _ e119.symm ⟨c115,f108,f109,rfl,f110,hv118,(Sep.m4 (Sep.m4 (Sep.m2 (Sep.m4 (Sep.m4 hS117)))))⟩ (f112) (f111)
 rintro ⟨s121,s122⟩ fr125 h126 rfl ⟨c123,f128,f129,f130,f131,hv124,hS127⟩
 dsimp only [jnO] at hk56
 dsimp only at *
 unfold xx at hk56
 simp only [qqu,qd,qc,qe,qa,qtr,f130,jz,qb,kf,q1l,zc,B0,reduceIte,reduceEqDiff]
 obtain ⟨sv146,hX144,hk145⟩:=qg hk56
 refine u5 (t:=(!s121)) (fun fr' h'=>∃ c135 c138 c141,
   fr' 2 = .ptr b5 0∧fr' 5 = .ptr b37 0∧fr' 9 = .bool sv146.1∧SlF cI 1 3 v20 sv146.2.2.1 c135∧SlN Chan.R 3 74 v24 sv146.2.2.2.1 c138∧SlN Picture.R 4 76 v28 sv146.2.2.2.2 c141∧Sep h'
   (geL h.length) ([Blk1 b5 [.nil,.nil,.nil,.int .i64 0,.int .i64 0] 30]++([Blk1 b37 [v20,v24,v28,.int .i64 sv146.2.1.Sent,
   .int .i64 sv146.2.1.Total] 30]++(c135++(c138++(c141++([]))))))) (fun Q147 hN148 hR149 hE150=>⟨fun hc151=>?_,fun hc151=>?_⟩) ?_
 ·rw [iteT hc151] at hX144
  simp only [q4w,qc,f129,qp,B0,reduceIte,reduceEqDiff]
  refine qh (v := .agg [v20,v24,v28,.int .i64 v17.Sent,.int .i64 v17.Total]) ((z0 (Sep.bk _ _ _ (Sep.m1 hS127))).trans rfl) ?_
  obtain ⟨v152,hx153,hF154⟩:=qg hX144
  simp only [zd,B0,reduceIte,reduceEqDiff]
  refine yp rfl (qfy hW (Snap.mk v17.Amounts v17.Chans s122 v17.Sent v17.Total) v20 c21 hv22 v24 c25 hv26 v28 c123 hv124 0 v152 hx153 (Sep.m4 (Sep.m4
    (Sep.m2 hS127)))) ?_
  rintro _ h161 ⟨c155,c157,c159,rfl,hv156,hv158,hv160,hS162⟩
  simp only [qe,wj,qb,w6,w5,f129,zj,B0,reduceIte,reduceEqDiff]
  refine qx (us:=[v20,v24,v28,.int .i64 v152.1.Sent,.int .i64 v152.1.Total]) rfl (cs':=[v20,v24,v28,.int .i64 v152.1.Sent,
    .int .i64 v152.1.Total]) (Sep.m4 hS162) hW rfl (qi (SlF.one hv156) (qi (SlN.one hv158) (qi (SlN.one hv160) (qi rfl (qi rfl zk)))))
    (Nat.le_of_ble_eq_true rfl) rfl (fun h163 hS164=>?_)
  simp only [qe,qa,qo,B0,reduceIte,reduceEqDiff]
  have e165:=qk hF154
  subst e165
  exact hN148 _ _ ⟨c155,c157,c159,f128,f129,rfl,hv156,hv158,hv160,(Sep.m4 (Sep.m3 (Sep.m3 (Sep.m3 (Sep.m3 hS164)))))⟩
 ·rw [iteF hc151] at hX144
  simp only [zg,qo,B0,reduceIte,reduceEqDiff]
  have e166:=qk hX144
  subst e166
  exact hN148 _ _ ⟨c21,c25,c123,f128,f129,rfl,hv22,hv26,hv124,(Sep.m4 (Sep.m4 (Sep.m4 (Sep.m4 (Sep.m2 hS127)))))⟩
 rintro fr167 h168 ⟨c135,c138,c141,f170,f171,f172,hv136,hv139,hv142,hS169⟩
 obtain ⟨s132,s133,s134,s137,s140⟩:=sv146
 dsimp only at *
 unfold ux at hk145
 simp only [qt9,qd,qc,qe,qa,qtc,f171,qp,B0,reduceIte,reduceEqDiff]
 refine qh (v := .agg [v20,v24,v28,.int .i64 s133.Sent,.int .i64 s133.Total]) ((z0 (Sep.bk _ _ _ (Sep.m1 hS169))).trans rfl) ?_
 obtain ⟨v173,hx174,hF175⟩:=qg hk145
 simp only [zd,B0,reduceIte,reduceEqDiff]
 refine j5 rfl (qj (ji (qj (SlF.snap hv136 (Sep.m2 hS169) rfl (fun _=>rfl) (fun _=>rfl)) (qj (SlN.snap hv139 _ (Sep.m3 hS169) rfl Chan.RO) (qj
   (SlN.snap hv142 _ (Sep.m4 hS169) rfl Picture.RO) (qj qq (qj qq q9)))))) q9) (qht (fun b hb=>decide_eq_true hb)
   (Snap.mk s134 s137 s140 s133.Sent s133.Total) v173 hx174) ?_
 simp only [qe,qa,B0,reduceIte,reduceEqDiff]
 obtain ⟨oc204,hX206,hk207⟩:=jp hF175
 simp only [qqd]
 refine qe9 (σ:=Bool × Int × Int × Snap × (List Int) × (List Chan) × (List Picture))
   (fun s256=>yl s256.1 s256.2.1 s256.2.2.1 s256.2.2.2.1 s256.2.2.2.2.1 s256.2.2.2.2.2.1 s256.2.2.2.2.2.2) (fun s fr' h'=>∃ c194 c197 c200,
   fr' 2 = .ptr b5 0∧fr' 5 = .ptr b37 0∧fr' 9 = .bool s.1∧fr' 10 = .int .i64 s.2.1∧fr' 11 = .int .i64 s.2.2.1∧SlF cI 1 3 v20 s.2.2.2.2.1 c194∧SlN Chan.R 3 74 v24 s.2.2.2.2.2.1 c197∧SlN Picture.R 4 76 v28 s.2.2.2.2.2.2 c200∧Sep h'
   (geL h.length) ([Blk1 b5 [.nil,.nil,.nil,.int .i64 0,.int .i64 0] 30]++([Blk1 b37 [v20,v24,v28,.int .i64 s.2.2.2.1.Sent,
   .int .i64 s.2.2.2.1.Total] 30]++(c194++(c197++(c200++([]))))))) hX206 ⟨c135,c138,c141,f170,f171,f172,rfl,rfl,hv136,hv139,hv142,
   (Sep.m4 (Sep.m4 (Sep.m4 (Sep.m4 (Sep.m4 hS169)))))⟩ (fun _ _ _ h=>h) ?_ ?_
 ·rintro ⟨s189,s190,s191,s192,s193,s196,s199⟩ fr216 h217 ⟨c194,c197,c200,f219,f220,f221,f222,f223,hv195,hv198,hv201,
   hS218⟩ oc205 hF208 hr209 Q210 hN211 hK212 hR213 hE214
  dsimp only at *
  unfold yl at hF208
  simp only [qt3,qd,qc,f221,qe,B0,reduceIte,reduceEqDiff]
  refine j0 3 (fun fr' h'=>Sep h' (geL h.length) ([Blk1 b5 [.nil,.nil,.nil,.int .i64 0,.int .i64 0] 30]++([Blk1 b37 [v20,v24,v28,.int .i64 s192.Sent,
    .int .i64 s192.Total] 30]++(c194++(c197++(c200++([]))))))∧fr' 44 = .bool (s189&&(decide
    ((0:Int)≤s191)))∧fr' 2 = .ptr b5 0∧fr' 5 = .ptr b37 0∧fr' 9 = .bool s189∧fr' 10 = .int .i64 s190∧fr' 11 = .int .i64 s191) (fun Q225 hN226=>?_) ?_
  ·simp only [List.take_succ_cons,List.take_zero]
   simp only [ql (g:=41),B0,reduceIte,reduceEqDiff]
   refine zn (t:=s189) (fun hg227=>?_) (fun hg227=>?_)
   ·simp only [hg227,ql (g:=41),z4,f223,qe,zf,qb,qja,za,zp,qa,qo,B0,reduceIte,reduceEqDiff]
    exact hN226 _ _ ⟨(Sep.m4 (Sep.m4 (Sep.m4 (Sep.m4 (Sep.m4 hS218))))),by rw [qb5 hg227]; simp only [B0,reduceIte,reduceEqDiff],f219,f220,by simp only [f221,B0,
      reduceIte,reduceEqDiff,hg227],f222,f223⟩
   ·simp only [hg227,ql (g:=41),kw,za,qb,zq,qa,qo,B0,reduceIte,reduceEqDiff]
    exact hN226 _ _ ⟨(Sep.m4 (Sep.m4 (Sep.m4 (Sep.m4 (Sep.m4 hS218))))),by rw [qb4 hg227]; simp only [B0,reduceIte,reduceEqDiff],f219,f220,by simp only [f221,B0,
      reduceIte,reduceEqDiff,hg227],f222,f223⟩
  rintro fr228 h235 ⟨hS236,f229,f230,f231,f232,f233,f234⟩
  simp only [List.drop_succ_cons,List.drop_zero]
  simp only [qa,f229,zc,B0,reduceIte,reduceEqDiff]
  refine zb (t:=(s189&&(decide ((0:Int)≤s191)))) (fun hc237=>?_) (fun hc237=>?_)
  ·rw [iteT hc237] at hF208
   simp only [zg,qqq,qd,xn,q0k,qc,f231,qp,B0,reduceIte,reduceEqDiff]
   refine qh (v := .agg [v20,v24,v28,.int .i64 s192.Sent,.int .i64 s192.Total]) ((z0 (Sep.bk _ _ _ (Sep.m1 hS236))).trans rfl) ?_
   obtain ⟨v238,hx239,hF240⟩:=qg hF208
   simp only [f234,qe,zd,B0,reduceIte,reduceEqDiff]
   refine yp rfl (qip hW (Snap.mk s193 s196 s199 s192.Sent s192.Total) v20 c194 hv195 v24 c197 hv198 v28 c200 hv201 s191 v238 hx239 (Sep.m4 (Sep.m4
     (Sep.m4 hS236)))) ?_
   rintro _ h247 ⟨c241,c243,c245,rfl,hv242,hv244,hv246,hS248⟩
   simp only [qe,wj,qb,w6,w5,f231,zj,B0,reduceIte,reduceEqDiff]
   refine qx (us:=[v20,v24,v28,.int .i64 v238.1.Sent,.int .i64 v238.1.Total]) rfl (cs':=[v20,v24,v28,.int .i64 v238.1.Sent,
     .int .i64 v238.1.Total]) (Sep.m4 hS248) hW rfl (qi (SlF.one hv242) (qi (SlN.one hv244) (qi (SlN.one hv246) (qi rfl (qi rfl zk)))))
     (Nat.le_of_ble_eq_true rfl) rfl (fun h249 hS250=>?_)
   simp only [qe,qa,qc,f233,zf,qb,yz,uo,f231,qp,B0,reduceIte,reduceEqDiff]
   refine qh (v := .agg [v20,v24,v28,.int .i64 v238.1.Sent,.int .i64 v238.1.Total]) ((z0 (Sep.bk _ _ _ hS250)).trans rfl) ?_
   obtain ⟨v251,hx252,hF253⟩:=qg hF240
   simp only [zd,B0,reduceIte,reduceEqDiff]
   refine j5 rfl (qj (ji (qj (SlF.snap hv242 (Sep.m1 hS250) rfl (fun _=>rfl) (fun _=>rfl)) (qj (SlN.snap hv244 _ (Sep.m2 hS250) rfl Chan.RO) (qj
     (SlN.snap hv246 _ (Sep.m3 hS250) rfl Picture.RO) (qj qq (qj qq q9)))))) q9) (qht (fun b hb=>decide_eq_true hb) v238.1 v251 hx252) ?_
   simp only [qe,qa,qo,B0,reduceIte,reduceEqDiff]
   have e254:=qk hF253
   exact hN211 _ _ _ e254.symm ⟨c241,c243,c245,f230,f231,rfl,rfl,rfl,hv242,hv244,hv246,(Sep.m4 (Sep.m3 (Sep.m3 (Sep.m3 (Sep.m3 hS250)))))⟩
  rw [iteF hc237] at hF208
  simp only [qd2,qcy,qeb,B0,reduceIte,reduceEqDiff]
  have e255:=qk hF208
  exact hK212 _ _ _ e255.symm ⟨c194,c197,c200,f230,f231,f232,f233,f234,hv195,hv198,hv201,(Sep.m4 (Sep.m4 (Sep.m4 (Sep.m4 (Sep.m4 hS236)))))⟩
 rintro ⟨s257,s258,s259,s260,s261,s264,s267⟩ fr270 h271 rfl ⟨c262,c265,c268,f273,f274,f275,f276,f277,hv263,hv266,hv269,hS272⟩
 dsimp only [jnO] at hk207
 dsimp only at *
 unfold xv at hk207
 simp only [qtu,qd,qc,f275,qe,jz,qb,kf,qa,qvo,zc,B0,reduceIte,reduceEqDiff]
 refine zb (t:=(!s257)) (fun hc278=>?_) (fun hc278=>?_)
 ·rw [iteT hc278] at hk207
  simp only [qqb,qd,qc,run_build,evp,B0,reduceIte,reduceEqDiff]
  refine qh (v := .agg [.nil,.nil,.nil,.int .i64 0,.int .i64 0]) rfl ?_
  simp only [f273,zj,B0,reduceIte,reduceEqDiff]
  refine qx (us:=[.nil,.nil,.nil,.int .i64 0,.int .i64 0]) rfl (cs':=[.nil,.nil,.nil,.int .i64 0,
    .int .i64 0]) hS272 hW rfl rfl (Nat.le_of_ble_eq_true rfl) rfl (fun h279 hS280=>?_)
  simp only [qe,qa,qz,B0,reduceIte,reduceEqDiff]
  have he:=qk hk207
  subst he
  refine jr (qj (jv (bb:=b5) (oo:=0) (v := .agg [.nil,.nil,.nil,.int .i64 0,
    .int .i64 0]) (f273) ((z0 (Sep.bk _ _ _ hS280)).trans rfl)) (qj (kz (v := .int .i64 0) (rfl)) (qj (kz (v := .bool false) (rfl)) q9))) ?_
  exact ⟨.nil,[],.nil,[],.nil,[],by first | trivial | rfl,SlF.nil,SlN.nil,SlN.nil,
    ((Sep.dc ((Sep.dc ((Sep.dc ((Sep.dc ((Sep.dc (hS280)))))))))) : Sep _ (geL h.length) ([]))⟩
 rw [iteF hc278] at hk207
 simp only [zg,qvr,qd,qc,f274,qp,B0,reduceIte,reduceEqDiff]
 refine qh (v := .agg [v20,v24,v28,.int .i64 s260.Sent,.int .i64 s260.Total]) ((z0 (Sep.bk _ _ _ (Sep.m1 hS272))).trans rfl) ?_
 obtain ⟨v281,hx282,hF283⟩:=qg hk207
 simp only [zd,B0,reduceIte,reduceEqDiff]
 refine ut rfl hS272 (qj (ji (qj (SlF.snap hv263 (Sep.m2 hS272) rfl (fun _=>rfl) (fun _=>rfl)) (qj (SlN.snap hv266 _ (Sep.m3 hS272) rfl Chan.RO) (qj
   (SlN.snap hv269 _ (Sep.m4 hS272) rfl Picture.RO) (qj qq (qj qq q9)))))) q9) (qbv (fun b hb=>decide_eq_true hb)
   (Snap.mk s261 s264 s267 s260.Sent s260.Total) v281 hx282) ?_
 rintro _ h296 ⟨v284,c285,v288,c289,v292,c293,rfl,hv286,hv290,hv294,hS297⟩
 refine ⟨_,qci (qi (SlF.free1 hv286) (qi (SlN.free1 hv290) (qi (SlN.free1 hv294) (qi rfl (qi rfl zk))))),hS297,
   (jc (SlF.pf hv286 (fun _=>rfl)) (jc (SlN.pf hv290 Chan.RO) (jc (SlN.pf hv294 Picture.RO) wt))),fun h298 hS299=>?_⟩
 have hS300:Sep h298 (geL h.length) (c285++(c289++(c293++([Blk1 b5 [.nil,.nil,.nil,.int .i64 0,.int .i64 0] 30]++([Blk1 b37 [v20,v24,v28,.int .i64 s260.Sent,
   .int .i64 s260.Total] 30]++(c262++(c265++(c268++([]))))))))):=by simpa only [List.append_assoc,List.nil_append] using hS299
 simp only [f276,qe,f273,zj,B0,reduceIte,reduceEqDiff]
 refine qx (us:=[v284,v288,v292,.int .i64 v281.Sent,.int .i64 v281.Total]) rfl (cs':=[v284,v288,v292,.int .i64 v281.Sent,
   .int .i64 v281.Total]) (Sep.m3 hS300) hW rfl (qi (SlF.one hv286) (qi (SlN.one hv290) (qi (SlN.one hv294) (qi rfl (qi rfl zk)))))
   (Nat.le_of_ble_eq_true rfl) rfl (fun h301 hS302=>?_)
 simp only [qe,qa,qz,B0,reduceIte,reduceEqDiff]
 have he:=qk hF283
 subst he
 refine jr (qj (jv (bb:=b5) (oo:=0) (v := .agg [v284,v288,v292,.int .i64 v281.Sent,
   .int .i64 v281.Total]) (f273) ((z0 (Sep.bk _ _ _ hS302)).trans rfl)) (qj (kz (v := .int .i64 s258) (rfl)) (qj (kz (v := .bool true) (rfl)) q9))) ?_
 exact ⟨v284,c285,v288,c289,v292,c293,by first | trivial | rfl,hv286,hv290,hv294,
   (Sep.m2 (Sep.m2 (Sep.m2 (Sep.dc (Sep.m3 (Sep.dc (Sep.m3 (Sep.dc (Sep.m3 (Sep.dc (Sep.m3 (Sep.dc (hS302)))))))))))))⟩
theorem qj3 {W:Nat→Bool}{h:Heap} (hW:∀ b,
  (geL h.length) b→W b=true) (k:Nat) (s_0:Snap) (r:Int × Bool) (hF:xq k s_0=some r) : Ret E W 31 [.agg [lst cI s_0.Amounts,lst Chan.cells s_0.Chans,
  lst Picture.cells s_0.Pictures,.int .i64 s_0.Sent,.int .i64 s_0.Total]] h (fun v h'=>cut h.length h' E.sz false 9 v=some (.tup [.int .i64 r.1,.bool r.2])):=by
 refine Ret.of (fn:=x31) rfl (Run.of ?_)
 unfold xq at hF
 have zf0:zh [.agg [lst cI s_0.Amounts,lst Chan.cells s_0.Chans,lst Picture.cells s_0.Pictures,.int .i64 s_0.Sent,.int .i64 s_0.Total]] 0 = .agg [lst cI s_0.Amounts,
   lst Chan.cells s_0.Chans,lst Picture.cells s_0.Pictures,.int .i64 s_0.Sent,.int .i64 s_0.Total]:=rfl
 generalize zh [.agg [lst cI s_0.Amounts,lst Chan.cells s_0.Chans,lst Picture.cells s_0.Pictures,.int .i64 s_0.Sent,.int .i64 s_0.Total]]=fr0 at zf0 ⊢
 have hS:Sep h (geL h.length) []:=Sep.nil h
 simp only [x31,qd,qc,kh,zf0,B0,reduceIte,reduceEqDiff]
 refine jt (cs:=[lst cI s_0.Amounts,lst Chan.cells s_0.Chans,lst Picture.cells s_0.Pictures,.int .i64 s_0.Sent,
   .int .i64 s_0.Total]) hS rfl rfl rfl (fun b1 h2 hS3=>?_)
 simp only [qe,qa,B0,reduceIte,reduceEqDiff]
 refine zw hS3 hW (by simp only [B0,reduceIte,reduceEqDiff]) (fun h5 hS6=>?_)
 simp only [zo,qrj,qd,qc,qp,B0,reduceIte,reduceEqDiff]
 refine qh (v := .agg [lst cI s_0.Amounts,lst Chan.cells s_0.Chans,lst Picture.cells s_0.Pictures,.int .i64 s_0.Sent,.int .i64 s_0.Total]) rfl ?_
 obtain ⟨v7,hx8,hF9⟩:=qg hF
 simp only [zd,B0,reduceIte,reduceEqDiff]
 refine j5 rfl (qj (ji (qj zm (qj zm (qj zm (qj qq (qj qq q9)))))) q9) (qay
   (fun b hb=>decide_eq_true hb) k s_0 v7 hx8) ?_
 simp only [jz,qb,kf,qa,q49,zc,B0,reduceIte,reduceEqDiff]
 refine zb (t:=(!v7)) (fun hc10=>?_) (fun hc10=>?_)
 ·rw [iteT hc10] at hF9
  simp only [qd,qc,qe,qa,qz,B0,reduceIte,reduceEqDiff]
  have he:=qk hF9
  subst he
  simp only [qam,B0,reduceIte,reduceEqDiff]
  exact qac (qj rfl (qj rfl q9))
 rw [iteF hc10] at hF9
 simp only [zg,qr4,qd,qc,qe,qa,qqr,qt,qb,Nat.reduceAdd,Nat.zero_add,Nat.add_zero,qr,qp,B0,reduceIte,
   reduceEqDiff]
 refine qh (v:=lst Picture.cells s_0.Pictures) rfl ?_
 simp only [z6,qb,z5,qe,qa,B0,reduceIte,reduceEqDiff]
 obtain ⟨oc15,hX17,hk18⟩:=jp hF9
 simp only [qvl]
 refine ko (σ:=Int) s_0.Pictures (fun i13 x14 s95=>u3 i13 x14 s95)
   (fun s fr' h'=>fr' 4 = .int .i64 s∧fr' 13=lst Picture.cells s_0.Pictures∧Sep h' (geL h.length) ([])) hX17 ⟨rfl,rfl,hS6⟩ (by simp only [B0,reduceIte,
   reduceEqDiff]) (by simp only [B0,reduceIte,reduceEqDiff]) (fun _ _ _ h=>h) rfl rfl (fun _ _ _ _ h=>h) (fun _ _ _ _ h=>h) (fun _ _ _ _ h=>h) (by decide) ?_ ?_
 ·rintro i13 x14 s12 fr27 h28 hx32 ⟨f30,f31,hS29⟩ f33 f34 oc16 hF19 hr20 Q21 hN22 hB26 hK23 hR24 hE25
  unfold u3 at hF19
  simp only [qqe,qd,qc,f31,f33,jg,B0,reduceIte,reduceEqDiff]
  refine qh (v := .ref (Picture.cells x14) 0) (kp hx32 rfl) ?_
  simp only [qp,B0,reduceIte,reduceEqDiff]
  refine qh (v := .agg [.bool x14.Taken,.int .i64 x14.Amount,lst cI x14.In,lst cB x14.Closed]) rfl ?_
  simp only [jb,B0,reduceIte,reduceEqDiff]
  refine zv hS29 (fun b35 h36 hS37=>?_)
  simp only [zj,B0,reduceIte,reduceEqDiff]
  refine qx (us:=[.bool x14.Taken,.int .i64 x14.Amount,lst cI x14.In,lst cB x14.Closed]) rfl (cs':=[.bool x14.Taken,.int .i64 x14.Amount,lst cI x14.In,
    lst cB x14.Closed]) hS37 hW rfl rfl (Nat.le_of_ble_eq_true rfl) rfl (fun h39 hS40=>?_)
  simp only [qa,B0,reduceIte,reduceEqDiff]
  refine zw hS40 hW (by simp only [B0,reduceIte,reduceEqDiff]) (fun h41 hS42=>?_)
  simp only [zo,qz3,qd,qc,qt,qb,Nat.reduceAdd,Nat.zero_add,Nat.add_zero,qr,qp,B0,reduceIte,reduceEqDiff]
  refine qh (v:=lst cB x14.Closed) rfl ?_
  simp only [z6,qb,z5,qe,qa,B0,reduceIte,reduceEqDiff]
  obtain ⟨oc47,hX49,hk50⟩:=jp hF19
  simp only [q2t]
  refine ko (σ:=Int) x14.Closed (fun i45 x46 s82=>u6 x14 i45 x46 s82) (fun s fr' h'=>fr' 4 = .int .i64 s∧fr' 6 = .ref [.bool x14.Taken,
    .int .i64 x14.Amount,lst cI x14.In,lst cB x14.Closed] 0∧fr' 13=lst Picture.cells s_0.Pictures∧fr' 14 = .int .i64
    (List.length s_0.Pictures:Int)∧fr' 15 = .int .i64 (i13:Int)∧fr' 20=lst cB x14.Closed∧Sep h' (geL h.length) ([])) hX49 ⟨f30,rfl,f31,f34,f33,rfl,
    hS42⟩ (by simp only [B0,reduceIte,reduceEqDiff]) (by simp only [B0,reduceIte,
    reduceEqDiff]) (fun _ _ _ h=>h) rfl rfl (fun _ _ _ _ h=>h) (fun _ _ _ _ h=>h) (fun _ _ _ _ h=>h) (by decide) ?_ ?_
  ·rintro i45 x46 s44 fr59 h60 hx68 ⟨f62,f63,f64,f65,f66,f67,hS61⟩ f69 f70 oc48 hF51 hr52 Q53 hN54 hB58 hK55 hR56 hE57
   unfold u6 at hF51
   simp only [q26,qd,qc,f69,qe,f67,jg,B0,reduceIte,reduceEqDiff]
   refine qh (v := .ref (cB x46) 0) (kp hx68 rfl) ?_
   simp only [qp,B0,reduceIte,reduceEqDiff]
   refine qh (v := .bool x46) rfl ?_
   simp only [qe,qa,qyi,qd,qc,jz,qb,kf,qzs,zc,B0,reduceIte,reduceEqDiff]
   refine zb (t:=(!x46)) (fun hc71=>?_) (fun hc71=>?_)
   ·rw [iteT hc71] at hF51
    simp only [qd,qc,qe,qa,qz,B0,reduceIte,reduceEqDiff]
    have e72:=qk hF51
    subst e72
    have ho73:=hr52 _ rfl
    have hk74:=hk50
    rw [ho73] at hk74
    dsimp only [jnO] at hk74
    apply hR56
    have e75:=qk hk74
    subst e75
    have ho76:=hr20 _ rfl
    have hk77:=hk18
    rw [ho76] at hk77
    dsimp only [jnO] at hk77
    apply hR24
    have he:=qk hk77
    subst he
    simp only [qam,B0,reduceIte,reduceEqDiff]
    exact qac (qj rfl (qj rfl q9))
   rw [iteF hc71] at hF51
   simp only [zg,q21,qc,f62,qe,f63,qt,qb,Nat.reduceAdd,Nat.zero_add,Nat.add_zero,qr,qp,B0,reduceIte,reduceEqDiff]
   refine qh (v:=lst cI x14.In) rfl ?_
   obtain ⟨x78,hx79,hF80⟩:=qg hF51
   simp only [qe,jg,B0,reduceIte,reduceEqDiff]
   refine qh (v := .ref (cI x78) 0) (k5 hx79 rfl) ?_
   simp only [qp,B0,reduceIte,reduceEqDiff]
   refine qh (v := .int .i64 x78) rfl ?_
   simp only [zf,qb,yz,qe,qa,qo,B0,reduceIte,reduceEqDiff]
   have e81:=qk hF80
   exact hN54 _ _ _ e81.symm ⟨rfl,f63,f64,f65,f66,f67,hS61⟩ (f69) (f70)
  rintro s83 fr84 h85 rfl ⟨f87,f88,f89,f90,f91,f92,hS86⟩
  dsimp only [jnO] at hk50
  unfold qdk at hk50
  simp only [q5p,qc,f87,qe,f88,qt,qb,Nat.reduceAdd,Nat.zero_add,Nat.add_zero,qr,qp,B0,reduceIte,reduceEqDiff]
  refine qh (v := .int .i64 x14.Amount) rfl ?_
  simp only [zf,qb,yz,qe,qa,qo,B0,reduceIte,reduceEqDiff]
  have e93:=qk hk50
  exact hN22 _ _ _ e93.symm ⟨rfl,f89,hS86⟩ (f91) (f90)
 rintro s96 fr97 h98 rfl ⟨f100,f101,hS99⟩
 dsimp only [jnO] at hk18
 unfold qf9 at hk18
 simp only [qd,qc,f100,qe,qa,qz,B0,reduceIte,reduceEqDiff]
 have he:=qk hk18
 subst he
 simp only [qam,B0,reduceIte,reduceEqDiff]
 exact qac (qj rfl (qj rfl q9))
theorem qms {W:Nat→Bool}{h:Heap} (hW:∀ b,
  (geL h.length) b→W b=true) (k:Nat) (s_0:Snap) (r:Int × Bool) (hF:qcd k s_0=some r) : Ret E W 32 [.agg [lst cI s_0.Amounts,lst Chan.cells s_0.Chans,
  lst Picture.cells s_0.Pictures,.int .i64 s_0.Sent,.int .i64 s_0.Total]] h (fun v h'=>cut h.length h' E.sz false 9 v=some (.tup [.int .i64 r.1,.bool r.2])):=by
 refine Ret.of (fn:=x32) rfl (Run.of ?_)
 unfold qcd at hF
 have zf0:zh [.agg [lst cI s_0.Amounts,lst Chan.cells s_0.Chans,lst Picture.cells s_0.Pictures,.int .i64 s_0.Sent,.int .i64 s_0.Total]] 0 = .agg [lst cI s_0.Amounts,
   lst Chan.cells s_0.Chans,lst Picture.cells s_0.Pictures,.int .i64 s_0.Sent,.int .i64 s_0.Total]:=rfl
 generalize zh [.agg [lst cI s_0.Amounts,lst Chan.cells s_0.Chans,lst Picture.cells s_0.Pictures,.int .i64 s_0.Sent,.int .i64 s_0.Total]]=fr0 at zf0 ⊢
 have hS:Sep h (geL h.length) []:=Sep.nil h
 simp only [x32,qd,qc,kh,zf0,B0,reduceIte,reduceEqDiff]
 refine jt (cs:=[lst cI s_0.Amounts,lst Chan.cells s_0.Chans,lst Picture.cells s_0.Pictures,.int .i64 s_0.Sent,
   .int .i64 s_0.Total]) hS rfl rfl rfl (fun b1 h2 hS3=>?_)
 simp only [qe,qa,B0,reduceIte,reduceEqDiff]
 refine zw hS3 hW (by simp only [B0,reduceIte,reduceEqDiff]) (fun h5 hS6=>?_)
 simp only [zo,qx1,qd,qc,qp,B0,reduceIte,reduceEqDiff]
 refine qh (v := .agg [lst cI s_0.Amounts,lst Chan.cells s_0.Chans,lst Picture.cells s_0.Pictures,.int .i64 s_0.Sent,.int .i64 s_0.Total]) rfl ?_
 obtain ⟨v7,hx8,hF9⟩:=qg hF
 simp only [zd,B0,reduceIte,reduceEqDiff]
 refine j5 rfl (qj (ji (qj zm (qj zm (qj zm (qj qq (qj qq q9)))))) q9) (qay
   (fun b hb=>decide_eq_true hb) k s_0 v7 hx8) ?_
 simp only [jz,qb,kf,qa,qz7,zc,B0,reduceIte,reduceEqDiff]
 refine zb (t:=(!v7)) (fun hc10=>?_) (fun hc10=>?_)
 ·rw [iteT hc10] at hF9
  simp only [qd,qc,qe,qa,qz,B0,reduceIte,reduceEqDiff]
  have he:=qk hF9
  subst he
  simp only [qam,B0,reduceIte,reduceEqDiff]
  exact qac (qj rfl (qj rfl q9))
 rw [iteF hc10] at hF9
 simp only [zg,qy4,qd,qc,qp,B0,reduceIte,reduceEqDiff]
 refine qh (v := .agg [lst cI s_0.Amounts,lst Chan.cells s_0.Chans,lst Picture.cells s_0.Pictures,.int .i64 s_0.Sent,.int .i64 s_0.Total]) rfl ?_
 obtain ⟨v11,hx12,hF13⟩:=qg hF9
 simp only [zd,B0,reduceIte,reduceEqDiff]
 refine j5 rfl (qj (ji (qj zm (qj zm (qj zm (qj qq (qj qq q9)))))) q9) (qh2
   (fun b hb=>decide_eq_true hb) s_0 v11 hx12) ?_
 simp only [qe,qa,qz,B0,reduceIte,reduceEqDiff]
 have he:=qk hF13
 subst he
 simp only [qam,B0,reduceIte,reduceEqDiff]
 exact qac (qj rfl (qj rfl q9))
theorem qi3 {W:Nat→Bool}{h:Heap} (hW:∀ b,
  (geL h.length) b→W b=true) (code_0:List Int) (r:Int × Int) (hF:qap code_0=some r) : Ret E W 33 [lst cU8 code_0] h
  (fun v h'=>cut h.length h' E.sz false 9 v=some (.tup [.int .i64 r.1,.int .i64 r.2])):=by
 refine Ret.of (fn:=x33) rfl (Run.of ?_)
 unfold qap at hF
 have zf0:zh [lst cU8 code_0] 0=lst cU8 code_0:=rfl
 generalize zh [lst cU8 code_0]=fr0 at zf0 ⊢
 have hS:Sep h (geL h.length) []:=Sep.nil h
 simp only [x33,qd,qc,qe,qa,q0j,zf0,run_build,evp,B0,reduceIte,reduceEqDiff]
 refine qh (v := .agg [lst cU8 code_0,.int .i64 0,.int .u64 0]) rfl ?_
 simp only [kh,B0,reduceIte,reduceEqDiff]
 refine jt (cs:=[lst cU8 code_0,.int .i64 0,.int .u64 0]) hS rfl rfl rfl (fun b1 h2 hS3=>?_)
 obtain ⟨v5,hx6,hF7⟩:=qg hF
 simp only [qe,qa,qzg,qd,qc,zd,B0,reduceIte,reduceEqDiff]
 refine yp rfl (wg hW b1 (L1Cur.mk code_0 0 0) 7 v5 hx6 hS3) ?_
 rintro _ h8 ⟨rfl,hS9⟩
 simp only [qe,kx,evp,B0,reduceIte,reduceEqDiff]
 refine k8 (n:=1) (f:=cI) [(-1),0,10,250,251] hS9 rfl rfl (fun v10 c11 h12 hv13 hS14=>?_)
 obtain ⟨v16,hx17,hF18⟩:=qg hF7
 simp only [zd,B0,reduceIte,reduceEqDiff]
 refine yp rfl (qgw hW b1 v5.2 v10 c11 [(-1),0,10,250,251] hv13 v16 hx17 (Sep.m1 hS14)) ?_
 rintro _ h21 ⟨c19,rfl,hv20,hS22⟩
 simp only [qe,qa,qz,B0,reduceIte,reduceEqDiff]
 have he:=qk hF18
 subst he
 simp only [qam,B0,reduceIte,reduceEqDiff]
 exact qac (qj rfl (qj rfl q9))
theorem qll {W:Nat→Bool}{h:Heap} (hW:∀ b,
  (geL h.length) b→W b=true) (procs_0:Int) (amount_1:Int) (r:Snap × Bool) (hF:qct procs_0 amount_1=some r) : Ret E W 34 [.int .i64 procs_0,
  .int .i64 amount_1] h (fun v h'=>cut h.length h' E.sz false 9 v=some (.tup [.agg [lst cI r.1.Amounts,lst Chan.cells r.1.Chans,lst Picture.cells r.1.Pictures,
  .int .i64 r.1.Sent,.int .i64 r.1.Total],.bool r.2])):=by
 refine Ret.of (fn:=x34) rfl (Run.of ?_)
 unfold qct at hF
 have zf0:zh [.int .i64 procs_0,.int .i64 amount_1] 0 = .int .i64 procs_0:=rfl
 have zf1:zh [.int .i64 procs_0,.int .i64 amount_1] 1 = .int .i64 amount_1:=rfl
 generalize zh [.int .i64 procs_0,.int .i64 amount_1]=fr0 at zf0 zf1 ⊢
 have hS:Sep h (geL h.length) []:=Sep.nil h
 simp only [x34,qd,qc,jb,B0,reduceIte,reduceEqDiff]
 refine zv hS (fun b1 h2 hS3=>?_)
 simp only [qe,qa,q2c,qd,qc,zf0,zd,B0,reduceIte,reduceEqDiff]
 refine j5 rfl (qj qq (qj qq (qj qq q9))) (ug (fun b hb=>decide_eq_true hb) procs_0 2 4 _ rfl) ?_
 simp only [jz,qb,kf,qe,B0,reduceIte,reduceEqDiff]
 refine j0 4 (fun fr' h'=>Sep h' (geL h.length) ([Blk1 b1 [.nil,.nil,.nil,.int .i64 0,
   .int .i64 0] 30]++([]))∧fr' 13 = .bool ((!(zx procs_0 2 4)) ||
   (!(zx amount_1 0 250)))∧fr' 0 = .int .i64 procs_0∧fr' 1 = .int .i64 amount_1∧fr' 4 = .ptr b1 0) (fun Q5 hN6=>?_) ?_
 ·simp only [List.take_succ_cons,List.take_zero]
  simp only [ql (g:=9),B0,reduceIte,reduceEqDiff]
  refine zn (t:=(!(zx procs_0 2 4))) (fun hg7=>?_) (fun hg7=>?_)
  ·simp only [hg7,ql (g:=9),jm,za,qb,zp,qa,qo,B0,reduceIte,reduceEqDiff]
   exact hN6 _ _ ⟨hS3,by rw [orT hg7]; simp only [B0,reduceIte,reduceEqDiff],zf0,zf1,rfl⟩
  ·simp only [hg7,ql (g:=9),qv,zf1,qe,zd,B0,reduceIte,reduceEqDiff]
   refine j5 rfl (qj qq (qj qq (qj qq q9))) (ug (fun b hb=>decide_eq_true hb) amount_1 0 250 _ rfl) ?_
   simp only [hg7,ql (g:=9),qv,jz,qb,kf,za,zq,qa,qo,B0,reduceIte,reduceEqDiff]
   exact hN6 _ _ ⟨hS3,by rw [orF hg7]; simp only [B0,reduceIte,reduceEqDiff],zf0,zf1,rfl⟩
 rintro fr8 h13 ⟨hS14,f9,f10,f11,f12⟩
 simp only [List.drop_succ_cons,List.drop_zero]
 simp only [qa,q2f,f9,zc,B0,reduceIte,reduceEqDiff]
 refine zb (t:=((!(zx procs_0 2 4))||(!(zx amount_1 0 250)))) (fun hc15=>?_) (fun hc15=>?_)
 ·rw [iteT hc15] at hF
  simp only [qd,qc,run_build,evp,B0,reduceIte,reduceEqDiff]
  refine qh (v := .agg [.nil,.nil,.nil,.int .i64 0,.int .i64 0]) rfl ?_
  simp only [f12,zj,B0,reduceIte,reduceEqDiff]
  refine qx (us:=[.nil,.nil,.nil,.int .i64 0,.int .i64 0]) rfl (cs':=[.nil,.nil,.nil,.int .i64 0,
    .int .i64 0]) hS14 hW rfl rfl (Nat.le_of_ble_eq_true rfl) rfl (fun h16 hS17=>?_)
  simp only [qe,qa,qz,B0,reduceIte,reduceEqDiff]
  have he:=qk hF
  subst he
  refine jr (qj (jv (bb:=b1) (oo:=0) (v := .agg [.nil,.nil,.nil,.int .i64 0,
    .int .i64 0]) (f12) ((z0 (Sep.bk _ _ _ hS17)).trans rfl)) (qj (kz (v := .bool false) (rfl)) q9)) ?_
  exact qac (qj (qo1 (qj rfl (qj rfl (qj rfl (qj rfl (qj rfl q9)))))) (qj rfl q9))
 rw [iteF hc15] at hF
 obtain ⟨v18,hx19,hF20⟩:=qg hF
 simp only [zg,q1i,qd,qc,f10,qe,f11,zd,B0,reduceIte,reduceEqDiff]
 refine ut rfl hS14 (qj qq (qj qq q9)) (qh7 (fun b hb=>decide_eq_true hb) procs_0 amount_1 v18 hx19) ?_
 rintro _ h33 ⟨v21,c22,v25,c26,v29,c30,rfl,hv23,hv27,hv31,hS34⟩
 refine ⟨_,qci (qi (SlF.free1 hv23) (qi (SlN.free1 hv27) (qi (SlN.free1 hv31) (qi rfl (qi rfl zk))))),hS34,
   (jc (SlF.pf hv23 (fun _=>rfl)) (jc (SlN.pf hv27 Chan.RO) (jc (SlN.pf hv31 Picture.RO) wt))),fun h35 hS36=>?_⟩
 have hS37:Sep h35 (geL h.length) (c22++(c26++(c30++([Blk1 b1 [.nil,.nil,.nil,.int .i64 0,.int .i64 0] 30]++([]))))):=by simpa only [List.append_assoc,
   List.nil_append] using hS36
 simp only [f12,zj,B0,reduceIte,reduceEqDiff]
 refine qx (us:=[v21,v25,v29,.int .i64 v18.Sent,.int .i64 v18.Total]) rfl (cs':=[v21,v25,v29,.int .i64 v18.Sent,
   .int .i64 v18.Total]) (Sep.m3 hS37) hW rfl (qi (SlF.one hv23) (qi (SlN.one hv27) (qi (SlN.one hv31) (qi rfl (qi rfl zk)))))
   (Nat.le_of_ble_eq_true rfl) rfl (fun h38 hS39=>?_)
 simp only [qe,qa,qz,B0,reduceIte,reduceEqDiff]
 have he:=qk hF20
 subst he
 refine jr (qj (jv (bb:=b1) (oo:=0) (v := .agg [v21,v25,v29,.int .i64 v18.Sent,
   .int .i64 v18.Total]) (f12) ((z0 (Sep.bk _ _ _ hS39)).trans rfl)) (qj (kz (v := .bool true) (rfl)) q9)) ?_
 exact qac (qj (qo1 (qj (SlF.cut hv23 (Sep.m1 hS39) (fun _ hb=>hb) rfl (fun _=>rfl) (fun _=>rfl)) (qj (SlN.cut hv27 _ (Sep.m2 hS39)
   (fun _ hb=>hb) rfl Chan.RO) (qj (SlN.cut hv31 _ (Sep.m3 hS39) (fun _ hb=>hb) rfl Picture.RO) (qj rfl (qj rfl q9)))))) (qj rfl q9))
end Go.Proofs.Ytpkiieniipenjaa.X
namespace Go.Proofs.Ytpkiieniipenjaa.X
open Go
open Nat (reduceEqDiff)
theorem qlj {W:Nat→Bool}{h:Heap} (hW:∀ b,
  (geL h.length) b→W b=true) (k:Nat) (v_0:List Int) (v_1:List Int) (r:Bool) (hF:qcr k v_0 v_1=some r) : Ret E W 5 [lst cU8 v_0,
  lst cU8 v_1] h (fun v h'=>cut h.length h' E.sz false 9 v=some (.bool r)):=by
 refine Ret.of (fn:=x5) rfl (Run.of ?_)
 unfold qcr at hF
 have zf0:zh [lst cU8 v_0,lst cU8 v_1] 0=lst cU8 v_0:=rfl
 have zf1:zh [lst cU8 v_0,lst cU8 v_1] 1=lst cU8 v_1:=rfl
 generalize zh [lst cU8 v_0,lst cU8 v_1]=fr0 at zf0 zf1 ⊢
 have hS:Sep h (geL h.length) []:=Sep.nil h
 simp only [x5,qd,qc,qe,qa,q5g,zf0,z6,qb,z5,zf1,zf,yz,qe7,zc,B0,reduceIte,reduceEqDiff]
 refine zb (t:=(decide ((1048576:Int)<(IntKind.wrap .i64 ((List.length v_0:Int)+(List.length v_1:Int)))))) (fun hc1=>?_) (fun hc1=>?_)
 ·rw [iteT hc1] at hF
  simp only [qd,qc,qe,qa,qz,B0,reduceIte,reduceEqDiff]
  have he:=qk hF
  subst he
  simp only [zl,B0,reduceIte,reduceEqDiff]
  exact rfl
 rw [iteF hc1] at hF
 obtain ⟨v2,hx3,hF4⟩:=qg hF
 simp only [zg,qzh,qd,qc,zf0,qe,zd,B0,reduceIte,reduceEqDiff]
 refine ut rfl hS (qj zm q9) (qiu (fun b hb=>decide_eq_true hb) k v_0 v2 hx3) ?_
 rintro _ h17 ⟨v5,c6,v9,c10,v13,c14,rfl,hv7,hv11,hv15,hS18⟩
 refine ⟨_,qex (qi (qcn (qi (SlF.free1 hv7) (qi (SlN.free1 hv11) (qi (SlN.free1 hv15) (qi rfl (qi rfl zk)))))) (qi (qcn (qi rfl (qi rfl
   (qi rfl zk)))) zk)),hS18,(jc (SlF.pf hv7 (fun _=>rfl)) (jc (SlN.pf hv11 Chan.RO) (jc (SlN.pf hv15 Picture.RO) wt))),fun h19 hS20=>?_⟩
 have hS21:Sep h19 (geL h.length) (c6++(c10++(c14++([])))):=by simpa only [List.append_assoc,List.nil_append] using hS20
 simp only [qe,wj,qb,w6,w5,jb,B0,reduceIte,reduceEqDiff]
 refine zv hS21 (fun b22 h23 hS24=>?_)
 simp only [jb,B0,reduceIte,reduceEqDiff]
 refine zv hS24 (fun b26 h27 hS28=>?_)
 simp only [zj,B0,reduceIte,reduceEqDiff]
 refine qx (us:=[v5,v9,v13,.int .i64 v2.1.Sent,.int .i64 v2.1.Total]) rfl (cs':=[v5,v9,v13,.int .i64 v2.1.Sent,
   .int .i64 v2.1.Total]) (Sep.m1 hS28) hW rfl (qi (SlF.one hv7) (qi (SlN.one hv11) (qi (SlN.one hv15) (qi rfl (qi rfl zk)))))
   (Nat.le_of_ble_eq_true rfl) rfl (fun h30 hS31=>?_)
 simp only [zj,B0,reduceIte,reduceEqDiff]
 refine qx (us:=[.int .i64 v2.2.Kind,.int .i64 v2.2.K,.int .i64 v2.2.N]) rfl (cs':=[.int .i64 v2.2.Kind,.int .i64 v2.2.K,
   .int .i64 v2.2.N]) (Sep.m1 hS31) hW rfl rfl (Nat.le_of_ble_eq_true rfl) rfl (fun h32 hS33=>?_)
 simp only [qa,B0,reduceIte,reduceEqDiff]
 refine zw (Sep.m1 hS33) hW (by simp only [B0,reduceIte,reduceEqDiff]) (fun h34 hS35=>?_)
 refine zw hS35 hW (by simp only [B0,reduceIte,reduceEqDiff]) (fun h36 hS37=>?_)
 simp only [zo,q5n,qd,qc,qp,B0,reduceIte,reduceEqDiff]
 refine qh (v := .agg [v5,v9,v13,.int .i64 v2.1.Sent,.int .i64 v2.1.Total]) rfl ?_
 simp only [qp,B0,reduceIte,reduceEqDiff]
 refine qh (v := .agg [.int .i64 v2.2.Kind,.int .i64 v2.2.K,.int .i64 v2.2.N]) rfl ?_
 obtain ⟨v38,hx39,hF40⟩:=qg hF4
 simp only [zd,B0,reduceIte,reduceEqDiff]
 refine ut rfl hS37 (qj (ji (qj (SlF.snap hv7 hS37 rfl (fun _=>rfl) (fun _=>rfl)) (qj (SlN.snap hv11 _ (Sep.m1 hS37) rfl Chan.RO) (qj (SlN.snap hv15 _
   (Sep.m2 hS37) rfl Picture.RO) (qj qq (qj qq q9)))))) (qj (ji (qj qq (qj qq (qj qq q9)))) q9))
   (qk3 (fun b hb=>decide_eq_true hb) k v2.1 v2.2 v38 hx39) ?_
 rintro _ h53 ⟨v41,c42,v45,c46,v49,c50,rfl,hv43,hv47,hv51,hS54⟩
 refine ⟨_,qex (qi (qcn (qi (SlF.free1 hv43) (qi (SlN.free1 hv47) (qi (SlN.free1 hv51) (qi rfl (qi rfl zk)))))) (qi rfl zk)),hS54,
   (jc (SlF.pf hv43 (fun _=>rfl)) (jc (SlN.pf hv47 Chan.RO) (jc (SlN.pf hv51 Picture.RO) wt))),fun h55 hS56=>?_⟩
 have hS57:Sep h55 (geL h.length) (c42++(c46++(c50++(c6++(c10++(c14++([]))))))):=by simpa only [List.append_assoc,List.nil_append] using hS56
 simp only [qe,wj,qb,w6,w5,jb,B0,reduceIte,reduceEqDiff]
 refine zv hS57 (fun b58 h59 hS60=>?_)
 simp only [zj,B0,reduceIte,reduceEqDiff]
 refine qx (us:=[v41,v45,v49,.int .i64 v38.1.Sent,.int .i64 v38.1.Total]) rfl (cs':=[v41,v45,v49,.int .i64 v38.1.Sent,
   .int .i64 v38.1.Total]) hS60 hW rfl (qi (SlF.one hv43) (qi (SlN.one hv47) (qi (SlN.one hv51) (qi rfl (qi rfl zk))))) (Nat.le_of_ble_eq_true rfl) rfl
   (fun h62 hS63=>?_)
 simp only [qe,qa,B0,reduceIte,reduceEqDiff]
 refine zw hS63 hW (by simp only [B0,reduceIte,reduceEqDiff]) (fun h64 hS65=>?_)
 simp only [zo,qy5,qd,qc,qp,B0,reduceIte,reduceEqDiff]
 refine qh (v := .agg [v5,v9,v13,.int .i64 v2.1.Sent,.int .i64 v2.1.Total]) rfl ?_
 simp only [qp,B0,reduceIte,reduceEqDiff]
 refine qh (v := .agg [.int .i64 v2.2.Kind,.int .i64 v2.2.K,.int .i64 v2.2.N]) rfl ?_
 obtain ⟨v66,hx67,hF68⟩:=qg hF40
 simp only [zd,B0,reduceIte,reduceEqDiff]
 refine ut rfl hS65 (qj (ji (qj (SlF.snap hv7 (Sep.m3 hS65) rfl (fun _=>rfl) (fun _=>rfl)) (qj (SlN.snap hv11 _ (Sep.m4 hS65) rfl Chan.RO) (qj
   (SlN.snap hv15 _ (Sep.m5 hS65) rfl Picture.RO) (qj qq (qj qq q9)))))) (qj (ji (qj qq (qj qq
   (qj qq q9)))) q9)) (qkp (fun b hb=>decide_eq_true hb) k v2.1 v2.2 v66 hx67) ?_
 rintro _ h81 ⟨v69,c70,v73,c74,v77,c78,rfl,hv71,hv75,hv79,hS82⟩
 refine ⟨_,qex (qi (qcn (qi (SlF.free1 hv71) (qi (SlN.free1 hv75) (qi (SlN.free1 hv79) (qi rfl (qi rfl zk)))))) (qi rfl zk)),hS82,
   (jc (SlF.pf hv71 (fun _=>rfl)) (jc (SlN.pf hv75 Chan.RO) (jc (SlN.pf hv79 Picture.RO) wt))),fun h83 hS84=>?_⟩
 have hS85:Sep h83 (geL h.length) (c70++(c74++(c78++(c42++(c46++(c50++(c6++(c10++(c14++([])))))))))):=by simpa only [List.append_assoc,
   List.nil_append] using hS84
 simp only [qe,wj,qb,w6,w5,jb,B0,reduceIte,reduceEqDiff]
 refine zv hS85 (fun b86 h87 hS88=>?_)
 simp only [zj,B0,reduceIte,reduceEqDiff]
 refine qx (us:=[v69,v73,v77,.int .i64 v66.1.Sent,.int .i64 v66.1.Total]) rfl (cs':=[v69,v73,v77,.int .i64 v66.1.Sent,
   .int .i64 v66.1.Total]) hS88 hW rfl (qi (SlF.one hv71) (qi (SlN.one hv75) (qi (SlN.one hv79) (qi rfl (qi rfl zk))))) (Nat.le_of_ble_eq_true rfl) rfl
   (fun h90 hS91=>?_)
 simp only [qe,qa,B0,reduceIte,reduceEqDiff]
 refine zw hS91 hW (by simp only [B0,reduceIte,reduceEqDiff]) (fun h92 hS93=>?_)
 simp only [zo,qzl,qd,jd,zr,qf,qk4,qiz,B0,reduceIte,reduceEqDiff]
 simp only [qn (g:=58),B0,reduceIte,reduceEqDiff]
 refine jf (t:=(!(v38.2 == v66.2))) (fun hg94=>?_) (fun hg94=>?_)
 ·rw [iteT hg94] at hF68
  simp only [hg94,qn (g:=58),kr,z8,qf,zp,zr,qn (g:=64),qn (g:=71),qn (g:=73),qc7,
    qs,zc,qfs,qd,qc,qe,qa,qz,B0,reduceIte,reduceEqDiff]
  have he:=qk hF68
  subst he
  simp only [zl,B0,reduceIte,reduceEqDiff]
  exact rfl
 rw [iteF hg94] at hF68
 simp only [hg94,qn (g:=58),q8,ze,B0,reduceIte,reduceEqDiff]
 refine qm (v := .agg [v41,v45,v49,.int .i64 v38.1.Sent,.int .i64 v38.1.Total]) rfl ?_
 simp only [hg94,qn (g:=58),q8,ze,B0,reduceIte,reduceEqDiff]
 refine qm (v := .agg [v69,v73,v77,.int .i64 v66.1.Sent,.int .i64 v66.1.Total]) rfl ?_
 obtain ⟨v95,hx96,hF97⟩:=qg hF68
 simp only [hg94,qn (g:=58),q8,wu,B0,reduceIte,reduceEqDiff]
 refine qfp rfl (qj (ji (qj (SlF.snap hv43 (Sep.m3 hS93) rfl (fun _=>rfl) (fun _=>rfl)) (qj (SlN.snap hv47 _ (Sep.m4 hS93) rfl Chan.RO) (qj
   (SlN.snap hv51 _ (Sep.m5 hS93) rfl Picture.RO) (qj qq (qj qq q9)))))) (qj (ji (qj (SlF.snap hv71 hS93 rfl (fun _=>rfl) (fun _=>rfl))
   (qj (SlN.snap hv75 _ (Sep.m1 hS93) rfl Chan.RO) (qj (SlN.snap hv79 _ (Sep.m2 hS93) rfl Picture.RO) (qj qq (qj qq q9)))))) q9))
   (qd7 (fun b hb=>decide_eq_true hb) v38.1 v66.1 v95 hx96) ?_
 simp only [hg94,qn (g:=58),q8,qdv,qf,kf,z8,zq,zr,B0,reduceIte,reduceEqDiff]
 simp only [qn (g:=64),B0,reduceIte,reduceEqDiff]
 refine jf (t:=(!v95)) (fun hg98=>?_) (fun hg98=>?_)
 ·rw [iteT hg98] at hF97
  simp only [hg98,qn (g:=64),kr,z8,qf,zp,zr,qn (g:=71),qn (g:=73),qc7,qs,zc,
    qfs,qd,qc,qe,qa,qz,B0,reduceIte,reduceEqDiff]
  have he:=qk hF97
  subst he
  simp only [zl,B0,reduceIte,reduceEqDiff]
  exact rfl
 rw [iteF hg98] at hF97
 simp only [hg98,qn (g:=64),q8,ze,B0,reduceIte,reduceEqDiff]
 refine qm (v := .agg [v5,v9,v13,.int .i64 v2.1.Sent,.int .i64 v2.1.Total]) rfl ?_
 obtain ⟨v99,hx100,hF101⟩:=qg hF97
 simp only [hg98,qn (g:=64),q8,qdn,B0,reduceIte,reduceEqDiff]
 refine qno rfl (qj (ji (qj (SlF.snap hv7 (Sep.m6 hS93) rfl (fun _=>rfl) (fun _=>rfl)) (qj (SlN.snap hv11 _ (Sep.m7 hS93) rfl Chan.RO) (qj
   (SlN.snap hv15 _ (Sep.m8 hS93) rfl Picture.RO) (qj qq (qj qq q9)))))) q9) (qkm (fun b hb=>decide_eq_true hb) k v2.1 v99 hx100) ?_
 simp only [hg98,qn (g:=64),q8,qbl,qbt,B0,reduceIte,reduceEqDiff]
 refine qm (v := .agg [v5,v9,v13,.int .i64 v2.1.Sent,.int .i64 v2.1.Total]) rfl ?_
 obtain ⟨v102,hx103,hF104⟩:=qg hF101
 simp only [hg98,qn (g:=64),q8,wu,B0,reduceIte,reduceEqDiff]
 refine qfp rfl (qj (ji (qj (SlF.snap hv7 (Sep.m6 hS93) rfl (fun _=>rfl) (fun _=>rfl)) (qj (SlN.snap hv11 _ (Sep.m7 hS93) rfl Chan.RO) (qj
   (SlN.snap hv15 _ (Sep.m8 hS93) rfl Picture.RO) (qj qq (qj qq q9)))))) q9) (qay (fun b hb=>decide_eq_true hb) k v2.1 v102 hx103) ?_
 simp only [hg98,qn (g:=64),q8,qk4,qf,qiz,z8,zq,zr,B0,reduceIte,reduceEqDiff]
 refine wo 9 (fun fr' h'=>Sep h' (geL h.length) ([])∧fr' 80 = .bool ((!(v99 == v102))||(v38.2&&(decide (v38.1.Total≠v2.1.Total))))∧fr' 1=lst cU8 v_1) rfl
   (fun Q105 hN106=>?_) ?_
 ·simp only [List.take_succ_cons,List.take_zero]
  simp only [qn (g:=71),B0,reduceIte,reduceEqDiff]
  refine jf (t:=(!(v99 == v102))) (fun hg107=>?_) (fun hg107=>?_)
  ·simp only [hg107,qn (g:=71),kr,qn (g:=73),qc7,z8,qf,zp,qs,qo,B0,reduceIte,reduceEqDiff]
   exact hN106 _ _ ⟨(Sep.dc ((Sep.dc ((Sep.dc ((Sep.dc ((Sep.dc ((Sep.dc ((Sep.dc ((Sep.dc ((Sep.dc (hS93)))))))))))))))))),by rw [orT hg107]; simp only [B0,reduceIte,
     reduceEqDiff],zf1⟩
  ·simp only [hg107,qn (g:=71),q8,zr,qf,B0,reduceIte,reduceEqDiff]
   refine wo 6 (fun fr' h'=>Sep h' (geL h.length) ([])∧fr' 79 = .bool (v38.2&&(decide (v38.1.Total≠v2.1.Total)))∧fr' 1=lst cU8 v_1∧fr' 71 = .bool
     (!(v99 == v102))) rfl (fun Q108 hN109=>?_) ?_
   ·simp only [List.take_succ_cons,List.take_zero]
    simp only [qn (g:=73),B0,reduceIte,reduceEqDiff]
    refine jf (t:=v38.2) (fun hg110=>?_) (fun hg110=>?_)
    ·simp only [hg110,qn (g:=73),z9,zi,qf,Nat.reduceAdd,Nat.zero_add,Nat.add_zero,qr,ze,B0,reduceIte,reduceEqDiff]
     refine qm (v := .int .i64 v38.1.Total) rfl ?_
     simp only [hg110,qn (g:=73),z9,zi,qf,Nat.reduceAdd,Nat.zero_add,Nat.add_zero,qr,ze,B0,reduceIte,reduceEqDiff]
     refine qm (v := .int .i64 v2.1.Total) rfl ?_
     simp only [hg110,qn (g:=73),z9,kn,qf,ws,hg107,qn (g:=71),q8,z8,zp,qs,qo,B0,
       reduceIte,reduceEqDiff]
     exact hN109 _ _ ⟨(Sep.dc ((Sep.dc ((Sep.dc ((Sep.dc ((Sep.dc ((Sep.dc ((Sep.dc ((Sep.dc ((Sep.dc (hS93)))))))))))))))))),by rw [qb5 hg110]; simp only [B0,reduceIte,
       reduceEqDiff],zf1,by simp only [hg107,B0,reduceIte,reduceEqDiff]⟩
    ·simp only [hg110,qn (g:=73),ud,hg107,qn (g:=71),q8,z8,qf,zq,qs,qo,B0,reduceIte,
      reduceEqDiff]
     exact hN109 _ _ ⟨(Sep.dc ((Sep.dc ((Sep.dc ((Sep.dc ((Sep.dc ((Sep.dc ((Sep.dc ((Sep.dc ((Sep.dc (hS93)))))))))))))))))),by rw [qb4 hg110]; simp only [B0,reduceIte,
       reduceEqDiff],zf1,by simp only [hg107,B0,reduceIte,reduceEqDiff]⟩
   rintro fr111 h115 ⟨hS116,f112,f113,f114⟩
   simp only [List.drop_succ_cons,List.drop_zero]
   simp only [f114,hg107,z8,qf,zq,f112,qs,qo,B0,reduceIte,reduceEqDiff]
   exact hN106 _ _ ⟨hS116,by rw [orF hg107]; simp only [B0,reduceIte,reduceEqDiff],f113⟩
 rintro fr117 h120 ⟨hS121,f118,f119⟩
 simp only [List.drop_succ_cons,List.drop_zero]
 simp only [qs,f118,zc,B0,reduceIte,reduceEqDiff]
 refine zb (t:=((!(v99 == v102))||(v38.2&&(decide (v38.1.Total≠v2.1.Total))))) (fun hc122=>?_) (fun hc122=>?_)
 ·rw [iteT hc122] at hF104
  simp only [qd,qc,qe,qa,qz,B0,reduceIte,reduceEqDiff]
  have he:=qk hF104
  subst he
  simp only [zl,B0,reduceIte,reduceEqDiff]
  exact rfl
 rw [iteF hc122] at hF104
 obtain ⟨v123,hx124,hF125⟩:=qg hF104
 simp only [zg,q2x,qd,qc,f119,qe,zd,B0,reduceIte,reduceEqDiff]
 refine ut rfl hS121 (qj zm q9) (qh4 (fun b hb=>decide_eq_true hb) k v_1 v123 hx124) ?_
 rintro _ h138 ⟨v126,c127,v130,c131,v134,c135,rfl,hv128,hv132,hv136,hS139⟩
 refine ⟨_,qci (qi (SlF.free1 hv128) (qi (SlN.free1 hv132) (qi (SlN.free1 hv136) (qi rfl (qi rfl zk))))),hS139,
   (jc (SlF.pf hv128 (fun _=>rfl)) (jc (SlN.pf hv132 Chan.RO) (jc (SlN.pf hv136 Picture.RO) wt))),fun h140 hS141=>?_⟩
 have hS142:Sep h140 (geL h.length) (c127++(c131++(c135++([])))):=by simpa only [List.append_assoc,List.nil_append] using hS141
 simp only [jb,B0,reduceIte,reduceEqDiff]
 refine zv hS142 (fun b143 h144 hS145=>?_)
 simp only [zj,B0,reduceIte,reduceEqDiff]
 refine qx (us:=[v126,v130,v134,.int .i64 v123.Sent,.int .i64 v123.Total]) rfl (cs':=[v126,v130,v134,.int .i64 v123.Sent,
   .int .i64 v123.Total]) hS145 hW rfl (qi (SlF.one hv128) (qi (SlN.one hv132) (qi (SlN.one hv136) (qi rfl (qi rfl zk))))) (Nat.le_of_ble_eq_true rfl) rfl
   (fun h147 hS148=>?_)
 simp only [qa,B0,reduceIte,reduceEqDiff]
 refine zw hS148 hW (by simp only [B0,reduceIte,reduceEqDiff]) (fun h149 hS150=>?_)
 simp only [zo,q1t,qd,qc,qp,B0,reduceIte,reduceEqDiff]
 refine qh (v := .agg [v126,v130,v134,.int .i64 v123.Sent,.int .i64 v123.Total]) rfl ?_
 obtain ⟨v151,hx152,hF153⟩:=qg hF125
 simp only [zd,B0,reduceIte,reduceEqDiff]
 refine ut rfl hS150 (qj (ji (qj (SlF.snap hv128 hS150 rfl (fun _=>rfl) (fun _=>rfl)) (qj (SlN.snap hv132 _ (Sep.m1 hS150) rfl Chan.RO) (qj
   (SlN.snap hv136 _ (Sep.m2 hS150) rfl Picture.RO) (qj qq (qj qq q9)))))) q9) (qjn (fun b hb=>decide_eq_true hb) k v123 v151 hx152) ?_
 rintro _ h166 ⟨v154,c155,v158,c159,v162,c163,rfl,hv156,hv160,hv164,hS167⟩
 refine ⟨_,qex (qi (qcn (qi (SlF.free1 hv156) (qi (SlN.free1 hv160) (qi (SlN.free1 hv164) (qi rfl (qi rfl zk)))))) (qi rfl (qi rfl zk))),
   hS167,(jc (SlF.pf hv156 (fun _=>rfl)) (jc (SlN.pf hv160 Chan.RO) (jc (SlN.pf hv164 Picture.RO) wt))),fun h168 hS169=>?_⟩
 have hS170:Sep h168 (geL h.length) (c155++(c159++(c163++(c127++(c131++(c135++([]))))))):=by simpa only [List.append_assoc,List.nil_append] using hS169
 simp only [qe,wj,qb,w6,w5,qm6,jb,B0,reduceIte,reduceEqDiff]
 refine zv hS170 (fun b171 h172 hS173=>?_)
 simp only [zj,B0,reduceIte,reduceEqDiff]
 refine qx (us:=[v154,v158,v162,.int .i64 v151.1.Sent,.int .i64 v151.1.Total]) rfl (cs':=[v154,v158,v162,.int .i64 v151.1.Sent,
   .int .i64 v151.1.Total]) hS173 hW rfl (qi (SlF.one hv156) (qi (SlN.one hv160) (qi (SlN.one hv164) (qi rfl (qi rfl zk))))) (Nat.le_of_ble_eq_true rfl) rfl
   (fun h175 hS176=>?_)
 simp only [qe,qa,B0,reduceIte,reduceEqDiff]
 refine zw hS176 hW (by simp only [B0,reduceIte,reduceEqDiff]) (fun h177 hS178=>?_)
 simp only [zo,q8j,qd,qc,qp,B0,reduceIte,reduceEqDiff]
 refine qh (v := .agg [v126,v130,v134,.int .i64 v123.Sent,.int .i64 v123.Total]) rfl ?_
 obtain ⟨v179,hx180,hF181⟩:=qg hF153
 simp only [zd,B0,reduceIte,reduceEqDiff]
 refine ut rfl hS178 (qj (ji (qj (SlF.snap hv128 (Sep.m3 hS178) rfl (fun _=>rfl) (fun _=>rfl)) (qj (SlN.snap hv132 _ (Sep.m4 hS178) rfl Chan.RO) (qj
   (SlN.snap hv136 _ (Sep.m5 hS178) rfl Picture.RO) (qj qq (qj qq q9)))))) q9) (qjl (fun b hb=>decide_eq_true hb) k v123 v179 hx180) ?_
 rintro _ h194 ⟨v182,c183,v186,c187,v190,c191,rfl,hv184,hv188,hv192,hS195⟩
 refine ⟨_,qex (qi (qcn (qi (SlF.free1 hv184) (qi (SlN.free1 hv188) (qi (SlN.free1 hv192) (qi rfl (qi rfl zk)))))) (qi rfl (qi rfl zk))),
   hS195,(jc (SlF.pf hv184 (fun _=>rfl)) (jc (SlN.pf hv188 Chan.RO) (jc (SlN.pf hv192 Picture.RO) wt))),fun h196 hS197=>?_⟩
 have hS198:Sep h196 (geL h.length) (c183++(c187++(c191++(c155++(c159++(c163++(c127++(c131++(c135++([])))))))))):=by simpa only [List.append_assoc,
   List.nil_append] using hS197
 simp only [qe,wj,qb,w6,w5,qm6,jb,B0,reduceIte,reduceEqDiff]
 refine zv hS198 (fun b199 h200 hS201=>?_)
 simp only [zj,B0,reduceIte,reduceEqDiff]
 refine qx (us:=[v182,v186,v190,.int .i64 v179.1.Sent,.int .i64 v179.1.Total]) rfl (cs':=[v182,v186,v190,.int .i64 v179.1.Sent,
   .int .i64 v179.1.Total]) hS201 hW rfl (qi (SlF.one hv184) (qi (SlN.one hv188) (qi (SlN.one hv192) (qi rfl (qi rfl zk))))) (Nat.le_of_ble_eq_true rfl) rfl
   (fun h203 hS204=>?_)
 simp only [qe,qa,B0,reduceIte,reduceEqDiff]
 refine zw hS204 hW (by simp only [B0,reduceIte,reduceEqDiff]) (fun h205 hS206=>?_)
 simp only [zo,q8a,qd,qc,qp,B0,reduceIte,reduceEqDiff]
 refine qh (v := .agg [v126,v130,v134,.int .i64 v123.Sent,.int .i64 v123.Total]) rfl ?_
 obtain ⟨v207,hx208,hF209⟩:=qg hF181
 simp only [zd,B0,reduceIte,reduceEqDiff]
 refine j5 rfl (qj (ji (qj (SlF.snap hv128 (Sep.m6 hS206) rfl (fun _=>rfl) (fun _=>rfl)) (qj (SlN.snap hv132 _ (Sep.m7 hS206) rfl Chan.RO) (qj
   (SlN.snap hv136 _ (Sep.m8 hS206) rfl Picture.RO) (qj qq (qj qq q9)))))) q9) (qj4 (fun b hb=>decide_eq_true hb) k v123 v207 hx208) ?_
 simp only [qe,wj,qb,w6,w5,qa,q62,qd,qc,qp,B0,reduceIte,reduceEqDiff]
 refine qh (v := .agg [v126,v130,v134,.int .i64 v123.Sent,.int .i64 v123.Total]) rfl ?_
 obtain ⟨v210,hx211,hF212⟩:=qg hF209
 simp only [zd,B0,reduceIte,reduceEqDiff]
 refine j5 rfl (qj (ji (qj (SlF.snap hv128 (Sep.m6 hS206) rfl (fun _=>rfl) (fun _=>rfl)) (qj (SlN.snap hv132 _ (Sep.m7 hS206) rfl Chan.RO) (qj
   (SlN.snap hv136 _ (Sep.m8 hS206) rfl Picture.RO) (qj qq (qj qq q9)))))) q9) (qj3 (fun b hb=>decide_eq_true hb) k v123 v210 hx211) ?_
 simp only [qe,wj,qb,w6,w5,qa,q7e,qd,qc,qp,B0,reduceIte,reduceEqDiff]
 refine qh (v := .agg [v126,v130,v134,.int .i64 v123.Sent,.int .i64 v123.Total]) rfl ?_
 obtain ⟨v213,hx214,hF215⟩:=qg hF212
 simp only [zd,B0,reduceIte,reduceEqDiff]
 refine j5 rfl (qj (ji (qj (SlF.snap hv128 (Sep.m6 hS206) rfl (fun _=>rfl) (fun _=>rfl)) (qj (SlN.snap hv132 _ (Sep.m7 hS206) rfl Chan.RO) (qj
   (SlN.snap hv136 _ (Sep.m8 hS206) rfl Picture.RO) (qj qq (qj qq q9)))))) q9) (qmv (fun b hb=>decide_eq_true hb) k v123 v213 hx214) ?_
 simp only [qe,wj,qb,w6,w5,qa,q63,qd,qc,qp,B0,reduceIte,reduceEqDiff]
 refine qh (v := .agg [v126,v130,v134,.int .i64 v123.Sent,.int .i64 v123.Total]) rfl ?_
 obtain ⟨v216,hx217,hF218⟩:=qg hF215
 simp only [zd,B0,reduceIte,reduceEqDiff]
 refine j5 rfl (qj (ji (qj (SlF.snap hv128 (Sep.m6 hS206) rfl (fun _=>rfl) (fun _=>rfl)) (qj (SlN.snap hv132 _ (Sep.m7 hS206) rfl Chan.RO) (qj
   (SlN.snap hv136 _ (Sep.m8 hS206) rfl Picture.RO) (qj qq (qj qq q9)))))) q9) (qms (fun b hb=>decide_eq_true hb) k v123 v216 hx217) ?_
 obtain ⟨v219,hx220,hF221⟩:=qg hF218
 simp only [qe,wj,qb,w6,w5,qa,q7y,qd,qc,f119,zd,B0,reduceIte,reduceEqDiff]
 refine j5 rfl (qj zm q9) (qi3 (fun b hb=>decide_eq_true hb) v_1 v219 hx220) ?_
 obtain ⟨v222,hx223,hF224⟩:=qg hF221
 simp only [qe,wj,qb,w6,w5,qa,q66,qd,qc,zd,B0,reduceIte,reduceEqDiff]
 refine j5 rfl (qj qq (qj qq q9)) (qll (fun b hb=>decide_eq_true hb) v219.1 v219.2 v222 hx223) ?_
 simp only [qe,wj,qb,w6,w5,jb,B0,reduceIte,reduceEqDiff]
 refine zv hS206 (fun b225 h226 hS227=>?_)
 simp only [zj,B0,reduceIte,reduceEqDiff]
 refine qx (us:=[lst cI v222.1.Amounts,lst Chan.cells v222.1.Chans,lst Picture.cells v222.1.Pictures,.int .i64 v222.1.Sent,
   .int .i64 v222.1.Total]) rfl (cs':=[lst cI v222.1.Amounts,lst Chan.cells v222.1.Chans,lst Picture.cells v222.1.Pictures,.int .i64 v222.1.Sent,
   .int .i64 v222.1.Total]) hS227 hW rfl rfl (Nat.le_of_ble_eq_true rfl) rfl (fun h229 hS230=>?_)
 simp only [qe,qa,B0,reduceIte,reduceEqDiff]
 refine zw hS230 hW (by simp only [B0,reduceIte,reduceEqDiff]) (fun h231 hS232=>?_)
 obtain ⟨v233,hx234,hF235⟩:=qg hF224
 simp only [zo,q7t,qd,qc,qe,zd,B0,reduceIte,reduceEqDiff]
 refine ut rfl hS232 (qj qq (qj qq q9)) (qe4 (fun b hb=>decide_eq_true hb) k v219.1 v219.2 v233 hx234) ?_
 rintro _ h248 ⟨v236,c237,v240,c241,v244,c245,rfl,hv238,hv242,hv246,hS249⟩
 refine ⟨_,qex (qi (qcn (qi (SlF.free1 hv238) (qi (SlN.free1 hv242) (qi (SlN.free1 hv246) (qi rfl (qi rfl zk)))))) (qi rfl zk)),hS249,
   (jc (SlF.pf hv238 (fun _=>rfl)) (jc (SlN.pf hv242 Chan.RO) (jc (SlN.pf hv246 Picture.RO) wt))),fun h250 hS251=>?_⟩
 have hS252:Sep h250 (geL h.length) (c237++(c241++(c245++(c183++(c187++(c191++(c155++(c159++(c163++(c127++(c131++(c135 ++
   ([]))))))))))))):=by simpa only [List.append_assoc,List.nil_append] using hS251
 simp only [qe,wj,qb,w6,w5,jb,B0,reduceIte,reduceEqDiff]
 refine zv hS252 (fun b253 h254 hS255=>?_)
 simp only [zj,B0,reduceIte,reduceEqDiff]
 refine qx (us:=[v236,v240,v244,.int .i64 v233.1.Sent,.int .i64 v233.1.Total]) rfl (cs':=[v236,v240,v244,.int .i64 v233.1.Sent,
   .int .i64 v233.1.Total]) hS255 hW rfl (qi (SlF.one hv238) (qi (SlN.one hv242) (qi (SlN.one hv246) (qi rfl (qi rfl zk))))) (Nat.le_of_ble_eq_true rfl) rfl
   (fun h257 hS258=>?_)
 simp only [qe,qa,B0,reduceIte,reduceEqDiff]
 refine zw hS258 hW (by simp only [B0,reduceIte,reduceEqDiff]) (fun h259 hS260=>?_)
 simp only [zo,q79,qd,qc,qe,qgn,qb,qi8,B0,reduceIte,reduceEqDiff]
 refine j0 4 (fun fr' h'=>Sep h' (geL h.length) (c155++(c159++(c163++(c183++(c187++(c191++(c237++(c241++(c245++([]))))))))))∧fr' 139 = .bool
   ((v151.2.2 == v179.2.2)&&(decide (v151.2.1=v179.2.1)))∧fr' 12 = .ref [v154,v158,v162,.int .i64 v151.1.Sent,.int .i64 v151.1.Total] 0∧fr' 15 = .ref [v182,v186,
   v190,.int .i64 v179.1.Sent,.int .i64 v179.1.Total] 0∧fr' 18 = .int .i64 v207.1∧fr' 19 = .bool v207.2∧fr' 20 = .int .i64 v210.1∧fr' 21 = .bool v210.2∧fr' 22 = .int .i64 v213.1∧fr' 23 = .bool v213.2∧fr' 24 = .int .i64 v216.1∧fr' 25 = .bool v216.2∧fr' 28 = .ref [lst cI v222.1.Amounts,
   lst Chan.cells v222.1.Chans,lst Picture.cells v222.1.Pictures,.int .i64 v222.1.Sent,.int .i64 v222.1.Total] 0∧fr' 29 = .bool v222.2∧fr' 30 = .ref [v236,v240,v244,
   .int .i64 v233.1.Sent,.int .i64 v233.1.Total] 0∧fr' 31 = .bool v233.2) (fun Q261 hN262=>?_) ?_
 ·simp only [List.take_succ_cons,List.take_zero]
  simp only [ql (g:=135),B0,reduceIte,reduceEqDiff]
  refine zn (t:=(v151.2.2 == v179.2.2)) (fun hg263=>?_) (fun hg263=>?_)
  ·simp only [hg263,ql (g:=135),z4,qe,zf,qb,wi,za,zp,qa,qo,B0,reduceIte,reduceEqDiff]
   exact hN262 _ _ ⟨(Sep.m8 (Sep.m8 (Sep.m8 (Sep.m5 (Sep.m5 (Sep.m5 (Sep.m2 (Sep.m2 (Sep.m2 (Sep.dc (Sep.m9 (Sep.dc (Sep.m9 (Sep.dc (Sep.m9 hS260))))))))))))))),
     by rw [qb5 hg263]; simp only [B0,reduceIte,reduceEqDiff],rfl,rfl,rfl,rfl,rfl,rfl,rfl,rfl,rfl,rfl,rfl,rfl,rfl,rfl⟩
  ·simp only [hg263,ql (g:=135),kw,za,qb,zq,qa,qo,B0,reduceIte,reduceEqDiff]
   exact hN262 _ _ ⟨(Sep.m8 (Sep.m8 (Sep.m8 (Sep.m5 (Sep.m5 (Sep.m5 (Sep.m2 (Sep.m2 (Sep.m2 (Sep.dc (Sep.m9 (Sep.dc (Sep.m9 (Sep.dc (Sep.m9 hS260))))))))))))))),
     by rw [qb4 hg263]; simp only [B0,reduceIte,reduceEqDiff],rfl,rfl,rfl,rfl,rfl,rfl,rfl,rfl,rfl,rfl,rfl,rfl,rfl,rfl⟩
 rintro fr264 h280 ⟨hS281,f265,f266,f267,f268,f269,f270,f271,f272,f273,f274,f275,f276,f277,f278,f279⟩
 simp only [List.drop_succ_cons,List.drop_zero]
 simp only [f265,qe,B0,reduceIte,reduceEqDiff]
 obtain ⟨v285,hx286,hF287⟩:=qg hF235
 refine j0 4 (fun fr' h'=>Sep h' (geL h.length) (c237++(c241++(c245 ++
   ([]))))∧fr' 144 = .bool v285∧fr' 18 = .int .i64 v207.1∧fr' 19 = .bool v207.2∧fr' 20 = .int .i64 v210.1∧fr' 21 = .bool v210.2∧fr' 22 = .int .i64 v213.1∧fr' 23 = .bool v213.2∧fr' 24 = .int .i64 v216.1∧fr' 25 = .bool v216.2∧fr' 28 = .ref [lst cI v222.1.Amounts,
   lst Chan.cells v222.1.Chans,lst Picture.cells v222.1.Pictures,.int .i64 v222.1.Sent,.int .i64 v222.1.Total] 0∧fr' 29 = .bool v222.2∧fr' 30 = .ref [v236,v240,v244,
   .int .i64 v233.1.Sent,.int .i64 v233.1.Total] 0∧fr' 31 = .bool v233.2) (fun Q282 hN283=>?_) ?_
 ·simp only [List.take_succ_cons,List.take_zero]
  simp only [ql (g:=140),B0,reduceIte,reduceEqDiff]
  refine zn (t:=((v151.2.2 == v179.2.2)&&(decide (v151.2.1=v179.2.1)))) (fun hg284=>?_) (fun hg284=>?_)
  ·rw [iteT hg284] at hx286
   simp only [hg284,ql (g:=140),z4,f266,qp,B0,reduceIte,reduceEqDiff]
   refine qh (v := .agg [v154,v158,v162,.int .i64 v151.1.Sent,.int .i64 v151.1.Total]) rfl ?_
   simp only [hg284,ql (g:=140),z4,f267,qp,B0,reduceIte,reduceEqDiff]
   refine qh (v := .agg [v182,v186,v190,.int .i64 v179.1.Sent,.int .i64 v179.1.Total]) rfl ?_
   obtain ⟨v288,hx289,hF290⟩:=qg hx286
   simp only [hg284,ql (g:=140),z4,zd,B0,reduceIte,reduceEqDiff]
   refine j5 rfl (qj (ji (qj (SlF.snap hv156 hS281 rfl (fun _=>rfl) (fun _=>rfl)) (qj (SlN.snap hv160 _ (Sep.m1 hS281) rfl Chan.RO) (qj
     (SlN.snap hv164 _ (Sep.m2 hS281) rfl Picture.RO) (qj qq (qj qq q9)))))) (qj (ji (qj (SlF.snap hv184 (Sep.m3 hS281) rfl (fun _=>rfl)
     (fun _=>rfl)) (qj (SlN.snap hv188 _ (Sep.m4 hS281) rfl Chan.RO) (qj (SlN.snap hv192 _ (Sep.m5 hS281) rfl Picture.RO) (qj qq
     (qj qq q9)))))) q9)) (qd7 (fun b hb=>decide_eq_true hb) v151.1 v179.1 v288 hx289) ?_
   simp only [hg284,za,qb,zp,qa,qo,B0,reduceIte,reduceEqDiff]
   have e291:=qk hF290
   exact hN283 _ _ ⟨(Sep.m2 (Sep.m2 (Sep.m2 (Sep.dc ((Sep.dc ((Sep.dc ((Sep.dc ((Sep.dc ((Sep.dc (hS281))))))))))))))),by rw [←e291]; simp only [B0,reduceIte,reduceEqDiff],
     f268,f269,f270,f271,f272,f273,f274,f275,f276,f277,f278,f279⟩
  ·rw [iteF hg284] at hx286
   simp only [hg284,ql (g:=140),kw,za,qb,zq,qa,qo,B0,reduceIte,reduceEqDiff]
   have e292:=qk hx286
   exact hN283 _ _ ⟨(Sep.m2 (Sep.m2 (Sep.m2 (Sep.dc ((Sep.dc ((Sep.dc ((Sep.dc ((Sep.dc ((Sep.dc (hS281))))))))))))))),by rw [←e292]; simp only [B0,reduceIte,reduceEqDiff],
     f268,f269,f270,f271,f272,f273,f274,f275,f276,f277,f278,f279⟩
 rintro fr293 h307 ⟨hS308,f294,f295,f296,f297,f298,f299,f300,f301,f302,f303,f304,f305,f306⟩
 simp only [List.drop_succ_cons,List.drop_zero]
 simp only [f294,qe,B0,reduceIte,reduceEqDiff]
 refine j0 4 (fun fr' h'=>Sep h' (geL h.length) (c237++(c241++(c245++([]))))∧fr' 149 = .bool (v285 &&
   (v207.2 == v210.2))∧fr' 18 = .int .i64 v207.1∧fr' 20 = .int .i64 v210.1∧fr' 22 = .int .i64 v213.1∧fr' 23 = .bool v213.2∧fr' 24 = .int .i64 v216.1∧fr' 25 = .bool v216.2∧fr' 28 = .ref [lst cI v222.1.Amounts,
   lst Chan.cells v222.1.Chans,lst Picture.cells v222.1.Pictures,.int .i64 v222.1.Sent,.int .i64 v222.1.Total] 0∧fr' 29 = .bool v222.2∧fr' 30 = .ref [v236,v240,v244,
   .int .i64 v233.1.Sent,.int .i64 v233.1.Total] 0∧fr' 31 = .bool v233.2) (fun Q309 hN310=>?_) ?_
 ·simp only [List.take_succ_cons,List.take_zero]
  simp only [ql (g:=145),B0,reduceIte,reduceEqDiff]
  refine zn (t:=v285) (fun hg311=>?_) (fun hg311=>?_)
  ·simp only [hg311,ql (g:=145),z4,f296,qe,f298,qgn,qb,qi8,za,zp,qa,qo,B0,reduceIte,reduceEqDiff]
   exact hN310 _ _ ⟨(Sep.m2 (Sep.m2 (Sep.m2 hS308))),by rw [qb5 hg311]; simp only [B0,reduceIte,reduceEqDiff],f295,f297,f299,f300,f301,f302,f303,f304,f305,f306⟩
  ·simp only [hg311,ql (g:=145),kw,za,qb,zq,qa,qo,B0,reduceIte,reduceEqDiff]
   exact hN310 _ _ ⟨(Sep.m2 (Sep.m2 (Sep.m2 hS308))),by rw [qb4 hg311]; simp only [B0,reduceIte,reduceEqDiff],f295,f297,f299,f300,f301,f302,f303,f304,f305,f306⟩
 rintro fr312 h324 ⟨hS325,f313,f314,f315,f316,f317,f318,f319,f320,f321,f322,f323⟩
 simp only [List.drop_succ_cons,List.drop_zero]
 simp only [f313,qe,B0,reduceIte,reduceEqDiff]
 refine j0 4 (fun fr' h'=>Sep h' (geL h.length) (c237++(c241++(c245++([]))))∧fr' 154 = .bool ((v285&&(v207.2 == v210.2))&&(decide
   (v207.1=v210.1)))∧fr' 22 = .int .i64 v213.1∧fr' 23 = .bool v213.2∧fr' 24 = .int .i64 v216.1∧fr' 25 = .bool v216.2∧fr' 28 = .ref [lst cI v222.1.Amounts,
   lst Chan.cells v222.1.Chans,lst Picture.cells v222.1.Pictures,.int .i64 v222.1.Sent,.int .i64 v222.1.Total] 0∧fr' 29 = .bool v222.2∧fr' 30 = .ref [v236,v240,v244,
   .int .i64 v233.1.Sent,.int .i64 v233.1.Total] 0∧fr' 31 = .bool v233.2) (fun Q326 hN327=>?_) ?_
 ·simp only [List.take_succ_cons,List.take_zero]
  simp only [ql (g:=150),B0,reduceIte,reduceEqDiff]
  refine zn (t:=(v285&&(v207.2 == v210.2))) (fun hg328=>?_) (fun hg328=>?_)
  ·simp only [hg328,ql (g:=150),z4,f314,qe,f315,zf,qb,wi,za,zp,qa,qo,B0,reduceIte,reduceEqDiff]
   exact hN327 _ _ ⟨(Sep.m2 (Sep.m2 (Sep.m2 hS325))),by rw [qb5 hg328]; simp only [B0,reduceIte,reduceEqDiff],f316,f317,f318,f319,f320,f321,f322,f323⟩
  ·simp only [hg328,ql (g:=150),kw,za,qb,zq,qa,qo,B0,reduceIte,reduceEqDiff]
   exact hN327 _ _ ⟨(Sep.m2 (Sep.m2 (Sep.m2 hS325))),by rw [qb4 hg328]; simp only [B0,reduceIte,reduceEqDiff],f316,f317,f318,f319,f320,f321,f322,f323⟩
 rintro fr329 h339 ⟨hS340,f330,f331,f332,f333,f334,f335,f336,f337,f338⟩
 simp only [List.drop_succ_cons,List.drop_zero]
 simp only [f330,qe,B0,reduceIte,reduceEqDiff]
 refine j0 4 (fun fr' h'=>Sep h' (geL h.length) (c237++(c241++(c245++([]))))∧fr' 159 = .bool (((v285&&(v207.2 == v210.2))&&(decide (v207.1=v210.1))) &&
   (v213.2 == v216.2))∧fr' 22 = .int .i64 v213.1∧fr' 24 = .int .i64 v216.1∧fr' 28 = .ref [lst cI v222.1.Amounts,lst Chan.cells v222.1.Chans,
   lst Picture.cells v222.1.Pictures,.int .i64 v222.1.Sent,.int .i64 v222.1.Total] 0∧fr' 29 = .bool v222.2∧fr' 30 = .ref [v236,v240,v244,.int .i64 v233.1.Sent,
   .int .i64 v233.1.Total] 0∧fr' 31 = .bool v233.2) (fun Q341 hN342=>?_) ?_
 ·simp only [List.take_succ_cons,List.take_zero]
  simp only [ql (g:=155),B0,reduceIte,reduceEqDiff]
  refine zn (t:=((v285&&(v207.2 == v210.2))&&(decide (v207.1=v210.1)))) (fun hg343=>?_) (fun hg343=>?_)
  ·simp only [hg343,ql (g:=155),z4,f332,qe,f334,qgn,qb,qi8,za,zp,qa,qo,B0,reduceIte,reduceEqDiff]
   exact hN342 _ _ ⟨(Sep.m2 (Sep.m2 (Sep.m2 hS340))),by rw [qb5 hg343]; simp only [B0,reduceIte,reduceEqDiff],f331,f333,f335,f336,f337,f338⟩
  ·simp only [hg343,ql (g:=155),kw,za,qb,zq,qa,qo,B0,reduceIte,reduceEqDiff]
   exact hN342 _ _ ⟨(Sep.m2 (Sep.m2 (Sep.m2 hS340))),by rw [qb4 hg343]; simp only [B0,reduceIte,reduceEqDiff],f331,f333,f335,f336,f337,f338⟩
 rintro fr344 h352 ⟨hS353,f345,f346,f347,f348,f349,f350,f351⟩
 simp only [List.drop_succ_cons,List.drop_zero]
 simp only [f345,qe,B0,reduceIte,reduceEqDiff]
 refine j0 4 (fun fr' h'=>Sep h' (geL h.length) (c237++(c241++(c245++([]))))∧fr' 164 = .bool ((((v285&&(v207.2 == v210.2))&&(decide (v207.1=v210.1))) &&
   (v213.2 == v216.2))&&(decide (v213.1=v216.1)))∧fr' 28 = .ref [lst cI v222.1.Amounts,lst Chan.cells v222.1.Chans,lst Picture.cells v222.1.Pictures,
   .int .i64 v222.1.Sent,.int .i64 v222.1.Total] 0∧fr' 29 = .bool v222.2∧fr' 30 = .ref [v236,v240,v244,.int .i64 v233.1.Sent,
   .int .i64 v233.1.Total] 0∧fr' 31 = .bool v233.2) (fun Q354 hN355=>?_) ?_
 ·simp only [List.take_succ_cons,List.take_zero]
  simp only [ql (g:=160),B0,reduceIte,reduceEqDiff]
  refine zn (t:=(((v285&&(v207.2 == v210.2))&&(decide (v207.1=v210.1)))&&(v213.2 == v216.2))) (fun hg356=>?_) (fun hg356=>?_)
  ·simp only [hg356,ql (g:=160),z4,f346,qe,f347,zf,qb,wi,za,zp,qa,qo,B0,reduceIte,reduceEqDiff]
   exact hN355 _ _ ⟨(Sep.m2 (Sep.m2 (Sep.m2 hS353))),by rw [qb5 hg356]; simp only [B0,reduceIte,reduceEqDiff],f348,f349,f350,f351⟩
  ·simp only [hg356,ql (g:=160),kw,za,qb,zq,qa,qo,B0,reduceIte,reduceEqDiff]
   exact hN355 _ _ ⟨(Sep.m2 (Sep.m2 (Sep.m2 hS353))),by rw [qb4 hg356]; simp only [B0,reduceIte,reduceEqDiff],f348,f349,f350,f351⟩
 rintro fr357 h363 ⟨hS364,f358,f359,f360,f361,f362⟩
 simp only [List.drop_succ_cons,List.drop_zero]
 simp only [f358,qe,B0,reduceIte,reduceEqDiff]
 refine j0 4 (fun fr' h'=>Sep h' (geL h.length) (c237++(c241++(c245++([]))))∧fr' 169 = .bool (((((v285&&(v207.2 == v210.2))&&(decide (v207.1=v210.1))) &&
   (v213.2 == v216.2))&&(decide (v213.1=v216.1)))&&(v222.2 == v233.2))∧fr' 28 = .ref [lst cI v222.1.Amounts,lst Chan.cells v222.1.Chans,
   lst Picture.cells v222.1.Pictures,.int .i64 v222.1.Sent,.int .i64 v222.1.Total] 0∧fr' 30 = .ref [v236,v240,v244,.int .i64 v233.1.Sent,
   .int .i64 v233.1.Total] 0) (fun Q365 hN366=>?_) ?_
 ·simp only [List.take_succ_cons,List.take_zero]
  simp only [ql (g:=165),B0,reduceIte,reduceEqDiff]
  refine zn (t:=((((v285&&(v207.2 == v210.2))&&(decide (v207.1=v210.1)))&&(v213.2 == v216.2))&&(decide (v213.1=v216.1)))) (fun hg367=>?_)
    (fun hg367=>?_)
  ·simp only [hg367,ql (g:=165),z4,f360,qe,f362,qgn,qb,qi8,za,zp,qa,qo,B0,reduceIte,reduceEqDiff]
   exact hN366 _ _ ⟨(Sep.m2 (Sep.m2 (Sep.m2 hS364))),by rw [qb5 hg367]; simp only [B0,reduceIte,reduceEqDiff],f359,f361⟩
  ·simp only [hg367,ql (g:=165),kw,za,qb,zq,qa,qo,B0,reduceIte,reduceEqDiff]
   exact hN366 _ _ ⟨(Sep.m2 (Sep.m2 (Sep.m2 hS364))),by rw [qb4 hg367]; simp only [B0,reduceIte,reduceEqDiff],f359,f361⟩
 rintro fr368 h372 ⟨hS373,f369,f370,f371⟩
 simp only [List.drop_succ_cons,List.drop_zero]
 simp only [f369,qe,B0,reduceIte,reduceEqDiff]
 obtain ⟨v377,hx378,hF379⟩:=qg hF287
 refine j0 4 (fun fr' h'=>Sep h' (geL h.length) ([])∧fr' 174 = .bool v377) (fun Q374 hN375=>?_) ?_
 ·simp only [List.take_succ_cons,List.take_zero]
  simp only [ql (g:=170),B0,reduceIte,reduceEqDiff]
  refine zn (t:=(((((v285&&(v207.2 == v210.2))&&(decide (v207.1=v210.1)))&&(v213.2 == v216.2))&&(decide (v213.1=v216.1)))&&(v222.2 == v233.2)))
    (fun hg376=>?_) (fun hg376=>?_)
  ·rw [iteT hg376] at hx378
   simp only [hg376,ql (g:=170),z4,f370,qp,B0,reduceIte,reduceEqDiff]
   refine qh (v := .agg [lst cI v222.1.Amounts,lst Chan.cells v222.1.Chans,lst Picture.cells v222.1.Pictures,.int .i64 v222.1.Sent,.int .i64 v222.1.Total]) rfl ?_
   simp only [hg376,ql (g:=170),z4,f371,qp,B0,reduceIte,reduceEqDiff]
   refine qh (v := .agg [v236,v240,v244,.int .i64 v233.1.Sent,.int .i64 v233.1.Total]) rfl ?_
   obtain ⟨v380,hx381,hF382⟩:=qg hx378
   simp only [hg376,ql (g:=170),z4,zd,B0,reduceIte,reduceEqDiff]
   refine j5 rfl (qj (ji (qj zm (qj zm (qj zm (qj qq (qj qq q9)))))) (qj (ji (qj
     (SlF.snap hv238 hS373 rfl (fun _=>rfl) (fun _=>rfl)) (qj (SlN.snap hv242 _ (Sep.m1 hS373) rfl Chan.RO) (qj (SlN.snap hv246 _ (Sep.m2 hS373) rfl Picture.RO)
     (qj qq (qj qq q9)))))) q9)) (qd7 (fun b hb=>decide_eq_true hb) v222.1 v233.1 v380 hx381) ?_
   simp only [hg376,za,qb,zp,qa,qo,B0,reduceIte,reduceEqDiff]
   have e383:=qk hF382
   exact hN375 _ _ ⟨(Sep.dc ((Sep.dc ((Sep.dc (hS373)))))),by rw [←e383]; simp only [B0,reduceIte,reduceEqDiff]⟩
  ·rw [iteF hg376] at hx378
   simp only [hg376,ql (g:=170),kw,za,qb,zq,qa,qo,B0,reduceIte,reduceEqDiff]
   have e384:=qk hx378
   exact hN375 _ _ ⟨(Sep.dc ((Sep.dc ((Sep.dc (hS373)))))),by rw [←e384]; simp only [B0,reduceIte,reduceEqDiff]⟩
 rintro fr385 h387 ⟨hS388,f386⟩
 simp only [List.drop_succ_cons,List.drop_zero]
 simp only [f386,qe,qa,qz,B0,reduceIte,reduceEqDiff]
 have he:=qk hF379
 subst he
 simp only [zl,B0,reduceIte,reduceEqDiff]
 exact rfl
end Go.Proofs.Ytpkiieniipenjaa.X
