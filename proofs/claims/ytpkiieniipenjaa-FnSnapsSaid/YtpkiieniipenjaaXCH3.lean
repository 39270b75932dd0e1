/- The functions' code comes to what the plain functions say (3). -/
import Derived.Test.YtpkiieniipenjaaXCH2
set_option linter.unusedVariables false
set_option linter.unusedSimpArgs false
set_option maxRecDepth 100000
namespace Go.Proofs.Ytpkiieniipenjaa.X
open Go
open Nat (reduceEqDiff)
theorem qd5 {W:Nat→Bool}{h:Heap}{lo:Nat→Prop}{S0:List Obj} (hW:∀ b,
  lo b→W b=true) (pb0:Nat) (v_0:Snap) (pv0_0:XV) (pc0_0:List Obj) (ph0_0:SlF cI 1 3 pv0_0 v_0.Amounts pc0_0) (pv0_1:XV) (pc0_1:List Obj)
  (ph0_1:SlN Chan.R 3 74 pv0_1 v_0.Chans pc0_1) (pv0_2:XV) (pc0_2:List Obj) (ph0_2:SlN Picture.R 4 76 pv0_2 v_0.Pictures pc0_2) (v_1:SnapStep) (r:Bool × Snap)
  (hF:yf v_0 v_1=some r) (hS:Sep h lo ([Blk1 pb0 [pv0_0,pv0_1,pv0_2,.int .i64 v_0.Sent,
  .int .i64 v_0.Total] 30]++(pc0_0++(pc0_1++(pc0_2++(S0)))))) : Ret E W 41 [.ptr pb0 0,.agg [.int .i64 v_1.Kind,.int .i64 v_1.K,
  .int .i64 v_1.N]] h (fun v h'=>∃ ic0_0 ic0_1 ic0_2,
  v = .bool r.1∧SlF cI 1 3 pv0_0 r.2.Amounts ic0_0∧SlN Chan.R 3 74 pv0_1 r.2.Chans ic0_1∧SlN Picture.R 4 76 pv0_2 r.2.Pictures ic0_2∧Sep h' lo ([Blk1 pb0 [pv0_0,pv0_1,
  pv0_2,.int .i64 r.2.Sent,.int .i64 r.2.Total] 30]++(ic0_0++(ic0_1++(ic0_2++(S0)))))):=by
 refine Ret.of (fn:=x41) rfl (Run.of ?_)
 unfold yf at hF
 have zf0:zh [.ptr pb0 0,.agg [.int .i64 v_1.Kind,.int .i64 v_1.K,.int .i64 v_1.N]] 0 = .ptr pb0 0:=rfl
 have zf1:zh [.ptr pb0 0,.agg [.int .i64 v_1.Kind,.int .i64 v_1.K,.int .i64 v_1.N]] 1 = .agg [.int .i64 v_1.Kind,.int .i64 v_1.K,.int .i64 v_1.N]:=rfl
 generalize zh [.ptr pb0 0,.agg [.int .i64 v_1.Kind,.int .i64 v_1.K,.int .i64 v_1.N]]=fr0 at zf0 zf1 ⊢
 simp only [x41,qd,qc,kh,zf1,B0,reduceIte,reduceEqDiff]
 refine jt (cs:=[.int .i64 v_1.Kind,.int .i64 v_1.K,.int .i64 v_1.N]) hS rfl rfl rfl (fun b1 h2 hS3=>?_)
 simp only [qe,qa,B0,reduceIte,reduceEqDiff]
 refine zw hS3 hW (by simp only [B0,reduceIte,reduceEqDiff]) (fun h5 hS6=>?_)
 simp only [zo,qs8,qd,qc,qt,qb,Nat.reduceAdd,Nat.zero_add,Nat.add_zero,qr,qp,B0,reduceIte,reduceEqDiff]
 refine qh (v := .int .i64 v_1.Kind) rfl ?_
 simp only [zf,qb,ws,qe,B0,reduceIte,reduceEqDiff]
 refine j0 4 (fun fr' h'=>Sep h' lo ([Blk1 pb0 [pv0_0,pv0_1,pv0_2,.int .i64 v_0.Sent,
   .int .i64 v_0.Total] 30]++(pc0_0++(pc0_1++(pc0_2++(S0)))))∧fr' 16 = .bool ((decide (v_1.Kind≠1))&&(decide
   (v_1.N≠0)))∧fr' 0 = .ptr pb0 0∧fr' 3 = .ref [.int .i64 v_1.Kind,.int .i64 v_1.K,.int .i64 v_1.N] 0) (fun Q7 hN8=>?_) ?_
 ·simp only [List.take_succ_cons,List.take_zero]
  simp only [ql (g:=12),B0,reduceIte,reduceEqDiff]
  refine zn (t:=(decide (v_1.Kind≠1))) (fun hg9=>?_) (fun hg9=>?_)
  ·simp only [hg9,ql (g:=12),z4,qt,qb,Nat.reduceAdd,Nat.zero_add,Nat.add_zero,qr,qp,B0,reduceIte,reduceEqDiff]
   refine qh (v := .int .i64 v_1.N) rfl ?_
   simp only [hg9,ql (g:=12),z4,zf,qb,ws,za,zp,qa,qo,B0,reduceIte,reduceEqDiff]
   exact hN8 _ _ ⟨(Sep.m3 (Sep.m3 (Sep.m3 (Sep.m3 hS6)))),by rw [qb5 hg9]; simp only [B0,reduceIte,reduceEqDiff],zf0,rfl⟩
  ·simp only [hg9,ql (g:=12),kw,za,qb,zq,qa,qo,B0,reduceIte,reduceEqDiff]
   exact hN8 _ _ ⟨(Sep.m3 (Sep.m3 (Sep.m3 (Sep.m3 hS6)))),by rw [qb4 hg9]; simp only [B0,reduceIte,reduceEqDiff],zf0,rfl⟩
 rintro fr10 h14 ⟨hS15,f11,f12,f13⟩
 simp only [List.drop_succ_cons,List.drop_zero]
 simp only [qa,f11,zc,B0,reduceIte,reduceEqDiff]
 refine zb (t:=((decide (v_1.Kind≠1))&&(decide (v_1.N≠0)))) (fun hc16=>?_) (fun hc16=>?_)
 ·rw [iteT hc16] at hF
  simp only [qd,qc,qe,qa,qz,B0,reduceIte,reduceEqDiff]
  have he:=qk hF
  subst he
  simp only [zl,B0,reduceIte,reduceEqDiff]
  exact ⟨pc0_0,pc0_1,pc0_2,by first | trivial | rfl,ph0_0,ph0_1,ph0_2,(Sep.m3 (Sep.m3 (Sep.m3 (Sep.m3 hS15))))⟩
 rw [iteF hc16] at hF
 simp only [zg,qs6,qd,qc,f13,qt,qb,Nat.reduceAdd,Nat.zero_add,Nat.add_zero,qr,qp,B0,reduceIte,reduceEqDiff]
 refine qh (v := .int .i64 v_1.Kind) rfl ?_
 simp only [zf,qb,wi,qa,qxm,zc,B0,reduceIte,reduceEqDiff]
 refine zb (t:=(decide (v_1.Kind=3))) (fun hc17=>?_) (fun hc17=>?_)
 ·rw [iteT hc17] at hF
  simp only [q3w,qd,jd,f13,zi,qf,Nat.reduceAdd,Nat.zero_add,Nat.add_zero,qr,ze,B0,reduceIte,reduceEqDiff]
  refine qm (v := .int .i64 v_1.K) rfl ?_
  simp only [f12,zr,qf,ka,zy,zi,Nat.reduceAdd,Nat.zero_add,Nat.add_zero,qu,ze,B0,reduceIte,reduceEqDiff]
  refine qm (v:=pv0_0) ((jj (Sep.bk _ _ _ hS15)).trans rfl) ?_
  simp only [qch,qf,SlF.plen ph0_0,kn,qi4,wu,B0,reduceIte,reduceEqDiff]
  refine qfp rfl (qj qq (qj qq (qj qq q9))) (ug (fun b hb=>decide_eq_true hb) v_1.K 0 (IntKind.wrap .i64
    ((List.length v_0.Amounts:Int) - 1)) _ rfl) ?_
  simp only [zr,qf,B0,reduceIte,reduceEqDiff]
  obtain ⟨v21,hx22,hF23⟩:=qg hF
  refine wo 11 (fun fr' h'=>Sep h' lo ([Blk1 pb0 [pv0_0,pv0_1,pv0_2,.int .i64 v_0.Sent,
    .int .i64 v_0.Total] 30]++(pc0_0++(pc0_1++(pc0_2++(S0)))))∧fr' 40 = .bool v21∧fr' 0 = .ptr pb0 0∧fr' 3 = .ref [.int .i64 v_1.Kind,.int .i64 v_1.K,
    .int .i64 v_1.N] 0) rfl (fun Q18 hN19=>?_) ?_
  ·simp only [List.take_succ_cons,List.take_zero]
   simp only [qn (g:=29),B0,reduceIte,reduceEqDiff]
   refine jf (t:=(zx v_1.K 0 (IntKind.wrap .i64 ((List.length v_0.Amounts:Int) - 1)))) (fun hg20=>?_) (fun hg20=>?_)
   ·rw [iteT hg20] at hx22
    simp only [hg20,qn (g:=29),z9,f12,zr,qf,ka,zy,zi,Nat.reduceAdd,Nat.zero_add,Nat.add_zero,qu,ze,B0,
      reduceIte,reduceEqDiff]
    refine qm (v:=pv0_2) ((jj (Sep.bk _ _ _ hS15)).trans rfl) ?_
    simp only [hg20,qn (g:=29),z9,f13,zi,qf,Nat.reduceAdd,Nat.zero_add,Nat.add_zero,qr,ze,B0,reduceIte,reduceEqDiff]
    refine qm (v := .int .i64 v_1.K) rfl ?_
    obtain ⟨x24,hx25,hF26⟩:=qg hx22
    simp only [hg20,qn (g:=29),z9,jo,B0,reduceIte,reduceEqDiff]
    obtain ⟨b27,hb28⟩:=SlN.isrow ph0_2 (jq hx25)
    refine qm (SlN.ia ph0_2 hb28 hx25) ?_
    obtain ⟨c29,cs30,os31,hv32,hR33,hS34⟩:=SlG.opn (SlN.toG ph0_2 hb28 Picture.RO.len) hx25 z7 Picture.RO.len (Sep.m3 hS15)
    obtain ⟨v36,c37,v40,c41,hv38,hv42,rfl,rfl⟩:=hR33
    have hS35:=Sep.no2 hS34
    simp only [hg20,qn (g:=29),z9,zi,qf,Nat.reduceAdd,Nat.zero_add,Nat.add_zero,qu,ze,B0,reduceIte,reduceEqDiff]
    refine qm (v := .bool x24.Taken) ((SlG.ld (o:=0) hv32 rfl hx25 hS35 (Nat.le_of_ble_eq_true rfl)).trans rfl) ?_
    simp only [hg20,qn (g:=29),z9,qdv,qf,kf,z8,zp,qs,qo,B0,reduceIte,reduceEqDiff]
    have e44:=qk hF26
    exact hN19 _ _ ⟨(Sep.m3 (Sep.m3 (Sep.m3 (Sep.m3 hS15)))),by rw [←e44]; simp only [B0,reduceIte,reduceEqDiff],f12,f13⟩
   ·rw [iteF hg20] at hx22
    simp only [hg20,qn (g:=29),ud,z8,qf,zq,qs,qo,B0,reduceIte,reduceEqDiff]
    have e45:=qk hx22
    exact hN19 _ _ ⟨(Sep.m3 (Sep.m3 (Sep.m3 (Sep.m3 hS15)))),by rw [←e45]; simp only [B0,reduceIte,reduceEqDiff],f12,f13⟩
  rintro fr46 h50 ⟨hS51,f47,f48,f49⟩
  simp only [List.drop_succ_cons,List.drop_zero]
  simp only [f47,zr,qf,B0,reduceIte,reduceEqDiff]
  simp only [qn (g:=41),B0,reduceIte,reduceEqDiff]
  refine jf (t:=v21) (fun hg52=>?_) (fun hg52=>?_)
  ·rw [iteT hg52] at hF23
   simp only [hg52,qn (g:=41),z9,f48,zr,qf,f49,zi,Nat.reduceAdd,Nat.zero_add,Nat.add_zero,qr,ze,B0,reduceIte,
     reduceEqDiff]
   refine qm (v := .int .i64 v_1.K) rfl ?_
   obtain ⟨v53,hx54,hF55⟩:=qg hF23
   simp only [hg52,qn (g:=41),z9,wu,B0,reduceIte,reduceEqDiff]
   refine qla rfl (qg2 hW pb0 v_0 pv0_0 pc0_0 ph0_0 pv0_1 pc0_1 ph0_1 pv0_2 pc0_2 ph0_2 v_1.K v53 hx54 (Sep.m3 (Sep.m3 (Sep.m3 (Sep.m3 hS51))))) ?_
   rintro _ h62 ⟨c56,c58,c60,rfl,hv57,hv59,hv61,hS63⟩
   simp only [hg52,z8,qf,zp,zr,qs,qz,B0,reduceIte,reduceEqDiff]
   have he:=qk hF55
   subst he
   simp only [zl,B0,reduceIte,reduceEqDiff]
   exact ⟨c56,c58,c60,by first | trivial | rfl,hv57,hv59,hv61,(Sep.m3 (Sep.m3 (Sep.m3 (Sep.m3 hS63))))⟩
  rw [iteF hg52] at hF23
  simp only [hg52,qn (g:=41),ud,z8,qf,zq,zr,qs,qz,B0,reduceIte,reduceEqDiff]
  have he:=qk hF23
  subst he
  simp only [zl,B0,reduceIte,reduceEqDiff]
  exact ⟨pc0_0,pc0_1,pc0_2,by first | trivial | rfl,ph0_0,ph0_1,ph0_2,(Sep.m3 (Sep.m3 (Sep.m3 (Sep.m3 hS51))))⟩
 rw [iteF hc17] at hF
 simp only [zg,qts,qd,jd,f13,zi,qf,Nat.reduceAdd,Nat.zero_add,Nat.add_zero,qr,ze,B0,reduceIte,reduceEqDiff]
 refine qm (v := .int .i64 v_1.K) rfl ?_
 simp only [f12,zr,qf,ka,zy,zi,Nat.reduceAdd,Nat.zero_add,Nat.add_zero,qu,ze,B0,reduceIte,reduceEqDiff]
 refine qm (v:=pv0_1) ((jj (Sep.bk _ _ _ hS15)).trans rfl) ?_
 simp only [qch,qf,SlN.len ph0_1,kn,qi4,wu,B0,reduceIte,reduceEqDiff]
 refine qfp rfl (qj qq (qj qq (qj qq q9))) (ug (fun b hb=>decide_eq_true hb) v_1.K 0 (IntKind.wrap .i64
   ((List.length v_0.Chans:Int) - 1)) _ rfl) ?_
 simp only [qdv,qf,kf,qs,zc,B0,reduceIte,reduceEqDiff]
 refine zb (t:=(!(zx v_1.K 0 (IntKind.wrap .i64 ((List.length v_0.Chans:Int) - 1))))) (fun hc64=>?_) (fun hc64=>?_)
 ·rw [iteT hc64] at hF
  simp only [qd,qc,qe,qa,qz,B0,reduceIte,reduceEqDiff]
  have he:=qk hF
  subst he
  simp only [zl,B0,reduceIte,reduceEqDiff]
  exact ⟨pc0_0,pc0_1,pc0_2,by first | trivial | rfl,ph0_0,ph0_1,ph0_2,(Sep.m3 (Sep.m3 (Sep.m3 (Sep.m3 hS15))))⟩
 rw [iteF hc64] at hF
 simp only [zg,quh,qd,jd,f12,zr,qf,ka,zy,zi,Nat.reduceAdd,Nat.zero_add,Nat.add_zero,qu,ze,B0,reduceIte,
   reduceEqDiff]
 refine qm (v:=pv0_1) ((jj (Sep.bk _ _ _ hS15)).trans rfl) ?_
 simp only [f13,zi,qf,Nat.reduceAdd,Nat.zero_add,Nat.add_zero,qr,ze,B0,reduceIte,reduceEqDiff]
 refine qm (v := .int .i64 v_1.K) rfl ?_
 obtain ⟨x65,hx66,hF67⟩:=qg hF
 simp only [jo,B0,reduceIte,reduceEqDiff]
 obtain ⟨b68,hb69⟩:=SlN.isrow ph0_1 (jq hx66)
 refine qm (SlN.ia ph0_1 hb69 hx66) ?_
 simp only [zr,qf,qs,qsi,qd,jd,f12,ka,zy,zi,Nat.reduceAdd,Nat.zero_add,Nat.add_zero,qu,ze,B0,reduceIte,
   reduceEqDiff]
 refine qm (v:=pv0_2) ((jj (Sep.bk _ _ _ hS15)).trans rfl) ?_
 obtain ⟨c70,cs71,os72,hv73,hR74,hS75⟩:=SlG.opn (SlN.toG ph0_1 hb69 Chan.RO.len) hx66 z7 Chan.RO.len (Sep.m2 hS15)
 obtain ⟨v77,c78,hv79,rfl,rfl⟩:=hR74
 have hS76:=Sep.no1 hS75
 simp only [zr,qf,ka,zy,zi,Nat.reduceAdd,Nat.zero_add,Nat.add_zero,qu,ze,B0,reduceIte,reduceEqDiff]
 refine qm (v := .int .i64 x65.To) ((SlG.ld (o:=1) hv73 rfl hx66 hS76 (Nat.le_of_ble_eq_true rfl)).trans rfl) ?_
 obtain ⟨x81,hx82,hF83⟩:=qg hF67
 simp only [jo,B0,reduceIte,reduceEqDiff]
 obtain ⟨b84,hb85⟩:=SlN.isrow ph0_2 (jq hx82)
 refine qm (SlN.ia ph0_2 hb85 hx82) ?_
 simp only [zr,qf,qs,qte,qd,qc,f13,qt,qb,Nat.reduceAdd,Nat.zero_add,Nat.add_zero,qr,qp,B0,reduceIte,
   reduceEqDiff]
 refine qh (v := .int .i64 v_1.Kind) rfl ?_
 simp only [qa,qqk,xn,qs3,qd,qc,zf,qb,wi,qe,qvh,zc,B0,reduceIte,reduceEqDiff]
 refine zb (t:=(decide (v_1.Kind=1))) (fun hc86=>?_) (fun hc86=>?_)
 ·rw [iteT hc86] at hF83
  simp only [q0y,qd,jd,f13,zi,qf,Nat.reduceAdd,Nat.zero_add,Nat.add_zero,qr,ze,B0,reduceIte,reduceEqDiff]
  refine qm (v := .int .i64 v_1.N) rfl ?_
  simp only [f12,zr,qf,ka,zy,zi,Nat.reduceAdd,Nat.zero_add,Nat.add_zero,qu,ze,B0,reduceIte,reduceEqDiff]
  refine qm (v:=pv0_0) ((jj (Sep.bk _ _ _ (Sep.m2 hS76))).trans rfl) ?_
  simp only [zr,qf,ka,zy,zi,Nat.reduceAdd,Nat.zero_add,Nat.add_zero,qu,ze,B0,reduceIte,reduceEqDiff]
  refine qm (v := .int .i64 x65.From) ((SlG.ld (o:=0) hv73 rfl hx66 hS76 (Nat.le_of_ble_eq_true rfl)).trans rfl) ?_
  obtain ⟨x87,hx88,hF89⟩:=qg hF83
  simp only [jo,B0,reduceIte,reduceEqDiff]
  obtain ⟨b90,hb91⟩:=SlF.isrow ph0_0 (jq hx88)
  refine qm (SlF.ia ph0_0 hb91 hx88) ?_
  simp only [ze,B0,reduceIte,reduceEqDiff]
  refine qm (v := .int .i64 x87) ((SlF.ld (o:=0) ph0_0 (Sep.m3 hS76) hb91 hx88 (fun _=>rfl) (Nat.le_of_ble_eq_true rfl)).trans rfl) ?_
  simp only [wu,B0,reduceIte,reduceEqDiff]
  refine qfp rfl (qj qq (qj qq (qj qq q9))) (ug (fun b hb=>decide_eq_true hb) v_1.N 1 x87 _ rfl) ?_
  simp only [qdv,qf,kf,zr,B0,reduceIte,reduceEqDiff]
  refine wo 7 (fun fr' h'=>Sep h' lo ([Blk1 pb0 [pv0_0,pv0_1,pv0_2,.int .i64 v_0.Sent,
    .int .i64 v_0.Total] 30]++(c70++(pc0_0++(pc0_2++(c78++(S0))))))∧fr' 98 = .bool ((!(zx v_1.N 1 x87))||(decide
    ((List.length x65.Way:Int)=8)))∧fr' 0 = .ptr pb0 0∧fr' 3 = .ref [.int .i64 v_1.Kind,.int .i64 v_1.K,
    .int .i64 v_1.N] 0∧fr' 5 = .ptr b68 (v_1.K.toNat*3)) rfl (fun Q92 hN93=>?_) ?_
  ·simp only [List.take_succ_cons,List.take_zero]
   simp only [qn (g:=91),B0,reduceIte,reduceEqDiff]
   refine jf (t:=(!(zx v_1.N 1 x87))) (fun hg94=>?_) (fun hg94=>?_)
   ·simp only [hg94,qn (g:=91),kr,z8,qf,zp,qs,qo,B0,reduceIte,reduceEqDiff]
    exact hN93 _ _ ⟨(Sep.m4 (Sep.m3 (Sep.m4 (Sep.m4 (Sep.m1 hS76))))),by rw [orT hg94]; simp only [B0,reduceIte,reduceEqDiff],f12,f13,rfl⟩
   ·simp only [hg94,qn (g:=91),q8,zr,qf,ka,zy,zi,Nat.reduceAdd,Nat.zero_add,Nat.add_zero,qu,ze,B0,reduceIte,
     reduceEqDiff]
    refine qm (v:=v77) ((SlG.ld (o:=2) hv73 rfl hx66 hS76 (Nat.le_of_ble_eq_true rfl)).trans rfl) ?_
    simp only [hg94,qn (g:=91),q8,qch,qf,SlF.plen hv79,kn,wi,z8,zq,qs,qo,B0,reduceIte,reduceEqDiff]
    exact hN93 _ _ ⟨(Sep.m4 (Sep.m3 (Sep.m4 (Sep.m4 (Sep.m1 hS76))))),by rw [orF hg94]; simp only [B0,reduceIte,reduceEqDiff],f12,f13,rfl⟩
  rintro fr95 h100 ⟨hS101,f96,f97,f98,f99⟩
  simp only [List.drop_succ_cons,List.drop_zero]
  simp only [f96,zr,qf,B0,reduceIte,reduceEqDiff]
  refine wo 6 (fun fr' h'=>Sep h' lo ([Blk1 pb0 [pv0_0,pv0_1,pv0_2,.int .i64 v_0.Sent,
    .int .i64 v_0.Total] 30]++(c70++(pc0_0++(pc0_2++(c78++(S0))))))∧fr' 105 = .bool (((!(zx v_1.N 1 x87))||(decide ((List.length x65.Way:Int)=8))) ||
    (decide (v_0.Sent=1000)))∧fr' 0 = .ptr pb0 0∧fr' 3 = .ref [.int .i64 v_1.Kind,.int .i64 v_1.K,
    .int .i64 v_1.N] 0∧fr' 5 = .ptr b68 (v_1.K.toNat*3)) rfl (fun Q102 hN103=>?_) ?_
  ·simp only [List.take_succ_cons,List.take_zero]
   simp only [qn (g:=99),B0,reduceIte,reduceEqDiff]
   refine jf (t:=((!(zx v_1.N 1 x87))||(decide ((List.length x65.Way:Int)=8)))) (fun hg104=>?_) (fun hg104=>?_)
   ·simp only [hg104,qn (g:=99),kr,z8,qf,zp,qs,qo,B0,reduceIte,reduceEqDiff]
    exact hN103 _ _ ⟨(Sep.m4 (Sep.m4 (Sep.m4 (Sep.m4 (Sep.m4 hS101))))),by rw [orT hg104]; simp only [B0,reduceIte,reduceEqDiff],f97,f98,f99⟩
   ·simp only [hg104,qn (g:=99),q8,f97,zr,qf,ka,zy,zi,Nat.reduceAdd,Nat.zero_add,Nat.add_zero,qu,ze,B0,
     reduceIte,reduceEqDiff]
    refine qm (v := .int .i64 v_0.Sent) ((jj (Sep.bk _ _ _ hS101)).trans rfl) ?_
    simp only [hg104,qn (g:=99),q8,kn,qf,wi,z8,zq,qs,qo,B0,reduceIte,reduceEqDiff]
    exact hN103 _ _ ⟨(Sep.m4 (Sep.m4 (Sep.m4 (Sep.m4 (Sep.m4 hS101))))),by rw [orF hg104]; simp only [B0,reduceIte,reduceEqDiff],f97,f98,f99⟩
  rintro fr105 h110 ⟨hS111,f106,f107,f108,f109⟩
  simp only [List.drop_succ_cons,List.drop_zero]
  simp only [qs,f106,zc,B0,reduceIte,reduceEqDiff]
  refine zb (t:=(((!(zx v_1.N 1 x87))||(decide ((List.length x65.Way:Int)=8)))||(decide (v_0.Sent=1000)))) (fun hc112=>?_) (fun hc112=>?_)
  ·rw [iteT hc112] at hF89
   simp only [qd,qc,qe,qa,qz,B0,reduceIte,reduceEqDiff]
   obtain ⟨c113,hv114,hS115⟩:=SlG.cls0 (c:=c70) (os:=c78) hv73 rfl hx66 z7 (Chan.RI (x:=x65) hv79) (Sep.m2 (Sep.m4 hS111))
   have hv116:=SlG.toN hv114
   have he:=qk hF89
   subst he
   simp only [zl,B0,reduceIte,reduceEqDiff]
   exact ⟨pc0_0,c113,pc0_2,by first | trivial | rfl,ph0_0,hv116,ph0_2,(Sep.m3 (Sep.m3 (Sep.m1 (Sep.m3 hS115))))⟩
  rw [iteF hc112] at hF89
  simp only [zg,q3x,qd,jd,f107,zr,qf,ka,zy,zi,Nat.reduceAdd,Nat.zero_add,Nat.add_zero,qu,ze,B0,reduceIte,
    reduceEqDiff]
  refine qm (v:=pv0_0) ((jj (Sep.bk _ _ _ hS111)).trans rfl) ?_
  simp only [f109,zr,qf,ka,zy,zi,Nat.reduceAdd,Nat.zero_add,Nat.add_zero,qu,ze,B0,reduceIte,reduceEqDiff]
  refine qm (v := .int .i64 x65.From) ((SlG.ld (o:=0) hv73 rfl hx66 (Sep.m1 hS111) (Nat.le_of_ble_eq_true rfl)).trans rfl) ?_
  simp only [jo,B0,reduceIte,reduceEqDiff]
  refine qm (SlF.ia ph0_0 hb91 hx88) ?_
  simp only [ze,B0,reduceIte,reduceEqDiff]
  refine qm (v := .int .i64 x87) ((SlF.ld (o:=0) ph0_0 (Sep.m2 hS111) hb91 hx88 (fun _=>rfl) (Nat.le_of_ble_eq_true rfl)).trans rfl) ?_
  simp only [f108,zi,qf,Nat.reduceAdd,Nat.zero_add,Nat.add_zero,qr,ze,B0,reduceIte,reduceEqDiff]
  refine qm (v := .int .i64 v_1.N) rfl ?_
  simp only [kn,qf,qi4,jo,B0,reduceIte,reduceEqDiff]
  refine qm (SlF.ia ph0_0 hb91 hx88) ?_
  simp only [xj,B0,reduceIte,reduceEqDiff]
  refine uv (f:=cI) (x':=(IntKind.wrap .i64 (x87 - v_1.N))) (o:=0) ph0_0 (Sep.m2 hS111) hW hb91 hx88 (fun _=>rfl) rfl rfl (Nat.le_of_ble_eq_true rfl) rfl
    (fun c119 h117 hv120 hS118=>?_)
  have hx121:=j7 (x':=(IntKind.wrap .i64 (x87 - v_1.N))) hx88
  simp only [qs,q1u,qd,jd,f109,qhm,qf,zr,ka,zy,zi,Nat.reduceAdd,Nat.zero_add,Nat.add_zero,qu,ze,B0,
    reduceIte,reduceEqDiff]
  refine qm (v:=v77) ((SlG.ld (o:=2) hv73 rfl hx66 (Sep.m2 hS118) (Nat.le_of_ble_eq_true rfl)).trans rfl) ?_
  simp only [f108,zi,qf,Nat.reduceAdd,Nat.zero_add,Nat.add_zero,qr,ze,B0,reduceIte,reduceEqDiff]
  refine qm (v := .int .i64 v_1.N) rfl ?_
  simp only [u9,evp,B0,reduceIte,reduceEqDiff]
  refine uh (n:=1) (f:=cI) [v_1.N] hS118 rfl rfl (fun v122 c123 h124 hv125 hS126=>?_)
  simp only [qnq,B0,reduceIte,reduceEqDiff]
  obtain ⟨l128,hx129,hF130⟩:=qg hF89
  refine qa2 (f:=cI) hv79 (Sep.m5 hS126) hW (fun _=>rfl) (fun _=>rfl) (SlF.first hv125 hS126 (fun _=>rfl)) hx129 (fun v131 c132 h133 hv134 hS135=>?_)
  simp only [ka,qf,zy,zi,Nat.reduceAdd,Nat.zero_add,Nat.add_zero,qu,xj,B0,reduceIte,reduceEqDiff]
  refine qcc (us:=[v131]) (o:=2) (cs':=[.int .i64 x65.From,.int .i64 x65.To,
    v131]) (j6 (SlF.one hv134)) hv73 rfl hx66 (Sep.m4 hS135) hW rfl (qi (SlF.one hv134) zk) (Nat.le_of_ble_eq_true rfl) rfl (fun c139 h137 hv140 hS138=>?_)
  simp only [qs,qxz,qd,qc,f107,qe,we,qb,zy,qt,Nat.reduceAdd,Nat.zero_add,Nat.add_zero,qu,qp,B0,
    reduceIte,reduceEqDiff]
  refine qh (v := .int .i64 v_0.Sent) ((jj (Sep.bk _ _ _ (Sep.m4 hS138))).trans rfl) ?_
  simp only [zf,qb,yz,we,zy,qt,Nat.reduceAdd,Nat.zero_add,Nat.add_zero,qu,zj,B0,reduceIte,reduceEqDiff]
  refine qx (us:=[.int .i64 (IntKind.wrap .i64 (v_0.Sent+1))]) rfl (cs':=[pv0_0,pv0_1,pv0_2,.int .i64 (IntKind.wrap .i64 (v_0.Sent+1)),
    .int .i64 v_0.Total]) (Sep.m4 hS138) hW rfl rfl (Nat.le_of_ble_eq_true rfl) rfl (fun h141 hS142=>?_)
  simp only [qa,qd,qc,qe,qz,B0,reduceIte,reduceEqDiff]
  obtain ⟨c143,hv144,hS145⟩:=SlG.cls (e':=(Chan.mk x65.From x65.To l128)) (c:=c139) (os:=c132) hv140 rfl hx66 z7 (Chan.RI (x :=
    (Chan.mk x65.From x65.To l128)) hv134) (Sep.m2 (Sep.m2 hS142))
  have hx146:=j7 (x':=(Chan.mk x65.From x65.To l128)) hx66
  have hv147:=SlG.toN hv144
  have he:=qk hF130
  subst he
  simp only [zl,B0,reduceIte,reduceEqDiff]
  exact ⟨c119,c143,pc0_2,by first | trivial | rfl,hv120,hv147,ph0_2,(Sep.m3 (Sep.m3 (Sep.m1 (Sep.m3 (Sep.dc (Sep.m2 hS145))))))⟩
 rw [iteF hc86] at hF83
 simp only [qrk,qd,qc,zf,qb,wi,qe,qa,qtv,zc,B0,reduceIte,reduceEqDiff]
 refine zb (t:=(decide (v_1.Kind=2))) (fun hc148=>?_) (fun hc148=>?_)
 ·rw [iteT hc148] at hF83
  simp only [qt8,qd,qc,qe,we,qb,zy,qt,Nat.reduceAdd,Nat.zero_add,Nat.add_zero,qu,qp,B0,reduceIte,reduceEqDiff]
  refine qh (v:=v77) ((SlG.ld (o:=2) hv73 rfl hx66 hS76 (Nat.le_of_ble_eq_true rfl)).trans rfl) ?_
  simp only [z6,qb,SlF.plen hv79,zf,wi,qa,zc,B0,reduceIte,reduceEqDiff]
  refine zb (t:=(decide ((List.length x65.Way:Int)=0))) (fun hc149=>?_) (fun hc149=>?_)
  ·rw [iteT hc149] at hF83
   simp only [qd,qc,qe,qa,qz,B0,reduceIte,reduceEqDiff]
   obtain ⟨c150,hv151,hS152⟩:=SlG.cls0 (c:=c70) (os:=c78) hv73 rfl hx66 z7 (Chan.RI (x:=x65) hv79) (Sep.m1 (Sep.m1 hS76))
   have hv153:=SlG.toN hv151
   have he:=qk hF83
   subst he
   simp only [zl,B0,reduceIte,reduceEqDiff]
   exact ⟨pc0_0,c150,pc0_2,by first | trivial | rfl,ph0_0,hv153,ph0_2,(Sep.m3 (Sep.m3 (Sep.m1 (Sep.m3 hS152))))⟩
  rw [iteF hc149] at hF83
  simp only [zg,qq0,qd,qc,qe,we,qb,zy,qt,Nat.reduceAdd,Nat.zero_add,Nat.add_zero,qu,qp,B0,reduceIte,
    reduceEqDiff]
  refine qh (v:=v77) ((SlG.ld (o:=2) hv73 rfl hx66 hS76 (Nat.le_of_ble_eq_true rfl)).trans rfl) ?_
  obtain ⟨x154,hx155,hF156⟩:=qg hF83
  simp only [jg,B0,reduceIte,reduceEqDiff]
  obtain ⟨b157,hb158⟩:=SlF.isrow hv79 (jq hx155)
  refine qh (SlF.ia hv79 hb158 hx155) ?_
  simp only [qp,B0,reduceIte,reduceEqDiff]
  refine qh (v := .int .i64 x154) ((SlF.ld (o:=0) hv79 (Sep.m1 hS76) hb158 hx155 (fun _=>rfl) (Nat.le_of_ble_eq_true rfl)).trans rfl) ?_
  simp only [qe,qa,qum,qd,jd,zr,qf,kn,qe7,B0,reduceIte,reduceEqDiff]
  refine wo 5 (fun fr' h'=>Sep h' lo ([Blk1 pb0 [pv0_0,pv0_1,pv0_2,.int .i64 v_0.Sent,
    .int .i64 v_0.Total] 30]++(c70++(pc0_2++(pc0_0++(c78++(S0))))))∧fr' 159 = .bool ((decide
    ((0:Int)<x154))&&x81.Taken)∧fr' 0 = .ptr pb0 0∧fr' 5 = .ptr b68 (v_1.K.toNat*3)∧fr' 6 = .ptr b84 (x65.To.toNat*4)∧fr' 7 = .int .i64 x154) rfl
    (fun Q159 hN160=>?_) ?_
  ·simp only [List.take_succ_cons,List.take_zero]
   simp only [qn (g:=154),B0,reduceIte,reduceEqDiff]
   refine jf (t:=(decide ((0:Int)<x154))) (fun hg161=>?_) (fun hg161=>?_)
   ·obtain ⟨c162,cs163,os164,hv165,hR166,hS167⟩:=SlG.opn (SlN.toG ph0_2 hb85 Picture.RO.len) hx82 z7 Picture.RO.len (Sep.m4 hS76)
    obtain ⟨v169,c170,v173,c174,hv171,hv175,rfl,rfl⟩:=hR166
    have hS168:=Sep.no2 hS167
    simp only [hg161,qn (g:=154),z9,zr,qf,ka,zy,zi,Nat.reduceAdd,Nat.zero_add,Nat.add_zero,qu,ze,B0,reduceIte,
      reduceEqDiff]
    refine qm (v := .bool x81.Taken) ((SlG.ld (o:=0) hv165 rfl hx82 hS168 (Nat.le_of_ble_eq_true rfl)).trans rfl) ?_
    simp only [hg161,z8,qf,zp,qs,qo,B0,reduceIte,reduceEqDiff]
    exact hN160 _ _ ⟨(Sep.m4 (Sep.m3 (Sep.m4 (Sep.m3 (Sep.m1 hS76))))),by rw [qb5 hg161]; simp only [B0,reduceIte,reduceEqDiff],f12,rfl,rfl,rfl⟩
   ·simp only [hg161,qn (g:=154),ud,z8,qf,zq,qs,qo,B0,reduceIte,reduceEqDiff]
    exact hN160 _ _ ⟨(Sep.m4 (Sep.m3 (Sep.m4 (Sep.m3 (Sep.m1 hS76))))),by rw [qb4 hg161]; simp only [B0,reduceIte,reduceEqDiff],f12,rfl,rfl,rfl⟩
  rintro fr177 h183 ⟨hS184,f178,f179,f180,f181,f182⟩
  simp only [List.drop_succ_cons,List.drop_zero]
  simp only [f178,zr,qf,B0,reduceIte,reduceEqDiff]
  obtain ⟨v188,hx189,hF190⟩:=qg hF156
  refine wo 12 (fun fr' h'=>Sep h' lo ([Blk1 pb0 [pv0_0,pv0_1,pv0_2,.int .i64 v_0.Sent,
    .int .i64 v_0.Total] 30]++(c70++(pc0_2++(pc0_0++(c78++(S0))))))∧fr' 172 = .bool v188∧fr' 0 = .ptr pb0 0∧fr' 5 = .ptr b68
    (v_1.K.toNat*3)∧fr' 6 = .ptr b84 (x65.To.toNat*4)∧fr' 7 = .int .i64 x154) rfl (fun Q185 hN186=>?_) ?_
  ·simp only [List.take_succ_cons,List.take_zero]
   simp only [qn (g:=160),B0,reduceIte,reduceEqDiff]
   refine jf (t:=((decide ((0:Int)<x154))&&x81.Taken)) (fun hg187=>?_) (fun hg187=>?_)
   ·rw [iteT hg187] at hx189
    obtain ⟨c191,cs192,os193,hv194,hR195,hS196⟩:=SlG.opn (SlN.toG ph0_2 hb85 Picture.RO.len) hx82 z7 Picture.RO.len (Sep.m2 hS184)
    obtain ⟨v198,c199,v202,c203,hv200,hv204,rfl,rfl⟩:=hR195
    have hS197:=Sep.no2 hS196
    simp only [hg187,qn (g:=160),z9,f181,zr,qf,ka,zy,zi,Nat.reduceAdd,Nat.zero_add,Nat.add_zero,qu,ze,B0,
      reduceIte,reduceEqDiff]
    refine qm (v:=v202) ((SlG.ld (o:=3) hv194 rfl hx82 hS197 (Nat.le_of_ble_eq_true rfl)).trans rfl) ?_
    simp only [hg187,qn (g:=160),z9,f180,zr,qf,ka,zy,zi,Nat.reduceAdd,Nat.zero_add,Nat.add_zero,qu,ze,B0,
      reduceIte,reduceEqDiff]
    refine qm (v := .int .i64 x65.From) ((SlG.ld (o:=0) hv73 rfl hx66 (Sep.m4 hS197) (Nat.le_of_ble_eq_true rfl)).trans rfl) ?_
    obtain ⟨x206,hx207,hF208⟩:=qg hx189
    simp only [hg187,qn (g:=160),z9,jo,B0,reduceIte,reduceEqDiff]
    obtain ⟨b209,hb210⟩:=SlF.isrow hv204 (jq hx207)
    refine qm (SlF.ia hv204 hb210 hx207) ?_
    simp only [hg187,qn (g:=160),z9,ze,B0,reduceIte,reduceEqDiff]
    refine qm (v := .bool x206) ((SlF.ld (o:=0) hv204 (Sep.m2 hS197) hb210 hx207 (fun _=>rfl) (Nat.le_of_ble_eq_true rfl)).trans rfl) ?_
    simp only [hg187,qn (g:=160),z9,qdv,qf,kf,z8,zp,qs,qo,B0,reduceIte,reduceEqDiff]
    have e211:=qk hF208
    exact hN186 _ _ ⟨(Sep.m4 (Sep.m4 (Sep.m4 (Sep.m4 (Sep.m4 hS184))))),by rw [←e211]; simp only [B0,reduceIte,reduceEqDiff],f179,f180,f181,f182⟩
   ·rw [iteF hg187] at hx189
    simp only [hg187,qn (g:=160),ud,z8,qf,zq,qs,qo,B0,reduceIte,reduceEqDiff]
    have e212:=qk hx189
    exact hN186 _ _ ⟨(Sep.m4 (Sep.m4 (Sep.m4 (Sep.m4 (Sep.m4 hS184))))),by rw [←e212]; simp only [B0,reduceIte,reduceEqDiff],f179,f180,f181,f182⟩
  rintro fr213 h219 ⟨hS220,f214,f215,f216,f217,f218⟩
  simp only [List.drop_succ_cons,List.drop_zero]
  simp only [f214,zr,qf,qs,qur,qd,jd,B0,reduceIte,reduceEqDiff]
  obtain ⟨v224,hx225,hF226⟩:=qg hF190
  refine wo 14 (fun fr' h'=>Sep h' lo ([Blk1 pb0 [pv0_0,pv0_1,pv0_2,.int .i64 v_0.Sent,
    .int .i64 v_0.Total] 30]++(c70++(pc0_2++(pc0_0++(c78++(S0))))))∧fr' 188 = .bool v224∧fr' 0 = .ptr pb0 0∧fr' 5 = .ptr b68
    (v_1.K.toNat*3)∧fr' 6 = .ptr b84 (x65.To.toNat*4)∧fr' 7 = .int .i64 x154∧fr' 8 = .bool v188) rfl (fun Q221 hN222=>?_) ?_
  ·simp only [List.take_succ_cons,List.take_zero]
   simp only [qn (g:=174),B0,reduceIte,reduceEqDiff]
   refine jf (t:=v188) (fun hg223=>?_) (fun hg223=>?_)
   ·rw [iteT hg223] at hx225
    obtain ⟨c227,cs228,os229,hv230,hR231,hS232⟩:=SlG.opn (SlN.toG ph0_2 hb85 Picture.RO.len) hx82 z7 Picture.RO.len (Sep.m2 hS220)
    obtain ⟨v234,c235,v238,c239,hv236,hv240,rfl,rfl⟩:=hR231
    have hS233:=Sep.no2 hS232
    simp only [hg223,qn (g:=174),z9,f217,zr,qf,ka,zy,zi,Nat.reduceAdd,Nat.zero_add,Nat.add_zero,qu,ze,B0,
      reduceIte,reduceEqDiff]
    refine qm (v:=v234) ((SlG.ld (o:=2) hv230 rfl hx82 hS233 (Nat.le_of_ble_eq_true rfl)).trans rfl) ?_
    simp only [hg223,qn (g:=174),z9,f216,zr,qf,ka,zy,zi,Nat.reduceAdd,Nat.zero_add,Nat.add_zero,qu,ze,B0,
      reduceIte,reduceEqDiff]
    refine qm (v := .int .i64 x65.From) ((SlG.ld (o:=0) hv73 rfl hx66 (Sep.m4 hS233) (Nat.le_of_ble_eq_true rfl)).trans rfl) ?_
    obtain ⟨x242,hx243,hF244⟩:=qg hx225
    simp only [hg223,qn (g:=174),z9,jo,B0,reduceIte,reduceEqDiff]
    obtain ⟨b245,hb246⟩:=SlF.isrow hv236 (jq hx243)
    refine qm (SlF.ia hv236 hb246 hx243) ?_
    simp only [hg223,qn (g:=174),z9,ze,B0,reduceIte,reduceEqDiff]
    refine qm (v := .int .i64 x242) ((SlF.ld (o:=0) hv236 (Sep.m1 hS233) hb246 hx243 (fun _=>rfl) (Nat.le_of_ble_eq_true rfl)).trans rfl) ?_
    simp only [hg223,qn (g:=174),z9,f218,zr,qf,kn,yz,qe7,z8,zp,qs,qo,B0,reduceIte,reduceEqDiff]
    have e247:=qk hF244
    exact hN222 _ _ ⟨(Sep.m4 (Sep.m4 (Sep.m4 (Sep.m4 (Sep.m4 hS220))))),by rw [←e247]; simp only [B0,reduceIte,reduceEqDiff],f215,f216,f217,f218,by simp only [B0,
      reduceIte,reduceEqDiff,hg223]⟩
   ·rw [iteF hg223] at hx225
    simp only [hg223,qn (g:=174),ud,z8,qf,zq,qs,qo,B0,reduceIte,reduceEqDiff]
    have e248:=qk hx225
    exact hN222 _ _ ⟨(Sep.m4 (Sep.m4 (Sep.m4 (Sep.m4 (Sep.m4 hS220))))),by rw [←e248]; simp only [B0,reduceIte,reduceEqDiff],f215,f216,f217,f218,by simp only [B0,
      reduceIte,reduceEqDiff,hg223]⟩
  rintro fr249 h256 ⟨hS257,f250,f251,f252,f253,f254,f255⟩
  simp only [List.drop_succ_cons,List.drop_zero]
  simp only [f250,zr,qf,B0,reduceIte,reduceEqDiff]
  simp only [qn (g:=189),B0,reduceIte,reduceEqDiff]
  refine jf (t:=v224) (fun hg258=>?_) (fun hg258=>?_)
  ·rw [iteT hg258] at hF226
   simp only [hg258,qn (g:=189),kr,qn (g:=192),qc7,qn (g:=199),z8,qf,zp,qs,zc,
     qfs,qd,qc,qe,qa,qz,B0,reduceIte,reduceEqDiff]
   obtain ⟨c259,hv260,hS261⟩:=SlG.cls0 (c:=c70) (os:=c78) hv73 rfl hx66 z7 (Chan.RI (x:=x65) hv79) (Sep.m2 (Sep.m4 hS257))
   have hv262:=SlG.toN hv260
   have he:=qk hF226
   subst he
   simp only [zl,B0,reduceIte,reduceEqDiff]
   exact ⟨pc0_0,c259,pc0_2,by first | trivial | rfl,ph0_0,hv262,ph0_2,(Sep.m3 (Sep.m3 (Sep.m1 (Sep.m2 hS261))))⟩
  rw [iteF hg258] at hF226
  simp only [hg258,qn (g:=189),q8,f254,zr,qf,kn,wi,B0,reduceIte,reduceEqDiff]
  refine wo 6 (fun fr' h'=>Sep h' lo ([Blk1 pb0 [pv0_0,pv0_1,pv0_2,.int .i64 v_0.Sent,
    .int .i64 v_0.Total] 30]++(c70++(pc0_2++(pc0_0++(c78++(S0))))))∧fr' 198 = .bool ((decide (x154=0))&&(!x81.Taken))∧fr' 0 = .ptr pb0 0∧fr' 5 = .ptr b68
    (v_1.K.toNat*3)∧fr' 6 = .ptr b84 (x65.To.toNat*4)∧fr' 7 = .int .i64 x154∧fr' 8 = .bool v188∧fr' 189 = .bool v224) rfl (fun Q263 hN264=>?_) ?_
  ·simp only [List.take_succ_cons,List.take_zero]
   simp only [qn (g:=192),B0,reduceIte,reduceEqDiff]
   refine jf (t:=(decide (x154=0))) (fun hg265=>?_) (fun hg265=>?_)
   ·obtain ⟨c266,cs267,os268,hv269,hR270,hS271⟩:=SlG.opn (SlN.toG ph0_2 hb85 Picture.RO.len) hx82 z7 Picture.RO.len (Sep.m2 hS257)
    obtain ⟨v273,c274,v277,c278,hv275,hv279,rfl,rfl⟩:=hR270
    have hS272:=Sep.no2 hS271
    simp only [hg265,qn (g:=192),z9,f253,zr,qf,ka,zy,zi,Nat.reduceAdd,Nat.zero_add,Nat.add_zero,qu,ze,B0,
      reduceIte,reduceEqDiff]
    refine qm (v := .bool x81.Taken) ((SlG.ld (o:=0) hv269 rfl hx82 hS272 (Nat.le_of_ble_eq_true rfl)).trans rfl) ?_
    simp only [hg265,qn (g:=192),z9,qdv,qf,kf,hg258,qn (g:=189),q8,z8,zp,qs,qo,B0,
      reduceIte,reduceEqDiff]
    exact hN264 _ _ ⟨(Sep.m4 (Sep.m4 (Sep.m4 (Sep.m4 (Sep.m4 hS257))))),by rw [qb5 hg265]; simp only [B0,reduceIte,reduceEqDiff],f251,f252,f253,f254,f255,
      by simp only [hg258,B0,reduceIte,reduceEqDiff]⟩
   ·simp only [hg265,qn (g:=192),ud,hg258,qn (g:=189),q8,z8,qf,zq,qs,qo,B0,reduceIte,
     reduceEqDiff]
    exact hN264 _ _ ⟨(Sep.m4 (Sep.m4 (Sep.m4 (Sep.m4 (Sep.m4 hS257))))),by rw [qb4 hg265]; simp only [B0,reduceIte,reduceEqDiff],f251,f252,f253,f254,f255,
      by simp only [hg258,B0,reduceIte,reduceEqDiff]⟩
  rintro fr281 h289 ⟨hS290,f282,f283,f284,f285,f286,f287,f288⟩
  simp only [List.drop_succ_cons,List.drop_zero]
  simp only [f288,hg258,qn (g:=189),q8,f282,zr,qf,B0,reduceIte,reduceEqDiff]
  simp only [qn (g:=199),B0,reduceIte,reduceEqDiff]
  refine jf (t:=((decide (x154=0))&&(!x81.Taken))) (fun hg291=>?_) (fun hg291=>?_)
  ·rw [iteT hg291] at hF226
   simp only [hg291,qn (g:=199),z9,f283,zr,qf,f284,ka,zy,zi,Nat.reduceAdd,Nat.zero_add,Nat.add_zero,qu,ze,B0,
     reduceIte,reduceEqDiff]
   refine qm (v := .int .i64 x65.To) ((SlG.ld (o:=1) hv73 rfl hx66 (Sep.m1 hS290) (Nat.le_of_ble_eq_true rfl)).trans rfl) ?_
   obtain ⟨c292,hv293,hS294⟩:=SlG.cls0 (c:=c70) (os:=c78) hv73 rfl hx66 z7 (Chan.RI (x:=x65) hv79) (Sep.m2 (Sep.m4 hS290))
   have hv295:=SlG.toN hv293
   obtain ⟨v296,hx297,hF298⟩:=qg hF226
   simp only [hg291,qn (g:=199),z9,wu,B0,reduceIte,reduceEqDiff]
   refine qla rfl (qg2 hW pb0 v_0 pv0_0 pc0_0 ph0_0 pv0_1 c292 hv295 pv0_2 pc0_2 ph0_2 x65.To v296 hx297 (Sep.m3 (Sep.m3 (Sep.m1 (Sep.m2 hS294))))) ?_
   rintro _ h305 ⟨c299,c301,c303,rfl,hv300,hv302,hv304,hS306⟩
   simp only [hg291,qn (g:=199),z9,qdv,qf,kf,f288,hg258,qn (g:=189),q8,z8,zp,zq,qs,
     zc,B0,reduceIte,reduceEqDiff]
   refine zb (t:=(!v296.1)) (fun hc307=>?_) (fun hc307=>?_)
   ·rw [iteT hc307] at hF298
    simp only [qd,qc,qe,qa,qz,B0,reduceIte,reduceEqDiff]
    have he:=qk hF298
    subst he
    simp only [zl,B0,reduceIte,reduceEqDiff]
    exact ⟨c299,c301,c303,by first | trivial | rfl,hv300,hv302,hv304,(Sep.m3 (Sep.m3 (Sep.m3 (Sep.m3 hS306))))⟩
   rw [iteF hc307] at hF298
   simp only [zg,qmp,qd,qc,f284,qe,kx,evp,B0,reduceIte,reduceEqDiff]
   refine k8 (n:=1) (f:=cI) ([] : List Int) hS306 rfl rfl (fun v308 c309 h310 hv311 hS312=>?_)
   obtain ⟨x314,hx315,hF316⟩:=qg hF298
   obtain ⟨c317,cs318,os319,hv320,hR321,hS322⟩:=SlG.opn (SlN.toG hv302 hb69 Chan.RO.len) hx315 z7 Chan.RO.len (Sep.m3 hS312)
   obtain ⟨v324,c325,hv326,rfl,rfl⟩:=hR321
   have hS323:=Sep.no1 hS322
   simp only [f284,qe,we,qb,zy,qt,Nat.reduceAdd,Nat.zero_add,Nat.add_zero,qu,qp,B0,reduceIte,reduceEqDiff]
   refine qh (v:=v324) ((SlG.ld (o:=2) hv320 rfl hx315 hS323 (Nat.le_of_ble_eq_true rfl)).trans rfl) ?_
   obtain ⟨l328,hx329,hF330⟩:=qg hF316
   simp only [qlo,Option.map_some,Option.map_none,B0,reduceIte,reduceEqDiff]
   obtain ⟨w331,i332,he333,hw334⟩:=SlF.win (f:=cI) (ty:=3) (some (1:Int)) none hv326 hx329 (Sep.m1 hS323)
   refine qh he333 ?_
   simp only [xh,B0,reduceIte,reduceEqDiff]
   obtain ⟨l335,hx336,hF337⟩:=qg hF330
   refine xw (f:=cI) hv311 (Sep.m2 hS323) hW (fun _=>rfl) (fun _=>rfl) (SlW.first hw334 hv326 (Sep.m1 hS323) (fun _=>rfl)) hx336
     (fun v338 c339 h340 hv341 hS342=>?_)
   simp only [we,qb,zy,qt,Nat.reduceAdd,Nat.zero_add,Nat.add_zero,qu,zj,B0,reduceIte,reduceEqDiff]
   refine qfn (us:=[v338]) (o:=2) (cs':=[.int .i64 x314.From,.int .i64 x314.To,
     v338]) (j6 (SlF.one hv341)) hv320 rfl hx315 (Sep.m1 hS342) hW rfl (qi (SlF.one hv341) zk) (Nat.le_of_ble_eq_true rfl) rfl (fun c346 h344 hv347 hS345=>?_)
   simp only [qa,qng,qd,jd,f283,zr,qf,ka,zy,zi,Nat.reduceAdd,Nat.zero_add,Nat.add_zero,qu,ze,B0,
     reduceIte,reduceEqDiff]
   refine qm (v:=pv0_0) ((jj (Sep.bk _ _ _ (Sep.m3 hS345))).trans rfl) ?_
   simp only [f284,zr,qf,ka,zy,zi,Nat.reduceAdd,Nat.zero_add,Nat.add_zero,qu,ze,B0,reduceIte,reduceEqDiff]
   refine qm (v := .int .i64 x314.To) ((SlG.ld (o:=1) hv347 rfl hx315 hS345 (Nat.le_of_ble_eq_true rfl)).trans rfl) ?_
   obtain ⟨x348,hx349,hF350⟩:=qg hF337
   simp only [jo,B0,reduceIte,reduceEqDiff]
   obtain ⟨b351,hb352⟩:=SlF.isrow hv300 (jq hx349)
   refine qm (SlF.ia hv300 hb352 hx349) ?_
   simp only [ze,B0,reduceIte,reduceEqDiff]
   refine qm (v := .int .i64 x348) ((SlF.ld (o:=0) hv300 (Sep.m4 hS345) hb352 hx349 (fun _=>rfl) (Nat.le_of_ble_eq_true rfl)).trans rfl) ?_
   simp only [f286,zr,qf,kn,yz,jo,B0,reduceIte,reduceEqDiff]
   refine qm (SlF.ia hv300 hb352 hx349) ?_
   simp only [xj,B0,reduceIte,reduceEqDiff]
   refine uv (f:=cI) (x':=(IntKind.wrap .i64 (x348+x154))) (o:=0) hv300 (Sep.m4 hS345) hW hb352 hx349 (fun _=>rfl) rfl rfl (Nat.le_of_ble_eq_true rfl) rfl
     (fun c355 h353 hv356 hS354=>?_)
   have hx357:=j7 (x':=(IntKind.wrap .i64 (x348+x154))) hx349
   simp only [qs,qnf,qd,qc,f287,qe,qa,qpf,zc,B0,reduceIte,reduceEqDiff]
   obtain ⟨c358,hv359,hS360⟩:=SlG.cls (e':=(Chan.mk x314.From x314.To l335)) (c:=c346) (os:=c339) hv347 rfl hx315 z7 (Chan.RI (x :=
     (Chan.mk x314.From x314.To l335)) hv341) (Sep.m2 (Sep.m2 hS354))
   have hx361:=j7 (x':=(Chan.mk x314.From x314.To l335)) hx315
   have hv362:=SlG.toN hv359
   obtain ⟨sv372,hX370,hk371⟩:=qg hF350
   refine u5 (t:=v188) (fun fr' h'=>∃ c364 c367,
     fr' 5 = .ptr b68 (v_1.K.toNat*3)∧fr' 6 = .ptr b84
     (x65.To.toNat*4)∧fr' 7 = .int .i64 x154∧SlN Chan.R 3 74 pv0_1 sv372.1 c364∧SlN Picture.R 4 76 pv0_2 sv372.2 c367∧Sep h' lo (c364++(c367++([Blk1 pb0 [pv0_0,
     pv0_1,pv0_2,.int .i64 v296.2.Sent,.int .i64 v296.2.Total] 30]++(c355++(S0)))))) (fun Q373 hN374 hR375 hE376=>⟨fun hc377=>?_,fun hc377=>?_⟩) ?_
   ·rw [iteT hc377] at hX370
    obtain ⟨x378,hx379,hF380⟩:=qg hX370
    obtain ⟨c381,cs382,os383,hv384,hR385,hS386⟩:=SlG.opn (SlN.toG hv304 hb85 Picture.RO.len) hx379 z7 Picture.RO.len (Sep.m4 hS360)
    obtain ⟨v388,c389,v392,c393,hv390,hv394,rfl,rfl⟩:=hR385
    have hS387:=Sep.no2 hS386
    simp only [qpc,jd,f285,zr,qf,ka,zy,zi,Nat.reduceAdd,Nat.zero_add,Nat.add_zero,qu,ze,B0,reduceIte,reduceEqDiff]
    refine qm (v:=v388) ((SlG.ld (o:=2) hv384 rfl hx379 hS387 (Nat.le_of_ble_eq_true rfl)).trans rfl) ?_
    obtain ⟨c396,cs397,os398,hv399,hR400,hS401⟩:=SlG.opn (SlN.toG hv362 hb69 Chan.RO.len) hx361 z7 Chan.RO.len (Sep.m3 hS387)
    obtain ⟨v403,c404,hv405,rfl,rfl⟩:=hR400
    have hS402:=Sep.no1 hS401
    simp only [f284,zr,qf,ka,zy,zi,Nat.reduceAdd,Nat.zero_add,Nat.add_zero,qu,ze,B0,reduceIte,reduceEqDiff]
    refine qm (v := .int .i64 ((Chan.mk x314.From x314.To l335).From)) ((SlG.ld (o:=0) hv399 rfl hx361 hS402 (Nat.le_of_ble_eq_true rfl)).trans rfl) ?_
    obtain ⟨x407,hx408,hF409⟩:=qg hF380
    simp only [jo,B0,reduceIte,reduceEqDiff]
    obtain ⟨b410,hb411⟩:=SlF.isrow hv390 (jq hx408)
    refine qm (SlF.ia hv390 hb411 hx408) ?_
    simp only [ze,B0,reduceIte,reduceEqDiff]
    refine qm (v := .int .i64 x407) ((SlF.ld (o:=0) hv390 (Sep.m3 hS402) hb411 hx408 (fun _=>rfl) (Nat.le_of_ble_eq_true rfl)).trans rfl) ?_
    simp only [f286,zr,qf,kn,yz,jo,B0,reduceIte,reduceEqDiff]
    refine qm (SlF.ia hv390 hb411 hx408) ?_
    simp only [xj,B0,reduceIte,reduceEqDiff]
    refine uv (f:=cI) (x':=(IntKind.wrap .i64 (x407+x154))) (o:=0) hv390 (Sep.m3 hS402) hW hb411 hx408 (fun _=>rfl) rfl rfl (Nat.le_of_ble_eq_true rfl) rfl
      (fun c414 h412 hv415 hS413=>?_)
    have hx416:=j7 (x':=(IntKind.wrap .i64 (x407+x154))) hx408
    simp only [qs,qo,B0,reduceIte,reduceEqDiff]
    obtain ⟨c417,hv418,hS419⟩:=SlG.cls0 (c:=c396) (os:=c404) hv399 rfl hx361 z7 (Chan.RI (x:=(Chan.mk x314.From x314.To l335)) hv405) (Sep.m2 (Sep.m2 hS413))
    have hv420:=SlG.toN hv418
    obtain ⟨c421,hv422,hS423⟩:=SlG.cls (e':=(Picture.mk x378.Taken x378.Amount (List.set x378.In ((Chan.mk x314.From x314.To l335).From).toNat (IntKind.wrap .i64
      (x407+x154))) x378.Closed)) (c:=c381) (os:=c414++(c393)) hv384 rfl hx379 z7 (Picture.RI (x:=(Picture.mk x378.Taken x378.Amount (List.set x378.In
      ((Chan.mk x314.From x314.To l335).From).toNat (IntKind.wrap .i64 (x407+x154))) x378.Closed)) hv415 hv394) (Sep.ni2 (c1:=c414) (c2:=c393) (Sep.m3 (Sep.m2
      (Sep.m3 hS419))))
    have hx424:=j7 (x':=(Picture.mk x378.Taken x378.Amount (List.set x378.In ((Chan.mk x314.From x314.To l335).From).toNat (IntKind.wrap .i64
      (x407+x154))) x378.Closed)) hx379
    have hv425:=SlG.toN hv422
    have e426:=qk hF409
    subst e426
    exact hN374 _ _ ⟨c417,c421,f284,f285,f286,hv420,hv425,(Sep.m3 (Sep.m2 (Sep.m3 (Sep.m2 (Sep.dc (Sep.m3 hS423))))))⟩
   ·rw [iteF hc377] at hX370
    simp only [zg,qo,B0,reduceIte,reduceEqDiff]
    have e427:=qk hX370
    subst e427
    exact hN374 _ _ ⟨c358,c303,f284,f285,f286,hv362,hv304,(Sep.m3 (Sep.m3 (Sep.m2 (Sep.m1 (Sep.dc (Sep.m2 hS360))))))⟩
   rintro fr428 h429 ⟨c364,c367,f431,f432,f433,hv365,hv368,hS430⟩
   obtain ⟨s363,s366⟩:=sv372
   dsimp only at *
   unfold qf5 at hk371
   simp only [qns,qd,qc,f433,qe,zf,qb,wi,qa,qnn,zc,B0,reduceIte,reduceEqDiff]
   refine zb (t:=(decide (x154=0))) (fun hc434=>?_) (fun hc434=>?_)
   ·rw [iteT hc434] at hk371
    obtain ⟨x435,hx436,hF437⟩:=qg hk371
    obtain ⟨c438,cs439,os440,hv441,hR442,hS443⟩:=SlG.opn (SlN.toG hv368 hb85 Picture.RO.len) hx436 z7 Picture.RO.len (Sep.m1 hS430)
    obtain ⟨v445,c446,v449,c450,hv447,hv451,rfl,rfl⟩:=hR442
    have hS444:=Sep.no2 hS443
    simp only [qpz,jd,f432,zr,qf,ka,zy,zi,Nat.reduceAdd,Nat.zero_add,Nat.add_zero,qu,ze,B0,reduceIte,reduceEqDiff]
    refine qm (v:=v449) ((SlG.ld (o:=3) hv441 rfl hx436 hS444 (Nat.le_of_ble_eq_true rfl)).trans rfl) ?_
    obtain ⟨x453,hx454,hF455⟩:=qg hF437
    obtain ⟨c456,cs457,os458,hv459,hR460,hS461⟩:=SlG.opn (SlN.toG hv365 hb69 Chan.RO.len) hx454 z7 Chan.RO.len (Sep.m3 hS444)
    obtain ⟨v463,c464,hv465,rfl,rfl⟩:=hR460
    have hS462:=Sep.no1 hS461
    simp only [f431,zr,qf,ka,zy,zi,Nat.reduceAdd,Nat.zero_add,Nat.add_zero,qu,ze,B0,reduceIte,reduceEqDiff]
    refine qm (v := .int .i64 x453.From) ((SlG.ld (o:=0) hv459 rfl hx454 hS462 (Nat.le_of_ble_eq_true rfl)).trans rfl) ?_
    obtain ⟨x467,hx468,hF469⟩:=qg hF455
    simp only [jo,B0,reduceIte,reduceEqDiff]
    obtain ⟨b470,hb471⟩:=SlF.isrow hv451 (jq hx468)
    refine qm (SlF.ia hv451 hb471 hx468) ?_
    simp only [xj,B0,reduceIte,reduceEqDiff]
    refine uv (f:=cB) (x':=true) (o:=0) hv451 (Sep.m4 hS462) hW hb471 hx468 (fun _=>rfl) rfl rfl (Nat.le_of_ble_eq_true rfl) rfl
      (fun c474 h472 hv475 hS473=>?_)
    have hx476:=j7 (x':=true) hx468
    simp only [qs,qd,qc,qe,qa,qz,B0,reduceIte,reduceEqDiff]
    obtain ⟨c477,hv478,hS479⟩:=SlG.cls0 (c:=c456) (os:=c464) hv459 rfl hx454 z7 (Chan.RI (x:=x453) hv465) (Sep.m2 (Sep.m2 hS473))
    have hv480:=SlG.toN hv478
    obtain ⟨c481,hv482,hS483⟩:=SlG.cls (e':=(Picture.mk x435.Taken x435.Amount x435.In (List.set x435.Closed x453.From.toNat true))) (c:=c438) (os:=c446 ++
      (c474)) hv441 rfl hx436 z7 (Picture.RI (x:=(Picture.mk x435.Taken x435.Amount x435.In (List.set x435.Closed x453.From.toNat true))) hv447 hv475) (Sep.ni2
      (c1:=c446) (c2:=c474) (Sep.m3 (Sep.m3 (Sep.m1 hS479))))
    have hx484:=j7 (x':=(Picture.mk x435.Taken x435.Amount x435.In (List.set x435.Closed x453.From.toNat true))) hx436
    have hv485:=SlG.toN hv482
    have he:=qk hF469
    subst he
    simp only [zl,B0,reduceIte,reduceEqDiff]
    exact ⟨c355,c477,c481,by first | trivial | rfl,hv356,hv480,hv485,(Sep.m3 (Sep.m3 (Sep.m1 hS483)))⟩
   rw [iteF hc434] at hk371
   simp only [zg,qd,qc,qe,qa,qz,B0,reduceIte,reduceEqDiff]
   have he:=qk hk371
   subst he
   simp only [zl,B0,reduceIte,reduceEqDiff]
   exact ⟨c355,c364,c367,by first | trivial | rfl,hv356,hv365,hv368,(Sep.m3 (Sep.m3 (Sep.m1 (Sep.m1 hS430))))⟩
  rw [iteF hg291] at hF226
  simp only [hg291,qn (g:=199),ud,f288,hg258,qn (g:=189),q8,z8,qf,zq,qs,zc,qpk,
    zg,qmp,qd,qc,f284,qe,kx,evp,B0,reduceIte,reduceEqDiff]
  refine k8 (n:=1) (f:=cI) ([] : List Int) hS290 rfl rfl (fun v487 c488 h489 hv490 hS491=>?_)
  simp only [f284,qe,we,qb,zy,qt,Nat.reduceAdd,Nat.zero_add,Nat.add_zero,qu,qp,B0,reduceIte,reduceEqDiff]
  refine qh (v:=v77) ((SlG.ld (o:=2) hv73 rfl hx66 (Sep.m2 hS491) (Nat.le_of_ble_eq_true rfl)).trans rfl) ?_
  obtain ⟨l493,hx494,hF495⟩:=qg hF226
  simp only [qlo,Option.map_some,Option.map_none,B0,reduceIte,reduceEqDiff]
  obtain ⟨w496,i497,he498,hw499⟩:=SlF.win (f:=cI) (ty:=3) (some (1:Int)) none hv79 hx494 (Sep.m5 hS491)
  refine qh he498 ?_
  simp only [xh,B0,reduceIte,reduceEqDiff]
  obtain ⟨l500,hx501,hF502⟩:=qg hF495
  refine xw (f:=cI) hv490 hS491 hW (fun _=>rfl) (fun _=>rfl) (SlW.first hw499 hv79 (Sep.m5 hS491) (fun _=>rfl)) hx501 (fun v503 c504 h505 hv506 hS507=>?_)
  simp only [we,qb,zy,qt,Nat.reduceAdd,Nat.zero_add,Nat.add_zero,qu,zj,B0,reduceIte,reduceEqDiff]
  refine qfn (us:=[v503]) (o:=2) (cs':=[.int .i64 x65.From,.int .i64 x65.To,
    v503]) (j6 (SlF.one hv506)) hv73 rfl hx66 (Sep.m2 hS507) hW rfl (qi (SlF.one hv506) zk) (Nat.le_of_ble_eq_true rfl) rfl (fun c511 h509 hv512 hS510=>?_)
  simp only [qa,qng,qd,jd,f283,zr,qf,ka,zy,zi,Nat.reduceAdd,Nat.zero_add,Nat.add_zero,qu,ze,B0,reduceIte,
    reduceEqDiff]
  refine qm (v:=pv0_0) ((jj (Sep.bk _ _ _ (Sep.m2 hS510))).trans rfl) ?_
  simp only [f284,zr,qf,ka,zy,zi,Nat.reduceAdd,Nat.zero_add,Nat.add_zero,qu,ze,B0,reduceIte,reduceEqDiff]
  refine qm (v := .int .i64 x65.To) ((SlG.ld (o:=1) hv512 rfl hx66 hS510 (Nat.le_of_ble_eq_true rfl)).trans rfl) ?_
  obtain ⟨x513,hx514,hF515⟩:=qg hF502
  simp only [jo,B0,reduceIte,reduceEqDiff]
  obtain ⟨b516,hb517⟩:=SlF.isrow ph0_0 (jq hx514)
  refine qm (SlF.ia ph0_0 hb517 hx514) ?_
  simp only [ze,B0,reduceIte,reduceEqDiff]
  refine qm (v := .int .i64 x513) ((SlF.ld (o:=0) ph0_0 (Sep.m4 hS510) hb517 hx514 (fun _=>rfl) (Nat.le_of_ble_eq_true rfl)).trans rfl) ?_
  simp only [f286,zr,qf,kn,yz,jo,B0,reduceIte,reduceEqDiff]
  refine qm (SlF.ia ph0_0 hb517 hx514) ?_
  simp only [xj,B0,reduceIte,reduceEqDiff]
  refine uv (f:=cI) (x':=(IntKind.wrap .i64 (x513+x154))) (o:=0) ph0_0 (Sep.m4 hS510) hW hb517 hx514 (fun _=>rfl) rfl rfl (Nat.le_of_ble_eq_true rfl) rfl
    (fun c520 h518 hv521 hS519=>?_)
  have hx522:=j7 (x':=(IntKind.wrap .i64 (x513+x154))) hx514
  simp only [qs,qnf,qd,qc,f287,qe,qa,qpf,zc,B0,reduceIte,reduceEqDiff]
  obtain ⟨c523,hv524,hS525⟩:=SlG.cls (e':=(Chan.mk x65.From x65.To l500)) (c:=c511) (os:=c504) hv512 rfl hx66 z7 (Chan.RI (x :=
    (Chan.mk x65.From x65.To l500)) hv506) (Sep.m2 (Sep.m2 hS519))
  have hx526:=j7 (x':=(Chan.mk x65.From x65.To l500)) hx66
  have hv527:=SlG.toN hv524
  obtain ⟨sv537,hX535,hk536⟩:=qg hF515
  refine u5 (t:=v188) (fun fr' h'=>∃ c529 c532,
    fr' 5 = .ptr b68 (v_1.K.toNat*3)∧fr' 6 = .ptr b84
    (x65.To.toNat*4)∧fr' 7 = .int .i64 x154∧SlN Chan.R 3 74 pv0_1 sv537.1 c529∧SlN Picture.R 4 76 pv0_2 sv537.2 c532∧Sep h' lo (c529++(c532++([Blk1 pb0 [pv0_0,
    pv0_1,pv0_2,.int .i64 v_0.Sent,.int .i64 v_0.Total] 30]++(c520++(S0)))))) (fun Q538 hN539 hR540 hE541=>⟨fun hc542=>?_,fun hc542=>?_⟩) ?_
  ·rw [iteT hc542] at hX535
   obtain ⟨c543,cs544,os545,hv546,hR547,hS548⟩:=SlG.opn (SlN.toG ph0_2 hb85 Picture.RO.len) hx82 z7 Picture.RO.len (Sep.m3 hS525)
   obtain ⟨v550,c551,v554,c555,hv552,hv556,rfl,rfl⟩:=hR547
   have hS549:=Sep.no2 hS548
   simp only [qpc,jd,f285,zr,qf,ka,zy,zi,Nat.reduceAdd,Nat.zero_add,Nat.add_zero,qu,ze,B0,reduceIte,reduceEqDiff]
   refine qm (v:=v550) ((SlG.ld (o:=2) hv546 rfl hx82 hS549 (Nat.le_of_ble_eq_true rfl)).trans rfl) ?_
   obtain ⟨c558,cs559,os560,hv561,hR562,hS563⟩:=SlG.opn (SlN.toG hv527 hb69 Chan.RO.len) hx526 z7 Chan.RO.len (Sep.m3 hS549)
   obtain ⟨v565,c566,hv567,rfl,rfl⟩:=hR562
   have hS564:=Sep.no1 hS563
   simp only [f284,zr,qf,ka,zy,zi,Nat.reduceAdd,Nat.zero_add,Nat.add_zero,qu,ze,B0,reduceIte,reduceEqDiff]
   refine qm (v := .int .i64 ((Chan.mk x65.From x65.To l500).From)) ((SlG.ld (o:=0) hv561 rfl hx526 hS564 (Nat.le_of_ble_eq_true rfl)).trans rfl) ?_
   obtain ⟨x569,hx570,hF571⟩:=qg hX535
   simp only [jo,B0,reduceIte,reduceEqDiff]
   obtain ⟨b572,hb573⟩:=SlF.isrow hv552 (jq hx570)
   refine qm (SlF.ia hv552 hb573 hx570) ?_
   simp only [ze,B0,reduceIte,reduceEqDiff]
   refine qm (v := .int .i64 x569) ((SlF.ld (o:=0) hv552 (Sep.m3 hS564) hb573 hx570 (fun _=>rfl) (Nat.le_of_ble_eq_true rfl)).trans rfl) ?_
   simp only [f286,zr,qf,kn,yz,jo,B0,reduceIte,reduceEqDiff]
   refine qm (SlF.ia hv552 hb573 hx570) ?_
   simp only [xj,B0,reduceIte,reduceEqDiff]
   refine uv (f:=cI) (x':=(IntKind.wrap .i64 (x569+x154))) (o:=0) hv552 (Sep.m3 hS564) hW hb573 hx570 (fun _=>rfl) rfl rfl (Nat.le_of_ble_eq_true rfl) rfl
     (fun c576 h574 hv577 hS575=>?_)
   have hx578:=j7 (x':=(IntKind.wrap .i64 (x569+x154))) hx570
   simp only [qs,qo,B0,reduceIte,reduceEqDiff]
   obtain ⟨c579,hv580,hS581⟩:=SlG.cls0 (c:=c558) (os:=c566) hv561 rfl hx526 z7 (Chan.RI (x:=(Chan.mk x65.From x65.To l500)) hv567) (Sep.m2 (Sep.m2 hS575))
   have hv582:=SlG.toN hv580
   obtain ⟨c583,hv584,hS585⟩:=SlG.cls (e':=(Picture.mk x81.Taken x81.Amount (List.set x81.In ((Chan.mk x65.From x65.To l500).From).toNat (IntKind.wrap .i64
     (x569+x154))) x81.Closed)) (c:=c543) (os:=c576++(c555)) hv546 rfl hx82 z7 (Picture.RI (x:=(Picture.mk x81.Taken x81.Amount (List.set x81.In
     ((Chan.mk x65.From x65.To l500).From).toNat (IntKind.wrap .i64 (x569+x154))) x81.Closed)) hv577 hv556) (Sep.ni2 (c1:=c576) (c2:=c555) (Sep.m3 (Sep.m2
     (Sep.m3 hS581))))
   have hx586:=j7 (x':=(Picture.mk x81.Taken x81.Amount (List.set x81.In ((Chan.mk x65.From x65.To l500).From).toNat (IntKind.wrap .i64
     (x569+x154))) x81.Closed)) hx82
   have hv587:=SlG.toN hv584
   have e588:=qk hF571
   subst e588
   exact hN539 _ _ ⟨c579,c583,f284,f285,f286,hv582,hv587,(Sep.m3 (Sep.m2 (Sep.m3 (Sep.m2 (Sep.dc (Sep.m4 hS585))))))⟩
  ·rw [iteF hc542] at hX535
   simp only [zg,qo,B0,reduceIte,reduceEqDiff]
   have e589:=qk hX535
   subst e589
   exact hN539 _ _ ⟨c523,pc0_2,f284,f285,f286,hv527,ph0_2,(Sep.m3 (Sep.m3 (Sep.m2 (Sep.m1 (Sep.dc (Sep.m4 hS525))))))⟩
  rintro fr590 h591 ⟨c529,c532,f593,f594,f595,hv530,hv533,hS592⟩
  obtain ⟨s528,s531⟩:=sv537
  dsimp only at *
  unfold qf1 at hk536
  simp only [qns,qd,qc,f595,qe,zf,qb,wi,qa,qnn,zc,B0,reduceIte,reduceEqDiff]
  refine zb (t:=(decide (x154=0))) (fun hc596=>?_) (fun hc596=>?_)
  ·rw [iteT hc596] at hk536
   obtain ⟨x597,hx598,hF599⟩:=qg hk536
   obtain ⟨c600,cs601,os602,hv603,hR604,hS605⟩:=SlG.opn (SlN.toG hv533 hb85 Picture.RO.len) hx598 z7 Picture.RO.len (Sep.m1 hS592)
   obtain ⟨v607,c608,v611,c612,hv609,hv613,rfl,rfl⟩:=hR604
   have hS606:=Sep.no2 hS605
   simp only [qpz,jd,f594,zr,qf,ka,zy,zi,Nat.reduceAdd,Nat.zero_add,Nat.add_zero,qu,ze,B0,reduceIte,reduceEqDiff]
   refine qm (v:=v611) ((SlG.ld (o:=3) hv603 rfl hx598 hS606 (Nat.le_of_ble_eq_true rfl)).trans rfl) ?_
   obtain ⟨x615,hx616,hF617⟩:=qg hF599
   obtain ⟨c618,cs619,os620,hv621,hR622,hS623⟩:=SlG.opn (SlN.toG hv530 hb69 Chan.RO.len) hx616 z7 Chan.RO.len (Sep.m3 hS606)
   obtain ⟨v625,c626,hv627,rfl,rfl⟩:=hR622
   have hS624:=Sep.no1 hS623
   simp only [f593,zr,qf,ka,zy,zi,Nat.reduceAdd,Nat.zero_add,Nat.add_zero,qu,ze,B0,reduceIte,reduceEqDiff]
   refine qm (v := .int .i64 x615.From) ((SlG.ld (o:=0) hv621 rfl hx616 hS624 (Nat.le_of_ble_eq_true rfl)).trans rfl) ?_
   obtain ⟨x629,hx630,hF631⟩:=qg hF617
   simp only [jo,B0,reduceIte,reduceEqDiff]
   obtain ⟨b632,hb633⟩:=SlF.isrow hv613 (jq hx630)
   refine qm (SlF.ia hv613 hb633 hx630) ?_
   simp only [xj,B0,reduceIte,reduceEqDiff]
   refine uv (f:=cB) (x':=true) (o:=0) hv613 (Sep.m4 hS624) hW hb633 hx630 (fun _=>rfl) rfl rfl (Nat.le_of_ble_eq_true rfl) rfl (fun c636 h634 hv637 hS635=>?_)
   have hx638:=j7 (x':=true) hx630
   simp only [qs,qd,qc,qe,qa,qz,B0,reduceIte,reduceEqDiff]
   obtain ⟨c639,hv640,hS641⟩:=SlG.cls0 (c:=c618) (os:=c626) hv621 rfl hx616 z7 (Chan.RI (x:=x615) hv627) (Sep.m2 (Sep.m2 hS635))
   have hv642:=SlG.toN hv640
   obtain ⟨c643,hv644,hS645⟩:=SlG.cls (e':=(Picture.mk x597.Taken x597.Amount x597.In (List.set x597.Closed x615.From.toNat true))) (c:=c600) (os:=c608 ++
     (c636)) hv603 rfl hx598 z7 (Picture.RI (x:=(Picture.mk x597.Taken x597.Amount x597.In (List.set x597.Closed x615.From.toNat true))) hv609 hv637) (Sep.ni2
     (c1:=c608) (c2:=c636) (Sep.m3 (Sep.m3 (Sep.m1 hS641))))
   have hx646:=j7 (x':=(Picture.mk x597.Taken x597.Amount x597.In (List.set x597.Closed x615.From.toNat true))) hx598
   have hv647:=SlG.toN hv644
   have he:=qk hF631
   subst he
   simp only [zl,B0,reduceIte,reduceEqDiff]
   exact ⟨c520,c639,c643,by first | trivial | rfl,hv521,hv642,hv647,(Sep.m3 (Sep.m3 (Sep.m1 hS645)))⟩
  rw [iteF hc596] at hk536
  simp only [zg,qd,qc,qe,qa,qz,B0,reduceIte,reduceEqDiff]
  have he:=qk hk536
  subst he
  simp only [zl,B0,reduceIte,reduceEqDiff]
  exact ⟨c520,c529,c532,by first | trivial | rfl,hv521,hv530,hv533,(Sep.m3 (Sep.m3 (Sep.m1 (Sep.m1 hS592))))⟩
 rw [iteF hc148] at hF83
 simp only [zg,uo,qd,qc,qe,qa,qz,B0,reduceIte,reduceEqDiff]
 obtain ⟨c649,hv650,hS651⟩:=SlG.cls0 (c:=c70) (os:=c78) hv73 rfl hx66 z7 (Chan.RI (x:=x65) hv79) (Sep.m1 (Sep.m1 hS76))
 have hv652:=SlG.toN hv650
 have he:=qk hF83
 subst he
 simp only [zl,B0,reduceIte,reduceEqDiff]
 exact ⟨pc0_0,c649,pc0_2,by first | trivial | rfl,ph0_0,hv652,ph0_2,(Sep.m3 (Sep.m3 (Sep.m1 (Sep.m3 hS651))))⟩
end Go.Proofs.Ytpkiieniipenjaa.X
namespace Go.Proofs.Ytpkiieniipenjaa.X
open Go
open Nat (reduceEqDiff)
theorem qhk {W:Nat→Bool}{h:Heap} (hW:∀ b,
  (geL h.length) b→W b=true) (s_0:Snap) (r:Snap) (hF:qax s_0=some r) : Ret E W 48 [.agg [lst cI s_0.Amounts,lst Chan.cells s_0.Chans,
  lst Picture.cells s_0.Pictures,.int .i64 s_0.Sent,.int .i64 s_0.Total]] h (fun v h'=>∃ rv0_0 rc0_0 rv0_1 rc0_1 rv0_2 rc0_2,v = .agg [rv0_0,rv0_1,rv0_2,
  .int .i64 r.Sent,.int .i64 r.Total]∧SlF cI 1 3 rv0_0 r.Amounts rc0_0∧SlN Chan.R 3 74 rv0_1 r.Chans rc0_1∧SlN Picture.R 4 76 rv0_2 r.Pictures rc0_2∧Sep h'
  (geL h.length) (rc0_0++(rc0_1++(rc0_2++([]))))):=by
 refine Ret.of (fn:=x48) rfl (Run.of ?_)
 unfold qax at hF
 have zf0:zh [.agg [lst cI s_0.Amounts,lst Chan.cells s_0.Chans,lst Picture.cells s_0.Pictures,.int .i64 s_0.Sent,.int .i64 s_0.Total]] 0 = .agg [lst cI s_0.Amounts,
   lst Chan.cells s_0.Chans,lst Picture.cells s_0.Pictures,.int .i64 s_0.Sent,.int .i64 s_0.Total]:=rfl
 generalize zh [.agg [lst cI s_0.Amounts,lst Chan.cells s_0.Chans,lst Picture.cells s_0.Pictures,.int .i64 s_0.Sent,.int .i64 s_0.Total]]=fr0 at zf0 ⊢
 have hS:Sep h (geL h.length) []:=Sep.nil h
 simp only [x48,qd,qc,kh,zf0,B0,reduceIte,reduceEqDiff]
 refine jt (cs:=[lst cI s_0.Amounts,lst Chan.cells s_0.Chans,lst Picture.cells s_0.Pictures,.int .i64 s_0.Sent,
   .int .i64 s_0.Total]) hS rfl rfl rfl (fun b1 h2 hS3=>?_)
 simp only [jb,B0,reduceIte,reduceEqDiff]
 refine zv hS3 (fun b5 h6 hS7=>?_)
 simp only [qa,B0,reduceIte,reduceEqDiff]
 refine zw (Sep.m1 hS7) hW (by simp only [B0,reduceIte,reduceEqDiff]) (fun h9 hS10=>?_)
 simp only [zo,qqz,qd,jd,u9,evp,B0,reduceIte,reduceEqDiff]
 refine uh (n:=1) (f:=cI) ([] : List Int) hS10 rfl rfl (fun v11 c12 h13 hv14 hS15=>?_)
 simp only [qkt,B0,reduceIte,reduceEqDiff]
 refine qge hS15 (fun b17 h18 hS19=>?_)
 simp only [zi,qf,Nat.reduceAdd,Nat.zero_add,Nat.add_zero,qr,ze,B0,reduceIte,reduceEqDiff]
 refine qm (v:=lst cI s_0.Amounts) rfl ?_
 simp only [qez,B0,reduceIte,reduceEqDiff]
 obtain ⟨l21,hx22,hF23⟩:=qg hF
 refine qij qgy ?_
 refine qa2 (f:=cI) hv14 (Sep.m1 hS19) hW (fun _=>rfl) (fun _=>rfl) (qaa (fun _=>rfl)) hx22 (fun v24 c25 h26 hv27 hS28=>?_)
 simp only [qdw,qf,Nat.reduceAdd,Nat.zero_add,Nat.add_zero,qr,qbl,qbt,B0,reduceIte,reduceEqDiff]
 refine qm (v := .int .i64 s_0.Sent) rfl ?_
 simp only [qdw,qf,Nat.reduceAdd,Nat.zero_add,Nat.add_zero,qr,qbl,qbt,B0,reduceIte,reduceEqDiff]
 refine qm (v := .int .i64 s_0.Total) rfl ?_
 simp only [qic,evp,B0,reduceIte,reduceEqDiff]
 refine qm (v := .agg [v24,.nil,.nil,.int .i64 s_0.Sent,.int .i64 s_0.Total]) (qdo (qat (us:=[v24]) (vs:=[v24,.nil,.nil,.int .i64 0,
   .int .i64 0]) (j6 (SlF.one hv27)) rfl (Nat.le_of_ble_eq_true rfl) (qi (SlF.one hv27) zk) rfl (qat (us:=[.int .i64 s_0.Sent]) (vs:=[v24,.nil,.nil,
   .int .i64 s_0.Sent,.int .i64 0]) rfl rfl (Nat.le_of_ble_eq_true rfl) rfl rfl (qat (us:=[.int .i64 s_0.Total]) (vs:=[v24,.nil,.nil,.int .i64 s_0.Sent,
   .int .i64 s_0.Total]) rfl rfl (Nat.le_of_ble_eq_true rfl) rfl rfl qeg)))) ?_
 simp only [xj,B0,reduceIte,reduceEqDiff]
 refine qa6 (us:=[v24,.nil,.nil,.int .i64 s_0.Sent,.int .i64 s_0.Total]) rfl (cs':=[v24,.nil,.nil,.int .i64 s_0.Sent,
   .int .i64 s_0.Total]) (Sep.m1 hS28) hW rfl (qi (SlF.one hv27) (qi rfl (qi rfl (qi rfl (qi rfl zk))))) (Nat.le_of_ble_eq_true rfl) rfl (fun h30 hS31=>?_)
 simp only [qs,qv3,qd,qc,qt,qb,Nat.reduceAdd,Nat.zero_add,Nat.add_zero,qr,qp,B0,reduceIte,reduceEqDiff]
 refine qh (v:=lst Chan.cells s_0.Chans) rfl ?_
 simp only [z6,qb,z5,qe,qa,B0,reduceIte,reduceEqDiff]
 obtain ⟨oc44,hX46,hk47⟩:=jp hF23
 simp only [q23]
 refine ko (σ:=Snap) s_0.Chans (fun i42 x43 s107=>qb7 l21 i42 x43 s107) (fun s fr' h'=>∃ v39 c40,fr' 1 = .ref [lst cI s_0.Amounts,
   lst Chan.cells s_0.Chans,lst Picture.cells s_0.Pictures,.int .i64 s_0.Sent,
   .int .i64 s_0.Total] 0∧fr' 2 = .ptr b5 0∧fr' 3 = .ptr b17 0∧fr' 18=lst Chan.cells s_0.Chans∧SlN Chan.R 3 74 v39 s.Chans c40∧Sep h' (geL h.length)
   ([Blk1 b5 [.nil,.nil,.nil,.int .i64 0,.int .i64 0] 30]++([Blk1 b17 [v24,v39,.nil,.int .i64 s.Sent,.int .i64 s.Total] 30]++(c25++(c40++([])))))) hX46 ⟨.nil,
   [],rfl,rfl,rfl,rfl,SlN.nil,((Sep.m2 (Sep.m1 (Sep.m1 hS31))) : Sep _ (geL h.length) ([Blk1 b5 [.nil,.nil,.nil,.int .i64 0,.int .i64 0] 30]++([Blk1 b17 [v24,.nil,
   .nil,.int .i64 s_0.Sent,.int .i64 s_0.Total] 30]++(c25++([])))))⟩ (by simp only [B0,reduceIte,reduceEqDiff]) (by simp only [B0,reduceIte,
   reduceEqDiff]) (fun _ _ _ h=>h) rfl rfl (fun _ _ _ _ h=>h) (fun _ _ _ _ h=>h) (fun _ _ _ _ h=>h) (by decide) ?_ ?_
 ·rintro i42 x43 s37 fr56 h57 hx63 ⟨v39,c40,f59,f60,f61,f62,hv41,hS58⟩ f64 f65 oc45 hF48 hr49 Q50 hN51 hB55 hK52 hR53 hE54
  unfold qb7 at hF48
  simp only [q0v,qd,qc,f62,f64,jg,B0,reduceIte,reduceEqDiff]
  refine qh (v := .ref (Chan.cells x43) 0) (kp hx63 rfl) ?_
  simp only [qp,B0,reduceIte,reduceEqDiff]
  refine qh (v := .agg [.int .i64 x43.From,.int .i64 x43.To,lst cI x43.Way]) rfl ?_
  simp only [jb,B0,reduceIte,reduceEqDiff]
  refine zv hS58 (fun b66 h67 hS68=>?_)
  simp only [zj,B0,reduceIte,reduceEqDiff]
  refine qx (us:=[.int .i64 x43.From,.int .i64 x43.To,lst cI x43.Way]) rfl (cs':=[.int .i64 x43.From,.int .i64 x43.To,
    lst cI x43.Way]) hS68 hW rfl rfl (Nat.le_of_ble_eq_true rfl) rfl (fun h70 hS71=>?_)
  simp only [qa,q2m,qd,qc,kx,evp,B0,reduceIte,reduceEqDiff]
  refine k8 (n:=1) (f:=cI) ([] : List Int) hS71 rfl rfl (fun v72 c73 h74 hv75 hS76=>?_)
  simp only [qt,qb,Nat.reduceAdd,Nat.zero_add,Nat.add_zero,qu,qp,B0,reduceIte,reduceEqDiff]
  refine qh (v:=lst cI x43.Way) ((jj (Sep.bk _ _ _ (Sep.m1 hS76))).trans rfl) ?_
  simp only [xh,B0,reduceIte,reduceEqDiff]
  obtain ⟨l78,hx79,hF80⟩:=qg hF48
  refine xw (f:=cI) hv75 hS76 hW (fun _=>rfl) (fun _=>rfl) (qaa (fun _=>rfl)) hx79 (fun v81 c82 h83 hv84 hS85=>?_)
  simp only [qt,qb,Nat.reduceAdd,Nat.zero_add,Nat.add_zero,qu,zj,B0,reduceIte,reduceEqDiff]
  refine qx (us:=[v81]) (j6 (SlF.one hv84)) (cs':=[.int .i64 x43.From,.int .i64 x43.To,
    v81]) (Sep.m1 hS85) hW rfl (qi (SlF.one hv84) zk) (Nat.le_of_ble_eq_true rfl) rfl (fun h87 hS88=>?_)
  simp only [qa,q5a,qc,f61,qt,qb,Nat.reduceAdd,Nat.zero_add,Nat.add_zero,qu,qp,B0,reduceIte,reduceEqDiff]
  refine qh (v:=v39) ((jj (Sep.bk _ _ _ (Sep.m3 hS88))).trans rfl) ?_
  simp only [qp,B0,reduceIte,reduceEqDiff]
  refine qh (v := .agg [.int .i64 x43.From,.int .i64 x43.To,v81]) ((z0 (Sep.bk _ _ _ hS88)).trans rfl) ?_
  simp only [kx,evp,B0,reduceIte,reduceEqDiff]
  refine qal (R:=Chan.R) (n:=3) (cs:=[.int .i64 x43.From,.int .i64 x43.To,v81]) (os:=c82) (Sep.m1 hS88) (qat (us:=[.int .i64 x43.From,.int .i64 x43.To,
    v81]) (vs:=[.int .i64 x43.From,.int .i64 x43.To,
    v81]) rfl rfl (Nat.le_of_ble_eq_true rfl) (qi rfl (qi rfl (qi (SlF.one hv84) zk))) rfl qeg) (Chan.RI (x:=(Chan.mk x43.From x43.To l78)) hv84) rfl
    (fun v89 c90 h91 hv92 hS93=>?_)
  simp only [xh,B0,reduceIte,reduceEqDiff]
  obtain ⟨l95,hx96,hF97⟩:=qg hF80
  refine qcz (R:=Chan.R) (c:=c40) hv41 hv92 (Sep.m5 hS93) hW Chan.RO.len Chan.RO.one hx96 (fun v98 c99 h100 hv101 hS102=>?_)
  simp only [f61,qt,qb,Nat.reduceAdd,Nat.zero_add,Nat.add_zero,qu,zj,B0,reduceIte,reduceEqDiff]
  refine qx (us:=[v98]) (j6 (SlN.one hv101)) (cs':=[v24,v98,.nil,.int .i64 s37.Sent,
    .int .i64 s37.Total]) (Sep.m3 hS102) hW rfl (qi (SlN.one hv101) zk) (Nat.le_of_ble_eq_true rfl) rfl (fun h104 hS105=>?_)
  simp only [qa,qo,B0,reduceIte,reduceEqDiff]
  have e106:=qk hF97
  exact hN51 _ _ _ e106.symm ⟨v98,c99,f59,f60,f61,f62,hv101,(Sep.m3 (Sep.m2 (Sep.m3 (Sep.m1 (Sep.dc (Sep.m2 hS105))))))⟩ (f64) (f65)
 rintro s108 fr113 h114 rfl ⟨v110,c111,f116,f117,f118,f119,hv112,hS115⟩
 dsimp only [jnO] at hk47
 unfold qd4 at hk47
 simp only [qu6,qd,qc,f116,qt,qb,Nat.reduceAdd,Nat.zero_add,Nat.add_zero,qr,qp,B0,reduceIte,reduceEqDiff]
 refine qh (v:=lst Picture.cells s_0.Pictures) rfl ?_
 simp only [z6,qb,z5,qe,qa,B0,reduceIte,reduceEqDiff]
 obtain ⟨oc132,hX134,hk135⟩:=jp hk47
 simp only [qsf]
 refine ko (σ:=Snap) s_0.Pictures (fun i130 x131 s211=>qca l21 s108 i130 x131 s211) (fun s fr' h'=>∃ v127 c128,
   fr' 2 = .ptr b5 0∧fr' 3 = .ptr b17 0∧fr' 37=lst Picture.cells s_0.Pictures∧SlN Picture.R 4 76 v127 s.Pictures c128∧Sep h' (geL h.length) ([Blk1 b5 [.nil,.nil,
   .nil,.int .i64 0,.int .i64 0] 30]++([Blk1 b17 [v24,v110,v127,.int .i64 s.Sent,.int .i64 s.Total] 30]++(c25++(c111++(c128++([]))))))) hX134 ⟨.nil,[],f117,
   f118,rfl,SlN.nil,((Sep.m3 (Sep.m3 (Sep.m3 (Sep.m3 hS115)))) : Sep _ (geL h.length) ([Blk1 b5 [.nil,.nil,.nil,.int .i64 0,.int .i64 0] 30]++([Blk1 b17 [v24,v110,
   .nil,.int .i64 s108.Sent,.int .i64 s108.Total] 30]++(c25++(c111++([]))))))⟩ (by simp only [B0,reduceIte,reduceEqDiff]) (by simp only [B0,reduceIte,
   reduceEqDiff]) (fun _ _ _ h=>h) rfl rfl (fun _ _ _ _ h=>h) (fun _ _ _ _ h=>h) (fun _ _ _ _ h=>h) (by decide) ?_ ?_
 ·rintro i130 x131 s125 fr144 h145 hx150 ⟨v127,c128,f147,f148,f149,hv129,hS146⟩ f151 f152 oc133 hF136 hr137 Q138 hN139 hB143 hK140 hR141 hE142
  unfold qca at hF136
  simp only [q45,qd,qc,f149,f151,jg,B0,reduceIte,reduceEqDiff]
  refine qh (v := .ref (Picture.cells x131) 0) (kp hx150 rfl) ?_
  simp only [qp,B0,reduceIte,reduceEqDiff]
  refine qh (v := .agg [.bool x131.Taken,.int .i64 x131.Amount,lst cI x131.In,lst cB x131.Closed]) rfl ?_
  simp only [jb,B0,reduceIte,reduceEqDiff]
  refine zv hS146 (fun b153 h154 hS155=>?_)
  simp only [zj,B0,reduceIte,reduceEqDiff]
  refine qx (us:=[.bool x131.Taken,.int .i64 x131.Amount,lst cI x131.In,lst cB x131.Closed]) rfl (cs':=[.bool x131.Taken,.int .i64 x131.Amount,lst cI x131.In,
    lst cB x131.Closed]) hS155 hW rfl rfl (Nat.le_of_ble_eq_true rfl) rfl (fun h157 hS158=>?_)
  simp only [qa,q4r,qd,qc,kx,evp,B0,reduceIte,reduceEqDiff]
  refine k8 (n:=1) (f:=cI) ([] : List Int) hS158 rfl rfl (fun v159 c160 h161 hv162 hS163=>?_)
  simp only [qt,qb,Nat.reduceAdd,Nat.zero_add,Nat.add_zero,qu,qp,B0,reduceIte,reduceEqDiff]
  refine qh (v:=lst cI x131.In) ((jj (Sep.bk _ _ _ (Sep.m1 hS163))).trans rfl) ?_
  simp only [xh,B0,reduceIte,reduceEqDiff]
  obtain ⟨l165,hx166,hF167⟩:=qg hF136
  refine xw (f:=cI) hv162 hS163 hW (fun _=>rfl) (fun _=>rfl) (qaa (fun _=>rfl)) hx166 (fun v168 c169 h170 hv171 hS172=>?_)
  simp only [qt,qb,Nat.reduceAdd,Nat.zero_add,Nat.add_zero,qu,zj,B0,reduceIte,reduceEqDiff]
  refine qx (us:=[v168]) (j6 (SlF.one hv171)) (cs':=[.bool x131.Taken,.int .i64 x131.Amount,v168,
    lst cB x131.Closed]) (Sep.m1 hS172) hW rfl (qi (SlF.one hv171) zk) (Nat.le_of_ble_eq_true rfl) rfl (fun h174 hS175=>?_)
  simp only [qa,qy1,qd,qc,kx,evp,B0,reduceIte,reduceEqDiff]
  refine k8 (n:=1) (f:=cB) ([] : List Bool) hS175 rfl rfl (fun v176 c177 h178 hv179 hS180=>?_)
  simp only [qt,qb,Nat.reduceAdd,Nat.zero_add,Nat.add_zero,qu,qp,B0,reduceIte,reduceEqDiff]
  refine qh (v:=lst cB x131.Closed) ((jj (Sep.bk _ _ _ (Sep.m1 hS180))).trans rfl) ?_
  simp only [xh,B0,reduceIte,reduceEqDiff]
  obtain ⟨l182,hx183,hF184⟩:=qg hF167
  refine xw (f:=cB) hv179 hS180 hW (fun _=>rfl) (fun _=>rfl) (qaa (fun _=>rfl)) hx183 (fun v185 c186 h187 hv188 hS189=>?_)
  simp only [qt,qb,Nat.reduceAdd,Nat.zero_add,Nat.add_zero,qu,zj,B0,reduceIte,reduceEqDiff]
  refine qx (us:=[v185]) (j6 (SlF.one hv188)) (cs':=[.bool x131.Taken,.int .i64 x131.Amount,v168,
    v185]) (Sep.m1 hS189) hW rfl (qi (SlF.one hv188) zk) (Nat.le_of_ble_eq_true rfl) rfl (fun h191 hS192=>?_)
  simp only [qa,q08,qc,f148,qt,qb,Nat.reduceAdd,Nat.zero_add,Nat.add_zero,qu,qp,B0,reduceIte,reduceEqDiff]
  refine qh (v:=v127) ((jj (Sep.bk _ _ _ (Sep.m4 hS192))).trans rfl) ?_
  simp only [qp,B0,reduceIte,reduceEqDiff]
  refine qh (v := .agg [.bool x131.Taken,.int .i64 x131.Amount,v168,v185]) ((z0 (Sep.bk _ _ _ hS192)).trans rfl) ?_
  simp only [kx,evp,B0,reduceIte,reduceEqDiff]
  refine qal (R:=Picture.R) (n:=4) (cs:=[.bool x131.Taken,.int .i64 x131.Amount,v168,
    v185]) (os:=c169++(c186)) (Sep.bi2 (c1:=c169) (c2:=c186) (Sep.m2 (Sep.m1 hS192))) (qat (us:=[.bool x131.Taken,.int .i64 x131.Amount,v168,
    v185]) (vs:=[.bool x131.Taken,.int .i64 x131.Amount,v168,
    v185]) rfl rfl (Nat.le_of_ble_eq_true rfl) (qi rfl (qi rfl (qi (SlF.one hv171) (qi (SlF.one hv188) zk)))) rfl qeg) (Picture.RI (x :=
    (Picture.mk x131.Taken x131.Amount l165 l182)) hv171 hv188) rfl (fun v193 c194 h195 hv196 hS197=>?_)
  simp only [xh,B0,reduceIte,reduceEqDiff]
  obtain ⟨l199,hx200,hF201⟩:=qg hF184
  refine qcz (R:=Picture.R) (c:=c128) hv129 hv196 (Sep.m6 hS197) hW Picture.RO.len Picture.RO.one hx200 (fun v202 c203 h204 hv205 hS206=>?_)
  simp only [f148,qt,qb,Nat.reduceAdd,Nat.zero_add,Nat.add_zero,qu,zj,B0,reduceIte,reduceEqDiff]
  refine qx (us:=[v202]) (j6 (SlN.one hv205)) (cs':=[v24,v110,v202,.int .i64 s125.Sent,
    .int .i64 s125.Total]) (Sep.m3 hS206) hW rfl (qi (SlN.one hv205) zk) (Nat.le_of_ble_eq_true rfl) rfl (fun h208 hS209=>?_)
  simp only [qa,qo,B0,reduceIte,reduceEqDiff]
  have e210:=qk hF201
  exact hN139 _ _ _ e210.symm ⟨v202,c203,f147,f148,f149,hv205,(Sep.m4 (Sep.m3 (Sep.m4 (Sep.m4 (Sep.m1 (Sep.dc (Sep.m2 hS209)))))))⟩ (f151) (f152)
 rintro s212 fr217 h218 rfl ⟨v214,c215,f220,f221,f222,hv216,hS219⟩
 dsimp only [jnO] at hk135
 unfold qgt at hk135
 simp only [qd,qc,f221,qp,B0,reduceIte,reduceEqDiff]
 refine qh (v := .agg [v24,v110,v214,.int .i64 s212.Sent,.int .i64 s212.Total]) ((z0 (Sep.bk _ _ _ (Sep.m1 hS219))).trans rfl) ?_
 simp only [f220,zj,B0,reduceIte,reduceEqDiff]
 refine qx (us:=[v24,v110,v214,.int .i64 s212.Sent,.int .i64 s212.Total]) rfl (cs':=[v24,v110,v214,.int .i64 s212.Sent,
   .int .i64 s212.Total]) hS219 hW rfl (qi (SlF.one hv27) (qi (SlN.one hv112) (qi (SlN.one hv216) (qi rfl (qi rfl zk))))) (Nat.le_of_ble_eq_true rfl) rfl
   (fun h223 hS224=>?_)
 simp only [qa,qz,B0,reduceIte,reduceEqDiff]
 have he:=qk hk135
 subst he
 refine ua (bb:=b5) (oo:=0) (v := .agg [v24,v110,v214,.int .i64 s212.Sent,.int .i64 s212.Total]) (by simp only [f220,B0,reduceIte,
   reduceEqDiff]) ((z0 (Sep.bk _ _ _ hS224)).trans rfl) ?_
 exact ⟨v24,c25,v110,c111,v214,c215,by first | trivial | rfl,hv27,hv112,hv216,(Sep.m2 (Sep.m2 (Sep.m2 (Sep.dc ((Sep.dc (hS224)))))))⟩
theorem qfu {W:Nat→Bool}{h:Heap} (hW:∀ b,
  (geL h.length) b→W b=true) (s_0:List Picture) {g1:Nat} {caps1:List XV} (hm1:E.mode g1=1) (f_1:Picture→Option Bool) (hf1:∀ (W:Nat→Bool) (h:Heap),
  (∀ b,h.length≤b→W b=true)→∀ a0 r,f_1 a0=some r→Ret E W g1 ([.agg [.bool a0.Taken,.int .i64 a0.Amount,lst cI a0.In,
  lst cB a0.Closed]]++caps1) h (fun v h'=>cut h.length h' E.sz false 9 v=some (.bool r))) (r:Int)
  (hF:uc s_0 f_1=some r) : Ret E W 79 [lst Picture.cells s_0,.fn g1 caps1] h (fun v h'=>cut h.length h' E.sz false 9 v=some (.int .i64 r)):=by
 refine Ret.of (fn:=x79) rfl (Run.of ?_)
 unfold uc at hF
 have zf0:zh [lst Picture.cells s_0,.fn g1 caps1] 0=lst Picture.cells s_0:=rfl
 have zf1:zh [lst Picture.cells s_0,.fn g1 caps1] 1 = .fn g1 caps1:=rfl
 generalize zh [lst Picture.cells s_0,.fn g1 caps1]=fr0 at zf0 zf1 ⊢
 have hS:Sep h (geL h.length) []:=Sep.nil h
 simp only [x79,qd,qc,qe,qa,qyn,zf0,z6,qb,z5,B0,reduceIte,reduceEqDiff]
 obtain ⟨oc3,hX5,hk6⟩:=jp hF
 simp only [q2g]
 refine ko (σ:=Unit) s_0 (fun i1 x2 _=>y5 f_1 i1 x2 ) (fun s fr' h'=>fr' 0=lst Picture.cells s_0∧fr' 1 = .fn g1 caps1∧Sep h'
   (geL h.length) ([])) hX5 ⟨zf0,zf1,hS⟩ (by simp only [B0,reduceIte,reduceEqDiff]) (by simp only [B0,reduceIte,
   reduceEqDiff]) (fun _ _ _ h=>h) rfl rfl (fun _ _ _ _ h=>h) (fun _ _ _ _ h=>h) (fun _ _ _ _ h=>h) (by decide) ?_ ?_
 ·rintro i1 x2 _ fr15 h16 hx20 ⟨f18,f19,hS17⟩ f21 f22 oc4 hF7 hr8 Q9 hN10 hB14 hK11 hR12 hE13
  unfold y5 at hF7
  simp only [q3z,qd,qc,f21,qe,qa,qx7,f19,f18,jg,B0,reduceIte,reduceEqDiff]
  refine qh (v := .ref (Picture.cells x2) 0) (kp hx20 rfl) ?_
  simp only [qp,B0,reduceIte,reduceEqDiff]
  refine qh (v := .agg [.bool x2.Taken,.int .i64 x2.Amount,lst cI x2.In,lst cB x2.Closed]) rfl ?_
  obtain ⟨v23,hx24,hF25⟩:=qg hF7
  simp only [zd,B0,reduceIte,reduceEqDiff]
  refine j5 hm1 (qj (ji (qj qea (qj qq (qj zm (qj zm q9))))) q9) (hf1 _ _ (fun b hb=>decide_eq_true hb) x2 v23 hx24) ?_
  simp only [qa,q40,zc,B0,reduceIte,reduceEqDiff]
  refine zb (t:=v23) (fun hc26=>?_) (fun hc26=>?_)
  ·rw [iteT hc26] at hF25
   simp only [qd,qc,qe,qa,qz,B0,reduceIte,reduceEqDiff]
   have e27:=qk hF25
   subst e27
   have ho28:=hr8 _ rfl
   have hk29:=hk6
   rw [ho28] at hk29
   dsimp only [jnO] at hk29
   apply hR12
   have he:=qk hk29
   subst he
   simp only [zl,B0,reduceIte,reduceEqDiff]
   exact rfl
  rw [iteF hc26] at hF25
  simp only [zg,qo,B0,reduceIte,reduceEqDiff]
  have e30:=qk hF25
  exact hN10 _ _ _ e30.symm ⟨f18,f19,hS17⟩ (f21) (f22)
 rintro _ fr32 h33 rfl ⟨f35,f36,hS34⟩
 dsimp only [jnO] at hk6
 unfold qb2 at hk6
 simp only [qd,qc,qe,qa,qz,B0,reduceIte,reduceEqDiff]
 have he:=qk hk6
 subst he
 simp only [zl,B0,reduceIte,reduceEqDiff]
 exact rfl
theorem qey {W:Nat→Bool}{h:Heap} (hW:∀ b,
  (geL h.length) b→W b=true) (s_0:List Picture) {g1:Nat} {caps1:List XV} (hm1:E.mode g1=1) (f_1:Picture→Option Bool) (hf1:∀ (W:Nat→Bool) (h:Heap),
  (∀ b,h.length≤b→W b=true)→∀ a0 r,f_1 a0=some r→Ret E W g1 ([.agg [.bool a0.Taken,.int .i64 a0.Amount,lst cI a0.In,
  lst cB a0.Closed]]++caps1) h (fun v h'=>cut h.length h' E.sz false 9 v=some (.bool r))) (r:Bool)
  (hF:y6 s_0 f_1=some r) : Ret E W 49 [lst Picture.cells s_0,.fn g1 caps1] h (fun v h'=>cut h.length h' E.sz false 9 v=some (.bool r)):=by
 refine Ret.of (fn:=x49) rfl (Run.of ?_)
 unfold y6 at hF
 have zf0:zh [lst Picture.cells s_0,.fn g1 caps1] 0=lst Picture.cells s_0:=rfl
 have zf1:zh [lst Picture.cells s_0,.fn g1 caps1] 1 = .fn g1 caps1:=rfl
 generalize zh [lst Picture.cells s_0,.fn g1 caps1]=fr0 at zf0 zf1 ⊢
 have hS:Sep h (geL h.length) []:=Sep.nil h
 obtain ⟨v1,hx2,hF3⟩:=qg hF
 simp only [x49,qd,qc,qe,qa,qyf,zf0,zf1,zd,B0,reduceIte,reduceEqDiff]
 refine j5 rfl (qj zm (qj qhw q9)) (qfu (fun b hb=>decide_eq_true hb) s_0 (g1:=g1) (caps1:=caps1) hm1 f_1 hf1 v1 hx2) ?_
 simp only [zf,qb,qja,qe,qa,qz,B0,reduceIte,reduceEqDiff]
 have he:=qk hF3
 subst he
 simp only [zl,B0,reduceIte,reduceEqDiff]
 exact rfl
theorem qiv {W:Nat→Bool}{h:Heap} (hW:∀ b,
  (geL h.length) b→W b=true) (p_0:Picture) (r:Bool) (hF:some (xa p_0)=some r) : Ret E W 50 [.agg [.bool p_0.Taken,.int .i64 p_0.Amount,
  lst cI p_0.In,lst cB p_0.Closed]] h (fun v h'=>cut h.length h' E.sz false 9 v=some (.bool r)):=by
 refine Ret.of (fn:=x50) rfl (Run.of ?_)
 unfold xa at hF
 have zf0:zh [.agg [.bool p_0.Taken,.int .i64 p_0.Amount,lst cI p_0.In,lst cB p_0.Closed]] 0 = .agg [.bool p_0.Taken,.int .i64 p_0.Amount,lst cI p_0.In,
   lst cB p_0.Closed]:=rfl
 generalize zh [.agg [.bool p_0.Taken,.int .i64 p_0.Amount,lst cI p_0.In,lst cB p_0.Closed]]=fr0 at zf0 ⊢
 have hS:Sep h (geL h.length) []:=Sep.nil h
 simp only [x50,qd,qc,kh,zf0,B0,reduceIte,reduceEqDiff]
 refine jt (cs:=[.bool p_0.Taken,.int .i64 p_0.Amount,lst cI p_0.In,lst cB p_0.Closed]) hS rfl rfl rfl (fun b1 h2 hS3=>?_)
 simp only [qe,qa,B0,reduceIte,reduceEqDiff]
 refine zw hS3 hW (by simp only [B0,reduceIte,reduceEqDiff]) (fun h5 hS6=>?_)
 simp only [zo,qd,qc,qt,qb,Nat.reduceAdd,Nat.zero_add,Nat.add_zero,qr,qp,B0,reduceIte,reduceEqDiff]
 refine qh (v := .bool p_0.Taken) rfl ?_
 simp only [qe,qa,qz,B0,reduceIte,reduceEqDiff]
 have he:=qk hF
 subst he
 simp only [zl,B0,reduceIte,reduceEqDiff]
 exact rfl
theorem qg5 {W:Nat→Bool}{h:Heap} (hW:∀ b,
  (geL h.length) b→W b=true) (s_0:List Chan) {g1:Nat} {caps1:List XV} (hm1:E.mode g1=1) (f_1:Chan→Option Bool) (hf1:∀ (W:Nat→Bool) (h:Heap),(∀ b,
  h.length≤b→W b=true)→∀ a0 r,f_1 a0=some r→Ret E W g1 ([.agg [.int .i64 a0.From,.int .i64 a0.To,
  lst cI a0.Way]]++caps1) h (fun v h'=>cut h.length h' E.sz false 9 v=some (.bool r))) (r:Int)
  (hF:yh s_0 f_1=some r) : Ret E W 51 [lst Chan.cells s_0,.fn g1 caps1] h (fun v h'=>cut h.length h' E.sz false 9 v=some (.int .i64 r)):=by
 refine Ret.of (fn:=x51) rfl (Run.of ?_)
 unfold yh at hF
 have zf0:zh [lst Chan.cells s_0,.fn g1 caps1] 0=lst Chan.cells s_0:=rfl
 have zf1:zh [lst Chan.cells s_0,.fn g1 caps1] 1 = .fn g1 caps1:=rfl
 generalize zh [lst Chan.cells s_0,.fn g1 caps1]=fr0 at zf0 zf1 ⊢
 have hS:Sep h (geL h.length) []:=Sep.nil h
 simp only [x51,qd,qc,qe,qa,qzw,zf0,z6,qb,z5,B0,reduceIte,reduceEqDiff]
 obtain ⟨oc3,hX5,hk6⟩:=jp hF
 simp only [q2k]
 refine ko (σ:=Unit) s_0 (fun i1 x2 _=>yg f_1 i1 x2 ) (fun s fr' h'=>fr' 0=lst Chan.cells s_0∧fr' 1 = .fn g1 caps1∧Sep h' (geL h.length)
   ([])) hX5 ⟨zf0,zf1,hS⟩ (by simp only [B0,reduceIte,reduceEqDiff]) (by simp only [B0,reduceIte,
   reduceEqDiff]) (fun _ _ _ h=>h) rfl rfl (fun _ _ _ _ h=>h) (fun _ _ _ _ h=>h) (fun _ _ _ _ h=>h) (by decide) ?_ ?_
 ·rintro i1 x2 _ fr15 h16 hx20 ⟨f18,f19,hS17⟩ f21 f22 oc4 hF7 hr8 Q9 hN10 hB14 hK11 hR12 hE13
  unfold yg at hF7
  simp only [q0q,qd,qc,f21,qe,qa,q33,f19,f18,jg,B0,reduceIte,reduceEqDiff]
  refine qh (v := .ref (Chan.cells x2) 0) (kp hx20 rfl) ?_
  simp only [qp,B0,reduceIte,reduceEqDiff]
  refine qh (v := .agg [.int .i64 x2.From,.int .i64 x2.To,lst cI x2.Way]) rfl ?_
  obtain ⟨v23,hx24,hF25⟩:=qg hF7
  simp only [zd,B0,reduceIte,reduceEqDiff]
  refine j5 hm1 (qj (ji (qj qq (qj qq (qj zm q9)))) q9) (hf1 _ _ (fun b hb=>decide_eq_true hb) x2 v23 hx24) ?_
  simp only [qa,q5h,zc,B0,reduceIte,reduceEqDiff]
  refine zb (t:=v23) (fun hc26=>?_) (fun hc26=>?_)
  ·rw [iteT hc26] at hF25
   simp only [qd,qc,qe,qa,qz,B0,reduceIte,reduceEqDiff]
   have e27:=qk hF25
   subst e27
   have ho28:=hr8 _ rfl
   have hk29:=hk6
   rw [ho28] at hk29
   dsimp only [jnO] at hk29
   apply hR12
   have he:=qk hk29
   subst he
   simp only [zl,B0,reduceIte,reduceEqDiff]
   exact rfl
  rw [iteF hc26] at hF25
  simp only [zg,qo,B0,reduceIte,reduceEqDiff]
  have e30:=qk hF25
  exact hN10 _ _ _ e30.symm ⟨f18,f19,hS17⟩ (f21) (f22)
 rintro _ fr32 h33 rfl ⟨f35,f36,hS34⟩
 dsimp only [jnO] at hk6
 unfold yu at hk6
 simp only [qd,qc,qe,qa,qz,B0,reduceIte,reduceEqDiff]
 have he:=qk hk6
 subst he
 simp only [zl,B0,reduceIte,reduceEqDiff]
 exact rfl
theorem qix {W:Nat→Bool}{h:Heap} (hW:∀ b,
  (geL h.length) b→W b=true) (c_0:Chan) (r:Bool) (hF:some (k9 c_0)=some r) : Ret E W 52 [.agg [.int .i64 c_0.From,.int .i64 c_0.To,
  lst cI c_0.Way]] h (fun v h'=>cut h.length h' E.sz false 9 v=some (.bool r)):=by
 refine Ret.of (fn:=x52) rfl (Run.of ?_)
 unfold k9 at hF
 have zf0:zh [.agg [.int .i64 c_0.From,.int .i64 c_0.To,lst cI c_0.Way]] 0 = .agg [.int .i64 c_0.From,.int .i64 c_0.To,lst cI c_0.Way]:=rfl
 generalize zh [.agg [.int .i64 c_0.From,.int .i64 c_0.To,lst cI c_0.Way]]=fr0 at zf0 ⊢
 have hS:Sep h (geL h.length) []:=Sep.nil h
 simp only [x52,qd,qc,kh,zf0,B0,reduceIte,reduceEqDiff]
 refine jt (cs:=[.int .i64 c_0.From,.int .i64 c_0.To,lst cI c_0.Way]) hS rfl rfl rfl (fun b1 h2 hS3=>?_)
 simp only [qe,qa,B0,reduceIte,reduceEqDiff]
 refine zw hS3 hW (by simp only [B0,reduceIte,reduceEqDiff]) (fun h5 hS6=>?_)
 simp only [zo,q27,qd,qc,qt,qb,Nat.reduceAdd,Nat.zero_add,Nat.add_zero,qr,qp,B0,reduceIte,reduceEqDiff]
 refine qh (v:=lst cI c_0.Way) rfl ?_
 simp only [z6,qb,z5,zf,qe7,qe,qa,qz,B0,reduceIte,reduceEqDiff]
 have he:=qk hF
 subst he
 simp only [zl,B0,reduceIte,reduceEqDiff]
 exact rfl
theorem qjn {W:Nat→Bool}{h:Heap} (hW:∀ b,
  (geL h.length) b→W b=true) (k:Nat) (s_0:Snap) (r:Snap × Int × Bool) (hF:yk k s_0=some r) : Ret E W 14 [.agg [lst cI s_0.Amounts,
  lst Chan.cells s_0.Chans,lst Picture.cells s_0.Pictures,.int .i64 s_0.Sent,.int .i64 s_0.Total]] h (fun v h'=>∃ rv0_0 rc0_0 rv0_1 rc0_1 rv0_2 rc0_2,
  v = .tup [.agg [rv0_0,rv0_1,rv0_2,.int .i64 r.1.Sent,.int .i64 r.1.Total],.int .i64 r.2.1,
  .bool r.2.2]∧SlF cI 1 3 rv0_0 r.1.Amounts rc0_0∧SlN Chan.R 3 74 rv0_1 r.1.Chans rc0_1∧SlN Picture.R 4 76 rv0_2 r.1.Pictures rc0_2∧Sep h' (geL h.length) (rc0_0 ++
  (rc0_1++(rc0_2++([]))))):=by
 refine Ret.of (fn:=x14) rfl (Run.of ?_)
 unfold yk at hF
 have zf0:zh [.agg [lst cI s_0.Amounts,lst Chan.cells s_0.Chans,lst Picture.cells s_0.Pictures,.int .i64 s_0.Sent,.int .i64 s_0.Total]] 0 = .agg [lst cI s_0.Amounts,
   lst Chan.cells s_0.Chans,lst Picture.cells s_0.Pictures,.int .i64 s_0.Sent,.int .i64 s_0.Total]:=rfl
 generalize zh [.agg [lst cI s_0.Amounts,lst Chan.cells s_0.Chans,lst Picture.cells s_0.Pictures,.int .i64 s_0.Sent,.int .i64 s_0.Total]]=fr0 at zf0 ⊢
 have hS:Sep h (geL h.length) []:=Sep.nil h
 simp only [x14,qd,qc,kh,zf0,B0,reduceIte,reduceEqDiff]
 refine jt (cs:=[lst cI s_0.Amounts,lst Chan.cells s_0.Chans,lst Picture.cells s_0.Pictures,.int .i64 s_0.Sent,
   .int .i64 s_0.Total]) hS rfl rfl rfl (fun b1 h2 hS3=>?_)
 simp only [jb,B0,reduceIte,reduceEqDiff]
 refine zv hS3 (fun b5 h6 hS7=>?_)
 simp only [qe,qa,B0,reduceIte,reduceEqDiff]
 refine zw (Sep.m1 hS7) hW (by simp only [B0,reduceIte,reduceEqDiff]) (fun h9 hS10=>?_)
 simp only [zo,qvg,qd,qc,qp,B0,reduceIte,reduceEqDiff]
 refine qh (v := .agg [lst cI s_0.Amounts,lst Chan.cells s_0.Chans,lst Picture.cells s_0.Pictures,.int .i64 s_0.Sent,.int .i64 s_0.Total]) rfl ?_
 obtain ⟨v11,hx12,hF13⟩:=qg hF
 simp only [zd,B0,reduceIte,reduceEqDiff]
 refine j5 rfl (qj (ji (qj zm (qj zm (qj zm (qj qq (qj qq q9)))))) q9) (qcj
   (fun b hb=>decide_eq_true hb) k s_0 v11 hx12) ?_
 simp only [jz,qb,kf,qa,qy2,zc,B0,reduceIte,reduceEqDiff]
 refine zb (t:=(!v11)) (fun hc14=>?_) (fun hc14=>?_)
 ·rw [iteT hc14] at hF13
  simp only [qx2,qd,qc,run_build,evp,B0,reduceIte,reduceEqDiff]
  refine qh (v := .agg [.nil,.nil,.nil,.int .i64 0,.int .i64 0]) rfl ?_
  simp only [zj,B0,reduceIte,reduceEqDiff]
  refine qx (us:=[.nil,.nil,.nil,.int .i64 0,.int .i64 0]) rfl (cs':=[.nil,.nil,.nil,.int .i64 0,
    .int .i64 0]) hS10 hW rfl rfl (Nat.le_of_ble_eq_true rfl) rfl (fun h15 hS16=>?_)
  simp only [qe,qa,qz,B0,reduceIte,reduceEqDiff]
  have he:=qk hF13
  subst he
  refine jr (qj (jv (bb:=b5) (oo:=0) (v := .agg [.nil,.nil,.nil,.int .i64 0,
    .int .i64 0]) (rfl) ((z0 (Sep.bk _ _ _ hS16)).trans rfl)) (qj (kz (v := .int .i64 0) (rfl)) (qj (kz (v := .bool false) (rfl)) q9))) ?_
  exact ⟨.nil,[],.nil,[],.nil,[],by first | trivial | rfl,SlF.nil,SlN.nil,SlN.nil,((Sep.dc (hS16)) : Sep _ (geL h.length) ([]))⟩
 rw [iteF hc14] at hF13
 simp only [zg,quc,qd,qc,qp,B0,reduceIte,reduceEqDiff]
 refine qh (v := .agg [lst cI s_0.Amounts,lst Chan.cells s_0.Chans,lst Picture.cells s_0.Pictures,.int .i64 s_0.Sent,.int .i64 s_0.Total]) rfl ?_
 obtain ⟨v17,hx18,hF19⟩:=qg hF13
 simp only [zd,B0,reduceIte,reduceEqDiff]
 refine ut rfl hS10 (qj (ji (qj zm (qj zm (qj zm (qj qq (qj qq q9)))))) q9) (qhk
   (fun b hb=>decide_eq_true hb) s_0 v17 hx18) ?_
 rintro _ h32 ⟨v20,c21,v24,c25,v28,c29,rfl,hv22,hv26,hv30,hS33⟩
 refine ⟨_,qci (qi (SlF.free1 hv22) (qi (SlN.free1 hv26) (qi (SlN.free1 hv30) (qi rfl (qi rfl zk))))),hS33,
   (jc (SlF.pf hv22 (fun _=>rfl)) (jc (SlN.pf hv26 Chan.RO) (jc (SlN.pf hv30 Picture.RO) wt))),fun h34 hS35=>?_⟩
 have hS36:Sep h34 (geL h.length) (c21++(c25++(c29++([Blk1 b5 [.nil,.nil,.nil,.int .i64 0,.int .i64 0] 30]++([]))))):=by simpa only [List.append_assoc,
   List.nil_append] using hS35
 simp only [jb,B0,reduceIte,reduceEqDiff]
 refine zv hS36 (fun b37 h38 hS39=>?_)
 simp only [zj,B0,reduceIte,reduceEqDiff]
 refine qx (us:=[v20,v24,v28,.int .i64 v17.Sent,.int .i64 v17.Total]) rfl (cs':=[v20,v24,v28,.int .i64 v17.Sent,
   .int .i64 v17.Total]) hS39 hW rfl (qi (SlF.one hv22) (qi (SlN.one hv26) (qi (SlN.one hv30) (qi rfl (qi rfl zk))))) (Nat.le_of_ble_eq_true rfl) rfl
   (fun h41 hS42=>?_)
 simp only [qa,qui,qd,qc,qt,qb,Nat.reduceAdd,Nat.zero_add,Nat.add_zero,qu,qp,B0,reduceIte,reduceEqDiff]
 refine qh (v:=v28) ((jj (Sep.bk _ _ _ hS42)).trans rfl) ?_
 obtain ⟨v43,hx44,hF45⟩:=qg hF19
 simp only [zd,B0,reduceIte,reduceEqDiff]
 refine j5 rfl (qj (SlN.snap hv30 _ (Sep.m3 hS42) rfl Picture.RO) (qj qhw q9)) (qey (fun b hb=>decide_eq_true hb) v17.Pictures
   (g1:=50) (caps1:=[]) rfl (fun a0=>some (xa a0)) (fun W h hW a0 r hr=>qiv hW a0 r hr) v43 hx44) ?_
 simp only [jz,qb,kf,qe,B0,reduceIte,reduceEqDiff]
 obtain ⟨sv60,hX58,hk59⟩:=qg hF45
 refine j0 4 (fun fr' h'=>∃ c49 c52 c55,
   fr' 2 = .ptr b5 0∧fr' 5 = .ptr b37 0∧fr' 22 = .bool sv60.1∧SlF cI 1 3 v20 sv60.2.2.1 c49∧SlN Chan.R 3 74 v24 sv60.2.2.2.1 c52∧SlN Picture.R 4 76 v28 sv60.2.2.2.2 c55∧Sep h'
   (geL h.length) ([Blk1 b5 [.nil,.nil,.nil,.int .i64 0,.int .i64 0] 30]++([Blk1 b37 [v20,v24,v28,.int .i64 sv60.2.1.Sent,
   .int .i64 sv60.2.1.Total] 30]++(c49++(c52++(c55++([]))))))) (fun Q61 hN62=>?_) ?_
 ·simp only [List.take_succ_cons,List.take_zero]
  simp only [ql (g:=18),B0,reduceIte,reduceEqDiff]
  refine zn (t:=(!v43)) (fun hg65=>?_) (fun hg65=>?_)
  ·rw [iteT hg65] at hX58
   simp only [hg65,ql (g:=18),z4,run_build,evp,B0,reduceIte,reduceEqDiff]
   refine qh (v := .agg [.int .i64 3,.int .i64 0,.int .i64 0]) rfl ?_
   obtain ⟨v66,hx67,hF68⟩:=qg hX58
   simp only [hg65,ql (g:=18),z4,zd,B0,reduceIte,reduceEqDiff]
   refine yp rfl (qd5 hW b37 v17 v20 c21 hv22 v24 c25 hv26 v28 c29 hv30 (SnapStep.mk 3 0 0) v66 hx67 (Sep.m3 (Sep.m3 (Sep.m3 (Sep.m3 hS42))))) ?_
   rintro _ h75 ⟨c69,c71,c73,rfl,hv70,hv72,hv74,hS76⟩
   simp only [hg65,ql (g:=18),z4,jz,qb,kf,za,zp,qa,qo,B0,reduceIte,reduceEqDiff]
   have e77:=qk hF68
   subst e77
   exact hN62 _ _ ⟨c69,c71,c73,rfl,rfl,rfl,hv70,hv72,hv74,(Sep.m4 (Sep.m3 (Sep.m3 (Sep.m3 (Sep.m3 hS76)))))⟩
  ·rw [iteF hg65] at hX58
   simp only [hg65,ql (g:=18),kw,za,qb,zq,qa,qo,B0,reduceIte,reduceEqDiff]
   have e78:=qk hX58
   subst e78
   exact hN62 _ _ ⟨c21,c25,c29,rfl,rfl,rfl,hv22,hv26,hv30,(Sep.m4 (Sep.m3 (Sep.m3 (Sep.m3 (Sep.m3 hS42)))))⟩
 rintro fr79 h80 ⟨c49,c52,c55,f82,f83,f84,hv50,hv53,hv56,hS81⟩
 obtain ⟨s46,s47,s48,s51,s54⟩:=sv60
 dsimp only at *
 unfold yc at hk59
 simp only [List.drop_succ_cons,List.drop_zero]
 simp only [qa,qzb,f84,zc,B0,reduceIte,reduceEqDiff]
 refine zb (t:=s46) (fun hc85=>?_) (fun hc85=>?_)
 ·rw [iteT hc85] at hk59
  simp only [qy9,qd,qc,run_build,evp,B0,reduceIte,reduceEqDiff]
  refine qh (v := .agg [.nil,.nil,.nil,.int .i64 0,.int .i64 0]) rfl ?_
  simp only [f82,zj,B0,reduceIte,reduceEqDiff]
  refine qx (us:=[.nil,.nil,.nil,.int .i64 0,.int .i64 0]) rfl (cs':=[.nil,.nil,.nil,.int .i64 0,
    .int .i64 0]) hS81 hW rfl rfl (Nat.le_of_ble_eq_true rfl) rfl (fun h86 hS87=>?_)
  simp only [qe,qa,qz,B0,reduceIte,reduceEqDiff]
  have he:=qk hk59
  subst he
  refine jr (qj (jv (bb:=b5) (oo:=0) (v := .agg [.nil,.nil,.nil,.int .i64 0,
    .int .i64 0]) (f82) ((z0 (Sep.bk _ _ _ hS87)).trans rfl)) (qj (kz (v := .int .i64 0) (rfl)) (qj (kz (v := .bool false) (rfl)) q9))) ?_
  exact ⟨.nil,[],.nil,[],.nil,[],by first | trivial | rfl,SlF.nil,SlN.nil,SlN.nil,
    ((Sep.dc ((Sep.dc ((Sep.dc ((Sep.dc ((Sep.dc (hS87)))))))))) : Sep _ (geL h.length) ([]))⟩
 rw [iteF hc85] at hk59
 simp only [zg,qrg,qd,qc,qe,qa,B0,reduceIte,reduceEqDiff]
 obtain ⟨oc112,hX114,hk115⟩:=jp hk59
 simp only [qsk]
 refine qe9 (σ:=Int × Snap × (List Int) × (List Chan) × (List Picture)) (fun s158=>kj s158.1 s158.2.1 s158.2.2.1 s158.2.2.2.1 s158.2.2.2.2)
   (fun s fr' h'=>∃ c102 c105 c108,fr' 2 = .ptr b5 0∧fr' 5 = .ptr b37 0∧fr' 6 = .int .i64 s.1∧SlF cI 1 3 v20 s.2.2.1 c102∧SlN Chan.R 3 74 v24 s.2.2.2.1 c105∧SlN Picture.R 4 76 v28 s.2.2.2.2 c108∧Sep h'
   (geL h.length) ([Blk1 b5 [.nil,.nil,.nil,.int .i64 0,.int .i64 0] 30]++([Blk1 b37 [v20,v24,v28,.int .i64 s.2.1.Sent,
   .int .i64 s.2.1.Total] 30]++(c102++(c105++(c108++([]))))))) hX114 ⟨c49,c52,c55,f82,f83,rfl,hv50,hv53,hv56,
   (Sep.m4 (Sep.m4 (Sep.m4 (Sep.m4 (Sep.m4 hS81)))))⟩ (fun _ _ _ h=>h) ?_ ?_
 ·rintro ⟨s99,s100,s101,s104,s107⟩ fr124 h125 ⟨c102,c105,c108,f127,f128,f129,hv103,hv106,hv109,hS126⟩ oc113 hF116 hr117 Q118 hN119 hK120 hR121 hE122
  dsimp only at *
  unfold kj at hF116
  simp only [qvm,xn,qrf,qd,qc,f128,qt,qb,Nat.reduceAdd,Nat.zero_add,Nat.add_zero,qu,qp,B0,reduceIte,reduceEqDiff]
  refine qh (v:=v24) ((jj (Sep.bk _ _ _ (Sep.m1 hS126))).trans rfl) ?_
  obtain ⟨v131,hx132,hF133⟩:=qg hF116
  simp only [zd,B0,reduceIte,reduceEqDiff]
  refine j5 rfl (qj (SlN.snap hv106 _ (Sep.m3 hS126) rfl Chan.RO) (qj qhw q9)) (qg5 (fun b hb=>decide_eq_true hb) s104 (g1:=52)
    (caps1:=[]) rfl (fun a0=>some (k9 a0)) (fun W h hW a0 r hr=>qix hW a0 r hr) v131 hx132) ?_
  simp only [qe,qa,qqi,qd,qc,zf,qb,qgr,qxw,zc,B0,reduceIte,reduceEqDiff]
  refine zb (t:=(decide (v131<0))) (fun hc134=>?_) (fun hc134=>?_)
  ·rw [iteT hc134] at hF133
   simp only [q24,qd,qc,f128,qp,B0,reduceIte,reduceEqDiff]
   refine qh (v := .agg [v20,v24,v28,.int .i64 s100.Sent,.int .i64 s100.Total]) ((z0 (Sep.bk _ _ _ (Sep.m1 hS126))).trans rfl) ?_
   simp only [f129,qe,f127,zj,B0,reduceIte,reduceEqDiff]
   refine qx (us:=[v20,v24,v28,.int .i64 s100.Sent,.int .i64 s100.Total]) rfl (cs':=[v20,v24,v28,.int .i64 s100.Sent,
     .int .i64 s100.Total]) hS126 hW rfl (qi (SlF.one hv103) (qi (SlN.one hv106) (qi (SlN.one hv109) (qi rfl (qi rfl zk)))))
     (Nat.le_of_ble_eq_true rfl) rfl (fun h135 hS136=>?_)
   simp only [qe,qa,qz,B0,reduceIte,reduceEqDiff]
   have e137:=qk hF133
   subst e137
   have ho138:=hr117 _ rfl
   have hk139:=hk115
   rw [ho138] at hk139
   dsimp only [jnO] at hk139
   apply hR121
   have he:=qk hk139
   subst he
   refine jr (qj (jv (bb:=b5) (oo:=0) (v := .agg [v20,v24,v28,.int .i64 s100.Sent,
     .int .i64 s100.Total]) (f127) ((z0 (Sep.bk _ _ _ hS136)).trans rfl)) (qj (kz (v := .int .i64 s99) (rfl)) (qj (kz (v := .bool true) (rfl)) q9))) ?_
   exact ⟨v20,c102,v24,c105,v28,c108,by first | trivial | rfl,hv103,hv106,hv109,(Sep.m2 (Sep.m2 (Sep.m2 (Sep.dc ((Sep.dc (hS136)))))))⟩
  rw [iteF hc134] at hF133
  simp only [zg,qxl,qd,qc,qe,run_build,evp,B0,reduceIte,reduceEqDiff]
  refine qh (v := .agg [.int .i64 2,.int .i64 v131,.int .i64 0]) rfl ?_
  obtain ⟨v140,hx141,hF142⟩:=qg hF133
  simp only [f128,zd,B0,reduceIte,reduceEqDiff]
  refine yp rfl (qd5 hW b37 (Snap.mk s101 s104 s107 s100.Sent s100.Total) v20 c102 hv103 v24 c105 hv106 v28 c108 hv109 (SnapStep.mk 2 v131 0) v140 hx141 (Sep.m4
    (Sep.m4 (Sep.m4 (Sep.m4 hS126))))) ?_
  rintro _ h149 ⟨c143,c145,c147,rfl,hv144,hv146,hv148,hS150⟩
  simp only [jz,qb,kf,qa,qyo,zc,B0,reduceIte,reduceEqDiff]
  refine zb (t:=(!v140.1)) (fun hc151=>?_) (fun hc151=>?_)
  ·rw [iteT hc151] at hF142
   simp only [q2u,qd,qc,run_build,evp,B0,reduceIte,reduceEqDiff]
   refine qh (v := .agg [.nil,.nil,.nil,.int .i64 0,.int .i64 0]) rfl ?_
   simp only [f127,zj,B0,reduceIte,reduceEqDiff]
   refine qx (us:=[.nil,.nil,.nil,.int .i64 0,.int .i64 0]) rfl (cs':=[.nil,.nil,.nil,.int .i64 0,
     .int .i64 0]) (Sep.m4 hS150) hW rfl rfl (Nat.le_of_ble_eq_true rfl) rfl (fun h152 hS153=>?_)
   simp only [qe,qa,qz,B0,reduceIte,reduceEqDiff]
   have e154:=qk hF142
   subst e154
   have ho155:=hr117 _ rfl
   have hk156:=hk115
   rw [ho155] at hk156
   dsimp only [jnO] at hk156
   apply hR121
   have he:=qk hk156
   subst he
   refine jr (qj (jv (bb:=b5) (oo:=0) (v := .agg [.nil,.nil,.nil,.int .i64 0,
     .int .i64 0]) (f127) ((z0 (Sep.bk _ _ _ hS153)).trans rfl)) (qj (kz (v := .int .i64 0) (rfl)) (qj (kz (v := .bool false) (rfl)) q9))) ?_
   exact ⟨.nil,[],.nil,[],.nil,[],by first | trivial | rfl,SlF.nil,SlN.nil,SlN.nil,
     ((Sep.dc ((Sep.dc ((Sep.dc ((Sep.dc ((Sep.dc (hS153)))))))))) : Sep _ (geL h.length) ([]))⟩
  rw [iteF hc151] at hF142
  simp only [zg,qc,f129,qe,zf,qb,yz,qa,uo,qo,B0,reduceIte,reduceEqDiff]
  have e157:=qk hF142
  exact hN119 _ _ _ e157.symm ⟨c143,c145,c147,f127,f128,rfl,hv144,hv146,hv148,(Sep.m4 (Sep.m3 (Sep.m3 (Sep.m3 (Sep.m3 hS150)))))⟩
 rintro ⟨s159,s160,s161,s164,s167⟩ fr170 h171 rfl ⟨c162,c165,c168,f173,f174,f175,hv163,hv166,hv169,hS172⟩
 dsimp only [jnO] at hk115
 dsimp only at *
 unfold qfm at hk115
 cases hk115
theorem qjr {W:Nat→Bool}{h:Heap}{lo:Nat→Prop}{S0:List Obj} (hW:∀ b,
  lo b→W b=true) (pb0:Nat) (c_0:L1Cur) (r:Int × L1Cur) (hF:qee c_0=some r) (hS:Sep h lo ([Blk1 pb0 [lst cU8 c_0.code,.int .i64 c_0.at_,
  .int .u64 c_0.seed] 64]++(S0))) : Ret E W 74 [.ptr pb0 0] h (fun v h'=>v = .int .i64 r.1∧Sep h' lo ([Blk1 pb0 [lst cU8 r.2.code,.int .i64 r.2.at_,
  .int .u64 r.2.seed] 64]++(S0))):=by
 refine Ret.of (fn:=x74) rfl (Run.of ?_)
 unfold qee at hF
 have zf0:zh [.ptr pb0 0] 0 = .ptr pb0 0:=rfl
 generalize zh [.ptr pb0 0]=fr0 at zf0 ⊢
 simp only [x74,qd,qc,qe,qa,qy6,qy8,jd,zf0,zr,qf,ka,zy,zi,Nat.reduceAdd,Nat.zero_add,Nat.add_zero,
   qu,ze,B0,reduceIte,reduceEqDiff]
 refine qm (v := .int .i64 c_0.at_) ((jj (Sep.bk _ _ _ hS)).trans rfl) ?_
 simp only [zf0,zr,qf,ka,zy,zi,Nat.reduceAdd,Nat.zero_add,Nat.add_zero,qu,ze,B0,reduceIte,reduceEqDiff]
 refine qm (v:=lst cU8 c_0.code) ((jj (Sep.bk _ _ _ hS)).trans rfl) ?_
 simp only [qch,qf,z5,kn,qgr,qs,qyj,zc,B0,reduceIte,reduceEqDiff]
 obtain ⟨s1,hX3,hk4⟩:=qg hF
 refine u5 (t:=(decide (c_0.at_<(List.length c_0.code:Int)))) (fun fr' h'=>fr' 0 = .ptr pb0 0∧fr' 3 = .int .i64 s1∧Sep h' lo ([Blk1 pb0 [lst cU8 c_0.code,
   .int .i64 c_0.at_,.int .u64 c_0.seed] 64]++(S0))) (fun Q5 hN6 hR7 hE8=>⟨fun hc9=>?_,fun hc9=>?_⟩) ?_
 ·rw [iteT hc9] at hX3
  simp only [q10,jd,zf0,zr,qf,ka,zy,zi,Nat.reduceAdd,Nat.zero_add,Nat.add_zero,qu,ze,B0,reduceIte,reduceEqDiff]
  refine qm (v:=lst cU8 c_0.code) ((jj (Sep.bk _ _ _ hS)).trans rfl) ?_
  simp only [zf0,zr,qf,ka,zy,zi,Nat.reduceAdd,Nat.zero_add,Nat.add_zero,qu,ze,B0,reduceIte,reduceEqDiff]
  refine qm (v := .int .i64 c_0.at_) ((jj (Sep.bk _ _ _ hS)).trans rfl) ?_
  obtain ⟨x10,hx11,hF12⟩:=qg hX3
  simp only [jo,B0,reduceIte,reduceEqDiff]
  refine qm (v := .ref (cU8 x10) 0) (k5 hx11 rfl) ?_
  simp only [ze,B0,reduceIte,reduceEqDiff]
  refine qm (v := .int .u8 x10) rfl ?_
  simp only [q7q,qf,qmy,zr,qs,qo,B0,reduceIte,reduceEqDiff]
  have e13:=qk hF12
  subst e13
  exact hN6 _ _ ⟨zf0,rfl,hS⟩
 ·rw [iteF hc9] at hX3
  simp only [zg,qo,B0,reduceIte,reduceEqDiff]
  have e14:=qk hX3
  subst e14
  exact hN6 _ _ ⟨zf0,rfl,hS⟩
 rintro fr15 h16 ⟨f18,f19,hS17⟩
 unfold qep at hk4
 simp only [qyz,qd,qc,f18,qe,we,qb,zy,qt,Nat.reduceAdd,Nat.zero_add,Nat.add_zero,qu,qp,B0,reduceIte,reduceEqDiff]
 refine qh (v := .int .i64 c_0.at_) ((jj (Sep.bk _ _ _ hS17)).trans rfl) ?_
 simp only [zf,qb,yz,we,zy,qt,Nat.reduceAdd,Nat.zero_add,Nat.add_zero,qu,zj,B0,reduceIte,reduceEqDiff]
 refine qx (us:=[.int .i64 (IntKind.wrap .i64 (c_0.at_+1))]) rfl (cs':=[lst cU8 c_0.code,.int .i64 (IntKind.wrap .i64 (c_0.at_+1)),
   .int .u64 c_0.seed]) hS17 hW rfl rfl (Nat.le_of_ble_eq_true rfl) rfl (fun h20 hS21=>?_)
 simp only [qa,q3s,qd,qc,f18,qe,we,qb,zy,qt,Nat.reduceAdd,Nat.zero_add,Nat.add_zero,qu,qp,B0,reduceIte,
   reduceEqDiff]
 refine qh (v := .int .u64 c_0.seed) ((jj (Sep.bk _ _ _ hS21)).trans rfl) ?_
 simp only [zf,qb,qln,f19,qe,qo3,qmy,yz,we,zy,qt,Nat.reduceAdd,Nat.zero_add,Nat.add_zero,qu,zj,B0,reduceIte,
   reduceEqDiff]
 refine qx (us:=[.int .u64 (IntKind.wrap .u64 ((IntKind.wrap .u64 ((IntKind.wrap .u64 (c_0.seed*6364136223846793005)) +
   (IntKind.wrap .u64 s1)))+1442695040888963407))]) rfl (cs':=[lst cU8 c_0.code,.int .i64 (IntKind.wrap .i64 (c_0.at_+1)),
   .int .u64 (IntKind.wrap .u64 ((IntKind.wrap .u64 ((IntKind.wrap .u64 (c_0.seed*6364136223846793005))+(IntKind.wrap .u64 s1)))+1442695040888963407))]) hS21 hW rfl rfl
   (Nat.le_of_ble_eq_true rfl) rfl (fun h22 hS23=>?_)
 simp only [qa,qy7,qd,jd,f18,zr,qf,ka,zy,zi,Nat.reduceAdd,Nat.zero_add,Nat.add_zero,qu,ze,B0,reduceIte,
   reduceEqDiff]
 refine qm (v := .int .i64 (IntKind.wrap .i64 (c_0.at_+1))) ((jj (Sep.bk _ _ _ hS23)).trans rfl) ?_
 simp only [f18,zr,qf,ka,zy,zi,Nat.reduceAdd,Nat.zero_add,Nat.add_zero,qu,ze,B0,reduceIte,reduceEqDiff]
 refine qm (v:=lst cU8 c_0.code) ((jj (Sep.bk _ _ _ hS23)).trans rfl) ?_
 simp only [qch,qf,z5,kn,qpg,qs,q4i,zc,B0,reduceIte,reduceEqDiff]
 refine zb (t:=(decide ((IntKind.wrap .i64 (c_0.at_+1))≤(List.length c_0.code:Int)))) (fun hc24=>?_) (fun hc24=>?_)
 ·rw [iteT hc24] at hk4
  simp only [qd,qc,f19,qe,qa,qz,B0,reduceIte,reduceEqDiff]
  have he:=qk hk4
  subst he
  simp only [zl,B0,reduceIte,reduceEqDiff]
  exact ⟨by first | trivial | rfl,hS23⟩
 rw [iteF hc24] at hk4
 simp only [zg,qxu,qd,qc,f18,qe,we,qb,zy,qt,Nat.reduceAdd,Nat.zero_add,Nat.add_zero,qu,qp,B0,reduceIte,
   reduceEqDiff]
 refine qh (v := .int .u64 (IntKind.wrap .u64 ((IntKind.wrap .u64 ((IntKind.wrap .u64 (c_0.seed*6364136223846793005))+(IntKind.wrap .u64 s1)))+1442695040888963407)))
   ((jj (Sep.bk _ _ _ hS23)).trans rfl) ?_
 simp only [zf,qb,q5z (n:=40) (by decide),q71,qo3,qmy,qe,qa,qz,B0,reduceIte,reduceEqDiff]
 have he:=qk hk4
 subst he
 simp only [zl,B0,reduceIte,reduceEqDiff]
 exact ⟨by first | trivial | rfl,hS23⟩
theorem wg {W:Nat→Bool}{h:Heap}{lo:Nat→Prop}{S0:List Obj} (hW:∀ b,
  lo b→W b=true) (pb0:Nat) (c_0:L1Cur) (n_1:Int) (r:Int × L1Cur) (hF:y4 c_0 n_1=some r) (hS:Sep h lo ([Blk1 pb0 [lst cU8 c_0.code,.int .i64 c_0.at_,
  .int .u64 c_0.seed] 64]++(S0))) : Ret E W 36 [.ptr pb0 0,.int .i64 n_1] h (fun v h'=>v = .int .i64 r.1∧Sep h' lo ([Blk1 pb0 [lst cU8 r.2.code,.int .i64 r.2.at_,
  .int .u64 r.2.seed] 64]++(S0))):=by
 refine Ret.of (fn:=x36) rfl (Run.of ?_)
 unfold y4 at hF
 have zf0:zh [.ptr pb0 0,.int .i64 n_1] 0 = .ptr pb0 0:=rfl
 have zf1:zh [.ptr pb0 0,.int .i64 n_1] 1 = .int .i64 n_1:=rfl
 generalize zh [.ptr pb0 0,.int .i64 n_1]=fr0 at zf0 zf1 ⊢
 simp only [x36,qd,qc,qe,qa,qxo,zf1,zf,qb,qpg,zc,B0,reduceIte,reduceEqDiff]
 refine zb (t:=(decide (n_1≤1))) (fun hc1=>?_) (fun hc1=>?_)
 ·rw [iteT hc1] at hF
  simp only [qd,qc,qe,qa,qz,B0,reduceIte,reduceEqDiff]
  have he:=qk hF
  subst he
  simp only [zl,B0,reduceIte,reduceEqDiff]
  exact ⟨by first | trivial | rfl,hS⟩
 rw [iteF hc1] at hF
 obtain ⟨v2,hx3,hF4⟩:=qg hF
 simp only [zg,qxp,qd,qc,zf0,qe,zd,B0,reduceIte,reduceEqDiff]
 refine yp rfl (qjr hW pb0 c_0 v2 hx3 hS) ?_
 rintro _ h5 ⟨rfl,hS6⟩
 simp only [qe,qa,q22,qd,qc,zf1,zf,qb,qe7,q06,zc,B0,reduceIte,reduceEqDiff]
 refine zb (t:=(decide ((200:Int)<n_1))) (fun hc7=>?_) (fun hc7=>?_)
 ·rw [iteT hc7] at hF4
  obtain ⟨v8,hx9,hF10⟩:=qg hF4
  simp only [q2n,qc,qe,zf,qb,qln,zf0,zd,B0,reduceIte,reduceEqDiff]
  refine yp rfl (qjr hW pb0 v2.2 v8 hx9 hS6) ?_
  rintro _ h11 ⟨rfl,hS12⟩
  obtain ⟨hp13,hF14⟩:=qoq hF10
  simp only [zf,qb,yz,qe,qa,qph,qd,qc,zf1,qo4 (n:=n_1) hp13,qz,B0,reduceIte,reduceEqDiff]
  have he:=qk hF14
  subst he
  simp only [zl,B0,reduceIte,reduceEqDiff]
  exact ⟨by first | trivial | rfl,hS12⟩
 rw [iteF hc7] at hF4
 obtain ⟨hp15,hF16⟩:=qoq hF4
 simp only [zg,qph,qd,qc,qe,zf1,zf,qb,qo4 (n:=n_1) hp15,qa,qz,B0,reduceIte,reduceEqDiff]
 have he:=qk hF16
 subst he
 simp only [zl,B0,reduceIte,reduceEqDiff]
 exact ⟨by first | trivial | rfl,hS6⟩
theorem qgw {W:Nat→Bool}{h:Heap}{lo:Nat→Prop}{S0:List Obj} (hW:∀ b,
  lo b→W b=true) (pb0:Nat) (c_0:L1Cur) (pv1:XV) (pc1:List Obj) (list_1:List Int) (ph1:SlF cI 1 3 pv1 list_1 pc1) (r:Int × L1Cur × (List Int))
  (hF:qb3 c_0 list_1=some r) (hS:Sep h lo ([Blk1 pb0 [lst cU8 c_0.code,.int .i64 c_0.at_,.int .u64 c_0.seed] 64]++(pc1++(S0)))) : Ret E W 37 [.ptr pb0 0,
  pv1] h (fun v h'=>∃ ic1,v = .int .i64 r.1∧SlF cI 1 3 pv1 r.2.2 ic1∧Sep h' lo ([Blk1 pb0 [lst cU8 r.2.1.code,.int .i64 r.2.1.at_,
  .int .u64 r.2.1.seed] 64]++(ic1++(S0)))):=by
 refine Ret.of (fn:=x37) rfl (Run.of ?_)
 unfold qb3 at hF
 have zf0:zh [.ptr pb0 0,pv1] 0 = .ptr pb0 0:=rfl
 have zf1:zh [.ptr pb0 0,pv1] 1=pv1:=rfl
 generalize zh [.ptr pb0 0,pv1]=fr0 at zf0 zf1 ⊢
 obtain ⟨v1,hx2,hF3⟩:=qg hF
 simp only [x37,qd,qc,qe,qa,q4o,zf1,zf0,z6,qb,SlF.plen ph1,zd,B0,reduceIte,reduceEqDiff]
 refine yp rfl (wg hW pb0 c_0 (List.length list_1:Int) v1 hx2 hS) ?_
 rintro _ h4 ⟨rfl,hS5⟩
 obtain ⟨x6,hx7,hF8⟩:=qg hF3
 simp only [jg,B0,reduceIte,reduceEqDiff]
 obtain ⟨b9,hb10⟩:=SlF.isrow ph1 (jq hx7)
 refine qh (SlF.ia ph1 hb10 hx7) ?_
 simp only [qp,B0,reduceIte,reduceEqDiff]
 refine qh (v := .int .i64 x6) ((SlF.ld (o:=0) ph1 (Sep.m1 hS5) hb10 hx7 (fun _=>rfl) (Nat.le_of_ble_eq_true rfl)).trans rfl) ?_
 simp only [qe,qa,qz,B0,reduceIte,reduceEqDiff]
 have he:=qk hF8
 subst he
 simp only [zl,B0,reduceIte,reduceEqDiff]
 exact ⟨pc1,by first | trivial | rfl,ph1,(Sep.m1 (Sep.m1 hS5))⟩
theorem qih {W:Nat→Bool}{h:Heap}{lo:Nat→Prop}{S0:List Obj} (hW:∀ b,
  lo b→W b=true) (pb0:Nat) (c_0:L1Cur) (n_1:Int) (r:Bool × L1Cur) (hF:qd6 c_0 n_1=some r) (hS:Sep h lo ([Blk1 pb0 [lst cU8 c_0.code,.int .i64 c_0.at_,
  .int .u64 c_0.seed] 64]++(S0))) : Ret E W 75 [.ptr pb0 0,.int .i64 n_1] h (fun v h'=>v = .bool r.1∧Sep h' lo ([Blk1 pb0 [lst cU8 r.2.code,.int .i64 r.2.at_,
  .int .u64 r.2.seed] 64]++(S0))):=by
 refine Ret.of (fn:=x75) rfl (Run.of ?_)
 unfold qd6 at hF
 have zf0:zh [.ptr pb0 0,.int .i64 n_1] 0 = .ptr pb0 0:=rfl
 have zf1:zh [.ptr pb0 0,.int .i64 n_1] 1 = .int .i64 n_1:=rfl
 generalize zh [.ptr pb0 0,.int .i64 n_1]=fr0 at zf0 zf1 ⊢
 obtain ⟨v1,hx2,hF3⟩:=qg hF
 simp only [x75,qd,qc,qe,qa,q0m,zf0,zf1,zd,B0,reduceIte,reduceEqDiff]
 refine yp rfl (wg hW pb0 c_0 n_1 v1 hx2 hS) ?_
 rintro _ h4 ⟨rfl,hS5⟩
 simp only [zf,qb,wi,qe,qa,qz,B0,reduceIte,reduceEqDiff]
 have he:=qk hF3
 subst he
 simp only [zl,B0,reduceIte,reduceEqDiff]
 exact ⟨by first | trivial | rfl,hS5⟩
end Go.Proofs.Ytpkiieniipenjaa.X
