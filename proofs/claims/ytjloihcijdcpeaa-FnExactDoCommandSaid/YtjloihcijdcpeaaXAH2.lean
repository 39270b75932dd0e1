/- The functions' code comes to what the plain functions say (2). -/
import Derived.Test.YtjloihcijdcpeaaXAH1
set_option linter.unusedVariables false
set_option linter.unusedSimpArgs false
set_option maxRecDepth 100000
namespace Go.Proofs.Ytjloihcijdcpeaa.X
open Go
open Nat (reduceEqDiff)
theorem qjk {W:Nat→Bool}{h:Heap} (hW:∀ b,
  (geL h.length) b→W b=true) (v_0:Control) (v_1:Command) (r:Control × Int) (hF:qa9 v_0 v_1=some r) : Ret E W 49 [.agg [lst qg v_0.Brokers,
  lst qd v_0.Parts,.int .i64 v_0.Next],.agg [.int .i64 v_1.Kind,.int .i64 v_1.Broker,.int .i64 v_1.Epoch,.int .i64 v_1.Part,.int .i64 v_1.Stamp,
  lst cI v_1.InStep]] h (fun v h'=>∃ rv0_0 rc0_0 rv0_1 rc0_1,v = .tup [.agg [rv0_0,rv0_1,.int .i64 r.1.Next],
  .int .i64 r.2]∧SlF qg 3 86 rv0_0 r.1.Brokers rc0_0∧SlN Partition.R 5 39 rv0_1 r.1.Parts rc0_1∧Sep h' (geL h.length) (rc0_0++(rc0_1++([])))):=by
 refine Ret.of (fn:=x49) rfl (Run.of ?_)
 unfold qa9 at hF
 have zf0:zd [.agg [lst qg v_0.Brokers,lst qd v_0.Parts,.int .i64 v_0.Next],.agg [.int .i64 v_1.Kind,.int .i64 v_1.Broker,.int .i64 v_1.Epoch,
   .int .i64 v_1.Part,.int .i64 v_1.Stamp,lst cI v_1.InStep]] 0 = .agg [lst qg v_0.Brokers,lst qd v_0.Parts,.int .i64 v_0.Next]:=rfl
 have zf1:zd [.agg [lst qg v_0.Brokers,lst qd v_0.Parts,.int .i64 v_0.Next],.agg [.int .i64 v_1.Kind,.int .i64 v_1.Broker,.int .i64 v_1.Epoch,
   .int .i64 v_1.Part,.int .i64 v_1.Stamp,lst cI v_1.InStep]] 1 = .agg [.int .i64 v_1.Kind,.int .i64 v_1.Broker,.int .i64 v_1.Epoch,.int .i64 v_1.Part,
   .int .i64 v_1.Stamp,lst cI v_1.InStep]:=rfl
 generalize zd [.agg [lst qg v_0.Brokers,lst qd v_0.Parts,.int .i64 v_0.Next],.agg [.int .i64 v_1.Kind,.int .i64 v_1.Broker,.int .i64 v_1.Epoch,
   .int .i64 v_1.Part,.int .i64 v_1.Stamp,lst cI v_1.InStep]]=fr0 at zf0 zf1 ⊢
 have hS:Sep h (geL h.length) []:=Sep.nil h
 simp only [x49,qf,qe,ja,zf0,B0,reduceIte,reduceEqDiff]
 refine z0 (cs:=[lst qg v_0.Brokers,lst qd v_0.Parts,.int .i64 v_0.Next]) hS rfl rfl rfl (fun b1 h2 hS3=>?_)
 simp only [ja,zf1,B0,reduceIte,reduceEqDiff]
 refine z0 (cs:=[.int .i64 v_1.Kind,.int .i64 v_1.Broker,.int .i64 v_1.Epoch,.int .i64 v_1.Part,.int .i64 v_1.Stamp,
   lst cI v_1.InStep]) hS3 rfl rfl rfl (fun b5 h6 hS7=>?_)
 simp only [j6,B0,reduceIte,reduceEqDiff]
 refine jg hS7 (fun b9 h10 hS11=>?_)
 simp only [qh,qa,B0,reduceIte,reduceEqDiff]
 refine zn (Sep.m2 hS11) hW (by simp only [B0,reduceIte,reduceEqDiff]) (fun h13 hS14=>?_)
 refine zn (Sep.m1 hS14) hW (by simp only [B0,reduceIte,reduceEqDiff]) (fun h15 hS16=>?_)
 simp only [zo,qqh,qf,qe,ql,B0,reduceIte,reduceEqDiff]
 refine qi (v := .agg [lst qg v_0.Brokers,lst qd v_0.Parts,.int .i64 v_0.Next]) rfl ?_
 obtain ⟨v17,hx18,hF19⟩:=qm hF
 simp only [zg,B0,reduceIte,reduceEqDiff]
 refine qbp rfl hS16 (qk (zv (qk zh (qk zh (qk qp ze)))) ze) (qcd (fun b hb=>decide_eq_true hb) v_0 v17 hx18) ?_
 rintro _ h28 ⟨v20,c21,v24,c25,rfl,hv22,hv26,hS29⟩
 refine ⟨_,uz (qv (SlF.free1 hv22) (qv (SlN.free1 hv26) (qv rfl zx))),hS29,(js (SlF.pf hv22 (fun _=>rfl)) (js (SlN.pf hv26 Partition.RO) k9)),
   fun h30 hS31=>?_⟩
 have hS32:Sep h30 (geL h.length) (c21++(c25++([Blk1 b9 [.nil,.nil,.int .i64 0] 29]++([])))):=by simpa only [List.append_assoc,List.nil_append] using hS31
 simp only [j6,B0,reduceIte,reduceEqDiff]
 refine jg hS32 (fun b33 h34 hS35=>?_)
 simp only [zm,B0,reduceIte,reduceEqDiff]
 refine zk (us:=[v20,v24,.int .i64 v17.Next]) rfl (cs':=[v20,v24,
   .int .i64 v17.Next]) hS35 hW rfl (qv (SlF.one hv22) (qv (SlN.one hv26) (qv rfl zx))) (nle rfl) rfl (fun h37 hS38=>?_)
 simp only [qa,qs7,qf,qe,ql,B0,reduceIte,reduceEqDiff]
 refine qi (v := .agg [.int .i64 v_1.Kind,.int .i64 v_1.Broker,.int .i64 v_1.Epoch,.int .i64 v_1.Part,.int .i64 v_1.Stamp,lst cI v_1.InStep]) rfl ?_
 obtain ⟨v39,hx40,hF41⟩:=qm hF19
 simp only [zg,B0,reduceIte,reduceEqDiff]
 refine qau rfl (qi0 hW b33 v17 v20 c21 hv22 v24 c25 hv26 v_1 v39 hx40 (Sep.m2 (Sep.m2 (Sep.m2 hS38)))) ?_
 rintro _ h48 ⟨c42,v44,c45,rfl,hv43,hv46,hS49⟩
 simp only [qh,qa,qrv,qf,qe,qs,qb,kh,q2s,qy,B0,reduceIte,reduceEqDiff]
 refine qu (t:=(decide (v39.1≠0))) (fun hc50=>?_) (fun hc50=>?_)
 ·rw [iteT hc50] at hF41
  simp only [qzp,qf,qe,ql,B0,reduceIte,reduceEqDiff]
  refine qi (v := .agg [lst qg v_0.Brokers,lst qd v_0.Parts,.int .i64 v_0.Next]) rfl ?_
  obtain ⟨v51,hx52,hF53⟩:=qm hF41
  simp only [zg,B0,reduceIte,reduceEqDiff]
  refine qbp rfl hS49 (qk (zv (qk zh (qk zh (qk qp ze)))) ze) (qcd (fun b hb=>decide_eq_true hb) v_0 v51 hx52) ?_
  rintro _ h62 ⟨v54,c55,v58,c59,rfl,hv56,hv60,hS63⟩
  refine ⟨_,uz (qv (SlF.free1 hv56) (qv (SlN.free1 hv60) (qv rfl zx))),hS63,(js (SlF.pf hv56 (fun _=>rfl)) (js (SlN.pf hv60 Partition.RO) k9)),
    fun h64 hS65=>?_⟩
  have hS66:Sep h64 (geL h.length) (c55++(c59++([Blk1 b33 [v20,v44,.int .i64 v39.2.Next] 29]++(c42++(c45++([Blk1 b9 [.nil,.nil,
    .int .i64 0] 29]++([]))))))):=by simpa only [List.append_assoc,List.nil_append] using hS65
  simp only [qh,zm,B0,reduceIte,reduceEqDiff]
  refine zk (us:=[v54,v58,.int .i64 v51.Next]) rfl (cs':=[v54,v58,
    .int .i64 v51.Next]) (Sep.m5 hS66) hW rfl (qv (SlF.one hv56) (qv (SlN.one hv60) (qv rfl zx))) (nle rfl) rfl (fun h67 hS68=>?_)
  simp only [qh,qa,qx,B0,reduceIte,reduceEqDiff]
  have he:=qj hF53
  subst he
  refine k7 (qk (ym (bb:=b9) (oo:=0) (v := .agg [v54,v58,
    .int .i64 v51.Next]) (rfl) ((jf (Sep.bk _ _ _ hS68)).trans rfl)) (qk (xa (v := .int .i64 v39.1) (rfl)) ze)) ?_
  exact ⟨v54,c55,v58,c59,by first | trivial | rfl,hv56,hv60,(Sep.m1 (Sep.m1 (Sep.dc (Sep.m2 (Sep.dc (Sep.m2 (Sep.dc (Sep.m2 (Sep.dc (hS68))))))))))⟩
 rw [iteF hc50] at hF41
 simp only [za,qt5,qf,qe,qn,qb,Nat.reduceAdd,Nat.zero_add,Nat.add_zero,zb,ql,B0,reduceIte,reduceEqDiff]
 refine qi (v:=v20) ((jk (Sep.bk _ _ _ hS49)).trans rfl) ?_
 simp only [zq,qb,SlF.plen hv43,qh,qa,B0,reduceIte,reduceEqDiff]
 obtain ⟨oc77,hX79,hk80⟩:=jl hF41
 simp only [q0e]
 refine qd7 (σ:=(List Broker)) (fun i75 s109=>qax i75 s109) (fun s fr' h'=>∃ c73,fr' 2 = .ref [lst qg v_0.Brokers,
   lst qd v_0.Parts,.int .i64 v_0.Next] 0∧fr' 4 = .ptr b9 0∧fr' 6 = .ptr b33 0∧SlF qg 3 86 v20 s c73∧Sep h' (geL h.length) ([Blk1 b9 [.nil,
   .nil,.int .i64 0] 29]++([Blk1 b33 [v20,v44,.int .i64 v39.2.Next] 29]++(c73++(c45++([])))))) hX79 ⟨c42,rfl,rfl,rfl,hv43,
   (Sep.m3 (Sep.m2 (Sep.m2 (Sep.m2 hS49))))⟩ (by simp only [B0,reduceIte,reduceEqDiff]) (by simp only [B0,reduceIte,
   reduceEqDiff]) (fun _ _ _ h=>h) rfl rfl (fun _ _ _ _ h=>h) (fun _ _ _ _ h=>h) (fun _ _ _ _ h=>h) (by decide) ?_ ?_
 ·rintro i75 s72 fr89 h90 hx95 ⟨c73,f92,f93,f94,hv74,hS91⟩ f96 f97 oc78 hF81 hr82 Q83 hN84 hB88 hK85 hR86 hE87
  unfold qax at hF81
  simp only [qw3,qf,qe,f96,qh,qa,qwh,jq,f94,jd,qz,Nat.reduceAdd,Nat.zero_add,Nat.add_zero,zb,z8,B0,
    reduceIte,reduceEqDiff]
  refine zf (v:=v20) ((jk (Sep.bk _ _ _ (Sep.m1 hS91))).trans rfl) ?_
  simp only [jy,qz,f94,jd,Nat.reduceAdd,Nat.zero_add,Nat.add_zero,zb,z8,B0,reduceIte,reduceEqDiff]
  refine zf (v:=v20) ((jk (Sep.bk _ _ _ (Sep.m1 hS91))).trans rfl) ?_
  obtain ⟨x98,hx99,hF100⟩:=qm hF81
  simp only [jy,qz,ue,B0,reduceIte,reduceEqDiff]
  obtain ⟨b101,hb102⟩:=SlF.isrow hv74 (kz hx99)
  refine zf (SlF.ia hv74 hb102 hx99) ?_
  simp only [jd,qz,Nat.reduceAdd,Nat.zero_add,Nat.add_zero,zb,z8,B0,reduceIte,reduceEqDiff]
  refine zf (v := .int .i64 x98.Left) ((SlF.ld (o:=1) hv74 (Sep.m2 hS91) hb102 hx99 (fun _=>rfl) (nle rfl)).trans rfl) ?_
  simp only [qbq,qz,jb,ue,B0,reduceIte,reduceEqDiff]
  refine zf (SlF.ia hv74 hb102 hx99) ?_
  simp only [jd,qz,Nat.reduceAdd,Nat.zero_add,Nat.add_zero,zb,qcp,B0,reduceIte,reduceEqDiff]
  refine qh8 (f:=qg) (x':=(Broker.mk x98.Epoch x98.Left (decide (x98.Left=0)))) (o:=2) hv74 (Sep.m2 hS91) hW hb102 hx99 (fun _=>rfl) rfl rfl
    (nle rfl) rfl (fun c105 h103 hv106 hS104=>?_)
  have hx107:=j9 (x':=(Broker.mk x98.Epoch x98.Left (decide (x98.Left=0)))) hx99
  simp only [zp,qo,B0,reduceIte,reduceEqDiff]
  have e108:=qj hF100
  exact hN84 _ _ _ e108.symm ⟨c105,f92,f93,f94,hv106,(Sep.m3 (Sep.m3 (Sep.m1 (Sep.m3 hS104))))⟩ (f96) (f97)
 rintro s110 fr113 h114 rfl ⟨c111,f116,f117,f118,hv112,hS115⟩
 dsimp only [jnO] at hk80
 unfold qcq at hk80
 simp only [qp4,qf,qe,f118,qn,qb,Nat.reduceAdd,Nat.zero_add,Nat.add_zero,zb,ql,B0,reduceIte,reduceEqDiff]
 refine qi (v:=v44) ((jk (Sep.bk _ _ _ (Sep.m1 hS115))).trans rfl) ?_
 simp only [zq,qb,SlN.len hv46,qh,qa,B0,reduceIte,reduceEqDiff]
 obtain ⟨oc127,hX129,hk130⟩:=jl hk80
 simp only [qpy]
 refine qd7 (σ:=(List Partition)) (fun i125 s412=>yk v_0 v39 s110 i125 s412) (fun s fr' h'=>∃ c123,fr' 2 = .ref [lst qg v_0.Brokers,
   lst qd v_0.Parts,.int .i64 v_0.Next] 0∧fr' 4 = .ptr b9 0∧fr' 6 = .ptr b33 0∧SlN Partition.R 5 39 v44 s c123∧Sep h' (geL h.length) ([Blk1 b9 [.nil,
   .nil,.int .i64 0] 29]++([Blk1 b33 [v20,v44,.int .i64 v39.2.Next] 29]++(c111++(c123++([])))))) hX129 ⟨c45,f116,f117,f118,hv46,
   (Sep.m3 (Sep.m3 (Sep.m3 (Sep.m3 hS115))))⟩ (by simp only [B0,reduceIte,reduceEqDiff]) (by simp only [B0,reduceIte,
   reduceEqDiff]) (fun _ _ _ h=>h) rfl rfl (fun _ _ _ _ h=>h) (fun _ _ _ _ h=>h) (fun _ _ _ _ h=>h) (by decide) ?_ ?_
 ·rintro i125 s122 fr139 h140 hx145 ⟨c123,f142,f143,f144,hv124,hS141⟩ f146 f147 oc128 hF131 hr132 Q133 hN134 hB138 hK135 hR136 hE137
  unfold yk at hF131
  simp only [qtt,qf,qe,f146,qh,qa,qpg,f144,qn,qb,Nat.reduceAdd,Nat.zero_add,Nat.add_zero,zb,ql,B0,reduceIte,
    reduceEqDiff]
  refine qi (v:=v44) ((jk (Sep.bk _ _ _ (Sep.m1 hS141))).trans rfl) ?_
  obtain ⟨x148,hx149,hF150⟩:=qm hF131
  simp only [qh,z1,B0,reduceIte,reduceEqDiff]
  obtain ⟨b151,hb152⟩:=SlN.isrow hv124 (kz hx149)
  refine qi (SlN.ia hv124 hb152 hx149) ?_
  obtain ⟨c153,cs154,os155,hv156,hR157,hS158⟩:=SlG.opn (SlN.toG hv124 hb152 Partition.RO.len) hx149 jx Partition.RO.len (Sep.m3 hS141)
  obtain ⟨v160,c161,v164,c165,hv162,hv166,rfl,rfl⟩:=hR157
  have hS159:=Sep.no2 hS158
  simp only [qh,qa,qrl,qf,jq,jy,qz,y7,z7,jd,Nat.reduceAdd,Nat.zero_add,Nat.add_zero,zb,z8,B0,
    reduceIte,reduceEqDiff]
  refine zf (v := .int .i64 x148.Leader) ((SlG.ld (o:=2) hv156 rfl hx149 hS159 (nle rfl)).trans rfl) ?_
  simp only [qbq,qz,jb,jy,B0,reduceIte,reduceEqDiff]
  obtain ⟨v171,hx172,hF173⟩:=qm hF150
  refine qio 10 (fun fr' h'=>Sep h' (geL h.length) ([Blk1 b9 [.nil,.nil,.int .i64 0] 29]++([Blk1 b33 [v20,v44,
    .int .i64 v39.2.Next] 29]++(c153++(c111++(c161++(c165++([])))))))∧fr' 64 = .bool v171∧fr' 2 = .ref [lst qg v_0.Brokers,
    lst qd v_0.Parts,.int .i64 v_0.Next] 0∧fr' 4 = .ptr b9 0∧fr' 6 = .ptr b33 0∧fr' 9 = .int .i64 (i125:Int)∧fr' 10 = .ptr b151
    ((i125:Int).toNat*5)∧fr' 41 = .int .i64 (List.length v39.2.Parts:Int)∧fr' 42 = .int .i64 (i125:Int)) rfl (fun Q168 hN169=>?_) ?_
  ·simp only [List.take_succ_cons,List.take_zero]
   simp only [z9 (g:=54),B0,reduceIte,reduceEqDiff]
   refine qa3 (t:=(decide (x148.Leader=(-1)))) (fun hg170=>?_) (fun hg170=>?_)
   ·rw [iteT hg170] at hx172
    simp only [hg170,z9 (g:=54),qbx,u7,qz,zj,zp,qo,B0,reduceIte,reduceEqDiff]
    have e174:=qj hx172
    exact hN169 _ _ ⟨(Sep.m5 (Sep.m5 (Sep.m3 (Sep.m5 (Sep.m2 (Sep.m2 hS159)))))),by rw [←e174]; simp only [B0,reduceIte,reduceEqDiff],f142,f143,f144,rfl,rfl,f147,
      f146⟩
   ·rw [iteF hg170] at hx172
    simp only [hg170,z9 (g:=54),jo,f144,jd,qz,Nat.reduceAdd,Nat.zero_add,Nat.add_zero,zb,z8,B0,reduceIte,reduceEqDiff]
    refine zf (v:=v20) ((jk (Sep.bk _ _ _ (Sep.m4 hS159))).trans rfl) ?_
    simp only [hg170,z9 (g:=54),jo,jy,qz,y7,z7,jd,Nat.reduceAdd,Nat.zero_add,Nat.add_zero,zb,z8,B0,reduceIte,
      reduceEqDiff]
    refine zf (v := .int .i64 x148.Leader) ((SlG.ld (o:=2) hv156 rfl hx149 hS159 (nle rfl)).trans rfl) ?_
    obtain ⟨x175,hx176,hF177⟩:=qm hx172
    simp only [hg170,z9 (g:=54),jo,ue,B0,reduceIte,reduceEqDiff]
    obtain ⟨b178,hb179⟩:=SlF.isrow hv112 (kz hx176)
    refine zf (SlF.ia hv112 hb179 hx176) ?_
    simp only [hg170,z9 (g:=54),jo,jd,qz,Nat.reduceAdd,Nat.zero_add,Nat.add_zero,zb,z8,B0,reduceIte,reduceEqDiff]
    refine zf (v := .bool x175.Fenced) ((SlF.ld (o:=2) hv112 (Sep.m5 hS159) hb179 hx176 (fun _=>rfl) (nle rfl)).trans rfl) ?_
    simp only [hg170,u7,qz,zi,zp,qo,B0,reduceIte,reduceEqDiff]
    have e180:=qj hF177
    exact hN169 _ _ ⟨(Sep.m5 (Sep.m5 (Sep.m3 (Sep.m5 (Sep.m2 (Sep.m2 hS159)))))),by rw [←e180]; simp only [B0,reduceIte,reduceEqDiff],f142,f143,f144,rfl,rfl,f147,
      f146⟩
  rintro fr181 h190 ⟨hS191,f182,f183,f184,f185,f186,f187,f188,f189⟩
  simp only [List.drop_succ_cons,List.drop_zero]
  simp only [zp,qy7,f182,qy,B0,reduceIte,reduceEqDiff]
  obtain ⟨c192,hv193,hS194⟩:=SlG.cls0 (c:=c153) (os:=c161++(c165)) hv156 rfl hx149 jx (Partition.RI (x:=x148) hv162 hv166) (Sep.ni2 (c1:=c161) (c2:=c165)
    (Sep.m4 (Sep.m5 (Sep.m5 hS191))))
  have hv195:=SlG.toN hv193
  obtain ⟨s196,hX200,hk201⟩:=qm hF173
  refine qes (t:=v171) (fun fr' h'=>∃ c197,fr' 2 = .ref [lst qg v_0.Brokers,lst qd v_0.Parts,
    .int .i64 v_0.Next] 0∧fr' 4 = .ptr b9 0∧fr' 6 = .ptr b33 0∧fr' 9 = .int .i64 (i125:Int)∧fr' 10 = .ptr b151 ((i125:Int).toNat*5)∧fr' 41 = .int .i64
    (List.length v39.2.Parts:Int)∧fr' 42 = .int .i64 (i125:Int)∧SlN Partition.R 5 39 v44 s196 c197∧Sep h' (geL h.length) ([Blk1 b9 [.nil,.nil,
    .int .i64 0] 29]++([Blk1 b33 [v20,v44,.int .i64 v39.2.Next] 29]++(c197++(c111++([])))))) (fun Q202 hN203 hR204 hE205=>⟨fun hc206=>?_,fun hc206=>?_⟩) ?_
  ·rw [iteT hc206] at hX200
   simp only [q3o,jq,f187,q34,qz,f185,z8,B0,reduceIte,reduceEqDiff]
   refine zf (v := .agg [v20,v44,.int .i64 v39.2.Next]) ((jf (Sep.bk _ _ _ (Sep.m2 hS194))).trans rfl) ?_
   obtain ⟨c207,cs208,os209,hv210,hR211,hS212⟩:=SlG.opn (SlN.toG hv195 hb152 Partition.RO.len) hx149 jx Partition.RO.len hS194
   obtain ⟨v214,c215,v218,c219,hv216,hv220,rfl,rfl⟩:=hR211
   have hS213:=Sep.no2 hS212
   simp only [f187,jy,qz,y7,z7,jd,Nat.reduceAdd,Nat.zero_add,Nat.add_zero,zb,z8,B0,reduceIte,reduceEqDiff]
   refine zf (v:=v218) ((SlG.ld (o:=1) hv210 rfl hx149 hS213 (nle rfl)).trans rfl) ?_
   obtain ⟨c222,hv223,hS224⟩:=SlG.cls0 (c:=c207) (os:=c215++(c219)) hv210 rfl hx149 jx (Partition.RI (x:=x148) hv216 hv220) (Sep.ni2 (c1:=c215) (c2:=c219)
     (Sep.m2 (Sep.m2 (Sep.m2 hS213))))
   have hv225:=SlG.toN hv223
   obtain ⟨v226,hx227,hF228⟩:=qm hX200
   simp only [kq,B0,reduceIte,reduceEqDiff]
   refine qds rfl (qk (zv (qk (SlF.snap hv112 (Sep.m3 hS224) rfl (fun _=>rfl) (fun _=>rfl)) (qk (SlN.snap hv225 _ hS224 rfl Partition.RO)
     (qk qp ze)))) (qk (SlF.snap hv220 (Sep.m2 hS213) rfl (fun _=>rfl) (fun _=>rfl)) ze)) (qb7 (fun b hb=>decide_eq_true hb)
     (Control.mk s110 s122 v39.2.Next) x148.InStep v226 hx227) ?_
   simp only [y7,qz,z7,jd,Nat.reduceAdd,Nat.zero_add,Nat.add_zero,zb,qcp,B0,reduceIte,reduceEqDiff]
   refine qg7 (n:=5) (us:=[.int .i64 v226]) (cs:=[v214,v218,.int .i64 x148.Leader,.int .i64 x148.Epoch,.int .i64 x148.Stamp]) (o:=2) (cs':=[v214,v218,
     .int .i64 v226,.int .i64 x148.Epoch,.int .i64 x148.Stamp]) rfl hv210 rfl hx149 hS213 hW rfl rfl (nle rfl) rfl (fun c231 h229 hv232 hS230=>?_)
   simp only [zp,qo,B0,reduceIte,reduceEqDiff]
   obtain ⟨c233,hv234,hS235⟩:=SlG.cls (e':=(Partition.mk x148.Homes x148.InStep v226 x148.Epoch x148.Stamp)) (c:=c231) (os:=c215++(c219)) hv232 rfl hx149 jx
     (Partition.RI (x:=(Partition.mk x148.Homes x148.InStep v226 x148.Epoch x148.Stamp)) hv216 hv220) (Sep.ni2 (c1:=c215) (c2:=c219) (Sep.m2 (Sep.m2 (Sep.m2 hS230))))
   have hx236:=j9 (x':=(Partition.mk x148.Homes x148.InStep v226 x148.Epoch x148.Stamp)) hx149
   have hv237:=SlG.toN hv234
   have e238:=qj hF228
   subst e238
   exact hN203 _ _ ⟨c233,f183,f184,f185,f186,f187,f188,f189,hv237,(Sep.m3 (Sep.m3 (Sep.m1 (Sep.m3 hS235))))⟩
  ·rw [iteF hc206] at hX200
   simp only [za,qo,B0,reduceIte,reduceEqDiff]
   have e239:=qj hX200
   subst e239
   exact hN203 _ _ ⟨c192,f183,f184,f185,f186,f187,f188,f189,hv195,(Sep.m3 (Sep.m3 (Sep.m1 (Sep.m3 hS194))))⟩
  rintro fr240 h241 ⟨c197,f243,f244,f245,f246,f247,f248,f249,hv198,hS242⟩
  unfold qct at hk201
  simp only [qpj,qf,jq,f246,jy,qz,f243,jd,Nat.reduceAdd,Nat.zero_add,Nat.add_zero,qq,z8,B0,reduceIte,reduceEqDiff]
  refine zf (v:=lst qd v_0.Parts) rfl ?_
  simp only [qri,qz,zw,qbq,qcr,jy,B0,reduceIte,reduceEqDiff]
  obtain ⟨v253,hx254,hF255⟩:=qm hk201
  refine qio 12 (fun fr' h'=>Sep h' (geL h.length) ([Blk1 b9 [.nil,.nil,.int .i64 0] 29]++([Blk1 b33 [v20,v44,
    .int .i64 v39.2.Next] 29]++(c197++(c111++([])))))∧fr' 91 = .bool v253∧fr' 2 = .ref [lst qg v_0.Brokers,lst qd v_0.Parts,
    .int .i64 v_0.Next] 0∧fr' 4 = .ptr b9 0∧fr' 6 = .ptr b33 0∧fr' 10 = .ptr b151 ((i125:Int).toNat*5)∧fr' 41 = .int .i64
    (List.length v39.2.Parts:Int)∧fr' 42 = .int .i64 (i125:Int)) rfl (fun Q250 hN251=>?_) ?_
  ·simp only [List.take_succ_cons,List.take_zero]
   simp only [z9 (g:=79),B0,reduceIte,reduceEqDiff]
   refine qa3 (t:=(decide ((List.length v_0.Parts:Int)≤(i125:Int)))) (fun hg252=>?_) (fun hg252=>?_)
   ·rw [iteT hg252] at hx254
    simp only [hg252,z9 (g:=79),qbx,u7,qz,zj,zp,qo,B0,reduceIte,reduceEqDiff]
    have e256:=qj hx254
    exact hN251 _ _ ⟨(Sep.m3 (Sep.m3 (Sep.m3 (Sep.m3 hS242)))),by rw [←e256]; simp only [B0,reduceIte,reduceEqDiff],f243,f244,f245,f247,f248,f249⟩
   ·rw [iteF hg252] at hx254
    obtain ⟨x257,hx258,hF259⟩:=qm hx254
    obtain ⟨c260,cs261,os262,hv263,hR264,hS265⟩:=SlG.opn (SlN.toG hv198 hb152 Partition.RO.len) hx258 jx Partition.RO.len (Sep.m2 hS242)
    obtain ⟨v267,c268,v271,c272,hv269,hv273,rfl,rfl⟩:=hR264
    have hS266:=Sep.no2 hS265
    simp only [hg252,z9 (g:=79),jo,f247,jy,qz,y7,z7,jd,Nat.reduceAdd,Nat.zero_add,Nat.add_zero,zb,z8,B0,
      reduceIte,reduceEqDiff]
    refine zf (v := .int .i64 x257.Leader) ((SlG.ld (o:=2) hv263 rfl hx258 hS266 (nle rfl)).trans rfl) ?_
    simp only [hg252,z9 (g:=79),jo,f243,jd,qz,Nat.reduceAdd,Nat.zero_add,Nat.add_zero,qq,z8,B0,reduceIte,reduceEqDiff]
    refine zf (v:=lst qd v_0.Parts) rfl ?_
    obtain ⟨x275,hx276,hF277⟩:=qm hF259
    simp only [hg252,z9 (g:=79),jo,f246,jy,qz,ue,B0,reduceIte,reduceEqDiff]
    refine zf (v := .ref (qd x275) 0) (kc hx276 rfl) ?_
    simp only [hg252,z9 (g:=79),jo,jd,qz,Nat.reduceAdd,Nat.zero_add,Nat.add_zero,qq,z8,B0,reduceIte,reduceEqDiff]
    refine zf (v := .int .i64 x275.Leader) rfl ?_
    simp only [hg252,z9 (g:=79),jo,qbq,qz,kh,u7,zi,zp,qo,B0,reduceIte,reduceEqDiff]
    have e278:=qj hF277
    exact hN251 _ _ ⟨(Sep.m3 (Sep.m3 (Sep.m3 (Sep.m3 hS242)))),by rw [←e278]; simp only [B0,reduceIte,reduceEqDiff],f243,f244,f245,f247,f248,f249⟩
  rintro fr279 h287 ⟨hS288,f280,f281,f282,f283,f284,f285,f286⟩
  simp only [List.drop_succ_cons,List.drop_zero]
  simp only [zp,qrd,f280,qy,B0,reduceIte,reduceEqDiff]
  obtain ⟨s289,hX293,hk294⟩:=qm hF255
  refine qes (t:=v253) (fun fr' h'=>∃ c290,fr' 2 = .ref [lst qg v_0.Brokers,lst qd v_0.Parts,
    .int .i64 v_0.Next] 0∧fr' 4 = .ptr b9 0∧fr' 6 = .ptr b33 0∧fr' 10 = .ptr b151 ((i125:Int).toNat*5)∧fr' 41 = .int .i64
    (List.length v39.2.Parts:Int)∧fr' 42 = .int .i64 (i125:Int)∧SlN Partition.R 5 39 v44 s289 c290∧Sep h' (geL h.length) ([Blk1 b9 [.nil,.nil,
    .int .i64 0] 29]++([Blk1 b33 [v20,v44,.int .i64 v39.2.Next] 29]++(c290++(c111++([])))))) (fun Q295 hN296 hR297 hE298=>⟨fun hc299=>?_,fun hc299=>?_⟩) ?_
  ·rw [iteT hc299] at hX293
   obtain ⟨x300,hx301,hF302⟩:=qm hX293
   obtain ⟨c303,cs304,os305,hv306,hR307,hS308⟩:=SlG.opn (SlN.toG hv198 hb152 Partition.RO.len) hx301 jx Partition.RO.len (Sep.m2 hS288)
   obtain ⟨v310,c311,v314,c315,hv312,hv316,rfl,rfl⟩:=hR307
   have hS309:=Sep.no2 hS308
   simp only [qrz,qf,qe,f284,qh,kt,qb,z7,qn,Nat.reduceAdd,Nat.zero_add,Nat.add_zero,zb,ql,B0,reduceIte,
     reduceEqDiff]
   refine qi (v := .int .i64 x300.Stamp) ((SlG.ld (o:=4) hv306 rfl hx301 hS309 (nle rfl)).trans rfl) ?_
   simp only [qs,qb,yv,kt,z7,qn,Nat.reduceAdd,Nat.zero_add,Nat.add_zero,zb,zm,B0,reduceIte,reduceEqDiff]
   refine xd (n:=5) (us:=[.int .i64 (IntKind.wrap .i64 (x300.Stamp+1))]) (cs:=[v310,v314,.int .i64 x300.Leader,.int .i64 x300.Epoch,
     .int .i64 x300.Stamp]) (o:=4) (cs':=[v310,v314,.int .i64 x300.Leader,.int .i64 x300.Epoch,
     .int .i64 (IntKind.wrap .i64 (x300.Stamp+1))]) rfl hv306 rfl hx301 hS309 hW rfl rfl (nle rfl) rfl (fun c320 h318 hv321 hS319=>?_)
   simp only [qa,qr7,qf,qe,f284,qh,kt,qb,z7,qn,Nat.reduceAdd,Nat.zero_add,Nat.add_zero,zb,ql,B0,
     reduceIte,reduceEqDiff]
   refine qi (v := .int .i64 x300.Leader) ((SlG.ld (o:=2) hv321 rfl hx301 hS319 (nle rfl)).trans rfl) ?_
   simp only [qs,qb,kh,qa,qsh,qy,B0,reduceIte,reduceEqDiff]
   refine qu (t:=(decide (x300.Leader≠(-1)))) (fun hc322=>?_) (fun hc322=>?_)
   ·rw [iteT hc322] at hF302
    simp only [q00,qe,f284,qh,kt,qb,z7,qn,Nat.reduceAdd,Nat.zero_add,Nat.add_zero,zb,ql,B0,reduceIte,reduceEqDiff]
    refine qi (v := .int .i64 x300.Epoch) ((SlG.ld (o:=3) hv321 rfl hx301 hS319 (nle rfl)).trans rfl) ?_
    simp only [qs,qb,yv,kt,z7,qn,Nat.reduceAdd,Nat.zero_add,Nat.add_zero,zb,zm,B0,reduceIte,reduceEqDiff]
    refine xd (n:=5) (us:=[.int .i64 (IntKind.wrap .i64 (x300.Epoch+1))]) (cs:=[v310,v314,.int .i64 x300.Leader,.int .i64 x300.Epoch,
      .int .i64 (IntKind.wrap .i64 (x300.Stamp+1))]) (o:=3) (cs':=[v310,v314,.int .i64 x300.Leader,.int .i64 (IntKind.wrap .i64 (x300.Epoch+1)),
      .int .i64 (IntKind.wrap .i64 (x300.Stamp+1))]) rfl hv321 rfl hx301 hS319 hW rfl rfl (nle rfl) rfl (fun c325 h323 hv326 hS324=>?_)
    simp only [qa,qo,B0,reduceIte,reduceEqDiff]
    obtain ⟨c327,hv328,hS329⟩:=SlG.cls (e':=(Partition.mk x300.Homes x300.InStep x300.Leader (IntKind.wrap .i64 (x300.Epoch+1)) (IntKind.wrap .i64 (x300.Stamp+1))))
      (c:=c325) (os:=c311++(c315)) hv326 rfl hx301 jx (Partition.RI (x:=(Partition.mk x300.Homes x300.InStep x300.Leader (IntKind.wrap .i64 (x300.Epoch+1))
      (IntKind.wrap .i64 (x300.Stamp+1)))) hv312 hv316) (Sep.ni2 (c1:=c311) (c2:=c315) (Sep.m2 (Sep.m2 (Sep.m2 hS324))))
    have hx330:=j9 (x':=(Partition.mk x300.Homes x300.InStep x300.Leader (IntKind.wrap .i64 (x300.Epoch+1)) (IntKind.wrap .i64 (x300.Stamp+1)))) hx301
    have hv331:=SlG.toN hv328
    have e332:=qj hF302
    subst e332
    exact hN296 _ _ ⟨c327,f281,f282,f283,f284,f285,f286,hv331,(Sep.m3 (Sep.m3 (Sep.m1 (Sep.m3 hS329))))⟩
   rw [iteF hc322] at hF302
   simp only [za,qo,B0,reduceIte,reduceEqDiff]
   obtain ⟨c333,hv334,hS335⟩:=SlG.cls (e':=(Partition.mk x300.Homes x300.InStep x300.Leader x300.Epoch (IntKind.wrap .i64 (x300.Stamp+1)))) (c:=c320) (os:=c311 ++
     (c315)) hv321 rfl hx301 jx (Partition.RI (x:=(Partition.mk x300.Homes x300.InStep x300.Leader x300.Epoch (IntKind.wrap .i64 (x300.Stamp+1)))) hv312 hv316)
     (Sep.ni2 (c1:=c311) (c2:=c315) (Sep.m2 (Sep.m2 (Sep.m2 hS319))))
   have hx336:=j9 (x':=(Partition.mk x300.Homes x300.InStep x300.Leader x300.Epoch (IntKind.wrap .i64 (x300.Stamp+1)))) hx301
   have hv337:=SlG.toN hv334
   have e338:=qj hF302
   subst e338
   exact hN296 _ _ ⟨c333,f281,f282,f283,f284,f285,f286,hv337,(Sep.m3 (Sep.m3 (Sep.m1 (Sep.m3 hS335))))⟩
  ·rw [iteF hc299] at hX293
   simp only [za,qo,B0,reduceIte,reduceEqDiff]
   have e339:=qj hX293
   subst e339
   exact hN296 _ _ ⟨c197,f281,f282,f283,f284,f285,f286,hv198,(Sep.m3 (Sep.m3 (Sep.m3 (Sep.m3 hS288))))⟩
  rintro fr340 h341 ⟨c290,f343,f344,f345,f346,f347,f348,hv291,hS342⟩
  unfold qaw at hk294
  obtain ⟨x349,hx350,hF351⟩:=qm hk294
  obtain ⟨c352,cs353,os354,hv355,hR356,hS357⟩:=SlG.opn (SlN.toG hv291 hb152 Partition.RO.len) hx350 jx Partition.RO.len (Sep.m2 hS342)
  obtain ⟨v359,c360,v363,c364,hv361,hv365,rfl,rfl⟩:=hR356
  have hS358:=Sep.no2 hS357
  simp only [qpq,qf,qe,f346,qh,kt,qb,z7,qn,Nat.reduceAdd,Nat.zero_add,Nat.add_zero,zb,ql,B0,reduceIte,
    reduceEqDiff]
  refine qi (v := .int .i64 x349.Stamp) ((SlG.ld (o:=4) hv355 rfl hx350 hS358 (nle rfl)).trans rfl) ?_
  simp only [qs,qb,qii,qh,B0,reduceIte,reduceEqDiff]
  refine zt 6 (fun fr' h'=>Sep h' (geL h.length) ([Blk1 b9 [.nil,.nil,.int .i64 0] 29]++([Blk1 b33 [v20,v44,
    .int .i64 v39.2.Next] 29]++(c111++(c352++(c360++(c364++([])))))))∧fr' 122 = .bool ((decide ((1000:Int)<x349.Stamp))||(decide
    ((1000:Int)<x349.Epoch)))∧fr' 2 = .ref [lst qg v_0.Brokers,lst qd v_0.Parts,
    .int .i64 v_0.Next] 0∧fr' 4 = .ptr b9 0∧fr' 6 = .ptr b33 0∧fr' 41 = .int .i64 (List.length v39.2.Parts:Int)∧fr' 42 = .int .i64 (i125:Int))
    (fun Q367 hN368=>?_) ?_
  ·simp only [List.take_succ_cons,List.take_zero]
   simp only [qc (g:=116),B0,reduceIte,reduceEqDiff]
   refine q9 (t:=(decide ((1000:Int)<x349.Stamp))) (fun hg369=>?_) (fun hg369=>?_)
   ·simp only [hg369,qc (g:=116),zu,qr,qb,zj,qa,qo,B0,reduceIte,reduceEqDiff]
    exact hN368 _ _ ⟨(Sep.m5 (Sep.m5 (Sep.m5 (Sep.m2 (Sep.m2 (Sep.m2 hS358)))))),by rw [orT hg369]; simp only [B0,reduceIte,reduceEqDiff],f343,f344,f345,f347,f348⟩
   ·simp only [hg369,qc (g:=116),qt,f346,qh,kt,qb,z7,qn,Nat.reduceAdd,Nat.zero_add,Nat.add_zero,zb,ql,B0,
     reduceIte,reduceEqDiff]
    refine qi (v := .int .i64 x349.Epoch) ((SlG.ld (o:=3) hv355 rfl hx350 hS358 (nle rfl)).trans rfl) ?_
    simp only [hg369,qc (g:=116),qt,qs,qb,qii,qr,zi,qa,qo,B0,reduceIte,reduceEqDiff]
    exact hN368 _ _ ⟨(Sep.m5 (Sep.m5 (Sep.m5 (Sep.m2 (Sep.m2 (Sep.m2 hS358)))))),by rw [orF hg369]; simp only [B0,reduceIte,reduceEqDiff],f343,f344,f345,f347,f348⟩
  rintro fr370 h377 ⟨hS378,f371,f372,f373,f374,f375,f376⟩
  simp only [List.drop_succ_cons,List.drop_zero]
  simp only [qa,qti,f371,qy,B0,reduceIte,reduceEqDiff]
  refine qu (t:=((decide ((1000:Int)<x349.Stamp))||(decide ((1000:Int)<x349.Epoch)))) (fun hc379=>?_) (fun hc379=>?_)
  ·rw [iteT hc379] at hF351
   simp only [qqy,qf,qe,f372,ql,B0,reduceIte,reduceEqDiff]
   refine qi (v := .agg [lst qg v_0.Brokers,lst qd v_0.Parts,.int .i64 v_0.Next]) rfl ?_
   obtain ⟨v380,hx381,hF382⟩:=qm hF351
   simp only [zg,B0,reduceIte,reduceEqDiff]
   refine qbp rfl hS378 (qk (zv (qk zh (qk zh (qk qp ze)))) ze) (qcd
     (fun b hb=>decide_eq_true hb) v_0 v380 hx381) ?_
   rintro _ h391 ⟨v383,c384,v387,c388,rfl,hv385,hv389,hS392⟩
   refine ⟨_,uz (qv (SlF.free1 hv385) (qv (SlN.free1 hv389) (qv rfl zx))),hS392,
     (js (SlF.pf hv385 (fun _=>rfl)) (js (SlN.pf hv389 Partition.RO) k9)),fun h393 hS394=>?_⟩
   have hS395:Sep h393 (geL h.length) (c384++(c388++([Blk1 b9 [.nil,.nil,.int .i64 0] 29]++([Blk1 b33 [v20,v44,
     .int .i64 v39.2.Next] 29]++(c111++(c352++(c360++(c364++([]))))))))):=by simpa only [List.append_assoc,List.nil_append] using hS394
   simp only [f373,zm,B0,reduceIte,reduceEqDiff]
   refine zk (us:=[v383,v387,.int .i64 v380.Next]) rfl (cs':=[v383,v387,
     .int .i64 v380.Next]) (Sep.m2 hS395) hW rfl (qv (SlF.one hv385) (qv (SlN.one hv389) (qv rfl zx))) (nle rfl) rfl (fun h396 hS397=>?_)
   simp only [qh,qa,qx,B0,reduceIte,reduceEqDiff]
   have e398:=qj hF382
   subst e398
   have ho399:=hr132 _ rfl
   have hk400:=hk130
   rw [ho399] at hk400
   dsimp only [jnO] at hk400
   apply hR136
   obtain ⟨c401,hv402,hS403⟩:=SlG.cls0 (c:=c352) (os:=c360++(c364)) hv355 rfl hx350 jx (Partition.RI (x:=x349) hv361 hv365) (Sep.ni2 (c1:=c360) (c2:=c364)
     (Sep.m7 (Sep.m7 (Sep.m7 hS397))))
   have hv404:=SlG.toN hv402
   have he:=qj hk400
   subst he
   refine k7 (qk (ym (bb:=b9) (oo:=0) (v := .agg [v383,v387,
     .int .i64 v380.Next]) (f373) ((jf (Sep.bk _ _ _ (Sep.m1 hS403))).trans rfl)) (qk (xa (v := .int .i64 4) (rfl)) ze)) ?_
   exact ⟨v383,c384,v387,c388,by first | trivial | rfl,hv385,hv389,(Sep.m1 (Sep.m1 (Sep.dc (Sep.m2 (Sep.dc (Sep.m2 (Sep.dc ((Sep.dc (hS403))))))))))⟩
  rw [iteF hc379] at hF351
  simp only [za,qo,B0,reduceIte,reduceEqDiff]
  obtain ⟨c405,hv406,hS407⟩:=SlG.cls0 (c:=c352) (os:=c360++(c364)) hv355 rfl hx350 jx (Partition.RI (x:=x349) hv361 hv365) (Sep.ni2 (c1:=c360) (c2:=c364)
    (Sep.m5 (Sep.m5 (Sep.m5 hS378))))
  have hv408:=SlG.toN hv406
  have e409:=qj hF351
  exact hN134 _ _ _ e409.symm ⟨c405,f372,f373,f374,hv408,(Sep.m3 (Sep.m3 (Sep.m3 hS407)))⟩ (f376) (f375)
 rintro s413 fr416 h417 rfl ⟨c414,f419,f420,f421,hv415,hS418⟩
 dsimp only [jnO] at hk130
 unfold qe8 at hk130
 simp only [qf,qe,f421,ql,B0,reduceIte,reduceEqDiff]
 refine qi (v := .agg [v20,v44,.int .i64 v39.2.Next]) ((jf (Sep.bk _ _ _ (Sep.m1 hS418))).trans rfl) ?_
 simp only [f420,zm,B0,reduceIte,reduceEqDiff]
 refine zk (us:=[v20,v44,.int .i64 v39.2.Next]) rfl (cs':=[v20,v44,
   .int .i64 v39.2.Next]) hS418 hW rfl (qv (SlF.one hv112) (qv (SlN.one hv415) (qv rfl zx))) (nle rfl) rfl (fun h422 hS423=>?_)
 simp only [qh,qa,qx,B0,reduceIte,reduceEqDiff]
 have he:=qj hk130
 subst he
 refine k7 (qk (ym (bb:=b9) (oo:=0) (v := .agg [v20,v44,
   .int .i64 v39.2.Next]) (f420) ((jf (Sep.bk _ _ _ hS423)).trans rfl)) (qk (xa (v := .int .i64 0) (rfl)) ze)) ?_
 exact ⟨v20,c111,v44,c414,by first | trivial | rfl,hv112,hv415,(Sep.m1 (Sep.m1 (Sep.dc ((Sep.dc (hS423))))))⟩
end Go.Proofs.Ytjloihcijdcpeaa.X
namespace Go.Proofs.Ytjloihcijdcpeaa.X
open Go
open Nat (reduceEqDiff)
theorem qjl {W:Nat→Bool}{h:Heap} (hW:∀ b,
  (geL h.length) b→W b=true) (v_0:Control) (r:Bool) (hF:qbb v_0=some r) : Ret E W 50 [.agg [lst qg v_0.Brokers,lst qd v_0.Parts,
  .int .i64 v_0.Next]] h (fun v h'=>cut h.length h' E.sz false 9 v=some (.bool r)):=by
 refine Ret.of (fn:=x50) rfl (Run.of ?_)
 unfold qbb at hF
 have zf0:zd [.agg [lst qg v_0.Brokers,lst qd v_0.Parts,.int .i64 v_0.Next]] 0 = .agg [lst qg v_0.Brokers,lst qd v_0.Parts,
   .int .i64 v_0.Next]:=rfl
 generalize zd [.agg [lst qg v_0.Brokers,lst qd v_0.Parts,.int .i64 v_0.Next]]=fr0 at zf0 ⊢
 have hS:Sep h (geL h.length) []:=Sep.nil h
 simp only [x50,qf,qe,ja,zf0,B0,reduceIte,reduceEqDiff]
 refine z0 (cs:=[lst qg v_0.Brokers,lst qd v_0.Parts,.int .i64 v_0.Next]) hS rfl rfl rfl (fun b1 h2 hS3=>?_)
 simp only [qh,qa,B0,reduceIte,reduceEqDiff]
 refine zn hS3 hW (by simp only [B0,reduceIte,reduceEqDiff]) (fun h5 hS6=>?_)
 simp only [zo,qrw,qf,qe,qn,qb,Nat.reduceAdd,Nat.zero_add,Nat.add_zero,qq,ql,B0,reduceIte,reduceEqDiff]
 refine qi (v:=lst qg v_0.Brokers) rfl ?_
 simp only [zq,qb,zw,qh,qa,qp9,qf,qe,zg,B0,reduceIte,reduceEqDiff]
 refine z5 rfl (qk qp (qk qp (qk qp ze))) (xh (fun b hb=>decide_eq_true hb) (List.length v_0.Brokers:Int) 1 6 _ rfl) ?_
 simp only [ji,qb,j5,qh,B0,reduceIte,reduceEqDiff]
 refine zt 5 (fun fr' h'=>Sep h' (geL h.length) ([])∧fr' 20 = .bool ((!(zr (List.length v_0.Brokers:Int) 1 6))||(decide ((5:Int) <
   (List.length v_0.Parts:Int))))∧fr' 1 = .ref [lst qg v_0.Brokers,lst qd v_0.Parts,
   .int .i64 v_0.Next] 0∧fr' 3 = .int .i64 (List.length v_0.Brokers:Int)) (fun Q7 hN8=>?_) ?_
 ·simp only [List.take_succ_cons,List.take_zero]
  simp only [qc (g:=15),B0,reduceIte,reduceEqDiff]
  refine q9 (t:=(!(zr (List.length v_0.Brokers:Int) 1 6))) (fun hg9=>?_) (fun hg9=>?_)
  ·simp only [hg9,qc (g:=15),zu,qr,qb,zj,qa,qo,B0,reduceIte,reduceEqDiff]
   exact hN8 _ _ ⟨hS6,by rw [orT hg9]; simp only [B0,reduceIte,reduceEqDiff],rfl,rfl⟩
  ·simp only [hg9,qc (g:=15),qt,qn,qb,Nat.reduceAdd,Nat.zero_add,Nat.add_zero,qq,ql,B0,reduceIte,reduceEqDiff]
   refine qi (v:=lst qd v_0.Parts) rfl ?_
   simp only [hg9,qc (g:=15),qt,zq,qb,zw,qs,qii,qr,zi,qa,qo,B0,reduceIte,reduceEqDiff]
   exact hN8 _ _ ⟨hS6,by rw [orF hg9]; simp only [B0,reduceIte,reduceEqDiff],rfl,rfl⟩
 rintro fr10 h14 ⟨hS15,f11,f12,f13⟩
 simp only [List.drop_succ_cons,List.drop_zero]
 simp only [f11,qh,B0,reduceIte,reduceEqDiff]
 refine zt 5 (fun fr' h'=>Sep h' (geL h.length) ([])∧fr' 26 = .bool (((!(zr (List.length v_0.Brokers:Int) 1 6))||(decide ((5:Int) <
   (List.length v_0.Parts:Int))))||(!(zr v_0.Next 1 1000)))∧fr' 1 = .ref [lst qg v_0.Brokers,lst qd v_0.Parts,
   .int .i64 v_0.Next] 0∧fr' 3 = .int .i64 (List.length v_0.Brokers:Int)) (fun Q16 hN17=>?_) ?_
 ·simp only [List.take_succ_cons,List.take_zero]
  simp only [qc (g:=21),B0,reduceIte,reduceEqDiff]
  refine q9 (t:=((!(zr (List.length v_0.Brokers:Int) 1 6))||(decide ((5:Int)<(List.length v_0.Parts:Int))))) (fun hg18=>?_) (fun hg18=>?_)
  ·simp only [hg18,qc (g:=21),zu,qr,qb,zj,qa,qo,B0,reduceIte,reduceEqDiff]
   exact hN17 _ _ ⟨hS15,by rw [orT hg18]; simp only [B0,reduceIte,reduceEqDiff],f12,f13⟩
  ·simp only [hg18,qc (g:=21),qt,f12,qn,qb,Nat.reduceAdd,Nat.zero_add,Nat.add_zero,qq,ql,B0,reduceIte,reduceEqDiff]
   refine qi (v := .int .i64 v_0.Next) rfl ?_
   simp only [hg18,qc (g:=21),qt,zg,B0,reduceIte,reduceEqDiff]
   refine z5 rfl (qk qp (qk qp (qk qp ze))) (xh (fun b hb=>decide_eq_true hb) v_0.Next 1 1000 _ rfl) ?_
   simp only [hg18,qc (g:=21),qt,ji,qb,j5,qr,zi,qa,qo,B0,reduceIte,reduceEqDiff]
   exact hN17 _ _ ⟨hS15,by rw [orF hg18]; simp only [B0,reduceIte,reduceEqDiff],f12,f13⟩
 rintro fr19 h23 ⟨hS24,f20,f21,f22⟩
 simp only [List.drop_succ_cons,List.drop_zero]
 simp only [qa,f20,qy,B0,reduceIte,reduceEqDiff]
 refine qu (t:=(((!(zr (List.length v_0.Brokers:Int) 1 6))||(decide ((5:Int)<(List.length v_0.Parts:Int))))||(!(zr v_0.Next 1 1000))))
   (fun hc25=>?_) (fun hc25=>?_)
 ·rw [iteT hc25] at hF
  simp only [qf,qe,qh,qa,qx,B0,reduceIte,reduceEqDiff]
  have he:=qj hF
  subst he
  simp only [qw,B0,reduceIte,reduceEqDiff]
  exact rfl
 rw [iteF hc25] at hF
 simp only [za,qqw,qf,qe,f21,qn,qb,Nat.reduceAdd,Nat.zero_add,Nat.add_zero,qq,ql,B0,reduceIte,reduceEqDiff]
 refine qi (v:=lst qg v_0.Brokers) rfl ?_
 simp only [zq,qb,zw,qh,qa,B0,reduceIte,reduceEqDiff]
 obtain ⟨oc28,hX30,hk31⟩:=jl hF
 simp only [q1p]
 refine yf (σ:=Unit) v_0.Brokers (fun i26 x27 _=>uc v_0 i26 x27 ) (fun s fr' h'=>fr' 1 = .ref [lst qg v_0.Brokers,
   lst qd v_0.Parts,.int .i64 v_0.Next] 0∧fr' 3 = .int .i64 (List.length v_0.Brokers:Int)∧fr' 28=lst qg v_0.Brokers∧Sep h' (geL h.length)
   ([])) hX30 ⟨f21,f22,rfl,hS24⟩ (by simp only [B0,reduceIte,reduceEqDiff]) (by simp only [B0,reduceIte,
   reduceEqDiff]) (fun _ _ _ h=>h) rfl rfl (fun _ _ _ _ h=>h) (fun _ _ _ _ h=>h) (fun _ _ _ _ h=>h) (by decide) ?_ ?_
 ·rintro i26 x27 _ fr40 h41 hx46 ⟨f43,f44,f45,hS42⟩ f47 f48 oc29 hF32 hr33 Q34 hN35 hB39 hK36 hR37 hE38
  unfold uc at hF32
  simp only [q4c,qf,qe,f45,f47,z1,B0,reduceIte,reduceEqDiff]
  refine qi (v := .ref (qg x27) 0) (ye hx46 rfl) ?_
  simp only [ql,B0,reduceIte,reduceEqDiff]
  refine qi (v := .agg [.int .i64 x27.Epoch,.int .i64 x27.Left,.bool x27.Fenced]) rfl ?_
  simp only [j6,B0,reduceIte,reduceEqDiff]
  refine jg hS42 (fun b49 h50 hS51=>?_)
  simp only [zm,B0,reduceIte,reduceEqDiff]
  refine zk (us:=[.int .i64 x27.Epoch,.int .i64 x27.Left,.bool x27.Fenced]) rfl (cs':=[.int .i64 x27.Epoch,.int .i64 x27.Left,
    .bool x27.Fenced]) hS51 hW rfl rfl (nle rfl) rfl (fun h53 hS54=>?_)
  simp only [qa,B0,reduceIte,reduceEqDiff]
  refine zn hS54 hW (by simp only [B0,reduceIte,reduceEqDiff]) (fun h55 hS56=>?_)
  simp only [zo,qx4,qf,qe,qn,qb,Nat.reduceAdd,Nat.zero_add,Nat.add_zero,qq,ql,B0,reduceIte,reduceEqDiff]
  refine qi (v := .int .i64 x27.Epoch) rfl ?_
  simp only [f43,qn,qb,Nat.reduceAdd,Nat.zero_add,Nat.add_zero,qq,ql,B0,reduceIte,reduceEqDiff]
  refine qi (v := .int .i64 v_0.Next) rfl ?_
  simp only [qs,qb,qgc,zg,B0,reduceIte,reduceEqDiff]
  refine z5 rfl (qk qp (qk qp (qk qp ze))) (xh (fun b hb=>decide_eq_true hb) x27.Epoch 0 (IntKind.wrap .i64 (v_0.Next - 1)) _ rfl) ?_
  simp only [ji,qb,j5,qh,B0,reduceIte,reduceEqDiff]
  refine zt 5 (fun fr' h'=>Sep h' (geL h.length) ([])∧fr' 46 = .bool ((!(zr x27.Epoch 0 (IntKind.wrap .i64 (v_0.Next - 1)))) ||
    (!(zr x27.Left 0 9)))∧fr' 1 = .ref [lst qg v_0.Brokers,lst qd v_0.Parts,
    .int .i64 v_0.Next] 0∧fr' 3 = .int .i64 (List.length v_0.Brokers:Int)∧fr' 5 = .ref [.int .i64 x27.Epoch,.int .i64 x27.Left,
    .bool x27.Fenced] 0∧fr' 28=lst qg v_0.Brokers∧fr' 29 = .int .i64 (List.length v_0.Brokers:Int)∧fr' 30 = .int .i64 (i26:Int)) (fun Q57 hN58=>?_) ?_
  ·simp only [List.take_succ_cons,List.take_zero]
   simp only [qc (g:=41),B0,reduceIte,reduceEqDiff]
   refine q9 (t:=(!(zr x27.Epoch 0 (IntKind.wrap .i64 (v_0.Next - 1))))) (fun hg59=>?_) (fun hg59=>?_)
   ·simp only [hg59,qc (g:=41),zu,qr,qb,zj,qa,qo,B0,reduceIte,reduceEqDiff]
    exact hN58 _ _ ⟨hS56,by rw [orT hg59]; simp only [B0,reduceIte,reduceEqDiff],f43,f44,rfl,f45,f48,f47⟩
   ·simp only [hg59,qc (g:=41),qt,qn,qb,Nat.reduceAdd,Nat.zero_add,Nat.add_zero,qq,ql,B0,reduceIte,reduceEqDiff]
    refine qi (v := .int .i64 x27.Left) rfl ?_
    simp only [hg59,qc (g:=41),qt,zg,B0,reduceIte,reduceEqDiff]
    refine z5 rfl (qk qp (qk qp (qk qp ze))) (xh (fun b hb=>decide_eq_true hb) x27.Left 0 9 _ rfl) ?_
    simp only [hg59,qc (g:=41),qt,ji,qb,j5,qr,zi,qa,qo,B0,reduceIte,reduceEqDiff]
    exact hN58 _ _ ⟨hS56,by rw [orF hg59]; simp only [B0,reduceIte,reduceEqDiff],f43,f44,rfl,f45,f48,f47⟩
  rintro fr60 h68 ⟨hS69,f61,f62,f63,f64,f65,f66,f67⟩
  simp only [List.drop_succ_cons,List.drop_zero]
  simp only [f61,qh,B0,reduceIte,reduceEqDiff]
  refine zt 9 (fun fr' h'=>Sep h' (geL h.length) ([])∧fr' 56 = .bool (((!(zr x27.Epoch 0 (IntKind.wrap .i64 (v_0.Next - 1))))||(!(zr x27.Left 0 9))) ||
    ((decide (x27.Epoch=0))&&(decide (x27.Left≠0))))∧fr' 1 = .ref [lst qg v_0.Brokers,lst qd v_0.Parts,
    .int .i64 v_0.Next] 0∧fr' 3 = .int .i64 (List.length v_0.Brokers:Int)∧fr' 5 = .ref [.int .i64 x27.Epoch,.int .i64 x27.Left,
    .bool x27.Fenced] 0∧fr' 28=lst qg v_0.Brokers∧fr' 29 = .int .i64 (List.length v_0.Brokers:Int)∧fr' 30 = .int .i64 (i26:Int)) (fun Q70 hN71=>?_) ?_
  ·simp only [List.take_succ_cons,List.take_zero]
   simp only [qc (g:=47),B0,reduceIte,reduceEqDiff]
   refine q9 (t:=((!(zr x27.Epoch 0 (IntKind.wrap .i64 (v_0.Next - 1))))||(!(zr x27.Left 0 9)))) (fun hg72=>?_) (fun hg72=>?_)
   ·simp only [hg72,qc (g:=47),zu,qc (g:=51),qbg,qr,qb,zj,qa,qo,B0,reduceIte,reduceEqDiff]
    exact hN71 _ _ ⟨hS69,by rw [orT hg72]; simp only [B0,reduceIte,reduceEqDiff],f62,f63,f64,f65,f66,f67⟩
   ·simp only [hg72,qc (g:=47),qt,f64,qn,qb,Nat.reduceAdd,Nat.zero_add,Nat.add_zero,qq,ql,B0,reduceIte,reduceEqDiff]
    refine qi (v := .int .i64 x27.Epoch) rfl ?_
    simp only [hg72,qc (g:=47),qt,qs,qb,jb,qh,B0,reduceIte,reduceEqDiff]
    refine zt 4 (fun fr' h'=>Sep h' (geL h.length) ([])∧fr' 55 = .bool ((decide (x27.Epoch=0))&&(decide
      (x27.Left≠0)))∧fr' 1 = .ref [lst qg v_0.Brokers,lst qd v_0.Parts,
      .int .i64 v_0.Next] 0∧fr' 3 = .int .i64 (List.length v_0.Brokers:Int)∧fr' 5 = .ref [.int .i64 x27.Epoch,.int .i64 x27.Left,
      .bool x27.Fenced] 0∧fr' 28=lst qg v_0.Brokers∧fr' 29 = .int .i64 (List.length v_0.Brokers:Int)∧fr' 30 = .int .i64 (i26:Int)∧fr' 47 = .bool
      ((!(zr x27.Epoch 0 (IntKind.wrap .i64 (v_0.Next - 1))))||(!(zr x27.Left 0 9)))) (fun Q73 hN74=>?_) ?_
    ·simp only [List.take_succ_cons,List.take_zero]
     simp only [qc (g:=51),B0,reduceIte,reduceEqDiff]
     refine q9 (t:=(decide (x27.Epoch=0))) (fun hg75=>?_) (fun hg75=>?_)
     ·simp only [hg75,qc (g:=51),q8,f64,qn,qb,Nat.reduceAdd,Nat.zero_add,Nat.add_zero,qq,ql,B0,reduceIte,reduceEqDiff]
      refine qi (v := .int .i64 x27.Left) rfl ?_
      simp only [hg75,qc (g:=51),q8,qs,qb,kh,hg72,qc (g:=47),qt,qr,zj,qa,qo,B0,
        reduceIte,reduceEqDiff]
      exact hN74 _ _ ⟨hS69,by rw [kw hg75]; simp only [B0,reduceIte,reduceEqDiff],f62,f63,f64,f65,f66,f67,by simp only [hg72,B0,reduceIte,reduceEqDiff]⟩
     ·simp only [hg75,qc (g:=51),zz,hg72,qc (g:=47),qt,qr,qb,zi,qa,qo,B0,reduceIte,
       reduceEqDiff]
      exact hN74 _ _ ⟨hS69,by rw [kv hg75]; simp only [B0,reduceIte,reduceEqDiff],f62,f63,f64,f65,f66,f67,by simp only [hg72,B0,reduceIte,reduceEqDiff]⟩
    rintro fr76 h85 ⟨hS86,f77,f78,f79,f80,f81,f82,f83,f84⟩
    simp only [List.drop_succ_cons,List.drop_zero]
    simp only [f84,hg72,qr,qb,zi,f77,qa,qo,B0,reduceIte,reduceEqDiff]
    exact hN71 _ _ ⟨hS86,by rw [orF hg72]; simp only [B0,reduceIte,reduceEqDiff],f78,f79,f80,f81,f82,f83⟩
  rintro fr87 h95 ⟨hS96,f88,f89,f90,f91,f92,f93,f94⟩
  simp only [List.drop_succ_cons,List.drop_zero]
  simp only [f88,qh,B0,reduceIte,reduceEqDiff]
  refine zt 7 (fun fr' h'=>Sep h' (geL h.length) ([])∧fr' 64 = .bool ((((!(zr x27.Epoch 0 (IntKind.wrap .i64 (v_0.Next - 1))))||(!(zr x27.Left 0 9))) ||
    ((decide (x27.Epoch=0))&&(decide (x27.Left≠0))))||(!(x27.Fenced == (decide (x27.Left=0)))))∧fr' 1 = .ref [lst qg v_0.Brokers,
    lst qd v_0.Parts,.int .i64 v_0.Next] 0∧fr' 3 = .int .i64 (List.length v_0.Brokers:Int)∧fr' 28=lst qg v_0.Brokers∧fr' 29 = .int .i64
    (List.length v_0.Brokers:Int)∧fr' 30 = .int .i64 (i26:Int)) (fun Q97 hN98=>?_) ?_
  ·simp only [List.take_succ_cons,List.take_zero]
   simp only [qc (g:=57),B0,reduceIte,reduceEqDiff]
   refine q9 (t:=(((!(zr x27.Epoch 0 (IntKind.wrap .i64 (v_0.Next - 1))))||(!(zr x27.Left 0 9)))||((decide (x27.Epoch=0))&&(decide
     (x27.Left≠0))))) (fun hg99=>?_) (fun hg99=>?_)
   ·simp only [hg99,qc (g:=57),zu,qr,qb,zj,qa,qo,B0,reduceIte,reduceEqDiff]
    exact hN98 _ _ ⟨hS96,by rw [orT hg99]; simp only [B0,reduceIte,reduceEqDiff],f89,f90,f92,f93,f94⟩
   ·simp only [hg99,qc (g:=57),qt,f91,qn,qb,Nat.reduceAdd,Nat.zero_add,Nat.add_zero,qq,ql,B0,reduceIte,reduceEqDiff]
    refine qi (v := .bool x27.Fenced) rfl ?_
    simp only [hg99,qc (g:=57),qt,f91,qn,qb,Nat.reduceAdd,Nat.zero_add,Nat.add_zero,qq,ql,B0,reduceIte,reduceEqDiff]
    refine qi (v := .int .i64 x27.Left) rfl ?_
    simp only [hg99,qc (g:=57),qt,qs,qb,jb,qeg,qfp,qr,zi,qa,qo,B0,reduceIte,reduceEqDiff]
    exact hN98 _ _ ⟨hS96,by rw [orF hg99]; simp only [B0,reduceIte,reduceEqDiff],f89,f90,f92,f93,f94⟩
  rintro fr100 h107 ⟨hS108,f101,f102,f103,f104,f105,f106⟩
  simp only [List.drop_succ_cons,List.drop_zero]
  simp only [qa,f101,qy,B0,reduceIte,reduceEqDiff]
  refine qu (t:=((((!(zr x27.Epoch 0 (IntKind.wrap .i64 (v_0.Next - 1))))||(!(zr x27.Left 0 9)))||((decide (x27.Epoch=0))&&(decide
    (x27.Left≠0))))||(!(x27.Fenced == (decide (x27.Left=0)))))) (fun hc109=>?_) (fun hc109=>?_)
  ·rw [iteT hc109] at hF32
   simp only [qf,qe,qh,qa,qx,B0,reduceIte,reduceEqDiff]
   have e110:=qj hF32
   subst e110
   have ho111:=hr33 _ rfl
   have hk112:=hk31
   rw [ho111] at hk112
   dsimp only [jnO] at hk112
   apply hR37
   have he:=qj hk112
   subst he
   simp only [qw,B0,reduceIte,reduceEqDiff]
   exact rfl
  rw [iteF hc109] at hF32
  simp only [za,qo,B0,reduceIte,reduceEqDiff]
  have e113:=qj hF32
  exact hN35 _ _ _ e113.symm ⟨f102,f103,f104,hS108⟩ (f106) (f105)
 rintro _ fr115 h116 rfl ⟨f118,f119,f120,hS117⟩
 dsimp only [jnO] at hk31
 unfold qcv at hk31
 simp only [qtn,qf,qe,f118,qn,qb,Nat.reduceAdd,Nat.zero_add,Nat.add_zero,qq,ql,B0,reduceIte,reduceEqDiff]
 refine qi (v:=lst qd v_0.Parts) rfl ?_
 simp only [zq,qb,zw,qh,qa,B0,reduceIte,reduceEqDiff]
 obtain ⟨oc123,hX125,hk126⟩:=jl hk31
 simp only [qt6]
 refine yf (σ:=Unit) v_0.Parts (fun i121 x122 _=>xz v_0 i121 x122 ) (fun s fr' h'=>fr' 1 = .ref [lst qg v_0.Brokers,
   lst qd v_0.Parts,.int .i64 v_0.Next] 0∧fr' 3 = .int .i64 (List.length v_0.Brokers:Int)∧fr' 67=lst qd v_0.Parts∧Sep h' (geL h.length)
   ([])) hX125 ⟨f118,f119,rfl,hS117⟩ (by simp only [B0,reduceIte,reduceEqDiff]) (by simp only [B0,reduceIte,
   reduceEqDiff]) (fun _ _ _ h=>h) rfl rfl (fun _ _ _ _ h=>h) (fun _ _ _ _ h=>h) (fun _ _ _ _ h=>h) (by decide) ?_ ?_
 ·rintro i121 x122 _ fr135 h136 hx141 ⟨f138,f139,f140,hS137⟩ f142 f143 oc124 hF127 hr128 Q129 hN130 hB134 hK131 hR132 hE133
  unfold xz at hF127
  simp only [qww,qf,qe,f140,f142,z1,B0,reduceIte,reduceEqDiff]
  refine qi (v := .ref (qd x122) 0) (ye hx141 rfl) ?_
  simp only [ql,B0,reduceIte,reduceEqDiff]
  refine qi (v := .agg [lst cI x122.Homes,lst cI x122.InStep,.int .i64 x122.Leader,.int .i64 x122.Epoch,.int .i64 x122.Stamp]) rfl ?_
  simp only [j6,B0,reduceIte,reduceEqDiff]
  refine jg hS137 (fun b144 h145 hS146=>?_)
  simp only [zm,B0,reduceIte,reduceEqDiff]
  refine zk (us:=[lst cI x122.Homes,lst cI x122.InStep,.int .i64 x122.Leader,.int .i64 x122.Epoch,.int .i64 x122.Stamp]) rfl (cs':=[lst cI x122.Homes,
    lst cI x122.InStep,.int .i64 x122.Leader,.int .i64 x122.Epoch,.int .i64 x122.Stamp]) hS146 hW rfl rfl (nle rfl) rfl (fun h148 hS149=>?_)
  simp only [qa,B0,reduceIte,reduceEqDiff]
  refine zn hS149 hW (by simp only [B0,reduceIte,reduceEqDiff]) (fun h150 hS151=>?_)
  simp only [zo,q1z,qf,qe,qn,qb,Nat.reduceAdd,Nat.zero_add,Nat.add_zero,qq,ql,B0,reduceIte,reduceEqDiff]
  refine qi (v:=lst cI x122.Homes) rfl ?_
  simp only [zq,qb,zw,qs,jb,qh,B0,reduceIte,reduceEqDiff]
  obtain ⟨v155,hx156,hF157⟩:=qm hF127
  refine zt 6 (fun fr' h'=>Sep h' (geL h.length) ([])∧fr' 83 = .bool v155∧fr' 1 = .ref [lst qg v_0.Brokers,lst qd v_0.Parts,
    .int .i64 v_0.Next] 0∧fr' 3 = .int .i64 (List.length v_0.Brokers:Int)∧fr' 7 = .ref [lst cI x122.Homes,lst cI x122.InStep,.int .i64 x122.Leader,
    .int .i64 x122.Epoch,.int .i64 x122.Stamp] 0∧fr' 67=lst qd v_0.Parts∧fr' 68 = .int .i64 (List.length v_0.Parts:Int)∧fr' 69 = .int .i64
    (i121:Int)) (fun Q152 hN153=>?_) ?_
  ·simp only [List.take_succ_cons,List.take_zero]
   simp only [qc (g:=77),B0,reduceIte,reduceEqDiff]
   refine q9 (t:=(decide ((List.length x122.Homes:Int)=0))) (fun hg154=>?_) (fun hg154=>?_)
   ·rw [iteT hg154] at hx156
    simp only [hg154,qc (g:=77),zu,qr,qb,zj,qa,qo,B0,reduceIte,reduceEqDiff]
    have e158:=qj hx156
    exact hN153 _ _ ⟨hS151,by rw [←e158]; simp only [B0,reduceIte,reduceEqDiff],f138,f139,rfl,f140,f143,f142⟩
   ·rw [iteF hg154] at hx156
    simp only [hg154,qc (g:=77),qt,qn,qb,Nat.reduceAdd,Nat.zero_add,Nat.add_zero,qq,ql,B0,reduceIte,reduceEqDiff]
    refine qi (v:=lst cI x122.Homes) rfl ?_
    obtain ⟨v159,hx160,hF161⟩:=qm hx156
    simp only [hg154,qc (g:=77),qt,f139,qh,zg,B0,reduceIte,reduceEqDiff]
    refine z5 rfl (qk zh (qk qp ze)) (qcu (fun b hb=>decide_eq_true hb) x122.Homes (List.length v_0.Brokers:Int) v159 hx160) ?_
    simp only [hg154,qc (g:=77),qt,ji,qb,j5,qr,zi,qa,qo,B0,reduceIte,reduceEqDiff]
    have e162:=qj hF161
    exact hN153 _ _ ⟨hS151,by rw [←e162]; simp only [B0,reduceIte,reduceEqDiff],f138,f139,rfl,f140,f143,f142⟩
  rintro fr163 h171 ⟨hS172,f164,f165,f166,f167,f168,f169,f170⟩
  simp only [List.drop_succ_cons,List.drop_zero]
  simp only [f164,qh,B0,reduceIte,reduceEqDiff]
  refine zt 5 (fun fr' h'=>Sep h' (geL h.length) ([])∧fr' 89 = .bool (v155||(decide
    ((List.length x122.InStep:Int)=0)))∧fr' 1 = .ref [lst qg v_0.Brokers,lst qd v_0.Parts,
    .int .i64 v_0.Next] 0∧fr' 3 = .int .i64 (List.length v_0.Brokers:Int)∧fr' 7 = .ref [lst cI x122.Homes,lst cI x122.InStep,.int .i64 x122.Leader,
    .int .i64 x122.Epoch,.int .i64 x122.Stamp] 0∧fr' 67=lst qd v_0.Parts∧fr' 68 = .int .i64 (List.length v_0.Parts:Int)∧fr' 69 = .int .i64
    (i121:Int)) (fun Q173 hN174=>?_) ?_
  ·simp only [List.take_succ_cons,List.take_zero]
   simp only [qc (g:=84),B0,reduceIte,reduceEqDiff]
   refine q9 (t:=v155) (fun hg175=>?_) (fun hg175=>?_)
   ·simp only [hg175,qc (g:=84),zu,qr,qb,zj,qa,qo,B0,reduceIte,reduceEqDiff]
    exact hN174 _ _ ⟨hS172,by rw [orT hg175]; simp only [B0,reduceIte,reduceEqDiff],f165,f166,f167,f168,f169,f170⟩
   ·simp only [hg175,qc (g:=84),qt,f167,qn,qb,Nat.reduceAdd,Nat.zero_add,Nat.add_zero,qq,ql,B0,reduceIte,reduceEqDiff]
    refine qi (v:=lst cI x122.InStep) rfl ?_
    simp only [hg175,qc (g:=84),qt,zq,qb,zw,qs,jb,qr,zi,qa,qo,B0,reduceIte,reduceEqDiff]
    exact hN174 _ _ ⟨hS172,by rw [orF hg175]; simp only [B0,reduceIte,reduceEqDiff],f165,f166,f167,f168,f169,f170⟩
  rintro fr176 h184 ⟨hS185,f177,f178,f179,f180,f181,f182,f183⟩
  simp only [List.drop_succ_cons,List.drop_zero]
  simp only [f177,qh,B0,reduceIte,reduceEqDiff]
  obtain ⟨v189,hx190,hF191⟩:=qm hF157
  refine zt 6 (fun fr' h'=>Sep h' (geL h.length) ([])∧fr' 96 = .bool v189∧fr' 1 = .ref [lst qg v_0.Brokers,lst qd v_0.Parts,
    .int .i64 v_0.Next] 0∧fr' 3 = .int .i64 (List.length v_0.Brokers:Int)∧fr' 7 = .ref [lst cI x122.Homes,lst cI x122.InStep,.int .i64 x122.Leader,
    .int .i64 x122.Epoch,.int .i64 x122.Stamp] 0∧fr' 67=lst qd v_0.Parts∧fr' 68 = .int .i64 (List.length v_0.Parts:Int)∧fr' 69 = .int .i64
    (i121:Int)) (fun Q186 hN187=>?_) ?_
  ·simp only [List.take_succ_cons,List.take_zero]
   simp only [qc (g:=90),B0,reduceIte,reduceEqDiff]
   refine q9 (t:=(v155||(decide ((List.length x122.InStep:Int)=0)))) (fun hg188=>?_) (fun hg188=>?_)
   ·rw [iteT hg188] at hx190
    simp only [hg188,qc (g:=90),zu,qr,qb,zj,qa,qo,B0,reduceIte,reduceEqDiff]
    have e192:=qj hx190
    exact hN187 _ _ ⟨hS185,by rw [←e192]; simp only [B0,reduceIte,reduceEqDiff],f178,f179,f180,f181,f182,f183⟩
   ·rw [iteF hg188] at hx190
    simp only [hg188,qc (g:=90),qt,f180,qn,qb,Nat.reduceAdd,Nat.zero_add,Nat.add_zero,qq,ql,B0,reduceIte,reduceEqDiff]
    refine qi (v:=lst cI x122.InStep) rfl ?_
    obtain ⟨v193,hx194,hF195⟩:=qm hx190
    simp only [hg188,qc (g:=90),qt,f179,qh,zg,B0,reduceIte,reduceEqDiff]
    refine z5 rfl (qk zh (qk qp ze)) (qcu (fun b hb=>decide_eq_true hb) x122.InStep (List.length v_0.Brokers:Int) v193 hx194) ?_
    simp only [hg188,qc (g:=90),qt,ji,qb,j5,qr,zi,qa,qo,B0,reduceIte,reduceEqDiff]
    have e196:=qj hF195
    exact hN187 _ _ ⟨hS185,by rw [←e196]; simp only [B0,reduceIte,reduceEqDiff],f178,f179,f180,f181,f182,f183⟩
  rintro fr197 h205 ⟨hS206,f198,f199,f200,f201,f202,f203,f204⟩
  simp only [List.drop_succ_cons,List.drop_zero]
  simp only [f198,qh,B0,reduceIte,reduceEqDiff]
  obtain ⟨v210,hx211,hF212⟩:=qm hF191
  refine zt 7 (fun fr' h'=>Sep h' (geL h.length) ([])∧fr' 104 = .bool v210∧fr' 1 = .ref [lst qg v_0.Brokers,lst qd v_0.Parts,
    .int .i64 v_0.Next] 0∧fr' 3 = .int .i64 (List.length v_0.Brokers:Int)∧fr' 7 = .ref [lst cI x122.Homes,lst cI x122.InStep,.int .i64 x122.Leader,
    .int .i64 x122.Epoch,.int .i64 x122.Stamp] 0∧fr' 67=lst qd v_0.Parts∧fr' 68 = .int .i64 (List.length v_0.Parts:Int)∧fr' 69 = .int .i64
    (i121:Int)) (fun Q207 hN208=>?_) ?_
  ·simp only [List.take_succ_cons,List.take_zero]
   simp only [qc (g:=97),B0,reduceIte,reduceEqDiff]
   refine q9 (t:=v189) (fun hg209=>?_) (fun hg209=>?_)
   ·rw [iteT hg209] at hx211
    simp only [hg209,qc (g:=97),zu,qr,qb,zj,qa,qo,B0,reduceIte,reduceEqDiff]
    have e213:=qj hx211
    exact hN208 _ _ ⟨hS206,by rw [←e213]; simp only [B0,reduceIte,reduceEqDiff],f199,f200,f201,f202,f203,f204⟩
   ·rw [iteF hg209] at hx211
    simp only [hg209,qc (g:=97),qt,f201,qn,qb,Nat.reduceAdd,Nat.zero_add,Nat.add_zero,qq,ql,B0,reduceIte,reduceEqDiff]
    refine qi (v:=lst cI x122.InStep) rfl ?_
    simp only [hg209,qc (g:=97),qt,f201,qn,qb,Nat.reduceAdd,Nat.zero_add,Nat.add_zero,qq,ql,B0,reduceIte,reduceEqDiff]
    refine qi (v:=lst cI x122.Homes) rfl ?_
    obtain ⟨v214,hx215,hF216⟩:=qm hx211
    simp only [hg209,qc (g:=97),qt,zg,B0,reduceIte,reduceEqDiff]
    refine z5 rfl (qk zh (qk zh ze)) (qih (fun b hb=>decide_eq_true hb) x122.InStep x122.Homes v214 hx215) ?_
    simp only [hg209,qc (g:=97),qt,ji,qb,j5,qr,zi,qa,qo,B0,reduceIte,reduceEqDiff]
    have e217:=qj hF216
    exact hN208 _ _ ⟨hS206,by rw [←e217]; simp only [B0,reduceIte,reduceEqDiff],f199,f200,f201,f202,f203,f204⟩
  rintro fr218 h226 ⟨hS227,f219,f220,f221,f222,f223,f224,f225⟩
  simp only [List.drop_succ_cons,List.drop_zero]
  simp only [f219,qh,B0,reduceIte,reduceEqDiff]
  refine zt 5 (fun fr' h'=>Sep h' (geL h.length) ([])∧fr' 110 = .bool (v210||(!(zr x122.Epoch 0 1000)))∧fr' 1 = .ref [lst qg v_0.Brokers,
    lst qd v_0.Parts,.int .i64 v_0.Next] 0∧fr' 3 = .int .i64 (List.length v_0.Brokers:Int)∧fr' 7 = .ref [lst cI x122.Homes,lst cI x122.InStep,
    .int .i64 x122.Leader,.int .i64 x122.Epoch,
    .int .i64 x122.Stamp] 0∧fr' 67=lst qd v_0.Parts∧fr' 68 = .int .i64 (List.length v_0.Parts:Int)∧fr' 69 = .int .i64 (i121:Int))
    (fun Q228 hN229=>?_) ?_
  ·simp only [List.take_succ_cons,List.take_zero]
   simp only [qc (g:=105),B0,reduceIte,reduceEqDiff]
   refine q9 (t:=v210) (fun hg230=>?_) (fun hg230=>?_)
   ·simp only [hg230,qc (g:=105),zu,qr,qb,zj,qa,qo,B0,reduceIte,reduceEqDiff]
    exact hN229 _ _ ⟨hS227,by rw [orT hg230]; simp only [B0,reduceIte,reduceEqDiff],f220,f221,f222,f223,f224,f225⟩
   ·simp only [hg230,qc (g:=105),qt,f222,qn,qb,Nat.reduceAdd,Nat.zero_add,Nat.add_zero,qq,ql,B0,reduceIte,reduceEqDiff]
    refine qi (v := .int .i64 x122.Epoch) rfl ?_
    simp only [hg230,qc (g:=105),qt,zg,B0,reduceIte,reduceEqDiff]
    refine z5 rfl (qk qp (qk qp (qk qp ze))) (xh (fun b hb=>decide_eq_true hb) x122.Epoch 0 1000 _ rfl) ?_
    simp only [hg230,qc (g:=105),qt,ji,qb,j5,qr,zi,qa,qo,B0,reduceIte,reduceEqDiff]
    exact hN229 _ _ ⟨hS227,by rw [orF hg230]; simp only [B0,reduceIte,reduceEqDiff],f220,f221,f222,f223,f224,f225⟩
  rintro fr231 h239 ⟨hS240,f232,f233,f234,f235,f236,f237,f238⟩
  simp only [List.drop_succ_cons,List.drop_zero]
  simp only [f232,qh,B0,reduceIte,reduceEqDiff]
  refine zt 5 (fun fr' h'=>Sep h' (geL h.length) ([])∧fr' 116 = .bool ((v210||(!(zr x122.Epoch 0 1000))) ||
    (!(zr x122.Stamp 0 1000)))∧fr' 1 = .ref [lst qg v_0.Brokers,lst qd v_0.Parts,
    .int .i64 v_0.Next] 0∧fr' 3 = .int .i64 (List.length v_0.Brokers:Int)∧fr' 7 = .ref [lst cI x122.Homes,lst cI x122.InStep,.int .i64 x122.Leader,
    .int .i64 x122.Epoch,.int .i64 x122.Stamp] 0∧fr' 67=lst qd v_0.Parts∧fr' 68 = .int .i64 (List.length v_0.Parts:Int)∧fr' 69 = .int .i64
    (i121:Int)) (fun Q241 hN242=>?_) ?_
  ·simp only [List.take_succ_cons,List.take_zero]
   simp only [qc (g:=111),B0,reduceIte,reduceEqDiff]
   refine q9 (t:=(v210||(!(zr x122.Epoch 0 1000)))) (fun hg243=>?_) (fun hg243=>?_)
   ·simp only [hg243,qc (g:=111),zu,qr,qb,zj,qa,qo,B0,reduceIte,reduceEqDiff]
    exact hN242 _ _ ⟨hS240,by rw [orT hg243]; simp only [B0,reduceIte,reduceEqDiff],f233,f234,f235,f236,f237,f238⟩
   ·simp only [hg243,qc (g:=111),qt,f235,qn,qb,Nat.reduceAdd,Nat.zero_add,Nat.add_zero,qq,ql,B0,reduceIte,reduceEqDiff]
    refine qi (v := .int .i64 x122.Stamp) rfl ?_
    simp only [hg243,qc (g:=111),qt,zg,B0,reduceIte,reduceEqDiff]
    refine z5 rfl (qk qp (qk qp (qk qp ze))) (xh (fun b hb=>decide_eq_true hb) x122.Stamp 0 1000 _ rfl) ?_
    simp only [hg243,qc (g:=111),qt,ji,qb,j5,qr,zi,qa,qo,B0,reduceIte,reduceEqDiff]
    exact hN242 _ _ ⟨hS240,by rw [orF hg243]; simp only [B0,reduceIte,reduceEqDiff],f233,f234,f235,f236,f237,f238⟩
  rintro fr244 h252 ⟨hS253,f245,f246,f247,f248,f249,f250,f251⟩
  simp only [List.drop_succ_cons,List.drop_zero]
  simp only [qa,f245,qy,B0,reduceIte,reduceEqDiff]
  refine qu (t:=((v210||(!(zr x122.Epoch 0 1000)))||(!(zr x122.Stamp 0 1000)))) (fun hc254=>?_) (fun hc254=>?_)
  ·rw [iteT hc254] at hF212
   simp only [qf,qe,qh,qa,qx,B0,reduceIte,reduceEqDiff]
   have e255:=qj hF212
   subst e255
   have ho256:=hr128 _ rfl
   have hk257:=hk126
   rw [ho256] at hk257
   dsimp only [jnO] at hk257
   apply hR132
   have he:=qj hk257
   subst he
   simp only [qw,B0,reduceIte,reduceEqDiff]
   exact rfl
  rw [iteF hc254] at hF212
  simp only [za,qzv,qf,qe,f246,ql,B0,reduceIte,reduceEqDiff]
  refine qi (v := .agg [lst qg v_0.Brokers,lst qd v_0.Parts,.int .i64 v_0.Next]) rfl ?_
  simp only [f248,qn,qb,Nat.reduceAdd,Nat.zero_add,Nat.add_zero,qq,ql,B0,reduceIte,reduceEqDiff]
  refine qi (v:=lst cI x122.InStep) rfl ?_
  obtain ⟨v258,hx259,hF260⟩:=qm hF212
  simp only [zg,B0,reduceIte,reduceEqDiff]
  refine z5 rfl (qk (zv (qk zh (qk zh (qk qp ze)))) (qk zh ze)) (qb7
    (fun b hb=>decide_eq_true hb) v_0 x122.InStep v258 hx259) ?_
  simp only [qh,qa,qwx,qf,qe,f248,qn,qb,Nat.reduceAdd,Nat.zero_add,Nat.add_zero,qq,ql,B0,reduceIte,reduceEqDiff]
  refine qi (v := .int .i64 x122.Leader) rfl ?_
  simp only [qs,qb,jb,qh,B0,reduceIte,reduceEqDiff]
  refine zt 3 (fun fr' h'=>Sep h' (geL h.length) ([])∧fr' 127 = .bool ((decide (x122.Leader=(-1)))&&(decide (v258 ≠
    (-1))))∧fr' 1 = .ref [lst qg v_0.Brokers,lst qd v_0.Parts,
    .int .i64 v_0.Next] 0∧fr' 3 = .int .i64 (List.length v_0.Brokers:Int)∧fr' 7 = .ref [lst cI x122.Homes,lst cI x122.InStep,.int .i64 x122.Leader,
    .int .i64 x122.Epoch,.int .i64 x122.Stamp] 0∧fr' 67=lst qd v_0.Parts∧fr' 68 = .int .i64 (List.length v_0.Parts:Int)∧fr' 69 = .int .i64
    (i121:Int)) (fun Q261 hN262=>?_) ?_
  ·simp only [List.take_succ_cons,List.take_zero]
   simp only [qc (g:=124),B0,reduceIte,reduceEqDiff]
   refine q9 (t:=(decide (x122.Leader=(-1)))) (fun hg263=>?_) (fun hg263=>?_)
   ·simp only [hg263,qc (g:=124),q8,qh,qs,qb,kh,qr,zj,qa,qo,B0,reduceIte,reduceEqDiff]
    exact hN262 _ _ ⟨hS253,by rw [kw hg263]; simp only [B0,reduceIte,reduceEqDiff],f246,f247,f248,f249,f250,f251⟩
   ·simp only [hg263,qc (g:=124),zz,qr,qb,zi,qa,qo,B0,reduceIte,reduceEqDiff]
    exact hN262 _ _ ⟨hS253,by rw [kv hg263]; simp only [B0,reduceIte,reduceEqDiff],f246,f247,f248,f249,f250,f251⟩
  rintro fr264 h272 ⟨hS273,f265,f266,f267,f268,f269,f270,f271⟩
  simp only [List.drop_succ_cons,List.drop_zero]
  simp only [f265,qh,B0,reduceIte,reduceEqDiff]
  obtain ⟨v277,hx278,hF279⟩:=qm hF260
  refine zt 21 (fun fr' h'=>Sep h' (geL h.length) ([])∧fr' 149 = .bool v277∧fr' 1 = .ref [lst qg v_0.Brokers,lst qd v_0.Parts,
    .int .i64 v_0.Next] 0∧fr' 3 = .int .i64 (List.length v_0.Brokers:Int)∧fr' 67=lst qd v_0.Parts∧fr' 68 = .int .i64
    (List.length v_0.Parts:Int)∧fr' 69 = .int .i64 (i121:Int)) (fun Q274 hN275=>?_) ?_
  ·simp only [List.take_succ_cons,List.take_zero]
   simp only [qc (g:=128),B0,reduceIte,reduceEqDiff]
   refine q9 (t:=((decide (x122.Leader=(-1)))&&(decide (v258≠(-1))))) (fun hg276=>?_) (fun hg276=>?_)
   ·rw [iteT hg276] at hx278
    simp only [hg276,qc (g:=128),zu,qc (g:=132),qbg,qc (g:=139),qr,qb,zj,qa,qo,B0,
      reduceIte,reduceEqDiff]
    have e280:=qj hx278
    exact hN275 _ _ ⟨hS273,by rw [←e280]; simp only [B0,reduceIte,reduceEqDiff],f266,f267,f269,f270,f271⟩
   ·rw [iteF hg276] at hx278
    simp only [hg276,qc (g:=128),qt,f268,qn,qb,Nat.reduceAdd,Nat.zero_add,Nat.add_zero,qq,ql,B0,reduceIte,reduceEqDiff]
    refine qi (v := .int .i64 x122.Leader) rfl ?_
    simp only [hg276,qc (g:=128),qt,qs,qb,kh,qh,B0,reduceIte,reduceEqDiff]
    obtain ⟨v284,hx285,hF286⟩:=qm hx278
    refine zt 16 (fun fr' h'=>Sep h' (geL h.length) ([])∧fr' 148 = .bool v284∧fr' 1 = .ref [lst qg v_0.Brokers,lst qd v_0.Parts,
      .int .i64 v_0.Next] 0∧fr' 3 = .int .i64 (List.length v_0.Brokers:Int)∧fr' 67=lst qd v_0.Parts∧fr' 68 = .int .i64
      (List.length v_0.Parts:Int)∧fr' 69 = .int .i64 (i121:Int)∧fr' 128 = .bool ((decide (x122.Leader=(-1)))&&(decide (v258≠(-1))))) (fun Q281 hN282=>?_) ?_
    ·simp only [List.take_succ_cons,List.take_zero]
     simp only [qc (g:=132),B0,reduceIte,reduceEqDiff]
     refine q9 (t:=(decide (x122.Leader≠(-1)))) (fun hg283=>?_) (fun hg283=>?_)
     ·rw [iteT hg283] at hx285
      simp only [hg283,qc (g:=132),q8,f268,qn,qb,Nat.reduceAdd,Nat.zero_add,Nat.add_zero,qq,ql,B0,reduceIte,reduceEqDiff]
      refine qi (v:=lst cI x122.InStep) rfl ?_
      simp only [hg283,qc (g:=132),q8,f268,qn,qb,Nat.reduceAdd,Nat.zero_add,Nat.add_zero,qq,ql,B0,reduceIte,reduceEqDiff]
      refine qi (v := .int .i64 x122.Leader) rfl ?_
      obtain ⟨v287,hx288,hF289⟩:=qm hx285
      simp only [hg283,qc (g:=132),q8,zg,B0,reduceIte,reduceEqDiff]
      refine z5 rfl (qk zh (qk qp ze)) (y6 (fun b hb=>decide_eq_true hb) x122.InStep x122.Leader v287 hx288) ?_
      simp only [hg283,qc (g:=132),q8,ji,qb,j5,qh,B0,reduceIte,reduceEqDiff]
      obtain ⟨v293,hx294,hF295⟩:=qm hF289
      refine zt 8 (fun fr' h'=>Sep h' (geL h.length) ([])∧fr' 147 = .bool v293∧fr' 1 = .ref [lst qg v_0.Brokers,lst qd v_0.Parts,
        .int .i64 v_0.Next] 0∧fr' 3 = .int .i64 (List.length v_0.Brokers:Int)∧fr' 67=lst qd v_0.Parts∧fr' 68 = .int .i64
        (List.length v_0.Parts:Int)∧fr' 69 = .int .i64 (i121:Int)∧fr' 128 = .bool ((decide (x122.Leader=(-1)))&&(decide (v258≠(-1))))∧fr' 132 = .bool
        (decide (x122.Leader≠(-1)))) (fun Q290 hN291=>?_) ?_
      ·simp only [List.take_succ_cons,List.take_zero]
       simp only [qc (g:=139),B0,reduceIte,reduceEqDiff]
       refine q9 (t:=(!v287)) (fun hg292=>?_) (fun hg292=>?_)
       ·rw [iteT hg292] at hx294
        simp only [hg292,qc (g:=139),zu,hg283,qc (g:=132),q8,qr,qb,zj,qa,qo,B0,reduceIte,
          reduceEqDiff]
        have e296:=qj hx294
        exact hN291 _ _ ⟨hS273,by rw [←e296]; simp only [B0,reduceIte,reduceEqDiff],f266,f267,f269,f270,f271,by simp only [hg276,B0,reduceIte,reduceEqDiff],
          by simp only [hg283,B0,reduceIte,reduceEqDiff]⟩
       ·rw [iteF hg292] at hx294
        simp only [hg292,qc (g:=139),qt,f266,qn,qb,Nat.reduceAdd,Nat.zero_add,Nat.add_zero,qq,ql,B0,reduceIte,
          reduceEqDiff]
        refine qi (v:=lst qg v_0.Brokers) rfl ?_
        simp only [hg292,qc (g:=139),qt,f268,qn,qb,Nat.reduceAdd,Nat.zero_add,Nat.add_zero,qq,ql,B0,reduceIte,
          reduceEqDiff]
        refine qi (v := .int .i64 x122.Leader) rfl ?_
        obtain ⟨x297,hx298,hF299⟩:=qm hx294
        simp only [hg292,qc (g:=139),qt,z1,B0,reduceIte,reduceEqDiff]
        refine qi (v := .ref (qg x297) 0) (kc hx298 rfl) ?_
        simp only [hg292,qc (g:=139),qt,qn,qb,Nat.reduceAdd,Nat.zero_add,Nat.add_zero,qq,ql,B0,reduceIte,reduceEqDiff]
        refine qi (v := .bool x297.Fenced) rfl ?_
        simp only [hg283,qc (g:=132),q8,hg292,qr,qb,zi,qa,qo,B0,reduceIte,reduceEqDiff]
        have e300:=qj hF299
        exact hN291 _ _ ⟨hS273,by rw [←e300]; simp only [B0,reduceIte,reduceEqDiff],f266,f267,f269,f270,f271,by simp only [hg276,B0,reduceIte,reduceEqDiff],
          by simp only [hg283,B0,reduceIte,reduceEqDiff]⟩
      rintro fr301 h310 ⟨hS311,f302,f303,f304,f305,f306,f307,f308,f309⟩
      simp only [List.drop_succ_cons,List.drop_zero]
      simp only [f308,hg276,qc (g:=128),qt,f309,hg283,qr,qb,zj,f302,qa,qo,B0,reduceIte,reduceEqDiff]
      have e312:=qj hF295
      exact hN282 _ _ ⟨hS311,by rw [←e312]; simp only [B0,reduceIte,reduceEqDiff],f303,f304,f305,f306,f307,by simp only [f308,hg276,B0,reduceIte,reduceEqDiff]⟩
     ·rw [iteF hg283] at hx285
      simp only [hg283,qc (g:=132),zz,qc (g:=139),qbg,hg276,qc (g:=128),qt,qr,qb,zi,
        qa,qo,B0,reduceIte,reduceEqDiff]
      have e313:=qj hx285
      exact hN282 _ _ ⟨hS273,by rw [←e313]; simp only [B0,reduceIte,reduceEqDiff],f266,f267,f269,f270,f271,by simp only [hg276,B0,reduceIte,reduceEqDiff]⟩
    rintro fr314 h322 ⟨hS323,f315,f316,f317,f318,f319,f320,f321⟩
    simp only [List.drop_succ_cons,List.drop_zero]
    simp only [f321,hg276,qr,qb,zi,f315,qa,qo,B0,reduceIte,reduceEqDiff]
    have e324:=qj hF286
    exact hN275 _ _ ⟨hS323,by rw [←e324]; simp only [B0,reduceIte,reduceEqDiff],f316,f317,f318,f319,f320⟩
  rintro fr325 h332 ⟨hS333,f326,f327,f328,f329,f330,f331⟩
  simp only [List.drop_succ_cons,List.drop_zero]
  simp only [qa,f326,qy,B0,reduceIte,reduceEqDiff]
  refine qu (t:=v277) (fun hc334=>?_) (fun hc334=>?_)
  ·rw [iteT hc334] at hF279
   simp only [qf,qe,qh,qa,qx,B0,reduceIte,reduceEqDiff]
   have e335:=qj hF279
   subst e335
   have ho336:=hr128 _ rfl
   have hk337:=hk126
   rw [ho336] at hk337
   dsimp only [jnO] at hk337
   apply hR132
   have he:=qj hk337
   subst he
   simp only [qw,B0,reduceIte,reduceEqDiff]
   exact rfl
  rw [iteF hc334] at hF279
  simp only [za,qo,B0,reduceIte,reduceEqDiff]
  have e338:=qj hF279
  exact hN130 _ _ _ e338.symm ⟨f327,f328,f329,hS333⟩ (f331) (f330)
 rintro _ fr340 h341 rfl ⟨f343,f344,f345,hS342⟩
 dsimp only [jnO] at hk126
 unfold qfa at hk126
 simp only [qf,qe,qh,qa,qx,B0,reduceIte,reduceEqDiff]
 have he:=qj hk126
 subst he
 simp only [qw,B0,reduceIte,reduceEqDiff]
 exact rfl
theorem qfr {W:Nat→Bool}{h:Heap} (hW:∀ b,
  (geL h.length) b→W b=true) (c_0:Control) (x_1:Command) (r:Control × Int × Bool)
  (hF:y5 c_0 x_1=some r) : Ret E W 18 [.agg [lst qg c_0.Brokers,lst qd c_0.Parts,.int .i64 c_0.Next],.agg [.int .i64 x_1.Kind,
  .int .i64 x_1.Broker,.int .i64 x_1.Epoch,.int .i64 x_1.Part,.int .i64 x_1.Stamp,lst cI x_1.InStep]] h (fun v h'=>∃ rv0_0 rc0_0 rv0_1 rc0_1,v = .tup [.agg [rv0_0,rv0_1,
  .int .i64 r.1.Next],.int .i64 r.2.1,
  .bool r.2.2]∧SlF qg 3 86 rv0_0 r.1.Brokers rc0_0∧SlN Partition.R 5 39 rv0_1 r.1.Parts rc0_1∧Sep h' (geL h.length) (rc0_0++(rc0_1++([])))):=by
 refine Ret.of (fn:=x18) rfl (Run.of ?_)
 unfold y5 at hF
 have zf0:zd [.agg [lst qg c_0.Brokers,lst qd c_0.Parts,.int .i64 c_0.Next],.agg [.int .i64 x_1.Kind,.int .i64 x_1.Broker,.int .i64 x_1.Epoch,
   .int .i64 x_1.Part,.int .i64 x_1.Stamp,lst cI x_1.InStep]] 0 = .agg [lst qg c_0.Brokers,lst qd c_0.Parts,.int .i64 c_0.Next]:=rfl
 have zf1:zd [.agg [lst qg c_0.Brokers,lst qd c_0.Parts,.int .i64 c_0.Next],.agg [.int .i64 x_1.Kind,.int .i64 x_1.Broker,.int .i64 x_1.Epoch,
   .int .i64 x_1.Part,.int .i64 x_1.Stamp,lst cI x_1.InStep]] 1 = .agg [.int .i64 x_1.Kind,.int .i64 x_1.Broker,.int .i64 x_1.Epoch,.int .i64 x_1.Part,
   .int .i64 x_1.Stamp,lst cI x_1.InStep]:=rfl
 generalize zd [.agg [lst qg c_0.Brokers,lst qd c_0.Parts,.int .i64 c_0.Next],.agg [.int .i64 x_1.Kind,.int .i64 x_1.Broker,.int .i64 x_1.Epoch,
   .int .i64 x_1.Part,.int .i64 x_1.Stamp,lst cI x_1.InStep]]=fr0 at zf0 zf1 ⊢
 have hS:Sep h (geL h.length) []:=Sep.nil h
 simp only [x18,qf,qe,ja,zf0,B0,reduceIte,reduceEqDiff]
 refine z0 (cs:=[lst qg c_0.Brokers,lst qd c_0.Parts,.int .i64 c_0.Next]) hS rfl rfl rfl (fun b1 h2 hS3=>?_)
 simp only [ja,zf1,B0,reduceIte,reduceEqDiff]
 refine z0 (cs:=[.int .i64 x_1.Kind,.int .i64 x_1.Broker,.int .i64 x_1.Epoch,.int .i64 x_1.Part,.int .i64 x_1.Stamp,
   lst cI x_1.InStep]) hS3 rfl rfl rfl (fun b5 h6 hS7=>?_)
 simp only [j6,B0,reduceIte,reduceEqDiff]
 refine jg hS7 (fun b9 h10 hS11=>?_)
 simp only [qh,qa,B0,reduceIte,reduceEqDiff]
 refine zn (Sep.m2 hS11) hW (by simp only [B0,reduceIte,reduceEqDiff]) (fun h13 hS14=>?_)
 refine zn (Sep.m1 hS14) hW (by simp only [B0,reduceIte,reduceEqDiff]) (fun h15 hS16=>?_)
 simp only [zo,qz9,qf,qe,ql,B0,reduceIte,reduceEqDiff]
 refine qi (v := .agg [lst qg c_0.Brokers,lst qd c_0.Parts,.int .i64 c_0.Next]) rfl ?_
 obtain ⟨v17,hx18,hF19⟩:=qm hF
 simp only [zg,B0,reduceIte,reduceEqDiff]
 refine z5 rfl (qk (zv (qk zh (qk zh (qk qp ze)))) ze) (qjl (fun b hb=>decide_eq_true hb) c_0 v17 hx18) ?_
 simp only [ji,qb,j5,qh,B0,reduceIte,reduceEqDiff]
 obtain ⟨v23,hx24,hF25⟩:=qm hF19
 refine zt 7 (fun fr' h'=>Sep h' (geL h.length) ([Blk1 b9 [.nil,.nil,.int .i64 0] 29]++([]))∧fr' 19 = .bool v23∧fr' 2 = .ref [lst qg c_0.Brokers,
   lst qd c_0.Parts,.int .i64 c_0.Next] 0∧fr' 3 = .ref [.int .i64 x_1.Kind,.int .i64 x_1.Broker,.int .i64 x_1.Epoch,.int .i64 x_1.Part,.int .i64 x_1.Stamp,
   lst cI x_1.InStep] 0∧fr' 4 = .ptr b9 0) (fun Q20 hN21=>?_) ?_
 ·simp only [List.take_succ_cons,List.take_zero]
  simp only [qc (g:=12),B0,reduceIte,reduceEqDiff]
  refine q9 (t:=(!v17)) (fun hg22=>?_) (fun hg22=>?_)
  ·rw [iteT hg22] at hx24
   simp only [hg22,qc (g:=12),zu,qr,qb,zj,qa,qo,B0,reduceIte,reduceEqDiff]
   have e26:=qj hx24
   exact hN21 _ _ ⟨hS16,by rw [←e26]; simp only [B0,reduceIte,reduceEqDiff],rfl,rfl,rfl⟩
  ·rw [iteF hg22] at hx24
   simp only [hg22,qc (g:=12),qt,ql,B0,reduceIte,reduceEqDiff]
   refine qi (v := .agg [.int .i64 x_1.Kind,.int .i64 x_1.Broker,.int .i64 x_1.Epoch,.int .i64 x_1.Part,.int .i64 x_1.Stamp,lst cI x_1.InStep]) rfl ?_
   simp only [hg22,qc (g:=12),qt,qn,qb,Nat.reduceAdd,Nat.zero_add,Nat.add_zero,qq,ql,B0,reduceIte,reduceEqDiff]
   refine qi (v:=lst qg c_0.Brokers) rfl ?_
   obtain ⟨v27,hx28,hF29⟩:=qm hx24
   simp only [hg22,qc (g:=12),qt,zq,qb,zw,zg,B0,reduceIte,reduceEqDiff]
   refine z5 rfl (qk (zv (qk qp (qk qp (qk qp (qk qp (qk qp (qk zh ze))))))) (qk qp ze))
     (qjh (fun b hb=>decide_eq_true hb) x_1 (List.length c_0.Brokers:Int) v27 hx28) ?_
   simp only [hg22,qc (g:=12),qt,ji,qb,j5,qr,zi,qa,qo,B0,reduceIte,reduceEqDiff]
   have e30:=qj hF29
   exact hN21 _ _ ⟨hS16,by rw [←e30]; simp only [B0,reduceIte,reduceEqDiff],rfl,rfl,rfl⟩
 rintro fr31 h36 ⟨hS37,f32,f33,f34,f35⟩
 simp only [List.drop_succ_cons,List.drop_zero]
 simp only [qa,q3x,f32,qy,B0,reduceIte,reduceEqDiff]
 refine qu (t:=v23) (fun hc38=>?_) (fun hc38=>?_)
 ·rw [iteT hc38] at hF25
  simp only [q0f,qf,qe,run_build,evp,B0,reduceIte,reduceEqDiff]
  refine qi (v := .agg [.nil,.nil,.int .i64 0]) rfl ?_
  simp only [f35,zm,B0,reduceIte,reduceEqDiff]
  refine zk (us:=[.nil,.nil,.int .i64 0]) rfl (cs':=[.nil,.nil,.int .i64 0]) hS37 hW rfl rfl (nle rfl) rfl (fun h39 hS40=>?_)
  simp only [qh,qa,qx,B0,reduceIte,reduceEqDiff]
  have he:=qj hF25
  subst he
  refine k7 (qk (ym (bb:=b9) (oo:=0) (v := .agg [.nil,.nil,
    .int .i64 0]) (f35) ((jf (Sep.bk _ _ _ hS40)).trans rfl)) (qk (xa (v := .int .i64 0) (rfl)) (qk (xa (v := .bool false) (rfl)) ze))) ?_
  exact ⟨.nil,[],.nil,[],by first | trivial | rfl,SlF.nil,SlN.nil,((Sep.dc (hS40)) : Sep _ (geL h.length) ([]))⟩
 rw [iteF hc38] at hF25
 simp only [za,q4d,qf,qe,f33,ql,B0,reduceIte,reduceEqDiff]
 refine qi (v := .agg [lst qg c_0.Brokers,lst qd c_0.Parts,.int .i64 c_0.Next]) rfl ?_
 simp only [f34,ql,B0,reduceIte,reduceEqDiff]
 refine qi (v := .agg [.int .i64 x_1.Kind,.int .i64 x_1.Broker,.int .i64 x_1.Epoch,.int .i64 x_1.Part,.int .i64 x_1.Stamp,lst cI x_1.InStep]) rfl ?_
 obtain ⟨v41,hx42,hF43⟩:=qm hF25
 simp only [zg,B0,reduceIte,reduceEqDiff]
 refine qbp rfl hS37 (qk (zv (qk zh (qk zh (qk qp ze)))) (qk (zv (qk qp (qk qp (qk qp
   (qk qp (qk qp (qk zh ze))))))) ze)) (qjk (fun b hb=>decide_eq_true hb) c_0 x_1 v41 hx42) ?_
 rintro _ h52 ⟨v44,c45,v48,c49,rfl,hv46,hv50,hS53⟩
 refine ⟨_,qkc (qv (qit (qv (SlF.free1 hv46) (qv (SlN.free1 hv50) (qv rfl zx)))) (qv rfl zx)),hS53,
   (js (SlF.pf hv46 (fun _=>rfl)) (js (SlN.pf hv50 Partition.RO) k9)),fun h54 hS55=>?_⟩
 have hS56:Sep h54 (geL h.length) (c45++(c49++([Blk1 b9 [.nil,.nil,.int .i64 0] 29]++([])))):=by simpa only [List.append_assoc,List.nil_append] using hS55
 simp only [qh,qny,qb,qib,qh4,j6,B0,reduceIte,reduceEqDiff]
 refine jg hS56 (fun b57 h58 hS59=>?_)
 simp only [zm,B0,reduceIte,reduceEqDiff]
 refine zk (us:=[v44,v48,.int .i64 v41.1.Next]) rfl (cs':=[v44,v48,
   .int .i64 v41.1.Next]) hS59 hW rfl (qv (SlF.one hv46) (qv (SlN.one hv50) (qv rfl zx))) (nle rfl) rfl (fun h61 hS62=>?_)
 simp only [qh,qa,B0,reduceIte,reduceEqDiff]
 refine zn hS62 hW (by simp only [B0,reduceIte,reduceEqDiff]) (fun h63 hS64=>?_)
 simp only [zo,q2q,qf,qe,ql,B0,reduceIte,reduceEqDiff]
 refine qi (v := .agg [v44,v48,.int .i64 v41.1.Next]) rfl ?_
 simp only [qh,f35,zm,B0,reduceIte,reduceEqDiff]
 refine zk (us:=[v44,v48,.int .i64 v41.1.Next]) rfl (cs':=[v44,v48,
   .int .i64 v41.1.Next]) (Sep.m2 hS64) hW rfl (qv (SlF.one hv46) (qv (SlN.one hv50) (qv rfl zx))) (nle rfl) rfl (fun h65 hS66=>?_)
 simp only [qh,qa,qx,B0,reduceIte,reduceEqDiff]
 have he:=qj hF43
 subst he
 refine k7 (qk (ym (bb:=b9) (oo:=0) (v := .agg [v44,v48,
   .int .i64 v41.1.Next]) (f35) ((jf (Sep.bk _ _ _ hS66)).trans rfl)) (qk (xa (v := .int .i64 v41.2) (rfl)) (qk (xa (v := .bool true) (rfl)) ze))) ?_
 exact ⟨v44,c45,v48,c49,by first | trivial | rfl,hv46,hv50,(Sep.m1 (Sep.m1 (Sep.dc (hS66))))⟩
theorem wc {W:Nat→Bool}{h:Heap} (hW:∀ b,
  (geL h.length) b→W b=true) (n_0:Int) (lo_1:Int) (hi_2:Int) (r:Bool) (hF:some (zl n_0 lo_1 hi_2)=some r) : Ret E W 58 [.int .i64 n_0,.int .i64 lo_1,
  .int .i64 hi_2] h (fun v h'=>cut h.length h' E.sz false 9 v=some (.bool r)):=by
 refine Ret.of (fn:=x58) rfl (Run.of ?_)
 unfold zl at hF
 have zf0:zd [.int .i64 n_0,.int .i64 lo_1,.int .i64 hi_2] 0 = .int .i64 n_0:=rfl
 have zf1:zd [.int .i64 n_0,.int .i64 lo_1,.int .i64 hi_2] 1 = .int .i64 lo_1:=rfl
 have zf2:zd [.int .i64 n_0,.int .i64 lo_1,.int .i64 hi_2] 2 = .int .i64 hi_2:=rfl
 generalize zd [.int .i64 n_0,.int .i64 lo_1,.int .i64 hi_2]=fr0 at zf0 zf1 zf2 ⊢
 have hS:Sep h (geL h.length) []:=Sep.nil h
 simp only [x58,qf,qe,qh,qa,q3z,zf0,zf1,qs,qb,qcr,B0,reduceIte,reduceEqDiff]
 refine zt 4 (fun fr' h'=>Sep h' (geL h.length) ([])∧fr' 14 = .bool ((decide (lo_1≤n_0))&&(decide (n_0≤hi_2)))) (fun Q1 hN2=>?_) ?_
 ·simp only [List.take_succ_cons,List.take_zero]
  simp only [qc (g:=10),B0,reduceIte,reduceEqDiff]
  refine q9 (t:=(decide (lo_1≤n_0))) (fun hg3=>?_) (fun hg3=>?_)
  ·simp only [hg3,qc (g:=10),q8,zf0,qh,zf2,qs,qb,q6y,qr,zj,qa,qo,B0,reduceIte,reduceEqDiff]
   exact hN2 _ _ ⟨hS,by rw [kw hg3]; simp only [B0,reduceIte,reduceEqDiff]⟩
  ·simp only [hg3,qc (g:=10),zz,qr,qb,zi,qa,qo,B0,reduceIte,reduceEqDiff]
   exact hN2 _ _ ⟨hS,by rw [kv hg3]; simp only [B0,reduceIte,reduceEqDiff]⟩
 rintro fr4 h6 ⟨hS7,f5⟩
 simp only [List.drop_succ_cons,List.drop_zero]
 simp only [f5,qh,qa,qx,B0,reduceIte,reduceEqDiff]
 have he:=qj hF
 subst he
 simp only [qw,B0,reduceIte,reduceEqDiff]
 exact rfl
end Go.Proofs.Ytjloihcijdcpeaa.X
