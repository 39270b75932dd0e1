/- The functions' code comes to what the plain functions say (7). -/
import Derived.Test.YtjloihcijdcpeaaXCH6
set_option linter.unusedVariables false
set_option linter.unusedSimpArgs false
set_option maxRecDepth 100000
namespace Go.Proofs.Ytjloihcijdcpeaa.X
open Go
open Nat (reduceEqDiff)
theorem qin {W:Nat→Bool}{h:Heap} (hW:∀ b,
  (geL h.length) b→W b=true) (c_0:Control) (r:Bool) (hF:qag c_0=some r) : Ret E W 14 [.agg [lst qe c_0.Brokers,lst qd c_0.Parts,
  .int .i64 c_0.Next]] h (fun v h'=>cut h.length h' E.sz false 9 v=some (.bool r)):=by
 refine Ret.of (fn:=x14) rfl (Run.of ?_)
 unfold qag at hF
 have zf0:zj [.agg [lst qe c_0.Brokers,lst qd c_0.Parts,.int .i64 c_0.Next]] 0 = .agg [lst qe c_0.Brokers,lst qd c_0.Parts,
   .int .i64 c_0.Next]:=rfl
 generalize zj [.agg [lst qe c_0.Brokers,lst qd c_0.Parts,.int .i64 c_0.Next]]=fr0 at zf0 ⊢
 have hS:Sep h (geL h.length) []:=Sep.nil h
 simp only [x14,qh,qf,ju,zf0,B0,reduceIte,reduceEqDiff]
 refine je (cs:=[lst qe c_0.Brokers,lst qd c_0.Parts,.int .i64 c_0.Next]) hS rfl rfl rfl (fun b1 h2 hS3=>?_)
 simp only [qg,qa,B0,reduceIte,reduceEqDiff]
 refine zw hS3 hW (by simp only [B0,reduceIte,reduceEqDiff]) (fun h5 hS6=>?_)
 simp only [zv,qh,qf,ql,B0,reduceIte,reduceEqDiff]
 refine qi (v := .agg [lst qe c_0.Brokers,lst qd c_0.Parts,.int .i64 c_0.Next]) rfl ?_
 obtain ⟨v7,hx8,hF9⟩:=qm hF
 simp only [zb,B0,reduceIte,reduceEqDiff]
 refine jc rfl (qn (jf (qn zo (qn zo (qn qu zg)))) zg) (qb1 (fun b hb=>decide_eq_true hb) c_0 v7 hx8) ?_
 simp only [qg,qa,q8,B0,reduceIte,reduceEqDiff]
 have he:=qj hF9
 subst he
 simp only [zc,B0,reduceIte,reduceEqDiff]
 exact rfl
theorem qb2 {W:Nat→Bool}{h:Heap} (hW:∀ b,
  (geL h.length) b→W b=true) (l_0:List Int) (n_1:Int) (r:Bool) (hF:wg l_0 n_1=some r) : Ret E W 15 [lst cI l_0,
  .int .i64 n_1] h (fun v h'=>cut h.length h' E.sz false 9 v=some (.bool r)):=by
 refine Ret.of (fn:=x15) rfl (Run.of ?_)
 unfold wg at hF
 have zf0:zj [lst cI l_0,.int .i64 n_1] 0=lst cI l_0:=rfl
 have zf1:zj [lst cI l_0,.int .i64 n_1] 1 = .int .i64 n_1:=rfl
 generalize zj [lst cI l_0,.int .i64 n_1]=fr0 at zf0 zf1 ⊢
 have hS:Sep h (geL h.length) []:=Sep.nil h
 simp only [x15,qh,qf,qg,qa,q0h,zf0,zr,qb,zx,B0,reduceIte,reduceEqDiff]
 obtain ⟨oc3,hX5,hk6⟩:=jd hF
 simp only [q29]
 refine kn (σ:=Unit) l_0 (fun i1 x2 _=>qe2 n_1 i1 x2 ) (fun s fr' h'=>fr' 1 = .int .i64 n_1∧fr' 7=lst cI l_0∧Sep h' (geL h.length) ([])) hX5 ⟨zf1,rfl,
   hS⟩ (by simp only [B0,reduceIte,reduceEqDiff]) (by simp only [B0,reduceIte,
   reduceEqDiff]) (fun _ _ _ h=>h) rfl rfl (fun _ _ _ _ h=>h) (fun _ _ _ _ h=>h) (fun _ _ _ _ h=>h) (by decide) ?_ ?_
 ·rintro i1 x2 _ fr15 h16 hx20 ⟨f18,f19,hS17⟩ f21 f22 oc4 hF7 hr8 Q9 hN10 hB14 hK11 hR12 hE13
  unfold qe2 at hF7
  simp only [q3z,qh,qf,f19,f21,jb,B0,reduceIte,reduceEqDiff]
  refine qi (v := .ref (cI x2) 0) (ko hx20 rfl) ?_
  simp only [ql,B0,reduceIte,reduceEqDiff]
  refine qi (v := .int .i64 x2) rfl ?_
  simp only [qg,qa,qyv,qh,qf,f18,qv,qb,z4,qy,B0,reduceIte,reduceEqDiff]
  refine qw (t:=(decide (x2=n_1))) (fun hc23=>?_) (fun hc23=>?_)
  ·rw [iteT hc23] at hF7
   simp only [qh,qf,qg,qa,q8,B0,reduceIte,reduceEqDiff]
   have e24:=qj hF7
   subst e24
   have ho25:=hr8 _ rfl
   have hk26:=hk6
   rw [ho25] at hk26
   dsimp only [jnO] at hk26
   apply hR12
   have he:=qj hk26
   subst he
   simp only [zc,B0,reduceIte,reduceEqDiff]
   exact rfl
  rw [iteF hc23] at hF7
  simp only [ze,qk,B0,reduceIte,reduceEqDiff]
  have e27:=qj hF7
  exact hN10 _ _ _ e27.symm ⟨f18,f19,hS17⟩ (f21) (f22)
 rintro _ fr29 h30 rfl ⟨f32,f33,hS31⟩
 dsimp only [jnO] at hk6
 unfold qjd at hk6
 simp only [qh,qf,qg,qa,q8,B0,reduceIte,reduceEqDiff]
 have he:=qj hk6
 subst he
 simp only [zc,B0,reduceIte,reduceEqDiff]
 exact rfl
theorem qg4 {W:Nat→Bool}{h:Heap} (hW:∀ b,
  (geL h.length) b→W b=true) (c_0:Control) (broker_1:Int) (r:(List Int) × Bool)
  (hF:qak c_0 broker_1=some r) : Ret E W 16 [.agg [lst qe c_0.Brokers,lst qd c_0.Parts,.int .i64 c_0.Next],
  .int .i64 broker_1] h (fun v h'=>∃ rv0 rc0,v = .tup [rv0,.bool r.2]∧SlF cI 1 3 rv0 r.1 rc0∧Sep h' (geL h.length) (rc0++([]))):=by
 refine Ret.of (fn:=x16) rfl (Run.of ?_)
 unfold qak at hF
 have zf0:zj [.agg [lst qe c_0.Brokers,lst qd c_0.Parts,.int .i64 c_0.Next],.int .i64 broker_1] 0 = .agg [lst qe c_0.Brokers,
   lst qd c_0.Parts,.int .i64 c_0.Next]:=rfl
 have zf1:zj [.agg [lst qe c_0.Brokers,lst qd c_0.Parts,.int .i64 c_0.Next],.int .i64 broker_1] 1 = .int .i64 broker_1:=rfl
 generalize zj [.agg [lst qe c_0.Brokers,lst qd c_0.Parts,.int .i64 c_0.Next],.int .i64 broker_1]=fr0 at zf0 zf1 ⊢
 have hS:Sep h (geL h.length) []:=Sep.nil h
 simp only [x16,qh,qf,ju,zf0,B0,reduceIte,reduceEqDiff]
 refine je (cs:=[lst qe c_0.Brokers,lst qd c_0.Parts,.int .i64 c_0.Next]) hS rfl rfl rfl (fun b1 h2 hS3=>?_)
 simp only [qg,qa,B0,reduceIte,reduceEqDiff]
 refine zw hS3 hW (by simp only [B0,reduceIte,reduceEqDiff]) (fun h5 hS6=>?_)
 simp only [zv,q05,qh,qf,ql,B0,reduceIte,reduceEqDiff]
 refine qi (v := .agg [lst qe c_0.Brokers,lst qd c_0.Parts,.int .i64 c_0.Next]) rfl ?_
 obtain ⟨v7,hx8,hF9⟩:=qm hF
 simp only [zb,B0,reduceIte,reduceEqDiff]
 refine jc rfl (qn (jf (qn zo (qn zo (qn qu zg)))) zg) (qb1 (fun b hb=>decide_eq_true hb) c_0 v7 hx8) ?_
 simp only [ja,qb,jq,qg,B0,reduceIte,reduceEqDiff]
 refine zu 8 (fun fr' h'=>Sep h' (geL h.length) ([])∧fr' 17 = .bool ((!v7)||(!(zp broker_1 0 (IntKind.wrap .i64
   ((List.length c_0.Brokers:Int) - 1)))))∧fr' 1 = .int .i64 broker_1∧fr' 2 = .ref [lst qe c_0.Brokers,lst qd c_0.Parts,
   .int .i64 c_0.Next] 0) (fun Q10 hN11=>?_) ?_
 ·simp only [List.take_succ_cons,List.take_zero]
  simp only [qc (g:=9),B0,reduceIte,reduceEqDiff]
  refine qx (t:=(!v7)) (fun hg12=>?_) (fun hg12=>?_)
  ·simp only [hg12,qc (g:=9),zq,qr,qb,zh,qa,qk,B0,reduceIte,reduceEqDiff]
   exact hN11 _ _ ⟨hS6,by rw [orT hg12]; simp only [B0,reduceIte,reduceEqDiff],zf1,rfl⟩
  ·simp only [hg12,qc (g:=9),qp,zf1,qg,qo,qb,Nat.reduceAdd,Nat.zero_add,Nat.add_zero,qq,ql,B0,reduceIte,reduceEqDiff]
   refine qi (v:=lst qe c_0.Brokers) rfl ?_
   simp only [hg12,qc (g:=9),qp,zr,qb,zx,qv,qf7,zb,B0,reduceIte,reduceEqDiff]
   refine jc rfl (qn qu (qn qu (qn qu zg))) (wk (fun b hb=>decide_eq_true hb) broker_1 0 (IntKind.wrap .i64
     ((List.length c_0.Brokers:Int) - 1)) _ rfl) ?_
   simp only [hg12,qc (g:=9),qp,ja,qb,jq,qr,zi,qa,qk,B0,reduceIte,reduceEqDiff]
   exact hN11 _ _ ⟨hS6,by rw [orF hg12]; simp only [B0,reduceIte,reduceEqDiff],zf1,rfl⟩
 rintro fr13 h17 ⟨hS18,f14,f15,f16⟩
 simp only [List.drop_succ_cons,List.drop_zero]
 simp only [qa,qxq,f14,qy,B0,reduceIte,reduceEqDiff]
 refine qw (t:=((!v7)||(!(zp broker_1 0 (IntKind.wrap .i64 ((List.length c_0.Brokers:Int) - 1)))))) (fun hc19=>?_) (fun hc19=>?_)
 ·rw [iteT hc19] at hF9
  simp only [qh,qf,qg,qa,q8,B0,reduceIte,reduceEqDiff]
  have he:=qj hF9
  subst he
  simp only [qcj,B0,reduceIte,reduceEqDiff]
  exact ⟨.nil,[],by first | trivial | rfl,SlF.nil,(hS18:Sep _ (geL h.length) ([]))⟩
 rw [iteF hc19] at hF9
 simp only [ze,q2c,qh,qf,f16,ql,B0,reduceIte,reduceEqDiff]
 refine qi (v := .agg [lst qe c_0.Brokers,lst qd c_0.Parts,.int .i64 c_0.Next]) rfl ?_
 obtain ⟨v20,hx21,hF22⟩:=qm hF9
 simp only [f15,qg,zb,B0,reduceIte,reduceEqDiff]
 refine u9 rfl hS18 (qn (jf (qn zo (qn zo (qn qu zg)))) (qn qu zg)) (qei
   (fun b hb=>decide_eq_true hb) c_0 broker_1 v20 hx21) ?_
 rintro v23 h27 ⟨_,c24,rfl,hv25,hS28⟩
 refine ⟨_,qsf (SlF.free1 hv25),hS28,(j0 (SlF.pf hv25 (fun _=>rfl)) wt),fun h29 hS30=>?_⟩
 have hS31:Sep h29 (geL h.length) (c24++([])):=by simpa only [List.append_assoc,List.nil_append] using hS30
 simp only [qg,qa,q8,B0,reduceIte,reduceEqDiff]
 have he:=qj hF22
 subst he
 simp only [qcj,B0,reduceIte,reduceEqDiff]
 exact ⟨v23,c24,by first | trivial | rfl,hv25,hS31⟩
theorem qi1 {W:Nat→Bool}{h:Heap} (hW:∀ b,
  (geL h.length) b→W b=true) (k:Nat) (v_0:List Int) (r:Bool) (hF:qa3 k v_0=some r) : Ret E W 3 [lst cU8 v_0] h
  (fun v h'=>cut h.length h' E.sz false 9 v=some (.bool r)):=by
 refine Ret.of (fn:=x3) rfl (Run.of ?_)
 unfold qa3 at hF
 have zf0:zj [lst cU8 v_0] 0=lst cU8 v_0:=rfl
 generalize zj [lst cU8 v_0]=fr0 at zf0 ⊢
 have hS:Sep h (geL h.length) []:=Sep.nil h
 simp only [x3,qh,qf,qg,qa,qym,zf0,zr,qb,zx,qv,qet,qy,B0,reduceIte,reduceEqDiff]
 refine qw (t:=(decide ((1048576:Int)<(List.length v_0:Int)))) (fun hc1=>?_) (fun hc1=>?_)
 ·rw [iteT hc1] at hF
  simp only [qh,qf,qg,qa,q8,B0,reduceIte,reduceEqDiff]
  have he:=qj hF
  subst he
  simp only [zc,B0,reduceIte,reduceEqDiff]
  exact rfl
 rw [iteF hc1] at hF
 obtain ⟨v2,hx3,hF4⟩:=qm hF
 simp only [ze,qyq,qh,qf,zf0,qg,zb,B0,reduceIte,reduceEqDiff]
 refine u9 rfl hS (qn zo zg) (qgq (fun b hb=>decide_eq_true hb) k v_0 v2 hx3) ?_
 rintro _ h9 ⟨v5,c6,rfl,hv7,hS10⟩
 refine ⟨_,qcl (qs rfl (qs (qf1 (SlN.free1 hv7)) zt)),hS10,(j0 (SlN.pf hv7 Command.RO) wt),fun h11 hS12=>?_⟩
 have hS13:Sep h11 (geL h.length) (c6++([])):=by simpa only [List.append_assoc,List.nil_append] using hS12
 obtain ⟨v14,hx15,hF16⟩:=qm hF4
 simp only [qg,qad,qb,qa7,qa0,qa,q23,qh,qf,zb,B0,reduceIte,reduceEqDiff]
 refine u9 rfl hS13 (qn qu (qn (SlN.snap hv7 _ hS13 rfl Command.RO) zg)) (qh8 (fun b hb=>decide_eq_true hb) v2.1 v2.2 v14 hx15) ?_
 rintro _ h29 ⟨v17,c18,v21,c22,v25,c26,rfl,hv19,hv23,hv27,hS30⟩
 refine ⟨_,qcl (qs (qew (qs (SlF.free1 hv19) (qs (SlN.free1 hv23) (qs rfl zt)))) (qs (qf1 (SlF.free1 hv27)) (qs rfl zt))),hS30,
   (j0 (SlF.pf hv19 (fun _=>rfl)) (j0 (SlN.pf hv23 Partition.RO) (j0 (SlF.pf hv27 (fun _=>rfl)) wt))),fun h31 hS32=>?_⟩
 have hS33:Sep h31 (geL h.length) (c18++(c22++(c26++(c6++([]))))):=by simpa only [List.append_assoc,List.nil_append] using hS32
 simp only [qg,qad,qb,qa7,qa0,qjw,jg,B0,reduceIte,reduceEqDiff]
 refine z1 hS33 (fun b34 h35 hS36=>?_)
 simp only [zl,B0,reduceIte,reduceEqDiff]
 refine zf (us:=[v17,v21,.int .i64 v14.1.Next]) rfl (cs':=[v17,v21,
   .int .i64 v14.1.Next]) hS36 hW rfl (qs (SlF.one hv19) (qs (SlN.one hv23) (qs rfl zt))) (nle rfl) rfl (fun h38 hS39=>?_)
 simp only [qg,qa,B0,reduceIte,reduceEqDiff]
 refine zw hS39 hW (by simp only [B0,reduceIte,reduceEqDiff]) (fun h40 hS41=>?_)
 obtain ⟨v42,hx43,hF44⟩:=qm hF16
 simp only [zv,qz9,qh,qf,qg,zb,B0,reduceIte,reduceEqDiff]
 refine u9 rfl hS41 (qn qu (qn (SlN.snap hv7 _ (Sep.m3 hS41) rfl Command.RO) zg)) (qh9 (fun b hb=>decide_eq_true hb) k v2.1 v2.2 v42 hx43) ?_
 rintro _ h57 ⟨v45,c46,v49,c50,v53,c54,rfl,hv47,hv51,hv55,hS58⟩
 refine ⟨_,qcl (qs (qew (qs (SlF.free1 hv47) (qs (SlN.free1 hv51) (qs rfl zt)))) (qs (qf1 (SlF.free1 hv55)) (qs rfl zt))),hS58,
   (j0 (SlF.pf hv47 (fun _=>rfl)) (j0 (SlN.pf hv51 Partition.RO) (j0 (SlF.pf hv55 (fun _=>rfl)) wt))),fun h59 hS60=>?_⟩
 have hS61:Sep h59 (geL h.length) (c46++(c50++(c54++(c18++(c22++(c26++(c6++([])))))))):=by simpa only [List.append_assoc,List.nil_append] using hS60
 simp only [qg,qad,qb,qa7,qa0,qjw,jg,B0,reduceIte,reduceEqDiff]
 refine z1 hS61 (fun b62 h63 hS64=>?_)
 simp only [zl,B0,reduceIte,reduceEqDiff]
 refine zf (us:=[v45,v49,.int .i64 v42.1.Next]) rfl (cs':=[v45,v49,
   .int .i64 v42.1.Next]) hS64 hW rfl (qs (SlF.one hv47) (qs (SlN.one hv51) (qs rfl zt))) (nle rfl) rfl (fun h66 hS67=>?_)
 simp only [qg,qa,B0,reduceIte,reduceEqDiff]
 refine zw hS67 hW (by simp only [B0,reduceIte,reduceEqDiff]) (fun h68 hS69=>?_)
 simp only [zv,qyz,qh,qf,qg,qkw,qb,qg8,B0,reduceIte,reduceEqDiff]
 obtain ⟨v73,hx74,hF75⟩:=qm hF44
 refine zu 5 (fun fr' h'=>Sep h' (geL h.length) (c18++(c22++(c26++(c46++(c50++([]))))))∧fr' 52 = .bool v73∧fr' 5 = .ref [v17,v21,
   .int .i64 v14.1.Next] 0∧fr' 6=v25∧fr' 7 = .bool v14.2.2∧fr' 8 = .ref [v45,v49,.int .i64 v42.1.Next] 0) (fun Q70 hN71=>?_) ?_
 ·simp only [List.take_succ_cons,List.take_zero]
  simp only [qc (g:=47),B0,reduceIte,reduceEqDiff]
  refine qx (t:=(!(v14.2.2 == v42.2.2))) (fun hg72=>?_) (fun hg72=>?_)
  ·rw [iteT hg72] at hx74
   simp only [hg72,qc (g:=47),zq,qr,qb,zh,qa,qk,B0,reduceIte,reduceEqDiff]
   have e76:=qj hx74
   exact hN71 _ _ ⟨(Sep.m4 (Sep.m4 (Sep.m4 (Sep.m1 (Sep.m1 (Sep.dc (Sep.m5 (Sep.dc (Sep.m2 hS69))))))))),by rw [←e76]; simp only [B0,reduceIte,reduceEqDiff],rfl,rfl,rfl,
     rfl⟩
  ·rw [iteF hg72] at hx74
   obtain ⟨v77,hx78,hF79⟩:=qm hx74
   simp only [hg72,qc (g:=47),qp,qg,zb,B0,reduceIte,reduceEqDiff]
   refine jc rfl (qn (SlF.snap hv27 (Sep.m5 hS69) rfl (fun _=>rfl) (fun _=>rfl)) (qn (SlF.snap hv55 (Sep.m2 hS69) rfl (fun _=>rfl) (fun _=>rfl)) zg))
     (qeh (fun b hb=>decide_eq_true hb) v14.2.1 v42.2.1 v77 hx78) ?_
   simp only [hg72,qc (g:=47),qp,ja,qb,jq,qr,zi,qa,qk,B0,reduceIte,reduceEqDiff]
   have e80:=qj hF79
   exact hN71 _ _ ⟨(Sep.m4 (Sep.m4 (Sep.m4 (Sep.m1 (Sep.m1 (Sep.dc (Sep.m5 (Sep.dc (Sep.m2 hS69))))))))),by rw [←e80]; simp only [B0,reduceIte,reduceEqDiff],rfl,rfl,rfl,
     rfl⟩
 rintro fr81 h87 ⟨hS88,f82,f83,f84,f85,f86⟩
 simp only [List.drop_succ_cons,List.drop_zero]
 simp only [f82,qg,B0,reduceIte,reduceEqDiff]
 obtain ⟨v92,hx93,hF94⟩:=qm hF75
 refine zu 5 (fun fr' h'=>Sep h' (geL h.length) (c18++(c22++(c26++([]))))∧fr' 58 = .bool v92∧fr' 5 = .ref [v17,v21,
   .int .i64 v14.1.Next] 0∧fr' 6=v25∧fr' 7 = .bool v14.2.2) (fun Q89 hN90=>?_) ?_
 ·simp only [List.take_succ_cons,List.take_zero]
  simp only [qc (g:=53),B0,reduceIte,reduceEqDiff]
  refine qx (t:=v73) (fun hg91=>?_) (fun hg91=>?_)
  ·rw [iteT hg91] at hx93
   simp only [hg91,qc (g:=53),zq,qr,qb,zh,qa,qk,B0,reduceIte,reduceEqDiff]
   have e95:=qj hx93
   exact hN90 _ _ ⟨(Sep.m2 (Sep.m2 (Sep.m2 (Sep.dc (Sep.m3 (Sep.dc (Sep.m3 hS88))))))),by rw [←e95]; simp only [B0,reduceIte,reduceEqDiff],f83,f84,f85⟩
  ·rw [iteF hg91] at hx93
   simp only [hg91,qc (g:=53),qp,f83,ql,B0,reduceIte,reduceEqDiff]
   refine qi (v := .agg [v17,v21,.int .i64 v14.1.Next]) rfl ?_
   simp only [hg91,qc (g:=53),qp,f86,ql,B0,reduceIte,reduceEqDiff]
   refine qi (v := .agg [v45,v49,.int .i64 v42.1.Next]) rfl ?_
   obtain ⟨v96,hx97,hF98⟩:=qm hx93
   simp only [hg91,qc (g:=53),qp,zb,B0,reduceIte,reduceEqDiff]
   refine jc rfl (qn (jf (qn (SlF.snap hv19 hS88 rfl (fun _=>rfl) (fun _=>rfl)) (qn (SlN.snap hv23 _ (Sep.m1 hS88) rfl Partition.RO)
     (qn qu zg)))) (qn (jf (qn (SlF.snap hv47 (Sep.m3 hS88) rfl (fun _=>rfl) (fun _=>rfl)) (qn (SlN.snap hv51 _
     (Sep.m4 hS88) rfl Partition.RO) (qn qu zg)))) zg)) (qh7 (fun b hb=>decide_eq_true hb) v14.1 v42.1 v96 hx97) ?_
   simp only [hg91,qc (g:=53),qp,ja,qb,jq,qr,zi,qa,qk,B0,reduceIte,reduceEqDiff]
   have e99:=qj hF98
   exact hN90 _ _ ⟨(Sep.m2 (Sep.m2 (Sep.m2 (Sep.dc (Sep.m3 (Sep.dc (Sep.m3 hS88))))))),by rw [←e99]; simp only [B0,reduceIte,reduceEqDiff],f83,f84,f85⟩
 rintro fr100 h105 ⟨hS106,f101,f102,f103,f104⟩
 simp only [List.drop_succ_cons,List.drop_zero]
 simp only [qa,f101,qy,B0,reduceIte,reduceEqDiff]
 refine qw (t:=v92) (fun hc107=>?_) (fun hc107=>?_)
 ·rw [iteT hc107] at hF94
  simp only [qh,qf,qg,qa,q8,B0,reduceIte,reduceEqDiff]
  have he:=qj hF94
  subst he
  simp only [zc,B0,reduceIte,reduceEqDiff]
  exact rfl
 rw [iteF hc107] at hF94
 simp only [ze,qy9,qh,qf,f104,qg,ja,qb,jq,qa,q6d,qy,B0,reduceIte,reduceEqDiff]
 refine qw (t:=(!v14.2.2)) (fun hc108=>?_) (fun hc108=>?_)
 ·rw [iteT hc108] at hF94
  simp only [q7u,qh,qf,f103,qg,zr,qb,SlF.plen hv27,qv,z4,qa,q8,B0,reduceIte,reduceEqDiff]
  have he:=qj hF94
  subst he
  simp only [zc,B0,reduceIte,reduceEqDiff]
  exact rfl
 rw [iteF hc108] at hF94
 simp only [ze,q14,qh,qf,f102,ql,B0,reduceIte,reduceEqDiff]
 refine qi (v := .agg [v17,v21,.int .i64 v14.1.Next]) rfl ?_
 obtain ⟨v109,hx110,hF111⟩:=qm hF94
 simp only [zb,B0,reduceIte,reduceEqDiff]
 refine jc rfl (qn (jf (qn (SlF.snap hv19 hS106 rfl (fun _=>rfl) (fun _=>rfl)) (qn (SlN.snap hv23 _ (Sep.m1 hS106) rfl Partition.RO)
   (qn qu zg)))) zg) (qii (fun b hb=>decide_eq_true hb) v14.1 v109 hx110) ?_
 simp only [qg,qad,qb,qa7,qa0,qa,q1p,qh,qf,f102,ql,B0,reduceIte,reduceEqDiff]
 refine qi (v := .agg [v17,v21,.int .i64 v14.1.Next]) rfl ?_
 obtain ⟨v112,hx113,hF114⟩:=qm hF111
 simp only [zb,B0,reduceIte,reduceEqDiff]
 refine u9 rfl hS106 (qn (jf (qn (SlF.snap hv19 hS106 rfl (fun _=>rfl) (fun _=>rfl)) (qn (SlN.snap hv23 _ (Sep.m1 hS106) rfl Partition.RO)
   (qn qu zg)))) zg) (qh6 (fun b hb=>decide_eq_true hb) v14.1 v112 hx113) ?_
 rintro _ h119 ⟨v115,c116,rfl,hv117,hS120⟩
 refine ⟨_,qcl (qs (qf1 (SlF.free1 hv117)) (qs rfl zt)),hS120,(j0 (SlF.pf hv117 (fun _=>rfl)) wt),fun h121 hS122=>?_⟩
 have hS123:Sep h121 (geL h.length) (c116++(c18++(c22++(c26++([]))))):=by simpa only [List.append_assoc,List.nil_append] using hS122
 simp only [qg,qad,qb,qa7,qa0,qa,q3a,qh,qf,f102,ql,B0,reduceIte,reduceEqDiff]
 refine qi (v := .agg [v17,v21,.int .i64 v14.1.Next]) rfl ?_
 obtain ⟨v124,hx125,hF126⟩:=qm hF114
 simp only [zb,B0,reduceIte,reduceEqDiff]
 refine jc rfl (qn (jf (qn (SlF.snap hv19 (Sep.m1 hS123) rfl (fun _=>rfl) (fun _=>rfl)) (qn (SlN.snap hv23 _ (Sep.m2 hS123) rfl Partition.RO)
   (qn qu zg)))) zg) (qin (fun b hb=>decide_eq_true hb) v14.1 v124 hx125) ?_
 simp only [ja,qb,jq,qg,B0,reduceIte,reduceEqDiff]
 refine zu 3 (fun fr' h'=>Sep h' (geL h.length) (c18++(c22++(c116++([]))))∧fr' 80 = .bool ((!v124)||(!v109.2))∧fr' 5 = .ref [v17,v21,
   .int .i64 v14.1.Next] 0∧fr' 11=lst cI v109.1∧fr' 13=v115∧fr' 14 = .bool v112.2) (fun Q127 hN128=>?_) ?_
 ·simp only [List.take_succ_cons,List.take_zero]
  simp only [qc (g:=77),B0,reduceIte,reduceEqDiff]
  refine qx (t:=(!v124)) (fun hg129=>?_) (fun hg129=>?_)
  ·simp only [hg129,qc (g:=77),zq,qr,qb,zh,qa,qk,B0,reduceIte,reduceEqDiff]
   exact hN128 _ _ ⟨(Sep.m2 (Sep.m2 (Sep.dc (Sep.m3 hS123)))),by rw [orT hg129]; simp only [B0,reduceIte,reduceEqDiff],f102,rfl,rfl,rfl⟩
  ·simp only [hg129,qc (g:=77),qp,qg,ja,qb,jq,qr,zi,qa,qk,B0,reduceIte,reduceEqDiff]
   exact hN128 _ _ ⟨(Sep.m2 (Sep.m2 (Sep.dc (Sep.m3 hS123)))),by rw [orF hg129]; simp only [B0,reduceIte,reduceEqDiff],f102,rfl,rfl,rfl⟩
 rintro fr130 h136 ⟨hS137,f131,f132,f133,f134,f135⟩
 simp only [List.drop_succ_cons,List.drop_zero]
 simp only [f131,qg,B0,reduceIte,reduceEqDiff]
 refine zu 3 (fun fr' h'=>Sep h' (geL h.length) (c18++(c22++(c116++([]))))∧fr' 84 = .bool (((!v124)||(!v109.2))||(!v112.2))∧fr' 5 = .ref [v17,v21,
   .int .i64 v14.1.Next] 0∧fr' 11=lst cI v109.1∧fr' 13=v115) (fun Q138 hN139=>?_) ?_
 ·simp only [List.take_succ_cons,List.take_zero]
  simp only [qc (g:=81),B0,reduceIte,reduceEqDiff]
  refine qx (t:=((!v124)||(!v109.2))) (fun hg140=>?_) (fun hg140=>?_)
  ·simp only [hg140,qc (g:=81),zq,qr,qb,zh,qa,qk,B0,reduceIte,reduceEqDiff]
   exact hN139 _ _ ⟨(Sep.m2 (Sep.m2 (Sep.m2 hS137))),by rw [orT hg140]; simp only [B0,reduceIte,reduceEqDiff],f132,f133,f134⟩
  ·simp only [hg140,qc (g:=81),qp,f135,qg,ja,qb,jq,qr,zi,qa,qk,B0,reduceIte,reduceEqDiff]
   exact hN139 _ _ ⟨(Sep.m2 (Sep.m2 (Sep.m2 hS137))),by rw [orF hg140]; simp only [B0,reduceIte,reduceEqDiff],f132,f133,f134⟩
 rintro fr141 h146 ⟨hS147,f142,f143,f144,f145⟩
 simp only [List.drop_succ_cons,List.drop_zero]
 simp only [qa,f142,qy,B0,reduceIte,reduceEqDiff]
 refine qw (t:=(((!v124)||(!v109.2))||(!v112.2))) (fun hc148=>?_) (fun hc148=>?_)
 ·rw [iteT hc148] at hF126
  simp only [qh,qf,qg,qa,q8,B0,reduceIte,reduceEqDiff]
  have he:=qj hF126
  subst he
  simp only [zc,B0,reduceIte,reduceEqDiff]
  exact rfl
 rw [iteF hc148] at hF126
 simp only [ze,q4n,qh,qf,f143,qo,qb,Nat.reduceAdd,Nat.zero_add,Nat.add_zero,qq,ql,B0,reduceIte,reduceEqDiff]
 refine qi (v:=v21) rfl ?_
 simp only [zr,qb,SlN.len hv23,qg,qa,B0,reduceIte,reduceEqDiff]
 obtain ⟨oc157,hX159,hk160⟩:=jd hF126
 simp only [q0l]
 refine wc (σ:=(List Partition)) (fun i155 s553=>ua v14 v109 v112 i155 s553) (fun s fr' h'=>∃ c153,fr' 5 = .ref [v17,v21,
   .int .i64 v14.1.Next] 0∧fr' 11=lst cI v109.1∧fr' 13=v115∧fr' 86=v21∧SlN Partition.R 5 39 v21 s c153∧Sep h' (geL h.length) (c18++(c153++(c116 ++
   ([]))))) hX159 ⟨c22,f143,f144,f145,rfl,hv23,(Sep.m2 (Sep.m2 (Sep.m2 hS147)))⟩ (by simp only [B0,reduceIte,reduceEqDiff]) (by simp only [B0,reduceIte,
   reduceEqDiff]) (fun _ _ _ h=>h) rfl rfl (fun _ _ _ _ h=>h) (fun _ _ _ _ h=>h) (fun _ _ _ _ h=>h) (by decide) ?_ ?_
 ·rintro i155 s152 fr169 h170 hx176 ⟨c153,f172,f173,f174,f175,hv154,hS171⟩ f177 f178 oc158 hF161 hr162 Q163 hN164 hB168 hK165 hR166 hE167
  unfold ua at hF161
  obtain ⟨x179,hx180,hF181⟩:=qm hF161
  simp only [q19,qh,qf,f177,qg,f175,jb,B0,reduceIte,reduceEqDiff]
  obtain ⟨b182,hb183⟩:=SlN.isrow hv154 (k8 hx180)
  refine qi (SlN.ia hv154 hb183 hx180) ?_
  obtain ⟨c184,cs185,os186,hv187,hR188,hS189⟩:=SlG.opn (SlN.toG hv154 hb183 Partition.RO.len) hx180 jr Partition.RO.len (Sep.m1 hS171)
  obtain ⟨v191,c192,v195,c196,hv193,hv197,rfl,rfl⟩:=hR188
  have hS190:=Sep.no2 hS189
  simp only [ql,B0,reduceIte,reduceEqDiff]
  refine qi (v := .agg [v191,v195,.int .i64 x179.Leader,.int .i64 x179.Epoch,.int .i64 x179.Stamp]) ((SlG.lds (o:=0) hv187 rfl hx180 hS190 (nle rfl)).trans rfl) ?_
  simp only [jg,B0,reduceIte,reduceEqDiff]
  refine z1 hS190 (fun b199 h200 hS201=>?_)
  simp only [qg,zl,B0,reduceIte,reduceEqDiff]
  refine zf (us:=[v191,v195,.int .i64 x179.Leader,.int .i64 x179.Epoch,.int .i64 x179.Stamp]) rfl (cs':=[v191,v195,.int .i64 x179.Leader,.int .i64 x179.Epoch,
    .int .i64 x179.Stamp]) hS201 hW rfl (qs (SlF.one hv193) (qs (SlF.one hv197) (qs rfl (qs rfl (qs rfl zt))))) (nle rfl) rfl (fun h203 hS204=>?_)
  simp only [qa,B0,reduceIte,reduceEqDiff]
  refine zw hS204 hW (by simp only [B0,reduceIte,reduceEqDiff]) (fun h205 hS206=>?_)
  simp only [zv,qzb,qh,jo,qdo,qt,Nat.reduceAdd,Nat.zero_add,Nat.add_zero,qq,qcc,qbq,B0,reduceIte,reduceEqDiff]
  refine zd (v := .int .i64 x179.Leader) rfl ?_
  obtain ⟨v207,hx208,hF209⟩:=qm hF181
  simp only [qmc,qt,z4,f174,jl,qdd,B0,reduceIte,reduceEqDiff]
  refine qmj rfl (qn (SlF.snap hv117 (Sep.m4 hS206) rfl (fun _=>rfl) (fun _=>rfl)) (qn qu zg)) (qb2 (fun b hb=>decide_eq_true hb) v112.1
    (i155:Int) v207 hx208) ?_
  simp only [qlu,qt,qg8,jl,B0,reduceIte,reduceEqDiff]
  simp only [zk (g:=100),B0,reduceIte,reduceEqDiff]
  refine yk (t:=(!((decide (x179.Leader=(-1))) == v207))) (fun hg210=>?_) (fun hg210=>?_)
  ·rw [iteT hg210] at hF209
   simp only [hg210,zk (g:=100),wx,zk (g:=104),qjv,zk (g:=111),yj,qt,zh,zm,qy,
     qfb,qh,qf,qg,qa,q8,B0,reduceIte,reduceEqDiff]
   have e211:=qj hF209
   subst e211
   have ho212:=hr162 _ rfl
   have hk213:=hk160
   rw [ho212] at hk213
   dsimp only [jnO] at hk213
   apply hR166
   have he:=qj hk213
   subst he
   simp only [zc,B0,reduceIte,reduceEqDiff]
   exact rfl
  rw [iteF hg210] at hF209
  simp only [hg210,zk (g:=100),z0,z8,qt,Nat.reduceAdd,Nat.zero_add,Nat.add_zero,qq,z2,B0,reduceIte,reduceEqDiff]
  refine zd (v := .int .i64 x179.Leader) rfl ?_
  simp only [hg210,zk (g:=100),z0,u3,qt,qby,jl,B0,reduceIte,reduceEqDiff]
  simp only [zk (g:=104),B0,reduceIte,reduceEqDiff]
  refine yk (t:=(decide ((0:Int)≤x179.Leader))) (fun hg214=>?_) (fun hg214=>?_)
  ·rw [iteT hg214] at hF209
   simp only [hg214,zk (g:=104),qb9,z8,qt,Nat.reduceAdd,Nat.zero_add,Nat.add_zero,qq,z2,B0,reduceIte,reduceEqDiff]
   refine zd (v:=v195) rfl ?_
   simp only [hg214,zk (g:=104),qb9,z8,qt,Nat.reduceAdd,Nat.zero_add,Nat.add_zero,qq,z2,B0,reduceIte,reduceEqDiff]
   refine zd (v := .int .i64 x179.Leader) rfl ?_
   obtain ⟨v215,hx216,hF217⟩:=qm hF209
   simp only [hg214,zk (g:=104),qb9,xz,B0,reduceIte,reduceEqDiff]
   refine qf6 rfl (qn (SlF.snap hv197 (Sep.m2 hS206) rfl (fun _=>rfl) (fun _=>rfl)) (qn qu zg)) (qb2
     (fun b hb=>decide_eq_true hb) x179.InStep x179.Leader v215 hx216) ?_
   simp only [hg214,zk (g:=104),qb9,qgv,qt,jq,jl,B0,reduceIte,reduceEqDiff]
   simp only [zk (g:=111),B0,reduceIte,reduceEqDiff]
   refine yk (t:=(!v215)) (fun hg218=>?_) (fun hg218=>?_)
   ·rw [iteT hg218] at hF217
    simp only [hg218,zk (g:=111),wx,hg214,zk (g:=104),qb9,yj,qt,zh,hg210,zk (g:=100),z0,
      zi,zm,qy,qfb,qh,qf,qg,qa,q8,B0,reduceIte,reduceEqDiff]
    have e219:=qj hF217
    subst e219
    have ho220:=hr162 _ rfl
    have hk221:=hk160
    rw [ho220] at hk221
    dsimp only [jnO] at hk221
    apply hR166
    have he:=qj hk221
    subst he
    simp only [zc,B0,reduceIte,reduceEqDiff]
    exact rfl
   rw [iteF hg218] at hF217
   simp only [hg218,zk (g:=111),z0,f173,jl,qt,z8,Nat.reduceAdd,Nat.zero_add,Nat.add_zero,qq,z2,B0,reduceIte,reduceEqDiff]
   refine zd (v := .int .i64 x179.Leader) rfl ?_
   obtain ⟨v222,hx223,hF224⟩:=qm hF217
   simp only [hg218,zk (g:=111),z0,xz,B0,reduceIte,reduceEqDiff]
   refine qf6 rfl (qn zo (qn qu zg)) (qb2 (fun b hb=>decide_eq_true hb) v109.1 x179.Leader v222 hx223) ?_
   simp only [hg218,zk (g:=111),z0,qgv,qt,jq,hg214,zk (g:=104),qb9,yj,zi,hg210,zk (g:=100),
     zh,zm,qy,B0,reduceIte,reduceEqDiff]
   refine qw (t:=(!v222)) (fun hc225=>?_) (fun hc225=>?_)
   ·rw [iteT hc225] at hF224
    simp only [qh,qf,qg,qa,q8,B0,reduceIte,reduceEqDiff]
    have e226:=qj hF224
    subst e226
    have ho227:=hr162 _ rfl
    have hk228:=hk160
    rw [ho227] at hk228
    dsimp only [jnO] at hk228
    apply hR166
    have he:=qj hk228
    subst he
    simp only [zc,B0,reduceIte,reduceEqDiff]
    exact rfl
   rw [iteF hc225] at hF224
   simp only [ze,qow,qh,qf,qo,qb,Nat.reduceAdd,Nat.zero_add,Nat.add_zero,qq,ql,B0,reduceIte,reduceEqDiff]
   refine qi (v := .int .i64 x179.Leader) rfl ?_
   simp only [qv,qb,z4,qa,qv7,qy,B0,reduceIte,reduceEqDiff]
   obtain ⟨oc229,hX230,hk231⟩:=jd hF224
   refine xq (t:=(decide (x179.Leader=(-1)))) (fun fr' h'=>∃ s,oc229 = .nxt s∧fr' 5 = .ref [v17,v21,
     .int .i64 v14.1.Next] 0∧fr' 11=lst cI v109.1∧fr' 13=v115∧fr' 15 = .int .i64 (i155:Int)∧fr' 16 = .ref [v191,v195,.int .i64 x179.Leader,
     .int .i64 x179.Epoch,.int .i64 x179.Stamp] 0∧fr' 86=v21∧fr' 87 = .int .i64 (List.length v14.1.Parts:Int)∧fr' 88 = .int .i64 (i155:Int)∧Sep h'
     (geL h.length) (c18++(c184++(c116++(c192++(c196++([]))))))) (fun Q232 hN233 hR234 hE235=>⟨fun hc236=>?_,fun hc236=>?_⟩) ?_
   ·rw [iteT hc236] at hX230
    simp only [qwk,qh,qf,qo,qb,Nat.reduceAdd,Nat.zero_add,Nat.add_zero,qq,ql,B0,reduceIte,reduceEqDiff]
    refine qi (v:=v195) rfl ?_
    simp only [zr,qb,SlF.plen hv197,qg,qa,B0,reduceIte,reduceEqDiff]
    obtain ⟨oc239,hX241,hk242⟩:=jd hX230
    simp only [qws]
    refine wc (σ:=Unit) (fun i237 _=>qcq v109 x179 i237 ) (fun s fr' h'=>fr' 5 = .ref [v17,v21,
      .int .i64 v14.1.Next] 0∧fr' 11=lst cI v109.1∧fr' 13=v115∧fr' 15 = .int .i64 (i155:Int)∧fr' 16 = .ref [v191,v195,.int .i64 x179.Leader,
      .int .i64 x179.Epoch,.int .i64 x179.Stamp] 0∧fr' 86=v21∧fr' 87 = .int .i64 (List.length v14.1.Parts:Int)∧fr' 88 = .int .i64
      (i155:Int)∧fr' 124=v195∧Sep h' (geL h.length) (c18++(c184++(c116++(c192++(c196++([]))))))) hX241 ⟨f172,f173,f174,rfl,rfl,f175,f178,f177,rfl,
      (Sep.m4 (Sep.m3 (Sep.m4 (Sep.m2 (Sep.m2 hS206)))))⟩ (by simp only [B0,reduceIte,reduceEqDiff]) (by simp only [B0,reduceIte,
      reduceEqDiff]) (fun _ _ _ h=>h) rfl rfl (fun _ _ _ _ h=>h) (fun _ _ _ _ h=>h) (fun _ _ _ _ h=>h) (by decide) ?_ ?_
    ·rintro i237 _ fr251 h252 hx263 ⟨f254,f255,f256,f257,f258,f259,f260,f261,f262,hS253⟩ f264 f265 oc240 hF243 hr244 Q245 hN246 hB250 hK247 hR248 hE249
     unfold qcq at hF243
     obtain ⟨x266,hx267,hF268⟩:=qm hF243
     simp only [qwv,qh,qf,f262,f264,jb,B0,reduceIte,reduceEqDiff]
     obtain ⟨b269,hb270⟩:=SlF.isrow hv197 (k8 hx267)
     refine qi (SlF.ia hv197 hb270 hx267) ?_
     simp only [ql,B0,reduceIte,reduceEqDiff]
     refine qi (v := .int .i64 x266) ((SlF.ld (o:=0) hv197 (Sep.m4 hS253) hb270 hx267 (fun _=>rfl) (nle rfl)).trans rfl) ?_
     obtain ⟨v271,hx272,hF273⟩:=qm hF268
     simp only [qg,qa,qxb,qh,qf,f255,zb,B0,reduceIte,reduceEqDiff]
     refine jc rfl (qn zo (qn qu zg)) (qb2 (fun b hb=>decide_eq_true hb) v109.1 x266 v271 hx272) ?_
     simp only [qa,qy,B0,reduceIte,reduceEqDiff]
     refine qw (t:=v271) (fun hc274=>?_) (fun hc274=>?_)
     ·rw [iteT hc274] at hF273
      simp only [qh,qf,qg,qa,q8,B0,reduceIte,reduceEqDiff]
      have e275:=qj hF273
      subst e275
      have ho276:=hr244 _ rfl
      have hk277:=hk242
      rw [ho276] at hk277
      dsimp only [jnO] at hk277
      apply hR248
      have e278:=qj hk277
      subst e278
      have hk231':=hk231
      dsimp only [jnO] at hk231'
      apply hR234
      have e279:=qj hk231'
      subst e279
      have ho280:=hr162 _ rfl
      have hk281:=hk160
      rw [ho280] at hk281
      dsimp only [jnO] at hk281
      apply hR166
      have he:=qj hk281
      subst he
      simp only [zc,B0,reduceIte,reduceEqDiff]
      exact rfl
     rw [iteF hc274] at hF273
     simp only [ze,qk,B0,reduceIte,reduceEqDiff]
     have e282:=qj hF273
     exact hN246 _ _ _ e282.symm ⟨f254,f255,f256,f257,f258,f259,f260,f261,f262,(Sep.m4 (Sep.m4 (Sep.m4 (Sep.m4 (Sep.m4 hS253)))))⟩ (f264) (f265)
    rintro _ fr284 h285 rfl ⟨f287,f288,f289,f290,f291,f292,f293,f294,f295,hS286⟩
    dsimp only [jnO] at hk242
    unfold qfj at hk242
    simp only [qk,B0,reduceIte,reduceEqDiff]
    have e296:=qj hk242
    exact hN233 _ _ ⟨_,e296.symm,f287,f288,f289,f290,f291,f292,f293,f294,(Sep.m4 (Sep.m4 (Sep.m4 (Sep.m4 (Sep.m4 hS286)))))⟩
   ·rw [iteF hc236] at hX230
    simp only [ze,qk,B0,reduceIte,reduceEqDiff]
    have e298:=qj hX230
    exact hN233 _ _ ⟨_,e298.symm,f172,f173,f174,rfl,rfl,f175,f178,f177,(Sep.m4 (Sep.m3 (Sep.m4 (Sep.m2 (Sep.m2 hS206)))))⟩
   rintro fr299 h300 ⟨_,rfl,f302,f303,f304,f305,f306,f307,f308,f309,hS301⟩
   dsimp only [jnO] at hk231
   unfold qcy at hk231
   simp only [qos,qh,qf,f302,qo,qb,Nat.reduceAdd,Nat.zero_add,Nat.add_zero,qq,ql,B0,reduceIte,reduceEqDiff]
   refine qi (v:=v17) rfl ?_
   simp only [zr,qb,SlF.plen hv19,qg,qa,B0,reduceIte,reduceEqDiff]
   obtain ⟨oc312,hX314,hk315⟩:=jd hk231
   simp only [qo2]
   refine wc (σ:=Unit) (fun i310 _=>qaz v14 s152 i155 x179 i310 ) (fun s fr' h'=>fr' 5 = .ref [v17,v21,
     .int .i64 v14.1.Next] 0∧fr' 11=lst cI v109.1∧fr' 13=v115∧fr' 15 = .int .i64 (i155:Int)∧fr' 16 = .ref [v191,v195,.int .i64 x179.Leader,
     .int .i64 x179.Epoch,.int .i64 x179.Stamp] 0∧fr' 86=v21∧fr' 87 = .int .i64 (List.length v14.1.Parts:Int)∧fr' 88 = .int .i64 (i155:Int)∧Sep h'
     (geL h.length) (c18++(c184++(c116++(c192++(c196++([]))))))) hX314 ⟨f302,f303,f304,f305,f306,f307,f308,f309,
     (Sep.m4 (Sep.m4 (Sep.m4 (Sep.m4 (Sep.m4 hS301)))))⟩ (by simp only [B0,reduceIte,reduceEqDiff]) (by simp only [B0,reduceIte,
     reduceEqDiff]) (fun _ _ _ h=>h) rfl rfl (fun _ _ _ _ h=>h) (fun _ _ _ _ h=>h) (fun _ _ _ _ h=>h) (by decide) ?_ ?_
   ·rintro i310 _ fr324 h325 hx335 ⟨f327,f328,f329,f330,f331,f332,f333,f334,hS326⟩ f336 f337 oc313 hF316 hr317 Q318 hN319 hB323 hK320 hR321 hE322
    unfold qaz at hF316
    simp only [qoj,qh,qf,f336,qg,qa,qon,f327,ql,B0,reduceIte,reduceEqDiff]
    refine qi (v := .agg [v17,v21,.int .i64 v14.1.Next]) rfl ?_
    obtain ⟨c338,hv339,hS340⟩:=SlG.cls0 (c:=c184) (os:=c192++(c196)) hv187 rfl hx180 jr (Partition.RI (x:=x179) hv193 hv197) (Sep.ni2 (c1:=c192)
      (c2:=c196) (Sep.m3 (Sep.m4 (Sep.m4 hS326))))
    have hv341:=SlG.toN hv339
    obtain ⟨v342,hx343,hF344⟩:=qm hF316
    simp only [qg,zb,B0,reduceIte,reduceEqDiff]
    refine u9 rfl hS326 (qn (jf (qn (SlF.snap hv19 (Sep.m1 hS340) rfl (fun _=>rfl) (fun _=>rfl)) (qn (SlN.snap hv341 _ hS340 rfl Partition.RO)
      (qn qu zg)))) (qn qu zg)) (qg4 (fun b hb=>decide_eq_true hb) (Control.mk v14.1.Brokers s152 v14.1.Next) (i310:Int) v342 hx343) ?_
    rintro _ h349 ⟨v345,c346,rfl,hv347,hS350⟩
    refine ⟨_,qcl (qs (qf1 (SlF.free1 hv347)) (qs rfl zt)),hS350,(j0 (SlF.pf hv347 (fun _=>rfl)) wt),fun h351 hS352=>?_⟩
    have hS353:Sep h351 (geL h.length) (c346++(c18++(c184++(c116++(c192++(c196++([]))))))):=by simpa only [List.append_assoc,List.nil_append] using hS352
    simp only [qg,qad,qb,qa7,qa0,qa,qv5,qh,jo,jl,qt,qgv,jq,B0,reduceIte,reduceEqDiff]
    simp only [zk (g:=148),B0,reduceIte,reduceEqDiff]
    refine yk (t:=(!v342.2)) (fun hg354=>?_) (fun hg354=>?_)
    ·rw [iteT hg354] at hF344
     simp only [hg354,zk (g:=148),wx,yj,qt,zh,zm,qy,qfb,qh,qf,qg,qa,q8,
       B0,reduceIte,reduceEqDiff]
     have e355:=qj hF344
     subst e355
     have ho356:=hr317 _ rfl
     have hk357:=hk315
     rw [ho356] at hk357
     dsimp only [jnO] at hk357
     apply hR321
     have e358:=qj hk357
     subst e358
     have ho359:=hr162 _ rfl
     have hk360:=hk160
     rw [ho359] at hk360
     dsimp only [jnO] at hk360
     apply hR166
     have he:=qj hk360
     subst he
     simp only [zc,B0,reduceIte,reduceEqDiff]
     exact rfl
    rw [iteF hg354] at hF344
    obtain ⟨v361,hx362,hF363⟩:=qm hF344
    simp only [hg354,zk (g:=148),z0,jl,qt,f330,qdd,B0,reduceIte,reduceEqDiff]
    refine qmj rfl (qn (SlF.snap hv347 hS353 rfl (fun _=>rfl) (fun _=>rfl)) (qn qu zg)) (qb2 (fun b hb=>decide_eq_true hb) v342.1
      (i155:Int) v361 hx362) ?_
    simp only [hg354,zk (g:=148),z0,f331,qdo,qt,Nat.reduceAdd,Nat.zero_add,Nat.add_zero,qq,qcc,qbq,B0,reduceIte,
      reduceEqDiff]
    refine zd (v := .int .i64 x179.Leader) rfl ?_
    simp only [hg354,zk (g:=148),z0,qj1,qt,qmc,z4,qlu,qg8,yj,zi,zm,qy,B0,reduceIte,
      reduceEqDiff]
    refine qw (t:=(!(v361 == (decide (x179.Leader=(i310:Int)))))) (fun hc364=>?_) (fun hc364=>?_)
    ·rw [iteT hc364] at hF363
     simp only [qh,qf,qg,qa,q8,B0,reduceIte,reduceEqDiff]
     have e365:=qj hF363
     subst e365
     have ho366:=hr317 _ rfl
     have hk367:=hk315
     rw [ho366] at hk367
     dsimp only [jnO] at hk367
     apply hR321
     have e368:=qj hk367
     subst e368
     have ho369:=hr162 _ rfl
     have hk370:=hk160
     rw [ho369] at hk370
     dsimp only [jnO] at hk370
     apply hR166
     have he:=qj hk370
     subst he
     simp only [zc,B0,reduceIte,reduceEqDiff]
     exact rfl
    rw [iteF hc364] at hF363
    simp only [ze,qk,B0,reduceIte,reduceEqDiff]
    have e371:=qj hF363
    exact hN319 _ _ _ e371.symm ⟨f327,f328,f329,f330,f331,f332,f333,f334,(Sep.m4 (Sep.m4 (Sep.m4 (Sep.m4 (Sep.m4 (Sep.dc (hS353)))))))⟩ (f336) (f337)
   rintro _ fr373 h374 rfl ⟨f376,f377,f378,f379,f380,f381,f382,f383,hS375⟩
   dsimp only [jnO] at hk315
   unfold qck at hk315
   simp only [qk,B0,reduceIte,reduceEqDiff]
   obtain ⟨c384,hv385,hS386⟩:=SlG.cls0 (c:=c184) (os:=c192++(c196)) hv187 rfl hx180 jr (Partition.RI (x:=x179) hv193 hv197) (Sep.ni2 (c1:=c192) (c2:=c196)
     (Sep.m3 (Sep.m4 (Sep.m4 hS375))))
   have hv387:=SlG.toN hv385
   have e388:=qj hk315
   exact hN164 _ _ _ e388.symm ⟨c384,f376,f377,f378,f381,hv387,(Sep.m2 (Sep.m1 (Sep.m2 hS386)))⟩ (f383) (f382)
  rw [iteF hg214] at hF209
  simp only [hg214,zk (g:=104),qo3,zk (g:=111),qjv,hg210,zk (g:=100),z0,yj,qt,zi,zm,
    qy,qn7,ze,qow,qh,qf,qo,qb,Nat.reduceAdd,Nat.zero_add,Nat.add_zero,qq,ql,B0,reduceIte,reduceEqDiff]
  refine qi (v := .int .i64 x179.Leader) rfl ?_
  simp only [qv,qb,z4,qa,qv7,qy,B0,reduceIte,reduceEqDiff]
  obtain ⟨oc391,hX392,hk393⟩:=jd hF209
  refine xq (t:=(decide (x179.Leader=(-1)))) (fun fr' h'=>∃ s,oc391 = .nxt s∧fr' 5 = .ref [v17,v21,
    .int .i64 v14.1.Next] 0∧fr' 11=lst cI v109.1∧fr' 13=v115∧fr' 15 = .int .i64 (i155:Int)∧fr' 16 = .ref [v191,v195,.int .i64 x179.Leader,
    .int .i64 x179.Epoch,.int .i64 x179.Stamp] 0∧fr' 86=v21∧fr' 87 = .int .i64 (List.length v14.1.Parts:Int)∧fr' 88 = .int .i64 (i155:Int)∧Sep h'
    (geL h.length) (c18++(c184++(c116++(c192++(c196++([]))))))) (fun Q394 hN395 hR396 hE397=>⟨fun hc398=>?_,fun hc398=>?_⟩) ?_
  ·rw [iteT hc398] at hX392
   simp only [qwk,qh,qf,qo,qb,Nat.reduceAdd,Nat.zero_add,Nat.add_zero,qq,ql,B0,reduceIte,reduceEqDiff]
   refine qi (v:=v195) rfl ?_
   simp only [zr,qb,SlF.plen hv197,qg,qa,B0,reduceIte,reduceEqDiff]
   obtain ⟨oc401,hX403,hk404⟩:=jd hX392
   simp only [qws]
   refine wc (σ:=Unit) (fun i399 _=>ub v109 x179 i399 ) (fun s fr' h'=>fr' 5 = .ref [v17,v21,
     .int .i64 v14.1.Next] 0∧fr' 11=lst cI v109.1∧fr' 13=v115∧fr' 15 = .int .i64 (i155:Int)∧fr' 16 = .ref [v191,v195,.int .i64 x179.Leader,
     .int .i64 x179.Epoch,.int .i64 x179.Stamp] 0∧fr' 86=v21∧fr' 87 = .int .i64 (List.length v14.1.Parts:Int)∧fr' 88 = .int .i64
     (i155:Int)∧fr' 124=v195∧Sep h' (geL h.length) (c18++(c184++(c116++(c192++(c196++([]))))))) hX403 ⟨f172,f173,f174,rfl,rfl,f175,f178,f177,rfl,
     (Sep.m4 (Sep.m3 (Sep.m4 (Sep.m2 (Sep.m2 hS206)))))⟩ (by simp only [B0,reduceIte,reduceEqDiff]) (by simp only [B0,reduceIte,
     reduceEqDiff]) (fun _ _ _ h=>h) rfl rfl (fun _ _ _ _ h=>h) (fun _ _ _ _ h=>h) (fun _ _ _ _ h=>h) (by decide) ?_ ?_
   ·rintro i399 _ fr413 h414 hx425 ⟨f416,f417,f418,f419,f420,f421,f422,f423,f424,hS415⟩ f426 f427 oc402 hF405 hr406 Q407 hN408 hB412 hK409 hR410 hE411
    unfold ub at hF405
    obtain ⟨x428,hx429,hF430⟩:=qm hF405
    simp only [qwv,qh,qf,f424,f426,jb,B0,reduceIte,reduceEqDiff]
    obtain ⟨b431,hb432⟩:=SlF.isrow hv197 (k8 hx429)
    refine qi (SlF.ia hv197 hb432 hx429) ?_
    simp only [ql,B0,reduceIte,reduceEqDiff]
    refine qi (v := .int .i64 x428) ((SlF.ld (o:=0) hv197 (Sep.m4 hS415) hb432 hx429 (fun _=>rfl) (nle rfl)).trans rfl) ?_
    obtain ⟨v433,hx434,hF435⟩:=qm hF430
    simp only [qg,qa,qxb,qh,qf,f417,zb,B0,reduceIte,reduceEqDiff]
    refine jc rfl (qn zo (qn qu zg)) (qb2 (fun b hb=>decide_eq_true hb) v109.1 x428 v433 hx434) ?_
    simp only [qa,qy,B0,reduceIte,reduceEqDiff]
    refine qw (t:=v433) (fun hc436=>?_) (fun hc436=>?_)
    ·rw [iteT hc436] at hF435
     simp only [qh,qf,qg,qa,q8,B0,reduceIte,reduceEqDiff]
     have e437:=qj hF435
     subst e437
     have ho438:=hr406 _ rfl
     have hk439:=hk404
     rw [ho438] at hk439
     dsimp only [jnO] at hk439
     apply hR410
     have e440:=qj hk439
     subst e440
     have hk393':=hk393
     dsimp only [jnO] at hk393'
     apply hR396
     have e441:=qj hk393'
     subst e441
     have ho442:=hr162 _ rfl
     have hk443:=hk160
     rw [ho442] at hk443
     dsimp only [jnO] at hk443
     apply hR166
     have he:=qj hk443
     subst he
     simp only [zc,B0,reduceIte,reduceEqDiff]
     exact rfl
    rw [iteF hc436] at hF435
    simp only [ze,qk,B0,reduceIte,reduceEqDiff]
    have e444:=qj hF435
    exact hN408 _ _ _ e444.symm ⟨f416,f417,f418,f419,f420,f421,f422,f423,f424,(Sep.m4 (Sep.m4 (Sep.m4 (Sep.m4 (Sep.m4 hS415)))))⟩ (f426) (f427)
   rintro _ fr446 h447 rfl ⟨f449,f450,f451,f452,f453,f454,f455,f456,f457,hS448⟩
   dsimp only [jnO] at hk404
   unfold qfk at hk404
   simp only [qk,B0,reduceIte,reduceEqDiff]
   have e458:=qj hk404
   exact hN395 _ _ ⟨_,e458.symm,f449,f450,f451,f452,f453,f454,f455,f456,(Sep.m4 (Sep.m4 (Sep.m4 (Sep.m4 (Sep.m4 hS448)))))⟩
  ·rw [iteF hc398] at hX392
   simp only [ze,qk,B0,reduceIte,reduceEqDiff]
   have e460:=qj hX392
   exact hN395 _ _ ⟨_,e460.symm,f172,f173,f174,rfl,rfl,f175,f178,f177,(Sep.m4 (Sep.m3 (Sep.m4 (Sep.m2 (Sep.m2 hS206)))))⟩
  rintro fr461 h462 ⟨_,rfl,f464,f465,f466,f467,f468,f469,f470,f471,hS463⟩
  dsimp only [jnO] at hk393
  unfold qcu at hk393
  simp only [qos,qh,qf,f464,qo,qb,Nat.reduceAdd,Nat.zero_add,Nat.add_zero,qq,ql,B0,reduceIte,reduceEqDiff]
  refine qi (v:=v17) rfl ?_
  simp only [zr,qb,SlF.plen hv19,qg,qa,B0,reduceIte,reduceEqDiff]
  obtain ⟨oc474,hX476,hk477⟩:=jd hk393
  simp only [qo2]
  refine wc (σ:=Unit) (fun i472 _=>qa2 v14 s152 i155 x179 i472 ) (fun s fr' h'=>fr' 5 = .ref [v17,v21,
    .int .i64 v14.1.Next] 0∧fr' 11=lst cI v109.1∧fr' 13=v115∧fr' 15 = .int .i64 (i155:Int)∧fr' 16 = .ref [v191,v195,.int .i64 x179.Leader,
    .int .i64 x179.Epoch,.int .i64 x179.Stamp] 0∧fr' 86=v21∧fr' 87 = .int .i64 (List.length v14.1.Parts:Int)∧fr' 88 = .int .i64 (i155:Int)∧Sep h'
    (geL h.length) (c18++(c184++(c116++(c192++(c196++([]))))))) hX476 ⟨f464,f465,f466,f467,f468,f469,f470,f471,
    (Sep.m4 (Sep.m4 (Sep.m4 (Sep.m4 (Sep.m4 hS463)))))⟩ (by simp only [B0,reduceIte,reduceEqDiff]) (by simp only [B0,reduceIte,
    reduceEqDiff]) (fun _ _ _ h=>h) rfl rfl (fun _ _ _ _ h=>h) (fun _ _ _ _ h=>h) (fun _ _ _ _ h=>h) (by decide) ?_ ?_
  ·rintro i472 _ fr486 h487 hx497 ⟨f489,f490,f491,f492,f493,f494,f495,f496,hS488⟩ f498 f499 oc475 hF478 hr479 Q480 hN481 hB485 hK482 hR483 hE484
   unfold qa2 at hF478
   simp only [qoj,qh,qf,f498,qg,qa,qon,f489,ql,B0,reduceIte,reduceEqDiff]
   refine qi (v := .agg [v17,v21,.int .i64 v14.1.Next]) rfl ?_
   obtain ⟨c500,hv501,hS502⟩:=SlG.cls0 (c:=c184) (os:=c192++(c196)) hv187 rfl hx180 jr (Partition.RI (x:=x179) hv193 hv197) (Sep.ni2 (c1:=c192) (c2:=c196)
     (Sep.m3 (Sep.m4 (Sep.m4 hS488))))
   have hv503:=SlG.toN hv501
   obtain ⟨v504,hx505,hF506⟩:=qm hF478
   simp only [qg,zb,B0,reduceIte,reduceEqDiff]
   refine u9 rfl hS488 (qn (jf (qn (SlF.snap hv19 (Sep.m1 hS502) rfl (fun _=>rfl) (fun _=>rfl)) (qn (SlN.snap hv503 _ hS502 rfl Partition.RO)
     (qn qu zg)))) (qn qu zg)) (qg4 (fun b hb=>decide_eq_true hb) (Control.mk v14.1.Brokers s152 v14.1.Next) (i472:Int) v504 hx505) ?_
   rintro _ h511 ⟨v507,c508,rfl,hv509,hS512⟩
   refine ⟨_,qcl (qs (qf1 (SlF.free1 hv509)) (qs rfl zt)),hS512,(j0 (SlF.pf hv509 (fun _=>rfl)) wt),fun h513 hS514=>?_⟩
   have hS515:Sep h513 (geL h.length) (c508++(c18++(c184++(c116++(c192++(c196++([]))))))):=by simpa only [List.append_assoc,List.nil_append] using hS514
   simp only [qg,qad,qb,qa7,qa0,qa,qv5,qh,jo,jl,qt,qgv,jq,B0,reduceIte,reduceEqDiff]
   simp only [zk (g:=148),B0,reduceIte,reduceEqDiff]
   refine yk (t:=(!v504.2)) (fun hg516=>?_) (fun hg516=>?_)
   ·rw [iteT hg516] at hF506
    simp only [hg516,zk (g:=148),wx,yj,qt,zh,zm,qy,qfb,qh,qf,qg,qa,q8,B0,
      reduceIte,reduceEqDiff]
    have e517:=qj hF506
    subst e517
    have ho518:=hr479 _ rfl
    have hk519:=hk477
    rw [ho518] at hk519
    dsimp only [jnO] at hk519
    apply hR483
    have e520:=qj hk519
    subst e520
    have ho521:=hr162 _ rfl
    have hk522:=hk160
    rw [ho521] at hk522
    dsimp only [jnO] at hk522
    apply hR166
    have he:=qj hk522
    subst he
    simp only [zc,B0,reduceIte,reduceEqDiff]
    exact rfl
   rw [iteF hg516] at hF506
   obtain ⟨v523,hx524,hF525⟩:=qm hF506
   simp only [hg516,zk (g:=148),z0,jl,qt,f492,qdd,B0,reduceIte,reduceEqDiff]
   refine qmj rfl (qn (SlF.snap hv509 hS515 rfl (fun _=>rfl) (fun _=>rfl)) (qn qu zg)) (qb2 (fun b hb=>decide_eq_true hb) v504.1
     (i155:Int) v523 hx524) ?_
   simp only [hg516,zk (g:=148),z0,f493,qdo,qt,Nat.reduceAdd,Nat.zero_add,Nat.add_zero,qq,qcc,qbq,B0,reduceIte,
     reduceEqDiff]
   refine zd (v := .int .i64 x179.Leader) rfl ?_
   simp only [hg516,zk (g:=148),z0,qj1,qt,qmc,z4,qlu,qg8,yj,zi,zm,qy,B0,reduceIte,reduceEqDiff]
   refine qw (t:=(!(v523 == (decide (x179.Leader=(i472:Int)))))) (fun hc526=>?_) (fun hc526=>?_)
   ·rw [iteT hc526] at hF525
    simp only [qh,qf,qg,qa,q8,B0,reduceIte,reduceEqDiff]
    have e527:=qj hF525
    subst e527
    have ho528:=hr479 _ rfl
    have hk529:=hk477
    rw [ho528] at hk529
    dsimp only [jnO] at hk529
    apply hR483
    have e530:=qj hk529
    subst e530
    have ho531:=hr162 _ rfl
    have hk532:=hk160
    rw [ho531] at hk532
    dsimp only [jnO] at hk532
    apply hR166
    have he:=qj hk532
    subst he
    simp only [zc,B0,reduceIte,reduceEqDiff]
    exact rfl
   rw [iteF hc526] at hF525
   simp only [ze,qk,B0,reduceIte,reduceEqDiff]
   have e533:=qj hF525
   exact hN481 _ _ _ e533.symm ⟨f489,f490,f491,f492,f493,f494,f495,f496,(Sep.m4 (Sep.m4 (Sep.m4 (Sep.m4 (Sep.m4 (Sep.dc (hS515)))))))⟩ (f498) (f499)
  rintro _ fr535 h536 rfl ⟨f538,f539,f540,f541,f542,f543,f544,f545,hS537⟩
  dsimp only [jnO] at hk477
  unfold qcw at hk477
  simp only [qk,B0,reduceIte,reduceEqDiff]
  obtain ⟨c546,hv547,hS548⟩:=SlG.cls0 (c:=c184) (os:=c192++(c196)) hv187 rfl hx180 jr (Partition.RI (x:=x179) hv193 hv197) (Sep.ni2 (c1:=c192) (c2:=c196)
    (Sep.m3 (Sep.m4 (Sep.m4 hS537))))
  have hv549:=SlG.toN hv547
  have e550:=qj hk477
  exact hN164 _ _ _ e550.symm ⟨c546,f538,f539,f540,f543,hv549,(Sep.m2 (Sep.m1 (Sep.m2 hS548)))⟩ (f545) (f544)
 rintro s554 fr557 h558 rfl ⟨c555,f560,f561,f562,f563,hv556,hS559⟩
 dsimp only [jnO] at hk160
 unfold qfh at hk160
 simp only [qh,qf,qg,qa,q8,B0,reduceIte,reduceEqDiff]
 have he:=qj hk160
 subst he
 simp only [zc,B0,reduceIte,reduceEqDiff]
 exact rfl
end Go.Proofs.Ytjloihcijdcpeaa.X
