/- The functions' code comes to what the plain functions say (6). -/
import Derived.Test.YtjloihcijdcpeaaXCH5
set_option linter.unusedVariables false
set_option linter.unusedSimpArgs false
set_option maxRecDepth 100000
namespace Go.Proofs.Ytjloihcijdcpeaa.X
open Go
open Nat (reduceEqDiff)
theorem qh9 {W:Nat→Bool}{h:Heap} (hW:∀ b,
  (geL h.length) b→W b=true) (k:Nat) (brokers_0:Int) (l_1:List Command) (r:Control × (List Int) × Bool)
  (hF:xl k brokers_0 l_1=some r) : Ret E W 9 [.int .i64 brokers_0,lst jy l_1] h (fun v h'=>∃ rv0_0 rc0_0 rv0_1 rc0_1 rv1 rc1,
  v = .tup [.agg [rv0_0,rv0_1,.int .i64 r.1.Next],rv1,
  .bool r.2.2]∧SlF qe 3 86 rv0_0 r.1.Brokers rc0_0∧SlN Partition.R 5 39 rv0_1 r.1.Parts rc0_1∧SlF cI 1 3 rv1 r.2.1 rc1∧Sep h' (geL h.length) (rc0_0 ++
  (rc0_1++(rc1++([]))))):=by
 refine Ret.of (fn:=x9) rfl (Run.of ?_)
 unfold xl at hF
 have zf0:zj [.int .i64 brokers_0,lst jy l_1] 0 = .int .i64 brokers_0:=rfl
 have zf1:zj [.int .i64 brokers_0,lst jy l_1] 1=lst jy l_1:=rfl
 generalize zj [.int .i64 brokers_0,lst jy l_1]=fr0 at zf0 zf1 ⊢
 have hS:Sep h (geL h.length) []:=Sep.nil h
 simp only [x9,qh,qf,jg,B0,reduceIte,reduceEqDiff]
 refine z1 hS (fun b1 h2 hS3=>?_)
 obtain ⟨v5,hx6,hF7⟩:=qm hF
 simp only [qg,qa,q1r,qh,qf,zf0,zb,B0,reduceIte,reduceEqDiff]
 refine u9 rfl hS3 (qn qu zg) (qft (fun b hb=>decide_eq_true hb) k brokers_0 v5 hx6) ?_
 rintro _ h16 ⟨v8,c9,v12,c13,rfl,hv10,hv14,hS17⟩
 refine ⟨_,qcl (qs (qew (qs (SlF.free1 hv10) (qs (SlN.free1 hv14) (qs rfl zt)))) (qs rfl zt)),hS17,
   (j0 (SlF.pf hv10 (fun _=>rfl)) (j0 (SlN.pf hv14 Partition.RO) wt)),fun h18 hS19=>?_⟩
 have hS20:Sep h18 (geL h.length) (c9++(c13++([Blk1 b1 [.nil,.nil,.int .i64 0] 29]++([])))):=by simpa only [List.append_assoc,List.nil_append] using hS19
 simp only [qg,qad,qb,qa7,qa0,jg,B0,reduceIte,reduceEqDiff]
 refine z1 hS20 (fun b21 h22 hS23=>?_)
 simp only [zl,B0,reduceIte,reduceEqDiff]
 refine zf (us:=[v8,v12,.int .i64 v5.1.Next]) rfl (cs':=[v8,v12,
   .int .i64 v5.1.Next]) hS23 hW rfl (qs (SlF.one hv10) (qs (SlN.one hv14) (qs rfl zt))) (nle rfl) rfl (fun h25 hS26=>?_)
 simp only [qg,qa,q3s,qh,qf,ja,qb,jq,B0,reduceIte,reduceEqDiff]
 refine zu 4 (fun fr' h'=>Sep h' (geL h.length) ([Blk1 b1 [.nil,.nil,.int .i64 0] 29]++([Blk1 b21 [v8,v12,
   .int .i64 v5.1.Next] 29]++(c9++(c13++([])))))∧fr' 26 = .bool ((!v5.2)||(decide ((80:Int) <
   (List.length l_1:Int))))∧fr' 1=lst jy l_1∧fr' 4 = .ptr b1 0∧fr' 7 = .ptr b21 0) (fun Q27 hN28=>?_) ?_
 ·simp only [List.take_succ_cons,List.take_zero]
  simp only [qc (g:=22),B0,reduceIte,reduceEqDiff]
  refine qx (t:=(!v5.2)) (fun hg29=>?_) (fun hg29=>?_)
  ·simp only [hg29,qc (g:=22),zq,qr,qb,zh,qa,qk,B0,reduceIte,reduceEqDiff]
   exact hN28 _ _ ⟨(Sep.m3 (Sep.m2 (Sep.m2 (Sep.m2 hS26)))),by rw [orT hg29]; simp only [B0,reduceIte,reduceEqDiff],zf1,rfl,rfl⟩
  ·simp only [hg29,qc (g:=22),qp,zf1,qg,zr,qb,zx,qv,qet,qr,zi,qa,qk,B0,reduceIte,
    reduceEqDiff]
   exact hN28 _ _ ⟨(Sep.m3 (Sep.m2 (Sep.m2 (Sep.m2 hS26)))),by rw [orF hg29]; simp only [B0,reduceIte,reduceEqDiff],zf1,rfl,rfl⟩
 rintro fr30 h35 ⟨hS36,f31,f32,f33,f34⟩
 simp only [List.drop_succ_cons,List.drop_zero]
 simp only [qa,q7f,f31,qy,B0,reduceIte,reduceEqDiff]
 refine qw (t:=((!v5.2)||(decide ((80:Int)<(List.length l_1:Int))))) (fun hc37=>?_) (fun hc37=>?_)
 ·rw [iteT hc37] at hF7
  simp only [q7q,qh,qf,run_build,evp,B0,reduceIte,reduceEqDiff]
  refine qi (v := .agg [.nil,.nil,.int .i64 0]) rfl ?_
  simp only [f33,zl,B0,reduceIte,reduceEqDiff]
  refine zf (us:=[.nil,.nil,.int .i64 0]) rfl (cs':=[.nil,.nil,.int .i64 0]) hS36 hW rfl rfl (nle rfl) rfl (fun h38 hS39=>?_)
  simp only [qg,qa,q8,B0,reduceIte,reduceEqDiff]
  have he:=qj hF7
  subst he
  refine kc (qn (kr (bb:=b1) (oo:=0) (v := .agg [.nil,.nil,
    .int .i64 0]) (f33) ((z3 (Sep.bk _ _ _ hS39)).trans rfl)) (qn (ye (v := .nil) (rfl)) (qn (ye (v := .bool false) (rfl)) zg))) ?_
  exact ⟨.nil,[],.nil,[],.nil,[],by first | trivial | rfl,SlF.nil,SlN.nil,SlF.nil,((Sep.dc ((Sep.dc ((Sep.dc ((Sep.dc (hS39)))))))) : Sep _ (geL h.length) ([]))⟩
 rw [iteF hc37] at hF7
 simp only [ze,q3e,qh,qf,qg,qa,qz4,f32,zr,qb,zx,B0,reduceIte,reduceEqDiff]
 obtain ⟨oc70,hX72,hk73⟩:=jd hF7
 simp only [q2z]
 refine kn (σ:=(List Int) × Control) l_1 (fun i68 x69 s148=>w8 i68 x69 s148.1 s148.2) (fun s fr' h'=>∃ v56 c57 v61 c62 v65 c66,
   fr' 4 = .ptr b1 0∧fr' 7 = .ptr b21 0∧fr' 9=v56∧fr' 28=lst jy l_1∧SlF cI 1 3 v56 s.1 c57∧SlF qe 3 86 v61 s.2.Brokers c62∧SlN Partition.R 5 39 v65 s.2.Parts c66∧Sep h'
   (geL h.length) ([Blk1 b1 [.nil,.nil,.int .i64 0] 29]++([Blk1 b21 [v61,v65,.int .i64 s.2.Next] 29]++(c57++(c62++(c66++([]))))))) hX72 ⟨.nil,[],v8,c9,v12,
   c13,f33,f34,rfl,rfl,SlF.nil,hv10,hv14,((Sep.m3 (Sep.m3 (Sep.m3 (Sep.m3 hS36)))) : Sep _ (geL h.length) ([Blk1 b1 [.nil,.nil,.int .i64 0] 29]++([Blk1 b21 [v8,
   v12,.int .i64 v5.1.Next] 29]++(c9++(c13++([]))))))⟩ (by simp only [B0,reduceIte,reduceEqDiff]) (by simp only [B0,reduceIte,
   reduceEqDiff]) (fun _ _ _ h=>h) rfl rfl (fun _ _ _ _ h=>h) (fun _ _ _ _ h=>h) (fun _ _ _ _ h=>h) (by decide) ?_ ?_
 ·rintro i68 x69 ⟨s54,s59⟩ fr82 h83 hx89 ⟨v56,c57,v61,c62,v65,c66,f85,f86,f87,f88,hv58,hv63,hv67,hS84⟩ f90 f91 oc71 hF74 hr75 Q76 hN77 hB81 hK78 hR79 hE80
  dsimp only at *
  unfold w8 at hF74
  simp only [q7r,qh,qf,f88,f90,jb,B0,reduceIte,reduceEqDiff]
  refine qi (v := .ref (jy x69) 0) (ko hx89 rfl) ?_
  simp only [ql,B0,reduceIte,reduceEqDiff]
  refine qi (v := .agg [.int .i64 x69.Kind,.int .i64 x69.Broker,.int .i64 x69.Epoch,.int .i64 x69.Part,.int .i64 x69.Stamp,lst cI x69.InStep]) rfl ?_
  simp only [jg,B0,reduceIte,reduceEqDiff]
  refine z1 hS84 (fun b92 h93 hS94=>?_)
  simp only [zl,B0,reduceIte,reduceEqDiff]
  refine zf (us:=[.int .i64 x69.Kind,.int .i64 x69.Broker,.int .i64 x69.Epoch,.int .i64 x69.Part,.int .i64 x69.Stamp,
    lst cI x69.InStep]) rfl (cs':=[.int .i64 x69.Kind,.int .i64 x69.Broker,.int .i64 x69.Epoch,.int .i64 x69.Part,.int .i64 x69.Stamp,
    lst cI x69.InStep]) hS94 hW rfl rfl (nle rfl) rfl (fun h96 hS97=>?_)
  simp only [qa,B0,reduceIte,reduceEqDiff]
  refine zw hS97 hW (by simp only [B0,reduceIte,reduceEqDiff]) (fun h98 hS99=>?_)
  simp only [zv,q7b,qh,qf,f86,ql,B0,reduceIte,reduceEqDiff]
  refine qi (v := .agg [v61,v65,.int .i64 s59.Next]) ((z3 (Sep.bk _ _ _ (Sep.m1 hS99))).trans rfl) ?_
  simp only [ql,B0,reduceIte,reduceEqDiff]
  refine qi (v := .agg [.int .i64 x69.Kind,.int .i64 x69.Broker,.int .i64 x69.Epoch,.int .i64 x69.Part,.int .i64 x69.Stamp,lst cI x69.InStep]) rfl ?_
  obtain ⟨v100,hx101,hF102⟩:=qm hF74
  simp only [zb,B0,reduceIte,reduceEqDiff]
  refine u9 rfl hS99 (qn (jf (qn (SlF.snap hv63 (Sep.m3 hS99) rfl (fun _=>rfl) (fun _=>rfl)) (qn (SlN.snap hv67 _ (Sep.m4 hS99) rfl Partition.RO)
    (qn qu zg)))) (qn (jf (qn qu (qn qu (qn qu (qn qu (qn qu (qn zo zg))))))) zg))
    (qgk (fun b hb=>decide_eq_true hb) s59 x69 v100 hx101) ?_
  rintro _ h111 ⟨v103,c104,v107,c108,rfl,hv105,hv109,hS112⟩
  refine ⟨_,qcl (qs (qew (qs (SlF.free1 hv105) (qs (SlN.free1 hv109) (qs rfl zt)))) (qs rfl (qs rfl zt))),hS112,
    (j0 (SlF.pf hv105 (fun _=>rfl)) (j0 (SlN.pf hv109 Partition.RO) wt)),fun h113 hS114=>?_⟩
  have hS115:Sep h113 (geL h.length) (c104++(c108++([Blk1 b1 [.nil,.nil,.int .i64 0] 29]++([Blk1 b21 [v61,v65,
    .int .i64 s59.Next] 29]++(c57++(c62++(c66++([])))))))):=by simpa only [List.append_assoc,List.nil_append] using hS114
  simp only [qg,qad,qb,qa7,qa0,qjw,jg,B0,reduceIte,reduceEqDiff]
  refine z1 hS115 (fun b116 h117 hS118=>?_)
  simp only [zl,B0,reduceIte,reduceEqDiff]
  refine zf (us:=[v103,v107,.int .i64 v100.1.Next]) rfl (cs':=[v103,v107,
    .int .i64 v100.1.Next]) hS118 hW rfl (qs (SlF.one hv105) (qs (SlN.one hv109) (qs rfl zt))) (nle rfl) rfl (fun h120 hS121=>?_)
  simp only [qg,qa,B0,reduceIte,reduceEqDiff]
  refine zw hS121 hW (by simp only [B0,reduceIte,reduceEqDiff]) (fun h122 hS123=>?_)
  simp only [zv,q68,qh,qf,qg,ja,qb,jq,qa,q6z,qy,B0,reduceIte,reduceEqDiff]
  refine qw (t:=(!v100.2.2)) (fun hc124=>?_) (fun hc124=>?_)
  ·rw [iteT hc124] at hF102
   simp only [q6j,qh,qf,run_build,evp,B0,reduceIte,reduceEqDiff]
   refine qi (v := .agg [.nil,.nil,.int .i64 0]) rfl ?_
   simp only [f85,zl,B0,reduceIte,reduceEqDiff]
   refine zf (us:=[.nil,.nil,.int .i64 0]) rfl (cs':=[.nil,.nil,.int .i64 0]) (Sep.m2 hS123) hW rfl rfl (nle rfl) rfl (fun h125 hS126=>?_)
   simp only [qg,qa,q8,B0,reduceIte,reduceEqDiff]
   have e127:=qj hF102
   subst e127
   have ho128:=hr75 _ rfl
   have hk129:=hk73
   rw [ho128] at hk129
   dsimp only [jnO] at hk129
   apply hR79
   have he:=qj hk129
   subst he
   refine kc (qn (kr (bb:=b1) (oo:=0) (v := .agg [.nil,.nil,
     .int .i64 0]) (f85) ((z3 (Sep.bk _ _ _ hS126)).trans rfl)) (qn (ye (v := .nil) (rfl)) (qn (ye (v := .bool false) (rfl)) zg))) ?_
   exact ⟨.nil,[],.nil,[],.nil,[],by first | trivial | rfl,SlF.nil,SlN.nil,SlF.nil,
     ((Sep.dc ((Sep.dc ((Sep.dc ((Sep.dc ((Sep.dc ((Sep.dc ((Sep.dc (hS126)))))))))))))) : Sep _ (geL h.length) ([]))⟩
  rw [iteF hc124] at hF102
  simp only [ze,q6c,qh,qf,ql,B0,reduceIte,reduceEqDiff]
  refine qi (v := .agg [v103,v107,.int .i64 v100.1.Next]) rfl ?_
  simp only [f86,zl,B0,reduceIte,reduceEqDiff]
  refine zf (us:=[v103,v107,.int .i64 v100.1.Next]) rfl (cs':=[v103,v107,
    .int .i64 v100.1.Next]) (Sep.m3 hS123) hW rfl (qs (SlF.one hv105) (qs (SlN.one hv109) (qs rfl zt))) (nle rfl) rfl (fun h130 hS131=>?_)
  simp only [qa,q7p,qf,f87,qg,j6,evp,B0,reduceIte,reduceEqDiff]
  refine jv (n:=1) (f:=cI) [v100.2.1] hS131 rfl rfl (fun v132 c133 h134 hv135 hS136=>?_)
  simp only [xj,B0,reduceIte,reduceEqDiff]
  obtain ⟨l138,hx139,hF140⟩:=qm hF102
  refine y8 (f:=cI) hv58 (Sep.m5 hS136) hW (fun _=>rfl) (fun _=>rfl) (SlF.first hv135 hS136 (fun _=>rfl)) hx139 (fun v141 c142 h143 hv144 hS145=>?_)
  simp only [qg,qa,qk,B0,reduceIte,reduceEqDiff]
  have e147:=qj hF140
  exact hN77 _ _ _ e147.symm ⟨v141,c142,v103,c104,v107,c108,f85,f86,rfl,f88,hv144,hv105,hv109,
    (Sep.m4 (Sep.m3 (Sep.m2 (Sep.m3 (Sep.m3 (Sep.dc (Sep.m5 (Sep.dc (Sep.m5 (Sep.dc (Sep.m1 hS145)))))))))))⟩ (f90) (f91)
 rintro ⟨s149,s154⟩ fr163 h164 rfl ⟨v151,c152,v156,c157,v160,c161,f166,f167,f168,f169,hv153,hv158,hv162,hS165⟩
 dsimp only [jnO] at hk73
 dsimp only at *
 unfold qd3 at hk73
 simp only [q1l,qh,qf,f167,ql,B0,reduceIte,reduceEqDiff]
 refine qi (v := .agg [v156,v160,.int .i64 s154.Next]) ((z3 (Sep.bk _ _ _ (Sep.m1 hS165))).trans rfl) ?_
 simp only [f168,qg,f166,zl,B0,reduceIte,reduceEqDiff]
 refine zf (us:=[v156,v160,.int .i64 s154.Next]) rfl (cs':=[v156,v160,
   .int .i64 s154.Next]) hS165 hW rfl (qs (SlF.one hv158) (qs (SlN.one hv162) (qs rfl zt))) (nle rfl) rfl (fun h170 hS171=>?_)
 simp only [qg,qa,q8,B0,reduceIte,reduceEqDiff]
 have he:=qj hk73
 subst he
 refine kc (qn (kr (bb:=b1) (oo:=0) (v := .agg [v156,v160,
   .int .i64 s154.Next]) (f166) ((z3 (Sep.bk _ _ _ hS171)).trans rfl)) (qn (ye (v:=v151) (rfl)) (qn (ye (v := .bool true) (rfl)) zg))) ?_
 exact ⟨v156,c157,v160,c161,v151,c152,by first | trivial | rfl,hv158,hv162,hv153,(Sep.m2 (Sep.m2 (Sep.dc ((Sep.dc (hS171))))))⟩
theorem qeh {W:Nat→Bool}{h:Heap} (hW:∀ b,
  (geL h.length) b→W b=true) (a_0:List Int) (b_1:List Int) (r:Bool) (hF:yf a_0 b_1=some r) : Ret E W 10 [lst cI a_0,
  lst cI b_1] h (fun v h'=>cut h.length h' E.sz false 9 v=some (.bool r)):=by
 refine Ret.of (fn:=x10) rfl (Run.of ?_)
 unfold yf at hF
 have zf0:zj [lst cI a_0,lst cI b_1] 0=lst cI a_0:=rfl
 have zf1:zj [lst cI a_0,lst cI b_1] 1=lst cI b_1:=rfl
 generalize zj [lst cI a_0,lst cI b_1]=fr0 at zf0 zf1 ⊢
 have hS:Sep h (geL h.length) []:=Sep.nil h
 simp only [x10,qh,qf,qg,qa,q13,zf0,zr,qb,zx,zf1,qv,ue,qy,B0,reduceIte,reduceEqDiff]
 refine qw (t:=(decide ((List.length a_0:Int)≠(List.length b_1:Int)))) (fun hc1=>?_) (fun hc1=>?_)
 ·rw [iteT hc1] at hF
  simp only [qh,qf,qg,qa,q8,B0,reduceIte,reduceEqDiff]
  have he:=qj hF
  subst he
  simp only [zc,B0,reduceIte,reduceEqDiff]
  exact rfl
 rw [iteF hc1] at hF
 simp only [ze,q4z,qh,qf,zf0,qg,zr,qb,zx,qa,B0,reduceIte,reduceEqDiff]
 obtain ⟨oc4,hX6,hk7⟩:=jd hF
 simp only [qzu]
 refine kn (σ:=Unit) a_0 (fun i2 x3 _=>qaj b_1 i2 x3 ) (fun s fr' h'=>fr' 0=lst cI a_0∧fr' 1=lst cI b_1∧Sep h' (geL h.length) ([])) hX6 ⟨zf0,
   zf1,hS⟩ (by simp only [B0,reduceIte,reduceEqDiff]) (by simp only [B0,reduceIte,
   reduceEqDiff]) (fun _ _ _ h=>h) rfl rfl (fun _ _ _ _ h=>h) (fun _ _ _ _ h=>h) (fun _ _ _ _ h=>h) (by decide) ?_ ?_
 ·rintro i2 x3 _ fr16 h17 hx21 ⟨f19,f20,hS18⟩ f22 f23 oc5 hF8 hr9 Q10 hN11 hB15 hK12 hR13 hE14
  unfold qaj at hF8
  simp only [qx2,qh,qf,f22,qg,qa,qx6,jo,f19,jl,qt,qam,B0,reduceIte,reduceEqDiff]
  refine zd (v := .ref (cI x3) 0) (ko hx21 rfl) ?_
  simp only [z2,B0,reduceIte,reduceEqDiff]
  refine zd (v := .int .i64 x3) rfl ?_
  obtain ⟨x24,hx25,hF26⟩:=qm hF8
  simp only [f20,jl,qt,qam,B0,reduceIte,reduceEqDiff]
  refine zd (v := .ref (cI x24) 0) (xx hx25 rfl) ?_
  simp only [z2,B0,reduceIte,reduceEqDiff]
  refine zd (v := .int .i64 x24) rfl ?_
  simp only [u3,qt,ue,zm,qy,B0,reduceIte,reduceEqDiff]
  refine qw (t:=(decide (x3≠x24))) (fun hc27=>?_) (fun hc27=>?_)
  ·rw [iteT hc27] at hF26
   simp only [qh,qf,qg,qa,q8,B0,reduceIte,reduceEqDiff]
   have e28:=qj hF26
   subst e28
   have ho29:=hr9 _ rfl
   have hk30:=hk7
   rw [ho29] at hk30
   dsimp only [jnO] at hk30
   apply hR13
   have he:=qj hk30
   subst he
   simp only [zc,B0,reduceIte,reduceEqDiff]
   exact rfl
  rw [iteF hc27] at hF26
  simp only [ze,qk,B0,reduceIte,reduceEqDiff]
  have e31:=qj hF26
  exact hN11 _ _ _ e31.symm ⟨f19,f20,hS18⟩ (f22) (f23)
 rintro _ fr33 h34 rfl ⟨f36,f37,hS35⟩
 dsimp only [jnO] at hk7
 unfold qgh at hk7
 simp only [qh,qf,qg,qa,q8,B0,reduceIte,reduceEqDiff]
 have he:=qj hk7
 subst he
 simp only [zc,B0,reduceIte,reduceEqDiff]
 exact rfl
theorem qh7 {W:Nat→Bool}{h:Heap} (hW:∀ b,
  (geL h.length) b→W b=true) (v_0:Control) (v_1:Control) (r:Bool) (hF:xh v_0 v_1=some r) : Ret E W 11 [.agg [lst qe v_0.Brokers,
  lst qd v_0.Parts,.int .i64 v_0.Next],.agg [lst qe v_1.Brokers,lst qd v_1.Parts,
  .int .i64 v_1.Next]] h (fun v h'=>cut h.length h' E.sz false 9 v=some (.bool r)):=by
 refine Ret.of (fn:=x11) rfl (Run.of ?_)
 unfold xh at hF
 have zf0:zj [.agg [lst qe v_0.Brokers,lst qd v_0.Parts,.int .i64 v_0.Next],.agg [lst qe v_1.Brokers,lst qd v_1.Parts,
   .int .i64 v_1.Next]] 0 = .agg [lst qe v_0.Brokers,lst qd v_0.Parts,.int .i64 v_0.Next]:=rfl
 have zf1:zj [.agg [lst qe v_0.Brokers,lst qd v_0.Parts,.int .i64 v_0.Next],.agg [lst qe v_1.Brokers,lst qd v_1.Parts,
   .int .i64 v_1.Next]] 1 = .agg [lst qe v_1.Brokers,lst qd v_1.Parts,.int .i64 v_1.Next]:=rfl
 generalize zj [.agg [lst qe v_0.Brokers,lst qd v_0.Parts,.int .i64 v_0.Next],.agg [lst qe v_1.Brokers,lst qd v_1.Parts,
   .int .i64 v_1.Next]]=fr0 at zf0 zf1 ⊢
 have hS:Sep h (geL h.length) []:=Sep.nil h
 simp only [x11,qh,qf,ju,zf0,B0,reduceIte,reduceEqDiff]
 refine je (cs:=[lst qe v_0.Brokers,lst qd v_0.Parts,.int .i64 v_0.Next]) hS rfl rfl rfl (fun b1 h2 hS3=>?_)
 simp only [ju,zf1,B0,reduceIte,reduceEqDiff]
 refine je (cs:=[lst qe v_1.Brokers,lst qd v_1.Parts,.int .i64 v_1.Next]) hS3 rfl rfl rfl (fun b5 h6 hS7=>?_)
 simp only [qg,qa,B0,reduceIte,reduceEqDiff]
 refine zw (Sep.m1 hS7) hW (by simp only [B0,reduceIte,reduceEqDiff]) (fun h9 hS10=>?_)
 refine zw hS10 hW (by simp only [B0,reduceIte,reduceEqDiff]) (fun h11 hS12=>?_)
 simp only [zv,qpm,qh,qf,qo,qb,Nat.reduceAdd,Nat.zero_add,Nat.add_zero,qq,ql,B0,reduceIte,reduceEqDiff]
 refine qi (v := .int .i64 v_0.Next) rfl ?_
 simp only [qo,qb,Nat.reduceAdd,Nat.zero_add,Nat.add_zero,qq,ql,B0,reduceIte,reduceEqDiff]
 refine qi (v := .int .i64 v_1.Next) rfl ?_
 simp only [qv,qb,ue,qg,B0,reduceIte,reduceEqDiff]
 refine zu 8 (fun fr' h'=>Sep h' (geL h.length) ([])∧fr' 22 = .bool ((decide (v_0.Next≠v_1.Next))||(decide ((List.length v_0.Brokers:Int) ≠
   (List.length v_1.Brokers:Int))))∧fr' 2 = .ref [lst qe v_0.Brokers,lst qd v_0.Parts,
   .int .i64 v_0.Next] 0∧fr' 3 = .ref [lst qe v_1.Brokers,lst qd v_1.Parts,.int .i64 v_1.Next] 0) (fun Q13 hN14=>?_) ?_
 ·simp only [List.take_succ_cons,List.take_zero]
  simp only [qc (g:=14),B0,reduceIte,reduceEqDiff]
  refine qx (t:=(decide (v_0.Next≠v_1.Next))) (fun hg15=>?_) (fun hg15=>?_)
  ·simp only [hg15,qc (g:=14),zq,qr,qb,zh,qa,qk,B0,reduceIte,reduceEqDiff]
   exact hN14 _ _ ⟨hS12,by rw [orT hg15]; simp only [B0,reduceIte,reduceEqDiff],rfl,rfl⟩
  ·simp only [hg15,qc (g:=14),qp,qo,qb,Nat.reduceAdd,Nat.zero_add,Nat.add_zero,qq,ql,B0,reduceIte,reduceEqDiff]
   refine qi (v:=lst qe v_0.Brokers) rfl ?_
   simp only [hg15,qc (g:=14),qp,zr,qb,zx,qo,Nat.reduceAdd,Nat.zero_add,Nat.add_zero,qq,ql,B0,reduceIte,
     reduceEqDiff]
   refine qi (v:=lst qe v_1.Brokers) rfl ?_
   simp only [hg15,qc (g:=14),qp,zr,qb,zx,qv,ue,qr,zi,qa,qk,B0,reduceIte,reduceEqDiff]
   exact hN14 _ _ ⟨hS12,by rw [orF hg15]; simp only [B0,reduceIte,reduceEqDiff],rfl,rfl⟩
 rintro fr16 h20 ⟨hS21,f17,f18,f19⟩
 simp only [List.drop_succ_cons,List.drop_zero]
 simp only [f17,qg,B0,reduceIte,reduceEqDiff]
 refine zu 8 (fun fr' h'=>Sep h' (geL h.length) ([])∧fr' 31 = .bool (((decide (v_0.Next≠v_1.Next))||(decide ((List.length v_0.Brokers:Int) ≠
   (List.length v_1.Brokers:Int))))||(decide ((List.length v_0.Parts:Int)≠(List.length v_1.Parts:Int))))∧fr' 2 = .ref [lst qe v_0.Brokers,
   lst qd v_0.Parts,.int .i64 v_0.Next] 0∧fr' 3 = .ref [lst qe v_1.Brokers,lst qd v_1.Parts,
   .int .i64 v_1.Next] 0) (fun Q22 hN23=>?_) ?_
 ·simp only [List.take_succ_cons,List.take_zero]
  simp only [qc (g:=23),B0,reduceIte,reduceEqDiff]
  refine qx (t:=((decide (v_0.Next≠v_1.Next))||(decide ((List.length v_0.Brokers:Int)≠(List.length v_1.Brokers:Int))))) (fun hg24=>?_) (fun hg24=>?_)
  ·simp only [hg24,qc (g:=23),zq,qr,qb,zh,qa,qk,B0,reduceIte,reduceEqDiff]
   exact hN23 _ _ ⟨hS21,by rw [orT hg24]; simp only [B0,reduceIte,reduceEqDiff],f18,f19⟩
  ·simp only [hg24,qc (g:=23),qp,f18,qo,qb,Nat.reduceAdd,Nat.zero_add,Nat.add_zero,qq,ql,B0,reduceIte,reduceEqDiff]
   refine qi (v:=lst qd v_0.Parts) rfl ?_
   simp only [hg24,qc (g:=23),qp,zr,qb,zx,f19,qo,Nat.reduceAdd,Nat.zero_add,Nat.add_zero,qq,ql,B0,reduceIte,
     reduceEqDiff]
   refine qi (v:=lst qd v_1.Parts) rfl ?_
   simp only [hg24,qc (g:=23),qp,zr,qb,zx,qv,ue,qr,zi,qa,qk,B0,reduceIte,reduceEqDiff]
   exact hN23 _ _ ⟨hS21,by rw [orF hg24]; simp only [B0,reduceIte,reduceEqDiff],f18,f19⟩
 rintro fr25 h29 ⟨hS30,f26,f27,f28⟩
 simp only [List.drop_succ_cons,List.drop_zero]
 simp only [qa,f26,qy,B0,reduceIte,reduceEqDiff]
 refine qw (t:=(((decide (v_0.Next≠v_1.Next))||(decide ((List.length v_0.Brokers:Int)≠(List.length v_1.Brokers:Int))))||(decide
   ((List.length v_0.Parts:Int)≠(List.length v_1.Parts:Int))))) (fun hc31=>?_) (fun hc31=>?_)
 ·rw [iteT hc31] at hF
  simp only [qh,qf,qg,qa,q8,B0,reduceIte,reduceEqDiff]
  have he:=qj hF
  subst he
  simp only [zc,B0,reduceIte,reduceEqDiff]
  exact rfl
 rw [iteF hc31] at hF
 simp only [ze,qrl,qh,qf,f27,qo,qb,Nat.reduceAdd,Nat.zero_add,Nat.add_zero,qq,ql,B0,reduceIte,reduceEqDiff]
 refine qi (v:=lst qe v_0.Brokers) rfl ?_
 simp only [zr,qb,zx,qg,qa,B0,reduceIte,reduceEqDiff]
 obtain ⟨oc34,hX36,hk37⟩:=jd hF
 simp only [q1x]
 refine wc (σ:=Unit) (fun i32 _=>u4 v_0 v_1 i32 ) (fun s fr' h'=>fr' 2 = .ref [lst qe v_0.Brokers,lst qd v_0.Parts,
   .int .i64 v_0.Next] 0∧fr' 3 = .ref [lst qe v_1.Brokers,lst qd v_1.Parts,.int .i64 v_1.Next] 0∧Sep h' (geL h.length) ([])) hX36 ⟨f27,f28,
   hS30⟩ (by simp only [B0,reduceIte,reduceEqDiff]) (by simp only [B0,reduceIte,
   reduceEqDiff]) (fun _ _ _ h=>h) rfl rfl (fun _ _ _ _ h=>h) (fun _ _ _ _ h=>h) (fun _ _ _ _ h=>h) (by decide) ?_ ?_
 ·rintro i32 _ fr46 h47 hx51 ⟨f49,f50,hS48⟩ f52 f53 oc35 hF38 hr39 Q40 hN41 hB45 hK42 hR43 hE44
  unfold u4 at hF38
  simp only [q4y,qh,qf,f52,qg,qa,q34,jo,f49,z8,qt,Nat.reduceAdd,Nat.zero_add,Nat.add_zero,qq,z2,B0,
    reduceIte,reduceEqDiff]
  refine zd (v:=lst qe v_0.Brokers) rfl ?_
  obtain ⟨x54,hx55,hF56⟩:=qm hF38
  simp only [jl,qt,qam,B0,reduceIte,reduceEqDiff]
  refine zd (v := .ref (qe x54) 0) (xx hx55 rfl) ?_
  simp only [z2,B0,reduceIte,reduceEqDiff]
  refine zd (v := .agg [.int .i64 x54.Epoch,.int .i64 x54.Left,.bool x54.Fenced]) rfl ?_
  simp only [f50,z8,qt,Nat.reduceAdd,Nat.zero_add,Nat.add_zero,qq,z2,B0,reduceIte,reduceEqDiff]
  refine zd (v:=lst qe v_1.Brokers) rfl ?_
  obtain ⟨x57,hx58,hF59⟩:=qm hF56
  simp only [jl,qt,qam,B0,reduceIte,reduceEqDiff]
  refine zd (v := .ref (qe x57) 0) (xx hx58 rfl) ?_
  simp only [z2,B0,reduceIte,reduceEqDiff]
  refine zd (v := .agg [.int .i64 x57.Epoch,.int .i64 x57.Left,.bool x57.Fenced]) rfl ?_
  simp only [q6m,B0,reduceIte,reduceEqDiff]
  refine zd (v := .bool (!((x54.Epoch == x57.Epoch)&&((x54.Left == x57.Left)&&((x54.Fenced == x57.Fenced)&&true))))) rfl ?_
  simp only [zm,qy,B0,reduceIte,reduceEqDiff]
  refine qw (t:=(!((x54.Epoch == x57.Epoch)&&((x54.Left == x57.Left)&&((x54.Fenced == x57.Fenced)&&true))))) (fun hc60=>?_) (fun hc60=>?_)
  ·rw [iteT hc60] at hF59
   simp only [qh,qf,qg,qa,q8,B0,reduceIte,reduceEqDiff]
   have e61:=qj hF59
   subst e61
   have ho62:=hr39 _ rfl
   have hk63:=hk37
   rw [ho62] at hk63
   dsimp only [jnO] at hk63
   apply hR43
   have he:=qj hk63
   subst he
   simp only [zc,B0,reduceIte,reduceEqDiff]
   exact rfl
  rw [iteF hc60] at hF59
  simp only [ze,qk,B0,reduceIte,reduceEqDiff]
  have e64:=qj hF59
  exact hN41 _ _ _ e64.symm ⟨f49,f50,hS48⟩ (f52) (f53)
 rintro _ fr66 h67 rfl ⟨f69,f70,hS68⟩
 dsimp only [jnO] at hk37
 unfold qbx at hk37
 simp only [qtp,qh,qf,f69,qo,qb,Nat.reduceAdd,Nat.zero_add,Nat.add_zero,qq,ql,B0,reduceIte,reduceEqDiff]
 refine qi (v:=lst qd v_0.Parts) rfl ?_
 simp only [zr,qb,zx,qg,qa,B0,reduceIte,reduceEqDiff]
 obtain ⟨oc73,hX75,hk76⟩:=jd hk37
 simp only [qvv]
 refine wc (σ:=Unit) (fun i71 _=>qaa v_0 v_1 i71 ) (fun s fr' h'=>fr' 2 = .ref [lst qe v_0.Brokers,lst qd v_0.Parts,
   .int .i64 v_0.Next] 0∧fr' 3 = .ref [lst qe v_1.Brokers,lst qd v_1.Parts,.int .i64 v_1.Next] 0∧Sep h' (geL h.length) ([])) hX75 ⟨f69,f70,
   hS68⟩ (by simp only [B0,reduceIte,reduceEqDiff]) (by simp only [B0,reduceIte,
   reduceEqDiff]) (fun _ _ _ h=>h) rfl rfl (fun _ _ _ _ h=>h) (fun _ _ _ _ h=>h) (fun _ _ _ _ h=>h) (by decide) ?_ ?_
 ·rintro i71 _ fr85 h86 hx90 ⟨f88,f89,hS87⟩ f91 f92 oc74 hF77 hr78 Q79 hN80 hB84 hK81 hR82 hE83
  unfold qaa at hF77
  simp only [q0q,qh,qf,f91,qg,qa,q0d,f88,qo,qb,Nat.reduceAdd,Nat.zero_add,Nat.add_zero,qq,ql,B0,reduceIte,
    reduceEqDiff]
  refine qi (v:=lst qd v_0.Parts) rfl ?_
  obtain ⟨x93,hx94,hF95⟩:=qm hF77
  simp only [qg,jb,B0,reduceIte,reduceEqDiff]
  refine qi (v := .ref (qd x93) 0) (xx hx94 rfl) ?_
  simp only [ql,B0,reduceIte,reduceEqDiff]
  refine qi (v := .agg [lst cI x93.Homes,lst cI x93.InStep,.int .i64 x93.Leader,.int .i64 x93.Epoch,.int .i64 x93.Stamp]) rfl ?_
  simp only [jg,B0,reduceIte,reduceEqDiff]
  refine z1 hS87 (fun b96 h97 hS98=>?_)
  simp only [zl,B0,reduceIte,reduceEqDiff]
  refine zf (us:=[lst cI x93.Homes,lst cI x93.InStep,.int .i64 x93.Leader,.int .i64 x93.Epoch,.int .i64 x93.Stamp]) rfl (cs':=[lst cI x93.Homes,
    lst cI x93.InStep,.int .i64 x93.Leader,.int .i64 x93.Epoch,.int .i64 x93.Stamp]) hS98 hW rfl rfl (nle rfl) rfl (fun h100 hS101=>?_)
  simp only [qa,B0,reduceIte,reduceEqDiff]
  refine zw hS101 hW (by simp only [B0,reduceIte,reduceEqDiff]) (fun h102 hS103=>?_)
  simp only [zv,q08,qh,qf,f89,qo,qb,Nat.reduceAdd,Nat.zero_add,Nat.add_zero,qq,ql,B0,reduceIte,reduceEqDiff]
  refine qi (v:=lst qd v_1.Parts) rfl ?_
  obtain ⟨x104,hx105,hF106⟩:=qm hF95
  simp only [qg,jb,B0,reduceIte,reduceEqDiff]
  refine qi (v := .ref (qd x104) 0) (xx hx105 rfl) ?_
  simp only [ql,B0,reduceIte,reduceEqDiff]
  refine qi (v := .agg [lst cI x104.Homes,lst cI x104.InStep,.int .i64 x104.Leader,.int .i64 x104.Epoch,.int .i64 x104.Stamp]) rfl ?_
  simp only [jg,B0,reduceIte,reduceEqDiff]
  refine z1 hS103 (fun b107 h108 hS109=>?_)
  simp only [zl,B0,reduceIte,reduceEqDiff]
  refine zf (us:=[lst cI x104.Homes,lst cI x104.InStep,.int .i64 x104.Leader,.int .i64 x104.Epoch,.int .i64 x104.Stamp]) rfl (cs':=[lst cI x104.Homes,
    lst cI x104.InStep,.int .i64 x104.Leader,.int .i64 x104.Epoch,.int .i64 x104.Stamp]) hS109 hW rfl rfl (nle rfl) rfl (fun h111 hS112=>?_)
  simp only [qa,B0,reduceIte,reduceEqDiff]
  refine zw hS112 hW (by simp only [B0,reduceIte,reduceEqDiff]) (fun h113 hS114=>?_)
  simp only [zv,q4c,qh,qf,qo,qb,Nat.reduceAdd,Nat.zero_add,Nat.add_zero,qq,ql,B0,reduceIte,reduceEqDiff]
  refine qi (v := .int .i64 x93.Leader) rfl ?_
  simp only [qo,qb,Nat.reduceAdd,Nat.zero_add,Nat.add_zero,qq,ql,B0,reduceIte,reduceEqDiff]
  refine qi (v := .int .i64 x104.Leader) rfl ?_
  simp only [qv,qb,ue,qg,B0,reduceIte,reduceEqDiff]
  refine zu 6 (fun fr' h'=>Sep h' (geL h.length) ([])∧fr' 77 = .bool ((decide (x93.Leader≠x104.Leader))||(decide
    (x93.Epoch≠x104.Epoch)))∧fr' 2 = .ref [lst qe v_0.Brokers,lst qd v_0.Parts,.int .i64 v_0.Next] 0∧fr' 3 = .ref [lst qe v_1.Brokers,
    lst qd v_1.Parts,.int .i64 v_1.Next] 0∧fr' 7 = .ref [lst cI x93.Homes,lst cI x93.InStep,.int .i64 x93.Leader,.int .i64 x93.Epoch,
    .int .i64 x93.Stamp] 0∧fr' 8 = .ref [lst cI x104.Homes,lst cI x104.InStep,.int .i64 x104.Leader,.int .i64 x104.Epoch,
    .int .i64 x104.Stamp] 0∧fr' 52 = .int .i64 (List.length v_0.Parts:Int)∧fr' 53 = .int .i64 (i71:Int)) (fun Q115 hN116=>?_) ?_
  ·simp only [List.take_succ_cons,List.take_zero]
   simp only [qc (g:=71),B0,reduceIte,reduceEqDiff]
   refine qx (t:=(decide (x93.Leader≠x104.Leader))) (fun hg117=>?_) (fun hg117=>?_)
   ·simp only [hg117,qc (g:=71),zq,qr,qb,zh,qa,qk,B0,reduceIte,reduceEqDiff]
    exact hN116 _ _ ⟨hS114,by rw [orT hg117]; simp only [B0,reduceIte,reduceEqDiff],f88,f89,rfl,rfl,f92,f91⟩
   ·simp only [hg117,qc (g:=71),qp,qo,qb,Nat.reduceAdd,Nat.zero_add,Nat.add_zero,qq,ql,B0,reduceIte,reduceEqDiff]
    refine qi (v := .int .i64 x93.Epoch) rfl ?_
    simp only [hg117,qc (g:=71),qp,qo,qb,Nat.reduceAdd,Nat.zero_add,Nat.add_zero,qq,ql,B0,reduceIte,reduceEqDiff]
    refine qi (v := .int .i64 x104.Epoch) rfl ?_
    simp only [hg117,qc (g:=71),qp,qv,qb,ue,qr,zi,qa,qk,B0,reduceIte,reduceEqDiff]
    exact hN116 _ _ ⟨hS114,by rw [orF hg117]; simp only [B0,reduceIte,reduceEqDiff],f88,f89,rfl,rfl,f92,f91⟩
  rintro fr118 h126 ⟨hS127,f119,f120,f121,f122,f123,f124,f125⟩
  simp only [List.drop_succ_cons,List.drop_zero]
  simp only [f119,qg,B0,reduceIte,reduceEqDiff]
  refine zu 6 (fun fr' h'=>Sep h' (geL h.length) ([])∧fr' 84 = .bool (((decide (x93.Leader≠x104.Leader))||(decide (x93.Epoch≠x104.Epoch)))||(decide
    (x93.Stamp≠x104.Stamp)))∧fr' 2 = .ref [lst qe v_0.Brokers,lst qd v_0.Parts,.int .i64 v_0.Next] 0∧fr' 3 = .ref [lst qe v_1.Brokers,
    lst qd v_1.Parts,.int .i64 v_1.Next] 0∧fr' 7 = .ref [lst cI x93.Homes,lst cI x93.InStep,.int .i64 x93.Leader,.int .i64 x93.Epoch,
    .int .i64 x93.Stamp] 0∧fr' 8 = .ref [lst cI x104.Homes,lst cI x104.InStep,.int .i64 x104.Leader,.int .i64 x104.Epoch,
    .int .i64 x104.Stamp] 0∧fr' 52 = .int .i64 (List.length v_0.Parts:Int)∧fr' 53 = .int .i64 (i71:Int)) (fun Q128 hN129=>?_) ?_
  ·simp only [List.take_succ_cons,List.take_zero]
   simp only [qc (g:=78),B0,reduceIte,reduceEqDiff]
   refine qx (t:=((decide (x93.Leader≠x104.Leader))||(decide (x93.Epoch≠x104.Epoch)))) (fun hg130=>?_) (fun hg130=>?_)
   ·simp only [hg130,qc (g:=78),zq,qr,qb,zh,qa,qk,B0,reduceIte,reduceEqDiff]
    exact hN129 _ _ ⟨hS127,by rw [orT hg130]; simp only [B0,reduceIte,reduceEqDiff],f120,f121,f122,f123,f124,f125⟩
   ·simp only [hg130,qc (g:=78),qp,f122,qo,qb,Nat.reduceAdd,Nat.zero_add,Nat.add_zero,qq,ql,B0,reduceIte,reduceEqDiff]
    refine qi (v := .int .i64 x93.Stamp) rfl ?_
    simp only [hg130,qc (g:=78),qp,f123,qo,qb,Nat.reduceAdd,Nat.zero_add,Nat.add_zero,qq,ql,B0,reduceIte,reduceEqDiff]
    refine qi (v := .int .i64 x104.Stamp) rfl ?_
    simp only [hg130,qc (g:=78),qp,qv,qb,ue,qr,zi,qa,qk,B0,reduceIte,reduceEqDiff]
    exact hN129 _ _ ⟨hS127,by rw [orF hg130]; simp only [B0,reduceIte,reduceEqDiff],f120,f121,f122,f123,f124,f125⟩
  rintro fr131 h139 ⟨hS140,f132,f133,f134,f135,f136,f137,f138⟩
  simp only [List.drop_succ_cons,List.drop_zero]
  simp only [f132,qg,B0,reduceIte,reduceEqDiff]
  obtain ⟨v144,hx145,hF146⟩:=qm hF106
  refine zu 7 (fun fr' h'=>Sep h' (geL h.length) ([])∧fr' 92 = .bool v144∧fr' 2 = .ref [lst qe v_0.Brokers,lst qd v_0.Parts,
    .int .i64 v_0.Next] 0∧fr' 3 = .ref [lst qe v_1.Brokers,lst qd v_1.Parts,.int .i64 v_1.Next] 0∧fr' 7 = .ref [lst cI x93.Homes,
    lst cI x93.InStep,.int .i64 x93.Leader,.int .i64 x93.Epoch,.int .i64 x93.Stamp] 0∧fr' 8 = .ref [lst cI x104.Homes,lst cI x104.InStep,.int .i64 x104.Leader,
    .int .i64 x104.Epoch,.int .i64 x104.Stamp] 0∧fr' 52 = .int .i64 (List.length v_0.Parts:Int)∧fr' 53 = .int .i64 (i71:Int)) (fun Q141 hN142=>?_) ?_
  ·simp only [List.take_succ_cons,List.take_zero]
   simp only [qc (g:=85),B0,reduceIte,reduceEqDiff]
   refine qx (t:=(((decide (x93.Leader≠x104.Leader))||(decide (x93.Epoch≠x104.Epoch)))||(decide (x93.Stamp≠x104.Stamp)))) (fun hg143=>?_)
     (fun hg143=>?_)
   ·rw [iteT hg143] at hx145
    simp only [hg143,qc (g:=85),zq,qr,qb,zh,qa,qk,B0,reduceIte,reduceEqDiff]
    have e147:=qj hx145
    exact hN142 _ _ ⟨hS140,by rw [←e147]; simp only [B0,reduceIte,reduceEqDiff],f133,f134,f135,f136,f137,f138⟩
   ·rw [iteF hg143] at hx145
    simp only [hg143,qc (g:=85),qp,f135,qo,qb,Nat.reduceAdd,Nat.zero_add,Nat.add_zero,qq,ql,B0,reduceIte,reduceEqDiff]
    refine qi (v:=lst cI x93.Homes) rfl ?_
    simp only [hg143,qc (g:=85),qp,f136,qo,qb,Nat.reduceAdd,Nat.zero_add,Nat.add_zero,qq,ql,B0,reduceIte,reduceEqDiff]
    refine qi (v:=lst cI x104.Homes) rfl ?_
    obtain ⟨v148,hx149,hF150⟩:=qm hx145
    simp only [hg143,qc (g:=85),qp,zb,B0,reduceIte,reduceEqDiff]
    refine jc rfl (qn zo (qn zo zg)) (qeh (fun b hb=>decide_eq_true hb) x93.Homes x104.Homes v148 hx149) ?_
    simp only [hg143,qc (g:=85),qp,ja,qb,jq,qr,zi,qa,qk,B0,reduceIte,reduceEqDiff]
    have e151:=qj hF150
    exact hN142 _ _ ⟨hS140,by rw [←e151]; simp only [B0,reduceIte,reduceEqDiff],f133,f134,f135,f136,f137,f138⟩
  rintro fr152 h160 ⟨hS161,f153,f154,f155,f156,f157,f158,f159⟩
  simp only [List.drop_succ_cons,List.drop_zero]
  simp only [f153,qg,B0,reduceIte,reduceEqDiff]
  obtain ⟨v165,hx166,hF167⟩:=qm hF146
  refine zu 7 (fun fr' h'=>Sep h' (geL h.length) ([])∧fr' 100 = .bool v165∧fr' 2 = .ref [lst qe v_0.Brokers,lst qd v_0.Parts,
    .int .i64 v_0.Next] 0∧fr' 3 = .ref [lst qe v_1.Brokers,lst qd v_1.Parts,
    .int .i64 v_1.Next] 0∧fr' 52 = .int .i64 (List.length v_0.Parts:Int)∧fr' 53 = .int .i64 (i71:Int)) (fun Q162 hN163=>?_) ?_
  ·simp only [List.take_succ_cons,List.take_zero]
   simp only [qc (g:=93),B0,reduceIte,reduceEqDiff]
   refine qx (t:=v144) (fun hg164=>?_) (fun hg164=>?_)
   ·rw [iteT hg164] at hx166
    simp only [hg164,qc (g:=93),zq,qr,qb,zh,qa,qk,B0,reduceIte,reduceEqDiff]
    have e168:=qj hx166
    exact hN163 _ _ ⟨hS161,by rw [←e168]; simp only [B0,reduceIte,reduceEqDiff],f154,f155,f158,f159⟩
   ·rw [iteF hg164] at hx166
    simp only [hg164,qc (g:=93),qp,f156,qo,qb,Nat.reduceAdd,Nat.zero_add,Nat.add_zero,qq,ql,B0,reduceIte,reduceEqDiff]
    refine qi (v:=lst cI x93.InStep) rfl ?_
    simp only [hg164,qc (g:=93),qp,f157,qo,qb,Nat.reduceAdd,Nat.zero_add,Nat.add_zero,qq,ql,B0,reduceIte,reduceEqDiff]
    refine qi (v:=lst cI x104.InStep) rfl ?_
    obtain ⟨v169,hx170,hF171⟩:=qm hx166
    simp only [hg164,qc (g:=93),qp,zb,B0,reduceIte,reduceEqDiff]
    refine jc rfl (qn zo (qn zo zg)) (qeh (fun b hb=>decide_eq_true hb) x93.InStep x104.InStep v169 hx170) ?_
    simp only [hg164,qc (g:=93),qp,ja,qb,jq,qr,zi,qa,qk,B0,reduceIte,reduceEqDiff]
    have e172:=qj hF171
    exact hN163 _ _ ⟨hS161,by rw [←e172]; simp only [B0,reduceIte,reduceEqDiff],f154,f155,f158,f159⟩
  rintro fr173 h179 ⟨hS180,f174,f175,f176,f177,f178⟩
  simp only [List.drop_succ_cons,List.drop_zero]
  simp only [qa,f174,qy,B0,reduceIte,reduceEqDiff]
  refine qw (t:=v165) (fun hc181=>?_) (fun hc181=>?_)
  ·rw [iteT hc181] at hF167
   simp only [qh,qf,qg,qa,q8,B0,reduceIte,reduceEqDiff]
   have e182:=qj hF167
   subst e182
   have ho183:=hr78 _ rfl
   have hk184:=hk76
   rw [ho183] at hk184
   dsimp only [jnO] at hk184
   apply hR82
   have he:=qj hk184
   subst he
   simp only [zc,B0,reduceIte,reduceEqDiff]
   exact rfl
  rw [iteF hc181] at hF167
  simp only [ze,qk,B0,reduceIte,reduceEqDiff]
  have e185:=qj hF167
  exact hN80 _ _ _ e185.symm ⟨f175,f176,hS180⟩ (f178) (f177)
 rintro _ fr187 h188 rfl ⟨f190,f191,hS189⟩
 dsimp only [jnO] at hk76
 unfold qef at hk76
 simp only [qh,qf,qg,qa,q8,B0,reduceIte,reduceEqDiff]
 have he:=qj hk76
 subst he
 simp only [zc,B0,reduceIte,reduceEqDiff]
 exact rfl
end Go.Proofs.Ytjloihcijdcpeaa.X
namespace Go.Proofs.Ytjloihcijdcpeaa.X
open Go
open Nat (reduceEqDiff)
theorem qb1 {W:Nat→Bool}{h:Heap} (hW:∀ b,
  (geL h.length) b→W b=true) (v_0:Control) (r:Bool) (hF:yz v_0=some r) : Ret E W 50 [.agg [lst qe v_0.Brokers,lst qd v_0.Parts,
  .int .i64 v_0.Next]] h (fun v h'=>cut h.length h' E.sz false 9 v=some (.bool r)):=by
 refine Ret.of (fn:=x50) rfl (Run.of ?_)
 unfold yz at hF
 have zf0:zj [.agg [lst qe v_0.Brokers,lst qd v_0.Parts,.int .i64 v_0.Next]] 0 = .agg [lst qe v_0.Brokers,lst qd v_0.Parts,
   .int .i64 v_0.Next]:=rfl
 generalize zj [.agg [lst qe v_0.Brokers,lst qd v_0.Parts,.int .i64 v_0.Next]]=fr0 at zf0 ⊢
 have hS:Sep h (geL h.length) []:=Sep.nil h
 simp only [x50,qh,qf,ju,zf0,B0,reduceIte,reduceEqDiff]
 refine je (cs:=[lst qe v_0.Brokers,lst qd v_0.Parts,.int .i64 v_0.Next]) hS rfl rfl rfl (fun b1 h2 hS3=>?_)
 simp only [qg,qa,B0,reduceIte,reduceEqDiff]
 refine zw hS3 hW (by simp only [B0,reduceIte,reduceEqDiff]) (fun h5 hS6=>?_)
 simp only [zv,qvj,qh,qf,qo,qb,Nat.reduceAdd,Nat.zero_add,Nat.add_zero,qq,ql,B0,reduceIte,reduceEqDiff]
 refine qi (v:=lst qe v_0.Brokers) rfl ?_
 simp only [zr,qb,zx,qg,qa,qr1,qh,qf,zb,B0,reduceIte,reduceEqDiff]
 refine jc rfl (qn qu (qn qu (qn qu zg))) (wk (fun b hb=>decide_eq_true hb) (List.length v_0.Brokers:Int) 1 6 _ rfl) ?_
 simp only [ja,qb,jq,qg,B0,reduceIte,reduceEqDiff]
 refine zu 5 (fun fr' h'=>Sep h' (geL h.length) ([])∧fr' 20 = .bool ((!(zp (List.length v_0.Brokers:Int) 1 6))||(decide ((5:Int) <
   (List.length v_0.Parts:Int))))∧fr' 1 = .ref [lst qe v_0.Brokers,lst qd v_0.Parts,
   .int .i64 v_0.Next] 0∧fr' 3 = .int .i64 (List.length v_0.Brokers:Int)) (fun Q7 hN8=>?_) ?_
 ·simp only [List.take_succ_cons,List.take_zero]
  simp only [qc (g:=15),B0,reduceIte,reduceEqDiff]
  refine qx (t:=(!(zp (List.length v_0.Brokers:Int) 1 6))) (fun hg9=>?_) (fun hg9=>?_)
  ·simp only [hg9,qc (g:=15),zq,qr,qb,zh,qa,qk,B0,reduceIte,reduceEqDiff]
   exact hN8 _ _ ⟨hS6,by rw [orT hg9]; simp only [B0,reduceIte,reduceEqDiff],rfl,rfl⟩
  ·simp only [hg9,qc (g:=15),qp,qo,qb,Nat.reduceAdd,Nat.zero_add,Nat.add_zero,qq,ql,B0,reduceIte,reduceEqDiff]
   refine qi (v:=lst qd v_0.Parts) rfl ?_
   simp only [hg9,qc (g:=15),qp,zr,qb,zx,qv,qet,qr,zi,qa,qk,B0,reduceIte,reduceEqDiff]
   exact hN8 _ _ ⟨hS6,by rw [orF hg9]; simp only [B0,reduceIte,reduceEqDiff],rfl,rfl⟩
 rintro fr10 h14 ⟨hS15,f11,f12,f13⟩
 simp only [List.drop_succ_cons,List.drop_zero]
 simp only [f11,qg,B0,reduceIte,reduceEqDiff]
 refine zu 5 (fun fr' h'=>Sep h' (geL h.length) ([])∧fr' 26 = .bool (((!(zp (List.length v_0.Brokers:Int) 1 6))||(decide ((5:Int) <
   (List.length v_0.Parts:Int))))||(!(zp v_0.Next 1 1000)))∧fr' 1 = .ref [lst qe v_0.Brokers,lst qd v_0.Parts,
   .int .i64 v_0.Next] 0∧fr' 3 = .int .i64 (List.length v_0.Brokers:Int)) (fun Q16 hN17=>?_) ?_
 ·simp only [List.take_succ_cons,List.take_zero]
  simp only [qc (g:=21),B0,reduceIte,reduceEqDiff]
  refine qx (t:=((!(zp (List.length v_0.Brokers:Int) 1 6))||(decide ((5:Int)<(List.length v_0.Parts:Int))))) (fun hg18=>?_) (fun hg18=>?_)
  ·simp only [hg18,qc (g:=21),zq,qr,qb,zh,qa,qk,B0,reduceIte,reduceEqDiff]
   exact hN17 _ _ ⟨hS15,by rw [orT hg18]; simp only [B0,reduceIte,reduceEqDiff],f12,f13⟩
  ·simp only [hg18,qc (g:=21),qp,f12,qo,qb,Nat.reduceAdd,Nat.zero_add,Nat.add_zero,qq,ql,B0,reduceIte,reduceEqDiff]
   refine qi (v := .int .i64 v_0.Next) rfl ?_
   simp only [hg18,qc (g:=21),qp,zb,B0,reduceIte,reduceEqDiff]
   refine jc rfl (qn qu (qn qu (qn qu zg))) (wk (fun b hb=>decide_eq_true hb) v_0.Next 1 1000 _ rfl) ?_
   simp only [hg18,qc (g:=21),qp,ja,qb,jq,qr,zi,qa,qk,B0,reduceIte,reduceEqDiff]
   exact hN17 _ _ ⟨hS15,by rw [orF hg18]; simp only [B0,reduceIte,reduceEqDiff],f12,f13⟩
 rintro fr19 h23 ⟨hS24,f20,f21,f22⟩
 simp only [List.drop_succ_cons,List.drop_zero]
 simp only [qa,f20,qy,B0,reduceIte,reduceEqDiff]
 refine qw (t:=(((!(zp (List.length v_0.Brokers:Int) 1 6))||(decide ((5:Int)<(List.length v_0.Parts:Int))))||(!(zp v_0.Next 1 1000))))
   (fun hc25=>?_) (fun hc25=>?_)
 ·rw [iteT hc25] at hF
  simp only [qh,qf,qg,qa,q8,B0,reduceIte,reduceEqDiff]
  have he:=qj hF
  subst he
  simp only [zc,B0,reduceIte,reduceEqDiff]
  exact rfl
 rw [iteF hc25] at hF
 simp only [ze,qqk,qh,qf,f21,qo,qb,Nat.reduceAdd,Nat.zero_add,Nat.add_zero,qq,ql,B0,reduceIte,reduceEqDiff]
 refine qi (v:=lst qe v_0.Brokers) rfl ?_
 simp only [zr,qb,zx,qg,qa,B0,reduceIte,reduceEqDiff]
 obtain ⟨oc28,hX30,hk31⟩:=jd hF
 simp only [qxy]
 refine kn (σ:=Unit) v_0.Brokers (fun i26 x27 _=>uw v_0 i26 x27 ) (fun s fr' h'=>fr' 1 = .ref [lst qe v_0.Brokers,
   lst qd v_0.Parts,.int .i64 v_0.Next] 0∧fr' 3 = .int .i64 (List.length v_0.Brokers:Int)∧fr' 28=lst qe v_0.Brokers∧Sep h' (geL h.length)
   ([])) hX30 ⟨f21,f22,rfl,hS24⟩ (by simp only [B0,reduceIte,reduceEqDiff]) (by simp only [B0,reduceIte,
   reduceEqDiff]) (fun _ _ _ h=>h) rfl rfl (fun _ _ _ _ h=>h) (fun _ _ _ _ h=>h) (fun _ _ _ _ h=>h) (by decide) ?_ ?_
 ·rintro i26 x27 _ fr40 h41 hx46 ⟨f43,f44,f45,hS42⟩ f47 f48 oc29 hF32 hr33 Q34 hN35 hB39 hK36 hR37 hE38
  unfold uw at hF32
  simp only [qxs,qh,qf,f45,f47,jb,B0,reduceIte,reduceEqDiff]
  refine qi (v := .ref (qe x27) 0) (ko hx46 rfl) ?_
  simp only [ql,B0,reduceIte,reduceEqDiff]
  refine qi (v := .agg [.int .i64 x27.Epoch,.int .i64 x27.Left,.bool x27.Fenced]) rfl ?_
  simp only [jg,B0,reduceIte,reduceEqDiff]
  refine z1 hS42 (fun b49 h50 hS51=>?_)
  simp only [zl,B0,reduceIte,reduceEqDiff]
  refine zf (us:=[.int .i64 x27.Epoch,.int .i64 x27.Left,.bool x27.Fenced]) rfl (cs':=[.int .i64 x27.Epoch,.int .i64 x27.Left,
    .bool x27.Fenced]) hS51 hW rfl rfl (nle rfl) rfl (fun h53 hS54=>?_)
  simp only [qa,B0,reduceIte,reduceEqDiff]
  refine zw hS54 hW (by simp only [B0,reduceIte,reduceEqDiff]) (fun h55 hS56=>?_)
  simp only [zv,qzs,qh,qf,qo,qb,Nat.reduceAdd,Nat.zero_add,Nat.add_zero,qq,ql,B0,reduceIte,reduceEqDiff]
  refine qi (v := .int .i64 x27.Epoch) rfl ?_
  simp only [f43,qo,qb,Nat.reduceAdd,Nat.zero_add,Nat.add_zero,qq,ql,B0,reduceIte,reduceEqDiff]
  refine qi (v := .int .i64 v_0.Next) rfl ?_
  simp only [qv,qb,qf7,zb,B0,reduceIte,reduceEqDiff]
  refine jc rfl (qn qu (qn qu (qn qu zg))) (wk (fun b hb=>decide_eq_true hb) x27.Epoch 0 (IntKind.wrap .i64 (v_0.Next - 1)) _ rfl) ?_
  simp only [ja,qb,jq,qg,B0,reduceIte,reduceEqDiff]
  refine zu 5 (fun fr' h'=>Sep h' (geL h.length) ([])∧fr' 46 = .bool ((!(zp x27.Epoch 0 (IntKind.wrap .i64 (v_0.Next - 1)))) ||
    (!(zp x27.Left 0 9)))∧fr' 1 = .ref [lst qe v_0.Brokers,lst qd v_0.Parts,
    .int .i64 v_0.Next] 0∧fr' 3 = .int .i64 (List.length v_0.Brokers:Int)∧fr' 5 = .ref [.int .i64 x27.Epoch,.int .i64 x27.Left,
    .bool x27.Fenced] 0∧fr' 28=lst qe v_0.Brokers∧fr' 29 = .int .i64 (List.length v_0.Brokers:Int)∧fr' 30 = .int .i64 (i26:Int)) (fun Q57 hN58=>?_) ?_
  ·simp only [List.take_succ_cons,List.take_zero]
   simp only [qc (g:=41),B0,reduceIte,reduceEqDiff]
   refine qx (t:=(!(zp x27.Epoch 0 (IntKind.wrap .i64 (v_0.Next - 1))))) (fun hg59=>?_) (fun hg59=>?_)
   ·simp only [hg59,qc (g:=41),zq,qr,qb,zh,qa,qk,B0,reduceIte,reduceEqDiff]
    exact hN58 _ _ ⟨hS56,by rw [orT hg59]; simp only [B0,reduceIte,reduceEqDiff],f43,f44,rfl,f45,f48,f47⟩
   ·simp only [hg59,qc (g:=41),qp,qo,qb,Nat.reduceAdd,Nat.zero_add,Nat.add_zero,qq,ql,B0,reduceIte,reduceEqDiff]
    refine qi (v := .int .i64 x27.Left) rfl ?_
    simp only [hg59,qc (g:=41),qp,zb,B0,reduceIte,reduceEqDiff]
    refine jc rfl (qn qu (qn qu (qn qu zg))) (wk (fun b hb=>decide_eq_true hb) x27.Left 0 9 _ rfl) ?_
    simp only [hg59,qc (g:=41),qp,ja,qb,jq,qr,zi,qa,qk,B0,reduceIte,reduceEqDiff]
    exact hN58 _ _ ⟨hS56,by rw [orF hg59]; simp only [B0,reduceIte,reduceEqDiff],f43,f44,rfl,f45,f48,f47⟩
  rintro fr60 h68 ⟨hS69,f61,f62,f63,f64,f65,f66,f67⟩
  simp only [List.drop_succ_cons,List.drop_zero]
  simp only [f61,qg,B0,reduceIte,reduceEqDiff]
  refine zu 9 (fun fr' h'=>Sep h' (geL h.length) ([])∧fr' 56 = .bool (((!(zp x27.Epoch 0 (IntKind.wrap .i64 (v_0.Next - 1))))||(!(zp x27.Left 0 9))) ||
    ((decide (x27.Epoch=0))&&(decide (x27.Left≠0))))∧fr' 1 = .ref [lst qe v_0.Brokers,lst qd v_0.Parts,
    .int .i64 v_0.Next] 0∧fr' 3 = .int .i64 (List.length v_0.Brokers:Int)∧fr' 5 = .ref [.int .i64 x27.Epoch,.int .i64 x27.Left,
    .bool x27.Fenced] 0∧fr' 28=lst qe v_0.Brokers∧fr' 29 = .int .i64 (List.length v_0.Brokers:Int)∧fr' 30 = .int .i64 (i26:Int)) (fun Q70 hN71=>?_) ?_
  ·simp only [List.take_succ_cons,List.take_zero]
   simp only [qc (g:=47),B0,reduceIte,reduceEqDiff]
   refine qx (t:=((!(zp x27.Epoch 0 (IntKind.wrap .i64 (v_0.Next - 1))))||(!(zp x27.Left 0 9)))) (fun hg72=>?_) (fun hg72=>?_)
   ·simp only [hg72,qc (g:=47),zq,qc (g:=51),qbu,qr,qb,zh,qa,qk,B0,reduceIte,reduceEqDiff]
    exact hN71 _ _ ⟨hS69,by rw [orT hg72]; simp only [B0,reduceIte,reduceEqDiff],f62,f63,f64,f65,f66,f67⟩
   ·simp only [hg72,qc (g:=47),qp,f64,qo,qb,Nat.reduceAdd,Nat.zero_add,Nat.add_zero,qq,ql,B0,reduceIte,reduceEqDiff]
    refine qi (v := .int .i64 x27.Epoch) rfl ?_
    simp only [hg72,qc (g:=47),qp,qv,qb,z4,qg,B0,reduceIte,reduceEqDiff]
    refine zu 4 (fun fr' h'=>Sep h' (geL h.length) ([])∧fr' 55 = .bool ((decide (x27.Epoch=0))&&(decide
      (x27.Left≠0)))∧fr' 1 = .ref [lst qe v_0.Brokers,lst qd v_0.Parts,
      .int .i64 v_0.Next] 0∧fr' 3 = .int .i64 (List.length v_0.Brokers:Int)∧fr' 5 = .ref [.int .i64 x27.Epoch,.int .i64 x27.Left,
      .bool x27.Fenced] 0∧fr' 28=lst qe v_0.Brokers∧fr' 29 = .int .i64 (List.length v_0.Brokers:Int)∧fr' 30 = .int .i64 (i26:Int)∧fr' 47 = .bool
      ((!(zp x27.Epoch 0 (IntKind.wrap .i64 (v_0.Next - 1))))||(!(zp x27.Left 0 9)))) (fun Q73 hN74=>?_) ?_
    ·simp only [List.take_succ_cons,List.take_zero]
     simp only [qc (g:=51),B0,reduceIte,reduceEqDiff]
     refine qx (t:=(decide (x27.Epoch=0))) (fun hg75=>?_) (fun hg75=>?_)
     ·simp only [hg75,qc (g:=51),qz,f64,qo,qb,Nat.reduceAdd,Nat.zero_add,Nat.add_zero,qq,ql,B0,reduceIte,reduceEqDiff]
      refine qi (v := .int .i64 x27.Left) rfl ?_
      simp only [hg75,qc (g:=51),qz,qv,qb,ue,hg72,qc (g:=47),qp,qr,zh,qa,qk,B0,
        reduceIte,reduceEqDiff]
      exact hN74 _ _ ⟨hS69,by rw [yb hg75]; simp only [B0,reduceIte,reduceEqDiff],f62,f63,f64,f65,f66,f67,by simp only [hg72,B0,reduceIte,reduceEqDiff]⟩
     ·simp only [hg75,qc (g:=51),zy,hg72,qc (g:=47),qp,qr,qb,zi,qa,qk,B0,reduceIte,
       reduceEqDiff]
      exact hN74 _ _ ⟨hS69,by rw [yc hg75]; simp only [B0,reduceIte,reduceEqDiff],f62,f63,f64,f65,f66,f67,by simp only [hg72,B0,reduceIte,reduceEqDiff]⟩
    rintro fr76 h85 ⟨hS86,f77,f78,f79,f80,f81,f82,f83,f84⟩
    simp only [List.drop_succ_cons,List.drop_zero]
    simp only [f84,hg72,qr,qb,zi,f77,qa,qk,B0,reduceIte,reduceEqDiff]
    exact hN71 _ _ ⟨hS86,by rw [orF hg72]; simp only [B0,reduceIte,reduceEqDiff],f78,f79,f80,f81,f82,f83⟩
  rintro fr87 h95 ⟨hS96,f88,f89,f90,f91,f92,f93,f94⟩
  simp only [List.drop_succ_cons,List.drop_zero]
  simp only [f88,qg,B0,reduceIte,reduceEqDiff]
  refine zu 7 (fun fr' h'=>Sep h' (geL h.length) ([])∧fr' 64 = .bool ((((!(zp x27.Epoch 0 (IntKind.wrap .i64 (v_0.Next - 1))))||(!(zp x27.Left 0 9))) ||
    ((decide (x27.Epoch=0))&&(decide (x27.Left≠0))))||(!(x27.Fenced == (decide (x27.Left=0)))))∧fr' 1 = .ref [lst qe v_0.Brokers,
    lst qd v_0.Parts,.int .i64 v_0.Next] 0∧fr' 3 = .int .i64 (List.length v_0.Brokers:Int)∧fr' 28=lst qe v_0.Brokers∧fr' 29 = .int .i64
    (List.length v_0.Brokers:Int)∧fr' 30 = .int .i64 (i26:Int)) (fun Q97 hN98=>?_) ?_
  ·simp only [List.take_succ_cons,List.take_zero]
   simp only [qc (g:=57),B0,reduceIte,reduceEqDiff]
   refine qx (t:=(((!(zp x27.Epoch 0 (IntKind.wrap .i64 (v_0.Next - 1))))||(!(zp x27.Left 0 9)))||((decide (x27.Epoch=0))&&(decide
     (x27.Left≠0))))) (fun hg99=>?_) (fun hg99=>?_)
   ·simp only [hg99,qc (g:=57),zq,qr,qb,zh,qa,qk,B0,reduceIte,reduceEqDiff]
    exact hN98 _ _ ⟨hS96,by rw [orT hg99]; simp only [B0,reduceIte,reduceEqDiff],f89,f90,f92,f93,f94⟩
   ·simp only [hg99,qc (g:=57),qp,f91,qo,qb,Nat.reduceAdd,Nat.zero_add,Nat.add_zero,qq,ql,B0,reduceIte,reduceEqDiff]
    refine qi (v := .bool x27.Fenced) rfl ?_
    simp only [hg99,qc (g:=57),qp,f91,qo,qb,Nat.reduceAdd,Nat.zero_add,Nat.add_zero,qq,ql,B0,reduceIte,reduceEqDiff]
    refine qi (v := .int .i64 x27.Left) rfl ?_
    simp only [hg99,qc (g:=57),qp,qv,qb,z4,qkw,qg8,qr,zi,qa,qk,B0,reduceIte,reduceEqDiff]
    exact hN98 _ _ ⟨hS96,by rw [orF hg99]; simp only [B0,reduceIte,reduceEqDiff],f89,f90,f92,f93,f94⟩
  rintro fr100 h107 ⟨hS108,f101,f102,f103,f104,f105,f106⟩
  simp only [List.drop_succ_cons,List.drop_zero]
  simp only [qa,f101,qy,B0,reduceIte,reduceEqDiff]
  refine qw (t:=((((!(zp x27.Epoch 0 (IntKind.wrap .i64 (v_0.Next - 1))))||(!(zp x27.Left 0 9)))||((decide (x27.Epoch=0))&&(decide
    (x27.Left≠0))))||(!(x27.Fenced == (decide (x27.Left=0)))))) (fun hc109=>?_) (fun hc109=>?_)
  ·rw [iteT hc109] at hF32
   simp only [qh,qf,qg,qa,q8,B0,reduceIte,reduceEqDiff]
   have e110:=qj hF32
   subst e110
   have ho111:=hr33 _ rfl
   have hk112:=hk31
   rw [ho111] at hk112
   dsimp only [jnO] at hk112
   apply hR37
   have he:=qj hk112
   subst he
   simp only [zc,B0,reduceIte,reduceEqDiff]
   exact rfl
  rw [iteF hc109] at hF32
  simp only [ze,qk,B0,reduceIte,reduceEqDiff]
  have e113:=qj hF32
  exact hN35 _ _ _ e113.symm ⟨f102,f103,f104,hS108⟩ (f106) (f105)
 rintro _ fr115 h116 rfl ⟨f118,f119,f120,hS117⟩
 dsimp only [jnO] at hk31
 unfold qda at hk31
 simp only [qvw,qh,qf,f118,qo,qb,Nat.reduceAdd,Nat.zero_add,Nat.add_zero,qq,ql,B0,reduceIte,reduceEqDiff]
 refine qi (v:=lst qd v_0.Parts) rfl ?_
 simp only [zr,qb,zx,qg,qa,B0,reduceIte,reduceEqDiff]
 obtain ⟨oc123,hX125,hk126⟩:=jd hk31
 simp only [qs0]
 refine kn (σ:=Unit) v_0.Parts (fun i121 x122 _=>ux v_0 i121 x122 ) (fun s fr' h'=>fr' 1 = .ref [lst qe v_0.Brokers,
   lst qd v_0.Parts,.int .i64 v_0.Next] 0∧fr' 3 = .int .i64 (List.length v_0.Brokers:Int)∧fr' 67=lst qd v_0.Parts∧Sep h' (geL h.length)
   ([])) hX125 ⟨f118,f119,rfl,hS117⟩ (by simp only [B0,reduceIte,reduceEqDiff]) (by simp only [B0,reduceIte,
   reduceEqDiff]) (fun _ _ _ h=>h) rfl rfl (fun _ _ _ _ h=>h) (fun _ _ _ _ h=>h) (fun _ _ _ _ h=>h) (by decide) ?_ ?_
 ·rintro i121 x122 _ fr135 h136 hx141 ⟨f138,f139,f140,hS137⟩ f142 f143 oc124 hF127 hr128 Q129 hN130 hB134 hK131 hR132 hE133
  unfold ux at hF127
  simp only [q06,qh,qf,f140,f142,jb,B0,reduceIte,reduceEqDiff]
  refine qi (v := .ref (qd x122) 0) (ko hx141 rfl) ?_
  simp only [ql,B0,reduceIte,reduceEqDiff]
  refine qi (v := .agg [lst cI x122.Homes,lst cI x122.InStep,.int .i64 x122.Leader,.int .i64 x122.Epoch,.int .i64 x122.Stamp]) rfl ?_
  simp only [jg,B0,reduceIte,reduceEqDiff]
  refine z1 hS137 (fun b144 h145 hS146=>?_)
  simp only [zl,B0,reduceIte,reduceEqDiff]
  refine zf (us:=[lst cI x122.Homes,lst cI x122.InStep,.int .i64 x122.Leader,.int .i64 x122.Epoch,.int .i64 x122.Stamp]) rfl (cs':=[lst cI x122.Homes,
    lst cI x122.InStep,.int .i64 x122.Leader,.int .i64 x122.Epoch,.int .i64 x122.Stamp]) hS146 hW rfl rfl (nle rfl) rfl (fun h148 hS149=>?_)
  simp only [qa,B0,reduceIte,reduceEqDiff]
  refine zw hS149 hW (by simp only [B0,reduceIte,reduceEqDiff]) (fun h150 hS151=>?_)
  simp only [zv,q0g,qh,qf,qo,qb,Nat.reduceAdd,Nat.zero_add,Nat.add_zero,qq,ql,B0,reduceIte,reduceEqDiff]
  refine qi (v:=lst cI x122.Homes) rfl ?_
  simp only [zr,qb,zx,qv,z4,qg,B0,reduceIte,reduceEqDiff]
  obtain ⟨v155,hx156,hF157⟩:=qm hF127
  refine zu 6 (fun fr' h'=>Sep h' (geL h.length) ([])∧fr' 83 = .bool v155∧fr' 1 = .ref [lst qe v_0.Brokers,lst qd v_0.Parts,
    .int .i64 v_0.Next] 0∧fr' 3 = .int .i64 (List.length v_0.Brokers:Int)∧fr' 7 = .ref [lst cI x122.Homes,lst cI x122.InStep,.int .i64 x122.Leader,
    .int .i64 x122.Epoch,.int .i64 x122.Stamp] 0∧fr' 67=lst qd v_0.Parts∧fr' 68 = .int .i64 (List.length v_0.Parts:Int)∧fr' 69 = .int .i64
    (i121:Int)) (fun Q152 hN153=>?_) ?_
  ·simp only [List.take_succ_cons,List.take_zero]
   simp only [qc (g:=77),B0,reduceIte,reduceEqDiff]
   refine qx (t:=(decide ((List.length x122.Homes:Int)=0))) (fun hg154=>?_) (fun hg154=>?_)
   ·rw [iteT hg154] at hx156
    simp only [hg154,qc (g:=77),zq,qr,qb,zh,qa,qk,B0,reduceIte,reduceEqDiff]
    have e158:=qj hx156
    exact hN153 _ _ ⟨hS151,by rw [←e158]; simp only [B0,reduceIte,reduceEqDiff],f138,f139,rfl,f140,f143,f142⟩
   ·rw [iteF hg154] at hx156
    simp only [hg154,qc (g:=77),qp,qo,qb,Nat.reduceAdd,Nat.zero_add,Nat.add_zero,qq,ql,B0,reduceIte,reduceEqDiff]
    refine qi (v:=lst cI x122.Homes) rfl ?_
    obtain ⟨v159,hx160,hF161⟩:=qm hx156
    simp only [hg154,qc (g:=77),qp,f139,qg,zb,B0,reduceIte,reduceEqDiff]
    refine jc rfl (qn zo (qn qu zg)) (qdc (fun b hb=>decide_eq_true hb) x122.Homes (List.length v_0.Brokers:Int) v159 hx160) ?_
    simp only [hg154,qc (g:=77),qp,ja,qb,jq,qr,zi,qa,qk,B0,reduceIte,reduceEqDiff]
    have e162:=qj hF161
    exact hN153 _ _ ⟨hS151,by rw [←e162]; simp only [B0,reduceIte,reduceEqDiff],f138,f139,rfl,f140,f143,f142⟩
  rintro fr163 h171 ⟨hS172,f164,f165,f166,f167,f168,f169,f170⟩
  simp only [List.drop_succ_cons,List.drop_zero]
  simp only [f164,qg,B0,reduceIte,reduceEqDiff]
  refine zu 5 (fun fr' h'=>Sep h' (geL h.length) ([])∧fr' 89 = .bool (v155||(decide
    ((List.length x122.InStep:Int)=0)))∧fr' 1 = .ref [lst qe v_0.Brokers,lst qd v_0.Parts,
    .int .i64 v_0.Next] 0∧fr' 3 = .int .i64 (List.length v_0.Brokers:Int)∧fr' 7 = .ref [lst cI x122.Homes,lst cI x122.InStep,.int .i64 x122.Leader,
    .int .i64 x122.Epoch,.int .i64 x122.Stamp] 0∧fr' 67=lst qd v_0.Parts∧fr' 68 = .int .i64 (List.length v_0.Parts:Int)∧fr' 69 = .int .i64
    (i121:Int)) (fun Q173 hN174=>?_) ?_
  ·simp only [List.take_succ_cons,List.take_zero]
   simp only [qc (g:=84),B0,reduceIte,reduceEqDiff]
   refine qx (t:=v155) (fun hg175=>?_) (fun hg175=>?_)
   ·simp only [hg175,qc (g:=84),zq,qr,qb,zh,qa,qk,B0,reduceIte,reduceEqDiff]
    exact hN174 _ _ ⟨hS172,by rw [orT hg175]; simp only [B0,reduceIte,reduceEqDiff],f165,f166,f167,f168,f169,f170⟩
   ·simp only [hg175,qc (g:=84),qp,f167,qo,qb,Nat.reduceAdd,Nat.zero_add,Nat.add_zero,qq,ql,B0,reduceIte,reduceEqDiff]
    refine qi (v:=lst cI x122.InStep) rfl ?_
    simp only [hg175,qc (g:=84),qp,zr,qb,zx,qv,z4,qr,zi,qa,qk,B0,reduceIte,reduceEqDiff]
    exact hN174 _ _ ⟨hS172,by rw [orF hg175]; simp only [B0,reduceIte,reduceEqDiff],f165,f166,f167,f168,f169,f170⟩
  rintro fr176 h184 ⟨hS185,f177,f178,f179,f180,f181,f182,f183⟩
  simp only [List.drop_succ_cons,List.drop_zero]
  simp only [f177,qg,B0,reduceIte,reduceEqDiff]
  obtain ⟨v189,hx190,hF191⟩:=qm hF157
  refine zu 6 (fun fr' h'=>Sep h' (geL h.length) ([])∧fr' 96 = .bool v189∧fr' 1 = .ref [lst qe v_0.Brokers,lst qd v_0.Parts,
    .int .i64 v_0.Next] 0∧fr' 3 = .int .i64 (List.length v_0.Brokers:Int)∧fr' 7 = .ref [lst cI x122.Homes,lst cI x122.InStep,.int .i64 x122.Leader,
    .int .i64 x122.Epoch,.int .i64 x122.Stamp] 0∧fr' 67=lst qd v_0.Parts∧fr' 68 = .int .i64 (List.length v_0.Parts:Int)∧fr' 69 = .int .i64
    (i121:Int)) (fun Q186 hN187=>?_) ?_
  ·simp only [List.take_succ_cons,List.take_zero]
   simp only [qc (g:=90),B0,reduceIte,reduceEqDiff]
   refine qx (t:=(v155||(decide ((List.length x122.InStep:Int)=0)))) (fun hg188=>?_) (fun hg188=>?_)
   ·rw [iteT hg188] at hx190
    simp only [hg188,qc (g:=90),zq,qr,qb,zh,qa,qk,B0,reduceIte,reduceEqDiff]
    have e192:=qj hx190
    exact hN187 _ _ ⟨hS185,by rw [←e192]; simp only [B0,reduceIte,reduceEqDiff],f178,f179,f180,f181,f182,f183⟩
   ·rw [iteF hg188] at hx190
    simp only [hg188,qc (g:=90),qp,f180,qo,qb,Nat.reduceAdd,Nat.zero_add,Nat.add_zero,qq,ql,B0,reduceIte,reduceEqDiff]
    refine qi (v:=lst cI x122.InStep) rfl ?_
    obtain ⟨v193,hx194,hF195⟩:=qm hx190
    simp only [hg188,qc (g:=90),qp,f179,qg,zb,B0,reduceIte,reduceEqDiff]
    refine jc rfl (qn zo (qn qu zg)) (qdc (fun b hb=>decide_eq_true hb) x122.InStep (List.length v_0.Brokers:Int) v193 hx194) ?_
    simp only [hg188,qc (g:=90),qp,ja,qb,jq,qr,zi,qa,qk,B0,reduceIte,reduceEqDiff]
    have e196:=qj hF195
    exact hN187 _ _ ⟨hS185,by rw [←e196]; simp only [B0,reduceIte,reduceEqDiff],f178,f179,f180,f181,f182,f183⟩
  rintro fr197 h205 ⟨hS206,f198,f199,f200,f201,f202,f203,f204⟩
  simp only [List.drop_succ_cons,List.drop_zero]
  simp only [f198,qg,B0,reduceIte,reduceEqDiff]
  obtain ⟨v210,hx211,hF212⟩:=qm hF191
  refine zu 7 (fun fr' h'=>Sep h' (geL h.length) ([])∧fr' 104 = .bool v210∧fr' 1 = .ref [lst qe v_0.Brokers,lst qd v_0.Parts,
    .int .i64 v_0.Next] 0∧fr' 3 = .int .i64 (List.length v_0.Brokers:Int)∧fr' 7 = .ref [lst cI x122.Homes,lst cI x122.InStep,.int .i64 x122.Leader,
    .int .i64 x122.Epoch,.int .i64 x122.Stamp] 0∧fr' 67=lst qd v_0.Parts∧fr' 68 = .int .i64 (List.length v_0.Parts:Int)∧fr' 69 = .int .i64
    (i121:Int)) (fun Q207 hN208=>?_) ?_
  ·simp only [List.take_succ_cons,List.take_zero]
   simp only [qc (g:=97),B0,reduceIte,reduceEqDiff]
   refine qx (t:=v189) (fun hg209=>?_) (fun hg209=>?_)
   ·rw [iteT hg209] at hx211
    simp only [hg209,qc (g:=97),zq,qr,qb,zh,qa,qk,B0,reduceIte,reduceEqDiff]
    have e213:=qj hx211
    exact hN208 _ _ ⟨hS206,by rw [←e213]; simp only [B0,reduceIte,reduceEqDiff],f199,f200,f201,f202,f203,f204⟩
   ·rw [iteF hg209] at hx211
    simp only [hg209,qc (g:=97),qp,f201,qo,qb,Nat.reduceAdd,Nat.zero_add,Nat.add_zero,qq,ql,B0,reduceIte,reduceEqDiff]
    refine qi (v:=lst cI x122.InStep) rfl ?_
    simp only [hg209,qc (g:=97),qp,f201,qo,qb,Nat.reduceAdd,Nat.zero_add,Nat.add_zero,qq,ql,B0,reduceIte,reduceEqDiff]
    refine qi (v:=lst cI x122.Homes) rfl ?_
    obtain ⟨v214,hx215,hF216⟩:=qm hx211
    simp only [hg209,qc (g:=97),qp,zb,B0,reduceIte,reduceEqDiff]
    refine jc rfl (qn zo (qn zo zg)) (qic (fun b hb=>decide_eq_true hb) x122.InStep x122.Homes v214 hx215) ?_
    simp only [hg209,qc (g:=97),qp,ja,qb,jq,qr,zi,qa,qk,B0,reduceIte,reduceEqDiff]
    have e217:=qj hF216
    exact hN208 _ _ ⟨hS206,by rw [←e217]; simp only [B0,reduceIte,reduceEqDiff],f199,f200,f201,f202,f203,f204⟩
  rintro fr218 h226 ⟨hS227,f219,f220,f221,f222,f223,f224,f225⟩
  simp only [List.drop_succ_cons,List.drop_zero]
  simp only [f219,qg,B0,reduceIte,reduceEqDiff]
  refine zu 5 (fun fr' h'=>Sep h' (geL h.length) ([])∧fr' 110 = .bool (v210||(!(zp x122.Epoch 0 1000)))∧fr' 1 = .ref [lst qe v_0.Brokers,
    lst qd v_0.Parts,.int .i64 v_0.Next] 0∧fr' 3 = .int .i64 (List.length v_0.Brokers:Int)∧fr' 7 = .ref [lst cI x122.Homes,lst cI x122.InStep,
    .int .i64 x122.Leader,.int .i64 x122.Epoch,
    .int .i64 x122.Stamp] 0∧fr' 67=lst qd v_0.Parts∧fr' 68 = .int .i64 (List.length v_0.Parts:Int)∧fr' 69 = .int .i64 (i121:Int))
    (fun Q228 hN229=>?_) ?_
  ·simp only [List.take_succ_cons,List.take_zero]
   simp only [qc (g:=105),B0,reduceIte,reduceEqDiff]
   refine qx (t:=v210) (fun hg230=>?_) (fun hg230=>?_)
   ·simp only [hg230,qc (g:=105),zq,qr,qb,zh,qa,qk,B0,reduceIte,reduceEqDiff]
    exact hN229 _ _ ⟨hS227,by rw [orT hg230]; simp only [B0,reduceIte,reduceEqDiff],f220,f221,f222,f223,f224,f225⟩
   ·simp only [hg230,qc (g:=105),qp,f222,qo,qb,Nat.reduceAdd,Nat.zero_add,Nat.add_zero,qq,ql,B0,reduceIte,reduceEqDiff]
    refine qi (v := .int .i64 x122.Epoch) rfl ?_
    simp only [hg230,qc (g:=105),qp,zb,B0,reduceIte,reduceEqDiff]
    refine jc rfl (qn qu (qn qu (qn qu zg))) (wk (fun b hb=>decide_eq_true hb) x122.Epoch 0 1000 _ rfl) ?_
    simp only [hg230,qc (g:=105),qp,ja,qb,jq,qr,zi,qa,qk,B0,reduceIte,reduceEqDiff]
    exact hN229 _ _ ⟨hS227,by rw [orF hg230]; simp only [B0,reduceIte,reduceEqDiff],f220,f221,f222,f223,f224,f225⟩
  rintro fr231 h239 ⟨hS240,f232,f233,f234,f235,f236,f237,f238⟩
  simp only [List.drop_succ_cons,List.drop_zero]
  simp only [f232,qg,B0,reduceIte,reduceEqDiff]
  refine zu 5 (fun fr' h'=>Sep h' (geL h.length) ([])∧fr' 116 = .bool ((v210||(!(zp x122.Epoch 0 1000))) ||
    (!(zp x122.Stamp 0 1000)))∧fr' 1 = .ref [lst qe v_0.Brokers,lst qd v_0.Parts,
    .int .i64 v_0.Next] 0∧fr' 3 = .int .i64 (List.length v_0.Brokers:Int)∧fr' 7 = .ref [lst cI x122.Homes,lst cI x122.InStep,.int .i64 x122.Leader,
    .int .i64 x122.Epoch,.int .i64 x122.Stamp] 0∧fr' 67=lst qd v_0.Parts∧fr' 68 = .int .i64 (List.length v_0.Parts:Int)∧fr' 69 = .int .i64
    (i121:Int)) (fun Q241 hN242=>?_) ?_
  ·simp only [List.take_succ_cons,List.take_zero]
   simp only [qc (g:=111),B0,reduceIte,reduceEqDiff]
   refine qx (t:=(v210||(!(zp x122.Epoch 0 1000)))) (fun hg243=>?_) (fun hg243=>?_)
   ·simp only [hg243,qc (g:=111),zq,qr,qb,zh,qa,qk,B0,reduceIte,reduceEqDiff]
    exact hN242 _ _ ⟨hS240,by rw [orT hg243]; simp only [B0,reduceIte,reduceEqDiff],f233,f234,f235,f236,f237,f238⟩
   ·simp only [hg243,qc (g:=111),qp,f235,qo,qb,Nat.reduceAdd,Nat.zero_add,Nat.add_zero,qq,ql,B0,reduceIte,reduceEqDiff]
    refine qi (v := .int .i64 x122.Stamp) rfl ?_
    simp only [hg243,qc (g:=111),qp,zb,B0,reduceIte,reduceEqDiff]
    refine jc rfl (qn qu (qn qu (qn qu zg))) (wk (fun b hb=>decide_eq_true hb) x122.Stamp 0 1000 _ rfl) ?_
    simp only [hg243,qc (g:=111),qp,ja,qb,jq,qr,zi,qa,qk,B0,reduceIte,reduceEqDiff]
    exact hN242 _ _ ⟨hS240,by rw [orF hg243]; simp only [B0,reduceIte,reduceEqDiff],f233,f234,f235,f236,f237,f238⟩
  rintro fr244 h252 ⟨hS253,f245,f246,f247,f248,f249,f250,f251⟩
  simp only [List.drop_succ_cons,List.drop_zero]
  simp only [qa,f245,qy,B0,reduceIte,reduceEqDiff]
  refine qw (t:=((v210||(!(zp x122.Epoch 0 1000)))||(!(zp x122.Stamp 0 1000)))) (fun hc254=>?_) (fun hc254=>?_)
  ·rw [iteT hc254] at hF212
   simp only [qh,qf,qg,qa,q8,B0,reduceIte,reduceEqDiff]
   have e255:=qj hF212
   subst e255
   have ho256:=hr128 _ rfl
   have hk257:=hk126
   rw [ho256] at hk257
   dsimp only [jnO] at hk257
   apply hR132
   have he:=qj hk257
   subst he
   simp only [zc,B0,reduceIte,reduceEqDiff]
   exact rfl
  rw [iteF hc254] at hF212
  simp only [ze,q0k,qh,qf,f246,ql,B0,reduceIte,reduceEqDiff]
  refine qi (v := .agg [lst qe v_0.Brokers,lst qd v_0.Parts,.int .i64 v_0.Next]) rfl ?_
  simp only [f248,qo,qb,Nat.reduceAdd,Nat.zero_add,Nat.add_zero,qq,ql,B0,reduceIte,reduceEqDiff]
  refine qi (v:=lst cI x122.InStep) rfl ?_
  obtain ⟨v258,hx259,hF260⟩:=qm hF212
  simp only [zb,B0,reduceIte,reduceEqDiff]
  refine jc rfl (qn (jf (qn zo (qn zo (qn qu zg)))) (qn zo zg)) (qcr
    (fun b hb=>decide_eq_true hb) v_0 x122.InStep v258 hx259) ?_
  simp only [qg,qa,qzl,qh,qf,f248,qo,qb,Nat.reduceAdd,Nat.zero_add,Nat.add_zero,qq,ql,B0,reduceIte,reduceEqDiff]
  refine qi (v := .int .i64 x122.Leader) rfl ?_
  simp only [qv,qb,z4,qg,B0,reduceIte,reduceEqDiff]
  refine zu 3 (fun fr' h'=>Sep h' (geL h.length) ([])∧fr' 127 = .bool ((decide (x122.Leader=(-1)))&&(decide (v258 ≠
    (-1))))∧fr' 1 = .ref [lst qe v_0.Brokers,lst qd v_0.Parts,
    .int .i64 v_0.Next] 0∧fr' 3 = .int .i64 (List.length v_0.Brokers:Int)∧fr' 7 = .ref [lst cI x122.Homes,lst cI x122.InStep,.int .i64 x122.Leader,
    .int .i64 x122.Epoch,.int .i64 x122.Stamp] 0∧fr' 67=lst qd v_0.Parts∧fr' 68 = .int .i64 (List.length v_0.Parts:Int)∧fr' 69 = .int .i64
    (i121:Int)) (fun Q261 hN262=>?_) ?_
  ·simp only [List.take_succ_cons,List.take_zero]
   simp only [qc (g:=124),B0,reduceIte,reduceEqDiff]
   refine qx (t:=(decide (x122.Leader=(-1)))) (fun hg263=>?_) (fun hg263=>?_)
   ·simp only [hg263,qc (g:=124),qz,qg,qv,qb,ue,qr,zh,qa,qk,B0,reduceIte,reduceEqDiff]
    exact hN262 _ _ ⟨hS253,by rw [yb hg263]; simp only [B0,reduceIte,reduceEqDiff],f246,f247,f248,f249,f250,f251⟩
   ·simp only [hg263,qc (g:=124),zy,qr,qb,zi,qa,qk,B0,reduceIte,reduceEqDiff]
    exact hN262 _ _ ⟨hS253,by rw [yc hg263]; simp only [B0,reduceIte,reduceEqDiff],f246,f247,f248,f249,f250,f251⟩
  rintro fr264 h272 ⟨hS273,f265,f266,f267,f268,f269,f270,f271⟩
  simp only [List.drop_succ_cons,List.drop_zero]
  simp only [f265,qg,B0,reduceIte,reduceEqDiff]
  obtain ⟨v277,hx278,hF279⟩:=qm hF260
  refine zu 21 (fun fr' h'=>Sep h' (geL h.length) ([])∧fr' 149 = .bool v277∧fr' 1 = .ref [lst qe v_0.Brokers,lst qd v_0.Parts,
    .int .i64 v_0.Next] 0∧fr' 3 = .int .i64 (List.length v_0.Brokers:Int)∧fr' 67=lst qd v_0.Parts∧fr' 68 = .int .i64
    (List.length v_0.Parts:Int)∧fr' 69 = .int .i64 (i121:Int)) (fun Q274 hN275=>?_) ?_
  ·simp only [List.take_succ_cons,List.take_zero]
   simp only [qc (g:=128),B0,reduceIte,reduceEqDiff]
   refine qx (t:=((decide (x122.Leader=(-1)))&&(decide (v258≠(-1))))) (fun hg276=>?_) (fun hg276=>?_)
   ·rw [iteT hg276] at hx278
    simp only [hg276,qc (g:=128),zq,qc (g:=132),qbu,qc (g:=139),qr,qb,zh,qa,qk,B0,
      reduceIte,reduceEqDiff]
    have e280:=qj hx278
    exact hN275 _ _ ⟨hS273,by rw [←e280]; simp only [B0,reduceIte,reduceEqDiff],f266,f267,f269,f270,f271⟩
   ·rw [iteF hg276] at hx278
    simp only [hg276,qc (g:=128),qp,f268,qo,qb,Nat.reduceAdd,Nat.zero_add,Nat.add_zero,qq,ql,B0,reduceIte,reduceEqDiff]
    refine qi (v := .int .i64 x122.Leader) rfl ?_
    simp only [hg276,qc (g:=128),qp,qv,qb,ue,qg,B0,reduceIte,reduceEqDiff]
    obtain ⟨v284,hx285,hF286⟩:=qm hx278
    refine zu 16 (fun fr' h'=>Sep h' (geL h.length) ([])∧fr' 148 = .bool v284∧fr' 1 = .ref [lst qe v_0.Brokers,lst qd v_0.Parts,
      .int .i64 v_0.Next] 0∧fr' 3 = .int .i64 (List.length v_0.Brokers:Int)∧fr' 67=lst qd v_0.Parts∧fr' 68 = .int .i64
      (List.length v_0.Parts:Int)∧fr' 69 = .int .i64 (i121:Int)∧fr' 128 = .bool ((decide (x122.Leader=(-1)))&&(decide (v258≠(-1))))) (fun Q281 hN282=>?_) ?_
    ·simp only [List.take_succ_cons,List.take_zero]
     simp only [qc (g:=132),B0,reduceIte,reduceEqDiff]
     refine qx (t:=(decide (x122.Leader≠(-1)))) (fun hg283=>?_) (fun hg283=>?_)
     ·rw [iteT hg283] at hx285
      simp only [hg283,qc (g:=132),qz,f268,qo,qb,Nat.reduceAdd,Nat.zero_add,Nat.add_zero,qq,ql,B0,reduceIte,reduceEqDiff]
      refine qi (v:=lst cI x122.InStep) rfl ?_
      simp only [hg283,qc (g:=132),qz,f268,qo,qb,Nat.reduceAdd,Nat.zero_add,Nat.add_zero,qq,ql,B0,reduceIte,reduceEqDiff]
      refine qi (v := .int .i64 x122.Leader) rfl ?_
      obtain ⟨v287,hx288,hF289⟩:=qm hx285
      simp only [hg283,qc (g:=132),qz,zb,B0,reduceIte,reduceEqDiff]
      refine jc rfl (qn zo (qn qu zg)) (wm (fun b hb=>decide_eq_true hb) x122.InStep x122.Leader v287 hx288) ?_
      simp only [hg283,qc (g:=132),qz,ja,qb,jq,qg,B0,reduceIte,reduceEqDiff]
      obtain ⟨v293,hx294,hF295⟩:=qm hF289
      refine zu 8 (fun fr' h'=>Sep h' (geL h.length) ([])∧fr' 147 = .bool v293∧fr' 1 = .ref [lst qe v_0.Brokers,lst qd v_0.Parts,
        .int .i64 v_0.Next] 0∧fr' 3 = .int .i64 (List.length v_0.Brokers:Int)∧fr' 67=lst qd v_0.Parts∧fr' 68 = .int .i64
        (List.length v_0.Parts:Int)∧fr' 69 = .int .i64 (i121:Int)∧fr' 128 = .bool ((decide (x122.Leader=(-1)))&&(decide (v258≠(-1))))∧fr' 132 = .bool
        (decide (x122.Leader≠(-1)))) (fun Q290 hN291=>?_) ?_
      ·simp only [List.take_succ_cons,List.take_zero]
       simp only [qc (g:=139),B0,reduceIte,reduceEqDiff]
       refine qx (t:=(!v287)) (fun hg292=>?_) (fun hg292=>?_)
       ·rw [iteT hg292] at hx294
        simp only [hg292,qc (g:=139),zq,hg283,qc (g:=132),qz,qr,qb,zh,qa,qk,B0,reduceIte,
          reduceEqDiff]
        have e296:=qj hx294
        exact hN291 _ _ ⟨hS273,by rw [←e296]; simp only [B0,reduceIte,reduceEqDiff],f266,f267,f269,f270,f271,by simp only [hg276,B0,reduceIte,reduceEqDiff],
          by simp only [hg283,B0,reduceIte,reduceEqDiff]⟩
       ·rw [iteF hg292] at hx294
        simp only [hg292,qc (g:=139),qp,f266,qo,qb,Nat.reduceAdd,Nat.zero_add,Nat.add_zero,qq,ql,B0,reduceIte,
          reduceEqDiff]
        refine qi (v:=lst qe v_0.Brokers) rfl ?_
        simp only [hg292,qc (g:=139),qp,f268,qo,qb,Nat.reduceAdd,Nat.zero_add,Nat.add_zero,qq,ql,B0,reduceIte,
          reduceEqDiff]
        refine qi (v := .int .i64 x122.Leader) rfl ?_
        obtain ⟨x297,hx298,hF299⟩:=qm hx294
        simp only [hg292,qc (g:=139),qp,jb,B0,reduceIte,reduceEqDiff]
        refine qi (v := .ref (qe x297) 0) (xx hx298 rfl) ?_
        simp only [hg292,qc (g:=139),qp,qo,qb,Nat.reduceAdd,Nat.zero_add,Nat.add_zero,qq,ql,B0,reduceIte,reduceEqDiff]
        refine qi (v := .bool x297.Fenced) rfl ?_
        simp only [hg283,qc (g:=132),qz,hg292,qr,qb,zi,qa,qk,B0,reduceIte,reduceEqDiff]
        have e300:=qj hF299
        exact hN291 _ _ ⟨hS273,by rw [←e300]; simp only [B0,reduceIte,reduceEqDiff],f266,f267,f269,f270,f271,by simp only [hg276,B0,reduceIte,reduceEqDiff],
          by simp only [hg283,B0,reduceIte,reduceEqDiff]⟩
      rintro fr301 h310 ⟨hS311,f302,f303,f304,f305,f306,f307,f308,f309⟩
      simp only [List.drop_succ_cons,List.drop_zero]
      simp only [f308,hg276,qc (g:=128),qp,f309,hg283,qr,qb,zh,f302,qa,qk,B0,reduceIte,reduceEqDiff]
      have e312:=qj hF295
      exact hN282 _ _ ⟨hS311,by rw [←e312]; simp only [B0,reduceIte,reduceEqDiff],f303,f304,f305,f306,f307,by simp only [f308,hg276,B0,reduceIte,reduceEqDiff]⟩
     ·rw [iteF hg283] at hx285
      simp only [hg283,qc (g:=132),zy,qc (g:=139),qbu,hg276,qc (g:=128),qp,qr,qb,zi,
        qa,qk,B0,reduceIte,reduceEqDiff]
      have e313:=qj hx285
      exact hN282 _ _ ⟨hS273,by rw [←e313]; simp only [B0,reduceIte,reduceEqDiff],f266,f267,f269,f270,f271,by simp only [hg276,B0,reduceIte,reduceEqDiff]⟩
    rintro fr314 h322 ⟨hS323,f315,f316,f317,f318,f319,f320,f321⟩
    simp only [List.drop_succ_cons,List.drop_zero]
    simp only [f321,hg276,qr,qb,zi,f315,qa,qk,B0,reduceIte,reduceEqDiff]
    have e324:=qj hF286
    exact hN275 _ _ ⟨hS323,by rw [←e324]; simp only [B0,reduceIte,reduceEqDiff],f316,f317,f318,f319,f320⟩
  rintro fr325 h332 ⟨hS333,f326,f327,f328,f329,f330,f331⟩
  simp only [List.drop_succ_cons,List.drop_zero]
  simp only [qa,f326,qy,B0,reduceIte,reduceEqDiff]
  refine qw (t:=v277) (fun hc334=>?_) (fun hc334=>?_)
  ·rw [iteT hc334] at hF279
   simp only [qh,qf,qg,qa,q8,B0,reduceIte,reduceEqDiff]
   have e335:=qj hF279
   subst e335
   have ho336:=hr128 _ rfl
   have hk337:=hk126
   rw [ho336] at hk337
   dsimp only [jnO] at hk337
   apply hR132
   have he:=qj hk337
   subst he
   simp only [zc,B0,reduceIte,reduceEqDiff]
   exact rfl
  rw [iteF hc334] at hF279
  simp only [ze,qk,B0,reduceIte,reduceEqDiff]
  have e338:=qj hF279
  exact hN130 _ _ _ e338.symm ⟨f327,f328,f329,hS333⟩ (f331) (f330)
 rintro _ fr340 h341 rfl ⟨f343,f344,f345,hS342⟩
 dsimp only [jnO] at hk126
 unfold qfr at hk126
 simp only [qh,qf,qg,qa,q8,B0,reduceIte,reduceEqDiff]
 have he:=qj hk126
 subst he
 simp only [zc,B0,reduceIte,reduceEqDiff]
 exact rfl
theorem qii {W:Nat→Bool}{h:Heap} (hW:∀ b,
  (geL h.length) b→W b=true) (c_0:Control) (r:(List Int) × Bool) (hF:qai c_0=some r) : Ret E W 12 [.agg [lst qe c_0.Brokers,
  lst qd c_0.Parts,.int .i64 c_0.Next]] h (fun v h'=>cut h.length h' E.sz false 9 v=some (.tup [lst cI r.1,.bool r.2])):=by
 refine Ret.of (fn:=x12) rfl (Run.of ?_)
 unfold qai at hF
 have zf0:zj [.agg [lst qe c_0.Brokers,lst qd c_0.Parts,.int .i64 c_0.Next]] 0 = .agg [lst qe c_0.Brokers,lst qd c_0.Parts,
   .int .i64 c_0.Next]:=rfl
 generalize zj [.agg [lst qe c_0.Brokers,lst qd c_0.Parts,.int .i64 c_0.Next]]=fr0 at zf0 ⊢
 have hS:Sep h (geL h.length) []:=Sep.nil h
 simp only [x12,qh,qf,ju,zf0,B0,reduceIte,reduceEqDiff]
 refine je (cs:=[lst qe c_0.Brokers,lst qd c_0.Parts,.int .i64 c_0.Next]) hS rfl rfl rfl (fun b1 h2 hS3=>?_)
 simp only [qg,qa,B0,reduceIte,reduceEqDiff]
 refine zw hS3 hW (by simp only [B0,reduceIte,reduceEqDiff]) (fun h5 hS6=>?_)
 simp only [zv,qpy,qh,qf,ql,B0,reduceIte,reduceEqDiff]
 refine qi (v := .agg [lst qe c_0.Brokers,lst qd c_0.Parts,.int .i64 c_0.Next]) rfl ?_
 obtain ⟨v7,hx8,hF9⟩:=qm hF
 simp only [zb,B0,reduceIte,reduceEqDiff]
 refine jc rfl (qn (jf (qn zo (qn zo (qn qu zg)))) zg) (qb1 (fun b hb=>decide_eq_true hb) c_0 v7 hx8) ?_
 simp only [ja,qb,jq,qa,qy5,qy,B0,reduceIte,reduceEqDiff]
 refine qw (t:=(!v7)) (fun hc10=>?_) (fun hc10=>?_)
 ·rw [iteT hc10] at hF9
  simp only [qh,qf,qg,qa,q8,B0,reduceIte,reduceEqDiff]
  have he:=qj hF9
  subst he
  simp only [qcj,B0,reduceIte,reduceEqDiff]
  exact qnh (qn rfl (qn rfl zg))
 rw [iteF hc10] at hF9
 simp only [ze,q2v,qh,qf,j6,evp,B0,reduceIte,reduceEqDiff]
 refine jv (n:=1) (f:=cI) ([] : List Int) hS6 rfl rfl (fun v11 c12 h13 hv14 hS15=>?_)
 simp only [qg,qa,qza,qh,qf,qo,qb,Nat.reduceAdd,Nat.zero_add,Nat.add_zero,qq,ql,B0,reduceIte,reduceEqDiff]
 refine qi (v:=lst qe c_0.Brokers) rfl ?_
 simp only [zr,qb,zx,qg,qa,B0,reduceIte,reduceEqDiff]
 obtain ⟨oc29,hX31,hk32⟩:=jd hF9
 simp only [q40]
 refine kn (σ:=(List Int)) c_0.Brokers (fun i27 x28 s75=>qan i27 x28 s75) (fun s fr' h'=>∃ v24 c25,
   fr' 4=v24∧fr' 12=lst qe c_0.Brokers∧SlF cI 1 3 v24 s c25∧Sep h' (geL h.length) (c25++([]))) hX31 ⟨v11,c12,rfl,rfl,hv14,hS15⟩ (by simp only [B0,
   reduceIte,reduceEqDiff]) (by simp only [B0,reduceIte,
   reduceEqDiff]) (fun _ _ _ h=>h) rfl rfl (fun _ _ _ _ h=>h) (fun _ _ _ _ h=>h) (fun _ _ _ _ h=>h) (by decide) ?_ ?_
 ·rintro i27 x28 s22 fr41 h42 hx46 ⟨v24,c25,f44,f45,hv26,hS43⟩ f47 f48 oc30 hF33 hr34 Q35 hN36 hB40 hK37 hR38 hE39
  unfold qan at hF33
  simp only [q1o,qh,qf,f47,qg,f45,jb,B0,reduceIte,reduceEqDiff]
  refine qi (v := .ref (qe x28) 0) (ko hx46 rfl) ?_
  simp only [ql,B0,reduceIte,reduceEqDiff]
  refine qi (v := .agg [.int .i64 x28.Epoch,.int .i64 x28.Left,.bool x28.Fenced]) rfl ?_
  simp only [jg,B0,reduceIte,reduceEqDiff]
  refine z1 hS43 (fun b49 h50 hS51=>?_)
  simp only [qg,zl,B0,reduceIte,reduceEqDiff]
  refine zf (us:=[.int .i64 x28.Epoch,.int .i64 x28.Left,.bool x28.Fenced]) rfl (cs':=[.int .i64 x28.Epoch,.int .i64 x28.Left,
    .bool x28.Fenced]) hS51 hW rfl rfl (nle rfl) rfl (fun h53 hS54=>?_)
  simp only [qa,B0,reduceIte,reduceEqDiff]
  refine zw hS54 hW (by simp only [B0,reduceIte,reduceEqDiff]) (fun h55 hS56=>?_)
  simp only [zv,qz3,qh,qf,qo,qb,Nat.reduceAdd,Nat.zero_add,Nat.add_zero,qq,ql,B0,reduceIte,reduceEqDiff]
  refine qi (v := .bool x28.Fenced) rfl ?_
  simp only [ja,qb,jq,qa,q1m,qy,B0,reduceIte,reduceEqDiff]
  refine qw (t:=(!x28.Fenced)) (fun hc57=>?_) (fun hc57=>?_)
  ·rw [iteT hc57] at hF33
   simp only [qzq,qf,f44,qg,j6,evp,B0,reduceIte,reduceEqDiff]
   refine jv (n:=1) (f:=cI) [(i27:Int)] hS56 rfl rfl (fun v58 c59 h60 hv61 hS62=>?_)
   simp only [xj,B0,reduceIte,reduceEqDiff]
   obtain ⟨l64,hx65,hF66⟩:=qm hF33
   refine y8 (f:=cI) hv26 (Sep.m1 hS62) hW (fun _=>rfl) (fun _=>rfl) (SlF.first hv61 hS62 (fun _=>rfl)) hx65 (fun v67 c68 h69 hv70 hS71=>?_)
   simp only [qg,qa,qk,B0,reduceIte,reduceEqDiff]
   have e73:=qj hF66
   exact hN36 _ _ _ e73.symm ⟨v67,c68,rfl,f45,hv70,(Sep.dc (Sep.m1 hS71))⟩ (f47) (f48)
  rw [iteF hc57] at hF33
  simp only [ze,qk,B0,reduceIte,reduceEqDiff]
  have e74:=qj hF33
  exact hN36 _ _ _ e74.symm ⟨v24,c25,f44,f45,hv26,hS56⟩ (f47) (f48)
 rintro s76 fr81 h82 rfl ⟨v78,c79,f84,f85,hv80,hS83⟩
 dsimp only [jnO] at hk32
 unfold qem at hk32
 simp only [qh,qf,f84,qg,qa,q8,B0,reduceIte,reduceEqDiff]
 have he:=qj hk32
 subst he
 simp only [qcj,B0,reduceIte,reduceEqDiff]
 exact qnh (qn (SlF.cut hv80 hS83 (fun _ hb=>hb) rfl (fun _=>rfl) (fun _=>rfl)) (qn rfl zg))
theorem qei {W:Nat→Bool}{h:Heap} (hW:∀ b,
  (geL h.length) b→W b=true) (c_0:Control) (broker_1:Int) (r:List Int)
  (hF:wq c_0 broker_1=some r) : Ret E W 51 [.agg [lst qe c_0.Brokers,lst qd c_0.Parts,.int .i64 c_0.Next],
  .int .i64 broker_1] h (fun v h'=>∃ rv0 rc0,v=rv0∧SlF cI 1 3 rv0 r rc0∧Sep h' (geL h.length) (rc0++([]))):=by
 refine Ret.of (fn:=x51) rfl (Run.of ?_)
 unfold wq at hF
 have zf0:zj [.agg [lst qe c_0.Brokers,lst qd c_0.Parts,.int .i64 c_0.Next],.int .i64 broker_1] 0 = .agg [lst qe c_0.Brokers,
   lst qd c_0.Parts,.int .i64 c_0.Next]:=rfl
 have zf1:zj [.agg [lst qe c_0.Brokers,lst qd c_0.Parts,.int .i64 c_0.Next],.int .i64 broker_1] 1 = .int .i64 broker_1:=rfl
 generalize zj [.agg [lst qe c_0.Brokers,lst qd c_0.Parts,.int .i64 c_0.Next],.int .i64 broker_1]=fr0 at zf0 zf1 ⊢
 have hS:Sep h (geL h.length) []:=Sep.nil h
 simp only [x51,qh,qf,ju,zf0,B0,reduceIte,reduceEqDiff]
 refine je (cs:=[lst qe c_0.Brokers,lst qd c_0.Parts,.int .i64 c_0.Next]) hS rfl rfl rfl (fun b1 h2 hS3=>?_)
 simp only [qg,qa,B0,reduceIte,reduceEqDiff]
 refine zw hS3 hW (by simp only [B0,reduceIte,reduceEqDiff]) (fun h5 hS6=>?_)
 simp only [zv,q0o,qh,qf,j6,evp,B0,reduceIte,reduceEqDiff]
 refine jv (n:=1) (f:=cI) ([] : List Int) hS6 rfl rfl (fun v7 c8 h9 hv10 hS11=>?_)
 simp only [qg,qa,qxr,qh,qf,qo,qb,Nat.reduceAdd,Nat.zero_add,Nat.add_zero,qq,ql,B0,reduceIte,reduceEqDiff]
 refine qi (v:=lst qd c_0.Parts) rfl ?_
 simp only [zr,qb,zx,qg,qa,B0,reduceIte,reduceEqDiff]
 obtain ⟨oc25,hX27,hk28⟩:=jd hF
 simp only [q27]
 refine kn (σ:=(List Int)) c_0.Parts (fun i23 x24 s72=>uo broker_1 i23 x24 s72) (fun s fr' h'=>∃ v20 c21,
   fr' 1 = .int .i64 broker_1∧fr' 5=v20∧fr' 10=lst qd c_0.Parts∧SlF cI 1 3 v20 s c21∧Sep h' (geL h.length) (c21++([]))) hX27 ⟨v7,c8,zf1,rfl,rfl,
   hv10,hS11⟩ (by simp only [B0,reduceIte,reduceEqDiff]) (by simp only [B0,reduceIte,
   reduceEqDiff]) (fun _ _ _ h=>h) rfl rfl (fun _ _ _ _ h=>h) (fun _ _ _ _ h=>h) (fun _ _ _ _ h=>h) (by decide) ?_ ?_
 ·rintro i23 x24 s18 fr37 h38 hx43 ⟨v20,c21,f40,f41,f42,hv22,hS39⟩ f44 f45 oc26 hF29 hr30 Q31 hN32 hB36 hK33 hR34 hE35
  unfold uo at hF29
  simp only [qyp,qh,qf,f44,qg,f42,jb,B0,reduceIte,reduceEqDiff]
  refine qi (v := .ref (qd x24) 0) (ko hx43 rfl) ?_
  simp only [ql,B0,reduceIte,reduceEqDiff]
  refine qi (v := .agg [lst cI x24.Homes,lst cI x24.InStep,.int .i64 x24.Leader,.int .i64 x24.Epoch,.int .i64 x24.Stamp]) rfl ?_
  simp only [jg,B0,reduceIte,reduceEqDiff]
  refine z1 hS39 (fun b46 h47 hS48=>?_)
  simp only [qg,zl,B0,reduceIte,reduceEqDiff]
  refine zf (us:=[lst cI x24.Homes,lst cI x24.InStep,.int .i64 x24.Leader,.int .i64 x24.Epoch,.int .i64 x24.Stamp]) rfl (cs':=[lst cI x24.Homes,
    lst cI x24.InStep,.int .i64 x24.Leader,.int .i64 x24.Epoch,.int .i64 x24.Stamp]) hS48 hW rfl rfl (nle rfl) rfl (fun h50 hS51=>?_)
  simp only [qa,B0,reduceIte,reduceEqDiff]
  refine zw hS51 hW (by simp only [B0,reduceIte,reduceEqDiff]) (fun h52 hS53=>?_)
  simp only [zv,q2u,qh,qf,qo,qb,Nat.reduceAdd,Nat.zero_add,Nat.add_zero,qq,ql,B0,reduceIte,reduceEqDiff]
  refine qi (v := .int .i64 x24.Leader) rfl ?_
  simp only [f40,qg,qv,qb,z4,qa,qx0,qy,B0,reduceIte,reduceEqDiff]
  refine qw (t:=(decide (x24.Leader=broker_1))) (fun hc54=>?_) (fun hc54=>?_)
  ·rw [iteT hc54] at hF29
   simp only [qz2,qf,f41,qg,j6,evp,B0,reduceIte,reduceEqDiff]
   refine jv (n:=1) (f:=cI) [(i23:Int)] hS53 rfl rfl (fun v55 c56 h57 hv58 hS59=>?_)
   simp only [xj,B0,reduceIte,reduceEqDiff]
   obtain ⟨l61,hx62,hF63⟩:=qm hF29
   refine y8 (f:=cI) hv22 (Sep.m1 hS59) hW (fun _=>rfl) (fun _=>rfl) (SlF.first hv58 hS59 (fun _=>rfl)) hx62 (fun v64 c65 h66 hv67 hS68=>?_)
   simp only [qg,qa,qk,B0,reduceIte,reduceEqDiff]
   have e70:=qj hF63
   exact hN32 _ _ _ e70.symm ⟨v64,c65,f40,rfl,f42,hv67,(Sep.dc (Sep.m1 hS68))⟩ (f44) (f45)
  rw [iteF hc54] at hF29
  simp only [ze,qk,B0,reduceIte,reduceEqDiff]
  have e71:=qj hF29
  exact hN32 _ _ _ e71.symm ⟨v20,c21,f40,f41,f42,hv22,hS53⟩ (f44) (f45)
 rintro s73 fr78 h79 rfl ⟨v75,c76,f81,f82,f83,hv77,hS80⟩
 dsimp only [jnO] at hk28
 unfold qdx at hk28
 simp only [qh,qf,f82,qg,qa,q8,B0,reduceIte,reduceEqDiff]
 have he:=qj hk28
 subst he
 simp only [zc,B0,reduceIte,reduceEqDiff]
 exact ⟨v75,c76,by first | trivial | rfl,hv77,hS80⟩
theorem qh6 {W:Nat→Bool}{h:Heap} (hW:∀ b,
  (geL h.length) b→W b=true) (c_0:Control) (r:(List Int) × Bool) (hF:u0 c_0=some r) : Ret E W 13 [.agg [lst qe c_0.Brokers,
  lst qd c_0.Parts,.int .i64 c_0.Next]] h (fun v h'=>∃ rv0 rc0,v = .tup [rv0,.bool r.2]∧SlF cI 1 3 rv0 r.1 rc0∧Sep h' (geL h.length) (rc0++([]))):=by
 refine Ret.of (fn:=x13) rfl (Run.of ?_)
 unfold u0 at hF
 have zf0:zj [.agg [lst qe c_0.Brokers,lst qd c_0.Parts,.int .i64 c_0.Next]] 0 = .agg [lst qe c_0.Brokers,lst qd c_0.Parts,
   .int .i64 c_0.Next]:=rfl
 generalize zj [.agg [lst qe c_0.Brokers,lst qd c_0.Parts,.int .i64 c_0.Next]]=fr0 at zf0 ⊢
 have hS:Sep h (geL h.length) []:=Sep.nil h
 simp only [x13,qh,qf,ju,zf0,B0,reduceIte,reduceEqDiff]
 refine je (cs:=[lst qe c_0.Brokers,lst qd c_0.Parts,.int .i64 c_0.Next]) hS rfl rfl rfl (fun b1 h2 hS3=>?_)
 simp only [qg,qa,B0,reduceIte,reduceEqDiff]
 refine zw hS3 hW (by simp only [B0,reduceIte,reduceEqDiff]) (fun h5 hS6=>?_)
 simp only [zv,q4k,qh,qf,ql,B0,reduceIte,reduceEqDiff]
 refine qi (v := .agg [lst qe c_0.Brokers,lst qd c_0.Parts,.int .i64 c_0.Next]) rfl ?_
 obtain ⟨v7,hx8,hF9⟩:=qm hF
 simp only [zb,B0,reduceIte,reduceEqDiff]
 refine jc rfl (qn (jf (qn zo (qn zo (qn qu zg)))) zg) (qb1 (fun b hb=>decide_eq_true hb) c_0 v7 hx8) ?_
 simp only [ja,qb,jq,qa,q3w,qy,B0,reduceIte,reduceEqDiff]
 refine qw (t:=(!v7)) (fun hc10=>?_) (fun hc10=>?_)
 ·rw [iteT hc10] at hF9
  simp only [qh,qf,qg,qa,q8,B0,reduceIte,reduceEqDiff]
  have he:=qj hF9
  subst he
  simp only [qcj,B0,reduceIte,reduceEqDiff]
  exact ⟨.nil,[],by first | trivial | rfl,SlF.nil,(hS6:Sep _ (geL h.length) ([]))⟩
 rw [iteF hc10] at hF9
 simp only [ze,q1c,qh,qf,ql,B0,reduceIte,reduceEqDiff]
 refine qi (v := .agg [lst qe c_0.Brokers,lst qd c_0.Parts,.int .i64 c_0.Next]) rfl ?_
 obtain ⟨v11,hx12,hF13⟩:=qm hF9
 simp only [zb,B0,reduceIte,reduceEqDiff]
 refine u9 rfl hS6 (qn (jf (qn zo (qn zo (qn qu zg)))) (qn qu zg)) (qei
   (fun b hb=>decide_eq_true hb) c_0 (-1) v11 hx12) ?_
 rintro v14 h18 ⟨_,c15,rfl,hv16,hS19⟩
 refine ⟨_,qsf (SlF.free1 hv16),hS19,(j0 (SlF.pf hv16 (fun _=>rfl)) wt),fun h20 hS21=>?_⟩
 have hS22:Sep h20 (geL h.length) (c15++([])):=by simpa only [List.append_assoc,List.nil_append] using hS21
 simp only [qg,qa,q8,B0,reduceIte,reduceEqDiff]
 have he:=qj hF13
 subst he
 simp only [qcj,B0,reduceIte,reduceEqDiff]
 exact ⟨v14,c15,by first | trivial | rfl,hv16,hS22⟩
end Go.Proofs.Ytjloihcijdcpeaa.X
