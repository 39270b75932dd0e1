/- The functions' code comes to what the plain functions say (5). -/
import Derived.Test.YtefgfcalgjmhjaaXEH4
set_option linter.unusedVariables false
set_option linter.unusedSimpArgs false
set_option maxRecDepth 100000
namespace Go.Proofs.Ytefgfcalgjmhjaa.X
open Go
open Nat (reduceEqDiff)
theorem qh6 {W:Nat→Bool}{h:Heap} (hW:∀ b,
  (geL h.length) b→W b=true) (k:Nat) (replicas_0:Int) (l_1:List IsrStep) (r:Group × (List Bool) × Bool)
  (hF:yh k replicas_0 l_1=some r) : Ret E W 17 [.int .i64 replicas_0,lst IsrStep.cells l_1] h (fun v h'=>∃ rv0_2 rc0_2 rv0_4 rc0_4 rv1 rc1,
  v = .tup [.agg [.int .i64 r.1.Epoch,.int .i64 r.1.Leader,rv0_2,.int .i64 r.1.High,rv0_4],rv1,
  .bool r.2.2]∧SlF cI 1 3 rv0_2 r.1.InStep rc0_2∧SlN Replica.R 3 51 rv0_4 r.1.Replicas rc0_4∧SlF cB 1 4 rv1 r.2.1 rc1∧Sep h' (geL h.length) (rc0_2++(rc0_4++(rc1 ++
  ([]))))):=by
 refine Ret.of (fn:=x17) rfl (Run.of ?_)
 unfold yh at hF
 have zf0:zc [.int .i64 replicas_0,lst IsrStep.cells l_1] 0 = .int .i64 replicas_0:=rfl
 have zf1:zc [.int .i64 replicas_0,lst IsrStep.cells l_1] 1=lst IsrStep.cells l_1:=rfl
 generalize zc [.int .i64 replicas_0,lst IsrStep.cells l_1]=fr0 at zf0 zf1 ⊢
 have hS:Sep h (geL h.length) []:=Sep.nil h
 simp only [x17,qf,qe,jt,B0,reduceIte,reduceEqDiff]
 refine jc hS (fun b1 h2 hS3=>?_)
 obtain ⟨v5,hx6,hF7⟩:=qi hF
 simp only [qd,qa,qov,qf,qe,zf0,zd,B0,reduceIte,reduceEqDiff]
 refine qcd rfl hS3 (ql qq zh) (qin (fun b hb=>decide_eq_true hb) k replicas_0 v5 hx6) ?_
 rintro _ h16 ⟨v8,c9,v12,c13,rfl,hv10,hv14,hS17⟩
 refine ⟨_,qco (qm (qfu (qm rfl (qm rfl (qm (SlF.free1 hv10) (qm rfl (qm (SlN.free1 hv14) zq)))))) (qm rfl zq)),hS17,
   (yf (SlF.pf hv10 (fun _=>rfl)) (yf (SlN.pf hv14 Replica.RO) qar)),fun h18 hS19=>?_⟩
 have hS20:Sep h18 (geL h.length) (c9++(c13++([Blk1 b1 [.int .i64 0,.int .i64 0,.nil,.int .i64 0,.nil] 29]++([])))):=by simpa only [List.append_assoc,
   List.nil_append] using hS19
 simp only [qd,qa8,qb,qa6,qa4,jt,B0,reduceIte,reduceEqDiff]
 refine jc hS20 (fun b21 h22 hS23=>?_)
 simp only [zm,B0,reduceIte,reduceEqDiff]
 refine za (us:=[.int .i64 v5.1.Epoch,.int .i64 v5.1.Leader,v8,.int .i64 v5.1.High,v12]) rfl (cs':=[.int .i64 v5.1.Epoch,.int .i64 v5.1.Leader,v8,
   .int .i64 v5.1.High,v12]) hS23 hW rfl (qm rfl (qm rfl (qm (SlF.one hv10) (qm rfl (qm (SlN.one hv14) zq))))) (Nat.le_of_ble_eq_true rfl) rfl
   (fun h25 hS26=>?_)
 simp only [qd,qa,qrd,qf,qe,jy,qb,kw,B0,reduceIte,reduceEqDiff]
 refine z8 4 (fun fr' h'=>Sep h' (geL h.length) ([Blk1 b1 [.int .i64 0,.int .i64 0,.nil,.int .i64 0,.nil] 29]++([Blk1 b21 [.int .i64 v5.1.Epoch,.int .i64 v5.1.Leader,
   v8,.int .i64 v5.1.High,v12] 29]++(c9++(c13++([])))))∧fr' 25 = .bool ((!v5.2)||(decide ((100:Int) <
   (List.length l_1:Int))))∧fr' 1=lst IsrStep.cells l_1∧fr' 4 = .ptr b1 0∧fr' 7 = .ptr b21 0) (fun Q27 hN28=>?_) ?_
 ·simp only [List.take_succ_cons,List.take_zero]
  simp only [qc (g:=21),B0,reduceIte,reduceEqDiff]
  refine zb (t:=(!v5.2)) (fun hg29=>?_) (fun hg29=>?_)
  ·simp only [hg29,qc (g:=21),zv,qu,qb,zf,qa,qk,B0,reduceIte,reduceEqDiff]
   exact hN28 _ _ ⟨(Sep.m3 (Sep.m2 (Sep.m2 (Sep.m2 hS26)))),by rw [orT hg29]; simp only [B0,reduceIte,reduceEqDiff],zf1,rfl,rfl⟩
  ·simp only [hg29,qc (g:=21),qr,zf1,qd,zw,qb,jh,qy,qd5,qu,zg,qa,qk,B0,reduceIte,
    reduceEqDiff]
   exact hN28 _ _ ⟨(Sep.m3 (Sep.m2 (Sep.m2 (Sep.m2 hS26)))),by rw [orF hg29]; simp only [B0,reduceIte,reduceEqDiff],zf1,rfl,rfl⟩
 rintro fr30 h35 ⟨hS36,f31,f32,f33,f34⟩
 simp only [List.drop_succ_cons,List.drop_zero]
 simp only [qa,qwg,f31,q9,B0,reduceIte,reduceEqDiff]
 refine q8 (t:=((!v5.2)||(decide ((100:Int)<(List.length l_1:Int))))) (fun hc37=>?_) (fun hc37=>?_)
 ·rw [iteT hc37] at hF7
  simp only [qwa,qf,qe,run_build,evp,B0,reduceIte,reduceEqDiff]
  refine qh (v := .agg [.int .i64 0,.int .i64 0,.nil,.int .i64 0,.nil]) rfl ?_
  simp only [f33,zm,B0,reduceIte,reduceEqDiff]
  refine za (us:=[.int .i64 0,.int .i64 0,.nil,.int .i64 0,.nil]) rfl (cs':=[.int .i64 0,.int .i64 0,.nil,.int .i64 0,
    .nil]) hS36 hW rfl rfl (Nat.le_of_ble_eq_true rfl) rfl (fun h38 hS39=>?_)
  simp only [qd,qa,qz,B0,reduceIte,reduceEqDiff]
  have he:=qj hF7
  subst he
  refine yi (ql (wa (bb:=b1) (oo:=0) (v := .agg [.int .i64 0,.int .i64 0,.nil,.int .i64 0,
    .nil]) (f33) ((jg (Sep.bk _ _ _ hS39)).trans rfl)) (ql (wx (v := .nil) (rfl)) (ql (wx (v := .bool false) (rfl)) zh))) ?_
  exact ⟨.nil,[],.nil,[],.nil,[],by first | trivial | rfl,SlF.nil,SlN.nil,SlF.nil,((Sep.dc ((Sep.dc ((Sep.dc ((Sep.dc (hS39)))))))) : Sep _ (geL h.length) ([]))⟩
 rw [iteF hc37] at hF7
 simp only [zi,qou,qf,qe,qd,qa,qol,f32,zw,qb,jh,B0,reduceIte,reduceEqDiff]
 obtain ⟨oc70,hX72,hk73⟩:=ki hF7
 simp only [qxj]
 refine wq (σ:=(List Bool) × Group) l_1 (fun i68 x69 s183=>x9 k i68 x69 s183.1 s183.2) (fun s fr' h'=>∃ v56 c57 v61 c62 v65 c66,
   fr' 4 = .ptr b1 0∧fr' 7 = .ptr b21 0∧fr' 9=v56∧fr' 27=lst IsrStep.cells l_1∧SlF cB 1 4 v56 s.1 c57∧SlF cI 1 3 v61 s.2.InStep c62∧SlN Replica.R 3 51 v65 s.2.Replicas c66∧Sep h'
   (geL h.length) ([Blk1 b1 [.int .i64 0,.int .i64 0,.nil,.int .i64 0,.nil] 29]++([Blk1 b21 [.int .i64 s.2.Epoch,.int .i64 s.2.Leader,v61,.int .i64 s.2.High,
   v65] 29]++(c57++(c62++(c66++([]))))))) hX72 ⟨.nil,[],v8,c9,v12,c13,f33,f34,rfl,rfl,SlF.nil,hv10,hv14,
   ((Sep.m3 (Sep.m3 (Sep.m3 (Sep.m3 hS36)))) : Sep _ (geL h.length) ([Blk1 b1 [.int .i64 0,.int .i64 0,.nil,.int .i64 0,.nil] 29]++([Blk1 b21 [.int .i64 v5.1.Epoch,
   .int .i64 v5.1.Leader,v8,.int .i64 v5.1.High,v12] 29]++(c9++(c13++([]))))))⟩ (by simp only [B0,reduceIte,reduceEqDiff]) (by simp only [B0,reduceIte,
   reduceEqDiff]) (fun _ _ _ h=>h) rfl rfl (fun _ _ _ _ h=>h) (fun _ _ _ _ h=>h) (fun _ _ _ _ h=>h) (by decide) ?_ ?_
 ·rintro i68 x69 ⟨s54,s59⟩ fr82 h83 hx89 ⟨v56,c57,v61,c62,v65,c66,f85,f86,f87,f88,hv58,hv63,hv67,hS84⟩ f90 f91 oc71 hF74 hr75 Q76 hN77 hB81 hK78 hR79 hE80
  dsimp only at *
  unfold x9 at hF74
  simp only [qyp,qf,qe,f88,f90,jz,B0,reduceIte,reduceEqDiff]
  refine qh (v := .ref (IsrStep.cells x69) 0) (wn hx89 rfl) ?_
  simp only [qn,B0,reduceIte,reduceEqDiff]
  refine qh (v := .agg [.int .i64 x69.Kind,.int .i64 x69.K,.int .i64 x69.N]) rfl ?_
  simp only [jt,B0,reduceIte,reduceEqDiff]
  refine jc hS84 (fun b92 h93 hS94=>?_)
  simp only [zm,B0,reduceIte,reduceEqDiff]
  refine za (us:=[.int .i64 x69.Kind,.int .i64 x69.K,.int .i64 x69.N]) rfl (cs':=[.int .i64 x69.Kind,.int .i64 x69.K,
    .int .i64 x69.N]) hS94 hW rfl rfl (Nat.le_of_ble_eq_true rfl) rfl (fun h96 hS97=>?_)
  simp only [qa,B0,reduceIte,reduceEqDiff]
  refine jm hS97 hW (by simp only [B0,reduceIte,reduceEqDiff]) (fun h98 hS99=>?_)
  simp only [jb,qu4,qf,jf,qku,B0,reduceIte,reduceEqDiff]
  refine qec hS99 (fun b100 h101 hS102=>?_)
  simp only [f86,zl,B0,reduceIte,reduceEqDiff]
  refine qp (v := .agg [.int .i64 s59.Epoch,.int .i64 s59.Leader,v61,.int .i64 s59.High,v65]) ((jg (Sep.bk _ _ _ (Sep.m2 hS102))).trans rfl) ?_
  obtain ⟨v104,hx105,hF106⟩:=qi hF74
  simp only [qbc,B0,reduceIte,reduceEqDiff]
  refine q17 rfl hS102 (ql (kd (ql qq (ql qq (ql (SlF.snap hv63 (Sep.m4 hS102) rfl (fun _=>rfl) (fun _=>rfl)) (ql qq (ql
    (SlN.snap hv67 _ (Sep.m5 hS102) rfl Replica.RO) zh)))))) zh) (qgn (fun b hb=>decide_eq_true hb) s59 v104 hx105) ?_
  rintro _ h115 ⟨v107,c108,v111,c112,rfl,hv109,hv113,hS116⟩
  refine ⟨_,qiz (qm rfl (qm rfl (qm (SlF.free1 hv109) (qm rfl (qm (SlN.free1 hv113) zq))))),hS116,
    (yf (SlF.pf hv109 (fun _=>rfl)) (yf (SlN.pf hv113 Replica.RO) qar)),fun h117 hS118=>?_⟩
  have hS119:Sep h117 (geL h.length) (c108++(c112++([Blk1 b100 [.int .i64 0,.int .i64 0,.nil,.int .i64 0,.nil] 29]++([Blk1 b1 [.int .i64 0,.int .i64 0,.nil,
    .int .i64 0,.nil] 29]++([Blk1 b21 [.int .i64 s59.Epoch,.int .i64 s59.Leader,v61,.int .i64 s59.High,
    v65] 29]++(c57++(c62++(c66++([]))))))))):=by simpa only [List.append_assoc,List.nil_append] using hS118
  simp only [qai,xv,B0,reduceIte,reduceEqDiff]
  refine qp (v := .agg [.int .i64 x69.Kind,.int .i64 x69.K,.int .i64 x69.N]) rfl ?_
  obtain ⟨v120,hx121,hF122⟩:=qi hF106
  simp only [wl,B0,reduceIte,reduceEqDiff]
  refine qr7 rfl (qjk hW k v104 v107 c108 hv109 v111 c112 hv113 x69 v120 hx121 (Sep.m1 (Sep.m1 hS119))) ?_
  rintro _ h129 ⟨v123,c124,c127,rfl,hv125,hv128,hS130⟩
  simp only [zn,qg,qpi,qa6,q2u,qa4,qed,B0,reduceIte,reduceEqDiff]
  refine qbt (us:=[.int .i64 v120.1.Epoch,.int .i64 v120.1.Leader,v123,.int .i64 v120.1.High,v111]) rfl (cs':=[.int .i64 v120.1.Epoch,.int .i64 v120.1.Leader,
    v123,.int .i64 v120.1.High,v111]) (Sep.m2 hS130) hW rfl (qm rfl (qm rfl (qm (SlF.one hv125) (qm rfl (qm (SlN.one hv128) zq)))))
    (Nat.le_of_ble_eq_true rfl) rfl (fun h131 hS132=>?_)
  simp only [zn,qg,qx,B0,reduceIte,reduceEqDiff]
  refine jm hS132 hW (by simp only [B0,reduceIte,reduceEqDiff]) (fun h133 hS134=>?_)
  simp only [jb,qvd,qf,qe,qd,qa,qzm,q9,B0,reduceIte,reduceEqDiff]
  obtain ⟨s135,hX145,hk146⟩:=qi hF122
  refine qdt (t:=v120.2) (fun fr' h'=>∃ v137 c138 v141 c142,
    fr' 4 = .ptr b1 0∧fr' 7 = .ptr b21 0∧fr' 9=v56∧fr' 13 = .bool v120.2∧fr' 27=lst IsrStep.cells l_1∧fr' 28 = .int .i64
    (List.length l_1:Int)∧fr' 29 = .int .i64 (i68:Int)∧SlF cI 1 3 v137 s135.InStep c138∧SlN Replica.R 3 51 v141 s135.Replicas c142∧Sep h' (geL h.length)
    ([Blk1 b1 [.int .i64 0,.int .i64 0,.nil,.int .i64 0,.nil] 29]++([Blk1 b21 [.int .i64 s135.Epoch,.int .i64 s135.Leader,v137,.int .i64 s135.High,
    v141] 29]++(c57++(c138++(c142++([]))))))) (fun Q147 hN148 hR149 hE150=>⟨fun hc151=>?_,fun hc151=>?_⟩) ?_
  ·rw [iteT hc151] at hX145
   simp only [qe,qn,B0,reduceIte,reduceEqDiff]
   refine qh (v := .agg [.int .i64 v120.1.Epoch,.int .i64 v120.1.Leader,v123,.int .i64 v120.1.High,v111]) rfl ?_
   simp only [f86,zm,B0,reduceIte,reduceEqDiff]
   refine za (us:=[.int .i64 v120.1.Epoch,.int .i64 v120.1.Leader,v123,.int .i64 v120.1.High,v111]) rfl (cs':=[.int .i64 v120.1.Epoch,.int .i64 v120.1.Leader,
     v123,.int .i64 v120.1.High,v111]) (Sep.m3 hS134) hW rfl (qm rfl (qm rfl (qm (SlF.one hv125) (qm rfl (qm (SlN.one hv128) zq)))))
     (Nat.le_of_ble_eq_true rfl) rfl (fun h152 hS153=>?_)
   simp only [qa,qk,B0,reduceIte,reduceEqDiff]
   have e154:=qj hX145
   subst e154
   exact hN148 _ _ ⟨v123,c124,v111,c127,f85,f86,f87,rfl,f88,f91,f90,hv125,hv128,
     (Sep.m4 (Sep.m3 (Sep.m4 (Sep.m2 (Sep.m2 (Sep.dc (Sep.m5 (Sep.dc (Sep.m5 hS153)))))))))⟩
  ·rw [iteF hc151] at hX145
   simp only [zi,qk,B0,reduceIte,reduceEqDiff]
   have e155:=qj hX145
   subst e155
   exact hN148 _ _ ⟨v61,c62,v65,c66,f85,f86,f87,rfl,f88,f91,f90,hv63,hv67,(Sep.m4 (Sep.m4 (Sep.m4 (Sep.m4 (Sep.m4 (Sep.dc ((Sep.dc (hS134)))))))))⟩
  rintro fr156 h157 ⟨v137,c138,v141,c142,f159,f160,f161,f162,f163,f164,f165,hv139,hv143,hS158⟩
  unfold qb2 at hk146
  simp only [qu1,qe,f161,qd,f162,kz,evp,B0,reduceIte,reduceEqDiff]
  refine j9 (n:=1) (f:=cB) [v120.2] hS158 rfl rfl (fun v166 c167 h168 hv169 hS170=>?_)
  simp only [wv,B0,reduceIte,reduceEqDiff]
  obtain ⟨l172,hx173,hF174⟩:=qi hk146
  refine yv (f:=cB) hv58 (Sep.m3 hS170) hW (fun _=>rfl) (fun _=>rfl) (SlF.first hv169 hS170 (fun _=>rfl)) hx173 (fun v175 c176 h177 hv178 hS179=>?_)
  simp only [qd,qa,qk,B0,reduceIte,reduceEqDiff]
  have e181:=qj hF174
  exact hN77 _ _ _ e181.symm ⟨v175,c176,v137,c138,v141,c142,f159,f160,rfl,f163,hv178,hv139,hv143,
    (Sep.m4 (Sep.m4 (Sep.m2 (Sep.m4 (Sep.m4 (Sep.dc (Sep.m1 hS179)))))))⟩ (f165) (f164)
 rintro ⟨s184,s189⟩ fr198 h199 rfl ⟨v186,c187,v191,c192,v195,c196,f201,f202,f203,f204,hv188,hv193,hv197,hS200⟩
 dsimp only [jnO] at hk73
 dsimp only at *
 unfold qbz at hk73
 simp only [qoj,qf,qe,f202,qn,B0,reduceIte,reduceEqDiff]
 refine qh (v := .agg [.int .i64 s189.Epoch,.int .i64 s189.Leader,v191,.int .i64 s189.High,v195]) ((jg (Sep.bk _ _ _ (Sep.m1 hS200))).trans rfl) ?_
 obtain ⟨v205,hx206,hF207⟩:=qi hk73
 simp only [zd,B0,reduceIte,reduceEqDiff]
 refine qcd rfl hS200 (ql (kd (ql qq (ql qq (ql (SlF.snap hv193 (Sep.m3 hS200) rfl (fun _=>rfl) (fun _=>rfl)) (ql qq (ql
   (SlN.snap hv197 _ (Sep.m4 hS200) rfl Replica.RO) zh)))))) zh) (qgn (fun b hb=>decide_eq_true hb) s189 v205 hx206) ?_
 rintro _ h216 ⟨v208,c209,v212,c213,rfl,hv210,hv214,hS217⟩
 refine ⟨_,qiz (qm rfl (qm rfl (qm (SlF.free1 hv210) (qm rfl (qm (SlN.free1 hv214) zq))))),hS217,
   (yf (SlF.pf hv210 (fun _=>rfl)) (yf (SlN.pf hv214 Replica.RO) qar)),fun h218 hS219=>?_⟩
 have hS220:Sep h218 (geL h.length) (c209++(c213++([Blk1 b1 [.int .i64 0,.int .i64 0,.nil,.int .i64 0,.nil] 29]++([Blk1 b21 [.int .i64 s189.Epoch,
   .int .i64 s189.Leader,v191,.int .i64 s189.High,v195] 29]++(c187++(c192++(c196++([])))))))):=by simpa only [List.append_assoc,List.nil_append] using hS219
 simp only [f203,qd,f201,zm,B0,reduceIte,reduceEqDiff]
 refine za (us:=[.int .i64 v205.Epoch,.int .i64 v205.Leader,v208,.int .i64 v205.High,v212]) rfl (cs':=[.int .i64 v205.Epoch,.int .i64 v205.Leader,v208,
   .int .i64 v205.High,v212]) (Sep.m2 hS220) hW rfl (qm rfl (qm rfl (qm (SlF.one hv210) (qm rfl (qm (SlN.one hv214) zq))))) (Nat.le_of_ble_eq_true rfl) rfl
   (fun h221 hS222=>?_)
 simp only [qd,qa,qz,B0,reduceIte,reduceEqDiff]
 have he:=qj hF207
 subst he
 refine yi (ql (wa (bb:=b1) (oo:=0) (v := .agg [.int .i64 v205.Epoch,.int .i64 v205.Leader,v208,.int .i64 v205.High,
   v212]) (f201) ((jg (Sep.bk _ _ _ hS222)).trans rfl)) (ql (wx (v:=v186) (rfl)) (ql (wx (v := .bool true) (rfl)) zh))) ?_
 exact ⟨v208,c209,v212,c213,v186,c187,by first | trivial | rfl,hv210,hv214,hv188,
   (Sep.m2 (Sep.m2 (Sep.m2 (Sep.dc (Sep.m3 (Sep.dc (Sep.m3 (Sep.dc (Sep.m2 (Sep.dc (hS222)))))))))))⟩
theorem qib {W:Nat→Bool}{h:Heap} (hW:∀ b,
  (geL h.length) b→W b=true) (a_0:List Bool) (b_1:List Bool) (r:Bool) (hF:qal a_0 b_1=some r) : Ret E W 18 [lst cB a_0,
  lst cB b_1] h (fun v h'=>cut h.length h' E.sz false 9 v=some (.bool r)):=by
 refine Ret.of (fn:=x18) rfl (Run.of ?_)
 unfold qal at hF
 have zf0:zc [lst cB a_0,lst cB b_1] 0=lst cB a_0:=rfl
 have zf1:zc [lst cB a_0,lst cB b_1] 1=lst cB b_1:=rfl
 generalize zc [lst cB a_0,lst cB b_1]=fr0 at zf0 zf1 ⊢
 have hS:Sep h (geL h.length) []:=Sep.nil h
 simp only [x18,qf,qe,qd,qa,qx3,zf0,zw,qb,jh,zf1,qy,xk,q9,B0,reduceIte,reduceEqDiff]
 refine q8 (t:=(decide ((List.length a_0:Int)≠(List.length b_1:Int)))) (fun hc1=>?_) (fun hc1=>?_)
 ·rw [iteT hc1] at hF
  simp only [qf,qe,qd,qa,qz,B0,reduceIte,reduceEqDiff]
  have he:=qj hF
  subst he
  simp only [ze,B0,reduceIte,reduceEqDiff]
  exact rfl
 rw [iteF hc1] at hF
 simp only [zi,q0h,qf,qe,zf0,qd,zw,qb,jh,qa,B0,reduceIte,reduceEqDiff]
 obtain ⟨oc4,hX6,hk7⟩:=ki hF
 simp only [qvz]
 refine wq (σ:=Unit) a_0 (fun i2 x3 _=>qah b_1 i2 x3 ) (fun s fr' h'=>fr' 0=lst cB a_0∧fr' 1=lst cB b_1∧Sep h' (geL h.length) ([])) hX6 ⟨zf0,
   zf1,hS⟩ (by simp only [B0,reduceIte,reduceEqDiff]) (by simp only [B0,reduceIte,
   reduceEqDiff]) (fun _ _ _ h=>h) rfl rfl (fun _ _ _ _ h=>h) (fun _ _ _ _ h=>h) (fun _ _ _ _ h=>h) (by decide) ?_ ?_
 ·rintro i2 x3 _ fr16 h17 hx21 ⟨f19,f20,hS18⟩ f22 f23 oc5 hF8 hr9 Q10 hN11 hB15 hK12 hR13 hE14
  unfold qah at hF8
  simp only [qyt,qf,qe,f22,qd,qa,quq,jf,f19,zn,qg,wt,B0,reduceIte,reduceEqDiff]
  refine qp (v := .ref (cB x3) 0) (wn hx21 rfl) ?_
  simp only [zl,B0,reduceIte,reduceEqDiff]
  refine qp (v := .bool x3) rfl ?_
  obtain ⟨x24,hx25,hF26⟩:=qi hF8
  simp only [f20,zn,qg,wt,B0,reduceIte,reduceEqDiff]
  refine qp (v := .ref (cB x24) 0) (y8 hx25 rfl) ?_
  simp only [zl,B0,reduceIte,reduceEqDiff]
  refine qp (v := .bool x24) rfl ?_
  simp only [q15,qg,qoz,qx,q9,B0,reduceIte,reduceEqDiff]
  refine q8 (t:=(!(x3 == x24))) (fun hc27=>?_) (fun hc27=>?_)
  ·rw [iteT hc27] at hF26
   simp only [qf,qe,qd,qa,qz,B0,reduceIte,reduceEqDiff]
   have e28:=qj hF26
   subst e28
   have ho29:=hr9 _ rfl
   have hk30:=hk7
   rw [ho29] at hk30
   dsimp only [jnO] at hk30
   apply hR13
   have he:=qj hk30
   subst he
   simp only [ze,B0,reduceIte,reduceEqDiff]
   exact rfl
  rw [iteF hc27] at hF26
  simp only [zi,qk,B0,reduceIte,reduceEqDiff]
  have e31:=qj hF26
  exact hN11 _ _ _ e31.symm ⟨f19,f20,hS18⟩ (f22) (f23)
 rintro _ fr33 h34 rfl ⟨f36,f37,hS35⟩
 dsimp only [jnO] at hk7
 unfold qd6 at hk7
 simp only [qf,qe,qd,qa,qz,B0,reduceIte,reduceEqDiff]
 have he:=qj hk7
 subst he
 simp only [ze,B0,reduceIte,reduceEqDiff]
 exact rfl
theorem u6 {W:Nat→Bool}{h:Heap} (hW:∀ b,
  (geL h.length) b→W b=true) (a_0:List Row) (b_1:List Row) (r:Bool) (hF:wd a_0 b_1=some r) : Ret E W 23 [lst Row.cells a_0,
  lst Row.cells b_1] h (fun v h'=>cut h.length h' E.sz false 9 v=some (.bool r)):=by
 refine Ret.of (fn:=x23) rfl (Run.of ?_)
 unfold wd at hF
 have zf0:zc [lst Row.cells a_0,lst Row.cells b_1] 0=lst Row.cells a_0:=rfl
 have zf1:zc [lst Row.cells a_0,lst Row.cells b_1] 1=lst Row.cells b_1:=rfl
 generalize zc [lst Row.cells a_0,lst Row.cells b_1]=fr0 at zf0 zf1 ⊢
 have hS:Sep h (geL h.length) []:=Sep.nil h
 simp only [x23,qf,qe,qd,qa,qx0,zf0,zw,qb,jh,zf1,qy,xk,q9,B0,reduceIte,reduceEqDiff]
 refine q8 (t:=(decide ((List.length a_0:Int)≠(List.length b_1:Int)))) (fun hc1=>?_) (fun hc1=>?_)
 ·rw [iteT hc1] at hF
  simp only [qf,qe,qd,qa,qz,B0,reduceIte,reduceEqDiff]
  have he:=qj hF
  subst he
  simp only [ze,B0,reduceIte,reduceEqDiff]
  exact rfl
 rw [iteF hc1] at hF
 simp only [zi,qx6,qf,qe,zf0,qd,zw,qb,jh,qa,B0,reduceIte,reduceEqDiff]
 obtain ⟨oc4,hX6,hk7⟩:=ki hF
 simp only [qwz]
 refine wq (σ:=Unit) a_0 (fun i2 x3 _=>qaw b_1 i2 x3 ) (fun s fr' h'=>fr' 0=lst Row.cells a_0∧fr' 1=lst Row.cells b_1∧Sep h' (geL h.length)
   ([])) hX6 ⟨zf0,zf1,hS⟩ (by simp only [B0,reduceIte,reduceEqDiff]) (by simp only [B0,reduceIte,
   reduceEqDiff]) (fun _ _ _ h=>h) rfl rfl (fun _ _ _ _ h=>h) (fun _ _ _ _ h=>h) (fun _ _ _ _ h=>h) (by decide) ?_ ?_
 ·rintro i2 x3 _ fr16 h17 hx21 ⟨f19,f20,hS18⟩ f22 f23 oc5 hF8 hr9 Q10 hN11 hB15 hK12 hR13 hE14
  unfold qaw at hF8
  simp only [qwo,qf,qe,f22,qd,qa,qub,jf,f19,zn,qg,wt,B0,reduceIte,reduceEqDiff]
  refine qp (v := .ref (Row.cells x3) 0) (wn hx21 rfl) ?_
  simp only [zl,B0,reduceIte,reduceEqDiff]
  refine qp (v := .agg [.int .i64 x3.Epoch,.int .i64 x3.Value]) rfl ?_
  obtain ⟨x24,hx25,hF26⟩:=qi hF8
  simp only [f20,zn,qg,wt,B0,reduceIte,reduceEqDiff]
  refine qp (v := .ref (Row.cells x24) 0) (y8 hx25 rfl) ?_
  simp only [zl,B0,reduceIte,reduceEqDiff]
  refine qp (v := .agg [.int .i64 x24.Epoch,.int .i64 x24.Value]) rfl ?_
  simp only [qkx,B0,reduceIte,reduceEqDiff]
  refine qp (v := .bool (!((x3.Epoch == x24.Epoch)&&((x3.Value == x24.Value)&&true)))) rfl ?_
  simp only [qx,q9,B0,reduceIte,reduceEqDiff]
  refine q8 (t:=(!((x3.Epoch == x24.Epoch)&&((x3.Value == x24.Value)&&true)))) (fun hc27=>?_) (fun hc27=>?_)
  ·rw [iteT hc27] at hF26
   simp only [qf,qe,qd,qa,qz,B0,reduceIte,reduceEqDiff]
   have e28:=qj hF26
   subst e28
   have ho29:=hr9 _ rfl
   have hk30:=hk7
   rw [ho29] at hk30
   dsimp only [jnO] at hk30
   apply hR13
   have he:=qj hk30
   subst he
   simp only [ze,B0,reduceIte,reduceEqDiff]
   exact rfl
  rw [iteF hc27] at hF26
  simp only [zi,qk,B0,reduceIte,reduceEqDiff]
  have e31:=qj hF26
  exact hN11 _ _ _ e31.symm ⟨f19,f20,hS18⟩ (f22) (f23)
 rintro _ fr33 h34 rfl ⟨f36,f37,hS35⟩
 dsimp only [jnO] at hk7
 unfold qeq at hk7
 simp only [qf,qe,qd,qa,qz,B0,reduceIte,reduceEqDiff]
 have he:=qj hk7
 subst he
 simp only [ze,B0,reduceIte,reduceEqDiff]
 exact rfl
theorem qix {W:Nat→Bool}{h:Heap} (hW:∀ b,
  (geL h.length) b→W b=true) (a_0:List Int) (b_1:List Int) (r:Bool) (hF:xz a_0 b_1=some r) : Ret E W 68 [lst cI a_0,
  lst cI b_1] h (fun v h'=>cut h.length h' E.sz false 9 v=some (.bool r)):=by
 refine Ret.of (fn:=x68) rfl (Run.of ?_)
 unfold xz at hF
 have zf0:zc [lst cI a_0,lst cI b_1] 0=lst cI a_0:=rfl
 have zf1:zc [lst cI a_0,lst cI b_1] 1=lst cI b_1:=rfl
 generalize zc [lst cI a_0,lst cI b_1]=fr0 at zf0 zf1 ⊢
 have hS:Sep h (geL h.length) []:=Sep.nil h
 simp only [x68,qf,qe,qd,qa,qus,zf0,zw,qb,jh,zf1,qy,xk,q9,B0,reduceIte,reduceEqDiff]
 refine q8 (t:=(decide ((List.length a_0:Int)≠(List.length b_1:Int)))) (fun hc1=>?_) (fun hc1=>?_)
 ·rw [iteT hc1] at hF
  simp only [qf,qe,qd,qa,qz,B0,reduceIte,reduceEqDiff]
  have he:=qj hF
  subst he
  simp only [ze,B0,reduceIte,reduceEqDiff]
  exact rfl
 rw [iteF hc1] at hF
 simp only [zi,qxs,qf,qe,zf0,qd,zw,qb,jh,qa,B0,reduceIte,reduceEqDiff]
 obtain ⟨oc4,hX6,hk7⟩:=ki hF
 simp only [qz0]
 refine wq (σ:=Unit) a_0 (fun i2 x3 _=>uo b_1 i2 x3 ) (fun s fr' h'=>fr' 0=lst cI a_0∧fr' 1=lst cI b_1∧Sep h' (geL h.length) ([])) hX6 ⟨zf0,
   zf1,hS⟩ (by simp only [B0,reduceIte,reduceEqDiff]) (by simp only [B0,reduceIte,
   reduceEqDiff]) (fun _ _ _ h=>h) rfl rfl (fun _ _ _ _ h=>h) (fun _ _ _ _ h=>h) (fun _ _ _ _ h=>h) (by decide) ?_ ?_
 ·rintro i2 x3 _ fr16 h17 hx21 ⟨f19,f20,hS18⟩ f22 f23 oc5 hF8 hr9 Q10 hN11 hB15 hK12 hR13 hE14
  unfold uo at hF8
  simp only [quh,qf,qe,f22,qd,qa,qv3,jf,f19,zn,qg,wt,B0,reduceIte,reduceEqDiff]
  refine qp (v := .ref (cI x3) 0) (wn hx21 rfl) ?_
  simp only [zl,B0,reduceIte,reduceEqDiff]
  refine qp (v := .int .i64 x3) rfl ?_
  obtain ⟨x24,hx25,hF26⟩:=qi hF8
  simp only [f20,zn,qg,wt,B0,reduceIte,reduceEqDiff]
  refine qp (v := .ref (cI x24) 0) (y8 hx25 rfl) ?_
  simp only [zl,B0,reduceIte,reduceEqDiff]
  refine qp (v := .int .i64 x24) rfl ?_
  simp only [yd,qg,xk,qx,q9,B0,reduceIte,reduceEqDiff]
  refine q8 (t:=(decide (x3≠x24))) (fun hc27=>?_) (fun hc27=>?_)
  ·rw [iteT hc27] at hF26
   simp only [qf,qe,qd,qa,qz,B0,reduceIte,reduceEqDiff]
   have e28:=qj hF26
   subst e28
   have ho29:=hr9 _ rfl
   have hk30:=hk7
   rw [ho29] at hk30
   dsimp only [jnO] at hk30
   apply hR13
   have he:=qj hk30
   subst he
   simp only [ze,B0,reduceIte,reduceEqDiff]
   exact rfl
  rw [iteF hc27] at hF26
  simp only [zi,qk,B0,reduceIte,reduceEqDiff]
  have e31:=qj hF26
  exact hN11 _ _ _ e31.symm ⟨f19,f20,hS18⟩ (f22) (f23)
 rintro _ fr33 h34 rfl ⟨f36,f37,hS35⟩
 dsimp only [jnO] at hk7
 unfold qe3 at hk7
 simp only [qf,qe,qd,qa,qz,B0,reduceIte,reduceEqDiff]
 have he:=qj hk7
 subst he
 simp only [ze,B0,reduceIte,reduceEqDiff]
 exact rfl
theorem qhi {W:Nat→Bool}{h:Heap} (hW:∀ b,
  (geL h.length) b→W b=true) (v_0:Group) (v_1:Group) (r:Bool) (hF:xm v_0 v_1=some r) : Ret E W 19 [.agg [.int .i64 v_0.Epoch,.int .i64 v_0.Leader,
  lst cI v_0.InStep,.int .i64 v_0.High,lst Replica.cells v_0.Replicas],.agg [.int .i64 v_1.Epoch,.int .i64 v_1.Leader,lst cI v_1.InStep,.int .i64 v_1.High,
  lst Replica.cells v_1.Replicas]] h (fun v h'=>cut h.length h' E.sz false 9 v=some (.bool r)):=by
 refine Ret.of (fn:=x19) rfl (Run.of ?_)
 unfold xm at hF
 have zf0:zc [.agg [.int .i64 v_0.Epoch,.int .i64 v_0.Leader,lst cI v_0.InStep,.int .i64 v_0.High,lst Replica.cells v_0.Replicas],.agg [.int .i64 v_1.Epoch,
   .int .i64 v_1.Leader,lst cI v_1.InStep,.int .i64 v_1.High,lst Replica.cells v_1.Replicas]] 0 = .agg [.int .i64 v_0.Epoch,.int .i64 v_0.Leader,lst cI v_0.InStep,
   .int .i64 v_0.High,lst Replica.cells v_0.Replicas]:=rfl
 have zf1:zc [.agg [.int .i64 v_0.Epoch,.int .i64 v_0.Leader,lst cI v_0.InStep,.int .i64 v_0.High,lst Replica.cells v_0.Replicas],.agg [.int .i64 v_1.Epoch,
   .int .i64 v_1.Leader,lst cI v_1.InStep,.int .i64 v_1.High,lst Replica.cells v_1.Replicas]] 1 = .agg [.int .i64 v_1.Epoch,.int .i64 v_1.Leader,lst cI v_1.InStep,
   .int .i64 v_1.High,lst Replica.cells v_1.Replicas]:=rfl
 generalize zc [.agg [.int .i64 v_0.Epoch,.int .i64 v_0.Leader,lst cI v_0.InStep,.int .i64 v_0.High,lst Replica.cells v_0.Replicas],.agg [.int .i64 v_1.Epoch,
   .int .i64 v_1.Leader,lst cI v_1.InStep,.int .i64 v_1.High,lst Replica.cells v_1.Replicas]]=fr0 at zf0 zf1 ⊢
 have hS:Sep h (geL h.length) []:=Sep.nil h
 simp only [x19,qf,qe,wu,zf0,B0,reduceIte,reduceEqDiff]
 refine yj (cs:=[.int .i64 v_0.Epoch,.int .i64 v_0.Leader,lst cI v_0.InStep,.int .i64 v_0.High,lst Replica.cells v_0.Replicas]) hS rfl rfl rfl (fun b1 h2 hS3=>?_)
 simp only [wu,zf1,B0,reduceIte,reduceEqDiff]
 refine yj (cs:=[.int .i64 v_1.Epoch,.int .i64 v_1.Leader,lst cI v_1.InStep,.int .i64 v_1.High,lst Replica.cells v_1.Replicas]) hS3 rfl rfl rfl (fun b5 h6 hS7=>?_)
 simp only [qd,qa,B0,reduceIte,reduceEqDiff]
 refine jm (Sep.m1 hS7) hW (by simp only [B0,reduceIte,reduceEqDiff]) (fun h9 hS10=>?_)
 refine jm hS10 hW (by simp only [B0,reduceIte,reduceEqDiff]) (fun h11 hS12=>?_)
 simp only [jb,qzg,qf,qe,qt,qb,Nat.reduceAdd,Nat.zero_add,Nat.add_zero,qv,qn,B0,reduceIte,reduceEqDiff]
 refine qh (v := .int .i64 v_0.Epoch) rfl ?_
 simp only [qt,qb,Nat.reduceAdd,Nat.zero_add,Nat.add_zero,qv,qn,B0,reduceIte,reduceEqDiff]
 refine qh (v := .int .i64 v_1.Epoch) rfl ?_
 simp only [qy,qb,xk,qd,B0,reduceIte,reduceEqDiff]
 refine z8 6 (fun fr' h'=>Sep h' (geL h.length) ([])∧fr' 19 = .bool ((decide (v_0.Epoch≠v_1.Epoch))||(decide
   (v_0.Leader≠v_1.Leader)))∧fr' 2 = .ref [.int .i64 v_0.Epoch,.int .i64 v_0.Leader,lst cI v_0.InStep,.int .i64 v_0.High,
   lst Replica.cells v_0.Replicas] 0∧fr' 3 = .ref [.int .i64 v_1.Epoch,.int .i64 v_1.Leader,lst cI v_1.InStep,.int .i64 v_1.High,
   lst Replica.cells v_1.Replicas] 0) (fun Q13 hN14=>?_) ?_
 ·simp only [List.take_succ_cons,List.take_zero]
  simp only [qc (g:=13),B0,reduceIte,reduceEqDiff]
  refine zb (t:=(decide (v_0.Epoch≠v_1.Epoch))) (fun hg15=>?_) (fun hg15=>?_)
  ·simp only [hg15,qc (g:=13),zv,qu,qb,zf,qa,qk,B0,reduceIte,reduceEqDiff]
   exact hN14 _ _ ⟨hS12,by rw [orT hg15]; simp only [B0,reduceIte,reduceEqDiff],rfl,rfl⟩
  ·simp only [hg15,qc (g:=13),qr,qt,qb,Nat.reduceAdd,Nat.zero_add,Nat.add_zero,qv,qn,B0,reduceIte,reduceEqDiff]
   refine qh (v := .int .i64 v_0.Leader) rfl ?_
   simp only [hg15,qc (g:=13),qr,qt,qb,Nat.reduceAdd,Nat.zero_add,Nat.add_zero,qv,qn,B0,reduceIte,reduceEqDiff]
   refine qh (v := .int .i64 v_1.Leader) rfl ?_
   simp only [hg15,qc (g:=13),qr,qy,qb,xk,qu,zg,qa,qk,B0,reduceIte,reduceEqDiff]
   exact hN14 _ _ ⟨hS12,by rw [orF hg15]; simp only [B0,reduceIte,reduceEqDiff],rfl,rfl⟩
 rintro fr16 h20 ⟨hS21,f17,f18,f19⟩
 simp only [List.drop_succ_cons,List.drop_zero]
 simp only [f17,qd,B0,reduceIte,reduceEqDiff]
 refine z8 6 (fun fr' h'=>Sep h' (geL h.length) ([])∧fr' 26 = .bool (((decide (v_0.Epoch≠v_1.Epoch))||(decide (v_0.Leader≠v_1.Leader)))||(decide
   (v_0.High≠v_1.High)))∧fr' 2 = .ref [.int .i64 v_0.Epoch,.int .i64 v_0.Leader,lst cI v_0.InStep,.int .i64 v_0.High,
   lst Replica.cells v_0.Replicas] 0∧fr' 3 = .ref [.int .i64 v_1.Epoch,.int .i64 v_1.Leader,lst cI v_1.InStep,.int .i64 v_1.High,
   lst Replica.cells v_1.Replicas] 0) (fun Q22 hN23=>?_) ?_
 ·simp only [List.take_succ_cons,List.take_zero]
  simp only [qc (g:=20),B0,reduceIte,reduceEqDiff]
  refine zb (t:=((decide (v_0.Epoch≠v_1.Epoch))||(decide (v_0.Leader≠v_1.Leader)))) (fun hg24=>?_) (fun hg24=>?_)
  ·simp only [hg24,qc (g:=20),zv,qu,qb,zf,qa,qk,B0,reduceIte,reduceEqDiff]
   exact hN23 _ _ ⟨hS21,by rw [orT hg24]; simp only [B0,reduceIte,reduceEqDiff],f18,f19⟩
  ·simp only [hg24,qc (g:=20),qr,f18,qt,qb,Nat.reduceAdd,Nat.zero_add,Nat.add_zero,qv,qn,B0,reduceIte,reduceEqDiff]
   refine qh (v := .int .i64 v_0.High) rfl ?_
   simp only [hg24,qc (g:=20),qr,f19,qt,qb,Nat.reduceAdd,Nat.zero_add,Nat.add_zero,qv,qn,B0,reduceIte,reduceEqDiff]
   refine qh (v := .int .i64 v_1.High) rfl ?_
   simp only [hg24,qc (g:=20),qr,qy,qb,xk,qu,zg,qa,qk,B0,reduceIte,reduceEqDiff]
   exact hN23 _ _ ⟨hS21,by rw [orF hg24]; simp only [B0,reduceIte,reduceEqDiff],f18,f19⟩
 rintro fr25 h29 ⟨hS30,f26,f27,f28⟩
 simp only [List.drop_succ_cons,List.drop_zero]
 simp only [f26,qd,B0,reduceIte,reduceEqDiff]
 obtain ⟨v34,hx35,hF36⟩:=qi hF
 refine z8 7 (fun fr' h'=>Sep h' (geL h.length) ([])∧fr' 34 = .bool v34∧fr' 2 = .ref [.int .i64 v_0.Epoch,.int .i64 v_0.Leader,lst cI v_0.InStep,.int .i64 v_0.High,
   lst Replica.cells v_0.Replicas] 0∧fr' 3 = .ref [.int .i64 v_1.Epoch,.int .i64 v_1.Leader,lst cI v_1.InStep,.int .i64 v_1.High,
   lst Replica.cells v_1.Replicas] 0) (fun Q31 hN32=>?_) ?_
 ·simp only [List.take_succ_cons,List.take_zero]
  simp only [qc (g:=27),B0,reduceIte,reduceEqDiff]
  refine zb (t:=(((decide (v_0.Epoch≠v_1.Epoch))||(decide (v_0.Leader≠v_1.Leader)))||(decide (v_0.High≠v_1.High)))) (fun hg33=>?_) (fun hg33=>?_)
  ·rw [iteT hg33] at hx35
   simp only [hg33,qc (g:=27),zv,qu,qb,zf,qa,qk,B0,reduceIte,reduceEqDiff]
   have e37:=qj hx35
   exact hN32 _ _ ⟨hS30,by rw [←e37]; simp only [B0,reduceIte,reduceEqDiff],f27,f28⟩
  ·rw [iteF hg33] at hx35
   simp only [hg33,qc (g:=27),qr,f27,qt,qb,Nat.reduceAdd,Nat.zero_add,Nat.add_zero,qv,qn,B0,reduceIte,reduceEqDiff]
   refine qh (v:=lst cI v_0.InStep) rfl ?_
   simp only [hg33,qc (g:=27),qr,f28,qt,qb,Nat.reduceAdd,Nat.zero_add,Nat.add_zero,qv,qn,B0,reduceIte,reduceEqDiff]
   refine qh (v:=lst cI v_1.InStep) rfl ?_
   obtain ⟨v38,hx39,hF40⟩:=qi hx35
   simp only [hg33,qc (g:=27),qr,zd,B0,reduceIte,reduceEqDiff]
   refine j6 rfl (ql jp (ql jp zh)) (qix (fun b hb=>decide_eq_true hb) v_0.InStep v_1.InStep v38 hx39) ?_
   simp only [hg33,qc (g:=27),qr,jy,qb,kw,qu,zg,qa,qk,B0,reduceIte,reduceEqDiff]
   have e41:=qj hF40
   exact hN32 _ _ ⟨hS30,by rw [←e41]; simp only [B0,reduceIte,reduceEqDiff],f27,f28⟩
 rintro fr42 h46 ⟨hS47,f43,f44,f45⟩
 simp only [List.drop_succ_cons,List.drop_zero]
 simp only [f43,qd,B0,reduceIte,reduceEqDiff]
 refine z8 8 (fun fr' h'=>Sep h' (geL h.length) ([])∧fr' 43 = .bool (v34||(decide ((List.length v_0.Replicas:Int) ≠
   (List.length v_1.Replicas:Int))))∧fr' 2 = .ref [.int .i64 v_0.Epoch,.int .i64 v_0.Leader,lst cI v_0.InStep,.int .i64 v_0.High,
   lst Replica.cells v_0.Replicas] 0∧fr' 3 = .ref [.int .i64 v_1.Epoch,.int .i64 v_1.Leader,lst cI v_1.InStep,.int .i64 v_1.High,
   lst Replica.cells v_1.Replicas] 0) (fun Q48 hN49=>?_) ?_
 ·simp only [List.take_succ_cons,List.take_zero]
  simp only [qc (g:=35),B0,reduceIte,reduceEqDiff]
  refine zb (t:=v34) (fun hg50=>?_) (fun hg50=>?_)
  ·simp only [hg50,qc (g:=35),zv,qu,qb,zf,qa,qk,B0,reduceIte,reduceEqDiff]
   exact hN49 _ _ ⟨hS47,by rw [orT hg50]; simp only [B0,reduceIte,reduceEqDiff],f44,f45⟩
  ·simp only [hg50,qc (g:=35),qr,f44,qt,qb,Nat.reduceAdd,Nat.zero_add,Nat.add_zero,qv,qn,B0,reduceIte,reduceEqDiff]
   refine qh (v:=lst Replica.cells v_0.Replicas) rfl ?_
   simp only [hg50,qc (g:=35),qr,zw,qb,jh,f45,qt,Nat.reduceAdd,Nat.zero_add,Nat.add_zero,qv,qn,B0,reduceIte,
     reduceEqDiff]
   refine qh (v:=lst Replica.cells v_1.Replicas) rfl ?_
   simp only [hg50,qc (g:=35),qr,zw,qb,jh,qy,xk,qu,zg,qa,qk,B0,reduceIte,reduceEqDiff]
   exact hN49 _ _ ⟨hS47,by rw [orF hg50]; simp only [B0,reduceIte,reduceEqDiff],f44,f45⟩
 rintro fr51 h55 ⟨hS56,f52,f53,f54⟩
 simp only [List.drop_succ_cons,List.drop_zero]
 simp only [qa,f52,q9,B0,reduceIte,reduceEqDiff]
 refine q8 (t:=(v34||(decide ((List.length v_0.Replicas:Int)≠(List.length v_1.Replicas:Int))))) (fun hc57=>?_) (fun hc57=>?_)
 ·rw [iteT hc57] at hF36
  simp only [qf,qe,qd,qa,qz,B0,reduceIte,reduceEqDiff]
  have he:=qj hF36
  subst he
  simp only [ze,B0,reduceIte,reduceEqDiff]
  exact rfl
 rw [iteF hc57] at hF36
 simp only [zi,qxn,qf,qe,f53,qt,qb,Nat.reduceAdd,Nat.zero_add,Nat.add_zero,qv,qn,B0,reduceIte,reduceEqDiff]
 refine qh (v:=lst Replica.cells v_0.Replicas) rfl ?_
 simp only [zw,qb,jh,qd,qa,B0,reduceIte,reduceEqDiff]
 obtain ⟨oc60,hX62,hk63⟩:=ki hF36
 simp only [qv2]
 refine qdf (σ:=Unit) (fun i58 _=>xg v_0 v_1 i58 ) (fun s fr' h'=>fr' 2 = .ref [.int .i64 v_0.Epoch,.int .i64 v_0.Leader,lst cI v_0.InStep,
   .int .i64 v_0.High,lst Replica.cells v_0.Replicas] 0∧fr' 3 = .ref [.int .i64 v_1.Epoch,.int .i64 v_1.Leader,lst cI v_1.InStep,.int .i64 v_1.High,
   lst Replica.cells v_1.Replicas] 0∧Sep h' (geL h.length) ([])) hX62 ⟨f53,f54,hS56⟩ (by simp only [B0,reduceIte,reduceEqDiff]) (by simp only [B0,reduceIte,
   reduceEqDiff]) (fun _ _ _ h=>h) rfl rfl (fun _ _ _ _ h=>h) (fun _ _ _ _ h=>h) (fun _ _ _ _ h=>h) (by decide) ?_ ?_
 ·rintro i58 _ fr72 h73 hx77 ⟨f75,f76,hS74⟩ f78 f79 oc61 hF64 hr65 Q66 hN67 hB71 hK68 hR69 hE70
  unfold xg at hF64
  simp only [qv7,qf,qe,f78,qd,qa,qxu,f75,qt,qb,Nat.reduceAdd,Nat.zero_add,Nat.add_zero,qv,qn,B0,reduceIte,
    reduceEqDiff]
  refine qh (v:=lst Replica.cells v_0.Replicas) rfl ?_
  obtain ⟨x80,hx81,hF82⟩:=qi hF64
  simp only [qd,jz,B0,reduceIte,reduceEqDiff]
  refine qh (v := .ref (Replica.cells x80) 0) (y8 hx81 rfl) ?_
  simp only [qn,B0,reduceIte,reduceEqDiff]
  refine qh (v := .agg [lst Row.cells x80.Log,.int .i64 x80.Epoch,.int .i64 x80.Known]) rfl ?_
  simp only [jt,B0,reduceIte,reduceEqDiff]
  refine jc hS74 (fun b83 h84 hS85=>?_)
  simp only [zm,B0,reduceIte,reduceEqDiff]
  refine za (us:=[lst Row.cells x80.Log,.int .i64 x80.Epoch,.int .i64 x80.Known]) rfl (cs':=[lst Row.cells x80.Log,.int .i64 x80.Epoch,
    .int .i64 x80.Known]) hS85 hW rfl rfl (Nat.le_of_ble_eq_true rfl) rfl (fun h87 hS88=>?_)
  simp only [qa,B0,reduceIte,reduceEqDiff]
  refine jm hS88 hW (by simp only [B0,reduceIte,reduceEqDiff]) (fun h89 hS90=>?_)
  simp only [jb,qzb,qf,qe,f76,qt,qb,Nat.reduceAdd,Nat.zero_add,Nat.add_zero,qv,qn,B0,reduceIte,reduceEqDiff]
  refine qh (v:=lst Replica.cells v_1.Replicas) rfl ?_
  obtain ⟨x91,hx92,hF93⟩:=qi hF82
  simp only [qd,jz,B0,reduceIte,reduceEqDiff]
  refine qh (v := .ref (Replica.cells x91) 0) (y8 hx92 rfl) ?_
  simp only [qn,B0,reduceIte,reduceEqDiff]
  refine qh (v := .agg [lst Row.cells x91.Log,.int .i64 x91.Epoch,.int .i64 x91.Known]) rfl ?_
  simp only [jt,B0,reduceIte,reduceEqDiff]
  refine jc hS90 (fun b94 h95 hS96=>?_)
  simp only [zm,B0,reduceIte,reduceEqDiff]
  refine za (us:=[lst Row.cells x91.Log,.int .i64 x91.Epoch,.int .i64 x91.Known]) rfl (cs':=[lst Row.cells x91.Log,.int .i64 x91.Epoch,
    .int .i64 x91.Known]) hS96 hW rfl rfl (Nat.le_of_ble_eq_true rfl) rfl (fun h98 hS99=>?_)
  simp only [qa,B0,reduceIte,reduceEqDiff]
  refine jm hS99 hW (by simp only [B0,reduceIte,reduceEqDiff]) (fun h100 hS101=>?_)
  simp only [jb,qw9,qf,qe,qt,qb,Nat.reduceAdd,Nat.zero_add,Nat.add_zero,qv,qn,B0,reduceIte,reduceEqDiff]
  refine qh (v := .int .i64 x80.Epoch) rfl ?_
  simp only [qt,qb,Nat.reduceAdd,Nat.zero_add,Nat.add_zero,qv,qn,B0,reduceIte,reduceEqDiff]
  refine qh (v := .int .i64 x91.Epoch) rfl ?_
  simp only [qy,qb,xk,qd,B0,reduceIte,reduceEqDiff]
  refine z8 6 (fun fr' h'=>Sep h' (geL h.length) ([])∧fr' 71 = .bool ((decide (x80.Epoch≠x91.Epoch))||(decide
    (x80.Known≠x91.Known)))∧fr' 2 = .ref [.int .i64 v_0.Epoch,.int .i64 v_0.Leader,lst cI v_0.InStep,.int .i64 v_0.High,
    lst Replica.cells v_0.Replicas] 0∧fr' 3 = .ref [.int .i64 v_1.Epoch,.int .i64 v_1.Leader,lst cI v_1.InStep,.int .i64 v_1.High,
    lst Replica.cells v_1.Replicas] 0∧fr' 6 = .ref [lst Row.cells x80.Log,.int .i64 x80.Epoch,.int .i64 x80.Known] 0∧fr' 7 = .ref [lst Row.cells x91.Log,
    .int .i64 x91.Epoch,.int .i64 x91.Known] 0∧fr' 46 = .int .i64 (List.length v_0.Replicas:Int)∧fr' 47 = .int .i64 (i58:Int)) (fun Q102 hN103=>?_) ?_
  ·simp only [List.take_succ_cons,List.take_zero]
   simp only [qc (g:=65),B0,reduceIte,reduceEqDiff]
   refine zb (t:=(decide (x80.Epoch≠x91.Epoch))) (fun hg104=>?_) (fun hg104=>?_)
   ·simp only [hg104,qc (g:=65),zv,qu,qb,zf,qa,qk,B0,reduceIte,reduceEqDiff]
    exact hN103 _ _ ⟨hS101,by rw [orT hg104]; simp only [B0,reduceIte,reduceEqDiff],f75,f76,rfl,rfl,f79,f78⟩
   ·simp only [hg104,qc (g:=65),qr,qt,qb,Nat.reduceAdd,Nat.zero_add,Nat.add_zero,qv,qn,B0,reduceIte,reduceEqDiff]
    refine qh (v := .int .i64 x80.Known) rfl ?_
    simp only [hg104,qc (g:=65),qr,qt,qb,Nat.reduceAdd,Nat.zero_add,Nat.add_zero,qv,qn,B0,reduceIte,reduceEqDiff]
    refine qh (v := .int .i64 x91.Known) rfl ?_
    simp only [hg104,qc (g:=65),qr,qy,qb,xk,qu,zg,qa,qk,B0,reduceIte,reduceEqDiff]
    exact hN103 _ _ ⟨hS101,by rw [orF hg104]; simp only [B0,reduceIte,reduceEqDiff],f75,f76,rfl,rfl,f79,f78⟩
  rintro fr105 h113 ⟨hS114,f106,f107,f108,f109,f110,f111,f112⟩
  simp only [List.drop_succ_cons,List.drop_zero]
  simp only [f106,qd,B0,reduceIte,reduceEqDiff]
  obtain ⟨v118,hx119,hF120⟩:=qi hF93
  refine z8 7 (fun fr' h'=>Sep h' (geL h.length) ([])∧fr' 79 = .bool v118∧fr' 2 = .ref [.int .i64 v_0.Epoch,.int .i64 v_0.Leader,lst cI v_0.InStep,
    .int .i64 v_0.High,lst Replica.cells v_0.Replicas] 0∧fr' 3 = .ref [.int .i64 v_1.Epoch,.int .i64 v_1.Leader,lst cI v_1.InStep,.int .i64 v_1.High,
    lst Replica.cells v_1.Replicas] 0∧fr' 46 = .int .i64 (List.length v_0.Replicas:Int)∧fr' 47 = .int .i64 (i58:Int)) (fun Q115 hN116=>?_) ?_
  ·simp only [List.take_succ_cons,List.take_zero]
   simp only [qc (g:=72),B0,reduceIte,reduceEqDiff]
   refine zb (t:=((decide (x80.Epoch≠x91.Epoch))||(decide (x80.Known≠x91.Known)))) (fun hg117=>?_) (fun hg117=>?_)
   ·rw [iteT hg117] at hx119
    simp only [hg117,qc (g:=72),zv,qu,qb,zf,qa,qk,B0,reduceIte,reduceEqDiff]
    have e121:=qj hx119
    exact hN116 _ _ ⟨hS114,by rw [←e121]; simp only [B0,reduceIte,reduceEqDiff],f107,f108,f111,f112⟩
   ·rw [iteF hg117] at hx119
    simp only [hg117,qc (g:=72),qr,f109,qt,qb,Nat.reduceAdd,Nat.zero_add,Nat.add_zero,qv,qn,B0,reduceIte,reduceEqDiff]
    refine qh (v:=lst Row.cells x80.Log) rfl ?_
    simp only [hg117,qc (g:=72),qr,f110,qt,qb,Nat.reduceAdd,Nat.zero_add,Nat.add_zero,qv,qn,B0,reduceIte,reduceEqDiff]
    refine qh (v:=lst Row.cells x91.Log) rfl ?_
    obtain ⟨v122,hx123,hF124⟩:=qi hx119
    simp only [hg117,qc (g:=72),qr,zd,B0,reduceIte,reduceEqDiff]
    refine j6 rfl (ql jp (ql jp zh)) (u6 (fun b hb=>decide_eq_true hb) x80.Log x91.Log v122 hx123) ?_
    simp only [hg117,qc (g:=72),qr,jy,qb,kw,qu,zg,qa,qk,B0,reduceIte,reduceEqDiff]
    have e125:=qj hF124
    exact hN116 _ _ ⟨hS114,by rw [←e125]; simp only [B0,reduceIte,reduceEqDiff],f107,f108,f111,f112⟩
  rintro fr126 h132 ⟨hS133,f127,f128,f129,f130,f131⟩
  simp only [List.drop_succ_cons,List.drop_zero]
  simp only [qa,f127,q9,B0,reduceIte,reduceEqDiff]
  refine q8 (t:=v118) (fun hc134=>?_) (fun hc134=>?_)
  ·rw [iteT hc134] at hF120
   simp only [qf,qe,qd,qa,qz,B0,reduceIte,reduceEqDiff]
   have e135:=qj hF120
   subst e135
   have ho136:=hr65 _ rfl
   have hk137:=hk63
   rw [ho136] at hk137
   dsimp only [jnO] at hk137
   apply hR69
   have he:=qj hk137
   subst he
   simp only [ze,B0,reduceIte,reduceEqDiff]
   exact rfl
  rw [iteF hc134] at hF120
  simp only [zi,qk,B0,reduceIte,reduceEqDiff]
  have e138:=qj hF120
  exact hN67 _ _ _ e138.symm ⟨f128,f129,hS133⟩ (f131) (f130)
 rintro _ fr140 h141 rfl ⟨f143,f144,hS142⟩
 dsimp only [jnO] at hk63
 unfold qds at hk63
 simp only [qf,qe,qd,qa,qz,B0,reduceIte,reduceEqDiff]
 have he:=qj hk63
 subst he
 simp only [ze,B0,reduceIte,reduceEqDiff]
 exact rfl
theorem qaz {W:Nat→Bool}{h:Heap} (hW:∀ b,
  (geL h.length) b→W b=true) (k:Nat) (g_0:Group) (r:(List Row) × Bool) (hF:yw k g_0=some r) : Ret E W 20 [.agg [.int .i64 g_0.Epoch,
  .int .i64 g_0.Leader,lst cI g_0.InStep,.int .i64 g_0.High,lst Replica.cells g_0.Replicas]] h (fun v h'=>∃ rv0 rc0,v = .tup [rv0,
  .bool r.2]∧SlF Row.cells 2 98 rv0 r.1 rc0∧Sep h' (geL h.length) (rc0++([]))):=by
 refine Ret.of (fn:=x20) rfl (Run.of ?_)
 unfold yw at hF
 have zf0:zc [.agg [.int .i64 g_0.Epoch,.int .i64 g_0.Leader,lst cI g_0.InStep,.int .i64 g_0.High,lst Replica.cells g_0.Replicas]] 0 = .agg [.int .i64 g_0.Epoch,
   .int .i64 g_0.Leader,lst cI g_0.InStep,.int .i64 g_0.High,lst Replica.cells g_0.Replicas]:=rfl
 generalize zc [.agg [.int .i64 g_0.Epoch,.int .i64 g_0.Leader,lst cI g_0.InStep,.int .i64 g_0.High,lst Replica.cells g_0.Replicas]]=fr0 at zf0 ⊢
 have hS:Sep h (geL h.length) []:=Sep.nil h
 simp only [x20,qf,qe,wu,zf0,B0,reduceIte,reduceEqDiff]
 refine yj (cs:=[.int .i64 g_0.Epoch,.int .i64 g_0.Leader,lst cI g_0.InStep,.int .i64 g_0.High,lst Replica.cells g_0.Replicas]) hS rfl rfl rfl (fun b1 h2 hS3=>?_)
 simp only [qd,qa,B0,reduceIte,reduceEqDiff]
 refine jm hS3 hW (by simp only [B0,reduceIte,reduceEqDiff]) (fun h5 hS6=>?_)
 simp only [jb,qw7,qf,qe,qn,B0,reduceIte,reduceEqDiff]
 refine qh (v := .agg [.int .i64 g_0.Epoch,.int .i64 g_0.Leader,lst cI g_0.InStep,.int .i64 g_0.High,lst Replica.cells g_0.Replicas]) rfl ?_
 obtain ⟨v7,hx8,hF9⟩:=qi hF
 simp only [zd,B0,reduceIte,reduceEqDiff]
 refine j6 rfl (ql (kd (ql qq (ql qq (ql jp (ql qq (ql jp zh)))))) zh) (qby
   (fun b hb=>decide_eq_true hb) k g_0 v7 hx8) ?_
 simp only [jy,qb,kw,qa,qys,q9,B0,reduceIte,reduceEqDiff]
 refine q8 (t:=(!v7)) (fun hc10=>?_) (fun hc10=>?_)
 ·rw [iteT hc10] at hF9
  simp only [qf,qe,qd,qa,qz,B0,reduceIte,reduceEqDiff]
  have he:=qj hF9
  subst he
  simp only [qc9,B0,reduceIte,reduceEqDiff]
  exact ⟨.nil,[],by first | trivial | rfl,SlF.nil,(hS6:Sep _ (geL h.length) ([]))⟩
 rw [iteF hc10] at hF9
 simp only [zi,q0f,qf,jf,qcn,evp,B0,reduceIte,reduceEqDiff]
 refine uu (n:=2) (f:=Row.cells) ([] : List Row) hS6 rfl rfl (fun v11 c12 h13 hv14 hS15=>?_)
 simp only [zr,qg,Nat.reduceAdd,Nat.zero_add,Nat.add_zero,qv,zl,B0,reduceIte,reduceEqDiff]
 refine qp (v:=lst Replica.cells g_0.Replicas) rfl ?_
 simp only [zr,qg,Nat.reduceAdd,Nat.zero_add,Nat.add_zero,qv,zl,B0,reduceIte,reduceEqDiff]
 refine qp (v := .int .i64 g_0.Leader) rfl ?_
 obtain ⟨x17,hx18,hF19⟩:=qi hF9
 simp only [wt,B0,reduceIte,reduceEqDiff]
 refine qp (v := .ref (Replica.cells x17) 0) (y8 hx18 rfl) ?_
 simp only [zr,qg,Nat.reduceAdd,Nat.zero_add,Nat.add_zero,qv,zl,B0,reduceIte,reduceEqDiff]
 refine qp (v:=lst Row.cells x17.Log) rfl ?_
 simp only [zr,qg,Nat.reduceAdd,Nat.zero_add,Nat.add_zero,qv,zl,B0,reduceIte,reduceEqDiff]
 refine qp (v := .int .i64 g_0.High) rfl ?_
 obtain ⟨l20,hx21,hF22⟩:=qi hF19
 simp only [qg4,Option.map_some,Option.map_none,B0,reduceIte,reduceEqDiff]
 refine qp (qml hx21 (fun _=>rfl)) ?_
 simp only [qg2,B0,reduceIte,reduceEqDiff]
 obtain ⟨l23,hx24,hF25⟩:=qi hF22
 refine qbx (f:=Row.cells) hv14 hS15 hW (fun _=>rfl) (fun _=>rfl) (qb4 (fun _=>rfl)) hx24 (fun v26 c27 h28 hv29 hS30=>?_)
 simp only [zn,qg,qx,qz,B0,reduceIte,reduceEqDiff]
 have he:=qj hF25
 subst he
 simp only [qc9,B0,reduceIte,reduceEqDiff]
 exact ⟨v26,c27,by first | trivial | rfl,hv29,hS30⟩
theorem qes {W:Nat→Bool}{h:Heap} (hW:∀ b,
  (geL h.length) b→W b=true) (k:Nat) (g_0:Group) (r:Bool) (hF:ud k g_0=some r) : Ret E W 21 [.agg [.int .i64 g_0.Epoch,.int .i64 g_0.Leader,
  lst cI g_0.InStep,.int .i64 g_0.High,lst Replica.cells g_0.Replicas]] h (fun v h'=>cut h.length h' E.sz false 9 v=some (.bool r)):=by
 refine Ret.of (fn:=x21) rfl (Run.of ?_)
 unfold ud at hF
 have zf0:zc [.agg [.int .i64 g_0.Epoch,.int .i64 g_0.Leader,lst cI g_0.InStep,.int .i64 g_0.High,lst Replica.cells g_0.Replicas]] 0 = .agg [.int .i64 g_0.Epoch,
   .int .i64 g_0.Leader,lst cI g_0.InStep,.int .i64 g_0.High,lst Replica.cells g_0.Replicas]:=rfl
 generalize zc [.agg [.int .i64 g_0.Epoch,.int .i64 g_0.Leader,lst cI g_0.InStep,.int .i64 g_0.High,lst Replica.cells g_0.Replicas]]=fr0 at zf0 ⊢
 have hS:Sep h (geL h.length) []:=Sep.nil h
 simp only [x21,qf,qe,wu,zf0,B0,reduceIte,reduceEqDiff]
 refine yj (cs:=[.int .i64 g_0.Epoch,.int .i64 g_0.Leader,lst cI g_0.InStep,.int .i64 g_0.High,lst Replica.cells g_0.Replicas]) hS rfl rfl rfl (fun b1 h2 hS3=>?_)
 simp only [qd,qa,B0,reduceIte,reduceEqDiff]
 refine jm hS3 hW (by simp only [B0,reduceIte,reduceEqDiff]) (fun h5 hS6=>?_)
 simp only [jb,qf,qe,qn,B0,reduceIte,reduceEqDiff]
 refine qh (v := .agg [.int .i64 g_0.Epoch,.int .i64 g_0.Leader,lst cI g_0.InStep,.int .i64 g_0.High,lst Replica.cells g_0.Replicas]) rfl ?_
 obtain ⟨v7,hx8,hF9⟩:=qi hF
 simp only [zd,B0,reduceIte,reduceEqDiff]
 refine j6 rfl (ql (kd (ql qq (ql qq (ql jp (ql qq (ql jp zh)))))) zh) (qby
   (fun b hb=>decide_eq_true hb) k g_0 v7 hx8) ?_
 simp only [qd,qa,qz,B0,reduceIte,reduceEqDiff]
 have he:=qj hF9
 subst he
 simp only [ze,B0,reduceIte,reduceEqDiff]
 exact rfl
theorem qir {W:Nat→Bool}{h:Heap} (hW:∀ b,
  (geL h.length) b→W b=true) (b_0:List Int) (r:Int) (hF:qa2 b_0=some r) : Ret E W 22 [lst cU8 b_0] h (fun v h'=>cut h.length h' E.sz false 9 v=some
  (.int .i64 r)):=by
 refine Ret.of (fn:=x22) rfl (Run.of ?_)
 unfold qa2 at hF
 have zf0:zc [lst cU8 b_0] 0=lst cU8 b_0:=rfl
 generalize zc [lst cU8 b_0]=fr0 at zf0 ⊢
 have hS:Sep h (geL h.length) []:=Sep.nil h
 simp only [x22,qf,qe,qd,qa,qxf,qyc,zf0,zw,qb,jh,B0,reduceIte,reduceEqDiff]
 obtain ⟨oc5,hX7,hk8⟩:=ki hF
 simp only [qyw]
 refine wq (σ:=Int) b_0 (fun i3 x4 s26=>w7 i3 x4 s26) (fun s fr' h'=>fr' 3 = .int .i64 s∧fr' 6=lst cU8 b_0∧Sep h' (geL h.length) ([])) hX7 ⟨rfl,
   rfl,hS⟩ (by simp only [B0,reduceIte,reduceEqDiff]) (by simp only [B0,reduceIte,
   reduceEqDiff]) (fun _ _ _ h=>h) rfl rfl (fun _ _ _ _ h=>h) (fun _ _ _ _ h=>h) (fun _ _ _ _ h=>h) (by decide) ?_ ?_
 ·rintro i3 x4 s2 fr17 h18 hx22 ⟨f20,f21,hS19⟩ f23 f24 oc6 hF9 hr10 Q11 hN12 hB16 hK13 hR14 hE15
  unfold w7 at hF9
  simp only [quf,qf,qe,f21,f23,jz,B0,reduceIte,reduceEqDiff]
  refine qh (v := .ref (cU8 x4) 0) (wn hx22 rfl) ?_
  simp only [qn,B0,reduceIte,reduceEqDiff]
  refine qh (v := .int .u8 x4) rfl ?_
  simp only [qd,qa,qz6,qe,f20,qy,qb,qtt,qhg,qgu,qao,qha (n:=1000003) (by decide),qk,B0,reduceIte,reduceEqDiff]
  have e25:=qj hF9
  exact hN12 _ _ _ e25.symm ⟨rfl,f21,hS19⟩ (f23) (f24)
 rintro s27 fr28 h29 rfl ⟨f31,f32,hS30⟩
 dsimp only [jnO] at hk8
 unfold qey at hk8
 simp only [qf,qe,f31,qd,qa,qz,B0,reduceIte,reduceEqDiff]
 have he:=qj hk8
 subst he
 simp only [ze,B0,reduceIte,reduceEqDiff]
 exact rfl
end Go.Proofs.Ytefgfcalgjmhjaa.X
namespace Go.Proofs.Ytefgfcalgjmhjaa.X
open Go
open Nat (reduceEqDiff)
theorem qlq {W:Nat→Bool}{h:Heap} (hW:∀ b,
  (geL h.length) b→W b=true) (k:Nat) (g_0:Group) (replica_1:Int) (r:Int × Bool) (hF:qc0 k g_0 replica_1=some r) : Ret E W 24 [.agg [.int .i64 g_0.Epoch,
  .int .i64 g_0.Leader,lst cI g_0.InStep,.int .i64 g_0.High,lst Replica.cells g_0.Replicas],
  .int .i64 replica_1] h (fun v h'=>cut h.length h' E.sz false 9 v=some (.tup [.int .i64 r.1,.bool r.2])):=by
 refine Ret.of (fn:=x24) rfl (Run.of ?_)
 unfold qc0 at hF
 have zf0:zc [.agg [.int .i64 g_0.Epoch,.int .i64 g_0.Leader,lst cI g_0.InStep,.int .i64 g_0.High,lst Replica.cells g_0.Replicas],
   .int .i64 replica_1] 0 = .agg [.int .i64 g_0.Epoch,.int .i64 g_0.Leader,lst cI g_0.InStep,.int .i64 g_0.High,lst Replica.cells g_0.Replicas]:=rfl
 have zf1:zc [.agg [.int .i64 g_0.Epoch,.int .i64 g_0.Leader,lst cI g_0.InStep,.int .i64 g_0.High,lst Replica.cells g_0.Replicas],
   .int .i64 replica_1] 1 = .int .i64 replica_1:=rfl
 generalize zc [.agg [.int .i64 g_0.Epoch,.int .i64 g_0.Leader,lst cI g_0.InStep,.int .i64 g_0.High,lst Replica.cells g_0.Replicas],.int .i64 replica_1]=fr0 at zf0 zf1 ⊢
 have hS:Sep h (geL h.length) []:=Sep.nil h
 simp only [x24,qf,qe,wu,zf0,B0,reduceIte,reduceEqDiff]
 refine yj (cs:=[.int .i64 g_0.Epoch,.int .i64 g_0.Leader,lst cI g_0.InStep,.int .i64 g_0.High,lst Replica.cells g_0.Replicas]) hS rfl rfl rfl (fun b1 h2 hS3=>?_)
 simp only [qd,qa,B0,reduceIte,reduceEqDiff]
 refine jm hS3 hW (by simp only [B0,reduceIte,reduceEqDiff]) (fun h5 hS6=>?_)
 simp only [jb,qyq,qf,qe,qn,B0,reduceIte,reduceEqDiff]
 refine qh (v := .agg [.int .i64 g_0.Epoch,.int .i64 g_0.Leader,lst cI g_0.InStep,.int .i64 g_0.High,lst Replica.cells g_0.Replicas]) rfl ?_
 obtain ⟨v7,hx8,hF9⟩:=qi hF
 simp only [zd,B0,reduceIte,reduceEqDiff]
 refine j6 rfl (ql (kd (ql qq (ql qq (ql jp (ql qq (ql jp zh)))))) zh) (qby
   (fun b hb=>decide_eq_true hb) k g_0 v7 hx8) ?_
 simp only [jy,qb,kw,qd,B0,reduceIte,reduceEqDiff]
 refine z8 8 (fun fr' h'=>Sep h' (geL h.length) ([])∧fr' 17 = .bool ((!v7)||(!(zp replica_1 0 (IntKind.wrap .i64
   ((List.length g_0.Replicas:Int) - 1)))))∧fr' 1 = .int .i64 replica_1∧fr' 2 = .ref [.int .i64 g_0.Epoch,.int .i64 g_0.Leader,lst cI g_0.InStep,.int .i64 g_0.High,
   lst Replica.cells g_0.Replicas] 0) (fun Q10 hN11=>?_) ?_
 ·simp only [List.take_succ_cons,List.take_zero]
  simp only [qc (g:=9),B0,reduceIte,reduceEqDiff]
  refine zb (t:=(!v7)) (fun hg12=>?_) (fun hg12=>?_)
  ·simp only [hg12,qc (g:=9),zv,qu,qb,zf,qa,qk,B0,reduceIte,reduceEqDiff]
   exact hN11 _ _ ⟨hS6,by rw [orT hg12]; simp only [B0,reduceIte,reduceEqDiff],zf1,rfl⟩
  ·simp only [hg12,qc (g:=9),qr,zf1,qd,qt,qb,Nat.reduceAdd,Nat.zero_add,Nat.add_zero,qv,qn,B0,reduceIte,reduceEqDiff]
   refine qh (v:=lst Replica.cells g_0.Replicas) rfl ?_
   simp only [hg12,qc (g:=9),qr,zw,qb,jh,qy,qc7,zd,B0,reduceIte,reduceEqDiff]
   refine j6 rfl (ql qq (ql qq (ql qq zh))) (wj (fun b hb=>decide_eq_true hb) replica_1 0 (IntKind.wrap .i64
     ((List.length g_0.Replicas:Int) - 1)) _ rfl) ?_
   simp only [hg12,qc (g:=9),qr,jy,qb,kw,qu,zg,qa,qk,B0,reduceIte,reduceEqDiff]
   exact hN11 _ _ ⟨hS6,by rw [orF hg12]; simp only [B0,reduceIte,reduceEqDiff],zf1,rfl⟩
 rintro fr13 h17 ⟨hS18,f14,f15,f16⟩
 simp only [List.drop_succ_cons,List.drop_zero]
 simp only [qa,qv4,f14,q9,B0,reduceIte,reduceEqDiff]
 refine q8 (t:=((!v7)||(!(zp replica_1 0 (IntKind.wrap .i64 ((List.length g_0.Replicas:Int) - 1)))))) (fun hc19=>?_) (fun hc19=>?_)
 ·rw [iteT hc19] at hF9
  simp only [qf,qe,qd,qa,qz,B0,reduceIte,reduceEqDiff]
  have he:=qj hF9
  subst he
  simp only [qc9,B0,reduceIte,reduceEqDiff]
  exact qjr (ql rfl (ql rfl zh))
 rw [iteF hc19] at hF9
 simp only [zi,qyn,qf,jf,f16,qa1,qg,Nat.reduceAdd,Nat.zero_add,Nat.add_zero,qv,qai,xv,B0,reduceIte,reduceEqDiff]
 refine qp (v:=lst Replica.cells g_0.Replicas) rfl ?_
 simp only [f16,qa1,qg,Nat.reduceAdd,Nat.zero_add,Nat.add_zero,qv,qai,xv,B0,reduceIte,reduceEqDiff]
 refine qp (v := .int .i64 g_0.Leader) rfl ?_
 obtain ⟨x20,hx21,hF22⟩:=qi hF9
 simp only [q3s,B0,reduceIte,reduceEqDiff]
 refine qp (v := .ref (Replica.cells x20) 0) (y8 hx21 rfl) ?_
 simp only [qa1,qg,Nat.reduceAdd,Nat.zero_add,Nat.add_zero,qv,qai,xv,B0,reduceIte,reduceEqDiff]
 refine qp (v:=lst Row.cells x20.Log) rfl ?_
 simp only [qot,qg,jh,f16,zl,B0,reduceIte,reduceEqDiff]
 refine qp (v := .agg [.int .i64 g_0.Epoch,.int .i64 g_0.Leader,lst cI g_0.InStep,.int .i64 g_0.High,lst Replica.cells g_0.Replicas]) rfl ?_
 obtain ⟨v23,hx24,hF25⟩:=qi hF22
 simp only [f15,zn,qg,qbc,B0,reduceIte,reduceEqDiff]
 refine qgx rfl (ql (kd (ql qq (ql qq (ql jp (ql qq (ql jp zh)))))) (ql qq zh)) (w6
   (fun b hb=>decide_eq_true hb) k g_0 replica_1 v23 hx24) ?_
 simp only [yd,qg,qc7,zn,qx,qz,B0,reduceIte,reduceEqDiff]
 have he:=qj hF25
 subst he
 simp only [qc9,B0,reduceIte,reduceEqDiff]
 exact qjr (ql rfl (ql rfl zh))
theorem qim {W:Nat→Bool}{h:Heap} (hW:∀ b,
  (geL h.length) b→W b=true) (k:Nat) (v_0:List Int) (v_1:List Int) (r:Bool) (hF:qa3 k v_0 v_1=some r) : Ret E W 4 [lst cU8 v_0,
  lst cU8 v_1] h (fun v h'=>cut h.length h' E.sz false 9 v=some (.bool r)):=by
 refine Ret.of (fn:=x4) rfl (Run.of ?_)
 unfold qa3 at hF
 have zf0:zc [lst cU8 v_0,lst cU8 v_1] 0=lst cU8 v_0:=rfl
 have zf1:zc [lst cU8 v_0,lst cU8 v_1] 1=lst cU8 v_1:=rfl
 generalize zc [lst cU8 v_0,lst cU8 v_1]=fr0 at zf0 zf1 ⊢
 have hS:Sep h (geL h.length) []:=Sep.nil h
 simp only [x4,qf,qe,qd,qa,qvh,zf0,zw,qb,jh,zf1,qy,qao,qd5,q9,B0,reduceIte,reduceEqDiff]
 refine q8 (t:=(decide ((1048576:Int)<(IntKind.wrap .i64 ((List.length v_0:Int)+(List.length v_1:Int)))))) (fun hc1=>?_) (fun hc1=>?_)
 ·rw [iteT hc1] at hF
  simp only [qf,qe,qd,qa,qz,B0,reduceIte,reduceEqDiff]
  have he:=qj hF
  subst he
  simp only [ze,B0,reduceIte,reduceEqDiff]
  exact rfl
 rw [iteF hc1] at hF
 obtain ⟨v2,hx3,hF4⟩:=qi hF
 simp only [zi,qwc,qf,qe,zf0,qd,zd,B0,reduceIte,reduceEqDiff]
 refine qcd rfl hS (ql jp zh) (qgd (fun b hb=>decide_eq_true hb) k v_0 v2 hx3) ?_
 rintro _ h9 ⟨v5,c6,rfl,hv7,hS10⟩
 refine ⟨_,qco (qm rfl (qm (qdc (SlF.free1 hv7)) zq)),hS10,(yf (SlF.pf hv7 (fun _=>rfl)) qar),fun h11 hS12=>?_⟩
 have hS13:Sep h11 (geL h.length) (c6++([])):=by simpa only [List.append_assoc,List.nil_append] using hS12
 obtain ⟨v14,hx15,hF16⟩:=qi hF4
 simp only [qd,qa8,qb,qa6,qa4,qa,qu3,qf,qe,zd,B0,reduceIte,reduceEqDiff]
 refine qcd rfl hS13 (ql qq (ql (SlF.snap hv7 hS13 rfl (fun _=>rfl) (fun _=>rfl)) zh)) (qeu
   (fun b hb=>decide_eq_true hb) k v2.1 v2.2 v14 hx15) ?_
 rintro _ h29 ⟨v17,c18,v21,c22,v25,c26,rfl,hv19,hv23,hv27,hS30⟩
 refine ⟨_,qco (qm (qfu (qm rfl (qm rfl (qm (SlF.free1 hv19) (qm rfl (qm (SlN.free1 hv23) zq)))))) (qm (qdc (SlF.free1 hv27))
   (qm rfl zq))),hS30,(yf (SlF.pf hv19 (fun _=>rfl)) (yf (SlN.pf hv23 Replica.RO) (yf (SlF.pf hv27 (fun _=>rfl)) qar))),fun h31 hS32=>?_⟩
 have hS33:Sep h31 (geL h.length) (c18++(c22++(c26++(c6++([]))))):=by simpa only [List.append_assoc,List.nil_append] using hS32
 simp only [qd,qa8,qb,qa6,qa4,qif,jt,B0,reduceIte,reduceEqDiff]
 refine jc hS33 (fun b34 h35 hS36=>?_)
 simp only [zm,B0,reduceIte,reduceEqDiff]
 refine za (us:=[.int .i64 v14.1.Epoch,.int .i64 v14.1.Leader,v17,.int .i64 v14.1.High,v21]) rfl (cs':=[.int .i64 v14.1.Epoch,.int .i64 v14.1.Leader,v17,
   .int .i64 v14.1.High,v21]) hS36 hW rfl (qm rfl (qm rfl (qm (SlF.one hv19) (qm rfl (qm (SlN.one hv23) zq))))) (Nat.le_of_ble_eq_true rfl) rfl
   (fun h38 hS39=>?_)
 simp only [qd,qa,B0,reduceIte,reduceEqDiff]
 refine jm hS39 hW (by simp only [B0,reduceIte,reduceEqDiff]) (fun h40 hS41=>?_)
 obtain ⟨v42,hx43,hF44⟩:=qi hF16
 simp only [jb,qwr,qf,qe,qd,zd,B0,reduceIte,reduceEqDiff]
 refine qcd rfl hS41 (ql qq (ql (SlF.snap hv7 (Sep.m3 hS41) rfl (fun _=>rfl) (fun _=>rfl)) zh)) (qh6
   (fun b hb=>decide_eq_true hb) k v2.1 v2.2 v42 hx43) ?_
 rintro _ h57 ⟨v45,c46,v49,c50,v53,c54,rfl,hv47,hv51,hv55,hS58⟩
 refine ⟨_,qco (qm (qfu (qm rfl (qm rfl (qm (SlF.free1 hv47) (qm rfl (qm (SlN.free1 hv51) zq)))))) (qm (qdc (SlF.free1 hv55))
   (qm rfl zq))),hS58,(yf (SlF.pf hv47 (fun _=>rfl)) (yf (SlN.pf hv51 Replica.RO) (yf (SlF.pf hv55 (fun _=>rfl)) qar))),fun h59 hS60=>?_⟩
 have hS61:Sep h59 (geL h.length) (c46++(c50++(c54++(c18++(c22++(c26++(c6++([])))))))):=by simpa only [List.append_assoc,List.nil_append] using hS60
 simp only [qd,qa8,qb,qa6,qa4,qif,jt,B0,reduceIte,reduceEqDiff]
 refine jc hS61 (fun b62 h63 hS64=>?_)
 simp only [zm,B0,reduceIte,reduceEqDiff]
 refine za (us:=[.int .i64 v42.1.Epoch,.int .i64 v42.1.Leader,v45,.int .i64 v42.1.High,v49]) rfl (cs':=[.int .i64 v42.1.Epoch,.int .i64 v42.1.Leader,v45,
   .int .i64 v42.1.High,v49]) hS64 hW rfl (qm rfl (qm rfl (qm (SlF.one hv47) (qm rfl (qm (SlN.one hv51) zq))))) (Nat.le_of_ble_eq_true rfl) rfl
   (fun h66 hS67=>?_)
 simp only [qd,qa,B0,reduceIte,reduceEqDiff]
 refine jm hS67 hW (by simp only [B0,reduceIte,reduceEqDiff]) (fun h68 hS69=>?_)
 simp only [jb,q0g,qf,qe,qd,q0x,qb,qoz,B0,reduceIte,reduceEqDiff]
 obtain ⟨v73,hx74,hF75⟩:=qi hF44
 refine z8 5 (fun fr' h'=>Sep h' (geL h.length) (c6++(c18++(c22++(c26++(c46++(c50 ++
   ([])))))))∧fr' 62 = .bool v73∧fr' 1=lst cU8 v_1∧fr' 5 = .int .i64 v2.1∧fr' 6=v5∧fr' 7 = .ref [.int .i64 v14.1.Epoch,.int .i64 v14.1.Leader,v17,
   .int .i64 v14.1.High,v21] 0∧fr' 8=v25∧fr' 9 = .bool v14.2.2∧fr' 10 = .ref [.int .i64 v42.1.Epoch,.int .i64 v42.1.Leader,v45,.int .i64 v42.1.High,
   v49] 0) (fun Q70 hN71=>?_) ?_
 ·simp only [List.take_succ_cons,List.take_zero]
  simp only [qc (g:=57),B0,reduceIte,reduceEqDiff]
  refine zb (t:=(!(v14.2.2 == v42.2.2))) (fun hg72=>?_) (fun hg72=>?_)
  ·rw [iteT hg72] at hx74
   simp only [hg72,qc (g:=57),zv,qu,qb,zf,qa,qk,B0,reduceIte,reduceEqDiff]
   have e76:=qj hx74
   exact hN71 _ _ ⟨(Sep.m5 (Sep.m4 (Sep.m4 (Sep.m4 (Sep.m1 (Sep.m1 (Sep.dc (Sep.m2 hS69)))))))),by rw [←e76]; simp only [B0,reduceIte,reduceEqDiff],zf1,rfl,rfl,rfl,
     rfl,rfl,rfl⟩
  ·rw [iteF hg72] at hx74
   obtain ⟨v77,hx78,hF79⟩:=qi hx74
   simp only [hg72,qc (g:=57),qr,qd,zd,B0,reduceIte,reduceEqDiff]
   refine j6 rfl (ql (SlF.snap hv27 (Sep.m5 hS69) rfl (fun _=>rfl) (fun _=>rfl)) (ql (SlF.snap hv55 (Sep.m2 hS69) rfl (fun _=>rfl) (fun _=>rfl)) zh))
     (qib (fun b hb=>decide_eq_true hb) v14.2.1 v42.2.1 v77 hx78) ?_
   simp only [hg72,qc (g:=57),qr,jy,qb,kw,qu,zg,qa,qk,B0,reduceIte,reduceEqDiff]
   have e80:=qj hF79
   exact hN71 _ _ ⟨(Sep.m5 (Sep.m4 (Sep.m4 (Sep.m4 (Sep.m1 (Sep.m1 (Sep.dc (Sep.m2 hS69)))))))),by rw [←e80]; simp only [B0,reduceIte,reduceEqDiff],zf1,rfl,rfl,rfl,
     rfl,rfl,rfl⟩
 rintro fr81 h90 ⟨hS91,f82,f83,f84,f85,f86,f87,f88,f89⟩
 simp only [List.drop_succ_cons,List.drop_zero]
 simp only [f82,qd,B0,reduceIte,reduceEqDiff]
 obtain ⟨v95,hx96,hF97⟩:=qi hF75
 refine z8 5 (fun fr' h'=>Sep h' (geL h.length) (c6++(c18++(c22++(c26 ++
   ([])))))∧fr' 68 = .bool v95∧fr' 1=lst cU8 v_1∧fr' 5 = .int .i64 v2.1∧fr' 6=v5∧fr' 7 = .ref [.int .i64 v14.1.Epoch,.int .i64 v14.1.Leader,v17,
   .int .i64 v14.1.High,v21] 0∧fr' 8=v25∧fr' 9 = .bool v14.2.2) (fun Q92 hN93=>?_) ?_
 ·simp only [List.take_succ_cons,List.take_zero]
  simp only [qc (g:=63),B0,reduceIte,reduceEqDiff]
  refine zb (t:=v73) (fun hg94=>?_) (fun hg94=>?_)
  ·rw [iteT hg94] at hx96
   simp only [hg94,qc (g:=63),zv,qu,qb,zf,qa,qk,B0,reduceIte,reduceEqDiff]
   have e98:=qj hx96
   exact hN93 _ _ ⟨(Sep.m3 (Sep.m3 (Sep.m3 (Sep.m3 (Sep.dc (Sep.m4 (Sep.dc (Sep.m4 hS91)))))))),by rw [←e98]; simp only [B0,reduceIte,reduceEqDiff],f83,f84,f85,f86,
     f87,f88⟩
  ·rw [iteF hg94] at hx96
   simp only [hg94,qc (g:=63),qr,f86,qn,B0,reduceIte,reduceEqDiff]
   refine qh (v := .agg [.int .i64 v14.1.Epoch,.int .i64 v14.1.Leader,v17,.int .i64 v14.1.High,v21]) rfl ?_
   simp only [hg94,qc (g:=63),qr,f89,qn,B0,reduceIte,reduceEqDiff]
   refine qh (v := .agg [.int .i64 v42.1.Epoch,.int .i64 v42.1.Leader,v45,.int .i64 v42.1.High,v49]) rfl ?_
   obtain ⟨v99,hx100,hF101⟩:=qi hx96
   simp only [hg94,qc (g:=63),qr,zd,B0,reduceIte,reduceEqDiff]
   refine j6 rfl (ql (kd (ql qq (ql qq (ql (SlF.snap hv19 (Sep.m1 hS91) rfl (fun _=>rfl) (fun _=>rfl)) (ql qq (ql
     (SlN.snap hv23 _ (Sep.m2 hS91) rfl Replica.RO) zh)))))) (ql (kd (ql qq (ql qq (ql (SlF.snap hv47 (Sep.m4 hS91) rfl (fun _=>rfl)
     (fun _=>rfl)) (ql qq (ql (SlN.snap hv51 _ (Sep.m5 hS91) rfl Replica.RO) zh)))))) zh)) (qhi
     (fun b hb=>decide_eq_true hb) v14.1 v42.1 v99 hx100) ?_
   simp only [hg94,qc (g:=63),qr,jy,qb,kw,qu,zg,qa,qk,B0,reduceIte,reduceEqDiff]
   have e102:=qj hF101
   exact hN93 _ _ ⟨(Sep.m3 (Sep.m3 (Sep.m3 (Sep.m3 (Sep.dc (Sep.m4 (Sep.dc (Sep.m4 hS91)))))))),by rw [←e102]; simp only [B0,reduceIte,reduceEqDiff],f83,f84,f85,f86,
     f87,f88⟩
 rintro fr103 h111 ⟨hS112,f104,f105,f106,f107,f108,f109,f110⟩
 simp only [List.drop_succ_cons,List.drop_zero]
 simp only [qa,f104,q9,B0,reduceIte,reduceEqDiff]
 refine q8 (t:=v95) (fun hc113=>?_) (fun hc113=>?_)
 ·rw [iteT hc113] at hF97
  simp only [qf,qe,qd,qa,qz,B0,reduceIte,reduceEqDiff]
  have he:=qj hF97
  subst he
  simp only [ze,B0,reduceIte,reduceEqDiff]
  exact rfl
 rw [iteF hc113] at hF97
 simp only [zi,q0b,qf,qe,f110,qd,jy,qb,kw,qa,q2v,q9,B0,reduceIte,reduceEqDiff]
 refine q8 (t:=(!v14.2.2)) (fun hc114=>?_) (fun hc114=>?_)
 ·rw [iteT hc114] at hF97
  simp only [q1v,qf,qe,f109,qd,zw,qb,SlF.plen hv27,qy,yo,qa,qz,B0,reduceIte,reduceEqDiff]
  have he:=qj hF97
  subst he
  simp only [ze,B0,reduceIte,reduceEqDiff]
  exact rfl
 rw [iteF hc114] at hF97
 simp only [zi,qwh,qf,qe,f108,qn,B0,reduceIte,reduceEqDiff]
 refine qh (v := .agg [.int .i64 v14.1.Epoch,.int .i64 v14.1.Leader,v17,.int .i64 v14.1.High,v21]) rfl ?_
 obtain ⟨v115,hx116,hF117⟩:=qi hF97
 simp only [zd,B0,reduceIte,reduceEqDiff]
 refine qcd rfl hS112 (ql (kd (ql qq (ql qq (ql (SlF.snap hv19 (Sep.m1 hS112) rfl (fun _=>rfl) (fun _=>rfl)) (ql qq (ql
   (SlN.snap hv23 _ (Sep.m2 hS112) rfl Replica.RO) zh)))))) zh) (qaz (fun b hb=>decide_eq_true hb) k v14.1 v115 hx116) ?_
 rintro _ h122 ⟨v118,c119,rfl,hv120,hS123⟩
 refine ⟨_,qco (qm (qdc (SlF.free1 hv120)) (qm rfl zq)),hS123,(yf (SlF.pf hv120 (fun _=>rfl)) qar),fun h124 hS125=>?_⟩
 have hS126:Sep h124 (geL h.length) (c119++(c6++(c18++(c22++(c26++([])))))):=by simpa only [List.append_assoc,List.nil_append] using hS125
 simp only [qd,qa8,qb,qa6,qa4,qa,qxp,qf,qe,f108,qn,B0,reduceIte,reduceEqDiff]
 refine qh (v := .agg [.int .i64 v14.1.Epoch,.int .i64 v14.1.Leader,v17,.int .i64 v14.1.High,v21]) rfl ?_
 obtain ⟨v127,hx128,hF129⟩:=qi hF117
 simp only [zd,B0,reduceIte,reduceEqDiff]
 refine j6 rfl (ql (kd (ql qq (ql qq (ql (SlF.snap hv19 (Sep.m2 hS126) rfl (fun _=>rfl) (fun _=>rfl)) (ql qq (ql
   (SlN.snap hv23 _ (Sep.m3 hS126) rfl Replica.RO) zh)))))) zh) (qes (fun b hb=>decide_eq_true hb) k v14.1 v127 hx128) ?_
 simp only [jy,qb,kw,qd,B0,reduceIte,reduceEqDiff]
 refine z8 3 (fun fr' h'=>Sep h' (geL h.length) (c6++(c18++(c22++(c119++([])))))∧fr' 85 = .bool ((!v127) ||
   (!v115.2))∧fr' 1=lst cU8 v_1∧fr' 5 = .int .i64 v2.1∧fr' 6=v5∧fr' 7 = .ref [.int .i64 v14.1.Epoch,.int .i64 v14.1.Leader,v17,.int .i64 v14.1.High,
   v21] 0∧fr' 13=v118) (fun Q130 hN131=>?_) ?_
 ·simp only [List.take_succ_cons,List.take_zero]
  simp only [qc (g:=82),B0,reduceIte,reduceEqDiff]
  refine zb (t:=(!v127)) (fun hg132=>?_) (fun hg132=>?_)
  ·simp only [hg132,qc (g:=82),zv,qu,qb,zf,qa,qk,B0,reduceIte,reduceEqDiff]
   exact hN131 _ _ ⟨(Sep.m3 (Sep.m3 (Sep.m3 (Sep.dc (Sep.m4 hS126))))),by rw [orT hg132]; simp only [B0,reduceIte,reduceEqDiff],f105,f106,f107,f108,rfl⟩
  ·simp only [hg132,qc (g:=82),qr,qd,jy,qb,kw,qu,zg,qa,qk,B0,reduceIte,reduceEqDiff]
   exact hN131 _ _ ⟨(Sep.m3 (Sep.m3 (Sep.m3 (Sep.dc (Sep.m4 hS126))))),by rw [orF hg132]; simp only [B0,reduceIte,reduceEqDiff],f105,f106,f107,f108,rfl⟩
 rintro fr133 h140 ⟨hS141,f134,f135,f136,f137,f138,f139⟩
 simp only [List.drop_succ_cons,List.drop_zero]
 simp only [f134,qd,B0,reduceIte,reduceEqDiff]
 refine z8 6 (fun fr' h'=>Sep h' (geL h.length) (c6++(c18++(c22++(c119++([])))))∧fr' 92 = .bool (((!v127)||(!v115.2))||(decide
   ((List.length v115.1:Int)≠v14.1.High)))∧fr' 1=lst cU8 v_1∧fr' 5 = .int .i64 v2.1∧fr' 6=v5∧fr' 7 = .ref [.int .i64 v14.1.Epoch,.int .i64 v14.1.Leader,v17,
   .int .i64 v14.1.High,v21] 0∧fr' 13=v118) (fun Q142 hN143=>?_) ?_
 ·simp only [List.take_succ_cons,List.take_zero]
  simp only [qc (g:=86),B0,reduceIte,reduceEqDiff]
  refine zb (t:=((!v127)||(!v115.2))) (fun hg144=>?_) (fun hg144=>?_)
  ·simp only [hg144,qc (g:=86),zv,qu,qb,zf,qa,qk,B0,reduceIte,reduceEqDiff]
   exact hN143 _ _ ⟨(Sep.m3 (Sep.m3 (Sep.m3 (Sep.m3 hS141)))),by rw [orT hg144]; simp only [B0,reduceIte,reduceEqDiff],f135,f136,f137,f138,f139⟩
  ·simp only [hg144,qc (g:=86),qr,f139,qd,zw,qb,SlF.plen hv120,f138,qt,Nat.reduceAdd,Nat.zero_add,Nat.add_zero,qv,
    qn,B0,reduceIte,reduceEqDiff]
   refine qh (v := .int .i64 v14.1.High) rfl ?_
   simp only [hg144,qc (g:=86),qr,qy,qb,xk,qu,zg,qa,qk,B0,reduceIte,reduceEqDiff]
   exact hN143 _ _ ⟨(Sep.m3 (Sep.m3 (Sep.m3 (Sep.m3 hS141)))),by rw [orF hg144]; simp only [B0,reduceIte,reduceEqDiff],f135,f136,f137,f138,f139⟩
 rintro fr145 h152 ⟨hS153,f146,f147,f148,f149,f150,f151⟩
 simp only [List.drop_succ_cons,List.drop_zero]
 simp only [qa,f146,q9,B0,reduceIte,reduceEqDiff]
 refine q8 (t:=(((!v127)||(!v115.2))||(decide ((List.length v115.1:Int)≠v14.1.High)))) (fun hc154=>?_) (fun hc154=>?_)
 ·rw [iteT hc154] at hF129
  simp only [qf,qe,qd,qa,qz,B0,reduceIte,reduceEqDiff]
  have he:=qj hF129
  subst he
  simp only [ze,B0,reduceIte,reduceEqDiff]
  exact rfl
 rw [iteF hc154] at hF129
 obtain ⟨v155,hx156,hF157⟩:=qi hF129
 simp only [zi,qx9,qf,qe,f147,qd,zd,B0,reduceIte,reduceEqDiff]
 refine j6 rfl (ql jp zh) (qir (fun b hb=>decide_eq_true hb) v_1 v155 hx156) ?_
 obtain ⟨hp158,hF159⟩:=qfz hF157
 obtain ⟨l160,hx161,hF162⟩:=qi hF159
 simp only [f149,qd,zw,qb,SlF.plen hv7,qy,qao,qha (n:=(IntKind.wrap .i64 ((List.length v2.2:Int)+1))) hp158,qa,qzp,qf,
   qe,f148,qcm,Option.map_some,Option.map_none,B0,reduceIte,reduceEqDiff]
 obtain ⟨v163,he164,hv165⟩:=SlF.trunc (f1:=IsrStep.cells) hv7 hx161 (fun _=>rfl) hS153
 refine qh he164 ?_
 obtain ⟨v167,hx168,hF169⟩:=qi hF162
 simp only [zd,B0,reduceIte,reduceEqDiff]
 refine qcd rfl hS153 (ql qq (ql (SlF.snap hv165 hS153 rfl (fun _=>rfl) (fun _=>rfl)) zh)) (qeu
   (fun b hb=>decide_eq_true hb) k v2.1 l160 v167 hx168) ?_
 rintro _ h182 ⟨v170,c171,v174,c175,v178,c179,rfl,hv172,hv176,hv180,hS183⟩
 refine ⟨_,qco (qm (qfu (qm rfl (qm rfl (qm (SlF.free1 hv172) (qm rfl (qm (SlN.free1 hv176) zq)))))) (qm (qdc (SlF.free1 hv180))
   (qm rfl zq))),hS183,(yf (SlF.pf hv172 (fun _=>rfl)) (yf (SlN.pf hv176 Replica.RO) (yf (SlF.pf hv180 (fun _=>rfl)) qar))),fun h184 hS185=>?_⟩
 have hS186:Sep h184 (geL h.length) (c171++(c175++(c179++(c6++(c18++(c22++(c119++([])))))))):=by simpa only [List.append_assoc,List.nil_append] using hS185
 simp only [qd,qa8,qb,qa6,qa4,qif,jt,B0,reduceIte,reduceEqDiff]
 refine jc hS186 (fun b187 h188 hS189=>?_)
 simp only [zm,B0,reduceIte,reduceEqDiff]
 refine za (us:=[.int .i64 v167.1.Epoch,.int .i64 v167.1.Leader,v170,.int .i64 v167.1.High,v174]) rfl (cs':=[.int .i64 v167.1.Epoch,.int .i64 v167.1.Leader,v170,
   .int .i64 v167.1.High,v174]) hS189 hW rfl (qm rfl (qm rfl (qm (SlF.one hv172) (qm rfl (qm (SlN.one hv176) zq))))) (Nat.le_of_ble_eq_true rfl) rfl
   (fun h191 hS192=>?_)
 simp only [qd,qa,B0,reduceIte,reduceEqDiff]
 refine jm hS192 hW (by simp only [B0,reduceIte,reduceEqDiff]) (fun h193 hS194=>?_)
 simp only [jb,qvm,qf,qe,qn,B0,reduceIte,reduceEqDiff]
 refine qh (v := .agg [.int .i64 v167.1.Epoch,.int .i64 v167.1.Leader,v170,.int .i64 v167.1.High,v174]) rfl ?_
 obtain ⟨v195,hx196,hF197⟩:=qi hF169
 simp only [zd,B0,reduceIte,reduceEqDiff]
 refine qcd rfl hS194 (ql (kd (ql qq (ql qq (ql (SlF.snap hv172 hS194 rfl (fun _=>rfl) (fun _=>rfl)) (ql qq (ql (SlN.snap hv176 _
   (Sep.m1 hS194) rfl Replica.RO) zh)))))) zh) (qaz (fun b hb=>decide_eq_true hb) k v167.1 v195 hx196) ?_
 rintro _ h202 ⟨v198,c199,rfl,hv200,hS203⟩
 refine ⟨_,qco (qm (qdc (SlF.free1 hv200)) (qm rfl zq)),hS203,(yf (SlF.pf hv200 (fun _=>rfl)) qar),fun h204 hS205=>?_⟩
 have hS206:Sep h204 (geL h.length) (c199++(c171++(c175++(c179++(c6++(c18++(c22++(c119++([]))))))))):=by simpa only [List.append_assoc,
   List.nil_append] using hS205
 simp only [qd,qa8,qb,qa6,qa4,qa,qwn,qf,qe,jy,kw,B0,reduceIte,reduceEqDiff]
 refine z8 3 (fun fr' h'=>Sep h' (geL h.length) (c18++(c22++(c119++(c199++([])))))∧fr' 118 = .bool ((!v167.2.2) ||
   (!v195.2))∧fr' 7 = .ref [.int .i64 v14.1.Epoch,.int .i64 v14.1.Leader,v17,.int .i64 v14.1.High,v21] 0∧fr' 13=v118∧fr' 19=v198) (fun Q207 hN208=>?_) ?_
 ·simp only [List.take_succ_cons,List.take_zero]
  simp only [qc (g:=115),B0,reduceIte,reduceEqDiff]
  refine zb (t:=(!v167.2.2)) (fun hg209=>?_) (fun hg209=>?_)
  ·simp only [hg209,qc (g:=115),zv,qu,qb,zf,qa,qk,B0,reduceIte,reduceEqDiff]
   exact hN208 _ _ ⟨(Sep.m3 (Sep.m3 (Sep.m3 (Sep.dc (Sep.m1 (Sep.dc (Sep.m1 (Sep.dc (Sep.m1 (Sep.dc (Sep.m1 hS206))))))))))),by rw [orT hg209]; simp only [B0,reduceIte,
     reduceEqDiff],f150,f151,rfl⟩
  ·simp only [hg209,qc (g:=115),qr,qd,jy,qb,kw,qu,zg,qa,qk,B0,reduceIte,reduceEqDiff]
   exact hN208 _ _ ⟨(Sep.m3 (Sep.m3 (Sep.m3 (Sep.dc (Sep.m1 (Sep.dc (Sep.m1 (Sep.dc (Sep.m1 (Sep.dc (Sep.m1 hS206))))))))))),by rw [orF hg209]; simp only [B0,reduceIte,
     reduceEqDiff],f150,f151,rfl⟩
 rintro fr210 h215 ⟨hS216,f211,f212,f213,f214⟩
 simp only [List.drop_succ_cons,List.drop_zero]
 simp only [f211,qd,B0,reduceIte,reduceEqDiff]
 refine z8 6 (fun fr' h'=>Sep h' (geL h.length) (c18++(c22++(c119++(c199++([])))))∧fr' 125 = .bool (((!v167.2.2)||(!v195.2))||(decide
   ((List.length v115.1:Int)<(List.length v195.1:Int))))∧fr' 7 = .ref [.int .i64 v14.1.Epoch,.int .i64 v14.1.Leader,v17,.int .i64 v14.1.High,
   v21] 0∧fr' 13=v118∧fr' 19=v198) (fun Q217 hN218=>?_) ?_
 ·simp only [List.take_succ_cons,List.take_zero]
  simp only [qc (g:=119),B0,reduceIte,reduceEqDiff]
  refine zb (t:=((!v167.2.2)||(!v195.2))) (fun hg219=>?_) (fun hg219=>?_)
  ·simp only [hg219,qc (g:=119),zv,qu,qb,zf,qa,qk,B0,reduceIte,reduceEqDiff]
   exact hN218 _ _ ⟨(Sep.m3 (Sep.m3 (Sep.m3 (Sep.m3 hS216)))),by rw [orT hg219]; simp only [B0,reduceIte,reduceEqDiff],f212,f213,f214⟩
  ·simp only [hg219,qc (g:=119),qr,f214,qd,zw,qb,SlF.plen hv200,f213,SlF.plen hv120,qy,qd5,qu,zg,qa,
    qk,B0,reduceIte,reduceEqDiff]
   exact hN218 _ _ ⟨(Sep.m3 (Sep.m3 (Sep.m3 (Sep.m3 hS216)))),by rw [orF hg219]; simp only [B0,reduceIte,reduceEqDiff],f212,f213,f214⟩
 rintro fr220 h225 ⟨hS226,f221,f222,f223,f224⟩
 simp only [List.drop_succ_cons,List.drop_zero]
 simp only [f221,qd,B0,reduceIte,reduceEqDiff]
 obtain ⟨v230,hx231,hF232⟩:=qi hF197
 refine z8 8 (fun fr' h'=>Sep h' (geL h.length) (c18++(c22++(c119++([]))))∧fr' 134 = .bool v230∧fr' 7 = .ref [.int .i64 v14.1.Epoch,.int .i64 v14.1.Leader,v17,
   .int .i64 v14.1.High,v21] 0∧fr' 13=v118) (fun Q227 hN228=>?_) ?_
 ·simp only [List.take_succ_cons,List.take_zero]
  simp only [qc (g:=126),B0,reduceIte,reduceEqDiff]
  refine zb (t:=(((!v167.2.2)||(!v195.2))||(decide ((List.length v115.1:Int)<(List.length v195.1:Int))))) (fun hg229=>?_) (fun hg229=>?_)
  ·rw [iteT hg229] at hx231
   simp only [hg229,qc (g:=126),zv,qu,qb,zf,qa,qk,B0,reduceIte,reduceEqDiff]
   have e233:=qj hx231
   exact hN228 _ _ ⟨(Sep.m2 (Sep.m2 (Sep.m2 (Sep.dc (Sep.m3 hS226))))),by rw [←e233]; simp only [B0,reduceIte,reduceEqDiff],f222,f223⟩
  ·rw [iteF hg229] at hx231
   obtain ⟨l234,hx235,hF236⟩:=qi hx231
   simp only [hg229,qc (g:=126),qr,f224,qd,f223,zw,qb,SlF.plen hv200,qcm,Option.map_some,Option.map_none,B0,reduceIte,
     reduceEqDiff]
   obtain ⟨w237,i238,he239,hw240⟩:=SlF.win (f:=Row.cells) (ty:=98) none (some (List.length v195.1:Int)) hv120 hx235 (Sep.m2 hS226)
   refine qh he239 ?_
   obtain ⟨v241,hx242,hF243⟩:=qi hF236
   simp only [hg229,qc (g:=126),qr,zd,B0,reduceIte,reduceEqDiff]
   refine j6 rfl (ql (SlF.snap hv200 (Sep.m3 hS226) rfl (fun _=>rfl) (fun _=>rfl)) (ql (SlW.snap hw240 hv120 (Sep.m2 hS226) rfl (fun _=>rfl)
     (fun _=>rfl)) zh)) (u6 (fun b hb=>decide_eq_true hb) v195.1 l234 v241 hx242) ?_
   simp only [hg229,qc (g:=126),qr,jy,qb,kw,qu,zg,qa,qk,B0,reduceIte,reduceEqDiff]
   have e244:=qj hF243
   exact hN228 _ _ ⟨(Sep.m2 (Sep.m2 (Sep.m2 (Sep.dc (Sep.m3 hS226))))),by rw [←e244]; simp only [B0,reduceIte,reduceEqDiff],f222,f223⟩
 rintro fr245 h249 ⟨hS250,f246,f247,f248⟩
 simp only [List.drop_succ_cons,List.drop_zero]
 simp only [qa,f246,q9,B0,reduceIte,reduceEqDiff]
 refine q8 (t:=v230) (fun hc251=>?_) (fun hc251=>?_)
 ·rw [iteT hc251] at hF232
  simp only [qf,qe,qd,qa,qz,B0,reduceIte,reduceEqDiff]
  have he:=qj hF232
  subst he
  simp only [ze,B0,reduceIte,reduceEqDiff]
  exact rfl
 rw [iteF hc251] at hF232
 simp only [zi,qvr,qf,qe,f247,qn,B0,reduceIte,reduceEqDiff]
 refine qh (v := .agg [.int .i64 v14.1.Epoch,.int .i64 v14.1.Leader,v17,.int .i64 v14.1.High,v21]) rfl ?_
 obtain ⟨v252,hx253,hF254⟩:=qi hF232
 simp only [zd,B0,reduceIte,reduceEqDiff]
 refine qcd rfl hS250 (ql (kd (ql qq (ql qq (ql (SlF.snap hv19 hS250 rfl (fun _=>rfl) (fun _=>rfl)) (ql qq (ql (SlN.snap hv23 _
   (Sep.m1 hS250) rfl Replica.RO) zh)))))) zh) (qgw (fun b hb=>decide_eq_true hb) k v14.1 v252 hx253) ?_
 rintro _ h263 ⟨v255,c256,v259,c260,rfl,hv257,hv261,hS264⟩
 refine ⟨_,qco (qm (qfu (qm rfl (qm rfl (qm (SlF.free1 hv257) (qm rfl (qm (SlN.free1 hv261) zq)))))) (qm rfl (qm rfl zq))),hS264,
   (yf (SlF.pf hv257 (fun _=>rfl)) (yf (SlN.pf hv261 Replica.RO) qar)),fun h265 hS266=>?_⟩
 have hS267:Sep h265 (geL h.length) (c256++(c260++(c18++(c22++(c119++([])))))):=by simpa only [List.append_assoc,List.nil_append] using hS266
 simp only [qd,qa8,qb,qa6,qa4,qif,jt,B0,reduceIte,reduceEqDiff]
 refine jc hS267 (fun b268 h269 hS270=>?_)
 simp only [zm,B0,reduceIte,reduceEqDiff]
 refine za (us:=[.int .i64 v252.1.Epoch,.int .i64 v252.1.Leader,v255,.int .i64 v252.1.High,v259]) rfl (cs':=[.int .i64 v252.1.Epoch,.int .i64 v252.1.Leader,v255,
   .int .i64 v252.1.High,v259]) hS270 hW rfl (qm rfl (qm rfl (qm (SlF.one hv257) (qm rfl (qm (SlN.one hv261) zq))))) (Nat.le_of_ble_eq_true rfl) rfl
   (fun h272 hS273=>?_)
 simp only [qd,qa,B0,reduceIte,reduceEqDiff]
 refine jm hS273 hW (by simp only [B0,reduceIte,reduceEqDiff]) (fun h274 hS275=>?_)
 simp only [jb,quu,qf,qe,qn,B0,reduceIte,reduceEqDiff]
 refine qh (v := .agg [.int .i64 v252.1.Epoch,.int .i64 v252.1.Leader,v255,.int .i64 v252.1.High,v259]) rfl ?_
 obtain ⟨v276,hx277,hF278⟩:=qi hF254
 simp only [zd,B0,reduceIte,reduceEqDiff]
 refine qcd rfl hS275 (ql (kd (ql qq (ql qq (ql (SlF.snap hv257 hS275 rfl (fun _=>rfl) (fun _=>rfl)) (ql qq (ql (SlN.snap hv261 _
   (Sep.m1 hS275) rfl Replica.RO) zh)))))) zh) (qaz (fun b hb=>decide_eq_true hb) k v252.1 v276 hx277) ?_
 rintro _ h283 ⟨v279,c280,rfl,hv281,hS284⟩
 refine ⟨_,qco (qm (qdc (SlF.free1 hv281)) (qm rfl zq)),hS284,(yf (SlF.pf hv281 (fun _=>rfl)) qar),fun h285 hS286=>?_⟩
 have hS287:Sep h285 (geL h.length) (c280++(c256++(c260++(c18++(c22++(c119++([]))))))):=by simpa only [List.append_assoc,List.nil_append] using hS286
 simp only [qd,qa8,qb,qa6,qa4,qa,q24,qf,qe,jy,kw,B0,reduceIte,reduceEqDiff]
 refine z8 3 (fun fr' h'=>Sep h' (geL h.length) (c18++(c22++(c119++(c256++(c260++(c280++([])))))))∧fr' 151 = .bool ((!v252.2.2) ||
   (!v276.2))∧fr' 7 = .ref [.int .i64 v14.1.Epoch,.int .i64 v14.1.Leader,v17,.int .i64 v14.1.High,v21] 0∧fr' 13=v118∧fr' 21 = .ref [.int .i64 v252.1.Epoch,
   .int .i64 v252.1.Leader,v255,.int .i64 v252.1.High,v259] 0∧fr' 22 = .int .i64 v252.2.1∧fr' 24=v279) (fun Q288 hN289=>?_) ?_
 ·simp only [List.take_succ_cons,List.take_zero]
  simp only [qc (g:=148),B0,reduceIte,reduceEqDiff]
  refine zb (t:=(!v252.2.2)) (fun hg290=>?_) (fun hg290=>?_)
  ·simp only [hg290,qc (g:=148),zv,qu,qb,zf,qa,qk,B0,reduceIte,reduceEqDiff]
   exact hN289 _ _ ⟨(Sep.m5 (Sep.m5 (Sep.m5 (Sep.m2 (Sep.m2 hS287))))),by rw [orT hg290]; simp only [B0,reduceIte,reduceEqDiff],f247,f248,rfl,rfl,rfl⟩
  ·simp only [hg290,qc (g:=148),qr,qd,jy,qb,kw,qu,zg,qa,qk,B0,reduceIte,reduceEqDiff]
   exact hN289 _ _ ⟨(Sep.m5 (Sep.m5 (Sep.m5 (Sep.m2 (Sep.m2 hS287))))),by rw [orF hg290]; simp only [B0,reduceIte,reduceEqDiff],f247,f248,rfl,rfl,rfl⟩
 rintro fr291 h298 ⟨hS299,f292,f293,f294,f295,f296,f297⟩
 simp only [List.drop_succ_cons,List.drop_zero]
 simp only [f292,qd,B0,reduceIte,reduceEqDiff]
 obtain ⟨v303,hx304,hF305⟩:=qi hF278
 refine z8 4 (fun fr' h'=>Sep h' (geL h.length) (c18++(c22++(c119++(c256++(c260++(c280++([])))))))∧fr' 156 = .bool v303∧fr' 7 = .ref [.int .i64 v14.1.Epoch,
   .int .i64 v14.1.Leader,v17,.int .i64 v14.1.High,v21] 0∧fr' 13=v118∧fr' 21 = .ref [.int .i64 v252.1.Epoch,.int .i64 v252.1.Leader,v255,.int .i64 v252.1.High,
   v259] 0∧fr' 22 = .int .i64 v252.2.1∧fr' 24=v279) (fun Q300 hN301=>?_) ?_
 ·simp only [List.take_succ_cons,List.take_zero]
  simp only [qc (g:=152),B0,reduceIte,reduceEqDiff]
  refine zb (t:=((!v252.2.2)||(!v276.2))) (fun hg302=>?_) (fun hg302=>?_)
  ·rw [iteT hg302] at hx304
   simp only [hg302,qc (g:=152),zv,qu,qb,zf,qa,qk,B0,reduceIte,reduceEqDiff]
   have e306:=qj hx304
   exact hN301 _ _ ⟨(Sep.m5 (Sep.m5 (Sep.m5 (Sep.m5 (Sep.m5 (Sep.m5 hS299)))))),by rw [←e306]; simp only [B0,reduceIte,reduceEqDiff],f293,f294,f295,f296,f297⟩
  ·rw [iteF hg302] at hx304
   simp only [hg302,qc (g:=152),qr,f295,qn,B0,reduceIte,reduceEqDiff]
   refine qh (v := .agg [.int .i64 v252.1.Epoch,.int .i64 v252.1.Leader,v255,.int .i64 v252.1.High,v259]) rfl ?_
   obtain ⟨v307,hx308,hF309⟩:=qi hx304
   simp only [hg302,qc (g:=152),qr,zd,B0,reduceIte,reduceEqDiff]
   refine j6 rfl (ql (kd (ql qq (ql qq (ql (SlF.snap hv257 (Sep.m3 hS299) rfl (fun _=>rfl) (fun _=>rfl)) (ql qq (ql
     (SlN.snap hv261 _ (Sep.m4 hS299) rfl Replica.RO) zh)))))) zh) (qes (fun b hb=>decide_eq_true hb) k v252.1 v307 hx308) ?_
   simp only [hg302,qc (g:=152),qr,jy,qb,kw,qu,zg,qa,qk,B0,reduceIte,reduceEqDiff]
   have e310:=qj hF309
   exact hN301 _ _ ⟨(Sep.m5 (Sep.m5 (Sep.m5 (Sep.m5 (Sep.m5 (Sep.m5 hS299)))))),by rw [←e310]; simp only [B0,reduceIte,reduceEqDiff],f293,f294,f295,f296,f297⟩
 rintro fr311 h318 ⟨hS319,f312,f313,f314,f315,f316,f317⟩
 simp only [List.drop_succ_cons,List.drop_zero]
 simp only [f312,qd,B0,reduceIte,reduceEqDiff]
 refine z8 8 (fun fr' h'=>Sep h' (geL h.length) (c18++(c22++(c119++(c256++(c260++(c280++([])))))))∧fr' 165 = .bool (v303||(decide (v252.2.1 ≠
   (IntKind.wrap .i64 (v252.1.High - v14.1.High)))))∧fr' 7 = .ref [.int .i64 v14.1.Epoch,.int .i64 v14.1.Leader,v17,.int .i64 v14.1.High,
   v21] 0∧fr' 13=v118∧fr' 21 = .ref [.int .i64 v252.1.Epoch,.int .i64 v252.1.Leader,v255,.int .i64 v252.1.High,v259] 0∧fr' 24=v279) (fun Q320 hN321=>?_) ?_
 ·simp only [List.take_succ_cons,List.take_zero]
  simp only [qc (g:=157),B0,reduceIte,reduceEqDiff]
  refine zb (t:=v303) (fun hg322=>?_) (fun hg322=>?_)
  ·simp only [hg322,qc (g:=157),zv,qu,qb,zf,qa,qk,B0,reduceIte,reduceEqDiff]
   exact hN321 _ _ ⟨(Sep.m5 (Sep.m5 (Sep.m5 (Sep.m5 (Sep.m5 (Sep.m5 hS319)))))),by rw [orT hg322]; simp only [B0,reduceIte,reduceEqDiff],f313,f314,f315,f317⟩
  ·simp only [hg322,qc (g:=157),qr,f316,qd,f315,qt,qb,Nat.reduceAdd,Nat.zero_add,Nat.add_zero,qv,qn,B0,reduceIte,
    reduceEqDiff]
   refine qh (v := .int .i64 v252.1.High) rfl ?_
   simp only [hg322,qc (g:=157),qr,f313,qt,qb,Nat.reduceAdd,Nat.zero_add,Nat.add_zero,qv,qn,B0,reduceIte,reduceEqDiff]
   refine qh (v := .int .i64 v14.1.High) rfl ?_
   simp only [hg322,qc (g:=157),qr,qy,qb,qc7,xk,qu,zg,qa,qk,B0,reduceIte,reduceEqDiff]
   exact hN321 _ _ ⟨(Sep.m5 (Sep.m5 (Sep.m5 (Sep.m5 (Sep.m5 (Sep.m5 hS319)))))),by rw [orF hg322]; simp only [B0,reduceIte,reduceEqDiff],f313,f314,f315,f317⟩
 rintro fr323 h329 ⟨hS330,f324,f325,f326,f327,f328⟩
 simp only [List.drop_succ_cons,List.drop_zero]
 simp only [f324,qd,B0,reduceIte,reduceEqDiff]
 obtain ⟨v334,hx335,hF336⟩:=qi hF305
 refine z8 11 (fun fr' h'=>Sep h' (geL h.length) (c119++(c256++(c260++(c280++([])))))∧fr' 177 = .bool v334∧fr' 13=v118∧fr' 21 = .ref [.int .i64 v252.1.Epoch,
   .int .i64 v252.1.Leader,v255,.int .i64 v252.1.High,v259] 0∧fr' 24=v279) (fun Q331 hN332=>?_) ?_
 ·simp only [List.take_succ_cons,List.take_zero]
  simp only [qc (g:=166),B0,reduceIte,reduceEqDiff]
  refine zb (t:=(v303||(decide (v252.2.1≠(IntKind.wrap .i64 (v252.1.High - v14.1.High)))))) (fun hg333=>?_) (fun hg333=>?_)
  ·rw [iteT hg333] at hx335
   simp only [hg333,qc (g:=166),zv,qu,qb,zf,qa,qk,B0,reduceIte,reduceEqDiff]
   have e337:=qj hx335
   exact hN332 _ _ ⟨(Sep.m3 (Sep.m3 (Sep.m3 (Sep.m3 (Sep.dc ((Sep.dc (hS330)))))))),by rw [←e337]; simp only [B0,reduceIte,reduceEqDiff],f326,f327,f328⟩
  ·rw [iteF hg333] at hx335
   simp only [hg333,qc (g:=166),qr,f328,qd,f325,qt,qb,Nat.reduceAdd,Nat.zero_add,Nat.add_zero,qv,qn,B0,reduceIte,
     reduceEqDiff]
   refine qh (v:=v21) rfl ?_
   simp only [hg333,qc (g:=166),qr,f325,qt,qb,Nat.reduceAdd,Nat.zero_add,Nat.add_zero,qv,qn,B0,reduceIte,reduceEqDiff]
   refine qh (v := .int .i64 v14.1.Leader) rfl ?_
   obtain ⟨x338,hx339,hF340⟩:=qi hx335
   simp only [hg333,qc (g:=166),qr,jz,B0,reduceIte,reduceEqDiff]
   obtain ⟨b341,hb342⟩:=SlN.isrow hv23 (uf hx339)
   refine qh (SlN.ia hv23 hb342 hx339) ?_
   obtain ⟨c343,cs344,os345,hv346,hR347,hS348⟩:=SlG.opn (SlN.toG hv23 hb342 Replica.RO.len) hx339 z9 Replica.RO.len (Sep.m1 hS330)
   obtain ⟨v350,c351,hv352,rfl,rfl⟩:=hR347
   have hS349:=Sep.no1 hS348
   simp only [hg333,qc (g:=166),qr,qt,qb,Nat.reduceAdd,Nat.zero_add,Nat.add_zero,qw,qn,B0,reduceIte,reduceEqDiff]
   refine qh (v:=v350) ((SlG.ld (o:=0) hv346 rfl hx339 hS349 (Nat.le_of_ble_eq_true rfl)).trans rfl) ?_
   obtain ⟨v354,hx355,hF356⟩:=qi hF340
   simp only [hg333,qc (g:=166),qr,zd,B0,reduceIte,reduceEqDiff]
   refine j6 rfl (ql (SlF.snap hv281 (Sep.m6 hS349) rfl (fun _=>rfl) (fun _=>rfl)) (ql (SlF.snap hv352 (Sep.m1 hS349) rfl (fun _=>rfl) (fun _=>rfl)) zh))
     (u6 (fun b hb=>decide_eq_true hb) v276.1 x338.Log v354 hx355) ?_
   simp only [hg333,qc (g:=166),qr,jy,qb,kw,qu,zg,qa,qk,B0,reduceIte,reduceEqDiff]
   have e357:=qj hF356
   exact hN332 _ _ ⟨(Sep.m3 (Sep.m3 (Sep.m3 (Sep.m3 (Sep.dc ((Sep.dc (hS330)))))))),by rw [←e357]; simp only [B0,reduceIte,reduceEqDiff],f326,f327,f328⟩
 rintro fr358 h363 ⟨hS364,f359,f360,f361,f362⟩
 simp only [List.drop_succ_cons,List.drop_zero]
 simp only [f359,qd,B0,reduceIte,reduceEqDiff]
 refine z8 6 (fun fr' h'=>Sep h' (geL h.length) (c119++(c256++(c260++(c280++([])))))∧fr' 184 = .bool (v334||(decide ((List.length v276.1:Int) <
   (List.length v115.1:Int))))∧fr' 13=v118∧fr' 21 = .ref [.int .i64 v252.1.Epoch,.int .i64 v252.1.Leader,v255,.int .i64 v252.1.High,
   v259] 0∧fr' 24=v279) (fun Q365 hN366=>?_) ?_
 ·simp only [List.take_succ_cons,List.take_zero]
  simp only [qc (g:=178),B0,reduceIte,reduceEqDiff]
  refine zb (t:=v334) (fun hg367=>?_) (fun hg367=>?_)
  ·simp only [hg367,qc (g:=178),zv,qu,qb,zf,qa,qk,B0,reduceIte,reduceEqDiff]
   exact hN366 _ _ ⟨(Sep.m3 (Sep.m3 (Sep.m3 (Sep.m3 hS364)))),by rw [orT hg367]; simp only [B0,reduceIte,reduceEqDiff],f360,f361,f362⟩
  ·simp only [hg367,qc (g:=178),qr,f362,qd,zw,qb,SlF.plen hv281,f360,SlF.plen hv120,qy,qav,qu,zg,qa,
    qk,B0,reduceIte,reduceEqDiff]
   exact hN366 _ _ ⟨(Sep.m3 (Sep.m3 (Sep.m3 (Sep.m3 hS364)))),by rw [orF hg367]; simp only [B0,reduceIte,reduceEqDiff],f360,f361,f362⟩
 rintro fr368 h373 ⟨hS374,f369,f370,f371,f372⟩
 simp only [List.drop_succ_cons,List.drop_zero]
 simp only [f369,qd,B0,reduceIte,reduceEqDiff]
 obtain ⟨v378,hx379,hF380⟩:=qi hF336
 refine z8 8 (fun fr' h'=>Sep h' (geL h.length) (c256++(c260++(c280++([]))))∧fr' 193 = .bool v378∧fr' 21 = .ref [.int .i64 v252.1.Epoch,.int .i64 v252.1.Leader,
   v255,.int .i64 v252.1.High,v259] 0∧fr' 24=v279) (fun Q375 hN376=>?_) ?_
 ·simp only [List.take_succ_cons,List.take_zero]
  simp only [qc (g:=185),B0,reduceIte,reduceEqDiff]
  refine zb (t:=(v334||(decide ((List.length v276.1:Int)<(List.length v115.1:Int))))) (fun hg377=>?_) (fun hg377=>?_)
  ·rw [iteT hg377] at hx379
   simp only [hg377,qc (g:=185),zv,qu,qb,zf,qa,qk,B0,reduceIte,reduceEqDiff]
   have e381:=qj hx379
   exact hN376 _ _ ⟨(Sep.m2 (Sep.m2 (Sep.m2 (Sep.dc (hS374))))),by rw [←e381]; simp only [B0,reduceIte,reduceEqDiff],f371,f372⟩
  ·rw [iteF hg377] at hx379
   obtain ⟨l382,hx383,hF384⟩:=qi hx379
   simp only [hg377,qc (g:=185),qr,f372,qd,f370,zw,qb,SlF.plen hv120,qcm,Option.map_some,Option.map_none,B0,reduceIte,
     reduceEqDiff]
   obtain ⟨w385,i386,he387,hw388⟩:=SlF.win (f:=Row.cells) (ty:=98) none (some (List.length v115.1:Int)) hv281 hx383 (Sep.m3 hS374)
   refine qh he387 ?_
   obtain ⟨v389,hx390,hF391⟩:=qi hF384
   simp only [hg377,qc (g:=185),qr,f370,qd,zd,B0,reduceIte,reduceEqDiff]
   refine j6 rfl (ql (SlW.snap hw388 hv281 (Sep.m3 hS374) rfl (fun _=>rfl) (fun _=>rfl)) (ql (SlF.snap hv120 hS374 rfl (fun _=>rfl) (fun _=>rfl)) zh))
     (u6 (fun b hb=>decide_eq_true hb) l382 v115.1 v389 hx390) ?_
   simp only [hg377,qc (g:=185),qr,jy,qb,kw,qu,zg,qa,qk,B0,reduceIte,reduceEqDiff]
   have e392:=qj hF391
   exact hN376 _ _ ⟨(Sep.m2 (Sep.m2 (Sep.m2 (Sep.dc (hS374))))),by rw [←e392]; simp only [B0,reduceIte,reduceEqDiff],f371,f372⟩
 rintro fr393 h397 ⟨hS398,f394,f395,f396⟩
 simp only [List.drop_succ_cons,List.drop_zero]
 simp only [qa,f394,q9,B0,reduceIte,reduceEqDiff]
 refine q8 (t:=v378) (fun hc399=>?_) (fun hc399=>?_)
 ·rw [iteT hc399] at hF380
  simp only [qf,qe,qd,qa,qz,B0,reduceIte,reduceEqDiff]
  have he:=qj hF380
  subst he
  simp only [ze,B0,reduceIte,reduceEqDiff]
  exact rfl
 rw [iteF hc399] at hF380
 simp only [zi,q2o,qf,qe,f395,qt,qb,Nat.reduceAdd,Nat.zero_add,Nat.add_zero,qv,qn,B0,reduceIte,reduceEqDiff]
 refine qh (v:=v259) rfl ?_
 simp only [zw,qb,SlN.len hv261,qd,qa,B0,reduceIte,reduceEqDiff]
 obtain ⟨oc402,hX404,hk405⟩:=ki hF380
 simp only [q2p]
 refine qdf (σ:=Unit) (fun i400 _=>ur k v252 v276 i400 ) (fun s fr' h'=>fr' 21 = .ref [.int .i64 v252.1.Epoch,.int .i64 v252.1.Leader,v255,
   .int .i64 v252.1.High,v259] 0∧fr' 24=v279∧Sep h' (geL h.length) (c256++(c260++(c280++([]))))) hX404 ⟨f395,f396,
   (Sep.m2 (Sep.m2 (Sep.m2 hS398)))⟩ (by simp only [B0,reduceIte,reduceEqDiff]) (by simp only [B0,reduceIte,
   reduceEqDiff]) (fun _ _ _ h=>h) rfl rfl (fun _ _ _ _ h=>h) (fun _ _ _ _ h=>h) (fun _ _ _ _ h=>h) (by decide) ?_ ?_
 ·rintro i400 _ fr414 h415 hx419 ⟨f417,f418,hS416⟩ f420 f421 oc403 hF406 hr407 Q408 hN409 hB413 hK410 hR411 hE412
  unfold ur at hF406
  simp only [q2e,qf,qe,f420,qd,qa,q2y,f417,qn,B0,reduceIte,reduceEqDiff]
  refine qh (v := .agg [.int .i64 v252.1.Epoch,.int .i64 v252.1.Leader,v255,.int .i64 v252.1.High,v259]) rfl ?_
  obtain ⟨v422,hx423,hF424⟩:=qi hF406
  simp only [qd,zd,B0,reduceIte,reduceEqDiff]
  refine j6 rfl (ql (kd (ql qq (ql qq (ql (SlF.snap hv257 hS416 rfl (fun _=>rfl) (fun _=>rfl)) (ql qq (ql (SlN.snap hv261 _
    (Sep.m1 hS416) rfl Replica.RO) zh)))))) (ql qq zh)) (qlq (fun b hb=>decide_eq_true hb) k v252.1 (i400:Int) v422 hx423) ?_
  simp only [qd,qa8,qb,qa6,qa4,qa,q2q,qf,qe,jy,kw,B0,reduceIte,reduceEqDiff]
  refine z8 3 (fun fr' h'=>Sep h' (geL h.length) (c256++(c260++(c280++([]))))∧fr' 211 = .bool ((!v422.2)||(decide
    (v422.1≠0)))∧fr' 21 = .ref [.int .i64 v252.1.Epoch,.int .i64 v252.1.Leader,v255,.int .i64 v252.1.High,
    v259] 0∧fr' 24=v279∧fr' 26 = .int .i64 (i400:Int)∧fr' 196 = .int .i64 (List.length v252.1.Replicas:Int)∧fr' 197 = .int .i64 (i400:Int))
    (fun Q425 hN426=>?_) ?_
  ·simp only [List.take_succ_cons,List.take_zero]
   simp only [qc (g:=208),B0,reduceIte,reduceEqDiff]
   refine zb (t:=(!v422.2)) (fun hg427=>?_) (fun hg427=>?_)
   ·simp only [hg427,qc (g:=208),zv,qu,qb,zf,qa,qk,B0,reduceIte,reduceEqDiff]
    exact hN426 _ _ ⟨(Sep.m2 (Sep.m2 (Sep.m2 hS416))),by rw [orT hg427]; simp only [B0,reduceIte,reduceEqDiff],f417,f418,rfl,f421,f420⟩
   ·simp only [hg427,qc (g:=208),qr,qd,qy,qb,xk,qu,zg,qa,qk,B0,reduceIte,reduceEqDiff]
    exact hN426 _ _ ⟨(Sep.m2 (Sep.m2 (Sep.m2 hS416))),by rw [orF hg427]; simp only [B0,reduceIte,reduceEqDiff],f417,f418,rfl,f421,f420⟩
  rintro fr428 h435 ⟨hS436,f429,f430,f431,f432,f433,f434⟩
  simp only [List.drop_succ_cons,List.drop_zero]
  simp only [f429,qd,B0,reduceIte,reduceEqDiff]
  obtain ⟨v440,hx441,hF442⟩:=qi hF424
  refine z8 10 (fun fr' h'=>Sep h' (geL h.length) (c256++(c260++(c280++([]))))∧fr' 222 = .bool v440∧fr' 21 = .ref [.int .i64 v252.1.Epoch,
    .int .i64 v252.1.Leader,v255,.int .i64 v252.1.High,
    v259] 0∧fr' 24=v279∧fr' 196 = .int .i64 (List.length v252.1.Replicas:Int)∧fr' 197 = .int .i64 (i400:Int)) (fun Q437 hN438=>?_) ?_
  ·simp only [List.take_succ_cons,List.take_zero]
   simp only [qc (g:=212),B0,reduceIte,reduceEqDiff]
   refine zb (t:=((!v422.2)||(decide (v422.1≠0)))) (fun hg439=>?_) (fun hg439=>?_)
   ·rw [iteT hg439] at hx441
    simp only [hg439,qc (g:=212),zv,qu,qb,zf,qa,qk,B0,reduceIte,reduceEqDiff]
    have e443:=qj hx441
    exact hN438 _ _ ⟨(Sep.m2 (Sep.m2 (Sep.m2 hS436))),by rw [←e443]; simp only [B0,reduceIte,reduceEqDiff],f430,f431,f433,f434⟩
   ·rw [iteF hg439] at hx441
    simp only [hg439,qc (g:=212),qr,f430,qt,qb,Nat.reduceAdd,Nat.zero_add,Nat.add_zero,qv,qn,B0,reduceIte,reduceEqDiff]
    refine qh (v:=v259) rfl ?_
    obtain ⟨x444,hx445,hF446⟩:=qi hx441
    simp only [hg439,qc (g:=212),qr,f432,qd,jz,B0,reduceIte,reduceEqDiff]
    obtain ⟨b447,hb448⟩:=SlN.isrow hv261 (uf hx445)
    refine qh (SlN.ia hv261 hb448 hx445) ?_
    obtain ⟨c449,cs450,os451,hv452,hR453,hS454⟩:=SlG.opn (SlN.toG hv261 hb448 Replica.RO.len) hx445 z9 Replica.RO.len (Sep.m1 hS436)
    obtain ⟨v456,c457,hv458,rfl,rfl⟩:=hR453
    have hS455:=Sep.no1 hS454
    simp only [hg439,qc (g:=212),qr,qt,qb,Nat.reduceAdd,Nat.zero_add,Nat.add_zero,qw,qn,B0,reduceIte,reduceEqDiff]
    refine qh (v:=v456) ((SlG.ld (o:=0) hv452 rfl hx445 hS455 (Nat.le_of_ble_eq_true rfl)).trans rfl) ?_
    obtain ⟨v460,hx461,hF462⟩:=qi hF446
    simp only [hg439,qc (g:=212),qr,f431,qd,zd,B0,reduceIte,reduceEqDiff]
    refine j6 rfl (ql (SlF.snap hv458 (Sep.m1 hS455) rfl (fun _=>rfl) (fun _=>rfl)) (ql (SlF.snap hv281 (Sep.m3 hS455) rfl (fun _=>rfl) (fun _=>rfl)) zh))
      (u6 (fun b hb=>decide_eq_true hb) x444.Log v276.1 v460 hx461) ?_
    simp only [hg439,qc (g:=212),qr,jy,qb,kw,qu,zg,qa,qk,B0,reduceIte,reduceEqDiff]
    have e463:=qj hF462
    exact hN438 _ _ ⟨(Sep.m2 (Sep.m2 (Sep.m2 hS436))),by rw [←e463]; simp only [B0,reduceIte,reduceEqDiff],f430,f431,f433,f434⟩
  rintro fr464 h470 ⟨hS471,f465,f466,f467,f468,f469⟩
  simp only [List.drop_succ_cons,List.drop_zero]
  simp only [qa,f465,q9,B0,reduceIte,reduceEqDiff]
  refine q8 (t:=v440) (fun hc472=>?_) (fun hc472=>?_)
  ·rw [iteT hc472] at hF442
   simp only [qf,qe,qd,qa,qz,B0,reduceIte,reduceEqDiff]
   have e473:=qj hF442
   subst e473
   have ho474:=hr407 _ rfl
   have hk475:=hk405
   rw [ho474] at hk475
   dsimp only [jnO] at hk475
   apply hR411
   have he:=qj hk475
   subst he
   simp only [ze,B0,reduceIte,reduceEqDiff]
   exact rfl
  rw [iteF hc472] at hF442
  simp only [zi,qk,B0,reduceIte,reduceEqDiff]
  have e476:=qj hF442
  exact hN409 _ _ _ e476.symm ⟨f466,f467,(Sep.m2 (Sep.m2 (Sep.m2 hS471)))⟩ (f469) (f468)
 rintro _ fr478 h479 rfl ⟨f481,f482,hS480⟩
 dsimp only [jnO] at hk405
 unfold qe0 at hk405
 simp only [qf,qe,qd,qa,qz,B0,reduceIte,reduceEqDiff]
 have he:=qj hk405
 subst he
 simp only [ze,B0,reduceIte,reduceEqDiff]
 exact rfl
end Go.Proofs.Ytefgfcalgjmhjaa.X
