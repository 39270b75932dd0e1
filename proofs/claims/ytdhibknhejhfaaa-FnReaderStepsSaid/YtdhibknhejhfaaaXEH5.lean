/- The functions' code comes to what the plain functions say (5). -/
import Derived.Test.YtdhibknhejhfaaaXEH4
set_option linter.unusedVariables false
set_option linter.unusedSimpArgs false
set_option maxRecDepth 100000
namespace Go.Proofs.Ytdhibknhejhfaaa.X
open Go
open Nat (reduceEqDiff)
theorem qh6 {W:Nat→Bool}{h:Heap} (hW:∀ b,
  (geL h.length) b→W b=true) (k:Nat) (readers_0:Int) (ends_1:List Int) (l_2:List GroupStep) (r:Readers_ × (List Bool) × Bool)
  (hF:wa k readers_0 ends_1 l_2=some r) : Ret E W 9 [.int .i64 readers_0,lst cI ends_1,
  lst GroupStep.cells l_2] h (fun v h'=>∃ rv0_1 rc0_1 rv0_2 rc0_2 rv0_3 rc0_3 rv1 rc1,v = .tup [.agg [.int .i64 r.1.Generation,rv0_1,rv0_2,rv0_3],rv1,
  .bool r.2.2]∧SlN Reader.R 4 37 rv0_1 r.1.Readers rc0_1∧SlF cI 1 3 rv0_2 r.1.Committed rc0_2∧SlF cI 1 3 rv0_3 r.1.Ends rc0_3∧SlF cB 1 4 rv1 r.2.1 rc1∧Sep h'
  (geL h.length) (rc0_1++(rc0_2++(rc0_3++(rc1++([])))))):=by
 refine Ret.of (fn:=x9) rfl (Run.of ?_)
 unfold wa at hF
 have zf0:zb [.int .i64 readers_0,lst cI ends_1,lst GroupStep.cells l_2] 0 = .int .i64 readers_0:=rfl
 have zf1:zb [.int .i64 readers_0,lst cI ends_1,lst GroupStep.cells l_2] 1=lst cI ends_1:=rfl
 have zf2:zb [.int .i64 readers_0,lst cI ends_1,lst GroupStep.cells l_2] 2=lst GroupStep.cells l_2:=rfl
 generalize zb [.int .i64 readers_0,lst cI ends_1,lst GroupStep.cells l_2]=fr0 at zf0 zf1 zf2 ⊢
 have hS:Sep h (geL h.length) []:=Sep.nil h
 simp only [x9,qf,qe,ja,B0,reduceIte,reduceEqDiff]
 refine zw hS (fun b1 h2 hS3=>?_)
 obtain ⟨v5,hx6,hF7⟩:=qh hF
 simp only [qd,qa,qyt,qf,qe,zf0,zf1,qw,B0,reduceIte,reduceEqDiff]
 refine xz rfl hS3 (qi qs (qi ze qy)) (qcz (fun b hb=>decide_eq_true hb) k readers_0 ends_1 v5 hx6) ?_
 rintro _ h20 ⟨v8,c9,v12,c13,v16,c17,rfl,hv10,hv14,hv18,hS21⟩
 refine ⟨_,qbv (qk (qap (qk rfl (qk (SlN.free1 hv10) (qk (SlF.free1 hv14) (qk (SlF.free1 hv18) zl))))) (qk rfl zl)),hS21,
   (z0 (SlN.pf hv10 Reader.RO) (z0 (SlF.pf hv14 (fun _=>rfl)) (z0 (SlF.pf hv18 (fun _=>rfl)) yc))),fun h22 hS23=>?_⟩
 have hS24:Sep h22 (geL h.length) (c9++(c13++(c17++([Blk1 b1 [.int .i64 0,.nil,.nil,.nil] 29]++([]))))):=by simpa only [List.append_assoc,
   List.nil_append] using hS23
 simp only [qd,yl,qb,yv,yq,ja,B0,reduceIte,reduceEqDiff]
 refine zw hS24 (fun b25 h26 hS27=>?_)
 simp only [zn,B0,reduceIte,reduceEqDiff]
 refine zd (us:=[.int .i64 v5.1.Generation,v8,v12,v16]) rfl (cs':=[.int .i64 v5.1.Generation,v8,v12,
   v16]) hS27 hW rfl (qk rfl (qk (SlN.one hv10) (qk (SlF.one hv14) (qk (SlF.one hv18) zl)))) (Nat.le_of_ble_eq_true rfl) rfl (fun h29 hS30=>?_)
 simp only [qd,qa,qwt,qf,qe,jf,qb,jt,B0,reduceIte,reduceEqDiff]
 refine z4 4 (fun fr' h'=>Sep h' (geL h.length) ([Blk1 b1 [.int .i64 0,.nil,.nil,.nil] 29]++([Blk1 b25 [.int .i64 v5.1.Generation,v8,v12,
   v16] 29]++(c9++(c13++(c17++([]))))))∧fr' 28 = .bool ((!v5.2)||(decide ((80:Int) <
   (List.length l_2:Int))))∧fr' 2=lst GroupStep.cells l_2∧fr' 6 = .ptr b1 0∧fr' 9 = .ptr b25 0) (fun Q31 hN32=>?_) ?_
 ·simp only [List.take_succ_cons,List.take_zero]
  simp only [qc (g:=24),B0,reduceIte,reduceEqDiff]
  refine q8 (t:=(!v5.2)) (fun hg33=>?_) (fun hg33=>?_)
  ·simp only [hg33,qc (g:=24),zy,qr,qb,zk,qa,qm,B0,reduceIte,reduceEqDiff]
   exact hN32 _ _ ⟨(Sep.m4 (Sep.m3 (Sep.m3 (Sep.m3 (Sep.m3 hS30))))),by rw [orT hg33]; simp only [B0,reduceIte,reduceEqDiff],zf2,rfl,rfl⟩
  ·simp only [hg33,qc (g:=24),qo,zf2,qd,zo,qb,zr,q9,qe3,qr,zj,qa,qm,B0,reduceIte,
    reduceEqDiff]
   exact hN32 _ _ ⟨(Sep.m4 (Sep.m3 (Sep.m3 (Sep.m3 (Sep.m3 hS30))))),by rw [orF hg33]; simp only [B0,reduceIte,reduceEqDiff],zf2,rfl,rfl⟩
 rintro fr34 h39 ⟨hS40,f35,f36,f37,f38⟩
 simp only [List.drop_succ_cons,List.drop_zero]
 simp only [qa,q4c,f35,za,B0,reduceIte,reduceEqDiff]
 refine qz (t:=((!v5.2)||(decide ((80:Int)<(List.length l_2:Int))))) (fun hc41=>?_) (fun hc41=>?_)
 ·rw [iteT hc41] at hF7
  simp only [q3x,qf,qe,run_build,evp,B0,reduceIte,reduceEqDiff]
  refine qj (v := .agg [.int .i64 0,.nil,.nil,.nil]) rfl ?_
  simp only [f37,zn,B0,reduceIte,reduceEqDiff]
  refine zd (us:=[.int .i64 0,.nil,.nil,.nil]) rfl (cs':=[.int .i64 0,.nil,.nil,.nil]) hS40 hW rfl rfl (Nat.le_of_ble_eq_true rfl) rfl (fun h42 hS43=>?_)
  simp only [qd,qa,qx,B0,reduceIte,reduceEqDiff]
  have he:=qg hF7
  subst he
  refine ka (qi (kg (bb:=b1) (oo:=0) (v := .agg [.int .i64 0,.nil,.nil,
    .nil]) (f37) ((z7 (Sep.bk _ _ _ hS43)).trans rfl)) (qi (wz (v := .nil) (rfl)) (qi (wz (v := .bool false) (rfl)) qy))) ?_
  exact ⟨.nil,[],.nil,[],.nil,[],.nil,[],by first | trivial | rfl,SlN.nil,SlF.nil,SlF.nil,SlF.nil,
    ((Sep.dc ((Sep.dc ((Sep.dc ((Sep.dc ((Sep.dc (hS43)))))))))) : Sep _ (geL h.length) ([]))⟩
 rw [iteF hc41] at hF7
 simp only [zh,q1z,qf,qe,qd,qa,quk,f36,zo,qb,zr,B0,reduceIte,reduceEqDiff]
 obtain ⟨oc82,hX84,hk85⟩:=jj hF7
 simp only [q4k]
 refine j8 (σ:=(List Bool) × Readers_) l_2 (fun i80 x81 s203=>y3 i80 x81 s203.1 s203.2) (fun s fr' h'=>∃ v64 c65 v69 c70 v73 c74 v77 c78,
   fr' 6 = .ptr b1 0∧fr' 9 = .ptr b25 0∧fr' 11=v64∧fr' 30=lst GroupStep.cells l_2∧SlF cB 1 4 v64 s.1 c65∧SlN Reader.R 4 37 v69 s.2.Readers c70∧SlF cI 1 3 v73 s.2.Committed c74∧SlF cI 1 3 v77 s.2.Ends c78∧Sep h'
   (geL h.length) ([Blk1 b1 [.int .i64 0,.nil,.nil,.nil] 29]++([Blk1 b25 [.int .i64 s.2.Generation,v69,v73,
   v77] 29]++(c65++(c70++(c74++(c78++([])))))))) hX84 ⟨.nil,[],v8,c9,v12,c13,v16,c17,f37,f38,rfl,rfl,SlF.nil,hv10,hv14,hv18,
   ((Sep.m4 (Sep.m4 (Sep.m4 (Sep.m4 (Sep.m4 hS40))))) : Sep _ (geL h.length) ([Blk1 b1 [.int .i64 0,.nil,.nil,.nil] 29]++([Blk1 b25 [.int .i64 v5.1.Generation,v8,v12,
   v16] 29]++(c9++(c13++(c17++([])))))))⟩ (by simp only [B0,reduceIte,reduceEqDiff]) (by simp only [B0,reduceIte,
   reduceEqDiff]) (fun _ _ _ h=>h) rfl rfl (fun _ _ _ _ h=>h) (fun _ _ _ _ h=>h) (fun _ _ _ _ h=>h) (by decide) ?_ ?_
 ·rintro i80 x81 ⟨s62,s67⟩ fr94 h95 hx101 ⟨v64,c65,v69,c70,v73,c74,v77,c78,f97,f98,f99,f100,hv66,hv71,hv75,hv79,
   hS96⟩ f102 f103 oc83 hF86 hr87 Q88 hN89 hB93 hK90 hR91 hE92
  dsimp only at *
  unfold y3 at hF86
  simp only [q3y,qf,qe,f100,f102,jo,B0,reduceIte,reduceEqDiff]
  refine qj (v := .ref (GroupStep.cells x81) 0) (j7 hx101 rfl) ?_
  simp only [qn,B0,reduceIte,reduceEqDiff]
  refine qj (v := .agg [.int .i64 x81.Kind,.int .i64 x81.K,.int .i64 x81.Part,.int .i64 x81.N]) rfl ?_
  simp only [ja,B0,reduceIte,reduceEqDiff]
  refine zw hS96 (fun b104 h105 hS106=>?_)
  simp only [zn,B0,reduceIte,reduceEqDiff]
  refine zd (us:=[.int .i64 x81.Kind,.int .i64 x81.K,.int .i64 x81.Part,.int .i64 x81.N]) rfl (cs':=[.int .i64 x81.Kind,.int .i64 x81.K,.int .i64 x81.Part,
    .int .i64 x81.N]) hS106 hW rfl rfl (Nat.le_of_ble_eq_true rfl) rfl (fun h108 hS109=>?_)
  simp only [qa,B0,reduceIte,reduceEqDiff]
  refine zu hS109 hW (by simp only [B0,reduceIte,reduceEqDiff]) (fun h110 hS111=>?_)
  simp only [zp,q3k,qf,jc,qgn,B0,reduceIte,reduceEqDiff]
  refine qcp hS111 (fun b112 h113 hS114=>?_)
  simp only [f98,zm,B0,reduceIte,reduceEqDiff]
  refine qp (v := .agg [.int .i64 s67.Generation,v69,v73,v77]) ((z7 (Sep.bk _ _ _ (Sep.m2 hS114))).trans rfl) ?_
  obtain ⟨v116,hx117,hF118⟩:=qh hF86
  simp only [ut,B0,reduceIte,reduceEqDiff]
  refine qjf rfl hS114 (qi (jb (qi qs (qi (SlN.snap hv71 _ (Sep.m4 hS114) rfl Reader.RO) (qi (SlF.snap hv75 (Sep.m5 hS114) rfl (fun _=>rfl)
    (fun _=>rfl)) (qi (SlF.snap hv79 (Sep.m6 hS114) rfl (fun _=>rfl) (fun _=>rfl)) qy))))) qy) (qc7 (fun b hb=>decide_eq_true hb) s67 v116 hx117) ?_
  rintro _ h131 ⟨v119,c120,v123,c124,v127,c128,rfl,hv121,hv125,hv129,hS132⟩
  refine ⟨_,qft (qk rfl (qk (SlN.free1 hv121) (qk (SlF.free1 hv125) (qk (SlF.free1 hv129) zl)))),hS132,
    (z0 (SlN.pf hv121 Reader.RO) (z0 (SlF.pf hv125 (fun _=>rfl)) (z0 (SlF.pf hv129 (fun _=>rfl)) yc))),fun h133 hS134=>?_⟩
  have hS135:Sep h133 (geL h.length) (c120++(c124++(c128++([Blk1 b112 [.int .i64 0,.nil,.nil,.nil] 29]++([Blk1 b1 [.int .i64 0,.nil,.nil,
    .nil] 29]++([Blk1 b25 [.int .i64 s67.Generation,v69,v73,v77] 29]++(c65++(c70++(c74++(c78++([]))))))))))):=by simpa only [List.append_assoc,
    List.nil_append] using hS134
  simp only [qcu,qba,B0,reduceIte,reduceEqDiff]
  refine qp (v := .agg [.int .i64 x81.Kind,.int .i64 x81.K,.int .i64 x81.Part,.int .i64 x81.N]) rfl ?_
  obtain ⟨v136,hx137,hF138⟩:=qh hF118
  simp only [y5,B0,reduceIte,reduceEqDiff]
  refine qps rfl (qgm hW v116 v119 c120 hv121 v123 c124 hv125 v127 c128 hv129 x81 v136 hx137 (Sep.m2 (Sep.m2 (Sep.m2 hS135)))) ?_
  rintro _ h145 ⟨c139,c141,c143,rfl,hv140,hv142,hv144,hS146⟩
  simp only [z8,ql,qp5,yv,qqp,yq,xb,B0,reduceIte,reduceEqDiff]
  refine y7 (us:=[.int .i64 v136.1.Generation,v119,v123,v127]) rfl (cs':=[.int .i64 v136.1.Generation,v119,v123,
    v127]) (Sep.m3 hS146) hW rfl (qk rfl (qk (SlN.one hv140) (qk (SlF.one hv142) (qk (SlF.one hv144) zl)))) (Nat.le_of_ble_eq_true rfl) rfl
    (fun h147 hS148=>?_)
  simp only [z8,ql,zc,B0,reduceIte,reduceEqDiff]
  refine zu hS148 hW (by simp only [B0,reduceIte,reduceEqDiff]) (fun h149 hS150=>?_)
  simp only [zp,q4p,qf,qe,qd,qa,q3w,za,B0,reduceIte,reduceEqDiff]
  obtain ⟨s151,hX165,hk166⟩:=qh hF138
  refine qbs (t:=v136.2) (fun fr' h'=>∃ v153 c154 v157 c158 v161 c162,
    fr' 6 = .ptr b1 0∧fr' 9 = .ptr b25 0∧fr' 11=v64∧fr' 15 = .bool v136.2∧fr' 30=lst GroupStep.cells l_2∧fr' 31 = .int .i64
    (List.length l_2:Int)∧fr' 32 = .int .i64
    (i80:Int)∧SlN Reader.R 4 37 v153 s151.Readers c154∧SlF cI 1 3 v157 s151.Committed c158∧SlF cI 1 3 v161 s151.Ends c162∧Sep h' (geL h.length)
    ([Blk1 b1 [.int .i64 0,.nil,.nil,.nil] 29]++([Blk1 b25 [.int .i64 s151.Generation,v153,v157,
    v161] 29]++(c65++(c154++(c158++(c162++([])))))))) (fun Q167 hN168 hR169 hE170=>⟨fun hc171=>?_,fun hc171=>?_⟩) ?_
  ·rw [iteT hc171] at hX165
   simp only [qe,qn,B0,reduceIte,reduceEqDiff]
   refine qj (v := .agg [.int .i64 v136.1.Generation,v119,v123,v127]) rfl ?_
   simp only [f98,zn,B0,reduceIte,reduceEqDiff]
   refine zd (us:=[.int .i64 v136.1.Generation,v119,v123,v127]) rfl (cs':=[.int .i64 v136.1.Generation,v119,v123,
     v127]) (Sep.m4 hS150) hW rfl (qk rfl (qk (SlN.one hv140) (qk (SlF.one hv142) (qk (SlF.one hv144) zl)))) (Nat.le_of_ble_eq_true rfl) rfl
     (fun h172 hS173=>?_)
   simp only [qa,qm,B0,reduceIte,reduceEqDiff]
   have e174:=qg hX165
   subst e174
   exact hN168 _ _ ⟨v119,c139,v123,c141,v127,c143,f97,f98,f99,rfl,f100,f103,f102,hv140,hv142,hv144,
     (Sep.m5 (Sep.m4 (Sep.m5 (Sep.m3 (Sep.m3 (Sep.m3 (Sep.dc (Sep.m6 (Sep.dc (Sep.m6 (Sep.dc (Sep.m6 hS173))))))))))))⟩
  ·rw [iteF hc171] at hX165
   simp only [zh,qm,B0,reduceIte,reduceEqDiff]
   have e175:=qg hX165
   subst e175
   exact hN168 _ _ ⟨v69,c70,v73,c74,v77,c78,f97,f98,f99,rfl,f100,f103,f102,hv71,hv75,hv79,
     (Sep.m5 (Sep.m5 (Sep.m5 (Sep.m5 (Sep.m5 (Sep.m5 (Sep.dc ((Sep.dc ((Sep.dc (hS150))))))))))))⟩
  rintro fr176 h177 ⟨v153,c154,v157,c158,v161,c162,f179,f180,f181,f182,f183,f184,f185,hv155,hv159,hv163,hS178⟩
  unfold qby at hk166
  simp only [q4u,qe,f181,qd,f182,kf,evp,B0,reduceIte,reduceEqDiff]
  refine ju (n:=1) (f:=cB) [v136.2] hS178 rfl rfl (fun v186 c187 h188 hv189 hS190=>?_)
  simp only [qal,B0,reduceIte,reduceEqDiff]
  obtain ⟨l192,hx193,hF194⟩:=qh hk166
  refine xq (f:=cB) hv66 (Sep.m3 hS190) hW (fun _=>rfl) (fun _=>rfl) (SlF.first hv189 hS190 (fun _=>rfl)) hx193 (fun v195 c196 h197 hv198 hS199=>?_)
  simp only [qd,qa,qm,B0,reduceIte,reduceEqDiff]
  have e201:=qg hF194
  exact hN89 _ _ _ e201.symm ⟨v195,c196,v153,c154,v157,c158,v161,c162,f179,f180,rfl,f183,hv198,hv155,hv159,hv163,
    (Sep.m5 (Sep.m5 (Sep.m3 (Sep.m5 (Sep.m5 (Sep.m5 (Sep.dc (Sep.m1 hS199))))))))⟩ (f185) (f184)
 rintro ⟨s204,s209⟩ fr222 h223 rfl ⟨v206,c207,v211,c212,v215,c216,v219,c220,f225,f226,f227,f228,hv208,hv213,hv217,hv221,hS224⟩
 dsimp only [jnO] at hk85
 dsimp only at *
 unfold qb0 at hk85
 simp only [q0m,qf,qe,f226,qn,B0,reduceIte,reduceEqDiff]
 refine qj (v := .agg [.int .i64 s209.Generation,v211,v215,v219]) ((z7 (Sep.bk _ _ _ (Sep.m1 hS224))).trans rfl) ?_
 obtain ⟨v229,hx230,hF231⟩:=qh hk85
 simp only [qw,B0,reduceIte,reduceEqDiff]
 refine xz rfl hS224 (qi (jb (qi qs (qi (SlN.snap hv213 _ (Sep.m3 hS224) rfl Reader.RO) (qi (SlF.snap hv217 (Sep.m4 hS224) rfl (fun _=>rfl)
   (fun _=>rfl)) (qi (SlF.snap hv221 (Sep.m5 hS224) rfl (fun _=>rfl) (fun _=>rfl)) qy))))) qy) (qc7 (fun b hb=>decide_eq_true hb) s209 v229 hx230) ?_
 rintro _ h244 ⟨v232,c233,v236,c237,v240,c241,rfl,hv234,hv238,hv242,hS245⟩
 refine ⟨_,qft (qk rfl (qk (SlN.free1 hv234) (qk (SlF.free1 hv238) (qk (SlF.free1 hv242) zl)))),hS245,
   (z0 (SlN.pf hv234 Reader.RO) (z0 (SlF.pf hv238 (fun _=>rfl)) (z0 (SlF.pf hv242 (fun _=>rfl)) yc))),fun h246 hS247=>?_⟩
 have hS248:Sep h246 (geL h.length) (c233++(c237++(c241++([Blk1 b1 [.int .i64 0,.nil,.nil,.nil] 29]++([Blk1 b25 [.int .i64 s209.Generation,v211,v215,
   v219] 29]++(c207++(c212++(c216++(c220++([])))))))))):=by simpa only [List.append_assoc,List.nil_append] using hS247
 simp only [f227,qd,f225,zn,B0,reduceIte,reduceEqDiff]
 refine zd (us:=[.int .i64 v229.Generation,v232,v236,v240]) rfl (cs':=[.int .i64 v229.Generation,v232,v236,
   v240]) (Sep.m3 hS248) hW rfl (qk rfl (qk (SlN.one hv234) (qk (SlF.one hv238) (qk (SlF.one hv242) zl)))) (Nat.le_of_ble_eq_true rfl) rfl (fun h249 hS250=>?_)
 simp only [qd,qa,qx,B0,reduceIte,reduceEqDiff]
 have he:=qg hF231
 subst he
 refine ka (qi (kg (bb:=b1) (oo:=0) (v := .agg [.int .i64 v229.Generation,v232,v236,
   v240]) (f225) ((z7 (Sep.bk _ _ _ hS250)).trans rfl)) (qi (wz (v:=v206) (rfl)) (qi (wz (v := .bool true) (rfl)) qy))) ?_
 exact ⟨v232,c233,v236,c237,v240,c241,v206,c207,by first | trivial | rfl,hv234,hv238,hv242,hv208,
   (Sep.m3 (Sep.m3 (Sep.m3 (Sep.m3 (Sep.dc (Sep.m4 (Sep.dc (Sep.m4 (Sep.dc (Sep.m4 (Sep.dc (Sep.m3 (Sep.dc (hS250))))))))))))))⟩
theorem qi0 {W:Nat→Bool}{h:Heap}{lo:Nat→Prop}{S0:List Obj} (hW:∀ b,
  lo b→W b=true) (k:Nat) (pb0:Nat) (c_0:L1Cur) (r:(List Int) × L1Cur) (hF:qdf k c_0=some r) (hS:Sep h lo ([Blk1 pb0 [lst cU8 c_0.code,.int .i64 c_0.at_,
  .int .u64 c_0.seed] 80]++(S0))) : Ret E W 49 [.ptr pb0 0] h (fun v h'=>∃ rv0 rc0,v=rv0∧SlF cI 1 3 rv0 r.1 rc0∧Sep h' lo (rc0++([Blk1 pb0 [lst cU8 r.2.code,
  .int .i64 r.2.at_,.int .u64 r.2.seed] 80]++(S0)))):=by
 refine Ret.of (fn:=x49) rfl (Run.of ?_)
 unfold qdf at hF
 have zf0:zb [.ptr pb0 0] 0 = .ptr pb0 0:=rfl
 generalize zb [.ptr pb0 0]=fr0 at zf0 ⊢
 obtain ⟨v1,hx2,hF3⟩:=qh hF
 simp only [x49,qf,qe,qd,qa,qrh,qzu,zf0,qw,B0,reduceIte,reduceEqDiff]
 refine ky rfl (j6 hW pb0 c_0 6 v1 hx2 hS) ?_
 rintro _ h4 ⟨rfl,hS5⟩
 simp only [q9,qb,u0,qd,qa,B0,reduceIte,reduceEqDiff]
 obtain ⟨oc22,hX24,hk25⟩:=jj hF3
 simp only [qwa]
 refine qj7 (σ:=(List Int) × Int × L1Cur) (fun s72=>qbg s72.1 s72.2.1 s72.2.2) (fun s fr' h'=>∃ v15 c16,
   fr' 0 = .ptr pb0 0∧fr' 3=v15∧fr' 4 = .int .i64 s.2.1∧SlF cI 1 3 v15 s.1 c16∧Sep h' lo ([Blk1 pb0 [lst cU8 s.2.2.code,.int .i64 s.2.2.at_,
   .int .u64 s.2.2.seed] 80]++(c16++(S0)))) hX24 ⟨.nil,[],zf0,rfl,rfl,SlF.nil,(hS5:Sep _ lo ([Blk1 pb0 [lst cU8 v1.2.code,.int .i64 v1.2.at_,
   .int .u64 v1.2.seed] 80]++(S0)))⟩ (fun _ _ _ h=>h) ?_ ?_
 ·rintro ⟨s13,s18,s19⟩ fr34 h35 ⟨v15,c16,f37,f38,f39,hv17,hS36⟩ oc23 hF26 hr27 Q28 hN29 hK30 hR31 hE32
  dsimp only at *
  unfold qbg at hF26
  simp only [qzn,qf,qe,f39,qd,q9,qb,qe3,qa,za,B0,reduceIte,reduceEqDiff]
  refine qz (t:=(decide ((0:Int)<s18))) (fun hc41=>?_) (fun hc41=>?_)
  ·rw [iteT hc41] at hF26
   simp only [zh,q0k,qf,qav,qxu,qe,f38,qd,f37,kf,evp,B0,reduceIte,reduceEqDiff]
   refine ju (n:=1) (f:=cI) [0,3,5,100] hS36 rfl rfl (fun v42 c43 h44 hv45 hS46=>?_)
   obtain ⟨v48,hx49,hF50⟩:=qh hF26
   simp only [qw,B0,reduceIte,reduceEqDiff]
   refine ky rfl (qdy hW pb0 s19 v42 c43 [0,3,5,100] hv45 v48 hx49 (Sep.m1 hS46)) ?_
   rintro _ h53 ⟨c51,rfl,hv52,hS54⟩
   simp only [kf,evp,B0,reduceIte,reduceEqDiff]
   refine ju (n:=1) (f:=cI) [v48.1] hS54 rfl rfl (fun v55 c56 h57 hv58 hS59=>?_)
   simp only [qal,B0,reduceIte,reduceEqDiff]
   obtain ⟨l61,hx62,hF63⟩:=qh hF50
   refine xq (f:=cI) hv17 (Sep.m3 hS59) hW (fun _=>rfl) (fun _=>rfl) (SlF.first hv58 hS59 (fun _=>rfl)) hx62 (fun v64 c65 h66 hv67 hS68=>?_)
   simp only [qd,qa,qbx,qe,f39,q9,qb,qdm,qm,B0,reduceIte,reduceEqDiff]
   have e70:=qg hF63
   exact hN29 _ _ _ e70.symm ⟨v64,c65,f37,rfl,rfl,hv67,(Sep.m1 (Sep.dc (Sep.m2 (Sep.dc (Sep.m1 hS68)))))⟩
  rw [iteF hc41] at hF26
  simp only [qgu,qfx,qgr,B0,reduceIte,reduceEqDiff]
  have e71:=qg hF26
  exact hK30 _ _ _ e71.symm ⟨v15,c16,f37,f38,f39,hv17,(Sep.m1 (Sep.m1 hS36))⟩
 rintro ⟨s73,s78,s79⟩ fr80 h81 rfl ⟨v75,c76,f83,f84,f85,hv77,hS82⟩
 dsimp only [jnO] at hk25
 dsimp only at *
 unfold qcb at hk25
 obtain ⟨v86,hx87,hF88⟩:=qh hk25
 simp only [qwb,qf,qe,f83,qd,qw,B0,reduceIte,reduceEqDiff]
 refine ky rfl (qgz hW pb0 s79 30 v86 hx87 hS82) ?_
 rintro _ h89 ⟨rfl,hS90⟩
 simp only [qa,qze,za,B0,reduceIte,reduceEqDiff]
 refine qz (t:=v86.1) (fun hc91=>?_) (fun hc91=>?_)
 ·rw [iteT hc91] at hF88
  simp only [qyp,qe,f84,qd,f83,kf,evp,B0,reduceIte,reduceEqDiff]
  refine ju (n:=1) (f:=cI) [(-1),101] hS90 rfl rfl (fun v92 c93 h94 hv95 hS96=>?_)
  obtain ⟨v98,hx99,hF100⟩:=qh hF88
  simp only [qw,B0,reduceIte,reduceEqDiff]
  refine ky rfl (qdy hW pb0 v86.2 v92 c93 [(-1),101] hv95 v98 hx99 (Sep.m1 hS96)) ?_
  rintro _ h103 ⟨c101,rfl,hv102,hS104⟩
  obtain ⟨x105,hx106,hF107⟩:=qh hF100
  simp only [jo,B0,reduceIte,reduceEqDiff]
  obtain ⟨b108,hb109⟩:=SlF.isrow hv77 (ku hx106)
  refine qj (SlF.ia hv77 hb109 hx106) ?_
  simp only [zn,B0,reduceIte,reduceEqDiff]
  refine qmp (f:=cI) (x':=v98.1) (o:=0) (i:=(0:Int)) (n:=1) hv77 (Sep.m2 hS104) hW hb109 hx106 (fun _=>rfl) rfl rfl (Nat.le_of_ble_eq_true rfl) rfl
    (fun c112 h110 hv113 hS111=>?_)
  have hx114:=wb (x':=v98.1) hx106
  simp only [qa,qf,qe,f84,qd,qx,B0,reduceIte,reduceEqDiff]
  have he:=qg hF107
  subst he
  simp only [zi,B0,reduceIte,reduceEqDiff]
  exact ⟨v75,c112,by first | trivial | rfl,hv113,(Sep.m1 (Sep.m1 (Sep.dc (Sep.m2 hS111))))⟩
 rw [iteF hc91] at hF88
 simp only [zh,qf,qe,f84,qd,qa,qx,B0,reduceIte,reduceEqDiff]
 have he:=qg hF88
 subst he
 simp only [zi,B0,reduceIte,reduceEqDiff]
 exact ⟨v75,c76,by first | trivial | rfl,hv77,(Sep.m1 hS90)⟩
theorem qco {W:Nat→Bool}{h:Heap}{lo:Nat→Prop}{S0:List Obj} (hW:∀ b,
  lo b→W b=true) (k:Nat) (pb0:Nat) (c_0:L1Cur) (r:Readers_ × L1Cur) (hF:xv k c_0=some r) (hS:Sep h lo ([Blk1 pb0 [lst cU8 c_0.code,
  .int .i64 c_0.at_,.int .u64 c_0.seed] 80]++(S0))) : Ret E W 68 [.ptr pb0 0] h (fun v h'=>∃ rv0_1 rc0_1 rv0_2 rc0_2 rv0_3 rc0_3,v = .agg [.int .i64 r.1.Generation,rv0_1,
  rv0_2,rv0_3]∧SlN Reader.R 4 37 rv0_1 r.1.Readers rc0_1∧SlF cI 1 3 rv0_2 r.1.Committed rc0_2∧SlF cI 1 3 rv0_3 r.1.Ends rc0_3∧Sep h' lo (rc0_1++(rc0_2++(rc0_3 ++
  ([Blk1 pb0 [lst cU8 r.2.code,.int .i64 r.2.at_,.int .u64 r.2.seed] 80]++(S0)))))):=by
 refine Ret.of (fn:=x68) rfl (Run.of ?_)
 unfold xv at hF
 have zf0:zb [.ptr pb0 0] 0 = .ptr pb0 0:=rfl
 generalize zb [.ptr pb0 0]=fr0 at zf0 ⊢
 simp only [x68,qf,qe,ja,B0,reduceIte,reduceEqDiff]
 refine zw hS (fun b1 h2 hS3=>?_)
 obtain ⟨v5,hx6,hF7⟩:=qh hF
 simp only [qa,qr4,qf,qe,zf0,qd,qw,B0,reduceIte,reduceEqDiff]
 refine ky rfl (j6 hW pb0 c_0 5 v5 hx6 (Sep.m1 hS3)) ?_
 rintro _ h8 ⟨rfl,hS9⟩
 obtain ⟨v10,hx11,hF12⟩:=qh hF7
 simp only [q9,qb,u0,qd,qa,qq4,qf,qe,zf0,qw,B0,reduceIte,reduceEqDiff]
 refine ky rfl (qi0 hW k pb0 v5.2 v10 hx11 hS9) ?_
 rintro v13 h17 ⟨_,c14,rfl,hv15,hS18⟩
 obtain ⟨v19,hx20,hF21⟩:=qh hF12
 simp only [qd,qa,qrn,qf,qe,zf0,zo,qb,SlF.plen hv15,qw,B0,reduceIte,reduceEqDiff]
 refine ky rfl (qe5 hW k pb0 v10.2 (IntKind.wrap .i64 ((1:Int)+v5.1)) (List.length v10.1:Int) v19 hx20 (Sep.m1 hS18)) ?_
 rintro v22 h26 ⟨_,c23,rfl,hv24,hS27⟩
 simp only [qd,qa,qqh,qf,qe,zo,qb,SlF.plen hv24,q9,qe3,qu8,za,B0,reduceIte,reduceEqDiff]
 obtain ⟨s28,hX34,hk35⟩:=qh hF21
 refine qbs (t:=(decide ((80:Int)<(List.length v19.1:Int)))) (fun fr' h'=>∃ v30 c31,
   fr' 0 = .ptr pb0 0∧fr' 2 = .ptr b1 0∧fr' 3 = .int .i64 (IntKind.wrap .i64
   ((1:Int)+v5.1))∧fr' 4=v13∧fr' 5=v30∧SlF GroupStep.cells 4 64 v30 s28 c31∧Sep h' lo ([Blk1 pb0 [lst cU8 v19.2.code,.int .i64 v19.2.at_,
   .int .u64 v19.2.seed] 80]++([Blk1 b1 [.int .i64 0,.nil,.nil,.nil] 29]++(c14++(c31++(S0)))))) (fun Q36 hN37 hR38 hE39=>⟨fun hc40=>?_,fun hc40=>?_⟩) ?_
 ·rw [iteT hc40] at hX34
  obtain ⟨l41,hx42,hF43⟩:=qh hX34
  simp only [qe,qd,q2h,Option.map_some,Option.map_none,B0,reduceIte,reduceEqDiff]
  obtain ⟨v44,he45,hv46⟩:=SlF.trunc (f1:=GroupStep.cells) hv24 hx42 (fun _=>rfl) hS27
  refine qj he45 ?_
  simp only [qd,qa,qm,B0,reduceIte,reduceEqDiff]
  have e48:=qg hF43
  subst e48
  exact hN37 _ _ ⟨v44,c23,zf0,rfl,rfl,rfl,rfl,hv46,(Sep.m3 (Sep.m3 (Sep.m2 hS27)))⟩
 ·rw [iteF hc40] at hX34
  simp only [zh,qm,B0,reduceIte,reduceEqDiff]
  have e49:=qg hX34
  subst e49
  exact hN37 _ _ ⟨v22,c23,zf0,rfl,rfl,rfl,rfl,hv24,(Sep.m3 (Sep.m3 (Sep.m2 hS27)))⟩
 rintro fr50 h51 ⟨v30,c31,f53,f54,f55,f56,f57,hv32,hS52⟩
 unfold qb2 at hk35
 obtain ⟨v58,hx59,hF60⟩:=qh hk35
 simp only [qpy,qf,qe,f55,qd,f56,f57,qw,B0,reduceIte,reduceEqDiff]
 refine xz rfl hS52 (qi qs (qi (SlF.snap hv15 (Sep.m2 hS52) rfl (fun _=>rfl) (fun _=>rfl)) (qi (SlF.snap hv32 (Sep.m3 hS52) rfl (fun _=>rfl)
   (fun _=>rfl)) qy))) (qh6 (fun b hb=>decide_eq_true hb) k (IntKind.wrap .i64 ((1:Int)+v5.1)) v10.1 s28 v58 hx59) ?_
 rintro _ h77 ⟨v61,c62,v65,c66,v69,c70,v73,c74,rfl,hv63,hv67,hv71,hv75,hS78⟩
 refine ⟨_,qbv (qk (qap (qk rfl (qk (SlN.free1 hv63) (qk (SlF.free1 hv67) (qk (SlF.free1 hv71) zl))))) (qk (qnq (SlF.free1 hv75))
   (qk rfl zl))),hS78,(z0 (SlN.pf hv63 Reader.RO) (z0 (SlF.pf hv67 (fun _=>rfl)) (z0 (SlF.pf hv71 (fun _=>rfl)) (z0 (SlF.pf hv75
   (fun _=>rfl)) yc)))),fun h79 hS80=>?_⟩
 have hS81:Sep h79 lo (c62++(c66++(c70++(c74++([Blk1 pb0 [lst cU8 v19.2.code,.int .i64 v19.2.at_,.int .u64 v19.2.seed] 80]++([Blk1 b1 [.int .i64 0,.nil,.nil,
   .nil] 29]++(c14++(c31++(S0))))))))):=by simpa only [List.append_assoc,List.nil_append] using hS80
 simp only [qd,yl,qb,yv,yq,q3r,ja,B0,reduceIte,reduceEqDiff]
 refine zw hS81 (fun b82 h83 hS84=>?_)
 simp only [zn,B0,reduceIte,reduceEqDiff]
 refine zd (us:=[.int .i64 v58.1.Generation,v61,v65,v69]) rfl (cs':=[.int .i64 v58.1.Generation,v61,v65,
   v69]) hS84 hW rfl (qk rfl (qk (SlN.one hv63) (qk (SlF.one hv67) (qk (SlF.one hv71) zl)))) (Nat.le_of_ble_eq_true rfl) rfl (fun h86 hS87=>?_)
 simp only [qd,qa,qp9,qf,qe,jf,qb,jt,qul,za,B0,reduceIte,reduceEqDiff]
 obtain ⟨s88,hX102,hk103⟩:=qh hF60
 refine qbs (t:=(!v58.2.2)) (fun fr' h'=>∃ v90 c91 v94 c95 v98 c99,
   fr' 0 = .ptr pb0 0∧fr' 2 = .ptr b1 0∧fr' 6 = .ptr b82 0∧SlN Reader.R 4 37 v90 s88.Readers c91∧SlF cI 1 3 v94 s88.Committed c95∧SlF cI 1 3 v98 s88.Ends c99∧Sep h' lo
   ([Blk1 pb0 [lst cU8 v19.2.code,.int .i64 v19.2.at_,.int .u64 v19.2.seed] 80]++([Blk1 b1 [.int .i64 0,.nil,.nil,.nil] 29]++([Blk1 b82 [.int .i64 s88.Generation,v90,
   v94,v98] 29]++(c91++(c95++(c99++(S0)))))))) (fun Q104 hN105 hR106 hE107=>⟨fun hc108=>?_,fun hc108=>?_⟩) ?_
 ·rw [iteT hc108] at hX102
  simp only [qvg,qe,kf,evp,B0,reduceIte,reduceEqDiff]
  refine ju (n:=1) (f:=cI) [3] hS87 rfl rfl (fun v109 c110 h111 hv112 hS113=>?_)
  obtain ⟨v115,hx116,hF117⟩:=qh hX102
  simp only [qw,B0,reduceIte,reduceEqDiff]
  refine xz rfl hS113 (qi qs (qi (SlF.snap hv112 hS113 rfl (fun _=>rfl) (fun _=>rfl)) qy)) (qcz
    (fun b hb=>decide_eq_true hb) k 1 [3] v115 hx116) ?_
  rintro _ h130 ⟨v118,c119,v122,c123,v126,c127,rfl,hv120,hv124,hv128,hS131⟩
  refine ⟨_,qbv (qk (qap (qk rfl (qk (SlN.free1 hv120) (qk (SlF.free1 hv124) (qk (SlF.free1 hv128) zl))))) (qk rfl zl)),hS131,
    (z0 (SlN.pf hv120 Reader.RO) (z0 (SlF.pf hv124 (fun _=>rfl)) (z0 (SlF.pf hv128 (fun _=>rfl)) yc))),fun h132 hS133=>?_⟩
  have hS134:Sep h132 lo (c119++(c123++(c127++(c110++([Blk1 b82 [.int .i64 v58.1.Generation,v61,v65,
    v69] 29]++(c62++(c66++(c70++(c74++([Blk1 pb0 [lst cU8 v19.2.code,.int .i64 v19.2.at_,.int .u64 v19.2.seed] 80]++([Blk1 b1 [.int .i64 0,.nil,.nil,
    .nil] 29]++(c14++(c31++(S0)))))))))))))):=by simpa only [List.append_assoc,List.nil_append] using hS133
  simp only [qd,yl,qb,yv,yq,zn,B0,reduceIte,reduceEqDiff]
  refine zd (us:=[.int .i64 v115.1.Generation,v118,v122,v126]) rfl (cs':=[.int .i64 v115.1.Generation,v118,v122,
    v126]) (Sep.m4 hS134) hW rfl (qk rfl (qk (SlN.one hv120) (qk (SlF.one hv124) (qk (SlF.one hv128) zl)))) (Nat.le_of_ble_eq_true rfl) rfl
    (fun h135 hS136=>?_)
  simp only [qa,qm,B0,reduceIte,reduceEqDiff]
  have e137:=qg hF117
  subst e137
  exact hN105 _ _ ⟨v118,c119,v122,c123,v126,c127,f53,f54,rfl,hv120,hv124,hv128,
    (Sep.m5 (Sep.m5 (Sep.m3 (Sep.m3 (Sep.m3 (Sep.m3 (Sep.dc (Sep.m6 (Sep.dc (Sep.m6 (Sep.dc (Sep.m4 (Sep.dc (Sep.m4 (Sep.dc (Sep.m4 (Sep.dc (Sep.m4 (Sep.dc
    (Sep.m4 hS136))))))))))))))))))))⟩
 ·rw [iteF hc108] at hX102
  simp only [zh,qm,B0,reduceIte,reduceEqDiff]
  have e138:=qg hX102
  subst e138
  exact hN105 _ _ ⟨v61,c62,v65,c66,v69,c70,f53,f54,rfl,hv63,hv67,hv71,
    (Sep.m5 (Sep.m5 (Sep.m3 (Sep.m3 (Sep.m3 (Sep.m3 (Sep.dc (Sep.m6 (Sep.dc (Sep.m6 (Sep.dc (Sep.m4 hS87))))))))))))⟩
 rintro fr139 h140 ⟨v90,c91,v94,c95,v98,c99,f142,f143,f144,hv92,hv96,hv100,hS141⟩
 unfold qb1 at hk103
 obtain ⟨v145,hx146,hF147⟩:=qh hk103
 simp only [qsh,qf,qe,f142,qd,qw,B0,reduceIte,reduceEqDiff]
 refine ky rfl (j6 hW pb0 v19.2 30 v145 hx146 hS141) ?_
 rintro _ h148 ⟨rfl,hS149⟩
 simp only [qa,qrx,qav,qrv,qf,qe,q9,qb,yx,qd,qpm,za,B0,reduceIte,reduceEqDiff]
 refine qz (t:=(decide (v145.1=0))) (fun hc150=>?_) (fun hc150=>?_)
 ·rw [iteT hc150] at hF147
  simp only [qz9,qe,f142,qd,kf,evp,B0,reduceIte,reduceEqDiff]
  refine ju (n:=1) (f:=cI) [(-1),1000,1001] hS149 rfl rfl (fun v151 c152 h153 hv154 hS155=>?_)
  obtain ⟨v157,hx158,hF159⟩:=qh hF147
  simp only [qw,B0,reduceIte,reduceEqDiff]
  refine ky rfl (qdy hW pb0 v145.2 v151 c152 [(-1),1000,1001] hv154 v157 hx158 (Sep.m1 hS155)) ?_
  rintro _ h162 ⟨c160,rfl,hv161,hS163⟩
  simp only [f144,qt,qb,Nat.reduceAdd,Nat.zero_add,Nat.add_zero,zg,zn,B0,reduceIte,reduceEqDiff]
  refine zd (us:=[.int .i64 v157.1]) rfl (cs':=[.int .i64 v157.1,v90,v94,v98]) (Sep.m3 hS163) hW rfl rfl (Nat.le_of_ble_eq_true rfl) rfl (fun h164 hS165=>?_)
  simp only [qa,qbx,qf,qe,f144,qn,B0,reduceIte,reduceEqDiff]
  refine qj (v := .agg [.int .i64 v157.1,v90,v94,v98]) ((z7 (Sep.bk _ _ _ hS165)).trans rfl) ?_
  simp only [f143,zn,B0,reduceIte,reduceEqDiff]
  refine zd (us:=[.int .i64 v157.1,v90,v94,v98]) rfl (cs':=[.int .i64 v157.1,v90,v94,
    v98]) (Sep.m3 hS165) hW rfl (qk rfl (qk (SlN.one hv92) (qk (SlF.one hv96) (qk (SlF.one hv100) zl)))) (Nat.le_of_ble_eq_true rfl) rfl (fun h166 hS167=>?_)
  simp only [qa,qx,B0,reduceIte,reduceEqDiff]
  have he:=qg hF159
  subst he
  refine xm (bb:=b1) (oo:=0) (v := .agg [.int .i64 v157.1,v90,v94,v98]) (by simp only [f143,B0,reduceIte,
    reduceEqDiff]) ((z7 (Sep.bk _ _ _ hS167)).trans rfl) ?_
  exact ⟨v90,c91,v94,c95,v98,c99,by first | trivial | rfl,hv92,hv96,hv100,(Sep.m3 (Sep.m3 (Sep.m3 (Sep.dc (Sep.m1 (Sep.dc ((Sep.dc (hS167)))))))))⟩
 rw [iteF hc150] at hF147
 simp only [qqo,qf,qe,q9,qb,yx,qd,qa,qys,za,B0,reduceIte,reduceEqDiff]
 refine qz (t:=(decide (v145.1=1))) (fun hc168=>?_) (fun hc168=>?_)
 ·rw [iteT hc168] at hF147
  simp only [qy5,jc,f144,qg0,ql,Nat.reduceAdd,Nat.zero_add,Nat.add_zero,zg,qcu,B0,reduceIte,reduceEqDiff]
  refine qnk (Sep.ltk (Sep.m2 hS149)) ?_
  refine qp (v:=v94) ((z9 (Sep.bk _ _ _ (Sep.m2 hS149))).trans rfl) ?_
  obtain ⟨v169,hx170,hF171⟩:=qh hF147
  simp only [f142,z8,ql,ut,B0,reduceIte,reduceEqDiff]
  refine qmb rfl (ms:=[pb0]) rfl (qva (Sep.bne (Sep.m1 (Sep.m2 hS149))) qla) hW hS149 rfl (Nat.le_refl _) (fun b hb=>((Sep.dc hS149).ran b hb).2)
    (fun hWq hSq=>j6 hWq pb0 v145.2 200 v169 hx170 hSq) ?_
  rintro _ h172 ⟨rfl,hS173⟩ hback
  replace hS173:=hback _ hS173
  obtain ⟨x174,hx175,hF176⟩:=qh hF171
  simp only [yj,B0,reduceIte,reduceEqDiff]
  obtain ⟨b177,hb178⟩:=SlF.isrow hv96 (ku hx175)
  refine qp (SlF.ia hv96 hb178 hx175) ?_
  simp only [xb,B0,reduceIte,reduceEqDiff]
  refine qbk (f:=cI) (x':=v169.1) (o:=0) (i:=(0:Int)) (n:=1) hv96 (Sep.m4 hS173) hW hb178 hx175 (fun _=>rfl) rfl rfl (Nat.le_of_ble_eq_true rfl) rfl
    (fun c181 h179 hv182 hS180=>?_)
  have hx183:=wb (x':=v169.1) hx175
  simp only [zc,qbx,qf,qe,f144,qn,B0,reduceIte,reduceEqDiff]
  refine qj (v := .agg [.int .i64 s88.Generation,v90,v94,v98]) ((z7 (Sep.bk _ _ _ (Sep.m3 hS180))).trans rfl) ?_
  simp only [f143,zn,B0,reduceIte,reduceEqDiff]
  refine zd (us:=[.int .i64 s88.Generation,v90,v94,v98]) rfl (cs':=[.int .i64 s88.Generation,v90,v94,
    v98]) (Sep.m2 hS180) hW rfl (qk rfl (qk (SlN.one hv92) (qk (SlF.one hv182) (qk (SlF.one hv100) zl)))) (Nat.le_of_ble_eq_true rfl) rfl (fun h184 hS185=>?_)
  simp only [qa,qx,B0,reduceIte,reduceEqDiff]
  have he:=qg hF176
  subst he
  refine xm (bb:=b1) (oo:=0) (v := .agg [.int .i64 s88.Generation,v90,v94,v98]) (by simp only [f143,B0,reduceIte,
    reduceEqDiff]) ((z7 (Sep.bk _ _ _ hS185)).trans rfl) ?_
  exact ⟨v90,c91,v94,c181,v98,c99,by first | trivial | rfl,hv92,hv182,hv100,(Sep.m3 (Sep.m2 (Sep.m3 (Sep.m1 (Sep.dc (Sep.m2 (Sep.dc (hS185))))))))⟩
 rw [iteF hc168] at hF147
 simp only [qyf,qf,qe,q9,qb,yx,qd,qa,qv8,za,B0,reduceIte,reduceEqDiff]
 refine qz (t:=(decide (v145.1=2))) (fun hc186=>?_) (fun hc186=>?_)
 ·rw [iteT hc186] at hF147
  simp only [q0b,qe,f144,qt,qb,Nat.reduceAdd,Nat.zero_add,Nat.add_zero,zg,qn,B0,reduceIte,reduceEqDiff]
  refine qj (v:=v90) ((z9 (Sep.bk _ _ _ (Sep.m2 hS149))).trans rfl) ?_
  simp only [kf,evp,B0,reduceIte,reduceEqDiff]
  refine ju (n:=1) (f:=cI) [0] hS149 rfl rfl (fun v187 c188 h189 hv190 hS191=>?_)
  obtain ⟨x193,hx194,hF195⟩:=qh hF147
  simp only [jo,B0,reduceIte,reduceEqDiff]
  obtain ⟨b196,hb197⟩:=SlN.isrow hv92 (ku hx194)
  refine qj (SlN.ia hv92 hb197 hx194) ?_
  obtain ⟨c200,cs201,os202,hv203,hR204,hS205⟩:=SlG.opn (SlN.toG hv92 hb197 Reader.RO.len) hx194 kv Reader.RO.len (Sep.m4 hS191)
  obtain ⟨v207,c208,v211,c212,hv209,hv213,rfl,rfl⟩:=hR204
  have hS206:=Sep.no2 hS205
  simp only [qt,qb,Nat.reduceAdd,Nat.zero_add,Nat.add_zero,zg,zn,B0,reduceIte,reduceEqDiff]
  refine qf9 (us:=[v187]) (o:=2) (cs':=[.bool x193.In,.int .i64 x193.Generation,v187,
    v211]) (jr (SlF.one hv190)) hv203 rfl hx194 hS206 hW rfl (qk (SlF.one hv190) zl) (Nat.le_of_ble_eq_true rfl) rfl (fun c215 h198 hv216 hS199=>?_)
  simp only [qa,qbx,qf,qe,f144,qn,B0,reduceIte,reduceEqDiff]
  refine qj (v := .agg [.int .i64 s88.Generation,v90,v94,v98]) ((z7 (Sep.bk _ _ _ (Sep.m6 hS199))).trans rfl) ?_
  simp only [f143,zn,B0,reduceIte,reduceEqDiff]
  refine zd (us:=[.int .i64 s88.Generation,v90,v94,v98]) rfl (cs':=[.int .i64 s88.Generation,v90,v94,
    v98]) (Sep.m5 hS199) hW rfl (qk rfl (qk (SlG.one hv216) (qk (SlF.one hv96) (qk (SlF.one hv100) zl)))) (Nat.le_of_ble_eq_true rfl) rfl (fun h217 hS218=>?_)
  simp only [qa,qx,B0,reduceIte,reduceEqDiff]
  obtain ⟨c219,hv220,hS221⟩:=SlG.cls (e':=(Reader.mk x193.In x193.Generation [0] x193.Read)) (c:=c215) (os:=c188++(c212)) hv216 rfl hx194 kv (Reader.RI (x :=
    (Reader.mk x193.In x193.Generation [0] x193.Read)) hv190 hv213) (Sep.ni2 (c1:=c188) (c2:=c212) (Sep.m3 (Sep.m4 (Sep.m3 hS218))))
  have hx222:=wb (x':=(Reader.mk x193.In x193.Generation [0] x193.Read)) hx194
  have hv223:=SlG.toN hv220
  have he:=qg hF195
  subst he
  refine xm (bb:=b1) (oo:=0) (v := .agg [.int .i64 s88.Generation,v90,v94,v98]) (by simp only [f143,B0,reduceIte,
    reduceEqDiff]) ((z7 (Sep.bk _ _ _ (Sep.m1 hS221))).trans rfl) ?_
  exact ⟨v90,c219,v94,c95,v98,c99,by first | trivial | rfl,hv223,hv96,hv100,
    (Sep.m3 (Sep.m3 (Sep.m3 (Sep.m1 (Sep.dc (Sep.m2 (Sep.dc (Sep.m1 (Sep.dc (Sep.m1 hS221))))))))))⟩
 rw [iteF hc186] at hF147
 simp only [zh,qbx,qf,qe,f144,qn,B0,reduceIte,reduceEqDiff]
 refine qj (v := .agg [.int .i64 s88.Generation,v90,v94,v98]) ((z7 (Sep.bk _ _ _ (Sep.m2 hS149))).trans rfl) ?_
 simp only [f143,zn,B0,reduceIte,reduceEqDiff]
 refine zd (us:=[.int .i64 s88.Generation,v90,v94,v98]) rfl (cs':=[.int .i64 s88.Generation,v90,v94,
   v98]) (Sep.m1 hS149) hW rfl (qk rfl (qk (SlN.one hv92) (qk (SlF.one hv96) (qk (SlF.one hv100) zl)))) (Nat.le_of_ble_eq_true rfl) rfl (fun h224 hS225=>?_)
 simp only [qa,qx,B0,reduceIte,reduceEqDiff]
 have he:=qg hF147
 subst he
 refine xm (bb:=b1) (oo:=0) (v := .agg [.int .i64 s88.Generation,v90,v94,v98]) (by simp only [f143,B0,reduceIte,
   reduceEqDiff]) ((z7 (Sep.bk _ _ _ hS225)).trans rfl) ?_
 exact ⟨v90,c91,v94,c95,v98,c99,by first | trivial | rfl,hv92,hv96,hv100,(Sep.m3 (Sep.m3 (Sep.m3 (Sep.dc (Sep.m1 (Sep.dc (hS225)))))))⟩
theorem qgc {W:Nat→Bool}{h:Heap} (hW:∀ b,
  (geL h.length) b→W b=true) (k:Nat) (code_0:List Int) (r:Readers_ × GroupStep) (hF:wo k code_0=some r) : Ret E W 35 [lst cU8 code_0] h
  (fun v h'=>∃ rv0_1 rc0_1 rv0_2 rc0_2 rv0_3 rc0_3,v = .tup [.agg [.int .i64 r.1.Generation,rv0_1,rv0_2,rv0_3],.agg [.int .i64 r.2.Kind,.int .i64 r.2.K,
  .int .i64 r.2.Part,.int .i64 r.2.N]]∧SlN Reader.R 4 37 rv0_1 r.1.Readers rc0_1∧SlF cI 1 3 rv0_2 r.1.Committed rc0_2∧SlF cI 1 3 rv0_3 r.1.Ends rc0_3∧Sep h'
  (geL h.length) (rc0_1++(rc0_2++(rc0_3++([]))))):=by
 refine Ret.of (fn:=x35) rfl (Run.of ?_)
 unfold wo at hF
 have zf0:zb [lst cU8 code_0] 0=lst cU8 code_0:=rfl
 generalize zb [lst cU8 code_0]=fr0 at zf0 ⊢
 have hS:Sep h (geL h.length) []:=Sep.nil h
 simp only [x35,qf,qe,ja,B0,reduceIte,reduceEqDiff]
 refine zw hS (fun b1 h2 hS3=>?_)
 simp only [ja,B0,reduceIte,reduceEqDiff]
 refine zw hS3 (fun b5 h6 hS7=>?_)
 simp only [qa,qxo,qf,qe,zf0,qd,run_build,evp,B0,reduceIte,reduceEqDiff]
 refine qj (v := .agg [lst cU8 code_0,.int .i64 0,.int .u64 0]) rfl ?_
 simp only [jy,B0,reduceIte,reduceEqDiff]
 refine jk (cs:=[lst cU8 code_0,.int .i64 0,.int .u64 0]) hS7 rfl rfl rfl (fun b9 h10 hS11=>?_)
 obtain ⟨v13,hx14,hF15⟩:=qh hF
 simp only [qd,qa,qu6,qf,qe,qw,B0,reduceIte,reduceEqDiff]
 refine ky rfl (qco hW k b9 (L1Cur.mk code_0 0 0) v13 hx14 hS11) ?_
 rintro _ h28 ⟨v16,c17,v20,c21,v24,c25,rfl,hv18,hv22,hv26,hS29⟩
 simp only [ja,B0,reduceIte,reduceEqDiff]
 refine zw hS29 (fun b30 h31 hS32=>?_)
 simp only [zn,B0,reduceIte,reduceEqDiff]
 refine zd (us:=[.int .i64 v13.1.Generation,v16,v20,v24]) rfl (cs':=[.int .i64 v13.1.Generation,v16,v20,
   v24]) hS32 hW rfl (qk rfl (qk (SlN.one hv18) (qk (SlF.one hv22) (qk (SlF.one hv26) zl)))) (Nat.le_of_ble_eq_true rfl) rfl (fun h34 hS35=>?_)
 simp only [qa,B0,reduceIte,reduceEqDiff]
 refine zu hS35 hW (by simp only [B0,reduceIte,reduceEqDiff]) (fun h36 hS37=>?_)
 simp only [zp,qxt,qf,qe,qd,qt,qb,Nat.reduceAdd,Nat.zero_add,Nat.add_zero,qq,qn,B0,reduceIte,reduceEqDiff]
 refine qj (v:=v16) rfl ?_
 simp only [zo,qb,SlN.len hv18,qt,Nat.reduceAdd,Nat.zero_add,Nat.add_zero,qq,qn,B0,reduceIte,reduceEqDiff]
 refine qj (v:=v24) rfl ?_
 obtain ⟨v38,hx39,hF40⟩:=qh hF15
 simp only [zo,qb,SlF.plen hv26,qw,B0,reduceIte,reduceEqDiff]
 refine ky rfl (qe5 hW k b9 v13.2 (List.length v13.1.Readers:Int) (List.length v13.1.Ends:Int) v38 hx39 (Sep.m3 hS37)) ?_
 rintro v41 h45 ⟨_,c42,rfl,hv43,hS46⟩
 simp only [qd,qa,qv1,qf,qe,zo,qb,SlF.plen hv43,q9,yx,q1a,za,B0,reduceIte,reduceEqDiff]
 refine qz (t:=(decide ((List.length v38.1:Int)=0))) (fun hc47=>?_) (fun hc47=>?_)
 ·rw [iteT hc47] at hF40
  simp only [q16,qf,qe,qn,B0,reduceIte,reduceEqDiff]
  refine qj (v := .agg [.int .i64 v13.1.Generation,v16,v20,v24]) rfl ?_
  simp only [run_build,evp,B0,reduceIte,reduceEqDiff]
  refine qj (v := .agg [.int .i64 1,.int .i64 0,.int .i64 0,.int .i64 0]) rfl ?_
  simp only [zn,B0,reduceIte,reduceEqDiff]
  refine zd (us:=[.int .i64 v13.1.Generation,v16,v20,v24]) rfl (cs':=[.int .i64 v13.1.Generation,v16,v20,
    v24]) (Sep.m6 hS46) hW rfl (qk rfl (qk (SlN.one hv18) (qk (SlF.one hv22) (qk (SlF.one hv26) zl)))) (Nat.le_of_ble_eq_true rfl) rfl (fun h48 hS49=>?_)
  simp only [zn,B0,reduceIte,reduceEqDiff]
  refine zd (us:=[.int .i64 1,.int .i64 0,.int .i64 0,.int .i64 0]) rfl (cs':=[.int .i64 1,.int .i64 0,.int .i64 0,
    .int .i64 0]) (Sep.m6 hS49) hW rfl rfl (Nat.le_of_ble_eq_true rfl) rfl (fun h50 hS51=>?_)
  simp only [qa,qx,B0,reduceIte,reduceEqDiff]
  have he:=qg hF40
  subst he
  refine ka (qi (kg (bb:=b1) (oo:=0) (v := .agg [.int .i64 v13.1.Generation,v16,v20,
    v24]) (rfl) ((z7 (Sep.bk _ _ _ (Sep.m1 hS51))).trans rfl)) (qi (kg (bb:=b5) (oo:=0) (v := .agg [.int .i64 1,.int .i64 0,.int .i64 0,
    .int .i64 0]) (rfl) ((z7 (Sep.bk _ _ _ hS51)).trans rfl)) qy)) ?_
  exact ⟨v16,c17,v20,c21,v24,c25,by first | trivial | rfl,hv18,hv22,hv26,(Sep.m2 (Sep.m2 (Sep.m2 (Sep.dc ((Sep.dc ((Sep.dc ((Sep.dc (hS51)))))))))))⟩
 rw [iteF hc47] at hF40
 simp only [zh,qx7,qf,jc,zm,B0,reduceIte,reduceEqDiff]
 refine qp (v := .agg [.int .i64 v13.1.Generation,v16,v20,v24]) rfl ?_
 obtain ⟨x52,hx53,hF54⟩:=qh hF40
 simp only [qk5,ql,q5k,B0,reduceIte,reduceEqDiff]
 obtain ⟨b55,hb56⟩:=SlF.isrow hv43 (ku hx53)
 refine qp (SlF.ia hv43 hb56 hx53) ?_
 simp only [qcu,B0,reduceIte,reduceEqDiff]
 refine qnk (SlF.ltk hv43 hb56 hS46) ?_
 refine qp (v := .agg [.int .i64 x52.Kind,.int .i64 x52.K,.int .i64 x52.Part,
   .int .i64 x52.N]) ((SlF.lds (o:=0) hv43 hS46 hb56 hx53 (fun _=>rfl) (Nat.le_of_ble_eq_true rfl)).trans rfl) ?_
 simp only [q5j,B0,reduceIte,reduceEqDiff]
 refine q63 (qva (Sep.dj (Sep.m6 hS46) (SlF.bfp hv43 hb56) q5g) qla) ?_
 refine y7 (us:=[.int .i64 v13.1.Generation,v16,v20,v24]) rfl (cs':=[.int .i64 v13.1.Generation,v16,v20,
   v24]) (Sep.m6 hS46) hW rfl (qk rfl (qk (SlN.one hv18) (qk (SlF.one hv22) (qk (SlF.one hv26) zl)))) (Nat.le_of_ble_eq_true rfl) rfl (fun h57 hS58=>?_)
 simp only [xb,B0,reduceIte,reduceEqDiff]
 refine y7 (us:=[.int .i64 x52.Kind,.int .i64 x52.K,.int .i64 x52.Part,.int .i64 x52.N]) rfl (cs':=[.int .i64 x52.Kind,.int .i64 x52.K,.int .i64 x52.Part,
   .int .i64 x52.N]) (Sep.m6 hS58) hW rfl rfl (Nat.le_of_ble_eq_true rfl) rfl (fun h59 hS60=>?_)
 simp only [zc,qx,B0,reduceIte,reduceEqDiff]
 have he:=qg hF54
 subst he
 refine ka (qi (kg (bb:=b1) (oo:=0) (v := .agg [.int .i64 v13.1.Generation,v16,v20,
   v24]) (rfl) ((z7 (Sep.bk _ _ _ (Sep.m1 hS60))).trans rfl)) (qi (kg (bb:=b5) (oo:=0) (v := .agg [.int .i64 x52.Kind,.int .i64 x52.K,.int .i64 x52.Part,
   .int .i64 x52.N]) (rfl) ((z7 (Sep.bk _ _ _ hS60)).trans rfl)) qy)) ?_
 exact ⟨v16,c17,v20,c21,v24,c25,by first | trivial | rfl,hv18,hv22,hv26,(Sep.m2 (Sep.m2 (Sep.m2 (Sep.dc ((Sep.dc ((Sep.dc ((Sep.dc (hS60)))))))))))⟩
theorem qgq {W:Nat→Bool}{h:Heap} (hW:∀ b,
  (geL h.length) b→W b=true) (r_0:Readers_) (k_1:Int) (r:(List Int) × Bool) (hF:xl r_0 k_1=some r) : Ret E W 38 [.agg [.int .i64 r_0.Generation,
  lst Reader.cells r_0.Readers,lst cI r_0.Committed,lst cI r_0.Ends],.int .i64 k_1] h (fun v h'=>cut h.length h' E.sz false 9 v=some (.tup [lst cI r.1,.bool r.2])):=by
 refine Ret.of (fn:=x38) rfl (Run.of ?_)
 unfold xl at hF
 have zf0:zb [.agg [.int .i64 r_0.Generation,lst Reader.cells r_0.Readers,lst cI r_0.Committed,lst cI r_0.Ends],.int .i64 k_1] 0 = .agg [.int .i64 r_0.Generation,
   lst Reader.cells r_0.Readers,lst cI r_0.Committed,lst cI r_0.Ends]:=rfl
 have zf1:zb [.agg [.int .i64 r_0.Generation,lst Reader.cells r_0.Readers,lst cI r_0.Committed,lst cI r_0.Ends],.int .i64 k_1] 1 = .int .i64 k_1:=rfl
 generalize zb [.agg [.int .i64 r_0.Generation,lst Reader.cells r_0.Readers,lst cI r_0.Committed,lst cI r_0.Ends],.int .i64 k_1]=fr0 at zf0 zf1 ⊢
 have hS:Sep h (geL h.length) []:=Sep.nil h
 simp only [x38,qf,qe,jy,zf0,B0,reduceIte,reduceEqDiff]
 refine jk (cs:=[.int .i64 r_0.Generation,lst Reader.cells r_0.Readers,lst cI r_0.Committed,lst cI r_0.Ends]) hS rfl rfl rfl (fun b1 h2 hS3=>?_)
 simp only [qd,qa,B0,reduceIte,reduceEqDiff]
 refine zu hS3 hW (by simp only [B0,reduceIte,reduceEqDiff]) (fun h5 hS6=>?_)
 simp only [zp,qwm,qf,qe,qn,B0,reduceIte,reduceEqDiff]
 refine qj (v := .agg [.int .i64 r_0.Generation,lst Reader.cells r_0.Readers,lst cI r_0.Committed,lst cI r_0.Ends]) rfl ?_
 obtain ⟨v7,hx8,hF9⟩:=qh hF
 simp only [qw,B0,reduceIte,reduceEqDiff]
 refine je rfl (qi (jb (qi qs (qi ze (qi ze (qi ze qy))))) qy) (uk
   (fun b hb=>decide_eq_true hb) r_0 v7 hx8) ?_
 simp only [jf,qb,jt,qd,B0,reduceIte,reduceEqDiff]
 refine z4 8 (fun fr' h'=>Sep h' (geL h.length) ([])∧fr' 17 = .bool ((!v7)||(!(zq k_1 0 (IntKind.wrap .i64
   ((List.length r_0.Readers:Int) - 1)))))∧fr' 1 = .int .i64 k_1∧fr' 2 = .ref [.int .i64 r_0.Generation,lst Reader.cells r_0.Readers,lst cI r_0.Committed,
   lst cI r_0.Ends] 0) (fun Q10 hN11=>?_) ?_
 ·simp only [List.take_succ_cons,List.take_zero]
  simp only [qc (g:=9),B0,reduceIte,reduceEqDiff]
  refine q8 (t:=(!v7)) (fun hg12=>?_) (fun hg12=>?_)
  ·simp only [hg12,qc (g:=9),zy,qr,qb,zk,qa,qm,B0,reduceIte,reduceEqDiff]
   exact hN11 _ _ ⟨hS6,by rw [orT hg12]; simp only [B0,reduceIte,reduceEqDiff],zf1,rfl⟩
  ·simp only [hg12,qc (g:=9),qo,zf1,qd,qt,qb,Nat.reduceAdd,Nat.zero_add,Nat.add_zero,qq,qn,B0,reduceIte,reduceEqDiff]
   refine qj (v:=lst Reader.cells r_0.Readers) rfl ?_
   simp only [hg12,qc (g:=9),qo,zo,qb,zr,q9,qdm,qw,B0,reduceIte,reduceEqDiff]
   refine je rfl (qi qs (qi qs (qi qs qy))) (uv (fun b hb=>decide_eq_true hb) k_1 0 (IntKind.wrap .i64
     ((List.length r_0.Readers:Int) - 1)) _ rfl) ?_
   simp only [hg12,qc (g:=9),qo,jf,qb,jt,qr,zj,qa,qm,B0,reduceIte,reduceEqDiff]
   exact hN11 _ _ ⟨hS6,by rw [orF hg12]; simp only [B0,reduceIte,reduceEqDiff],zf1,rfl⟩
 rintro fr13 h17 ⟨hS18,f14,f15,f16⟩
 simp only [List.drop_succ_cons,List.drop_zero]
 simp only [f14,qd,B0,reduceIte,reduceEqDiff]
 obtain ⟨v22,hx23,hF24⟩:=qh hF9
 refine z4 8 (fun fr' h'=>Sep h' (geL h.length) ([])∧fr' 26 = .bool v22∧fr' 1 = .int .i64 k_1∧fr' 2 = .ref [.int .i64 r_0.Generation,lst Reader.cells r_0.Readers,
   lst cI r_0.Committed,lst cI r_0.Ends] 0) (fun Q19 hN20=>?_) ?_
 ·simp only [List.take_succ_cons,List.take_zero]
  simp only [qc (g:=18),B0,reduceIte,reduceEqDiff]
  refine q8 (t:=((!v7)||(!(zq k_1 0 (IntKind.wrap .i64 ((List.length r_0.Readers:Int) - 1)))))) (fun hg21=>?_) (fun hg21=>?_)
  ·rw [iteT hg21] at hx23
   simp only [hg21,qc (g:=18),zy,qr,qb,zk,qa,qm,B0,reduceIte,reduceEqDiff]
   have e25:=qg hx23
   exact hN20 _ _ ⟨hS18,by rw [←e25]; simp only [B0,reduceIte,reduceEqDiff],f15,f16⟩
  ·rw [iteF hg21] at hx23
   simp only [hg21,qc (g:=18),qo,f16,qt,qb,Nat.reduceAdd,Nat.zero_add,Nat.add_zero,qq,qn,B0,reduceIte,reduceEqDiff]
   refine qj (v:=lst Reader.cells r_0.Readers) rfl ?_
   obtain ⟨x26,hx27,hF28⟩:=qh hx23
   simp only [hg21,qc (g:=18),qo,f15,qd,jo,B0,reduceIte,reduceEqDiff]
   refine qj (v := .ref (Reader.cells x26) 0) (wu hx27 rfl) ?_
   simp only [hg21,qc (g:=18),qo,qt,qb,Nat.reduceAdd,Nat.zero_add,Nat.add_zero,qq,qn,B0,reduceIte,reduceEqDiff]
   refine qj (v := .bool x26.In) rfl ?_
   simp only [hg21,qc (g:=18),qo,jf,qb,jt,qr,zj,qa,qm,B0,reduceIte,reduceEqDiff]
   have e29:=qg hF28
   exact hN20 _ _ ⟨hS18,by rw [←e29]; simp only [B0,reduceIte,reduceEqDiff],f15,f16⟩
 rintro fr30 h34 ⟨hS35,f31,f32,f33⟩
 simp only [List.drop_succ_cons,List.drop_zero]
 simp only [qa,qzi,f31,za,B0,reduceIte,reduceEqDiff]
 refine qz (t:=v22) (fun hc36=>?_) (fun hc36=>?_)
 ·rw [iteT hc36] at hF24
  simp only [qf,qe,qd,qa,qx,B0,reduceIte,reduceEqDiff]
  have he:=qg hF24
  subst he
  simp only [wc,B0,reduceIte,reduceEqDiff]
  exact w9 (qi rfl (qi rfl qy))
 rw [iteF hc36] at hF24
 simp only [zh,qu3,qf,qe,f33,qn,B0,reduceIte,reduceEqDiff]
 refine qj (v := .agg [.int .i64 r_0.Generation,lst Reader.cells r_0.Readers,lst cI r_0.Committed,lst cI r_0.Ends]) rfl ?_
 obtain ⟨v37,hx38,hF39⟩:=qh hF24
 simp only [f32,qd,qw,B0,reduceIte,reduceEqDiff]
 refine xz rfl hS35 (qi (jb (qi qs (qi ze (qi ze (qi ze qy))))) (qi qs qy)) (qa8
   (fun b hb=>decide_eq_true hb) r_0 k_1 v37 hx38) ?_
 rintro v40 h44 ⟨_,c41,rfl,hv42,hS45⟩
 refine ⟨_,qgs (SlF.free1 hv42),hS45,(z0 (SlF.pf hv42 (fun _=>rfl)) yc),fun h46 hS47=>?_⟩
 have hS48:Sep h46 (geL h.length) (c41++([])):=by simpa only [List.append_assoc,List.nil_append] using hS47
 simp only [qd,qa,qx,B0,reduceIte,reduceEqDiff]
 have he:=qg hF39
 subst he
 simp only [wc,B0,reduceIte,reduceEqDiff]
 exact w9 (qi (SlF.cut hv42 hS48 (fun _ hb=>hb) rfl (fun _=>rfl) (fun _=>rfl)) (qi rfl qy))
theorem qh7 {W:Nat→Bool}{h:Heap} (hW:∀ b,
  (geL h.length) b→W b=true) (k:Nat) (code_0:List Int) (r:Readers_ × Int) (hF:u1 k code_0=some r) : Ret E W 39 [lst cU8 code_0] h
  (fun v h'=>∃ rv0_1 rc0_1 rv0_2 rc0_2 rv0_3 rc0_3,v = .tup [.agg [.int .i64 r.1.Generation,rv0_1,rv0_2,rv0_3],
  .int .i64 r.2]∧SlN Reader.R 4 37 rv0_1 r.1.Readers rc0_1∧SlF cI 1 3 rv0_2 r.1.Committed rc0_2∧SlF cI 1 3 rv0_3 r.1.Ends rc0_3∧Sep h' (geL h.length) (rc0_1 ++
  (rc0_2++(rc0_3++([]))))):=by
 refine Ret.of (fn:=x39) rfl (Run.of ?_)
 unfold u1 at hF
 have zf0:zb [lst cU8 code_0] 0=lst cU8 code_0:=rfl
 generalize zb [lst cU8 code_0]=fr0 at zf0 ⊢
 have hS:Sep h (geL h.length) []:=Sep.nil h
 simp only [x39,qf,qe,ja,B0,reduceIte,reduceEqDiff]
 refine zw hS (fun b1 h2 hS3=>?_)
 simp only [qd,qa,qw6,qf,qe,zf0,run_build,evp,B0,reduceIte,reduceEqDiff]
 refine qj (v := .agg [lst cU8 code_0,.int .i64 0,.int .u64 0]) rfl ?_
 simp only [jy,B0,reduceIte,reduceEqDiff]
 refine jk (cs:=[lst cU8 code_0,.int .i64 0,.int .u64 0]) hS3 rfl rfl rfl (fun b5 h6 hS7=>?_)
 obtain ⟨v9,hx10,hF11⟩:=qh hF
 simp only [qd,qa,qym,qf,qe,qw,B0,reduceIte,reduceEqDiff]
 refine ky rfl (qco hW k b5 (L1Cur.mk code_0 0 0) v9 hx10 hS7) ?_
 rintro _ h24 ⟨v12,c13,v16,c17,v20,c21,rfl,hv14,hv18,hv22,hS25⟩
 simp only [ja,B0,reduceIte,reduceEqDiff]
 refine zw hS25 (fun b26 h27 hS28=>?_)
 simp only [zn,B0,reduceIte,reduceEqDiff]
 refine zd (us:=[.int .i64 v9.1.Generation,v12,v16,v20]) rfl (cs':=[.int .i64 v9.1.Generation,v12,v16,
   v20]) hS28 hW rfl (qk rfl (qk (SlN.one hv14) (qk (SlF.one hv18) (qk (SlF.one hv22) zl)))) (Nat.le_of_ble_eq_true rfl) rfl (fun h30 hS31=>?_)
 simp only [qa,B0,reduceIte,reduceEqDiff]
 refine zu hS31 hW (by simp only [B0,reduceIte,reduceEqDiff]) (fun h32 hS33=>?_)
 simp only [zp,q1u,qf,jc,qcu,qba,B0,reduceIte,reduceEqDiff]
 refine qp (v := .agg [.int .i64 v9.1.Generation,v12,v16,v20]) rfl ?_
 simp only [z8,ql,zv,Nat.reduceAdd,Nat.zero_add,Nat.add_zero,qq,zm,B0,reduceIte,reduceEqDiff]
 refine qp (v:=v12) rfl ?_
 obtain ⟨v34,hx35,hF36⟩:=qh hF11
 simp only [qen,ql,SlN.len hv14,yh,u0,ut,B0,reduceIte,reduceEqDiff]
 refine qmb rfl (ms:=[b5]) rfl qla hW (Sep.m3 hS33) rfl (Nat.le_refl _) (fun b hb=>((Sep.dc (Sep.m3 hS33)).ran b hb).2) (fun hWq hSq=>j6 hWq b5 v9.2
   (IntKind.wrap .i64 ((List.length v9.1.Readers:Int)+1)) v34 hx35 hSq) ?_
 rintro _ h37 ⟨rfl,hS38⟩ hback
 replace hS38:=hback _ hS38
 simp only [xb,B0,reduceIte,reduceEqDiff]
 refine y7 (us:=[.int .i64 v9.1.Generation,v12,v16,v20]) rfl (cs':=[.int .i64 v9.1.Generation,v12,v16,
   v20]) (Sep.m4 hS38) hW rfl (qk rfl (qk (SlN.one hv14) (qk (SlF.one hv18) (qk (SlF.one hv22) zl)))) (Nat.le_of_ble_eq_true rfl) rfl (fun h39 hS40=>?_)
 simp only [z8,ql,zc,qx,B0,reduceIte,reduceEqDiff]
 have he:=qg hF36
 subst he
 refine ka (qi (kg (bb:=b1) (oo:=0) (v := .agg [.int .i64 v9.1.Generation,v12,v16,
   v20]) (rfl) ((z7 (Sep.bk _ _ _ hS40)).trans rfl)) (qi (wz (v := .int .i64 v34.1) (rfl)) qy)) ?_
 exact ⟨v12,c13,v16,c17,v20,c21,by first | trivial | rfl,hv14,hv18,hv22,(Sep.m2 (Sep.m2 (Sep.m2 (Sep.dc ((Sep.dc (hS40)))))))⟩
end Go.Proofs.Ytdhibknhejhfaaa.X
namespace Go.Proofs.Ytdhibknhejhfaaa.X
open Go
open Nat (reduceEqDiff)
theorem qkm {W:Nat→Bool}{h:Heap} (hW:∀ b,
  (geL h.length) b→W b=true) (r_0:Readers_) (k_1:Int) (r:(List Int) × Bool) (hF:qbh r_0 k_1=some r) : Ret E W 40 [.agg [.int .i64 r_0.Generation,
  lst Reader.cells r_0.Readers,lst cI r_0.Committed,lst cI r_0.Ends],.int .i64 k_1] h (fun v h'=>cut h.length h' E.sz false 9 v=some (.tup [lst cI r.1,.bool r.2])):=by
 refine Ret.of (fn:=x40) rfl (Run.of ?_)
 unfold qbh at hF
 have zf0:zb [.agg [.int .i64 r_0.Generation,lst Reader.cells r_0.Readers,lst cI r_0.Committed,lst cI r_0.Ends],.int .i64 k_1] 0 = .agg [.int .i64 r_0.Generation,
   lst Reader.cells r_0.Readers,lst cI r_0.Committed,lst cI r_0.Ends]:=rfl
 have zf1:zb [.agg [.int .i64 r_0.Generation,lst Reader.cells r_0.Readers,lst cI r_0.Committed,lst cI r_0.Ends],.int .i64 k_1] 1 = .int .i64 k_1:=rfl
 generalize zb [.agg [.int .i64 r_0.Generation,lst Reader.cells r_0.Readers,lst cI r_0.Committed,lst cI r_0.Ends],.int .i64 k_1]=fr0 at zf0 zf1 ⊢
 have hS:Sep h (geL h.length) []:=Sep.nil h
 simp only [x40,qf,qe,jy,zf0,B0,reduceIte,reduceEqDiff]
 refine jk (cs:=[.int .i64 r_0.Generation,lst Reader.cells r_0.Readers,lst cI r_0.Committed,lst cI r_0.Ends]) hS rfl rfl rfl (fun b1 h2 hS3=>?_)
 simp only [qd,qa,B0,reduceIte,reduceEqDiff]
 refine zu hS3 hW (by simp only [B0,reduceIte,reduceEqDiff]) (fun h5 hS6=>?_)
 simp only [zp,q0a,qf,qe,qn,B0,reduceIte,reduceEqDiff]
 refine qj (v := .agg [.int .i64 r_0.Generation,lst Reader.cells r_0.Readers,lst cI r_0.Committed,lst cI r_0.Ends]) rfl ?_
 obtain ⟨v7,hx8,hF9⟩:=qh hF
 simp only [qw,B0,reduceIte,reduceEqDiff]
 refine je rfl (qi (jb (qi qs (qi ze (qi ze (qi ze qy))))) qy) (xw
   (fun b hb=>decide_eq_true hb) r_0 v7 hx8) ?_
 simp only [jf,qb,jt,qd,B0,reduceIte,reduceEqDiff]
 refine z4 3 (fun fr' h'=>Sep h' (geL h.length) ([])∧fr' 12 = .bool ((!v7)||(decide (k_1<0)))∧fr' 1 = .int .i64 k_1∧fr' 2 = .ref [.int .i64 r_0.Generation,
   lst Reader.cells r_0.Readers,lst cI r_0.Committed,lst cI r_0.Ends] 0) (fun Q10 hN11=>?_) ?_
 ·simp only [List.take_succ_cons,List.take_zero]
  simp only [qc (g:=9),B0,reduceIte,reduceEqDiff]
  refine q8 (t:=(!v7)) (fun hg12=>?_) (fun hg12=>?_)
  ·simp only [hg12,qc (g:=9),zy,qr,qb,zk,qa,qm,B0,reduceIte,reduceEqDiff]
   exact hN11 _ _ ⟨hS6,by rw [orT hg12]; simp only [B0,reduceIte,reduceEqDiff],zf1,rfl⟩
  ·simp only [hg12,qc (g:=9),qo,zf1,qd,q9,qb,qeb,qr,zj,qa,qm,B0,reduceIte,reduceEqDiff]
   exact hN11 _ _ ⟨hS6,by rw [orF hg12]; simp only [B0,reduceIte,reduceEqDiff],zf1,rfl⟩
 rintro fr13 h17 ⟨hS18,f14,f15,f16⟩
 simp only [List.drop_succ_cons,List.drop_zero]
 simp only [f14,qd,B0,reduceIte,reduceEqDiff]
 refine z4 6 (fun fr' h'=>Sep h' (geL h.length) ([])∧fr' 19 = .bool (((!v7)||(decide (k_1<0)))||(decide
   ((List.length r_0.Readers:Int)≤k_1)))∧fr' 1 = .int .i64 k_1∧fr' 2 = .ref [.int .i64 r_0.Generation,lst Reader.cells r_0.Readers,lst cI r_0.Committed,
   lst cI r_0.Ends] 0) (fun Q19 hN20=>?_) ?_
 ·simp only [List.take_succ_cons,List.take_zero]
  simp only [qc (g:=13),B0,reduceIte,reduceEqDiff]
  refine q8 (t:=((!v7)||(decide (k_1<0)))) (fun hg21=>?_) (fun hg21=>?_)
  ·simp only [hg21,qc (g:=13),zy,qr,qb,zk,qa,qm,B0,reduceIte,reduceEqDiff]
   exact hN20 _ _ ⟨hS18,by rw [orT hg21]; simp only [B0,reduceIte,reduceEqDiff],f15,f16⟩
  ·simp only [hg21,qc (g:=13),qo,f15,qd,f16,qt,qb,Nat.reduceAdd,Nat.zero_add,Nat.add_zero,qq,qn,B0,reduceIte,
    reduceEqDiff]
   refine qj (v:=lst Reader.cells r_0.Readers) rfl ?_
   simp only [hg21,qc (g:=13),qo,zo,qb,zr,q9,qd5,qr,zj,qa,qm,B0,reduceIte,reduceEqDiff]
   exact hN20 _ _ ⟨hS18,by rw [orF hg21]; simp only [B0,reduceIte,reduceEqDiff],f15,f16⟩
 rintro fr22 h26 ⟨hS27,f23,f24,f25⟩
 simp only [List.drop_succ_cons,List.drop_zero]
 simp only [f23,qd,B0,reduceIte,reduceEqDiff]
 obtain ⟨v31,hx32,hF33⟩:=qh hF9
 refine z4 8 (fun fr' h'=>Sep h' (geL h.length) ([])∧fr' 28 = .bool v31∧fr' 1 = .int .i64 k_1∧fr' 2 = .ref [.int .i64 r_0.Generation,lst Reader.cells r_0.Readers,
   lst cI r_0.Committed,lst cI r_0.Ends] 0) (fun Q28 hN29=>?_) ?_
 ·simp only [List.take_succ_cons,List.take_zero]
  simp only [qc (g:=20),B0,reduceIte,reduceEqDiff]
  refine q8 (t:=(((!v7)||(decide (k_1<0)))||(decide ((List.length r_0.Readers:Int)≤k_1)))) (fun hg30=>?_) (fun hg30=>?_)
  ·rw [iteT hg30] at hx32
   simp only [hg30,qc (g:=20),zy,qr,qb,zk,qa,qm,B0,reduceIte,reduceEqDiff]
   have e34:=qg hx32
   exact hN29 _ _ ⟨hS27,by rw [←e34]; simp only [B0,reduceIte,reduceEqDiff],f24,f25⟩
  ·rw [iteF hg30] at hx32
   simp only [hg30,qc (g:=20),qo,f25,qt,qb,Nat.reduceAdd,Nat.zero_add,Nat.add_zero,qq,qn,B0,reduceIte,reduceEqDiff]
   refine qj (v:=lst Reader.cells r_0.Readers) rfl ?_
   obtain ⟨x35,hx36,hF37⟩:=qh hx32
   simp only [hg30,qc (g:=20),qo,f24,qd,jo,B0,reduceIte,reduceEqDiff]
   refine qj (v := .ref (Reader.cells x35) 0) (wu hx36 rfl) ?_
   simp only [hg30,qc (g:=20),qo,qt,qb,Nat.reduceAdd,Nat.zero_add,Nat.add_zero,qq,qn,B0,reduceIte,reduceEqDiff]
   refine qj (v := .bool x35.In) rfl ?_
   simp only [hg30,qc (g:=20),qo,jf,qb,jt,qr,zj,qa,qm,B0,reduceIte,reduceEqDiff]
   have e38:=qg hF37
   exact hN29 _ _ ⟨hS27,by rw [←e38]; simp only [B0,reduceIte,reduceEqDiff],f24,f25⟩
 rintro fr39 h43 ⟨hS44,f40,f41,f42⟩
 simp only [List.drop_succ_cons,List.drop_zero]
 simp only [qa,qww,f40,za,B0,reduceIte,reduceEqDiff]
 refine qz (t:=v31) (fun hc45=>?_) (fun hc45=>?_)
 ·rw [iteT hc45] at hF33
  simp only [qf,qe,qd,qa,qx,B0,reduceIte,reduceEqDiff]
  have he:=qg hF33
  subst he
  simp only [wc,B0,reduceIte,reduceEqDiff]
  exact w9 (qi rfl (qi rfl qy))
 rw [iteF hc45] at hF33
 simp only [zh,q12,qf,qe,f42,qn,B0,reduceIte,reduceEqDiff]
 refine qj (v := .agg [.int .i64 r_0.Generation,lst Reader.cells r_0.Readers,lst cI r_0.Committed,lst cI r_0.Ends]) rfl ?_
 obtain ⟨v46,hx47,hF48⟩:=qh hF33
 simp only [f41,qd,qw,B0,reduceIte,reduceEqDiff]
 refine xz rfl hS44 (qi (jb (qi qs (qi ze (qi ze (qi ze qy))))) (qi qs qy)) (qds
   (fun b hb=>decide_eq_true hb) r_0 k_1 v46 hx47) ?_
 rintro v49 h53 ⟨_,c50,rfl,hv51,hS54⟩
 refine ⟨_,qgs (SlF.free1 hv51),hS54,(z0 (SlF.pf hv51 (fun _=>rfl)) yc),fun h55 hS56=>?_⟩
 have hS57:Sep h55 (geL h.length) (c50++([])):=by simpa only [List.append_assoc,List.nil_append] using hS56
 simp only [qd,qa,qx,B0,reduceIte,reduceEqDiff]
 have he:=qg hF48
 subst he
 simp only [wc,B0,reduceIte,reduceEqDiff]
 exact w9 (qi (SlF.cut hv51 hS57 (fun _ hb=>hb) rfl (fun _=>rfl) (fun _=>rfl)) (qi rfl qy))
theorem qh5 {W:Nat→Bool}{h:Heap} (hW:∀ b,
  (geL h.length) b→W b=true) (k:Nat) (code_0:List Int) (r:Readers_ × Int) (hF:u6 k code_0=some r) : Ret E W 41 [lst cU8 code_0] h
  (fun v h'=>∃ rv0_1 rc0_1 rv0_2 rc0_2 rv0_3 rc0_3,v = .tup [.agg [.int .i64 r.1.Generation,rv0_1,rv0_2,rv0_3],
  .int .i64 r.2]∧SlN Reader.R 4 37 rv0_1 r.1.Readers rc0_1∧SlF cI 1 3 rv0_2 r.1.Committed rc0_2∧SlF cI 1 3 rv0_3 r.1.Ends rc0_3∧Sep h' (geL h.length) (rc0_1 ++
  (rc0_2++(rc0_3++([]))))):=by
 refine Ret.of (fn:=x41) rfl (Run.of ?_)
 unfold u6 at hF
 have zf0:zb [lst cU8 code_0] 0=lst cU8 code_0:=rfl
 generalize zb [lst cU8 code_0]=fr0 at zf0 ⊢
 have hS:Sep h (geL h.length) []:=Sep.nil h
 simp only [x41,qf,qe,ja,B0,reduceIte,reduceEqDiff]
 refine zw hS (fun b1 h2 hS3=>?_)
 simp only [qd,qa,qup,qf,qe,zf0,run_build,evp,B0,reduceIte,reduceEqDiff]
 refine qj (v := .agg [lst cU8 code_0,.int .i64 0,.int .u64 0]) rfl ?_
 simp only [jy,B0,reduceIte,reduceEqDiff]
 refine jk (cs:=[lst cU8 code_0,.int .i64 0,.int .u64 0]) hS3 rfl rfl rfl (fun b5 h6 hS7=>?_)
 obtain ⟨v9,hx10,hF11⟩:=qh hF
 simp only [qd,qa,qvr,qf,qe,qw,B0,reduceIte,reduceEqDiff]
 refine ky rfl (qco hW k b5 (L1Cur.mk code_0 0 0) v9 hx10 hS7) ?_
 rintro _ h24 ⟨v12,c13,v16,c17,v20,c21,rfl,hv14,hv18,hv22,hS25⟩
 simp only [ja,B0,reduceIte,reduceEqDiff]
 refine zw hS25 (fun b26 h27 hS28=>?_)
 simp only [zn,B0,reduceIte,reduceEqDiff]
 refine zd (us:=[.int .i64 v9.1.Generation,v12,v16,v20]) rfl (cs':=[.int .i64 v9.1.Generation,v12,v16,
   v20]) hS28 hW rfl (qk rfl (qk (SlN.one hv14) (qk (SlF.one hv18) (qk (SlF.one hv22) zl)))) (Nat.le_of_ble_eq_true rfl) rfl (fun h30 hS31=>?_)
 simp only [qa,B0,reduceIte,reduceEqDiff]
 refine zu hS31 hW (by simp only [B0,reduceIte,reduceEqDiff]) (fun h32 hS33=>?_)
 simp only [zp,qwo,qf,jc,qcu,qba,B0,reduceIte,reduceEqDiff]
 refine qp (v := .agg [.int .i64 v9.1.Generation,v12,v16,v20]) rfl ?_
 simp only [z8,ql,zv,Nat.reduceAdd,Nat.zero_add,Nat.add_zero,qq,zm,B0,reduceIte,reduceEqDiff]
 refine qp (v:=v20) rfl ?_
 obtain ⟨v34,hx35,hF36⟩:=qh hF11
 simp only [qen,ql,SlF.plen hv22,yh,u0,ut,B0,reduceIte,reduceEqDiff]
 refine qmb rfl (ms:=[b5]) rfl qla hW (Sep.m3 hS33) rfl (Nat.le_refl _) (fun b hb=>((Sep.dc (Sep.m3 hS33)).ran b hb).2) (fun hWq hSq=>j6 hWq b5 v9.2
   (IntKind.wrap .i64 ((List.length v9.1.Ends:Int)+2)) v34 hx35 hSq) ?_
 rintro _ h37 ⟨rfl,hS38⟩ hback
 replace hS38:=hback _ hS38
 simp only [q3n,ql,qdm,xb,B0,reduceIte,reduceEqDiff]
 refine y7 (us:=[.int .i64 v9.1.Generation,v12,v16,v20]) rfl (cs':=[.int .i64 v9.1.Generation,v12,v16,
   v20]) (Sep.m4 hS38) hW rfl (qk rfl (qk (SlN.one hv14) (qk (SlF.one hv18) (qk (SlF.one hv22) zl)))) (Nat.le_of_ble_eq_true rfl) rfl (fun h39 hS40=>?_)
 simp only [z8,ql,zc,qx,B0,reduceIte,reduceEqDiff]
 have he:=qg hF36
 subst he
 refine ka (qi (kg (bb:=b1) (oo:=0) (v := .agg [.int .i64 v9.1.Generation,v12,v16,
   v20]) (rfl) ((z7 (Sep.bk _ _ _ hS40)).trans rfl)) (qi (wz (v := .int .i64 (IntKind.wrap .i64 (v34.1 - 1))) (rfl)) qy)) ?_
 exact ⟨v12,c13,v16,c17,v20,c21,by first | trivial | rfl,hv14,hv18,hv22,(Sep.m2 (Sep.m2 (Sep.m2 (Sep.dc ((Sep.dc (hS40)))))))⟩
theorem qj2 {W:Nat→Bool}{h:Heap} (hW:∀ b,
  (geL h.length) b→W b=true) (r_0:Readers_) (part_1:Int) (r:Int × Bool) (hF:xn r_0 part_1=some r) : Ret E W 42 [.agg [.int .i64 r_0.Generation,
  lst Reader.cells r_0.Readers,lst cI r_0.Committed,lst cI r_0.Ends],.int .i64 part_1] h (fun v h'=>cut h.length h' E.sz false 9 v=some (.tup [.int .i64 r.1,
  .bool r.2])):=by
 refine Ret.of (fn:=x42) rfl (Run.of ?_)
 unfold xn at hF
 have zf0:zb [.agg [.int .i64 r_0.Generation,lst Reader.cells r_0.Readers,lst cI r_0.Committed,lst cI r_0.Ends],.int .i64 part_1] 0 = .agg [.int .i64 r_0.Generation,
   lst Reader.cells r_0.Readers,lst cI r_0.Committed,lst cI r_0.Ends]:=rfl
 have zf1:zb [.agg [.int .i64 r_0.Generation,lst Reader.cells r_0.Readers,lst cI r_0.Committed,lst cI r_0.Ends],.int .i64 part_1] 1 = .int .i64 part_1:=rfl
 generalize zb [.agg [.int .i64 r_0.Generation,lst Reader.cells r_0.Readers,lst cI r_0.Committed,lst cI r_0.Ends],.int .i64 part_1]=fr0 at zf0 zf1 ⊢
 have hS:Sep h (geL h.length) []:=Sep.nil h
 simp only [x42,qf,qe,jy,zf0,B0,reduceIte,reduceEqDiff]
 refine jk (cs:=[.int .i64 r_0.Generation,lst Reader.cells r_0.Readers,lst cI r_0.Committed,lst cI r_0.Ends]) hS rfl rfl rfl (fun b1 h2 hS3=>?_)
 simp only [qd,qa,B0,reduceIte,reduceEqDiff]
 refine zu hS3 hW (by simp only [B0,reduceIte,reduceEqDiff]) (fun h5 hS6=>?_)
 simp only [zp,q1i,qf,qe,qn,B0,reduceIte,reduceEqDiff]
 refine qj (v := .agg [.int .i64 r_0.Generation,lst Reader.cells r_0.Readers,lst cI r_0.Committed,lst cI r_0.Ends]) rfl ?_
 obtain ⟨v7,hx8,hF9⟩:=qh hF
 simp only [qw,B0,reduceIte,reduceEqDiff]
 refine je rfl (qi (jb (qi qs (qi ze (qi ze (qi ze qy))))) qy) (xw
   (fun b hb=>decide_eq_true hb) r_0 v7 hx8) ?_
 simp only [jf,qb,jt,qd,B0,reduceIte,reduceEqDiff]
 refine z4 3 (fun fr' h'=>Sep h' (geL h.length) ([])∧fr' 14 = .bool ((!v7)||(decide (part_1<0)))∧fr' 1 = .int .i64 part_1∧fr' 2 = .ref [.int .i64 r_0.Generation,
   lst Reader.cells r_0.Readers,lst cI r_0.Committed,lst cI r_0.Ends] 0) (fun Q10 hN11=>?_) ?_
 ·simp only [List.take_succ_cons,List.take_zero]
  simp only [qc (g:=11),B0,reduceIte,reduceEqDiff]
  refine q8 (t:=(!v7)) (fun hg12=>?_) (fun hg12=>?_)
  ·simp only [hg12,qc (g:=11),zy,qr,qb,zk,qa,qm,B0,reduceIte,reduceEqDiff]
   exact hN11 _ _ ⟨hS6,by rw [orT hg12]; simp only [B0,reduceIte,reduceEqDiff],zf1,rfl⟩
  ·simp only [hg12,qc (g:=11),qo,zf1,qd,q9,qb,qeb,qr,zj,qa,qm,B0,reduceIte,reduceEqDiff]
   exact hN11 _ _ ⟨hS6,by rw [orF hg12]; simp only [B0,reduceIte,reduceEqDiff],zf1,rfl⟩
 rintro fr13 h17 ⟨hS18,f14,f15,f16⟩
 simp only [List.drop_succ_cons,List.drop_zero]
 simp only [f14,qd,B0,reduceIte,reduceEqDiff]
 refine z4 6 (fun fr' h'=>Sep h' (geL h.length) ([])∧fr' 21 = .bool (((!v7)||(decide (part_1<0)))||(decide
   ((List.length r_0.Ends:Int)≤part_1)))∧fr' 1 = .int .i64 part_1∧fr' 2 = .ref [.int .i64 r_0.Generation,lst Reader.cells r_0.Readers,lst cI r_0.Committed,
   lst cI r_0.Ends] 0) (fun Q19 hN20=>?_) ?_
 ·simp only [List.take_succ_cons,List.take_zero]
  simp only [qc (g:=15),B0,reduceIte,reduceEqDiff]
  refine q8 (t:=((!v7)||(decide (part_1<0)))) (fun hg21=>?_) (fun hg21=>?_)
  ·simp only [hg21,qc (g:=15),zy,qr,qb,zk,qa,qm,B0,reduceIte,reduceEqDiff]
   exact hN20 _ _ ⟨hS18,by rw [orT hg21]; simp only [B0,reduceIte,reduceEqDiff],f15,f16⟩
  ·simp only [hg21,qc (g:=15),qo,f15,qd,f16,qt,qb,Nat.reduceAdd,Nat.zero_add,Nat.add_zero,qq,qn,B0,reduceIte,
    reduceEqDiff]
   refine qj (v:=lst cI r_0.Ends) rfl ?_
   simp only [hg21,qc (g:=15),qo,zo,qb,zr,q9,qd5,qr,zj,qa,qm,B0,reduceIte,reduceEqDiff]
   exact hN20 _ _ ⟨hS18,by rw [orF hg21]; simp only [B0,reduceIte,reduceEqDiff],f15,f16⟩
 rintro fr22 h26 ⟨hS27,f23,f24,f25⟩
 simp only [List.drop_succ_cons,List.drop_zero]
 simp only [qa,q03,f23,za,B0,reduceIte,reduceEqDiff]
 refine qz (t:=(((!v7)||(decide (part_1<0)))||(decide ((List.length r_0.Ends:Int)≤part_1)))) (fun hc28=>?_) (fun hc28=>?_)
 ·rw [iteT hc28] at hF9
  simp only [qf,qe,qd,qa,qx,B0,reduceIte,reduceEqDiff]
  have he:=qg hF9
  subst he
  simp only [wc,B0,reduceIte,reduceEqDiff]
  exact w9 (qi rfl (qi rfl qy))
 rw [iteF hc28] at hF9
 simp only [zh,qyw,qf,qe,f25,qt,qb,Nat.reduceAdd,Nat.zero_add,Nat.add_zero,qq,qn,B0,reduceIte,reduceEqDiff]
 refine qj (v:=lst Reader.cells r_0.Readers) rfl ?_
 simp only [zo,qb,zr,qd,qa,B0,reduceIte,reduceEqDiff]
 obtain ⟨oc31,hX33,hk34⟩:=jj hF9
 simp only [qz4]
 refine j8 (σ:=Unit) r_0.Readers (fun i29 x30 _=>x4 r_0 part_1 i29 x30 )
   (fun s fr' h'=>fr' 1 = .int .i64 part_1∧fr' 2 = .ref [.int .i64 r_0.Generation,lst Reader.cells r_0.Readers,lst cI r_0.Committed,
   lst cI r_0.Ends] 0∧fr' 23=lst Reader.cells r_0.Readers∧Sep h' (geL h.length) ([])) hX33 ⟨f24,f25,rfl,hS27⟩ (by simp only [B0,reduceIte,
   reduceEqDiff]) (by simp only [B0,reduceIte,reduceEqDiff]) (fun _ _ _ h=>h) rfl rfl (fun _ _ _ _ h=>h) (fun _ _ _ _ h=>h) (fun _ _ _ _ h=>h) (by decide) ?_ ?_
 ·rintro i29 x30 _ fr43 h44 hx49 ⟨f46,f47,f48,hS45⟩ f50 f51 oc32 hF35 hr36 Q37 hN38 hB42 hK39 hR40 hE41
  unfold x4 at hF35
  simp only [qy8,qf,qe,f50,qd,f48,jo,B0,reduceIte,reduceEqDiff]
  refine qj (v := .ref (Reader.cells x30) 0) (j7 hx49 rfl) ?_
  simp only [qn,B0,reduceIte,reduceEqDiff]
  refine qj (v := .agg [.bool x30.In,.int .i64 x30.Generation,lst cI x30.Share,lst cI x30.Read]) rfl ?_
  simp only [ja,B0,reduceIte,reduceEqDiff]
  refine zw hS45 (fun b52 h53 hS54=>?_)
  simp only [qd,zn,B0,reduceIte,reduceEqDiff]
  refine zd (us:=[.bool x30.In,.int .i64 x30.Generation,lst cI x30.Share,lst cI x30.Read]) rfl (cs':=[.bool x30.In,.int .i64 x30.Generation,lst cI x30.Share,
    lst cI x30.Read]) hS54 hW rfl rfl (Nat.le_of_ble_eq_true rfl) rfl (fun h56 hS57=>?_)
  simp only [qa,B0,reduceIte,reduceEqDiff]
  refine zu hS57 hW (by simp only [B0,reduceIte,reduceEqDiff]) (fun h58 hS59=>?_)
  simp only [zp,qvd,qf,qe,qt,qb,Nat.reduceAdd,Nat.zero_add,Nat.add_zero,qq,qn,B0,reduceIte,reduceEqDiff]
  refine qj (v := .bool x30.In) rfl ?_
  simp only [qd,B0,reduceIte,reduceEqDiff]
  refine z4 6 (fun fr' h'=>Sep h' (geL h.length) ([])∧fr' 38 = .bool (x30.In&&(decide
    (x30.Generation=r_0.Generation)))∧fr' 1 = .int .i64 part_1∧fr' 2 = .ref [.int .i64 r_0.Generation,lst Reader.cells r_0.Readers,lst cI r_0.Committed,
    lst cI r_0.Ends] 0∧fr' 6 = .int .i64 (i29:Int)∧fr' 7 = .ref [.bool x30.In,.int .i64 x30.Generation,lst cI x30.Share,
    lst cI x30.Read] 0∧fr' 23=lst Reader.cells r_0.Readers∧fr' 24 = .int .i64 (List.length r_0.Readers:Int)∧fr' 25 = .int .i64 (i29:Int)) (fun Q60 hN61=>?_) ?_
  ·simp only [List.take_succ_cons,List.take_zero]
   simp only [qc (g:=32),B0,reduceIte,reduceEqDiff]
   refine q8 (t:=x30.In) (fun hg62=>?_) (fun hg62=>?_)
   ·simp only [hg62,qc (g:=32),zf,qt,qb,Nat.reduceAdd,Nat.zero_add,Nat.add_zero,qq,qn,B0,reduceIte,reduceEqDiff]
    refine qj (v := .int .i64 x30.Generation) rfl ?_
    simp only [hg62,qc (g:=32),zf,f47,qt,qb,Nat.reduceAdd,Nat.zero_add,Nat.add_zero,qq,qn,B0,reduceIte,reduceEqDiff]
    refine qj (v := .int .i64 r_0.Generation) rfl ?_
    simp only [hg62,qc (g:=32),zf,q9,qb,yx,qr,zk,qa,qm,B0,reduceIte,reduceEqDiff]
    exact hN61 _ _ ⟨hS59,by rw [xj hg62]; simp only [B0,reduceIte,reduceEqDiff],f46,f47,rfl,by simp only [B0,reduceIte,reduceEqDiff,hg62],f48,f51,f50⟩
   ·simp only [hg62,qc (g:=32),jh,qr,qb,zj,qa,qm,B0,reduceIte,reduceEqDiff]
    exact hN61 _ _ ⟨hS59,by rw [xy hg62]; simp only [B0,reduceIte,reduceEqDiff],f46,f47,rfl,by simp only [B0,reduceIte,reduceEqDiff,hg62],f48,f51,f50⟩
  rintro fr63 h72 ⟨hS73,f64,f65,f66,f67,f68,f69,f70,f71⟩
  simp only [List.drop_succ_cons,List.drop_zero]
  simp only [f64,qd,B0,reduceIte,reduceEqDiff]
  obtain ⟨v77,hx78,hF79⟩:=qh hF35
  refine z4 5 (fun fr' h'=>Sep h' (geL h.length) ([])∧fr' 44 = .bool v77∧fr' 1 = .int .i64 part_1∧fr' 2 = .ref [.int .i64 r_0.Generation,
    lst Reader.cells r_0.Readers,lst cI r_0.Committed,
    lst cI r_0.Ends] 0∧fr' 6 = .int .i64 (i29:Int)∧fr' 23=lst Reader.cells r_0.Readers∧fr' 24 = .int .i64 (List.length r_0.Readers:Int)∧fr' 25 = .int .i64
    (i29:Int)) (fun Q74 hN75=>?_) ?_
  ·simp only [List.take_succ_cons,List.take_zero]
   simp only [qc (g:=39),B0,reduceIte,reduceEqDiff]
   refine q8 (t:=(x30.In&&(decide (x30.Generation=r_0.Generation)))) (fun hg76=>?_) (fun hg76=>?_)
   ·rw [iteT hg76] at hx78
    simp only [hg76,qc (g:=39),zf,f68,qt,qb,Nat.reduceAdd,Nat.zero_add,Nat.add_zero,qq,qn,B0,reduceIte,reduceEqDiff]
    refine qj (v:=lst cI x30.Share) rfl ?_
    obtain ⟨v80,hx81,hF82⟩:=qh hx78
    simp only [hg76,qc (g:=39),zf,f65,qd,qw,B0,reduceIte,reduceEqDiff]
    refine je rfl (qi ze (qi qs qy)) (qch (fun b hb=>decide_eq_true hb) x30.Share part_1 v80 hx81) ?_
    simp only [hg76,qr,qb,zk,qa,qm,B0,reduceIte,reduceEqDiff]
    have e83:=qg hF82
    exact hN75 _ _ ⟨hS73,by rw [←e83]; simp only [B0,reduceIte,reduceEqDiff],f65,f66,f67,f69,f70,f71⟩
   ·rw [iteF hg76] at hx78
    simp only [hg76,qc (g:=39),jh,qr,qb,zj,qa,qm,B0,reduceIte,reduceEqDiff]
    have e84:=qg hx78
    exact hN75 _ _ ⟨hS73,by rw [←e84]; simp only [B0,reduceIte,reduceEqDiff],f65,f66,f67,f69,f70,f71⟩
  rintro fr85 h93 ⟨hS94,f86,f87,f88,f89,f90,f91,f92⟩
  simp only [List.drop_succ_cons,List.drop_zero]
  simp only [qa,qv9,f86,za,B0,reduceIte,reduceEqDiff]
  refine qz (t:=v77) (fun hc95=>?_) (fun hc95=>?_)
  ·rw [iteT hc95] at hF79
   simp only [qf,qe,f89,qd,qa,qx,B0,reduceIte,reduceEqDiff]
   have e96:=qg hF79
   subst e96
   have ho97:=hr36 _ rfl
   have hk98:=hk34
   rw [ho97] at hk98
   dsimp only [jnO] at hk98
   apply hR40
   have he:=qg hk98
   subst he
   simp only [wc,B0,reduceIte,reduceEqDiff]
   exact w9 (qi rfl (qi rfl qy))
  rw [iteF hc95] at hF79
  simp only [zh,qm,B0,reduceIte,reduceEqDiff]
  have e99:=qg hF79
  exact hN38 _ _ _ e99.symm ⟨f87,f88,f90,hS94⟩ (f92) (f91)
 rintro _ fr101 h102 rfl ⟨f104,f105,f106,hS103⟩
 dsimp only [jnO] at hk34
 unfold qdk at hk34
 simp only [qf,qe,qd,qa,qx,B0,reduceIte,reduceEqDiff]
 have he:=qg hk34
 subst he
 simp only [wc,B0,reduceIte,reduceEqDiff]
 exact w9 (qi rfl (qi rfl qy))
theorem qge {W:Nat→Bool}{h:Heap} (hW:∀ b,
  (geL h.length) b→W b=true) (k:Nat) (code_0:List Int) (r:Readers_) (hF:qbn k code_0=some r) : Ret E W 75 [lst cU8 code_0] h
  (fun v h'=>∃ rv0_1 rc0_1 rv0_2 rc0_2 rv0_3 rc0_3,v = .agg [.int .i64 r.Generation,rv0_1,rv0_2,
  rv0_3]∧SlN Reader.R 4 37 rv0_1 r.Readers rc0_1∧SlF cI 1 3 rv0_2 r.Committed rc0_2∧SlF cI 1 3 rv0_3 r.Ends rc0_3∧Sep h' (geL h.length) (rc0_1++(rc0_2++(rc0_3 ++
  ([]))))):=by
 refine Ret.of (fn:=x75) rfl (Run.of ?_)
 unfold qbn at hF
 have zf0:zb [lst cU8 code_0] 0=lst cU8 code_0:=rfl
 generalize zb [lst cU8 code_0]=fr0 at zf0 ⊢
 have hS:Sep h (geL h.length) []:=Sep.nil h
 simp only [x75,qf,qe,ja,B0,reduceIte,reduceEqDiff]
 refine zw hS (fun b1 h2 hS3=>?_)
 simp only [qa,q1b,qf,qe,zf0,qd,run_build,evp,B0,reduceIte,reduceEqDiff]
 refine qj (v := .agg [lst cU8 code_0,.int .i64 0,.int .u64 0]) rfl ?_
 simp only [jy,B0,reduceIte,reduceEqDiff]
 refine jk (cs:=[lst cU8 code_0,.int .i64 0,.int .u64 0]) hS3 rfl rfl rfl (fun b5 h6 hS7=>?_)
 obtain ⟨v9,hx10,hF11⟩:=qh hF
 simp only [qd,qa,qf,qe,qw,B0,reduceIte,reduceEqDiff]
 refine ky rfl (qco hW k b5 (L1Cur.mk code_0 0 0) v9 hx10 hS7) ?_
 rintro _ h24 ⟨v12,c13,v16,c17,v20,c21,rfl,hv14,hv18,hv22,hS25⟩
 simp only [zn,B0,reduceIte,reduceEqDiff]
 refine zd (us:=[.int .i64 v9.1.Generation,v12,v16,v20]) rfl (cs':=[.int .i64 v9.1.Generation,v12,v16,
   v20]) (Sep.m4 hS25) hW rfl (qk rfl (qk (SlN.one hv14) (qk (SlF.one hv18) (qk (SlF.one hv22) zl)))) (Nat.le_of_ble_eq_true rfl) rfl (fun h26 hS27=>?_)
 simp only [qa,qx,B0,reduceIte,reduceEqDiff]
 have he:=qg hF11
 subst he
 refine xm (bb:=b1) (oo:=0) (v := .agg [.int .i64 v9.1.Generation,v12,v16,v20]) (by simp only [B0,reduceIte,
   reduceEqDiff]) ((z7 (Sep.bk _ _ _ hS27)).trans rfl) ?_
 exact ⟨v12,c13,v16,c17,v20,c21,by first | trivial | rfl,hv14,hv18,hv22,(Sep.m2 (Sep.m2 (Sep.m2 (Sep.dc (Sep.m3 (Sep.dc (hS27)))))))⟩
theorem qgt {W:Nat→Bool}{h:Heap} (hW:∀ b,
  (geL h.length) b→W b=true) (k:Nat) (code_0:List Int) (r:Readers_) (hF:qah k code_0=some r) : Ret E W 43 [lst cU8 code_0] h
  (fun v h'=>∃ rv0_1 rc0_1 rv0_2 rc0_2 rv0_3 rc0_3,v = .agg [.int .i64 r.Generation,rv0_1,rv0_2,
  rv0_3]∧SlN Reader.R 4 37 rv0_1 r.Readers rc0_1∧SlF cI 1 3 rv0_2 r.Committed rc0_2∧SlF cI 1 3 rv0_3 r.Ends rc0_3∧Sep h' (geL h.length) (rc0_1++(rc0_2++(rc0_3 ++
  ([]))))):=by
 refine Ret.of (fn:=x43) rfl (Run.of ?_)
 unfold qah at hF
 have zf0:zb [lst cU8 code_0] 0=lst cU8 code_0:=rfl
 generalize zb [lst cU8 code_0]=fr0 at zf0 ⊢
 have hS:Sep h (geL h.length) []:=Sep.nil h
 simp only [x43,qf,qe,ja,B0,reduceIte,reduceEqDiff]
 refine zw hS (fun b1 h2 hS3=>?_)
 obtain ⟨v5,hx6,hF7⟩:=qh hF
 simp only [qa,qf,qe,zf0,qd,qw,B0,reduceIte,reduceEqDiff]
 refine xz rfl hS3 (qi ze qy) (qge (fun b hb=>decide_eq_true hb) k code_0 v5 hx6) ?_
 rintro _ h20 ⟨v8,c9,v12,c13,v16,c17,rfl,hv10,hv14,hv18,hS21⟩
 refine ⟨_,qft (qk rfl (qk (SlN.free1 hv10) (qk (SlF.free1 hv14) (qk (SlF.free1 hv18) zl)))),hS21,
   (z0 (SlN.pf hv10 Reader.RO) (z0 (SlF.pf hv14 (fun _=>rfl)) (z0 (SlF.pf hv18 (fun _=>rfl)) yc))),fun h22 hS23=>?_⟩
 have hS24:Sep h22 (geL h.length) (c9++(c13++(c17++([Blk1 b1 [.int .i64 0,.nil,.nil,.nil] 29]++([]))))):=by simpa only [List.append_assoc,
   List.nil_append] using hS23
 simp only [zn,B0,reduceIte,reduceEqDiff]
 refine zd (us:=[.int .i64 v5.Generation,v8,v12,v16]) rfl (cs':=[.int .i64 v5.Generation,v8,v12,
   v16]) (Sep.m3 hS24) hW rfl (qk rfl (qk (SlN.one hv10) (qk (SlF.one hv14) (qk (SlF.one hv18) zl)))) (Nat.le_of_ble_eq_true rfl) rfl (fun h25 hS26=>?_)
 simp only [qa,qx,B0,reduceIte,reduceEqDiff]
 have he:=qg hF7
 subst he
 refine xm (bb:=b1) (oo:=0) (v := .agg [.int .i64 v5.Generation,v8,v12,v16]) (by simp only [B0,reduceIte,
   reduceEqDiff]) ((z7 (Sep.bk _ _ _ hS26)).trans rfl) ?_
 exact ⟨v8,c9,v12,c13,v16,c17,by first | trivial | rfl,hv10,hv14,hv18,(Sep.m2 (Sep.m2 (Sep.m2 (Sep.dc (hS26)))))⟩
theorem qij {W:Nat→Bool}{h:Heap} (hW:∀ b,
  (geL h.length) b→W b=true) (r_0:Readers_) (r:Int × Bool) (hF:uc r_0=some r) : Ret E W 44 [.agg [.int .i64 r_0.Generation,
  lst Reader.cells r_0.Readers,lst cI r_0.Committed,lst cI r_0.Ends]] h (fun v h'=>cut h.length h' E.sz false 9 v=some (.tup [.int .i64 r.1,.bool r.2])):=by
 refine Ret.of (fn:=x44) rfl (Run.of ?_)
 unfold uc at hF
 have zf0:zb [.agg [.int .i64 r_0.Generation,lst Reader.cells r_0.Readers,lst cI r_0.Committed,lst cI r_0.Ends]] 0 = .agg [.int .i64 r_0.Generation,
   lst Reader.cells r_0.Readers,lst cI r_0.Committed,lst cI r_0.Ends]:=rfl
 generalize zb [.agg [.int .i64 r_0.Generation,lst Reader.cells r_0.Readers,lst cI r_0.Committed,lst cI r_0.Ends]]=fr0 at zf0 ⊢
 have hS:Sep h (geL h.length) []:=Sep.nil h
 simp only [x44,qf,qe,jy,zf0,B0,reduceIte,reduceEqDiff]
 refine jk (cs:=[.int .i64 r_0.Generation,lst Reader.cells r_0.Readers,lst cI r_0.Committed,lst cI r_0.Ends]) hS rfl rfl rfl (fun b1 h2 hS3=>?_)
 simp only [qd,qa,B0,reduceIte,reduceEqDiff]
 refine zu hS3 hW (by simp only [B0,reduceIte,reduceEqDiff]) (fun h5 hS6=>?_)
 simp only [zp,qux,qf,qe,qn,B0,reduceIte,reduceEqDiff]
 refine qj (v := .agg [.int .i64 r_0.Generation,lst Reader.cells r_0.Readers,lst cI r_0.Committed,lst cI r_0.Ends]) rfl ?_
 obtain ⟨v7,hx8,hF9⟩:=qh hF
 simp only [qw,B0,reduceIte,reduceEqDiff]
 refine je rfl (qi (jb (qi qs (qi ze (qi ze (qi ze qy))))) qy) (xw
   (fun b hb=>decide_eq_true hb) r_0 v7 hx8) ?_
 simp only [jf,qb,jt,qa,q18,za,B0,reduceIte,reduceEqDiff]
 refine qz (t:=(!v7)) (fun hc10=>?_) (fun hc10=>?_)
 ·rw [iteT hc10] at hF9
  simp only [qf,qe,qd,qa,qx,B0,reduceIte,reduceEqDiff]
  have he:=qg hF9
  subst he
  simp only [wc,B0,reduceIte,reduceEqDiff]
  exact w9 (qi rfl (qi rfl qy))
 rw [iteF hc10] at hF9
 simp only [zh,qvm,qf,qe,qd,qa,qzr,qt,qb,Nat.reduceAdd,Nat.zero_add,Nat.add_zero,qq,qn,B0,reduceIte,
   reduceEqDiff]
 refine qj (v:=lst cI r_0.Ends) rfl ?_
 simp only [zo,qb,zr,qd,qa,B0,reduceIte,reduceEqDiff]
 obtain ⟨oc15,hX17,hk18⟩:=jj hF9
 simp only [q1y]
 refine j8 (σ:=Int) r_0.Ends (fun i13 x14 s40=>qb6 r_0 i13 x14 s40) (fun s fr' h'=>fr' 1 = .ref [.int .i64 r_0.Generation,
   lst Reader.cells r_0.Readers,lst cI r_0.Committed,lst cI r_0.Ends] 0∧fr' 4 = .int .i64 s∧fr' 11=lst cI r_0.Ends∧Sep h' (geL h.length) ([])) hX17 ⟨rfl,rfl,rfl,
   hS6⟩ (by simp only [B0,reduceIte,reduceEqDiff]) (by simp only [B0,reduceIte,
   reduceEqDiff]) (fun _ _ _ h=>h) rfl rfl (fun _ _ _ _ h=>h) (fun _ _ _ _ h=>h) (fun _ _ _ _ h=>h) (by decide) ?_ ?_
 ·rintro i13 x14 s12 fr27 h28 hx33 ⟨f30,f31,f32,hS29⟩ f34 f35 oc16 hF19 hr20 Q21 hN22 hB26 hK23 hR24 hE25
  unfold qb6 at hF19
  simp only [qxp,qf,qe,f34,qd,f32,jo,B0,reduceIte,reduceEqDiff]
  refine qj (v := .ref (cI x14) 0) (j7 hx33 rfl) ?_
  simp only [qn,B0,reduceIte,reduceEqDiff]
  refine qj (v := .int .i64 x14) rfl ?_
  simp only [qd,qa,qu9,qe,f31,f30,qt,qb,Nat.reduceAdd,Nat.zero_add,Nat.add_zero,qq,qn,B0,reduceIte,reduceEqDiff]
  refine qj (v:=lst cI r_0.Committed) rfl ?_
  obtain ⟨x36,hx37,hF38⟩:=qh hF19
  simp only [qd,jo,B0,reduceIte,reduceEqDiff]
  refine qj (v := .ref (cI x36) 0) (wu hx37 rfl) ?_
  simp only [qn,B0,reduceIte,reduceEqDiff]
  refine qj (v := .int .i64 x36) rfl ?_
  simp only [q9,qb,qdm,u0,qd,qa,qm,B0,reduceIte,reduceEqDiff]
  have e39:=qg hF38
  exact hN22 _ _ _ e39.symm ⟨f30,rfl,f32,hS29⟩ (f34) (f35)
 rintro s41 fr42 h43 rfl ⟨f45,f46,f47,hS44⟩
 dsimp only [jnO] at hk18
 unfold qeq at hk18
 simp only [qf,qe,f46,qd,qa,qx,B0,reduceIte,reduceEqDiff]
 have he:=qg hk18
 subst he
 simp only [wc,B0,reduceIte,reduceEqDiff]
 exact w9 (qi rfl (qi rfl qy))
theorem qgk {W:Nat→Bool}{h:Heap} (hW:∀ b,
  (geL h.length) b→W b=true) (k:Nat) (code_0:List Int) (r:Int × (List Int)) (hF:w7 k code_0=some r) : Ret E W 45 [lst cU8 code_0] h
  (fun v h'=>∃ rv1 rc1,v = .tup [.int .i64 r.1,rv1]∧SlF cI 1 3 rv1 r.2 rc1∧Sep h' (geL h.length) (rc1++([]))):=by
 refine Ret.of (fn:=x45) rfl (Run.of ?_)
 unfold w7 at hF
 have zf0:zb [lst cU8 code_0] 0=lst cU8 code_0:=rfl
 generalize zb [lst cU8 code_0]=fr0 at zf0 ⊢
 have hS:Sep h (geL h.length) []:=Sep.nil h
 simp only [x45,qf,qe,qd,qa,q1o,zf0,run_build,evp,B0,reduceIte,reduceEqDiff]
 refine qj (v := .agg [lst cU8 code_0,.int .i64 0,.int .u64 0]) rfl ?_
 simp only [jy,B0,reduceIte,reduceEqDiff]
 refine jk (cs:=[lst cU8 code_0,.int .i64 0,.int .u64 0]) hS rfl rfl rfl (fun b1 h2 hS3=>?_)
 obtain ⟨v5,hx6,hF7⟩:=qh hF
 simp only [qd,qa,q1n,qf,qe,qw,B0,reduceIte,reduceEqDiff]
 refine ky rfl (j6 hW b1 (L1Cur.mk code_0 0 0) 7 v5 hx6 hS3) ?_
 rintro _ h8 ⟨rfl,hS9⟩
 obtain ⟨v10,hx11,hF12⟩:=qh hF7
 simp only [qd,qw,B0,reduceIte,reduceEqDiff]
 refine ky rfl (qi0 hW k b1 v5.2 v10 hx11 hS9) ?_
 rintro v13 h17 ⟨_,c14,rfl,hv15,hS18⟩
 simp only [qd,qa,qx,B0,reduceIte,reduceEqDiff]
 have he:=qg hF12
 subst he
 simp only [wc,B0,reduceIte,reduceEqDiff]
 exact ⟨v13,c14,by first | trivial | rfl,hv15,(Sep.dc (Sep.m1 hS18))⟩
theorem qil {W:Nat→Bool}{h:Heap} (hW:∀ b,
  (geL h.length) b→W b=true) (readers_0:Int) (ends_1:List Int) (r:Readers_ × Bool) (hF:qb4 readers_0 ends_1=some r) : Ret E W 46 [.int .i64 readers_0,
  lst cI ends_1] h (fun v h'=>cut h.length h' E.sz false 9 v=some (.tup [.agg [.int .i64 r.1.Generation,lst Reader.cells r.1.Readers,lst cI r.1.Committed,
  lst cI r.1.Ends],.bool r.2])):=by
 refine Ret.of (fn:=x46) rfl (Run.of ?_)
 unfold qb4 at hF
 have zf0:zb [.int .i64 readers_0,lst cI ends_1] 0 = .int .i64 readers_0:=rfl
 have zf1:zb [.int .i64 readers_0,lst cI ends_1] 1=lst cI ends_1:=rfl
 generalize zb [.int .i64 readers_0,lst cI ends_1]=fr0 at zf0 zf1 ⊢
 have hS:Sep h (geL h.length) []:=Sep.nil h
 simp only [x46,qf,qe,ja,B0,reduceIte,reduceEqDiff]
 refine zw hS (fun b1 h2 hS3=>?_)
 obtain ⟨v5,hx6,hF7⟩:=qh hF
 simp only [qd,qa,qu1,qf,qe,zf0,zf1,qw,B0,reduceIte,reduceEqDiff]
 refine xz rfl hS3 (qi qs (qi ze qy)) (qe6 (fun b hb=>decide_eq_true hb) readers_0 ends_1 v5 hx6) ?_
 rintro _ h20 ⟨v8,c9,v12,c13,v16,c17,rfl,hv10,hv14,hv18,hS21⟩
 refine ⟨_,qbv (qk (qap (qk rfl (qk (SlN.free1 hv10) (qk (SlF.free1 hv14) (qk (SlF.free1 hv18) zl))))) (qk rfl zl)),hS21,
   (z0 (SlN.pf hv10 Reader.RO) (z0 (SlF.pf hv14 (fun _=>rfl)) (z0 (SlF.pf hv18 (fun _=>rfl)) yc))),fun h22 hS23=>?_⟩
 have hS24:Sep h22 (geL h.length) (c9++(c13++(c17++([Blk1 b1 [.int .i64 0,.nil,.nil,.nil] 29]++([]))))):=by simpa only [List.append_assoc,
   List.nil_append] using hS23
 simp only [yl,qb,yv,yq,zn,B0,reduceIte,reduceEqDiff]
 refine zd (us:=[.int .i64 v5.1.Generation,v8,v12,v16]) rfl (cs':=[.int .i64 v5.1.Generation,v8,v12,
   v16]) (Sep.m3 hS24) hW rfl (qk rfl (qk (SlN.one hv10) (qk (SlF.one hv14) (qk (SlF.one hv18) zl)))) (Nat.le_of_ble_eq_true rfl) rfl (fun h25 hS26=>?_)
 simp only [qd,qa,qx,B0,reduceIte,reduceEqDiff]
 have he:=qg hF7
 subst he
 refine ka (qi (kg (bb:=b1) (oo:=0) (v := .agg [.int .i64 v5.1.Generation,v8,v12,
   v16]) (rfl) ((z7 (Sep.bk _ _ _ hS26)).trans rfl)) (qi (wz (v := .bool v5.2) (rfl)) qy)) ?_
 exact w9 (qi (q21 (qi rfl (qi (SlN.cut hv10 _ (Sep.m1 hS26) (fun _ hb=>hb) rfl Reader.RO) (qi (SlF.cut hv14 (Sep.m2 hS26) (fun _ hb=>hb) rfl
   (fun _=>rfl) (fun _=>rfl)) (qi (SlF.cut hv18 (Sep.m3 hS26) (fun _ hb=>hb) rfl (fun _=>rfl) (fun _=>rfl)) qy))))) (qi rfl qy))
end Go.Proofs.Ytdhibknhejhfaaa.X
