/- The functions' code comes to what the plain functions say (7). -/
import Derived.Test.YtanblnjomhgphaaXAH6
open List renaming append_assoc→r9,drop_succ_cons→s5,drop_zero→t6,nil_append→a0y,take_succ_cons→r8,take_zero→t8
open Nat renaming reduceEqDiff→a8
open Go.Proofs.Ytanblnjomhgphaa.X.Sep renaming dc→a0g,m1→s9,m2→o8,m3→p9,m4→a0i,m5→v3,m6→a13
open Go.Proofs.Ytanblnjomhgphaa.X.SlF renaming free1→a3i,snap→a2r
open Go.Proofs.Ytanblnjomhgphaa.X.SlN renaming free1→a2s,one→a0j,snap→a2n
set_option linter.unusedVariables false
set_option linter.unusedSimpArgs false
set_option maxRecDepth 100000
set_option maxHeartbeats 1000000
namespace Go.Proofs.Ytanblnjomhgphaa.X
open Go
theorem qh1 {W:Nat→Bool}{h:Heap} (hW:∀ b,
  (geL h.length) b→W b=true) (k:Nat) (d8:Int) (a9:List RaftStep) (r:Bool) (hF:xj k d8 a9=some r) : Ret E W 4 [.int .i64 d8,
  lst zb a9] h (fun v h'=>cut h.length h' E.sz false 9 v=some (.bool r)):=by
 refine Ret.of (fn:=x4) rfl (Run.of ?_)
 unfold xj at hF
 have zf0:zf [.int .i64 d8,lst zb a9] 0 = .int .i64 d8:=rfl
 have zf1:zf [.int .i64 d8,lst zb a9] 1=lst zb a9:=rfl
 generalize zf [.int .i64 d8,lst zb a9]=fr0 at zf0 zf1 ⊢
 have hS:Sep h (geL h.length) []:=Sep.nil h
 obtain ⟨v1,hx2,hF3⟩:=qi hF
 simp only [x4,qd,qc,qe,qa,q6g,q5w,zf1,zp,B0,reduceIte,a8]
 refine kh rfl (qp jo (qp zg zm)) (qje (fun b hb=>decide_eq_true hb) a9 1048576 v1 hx2) ?_
 simp only [qe,qa,q8b,qd,qc,qq,qb,yg,qv,B0,reduceIte,a8]
 refine qs (t:=(decide (v1<0))) (fun hc4=>?_) (fun hc4=>?_)
 ·rw [iteT hc4] at hF3
  simp only [qd,qc,qe,qa,qx,B0,reduceIte,a8]
  have he:=qg hF3
  subst he
  simp only [q9,B0,reduceIte,a8]
  exact rfl
 rw [iteF hc4] at hF3
 obtain ⟨v5,hx6,hF7⟩:=qi hF3
 simp only [qw,q2c,qd,qc,zf0,qe,zf1,zp,B0,reduceIte,a8]
 refine qdz rfl hS (qp jo zm) (qa2 (fun b hb=>decide_eq_true hb) k a9 v5 hx6) ?_
 rintro v8 h12 ⟨_,c9,rfl,hv10,hS13⟩
 refine ⟨_,qlj (a3i hv10),hS13,(yz (SlF.pf hv10 (fun _=>rfl)) qb4),fun h14 hS15=>?_⟩
 have hS16:Sep h14 (geL h.length) (c9++([])):=by simpa only [r9,a0y] using hS15
 obtain ⟨v17,hx18,hF19⟩:=qi hF7
 simp only [zp,B0,reduceIte,a8]
 refine qdz rfl hS16 (qp zg (qp (a2r hv10 hS16 rfl (fun _=>rfl) (fun _=>rfl)) zm)) (qlu (fun b hb=>decide_eq_true hb) k d8 v5 v17 hx18) ?_
 rintro _ h32 ⟨v20,c21,v24,c25,v28,c29,rfl,hv22,hv26,hv30,hS33⟩
 refine ⟨_,qjk (qk (qil (qk (a2s hv22) (qk (a2s hv26) zl))) (qk (qm5 (a3i hv30)) (qk rfl zl))),hS33,
   (yz (SlN.pf hv22 Peer.RO) (yz (SlN.pf hv26 Mail.RO) (yz (SlF.pf hv30 (fun _=>rfl)) qb4))),fun h34 hS35=>?_⟩
 have hS36:Sep h34 (geL h.length) (c21++(c25++(c29++(c9++([]))))):=by simpa only [r9,a0y] using hS35
 simp only [qe,qek,qb,qe7,qey,qn9,jm,B0,reduceIte,a8]
 refine z3 hS36 (fun b37 h38 hS39=>?_)
 simp only [zd,B0,reduceIte,a8]
 refine qz (us:=[v20,v24]) rfl (cs':=[v20,v24]) hS39 hW rfl (qk (a0j hv22) (qk (a0j hv26) zl)) (nle rfl) rfl (fun h41 hS42=>?_)
 simp only [qe,qa,B0,reduceIte,a8]
 refine z8 hS42 hW (by simp only [B0,reduceIte,a8]) (fun h43 hS44=>?_)
 obtain ⟨v45,hx46,hF47⟩:=qi hF19
 simp only [z7,q5z,qd,qc,zf1,qe,zp,B0,reduceIte,a8]
 refine qdz rfl hS44 (qp jo zm) (qa2 (fun b hb=>decide_eq_true hb) k a9 v45 hx46) ?_
 rintro v48 h52 ⟨_,c49,rfl,hv50,hS53⟩
 refine ⟨_,qlj (a3i hv50),hS53,(yz (SlF.pf hv50 (fun _=>rfl)) qb4),fun h54 hS55=>?_⟩
 have hS56:Sep h54 (geL h.length) (c49++(c21++(c25++(c29++(c9++([])))))):=by simpa only [r9,a0y] using hS55
 obtain ⟨v57,hx58,hF59⟩:=qi hF47
 simp only [qe,qa,q76,qd,qc,zf0,zp,B0,reduceIte,a8]
 refine qdz rfl hS56 (qp zg (qp (a2r hv50 hS56 rfl (fun _=>rfl) (fun _=>rfl)) zm)) (qhw (fun b hb=>decide_eq_true hb) d8 v45 v57 hx58) ?_
 rintro _ h72 ⟨v60,c61,v64,c65,v68,c69,rfl,hv62,hv66,hv70,hS73⟩
 refine ⟨_,qjk (qk (qil (qk (a2s hv62) (qk (a2s hv66) zl))) (qk (qm5 (a3i hv70)) (qk rfl zl))),hS73,
   (yz (SlN.pf hv62 Peer.RO) (yz (SlN.pf hv66 Mail.RO) (yz (SlF.pf hv70 (fun _=>rfl)) qb4))),fun h74 hS75=>?_⟩
 have hS76:Sep h74 (geL h.length) (c61++(c65++(c69++(c49++(c21++(c25++(c29++(c9++([]))))))))):=by simpa only [r9,a0y] using hS75
 simp only [qe,qek,qb,qe7,qey,qn9,jm,B0,reduceIte,a8]
 refine z3 hS76 (fun b77 h78 hS79=>?_)
 simp only [zd,B0,reduceIte,a8]
 refine qz (us:=[v60,v64]) rfl (cs':=[v60,v64]) hS79 hW rfl (qk (a0j hv62) (qk (a0j hv66) zl)) (nle rfl) rfl (fun h81 hS82=>?_)
 simp only [qe,qa,B0,reduceIte,a8]
 refine z8 hS82 hW (by simp only [B0,reduceIte,a8]) (fun h83 hS84=>?_)
 simp only [z7,q89,qd,qc,qj,B0,reduceIte,a8]
 refine qf (v := .agg [v60,v64]) rfl ?_
 simp only [qj,B0,reduceIte,a8]
 refine qf (v := .agg [v20,v24]) rfl ?_
 obtain ⟨v85,hx86,hF87⟩:=qi hF59
 simp only [zp,B0,reduceIte,a8]
 refine kh rfl (qp (yf (qp (a2n hv62 _ hS84 rfl Peer.RO) (qp (a2n hv66 _ (s9 hS84) rfl Mail.RO) zm))) (qp (yf (qp (a2n hv22 _
   (a0i hS84) rfl Peer.RO) (qp (a2n hv26 _ (v3 hS84) rfl Mail.RO) zm))) zm)) (qgb (fun b hb=>decide_eq_true hb) k v57.1 v17.1 v85 hx86) ?_
 simp only [yk,qb,yw,qe,B0,reduceIte,a8]
 obtain ⟨v91,hx92,hF93⟩:=qi hF87
 refine ki 5 (fun fr' h'=>Sep h' (geL h.length) (c21++(c25++(c29++(c49++(c61++(c65++(c69 ++
   ([]))))))))∧fr' 50 = .bool v91∧fr' 0 = .int .i64 d8∧fr' 1=lst zb a9∧fr' 6 = .ref [v20,
   v24] 0∧fr' 7=v28∧fr' 8 = .bool v17.2.2∧fr' 9=v48∧fr' 10 = .ref [v60,v64] 0∧fr' 11=v68∧fr' 12 = .bool v57.2.2) (fun Q88 hN89=>?_) ?_
 ·simp only [r8,t8]
  simp only [qm (g:=45),B0,reduceIte,a8]
  refine zv (t:=(!v85)) (fun hg90=>?_) (fun hg90=>?_)
  ·rw [iteT hg90] at hx92
   simp only [hg90,qm (g:=45),jp,zk,qb,z1,qa,qr,B0,reduceIte,a8]
   have e94:=qg hx92
   exact hN89 _ _ ⟨(a13 (a13 (a13 (p9 (o8 (o8 (o8 (a0g (Sep.m7 hS84))))))))),by rw [←e94]; simp only [B0,reduceIte,a8],zf0,zf1,rfl,
     rfl,rfl,rfl,rfl,rfl,rfl⟩
  ·rw [iteF hg90] at hx92
   obtain ⟨v95,hx96,hF97⟩:=qi hx92
   simp only [hg90,qm (g:=45),zi,qe,zp,B0,reduceIte,a8]
   refine kh rfl (qp (a2r hv70 (o8 hS84) rfl (fun _=>rfl) (fun _=>rfl)) (qp (a2r hv30 (a13 hS84) rfl (fun _=>rfl) (fun _=>rfl)) zm))
     (qfg (fun b hb=>decide_eq_true hb) k v57.2.1 v17.2.1 v95 hx96) ?_
   simp only [hg90,qm (g:=45),zi,yk,qb,yw,zk,zz,qa,qr,B0,reduceIte,a8]
   have e98:=qg hF97
   exact hN89 _ _ ⟨(a13 (a13 (a13 (p9 (o8 (o8 (o8 (a0g (Sep.m7 hS84))))))))),by rw [←e98]; simp only [B0,reduceIte,a8],zf0,zf1,rfl,
     rfl,rfl,rfl,rfl,rfl,rfl⟩
 rintro fr99 h110 ⟨hS111,f100,f101,f102,f103,f104,f105,f106,f107,f108,f109⟩
 simp only [s5,t6]
 simp only [f100,qe,B0,reduceIte,a8]
 refine ki 4 (fun fr' h'=>Sep h' (geL h.length) (c21++(c25++(c29++(c49++(c61++(c65++(c69++([]))))))))∧fr' 55 = .bool (v91 ||
   (!(v57.2.2 == v17.2.2)))∧fr' 0 = .int .i64 d8∧fr' 1=lst zb a9∧fr' 6 = .ref [v20,
   v24] 0∧fr' 7=v28∧fr' 8 = .bool v17.2.2∧fr' 9=v48∧fr' 10 = .ref [v60,v64] 0∧fr' 11=v68∧fr' 12 = .bool v57.2.2) (fun Q112 hN113=>?_) ?_
 ·simp only [r8,t8]
  simp only [qm (g:=51),B0,reduceIte,a8]
  refine zv (t:=v91) (fun hg114=>?_) (fun hg114=>?_)
  ·simp only [hg114,qm (g:=51),jp,zk,qb,z1,qa,qr,B0,reduceIte,a8]
   exact hN113 _ _ ⟨(a13 (a13 (a13 (a13 (a13 (a13 (a13 hS111))))))),by rw [orT hg114]; simp only [B0,reduceIte,a8],f101,f102,f103,f104,
     f105,f106,f107,f108,f109⟩
  ·simp only [hg114,qm (g:=51),zi,f109,qe,f105,qej,qb,qe0,zk,zz,qa,qr,B0,reduceIte,a8]
   exact hN113 _ _ ⟨(a13 (a13 (a13 (a13 (a13 (a13 (a13 hS111))))))),by rw [orF hg114]; simp only [B0,reduceIte,a8],f101,f102,f103,f104,
     f105,f106,f107,f108,f109⟩
 rintro fr115 h126 ⟨hS127,f116,f117,f118,f119,f120,f121,f122,f123,f124,f125⟩
 simp only [s5,t6]
 simp only [qa,f116,qv,B0,reduceIte,a8]
 refine qs (t:=(v91||(!(v57.2.2 == v17.2.2)))) (fun hc128=>?_) (fun hc128=>?_)
 ·rw [iteT hc128] at hF93
  simp only [qd,qc,qe,qa,qx,B0,reduceIte,a8]
  have he:=qg hF93
  subst he
  simp only [q9,B0,reduceIte,a8]
  exact rfl
 rw [iteF hc128] at hF93
 obtain ⟨v129,hx130,hF131⟩:=qi hF93
 simp only [qw,q8a,qd,qc,f122,qe,f118,zp,B0,reduceIte,a8]
 refine qdz rfl hS127 (qp jo zm) (qa2 (fun b hb=>decide_eq_true hb) k a9 v129 hx130) ?_
 rintro v132 h136 ⟨_,c133,rfl,hv134,hS137⟩
 refine ⟨_,qlj (a3i hv134),hS137,(yz (SlF.pf hv134 (fun _=>rfl)) qb4),fun h138 hS139=>?_⟩
 have hS140:Sep h138 (geL h.length) (c133++(c21++(c25++(c29++(c49++(c61++(c65++(c69++([]))))))))):=by simpa only [r9,
   a0y] using hS139
 obtain ⟨v141,hx142,hF143⟩:=qi hF131
 simp only [zp,B0,reduceIte,a8]
 refine kh rfl (qp (a2r hv50 (a0i hS140) rfl (fun _=>rfl) (fun _=>rfl)) (qp (a2r hv134 hS140 rfl (fun _=>rfl) (fun _=>rfl)) zm))
   (qjd (fun b hb=>decide_eq_true hb) k v45 v129 v141 hx142) ?_
 simp only [yk,qb,yw,qa,qv,B0,reduceIte,a8]
 refine qs (t:=(!v141)) (fun hc144=>?_) (fun hc144=>?_)
 ·rw [iteT hc144] at hF143
  simp only [qd,qc,qe,qa,qx,B0,reduceIte,a8]
  have he:=qg hF143
  subst he
  simp only [q9,B0,reduceIte,a8]
  exact rfl
 rw [iteF hc144] at hF143
 obtain ⟨v145,hx146,hF147⟩:=qi hF143
 simp only [qw,q46,qd,qc,qe,qa,q6f,f122,zp,B0,reduceIte,a8]
 refine qab rfl (qiq hW k v48 c49 v45 hv50 1 v145 hx146 (a0i hS140)) ?_
 rintro _ h150 ⟨c148,rfl,hv149,hS151⟩
 simp only [qe,qa,q6y,qd,qc,qq,qb,yg,B0,reduceIte,a8]
 obtain ⟨v155,hx156,hF157⟩:=qi hF147
 refine ki 5 (fun fr' h'=>Sep h' (geL h.length) (c21++(c25++(c29++(c61++(c65++(c69 ++
   ([])))))))∧fr' 71 = .bool v155∧fr' 0 = .int .i64 d8∧fr' 1=lst zb a9∧fr' 6 = .ref [v20,
   v24] 0∧fr' 7=v28∧fr' 8 = .bool v17.2.2∧fr' 10 = .ref [v60,v64] 0∧fr' 11=v68∧fr' 12 = .bool v57.2.2) (fun Q152 hN153=>?_) ?_
 ·simp only [r8,t8]
  simp only [qm (g:=66),B0,reduceIte,a8]
  refine zv (t:=(decide (v145.1<0))) (fun hg154=>?_) (fun hg154=>?_)
  ·rw [iteT hg154] at hx156
   simp only [hg154,qm (g:=66),jp,zk,qb,z1,qa,qr,B0,reduceIte,a8]
   have e158:=qg hx156
   exact hN153 _ _ ⟨(v3 (v3 (v3 (v3 (v3 (v3 (a0g ((a0g (hS151)))))))))),by rw [←e158]; simp only [B0,reduceIte,a8],f117,f118,
     f119,f120,f121,f123,f124,f125⟩
  ·rw [iteF hg154] at hx156
   simp only [hg154,qm (g:=66),zi,f123,qj,B0,reduceIte,a8]
   refine qf (v := .agg [v60,v64]) rfl ?_
   simp only [hg154,qm (g:=66),zi,f119,qj,B0,reduceIte,a8]
   refine qf (v := .agg [v20,v24]) rfl ?_
   obtain ⟨v159,hx160,hF161⟩:=qi hx156
   simp only [hg154,qm (g:=66),zi,zp,B0,reduceIte,a8]
   refine kh rfl (qp (yf (qp (a2n hv62 _ (v3 hS151) rfl Peer.RO) (qp (a2n hv66 _ (a13 hS151) rfl Mail.RO) zm))) (qp (yf (qp
     (a2n hv22 _ (o8 hS151) rfl Peer.RO) (qp (a2n hv26 _ (p9 hS151) rfl Mail.RO) zm))) zm)) (qgb
     (fun b hb=>decide_eq_true hb) k v57.1 v17.1 v159 hx160) ?_
   simp only [hg154,qm (g:=66),zi,yk,qb,yw,zk,zz,qa,qr,B0,reduceIte,a8]
   have e162:=qg hF161
   exact hN153 _ _ ⟨(v3 (v3 (v3 (v3 (v3 (v3 (a0g ((a0g (hS151)))))))))),by rw [←e162]; simp only [B0,reduceIte,a8],f117,f118,
     f119,f120,f121,f123,f124,f125⟩
 rintro fr163 h173 ⟨hS174,f164,f165,f166,f167,f168,f169,f170,f171,f172⟩
 simp only [s5,t6]
 simp only [f164,qe,B0,reduceIte,a8]
 obtain ⟨v178,hx179,hF180⟩:=qi hF157
 refine ki 5 (fun fr' h'=>Sep h' (geL h.length) (c21++(c25++(c29++(c61++(c65++(c69 ++
   ([])))))))∧fr' 77 = .bool v178∧fr' 0 = .int .i64 d8∧fr' 1=lst zb a9∧fr' 6 = .ref [v20,
   v24] 0∧fr' 7=v28∧fr' 8 = .bool v17.2.2∧fr' 10 = .ref [v60,v64] 0∧fr' 11=v68∧fr' 12 = .bool v57.2.2) (fun Q175 hN176=>?_) ?_
 ·simp only [r8,t8]
  simp only [qm (g:=72),B0,reduceIte,a8]
  refine zv (t:=v155) (fun hg177=>?_) (fun hg177=>?_)
  ·rw [iteT hg177] at hx179
   simp only [hg177,qm (g:=72),jp,zk,qb,z1,qa,qr,B0,reduceIte,a8]
   have e181:=qg hx179
   exact hN176 _ _ ⟨(v3 (v3 (v3 (v3 (v3 (v3 hS174)))))),by rw [←e181]; simp only [B0,reduceIte,a8],f165,f166,f167,f168,f169,f170,
     f171,f172⟩
  ·rw [iteF hg177] at hx179
   obtain ⟨v182,hx183,hF184⟩:=qi hx179
   simp only [hg177,qm (g:=72),zi,f171,qe,f168,zp,B0,reduceIte,a8]
   refine kh rfl (qp (a2r hv70 (v3 hS174) rfl (fun _=>rfl) (fun _=>rfl)) (qp (a2r hv30 (o8 hS174) rfl (fun _=>rfl) (fun _=>rfl)) zm))
     (qfg (fun b hb=>decide_eq_true hb) k v57.2.1 v17.2.1 v182 hx183) ?_
   simp only [hg177,qm (g:=72),zi,yk,qb,yw,zk,zz,qa,qr,B0,reduceIte,a8]
   have e185:=qg hF184
   exact hN176 _ _ ⟨(v3 (v3 (v3 (v3 (v3 (v3 hS174)))))),by rw [←e185]; simp only [B0,reduceIte,a8],f165,f166,f167,f168,f169,f170,
     f171,f172⟩
 rintro fr186 h196 ⟨hS197,f187,f188,f189,f190,f191,f192,f193,f194,f195⟩
 simp only [s5,t6]
 simp only [f187,qe,B0,reduceIte,a8]
 refine ki 4 (fun fr' h'=>Sep h' (geL h.length) (c21++(c25++(c29++(c61++(c65++(c69++([])))))))∧fr' 82 = .bool (v178 ||
   (!(v57.2.2 == v17.2.2)))∧fr' 0 = .int .i64 d8∧fr' 1=lst zb a9∧fr' 6 = .ref [v20,v24] 0∧fr' 7=v28∧fr' 8 = .bool v17.2.2∧fr' 10 = .ref [v60,
   v64] 0∧fr' 11=v68) (fun Q198 hN199=>?_) ?_
 ·simp only [r8,t8]
  simp only [qm (g:=78),B0,reduceIte,a8]
  refine zv (t:=v178) (fun hg200=>?_) (fun hg200=>?_)
  ·simp only [hg200,qm (g:=78),jp,zk,qb,z1,qa,qr,B0,reduceIte,a8]
   exact hN199 _ _ ⟨(v3 (v3 (v3 (v3 (v3 (v3 hS197)))))),by rw [orT hg200]; simp only [B0,reduceIte,a8],f188,f189,f190,f191,f192,f193,
     f194⟩
  ·simp only [hg200,qm (g:=78),zi,f195,qe,f192,qej,qb,qe0,zk,zz,qa,qr,B0,reduceIte,a8]
   exact hN199 _ _ ⟨(v3 (v3 (v3 (v3 (v3 (v3 hS197)))))),by rw [orF hg200]; simp only [B0,reduceIte,a8],f188,f189,f190,f191,f192,f193,
     f194⟩
 rintro fr201 h210 ⟨hS211,f202,f203,f204,f205,f206,f207,f208,f209⟩
 simp only [s5,t6]
 simp only [qa,f202,qv,B0,reduceIte,a8]
 refine qs (t:=(v178||(!(v57.2.2 == v17.2.2)))) (fun hc212=>?_) (fun hc212=>?_)
 ·rw [iteT hc212] at hF180
  simp only [qd,qc,qe,qa,qx,B0,reduceIte,a8]
  have he:=qg hF180
  subst he
  simp only [q9,B0,reduceIte,a8]
  exact rfl
 rw [iteF hc212] at hF180
 simp only [qw,q9c,qd,qc,qe,qa,q5q,f208,qj,B0,reduceIte,a8]
 refine qf (v := .agg [v60,v64]) rfl ?_
 obtain ⟨v213,hx214,hF215⟩:=qi hF180
 simp only [qe,zp,B0,reduceIte,a8]
 refine qab rfl (ql1 hW k v57.1 v60 c61 hv62 v64 c65 hv66 1 v213 hx214 (a0i (a0i hS211))) ?_
 rintro _ h220 ⟨c216,c218,rfl,hv217,hv219,hS221⟩
 obtain ⟨v222,hx223,hF224⟩:=qi hF215
 simp only [qe,qa,q4n,qd,qc,f209,zp,B0,reduceIte,a8]
 refine qab rfl (qku hW k v68 c69 v57.2.1 hv70 v213.1 v222 hx223 (v3 hS221)) ?_
 rintro _ h227 ⟨c225,rfl,hv226,hS228⟩
 simp only [qe,qa,q9b,qd,qc,q7p,f208,qj,B0,reduceIte,a8]
 refine qf (v := .agg [v60,v64]) rfl ?_
 obtain ⟨v229,hx230,hF231⟩:=qi hF224
 simp only [qe,zp,B0,reduceIte,a8]
 refine kh rfl (qp (yf (qp (a2n hv217 _ (s9 hS228) rfl Peer.RO) (qp (a2n hv219 _ (o8 hS228) rfl Mail.RO) zm))) (qp zg zm))
   (qhp (fun b hb=>decide_eq_true hb) k v213.2 1 v229 hx230) ?_
 simp only [qe,qa,q56,qd,qc,qq,qb,yg,qv,B0,reduceIte,a8]
 refine qs (t:=(decide (v229<0))) (fun hc232=>?_) (fun hc232=>?_)
 ·rw [iteT hc232] at hF231
  simp only [qd,qc,qe,qa,qx,B0,reduceIte,a8]
  have he:=qg hF231
  subst he
  simp only [q9,B0,reduceIte,a8]
  exact rfl
 rw [iteF hc232] at hF231
 obtain ⟨v233,hx234,hF235⟩:=qi hF231
 simp only [qw,zac,qd,qc,f209,qe,zp,B0,reduceIte,a8]
 refine kh rfl (qp (a2r hv226 hS228 rfl (fun _=>rfl) (fun _=>rfl)) (qp zg zm)) (qg0
   (fun b hb=>decide_eq_true hb) k v222.2 v229 v233 hx234) ?_
 simp only [qe,qa,q6e,qd,qc,qq,qb,yg,qv,B0,reduceIte,a8]
 refine qs (t:=(decide (v233<0))) (fun hc236=>?_) (fun hc236=>?_)
 ·rw [iteT hc236] at hF235
  simp only [qd,qc,qe,qa,qx,B0,reduceIte,a8]
  have he:=qg hF235
  subst he
  simp only [q9,B0,reduceIte,a8]
  exact rfl
 rw [iteF hc236] at hF235
 simp only [qw,zch,qd,qc,qe,qq,qb,ya,qa,qv,B0,reduceIte,a8]
 refine qs (t:=(decide (v233≠v222.1))) (fun hc237=>?_) (fun hc237=>?_)
 ·rw [iteT hc237] at hF235
  simp only [qd,qc,qe,qa,qx,B0,reduceIte,a8]
  have he:=qg hF235
  subst he
  simp only [q9,B0,reduceIte,a8]
  exact rfl
 rw [iteF hc237] at hF235
 obtain ⟨v238,hx239,hF240⟩:=qi hF235
 simp only [qw,zdg,qd,qc,f203,qe,f204,zp,B0,reduceIte,a8]
 refine qdz rfl hS228 (qp jo zm) (qa2 (fun b hb=>decide_eq_true hb) k a9 v238 hx239) ?_
 rintro v241 h245 ⟨_,c242,rfl,hv243,hS246⟩
 refine ⟨_,qlj (a3i hv243),hS246,(yz (SlF.pf hv243 (fun _=>rfl)) qb4),fun h247 hS248=>?_⟩
 have hS249:Sep h247 (geL h.length) (c242++(c225++(c216++(c218++(c21++(c25++(c29++([])))))))):=by simpa only [r9,a0y] using hS248
 obtain ⟨v250,hx251,hF252⟩:=qi hF240
 simp only [zp,B0,reduceIte,a8]
 refine qdz rfl hS249 (qp zg (qp (a2r hv243 hS249 rfl (fun _=>rfl) (fun _=>rfl)) zm)) (qhw
   (fun b hb=>decide_eq_true hb) d8 v238 v250 hx251) ?_
 rintro _ h265 ⟨v253,c254,v257,c258,v261,c262,rfl,hv255,hv259,hv263,hS266⟩
 refine ⟨_,qjk (qk (qil (qk (a2s hv255) (qk (a2s hv259) zl))) (qk (qm5 (a3i hv263)) (qk rfl zl))),hS266,
   (yz (SlN.pf hv255 Peer.RO) (yz (SlN.pf hv259 Mail.RO) (yz (SlF.pf hv263 (fun _=>rfl)) qb4))),fun h267 hS268=>?_⟩
 have hS269:Sep h267 (geL h.length) (c254++(c258++(c262++(c242++(c225++(c216++(c218++(c21++(c25++(c29++([]))))))))))):=by simpa only [r9,
   a0y] using hS268
 simp only [qe,qek,qb,qe7,qey,qn9,jm,B0,reduceIte,a8]
 refine z3 hS269 (fun b270 h271 hS272=>?_)
 simp only [zd,B0,reduceIte,a8]
 refine qz (us:=[v253,v257]) rfl (cs':=[v253,v257]) hS272 hW rfl (qk (a0j hv255) (qk (a0j hv259) zl)) (nle rfl) rfl (fun h274 hS275=>?_)
 simp only [qe,qa,B0,reduceIte,a8]
 refine z8 hS275 hW (by simp only [B0,reduceIte,a8]) (fun h276 hS277=>?_)
 simp only [z7,zcz,qd,qc,qj,B0,reduceIte,a8]
 refine qf (v := .agg [v253,v257]) rfl ?_
 simp only [f205,qj,B0,reduceIte,a8]
 refine qf (v := .agg [v20,v24]) rfl ?_
 obtain ⟨v278,hx279,hF280⟩:=qi hF252
 simp only [zp,B0,reduceIte,a8]
 refine kh rfl (qp (yf (qp (a2n hv255 _ hS277 rfl Peer.RO) (qp (a2n hv259 _ (s9 hS277) rfl Mail.RO) zm))) (qp (yf (qp
   (a2n hv22 _ (Sep.m7 hS277) rfl Peer.RO) (qp (a2n hv26 _ (Sep.m8 hS277) rfl Mail.RO) zm))) zm)) (qgb
   (fun b hb=>decide_eq_true hb) k v250.1 v17.1 v278 hx279) ?_
 simp only [yk,qb,yw,qe,B0,reduceIte,a8]
 obtain ⟨v284,hx285,hF286⟩:=qi hF280
 refine ki 5 (fun fr' h'=>Sep h' (geL h.length) (c216++(c218++(c225++([]))))∧fr' 119 = .bool v284∧fr' 8 = .bool v17.2.2∧fr' 10 = .ref [v60,
   v64] 0∧fr' 11=v68∧fr' 14 = .int .i64 v222.1∧fr' 18 = .bool v250.2.2) (fun Q281 hN282=>?_) ?_
 ·simp only [r8,t8]
  simp only [qm (g:=114),B0,reduceIte,a8]
  refine zv (t:=(!v278)) (fun hg283=>?_) (fun hg283=>?_)
  ·rw [iteT hg283] at hx285
   simp only [hg283,qm (g:=114),jp,zk,qb,z1,qa,qr,B0,reduceIte,a8]
   have e287:=qg hx285
   exact hN282 _ _ ⟨(o8 (o8 (a0g (p9 (a0g (p9 (a0g (p9 (a0g ((a0g ((a0g ((a0g (hS277)))))))))))))))),by rw [←e287]; simp only [B0,
     reduceIte,a8],f207,f208,f209,rfl,rfl⟩
  ·rw [iteF hg283] at hx285
   obtain ⟨v288,hx289,hF290⟩:=qi hx285
   simp only [hg283,qm (g:=114),zi,qe,f206,zp,B0,reduceIte,a8]
   refine kh rfl (qp (a2r hv263 (o8 hS277) rfl (fun _=>rfl) (fun _=>rfl)) (qp (a2r hv30 (Sep.m9 hS277) rfl (fun _=>rfl) (fun _=>rfl)) zm))
     (qfg (fun b hb=>decide_eq_true hb) k v250.2.1 v17.2.1 v288 hx289) ?_
   simp only [hg283,qm (g:=114),zi,yk,qb,yw,zk,zz,qa,qr,B0,reduceIte,a8]
   have e291:=qg hF290
   exact hN282 _ _ ⟨(o8 (o8 (a0g (p9 (a0g (p9 (a0g (p9 (a0g ((a0g ((a0g ((a0g (hS277)))))))))))))))),by rw [←e291]; simp only [B0,
     reduceIte,a8],f207,f208,f209,rfl,rfl⟩
 rintro fr292 h299 ⟨hS300,f293,f294,f295,f296,f297,f298⟩
 simp only [s5,t6]
 simp only [f293,qe,B0,reduceIte,a8]
 refine ki 4 (fun fr' h'=>Sep h' (geL h.length) (c216++(c218++(c225++([]))))∧fr' 124 = .bool (v284||(!(v250.2.2 == v17.2.2)))∧fr' 10 = .ref [v60,
   v64] 0∧fr' 11=v68∧fr' 14 = .int .i64 v222.1) (fun Q301 hN302=>?_) ?_
 ·simp only [r8,t8]
  simp only [qm (g:=120),B0,reduceIte,a8]
  refine zv (t:=v284) (fun hg303=>?_) (fun hg303=>?_)
  ·simp only [hg303,qm (g:=120),jp,zk,qb,z1,qa,qr,B0,reduceIte,a8]
   exact hN302 _ _ ⟨(o8 (o8 (o8 hS300))),by rw [orT hg303]; simp only [B0,reduceIte,a8],f295,f296,f297⟩
  ·simp only [hg303,qm (g:=120),zi,f298,qe,f294,qej,qb,qe0,zk,zz,qa,qr,B0,reduceIte,a8]
   exact hN302 _ _ ⟨(o8 (o8 (o8 hS300))),by rw [orF hg303]; simp only [B0,reduceIte,a8],f295,f296,f297⟩
 rintro fr304 h309 ⟨hS310,f305,f306,f307,f308⟩
 simp only [s5,t6]
 simp only [qa,f305,qv,B0,reduceIte,a8]
 refine qs (t:=(v284||(!(v250.2.2 == v17.2.2)))) (fun hc311=>?_) (fun hc311=>?_)
 ·rw [iteT hc311] at hF286
  simp only [qd,qc,qe,qa,qx,B0,reduceIte,a8]
  have he:=qg hF286
  subst he
  simp only [q9,B0,reduceIte,a8]
  exact rfl
 rw [iteF hc311] at hF286
 simp only [qw,zb7,qd,qc,qe,qa,zbq,f306,qj,B0,reduceIte,a8]
 refine qf (v := .agg [v60,v64]) rfl ?_
 obtain ⟨v312,hx313,hF314⟩:=qi hF286
 simp only [qe,zp,B0,reduceIte,a8]
 refine kh rfl (qp (yf (qp (a2n hv217 _ hS310 rfl Peer.RO) (qp (a2n hv219 _ (s9 hS310) rfl Mail.RO) zm))) (qp zg zm))
   (qhp (fun b hb=>decide_eq_true hb) k v213.2 1 v312 hx313) ?_
 simp only [qe,qa,zck,qd,qc,qq,qb,yg,qv,B0,reduceIte,a8]
 refine qs (t:=(decide (v312<0))) (fun hc315=>?_) (fun hc315=>?_)
 ·rw [iteT hc315] at hF314
  simp only [qd,qc,qe,qa,qx,B0,reduceIte,a8]
  have he:=qg hF314
  subst he
  simp only [q9,B0,reduceIte,a8]
  exact rfl
 rw [iteF hc315] at hF314
 obtain ⟨v316,hx317,hF318⟩:=qi hF314
 simp only [qw,zdr,qd,qc,f307,qe,zp,B0,reduceIte,a8]
 refine kh rfl (qp (a2r hv226 (o8 hS310) rfl (fun _=>rfl) (fun _=>rfl)) (qp zg zm)) (qg0
   (fun b hb=>decide_eq_true hb) k v222.2 v312 v316 hx317) ?_
 simp only [qe,qa,zca,qd,qc,qq,qb,yg,qv,B0,reduceIte,a8]
 refine qs (t:=(decide (v316<0))) (fun hc319=>?_) (fun hc319=>?_)
 ·rw [iteT hc319] at hF318
  simp only [qd,qc,qe,qa,qx,B0,reduceIte,a8]
  have he:=qg hF318
  subst he
  simp only [q9,B0,reduceIte,a8]
  exact rfl
 rw [iteF hc319] at hF318
 simp only [qw,zcu,qd,qc,qe,f308,qq,qb,ya,qa,qv,B0,reduceIte,a8]
 refine qs (t:=(decide (v316≠v222.1))) (fun hc320=>?_) (fun hc320=>?_)
 ·rw [iteT hc320] at hF318
  simp only [qd,qc,qe,qa,qx,B0,reduceIte,a8]
  have he:=qg hF318
  subst he
  simp only [q9,B0,reduceIte,a8]
  exact rfl
 rw [iteF hc320] at hF318
 simp only [qw,qd,qc,qe,qa,qx,B0,reduceIte,a8]
 have he:=qg hF318
 subst he
 simp only [q9,B0,reduceIte,a8]
 exact rfl
end Go.Proofs.Ytanblnjomhgphaa.X
