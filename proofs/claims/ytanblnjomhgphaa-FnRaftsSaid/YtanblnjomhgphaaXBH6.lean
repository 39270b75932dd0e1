/- The functions' code comes to what the plain functions say (6). -/
import Derived.Test.YtanblnjomhgphaaXBH5
open Go.IntKind renaming wrap→r8
open List renaming append_assoc→t7,drop_succ_cons→s6,drop_zero→t3,length→p9,nil_append→a08,take_succ_cons→s5,take_zero→t4
open Nat renaming add_zero→o9,reduceAdd→o7,reduceEqDiff→a8,zero_add→o8
open Go.Proofs.Ytanblnjomhgphaa.X.Sep renaming bk→a0g,dc→a0k,m1→t6,m2→s9,m3→t5,m4→a0j,m5→t8,nil→a14
open Go.Proofs.Ytanblnjomhgphaa.X.SlF renaming first→a3o,one→a01
open Go.Proofs.Ytanblnjomhgphaa.X.SlG renaming cls0→a1h,toN→a1e
open Go.Proofs.Ytanblnjomhgphaa.X.SlN renaming free1→a2v,nil→a2u,one→a0n,snap→a35
set_option linter.unusedVariables false
set_option linter.unusedSimpArgs false
set_option maxRecDepth 100000
set_option maxHeartbeats 1000000
namespace Go.Proofs.Ytanblnjomhgphaa.X
open Go
theorem qkw {W:Nat→Bool}{h:Heap} (hW:∀ b,
  (geL h.length) b→W b=true) (d8:Raft) (a9:RaftStep) (r:Raft × Bool) (hF:k8 d8 a9=some r) : Ret E W 46 [.agg [lst qs d8.Peers,
  lst qu d8.Mail],.agg [.int .i64 a9.Kind,.int .i64 a9.K,.int .i64 a9.To,.int .i64 a9.N]] h (fun v h'=>∃ l9 g9 i5 i0,v = .tup [.agg [l9,
  i5],.bool r.2]∧SlN Peer.R 5 43 l9 r.1.Peers g9∧SlN Mail.R 9 86 i5 r.1.Mail i0∧Sep h' (geL h.length) (g9++(i0++([])))):=by
 refine Ret.of (fn:=x46) rfl (Run.of ?_)
 unfold k8 at hF
 have zf0:zk [.agg [lst qs d8.Peers,lst qu d8.Mail],.agg [.int .i64 a9.Kind,.int .i64 a9.K,.int .i64 a9.To,
   .int .i64 a9.N]] 0 = .agg [lst qs d8.Peers,lst qu d8.Mail]:=rfl
 have zf1:zk [.agg [lst qs d8.Peers,lst qu d8.Mail],.agg [.int .i64 a9.Kind,.int .i64 a9.K,.int .i64 a9.To,
   .int .i64 a9.N]] 1 = .agg [.int .i64 a9.Kind,.int .i64 a9.K,.int .i64 a9.To,.int .i64 a9.N]:=rfl
 generalize zk [.agg [lst qs d8.Peers,lst qu d8.Mail],.agg [.int .i64 a9.Kind,.int .i64 a9.K,.int .i64 a9.To,.int .i64 a9.N]]=fr0 at zf0 zf1 ⊢
 have hS:Sep h (geL h.length) []:=a14 h
 simp only [x46,qf,qe,ym,zf0,B0,reduceIte,a8]
 refine ko (cs:=[lst qs d8.Peers,lst qu d8.Mail]) hS rfl rfl rfl (fun b1 h2 hS3=>?_)
 simp only [ym,zf1,B0,reduceIte,a8]
 refine ko (cs:=[.int .i64 a9.Kind,.int .i64 a9.K,.int .i64 a9.To,.int .i64 a9.N]) hS3 rfl rfl rfl (fun b5 h6 hS7=>?_)
 simp only [ji,B0,reduceIte,a8]
 refine z6 hS7 (fun b9 h10 hS11=>?_)
 simp only [qg,qa,B0,reduceIte,a8]
 refine jc (s9 hS11) hW (by simp only [B0,reduceIte,a8]) (fun h13 hS14=>?_)
 refine jc (t6 hS14) hW (by simp only [B0,reduceIte,a8]) (fun h15 hS16=>?_)
 simp only [z5,qsh,qf,qe,ql,B0,reduceIte,a8]
 refine qd (v := .agg [lst qs d8.Peers,lst qu d8.Mail]) rfl ?_
 obtain ⟨v17,hx18,hF19⟩:=qk hF
 simp only [zi,B0,reduceIte,a8]
 refine qgh rfl hS16 (qt (wk (qt jh (qt jh zm))) zm) (qls (fun b hb=>decide_eq_true hb) d8 v17 hx18) ?_
 rintro _ h28 ⟨v20,c21,v24,c25,rfl,hv22,hv26,hS29⟩
 refine ⟨_,qjx (qp (a2v hv22) (qp (a2v hv26) zp)),hS29,(wu (SlN.pf hv22 Peer.RO) (wu (SlN.pf hv26 Mail.RO) qda)),fun h30 hS31=>?_⟩
 have hS32:Sep h30 (geL h.length) (c21++(c25++([Blk1 b9 [.nil,.nil] 29]++([])))):=by simpa only [t7,a08] using hS31
 simp only [ji,B0,reduceIte,a8]
 refine z6 hS32 (fun b33 h34 hS35=>?_)
 simp only [zh,B0,reduceIte,a8]
 refine qy (us:=[v20,v24]) rfl (cs':=[v20,v24]) hS35 hW rfl (qp (a0n hv22) (qp (a0n hv26) zp)) (nle rfl) rfl (fun h37 hS38=>?_)
 simp only [qa,qtn,qf,qe,qg,qsn,qo,qb,o7,o8,o9,qn,ql,B0,reduceIte,a8]
 refine qd (v := .int .i64 a9.Kind) rfl ?_
 simp only [qa,qwf,wx,qxy,qf,qe,qx,qb,ku,qg,qyc,q8,B0,reduceIte,a8]
 refine q9 (t:=(decide (a9.Kind=1))) (fun hc39=>?_) (fun hc39=>?_)
 ·rw [iteT hc39] at hF19
  simp only [q4d,qe,qo,qb,o7,o8,o9,qn,ql,B0,reduceIte,a8]
  refine qd (v := .int .i64 a9.To) rfl ?_
  simp only [qx,qb,ku,qg,B0,reduceIte,a8]
  refine jf 8 (fun fr' h'=>Sep h' (geL h.length) ([Blk1 b9 [.nil,.nil] 29]++([Blk1 b33 [v20,
    v24] 29]++(c21++(c25++([])))))∧fr' 26 = .bool ((decide (a9.To=0))&&(zg a9.K 0 (r8 .i64
    ((p9 d8.Peers:Int) - 1))))∧fr' 3 = .ref [.int .i64 a9.Kind,.int .i64 a9.K,.int .i64 a9.To,
    .int .i64 a9.N] 0∧fr' 4 = .ptr b9 0∧fr' 6 = .ptr b33 0) (fun Q40 hN41=>?_) ?_
  ·simp only [s5,t4]
   simp only [qc (g:=18),B0,reduceIte,a8]
   refine zf (t:=(decide (a9.To=0))) (fun hg42=>?_) (fun hg42=>?_)
   ·simp only [hg42,qc (g:=18),zu,qo,qb,o7,o8,o9,qn,ql,B0,reduceIte,a8]
    refine qd (v := .int .i64 a9.K) rfl ?_
    simp only [hg42,qc (g:=18),zu,qo,qb,o7,o8,o9,qn,ql,B0,reduceIte,a8]
    refine qd (v:=lst qs d8.Peers) rfl ?_
    simp only [hg42,qc (g:=18),zu,zq,qb,z7,qx,qbp,zi,B0,reduceIte,a8]
    refine jx rfl (qt zb (qt zb (qt zb zm))) (ya (fun b hb=>decide_eq_true hb) a9.K 0 (r8 .i64
      ((p9 d8.Peers:Int) - 1)) _ rfl) ?_
    simp only [hg42,qw,qb,zo,qa,qm,B0,reduceIte,a8]
    exact hN41 _ _ ⟨(t5 (s9 (s9 (s9 hS38)))),by rw [qat hg42]; simp only [B0,reduceIte,a8],rfl,rfl,rfl⟩
   ·simp only [hg42,qc (g:=18),kj,qw,qb,zn,qa,qm,B0,reduceIte,a8]
    exact hN41 _ _ ⟨(t5 (s9 (s9 (s9 hS38)))),by rw [qao hg42]; simp only [B0,reduceIte,a8],rfl,rfl,rfl⟩
  rintro fr43 h48 ⟨hS49,f44,f45,f46,f47⟩
  simp only [s6,t3]
  simp only [f44,qg,B0,reduceIte,a8]
  obtain ⟨sv60,hX58,hk59⟩:=qk hF19
  refine jf 6 (fun fr' h'=>∃ c52 c55,fr' 4 = .ptr b9 0∧fr' 6 = .ptr b33 0∧fr' 33 = .bool sv60.1∧SlN Peer.R 5 43 v20 sv60.2.1 c52∧SlN Mail.R 9 86 v24 sv60.2.2 c55∧Sep h'
    (geL h.length) ([Blk1 b9 [.nil,.nil] 29]++([Blk1 b33 [v20,v24] 29]++(c52++(c55++([])))))) (fun Q61 hN62=>?_) ?_
  ·simp only [s5,t4]
   simp only [qc (g:=27),B0,reduceIte,a8]
   refine zf (t:=((decide (a9.To=0))&&(zg a9.K 0 (r8 .i64 ((p9 d8.Peers:Int) - 1))))) (fun hg65=>?_) (fun hg65=>?_)
   ·rw [iteT hg65] at hX58
    simp only [hg65,qc (g:=27),zu,f45,qo,qb,o7,o8,o9,qn,ql,B0,reduceIte,a8]
    refine qd (v := .int .i64 a9.K) rfl ?_
    simp only [hg65,qc (g:=27),zu,f45,qo,qb,o7,o8,o9,qn,ql,B0,reduceIte,a8]
    refine qd (v := .int .i64 a9.N) rfl ?_
    obtain ⟨v66,hx67,hF68⟩:=qk hX58
    simp only [hg65,qc (g:=27),zu,f47,zi,B0,reduceIte,a8]
    refine yx rfl (qkn hW b33 v17 v20 c21 hv22 v24 c25 hv26 a9.K a9.N v66 hx67 (t5 (t5 (t5 hS49)))) ?_
    rintro _ h73 ⟨c69,c71,rfl,hv70,hv72,hS74⟩
    simp only [hg65,qw,qb,zo,qa,qm,B0,reduceIte,a8]
    have e75:=qj hF68
    subst e75
    exact hN62 _ _ ⟨c69,c71,f46,f47,rfl,hv70,hv72,(t5 (s9 (s9 (s9 hS74))))⟩
   ·rw [iteF hg65] at hX58
    simp only [hg65,qc (g:=27),kj,qw,qb,zn,qa,qm,B0,reduceIte,a8]
    have e76:=qj hX58
    subst e76
    exact hN62 _ _ ⟨c21,c25,f46,f47,rfl,hv22,hv26,(t5 (t5 (t5 (t5 hS49))))⟩
  rintro fr77 h78 ⟨c52,c55,f80,f81,f82,hv53,hv56,hS79⟩
  obtain ⟨s50,s51,s54⟩:=sv60
  dsimp only at *
  unfold qeb at hk59
  simp only [s6,t3]
  simp only [f82,qg,qa,w6,qhs,qf,qe,jq,qb,kq,qhy,q8,B0,reduceIte,a8]
  refine q9 (t:=(!s50)) (fun hc83=>?_) (fun hc83=>?_)
  ·rw [iteT hc83] at hk59
   simp only [qf,qe,run_build,evp,B0,reduceIte,a8]
   refine qd (v := .agg [.nil,.nil]) rfl ?_
   simp only [f80,zh,B0,reduceIte,a8]
   refine qy (us:=[.nil,.nil]) rfl (cs':=[.nil,.nil]) hS79 hW rfl rfl (nle rfl) rfl (fun h84 hS85=>?_)
   simp only [qg,qa,zc,B0,reduceIte,a8]
   have he:=qj hk59
   subst he
   refine jl (qt (jr (bb:=b9) (oo:=0) (v := .agg [.nil,
     .nil]) (f80) ((zw (a0g _ _ _ hS85)).trans rfl)) (qt (kz (v := .bool false) (rfl)) zm)) ?_
   exact ⟨.nil,[],.nil,[],by first | trivial | rfl,a2u,a2u,((a0k ((a0k ((a0k ((a0k (hS85)))))))) : Sep _ (geL h.length) ([]))⟩
  rw [iteF hc83] at hk59
  simp only [zd,qf,qe,f81,ql,B0,reduceIte,a8]
  refine qd (v := .agg [v20,v24]) ((zw (a0g _ _ _ (t6 hS79))).trans rfl) ?_
  simp only [f80,zh,B0,reduceIte,a8]
  refine qy (us:=[v20,v24]) rfl (cs':=[v20,v24]) hS79 hW rfl (qp (a0n hv53) (qp (a0n hv56) zp)) (nle rfl) rfl (fun h86 hS87=>?_)
  simp only [qg,qa,zc,B0,reduceIte,a8]
  have he:=qj hk59
  subst he
  refine jl (qt (jr (bb:=b9) (oo:=0) (v := .agg [v20,v24]) (f80) ((zw (a0g _ _ _ hS87)).trans rfl)) (qt (kz (v := .bool true) (rfl)) zm)) ?_
  exact ⟨v20,c52,v24,c55,by first | trivial | rfl,hv53,hv56,(t6 (t6 (a0k ((a0k (hS87))))))⟩
 rw [iteF hc39] at hF19
 simp only [qyr,qf,qe,qx,qb,ku,qg,qa,q6q,q8,B0,reduceIte,a8]
 obtain ⟨s89,hX91,hk92⟩:=qk hF19
 refine wj (t:=(decide (a9.Kind=2))) (fun fr' h'=>fr' 2 = .ref [lst qs d8.Peers,lst qu d8.Mail] 0∧fr' 3 = .ref [.int .i64 a9.Kind,
   .int .i64 a9.K,.int .i64 a9.To,.int .i64 a9.N] 0∧fr' 4 = .ptr b9 0∧fr' 6 = .ptr b33 0∧fr' 7 = .bool false∧fr' 12 = .int .i64 a9.Kind∧fr' 34 = .bool s89∧Sep h'
   (geL h.length) ([Blk1 b9 [.nil,.nil] 29]++([Blk1 b33 [v20,v24] 29]++(c21++(c25++([])))))) (fun Q93 hN94 hR95 hE96=>⟨fun hc97=>?_,fun hc97=>?_⟩) ?_
 ·rw [iteT hc97] at hX91
  simp only [zd,qm,B0,reduceIte,a8]
  have e98:=qj hX91
  subst e98
  exact hN94 _ _ ⟨rfl,rfl,rfl,rfl,rfl,rfl,rfl,(t5 (s9 (s9 (s9 hS38))))⟩
 ·rw [iteF hc97] at hX91
  simp only [q6e,qf,qe,qx,qb,ku,qg,qa,q3p,q8,B0,reduceIte,a8]
  refine q9 (t:=(decide (a9.Kind=3))) (fun hc99=>?_) (fun hc99=>?_)
  ·rw [iteT hc99] at hX91
   simp only [zd,qm,B0,reduceIte,a8]
   have e100:=qj hX91
   subst e100
   exact hN94 _ _ ⟨rfl,rfl,rfl,rfl,rfl,rfl,rfl,(t5 (s9 (s9 (s9 hS38))))⟩
  rw [iteF hc99] at hX91
  simp only [qe,qx,qb,ku,qg,qa,qm,B0,reduceIte,a8]
  have e101:=qj hX91
  subst e101
  exact hN94 _ _ ⟨rfl,rfl,rfl,rfl,rfl,rfl,rfl,(t5 (s9 (s9 (s9 hS38))))⟩
 rintro fr102 h103 ⟨f105,f106,f107,f108,f109,f110,f111,hS104⟩
 unfold qag at hk92
 simp only [qsr,f111,q8,B0,reduceIte,a8]
 refine q9 (t:=s89) (fun hc112=>?_) (fun hc112=>?_)
 ·rw [iteT hc112] at hk92
  simp only [q2p,qe,f106,qo,qb,o7,o8,o9,qn,ql,B0,reduceIte,a8]
  refine qd (v := .int .i64 a9.K) rfl ?_
  simp only [f105,qo,qb,o7,o8,o9,qn,ql,B0,reduceIte,a8]
  refine qd (v:=lst qs d8.Peers) rfl ?_
  simp only [zq,qb,z7,qx,qbp,zi,B0,reduceIte,a8]
  refine jx rfl (qt zb (qt zb (qt zb zm))) (ya (fun b hb=>decide_eq_true hb) a9.K 0 (r8 .i64
    ((p9 d8.Peers:Int) - 1)) _ rfl) ?_
  simp only [qg,B0,reduceIte,a8]
  obtain ⟨v116,hx117,hF118⟩:=qk hk92
  refine jf 8 (fun fr' h'=>Sep h' (geL h.length) ([Blk1 b9 [.nil,.nil] 29]++([Blk1 b33 [v20,
    v24] 29]++(c21++(c25++([])))))∧fr' 53 = .bool v116∧fr' 3 = .ref [.int .i64 a9.Kind,.int .i64 a9.K,.int .i64 a9.To,
    .int .i64 a9.N] 0∧fr' 4 = .ptr b9 0∧fr' 6 = .ptr b33 0) (fun Q113 hN114=>?_) ?_
  ·simp only [s5,t4]
   simp only [qc (g:=45),B0,reduceIte,a8]
   refine zf (t:=(zg a9.K 0 (r8 .i64 ((p9 d8.Peers:Int) - 1)))) (fun hg115=>?_) (fun hg115=>?_)
   ·rw [iteT hg115] at hx117
    simp only [hg115,qc (g:=45),zu,f105,qo,qb,o7,o8,o9,qn,ql,B0,reduceIte,a8]
    refine qd (v:=lst qs d8.Peers) rfl ?_
    simp only [hg115,qc (g:=45),zu,f106,qo,qb,o7,o8,o9,qn,ql,B0,reduceIte,a8]
    refine qd (v := .int .i64 a9.K) rfl ?_
    obtain ⟨x119,hx120,hF121⟩:=qk hx117
    simp only [hg115,qc (g:=45),zu,jj,B0,reduceIte,a8]
    refine qd (v := .ref (qs x119) 0) (xg hx120 rfl) ?_
    simp only [hg115,qc (g:=45),zu,qo,qb,o7,o8,o9,qn,ql,B0,reduceIte,a8]
    refine qd (v := .bool x119.Leads) rfl ?_
    simp only [hg115,qw,qb,zo,qa,qm,B0,reduceIte,a8]
    have e122:=qj hF121
    exact hN114 _ _ ⟨(t5 (t5 (t5 (t5 hS104)))),by rw [←e122]; simp only [B0,reduceIte,a8],f106,f107,f108⟩
   ·rw [iteF hg115] at hx117
    simp only [hg115,qc (g:=45),kj,qw,qb,zn,qa,qm,B0,reduceIte,a8]
    have e123:=qj hx117
    exact hN114 _ _ ⟨(t5 (t5 (t5 (t5 hS104)))),by rw [←e123]; simp only [B0,reduceIte,a8],f106,f107,f108⟩
  rintro fr124 h129 ⟨hS130,f125,f126,f127,f128⟩
  simp only [s6,t3]
  simp only [f125,qg,B0,reduceIte,a8]
  refine jf 9 (fun fr' h'=>Sep h' (geL h.length) ([Blk1 b9 [.nil,.nil] 29]++([Blk1 b33 [v20,
    v24] 29]++(c21++(c25++([])))))∧fr' 63 = .bool (v116&&((decide (a9.Kind=3))||(decide (a9.To=0))))∧fr' 3 = .ref [.int .i64 a9.Kind,.int .i64 a9.K,
    .int .i64 a9.To,.int .i64 a9.N] 0∧fr' 4 = .ptr b9 0∧fr' 6 = .ptr b33 0) (fun Q131 hN132=>?_) ?_
  ·simp only [s5,t4]
   simp only [qc (g:=54),B0,reduceIte,a8]
   refine zf (t:=v116) (fun hg133=>?_) (fun hg133=>?_)
   ·simp only [hg133,qc (g:=54),zu,f126,qo,qb,o7,o8,o9,qn,ql,B0,reduceIte,a8]
    refine qd (v := .int .i64 a9.Kind) rfl ?_
    simp only [hg133,qc (g:=54),zu,qx,qb,ku,qg,B0,reduceIte,a8]
    refine jf 4 (fun fr' h'=>Sep h' (geL h.length) ([Blk1 b9 [.nil,.nil] 29]++([Blk1 b33 [v20,
      v24] 29]++(c21++(c25++([])))))∧fr' 62 = .bool ((decide (a9.Kind=3))||(decide (a9.To=0)))∧fr' 3 = .ref [.int .i64 a9.Kind,.int .i64 a9.K,
      .int .i64 a9.To,.int .i64 a9.N] 0∧fr' 4 = .ptr b9 0∧fr' 6 = .ptr b33 0∧fr' 54 = .bool v116) (fun Q134 hN135=>?_) ?_
    ·simp only [s5,t4]
     simp only [qc (g:=58),B0,reduceIte,a8]
     refine zf (t:=(decide (a9.Kind=3))) (fun hg136=>?_) (fun hg136=>?_)
     ·simp only [hg136,qc (g:=58),zx,hg133,qc (g:=54),zu,qw,qb,zo,qa,qm,B0,reduceIte,
       a8]
      exact hN135 _ _ ⟨(t5 (t5 (t5 (t5 hS130)))),by rw [orT hg136]; simp only [B0,reduceIte,a8],f126,f127,f128,by simp only [hg133,B0,
        reduceIte,a8]⟩
     ·simp only [hg136,qc (g:=58),qr,f126,qo,qb,o7,o8,o9,qn,ql,B0,reduceIte,a8]
      refine qd (v := .int .i64 a9.To) rfl ?_
      simp only [hg136,qc (g:=58),qr,qx,qb,ku,hg133,qc (g:=54),zu,qw,zn,qa,qm,B0,
        reduceIte,a8]
      exact hN135 _ _ ⟨(t5 (t5 (t5 (t5 hS130)))),by rw [orF hg136]; simp only [B0,reduceIte,a8],f126,f127,f128,by simp only [hg133,B0,
        reduceIte,a8]⟩
    rintro fr137 h143 ⟨hS144,f138,f139,f140,f141,f142⟩
    simp only [s6,t3]
    simp only [f142,hg133,qw,qb,zo,f138,qa,qm,B0,reduceIte,a8]
    exact hN132 _ _ ⟨(t5 (t5 (t5 (t5 hS144)))),by rw [qat hg133]; simp only [B0,reduceIte,a8],f139,f140,f141⟩
   ·simp only [hg133,qc (g:=54),kj,qc (g:=58),qcs,qw,qb,zn,qa,qm,B0,reduceIte,a8]
    exact hN132 _ _ ⟨(t5 (t5 (t5 (t5 hS130)))),by rw [qao hg133]; simp only [B0,reduceIte,a8],f126,f127,f128⟩
  rintro fr145 h150 ⟨hS151,f146,f147,f148,f149⟩
  simp only [s6,t3]
  simp only [f146,qg,B0,reduceIte,a8]
  obtain ⟨sv164,hX162,hk163⟩:=qk hF118
  refine jf 3 (fun fr' h'=>∃ v155 c156 c159,
    fr' 4 = .ptr b9 0∧fr' 6 = .ptr b33 0∧fr' 67 = .bool sv164.1∧SlN Mail.R 9 86 v155 sv164.2.1.Mail c156∧SlN Peer.R 5 43 v20 sv164.2.2 c159∧Sep h' (geL h.length)
    ([Blk1 b9 [.nil,.nil] 29]++([Blk1 b33 [v20,v155] 29]++(c159++(c156++([])))))) (fun Q165 hN166=>?_) ?_
  ·simp only [s5,t4]
   simp only [qc (g:=64),B0,reduceIte,a8]
   refine zf (t:=(v116&&((decide (a9.Kind=3))||(decide (a9.To=0))))) (fun hg169=>?_) (fun hg169=>?_)
   ·rw [iteT hg169] at hX162
    simp only [hg169,qc (g:=64),zu,f147,ql,B0,reduceIte,a8]
    refine qd (v := .agg [.int .i64 a9.Kind,.int .i64 a9.K,.int .i64 a9.To,.int .i64 a9.N]) rfl ?_
    obtain ⟨v170,hx171,hF172⟩:=qk hX162
    simp only [hg169,qc (g:=64),zu,f149,zi,B0,reduceIte,a8]
    refine yx rfl (qlx hW b33 v17 v20 c21 hv22 v24 c25 hv26 a9 v170 hx171 (t5 (t5 (t5 hS151)))) ?_
    rintro _ h179 ⟨c173,v175,c176,rfl,hv174,hv177,hS180⟩
    simp only [hg169,qw,qb,zo,qa,qm,B0,reduceIte,a8]
    have e181:=qj hF172
    subst e181
    exact hN166 _ _ ⟨v175,c176,c173,f148,f149,rfl,hv177,hv174,(t5 (s9 (s9 (s9 hS180))))⟩
   ·rw [iteF hg169] at hX162
    simp only [hg169,qc (g:=64),kj,qw,qb,zn,qa,qm,B0,reduceIte,a8]
    have e182:=qj hX162
    subst e182
    exact hN166 _ _ ⟨v24,c25,c21,f148,f149,rfl,hv26,hv22,(t5 (t5 (t5 (t5 hS151))))⟩
  rintro fr183 h184 ⟨v155,c156,c159,f186,f187,f188,hv157,hv160,hS185⟩
  obtain ⟨s152,s153,s158⟩:=sv164
  dsimp only at *
  unfold qb8 at hk163
  simp only [s6,t3]
  simp only [f188,qg,qa,w6,qhs,qf,qe,jq,qb,kq,qhy,q8,B0,reduceIte,a8]
  refine q9 (t:=(!s152)) (fun hc189=>?_) (fun hc189=>?_)
  ·rw [iteT hc189] at hk163
   simp only [qf,qe,run_build,evp,B0,reduceIte,a8]
   refine qd (v := .agg [.nil,.nil]) rfl ?_
   simp only [f186,zh,B0,reduceIte,a8]
   refine qy (us:=[.nil,.nil]) rfl (cs':=[.nil,.nil]) hS185 hW rfl rfl (nle rfl) rfl (fun h190 hS191=>?_)
   simp only [qg,qa,zc,B0,reduceIte,a8]
   have he:=qj hk163
   subst he
   refine jl (qt (jr (bb:=b9) (oo:=0) (v := .agg [.nil,
     .nil]) (f186) ((zw (a0g _ _ _ hS191)).trans rfl)) (qt (kz (v := .bool false) (rfl)) zm)) ?_
   exact ⟨.nil,[],.nil,[],by first | trivial | rfl,a2u,a2u,((a0k ((a0k ((a0k ((a0k (hS191)))))))) : Sep _ (geL h.length) ([]))⟩
  rw [iteF hc189] at hk163
  simp only [zd,qf,qe,f187,ql,B0,reduceIte,a8]
  refine qd (v := .agg [v20,v155]) ((zw (a0g _ _ _ (t6 hS185))).trans rfl) ?_
  simp only [f186,zh,B0,reduceIte,a8]
  refine qy (us:=[v20,v155]) rfl (cs':=[v20,v155]) hS185 hW rfl (qp (a0n hv160) (qp (a0n hv157) zp)) (nle rfl) rfl (fun h192 hS193=>?_)
  simp only [qg,qa,zc,B0,reduceIte,a8]
  have he:=qj hk163
  subst he
  refine jl (qt (jr (bb:=b9) (oo:=0) (v := .agg [v20,
    v155]) (f186) ((zw (a0g _ _ _ hS193)).trans rfl)) (qt (kz (v := .bool true) (rfl)) zm)) ?_
  exact ⟨v20,c159,v155,c156,by first | trivial | rfl,hv160,hv157,(t6 (t6 (a0k ((a0k (hS193))))))⟩
 rw [iteF hc112] at hk92
 simp only [qxu,qf,qe,f110,qx,qb,ku,qg,qa,q72,q8,B0,reduceIte,a8]
 obtain ⟨s195,hX197,hk198⟩:=qk hk92
 refine wj (t:=(decide (a9.Kind=4))) (fun fr' h'=>fr' 2 = .ref [lst qs d8.Peers,lst qu d8.Mail] 0∧fr' 3 = .ref [.int .i64 a9.Kind,
   .int .i64 a9.K,.int .i64 a9.To,.int .i64 a9.N] 0∧fr' 4 = .ptr b9 0∧fr' 6 = .ptr b33 0∧fr' 7 = .bool false∧fr' 68 = .bool s195∧Sep h' (geL h.length)
   ([Blk1 b9 [.nil,.nil] 29]++([Blk1 b33 [v20,v24] 29]++(c21++(c25++([])))))) (fun Q199 hN200 hR201 hE202=>⟨fun hc203=>?_,fun hc203=>?_⟩) ?_
 ·rw [iteT hc203] at hX197
  simp only [zd,qm,B0,reduceIte,a8]
  have e204:=qj hX197
  subst e204
  exact hN200 _ _ ⟨f105,f106,f107,f108,f109,rfl,(t5 (t5 (t5 (t5 hS104))))⟩
 ·rw [iteF hc203] at hX197
  simp only [q7c,qf,qe,f110,qx,qb,ku,qg,qa,q52,q8,B0,reduceIte,a8]
  refine q9 (t:=(decide (a9.Kind=5))) (fun hc205=>?_) (fun hc205=>?_)
  ·rw [iteT hc205] at hX197
   simp only [zd,qm,B0,reduceIte,a8]
   have e206:=qj hX197
   subst e206
   exact hN200 _ _ ⟨f105,f106,f107,f108,f109,rfl,(t5 (t5 (t5 (t5 hS104))))⟩
  rw [iteF hc205] at hX197
  simp only [qe,f110,qx,qb,ku,qg,qa,qm,B0,reduceIte,a8]
  have e207:=qj hX197
  subst e207
  exact hN200 _ _ ⟨f105,f106,f107,f108,f109,rfl,(t5 (t5 (t5 (t5 hS104))))⟩
 rintro fr208 h209 ⟨f211,f212,f213,f214,f215,f216,hS210⟩
 unfold y6 at hk198
 simp only [qs6,f216,q8,B0,reduceIte,a8]
 refine q9 (t:=s195) (fun hc217=>?_) (fun hc217=>?_)
 ·rw [iteT hc217] at hk198
  simp only [quz,qf,qe,f212,qo,qb,o7,o8,o9,qn,ql,B0,reduceIte,a8]
  refine qd (v := .int .i64 a9.To) rfl ?_
  simp only [qx,qb,wz,qg,B0,reduceIte,a8]
  refine jf 4 (fun fr' h'=>Sep h' (geL h.length) ([Blk1 b9 [.nil,.nil] 29]++([Blk1 b33 [v20,
    v24] 29]++(c21++(c25++([])))))∧fr' 79 = .bool ((decide (a9.To≠0))||(decide (a9.N≠0)))∧fr' 2 = .ref [lst qs d8.Peers,
    lst qu d8.Mail] 0∧fr' 3 = .ref [.int .i64 a9.Kind,.int .i64 a9.K,.int .i64 a9.To,
    .int .i64 a9.N] 0∧fr' 4 = .ptr b9 0∧fr' 6 = .ptr b33 0) (fun Q218 hN219=>?_) ?_
  ·simp only [s5,t4]
   simp only [qc (g:=75),B0,reduceIte,a8]
   refine zf (t:=(decide (a9.To≠0))) (fun hg220=>?_) (fun hg220=>?_)
   ·simp only [hg220,qc (g:=75),zx,qw,qb,zo,qa,qm,B0,reduceIte,a8]
    exact hN219 _ _ ⟨(t5 (t5 (t5 (t5 hS210)))),by rw [orT hg220]; simp only [B0,reduceIte,a8],f211,f212,f213,f214⟩
   ·simp only [hg220,qc (g:=75),qr,f212,qo,qb,o7,o8,o9,qn,ql,B0,reduceIte,a8]
    refine qd (v := .int .i64 a9.N) rfl ?_
    simp only [hg220,qc (g:=75),qr,qx,qb,wz,qw,zn,qa,qm,B0,reduceIte,a8]
    exact hN219 _ _ ⟨(t5 (t5 (t5 (t5 hS210)))),by rw [orF hg220]; simp only [B0,reduceIte,a8],f211,f212,f213,f214⟩
  rintro fr221 h227 ⟨hS228,f222,f223,f224,f225,f226⟩
  simp only [s6,t3]
  simp only [f222,qg,B0,reduceIte,a8]
  refine jf 9 (fun fr' h'=>Sep h' (geL h.length) ([Blk1 b9 [.nil,.nil] 29]++([Blk1 b33 [v20,
    v24] 29]++(c21++(c25++([])))))∧fr' 89 = .bool (((decide (a9.To≠0))||(decide (a9.N≠0)))||(!(zg a9.K 0 (r8 .i64
    ((p9 d8.Mail:Int) - 1)))))∧fr' 2 = .ref [lst qs d8.Peers,lst qu d8.Mail] 0∧fr' 3 = .ref [.int .i64 a9.Kind,.int .i64 a9.K,
    .int .i64 a9.To,.int .i64 a9.N] 0∧fr' 4 = .ptr b9 0∧fr' 6 = .ptr b33 0) (fun Q229 hN230=>?_) ?_
  ·simp only [s5,t4]
   simp only [qc (g:=80),B0,reduceIte,a8]
   refine zf (t:=((decide (a9.To≠0))||(decide (a9.N≠0)))) (fun hg231=>?_) (fun hg231=>?_)
   ·simp only [hg231,qc (g:=80),zx,qw,qb,zo,qa,qm,B0,reduceIte,a8]
    exact hN230 _ _ ⟨(t5 (t5 (t5 (t5 hS228)))),by rw [orT hg231]; simp only [B0,reduceIte,a8],f223,f224,f225,f226⟩
   ·simp only [hg231,qc (g:=80),qr,f224,qo,qb,o7,o8,o9,qn,ql,B0,reduceIte,a8]
    refine qd (v := .int .i64 a9.K) rfl ?_
    simp only [hg231,qc (g:=80),qr,f223,qo,qb,o7,o8,o9,qn,ql,B0,reduceIte,a8]
    refine qd (v:=lst qu d8.Mail) rfl ?_
    simp only [hg231,qc (g:=80),qr,zq,qb,z7,qx,qbp,zi,B0,reduceIte,a8]
    refine jx rfl (qt zb (qt zb (qt zb zm))) (ya (fun b hb=>decide_eq_true hb) a9.K 0 (r8 .i64
      ((p9 d8.Mail:Int) - 1)) _ rfl) ?_
    simp only [hg231,qc (g:=80),qr,jq,qb,kq,qw,zn,qa,qm,B0,reduceIte,a8]
    exact hN230 _ _ ⟨(t5 (t5 (t5 (t5 hS228)))),by rw [orF hg231]; simp only [B0,reduceIte,a8],f223,f224,f225,f226⟩
  rintro fr232 h238 ⟨hS239,f233,f234,f235,f236,f237⟩
  simp only [s6,t3]
  simp only [qa,q40,f233,q8,B0,reduceIte,a8]
  refine q9 (t:=(((decide (a9.To≠0))||(decide (a9.N≠0)))||(!(zg a9.K 0 (r8 .i64 ((p9 d8.Mail:Int) - 1)))))) (fun hc240=>?_)
    (fun hc240=>?_)
  ·rw [iteT hc240] at hk198
   simp only [qf,qe,run_build,evp,B0,reduceIte,a8]
   refine qd (v := .agg [.nil,.nil]) rfl ?_
   simp only [f236,zh,B0,reduceIte,a8]
   refine qy (us:=[.nil,.nil]) rfl (cs':=[.nil,.nil]) hS239 hW rfl rfl (nle rfl) rfl (fun h241 hS242=>?_)
   simp only [qg,qa,zc,B0,reduceIte,a8]
   have he:=qj hk198
   subst he
   refine jl (qt (jr (bb:=b9) (oo:=0) (v := .agg [.nil,
     .nil]) (f236) ((zw (a0g _ _ _ hS242)).trans rfl)) (qt (kz (v := .bool false) (rfl)) zm)) ?_
   exact ⟨.nil,[],.nil,[],by first | trivial | rfl,a2u,a2u,((a0k ((a0k ((a0k ((a0k (hS242)))))))) : Sep _ (geL h.length) ([]))⟩
  rw [iteF hc240] at hk198
  simp only [zd,qvs,qf,qe,f237,qo,qb,o7,o8,o9,qv,ql,B0,reduceIte,a8]
  refine qd (v:=v24) ((ja (a0g _ _ _ (t6 hS239))).trans rfl) ?_
  simp only [f235,qo,qb,o7,o8,o9,qn,ql,B0,reduceIte,a8]
  refine qd (v := .int .i64 a9.K) rfl ?_
  obtain ⟨x243,hx244,hF245⟩:=qk hk198
  simp only [jj,B0,reduceIte,a8]
  obtain ⟨b246,hb247⟩:=SlN.isrow hv26 (j7 hx244)
  refine qd (SlN.ia hv26 hb247 hx244) ?_
  obtain ⟨c248,cs249,os250,hv251,hR252,hS253⟩:=SlG.opn (SlN.toG hv26 hb247 Mail.RO.len) hx244 zt Mail.RO.len (t5 hS239)
  obtain ⟨v255,c256,hv257,rfl,rfl⟩:=hR252
  have hS254:=Sep.no1 hS253
  simp only [ql,B0,reduceIte,a8]
  refine qd (v := .agg [.bool x243.Reply,.int .i64 x243.From,.int .i64 x243.To,.int .i64 x243.Term,.int .i64 x243.Prev,.int .i64 x243.PTerm,v255,
    .int .i64 x243.Commit,.int .i64 x243.Match]) ((SlG.lds (o:=0) hv251 rfl hx244 hS254 (nle rfl)).trans rfl) ?_
  simp only [ji,B0,reduceIte,a8]
  refine z6 hS254 (fun b259 h260 hS261=>?_)
  simp only [zh,B0,reduceIte,a8]
  refine qy (us:=[.bool x243.Reply,.int .i64 x243.From,.int .i64 x243.To,.int .i64 x243.Term,.int .i64 x243.Prev,.int .i64 x243.PTerm,v255,.int .i64 x243.Commit,
    .int .i64 x243.Match]) rfl (cs':=[.bool x243.Reply,.int .i64 x243.From,.int .i64 x243.To,.int .i64 x243.Term,.int .i64 x243.Prev,.int .i64 x243.PTerm,v255,
    .int .i64 x243.Commit,.int .i64 x243.Match]) hS261 hW rfl (qp rfl (qp rfl (qp rfl (qp rfl (qp rfl (qp rfl (qp (a01 hv257) (qp rfl
    (qp rfl zp))))))))) (nle rfl) rfl (fun h263 hS264=>?_)
  simp only [qa,quy,qf,qe,qg,qte,f235,qo,qb,o7,o8,o9,qn,ql,B0,reduceIte,
    a8]
  refine qd (v := .int .i64 a9.Kind) rfl ?_
  simp only [qa,qvr,wx,qvd,qf,qe,qx,qb,ku,qg,qww,q8,B0,reduceIte,a8]
  refine q9 (t:=(decide (a9.Kind=6))) (fun hc265=>?_) (fun hc265=>?_)
  ·rw [iteT hc265] at hF245
   simp only [qy3,qf,qe,f234,qo,qb,o7,o8,o9,qn,ql,B0,reduceIte,a8]
   refine qd (v:=lst qu d8.Mail) rfl ?_
   simp only [zq,qb,z7,qx,qch,qg,qa,qwc,qf,qe,jy,evp,B0,reduceIte,a8]
   refine kg (n:=2) (f:=qh) ([] : List Entry) hS264 rfl rfl (fun v266 c267 h268 hv269 hS270=>?_)
   simp only [qo,qb,o7,o8,o9,qv,ql,B0,reduceIte,a8]
   refine qd (v:=v255) ((ja (a0g _ _ _ (t6 hS270))).trans rfl) ?_
   simp only [yv,B0,reduceIte,a8]
   obtain ⟨l272,hx273,hF274⟩:=qk hF245
   refine wh (f:=qh) hv269 hS270 hW (fun _=>rfl) (fun _=>rfl) (a3o hv257 (t5 hS270) (fun _=>rfl)) hx273 (fun v275 c276 h277 hv278 hS279=>?_)
   simp only [qo,qb,o7,o8,o9,qv,zh,B0,reduceIte,a8]
   refine qy (us:=[v275]) (jp (a01 hv278)) (cs':=[.bool x243.Reply,.int .i64 x243.From,.int .i64 x243.To,.int .i64 x243.Term,.int .i64 x243.Prev,
     .int .i64 x243.PTerm,v275,.int .i64 x243.Commit,.int .i64 x243.Match]) (t6 hS279) hW rfl (qp (a01 hv278) zp) (nle rfl) rfl (fun h281 hS282=>?_)
   simp only [qa,qxl,qe,f237,qo,qb,o7,o8,o9,qv,ql,B0,reduceIte,a8]
   refine qd (v:=v24) ((ja (a0g _ _ _ (t8 hS282))).trans rfl) ?_
   simp only [ql,B0,reduceIte,a8]
   refine qd (v := .agg [.bool x243.Reply,.int .i64 x243.From,.int .i64 x243.To,.int .i64 x243.Term,.int .i64 x243.Prev,.int .i64 x243.PTerm,v275,
     .int .i64 x243.Commit,.int .i64 x243.Match]) ((zw (a0g _ _ _ hS282)).trans rfl) ?_
   simp only [jy,evp,B0,reduceIte,a8]
   refine ux (R:=Mail.R) (n:=9) (cs:=[.bool x243.Reply,.int .i64 x243.From,.int .i64 x243.To,.int .i64 x243.Term,.int .i64 x243.Prev,.int .i64 x243.PTerm,
     v275,.int .i64 x243.Commit,.int .i64 x243.Match]) (os:=c276) (t6 hS282) (qel (us:=[.bool x243.Reply,.int .i64 x243.From,.int .i64 x243.To,
     .int .i64 x243.Term,.int .i64 x243.Prev,.int .i64 x243.PTerm,v275,.int .i64 x243.Commit,.int .i64 x243.Match]) (vs:=[.bool x243.Reply,.int .i64 x243.From,
     .int .i64 x243.To,.int .i64 x243.Term,.int .i64 x243.Prev,.int .i64 x243.PTerm,v275,.int .i64 x243.Commit,
     .int .i64 x243.Match]) rfl rfl (nle rfl) (qp rfl (qp rfl (qp rfl (qp rfl (qp rfl (qp rfl (qp (a01 hv278) (qp rfl
     (qp rfl zp))))))))) rfl qek) (Mail.RI (x:=(Mail.mk x243.Reply x243.From x243.To x243.Term x243.Prev x243.PTerm l272 x243.Commit x243.Match)) hv278) rfl
     (fun v283 c284 h285 hv286 hS287=>?_)
   obtain ⟨c289,hv290,hS291⟩:=a1h (c:=c248) (os:=c256) hv251 rfl hx244 zt (Mail.RI (x:=x243) hv257) (t5 (t5 hS287))
   have hv292:=a1e hv290
   simp only [yv,B0,reduceIte,a8]
   obtain ⟨l293,hx294,hF295⟩:=qk hF274
   refine qa8 (R:=Mail.R) (c:=c289) hv292 hv286 (t6 (t6 hS291)) hW Mail.RO.len Mail.RO.one hx294 (fun v296 c297 h298 hv299 hS300=>?_)
   simp only [f237,qo,qb,o7,o8,o9,qv,zh,B0,reduceIte,a8]
   refine qy (us:=[v296]) (jp (a0n hv299)) (cs':=[v20,v296]) (t5 hS300) hW rfl (qp (a0n hv299) zp) (nle rfl) rfl (fun h302 hS303=>?_)
   simp only [qa,w6,qhs,qf,qe,qg,jq,qb,kq,qhy,q8,B0,reduceIte,a8]
   refine q9 (t:=(!(decide ((p9 d8.Mail:Int)<20)))) (fun hc304=>?_) (fun hc304=>?_)
   ·rw [iteT hc304] at hF295
    simp only [qf,qe,run_build,evp,B0,reduceIte,a8]
    refine qd (v := .agg [.nil,.nil]) rfl ?_
    simp only [f236,zh,B0,reduceIte,a8]
    refine qy (us:=[.nil,.nil]) rfl (cs':=[.nil,.nil]) (t5 hS303) hW rfl rfl (nle rfl) rfl (fun h305 hS306=>?_)
    simp only [qg,qa,zc,B0,reduceIte,a8]
    have he:=qj hF295
    subst he
    refine jl (qt (jr (bb:=b9) (oo:=0) (v := .agg [.nil,
      .nil]) (f236) ((zw (a0g _ _ _ hS306)).trans rfl)) (qt (kz (v := .bool false) (rfl)) zm)) ?_
    exact ⟨.nil,[],.nil,[],by first | trivial | rfl,a2u,a2u,((a0k ((a0k ((a0k ((a0k ((a0k (hS306)))))))))) : Sep _ (geL h.length) ([]))⟩
   rw [iteF hc304] at hF295
   simp only [zd,qf,qe,f237,ql,B0,reduceIte,a8]
   refine qd (v := .agg [v20,v296]) ((zw (a0g _ _ _ hS303)).trans rfl) ?_
   simp only [f236,zh,B0,reduceIte,a8]
   refine qy (us:=[v20,v296]) rfl (cs':=[v20,v296]) (t5 hS303) hW rfl (qp (a0n hv22) (qp (a0n hv299) zp)) (nle rfl) rfl (fun h307 hS308=>?_)
   simp only [qg,qa,zc,B0,reduceIte,a8]
   have he:=qj hF295
   subst he
   refine jl (qt (jr (bb:=b9) (oo:=0) (v := .agg [v20,
     v296]) (f236) ((zw (a0g _ _ _ hS308)).trans rfl)) (qt (kz (v := .bool true) (rfl)) zm)) ?_
   exact ⟨v20,c21,v296,c297,by first | trivial | rfl,hv22,hv299,(t6 (a0k (t6 (a0k ((a0k (hS308)))))))⟩
  rw [iteF hc265] at hF245
  simp only [qvv,qf,qe,qx,qb,ku,qg,qa,q0i,q8,B0,reduceIte,a8]
  refine q9 (t:=(decide (a9.Kind=4))) (fun hc309=>?_) (fun hc309=>?_)
  ·rw [iteT hc309] at hF245
   simp only [qz9,qf,qe,f237,qo,qb,o7,o8,o9,qv,ql,B0,reduceIte,a8]
   refine qd (v:=v24) ((ja (a0g _ _ _ (a0j hS264))).trans rfl) ?_
   simp only [f235,qo,qb,o7,o8,o9,qn,ql,B0,reduceIte,a8]
   refine qd (v := .int .i64 a9.K) rfl ?_
   simp only [f235,qo,qb,o7,o8,o9,qn,ql,B0,reduceIte,a8]
   refine qd (v := .int .i64 a9.K) rfl ?_
   obtain ⟨c310,hv311,hS312⟩:=a1h (c:=c248) (os:=c256) hv251 rfl hx244 zt (Mail.RI (x:=x243) hv257) (s9 (s9 hS264))
   have hv313:=a1e hv311
   obtain ⟨v314,hx315,hF316⟩:=qk hF245
   simp only [qx,qb,ur,zi,B0,reduceIte,a8]
   refine yx rfl (qjg hW hv251 v314 hx315 (t6 hS264)) ?_
   rintro v317 h321 ⟨_,c318,rfl,hv319,hS322⟩
   simp only [f237,qo,qb,o7,o8,o9,qv,zh,B0,reduceIte,a8]
   refine qy (us:=[v317]) (jp (a0n hv319)) (cs':=[v20,v317]) (a0j hS322) hW rfl (qp (a0n hv319) zp) (nle rfl) rfl (fun h323 hS324=>?_)
   simp only [qa,qe,ql,B0,reduceIte,a8]
   refine qd (v := .agg [.bool x243.Reply,.int .i64 x243.From,.int .i64 x243.To,.int .i64 x243.Term,.int .i64 x243.Prev,.int .i64 x243.PTerm,v255,
     .int .i64 x243.Commit,.int .i64 x243.Match]) ((zw (a0g _ _ _ (s9 hS324))).trans rfl) ?_
   obtain ⟨v325,hx326,hF327⟩:=qk hF316
   simp only [f237,zi,B0,reduceIte,a8]
   refine yx rfl (qk9 hW b33 (Raft.mk v17.Peers v314) v20 c21 hv22 v317 c318 hv319 x243 v255 c256 hv257 v325 hx326 (t5 (t8 (s9 (t5 hS324))))) ?_
   rintro _ h336 ⟨c328,v330,c331,c334,rfl,hv329,hv332,hv335,hS337⟩
   simp only [qa,w6,qhs,qf,qe,qg,jq,qb,kq,qhy,q8,B0,reduceIte,a8]
   refine q9 (t:=(!true)) (fun hc338=>?_) (fun hc338=>?_)
   ·rw [iteT hc338] at hF327
    simp only [qf,qe,run_build,evp,B0,reduceIte,a8]
    refine qd (v := .agg [.nil,.nil]) rfl ?_
    simp only [f236,zh,B0,reduceIte,a8]
    refine qy (us:=[.nil,.nil]) rfl (cs':=[.nil,.nil]) (t8 hS337) hW rfl rfl (nle rfl) rfl (fun h339 hS340=>?_)
    simp only [qg,qa,zc,B0,reduceIte,a8]
    have he:=qj hF327
    subst he
    refine jl (qt (jr (bb:=b9) (oo:=0) (v := .agg [.nil,
      .nil]) (f236) ((zw (a0g _ _ _ hS340)).trans rfl)) (qt (kz (v := .bool false) (rfl)) zm)) ?_
    exact ⟨.nil,[],.nil,[],by first | trivial | rfl,a2u,a2u,
      ((a0k ((a0k ((a0k ((a0k ((a0k ((a0k (hS340)))))))))))) : Sep _ (geL h.length) ([]))⟩
   rw [iteF hc338] at hF327
   simp only [zd,qf,qe,f237,ql,B0,reduceIte,a8]
   refine qd (v := .agg [v20,v330]) ((zw (a0g _ _ _ hS337)).trans rfl) ?_
   simp only [f236,zh,B0,reduceIte,a8]
   refine qy (us:=[v20,v330]) rfl (cs':=[v20,v330]) (t8 hS337) hW rfl (qp (a0n hv329) (qp (a0n hv332) zp)) (nle rfl) rfl (fun h341 hS342=>?_)
   simp only [qg,qa,zc,B0,reduceIte,a8]
   have he:=qj hF327
   subst he
   refine jl (qt (jr (bb:=b9) (oo:=0) (v := .agg [v20,
     v330]) (f236) ((zw (a0g _ _ _ hS342)).trans rfl)) (qt (kz (v := .bool true) (rfl)) zm)) ?_
   exact ⟨v20,c328,v330,c331,by first | trivial | rfl,hv329,hv332,(t6 (t6 (a0k (s9 (a0k (s9 (a0k ((a0k (hS342))))))))))⟩
  rw [iteF hc309] at hF245
  simp only [qyl,qe,f237,qo,qb,o7,o8,o9,qv,ql,B0,reduceIte,a8]
  refine qd (v:=v24) ((ja (a0g _ _ _ (a0j hS264))).trans rfl) ?_
  simp only [f235,qo,qb,o7,o8,o9,qn,ql,B0,reduceIte,a8]
  refine qd (v := .int .i64 a9.K) rfl ?_
  simp only [f235,qo,qb,o7,o8,o9,qn,ql,B0,reduceIte,a8]
  refine qd (v := .int .i64 a9.K) rfl ?_
  obtain ⟨c343,hv344,hS345⟩:=a1h (c:=c248) (os:=c256) hv251 rfl hx244 zt (Mail.RI (x:=x243) hv257) (s9 (s9 hS264))
  have hv346:=a1e hv344
  obtain ⟨v347,hx348,hF349⟩:=qk hF245
  simp only [qx,qb,ur,zi,B0,reduceIte,a8]
  refine yx rfl (qjn hW v24 c343 v17.Mail hv346 a9.K (r8 .i64 (a9.K+1)) v347 hx348 hS345) ?_
  rintro v350 h354 ⟨_,c351,rfl,hv352,hS355⟩
  simp only [f237,qo,qb,o7,o8,o9,qv,zh,B0,reduceIte,a8]
  refine qy (us:=[v350]) (jp (a0n hv352)) (cs':=[v20,v350]) (t5 hS355) hW rfl (qp (a0n hv352) zp) (nle rfl) rfl (fun h356 hS357=>?_)
  simp only [qa,w6,qhs,qf,qe,qg,jq,qb,kq,qhy,q8,B0,reduceIte,a8]
  refine q9 (t:=(!true)) (fun hc358=>?_) (fun hc358=>?_)
  ·rw [iteT hc358] at hF349
   simp only [qf,qe,run_build,evp,B0,reduceIte,a8]
   refine qd (v := .agg [.nil,.nil]) rfl ?_
   simp only [f236,zh,B0,reduceIte,a8]
   refine qy (us:=[.nil,.nil]) rfl (cs':=[.nil,.nil]) (t5 hS357) hW rfl rfl (nle rfl) rfl (fun h359 hS360=>?_)
   simp only [qg,qa,zc,B0,reduceIte,a8]
   have he:=qj hF349
   subst he
   refine jl (qt (jr (bb:=b9) (oo:=0) (v := .agg [.nil,
     .nil]) (f236) ((zw (a0g _ _ _ hS360)).trans rfl)) (qt (kz (v := .bool false) (rfl)) zm)) ?_
   exact ⟨.nil,[],.nil,[],by first | trivial | rfl,a2u,a2u,((a0k ((a0k ((a0k ((a0k ((a0k (hS360)))))))))) : Sep _ (geL h.length) ([]))⟩
  rw [iteF hc358] at hF349
  simp only [zd,qf,qe,f237,ql,B0,reduceIte,a8]
  refine qd (v := .agg [v20,v350]) ((zw (a0g _ _ _ hS357)).trans rfl) ?_
  simp only [f236,zh,B0,reduceIte,a8]
  refine qy (us:=[v20,v350]) rfl (cs':=[v20,v350]) (t5 hS357) hW rfl (qp (a0n hv22) (qp (a0n hv352) zp)) (nle rfl) rfl (fun h361 hS362=>?_)
  simp only [qg,qa,zc,B0,reduceIte,a8]
  have he:=qj hF349
  subst he
  refine jl (qt (jr (bb:=b9) (oo:=0) (v := .agg [v20,
    v350]) (f236) ((zw (a0g _ _ _ hS362)).trans rfl)) (qt (kz (v := .bool true) (rfl)) zm)) ?_
  exact ⟨v20,c21,v350,c351,by first | trivial | rfl,hv22,hv352,(t6 (a0k (t6 (a0k ((a0k (hS362)))))))⟩
 rw [iteF hc217] at hk198
 simp only [zd,w6,qhs,qf,qe,f215,qg,jq,qb,kq,qa,qhy,q8,B0,reduceIte,a8]
 refine q9 (t:=(!false)) (fun hc363=>?_) (fun hc363=>?_)
 ·rw [iteT hc363] at hk198
  simp only [qf,qe,run_build,evp,B0,reduceIte,a8]
  refine qd (v := .agg [.nil,.nil]) rfl ?_
  simp only [f213,zh,B0,reduceIte,a8]
  refine qy (us:=[.nil,.nil]) rfl (cs':=[.nil,.nil]) hS210 hW rfl rfl (nle rfl) rfl (fun h364 hS365=>?_)
  simp only [qg,qa,zc,B0,reduceIte,a8]
  have he:=qj hk198
  subst he
  refine jl (qt (jr (bb:=b9) (oo:=0) (v := .agg [.nil,
    .nil]) (f213) ((zw (a0g _ _ _ hS365)).trans rfl)) (qt (kz (v := .bool false) (rfl)) zm)) ?_
  exact ⟨.nil,[],.nil,[],by first | trivial | rfl,a2u,a2u,((a0k ((a0k ((a0k ((a0k (hS365)))))))) : Sep _ (geL h.length) ([]))⟩
 rw [iteF hc363] at hk198
 simp only [zd,qf,qe,f214,ql,B0,reduceIte,a8]
 refine qd (v := .agg [v20,v24]) ((zw (a0g _ _ _ (t6 hS210))).trans rfl) ?_
 simp only [f213,zh,B0,reduceIte,a8]
 refine qy (us:=[v20,v24]) rfl (cs':=[v20,v24]) hS210 hW rfl (qp (a0n hv22) (qp (a0n hv26) zp)) (nle rfl) rfl (fun h366 hS367=>?_)
 simp only [qg,qa,zc,B0,reduceIte,a8]
 have he:=qj hk198
 subst he
 refine jl (qt (jr (bb:=b9) (oo:=0) (v := .agg [v20,v24]) (f213) ((zw (a0g _ _ _ hS367)).trans rfl)) (qt (kz (v := .bool true) (rfl)) zm)) ?_
 exact ⟨v20,c21,v24,c25,by first | trivial | rfl,hv22,hv26,(t6 (t6 (a0k ((a0k (hS367))))))⟩
end Go.Proofs.Ytanblnjomhgphaa.X
namespace Go.Proofs.Ytanblnjomhgphaa.X
open Go
theorem ql9 {W:Nat→Bool}{h:Heap} (hW:∀ b,
  (geL h.length) b→W b=true) (peers_0:Int) (n7:List RaftStep) (r:Raft × (List Bool) × Bool) (hF:qc6 peers_0 n7=some r) : Ret E W 7 [.int .i64 peers_0,
  lst jm n7] h (fun v h'=>cut h.length h' E.sz false 9 v=some (.tup [.agg [lst qs r.1.Peers,lst qu r.1.Mail],lst cB r.2.1,.bool r.2.2])):=by
 refine Ret.of (fn:=x7) rfl (Run.of ?_)
 unfold qc6 at hF
 have zf0:zk [.int .i64 peers_0,lst jm n7] 0 = .int .i64 peers_0:=rfl
 have zf1:zk [.int .i64 peers_0,lst jm n7] 1=lst jm n7:=rfl
 generalize zk [.int .i64 peers_0,lst jm n7]=fr0 at zf0 zf1 ⊢
 have hS:Sep h (geL h.length) []:=a14 h
 simp only [x7,qf,qe,ji,B0,reduceIte,a8]
 refine z6 hS (fun b1 h2 hS3=>?_)
 simp only [qg,qa,q2q,qf,qe,zf0,zi,B0,reduceIte,a8]
 refine jx rfl (qt zb (qt zb (qt zb zm))) (ya (fun b hb=>decide_eq_true hb) peers_0 1 5 _ rfl) ?_
 simp only [jq,qb,kq,qg,B0,reduceIte,a8]
 refine jf 4 (fun fr' h'=>Sep h' (geL h.length) ([Blk1 b1 [.nil,
   .nil] 29]++([]))∧fr' 20 = .bool ((!(zg peers_0 1 5))||(decide ((100:Int) <
   (p9 n7:Int))))∧fr' 0 = .int .i64 peers_0∧fr' 1=lst jm n7∧fr' 4 = .ptr b1 0) (fun Q5 hN6=>?_) ?_
 ·simp only [s5,t4]
  simp only [qc (g:=16),B0,reduceIte,a8]
  refine zf (t:=(!(zg peers_0 1 5))) (fun hg7=>?_) (fun hg7=>?_)
  ·simp only [hg7,qc (g:=16),zx,qw,qb,zo,qa,qm,B0,reduceIte,a8]
   exact hN6 _ _ ⟨hS3,by rw [orT hg7]; simp only [B0,reduceIte,a8],zf0,zf1,rfl⟩
  ·simp only [hg7,qc (g:=16),qr,zf1,qg,zq,qb,z7,qx,ww,qw,zn,qa,qm,B0,reduceIte,
    a8]
   exact hN6 _ _ ⟨hS3,by rw [orF hg7]; simp only [B0,reduceIte,a8],zf0,zf1,rfl⟩
 rintro fr8 h13 ⟨hS14,f9,f10,f11,f12⟩
 simp only [s6,t3]
 simp only [qa,zb0,f9,q8,B0,reduceIte,a8]
 refine q9 (t:=((!(zg peers_0 1 5))||(decide ((100:Int)<(p9 n7:Int))))) (fun hc15=>?_) (fun hc15=>?_)
 ·rw [iteT hc15] at hF
  simp only [zcc,qf,qe,run_build,evp,B0,reduceIte,a8]
  refine qd (v := .agg [.nil,.nil]) rfl ?_
  simp only [f12,zh,B0,reduceIte,a8]
  refine qy (us:=[.nil,.nil]) rfl (cs':=[.nil,.nil]) hS14 hW rfl rfl (nle rfl) rfl (fun h16 hS17=>?_)
  simp only [qg,qa,zc,B0,reduceIte,a8]
  have he:=qj hF
  subst he
  refine jl (qt (jr (bb:=b1) (oo:=0) (v := .agg [.nil,
    .nil]) (f12) ((zw (a0g _ _ _ hS17)).trans rfl)) (qt (kz (v := .nil) (rfl)) (qt (kz (v := .bool false) (rfl)) zm))) ?_
  exact qkf (qt (qqz (qt rfl (qt rfl zm))) (qt rfl (qt rfl zm)))
 rw [iteF hc15] at hF
 obtain ⟨v18,hx19,hF20⟩:=qk hF
 simp only [zd,q5r,qf,qe,f10,qg,zi,B0,reduceIte,a8]
 refine qgh rfl hS14 (qt zb zm) (qmo (fun b hb=>decide_eq_true hb) peers_0 v18 hx19) ?_
 rintro _ h29 ⟨v21,c22,v25,c26,rfl,hv23,hv27,hS30⟩
 refine ⟨_,qjx (qp (a2v hv23) (qp (a2v hv27) zp)),hS30,(wu (SlN.pf hv23 Peer.RO) (wu (SlN.pf hv27 Mail.RO) qda)),fun h31 hS32=>?_⟩
 have hS33:Sep h31 (geL h.length) (c22++(c26++([Blk1 b1 [.nil,.nil] 29]++([])))):=by simpa only [t7,a08] using hS32
 simp only [ji,B0,reduceIte,a8]
 refine z6 hS33 (fun b34 h35 hS36=>?_)
 simp only [zh,B0,reduceIte,a8]
 refine qy (us:=[v21,v25]) rfl (cs':=[v21,v25]) hS36 hW rfl (qp (a0n hv23) (qp (a0n hv27) zp)) (nle rfl) rfl (fun h38 hS39=>?_)
 simp only [qa,q42,qf,qe,jy,evp,B0,reduceIte,a8]
 refine kg (n:=1) (f:=cB) ([] : List Bool) hS39 rfl rfl (fun v40 c41 h42 hv43 hS44=>?_)
 simp only [qg,qa,q9s,qf,qe,f11,zq,qb,z7,B0,reduceIte,a8]
 obtain ⟨oc76,hX78,hk79⟩:=kd hF20
 simp only [zbq]
 refine yi (σ:=(List Bool) × Raft) n7 (fun i74 x75 s178=>um i74 x75 s178.1 s178.2) (fun s fr' h'=>∃ v62 c63 v67 c68 v71 c72,
   fr' 4 = .ptr b1 0∧fr' 7 = .ptr b34 0∧fr' 8=v62∧fr' 25=lst jm n7∧SlF cB 1 4 v62 s.1 c63∧SlN Peer.R 5 43 v67 s.2.Peers c68∧SlN Mail.R 9 86 v71 s.2.Mail c72∧Sep h'
   (geL h.length) ([Blk1 b1 [.nil,.nil] 29]++([Blk1 b34 [v67,v71] 29]++(c63++(c68++(c72++([]))))))) hX78 ⟨v40,c41,v21,c22,v25,c26,f12,rfl,rfl,rfl,hv43,
   hv23,hv27,(a0j (t5 (s9 (t5 (t5 hS44)))))⟩ (by simp only [B0,reduceIte,a8]) (by simp only [B0,reduceIte,
   a8]) (fun _ _ _ h=>h) rfl rfl (fun _ _ _ _ h=>h) (fun _ _ _ _ h=>h) (fun _ _ _ _ h=>h) (by decide) ?_ ?_
 ·rintro i74 x75 ⟨s60,s65⟩ fr88 h89 hx95 ⟨v62,c63,v67,c68,v71,c72,f91,f92,f93,f94,hv64,hv69,hv73,hS90⟩ f96 f97 oc77 hF80 hr81 Q82 hN83 hB87 hK84 hR85 hE86
  dsimp only at *
  unfold um at hF80
  simp only [zbv,qf,qe,f94,f96,jj,B0,reduceIte,a8]
  refine qd (v := .ref (jm x75) 0) (yj hx95 rfl) ?_
  simp only [ql,B0,reduceIte,a8]
  refine qd (v := .agg [.int .i64 x75.Kind,.int .i64 x75.K,.int .i64 x75.To,.int .i64 x75.N]) rfl ?_
  simp only [ji,B0,reduceIte,a8]
  refine z6 hS90 (fun b98 h99 hS100=>?_)
  simp only [zh,B0,reduceIte,a8]
  refine qy (us:=[.int .i64 x75.Kind,.int .i64 x75.K,.int .i64 x75.To,.int .i64 x75.N]) rfl (cs':=[.int .i64 x75.Kind,.int .i64 x75.K,.int .i64 x75.To,
    .int .i64 x75.N]) hS100 hW rfl rfl (nle rfl) rfl (fun h102 hS103=>?_)
  simp only [qa,B0,reduceIte,a8]
  refine jc hS103 hW (by simp only [B0,reduceIte,a8]) (fun h104 hS105=>?_)
  simp only [z5,zdi,qf,qe,f92,ql,B0,reduceIte,a8]
  refine qd (v := .agg [v67,v71]) ((zw (a0g _ _ _ (t6 hS105))).trans rfl) ?_
  simp only [ql,B0,reduceIte,a8]
  refine qd (v := .agg [.int .i64 x75.Kind,.int .i64 x75.K,.int .i64 x75.To,.int .i64 x75.N]) rfl ?_
  obtain ⟨v106,hx107,hF108⟩:=qk hF80
  simp only [zi,B0,reduceIte,a8]
  refine qgh rfl hS105 (qt (wk (qt (a35 hv69 _ (t5 hS105) rfl Peer.RO) (qt (a35 hv73 _ (a0j hS105) rfl Mail.RO) zm))) (qt (wk
    (qt zb (qt zb (qt zb (qt zb zm))))) zm)) (qkw (fun b hb=>decide_eq_true hb) s65 x75 v106 hx107) ?_
  rintro _ h117 ⟨v109,c110,v113,c114,rfl,hv111,hv115,hS118⟩
  refine ⟨_,qhm (qp (qka (qp (a2v hv111) (qp (a2v hv115) zp))) (qp rfl zp)),hS118,
    (wu (SlN.pf hv111 Peer.RO) (wu (SlN.pf hv115 Mail.RO) qda)),fun h119 hS120=>?_⟩
  have hS121:Sep h119 (geL h.length) (c110++(c114++([Blk1 b1 [.nil,.nil] 29]++([Blk1 b34 [v67,
    v71] 29]++(c63++(c68++(c72++([])))))))):=by simpa only [t7,a08] using hS120
  simp only [qg,qaz,qb,qa9,qbd,ji,B0,reduceIte,a8]
  refine z6 hS121 (fun b122 h123 hS124=>?_)
  simp only [zh,B0,reduceIte,a8]
  refine qy (us:=[v109,v113]) rfl (cs':=[v109,v113]) hS124 hW rfl (qp (a0n hv111) (qp (a0n hv115) zp)) (nle rfl) rfl (fun h126 hS127=>?_)
  simp only [qg,qa,B0,reduceIte,a8]
  refine jc hS127 hW (by simp only [B0,reduceIte,a8]) (fun h128 hS129=>?_)
  simp only [z5,zbe,qf,qe,qg,qa,zdb,q8,B0,reduceIte,a8]
  obtain ⟨s130,hX140,hk141⟩:=qk hF108
  refine wj (t:=v106.2) (fun fr' h'=>∃ v132 c133 v136 c137,
    fr' 4 = .ptr b1 0∧fr' 7 = .ptr b34 0∧fr' 8=v62∧fr' 12 = .bool v106.2∧fr' 25=lst jm n7∧fr' 26 = .int .i64
    (p9 n7:Int)∧fr' 27 = .int .i64 (i74:Int)∧SlN Peer.R 5 43 v132 s130.Peers c133∧SlN Mail.R 9 86 v136 s130.Mail c137∧Sep h' (geL h.length)
    ([Blk1 b1 [.nil,.nil] 29]++([Blk1 b34 [v132,v136] 29]++(c63++(c133++(c137++([]))))))) (fun Q142 hN143 hR144 hE145=>⟨fun hc146=>?_,fun hc146=>?_⟩) ?_
  ·rw [iteT hc146] at hX140
   simp only [qe,ql,B0,reduceIte,a8]
   refine qd (v := .agg [v109,v113]) rfl ?_
   simp only [f92,zh,B0,reduceIte,a8]
   refine qy (us:=[v109,v113]) rfl (cs':=[v109,
     v113]) (t5 hS129) hW rfl (qp (a0n hv111) (qp (a0n hv115) zp)) (nle rfl) rfl (fun h147 hS148=>?_)
   simp only [qa,qm,B0,reduceIte,a8]
   have e149:=qj hX140
   subst e149
   exact hN143 _ _ ⟨v109,c110,v113,c114,f91,f92,f93,rfl,f94,f97,f96,hv111,hv115,
     (a0j (t5 (a0j (s9 (s9 (a0k (t8 (a0k (t8 hS148)))))))))⟩
  ·rw [iteF hc146] at hX140
   simp only [zd,qm,B0,reduceIte,a8]
   have e150:=qj hX140
   subst e150
   exact hN143 _ _ ⟨v67,c68,v71,c72,f91,f92,f93,rfl,f94,f97,f96,hv69,hv73,(a0j (a0j (a0j (a0j (a0j (a0k ((a0k (hS129)))))))))⟩
  rintro fr151 h152 ⟨v132,c133,v136,c137,f154,f155,f156,f157,f158,f159,f160,hv134,hv138,hS153⟩
  unfold qcv at hk141
  simp only [zdf,qe,f156,qg,f157,jy,evp,B0,reduceIte,a8]
  refine kg (n:=1) (f:=cB) [v106.2] hS153 rfl rfl (fun v161 c162 h163 hv164 hS165=>?_)
  simp only [yv,B0,reduceIte,a8]
  obtain ⟨l167,hx168,hF169⟩:=qk hk141
  refine wh (f:=cB) hv64 (t5 hS165) hW (fun _=>rfl) (fun _=>rfl) (a3o hv164 hS165 (fun _=>rfl)) hx168 (fun v170 c171 h172 hv173 hS174=>?_)
  simp only [qg,qa,qm,B0,reduceIte,a8]
  have e176:=qj hF169
  exact hN83 _ _ _ e176.symm ⟨v170,c171,v132,c133,v136,c137,f154,f155,rfl,f158,hv173,hv134,hv138,
    (a0j (a0j (s9 (a0j (a0j (a0k (t6 hS174)))))))⟩ (f160) (f159)
 rintro ⟨s179,s184⟩ fr193 h194 rfl ⟨v181,c182,v186,c187,v190,c191,f196,f197,f198,f199,hv183,hv188,hv192,hS195⟩
 dsimp only [jnO] at hk79
 dsimp only at *
 unfold qho at hk79
 simp only [q6m,qf,qe,f197,ql,B0,reduceIte,a8]
 refine qd (v := .agg [v186,v190]) ((zw (a0g _ _ _ (t6 hS195))).trans rfl) ?_
 simp only [f198,qg,f196,zh,B0,reduceIte,a8]
 refine qy (us:=[v186,v190]) rfl (cs':=[v186,v190]) hS195 hW rfl (qp (a0n hv188) (qp (a0n hv192) zp)) (nle rfl) rfl (fun h200 hS201=>?_)
 simp only [qg,qa,zc,B0,reduceIte,a8]
 have he:=qj hk79
 subst he
 refine jl (qt (jr (bb:=b1) (oo:=0) (v := .agg [v186,
   v190]) (f196) ((zw (a0g _ _ _ hS201)).trans rfl)) (qt (kz (v:=v181) (rfl)) (qt (kz (v := .bool true) (rfl)) zm))) ?_
 exact qkf (qt (qqz (qt (SlN.cut hv188 _ (t5 hS201) (fun _ hb=>hb) rfl Peer.RO) (qt (SlN.cut hv192 _ (a0j hS201) (fun _ hb=>hb) rfl Mail.RO) zm)))
   (qt (SlF.cut hv183 (s9 hS201) (fun _ hb=>hb) rfl (fun _=>rfl) (fun _=>rfl)) (qt rfl zm)))
theorem ql3 {W:Nat→Bool}{h:Heap} (hW:∀ b,
  (geL h.length) b→W b=true) (k:Nat) (peers_0:Int) (n7:List RaftStep) (r:Raft × (List Bool) × Bool)
  (hF:qc4 k peers_0 n7=some r) : Ret E W 8 [.int .i64 peers_0,lst jm n7] h (fun v h'=>∃ l9 g9 i5 i0 rv1 rc1,v = .tup [.agg [l9,
  i5],rv1,.bool r.2.2]∧SlN Peer.R 5 43 l9 r.1.Peers g9∧SlN Mail.R 9 86 i5 r.1.Mail i0∧SlF cB 1 4 rv1 r.2.1 rc1∧Sep h' (geL h.length) (g9 ++
  (i0++(rc1++([]))))):=by
 refine Ret.of (fn:=x8) rfl (Run.of ?_)
 unfold qc4 at hF
 have zf0:zk [.int .i64 peers_0,lst jm n7] 0 = .int .i64 peers_0:=rfl
 have zf1:zk [.int .i64 peers_0,lst jm n7] 1=lst jm n7:=rfl
 generalize zk [.int .i64 peers_0,lst jm n7]=fr0 at zf0 zf1 ⊢
 have hS:Sep h (geL h.length) []:=a14 h
 simp only [x8,qf,qe,ji,B0,reduceIte,a8]
 refine z6 hS (fun b1 h2 hS3=>?_)
 obtain ⟨v5,hx6,hF7⟩:=qk hF
 simp only [qg,qa,q35,qf,qe,zf0,zi,B0,reduceIte,a8]
 refine qgh rfl hS3 (qt zb zm) (qiq (fun b hb=>decide_eq_true hb) k peers_0 v5 hx6) ?_
 rintro _ h16 ⟨v8,c9,v12,c13,rfl,hv10,hv14,hS17⟩
 refine ⟨_,qhm (qp (qka (qp (a2v hv10) (qp (a2v hv14) zp))) (qp rfl zp)),hS17,
   (wu (SlN.pf hv10 Peer.RO) (wu (SlN.pf hv14 Mail.RO) qda)),fun h18 hS19=>?_⟩
 have hS20:Sep h18 (geL h.length) (c9++(c13++([Blk1 b1 [.nil,.nil] 29]++([])))):=by simpa only [t7,a08] using hS19
 simp only [qg,qaz,qb,qa9,qbd,ji,B0,reduceIte,a8]
 refine z6 hS20 (fun b21 h22 hS23=>?_)
 simp only [zh,B0,reduceIte,a8]
 refine qy (us:=[v8,v12]) rfl (cs':=[v8,v12]) hS23 hW rfl (qp (a0n hv10) (qp (a0n hv14) zp)) (nle rfl) rfl (fun h25 hS26=>?_)
 simp only [qg,qa,q55,qf,qe,jq,qb,kq,B0,reduceIte,a8]
 refine jf 4 (fun fr' h'=>Sep h' (geL h.length) ([Blk1 b1 [.nil,.nil] 29]++([Blk1 b21 [v8,
   v12] 29]++(c9++(c13++([])))))∧fr' 25 = .bool ((!v5.2)||(decide ((100:Int) <
   (p9 n7:Int))))∧fr' 1=lst jm n7∧fr' 4 = .ptr b1 0∧fr' 7 = .ptr b21 0) (fun Q27 hN28=>?_) ?_
 ·simp only [s5,t4]
  simp only [qc (g:=21),B0,reduceIte,a8]
  refine zf (t:=(!v5.2)) (fun hg29=>?_) (fun hg29=>?_)
  ·simp only [hg29,qc (g:=21),zx,qw,qb,zo,qa,qm,B0,reduceIte,a8]
   exact hN28 _ _ ⟨(t5 (s9 (s9 (s9 hS26)))),by rw [orT hg29]; simp only [B0,reduceIte,a8],zf1,rfl,rfl⟩
  ·simp only [hg29,qc (g:=21),qr,zf1,qg,zq,qb,z7,qx,ww,qw,zn,qa,qm,B0,reduceIte,
    a8]
   exact hN28 _ _ ⟨(t5 (s9 (s9 (s9 hS26)))),by rw [orF hg29]; simp only [B0,reduceIte,a8],zf1,rfl,rfl⟩
 rintro fr30 h35 ⟨hS36,f31,f32,f33,f34⟩
 simp only [s6,t3]
 simp only [qa,zb5,f31,q8,B0,reduceIte,a8]
 refine q9 (t:=((!v5.2)||(decide ((100:Int)<(p9 n7:Int))))) (fun hc37=>?_) (fun hc37=>?_)
 ·rw [iteT hc37] at hF7
  simp only [zc5,qf,qe,run_build,evp,B0,reduceIte,a8]
  refine qd (v := .agg [.nil,.nil]) rfl ?_
  simp only [f33,zh,B0,reduceIte,a8]
  refine qy (us:=[.nil,.nil]) rfl (cs':=[.nil,.nil]) hS36 hW rfl rfl (nle rfl) rfl (fun h38 hS39=>?_)
  simp only [qg,qa,zc,B0,reduceIte,a8]
  have he:=qj hF7
  subst he
  refine jl (qt (jr (bb:=b1) (oo:=0) (v := .agg [.nil,
    .nil]) (f33) ((zw (a0g _ _ _ hS39)).trans rfl)) (qt (kz (v := .nil) (rfl)) (qt (kz (v := .bool false) (rfl)) zm))) ?_
  exact ⟨.nil,[],.nil,[],.nil,[],by first | trivial | rfl,a2u,a2u,SlF.nil,((a0k ((a0k ((a0k ((a0k (hS39)))))))) : Sep _ (geL h.length) ([]))⟩
 rw [iteF hc37] at hF7
 simp only [zd,q5p,qf,qe,qg,qa,q3a,f32,zq,qb,z7,B0,reduceIte,a8]
 obtain ⟨oc70,hX72,hk73⟩:=kd hF7
 simp only [zc0]
 refine yi (σ:=(List Bool) × Raft) n7 (fun i68 x69 s183=>uk k i68 x69 s183.1 s183.2) (fun s fr' h'=>∃ v56 c57 v61 c62 v65 c66,
   fr' 4 = .ptr b1 0∧fr' 7 = .ptr b21 0∧fr' 9=v56∧fr' 27=lst jm n7∧SlF cB 1 4 v56 s.1 c57∧SlN Peer.R 5 43 v61 s.2.Peers c62∧SlA Mail.R 9 86 v65 s.2.Mail c66∧Sep h'
   (geL h.length) ([Blk1 b1 [.nil,.nil] 29]++([Blk1 b21 [v61,v65] 29]++(c57++(c62++(c66++([]))))))) hX72 ⟨.nil,[],v8,c9,v12,c13,f33,f34,rfl,rfl,SlF.nil,
   hv10,(SlN.toA hv14 Mail.RO.len),((t5 (t5 (t5 (t5 hS36)))) : Sep _ (geL h.length) ([Blk1 b1 [.nil,.nil] 29]++([Blk1 b21 [v8,
   v12] 29]++(c9++(c13++([]))))))⟩ (by simp only [B0,reduceIte,a8]) (by simp only [B0,reduceIte,
   a8]) (fun _ _ _ h=>h) rfl rfl (fun _ _ _ _ h=>h) (fun _ _ _ _ h=>h) (fun _ _ _ _ h=>h) (by decide) ?_ ?_
 ·rintro i68 x69 ⟨s54,s59⟩ fr82 h83 hx89 ⟨v56,c57,v61,c62,v65,c66,f85,f86,f87,f88,hv58,hv63,hv67,hS84⟩ f90 f91 oc71 hF74 hr75 Q76 hN77 hB81 hK78 hR79 hE80
  dsimp only at *
  unfold uk at hF74
  simp only [zbl,qf,qe,f88,f90,jj,B0,reduceIte,a8]
  refine qd (v := .ref (jm x69) 0) (yj hx89 rfl) ?_
  simp only [ql,B0,reduceIte,a8]
  refine qd (v := .agg [.int .i64 x69.Kind,.int .i64 x69.K,.int .i64 x69.To,.int .i64 x69.N]) rfl ?_
  simp only [ji,B0,reduceIte,a8]
  refine z6 hS84 (fun b92 h93 hS94=>?_)
  simp only [zh,B0,reduceIte,a8]
  refine qy (us:=[.int .i64 x69.Kind,.int .i64 x69.K,.int .i64 x69.To,.int .i64 x69.N]) rfl (cs':=[.int .i64 x69.Kind,.int .i64 x69.K,.int .i64 x69.To,
    .int .i64 x69.N]) hS94 hW rfl rfl (nle rfl) rfl (fun h96 hS97=>?_)
  simp only [qa,B0,reduceIte,a8]
  refine jc hS97 hW (by simp only [B0,reduceIte,a8]) (fun h98 hS99=>?_)
  simp only [z5,zch,qf,jg,qx2,B0,reduceIte,a8]
  refine qji hS99 (fun b100 h101 hS102=>?_)
  simp only [f86,zj,B0,reduceIte,a8]
  refine qq (v := .agg [v61,v65]) ((zw (a0g _ _ _ (s9 hS102))).trans rfl) ?_
  obtain ⟨v104,hx105,hF106⟩:=qk hF74
  simp only [qgj,B0,reduceIte,a8]
  refine qx0 rfl hS102 (qt (wk (qt (a35 hv63 _ (a0j hS102) rfl Peer.RO) (qt (SlA.snap hv67 _ (t8 hS102) rfl Mail.RO) zm))) zm)
    (qg2 (fun b hb=>decide_eq_true hb) s59 v104 hx105) ?_
  rintro _ h115 ⟨v107,c108,v111,c112,rfl,hv109,hv113,hS116⟩
  refine ⟨_,qjx (qp (a2v hv109) (qp (a2v hv113) zp)),hS116,(wu (SlN.pf hv109 Peer.RO) (wu (SlN.pf hv113 Mail.RO) qda)),
    fun h117 hS118=>?_⟩
  have hS119:Sep h117 (geL h.length) (c108++(c112++([Blk1 b100 [.nil,.nil] 29]++([Blk1 b1 [.nil,.nil] 29]++([Blk1 b21 [v61,
    v65] 29]++(c57++(c62++(c66++([]))))))))):=by simpa only [t7,a08] using hS118
  simp only [qh6,qkj,B0,reduceIte,a8]
  refine qq (v := .agg [.int .i64 x69.Kind,.int .i64 x69.K,.int .i64 x69.To,.int .i64 x69.N]) rfl ?_
  obtain ⟨v120,hx121,hF122⟩:=qk hF106
  simp only [xa,B0,reduceIte,a8]
  refine qxc rfl (qio hW k v104 v107 c108 hv109 v111 c112 hv113 x69 v120 hx121 (t6 (t6 hS119))) ?_
  rintro _ h129 ⟨c123,v125,c126,rfl,hv124,hv127,hS130⟩
  simp only [zz,qi,qvg,qa9,q0k,qbd,xx,B0,reduceIte,a8]
  refine ua (us:=[v107,v125]) rfl (cs':=[v107,
    v125]) (s9 hS130) hW rfl (qp (a0n hv124) (qp (SlA.one hv127) zp)) (nle rfl) rfl (fun h131 hS132=>?_)
  simp only [zz,qi,za,B0,reduceIte,a8]
  refine jc hS132 hW (by simp only [B0,reduceIte,a8]) (fun h133 hS134=>?_)
  simp only [z5,zbz,qf,qe,qg,qa,zb4,q8,B0,reduceIte,a8]
  obtain ⟨s135,hX145,hk146⟩:=qk hF122
  refine wj (t:=v120.2) (fun fr' h'=>∃ v137 c138 v141 c142,
    fr' 4 = .ptr b1 0∧fr' 7 = .ptr b21 0∧fr' 9=v56∧fr' 13 = .bool v120.2∧fr' 27=lst jm n7∧fr' 28 = .int .i64
    (p9 n7:Int)∧fr' 29 = .int .i64 (i68:Int)∧SlN Peer.R 5 43 v137 s135.Peers c138∧SlA Mail.R 9 86 v141 s135.Mail c142∧Sep h' (geL h.length)
    ([Blk1 b1 [.nil,.nil] 29]++([Blk1 b21 [v137,v141] 29]++(c57++(c138++(c142++([]))))))) (fun Q147 hN148 hR149 hE150=>⟨fun hc151=>?_,fun hc151=>?_⟩) ?_
  ·rw [iteT hc151] at hX145
   simp only [qe,ql,B0,reduceIte,a8]
   refine qd (v := .agg [v107,v125]) rfl ?_
   simp only [f86,zh,B0,reduceIte,a8]
   refine qy (us:=[v107,v125]) rfl (cs':=[v107,
     v125]) (t5 hS134) hW rfl (qp (a0n hv124) (qp (SlA.one hv127) zp)) (nle rfl) rfl (fun h152 hS153=>?_)
   simp only [qa,qm,B0,reduceIte,a8]
   have e154:=qj hX145
   subst e154
   exact hN148 _ _ ⟨v107,c123,v125,c126,f85,f86,f87,rfl,f88,f91,f90,hv124,hv127,
     (a0j (t5 (a0j (s9 (s9 (a0k (t8 (a0k (t8 hS153)))))))))⟩
  ·rw [iteF hc151] at hX145
   simp only [zd,qm,B0,reduceIte,a8]
   have e155:=qj hX145
   subst e155
   exact hN148 _ _ ⟨v61,c62,v65,c66,f85,f86,f87,rfl,f88,f91,f90,hv63,hv67,(a0j (a0j (a0j (a0j (a0j (a0k ((a0k (hS134)))))))))⟩
  rintro fr156 h157 ⟨v137,c138,v141,c142,f159,f160,f161,f162,f163,f164,f165,hv139,hv143,hS158⟩
  unfold qcu at hk146
  simp only [zc8,qe,f161,qg,f162,jy,evp,B0,reduceIte,a8]
  refine kg (n:=1) (f:=cB) [v120.2] hS158 rfl rfl (fun v166 c167 h168 hv169 hS170=>?_)
  simp only [yv,B0,reduceIte,a8]
  obtain ⟨l172,hx173,hF174⟩:=qk hk146
  refine wh (f:=cB) hv58 (t5 hS170) hW (fun _=>rfl) (fun _=>rfl) (a3o hv169 hS170 (fun _=>rfl)) hx173 (fun v175 c176 h177 hv178 hS179=>?_)
  simp only [qg,qa,qm,B0,reduceIte,a8]
  have e181:=qj hF174
  exact hN77 _ _ _ e181.symm ⟨v175,c176,v137,c138,v141,c142,f159,f160,rfl,f163,hv178,hv139,hv143,
    (a0j (a0j (s9 (a0j (a0j (a0k (t6 hS179)))))))⟩ (f165) (f164)
 rintro ⟨s184,s189⟩ fr198 h199 rfl ⟨v186,c187,v191,c192,v195,c196,f201,f202,f203,f204,hv188,hv193,hv197,hS200⟩
 dsimp only [jnO] at hk73
 dsimp only at *
 unfold qe1 at hk73
 simp only [q9p,qf,qe,f202,ql,B0,reduceIte,a8]
 refine qd (v := .agg [v191,v195]) ((zw (a0g _ _ _ (t6 hS200))).trans rfl) ?_
 obtain ⟨v205,hx206,hF207⟩:=qk hk73
 simp only [zi,B0,reduceIte,a8]
 refine qgh rfl hS200 (qt (wk (qt (a35 hv193 _ (t5 hS200) rfl Peer.RO) (qt (SlA.snap hv197 _ (a0j hS200) rfl Mail.RO) zm))) zm) (qg2
   (fun b hb=>decide_eq_true hb) s189 v205 hx206) ?_
 rintro _ h216 ⟨v208,c209,v212,c213,rfl,hv210,hv214,hS217⟩
 refine ⟨_,qjx (qp (a2v hv210) (qp (a2v hv214) zp)),hS217,(wu (SlN.pf hv210 Peer.RO) (wu (SlN.pf hv214 Mail.RO) qda)),fun h218 hS219=>?_⟩
 have hS220:Sep h218 (geL h.length) (c209++(c213++([Blk1 b1 [.nil,.nil] 29]++([Blk1 b21 [v191,
   v195] 29]++(c187++(c192++(c196++([])))))))):=by simpa only [t7,a08] using hS219
 simp only [f203,qg,f201,zh,B0,reduceIte,a8]
 refine qy (us:=[v208,v212]) rfl (cs':=[v208,v212]) (s9 hS220) hW rfl (qp (a0n hv210) (qp (a0n hv214) zp)) (nle rfl) rfl (fun h221 hS222=>?_)
 simp only [qg,qa,zc,B0,reduceIte,a8]
 have he:=qj hF207
 subst he
 refine jl (qt (jr (bb:=b1) (oo:=0) (v := .agg [v208,
   v212]) (f201) ((zw (a0g _ _ _ hS222)).trans rfl)) (qt (kz (v:=v186) (rfl)) (qt (kz (v := .bool true) (rfl)) zm))) ?_
 exact ⟨v208,c209,v212,c213,v186,c187,by first | trivial | rfl,hv210,hv214,hv188,
   (s9 (s9 (s9 (a0k (t5 (a0k (t5 (a0k (s9 (a0k (hS222)))))))))))⟩
theorem qky {W:Nat→Bool}{h:Heap} (hW:∀ b,
  (geL h.length) b→W b=true) (l7:List Bool) (i8:List Bool) (r:Bool) (hF:qcd l7 i8=some r) : Ret E W 9 [lst cB l7,
  lst cB i8] h (fun v h'=>cut h.length h' E.sz false 9 v=some (.bool r)):=by
 refine Ret.of (fn:=x9) rfl (Run.of ?_)
 unfold qcd at hF
 have zf0:zk [lst cB l7,lst cB i8] 0=lst cB l7:=rfl
 have zf1:zk [lst cB l7,lst cB i8] 1=lst cB i8:=rfl
 generalize zk [lst cB l7,lst cB i8]=fr0 at zf0 zf1 ⊢
 have hS:Sep h (geL h.length) []:=a14 h
 simp only [x9,qf,qe,qg,qa,zdn,zf0,zq,qb,z7,zf1,qx,wz,q8,B0,reduceIte,a8]
 refine q9 (t:=(decide ((p9 l7:Int)≠(p9 i8:Int)))) (fun hc1=>?_) (fun hc1=>?_)
 ·rw [iteT hc1] at hF
  simp only [qf,qe,qg,qa,zc,B0,reduceIte,a8]
  have he:=qj hF
  subst he
  simp only [zr,B0,reduceIte,a8]
  exact rfl
 rw [iteF hc1] at hF
 simp only [zd,zct,qf,qe,zf0,qg,zq,qb,z7,qa,B0,reduceIte,a8]
 obtain ⟨oc4,hX6,hk7⟩:=kd hF
 simp only [zcd]
 refine yi (σ:=Unit) l7 (fun i2 x3 _=>qbq i8 i2 x3 ) (fun s fr' h'=>fr' 0=lst cB l7∧fr' 1=lst cB i8∧Sep h' (geL h.length) ([])) hX6 ⟨zf0,
   zf1,hS⟩ (by simp only [B0,reduceIte,a8]) (by simp only [B0,reduceIte,
   a8]) (fun _ _ _ h=>h) rfl rfl (fun _ _ _ _ h=>h) (fun _ _ _ _ h=>h) (fun _ _ _ _ h=>h) (by decide) ?_ ?_
 ·rintro i2 x3 _ fr16 h17 hx21 ⟨f19,f20,hS18⟩ f22 f23 oc5 hF8 hr9 Q10 hN11 hB15 hK12 hR13 hE14
  unfold qbq at hF8
  simp only [zb2,qf,qe,f22,qg,qa,zbs,jg,f19,zz,qi,yh,B0,reduceIte,a8]
  refine qq (v := .ref (cB x3) 0) (yj hx21 rfl) ?_
  simp only [zj,B0,reduceIte,a8]
  refine qq (v := .bool x3) rfl ?_
  obtain ⟨x24,hx25,hF26⟩:=qk hF8
  simp only [f20,zz,qi,yh,B0,reduceIte,a8]
  refine qq (v := .ref (cB x24) 0) (xg hx25 rfl) ?_
  simp only [zj,B0,reduceIte,a8]
  refine qq (v := .bool x24) rfl ?_
  simp only [zcn,qi,qjw,za,q8,B0,reduceIte,a8]
  refine q9 (t:=(!(x3 == x24))) (fun hc27=>?_) (fun hc27=>?_)
  ·rw [iteT hc27] at hF26
   simp only [qf,qe,qg,qa,zc,B0,reduceIte,a8]
   have e28:=qj hF26
   subst e28
   have ho29:=hr9 _ rfl
   have hk30:=hk7
   rw [ho29] at hk30
   dsimp only [jnO] at hk30
   apply hR13
   have he:=qj hk30
   subst he
   simp only [zr,B0,reduceIte,a8]
   exact rfl
  rw [iteF hc27] at hF26
  simp only [zd,qm,B0,reduceIte,a8]
  have e31:=qj hF26
  exact hN11 _ _ _ e31.symm ⟨f19,f20,hS18⟩ (f22) (f23)
 rintro _ fr33 h34 rfl ⟨f36,f37,hS35⟩
 dsimp only [jnO] at hk7
 unfold qg6 at hk7
 simp only [qf,qe,qg,qa,zc,B0,reduceIte,a8]
 have he:=qj hk7
 subst he
 simp only [zr,B0,reduceIte,a8]
 exact rfl
theorem qbc {W:Nat→Bool}{h:Heap} (hW:∀ b,
  (geL h.length) b→W b=true) (l7:List Entry) (i8:List Entry) (r:Bool) (hF:w5 l7 i8=some r) : Ret E W 14 [lst qh l7,
  lst qh i8] h (fun v h'=>cut h.length h' E.sz false 9 v=some (.bool r)):=by
 refine Ret.of (fn:=x14) rfl (Run.of ?_)
 unfold w5 at hF
 have zf0:zk [lst qh l7,lst qh i8] 0=lst qh l7:=rfl
 have zf1:zk [lst qh l7,lst qh i8] 1=lst qh i8:=rfl
 generalize zk [lst qh l7,lst qh i8]=fr0 at zf0 zf1 ⊢
 have hS:Sep h (geL h.length) []:=a14 h
 simp only [x14,qf,qe,qg,qa,q4s,zf0,zq,qb,z7,zf1,qx,wz,q8,B0,reduceIte,a8]
 refine q9 (t:=(decide ((p9 l7:Int)≠(p9 i8:Int)))) (fun hc1=>?_) (fun hc1=>?_)
 ·rw [iteT hc1] at hF
  simp only [qf,qe,qg,qa,zc,B0,reduceIte,a8]
  have he:=qj hF
  subst he
  simp only [zr,B0,reduceIte,a8]
  exact rfl
 rw [iteF hc1] at hF
 simp only [zd,q6h,qf,qe,zf0,qg,zq,qb,z7,qa,B0,reduceIte,a8]
 obtain ⟨oc4,hX6,hk7⟩:=kd hF
 simp only [q3h]
 refine yi (σ:=Unit) l7 (fun i2 x3 _=>qay i8 i2 x3 ) (fun s fr' h'=>fr' 0=lst qh l7∧fr' 1=lst qh i8∧Sep h'
   (geL h.length) ([])) hX6 ⟨zf0,zf1,hS⟩ (by simp only [B0,reduceIte,a8]) (by simp only [B0,reduceIte,
   a8]) (fun _ _ _ h=>h) rfl rfl (fun _ _ _ _ h=>h) (fun _ _ _ _ h=>h) (fun _ _ _ _ h=>h) (by decide) ?_ ?_
 ·rintro i2 x3 _ fr16 h17 hx21 ⟨f19,f20,hS18⟩ f22 f23 oc5 hF8 hr9 Q10 hN11 hB15 hK12 hR13 hE14
  unfold qay at hF8
  simp only [q31,qf,qe,f22,qg,qa,q2v,jg,f19,zz,qi,yh,B0,reduceIte,a8]
  refine qq (v := .ref (qh x3) 0) (yj hx21 rfl) ?_
  simp only [zj,B0,reduceIte,a8]
  refine qq (v := .agg [.int .i64 x3.Term,.int .i64 x3.Value]) rfl ?_
  obtain ⟨x24,hx25,hF26⟩:=qk hF8
  simp only [f20,zz,qi,yh,B0,reduceIte,a8]
  refine qq (v := .ref (qh x24) 0) (xg hx25 rfl) ?_
  simp only [zj,B0,reduceIte,a8]
  refine qq (v := .agg [.int .i64 x24.Term,.int .i64 x24.Value]) rfl ?_
  simp only [qys,B0,reduceIte,a8]
  refine qq (v := .bool (!((x3.Term == x24.Term)&&((x3.Value == x24.Value)&&true)))) rfl ?_
  simp only [za,q8,B0,reduceIte,a8]
  refine q9 (t:=(!((x3.Term == x24.Term)&&((x3.Value == x24.Value)&&true)))) (fun hc27=>?_) (fun hc27=>?_)
  ·rw [iteT hc27] at hF26
   simp only [qf,qe,qg,qa,zc,B0,reduceIte,a8]
   have e28:=qj hF26
   subst e28
   have ho29:=hr9 _ rfl
   have hk30:=hk7
   rw [ho29] at hk30
   dsimp only [jnO] at hk30
   apply hR13
   have he:=qj hk30
   subst he
   simp only [zr,B0,reduceIte,a8]
   exact rfl
  rw [iteF hc27] at hF26
  simp only [zd,qm,B0,reduceIte,a8]
  have e31:=qj hF26
  exact hN11 _ _ _ e31.symm ⟨f19,f20,hS18⟩ (f22) (f23)
 rintro _ fr33 h34 rfl ⟨f36,f37,hS35⟩
 dsimp only [jnO] at hk7
 unfold qfu at hk7
 simp only [qf,qe,qg,qa,zc,B0,reduceIte,a8]
 have he:=qj hk7
 subst he
 simp only [zr,B0,reduceIte,a8]
 exact rfl
theorem qlu {W:Nat→Bool}{h:Heap} (hW:∀ b,
  (geL h.length) b→W b=true) (l7:List Int) (i8:List Int) (r:Bool) (hF:qc5 l7 i8=some r) : Ret E W 41 [lst cI l7,
  lst cI i8] h (fun v h'=>cut h.length h' E.sz false 9 v=some (.bool r)):=by
 refine Ret.of (fn:=x41) rfl (Run.of ?_)
 unfold qc5 at hF
 have zf0:zk [lst cI l7,lst cI i8] 0=lst cI l7:=rfl
 have zf1:zk [lst cI l7,lst cI i8] 1=lst cI i8:=rfl
 generalize zk [lst cI l7,lst cI i8]=fr0 at zf0 zf1 ⊢
 have hS:Sep h (geL h.length) []:=a14 h
 simp only [x41,qf,qe,qg,qa,q9h,zf0,zq,qb,z7,zf1,qx,wz,q8,B0,reduceIte,a8]
 refine q9 (t:=(decide ((p9 l7:Int)≠(p9 i8:Int)))) (fun hc1=>?_) (fun hc1=>?_)
 ·rw [iteT hc1] at hF
  simp only [qf,qe,qg,qa,zc,B0,reduceIte,a8]
  have he:=qj hF
  subst he
  simp only [zr,B0,reduceIte,a8]
  exact rfl
 rw [iteF hc1] at hF
 simp only [zd,q64,qf,qe,zf0,qg,zq,qb,z7,qa,B0,reduceIte,a8]
 obtain ⟨oc4,hX6,hk7⟩:=kd hF
 simp only [q58]
 refine yi (σ:=Unit) l7 (fun i2 x3 _=>qcw i8 i2 x3 ) (fun s fr' h'=>fr' 0=lst cI l7∧fr' 1=lst cI i8∧Sep h' (geL h.length) ([])) hX6 ⟨zf0,
   zf1,hS⟩ (by simp only [B0,reduceIte,a8]) (by simp only [B0,reduceIte,
   a8]) (fun _ _ _ h=>h) rfl rfl (fun _ _ _ _ h=>h) (fun _ _ _ _ h=>h) (fun _ _ _ _ h=>h) (by decide) ?_ ?_
 ·rintro i2 x3 _ fr16 h17 hx21 ⟨f19,f20,hS18⟩ f22 f23 oc5 hF8 hr9 Q10 hN11 hB15 hK12 hR13 hE14
  unfold qcw at hF8
  simp only [q7s,qf,qe,f22,qg,qa,q6k,jg,f19,zz,qi,yh,B0,reduceIte,a8]
  refine qq (v := .ref (cI x3) 0) (yj hx21 rfl) ?_
  simp only [zj,B0,reduceIte,a8]
  refine qq (v := .int .i64 x3) rfl ?_
  obtain ⟨x24,hx25,hF26⟩:=qk hF8
  simp only [f20,zz,qi,yh,B0,reduceIte,a8]
  refine qq (v := .ref (cI x24) 0) (xg hx25 rfl) ?_
  simp only [zj,B0,reduceIte,a8]
  refine qq (v := .int .i64 x24) rfl ?_
  simp only [j5,qi,wz,za,q8,B0,reduceIte,a8]
  refine q9 (t:=(decide (x3≠x24))) (fun hc27=>?_) (fun hc27=>?_)
  ·rw [iteT hc27] at hF26
   simp only [qf,qe,qg,qa,zc,B0,reduceIte,a8]
   have e28:=qj hF26
   subst e28
   have ho29:=hr9 _ rfl
   have hk30:=hk7
   rw [ho29] at hk30
   dsimp only [jnO] at hk30
   apply hR13
   have he:=qj hk30
   subst he
   simp only [zr,B0,reduceIte,a8]
   exact rfl
  rw [iteF hc27] at hF26
  simp only [zd,qm,B0,reduceIte,a8]
  have e31:=qj hF26
  exact hN11 _ _ _ e31.symm ⟨f19,f20,hS18⟩ (f22) (f23)
 rintro _ fr33 h34 rfl ⟨f36,f37,hS35⟩
 dsimp only [jnO] at hk7
 unfold qhp at hk7
 simp only [qf,qe,qg,qa,zc,B0,reduceIte,a8]
 have he:=qj hk7
 subst he
 simp only [zr,B0,reduceIte,a8]
 exact rfl
end Go.Proofs.Ytanblnjomhgphaa.X
