/- The functions' code comes to what the plain functions say (3). -/
import Derived.Test.YtanblnjomhgphaaXBH2
open List renaming drop_succ_cons→s6,drop_zero→t3,length→p9,set→a1b,take_succ_cons→s5,take_zero→t4
open Nat renaming add_zero→o9,reduceAdd→o7,reduceEqDiff→a8,zero_add→o8
open Option renaming map_none→a02,map_some→a0q
open Go.Proofs.Ytanblnjomhgphaa.X.Sep renaming bk→a0g,dc→a0k,m1→t6,m2→s9,m3→t5,m4→a0j,m5→t8,ni2→a1f
open Go.Proofs.Ytanblnjomhgphaa.X.SlF renaming one→a01,plen→a1p
open Go.Proofs.Ytanblnjomhgphaa.X.SlG renaming cls0→a1h,one→a3i,toN→a1e
open Go.Proofs.Ytanblnjomhgphaa.X.SlN renaming one→a0n
set_option linter.unusedVariables false
set_option linter.unusedSimpArgs false
set_option maxRecDepth 100000
set_option maxHeartbeats 1000000
namespace Go.Proofs.Ytanblnjomhgphaa.X
open Go
theorem qio {W:Nat→Bool}{h:Heap}{lo:Nat→Prop}{S0:List Obj} (hW:∀ b,
  lo b→W b=true) (k:Nat) (d8:Raft) (d6:XV) (f4:List Obj) (e9:SlN Peer.R 5 43 d6 d8.Peers f4) (d7:XV) (d9:List Obj)
  (e8:SlN Mail.R 9 86 d7 d8.Mail d9) (a9:RaftStep) (r:Raft × Bool) (hF:kr k d8 a9=some r) (hS:Sep h lo (f4++(d9 ++
  (S0)))) : Ret E W 47 [.agg [d6,d7],.agg [.int .i64 a9.Kind,.int .i64 a9.K,.int .i64 a9.To,.int .i64 a9.N]] h (fun v h'=>∃ g9 i5 i0,
  v = .tup [.agg [d6,i5],.bool r.2]∧SlN Peer.R 5 43 d6 r.1.Peers g9∧SlA Mail.R 9 86 i5 r.1.Mail i0∧Sep h' lo (g9++(i0++(S0)))):=by
 refine Ret.of (fn:=x47) rfl (Run.of ?_)
 unfold kr at hF
 have zf0:zk [.agg [d6,d7],.agg [.int .i64 a9.Kind,.int .i64 a9.K,.int .i64 a9.To,.int .i64 a9.N]] 0 = .agg [d6,d7]:=rfl
 have zf1:zk [.agg [d6,d7],.agg [.int .i64 a9.Kind,.int .i64 a9.K,.int .i64 a9.To,.int .i64 a9.N]] 1 = .agg [.int .i64 a9.Kind,.int .i64 a9.K,
   .int .i64 a9.To,.int .i64 a9.N]:=rfl
 generalize zk [.agg [d6,d7],.agg [.int .i64 a9.Kind,.int .i64 a9.K,.int .i64 a9.To,.int .i64 a9.N]]=fr0 at zf0 zf1 ⊢
 simp only [x47,qf,qe,ym,zf0,B0,reduceIte,a8]
 refine ko (cs:=[d6,d7]) hS rfl rfl (qp (a0n e9) (qp (a0n e8) zp)) (fun b1 h2 hS3=>?_)
 simp only [ym,zf1,B0,reduceIte,a8]
 refine ko (cs:=[.int .i64 a9.Kind,.int .i64 a9.K,.int .i64 a9.To,.int .i64 a9.N]) hS3 rfl rfl rfl (fun b5 h6 hS7=>?_)
 simp only [ji,B0,reduceIte,a8]
 refine z6 hS7 (fun b9 h10 hS11=>?_)
 simp only [qg,qa,B0,reduceIte,a8]
 refine jc (t6 hS11) hW (by simp only [B0,reduceIte,a8]) (fun h13 hS14=>?_)
 simp only [z5,qzx,qf,qe,qo,qb,o7,o8,o9,qn,ql,B0,reduceIte,a8]
 refine qd (v := .int .i64 a9.Kind) rfl ?_
 simp only [zi,B0,reduceIte,a8]
 refine jx rfl (qt zb (qt zb (qt zb zm))) (qgg (fun b hb=>decide_eq_true hb) a9.Kind 4 6 _ rfl) ?_
 simp only [qa,qyg,q8,B0,reduceIte,a8]
 refine q9 (t:=(yq a9.Kind 4 6)) (fun hc15=>?_) (fun hc15=>?_)
 ·rw [iteT hc15] at hF
  simp only [qwt,qf,qe,qo,qb,o7,o8,o9,qn,ql,B0,reduceIte,a8]
  refine qd (v := .int .i64 a9.K) rfl ?_
  simp only [qx,qb,qch,qg,B0,reduceIte,a8]
  refine jf 7 (fun fr' h'=>Sep h' lo ([Blk1 b1 [d6,d7] 29]++([Blk1 b9 [.nil,
    .nil] 29]++(f4++(d9++(S0)))))∧fr' 21 = .bool ((decide (a9.K<0))||(decide
    ((p9 d8.Mail:Int)≤a9.K)))∧fr' 2 = .ptr b1 0∧fr' 3 = .ref [.int .i64 a9.Kind,.int .i64 a9.K,.int .i64 a9.To,
    .int .i64 a9.N] 0∧fr' 4 = .ptr b9 0) (fun Q16 hN17=>?_) ?_
  ·simp only [s5,t4]
   simp only [qc (g:=14),B0,reduceIte,a8]
   refine zf (t:=(decide (a9.K<0))) (fun hg18=>?_) (fun hg18=>?_)
   ·simp only [hg18,qc (g:=14),zx,qw,qb,zo,qa,qm,B0,reduceIte,a8]
    exact hN17 _ _ ⟨(t5 (s9 (t5 (t5 hS14)))),by rw [orT hg18]; simp only [B0,reduceIte,a8],rfl,rfl,rfl⟩
   ·simp only [hg18,qc (g:=14),qr,qo,qb,o7,o8,o9,qn,ql,B0,reduceIte,a8]
    refine qd (v := .int .i64 a9.K) rfl ?_
    simp only [hg18,qc (g:=14),qr,qo,qb,o7,o8,o9,qv,ql,B0,reduceIte,a8]
    refine qd (v:=d7) ((ja (a0g _ _ _ (t6 hS14))).trans rfl) ?_
    simp only [hg18,qc (g:=14),qr,zq,qb,SlN.len e8,qx,qga,qw,zn,qa,qm,B0,reduceIte,a8]
    exact hN17 _ _ ⟨(t5 (s9 (t5 (t5 hS14)))),by rw [orF hg18]; simp only [B0,reduceIte,a8],rfl,rfl,rfl⟩
  rintro fr19 h24 ⟨hS25,f20,f21,f22,f23⟩
  simp only [s6,t3]
  simp only [f20,qg,B0,reduceIte,a8]
  refine jf 4 (fun fr' h'=>Sep h' lo ([Blk1 b1 [d6,d7] 29]++([Blk1 b9 [.nil,
    .nil] 29]++(f4++(d9++(S0)))))∧fr' 26 = .bool (((decide (a9.K<0))||(decide ((p9 d8.Mail:Int)≤a9.K)))||(decide
    (a9.To≠0)))∧fr' 2 = .ptr b1 0∧fr' 3 = .ref [.int .i64 a9.Kind,.int .i64 a9.K,.int .i64 a9.To,.int .i64 a9.N] 0∧fr' 4 = .ptr b9 0) (fun Q26 hN27=>?_) ?_
  ·simp only [s5,t4]
   simp only [qc (g:=22),B0,reduceIte,a8]
   refine zf (t:=((decide (a9.K<0))||(decide ((p9 d8.Mail:Int)≤a9.K)))) (fun hg28=>?_) (fun hg28=>?_)
   ·simp only [hg28,qc (g:=22),zx,qw,qb,zo,qa,qm,B0,reduceIte,a8]
    exact hN27 _ _ ⟨(t5 (t5 (t5 (t5 hS25)))),by rw [orT hg28]; simp only [B0,reduceIte,a8],f21,f22,f23⟩
   ·simp only [hg28,qc (g:=22),qr,f22,qo,qb,o7,o8,o9,qn,ql,B0,reduceIte,a8]
    refine qd (v := .int .i64 a9.To) rfl ?_
    simp only [hg28,qc (g:=22),qr,qx,qb,wz,qw,zn,qa,qm,B0,reduceIte,a8]
    exact hN27 _ _ ⟨(t5 (t5 (t5 (t5 hS25)))),by rw [orF hg28]; simp only [B0,reduceIte,a8],f21,f22,f23⟩
  rintro fr29 h34 ⟨hS35,f30,f31,f32,f33⟩
  simp only [s6,t3]
  simp only [f30,qg,B0,reduceIte,a8]
  refine jf 4 (fun fr' h'=>Sep h' lo ([Blk1 b1 [d6,d7] 29]++([Blk1 b9 [.nil,
    .nil] 29]++(f4++(d9++(S0)))))∧fr' 31 = .bool ((((decide (a9.K<0))||(decide ((p9 d8.Mail:Int)≤a9.K)))||(decide (a9.To≠0))) ||
    (decide (a9.N≠0)))∧fr' 2 = .ptr b1 0∧fr' 3 = .ref [.int .i64 a9.Kind,.int .i64 a9.K,.int .i64 a9.To,
    .int .i64 a9.N] 0∧fr' 4 = .ptr b9 0) (fun Q36 hN37=>?_) ?_
  ·simp only [s5,t4]
   simp only [qc (g:=27),B0,reduceIte,a8]
   refine zf (t:=(((decide (a9.K<0))||(decide ((p9 d8.Mail:Int)≤a9.K)))||(decide (a9.To≠0)))) (fun hg38=>?_) (fun hg38=>?_)
   ·simp only [hg38,qc (g:=27),zx,qw,qb,zo,qa,qm,B0,reduceIte,a8]
    exact hN37 _ _ ⟨(t5 (t5 (t5 (t5 hS35)))),by rw [orT hg38]; simp only [B0,reduceIte,a8],f31,f32,f33⟩
   ·simp only [hg38,qc (g:=27),qr,f32,qo,qb,o7,o8,o9,qn,ql,B0,reduceIte,a8]
    refine qd (v := .int .i64 a9.N) rfl ?_
    simp only [hg38,qc (g:=27),qr,qx,qb,wz,qw,zn,qa,qm,B0,reduceIte,a8]
    exact hN37 _ _ ⟨(t5 (t5 (t5 (t5 hS35)))),by rw [orF hg38]; simp only [B0,reduceIte,a8],f31,f32,f33⟩
  rintro fr39 h44 ⟨hS45,f40,f41,f42,f43⟩
  simp only [s6,t3]
  simp only [qa,q22,f40,q8,B0,reduceIte,a8]
  refine q9 (t:=((((decide (a9.K<0))||(decide ((p9 d8.Mail:Int)≤a9.K)))||(decide (a9.To≠0)))||(decide (a9.N≠0)))) (fun hc46=>?_)
    (fun hc46=>?_)
  ·rw [iteT hc46] at hF
   simp only [qf,qe,f41,ql,B0,reduceIte,a8]
   refine qd (v := .agg [d6,d7]) ((zw (a0g _ _ _ hS45)).trans rfl) ?_
   simp only [f43,zh,B0,reduceIte,a8]
   refine qy (us:=[d6,d7]) rfl (cs':=[d6,
     d7]) (t6 hS45) hW rfl (qp (a0n e9) (qp (a0n e8) zp)) (nle rfl) rfl (fun h47 hS48=>?_)
   simp only [qg,qa,zc,B0,reduceIte,a8]
   have he:=qj hF
   subst he
   refine jl (qt (jr (bb:=b9) (oo:=0) (v := .agg [d6,
     d7]) (f43) ((zw (a0g _ _ _ hS48)).trans rfl)) (qt (kz (v := .bool false) (rfl)) zm)) ?_
   exact ⟨f4,d7,d9,by first | trivial | rfl,e9,(SlN.toA e8 Mail.RO.len),(t6 (t6 (a0k ((a0k (hS48))))))⟩
  rw [iteF hc46] at hF
  simp only [zd,qvn,qf,qe,f41,qo,qb,o7,o8,o9,qv,ql,B0,reduceIte,a8]
  refine qd (v:=d7) ((ja (a0g _ _ _ hS45)).trans rfl) ?_
  simp only [f42,qo,qb,o7,o8,o9,qn,ql,B0,reduceIte,a8]
  refine qd (v := .int .i64 a9.K) rfl ?_
  obtain ⟨x49,hx50,hF51⟩:=qk hF
  simp only [jj,B0,reduceIte,a8]
  obtain ⟨b52,hb53⟩:=SlN.isrow e8 (j7 hx50)
  refine qd (SlN.ia e8 hb53 hx50) ?_
  obtain ⟨c54,cs55,os56,hv57,hR58,hS59⟩:=SlG.opn (SlN.toG e8 hb53 Mail.RO.len) hx50 zt Mail.RO.len (t5 hS45)
  obtain ⟨v61,c62,hv63,rfl,rfl⟩:=hR58
  have hS60:=Sep.no1 hS59
  simp only [ql,B0,reduceIte,a8]
  refine qd (v := .agg [.bool x49.Reply,.int .i64 x49.From,.int .i64 x49.To,.int .i64 x49.Term,.int .i64 x49.Prev,.int .i64 x49.PTerm,v61,.int .i64 x49.Commit,
    .int .i64 x49.Match]) ((SlG.lds (o:=0) hv57 rfl hx50 hS60 (nle rfl)).trans rfl) ?_
  simp only [ji,B0,reduceIte,a8]
  refine z6 hS60 (fun b65 h66 hS67=>?_)
  simp only [zh,B0,reduceIte,a8]
  refine qy (us:=[.bool x49.Reply,.int .i64 x49.From,.int .i64 x49.To,.int .i64 x49.Term,.int .i64 x49.Prev,.int .i64 x49.PTerm,v61,.int .i64 x49.Commit,
    .int .i64 x49.Match]) rfl (cs':=[.bool x49.Reply,.int .i64 x49.From,.int .i64 x49.To,.int .i64 x49.Term,.int .i64 x49.Prev,.int .i64 x49.PTerm,v61,
    .int .i64 x49.Commit,.int .i64 x49.Match]) hS67 hW rfl (qp rfl (qp rfl (qp rfl (qp rfl (qp rfl (qp rfl (qp (a01 hv63) (qp rfl
    (qp rfl zp))))))))) (nle rfl) rfl (fun h69 hS70=>?_)
  simp only [qa,B0,reduceIte,a8]
  refine jc hS70 hW (by simp only [B0,reduceIte,a8]) (fun h71 hS72=>?_)
  simp only [z5,qzw,qf,qe,f42,qo,qb,o7,o8,o9,qn,ql,B0,reduceIte,a8]
  refine qd (v := .int .i64 a9.Kind) rfl ?_
  simp only [qx,qb,ku,qa,q8y,q8,B0,reduceIte,a8]
  refine q9 (t:=(decide (a9.Kind=6))) (fun hc73=>?_) (fun hc73=>?_)
  ·rw [iteT hc73] at hF51
   simp only [q75,qf,qe,f41,qo,qb,o7,o8,o9,qv,ql,B0,reduceIte,a8]
   refine qd (v:=d7) ((ja (a0g _ _ _ (s9 hS72))).trans rfl) ?_
   simp only [zq,qb,SlG.plen hv57,qx,ku,qa,q9v,q8,B0,reduceIte,a8]
   refine q9 (t:=(decide ((p9 d8.Mail:Int)=20))) (fun hc74=>?_) (fun hc74=>?_)
   ·rw [iteT hc74] at hF51
    simp only [qf,qe,f41,ql,B0,reduceIte,a8]
    refine qd (v := .agg [d6,d7]) ((zw (a0g _ _ _ (s9 hS72))).trans rfl) ?_
    simp only [f43,zh,B0,reduceIte,a8]
    refine qy (us:=[d6,d7]) rfl (cs':=[d6,
      d7]) (t5 hS72) hW rfl (qp (a0n e9) (qp (a3i hv57) zp)) (nle rfl) rfl (fun h75 hS76=>?_)
    simp only [qg,qa,zc,B0,reduceIte,a8]
    obtain ⟨c77,hv78,hS79⟩:=a1h (c:=c54) (os:=c62) hv57 rfl hx50 zt (Mail.RI (x:=x49) hv63) (s9 (s9 hS76))
    have hv80:=a1e hv78
    have he:=qj hF51
    subst he
    refine jl (qt (jr (bb:=b9) (oo:=0) (v := .agg [d6,
      d7]) (f43) ((zw (a0g _ _ _ (t6 hS79))).trans rfl)) (qt (kz (v := .bool false) (rfl)) zm)) ?_
    exact ⟨f4,d7,c77,by first | trivial | rfl,e9,(SlN.toA hv80 Mail.RO.len),(t6 (a0k (t6 (a0k (t6 hS79)))))⟩
   rw [iteF hc74] at hF51
   simp only [zd,q7o,qf,qe,f41,qo,qb,o7,o8,o9,qv,ql,B0,reduceIte,a8]
   refine qd (v:=d7) ((ja (a0g _ _ _ (s9 hS72))).trans rfl) ?_
   simp only [ql,B0,reduceIte,a8]
   refine qd (v := .agg [.bool x49.Reply,.int .i64 x49.From,.int .i64 x49.To,.int .i64 x49.Term,.int .i64 x49.Prev,.int .i64 x49.PTerm,v61,.int .i64 x49.Commit,
     .int .i64 x49.Match]) rfl ?_
   simp only [jy,evp,B0,reduceIte,a8]
   refine qpc (n:=9) (cs:=[.bool x49.Reply,.int .i64 x49.From,.int .i64 x49.To,.int .i64 x49.Term,.int .i64 x49.Prev,.int .i64 x49.PTerm,v61,
     .int .i64 x49.Commit,.int .i64 x49.Match]) hS72 (qel (us:=[.bool x49.Reply,.int .i64 x49.From,.int .i64 x49.To,.int .i64 x49.Term,.int .i64 x49.Prev,
     .int .i64 x49.PTerm,v61,.int .i64 x49.Commit,.int .i64 x49.Match]) (vs:=[.bool x49.Reply,.int .i64 x49.From,.int .i64 x49.To,.int .i64 x49.Term,
     .int .i64 x49.Prev,.int .i64 x49.PTerm,v61,.int .i64 x49.Commit,
     .int .i64 x49.Match]) rfl rfl (nle rfl) (qp rfl (qp rfl (qp rfl (qp rfl (qp rfl (qp rfl (qp (a01 hv63) (qp rfl
     (qp rfl zp))))))))) rfl qek) rfl (qp rfl (qp rfl (qp rfl (qp rfl (qp rfl (qp rfl (qp (a01 hv63) (qp rfl (qp rfl zp)))))))))
     (qp rfl (qp rfl (qp rfl (qp rfl (qp rfl (qp rfl (qp (SlF.free1 hv63) (qp rfl (qp rfl zp))))))))) (fun v81 c82 h83 hv84 hS85=>?_)
   simp only [yv,B0,reduceIte,a8]
   obtain ⟨l87,hx88,hF89⟩:=qk hF51
   refine qvp (R:=Mail.R) (cs:=[.bool x49.Reply,.int .i64 x49.From,.int .i64 x49.To,.int .i64 x49.Term,.int .i64 x49.Prev,.int .i64 x49.PTerm,v61,
     .int .i64 x49.Commit,.int .i64 x49.Match]) (os:=c62) hv57 (yn hx50).2.2 (Mail.RI (x:=x49) hv63) hv84 (s9
     (s9 hS85)) hW Mail.RO.len Mail.RO.one Mail.RO.free hx88 (fun v90 c91 h92 hv93 hS94=>?_)
   simp only [f41,qo,qb,o7,o8,o9,qv,zh,B0,reduceIte,a8]
   refine qy (us:=[v90]) (jp (SlA.one hv93)) (cs':=[d6,v90]) (t6 hS94) hW rfl (qp (SlA.one hv93) zp) (nle rfl) rfl (fun h96 hS97=>?_)
   simp only [qa,qf,qe,f41,ql,B0,reduceIte,a8]
   refine qd (v := .agg [d6,v90]) ((zw (a0g _ _ _ hS97)).trans rfl) ?_
   simp only [f43,zh,B0,reduceIte,a8]
   refine qy (us:=[d6,v90]) rfl (cs':=[d6,v90]) (s9 hS97) hW rfl (qp (a0n e9) (qp (SlA.one hv93) zp)) (nle rfl) rfl (fun h98 hS99=>?_)
   simp only [qg,qa,zc,B0,reduceIte,a8]
   have he:=qj hF89
   subst he
   refine jl (qt (jr (bb:=b9) (oo:=0) (v := .agg [d6,
     v90]) (f43) ((zw (a0g _ _ _ hS99)).trans rfl)) (qt (kz (v := .bool true) (rfl)) zm)) ?_
   exact ⟨f4,v90,c91,by first | trivial | rfl,e9,hv93,(t6 (a0k ((a0k (hS99)))))⟩
  rw [iteF hc73] at hF51
  simp only [zd,q43,qf,jg,qa6,evp,B0,reduceIte,a8]
  refine qmq (R:=Mail.R) (n:=9) hS72 rfl (fun v100 c101 h102 hv103 hS104=>?_)
  simp only [f41,zl,qi,o7,o8,o9,qv,zj,B0,reduceIte,a8]
  refine qq (v:=d7) ((ja (a0g _ _ _ (t5 hS104))).trans rfl) ?_
  simp only [f42,zl,qi,o7,o8,o9,qn,zj,B0,reduceIte,a8]
  refine qq (v := .int .i64 a9.K) rfl ?_
  obtain ⟨l106,hx107,hF108⟩:=qk hF51
  simp only [qgm,a0q,a02,B0,reduceIte,a8]
  obtain ⟨w109,he110,hw111⟩:=SlG.win (ty:=86) none (some a9.K) hv57 hx107 (t6 hS104)
  refine qq he110 ?_
  simp only [qq1,B0,reduceIte,a8]
  obtain ⟨l112,hx113,hF114⟩:=qk hF108
  have hq115:=nwq (fun z hz=>Sep.dj (t6 (t5 hS104)) qlm (SlN.rowfp hv103 z hz))
  have hq116:=nwq (fun z hz=>Sep.dj (t6 (a0j hS104)) qlm (SlN.rowfp hv103 z hz))
  refine q4l qtx ?_
  refine qs1 (R:=Mail.R) (K0:=a9.K) hv103 hv57 hx50 hx107 hw111 (t6 (t6 hS104)) hW Mail.RO.len Mail.RO.one Mail.RO.free hx113
    (fun v117 c118 h119 hv120 hS121=>?_)
  simp only [f41,qki,qi,o7,o8,o9,qv,qh6,B0,reduceIte,a8]
  refine zaj (Sep.ltk (s9 hS72)) (nw1 hq115 nw0) ?_
  refine qq (v:=d7) ((ja (a0g _ _ _ (t5 hS121))).trans rfl) ?_
  simp only [f42,qki,qi,o7,o8,o9,qn,qh6,qkj,B0,reduceIte,a8]
  refine qq (v := .int .i64 a9.K) rfl ?_
  obtain ⟨l123,hx124,hF125⟩:=qk hF114
  simp only [qyb,qi,ur,zck,a0q,a02,B0,reduceIte,a8]
  obtain ⟨w126,he127,hw128⟩:=SlG.win (ty:=86) (some (IntKind.wrap .i64 (a9.K+1))) none hv57 hx124 (t6 hS121)
  refine qq he127 ?_
  simp only [qgp,B0,reduceIte,a8]
  obtain ⟨l129,hx130,hF131⟩:=qk hF125
  refine qwl (R:=Mail.R) (bytes:=88) (by decide) (K0:=a9.K) hv120 hx50 hx107 hx113 hx124 hw128 (t6
    (t6 hS121)) hW Mail.RO.len Mail.RO.one Mail.RO.free hx130 (fun v132 c133 h134 hv135 hS136=>?_)
  simp only [f41,zl,qi,o7,o8,o9,qv,xx,B0,reduceIte,a8]
  refine ua (us:=[v132]) (jp (a0n hv135)) (cs':=[d6,v132]) (s9 hS136) hW rfl (qp (a0n hv135) zp) (nle rfl) rfl (fun h138 hS139=>?_)
  simp only [za,q4p,qf,qe,f42,qo,qb,o7,o8,o9,qn,ql,B0,reduceIte,a8]
  refine qd (v := .int .i64 a9.Kind) rfl ?_
  simp only [qx,qb,ku,qa,q9l,q8,B0,reduceIte,a8]
  obtain ⟨sv151,hX149,hk150⟩:=qk hF131
  refine wj (t:=(decide (a9.Kind=4))) (fun fr' h'=>∃ v142 c143 c146,
    fr' 2 = .ptr b1 0∧fr' 4 = .ptr b9 0∧SlN Mail.R 9 86 v142 sv151.1.Mail c143∧SlN Peer.R 5 43 d6 sv151.2 c146∧Sep h' lo ([Blk1 b1 [d6,
    v142] 29]++([Blk1 b9 [.nil,.nil] 29]++(c146++(c143++(S0)))))) (fun Q152 hN153 hR154 hE155=>⟨fun hc156=>?_,fun hc156=>?_⟩) ?_
  ·rw [iteT hc156] at hX149
   simp only [q5h,qe,f41,ql,B0,reduceIte,a8]
   refine qd (v := .agg [d6,v132]) ((zw (a0g _ _ _ hS139)).trans rfl) ?_
   simp only [ql,B0,reduceIte,a8]
   refine qd (v := .agg [.bool x49.Reply,.int .i64 x49.From,.int .i64 x49.To,.int .i64 x49.Term,.int .i64 x49.Prev,.int .i64 x49.PTerm,v61,.int .i64 x49.Commit,
     .int .i64 x49.Match]) rfl ?_
   obtain ⟨v157,hx158,hF159⟩:=qk hX149
   simp only [zi,B0,reduceIte,a8]
   refine yx rfl (qmr hW (Raft.mk d8.Peers l129) d6 f4 e9 v132 c133 hv135 x49 v61 c62 hv63 v157 hx158 (a0j (s9 (s9 hS139)))) ?_
   rintro _ h168 ⟨c160,v162,c163,c166,rfl,hv161,hv164,hv167,hS169⟩
   simp only [f41,zh,B0,reduceIte,a8]
   refine qy (us:=[d6,v162]) rfl (cs':=[d6,
     v162]) (t5 hS169) hW rfl (qp (a0n hv161) (qp (a0n hv164) zp)) (nle rfl) rfl (fun h170 hS171=>?_)
   simp only [qa,qm,B0,reduceIte,a8]
   have e172:=qj hF159
   subst e172
   exact hN153 _ _ ⟨v162,c163,c160,f41,f43,hv164,hv161,(t5 (t5 (s9 (s9 (a0k (t5 hS171))))))⟩
  ·rw [iteF hc156] at hX149
   simp only [zd,qm,B0,reduceIte,a8]
   have e173:=qj hX149
   subst e173
   exact hN153 _ _ ⟨v132,c133,f4,f41,f43,hv135,e9,(t5 (t5 (t5 (t6 (a0k (s9 hS139))))))⟩
  rintro fr174 h175 ⟨v142,c143,c146,f177,f178,hv144,hv147,hS176⟩
  obtain ⟨s140,s145⟩:=sv151
  dsimp only at *
  unfold qfe at hk150
  simp only [qf,qe,f177,ql,B0,reduceIte,a8]
  refine qd (v := .agg [d6,v142]) ((zw (a0g _ _ _ hS176)).trans rfl) ?_
  simp only [f178,zh,B0,reduceIte,a8]
  refine qy (us:=[d6,v142]) rfl (cs':=[d6,
    v142]) (t6 hS176) hW rfl (qp (a0n hv147) (qp (a0n hv144) zp)) (nle rfl) rfl (fun h179 hS180=>?_)
  simp only [qg,qa,zc,B0,reduceIte,a8]
  have he:=qj hk150
  subst he
  refine jl (qt (jr (bb:=b9) (oo:=0) (v := .agg [d6,
    v142]) (f178) ((zw (a0g _ _ _ hS180)).trans rfl)) (qt (kz (v := .bool true) (rfl)) zm)) ?_
  exact ⟨c146,v142,c143,by first | trivial | rfl,hv147,(SlN.toA hv144 Mail.RO.len),(t6 (t6 (a0k ((a0k (hS180))))))⟩
 rw [iteF hc15] at hF
 simp only [zd,qsb,qf,qe,ql,B0,reduceIte,a8]
 refine qd (v := .agg [d6,d7]) ((zw (a0g _ _ _ (t6 hS14))).trans rfl) ?_
 simp only [qo,qb,o7,o8,o9,qn,ql,B0,reduceIte,a8]
 refine qd (v := .int .i64 a9.K) rfl ?_
 simp only [zi,B0,reduceIte,a8]
 refine jx rfl (qt (wk (qt (SlN.snap e9 _ (s9 hS14) rfl Peer.RO) (qt (SlN.snap e8 _ (t5 hS14) rfl Mail.RO) zm))) (qt zb zm))
   (qid (fun b hb=>decide_eq_true hb) d8 a9.K _ rfl) ?_
 simp only [jq,qb,kq,qg,B0,reduceIte,a8]
 refine jf 9 (fun fr' h'=>Sep h' lo ([Blk1 b1 [d6,d7] 29]++([Blk1 b9 [.nil,
   .nil] 29]++(f4++(d9++(S0)))))∧fr' 90 = .bool ((!(kf d8 a9.K))||((decide (a9.Kind≠3))&&(decide
   (a9.To≠0))))∧fr' 2 = .ptr b1 0∧fr' 3 = .ref [.int .i64 a9.Kind,.int .i64 a9.K,.int .i64 a9.To,.int .i64 a9.N] 0∧fr' 4 = .ptr b9 0) (fun Q182 hN183=>?_) ?_
 ·simp only [s5,t4]
  simp only [qc (g:=81),B0,reduceIte,a8]
  refine zf (t:=(!(kf d8 a9.K))) (fun hg184=>?_) (fun hg184=>?_)
  ·simp only [hg184,qc (g:=81),zx,qc (g:=85),qcs,qw,qb,zo,qa,qm,B0,reduceIte,a8]
   exact hN183 _ _ ⟨(t5 (s9 (t5 (t5 hS14)))),by rw [orT hg184]; simp only [B0,reduceIte,a8],rfl,rfl,rfl⟩
  ·simp only [hg184,qc (g:=81),qr,qo,qb,o7,o8,o9,qn,ql,B0,reduceIte,a8]
   refine qd (v := .int .i64 a9.Kind) rfl ?_
   simp only [hg184,qc (g:=81),qr,qx,qb,wz,qg,B0,reduceIte,a8]
   refine jf 4 (fun fr' h'=>Sep h' lo ([Blk1 b1 [d6,d7] 29]++([Blk1 b9 [.nil,
     .nil] 29]++(f4++(d9++(S0)))))∧fr' 89 = .bool ((decide (a9.Kind≠3))&&(decide (a9.To≠0)))∧fr' 2 = .ptr b1 0∧fr' 3 = .ref [.int .i64 a9.Kind,
     .int .i64 a9.K,.int .i64 a9.To,.int .i64 a9.N] 0∧fr' 4 = .ptr b9 0∧fr' 81 = .bool (!(kf d8 a9.K))) (fun Q185 hN186=>?_) ?_
   ·simp only [s5,t4]
    simp only [qc (g:=85),B0,reduceIte,a8]
    refine zf (t:=(decide (a9.Kind≠3))) (fun hg187=>?_) (fun hg187=>?_)
    ·simp only [hg187,qc (g:=85),zu,qo,qb,o7,o8,o9,qn,ql,B0,reduceIte,a8]
     refine qd (v := .int .i64 a9.To) rfl ?_
     simp only [hg187,qc (g:=85),zu,qx,qb,wz,hg184,qc (g:=81),qr,qw,zo,qa,qm,B0,
       reduceIte,a8]
     exact hN186 _ _ ⟨(t5 (s9 (t5 (t5 hS14)))),by rw [qat hg187]; simp only [B0,reduceIte,a8],rfl,rfl,rfl,by simp only [hg184,B0,
       reduceIte,a8]⟩
    ·simp only [hg187,qc (g:=85),kj,hg184,qc (g:=81),qr,qw,qb,zn,qa,qm,B0,reduceIte,
      a8]
     exact hN186 _ _ ⟨(t5 (s9 (t5 (t5 hS14)))),by rw [qao hg187]; simp only [B0,reduceIte,a8],rfl,rfl,rfl,by simp only [hg184,B0,
       reduceIte,a8]⟩
   rintro fr188 h194 ⟨hS195,f189,f190,f191,f192,f193⟩
   simp only [s6,t3]
   simp only [f193,hg184,qw,qb,zn,f189,qa,qm,B0,reduceIte,a8]
   exact hN183 _ _ ⟨(t5 (t5 (t5 (t5 hS195)))),by rw [orF hg184]; simp only [B0,reduceIte,a8],f190,f191,f192⟩
 rintro fr196 h201 ⟨hS202,f197,f198,f199,f200⟩
 simp only [s6,t3]
 simp only [qa,qu6,f197,q8,B0,reduceIte,a8]
 refine q9 (t:=((!(kf d8 a9.K))||((decide (a9.Kind≠3))&&(decide (a9.To≠0))))) (fun hc203=>?_) (fun hc203=>?_)
 ·rw [iteT hc203] at hF
  simp only [qf,qe,f198,ql,B0,reduceIte,a8]
  refine qd (v := .agg [d6,d7]) ((zw (a0g _ _ _ hS202)).trans rfl) ?_
  simp only [f200,zh,B0,reduceIte,a8]
  refine qy (us:=[d6,d7]) rfl (cs':=[d6,
    d7]) (t6 hS202) hW rfl (qp (a0n e9) (qp (a0n e8) zp)) (nle rfl) rfl (fun h204 hS205=>?_)
  simp only [qg,qa,zc,B0,reduceIte,a8]
  have he:=qj hF
  subst he
  refine jl (qt (jr (bb:=b9) (oo:=0) (v := .agg [d6,
    d7]) (f200) ((zw (a0g _ _ _ hS205)).trans rfl)) (qt (kz (v := .bool false) (rfl)) zm)) ?_
  exact ⟨f4,d7,d9,by first | trivial | rfl,e9,(SlN.toA e8 Mail.RO.len),(t6 (t6 (a0k ((a0k (hS205))))))⟩
 rw [iteF hc203] at hF
 simp only [zd,qyy,qf,qe,f198,qo,qb,o7,o8,o9,qv,ql,B0,reduceIte,a8]
 refine qd (v:=d6) ((ja (a0g _ _ _ hS202)).trans rfl) ?_
 simp only [f199,qo,qb,o7,o8,o9,qn,ql,B0,reduceIte,a8]
 refine qd (v := .int .i64 a9.K) rfl ?_
 obtain ⟨x206,hx207,hF208⟩:=qk hF
 simp only [jj,B0,reduceIte,a8]
 obtain ⟨b209,hb210⟩:=SlN.isrow e9 (j7 hx207)
 refine qd (SlN.ia e9 hb210 hx207) ?_
 obtain ⟨c211,cs212,os213,hv214,hR215,hS216⟩:=SlG.opn (SlN.toG e9 hb210 Peer.RO.len) hx207 zt Peer.RO.len (s9 hS202)
 obtain ⟨v218,c219,v222,c223,hv220,hv224,rfl,rfl⟩:=hR215
 have hS217:=Sep.no2 hS216
 simp only [ql,B0,reduceIte,a8]
 refine qd (v := .agg [.int .i64 x206.Term,.bool x206.Leads,v218,.int .i64 x206.Commit,v222]) ((SlG.lds (o:=0) hv214 rfl hx207 hS217 (nle rfl)).trans rfl) ?_
 simp only [ji,B0,reduceIte,a8]
 refine z6 hS217 (fun b226 h227 hS228=>?_)
 simp only [zh,B0,reduceIte,a8]
 refine qy (us:=[.int .i64 x206.Term,.bool x206.Leads,v218,.int .i64 x206.Commit,v222]) rfl (cs':=[.int .i64 x206.Term,.bool x206.Leads,v218,
   .int .i64 x206.Commit,v222]) hS228 hW rfl (qp rfl (qp rfl (qp (a01 hv220) (qp rfl (qp (a01 hv224) zp))))) (nle rfl) rfl (fun h230 hS231=>?_)
 simp only [qa,B0,reduceIte,a8]
 refine jc hS231 hW (by simp only [B0,reduceIte,a8]) (fun h232 hS233=>?_)
 simp only [z5,qyf,qf,wx,qtq,qe,f199,qo,qb,o7,o8,o9,qn,ql,B0,reduceIte,
   a8]
 refine qd (v := .int .i64 a9.Kind) rfl ?_
 simp only [qx,qb,ku,qg,B0,reduceIte,a8]
 refine jf 4 (fun fr' h'=>Sep h' lo ([Blk1 b1 [d6,d7] 29]++([Blk1 b9 [.nil,
   .nil] 29]++(c219++(c223++(c211++(d9++(S0)))))))∧fr' 106 = .bool ((decide (a9.Kind=1)) &&
   (yq a9.N 1 31))∧fr' 2 = .ptr b1 0∧fr' 3 = .ref [.int .i64 a9.Kind,.int .i64 a9.K,.int .i64 a9.To,
   .int .i64 a9.N] 0∧fr' 4 = .ptr b9 0∧fr' 7 = .ref [.int .i64 x206.Term,.bool x206.Leads,v218,.int .i64 x206.Commit,v222] 0) (fun Q234 hN235=>?_) ?_
 ·simp only [s5,t4]
  simp only [qc (g:=102),B0,reduceIte,a8]
  refine zf (t:=(decide (a9.Kind=1))) (fun hg236=>?_) (fun hg236=>?_)
  ·simp only [hg236,qc (g:=102),zu,f199,qo,qb,o7,o8,o9,qn,ql,B0,reduceIte,a8]
   refine qd (v := .int .i64 a9.N) rfl ?_
   simp only [hg236,qc (g:=102),zu,zi,B0,reduceIte,a8]
   refine jx rfl (qt zb (qt zb (qt zb zm))) (qgg (fun b hb=>decide_eq_true hb) a9.N 1 31 _ rfl) ?_
   simp only [hg236,qw,qb,zo,qa,qm,B0,reduceIte,a8]
   exact hN235 _ _ ⟨(t8 (t8 (t5 (t5 (t6 (t8 hS233)))))),by rw [qat hg236]; simp only [B0,reduceIte,a8],f198,f199,f200,rfl⟩
  ·simp only [hg236,qc (g:=102),kj,qw,qb,zn,qa,qm,B0,reduceIte,a8]
   exact hN235 _ _ ⟨(t8 (t8 (t5 (t5 (t6 (t8 hS233)))))),by rw [qao hg236]; simp only [B0,reduceIte,a8],f198,f199,f200,rfl⟩
 rintro fr237 h243 ⟨hS244,f238,f239,f240,f241,f242⟩
 simp only [s6,t3]
 simp only [f238,qg,qa,qtv,q8,B0,reduceIte,a8]
 refine q9 (t:=((decide (a9.Kind=1))&&(yq a9.N 1 31))) (fun hc245=>?_) (fun hc245=>?_)
 ·rw [iteT hc245] at hF208
  simp only [qz4,qf,qe,f239,ql,B0,reduceIte,a8]
  refine qd (v := .agg [d6,d7]) ((zw (a0g _ _ _ hS244)).trans rfl) ?_
  simp only [f240,qo,qb,o7,o8,o9,qn,ql,B0,reduceIte,a8]
  refine qd (v := .int .i64 a9.K) rfl ?_
  simp only [f240,qo,qb,o7,o8,o9,qn,ql,B0,reduceIte,a8]
  refine qd (v := .int .i64 a9.N) rfl ?_
  obtain ⟨c246,hv247,hS248⟩:=a1h (c:=c211) (os:=c219++(c223)) hv214 rfl hx207 zt (Peer.RI (x:=x206) hv220 hv224) (a1f (c1:=c219) (c2:=c223) (a0j
    (t5 (t5 hS244))))
  have hv249:=a1e hv247
  obtain ⟨v250,hx251,hF252⟩:=qk hF208
  simp only [zi,B0,reduceIte,a8]
  refine yx rfl (qlw hW k d8 d6 c246 hv249 d7 d9 e8 a9.K a9.N v250 hx251 (t6 (t5 hS248))) ?_
  rintro _ h257 ⟨c253,c255,rfl,hv254,hv256,hS258⟩
  simp only [qaz,qb,qa9,qbd,f241,zh,B0,reduceIte,a8]
  refine qy (us:=[d6,d7]) rfl (cs':=[d6,
    d7]) (t5 hS258) hW rfl (qp (a0n hv254) (qp (a0n hv256) zp)) (nle rfl) rfl (fun h259 hS260=>?_)
  simp only [qg,qa,zc,B0,reduceIte,a8]
  have he:=qj hF252
  subst he
  refine jl (qt (jr (bb:=b9) (oo:=0) (v := .agg [d6,
    d7]) (f241) ((zw (a0g _ _ _ hS260)).trans rfl)) (qt (kz (v := .bool v250.2) (rfl)) zm)) ?_
  exact ⟨c253,d7,c255,by first | trivial | rfl,hv254,(SlN.toA hv256 Mail.RO.len),(t6 (t6 (a0k (s9 (a0k (hS260))))))⟩
 rw [iteF hc245] at hF208
 simp only [qxq,qf,qe,f242,qo,qb,o7,o8,o9,qn,ql,B0,reduceIte,a8]
 refine qd (v := .bool x206.Leads) rfl ?_
 simp only [jq,qb,kq,qg,qa,qzt,q8,B0,reduceIte,a8]
 refine q9 (t:=(!x206.Leads)) (fun hc261=>?_) (fun hc261=>?_)
 ·rw [iteT hc261] at hF208
  simp only [qf,qe,f239,ql,B0,reduceIte,a8]
  refine qd (v := .agg [d6,d7]) ((zw (a0g _ _ _ hS244)).trans rfl) ?_
  simp only [f241,zh,B0,reduceIte,a8]
  refine qy (us:=[d6,d7]) rfl (cs':=[d6,
    d7]) (t6 hS244) hW rfl (qp (a3i hv214) (qp (a0n e8) zp)) (nle rfl) rfl (fun h262 hS263=>?_)
  simp only [qg,qa,zc,B0,reduceIte,a8]
  obtain ⟨c264,hv265,hS266⟩:=a1h (c:=c211) (os:=c219++(c223)) hv214 rfl hx207 zt (Peer.RI (x:=x206) hv220 hv224) (a1f (c1:=c219) (c2:=c223) (a0j
    (t5 (t5 hS263))))
  have hv267:=a1e hv265
  have he:=qj hF208
  subst he
  refine jl (qt (jr (bb:=b9) (oo:=0) (v := .agg [d6,
    d7]) (f241) ((zw (a0g _ _ _ (t6 hS266))).trans rfl)) (qt (kz (v := .bool false) (rfl)) zm)) ?_
  exact ⟨c264,d7,d9,by first | trivial | rfl,hv267,(SlN.toA e8 Mail.RO.len),(t6 (t6 (a0k (t6 (a0k (t6 hS266))))))⟩
 rw [iteF hc261] at hF208
 simp only [qwa,qf,qe,f240,qo,qb,o7,o8,o9,qn,ql,B0,reduceIte,a8]
 refine qd (v := .int .i64 a9.Kind) rfl ?_
 simp only [qx,qb,ku,qg,B0,reduceIte,a8]
 refine jf 4 (fun fr' h'=>Sep h' lo ([Blk1 b1 [d6,d7] 29]++([Blk1 b9 [.nil,
   .nil] 29]++(c219++(c223++(c211++(d9++(S0)))))))∧fr' 128 = .bool ((decide (a9.Kind=2)) &&
   (yq a9.N 0 99))∧fr' 2 = .ptr b1 0∧fr' 3 = .ref [.int .i64 a9.Kind,.int .i64 a9.K,.int .i64 a9.To,
   .int .i64 a9.N] 0∧fr' 4 = .ptr b9 0∧fr' 7 = .ref [.int .i64 x206.Term,.bool x206.Leads,v218,.int .i64 x206.Commit,v222] 0) (fun Q268 hN269=>?_) ?_
 ·simp only [s5,t4]
  simp only [qc (g:=124),B0,reduceIte,a8]
  refine zf (t:=(decide (a9.Kind=2))) (fun hg270=>?_) (fun hg270=>?_)
  ·simp only [hg270,qc (g:=124),zu,f240,qo,qb,o7,o8,o9,qn,ql,B0,reduceIte,a8]
   refine qd (v := .int .i64 a9.N) rfl ?_
   simp only [hg270,qc (g:=124),zu,zi,B0,reduceIte,a8]
   refine jx rfl (qt zb (qt zb (qt zb zm))) (qgg (fun b hb=>decide_eq_true hb) a9.N 0 99 _ rfl) ?_
   simp only [hg270,qw,qb,zo,qa,qm,B0,reduceIte,a8]
   exact hN269 _ _ ⟨(t8 (t8 (t8 (t8 (t8 (t8 hS244)))))),by rw [qat hg270]; simp only [B0,reduceIte,a8],f239,f240,f241,f242⟩
  ·simp only [hg270,qc (g:=124),kj,qw,qb,zn,qa,qm,B0,reduceIte,a8]
   exact hN269 _ _ ⟨(t8 (t8 (t8 (t8 (t8 (t8 hS244)))))),by rw [qao hg270]; simp only [B0,reduceIte,a8],f239,f240,f241,f242⟩
 rintro fr271 h277 ⟨hS278,f272,f273,f274,f275,f276⟩
 simp only [s6,t3]
 simp only [f272,qg,B0,reduceIte,a8]
 refine jf 5 (fun fr' h'=>Sep h' lo ([Blk1 b1 [d6,d7] 29]++([Blk1 b9 [.nil,
   .nil] 29]++(c219++(c223++(c211++(d9++(S0)))))))∧fr' 134 = .bool (((decide (a9.Kind=2))&&(yq a9.N 0 99))&&(decide
   ((p9 x206.Log:Int)<30)))∧fr' 2 = .ptr b1 0∧fr' 3 = .ref [.int .i64 a9.Kind,.int .i64 a9.K,.int .i64 a9.To,
   .int .i64 a9.N] 0∧fr' 4 = .ptr b9 0∧fr' 7 = .ref [.int .i64 x206.Term,.bool x206.Leads,v218,.int .i64 x206.Commit,v222] 0) (fun Q279 hN280=>?_) ?_
 ·simp only [s5,t4]
  simp only [qc (g:=129),B0,reduceIte,a8]
  refine zf (t:=((decide (a9.Kind=2))&&(yq a9.N 0 99))) (fun hg281=>?_) (fun hg281=>?_)
  ·simp only [hg281,qc (g:=129),zu,f276,qo,qb,o7,o8,o9,qn,ql,B0,reduceIte,a8]
   refine qd (v:=v218) rfl ?_
   simp only [hg281,qc (g:=129),zu,zq,qb,a1p hv220,qx,qch,qw,zo,qa,qm,B0,reduceIte,a8]
   exact hN280 _ _ ⟨(t8 (t8 (t8 (t8 (t8 (t8 hS278)))))),by rw [qat hg281]; simp only [B0,reduceIte,a8],f273,f274,f275,f276⟩
  ·simp only [hg281,qc (g:=129),kj,qw,qb,zn,qa,qm,B0,reduceIte,a8]
   exact hN280 _ _ ⟨(t8 (t8 (t8 (t8 (t8 (t8 hS278)))))),by rw [qao hg281]; simp only [B0,reduceIte,a8],f273,f274,f275,f276⟩
 rintro fr282 h288 ⟨hS289,f283,f284,f285,f286,f287⟩
 simp only [s6,t3]
 simp only [f283,qg,qa,qx8,q8,B0,reduceIte,a8]
 refine q9 (t:=(((decide (a9.Kind=2))&&(yq a9.N 0 99))&&(decide ((p9 x206.Log:Int)<30)))) (fun hc290=>?_) (fun hc290=>?_)
 ·rw [iteT hc290] at hF208
  simp only [qvx,qf,jg,f284,qki,qi,o7,o8,o9,qv,qh6,B0,reduceIte,a8]
  refine qmp (Sep.ltk hS289) ?_
  refine qq (v:=d6) ((ja (a0g _ _ _ hS289)).trans rfl) ?_
  simp only [f285,qki,qi,o7,o8,o9,qn,qh6,qkj,B0,reduceIte,a8]
  refine qq (v := .int .i64 a9.K) rfl ?_
  simp only [f284,zl,qi,o7,o8,o9,qv,zj,B0,reduceIte,a8]
  refine qq (v:=d6) ((ja (a0g _ _ _ hS289)).trans rfl) ?_
  simp only [f285,zl,qi,o7,o8,o9,qn,zj,B0,reduceIte,a8]
  refine qq (v := .int .i64 a9.K) rfl ?_
  simp only [yh,B0,reduceIte,a8]
  refine qq (SlG.ia hv214 hx207) ?_
  simp only [zl,qi,o7,o8,o9,qv,zj,B0,reduceIte,a8]
  refine qq (v:=v218) ((SlG.ld (o:=2) hv214 rfl hx207 (a0j hS289) (nle rfl)).trans rfl) ?_
  simp only [f287,zl,qi,o7,o8,o9,qn,zj,B0,reduceIte,a8]
  refine qq (v := .int .i64 x206.Term) rfl ?_
  simp only [f285,zl,qi,o7,o8,o9,qn,zj,B0,reduceIte,a8]
  refine qq (v := .int .i64 a9.N) rfl ?_
  simp only [qfw,evp,B0,reduceIte,a8]
  refine qq (v := .agg [.int .i64 x206.Term,.int .i64 a9.N]) rfl ?_
  simp only [qa6,evp,B0,reduceIte,a8]
  refine qnc (n:=2) (f:=qh) [(Entry.mk x206.Term a9.N)] hS289 rfl rfl (fun v292 c293 h294 hv295 hS296 hq291=>?_)
  simp only [qq1,B0,reduceIte,a8]
  obtain ⟨l298,hx299,hF300⟩:=qk hF208
  have hq301:=nwq (fun z hz=>Sep.dj (t5 (t6 hS296)) qlm (SlF.rowfp hv220 z hz))
  have hq302:=nwq (fun z hz=>Sep.dj (t5 (s9 hS296)) qlm (SlF.rowfp hv220 z hz))
  refine q4l (zby (fun z hz=>Sep.dj (t5 (t6 hS296)) qlm (SlF.rowfp hv220 z hz)) qtx) ?_
  refine qjm (f:=qh) hv220 (t5 hS296) hW (fun _=>rfl) (fun _=>rfl) (SlF.first hv295 hS296 (fun _=>rfl)) hx299 (fun v303 c304 h305 hv306 hS307=>?_)
  simp only [yh,B0,reduceIte,a8]
  refine qq (SlG.ia hv214 hx207) ?_
  simp only [zl,qi,o7,o8,o9,qv,xx,B0,reduceIte,a8]
  refine qd3 (n:=5) (us:=[v303]) (cs:=[.int .i64 x206.Term,.bool x206.Leads,v218,.int .i64 x206.Commit,v222]) (o:=2) (cs':=[.int .i64 x206.Term,
    .bool x206.Leads,v303,.int .i64 x206.Commit,
    v222]) (jp (a01 hv306)) hv214 rfl hx207 (t8 hS307) hW rfl (qp (a01 hv306) zp) (nle rfl) rfl (fun c311 h309 hv312 hS310=>?_)
  simp only [za,qt3,qf,jg,f284,zl,qi,o7,o8,o9,qv,zj,B0,reduceIte,a8]
  refine qq (v:=d6) ((ja (a0g _ _ _ (t5 hS310))).trans rfl) ?_
  simp only [f285,zl,qi,o7,o8,o9,qn,zj,B0,reduceIte,a8]
  refine qq (v := .int .i64 a9.K) rfl ?_
  simp only [yh,B0,reduceIte,a8]
  refine qq (SlG.ia hv312 hx207) ?_
  simp only [zl,qi,o7,o8,o9,qv,zj,B0,reduceIte,a8]
  refine qq (v:=v222) ((SlG.ld (o:=4) hv312 rfl hx207 hS310 (nle rfl)).trans rfl) ?_
  simp only [f285,zl,qi,o7,o8,o9,qn,zj,B0,reduceIte,a8]
  refine qq (v := .int .i64 a9.K) rfl ?_
  simp only [f284,zl,qi,o7,o8,o9,qv,zj,B0,reduceIte,a8]
  refine qq (v:=d6) ((ja (a0g _ _ _ (t5 hS310))).trans rfl) ?_
  simp only [f285,zl,qi,o7,o8,o9,qn,zj,B0,reduceIte,a8]
  refine qq (v := .int .i64 a9.K) rfl ?_
  simp only [yh,B0,reduceIte,a8]
  refine qq (SlG.ia hv312 hx207) ?_
  simp only [zl,qi,o7,o8,o9,qv,zj,B0,reduceIte,a8]
  refine qq (v:=v303) ((SlG.ld (o:=2) hv312 rfl hx207 hS310 (nle rfl)).trans rfl) ?_
  obtain ⟨x313,hx314,hF315⟩:=qk hF300
  simp only [wm,qi,a1p hv306,yh,B0,reduceIte,a8]
  obtain ⟨b316,hb317⟩:=SlF.isrow hv224 (j7 hx314)
  refine qq (SlF.ia hv224 hb317 hx314) ?_
  simp only [xx,B0,reduceIte,a8]
  refine qe6 (f:=cI) (x':=(p9 l298:Int)) (o:=0) hv224 (t8 hS310) hW hb317 hx314 (fun _=>rfl) rfl rfl (nle rfl) rfl (fun c320 h318 hv321 hS319=>?_)
  have hx322:=kt (x':=(p9 l298:Int)) hx314
  simp only [za,qf,qe,f284,ql,B0,reduceIte,a8]
  refine qd (v := .agg [d6,d7]) ((zw (a0g _ _ _ (a0j hS319))).trans rfl) ?_
  simp only [f286,zh,B0,reduceIte,a8]
  refine qy (us:=[d6,d7]) rfl (cs':=[d6,
    d7]) (t8 hS319) hW rfl (qp (a3i hv312) (qp (a0n e8) zp)) (nle rfl) rfl (fun h323 hS324=>?_)
  simp only [qg,qa,zc,B0,reduceIte,a8]
  obtain ⟨c325,hv326,hS327⟩:=SlG.cls (e':=(Peer.mk x206.Term x206.Leads l298 x206.Commit (a1b x206.Match a9.K.toNat (p9 l298:Int)))) (c:=c311)
    (os:=c304++(c320)) hv312 rfl hx207 zt (Peer.RI (x:=(Peer.mk x206.Term x206.Leads l298 x206.Commit (a1b x206.Match a9.K.toNat
    (p9 l298:Int)))) hv306 hv321) (a1f (c1:=c304) (c2:=c320) (t5 (t5 (t6 hS324))))
  have hx328:=kt (x':=(Peer.mk x206.Term x206.Leads l298 x206.Commit (a1b x206.Match a9.K.toNat (p9 l298:Int)))) hx207
  have hv329:=a1e hv326
  have he:=qj hF315
  subst he
  refine jl (qt (jr (bb:=b9) (oo:=0) (v := .agg [d6,
    d7]) (f286) ((zw (a0g _ _ _ (t6 hS327))).trans rfl)) (qt (kz (v := .bool true) (rfl)) zm)) ?_
  exact ⟨c325,d7,d9,by first | trivial | rfl,hv329,(SlN.toA e8 Mail.RO.len),(t6 (t6 (a0k (t6 (a0k (t6 (a0k (t6 hS327))))))))⟩
 rw [iteF hc290] at hF208
 simp only [qsw,qf,qe,f285,qo,qb,o7,o8,o9,qn,ql,B0,reduceIte,a8]
 refine qd (v := .int .i64 a9.Kind) rfl ?_
 simp only [qx,qb,ku,qg,qa,qvq,q8,B0,reduceIte,a8]
 refine q9 (t:=(decide (a9.Kind=3))) (fun hc330=>?_) (fun hc330=>?_)
 ·rw [iteT hc330] at hF208
  simp only [qyt,qf,qe,f284,ql,B0,reduceIte,a8]
  refine qd (v := .agg [d6,d7]) ((zw (a0g _ _ _ hS289)).trans rfl) ?_
  simp only [f285,ql,B0,reduceIte,a8]
  refine qd (v := .agg [.int .i64 a9.Kind,.int .i64 a9.K,.int .i64 a9.To,.int .i64 a9.N]) rfl ?_
  obtain ⟨c331,hv332,hS333⟩:=a1h (c:=c211) (os:=c219++(c223)) hv214 rfl hx207 zt (Peer.RI (x:=x206) hv220 hv224) (a1f (c1:=c219) (c2:=c223) (a0j
    (t5 (t5 hS289))))
  have hv334:=a1e hv332
  obtain ⟨v335,hx336,hF337⟩:=qk hF208
  simp only [zi,B0,reduceIte,a8]
  refine yx rfl (qm6 hW d8 d6 c331 hv334 d7 d9 e8 a9 v335 hx336 (t6 (t5 hS333))) ?_
  rintro _ h344 ⟨c338,v340,c341,rfl,hv339,hv342,hS345⟩
  simp only [qaz,qb,qa9,qbd,f286,zh,B0,reduceIte,a8]
  refine qy (us:=[d6,v340]) rfl (cs':=[d6,
    v340]) (t5 hS345) hW rfl (qp (a0n hv339) (qp (a0n hv342) zp)) (nle rfl) rfl (fun h346 hS347=>?_)
  simp only [qg,qa,zc,B0,reduceIte,a8]
  have he:=qj hF337
  subst he
  refine jl (qt (jr (bb:=b9) (oo:=0) (v := .agg [d6,
    v340]) (f286) ((zw (a0g _ _ _ hS347)).trans rfl)) (qt (kz (v := .bool v335.2) (rfl)) zm)) ?_
  exact ⟨c338,v340,c341,by first | trivial | rfl,hv339,(SlN.toA hv342 Mail.RO.len),(t6 (t6 (a0k (s9 (a0k (hS347))))))⟩
 rw [iteF hc330] at hF208
 simp only [qzk,qf,qe,f285,qo,qb,o7,o8,o9,qn,ql,B0,reduceIte,a8]
 refine qd (v := .int .i64 a9.Kind) rfl ?_
 simp only [qx,qb,ku,qg,qa,q0f,q8,B0,reduceIte,a8]
 refine q9 (t:=(decide (a9.Kind=7))) (fun hc348=>?_) (fun hc348=>?_)
 ·rw [iteT hc348] at hF208
  simp only [qu2,qf,qe,f284,ql,B0,reduceIte,a8]
  refine qd (v := .agg [d6,d7]) ((zw (a0g _ _ _ hS289)).trans rfl) ?_
  simp only [f285,qo,qb,o7,o8,o9,qn,ql,B0,reduceIte,a8]
  refine qd (v := .int .i64 a9.K) rfl ?_
  simp only [f285,qo,qb,o7,o8,o9,qn,ql,B0,reduceIte,a8]
  refine qd (v := .int .i64 a9.N) rfl ?_
  obtain ⟨c349,hv350,hS351⟩:=a1h (c:=c211) (os:=c219++(c223)) hv214 rfl hx207 zt (Peer.RI (x:=x206) hv220 hv224) (a1f (c1:=c219) (c2:=c223) (a0j
    (t5 (t5 hS289))))
  have hv352:=a1e hv350
  obtain ⟨v353,hx354,hF355⟩:=qk hF208
  simp only [zi,B0,reduceIte,a8]
  refine yx rfl (qk5 hW d8 d6 c349 hv352 d7 d9 e8 a9.K a9.N v353 hx354 (t6 (t5 hS351))) ?_
  rintro _ h360 ⟨c356,c358,rfl,hv357,hv359,hS361⟩
  simp only [qaz,qb,qa9,qbd,f286,zh,B0,reduceIte,a8]
  refine qy (us:=[d6,d7]) rfl (cs':=[d6,
    d7]) (t5 hS361) hW rfl (qp (a0n hv357) (qp (a0n hv359) zp)) (nle rfl) rfl (fun h362 hS363=>?_)
  simp only [qg,qa,zc,B0,reduceIte,a8]
  have he:=qj hF355
  subst he
  refine jl (qt (jr (bb:=b9) (oo:=0) (v := .agg [d6,
    d7]) (f286) ((zw (a0g _ _ _ hS363)).trans rfl)) (qt (kz (v := .bool v353.2) (rfl)) zm)) ?_
  exact ⟨c356,d7,c358,by first | trivial | rfl,hv357,(SlN.toA hv359 Mail.RO.len),(t6 (t6 (a0k (s9 (a0k (hS363))))))⟩
 rw [iteF hc348] at hF208
 simp only [zd,w6,qf,qe,f284,ql,B0,reduceIte,a8]
 refine qd (v := .agg [d6,d7]) ((zw (a0g _ _ _ hS289)).trans rfl) ?_
 simp only [f286,zh,B0,reduceIte,a8]
 refine qy (us:=[d6,d7]) rfl (cs':=[d6,
   d7]) (t6 hS289) hW rfl (qp (a3i hv214) (qp (a0n e8) zp)) (nle rfl) rfl (fun h364 hS365=>?_)
 simp only [qg,qa,zc,B0,reduceIte,a8]
 obtain ⟨c366,hv367,hS368⟩:=a1h (c:=c211) (os:=c219++(c223)) hv214 rfl hx207 zt (Peer.RI (x:=x206) hv220 hv224) (a1f (c1:=c219) (c2:=c223) (a0j
   (t5 (t5 hS365))))
 have hv369:=a1e hv367
 have he:=qj hF208
 subst he
 refine jl (qt (jr (bb:=b9) (oo:=0) (v := .agg [d6,
   d7]) (f286) ((zw (a0g _ _ _ (t6 hS368))).trans rfl)) (qt (kz (v := .bool false) (rfl)) zm)) ?_
 exact ⟨c366,d7,d9,by first | trivial | rfl,hv369,(SlN.toA e8 Mail.RO.len),(t6 (t6 (a0k (t6 (a0k (t6 hS368))))))⟩
end Go.Proofs.Ytanblnjomhgphaa.X
namespace Go.Proofs.Ytanblnjomhgphaa.X
open Go
theorem qg2 {W:Nat→Bool}{h:Heap} (hW:∀ b,
  (geL h.length) b→W b=true) (r_0:Raft) (r:Raft) (hF:qbi r_0=some r) : Ret E W 48 [.agg [lst qs r_0.Peers,
  lst qu r_0.Mail]] h (fun v h'=>∃ l9 g9 i5 i0,v = .agg [l9,
  i5]∧SlN Peer.R 5 43 l9 r.Peers g9∧SlN Mail.R 9 86 i5 r.Mail i0∧Sep h' (geL h.length) (g9++(i0++([])))):=by
 refine Ret.of (fn:=x48) rfl (Run.of ?_)
 unfold qbi at hF
 have zf0:zk [.agg [lst qs r_0.Peers,lst qu r_0.Mail]] 0 = .agg [lst qs r_0.Peers,lst qu r_0.Mail]:=rfl
 generalize zk [.agg [lst qs r_0.Peers,lst qu r_0.Mail]]=fr0 at zf0 ⊢
 have hS:Sep h (geL h.length) []:=Sep.nil h
 simp only [x48,qf,qe,ym,zf0,B0,reduceIte,a8]
 refine ko (cs:=[lst qs r_0.Peers,lst qu r_0.Mail]) hS rfl rfl rfl (fun b1 h2 hS3=>?_)
 simp only [ji,B0,reduceIte,a8]
 refine z6 hS3 (fun b5 h6 hS7=>?_)
 simp only [qa,B0,reduceIte,a8]
 refine jc (t6 hS7) hW (by simp only [B0,reduceIte,a8]) (fun h9 hS10=>?_)
 simp only [z5,qwq,qf,qe,ji,B0,reduceIte,a8]
 refine z6 hS10 (fun b11 h12 hS13=>?_)
 simp only [qa,qw2,qf,qe,qo,qb,o7,o8,o9,qn,ql,B0,reduceIte,a8]
 refine qd (v:=lst qs r_0.Peers) rfl ?_
 simp only [zq,qb,z7,qg,qa,B0,reduceIte,a8]
 obtain ⟨oc27,hX29,hk30⟩:=kd hF
 simp only [q41]
 refine yi (σ:=Raft) r_0.Peers (fun i25 x26 s107=>qcf i25 x26 s107) (fun s fr' h'=>∃ v22 c23,fr' 1 = .ref [lst qs r_0.Peers,
   lst qu r_0.Mail] 0∧fr' 2 = .ptr b5 0∧fr' 3 = .ptr b11 0∧fr' 9=lst qs r_0.Peers∧SlN Peer.R 5 43 v22 s.Peers c23∧Sep h' (geL h.length)
   ([Blk1 b5 [.nil,.nil] 29]++([Blk1 b11 [v22,.nil] 29]++(c23++([]))))) hX29 ⟨.nil,[],rfl,rfl,rfl,rfl,SlN.nil,
   ((t6 hS13) : Sep _ (geL h.length) ([Blk1 b5 [.nil,.nil] 29]++([Blk1 b11 [.nil,.nil] 29]++([]))))⟩ (by simp only [B0,reduceIte,a8]) (by simp only [B0,
   reduceIte,a8]) (fun _ _ _ h=>h) rfl rfl (fun _ _ _ _ h=>h) (fun _ _ _ _ h=>h) (fun _ _ _ _ h=>h) (by decide) ?_ ?_
 ·rintro i25 x26 s20 fr39 h40 hx46 ⟨v22,c23,f42,f43,f44,f45,hv24,hS41⟩ f47 f48 oc28 hF31 hr32 Q33 hN34 hB38 hK35 hR36 hE37
  unfold qcf at hF31
  simp only [q8i,qf,qe,f45,f47,jj,B0,reduceIte,a8]
  refine qd (v := .ref (qs x26) 0) (yj hx46 rfl) ?_
  simp only [ql,B0,reduceIte,a8]
  refine qd (v := .agg [.int .i64 x26.Term,.bool x26.Leads,lst qh x26.Log,.int .i64 x26.Commit,lst cI x26.Match]) rfl ?_
  simp only [ji,B0,reduceIte,a8]
  refine z6 hS41 (fun b49 h50 hS51=>?_)
  simp only [zh,B0,reduceIte,a8]
  refine qy (us:=[.int .i64 x26.Term,.bool x26.Leads,lst qh x26.Log,.int .i64 x26.Commit,lst cI x26.Match]) rfl (cs':=[.int .i64 x26.Term,
    .bool x26.Leads,lst qh x26.Log,.int .i64 x26.Commit,lst cI x26.Match]) hS51 hW rfl rfl (nle rfl) rfl (fun h53 hS54=>?_)
  simp only [qa,q5d,qf,qe,jy,evp,B0,reduceIte,a8]
  refine kg (n:=2) (f:=qh) ([] : List Entry) hS54 rfl rfl (fun v55 c56 h57 hv58 hS59=>?_)
  simp only [qo,qb,o7,o8,o9,qv,ql,B0,reduceIte,a8]
  refine qd (v:=lst qh x26.Log) ((ja (a0g _ _ _ (t6 hS59))).trans rfl) ?_
  simp only [yv,B0,reduceIte,a8]
  obtain ⟨l61,hx62,hF63⟩:=qk hF31
  refine wh (f:=qh) hv58 hS59 hW (fun _=>rfl) (fun _=>rfl) (qbg (fun _=>rfl)) hx62 (fun v64 c65 h66 hv67 hS68=>?_)
  simp only [qo,qb,o7,o8,o9,qv,zh,B0,reduceIte,a8]
  refine qy (us:=[v64]) (jp (a01 hv67)) (cs':=[.int .i64 x26.Term,.bool x26.Leads,v64,.int .i64 x26.Commit,
    lst cI x26.Match]) (t6 hS68) hW rfl (qp (a01 hv67) zp) (nle rfl) rfl (fun h70 hS71=>?_)
  simp only [qa,q8c,qf,qe,jy,evp,B0,reduceIte,a8]
  refine kg (n:=1) (f:=cI) ([] : List Int) hS71 rfl rfl (fun v72 c73 h74 hv75 hS76=>?_)
  simp only [qo,qb,o7,o8,o9,qv,ql,B0,reduceIte,a8]
  refine qd (v:=lst cI x26.Match) ((ja (a0g _ _ _ (t6 hS76))).trans rfl) ?_
  simp only [yv,B0,reduceIte,a8]
  obtain ⟨l78,hx79,hF80⟩:=qk hF63
  refine wh (f:=cI) hv75 hS76 hW (fun _=>rfl) (fun _=>rfl) (qbg (fun _=>rfl)) hx79 (fun v81 c82 h83 hv84 hS85=>?_)
  simp only [qo,qb,o7,o8,o9,qv,zh,B0,reduceIte,a8]
  refine qy (us:=[v81]) (jp (a01 hv84)) (cs':=[.int .i64 x26.Term,.bool x26.Leads,v64,.int .i64 x26.Commit,
    v81]) (t6 hS85) hW rfl (qp (a01 hv84) zp) (nle rfl) rfl (fun h87 hS88=>?_)
  simp only [qa,q8h,qe,f44,qo,qb,o7,o8,o9,qv,ql,B0,reduceIte,a8]
  refine qd (v:=v22) ((ja (a0g _ _ _ (a0j hS88))).trans rfl) ?_
  simp only [ql,B0,reduceIte,a8]
  refine qd (v := .agg [.int .i64 x26.Term,.bool x26.Leads,v64,.int .i64 x26.Commit,v81]) ((zw (a0g _ _ _ hS88)).trans rfl) ?_
  simp only [jy,evp,B0,reduceIte,a8]
  refine ux (R:=Peer.R) (n:=5) (cs:=[.int .i64 x26.Term,.bool x26.Leads,v64,.int .i64 x26.Commit,
    v81]) (os:=c65++(c82)) (Sep.bi2 (c1:=c65) (c2:=c82) (s9 (t6 hS88))) (qel (us:=[.int .i64 x26.Term,.bool x26.Leads,v64,.int .i64 x26.Commit,
    v81]) (vs:=[.int .i64 x26.Term,.bool x26.Leads,v64,.int .i64 x26.Commit,
    v81]) rfl rfl (nle rfl) (qp rfl (qp rfl (qp (a01 hv67) (qp rfl (qp (a01 hv84) zp))))) rfl qek) (Peer.RI (x :=
    (Peer.mk x26.Term x26.Leads l61 x26.Commit l78)) hv67 hv84) rfl (fun v89 c90 h91 hv92 hS93=>?_)
  simp only [yv,B0,reduceIte,a8]
  obtain ⟨l95,hx96,hF97⟩:=qk hF80
  refine qa8 (R:=Peer.R) (c:=c23) hv24 hv92 (a0j hS93) hW Peer.RO.len Peer.RO.one hx96 (fun v98 c99 h100 hv101 hS102=>?_)
  simp only [f44,qo,qb,o7,o8,o9,qv,zh,B0,reduceIte,a8]
  refine qy (us:=[v98]) (jp (a0n hv101)) (cs':=[v98,.nil]) (t5 hS102) hW rfl (qp (a0n hv101) zp) (nle rfl) rfl (fun h104 hS105=>?_)
  simp only [qa,qm,B0,reduceIte,a8]
  have e106:=qj hF97
  exact hN34 _ _ _ e106.symm ⟨v98,c99,f42,f43,f44,f45,hv101,(s9 (t6 (t6 (a0k (s9 hS105)))))⟩ (f47) (f48)
 rintro s108 fr113 h114 rfl ⟨v110,c111,f116,f117,f118,f119,hv112,hS115⟩
 dsimp only [jnO] at hk30
 unfold qfy at hk30
 simp only [qy6,qf,qe,f116,qo,qb,o7,o8,o9,qn,ql,B0,reduceIte,a8]
 refine qd (v:=lst qu r_0.Mail) rfl ?_
 simp only [zq,qb,z7,qg,qa,B0,reduceIte,a8]
 obtain ⟨oc132,hX134,hk135⟩:=kd hk30
 simp only [qvw]
 refine yi (σ:=Raft) r_0.Mail (fun i130 x131 s194=>qcj s108 i130 x131 s194) (fun s fr' h'=>∃ v127 c128,
   fr' 2 = .ptr b5 0∧fr' 3 = .ptr b11 0∧fr' 33=lst qu r_0.Mail∧SlN Mail.R 9 86 v127 s.Mail c128∧Sep h' (geL h.length) ([Blk1 b5 [.nil,
   .nil] 29]++([Blk1 b11 [v110,v127] 29]++(c111++(c128++([])))))) hX134 ⟨.nil,[],f117,f118,rfl,SlN.nil,
   ((s9 (s9 (s9 hS115))) : Sep _ (geL h.length) ([Blk1 b5 [.nil,.nil] 29]++([Blk1 b11 [v110,.nil] 29]++(c111++([])))))⟩ (by simp only [B0,reduceIte,
   a8]) (by simp only [B0,reduceIte,a8]) (fun _ _ _ h=>h) rfl rfl (fun _ _ _ _ h=>h) (fun _ _ _ _ h=>h) (fun _ _ _ _ h=>h) (by decide) ?_ ?_
 ·rintro i130 x131 s125 fr144 h145 hx150 ⟨v127,c128,f147,f148,f149,hv129,hS146⟩ f151 f152 oc133 hF136 hr137 Q138 hN139 hB143 hK140 hR141 hE142
  unfold qcj at hF136
  simp only [q3f,qf,qe,f149,f151,jj,B0,reduceIte,a8]
  refine qd (v := .ref (qu x131) 0) (yj hx150 rfl) ?_
  simp only [ql,B0,reduceIte,a8]
  refine qd (v := .agg [.bool x131.Reply,.int .i64 x131.From,.int .i64 x131.To,.int .i64 x131.Term,.int .i64 x131.Prev,.int .i64 x131.PTerm,
    lst qh x131.Entry,.int .i64 x131.Commit,.int .i64 x131.Match]) rfl ?_
  simp only [ji,B0,reduceIte,a8]
  refine z6 hS146 (fun b153 h154 hS155=>?_)
  simp only [zh,B0,reduceIte,a8]
  refine qy (us:=[.bool x131.Reply,.int .i64 x131.From,.int .i64 x131.To,.int .i64 x131.Term,.int .i64 x131.Prev,.int .i64 x131.PTerm,lst qh x131.Entry,
    .int .i64 x131.Commit,.int .i64 x131.Match]) rfl (cs':=[.bool x131.Reply,.int .i64 x131.From,.int .i64 x131.To,.int .i64 x131.Term,.int .i64 x131.Prev,
    .int .i64 x131.PTerm,lst qh x131.Entry,.int .i64 x131.Commit,.int .i64 x131.Match]) hS155 hW rfl rfl (nle rfl) rfl (fun h157 hS158=>?_)
  simp only [qa,q66,qf,qe,jy,evp,B0,reduceIte,a8]
  refine kg (n:=2) (f:=qh) ([] : List Entry) hS158 rfl rfl (fun v159 c160 h161 hv162 hS163=>?_)
  simp only [qo,qb,o7,o8,o9,qv,ql,B0,reduceIte,a8]
  refine qd (v:=lst qh x131.Entry) ((ja (a0g _ _ _ (t6 hS163))).trans rfl) ?_
  simp only [yv,B0,reduceIte,a8]
  obtain ⟨l165,hx166,hF167⟩:=qk hF136
  refine wh (f:=qh) hv162 hS163 hW (fun _=>rfl) (fun _=>rfl) (qbg (fun _=>rfl)) hx166 (fun v168 c169 h170 hv171 hS172=>?_)
  simp only [qo,qb,o7,o8,o9,qv,zh,B0,reduceIte,a8]
  refine qy (us:=[v168]) (jp (a01 hv171)) (cs':=[.bool x131.Reply,.int .i64 x131.From,.int .i64 x131.To,.int .i64 x131.Term,.int .i64 x131.Prev,
    .int .i64 x131.PTerm,v168,.int .i64 x131.Commit,.int .i64 x131.Match]) (t6 hS172) hW rfl (qp (a01 hv171) zp) (nle rfl) rfl (fun h174 hS175=>?_)
  simp only [qa,q5i,qe,f148,qo,qb,o7,o8,o9,qv,ql,B0,reduceIte,a8]
  refine qd (v:=v127) ((ja (a0g _ _ _ (t5 hS175))).trans rfl) ?_
  simp only [ql,B0,reduceIte,a8]
  refine qd (v := .agg [.bool x131.Reply,.int .i64 x131.From,.int .i64 x131.To,.int .i64 x131.Term,.int .i64 x131.Prev,.int .i64 x131.PTerm,v168,
    .int .i64 x131.Commit,.int .i64 x131.Match]) ((zw (a0g _ _ _ hS175)).trans rfl) ?_
  simp only [jy,evp,B0,reduceIte,a8]
  refine ux (R:=Mail.R) (n:=9) (cs:=[.bool x131.Reply,.int .i64 x131.From,.int .i64 x131.To,.int .i64 x131.Term,.int .i64 x131.Prev,.int .i64 x131.PTerm,
    v168,.int .i64 x131.Commit,.int .i64 x131.Match]) (os:=c169) (t6 hS175) (qel (us:=[.bool x131.Reply,.int .i64 x131.From,.int .i64 x131.To,
    .int .i64 x131.Term,.int .i64 x131.Prev,.int .i64 x131.PTerm,v168,.int .i64 x131.Commit,.int .i64 x131.Match]) (vs:=[.bool x131.Reply,.int .i64 x131.From,
    .int .i64 x131.To,.int .i64 x131.Term,.int .i64 x131.Prev,.int .i64 x131.PTerm,v168,.int .i64 x131.Commit,
    .int .i64 x131.Match]) rfl rfl (nle rfl) (qp rfl (qp rfl (qp rfl (qp rfl (qp rfl (qp rfl (qp (a01 hv171) (qp rfl
    (qp rfl zp))))))))) rfl qek) (Mail.RI (x:=(Mail.mk x131.Reply x131.From x131.To x131.Term x131.Prev x131.PTerm l165 x131.Commit x131.Match)) hv171) rfl
    (fun v176 c177 h178 hv179 hS180=>?_)
  simp only [yv,B0,reduceIte,a8]
  obtain ⟨l182,hx183,hF184⟩:=qk hF167
  refine qa8 (R:=Mail.R) (c:=c128) hv129 hv179 (t8 hS180) hW Mail.RO.len Mail.RO.one hx183 (fun v185 c186 h187 hv188 hS189=>?_)
  simp only [f148,qo,qb,o7,o8,o9,qv,zh,B0,reduceIte,a8]
  refine qy (us:=[v185]) (jp (a0n hv188)) (cs':=[v110,v185]) (t5 hS189) hW rfl (qp (a0n hv188) zp) (nle rfl) rfl (fun h191 hS192=>?_)
  simp only [qa,qm,B0,reduceIte,a8]
  have e193:=qj hF184
  exact hN139 _ _ _ e193.symm ⟨v185,c186,f147,f148,f149,hv188,(t5 (s9 (t5 (t6 (a0k (s9 hS192))))))⟩ (f151) (f152)
 rintro s195 fr200 h201 rfl ⟨v197,c198,f203,f204,f205,hv199,hS202⟩
 dsimp only [jnO] at hk135
 unfold qir at hk135
 simp only [qf,qe,f204,ql,B0,reduceIte,a8]
 refine qd (v := .agg [v110,v197]) ((zw (a0g _ _ _ (t6 hS202))).trans rfl) ?_
 simp only [f203,zh,B0,reduceIte,a8]
 refine qy (us:=[v110,v197]) rfl (cs':=[v110,v197]) hS202 hW rfl (qp (a0n hv112) (qp (a0n hv199) zp)) (nle rfl) rfl (fun h206 hS207=>?_)
 simp only [qa,zc,B0,reduceIte,a8]
 have he:=qj hk135
 subst he
 refine wa (bb:=b5) (oo:=0) (v := .agg [v110,v197]) (by simp only [f203,B0,reduceIte,a8]) ((zw (a0g _ _ _ hS207)).trans rfl) ?_
 exact ⟨v110,c111,v197,c198,by first | trivial | rfl,hv112,hv199,(t6 (t6 (a0k ((a0k (hS207))))))⟩
theorem qjd {W:Nat→Bool}{h:Heap}{lo:Nat→Prop}{S0:List Obj} (hW:∀ b,
  lo b→W b=true) (pb0:Nat) (l8:L1Cur) (m9:Int) (r:Bool × L1Cur) (hF:qer l8 m9=some r) (hS:Sep h lo ([Blk1 pb0 [lst cU8 l8.code,.int .i64 l8.at_,
  .int .u64 l8.seed] 78]++(S0))) : Ret E W 67 [.ptr pb0 0,.int .i64 m9] h (fun v h'=>v = .bool r.1∧Sep h' lo ([Blk1 pb0 [lst cU8 r.2.code,.int .i64 r.2.at_,
  .int .u64 r.2.seed] 78]++(S0))):=by
 refine Ret.of (fn:=x67) rfl (Run.of ?_)
 unfold qer at hF
 have zf0:zk [.ptr pb0 0,.int .i64 m9] 0 = .ptr pb0 0:=rfl
 have zf1:zk [.ptr pb0 0,.int .i64 m9] 1 = .int .i64 m9:=rfl
 generalize zk [.ptr pb0 0,.int .i64 m9]=fr0 at zf0 zf1 ⊢
 obtain ⟨v1,hx2,hF3⟩:=qk hF
 simp only [x67,qf,qe,qg,qa,q4m,zf0,zf1,zi,B0,reduceIte,a8]
 refine yx rfl (yl hW pb0 l8 m9 v1 hx2 hS) ?_
 rintro _ h4 ⟨rfl,hS5⟩
 simp only [qx,qb,ku,qg,qa,zc,B0,reduceIte,a8]
 have he:=qj hF3
 subst he
 simp only [zr,B0,reduceIte,a8]
 exact ⟨by first | trivial | rfl,hS5⟩
theorem qpv {W:Nat→Bool}{h:Heap}{lo:Nat→Prop}{S0:List Obj} (hW:∀ b,
  lo b→W b=true) (pb0:Nat) (l8:L1Cur) (pv1:XV) (pc1:List Obj) (n8:List Int) (ph1:SlF cI 1 3 pv1 n8 pc1) (r:Int × L1Cur × (List Int))
  (hF:qfc l8 n8=some r) (hS:Sep h lo ([Blk1 pb0 [lst cU8 l8.code,.int .i64 l8.at_,.int .u64 l8.seed] 78]++(pc1++(S0)))) : Ret E W 70 [.ptr pb0 0,
  pv1] h (fun v h'=>∃ ic1,v = .int .i64 r.1∧SlF cI 1 3 pv1 r.2.2 ic1∧Sep h' lo ([Blk1 pb0 [lst cU8 r.2.1.code,.int .i64 r.2.1.at_,
  .int .u64 r.2.1.seed] 78]++(ic1++(S0)))):=by
 refine Ret.of (fn:=x70) rfl (Run.of ?_)
 unfold qfc at hF
 have zf0:zk [.ptr pb0 0,pv1] 0 = .ptr pb0 0:=rfl
 have zf1:zk [.ptr pb0 0,pv1] 1=pv1:=rfl
 generalize zk [.ptr pb0 0,pv1]=fr0 at zf0 zf1 ⊢
 obtain ⟨v1,hx2,hF3⟩:=qk hF
 simp only [x70,qf,qe,qg,qa,q5a,zf1,zf0,zq,qb,a1p ph1,zi,B0,reduceIte,a8]
 refine yx rfl (yl hW pb0 l8 (p9 n8:Int) v1 hx2 hS) ?_
 rintro _ h4 ⟨rfl,hS5⟩
 obtain ⟨x6,hx7,hF8⟩:=qk hF3
 simp only [jj,B0,reduceIte,a8]
 obtain ⟨b9,hb10⟩:=SlF.isrow ph1 (j7 hx7)
 refine qd (SlF.ia ph1 hb10 hx7) ?_
 simp only [ql,B0,reduceIte,a8]
 refine qd (v := .int .i64 x6) ((SlF.ld (o:=0) ph1 (t6 hS5) hb10 hx7 (fun _=>rfl) (nle rfl)).trans rfl) ?_
 simp only [qg,qa,zc,B0,reduceIte,a8]
 have he:=qj hF8
 subst he
 simp only [zr,B0,reduceIte,a8]
 exact ⟨pc1,by first | trivial | rfl,ph1,(t6 (t6 hS5))⟩
end Go.Proofs.Ytanblnjomhgphaa.X
