/- The functions' code comes to what the plain functions say (5). -/
import Derived.Test.YtanblnjomhgphaaXAH4
open Go.IntKind renaming wrap→l9
open List renaming append_assoc→r9,drop_succ_cons→s5,drop_zero→t6,length→o6,nil_append→a0y,set→a0u,take_succ_cons→r8,take_zero→t8
open Nat renaming add_zero→n9,reduceAdd→n7,reduceEqDiff→a8,zero_add→n8
open Option renaming map_none→a1e,map_some→a0p
open Go.Proofs.Ytanblnjomhgphaa.X.Sep renaming bk→a0d,dc→a0g,m1→s9,m2→o8,m3→p9,m4→a0i,m5→v3,ni2→a07,nil→a1x
open Go.Proofs.Ytanblnjomhgphaa.X.SlF renaming one→a0t
open Go.Proofs.Ytanblnjomhgphaa.X.SlG renaming cls0→a1a,ia→a24,one→a3c,toN→a04
open Go.Proofs.Ytanblnjomhgphaa.X.SlN renaming free1→a2s,nil→a2o,one→a0j,snap→a2n
set_option linter.unusedVariables false
set_option linter.unusedSimpArgs false
set_option maxRecDepth 100000
set_option maxHeartbeats 1000000
namespace Go.Proofs.Ytanblnjomhgphaa.X
open Go
theorem qmk {W:Nat→Bool}{h:Heap}{lo:Nat→Prop}{S0:List Obj} (hW:∀ b,
  lo b→W b=true) (k:Nat) (d8:Raft) (d4:XV) (f6:List Obj) (e9:SlN Peer.R 5 43 d4 d8.Peers f6) (d5:XV) (d7:List Obj)
  (e8:SlN Mail.R 9 86 d5 d8.Mail d7) (a9:RaftStep) (r:Raft × Bool) (hF:kw k d8 a9=some r) (hS:Sep h lo (f6++(d7 ++
  (S0)))) : Ret E W 47 [.agg [d4,d5],.agg [.int .i64 a9.Kind,.int .i64 a9.K,.int .i64 a9.To,.int .i64 a9.N]] h (fun v h'=>∃ g9 i2 i0,
  v = .tup [.agg [d4,i2],.bool r.2]∧SlN Peer.R 5 43 d4 r.1.Peers g9∧SlA Mail.R 9 86 i2 r.1.Mail i0∧Sep h' lo (g9++(i0++(S0)))):=by
 refine Ret.of (fn:=x47) rfl (Run.of ?_)
 unfold kw at hF
 have zf0:zf [.agg [d4,d5],.agg [.int .i64 a9.Kind,.int .i64 a9.K,.int .i64 a9.To,.int .i64 a9.N]] 0 = .agg [d4,d5]:=rfl
 have zf1:zf [.agg [d4,d5],.agg [.int .i64 a9.Kind,.int .i64 a9.K,.int .i64 a9.To,.int .i64 a9.N]] 1 = .agg [.int .i64 a9.Kind,.int .i64 a9.K,
   .int .i64 a9.To,.int .i64 a9.N]:=rfl
 generalize zf [.agg [d4,d5],.agg [.int .i64 a9.Kind,.int .i64 a9.K,.int .i64 a9.To,.int .i64 a9.N]]=fr0 at zf0 zf1 ⊢
 simp only [x47,qd,qc,kt,zf0,B0,reduceIte,a8]
 refine j0 (cs:=[d4,d5]) hS rfl rfl (qk (a0j e9) (qk (a0j e8) zl)) (fun b1 h2 hS3=>?_)
 simp only [kt,zf1,B0,reduceIte,a8]
 refine j0 (cs:=[.int .i64 a9.Kind,.int .i64 a9.K,.int .i64 a9.To,.int .i64 a9.N]) hS3 rfl rfl rfl (fun b5 h6 hS7=>?_)
 simp only [jm,B0,reduceIte,a8]
 refine z3 hS7 (fun b9 h10 hS11=>?_)
 simp only [qe,qa,B0,reduceIte,a8]
 refine z8 (s9 hS11) hW (by simp only [B0,reduceIte,a8]) (fun h13 hS14=>?_)
 simp only [z7,qvi,qd,qc,ql,qb,n7,n8,n9,qn,qj,B0,reduceIte,a8]
 refine qf (v := .int .i64 a9.Kind) rfl ?_
 simp only [zp,B0,reduceIte,a8]
 refine kh rfl (qp zg (qp zg (qp zg zm))) (qfr (fun b hb=>decide_eq_true hb) a9.Kind 4 6 _ rfl) ?_
 simp only [qa,qws,qv,B0,reduceIte,a8]
 refine qs (t:=(yc a9.Kind 4 6)) (fun hc15=>?_) (fun hc15=>?_)
 ·rw [iteT hc15] at hF
  simp only [qtk,qd,qc,ql,qb,n7,n8,n9,qn,qj,B0,reduceIte,a8]
  refine qf (v := .int .i64 a9.K) rfl ?_
  simp only [qq,qb,yg,qe,B0,reduceIte,a8]
  refine ki 7 (fun fr' h'=>Sep h' lo ([Blk1 b1 [d4,d5] 29]++([Blk1 b9 [.nil,
    .nil] 29]++(f6++(d7++(S0)))))∧fr' 21 = .bool ((decide (a9.K<0))||(decide
    ((o6 d8.Mail:Int)≤a9.K)))∧fr' 2 = .ptr b1 0∧fr' 3 = .ref [.int .i64 a9.Kind,.int .i64 a9.K,.int .i64 a9.To,
    .int .i64 a9.N] 0∧fr' 4 = .ptr b9 0) (fun Q16 hN17=>?_) ?_
  ·simp only [r8,t8]
   simp only [qm (g:=14),B0,reduceIte,a8]
   refine zv (t:=(decide (a9.K<0))) (fun hg18=>?_) (fun hg18=>?_)
   ·simp only [hg18,qm (g:=14),jp,zk,qb,z1,qa,qr,B0,reduceIte,a8]
    exact hN17 _ _ ⟨(p9 (o8 (p9 (p9 hS14)))),by rw [orT hg18]; simp only [B0,reduceIte,a8],rfl,rfl,rfl⟩
   ·simp only [hg18,qm (g:=14),zi,ql,qb,n7,n8,n9,qn,qj,B0,reduceIte,a8]
    refine qf (v := .int .i64 a9.K) rfl ?_
    simp only [hg18,qm (g:=14),zi,ql,qb,n7,n8,n9,qu,qj,B0,reduceIte,a8]
    refine qf (v:=d5) ((jb (a0d _ _ _ (s9 hS14))).trans rfl) ?_
    simp only [hg18,qm (g:=14),zi,zr,qb,SlN.len e8,qq,qhi,zk,zz,qa,qr,B0,reduceIte,a8]
    exact hN17 _ _ ⟨(p9 (o8 (p9 (p9 hS14)))),by rw [orF hg18]; simp only [B0,reduceIte,a8],rfl,rfl,rfl⟩
  rintro fr19 h24 ⟨hS25,f20,f21,f22,f23⟩
  simp only [s5,t6]
  simp only [f20,qe,B0,reduceIte,a8]
  refine ki 4 (fun fr' h'=>Sep h' lo ([Blk1 b1 [d4,d5] 29]++([Blk1 b9 [.nil,
    .nil] 29]++(f6++(d7++(S0)))))∧fr' 26 = .bool (((decide (a9.K<0))||(decide ((o6 d8.Mail:Int)≤a9.K)))||(decide
    (a9.To≠0)))∧fr' 2 = .ptr b1 0∧fr' 3 = .ref [.int .i64 a9.Kind,.int .i64 a9.K,.int .i64 a9.To,.int .i64 a9.N] 0∧fr' 4 = .ptr b9 0) (fun Q26 hN27=>?_) ?_
  ·simp only [r8,t8]
   simp only [qm (g:=22),B0,reduceIte,a8]
   refine zv (t:=((decide (a9.K<0))||(decide ((o6 d8.Mail:Int)≤a9.K)))) (fun hg28=>?_) (fun hg28=>?_)
   ·simp only [hg28,qm (g:=22),jp,zk,qb,z1,qa,qr,B0,reduceIte,a8]
    exact hN27 _ _ ⟨(p9 (p9 (p9 (p9 hS25)))),by rw [orT hg28]; simp only [B0,reduceIte,a8],f21,f22,f23⟩
   ·simp only [hg28,qm (g:=22),zi,f22,ql,qb,n7,n8,n9,qn,qj,B0,reduceIte,a8]
    refine qf (v := .int .i64 a9.To) rfl ?_
    simp only [hg28,qm (g:=22),zi,qq,qb,ya,zk,zz,qa,qr,B0,reduceIte,a8]
    exact hN27 _ _ ⟨(p9 (p9 (p9 (p9 hS25)))),by rw [orF hg28]; simp only [B0,reduceIte,a8],f21,f22,f23⟩
  rintro fr29 h34 ⟨hS35,f30,f31,f32,f33⟩
  simp only [s5,t6]
  simp only [f30,qe,B0,reduceIte,a8]
  refine ki 4 (fun fr' h'=>Sep h' lo ([Blk1 b1 [d4,d5] 29]++([Blk1 b9 [.nil,
    .nil] 29]++(f6++(d7++(S0)))))∧fr' 31 = .bool ((((decide (a9.K<0))||(decide ((o6 d8.Mail:Int)≤a9.K)))||(decide (a9.To≠0))) ||
    (decide (a9.N≠0)))∧fr' 2 = .ptr b1 0∧fr' 3 = .ref [.int .i64 a9.Kind,.int .i64 a9.K,.int .i64 a9.To,
    .int .i64 a9.N] 0∧fr' 4 = .ptr b9 0) (fun Q36 hN37=>?_) ?_
  ·simp only [r8,t8]
   simp only [qm (g:=27),B0,reduceIte,a8]
   refine zv (t:=(((decide (a9.K<0))||(decide ((o6 d8.Mail:Int)≤a9.K)))||(decide (a9.To≠0)))) (fun hg38=>?_) (fun hg38=>?_)
   ·simp only [hg38,qm (g:=27),jp,zk,qb,z1,qa,qr,B0,reduceIte,a8]
    exact hN37 _ _ ⟨(p9 (p9 (p9 (p9 hS35)))),by rw [orT hg38]; simp only [B0,reduceIte,a8],f31,f32,f33⟩
   ·simp only [hg38,qm (g:=27),zi,f32,ql,qb,n7,n8,n9,qn,qj,B0,reduceIte,a8]
    refine qf (v := .int .i64 a9.N) rfl ?_
    simp only [hg38,qm (g:=27),zi,qq,qb,ya,zk,zz,qa,qr,B0,reduceIte,a8]
    exact hN37 _ _ ⟨(p9 (p9 (p9 (p9 hS35)))),by rw [orF hg38]; simp only [B0,reduceIte,a8],f31,f32,f33⟩
  rintro fr39 h44 ⟨hS45,f40,f41,f42,f43⟩
  simp only [s5,t6]
  simp only [qa,q5m,f40,qv,B0,reduceIte,a8]
  refine qs (t:=((((decide (a9.K<0))||(decide ((o6 d8.Mail:Int)≤a9.K)))||(decide (a9.To≠0)))||(decide (a9.N≠0)))) (fun hc46=>?_)
    (fun hc46=>?_)
  ·rw [iteT hc46] at hF
   simp only [qd,qc,f41,qj,B0,reduceIte,a8]
   refine qf (v := .agg [d4,d5]) ((zq (a0d _ _ _ hS45)).trans rfl) ?_
   simp only [f43,zd,B0,reduceIte,a8]
   refine qz (us:=[d4,d5]) rfl (cs':=[d4,
     d5]) (s9 hS45) hW rfl (qk (a0j e9) (qk (a0j e8) zl)) (nle rfl) rfl (fun h47 hS48=>?_)
   simp only [qe,qa,qx,B0,reduceIte,a8]
   have he:=qg hF
   subst he
   refine jf (qp (jk (bb:=b9) (oo:=0) (v := .agg [d4,
     d5]) (f43) ((zq (a0d _ _ _ hS48)).trans rfl)) (qp (kp (v := .bool false) (rfl)) zm)) ?_
   exact ⟨f6,d5,d7,by first | trivial | rfl,e9,(SlN.toA e8 Mail.RO.len),(s9 (s9 (a0g ((a0g (hS48))))))⟩
  rw [iteF hc46] at hF
  simp only [qw,qys,qd,qc,f41,ql,qb,n7,n8,n9,qu,qj,B0,reduceIte,a8]
  refine qf (v:=d5) ((jb (a0d _ _ _ hS45)).trans rfl) ?_
  simp only [f42,ql,qb,n7,n8,n9,qn,qj,B0,reduceIte,a8]
  refine qf (v := .int .i64 a9.K) rfl ?_
  obtain ⟨x49,hx50,hF51⟩:=qi hF
  simp only [zu,B0,reduceIte,a8]
  obtain ⟨b52,hb53⟩:=SlN.isrow e8 (jq hx50)
  refine qf (SlN.ia e8 hb53 hx50) ?_
  obtain ⟨c54,cs55,os56,hv57,hR58,hS59⟩:=SlG.opn (SlN.toG e8 hb53 Mail.RO.len) hx50 zo Mail.RO.len (p9 hS45)
  obtain ⟨v61,c62,hv63,rfl,rfl⟩:=hR58
  have hS60:=Sep.no1 hS59
  simp only [qj,B0,reduceIte,a8]
  refine qf (v := .agg [.bool x49.Reply,.int .i64 x49.From,.int .i64 x49.To,.int .i64 x49.Term,.int .i64 x49.Prev,.int .i64 x49.PTerm,v61,.int .i64 x49.Commit,
    .int .i64 x49.Match]) ((SlG.lds (o:=0) hv57 rfl hx50 hS60 (nle rfl)).trans rfl) ?_
  simp only [jm,B0,reduceIte,a8]
  refine z3 hS60 (fun b65 h66 hS67=>?_)
  simp only [zd,B0,reduceIte,a8]
  refine qz (us:=[.bool x49.Reply,.int .i64 x49.From,.int .i64 x49.To,.int .i64 x49.Term,.int .i64 x49.Prev,.int .i64 x49.PTerm,v61,.int .i64 x49.Commit,
    .int .i64 x49.Match]) rfl (cs':=[.bool x49.Reply,.int .i64 x49.From,.int .i64 x49.To,.int .i64 x49.Term,.int .i64 x49.Prev,.int .i64 x49.PTerm,v61,
    .int .i64 x49.Commit,.int .i64 x49.Match]) hS67 hW rfl (qk rfl (qk rfl (qk rfl (qk rfl (qk rfl (qk rfl (qk (a0t hv63) (qk rfl
    (qk rfl zl))))))))) (nle rfl) rfl (fun h69 hS70=>?_)
  simp only [qa,B0,reduceIte,a8]
  refine z8 hS70 hW (by simp only [B0,reduceIte,a8]) (fun h71 hS72=>?_)
  simp only [z7,qym,qd,qc,f42,ql,qb,n7,n8,n9,qn,qj,B0,reduceIte,a8]
  refine qf (v := .int .i64 a9.Kind) rfl ?_
  simp only [qq,qb,yh,qa,q9o,qv,B0,reduceIte,a8]
  refine qs (t:=(decide (a9.Kind=6))) (fun hc73=>?_) (fun hc73=>?_)
  ·rw [iteT hc73] at hF51
   simp only [zaa,qd,qc,f41,ql,qb,n7,n8,n9,qu,qj,B0,reduceIte,a8]
   refine qf (v:=d5) ((jb (a0d _ _ _ (o8 hS72))).trans rfl) ?_
   simp only [zr,qb,SlG.plen hv57,qq,yh,qa,q1n,qv,B0,reduceIte,a8]
   refine qs (t:=(decide ((o6 d8.Mail:Int)=20))) (fun hc74=>?_) (fun hc74=>?_)
   ·rw [iteT hc74] at hF51
    simp only [qd,qc,f41,qj,B0,reduceIte,a8]
    refine qf (v := .agg [d4,d5]) ((zq (a0d _ _ _ (o8 hS72))).trans rfl) ?_
    simp only [f43,zd,B0,reduceIte,a8]
    refine qz (us:=[d4,d5]) rfl (cs':=[d4,
      d5]) (p9 hS72) hW rfl (qk (a0j e9) (qk (a3c hv57) zl)) (nle rfl) rfl (fun h75 hS76=>?_)
    simp only [qe,qa,qx,B0,reduceIte,a8]
    obtain ⟨c77,hv78,hS79⟩:=a1a (c:=c54) (os:=c62) hv57 rfl hx50 zo (Mail.RI (x:=x49) hv63) (o8 (o8 hS76))
    have hv80:=a04 hv78
    have he:=qg hF51
    subst he
    refine jf (qp (jk (bb:=b9) (oo:=0) (v := .agg [d4,
      d5]) (f43) ((zq (a0d _ _ _ (s9 hS79))).trans rfl)) (qp (kp (v := .bool false) (rfl)) zm)) ?_
    exact ⟨f6,d5,c77,by first | trivial | rfl,e9,(SlN.toA hv80 Mail.RO.len),(s9 (a0g (s9 (a0g (s9 hS79)))))⟩
   rw [iteF hc74] at hF51
   simp only [qw,q6w,qd,qc,f41,ql,qb,n7,n8,n9,qu,qj,B0,reduceIte,a8]
   refine qf (v:=d5) ((jb (a0d _ _ _ (o8 hS72))).trans rfl) ?_
   simp only [qj,B0,reduceIte,a8]
   refine qf (v := .agg [.bool x49.Reply,.int .i64 x49.From,.int .i64 x49.To,.int .i64 x49.Term,.int .i64 x49.Prev,.int .i64 x49.PTerm,v61,.int .i64 x49.Commit,
     .int .i64 x49.Match]) rfl ?_
   simp only [kc,evp,B0,reduceIte,a8]
   refine qot (n:=9) (cs:=[.bool x49.Reply,.int .i64 x49.From,.int .i64 x49.To,.int .i64 x49.Term,.int .i64 x49.Prev,.int .i64 x49.PTerm,v61,
     .int .i64 x49.Commit,.int .i64 x49.Match]) hS72 (qd1 (us:=[.bool x49.Reply,.int .i64 x49.From,.int .i64 x49.To,.int .i64 x49.Term,.int .i64 x49.Prev,
     .int .i64 x49.PTerm,v61,.int .i64 x49.Commit,.int .i64 x49.Match]) (vs:=[.bool x49.Reply,.int .i64 x49.From,.int .i64 x49.To,.int .i64 x49.Term,
     .int .i64 x49.Prev,.int .i64 x49.PTerm,v61,.int .i64 x49.Commit,
     .int .i64 x49.Match]) rfl rfl (nle rfl) (qk rfl (qk rfl (qk rfl (qk rfl (qk rfl (qk rfl (qk (a0t hv63) (qk rfl
     (qk rfl zl))))))))) rfl qd2) rfl (qk rfl (qk rfl (qk rfl (qk rfl (qk rfl (qk rfl (qk (a0t hv63) (qk rfl (qk rfl zl)))))))))
     (qk rfl (qk rfl (qk rfl (qk rfl (qk rfl (qk rfl (qk (SlF.free1 hv63) (qk rfl (qk rfl zl))))))))) (fun v81 c82 h83 hv84 hS85=>?_)
   simp only [wc,B0,reduceIte,a8]
   obtain ⟨l87,hx88,hF89⟩:=qi hF51
   refine qx8 (R:=Mail.R) (cs:=[.bool x49.Reply,.int .i64 x49.From,.int .i64 x49.To,.int .i64 x49.Term,.int .i64 x49.Prev,.int .i64 x49.PTerm,v61,
     .int .i64 x49.Commit,.int .i64 x49.Match]) (os:=c62) hv57 (yi hx50).2.2 (Mail.RI (x:=x49) hv63) hv84 (o8
     (o8 hS85)) hW Mail.RO.len Mail.RO.one Mail.RO.free hx88 (fun v90 c91 h92 hv93 hS94=>?_)
   simp only [f41,ql,qb,n7,n8,n9,qu,zd,B0,reduceIte,a8]
   refine qz (us:=[v90]) (jj (SlA.one hv93)) (cs':=[d4,v90]) (s9 hS94) hW rfl (qk (SlA.one hv93) zl) (nle rfl) rfl (fun h96 hS97=>?_)
   simp only [qa,qd,qc,f41,qj,B0,reduceIte,a8]
   refine qf (v := .agg [d4,v90]) ((zq (a0d _ _ _ hS97)).trans rfl) ?_
   simp only [f43,zd,B0,reduceIte,a8]
   refine qz (us:=[d4,v90]) rfl (cs':=[d4,v90]) (o8 hS97) hW rfl (qk (a0j e9) (qk (SlA.one hv93) zl)) (nle rfl) rfl (fun h98 hS99=>?_)
   simp only [qe,qa,qx,B0,reduceIte,a8]
   have he:=qg hF89
   subst he
   refine jf (qp (jk (bb:=b9) (oo:=0) (v := .agg [d4,
     v90]) (f43) ((zq (a0d _ _ _ hS99)).trans rfl)) (qp (kp (v := .bool true) (rfl)) zm)) ?_
   exact ⟨f6,v90,c91,by first | trivial | rfl,e9,hv93,(s9 (a0g ((a0g (hS99)))))⟩
  rw [iteF hc73] at hF51
  simp only [qw,q30,qd,z9,qbc,evp,B0,reduceIte,a8]
  refine qm3 (R:=Mail.R) (n:=9) hS72 rfl (fun v100 c101 h102 hv103 hS104=>?_)
  simp only [f41,zj,qh,n7,n8,n9,qu,zh,B0,reduceIte,a8]
  refine qo (v:=d5) ((jb (a0d _ _ _ (p9 hS104))).trans rfl) ?_
  simp only [f42,zj,qh,n7,n8,n9,qn,zh,B0,reduceIte,a8]
  refine qo (v := .int .i64 a9.K) rfl ?_
  obtain ⟨l106,hx107,hF108⟩:=qi hF51
  simp only [qlp,a0p,a1e,B0,reduceIte,a8]
  obtain ⟨w109,he110,hw111⟩:=SlG.win (ty:=86) none (some a9.K) hv57 hx107 (s9 hS104)
  refine qo he110 ?_
  simp only [qqi,B0,reduceIte,a8]
  obtain ⟨l112,hx113,hF114⟩:=qi hF108
  have hq115:=nwq (fun z hz=>Sep.dj (s9 (p9 hS104)) qle (SlN.rowfp hv103 z hz))
  have hq116:=nwq (fun z hz=>Sep.dj (s9 (a0i hS104)) qle (SlN.rowfp hv103 z hz))
  refine q6l qx5 ?_
  refine qx9 (R:=Mail.R) (K0:=a9.K) hv103 hv57 hx50 hx107 hw111 (s9 (s9 hS104)) hW Mail.RO.len Mail.RO.one Mail.RO.free hx113
    (fun v117 c118 h119 hv120 hS121=>?_)
  simp only [f41,qls,qh,n7,n8,n9,qu,qj0,B0,reduceIte,a8]
  refine zai (Sep.ltk (o8 hS72)) (nw1 hq115 nw0) ?_
  refine qo (v:=d5) ((jb (a0d _ _ _ (p9 hS121))).trans rfl) ?_
  simp only [f42,qls,qh,n7,n8,n9,qn,qj0,qj2,B0,reduceIte,a8]
  refine qo (v := .int .i64 a9.K) rfl ?_
  obtain ⟨l123,hx124,hF125⟩:=qi hF114
  simp only [zdw,qh,j8,zbp,a0p,a1e,B0,reduceIte,a8]
  obtain ⟨w126,he127,hw128⟩:=SlG.win (ty:=86) (some (l9 .i64 (a9.K+1))) none hv57 hx124 (s9 hS121)
  refine qo he127 ?_
  simp only [qfz,B0,reduceIte,a8]
  obtain ⟨l129,hx130,hF131⟩:=qi hF125
  refine qtn (R:=Mail.R) (bytes:=88) (by decide) (K0:=a9.K) hv120 hx50 hx107 hx113 hx124 hw128 (s9
    (s9 hS121)) hW Mail.RO.len Mail.RO.one Mail.RO.free hx130 (fun v132 c133 h134 hv135 hS136=>?_)
  simp only [f41,zj,qh,n7,n8,n9,qu,xx,B0,reduceIte,a8]
  refine u9 (us:=[v132]) (jj (a0j hv135)) (cs':=[d4,v132]) (o8 hS136) hW rfl (qk (a0j hv135) zl) (nle rfl) rfl (fun h138 hS139=>?_)
  simp only [za,q37,qd,qc,f42,ql,qb,n7,n8,n9,qn,qj,B0,reduceIte,a8]
  refine qf (v := .int .i64 a9.Kind) rfl ?_
  simp only [qq,qb,yh,qa,q4l,qv,B0,reduceIte,a8]
  obtain ⟨sv151,hX149,hk150⟩:=qi hF131
  refine xh (t:=(decide (a9.Kind=4))) (fun fr' h'=>∃ v142 c143 c146,
    fr' 2 = .ptr b1 0∧fr' 4 = .ptr b9 0∧SlN Mail.R 9 86 v142 sv151.1.Mail c143∧SlN Peer.R 5 43 d4 sv151.2 c146∧Sep h' lo ([Blk1 b1 [d4,
    v142] 29]++([Blk1 b9 [.nil,.nil] 29]++(c146++(c143++(S0)))))) (fun Q152 hN153 hR154 hE155=>⟨fun hc156=>?_,fun hc156=>?_⟩) ?_
  ·rw [iteT hc156] at hX149
   simp only [q1x,qc,f41,qj,B0,reduceIte,a8]
   refine qf (v := .agg [d4,v132]) ((zq (a0d _ _ _ hS139)).trans rfl) ?_
   simp only [qj,B0,reduceIte,a8]
   refine qf (v := .agg [.bool x49.Reply,.int .i64 x49.From,.int .i64 x49.To,.int .i64 x49.Term,.int .i64 x49.Prev,.int .i64 x49.PTerm,v61,.int .i64 x49.Commit,
     .int .i64 x49.Match]) rfl ?_
   obtain ⟨v157,hx158,hF159⟩:=qi hX149
   simp only [zp,B0,reduceIte,a8]
   refine qab rfl (qmg hW (Raft.mk d8.Peers l129) d4 f6 e9 v132 c133 hv135 x49 v61 c62 hv63 v157 hx158 (a0i (o8 (o8 hS139)))) ?_
   rintro _ h168 ⟨c160,v162,c163,c166,rfl,hv161,hv164,hv167,hS169⟩
   simp only [f41,zd,B0,reduceIte,a8]
   refine qz (us:=[d4,v162]) rfl (cs':=[d4,
     v162]) (p9 hS169) hW rfl (qk (a0j hv161) (qk (a0j hv164) zl)) (nle rfl) rfl (fun h170 hS171=>?_)
   simp only [qa,qr,B0,reduceIte,a8]
   have e172:=qg hF159
   subst e172
   exact hN153 _ _ ⟨v162,c163,c160,f41,f43,hv164,hv161,(p9 (p9 (o8 (o8 (a0g (p9 hS171))))))⟩
  ·rw [iteF hc156] at hX149
   simp only [qw,qr,B0,reduceIte,a8]
   have e173:=qg hX149
   subst e173
   exact hN153 _ _ ⟨v132,c133,f6,f41,f43,hv135,e9,(p9 (p9 (p9 (s9 (a0g (o8 hS139))))))⟩
  rintro fr174 h175 ⟨v142,c143,c146,f177,f178,hv144,hv147,hS176⟩
  obtain ⟨s140,s145⟩:=sv151
  dsimp only at *
  unfold qez at hk150
  simp only [qd,qc,f177,qj,B0,reduceIte,a8]
  refine qf (v := .agg [d4,v142]) ((zq (a0d _ _ _ hS176)).trans rfl) ?_
  simp only [f178,zd,B0,reduceIte,a8]
  refine qz (us:=[d4,v142]) rfl (cs':=[d4,
    v142]) (s9 hS176) hW rfl (qk (a0j hv147) (qk (a0j hv144) zl)) (nle rfl) rfl (fun h179 hS180=>?_)
  simp only [qe,qa,qx,B0,reduceIte,a8]
  have he:=qg hk150
  subst he
  refine jf (qp (jk (bb:=b9) (oo:=0) (v := .agg [d4,
    v142]) (f178) ((zq (a0d _ _ _ hS180)).trans rfl)) (qp (kp (v := .bool true) (rfl)) zm)) ?_
  exact ⟨c146,v142,c143,by first | trivial | rfl,hv147,(SlN.toA hv144 Mail.RO.len),(s9 (s9 (a0g ((a0g (hS180))))))⟩
 rw [iteF hc15] at hF
 simp only [qw,qud,qd,qc,qj,B0,reduceIte,a8]
 refine qf (v := .agg [d4,d5]) ((zq (a0d _ _ _ (s9 hS14))).trans rfl) ?_
 simp only [ql,qb,n7,n8,n9,qn,qj,B0,reduceIte,a8]
 refine qf (v := .int .i64 a9.K) rfl ?_
 simp only [zp,B0,reduceIte,a8]
 refine kh rfl (qp (yf (qp (a2n e9 _ (o8 hS14) rfl Peer.RO) (qp (a2n e8 _ (p9 hS14) rfl Mail.RO) zm))) (qp zg zm))
   (qhr (fun b hb=>decide_eq_true hb) d8 a9.K _ rfl) ?_
 simp only [yk,qb,yw,qe,B0,reduceIte,a8]
 refine ki 9 (fun fr' h'=>Sep h' lo ([Blk1 b1 [d4,d5] 29]++([Blk1 b9 [.nil,
   .nil] 29]++(f6++(d7++(S0)))))∧fr' 90 = .bool ((!(jy d8 a9.K))||((decide (a9.Kind≠3))&&(decide
   (a9.To≠0))))∧fr' 2 = .ptr b1 0∧fr' 3 = .ref [.int .i64 a9.Kind,.int .i64 a9.K,.int .i64 a9.To,.int .i64 a9.N] 0∧fr' 4 = .ptr b9 0) (fun Q182 hN183=>?_) ?_
 ·simp only [r8,t8]
  simp only [qm (g:=81),B0,reduceIte,a8]
  refine zv (t:=(!(jy d8 a9.K))) (fun hg184=>?_) (fun hg184=>?_)
  ·simp only [hg184,qm (g:=81),jp,qm (g:=85),qf7,zk,qb,z1,qa,qr,B0,reduceIte,a8]
   exact hN183 _ _ ⟨(p9 (o8 (p9 (p9 hS14)))),by rw [orT hg184]; simp only [B0,reduceIte,a8],rfl,rfl,rfl⟩
  ·simp only [hg184,qm (g:=81),zi,ql,qb,n7,n8,n9,qn,qj,B0,reduceIte,a8]
   refine qf (v := .int .i64 a9.Kind) rfl ?_
   simp only [hg184,qm (g:=81),zi,qq,qb,ya,qe,B0,reduceIte,a8]
   refine ki 4 (fun fr' h'=>Sep h' lo ([Blk1 b1 [d4,d5] 29]++([Blk1 b9 [.nil,
     .nil] 29]++(f6++(d7++(S0)))))∧fr' 89 = .bool ((decide (a9.Kind≠3))&&(decide (a9.To≠0)))∧fr' 2 = .ptr b1 0∧fr' 3 = .ref [.int .i64 a9.Kind,
     .int .i64 a9.K,.int .i64 a9.To,.int .i64 a9.N] 0∧fr' 4 = .ptr b9 0∧fr' 81 = .bool (!(jy d8 a9.K))) (fun Q185 hN186=>?_) ?_
   ·simp only [r8,t8]
    simp only [qm (g:=85),B0,reduceIte,a8]
    refine zv (t:=(decide (a9.Kind≠3))) (fun hg187=>?_) (fun hg187=>?_)
    ·simp only [hg187,qm (g:=85),jg,ql,qb,n7,n8,n9,qn,qj,B0,reduceIte,a8]
     refine qf (v := .int .i64 a9.To) rfl ?_
     simp only [hg187,qm (g:=85),jg,qq,qb,ya,hg184,qm (g:=81),zi,zk,z1,qa,qr,B0,
       reduceIte,a8]
     exact hN186 _ _ ⟨(p9 (o8 (p9 (p9 hS14)))),by rw [qew hg187]; simp only [B0,reduceIte,a8],rfl,rfl,rfl,by simp only [hg184,B0,
       reduceIte,a8]⟩
    ·simp only [hg187,qm (g:=85),wd,hg184,qm (g:=81),zi,zk,qb,zz,qa,qr,B0,reduceIte,
      a8]
     exact hN186 _ _ ⟨(p9 (o8 (p9 (p9 hS14)))),by rw [qeu hg187]; simp only [B0,reduceIte,a8],rfl,rfl,rfl,by simp only [hg184,B0,
       reduceIte,a8]⟩
   rintro fr188 h194 ⟨hS195,f189,f190,f191,f192,f193⟩
   simp only [s5,t6]
   simp only [f193,hg184,zk,qb,zz,f189,qa,qr,B0,reduceIte,a8]
   exact hN183 _ _ ⟨(p9 (p9 (p9 (p9 hS195)))),by rw [orF hg184]; simp only [B0,reduceIte,a8],f190,f191,f192⟩
 rintro fr196 h201 ⟨hS202,f197,f198,f199,f200⟩
 simp only [s5,t6]
 simp only [qa,qyd,f197,qv,B0,reduceIte,a8]
 refine qs (t:=((!(jy d8 a9.K))||((decide (a9.Kind≠3))&&(decide (a9.To≠0))))) (fun hc203=>?_) (fun hc203=>?_)
 ·rw [iteT hc203] at hF
  simp only [qd,qc,f198,qj,B0,reduceIte,a8]
  refine qf (v := .agg [d4,d5]) ((zq (a0d _ _ _ hS202)).trans rfl) ?_
  simp only [f200,zd,B0,reduceIte,a8]
  refine qz (us:=[d4,d5]) rfl (cs':=[d4,
    d5]) (s9 hS202) hW rfl (qk (a0j e9) (qk (a0j e8) zl)) (nle rfl) rfl (fun h204 hS205=>?_)
  simp only [qe,qa,qx,B0,reduceIte,a8]
  have he:=qg hF
  subst he
  refine jf (qp (jk (bb:=b9) (oo:=0) (v := .agg [d4,
    d5]) (f200) ((zq (a0d _ _ _ hS205)).trans rfl)) (qp (kp (v := .bool false) (rfl)) zm)) ?_
  exact ⟨f6,d5,d7,by first | trivial | rfl,e9,(SlN.toA e8 Mail.RO.len),(s9 (s9 (a0g ((a0g (hS205))))))⟩
 rw [iteF hc203] at hF
 simp only [qw,qzg,qd,qc,f198,ql,qb,n7,n8,n9,qu,qj,B0,reduceIte,a8]
 refine qf (v:=d4) ((jb (a0d _ _ _ hS202)).trans rfl) ?_
 simp only [f199,ql,qb,n7,n8,n9,qn,qj,B0,reduceIte,a8]
 refine qf (v := .int .i64 a9.K) rfl ?_
 obtain ⟨x206,hx207,hF208⟩:=qi hF
 simp only [zu,B0,reduceIte,a8]
 obtain ⟨b209,hb210⟩:=SlN.isrow e9 (jq hx207)
 refine qf (SlN.ia e9 hb210 hx207) ?_
 obtain ⟨c211,cs212,os213,hv214,hR215,hS216⟩:=SlG.opn (SlN.toG e9 hb210 Peer.RO.len) hx207 zo Peer.RO.len (o8 hS202)
 obtain ⟨v218,c219,v222,c223,hv220,hv224,rfl,rfl⟩:=hR215
 have hS217:=Sep.no2 hS216
 simp only [qj,B0,reduceIte,a8]
 refine qf (v := .agg [.int .i64 x206.Term,.bool x206.Leads,v218,.int .i64 x206.Commit,v222]) ((SlG.lds (o:=0) hv214 rfl hx207 hS217 (nle rfl)).trans rfl) ?_
 simp only [jm,B0,reduceIte,a8]
 refine z3 hS217 (fun b226 h227 hS228=>?_)
 simp only [zd,B0,reduceIte,a8]
 refine qz (us:=[.int .i64 x206.Term,.bool x206.Leads,v218,.int .i64 x206.Commit,v222]) rfl (cs':=[.int .i64 x206.Term,.bool x206.Leads,v218,
   .int .i64 x206.Commit,v222]) hS228 hW rfl (qk rfl (qk rfl (qk (a0t hv220) (qk rfl (qk (a0t hv224) zl))))) (nle rfl) rfl (fun h230 hS231=>?_)
 simp only [qa,B0,reduceIte,a8]
 refine z8 hS231 hW (by simp only [B0,reduceIte,a8]) (fun h232 hS233=>?_)
 simp only [z7,qtv,qd,j5,qyy,qc,f199,ql,qb,n7,n8,n9,qn,qj,B0,reduceIte,
   a8]
 refine qf (v := .int .i64 a9.Kind) rfl ?_
 simp only [qq,qb,yh,qe,B0,reduceIte,a8]
 refine ki 4 (fun fr' h'=>Sep h' lo ([Blk1 b1 [d4,d5] 29]++([Blk1 b9 [.nil,
   .nil] 29]++(c219++(c223++(c211++(d7++(S0)))))))∧fr' 106 = .bool ((decide (a9.Kind=1)) &&
   (yc a9.N 1 31))∧fr' 2 = .ptr b1 0∧fr' 3 = .ref [.int .i64 a9.Kind,.int .i64 a9.K,.int .i64 a9.To,
   .int .i64 a9.N] 0∧fr' 4 = .ptr b9 0∧fr' 7 = .ref [.int .i64 x206.Term,.bool x206.Leads,v218,.int .i64 x206.Commit,v222] 0) (fun Q234 hN235=>?_) ?_
 ·simp only [r8,t8]
  simp only [qm (g:=102),B0,reduceIte,a8]
  refine zv (t:=(decide (a9.Kind=1))) (fun hg236=>?_) (fun hg236=>?_)
  ·simp only [hg236,qm (g:=102),jg,f199,ql,qb,n7,n8,n9,qn,qj,B0,reduceIte,a8]
   refine qf (v := .int .i64 a9.N) rfl ?_
   simp only [hg236,qm (g:=102),jg,zp,B0,reduceIte,a8]
   refine kh rfl (qp zg (qp zg (qp zg zm))) (qfr (fun b hb=>decide_eq_true hb) a9.N 1 31 _ rfl) ?_
   simp only [hg236,zk,qb,z1,qa,qr,B0,reduceIte,a8]
   exact hN235 _ _ ⟨(v3 (v3 (p9 (p9 (s9 (v3 hS233)))))),by rw [qew hg236]; simp only [B0,reduceIte,a8],f198,f199,f200,rfl⟩
  ·simp only [hg236,qm (g:=102),wd,zk,qb,zz,qa,qr,B0,reduceIte,a8]
   exact hN235 _ _ ⟨(v3 (v3 (p9 (p9 (s9 (v3 hS233)))))),by rw [qeu hg236]; simp only [B0,reduceIte,a8],f198,f199,f200,rfl⟩
 rintro fr237 h243 ⟨hS244,f238,f239,f240,f241,f242⟩
 simp only [s5,t6]
 simp only [f238,qe,qa,qyx,qv,B0,reduceIte,a8]
 refine qs (t:=((decide (a9.Kind=1))&&(yc a9.N 1 31))) (fun hc245=>?_) (fun hc245=>?_)
 ·rw [iteT hc245] at hF208
  simp only [qu2,qd,qc,f239,qj,B0,reduceIte,a8]
  refine qf (v := .agg [d4,d5]) ((zq (a0d _ _ _ hS244)).trans rfl) ?_
  simp only [f240,ql,qb,n7,n8,n9,qn,qj,B0,reduceIte,a8]
  refine qf (v := .int .i64 a9.K) rfl ?_
  simp only [f240,ql,qb,n7,n8,n9,qn,qj,B0,reduceIte,a8]
  refine qf (v := .int .i64 a9.N) rfl ?_
  obtain ⟨c246,hv247,hS248⟩:=a1a (c:=c211) (os:=c219++(c223)) hv214 rfl hx207 zo (Peer.RI (x:=x206) hv220 hv224) (a07 (c1:=c219) (c2:=c223) (a0i
    (p9 (p9 hS244))))
  have hv249:=a04 hv247
  obtain ⟨v250,hx251,hF252⟩:=qi hF208
  simp only [zp,B0,reduceIte,a8]
  refine qab rfl (qlv hW k d8 d4 c246 hv249 d5 d7 e8 a9.K a9.N v250 hx251 (s9 (p9 hS248))) ?_
  rintro _ h257 ⟨c253,c255,rfl,hv254,hv256,hS258⟩
  simp only [qek,qb,qe7,qey,f241,zd,B0,reduceIte,a8]
  refine qz (us:=[d4,d5]) rfl (cs':=[d4,
    d5]) (p9 hS258) hW rfl (qk (a0j hv254) (qk (a0j hv256) zl)) (nle rfl) rfl (fun h259 hS260=>?_)
  simp only [qe,qa,qx,B0,reduceIte,a8]
  have he:=qg hF252
  subst he
  refine jf (qp (jk (bb:=b9) (oo:=0) (v := .agg [d4,
    d5]) (f241) ((zq (a0d _ _ _ hS260)).trans rfl)) (qp (kp (v := .bool v250.2) (rfl)) zm)) ?_
  exact ⟨c253,d5,c255,by first | trivial | rfl,hv254,(SlN.toA hv256 Mail.RO.len),(s9 (s9 (a0g (o8 (a0g (hS260))))))⟩
 rw [iteF hc245] at hF208
 simp only [qs9,qd,qc,f242,ql,qb,n7,n8,n9,qn,qj,B0,reduceIte,a8]
 refine qf (v := .bool x206.Leads) rfl ?_
 simp only [yk,qb,yw,qe,qa,qyz,qv,B0,reduceIte,a8]
 refine qs (t:=(!x206.Leads)) (fun hc261=>?_) (fun hc261=>?_)
 ·rw [iteT hc261] at hF208
  simp only [qd,qc,f239,qj,B0,reduceIte,a8]
  refine qf (v := .agg [d4,d5]) ((zq (a0d _ _ _ hS244)).trans rfl) ?_
  simp only [f241,zd,B0,reduceIte,a8]
  refine qz (us:=[d4,d5]) rfl (cs':=[d4,
    d5]) (s9 hS244) hW rfl (qk (a3c hv214) (qk (a0j e8) zl)) (nle rfl) rfl (fun h262 hS263=>?_)
  simp only [qe,qa,qx,B0,reduceIte,a8]
  obtain ⟨c264,hv265,hS266⟩:=a1a (c:=c211) (os:=c219++(c223)) hv214 rfl hx207 zo (Peer.RI (x:=x206) hv220 hv224) (a07 (c1:=c219) (c2:=c223) (a0i
    (p9 (p9 hS263))))
  have hv267:=a04 hv265
  have he:=qg hF208
  subst he
  refine jf (qp (jk (bb:=b9) (oo:=0) (v := .agg [d4,
    d5]) (f241) ((zq (a0d _ _ _ (s9 hS266))).trans rfl)) (qp (kp (v := .bool false) (rfl)) zm)) ?_
  exact ⟨c264,d5,d7,by first | trivial | rfl,hv267,(SlN.toA e8 Mail.RO.len),(s9 (s9 (a0g (s9 (a0g (s9 hS266))))))⟩
 rw [iteF hc261] at hF208
 simp only [qtu,qd,qc,f240,ql,qb,n7,n8,n9,qn,qj,B0,reduceIte,a8]
 refine qf (v := .int .i64 a9.Kind) rfl ?_
 simp only [qq,qb,yh,qe,B0,reduceIte,a8]
 refine ki 4 (fun fr' h'=>Sep h' lo ([Blk1 b1 [d4,d5] 29]++([Blk1 b9 [.nil,
   .nil] 29]++(c219++(c223++(c211++(d7++(S0)))))))∧fr' 128 = .bool ((decide (a9.Kind=2)) &&
   (yc a9.N 0 99))∧fr' 2 = .ptr b1 0∧fr' 3 = .ref [.int .i64 a9.Kind,.int .i64 a9.K,.int .i64 a9.To,
   .int .i64 a9.N] 0∧fr' 4 = .ptr b9 0∧fr' 7 = .ref [.int .i64 x206.Term,.bool x206.Leads,v218,.int .i64 x206.Commit,v222] 0) (fun Q268 hN269=>?_) ?_
 ·simp only [r8,t8]
  simp only [qm (g:=124),B0,reduceIte,a8]
  refine zv (t:=(decide (a9.Kind=2))) (fun hg270=>?_) (fun hg270=>?_)
  ·simp only [hg270,qm (g:=124),jg,f240,ql,qb,n7,n8,n9,qn,qj,B0,reduceIte,a8]
   refine qf (v := .int .i64 a9.N) rfl ?_
   simp only [hg270,qm (g:=124),jg,zp,B0,reduceIte,a8]
   refine kh rfl (qp zg (qp zg (qp zg zm))) (qfr (fun b hb=>decide_eq_true hb) a9.N 0 99 _ rfl) ?_
   simp only [hg270,zk,qb,z1,qa,qr,B0,reduceIte,a8]
   exact hN269 _ _ ⟨(v3 (v3 (v3 (v3 (v3 (v3 hS244)))))),by rw [qew hg270]; simp only [B0,reduceIte,a8],f239,f240,f241,f242⟩
  ·simp only [hg270,qm (g:=124),wd,zk,qb,zz,qa,qr,B0,reduceIte,a8]
   exact hN269 _ _ ⟨(v3 (v3 (v3 (v3 (v3 (v3 hS244)))))),by rw [qeu hg270]; simp only [B0,reduceIte,a8],f239,f240,f241,f242⟩
 rintro fr271 h277 ⟨hS278,f272,f273,f274,f275,f276⟩
 simp only [s5,t6]
 simp only [f272,qe,B0,reduceIte,a8]
 refine ki 5 (fun fr' h'=>Sep h' lo ([Blk1 b1 [d4,d5] 29]++([Blk1 b9 [.nil,
   .nil] 29]++(c219++(c223++(c211++(d7++(S0)))))))∧fr' 134 = .bool (((decide (a9.Kind=2))&&(yc a9.N 0 99))&&(decide
   ((o6 x206.Log:Int)<30)))∧fr' 2 = .ptr b1 0∧fr' 3 = .ref [.int .i64 a9.Kind,.int .i64 a9.K,.int .i64 a9.To,
   .int .i64 a9.N] 0∧fr' 4 = .ptr b9 0∧fr' 7 = .ref [.int .i64 x206.Term,.bool x206.Leads,v218,.int .i64 x206.Commit,v222] 0) (fun Q279 hN280=>?_) ?_
 ·simp only [r8,t8]
  simp only [qm (g:=129),B0,reduceIte,a8]
  refine zv (t:=((decide (a9.Kind=2))&&(yc a9.N 0 99))) (fun hg281=>?_) (fun hg281=>?_)
  ·simp only [hg281,qm (g:=129),jg,f276,ql,qb,n7,n8,n9,qn,qj,B0,reduceIte,a8]
   refine qf (v:=v218) rfl ?_
   simp only [hg281,qm (g:=129),jg,zr,qb,SlF.plen hv220,qq,yg,zk,z1,qa,qr,B0,reduceIte,a8]
   exact hN280 _ _ ⟨(v3 (v3 (v3 (v3 (v3 (v3 hS278)))))),by rw [qew hg281]; simp only [B0,reduceIte,a8],f273,f274,f275,f276⟩
  ·simp only [hg281,qm (g:=129),wd,zk,qb,zz,qa,qr,B0,reduceIte,a8]
   exact hN280 _ _ ⟨(v3 (v3 (v3 (v3 (v3 (v3 hS278)))))),by rw [qeu hg281]; simp only [B0,reduceIte,a8],f273,f274,f275,f276⟩
 rintro fr282 h288 ⟨hS289,f283,f284,f285,f286,f287⟩
 simp only [s5,t6]
 simp only [f283,qe,qa,qwh,qv,B0,reduceIte,a8]
 refine qs (t:=(((decide (a9.Kind=2))&&(yc a9.N 0 99))&&(decide ((o6 x206.Log:Int)<30)))) (fun hc290=>?_) (fun hc290=>?_)
 ·rw [iteT hc290] at hF208
  simp only [qsh,qd,z9,f284,qls,qh,n7,n8,n9,qu,qj0,B0,reduceIte,a8]
  refine zak (Sep.ltk hS289) ?_
  refine qo (v:=d4) ((jb (a0d _ _ _ hS289)).trans rfl) ?_
  simp only [f285,qls,qh,n7,n8,n9,qn,qj0,qj2,B0,reduceIte,a8]
  refine qo (v := .int .i64 a9.K) rfl ?_
  simp only [f284,zj,qh,n7,n8,n9,qu,zh,B0,reduceIte,a8]
  refine qo (v:=d4) ((jb (a0d _ _ _ hS289)).trans rfl) ?_
  simp only [f285,zj,qh,n7,n8,n9,qn,zh,B0,reduceIte,a8]
  refine qo (v := .int .i64 a9.K) rfl ?_
  simp only [kz,B0,reduceIte,a8]
  refine qo (a24 hv214 hx207) ?_
  simp only [zj,qh,n7,n8,n9,qu,zh,B0,reduceIte,a8]
  refine qo (v:=v218) ((SlG.ld (o:=2) hv214 rfl hx207 (a0i hS289) (nle rfl)).trans rfl) ?_
  simp only [f287,zj,qh,n7,n8,n9,qn,zh,B0,reduceIte,a8]
  refine qo (v := .int .i64 x206.Term) rfl ?_
  simp only [f285,zj,qh,n7,n8,n9,qn,zh,B0,reduceIte,a8]
  refine qo (v := .int .i64 a9.N) rfl ?_
  simp only [qfc,evp,B0,reduceIte,a8]
  refine qo (v := .agg [.int .i64 x206.Term,.int .i64 a9.N]) rfl ?_
  simp only [qbc,evp,B0,reduceIte,a8]
  refine qml (n:=2) (f:=qt) [(Entry.mk x206.Term a9.N)] hS289 rfl rfl (fun v292 c293 h294 hv295 hS296 hq291=>?_)
  simp only [qqi,B0,reduceIte,a8]
  obtain ⟨l298,hx299,hF300⟩:=qi hF208
  have hq301:=nwq (fun z hz=>Sep.dj (p9 (s9 hS296)) qle (SlF.rowfp hv220 z hz))
  have hq302:=nwq (fun z hz=>Sep.dj (p9 (o8 hS296)) qle (SlF.rowfp hv220 z hz))
  refine q6l (zde (fun z hz=>Sep.dj (p9 (s9 hS296)) qle (SlF.rowfp hv220 z hz)) qx5) ?_
  refine qir (f:=qt) hv220 (p9 hS296) hW (fun _=>rfl) (fun _=>rfl) (SlF.first hv295 hS296 (fun _=>rfl)) hx299 (fun v303 c304 h305 hv306 hS307=>?_)
  simp only [kz,B0,reduceIte,a8]
  refine qo (a24 hv214 hx207) ?_
  simp only [zj,qh,n7,n8,n9,qu,xx,B0,reduceIte,a8]
  refine qdi (n:=5) (us:=[v303]) (cs:=[.int .i64 x206.Term,.bool x206.Leads,v218,.int .i64 x206.Commit,v222]) (o:=2) (cs':=[.int .i64 x206.Term,
    .bool x206.Leads,v303,.int .i64 x206.Commit,
    v222]) (jj (a0t hv306)) hv214 rfl hx207 (v3 hS307) hW rfl (qk (a0t hv306) zl) (nle rfl) rfl (fun c311 h309 hv312 hS310=>?_)
  simp only [za,qu7,qd,z9,f284,zj,qh,n7,n8,n9,qu,zh,B0,reduceIte,a8]
  refine qo (v:=d4) ((jb (a0d _ _ _ (p9 hS310))).trans rfl) ?_
  simp only [f285,zj,qh,n7,n8,n9,qn,zh,B0,reduceIte,a8]
  refine qo (v := .int .i64 a9.K) rfl ?_
  simp only [kz,B0,reduceIte,a8]
  refine qo (a24 hv312 hx207) ?_
  simp only [zj,qh,n7,n8,n9,qu,zh,B0,reduceIte,a8]
  refine qo (v:=v222) ((SlG.ld (o:=4) hv312 rfl hx207 hS310 (nle rfl)).trans rfl) ?_
  simp only [f285,zj,qh,n7,n8,n9,qn,zh,B0,reduceIte,a8]
  refine qo (v := .int .i64 a9.K) rfl ?_
  simp only [f284,zj,qh,n7,n8,n9,qu,zh,B0,reduceIte,a8]
  refine qo (v:=d4) ((jb (a0d _ _ _ (p9 hS310))).trans rfl) ?_
  simp only [f285,zj,qh,n7,n8,n9,qn,zh,B0,reduceIte,a8]
  refine qo (v := .int .i64 a9.K) rfl ?_
  simp only [kz,B0,reduceIte,a8]
  refine qo (a24 hv312 hx207) ?_
  simp only [zj,qh,n7,n8,n9,qu,zh,B0,reduceIte,a8]
  refine qo (v:=v303) ((SlG.ld (o:=2) hv312 rfl hx207 hS310 (nle rfl)).trans rfl) ?_
  obtain ⟨x313,hx314,hF315⟩:=qi hF300
  simp only [wo,qh,SlF.plen hv306,kz,B0,reduceIte,a8]
  obtain ⟨b316,hb317⟩:=SlF.isrow hv224 (jq hx314)
  refine qo (SlF.ia hv224 hb317 hx314) ?_
  simp only [xx,B0,reduceIte,a8]
  refine qeh (f:=cI) (x':=(o6 l298:Int)) (o:=0) hv224 (v3 hS310) hW hb317 hx314 (fun _=>rfl) rfl rfl (nle rfl) rfl (fun c320 h318 hv321 hS319=>?_)
  have hx322:=jl (x':=(o6 l298:Int)) hx314
  simp only [za,qd,qc,f284,qj,B0,reduceIte,a8]
  refine qf (v := .agg [d4,d5]) ((zq (a0d _ _ _ (a0i hS319))).trans rfl) ?_
  simp only [f286,zd,B0,reduceIte,a8]
  refine qz (us:=[d4,d5]) rfl (cs':=[d4,
    d5]) (v3 hS319) hW rfl (qk (a3c hv312) (qk (a0j e8) zl)) (nle rfl) rfl (fun h323 hS324=>?_)
  simp only [qe,qa,qx,B0,reduceIte,a8]
  obtain ⟨c325,hv326,hS327⟩:=SlG.cls (e':=(Peer.mk x206.Term x206.Leads l298 x206.Commit (a0u x206.Match a9.K.toNat (o6 l298:Int)))) (c:=c311)
    (os:=c304++(c320)) hv312 rfl hx207 zo (Peer.RI (x:=(Peer.mk x206.Term x206.Leads l298 x206.Commit (a0u x206.Match a9.K.toNat
    (o6 l298:Int)))) hv306 hv321) (a07 (c1:=c304) (c2:=c320) (p9 (p9 (s9 hS324))))
  have hx328:=jl (x':=(Peer.mk x206.Term x206.Leads l298 x206.Commit (a0u x206.Match a9.K.toNat (o6 l298:Int)))) hx207
  have hv329:=a04 hv326
  have he:=qg hF315
  subst he
  refine jf (qp (jk (bb:=b9) (oo:=0) (v := .agg [d4,
    d5]) (f286) ((zq (a0d _ _ _ (s9 hS327))).trans rfl)) (qp (kp (v := .bool true) (rfl)) zm)) ?_
  exact ⟨c325,d5,d7,by first | trivial | rfl,hv329,(SlN.toA e8 Mail.RO.len),(s9 (s9 (a0g (s9 (a0g (s9 (a0g (s9 hS327))))))))⟩
 rw [iteF hc290] at hF208
 simp only [qvd,qd,qc,f285,ql,qb,n7,n8,n9,qn,qj,B0,reduceIte,a8]
 refine qf (v := .int .i64 a9.Kind) rfl ?_
 simp only [qq,qb,yh,qe,qa,qst,qv,B0,reduceIte,a8]
 refine qs (t:=(decide (a9.Kind=3))) (fun hc330=>?_) (fun hc330=>?_)
 ·rw [iteT hc330] at hF208
  simp only [qyw,qd,qc,f284,qj,B0,reduceIte,a8]
  refine qf (v := .agg [d4,d5]) ((zq (a0d _ _ _ hS289)).trans rfl) ?_
  simp only [f285,qj,B0,reduceIte,a8]
  refine qf (v := .agg [.int .i64 a9.Kind,.int .i64 a9.K,.int .i64 a9.To,.int .i64 a9.N]) rfl ?_
  obtain ⟨c331,hv332,hS333⟩:=a1a (c:=c211) (os:=c219++(c223)) hv214 rfl hx207 zo (Peer.RI (x:=x206) hv220 hv224) (a07 (c1:=c219) (c2:=c223) (a0i
    (p9 (p9 hS289))))
  have hv334:=a04 hv332
  obtain ⟨v335,hx336,hF337⟩:=qi hF208
  simp only [zp,B0,reduceIte,a8]
  refine qab rfl (qmw hW d8 d4 c331 hv334 d5 d7 e8 a9 v335 hx336 (s9 (p9 hS333))) ?_
  rintro _ h344 ⟨c338,v340,c341,rfl,hv339,hv342,hS345⟩
  simp only [qek,qb,qe7,qey,f286,zd,B0,reduceIte,a8]
  refine qz (us:=[d4,v340]) rfl (cs':=[d4,
    v340]) (p9 hS345) hW rfl (qk (a0j hv339) (qk (a0j hv342) zl)) (nle rfl) rfl (fun h346 hS347=>?_)
  simp only [qe,qa,qx,B0,reduceIte,a8]
  have he:=qg hF337
  subst he
  refine jf (qp (jk (bb:=b9) (oo:=0) (v := .agg [d4,
    v340]) (f286) ((zq (a0d _ _ _ hS347)).trans rfl)) (qp (kp (v := .bool v335.2) (rfl)) zm)) ?_
  exact ⟨c338,v340,c341,by first | trivial | rfl,hv339,(SlN.toA hv342 Mail.RO.len),(s9 (s9 (a0g (o8 (a0g (hS347))))))⟩
 rw [iteF hc330] at hF208
 simp only [qvq,qd,qc,f285,ql,qb,n7,n8,n9,qn,qj,B0,reduceIte,a8]
 refine qf (v := .int .i64 a9.Kind) rfl ?_
 simp only [qq,qb,yh,qe,qa,qx2,qv,B0,reduceIte,a8]
 refine qs (t:=(decide (a9.Kind=7))) (fun hc348=>?_) (fun hc348=>?_)
 ·rw [iteT hc348] at hF208
  simp only [qxl,qd,qc,f284,qj,B0,reduceIte,a8]
  refine qf (v := .agg [d4,d5]) ((zq (a0d _ _ _ hS289)).trans rfl) ?_
  simp only [f285,ql,qb,n7,n8,n9,qn,qj,B0,reduceIte,a8]
  refine qf (v := .int .i64 a9.K) rfl ?_
  simp only [f285,ql,qb,n7,n8,n9,qn,qj,B0,reduceIte,a8]
  refine qf (v := .int .i64 a9.N) rfl ?_
  obtain ⟨c349,hv350,hS351⟩:=a1a (c:=c211) (os:=c219++(c223)) hv214 rfl hx207 zo (Peer.RI (x:=x206) hv220 hv224) (a07 (c1:=c219) (c2:=c223) (a0i
    (p9 (p9 hS289))))
  have hv352:=a04 hv350
  obtain ⟨v353,hx354,hF355⟩:=qi hF208
  simp only [zp,B0,reduceIte,a8]
  refine qab rfl (qk0 hW d8 d4 c349 hv352 d5 d7 e8 a9.K a9.N v353 hx354 (s9 (p9 hS351))) ?_
  rintro _ h360 ⟨c356,c358,rfl,hv357,hv359,hS361⟩
  simp only [qek,qb,qe7,qey,f286,zd,B0,reduceIte,a8]
  refine qz (us:=[d4,d5]) rfl (cs':=[d4,
    d5]) (p9 hS361) hW rfl (qk (a0j hv357) (qk (a0j hv359) zl)) (nle rfl) rfl (fun h362 hS363=>?_)
  simp only [qe,qa,qx,B0,reduceIte,a8]
  have he:=qg hF355
  subst he
  refine jf (qp (jk (bb:=b9) (oo:=0) (v := .agg [d4,
    d5]) (f286) ((zq (a0d _ _ _ hS363)).trans rfl)) (qp (kp (v := .bool v353.2) (rfl)) zm)) ?_
  exact ⟨c356,d5,c358,by first | trivial | rfl,hv357,(SlN.toA hv359 Mail.RO.len),(s9 (s9 (a0g (o8 (a0g (hS363))))))⟩
 rw [iteF hc348] at hF208
 simp only [qw,kg,qd,qc,f284,qj,B0,reduceIte,a8]
 refine qf (v := .agg [d4,d5]) ((zq (a0d _ _ _ hS289)).trans rfl) ?_
 simp only [f286,zd,B0,reduceIte,a8]
 refine qz (us:=[d4,d5]) rfl (cs':=[d4,
   d5]) (s9 hS289) hW rfl (qk (a3c hv214) (qk (a0j e8) zl)) (nle rfl) rfl (fun h364 hS365=>?_)
 simp only [qe,qa,qx,B0,reduceIte,a8]
 obtain ⟨c366,hv367,hS368⟩:=a1a (c:=c211) (os:=c219++(c223)) hv214 rfl hx207 zo (Peer.RI (x:=x206) hv220 hv224) (a07 (c1:=c219) (c2:=c223) (a0i
   (p9 (p9 hS365))))
 have hv369:=a04 hv367
 have he:=qg hF208
 subst he
 refine jf (qp (jk (bb:=b9) (oo:=0) (v := .agg [d4,
   d5]) (f286) ((zq (a0d _ _ _ (s9 hS368))).trans rfl)) (qp (kp (v := .bool false) (rfl)) zm)) ?_
 exact ⟨c366,d5,d7,by first | trivial | rfl,hv369,(SlN.toA e8 Mail.RO.len),(s9 (s9 (a0g (s9 (a0g (s9 hS368))))))⟩
end Go.Proofs.Ytanblnjomhgphaa.X
namespace Go.Proofs.Ytanblnjomhgphaa.X
open Go
theorem qjb {W:Nat→Bool}{h:Heap} (hW:∀ b,
  (geL h.length) b→W b=true) (r_0:Raft) (r:Raft) (hF:qcr r_0=some r) : Ret E W 48 [.agg [lst ze r_0.Peers,
  lst zc r_0.Mail]] h (fun v h'=>∃ i8 g9 i2 i0,v = .agg [i8,
  i2]∧SlN Peer.R 5 43 i8 r.Peers g9∧SlN Mail.R 9 86 i2 r.Mail i0∧Sep h' (geL h.length) (g9++(i0++([])))):=by
 refine Ret.of (fn:=x48) rfl (Run.of ?_)
 unfold qcr at hF
 have zf0:zf [.agg [lst ze r_0.Peers,lst zc r_0.Mail]] 0 = .agg [lst ze r_0.Peers,lst zc r_0.Mail]:=rfl
 generalize zf [.agg [lst ze r_0.Peers,lst zc r_0.Mail]]=fr0 at zf0 ⊢
 have hS:Sep h (geL h.length) []:=a1x h
 simp only [x48,qd,qc,kt,zf0,B0,reduceIte,a8]
 refine j0 (cs:=[lst ze r_0.Peers,lst zc r_0.Mail]) hS rfl rfl rfl (fun b1 h2 hS3=>?_)
 simp only [jm,B0,reduceIte,a8]
 refine z3 hS3 (fun b5 h6 hS7=>?_)
 simp only [qa,B0,reduceIte,a8]
 refine z8 (s9 hS7) hW (by simp only [B0,reduceIte,a8]) (fun h9 hS10=>?_)
 simp only [z7,qzb,qd,qc,jm,B0,reduceIte,a8]
 refine z3 hS10 (fun b11 h12 hS13=>?_)
 simp only [qa,qt9,qd,qc,ql,qb,n7,n8,n9,qn,qj,B0,reduceIte,a8]
 refine qf (v:=lst ze r_0.Peers) rfl ?_
 simp only [zr,qb,ja,qe,qa,B0,reduceIte,a8]
 obtain ⟨oc27,hX29,hk30⟩:=jz hF
 simp only [q5u]
 refine qao (σ:=Raft) r_0.Peers (fun i25 x26 s107=>qbv i25 x26 s107) (fun s fr' h'=>∃ v22 c23,fr' 1 = .ref [lst ze r_0.Peers,
   lst zc r_0.Mail] 0∧fr' 2 = .ptr b5 0∧fr' 3 = .ptr b11 0∧fr' 9=lst ze r_0.Peers∧SlN Peer.R 5 43 v22 s.Peers c23∧Sep h' (geL h.length)
   ([Blk1 b5 [.nil,.nil] 29]++([Blk1 b11 [v22,.nil] 29]++(c23++([]))))) hX29 ⟨.nil,[],rfl,rfl,rfl,rfl,a2o,
   ((s9 hS13) : Sep _ (geL h.length) ([Blk1 b5 [.nil,.nil] 29]++([Blk1 b11 [.nil,.nil] 29]++([]))))⟩ (by simp only [B0,reduceIte,a8]) (by simp only [B0,
   reduceIte,a8]) (fun _ _ _ h=>h) rfl rfl (fun _ _ _ _ h=>h) (fun _ _ _ _ h=>h) (fun _ _ _ _ h=>h) (by decide) ?_ ?_
 ·rintro i25 x26 s20 fr39 h40 hx46 ⟨v22,c23,f42,f43,f44,f45,hv24,hS41⟩ f47 f48 oc28 hF31 hr32 Q33 hN34 hB38 hK35 hR36 hE37
  unfold qbv at hF31
  simp only [q5j,qd,qc,f45,f47,zu,B0,reduceIte,a8]
  refine qf (v := .ref (ze x26) 0) (qam hx46 rfl) ?_
  simp only [qj,B0,reduceIte,a8]
  refine qf (v := .agg [.int .i64 x26.Term,.bool x26.Leads,lst qt x26.Log,.int .i64 x26.Commit,lst cI x26.Match]) rfl ?_
  simp only [jm,B0,reduceIte,a8]
  refine z3 hS41 (fun b49 h50 hS51=>?_)
  simp only [zd,B0,reduceIte,a8]
  refine qz (us:=[.int .i64 x26.Term,.bool x26.Leads,lst qt x26.Log,.int .i64 x26.Commit,lst cI x26.Match]) rfl (cs':=[.int .i64 x26.Term,
    .bool x26.Leads,lst qt x26.Log,.int .i64 x26.Commit,lst cI x26.Match]) hS51 hW rfl rfl (nle rfl) rfl (fun h53 hS54=>?_)
  simp only [qa,q2w,qd,qc,kc,evp,B0,reduceIte,a8]
  refine ku (n:=2) (f:=qt) ([] : List Entry) hS54 rfl rfl (fun v55 c56 h57 hv58 hS59=>?_)
  simp only [ql,qb,n7,n8,n9,qu,qj,B0,reduceIte,a8]
  refine qf (v:=lst qt x26.Log) ((jb (a0d _ _ _ (s9 hS59))).trans rfl) ?_
  simp only [wc,B0,reduceIte,a8]
  obtain ⟨l61,hx62,hF63⟩:=qi hF31
  refine ws (f:=qt) hv58 hS59 hW (fun _=>rfl) (fun _=>rfl) (qct (fun _=>rfl)) hx62 (fun v64 c65 h66 hv67 hS68=>?_)
  simp only [ql,qb,n7,n8,n9,qu,zd,B0,reduceIte,a8]
  refine qz (us:=[v64]) (jj (a0t hv67)) (cs':=[.int .i64 x26.Term,.bool x26.Leads,v64,.int .i64 x26.Commit,
    lst cI x26.Match]) (s9 hS68) hW rfl (qk (a0t hv67) zl) (nle rfl) rfl (fun h70 hS71=>?_)
  simp only [qa,q97,qd,qc,kc,evp,B0,reduceIte,a8]
  refine ku (n:=1) (f:=cI) ([] : List Int) hS71 rfl rfl (fun v72 c73 h74 hv75 hS76=>?_)
  simp only [ql,qb,n7,n8,n9,qu,qj,B0,reduceIte,a8]
  refine qf (v:=lst cI x26.Match) ((jb (a0d _ _ _ (s9 hS76))).trans rfl) ?_
  simp only [wc,B0,reduceIte,a8]
  obtain ⟨l78,hx79,hF80⟩:=qi hF63
  refine ws (f:=cI) hv75 hS76 hW (fun _=>rfl) (fun _=>rfl) (qct (fun _=>rfl)) hx79 (fun v81 c82 h83 hv84 hS85=>?_)
  simp only [ql,qb,n7,n8,n9,qu,zd,B0,reduceIte,a8]
  refine qz (us:=[v81]) (jj (a0t hv84)) (cs':=[.int .i64 x26.Term,.bool x26.Leads,v64,.int .i64 x26.Commit,
    v81]) (s9 hS85) hW rfl (qk (a0t hv84) zl) (nle rfl) rfl (fun h87 hS88=>?_)
  simp only [qa,q91,qc,f44,ql,qb,n7,n8,n9,qu,qj,B0,reduceIte,a8]
  refine qf (v:=v22) ((jb (a0d _ _ _ (a0i hS88))).trans rfl) ?_
  simp only [qj,B0,reduceIte,a8]
  refine qf (v := .agg [.int .i64 x26.Term,.bool x26.Leads,v64,.int .i64 x26.Commit,v81]) ((zq (a0d _ _ _ hS88)).trans rfl) ?_
  simp only [kc,evp,B0,reduceIte,a8]
  refine uc (R:=Peer.R) (n:=5) (cs:=[.int .i64 x26.Term,.bool x26.Leads,v64,.int .i64 x26.Commit,
    v81]) (os:=c65++(c82)) (Sep.bi2 (c1:=c65) (c2:=c82) (o8 (s9 hS88))) (qd1 (us:=[.int .i64 x26.Term,.bool x26.Leads,v64,.int .i64 x26.Commit,
    v81]) (vs:=[.int .i64 x26.Term,.bool x26.Leads,v64,.int .i64 x26.Commit,
    v81]) rfl rfl (nle rfl) (qk rfl (qk rfl (qk (a0t hv67) (qk rfl (qk (a0t hv84) zl))))) rfl qd2) (Peer.RI (x :=
    (Peer.mk x26.Term x26.Leads l61 x26.Commit l78)) hv67 hv84) rfl (fun v89 c90 h91 hv92 hS93=>?_)
  simp only [wc,B0,reduceIte,a8]
  obtain ⟨l95,hx96,hF97⟩:=qi hF80
  refine qa6 (R:=Peer.R) (c:=c23) hv24 hv92 (a0i hS93) hW Peer.RO.len Peer.RO.one hx96 (fun v98 c99 h100 hv101 hS102=>?_)
  simp only [f44,ql,qb,n7,n8,n9,qu,zd,B0,reduceIte,a8]
  refine qz (us:=[v98]) (jj (a0j hv101)) (cs':=[v98,.nil]) (p9 hS102) hW rfl (qk (a0j hv101) zl) (nle rfl) rfl (fun h104 hS105=>?_)
  simp only [qa,qr,B0,reduceIte,a8]
  have e106:=qg hF97
  exact hN34 _ _ _ e106.symm ⟨v98,c99,f42,f43,f44,f45,hv101,(o8 (s9 (s9 (a0g (o8 hS105)))))⟩ (f47) (f48)
 rintro s108 fr113 h114 rfl ⟨v110,c111,f116,f117,f118,f119,hv112,hS115⟩
 dsimp only [jnO] at hk30
 unfold qfp at hk30
 simp only [qsg,qd,qc,f116,ql,qb,n7,n8,n9,qn,qj,B0,reduceIte,a8]
 refine qf (v:=lst zc r_0.Mail) rfl ?_
 simp only [zr,qb,ja,qe,qa,B0,reduceIte,a8]
 obtain ⟨oc132,hX134,hk135⟩:=jz hk30
 simp only [qvv]
 refine qao (σ:=Raft) r_0.Mail (fun i130 x131 s194=>qbz s108 i130 x131 s194) (fun s fr' h'=>∃ v127 c128,
   fr' 2 = .ptr b5 0∧fr' 3 = .ptr b11 0∧fr' 33=lst zc r_0.Mail∧SlN Mail.R 9 86 v127 s.Mail c128∧Sep h' (geL h.length) ([Blk1 b5 [.nil,
   .nil] 29]++([Blk1 b11 [v110,v127] 29]++(c111++(c128++([])))))) hX134 ⟨.nil,[],f117,f118,rfl,a2o,
   ((o8 (o8 (o8 hS115))) : Sep _ (geL h.length) ([Blk1 b5 [.nil,.nil] 29]++([Blk1 b11 [v110,.nil] 29]++(c111++([])))))⟩ (by simp only [B0,reduceIte,
   a8]) (by simp only [B0,reduceIte,a8]) (fun _ _ _ h=>h) rfl rfl (fun _ _ _ _ h=>h) (fun _ _ _ _ h=>h) (fun _ _ _ _ h=>h) (by decide) ?_ ?_
 ·rintro i130 x131 s125 fr144 h145 hx150 ⟨v127,c128,f147,f148,f149,hv129,hS146⟩ f151 f152 oc133 hF136 hr137 Q138 hN139 hB143 hK140 hR141 hE142
  unfold qbz at hF136
  simp only [q7l,qd,qc,f149,f151,zu,B0,reduceIte,a8]
  refine qf (v := .ref (zc x131) 0) (qam hx150 rfl) ?_
  simp only [qj,B0,reduceIte,a8]
  refine qf (v := .agg [.bool x131.Reply,.int .i64 x131.From,.int .i64 x131.To,.int .i64 x131.Term,.int .i64 x131.Prev,.int .i64 x131.PTerm,
    lst qt x131.Entry,.int .i64 x131.Commit,.int .i64 x131.Match]) rfl ?_
  simp only [jm,B0,reduceIte,a8]
  refine z3 hS146 (fun b153 h154 hS155=>?_)
  simp only [zd,B0,reduceIte,a8]
  refine qz (us:=[.bool x131.Reply,.int .i64 x131.From,.int .i64 x131.To,.int .i64 x131.Term,.int .i64 x131.Prev,.int .i64 x131.PTerm,lst qt x131.Entry,
    .int .i64 x131.Commit,.int .i64 x131.Match]) rfl (cs':=[.bool x131.Reply,.int .i64 x131.From,.int .i64 x131.To,.int .i64 x131.Term,.int .i64 x131.Prev,
    .int .i64 x131.PTerm,lst qt x131.Entry,.int .i64 x131.Commit,.int .i64 x131.Match]) hS155 hW rfl rfl (nle rfl) rfl (fun h157 hS158=>?_)
  simp only [qa,q66,qd,qc,kc,evp,B0,reduceIte,a8]
  refine ku (n:=2) (f:=qt) ([] : List Entry) hS158 rfl rfl (fun v159 c160 h161 hv162 hS163=>?_)
  simp only [ql,qb,n7,n8,n9,qu,qj,B0,reduceIte,a8]
  refine qf (v:=lst qt x131.Entry) ((jb (a0d _ _ _ (s9 hS163))).trans rfl) ?_
  simp only [wc,B0,reduceIte,a8]
  obtain ⟨l165,hx166,hF167⟩:=qi hF136
  refine ws (f:=qt) hv162 hS163 hW (fun _=>rfl) (fun _=>rfl) (qct (fun _=>rfl)) hx166 (fun v168 c169 h170 hv171 hS172=>?_)
  simp only [ql,qb,n7,n8,n9,qu,zd,B0,reduceIte,a8]
  refine qz (us:=[v168]) (jj (a0t hv171)) (cs':=[.bool x131.Reply,.int .i64 x131.From,.int .i64 x131.To,.int .i64 x131.Term,.int .i64 x131.Prev,
    .int .i64 x131.PTerm,v168,.int .i64 x131.Commit,.int .i64 x131.Match]) (s9 hS172) hW rfl (qk (a0t hv171) zl) (nle rfl) rfl (fun h174 hS175=>?_)
  simp only [qa,q7m,qc,f148,ql,qb,n7,n8,n9,qu,qj,B0,reduceIte,a8]
  refine qf (v:=v127) ((jb (a0d _ _ _ (p9 hS175))).trans rfl) ?_
  simp only [qj,B0,reduceIte,a8]
  refine qf (v := .agg [.bool x131.Reply,.int .i64 x131.From,.int .i64 x131.To,.int .i64 x131.Term,.int .i64 x131.Prev,.int .i64 x131.PTerm,v168,
    .int .i64 x131.Commit,.int .i64 x131.Match]) ((zq (a0d _ _ _ hS175)).trans rfl) ?_
  simp only [kc,evp,B0,reduceIte,a8]
  refine uc (R:=Mail.R) (n:=9) (cs:=[.bool x131.Reply,.int .i64 x131.From,.int .i64 x131.To,.int .i64 x131.Term,.int .i64 x131.Prev,.int .i64 x131.PTerm,
    v168,.int .i64 x131.Commit,.int .i64 x131.Match]) (os:=c169) (s9 hS175) (qd1 (us:=[.bool x131.Reply,.int .i64 x131.From,.int .i64 x131.To,
    .int .i64 x131.Term,.int .i64 x131.Prev,.int .i64 x131.PTerm,v168,.int .i64 x131.Commit,.int .i64 x131.Match]) (vs:=[.bool x131.Reply,.int .i64 x131.From,
    .int .i64 x131.To,.int .i64 x131.Term,.int .i64 x131.Prev,.int .i64 x131.PTerm,v168,.int .i64 x131.Commit,
    .int .i64 x131.Match]) rfl rfl (nle rfl) (qk rfl (qk rfl (qk rfl (qk rfl (qk rfl (qk rfl (qk (a0t hv171) (qk rfl
    (qk rfl zl))))))))) rfl qd2) (Mail.RI (x:=(Mail.mk x131.Reply x131.From x131.To x131.Term x131.Prev x131.PTerm l165 x131.Commit x131.Match)) hv171) rfl
    (fun v176 c177 h178 hv179 hS180=>?_)
  simp only [wc,B0,reduceIte,a8]
  obtain ⟨l182,hx183,hF184⟩:=qi hF167
  refine qa6 (R:=Mail.R) (c:=c128) hv129 hv179 (v3 hS180) hW Mail.RO.len Mail.RO.one hx183 (fun v185 c186 h187 hv188 hS189=>?_)
  simp only [f148,ql,qb,n7,n8,n9,qu,zd,B0,reduceIte,a8]
  refine qz (us:=[v185]) (jj (a0j hv188)) (cs':=[v110,v185]) (p9 hS189) hW rfl (qk (a0j hv188) zl) (nle rfl) rfl (fun h191 hS192=>?_)
  simp only [qa,qr,B0,reduceIte,a8]
  have e193:=qg hF184
  exact hN139 _ _ _ e193.symm ⟨v185,c186,f147,f148,f149,hv188,(p9 (o8 (p9 (s9 (a0g (o8 hS192))))))⟩ (f151) (f152)
 rintro s195 fr200 h201 rfl ⟨v197,c198,f203,f204,f205,hv199,hS202⟩
 dsimp only [jnO] at hk135
 unfold qh7 at hk135
 simp only [qd,qc,f204,qj,B0,reduceIte,a8]
 refine qf (v := .agg [v110,v197]) ((zq (a0d _ _ _ (s9 hS202))).trans rfl) ?_
 simp only [f203,zd,B0,reduceIte,a8]
 refine qz (us:=[v110,v197]) rfl (cs':=[v110,v197]) hS202 hW rfl (qk (a0j hv112) (qk (a0j hv199) zl)) (nle rfl) rfl (fun h206 hS207=>?_)
 simp only [qa,qx,B0,reduceIte,a8]
 have he:=qg hk135
 subst he
 refine ym (bb:=b5) (oo:=0) (v := .agg [v110,v197]) (by simp only [f203,B0,reduceIte,a8]) ((zq (a0d _ _ _ hS207)).trans rfl) ?_
 exact ⟨v110,c111,v197,c198,by first | trivial | rfl,hv112,hv199,(s9 (s9 (a0g ((a0g (hS207))))))⟩
theorem qlu {W:Nat→Bool}{h:Heap} (hW:∀ b,
  (geL h.length) b→W b=true) (k:Nat) (peers_0:Int) (i9:List RaftStep) (r:Raft × (List Bool) × Bool)
  (hF:qck k peers_0 i9=some r) : Ret E W 8 [.int .i64 peers_0,lst zb i9] h (fun v h'=>∃ i8 g9 i2 i0 rv1 rc1,v = .tup [.agg [i8,
  i2],rv1,.bool r.2.2]∧SlN Peer.R 5 43 i8 r.1.Peers g9∧SlN Mail.R 9 86 i2 r.1.Mail i0∧SlF cB 1 4 rv1 r.2.1 rc1∧Sep h' (geL h.length) (g9 ++
  (i0++(rc1++([]))))):=by
 refine Ret.of (fn:=x8) rfl (Run.of ?_)
 unfold qck at hF
 have zf0:zf [.int .i64 peers_0,lst zb i9] 0 = .int .i64 peers_0:=rfl
 have zf1:zf [.int .i64 peers_0,lst zb i9] 1=lst zb i9:=rfl
 generalize zf [.int .i64 peers_0,lst zb i9]=fr0 at zf0 zf1 ⊢
 have hS:Sep h (geL h.length) []:=a1x h
 simp only [x8,qd,qc,jm,B0,reduceIte,a8]
 refine z3 hS (fun b1 h2 hS3=>?_)
 obtain ⟨v5,hx6,hF7⟩:=qi hF
 simp only [qe,qa,q2p,qd,qc,zf0,zp,B0,reduceIte,a8]
 refine qdz rfl hS3 (qp zg zm) (qmp (fun b hb=>decide_eq_true hb) k peers_0 v5 hx6) ?_
 rintro _ h16 ⟨v8,c9,v12,c13,rfl,hv10,hv14,hS17⟩
 refine ⟨_,qjk (qk (qil (qk (a2s hv10) (qk (a2s hv14) zl))) (qk rfl zl)),hS17,
   (yz (SlN.pf hv10 Peer.RO) (yz (SlN.pf hv14 Mail.RO) qb4)),fun h18 hS19=>?_⟩
 have hS20:Sep h18 (geL h.length) (c9++(c13++([Blk1 b1 [.nil,.nil] 29]++([])))):=by simpa only [r9,a0y] using hS19
 simp only [qe,qek,qb,qe7,qey,jm,B0,reduceIte,a8]
 refine z3 hS20 (fun b21 h22 hS23=>?_)
 simp only [zd,B0,reduceIte,a8]
 refine qz (us:=[v8,v12]) rfl (cs':=[v8,v12]) hS23 hW rfl (qk (a0j hv10) (qk (a0j hv14) zl)) (nle rfl) rfl (fun h25 hS26=>?_)
 simp only [qe,qa,q5r,qd,qc,yk,qb,yw,B0,reduceIte,a8]
 refine ki 4 (fun fr' h'=>Sep h' (geL h.length) ([Blk1 b1 [.nil,.nil] 29]++([Blk1 b21 [v8,
   v12] 29]++(c9++(c13++([])))))∧fr' 25 = .bool ((!v5.2)||(decide ((100:Int) <
   (o6 i9:Int))))∧fr' 1=lst zb i9∧fr' 4 = .ptr b1 0∧fr' 7 = .ptr b21 0) (fun Q27 hN28=>?_) ?_
 ·simp only [r8,t8]
  simp only [qm (g:=21),B0,reduceIte,a8]
  refine zv (t:=(!v5.2)) (fun hg29=>?_) (fun hg29=>?_)
  ·simp only [hg29,qm (g:=21),jp,zk,qb,z1,qa,qr,B0,reduceIte,a8]
   exact hN28 _ _ ⟨(p9 (o8 (o8 (o8 hS26)))),by rw [orT hg29]; simp only [B0,reduceIte,a8],zf1,rfl,rfl⟩
  ·simp only [hg29,qm (g:=21),zi,zf1,qe,zr,qb,ja,qq,ur,zk,zz,qa,qr,B0,reduceIte,
    a8]
   exact hN28 _ _ ⟨(p9 (o8 (o8 (o8 hS26)))),by rw [orF hg29]; simp only [B0,reduceIte,a8],zf1,rfl,rfl⟩
 rintro fr30 h35 ⟨hS36,f31,f32,f33,f34⟩
 simp only [s5,t6]
 simp only [qa,zbo,f31,qv,B0,reduceIte,a8]
 refine qs (t:=((!v5.2)||(decide ((100:Int)<(o6 i9:Int))))) (fun hc37=>?_) (fun hc37=>?_)
 ·rw [iteT hc37] at hF7
  simp only [zb0,qd,qc,run_build,evp,B0,reduceIte,a8]
  refine qf (v := .agg [.nil,.nil]) rfl ?_
  simp only [f33,zd,B0,reduceIte,a8]
  refine qz (us:=[.nil,.nil]) rfl (cs':=[.nil,.nil]) hS36 hW rfl rfl (nle rfl) rfl (fun h38 hS39=>?_)
  simp only [qe,qa,qx,B0,reduceIte,a8]
  have he:=qg hF7
  subst he
  refine jf (qp (jk (bb:=b1) (oo:=0) (v := .agg [.nil,
    .nil]) (f33) ((zq (a0d _ _ _ hS39)).trans rfl)) (qp (kp (v := .nil) (rfl)) (qp (kp (v := .bool false) (rfl)) zm))) ?_
  exact ⟨.nil,[],.nil,[],.nil,[],by first | trivial | rfl,a2o,a2o,SlF.nil,((a0g ((a0g ((a0g ((a0g (hS39)))))))) : Sep _ (geL h.length) ([]))⟩
 rw [iteF hc37] at hF7
 simp only [qw,q8t,qd,qc,qe,qa,zab,f32,zr,qb,ja,B0,reduceIte,a8]
 obtain ⟨oc70,hX72,hk73⟩:=jz hF7
 simp only [zdo]
 refine qao (σ:=(List Bool) × Raft) i9 (fun i68 x69 s183=>xw k i68 x69 s183.1 s183.2) (fun s fr' h'=>∃ v56 c57 v61 c62 v65 c66,
   fr' 4 = .ptr b1 0∧fr' 7 = .ptr b21 0∧fr' 9=v56∧fr' 27=lst zb i9∧SlF cB 1 4 v56 s.1 c57∧SlN Peer.R 5 43 v61 s.2.Peers c62∧SlA Mail.R 9 86 v65 s.2.Mail c66∧Sep h'
   (geL h.length) ([Blk1 b1 [.nil,.nil] 29]++([Blk1 b21 [v61,v65] 29]++(c57++(c62++(c66++([]))))))) hX72 ⟨.nil,[],v8,c9,v12,c13,f33,f34,rfl,rfl,SlF.nil,
   hv10,(SlN.toA hv14 Mail.RO.len),((p9 (p9 (p9 (p9 hS36)))) : Sep _ (geL h.length) ([Blk1 b1 [.nil,.nil] 29]++([Blk1 b21 [v8,
   v12] 29]++(c9++(c13++([]))))))⟩ (by simp only [B0,reduceIte,a8]) (by simp only [B0,reduceIte,
   a8]) (fun _ _ _ h=>h) rfl rfl (fun _ _ _ _ h=>h) (fun _ _ _ _ h=>h) (fun _ _ _ _ h=>h) (by decide) ?_ ?_
 ·rintro i68 x69 ⟨s54,s59⟩ fr82 h83 hx89 ⟨v56,c57,v61,c62,v65,c66,f85,f86,f87,f88,hv58,hv63,hv67,hS84⟩ f90 f91 oc71 hF74 hr75 Q76 hN77 hB81 hK78 hR79 hE80
  dsimp only at *
  unfold xw at hF74
  simp only [zd0,qd,qc,f88,f90,zu,B0,reduceIte,a8]
  refine qf (v := .ref (zb x69) 0) (qam hx89 rfl) ?_
  simp only [qj,B0,reduceIte,a8]
  refine qf (v := .agg [.int .i64 x69.Kind,.int .i64 x69.K,.int .i64 x69.To,.int .i64 x69.N]) rfl ?_
  simp only [jm,B0,reduceIte,a8]
  refine z3 hS84 (fun b92 h93 hS94=>?_)
  simp only [zd,B0,reduceIte,a8]
  refine qz (us:=[.int .i64 x69.Kind,.int .i64 x69.K,.int .i64 x69.To,.int .i64 x69.N]) rfl (cs':=[.int .i64 x69.Kind,.int .i64 x69.K,.int .i64 x69.To,
    .int .i64 x69.N]) hS94 hW rfl rfl (nle rfl) rfl (fun h96 hS97=>?_)
  simp only [qa,B0,reduceIte,a8]
  refine z8 hS97 hW (by simp only [B0,reduceIte,a8]) (fun h98 hS99=>?_)
  simp only [z7,zcl,qd,z9,zdm,B0,reduceIte,a8]
  refine qlk hS99 (fun b100 h101 hS102=>?_)
  simp only [f86,zh,B0,reduceIte,a8]
  refine qo (v := .agg [v61,v65]) ((zq (a0d _ _ _ (o8 hS102))).trans rfl) ?_
  obtain ⟨v104,hx105,hF106⟩:=qi hF74
  simp only [qkd,B0,reduceIte,a8]
  refine zcv rfl hS102 (qp (yf (qp (a2n hv63 _ (a0i hS102) rfl Peer.RO) (qp (SlA.snap hv67 _ (v3 hS102) rfl Mail.RO) zm))) zm)
    (qjb (fun b hb=>decide_eq_true hb) s59 v104 hx105) ?_
  rintro _ h115 ⟨v107,c108,v111,c112,rfl,hv109,hv113,hS116⟩
  refine ⟨_,ql0 (qk (a2s hv109) (qk (a2s hv113) zl)),hS116,(yz (SlN.pf hv109 Peer.RO) (yz (SlN.pf hv113 Mail.RO) qb4)),
    fun h117 hS118=>?_⟩
  have hS119:Sep h117 (geL h.length) (c108++(c112++([Blk1 b100 [.nil,.nil] 29]++([Blk1 b1 [.nil,.nil] 29]++([Blk1 b21 [v61,
    v65] 29]++(c57++(c62++(c66++([]))))))))):=by simpa only [r9,a0y] using hS118
  simp only [qj0,qj2,B0,reduceIte,a8]
  refine qo (v := .agg [.int .i64 x69.Kind,.int .i64 x69.K,.int .i64 x69.To,.int .i64 x69.N]) rfl ?_
  obtain ⟨v120,hx121,hF122⟩:=qi hF106
  simp only [wm,B0,reduceIte,a8]
  refine zc5 rfl (qmk hW k v104 v107 c108 hv109 v111 c112 hv113 x69 v120 hx121 (s9 (s9 hS119))) ?_
  rintro _ h129 ⟨c123,v125,c126,rfl,hv124,hv127,hS130⟩
  simp only [zx,qh,zcs,qe7,zci,qey,xx,B0,reduceIte,a8]
  refine u9 (us:=[v107,v125]) rfl (cs':=[v107,
    v125]) (o8 hS130) hW rfl (qk (a0j hv124) (qk (SlA.one hv127) zl)) (nle rfl) rfl (fun h131 hS132=>?_)
  simp only [zx,qh,za,B0,reduceIte,a8]
  refine z8 hS132 hW (by simp only [B0,reduceIte,a8]) (fun h133 hS134=>?_)
  simp only [z7,zc7,qd,qc,qe,qa,zcd,qv,B0,reduceIte,a8]
  obtain ⟨s135,hX145,hk146⟩:=qi hF122
  refine xh (t:=v120.2) (fun fr' h'=>∃ v137 c138 v141 c142,
    fr' 4 = .ptr b1 0∧fr' 7 = .ptr b21 0∧fr' 9=v56∧fr' 13 = .bool v120.2∧fr' 27=lst zb i9∧fr' 28 = .int .i64
    (o6 i9:Int)∧fr' 29 = .int .i64 (i68:Int)∧SlN Peer.R 5 43 v137 s135.Peers c138∧SlA Mail.R 9 86 v141 s135.Mail c142∧Sep h' (geL h.length)
    ([Blk1 b1 [.nil,.nil] 29]++([Blk1 b21 [v137,v141] 29]++(c57++(c138++(c142++([]))))))) (fun Q147 hN148 hR149 hE150=>⟨fun hc151=>?_,fun hc151=>?_⟩) ?_
  ·rw [iteT hc151] at hX145
   simp only [qc,qj,B0,reduceIte,a8]
   refine qf (v := .agg [v107,v125]) rfl ?_
   simp only [f86,zd,B0,reduceIte,a8]
   refine qz (us:=[v107,v125]) rfl (cs':=[v107,
     v125]) (p9 hS134) hW rfl (qk (a0j hv124) (qk (SlA.one hv127) zl)) (nle rfl) rfl (fun h152 hS153=>?_)
   simp only [qa,qr,B0,reduceIte,a8]
   have e154:=qg hX145
   subst e154
   exact hN148 _ _ ⟨v107,c123,v125,c126,f85,f86,f87,rfl,f88,f91,f90,hv124,hv127,
     (a0i (p9 (a0i (o8 (o8 (a0g (v3 (a0g (v3 hS153)))))))))⟩
  ·rw [iteF hc151] at hX145
   simp only [qw,qr,B0,reduceIte,a8]
   have e155:=qg hX145
   subst e155
   exact hN148 _ _ ⟨v61,c62,v65,c66,f85,f86,f87,rfl,f88,f91,f90,hv63,hv67,(a0i (a0i (a0i (a0i (a0i (a0g ((a0g (hS134)))))))))⟩
  rintro fr156 h157 ⟨v137,c138,v141,c142,f159,f160,f161,f162,f163,f164,f165,hv139,hv143,hS158⟩
  unfold qcd at hk146
  simp only [zcb,qc,f161,qe,f162,kc,evp,B0,reduceIte,a8]
  refine ku (n:=1) (f:=cB) [v120.2] hS158 rfl rfl (fun v166 c167 h168 hv169 hS170=>?_)
  simp only [wc,B0,reduceIte,a8]
  obtain ⟨l172,hx173,hF174⟩:=qi hk146
  refine ws (f:=cB) hv58 (p9 hS170) hW (fun _=>rfl) (fun _=>rfl) (SlF.first hv169 hS170 (fun _=>rfl)) hx173 (fun v175 c176 h177 hv178 hS179=>?_)
  simp only [qe,qa,qr,B0,reduceIte,a8]
  have e181:=qg hF174
  exact hN77 _ _ _ e181.symm ⟨v175,c176,v137,c138,v141,c142,f159,f160,rfl,f163,hv178,hv139,hv143,
    (a0i (a0i (o8 (a0i (a0i (a0g (s9 hS179)))))))⟩ (f165) (f164)
 rintro ⟨s184,s189⟩ fr198 h199 rfl ⟨v186,c187,v191,c192,v195,c196,f201,f202,f203,f204,hv188,hv193,hv197,hS200⟩
 dsimp only [jnO] at hk73
 dsimp only at *
 unfold qd6 at hk73
 simp only [q9v,qd,qc,f202,qj,B0,reduceIte,a8]
 refine qf (v := .agg [v191,v195]) ((zq (a0d _ _ _ (s9 hS200))).trans rfl) ?_
 obtain ⟨v205,hx206,hF207⟩:=qi hk73
 simp only [zp,B0,reduceIte,a8]
 refine qdz rfl hS200 (qp (yf (qp (a2n hv193 _ (p9 hS200) rfl Peer.RO) (qp (SlA.snap hv197 _ (a0i hS200) rfl Mail.RO) zm))) zm) (qjb
   (fun b hb=>decide_eq_true hb) s189 v205 hx206) ?_
 rintro _ h216 ⟨v208,c209,v212,c213,rfl,hv210,hv214,hS217⟩
 refine ⟨_,ql0 (qk (a2s hv210) (qk (a2s hv214) zl)),hS217,(yz (SlN.pf hv210 Peer.RO) (yz (SlN.pf hv214 Mail.RO) qb4)),fun h218 hS219=>?_⟩
 have hS220:Sep h218 (geL h.length) (c209++(c213++([Blk1 b1 [.nil,.nil] 29]++([Blk1 b21 [v191,
   v195] 29]++(c187++(c192++(c196++([])))))))):=by simpa only [r9,a0y] using hS219
 simp only [f203,qe,f201,zd,B0,reduceIte,a8]
 refine qz (us:=[v208,v212]) rfl (cs':=[v208,v212]) (o8 hS220) hW rfl (qk (a0j hv210) (qk (a0j hv214) zl)) (nle rfl) rfl (fun h221 hS222=>?_)
 simp only [qe,qa,qx,B0,reduceIte,a8]
 have he:=qg hF207
 subst he
 refine jf (qp (jk (bb:=b1) (oo:=0) (v := .agg [v208,
   v212]) (f201) ((zq (a0d _ _ _ hS222)).trans rfl)) (qp (kp (v:=v186) (rfl)) (qp (kp (v := .bool true) (rfl)) zm))) ?_
 exact ⟨v208,c209,v212,c213,v186,c187,by first | trivial | rfl,hv210,hv214,hv188,
   (o8 (o8 (o8 (a0g (p9 (a0g (p9 (a0g (o8 (a0g (hS222)))))))))))⟩
theorem qje {W:Nat→Bool}{h:Heap} (hW:∀ b,
  (geL h.length) b→W b=true) (d6:List RaftStep) (left_1:Int) (r:Int) (hF:qaf d6 left_1=some r) : Ret E W 16 [lst zb d6,
  .int .i64 left_1] h (fun v h'=>cut h.length h' E.sz false 9 v=some (.int .i64 r)):=by
 refine Ret.of (fn:=x16) rfl (Run.of ?_)
 unfold qaf at hF
 have zf0:zf [lst zb d6,.int .i64 left_1] 0=lst zb d6:=rfl
 have zf1:zf [lst zb d6,.int .i64 left_1] 1 = .int .i64 left_1:=rfl
 generalize zf [lst zb d6,.int .i64 left_1]=fr0 at zf0 zf1 ⊢
 have hS:Sep h (geL h.length) []:=a1x h
 simp only [x16,qd,qc,qe,qa,q7h,zf1,zf0,zr,qb,ja,qq,qer,q98,yg,qv,B0,reduceIte,a8]
 refine qs (t:=(decide ((l9 .i64 (left_1 - (o6 d6:Int)))<0))) (fun hc1=>?_) (fun hc1=>?_)
 ·rw [iteT hc1] at hF
  simp only [qd,qc,qe,qa,qx,B0,reduceIte,a8]
  have he:=qg hF
  subst he
  simp only [q9,B0,reduceIte,a8]
  exact rfl
 rw [iteF hc1] at hF
 simp only [qw,qd,qc,qe,qa,qx,B0,reduceIte,a8]
 have he:=qg hF
 subst he
 simp only [q9,B0,reduceIte,a8]
 exact rfl
theorem qj9 {W:Nat→Bool}{h:Heap} (hW:∀ b,
  (geL h.length) b→W b=true) (d6:RaftStep) (r:RaftStep) (hF:some (qa0 d6)=some r) : Ret E W 52 [.agg [.int .i64 d6.Kind,.int .i64 d6.K,
  .int .i64 d6.To,.int .i64 d6.N]] h (fun v h'=>cut h.length h' E.sz false 9 v=some (.agg [.int .i64 r.Kind,.int .i64 r.K,.int .i64 r.To,.int .i64 r.N])):=by
 refine Ret.of (fn:=x52) rfl (Run.of ?_)
 unfold qa0 at hF
 have zf0:zf [.agg [.int .i64 d6.Kind,.int .i64 d6.K,.int .i64 d6.To,.int .i64 d6.N]] 0 = .agg [.int .i64 d6.Kind,.int .i64 d6.K,.int .i64 d6.To,
   .int .i64 d6.N]:=rfl
 generalize zf [.agg [.int .i64 d6.Kind,.int .i64 d6.K,.int .i64 d6.To,.int .i64 d6.N]]=fr0 at zf0 ⊢
 have hS:Sep h (geL h.length) []:=a1x h
 simp only [x52,qd,qc,kt,zf0,B0,reduceIte,a8]
 refine j0 (cs:=[.int .i64 d6.Kind,.int .i64 d6.K,.int .i64 d6.To,.int .i64 d6.N]) hS rfl rfl rfl (fun b1 h2 hS3=>?_)
 simp only [jm,B0,reduceIte,a8]
 refine z3 hS3 (fun b5 h6 hS7=>?_)
 simp only [qa,B0,reduceIte,a8]
 refine z8 (s9 hS7) hW (by simp only [B0,reduceIte,a8]) (fun h9 hS10=>?_)
 simp only [z7,q8k,qd,qc,jm,B0,reduceIte,a8]
 refine z3 hS10 (fun b11 h12 hS13=>?_)
 simp only [qa,q1p,qd,qc,ql,qb,n7,n8,n9,qn,qj,B0,reduceIte,a8]
 refine qf (v := .int .i64 d6.Kind) rfl ?_
 simp only [ql,qb,n7,n8,n9,qu,zd,B0,reduceIte,a8]
 refine qz (us:=[.int .i64 d6.Kind]) rfl (cs':=[.int .i64 d6.Kind,.int .i64 0,.int .i64 0,.int .i64 0]) hS13 hW rfl rfl (nle rfl) rfl (fun h15 hS16=>?_)
 simp only [qa,q7a,qd,qc,ql,qb,n7,n8,n9,qn,qj,B0,reduceIte,a8]
 refine qf (v := .int .i64 d6.K) rfl ?_
 simp only [ql,qb,n7,n8,n9,qu,zd,B0,reduceIte,a8]
 refine qz (us:=[.int .i64 d6.K]) rfl (cs':=[.int .i64 d6.Kind,.int .i64 d6.K,.int .i64 0,.int .i64 0]) hS16 hW rfl rfl (nle rfl) rfl (fun h17 hS18=>?_)
 simp only [qa,q8s,qd,qc,ql,qb,n7,n8,n9,qn,qj,B0,reduceIte,a8]
 refine qf (v := .int .i64 d6.To) rfl ?_
 simp only [ql,qb,n7,n8,n9,qu,zd,B0,reduceIte,a8]
 refine qz (us:=[.int .i64 d6.To]) rfl (cs':=[.int .i64 d6.Kind,.int .i64 d6.K,.int .i64 d6.To,.int .i64 0]) hS18 hW rfl rfl (nle rfl) rfl (fun h19 hS20=>?_)
 simp only [qa,q82,qd,qc,ql,qb,n7,n8,n9,qn,qj,B0,reduceIte,a8]
 refine qf (v := .int .i64 d6.N) rfl ?_
 simp only [ql,qb,n7,n8,n9,qu,zd,B0,reduceIte,a8]
 refine qz (us:=[.int .i64 d6.N]) rfl (cs':=[.int .i64 d6.Kind,.int .i64 d6.K,.int .i64 d6.To,
   .int .i64 d6.N]) hS20 hW rfl rfl (nle rfl) rfl (fun h21 hS22=>?_)
 simp only [qa,qd,qc,qj,B0,reduceIte,a8]
 refine qf (v := .agg [.int .i64 d6.Kind,.int .i64 d6.K,.int .i64 d6.To,.int .i64 d6.N]) ((zq (a0d _ _ _ hS22)).trans rfl) ?_
 simp only [zd,B0,reduceIte,a8]
 refine qz (us:=[.int .i64 d6.Kind,.int .i64 d6.K,.int .i64 d6.To,.int .i64 d6.N]) rfl (cs':=[.int .i64 d6.Kind,.int .i64 d6.K,.int .i64 d6.To,
   .int .i64 d6.N]) (s9 hS22) hW rfl rfl (nle rfl) rfl (fun h23 hS24=>?_)
 simp only [qa,qx,B0,reduceIte,a8]
 have he:=qg hF
 subst he
 refine ym (bb:=b5) (oo:=0) (v := .agg [.int .i64 d6.Kind,.int .i64 d6.K,.int .i64 d6.To,.int .i64 d6.N]) (by simp only [B0,reduceIte,
   a8]) ((zq (a0d _ _ _ hS24)).trans rfl) ?_
 exact (za3 (qp rfl (qp rfl (qp rfl (qp rfl zm)))))
theorem qa2 {W:Nat→Bool}{h:Heap} (hW:∀ b,
  (geL h.length) b→W b=true) (k:Nat) (d6:List RaftStep) (r:List RaftStep) (hF:wh k d6=some r) : Ret E W 17 [lst zb d6] h
  (fun v h'=>∃ rv0 rc0,v=rv0∧SlF zb 4 57 rv0 r rc0∧Sep h' (geL h.length) (rc0++([]))):=by
 refine Ret.of (fn:=x17) rfl (Run.of ?_)
 unfold wh at hF
 have zf0:zf [lst zb d6] 0=lst zb d6:=rfl
 generalize zf [lst zb d6]=fr0 at zf0 ⊢
 have hS:Sep h (geL h.length) []:=a1x h
 obtain ⟨l1,hx2,hF3⟩:=qi hF
 simp only [x17,qd,qc,qe,qa,q4f,zf0,zr,qb,ja,qj3,B0,reduceIte,a8]
 refine qf0 (f:=zb) (z:=(RaftStep.mk (0:Int) (0:Int) (0:Int) (0:Int))) hS hx2 rfl (fun v4 c5 h6 hv7 hS8=>?_)
 simp only [qe,qa,q16,qd,qc,B0,reduceIte,a8]
 obtain ⟨oc20,hX22,hk23⟩:=jz hF3
 simp only [q93]
 refine wg (σ:=Int × (List RaftStep)) (fun s55=>xn d6 s55.1 s55.2) (fun s fr' h'=>∃ c16,
   fr' 0=lst zb d6∧fr' 3=v4∧fr' 4 = .int .i64 s.1∧SlF zb 4 57 v4 s.2 c16∧Sep h' (geL h.length) (c16++([]))) hX22 ⟨c5,zf0,rfl,rfl,hv7,
   hS8⟩ (fun _ _ _ h=>h) ?_ ?_
 ·rintro ⟨s14,s15⟩ fr32 h33 ⟨c16,f35,f36,f37,hv17,hS34⟩ oc21 hF24 hr25 Q26 hN27 hK28 hR29 hE30
  dsimp only at *
  unfold xn at hF24
  simp only [q9e,qd,qc,f37,qe,f35,zr,qb,ja,qq,yg,qa,qv,B0,reduceIte,a8]
  refine qs (t:=(decide (s14<(o6 d6:Int)))) (fun hc39=>?_) (fun hc39=>?_)
  ·rw [iteT hc39] at hF24
   obtain ⟨x40,hx41,hF42⟩:=qi hF24
   simp only [qw,q2x,qd,j5,q3d,qc,f36,qe,f37,f35,zu,B0,reduceIte,a8]
   refine qf (v := .ref (zb x40) 0) (j9 hx41 rfl) ?_
   simp only [qj,B0,reduceIte,a8]
   refine qf (v := .agg [.int .i64 x40.Kind,.int .i64 x40.K,.int .i64 x40.To,.int .i64 x40.N]) rfl ?_
   simp only [zp,B0,reduceIte,a8]
   refine kh rfl (qp (yf (qp zg (qp zg (qp zg (qp zg zm))))) zm) (qj9
     (fun b hb=>decide_eq_true hb) x40 _ rfl) ?_
   obtain ⟨x43,hx44,hF45⟩:=qi hF42
   simp only [zu,B0,reduceIte,a8]
   obtain ⟨b46,hb47⟩:=SlF.isrow hv17 (jq hx44)
   refine qf (SlF.ia hv17 hb47 hx44) ?_
   simp only [zd,B0,reduceIte,a8]
   refine uq (f:=zb) (x':=(qa0 x40)) (o:=0) hv17 hS34 hW hb47 hx44 (fun _=>rfl) rfl rfl (nle rfl) rfl (fun c50 h48 hv51 hS49=>?_)
   have hx52:=jl (x':=(qa0 x40)) hx44
   simp only [qa,kg,qc,f37,qe,qq,qb,j8,qr,B0,reduceIte,a8]
   have e53:=qg hF45
   exact hN27 _ _ _ e53.symm ⟨c50,f35,f36,rfl,hv51,hS49⟩
  rw [iteF hc39] at hF24
  simp only [yn,yl,y8,B0,reduceIte,a8]
  have e54:=qg hF24
  exact hK28 _ _ _ e54.symm ⟨c16,f35,f36,f37,hv17,hS34⟩
 rintro ⟨s56,s57⟩ fr60 h61 rfl ⟨c58,f63,f64,f65,hv59,hS62⟩
 dsimp only [jnO] at hk23
 dsimp only at *
 unfold qe9 at hk23
 simp only [qd,qc,f64,qe,qa,qx,B0,reduceIte,a8]
 have he:=qg hk23
 subst he
 simp only [q9,B0,reduceIte,a8]
 exact ⟨v4,c58,by first | trivial | rfl,hv59,hS62⟩
theorem qmn {W:Nat→Bool}{h:Heap} (hW:∀ b,
  (geL h.length) b→W b=true) (d6:Entry) (d9:Entry) (r:Bool) (hF:qc2 d6 d9=some r) : Ret E W 107 [.agg [.int .i64 d6.Term,.int .i64 d6.Value],
  .agg [.int .i64 d9.Term,.int .i64 d9.Value]] h (fun v h'=>cut h.length h' E.sz false 9 v=some (.bool r)):=by
 refine Ret.of (fn:=qrp) rfl (Run.of ?_)
 unfold qc2 at hF
 have zf0:zf [.agg [.int .i64 d6.Term,.int .i64 d6.Value],.agg [.int .i64 d9.Term,.int .i64 d9.Value]] 0 = .agg [.int .i64 d6.Term,.int .i64 d6.Value]:=rfl
 have zf1:zf [.agg [.int .i64 d6.Term,.int .i64 d6.Value],.agg [.int .i64 d9.Term,.int .i64 d9.Value]] 1 = .agg [.int .i64 d9.Term,.int .i64 d9.Value]:=rfl
 generalize zf [.agg [.int .i64 d6.Term,.int .i64 d6.Value],.agg [.int .i64 d9.Term,.int .i64 d9.Value]]=fr0 at zf0 zf1 ⊢
 have hS:Sep h (geL h.length) []:=a1x h
 simp only [qrp,qd,qc,kt,zf0,B0,reduceIte,a8]
 refine j0 (cs:=[.int .i64 d6.Term,.int .i64 d6.Value]) hS rfl rfl rfl (fun b1 h2 hS3=>?_)
 simp only [kt,zf1,B0,reduceIte,a8]
 refine j0 (cs:=[.int .i64 d9.Term,.int .i64 d9.Value]) hS3 rfl rfl rfl (fun b5 h6 hS7=>?_)
 simp only [qe,qa,B0,reduceIte,a8]
 refine z8 (s9 hS7) hW (by simp only [B0,reduceIte,a8]) (fun h9 hS10=>?_)
 refine z8 hS10 hW (by simp only [B0,reduceIte,a8]) (fun h11 hS12=>?_)
 simp only [z7,qr0,qd,qc,ql,qb,n7,n8,n9,qn,qj,B0,reduceIte,a8]
 refine qf (v := .int .i64 d6.Term) rfl ?_
 simp only [ql,qb,n7,n8,n9,qn,qj,B0,reduceIte,a8]
 refine qf (v := .int .i64 d9.Term) rfl ?_
 simp only [qq,qb,ya,qa,qv,B0,reduceIte,a8]
 refine qs (t:=(decide (d6.Term≠d9.Term))) (fun hc13=>?_) (fun hc13=>?_)
 ·rw [iteT hc13] at hF
  simp only [qd,qc,qe,qa,qx,B0,reduceIte,a8]
  have he:=qg hF
  subst he
  simp only [q9,B0,reduceIte,a8]
  exact rfl
 rw [iteF hc13] at hF
 simp only [qw,qzk,qd,qc,ql,qb,n7,n8,n9,qn,qj,B0,reduceIte,a8]
 refine qf (v := .int .i64 d6.Value) rfl ?_
 simp only [ql,qb,n7,n8,n9,qn,qj,B0,reduceIte,a8]
 refine qf (v := .int .i64 d9.Value) rfl ?_
 simp only [qq,qb,ya,qa,qv,B0,reduceIte,a8]
 refine qs (t:=(decide (d6.Value≠d9.Value))) (fun hc14=>?_) (fun hc14=>?_)
 ·rw [iteT hc14] at hF
  simp only [qd,qc,qe,qa,qx,B0,reduceIte,a8]
  have he:=qg hF
  subst he
  simp only [q9,B0,reduceIte,a8]
  exact rfl
 rw [iteF hc14] at hF
 simp only [qw,qd,qc,qe,qa,qx,B0,reduceIte,a8]
 have he:=qg hF
 subst he
 simp only [q9,B0,reduceIte,a8]
 exact rfl
theorem qhu {W:Nat→Bool}{h:Heap} (hW:∀ b,
  (geL h.length) b→W b=true) (k:Nat) (d6:List Entry) (d9:List Entry) (r:Bool) (hF:qax k d6 d9=some r) : Ret E W 101 [lst qt d6,
  lst qt d9] h (fun v h'=>cut h.length h' E.sz false 9 v=some (.bool r)):=by
 refine Ret.of (fn:=ub) rfl (Run.of ?_)
 unfold qax at hF
 have zf0:zf [lst qt d6,lst qt d9] 0=lst qt d6:=rfl
 have zf1:zf [lst qt d6,lst qt d9] 1=lst qt d9:=rfl
 generalize zf [lst qt d6,lst qt d9]=fr0 at zf0 zf1 ⊢
 have hS:Sep h (geL h.length) []:=a1x h
 simp only [ub,qd,qc,qe,qa,qx7,zf0,zr,qb,ja,zf1,qq,ya,qv,B0,reduceIte,a8]
 refine qs (t:=(decide ((o6 d6:Int)≠(o6 d9:Int)))) (fun hc1=>?_) (fun hc1=>?_)
 ·rw [iteT hc1] at hF
  simp only [qd,qc,qe,qa,qx,B0,reduceIte,a8]
  have he:=qg hF
  subst he
  simp only [q9,B0,reduceIte,a8]
  exact rfl
 rw [iteF hc1] at hF
 simp only [qw,qxn,qd,qc,qe,qa,B0,reduceIte,a8]
 obtain ⟨oc6,hX8,hk9⟩:=jz hF
 simp only [quc]
 refine wg (σ:=Int) (fun s41=>qan d6 d9 s41) (fun s fr' h'=>fr' 0=lst qt d6∧fr' 1=lst qt d9∧fr' 5 = .int .i64 s∧Sep h'
   (geL h.length) ([])) hX8 ⟨zf0,zf1,rfl,hS⟩ (fun _ _ _ h=>h) ?_ ?_
 ·rintro s3 fr18 h19 ⟨f21,f22,f23,hS20⟩ oc7 hF10 hr11 Q12 hN13 hK14 hR15 hE16
  unfold qan at hF10
  simp only [qwd,qd,qc,f23,qe,f21,zr,qb,ja,qq,yg,qa,qv,B0,reduceIte,a8]
  refine qs (t:=(decide (s3<(o6 d6:Int)))) (fun hc25=>?_) (fun hc25=>?_)
  ·rw [iteT hc25] at hF10
   obtain ⟨x26,hx27,hF28⟩:=qi hF10
   simp only [qw,qyq,qd,j5,qvj,z9,f21,zx,qh,f23,kz,B0,reduceIte,a8]
   refine qo (v := .ref (qt x26) 0) (j9 hx27 rfl) ?_
   simp only [zh,B0,reduceIte,a8]
   refine qo (v := .agg [.int .i64 x26.Term,.int .i64 x26.Value]) rfl ?_
   obtain ⟨x29,hx30,hF31⟩:=qi hF28
   simp only [f22,zx,qh,f23,kz,B0,reduceIte,a8]
   refine qo (v := .ref (qt x29) 0) (j9 hx30 rfl) ?_
   simp only [zh,B0,reduceIte,a8]
   refine qo (v := .agg [.int .i64 x29.Term,.int .i64 x29.Value]) rfl ?_
   obtain ⟨v32,hx33,hF34⟩:=qi hF31
   simp only [wm,B0,reduceIte,a8]
   refine qdd rfl (qp (yf (qp zg (qp zg zm))) (qp (yf (qp zg (qp zg zm))) zm)) (qmn
     (fun b hb=>decide_eq_true hb) x26 x29 v32 hx33) ?_
   simp only [qfw,qh,yw,za,qv,B0,reduceIte,a8]
   refine qs (t:=(!v32)) (fun hc35=>?_) (fun hc35=>?_)
   ·rw [iteT hc35] at hF34
    simp only [qd,qc,qe,qa,qx,B0,reduceIte,a8]
    have e36:=qg hF34
    subst e36
    have ho37:=hr11 _ rfl
    have hk38:=hk9
    rw [ho37] at hk38
    dsimp only [jnO] at hk38
    apply hR15
    have he:=qg hk38
    subst he
    simp only [q9,B0,reduceIte,a8]
    exact rfl
   rw [iteF hc35] at hF34
   simp only [qw,kg,qc,f23,qe,qq,qb,j8,qa,qr,B0,reduceIte,a8]
   have e39:=qg hF34
   exact hN13 _ _ _ e39.symm ⟨f21,f22,rfl,hS20⟩
  rw [iteF hc25] at hF10
  simp only [yn,yl,y8,B0,reduceIte,a8]
  have e40:=qg hF10
  exact hK14 _ _ _ e40.symm ⟨f21,f22,f23,hS20⟩
 rintro s42 fr43 h44 rfl ⟨f46,f47,f48,hS45⟩
 dsimp only [jnO] at hk9
 unfold qg3 at hk9
 simp only [qd,qc,qe,qa,qx,B0,reduceIte,a8]
 have he:=qg hk9
 subst he
 simp only [q9,B0,reduceIte,a8]
 exact rfl
theorem qnv {W:Nat→Bool}{h:Heap} (hW:∀ b,
  (geL h.length) b→W b=true) (k:Nat) (d6:List Int) (d9:List Int) (r:Bool) (hF:qdv k d6 d9=some r) : Ret E W 102 [lst cI d6,
  lst cI d9] h (fun v h'=>cut h.length h' E.sz false 9 v=some (.bool r)):=by
 refine Ret.of (fn:=qru) rfl (Run.of ?_)
 unfold qdv at hF
 have zf0:zf [lst cI d6,lst cI d9] 0=lst cI d6:=rfl
 have zf1:zf [lst cI d6,lst cI d9] 1=lst cI d9:=rfl
 generalize zf [lst cI d6,lst cI d9]=fr0 at zf0 zf1 ⊢
 have hS:Sep h (geL h.length) []:=a1x h
 simp only [qru,qd,qc,qe,qa,qwe,zf0,zr,qb,ja,zf1,qq,ya,qv,B0,reduceIte,a8]
 refine qs (t:=(decide ((o6 d6:Int)≠(o6 d9:Int)))) (fun hc1=>?_) (fun hc1=>?_)
 ·rw [iteT hc1] at hF
  simp only [qd,qc,qe,qa,qx,B0,reduceIte,a8]
  have he:=qg hF
  subst he
  simp only [q9,B0,reduceIte,a8]
  exact rfl
 rw [iteF hc1] at hF
 simp only [qw,quj,qd,qc,qe,qa,B0,reduceIte,a8]
 obtain ⟨oc6,hX8,hk9⟩:=jz hF
 simp only [qsv]
 refine wg (σ:=Int) (fun s38=>qb9 d6 d9 s38) (fun s fr' h'=>fr' 0=lst cI d6∧fr' 1=lst cI d9∧fr' 5 = .int .i64 s∧Sep h' (geL h.length)
   ([])) hX8 ⟨zf0,zf1,rfl,hS⟩ (fun _ _ _ h=>h) ?_ ?_
 ·rintro s3 fr18 h19 ⟨f21,f22,f23,hS20⟩ oc7 hF10 hr11 Q12 hN13 hK14 hR15 hE16
  unfold qb9 at hF10
  simp only [qsi,qd,qc,f23,qe,f21,zr,qb,ja,qq,yg,qa,qv,B0,reduceIte,a8]
  refine qs (t:=(decide (s3<(o6 d6:Int)))) (fun hc25=>?_) (fun hc25=>?_)
  ·rw [iteT hc25] at hF10
   obtain ⟨x26,hx27,hF28⟩:=qi hF10
   simp only [qw,qwn,qd,j5,qwf,z9,f21,zx,qh,f23,kz,B0,reduceIte,a8]
   refine qo (v := .ref (cI x26) 0) (j9 hx27 rfl) ?_
   simp only [zh,B0,reduceIte,a8]
   refine qo (v := .int .i64 x26) rfl ?_
   obtain ⟨x29,hx30,hF31⟩:=qi hF28
   simp only [f22,zx,qh,f23,kz,B0,reduceIte,a8]
   refine qo (v := .ref (cI x29) 0) (j9 hx30 rfl) ?_
   simp only [zh,B0,reduceIte,a8]
   refine qo (v := .int .i64 x29) rfl ?_
   simp only [kd,qh,ya,za,qv,B0,reduceIte,a8]
   refine qs (t:=(decide (x26≠x29))) (fun hc32=>?_) (fun hc32=>?_)
   ·rw [iteT hc32] at hF31
    simp only [qd,qc,qe,qa,qx,B0,reduceIte,a8]
    have e33:=qg hF31
    subst e33
    have ho34:=hr11 _ rfl
    have hk35:=hk9
    rw [ho34] at hk35
    dsimp only [jnO] at hk35
    apply hR15
    have he:=qg hk35
    subst he
    simp only [q9,B0,reduceIte,a8]
    exact rfl
   rw [iteF hc32] at hF31
   simp only [qw,kg,qc,f23,qe,qq,qb,j8,qa,qr,B0,reduceIte,a8]
   have e36:=qg hF31
   exact hN13 _ _ _ e36.symm ⟨f21,f22,rfl,hS20⟩
  rw [iteF hc25] at hF10
  simp only [yn,yl,y8,B0,reduceIte,a8]
  have e37:=qg hF10
  exact hK14 _ _ _ e37.symm ⟨f21,f22,f23,hS20⟩
 rintro s39 fr40 h41 rfl ⟨f43,f44,f45,hS42⟩
 dsimp only [jnO] at hk9
 unfold qim at hk9
 simp only [qd,qc,qe,qa,qx,B0,reduceIte,a8]
 have he:=qg hk9
 subst he
 simp only [q9,B0,reduceIte,a8]
 exact rfl
theorem qnx {W:Nat→Bool}{h:Heap} (hW:∀ b,
  (geL h.length) b→W b=true) (k:Nat) (d6:Peer) (d9:Peer) (r:Bool) (hF:qdw k d6 d9=some r) : Ret E W 83 [.agg [.int .i64 d6.Term,.bool d6.Leads,
  lst qt d6.Log,.int .i64 d6.Commit,lst cI d6.Match],.agg [.int .i64 d9.Term,.bool d9.Leads,lst qt d9.Log,.int .i64 d9.Commit,
  lst cI d9.Match]] h (fun v h'=>cut h.length h' E.sz false 9 v=some (.bool r)):=by
 refine Ret.of (fn:=x83) rfl (Run.of ?_)
 unfold qdw at hF
 have zf0:zf [.agg [.int .i64 d6.Term,.bool d6.Leads,lst qt d6.Log,.int .i64 d6.Commit,lst cI d6.Match],.agg [.int .i64 d9.Term,.bool d9.Leads,
   lst qt d9.Log,.int .i64 d9.Commit,lst cI d9.Match]] 0 = .agg [.int .i64 d6.Term,.bool d6.Leads,lst qt d6.Log,.int .i64 d6.Commit,
   lst cI d6.Match]:=rfl
 have zf1:zf [.agg [.int .i64 d6.Term,.bool d6.Leads,lst qt d6.Log,.int .i64 d6.Commit,lst cI d6.Match],.agg [.int .i64 d9.Term,.bool d9.Leads,
   lst qt d9.Log,.int .i64 d9.Commit,lst cI d9.Match]] 1 = .agg [.int .i64 d9.Term,.bool d9.Leads,lst qt d9.Log,.int .i64 d9.Commit,
   lst cI d9.Match]:=rfl
 generalize zf [.agg [.int .i64 d6.Term,.bool d6.Leads,lst qt d6.Log,.int .i64 d6.Commit,lst cI d6.Match],.agg [.int .i64 d9.Term,.bool d9.Leads,
   lst qt d9.Log,.int .i64 d9.Commit,lst cI d9.Match]]=fr0 at zf0 zf1 ⊢
 have hS:Sep h (geL h.length) []:=a1x h
 simp only [x83,qd,qc,kt,zf0,B0,reduceIte,a8]
 refine j0 (cs:=[.int .i64 d6.Term,.bool d6.Leads,lst qt d6.Log,.int .i64 d6.Commit,lst cI d6.Match]) hS rfl rfl rfl (fun b1 h2 hS3=>?_)
 simp only [kt,zf1,B0,reduceIte,a8]
 refine j0 (cs:=[.int .i64 d9.Term,.bool d9.Leads,lst qt d9.Log,.int .i64 d9.Commit,lst cI d9.Match]) hS3 rfl rfl rfl (fun b5 h6 hS7=>?_)
 simp only [qe,qa,B0,reduceIte,a8]
 refine z8 (s9 hS7) hW (by simp only [B0,reduceIte,a8]) (fun h9 hS10=>?_)
 refine z8 hS10 hW (by simp only [B0,reduceIte,a8]) (fun h11 hS12=>?_)
 simp only [z7,q3b,qd,qc,ql,qb,n7,n8,n9,qn,qj,B0,reduceIte,a8]
 refine qf (v := .int .i64 d6.Term) rfl ?_
 simp only [ql,qb,n7,n8,n9,qn,qj,B0,reduceIte,a8]
 refine qf (v := .int .i64 d9.Term) rfl ?_
 simp only [qq,qb,ya,qa,qv,B0,reduceIte,a8]
 refine qs (t:=(decide (d6.Term≠d9.Term))) (fun hc13=>?_) (fun hc13=>?_)
 ·rw [iteT hc13] at hF
  simp only [qd,qc,qe,qa,qx,B0,reduceIte,a8]
  have he:=qg hF
  subst he
  simp only [q9,B0,reduceIte,a8]
  exact rfl
 rw [iteF hc13] at hF
 simp only [qw,q7i,qd,qc,ql,qb,n7,n8,n9,qn,qj,B0,reduceIte,a8]
 refine qf (v := .bool d6.Leads) rfl ?_
 simp only [ql,qb,n7,n8,n9,qn,qj,B0,reduceIte,a8]
 refine qf (v := .bool d9.Leads) rfl ?_
 simp only [qej,qb,qe0,qa,qv,B0,reduceIte,a8]
 refine qs (t:=(!(d6.Leads == d9.Leads))) (fun hc14=>?_) (fun hc14=>?_)
 ·rw [iteT hc14] at hF
  simp only [qd,qc,qe,qa,qx,B0,reduceIte,a8]
  have he:=qg hF
  subst he
  simp only [q9,B0,reduceIte,a8]
  exact rfl
 rw [iteF hc14] at hF
 simp only [qw,q4m,qd,qc,ql,qb,n7,n8,n9,qn,qj,B0,reduceIte,a8]
 refine qf (v:=lst qt d6.Log) rfl ?_
 simp only [ql,qb,n7,n8,n9,qn,qj,B0,reduceIte,a8]
 refine qf (v:=lst qt d9.Log) rfl ?_
 obtain ⟨v15,hx16,hF17⟩:=qi hF
 simp only [zp,B0,reduceIte,a8]
 refine kh rfl (qp jo (qp jo zm)) (qhu (fun b hb=>decide_eq_true hb) k d6.Log d9.Log v15 hx16) ?_
 simp only [yk,qb,yw,qa,qv,B0,reduceIte,a8]
 refine qs (t:=(!v15)) (fun hc18=>?_) (fun hc18=>?_)
 ·rw [iteT hc18] at hF17
  simp only [qd,qc,qe,qa,qx,B0,reduceIte,a8]
  have he:=qg hF17
  subst he
  simp only [q9,B0,reduceIte,a8]
  exact rfl
 rw [iteF hc18] at hF17
 simp only [qw,q9s,qd,qc,ql,qb,n7,n8,n9,qn,qj,B0,reduceIte,a8]
 refine qf (v := .int .i64 d6.Commit) rfl ?_
 simp only [ql,qb,n7,n8,n9,qn,qj,B0,reduceIte,a8]
 refine qf (v := .int .i64 d9.Commit) rfl ?_
 simp only [qq,qb,ya,qa,qv,B0,reduceIte,a8]
 refine qs (t:=(decide (d6.Commit≠d9.Commit))) (fun hc19=>?_) (fun hc19=>?_)
 ·rw [iteT hc19] at hF17
  simp only [qd,qc,qe,qa,qx,B0,reduceIte,a8]
  have he:=qg hF17
  subst he
  simp only [q9,B0,reduceIte,a8]
  exact rfl
 rw [iteF hc19] at hF17
 simp only [qw,q61,qd,qc,ql,qb,n7,n8,n9,qn,qj,B0,reduceIte,a8]
 refine qf (v:=lst cI d6.Match) rfl ?_
 simp only [ql,qb,n7,n8,n9,qn,qj,B0,reduceIte,a8]
 refine qf (v:=lst cI d9.Match) rfl ?_
 obtain ⟨v20,hx21,hF22⟩:=qi hF17
 simp only [zp,B0,reduceIte,a8]
 refine kh rfl (qp jo (qp jo zm)) (qnv (fun b hb=>decide_eq_true hb) k d6.Match d9.Match v20 hx21) ?_
 simp only [yk,qb,yw,qa,qv,B0,reduceIte,a8]
 refine qs (t:=(!v20)) (fun hc23=>?_) (fun hc23=>?_)
 ·rw [iteT hc23] at hF22
  simp only [qd,qc,qe,qa,qx,B0,reduceIte,a8]
  have he:=qg hF22
  subst he
  simp only [q9,B0,reduceIte,a8]
  exact rfl
 rw [iteF hc23] at hF22
 simp only [qw,qd,qc,qe,qa,qx,B0,reduceIte,a8]
 have he:=qg hF22
 subst he
 simp only [q9,B0,reduceIte,a8]
 exact rfl
end Go.Proofs.Ytanblnjomhgphaa.X
