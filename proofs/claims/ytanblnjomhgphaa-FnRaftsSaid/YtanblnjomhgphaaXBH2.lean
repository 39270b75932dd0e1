/- The functions' code comes to what the plain functions say (2). -/
import Derived.Test.YtanblnjomhgphaaXBH1
open Go.IntKind renaming wrap→r8
open List renaming drop_succ_cons→s6,drop_zero→t3,length→p9,set→a1b,take_succ_cons→s5,take_zero→t4
open Nat renaming add_zero→o9,reduceAdd→o7,reduceEqDiff→a8,zero_add→o8
open Go.Proofs.Ytanblnjomhgphaa.X.Sep renaming bk→a0g,dc→a0k,m1→t6,m2→s9,m3→t5,m4→a0j,m5→t8,m6→a20,ni2→a1f,no2→a2j
open Go.Proofs.Ytanblnjomhgphaa.X.SlF renaming ia→a27,isrow→a19,one→a01,plen→a1p,snap→a3t
open Go.Proofs.Ytanblnjomhgphaa.X.SlG renaming cls0→a1h,cls→a3e,ld→a15,one→a3i,opn→a2d,toN→a1e
open Go.Proofs.Ytanblnjomhgphaa.X.SlN renaming isrow→a24,one→a0n,toG→a2f
set_option linter.unusedVariables false
set_option linter.unusedSimpArgs false
set_option maxRecDepth 100000
set_option maxHeartbeats 1000000
namespace Go.Proofs.Ytanblnjomhgphaa.X
open Go
theorem qlw {W:Nat→Bool}{h:Heap}{lo:Nat→Prop}{S0:List Obj} (hW:∀ b,
  lo b→W b=true) (k:Nat) (d8:Raft) (d6:XV) (f4:List Obj) (e9:SlN Peer.R 5 43 d6 d8.Peers f4) (d7:XV) (d9:List Obj)
  (e8:SlN Mail.R 9 86 d7 d8.Mail d9) (a9:Int) (i9:Int) (r:Raft × Bool) (hF:uj k d8 a9 i9=some r) (hS:Sep h lo (f4++(d9 ++
  (S0)))) : Ret E W 77 [.agg [d6,d7],.int .i64 a9,.int .i64 i9] h (fun v h'=>∃ g9 i0,v = .tup [.agg [d6,d7],
  .bool r.2]∧SlN Peer.R 5 43 d6 r.1.Peers g9∧SlN Mail.R 9 86 d7 r.1.Mail i0∧Sep h' lo (g9++(i0++(S0)))):=by
 refine Ret.of (fn:=x77) rfl (Run.of ?_)
 unfold uj at hF
 have zf0:zk [.agg [d6,d7],.int .i64 a9,.int .i64 i9] 0 = .agg [d6,d7]:=rfl
 have zf1:zk [.agg [d6,d7],.int .i64 a9,.int .i64 i9] 1 = .int .i64 a9:=rfl
 have zf2:zk [.agg [d6,d7],.int .i64 a9,.int .i64 i9] 2 = .int .i64 i9:=rfl
 generalize zk [.agg [d6,d7],.int .i64 a9,.int .i64 i9]=fr0 at zf0 zf1 zf2 ⊢
 simp only [x77,qf,qe,ym,zf0,B0,reduceIte,a8]
 refine ko (cs:=[d6,d7]) hS rfl rfl (qp (a0n e9) (qp (a0n e8) zp)) (fun b1 h2 hS3=>?_)
 simp only [ji,B0,reduceIte,a8]
 refine z6 hS3 (fun b5 h6 hS7=>?_)
 simp only [qg,qa,B0,reduceIte,a8]
 refine jc (t6 hS7) hW (by simp only [B0,reduceIte,a8]) (fun h9 hS10=>?_)
 obtain ⟨v11,hx12,hF13⟩:=qk hF
 simp only [z5,qs2,qf,qe,zf2,qg,zi,B0,reduceIte,a8]
 refine jx rfl (qt zb zm) (qoa (fun b hb=>decide_eq_true hb) k i9 v11 hx12) ?_
 simp only [qg,qa,qvc,qf,qe,qo,qb,o7,o8,o9,qn,ql,B0,reduceIte,a8]
 refine qd (v:=d6) rfl ?_
 obtain ⟨v14,hx15,hF16⟩:=qk hF13
 simp only [zq,qb,SlN.len e9,zi,B0,reduceIte,a8]
 refine jx rfl (qt jh (qt zb zm)) (qne (fun b hb=>decide_eq_true hb) v11 (p9 d8.Peers:Int) v14 hx15) ?_
 simp only [jq,qb,kq,qg,B0,reduceIte,a8]
 obtain ⟨v20,hx21,hF22⟩:=qk hF16
 refine jf 5 (fun fr' h'=>Sep h' lo (f4++(d9++([Blk1 b5 [.nil,.nil] 29]++(S0))))∧fr' 27 = .bool v20∧fr' 1 = .int .i64 a9∧fr' 3 = .ref [d6,
   d7] 0∧fr' 6 = .ptr b5 0∧fr' 8=lst cI v11) (fun Q17 hN18=>?_) ?_
 ·simp only [s5,t4]
  simp only [qc (g:=22),B0,reduceIte,a8]
  refine zf (t:=(!v14)) (fun hg19=>?_) (fun hg19=>?_)
  ·rw [iteT hg19] at hx21
   simp only [hg19,qc (g:=22),zx,qw,qb,zo,qa,qm,B0,reduceIte,a8]
   have e23:=qj hx21
   exact hN18 _ _ ⟨(s9 (s9 hS10)),by rw [←e23]; simp only [B0,reduceIte,a8],zf1,rfl,rfl,rfl⟩
  ·rw [iteF hg19] at hx21
   obtain ⟨v24,hx25,hF26⟩:=qk hx21
   simp only [hg19,qc (g:=22),qr,qg,zf1,zi,B0,reduceIte,a8]
   refine jx rfl (qt jh (qt zb zm)) (qoo (fun b hb=>decide_eq_true hb) v11 a9 v24 hx25) ?_
   simp only [hg19,qc (g:=22),qr,jq,qb,kq,qw,zn,qa,qm,B0,reduceIte,a8]
   have e27:=qj hF26
   exact hN18 _ _ ⟨(s9 (s9 hS10)),by rw [←e27]; simp only [B0,reduceIte,a8],zf1,rfl,rfl,rfl⟩
 rintro fr28 h34 ⟨hS35,f29,f30,f31,f32,f33⟩
 simp only [s6,t3]
 simp only [f29,qg,B0,reduceIte,a8]
 refine jf 8 (fun fr' h'=>Sep h' lo (f4++(d9++([Blk1 b5 [.nil,
   .nil] 29]++(S0))))∧fr' 36 = .bool (v20||(decide ((r8 .i64 ((2:Int)*(p9 v11:Int))) ≤
   (p9 d8.Peers:Int))))∧fr' 1 = .int .i64 a9∧fr' 3 = .ref [d6,d7] 0∧fr' 6 = .ptr b5 0∧fr' 8=lst cI v11) (fun Q36 hN37=>?_) ?_
 ·simp only [s5,t4]
  simp only [qc (g:=28),B0,reduceIte,a8]
  refine zf (t:=v20) (fun hg38=>?_) (fun hg38=>?_)
  ·simp only [hg38,qc (g:=28),zx,qw,qb,zo,qa,qm,B0,reduceIte,a8]
   exact hN37 _ _ ⟨(s9 (s9 (s9 hS35))),by rw [orT hg38]; simp only [B0,reduceIte,a8],f30,f31,f32,f33⟩
  ·simp only [hg38,qc (g:=28),qr,f33,qg,zq,qb,z7,qx,qmt,f31,qo,o7,o8,o9,qn,
    ql,B0,reduceIte,a8]
   refine qd (v:=d6) rfl ?_
   simp only [hg38,qc (g:=28),qr,zq,qb,SlN.len e9,qx,qhn,qw,zn,qa,qm,B0,reduceIte,a8]
   exact hN37 _ _ ⟨(s9 (s9 (s9 hS35))),by rw [orF hg38]; simp only [B0,reduceIte,a8],f30,f31,f32,f33⟩
 rintro fr39 h45 ⟨hS46,f40,f41,f42,f43,f44⟩
 simp only [s6,t3]
 simp only [qa,q4u,f40,q8,B0,reduceIte,a8]
 refine q9 (t:=(v20||(decide ((r8 .i64 ((2:Int)*(p9 v11:Int)))≤(p9 d8.Peers:Int))))) (fun hc47=>?_) (fun hc47=>?_)
 ·rw [iteT hc47] at hF22
  simp only [qf,qe,f42,ql,B0,reduceIte,a8]
  refine qd (v := .agg [d6,d7]) rfl ?_
  simp only [f43,zh,B0,reduceIte,a8]
  refine qy (us:=[d6,d7]) rfl (cs':=[d6,
    d7]) (s9 hS46) hW rfl (qp (a0n e9) (qp (a0n e8) zp)) (nle rfl) rfl (fun h48 hS49=>?_)
  simp only [qg,qa,zc,B0,reduceIte,a8]
  have he:=qj hF22
  subst he
  refine jl (qt (jr (bb:=b5) (oo:=0) (v := .agg [d6,
    d7]) (f43) ((zw (a0g _ _ _ hS49)).trans rfl)) (qt (kz (v := .bool false) (rfl)) zm)) ?_
  exact ⟨f4,d9,by first | trivial | rfl,e9,e8,(t6 (t6 (a0k (hS49))))⟩
 rw [iteF hc47] at hF22
 simp only [zd,qxz,qf,qe,qg,qa,qtj,f44,zq,qb,z7,B0,reduceIte,a8]
 obtain ⟨oc60,hX62,hk63⟩:=kd hF22
 simp only [q8b]
 refine yi (σ:=Int × (List Peer)) v11 (fun i58 x59 s183=>wy d8 a9 i58 x59 s183.1 s183.2) (fun s fr' h'=>∃ c56,
   fr' 1 = .int .i64 a9∧fr' 3 = .ref [d6,
   d7] 0∧fr' 6 = .ptr b5 0∧fr' 8=lst cI v11∧fr' 9 = .int .i64 s.1∧fr' 38=lst cI v11∧SlN Peer.R 5 43 d6 s.2 c56∧Sep h' lo (c56++(d9 ++
   ([Blk1 b5 [.nil,.nil] 29]++(S0))))) hX62 ⟨f4,f41,f42,f43,f44,rfl,rfl,e9,(s9 (s9 (s9 hS46)))⟩ (by simp only [B0,reduceIte,
   a8]) (by simp only [B0,reduceIte,a8]) (fun _ _ _ h=>h) rfl rfl (fun _ _ _ _ h=>h) (fun _ _ _ _ h=>h) (fun _ _ _ _ h=>h) (by decide) ?_ ?_
 ·rintro i58 x59 ⟨s54,s55⟩ fr72 h73 hx81 ⟨c56,f75,f76,f77,f78,f79,f80,hv57,hS74⟩ f82 f83 oc61 hF64 hr65 Q66 hN67 hB71 hK68 hR69 hE70
  dsimp only at *
  unfold wy at hF64
  simp only [q4x,qf,qe,f80,f82,jj,B0,reduceIte,a8]
  refine qd (v := .ref (cI x59) 0) (yj hx81 rfl) ?_
  simp only [ql,B0,reduceIte,a8]
  refine qd (v := .int .i64 x59) rfl ?_
  simp only [qg,qa,q7i,qf,jg,f76,zl,qi,o7,o8,o9,qn,zj,B0,reduceIte,a8]
  refine qq (v:=d6) rfl ?_
  obtain ⟨x84,hx85,hF86⟩:=qk hF64
  simp only [f75,zz,qi,yh,B0,reduceIte,a8]
  obtain ⟨b87,hb88⟩:=a24 hv57 (j7 hx85)
  refine qq (SlN.ia hv57 hb88 hx85) ?_
  obtain ⟨c89,cs90,os91,hv92,hR93,hS94⟩:=a2d (a2f hv57 hb88 Peer.RO.len) hx85 zt Peer.RO.len hS74
  obtain ⟨v96,c97,v100,c101,hv98,hv102,rfl,rfl⟩:=hR93
  have hS95:=a2j hS94
  simp only [zl,qi,o7,o8,o9,qv,zj,B0,reduceIte,a8]
  refine qq (v:=v96) ((a15 (o:=2) hv92 rfl hx85 hS95 (nle rfl)).trans rfl) ?_
  simp only [f76,zl,qi,o7,o8,o9,qn,zj,B0,reduceIte,a8]
  refine qq (v:=d6) rfl ?_
  obtain ⟨qd9,hx105,hF106⟩:=qk hF86
  simp only [zz,qi,yh,B0,reduceIte,a8]
  refine qq (SlG.ia hv92 hx105) ?_
  simp only [zl,qi,o7,o8,o9,qv,B0,reduceIte,a8]
  by_cases hq107:a9=x59
  ·subst hq107
   rw [iteT (decide_eq_true rfl)] at hF106
   simp only [zj,B0,reduceIte,a8]
   refine qq (v:=v96) ((a15 (o:=2) hv92 rfl hx85 hS95 (nle rfl)).trans rfl) ?_
   obtain ⟨v108,hx109,hF110⟩:=qk hF106
   simp only [xa,B0,reduceIte,a8]
   refine qfm rfl (qt (a3t hv98 (t6 hS95) rfl (fun _=>rfl) (fun _=>rfl)) (qt (a3t hv98 (t6 hS95) rfl (fun _=>rfl) (fun _=>rfl)) zm))
     (qj2 (fun b hb=>decide_eq_true hb) x84.Log x84.Log v108 hx109) ?_
   simp only [qjb,qi,kq,za,qr5,q8,B0,reduceIte,a8]
   refine q9 (t:=(!v108)) (fun hc111=>?_) (fun hc111=>?_)
   ·rw [iteT hc111] at hF110
    simp only [qf,qe,f76,ql,B0,reduceIte,a8]
    refine qd (v := .agg [d6,d7]) rfl ?_
    simp only [f77,zh,B0,reduceIte,a8]
    refine qy (us:=[d6,d7]) rfl (cs':=[d6,
      d7]) (a0j hS95) hW rfl (qp (a3i hv92) (qp (a0n e8) zp)) (nle rfl) rfl (fun h112 hS113=>?_)
    simp only [qg,qa,zc,B0,reduceIte,a8]
    have e114:=qj hF110
    subst e114
    have ho115:=hr65 _ rfl
    have hk116:=hk63
    rw [ho115] at hk116
    dsimp only [jnO] at hk116
    apply hR69
    obtain ⟨c117,hv118,hS119⟩:=a1h (c:=c89) (os:=c97++(c101)) hv92 rfl hx85 zt (Peer.RI (x:=x84) hv98 hv102) (a1f (c1:=c97) (c2:=c101) (t5
      (t5 (t5 hS113))))
    have hv120:=a1e hv118
    have he:=qj hk116
    subst he
    refine jl (qt (jr (bb:=b5) (oo:=0) (v := .agg [d6,
      d7]) (f77) ((zw (a0g _ _ _ (t6 hS119))).trans rfl)) (qt (kz (v := .bool false) (rfl)) zm)) ?_
    exact ⟨c117,d9,by first | trivial | rfl,hv120,e8,(t6 (t6 (a0k (t6 hS119))))⟩
   rw [iteF hc111] at hF110
   simp only [zd,qrr,qf,qe,f76,qo,qb,o7,o8,o9,qn,ql,B0,reduceIte,a8]
   refine qd (v:=d6) rfl ?_
   simp only [qg,jj,B0,reduceIte,a8]
   refine qd (SlG.ia hv92 hx85) ?_
   simp only [qo,qb,o7,o8,o9,qv,ql,B0,reduceIte,a8]
   refine qd (v := .int .i64 x84.Term) ((a15 (o:=0) hv92 rfl hx85 hS95 (nle rfl)).trans rfl) ?_
   simp only [f79,qg,qx,qb,ww,qa,qrl,q8,B0,reduceIte,a8]
   refine q9 (t:=(decide (s54<x84.Term))) (fun hc121=>?_) (fun hc121=>?_)
   ·rw [iteT hc121] at hF110
    simp only [qq5,qe,f76,qo,qb,o7,o8,o9,qn,ql,B0,reduceIte,a8]
    refine qd (v:=d6) rfl ?_
    simp only [qg,jj,B0,reduceIte,a8]
    refine qd (SlG.ia hv92 hx85) ?_
    simp only [qo,qb,o7,o8,o9,qv,ql,B0,reduceIte,a8]
    refine qd (v := .int .i64 x84.Term) ((a15 (o:=0) hv92 rfl hx85 hS95 (nle rfl)).trans rfl) ?_
    simp only [qg,qa,qm,B0,reduceIte,a8]
    obtain ⟨c122,hv123,hS124⟩:=a1h (c:=c89) (os:=c97++(c101)) hv92 rfl hx85 zt (Peer.RI (x:=x84) hv98 hv102) (a1f (c1:=c97) (c2:=c101) (s9
      (s9 (s9 hS95))))
    have hv125:=a1e hv123
    have e126:=qj hF110
    exact hN67 _ _ _ e126.symm ⟨c122,f75,f76,f77,f78,rfl,f80,hv125,(s9 (s9 (s9 hS124)))⟩ (f82) (f83)
   rw [iteF hc121] at hF110
   simp only [zd,qm,B0,reduceIte,a8]
   obtain ⟨c127,hv128,hS129⟩:=a1h (c:=c89) (os:=c97++(c101)) hv92 rfl hx85 zt (Peer.RI (x:=x84) hv98 hv102) (a1f (c1:=c97) (c2:=c101) (s9
     (s9 (s9 hS95))))
   have hv130:=a1e hv128
   have e131:=qj hF110
   exact hN67 _ _ _ e131.symm ⟨c127,f75,f76,f77,f78,f79,f80,hv130,(s9 (s9 (s9 hS129)))⟩ (f82) (f83)
  rw [iteF (decide_eq_false hq107)] at hF106
  obtain ⟨hp132,hF133⟩:=qa2 hF106
  have hn134:=zec hp132 hx85 hx105
  obtain ⟨c135,cs136,os137,hv138,hR139,hS140⟩:=a2d hv92 hx105 ((qgl hn134).trans zt) Peer.RO.len hS95
  obtain ⟨v142,c143,v146,c147,hv144,hv148,rfl,rfl⟩:=hR139
  have hS141:=a2j hS140
  simp only [zj,B0,reduceIte,a8]
  refine qq (v:=v142) ((a15 (o:=2) hv138 rfl hx105 hS141 (nle rfl)).trans rfl) ?_
  obtain ⟨v150,hx151,hF152⟩:=qk hF133
  simp only [xa,B0,reduceIte,a8]
  refine qfm rfl (qt (a3t hv98 (t5 hS141) rfl (fun _=>rfl) (fun _=>rfl)) (qt (a3t hv144 (t6 hS141) rfl (fun _=>rfl) (fun _=>rfl)) zm))
    (qj2 (fun b hb=>decide_eq_true hb) x84.Log qd9.Log v150 hx151) ?_
  simp only [qjb,qi,kq,za,qr5,q8,B0,reduceIte,a8]
  refine q9 (t:=(!v150)) (fun hc153=>?_) (fun hc153=>?_)
  ·rw [iteT hc153] at hF152
   simp only [qf,qe,f76,ql,B0,reduceIte,a8]
   refine qd (v := .agg [d6,d7]) rfl ?_
   simp only [f77,zh,B0,reduceIte,a8]
   refine qy (us:=[d6,d7]) rfl (cs':=[d6,
     d7]) (a20 hS141) hW rfl (qp (a3i hv138) (qp (a0n e8) zp)) (nle rfl) rfl (fun h154 hS155=>?_)
   simp only [qg,qa,zc,B0,reduceIte,a8]
   have e156:=qj hF152
   subst e156
   have ho157:=hr65 _ rfl
   have hk158:=hk63
   rw [ho157] at hk158
   dsimp only [jnO] at hk158
   apply hR69
   obtain ⟨c159,hv160,hS161⟩:=a1h (c:=c135) (os:=c143++(c147)) hv138 rfl hx105 ((qgl hn134).trans zt) (Peer.RI (x:=qd9) hv144 hv148) (a1f
     (c1:=c143) (c2:=c147) (t5 (t5 (t5 hS155))))
   obtain ⟨c162,hv163,hS164⟩:=a1h (c:=c159) (os:=c97++(c101)) hv160 rfl hx85 zt (Peer.RI (x:=x84) hv98 hv102) (a1f (c1:=c97) (c2:=c101) (s9
     (t5 (t5 hS161))))
   have hv165:=a1e hv163
   have he:=qj hk158
   subst he
   refine jl (qt (jr (bb:=b5) (oo:=0) (v := .agg [d6,
     d7]) (f77) ((zw (a0g _ _ _ (t6 hS164))).trans rfl)) (qt (kz (v := .bool false) (rfl)) zm)) ?_
   exact ⟨c162,d9,by first | trivial | rfl,hv165,e8,(t6 (t6 (a0k (t6 hS164))))⟩
  rw [iteF hc153] at hF152
  simp only [zd,qrr,qf,qe,f76,qo,qb,o7,o8,o9,qn,ql,B0,reduceIte,a8]
  refine qd (v:=d6) rfl ?_
  simp only [qg,jj,B0,reduceIte,a8]
  refine qd (SlG.ia hv138 hx105) ?_
  simp only [qo,qb,o7,o8,o9,qv,ql,B0,reduceIte,a8]
  refine qd (v := .int .i64 qd9.Term) ((a15 (o:=0) hv138 rfl hx105 hS141 (nle rfl)).trans rfl) ?_
  simp only [f79,qg,qx,qb,ww,qa,qrl,q8,B0,reduceIte,a8]
  refine q9 (t:=(decide (s54<qd9.Term))) (fun hc166=>?_) (fun hc166=>?_)
  ·rw [iteT hc166] at hF152
   simp only [qq5,qe,f76,qo,qb,o7,o8,o9,qn,ql,B0,reduceIte,a8]
   refine qd (v:=d6) rfl ?_
   simp only [qg,jj,B0,reduceIte,a8]
   refine qd (SlG.ia hv138 hx105) ?_
   simp only [qo,qb,o7,o8,o9,qv,ql,B0,reduceIte,a8]
   refine qd (v := .int .i64 qd9.Term) ((a15 (o:=0) hv138 rfl hx105 hS141 (nle rfl)).trans rfl) ?_
   simp only [qg,qa,qm,B0,reduceIte,a8]
   obtain ⟨c167,hv168,hS169⟩:=a1h (c:=c135) (os:=c143++(c147)) hv138 rfl hx105 ((qgl hn134).trans zt) (Peer.RI (x:=qd9) hv144 hv148) (a1f
     (c1:=c143) (c2:=c147) (s9 (s9 (s9 hS141))))
   obtain ⟨c170,hv171,hS172⟩:=a1h (c:=c167) (os:=c97++(c101)) hv168 rfl hx85 zt (Peer.RI (x:=x84) hv98 hv102) (a1f (c1:=c97) (c2:=c101) (s9
     (s9 (s9 hS169))))
   have hv173:=a1e hv171
   have e174:=qj hF152
   exact hN67 _ _ _ e174.symm ⟨c170,f75,f76,f77,f78,rfl,f80,hv173,(s9 (s9 (s9 hS172)))⟩ (f82) (f83)
  rw [iteF hc166] at hF152
  simp only [zd,qm,B0,reduceIte,a8]
  obtain ⟨c175,hv176,hS177⟩:=a1h (c:=c135) (os:=c143++(c147)) hv138 rfl hx105 ((qgl hn134).trans zt) (Peer.RI (x:=qd9) hv144 hv148) (a1f
    (c1:=c143) (c2:=c147) (s9 (s9 (s9 hS141))))
  obtain ⟨c178,hv179,hS180⟩:=a1h (c:=c175) (os:=c97++(c101)) hv176 rfl hx85 zt (Peer.RI (x:=x84) hv98 hv102) (a1f (c1:=c97) (c2:=c101) (s9
    (s9 (s9 hS177))))
  have hv181:=a1e hv179
  have e182:=qj hF152
  exact hN67 _ _ _ e182.symm ⟨c178,f75,f76,f77,f78,f79,f80,hv181,(s9 (s9 (s9 hS180)))⟩ (f82) (f83)
 rintro ⟨s184,s185⟩ fr188 h189 rfl ⟨c186,f191,f192,f193,f194,f195,f196,hv187,hS190⟩
 dsimp only [jnO] at hk63
 dsimp only at *
 unfold qav at hk63
 simp only [qs4,qf,qe,f195,qg,qx,qb,ku,qa,qta,q8,B0,reduceIte,a8]
 refine q9 (t:=(decide (s184=100))) (fun hc197=>?_) (fun hc197=>?_)
 ·rw [iteT hc197] at hk63
  simp only [qf,qe,f192,ql,B0,reduceIte,a8]
  refine qd (v := .agg [d6,d7]) rfl ?_
  simp only [f193,zh,B0,reduceIte,a8]
  refine qy (us:=[d6,d7]) rfl (cs':=[d6,
    d7]) (s9 hS190) hW rfl (qp (a0n hv187) (qp (a0n e8) zp)) (nle rfl) rfl (fun h198 hS199=>?_)
  simp only [qg,qa,zc,B0,reduceIte,a8]
  have he:=qj hk63
  subst he
  refine jl (qt (jr (bb:=b5) (oo:=0) (v := .agg [d6,
    d7]) (f193) ((zw (a0g _ _ _ hS199)).trans rfl)) (qt (kz (v := .bool false) (rfl)) zm)) ?_
  exact ⟨c186,d9,by first | trivial | rfl,hv187,e8,(t6 (t6 (a0k (hS199))))⟩
 rw [iteF hc197] at hk63
 simp only [zd,qxj,qf,qe,f194,qg,zq,qb,z7,qa,B0,reduceIte,a8]
 obtain ⟨oc208,hX210,hk211⟩:=kd hk63
 simp only [qzb]
 refine yi (σ:=(List Peer)) v11 (fun i206 x207 s278=>qc3 a9 s184 i206 x207 s278) (fun s fr' h'=>∃ c204,fr' 1 = .int .i64 a9∧fr' 3 = .ref [d6,
   d7] 0∧fr' 6 = .ptr b5 0∧fr' 9 = .int .i64 s184∧fr' 77=lst cI v11∧SlN Peer.R 5 43 d6 s c204∧Sep h' lo (c204++(d9++([Blk1 b5 [.nil,
   .nil] 29]++(S0))))) hX210 ⟨c186,f191,f192,f193,f195,rfl,hv187,(s9 (s9 (s9 hS190)))⟩ (by simp only [B0,reduceIte,a8]) (by simp only [B0,
   reduceIte,a8]) (fun _ _ _ h=>h) rfl rfl (fun _ _ _ _ h=>h) (fun _ _ _ _ h=>h) (fun _ _ _ _ h=>h) (by decide) ?_ ?_
 ·rintro i206 x207 s203 fr220 h221 hx228 ⟨c204,f223,f224,f225,f226,f227,hv205,hS222⟩ f229 f230 oc209 hF212 hr213 Q214 hN215 hB219 hK216 hR217 hE218
  unfold qc3 at hF212
  simp only [qz3,qf,qe,f227,f229,jj,B0,reduceIte,a8]
  refine qd (v := .ref (cI x207) 0) (yj hx228 rfl) ?_
  simp only [ql,B0,reduceIte,a8]
  refine qd (v := .int .i64 x207) rfl ?_
  simp only [qg,qa,q0a,qf,qe,f224,qo,qb,o7,o8,o9,qn,ql,B0,reduceIte,a8]
  refine qd (v:=d6) rfl ?_
  obtain ⟨x231,hx232,hF233⟩:=qk hF212
  simp only [qg,f226,qx,qb,ur,jj,B0,reduceIte,a8]
  obtain ⟨b234,hb235⟩:=a24 hv205 (j7 hx232)
  refine qd (SlN.ia hv205 hb235 hx232) ?_
  obtain ⟨c238,cs239,os240,hv241,hR242,hS243⟩:=a2d (a2f hv205 hb235 Peer.RO.len) hx232 zt Peer.RO.len hS222
  obtain ⟨v245,c246,v249,c250,hv247,hv251,rfl,rfl⟩:=hR242
  have hS244:=a2j hS243
  simp only [qo,qb,o7,o8,o9,qv,zh,B0,reduceIte,a8]
  refine uh (n:=5) (us:=[.int .i64 (r8 .i64 (s184+1))]) (cs:=[.int .i64 x231.Term,.bool x231.Leads,v245,.int .i64 x231.Commit,
    v249]) (o:=0) (cs':=[.int .i64 (r8 .i64 (s184+1)),.bool x231.Leads,v245,.int .i64 x231.Commit,
    v249]) rfl hv241 rfl hx232 hS244 hW rfl rfl (nle rfl) rfl (fun c253 h236 hv254 hS237=>?_)
  simp only [qa,qv3,qf,qe,f224,qo,qb,o7,o8,o9,qn,ql,B0,reduceIte,a8]
  refine qd (v:=d6) rfl ?_
  simp only [qg,f223,qx,qb,ku,jj,B0,reduceIte,a8]
  refine qd (SlG.ia hv254 hx232) ?_
  simp only [qo,qb,o7,o8,o9,qv,zh,B0,reduceIte,a8]
  refine uh (n:=5) (us:=[.bool (decide (x207=a9))]) (cs:=[.int .i64 (r8 .i64 (s184+1)),.bool x231.Leads,v245,.int .i64 x231.Commit,
    v249]) (o:=1) (cs':=[.int .i64 (r8 .i64 (s184+1)),.bool (decide (x207=a9)),v245,.int .i64 x231.Commit,
    v249]) rfl hv254 rfl hx232 hS237 hW rfl rfl (nle rfl) rfl (fun c257 h255 hv258 hS256=>?_)
  simp only [qa,qy4,jg,f224,zl,qi,o7,o8,o9,qn,zj,B0,reduceIte,a8]
  refine qq (v:=d6) rfl ?_
  simp only [zz,qi,f224,zl,o7,o8,o9,qn,zj,B0,reduceIte,a8]
  refine qq (v:=d6) rfl ?_
  obtain ⟨l259,hx260,hF261⟩:=qk hF233
  simp only [wm,qi,SlG.plen hv258,qor,B0,reduceIte,a8]
  refine qjp (f:=cI) (z:=(0:Int)) hS256 hx260 rfl (fun v262 c263 h264 hv265 hS266=>?_)
  simp only [yh,B0,reduceIte,a8]
  refine qq (SlG.ia hv258 hx232) ?_
  simp only [zl,qi,o7,o8,o9,qv,xx,B0,reduceIte,a8]
  refine qd3 (n:=5) (us:=[v262]) (cs:=[.int .i64 (r8 .i64 (s184+1)),.bool (decide (x207=a9)),v245,.int .i64 x231.Commit,
    v249]) (o:=4) (cs':=[.int .i64 (r8 .i64 (s184+1)),.bool (decide (x207=a9)),v245,.int .i64 x231.Commit,
    v262]) (jp (a01 hv265)) hv258 rfl hx232 (t6 hS266) hW rfl (qp (a01 hv265) zp) (nle rfl) rfl (fun c270 h268 hv271 hS269=>?_)
  simp only [za,qm,B0,reduceIte,a8]
  obtain ⟨c272,hv273,hS274⟩:=a3e (e':=(Peer.mk (r8 .i64 (s184+1)) (decide (x207=a9)) x231.Log x231.Commit l259)) (c:=c270) (os:=c246 ++
    (c263)) hv271 rfl hx232 zt (Peer.RI (x:=(Peer.mk (r8 .i64 (s184+1)) (decide (x207=a9)) x231.Log x231.Commit l259)) hv247 hv265) (a1f (c1:=c246)
    (c2:=c263) (s9 (s9 (t6 hS269))))
  have hx275:=kt (x':=(Peer.mk (r8 .i64 (s184+1)) (decide (x207=a9)) x231.Log x231.Commit l259)) hx232
  have hv276:=a1e hv273
  have e277:=qj hF261
  exact hN215 _ _ _ e277.symm ⟨c272,f223,f224,f225,f226,f227,hv276,(s9 (s9 (s9 (a0k (t6 hS274)))))⟩ (f229) (f230)
 rintro s279 fr282 h283 rfl ⟨c280,f285,f286,f287,f288,f289,hv281,hS284⟩
 dsimp only [jnO] at hk211
 unfold qe2 at hk211
 simp only [qyi,qf,jg,f286,zl,qi,o7,o8,o9,qn,zj,B0,reduceIte,a8]
 refine qq (v:=d6) rfl ?_
 obtain ⟨x290,hx291,hF292⟩:=qk hk211
 simp only [f285,zz,qi,yh,B0,reduceIte,a8]
 obtain ⟨b293,hb294⟩:=a24 hv281 (j7 hx291)
 refine qq (SlN.ia hv281 hb294 hx291) ?_
 obtain ⟨c295,cs296,os297,hv298,hR299,hS300⟩:=a2d (a2f hv281 hb294 Peer.RO.len) hx291 zt Peer.RO.len hS284
 obtain ⟨v302,c303,v306,c307,hv304,hv308,rfl,rfl⟩:=hR299
 have hS301:=a2j hS300
 simp only [zl,qi,o7,o8,o9,qv,zj,B0,reduceIte,a8]
 refine qq (v:=v306) ((a15 (o:=4) hv298 rfl hx291 hS301 (nle rfl)).trans rfl) ?_
 simp only [f285,zz,qi,f286,zl,o7,o8,o9,qn,zj,B0,reduceIte,a8]
 refine qq (v:=d6) rfl ?_
 simp only [f285,zz,qi,yh,B0,reduceIte,a8]
 refine qq (SlG.ia hv298 hx291) ?_
 simp only [zl,qi,o7,o8,o9,qv,zj,B0,reduceIte,a8]
 refine qq (v:=v302) ((a15 (o:=2) hv298 rfl hx291 hS301 (nle rfl)).trans rfl) ?_
 obtain ⟨x310,hx311,hF312⟩:=qk hF292
 simp only [wm,qi,a1p hv304,yh,B0,reduceIte,a8]
 obtain ⟨b313,hb314⟩:=a19 hv308 (j7 hx311)
 refine qq (a27 hv308 hb314 hx311) ?_
 simp only [xx,B0,reduceIte,a8]
 refine qe6 (f:=cI) (x':=(p9 x290.Log:Int)) (o:=0) hv308 (s9 hS301) hW hb314 hx311 (fun _=>rfl) rfl rfl (nle rfl) rfl
   (fun c317 h315 hv318 hS316=>?_)
 have hx319:=kt (x':=(p9 x290.Log:Int)) hx311
 simp only [za,qf,qe,f286,ql,B0,reduceIte,a8]
 refine qd (v := .agg [d6,d7]) rfl ?_
 simp only [f287,zh,B0,reduceIte,a8]
 refine qy (us:=[d6,d7]) rfl (cs':=[d6,
   d7]) (a0j hS316) hW rfl (qp (a3i hv298) (qp (a0n e8) zp)) (nle rfl) rfl (fun h320 hS321=>?_)
 simp only [qg,qa,zc,B0,reduceIte,a8]
 obtain ⟨c322,hv323,hS324⟩:=a3e (e':=(Peer.mk x290.Term x290.Leads x290.Log x290.Commit (a1b x290.Match a9.toNat (p9 x290.Log:Int)))) (c:=c295)
   (os:=c303++(c317)) hv298 rfl hx291 zt (Peer.RI (x:=(Peer.mk x290.Term x290.Leads x290.Log x290.Commit (a1b x290.Match a9.toNat
   (p9 x290.Log:Int)))) hv304 hv318) (a1f (c1:=c303) (c2:=c317) (t5 (t5 (t6 hS321))))
 have hx325:=kt (x':=(Peer.mk x290.Term x290.Leads x290.Log x290.Commit (a1b x290.Match a9.toNat (p9 x290.Log:Int)))) hx291
 have hv326:=a1e hv323
 have he:=qj hF312
 subst he
 refine jl (qt (jr (bb:=b5) (oo:=0) (v := .agg [d6,
   d7]) (f287) ((zw (a0g _ _ _ (t6 hS324))).trans rfl)) (qt (kz (v := .bool true) (rfl)) zm)) ?_
 exact ⟨c322,d9,by first | trivial | rfl,hv326,e8,(t6 (t6 (a0k (t6 hS324))))⟩
theorem qm6 {W:Nat→Bool}{h:Heap}{lo:Nat→Prop}{S0:List Obj} (hW:∀ b,
  lo b→W b=true) (d8:Raft) (d6:XV) (f4:List Obj) (e9:SlN Peer.R 5 43 d6 d8.Peers f4) (d7:XV) (d9:List Obj)
  (e8:SlN Mail.R 9 86 d7 d8.Mail d9) (a9:RaftStep) (r:Raft × Bool) (hF:ud d8 a9=some r) (hS:Sep h lo (f4++(d9 ++
  (S0)))) : Ret E W 78 [.agg [d6,d7],.agg [.int .i64 a9.Kind,.int .i64 a9.K,.int .i64 a9.To,.int .i64 a9.N]] h (fun v h'=>∃ g9 i5 i0,
  v = .tup [.agg [d6,i5],.bool r.2]∧SlN Peer.R 5 43 d6 r.1.Peers g9∧SlN Mail.R 9 86 i5 r.1.Mail i0∧Sep h' lo (g9++(i0++(S0)))):=by
 refine Ret.of (fn:=x78) rfl (Run.of ?_)
 unfold ud at hF
 have zf0:zk [.agg [d6,d7],.agg [.int .i64 a9.Kind,.int .i64 a9.K,.int .i64 a9.To,.int .i64 a9.N]] 0 = .agg [d6,d7]:=rfl
 have zf1:zk [.agg [d6,d7],.agg [.int .i64 a9.Kind,.int .i64 a9.K,.int .i64 a9.To,.int .i64 a9.N]] 1 = .agg [.int .i64 a9.Kind,.int .i64 a9.K,
   .int .i64 a9.To,.int .i64 a9.N]:=rfl
 generalize zk [.agg [d6,d7],.agg [.int .i64 a9.Kind,.int .i64 a9.K,.int .i64 a9.To,.int .i64 a9.N]]=fr0 at zf0 zf1 ⊢
 simp only [x78,qf,qe,ym,zf0,B0,reduceIte,a8]
 refine ko (cs:=[d6,d7]) hS rfl rfl (qp (a0n e9) (qp (a0n e8) zp)) (fun b1 h2 hS3=>?_)
 simp only [ym,zf1,B0,reduceIte,a8]
 refine ko (cs:=[.int .i64 a9.Kind,.int .i64 a9.K,.int .i64 a9.To,.int .i64 a9.N]) hS3 rfl rfl rfl (fun b5 h6 hS7=>?_)
 simp only [ji,B0,reduceIte,a8]
 refine z6 hS7 (fun b9 h10 hS11=>?_)
 simp only [qg,qa,B0,reduceIte,a8]
 refine jc (t6 hS11) hW (by simp only [B0,reduceIte,a8]) (fun h13 hS14=>?_)
 simp only [z5,qvl,qf,qe,qo,qb,o7,o8,o9,qv,ql,B0,reduceIte,a8]
 refine qd (v:=d6) ((ja (a0g _ _ _ (t6 hS14))).trans rfl) ?_
 simp only [qo,qb,o7,o8,o9,qn,ql,B0,reduceIte,a8]
 refine qd (v := .int .i64 a9.K) rfl ?_
 obtain ⟨x15,hx16,hF17⟩:=qk hF
 simp only [jj,B0,reduceIte,a8]
 obtain ⟨b18,hb19⟩:=a24 e9 (j7 hx16)
 refine qd (SlN.ia e9 hb19 hx16) ?_
 obtain ⟨c20,cs21,os22,hv23,hR24,hS25⟩:=a2d (a2f e9 hb19 Peer.RO.len) hx16 zt Peer.RO.len (s9 hS14)
 obtain ⟨v27,c28,v31,c32,hv29,hv33,rfl,rfl⟩:=hR24
 have hS26:=a2j hS25
 simp only [ql,B0,reduceIte,a8]
 refine qd (v := .agg [.int .i64 x15.Term,.bool x15.Leads,v27,.int .i64 x15.Commit,v31]) ((SlG.lds (o:=0) hv23 rfl hx16 hS26 (nle rfl)).trans rfl) ?_
 simp only [ji,B0,reduceIte,a8]
 refine z6 hS26 (fun b35 h36 hS37=>?_)
 simp only [zh,B0,reduceIte,a8]
 refine qy (us:=[.int .i64 x15.Term,.bool x15.Leads,v27,.int .i64 x15.Commit,v31]) rfl (cs':=[.int .i64 x15.Term,.bool x15.Leads,v27,.int .i64 x15.Commit,
   v31]) hS37 hW rfl (qp rfl (qp rfl (qp (a01 hv29) (qp rfl (qp (a01 hv33) zp))))) (nle rfl) rfl (fun h39 hS40=>?_)
 simp only [qa,B0,reduceIte,a8]
 refine jc hS40 hW (by simp only [B0,reduceIte,a8]) (fun h41 hS42=>?_)
 simp only [z5,q0b,qf,qe,ql,B0,reduceIte,a8]
 refine qd (v := .agg [d6,d7]) ((zw (a0g _ _ _ (a0j hS42))).trans rfl) ?_
 simp only [qo,qb,o7,o8,o9,qn,ql,B0,reduceIte,a8]
 refine qd (v := .int .i64 a9.To) rfl ?_
 obtain ⟨c43,hv44,hS45⟩:=a1h (c:=c20) (os:=c28++(c32)) hv23 rfl hx16 zt (Peer.RI (x:=x15) hv29 hv33) (a1f (c1:=c28) (c2:=c32) (s9 (s9
   (s9 hS42))))
 have hv46:=a1e hv44
 simp only [zi,B0,reduceIte,a8]
 refine jx rfl (qt (wk (qt (SlN.snap hv46 _ hS45 rfl Peer.RO) (qt (SlN.snap e8 _ (t5 hS45) rfl Mail.RO) zm))) (qt zb zm))
   (qid (fun b hb=>decide_eq_true hb) d8 a9.To _ rfl) ?_
 simp only [jq,qb,kq,qg,B0,reduceIte,a8]
 refine jf 6 (fun fr' h'=>Sep h' lo ([Blk1 b1 [d6,d7] 29]++([Blk1 b9 [.nil,
   .nil] 29]++(c28++(c32++(c20++(d9++(S0)))))))∧fr' 25 = .bool ((!(kf d8 a9.To))||(decide
   (a9.To=a9.K)))∧fr' 2 = .ptr b1 0∧fr' 3 = .ref [.int .i64 a9.Kind,.int .i64 a9.K,.int .i64 a9.To,
   .int .i64 a9.N] 0∧fr' 4 = .ptr b9 0∧fr' 6 = .ref [.int .i64 x15.Term,.bool x15.Leads,v27,.int .i64 x15.Commit,v31] 0) (fun Q47 hN48=>?_) ?_
 ·simp only [s5,t4]
  simp only [qc (g:=19),B0,reduceIte,a8]
  refine zf (t:=(!(kf d8 a9.To))) (fun hg49=>?_) (fun hg49=>?_)
  ·simp only [hg49,qc (g:=19),zx,qw,qb,zo,qa,qm,B0,reduceIte,a8]
   exact hN48 _ _ ⟨(t8 (a0j (t5 (t5 (t6 (t8 hS42)))))),by rw [orT hg49]; simp only [B0,reduceIte,a8],rfl,rfl,rfl,rfl⟩
  ·simp only [hg49,qc (g:=19),qr,qo,qb,o7,o8,o9,qn,ql,B0,reduceIte,a8]
   refine qd (v := .int .i64 a9.To) rfl ?_
   simp only [hg49,qc (g:=19),qr,qo,qb,o7,o8,o9,qn,ql,B0,reduceIte,a8]
   refine qd (v := .int .i64 a9.K) rfl ?_
   simp only [hg49,qc (g:=19),qr,qx,qb,ku,qw,zn,qa,qm,B0,reduceIte,a8]
   exact hN48 _ _ ⟨(t8 (a0j (t5 (t5 (t6 (t8 hS42)))))),by rw [orF hg49]; simp only [B0,reduceIte,a8],rfl,rfl,rfl,rfl⟩
 rintro fr50 h56 ⟨hS57,f51,f52,f53,f54,f55⟩
 simp only [s6,t3]
 simp only [f51,qg,B0,reduceIte,a8]
 refine jf 4 (fun fr' h'=>Sep h' lo ([Blk1 b1 [d6,d7] 29]++([Blk1 b9 [.nil,
   .nil] 29]++(c28++(c32++(c20++(d9++(S0)))))))∧fr' 30 = .bool (((!(kf d8 a9.To))||(decide (a9.To=a9.K)))||(decide
   (a9.N<0)))∧fr' 2 = .ptr b1 0∧fr' 3 = .ref [.int .i64 a9.Kind,.int .i64 a9.K,.int .i64 a9.To,
   .int .i64 a9.N] 0∧fr' 4 = .ptr b9 0∧fr' 6 = .ref [.int .i64 x15.Term,.bool x15.Leads,v27,.int .i64 x15.Commit,v31] 0) (fun Q58 hN59=>?_) ?_
 ·simp only [s5,t4]
  simp only [qc (g:=26),B0,reduceIte,a8]
  refine zf (t:=((!(kf d8 a9.To))||(decide (a9.To=a9.K)))) (fun hg60=>?_) (fun hg60=>?_)
  ·simp only [hg60,qc (g:=26),zx,qw,qb,zo,qa,qm,B0,reduceIte,a8]
   exact hN59 _ _ ⟨(t8 (t8 (t8 (t8 (t8 (t8 hS57)))))),by rw [orT hg60]; simp only [B0,reduceIte,a8],f52,f53,f54,f55⟩
  ·simp only [hg60,qc (g:=26),qr,f53,qo,qb,o7,o8,o9,qn,ql,B0,reduceIte,a8]
   refine qd (v := .int .i64 a9.N) rfl ?_
   simp only [hg60,qc (g:=26),qr,qx,qb,qch,qw,zn,qa,qm,B0,reduceIte,a8]
   exact hN59 _ _ ⟨(t8 (t8 (t8 (t8 (t8 (t8 hS57)))))),by rw [orF hg60]; simp only [B0,reduceIte,a8],f52,f53,f54,f55⟩
 rintro fr61 h67 ⟨hS68,f62,f63,f64,f65,f66⟩
 simp only [s6,t3]
 simp only [f62,qg,B0,reduceIte,a8]
 refine jf 7 (fun fr' h'=>Sep h' lo ([Blk1 b1 [d6,d7] 29]++([Blk1 b9 [.nil,
   .nil] 29]++(c28++(c32++(c20++(d9++(S0)))))))∧fr' 38 = .bool ((((!(kf d8 a9.To))||(decide (a9.To=a9.K)))||(decide (a9.N<0))) ||
   (decide ((p9 x15.Log:Int)<a9.N)))∧fr' 2 = .ptr b1 0∧fr' 3 = .ref [.int .i64 a9.Kind,.int .i64 a9.K,.int .i64 a9.To,
   .int .i64 a9.N] 0∧fr' 4 = .ptr b9 0∧fr' 6 = .ref [.int .i64 x15.Term,.bool x15.Leads,v27,.int .i64 x15.Commit,v31] 0) (fun Q69 hN70=>?_) ?_
 ·simp only [s5,t4]
  simp only [qc (g:=31),B0,reduceIte,a8]
  refine zf (t:=(((!(kf d8 a9.To))||(decide (a9.To=a9.K)))||(decide (a9.N<0)))) (fun hg71=>?_) (fun hg71=>?_)
  ·simp only [hg71,qc (g:=31),zx,qw,qb,zo,qa,qm,B0,reduceIte,a8]
   exact hN70 _ _ ⟨(t8 (t8 (t8 (t8 (t8 (t8 hS68)))))),by rw [orT hg71]; simp only [B0,reduceIte,a8],f63,f64,f65,f66⟩
  ·simp only [hg71,qc (g:=31),qr,f64,qo,qb,o7,o8,o9,qn,ql,B0,reduceIte,a8]
   refine qd (v := .int .i64 a9.N) rfl ?_
   simp only [hg71,qc (g:=31),qr,f66,qo,qb,o7,o8,o9,qn,ql,B0,reduceIte,a8]
   refine qd (v:=v27) rfl ?_
   simp only [hg71,qc (g:=31),qr,zq,qb,a1p hv29,qx,ww,qw,zn,qa,qm,B0,reduceIte,a8]
   exact hN70 _ _ ⟨(t8 (t8 (t8 (t8 (t8 (t8 hS68)))))),by rw [orF hg71]; simp only [B0,reduceIte,a8],f63,f64,f65,f66⟩
 rintro fr72 h78 ⟨hS79,f73,f74,f75,f76,f77⟩
 simp only [s6,t3]
 simp only [f73,qg,B0,reduceIte,a8]
 refine jf 5 (fun fr' h'=>Sep h' lo ([Blk1 b1 [d6,d7] 29]++([Blk1 b9 [.nil,
   .nil] 29]++(c28++(c32++(c20++(d9++(S0)))))))∧fr' 44 = .bool (((((!(kf d8 a9.To))||(decide (a9.To=a9.K)))||(decide (a9.N<0))) ||
   (decide ((p9 x15.Log:Int)<a9.N)))||(decide ((p9 d8.Mail:Int)=20)))∧fr' 2 = .ptr b1 0∧fr' 3 = .ref [.int .i64 a9.Kind,.int .i64 a9.K,
   .int .i64 a9.To,.int .i64 a9.N] 0∧fr' 4 = .ptr b9 0∧fr' 6 = .ref [.int .i64 x15.Term,.bool x15.Leads,v27,.int .i64 x15.Commit,v31] 0) (fun Q80 hN81=>?_) ?_
 ·simp only [s5,t4]
  simp only [qc (g:=39),B0,reduceIte,a8]
  refine zf (t:=((((!(kf d8 a9.To))||(decide (a9.To=a9.K)))||(decide (a9.N<0)))||(decide ((p9 x15.Log:Int)<a9.N))))
    (fun hg82=>?_) (fun hg82=>?_)
  ·simp only [hg82,qc (g:=39),zx,qw,qb,zo,qa,qm,B0,reduceIte,a8]
   exact hN81 _ _ ⟨(t8 (t8 (t8 (t8 (t8 (t8 hS79)))))),by rw [orT hg82]; simp only [B0,reduceIte,a8],f74,f75,f76,f77⟩
  ·simp only [hg82,qc (g:=39),qr,f74,qo,qb,o7,o8,o9,qv,ql,B0,reduceIte,a8]
   refine qd (v:=d7) ((ja (a0g _ _ _ hS79)).trans rfl) ?_
   simp only [hg82,qc (g:=39),qr,zq,qb,SlN.len e8,qx,ku,qw,zn,qa,qm,B0,reduceIte,a8]
   exact hN81 _ _ ⟨(t8 (t8 (t8 (t8 (t8 (t8 hS79)))))),by rw [orF hg82]; simp only [B0,reduceIte,a8],f74,f75,f76,f77⟩
 rintro fr83 h89 ⟨hS90,f84,f85,f86,f87,f88⟩
 simp only [s6,t3]
 simp only [qa,q3t,f84,q8,B0,reduceIte,a8]
 refine q9 (t:=(((((!(kf d8 a9.To))||(decide (a9.To=a9.K)))||(decide (a9.N<0)))||(decide ((p9 x15.Log:Int)<a9.N)))||(decide
   ((p9 d8.Mail:Int)=20)))) (fun hc91=>?_) (fun hc91=>?_)
 ·rw [iteT hc91] at hF17
  simp only [qf,qe,f85,ql,B0,reduceIte,a8]
  refine qd (v := .agg [d6,d7]) ((zw (a0g _ _ _ hS90)).trans rfl) ?_
  simp only [f87,zh,B0,reduceIte,a8]
  refine qy (us:=[d6,d7]) rfl (cs':=[d6,d7]) (t6 hS90) hW rfl (qp (a3i hv23) (qp (a0n e8) zp)) (nle rfl) rfl (fun h92 hS93=>?_)
  simp only [qg,qa,zc,B0,reduceIte,a8]
  obtain ⟨c94,hv95,hS96⟩:=a1h (c:=c20) (os:=c28++(c32)) hv23 rfl hx16 zt (Peer.RI (x:=x15) hv29 hv33) (a1f (c1:=c28) (c2:=c32) (a0j (t5
    (t5 hS93))))
  have hv97:=a1e hv95
  have he:=qj hF17
  subst he
  refine jl (qt (jr (bb:=b9) (oo:=0) (v := .agg [d6,
    d7]) (f87) ((zw (a0g _ _ _ (t6 hS96))).trans rfl)) (qt (kz (v := .bool false) (rfl)) zm)) ?_
  exact ⟨c94,d7,d9,by first | trivial | rfl,hv97,e8,(t6 (t6 (a0k (t6 (a0k (t6 hS96))))))⟩
 rw [iteF hc91] at hF17
 simp only [zd,q3q,qf,qe,f86,qo,qb,o7,o8,o9,qn,ql,B0,reduceIte,a8]
 refine qd (v := .int .i64 a9.K) rfl ?_
 simp only [f86,qo,qb,o7,o8,o9,qn,ql,B0,reduceIte,a8]
 refine qd (v := .int .i64 a9.To) rfl ?_
 simp only [f88,qo,qb,o7,o8,o9,qn,ql,B0,reduceIte,a8]
 refine qd (v := .int .i64 x15.Term) rfl ?_
 simp only [f86,qo,qb,o7,o8,o9,qn,ql,B0,reduceIte,a8]
 refine qd (v := .int .i64 a9.N) rfl ?_
 simp only [f88,qo,qb,o7,o8,o9,qn,ql,B0,reduceIte,a8]
 refine qd (v := .int .i64 x15.Commit) rfl ?_
 simp only [run_build,evp,B0,reduceIte,a8]
 refine qd (v := .agg [.bool false,.int .i64 a9.K,.int .i64 a9.To,.int .i64 x15.Term,.int .i64 a9.N,.int .i64 (-1),.nil,.int .i64 x15.Commit,.int .i64 0]) rfl ?_
 simp only [ji,B0,reduceIte,a8]
 refine z6 hS90 (fun b98 h99 hS100=>?_)
 simp only [zh,B0,reduceIte,a8]
 refine qy (us:=[.bool false,.int .i64 a9.K,.int .i64 a9.To,.int .i64 x15.Term,.int .i64 a9.N,.int .i64 (-1),.nil,.int .i64 x15.Commit,
   .int .i64 0]) rfl (cs':=[.bool false,.int .i64 a9.K,.int .i64 a9.To,.int .i64 x15.Term,.int .i64 a9.N,.int .i64 (-1),.nil,.int .i64 x15.Commit,
   .int .i64 0]) hS100 hW rfl rfl (nle rfl) rfl (fun h102 hS103=>?_)
 simp only [qa,q21,qf,qe,f86,qo,qb,o7,o8,o9,qn,ql,B0,reduceIte,a8]
 refine qd (v := .int .i64 a9.N) rfl ?_
 simp only [qx,qb,ww,qa,q7f,q8,B0,reduceIte,a8]
 obtain ⟨s104,hX106,hk107⟩:=qk hF17
 refine wj (t:=(decide ((0:Int)<a9.N))) (fun fr' h'=>fr' 2 = .ptr b1 0∧fr' 3 = .ref [.int .i64 a9.Kind,.int .i64 a9.K,.int .i64 a9.To,
   .int .i64 a9.N] 0∧fr' 4 = .ptr b9 0∧fr' 6 = .ref [.int .i64 x15.Term,.bool x15.Leads,v27,.int .i64 x15.Commit,
   v31] 0∧fr' 7 = .ptr b98 0∧Sep h' lo ([Blk1 b1 [d6,d7] 29]++([Blk1 b9 [.nil,.nil] 29]++(c28++(c32++([Blk1 b98 [.bool s104.Reply,.int .i64 s104.From,
   .int .i64 s104.To,.int .i64 s104.Term,.int .i64 s104.Prev,.int .i64 s104.PTerm,.nil,.int .i64 s104.Commit,
   .int .i64 s104.Match] 86]++(c20++(d9++(S0))))))))) (fun Q108 hN109 hR110 hE111=>⟨fun hc112=>?_,fun hc112=>?_⟩) ?_
 ·rw [iteT hc112] at hX106
  simp only [q69,qe,f88,qo,qb,o7,o8,o9,qn,ql,B0,reduceIte,a8]
  refine qd (v:=v27) rfl ?_
  simp only [f86,qo,qb,o7,o8,o9,qn,ql,B0,reduceIte,a8]
  refine qd (v := .int .i64 a9.N) rfl ?_
  obtain ⟨x113,hx114,hF115⟩:=qk hX106
  simp only [qx,qb,qbp,jj,B0,reduceIte,a8]
  obtain ⟨b116,hb117⟩:=a19 hv29 (j7 hx114)
  refine qd (a27 hv29 hb117 hx114) ?_
  simp only [qo,qb,o7,o8,o9,qv,ql,B0,reduceIte,a8]
  refine qd (v := .int .i64 x113.Term) ((SlF.ld (o:=0) hv29 (t5 hS103) hb117 hx114 (fun _=>rfl) (nle rfl)).trans rfl) ?_
  simp only [qo,qb,o7,o8,o9,qv,zh,B0,reduceIte,a8]
  refine qy (us:=[.int .i64 x113.Term]) rfl (cs':=[.bool false,.int .i64 a9.K,.int .i64 a9.To,.int .i64 x15.Term,.int .i64 a9.N,.int .i64 x113.Term,.nil,
    .int .i64 x15.Commit,.int .i64 0]) hS103 hW rfl rfl (nle rfl) rfl (fun h118 hS119=>?_)
  simp only [qa,qm,B0,reduceIte,a8]
  have e120:=qj hF115
  subst e120
  exact hN109 _ _ ⟨f85,f86,f87,f88,rfl,(a20 (a20 (a20 (a20 (s9 (a20 (a20 hS119)))))))⟩
 ·rw [iteF hc112] at hX106
  simp only [zd,qm,B0,reduceIte,a8]
  have e121:=qj hX106
  subst e121
  exact hN109 _ _ ⟨f85,f86,f87,f88,rfl,(a20 (a20 (a20 (a20 (s9 (a20 (a20 hS103)))))))⟩
 rintro fr122 h123 ⟨f125,f126,f127,f128,f129,hS124⟩
 unfold qdk at hk107
 simp only [q3j,qf,qe,f126,qo,qb,o7,o8,o9,qn,ql,B0,reduceIte,a8]
 refine qd (v := .int .i64 a9.N) rfl ?_
 simp only [f128,qo,qb,o7,o8,o9,qn,ql,B0,reduceIte,a8]
 refine qd (v:=v27) rfl ?_
 simp only [zq,qb,a1p hv29,qx,qch,qa,q8t,q8,B0,reduceIte,a8]
 obtain ⟨sv141,hX139,hk140⟩:=qk hk107
 refine wj (t:=(decide (a9.N<(p9 x15.Log:Int)))) (fun fr' h'=>∃ v132 c133 c136,
   fr' 2 = .ptr b1 0∧fr' 4 = .ptr b9 0∧fr' 7 = .ptr b98 0∧SlF qh 2 65 v132 sv141.1.Entry c133∧SlN Peer.R 5 43 d6 sv141.2 c136∧Sep h' lo ([Blk1 b1 [d6,
   d7] 29]++([Blk1 b9 [.nil,.nil] 29]++([Blk1 b98 [.bool sv141.1.Reply,.int .i64 sv141.1.From,.int .i64 sv141.1.To,.int .i64 sv141.1.Term,.int .i64 sv141.1.Prev,
   .int .i64 sv141.1.PTerm,v132,.int .i64 sv141.1.Commit,
   .int .i64 sv141.1.Match] 86]++(c136++(d9++(c133++(S0)))))))) (fun Q142 hN143 hR144 hE145=>⟨fun hc146=>?_,fun hc146=>?_⟩) ?_
 ·rw [iteT hc146] at hX139
  simp only [q4o,qe,f128,qo,qb,o7,o8,o9,qn,ql,B0,reduceIte,a8]
  refine qd (v:=v27) rfl ?_
  simp only [f126,qo,qb,o7,o8,o9,qn,ql,B0,reduceIte,a8]
  refine qd (v := .int .i64 a9.N) rfl ?_
  obtain ⟨x147,hx148,hF149⟩:=qk hX139
  simp only [jj,B0,reduceIte,a8]
  obtain ⟨b150,hb151⟩:=a19 hv29 (j7 hx148)
  refine qd (a27 hv29 hb151 hx148) ?_
  simp only [ql,B0,reduceIte,a8]
  refine qd (v := .agg [.int .i64 x147.Term,.int .i64 x147.Value]) ((SlF.lds (o:=0) hv29 (s9 hS124) hb151 hx148 (fun _=>rfl) (nle rfl)).trans rfl) ?_
  simp only [jy,evp,B0,reduceIte,a8]
  refine kg (n:=2) (f:=qh) [x147] hS124 rfl rfl (fun v152 c153 h154 hv155 hS156=>?_)
  simp only [f129,qo,qb,o7,o8,o9,qv,zh,B0,reduceIte,a8]
  refine qy (us:=[v152]) (jp (a01 hv155)) (cs':=[.bool s104.Reply,.int .i64 s104.From,.int .i64 s104.To,.int .i64 s104.Term,.int .i64 s104.Prev,
    .int .i64 s104.PTerm,v152,.int .i64 s104.Commit,.int .i64 s104.Match]) (t8 hS156) hW rfl (qp (a01 hv155) zp) (nle rfl) rfl (fun h158 hS159=>?_)
  simp only [qa,qm,B0,reduceIte,a8]
  obtain ⟨c160,hv161,hS162⟩:=a1h (c:=c20) (os:=c28++(c32)) hv23 rfl hx16 zt (Peer.RI (x:=x15) hv29 hv33) (a1f (c1:=c28) (c2:=c32) (a20 (t8
    (t8 hS159))))
  have hv163:=a1e hv161
  have e164:=qj hF149
  subst e164
  exact hN143 _ _ ⟨v152,c153,c160,f125,f127,f129,hv155,hv163,(t8 (t8 (t5 (s9 (t8 (s9 hS162))))))⟩
 ·rw [iteF hc146] at hX139
  simp only [zd,qm,B0,reduceIte,a8]
  obtain ⟨c165,hv166,hS167⟩:=a1h (c:=c20) (os:=c28++(c32)) hv23 rfl hx16 zt (Peer.RI (x:=x15) hv29 hv33) (a1f (c1:=c28) (c2:=c32) (t8 (t5
    (t5 hS124))))
  have hv168:=a1e hv166
  have e169:=qj hX139
  subst e169
  exact hN143 _ _ ⟨.nil,[],c165,f125,f127,f129,SlF.nil,hv168,((a0j (a0j (a0j (t6 (a0j hS167))))) : Sep _ lo ([Blk1 b1 [d6,
    d7] 29]++([Blk1 b9 [.nil,.nil] 29]++([Blk1 b98 [.bool s104.Reply,.int .i64 s104.From,.int .i64 s104.To,.int .i64 s104.Term,.int .i64 s104.Prev,
    .int .i64 s104.PTerm,.nil,.int .i64 s104.Commit,.int .i64 s104.Match] 86]++(c165++(d9++(S0)))))))⟩
 rintro fr170 h171 ⟨v132,c133,c136,f173,f174,f175,hv134,hv137,hS172⟩
 obtain ⟨s130,s135⟩:=sv141
 dsimp only at *
 unfold qe7 at hk140
 simp only [q8w,qf,qe,f173,qo,qb,o7,o8,o9,qv,ql,B0,reduceIte,a8]
 refine qd (v:=d7) ((ja (a0g _ _ _ hS172)).trans rfl) ?_
 simp only [f175,ql,B0,reduceIte,a8]
 refine qd (v := .agg [.bool s130.Reply,.int .i64 s130.From,.int .i64 s130.To,.int .i64 s130.Term,.int .i64 s130.Prev,.int .i64 s130.PTerm,v132,.int .i64 s130.Commit,
   .int .i64 s130.Match]) ((zw (a0g _ _ _ (s9 hS172))).trans rfl) ?_
 simp only [jy,evp,B0,reduceIte,a8]
 refine ux (R:=Mail.R) (n:=9) (cs:=[.bool s130.Reply,.int .i64 s130.From,.int .i64 s130.To,.int .i64 s130.Term,.int .i64 s130.Prev,.int .i64 s130.PTerm,
   v132,.int .i64 s130.Commit,.int .i64 s130.Match]) (os:=c133) (t8 hS172) (qel (us:=[.bool s130.Reply,.int .i64 s130.From,.int .i64 s130.To,.int .i64 s130.Term,
   .int .i64 s130.Prev,.int .i64 s130.PTerm,v132,.int .i64 s130.Commit,.int .i64 s130.Match]) (vs:=[.bool s130.Reply,.int .i64 s130.From,.int .i64 s130.To,
   .int .i64 s130.Term,.int .i64 s130.Prev,.int .i64 s130.PTerm,v132,.int .i64 s130.Commit,
   .int .i64 s130.Match]) rfl rfl (nle rfl) (qp rfl (qp rfl (qp rfl (qp rfl (qp rfl (qp rfl (qp (a01 hv134) (qp rfl
   (qp rfl zp))))))))) rfl qek) (Mail.RI (x:=s130) hv134) rfl (fun v176 c177 h178 hv179 hS180=>?_)
 simp only [yv,B0,reduceIte,a8]
 obtain ⟨l182,hx183,hF184⟩:=qk hk140
 refine qa8 (R:=Mail.R) (c:=d9) e8 hv179 (t8 hS180) hW Mail.RO.len Mail.RO.one hx183 (fun v185 c186 h187 hv188 hS189=>?_)
 simp only [f173,qo,qb,o7,o8,o9,qv,zh,B0,reduceIte,a8]
 refine qy (us:=[v185]) (jp (a0n hv188)) (cs':=[d6,v185]) (t6 hS189) hW rfl (qp (a0n hv188) zp) (nle rfl) rfl (fun h191 hS192=>?_)
 simp only [qa,qf,qe,f173,ql,B0,reduceIte,a8]
 refine qd (v := .agg [d6,v185]) ((zw (a0g _ _ _ hS192)).trans rfl) ?_
 simp only [f174,zh,B0,reduceIte,a8]
 refine qy (us:=[d6,v185]) rfl (cs':=[d6,v185]) (s9 hS192) hW rfl (qp (a0n hv137) (qp (a0n hv188) zp)) (nle rfl) rfl (fun h193 hS194=>?_)
 simp only [qg,qa,zc,B0,reduceIte,a8]
 have he:=qj hF184
 subst he
 refine jl (qt (jr (bb:=b9) (oo:=0) (v := .agg [d6,
   v185]) (f174) ((zw (a0g _ _ _ hS194)).trans rfl)) (qt (kz (v := .bool true) (rfl)) zm)) ?_
 exact ⟨c136,v185,c186,by first | trivial | rfl,hv137,hv188,(t6 (a0k (t6 (a0k ((a0k (hS194)))))))⟩
end Go.Proofs.Ytanblnjomhgphaa.X
namespace Go.Proofs.Ytanblnjomhgphaa.X
open Go
theorem qk5 {W:Nat→Bool}{h:Heap}{lo:Nat→Prop}{S0:List Obj} (hW:∀ b,
  lo b→W b=true) (d8:Raft) (d6:XV) (f4:List Obj) (e9:SlN Peer.R 5 43 d6 d8.Peers f4) (d7:XV) (d9:List Obj)
  (e8:SlN Mail.R 9 86 d7 d8.Mail d9) (a9:Int) (i9:Int) (r:Raft × Bool) (hF:xn d8 a9 i9=some r) (hS:Sep h lo (f4++(d9 ++
  (S0)))) : Ret E W 79 [.agg [d6,d7],.int .i64 a9,.int .i64 i9] h (fun v h'=>∃ g9 i0,v = .tup [.agg [d6,d7],
  .bool r.2]∧SlN Peer.R 5 43 d6 r.1.Peers g9∧SlN Mail.R 9 86 d7 r.1.Mail i0∧Sep h' lo (g9++(i0++(S0)))):=by
 refine Ret.of (fn:=x79) rfl (Run.of ?_)
 unfold xn at hF
 have zf0:zk [.agg [d6,d7],.int .i64 a9,.int .i64 i9] 0 = .agg [d6,d7]:=rfl
 have zf1:zk [.agg [d6,d7],.int .i64 a9,.int .i64 i9] 1 = .int .i64 a9:=rfl
 have zf2:zk [.agg [d6,d7],.int .i64 a9,.int .i64 i9] 2 = .int .i64 i9:=rfl
 generalize zk [.agg [d6,d7],.int .i64 a9,.int .i64 i9]=fr0 at zf0 zf1 zf2 ⊢
 simp only [x79,qf,qe,ym,zf0,B0,reduceIte,a8]
 refine ko (cs:=[d6,d7]) hS rfl rfl (qp (a0n e9) (qp (a0n e8) zp)) (fun b1 h2 hS3=>?_)
 simp only [ji,B0,reduceIte,a8]
 refine z6 hS3 (fun b5 h6 hS7=>?_)
 simp only [qg,qa,B0,reduceIte,a8]
 refine jc (t6 hS7) hW (by simp only [B0,reduceIte,a8]) (fun h9 hS10=>?_)
 simp only [z5,qy2,qf,qe,qo,qb,o7,o8,o9,qn,ql,B0,reduceIte,a8]
 refine qd (v:=d6) rfl ?_
 obtain ⟨x11,hx12,hF13⟩:=qk hF
 simp only [zf1,qg,jj,B0,reduceIte,a8]
 obtain ⟨b14,hb15⟩:=a24 e9 (j7 hx12)
 refine qd (SlN.ia e9 hb15 hx12) ?_
 obtain ⟨c16,cs17,os18,hv19,hR20,hS21⟩:=a2d (a2f e9 hb15 Peer.RO.len) hx12 zt Peer.RO.len (t6 hS10)
 obtain ⟨v23,c24,v27,c28,hv25,hv29,rfl,rfl⟩:=hR20
 have hS22:=a2j hS21
 simp only [ql,B0,reduceIte,a8]
 refine qd (v := .agg [.int .i64 x11.Term,.bool x11.Leads,v23,.int .i64 x11.Commit,v27]) ((SlG.lds (o:=0) hv19 rfl hx12 hS22 (nle rfl)).trans rfl) ?_
 simp only [ji,B0,reduceIte,a8]
 refine z6 hS22 (fun b31 h32 hS33=>?_)
 simp only [zh,B0,reduceIte,a8]
 refine qy (us:=[.int .i64 x11.Term,.bool x11.Leads,v23,.int .i64 x11.Commit,v27]) rfl (cs':=[.int .i64 x11.Term,.bool x11.Leads,v23,.int .i64 x11.Commit,
   v27]) hS33 hW rfl (qp rfl (qp rfl (qp (a01 hv25) (qp rfl (qp (a01 hv29) zp))))) (nle rfl) rfl (fun h35 hS36=>?_)
 simp only [qa,B0,reduceIte,a8]
 refine jc hS36 hW (by simp only [B0,reduceIte,a8]) (fun h37 hS38=>?_)
 simp only [z5,qz0,qf,jg,zf2,zz,qi,zl,o7,o8,o9,qn,zj,B0,reduceIte,a8]
 refine qq (v := .int .i64 x11.Commit) rfl ?_
 simp only [j5,qi,qhn,zz,B0,reduceIte,a8]
 refine qac 6 (fun fr' h'=>Sep h' lo (c16++(d9++([Blk1 b5 [.nil,
   .nil] 29]++(c24++(c28++(S0))))))∧fr' 27 = .bool ((decide (i9≤x11.Commit))||(decide
   ((p9 x11.Log:Int)<i9)))∧fr' 1 = .int .i64 a9∧fr' 2 = .int .i64 i9∧fr' 3 = .ref [d6,d7] 0∧fr' 6 = .ptr b5 0∧fr' 8 = .ref [.int .i64 x11.Term,
   .bool x11.Leads,v23,.int .i64 x11.Commit,v27] 0) rfl (fun Q39 hN40=>?_) ?_
 ·simp only [s5,t4]
  simp only [qz (g:=21),B0,reduceIte,a8]
  refine ky (t:=(decide (i9≤x11.Commit))) (fun hg41=>?_) (fun hg41=>?_)
  ·simp only [hg41,qz (g:=21),xw,ki,qi,zo,za,qm,B0,reduceIte,a8]
   exact hN40 _ _ ⟨(a0j (a0j (t5 (s9 (s9 hS38))))),by rw [orT hg41]; simp only [B0,reduceIte,a8],zf1,zf2,rfl,rfl,rfl⟩
  ·simp only [hg41,qz (g:=21),jb,zf2,zz,qi,zl,o7,o8,o9,qn,zj,B0,reduceIte,a8]
   refine qq (v:=v23) rfl ?_
   simp only [hg41,qz (g:=21),jb,wm,qi,a1p hv25,j5,ww,ki,zn,za,qm,B0,reduceIte,a8]
   exact hN40 _ _ ⟨(a0j (a0j (t5 (s9 (s9 hS38))))),by rw [orF hg41]; simp only [B0,reduceIte,a8],zf1,zf2,rfl,rfl,rfl⟩
 rintro fr42 h49 ⟨hS50,f43,f44,f45,f46,f47,f48⟩
 simp only [s6,t3]
 simp only [f43,zz,qi,B0,reduceIte,a8]
 obtain ⟨v54,hx55,hF56⟩:=qk hF13
 refine qac 11 (fun fr' h'=>Sep h' lo (c16++(d9++([Blk1 b5 [.nil,
   .nil] 29]++(c24++(c28++(S0))))))∧fr' 39 = .bool v54∧fr' 1 = .int .i64 a9∧fr' 2 = .int .i64 i9∧fr' 3 = .ref [d6,
   d7] 0∧fr' 6 = .ptr b5 0∧fr' 8 = .ref [.int .i64 x11.Term,.bool x11.Leads,v23,.int .i64 x11.Commit,v27] 0) rfl (fun Q51 hN52=>?_) ?_
 ·simp only [s5,t4]
  simp only [qz (g:=28),B0,reduceIte,a8]
  refine ky (t:=((decide (i9≤x11.Commit))||(decide ((p9 x11.Log:Int)<i9)))) (fun hg53=>?_) (fun hg53=>?_)
  ·rw [iteT hg53] at hx55
   simp only [hg53,qz (g:=28),xw,ki,qi,zo,za,qm,B0,reduceIte,a8]
   have e57:=qj hx55
   exact hN52 _ _ ⟨(a0j (a0j (a0j (a0j (a0j hS50))))),by rw [←e57]; simp only [B0,reduceIte,a8],f44,f45,f46,f47,f48⟩
  ·rw [iteF hg53] at hx55
   simp only [hg53,qz (g:=28),jb,f48,zl,qi,o7,o8,o9,qn,zj,B0,reduceIte,a8]
   refine qq (v:=v23) rfl ?_
   obtain ⟨x58,hx59,hF60⟩:=qk hx55
   simp only [hg53,qz (g:=28),jb,f45,zz,qi,j5,qbp,yh,B0,reduceIte,a8]
   obtain ⟨b61,hb62⟩:=a19 hv25 (j7 hx59)
   refine qq (a27 hv25 hb62 hx59) ?_
   simp only [hg53,qz (g:=28),jb,zl,qi,o7,o8,o9,qv,zj,B0,reduceIte,a8]
   refine qq (v := .int .i64 x58.Term) ((SlF.ld (o:=0) hv25 (t5 hS50) hb62 hx59 (fun _=>rfl) (nle rfl)).trans rfl) ?_
   simp only [hg53,qz (g:=28),jb,f48,zl,qi,o7,o8,o9,qn,zj,B0,reduceIte,a8]
   refine qq (v := .int .i64 x11.Term) rfl ?_
   simp only [hg53,qz (g:=28),jb,j5,qi,wz,ki,zn,za,qm,B0,reduceIte,a8]
   have e63:=qj hF60
   exact hN52 _ _ ⟨(a0j (a0j (a0j (a0j (a0j hS50))))),by rw [←e63]; simp only [B0,reduceIte,a8],f44,f45,f46,f47,f48⟩
 rintro fr64 h71 ⟨hS72,f65,f66,f67,f68,f69,f70⟩
 simp only [s6,t3]
 simp only [za,q7g,f65,q8,B0,reduceIte,a8]
 refine q9 (t:=v54) (fun hc73=>?_) (fun hc73=>?_)
 ·rw [iteT hc73] at hF56
  simp only [qf,qe,f68,ql,B0,reduceIte,a8]
  refine qd (v := .agg [d6,d7]) rfl ?_
  simp only [f69,zh,B0,reduceIte,a8]
  refine qy (us:=[d6,d7]) rfl (cs':=[d6,d7]) (s9 hS72) hW rfl (qp (a3i hv19) (qp (a0n e8) zp)) (nle rfl) rfl (fun h74 hS75=>?_)
  simp only [qg,qa,zc,B0,reduceIte,a8]
  obtain ⟨c76,hv77,hS78⟩:=a1h (c:=c16) (os:=c24++(c28)) hv19 rfl hx12 zt (Peer.RI (x:=x11) hv25 hv29) (a1f (c1:=c24) (c2:=c28) (t5 (a0j
    (a0j hS75))))
  have hv79:=a1e hv77
  have he:=qj hF56
  subst he
  refine jl (qt (jr (bb:=b5) (oo:=0) (v := .agg [d6,
    d7]) (f69) ((zw (a0g _ _ _ (t6 hS78))).trans rfl)) (qt (kz (v := .bool false) (rfl)) zm)) ?_
  exact ⟨c76,d9,by first | trivial | rfl,hv79,e8,(t6 (t6 (a0k (t6 hS78))))⟩
 rw [iteF hc73] at hF56
 simp only [zd,q0e,qf,qe,qg,qa,qym,f70,qo,qb,o7,o8,o9,qn,ql,B0,reduceIte,
   a8]
 refine qd (v:=v27) rfl ?_
 simp only [zq,qb,a1p hv29,qg,qa,B0,reduceIte,a8]
 obtain ⟨oc84,hX86,hk87⟩:=kd hF56
 simp only [q5c]
 refine qas (σ:=Int) (fun i82 s116=>qbv i9 x11 i82 s116) (fun s fr' h'=>fr' 1 = .int .i64 a9∧fr' 2 = .int .i64 i9∧fr' 3 = .ref [d6,
   d7] 0∧fr' 6 = .ptr b5 0∧fr' 9 = .int .i64 s∧fr' 42=v27∧Sep h' lo (c16++(d9++([Blk1 b5 [.nil,.nil] 29]++(c28++(c24++(S0))))))) hX86 ⟨f66,f67,f68,
   f69,rfl,rfl,(a0j (a0j (a0j (a0j (t5 hS72)))))⟩ (by simp only [B0,reduceIte,a8]) (by simp only [B0,reduceIte,
   a8]) (fun _ _ _ h=>h) rfl rfl (fun _ _ _ _ h=>h) (fun _ _ _ _ h=>h) (fun _ _ _ _ h=>h) (by decide) ?_ ?_
 ·rintro i82 s81 fr96 h97 hx105 ⟨f99,f100,f101,f102,f103,f104,hS98⟩ f106 f107 oc85 hF88 hr89 Q90 hN91 hB95 hK92 hR93 hE94
  unfold qbv at hF88
  obtain ⟨x108,hx109,hF110⟩:=qk hF88
  simp only [q3l,qf,qe,f104,f106,jj,B0,reduceIte,a8]
  obtain ⟨b111,hb112⟩:=a19 hv29 (j7 hx109)
  refine qd (a27 hv29 hb112 hx109) ?_
  simp only [ql,B0,reduceIte,a8]
  refine qd (v := .int .i64 x108) ((SlF.ld (o:=0) hv29 (t5 hS98) hb112 hx109 (fun _=>rfl) (nle rfl)).trans rfl) ?_
  simp only [qg,qa,q5s,qf,qe,f100,qx,qb,qga,q3d,q8,B0,reduceIte,a8]
  refine q9 (t:=(decide (i9≤x108))) (fun hc113=>?_) (fun hc113=>?_)
  ·rw [iteT hc113] at hF110
   simp only [qe,f103,qg,qx,qb,ur,qa,qm,B0,reduceIte,a8]
   have e114:=qj hF110
   exact hN91 _ _ _ e114.symm ⟨f99,f100,f101,f102,rfl,f104,(a0j (a0j (a0j (a0j (a0j hS98)))))⟩ (f106) (f107)
  rw [iteF hc113] at hF110
  simp only [zd,qm,B0,reduceIte,a8]
  have e115:=qj hF110
  exact hN91 _ _ _ e115.symm ⟨f99,f100,f101,f102,f103,f104,(a0j (a0j (a0j (a0j (a0j hS98)))))⟩ (f106) (f107)
 rintro s117 fr118 h119 rfl ⟨f121,f122,f123,f124,f125,f126,hS120⟩
 dsimp only [jnO] at hk87
 unfold qb6 at hk87
 simp only [q51,qf,qe,f125,qg,qx,qb,qmt,f123,qo,o7,o8,o9,qn,ql,B0,reduceIte,a8]
 refine qd (v:=d6) rfl ?_
 simp only [zq,qb,SlG.plen hv19,qx,qhn,qa,q86,q8,B0,reduceIte,a8]
 refine q9 (t:=(decide ((r8 .i64 ((2:Int)*s117))≤(p9 d8.Peers:Int)))) (fun hc127=>?_) (fun hc127=>?_)
 ·rw [iteT hc127] at hk87
  simp only [qf,qe,f123,ql,B0,reduceIte,a8]
  refine qd (v := .agg [d6,d7]) rfl ?_
  simp only [f124,zh,B0,reduceIte,a8]
  refine qy (us:=[d6,d7]) rfl (cs':=[d6,
    d7]) (s9 hS120) hW rfl (qp (a3i hv19) (qp (a0n e8) zp)) (nle rfl) rfl (fun h128 hS129=>?_)
  simp only [qg,qa,zc,B0,reduceIte,a8]
  obtain ⟨c130,hv131,hS132⟩:=a1h (c:=c16) (os:=c24++(c28)) hv19 rfl hx12 zt (Peer.RI (x:=x11) hv25 hv29) (a1f (c1:=c24) (c2:=c28) (t5 (a0j
    (t5 hS129))))
  have hv133:=a1e hv131
  have he:=qj hk87
  subst he
  refine jl (qt (jr (bb:=b5) (oo:=0) (v := .agg [d6,
    d7]) (f124) ((zw (a0g _ _ _ (t6 hS132))).trans rfl)) (qt (kz (v := .bool false) (rfl)) zm)) ?_
  exact ⟨c130,d9,by first | trivial | rfl,hv133,e8,(t6 (t6 (a0k (t6 hS132))))⟩
 rw [iteF hc127] at hk87
 simp only [zd,q89,qf,qe,f123,qo,qb,o7,o8,o9,qn,ql,B0,reduceIte,a8]
 refine qd (v:=d6) rfl ?_
 simp only [f121,qg,f122,jj,B0,reduceIte,a8]
 refine qd (SlG.ia hv19 hx12) ?_
 simp only [qo,qb,o7,o8,o9,qv,zh,B0,reduceIte,a8]
 refine uh (n:=5) (us:=[.int .i64 i9]) (cs:=[.int .i64 x11.Term,.bool x11.Leads,v23,.int .i64 x11.Commit,v27]) (o:=3) (cs':=[.int .i64 x11.Term,
   .bool x11.Leads,v23,.int .i64 i9,v27]) rfl hv19 rfl hx12 hS120 hW rfl rfl (nle rfl) rfl (fun c136 h134 hv137 hS135=>?_)
 simp only [qa,qf,qe,f123,ql,B0,reduceIte,a8]
 refine qd (v := .agg [d6,d7]) rfl ?_
 simp only [f124,zh,B0,reduceIte,a8]
 refine qy (us:=[d6,d7]) rfl (cs':=[d6,
   d7]) (s9 hS135) hW rfl (qp (a3i hv137) (qp (a0n e8) zp)) (nle rfl) rfl (fun h138 hS139=>?_)
 simp only [qg,qa,zc,B0,reduceIte,a8]
 obtain ⟨c140,hv141,hS142⟩:=a3e (e':=(Peer.mk x11.Term x11.Leads x11.Log i9 x11.Match)) (c:=c136) (os:=c24++(c28)) hv137 rfl hx12 zt (Peer.RI (x :=
   (Peer.mk x11.Term x11.Leads x11.Log i9 x11.Match)) hv25 hv29) (a1f (c1:=c24) (c2:=c28) (t5 (a0j (t5 hS139))))
 have hx143:=kt (x':=(Peer.mk x11.Term x11.Leads x11.Log i9 x11.Match)) hx12
 have hv144:=a1e hv141
 have he:=qj hk87
 subst he
 refine jl (qt (jr (bb:=b5) (oo:=0) (v := .agg [d6,
   d7]) (f124) ((zw (a0g _ _ _ (t6 hS142))).trans rfl)) (qt (kz (v := .bool true) (rfl)) zm)) ?_
 exact ⟨c140,d9,by first | trivial | rfl,hv144,e8,(t6 (t6 (a0k (t6 hS142))))⟩
end Go.Proofs.Ytanblnjomhgphaa.X
