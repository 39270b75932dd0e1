/- The functions' code comes to what the plain functions say (4). -/
import Derived.Test.YtanblnjomhgphaaXAH3
open Go.IntKind renaming wrap→l9
open List renaming drop_succ_cons→s5,drop_zero→t6,length→o6,set→a0u,take_succ_cons→r8,take_zero→t8
open Nat renaming add_zero→n9,reduceAdd→n7,reduceEqDiff→a8,zero_add→n8
open Go.Proofs.Ytanblnjomhgphaa.X.Sep renaming bk→a0d,dc→a0g,m1→s9,m2→o8,m3→p9,m4→a0i,m5→v3,m6→a13,ni2→a07,no2→a2e
open Go.Proofs.Ytanblnjomhgphaa.X.SlF renaming ia→a2v,isrow→a1w,one→a0t,plen→a1o,snap→a2r
open Go.Proofs.Ytanblnjomhgphaa.X.SlG renaming cls0→a1a,cls→a20,ia→a24,ld→a1y,one→a3c,opn→a15,toN→a04
open Go.Proofs.Ytanblnjomhgphaa.X.SlN renaming isrow→a2z,one→a0j,toG→a18
set_option linter.unusedVariables false
set_option linter.unusedSimpArgs false
set_option maxRecDepth 100000
set_option maxHeartbeats 1000000
namespace Go.Proofs.Ytanblnjomhgphaa.X
open Go
theorem qlv {W:Nat→Bool}{h:Heap}{lo:Nat→Prop}{S0:List Obj} (hW:∀ b,
  lo b→W b=true) (k:Nat) (d8:Raft) (d4:XV) (f6:List Obj) (e9:SlN Peer.R 5 43 d4 d8.Peers f6) (d5:XV) (d7:List Obj)
  (e8:SlN Mail.R 9 86 d5 d8.Mail d7) (a9:Int) (i5:Int) (r:Raft × Bool) (hF:xm k d8 a9 i5=some r) (hS:Sep h lo (f6++(d7 ++
  (S0)))) : Ret E W 77 [.agg [d4,d5],.int .i64 a9,.int .i64 i5] h (fun v h'=>∃ g9 i0,v = .tup [.agg [d4,d5],
  .bool r.2]∧SlN Peer.R 5 43 d4 r.1.Peers g9∧SlN Mail.R 9 86 d5 r.1.Mail i0∧Sep h' lo (g9++(i0++(S0)))):=by
 refine Ret.of (fn:=x77) rfl (Run.of ?_)
 unfold xm at hF
 have zf0:zf [.agg [d4,d5],.int .i64 a9,.int .i64 i5] 0 = .agg [d4,d5]:=rfl
 have zf1:zf [.agg [d4,d5],.int .i64 a9,.int .i64 i5] 1 = .int .i64 a9:=rfl
 have zf2:zf [.agg [d4,d5],.int .i64 a9,.int .i64 i5] 2 = .int .i64 i5:=rfl
 generalize zf [.agg [d4,d5],.int .i64 a9,.int .i64 i5]=fr0 at zf0 zf1 zf2 ⊢
 simp only [x77,qd,qc,kt,zf0,B0,reduceIte,a8]
 refine j0 (cs:=[d4,d5]) hS rfl rfl (qk (a0j e9) (qk (a0j e8) zl)) (fun b1 h2 hS3=>?_)
 simp only [jm,B0,reduceIte,a8]
 refine z3 hS3 (fun b5 h6 hS7=>?_)
 simp only [qe,qa,B0,reduceIte,a8]
 refine z8 (s9 hS7) hW (by simp only [B0,reduceIte,a8]) (fun h9 hS10=>?_)
 obtain ⟨v11,hx12,hF13⟩:=qi hF
 simp only [z7,qtp,qd,qc,zf2,qe,zp,B0,reduceIte,a8]
 refine kh rfl (qp zg zm) (qnu (fun b hb=>decide_eq_true hb) k i5 v11 hx12) ?_
 simp only [qe,qa,qvb,qd,qc,ql,qb,n7,n8,n9,qn,qj,B0,reduceIte,a8]
 refine qf (v:=d4) rfl ?_
 obtain ⟨v14,hx15,hF16⟩:=qi hF13
 simp only [zr,qb,SlN.len e9,zp,B0,reduceIte,a8]
 refine kh rfl (qp jo (qp zg zm)) (qms (fun b hb=>decide_eq_true hb) v11 (o6 d8.Peers:Int) v14 hx15) ?_
 simp only [yk,qb,yw,qe,B0,reduceIte,a8]
 obtain ⟨v20,hx21,hF22⟩:=qi hF16
 refine ki 5 (fun fr' h'=>Sep h' lo (f6++(d7++([Blk1 b5 [.nil,.nil] 29]++(S0))))∧fr' 27 = .bool v20∧fr' 1 = .int .i64 a9∧fr' 3 = .ref [d4,
   d5] 0∧fr' 6 = .ptr b5 0∧fr' 8=lst cI v11) (fun Q17 hN18=>?_) ?_
 ·simp only [r8,t8]
  simp only [qm (g:=22),B0,reduceIte,a8]
  refine zv (t:=(!v14)) (fun hg19=>?_) (fun hg19=>?_)
  ·rw [iteT hg19] at hx21
   simp only [hg19,qm (g:=22),jp,zk,qb,z1,qa,qr,B0,reduceIte,a8]
   have e23:=qg hx21
   exact hN18 _ _ ⟨(o8 (o8 hS10)),by rw [←e23]; simp only [B0,reduceIte,a8],zf1,rfl,rfl,rfl⟩
  ·rw [iteF hg19] at hx21
   obtain ⟨v24,hx25,hF26⟩:=qi hx21
   simp only [hg19,qm (g:=22),zi,qe,zf1,zp,B0,reduceIte,a8]
   refine kh rfl (qp jo (qp zg zm)) (qoa (fun b hb=>decide_eq_true hb) v11 a9 v24 hx25) ?_
   simp only [hg19,qm (g:=22),zi,yk,qb,yw,zk,zz,qa,qr,B0,reduceIte,a8]
   have e27:=qg hF26
   exact hN18 _ _ ⟨(o8 (o8 hS10)),by rw [←e27]; simp only [B0,reduceIte,a8],zf1,rfl,rfl,rfl⟩
 rintro fr28 h34 ⟨hS35,f29,f30,f31,f32,f33⟩
 simp only [s5,t6]
 simp only [f29,qe,B0,reduceIte,a8]
 refine ki 8 (fun fr' h'=>Sep h' lo (f6++(d7++([Blk1 b5 [.nil,
   .nil] 29]++(S0))))∧fr' 36 = .bool (v20||(decide ((l9 .i64 ((2:Int)*(o6 v11:Int))) ≤
   (o6 d8.Peers:Int))))∧fr' 1 = .int .i64 a9∧fr' 3 = .ref [d4,d5] 0∧fr' 6 = .ptr b5 0∧fr' 8=lst cI v11) (fun Q36 hN37=>?_) ?_
 ·simp only [r8,t8]
  simp only [qm (g:=28),B0,reduceIte,a8]
  refine zv (t:=v20) (fun hg38=>?_) (fun hg38=>?_)
  ·simp only [hg38,qm (g:=28),jp,zk,qb,z1,qa,qr,B0,reduceIte,a8]
   exact hN37 _ _ ⟨(o8 (o8 (o8 hS35))),by rw [orT hg38]; simp only [B0,reduceIte,a8],f30,f31,f32,f33⟩
  ·simp only [hg38,qm (g:=28),zi,f33,qe,zr,qb,ja,qq,qrr,f31,ql,n7,n8,n9,qn,
    qj,B0,reduceIte,a8]
   refine qf (v:=d4) rfl ?_
   simp only [hg38,qm (g:=28),zi,zr,qb,SlN.len e9,qq,qjo,zk,zz,qa,qr,B0,reduceIte,a8]
   exact hN37 _ _ ⟨(o8 (o8 (o8 hS35))),by rw [orF hg38]; simp only [B0,reduceIte,a8],f30,f31,f32,f33⟩
 rintro fr39 h45 ⟨hS46,f40,f41,f42,f43,f44⟩
 simp only [s5,t6]
 simp only [qa,q49,f40,qv,B0,reduceIte,a8]
 refine qs (t:=(v20||(decide ((l9 .i64 ((2:Int)*(o6 v11:Int)))≤(o6 d8.Peers:Int))))) (fun hc47=>?_) (fun hc47=>?_)
 ·rw [iteT hc47] at hF22
  simp only [qd,qc,f42,qj,B0,reduceIte,a8]
  refine qf (v := .agg [d4,d5]) rfl ?_
  simp only [f43,zd,B0,reduceIte,a8]
  refine qz (us:=[d4,d5]) rfl (cs':=[d4,
    d5]) (o8 hS46) hW rfl (qk (a0j e9) (qk (a0j e8) zl)) (nle rfl) rfl (fun h48 hS49=>?_)
  simp only [qe,qa,qx,B0,reduceIte,a8]
  have he:=qg hF22
  subst he
  refine jf (qp (jk (bb:=b5) (oo:=0) (v := .agg [d4,
    d5]) (f43) ((zq (a0d _ _ _ hS49)).trans rfl)) (qp (kp (v := .bool false) (rfl)) zm)) ?_
  exact ⟨f6,d7,by first | trivial | rfl,e9,e8,(s9 (s9 (a0g (hS49))))⟩
 rw [iteF hc47] at hF22
 simp only [qw,qx3,qd,qc,qe,qa,qy1,f44,zr,qb,ja,B0,reduceIte,a8]
 obtain ⟨oc60,hX62,hk63⟩:=jz hF22
 simp only [q9l]
 refine qao (σ:=Int × (List Peer)) v11 (fun i58 x59 s183=>wl d8 a9 i58 x59 s183.1 s183.2) (fun s fr' h'=>∃ c56,
   fr' 1 = .int .i64 a9∧fr' 3 = .ref [d4,
   d5] 0∧fr' 6 = .ptr b5 0∧fr' 8=lst cI v11∧fr' 9 = .int .i64 s.1∧fr' 38=lst cI v11∧SlN Peer.R 5 43 d4 s.2 c56∧Sep h' lo (c56++(d7 ++
   ([Blk1 b5 [.nil,.nil] 29]++(S0))))) hX62 ⟨f6,f41,f42,f43,f44,rfl,rfl,e9,(o8 (o8 (o8 hS46)))⟩ (by simp only [B0,reduceIte,
   a8]) (by simp only [B0,reduceIte,a8]) (fun _ _ _ h=>h) rfl rfl (fun _ _ _ _ h=>h) (fun _ _ _ _ h=>h) (fun _ _ _ _ h=>h) (by decide) ?_ ?_
 ·rintro i58 x59 ⟨s54,s55⟩ fr72 h73 hx81 ⟨c56,f75,f76,f77,f78,f79,f80,hv57,hS74⟩ f82 f83 oc61 hF64 hr65 Q66 hN67 hB71 hK68 hR69 hE70
  dsimp only at *
  unfold wl at hF64
  simp only [q5l,qd,qc,f80,f82,zu,B0,reduceIte,a8]
  refine qf (v := .ref (cI x59) 0) (qam hx81 rfl) ?_
  simp only [qj,B0,reduceIte,a8]
  refine qf (v := .int .i64 x59) rfl ?_
  simp only [qe,qa,q67,qd,z9,f76,zj,qh,n7,n8,n9,qn,zh,B0,reduceIte,a8]
  refine qo (v:=d4) rfl ?_
  obtain ⟨x84,hx85,hF86⟩:=qi hF64
  simp only [f75,zx,qh,kz,B0,reduceIte,a8]
  obtain ⟨b87,hb88⟩:=a2z hv57 (jq hx85)
  refine qo (SlN.ia hv57 hb88 hx85) ?_
  obtain ⟨c89,cs90,os91,hv92,hR93,hS94⟩:=a15 (a18 hv57 hb88 Peer.RO.len) hx85 zo Peer.RO.len hS74
  obtain ⟨v96,c97,v100,c101,hv98,hv102,rfl,rfl⟩:=hR93
  have hS95:=a2e hS94
  simp only [zj,qh,n7,n8,n9,qu,zh,B0,reduceIte,a8]
  refine qo (v:=v96) ((a1y (o:=2) hv92 rfl hx85 hS95 (nle rfl)).trans rfl) ?_
  simp only [f76,zj,qh,n7,n8,n9,qn,zh,B0,reduceIte,a8]
  refine qo (v:=d4) rfl ?_
  obtain ⟨qdo,hx105,hF106⟩:=qi hF86
  simp only [zx,qh,kz,B0,reduceIte,a8]
  refine qo (a24 hv92 hx105) ?_
  simp only [zj,qh,n7,n8,n9,qu,B0,reduceIte,a8]
  by_cases hq107:a9=x59
  ·subst hq107
   rw [iteT (decide_eq_true rfl)] at hF106
   simp only [zh,B0,reduceIte,a8]
   refine qo (v:=v96) ((a1y (o:=2) hv92 rfl hx85 hS95 (nle rfl)).trans rfl) ?_
   obtain ⟨v108,hx109,hF110⟩:=qi hF106
   simp only [wm,B0,reduceIte,a8]
   refine qdd rfl (qp (a2r hv98 (s9 hS95) rfl (fun _=>rfl) (fun _=>rfl)) (qp (a2r hv98 (s9 hS95) rfl (fun _=>rfl) (fun _=>rfl)) zm))
     (qjq (fun b hb=>decide_eq_true hb) x84.Log x84.Log v108 hx109) ?_
   simp only [qfw,qh,yw,za,qrb,qv,B0,reduceIte,a8]
   refine qs (t:=(!v108)) (fun hc111=>?_) (fun hc111=>?_)
   ·rw [iteT hc111] at hF110
    simp only [qd,qc,f76,qj,B0,reduceIte,a8]
    refine qf (v := .agg [d4,d5]) rfl ?_
    simp only [f77,zd,B0,reduceIte,a8]
    refine qz (us:=[d4,d5]) rfl (cs':=[d4,
      d5]) (a0i hS95) hW rfl (qk (a3c hv92) (qk (a0j e8) zl)) (nle rfl) rfl (fun h112 hS113=>?_)
    simp only [qe,qa,qx,B0,reduceIte,a8]
    have e114:=qg hF110
    subst e114
    have ho115:=hr65 _ rfl
    have hk116:=hk63
    rw [ho115] at hk116
    dsimp only [jnO] at hk116
    apply hR69
    obtain ⟨c117,hv118,hS119⟩:=a1a (c:=c89) (os:=c97++(c101)) hv92 rfl hx85 zo (Peer.RI (x:=x84) hv98 hv102) (a07 (c1:=c97) (c2:=c101) (p9
      (p9 (p9 hS113))))
    have hv120:=a04 hv118
    have he:=qg hk116
    subst he
    refine jf (qp (jk (bb:=b5) (oo:=0) (v := .agg [d4,
      d5]) (f77) ((zq (a0d _ _ _ (s9 hS119))).trans rfl)) (qp (kp (v := .bool false) (rfl)) zm)) ?_
    exact ⟨c117,d7,by first | trivial | rfl,hv120,e8,(s9 (s9 (a0g (s9 hS119))))⟩
   rw [iteF hc111] at hF110
   simp only [qw,qqz,qd,qc,f76,ql,qb,n7,n8,n9,qn,qj,B0,reduceIte,a8]
   refine qf (v:=d4) rfl ?_
   simp only [qe,zu,B0,reduceIte,a8]
   refine qf (a24 hv92 hx85) ?_
   simp only [ql,qb,n7,n8,n9,qu,qj,B0,reduceIte,a8]
   refine qf (v := .int .i64 x84.Term) ((a1y (o:=0) hv92 rfl hx85 hS95 (nle rfl)).trans rfl) ?_
   simp only [f79,qe,qq,qb,ur,qa,qqq,qv,B0,reduceIte,a8]
   refine qs (t:=(decide (s54<x84.Term))) (fun hc121=>?_) (fun hc121=>?_)
   ·rw [iteT hc121] at hF110
    simp only [qq6,qc,f76,ql,qb,n7,n8,n9,qn,qj,B0,reduceIte,a8]
    refine qf (v:=d4) rfl ?_
    simp only [qe,zu,B0,reduceIte,a8]
    refine qf (a24 hv92 hx85) ?_
    simp only [ql,qb,n7,n8,n9,qu,qj,B0,reduceIte,a8]
    refine qf (v := .int .i64 x84.Term) ((a1y (o:=0) hv92 rfl hx85 hS95 (nle rfl)).trans rfl) ?_
    simp only [qe,qa,qr,B0,reduceIte,a8]
    obtain ⟨c122,hv123,hS124⟩:=a1a (c:=c89) (os:=c97++(c101)) hv92 rfl hx85 zo (Peer.RI (x:=x84) hv98 hv102) (a07 (c1:=c97) (c2:=c101) (o8
      (o8 (o8 hS95))))
    have hv125:=a04 hv123
    have e126:=qg hF110
    exact hN67 _ _ _ e126.symm ⟨c122,f75,f76,f77,f78,rfl,f80,hv125,(o8 (o8 (o8 hS124)))⟩ (f82) (f83)
   rw [iteF hc121] at hF110
   simp only [qw,qr,B0,reduceIte,a8]
   obtain ⟨c127,hv128,hS129⟩:=a1a (c:=c89) (os:=c97++(c101)) hv92 rfl hx85 zo (Peer.RI (x:=x84) hv98 hv102) (a07 (c1:=c97) (c2:=c101) (o8
     (o8 (o8 hS95))))
   have hv130:=a04 hv128
   have e131:=qg hF110
   exact hN67 _ _ _ e131.symm ⟨c127,f75,f76,f77,f78,f79,f80,hv130,(o8 (o8 (o8 hS129)))⟩ (f82) (f83)
  rw [iteF (decide_eq_false hq107)] at hF106
  obtain ⟨hp132,hF133⟩:=qfq hF106
  have hn134:=ze4 hp132 hx85 hx105
  obtain ⟨c135,cs136,os137,hv138,hR139,hS140⟩:=a15 hv92 hx105 ((qft hn134).trans zo) Peer.RO.len hS95
  obtain ⟨v142,c143,v146,c147,hv144,hv148,rfl,rfl⟩:=hR139
  have hS141:=a2e hS140
  simp only [zh,B0,reduceIte,a8]
  refine qo (v:=v142) ((a1y (o:=2) hv138 rfl hx105 hS141 (nle rfl)).trans rfl) ?_
  obtain ⟨v150,hx151,hF152⟩:=qi hF133
  simp only [wm,B0,reduceIte,a8]
  refine qdd rfl (qp (a2r hv98 (p9 hS141) rfl (fun _=>rfl) (fun _=>rfl)) (qp (a2r hv144 (s9 hS141) rfl (fun _=>rfl) (fun _=>rfl)) zm))
    (qjq (fun b hb=>decide_eq_true hb) x84.Log qdo.Log v150 hx151) ?_
  simp only [qfw,qh,yw,za,qrb,qv,B0,reduceIte,a8]
  refine qs (t:=(!v150)) (fun hc153=>?_) (fun hc153=>?_)
  ·rw [iteT hc153] at hF152
   simp only [qd,qc,f76,qj,B0,reduceIte,a8]
   refine qf (v := .agg [d4,d5]) rfl ?_
   simp only [f77,zd,B0,reduceIte,a8]
   refine qz (us:=[d4,d5]) rfl (cs':=[d4,
     d5]) (a13 hS141) hW rfl (qk (a3c hv138) (qk (a0j e8) zl)) (nle rfl) rfl (fun h154 hS155=>?_)
   simp only [qe,qa,qx,B0,reduceIte,a8]
   have e156:=qg hF152
   subst e156
   have ho157:=hr65 _ rfl
   have hk158:=hk63
   rw [ho157] at hk158
   dsimp only [jnO] at hk158
   apply hR69
   obtain ⟨c159,hv160,hS161⟩:=a1a (c:=c135) (os:=c143++(c147)) hv138 rfl hx105 ((qft hn134).trans zo) (Peer.RI (x:=qdo) hv144 hv148) (a07
     (c1:=c143) (c2:=c147) (p9 (p9 (p9 hS155))))
   obtain ⟨c162,hv163,hS164⟩:=a1a (c:=c159) (os:=c97++(c101)) hv160 rfl hx85 zo (Peer.RI (x:=x84) hv98 hv102) (a07 (c1:=c97) (c2:=c101) (o8
     (p9 (p9 hS161))))
   have hv165:=a04 hv163
   have he:=qg hk158
   subst he
   refine jf (qp (jk (bb:=b5) (oo:=0) (v := .agg [d4,
     d5]) (f77) ((zq (a0d _ _ _ (s9 hS164))).trans rfl)) (qp (kp (v := .bool false) (rfl)) zm)) ?_
   exact ⟨c162,d7,by first | trivial | rfl,hv165,e8,(s9 (s9 (a0g (s9 hS164))))⟩
  rw [iteF hc153] at hF152
  simp only [qw,qqz,qd,qc,f76,ql,qb,n7,n8,n9,qn,qj,B0,reduceIte,a8]
  refine qf (v:=d4) rfl ?_
  simp only [qe,zu,B0,reduceIte,a8]
  refine qf (a24 hv138 hx105) ?_
  simp only [ql,qb,n7,n8,n9,qu,qj,B0,reduceIte,a8]
  refine qf (v := .int .i64 qdo.Term) ((a1y (o:=0) hv138 rfl hx105 hS141 (nle rfl)).trans rfl) ?_
  simp only [f79,qe,qq,qb,ur,qa,qqq,qv,B0,reduceIte,a8]
  refine qs (t:=(decide (s54<qdo.Term))) (fun hc166=>?_) (fun hc166=>?_)
  ·rw [iteT hc166] at hF152
   simp only [qq6,qc,f76,ql,qb,n7,n8,n9,qn,qj,B0,reduceIte,a8]
   refine qf (v:=d4) rfl ?_
   simp only [qe,zu,B0,reduceIte,a8]
   refine qf (a24 hv138 hx105) ?_
   simp only [ql,qb,n7,n8,n9,qu,qj,B0,reduceIte,a8]
   refine qf (v := .int .i64 qdo.Term) ((a1y (o:=0) hv138 rfl hx105 hS141 (nle rfl)).trans rfl) ?_
   simp only [qe,qa,qr,B0,reduceIte,a8]
   obtain ⟨c167,hv168,hS169⟩:=a1a (c:=c135) (os:=c143++(c147)) hv138 rfl hx105 ((qft hn134).trans zo) (Peer.RI (x:=qdo) hv144 hv148) (a07
     (c1:=c143) (c2:=c147) (o8 (o8 (o8 hS141))))
   obtain ⟨c170,hv171,hS172⟩:=a1a (c:=c167) (os:=c97++(c101)) hv168 rfl hx85 zo (Peer.RI (x:=x84) hv98 hv102) (a07 (c1:=c97) (c2:=c101) (o8
     (o8 (o8 hS169))))
   have hv173:=a04 hv171
   have e174:=qg hF152
   exact hN67 _ _ _ e174.symm ⟨c170,f75,f76,f77,f78,rfl,f80,hv173,(o8 (o8 (o8 hS172)))⟩ (f82) (f83)
  rw [iteF hc166] at hF152
  simp only [qw,qr,B0,reduceIte,a8]
  obtain ⟨c175,hv176,hS177⟩:=a1a (c:=c135) (os:=c143++(c147)) hv138 rfl hx105 ((qft hn134).trans zo) (Peer.RI (x:=qdo) hv144 hv148) (a07
    (c1:=c143) (c2:=c147) (o8 (o8 (o8 hS141))))
  obtain ⟨c178,hv179,hS180⟩:=a1a (c:=c175) (os:=c97++(c101)) hv176 rfl hx85 zo (Peer.RI (x:=x84) hv98 hv102) (a07 (c1:=c97) (c2:=c101) (o8
    (o8 (o8 hS177))))
  have hv181:=a04 hv179
  have e182:=qg hF152
  exact hN67 _ _ _ e182.symm ⟨c178,f75,f76,f77,f78,f79,f80,hv181,(o8 (o8 (o8 hS180)))⟩ (f82) (f83)
 rintro ⟨s184,s185⟩ fr188 h189 rfl ⟨c186,f191,f192,f193,f194,f195,f196,hv187,hS190⟩
 dsimp only [jnO] at hk63
 dsimp only at *
 unfold qar at hk63
 simp only [qva,qd,qc,f195,qe,qq,qb,yh,qa,qti,qv,B0,reduceIte,a8]
 refine qs (t:=(decide (s184=100))) (fun hc197=>?_) (fun hc197=>?_)
 ·rw [iteT hc197] at hk63
  simp only [qd,qc,f192,qj,B0,reduceIte,a8]
  refine qf (v := .agg [d4,d5]) rfl ?_
  simp only [f193,zd,B0,reduceIte,a8]
  refine qz (us:=[d4,d5]) rfl (cs':=[d4,
    d5]) (o8 hS190) hW rfl (qk (a0j hv187) (qk (a0j e8) zl)) (nle rfl) rfl (fun h198 hS199=>?_)
  simp only [qe,qa,qx,B0,reduceIte,a8]
  have he:=qg hk63
  subst he
  refine jf (qp (jk (bb:=b5) (oo:=0) (v := .agg [d4,
    d5]) (f193) ((zq (a0d _ _ _ hS199)).trans rfl)) (qp (kp (v := .bool false) (rfl)) zm)) ?_
  exact ⟨c186,d7,by first | trivial | rfl,hv187,e8,(s9 (s9 (a0g (hS199))))⟩
 rw [iteF hc197] at hk63
 simp only [qw,qsl,qd,qc,f194,qe,zr,qb,ja,qa,B0,reduceIte,a8]
 obtain ⟨oc208,hX210,hk211⟩:=jz hk63
 simp only [qw2]
 refine qao (σ:=(List Peer)) v11 (fun i206 x207 s278=>qch a9 s184 i206 x207 s278) (fun s fr' h'=>∃ c204,fr' 1 = .int .i64 a9∧fr' 3 = .ref [d4,
   d5] 0∧fr' 6 = .ptr b5 0∧fr' 9 = .int .i64 s184∧fr' 77=lst cI v11∧SlN Peer.R 5 43 d4 s c204∧Sep h' lo (c204++(d7++([Blk1 b5 [.nil,
   .nil] 29]++(S0))))) hX210 ⟨c186,f191,f192,f193,f195,rfl,hv187,(o8 (o8 (o8 hS190)))⟩ (by simp only [B0,reduceIte,a8]) (by simp only [B0,
   reduceIte,a8]) (fun _ _ _ h=>h) rfl rfl (fun _ _ _ _ h=>h) (fun _ _ _ _ h=>h) (fun _ _ _ _ h=>h) (by decide) ?_ ?_
 ·rintro i206 x207 s203 fr220 h221 hx228 ⟨c204,f223,f224,f225,f226,f227,hv205,hS222⟩ f229 f230 oc209 hF212 hr213 Q214 hN215 hB219 hK216 hR217 hE218
  unfold qch at hF212
  simp only [qtw,qd,qc,f227,f229,zu,B0,reduceIte,a8]
  refine qf (v := .ref (cI x207) 0) (qam hx228 rfl) ?_
  simp only [qj,B0,reduceIte,a8]
  refine qf (v := .int .i64 x207) rfl ?_
  simp only [qe,qa,qyc,qd,qc,f224,ql,qb,n7,n8,n9,qn,qj,B0,reduceIte,a8]
  refine qf (v:=d4) rfl ?_
  obtain ⟨x231,hx232,hF233⟩:=qi hF212
  simp only [qe,f226,qq,qb,j8,zu,B0,reduceIte,a8]
  obtain ⟨b234,hb235⟩:=a2z hv205 (jq hx232)
  refine qf (SlN.ia hv205 hb235 hx232) ?_
  obtain ⟨c238,cs239,os240,hv241,hR242,hS243⟩:=a15 (a18 hv205 hb235 Peer.RO.len) hx232 zo Peer.RO.len hS222
  obtain ⟨v245,c246,v249,c250,hv247,hv251,rfl,rfl⟩:=hR242
  have hS244:=a2e hS243
  simp only [ql,qb,n7,n8,n9,qu,zd,B0,reduceIte,a8]
  refine kx (n:=5) (us:=[.int .i64 (l9 .i64 (s184+1))]) (cs:=[.int .i64 x231.Term,.bool x231.Leads,v245,.int .i64 x231.Commit,
    v249]) (o:=0) (cs':=[.int .i64 (l9 .i64 (s184+1)),.bool x231.Leads,v245,.int .i64 x231.Commit,
    v249]) rfl hv241 rfl hx232 hS244 hW rfl rfl (nle rfl) rfl (fun c253 h236 hv254 hS237=>?_)
  simp only [qa,qy2,qd,qc,f224,ql,qb,n7,n8,n9,qn,qj,B0,reduceIte,a8]
  refine qf (v:=d4) rfl ?_
  simp only [qe,f223,qq,qb,yh,zu,B0,reduceIte,a8]
  refine qf (a24 hv254 hx232) ?_
  simp only [ql,qb,n7,n8,n9,qu,zd,B0,reduceIte,a8]
  refine kx (n:=5) (us:=[.bool (decide (x207=a9))]) (cs:=[.int .i64 (l9 .i64 (s184+1)),.bool x231.Leads,v245,.int .i64 x231.Commit,
    v249]) (o:=1) (cs':=[.int .i64 (l9 .i64 (s184+1)),.bool (decide (x207=a9)),v245,.int .i64 x231.Commit,
    v249]) rfl hv254 rfl hx232 hS237 hW rfl rfl (nle rfl) rfl (fun c257 h255 hv258 hS256=>?_)
  simp only [qa,qs2,z9,f224,zj,qh,n7,n8,n9,qn,zh,B0,reduceIte,a8]
  refine qo (v:=d4) rfl ?_
  simp only [zx,qh,f224,zj,n7,n8,n9,qn,zh,B0,reduceIte,a8]
  refine qo (v:=d4) rfl ?_
  obtain ⟨l259,hx260,hF261⟩:=qi hF233
  simp only [wo,qh,SlG.plen hv258,qon,B0,reduceIte,a8]
  refine qiv (f:=cI) (z:=(0:Int)) hS256 hx260 rfl (fun v262 c263 h264 hv265 hS266=>?_)
  simp only [kz,B0,reduceIte,a8]
  refine qo (a24 hv258 hx232) ?_
  simp only [zj,qh,n7,n8,n9,qu,xx,B0,reduceIte,a8]
  refine qdi (n:=5) (us:=[v262]) (cs:=[.int .i64 (l9 .i64 (s184+1)),.bool (decide (x207=a9)),v245,.int .i64 x231.Commit,
    v249]) (o:=4) (cs':=[.int .i64 (l9 .i64 (s184+1)),.bool (decide (x207=a9)),v245,.int .i64 x231.Commit,
    v262]) (jj (a0t hv265)) hv258 rfl hx232 (s9 hS266) hW rfl (qk (a0t hv265) zl) (nle rfl) rfl (fun c270 h268 hv271 hS269=>?_)
  simp only [za,qr,B0,reduceIte,a8]
  obtain ⟨c272,hv273,hS274⟩:=a20 (e':=(Peer.mk (l9 .i64 (s184+1)) (decide (x207=a9)) x231.Log x231.Commit l259)) (c:=c270) (os:=c246 ++
    (c263)) hv271 rfl hx232 zo (Peer.RI (x:=(Peer.mk (l9 .i64 (s184+1)) (decide (x207=a9)) x231.Log x231.Commit l259)) hv247 hv265) (a07 (c1:=c246)
    (c2:=c263) (o8 (o8 (s9 hS269))))
  have hx275:=jl (x':=(Peer.mk (l9 .i64 (s184+1)) (decide (x207=a9)) x231.Log x231.Commit l259)) hx232
  have hv276:=a04 hv273
  have e277:=qg hF261
  exact hN215 _ _ _ e277.symm ⟨c272,f223,f224,f225,f226,f227,hv276,(o8 (o8 (o8 (a0g (s9 hS274)))))⟩ (f229) (f230)
 rintro s279 fr282 h283 rfl ⟨c280,f285,f286,f287,f288,f289,hv281,hS284⟩
 dsimp only [jnO] at hk211
 unfold qeb at hk211
 simp only [quz,qd,z9,f286,zj,qh,n7,n8,n9,qn,zh,B0,reduceIte,a8]
 refine qo (v:=d4) rfl ?_
 obtain ⟨x290,hx291,hF292⟩:=qi hk211
 simp only [f285,zx,qh,kz,B0,reduceIte,a8]
 obtain ⟨b293,hb294⟩:=a2z hv281 (jq hx291)
 refine qo (SlN.ia hv281 hb294 hx291) ?_
 obtain ⟨c295,cs296,os297,hv298,hR299,hS300⟩:=a15 (a18 hv281 hb294 Peer.RO.len) hx291 zo Peer.RO.len hS284
 obtain ⟨v302,c303,v306,c307,hv304,hv308,rfl,rfl⟩:=hR299
 have hS301:=a2e hS300
 simp only [zj,qh,n7,n8,n9,qu,zh,B0,reduceIte,a8]
 refine qo (v:=v306) ((a1y (o:=4) hv298 rfl hx291 hS301 (nle rfl)).trans rfl) ?_
 simp only [f285,zx,qh,f286,zj,n7,n8,n9,qn,zh,B0,reduceIte,a8]
 refine qo (v:=d4) rfl ?_
 simp only [f285,zx,qh,kz,B0,reduceIte,a8]
 refine qo (a24 hv298 hx291) ?_
 simp only [zj,qh,n7,n8,n9,qu,zh,B0,reduceIte,a8]
 refine qo (v:=v302) ((a1y (o:=2) hv298 rfl hx291 hS301 (nle rfl)).trans rfl) ?_
 obtain ⟨x310,hx311,hF312⟩:=qi hF292
 simp only [wo,qh,a1o hv304,kz,B0,reduceIte,a8]
 obtain ⟨b313,hb314⟩:=a1w hv308 (jq hx311)
 refine qo (a2v hv308 hb314 hx311) ?_
 simp only [xx,B0,reduceIte,a8]
 refine qeh (f:=cI) (x':=(o6 x290.Log:Int)) (o:=0) hv308 (o8 hS301) hW hb314 hx311 (fun _=>rfl) rfl rfl (nle rfl) rfl
   (fun c317 h315 hv318 hS316=>?_)
 have hx319:=jl (x':=(o6 x290.Log:Int)) hx311
 simp only [za,qd,qc,f286,qj,B0,reduceIte,a8]
 refine qf (v := .agg [d4,d5]) rfl ?_
 simp only [f287,zd,B0,reduceIte,a8]
 refine qz (us:=[d4,d5]) rfl (cs':=[d4,
   d5]) (a0i hS316) hW rfl (qk (a3c hv298) (qk (a0j e8) zl)) (nle rfl) rfl (fun h320 hS321=>?_)
 simp only [qe,qa,qx,B0,reduceIte,a8]
 obtain ⟨c322,hv323,hS324⟩:=a20 (e':=(Peer.mk x290.Term x290.Leads x290.Log x290.Commit (a0u x290.Match a9.toNat (o6 x290.Log:Int)))) (c:=c295)
   (os:=c303++(c317)) hv298 rfl hx291 zo (Peer.RI (x:=(Peer.mk x290.Term x290.Leads x290.Log x290.Commit (a0u x290.Match a9.toNat
   (o6 x290.Log:Int)))) hv304 hv318) (a07 (c1:=c303) (c2:=c317) (p9 (p9 (s9 hS321))))
 have hx325:=jl (x':=(Peer.mk x290.Term x290.Leads x290.Log x290.Commit (a0u x290.Match a9.toNat (o6 x290.Log:Int)))) hx291
 have hv326:=a04 hv323
 have he:=qg hF312
 subst he
 refine jf (qp (jk (bb:=b5) (oo:=0) (v := .agg [d4,
   d5]) (f287) ((zq (a0d _ _ _ (s9 hS324))).trans rfl)) (qp (kp (v := .bool true) (rfl)) zm)) ?_
 exact ⟨c322,d7,by first | trivial | rfl,hv326,e8,(s9 (s9 (a0g (s9 hS324))))⟩
theorem qmw {W:Nat→Bool}{h:Heap}{lo:Nat→Prop}{S0:List Obj} (hW:∀ b,
  lo b→W b=true) (d8:Raft) (d4:XV) (f6:List Obj) (e9:SlN Peer.R 5 43 d4 d8.Peers f6) (d5:XV) (d7:List Obj)
  (e8:SlN Mail.R 9 86 d5 d8.Mail d7) (a9:RaftStep) (r:Raft × Bool) (hF:xe d8 a9=some r) (hS:Sep h lo (f6++(d7 ++
  (S0)))) : Ret E W 78 [.agg [d4,d5],.agg [.int .i64 a9.Kind,.int .i64 a9.K,.int .i64 a9.To,.int .i64 a9.N]] h (fun v h'=>∃ g9 i2 i0,
  v = .tup [.agg [d4,i2],.bool r.2]∧SlN Peer.R 5 43 d4 r.1.Peers g9∧SlN Mail.R 9 86 i2 r.1.Mail i0∧Sep h' lo (g9++(i0++(S0)))):=by
 refine Ret.of (fn:=x78) rfl (Run.of ?_)
 unfold xe at hF
 have zf0:zf [.agg [d4,d5],.agg [.int .i64 a9.Kind,.int .i64 a9.K,.int .i64 a9.To,.int .i64 a9.N]] 0 = .agg [d4,d5]:=rfl
 have zf1:zf [.agg [d4,d5],.agg [.int .i64 a9.Kind,.int .i64 a9.K,.int .i64 a9.To,.int .i64 a9.N]] 1 = .agg [.int .i64 a9.Kind,.int .i64 a9.K,
   .int .i64 a9.To,.int .i64 a9.N]:=rfl
 generalize zf [.agg [d4,d5],.agg [.int .i64 a9.Kind,.int .i64 a9.K,.int .i64 a9.To,.int .i64 a9.N]]=fr0 at zf0 zf1 ⊢
 simp only [x78,qd,qc,kt,zf0,B0,reduceIte,a8]
 refine j0 (cs:=[d4,d5]) hS rfl rfl (qk (a0j e9) (qk (a0j e8) zl)) (fun b1 h2 hS3=>?_)
 simp only [kt,zf1,B0,reduceIte,a8]
 refine j0 (cs:=[.int .i64 a9.Kind,.int .i64 a9.K,.int .i64 a9.To,.int .i64 a9.N]) hS3 rfl rfl rfl (fun b5 h6 hS7=>?_)
 simp only [jm,B0,reduceIte,a8]
 refine z3 hS7 (fun b9 h10 hS11=>?_)
 simp only [qe,qa,B0,reduceIte,a8]
 refine z8 (s9 hS11) hW (by simp only [B0,reduceIte,a8]) (fun h13 hS14=>?_)
 simp only [z7,qyp,qd,qc,ql,qb,n7,n8,n9,qu,qj,B0,reduceIte,a8]
 refine qf (v:=d4) ((jb (a0d _ _ _ (s9 hS14))).trans rfl) ?_
 simp only [ql,qb,n7,n8,n9,qn,qj,B0,reduceIte,a8]
 refine qf (v := .int .i64 a9.K) rfl ?_
 obtain ⟨x15,hx16,hF17⟩:=qi hF
 simp only [zu,B0,reduceIte,a8]
 obtain ⟨b18,hb19⟩:=a2z e9 (jq hx16)
 refine qf (SlN.ia e9 hb19 hx16) ?_
 obtain ⟨c20,cs21,os22,hv23,hR24,hS25⟩:=a15 (a18 e9 hb19 Peer.RO.len) hx16 zo Peer.RO.len (o8 hS14)
 obtain ⟨v27,c28,v31,c32,hv29,hv33,rfl,rfl⟩:=hR24
 have hS26:=a2e hS25
 simp only [qj,B0,reduceIte,a8]
 refine qf (v := .agg [.int .i64 x15.Term,.bool x15.Leads,v27,.int .i64 x15.Commit,v31]) ((SlG.lds (o:=0) hv23 rfl hx16 hS26 (nle rfl)).trans rfl) ?_
 simp only [jm,B0,reduceIte,a8]
 refine z3 hS26 (fun b35 h36 hS37=>?_)
 simp only [zd,B0,reduceIte,a8]
 refine qz (us:=[.int .i64 x15.Term,.bool x15.Leads,v27,.int .i64 x15.Commit,v31]) rfl (cs':=[.int .i64 x15.Term,.bool x15.Leads,v27,.int .i64 x15.Commit,
   v31]) hS37 hW rfl (qk rfl (qk rfl (qk (a0t hv29) (qk rfl (qk (a0t hv33) zl))))) (nle rfl) rfl (fun h39 hS40=>?_)
 simp only [qa,B0,reduceIte,a8]
 refine z8 hS40 hW (by simp only [B0,reduceIte,a8]) (fun h41 hS42=>?_)
 simp only [z7,qur,qd,qc,qj,B0,reduceIte,a8]
 refine qf (v := .agg [d4,d5]) ((zq (a0d _ _ _ (a0i hS42))).trans rfl) ?_
 simp only [ql,qb,n7,n8,n9,qn,qj,B0,reduceIte,a8]
 refine qf (v := .int .i64 a9.To) rfl ?_
 obtain ⟨c43,hv44,hS45⟩:=a1a (c:=c20) (os:=c28++(c32)) hv23 rfl hx16 zo (Peer.RI (x:=x15) hv29 hv33) (a07 (c1:=c28) (c2:=c32) (o8 (o8
   (o8 hS42))))
 have hv46:=a04 hv44
 simp only [zp,B0,reduceIte,a8]
 refine kh rfl (qp (yf (qp (SlN.snap hv46 _ hS45 rfl Peer.RO) (qp (SlN.snap e8 _ (p9 hS45) rfl Mail.RO) zm))) (qp zg zm))
   (qhr (fun b hb=>decide_eq_true hb) d8 a9.To _ rfl) ?_
 simp only [yk,qb,yw,qe,B0,reduceIte,a8]
 refine ki 6 (fun fr' h'=>Sep h' lo ([Blk1 b1 [d4,d5] 29]++([Blk1 b9 [.nil,
   .nil] 29]++(c28++(c32++(c20++(d7++(S0)))))))∧fr' 25 = .bool ((!(jy d8 a9.To))||(decide
   (a9.To=a9.K)))∧fr' 2 = .ptr b1 0∧fr' 3 = .ref [.int .i64 a9.Kind,.int .i64 a9.K,.int .i64 a9.To,
   .int .i64 a9.N] 0∧fr' 4 = .ptr b9 0∧fr' 6 = .ref [.int .i64 x15.Term,.bool x15.Leads,v27,.int .i64 x15.Commit,v31] 0) (fun Q47 hN48=>?_) ?_
 ·simp only [r8,t8]
  simp only [qm (g:=19),B0,reduceIte,a8]
  refine zv (t:=(!(jy d8 a9.To))) (fun hg49=>?_) (fun hg49=>?_)
  ·simp only [hg49,qm (g:=19),jp,zk,qb,z1,qa,qr,B0,reduceIte,a8]
   exact hN48 _ _ ⟨(v3 (a0i (p9 (p9 (s9 (v3 hS42)))))),by rw [orT hg49]; simp only [B0,reduceIte,a8],rfl,rfl,rfl,rfl⟩
  ·simp only [hg49,qm (g:=19),zi,ql,qb,n7,n8,n9,qn,qj,B0,reduceIte,a8]
   refine qf (v := .int .i64 a9.To) rfl ?_
   simp only [hg49,qm (g:=19),zi,ql,qb,n7,n8,n9,qn,qj,B0,reduceIte,a8]
   refine qf (v := .int .i64 a9.K) rfl ?_
   simp only [hg49,qm (g:=19),zi,qq,qb,yh,zk,zz,qa,qr,B0,reduceIte,a8]
   exact hN48 _ _ ⟨(v3 (a0i (p9 (p9 (s9 (v3 hS42)))))),by rw [orF hg49]; simp only [B0,reduceIte,a8],rfl,rfl,rfl,rfl⟩
 rintro fr50 h56 ⟨hS57,f51,f52,f53,f54,f55⟩
 simp only [s5,t6]
 simp only [f51,qe,B0,reduceIte,a8]
 refine ki 4 (fun fr' h'=>Sep h' lo ([Blk1 b1 [d4,d5] 29]++([Blk1 b9 [.nil,
   .nil] 29]++(c28++(c32++(c20++(d7++(S0)))))))∧fr' 30 = .bool (((!(jy d8 a9.To))||(decide (a9.To=a9.K)))||(decide
   (a9.N<0)))∧fr' 2 = .ptr b1 0∧fr' 3 = .ref [.int .i64 a9.Kind,.int .i64 a9.K,.int .i64 a9.To,
   .int .i64 a9.N] 0∧fr' 4 = .ptr b9 0∧fr' 6 = .ref [.int .i64 x15.Term,.bool x15.Leads,v27,.int .i64 x15.Commit,v31] 0) (fun Q58 hN59=>?_) ?_
 ·simp only [r8,t8]
  simp only [qm (g:=26),B0,reduceIte,a8]
  refine zv (t:=((!(jy d8 a9.To))||(decide (a9.To=a9.K)))) (fun hg60=>?_) (fun hg60=>?_)
  ·simp only [hg60,qm (g:=26),jp,zk,qb,z1,qa,qr,B0,reduceIte,a8]
   exact hN59 _ _ ⟨(v3 (v3 (v3 (v3 (v3 (v3 hS57)))))),by rw [orT hg60]; simp only [B0,reduceIte,a8],f52,f53,f54,f55⟩
  ·simp only [hg60,qm (g:=26),zi,f53,ql,qb,n7,n8,n9,qn,qj,B0,reduceIte,a8]
   refine qf (v := .int .i64 a9.N) rfl ?_
   simp only [hg60,qm (g:=26),zi,qq,qb,yg,zk,zz,qa,qr,B0,reduceIte,a8]
   exact hN59 _ _ ⟨(v3 (v3 (v3 (v3 (v3 (v3 hS57)))))),by rw [orF hg60]; simp only [B0,reduceIte,a8],f52,f53,f54,f55⟩
 rintro fr61 h67 ⟨hS68,f62,f63,f64,f65,f66⟩
 simp only [s5,t6]
 simp only [f62,qe,B0,reduceIte,a8]
 refine ki 7 (fun fr' h'=>Sep h' lo ([Blk1 b1 [d4,d5] 29]++([Blk1 b9 [.nil,
   .nil] 29]++(c28++(c32++(c20++(d7++(S0)))))))∧fr' 38 = .bool ((((!(jy d8 a9.To))||(decide (a9.To=a9.K)))||(decide (a9.N<0))) ||
   (decide ((o6 x15.Log:Int)<a9.N)))∧fr' 2 = .ptr b1 0∧fr' 3 = .ref [.int .i64 a9.Kind,.int .i64 a9.K,.int .i64 a9.To,
   .int .i64 a9.N] 0∧fr' 4 = .ptr b9 0∧fr' 6 = .ref [.int .i64 x15.Term,.bool x15.Leads,v27,.int .i64 x15.Commit,v31] 0) (fun Q69 hN70=>?_) ?_
 ·simp only [r8,t8]
  simp only [qm (g:=31),B0,reduceIte,a8]
  refine zv (t:=(((!(jy d8 a9.To))||(decide (a9.To=a9.K)))||(decide (a9.N<0)))) (fun hg71=>?_) (fun hg71=>?_)
  ·simp only [hg71,qm (g:=31),jp,zk,qb,z1,qa,qr,B0,reduceIte,a8]
   exact hN70 _ _ ⟨(v3 (v3 (v3 (v3 (v3 (v3 hS68)))))),by rw [orT hg71]; simp only [B0,reduceIte,a8],f63,f64,f65,f66⟩
  ·simp only [hg71,qm (g:=31),zi,f64,ql,qb,n7,n8,n9,qn,qj,B0,reduceIte,a8]
   refine qf (v := .int .i64 a9.N) rfl ?_
   simp only [hg71,qm (g:=31),zi,f66,ql,qb,n7,n8,n9,qn,qj,B0,reduceIte,a8]
   refine qf (v:=v27) rfl ?_
   simp only [hg71,qm (g:=31),zi,zr,qb,a1o hv29,qq,ur,zk,zz,qa,qr,B0,reduceIte,a8]
   exact hN70 _ _ ⟨(v3 (v3 (v3 (v3 (v3 (v3 hS68)))))),by rw [orF hg71]; simp only [B0,reduceIte,a8],f63,f64,f65,f66⟩
 rintro fr72 h78 ⟨hS79,f73,f74,f75,f76,f77⟩
 simp only [s5,t6]
 simp only [f73,qe,B0,reduceIte,a8]
 refine ki 5 (fun fr' h'=>Sep h' lo ([Blk1 b1 [d4,d5] 29]++([Blk1 b9 [.nil,
   .nil] 29]++(c28++(c32++(c20++(d7++(S0)))))))∧fr' 44 = .bool (((((!(jy d8 a9.To))||(decide (a9.To=a9.K)))||(decide (a9.N<0))) ||
   (decide ((o6 x15.Log:Int)<a9.N)))||(decide ((o6 d8.Mail:Int)=20)))∧fr' 2 = .ptr b1 0∧fr' 3 = .ref [.int .i64 a9.Kind,.int .i64 a9.K,
   .int .i64 a9.To,.int .i64 a9.N] 0∧fr' 4 = .ptr b9 0∧fr' 6 = .ref [.int .i64 x15.Term,.bool x15.Leads,v27,.int .i64 x15.Commit,v31] 0) (fun Q80 hN81=>?_) ?_
 ·simp only [r8,t8]
  simp only [qm (g:=39),B0,reduceIte,a8]
  refine zv (t:=((((!(jy d8 a9.To))||(decide (a9.To=a9.K)))||(decide (a9.N<0)))||(decide ((o6 x15.Log:Int)<a9.N))))
    (fun hg82=>?_) (fun hg82=>?_)
  ·simp only [hg82,qm (g:=39),jp,zk,qb,z1,qa,qr,B0,reduceIte,a8]
   exact hN81 _ _ ⟨(v3 (v3 (v3 (v3 (v3 (v3 hS79)))))),by rw [orT hg82]; simp only [B0,reduceIte,a8],f74,f75,f76,f77⟩
  ·simp only [hg82,qm (g:=39),zi,f74,ql,qb,n7,n8,n9,qu,qj,B0,reduceIte,a8]
   refine qf (v:=d5) ((jb (a0d _ _ _ hS79)).trans rfl) ?_
   simp only [hg82,qm (g:=39),zi,zr,qb,SlN.len e8,qq,yh,zk,zz,qa,qr,B0,reduceIte,a8]
   exact hN81 _ _ ⟨(v3 (v3 (v3 (v3 (v3 (v3 hS79)))))),by rw [orF hg82]; simp only [B0,reduceIte,a8],f74,f75,f76,f77⟩
 rintro fr83 h89 ⟨hS90,f84,f85,f86,f87,f88⟩
 simp only [s5,t6]
 simp only [qa,q5h,f84,qv,B0,reduceIte,a8]
 refine qs (t:=(((((!(jy d8 a9.To))||(decide (a9.To=a9.K)))||(decide (a9.N<0)))||(decide ((o6 x15.Log:Int)<a9.N)))||(decide
   ((o6 d8.Mail:Int)=20)))) (fun hc91=>?_) (fun hc91=>?_)
 ·rw [iteT hc91] at hF17
  simp only [qd,qc,f85,qj,B0,reduceIte,a8]
  refine qf (v := .agg [d4,d5]) ((zq (a0d _ _ _ hS90)).trans rfl) ?_
  simp only [f87,zd,B0,reduceIte,a8]
  refine qz (us:=[d4,d5]) rfl (cs':=[d4,d5]) (s9 hS90) hW rfl (qk (a3c hv23) (qk (a0j e8) zl)) (nle rfl) rfl (fun h92 hS93=>?_)
  simp only [qe,qa,qx,B0,reduceIte,a8]
  obtain ⟨c94,hv95,hS96⟩:=a1a (c:=c20) (os:=c28++(c32)) hv23 rfl hx16 zo (Peer.RI (x:=x15) hv29 hv33) (a07 (c1:=c28) (c2:=c32) (a0i (p9
    (p9 hS93))))
  have hv97:=a04 hv95
  have he:=qg hF17
  subst he
  refine jf (qp (jk (bb:=b9) (oo:=0) (v := .agg [d4,
    d5]) (f87) ((zq (a0d _ _ _ (s9 hS96))).trans rfl)) (qp (kp (v := .bool false) (rfl)) zm)) ?_
  exact ⟨c94,d5,d7,by first | trivial | rfl,hv97,e8,(s9 (s9 (a0g (s9 (a0g (s9 hS96))))))⟩
 rw [iteF hc91] at hF17
 simp only [qw,q5c,qd,qc,f86,ql,qb,n7,n8,n9,qn,qj,B0,reduceIte,a8]
 refine qf (v := .int .i64 a9.K) rfl ?_
 simp only [f86,ql,qb,n7,n8,n9,qn,qj,B0,reduceIte,a8]
 refine qf (v := .int .i64 a9.To) rfl ?_
 simp only [f88,ql,qb,n7,n8,n9,qn,qj,B0,reduceIte,a8]
 refine qf (v := .int .i64 x15.Term) rfl ?_
 simp only [f86,ql,qb,n7,n8,n9,qn,qj,B0,reduceIte,a8]
 refine qf (v := .int .i64 a9.N) rfl ?_
 simp only [f88,ql,qb,n7,n8,n9,qn,qj,B0,reduceIte,a8]
 refine qf (v := .int .i64 x15.Commit) rfl ?_
 simp only [run_build,evp,B0,reduceIte,a8]
 refine qf (v := .agg [.bool false,.int .i64 a9.K,.int .i64 a9.To,.int .i64 x15.Term,.int .i64 a9.N,.int .i64 (-1),.nil,.int .i64 x15.Commit,.int .i64 0]) rfl ?_
 simp only [jm,B0,reduceIte,a8]
 refine z3 hS90 (fun b98 h99 hS100=>?_)
 simp only [zd,B0,reduceIte,a8]
 refine qz (us:=[.bool false,.int .i64 a9.K,.int .i64 a9.To,.int .i64 x15.Term,.int .i64 a9.N,.int .i64 (-1),.nil,.int .i64 x15.Commit,
   .int .i64 0]) rfl (cs':=[.bool false,.int .i64 a9.K,.int .i64 a9.To,.int .i64 x15.Term,.int .i64 a9.N,.int .i64 (-1),.nil,.int .i64 x15.Commit,
   .int .i64 0]) hS100 hW rfl rfl (nle rfl) rfl (fun h102 hS103=>?_)
 simp only [qa,q6i,qd,qc,f86,ql,qb,n7,n8,n9,qn,qj,B0,reduceIte,a8]
 refine qf (v := .int .i64 a9.N) rfl ?_
 simp only [qq,qb,ur,qa,q3c,qv,B0,reduceIte,a8]
 obtain ⟨s104,hX106,hk107⟩:=qi hF17
 refine xh (t:=(decide ((0:Int)<a9.N))) (fun fr' h'=>fr' 2 = .ptr b1 0∧fr' 3 = .ref [.int .i64 a9.Kind,.int .i64 a9.K,.int .i64 a9.To,
   .int .i64 a9.N] 0∧fr' 4 = .ptr b9 0∧fr' 6 = .ref [.int .i64 x15.Term,.bool x15.Leads,v27,.int .i64 x15.Commit,
   v31] 0∧fr' 7 = .ptr b98 0∧Sep h' lo ([Blk1 b1 [d4,d5] 29]++([Blk1 b9 [.nil,.nil] 29]++(c28++(c32++([Blk1 b98 [.bool s104.Reply,.int .i64 s104.From,
   .int .i64 s104.To,.int .i64 s104.Term,.int .i64 s104.Prev,.int .i64 s104.PTerm,.nil,.int .i64 s104.Commit,
   .int .i64 s104.Match] 86]++(c20++(d7++(S0))))))))) (fun Q108 hN109 hR110 hE111=>⟨fun hc112=>?_,fun hc112=>?_⟩) ?_
 ·rw [iteT hc112] at hX106
  simp only [q1z,qc,f88,ql,qb,n7,n8,n9,qn,qj,B0,reduceIte,a8]
  refine qf (v:=v27) rfl ?_
  simp only [f86,ql,qb,n7,n8,n9,qn,qj,B0,reduceIte,a8]
  refine qf (v := .int .i64 a9.N) rfl ?_
  obtain ⟨x113,hx114,hF115⟩:=qi hX106
  simp only [qq,qb,qer,zu,B0,reduceIte,a8]
  obtain ⟨b116,hb117⟩:=a1w hv29 (jq hx114)
  refine qf (a2v hv29 hb117 hx114) ?_
  simp only [ql,qb,n7,n8,n9,qu,qj,B0,reduceIte,a8]
  refine qf (v := .int .i64 x113.Term) ((SlF.ld (o:=0) hv29 (p9 hS103) hb117 hx114 (fun _=>rfl) (nle rfl)).trans rfl) ?_
  simp only [ql,qb,n7,n8,n9,qu,zd,B0,reduceIte,a8]
  refine qz (us:=[.int .i64 x113.Term]) rfl (cs':=[.bool false,.int .i64 a9.K,.int .i64 a9.To,.int .i64 x15.Term,.int .i64 a9.N,.int .i64 x113.Term,.nil,
    .int .i64 x15.Commit,.int .i64 0]) hS103 hW rfl rfl (nle rfl) rfl (fun h118 hS119=>?_)
  simp only [qa,qr,B0,reduceIte,a8]
  have e120:=qg hF115
  subst e120
  exact hN109 _ _ ⟨f85,f86,f87,f88,rfl,(a13 (a13 (a13 (a13 (o8 (a13 (a13 hS119)))))))⟩
 ·rw [iteF hc112] at hX106
  simp only [qw,qr,B0,reduceIte,a8]
  have e121:=qg hX106
  subst e121
  exact hN109 _ _ ⟨f85,f86,f87,f88,rfl,(a13 (a13 (a13 (a13 (o8 (a13 (a13 hS103)))))))⟩
 rintro fr122 h123 ⟨f125,f126,f127,f128,f129,hS124⟩
 unfold qcy at hk107
 simp only [q1o,qd,qc,f126,ql,qb,n7,n8,n9,qn,qj,B0,reduceIte,a8]
 refine qf (v := .int .i64 a9.N) rfl ?_
 simp only [f128,ql,qb,n7,n8,n9,qn,qj,B0,reduceIte,a8]
 refine qf (v:=v27) rfl ?_
 simp only [zr,qb,a1o hv29,qq,yg,qa,q7r,qv,B0,reduceIte,a8]
 obtain ⟨sv141,hX139,hk140⟩:=qi hk107
 refine xh (t:=(decide (a9.N<(o6 x15.Log:Int)))) (fun fr' h'=>∃ v132 c133 c136,
   fr' 2 = .ptr b1 0∧fr' 4 = .ptr b9 0∧fr' 7 = .ptr b98 0∧SlF qt 2 65 v132 sv141.1.Entry c133∧SlN Peer.R 5 43 d4 sv141.2 c136∧Sep h' lo ([Blk1 b1 [d4,
   d5] 29]++([Blk1 b9 [.nil,.nil] 29]++([Blk1 b98 [.bool sv141.1.Reply,.int .i64 sv141.1.From,.int .i64 sv141.1.To,.int .i64 sv141.1.Term,.int .i64 sv141.1.Prev,
   .int .i64 sv141.1.PTerm,v132,.int .i64 sv141.1.Commit,
   .int .i64 sv141.1.Match] 86]++(c136++(d7++(c133++(S0)))))))) (fun Q142 hN143 hR144 hE145=>⟨fun hc146=>?_,fun hc146=>?_⟩) ?_
 ·rw [iteT hc146] at hX139
  simp only [q3z,qc,f128,ql,qb,n7,n8,n9,qn,qj,B0,reduceIte,a8]
  refine qf (v:=v27) rfl ?_
  simp only [f126,ql,qb,n7,n8,n9,qn,qj,B0,reduceIte,a8]
  refine qf (v := .int .i64 a9.N) rfl ?_
  obtain ⟨x147,hx148,hF149⟩:=qi hX139
  simp only [zu,B0,reduceIte,a8]
  obtain ⟨b150,hb151⟩:=a1w hv29 (jq hx148)
  refine qf (a2v hv29 hb151 hx148) ?_
  simp only [qj,B0,reduceIte,a8]
  refine qf (v := .agg [.int .i64 x147.Term,.int .i64 x147.Value]) ((SlF.lds (o:=0) hv29 (o8 hS124) hb151 hx148 (fun _=>rfl) (nle rfl)).trans rfl) ?_
  simp only [kc,evp,B0,reduceIte,a8]
  refine ku (n:=2) (f:=qt) [x147] hS124 rfl rfl (fun v152 c153 h154 hv155 hS156=>?_)
  simp only [f129,ql,qb,n7,n8,n9,qu,zd,B0,reduceIte,a8]
  refine qz (us:=[v152]) (jj (a0t hv155)) (cs':=[.bool s104.Reply,.int .i64 s104.From,.int .i64 s104.To,.int .i64 s104.Term,.int .i64 s104.Prev,
    .int .i64 s104.PTerm,v152,.int .i64 s104.Commit,.int .i64 s104.Match]) (v3 hS156) hW rfl (qk (a0t hv155) zl) (nle rfl) rfl (fun h158 hS159=>?_)
  simp only [qa,qr,B0,reduceIte,a8]
  obtain ⟨c160,hv161,hS162⟩:=a1a (c:=c20) (os:=c28++(c32)) hv23 rfl hx16 zo (Peer.RI (x:=x15) hv29 hv33) (a07 (c1:=c28) (c2:=c32) (a13 (v3
    (v3 hS159))))
  have hv163:=a04 hv161
  have e164:=qg hF149
  subst e164
  exact hN143 _ _ ⟨v152,c153,c160,f125,f127,f129,hv155,hv163,(v3 (v3 (p9 (o8 (v3 (o8 hS162))))))⟩
 ·rw [iteF hc146] at hX139
  simp only [qw,qr,B0,reduceIte,a8]
  obtain ⟨c165,hv166,hS167⟩:=a1a (c:=c20) (os:=c28++(c32)) hv23 rfl hx16 zo (Peer.RI (x:=x15) hv29 hv33) (a07 (c1:=c28) (c2:=c32) (v3 (p9
    (p9 hS124))))
  have hv168:=a04 hv166
  have e169:=qg hX139
  subst e169
  exact hN143 _ _ ⟨.nil,[],c165,f125,f127,f129,SlF.nil,hv168,((a0i (a0i (a0i (s9 (a0i hS167))))) : Sep _ lo ([Blk1 b1 [d4,
    d5] 29]++([Blk1 b9 [.nil,.nil] 29]++([Blk1 b98 [.bool s104.Reply,.int .i64 s104.From,.int .i64 s104.To,.int .i64 s104.Term,.int .i64 s104.Prev,
    .int .i64 s104.PTerm,.nil,.int .i64 s104.Commit,.int .i64 s104.Match] 86]++(c165++(d7++(S0)))))))⟩
 rintro fr170 h171 ⟨v132,c133,c136,f173,f174,f175,hv134,hv137,hS172⟩
 obtain ⟨s130,s135⟩:=sv141
 dsimp only at *
 unfold qep at hk140
 simp only [q9r,qd,qc,f173,ql,qb,n7,n8,n9,qu,qj,B0,reduceIte,a8]
 refine qf (v:=d5) ((jb (a0d _ _ _ hS172)).trans rfl) ?_
 simp only [f175,qj,B0,reduceIte,a8]
 refine qf (v := .agg [.bool s130.Reply,.int .i64 s130.From,.int .i64 s130.To,.int .i64 s130.Term,.int .i64 s130.Prev,.int .i64 s130.PTerm,v132,.int .i64 s130.Commit,
   .int .i64 s130.Match]) ((zq (a0d _ _ _ (o8 hS172))).trans rfl) ?_
 simp only [kc,evp,B0,reduceIte,a8]
 refine uc (R:=Mail.R) (n:=9) (cs:=[.bool s130.Reply,.int .i64 s130.From,.int .i64 s130.To,.int .i64 s130.Term,.int .i64 s130.Prev,.int .i64 s130.PTerm,
   v132,.int .i64 s130.Commit,.int .i64 s130.Match]) (os:=c133) (v3 hS172) (qd1 (us:=[.bool s130.Reply,.int .i64 s130.From,.int .i64 s130.To,.int .i64 s130.Term,
   .int .i64 s130.Prev,.int .i64 s130.PTerm,v132,.int .i64 s130.Commit,.int .i64 s130.Match]) (vs:=[.bool s130.Reply,.int .i64 s130.From,.int .i64 s130.To,
   .int .i64 s130.Term,.int .i64 s130.Prev,.int .i64 s130.PTerm,v132,.int .i64 s130.Commit,
   .int .i64 s130.Match]) rfl rfl (nle rfl) (qk rfl (qk rfl (qk rfl (qk rfl (qk rfl (qk rfl (qk (a0t hv134) (qk rfl
   (qk rfl zl))))))))) rfl qd2) (Mail.RI (x:=s130) hv134) rfl (fun v176 c177 h178 hv179 hS180=>?_)
 simp only [wc,B0,reduceIte,a8]
 obtain ⟨l182,hx183,hF184⟩:=qi hk140
 refine qa6 (R:=Mail.R) (c:=d7) e8 hv179 (v3 hS180) hW Mail.RO.len Mail.RO.one hx183 (fun v185 c186 h187 hv188 hS189=>?_)
 simp only [f173,ql,qb,n7,n8,n9,qu,zd,B0,reduceIte,a8]
 refine qz (us:=[v185]) (jj (a0j hv188)) (cs':=[d4,v185]) (s9 hS189) hW rfl (qk (a0j hv188) zl) (nle rfl) rfl (fun h191 hS192=>?_)
 simp only [qa,qd,qc,f173,qj,B0,reduceIte,a8]
 refine qf (v := .agg [d4,v185]) ((zq (a0d _ _ _ hS192)).trans rfl) ?_
 simp only [f174,zd,B0,reduceIte,a8]
 refine qz (us:=[d4,v185]) rfl (cs':=[d4,v185]) (o8 hS192) hW rfl (qk (a0j hv137) (qk (a0j hv188) zl)) (nle rfl) rfl (fun h193 hS194=>?_)
 simp only [qe,qa,qx,B0,reduceIte,a8]
 have he:=qg hF184
 subst he
 refine jf (qp (jk (bb:=b9) (oo:=0) (v := .agg [d4,
   v185]) (f174) ((zq (a0d _ _ _ hS194)).trans rfl)) (qp (kp (v := .bool true) (rfl)) zm)) ?_
 exact ⟨c136,v185,c186,by first | trivial | rfl,hv137,hv188,(s9 (a0g (s9 (a0g ((a0g (hS194)))))))⟩
end Go.Proofs.Ytanblnjomhgphaa.X
namespace Go.Proofs.Ytanblnjomhgphaa.X
open Go
theorem qk0 {W:Nat→Bool}{h:Heap}{lo:Nat→Prop}{S0:List Obj} (hW:∀ b,
  lo b→W b=true) (d8:Raft) (d4:XV) (f6:List Obj) (e9:SlN Peer.R 5 43 d4 d8.Peers f6) (d5:XV) (d7:List Obj)
  (e8:SlN Mail.R 9 86 d5 d8.Mail d7) (a9:Int) (i5:Int) (r:Raft × Bool) (hF:wz d8 a9 i5=some r) (hS:Sep h lo (f6++(d7 ++
  (S0)))) : Ret E W 79 [.agg [d4,d5],.int .i64 a9,.int .i64 i5] h (fun v h'=>∃ g9 i0,v = .tup [.agg [d4,d5],
  .bool r.2]∧SlN Peer.R 5 43 d4 r.1.Peers g9∧SlN Mail.R 9 86 d5 r.1.Mail i0∧Sep h' lo (g9++(i0++(S0)))):=by
 refine Ret.of (fn:=x79) rfl (Run.of ?_)
 unfold wz at hF
 have zf0:zf [.agg [d4,d5],.int .i64 a9,.int .i64 i5] 0 = .agg [d4,d5]:=rfl
 have zf1:zf [.agg [d4,d5],.int .i64 a9,.int .i64 i5] 1 = .int .i64 a9:=rfl
 have zf2:zf [.agg [d4,d5],.int .i64 a9,.int .i64 i5] 2 = .int .i64 i5:=rfl
 generalize zf [.agg [d4,d5],.int .i64 a9,.int .i64 i5]=fr0 at zf0 zf1 zf2 ⊢
 simp only [x79,qd,qc,kt,zf0,B0,reduceIte,a8]
 refine j0 (cs:=[d4,d5]) hS rfl rfl (qk (a0j e9) (qk (a0j e8) zl)) (fun b1 h2 hS3=>?_)
 simp only [jm,B0,reduceIte,a8]
 refine z3 hS3 (fun b5 h6 hS7=>?_)
 simp only [qe,qa,B0,reduceIte,a8]
 refine z8 (s9 hS7) hW (by simp only [B0,reduceIte,a8]) (fun h9 hS10=>?_)
 simp only [z7,qxb,qd,qc,ql,qb,n7,n8,n9,qn,qj,B0,reduceIte,a8]
 refine qf (v:=d4) rfl ?_
 obtain ⟨x11,hx12,hF13⟩:=qi hF
 simp only [zf1,qe,zu,B0,reduceIte,a8]
 obtain ⟨b14,hb15⟩:=a2z e9 (jq hx12)
 refine qf (SlN.ia e9 hb15 hx12) ?_
 obtain ⟨c16,cs17,os18,hv19,hR20,hS21⟩:=a15 (a18 e9 hb15 Peer.RO.len) hx12 zo Peer.RO.len (s9 hS10)
 obtain ⟨v23,c24,v27,c28,hv25,hv29,rfl,rfl⟩:=hR20
 have hS22:=a2e hS21
 simp only [qj,B0,reduceIte,a8]
 refine qf (v := .agg [.int .i64 x11.Term,.bool x11.Leads,v23,.int .i64 x11.Commit,v27]) ((SlG.lds (o:=0) hv19 rfl hx12 hS22 (nle rfl)).trans rfl) ?_
 simp only [jm,B0,reduceIte,a8]
 refine z3 hS22 (fun b31 h32 hS33=>?_)
 simp only [zd,B0,reduceIte,a8]
 refine qz (us:=[.int .i64 x11.Term,.bool x11.Leads,v23,.int .i64 x11.Commit,v27]) rfl (cs':=[.int .i64 x11.Term,.bool x11.Leads,v23,.int .i64 x11.Commit,
   v27]) hS33 hW rfl (qk rfl (qk rfl (qk (a0t hv25) (qk rfl (qk (a0t hv29) zl))))) (nle rfl) rfl (fun h35 hS36=>?_)
 simp only [qa,B0,reduceIte,a8]
 refine z8 hS36 hW (by simp only [B0,reduceIte,a8]) (fun h37 hS38=>?_)
 simp only [z7,qsm,qd,z9,zf2,zx,qh,zj,n7,n8,n9,qn,zh,B0,reduceIte,a8]
 refine qo (v := .int .i64 x11.Commit) rfl ?_
 simp only [kd,qh,qjo,zx,B0,reduceIte,a8]
 refine qaj 6 (fun fr' h'=>Sep h' lo (c16++(d7++([Blk1 b5 [.nil,
   .nil] 29]++(c24++(c28++(S0))))))∧fr' 27 = .bool ((decide (i5≤x11.Commit))||(decide
   ((o6 x11.Log:Int)<i5)))∧fr' 1 = .int .i64 a9∧fr' 2 = .int .i64 i5∧fr' 3 = .ref [d4,d5] 0∧fr' 6 = .ptr b5 0∧fr' 8 = .ref [.int .i64 x11.Term,
   .bool x11.Leads,v23,.int .i64 x11.Commit,v27] 0) rfl (fun Q39 hN40=>?_) ?_
 ·simp only [r8,t8]
  simp only [qy (g:=21),B0,reduceIte,a8]
  refine ye (t:=(decide (i5≤x11.Commit))) (fun hg41=>?_) (fun hg41=>?_)
  ·simp only [hg41,qy (g:=21),xy,kf,qh,z1,za,qr,B0,reduceIte,a8]
   exact hN40 _ _ ⟨(a0i (a0i (p9 (o8 (o8 hS38))))),by rw [orT hg41]; simp only [B0,reduceIte,a8],zf1,zf2,rfl,rfl,rfl⟩
  ·simp only [hg41,qy (g:=21),z6,zf2,zx,qh,zj,n7,n8,n9,qn,zh,B0,reduceIte,a8]
   refine qo (v:=v23) rfl ?_
   simp only [hg41,qy (g:=21),z6,wo,qh,a1o hv25,kd,ur,kf,zz,za,qr,B0,reduceIte,a8]
   exact hN40 _ _ ⟨(a0i (a0i (p9 (o8 (o8 hS38))))),by rw [orF hg41]; simp only [B0,reduceIte,a8],zf1,zf2,rfl,rfl,rfl⟩
 rintro fr42 h49 ⟨hS50,f43,f44,f45,f46,f47,f48⟩
 simp only [s5,t6]
 simp only [f43,zx,qh,B0,reduceIte,a8]
 obtain ⟨v54,hx55,hF56⟩:=qi hF13
 refine qaj 11 (fun fr' h'=>Sep h' lo (c16++(d7++([Blk1 b5 [.nil,
   .nil] 29]++(c24++(c28++(S0))))))∧fr' 39 = .bool v54∧fr' 1 = .int .i64 a9∧fr' 2 = .int .i64 i5∧fr' 3 = .ref [d4,
   d5] 0∧fr' 6 = .ptr b5 0∧fr' 8 = .ref [.int .i64 x11.Term,.bool x11.Leads,v23,.int .i64 x11.Commit,v27] 0) rfl (fun Q51 hN52=>?_) ?_
 ·simp only [r8,t8]
  simp only [qy (g:=28),B0,reduceIte,a8]
  refine ye (t:=((decide (i5≤x11.Commit))||(decide ((o6 x11.Log:Int)<i5)))) (fun hg53=>?_) (fun hg53=>?_)
  ·rw [iteT hg53] at hx55
   simp only [hg53,qy (g:=28),xy,kf,qh,z1,za,qr,B0,reduceIte,a8]
   have e57:=qg hx55
   exact hN52 _ _ ⟨(a0i (a0i (a0i (a0i (a0i hS50))))),by rw [←e57]; simp only [B0,reduceIte,a8],f44,f45,f46,f47,f48⟩
  ·rw [iteF hg53] at hx55
   simp only [hg53,qy (g:=28),z6,f48,zj,qh,n7,n8,n9,qn,zh,B0,reduceIte,a8]
   refine qo (v:=v23) rfl ?_
   obtain ⟨x58,hx59,hF60⟩:=qi hx55
   simp only [hg53,qy (g:=28),z6,f45,zx,qh,kd,qer,kz,B0,reduceIte,a8]
   obtain ⟨b61,hb62⟩:=a1w hv25 (jq hx59)
   refine qo (a2v hv25 hb62 hx59) ?_
   simp only [hg53,qy (g:=28),z6,zj,qh,n7,n8,n9,qu,zh,B0,reduceIte,a8]
   refine qo (v := .int .i64 x58.Term) ((SlF.ld (o:=0) hv25 (p9 hS50) hb62 hx59 (fun _=>rfl) (nle rfl)).trans rfl) ?_
   simp only [hg53,qy (g:=28),z6,f48,zj,qh,n7,n8,n9,qn,zh,B0,reduceIte,a8]
   refine qo (v := .int .i64 x11.Term) rfl ?_
   simp only [hg53,qy (g:=28),z6,kd,qh,ya,kf,zz,za,qr,B0,reduceIte,a8]
   have e63:=qg hF60
   exact hN52 _ _ ⟨(a0i (a0i (a0i (a0i (a0i hS50))))),by rw [←e63]; simp only [B0,reduceIte,a8],f44,f45,f46,f47,f48⟩
 rintro fr64 h71 ⟨hS72,f65,f66,f67,f68,f69,f70⟩
 simp only [s5,t6]
 simp only [za,q7g,f65,qv,B0,reduceIte,a8]
 refine qs (t:=v54) (fun hc73=>?_) (fun hc73=>?_)
 ·rw [iteT hc73] at hF56
  simp only [qd,qc,f68,qj,B0,reduceIte,a8]
  refine qf (v := .agg [d4,d5]) rfl ?_
  simp only [f69,zd,B0,reduceIte,a8]
  refine qz (us:=[d4,d5]) rfl (cs':=[d4,d5]) (o8 hS72) hW rfl (qk (a3c hv19) (qk (a0j e8) zl)) (nle rfl) rfl (fun h74 hS75=>?_)
  simp only [qe,qa,qx,B0,reduceIte,a8]
  obtain ⟨c76,hv77,hS78⟩:=a1a (c:=c16) (os:=c24++(c28)) hv19 rfl hx12 zo (Peer.RI (x:=x11) hv25 hv29) (a07 (c1:=c24) (c2:=c28) (p9 (a0i
    (a0i hS75))))
  have hv79:=a04 hv77
  have he:=qg hF56
  subst he
  refine jf (qp (jk (bb:=b5) (oo:=0) (v := .agg [d4,
    d5]) (f69) ((zq (a0d _ _ _ (s9 hS78))).trans rfl)) (qp (kp (v := .bool false) (rfl)) zm)) ?_
  exact ⟨c76,d7,by first | trivial | rfl,hv79,e8,(s9 (s9 (a0g (s9 hS78))))⟩
 rw [iteF hc73] at hF56
 simp only [qw,qui,qd,qc,qe,qa,qvm,f70,ql,qb,n7,n8,n9,qn,qj,B0,reduceIte,
   a8]
 refine qf (v:=v27) rfl ?_
 simp only [zr,qb,a1o hv29,qe,qa,B0,reduceIte,a8]
 obtain ⟨oc84,hX86,hk87⟩:=jz hF56
 simp only [q7d]
 refine qdf (σ:=Int) (fun i82 s116=>qbl i5 x11 i82 s116) (fun s fr' h'=>fr' 1 = .int .i64 a9∧fr' 2 = .int .i64 i5∧fr' 3 = .ref [d4,
   d5] 0∧fr' 6 = .ptr b5 0∧fr' 9 = .int .i64 s∧fr' 42=v27∧Sep h' lo (c16++(d7++([Blk1 b5 [.nil,.nil] 29]++(c28++(c24++(S0))))))) hX86 ⟨f66,f67,f68,
   f69,rfl,rfl,(a0i (a0i (a0i (a0i (p9 hS72)))))⟩ (by simp only [B0,reduceIte,a8]) (by simp only [B0,reduceIte,
   a8]) (fun _ _ _ h=>h) rfl rfl (fun _ _ _ _ h=>h) (fun _ _ _ _ h=>h) (fun _ _ _ _ h=>h) (by decide) ?_ ?_
 ·rintro i82 s81 fr96 h97 hx105 ⟨f99,f100,f101,f102,f103,f104,hS98⟩ f106 f107 oc85 hF88 hr89 Q90 hN91 hB95 hK92 hR93 hE94
  unfold qbl at hF88
  obtain ⟨x108,hx109,hF110⟩:=qi hF88
  simp only [q8z,qd,qc,f104,f106,zu,B0,reduceIte,a8]
  obtain ⟨b111,hb112⟩:=a1w hv29 (jq hx109)
  refine qf (a2v hv29 hb112 hx109) ?_
  simp only [qj,B0,reduceIte,a8]
  refine qf (v := .int .i64 x108) ((SlF.ld (o:=0) hv29 (p9 hS98) hb112 hx109 (fun _=>rfl) (nle rfl)).trans rfl) ?_
  simp only [qe,qa,q34,qd,qc,f100,qq,qb,qhi,q3s,qv,B0,reduceIte,a8]
  refine qs (t:=(decide (i5≤x108))) (fun hc113=>?_) (fun hc113=>?_)
  ·rw [iteT hc113] at hF110
   simp only [qc,f103,qe,qq,qb,j8,qa,qr,B0,reduceIte,a8]
   have e114:=qg hF110
   exact hN91 _ _ _ e114.symm ⟨f99,f100,f101,f102,rfl,f104,(a0i (a0i (a0i (a0i (a0i hS98)))))⟩ (f106) (f107)
  rw [iteF hc113] at hF110
  simp only [qw,qr,B0,reduceIte,a8]
  have e115:=qg hF110
  exact hN91 _ _ _ e115.symm ⟨f99,f100,f101,f102,f103,f104,(a0i (a0i (a0i (a0i (a0i hS98)))))⟩ (f106) (f107)
 rintro s117 fr118 h119 rfl ⟨f121,f122,f123,f124,f125,f126,hS120⟩
 dsimp only [jnO] at hk87
 unfold qbm at hk87
 simp only [q9k,qd,qc,f125,qe,qq,qb,qrr,f123,ql,n7,n8,n9,qn,qj,B0,reduceIte,a8]
 refine qf (v:=d4) rfl ?_
 simp only [zr,qb,SlG.plen hv19,qq,qjo,qa,q72,qv,B0,reduceIte,a8]
 refine qs (t:=(decide ((l9 .i64 ((2:Int)*s117))≤(o6 d8.Peers:Int)))) (fun hc127=>?_) (fun hc127=>?_)
 ·rw [iteT hc127] at hk87
  simp only [qd,qc,f123,qj,B0,reduceIte,a8]
  refine qf (v := .agg [d4,d5]) rfl ?_
  simp only [f124,zd,B0,reduceIte,a8]
  refine qz (us:=[d4,d5]) rfl (cs':=[d4,
    d5]) (o8 hS120) hW rfl (qk (a3c hv19) (qk (a0j e8) zl)) (nle rfl) rfl (fun h128 hS129=>?_)
  simp only [qe,qa,qx,B0,reduceIte,a8]
  obtain ⟨c130,hv131,hS132⟩:=a1a (c:=c16) (os:=c24++(c28)) hv19 rfl hx12 zo (Peer.RI (x:=x11) hv25 hv29) (a07 (c1:=c24) (c2:=c28) (p9 (a0i
    (p9 hS129))))
  have hv133:=a04 hv131
  have he:=qg hk87
  subst he
  refine jf (qp (jk (bb:=b5) (oo:=0) (v := .agg [d4,
    d5]) (f124) ((zq (a0d _ _ _ (s9 hS132))).trans rfl)) (qp (kp (v := .bool false) (rfl)) zm)) ?_
  exact ⟨c130,d7,by first | trivial | rfl,hv133,e8,(s9 (s9 (a0g (s9 hS132))))⟩
 rw [iteF hc127] at hk87
 simp only [qw,q1q,qd,qc,f123,ql,qb,n7,n8,n9,qn,qj,B0,reduceIte,a8]
 refine qf (v:=d4) rfl ?_
 simp only [f121,qe,f122,zu,B0,reduceIte,a8]
 refine qf (a24 hv19 hx12) ?_
 simp only [ql,qb,n7,n8,n9,qu,zd,B0,reduceIte,a8]
 refine kx (n:=5) (us:=[.int .i64 i5]) (cs:=[.int .i64 x11.Term,.bool x11.Leads,v23,.int .i64 x11.Commit,v27]) (o:=3) (cs':=[.int .i64 x11.Term,
   .bool x11.Leads,v23,.int .i64 i5,v27]) rfl hv19 rfl hx12 hS120 hW rfl rfl (nle rfl) rfl (fun c136 h134 hv137 hS135=>?_)
 simp only [qa,qd,qc,f123,qj,B0,reduceIte,a8]
 refine qf (v := .agg [d4,d5]) rfl ?_
 simp only [f124,zd,B0,reduceIte,a8]
 refine qz (us:=[d4,d5]) rfl (cs':=[d4,
   d5]) (o8 hS135) hW rfl (qk (a3c hv137) (qk (a0j e8) zl)) (nle rfl) rfl (fun h138 hS139=>?_)
 simp only [qe,qa,qx,B0,reduceIte,a8]
 obtain ⟨c140,hv141,hS142⟩:=a20 (e':=(Peer.mk x11.Term x11.Leads x11.Log i5 x11.Match)) (c:=c136) (os:=c24++(c28)) hv137 rfl hx12 zo (Peer.RI (x :=
   (Peer.mk x11.Term x11.Leads x11.Log i5 x11.Match)) hv25 hv29) (a07 (c1:=c24) (c2:=c28) (p9 (a0i (p9 hS139))))
 have hx143:=jl (x':=(Peer.mk x11.Term x11.Leads x11.Log i5 x11.Match)) hx12
 have hv144:=a04 hv141
 have he:=qg hk87
 subst he
 refine jf (qp (jk (bb:=b5) (oo:=0) (v := .agg [d4,
   d5]) (f124) ((zq (a0d _ _ _ (s9 hS142))).trans rfl)) (qp (kp (v := .bool true) (rfl)) zm)) ?_
 exact ⟨c140,d7,by first | trivial | rfl,hv144,e8,(s9 (s9 (a0g (s9 hS142))))⟩
end Go.Proofs.Ytanblnjomhgphaa.X
