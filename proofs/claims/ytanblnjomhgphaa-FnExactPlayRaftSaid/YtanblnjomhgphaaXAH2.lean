/- The functions' code comes to what the plain functions say (2). -/
import Derived.Test.YtanblnjomhgphaaXAH1
open Go.IntKind renaming wrap→l9
open List renaming drop_succ_cons→s5,drop_zero→t6,length→o6,set→a0u,take_succ_cons→r8,take_zero→t8
open Nat renaming add_zero→n9,reduceAdd→n7,reduceEqDiff→a8,zero_add→n8
open Go.Proofs.Ytanblnjomhgphaa.X.Sep renaming bk→a0d,dc→a0g,m1→s9,m2→o8,m3→p9,m4→a0i,m5→v3,ni2→a07,no2→a2e
open Go.Proofs.Ytanblnjomhgphaa.X.SlF renaming ia→a2v,isrow→a1w,one→a0t,plen→a1o
open Go.Proofs.Ytanblnjomhgphaa.X.SlG renaming cls0→a1a,cls→a20,ld→a1y,opn→a15,toN→a04
open Go.Proofs.Ytanblnjomhgphaa.X.SlN renaming nil→a2o,one→a0j,toG→a18
set_option linter.unusedVariables false
set_option linter.unusedSimpArgs false
set_option maxRecDepth 100000
set_option maxHeartbeats 1000000
namespace Go.Proofs.Ytanblnjomhgphaa.X
open Go
theorem qk1 {W:Nat→Bool}{h:Heap}{lo:Nat→Prop}{S0:List Obj} (hW:∀ b,
  lo b→W b=true) (pb0:Nat) (d8:Raft) (d4:XV) (f6:List Obj) (e9:SlN Peer.R 5 43 d4 d8.Peers f6) (d5:XV) (d7:List Obj)
  (e8:SlN Mail.R 9 86 d5 d8.Mail d7) (a9:Mail) (f0:XV) (g8:List Obj) (i4:SlF qt 2 65 f0 a9.Entry g8) (r:Raft × Mail)
  (hF:qbx d8 a9=some r) (hS:Sep h lo ([Blk1 pb0 [d4,d5] 29]++(f6++(d7++(g8++(S0)))))) : Ret E W 75 [.ptr pb0 0,.agg [.bool a9.Reply,
  .int .i64 a9.From,.int .i64 a9.To,.int .i64 a9.Term,.int .i64 a9.Prev,.int .i64 a9.PTerm,f0,.int .i64 a9.Commit,
  .int .i64 a9.Match]] h (fun v h'=>∃ ic0_0 iv0_1 ic0_1 ic1_6,
  v = .tup []∧SlN Peer.R 5 43 d4 r.1.Peers ic0_0∧SlN Mail.R 9 86 iv0_1 r.1.Mail ic0_1∧SlF qt 2 65 f0 r.2.Entry ic1_6∧Sep h' lo ([Blk1 pb0 [d4,
  iv0_1] 29]++(ic0_0++(ic0_1++(ic1_6++(S0)))))):=by
 refine Ret.of (fn:=x75) rfl (Run.of ?_)
 unfold qbx at hF
 have zf0:zf [.ptr pb0 0,.agg [.bool a9.Reply,.int .i64 a9.From,.int .i64 a9.To,.int .i64 a9.Term,.int .i64 a9.Prev,.int .i64 a9.PTerm,f0,
   .int .i64 a9.Commit,.int .i64 a9.Match]] 0 = .ptr pb0 0:=rfl
 have zf1:zf [.ptr pb0 0,.agg [.bool a9.Reply,.int .i64 a9.From,.int .i64 a9.To,.int .i64 a9.Term,.int .i64 a9.Prev,.int .i64 a9.PTerm,f0,
   .int .i64 a9.Commit,.int .i64 a9.Match]] 1 = .agg [.bool a9.Reply,.int .i64 a9.From,.int .i64 a9.To,.int .i64 a9.Term,.int .i64 a9.Prev,.int .i64 a9.PTerm,
   f0,.int .i64 a9.Commit,.int .i64 a9.Match]:=rfl
 generalize zf [.ptr pb0 0,.agg [.bool a9.Reply,.int .i64 a9.From,.int .i64 a9.To,.int .i64 a9.Term,.int .i64 a9.Prev,.int .i64 a9.PTerm,f0,
   .int .i64 a9.Commit,.int .i64 a9.Match]]=fr0 at zf0 zf1 ⊢
 simp only [x75,qd,qc,kt,zf1,B0,reduceIte,a8]
 refine j0 (cs:=[.bool a9.Reply,.int .i64 a9.From,.int .i64 a9.To,.int .i64 a9.Term,.int .i64 a9.Prev,.int .i64 a9.PTerm,f0,.int .i64 a9.Commit,
   .int .i64 a9.Match]) hS rfl rfl (qk rfl (qk rfl (qk rfl (qk rfl (qk rfl (qk rfl (qk (a0t i4) (qk rfl (qk rfl zl)))))))))
   (fun b1 h2 hS3=>?_)
 simp only [qa,B0,reduceIte,a8]
 refine z8 hS3 hW (by simp only [B0,reduceIte,a8]) (fun h5 hS6=>?_)
 simp only [z7,qwj,qd,z9,zf0,zx,qh,jx,zt,zj,n7,n8,n9,qu,zh,B0,reduceIte,
   a8]
 refine qo (v:=d4) ((jb (a0d _ _ _ hS6)).trans rfl) ?_
 simp only [zj,qh,n7,n8,n9,qn,zh,B0,reduceIte,a8]
 refine qo (v := .int .i64 a9.To) rfl ?_
 obtain ⟨x7,hx8,hF9⟩:=qi hF
 simp only [kz,B0,reduceIte,a8]
 obtain ⟨b10,hb11⟩:=SlN.isrow e9 (jq hx8)
 refine qo (SlN.ia e9 hb11 hx8) ?_
 simp only [zx,qh,za,qul,qd,z9,zj,n7,n8,n9,qn,zh,B0,reduceIte,a8]
 refine qo (v := .int .i64 a9.Term) rfl ?_
 obtain ⟨c12,cs13,os14,hv15,hR16,hS17⟩:=a15 (a18 e9 hb11 Peer.RO.len) hx8 zo Peer.RO.len (s9 hS6)
 obtain ⟨v19,c20,v23,c24,hv21,hv25,rfl,rfl⟩:=hR16
 have hS18:=a2e hS17
 simp only [zx,qh,jx,zt,zj,n7,n8,n9,qu,zh,B0,reduceIte,a8]
 refine qo (v := .int .i64 x7.Term) ((a1y (o:=0) hv15 rfl hx8 hS18 (nle rfl)).trans rfl) ?_
 simp only [kd,qh,ur,za,q4g,qv,B0,reduceIte,a8]
 obtain ⟨c27,hv28,hS29⟩:=a1a (c:=c12) (os:=c20++(c24)) hv15 rfl hx8 zo (Peer.RI (x:=x7) hv21 hv25) (a07 (c1:=c20) (c2:=c24) (o8 (o8
   (o8 hS18))))
 have hv30:=a04 hv28
 obtain ⟨s31,hX35,hk36⟩:=qi hF9
 refine xh (t:=(decide (x7.Term<a9.Term))) (fun fr' h'=>∃ c32,fr' 0 = .ptr pb0 0∧fr' 3 = .ref [.bool a9.Reply,.int .i64 a9.From,.int .i64 a9.To,
   .int .i64 a9.Term,.int .i64 a9.Prev,.int .i64 a9.PTerm,f0,.int .i64 a9.Commit,
   .int .i64 a9.Match] 0∧fr' 4 = .ptr b10 (a9.To.toNat*5)∧SlN Peer.R 5 43 d4 s31 c32∧Sep h' lo ([Blk1 pb0 [d4,
   d5] 29]++(g8++(c32++(d7++(S0)))))) (fun Q37 hN38 hR39 hE40=>⟨fun hc41=>?_,fun hc41=>?_⟩) ?_
 ·rw [iteT hc41] at hX35
  simp only [q7s,qd,qc,qe,ql,qb,n7,n8,n9,qn,qj,B0,reduceIte,a8]
  refine qf (v := .int .i64 a9.Term) rfl ?_
  obtain ⟨c44,cs45,os46,hv47,hR48,hS49⟩:=a15 (a18 hv30 hb11 Peer.RO.len) hx8 zo Peer.RO.len hS29
  obtain ⟨v51,c52,v55,c56,hv53,hv57,rfl,rfl⟩:=hR48
  have hS50:=a2e hS49
  simp only [wt,qb,zt,ql,n7,n8,n9,qu,zd,B0,reduceIte,a8]
  refine kx (n:=5) (us:=[.int .i64 a9.Term]) (cs:=[.int .i64 x7.Term,.bool x7.Leads,v51,.int .i64 x7.Commit,v55]) (o:=0) (cs':=[.int .i64 a9.Term,
    .bool x7.Leads,v51,.int .i64 x7.Commit,v55]) rfl hv47 rfl hx8 hS50 hW rfl rfl (nle rfl) rfl (fun c59 h42 hv60 hS43=>?_)
  simp only [qa,q3n,qd,qc,qe,wt,qb,zt,ql,n7,n8,n9,qu,zd,B0,reduceIte,
    a8]
  refine kx (n:=5) (us:=[.bool false]) (cs:=[.int .i64 a9.Term,.bool x7.Leads,v51,.int .i64 x7.Commit,v55]) (o:=1) (cs':=[.int .i64 a9.Term,.bool false,
    v51,.int .i64 x7.Commit,v55]) rfl hv60 rfl hx8 hS43 hW rfl rfl (nle rfl) rfl (fun c63 h61 hv64 hS62=>?_)
  simp only [qa,q3x,qc,qe,zf0,wt,qb,zt,ql,n7,n8,n9,qu,qj,B0,reduceIte,
    a8]
  refine qf (v:=d4) ((jb (a0d _ _ _ (p9 hS62))).trans rfl) ?_
  obtain ⟨l65,hx66,hF67⟩:=qi hX35
  simp only [zr,qb,SlG.plen hv64,qj3,B0,reduceIte,a8]
  refine qf0 (f:=cI) (z:=(0:Int)) hS62 hx66 rfl (fun v68 c69 h70 hv71 hS72=>?_)
  simp only [wt,qb,zt,ql,n7,n8,n9,qu,zd,B0,reduceIte,a8]
  refine kx (n:=5) (us:=[v68]) (cs:=[.int .i64 a9.Term,.bool false,v51,.int .i64 x7.Commit,v55]) (o:=4) (cs':=[.int .i64 a9.Term,.bool false,v51,
    .int .i64 x7.Commit,v68]) (jj (a0t hv71)) hv64 rfl hx8 (s9 hS72) hW rfl (qk (a0t hv71) zl) (nle rfl) rfl (fun c76 h74 hv77 hS75=>?_)
  simp only [qa,qr,B0,reduceIte,a8]
  obtain ⟨c78,hv79,hS80⟩:=a20 (e':=(Peer.mk a9.Term false x7.Log x7.Commit l65)) (c:=c76) (os:=c52++(c69)) hv77 rfl hx8 zo (Peer.RI (x :=
    (Peer.mk a9.Term false x7.Log x7.Commit l65)) hv53 hv71) (a07 (c1:=c52) (c2:=c69) (o8 (o8 (s9 hS75))))
  have hx81:=jl (x':=(Peer.mk a9.Term false x7.Log x7.Commit l65)) hx8
  have hv82:=a04 hv79
  have e83:=qg hF67
  subst e83
  exact hN38 _ _ ⟨c78,zf0,rfl,rfl,hv82,(p9 (p9 (s9 (o8 (a0g (s9 hS80))))))⟩
 ·rw [iteF hc41] at hX35
  simp only [qw,qr,B0,reduceIte,a8]
  have e84:=qg hX35
  subst e84
  exact hN38 _ _ ⟨c27,zf0,rfl,rfl,hv30,(p9 (p9 (s9 (o8 hS29))))⟩
 rintro fr85 h86 ⟨c32,f88,f89,f90,hv33,hS87⟩
 unfold uw at hk36
 simp only [qww,qd,z9,f89,zj,qh,n7,n8,n9,qn,zh,B0,reduceIte,a8]
 refine qo (v := .int .i64 a9.Term) rfl ?_
 obtain ⟨x91,hx92,hF93⟩:=qi hk36
 obtain ⟨c94,cs95,os96,hv97,hR98,hS99⟩:=a15 (a18 hv33 hb11 Peer.RO.len) hx92 zo Peer.RO.len (o8 hS87)
 obtain ⟨v101,c102,v105,c106,hv103,hv107,rfl,rfl⟩:=hR98
 have hS100:=a2e hS99
 simp only [f90,zx,qh,jx,zt,zj,n7,n8,n9,qu,zh,B0,reduceIte,a8]
 refine qo (v := .int .i64 x91.Term) ((a1y (o:=0) hv97 rfl hx92 hS100 (nle rfl)).trans rfl) ?_
 simp only [kd,qh,ya,za,qv,B0,reduceIte,a8]
 refine qs (t:=(decide (a9.Term≠x91.Term))) (fun hc109=>?_) (fun hc109=>?_)
 ·rw [iteT hc109] at hF93
  simp only [qx,B0,reduceIte,a8]
  obtain ⟨c110,hv111,hS112⟩:=a1a (c:=c94) (os:=c102++(c106)) hv97 rfl hx92 zo (Peer.RI (x:=x91) hv103 hv107) (a07 (c1:=c102) (c2:=c106) (o8
    (o8 (o8 hS100))))
  have hv113:=a04 hv111
  have he:=qg hF93
  subst he
  simp only [qkn,B0,reduceIte,a8]
  exact ⟨c110,d5,d7,g8,by first | trivial | rfl,hv113,e8,i4,(p9 (o8 (p9 (o8 hS112))))⟩
 rw [iteF hc109] at hF93
 simp only [qw,qv7,qd,qc,f89,ql,qb,n7,n8,n9,qn,qj,B0,reduceIte,a8]
 refine qf (v := .bool a9.Reply) rfl ?_
 simp only [qa,q2h,qv,B0,reduceIte,a8]
 refine qs (t:=a9.Reply) (fun hc114=>?_) (fun hc114=>?_)
 ·rw [iteT hc114] at hF93
  simp only [q2t,qd,qc,f90,qe,wt,qb,zt,ql,n7,n8,n9,qu,qj,B0,reduceIte,a8]
  refine qf (v := .bool x91.Leads) ((a1y (o:=1) hv97 rfl hx92 hS100 (nle rfl)).trans rfl) ?_
  simp only [qa,q9i,qv,B0,reduceIte,a8]
  obtain ⟨c115,hv116,hS117⟩:=a1a (c:=c94) (os:=c102++(c106)) hv97 rfl hx92 zo (Peer.RI (x:=x91) hv103 hv107) (a07 (c1:=c102) (c2:=c106) (o8
    (o8 (o8 hS100))))
  have hv118:=a04 hv116
  obtain ⟨s119,hX123,hk124⟩:=qi hF93
  refine xh (t:=x91.Leads) (fun fr' h'=>∃ c120,SlN Peer.R 5 43 d4 s119 c120∧Sep h' lo ([Blk1 pb0 [d4,
    d5] 29]++(g8++(c120++(d7++(S0)))))) (fun Q125 hN126 hR127 hE128=>⟨fun hc129=>?_,fun hc129=>?_⟩) ?_
  ·rw [iteT hc129] at hX123
   obtain ⟨c130,cs131,os132,hv133,hR134,hS135⟩:=a15 (a18 hv118 hb11 Peer.RO.len) hx92 zo Peer.RO.len hS117
   obtain ⟨v137,c138,v141,c142,hv139,hv143,rfl,rfl⟩:=hR134
   have hS136:=a2e hS135
   simp only [q13,z9,f90,zx,qh,jx,zt,zj,n7,n8,n9,qu,zh,B0,reduceIte,a8]
   refine qo (v:=v141) ((a1y (o:=4) hv133 rfl hx92 hS136 (nle rfl)).trans rfl) ?_
   simp only [f89,zj,qh,n7,n8,n9,qn,zh,B0,reduceIte,a8]
   refine qo (v := .int .i64 a9.From) rfl ?_
   simp only [f90,zx,qh,jx,zt,zj,n7,n8,n9,qu,zh,B0,reduceIte,a8]
   refine qo (v:=v141) ((a1y (o:=4) hv133 rfl hx92 hS136 (nle rfl)).trans rfl) ?_
   simp only [f89,zj,qh,n7,n8,n9,qn,zh,B0,reduceIte,a8]
   refine qo (v := .int .i64 a9.From) rfl ?_
   obtain ⟨x145,hx146,hF147⟩:=qi hX123
   simp only [kz,B0,reduceIte,a8]
   obtain ⟨b148,hb149⟩:=a1w hv143 (jq hx146)
   refine qo (a2v hv143 hb149 hx146) ?_
   simp only [zh,B0,reduceIte,a8]
   refine qo (v := .int .i64 x145) ((SlF.ld (o:=0) hv143 (o8 hS136) hb149 hx146 (fun _=>rfl) (nle rfl)).trans rfl) ?_
   simp only [f89,zj,qh,n7,n8,n9,qn,zh,B0,reduceIte,a8]
   refine qo (v := .int .i64 a9.Match) rfl ?_
   simp only [f90,zx,qh,jx,zt,zj,n7,n8,n9,qu,zh,B0,reduceIte,a8]
   refine qo (v:=v137) ((a1y (o:=2) hv133 rfl hx92 hS136 (nle rfl)).trans rfl) ?_
   simp only [wo,qh,a1o hv139,qlr,qnz,qqo,kz,B0,reduceIte,a8]
   refine qo (a2v hv143 hb149 hx146) ?_
   simp only [xx,B0,reduceIte,a8]
   refine qeh (f:=cI) (x':=(mxI x145 (mnI a9.Match (o6 x91.Log:Int)))) (o:=0) hv143 (o8 hS136) hW hb149 hx146 (fun _=>rfl) rfl rfl (nle rfl) rfl
     (fun c152 h150 hv153 hS151=>?_)
   have hx154:=jl (x':=(mxI x145 (mnI a9.Match (o6 x91.Log:Int)))) hx146
   simp only [za,qr,B0,reduceIte,a8]
   obtain ⟨c155,hv156,hS157⟩:=a20 (e':=(Peer.mk x91.Term x91.Leads x91.Log x91.Commit (a0u x91.Match a9.From.toNat (mxI x145 (mnI a9.Match
     (o6 x91.Log:Int)))))) (c:=c130) (os:=c138++(c152)) hv133 rfl hx92 zo (Peer.RI (x:=(Peer.mk x91.Term x91.Leads x91.Log x91.Commit
     (a0u x91.Match a9.From.toNat (mxI x145 (mnI a9.Match (o6 x91.Log:Int)))))) hv139 hv153) (a07 (c1:=c138) (c2:=c152) (o8 (o8 hS151)))
   have hx158:=jl (x':=(Peer.mk x91.Term x91.Leads x91.Log x91.Commit (a0u x91.Match a9.From.toNat (mxI x145 (mnI a9.Match (o6 x91.Log:Int)))))) hx92
   have hv159:=a04 hv156
   have e160:=qg hF147
   subst e160
   exact hN126 _ _ ⟨c155,hv159,(p9 (p9 (s9 (p9 hS157))))⟩
  ·rw [iteF hc129] at hX123
   simp only [qw,qr,B0,reduceIte,a8]
   have e161:=qg hX123
   subst e161
   exact hN126 _ _ ⟨c115,hv118,(p9 (p9 (s9 (p9 hS117))))⟩
  rintro fr162 h163 ⟨c120,hv121,hS164⟩
  unfold qbs at hk124
  simp only [qx,B0,reduceIte,a8]
  have he:=qg hk124
  subst he
  simp only [qkn,B0,reduceIte,a8]
  exact ⟨c120,d5,d7,g8,by first | trivial | rfl,hv121,e8,i4,(p9 (p9 (p9 (s9 hS164))))⟩
 rw [iteF hc114] at hF93
 simp only [qw,qxo,qd,z9,f89,zj,qh,n7,n8,n9,qn,zh,B0,reduceIte,a8]
 refine qo (v := .int .i64 a9.Prev) rfl ?_
 simp only [f90,zx,qh,jx,zt,zj,n7,n8,n9,qu,zh,B0,reduceIte,a8]
 refine qo (v:=v101) ((a1y (o:=2) hv97 rfl hx92 hS100 (nle rfl)).trans rfl) ?_
 simp only [wo,qh,a1o hv103,kd,ur,zx,B0,reduceIte,a8]
 obtain ⟨v169,hx170,hF171⟩:=qi hF93
 refine qaj 19 (fun fr' h'=>Sep h' lo ([Blk1 pb0 [d4,
   d5] 29]++(g8++(c94++(d7++(c102++(c106++(S0)))))))∧fr' 104 = .bool v169∧fr' 0 = .ptr pb0 0∧fr' 3 = .ref [.bool a9.Reply,.int .i64 a9.From,
   .int .i64 a9.To,.int .i64 a9.Term,.int .i64 a9.Prev,.int .i64 a9.PTerm,f0,.int .i64 a9.Commit,
   .int .i64 a9.Match] 0∧fr' 4 = .ptr b10 (a9.To.toNat*5)) rfl (fun Q166 hN167=>?_) ?_
 ·simp only [r8,t8]
  simp only [qy (g:=85),B0,reduceIte,a8]
  refine ye (t:=(decide ((o6 x91.Log:Int)<a9.Prev))) (fun hg168=>?_) (fun hg168=>?_)
  ·rw [iteT hg168] at hx170
   simp only [hg168,qy (g:=85),xy,qy (g:=89),qlh,kf,qh,z1,za,qr,B0,reduceIte,a8]
   have e172:=qg hx170
   exact hN167 _ _ ⟨(v3 (v3 (p9 (v3 (o8 (o8 hS100)))))),by rw [←e172]; simp only [B0,reduceIte,a8],f88,f89,f90⟩
  ·rw [iteF hg168] at hx170
   simp only [hg168,qy (g:=85),z6,f89,zj,qh,n7,n8,n9,qn,zh,B0,reduceIte,a8]
   refine qo (v := .int .i64 a9.Prev) rfl ?_
   simp only [hg168,qy (g:=85),z6,kd,qh,ur,zx,B0,reduceIte,a8]
   obtain ⟨v176,hx177,hF178⟩:=qi hx170
   refine qaj 14 (fun fr' h'=>Sep h' lo ([Blk1 pb0 [d4,
     d5] 29]++(g8++(c94++(d7++(c102++(c106++(S0)))))))∧fr' 103 = .bool v176∧fr' 0 = .ptr pb0 0∧fr' 3 = .ref [.bool a9.Reply,.int .i64 a9.From,
     .int .i64 a9.To,.int .i64 a9.Term,.int .i64 a9.Prev,.int .i64 a9.PTerm,f0,.int .i64 a9.Commit,
     .int .i64 a9.Match] 0∧fr' 4 = .ptr b10 (a9.To.toNat*5)∧fr' 85 = .bool (decide ((o6 x91.Log:Int)<a9.Prev))) rfl (fun Q173 hN174=>?_) ?_
   ·simp only [r8,t8]
    simp only [qy (g:=89),B0,reduceIte,a8]
    refine ye (t:=(decide ((0:Int)<a9.Prev))) (fun hg175=>?_) (fun hg175=>?_)
    ·rw [iteT hg175] at hx177
     simp only [hg175,qy (g:=89),z5,f90,zx,qh,jx,zt,zj,n7,n8,n9,qu,zh,B0,
       reduceIte,a8]
     refine qo (v:=v101) ((a1y (o:=2) hv97 rfl hx92 hS100 (nle rfl)).trans rfl) ?_
     simp only [hg175,qy (g:=89),z5,f89,zj,qh,n7,n8,n9,qn,zh,B0,reduceIte,a8]
     refine qo (v := .int .i64 a9.Prev) rfl ?_
     obtain ⟨x179,hx180,hF181⟩:=qi hx177
     simp only [hg175,qy (g:=89),z5,kd,qh,qer,kz,B0,reduceIte,a8]
     obtain ⟨b182,hb183⟩:=a1w hv103 (jq hx180)
     refine qo (a2v hv103 hb183 hx180) ?_
     simp only [hg175,qy (g:=89),z5,zj,qh,n7,n8,n9,qu,zh,B0,reduceIte,a8]
     refine qo (v := .int .i64 x179.Term) ((SlF.ld (o:=0) hv103 (s9 hS100) hb183 hx180 (fun _=>rfl) (nle rfl)).trans rfl) ?_
     simp only [hg175,qy (g:=89),z5,f89,zj,qh,n7,n8,n9,qn,zh,B0,reduceIte,a8]
     refine qo (v := .int .i64 a9.PTerm) rfl ?_
     simp only [hg175,qy (g:=89),z5,kd,qh,ya,hg168,qy (g:=85),z6,kf,z1,za,qr,B0,
       reduceIte,a8]
     have e184:=qg hF181
     exact hN174 _ _ ⟨(v3 (v3 (p9 (v3 (o8 (o8 hS100)))))),by rw [←e184]; simp only [B0,reduceIte,a8],f88,f89,f90,
       by simp only [hg168,B0,reduceIte,a8]⟩
    ·rw [iteF hg175] at hx177
     simp only [hg175,qy (g:=89),qa5,hg168,qy (g:=85),z6,kf,qh,zz,za,qr,B0,reduceIte,
       a8]
     have e185:=qg hx177
     exact hN174 _ _ ⟨(v3 (v3 (p9 (v3 (o8 (o8 hS100)))))),by rw [←e185]; simp only [B0,reduceIte,a8],f88,f89,f90,
       by simp only [hg168,B0,reduceIte,a8]⟩
   rintro fr186 h192 ⟨hS193,f187,f188,f189,f190,f191⟩
   simp only [s5,t6]
   simp only [f191,hg168,kf,qh,zz,f187,za,qr,B0,reduceIte,a8]
   have e194:=qg hF178
   exact hN167 _ _ ⟨(v3 (v3 (v3 (v3 (v3 (v3 hS193)))))),by rw [←e194]; simp only [B0,reduceIte,a8],f188,f189,f190⟩
 rintro fr195 h200 ⟨hS201,f196,f197,f198,f199⟩
 simp only [s5,t6]
 simp only [za,f196,qv,B0,reduceIte,a8]
 refine qs (t:=v169) (fun hc202=>?_) (fun hc202=>?_)
 ·rw [iteT hc202] at hF171
  simp only [qx,B0,reduceIte,a8]
  obtain ⟨c203,hv204,hS205⟩:=a1a (c:=c94) (os:=c102++(c106)) hv97 rfl hx92 zo (Peer.RI (x:=x91) hv103 hv107) (a07 (c1:=c102) (c2:=c106) (a0i
    (v3 (v3 hS201))))
  have hv206:=a04 hv204
  have he:=qg hF171
  subst he
  simp only [qkn,B0,reduceIte,a8]
  exact ⟨c203,d5,d7,g8,by first | trivial | rfl,hv206,e8,i4,(p9 (o8 (p9 (o8 hS205))))⟩
 rw [iteF hc202] at hF171
 simp only [qw,qv4,qd,qc,f198,ql,qb,n7,n8,n9,qn,qj,B0,reduceIte,a8]
 refine qf (v := .int .i64 a9.Prev) rfl ?_
 simp only [qe,qa,qr9,qd,qc,f198,ql,qb,n7,n8,n9,qn,qj,B0,reduceIte,a8]
 refine qf (v:=f0) rfl ?_
 simp only [zr,qb,a1o i4,qe,qa,B0,reduceIte,a8]
 obtain ⟨c207,hv208,hS209⟩:=a1a (c:=c94) (os:=c102++(c106)) hv97 rfl hx92 zo (Peer.RI (x:=x91) hv103 hv107) (a07 (c1:=c102) (c2:=c106) (a0i
   (v3 (v3 hS201))))
 have hv210:=a04 hv208
 obtain ⟨oc221,hX223,hk224⟩:=jz hF171
 simp only [qzc]
 refine qdf (σ:=Int × (List Peer)) (fun i219 s489=>qbq a9 i219 s489.1 s489.2) (fun s fr' h'=>∃ c217,fr' 0 = .ptr pb0 0∧fr' 3 = .ref [.bool a9.Reply,
   .int .i64 a9.From,.int .i64 a9.To,.int .i64 a9.Term,.int .i64 a9.Prev,.int .i64 a9.PTerm,f0,.int .i64 a9.Commit,
   .int .i64 a9.Match] 0∧fr' 4 = .ptr b10 (a9.To.toNat*5)∧fr' 5 = .int .i64 s.1∧fr' 108=f0∧SlN Peer.R 5 43 d4 s.2 c217∧Sep h' lo ([Blk1 pb0 [d4,
   d5] 29]++(g8++(c217++(d7++(S0)))))) hX223 ⟨c207,f197,f198,f199,rfl,rfl,hv210,(p9 (p9 (s9 (p9 hS209))))⟩ (by simp only [B0,reduceIte,
   a8]) (by simp only [B0,reduceIte,a8]) (fun _ _ _ h=>h) rfl rfl (fun _ _ _ _ h=>h) (fun _ _ _ _ h=>h) (fun _ _ _ _ h=>h) (by decide) ?_ ?_
 ·rintro i219 ⟨s215,s216⟩ fr233 h234 hx241 ⟨c217,f236,f237,f238,f239,f240,hv218,hS235⟩ f242 f243 oc222 hF225 hr226 Q227 hN228 hB232 hK229 hR230 hE231
  dsimp only at *
  unfold qbq at hF225
  obtain ⟨x244,hx245,hF246⟩:=qi hF225
  simp only [qtt,qd,qc,f240,f242,zu,B0,reduceIte,a8]
  obtain ⟨b247,hb248⟩:=a1w i4 (jq hx245)
  refine qf (a2v i4 hb248 hx245) ?_
  simp only [qj,B0,reduceIte,a8]
  refine qf (v := .agg [.int .i64 x244.Term,.int .i64 x244.Value]) ((SlF.lds (o:=0) i4 (s9 hS235) hb248 hx245 (fun _=>rfl) (nle rfl)).trans rfl) ?_
  simp only [jm,B0,reduceIte,a8]
  refine z3 hS235 (fun b249 h250 hS251=>?_)
  simp only [zd,B0,reduceIte,a8]
  refine qz (us:=[.int .i64 x244.Term,.int .i64 x244.Value]) rfl (cs':=[.int .i64 x244.Term,
    .int .i64 x244.Value]) hS251 hW rfl rfl (nle rfl) rfl (fun h253 hS254=>?_)
  simp only [qa,B0,reduceIte,a8]
  refine z8 hS254 hW (by simp only [B0,reduceIte,a8]) (fun h255 hS256=>?_)
  simp only [z7,qw6,qd,z9,f237,zj,qh,n7,n8,n9,qn,zh,B0,reduceIte,a8]
  refine qo (v := .int .i64 a9.Prev) rfl ?_
  obtain ⟨x257,hx258,hF259⟩:=qi hF246
  obtain ⟨c260,cs261,os262,hv263,hR264,hS265⟩:=a15 (a18 hv218 hb11 Peer.RO.len) hx258 zo Peer.RO.len (o8 hS256)
  obtain ⟨v267,c268,v271,c272,hv269,hv273,rfl,rfl⟩:=hR264
  have hS266:=a2e hS265
  simp only [f238,zx,qh,jx,zt,zj,n7,n8,n9,qu,zh,B0,reduceIte,a8]
  refine qo (v:=v267) ((a1y (o:=2) hv263 rfl hx258 hS266 (nle rfl)).trans rfl) ?_
  simp only [wo,qh,a1o hv269,kd,yg,zx,B0,reduceIte,a8]
  obtain ⟨v278,hx279,hF280⟩:=qi hF259
  refine qaj 13 (fun fr' h'=>Sep h' lo ([Blk1 pb0 [d4,
    d5] 29]++(g8++(c260++(d7++(c268++(c272++(S0)))))))∧fr' 135 = .bool v278∧fr' 0 = .ptr pb0 0∧fr' 3 = .ref [.bool a9.Reply,.int .i64 a9.From,
    .int .i64 a9.To,.int .i64 a9.Term,.int .i64 a9.Prev,.int .i64 a9.PTerm,f0,.int .i64 a9.Commit,
    .int .i64 a9.Match] 0∧fr' 4 = .ptr b10 (a9.To.toNat*5)∧fr' 5 = .int .i64 s215∧fr' 7 = .ref [.int .i64 x244.Term,
    .int .i64 x244.Value] 0∧fr' 108=f0∧fr' 109 = .int .i64 (o6 a9.Entry:Int)∧fr' 110 = .int .i64 (i219:Int)) rfl (fun Q275 hN276=>?_) ?_
  ·simp only [r8,t8]
   simp only [qy (g:=122),B0,reduceIte,a8]
   refine ye (t:=(decide (a9.Prev<(o6 x257.Log:Int)))) (fun hg277=>?_) (fun hg277=>?_)
   ·rw [iteT hg277] at hx279
    simp only [hg277,qy (g:=122),z5,f238,zx,qh,jx,zt,zj,n7,n8,n9,qu,zh,B0,
      reduceIte,a8]
    refine qo (v:=v267) ((a1y (o:=2) hv263 rfl hx258 hS266 (nle rfl)).trans rfl) ?_
    simp only [hg277,qy (g:=122),z5,f237,zj,qh,n7,n8,n9,qn,zh,B0,reduceIte,a8]
    refine qo (v := .int .i64 a9.Prev) rfl ?_
    obtain ⟨x281,hx282,hF283⟩:=qi hx279
    simp only [hg277,qy (g:=122),z5,kz,B0,reduceIte,a8]
    obtain ⟨b284,hb285⟩:=a1w hv269 (jq hx282)
    refine qo (a2v hv269 hb285 hx282) ?_
    simp only [hg277,qy (g:=122),z5,zj,qh,n7,n8,n9,qu,zh,B0,reduceIte,a8]
    refine qo (v := .int .i64 x281.Term) ((SlF.ld (o:=0) hv269 (s9 hS266) hb285 hx282 (fun _=>rfl) (nle rfl)).trans rfl) ?_
    simp only [hg277,qy (g:=122),z5,zj,qh,n7,n8,n9,qn,zh,B0,reduceIte,a8]
    refine qo (v := .int .i64 x244.Term) rfl ?_
    simp only [hg277,qy (g:=122),z5,kd,qh,ya,kf,z1,za,qr,B0,reduceIte,a8]
    have e286:=qg hF283
    exact hN276 _ _ ⟨(v3 (v3 (p9 (v3 (o8 (o8 hS266)))))),by rw [←e286]; simp only [B0,reduceIte,a8],f236,f237,f238,f239,rfl,f240,
      f243,f242⟩
   ·rw [iteF hg277] at hx279
    simp only [hg277,qy (g:=122),qa5,kf,qh,zz,za,qr,B0,reduceIte,a8]
    have e287:=qg hx279
    exact hN276 _ _ ⟨(v3 (v3 (p9 (v3 (o8 (o8 hS266)))))),by rw [←e287]; simp only [B0,reduceIte,a8],f236,f237,f238,f239,rfl,f240,
      f243,f242⟩
  rintro fr288 h298 ⟨hS299,f289,f290,f291,f292,f293,f294,f295,f296,f297⟩
  simp only [s5,t6]
  simp only [za,qxx,f289,qv,B0,reduceIte,a8]
  obtain ⟨c300,hv301,hS302⟩:=a1a (c:=c260) (os:=c268++(c272)) hv263 rfl hx258 zo (Peer.RI (x:=x257) hv269 hv273) (a07 (c1:=c268) (c2:=c272) (a0i
    (v3 (v3 hS299))))
  have hv303:=a04 hv301
  obtain ⟨s304,hX308,hk309⟩:=qi hF280
  refine xh (t:=v278) (fun fr' h'=>∃ c305,fr' 0 = .ptr pb0 0∧fr' 3 = .ref [.bool a9.Reply,.int .i64 a9.From,.int .i64 a9.To,.int .i64 a9.Term,
    .int .i64 a9.Prev,.int .i64 a9.PTerm,f0,.int .i64 a9.Commit,
    .int .i64 a9.Match] 0∧fr' 4 = .ptr b10 (a9.To.toNat*5)∧fr' 5 = .int .i64 s215∧fr' 7 = .ref [.int .i64 x244.Term,
    .int .i64 x244.Value] 0∧fr' 108=f0∧fr' 109 = .int .i64 (o6 a9.Entry:Int)∧fr' 110 = .int .i64
    (i219:Int)∧SlN Peer.R 5 43 d4 s304 c305∧Sep h' lo ([Blk1 pb0 [d4,
    d5] 29]++(g8++(c305++(d7++(S0)))))) (fun Q310 hN311 hR312 hE313=>⟨fun hc314=>?_,fun hc314=>?_⟩) ?_
  ·rw [iteT hc314] at hX308
   obtain ⟨c315,cs316,os317,hv318,hR319,hS320⟩:=a15 (a18 hv303 hb11 Peer.RO.len) hx258 zo Peer.RO.len hS302
   obtain ⟨v322,c323,v326,c327,hv324,hv328,rfl,rfl⟩:=hR319
   have hS321:=a2e hS320
   simp only [q6o,z9,f292,zx,qh,jx,zt,zj,n7,n8,n9,qu,zh,B0,reduceIte,a8]
   refine qo (v:=v322) ((a1y (o:=2) hv318 rfl hx258 hS321 (nle rfl)).trans rfl) ?_
   simp only [f291,zj,qh,n7,n8,n9,qn,zh,B0,reduceIte,a8]
   refine qo (v := .int .i64 a9.Prev) rfl ?_
   obtain ⟨l330,hx331,hF332⟩:=qi hX308
   simp only [qlp,Option.map_some,Option.map_none,B0,reduceIte,a8]
   obtain ⟨v333,he334,hv335⟩:=SlF.trunc (f1:=qt) hv324 hx331 (fun _=>rfl) (s9 hS321)
   refine qo he334 ?_
   simp only [jx,qh,zt,zj,n7,n8,n9,qu,xx,B0,reduceIte,a8]
   refine qdi (n:=5) (us:=[v333]) (cs:=[.int .i64 x257.Term,.bool x257.Leads,v322,.int .i64 x257.Commit,v326]) (o:=2) (cs':=[.int .i64 x257.Term,
     .bool x257.Leads,v333,.int .i64 x257.Commit,
     v326]) (jj (a0t hv335)) hv318 rfl hx258 hS321 hW rfl (qk (a0t hv335) zl) (nle rfl) rfl (fun c339 h337 hv340 hS338=>?_)
   simp only [za,qr,B0,reduceIte,a8]
   obtain ⟨c341,hv342,hS343⟩:=a20 (e':=(Peer.mk x257.Term x257.Leads l330 x257.Commit x257.Match)) (c:=c339) (os:=c323++(c327)) hv340 rfl hx258 zo (Peer.RI
     (x:=(Peer.mk x257.Term x257.Leads l330 x257.Commit x257.Match)) hv335 hv328) (a07 (c1:=c323) (c2:=c327) (o8 (o8 (o8 hS338))))
   have hx344:=jl (x':=(Peer.mk x257.Term x257.Leads l330 x257.Commit x257.Match)) hx258
   have hv345:=a04 hv342
   have e346:=qg hF332
   subst e346
   exact hN311 _ _ ⟨c341,f290,f291,f292,f293,f294,f295,f296,f297,hv345,(p9 (p9 (s9 (p9 hS343))))⟩
  ·rw [iteF hc314] at hX308
   simp only [qw,qr,B0,reduceIte,a8]
   have e347:=qg hX308
   subst e347
   exact hN311 _ _ ⟨c300,f290,f291,f292,f293,f294,f295,f296,f297,hv303,(p9 (p9 (s9 (p9 hS302))))⟩
  rintro fr348 h349 ⟨c305,f351,f352,f353,f354,f355,f356,f357,f358,hv306,hS350⟩
  unfold u4 at hk309
  simp only [qtj,qd,z9,f352,zj,qh,n7,n8,n9,qn,zh,B0,reduceIte,a8]
  refine qo (v := .int .i64 a9.Prev) rfl ?_
  obtain ⟨x359,hx360,hF361⟩:=qi hk309
  obtain ⟨c362,cs363,os364,hv365,hR366,hS367⟩:=a15 (a18 hv306 hb11 Peer.RO.len) hx360 zo Peer.RO.len (o8 hS350)
  obtain ⟨v369,c370,v373,c374,hv371,hv375,rfl,rfl⟩:=hR366
  have hS368:=a2e hS367
  simp only [f353,zx,qh,jx,zt,zj,n7,n8,n9,qu,zh,B0,reduceIte,a8]
  refine qo (v:=v369) ((a1y (o:=2) hv365 rfl hx360 hS368 (nle rfl)).trans rfl) ?_
  simp only [wo,qh,a1o hv371,kd,yh,zx,B0,reduceIte,a8]
  refine qaj 7 (fun fr' h'=>Sep h' lo ([Blk1 pb0 [d4,
    d5] 29]++(g8++(c362++(d7++(c370++(c374++(S0)))))))∧fr' 161 = .bool ((decide (a9.Prev=(o6 x359.Log:Int)))&&(decide
    ((o6 x359.Log:Int)<30)))∧fr' 0 = .ptr pb0 0∧fr' 3 = .ref [.bool a9.Reply,.int .i64 a9.From,.int .i64 a9.To,.int .i64 a9.Term,.int .i64 a9.Prev,
    .int .i64 a9.PTerm,f0,.int .i64 a9.Commit,
    .int .i64 a9.Match] 0∧fr' 4 = .ptr b10 (a9.To.toNat*5)∧fr' 5 = .int .i64 s215∧fr' 7 = .ref [.int .i64 x244.Term,
    .int .i64 x244.Value] 0∧fr' 108=f0∧fr' 109 = .int .i64 (o6 a9.Entry:Int)∧fr' 110 = .int .i64 (i219:Int)) rfl (fun Q377 hN378=>?_) ?_
  ·simp only [r8,t8]
   simp only [qy (g:=154),B0,reduceIte,a8]
   refine ye (t:=(decide (a9.Prev=(o6 x359.Log:Int)))) (fun hg379=>?_) (fun hg379=>?_)
   ·simp only [hg379,qy (g:=154),z5,f353,zx,qh,jx,zt,zj,n7,n8,n9,qu,zh,B0,
     reduceIte,a8]
    refine qo (v:=v369) ((a1y (o:=2) hv365 rfl hx360 hS368 (nle rfl)).trans rfl) ?_
    simp only [hg379,qy (g:=154),z5,wo,qh,a1o hv371,kd,yg,kf,z1,za,qr,B0,reduceIte,
      a8]
    exact hN378 _ _ ⟨(v3 (v3 (p9 (v3 (o8 (o8 hS368)))))),by rw [qew hg379]; simp only [B0,reduceIte,a8],f351,f352,f353,f354,f355,
      f356,f357,f358⟩
   ·simp only [hg379,qy (g:=154),qa5,kf,qh,zz,za,qr,B0,reduceIte,a8]
    exact hN378 _ _ ⟨(v3 (v3 (p9 (v3 (o8 (o8 hS368)))))),by rw [qeu hg379]; simp only [B0,reduceIte,a8],f351,f352,f353,f354,f355,
      f356,f357,f358⟩
  rintro fr380 h390 ⟨hS391,f381,f382,f383,f384,f385,f386,f387,f388,f389⟩
  simp only [s5,t6]
  simp only [za,qwu,f381,qv,B0,reduceIte,a8]
  obtain ⟨c392,hv393,hS394⟩:=a1a (c:=c362) (os:=c370++(c374)) hv365 rfl hx360 zo (Peer.RI (x:=x359) hv371 hv375) (a07 (c1:=c370) (c2:=c374) (a0i
    (v3 (v3 hS391))))
  have hv395:=a04 hv393
  obtain ⟨s396,hX400,hk401⟩:=qi hF361
  refine xh (t:=((decide (a9.Prev=(o6 x359.Log:Int)))&&(decide ((o6 x359.Log:Int)<30)))) (fun fr' h'=>∃ c397,
    fr' 0 = .ptr pb0 0∧fr' 3 = .ref [.bool a9.Reply,.int .i64 a9.From,.int .i64 a9.To,.int .i64 a9.Term,.int .i64 a9.Prev,.int .i64 a9.PTerm,f0,
    .int .i64 a9.Commit,.int .i64 a9.Match] 0∧fr' 4 = .ptr b10 (a9.To.toNat*5)∧fr' 5 = .int .i64 s215∧fr' 108=f0∧fr' 109 = .int .i64
    (o6 a9.Entry:Int)∧fr' 110 = .int .i64 (i219:Int)∧SlN Peer.R 5 43 d4 s396 c397∧Sep h' lo ([Blk1 pb0 [d4,
    d5] 29]++(g8++(c397++(d7++(S0)))))) (fun Q402 hN403 hR404 hE405=>⟨fun hc406=>?_,fun hc406=>?_⟩) ?_
  ·rw [iteT hc406] at hX400
   obtain ⟨c407,cs408,os409,hv410,hR411,hS412⟩:=a15 (a18 hv395 hb11 Peer.RO.len) hx360 zo Peer.RO.len hS394
   obtain ⟨v414,c415,v418,c419,hv416,hv420,rfl,rfl⟩:=hR411
   have hS413:=a2e hS412
   simp only [qts,z9,f384,qld,qh,zx,jx,zt,zj,n7,n8,n9,qu,zh,B0,reduceIte,a8]
   refine qo (v:=v414) ((a1y (o:=2) hv410 rfl hx360 hS413 (nle rfl)).trans rfl) ?_
   simp only [f386,zh,B0,reduceIte,a8]
   refine qo (v := .agg [.int .i64 x244.Term,.int .i64 x244.Value]) rfl ?_
   simp only [qbc,evp,B0,reduceIte,a8]
   refine qge (n:=2) (f:=qt) [x244] hS413 rfl rfl (fun v422 c423 h424 hv425 hS426=>?_)
   simp only [qfz,B0,reduceIte,a8]
   obtain ⟨l428,hx429,hF430⟩:=qi hX400
   refine qir (f:=qt) hv416 (o8 hS426) hW (fun _=>rfl) (fun _=>rfl) (SlF.first hv425 hS426 (fun _=>rfl)) hx429 (fun v431 c432 h433 hv434 hS435=>?_)
   simp only [jx,qh,zt,zj,n7,n8,n9,qu,xx,B0,reduceIte,a8]
   refine qdi (n:=5) (us:=[v431]) (cs:=[.int .i64 x359.Term,.bool x359.Leads,v414,.int .i64 x359.Commit,v418]) (o:=2) (cs':=[.int .i64 x359.Term,
     .bool x359.Leads,v431,.int .i64 x359.Commit,
     v418]) (jj (a0t hv434)) hv410 rfl hx360 (o8 hS435) hW rfl (qk (a0t hv434) zl) (nle rfl) rfl (fun c439 h437 hv440 hS438=>?_)
   simp only [za,qr,B0,reduceIte,a8]
   obtain ⟨c441,hv442,hS443⟩:=a20 (e':=(Peer.mk x359.Term x359.Leads l428 x359.Commit x359.Match)) (c:=c439) (os:=c432++(c419)) hv440 rfl hx360 zo (Peer.RI
     (x:=(Peer.mk x359.Term x359.Leads l428 x359.Commit x359.Match)) hv434 hv420) (a07 (c1:=c432) (c2:=c419) (o8 (o8 (p9 hS438))))
   have hx444:=jl (x':=(Peer.mk x359.Term x359.Leads l428 x359.Commit x359.Match)) hx360
   have hv445:=a04 hv442
   have e446:=qg hF430
   subst e446
   exact hN403 _ _ ⟨c441,f382,f383,f384,f385,f387,f388,f389,hv445,(p9 (p9 (s9 (p9 (a0g (s9 hS443))))))⟩
  ·rw [iteF hc406] at hX400
   simp only [qw,qr,B0,reduceIte,a8]
   have e447:=qg hX400
   subst e447
   exact hN403 _ _ ⟨c392,f382,f383,f384,f385,f387,f388,f389,hv395,(p9 (p9 (s9 (p9 hS394))))⟩
  rintro fr448 h449 ⟨c397,f451,f452,f453,f454,f455,f456,f457,hv398,hS450⟩
  unfold qbu at hk401
  simp only [qte,qd,z9,f452,zj,qh,n7,n8,n9,qn,zh,B0,reduceIte,a8]
  refine qo (v := .int .i64 a9.Prev) rfl ?_
  obtain ⟨x458,hx459,hF460⟩:=qi hk401
  obtain ⟨c461,cs462,os463,hv464,hR465,hS466⟩:=a15 (a18 hv398 hb11 Peer.RO.len) hx459 zo Peer.RO.len (o8 hS450)
  obtain ⟨v468,c469,v472,c473,hv470,hv474,rfl,rfl⟩:=hR465
  have hS467:=a2e hS466
  simp only [f453,zx,qh,jx,zt,zj,n7,n8,n9,qu,zh,B0,reduceIte,a8]
  refine qo (v:=v468) ((a1y (o:=2) hv464 rfl hx459 hS467 (nle rfl)).trans rfl) ?_
  simp only [wo,qh,a1o hv470,kd,yg,za,qsc,qv,B0,reduceIte,a8]
  refine qs (t:=(decide (a9.Prev<(o6 x458.Log:Int)))) (fun hc476=>?_) (fun hc476=>?_)
  ·rw [iteT hc476] at hF460
   simp only [qc,f454,qe,qq,qb,j8,qa,qr,B0,reduceIte,a8]
   obtain ⟨c477,hv478,hS479⟩:=a1a (c:=c461) (os:=c469++(c473)) hv464 rfl hx459 zo (Peer.RI (x:=x458) hv470 hv474) (a07 (c1:=c469) (c2:=c473)
     (o8 (o8 (o8 hS467))))
   have hv480:=a04 hv478
   have e481:=qg hF460
   exact hN228 _ _ _ e481.symm ⟨c477,f451,f452,f453,rfl,f455,hv480,(p9 (p9 (s9 (p9 hS479))))⟩ (f457) (f456)
  rw [iteF hc476] at hF460
  simp only [qw,qr,B0,reduceIte,a8]
  obtain ⟨c482,hv483,hS484⟩:=a1a (c:=c461) (os:=c469++(c473)) hv464 rfl hx459 zo (Peer.RI (x:=x458) hv470 hv474) (a07 (c1:=c469) (c2:=c473) (o8
    (o8 (o8 hS467))))
  have hv485:=a04 hv483
  have e486:=qg hF460
  exact hN228 _ _ _ e486.symm ⟨c482,f451,f452,f453,f454,f455,hv485,(p9 (p9 (s9 (p9 hS484))))⟩ (f457) (f456)
 rintro ⟨s490,s491⟩ fr494 h495 rfl ⟨c492,f497,f498,f499,f500,f501,hv493,hS496⟩
 dsimp only [jnO] at hk224
 dsimp only at *
 unfold qbk at hk224
 obtain ⟨x502,hx503,hF504⟩:=qi hk224
 obtain ⟨c505,cs506,os507,hv508,hR509,hS510⟩:=a15 (a18 hv493 hb11 Peer.RO.len) hx503 zo Peer.RO.len (o8 hS496)
 obtain ⟨v512,c513,v516,c517,hv514,hv518,rfl,rfl⟩:=hR509
 have hS511:=a2e hS510
 simp only [qvh,qd,z9,f499,zx,qh,jx,zt,zj,n7,n8,n9,qu,zh,B0,reduceIte,a8]
 refine qo (v := .int .i64 x502.Commit) ((a1y (o:=3) hv508 rfl hx503 hS511 (nle rfl)).trans rfl) ?_
 simp only [f498,zj,qh,n7,n8,n9,qn,zh,B0,reduceIte,a8]
 refine qo (v := .int .i64 a9.Commit) rfl ?_
 simp only [f500,zx,qh,qlr,qnz,qqo,f499,jx,zt,zj,n7,n8,n9,qu,zh,B0,reduceIte,a8]
 refine qo (v:=v512) ((a1y (o:=2) hv508 rfl hx503 hS511 (nle rfl)).trans rfl) ?_
 simp only [wo,qh,a1o hv514,qlr,qnz,jx,zt,zj,n7,n8,n9,qu,xx,B0,reduceIte,a8]
 refine qdi (n:=5) (us:=[.int .i64 (mnI (mxI x502.Commit (mnI a9.Commit s490)) (o6 x502.Log:Int))]) (cs:=[.int .i64 x502.Term,.bool x502.Leads,v512,
   .int .i64 x502.Commit,v516]) (o:=3) (cs':=[.int .i64 x502.Term,.bool x502.Leads,v512,
   .int .i64 (mnI (mxI x502.Commit (mnI a9.Commit s490)) (o6 x502.Log:Int)),
   v516]) rfl hv508 rfl hx503 hS511 hW rfl rfl (nle rfl) rfl (fun c522 h520 hv523 hS521=>?_)
 simp only [za,qt0,qd,qc,f499,qe,wt,qb,zt,ql,n7,n8,n9,qu,qj,B0,reduceIte,
   a8]
 refine qf (v:=v516) ((a1y (o:=4) hv523 rfl hx503 hS521 (nle rfl)).trans rfl) ?_
 simp only [zr,qb,a1o hv518,qe,qa,B0,reduceIte,a8]
 obtain ⟨c524,hv525,hS526⟩:=a20 (e':=(Peer.mk x502.Term x502.Leads x502.Log (mnI (mxI x502.Commit (mnI a9.Commit s490)) (o6 x502.Log:Int)) x502.Match))
   (c:=c522) (os:=c513++(c517)) hv523 rfl hx503 zo (Peer.RI (x:=(Peer.mk x502.Term x502.Leads x502.Log (mnI (mxI x502.Commit (mnI a9.Commit s490))
   (o6 x502.Log:Int)) x502.Match)) hv514 hv518) (a07 (c1:=c513) (c2:=c517) (o8 (o8 (o8 hS521))))
 have hx527:=jl (x':=(Peer.mk x502.Term x502.Leads x502.Log (mnI (mxI x502.Commit (mnI a9.Commit s490)) (o6 x502.Log:Int)) x502.Match)) hx503
 have hv528:=a04 hv525
 obtain ⟨oc537,hX539,hk540⟩:=jz hF504
 simp only [qun]
 refine qdf (σ:=(List Peer)) (fun i535 s593=>qbt a9 i535 s593) (fun s fr' h'=>∃ c533,fr' 0 = .ptr pb0 0∧fr' 3 = .ref [.bool a9.Reply,
   .int .i64 a9.From,.int .i64 a9.To,.int .i64 a9.Term,.int .i64 a9.Prev,.int .i64 a9.PTerm,f0,.int .i64 a9.Commit,
   .int .i64 a9.Match] 0∧fr' 4 = .ptr b10 (a9.To.toNat*5)∧fr' 5 = .int .i64 s490∧SlN Peer.R 5 43 d4 s c533∧Sep h' lo ([Blk1 pb0 [d4,
   d5] 29]++(g8++(c533++(d7++(S0)))))) hX539 ⟨c524,f497,f498,f499,f500,hv528,(p9 (p9 (s9 (p9 hS526))))⟩ (by simp only [B0,reduceIte,
   a8]) (by simp only [B0,reduceIte,a8]) (fun _ _ _ h=>h) rfl rfl (fun _ _ _ _ h=>h) (fun _ _ _ _ h=>h) (fun _ _ _ _ h=>h) (by decide) ?_ ?_
 ·rintro i535 s532 fr549 h550 hx556 ⟨c533,f552,f553,f554,f555,hv534,hS551⟩ f557 f558 oc538 hF541 hr542 Q543 hN544 hB548 hK545 hR546 hE547
  unfold qbt at hF541
  obtain ⟨x559,hx560,hF561⟩:=qi hF541
  obtain ⟨c562,cs563,os564,hv565,hR566,hS567⟩:=a15 (a18 hv534 hb11 Peer.RO.len) hx560 zo Peer.RO.len (o8 hS551)
  obtain ⟨v569,c570,v573,c574,hv571,hv575,rfl,rfl⟩:=hR566
  have hS568:=a2e hS567
  simp only [qvk,qd,qc,f557,qe,qa,qze,z9,f554,zx,qh,jx,zt,zj,n7,n8,n9,
    qu,zh,B0,reduceIte,a8]
  refine qo (v:=v573) ((a1y (o:=4) hv565 rfl hx560 hS568 (nle rfl)).trans rfl) ?_
  simp only [zx,qh,f554,jx,zt,zj,n7,n8,n9,qu,zh,B0,reduceIte,a8]
  refine qo (v:=v573) ((a1y (o:=4) hv565 rfl hx560 hS568 (nle rfl)).trans rfl) ?_
  obtain ⟨x577,hx578,hF579⟩:=qi hF561
  simp only [zx,qh,kz,B0,reduceIte,a8]
  obtain ⟨b580,hb581⟩:=a1w hv575 (jq hx578)
  refine qo (a2v hv575 hb581 hx578) ?_
  simp only [zh,B0,reduceIte,a8]
  refine qo (v := .int .i64 x577) ((SlF.ld (o:=0) hv575 (o8 hS568) hb581 hx578 (fun _=>rfl) (nle rfl)).trans rfl) ?_
  simp only [f554,zx,qh,jx,zt,zj,n7,n8,n9,qu,zh,B0,reduceIte,a8]
  refine qo (v:=v569) ((a1y (o:=2) hv565 rfl hx560 hS568 (nle rfl)).trans rfl) ?_
  simp only [wo,qh,a1o hv571,qlr,qnz,kz,B0,reduceIte,a8]
  refine qo (a2v hv575 hb581 hx578) ?_
  simp only [xx,B0,reduceIte,a8]
  refine qeh (f:=cI) (x':=(mnI x577 (o6 x559.Log:Int))) (o:=0) hv575 (o8 hS568) hW hb581 hx578 (fun _=>rfl) rfl rfl (nle rfl) rfl
    (fun c584 h582 hv585 hS583=>?_)
  have hx586:=jl (x':=(mnI x577 (o6 x559.Log:Int))) hx578
  simp only [za,qr,B0,reduceIte,a8]
  obtain ⟨c587,hv588,hS589⟩:=a20 (e':=(Peer.mk x559.Term x559.Leads x559.Log x559.Commit (a0u x559.Match (i535:Int).toNat (mnI x577
    (o6 x559.Log:Int))))) (c:=c562) (os:=c570++(c584)) hv565 rfl hx560 zo (Peer.RI (x:=(Peer.mk x559.Term x559.Leads x559.Log x559.Commit
    (a0u x559.Match (i535:Int).toNat (mnI x577 (o6 x559.Log:Int))))) hv571 hv585) (a07 (c1:=c570) (c2:=c584) (o8 (o8 hS583)))
  have hx590:=jl (x':=(Peer.mk x559.Term x559.Leads x559.Log x559.Commit (a0u x559.Match (i535:Int).toNat (mnI x577 (o6 x559.Log:Int))))) hx560
  have hv591:=a04 hv588
  have e592:=qg hF579
  exact hN544 _ _ _ e592.symm ⟨c587,f552,f553,f554,f555,hv591,(p9 (p9 (s9 (p9 hS589))))⟩ (f557) (f558)
 rintro s594 fr597 h598 rfl ⟨c595,f600,f601,f602,f603,hv596,hS599⟩
 dsimp only [jnO] at hk540
 unfold qds at hk540
 simp only [qyv,z9,f600,qld,qh,zx,jx,zt,zj,n7,n8,n9,qu,zh,B0,reduceIte,a8]
 refine qo (v:=d5) ((jb (a0d _ _ _ hS599)).trans rfl) ?_
 simp only [f601,zj,qh,n7,n8,n9,qn,zh,B0,reduceIte,a8]
 refine qo (v := .int .i64 a9.To) rfl ?_
 simp only [f601,zj,qh,n7,n8,n9,qn,zh,B0,reduceIte,a8]
 refine qo (v := .int .i64 a9.From) rfl ?_
 obtain ⟨x604,hx605,hF606⟩:=qi hk540
 obtain ⟨c607,cs608,os609,hv610,hR611,hS612⟩:=a15 (a18 hv596 hb11 Peer.RO.len) hx605 zo Peer.RO.len (o8 hS599)
 obtain ⟨v614,c615,v618,c619,hv616,hv620,rfl,rfl⟩:=hR611
 have hS613:=a2e hS612
 simp only [f602,zx,qh,jx,zt,zj,n7,n8,n9,qu,zh,B0,reduceIte,a8]
 refine qo (v := .int .i64 x604.Term) ((a1y (o:=0) hv610 rfl hx605 hS613 (nle rfl)).trans rfl) ?_
 simp only [f603,zx,qh,qfc,evp,B0,reduceIte,a8]
 refine qo (v := .agg [.bool true,.int .i64 a9.To,.int .i64 a9.From,.int .i64 x604.Term,.int .i64 0,.int .i64 0,.nil,.int .i64 0,.int .i64 s490]) rfl ?_
 simp only [qbc,evp,B0,reduceIte,a8]
 refine qd5 (R:=Mail.R) (n:=9) (cs:=[.bool true,.int .i64 a9.To,.int .i64 a9.From,.int .i64 x604.Term,.int .i64 0,.int .i64 0,.nil,.int .i64 0,
   .int .i64 s490]) (os:=[]) (Sep.bi1 (c1:=[]) (S:=(c607++(c615++(c619++([Blk1 pb0 [d4,
   d5] 29]++(g8++(d7++(S0)))))))) (hS613:Sep _ lo (c607++(c615++(c619++([Blk1 pb0 [d4,
   d5] 29]++(g8++(d7++(S0))))))))) rfl (Mail.RI (x:=(Mail.mk true a9.To a9.From x604.Term 0 0 [] 0 s490)) SlF.nil) rfl (fun v622 c623 h624 hv625 hS626=>?_)
 simp only [qfz,B0,reduceIte,a8]
 obtain ⟨l628,hx629,hF630⟩:=qi hF606
 refine qgp (R:=Mail.R) (c:=d7) e8 hv625 (Sep.m6 hS626) hW Mail.RO.len Mail.RO.one hx629 (fun v631 c632 h633 hv634 hS635=>?_)
 simp only [jx,qh,zt,zj,n7,n8,n9,qu,xx,B0,reduceIte,a8]
 refine u9 (us:=[v631]) (jj (a0j hv634)) (cs':=[d4,v631]) (a0i hS635) hW rfl (qk (a0j hv634) zl) (nle rfl) rfl (fun h637 hS638=>?_)
 simp only [za,qr,B0,reduceIte,a8]
 obtain ⟨c639,hv640,hS641⟩:=a1a (c:=c607) (os:=c615++(c619)) hv610 rfl hx605 zo (Peer.RI (x:=x604) hv616 hv620) (a07 (c1:=c615) (c2:=c619) (a0i
   (a0i (a0i hS638))))
 have hv642:=a04 hv640
 have he:=qg hF630
 subst he
 simp only [qzy,B0,reduceIte,a8]
 exact ⟨c639,v631,c632,g8,by first | trivial | rfl,hv642,hv634,i4,(p9 (o8 (p9 (p9 hS641))))⟩
end Go.Proofs.Ytanblnjomhgphaa.X
namespace Go.Proofs.Ytanblnjomhgphaa.X
open Go
theorem qkq {W:Nat→Bool}{h:Heap} (hW:∀ b,
  (geL h.length) b→W b=true) (d8:Raft) (a9:RaftStep) (r:Raft × Bool) (hF:kq d8 a9=some r) : Ret E W 46 [.agg [lst ze d8.Peers,
  lst zc d8.Mail],.agg [.int .i64 a9.Kind,.int .i64 a9.K,.int .i64 a9.To,.int .i64 a9.N]] h (fun v h'=>∃ i8 g9 i2 i0,v = .tup [.agg [i8,
  i2],.bool r.2]∧SlN Peer.R 5 43 i8 r.1.Peers g9∧SlN Mail.R 9 86 i2 r.1.Mail i0∧Sep h' (geL h.length) (g9++(i0++([])))):=by
 refine Ret.of (fn:=x46) rfl (Run.of ?_)
 unfold kq at hF
 have zf0:zf [.agg [lst ze d8.Peers,lst zc d8.Mail],.agg [.int .i64 a9.Kind,.int .i64 a9.K,.int .i64 a9.To,
   .int .i64 a9.N]] 0 = .agg [lst ze d8.Peers,lst zc d8.Mail]:=rfl
 have zf1:zf [.agg [lst ze d8.Peers,lst zc d8.Mail],.agg [.int .i64 a9.Kind,.int .i64 a9.K,.int .i64 a9.To,
   .int .i64 a9.N]] 1 = .agg [.int .i64 a9.Kind,.int .i64 a9.K,.int .i64 a9.To,.int .i64 a9.N]:=rfl
 generalize zf [.agg [lst ze d8.Peers,lst zc d8.Mail],.agg [.int .i64 a9.Kind,.int .i64 a9.K,.int .i64 a9.To,.int .i64 a9.N]]=fr0 at zf0 zf1 ⊢
 have hS:Sep h (geL h.length) []:=Sep.nil h
 simp only [x46,qd,qc,kt,zf0,B0,reduceIte,a8]
 refine j0 (cs:=[lst ze d8.Peers,lst zc d8.Mail]) hS rfl rfl rfl (fun b1 h2 hS3=>?_)
 simp only [kt,zf1,B0,reduceIte,a8]
 refine j0 (cs:=[.int .i64 a9.Kind,.int .i64 a9.K,.int .i64 a9.To,.int .i64 a9.N]) hS3 rfl rfl rfl (fun b5 h6 hS7=>?_)
 simp only [jm,B0,reduceIte,a8]
 refine z3 hS7 (fun b9 h10 hS11=>?_)
 simp only [qe,qa,B0,reduceIte,a8]
 refine z8 (o8 hS11) hW (by simp only [B0,reduceIte,a8]) (fun h13 hS14=>?_)
 refine z8 (s9 hS14) hW (by simp only [B0,reduceIte,a8]) (fun h15 hS16=>?_)
 simp only [z7,qsa,qd,qc,qj,B0,reduceIte,a8]
 refine qf (v := .agg [lst ze d8.Peers,lst zc d8.Mail]) rfl ?_
 obtain ⟨v17,hx18,hF19⟩:=qi hF
 simp only [zp,B0,reduceIte,a8]
 refine qdz rfl hS16 (qp (yf (qp jo (qp jo zm))) zm) (qla (fun b hb=>decide_eq_true hb) d8 v17 hx18) ?_
 rintro _ h28 ⟨v20,c21,v24,c25,rfl,hv22,hv26,hS29⟩
 refine ⟨_,ql0 (qk (SlN.free1 hv22) (qk (SlN.free1 hv26) zl)),hS29,(yz (SlN.pf hv22 Peer.RO) (yz (SlN.pf hv26 Mail.RO) qb4)),fun h30 hS31=>?_⟩
 have hS32:Sep h30 (geL h.length) (c21++(c25++([Blk1 b9 [.nil,.nil] 29]++([])))):=by simpa only [List.append_assoc,List.nil_append] using hS31
 simp only [jm,B0,reduceIte,a8]
 refine z3 hS32 (fun b33 h34 hS35=>?_)
 simp only [zd,B0,reduceIte,a8]
 refine qz (us:=[v20,v24]) rfl (cs':=[v20,v24]) hS35 hW rfl (qk (a0j hv22) (qk (a0j hv26) zl)) (nle rfl) rfl (fun h37 hS38=>?_)
 simp only [qa,qtb,qd,qc,qe,qv6,ql,qb,n7,n8,n9,qn,qj,B0,reduceIte,a8]
 refine qf (v := .int .i64 a9.Kind) rfl ?_
 simp only [qa,qxr,j5,qw5,qd,qc,qq,qb,yh,qe,qzt,qv,B0,reduceIte,a8]
 refine qs (t:=(decide (a9.Kind=1))) (fun hc39=>?_) (fun hc39=>?_)
 ·rw [iteT hc39] at hF19
  simp only [q20,qc,ql,qb,n7,n8,n9,qn,qj,B0,reduceIte,a8]
  refine qf (v := .int .i64 a9.To) rfl ?_
  simp only [qq,qb,yh,qe,B0,reduceIte,a8]
  refine ki 8 (fun fr' h'=>Sep h' (geL h.length) ([Blk1 b9 [.nil,.nil] 29]++([Blk1 b33 [v20,
    v24] 29]++(c21++(c25++([])))))∧fr' 26 = .bool ((decide (a9.To=0))&&(jh a9.K 0 (l9 .i64
    ((o6 d8.Peers:Int) - 1))))∧fr' 3 = .ref [.int .i64 a9.Kind,.int .i64 a9.K,.int .i64 a9.To,
    .int .i64 a9.N] 0∧fr' 4 = .ptr b9 0∧fr' 6 = .ptr b33 0) (fun Q40 hN41=>?_) ?_
  ·simp only [r8,t8]
   simp only [qm (g:=18),B0,reduceIte,a8]
   refine zv (t:=(decide (a9.To=0))) (fun hg42=>?_) (fun hg42=>?_)
   ·simp only [hg42,qm (g:=18),jg,ql,qb,n7,n8,n9,qn,qj,B0,reduceIte,a8]
    refine qf (v := .int .i64 a9.K) rfl ?_
    simp only [hg42,qm (g:=18),jg,ql,qb,n7,n8,n9,qn,qj,B0,reduceIte,a8]
    refine qf (v:=lst ze d8.Peers) rfl ?_
    simp only [hg42,qm (g:=18),jg,zr,qb,ja,qq,qer,zp,B0,reduceIte,a8]
    refine kh rfl (qp zg (qp zg (qp zg zm))) (qcb (fun b hb=>decide_eq_true hb) a9.K 0 (l9 .i64
      ((o6 d8.Peers:Int) - 1)) _ rfl) ?_
    simp only [hg42,zk,qb,z1,qa,qr,B0,reduceIte,a8]
    exact hN41 _ _ ⟨(p9 (o8 (o8 (o8 hS38)))),by rw [qew hg42]; simp only [B0,reduceIte,a8],rfl,rfl,rfl⟩
   ·simp only [hg42,qm (g:=18),wd,zk,qb,zz,qa,qr,B0,reduceIte,a8]
    exact hN41 _ _ ⟨(p9 (o8 (o8 (o8 hS38)))),by rw [qeu hg42]; simp only [B0,reduceIte,a8],rfl,rfl,rfl⟩
  rintro fr43 h48 ⟨hS49,f44,f45,f46,f47⟩
  simp only [s5,t6]
  simp only [f44,qe,B0,reduceIte,a8]
  obtain ⟨sv60,hX58,hk59⟩:=qi hF19
  refine ki 6 (fun fr' h'=>∃ c52 c55,fr' 4 = .ptr b9 0∧fr' 6 = .ptr b33 0∧fr' 33 = .bool sv60.1∧SlN Peer.R 5 43 v20 sv60.2.1 c52∧SlN Mail.R 9 86 v24 sv60.2.2 c55∧Sep h'
    (geL h.length) ([Blk1 b9 [.nil,.nil] 29]++([Blk1 b33 [v20,v24] 29]++(c52++(c55++([])))))) (fun Q61 hN62=>?_) ?_
  ·simp only [r8,t8]
   simp only [qm (g:=27),B0,reduceIte,a8]
   refine zv (t:=((decide (a9.To=0))&&(jh a9.K 0 (l9 .i64 ((o6 d8.Peers:Int) - 1))))) (fun hg65=>?_) (fun hg65=>?_)
   ·rw [iteT hg65] at hX58
    simp only [hg65,qm (g:=27),jg,f45,ql,qb,n7,n8,n9,qn,qj,B0,reduceIte,a8]
    refine qf (v := .int .i64 a9.K) rfl ?_
    simp only [hg65,qm (g:=27),jg,f45,ql,qb,n7,n8,n9,qn,qj,B0,reduceIte,a8]
    refine qf (v := .int .i64 a9.N) rfl ?_
    obtain ⟨v66,hx67,hF68⟩:=qi hX58
    simp only [hg65,qm (g:=27),jg,f47,zp,B0,reduceIte,a8]
    refine qab rfl (qj8 hW b33 v17 v20 c21 hv22 v24 c25 hv26 a9.K a9.N v66 hx67 (p9 (p9 (p9 hS49)))) ?_
    rintro _ h73 ⟨c69,c71,rfl,hv70,hv72,hS74⟩
    simp only [hg65,zk,qb,z1,qa,qr,B0,reduceIte,a8]
    have e75:=qg hF68
    subst e75
    exact hN62 _ _ ⟨c69,c71,f46,f47,rfl,hv70,hv72,(p9 (o8 (o8 (o8 hS74))))⟩
   ·rw [iteF hg65] at hX58
    simp only [hg65,qm (g:=27),wd,zk,qb,zz,qa,qr,B0,reduceIte,a8]
    have e76:=qg hX58
    subst e76
    exact hN62 _ _ ⟨c21,c25,f46,f47,rfl,hv22,hv26,(p9 (p9 (p9 (p9 hS49))))⟩
  rintro fr77 h78 ⟨c52,c55,f80,f81,f82,hv53,hv56,hS79⟩
  obtain ⟨s50,s51,s54⟩:=sv60
  dsimp only at *
  unfold qdu at hk59
  simp only [s5,t6]
  simp only [f82,qe,qa,kg,qg4,qd,qc,yk,qb,yw,qg2,qv,B0,reduceIte,a8]
  refine qs (t:=(!s50)) (fun hc83=>?_) (fun hc83=>?_)
  ·rw [iteT hc83] at hk59
   simp only [qd,qc,run_build,evp,B0,reduceIte,a8]
   refine qf (v := .agg [.nil,.nil]) rfl ?_
   simp only [f80,zd,B0,reduceIte,a8]
   refine qz (us:=[.nil,.nil]) rfl (cs':=[.nil,.nil]) hS79 hW rfl rfl (nle rfl) rfl (fun h84 hS85=>?_)
   simp only [qe,qa,qx,B0,reduceIte,a8]
   have he:=qg hk59
   subst he
   refine jf (qp (jk (bb:=b9) (oo:=0) (v := .agg [.nil,
     .nil]) (f80) ((zq (a0d _ _ _ hS85)).trans rfl)) (qp (kp (v := .bool false) (rfl)) zm)) ?_
   exact ⟨.nil,[],.nil,[],by first | trivial | rfl,a2o,a2o,((a0g ((a0g ((a0g ((a0g (hS85)))))))) : Sep _ (geL h.length) ([]))⟩
  rw [iteF hc83] at hk59
  simp only [qw,qd,qc,f81,qj,B0,reduceIte,a8]
  refine qf (v := .agg [v20,v24]) ((zq (a0d _ _ _ (s9 hS79))).trans rfl) ?_
  simp only [f80,zd,B0,reduceIte,a8]
  refine qz (us:=[v20,v24]) rfl (cs':=[v20,v24]) hS79 hW rfl (qk (a0j hv53) (qk (a0j hv56) zl)) (nle rfl) rfl (fun h86 hS87=>?_)
  simp only [qe,qa,qx,B0,reduceIte,a8]
  have he:=qg hk59
  subst he
  refine jf (qp (jk (bb:=b9) (oo:=0) (v := .agg [v20,v24]) (f80) ((zq (a0d _ _ _ hS87)).trans rfl)) (qp (kp (v := .bool true) (rfl)) zm)) ?_
  exact ⟨v20,c52,v24,c55,by first | trivial | rfl,hv53,hv56,(s9 (s9 (a0g ((a0g (hS87))))))⟩
 rw [iteF hc39] at hF19
 simp only [qxp,qd,qc,qq,qb,yh,qe,qa,q2d,qv,B0,reduceIte,a8]
 obtain ⟨s89,hX91,hk92⟩:=qi hF19
 refine xh (t:=(decide (a9.Kind=2))) (fun fr' h'=>fr' 2 = .ref [lst ze d8.Peers,lst zc d8.Mail] 0∧fr' 3 = .ref [.int .i64 a9.Kind,
   .int .i64 a9.K,.int .i64 a9.To,.int .i64 a9.N] 0∧fr' 4 = .ptr b9 0∧fr' 6 = .ptr b33 0∧fr' 7 = .bool false∧fr' 12 = .int .i64 a9.Kind∧fr' 34 = .bool s89∧Sep h'
   (geL h.length) ([Blk1 b9 [.nil,.nil] 29]++([Blk1 b33 [v20,v24] 29]++(c21++(c25++([])))))) (fun Q93 hN94 hR95 hE96=>⟨fun hc97=>?_,fun hc97=>?_⟩) ?_
 ·rw [iteT hc97] at hX91
  simp only [qw,qr,B0,reduceIte,a8]
  have e98:=qg hX91
  subst e98
  exact hN94 _ _ ⟨rfl,rfl,rfl,rfl,rfl,rfl,rfl,(p9 (o8 (o8 (o8 hS38))))⟩
 ·rw [iteF hc97] at hX91
  simp only [q3p,qd,qc,qq,qb,yh,qe,qa,q38,qv,B0,reduceIte,a8]
  refine qs (t:=(decide (a9.Kind=3))) (fun hc99=>?_) (fun hc99=>?_)
  ·rw [iteT hc99] at hX91
   simp only [qw,qr,B0,reduceIte,a8]
   have e100:=qg hX91
   subst e100
   exact hN94 _ _ ⟨rfl,rfl,rfl,rfl,rfl,rfl,rfl,(p9 (o8 (o8 (o8 hS38))))⟩
  rw [iteF hc99] at hX91
  simp only [qc,qq,qb,yh,qe,qa,qr,B0,reduceIte,a8]
  have e101:=qg hX91
  subst e101
  exact hN94 _ _ ⟨rfl,rfl,rfl,rfl,rfl,rfl,rfl,(p9 (o8 (o8 (o8 hS38))))⟩
 rintro fr102 h103 ⟨f105,f106,f107,f108,f109,f110,f111,hS104⟩
 unfold ut at hk92
 simp only [qux,f111,qv,B0,reduceIte,a8]
 refine qs (t:=s89) (fun hc112=>?_) (fun hc112=>?_)
 ·rw [iteT hc112] at hk92
  simp only [q8e,qc,f106,ql,qb,n7,n8,n9,qn,qj,B0,reduceIte,a8]
  refine qf (v := .int .i64 a9.K) rfl ?_
  simp only [f105,ql,qb,n7,n8,n9,qn,qj,B0,reduceIte,a8]
  refine qf (v:=lst ze d8.Peers) rfl ?_
  simp only [zr,qb,ja,qq,qer,zp,B0,reduceIte,a8]
  refine kh rfl (qp zg (qp zg (qp zg zm))) (qcb (fun b hb=>decide_eq_true hb) a9.K 0 (l9 .i64
    ((o6 d8.Peers:Int) - 1)) _ rfl) ?_
  simp only [qe,B0,reduceIte,a8]
  obtain ⟨v116,hx117,hF118⟩:=qi hk92
  refine ki 8 (fun fr' h'=>Sep h' (geL h.length) ([Blk1 b9 [.nil,.nil] 29]++([Blk1 b33 [v20,
    v24] 29]++(c21++(c25++([])))))∧fr' 53 = .bool v116∧fr' 3 = .ref [.int .i64 a9.Kind,.int .i64 a9.K,.int .i64 a9.To,
    .int .i64 a9.N] 0∧fr' 4 = .ptr b9 0∧fr' 6 = .ptr b33 0) (fun Q113 hN114=>?_) ?_
  ·simp only [r8,t8]
   simp only [qm (g:=45),B0,reduceIte,a8]
   refine zv (t:=(jh a9.K 0 (l9 .i64 ((o6 d8.Peers:Int) - 1)))) (fun hg115=>?_) (fun hg115=>?_)
   ·rw [iteT hg115] at hx117
    simp only [hg115,qm (g:=45),jg,f105,ql,qb,n7,n8,n9,qn,qj,B0,reduceIte,a8]
    refine qf (v:=lst ze d8.Peers) rfl ?_
    simp only [hg115,qm (g:=45),jg,f106,ql,qb,n7,n8,n9,qn,qj,B0,reduceIte,a8]
    refine qf (v := .int .i64 a9.K) rfl ?_
    obtain ⟨x119,hx120,hF121⟩:=qi hx117
    simp only [hg115,qm (g:=45),jg,zu,B0,reduceIte,a8]
    refine qf (v := .ref (ze x119) 0) (j9 hx120 rfl) ?_
    simp only [hg115,qm (g:=45),jg,ql,qb,n7,n8,n9,qn,qj,B0,reduceIte,a8]
    refine qf (v := .bool x119.Leads) rfl ?_
    simp only [hg115,zk,qb,z1,qa,qr,B0,reduceIte,a8]
    have e122:=qg hF121
    exact hN114 _ _ ⟨(p9 (p9 (p9 (p9 hS104)))),by rw [←e122]; simp only [B0,reduceIte,a8],f106,f107,f108⟩
   ·rw [iteF hg115] at hx117
    simp only [hg115,qm (g:=45),wd,zk,qb,zz,qa,qr,B0,reduceIte,a8]
    have e123:=qg hx117
    exact hN114 _ _ ⟨(p9 (p9 (p9 (p9 hS104)))),by rw [←e123]; simp only [B0,reduceIte,a8],f106,f107,f108⟩
  rintro fr124 h129 ⟨hS130,f125,f126,f127,f128⟩
  simp only [s5,t6]
  simp only [f125,qe,B0,reduceIte,a8]
  refine ki 9 (fun fr' h'=>Sep h' (geL h.length) ([Blk1 b9 [.nil,.nil] 29]++([Blk1 b33 [v20,
    v24] 29]++(c21++(c25++([])))))∧fr' 63 = .bool (v116&&((decide (a9.Kind=3))||(decide (a9.To=0))))∧fr' 3 = .ref [.int .i64 a9.Kind,.int .i64 a9.K,
    .int .i64 a9.To,.int .i64 a9.N] 0∧fr' 4 = .ptr b9 0∧fr' 6 = .ptr b33 0) (fun Q131 hN132=>?_) ?_
  ·simp only [r8,t8]
   simp only [qm (g:=54),B0,reduceIte,a8]
   refine zv (t:=v116) (fun hg133=>?_) (fun hg133=>?_)
   ·simp only [hg133,qm (g:=54),jg,f126,ql,qb,n7,n8,n9,qn,qj,B0,reduceIte,a8]
    refine qf (v := .int .i64 a9.Kind) rfl ?_
    simp only [hg133,qm (g:=54),jg,qq,qb,yh,qe,B0,reduceIte,a8]
    refine ki 4 (fun fr' h'=>Sep h' (geL h.length) ([Blk1 b9 [.nil,.nil] 29]++([Blk1 b33 [v20,
      v24] 29]++(c21++(c25++([])))))∧fr' 62 = .bool ((decide (a9.Kind=3))||(decide (a9.To=0)))∧fr' 3 = .ref [.int .i64 a9.Kind,.int .i64 a9.K,
      .int .i64 a9.To,.int .i64 a9.N] 0∧fr' 4 = .ptr b9 0∧fr' 6 = .ptr b33 0∧fr' 54 = .bool v116) (fun Q134 hN135=>?_) ?_
    ·simp only [r8,t8]
     simp only [qm (g:=58),B0,reduceIte,a8]
     refine zv (t:=(decide (a9.Kind=3))) (fun hg136=>?_) (fun hg136=>?_)
     ·simp only [hg136,qm (g:=58),jp,hg133,qm (g:=54),jg,zk,qb,z1,qa,qr,B0,reduceIte,
       a8]
      exact hN135 _ _ ⟨(p9 (p9 (p9 (p9 hS130)))),by rw [orT hg136]; simp only [B0,reduceIte,a8],f126,f127,f128,by simp only [hg133,B0,
        reduceIte,a8]⟩
     ·simp only [hg136,qm (g:=58),zi,f126,ql,qb,n7,n8,n9,qn,qj,B0,reduceIte,a8]
      refine qf (v := .int .i64 a9.To) rfl ?_
      simp only [hg136,qm (g:=58),zi,qq,qb,yh,hg133,qm (g:=54),jg,zk,zz,qa,qr,B0,
        reduceIte,a8]
      exact hN135 _ _ ⟨(p9 (p9 (p9 (p9 hS130)))),by rw [orF hg136]; simp only [B0,reduceIte,a8],f126,f127,f128,by simp only [hg133,B0,
        reduceIte,a8]⟩
    rintro fr137 h143 ⟨hS144,f138,f139,f140,f141,f142⟩
    simp only [s5,t6]
    simp only [f142,hg133,zk,qb,z1,f138,qa,qr,B0,reduceIte,a8]
    exact hN132 _ _ ⟨(p9 (p9 (p9 (p9 hS144)))),by rw [qew hg133]; simp only [B0,reduceIte,a8],f139,f140,f141⟩
   ·simp only [hg133,qm (g:=54),wd,qm (g:=58),qf7,zk,qb,zz,qa,qr,B0,reduceIte,a8]
    exact hN132 _ _ ⟨(p9 (p9 (p9 (p9 hS130)))),by rw [qeu hg133]; simp only [B0,reduceIte,a8],f126,f127,f128⟩
  rintro fr145 h150 ⟨hS151,f146,f147,f148,f149⟩
  simp only [s5,t6]
  simp only [f146,qe,B0,reduceIte,a8]
  obtain ⟨sv164,hX162,hk163⟩:=qi hF118
  refine ki 3 (fun fr' h'=>∃ v155 c156 c159,
    fr' 4 = .ptr b9 0∧fr' 6 = .ptr b33 0∧fr' 67 = .bool sv164.1∧SlN Mail.R 9 86 v155 sv164.2.1.Mail c156∧SlN Peer.R 5 43 v20 sv164.2.2 c159∧Sep h' (geL h.length)
    ([Blk1 b9 [.nil,.nil] 29]++([Blk1 b33 [v20,v155] 29]++(c159++(c156++([])))))) (fun Q165 hN166=>?_) ?_
  ·simp only [r8,t8]
   simp only [qm (g:=64),B0,reduceIte,a8]
   refine zv (t:=(v116&&((decide (a9.Kind=3))||(decide (a9.To=0))))) (fun hg169=>?_) (fun hg169=>?_)
   ·rw [iteT hg169] at hX162
    simp only [hg169,qm (g:=64),jg,f147,qj,B0,reduceIte,a8]
    refine qf (v := .agg [.int .i64 a9.Kind,.int .i64 a9.K,.int .i64 a9.To,.int .i64 a9.N]) rfl ?_
    obtain ⟨v170,hx171,hF172⟩:=qi hX162
    simp only [hg169,qm (g:=64),jg,f149,zp,B0,reduceIte,a8]
    refine qab rfl (ql8 hW b33 v17 v20 c21 hv22 v24 c25 hv26 a9 v170 hx171 (p9 (p9 (p9 hS151)))) ?_
    rintro _ h179 ⟨c173,v175,c176,rfl,hv174,hv177,hS180⟩
    simp only [hg169,zk,qb,z1,qa,qr,B0,reduceIte,a8]
    have e181:=qg hF172
    subst e181
    exact hN166 _ _ ⟨v175,c176,c173,f148,f149,rfl,hv177,hv174,(p9 (o8 (o8 (o8 hS180))))⟩
   ·rw [iteF hg169] at hX162
    simp only [hg169,qm (g:=64),wd,zk,qb,zz,qa,qr,B0,reduceIte,a8]
    have e182:=qg hX162
    subst e182
    exact hN166 _ _ ⟨v24,c25,c21,f148,f149,rfl,hv26,hv22,(p9 (p9 (p9 (p9 hS151))))⟩
  rintro fr183 h184 ⟨v155,c156,c159,f186,f187,f188,hv157,hv160,hS185⟩
  obtain ⟨s152,s153,s158⟩:=sv164
  dsimp only at *
  unfold qbn at hk163
  simp only [s5,t6]
  simp only [f188,qe,qa,kg,qg4,qd,qc,yk,qb,yw,qg2,qv,B0,reduceIte,a8]
  refine qs (t:=(!s152)) (fun hc189=>?_) (fun hc189=>?_)
  ·rw [iteT hc189] at hk163
   simp only [qd,qc,run_build,evp,B0,reduceIte,a8]
   refine qf (v := .agg [.nil,.nil]) rfl ?_
   simp only [f186,zd,B0,reduceIte,a8]
   refine qz (us:=[.nil,.nil]) rfl (cs':=[.nil,.nil]) hS185 hW rfl rfl (nle rfl) rfl (fun h190 hS191=>?_)
   simp only [qe,qa,qx,B0,reduceIte,a8]
   have he:=qg hk163
   subst he
   refine jf (qp (jk (bb:=b9) (oo:=0) (v := .agg [.nil,
     .nil]) (f186) ((zq (a0d _ _ _ hS191)).trans rfl)) (qp (kp (v := .bool false) (rfl)) zm)) ?_
   exact ⟨.nil,[],.nil,[],by first | trivial | rfl,a2o,a2o,((a0g ((a0g ((a0g ((a0g (hS191)))))))) : Sep _ (geL h.length) ([]))⟩
  rw [iteF hc189] at hk163
  simp only [qw,qd,qc,f187,qj,B0,reduceIte,a8]
  refine qf (v := .agg [v20,v155]) ((zq (a0d _ _ _ (s9 hS185))).trans rfl) ?_
  simp only [f186,zd,B0,reduceIte,a8]
  refine qz (us:=[v20,v155]) rfl (cs':=[v20,v155]) hS185 hW rfl (qk (a0j hv160) (qk (a0j hv157) zl)) (nle rfl) rfl (fun h192 hS193=>?_)
  simp only [qe,qa,qx,B0,reduceIte,a8]
  have he:=qg hk163
  subst he
  refine jf (qp (jk (bb:=b9) (oo:=0) (v := .agg [v20,
    v155]) (f186) ((zq (a0d _ _ _ hS193)).trans rfl)) (qp (kp (v := .bool true) (rfl)) zm)) ?_
  exact ⟨v20,c159,v155,c156,by first | trivial | rfl,hv160,hv157,(s9 (s9 (a0g ((a0g (hS193))))))⟩
 rw [iteF hc112] at hk92
 simp only [qu9,qd,qc,f110,qq,qb,yh,qe,qa,q4b,qv,B0,reduceIte,a8]
 obtain ⟨s195,hX197,hk198⟩:=qi hk92
 refine xh (t:=(decide (a9.Kind=4))) (fun fr' h'=>fr' 2 = .ref [lst ze d8.Peers,lst zc d8.Mail] 0∧fr' 3 = .ref [.int .i64 a9.Kind,
   .int .i64 a9.K,.int .i64 a9.To,.int .i64 a9.N] 0∧fr' 4 = .ptr b9 0∧fr' 6 = .ptr b33 0∧fr' 7 = .bool false∧fr' 68 = .bool s195∧Sep h' (geL h.length)
   ([Blk1 b9 [.nil,.nil] 29]++([Blk1 b33 [v20,v24] 29]++(c21++(c25++([])))))) (fun Q199 hN200 hR201 hE202=>⟨fun hc203=>?_,fun hc203=>?_⟩) ?_
 ·rw [iteT hc203] at hX197
  simp only [qw,qr,B0,reduceIte,a8]
  have e204:=qg hX197
  subst e204
  exact hN200 _ _ ⟨f105,f106,f107,f108,f109,rfl,(p9 (p9 (p9 (p9 hS104))))⟩
 ·rw [iteF hc203] at hX197
  simp only [q51,qd,qc,f110,qq,qb,yh,qe,qa,q9g,qv,B0,reduceIte,a8]
  refine qs (t:=(decide (a9.Kind=5))) (fun hc205=>?_) (fun hc205=>?_)
  ·rw [iteT hc205] at hX197
   simp only [qw,qr,B0,reduceIte,a8]
   have e206:=qg hX197
   subst e206
   exact hN200 _ _ ⟨f105,f106,f107,f108,f109,rfl,(p9 (p9 (p9 (p9 hS104))))⟩
  rw [iteF hc205] at hX197
  simp only [qc,f110,qq,qb,yh,qe,qa,qr,B0,reduceIte,a8]
  have e207:=qg hX197
  subst e207
  exact hN200 _ _ ⟨f105,f106,f107,f108,f109,rfl,(p9 (p9 (p9 (p9 hS104))))⟩
 rintro fr208 h209 ⟨f211,f212,f213,f214,f215,f216,hS210⟩
 unfold yp at hk198
 simp only [qzq,f216,qv,B0,reduceIte,a8]
 refine qs (t:=s195) (fun hc217=>?_) (fun hc217=>?_)
 ·rw [iteT hc217] at hk198
  simp only [qvz,qd,qc,f212,ql,qb,n7,n8,n9,qn,qj,B0,reduceIte,a8]
  refine qf (v := .int .i64 a9.To) rfl ?_
  simp only [qq,qb,ya,qe,B0,reduceIte,a8]
  refine ki 4 (fun fr' h'=>Sep h' (geL h.length) ([Blk1 b9 [.nil,.nil] 29]++([Blk1 b33 [v20,
    v24] 29]++(c21++(c25++([])))))∧fr' 79 = .bool ((decide (a9.To≠0))||(decide (a9.N≠0)))∧fr' 2 = .ref [lst ze d8.Peers,
    lst zc d8.Mail] 0∧fr' 3 = .ref [.int .i64 a9.Kind,.int .i64 a9.K,.int .i64 a9.To,
    .int .i64 a9.N] 0∧fr' 4 = .ptr b9 0∧fr' 6 = .ptr b33 0) (fun Q218 hN219=>?_) ?_
  ·simp only [r8,t8]
   simp only [qm (g:=75),B0,reduceIte,a8]
   refine zv (t:=(decide (a9.To≠0))) (fun hg220=>?_) (fun hg220=>?_)
   ·simp only [hg220,qm (g:=75),jp,zk,qb,z1,qa,qr,B0,reduceIte,a8]
    exact hN219 _ _ ⟨(p9 (p9 (p9 (p9 hS210)))),by rw [orT hg220]; simp only [B0,reduceIte,a8],f211,f212,f213,f214⟩
   ·simp only [hg220,qm (g:=75),zi,f212,ql,qb,n7,n8,n9,qn,qj,B0,reduceIte,a8]
    refine qf (v := .int .i64 a9.N) rfl ?_
    simp only [hg220,qm (g:=75),zi,qq,qb,ya,zk,zz,qa,qr,B0,reduceIte,a8]
    exact hN219 _ _ ⟨(p9 (p9 (p9 (p9 hS210)))),by rw [orF hg220]; simp only [B0,reduceIte,a8],f211,f212,f213,f214⟩
  rintro fr221 h227 ⟨hS228,f222,f223,f224,f225,f226⟩
  simp only [s5,t6]
  simp only [f222,qe,B0,reduceIte,a8]
  refine ki 9 (fun fr' h'=>Sep h' (geL h.length) ([Blk1 b9 [.nil,.nil] 29]++([Blk1 b33 [v20,
    v24] 29]++(c21++(c25++([])))))∧fr' 89 = .bool (((decide (a9.To≠0))||(decide (a9.N≠0)))||(!(jh a9.K 0 (l9 .i64
    ((o6 d8.Mail:Int) - 1)))))∧fr' 2 = .ref [lst ze d8.Peers,lst zc d8.Mail] 0∧fr' 3 = .ref [.int .i64 a9.Kind,.int .i64 a9.K,
    .int .i64 a9.To,.int .i64 a9.N] 0∧fr' 4 = .ptr b9 0∧fr' 6 = .ptr b33 0) (fun Q229 hN230=>?_) ?_
  ·simp only [r8,t8]
   simp only [qm (g:=80),B0,reduceIte,a8]
   refine zv (t:=((decide (a9.To≠0))||(decide (a9.N≠0)))) (fun hg231=>?_) (fun hg231=>?_)
   ·simp only [hg231,qm (g:=80),jp,zk,qb,z1,qa,qr,B0,reduceIte,a8]
    exact hN230 _ _ ⟨(p9 (p9 (p9 (p9 hS228)))),by rw [orT hg231]; simp only [B0,reduceIte,a8],f223,f224,f225,f226⟩
   ·simp only [hg231,qm (g:=80),zi,f224,ql,qb,n7,n8,n9,qn,qj,B0,reduceIte,a8]
    refine qf (v := .int .i64 a9.K) rfl ?_
    simp only [hg231,qm (g:=80),zi,f223,ql,qb,n7,n8,n9,qn,qj,B0,reduceIte,a8]
    refine qf (v:=lst zc d8.Mail) rfl ?_
    simp only [hg231,qm (g:=80),zi,zr,qb,ja,qq,qer,zp,B0,reduceIte,a8]
    refine kh rfl (qp zg (qp zg (qp zg zm))) (qcb (fun b hb=>decide_eq_true hb) a9.K 0 (l9 .i64
      ((o6 d8.Mail:Int) - 1)) _ rfl) ?_
    simp only [hg231,qm (g:=80),zi,yk,qb,yw,zk,zz,qa,qr,B0,reduceIte,a8]
    exact hN230 _ _ ⟨(p9 (p9 (p9 (p9 hS228)))),by rw [orF hg231]; simp only [B0,reduceIte,a8],f223,f224,f225,f226⟩
  rintro fr232 h238 ⟨hS239,f233,f234,f235,f236,f237⟩
  simp only [s5,t6]
  simp only [qa,q6h,f233,qv,B0,reduceIte,a8]
  refine qs (t:=(((decide (a9.To≠0))||(decide (a9.N≠0)))||(!(jh a9.K 0 (l9 .i64 ((o6 d8.Mail:Int) - 1)))))) (fun hc240=>?_)
    (fun hc240=>?_)
  ·rw [iteT hc240] at hk198
   simp only [qd,qc,run_build,evp,B0,reduceIte,a8]
   refine qf (v := .agg [.nil,.nil]) rfl ?_
   simp only [f236,zd,B0,reduceIte,a8]
   refine qz (us:=[.nil,.nil]) rfl (cs':=[.nil,.nil]) hS239 hW rfl rfl (nle rfl) rfl (fun h241 hS242=>?_)
   simp only [qe,qa,qx,B0,reduceIte,a8]
   have he:=qg hk198
   subst he
   refine jf (qp (jk (bb:=b9) (oo:=0) (v := .agg [.nil,
     .nil]) (f236) ((zq (a0d _ _ _ hS242)).trans rfl)) (qp (kp (v := .bool false) (rfl)) zm)) ?_
   exact ⟨.nil,[],.nil,[],by first | trivial | rfl,a2o,a2o,((a0g ((a0g ((a0g ((a0g (hS242)))))))) : Sep _ (geL h.length) ([]))⟩
  rw [iteF hc240] at hk198
  simp only [qw,qs1,qd,qc,f237,ql,qb,n7,n8,n9,qu,qj,B0,reduceIte,a8]
  refine qf (v:=v24) ((jb (a0d _ _ _ (s9 hS239))).trans rfl) ?_
  simp only [f235,ql,qb,n7,n8,n9,qn,qj,B0,reduceIte,a8]
  refine qf (v := .int .i64 a9.K) rfl ?_
  obtain ⟨x243,hx244,hF245⟩:=qi hk198
  simp only [zu,B0,reduceIte,a8]
  obtain ⟨b246,hb247⟩:=SlN.isrow hv26 (jq hx244)
  refine qf (SlN.ia hv26 hb247 hx244) ?_
  obtain ⟨c248,cs249,os250,hv251,hR252,hS253⟩:=a15 (a18 hv26 hb247 Mail.RO.len) hx244 zo Mail.RO.len (p9 hS239)
  obtain ⟨v255,c256,hv257,rfl,rfl⟩:=hR252
  have hS254:=Sep.no1 hS253
  simp only [qj,B0,reduceIte,a8]
  refine qf (v := .agg [.bool x243.Reply,.int .i64 x243.From,.int .i64 x243.To,.int .i64 x243.Term,.int .i64 x243.Prev,.int .i64 x243.PTerm,v255,
    .int .i64 x243.Commit,.int .i64 x243.Match]) ((SlG.lds (o:=0) hv251 rfl hx244 hS254 (nle rfl)).trans rfl) ?_
  simp only [jm,B0,reduceIte,a8]
  refine z3 hS254 (fun b259 h260 hS261=>?_)
  simp only [zd,B0,reduceIte,a8]
  refine qz (us:=[.bool x243.Reply,.int .i64 x243.From,.int .i64 x243.To,.int .i64 x243.Term,.int .i64 x243.Prev,.int .i64 x243.PTerm,v255,.int .i64 x243.Commit,
    .int .i64 x243.Match]) rfl (cs':=[.bool x243.Reply,.int .i64 x243.From,.int .i64 x243.To,.int .i64 x243.Term,.int .i64 x243.Prev,.int .i64 x243.PTerm,v255,
    .int .i64 x243.Commit,.int .i64 x243.Match]) hS261 hW rfl (qk rfl (qk rfl (qk rfl (qk rfl (qk rfl (qk rfl (qk (a0t hv257) (qk rfl
    (qk rfl zl))))))))) (nle rfl) rfl (fun h263 hS264=>?_)
  simp only [qa,qvp,qd,qc,qe,qrz,f235,ql,qb,n7,n8,n9,qn,qj,B0,reduceIte,
    a8]
  refine qf (v := .int .i64 a9.Kind) rfl ?_
  simp only [qa,qwa,j5,qy7,qd,qc,qq,qb,yh,qe,qx1,qv,B0,reduceIte,a8]
  refine qs (t:=(decide (a9.Kind=6))) (fun hc265=>?_) (fun hc265=>?_)
  ·rw [iteT hc265] at hF245
   simp only [qzf,qd,qc,f234,ql,qb,n7,n8,n9,qn,qj,B0,reduceIte,a8]
   refine qf (v:=lst zc d8.Mail) rfl ?_
   simp only [zr,qb,ja,qq,yg,qe,qa,quk,qd,qc,kc,evp,B0,reduceIte,a8]
   refine ku (n:=2) (f:=qt) ([] : List Entry) hS264 rfl rfl (fun v266 c267 h268 hv269 hS270=>?_)
   simp only [ql,qb,n7,n8,n9,qu,qj,B0,reduceIte,a8]
   refine qf (v:=v255) ((jb (a0d _ _ _ (s9 hS270))).trans rfl) ?_
   simp only [wc,B0,reduceIte,a8]
   obtain ⟨l272,hx273,hF274⟩:=qi hF245
   refine ws (f:=qt) hv269 hS270 hW (fun _=>rfl) (fun _=>rfl) (SlF.first hv257 (p9 hS270) (fun _=>rfl)) hx273 (fun v275 c276 h277 hv278 hS279=>?_)
   simp only [ql,qb,n7,n8,n9,qu,zd,B0,reduceIte,a8]
   refine qz (us:=[v275]) (jj (a0t hv278)) (cs':=[.bool x243.Reply,.int .i64 x243.From,.int .i64 x243.To,.int .i64 x243.Term,.int .i64 x243.Prev,
     .int .i64 x243.PTerm,v275,.int .i64 x243.Commit,.int .i64 x243.Match]) (s9 hS279) hW rfl (qk (a0t hv278) zl) (nle rfl) rfl (fun h281 hS282=>?_)
   simp only [qa,qw9,qc,f237,ql,qb,n7,n8,n9,qu,qj,B0,reduceIte,a8]
   refine qf (v:=v24) ((jb (a0d _ _ _ (v3 hS282))).trans rfl) ?_
   simp only [qj,B0,reduceIte,a8]
   refine qf (v := .agg [.bool x243.Reply,.int .i64 x243.From,.int .i64 x243.To,.int .i64 x243.Term,.int .i64 x243.Prev,.int .i64 x243.PTerm,v275,
     .int .i64 x243.Commit,.int .i64 x243.Match]) ((zq (a0d _ _ _ hS282)).trans rfl) ?_
   simp only [kc,evp,B0,reduceIte,a8]
   refine uc (R:=Mail.R) (n:=9) (cs:=[.bool x243.Reply,.int .i64 x243.From,.int .i64 x243.To,.int .i64 x243.Term,.int .i64 x243.Prev,.int .i64 x243.PTerm,
     v275,.int .i64 x243.Commit,.int .i64 x243.Match]) (os:=c276) (s9 hS282) (qd1 (us:=[.bool x243.Reply,.int .i64 x243.From,.int .i64 x243.To,
     .int .i64 x243.Term,.int .i64 x243.Prev,.int .i64 x243.PTerm,v275,.int .i64 x243.Commit,.int .i64 x243.Match]) (vs:=[.bool x243.Reply,.int .i64 x243.From,
     .int .i64 x243.To,.int .i64 x243.Term,.int .i64 x243.Prev,.int .i64 x243.PTerm,v275,.int .i64 x243.Commit,
     .int .i64 x243.Match]) rfl rfl (nle rfl) (qk rfl (qk rfl (qk rfl (qk rfl (qk rfl (qk rfl (qk (a0t hv278) (qk rfl
     (qk rfl zl))))))))) rfl qd2) (Mail.RI (x:=(Mail.mk x243.Reply x243.From x243.To x243.Term x243.Prev x243.PTerm l272 x243.Commit x243.Match)) hv278) rfl
     (fun v283 c284 h285 hv286 hS287=>?_)
   obtain ⟨c289,hv290,hS291⟩:=a1a (c:=c248) (os:=c256) hv251 rfl hx244 zo (Mail.RI (x:=x243) hv257) (p9 (p9 hS287))
   have hv292:=a04 hv290
   simp only [wc,B0,reduceIte,a8]
   obtain ⟨l293,hx294,hF295⟩:=qi hF274
   refine qa6 (R:=Mail.R) (c:=c289) hv292 hv286 (s9 (s9 hS291)) hW Mail.RO.len Mail.RO.one hx294 (fun v296 c297 h298 hv299 hS300=>?_)
   simp only [f237,ql,qb,n7,n8,n9,qu,zd,B0,reduceIte,a8]
   refine qz (us:=[v296]) (jj (a0j hv299)) (cs':=[v20,v296]) (p9 hS300) hW rfl (qk (a0j hv299) zl) (nle rfl) rfl (fun h302 hS303=>?_)
   simp only [qa,kg,qg4,qd,qc,qe,yk,qb,yw,qg2,qv,B0,reduceIte,a8]
   refine qs (t:=(!(decide ((o6 d8.Mail:Int)<20)))) (fun hc304=>?_) (fun hc304=>?_)
   ·rw [iteT hc304] at hF295
    simp only [qd,qc,run_build,evp,B0,reduceIte,a8]
    refine qf (v := .agg [.nil,.nil]) rfl ?_
    simp only [f236,zd,B0,reduceIte,a8]
    refine qz (us:=[.nil,.nil]) rfl (cs':=[.nil,.nil]) (p9 hS303) hW rfl rfl (nle rfl) rfl (fun h305 hS306=>?_)
    simp only [qe,qa,qx,B0,reduceIte,a8]
    have he:=qg hF295
    subst he
    refine jf (qp (jk (bb:=b9) (oo:=0) (v := .agg [.nil,
      .nil]) (f236) ((zq (a0d _ _ _ hS306)).trans rfl)) (qp (kp (v := .bool false) (rfl)) zm)) ?_
    exact ⟨.nil,[],.nil,[],by first | trivial | rfl,a2o,a2o,((a0g ((a0g ((a0g ((a0g ((a0g (hS306)))))))))) : Sep _ (geL h.length) ([]))⟩
   rw [iteF hc304] at hF295
   simp only [qw,qd,qc,f237,qj,B0,reduceIte,a8]
   refine qf (v := .agg [v20,v296]) ((zq (a0d _ _ _ hS303)).trans rfl) ?_
   simp only [f236,zd,B0,reduceIte,a8]
   refine qz (us:=[v20,v296]) rfl (cs':=[v20,v296]) (p9 hS303) hW rfl (qk (a0j hv22) (qk (a0j hv299) zl)) (nle rfl) rfl (fun h307 hS308=>?_)
   simp only [qe,qa,qx,B0,reduceIte,a8]
   have he:=qg hF295
   subst he
   refine jf (qp (jk (bb:=b9) (oo:=0) (v := .agg [v20,
     v296]) (f236) ((zq (a0d _ _ _ hS308)).trans rfl)) (qp (kp (v := .bool true) (rfl)) zm)) ?_
   exact ⟨v20,c21,v296,c297,by first | trivial | rfl,hv22,hv299,(s9 (a0g (s9 (a0g ((a0g (hS308)))))))⟩
  rw [iteF hc265] at hF245
  simp only [qto,qd,qc,qq,qb,yh,qe,qa,qwx,qv,B0,reduceIte,a8]
  refine qs (t:=(decide (a9.Kind=4))) (fun hc309=>?_) (fun hc309=>?_)
  ·rw [iteT hc309] at hF245
   simp only [qyi,qd,qc,f237,ql,qb,n7,n8,n9,qu,qj,B0,reduceIte,a8]
   refine qf (v:=v24) ((jb (a0d _ _ _ (a0i hS264))).trans rfl) ?_
   simp only [f235,ql,qb,n7,n8,n9,qn,qj,B0,reduceIte,a8]
   refine qf (v := .int .i64 a9.K) rfl ?_
   simp only [f235,ql,qb,n7,n8,n9,qn,qj,B0,reduceIte,a8]
   refine qf (v := .int .i64 a9.K) rfl ?_
   obtain ⟨c310,hv311,hS312⟩:=a1a (c:=c248) (os:=c256) hv251 rfl hx244 zo (Mail.RI (x:=x243) hv257) (o8 (o8 hS264))
   have hv313:=a04 hv311
   obtain ⟨v314,hx315,hF316⟩:=qi hF245
   simp only [qq,qb,j8,zp,B0,reduceIte,a8]
   refine qab rfl (qiy hW hv251 v314 hx315 (s9 hS264)) ?_
   rintro v317 h321 ⟨_,c318,rfl,hv319,hS322⟩
   simp only [f237,ql,qb,n7,n8,n9,qu,zd,B0,reduceIte,a8]
   refine qz (us:=[v317]) (jj (a0j hv319)) (cs':=[v20,v317]) (a0i hS322) hW rfl (qk (a0j hv319) zl) (nle rfl) rfl (fun h323 hS324=>?_)
   simp only [qa,qc,qj,B0,reduceIte,a8]
   refine qf (v := .agg [.bool x243.Reply,.int .i64 x243.From,.int .i64 x243.To,.int .i64 x243.Term,.int .i64 x243.Prev,.int .i64 x243.PTerm,v255,
     .int .i64 x243.Commit,.int .i64 x243.Match]) ((zq (a0d _ _ _ (o8 hS324))).trans rfl) ?_
   obtain ⟨v325,hx326,hF327⟩:=qi hF316
   simp only [f237,zp,B0,reduceIte,a8]
   refine qab rfl (qk1 hW b33 (Raft.mk v17.Peers v314) v20 c21 hv22 v317 c318 hv319 x243 v255 c256 hv257 v325 hx326 (p9 (v3 (o8 (p9 hS324))))) ?_
   rintro _ h336 ⟨c328,v330,c331,c334,rfl,hv329,hv332,hv335,hS337⟩
   simp only [qa,kg,qg4,qd,qc,qe,yk,qb,yw,qg2,qv,B0,reduceIte,a8]
   refine qs (t:=(!true)) (fun hc338=>?_) (fun hc338=>?_)
   ·rw [iteT hc338] at hF327
    simp only [qd,qc,run_build,evp,B0,reduceIte,a8]
    refine qf (v := .agg [.nil,.nil]) rfl ?_
    simp only [f236,zd,B0,reduceIte,a8]
    refine qz (us:=[.nil,.nil]) rfl (cs':=[.nil,.nil]) (v3 hS337) hW rfl rfl (nle rfl) rfl (fun h339 hS340=>?_)
    simp only [qe,qa,qx,B0,reduceIte,a8]
    have he:=qg hF327
    subst he
    refine jf (qp (jk (bb:=b9) (oo:=0) (v := .agg [.nil,
      .nil]) (f236) ((zq (a0d _ _ _ hS340)).trans rfl)) (qp (kp (v := .bool false) (rfl)) zm)) ?_
    exact ⟨.nil,[],.nil,[],by first | trivial | rfl,a2o,a2o,
      ((a0g ((a0g ((a0g ((a0g ((a0g ((a0g (hS340)))))))))))) : Sep _ (geL h.length) ([]))⟩
   rw [iteF hc338] at hF327
   simp only [qw,qd,qc,f237,qj,B0,reduceIte,a8]
   refine qf (v := .agg [v20,v330]) ((zq (a0d _ _ _ hS337)).trans rfl) ?_
   simp only [f236,zd,B0,reduceIte,a8]
   refine qz (us:=[v20,v330]) rfl (cs':=[v20,v330]) (v3 hS337) hW rfl (qk (a0j hv329) (qk (a0j hv332) zl)) (nle rfl) rfl (fun h341 hS342=>?_)
   simp only [qe,qa,qx,B0,reduceIte,a8]
   have he:=qg hF327
   subst he
   refine jf (qp (jk (bb:=b9) (oo:=0) (v := .agg [v20,
     v330]) (f236) ((zq (a0d _ _ _ hS342)).trans rfl)) (qp (kp (v := .bool true) (rfl)) zm)) ?_
   exact ⟨v20,c328,v330,c331,by first | trivial | rfl,hv329,hv332,(s9 (s9 (a0g (o8 (a0g (o8 (a0g ((a0g (hS342))))))))))⟩
  rw [iteF hc309] at hF245
  simp only [quu,qc,f237,ql,qb,n7,n8,n9,qu,qj,B0,reduceIte,a8]
  refine qf (v:=v24) ((jb (a0d _ _ _ (a0i hS264))).trans rfl) ?_
  simp only [f235,ql,qb,n7,n8,n9,qn,qj,B0,reduceIte,a8]
  refine qf (v := .int .i64 a9.K) rfl ?_
  simp only [f235,ql,qb,n7,n8,n9,qn,qj,B0,reduceIte,a8]
  refine qf (v := .int .i64 a9.K) rfl ?_
  obtain ⟨c343,hv344,hS345⟩:=a1a (c:=c248) (os:=c256) hv251 rfl hx244 zo (Mail.RI (x:=x243) hv257) (o8 (o8 hS264))
  have hv346:=a04 hv344
  obtain ⟨v347,hx348,hF349⟩:=qi hF245
  simp only [qq,qb,j8,zp,B0,reduceIte,a8]
  refine qab rfl (qi5 hW v24 c343 v17.Mail hv346 a9.K (l9 .i64 (a9.K+1)) v347 hx348 hS345) ?_
  rintro v350 h354 ⟨_,c351,rfl,hv352,hS355⟩
  simp only [f237,ql,qb,n7,n8,n9,qu,zd,B0,reduceIte,a8]
  refine qz (us:=[v350]) (jj (a0j hv352)) (cs':=[v20,v350]) (p9 hS355) hW rfl (qk (a0j hv352) zl) (nle rfl) rfl (fun h356 hS357=>?_)
  simp only [qa,kg,qg4,qd,qc,qe,yk,qb,yw,qg2,qv,B0,reduceIte,a8]
  refine qs (t:=(!true)) (fun hc358=>?_) (fun hc358=>?_)
  ·rw [iteT hc358] at hF349
   simp only [qd,qc,run_build,evp,B0,reduceIte,a8]
   refine qf (v := .agg [.nil,.nil]) rfl ?_
   simp only [f236,zd,B0,reduceIte,a8]
   refine qz (us:=[.nil,.nil]) rfl (cs':=[.nil,.nil]) (p9 hS357) hW rfl rfl (nle rfl) rfl (fun h359 hS360=>?_)
   simp only [qe,qa,qx,B0,reduceIte,a8]
   have he:=qg hF349
   subst he
   refine jf (qp (jk (bb:=b9) (oo:=0) (v := .agg [.nil,
     .nil]) (f236) ((zq (a0d _ _ _ hS360)).trans rfl)) (qp (kp (v := .bool false) (rfl)) zm)) ?_
   exact ⟨.nil,[],.nil,[],by first | trivial | rfl,a2o,a2o,((a0g ((a0g ((a0g ((a0g ((a0g (hS360)))))))))) : Sep _ (geL h.length) ([]))⟩
  rw [iteF hc358] at hF349
  simp only [qw,qd,qc,f237,qj,B0,reduceIte,a8]
  refine qf (v := .agg [v20,v350]) ((zq (a0d _ _ _ hS357)).trans rfl) ?_
  simp only [f236,zd,B0,reduceIte,a8]
  refine qz (us:=[v20,v350]) rfl (cs':=[v20,v350]) (p9 hS357) hW rfl (qk (a0j hv22) (qk (a0j hv352) zl)) (nle rfl) rfl (fun h361 hS362=>?_)
  simp only [qe,qa,qx,B0,reduceIte,a8]
  have he:=qg hF349
  subst he
  refine jf (qp (jk (bb:=b9) (oo:=0) (v := .agg [v20,
    v350]) (f236) ((zq (a0d _ _ _ hS362)).trans rfl)) (qp (kp (v := .bool true) (rfl)) zm)) ?_
  exact ⟨v20,c21,v350,c351,by first | trivial | rfl,hv22,hv352,(s9 (a0g (s9 (a0g ((a0g (hS362)))))))⟩
 rw [iteF hc217] at hk198
 simp only [qw,kg,qg4,qd,qc,f215,qe,yk,qb,yw,qa,qg2,qv,B0,reduceIte,a8]
 refine qs (t:=(!false)) (fun hc363=>?_) (fun hc363=>?_)
 ·rw [iteT hc363] at hk198
  simp only [qd,qc,run_build,evp,B0,reduceIte,a8]
  refine qf (v := .agg [.nil,.nil]) rfl ?_
  simp only [f213,zd,B0,reduceIte,a8]
  refine qz (us:=[.nil,.nil]) rfl (cs':=[.nil,.nil]) hS210 hW rfl rfl (nle rfl) rfl (fun h364 hS365=>?_)
  simp only [qe,qa,qx,B0,reduceIte,a8]
  have he:=qg hk198
  subst he
  refine jf (qp (jk (bb:=b9) (oo:=0) (v := .agg [.nil,
    .nil]) (f213) ((zq (a0d _ _ _ hS365)).trans rfl)) (qp (kp (v := .bool false) (rfl)) zm)) ?_
  exact ⟨.nil,[],.nil,[],by first | trivial | rfl,a2o,a2o,((a0g ((a0g ((a0g ((a0g (hS365)))))))) : Sep _ (geL h.length) ([]))⟩
 rw [iteF hc363] at hk198
 simp only [qw,qd,qc,f214,qj,B0,reduceIte,a8]
 refine qf (v := .agg [v20,v24]) ((zq (a0d _ _ _ (s9 hS210))).trans rfl) ?_
 simp only [f213,zd,B0,reduceIte,a8]
 refine qz (us:=[v20,v24]) rfl (cs':=[v20,v24]) hS210 hW rfl (qk (a0j hv22) (qk (a0j hv26) zl)) (nle rfl) rfl (fun h366 hS367=>?_)
 simp only [qe,qa,qx,B0,reduceIte,a8]
 have he:=qg hk198
 subst he
 refine jf (qp (jk (bb:=b9) (oo:=0) (v := .agg [v20,v24]) (f213) ((zq (a0d _ _ _ hS367)).trans rfl)) (qp (kp (v := .bool true) (rfl)) zm)) ?_
 exact ⟨v20,c21,v24,c25,by first | trivial | rfl,hv22,hv26,(s9 (s9 (a0g ((a0g (hS367))))))⟩
end Go.Proofs.Ytanblnjomhgphaa.X
