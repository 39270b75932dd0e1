/- The functions' code comes to what the plain functions say (1). -/
import Derived.Test.YtanblnjomhgphaaXBF
import Derived.Test.YtanblnjomhgphaaXBD
open Go.IntKind renaming wrap→r8
open List renaming append_assoc→t7,drop_succ_cons→s6,drop_zero→t3,length→p9,set→a1b,take_succ_cons→s5,take_zero→t4
open Nat renaming add_zero→o9,reduceAdd→o7,reduceEqDiff→a8,zero_add→o8
open Go.Proofs.Ytanblnjomhgphaa.X.Sep renaming bk→a0g,dc→a0k,m1→t6,m2→s9,m3→t5,m4→a0j,m5→t8,m6→a20,m7→a0m,ni2→a1f,nil→a14
open Go.Proofs.Ytanblnjomhgphaa.X.SlF renaming ia→a27,isrow→a19,nil→a34,one→a01,plen→a1p,snap→a3t
open Go.Proofs.Ytanblnjomhgphaa.X.SlG renaming cls0→a1h,cls→a3e,one→a3i,toN→a1e
open Go.Proofs.Ytanblnjomhgphaa.X.SlN renaming nil→a2u,one→a0n
set_option linter.unusedVariables false
set_option linter.unusedSimpArgs false
set_option maxRecDepth 100000
set_option maxHeartbeats 1000000
namespace Go.Proofs.Ytanblnjomhgphaa.X
open Go
def Peer.R:Rep Peer:=fun x cs os=>∃ (v2:XV) (c2:List Obj) (v4:XV) (c4:List Obj),
  SlF qh 2 65 v2 x.Log c2∧SlF cI 1 3 v4 x.Match c4∧cs=[.int .i64 x.Term,.bool x.Leads,v2,.int .i64 x.Commit,v4]∧c2++(c4)=os
theorem Peer.RI {x:Peer}{v2:XV}{c2:List Obj}(h2:SlF qh 2 65 v2 x.Log c2){v4:XV}{c4:List Obj}
  (h4:SlF cI 1 3 v4 x.Match c4) : Peer.R x [.int .i64 x.Term,.bool x.Leads,v2,.int .i64 x.Commit,v4] (c2++(c4)):=⟨v2,c2,v4,c4,h2,h4,rfl,rfl⟩
theorem Peer.RO:RepOk E.sz Peer.R qs 5 where
 len:=fun {x cs os} H=>by
  obtain ⟨v2,c2,v4,c4,h2,h4,rfl,rfl⟩:=H
  rfl
 flen:=fun _=>rfl
 one:=fun {x cs os} H=>by
  obtain ⟨v2,c2,v4,c4,h2,h4,rfl,rfl⟩:=H
  exact (qp rfl (qp rfl (qp (a01 h2) (qp rfl (qp (a01 h4) zp)))))
 snap:=fun {x cs os h lo S} m H hS=>by
  obtain ⟨v2,c2,v4,c4,h2,h4,rfl,rfl⟩:=H
  have hS2:Sep h lo (c2++(c4++S)):=(by simpa only [t7] using hS)
  exact (qt zb (qt qib (qt (a3t h2 hS2 rfl (fun _=>rfl) (fun _=>rfl)) (qt zb (qt (a3t h4 (t6 hS2) rfl (fun _=>rfl)
    (fun _=>rfl)) zm)))))
 cut:=fun {x cs os h lo n0 keep S} m H hS hge=>by
  obtain ⟨v2,c2,v4,c4,h2,h4,rfl,rfl⟩:=H
  have hS2:Sep h lo (c2++(c4++S)):=(by simpa only [t7] using hS)
  exact (qt rfl (qt rfl (qt (SlF.cut h2 hS2 hge rfl (fun _=>rfl) (fun _=>rfl)) (qt rfl (qt (SlF.cut h4 (t6 hS2) hge rfl (fun _=>rfl)
    (fun _=>rfl)) zm)))))
 free:=fun {x cs os} H=>by
  obtain ⟨v2,c2,v4,c4,h2,h4,rfl,rfl⟩:=H
  exact (qp rfl (qp rfl (qp (SlF.free1 h2) (qp rfl (qp (SlF.free1 h4) zp)))))
 pf:=fun {x cs os} H=>by
  obtain ⟨v2,c2,v4,c4,h2,h4,rfl,rfl⟩:=H
  exact (wu (SlF.pf h2 (fun _=>rfl)) (SlF.pf h4 (fun _=>rfl)))
def Mail.R:Rep Mail:=fun x cs os=>∃ (v6:XV) (c6:List Obj),SlF qh 2 65 v6 x.Entry c6∧cs=[.bool x.Reply,.int .i64 x.From,.int .i64 x.To,.int .i64 x.Term,
  .int .i64 x.Prev,.int .i64 x.PTerm,v6,.int .i64 x.Commit,.int .i64 x.Match]∧c6=os
theorem Mail.RI {x:Mail}{v6:XV}{c6:List Obj}(h6:SlF qh 2 65 v6 x.Entry c6) : Mail.R x [.bool x.Reply,.int .i64 x.From,.int .i64 x.To,.int .i64 x.Term,
  .int .i64 x.Prev,.int .i64 x.PTerm,v6,.int .i64 x.Commit,.int .i64 x.Match] (c6):=⟨v6,c6,h6,rfl,rfl⟩
theorem Mail.RO:RepOk E.sz Mail.R qu 9 where
 len:=fun {x cs os} H=>by
  obtain ⟨v6,c6,h6,rfl,rfl⟩:=H
  rfl
 flen:=fun _=>rfl
 one:=fun {x cs os} H=>by
  obtain ⟨v6,c6,h6,rfl,rfl⟩:=H
  exact (qp rfl (qp rfl (qp rfl (qp rfl (qp rfl (qp rfl (qp (a01 h6) (qp rfl (qp rfl zp)))))))))
 snap:=fun {x cs os h lo S} m H hS=>by
  obtain ⟨v6,c6,h6,rfl,rfl⟩:=H
  have hS2:Sep h lo (c6++S):=(by simpa only [t7] using hS)
  exact (qt qib (qt zb (qt zb (qt zb (qt zb (qt zb (qt (a3t h6 hS2 rfl (fun _=>rfl) (fun _=>rfl))
    (qt zb (qt zb zm)))))))))
 cut:=fun {x cs os h lo n0 keep S} m H hS hge=>by
  obtain ⟨v6,c6,h6,rfl,rfl⟩:=H
  have hS2:Sep h lo (c6++S):=(by simpa only [t7] using hS)
  exact (qt rfl (qt rfl (qt rfl (qt rfl (qt rfl (qt rfl (qt (SlF.cut h6 hS2 hge rfl (fun _=>rfl) (fun _=>rfl)) (qt rfl (qt rfl zm)))))))))
 free:=fun {x cs os} H=>by
  obtain ⟨v6,c6,h6,rfl,rfl⟩:=H
  exact (qp rfl (qp rfl (qp rfl (qp rfl (qp rfl (qp rfl (qp (SlF.free1 h6) (qp rfl (qp rfl zp)))))))))
 pf:=fun {x cs os} H=>by
  obtain ⟨v6,c6,h6,rfl,rfl⟩:=H
  exact (SlF.pf h6 (fun _=>rfl))
theorem qkr {W:Nat→Bool}{h:Heap}{lo:Nat→Prop}{S0:List Obj} (hW:∀ b,
  lo b→W b=true) (pb0:Nat) (l8:L1Cur) (r:Int × L1Cur) (hF:qe3 l8=some r) (hS:Sep h lo ([Blk1 pb0 [lst cU8 l8.code,.int .i64 l8.at_,
  .int .u64 l8.seed] 78]++(S0))) : Ret E W 69 [.ptr pb0 0] h (fun v h'=>v = .int .i64 r.1∧Sep h' lo ([Blk1 pb0 [lst cU8 r.2.code,.int .i64 r.2.at_,
  .int .u64 r.2.seed] 78]++(S0))):=by
 refine Ret.of (fn:=x69) rfl (Run.of ?_)
 unfold qe3 at hF
 have zf0:zk [.ptr pb0 0] 0 = .ptr pb0 0:=rfl
 generalize zk [.ptr pb0 0]=fr0 at zf0 ⊢
 simp only [x69,qf,qe,qg,qa,q2r,q8p,jg,zf0,zz,qi,js,zv,zl,o7,o8,o9,
   qv,zj,B0,reduceIte,a8]
 refine qq (v := .int .i64 l8.at_) ((ja (a0g _ _ _ hS)).trans rfl) ?_
 simp only [zf0,zz,qi,js,zv,zl,o7,o8,o9,qv,zj,B0,reduceIte,a8]
 refine qq (v:=lst cU8 l8.code) ((ja (a0g _ _ _ hS)).trans rfl) ?_
 simp only [wm,qi,z7,j5,qch,za,q57,q8,B0,reduceIte,a8]
 obtain ⟨s1,hX3,hk4⟩:=qk hF
 refine wj (t:=(decide (l8.at_<(p9 l8.code:Int)))) (fun fr' h'=>fr' 0 = .ptr pb0 0∧fr' 3 = .int .i64 s1∧Sep h' lo ([Blk1 pb0 [lst cU8 l8.code,
   .int .i64 l8.at_,.int .u64 l8.seed] 78]++(S0))) (fun Q5 hN6 hR7 hE8=>⟨fun hc9=>?_,fun hc9=>?_⟩) ?_
 ·rw [iteT hc9] at hX3
  simp only [q5v,jg,zf0,zz,qi,js,zv,zl,o7,o8,o9,qv,zj,B0,reduceIte,a8]
  refine qq (v:=lst cU8 l8.code) ((ja (a0g _ _ _ hS)).trans rfl) ?_
  simp only [zf0,zz,qi,js,zv,zl,o7,o8,o9,qv,zj,B0,reduceIte,a8]
  refine qq (v := .int .i64 l8.at_) ((ja (a0g _ _ _ hS)).trans rfl) ?_
  obtain ⟨x10,hx11,hF12⟩:=qk hX3
  simp only [yh,B0,reduceIte,a8]
  refine qq (v := .ref (cU8 x10) 0) (xg hx11 rfl) ?_
  simp only [zj,B0,reduceIte,a8]
  refine qq (v := .int .u8 x10) rfl ?_
  simp only [qop,qi,qfq,zz,za,qm,B0,reduceIte,a8]
  have e13:=qj hF12
  subst e13
  exact hN6 _ _ ⟨zf0,rfl,hS⟩
 ·rw [iteF hc9] at hX3
  simp only [zd,qm,B0,reduceIte,a8]
  have e14:=qj hX3
  subst e14
  exact hN6 _ _ ⟨zf0,rfl,hS⟩
 rintro fr15 h16 ⟨f18,f19,hS17⟩
 unfold qfa at hk4
 simp only [q8g,qf,qe,f18,qg,wb,qb,zv,qo,o7,o8,o9,qv,ql,B0,reduceIte,a8]
 refine qd (v := .int .i64 l8.at_) ((ja (a0g _ _ _ hS17)).trans rfl) ?_
 simp only [qx,qb,ur,wb,zv,qo,o7,o8,o9,qv,zh,B0,reduceIte,a8]
 refine qy (us:=[.int .i64 (r8 .i64 (l8.at_+1))]) rfl (cs':=[lst cU8 l8.code,.int .i64 (r8 .i64 (l8.at_+1)),
   .int .u64 l8.seed]) hS17 hW rfl rfl (nle rfl) rfl (fun h20 hS21=>?_)
 simp only [qa,q7z,qf,qe,f18,qg,wb,qb,zv,qo,o7,o8,o9,qv,ql,B0,reduceIte,
   a8]
 refine qd (v := .int .u64 l8.seed) ((ja (a0g _ _ _ hS21)).trans rfl) ?_
 simp only [qx,qb,qmt,f19,qg,qhg,qfq,ur,wb,zv,qo,o7,o8,o9,qv,zh,B0,reduceIte,
   a8]
 refine qy (us:=[.int .u64 (r8 .u64 ((r8 .u64 ((r8 .u64 (l8.seed*6364136223846793005)) +
   (r8 .u64 s1)))+1442695040888963407))]) rfl (cs':=[lst cU8 l8.code,.int .i64 (r8 .i64 (l8.at_+1)),
   .int .u64 (r8 .u64 ((r8 .u64 ((r8 .u64 (l8.seed*6364136223846793005))+(r8 .u64 s1)))+1442695040888963407))]) hS21 hW rfl rfl
   (nle rfl) rfl (fun h22 hS23=>?_)
 simp only [qa,q6v,qf,jg,f18,zz,qi,js,zv,zl,o7,o8,o9,qv,zj,B0,reduceIte,
   a8]
 refine qq (v := .int .i64 (r8 .i64 (l8.at_+1))) ((ja (a0g _ _ _ hS23)).trans rfl) ?_
 simp only [f18,zz,qi,js,zv,zl,o7,o8,o9,qv,zj,B0,reduceIte,a8]
 refine qq (v:=lst cU8 l8.code) ((ja (a0g _ _ _ hS23)).trans rfl) ?_
 simp only [wm,qi,z7,j5,qhn,za,q2m,q8,B0,reduceIte,a8]
 refine q9 (t:=(decide ((r8 .i64 (l8.at_+1))≤(p9 l8.code:Int)))) (fun hc24=>?_) (fun hc24=>?_)
 ·rw [iteT hc24] at hk4
  simp only [qf,qe,f19,qg,qa,zc,B0,reduceIte,a8]
  have he:=qj hk4
  subst he
  simp only [zr,B0,reduceIte,a8]
  exact ⟨by first | trivial | rfl,hS23⟩
 rw [iteF hc24] at hk4
 simp only [zd,q9t,qf,qe,f18,qg,wb,qb,zv,qo,o7,o8,o9,qv,ql,B0,reduceIte,
   a8]
 refine qd (v := .int .u64 (r8 .u64 ((r8 .u64 ((r8 .u64 (l8.seed*6364136223846793005))+(r8 .u64 s1)))+1442695040888963407)))
   ((ja (a0g _ _ _ hS23)).trans rfl) ?_
 simp only [qx,qb,uq (n:=40) (by decide),qfl,qhg,qfq,qg,qa,zc,B0,reduceIte,a8]
 have he:=qj hk4
 subst he
 simp only [zr,B0,reduceIte,a8]
 exact ⟨by first | trivial | rfl,hS23⟩
theorem yl {W:Nat→Bool}{h:Heap}{lo:Nat→Prop}{S0:List Obj} (hW:∀ b,
  lo b→W b=true) (pb0:Nat) (l8:L1Cur) (m9:Int) (r:Int × L1Cur) (hF:yk l8 m9=some r) (hS:Sep h lo ([Blk1 pb0 [lst cU8 l8.code,.int .i64 l8.at_,
  .int .u64 l8.seed] 78]++(S0))) : Ret E W 42 [.ptr pb0 0,.int .i64 m9] h (fun v h'=>v = .int .i64 r.1∧Sep h' lo ([Blk1 pb0 [lst cU8 r.2.code,.int .i64 r.2.at_,
  .int .u64 r.2.seed] 78]++(S0))):=by
 refine Ret.of (fn:=x42) rfl (Run.of ?_)
 unfold yk at hF
 have zf0:zk [.ptr pb0 0,.int .i64 m9] 0 = .ptr pb0 0:=rfl
 have zf1:zk [.ptr pb0 0,.int .i64 m9] 1 = .int .i64 m9:=rfl
 generalize zk [.ptr pb0 0,.int .i64 m9]=fr0 at zf0 zf1 ⊢
 simp only [x42,qf,qe,qg,qa,q9w,zf1,qx,qb,qhn,q8,B0,reduceIte,a8]
 refine q9 (t:=(decide (m9≤1))) (fun hc1=>?_) (fun hc1=>?_)
 ·rw [iteT hc1] at hF
  simp only [qf,qe,qg,qa,zc,B0,reduceIte,a8]
  have he:=qj hF
  subst he
  simp only [zr,B0,reduceIte,a8]
  exact ⟨by first | trivial | rfl,hS⟩
 rw [iteF hc1] at hF
 obtain ⟨v2,hx3,hF4⟩:=qk hF
 simp only [zd,q9k,qf,qe,zf0,qg,zi,B0,reduceIte,a8]
 refine yx rfl (qkr hW pb0 l8 v2 hx3 hS) ?_
 rintro _ h5 ⟨rfl,hS6⟩
 simp only [qg,qa,q80,qf,qe,zf1,qx,qb,ww,q6d,q8,B0,reduceIte,a8]
 refine q9 (t:=(decide ((200:Int)<m9))) (fun hc7=>?_) (fun hc7=>?_)
 ·rw [iteT hc7] at hF4
  obtain ⟨v8,hx9,hF10⟩:=qk hF4
  simp only [q27,qe,qg,qx,qb,qmt,zf0,zi,B0,reduceIte,a8]
  refine yx rfl (qkr hW pb0 v2.2 v8 hx9 hS6) ?_
  rintro _ h11 ⟨rfl,hS12⟩
  obtain ⟨hp13,hF14⟩:=qa2 hF10
  simp only [qx,qb,ur,qg,qa,qrp,qf,qe,zf1,qni (n:=m9) hp13,zc,B0,reduceIte,a8]
  have he:=qj hF14
  subst he
  simp only [zr,B0,reduceIte,a8]
  exact ⟨by first | trivial | rfl,hS12⟩
 rw [iteF hc7] at hF4
 obtain ⟨hp15,hF16⟩:=qa2 hF4
 simp only [zd,qrp,qf,qe,qg,zf1,qx,qb,qni (n:=m9) hp15,qa,zc,B0,reduceIte,a8]
 have he:=qj hF16
 subst he
 simp only [zr,B0,reduceIte,a8]
 exact ⟨by first | trivial | rfl,hS6⟩
theorem qgg {W:Nat→Bool}{h:Heap} (hW:∀ b,
  (geL h.length) b→W b=true) (n9:Int) (lo_1:Int) (hi_2:Int) (r:Bool) (hF:some (yq n9 lo_1 hi_2)=some r) : Ret E W 63 [.int .i64 n9,.int .i64 lo_1,
  .int .i64 hi_2] h (fun v h'=>cut h.length h' E.sz false 9 v=some (.bool r)):=by
 refine Ret.of (fn:=x63) rfl (Run.of ?_)
 unfold yq at hF
 have zf0:zk [.int .i64 n9,.int .i64 lo_1,.int .i64 hi_2] 0 = .int .i64 n9:=rfl
 have zf1:zk [.int .i64 n9,.int .i64 lo_1,.int .i64 hi_2] 1 = .int .i64 lo_1:=rfl
 have zf2:zk [.int .i64 n9,.int .i64 lo_1,.int .i64 hi_2] 2 = .int .i64 hi_2:=rfl
 generalize zk [.int .i64 n9,.int .i64 lo_1,.int .i64 hi_2]=fr0 at zf0 zf1 zf2 ⊢
 have hS:Sep h (geL h.length) []:=a14 h
 simp only [x63,qf,qe,qg,qa,q88,zf0,zf1,qx,qb,qga,B0,reduceIte,a8]
 refine jf 4 (fun fr' h'=>Sep h' (geL h.length) ([])∧fr' 14 = .bool ((decide (lo_1≤n9))&&(decide (n9≤hi_2)))) (fun Q1 hN2=>?_) ?_
 ·simp only [s5,t4]
  simp only [qc (g:=10),B0,reduceIte,a8]
  refine zf (t:=(decide (lo_1≤n9))) (fun hg3=>?_) (fun hg3=>?_)
  ·simp only [hg3,qc (g:=10),zu,zf0,qg,zf2,qx,qb,qhn,qw,zo,qa,qm,B0,reduceIte,a8]
   exact hN2 _ _ ⟨hS,by rw [qat hg3]; simp only [B0,reduceIte,a8]⟩
  ·simp only [hg3,qc (g:=10),kj,qw,qb,zn,qa,qm,B0,reduceIte,a8]
   exact hN2 _ _ ⟨hS,by rw [qao hg3]; simp only [B0,reduceIte,a8]⟩
 rintro fr4 h6 ⟨hS7,f5⟩
 simp only [s6,t3]
 simp only [f5,qg,qa,zc,B0,reduceIte,a8]
 have he:=qj hF
 subst he
 simp only [zr,B0,reduceIte,a8]
 exact rfl
theorem qiq {W:Nat→Bool}{h:Heap} (hW:∀ b,
  (geL h.length) b→W b=true) (k:Nat) (peers_0:Int) (r:Raft × Bool) (hF:qdp k peers_0=some r) : Ret E W 40 [.int .i64 peers_0] h
  (fun v h'=>∃ l9 g9 i5 i0,v = .tup [.agg [l9,i5],
  .bool r.2]∧SlN Peer.R 5 43 l9 r.1.Peers g9∧SlN Mail.R 9 86 i5 r.1.Mail i0∧Sep h' (geL h.length) (g9++(i0++([])))):=by
 refine Ret.of (fn:=x40) rfl (Run.of ?_)
 unfold qdp at hF
 have zf0:zk [.int .i64 peers_0] 0 = .int .i64 peers_0:=rfl
 generalize zk [.int .i64 peers_0]=fr0 at zf0 ⊢
 have hS:Sep h (geL h.length) []:=a14 h
 simp only [x40,qf,qe,ji,B0,reduceIte,a8]
 refine z6 hS (fun b1 h2 hS3=>?_)
 simp only [qg,qa,q62,qf,qe,zf0,zi,B0,reduceIte,a8]
 refine jx rfl (qt zb (qt zb (qt zb zm))) (qgg (fun b hb=>decide_eq_true hb) peers_0 1 5 _ rfl) ?_
 simp only [jq,qb,kq,qa,q9f,q8,B0,reduceIte,a8]
 refine q9 (t:=(!(yq peers_0 1 5))) (fun hc5=>?_) (fun hc5=>?_)
 ·rw [iteT hc5] at hF
  simp only [qf,qe,run_build,evp,B0,reduceIte,a8]
  refine qd (v := .agg [.nil,.nil]) rfl ?_
  simp only [zh,B0,reduceIte,a8]
  refine qy (us:=[.nil,.nil]) rfl (cs':=[.nil,.nil]) hS3 hW rfl rfl (nle rfl) rfl (fun h6 hS7=>?_)
  simp only [qg,qa,zc,B0,reduceIte,a8]
  have he:=qj hF
  subst he
  refine jl (qt (jr (bb:=b1) (oo:=0) (v := .agg [.nil,
    .nil]) (rfl) ((zw (a0g _ _ _ hS7)).trans rfl)) (qt (kz (v := .bool false) (rfl)) zm)) ?_
  exact ⟨.nil,[],.nil,[],by first | trivial | rfl,a2u,a2u,((a0k (hS7)) : Sep _ (geL h.length) ([]))⟩
 rw [iteF hc5] at hF
 simp only [zd,q2z,qf,qe,ji,B0,reduceIte,a8]
 refine z6 hS3 (fun b8 h9 hS10=>?_)
 simp only [qa,q56,qf,qe,qg,B0,reduceIte,a8]
 obtain ⟨oc26,hX28,hk29⟩:=kd hF
 simp only [q6s]
 refine qit (σ:=Int × Raft) (fun s75=>qft peers_0 s75.1 s75.2) (fun s fr' h'=>∃ v21 c22,
   fr' 0 = .int .i64 peers_0∧fr' 2 = .ptr b1 0∧fr' 4 = .ptr b8 0∧fr' 5 = .int .i64 s.1∧SlN Peer.R 5 43 v21 s.2.Peers c22∧Sep h' (geL h.length) ([Blk1 b1 [.nil,
   .nil] 29]++([Blk1 b8 [v21,.nil] 29]++(c22++([]))))) hX28 ⟨.nil,[],zf0,rfl,rfl,rfl,a2u,((t6 hS10) : Sep _ (geL h.length) ([Blk1 b1 [.nil,
   .nil] 29]++([Blk1 b8 [.nil,.nil] 29]++([]))))⟩ (fun _ _ _ h=>h) ?_ ?_
 ·rintro ⟨s18,s19⟩ fr38 h39 ⟨v21,c22,f41,f42,f43,f44,hv23,hS40⟩ oc27 hF30 hr31 Q32 hN33 hK34 hR35 hE36
  dsimp only at *
  unfold qft at hF30
  simp only [q9b,qf,qe,f44,qg,f41,qx,qb,qch,qa,q8,B0,reduceIte,a8]
  refine q9 (t:=(decide (s18<peers_0))) (fun hc46=>?_) (fun hc46=>?_)
  ·rw [iteT hc46] at hF30
   simp only [zd,q33,qf,wx,q78,jg,f43,zl,qi,o7,o8,o9,qv,zj,B0,reduceIte,
     a8]
   refine qq (v:=v21) ((ja (a0g _ _ _ (t6 hS40))).trans rfl) ?_
   obtain ⟨l47,hx48,hF49⟩:=qk hF30
   simp only [f41,zz,qi,qor,B0,reduceIte,a8]
   refine qjp (f:=cI) (z:=(0:Int)) hS40 hx48 rfl (fun v50 c51 h52 hv53 hS54=>?_)
   simp only [qfw,evp,B0,reduceIte,a8]
   refine qq (v := .agg [.int .i64 0,.bool false,.nil,.int .i64 0,v50]) (qkt (qel (us:=[v50]) (vs:=[.int .i64 0,.bool false,.nil,.int .i64 0,
     v50]) (jp (a01 hv53)) rfl (nle rfl) (qp (a01 hv53) zp) rfl qek)) ?_
   simp only [qa6,evp,B0,reduceIte,a8]
   refine qem (R:=Peer.R) (n:=5) (cs:=[.int .i64 0,.bool false,.nil,.int .i64 0,
     v50]) (os:=[]++(c51)) (Sep.bi2 (c1:=[]) (c2:=c51) (S:=([Blk1 b1 [.nil,.nil] 29]++([Blk1 b8 [v21,
     .nil] 29]++(c22++([]))))) (hS54:Sep _ (geL h.length) (c51++([Blk1 b1 [.nil,.nil] 29]++([Blk1 b8 [v21,
     .nil] 29]++(c22++([]))))))) (qel (us:=[.int .i64 0,.bool false,.nil,.int .i64 0,v50]) (vs:=[.int .i64 0,.bool false,.nil,.int .i64 0,
     v50]) rfl rfl (nle rfl) (qp rfl (qp rfl (qp rfl (qp rfl (qp (a01 hv53) zp))))) rfl qek) (Peer.RI (x :=
     (Peer.mk 0 false [] 0 l47)) a34 hv53) rfl (fun v56 c57 h58 hv59 hS60=>?_)
   simp only [qgp,B0,reduceIte,a8]
   obtain ⟨l62,hx63,hF64⟩:=qk hF49
   refine qg8 (R:=Peer.R) (c:=c22) hv23 hv59 (t5 hS60) hW Peer.RO.len Peer.RO.one hx63 (fun v65 c66 h67 hv68 hS69=>?_)
   simp only [f43,zl,qi,o7,o8,o9,qv,xx,B0,reduceIte,a8]
   refine ua (us:=[v65]) (jp (a0n hv68)) (cs':=[v65,.nil]) (s9 hS69) hW rfl (qp (a0n hv68) zp) (nle rfl) rfl (fun h71 hS72=>?_)
   simp only [za,w6,qe,f44,qg,qx,qb,ur,qa,qm,B0,reduceIte,a8]
   have e73:=qj hF64
   exact hN33 _ _ _ e73.symm ⟨v65,c66,f41,f42,f43,rfl,hv68,(s9 (t6 (t6 hS72)))⟩
  rw [iteF hc46] at hF30
  simp only [qfv,qe0,qgc,B0,reduceIte,a8]
  have e74:=qj hF30
  exact hK34 _ _ _ e74.symm ⟨v21,c22,f41,f42,f43,f44,hv23,(s9 (s9 (s9 hS40)))⟩
 rintro ⟨s76,s77⟩ fr82 h83 rfl ⟨v79,c80,f85,f86,f87,f88,hv81,hS84⟩
 dsimp only [jnO] at hk29
 dsimp only at *
 unfold qig at hk29
 simp only [qf,qe,f87,ql,B0,reduceIte,a8]
 refine qd (v := .agg [v79,.nil]) ((zw (a0g _ _ _ (t6 hS84))).trans rfl) ?_
 simp only [f86,zh,B0,reduceIte,a8]
 refine qy (us:=[v79,.nil]) rfl (cs':=[v79,.nil]) hS84 hW rfl (qp (a0n hv81) (qp rfl zp)) (nle rfl) rfl (fun h89 hS90=>?_)
 simp only [qg,qa,zc,B0,reduceIte,a8]
 have he:=qj hk29
 subst he
 refine jl (qt (jr (bb:=b1) (oo:=0) (v := .agg [v79,.nil]) (f86) ((zw (a0g _ _ _ hS90)).trans rfl)) (qt (kz (v := .bool true) (rfl)) zm)) ?_
 exact ⟨v79,c80,.nil,[],by first | trivial | rfl,hv81,a2u,((a0k ((a0k (hS90)))) : Sep _ (geL h.length) (c80++([])))⟩
theorem qid {W:Nat→Bool}{h:Heap} (hW:∀ b,
  (geL h.length) b→W b=true) (r_0:Raft) (k_1:Int) (r:Bool) (hF:some (kf r_0 k_1)=some r) : Ret E W 64 [.agg [lst qs r_0.Peers,
  lst qu r_0.Mail],.int .i64 k_1] h (fun v h'=>cut h.length h' E.sz false 9 v=some (.bool r)):=by
 refine Ret.of (fn:=x64) rfl (Run.of ?_)
 unfold kf at hF
 have zf0:zk [.agg [lst qs r_0.Peers,lst qu r_0.Mail],.int .i64 k_1] 0 = .agg [lst qs r_0.Peers,lst qu r_0.Mail]:=rfl
 have zf1:zk [.agg [lst qs r_0.Peers,lst qu r_0.Mail],.int .i64 k_1] 1 = .int .i64 k_1:=rfl
 generalize zk [.agg [lst qs r_0.Peers,lst qu r_0.Mail],.int .i64 k_1]=fr0 at zf0 zf1 ⊢
 have hS:Sep h (geL h.length) []:=a14 h
 simp only [x64,qf,qe,ym,zf0,B0,reduceIte,a8]
 refine ko (cs:=[lst qs r_0.Peers,lst qu r_0.Mail]) hS rfl rfl rfl (fun b1 h2 hS3=>?_)
 simp only [qg,qa,B0,reduceIte,a8]
 refine jc hS3 hW (by simp only [B0,reduceIte,a8]) (fun h5 hS6=>?_)
 simp only [z5,q93,qf,qe,zf1,qg,qx,qb,qga,B0,reduceIte,a8]
 refine jf 6 (fun fr' h'=>Sep h' (geL h.length) ([])∧fr' 13 = .bool ((decide ((0:Int)≤k_1))&&(decide (k_1<(p9 r_0.Peers:Int))))) (fun Q7 hN8=>?_) ?_
 ·simp only [s5,t4]
  simp only [qc (g:=7),B0,reduceIte,a8]
  refine zf (t:=(decide ((0:Int)≤k_1))) (fun hg9=>?_) (fun hg9=>?_)
  ·simp only [hg9,qc (g:=7),zu,zf1,qg,qo,qb,o7,o8,o9,qn,ql,B0,reduceIte,a8]
   refine qd (v:=lst qs r_0.Peers) rfl ?_
   simp only [hg9,qc (g:=7),zu,zq,qb,z7,qx,qch,qw,zo,qa,qm,B0,reduceIte,a8]
   exact hN8 _ _ ⟨hS6,by rw [qat hg9]; simp only [B0,reduceIte,a8]⟩
  ·simp only [hg9,qc (g:=7),kj,qw,qb,zn,qa,qm,B0,reduceIte,a8]
   exact hN8 _ _ ⟨hS6,by rw [qao hg9]; simp only [B0,reduceIte,a8]⟩
 rintro fr10 h12 ⟨hS13,f11⟩
 simp only [s6,t3]
 simp only [f11,qg,qa,zc,B0,reduceIte,a8]
 have he:=qj hF
 subst he
 simp only [zr,B0,reduceIte,a8]
 exact rfl
end Go.Proofs.Ytanblnjomhgphaa.X
namespace Go.Proofs.Ytanblnjomhgphaa.X
open Go
theorem qhi {W:Nat→Bool}{h:Heap}{lo:Nat→Prop}{S0:List Obj} (hW:∀ b,
  lo b→W b=true) (d8:Raft) (d6:XV) (f4:List Obj) (e9:SlN Peer.R 5 43 d6 d8.Peers f4) (d7:XV) (d9:List Obj)
  (e8:SlN Mail.R 9 86 d7 d8.Mail d9) (a9:Mail) (f0:XV) (g8:List Obj) (i7:SlF qh 2 65 f0 a9.Entry g8) (r:Raft × Mail)
  (hF:ul d8 a9=some r) (hS:Sep h lo (f4++(d9++(g8++(S0))))) : Ret E W 93 [.agg [d6,d7],.agg [.bool a9.Reply,.int .i64 a9.From,
  .int .i64 a9.To,.int .i64 a9.Term,.int .i64 a9.Prev,.int .i64 a9.PTerm,f0,.int .i64 a9.Commit,.int .i64 a9.Match]] h (fun v h'=>∃ g9 i5 i0 ic1_6,
  v = .agg [d6,i5]∧SlN Peer.R 5 43 d6 r.1.Peers g9∧SlN Mail.R 9 86 i5 r.1.Mail i0∧SlF qh 2 65 f0 r.2.Entry ic1_6∧Sep h' lo (g9 ++
  (i0++(ic1_6++(S0))))):=by
 refine Ret.of (fn:=x93) rfl (Run.of ?_)
 unfold ul at hF
 have zf0:zk [.agg [d6,d7],.agg [.bool a9.Reply,.int .i64 a9.From,.int .i64 a9.To,.int .i64 a9.Term,.int .i64 a9.Prev,.int .i64 a9.PTerm,f0,
   .int .i64 a9.Commit,.int .i64 a9.Match]] 0 = .agg [d6,d7]:=rfl
 have zf1:zk [.agg [d6,d7],.agg [.bool a9.Reply,.int .i64 a9.From,.int .i64 a9.To,.int .i64 a9.Term,.int .i64 a9.Prev,.int .i64 a9.PTerm,f0,
   .int .i64 a9.Commit,.int .i64 a9.Match]] 1 = .agg [.bool a9.Reply,.int .i64 a9.From,.int .i64 a9.To,.int .i64 a9.Term,.int .i64 a9.Prev,.int .i64 a9.PTerm,
   f0,.int .i64 a9.Commit,.int .i64 a9.Match]:=rfl
 generalize zk [.agg [d6,d7],.agg [.bool a9.Reply,.int .i64 a9.From,.int .i64 a9.To,.int .i64 a9.Term,.int .i64 a9.Prev,.int .i64 a9.PTerm,f0,
   .int .i64 a9.Commit,.int .i64 a9.Match]]=fr0 at zf0 zf1 ⊢
 simp only [x93,qf,qe,ym,zf0,B0,reduceIte,a8]
 refine ko (cs:=[d6,d7]) hS rfl rfl (qp (a0n e9) (qp (a0n e8) zp)) (fun b1 h2 hS3=>?_)
 simp only [ym,zf1,B0,reduceIte,a8]
 refine ko (cs:=[.bool a9.Reply,.int .i64 a9.From,.int .i64 a9.To,.int .i64 a9.Term,.int .i64 a9.Prev,.int .i64 a9.PTerm,f0,.int .i64 a9.Commit,
   .int .i64 a9.Match]) hS3 rfl rfl (qp rfl (qp rfl (qp rfl (qp rfl (qp rfl (qp rfl (qp (a01 i7) (qp rfl (qp rfl zp)))))))))
   (fun b5 h6 hS7=>?_)
 simp only [ji,B0,reduceIte,a8]
 refine z6 hS7 (fun b9 h10 hS11=>?_)
 simp only [qa,B0,reduceIte,a8]
 refine jc (t6 hS11) hW (by simp only [B0,reduceIte,a8]) (fun h13 hS14=>?_)
 simp only [z5,qwj,qf,qe,qo,qb,o7,o8,o9,qv,ql,B0,reduceIte,a8]
 refine qd (v:=d6) ((ja (a0g _ _ _ (t6 hS14))).trans rfl) ?_
 simp only [qo,qb,o7,o8,o9,qn,ql,B0,reduceIte,a8]
 refine qd (v := .int .i64 a9.To) rfl ?_
 obtain ⟨x15,hx16,hF17⟩:=qk hF
 simp only [jj,B0,reduceIte,a8]
 obtain ⟨b18,hb19⟩:=SlN.isrow e9 (j7 hx16)
 refine qd (SlN.ia e9 hb19 hx16) ?_
 obtain ⟨c20,cs21,os22,hv23,hR24,hS25⟩:=SlG.opn (SlN.toG e9 hb19 Peer.RO.len) hx16 zt Peer.RO.len (s9 hS14)
 obtain ⟨v27,c28,v31,c32,hv29,hv33,rfl,rfl⟩:=hR24
 have hS26:=Sep.no2 hS25
 simp only [ql,B0,reduceIte,a8]
 refine qd (v := .agg [.int .i64 x15.Term,.bool x15.Leads,v27,.int .i64 x15.Commit,v31]) ((SlG.lds (o:=0) hv23 rfl hx16 hS26 (nle rfl)).trans rfl) ?_
 simp only [ji,B0,reduceIte,a8]
 refine z6 hS26 (fun b35 h36 hS37=>?_)
 simp only [zh,B0,reduceIte,a8]
 refine qy (us:=[.int .i64 x15.Term,.bool x15.Leads,v27,.int .i64 x15.Commit,v31]) rfl (cs':=[.int .i64 x15.Term,.bool x15.Leads,v27,.int .i64 x15.Commit,
   v31]) hS37 hW rfl (qp rfl (qp rfl (qp (a01 hv29) (qp rfl (qp (a01 hv33) zp))))) (nle rfl) rfl (fun h39 hS40=>?_)
 simp only [qa,qxe,qf,jg,zl,qi,o7,o8,o9,qv,zj,B0,reduceIte,a8]
 refine qq (v:=v27) ((ja (a0g _ _ _ hS40)).trans rfl) ?_
 simp only [wm,qi,a1p hv29,zl,o7,o8,o9,qn,zj,B0,reduceIte,a8]
 refine qq (v := .int .i64 a9.Prev) rfl ?_
 simp only [j5,qi,qch,zz,B0,reduceIte,a8]
 obtain ⟨v44,hx45,hF46⟩:=qk hF17
 refine qac 17 (fun fr' h'=>Sep h' lo ([Blk1 b1 [d6,d7] 29]++(g8++([Blk1 b9 [.nil,.nil] 29]++([Blk1 b35 [.int .i64 x15.Term,.bool x15.Leads,v27,
   .int .i64 x15.Commit,v31] 43]++(c20++(d9++(c28++(c32++(S0)))))))))∧fr' 40 = .bool v44∧fr' 2 = .ptr b1 0∧fr' 3 = .ref [.bool a9.Reply,
   .int .i64 a9.From,.int .i64 a9.To,.int .i64 a9.Term,.int .i64 a9.Prev,.int .i64 a9.PTerm,f0,.int .i64 a9.Commit,
   .int .i64 a9.Match] 0∧fr' 4 = .ptr b9 0∧fr' 5 = .ptr b35 0) rfl (fun Q41 hN42=>?_) ?_
 ·simp only [s5,t4]
  simp only [qz (g:=23),B0,reduceIte,a8]
  refine ky (t:=(decide ((p9 x15.Log:Int)<a9.Prev))) (fun hg43=>?_) (fun hg43=>?_)
  ·rw [iteT hg43] at hx45
   simp only [hg43,qz (g:=23),xw,qz (g:=27),ql8,ki,qi,zo,za,qm,B0,reduceIte,a8]
   have e47:=qj hx45
   exact hN42 _ _ ⟨(a0m (a0m (t8 (a0j (a0j (a20 (t5 (t5 hS40)))))))),by rw [←e47]; simp only [B0,reduceIte,a8],rfl,rfl,rfl,rfl⟩
  ·rw [iteF hg43] at hx45
   simp only [hg43,qz (g:=23),jb,zl,qi,o7,o8,o9,qn,zj,B0,reduceIte,a8]
   refine qq (v := .int .i64 a9.Prev) rfl ?_
   simp only [hg43,qz (g:=23),jb,j5,qi,ww,zz,B0,reduceIte,a8]
   obtain ⟨v51,hx52,hF53⟩:=qk hx45
   refine qac 12 (fun fr' h'=>Sep h' lo ([Blk1 b1 [d6,d7] 29]++(g8++([Blk1 b9 [.nil,.nil] 29]++([Blk1 b35 [.int .i64 x15.Term,.bool x15.Leads,v27,
     .int .i64 x15.Commit,v31] 43]++(c20++(d9++(c28++(c32++(S0)))))))))∧fr' 39 = .bool v51∧fr' 2 = .ptr b1 0∧fr' 3 = .ref [.bool a9.Reply,
     .int .i64 a9.From,.int .i64 a9.To,.int .i64 a9.Term,.int .i64 a9.Prev,.int .i64 a9.PTerm,f0,.int .i64 a9.Commit,
     .int .i64 a9.Match] 0∧fr' 4 = .ptr b9 0∧fr' 5 = .ptr b35 0∧fr' 23 = .bool (decide ((p9 x15.Log:Int)<a9.Prev))) rfl (fun Q48 hN49=>?_) ?_
   ·simp only [s5,t4]
    simp only [qz (g:=27),B0,reduceIte,a8]
    refine ky (t:=(decide ((0:Int)<a9.Prev))) (fun hg50=>?_) (fun hg50=>?_)
    ·rw [iteT hg50] at hx52
     simp only [hg50,qz (g:=27),jd,zl,qi,o7,o8,o9,qv,zj,B0,reduceIte,a8]
     refine qq (v:=v27) ((ja (a0g _ _ _ hS40)).trans rfl) ?_
     simp only [hg50,qz (g:=27),jd,zl,qi,o7,o8,o9,qn,zj,B0,reduceIte,a8]
     refine qq (v := .int .i64 a9.Prev) rfl ?_
     obtain ⟨x54,hx55,hF56⟩:=qk hx52
     simp only [hg50,qz (g:=27),jd,j5,qi,qbp,yh,B0,reduceIte,a8]
     obtain ⟨b57,hb58⟩:=a19 hv29 (j7 hx55)
     refine qq (a27 hv29 hb58 hx55) ?_
     simp only [hg50,qz (g:=27),jd,zl,qi,o7,o8,o9,qv,zj,B0,reduceIte,a8]
     refine qq (v := .int .i64 x54.Term) ((SlF.ld (o:=0) hv29 (s9 hS40) hb58 hx55 (fun _=>rfl) (nle rfl)).trans rfl) ?_
     simp only [hg50,qz (g:=27),jd,zl,qi,o7,o8,o9,qn,zj,B0,reduceIte,a8]
     refine qq (v := .int .i64 a9.PTerm) rfl ?_
     simp only [hg50,qz (g:=27),jd,j5,qi,wz,hg43,qz (g:=23),jb,ki,zo,za,qm,B0,
       reduceIte,a8]
     have e59:=qj hF56
     exact hN49 _ _ ⟨(a0m (a0m (t8 (a0j (a0j (a20 (t5 (t5 hS40)))))))),by rw [←e59]; simp only [B0,reduceIte,a8],rfl,rfl,rfl,rfl,
       by simp only [hg43,B0,reduceIte,a8]⟩
    ·rw [iteF hg50] at hx52
     simp only [hg50,qz (g:=27),qaj,hg43,qz (g:=23),jb,ki,qi,zn,za,qm,B0,reduceIte,
       a8]
     have e60:=qj hx52
     exact hN49 _ _ ⟨(a0m (a0m (t8 (a0j (a0j (a20 (t5 (t5 hS40)))))))),by rw [←e60]; simp only [B0,reduceIte,a8],rfl,rfl,rfl,rfl,
       by simp only [hg43,B0,reduceIte,a8]⟩
   rintro fr61 h68 ⟨hS69,f62,f63,f64,f65,f66,f67⟩
   simp only [s6,t3]
   simp only [f67,hg43,ki,qi,zn,f62,za,qm,B0,reduceIte,a8]
   have e70:=qj hF53
   exact hN42 _ _ ⟨(a0m (a0m (a0m (a0m (a0m (a0m (a0m (a0m hS69)))))))),by rw [←e70]; simp only [B0,reduceIte,a8],f63,f64,f65,f66⟩
 rintro fr71 h77 ⟨hS78,f72,f73,f74,f75,f76⟩
 simp only [s6,t3]
 simp only [za,q2i,f72,q8,B0,reduceIte,a8]
 refine q9 (t:=v44) (fun hc79=>?_) (fun hc79=>?_)
 ·rw [iteT hc79] at hF46
  simp only [qf,qe,f73,ql,B0,reduceIte,a8]
  refine qd (v := .agg [d6,d7]) ((zw (a0g _ _ _ hS78)).trans rfl) ?_
  simp only [f75,zh,B0,reduceIte,a8]
  refine qy (us:=[d6,d7]) rfl (cs':=[d6,d7]) (s9 hS78) hW rfl (qp (a3i hv23) (qp (a0n e8) zp)) (nle rfl) rfl (fun h80 hS81=>?_)
  simp only [qa,zc,B0,reduceIte,a8]
  obtain ⟨c82,hv83,hS84⟩:=a1h (c:=c20) (os:=c28++(c32)) hv23 rfl hx16 zt (Peer.RI (x:=x15) hv29 hv33) (a1f (c1:=c28) (c2:=c32) (a20 (a0m
    (a0m hS81))))
  have hv85:=a1e hv83
  have he:=qj hF46
  subst he
  refine wa (bb:=b9) (oo:=0) (v := .agg [d6,d7]) (by simp only [f75,B0,reduceIte,a8]) ((zw (a0g _ _ _ (t6 hS84))).trans rfl) ?_
  exact ⟨c82,d7,d9,g8,by first | trivial | rfl,hv85,e8,i7,(s9 (s9 (t6 (a0k (s9 (a0k (t6 (a0k (t6 hS84)))))))))⟩
 rw [iteF hc79] at hF46
 simp only [zd,qzh,qf,qe,f74,qo,qb,o7,o8,o9,qn,ql,B0,reduceIte,a8]
 refine qd (v := .int .i64 a9.Prev) rfl ?_
 simp only [qg,qa,qun,qf,qe,f74,qo,qb,o7,o8,o9,qn,ql,B0,reduceIte,a8]
 refine qd (v:=f0) rfl ?_
 simp only [zq,qb,a1p i7,qx,ww,qa,qsf,q8,B0,reduceIte,a8]
 obtain ⟨sv95,hX93,hk94⟩:=qk hF46
 refine wj (t:=(decide ((0:Int)<(p9 a9.Entry:Int)))) (fun fr' h'=>∃ v89 c90,fr' 2 = .ptr b1 0∧fr' 3 = .ref [.bool a9.Reply,.int .i64 a9.From,
   .int .i64 a9.To,.int .i64 a9.Term,.int .i64 a9.Prev,.int .i64 a9.PTerm,f0,.int .i64 a9.Commit,
   .int .i64 a9.Match] 0∧fr' 4 = .ptr b9 0∧fr' 5 = .ptr b35 0∧fr' 6 = .int .i64 sv95.1∧SlF qh 2 65 v89 sv95.2.Log c90∧Sep h' lo ([Blk1 b1 [d6,
   d7] 29]++(g8++([Blk1 b9 [.nil,.nil] 29]++([Blk1 b35 [.int .i64 sv95.2.Term,.bool sv95.2.Leads,v89,.int .i64 sv95.2.Commit,
   v31] 43]++(c20++(d9++(c90++(c32++(S0)))))))))) (fun Q96 hN97 hR98 hE99=>⟨fun hc100=>?_,fun hc100=>?_⟩) ?_
 ·rw [iteT hc100] at hX93
  simp only [qua,qf,qe,f74,qo,qb,o7,o8,o9,qn,ql,B0,reduceIte,a8]
  refine qd (v:=f0) rfl ?_
  obtain ⟨x101,hx102,hF103⟩:=qk hX93
  simp only [jj,B0,reduceIte,a8]
  obtain ⟨b104,hb105⟩:=a19 i7 (j7 hx102)
  refine qd (a27 i7 hb105 hx102) ?_
  simp only [ql,B0,reduceIte,a8]
  refine qd (v := .agg [.int .i64 x101.Term,.int .i64 x101.Value]) ((SlF.lds (o:=0) i7 (t6 hS78) hb105 hx102 (fun _=>rfl) (nle rfl)).trans rfl) ?_
  simp only [ji,B0,reduceIte,a8]
  refine z6 hS78 (fun b106 h107 hS108=>?_)
  simp only [zh,B0,reduceIte,a8]
  refine qy (us:=[.int .i64 x101.Term,.int .i64 x101.Value]) rfl (cs':=[.int .i64 x101.Term,
    .int .i64 x101.Value]) hS108 hW rfl rfl (nle rfl) rfl (fun h110 hS111=>?_)
  simp only [qa,B0,reduceIte,a8]
  refine jc hS111 hW (by simp only [B0,reduceIte,a8]) (fun h112 hS113=>?_)
  simp only [z5,q4z,qf,jg,f76,zl,qi,o7,o8,o9,qv,zj,B0,reduceIte,a8]
  refine qq (v:=v27) ((ja (a0g _ _ _ (t5 hS113))).trans rfl) ?_
  simp only [wm,qi,a1p hv29,f74,zl,o7,o8,o9,qn,zj,B0,reduceIte,a8]
  refine qq (v := .int .i64 a9.Prev) rfl ?_
  simp only [j5,qi,ww,zz,B0,reduceIte,a8]
  obtain ⟨v117,hx118,hF119⟩:=qk hF103
  refine qac 11 (fun fr' h'=>Sep h' lo ([Blk1 b1 [d6,d7] 29]++(g8++([Blk1 b9 [.nil,.nil] 29]++([Blk1 b35 [.int .i64 x15.Term,.bool x15.Leads,v27,
    .int .i64 x15.Commit,v31] 43]++(c20++(d9++(c28++(c32++(S0)))))))))∧fr' 69 = .bool v117∧fr' 2 = .ptr b1 0∧fr' 3 = .ref [.bool a9.Reply,
    .int .i64 a9.From,.int .i64 a9.To,.int .i64 a9.Term,.int .i64 a9.Prev,.int .i64 a9.PTerm,f0,.int .i64 a9.Commit,
    .int .i64 a9.Match] 0∧fr' 4 = .ptr b9 0∧fr' 5 = .ptr b35 0∧fr' 6 = .int .i64 a9.Prev∧fr' 7 = .ref [.int .i64 x101.Term,
    .int .i64 x101.Value] 0) rfl (fun Q114 hN115=>?_) ?_
  ·simp only [s5,t4]
   simp only [qz (g:=58),B0,reduceIte,a8]
   refine ky (t:=(decide (a9.Prev<(p9 x15.Log:Int)))) (fun hg116=>?_) (fun hg116=>?_)
   ·rw [iteT hg116] at hx118
    simp only [hg116,qz (g:=58),jd,f76,zl,qi,o7,o8,o9,qv,zj,B0,reduceIte,a8]
    refine qq (v:=v27) ((ja (a0g _ _ _ (t5 hS113))).trans rfl) ?_
    simp only [hg116,qz (g:=58),jd,f74,zl,qi,o7,o8,o9,qn,zj,B0,reduceIte,a8]
    refine qq (v := .int .i64 a9.Prev) rfl ?_
    obtain ⟨x120,hx121,hF122⟩:=qk hx118
    simp only [hg116,qz (g:=58),jd,yh,B0,reduceIte,a8]
    obtain ⟨b123,hb124⟩:=a19 hv29 (j7 hx121)
    refine qq (a27 hv29 hb124 hx121) ?_
    simp only [hg116,qz (g:=58),jd,zl,qi,o7,o8,o9,qv,zj,B0,reduceIte,a8]
    refine qq (v := .int .i64 x120.Term) ((SlF.ld (o:=0) hv29 (a20 hS113) hb124 hx121 (fun _=>rfl) (nle rfl)).trans rfl) ?_
    simp only [hg116,qz (g:=58),jd,zl,qi,o7,o8,o9,qn,zj,B0,reduceIte,a8]
    refine qq (v := .int .i64 x101.Term) rfl ?_
    simp only [hg116,qz (g:=58),jd,j5,qi,wz,ki,zo,za,qm,B0,reduceIte,a8]
    have e125:=qj hF122
    exact hN115 _ _ ⟨(a0m (a0m (a0m (a0m (a0m (a0m (a0m (a0m hS113)))))))),by rw [←e125]; simp only [B0,reduceIte,a8],f73,f74,f75,
      f76,rfl,rfl⟩
   ·rw [iteF hg116] at hx118
    simp only [hg116,qz (g:=58),qaj,ki,qi,zn,za,qm,B0,reduceIte,a8]
    have e126:=qj hx118
    exact hN115 _ _ ⟨(a0m (a0m (a0m (a0m (a0m (a0m (a0m (a0m hS113)))))))),by rw [←e126]; simp only [B0,reduceIte,a8],f73,f74,f75,
      f76,rfl,rfl⟩
  rintro fr127 h135 ⟨hS136,f128,f129,f130,f131,f132,f133,f134⟩
  simp only [s6,t3]
  simp only [za,q82,f128,q8,B0,reduceIte,a8]
  obtain ⟨s137,hX143,hk144⟩:=qk hF119
  refine wj (t:=v117) (fun fr' h'=>∃ v139 c140,fr' 2 = .ptr b1 0∧fr' 3 = .ref [.bool a9.Reply,.int .i64 a9.From,.int .i64 a9.To,.int .i64 a9.Term,
    .int .i64 a9.Prev,.int .i64 a9.PTerm,f0,.int .i64 a9.Commit,
    .int .i64 a9.Match] 0∧fr' 4 = .ptr b9 0∧fr' 5 = .ptr b35 0∧fr' 6 = .int .i64 a9.Prev∧fr' 7 = .ref [.int .i64 x101.Term,
    .int .i64 x101.Value] 0∧SlF qh 2 65 v139 s137.Log c140∧Sep h' lo ([Blk1 b1 [d6,d7] 29]++(g8++([Blk1 b9 [.nil,
    .nil] 29]++([Blk1 b35 [.int .i64 s137.Term,.bool s137.Leads,v139,.int .i64 s137.Commit,
    v31] 43]++(c20++(d9++(c140++(c32++(S0)))))))))) (fun Q145 hN146 hR147 hE148=>⟨fun hc149=>?_,fun hc149=>?_⟩) ?_
  ·rw [iteT hc149] at hX143
   simp only [q73,qe,jy,evp,B0,reduceIte,a8]
   refine kg (n:=2) (f:=qh) ([] : List Entry) hS136 rfl rfl (fun v150 c151 h152 hv153 hS154=>?_)
   simp only [f132,qo,qb,o7,o8,o9,qv,ql,B0,reduceIte,a8]
   refine qd (v:=v27) ((ja (a0g _ _ _ (a0j hS154))).trans rfl) ?_
   simp only [f130,qo,qb,o7,o8,o9,qn,ql,B0,reduceIte,a8]
   refine qd (v := .int .i64 a9.Prev) rfl ?_
   obtain ⟨l156,hx157,hF158⟩:=qk hX143
   simp only [qhb,Option.map_some,Option.map_none,B0,reduceIte,a8]
   obtain ⟨w159,i160,he161,hw162⟩:=SlF.win (f:=qh) (ty:=65) none (some a9.Prev) hv29 hx157 (a0m hS154)
   refine qd he161 ?_
   simp only [yv,B0,reduceIte,a8]
   obtain ⟨l163,hx164,hF165⟩:=qk hF158
   refine wh (f:=qh) hv153 hS154 hW (fun _=>rfl) (fun _=>rfl) (SlW.first hw162 hv29 (a0m hS154) (fun _=>rfl)) hx164
     (fun v166 c167 h168 hv169 hS170=>?_)
   simp only [f132,qo,qb,o7,o8,o9,qv,zh,B0,reduceIte,a8]
   refine qy (us:=[v166]) (jp (a01 hv169)) (cs':=[.int .i64 x15.Term,.bool x15.Leads,v166,.int .i64 x15.Commit,
     v31]) (a0j hS170) hW rfl (qp (a01 hv169) zp) (nle rfl) rfl (fun h172 hS173=>?_)
   simp only [qa,qm,B0,reduceIte,a8]
   have e174:=qj hF165
   subst e174
   exact hN146 _ _ ⟨v166,c167,f129,f130,f131,f132,f133,f134,hv169,(a0m (a0m (a0m (a0j (a0m (a0m (s9 (a0m (a0k (a0m hS173))))))))))⟩
  ·rw [iteF hc149] at hX143
   simp only [zd,qm,B0,reduceIte,a8]
   have e175:=qj hX143
   subst e175
   exact hN146 _ _ ⟨v27,c28,f129,f130,f131,f132,f133,f134,hv29,(a0m (a0m (a0m (a0m (a0m (a0m (a0m (a0m hS136))))))))⟩
  rintro fr176 h177 ⟨v139,c140,f179,f180,f181,f182,f183,f184,hv141,hS178⟩
  unfold qae at hk144
  simp only [q50,qf,qe,f182,qo,qb,o7,o8,o9,qv,ql,B0,reduceIte,a8]
  refine qd (v:=v139) ((ja (a0g _ _ _ (t5 hS178))).trans rfl) ?_
  simp only [zq,qb,a1p hv141,f180,qo,o7,o8,o9,qn,ql,B0,reduceIte,a8]
  refine qd (v := .int .i64 a9.Prev) rfl ?_
  simp only [qx,qb,ku,qg,B0,reduceIte,a8]
  refine jf 4 (fun fr' h'=>Sep h' lo ([Blk1 b1 [d6,d7] 29]++(g8++([Blk1 b9 [.nil,.nil] 29]++([Blk1 b35 [.int .i64 s137.Term,.bool s137.Leads,v139,
    .int .i64 s137.Commit,v31] 43]++(c20++(d9++(c140++(c32++(S0)))))))))∧fr' 88 = .bool ((decide ((p9 s137.Log:Int)=a9.Prev))&&(decide
    (a9.Prev<30)))∧fr' 2 = .ptr b1 0∧fr' 3 = .ref [.bool a9.Reply,.int .i64 a9.From,.int .i64 a9.To,.int .i64 a9.Term,.int .i64 a9.Prev,.int .i64 a9.PTerm,
    f0,.int .i64 a9.Commit,.int .i64 a9.Match] 0∧fr' 4 = .ptr b9 0∧fr' 5 = .ptr b35 0∧fr' 6 = .int .i64 a9.Prev∧fr' 7 = .ref [.int .i64 x101.Term,
    .int .i64 x101.Value] 0) (fun Q185 hN186=>?_) ?_
  ·simp only [s5,t4]
   simp only [qc (g:=84),B0,reduceIte,a8]
   refine zf (t:=(decide ((p9 s137.Log:Int)=a9.Prev))) (fun hg187=>?_) (fun hg187=>?_)
   ·simp only [hg187,qc (g:=84),zu,f180,qo,qb,o7,o8,o9,qn,ql,B0,reduceIte,a8]
    refine qd (v := .int .i64 a9.Prev) rfl ?_
    simp only [hg187,qc (g:=84),zu,qx,qb,qch,qw,zo,qa,qm,B0,reduceIte,a8]
    exact hN186 _ _ ⟨(a0m (a0m (a0m (a0m (a0m (a0m (a0m (a0m hS178)))))))),by rw [qat hg187]; simp only [B0,reduceIte,a8],f179,f180,
      f181,f182,f183,f184⟩
   ·simp only [hg187,qc (g:=84),kj,qw,qb,zn,qa,qm,B0,reduceIte,a8]
    exact hN186 _ _ ⟨(a0m (a0m (a0m (a0m (a0m (a0m (a0m (a0m hS178)))))))),by rw [qao hg187]; simp only [B0,reduceIte,a8],f179,f180,
      f181,f182,f183,f184⟩
  rintro fr188 h196 ⟨hS197,f189,f190,f191,f192,f193,f194,f195⟩
  simp only [s6,t3]
  simp only [qa,q6u,f189,q8,B0,reduceIte,a8]
  obtain ⟨s198,hX204,hk205⟩:=qk hk144
  refine wj (t:=((decide ((p9 s137.Log:Int)=a9.Prev))&&(decide (a9.Prev<30)))) (fun fr' h'=>∃ v200 c201,
    fr' 2 = .ptr b1 0∧fr' 3 = .ref [.bool a9.Reply,.int .i64 a9.From,.int .i64 a9.To,.int .i64 a9.Term,.int .i64 a9.Prev,.int .i64 a9.PTerm,f0,
    .int .i64 a9.Commit,.int .i64 a9.Match] 0∧fr' 4 = .ptr b9 0∧fr' 5 = .ptr b35 0∧fr' 6 = .int .i64 a9.Prev∧SlF qh 2 65 v200 s198.Log c201∧Sep h' lo
    ([Blk1 b1 [d6,d7] 29]++(g8++([Blk1 b9 [.nil,.nil] 29]++([Blk1 b35 [.int .i64 s198.Term,.bool s198.Leads,v200,.int .i64 s198.Commit,
    v31] 43]++(c20++(d9++(c201++(c32++(S0)))))))))) (fun Q206 hN207 hR208 hE209=>⟨fun hc210=>?_,fun hc210=>?_⟩) ?_
  ·rw [iteT hc210] at hX204
   simp only [q6r,qe,f193,qo,qb,o7,o8,o9,qv,ql,B0,reduceIte,a8]
   refine qd (v:=v139) ((ja (a0g _ _ _ (t5 hS197))).trans rfl) ?_
   simp only [f195,ql,B0,reduceIte,a8]
   refine qd (v := .agg [.int .i64 x101.Term,.int .i64 x101.Value]) rfl ?_
   simp only [jy,evp,B0,reduceIte,a8]
   refine kg (n:=2) (f:=qh) [x101] hS197 rfl rfl (fun v211 c212 h213 hv214 hS215=>?_)
   simp only [yv,B0,reduceIte,a8]
   obtain ⟨l217,hx218,hF219⟩:=qk hX204
   refine wh (f:=qh) hv141 (a0m hS215) hW (fun _=>rfl) (fun _=>rfl) (SlF.first hv214 hS215 (fun _=>rfl)) hx218 (fun v220 c221 h222 hv223 hS224=>?_)
   simp only [f193,qo,qb,o7,o8,o9,qv,zh,B0,reduceIte,a8]
   refine qy (us:=[v220]) (jp (a01 hv223)) (cs':=[.int .i64 s137.Term,.bool s137.Leads,v220,.int .i64 s137.Commit,
     v31]) (t8 hS224) hW rfl (qp (a01 hv223) zp) (nle rfl) rfl (fun h226 hS227=>?_)
   simp only [qa,qm,B0,reduceIte,a8]
   have e228:=qj hF219
   subst e228
   exact hN207 _ _ ⟨v220,c221,f190,f191,f192,f193,f194,hv223,(a0m (a0m (a0m (a0j (a0m (a0m (s9 (a0m (a0k (s9 hS227))))))))))⟩
  ·rw [iteF hc210] at hX204
   simp only [zd,qm,B0,reduceIte,a8]
   have e229:=qj hX204
   subst e229
   exact hN207 _ _ ⟨v139,c140,f190,f191,f192,f193,f194,hv141,(a0m (a0m (a0m (a0m (a0m (a0m (a0m (a0m hS197))))))))⟩
  rintro fr230 h231 ⟨v200,c201,f233,f234,f235,f236,f237,hv202,hS232⟩
  unfold qb3 at hk205
  simp only [q71,qf,qe,f236,qo,qb,o7,o8,o9,qv,ql,B0,reduceIte,a8]
  refine qd (v:=v200) ((ja (a0g _ _ _ (t5 hS232))).trans rfl) ?_
  simp only [zq,qb,a1p hv202,f234,qo,o7,o8,o9,qn,ql,B0,reduceIte,a8]
  refine qd (v := .int .i64 a9.Prev) rfl ?_
  simp only [qx,qb,ww,qa,q8e,q8,B0,reduceIte,a8]
  refine q9 (t:=(decide (a9.Prev<(p9 s198.Log:Int)))) (fun hc238=>?_) (fun hc238=>?_)
  ·rw [iteT hc238] at hk205
   simp only [qe,f237,qg,qx,qb,ur,qa,qm,B0,reduceIte,a8]
   have e239:=qj hk205
   subst e239
   exact hN97 _ _ ⟨v200,c201,f233,f234,f235,f236,rfl,hv202,(a0m (a0m (a0m (a0m (a0m (a0m (a0m (a0m hS232))))))))⟩
  rw [iteF hc238] at hk205
  simp only [zd,qm,B0,reduceIte,a8]
  have e240:=qj hk205
  subst e240
  exact hN97 _ _ ⟨v200,c201,f233,f234,f235,f236,f237,hv202,(a0m (a0m (a0m (a0m (a0m (a0m (a0m (a0m hS232))))))))⟩
 ·rw [iteF hc100] at hX93
  simp only [zd,qm,B0,reduceIte,a8]
  have e243:=qj hX93
  subst e243
  exact hN97 _ _ ⟨v27,c28,f73,f74,f75,f76,rfl,hv29,(a0m (a0m (a0m (a0m (a0m (a0m (a0m (a0m hS78))))))))⟩
 rintro fr244 h245 ⟨v89,c90,f247,f248,f249,f250,f251,hv91,hS246⟩
 obtain ⟨s86,s87⟩:=sv95
 dsimp only at *
 unfold qca at hk94
 simp only [qw4,qf,qe,f250,qo,qb,o7,o8,o9,qv,ql,B0,reduceIte,a8]
 refine qd (v := .int .i64 s87.Commit) ((ja (a0g _ _ _ (t5 hS246))).trans rfl) ?_
 simp only [f250,qo,qb,o7,o8,o9,qv,ql,B0,reduceIte,a8]
 refine qd (v:=v89) ((ja (a0g _ _ _ (t5 hS246))).trans rfl) ?_
 simp only [zq,qb,a1p hv91,qx,ww,qa,qut,q8,B0,reduceIte,a8]
 obtain ⟨s252,hX254,hk255⟩:=qk hk94
 refine wj (t:=(decide ((p9 s87.Log:Int)<s87.Commit))) (fun fr' h'=>fr' 2 = .ptr b1 0∧fr' 3 = .ref [.bool a9.Reply,.int .i64 a9.From,.int .i64 a9.To,
   .int .i64 a9.Term,.int .i64 a9.Prev,.int .i64 a9.PTerm,f0,.int .i64 a9.Commit,
   .int .i64 a9.Match] 0∧fr' 4 = .ptr b9 0∧fr' 5 = .ptr b35 0∧fr' 6 = .int .i64 s86∧Sep h' lo ([Blk1 b1 [d6,d7] 29]++(g8++([Blk1 b9 [.nil,
   .nil] 29]++([Blk1 b35 [.int .i64 s252.Term,.bool s252.Leads,v89,.int .i64 s252.Commit,
   v31] 43]++(c20++(d9++(c90++(c32++(S0)))))))))) (fun Q256 hN257 hR258 hE259=>⟨fun hc260=>?_,fun hc260=>?_⟩) ?_
 ·rw [iteT hc260] at hX254
  simp only [qv9,qe,f250,qo,qb,o7,o8,o9,qv,ql,B0,reduceIte,a8]
  refine qd (v:=v89) ((ja (a0g _ _ _ (t5 hS246))).trans rfl) ?_
  simp only [zq,qb,a1p hv91,f250,qo,o7,o8,o9,qv,zh,B0,reduceIte,a8]
  refine qy (us:=[.int .i64 (p9 s87.Log:Int)]) rfl (cs':=[.int .i64 s87.Term,.bool s87.Leads,v89,.int .i64 (p9 s87.Log:Int),
    v31]) (t5 hS246) hW rfl rfl (nle rfl) rfl (fun h261 hS262=>?_)
  simp only [qa,qm,B0,reduceIte,a8]
  have e263:=qj hX254
  subst e263
  exact hN257 _ _ ⟨f247,f248,f249,f250,f251,(a0m (a0m (a0m (a0j (a0m (a0m (a0m (a0m hS262))))))))⟩
 ·rw [iteF hc260] at hX254
  simp only [zd,qm,B0,reduceIte,a8]
  have e264:=qj hX254
  subst e264
  exact hN257 _ _ ⟨f247,f248,f249,f250,f251,(a0m (a0m (a0m (a0m (a0m (a0m (a0m (a0m hS246))))))))⟩
 rintro fr265 h266 ⟨f268,f269,f270,f271,f272,hS267⟩
 unfold qeg at hk255
 simp only [qzr,qf,qe,f269,qo,qb,o7,o8,o9,qn,ql,B0,reduceIte,a8]
 refine qd (v := .int .i64 a9.Commit) rfl ?_
 simp only [qg,qa,qs0,qf,qe,f272,qx,qb,ww,qz6,q8,B0,reduceIte,a8]
 obtain ⟨s273,hX275,hk276⟩:=qk hk255
 refine wj (t:=(decide (s86<a9.Commit))) (fun fr' h'=>fr' 2 = .ptr b1 0∧fr' 3 = .ref [.bool a9.Reply,.int .i64 a9.From,.int .i64 a9.To,.int .i64 a9.Term,
   .int .i64 a9.Prev,.int .i64 a9.PTerm,f0,.int .i64 a9.Commit,
   .int .i64 a9.Match] 0∧fr' 4 = .ptr b9 0∧fr' 5 = .ptr b35 0∧fr' 6 = .int .i64 s86∧fr' 8 = .int .i64 s273∧Sep h' lo ([Blk1 b1 [d6,
   d7] 29]++(g8++([Blk1 b9 [.nil,.nil] 29]++([Blk1 b35 [.int .i64 s252.Term,.bool s252.Leads,v89,.int .i64 s252.Commit,
   v31] 43]++(c20++(d9++(c90++(c32++(S0)))))))))) (fun Q277 hN278 hR279 hE280=>⟨fun hc281=>?_,fun hc281=>?_⟩) ?_
 ·rw [iteT hc281] at hX275
  simp only [qe,f272,qg,qa,qm,B0,reduceIte,a8]
  have e282:=qj hX275
  subst e282
  exact hN278 _ _ ⟨f268,f269,f270,f271,f272,rfl,(a0m (a0m (a0m (a0m (a0m (a0m (a0m (a0m hS267))))))))⟩
 ·rw [iteF hc281] at hX275
  simp only [zd,qm,B0,reduceIte,a8]
  have e283:=qj hX275
  subst e283
  exact hN278 _ _ ⟨f268,f269,f270,f271,f272,rfl,(a0m (a0m (a0m (a0m (a0m (a0m (a0m (a0m hS267))))))))⟩
 rintro fr284 h285 ⟨f287,f288,f289,f290,f291,f292,hS286⟩
 unfold qef at hk276
 simp only [qzm,qf,qe,f292,qg,f290,qo,qb,o7,o8,o9,qv,ql,B0,reduceIte,a8]
 refine qd (v := .int .i64 s252.Commit) ((ja (a0g _ _ _ (t5 hS286))).trans rfl) ?_
 simp only [qx,qb,ww,qa,qyh,q8,B0,reduceIte,a8]
 obtain ⟨s293,hX295,hk296⟩:=qk hk276
 refine wj (t:=(decide (s252.Commit<s273))) (fun fr' h'=>fr' 2 = .ptr b1 0∧fr' 3 = .ref [.bool a9.Reply,.int .i64 a9.From,.int .i64 a9.To,.int .i64 a9.Term,
   .int .i64 a9.Prev,.int .i64 a9.PTerm,f0,.int .i64 a9.Commit,
   .int .i64 a9.Match] 0∧fr' 4 = .ptr b9 0∧fr' 5 = .ptr b35 0∧fr' 6 = .int .i64 s86∧Sep h' lo ([Blk1 b1 [d6,d7] 29]++(g8++([Blk1 b9 [.nil,
   .nil] 29]++([Blk1 b35 [.int .i64 s293.Term,.bool s293.Leads,v89,.int .i64 s293.Commit,
   v31] 43]++(c20++(d9++(c90++(c32++(S0)))))))))) (fun Q297 hN298 hR299 hE300=>⟨fun hc301=>?_,fun hc301=>?_⟩) ?_
 ·rw [iteT hc301] at hX295
  simp only [qe,f292,qg,f290,qo,qb,o7,o8,o9,qv,zh,B0,reduceIte,a8]
  refine qy (us:=[.int .i64 s273]) rfl (cs':=[.int .i64 s252.Term,.bool s252.Leads,v89,.int .i64 s273,
    v31]) (t5 hS286) hW rfl rfl (nle rfl) rfl (fun h302 hS303=>?_)
  simp only [qa,qm,B0,reduceIte,a8]
  have e304:=qj hX295
  subst e304
  exact hN298 _ _ ⟨f287,f288,f289,f290,f291,(a0m (a0m (a0m (a0j (a0m (a0m (a0m (a0m hS303))))))))⟩
 ·rw [iteF hc301] at hX295
  simp only [zd,qm,B0,reduceIte,a8]
  have e305:=qj hX295
  subst e305
  exact hN298 _ _ ⟨f287,f288,f289,f290,f291,(a0m (a0m (a0m (a0m (a0m (a0m (a0m (a0m hS286))))))))⟩
 rintro fr306 h307 ⟨f309,f310,f311,f312,f313,hS308⟩
 unfold qed at hk296
 simp only [qus,qf,qe,f312,qo,qb,o7,o8,o9,qv,ql,B0,reduceIte,a8]
 refine qd (v:=v31) ((ja (a0g _ _ _ (t5 hS308))).trans rfl) ?_
 simp only [zq,qb,a1p hv33,qg,qa,B0,reduceIte,a8]
 obtain ⟨oc322,hX324,hk325⟩:=kd hk296
 simp only [qyx]
 refine qas (σ:=(List Int)) (fun i320 s359=>qbt s87 i320 s359) (fun s fr' h'=>∃ c318,fr' 2 = .ptr b1 0∧fr' 3 = .ref [.bool a9.Reply,
   .int .i64 a9.From,.int .i64 a9.To,.int .i64 a9.Term,.int .i64 a9.Prev,.int .i64 a9.PTerm,f0,.int .i64 a9.Commit,
   .int .i64 a9.Match] 0∧fr' 4 = .ptr b9 0∧fr' 5 = .ptr b35 0∧fr' 6 = .int .i64 s86∧fr' 126=v31∧SlF cI 1 3 v31 s c318∧Sep h' lo ([Blk1 b1 [d6,
   d7] 29]++(g8++([Blk1 b9 [.nil,.nil] 29]++([Blk1 b35 [.int .i64 s293.Term,.bool s293.Leads,v89,.int .i64 s293.Commit,
   v31] 43]++(c318++(c20++(d9++(c90++(S0)))))))))) hX324 ⟨c32,f309,f310,f311,f312,f313,rfl,hv33,
   (a0m (a0m (a0m (a0m (a0m (a20 (a20 (a20 hS308))))))))⟩ (by simp only [B0,reduceIte,a8]) (by simp only [B0,reduceIte,
   a8]) (fun _ _ _ h=>h) rfl rfl (fun _ _ _ _ h=>h) (fun _ _ _ _ h=>h) (fun _ _ _ _ h=>h) (by decide) ?_ ?_
 ·rintro i320 s317 fr334 h335 hx343 ⟨c318,f337,f338,f339,f340,f341,f342,hv319,hS336⟩ f344 f345 oc323 hF326 hr327 Q328 hN329 hB333 hK330 hR331 hE332
  unfold qbt at hF326
  obtain ⟨x346,hx347,hF348⟩:=qk hF326
  simp only [qu4,qf,qe,f344,qg,f342,jj,B0,reduceIte,a8]
  obtain ⟨b349,hb350⟩:=a19 hv319 (j7 hx347)
  refine qd (a27 hv319 hb350 hx347) ?_
  simp only [ql,B0,reduceIte,a8]
  refine qd (v := .int .i64 x346) ((SlF.ld (o:=0) hv319 (a0j hS336) hb350 hx347 (fun _=>rfl) (nle rfl)).trans rfl) ?_
  simp only [qg,qa,qwv,qf,qe,f340,qo,qb,o7,o8,o9,qv,ql,B0,reduceIte,a8]
  refine qd (v:=v89) ((ja (a0g _ _ _ (t5 hS336))).trans rfl) ?_
  simp only [zq,qb,a1p hv91,qx,ww,qa,qzl,q8,B0,reduceIte,a8]
  refine q9 (t:=(decide ((p9 s87.Log:Int)<x346))) (fun hc351=>?_) (fun hc351=>?_)
  ·rw [iteT hc351] at hF348
   simp only [qxg,qe,f340,qo,qb,o7,o8,o9,qv,ql,B0,reduceIte,a8]
   refine qd (v:=v31) ((ja (a0g _ _ _ (t5 hS336))).trans rfl) ?_
   simp only [qg,f340,qo,qb,o7,o8,o9,qv,ql,B0,reduceIte,a8]
   refine qd (v:=v89) ((ja (a0g _ _ _ (t5 hS336))).trans rfl) ?_
   simp only [zq,qb,a1p hv91,jj,B0,reduceIte,a8]
   refine qd (a27 hv319 hb350 hx347) ?_
   simp only [zh,B0,reduceIte,a8]
   refine qje (f:=cI) (x':=(p9 s87.Log:Int)) (o:=0) hv319 (a0j hS336) hW hb350 hx347 (fun _=>rfl) rfl rfl (nle rfl) rfl
     (fun c354 h352 hv355 hS353=>?_)
   have hx356:=kt (x':=(p9 s87.Log:Int)) hx347
   simp only [qa,qm,B0,reduceIte,a8]
   have e357:=qj hF348
   exact hN329 _ _ _ e357.symm ⟨c354,f337,f338,f339,f340,f341,f342,hv355,(a0m (a0m (a0m (a0m (t5 (a0m (a0m (a0m hS353))))))))⟩ (f344) (f345)
  rw [iteF hc351] at hF348
  simp only [zd,qm,B0,reduceIte,a8]
  have e358:=qj hF348
  exact hN329 _ _ _ e358.symm ⟨c318,f337,f338,f339,f340,f341,f342,hv319,(a0m (a0m (a0m (a0m (a0m (a0m (a0m (a0m hS336))))))))⟩ (f344) (f345)
 rintro s360 fr363 h364 rfl ⟨c361,f366,f367,f368,f369,f370,f371,hv362,hS365⟩
 dsimp only [jnO] at hk325
 unfold qee at hk325
 simp only [qsi,qf,qe,f366,qo,qb,o7,o8,o9,qv,ql,B0,reduceIte,a8]
 refine qd (v:=d6) ((ja (a0g _ _ _ hS365)).trans rfl) ?_
 simp only [f367,qo,qb,o7,o8,o9,qn,ql,B0,reduceIte,a8]
 refine qd (v := .int .i64 a9.To) rfl ?_
 simp only [f369,ql,B0,reduceIte,a8]
 refine qd (v := .agg [.int .i64 s293.Term,.bool s293.Leads,v89,.int .i64 s293.Commit,v31]) ((zw (a0g _ _ _ (t5 hS365))).trans rfl) ?_
 simp only [jj,B0,reduceIte,a8]
 refine qd (SlG.ia hv23 hx16) ?_
 simp only [zh,B0,reduceIte,a8]
 refine uh (n:=5) (us:=[.int .i64 s293.Term,.bool s293.Leads,v89,.int .i64 s293.Commit,v31]) (cs:=[.int .i64 x15.Term,.bool x15.Leads,v27,
   .int .i64 x15.Commit,v31]) (o:=0) (cs':=[.int .i64 s293.Term,.bool s293.Leads,v89,.int .i64 s293.Commit,
   v31]) rfl hv23 rfl hx16 (t8 hS365) hW rfl (qp rfl (qp rfl (qp (a01 hv91) (qp rfl (qp (a01 hv362) zp))))) (nle rfl) rfl
   (fun c374 h372 hv375 hS373=>?_)
 simp only [qa,qtt,qf,qe,f366,qo,qb,o7,o8,o9,qv,ql,B0,reduceIte,a8]
 refine qd (v:=d7) ((ja (a0g _ _ _ (t6 hS373))).trans rfl) ?_
 simp only [zq,qb,SlN.len e8,qx,qch,qa,qwy,q8,B0,reduceIte,a8]
 refine q9 (t:=(decide ((p9 d8.Mail:Int)<20))) (fun hc376=>?_) (fun hc376=>?_)
 ·rw [iteT hc376] at hk325
  simp only [qxv,qe,f366,qo,qb,o7,o8,o9,qv,ql,B0,reduceIte,a8]
  refine qd (v:=d7) ((ja (a0g _ _ _ (t6 hS373))).trans rfl) ?_
  simp only [f367,qo,qb,o7,o8,o9,qn,ql,B0,reduceIte,a8]
  refine qd (v := .int .i64 a9.To) rfl ?_
  simp only [f367,qo,qb,o7,o8,o9,qn,ql,B0,reduceIte,a8]
  refine qd (v := .int .i64 a9.From) rfl ?_
  simp only [f369,qo,qb,o7,o8,o9,qv,ql,B0,reduceIte,a8]
  refine qd (v := .int .i64 s293.Term) ((ja (a0g _ _ _ (a0j hS373))).trans rfl) ?_
  simp only [f370,qg,run_build,evp,B0,reduceIte,a8]
  refine qd (v := .agg [.bool true,.int .i64 a9.To,.int .i64 a9.From,.int .i64 s293.Term,.int .i64 0,.int .i64 0,.nil,.int .i64 0,.int .i64 s86]) rfl ?_
  simp only [jy,evp,B0,reduceIte,a8]
  refine ux (R:=Mail.R) (n:=9) (cs:=[.bool true,.int .i64 a9.To,.int .i64 a9.From,.int .i64 s293.Term,.int .i64 0,.int .i64 0,.nil,.int .i64 0,
    .int .i64 s86]) (os:=[]) (Sep.bi1 (c1:=[]) (S:=(c374++([Blk1 b1 [d6,d7] 29]++(g8++([Blk1 b9 [.nil,.nil] 29]++([Blk1 b35 [.int .i64 s293.Term,
    .bool s293.Leads,v89,.int .i64 s293.Commit,v31] 43]++(c361++(d9++(c90++(S0)))))))))) (hS373:Sep _ lo (c374++([Blk1 b1 [d6,
    d7] 29]++(g8++([Blk1 b9 [.nil,.nil] 29]++([Blk1 b35 [.int .i64 s293.Term,.bool s293.Leads,v89,.int .i64 s293.Commit,
    v31] 43]++(c361++(d9++(c90++(S0))))))))))) rfl (Mail.RI (x:=(Mail.mk true a9.To a9.From s293.Term 0 0 [] 0 s86)) a34) rfl
    (fun v377 c378 h379 hv380 hS381=>?_)
  simp only [yv,B0,reduceIte,a8]
  obtain ⟨l383,hx384,hF385⟩:=qk hk325
  refine qa8 (R:=Mail.R) (c:=d9) e8 hv380 (a0m hS381) hW Mail.RO.len Mail.RO.one hx384 (fun v386 c387 h388 hv389 hS390=>?_)
  simp only [f366,qo,qb,o7,o8,o9,qv,zh,B0,reduceIte,a8]
  refine qy (us:=[v386]) (jp (a0n hv389)) (cs':=[d6,v386]) (s9 hS390) hW rfl (qp (a0n hv389) zp) (nle rfl) rfl (fun h392 hS393=>?_)
  simp only [qa,qf,qe,f366,ql,B0,reduceIte,a8]
  refine qd (v := .agg [d6,v386]) ((zw (a0g _ _ _ hS393)).trans rfl) ?_
  simp only [f368,zh,B0,reduceIte,a8]
  refine qy (us:=[d6,v386]) rfl (cs':=[d6,
    v386]) (a0j hS393) hW rfl (qp (a3i hv375) (qp (a0n hv389) zp)) (nle rfl) rfl (fun h394 hS395=>?_)
  simp only [qa,zc,B0,reduceIte,a8]
  obtain ⟨c396,hv397,hS398⟩:=a3e (e':=(Peer.mk s293.Term s293.Leads s87.Log s293.Commit s360)) (c:=c374) (os:=c90++(c361)) hv375 rfl hx16 zt (Peer.RI (x :=
    (Peer.mk s293.Term s293.Leads s87.Log s293.Commit s360)) hv91 hv362) (a1f (c1:=c90) (c2:=c361) (t8 (a0m (a20 hS395))))
  have hx399:=kt (x':=(Peer.mk s293.Term s293.Leads s87.Log s293.Commit s360)) hx16
  have hv400:=a1e hv397
  have he:=qj hF385
  subst he
  refine wa (bb:=b9) (oo:=0) (v := .agg [d6,v386]) (by simp only [f368,B0,reduceIte,a8]) ((zw (a0g _ _ _ (t6 hS398))).trans rfl) ?_
  exact ⟨c396,v386,c387,g8,by first | trivial | rfl,hv400,hv389,i7,(s9 (s9 (s9 (a0k (t5 (a0k (t6 (a0k (t6 hS398)))))))))⟩
 rw [iteF hc376] at hk325
 simp only [zd,qf,qe,f366,ql,B0,reduceIte,a8]
 refine qd (v := .agg [d6,d7]) ((zw (a0g _ _ _ (t6 hS373))).trans rfl) ?_
 simp only [f368,zh,B0,reduceIte,a8]
 refine qy (us:=[d6,d7]) rfl (cs':=[d6,
   d7]) (t5 hS373) hW rfl (qp (a3i hv375) (qp (a0n e8) zp)) (nle rfl) rfl (fun h401 hS402=>?_)
 simp only [qa,zc,B0,reduceIte,a8]
 obtain ⟨c403,hv404,hS405⟩:=a3e (e':=(Peer.mk s293.Term s293.Leads s87.Log s293.Commit s360)) (c:=c374) (os:=c90++(c361)) hv375 rfl hx16 zt (Peer.RI (x :=
   (Peer.mk s293.Term s293.Leads s87.Log s293.Commit s360)) hv91 hv362) (a1f (c1:=c90) (c2:=c361) (t5 (a0m (t8 hS402))))
 have hx406:=kt (x':=(Peer.mk s293.Term s293.Leads s87.Log s293.Commit s360)) hx16
 have hv407:=a1e hv404
 have he:=qj hk325
 subst he
 refine wa (bb:=b9) (oo:=0) (v := .agg [d6,d7]) (by simp only [f368,B0,reduceIte,a8]) ((zw (a0g _ _ _ (t6 hS405))).trans rfl) ?_
 exact ⟨c403,d7,d9,g8,by first | trivial | rfl,hv407,e8,i7,(s9 (s9 (t6 (a0k (s9 (a0k (t6 (a0k (t6 hS405)))))))))⟩
end Go.Proofs.Ytanblnjomhgphaa.X
namespace Go.Proofs.Ytanblnjomhgphaa.X
open Go
theorem qmr {W:Nat→Bool}{h:Heap}{lo:Nat→Prop}{S0:List Obj} (hW:∀ b,
  lo b→W b=true) (d8:Raft) (d6:XV) (f4:List Obj) (e9:SlN Peer.R 5 43 d6 d8.Peers f4) (d7:XV) (d9:List Obj)
  (e8:SlN Mail.R 9 86 d7 d8.Mail d9) (a9:Mail) (f0:XV) (g8:List Obj) (i7:SlF qh 2 65 f0 a9.Entry g8) (r:Raft × Mail)
  (hF:qci d8 a9=some r) (hS:Sep h lo (f4++(d9++(g8++(S0))))) : Ret E W 76 [.agg [d6,d7],.agg [.bool a9.Reply,.int .i64 a9.From,
  .int .i64 a9.To,.int .i64 a9.Term,.int .i64 a9.Prev,.int .i64 a9.PTerm,f0,.int .i64 a9.Commit,.int .i64 a9.Match]] h (fun v h'=>∃ g9 i5 i0 ic1_6,
  v = .agg [d6,i5]∧SlN Peer.R 5 43 d6 r.1.Peers g9∧SlN Mail.R 9 86 i5 r.1.Mail i0∧SlF qh 2 65 f0 r.2.Entry ic1_6∧Sep h' lo (g9 ++
  (i0++(ic1_6++(S0))))):=by
 refine Ret.of (fn:=x76) rfl (Run.of ?_)
 unfold qci at hF
 have zf0:zk [.agg [d6,d7],.agg [.bool a9.Reply,.int .i64 a9.From,.int .i64 a9.To,.int .i64 a9.Term,.int .i64 a9.Prev,.int .i64 a9.PTerm,f0,
   .int .i64 a9.Commit,.int .i64 a9.Match]] 0 = .agg [d6,d7]:=rfl
 have zf1:zk [.agg [d6,d7],.agg [.bool a9.Reply,.int .i64 a9.From,.int .i64 a9.To,.int .i64 a9.Term,.int .i64 a9.Prev,.int .i64 a9.PTerm,f0,
   .int .i64 a9.Commit,.int .i64 a9.Match]] 1 = .agg [.bool a9.Reply,.int .i64 a9.From,.int .i64 a9.To,.int .i64 a9.Term,.int .i64 a9.Prev,.int .i64 a9.PTerm,
   f0,.int .i64 a9.Commit,.int .i64 a9.Match]:=rfl
 generalize zk [.agg [d6,d7],.agg [.bool a9.Reply,.int .i64 a9.From,.int .i64 a9.To,.int .i64 a9.Term,.int .i64 a9.Prev,.int .i64 a9.PTerm,f0,
   .int .i64 a9.Commit,.int .i64 a9.Match]]=fr0 at zf0 zf1 ⊢
 simp only [x76,qf,qe,ym,zf0,B0,reduceIte,a8]
 refine ko (cs:=[d6,d7]) hS rfl rfl (qp (a0n e9) (qp (a0n e8) zp)) (fun b1 h2 hS3=>?_)
 simp only [ym,zf1,B0,reduceIte,a8]
 refine ko (cs:=[.bool a9.Reply,.int .i64 a9.From,.int .i64 a9.To,.int .i64 a9.Term,.int .i64 a9.Prev,.int .i64 a9.PTerm,f0,.int .i64 a9.Commit,
   .int .i64 a9.Match]) hS3 rfl rfl (qp rfl (qp rfl (qp rfl (qp rfl (qp rfl (qp rfl (qp (a01 i7) (qp rfl (qp rfl zp)))))))))
   (fun b5 h6 hS7=>?_)
 simp only [ji,B0,reduceIte,a8]
 refine z6 hS7 (fun b9 h10 hS11=>?_)
 simp only [qa,B0,reduceIte,a8]
 refine jc (s9 hS11) hW (by simp only [B0,reduceIte,a8]) (fun h13 hS14=>?_)
 refine jc (t6 hS14) hW (by simp only [B0,reduceIte,a8]) (fun h15 hS16=>?_)
 simp only [z5,quk,qf,qe,qo,qb,o7,o8,o9,qn,ql,B0,reduceIte,a8]
 refine qd (v:=d6) rfl ?_
 simp only [qo,qb,o7,o8,o9,qn,ql,B0,reduceIte,a8]
 refine qd (v := .int .i64 a9.To) rfl ?_
 obtain ⟨x17,hx18,hF19⟩:=qk hF
 simp only [jj,B0,reduceIte,a8]
 obtain ⟨b20,hb21⟩:=SlN.isrow e9 (j7 hx18)
 refine qd (SlN.ia e9 hb21 hx18) ?_
 obtain ⟨c22,cs23,os24,hv25,hR26,hS27⟩:=SlG.opn (SlN.toG e9 hb21 Peer.RO.len) hx18 zt Peer.RO.len (t6 hS16)
 obtain ⟨v29,c30,v33,c34,hv31,hv35,rfl,rfl⟩:=hR26
 have hS28:=Sep.no2 hS27
 simp only [ql,B0,reduceIte,a8]
 refine qd (v := .agg [.int .i64 x17.Term,.bool x17.Leads,v29,.int .i64 x17.Commit,v33]) ((SlG.lds (o:=0) hv25 rfl hx18 hS28 (nle rfl)).trans rfl) ?_
 simp only [ji,B0,reduceIte,a8]
 refine z6 hS28 (fun b37 h38 hS39=>?_)
 simp only [zh,B0,reduceIte,a8]
 refine qy (us:=[.int .i64 x17.Term,.bool x17.Leads,v29,.int .i64 x17.Commit,v33]) rfl (cs':=[.int .i64 x17.Term,.bool x17.Leads,v29,.int .i64 x17.Commit,
   v33]) hS39 hW rfl (qp rfl (qp rfl (qp (a01 hv31) (qp rfl (qp (a01 hv35) zp))))) (nle rfl) rfl (fun h41 hS42=>?_)
 simp only [qa,qt4,qf,qe,qo,qb,o7,o8,o9,qn,ql,B0,reduceIte,a8]
 refine qd (v := .int .i64 a9.Term) rfl ?_
 simp only [qo,qb,o7,o8,o9,qv,ql,B0,reduceIte,a8]
 refine qd (v := .int .i64 x17.Term) ((ja (a0g _ _ _ hS42)).trans rfl) ?_
 simp only [qx,qb,ww,qa,q5j,q8,B0,reduceIte,a8]
 refine q9 (t:=(decide (x17.Term<a9.Term))) (fun hc43=>?_) (fun hc43=>?_)
 ·rw [iteT hc43] at hF19
  simp only [q4j,qf,qe,qo,qb,o7,o8,o9,qn,ql,B0,reduceIte,a8]
  refine qd (v := .int .i64 a9.Term) rfl ?_
  simp only [qo,qb,o7,o8,o9,qv,zh,B0,reduceIte,a8]
  refine qy (us:=[.int .i64 a9.Term]) rfl (cs':=[.int .i64 a9.Term,.bool x17.Leads,v29,.int .i64 x17.Commit,
    v33]) hS42 hW rfl rfl (nle rfl) rfl (fun h44 hS45=>?_)
  simp only [qa,q6j,qf,qe,qo,qb,o7,o8,o9,qv,zh,B0,reduceIte,a8]
  refine qy (us:=[.bool false]) rfl (cs':=[.int .i64 a9.Term,.bool false,v29,.int .i64 x17.Commit,v33]) hS45 hW rfl rfl (nle rfl) rfl (fun h46 hS47=>?_)
  simp only [qa,q3g,qf,qe,qo,qb,o7,o8,o9,qn,ql,B0,reduceIte,a8]
  refine qd (v:=d6) rfl ?_
  obtain ⟨l48,hx49,hF50⟩:=qk hF19
  simp only [zq,qb,SlG.plen hv25,qmm,B0,reduceIte,a8]
  refine qia (f:=cI) (z:=(0:Int)) hS47 hx49 rfl (fun v51 c52 h53 hv54 hS55=>?_)
  simp only [qo,qb,o7,o8,o9,qv,zh,B0,reduceIte,a8]
  refine qy (us:=[v51]) (jp (a01 hv54)) (cs':=[.int .i64 a9.Term,.bool false,v29,.int .i64 x17.Commit,
    v51]) (t6 hS55) hW rfl (qp (a01 hv54) zp) (nle rfl) rfl (fun h57 hS58=>?_)
  simp only [qa,q7x,qe,qo,qb,o7,o8,o9,qn,ql,B0,reduceIte,a8]
  refine qd (v:=d6) rfl ?_
  simp only [qo,qb,o7,o8,o9,qn,ql,B0,reduceIte,a8]
  refine qd (v := .int .i64 a9.To) rfl ?_
  simp only [ql,B0,reduceIte,a8]
  refine qd (v := .agg [.int .i64 a9.Term,.bool false,v29,.int .i64 x17.Commit,v51]) ((zw (a0g _ _ _ hS58)).trans rfl) ?_
  simp only [jj,B0,reduceIte,a8]
  refine qd (SlG.ia hv25 hx18) ?_
  simp only [zh,B0,reduceIte,a8]
  refine uh (n:=5) (us:=[.int .i64 a9.Term,.bool false,v29,.int .i64 x17.Commit,v51]) (cs:=[.int .i64 x17.Term,.bool x17.Leads,v29,.int .i64 x17.Commit,
    v33]) (o:=0) (cs':=[.int .i64 a9.Term,.bool false,v29,.int .i64 x17.Commit,
    v51]) rfl hv25 rfl hx18 (s9 hS58) hW rfl (qp rfl (qp rfl (qp (a01 hv31) (qp rfl (qp (a01 hv54) zp))))) (nle rfl) rfl
    (fun c61 h59 hv62 hS60=>?_)
  simp only [qa,qou,qf,wx,qo2,qe,qo,qb,o7,o8,o9,qn,ql,B0,reduceIte,a8]
  refine qd (v := .int .i64 a9.Term) rfl ?_
  simp only [qo,qb,o7,o8,o9,qv,ql,B0,reduceIte,a8]
  refine qd (v := .int .i64 a9.Term) ((ja (a0g _ _ _ (t6 hS60))).trans rfl) ?_
  simp only [qx,qb,wz,qg,qa,qpe,q8,B0,reduceIte,a8]
  refine q9 (t:=(decide (a9.Term≠a9.Term))) (fun hc63=>?_) (fun hc63=>?_)
  ·rw [iteT hc63] at hF50
   simp only [qf,qe,ql,B0,reduceIte,a8]
   refine qd (v := .agg [d6,d7]) rfl ?_
   simp only [zh,B0,reduceIte,a8]
   refine qy (us:=[d6,d7]) rfl (cs':=[d6,
     d7]) (t8 hS60) hW rfl (qp (a3i hv62) (qp (a0n e8) zp)) (nle rfl) rfl (fun h64 hS65=>?_)
   simp only [qa,zc,B0,reduceIte,a8]
   obtain ⟨c66,hv67,hS68⟩:=a3e (e':=(Peer.mk a9.Term false x17.Log x17.Commit l48)) (c:=c61) (os:=c30++(c52)) hv62 rfl hx18 zt (Peer.RI (x :=
     (Peer.mk a9.Term false x17.Log x17.Commit l48)) hv31 hv54) (a1f (c1:=c30) (c2:=c52) (t5 (a0j (t5 hS65))))
   have hx69:=kt (x':=(Peer.mk a9.Term false x17.Log x17.Commit l48)) hx18
   have hv70:=a1e hv67
   have he:=qj hF50
   subst he
   refine wa (bb:=b9) (oo:=0) (v := .agg [d6,d7]) (by simp only [B0,reduceIte,a8]) ((zw (a0g _ _ _ (t6 hS68))).trans rfl) ?_
   exact ⟨c66,d7,d9,g8,by first | trivial | rfl,hv70,e8,i7,(s9 (s9 (s9 (a0k (t6 (a0k (t6 (a0k (t6 hS68)))))))))⟩
  rw [iteF hc63] at hF50
  simp only [qo0,qf,qe,qo,qb,o7,o8,o9,qn,ql,B0,reduceIte,a8]
  refine qd (v := .bool a9.Reply) rfl ?_
  simp only [jq,qb,kq,qg,qa,qo4,q8,B0,reduceIte,a8]
  refine q9 (t:=(!a9.Reply)) (fun hc71=>?_) (fun hc71=>?_)
  ·rw [iteT hc71] at hF50
   simp only [qrf,qf,qe,ql,B0,reduceIte,a8]
   refine qd (v := .agg [d6,d7]) rfl ?_
   simp only [ql,B0,reduceIte,a8]
   refine qd (v := .agg [.bool a9.Reply,.int .i64 a9.From,.int .i64 a9.To,.int .i64 a9.Term,.int .i64 a9.Prev,.int .i64 a9.PTerm,f0,.int .i64 a9.Commit,
     .int .i64 a9.Match]) rfl ?_
   obtain ⟨c72,hv73,hS74⟩:=a3e (e':=(Peer.mk a9.Term false x17.Log x17.Commit l48)) (c:=c61) (os:=c30++(c52)) hv62 rfl hx18 zt (Peer.RI (x :=
     (Peer.mk a9.Term false x17.Log x17.Commit l48)) hv31 hv54) (a1f (c1:=c30) (c2:=c52) (s9 (t5 (s9 hS60))))
   have hx75:=kt (x':=(Peer.mk a9.Term false x17.Log x17.Commit l48)) hx18
   have hv76:=a1e hv73
   obtain ⟨v77,hx78,hF79⟩:=qk hF50
   simp only [zi,B0,reduceIte,a8]
   refine yx rfl (qhi hW (Raft.mk (a1b d8.Peers a9.To.toNat
     (Peer.mk a9.Term false x17.Log x17.Commit l48)) d8.Mail) d6 c72 hv76 d7 d9 e8 a9 f0 g8 i7 v77 hx78 (s9 (t8 (t8 hS74)))) ?_
   rintro _ h88 ⟨c80,v82,c83,c86,rfl,hv81,hv84,hv87,hS89⟩
   simp only [zh,B0,reduceIte,a8]
   refine qy (us:=[d6,v82]) rfl (cs':=[d6,v82]) (t8 hS89) hW rfl (qp (a0n hv81) (qp (a0n hv84) zp)) (nle rfl) rfl (fun h90 hS91=>?_)
   simp only [qa,zc,B0,reduceIte,a8]
   have he:=qj hF79
   subst he
   refine wa (bb:=b9) (oo:=0) (v := .agg [d6,v82]) (by simp only [B0,reduceIte,a8]) ((zw (a0g _ _ _ hS91)).trans rfl) ?_
   exact ⟨c80,v82,c83,c86,by first | trivial | rfl,hv81,hv84,hv87,(s9 (s9 (s9 (a0k (t5 (a0k (t5 (a0k (hS91)))))))))⟩
  rw [iteF hc71] at hF50
  simp only [qr8,qf,jg,zl,qi,o7,o8,o9,qv,zj,B0,reduceIte,a8]
  refine qq (v := .bool false) ((ja (a0g _ _ _ (t6 hS60))).trans rfl) ?_
  simp only [zz,qi,qz (g:=49),qaj,ki,zn,qz (g:=60),za,qrg,q8,qjj,zd,w6,qf,
    qe,ql,B0,reduceIte,a8]
  refine qd (v := .agg [d6,d7]) rfl ?_
  simp only [zh,B0,reduceIte,a8]
  refine qy (us:=[d6,d7]) rfl (cs':=[d6,d7]) (t8 hS60) hW rfl (qp (a3i hv62) (qp (a0n e8) zp)) (nle rfl) rfl (fun h92 hS93=>?_)
  simp only [qa,zc,B0,reduceIte,a8]
  obtain ⟨c94,hv95,hS96⟩:=a3e (e':=(Peer.mk a9.Term false x17.Log x17.Commit l48)) (c:=c61) (os:=c30++(c52)) hv62 rfl hx18 zt (Peer.RI (x :=
    (Peer.mk a9.Term false x17.Log x17.Commit l48)) hv31 hv54) (a1f (c1:=c30) (c2:=c52) (t5 (a0j (t5 hS93))))
  have hx97:=kt (x':=(Peer.mk a9.Term false x17.Log x17.Commit l48)) hx18
  have hv98:=a1e hv95
  have he:=qj hF50
  subst he
  refine wa (bb:=b9) (oo:=0) (v := .agg [d6,d7]) (by simp only [B0,reduceIte,a8]) ((zw (a0g _ _ _ (t6 hS96))).trans rfl) ?_
  exact ⟨c94,d7,d9,g8,by first | trivial | rfl,hv98,e8,i7,(s9 (s9 (s9 (a0k (t6 (a0k (t6 (a0k (t6 hS96)))))))))⟩
 rw [iteF hc43] at hF19
 simp only [zd,qou,qf,wx,qo2,qe,qo,qb,o7,o8,o9,qn,ql,B0,reduceIte,a8]
 refine qd (v := .int .i64 a9.Term) rfl ?_
 simp only [qo,qb,o7,o8,o9,qv,ql,B0,reduceIte,a8]
 refine qd (v := .int .i64 x17.Term) ((ja (a0g _ _ _ hS42)).trans rfl) ?_
 simp only [qx,qb,wz,qg,qa,qpe,q8,B0,reduceIte,a8]
 refine q9 (t:=(decide (a9.Term≠x17.Term))) (fun hc99=>?_) (fun hc99=>?_)
 ·rw [iteT hc99] at hF19
  simp only [qf,qe,ql,B0,reduceIte,a8]
  refine qd (v := .agg [d6,d7]) rfl ?_
  simp only [zh,B0,reduceIte,a8]
  refine qy (us:=[d6,d7]) rfl (cs':=[d6,
    d7]) (a0j hS42) hW rfl (qp (a3i hv25) (qp (a0n e8) zp)) (nle rfl) rfl (fun h100 hS101=>?_)
  simp only [qa,zc,B0,reduceIte,a8]
  obtain ⟨c102,hv103,hS104⟩:=a1h (c:=c22) (os:=c30++(c34)) hv25 rfl hx18 zt (Peer.RI (x:=x17) hv31 hv35) (a1f (c1:=c30) (c2:=c34) (a0j (a0j
    (a0j hS101))))
  have hv105:=a1e hv103
  have he:=qj hF19
  subst he
  refine wa (bb:=b9) (oo:=0) (v := .agg [d6,d7]) (by simp only [B0,reduceIte,a8]) ((zw (a0g _ _ _ (t6 hS104))).trans rfl) ?_
  exact ⟨c102,d7,d9,g8,by first | trivial | rfl,hv105,e8,i7,(s9 (s9 (s9 (a0k (t6 (a0k (t6 hS104)))))))⟩
 rw [iteF hc99] at hF19
 simp only [qo0,qf,qe,qo,qb,o7,o8,o9,qn,ql,B0,reduceIte,a8]
 refine qd (v := .bool a9.Reply) rfl ?_
 simp only [jq,qb,kq,qg,qa,qo4,q8,B0,reduceIte,a8]
 refine q9 (t:=(!a9.Reply)) (fun hc106=>?_) (fun hc106=>?_)
 ·rw [iteT hc106] at hF19
  simp only [qrf,qf,qe,ql,B0,reduceIte,a8]
  refine qd (v := .agg [d6,d7]) rfl ?_
  simp only [ql,B0,reduceIte,a8]
  refine qd (v := .agg [.bool a9.Reply,.int .i64 a9.From,.int .i64 a9.To,.int .i64 a9.Term,.int .i64 a9.Prev,.int .i64 a9.PTerm,f0,.int .i64 a9.Commit,
    .int .i64 a9.Match]) rfl ?_
  obtain ⟨c107,hv108,hS109⟩:=a1h (c:=c22) (os:=c30++(c34)) hv25 rfl hx18 zt (Peer.RI (x:=x17) hv31 hv35) (a1f (c1:=c30) (c2:=c34) (t5 (t5
    (t5 hS42))))
  have hv110:=a1e hv108
  obtain ⟨v111,hx112,hF113⟩:=qk hF19
  simp only [zi,B0,reduceIte,a8]
  refine yx rfl (qhi hW d8 d6 c107 hv110 d7 d9 e8 a9 f0 g8 i7 v111 hx112 (s9 (a0j (a0j hS109)))) ?_
  rintro _ h122 ⟨c114,v116,c117,c120,rfl,hv115,hv118,hv121,hS123⟩
  simp only [zh,B0,reduceIte,a8]
  refine qy (us:=[d6,v116]) rfl (cs':=[d6,
    v116]) (a0j hS123) hW rfl (qp (a0n hv115) (qp (a0n hv118) zp)) (nle rfl) rfl (fun h124 hS125=>?_)
  simp only [qa,zc,B0,reduceIte,a8]
  have he:=qj hF113
  subst he
  refine wa (bb:=b9) (oo:=0) (v := .agg [d6,v116]) (by simp only [B0,reduceIte,a8]) ((zw (a0g _ _ _ hS125)).trans rfl) ?_
  exact ⟨c114,v116,c117,c120,by first | trivial | rfl,hv115,hv118,hv121,(s9 (s9 (s9 (a0k (t5 (a0k (hS125)))))))⟩
 rw [iteF hc106] at hF19
 simp only [qr8,qf,jg,zl,qi,o7,o8,o9,qv,zj,B0,reduceIte,a8]
 refine qq (v := .bool x17.Leads) ((ja (a0g _ _ _ hS42)).trans rfl) ?_
 simp only [zz,qi,B0,reduceIte,a8]
 obtain ⟨v129,hx130,hF131⟩:=qk hF19
 refine qac 10 (fun fr' h'=>Sep h' lo (c22++(d9++(g8++([Blk1 b9 [.nil,.nil] 29]++([Blk1 b37 [.int .i64 x17.Term,.bool x17.Leads,v29,.int .i64 x17.Commit,
   v33] 43]++(c30++(c34++(S0))))))))∧fr' 59 = .bool v129∧fr' 2 = .ref [d6,d7] 0∧fr' 3 = .ref [.bool a9.Reply,.int .i64 a9.From,.int .i64 a9.To,
   .int .i64 a9.Term,.int .i64 a9.Prev,.int .i64 a9.PTerm,f0,.int .i64 a9.Commit,
   .int .i64 a9.Match] 0∧fr' 4 = .ptr b9 0∧fr' 5 = .ptr b37 0) rfl (fun Q126 hN127=>?_) ?_
 ·simp only [s5,t4]
  simp only [qz (g:=49),B0,reduceIte,a8]
  refine ky (t:=x17.Leads) (fun hg128=>?_) (fun hg128=>?_)
  ·rw [iteT hg128] at hx130
   simp only [hg128,qz (g:=49),jd,zl,qi,o7,o8,o9,qn,zj,B0,reduceIte,a8]
   refine qq (v := .int .i64 a9.Match) rfl ?_
   simp only [hg128,qz (g:=49),jd,zl,qi,o7,o8,o9,qv,zj,B0,reduceIte,a8]
   refine qq (v:=v33) ((ja (a0g _ _ _ hS42)).trans rfl) ?_
   simp only [hg128,qz (g:=49),jd,zl,qi,o7,o8,o9,qn,zj,B0,reduceIte,a8]
   refine qq (v := .int .i64 a9.From) rfl ?_
   obtain ⟨x132,hx133,hF134⟩:=qk hx130
   simp only [hg128,qz (g:=49),jd,yh,B0,reduceIte,a8]
   obtain ⟨b135,hb136⟩:=a19 hv35 (j7 hx133)
   refine qq (a27 hv35 hb136 hx133) ?_
   simp only [hg128,qz (g:=49),jd,zj,B0,reduceIte,a8]
   refine qq (v := .int .i64 x132) ((SlF.ld (o:=0) hv35 (t5 hS42) hb136 hx133 (fun _=>rfl) (nle rfl)).trans rfl) ?_
   simp only [hg128,qz (g:=49),jd,j5,qi,ww,ki,zo,za,qm,B0,reduceIte,a8]
   have e137:=qj hF134
   exact hN127 _ _ ⟨(a20 (a20 (a20 (a0j (s9 (t5 (t5 hS42))))))),by rw [←e137]; simp only [B0,reduceIte,a8],rfl,rfl,rfl,rfl⟩
  ·rw [iteF hg128] at hx130
   simp only [hg128,qz (g:=49),qaj,ki,qi,zn,za,qm,B0,reduceIte,a8]
   have e138:=qj hx130
   exact hN127 _ _ ⟨(a20 (a20 (a20 (a0j (s9 (t5 (t5 hS42))))))),by rw [←e138]; simp only [B0,reduceIte,a8],rfl,rfl,rfl,rfl⟩
 rintro fr139 h145 ⟨hS146,f140,f141,f142,f143,f144⟩
 simp only [s6,t3]
 simp only [f140,zz,qi,B0,reduceIte,a8]
 refine qac 7 (fun fr' h'=>Sep h' lo (c22++(d9++(g8++([Blk1 b9 [.nil,
   .nil] 29]++(c30++(c34++(S0)))))))∧fr' 67 = .bool (v129&&(decide (a9.Match≤(p9 x17.Log:Int))))∧fr' 2 = .ref [d6,
   d7] 0∧fr' 3 = .ref [.bool a9.Reply,.int .i64 a9.From,.int .i64 a9.To,.int .i64 a9.Term,.int .i64 a9.Prev,.int .i64 a9.PTerm,f0,.int .i64 a9.Commit,
   .int .i64 a9.Match] 0∧fr' 4 = .ptr b9 0) rfl (fun Q147 hN148=>?_) ?_
 ·simp only [s5,t4]
  simp only [qz (g:=60),B0,reduceIte,a8]
  refine ky (t:=v129) (fun hg149=>?_) (fun hg149=>?_)
  ·simp only [hg149,qz (g:=60),jd,f142,zl,qi,o7,o8,o9,qn,zj,B0,reduceIte,a8]
   refine qq (v := .int .i64 a9.Match) rfl ?_
   simp only [hg149,qz (g:=60),jd,f144,zl,qi,o7,o8,o9,qv,zj,B0,reduceIte,a8]
   refine qq (v:=v29) ((ja (a0g _ _ _ (a0j hS146))).trans rfl) ?_
   simp only [hg149,qz (g:=60),jd,wm,qi,a1p hv31,j5,qhn,ki,zo,za,qm,B0,reduceIte,a8]
   exact hN148 _ _ ⟨(t8 (t8 (t8 (t8 (t8 (t8 (a0k (a0j hS146)))))))),by rw [qat hg149]; simp only [B0,reduceIte,a8],f141,f142,f143⟩
  ·simp only [hg149,qz (g:=60),qaj,ki,qi,zn,za,qm,B0,reduceIte,a8]
   exact hN148 _ _ ⟨(t8 (t8 (t8 (t8 (t8 (t8 (a0k (a0j hS146)))))))),by rw [qao hg149]; simp only [B0,reduceIte,a8],f141,f142,f143⟩
 rintro fr150 h155 ⟨hS156,f151,f152,f153,f154⟩
 simp only [s6,t3]
 simp only [f151,zz,qi,za,qrg,q8,B0,reduceIte,a8]
 refine q9 (t:=(v129&&(decide (a9.Match≤(p9 x17.Log:Int))))) (fun hc157=>?_) (fun hc157=>?_)
 ·rw [iteT hc157] at hF131
  simp only [q6f,jg,f152,zl,qi,o7,o8,o9,qn,zj,B0,reduceIte,a8]
  refine qq (v:=d6) rfl ?_
  simp only [f153,zl,qi,o7,o8,o9,qn,zj,B0,reduceIte,a8]
  refine qq (v := .int .i64 a9.To) rfl ?_
  simp only [yh,B0,reduceIte,a8]
  refine qq (SlG.ia hv25 hx18) ?_
  simp only [zl,qi,o7,o8,o9,qv,zj,B0,reduceIte,a8]
  refine qq (v:=v33) ((SlG.ld (o:=4) hv25 rfl hx18 hS156 (nle rfl)).trans rfl) ?_
  simp only [f153,zl,qi,o7,o8,o9,qn,zj,B0,reduceIte,a8]
  refine qq (v := .int .i64 a9.From) rfl ?_
  simp only [f153,zl,qi,o7,o8,o9,qn,zj,B0,reduceIte,a8]
  refine qq (v := .int .i64 a9.Match) rfl ?_
  obtain ⟨x158,hx159,hF160⟩:=qk hF131
  simp only [yh,B0,reduceIte,a8]
  obtain ⟨b161,hb162⟩:=a19 hv35 (j7 hx159)
  refine qq (a27 hv35 hb162 hx159) ?_
  simp only [xx,B0,reduceIte,a8]
  refine qe6 (f:=cI) (x':=a9.Match) (o:=0) hv35 (t8 hS156) hW hb162 hx159 (fun _=>rfl) rfl rfl (nle rfl) rfl (fun c165 h163 hv166 hS164=>?_)
  have hx167:=kt (x':=a9.Match) hx159
  simp only [za,w6,qf,qe,f152,ql,B0,reduceIte,a8]
  refine qd (v := .agg [d6,d7]) rfl ?_
  simp only [f154,zh,B0,reduceIte,a8]
  refine qy (us:=[d6,d7]) rfl (cs':=[d6,
    d7]) (a0j hS164) hW rfl (qp (a3i hv25) (qp (a0n e8) zp)) (nle rfl) rfl (fun h168 hS169=>?_)
  simp only [qa,zc,B0,reduceIte,a8]
  obtain ⟨c170,hv171,hS172⟩:=a3e (e':=(Peer.mk x17.Term x17.Leads x17.Log x17.Commit (a1b x17.Match a9.From.toNat a9.Match))) (c:=c22) (os:=c30 ++
    (c165)) hv25 rfl hx18 zt (Peer.RI (x:=(Peer.mk x17.Term x17.Leads x17.Log x17.Commit (a1b x17.Match a9.From.toNat a9.Match))) hv31 hv166) (a1f
    (c1:=c30) (c2:=c165) (t5 (t8 (t6 hS169))))
  have hx173:=kt (x':=(Peer.mk x17.Term x17.Leads x17.Log x17.Commit (a1b x17.Match a9.From.toNat a9.Match))) hx18
  have hv174:=a1e hv171
  have he:=qj hF160
  subst he
  refine wa (bb:=b9) (oo:=0) (v := .agg [d6,d7]) (by simp only [f154,B0,reduceIte,a8]) ((zw (a0g _ _ _ (t6 hS172))).trans rfl) ?_
  exact ⟨c170,d7,d9,g8,by first | trivial | rfl,hv174,e8,i7,(s9 (s9 (s9 (a0k (t6 hS172)))))⟩
 rw [iteF hc157] at hF131
 simp only [zd,w6,qf,qe,f152,ql,B0,reduceIte,a8]
 refine qd (v := .agg [d6,d7]) rfl ?_
 simp only [f154,zh,B0,reduceIte,a8]
 refine qy (us:=[d6,d7]) rfl (cs':=[d6,
   d7]) (t5 hS156) hW rfl (qp (a3i hv25) (qp (a0n e8) zp)) (nle rfl) rfl (fun h175 hS176=>?_)
 simp only [qa,zc,B0,reduceIte,a8]
 obtain ⟨c177,hv178,hS179⟩:=a1h (c:=c22) (os:=c30++(c34)) hv25 rfl hx18 zt (Peer.RI (x:=x17) hv31 hv35) (a1f (c1:=c30) (c2:=c34) (t5 (t8
   (t8 hS176))))
 have hv180:=a1e hv178
 have he:=qj hF131
 subst he
 refine wa (bb:=b9) (oo:=0) (v := .agg [d6,d7]) (by simp only [f154,B0,reduceIte,a8]) ((zw (a0g _ _ _ (t6 hS179))).trans rfl) ?_
 exact ⟨c177,d7,d9,g8,by first | trivial | rfl,hv180,e8,i7,(s9 (s9 (s9 (a0k (t6 hS179)))))⟩
theorem qoa {W:Nat→Bool}{h:Heap} (hW:∀ b,
  (geL h.length) b→W b=true) (k:Nat) (bits_0:Int) (r:List Int) (hF:qdc k bits_0=some r) : Ret E W 94 [.int .i64 bits_0] h
  (fun v h'=>cut h.length h' E.sz false 9 v=some (lst cI r)):=by
 refine Ret.of (fn:=x94) rfl (Run.of ?_)
 unfold qdc at hF
 have zf0:zk [.int .i64 bits_0] 0 = .int .i64 bits_0:=rfl
 generalize zk [.int .i64 bits_0]=fr0 at zf0 ⊢
 have hS:Sep h (geL h.length) []:=a14 h
 simp only [x94,qf,qe,qg,qa,q4q,q77,B0,reduceIte,a8]
 obtain ⟨oc15,hX17,hk18⟩:=kd hF
 simp only [q9e]
 refine qit (σ:=(List Int) × Int) (fun s58=>qf3 bits_0 s58.1 s58.2) (fun s fr' h'=>∃ v9 c10,
   fr' 0 = .int .i64 bits_0∧fr' 3=v9∧fr' 4 = .int .i64 s.2∧SlF cI 1 3 v9 s.1 c10∧Sep h' (geL h.length) (c10++([]))) hX17 ⟨.nil,[],zf0,rfl,rfl,a34,
   (hS:Sep _ (geL h.length) ([]))⟩ (fun _ _ _ h=>h) ?_ ?_
 ·rintro ⟨s7,s12⟩ fr27 h28 ⟨v9,c10,f30,f31,f32,hv11,hS29⟩ oc16 hF19 hr20 Q21 hN22 hK23 hR24 hE25
  dsimp only at *
  unfold qf3 at hF19
  obtain ⟨hp34,hF35⟩:=qa2 hF19
  simp only [q9m,qf,qe,f30,qg,f32,qhg,qb,qfq,qx,uq (n:=(r8 .u64 s12)) hp34,ww,qa,q8,B0,
    reduceIte,a8]
  refine q9 (t:=(decide ((0:Int)<(jo .i64 bits_0 (r8 .u64 s12))))) (fun hc36=>?_) (fun hc36=>?_)
  ·rw [iteT hc36] at hF35
   obtain ⟨hp37,hF38⟩:=qa2 hF35
   simp only [zd,q4a,qf,wx,q2n,qe,f30,qg,f32,qhg,qb,qfq,qx,uq (n:=(r8 .u64 s12)) hp37,qfl,
     ku,qa,q5o,q8,B0,reduceIte,a8]
   refine q9 (t:=(decide ((z8 .i64 (jo .i64 bits_0 (r8 .u64 s12)) 1)=1))) (fun hc39=>?_) (fun hc39=>?_)
   ·rw [iteT hc39] at hF38
    simp only [q3n,qe,f31,qg,f32,jy,evp,B0,reduceIte,a8]
    refine kg (n:=1) (f:=cI) [s12] hS29 rfl rfl (fun v40 c41 h42 hv43 hS44=>?_)
    simp only [yv,B0,reduceIte,a8]
    obtain ⟨l46,hx47,hF48⟩:=qk hF38
    refine wh (f:=cI) hv11 (t6 hS44) hW (fun _=>rfl) (fun _=>rfl) (SlF.first hv43 hS44 (fun _=>rfl)) hx47 (fun v49 c50 h51 hv52 hS53=>?_)
    simp only [qg,qa,w6,qe,f32,qx,qb,ur,qm,B0,reduceIte,a8]
    have e55:=qj hF48
    exact hN22 _ _ _ e55.symm ⟨v49,c50,f30,rfl,rfl,hv52,(a0k (t6 hS53))⟩
   rw [iteF hc39] at hF38
   simp only [zd,w6,qe,f32,qg,qx,qb,ur,qa,qm,B0,reduceIte,a8]
   have e56:=qj hF38
   exact hN22 _ _ _ e56.symm ⟨v9,c10,f30,f31,rfl,hv11,hS29⟩
  rw [iteF hc36] at hF35
  simp only [qfv,qe0,qgc,B0,reduceIte,a8]
  have e57:=qj hF35
  exact hK23 _ _ _ e57.symm ⟨v9,c10,f30,f31,f32,hv11,hS29⟩
 rintro ⟨s59,s64⟩ fr65 h66 rfl ⟨v61,c62,f68,f69,f70,hv63,hS67⟩
 dsimp only [jnO] at hk18
 dsimp only at *
 unfold qi1 at hk18
 simp only [qf,qe,f69,qg,qa,zc,B0,reduceIte,a8]
 have he:=qj hk18
 subst he
 simp only [zr,B0,reduceIte,a8]
 exact (SlF.cut hv63 hS67 (fun _ hb=>hb) rfl (fun _=>rfl) (fun _=>rfl))
theorem qne {W:Nat→Bool}{h:Heap} (hW:∀ b,
  (geL h.length) b→W b=true) (i6:List Int) (l6:Int) (r:Bool) (hF:qdr i6 l6=some r) : Ret E W 95 [lst cI i6,
  .int .i64 l6] h (fun v h'=>cut h.length h' E.sz false 9 v=some (.bool r)):=by
 refine Ret.of (fn:=x95) rfl (Run.of ?_)
 unfold qdr at hF
 have zf0:zk [lst cI i6,.int .i64 l6] 0=lst cI i6:=rfl
 have zf1:zk [lst cI i6,.int .i64 l6] 1 = .int .i64 l6:=rfl
 generalize zk [lst cI i6,.int .i64 l6]=fr0 at zf0 zf1 ⊢
 have hS:Sep h (geL h.length) []:=a14 h
 simp only [x95,qf,qe,qg,qa,q39,zf0,zq,qb,z7,B0,reduceIte,a8]
 obtain ⟨oc3,hX5,hk6⟩:=kd hF
 simp only [q4b]
 refine yi (σ:=Unit) i6 (fun i1 x2 _=>qdm i6 l6 i1 x2 ) (fun s fr' h'=>fr' 0=lst cI i6∧fr' 1 = .int .i64 l6∧fr' 7=lst cI i6∧Sep h'
   (geL h.length) ([])) hX5 ⟨zf0,zf1,rfl,hS⟩ (by simp only [B0,reduceIte,a8]) (by simp only [B0,reduceIte,
   a8]) (fun _ _ _ h=>h) rfl rfl (fun _ _ _ _ h=>h) (fun _ _ _ _ h=>h) (fun _ _ _ _ h=>h) (by decide) ?_ ?_
 ·rintro i1 x2 _ fr15 h16 hx21 ⟨f18,f19,f20,hS17⟩ f22 f23 oc4 hF7 hr8 Q9 hN10 hB14 hK11 hR12 hE13
  unfold qdm at hF7
  simp only [q8l,qf,qe,f22,qg,f20,jj,B0,reduceIte,a8]
  refine qd (v := .ref (cI x2) 0) (yj hx21 rfl) ?_
  simp only [ql,B0,reduceIte,a8]
  refine qd (v := .int .i64 x2) rfl ?_
  simp only [qg,qa,q9o,qf,qe,qx,qb,qch,B0,reduceIte,a8]
  refine jf 4 (fun fr' h'=>Sep h' (geL h.length) ([])∧fr' 20 = .bool ((decide (x2<0))||(decide
    (l6≤x2)))∧fr' 0=lst cI i6∧fr' 1 = .int .i64 l6∧fr' 5 = .int .i64 (i1:Int)∧fr' 6 = .int .i64 x2∧fr' 7=lst cI i6∧fr' 8 = .int .i64
    (p9 i6:Int)∧fr' 9 = .int .i64 (i1:Int)) (fun Q24 hN25=>?_) ?_
  ·simp only [s5,t4]
   simp only [qc (g:=16),B0,reduceIte,a8]
   refine zf (t:=(decide (x2<0))) (fun hg26=>?_) (fun hg26=>?_)
   ·simp only [hg26,qc (g:=16),zx,qw,qb,zo,qa,qm,B0,reduceIte,a8]
    exact hN25 _ _ ⟨hS17,by rw [orT hg26]; simp only [B0,reduceIte,a8],f18,f19,rfl,rfl,f20,f23,f22⟩
   ·simp only [hg26,qc (g:=16),qr,qg,f19,qx,qb,qga,qw,zn,qa,qm,B0,reduceIte,a8]
    exact hN25 _ _ ⟨hS17,by rw [orF hg26]; simp only [B0,reduceIte,a8],f18,f19,rfl,rfl,f20,f23,f22⟩
  rintro fr27 h36 ⟨hS37,f28,f29,f30,f31,f32,f33,f34,f35⟩
  simp only [s6,t3]
  simp only [f28,qg,B0,reduceIte,a8]
  obtain ⟨v41,hx42,hF43⟩:=qk hF7
  refine jf 12 (fun fr' h'=>Sep h' (geL h.length) ([])∧fr' 33 = .bool v41∧fr' 0=lst cI i6∧fr' 1 = .int .i64 l6∧fr' 7=lst cI i6∧fr' 8 = .int .i64
    (p9 i6:Int)∧fr' 9 = .int .i64 (i1:Int)) (fun Q38 hN39=>?_) ?_
  ·simp only [s5,t4]
   simp only [qc (g:=21),B0,reduceIte,a8]
   refine zf (t:=((decide (x2<0))||(decide (l6≤x2)))) (fun hg40=>?_) (fun hg40=>?_)
   ·rw [iteT hg40] at hx42
    simp only [hg40,qc (g:=21),zx,qc (g:=24),qcs,qw,qb,zo,qa,qm,B0,reduceIte,a8]
    have e44:=qj hx42
    exact hN39 _ _ ⟨hS37,by rw [←e44]; simp only [B0,reduceIte,a8],f29,f30,f33,f34,f35⟩
   ·rw [iteF hg40] at hx42
    simp only [hg40,qc (g:=21),qr,f31,qg,qx,qb,ww,B0,reduceIte,a8]
    obtain ⟨v48,hx49,hF50⟩:=qk hx42
    refine jf 8 (fun fr' h'=>Sep h' (geL h.length) ([])∧fr' 32 = .bool v48∧fr' 0=lst cI i6∧fr' 1 = .int .i64 l6∧fr' 7=lst cI i6∧fr' 8 = .int .i64
      (p9 i6:Int)∧fr' 9 = .int .i64 (i1:Int)∧fr' 21 = .bool ((decide (x2<0))||(decide (l6≤x2)))) (fun Q45 hN46=>?_) ?_
    ·simp only [s5,t4]
     simp only [qc (g:=24),B0,reduceIte,a8]
     refine zf (t:=(decide ((0:Int)<(i1:Int)))) (fun hg47=>?_) (fun hg47=>?_)
     ·rw [iteT hg47] at hx49
      obtain ⟨x51,hx52,hF53⟩:=qk hx49
      simp only [hg47,qc (g:=24),zu,f29,qg,f31,qx,qb,qbp,jj,B0,reduceIte,a8]
      refine qd (v := .ref (cI x51) 0) (xg hx52 rfl) ?_
      simp only [hg47,qc (g:=24),zu,ql,B0,reduceIte,a8]
      refine qd (v := .int .i64 x51) rfl ?_
      simp only [hg47,qc (g:=24),zu,f32,qg,qx,qb,qga,hg40,qc (g:=21),qr,qw,zo,qa,
        qm,B0,reduceIte,a8]
      have e54:=qj hF53
      exact hN46 _ _ ⟨hS37,by rw [←e54]; simp only [B0,reduceIte,a8],f29,f30,f33,f34,f35,by simp only [hg40,B0,reduceIte,a8]⟩
     ·rw [iteF hg47] at hx49
      simp only [hg47,qc (g:=24),kj,hg40,qc (g:=21),qr,qw,qb,zn,qa,qm,B0,reduceIte,
        a8]
      have e55:=qj hx49
      exact hN46 _ _ ⟨hS37,by rw [←e55]; simp only [B0,reduceIte,a8],f29,f30,f33,f34,f35,by simp only [hg40,B0,reduceIte,a8]⟩
    rintro fr56 h64 ⟨hS65,f57,f58,f59,f60,f61,f62,f63⟩
    simp only [s6,t3]
    simp only [f63,hg40,qw,qb,zn,f57,qa,qm,B0,reduceIte,a8]
    have e66:=qj hF50
    exact hN39 _ _ ⟨hS65,by rw [←e66]; simp only [B0,reduceIte,a8],f58,f59,f60,f61,f62⟩
  rintro fr67 h74 ⟨hS75,f68,f69,f70,f71,f72,f73⟩
  simp only [s6,t3]
  simp only [qa,f68,q8,B0,reduceIte,a8]
  refine q9 (t:=v41) (fun hc76=>?_) (fun hc76=>?_)
  ·rw [iteT hc76] at hF43
   simp only [qf,qe,qg,qa,zc,B0,reduceIte,a8]
   have e77:=qj hF43
   subst e77
   have ho78:=hr8 _ rfl
   have hk79:=hk6
   rw [ho78] at hk79
   dsimp only [jnO] at hk79
   apply hR12
   have he:=qj hk79
   subst he
   simp only [zr,B0,reduceIte,a8]
   exact rfl
  rw [iteF hc76] at hF43
  simp only [zd,qm,B0,reduceIte,a8]
  have e80:=qj hF43
  exact hN10 _ _ _ e80.symm ⟨f69,f70,f71,hS75⟩ (f73) (f72)
 rintro _ fr82 h83 rfl ⟨f85,f86,f87,hS84⟩
 dsimp only [jnO] at hk6
 unfold qie at hk6
 simp only [qf,qe,qg,qa,zc,B0,reduceIte,a8]
 have he:=qj hk6
 subst he
 simp only [zr,B0,reduceIte,a8]
 exact rfl
theorem qoo {W:Nat→Bool}{h:Heap} (hW:∀ b,
  (geL h.length) b→W b=true) (i6:List Int) (m9:Int) (r:Bool) (hF:qd6 i6 m9=some r) : Ret E W 96 [lst cI i6,
  .int .i64 m9] h (fun v h'=>cut h.length h' E.sz false 9 v=some (.bool r)):=by
 refine Ret.of (fn:=x96) rfl (Run.of ?_)
 unfold qd6 at hF
 have zf0:zk [lst cI i6,.int .i64 m9] 0=lst cI i6:=rfl
 have zf1:zk [lst cI i6,.int .i64 m9] 1 = .int .i64 m9:=rfl
 generalize zk [lst cI i6,.int .i64 m9]=fr0 at zf0 zf1 ⊢
 have hS:Sep h (geL h.length) []:=a14 h
 simp only [x96,qf,qe,qg,qa,q6a,zf0,zq,qb,z7,B0,reduceIte,a8]
 obtain ⟨oc3,hX5,hk6⟩:=kd hF
 simp only [q3b]
 refine yi (σ:=Unit) i6 (fun i1 x2 _=>qep m9 i1 x2 ) (fun s fr' h'=>fr' 1 = .int .i64 m9∧fr' 7=lst cI i6∧Sep h' (geL h.length) ([])) hX5 ⟨zf1,
   rfl,hS⟩ (by simp only [B0,reduceIte,a8]) (by simp only [B0,reduceIte,
   a8]) (fun _ _ _ h=>h) rfl rfl (fun _ _ _ _ h=>h) (fun _ _ _ _ h=>h) (fun _ _ _ _ h=>h) (by decide) ?_ ?_
 ·rintro i1 x2 _ fr15 h16 hx20 ⟨f18,f19,hS17⟩ f21 f22 oc4 hF7 hr8 Q9 hN10 hB14 hK11 hR12 hE13
  unfold qep at hF7
  simp only [q65,qf,qe,f19,f21,jj,B0,reduceIte,a8]
  refine qd (v := .ref (cI x2) 0) (yj hx20 rfl) ?_
  simp only [ql,B0,reduceIte,a8]
  refine qd (v := .int .i64 x2) rfl ?_
  simp only [qg,qa,q45,qf,qe,f18,qx,qb,ku,q8,B0,reduceIte,a8]
  refine q9 (t:=(decide (x2=m9))) (fun hc23=>?_) (fun hc23=>?_)
  ·rw [iteT hc23] at hF7
   simp only [qf,qe,qg,qa,zc,B0,reduceIte,a8]
   have e24:=qj hF7
   subst e24
   have ho25:=hr8 _ rfl
   have hk26:=hk6
   rw [ho25] at hk26
   dsimp only [jnO] at hk26
   apply hR12
   have he:=qj hk26
   subst he
   simp only [zr,B0,reduceIte,a8]
   exact rfl
  rw [iteF hc23] at hF7
  simp only [zd,qm,B0,reduceIte,a8]
  have e27:=qj hF7
  exact hN10 _ _ _ e27.symm ⟨f18,f19,hS17⟩ (f21) (f22)
 rintro _ fr29 h30 rfl ⟨f32,f33,hS31⟩
 dsimp only [jnO] at hk6
 unfold qjr at hk6
 simp only [qf,qe,qg,qa,zc,B0,reduceIte,a8]
 have he:=qj hk6
 subst he
 simp only [zr,B0,reduceIte,a8]
 exact rfl
theorem qd5 {W:Nat→Bool}{h:Heap} (hW:∀ b,
  (geL h.length) b→W b=true) (i6:List Entry) (r:Int) (hF:ut i6=some r) : Ret E W 105 [lst qh i6] h
  (fun v h'=>cut h.length h' E.sz false 9 v=some (.int .i64 r)):=by
 refine Ret.of (fn:=qr1) rfl (Run.of ?_)
 unfold ut at hF
 have zf0:zk [lst qh i6] 0=lst qh i6:=rfl
 generalize zk [lst qh i6]=fr0 at zf0 ⊢
 have hS:Sep h (geL h.length) []:=a14 h
 simp only [qr1,qf,qe,qg,qa,qvb,zf0,zq,qb,z7,qx,ku,q8,B0,reduceIte,a8]
 refine q9 (t:=(decide ((p9 i6:Int)=0))) (fun hc1=>?_) (fun hc1=>?_)
 ·rw [iteT hc1] at hF
  simp only [qf,qe,qg,qa,zc,B0,reduceIte,a8]
  have he:=qj hF
  subst he
  simp only [zr,B0,reduceIte,a8]
  exact rfl
 rw [iteF hc1] at hF
 obtain ⟨x2,hx3,hF4⟩:=qk hF
 simp only [zd,quu,qf,qe,zf0,qg,zq,qb,z7,qx,qbp,jj,B0,reduceIte,a8]
 refine qd (v := .ref (qh x2) 0) (xg hx3 rfl) ?_
 simp only [qo,qb,o7,o8,o9,qn,ql,B0,reduceIte,a8]
 refine qd (v := .int .i64 x2.Term) rfl ?_
 simp only [qg,qa,zc,B0,reduceIte,a8]
 have he:=qj hF4
 subst he
 simp only [zr,B0,reduceIte,a8]
 exact rfl
theorem qj2 {W:Nat→Bool}{h:Heap} (hW:∀ b,
  (geL h.length) b→W b=true) (l7:List Entry) (i8:List Entry) (r:Bool) (hF:qcx l7 i8=some r) : Ret E W 97 [lst qh l7,
  lst qh i8] h (fun v h'=>cut h.length h' E.sz false 9 v=some (.bool r)):=by
 refine Ret.of (fn:=x97) rfl (Run.of ?_)
 unfold qcx at hF
 have zf0:zk [lst qh l7,lst qh i8] 0=lst qh l7:=rfl
 have zf1:zk [lst qh l7,lst qh i8] 1=lst qh i8:=rfl
 generalize zk [lst qh l7,lst qh i8]=fr0 at zf0 zf1 ⊢
 have hS:Sep h (geL h.length) []:=a14 h
 obtain ⟨v1,hx2,hF3⟩:=qk hF
 simp only [x97,qf,qe,qg,qa,q20,zf0,zi,B0,reduceIte,a8]
 refine jx rfl (qt jh zm) (qd5 (fun b hb=>decide_eq_true hb) l7 v1 hx2) ?_
 obtain ⟨v4,hx5,hF6⟩:=qk hF3
 simp only [zf1,qg,zi,B0,reduceIte,a8]
 refine jx rfl (qt jh zm) (qd5 (fun b hb=>decide_eq_true hb) i8 v4 hx5) ?_
 simp only [qx,qb,ww,qg,B0,reduceIte,a8]
 obtain ⟨v10,hx11,hF12⟩:=qk hF6
 refine jf 13 (fun fr' h'=>Sep h' (geL h.length) ([])∧fr' 23 = .bool v10) (fun Q7 hN8=>?_) ?_
 ·simp only [s5,t4]
  simp only [qc (g:=10),B0,reduceIte,a8]
  refine zf (t:=(decide (v4<v1))) (fun hg9=>?_) (fun hg9=>?_)
  ·rw [iteT hg9] at hx11
   simp only [hg9,qc (g:=10),zx,qc (g:=16),qcs,qw,qb,zo,qa,qm,B0,reduceIte,a8]
   have e13:=qj hx11
   exact hN8 _ _ ⟨hS,by rw [←e13]; simp only [B0,reduceIte,a8]⟩
  ·rw [iteF hg9] at hx11
   obtain ⟨v14,hx15,hF16⟩:=qk hx11
   simp only [hg9,qc (g:=10),qr,zf0,qg,zi,B0,reduceIte,a8]
   refine jx rfl (qt jh zm) (qd5 (fun b hb=>decide_eq_true hb) l7 v14 hx15) ?_
   obtain ⟨v17,hx18,hF19⟩:=qk hF16
   simp only [hg9,qc (g:=10),qr,zf1,qg,zi,B0,reduceIte,a8]
   refine jx rfl (qt jh zm) (qd5 (fun b hb=>decide_eq_true hb) i8 v17 hx18) ?_
   simp only [hg9,qc (g:=10),qr,qx,qb,ku,qg,B0,reduceIte,a8]
   refine jf 6 (fun fr' h'=>Sep h' (geL h.length) ([])∧fr' 22 = .bool ((decide (v14=v17))&&(decide ((p9 i8:Int) ≤
     (p9 l7:Int))))∧fr' 10 = .bool (decide (v4<v1))) (fun Q20 hN21=>?_) ?_
   ·simp only [s5,t4]
    simp only [qc (g:=16),B0,reduceIte,a8]
    refine zf (t:=(decide (v14=v17))) (fun hg22=>?_) (fun hg22=>?_)
    ·simp only [hg22,qc (g:=16),zu,zf0,qg,zq,qb,z7,zf1,qx,qga,hg9,qc (g:=10),qr,qw,
      zo,qa,qm,B0,reduceIte,a8]
     exact hN21 _ _ ⟨hS,by rw [qat hg22]; simp only [B0,reduceIte,a8],by simp only [hg9,B0,reduceIte,a8]⟩
    ·simp only [hg22,qc (g:=16),kj,hg9,qc (g:=10),qr,qw,qb,zn,qa,qm,B0,reduceIte,a8]
     exact hN21 _ _ ⟨hS,by rw [qao hg22]; simp only [B0,reduceIte,a8],by simp only [hg9,B0,reduceIte,a8]⟩
   rintro fr23 h26 ⟨hS27,f24,f25⟩
   simp only [s6,t3]
   simp only [f25,hg9,qw,qb,zn,f24,qa,qm,B0,reduceIte,a8]
   have e28:=qj hF19
   exact hN8 _ _ ⟨hS27,by rw [←e28]; simp only [B0,reduceIte,a8]⟩
 rintro fr29 h31 ⟨hS32,f30⟩
 simp only [s6,t3]
 simp only [f30,qg,qa,zc,B0,reduceIte,a8]
 have he:=qj hF12
 subst he
 simp only [zr,B0,reduceIte,a8]
 exact rfl
end Go.Proofs.Ytanblnjomhgphaa.X
