/- The functions' code comes to what the plain functions say (1). -/
import Derived.Test.YtanblnjomhgphaaXAF
import Derived.Test.YtanblnjomhgphaaXAD
open Go.IntKind renaming wrap→l9
open List renaming append_assoc→r9,drop_succ_cons→s5,drop_zero→t6,length→o6,set→a0u,take_succ_cons→r8,take_zero→t8
open Nat renaming add_zero→n9,reduceAdd→n7,reduceEqDiff→a8,zero_add→n8
open Go.Proofs.Ytanblnjomhgphaa.X.Sep renaming bk→a0d,dc→a0g,m1→s9,m2→o8,m3→p9,m4→a0i,m5→v3,ni2→a07,nil→a1x,no2→a2e
open Go.Proofs.Ytanblnjomhgphaa.X.SlF renaming free1→a3i,ia→a2v,isrow→a1w,one→a0t,plen→a1o,snap→a2r
open Go.Proofs.Ytanblnjomhgphaa.X.SlG renaming cls0→a1a,cls→a20,ld→a1y,opn→a15,toN→a04
open Go.Proofs.Ytanblnjomhgphaa.X.SlN renaming nil→a2o,one→a0j,toG→a18
set_option linter.unusedVariables false
set_option linter.unusedSimpArgs false
set_option maxRecDepth 100000
set_option maxHeartbeats 1000000
namespace Go.Proofs.Ytanblnjomhgphaa.X
open Go
def Peer.R:Rep Peer:=fun x cs os=>∃ (v2:XV) (c2:List Obj) (v4:XV) (c4:List Obj),
  SlF qt 2 65 v2 x.Log c2∧SlF cI 1 3 v4 x.Match c4∧cs=[.int .i64 x.Term,.bool x.Leads,v2,.int .i64 x.Commit,v4]∧c2++(c4)=os
theorem Peer.RI {x:Peer}{v2:XV}{c2:List Obj}(h2:SlF qt 2 65 v2 x.Log c2){v4:XV}{c4:List Obj}
  (h4:SlF cI 1 3 v4 x.Match c4) : Peer.R x [.int .i64 x.Term,.bool x.Leads,v2,.int .i64 x.Commit,v4] (c2++(c4)):=⟨v2,c2,v4,c4,h2,h4,rfl,rfl⟩
theorem Peer.RO:RepOk E.sz Peer.R ze 5 where
 len:=fun {x cs os} H=>by
  obtain ⟨v2,c2,v4,c4,h2,h4,rfl,rfl⟩:=H
  rfl
 flen:=fun _=>rfl
 one:=fun {x cs os} H=>by
  obtain ⟨v2,c2,v4,c4,h2,h4,rfl,rfl⟩:=H
  exact (qk rfl (qk rfl (qk (a0t h2) (qk rfl (qk (a0t h4) zl)))))
 snap:=fun {x cs os h lo S} m H hS=>by
  obtain ⟨v2,c2,v4,c4,h2,h4,rfl,rfl⟩:=H
  have hS2:Sep h lo (c2++(c4++S)):=(by simpa only [r9] using hS)
  exact (qp zg (qp qei (qp (a2r h2 hS2 rfl (fun _=>rfl) (fun _=>rfl)) (qp zg (qp (a2r h4 (s9 hS2) rfl (fun _=>rfl)
    (fun _=>rfl)) zm)))))
 cut:=fun {x cs os h lo n0 keep S} m H hS hge=>by
  obtain ⟨v2,c2,v4,c4,h2,h4,rfl,rfl⟩:=H
  have hS2:Sep h lo (c2++(c4++S)):=(by simpa only [r9] using hS)
  exact (qp rfl (qp rfl (qp (SlF.cut h2 hS2 hge rfl (fun _=>rfl) (fun _=>rfl)) (qp rfl (qp (SlF.cut h4 (s9 hS2) hge rfl (fun _=>rfl)
    (fun _=>rfl)) zm)))))
 free:=fun {x cs os} H=>by
  obtain ⟨v2,c2,v4,c4,h2,h4,rfl,rfl⟩:=H
  exact (qk rfl (qk rfl (qk (a3i h2) (qk rfl (qk (a3i h4) zl)))))
 pf:=fun {x cs os} H=>by
  obtain ⟨v2,c2,v4,c4,h2,h4,rfl,rfl⟩:=H
  exact (yz (SlF.pf h2 (fun _=>rfl)) (SlF.pf h4 (fun _=>rfl)))
def Mail.R:Rep Mail:=fun x cs os=>∃ (v6:XV) (c6:List Obj),SlF qt 2 65 v6 x.Entry c6∧cs=[.bool x.Reply,.int .i64 x.From,.int .i64 x.To,.int .i64 x.Term,
  .int .i64 x.Prev,.int .i64 x.PTerm,v6,.int .i64 x.Commit,.int .i64 x.Match]∧c6=os
theorem Mail.RI {x:Mail}{v6:XV}{c6:List Obj}(h6:SlF qt 2 65 v6 x.Entry c6) : Mail.R x [.bool x.Reply,.int .i64 x.From,.int .i64 x.To,.int .i64 x.Term,
  .int .i64 x.Prev,.int .i64 x.PTerm,v6,.int .i64 x.Commit,.int .i64 x.Match] (c6):=⟨v6,c6,h6,rfl,rfl⟩
theorem Mail.RO:RepOk E.sz Mail.R zc 9 where
 len:=fun {x cs os} H=>by
  obtain ⟨v6,c6,h6,rfl,rfl⟩:=H
  rfl
 flen:=fun _=>rfl
 one:=fun {x cs os} H=>by
  obtain ⟨v6,c6,h6,rfl,rfl⟩:=H
  exact (qk rfl (qk rfl (qk rfl (qk rfl (qk rfl (qk rfl (qk (a0t h6) (qk rfl (qk rfl zl)))))))))
 snap:=fun {x cs os h lo S} m H hS=>by
  obtain ⟨v6,c6,h6,rfl,rfl⟩:=H
  have hS2:Sep h lo (c6++S):=(by simpa only [r9] using hS)
  exact (qp qei (qp zg (qp zg (qp zg (qp zg (qp zg (qp (a2r h6 hS2 rfl (fun _=>rfl) (fun _=>rfl))
    (qp zg (qp zg zm)))))))))
 cut:=fun {x cs os h lo n0 keep S} m H hS hge=>by
  obtain ⟨v6,c6,h6,rfl,rfl⟩:=H
  have hS2:Sep h lo (c6++S):=(by simpa only [r9] using hS)
  exact (qp rfl (qp rfl (qp rfl (qp rfl (qp rfl (qp rfl (qp (SlF.cut h6 hS2 hge rfl (fun _=>rfl) (fun _=>rfl)) (qp rfl (qp rfl zm)))))))))
 free:=fun {x cs os} H=>by
  obtain ⟨v6,c6,h6,rfl,rfl⟩:=H
  exact (qk rfl (qk rfl (qk rfl (qk rfl (qk rfl (qk rfl (qk (a3i h6) (qk rfl (qk rfl zl)))))))))
 pf:=fun {x cs os} H=>by
  obtain ⟨v6,c6,h6,rfl,rfl⟩:=H
  exact (SlF.pf h6 (fun _=>rfl))
theorem qcb {W:Nat→Bool}{h:Heap} (hW:∀ b,
  (geL h.length) b→W b=true) (l6:Int) (low_1:Int) (high_2:Int) (r:Bool) (hF:some (jh l6 low_1 high_2)=some r) : Ret E W 44 [.int .i64 l6,
  .int .i64 low_1,.int .i64 high_2] h (fun v h'=>cut h.length h' E.sz false 9 v=some (.bool r)):=by
 refine Ret.of (fn:=x44) rfl (Run.of ?_)
 unfold jh at hF
 have zf0:zf [.int .i64 l6,.int .i64 low_1,.int .i64 high_2] 0 = .int .i64 l6:=rfl
 have zf1:zf [.int .i64 l6,.int .i64 low_1,.int .i64 high_2] 1 = .int .i64 low_1:=rfl
 have zf2:zf [.int .i64 l6,.int .i64 low_1,.int .i64 high_2] 2 = .int .i64 high_2:=rfl
 generalize zf [.int .i64 l6,.int .i64 low_1,.int .i64 high_2]=fr0 at zf0 zf1 zf2 ⊢
 have hS:Sep h (geL h.length) []:=a1x h
 simp only [x44,qd,qc,qe,qa,q6c,zf0,zf1,qq,qb,qhi,B0,reduceIte,a8]
 refine ki 4 (fun fr' h'=>Sep h' (geL h.length) ([])∧fr' 14 = .bool ((decide (low_1≤l6))&&(decide (l6≤high_2)))) (fun Q1 hN2=>?_) ?_
 ·simp only [r8,t8]
  simp only [qm (g:=10),B0,reduceIte,a8]
  refine zv (t:=(decide (low_1≤l6))) (fun hg3=>?_) (fun hg3=>?_)
  ·simp only [hg3,qm (g:=10),jg,zf0,qe,zf2,qq,qb,qjo,zk,z1,qa,qr,B0,reduceIte,a8]
   exact hN2 _ _ ⟨hS,by rw [qew hg3]; simp only [B0,reduceIte,a8]⟩
  ·simp only [hg3,qm (g:=10),wd,zk,qb,zz,qa,qr,B0,reduceIte,a8]
   exact hN2 _ _ ⟨hS,by rw [qeu hg3]; simp only [B0,reduceIte,a8]⟩
 rintro fr4 h6 ⟨hS7,f5⟩
 simp only [s5,t6]
 simp only [f5,qe,qa,qx,B0,reduceIte,a8]
 have he:=qg hF
 subst he
 simp only [q9,B0,reduceIte,a8]
 exact rfl
theorem qmy {W:Nat→Bool}{h:Heap} (hW:∀ b,
  (geL h.length) b→W b=true) (peers_0:Int) (r:Raft) (hF:qe5 peers_0=some r) : Ret E W 45 [.int .i64 peers_0] h (fun v h'=>∃ i8 g9 i2 i0,
  v = .agg [i8,i2]∧SlN Peer.R 5 43 i8 r.Peers g9∧SlN Mail.R 9 86 i2 r.Mail i0∧Sep h' (geL h.length) (g9++(i0++([])))):=by
 refine Ret.of (fn:=x45) rfl (Run.of ?_)
 unfold qe5 at hF
 have zf0:zf [.int .i64 peers_0] 0 = .int .i64 peers_0:=rfl
 generalize zf [.int .i64 peers_0]=fr0 at zf0 ⊢
 have hS:Sep h (geL h.length) []:=a1x h
 simp only [x45,qd,qc,jm,B0,reduceIte,a8]
 refine z3 hS (fun b1 h2 hS3=>?_)
 simp only [qa,q65,qd,qc,run_build,evp,B0,reduceIte,a8]
 refine qf (v := .agg [.nil,.nil]) rfl ?_
 simp only [jm,B0,reduceIte,a8]
 refine z3 hS3 (fun b5 h6 hS7=>?_)
 simp only [zd,B0,reduceIte,a8]
 refine qz (us:=[.nil,.nil]) rfl (cs':=[.nil,.nil]) hS7 hW rfl rfl (nle rfl) rfl (fun h9 hS10=>?_)
 simp only [qa,q2q,qd,qc,zf0,qe,B0,reduceIte,a8]
 obtain ⟨oc23,hX25,hk26⟩:=jz hF
 simp only [q4u]
 refine qdf (σ:=Raft) (fun i21 s71=>qe2 peers_0 i21 s71) (fun s fr' h'=>∃ v18 c19,
   fr' 0 = .int .i64 peers_0∧fr' 2 = .ptr b1 0∧fr' 3 = .ptr b5 0∧SlN Peer.R 5 43 v18 s.Peers c19∧Sep h' (geL h.length) ([Blk1 b1 [.nil,.nil] 29]++([Blk1 b5 [v18,
   .nil] 29]++(c19++([]))))) hX25 ⟨.nil,[],zf0,rfl,rfl,a2o,((s9 hS10) : Sep _ (geL h.length) ([Blk1 b1 [.nil,.nil] 29]++([Blk1 b5 [.nil,
   .nil] 29]++([]))))⟩ (by simp only [B0,reduceIte,a8]) (by simp only [B0,reduceIte,
   a8]) (fun _ _ _ h=>h) rfl rfl (fun _ _ _ _ h=>h) (fun _ _ _ _ h=>h) (fun _ _ _ _ h=>h) (by decide) ?_ ?_
 ·rintro i21 s16 fr35 h36 hx41 ⟨v18,c19,f38,f39,f40,hv20,hS37⟩ f42 f43 oc24 hF27 hr28 Q29 hN30 hB34 hK31 hR32 hE33
  unfold qe2 at hF27
  simp only [q8r,z9,f40,zj,qh,n7,n8,n9,qu,zh,B0,reduceIte,a8]
  refine qo (v:=v18) ((jb (a0d _ _ _ (s9 hS37))).trans rfl) ?_
  obtain ⟨l44,hx45,hF46⟩:=qi hF27
  simp only [f38,zx,qh,qon,B0,reduceIte,a8]
  refine qiv (f:=cI) (z:=(0:Int)) hS37 hx45 rfl (fun v47 c48 h49 hv50 hS51=>?_)
  simp only [qfc,evp,B0,reduceIte,a8]
  refine qo (v := .agg [.int .i64 0,.bool false,.nil,.int .i64 0,v47]) (qke (qd1 (us:=[v47]) (vs:=[.int .i64 0,.bool false,.nil,.int .i64 0,
    v47]) (jj (a0t hv50)) rfl (nle rfl) (qk (a0t hv50) zl) rfl qd2)) ?_
  simp only [qbc,evp,B0,reduceIte,a8]
  refine qd5 (R:=Peer.R) (n:=5) (cs:=[.int .i64 0,.bool false,.nil,.int .i64 0,
    v47]) (os:=[]++(c48)) (Sep.bi2 (c1:=[]) (c2:=c48) (S:=([Blk1 b1 [.nil,.nil] 29]++([Blk1 b5 [v18,
    .nil] 29]++(c19++([]))))) (hS51:Sep _ (geL h.length) (c48++([Blk1 b1 [.nil,.nil] 29]++([Blk1 b5 [v18,
    .nil] 29]++(c19++([]))))))) (qd1 (us:=[.int .i64 0,.bool false,.nil,.int .i64 0,v47]) (vs:=[.int .i64 0,.bool false,.nil,.int .i64 0,
    v47]) rfl rfl (nle rfl) (qk rfl (qk rfl (qk rfl (qk rfl (qk (a0t hv50) zl))))) rfl qd2) (Peer.RI (x :=
    (Peer.mk 0 false [] 0 l44)) SlF.nil hv50) rfl (fun v53 c54 h55 hv56 hS57=>?_)
  simp only [qfz,B0,reduceIte,a8]
  obtain ⟨l59,hx60,hF61⟩:=qi hF46
  refine qgp (R:=Peer.R) (c:=c19) hv20 hv56 (p9 hS57) hW Peer.RO.len Peer.RO.one hx60 (fun v62 c63 h64 hv65 hS66=>?_)
  simp only [f40,zj,qh,n7,n8,n9,qu,xx,B0,reduceIte,a8]
  refine u9 (us:=[v62]) (jj (a0j hv65)) (cs':=[v62,.nil]) (o8 hS66) hW rfl (qk (a0j hv65) zl) (nle rfl) rfl (fun h68 hS69=>?_)
  simp only [za,qr,B0,reduceIte,a8]
  have e70:=qg hF61
  exact hN30 _ _ _ e70.symm ⟨v62,c63,f38,f39,f40,hv65,(o8 (s9 (s9 hS69)))⟩ (f42) (f43)
 rintro s72 fr77 h78 rfl ⟨v74,c75,f80,f81,f82,hv76,hS79⟩
 dsimp only [jnO] at hk26
 unfold qhv at hk26
 simp only [qd,qc,f82,qj,B0,reduceIte,a8]
 refine qf (v := .agg [v74,.nil]) ((zq (a0d _ _ _ (s9 hS79))).trans rfl) ?_
 simp only [f81,zd,B0,reduceIte,a8]
 refine qz (us:=[v74,.nil]) rfl (cs':=[v74,.nil]) hS79 hW rfl (qk (a0j hv76) (qk rfl zl)) (nle rfl) rfl (fun h83 hS84=>?_)
 simp only [qa,qx,B0,reduceIte,a8]
 have he:=qg hk26
 subst he
 refine ym (bb:=b1) (oo:=0) (v := .agg [v74,.nil]) (by simp only [f81,B0,reduceIte,a8]) ((zq (a0d _ _ _ hS84)).trans rfl) ?_
 exact ⟨v74,c75,.nil,[],by first | trivial | rfl,hv76,a2o,((a0g ((a0g (hS84)))) : Sep _ (geL h.length) (c75++([])))⟩
theorem qla {W:Nat→Bool}{h:Heap} (hW:∀ b,
  (geL h.length) b→W b=true) (r_0:Raft) (r:Raft) (hF:qcl r_0=some r) : Ret E W 71 [.agg [lst ze r_0.Peers,
  lst zc r_0.Mail]] h (fun v h'=>∃ i8 g9 i2 i0,v = .agg [i8,
  i2]∧SlN Peer.R 5 43 i8 r.Peers g9∧SlN Mail.R 9 86 i2 r.Mail i0∧Sep h' (geL h.length) (g9++(i0++([])))):=by
 refine Ret.of (fn:=x71) rfl (Run.of ?_)
 unfold qcl at hF
 have zf0:zf [.agg [lst ze r_0.Peers,lst zc r_0.Mail]] 0 = .agg [lst ze r_0.Peers,lst zc r_0.Mail]:=rfl
 generalize zf [.agg [lst ze r_0.Peers,lst zc r_0.Mail]]=fr0 at zf0 ⊢
 have hS:Sep h (geL h.length) []:=a1x h
 simp only [x71,qd,qc,kt,zf0,B0,reduceIte,a8]
 refine j0 (cs:=[lst ze r_0.Peers,lst zc r_0.Mail]) hS rfl rfl rfl (fun b1 h2 hS3=>?_)
 simp only [jm,B0,reduceIte,a8]
 refine z3 hS3 (fun b5 h6 hS7=>?_)
 simp only [qa,B0,reduceIte,a8]
 refine z8 (s9 hS7) hW (by simp only [B0,reduceIte,a8]) (fun h9 hS10=>?_)
 simp only [z7,qwb,qd,qc,run_build,evp,B0,reduceIte,a8]
 refine qf (v := .agg [.nil,.nil]) rfl ?_
 simp only [jm,B0,reduceIte,a8]
 refine z3 hS10 (fun b11 h12 hS13=>?_)
 simp only [zd,B0,reduceIte,a8]
 refine qz (us:=[.nil,.nil]) rfl (cs':=[.nil,.nil]) hS13 hW rfl rfl (nle rfl) rfl (fun h15 hS16=>?_)
 simp only [qa,qth,qd,qc,ql,qb,n7,n8,n9,qn,qj,B0,reduceIte,a8]
 refine qf (v:=lst ze r_0.Peers) rfl ?_
 simp only [zr,qb,ja,qe,qa,B0,reduceIte,a8]
 obtain ⟨oc29,hX31,hk32⟩:=jz hF
 simp only [q3l]
 refine qao (σ:=Raft) r_0.Peers (fun i27 x28 s109=>qah i27 x28 s109) (fun s fr' h'=>∃ v24 c25,fr' 1 = .ref [lst ze r_0.Peers,
   lst zc r_0.Mail] 0∧fr' 2 = .ptr b5 0∧fr' 3 = .ptr b11 0∧fr' 10=lst ze r_0.Peers∧SlN Peer.R 5 43 v24 s.Peers c25∧Sep h' (geL h.length)
   ([Blk1 b5 [.nil,.nil] 29]++([Blk1 b11 [v24,.nil] 29]++(c25++([]))))) hX31 ⟨.nil,[],rfl,rfl,rfl,rfl,a2o,
   ((s9 hS16) : Sep _ (geL h.length) ([Blk1 b5 [.nil,.nil] 29]++([Blk1 b11 [.nil,.nil] 29]++([]))))⟩ (by simp only [B0,reduceIte,a8]) (by simp only [B0,
   reduceIte,a8]) (fun _ _ _ h=>h) rfl rfl (fun _ _ _ _ h=>h) (fun _ _ _ _ h=>h) (fun _ _ _ _ h=>h) (by decide) ?_ ?_
 ·rintro i27 x28 s22 fr41 h42 hx48 ⟨v24,c25,f44,f45,f46,f47,hv26,hS43⟩ f49 f50 oc30 hF33 hr34 Q35 hN36 hB40 hK37 hR38 hE39
  unfold qah at hF33
  simp only [q6v,qd,qc,f47,f49,zu,B0,reduceIte,a8]
  refine qf (v := .ref (ze x28) 0) (qam hx48 rfl) ?_
  simp only [qj,B0,reduceIte,a8]
  refine qf (v := .agg [.int .i64 x28.Term,.bool x28.Leads,lst qt x28.Log,.int .i64 x28.Commit,lst cI x28.Match]) rfl ?_
  simp only [jm,B0,reduceIte,a8]
  refine z3 hS43 (fun b51 h52 hS53=>?_)
  simp only [zd,B0,reduceIte,a8]
  refine qz (us:=[.int .i64 x28.Term,.bool x28.Leads,lst qt x28.Log,.int .i64 x28.Commit,lst cI x28.Match]) rfl (cs':=[.int .i64 x28.Term,
    .bool x28.Leads,lst qt x28.Log,.int .i64 x28.Commit,lst cI x28.Match]) hS53 hW rfl rfl (nle rfl) rfl (fun h55 hS56=>?_)
  simp only [qa,q9x,qd,qc,kc,evp,B0,reduceIte,a8]
  refine ku (n:=2) (f:=qt) ([] : List Entry) hS56 rfl rfl (fun v57 c58 h59 hv60 hS61=>?_)
  simp only [ql,qb,n7,n8,n9,qu,qj,B0,reduceIte,a8]
  refine qf (v:=lst qt x28.Log) ((jb (a0d _ _ _ (s9 hS61))).trans rfl) ?_
  simp only [wc,B0,reduceIte,a8]
  obtain ⟨l63,hx64,hF65⟩:=qi hF33
  refine ws (f:=qt) hv60 hS61 hW (fun _=>rfl) (fun _=>rfl) (qct (fun _=>rfl)) hx64 (fun v66 c67 h68 hv69 hS70=>?_)
  simp only [ql,qb,n7,n8,n9,qu,zd,B0,reduceIte,a8]
  refine qz (us:=[v66]) (jj (a0t hv69)) (cs':=[.int .i64 x28.Term,.bool x28.Leads,v66,.int .i64 x28.Commit,
    lst cI x28.Match]) (s9 hS70) hW rfl (qk (a0t hv69) zl) (nle rfl) rfl (fun h72 hS73=>?_)
  simp only [qa,q5y,qd,qc,kc,evp,B0,reduceIte,a8]
  refine ku (n:=1) (f:=cI) ([] : List Int) hS73 rfl rfl (fun v74 c75 h76 hv77 hS78=>?_)
  simp only [ql,qb,n7,n8,n9,qu,qj,B0,reduceIte,a8]
  refine qf (v:=lst cI x28.Match) ((jb (a0d _ _ _ (s9 hS78))).trans rfl) ?_
  simp only [wc,B0,reduceIte,a8]
  obtain ⟨l80,hx81,hF82⟩:=qi hF65
  refine ws (f:=cI) hv77 hS78 hW (fun _=>rfl) (fun _=>rfl) (qct (fun _=>rfl)) hx81 (fun v83 c84 h85 hv86 hS87=>?_)
  simp only [ql,qb,n7,n8,n9,qu,zd,B0,reduceIte,a8]
  refine qz (us:=[v83]) (jj (a0t hv86)) (cs':=[.int .i64 x28.Term,.bool x28.Leads,v66,.int .i64 x28.Commit,
    v83]) (s9 hS87) hW rfl (qk (a0t hv86) zl) (nle rfl) rfl (fun h89 hS90=>?_)
  simp only [qa,q39,qc,f46,ql,qb,n7,n8,n9,qu,qj,B0,reduceIte,a8]
  refine qf (v:=v24) ((jb (a0d _ _ _ (a0i hS90))).trans rfl) ?_
  simp only [qj,B0,reduceIte,a8]
  refine qf (v := .agg [.int .i64 x28.Term,.bool x28.Leads,v66,.int .i64 x28.Commit,v83]) ((zq (a0d _ _ _ hS90)).trans rfl) ?_
  simp only [kc,evp,B0,reduceIte,a8]
  refine uc (R:=Peer.R) (n:=5) (cs:=[.int .i64 x28.Term,.bool x28.Leads,v66,.int .i64 x28.Commit,
    v83]) (os:=c67++(c84)) (Sep.bi2 (c1:=c67) (c2:=c84) (o8 (s9 hS90))) (qd1 (us:=[.int .i64 x28.Term,.bool x28.Leads,v66,.int .i64 x28.Commit,
    v83]) (vs:=[.int .i64 x28.Term,.bool x28.Leads,v66,.int .i64 x28.Commit,
    v83]) rfl rfl (nle rfl) (qk rfl (qk rfl (qk (a0t hv69) (qk rfl (qk (a0t hv86) zl))))) rfl qd2) (Peer.RI (x :=
    (Peer.mk x28.Term x28.Leads l63 x28.Commit l80)) hv69 hv86) rfl (fun v91 c92 h93 hv94 hS95=>?_)
  simp only [wc,B0,reduceIte,a8]
  obtain ⟨l97,hx98,hF99⟩:=qi hF82
  refine qa6 (R:=Peer.R) (c:=c25) hv26 hv94 (a0i hS95) hW Peer.RO.len Peer.RO.one hx98 (fun v100 c101 h102 hv103 hS104=>?_)
  simp only [f46,ql,qb,n7,n8,n9,qu,zd,B0,reduceIte,a8]
  refine qz (us:=[v100]) (jj (a0j hv103)) (cs':=[v100,.nil]) (p9 hS104) hW rfl (qk (a0j hv103) zl) (nle rfl) rfl (fun h106 hS107=>?_)
  simp only [qa,qr,B0,reduceIte,a8]
  have e108:=qg hF99
  exact hN36 _ _ _ e108.symm ⟨v100,c101,f44,f45,f46,f47,hv103,(o8 (s9 (s9 (a0g (o8 hS107)))))⟩ (f49) (f50)
 rintro s110 fr115 h116 rfl ⟨v112,c113,f118,f119,f120,f121,hv114,hS117⟩
 dsimp only [jnO] at hk32
 unfold qee at hk32
 simp only [qyg,qd,qc,f118,ql,qb,n7,n8,n9,qn,qj,B0,reduceIte,a8]
 refine qf (v:=lst zc r_0.Mail) rfl ?_
 simp only [zr,qb,ja,qe,qa,B0,reduceIte,a8]
 obtain ⟨oc134,hX136,hk137⟩:=jz hk32
 simp only [qs0]
 refine qao (σ:=Raft) r_0.Mail (fun i132 x133 s196=>qai s110 i132 x133 s196) (fun s fr' h'=>∃ v129 c130,
   fr' 2 = .ptr b5 0∧fr' 3 = .ptr b11 0∧fr' 34=lst zc r_0.Mail∧SlN Mail.R 9 86 v129 s.Mail c130∧Sep h' (geL h.length) ([Blk1 b5 [.nil,
   .nil] 29]++([Blk1 b11 [v112,v129] 29]++(c113++(c130++([])))))) hX136 ⟨.nil,[],f119,f120,rfl,a2o,
   ((o8 (o8 (o8 hS117))) : Sep _ (geL h.length) ([Blk1 b5 [.nil,.nil] 29]++([Blk1 b11 [v112,.nil] 29]++(c113++([])))))⟩ (by simp only [B0,reduceIte,
   a8]) (by simp only [B0,reduceIte,a8]) (fun _ _ _ h=>h) rfl rfl (fun _ _ _ _ h=>h) (fun _ _ _ _ h=>h) (fun _ _ _ _ h=>h) (by decide) ?_ ?_
 ·rintro i132 x133 s127 fr146 h147 hx152 ⟨v129,c130,f149,f150,f151,hv131,hS148⟩ f153 f154 oc135 hF138 hr139 Q140 hN141 hB145 hK142 hR143 hE144
  unfold qai at hF138
  simp only [q3r,qd,qc,f151,f153,zu,B0,reduceIte,a8]
  refine qf (v := .ref (zc x133) 0) (qam hx152 rfl) ?_
  simp only [qj,B0,reduceIte,a8]
  refine qf (v := .agg [.bool x133.Reply,.int .i64 x133.From,.int .i64 x133.To,.int .i64 x133.Term,.int .i64 x133.Prev,.int .i64 x133.PTerm,
    lst qt x133.Entry,.int .i64 x133.Commit,.int .i64 x133.Match]) rfl ?_
  simp only [jm,B0,reduceIte,a8]
  refine z3 hS148 (fun b155 h156 hS157=>?_)
  simp only [zd,B0,reduceIte,a8]
  refine qz (us:=[.bool x133.Reply,.int .i64 x133.From,.int .i64 x133.To,.int .i64 x133.Term,.int .i64 x133.Prev,.int .i64 x133.PTerm,lst qt x133.Entry,
    .int .i64 x133.Commit,.int .i64 x133.Match]) rfl (cs':=[.bool x133.Reply,.int .i64 x133.From,.int .i64 x133.To,.int .i64 x133.Term,.int .i64 x133.Prev,
    .int .i64 x133.PTerm,lst qt x133.Entry,.int .i64 x133.Commit,.int .i64 x133.Match]) hS157 hW rfl rfl (nle rfl) rfl (fun h159 hS160=>?_)
  simp only [qa,q2y,qd,qc,kc,evp,B0,reduceIte,a8]
  refine ku (n:=2) (f:=qt) ([] : List Entry) hS160 rfl rfl (fun v161 c162 h163 hv164 hS165=>?_)
  simp only [ql,qb,n7,n8,n9,qu,qj,B0,reduceIte,a8]
  refine qf (v:=lst qt x133.Entry) ((jb (a0d _ _ _ (s9 hS165))).trans rfl) ?_
  simp only [wc,B0,reduceIte,a8]
  obtain ⟨l167,hx168,hF169⟩:=qi hF138
  refine ws (f:=qt) hv164 hS165 hW (fun _=>rfl) (fun _=>rfl) (qct (fun _=>rfl)) hx168 (fun v170 c171 h172 hv173 hS174=>?_)
  simp only [ql,qb,n7,n8,n9,qu,zd,B0,reduceIte,a8]
  refine qz (us:=[v170]) (jj (a0t hv173)) (cs':=[.bool x133.Reply,.int .i64 x133.From,.int .i64 x133.To,.int .i64 x133.Term,.int .i64 x133.Prev,
    .int .i64 x133.PTerm,v170,.int .i64 x133.Commit,.int .i64 x133.Match]) (s9 hS174) hW rfl (qk (a0t hv173) zl) (nle rfl) rfl (fun h176 hS177=>?_)
  simp only [qa,q8p,qc,f150,ql,qb,n7,n8,n9,qu,qj,B0,reduceIte,a8]
  refine qf (v:=v129) ((jb (a0d _ _ _ (p9 hS177))).trans rfl) ?_
  simp only [qj,B0,reduceIte,a8]
  refine qf (v := .agg [.bool x133.Reply,.int .i64 x133.From,.int .i64 x133.To,.int .i64 x133.Term,.int .i64 x133.Prev,.int .i64 x133.PTerm,v170,
    .int .i64 x133.Commit,.int .i64 x133.Match]) ((zq (a0d _ _ _ hS177)).trans rfl) ?_
  simp only [kc,evp,B0,reduceIte,a8]
  refine uc (R:=Mail.R) (n:=9) (cs:=[.bool x133.Reply,.int .i64 x133.From,.int .i64 x133.To,.int .i64 x133.Term,.int .i64 x133.Prev,.int .i64 x133.PTerm,
    v170,.int .i64 x133.Commit,.int .i64 x133.Match]) (os:=c171) (s9 hS177) (qd1 (us:=[.bool x133.Reply,.int .i64 x133.From,.int .i64 x133.To,
    .int .i64 x133.Term,.int .i64 x133.Prev,.int .i64 x133.PTerm,v170,.int .i64 x133.Commit,.int .i64 x133.Match]) (vs:=[.bool x133.Reply,.int .i64 x133.From,
    .int .i64 x133.To,.int .i64 x133.Term,.int .i64 x133.Prev,.int .i64 x133.PTerm,v170,.int .i64 x133.Commit,
    .int .i64 x133.Match]) rfl rfl (nle rfl) (qk rfl (qk rfl (qk rfl (qk rfl (qk rfl (qk rfl (qk (a0t hv173) (qk rfl
    (qk rfl zl))))))))) rfl qd2) (Mail.RI (x:=(Mail.mk x133.Reply x133.From x133.To x133.Term x133.Prev x133.PTerm l167 x133.Commit x133.Match)) hv173) rfl
    (fun v178 c179 h180 hv181 hS182=>?_)
  simp only [wc,B0,reduceIte,a8]
  obtain ⟨l184,hx185,hF186⟩:=qi hF169
  refine qa6 (R:=Mail.R) (c:=c130) hv131 hv181 (v3 hS182) hW Mail.RO.len Mail.RO.one hx185 (fun v187 c188 h189 hv190 hS191=>?_)
  simp only [f150,ql,qb,n7,n8,n9,qu,zd,B0,reduceIte,a8]
  refine qz (us:=[v187]) (jj (a0j hv190)) (cs':=[v112,v187]) (p9 hS191) hW rfl (qk (a0j hv190) zl) (nle rfl) rfl (fun h193 hS194=>?_)
  simp only [qa,qr,B0,reduceIte,a8]
  have e195:=qg hF186
  exact hN141 _ _ _ e195.symm ⟨v187,c188,f149,f150,f151,hv190,(p9 (o8 (p9 (s9 (a0g (o8 hS194))))))⟩ (f153) (f154)
 rintro s197 fr202 h203 rfl ⟨v199,c200,f205,f206,f207,hv201,hS204⟩
 dsimp only [jnO] at hk137
 unfold qg1 at hk137
 simp only [qd,qc,f206,qj,B0,reduceIte,a8]
 refine qf (v := .agg [v112,v199]) ((zq (a0d _ _ _ (s9 hS204))).trans rfl) ?_
 simp only [f205,zd,B0,reduceIte,a8]
 refine qz (us:=[v112,v199]) rfl (cs':=[v112,v199]) hS204 hW rfl (qk (a0j hv114) (qk (a0j hv201) zl)) (nle rfl) rfl (fun h208 hS209=>?_)
 simp only [qa,qx,B0,reduceIte,a8]
 have he:=qg hk137
 subst he
 refine ym (bb:=b5) (oo:=0) (v := .agg [v112,v199]) (by simp only [f205,B0,reduceIte,a8]) ((zq (a0d _ _ _ hS209)).trans rfl) ?_
 exact ⟨v112,c113,v199,c200,by first | trivial | rfl,hv114,hv201,(s9 (s9 (a0g ((a0g (hS209))))))⟩
theorem qpf {W:Nat→Bool}{h:Heap} (hW:∀ b,
  (geL h.length) b→W b=true) (i3:Int) (r:Int) (hF:qeg i3=some r) : Ret E W 103 [.int .u32 i3] h
  (fun v h'=>cut h.length h' E.sz false 9 v=some (.int .i64 r)):=by
 refine Ret.of (fn:=qrl) rfl (Run.of ?_)
 unfold qeg at hF
 have zf0:zf [.int .u32 i3] 0 = .int .u32 i3:=rfl
 generalize zf [.int .u32 i3]=fr0 at zf0 ⊢
 have hS:Sep h (geL h.length) []:=a1x h
 obtain ⟨y1,hx2,hF3⟩:=qi hF
 simp only [qrl,qd,qc,qe,qa,qwc,z9,zf0,zx,qh,kd,uo (n:=24) (by decide),qjv,B0,reduceIte,a8]
 refine qo (qix hx2) ?_
 obtain ⟨y4,hx5,hF6⟩:=qi hF3
 simp only [zf0,zx,qh,kd,uo (n:=16) (by decide),qf8,qjv,B0,reduceIte,a8]
 refine qo (qix hx5) ?_
 obtain ⟨y7,hx8,hF9⟩:=qi hF6
 simp only [kd,qh,j8,zf0,zx,uo (n:=8) (by decide),qf8,qjv,B0,reduceIte,a8]
 refine qo (qix hx8) ?_
 obtain ⟨y10,hx11,hF12⟩:=qi hF9
 simp only [kd,qh,j8,zf0,zx,qf8,qjv,B0,reduceIte,a8]
 refine qo (qix hx11) ?_
 simp only [kd,qh,j8,zdn,qjg,zx,za,qx,B0,reduceIte,a8]
 have he:=qg hF12
 subst he
 simp only [q9,B0,reduceIte,a8]
 exact rfl
theorem qhj {W:Nat→Bool}{h:Heap} (hW:∀ b,
  (geL h.length) b→W b=true) (i3:Int) (r:Int) (hF:some (qb0 i3)=some r) : Ret E W 104 [.int .u64 i3] h
  (fun v h'=>cut h.length h' E.sz false 9 v=some (.int .i64 r)):=by
 refine Ret.of (fn:=qdo) rfl (Run.of ?_)
 unfold qb0 at hF
 have zf0:zf [.int .u64 i3] 0 = .int .u64 i3:=rfl
 generalize zf [.int .u64 i3]=fr0 at zf0 ⊢
 have hS:Sep h (geL h.length) []:=a1x h
 simp only [qdo,qd,qc,qe,qa,qxg,zf0,qq,qb,uo (n:=1) (by decide),qf8,j8,qyn,uo (n:=2) (by decide),
   qu4,uo (n:=4) (by decide),qta,uo (n:=8) (by decide),qtr,uo (n:=16) (by decide),qzo,uo (n:=32) (by decide),qtq,qjz,
   qjg,qx,B0,reduceIte,a8]
 have he:=qg hF
 subst he
 simp only [q9,B0,reduceIte,a8]
 exact rfl
theorem qik {W:Nat→Bool}{h:Heap} (hW:∀ b,
  (geL h.length) b→W b=true) (i3:Int) (r:Int) (hF:some (ko i3)=some r) : Ret E W 89 [.int .u64 i3] h
  (fun v h'=>cut h.length h' E.sz false 9 v=some (.int .i64 r)):=by
 refine Ret.of (fn:=x89) rfl (Run.of ?_)
 unfold ko at hF
 have zf0:zf [.int .u64 i3] 0 = .int .u64 i3:=rfl
 generalize zf [.int .u64 i3]=fr0 at zf0 ⊢
 have hS:Sep h (geL h.length) []:=a1x h
 simp only [x89,qd,qc,qe,qa,q33,qv,qit,qw,zf0,zp,B0,reduceIte,a8]
 refine kh rfl (qp zg zm) (qhj (fun b hb=>decide_eq_true hb) i3 _ rfl) ?_
 simp only [qe,qa,qx,B0,reduceIte,a8]
 have he:=qg hF
 subst he
 simp only [q9,B0,reduceIte,a8]
 exact rfl
theorem qig {W:Nat→Bool}{h:Heap} (hW:∀ b,
  (geL h.length) b→W b=true) (i7:List Entry) (r:List Int) (hF:qb8 i7=some r) : Ret E W 90 [lst qt i7] h
  (fun v h'=>cut h.length h' E.sz false 9 v=some (lst cI r)):=by
 refine Ret.of (fn:=x90) rfl (Run.of ?_)
 unfold qb8 at hF
 have zf0:zf [lst qt i7] 0=lst qt i7:=rfl
 generalize zf [lst qt i7]=fr0 at zf0 ⊢
 have hS:Sep h (geL h.length) []:=a1x h
 simp only [x90,qd,qc,qe,qa,q3j,kc,evp,B0,reduceIte,a8]
 refine ku (n:=1) (f:=cI) ([] : List Int) hS rfl rfl (fun v1 c2 h3 hv4 hS5=>?_)
 simp only [qe,qa,q2e,qd,qc,zf0,zr,qb,ja,B0,reduceIte,a8]
 obtain ⟨oc19,hX21,hk22⟩:=jz hF
 simp only [q85]
 refine qao (σ:=(List Int)) i7 (fun i17 x18 s63=>qcx i17 x18 s63) (fun s fr' h'=>∃ v14 c15,
   fr' 3=v14∧fr' 7=lst qt i7∧SlF cI 1 3 v14 s c15∧Sep h' (geL h.length) (c15++([]))) hX21 ⟨v1,c2,rfl,rfl,hv4,hS5⟩ (by simp only [B0,reduceIte,
   a8]) (by simp only [B0,reduceIte,a8]) (fun _ _ _ h=>h) rfl rfl (fun _ _ _ _ h=>h) (fun _ _ _ _ h=>h) (fun _ _ _ _ h=>h) (by decide) ?_ ?_
 ·rintro i17 x18 s12 fr31 h32 hx36 ⟨v14,c15,f34,f35,hv16,hS33⟩ f37 f38 oc20 hF23 hr24 Q25 hN26 hB30 hK27 hR28 hE29
  unfold qcx at hF23
  simp only [q74,qd,qc,f35,f37,zu,B0,reduceIte,a8]
  refine qf (v := .ref (qt x18) 0) (qam hx36 rfl) ?_
  simp only [qj,B0,reduceIte,a8]
  refine qf (v := .agg [.int .i64 x18.Term,.int .i64 x18.Value]) rfl ?_
  simp only [jm,B0,reduceIte,a8]
  refine z3 hS33 (fun b39 h40 hS41=>?_)
  simp only [zd,B0,reduceIte,a8]
  refine qz (us:=[.int .i64 x18.Term,.int .i64 x18.Value]) rfl (cs':=[.int .i64 x18.Term,.int .i64 x18.Value]) hS41 hW rfl rfl (nle rfl) rfl (fun h43 hS44=>?_)
  simp only [qa,B0,reduceIte,a8]
  refine z8 hS44 hW (by simp only [B0,reduceIte,a8]) (fun h45 hS46=>?_)
  simp only [z7,q6n,qc,f34,qe,ql,qb,n7,n8,n9,qn,qj,B0,reduceIte,a8]
  refine qf (v := .int .i64 x18.Term) rfl ?_
  simp only [kc,evp,B0,reduceIte,a8]
  refine ku (n:=1) (f:=cI) [x18.Term] hS46 rfl rfl (fun v47 c48 h49 hv50 hS51=>?_)
  simp only [wc,B0,reduceIte,a8]
  obtain ⟨l53,hx54,hF55⟩:=qi hF23
  refine ws (f:=cI) hv16 (s9 hS51) hW (fun _=>rfl) (fun _=>rfl) (SlF.first hv50 hS51 (fun _=>rfl)) hx54 (fun v56 c57 h58 hv59 hS60=>?_)
  simp only [qe,qa,qr,B0,reduceIte,a8]
  have e62:=qg hF55
  exact hN26 _ _ _ e62.symm ⟨v56,c57,rfl,f35,hv59,(a0g (s9 hS60))⟩ (f37) (f38)
 rintro s64 fr69 h70 rfl ⟨v66,c67,f72,f73,hv68,hS71⟩
 dsimp only [jnO] at hk22
 unfold qhx at hk22
 simp only [qd,qc,f72,qe,qa,qx,B0,reduceIte,a8]
 have he:=qg hk22
 subst he
 simp only [q9,B0,reduceIte,a8]
 exact (SlF.cut hv68 hS71 (fun _ hb=>hb) rfl (fun _=>rfl) (fun _=>rfl))
theorem qf9 {W:Nat→Bool}{h:Heap} (hW:∀ b,
  (geL h.length) b→W b=true) (i7:List Int) (r:Int) (hF:qbd i7=some r) : Ret E W 92 [lst cI i7] h (fun v h'=>cut h.length h' E.sz false 9 v=some
  (.int .i64 r)):=by
 refine Ret.of (fn:=x92) rfl (Run.of ?_)
 unfold qbd at hF
 have zf0:zf [lst cI i7] 0=lst cI i7:=rfl
 generalize zf [lst cI i7]=fr0 at zf0 ⊢
 have hS:Sep h (geL h.length) []:=a1x h
 simp only [x92,qd,qc,qe,qa,q9d,zf0,zr,qb,ja,qq,yh,qv,B0,reduceIte,a8]
 refine qs (t:=(decide ((o6 i7:Int)=0))) (fun hc1=>?_) (fun hc1=>?_)
 ·rw [iteT hc1] at hF
  simp only [qd,qc,qe,qa,qx,B0,reduceIte,a8]
  have he:=qg hF
  subst he
  simp only [q9,B0,reduceIte,a8]
  exact rfl
 rw [iteF hc1] at hF
 obtain ⟨x2,hx3,hF4⟩:=qi hF
 simp only [qw,q8n,qd,qc,zf0,qe,zr,qb,ja,qq,qer,zu,B0,reduceIte,a8]
 refine qf (v := .ref (cI x2) 0) (j9 hx3 rfl) ?_
 simp only [qj,B0,reduceIte,a8]
 refine qf (v := .int .i64 x2) rfl ?_
 simp only [qe,qa,qx,B0,reduceIte,a8]
 have he:=qg hF4
 subst he
 simp only [q9,B0,reduceIte,a8]
 exact rfl
theorem qlm {W:Nat→Bool}{h:Heap} (hW:∀ b,
  (geL h.length) b→W b=true) (last_0:Int) (long_1:Int) (b_2:List Int) (r:Bool) (hF:qcm last_0 long_1 b_2=some r) : Ret E W 91 [.int .i64 last_0,
  .int .i64 long_1,lst cI b_2] h (fun v h'=>cut h.length h' E.sz false 9 v=some (.bool r)):=by
 refine Ret.of (fn:=x91) rfl (Run.of ?_)
 unfold qcm at hF
 have zf0:zf [.int .i64 last_0,.int .i64 long_1,lst cI b_2] 0 = .int .i64 last_0:=rfl
 have zf1:zf [.int .i64 last_0,.int .i64 long_1,lst cI b_2] 1 = .int .i64 long_1:=rfl
 have zf2:zf [.int .i64 last_0,.int .i64 long_1,lst cI b_2] 2=lst cI b_2:=rfl
 generalize zf [.int .i64 last_0,.int .i64 long_1,lst cI b_2]=fr0 at zf0 zf1 zf2 ⊢
 have hS:Sep h (geL h.length) []:=a1x h
 obtain ⟨v1,hx2,hF3⟩:=qi hF
 simp only [x91,qd,qc,qe,qa,q24,zf0,zf2,zp,B0,reduceIte,a8]
 refine kh rfl (qp jo zm) (qf9 (fun b hb=>decide_eq_true hb) b_2 v1 hx2) ?_
 simp only [qq,qb,ur,qe,B0,reduceIte,a8]
 obtain ⟨v7,hx8,hF9⟩:=qi hF3
 refine ki 11 (fun fr' h'=>Sep h' (geL h.length) ([])∧fr' 22 = .bool v7) (fun Q4 hN5=>?_) ?_
 ·simp only [r8,t8]
  simp only [qm (g:=11),B0,reduceIte,a8]
  refine zv (t:=(decide (v1<last_0))) (fun hg6=>?_) (fun hg6=>?_)
  ·rw [iteT hg6] at hx8
   simp only [hg6,qm (g:=11),jp,qm (g:=16),qf7,zk,qb,z1,qa,qr,B0,reduceIte,a8]
   have e10:=qg hx8
   exact hN5 _ _ ⟨hS,by rw [←e10]; simp only [B0,reduceIte,a8]⟩
  ·rw [iteF hg6] at hx8
   obtain ⟨v11,hx12,hF13⟩:=qi hx8
   simp only [hg6,qm (g:=11),zi,zf0,qe,zf2,zp,B0,reduceIte,a8]
   refine kh rfl (qp jo zm) (qf9 (fun b hb=>decide_eq_true hb) b_2 v11 hx12) ?_
   simp only [hg6,qm (g:=11),zi,qq,qb,yh,qe,B0,reduceIte,a8]
   refine ki 5 (fun fr' h'=>Sep h' (geL h.length) ([])∧fr' 21 = .bool ((decide (last_0=v11))&&(decide ((o6 b_2:Int)≤long_1)))∧fr' 11 = .bool (decide
     (v1<last_0))) (fun Q14 hN15=>?_) ?_
   ·simp only [r8,t8]
    simp only [qm (g:=16),B0,reduceIte,a8]
    refine zv (t:=(decide (last_0=v11))) (fun hg16=>?_) (fun hg16=>?_)
    ·simp only [hg16,qm (g:=16),jg,zf1,qe,zf2,zr,qb,ja,qq,qhi,hg6,qm (g:=11),zi,zk,
      z1,qa,qr,B0,reduceIte,a8]
     exact hN15 _ _ ⟨hS,by rw [qew hg16]; simp only [B0,reduceIte,a8],by simp only [hg6,B0,reduceIte,a8]⟩
    ·simp only [hg16,qm (g:=16),wd,hg6,qm (g:=11),zi,zk,qb,zz,qa,qr,B0,reduceIte,a8]
     exact hN15 _ _ ⟨hS,by rw [qeu hg16]; simp only [B0,reduceIte,a8],by simp only [hg6,B0,reduceIte,a8]⟩
   rintro fr17 h20 ⟨hS21,f18,f19⟩
   simp only [s5,t6]
   simp only [f19,hg6,zk,qb,zz,f18,qa,qr,B0,reduceIte,a8]
   have e22:=qg hF13
   exact hN5 _ _ ⟨hS21,by rw [←e22]; simp only [B0,reduceIte,a8]⟩
 rintro fr23 h25 ⟨hS26,f24⟩
 simp only [s5,t6]
 simp only [f24,qe,qa,qx,B0,reduceIte,a8]
 have he:=qg hF9
 subst he
 simp only [q9,B0,reduceIte,a8]
 exact rfl
end Go.Proofs.Ytanblnjomhgphaa.X
namespace Go.Proofs.Ytanblnjomhgphaa.X
open Go
theorem qj8 {W:Nat→Bool}{h:Heap}{lo:Nat→Prop}{S0:List Obj} (hW:∀ b,
  lo b→W b=true) (pb0:Nat) (d8:Raft) (d4:XV) (f6:List Obj) (e9:SlN Peer.R 5 43 d4 d8.Peers f6) (d5:XV) (d7:List Obj)
  (e8:SlN Mail.R 9 86 d5 d8.Mail d7) (a9:Int) (i5:Int) (r:Bool × Raft) (hF:yv d8 a9 i5=some r) (hS:Sep h lo ([Blk1 pb0 [d4,
  d5] 29]++(f6++(d7++(S0))))) : Ret E W 72 [.ptr pb0 0,.int .i64 a9,.int .i64 i5] h (fun v h'=>∃ ic0_0 ic0_1,
  v = .bool r.1∧SlN Peer.R 5 43 d4 r.2.Peers ic0_0∧SlN Mail.R 9 86 d5 r.2.Mail ic0_1∧Sep h' lo ([Blk1 pb0 [d4,d5] 29]++(ic0_0++(ic0_1++(S0))))):=by
 refine Ret.of (fn:=x72) rfl (Run.of ?_)
 unfold yv at hF
 have zf0:zf [.ptr pb0 0,.int .i64 a9,.int .i64 i5] 0 = .ptr pb0 0:=rfl
 have zf1:zf [.ptr pb0 0,.int .i64 a9,.int .i64 i5] 1 = .int .i64 a9:=rfl
 have zf2:zf [.ptr pb0 0,.int .i64 a9,.int .i64 i5] 2 = .int .i64 i5:=rfl
 generalize zf [.ptr pb0 0,.int .i64 a9,.int .i64 i5]=fr0 at zf0 zf1 zf2 ⊢
 simp only [x72,qd,qc,qe,qa,qtx,zf0,wt,qb,zt,ql,n7,n8,n9,qu,qj,B0,
   reduceIte,a8]
 refine qf (v:=d4) ((jb (a0d _ _ _ hS)).trans rfl) ?_
 simp only [zr,qb,SlN.len e9,qe,qa,qye,qd,qc,zf2,qq,yg,B0,reduceIte,a8]
 obtain ⟨v4,hx5,hF6⟩:=qi hF
 refine ki 5 (fun fr' h'=>Sep h' lo ([Blk1 pb0 [d4,
   d5] 29]++(f6++(d7++(S0))))∧fr' 26 = .bool v4∧fr' 0 = .ptr pb0 0∧fr' 1 = .int .i64 a9∧fr' 2 = .int .i64 i5∧fr' 7 = .int .i64
   (o6 d8.Peers:Int)) (fun Q1 hN2=>?_) ?_
 ·simp only [r8,t8]
  simp only [qm (g:=21),B0,reduceIte,a8]
  refine zv (t:=(decide (i5<0))) (fun hg3=>?_) (fun hg3=>?_)
  ·rw [iteT hg3] at hx5
   simp only [hg3,qm (g:=21),jp,zk,qb,z1,qa,qr,B0,reduceIte,a8]
   have e7:=qg hx5
   exact hN2 _ _ ⟨(o8 (o8 (o8 hS))),by rw [←e7]; simp only [B0,reduceIte,a8],zf0,zf1,zf2,rfl⟩
  ·rw [iteF hg3] at hx5
   obtain ⟨hp8,hF9⟩:=qfq hx5
   simp only [hg3,qm (g:=21),zi,zf2,qe,qq,qb,zan (n:=(o6 d8.Peers:Int)) hp8,qhi,zk,zz,qa,
     qr,B0,reduceIte,a8]
   have e10:=qg hF9
   exact hN2 _ _ ⟨(o8 (o8 (o8 hS))),by rw [←e10]; simp only [B0,reduceIte,a8],zf0,zf1,zf2,rfl⟩
 rintro fr11 h17 ⟨hS18,f12,f13,f14,f15,f16⟩
 simp only [s5,t6]
 simp only [f12,qe,B0,reduceIte,a8]
 obtain ⟨v22,hx23,hF24⟩:=qi hF6
 refine ki 6 (fun fr' h'=>Sep h' lo ([Blk1 pb0 [d4,
   d5] 29]++(f6++(d7++(S0))))∧fr' 33 = .bool v22∧fr' 0 = .ptr pb0 0∧fr' 1 = .int .i64 a9∧fr' 2 = .int .i64 i5∧fr' 7 = .int .i64
   (o6 d8.Peers:Int)) (fun Q19 hN20=>?_) ?_
 ·simp only [r8,t8]
  simp only [qm (g:=27),B0,reduceIte,a8]
  refine zv (t:=v4) (fun hg21=>?_) (fun hg21=>?_)
  ·rw [iteT hg21] at hx23
   simp only [hg21,qm (g:=27),jp,zk,qb,z1,qa,qr,B0,reduceIte,a8]
   have e25:=qg hx23
   exact hN20 _ _ ⟨(o8 (o8 (o8 hS18))),by rw [←e25]; simp only [B0,reduceIte,a8],f13,f14,f15,f16⟩
  ·rw [iteF hg21] at hx23
   obtain ⟨hp26,hF27⟩:=qfq hx23
   simp only [hg21,qm (g:=27),zi,f15,qe,f14,qq,qb,uo (n:=a9) hp26,qf8,yh,zk,zz,qa,qr,B0,
     reduceIte,a8]
   have e28:=qg hF27
   exact hN20 _ _ ⟨(o8 (o8 (o8 hS18))),by rw [←e28]; simp only [B0,reduceIte,a8],f13,f14,f15,f16⟩
 rintro fr29 h35 ⟨hS36,f30,f31,f32,f33,f34⟩
 simp only [s5,t6]
 simp only [f30,qe,B0,reduceIte,a8]
 refine ki 7 (fun fr' h'=>Sep h' lo ([Blk1 pb0 [d4,
   d5] 29]++(f6++(d7++(S0))))∧fr' 41 = .bool (v22||(decide ((l9 .i64 ((2:Int)*(ko (l9 .u64 i5)))) ≤
   (o6 d8.Peers:Int))))∧fr' 0 = .ptr pb0 0∧fr' 1 = .int .i64 a9∧fr' 2 = .int .i64 i5∧fr' 7 = .int .i64 (o6 d8.Peers:Int))
   (fun Q37 hN38=>?_) ?_
 ·simp only [r8,t8]
  simp only [qm (g:=34),B0,reduceIte,a8]
  refine zv (t:=v22) (fun hg39=>?_) (fun hg39=>?_)
  ·simp only [hg39,qm (g:=34),jp,zk,qb,z1,qa,qr,B0,reduceIte,a8]
   exact hN38 _ _ ⟨(o8 (o8 (o8 hS36))),by rw [orT hg39]; simp only [B0,reduceIte,a8],f31,f32,f33,f34⟩
  ·simp only [hg39,qm (g:=34),zi,f33,qe,qjz,qb,qjg,zp,B0,reduceIte,a8]
   refine kh rfl (qp zg zm) (qik (fun b hb=>decide_eq_true hb) (l9 .u64 i5) _ rfl) ?_
   simp only [hg39,qm (g:=34),zi,qq,qb,qrr,f34,qe,qjo,zk,zz,qa,qr,B0,reduceIte,a8]
   exact hN38 _ _ ⟨(o8 (o8 (o8 hS36))),by rw [orF hg39]; simp only [B0,reduceIte,a8],f31,f32,f33,f34⟩
 rintro fr40 h46 ⟨hS47,f41,f42,f43,f44,f45⟩
 simp only [s5,t6]
 simp only [qa,f41,qv,B0,reduceIte,a8]
 refine qs (t:=(v22||(decide ((l9 .i64 ((2:Int)*(ko (l9 .u64 i5))))≤(o6 d8.Peers:Int))))) (fun hc48=>?_)
   (fun hc48=>?_)
 ·rw [iteT hc48] at hF24
  simp only [qd,qc,qe,qa,qx,B0,reduceIte,a8]
  have he:=qg hF24
  subst he
  simp only [q9,B0,reduceIte,a8]
  exact ⟨f6,d7,by first | trivial | rfl,e9,e8,(o8 (o8 (o8 hS47)))⟩
 rw [iteF hc48] at hF24
 simp only [qw,qt8,qd,qc,f42,qe,wt,qb,zt,ql,n7,n8,n9,qu,qj,B0,reduceIte,
   a8]
 refine qf (v:=d4) ((jb (a0d _ _ _ hS47)).trans rfl) ?_
 obtain ⟨x49,hx50,hF51⟩:=qi hF24
 simp only [f43,qe,zu,B0,reduceIte,a8]
 obtain ⟨b52,hb53⟩:=SlN.isrow e9 (jq hx50)
 refine qf (SlN.ia e9 hb53 hx50) ?_
 obtain ⟨c54,cs55,os56,hv57,hR58,hS59⟩:=a15 (a18 e9 hb53 Peer.RO.len) hx50 zo Peer.RO.len (s9 hS47)
 obtain ⟨v61,c62,v65,c66,hv63,hv67,rfl,rfl⟩:=hR58
 have hS60:=a2e hS59
 simp only [ql,qb,n7,n8,n9,qu,qj,B0,reduceIte,a8]
 refine qf (v:=v61) ((a1y (o:=2) hv57 rfl hx50 hS60 (nle rfl)).trans rfl) ?_
 obtain ⟨v69,hx70,hF71⟩:=qi hF51
 simp only [zp,B0,reduceIte,a8]
 refine kh rfl (qp (a2r hv63 (s9 hS60) rfl (fun _=>rfl) (fun _=>rfl)) zm) (qig (fun b hb=>decide_eq_true hb) x49.Log v69 hx70) ?_
 simp only [qe,qa,qyr,qd,qc,qvu,f42,wt,qb,zt,ql,n7,n8,n9,qu,qj,B0,
   reduceIte,a8]
 refine qf (v:=d4) ((jb (a0d _ _ _ (p9 hS60))).trans rfl) ?_
 simp only [zr,qb,SlG.plen hv57,qe,qa,B0,reduceIte,a8]
 obtain ⟨c72,hv73,hS74⟩:=a1a (c:=c54) (os:=c62++(c66)) hv57 rfl hx50 zo (Peer.RI (x:=x49) hv63 hv67) (a07 (c1:=c62) (c2:=c66) (o8 (o8
   (o8 hS60))))
 have hv75:=a04 hv73
 obtain ⟨oc86,hX88,hk89⟩:=jz hF71
 simp only [q64]
 refine qdf (σ:=Int × (List Peer)) (fun i84 s167=>j7 d8 i5 v69 i84 s167.1 s167.2) (fun s fr' h'=>∃ c82,
   fr' 0 = .ptr pb0 0∧fr' 1 = .int .i64 a9∧fr' 2 = .int .i64 i5∧fr' 7 = .int .i64
   (o6 d8.Peers:Int)∧fr' 8=lst cI v69∧fr' 9 = .int .i64 s.1∧fr' 54=d4∧SlN Peer.R 5 43 d4 s.2 c82∧Sep h' lo ([Blk1 pb0 [d4,
   d5] 29]++(c82++(d7++(S0))))) hX88 ⟨c72,f42,f43,f44,f45,rfl,rfl,rfl,hv75,(o8 (s9 (o8 hS74)))⟩ (by simp only [B0,reduceIte,
   a8]) (by simp only [B0,reduceIte,a8]) (fun _ _ _ h=>h) rfl rfl (fun _ _ _ _ h=>h) (fun _ _ _ _ h=>h) (fun _ _ _ _ h=>h) (by decide) ?_ ?_
 ·rintro i84 ⟨s80,s81⟩ fr98 h99 hx108 ⟨c82,f101,f102,f103,f104,f105,f106,f107,hv83,hS100⟩ f109 f110 oc87 hF90 hr91 Q92 hN93 hB97 hK94 hR95 hE96
  dsimp only at *
  unfold j7 at hF90
  obtain ⟨x111,hx112,hF113⟩:=qi hF90
  simp only [q3m,qd,qc,f109,qe,f107,zu,B0,reduceIte,a8]
  refine qf (SlN.ia hv83 hb53 hx112) ?_
  obtain ⟨c114,cs115,os116,hv117,hR118,hS119⟩:=a15 (a18 hv83 hb53 Peer.RO.len) hx112 zo Peer.RO.len (s9 hS100)
  obtain ⟨v121,c122,v125,c126,hv123,hv127,rfl,rfl⟩:=hR118
  have hS120:=a2e hS119
  simp only [qj,B0,reduceIte,a8]
  refine qf (v := .agg [.int .i64 x111.Term,.bool x111.Leads,v121,.int .i64 x111.Commit,v125]) ((SlG.lds (o:=0) hv117 rfl hx112 hS120 (nle rfl)).trans rfl) ?_
  simp only [jm,B0,reduceIte,a8]
  refine z3 hS120 (fun b129 h130 hS131=>?_)
  simp only [qe,zd,B0,reduceIte,a8]
  refine qz (us:=[.int .i64 x111.Term,.bool x111.Leads,v121,.int .i64 x111.Commit,v125]) rfl (cs':=[.int .i64 x111.Term,.bool x111.Leads,v121,
    .int .i64 x111.Commit,v125]) hS131 hW rfl (qk rfl (qk rfl (qk (a0t hv123) (qk rfl (qk (a0t hv127) zl))))) (nle rfl) rfl (fun h133 hS134=>?_)
  simp only [qa,B0,reduceIte,a8]
  refine z8 hS134 hW (by simp only [B0,reduceIte,a8]) (fun h135 hS136=>?_)
  obtain ⟨hp137,hF138⟩:=qfq hF113
  simp only [z7,q11,qd,qc,f103,qe,qq,qb,uo (n:=(i84:Int)) hp137,qf8,yh,qa,q6r,qv,B0,reduceIte,
    a8]
  refine qs (t:=(decide ((zw .i64 (ji .i64 i5 (i84:Int)) 1)=1))) (fun hc139=>?_) (fun hc139=>?_)
  ·rw [iteT hc139] at hF138
   obtain ⟨v140,hx141,hF142⟩:=qi hF138
   simp only [q8w,qd,z9,f105,zx,qh,qkd,B0,reduceIte,a8]
   refine zdc rfl (qp jo zm) (qf9 (fun b hb=>decide_eq_true hb) v69 v140 hx141) ?_
   simp only [f105,qld,qh,zbt,ja,qls,n7,n8,n9,qn,qj0,qj2,B0,reduceIte,a8]
   refine qo (v:=v121) rfl ?_
   obtain ⟨v143,hx144,hF145⟩:=qi hF142
   simp only [wm,B0,reduceIte,a8]
   refine qdd rfl (qp (a2r hv123 (s9 hS136) rfl (fun _=>rfl) (fun _=>rfl)) zm) (qig (fun b hb=>decide_eq_true hb) x111.Log v143 hx144) ?_
   obtain ⟨v146,hx147,hF148⟩:=qi hF145
   simp only [wm,B0,reduceIte,a8]
   refine qdd rfl (qp zg (qp zg (qp jo zm))) (qlm (fun b hb=>decide_eq_true hb) v140 (o6 v69:Int) v143 v146 hx147) ?_
   simp only [qfw,qh,yw,za,qv,B0,reduceIte,a8]
   refine qs (t:=(!v146)) (fun hc149=>?_) (fun hc149=>?_)
   ·rw [iteT hc149] at hF148
    simp only [qd,qc,qe,qa,qx,B0,reduceIte,a8]
    have e150:=qg hF148
    subst e150
    have ho151:=hr91 _ rfl
    have hk152:=hk89
    rw [ho151] at hk152
    dsimp only [jnO] at hk152
    apply hR95
    obtain ⟨c153,hv154,hS155⟩:=a1a (c:=c114) (os:=c122++(c126)) hv117 rfl hx112 zo (Peer.RI (x:=x111) hv123 hv127) (a07 (c1:=c122) (c2:=c126)
      (o8 (o8 (o8 hS136))))
    have hv156:=a04 hv154
    have he:=qg hk152
    subst he
    simp only [q9,B0,reduceIte,a8]
    exact ⟨c153,d7,by first | trivial | rfl,hv156,e8,(o8 (s9 (o8 hS155)))⟩
   rw [iteF hc149] at hF148
   simp only [qw,q9j,qc,f106,qe,ql,qb,n7,n8,n9,qn,qj,B0,reduceIte,a8]
   refine qf (v := .int .i64 x111.Term) rfl ?_
   simp only [zap,qb,qqo,qe,qa,qr,B0,reduceIte,a8]
   obtain ⟨c157,hv158,hS159⟩:=a1a (c:=c114) (os:=c122++(c126)) hv117 rfl hx112 zo (Peer.RI (x:=x111) hv123 hv127) (a07 (c1:=c122) (c2:=c126)
     (o8 (o8 (o8 hS136))))
   have hv160:=a04 hv158
   have e161:=qg hF148
   exact hN93 _ _ _ e161.symm ⟨c157,f101,f102,f103,f104,f105,rfl,f107,hv160,(o8 (s9 (o8 hS159)))⟩ (f109) (f110)
  rw [iteF hc139] at hF138
  simp only [qw,qr,B0,reduceIte,a8]
  obtain ⟨c162,hv163,hS164⟩:=a1a (c:=c114) (os:=c122++(c126)) hv117 rfl hx112 zo (Peer.RI (x:=x111) hv123 hv127) (a07 (c1:=c122) (c2:=c126) (o8
    (o8 (o8 hS136))))
  have hv165:=a04 hv163
  have e166:=qg hF138
  exact hN93 _ _ _ e166.symm ⟨c162,f101,f102,f103,f104,f105,f106,f107,hv165,(o8 (s9 (o8 hS164)))⟩ (f109) (f110)
 rintro ⟨s168,s169⟩ fr172 h173 rfl ⟨c170,f175,f176,f177,f178,f179,f180,f181,hv171,hS174⟩
 dsimp only [jnO] at hk89
 dsimp only at *
 unfold ua at hk89
 simp only [qv5,qd,qc,f180,qe,qq,qb,yh,qa,qv,B0,reduceIte,a8]
 refine qs (t:=(decide (s168=100))) (fun hc182=>?_) (fun hc182=>?_)
 ·rw [iteT hc182] at hk89
  simp only [qd,qc,qe,qa,qx,B0,reduceIte,a8]
  have he:=qg hk89
  subst he
  simp only [q9,B0,reduceIte,a8]
  exact ⟨c170,d7,by first | trivial | rfl,hv171,e8,(o8 (o8 (o8 hS174)))⟩
 rw [iteF hc182] at hk89
 simp only [qw,qsn,qd,qc,f175,qe,wt,qb,zt,ql,n7,n8,n9,qu,qj,B0,reduceIte,
   a8]
 refine qf (v:=d4) ((jb (a0d _ _ _ hS174)).trans rfl) ?_
 simp only [zr,qb,SlN.len hv171,qe,qa,B0,reduceIte,a8]
 obtain ⟨oc191,hX193,hk194⟩:=jz hk89
 simp only [qvo]
 refine qdf (σ:=(List Peer)) (fun i189 s264=>xz d8 a9 i5 s168 i189 s264) (fun s fr' h'=>∃ c187,
   fr' 0 = .ptr pb0 0∧fr' 1 = .int .i64 a9∧fr' 2 = .int .i64 i5∧fr' 7 = .int .i64
   (o6 d8.Peers:Int)∧fr' 8=lst cI v69∧fr' 9 = .int .i64 s168∧SlN Peer.R 5 43 d4 s c187∧Sep h' lo ([Blk1 pb0 [d4,
   d5] 29]++(c187++(d7++(S0))))) hX193 ⟨c170,f175,f176,f177,f178,f179,f180,hv171,(o8 (o8 (o8 hS174)))⟩ (by simp only [B0,reduceIte,
   a8]) (by simp only [B0,reduceIte,a8]) (fun _ _ _ h=>h) rfl rfl (fun _ _ _ _ h=>h) (fun _ _ _ _ h=>h) (fun _ _ _ _ h=>h) (by decide) ?_ ?_
 ·rintro i189 s186 fr203 h204 hx212 ⟨c187,f206,f207,f208,f209,f210,f211,hv188,hS205⟩ f213 f214 oc192 hF195 hr196 Q197 hN198 hB202 hK199 hR200 hE201
  unfold xz at hF195
  obtain ⟨hp215,hF216⟩:=qfq hF195
  simp only [qtz,qd,qc,f213,qe,qa,qw7,f208,qq,qb,uo (n:=(i189:Int)) hp215,qf8,yh,qxk,qv,B0,
    reduceIte,a8]
  refine qs (t:=(decide ((zw .i64 (ji .i64 i5 (i189:Int)) 1)=1))) (fun hc217=>?_) (fun hc217=>?_)
  ·rw [iteT hc217] at hF216
   simp only [qxf,qd,qc,f206,qe,wt,qb,zt,ql,n7,n8,n9,qu,qj,B0,reduceIte,
     a8]
   refine qf (v:=d4) ((jb (a0d _ _ _ hS205)).trans rfl) ?_
   obtain ⟨x218,hx219,hF220⟩:=qi hF216
   simp only [qe,zu,B0,reduceIte,a8]
   refine qf (SlN.ia hv188 hb53 hx219) ?_
   obtain ⟨c223,cs224,os225,hv226,hR227,hS228⟩:=a15 (a18 hv188 hb53 Peer.RO.len) hx219 zo Peer.RO.len (s9 hS205)
   obtain ⟨v230,c231,v234,c235,hv232,hv236,rfl,rfl⟩:=hR227
   have hS229:=a2e hS228
   simp only [qe,qa,qtm,qd,qc,f211,qq,qb,j8,wt,zt,ql,n7,n8,n9,qu,
     zd,B0,reduceIte,a8]
   refine kx (n:=5) (us:=[.int .i64 (l9 .i64 (s168+1))]) (cs:=[.int .i64 x218.Term,.bool x218.Leads,v230,.int .i64 x218.Commit,
     v234]) (o:=0) (cs':=[.int .i64 (l9 .i64 (s168+1)),.bool x218.Leads,v230,.int .i64 x218.Commit,
     v234]) rfl hv226 rfl hx219 hS229 hW rfl rfl (nle rfl) rfl (fun c238 h221 hv239 hS222=>?_)
   simp only [qa,q1y,qd,qc,qe,f207,qq,qb,yh,wt,zt,ql,n7,n8,n9,qu,
     zd,B0,reduceIte,a8]
   refine kx (n:=5) (us:=[.bool (decide ((i189:Int)=a9))]) (cs:=[.int .i64 (l9 .i64 (s168+1)),.bool x218.Leads,v230,.int .i64 x218.Commit,
     v234]) (o:=1) (cs':=[.int .i64 (l9 .i64 (s168+1)),.bool (decide ((i189:Int)=a9)),v230,.int .i64 x218.Commit,
     v234]) rfl hv239 rfl hx219 hS222 hW rfl rfl (nle rfl) rfl (fun c242 h240 hv243 hS241=>?_)
   obtain ⟨l244,hx245,hF246⟩:=qi hF220
   simp only [qa,q2a,qc,qe,f209,qj3,B0,reduceIte,a8]
   refine qf0 (f:=cI) (z:=(0:Int)) hS241 hx245 rfl (fun v247 c248 h249 hv250 hS251=>?_)
   simp only [wt,qb,zt,ql,n7,n8,n9,qu,zd,B0,reduceIte,a8]
   refine kx (n:=5) (us:=[v247]) (cs:=[.int .i64 (l9 .i64 (s168+1)),.bool (decide ((i189:Int)=a9)),v230,.int .i64 x218.Commit,
     v234]) (o:=4) (cs':=[.int .i64 (l9 .i64 (s168+1)),.bool (decide ((i189:Int)=a9)),v230,.int .i64 x218.Commit,
     v247]) (jj (a0t hv250)) hv243 rfl hx219 (s9 hS251) hW rfl (qk (a0t hv250) zl) (nle rfl) rfl (fun c255 h253 hv256 hS254=>?_)
   simp only [qa,qr,B0,reduceIte,a8]
   obtain ⟨c257,hv258,hS259⟩:=a20 (e':=(Peer.mk (l9 .i64 (s168+1)) (decide ((i189:Int)=a9)) x218.Log x218.Commit l244)) (c:=c255) (os:=c231 ++
     (c248)) hv256 rfl hx219 zo (Peer.RI (x:=(Peer.mk (l9 .i64 (s168+1)) (decide ((i189:Int)=a9)) x218.Log x218.Commit l244)) hv232 hv250) (a07
     (c1:=c231) (c2:=c248) (o8 (o8 (s9 hS254))))
   have hx260:=jl (x':=(Peer.mk (l9 .i64 (s168+1)) (decide ((i189:Int)=a9)) x218.Log x218.Commit l244)) hx219
   have hv261:=a04 hv258
   have e262:=qg hF246
   exact hN198 _ _ _ e262.symm ⟨c257,f206,f207,f208,f209,f210,f211,hv261,(o8 (s9 (o8 (a0g (s9 hS259)))))⟩ (f213) (f214)
  rw [iteF hc217] at hF216
  simp only [qw,qr,B0,reduceIte,a8]
  have e263:=qg hF216
  exact hN198 _ _ _ e263.symm ⟨c187,f206,f207,f208,f209,f210,f211,hv188,(o8 (o8 (o8 hS205)))⟩ (f213) (f214)
 rintro s265 fr268 h269 rfl ⟨c266,f271,f272,f273,f274,f275,f276,hv267,hS270⟩
 dsimp only [jnO] at hk194
 unfold qdh at hk194
 simp only [qxm,qd,qc,f271,qe,wt,qb,zt,ql,n7,n8,n9,qu,qj,B0,reduceIte,a8]
 refine qf (v:=d4) ((jb (a0d _ _ _ hS270)).trans rfl) ?_
 obtain ⟨x277,hx278,hF279⟩:=qi hk194
 simp only [f272,qe,zu,B0,reduceIte,a8]
 refine qf (SlN.ia hv267 hb53 hx278) ?_
 obtain ⟨c280,cs281,os282,hv283,hR284,hS285⟩:=a15 (a18 hv267 hb53 Peer.RO.len) hx278 zo Peer.RO.len (s9 hS270)
 obtain ⟨v287,c288,v291,c292,hv289,hv293,rfl,rfl⟩:=hR284
 have hS286:=a2e hS285
 simp only [ql,qb,n7,n8,n9,qu,qj,B0,reduceIte,a8]
 refine qf (v:=v291) ((a1y (o:=4) hv283 rfl hx278 hS286 (nle rfl)).trans rfl) ?_
 obtain ⟨x295,hx296,hF297⟩:=qi hF279
 simp only [f272,qe,f275,zr,qb,ja,zu,B0,reduceIte,a8]
 obtain ⟨b298,hb299⟩:=a1w hv293 (jq hx296)
 refine qf (a2v hv293 hb299 hx296) ?_
 simp only [zd,B0,reduceIte,a8]
 refine uq (f:=cI) (x':=(o6 v69:Int)) (o:=0) hv293 (o8 hS286) hW hb299 hx296 (fun _=>rfl) rfl rfl (nle rfl) rfl (fun c302 h300 hv303 hS301=>?_)
 have hx304:=jl (x':=(o6 v69:Int)) hx296
 simp only [qa,qd,qc,qe,qx,B0,reduceIte,a8]
 obtain ⟨c305,hv306,hS307⟩:=a20 (e':=(Peer.mk x277.Term x277.Leads x277.Log x277.Commit (a0u x277.Match a9.toNat (o6 v69:Int)))) (c:=c280)
   (os:=c288++(c302)) hv283 rfl hx278 zo (Peer.RI (x:=(Peer.mk x277.Term x277.Leads x277.Log x277.Commit (a0u x277.Match a9.toNat
   (o6 v69:Int)))) hv289 hv303) (a07 (c1:=c288) (c2:=c302) (o8 (o8 hS301)))
 have hx308:=jl (x':=(Peer.mk x277.Term x277.Leads x277.Log x277.Commit (a0u x277.Match a9.toNat (o6 v69:Int)))) hx278
 have hv309:=a04 hv306
 have he:=qg hF297
 subst he
 simp only [q9,B0,reduceIte,a8]
 exact ⟨c305,d7,by first | trivial | rfl,hv309,e8,(o8 (s9 (o8 hS307)))⟩
end Go.Proofs.Ytanblnjomhgphaa.X
namespace Go.Proofs.Ytanblnjomhgphaa.X
open Go
theorem ql8 {W:Nat→Bool}{h:Heap}{lo:Nat→Prop}{S0:List Obj} (hW:∀ b,
  lo b→W b=true) (pb0:Nat) (d8:Raft) (d4:XV) (f6:List Obj) (e9:SlN Peer.R 5 43 d4 d8.Peers f6) (d5:XV) (d7:List Obj)
  (e8:SlN Mail.R 9 86 d5 d8.Mail d7) (a9:RaftStep) (r:Bool × Raft) (hF:yb d8 a9=some r) (hS:Sep h lo ([Blk1 pb0 [d4,
  d5] 29]++(f6++(d7++(S0))))) : Ret E W 73 [.ptr pb0 0,.agg [.int .i64 a9.Kind,.int .i64 a9.K,.int .i64 a9.To,
  .int .i64 a9.N]] h (fun v h'=>∃ ic0_0 iv0_1 ic0_1,
  v = .bool r.1∧SlN Peer.R 5 43 d4 r.2.Peers ic0_0∧SlN Mail.R 9 86 iv0_1 r.2.Mail ic0_1∧Sep h' lo ([Blk1 pb0 [d4,iv0_1] 29]++(ic0_0++(ic0_1++(S0))))):=by
 refine Ret.of (fn:=x73) rfl (Run.of ?_)
 unfold yb at hF
 have zf0:zf [.ptr pb0 0,.agg [.int .i64 a9.Kind,.int .i64 a9.K,.int .i64 a9.To,.int .i64 a9.N]] 0 = .ptr pb0 0:=rfl
 have zf1:zf [.ptr pb0 0,.agg [.int .i64 a9.Kind,.int .i64 a9.K,.int .i64 a9.To,.int .i64 a9.N]] 1 = .agg [.int .i64 a9.Kind,.int .i64 a9.K,.int .i64 a9.To,
   .int .i64 a9.N]:=rfl
 generalize zf [.ptr pb0 0,.agg [.int .i64 a9.Kind,.int .i64 a9.K,.int .i64 a9.To,.int .i64 a9.N]]=fr0 at zf0 zf1 ⊢
 simp only [x73,qd,qc,kt,zf1,B0,reduceIte,a8]
 refine j0 (cs:=[.int .i64 a9.Kind,.int .i64 a9.K,.int .i64 a9.To,.int .i64 a9.N]) hS rfl rfl rfl (fun b1 h2 hS3=>?_)
 simp only [qe,qa,B0,reduceIte,a8]
 refine z8 hS3 hW (by simp only [B0,reduceIte,a8]) (fun h5 hS6=>?_)
 simp only [z7,qwy,qd,z9,zf0,zx,qh,jx,zt,zj,n7,n8,n9,qu,zh,B0,reduceIte,
   a8]
 refine qo (v:=d4) ((jb (a0d _ _ _ hS6)).trans rfl) ?_
 simp only [zj,qh,n7,n8,n9,qn,zh,B0,reduceIte,a8]
 refine qo (v := .int .i64 a9.K) rfl ?_
 obtain ⟨x7,hx8,hF9⟩:=qi hF
 simp only [kz,B0,reduceIte,a8]
 obtain ⟨b10,hb11⟩:=SlN.isrow e9 (jq hx8)
 refine qo (SlN.ia e9 hb11 hx8) ?_
 simp only [zx,qh,za,qvn,qd,qc,ql,qb,n7,n8,n9,qn,qj,B0,reduceIte,a8]
 refine qf (v := .int .i64 a9.Kind) rfl ?_
 simp only [qa,qxq,j5,qwl,qd,qc,qq,qb,yh,qe,qv2,qv,B0,reduceIte,a8]
 refine qs (t:=(decide (a9.Kind=2))) (fun hc12=>?_) (fun hc12=>?_)
 ·rw [iteT hc12] at hF9
  simp only [q2n,qd,qc,ql,qb,n7,n8,n9,qn,qj,B0,reduceIte,a8]
  refine qf (v := .int .i64 a9.N) rfl ?_
  simp only [zp,B0,reduceIte,a8]
  refine kh rfl (qp zg (qp zg (qp zg zm))) (qcb (fun b hb=>decide_eq_true hb) a9.N 0 99 _ rfl) ?_
  simp only [yk,qb,yw,qe,B0,reduceIte,a8]
  refine ki 7 (fun fr' h'=>Sep h' lo (f6++([Blk1 pb0 [d4,
    d5] 29]++(d7++(S0))))∧fr' 32 = .bool ((!(jh a9.N 0 99))||(decide ((o6 x7.Log:Int)=30)))∧fr' 3 = .ref [.int .i64 a9.Kind,
    .int .i64 a9.K,.int .i64 a9.To,.int .i64 a9.N] 0∧fr' 5 = .ptr b10 (a9.K.toNat*5)) (fun Q13 hN14=>?_) ?_
  ·simp only [r8,t8]
   simp only [qm (g:=25),B0,reduceIte,a8]
   refine zv (t:=(!(jh a9.N 0 99))) (fun hg15=>?_) (fun hg15=>?_)
   ·simp only [hg15,qm (g:=25),jp,zk,qb,z1,qa,qr,B0,reduceIte,a8]
    exact hN14 _ _ ⟨(o8 (s9 (o8 hS6))),by rw [orT hg15]; simp only [B0,reduceIte,a8],rfl,rfl⟩
   ·obtain ⟨c16,cs17,os18,hv19,hR20,hS21⟩:=a15 (a18 e9 hb11 Peer.RO.len) hx8 zo Peer.RO.len (s9 hS6)
    obtain ⟨v23,c24,v27,c28,hv25,hv29,rfl,rfl⟩:=hR20
    have hS22:=a2e hS21
    simp only [hg15,qm (g:=25),zi,qe,wt,qb,zt,ql,n7,n8,n9,qu,qj,B0,reduceIte,
      a8]
    refine qf (v:=v23) ((a1y (o:=2) hv19 rfl hx8 hS22 (nle rfl)).trans rfl) ?_
    simp only [hg15,qm (g:=25),zi,zr,qb,a1o hv25,qq,yh,zk,zz,qa,qr,B0,reduceIte,a8]
    exact hN14 _ _ ⟨(o8 (s9 (o8 hS6))),by rw [orF hg15]; simp only [B0,reduceIte,a8],rfl,rfl⟩
  rintro fr31 h35 ⟨hS36,f32,f33,f34⟩
  simp only [s5,t6]
  simp only [qa,f32,qv,B0,reduceIte,a8]
  refine qs (t:=((!(jh a9.N 0 99))||(decide ((o6 x7.Log:Int)=30)))) (fun hc37=>?_) (fun hc37=>?_)
  ·rw [iteT hc37] at hF9
   simp only [qd,qc,qe,qa,qx,B0,reduceIte,a8]
   have he:=qg hF9
   subst he
   simp only [q9,B0,reduceIte,a8]
   exact ⟨f6,d5,d7,by first | trivial | rfl,e9,e8,(o8 (s9 (o8 hS36)))⟩
  rw [iteF hc37] at hF9
  obtain ⟨c38,cs39,os40,hv41,hR42,hS43⟩:=a15 (a18 e9 hb11 Peer.RO.len) hx8 zo Peer.RO.len hS36
  obtain ⟨v45,c46,v49,c50,hv47,hv51,rfl,rfl⟩:=hR42
  have hS44:=a2e hS43
  simp only [qw,q2j,qd,z9,f34,qld,qh,zx,jx,zt,zj,n7,n8,n9,qu,zh,B0,
    reduceIte,a8]
  refine qo (v:=v45) ((a1y (o:=2) hv41 rfl hx8 hS44 (nle rfl)).trans rfl) ?_
  simp only [f34,zx,qh,jx,zt,zj,n7,n8,n9,qu,zh,B0,reduceIte,a8]
  refine qo (v := .int .i64 x7.Term) ((a1y (o:=0) hv41 rfl hx8 hS44 (nle rfl)).trans rfl) ?_
  simp only [f33,zj,qh,n7,n8,n9,qn,zh,B0,reduceIte,a8]
  refine qo (v := .int .i64 a9.N) rfl ?_
  simp only [qfc,evp,B0,reduceIte,a8]
  refine qo (v := .agg [.int .i64 x7.Term,.int .i64 a9.N]) rfl ?_
  simp only [qbc,evp,B0,reduceIte,a8]
  refine qge (n:=2) (f:=qt) [(Entry.mk x7.Term a9.N)] hS44 rfl rfl (fun v53 c54 h55 hv56 hS57=>?_)
  simp only [qfz,B0,reduceIte,a8]
  obtain ⟨l59,hx60,hF61⟩:=qi hF9
  refine qir (f:=qt) hv47 (o8 hS57) hW (fun _=>rfl) (fun _=>rfl) (SlF.first hv56 hS57 (fun _=>rfl)) hx60 (fun v62 c63 h64 hv65 hS66=>?_)
  simp only [jx,qh,zt,zj,n7,n8,n9,qu,xx,B0,reduceIte,a8]
  refine qdi (n:=5) (us:=[v62]) (cs:=[.int .i64 x7.Term,.bool x7.Leads,v45,.int .i64 x7.Commit,v49]) (o:=2) (cs':=[.int .i64 x7.Term,.bool x7.Leads,v62,
    .int .i64 x7.Commit,v49]) (jj (a0t hv65)) hv41 rfl hx8 (o8 hS66) hW rfl (qk (a0t hv65) zl) (nle rfl) rfl (fun c70 h68 hv71 hS69=>?_)
  simp only [za,q7t,qd,z9,f34,zx,qh,jx,zt,zj,n7,n8,n9,qu,zh,B0,reduceIte,
    a8]
  refine qo (v:=v49) ((a1y (o:=4) hv71 rfl hx8 hS69 (nle rfl)).trans rfl) ?_
  simp only [f33,zj,qh,n7,n8,n9,qn,zh,B0,reduceIte,a8]
  refine qo (v := .int .i64 a9.K) rfl ?_
  simp only [f34,zx,qh,jx,zt,zj,n7,n8,n9,qu,zh,B0,reduceIte,a8]
  refine qo (v:=v62) ((a1y (o:=2) hv71 rfl hx8 hS69 (nle rfl)).trans rfl) ?_
  obtain ⟨x72,hx73,hF74⟩:=qi hF61
  simp only [wo,qh,a1o hv65,kz,B0,reduceIte,a8]
  obtain ⟨b75,hb76⟩:=a1w hv51 (jq hx73)
  refine qo (a2v hv51 hb76 hx73) ?_
  simp only [xx,B0,reduceIte,a8]
  refine qeh (f:=cI) (x':=(o6 l59:Int)) (o:=0) hv51 (p9 hS69) hW hb76 hx73 (fun _=>rfl) rfl rfl (nle rfl) rfl (fun c79 h77 hv80 hS78=>?_)
  have hx81:=jl (x':=(o6 l59:Int)) hx73
  simp only [za,qd,qc,qe,qa,qx,B0,reduceIte,a8]
  obtain ⟨c82,hv83,hS84⟩:=a20 (e':=(Peer.mk x7.Term x7.Leads l59 x7.Commit (a0u x7.Match a9.K.toNat (o6 l59:Int)))) (c:=c70) (os:=c63 ++
    (c79)) hv71 rfl hx8 zo (Peer.RI (x:=(Peer.mk x7.Term x7.Leads l59 x7.Commit (a0u x7.Match a9.K.toNat (o6 l59:Int)))) hv65 hv80) (a07
    (c1:=c63) (c2:=c79) (o8 (o8 hS78)))
  have hx85:=jl (x':=(Peer.mk x7.Term x7.Leads l59 x7.Commit (a0u x7.Match a9.K.toNat (o6 l59:Int)))) hx8
  have hv86:=a04 hv83
  have he:=qg hF74
  subst he
  simp only [q9,B0,reduceIte,a8]
  exact ⟨c82,d5,d7,by first | trivial | rfl,hv86,e8,(o8 (s9 (o8 (a0g (s9 hS84)))))⟩
 rw [iteF hc12] at hF9
 simp only [qvy,qd,qc,qq,qb,yh,qe,qa,qxt,qv,B0,reduceIte,a8]
 refine qs (t:=(decide (a9.Kind=3))) (fun hc87=>?_) (fun hc87=>?_)
 ·rw [iteT hc87] at hF9
  simp only [qty,qd,z9,zj,qh,n7,n8,n9,qn,zh,B0,reduceIte,a8]
  refine qo (v := .int .i64 a9.To) rfl ?_
  simp only [zf0,zx,qh,jx,zt,zj,n7,n8,n9,qu,zh,B0,reduceIte,a8]
  refine qo (v:=d4) ((jb (a0d _ _ _ hS6)).trans rfl) ?_
  simp only [wo,qh,SlN.len e9,kd,qer,wm,B0,reduceIte,a8]
  refine qdd rfl (qp zg (qp zg (qp zg zm))) (qcb (fun b hb=>decide_eq_true hb) a9.To 0 (l9 .i64
    ((o6 d8.Peers:Int) - 1)) _ rfl) ?_
  simp only [qfw,qh,yw,zx,B0,reduceIte,a8]
  refine qaj 6 (fun fr' h'=>Sep h' lo ([Blk1 pb0 [d4,
    d5] 29]++(f6++(d7++(S0))))∧fr' 79 = .bool ((!(jh a9.To 0 (l9 .i64 ((o6 d8.Peers:Int) - 1))))||(decide
    (a9.To=a9.K)))∧fr' 0 = .ptr pb0 0∧fr' 3 = .ref [.int .i64 a9.Kind,.int .i64 a9.K,.int .i64 a9.To,
    .int .i64 a9.N] 0∧fr' 5 = .ptr b10 (a9.K.toNat*5)) rfl (fun Q88 hN89=>?_) ?_
  ·simp only [r8,t8]
   simp only [qy (g:=73),B0,reduceIte,a8]
   refine ye (t:=(!(jh a9.To 0 (l9 .i64 ((o6 d8.Peers:Int) - 1))))) (fun hg90=>?_) (fun hg90=>?_)
   ·simp only [hg90,qy (g:=73),xy,kf,qh,z1,za,qr,B0,reduceIte,a8]
    exact hN89 _ _ ⟨(o8 (o8 (o8 hS6))),by rw [orT hg90]; simp only [B0,reduceIte,a8],zf0,rfl,rfl⟩
   ·simp only [hg90,qy (g:=73),z6,zj,qh,n7,n8,n9,qn,zh,B0,reduceIte,a8]
    refine qo (v := .int .i64 a9.To) rfl ?_
    simp only [hg90,qy (g:=73),z6,zj,qh,n7,n8,n9,qn,zh,B0,reduceIte,a8]
    refine qo (v := .int .i64 a9.K) rfl ?_
    simp only [hg90,qy (g:=73),z6,kd,qh,yh,kf,zz,za,qr,B0,reduceIte,a8]
    exact hN89 _ _ ⟨(o8 (o8 (o8 hS6))),by rw [orF hg90]; simp only [B0,reduceIte,a8],zf0,rfl,rfl⟩
  rintro fr91 h96 ⟨hS97,f92,f93,f94,f95⟩
  simp only [s5,t6]
  simp only [f92,zx,qh,B0,reduceIte,a8]
  simp only [qy (g:=80),B0,reduceIte,a8]
  refine ye (t:=((!(jh a9.To 0 (l9 .i64 ((o6 d8.Peers:Int) - 1))))||(decide (a9.To=a9.K)))) (fun hg98=>?_) (fun hg98=>?_)
  ·rw [iteT hg98] at hF9
   simp only [hg98,qy (g:=80),xy,kf,qh,z1,zx,qy (g:=91),za,qv,quw,qd,qc,qe,
     qa,qx,B0,reduceIte,a8]
   have he:=qg hF9
   subst he
   simp only [q9,B0,reduceIte,a8]
   exact ⟨f6,d5,d7,by first | trivial | rfl,e9,e8,(o8 (o8 (o8 hS97)))⟩
  rw [iteF hg98] at hF9
  simp only [hg98,qy (g:=80),z6,f94,zj,qh,n7,n8,n9,qn,zh,B0,reduceIte,a8]
  refine qo (v := .int .i64 a9.N) rfl ?_
  obtain ⟨c99,cs100,os101,hv102,hR103,hS104⟩:=a15 (a18 e9 hb11 Peer.RO.len) hx8 zo Peer.RO.len (s9 hS97)
  obtain ⟨v106,c107,v110,c111,hv108,hv112,rfl,rfl⟩:=hR103
  have hS105:=a2e hS104
  simp only [hg98,qy (g:=80),z6,f95,zx,qh,jx,zt,zj,n7,n8,n9,qu,zh,B0,reduceIte,
    a8]
  refine qo (v:=v106) ((a1y (o:=2) hv102 rfl hx8 hS105 (nle rfl)).trans rfl) ?_
  simp only [hg98,qy (g:=80),z6,wo,qh,a1o hv108,wm,B0,reduceIte,a8]
  refine qdd rfl (qp zg (qp zg (qp zg zm))) (qcb (fun b hb=>decide_eq_true hb) a9.N 0 (o6 x7.Log:Int) _ rfl) ?_
  simp only [hg98,qy (g:=80),z6,qfw,qh,yw,kf,zz,zx,B0,reduceIte,a8]
  refine qaj 7 (fun fr' h'=>Sep h' lo ([Blk1 pb0 [d4,
    d5] 29]++(c99++(d7++(c107++(c111++(S0))))))∧fr' 98 = .bool ((!(jh a9.N 0 (o6 x7.Log:Int)))||(decide
    ((o6 d8.Mail:Int)=20)))∧fr' 0 = .ptr pb0 0∧fr' 3 = .ref [.int .i64 a9.Kind,.int .i64 a9.K,.int .i64 a9.To,
    .int .i64 a9.N] 0∧fr' 5 = .ptr b10 (a9.K.toNat*5)) rfl (fun Q114 hN115=>?_) ?_
  ·simp only [r8,t8]
   simp only [qy (g:=91),B0,reduceIte,a8]
   refine ye (t:=(!(jh a9.N 0 (o6 x7.Log:Int)))) (fun hg116=>?_) (fun hg116=>?_)
   ·simp only [hg116,qy (g:=91),xy,kf,qh,z1,za,qr,B0,reduceIte,a8]
    exact hN115 _ _ ⟨(a0i (p9 (a0i (o8 (o8 hS105))))),by rw [orT hg116]; simp only [B0,reduceIte,a8],f93,f94,f95⟩
   ·simp only [hg116,qy (g:=91),z6,f93,zx,qh,jx,zt,zj,n7,n8,n9,qu,zh,B0,
     reduceIte,a8]
    refine qo (v:=d5) ((jb (a0d _ _ _ (p9 hS105))).trans rfl) ?_
    simp only [hg116,qy (g:=91),z6,wo,qh,SlN.len e8,kd,yh,kf,zz,za,qr,B0,reduceIte,a8]
    exact hN115 _ _ ⟨(a0i (p9 (a0i (o8 (o8 hS105))))),by rw [orF hg116]; simp only [B0,reduceIte,a8],f93,f94,f95⟩
  rintro fr117 h122 ⟨hS123,f118,f119,f120,f121⟩
  simp only [s5,t6]
  simp only [za,f118,qv,B0,reduceIte,a8]
  refine qs (t:=((!(jh a9.N 0 (o6 x7.Log:Int)))||(decide ((o6 d8.Mail:Int)=20)))) (fun hc124=>?_) (fun hc124=>?_)
  ·rw [iteT hc124] at hF9
   simp only [qd,qc,qe,qa,qx,B0,reduceIte,a8]
   obtain ⟨c125,hv126,hS127⟩:=a1a (c:=c99) (os:=c107++(c111)) hv102 rfl hx8 zo (Peer.RI (x:=x7) hv108 hv112) (a07 (c1:=c107) (c2:=c111) (p9
     (a0i (a0i hS123))))
   have hv128:=a04 hv126
   have he:=qg hF9
   subst he
   simp only [q9,B0,reduceIte,a8]
   exact ⟨c125,d5,d7,by first | trivial | rfl,hv128,e8,(o8 (s9 (o8 hS127)))⟩
  rw [iteF hc124] at hF9
  simp only [qw,qyl,qd,z9,f120,zj,qh,n7,n8,n9,qn,zh,B0,reduceIte,a8]
  refine qo (v := .int .i64 a9.K) rfl ?_
  simp only [f120,zj,qh,n7,n8,n9,qn,zh,B0,reduceIte,a8]
  refine qo (v := .int .i64 a9.To) rfl ?_
  simp only [f121,zx,qh,jx,zt,zj,n7,n8,n9,qu,zh,B0,reduceIte,a8]
  refine qo (v := .int .i64 x7.Term) ((a1y (o:=0) hv102 rfl hx8 (s9 hS123) (nle rfl)).trans rfl) ?_
  simp only [f120,zj,qh,n7,n8,n9,qn,zh,B0,reduceIte,a8]
  refine qo (v := .int .i64 a9.N) rfl ?_
  simp only [f121,zx,qh,jx,zt,zj,n7,n8,n9,qu,zh,B0,reduceIte,a8]
  refine qo (v := .int .i64 x7.Commit) ((a1y (o:=3) hv102 rfl hx8 (s9 hS123) (nle rfl)).trans rfl) ?_
  simp only [qfc,evp,B0,reduceIte,a8]
  refine qo (v := .agg [.bool false,.int .i64 a9.K,.int .i64 a9.To,.int .i64 x7.Term,.int .i64 a9.N,.int .i64 (-1),.nil,.int .i64 x7.Commit,.int .i64 0]) rfl ?_
  simp only [zcf,B0,reduceIte,a8]
  refine qlk hS123 (fun b129 h130 hS131=>?_)
  simp only [xx,B0,reduceIte,a8]
  refine u9 (us:=[.bool false,.int .i64 a9.K,.int .i64 a9.To,.int .i64 x7.Term,.int .i64 a9.N,.int .i64 (-1),.nil,.int .i64 x7.Commit,
    .int .i64 0]) rfl (cs':=[.bool false,.int .i64 a9.K,.int .i64 a9.To,.int .i64 x7.Term,.int .i64 a9.N,.int .i64 (-1),.nil,.int .i64 x7.Commit,
    .int .i64 0]) hS131 hW rfl rfl (nle rfl) rfl (fun h133 hS134=>?_)
  simp only [za,qzh,qd,qc,f120,ql,qb,n7,n8,n9,qn,qj,B0,reduceIte,a8]
  refine qf (v := .int .i64 a9.N) rfl ?_
  simp only [qq,qb,ur,qa,q8v,qv,B0,reduceIte,a8]
  obtain ⟨c135,hv136,hS137⟩:=a1a (c:=c99) (os:=c107++(c111)) hv102 rfl hx8 zo (Peer.RI (x:=x7) hv108 hv112) (a07 (c1:=c107) (c2:=c111) (a0i
    (v3 (v3 hS134))))
  have hv138:=a04 hv136
  obtain ⟨sv146,hX144,hk145⟩:=qi hF9
  refine xh (t:=(decide ((0:Int)<a9.N))) (fun fr' h'=>∃ c140,fr' 0 = .ptr pb0 0∧fr' 3 = .ref [.int .i64 a9.Kind,.int .i64 a9.K,.int .i64 a9.To,
    .int .i64 a9.N] 0∧fr' 5 = .ptr b10 (a9.K.toNat*5)∧fr' 6 = .ptr b129 0∧SlN Peer.R 5 43 d4 sv146.1 c140∧Sep h' lo ([Blk1 pb0 [d4,
    d5] 29]++(c140++([Blk1 b129 [.bool sv146.2.Reply,.int .i64 sv146.2.From,.int .i64 sv146.2.To,.int .i64 sv146.2.Term,.int .i64 sv146.2.Prev,
    .int .i64 sv146.2.PTerm,.nil,.int .i64 sv146.2.Commit,.int .i64 sv146.2.Match] 86]++(d7++(S0)))))) (fun Q147 hN148 hR149 hE150=>⟨fun hc151=>?_,
    fun hc151=>?_⟩) ?_
  ·rw [iteT hc151] at hX144
   obtain ⟨c152,cs153,os154,hv155,hR156,hS157⟩:=a15 (a18 hv138 hb11 Peer.RO.len) hx8 zo Peer.RO.len hS137
   obtain ⟨v159,c160,v163,c164,hv161,hv165,rfl,rfl⟩:=hR156
   have hS158:=a2e hS157
   simp only [q4o,z9,f121,zx,qh,jx,zt,zj,n7,n8,n9,qu,zh,B0,reduceIte,a8]
   refine qo (v:=v159) ((a1y (o:=2) hv155 rfl hx8 hS158 (nle rfl)).trans rfl) ?_
   simp only [f120,zj,qh,n7,n8,n9,qn,zh,B0,reduceIte,a8]
   refine qo (v := .int .i64 a9.N) rfl ?_
   obtain ⟨x167,hx168,hF169⟩:=qi hX144
   simp only [kd,qh,qer,kz,B0,reduceIte,a8]
   obtain ⟨b170,hb171⟩:=a1w hv161 (jq hx168)
   refine qo (a2v hv161 hb171 hx168) ?_
   simp only [zj,qh,n7,n8,n9,qu,zh,B0,reduceIte,a8]
   refine qo (v := .int .i64 x167.Term) ((SlF.ld (o:=0) hv161 (s9 hS158) hb171 hx168 (fun _=>rfl) (nle rfl)).trans rfl) ?_
   simp only [zj,qh,n7,n8,n9,qu,xx,B0,reduceIte,a8]
   refine u9 (us:=[.int .i64 x167.Term]) rfl (cs':=[.bool false,.int .i64 a9.K,.int .i64 a9.To,.int .i64 x7.Term,.int .i64 a9.N,.int .i64 x167.Term,.nil,
     .int .i64 x7.Commit,.int .i64 0]) (p9 hS158) hW rfl rfl (nle rfl) rfl (fun h172 hS173=>?_)
   simp only [za,qr,B0,reduceIte,a8]
   obtain ⟨c174,hv175,hS176⟩:=a1a (c:=c152) (os:=c160++(c164)) hv155 rfl hx8 zo (Peer.RI (x:=x7) hv161 hv165) (a07 (c1:=c160) (c2:=c164) (p9
     (p9 (p9 hS173))))
   have hv177:=a04 hv175
   have e178:=qg hF169
   subst e178
   exact hN148 _ _ ⟨c174,f119,f120,f121,rfl,hv177,(p9 (o8 (o8 (p9 hS176))))⟩
  ·rw [iteF hc151] at hX144
   simp only [qw,qr,B0,reduceIte,a8]
   have e179:=qg hX144
   subst e179
   exact hN148 _ _ ⟨c135,f119,f120,f121,rfl,hv138,(p9 (o8 (o8 (p9 hS137))))⟩
  rintro fr180 h181 ⟨c140,f183,f184,f185,f186,hv141,hS182⟩
  obtain ⟨s139,s142⟩:=sv146
  dsimp only at *
  unfold qap at hk145
  simp only [q1r,qd,z9,f184,zj,qh,n7,n8,n9,qn,zh,B0,reduceIte,a8]
  refine qo (v := .int .i64 a9.N) rfl ?_
  obtain ⟨x187,hx188,hF189⟩:=qi hk145
  obtain ⟨c190,cs191,os192,hv193,hR194,hS195⟩:=a15 (a18 hv141 hb11 Peer.RO.len) hx188 zo Peer.RO.len (s9 hS182)
  obtain ⟨v197,c198,v201,c202,hv199,hv203,rfl,rfl⟩:=hR194
  have hS196:=a2e hS195
  simp only [f185,zx,qh,jx,zt,zj,n7,n8,n9,qu,zh,B0,reduceIte,a8]
  refine qo (v:=v197) ((a1y (o:=2) hv193 rfl hx188 hS196 (nle rfl)).trans rfl) ?_
  simp only [wo,qh,a1o hv199,kd,yg,za,q9w,qv,B0,reduceIte,a8]
  obtain ⟨c205,hv206,hS207⟩:=a1a (c:=c190) (os:=c198++(c202)) hv193 rfl hx188 zo (Peer.RI (x:=x187) hv199 hv203) (a07 (c1:=c198) (c2:=c202) (o8
    (o8 (o8 hS196))))
  have hv208:=a04 hv206
  obtain ⟨sv220,hX218,hk219⟩:=qi hF189
  refine xh (t:=(decide (a9.N<(o6 x187.Log:Int)))) (fun fr' h'=>∃ v211 c212 c215,
    fr' 0 = .ptr pb0 0∧fr' 6 = .ptr b129 0∧SlF qt 2 65 v211 sv220.1.Entry c212∧SlN Peer.R 5 43 d4 sv220.2 c215∧Sep h' lo ([Blk1 pb0 [d4,
    d5] 29]++([Blk1 b129 [.bool sv220.1.Reply,.int .i64 sv220.1.From,.int .i64 sv220.1.To,.int .i64 sv220.1.Term,.int .i64 sv220.1.Prev,.int .i64 sv220.1.PTerm,
    v211,.int .i64 sv220.1.Commit,.int .i64 sv220.1.Match] 86]++(c215++(d7++(c212++(S0))))))) (fun Q221 hN222 hR223 hE224=>⟨fun hc225=>?_,fun hc225=>?_⟩) ?_
  ·rw [iteT hc225] at hX218
   obtain ⟨c226,cs227,os228,hv229,hR230,hS231⟩:=a15 (a18 hv208 hb11 Peer.RO.len) hx188 zo Peer.RO.len hS207
   obtain ⟨v233,c234,v237,c238,hv235,hv239,rfl,rfl⟩:=hR230
   have hS232:=a2e hS231
   simp only [q9m,z9,f185,zx,qh,jx,zt,zj,n7,n8,n9,qu,zh,B0,reduceIte,a8]
   refine qo (v:=v233) ((a1y (o:=2) hv229 rfl hx188 hS232 (nle rfl)).trans rfl) ?_
   simp only [f184,zj,qh,n7,n8,n9,qn,zh,B0,reduceIte,a8]
   refine qo (v := .int .i64 a9.N) rfl ?_
   obtain ⟨x241,hx242,hF243⟩:=qi hX218
   simp only [kz,B0,reduceIte,a8]
   obtain ⟨b244,hb245⟩:=a1w hv235 (jq hx242)
   refine qo (a2v hv235 hb245 hx242) ?_
   simp only [zh,B0,reduceIte,a8]
   refine qo (v := .agg [.int .i64 x241.Term,.int .i64 x241.Value]) ((SlF.lds (o:=0) hv235 (s9 hS232) hb245 hx242 (fun _=>rfl) (nle rfl)).trans rfl) ?_
   simp only [qbc,evp,B0,reduceIte,a8]
   refine qge (n:=2) (f:=qt) [x241] hS232 rfl rfl (fun v246 c247 h248 hv249 hS250=>?_)
   simp only [f186,zj,qh,n7,n8,n9,qu,xx,B0,reduceIte,a8]
   refine u9 (us:=[v246]) (jj (a0t hv249)) (cs':=[.bool s142.Reply,.int .i64 s142.From,.int .i64 s142.To,.int .i64 s142.Term,.int .i64 s142.Prev,
     .int .i64 s142.PTerm,v246,.int .i64 s142.Commit,.int .i64 s142.Match]) (v3 hS250) hW rfl (qk (a0t hv249) zl) (nle rfl) rfl (fun h252 hS253=>?_)
   simp only [za,qr,B0,reduceIte,a8]
   obtain ⟨c254,hv255,hS256⟩:=a1a (c:=c226) (os:=c234++(c238)) hv229 rfl hx188 zo (Peer.RI (x:=x187) hv235 hv239) (a07 (c1:=c234) (c2:=c238)
     (a0i (a0i (a0i hS253))))
   have hv257:=a04 hv255
   have e258:=qg hF243
   subst e258
   exact hN222 _ _ ⟨v246,c247,c254,f183,f186,hv249,hv257,(a0i (p9 (o8 (a0i (o8 hS256)))))⟩
  ·rw [iteF hc225] at hX218
   simp only [qw,qr,B0,reduceIte,a8]
   have e259:=qg hX218
   subst e259
   exact hN222 _ _ ⟨.nil,[],c205,f183,f186,SlF.nil,hv208,((p9 (p9 (s9 (p9 hS207)))) : Sep _ lo ([Blk1 pb0 [d4,
     d5] 29]++([Blk1 b129 [.bool s142.Reply,.int .i64 s142.From,.int .i64 s142.To,.int .i64 s142.Term,.int .i64 s142.Prev,.int .i64 s142.PTerm,.nil,
     .int .i64 s142.Commit,.int .i64 s142.Match] 86]++(c205++(d7++(S0))))))⟩
  rintro fr260 h261 ⟨v211,c212,c215,f263,f264,hv213,hv216,hS262⟩
  obtain ⟨s209,s214⟩:=sv220
  dsimp only at *
  unfold qec at hk219
  simp only [q9f,qd,z9,f263,qld,qh,zx,jx,zt,zj,n7,n8,n9,qu,zh,B0,reduceIte,
    a8]
  refine qo (v:=d5) ((jb (a0d _ _ _ hS262)).trans rfl) ?_
  simp only [f264,zh,B0,reduceIte,a8]
  refine qo (v := .agg [.bool s209.Reply,.int .i64 s209.From,.int .i64 s209.To,.int .i64 s209.Term,.int .i64 s209.Prev,.int .i64 s209.PTerm,v211,
    .int .i64 s209.Commit,.int .i64 s209.Match]) ((zq (a0d _ _ _ (s9 hS262))).trans rfl) ?_
  simp only [qbc,evp,B0,reduceIte,a8]
  refine qd5 (R:=Mail.R) (n:=9) (cs:=[.bool s209.Reply,.int .i64 s209.From,.int .i64 s209.To,.int .i64 s209.Term,.int .i64 s209.Prev,.int .i64 s209.PTerm,
    v211,.int .i64 s209.Commit,.int .i64 s209.Match]) (os:=c212) (a0i hS262) (qd1 (us:=[.bool s209.Reply,.int .i64 s209.From,.int .i64 s209.To,
    .int .i64 s209.Term,.int .i64 s209.Prev,.int .i64 s209.PTerm,v211,.int .i64 s209.Commit,.int .i64 s209.Match]) (vs:=[.bool s209.Reply,.int .i64 s209.From,
    .int .i64 s209.To,.int .i64 s209.Term,.int .i64 s209.Prev,.int .i64 s209.PTerm,v211,.int .i64 s209.Commit,
    .int .i64 s209.Match]) rfl rfl (nle rfl) (qk rfl (qk rfl (qk rfl (qk rfl (qk rfl (qk rfl (qk (a0t hv213) (qk rfl
    (qk rfl zl))))))))) rfl qd2) (Mail.RI (x:=s209) hv213) rfl (fun v265 c266 h267 hv268 hS269=>?_)
  simp only [qfz,B0,reduceIte,a8]
  obtain ⟨l271,hx272,hF273⟩:=qi hk219
  refine qgp (R:=Mail.R) (c:=d7) e8 hv268 (a0i hS269) hW Mail.RO.len Mail.RO.one hx272 (fun v274 c275 h276 hv277 hS278=>?_)
  simp only [jx,qh,zt,zj,n7,n8,n9,qu,xx,B0,reduceIte,a8]
  refine u9 (us:=[v274]) (jj (a0j hv277)) (cs':=[d4,v274]) (s9 hS278) hW rfl (qk (a0j hv277) zl) (nle rfl) rfl (fun h280 hS281=>?_)
  simp only [za,qd,qc,qe,qa,qx,B0,reduceIte,a8]
  have he:=qg hF273
  subst he
  simp only [q9,B0,reduceIte,a8]
  exact ⟨c215,v274,c275,by first | trivial | rfl,hv216,hv277,(o8 (o8 (s9 (a0g (o8 hS281)))))⟩
 rw [iteF hc87] at hF9
 obtain ⟨c284,cs285,os286,hv287,hR288,hS289⟩:=a15 (a18 e9 hb11 Peer.RO.len) hx8 zo Peer.RO.len (s9 hS6)
 obtain ⟨v291,c292,v295,c296,hv293,hv297,rfl,rfl⟩:=hR288
 have hS290:=a2e hS289
 simp only [qw,kg,que,qd,qc,qe,qa,qvx,wt,qb,zt,ql,n7,n8,n9,qu,
   qj,B0,reduceIte,a8]
 refine qf (v:=v295) ((a1y (o:=4) hv287 rfl hx8 hS290 (nle rfl)).trans rfl) ?_
 simp only [zr,qb,a1o hv297,qe,qa,B0,reduceIte,a8]
 obtain ⟨oc303,hX305,hk306⟩:=jz hF9
 simp only [qw1]
 refine qdf (σ:=Int) (fun i301 s334=>qce a9 x7 i301 s334) (fun s fr' h'=>fr' 0 = .ptr pb0 0∧fr' 3 = .ref [.int .i64 a9.Kind,.int .i64 a9.K,
   .int .i64 a9.To,.int .i64 a9.N] 0∧fr' 5 = .ptr b10 (a9.K.toNat*5)∧fr' 7 = .int .i64 s∧fr' 159=v295∧Sep h' lo ([Blk1 pb0 [d4,
   d5] 29]++(c284++(c296++(d7++(c292++(S0))))))) hX305 ⟨zf0,rfl,rfl,rfl,rfl,(a0i (p9 (p9 (a0i (s9 hS290)))))⟩ (by simp only [B0,
   reduceIte,a8]) (by simp only [B0,reduceIte,
   a8]) (fun _ _ _ h=>h) rfl rfl (fun _ _ _ _ h=>h) (fun _ _ _ _ h=>h) (fun _ _ _ _ h=>h) (by decide) ?_ ?_
 ·rintro i301 s300 fr315 h316 hx323 ⟨f318,f319,f320,f321,f322,hS317⟩ f324 f325 oc304 hF307 hr308 Q309 hN310 hB314 hK311 hR312 hE313
  unfold qce at hF307
  obtain ⟨x326,hx327,hF328⟩:=qi hF307
  simp only [qum,qd,qc,f322,f324,zu,B0,reduceIte,a8]
  obtain ⟨b329,hb330⟩:=a1w hv297 (jq hx327)
  refine qf (a2v hv297 hb330 hx327) ?_
  simp only [qj,B0,reduceIte,a8]
  refine qf (v := .int .i64 x326) ((SlF.ld (o:=0) hv297 (o8 hS317) hb330 hx327 (fun _=>rfl) (nle rfl)).trans rfl) ?_
  simp only [qe,qa,qx0,qd,qc,f319,ql,qb,n7,n8,n9,qn,qj,B0,reduceIte,a8]
  refine qf (v := .int .i64 a9.N) rfl ?_
  simp only [qq,qb,qhi,qa,qr3,qv,B0,reduceIte,a8]
  refine qs (t:=(decide (a9.N≤x326))) (fun hc331=>?_) (fun hc331=>?_)
  ·rw [iteT hc331] at hF328
   simp only [qc,f321,qe,qq,qb,j8,qa,qr,B0,reduceIte,a8]
   have e332:=qg hF328
   exact hN310 _ _ _ e332.symm ⟨f318,f319,f320,rfl,f322,(a0i (a0i (a0i (a0i (a0i hS317)))))⟩ (f324) (f325)
  rw [iteF hc331] at hF328
  simp only [qw,qr,B0,reduceIte,a8]
  have e333:=qg hF328
  exact hN310 _ _ _ e333.symm ⟨f318,f319,f320,f321,f322,(a0i (a0i (a0i (a0i (a0i hS317)))))⟩ (f324) (f325)
 rintro s335 fr336 h337 rfl ⟨f339,f340,f341,f342,f343,hS338⟩
 dsimp only [jnO] at hk306
 unfold qci at hk306
 simp only [qua,qd,z9,f340,zj,qh,n7,n8,n9,qn,zh,B0,reduceIte,a8]
 refine qo (v := .int .i64 a9.N) rfl ?_
 simp only [f341,zx,qh,jx,zt,zj,n7,n8,n9,qu,zh,B0,reduceIte,a8]
 refine qo (v := .int .i64 x7.Commit) ((a1y (o:=3) hv287 rfl hx8 (s9 hS338) (nle rfl)).trans rfl) ?_
 simp only [kd,qh,j8,f341,zx,jx,zt,zj,n7,n8,n9,qu,zh,B0,reduceIte,a8]
 refine qo (v:=v291) ((a1y (o:=2) hv287 rfl hx8 (s9 hS338) (nle rfl)).trans rfl) ?_
 simp only [wo,qh,a1o hv293,wm,B0,reduceIte,a8]
 refine qdd rfl (qp zg (qp zg (qp zg zm))) (qcb (fun b hb=>decide_eq_true hb) a9.N (l9 .i64 (x7.Commit+1))
   (o6 x7.Log:Int) _ rfl) ?_
 simp only [qfw,qh,yw,zx,B0,reduceIte,a8]
 obtain ⟨v347,hx348,hF349⟩:=qi hk306
 refine qaj 16 (fun fr' h'=>Sep h' lo ([Blk1 pb0 [d4,
   d5] 29]++(c284++(d7++(c292++(c296++(S0))))))∧fr' 202 = .bool v347∧fr' 0 = .ptr pb0 0∧fr' 3 = .ref [.int .i64 a9.Kind,.int .i64 a9.K,
   .int .i64 a9.To,.int .i64 a9.N] 0∧fr' 5 = .ptr b10 (a9.K.toNat*5)∧fr' 7 = .int .i64 s335) rfl (fun Q344 hN345=>?_) ?_
 ·simp only [r8,t8]
  simp only [qy (g:=186),B0,reduceIte,a8]
  refine ye (t:=(!(jh a9.N (l9 .i64 (x7.Commit+1)) (o6 x7.Log:Int)))) (fun hg346=>?_) (fun hg346=>?_)
  ·rw [iteT hg346] at hx348
   simp only [hg346,qy (g:=186),xy,kf,qh,z1,za,qr,B0,reduceIte,a8]
   have e350:=qg hx348
   exact hN345 _ _ ⟨(a0i (a0i (a0i (a0i (o8 hS338))))),by rw [←e350]; simp only [B0,reduceIte,a8],f339,f340,f341,f342⟩
  ·rw [iteF hg346] at hx348
   simp only [hg346,qy (g:=186),z6,f341,zx,qh,jx,zt,zj,n7,n8,n9,qu,zh,B0,
     reduceIte,a8]
   refine qo (v:=v291) ((a1y (o:=2) hv287 rfl hx8 (s9 hS338) (nle rfl)).trans rfl) ?_
   simp only [hg346,qy (g:=186),z6,f340,zj,qh,n7,n8,n9,qn,zh,B0,reduceIte,a8]
   refine qo (v := .int .i64 a9.N) rfl ?_
   obtain ⟨x351,hx352,hF353⟩:=qi hx348
   simp only [hg346,qy (g:=186),z6,kd,qh,qer,kz,B0,reduceIte,a8]
   obtain ⟨b354,hb355⟩:=a1w hv293 (jq hx352)
   refine qo (a2v hv293 hb355 hx352) ?_
   simp only [hg346,qy (g:=186),z6,zj,qh,n7,n8,n9,qu,zh,B0,reduceIte,a8]
   refine qo (v := .int .i64 x351.Term) ((SlF.ld (o:=0) hv293 (a0i hS338) hb355 hx352 (fun _=>rfl) (nle rfl)).trans rfl) ?_
   simp only [hg346,qy (g:=186),z6,f341,zx,qh,jx,zt,zj,n7,n8,n9,qu,zh,B0,
     reduceIte,a8]
   refine qo (v := .int .i64 x7.Term) ((a1y (o:=0) hv287 rfl hx8 (s9 hS338) (nle rfl)).trans rfl) ?_
   simp only [hg346,qy (g:=186),z6,kd,qh,ya,kf,zz,za,qr,B0,reduceIte,a8]
   have e356:=qg hF353
   exact hN345 _ _ ⟨(a0i (a0i (a0i (a0i (o8 hS338))))),by rw [←e356]; simp only [B0,reduceIte,a8],f339,f340,f341,f342⟩
 rintro fr357 h363 ⟨hS364,f358,f359,f360,f361,f362⟩
 simp only [s5,t6]
 simp only [f358,zx,qh,B0,reduceIte,a8]
 refine qaj 9 (fun fr' h'=>Sep h' lo (c284++([Blk1 pb0 [d4,
   d5] 29]++(c292++(c296++(d7++(S0))))))∧fr' 212 = .bool (v347||(decide ((l9 .i64 ((2:Int)*s335)) ≤
   (o6 d8.Peers:Int))))∧fr' 3 = .ref [.int .i64 a9.Kind,.int .i64 a9.K,.int .i64 a9.To,
   .int .i64 a9.N] 0∧fr' 5 = .ptr b10 (a9.K.toNat*5)) rfl (fun Q365 hN366=>?_) ?_
 ·simp only [r8,t8]
  simp only [qy (g:=203),B0,reduceIte,a8]
  refine ye (t:=v347) (fun hg367=>?_) (fun hg367=>?_)
  ·simp only [hg367,qy (g:=203),xy,kf,qh,z1,za,qr,B0,reduceIte,a8]
   exact hN366 _ _ ⟨(a0i (p9 (a0i (a0i (o8 hS364))))),by rw [orT hg367]; simp only [B0,reduceIte,a8],f360,f361⟩
  ·simp only [hg367,qy (g:=203),z6,f362,zx,qh,kd,qrr,f359,jx,zt,zj,n7,n8,n9,
    qu,zh,B0,reduceIte,a8]
   refine qo (v:=d4) ((jb (a0d _ _ _ hS364)).trans rfl) ?_
   simp only [hg367,qy (g:=203),z6,wo,qh,SlG.plen hv287,kd,qjo,kf,zz,za,qr,B0,reduceIte,a8]
   exact hN366 _ _ ⟨(a0i (p9 (a0i (a0i (o8 hS364))))),by rw [orF hg367]; simp only [B0,reduceIte,a8],f360,f361⟩
 rintro fr368 h372 ⟨hS373,f369,f370,f371⟩
 simp only [s5,t6]
 simp only [za,f369,qv,B0,reduceIte,a8]
 refine qs (t:=(v347||(decide ((l9 .i64 ((2:Int)*s335))≤(o6 d8.Peers:Int))))) (fun hc374=>?_) (fun hc374=>?_)
 ·rw [iteT hc374] at hF349
  simp only [qd,qc,qe,qa,qx,B0,reduceIte,a8]
  obtain ⟨c375,hv376,hS377⟩:=a1a (c:=c284) (os:=c292++(c296)) hv287 rfl hx8 zo (Peer.RI (x:=x7) hv293 hv297) (a07 (c1:=c292) (c2:=c296) (o8
    (p9 (p9 hS373))))
  have hv378:=a04 hv376
  have he:=qg hF349
  subst he
  simp only [q9,B0,reduceIte,a8]
  exact ⟨c375,d5,d7,by first | trivial | rfl,hv378,e8,(o8 (s9 (o8 hS377)))⟩
 rw [iteF hc374] at hF349
 simp only [qw,qyt,qd,qc,f371,qe,f370,ql,qb,n7,n8,n9,qn,qj,B0,reduceIte,a8]
 refine qf (v := .int .i64 a9.N) rfl ?_
 simp only [wt,qb,zt,ql,n7,n8,n9,qu,zd,B0,reduceIte,a8]
 refine kx (n:=5) (us:=[.int .i64 a9.N]) (cs:=[.int .i64 x7.Term,.bool x7.Leads,v291,.int .i64 x7.Commit,v295]) (o:=3) (cs':=[.int .i64 x7.Term,
   .bool x7.Leads,v291,.int .i64 a9.N,v295]) rfl hv287 rfl hx8 hS373 hW rfl rfl (nle rfl) rfl (fun c381 h379 hv382 hS380=>?_)
 simp only [qa,qd,qc,qe,qx,B0,reduceIte,a8]
 obtain ⟨c383,hv384,hS385⟩:=a20 (e':=(Peer.mk x7.Term x7.Leads x7.Log a9.N x7.Match)) (c:=c381) (os:=c292++(c296)) hv382 rfl hx8 zo (Peer.RI (x :=
   (Peer.mk x7.Term x7.Leads x7.Log a9.N x7.Match)) hv293 hv297) (a07 (c1:=c292) (c2:=c296) (o8 (p9 (p9 hS380))))
 have hx386:=jl (x':=(Peer.mk x7.Term x7.Leads x7.Log a9.N x7.Match)) hx8
 have hv387:=a04 hv384
 have he:=qg hF349
 subst he
 simp only [q9,B0,reduceIte,a8]
 exact ⟨c383,d5,d7,by first | trivial | rfl,hv387,e8,(o8 (s9 (o8 hS385)))⟩
theorem qi5 {W:Nat→Bool}{h:Heap}{lo:Nat→Prop}{S0:List Obj} (hW:∀ b,
  lo b→W b=true) (pv0:XV) (pc0:List Obj) (s_0:List Mail) (ph0:SlN Mail.R 9 86 pv0 s_0 pc0) (i_1:Int) (j_2:Int) (r:List Mail)
  (hF:w6 s_0 i_1 j_2=some r) (hS:Sep h lo (pc0++S0)) : Ret E W 74 [pv0,.int .i64 i_1,.int .i64 j_2] h (fun v h'=>∃ rv0 rc0,
  v=rv0∧SlN Mail.R 9 86 rv0 r rc0∧Sep h' lo (rc0++S0)):=zdl (R:=Mail.R) (n:=9) (ty:=86) (bytes:=88) (z:=[(.bool false),(.int .i64 0),(.int .i64 0),
  (.int .i64 0),(.int .i64 0),(.int .i64 0),.nil,(.int .i64 0),(.int .i64 0)]) rfl Mail.RO.len Mail.RO.one rfl rfl rfl hW ph0 hF hS
theorem qiy {W:Nat→Bool}{h:Heap}{lo:Nat→Prop}{S0:List Obj} (hW:∀ b,
  lo b→W b=true) {pv0:XV} {pc0:List Obj} {s_0:List Mail} {i_1:Int} {cs:List XV} {b:Nat} (ph0:SlG Mail.R 9 86 pv0 s_0 [(i_1.toNat,
  cs)] b pc0) (r:List Mail) (hF:w6 s_0 i_1 (l9 .i64 (i_1+1))=some r) (hS:Sep h lo (pc0++S0)) : Ret E W 74 [pv0,.int .i64 i_1,
  .int .i64 (l9 .i64 (i_1+1))] h (fun v h'=>∃ rv0 rc0,
  v=rv0∧SlN Mail.R 9 86 rv0 r rc0∧Sep h' lo (rc0++S0)):=zc4 (R:=Mail.R) (n:=9) (ty:=86) (bytes:=88) (z:=[(.bool false),(.int .i64 0),(.int .i64 0),
  (.int .i64 0),(.int .i64 0),(.int .i64 0),.nil,(.int .i64 0),(.int .i64 0)]) rfl Mail.RO.len Mail.RO.one rfl rfl rfl hW ph0 rfl hF hS
end Go.Proofs.Ytanblnjomhgphaa.X
