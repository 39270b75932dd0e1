/- The functions' code comes to what the plain functions say (3). -/
import Derived.Test.YtanblnjomhgphaaXAH2
open Go.IntKind renaming wrap→l9
open List renaming append_assoc→r9,drop_succ_cons→s5,drop_zero→t6,length→o6,nil_append→a0y,set→a0u,take_succ_cons→r8,take_zero→t8
open Nat renaming add_zero→n9,reduceAdd→n7,reduceEqDiff→a8,zero_add→n8
open Go.Proofs.Ytanblnjomhgphaa.X.Sep renaming bk→a0d,dc→a0g,m1→s9,m2→o8,m3→p9,m4→a0i,m5→v3,m6→a13,m7→a0h,ni2→a07,nil→a1x
open Go.Proofs.Ytanblnjomhgphaa.X.SlF renaming first→a31,ia→a2v,isrow→a1w,one→a0t,plen→a1o
open Go.Proofs.Ytanblnjomhgphaa.X.SlG renaming cls0→a1a,cls→a20,one→a3c,toN→a04
open Go.Proofs.Ytanblnjomhgphaa.X.SlN renaming free1→a2s,nil→a2o,one→a0j
set_option linter.unusedVariables false
set_option linter.unusedSimpArgs false
set_option maxRecDepth 100000
set_option maxHeartbeats 1000000
namespace Go.Proofs.Ytanblnjomhgphaa.X
open Go
theorem qhw {W:Nat→Bool}{h:Heap} (hW:∀ b,
  (geL h.length) b→W b=true) (peers_0:Int) (i9:List RaftStep) (r:Raft × (List Bool) × Bool) (hF:qas peers_0 i9=some r) : Ret E W 7 [.int .i64 peers_0,
  lst zb i9] h (fun v h'=>∃ i8 g9 i2 i0 rv1 rc1,v = .tup [.agg [i8,i2],rv1,
  .bool r.2.2]∧SlN Peer.R 5 43 i8 r.1.Peers g9∧SlN Mail.R 9 86 i2 r.1.Mail i0∧SlF cB 1 4 rv1 r.2.1 rc1∧Sep h' (geL h.length) (g9++(i0++(rc1 ++
  ([]))))):=by
 refine Ret.of (fn:=x7) rfl (Run.of ?_)
 unfold qas at hF
 have zf0:zf [.int .i64 peers_0,lst zb i9] 0 = .int .i64 peers_0:=rfl
 have zf1:zf [.int .i64 peers_0,lst zb i9] 1=lst zb i9:=rfl
 generalize zf [.int .i64 peers_0,lst zb i9]=fr0 at zf0 zf1 ⊢
 have hS:Sep h (geL h.length) []:=a1x h
 simp only [x7,qd,qc,jm,B0,reduceIte,a8]
 refine z3 hS (fun b1 h2 hS3=>?_)
 simp only [qe,qa,q9t,qd,qc,zf0,zp,B0,reduceIte,a8]
 refine kh rfl (qp zg (qp zg (qp zg zm))) (qcb (fun b hb=>decide_eq_true hb) peers_0 1 5 _ rfl) ?_
 simp only [yk,qb,yw,qe,B0,reduceIte,a8]
 refine ki 4 (fun fr' h'=>Sep h' (geL h.length) ([Blk1 b1 [.nil,
   .nil] 29]++([]))∧fr' 20 = .bool ((!(jh peers_0 1 5))||(decide ((100:Int) <
   (o6 i9:Int))))∧fr' 0 = .int .i64 peers_0∧fr' 1=lst zb i9∧fr' 4 = .ptr b1 0) (fun Q5 hN6=>?_) ?_
 ·simp only [r8,t8]
  simp only [qm (g:=16),B0,reduceIte,a8]
  refine zv (t:=(!(jh peers_0 1 5))) (fun hg7=>?_) (fun hg7=>?_)
  ·simp only [hg7,qm (g:=16),jp,zk,qb,z1,qa,qr,B0,reduceIte,a8]
   exact hN6 _ _ ⟨hS3,by rw [orT hg7]; simp only [B0,reduceIte,a8],zf0,zf1,rfl⟩
  ·simp only [hg7,qm (g:=16),zi,zf1,qe,zr,qb,ja,qq,ur,zk,zz,qa,qr,B0,reduceIte,
    a8]
   exact hN6 _ _ ⟨hS3,by rw [orF hg7]; simp only [B0,reduceIte,a8],zf0,zf1,rfl⟩
 rintro fr8 h13 ⟨hS14,f9,f10,f11,f12⟩
 simp only [s5,t6]
 simp only [qa,zdq,f9,qv,B0,reduceIte,a8]
 refine qs (t:=((!(jh peers_0 1 5))||(decide ((100:Int)<(o6 i9:Int))))) (fun hc15=>?_) (fun hc15=>?_)
 ·rw [iteT hc15] at hF
  simp only [zdk,qd,qc,run_build,evp,B0,reduceIte,a8]
  refine qf (v := .agg [.nil,.nil]) rfl ?_
  simp only [f12,zd,B0,reduceIte,a8]
  refine qz (us:=[.nil,.nil]) rfl (cs':=[.nil,.nil]) hS14 hW rfl rfl (nle rfl) rfl (fun h16 hS17=>?_)
  simp only [qe,qa,qx,B0,reduceIte,a8]
  have he:=qg hF
  subst he
  refine jf (qp (jk (bb:=b1) (oo:=0) (v := .agg [.nil,
    .nil]) (f12) ((zq (a0d _ _ _ hS17)).trans rfl)) (qp (kp (v := .nil) (rfl)) (qp (kp (v := .bool false) (rfl)) zm))) ?_
  exact ⟨.nil,[],.nil,[],.nil,[],by first | trivial | rfl,a2o,a2o,SlF.nil,((a0g (hS17)) : Sep _ (geL h.length) ([]))⟩
 rw [iteF hc15] at hF
 obtain ⟨v18,hx19,hF20⟩:=qi hF
 simp only [qw,q3h,qd,qc,f10,qe,zp,B0,reduceIte,a8]
 refine qdz rfl hS14 (qp zg zm) (qmy (fun b hb=>decide_eq_true hb) peers_0 v18 hx19) ?_
 rintro _ h29 ⟨v21,c22,v25,c26,rfl,hv23,hv27,hS30⟩
 refine ⟨_,ql0 (qk (a2s hv23) (qk (a2s hv27) zl)),hS30,(yz (SlN.pf hv23 Peer.RO) (yz (SlN.pf hv27 Mail.RO) qb4)),fun h31 hS32=>?_⟩
 have hS33:Sep h31 (geL h.length) (c22++(c26++([Blk1 b1 [.nil,.nil] 29]++([])))):=by simpa only [r9,a0y] using hS32
 simp only [jm,B0,reduceIte,a8]
 refine z3 hS33 (fun b34 h35 hS36=>?_)
 simp only [zd,B0,reduceIte,a8]
 refine qz (us:=[v21,v25]) rfl (cs':=[v21,v25]) hS36 hW rfl (qk (a0j hv23) (qk (a0j hv27) zl)) (nle rfl) rfl (fun h38 hS39=>?_)
 simp only [qa,q54,qd,qc,kc,evp,B0,reduceIte,a8]
 refine ku (n:=1) (f:=cB) ([] : List Bool) hS39 rfl rfl (fun v40 c41 h42 hv43 hS44=>?_)
 simp only [qe,qa,q3q,qd,qc,f11,zr,qb,ja,B0,reduceIte,a8]
 obtain ⟨oc76,hX78,hk79⟩:=jz hF20
 simp only [zdi]
 refine qao (σ:=(List Bool) × Raft) i9 (fun i74 x75 s178=>xv i74 x75 s178.1 s178.2) (fun s fr' h'=>∃ v62 c63 v67 c68 v71 c72,
   fr' 4 = .ptr b1 0∧fr' 7 = .ptr b34 0∧fr' 8=v62∧fr' 25=lst zb i9∧SlF cB 1 4 v62 s.1 c63∧SlN Peer.R 5 43 v67 s.2.Peers c68∧SlN Mail.R 9 86 v71 s.2.Mail c72∧Sep h'
   (geL h.length) ([Blk1 b1 [.nil,.nil] 29]++([Blk1 b34 [v67,v71] 29]++(c63++(c68++(c72++([]))))))) hX78 ⟨v40,c41,v21,c22,v25,c26,f12,rfl,rfl,rfl,hv43,
   hv23,hv27,(a0i (p9 (o8 (p9 (p9 hS44)))))⟩ (by simp only [B0,reduceIte,a8]) (by simp only [B0,reduceIte,
   a8]) (fun _ _ _ h=>h) rfl rfl (fun _ _ _ _ h=>h) (fun _ _ _ _ h=>h) (fun _ _ _ _ h=>h) (by decide) ?_ ?_
 ·rintro i74 x75 ⟨s60,s65⟩ fr88 h89 hx95 ⟨v62,c63,v67,c68,v71,c72,f91,f92,f93,f94,hv64,hv69,hv73,hS90⟩ f96 f97 oc77 hF80 hr81 Q82 hN83 hB87 hK84 hR85 hE86
  dsimp only at *
  unfold xv at hF80
  simp only [zcp,qd,qc,f94,f96,zu,B0,reduceIte,a8]
  refine qf (v := .ref (zb x75) 0) (qam hx95 rfl) ?_
  simp only [qj,B0,reduceIte,a8]
  refine qf (v := .agg [.int .i64 x75.Kind,.int .i64 x75.K,.int .i64 x75.To,.int .i64 x75.N]) rfl ?_
  simp only [jm,B0,reduceIte,a8]
  refine z3 hS90 (fun b98 h99 hS100=>?_)
  simp only [zd,B0,reduceIte,a8]
  refine qz (us:=[.int .i64 x75.Kind,.int .i64 x75.K,.int .i64 x75.To,.int .i64 x75.N]) rfl (cs':=[.int .i64 x75.Kind,.int .i64 x75.K,.int .i64 x75.To,
    .int .i64 x75.N]) hS100 hW rfl rfl (nle rfl) rfl (fun h102 hS103=>?_)
  simp only [qa,B0,reduceIte,a8]
  refine z8 hS103 hW (by simp only [B0,reduceIte,a8]) (fun h104 hS105=>?_)
  simp only [z7,zcj,qd,qc,f92,qj,B0,reduceIte,a8]
  refine qf (v := .agg [v67,v71]) ((zq (a0d _ _ _ (s9 hS105))).trans rfl) ?_
  simp only [qj,B0,reduceIte,a8]
  refine qf (v := .agg [.int .i64 x75.Kind,.int .i64 x75.K,.int .i64 x75.To,.int .i64 x75.N]) rfl ?_
  obtain ⟨v106,hx107,hF108⟩:=qi hF80
  simp only [zp,B0,reduceIte,a8]
  refine qdz rfl hS105 (qp (yf (qp (SlN.snap hv69 _ (p9 hS105) rfl Peer.RO) (qp (SlN.snap hv73 _ (a0i hS105) rfl Mail.RO) zm))) (qp (yf
    (qp zg (qp zg (qp zg (qp zg zm))))) zm)) (qkq (fun b hb=>decide_eq_true hb) s65 x75 v106 hx107) ?_
  rintro _ h117 ⟨v109,c110,v113,c114,rfl,hv111,hv115,hS118⟩
  refine ⟨_,qjk (qk (qil (qk (a2s hv111) (qk (a2s hv115) zl))) (qk rfl zl)),hS118,
    (yz (SlN.pf hv111 Peer.RO) (yz (SlN.pf hv115 Mail.RO) qb4)),fun h119 hS120=>?_⟩
  have hS121:Sep h119 (geL h.length) (c110++(c114++([Blk1 b1 [.nil,.nil] 29]++([Blk1 b34 [v67,
    v71] 29]++(c63++(c68++(c72++([])))))))):=by simpa only [r9,a0y] using hS120
  simp only [qe,qek,qb,qe7,qey,jm,B0,reduceIte,a8]
  refine z3 hS121 (fun b122 h123 hS124=>?_)
  simp only [zd,B0,reduceIte,a8]
  refine qz (us:=[v109,v113]) rfl (cs':=[v109,v113]) hS124 hW rfl (qk (a0j hv111) (qk (a0j hv115) zl)) (nle rfl) rfl (fun h126 hS127=>?_)
  simp only [qe,qa,B0,reduceIte,a8]
  refine z8 hS127 hW (by simp only [B0,reduceIte,a8]) (fun h128 hS129=>?_)
  simp only [z7,zcq,qd,qc,qe,qa,zct,qv,B0,reduceIte,a8]
  obtain ⟨s130,hX140,hk141⟩:=qi hF108
  refine xh (t:=v106.2) (fun fr' h'=>∃ v132 c133 v136 c137,
    fr' 4 = .ptr b1 0∧fr' 7 = .ptr b34 0∧fr' 8=v62∧fr' 12 = .bool v106.2∧fr' 25=lst zb i9∧fr' 26 = .int .i64
    (o6 i9:Int)∧fr' 27 = .int .i64 (i74:Int)∧SlN Peer.R 5 43 v132 s130.Peers c133∧SlN Mail.R 9 86 v136 s130.Mail c137∧Sep h' (geL h.length)
    ([Blk1 b1 [.nil,.nil] 29]++([Blk1 b34 [v132,v136] 29]++(c63++(c133++(c137++([]))))))) (fun Q142 hN143 hR144 hE145=>⟨fun hc146=>?_,fun hc146=>?_⟩) ?_
  ·rw [iteT hc146] at hX140
   simp only [qc,qj,B0,reduceIte,a8]
   refine qf (v := .agg [v109,v113]) rfl ?_
   simp only [f92,zd,B0,reduceIte,a8]
   refine qz (us:=[v109,v113]) rfl (cs':=[v109,
     v113]) (p9 hS129) hW rfl (qk (a0j hv111) (qk (a0j hv115) zl)) (nle rfl) rfl (fun h147 hS148=>?_)
   simp only [qa,qr,B0,reduceIte,a8]
   have e149:=qg hX140
   subst e149
   exact hN143 _ _ ⟨v109,c110,v113,c114,f91,f92,f93,rfl,f94,f97,f96,hv111,hv115,
     (a0i (p9 (a0i (o8 (o8 (a0g (v3 (a0g (v3 hS148)))))))))⟩
  ·rw [iteF hc146] at hX140
   simp only [qw,qr,B0,reduceIte,a8]
   have e150:=qg hX140
   subst e150
   exact hN143 _ _ ⟨v67,c68,v71,c72,f91,f92,f93,rfl,f94,f97,f96,hv69,hv73,(a0i (a0i (a0i (a0i (a0i (a0g ((a0g (hS129)))))))))⟩
  rintro fr151 h152 ⟨v132,c133,v136,c137,f154,f155,f156,f157,f158,f159,f160,hv134,hv138,hS153⟩
  unfold qcj at hk141
  simp only [zdp,qc,f156,qe,f157,kc,evp,B0,reduceIte,a8]
  refine ku (n:=1) (f:=cB) [v106.2] hS153 rfl rfl (fun v161 c162 h163 hv164 hS165=>?_)
  simp only [wc,B0,reduceIte,a8]
  obtain ⟨l167,hx168,hF169⟩:=qi hk141
  refine ws (f:=cB) hv64 (p9 hS165) hW (fun _=>rfl) (fun _=>rfl) (a31 hv164 hS165 (fun _=>rfl)) hx168 (fun v170 c171 h172 hv173 hS174=>?_)
  simp only [qe,qa,qr,B0,reduceIte,a8]
  have e176:=qg hF169
  exact hN83 _ _ _ e176.symm ⟨v170,c171,v132,c133,v136,c137,f154,f155,rfl,f158,hv173,hv134,hv138,
    (a0i (a0i (o8 (a0i (a0i (a0g (s9 hS174)))))))⟩ (f160) (f159)
 rintro ⟨s179,s184⟩ fr193 h194 rfl ⟨v181,c182,v186,c187,v190,c191,f196,f197,f198,f199,hv183,hv188,hv192,hS195⟩
 dsimp only [jnO] at hk79
 dsimp only at *
 unfold qg8 at hk79
 simp only [q4x,qd,qc,f197,qj,B0,reduceIte,a8]
 refine qf (v := .agg [v186,v190]) ((zq (a0d _ _ _ (s9 hS195))).trans rfl) ?_
 simp only [f198,qe,f196,zd,B0,reduceIte,a8]
 refine qz (us:=[v186,v190]) rfl (cs':=[v186,v190]) hS195 hW rfl (qk (a0j hv188) (qk (a0j hv192) zl)) (nle rfl) rfl (fun h200 hS201=>?_)
 simp only [qe,qa,qx,B0,reduceIte,a8]
 have he:=qg hk79
 subst he
 refine jf (qp (jk (bb:=b1) (oo:=0) (v := .agg [v186,
   v190]) (f196) ((zq (a0d _ _ _ hS201)).trans rfl)) (qp (kp (v:=v181) (rfl)) (qp (kp (v := .bool true) (rfl)) zm))) ?_
 exact ⟨v186,c187,v190,c191,v181,c182,by first | trivial | rfl,hv188,hv192,hv183,(o8 (o8 (a0g ((a0g (hS201))))))⟩
theorem qfr {W:Nat→Bool}{h:Heap} (hW:∀ b,
  (geL h.length) b→W b=true) (l6:Int) (lo_1:Int) (hi_2:Int) (r:Bool) (hF:some (yc l6 lo_1 hi_2)=some r) : Ret E W 63 [.int .i64 l6,.int .i64 lo_1,
  .int .i64 hi_2] h (fun v h'=>cut h.length h' E.sz false 9 v=some (.bool r)):=by
 refine Ret.of (fn:=x63) rfl (Run.of ?_)
 unfold yc at hF
 have zf0:zf [.int .i64 l6,.int .i64 lo_1,.int .i64 hi_2] 0 = .int .i64 l6:=rfl
 have zf1:zf [.int .i64 l6,.int .i64 lo_1,.int .i64 hi_2] 1 = .int .i64 lo_1:=rfl
 have zf2:zf [.int .i64 l6,.int .i64 lo_1,.int .i64 hi_2] 2 = .int .i64 hi_2:=rfl
 generalize zf [.int .i64 l6,.int .i64 lo_1,.int .i64 hi_2]=fr0 at zf0 zf1 zf2 ⊢
 have hS:Sep h (geL h.length) []:=a1x h
 simp only [x63,qd,qc,qe,qa,q73,zf0,zf1,qq,qb,qhi,B0,reduceIte,a8]
 refine ki 4 (fun fr' h'=>Sep h' (geL h.length) ([])∧fr' 14 = .bool ((decide (lo_1≤l6))&&(decide (l6≤hi_2)))) (fun Q1 hN2=>?_) ?_
 ·simp only [r8,t8]
  simp only [qm (g:=10),B0,reduceIte,a8]
  refine zv (t:=(decide (lo_1≤l6))) (fun hg3=>?_) (fun hg3=>?_)
  ·simp only [hg3,qm (g:=10),jg,zf0,qe,zf2,qq,qb,qjo,zk,z1,qa,qr,B0,reduceIte,a8]
   exact hN2 _ _ ⟨hS,by rw [qew hg3]; simp only [B0,reduceIte,a8]⟩
  ·simp only [hg3,qm (g:=10),wd,zk,qb,zz,qa,qr,B0,reduceIte,a8]
   exact hN2 _ _ ⟨hS,by rw [qeu hg3]; simp only [B0,reduceIte,a8]⟩
 rintro fr4 h6 ⟨hS7,f5⟩
 simp only [s5,t6]
 simp only [f5,qe,qa,qx,B0,reduceIte,a8]
 have he:=qg hF
 subst he
 simp only [q9,B0,reduceIte,a8]
 exact rfl
theorem qmp {W:Nat→Bool}{h:Heap} (hW:∀ b,
  (geL h.length) b→W b=true) (k:Nat) (peers_0:Int) (r:Raft × Bool) (hF:qc5 k peers_0=some r) : Ret E W 40 [.int .i64 peers_0] h
  (fun v h'=>∃ i8 g9 i2 i0,v = .tup [.agg [i8,i2],
  .bool r.2]∧SlN Peer.R 5 43 i8 r.1.Peers g9∧SlN Mail.R 9 86 i2 r.1.Mail i0∧Sep h' (geL h.length) (g9++(i0++([])))):=by
 refine Ret.of (fn:=x40) rfl (Run.of ?_)
 unfold qc5 at hF
 have zf0:zf [.int .i64 peers_0] 0 = .int .i64 peers_0:=rfl
 generalize zf [.int .i64 peers_0]=fr0 at zf0 ⊢
 have hS:Sep h (geL h.length) []:=a1x h
 simp only [x40,qd,qc,jm,B0,reduceIte,a8]
 refine z3 hS (fun b1 h2 hS3=>?_)
 simp only [qe,qa,q52,qd,qc,zf0,zp,B0,reduceIte,a8]
 refine kh rfl (qp zg (qp zg (qp zg zm))) (qfr (fun b hb=>decide_eq_true hb) peers_0 1 5 _ rfl) ?_
 simp only [yk,qb,yw,qa,q41,qv,B0,reduceIte,a8]
 refine qs (t:=(!(yc peers_0 1 5))) (fun hc5=>?_) (fun hc5=>?_)
 ·rw [iteT hc5] at hF
  simp only [qd,qc,run_build,evp,B0,reduceIte,a8]
  refine qf (v := .agg [.nil,.nil]) rfl ?_
  simp only [zd,B0,reduceIte,a8]
  refine qz (us:=[.nil,.nil]) rfl (cs':=[.nil,.nil]) hS3 hW rfl rfl (nle rfl) rfl (fun h6 hS7=>?_)
  simp only [qe,qa,qx,B0,reduceIte,a8]
  have he:=qg hF
  subst he
  refine jf (qp (jk (bb:=b1) (oo:=0) (v := .agg [.nil,
    .nil]) (rfl) ((zq (a0d _ _ _ hS7)).trans rfl)) (qp (kp (v := .bool false) (rfl)) zm)) ?_
  exact ⟨.nil,[],.nil,[],by first | trivial | rfl,a2o,a2o,((a0g (hS7)) : Sep _ (geL h.length) ([]))⟩
 rw [iteF hc5] at hF
 simp only [qw,q7n,qd,qc,jm,B0,reduceIte,a8]
 refine z3 hS3 (fun b8 h9 hS10=>?_)
 simp only [qa,q4y,qd,qc,qe,B0,reduceIte,a8]
 obtain ⟨oc26,hX28,hk29⟩:=jz hF
 simp only [q4i]
 refine wg (σ:=Int × Raft) (fun s75=>qeo peers_0 s75.1 s75.2) (fun s fr' h'=>∃ v21 c22,
   fr' 0 = .int .i64 peers_0∧fr' 2 = .ptr b1 0∧fr' 4 = .ptr b8 0∧fr' 5 = .int .i64 s.1∧SlN Peer.R 5 43 v21 s.2.Peers c22∧Sep h' (geL h.length) ([Blk1 b1 [.nil,
   .nil] 29]++([Blk1 b8 [v21,.nil] 29]++(c22++([]))))) hX28 ⟨.nil,[],zf0,rfl,rfl,rfl,a2o,((s9 hS10) : Sep _ (geL h.length) ([Blk1 b1 [.nil,
   .nil] 29]++([Blk1 b8 [.nil,.nil] 29]++([]))))⟩ (fun _ _ _ h=>h) ?_ ?_
 ·rintro ⟨s18,s19⟩ fr38 h39 ⟨v21,c22,f41,f42,f43,f44,hv23,hS40⟩ oc27 hF30 hr31 Q32 hN33 hK34 hR35 hE36
  dsimp only at *
  unfold qeo at hF30
  simp only [q80,qd,qc,f44,qe,f41,qq,qb,yg,qa,qv,B0,reduceIte,a8]
  refine qs (t:=(decide (s18<peers_0))) (fun hc46=>?_) (fun hc46=>?_)
  ·rw [iteT hc46] at hF30
   simp only [qw,q68,qd,j5,q3a,z9,f43,zj,qh,n7,n8,n9,qu,zh,B0,reduceIte,
     a8]
   refine qo (v:=v21) ((jb (a0d _ _ _ (s9 hS40))).trans rfl) ?_
   obtain ⟨l47,hx48,hF49⟩:=qi hF30
   simp only [f41,zx,qh,qon,B0,reduceIte,a8]
   refine qiv (f:=cI) (z:=(0:Int)) hS40 hx48 rfl (fun v50 c51 h52 hv53 hS54=>?_)
   simp only [qfc,evp,B0,reduceIte,a8]
   refine qo (v := .agg [.int .i64 0,.bool false,.nil,.int .i64 0,v50]) (qke (qd1 (us:=[v50]) (vs:=[.int .i64 0,.bool false,.nil,.int .i64 0,
     v50]) (jj (a0t hv53)) rfl (nle rfl) (qk (a0t hv53) zl) rfl qd2)) ?_
   simp only [qbc,evp,B0,reduceIte,a8]
   refine qd5 (R:=Peer.R) (n:=5) (cs:=[.int .i64 0,.bool false,.nil,.int .i64 0,
     v50]) (os:=[]++(c51)) (Sep.bi2 (c1:=[]) (c2:=c51) (S:=([Blk1 b1 [.nil,.nil] 29]++([Blk1 b8 [v21,
     .nil] 29]++(c22++([]))))) (hS54:Sep _ (geL h.length) (c51++([Blk1 b1 [.nil,.nil] 29]++([Blk1 b8 [v21,
     .nil] 29]++(c22++([]))))))) (qd1 (us:=[.int .i64 0,.bool false,.nil,.int .i64 0,v50]) (vs:=[.int .i64 0,.bool false,.nil,.int .i64 0,
     v50]) rfl rfl (nle rfl) (qk rfl (qk rfl (qk rfl (qk rfl (qk (a0t hv53) zl))))) rfl qd2) (Peer.RI (x :=
     (Peer.mk 0 false [] 0 l47)) SlF.nil hv53) rfl (fun v56 c57 h58 hv59 hS60=>?_)
   simp only [qfz,B0,reduceIte,a8]
   obtain ⟨l62,hx63,hF64⟩:=qi hF49
   refine qgp (R:=Peer.R) (c:=c22) hv23 hv59 (p9 hS60) hW Peer.RO.len Peer.RO.one hx63 (fun v65 c66 h67 hv68 hS69=>?_)
   simp only [f43,zj,qh,n7,n8,n9,qu,xx,B0,reduceIte,a8]
   refine u9 (us:=[v65]) (jj (a0j hv68)) (cs':=[v65,.nil]) (o8 hS69) hW rfl (qk (a0j hv68) zl) (nle rfl) rfl (fun h71 hS72=>?_)
   simp only [za,kg,qc,f44,qe,qq,qb,j8,qa,qr,B0,reduceIte,a8]
   have e73:=qg hF64
   exact hN33 _ _ _ e73.symm ⟨v65,c66,f41,f42,f43,rfl,hv68,(o8 (s9 (s9 hS72)))⟩
  rw [iteF hc46] at hF30
  simp only [yn,yl,y8,B0,reduceIte,a8]
  have e74:=qg hF30
  exact hK34 _ _ _ e74.symm ⟨v21,c22,f41,f42,f43,f44,hv23,(o8 (o8 (o8 hS40)))⟩
 rintro ⟨s76,s77⟩ fr82 h83 rfl ⟨v79,c80,f85,f86,f87,f88,hv81,hS84⟩
 dsimp only [jnO] at hk29
 dsimp only at *
 unfold qhz at hk29
 simp only [qd,qc,f87,qj,B0,reduceIte,a8]
 refine qf (v := .agg [v79,.nil]) ((zq (a0d _ _ _ (s9 hS84))).trans rfl) ?_
 simp only [f86,zd,B0,reduceIte,a8]
 refine qz (us:=[v79,.nil]) rfl (cs':=[v79,.nil]) hS84 hW rfl (qk (a0j hv81) (qk rfl zl)) (nle rfl) rfl (fun h89 hS90=>?_)
 simp only [qe,qa,qx,B0,reduceIte,a8]
 have he:=qg hk29
 subst he
 refine jf (qp (jk (bb:=b1) (oo:=0) (v := .agg [v79,.nil]) (f86) ((zq (a0d _ _ _ hS90)).trans rfl)) (qp (kp (v := .bool true) (rfl)) zm)) ?_
 exact ⟨v79,c80,.nil,[],by first | trivial | rfl,hv81,a2o,((a0g ((a0g (hS90)))) : Sep _ (geL h.length) (c80++([])))⟩
theorem qhr {W:Nat→Bool}{h:Heap} (hW:∀ b,
  (geL h.length) b→W b=true) (r_0:Raft) (k_1:Int) (r:Bool) (hF:some (jy r_0 k_1)=some r) : Ret E W 64 [.agg [lst ze r_0.Peers,
  lst zc r_0.Mail],.int .i64 k_1] h (fun v h'=>cut h.length h' E.sz false 9 v=some (.bool r)):=by
 refine Ret.of (fn:=x64) rfl (Run.of ?_)
 unfold jy at hF
 have zf0:zf [.agg [lst ze r_0.Peers,lst zc r_0.Mail],.int .i64 k_1] 0 = .agg [lst ze r_0.Peers,lst zc r_0.Mail]:=rfl
 have zf1:zf [.agg [lst ze r_0.Peers,lst zc r_0.Mail],.int .i64 k_1] 1 = .int .i64 k_1:=rfl
 generalize zf [.agg [lst ze r_0.Peers,lst zc r_0.Mail],.int .i64 k_1]=fr0 at zf0 zf1 ⊢
 have hS:Sep h (geL h.length) []:=a1x h
 simp only [x64,qd,qc,kt,zf0,B0,reduceIte,a8]
 refine j0 (cs:=[lst ze r_0.Peers,lst zc r_0.Mail]) hS rfl rfl rfl (fun b1 h2 hS3=>?_)
 simp only [qe,qa,B0,reduceIte,a8]
 refine z8 hS3 hW (by simp only [B0,reduceIte,a8]) (fun h5 hS6=>?_)
 simp only [z7,q6m,qd,qc,zf1,qe,qq,qb,qhi,B0,reduceIte,a8]
 refine ki 6 (fun fr' h'=>Sep h' (geL h.length) ([])∧fr' 13 = .bool ((decide ((0:Int)≤k_1))&&(decide (k_1<(o6 r_0.Peers:Int))))) (fun Q7 hN8=>?_) ?_
 ·simp only [r8,t8]
  simp only [qm (g:=7),B0,reduceIte,a8]
  refine zv (t:=(decide ((0:Int)≤k_1))) (fun hg9=>?_) (fun hg9=>?_)
  ·simp only [hg9,qm (g:=7),jg,zf1,qe,ql,qb,n7,n8,n9,qn,qj,B0,reduceIte,a8]
   refine qf (v:=lst ze r_0.Peers) rfl ?_
   simp only [hg9,qm (g:=7),jg,zr,qb,ja,qq,yg,zk,z1,qa,qr,B0,reduceIte,a8]
   exact hN8 _ _ ⟨hS6,by rw [qew hg9]; simp only [B0,reduceIte,a8]⟩
  ·simp only [hg9,qm (g:=7),wd,zk,qb,zz,qa,qr,B0,reduceIte,a8]
   exact hN8 _ _ ⟨hS6,by rw [qeu hg9]; simp only [B0,reduceIte,a8]⟩
 rintro fr10 h12 ⟨hS13,f11⟩
 simp only [s5,t6]
 simp only [f11,qe,qa,qx,B0,reduceIte,a8]
 have he:=qg hF
 subst he
 simp only [q9,B0,reduceIte,a8]
 exact rfl
end Go.Proofs.Ytanblnjomhgphaa.X
namespace Go.Proofs.Ytanblnjomhgphaa.X
open Go
theorem qhg {W:Nat→Bool}{h:Heap}{lo:Nat→Prop}{S0:List Obj} (hW:∀ b,
  lo b→W b=true) (d8:Raft) (d4:XV) (f6:List Obj) (e9:SlN Peer.R 5 43 d4 d8.Peers f6) (d5:XV) (d7:List Obj)
  (e8:SlN Mail.R 9 86 d5 d8.Mail d7) (a9:Mail) (f0:XV) (g8:List Obj) (i4:SlF qt 2 65 f0 a9.Entry g8) (r:Raft × Mail)
  (hF:xq d8 a9=some r) (hS:Sep h lo (f6++(d7++(g8++(S0))))) : Ret E W 93 [.agg [d4,d5],.agg [.bool a9.Reply,.int .i64 a9.From,
  .int .i64 a9.To,.int .i64 a9.Term,.int .i64 a9.Prev,.int .i64 a9.PTerm,f0,.int .i64 a9.Commit,.int .i64 a9.Match]] h (fun v h'=>∃ g9 i2 i0 ic1_6,
  v = .agg [d4,i2]∧SlN Peer.R 5 43 d4 r.1.Peers g9∧SlN Mail.R 9 86 i2 r.1.Mail i0∧SlF qt 2 65 f0 r.2.Entry ic1_6∧Sep h' lo (g9 ++
  (i0++(ic1_6++(S0))))):=by
 refine Ret.of (fn:=x93) rfl (Run.of ?_)
 unfold xq at hF
 have zf0:zf [.agg [d4,d5],.agg [.bool a9.Reply,.int .i64 a9.From,.int .i64 a9.To,.int .i64 a9.Term,.int .i64 a9.Prev,.int .i64 a9.PTerm,f0,
   .int .i64 a9.Commit,.int .i64 a9.Match]] 0 = .agg [d4,d5]:=rfl
 have zf1:zf [.agg [d4,d5],.agg [.bool a9.Reply,.int .i64 a9.From,.int .i64 a9.To,.int .i64 a9.Term,.int .i64 a9.Prev,.int .i64 a9.PTerm,f0,
   .int .i64 a9.Commit,.int .i64 a9.Match]] 1 = .agg [.bool a9.Reply,.int .i64 a9.From,.int .i64 a9.To,.int .i64 a9.Term,.int .i64 a9.Prev,.int .i64 a9.PTerm,
   f0,.int .i64 a9.Commit,.int .i64 a9.Match]:=rfl
 generalize zf [.agg [d4,d5],.agg [.bool a9.Reply,.int .i64 a9.From,.int .i64 a9.To,.int .i64 a9.Term,.int .i64 a9.Prev,.int .i64 a9.PTerm,f0,
   .int .i64 a9.Commit,.int .i64 a9.Match]]=fr0 at zf0 zf1 ⊢
 simp only [x93,qd,qc,kt,zf0,B0,reduceIte,a8]
 refine j0 (cs:=[d4,d5]) hS rfl rfl (qk (a0j e9) (qk (a0j e8) zl)) (fun b1 h2 hS3=>?_)
 simp only [kt,zf1,B0,reduceIte,a8]
 refine j0 (cs:=[.bool a9.Reply,.int .i64 a9.From,.int .i64 a9.To,.int .i64 a9.Term,.int .i64 a9.Prev,.int .i64 a9.PTerm,f0,.int .i64 a9.Commit,
   .int .i64 a9.Match]) hS3 rfl rfl (qk rfl (qk rfl (qk rfl (qk rfl (qk rfl (qk rfl (qk (a0t i4) (qk rfl (qk rfl zl)))))))))
   (fun b5 h6 hS7=>?_)
 simp only [jm,B0,reduceIte,a8]
 refine z3 hS7 (fun b9 h10 hS11=>?_)
 simp only [qa,B0,reduceIte,a8]
 refine z8 (s9 hS11) hW (by simp only [B0,reduceIte,a8]) (fun h13 hS14=>?_)
 simp only [z7,qwo,qd,qc,ql,qb,n7,n8,n9,qu,qj,B0,reduceIte,a8]
 refine qf (v:=d4) ((jb (a0d _ _ _ (s9 hS14))).trans rfl) ?_
 simp only [ql,qb,n7,n8,n9,qn,qj,B0,reduceIte,a8]
 refine qf (v := .int .i64 a9.To) rfl ?_
 obtain ⟨x15,hx16,hF17⟩:=qi hF
 simp only [zu,B0,reduceIte,a8]
 obtain ⟨b18,hb19⟩:=SlN.isrow e9 (jq hx16)
 refine qf (SlN.ia e9 hb19 hx16) ?_
 obtain ⟨c20,cs21,os22,hv23,hR24,hS25⟩:=SlG.opn (SlN.toG e9 hb19 Peer.RO.len) hx16 zo Peer.RO.len (o8 hS14)
 obtain ⟨v27,c28,v31,c32,hv29,hv33,rfl,rfl⟩:=hR24
 have hS26:=Sep.no2 hS25
 simp only [qj,B0,reduceIte,a8]
 refine qf (v := .agg [.int .i64 x15.Term,.bool x15.Leads,v27,.int .i64 x15.Commit,v31]) ((SlG.lds (o:=0) hv23 rfl hx16 hS26 (nle rfl)).trans rfl) ?_
 simp only [jm,B0,reduceIte,a8]
 refine z3 hS26 (fun b35 h36 hS37=>?_)
 simp only [zd,B0,reduceIte,a8]
 refine qz (us:=[.int .i64 x15.Term,.bool x15.Leads,v27,.int .i64 x15.Commit,v31]) rfl (cs':=[.int .i64 x15.Term,.bool x15.Leads,v27,.int .i64 x15.Commit,
   v31]) hS37 hW rfl (qk rfl (qk rfl (qk (a0t hv29) (qk rfl (qk (a0t hv33) zl))))) (nle rfl) rfl (fun h39 hS40=>?_)
 simp only [qa,quq,qd,z9,zj,qh,n7,n8,n9,qu,zh,B0,reduceIte,a8]
 refine qo (v:=v27) ((jb (a0d _ _ _ hS40)).trans rfl) ?_
 simp only [wo,qh,a1o hv29,zj,n7,n8,n9,qn,zh,B0,reduceIte,a8]
 refine qo (v := .int .i64 a9.Prev) rfl ?_
 simp only [kd,qh,yg,zx,B0,reduceIte,a8]
 obtain ⟨v44,hx45,hF46⟩:=qi hF17
 refine qaj 17 (fun fr' h'=>Sep h' lo ([Blk1 b1 [d4,d5] 29]++(g8++([Blk1 b9 [.nil,.nil] 29]++([Blk1 b35 [.int .i64 x15.Term,.bool x15.Leads,v27,
   .int .i64 x15.Commit,v31] 43]++(c20++(d7++(c28++(c32++(S0)))))))))∧fr' 40 = .bool v44∧fr' 2 = .ptr b1 0∧fr' 3 = .ref [.bool a9.Reply,
   .int .i64 a9.From,.int .i64 a9.To,.int .i64 a9.Term,.int .i64 a9.Prev,.int .i64 a9.PTerm,f0,.int .i64 a9.Commit,
   .int .i64 a9.Match] 0∧fr' 4 = .ptr b9 0∧fr' 5 = .ptr b35 0) rfl (fun Q41 hN42=>?_) ?_
 ·simp only [r8,t8]
  simp only [qy (g:=23),B0,reduceIte,a8]
  refine ye (t:=(decide ((o6 x15.Log:Int)<a9.Prev))) (fun hg43=>?_) (fun hg43=>?_)
  ·rw [iteT hg43] at hx45
   simp only [hg43,qy (g:=23),xy,qy (g:=27),qlh,kf,qh,z1,za,qr,B0,reduceIte,a8]
   have e47:=qg hx45
   exact hN42 _ _ ⟨(a0h (a0h (v3 (a0i (a0i (a13 (p9 (p9 hS40)))))))),by rw [←e47]; simp only [B0,reduceIte,a8],rfl,rfl,rfl,rfl⟩
  ·rw [iteF hg43] at hx45
   simp only [hg43,qy (g:=23),z6,zj,qh,n7,n8,n9,qn,zh,B0,reduceIte,a8]
   refine qo (v := .int .i64 a9.Prev) rfl ?_
   simp only [hg43,qy (g:=23),z6,kd,qh,ur,zx,B0,reduceIte,a8]
   obtain ⟨v51,hx52,hF53⟩:=qi hx45
   refine qaj 12 (fun fr' h'=>Sep h' lo ([Blk1 b1 [d4,d5] 29]++(g8++([Blk1 b9 [.nil,.nil] 29]++([Blk1 b35 [.int .i64 x15.Term,.bool x15.Leads,v27,
     .int .i64 x15.Commit,v31] 43]++(c20++(d7++(c28++(c32++(S0)))))))))∧fr' 39 = .bool v51∧fr' 2 = .ptr b1 0∧fr' 3 = .ref [.bool a9.Reply,
     .int .i64 a9.From,.int .i64 a9.To,.int .i64 a9.Term,.int .i64 a9.Prev,.int .i64 a9.PTerm,f0,.int .i64 a9.Commit,
     .int .i64 a9.Match] 0∧fr' 4 = .ptr b9 0∧fr' 5 = .ptr b35 0∧fr' 23 = .bool (decide ((o6 x15.Log:Int)<a9.Prev))) rfl (fun Q48 hN49=>?_) ?_
   ·simp only [r8,t8]
    simp only [qy (g:=27),B0,reduceIte,a8]
    refine ye (t:=(decide ((0:Int)<a9.Prev))) (fun hg50=>?_) (fun hg50=>?_)
    ·rw [iteT hg50] at hx52
     simp only [hg50,qy (g:=27),z5,zj,qh,n7,n8,n9,qu,zh,B0,reduceIte,a8]
     refine qo (v:=v27) ((jb (a0d _ _ _ hS40)).trans rfl) ?_
     simp only [hg50,qy (g:=27),z5,zj,qh,n7,n8,n9,qn,zh,B0,reduceIte,a8]
     refine qo (v := .int .i64 a9.Prev) rfl ?_
     obtain ⟨x54,hx55,hF56⟩:=qi hx52
     simp only [hg50,qy (g:=27),z5,kd,qh,qer,kz,B0,reduceIte,a8]
     obtain ⟨b57,hb58⟩:=a1w hv29 (jq hx55)
     refine qo (a2v hv29 hb58 hx55) ?_
     simp only [hg50,qy (g:=27),z5,zj,qh,n7,n8,n9,qu,zh,B0,reduceIte,a8]
     refine qo (v := .int .i64 x54.Term) ((SlF.ld (o:=0) hv29 (o8 hS40) hb58 hx55 (fun _=>rfl) (nle rfl)).trans rfl) ?_
     simp only [hg50,qy (g:=27),z5,zj,qh,n7,n8,n9,qn,zh,B0,reduceIte,a8]
     refine qo (v := .int .i64 a9.PTerm) rfl ?_
     simp only [hg50,qy (g:=27),z5,kd,qh,ya,hg43,qy (g:=23),z6,kf,z1,za,qr,B0,
       reduceIte,a8]
     have e59:=qg hF56
     exact hN49 _ _ ⟨(a0h (a0h (v3 (a0i (a0i (a13 (p9 (p9 hS40)))))))),by rw [←e59]; simp only [B0,reduceIte,a8],rfl,rfl,rfl,rfl,
       by simp only [hg43,B0,reduceIte,a8]⟩
    ·rw [iteF hg50] at hx52
     simp only [hg50,qy (g:=27),qa5,hg43,qy (g:=23),z6,kf,qh,zz,za,qr,B0,reduceIte,
       a8]
     have e60:=qg hx52
     exact hN49 _ _ ⟨(a0h (a0h (v3 (a0i (a0i (a13 (p9 (p9 hS40)))))))),by rw [←e60]; simp only [B0,reduceIte,a8],rfl,rfl,rfl,rfl,
       by simp only [hg43,B0,reduceIte,a8]⟩
   rintro fr61 h68 ⟨hS69,f62,f63,f64,f65,f66,f67⟩
   simp only [s5,t6]
   simp only [f67,hg43,kf,qh,zz,f62,za,qr,B0,reduceIte,a8]
   have e70:=qg hF53
   exact hN42 _ _ ⟨(a0h (a0h (a0h (a0h (a0h (a0h (a0h (a0h hS69)))))))),by rw [←e70]; simp only [B0,reduceIte,a8],f63,f64,f65,f66⟩
 rintro fr71 h77 ⟨hS78,f72,f73,f74,f75,f76⟩
 simp only [s5,t6]
 simp only [za,q6z,f72,qv,B0,reduceIte,a8]
 refine qs (t:=v44) (fun hc79=>?_) (fun hc79=>?_)
 ·rw [iteT hc79] at hF46
  simp only [qd,qc,f73,qj,B0,reduceIte,a8]
  refine qf (v := .agg [d4,d5]) ((zq (a0d _ _ _ hS78)).trans rfl) ?_
  simp only [f75,zd,B0,reduceIte,a8]
  refine qz (us:=[d4,d5]) rfl (cs':=[d4,d5]) (o8 hS78) hW rfl (qk (a3c hv23) (qk (a0j e8) zl)) (nle rfl) rfl (fun h80 hS81=>?_)
  simp only [qa,qx,B0,reduceIte,a8]
  obtain ⟨c82,hv83,hS84⟩:=a1a (c:=c20) (os:=c28++(c32)) hv23 rfl hx16 zo (Peer.RI (x:=x15) hv29 hv33) (a07 (c1:=c28) (c2:=c32) (a13 (a0h
    (a0h hS81))))
  have hv85:=a04 hv83
  have he:=qg hF46
  subst he
  refine ym (bb:=b9) (oo:=0) (v := .agg [d4,d5]) (by simp only [f75,B0,reduceIte,a8]) ((zq (a0d _ _ _ (s9 hS84))).trans rfl) ?_
  exact ⟨c82,d5,d7,g8,by first | trivial | rfl,hv85,e8,i4,(o8 (o8 (s9 (a0g (o8 (a0g (s9 (a0g (s9 hS84)))))))))⟩
 rw [iteF hc79] at hF46
 simp only [qw,qyh,qd,qc,f74,ql,qb,n7,n8,n9,qn,qj,B0,reduceIte,a8]
 refine qf (v := .int .i64 a9.Prev) rfl ?_
 simp only [qe,qa,qw0,qd,qc,f74,ql,qb,n7,n8,n9,qn,qj,B0,reduceIte,a8]
 refine qf (v:=f0) rfl ?_
 simp only [zr,qb,a1o i4,qq,ur,qa,qu6,qv,B0,reduceIte,a8]
 obtain ⟨sv95,hX93,hk94⟩:=qi hF46
 refine xh (t:=(decide ((0:Int)<(o6 a9.Entry:Int)))) (fun fr' h'=>∃ v89 c90,fr' 2 = .ptr b1 0∧fr' 3 = .ref [.bool a9.Reply,.int .i64 a9.From,
   .int .i64 a9.To,.int .i64 a9.Term,.int .i64 a9.Prev,.int .i64 a9.PTerm,f0,.int .i64 a9.Commit,
   .int .i64 a9.Match] 0∧fr' 4 = .ptr b9 0∧fr' 5 = .ptr b35 0∧fr' 6 = .int .i64 sv95.1∧SlF qt 2 65 v89 sv95.2.Log c90∧Sep h' lo ([Blk1 b1 [d4,
   d5] 29]++(g8++([Blk1 b9 [.nil,.nil] 29]++([Blk1 b35 [.int .i64 sv95.2.Term,.bool sv95.2.Leads,v89,.int .i64 sv95.2.Commit,
   v31] 43]++(c20++(d7++(c90++(c32++(S0)))))))))) (fun Q96 hN97 hR98 hE99=>⟨fun hc100=>?_,fun hc100=>?_⟩) ?_
 ·rw [iteT hc100] at hX93
  simp only [qw8,qd,qc,f74,ql,qb,n7,n8,n9,qn,qj,B0,reduceIte,a8]
  refine qf (v:=f0) rfl ?_
  obtain ⟨ub,hx102,hF103⟩:=qi hX93
  simp only [zu,B0,reduceIte,a8]
  obtain ⟨b104,hb105⟩:=a1w i4 (jq hx102)
  refine qf (a2v i4 hb105 hx102) ?_
  simp only [qj,B0,reduceIte,a8]
  refine qf (v := .agg [.int .i64 ub.Term,.int .i64 ub.Value]) ((SlF.lds (o:=0) i4 (s9 hS78) hb105 hx102 (fun _=>rfl) (nle rfl)).trans rfl) ?_
  simp only [jm,B0,reduceIte,a8]
  refine z3 hS78 (fun b106 h107 hS108=>?_)
  simp only [zd,B0,reduceIte,a8]
  refine qz (us:=[.int .i64 ub.Term,.int .i64 ub.Value]) rfl (cs':=[.int .i64 ub.Term,
    .int .i64 ub.Value]) hS108 hW rfl rfl (nle rfl) rfl (fun h110 hS111=>?_)
  simp only [qa,B0,reduceIte,a8]
  refine z8 hS111 hW (by simp only [B0,reduceIte,a8]) (fun h112 hS113=>?_)
  simp only [z7,q79,qd,z9,f76,zj,qh,n7,n8,n9,qu,zh,B0,reduceIte,a8]
  refine qo (v:=v27) ((jb (a0d _ _ _ (p9 hS113))).trans rfl) ?_
  simp only [wo,qh,a1o hv29,f74,zj,n7,n8,n9,qn,zh,B0,reduceIte,a8]
  refine qo (v := .int .i64 a9.Prev) rfl ?_
  simp only [kd,qh,ur,zx,B0,reduceIte,a8]
  obtain ⟨v117,hx118,hF119⟩:=qi hF103
  refine qaj 11 (fun fr' h'=>Sep h' lo ([Blk1 b1 [d4,d5] 29]++(g8++([Blk1 b9 [.nil,.nil] 29]++([Blk1 b35 [.int .i64 x15.Term,.bool x15.Leads,v27,
    .int .i64 x15.Commit,v31] 43]++(c20++(d7++(c28++(c32++(S0)))))))))∧fr' 69 = .bool v117∧fr' 2 = .ptr b1 0∧fr' 3 = .ref [.bool a9.Reply,
    .int .i64 a9.From,.int .i64 a9.To,.int .i64 a9.Term,.int .i64 a9.Prev,.int .i64 a9.PTerm,f0,.int .i64 a9.Commit,
    .int .i64 a9.Match] 0∧fr' 4 = .ptr b9 0∧fr' 5 = .ptr b35 0∧fr' 6 = .int .i64 a9.Prev∧fr' 7 = .ref [.int .i64 ub.Term,
    .int .i64 ub.Value] 0) rfl (fun Q114 hN115=>?_) ?_
  ·simp only [r8,t8]
   simp only [qy (g:=58),B0,reduceIte,a8]
   refine ye (t:=(decide (a9.Prev<(o6 x15.Log:Int)))) (fun hg116=>?_) (fun hg116=>?_)
   ·rw [iteT hg116] at hx118
    simp only [hg116,qy (g:=58),z5,f76,zj,qh,n7,n8,n9,qu,zh,B0,reduceIte,a8]
    refine qo (v:=v27) ((jb (a0d _ _ _ (p9 hS113))).trans rfl) ?_
    simp only [hg116,qy (g:=58),z5,f74,zj,qh,n7,n8,n9,qn,zh,B0,reduceIte,a8]
    refine qo (v := .int .i64 a9.Prev) rfl ?_
    obtain ⟨x120,hx121,hF122⟩:=qi hx118
    simp only [hg116,qy (g:=58),z5,kz,B0,reduceIte,a8]
    obtain ⟨b123,hb124⟩:=a1w hv29 (jq hx121)
    refine qo (a2v hv29 hb124 hx121) ?_
    simp only [hg116,qy (g:=58),z5,zj,qh,n7,n8,n9,qu,zh,B0,reduceIte,a8]
    refine qo (v := .int .i64 x120.Term) ((SlF.ld (o:=0) hv29 (a13 hS113) hb124 hx121 (fun _=>rfl) (nle rfl)).trans rfl) ?_
    simp only [hg116,qy (g:=58),z5,zj,qh,n7,n8,n9,qn,zh,B0,reduceIte,a8]
    refine qo (v := .int .i64 ub.Term) rfl ?_
    simp only [hg116,qy (g:=58),z5,kd,qh,ya,kf,z1,za,qr,B0,reduceIte,a8]
    have e125:=qg hF122
    exact hN115 _ _ ⟨(a0h (a0h (a0h (a0h (a0h (a0h (a0h (a0h hS113)))))))),by rw [←e125]; simp only [B0,reduceIte,a8],f73,f74,f75,
      f76,rfl,rfl⟩
   ·rw [iteF hg116] at hx118
    simp only [hg116,qy (g:=58),qa5,kf,qh,zz,za,qr,B0,reduceIte,a8]
    have e126:=qg hx118
    exact hN115 _ _ ⟨(a0h (a0h (a0h (a0h (a0h (a0h (a0h (a0h hS113)))))))),by rw [←e126]; simp only [B0,reduceIte,a8],f73,f74,f75,
      f76,rfl,rfl⟩
  rintro fr127 h135 ⟨hS136,f128,f129,f130,f131,f132,f133,f134⟩
  simp only [s5,t6]
  simp only [za,q8g,f128,qv,B0,reduceIte,a8]
  obtain ⟨s137,hX143,hk144⟩:=qi hF119
  refine xh (t:=v117) (fun fr' h'=>∃ v139 c140,fr' 2 = .ptr b1 0∧fr' 3 = .ref [.bool a9.Reply,.int .i64 a9.From,.int .i64 a9.To,.int .i64 a9.Term,
    .int .i64 a9.Prev,.int .i64 a9.PTerm,f0,.int .i64 a9.Commit,
    .int .i64 a9.Match] 0∧fr' 4 = .ptr b9 0∧fr' 5 = .ptr b35 0∧fr' 6 = .int .i64 a9.Prev∧fr' 7 = .ref [.int .i64 ub.Term,
    .int .i64 ub.Value] 0∧SlF qt 2 65 v139 s137.Log c140∧Sep h' lo ([Blk1 b1 [d4,d5] 29]++(g8++([Blk1 b9 [.nil,
    .nil] 29]++([Blk1 b35 [.int .i64 s137.Term,.bool s137.Leads,v139,.int .i64 s137.Commit,
    v31] 43]++(c20++(d7++(c140++(c32++(S0)))))))))) (fun Q145 hN146 hR147 hE148=>⟨fun hc149=>?_,fun hc149=>?_⟩) ?_
  ·rw [iteT hc149] at hX143
   simp only [q2m,qc,kc,evp,B0,reduceIte,a8]
   refine ku (n:=2) (f:=qt) ([] : List Entry) hS136 rfl rfl (fun v150 c151 h152 hv153 hS154=>?_)
   simp only [f132,ql,qb,n7,n8,n9,qu,qj,B0,reduceIte,a8]
   refine qf (v:=v27) ((jb (a0d _ _ _ (a0i hS154))).trans rfl) ?_
   simp only [f130,ql,qb,n7,n8,n9,qn,qj,B0,reduceIte,a8]
   refine qf (v := .int .i64 a9.Prev) rfl ?_
   obtain ⟨l156,hx157,hF158⟩:=qi hX143
   simp only [qmi,Option.map_some,Option.map_none,B0,reduceIte,a8]
   obtain ⟨w159,i160,he161,hw162⟩:=SlF.win (f:=qt) (ty:=65) none (some a9.Prev) hv29 hx157 (a0h hS154)
   refine qf he161 ?_
   simp only [wc,B0,reduceIte,a8]
   obtain ⟨l163,hx164,hF165⟩:=qi hF158
   refine ws (f:=qt) hv153 hS154 hW (fun _=>rfl) (fun _=>rfl) (SlW.first hw162 hv29 (a0h hS154) (fun _=>rfl)) hx164
     (fun v166 c167 h168 hv169 hS170=>?_)
   simp only [f132,ql,qb,n7,n8,n9,qu,zd,B0,reduceIte,a8]
   refine qz (us:=[v166]) (jj (a0t hv169)) (cs':=[.int .i64 x15.Term,.bool x15.Leads,v166,.int .i64 x15.Commit,
     v31]) (a0i hS170) hW rfl (qk (a0t hv169) zl) (nle rfl) rfl (fun h172 hS173=>?_)
   simp only [qa,qr,B0,reduceIte,a8]
   have e174:=qg hF165
   subst e174
   exact hN146 _ _ ⟨v166,c167,f129,f130,f131,f132,f133,f134,hv169,(a0h (a0h (a0h (a0i (a0h (a0h (o8 (a0h (a0g (a0h hS173))))))))))⟩
  ·rw [iteF hc149] at hX143
   simp only [qw,qr,B0,reduceIte,a8]
   have e175:=qg hX143
   subst e175
   exact hN146 _ _ ⟨v27,c28,f129,f130,f131,f132,f133,f134,hv29,(a0h (a0h (a0h (a0h (a0h (a0h (a0h (a0h hS136))))))))⟩
  rintro fr176 h177 ⟨v139,c140,f179,f180,f181,f182,f183,f184,hv141,hS178⟩
  unfold uy at hk144
  simp only [q8c,qd,qc,f182,ql,qb,n7,n8,n9,qu,qj,B0,reduceIte,a8]
  refine qf (v:=v139) ((jb (a0d _ _ _ (p9 hS178))).trans rfl) ?_
  simp only [zr,qb,a1o hv141,f180,ql,n7,n8,n9,qn,qj,B0,reduceIte,a8]
  refine qf (v := .int .i64 a9.Prev) rfl ?_
  simp only [qq,qb,yh,qe,B0,reduceIte,a8]
  refine ki 4 (fun fr' h'=>Sep h' lo ([Blk1 b1 [d4,d5] 29]++(g8++([Blk1 b9 [.nil,.nil] 29]++([Blk1 b35 [.int .i64 s137.Term,.bool s137.Leads,v139,
    .int .i64 s137.Commit,v31] 43]++(c20++(d7++(c140++(c32++(S0)))))))))∧fr' 88 = .bool ((decide ((o6 s137.Log:Int)=a9.Prev))&&(decide
    (a9.Prev<30)))∧fr' 2 = .ptr b1 0∧fr' 3 = .ref [.bool a9.Reply,.int .i64 a9.From,.int .i64 a9.To,.int .i64 a9.Term,.int .i64 a9.Prev,.int .i64 a9.PTerm,
    f0,.int .i64 a9.Commit,.int .i64 a9.Match] 0∧fr' 4 = .ptr b9 0∧fr' 5 = .ptr b35 0∧fr' 6 = .int .i64 a9.Prev∧fr' 7 = .ref [.int .i64 ub.Term,
    .int .i64 ub.Value] 0) (fun Q185 hN186=>?_) ?_
  ·simp only [r8,t8]
   simp only [qm (g:=84),B0,reduceIte,a8]
   refine zv (t:=(decide ((o6 s137.Log:Int)=a9.Prev))) (fun hg187=>?_) (fun hg187=>?_)
   ·simp only [hg187,qm (g:=84),jg,f180,ql,qb,n7,n8,n9,qn,qj,B0,reduceIte,a8]
    refine qf (v := .int .i64 a9.Prev) rfl ?_
    simp only [hg187,qm (g:=84),jg,qq,qb,yg,zk,z1,qa,qr,B0,reduceIte,a8]
    exact hN186 _ _ ⟨(a0h (a0h (a0h (a0h (a0h (a0h (a0h (a0h hS178)))))))),by rw [qew hg187]; simp only [B0,reduceIte,a8],f179,f180,
      f181,f182,f183,f184⟩
   ·simp only [hg187,qm (g:=84),wd,zk,qb,zz,qa,qr,B0,reduceIte,a8]
    exact hN186 _ _ ⟨(a0h (a0h (a0h (a0h (a0h (a0h (a0h (a0h hS178)))))))),by rw [qeu hg187]; simp only [B0,reduceIte,a8],f179,f180,
      f181,f182,f183,f184⟩
  rintro fr188 h196 ⟨hS197,f189,f190,f191,f192,f193,f194,f195⟩
  simp only [s5,t6]
  simp only [qa,q1u,f189,qv,B0,reduceIte,a8]
  obtain ⟨s198,hX204,hk205⟩:=qi hk144
  refine xh (t:=((decide ((o6 s137.Log:Int)=a9.Prev))&&(decide (a9.Prev<30)))) (fun fr' h'=>∃ v200 c201,
    fr' 2 = .ptr b1 0∧fr' 3 = .ref [.bool a9.Reply,.int .i64 a9.From,.int .i64 a9.To,.int .i64 a9.Term,.int .i64 a9.Prev,.int .i64 a9.PTerm,f0,
    .int .i64 a9.Commit,.int .i64 a9.Match] 0∧fr' 4 = .ptr b9 0∧fr' 5 = .ptr b35 0∧fr' 6 = .int .i64 a9.Prev∧SlF qt 2 65 v200 s198.Log c201∧Sep h' lo
    ([Blk1 b1 [d4,d5] 29]++(g8++([Blk1 b9 [.nil,.nil] 29]++([Blk1 b35 [.int .i64 s198.Term,.bool s198.Leads,v200,.int .i64 s198.Commit,
    v31] 43]++(c20++(d7++(c201++(c32++(S0)))))))))) (fun Q206 hN207 hR208 hE209=>⟨fun hc210=>?_,fun hc210=>?_⟩) ?_
  ·rw [iteT hc210] at hX204
   simp only [q25,qc,f193,ql,qb,n7,n8,n9,qu,qj,B0,reduceIte,a8]
   refine qf (v:=v139) ((jb (a0d _ _ _ (p9 hS197))).trans rfl) ?_
   simp only [f195,qj,B0,reduceIte,a8]
   refine qf (v := .agg [.int .i64 ub.Term,.int .i64 ub.Value]) rfl ?_
   simp only [kc,evp,B0,reduceIte,a8]
   refine ku (n:=2) (f:=qt) [ub] hS197 rfl rfl (fun v211 c212 h213 hv214 hS215=>?_)
   simp only [wc,B0,reduceIte,a8]
   obtain ⟨l217,hx218,hF219⟩:=qi hX204
   refine ws (f:=qt) hv141 (a0h hS215) hW (fun _=>rfl) (fun _=>rfl) (a31 hv214 hS215 (fun _=>rfl)) hx218 (fun v220 c221 h222 hv223 hS224=>?_)
   simp only [f193,ql,qb,n7,n8,n9,qu,zd,B0,reduceIte,a8]
   refine qz (us:=[v220]) (jj (a0t hv223)) (cs':=[.int .i64 s137.Term,.bool s137.Leads,v220,.int .i64 s137.Commit,
     v31]) (v3 hS224) hW rfl (qk (a0t hv223) zl) (nle rfl) rfl (fun h226 hS227=>?_)
   simp only [qa,qr,B0,reduceIte,a8]
   have e228:=qg hF219
   subst e228
   exact hN207 _ _ ⟨v220,c221,f190,f191,f192,f193,f194,hv223,(a0h (a0h (a0h (a0i (a0h (a0h (o8 (a0h (a0g (o8 hS227))))))))))⟩
  ·rw [iteF hc210] at hX204
   simp only [qw,qr,B0,reduceIte,a8]
   have e229:=qg hX204
   subst e229
   exact hN207 _ _ ⟨v139,c140,f190,f191,f192,f193,f194,hv141,(a0h (a0h (a0h (a0h (a0h (a0h (a0h (a0h hS197))))))))⟩
  rintro fr230 h231 ⟨v200,c201,f233,f234,f235,f236,f237,hv202,hS232⟩
  unfold qbr at hk205
  simp only [q5k,qd,qc,f236,ql,qb,n7,n8,n9,qu,qj,B0,reduceIte,a8]
  refine qf (v:=v200) ((jb (a0d _ _ _ (p9 hS232))).trans rfl) ?_
  simp only [zr,qb,a1o hv202,f234,ql,n7,n8,n9,qn,qj,B0,reduceIte,a8]
  refine qf (v := .int .i64 a9.Prev) rfl ?_
  simp only [qq,qb,ur,qa,q28,qv,B0,reduceIte,a8]
  refine qs (t:=(decide (a9.Prev<(o6 s198.Log:Int)))) (fun hc238=>?_) (fun hc238=>?_)
  ·rw [iteT hc238] at hk205
   simp only [qc,f237,qe,qq,qb,j8,qa,qr,B0,reduceIte,a8]
   have e239:=qg hk205
   subst e239
   exact hN97 _ _ ⟨v200,c201,f233,f234,f235,f236,rfl,hv202,(a0h (a0h (a0h (a0h (a0h (a0h (a0h (a0h hS232))))))))⟩
  rw [iteF hc238] at hk205
  simp only [qw,qr,B0,reduceIte,a8]
  have e240:=qg hk205
  subst e240
  exact hN97 _ _ ⟨v200,c201,f233,f234,f235,f236,f237,hv202,(a0h (a0h (a0h (a0h (a0h (a0h (a0h (a0h hS232))))))))⟩
 ·rw [iteF hc100] at hX93
  simp only [qw,qr,B0,reduceIte,a8]
  have e243:=qg hX93
  subst e243
  exact hN97 _ _ ⟨v27,c28,f73,f74,f75,f76,rfl,hv29,(a0h (a0h (a0h (a0h (a0h (a0h (a0h (a0h hS78))))))))⟩
 rintro fr244 h245 ⟨v89,c90,f247,f248,f249,f250,f251,hv91,hS246⟩
 obtain ⟨s86,s87⟩:=sv95
 dsimp only at *
 unfold qbo at hk94
 simp only [qsf,qd,qc,f250,ql,qb,n7,n8,n9,qu,qj,B0,reduceIte,a8]
 refine qf (v := .int .i64 s87.Commit) ((jb (a0d _ _ _ (p9 hS246))).trans rfl) ?_
 simp only [f250,ql,qb,n7,n8,n9,qu,qj,B0,reduceIte,a8]
 refine qf (v:=v89) ((jb (a0d _ _ _ (p9 hS246))).trans rfl) ?_
 simp only [zr,qb,a1o hv91,qq,ur,qa,qy8,qv,B0,reduceIte,a8]
 obtain ⟨s252,hX254,hk255⟩:=qi hk94
 refine xh (t:=(decide ((o6 s87.Log:Int)<s87.Commit))) (fun fr' h'=>fr' 2 = .ptr b1 0∧fr' 3 = .ref [.bool a9.Reply,.int .i64 a9.From,.int .i64 a9.To,
   .int .i64 a9.Term,.int .i64 a9.Prev,.int .i64 a9.PTerm,f0,.int .i64 a9.Commit,
   .int .i64 a9.Match] 0∧fr' 4 = .ptr b9 0∧fr' 5 = .ptr b35 0∧fr' 6 = .int .i64 s86∧Sep h' lo ([Blk1 b1 [d4,d5] 29]++(g8++([Blk1 b9 [.nil,
   .nil] 29]++([Blk1 b35 [.int .i64 s252.Term,.bool s252.Leads,v89,.int .i64 s252.Commit,
   v31] 43]++(c20++(d7++(c90++(c32++(S0)))))))))) (fun Q256 hN257 hR258 hE259=>⟨fun hc260=>?_,fun hc260=>?_⟩) ?_
 ·rw [iteT hc260] at hX254
  simp only [qu3,qc,f250,ql,qb,n7,n8,n9,qu,qj,B0,reduceIte,a8]
  refine qf (v:=v89) ((jb (a0d _ _ _ (p9 hS246))).trans rfl) ?_
  simp only [zr,qb,a1o hv91,f250,ql,n7,n8,n9,qu,zd,B0,reduceIte,a8]
  refine qz (us:=[.int .i64 (o6 s87.Log:Int)]) rfl (cs':=[.int .i64 s87.Term,.bool s87.Leads,v89,.int .i64 (o6 s87.Log:Int),
    v31]) (p9 hS246) hW rfl rfl (nle rfl) rfl (fun h261 hS262=>?_)
  simp only [qa,qr,B0,reduceIte,a8]
  have e263:=qg hX254
  subst e263
  exact hN257 _ _ ⟨f247,f248,f249,f250,f251,(a0h (a0h (a0h (a0i (a0h (a0h (a0h (a0h hS262))))))))⟩
 ·rw [iteF hc260] at hX254
  simp only [qw,qr,B0,reduceIte,a8]
  have e264:=qg hX254
  subst e264
  exact hN257 _ _ ⟨f247,f248,f249,f250,f251,(a0h (a0h (a0h (a0h (a0h (a0h (a0h (a0h hS246))))))))⟩
 rintro fr265 h266 ⟨f268,f269,f270,f271,f272,hS267⟩
 unfold qdt at hk255
 simp only [qr2,qd,qc,f269,ql,qb,n7,n8,n9,qn,qj,B0,reduceIte,a8]
 refine qf (v := .int .i64 a9.Commit) rfl ?_
 simp only [qe,qa,qwr,qd,qc,f272,qq,qb,ur,qv3,qv,B0,reduceIte,a8]
 obtain ⟨s273,hX275,hk276⟩:=qi hk255
 refine xh (t:=(decide (s86<a9.Commit))) (fun fr' h'=>fr' 2 = .ptr b1 0∧fr' 3 = .ref [.bool a9.Reply,.int .i64 a9.From,.int .i64 a9.To,.int .i64 a9.Term,
   .int .i64 a9.Prev,.int .i64 a9.PTerm,f0,.int .i64 a9.Commit,
   .int .i64 a9.Match] 0∧fr' 4 = .ptr b9 0∧fr' 5 = .ptr b35 0∧fr' 6 = .int .i64 s86∧fr' 8 = .int .i64 s273∧Sep h' lo ([Blk1 b1 [d4,
   d5] 29]++(g8++([Blk1 b9 [.nil,.nil] 29]++([Blk1 b35 [.int .i64 s252.Term,.bool s252.Leads,v89,.int .i64 s252.Commit,
   v31] 43]++(c20++(d7++(c90++(c32++(S0)))))))))) (fun Q277 hN278 hR279 hE280=>⟨fun hc281=>?_,fun hc281=>?_⟩) ?_
 ·rw [iteT hc281] at hX275
  simp only [qc,f272,qe,qa,qr,B0,reduceIte,a8]
  have e282:=qg hX275
  subst e282
  exact hN278 _ _ ⟨f268,f269,f270,f271,f272,rfl,(a0h (a0h (a0h (a0h (a0h (a0h (a0h (a0h hS267))))))))⟩
 ·rw [iteF hc281] at hX275
  simp only [qw,qr,B0,reduceIte,a8]
  have e283:=qg hX275
  subst e283
  exact hN278 _ _ ⟨f268,f269,f270,f271,f272,rfl,(a0h (a0h (a0h (a0h (a0h (a0h (a0h (a0h hS267))))))))⟩
 rintro fr284 h285 ⟨f287,f288,f289,f290,f291,f292,hS286⟩
 unfold qdp at hk276
 simp only [qv0,qd,qc,f292,qe,f290,ql,qb,n7,n8,n9,qu,qj,B0,reduceIte,a8]
 refine qf (v := .int .i64 s252.Commit) ((jb (a0d _ _ _ (p9 hS286))).trans rfl) ?_
 simp only [qq,qb,ur,qa,qyo,qv,B0,reduceIte,a8]
 obtain ⟨s293,hX295,hk296⟩:=qi hk276
 refine xh (t:=(decide (s252.Commit<s273))) (fun fr' h'=>fr' 2 = .ptr b1 0∧fr' 3 = .ref [.bool a9.Reply,.int .i64 a9.From,.int .i64 a9.To,.int .i64 a9.Term,
   .int .i64 a9.Prev,.int .i64 a9.PTerm,f0,.int .i64 a9.Commit,
   .int .i64 a9.Match] 0∧fr' 4 = .ptr b9 0∧fr' 5 = .ptr b35 0∧fr' 6 = .int .i64 s86∧Sep h' lo ([Blk1 b1 [d4,d5] 29]++(g8++([Blk1 b9 [.nil,
   .nil] 29]++([Blk1 b35 [.int .i64 s293.Term,.bool s293.Leads,v89,.int .i64 s293.Commit,
   v31] 43]++(c20++(d7++(c90++(c32++(S0)))))))))) (fun Q297 hN298 hR299 hE300=>⟨fun hc301=>?_,fun hc301=>?_⟩) ?_
 ·rw [iteT hc301] at hX295
  simp only [qc,f292,qe,f290,ql,qb,n7,n8,n9,qu,zd,B0,reduceIte,a8]
  refine qz (us:=[.int .i64 s273]) rfl (cs':=[.int .i64 s252.Term,.bool s252.Leads,v89,.int .i64 s273,
    v31]) (p9 hS286) hW rfl rfl (nle rfl) rfl (fun h302 hS303=>?_)
  simp only [qa,qr,B0,reduceIte,a8]
  have e304:=qg hX295
  subst e304
  exact hN298 _ _ ⟨f287,f288,f289,f290,f291,(a0h (a0h (a0h (a0i (a0h (a0h (a0h (a0h hS303))))))))⟩
 ·rw [iteF hc301] at hX295
  simp only [qw,qr,B0,reduceIte,a8]
  have e305:=qg hX295
  subst e305
  exact hN298 _ _ ⟨f287,f288,f289,f290,f291,(a0h (a0h (a0h (a0h (a0h (a0h (a0h (a0h hS286))))))))⟩
 rintro fr306 h307 ⟨f309,f310,f311,f312,f313,hS308⟩
 unfold qdq at hk296
 simp only [qsp,qd,qc,f312,ql,qb,n7,n8,n9,qu,qj,B0,reduceIte,a8]
 refine qf (v:=v31) ((jb (a0d _ _ _ (p9 hS308))).trans rfl) ?_
 simp only [zr,qb,a1o hv33,qe,qa,B0,reduceIte,a8]
 obtain ⟨oc322,hX324,hk325⟩:=jz hk296
 simp only [qsb]
 refine qdf (σ:=(List Int)) (fun i320 s359=>qbp s87 i320 s359) (fun s fr' h'=>∃ c318,fr' 2 = .ptr b1 0∧fr' 3 = .ref [.bool a9.Reply,
   .int .i64 a9.From,.int .i64 a9.To,.int .i64 a9.Term,.int .i64 a9.Prev,.int .i64 a9.PTerm,f0,.int .i64 a9.Commit,
   .int .i64 a9.Match] 0∧fr' 4 = .ptr b9 0∧fr' 5 = .ptr b35 0∧fr' 6 = .int .i64 s86∧fr' 126=v31∧SlF cI 1 3 v31 s c318∧Sep h' lo ([Blk1 b1 [d4,
   d5] 29]++(g8++([Blk1 b9 [.nil,.nil] 29]++([Blk1 b35 [.int .i64 s293.Term,.bool s293.Leads,v89,.int .i64 s293.Commit,
   v31] 43]++(c318++(c20++(d7++(c90++(S0)))))))))) hX324 ⟨c32,f309,f310,f311,f312,f313,rfl,hv33,
   (a0h (a0h (a0h (a0h (a0h (a13 (a13 (a13 hS308))))))))⟩ (by simp only [B0,reduceIte,a8]) (by simp only [B0,reduceIte,
   a8]) (fun _ _ _ h=>h) rfl rfl (fun _ _ _ _ h=>h) (fun _ _ _ _ h=>h) (fun _ _ _ _ h=>h) (by decide) ?_ ?_
 ·rintro i320 s317 fr334 h335 hx343 ⟨c318,f337,f338,f339,f340,f341,f342,hv319,hS336⟩ f344 f345 oc323 hF326 hr327 Q328 hN329 hB333 hK330 hR331 hE332
  unfold qbp at hF326
  obtain ⟨x346,hx347,hF348⟩:=qi hF326
  simp only [qus,qd,qc,f344,qe,f342,zu,B0,reduceIte,a8]
  obtain ⟨b349,hb350⟩:=a1w hv319 (jq hx347)
  refine qf (a2v hv319 hb350 hx347) ?_
  simp only [qj,B0,reduceIte,a8]
  refine qf (v := .int .i64 x346) ((SlF.ld (o:=0) hv319 (a0i hS336) hb350 hx347 (fun _=>rfl) (nle rfl)).trans rfl) ?_
  simp only [qe,qa,qv1,qd,qc,f340,ql,qb,n7,n8,n9,qu,qj,B0,reduceIte,a8]
  refine qf (v:=v89) ((jb (a0d _ _ _ (p9 hS336))).trans rfl) ?_
  simp only [zr,qb,a1o hv91,qq,ur,qa,qsw,qv,B0,reduceIte,a8]
  refine qs (t:=(decide ((o6 s87.Log:Int)<x346))) (fun hc351=>?_) (fun hc351=>?_)
  ·rw [iteT hc351] at hF348
   simp only [qy6,qc,f340,ql,qb,n7,n8,n9,qu,qj,B0,reduceIte,a8]
   refine qf (v:=v31) ((jb (a0d _ _ _ (p9 hS336))).trans rfl) ?_
   simp only [qe,f340,ql,qb,n7,n8,n9,qu,qj,B0,reduceIte,a8]
   refine qf (v:=v89) ((jb (a0d _ _ _ (p9 hS336))).trans rfl) ?_
   simp only [zr,qb,a1o hv91,zu,B0,reduceIte,a8]
   refine qf (a2v hv319 hb350 hx347) ?_
   simp only [zd,B0,reduceIte,a8]
   refine uq (f:=cI) (x':=(o6 s87.Log:Int)) (o:=0) hv319 (a0i hS336) hW hb350 hx347 (fun _=>rfl) rfl rfl (nle rfl) rfl
     (fun c354 h352 hv355 hS353=>?_)
   have hx356:=jl (x':=(o6 s87.Log:Int)) hx347
   simp only [qa,qr,B0,reduceIte,a8]
   have e357:=qg hF348
   exact hN329 _ _ _ e357.symm ⟨c354,f337,f338,f339,f340,f341,f342,hv355,(a0h (a0h (a0h (a0h (p9 (a0h (a0h (a0h hS353))))))))⟩ (f344) (f345)
  rw [iteF hc351] at hF348
  simp only [qw,qr,B0,reduceIte,a8]
  have e358:=qg hF348
  exact hN329 _ _ _ e358.symm ⟨c318,f337,f338,f339,f340,f341,f342,hv319,(a0h (a0h (a0h (a0h (a0h (a0h (a0h (a0h hS336))))))))⟩ (f344) (f345)
 rintro s360 fr363 h364 rfl ⟨c361,f366,f367,f368,f369,f370,f371,hv362,hS365⟩
 dsimp only [jnO] at hk325
 unfold qdr at hk325
 simp only [qtc,qd,qc,f366,ql,qb,n7,n8,n9,qu,qj,B0,reduceIte,a8]
 refine qf (v:=d4) ((jb (a0d _ _ _ hS365)).trans rfl) ?_
 simp only [f367,ql,qb,n7,n8,n9,qn,qj,B0,reduceIte,a8]
 refine qf (v := .int .i64 a9.To) rfl ?_
 simp only [f369,qj,B0,reduceIte,a8]
 refine qf (v := .agg [.int .i64 s293.Term,.bool s293.Leads,v89,.int .i64 s293.Commit,v31]) ((zq (a0d _ _ _ (p9 hS365))).trans rfl) ?_
 simp only [zu,B0,reduceIte,a8]
 refine qf (SlG.ia hv23 hx16) ?_
 simp only [zd,B0,reduceIte,a8]
 refine kx (n:=5) (us:=[.int .i64 s293.Term,.bool s293.Leads,v89,.int .i64 s293.Commit,v31]) (cs:=[.int .i64 x15.Term,.bool x15.Leads,v27,
   .int .i64 x15.Commit,v31]) (o:=0) (cs':=[.int .i64 s293.Term,.bool s293.Leads,v89,.int .i64 s293.Commit,
   v31]) rfl hv23 rfl hx16 (v3 hS365) hW rfl (qk rfl (qk rfl (qk (a0t hv91) (qk rfl (qk (a0t hv362) zl))))) (nle rfl) rfl
   (fun c374 h372 hv375 hS373=>?_)
 simp only [qa,qw3,qd,qc,f366,ql,qb,n7,n8,n9,qu,qj,B0,reduceIte,a8]
 refine qf (v:=d5) ((jb (a0d _ _ _ (s9 hS373))).trans rfl) ?_
 simp only [zr,qb,SlN.len e8,qq,yg,qa,qyj,qv,B0,reduceIte,a8]
 refine qs (t:=(decide ((o6 d8.Mail:Int)<20))) (fun hc376=>?_) (fun hc376=>?_)
 ·rw [iteT hc376] at hk325
  simp only [qt3,qc,f366,ql,qb,n7,n8,n9,qu,qj,B0,reduceIte,a8]
  refine qf (v:=d5) ((jb (a0d _ _ _ (s9 hS373))).trans rfl) ?_
  simp only [f367,ql,qb,n7,n8,n9,qn,qj,B0,reduceIte,a8]
  refine qf (v := .int .i64 a9.To) rfl ?_
  simp only [f367,ql,qb,n7,n8,n9,qn,qj,B0,reduceIte,a8]
  refine qf (v := .int .i64 a9.From) rfl ?_
  simp only [f369,ql,qb,n7,n8,n9,qu,qj,B0,reduceIte,a8]
  refine qf (v := .int .i64 s293.Term) ((jb (a0d _ _ _ (a0i hS373))).trans rfl) ?_
  simp only [f370,qe,run_build,evp,B0,reduceIte,a8]
  refine qf (v := .agg [.bool true,.int .i64 a9.To,.int .i64 a9.From,.int .i64 s293.Term,.int .i64 0,.int .i64 0,.nil,.int .i64 0,.int .i64 s86]) rfl ?_
  simp only [kc,evp,B0,reduceIte,a8]
  refine uc (R:=Mail.R) (n:=9) (cs:=[.bool true,.int .i64 a9.To,.int .i64 a9.From,.int .i64 s293.Term,.int .i64 0,.int .i64 0,.nil,.int .i64 0,
    .int .i64 s86]) (os:=[]) (Sep.bi1 (c1:=[]) (S:=(c374++([Blk1 b1 [d4,d5] 29]++(g8++([Blk1 b9 [.nil,.nil] 29]++([Blk1 b35 [.int .i64 s293.Term,
    .bool s293.Leads,v89,.int .i64 s293.Commit,v31] 43]++(c361++(d7++(c90++(S0)))))))))) (hS373:Sep _ lo (c374++([Blk1 b1 [d4,
    d5] 29]++(g8++([Blk1 b9 [.nil,.nil] 29]++([Blk1 b35 [.int .i64 s293.Term,.bool s293.Leads,v89,.int .i64 s293.Commit,
    v31] 43]++(c361++(d7++(c90++(S0))))))))))) rfl (Mail.RI (x:=(Mail.mk true a9.To a9.From s293.Term 0 0 [] 0 s86)) SlF.nil) rfl
    (fun v377 c378 h379 hv380 hS381=>?_)
  simp only [wc,B0,reduceIte,a8]
  obtain ⟨l383,hx384,hF385⟩:=qi hk325
  refine qa6 (R:=Mail.R) (c:=d7) e8 hv380 (a0h hS381) hW Mail.RO.len Mail.RO.one hx384 (fun v386 c387 h388 hv389 hS390=>?_)
  simp only [f366,ql,qb,n7,n8,n9,qu,zd,B0,reduceIte,a8]
  refine qz (us:=[v386]) (jj (a0j hv389)) (cs':=[d4,v386]) (o8 hS390) hW rfl (qk (a0j hv389) zl) (nle rfl) rfl (fun h392 hS393=>?_)
  simp only [qa,qd,qc,f366,qj,B0,reduceIte,a8]
  refine qf (v := .agg [d4,v386]) ((zq (a0d _ _ _ hS393)).trans rfl) ?_
  simp only [f368,zd,B0,reduceIte,a8]
  refine qz (us:=[d4,v386]) rfl (cs':=[d4,
    v386]) (a0i hS393) hW rfl (qk (a3c hv375) (qk (a0j hv389) zl)) (nle rfl) rfl (fun h394 hS395=>?_)
  simp only [qa,qx,B0,reduceIte,a8]
  obtain ⟨c396,hv397,hS398⟩:=a20 (e':=(Peer.mk s293.Term s293.Leads s87.Log s293.Commit s360)) (c:=c374) (os:=c90++(c361)) hv375 rfl hx16 zo (Peer.RI (x :=
    (Peer.mk s293.Term s293.Leads s87.Log s293.Commit s360)) hv91 hv362) (a07 (c1:=c90) (c2:=c361) (v3 (a0h (a13 hS395))))
  have hx399:=jl (x':=(Peer.mk s293.Term s293.Leads s87.Log s293.Commit s360)) hx16
  have hv400:=a04 hv397
  have he:=qg hF385
  subst he
  refine ym (bb:=b9) (oo:=0) (v := .agg [d4,v386]) (by simp only [f368,B0,reduceIte,a8]) ((zq (a0d _ _ _ (s9 hS398))).trans rfl) ?_
  exact ⟨c396,v386,c387,g8,by first | trivial | rfl,hv400,hv389,i4,(o8 (o8 (o8 (a0g (p9 (a0g (s9 (a0g (s9 hS398)))))))))⟩
 rw [iteF hc376] at hk325
 simp only [qw,qd,qc,f366,qj,B0,reduceIte,a8]
 refine qf (v := .agg [d4,d5]) ((zq (a0d _ _ _ (s9 hS373))).trans rfl) ?_
 simp only [f368,zd,B0,reduceIte,a8]
 refine qz (us:=[d4,d5]) rfl (cs':=[d4,
   d5]) (p9 hS373) hW rfl (qk (a3c hv375) (qk (a0j e8) zl)) (nle rfl) rfl (fun h401 hS402=>?_)
 simp only [qa,qx,B0,reduceIte,a8]
 obtain ⟨c403,hv404,hS405⟩:=a20 (e':=(Peer.mk s293.Term s293.Leads s87.Log s293.Commit s360)) (c:=c374) (os:=c90++(c361)) hv375 rfl hx16 zo (Peer.RI (x :=
   (Peer.mk s293.Term s293.Leads s87.Log s293.Commit s360)) hv91 hv362) (a07 (c1:=c90) (c2:=c361) (p9 (a0h (v3 hS402))))
 have hx406:=jl (x':=(Peer.mk s293.Term s293.Leads s87.Log s293.Commit s360)) hx16
 have hv407:=a04 hv404
 have he:=qg hk325
 subst he
 refine ym (bb:=b9) (oo:=0) (v := .agg [d4,d5]) (by simp only [f368,B0,reduceIte,a8]) ((zq (a0d _ _ _ (s9 hS405))).trans rfl) ?_
 exact ⟨c403,d5,d7,g8,by first | trivial | rfl,hv407,e8,i4,(o8 (o8 (s9 (a0g (o8 (a0g (s9 (a0g (s9 hS405)))))))))⟩
end Go.Proofs.Ytanblnjomhgphaa.X
namespace Go.Proofs.Ytanblnjomhgphaa.X
open Go
theorem qmg {W:Nat→Bool}{h:Heap}{lo:Nat→Prop}{S0:List Obj} (hW:∀ b,
  lo b→W b=true) (d8:Raft) (d4:XV) (f6:List Obj) (e9:SlN Peer.R 5 43 d4 d8.Peers f6) (d5:XV) (d7:List Obj)
  (e8:SlN Mail.R 9 86 d5 d8.Mail d7) (a9:Mail) (f0:XV) (g8:List Obj) (i4:SlF qt 2 65 f0 a9.Entry g8) (r:Raft × Mail)
  (hF:qbw d8 a9=some r) (hS:Sep h lo (f6++(d7++(g8++(S0))))) : Ret E W 76 [.agg [d4,d5],.agg [.bool a9.Reply,.int .i64 a9.From,
  .int .i64 a9.To,.int .i64 a9.Term,.int .i64 a9.Prev,.int .i64 a9.PTerm,f0,.int .i64 a9.Commit,.int .i64 a9.Match]] h (fun v h'=>∃ g9 i2 i0 ic1_6,
  v = .agg [d4,i2]∧SlN Peer.R 5 43 d4 r.1.Peers g9∧SlN Mail.R 9 86 i2 r.1.Mail i0∧SlF qt 2 65 f0 r.2.Entry ic1_6∧Sep h' lo (g9 ++
  (i0++(ic1_6++(S0))))):=by
 refine Ret.of (fn:=x76) rfl (Run.of ?_)
 unfold qbw at hF
 have zf0:zf [.agg [d4,d5],.agg [.bool a9.Reply,.int .i64 a9.From,.int .i64 a9.To,.int .i64 a9.Term,.int .i64 a9.Prev,.int .i64 a9.PTerm,f0,
   .int .i64 a9.Commit,.int .i64 a9.Match]] 0 = .agg [d4,d5]:=rfl
 have zf1:zf [.agg [d4,d5],.agg [.bool a9.Reply,.int .i64 a9.From,.int .i64 a9.To,.int .i64 a9.Term,.int .i64 a9.Prev,.int .i64 a9.PTerm,f0,
   .int .i64 a9.Commit,.int .i64 a9.Match]] 1 = .agg [.bool a9.Reply,.int .i64 a9.From,.int .i64 a9.To,.int .i64 a9.Term,.int .i64 a9.Prev,.int .i64 a9.PTerm,
   f0,.int .i64 a9.Commit,.int .i64 a9.Match]:=rfl
 generalize zf [.agg [d4,d5],.agg [.bool a9.Reply,.int .i64 a9.From,.int .i64 a9.To,.int .i64 a9.Term,.int .i64 a9.Prev,.int .i64 a9.PTerm,f0,
   .int .i64 a9.Commit,.int .i64 a9.Match]]=fr0 at zf0 zf1 ⊢
 simp only [x76,qd,qc,kt,zf0,B0,reduceIte,a8]
 refine j0 (cs:=[d4,d5]) hS rfl rfl (qk (a0j e9) (qk (a0j e8) zl)) (fun b1 h2 hS3=>?_)
 simp only [kt,zf1,B0,reduceIte,a8]
 refine j0 (cs:=[.bool a9.Reply,.int .i64 a9.From,.int .i64 a9.To,.int .i64 a9.Term,.int .i64 a9.Prev,.int .i64 a9.PTerm,f0,.int .i64 a9.Commit,
   .int .i64 a9.Match]) hS3 rfl rfl (qk rfl (qk rfl (qk rfl (qk rfl (qk rfl (qk rfl (qk (a0t i4) (qk rfl (qk rfl zl)))))))))
   (fun b5 h6 hS7=>?_)
 simp only [jm,B0,reduceIte,a8]
 refine z3 hS7 (fun b9 h10 hS11=>?_)
 simp only [qa,B0,reduceIte,a8]
 refine z8 (o8 hS11) hW (by simp only [B0,reduceIte,a8]) (fun h13 hS14=>?_)
 refine z8 (s9 hS14) hW (by simp only [B0,reduceIte,a8]) (fun h15 hS16=>?_)
 simp only [z7,quy,qd,qc,ql,qb,n7,n8,n9,qn,qj,B0,reduceIte,a8]
 refine qf (v:=d4) rfl ?_
 simp only [ql,qb,n7,n8,n9,qn,qj,B0,reduceIte,a8]
 refine qf (v := .int .i64 a9.To) rfl ?_
 obtain ⟨x17,hx18,hF19⟩:=qi hF
 simp only [zu,B0,reduceIte,a8]
 obtain ⟨b20,hb21⟩:=SlN.isrow e9 (jq hx18)
 refine qf (SlN.ia e9 hb21 hx18) ?_
 obtain ⟨c22,cs23,os24,hv25,hR26,hS27⟩:=SlG.opn (SlN.toG e9 hb21 Peer.RO.len) hx18 zo Peer.RO.len (s9 hS16)
 obtain ⟨v29,c30,v33,c34,hv31,hv35,rfl,rfl⟩:=hR26
 have hS28:=Sep.no2 hS27
 simp only [qj,B0,reduceIte,a8]
 refine qf (v := .agg [.int .i64 x17.Term,.bool x17.Leads,v29,.int .i64 x17.Commit,v33]) ((SlG.lds (o:=0) hv25 rfl hx18 hS28 (nle rfl)).trans rfl) ?_
 simp only [jm,B0,reduceIte,a8]
 refine z3 hS28 (fun b37 h38 hS39=>?_)
 simp only [zd,B0,reduceIte,a8]
 refine qz (us:=[.int .i64 x17.Term,.bool x17.Leads,v29,.int .i64 x17.Commit,v33]) rfl (cs':=[.int .i64 x17.Term,.bool x17.Leads,v29,.int .i64 x17.Commit,
   v33]) hS39 hW rfl (qk rfl (qk rfl (qk (a0t hv31) (qk rfl (qk (a0t hv35) zl))))) (nle rfl) rfl (fun h41 hS42=>?_)
 simp only [qa,qxc,qd,qc,ql,qb,n7,n8,n9,qn,qj,B0,reduceIte,a8]
 refine qf (v := .int .i64 a9.Term) rfl ?_
 simp only [ql,qb,n7,n8,n9,qu,qj,B0,reduceIte,a8]
 refine qf (v := .int .i64 x17.Term) ((jb (a0d _ _ _ hS42)).trans rfl) ?_
 simp only [qq,qb,ur,qa,q4a,qv,B0,reduceIte,a8]
 refine qs (t:=(decide (x17.Term<a9.Term))) (fun hc43=>?_) (fun hc43=>?_)
 ·rw [iteT hc43] at hF19
  simp only [q2s,qd,qc,ql,qb,n7,n8,n9,qn,qj,B0,reduceIte,a8]
  refine qf (v := .int .i64 a9.Term) rfl ?_
  simp only [ql,qb,n7,n8,n9,qu,zd,B0,reduceIte,a8]
  refine qz (us:=[.int .i64 a9.Term]) rfl (cs':=[.int .i64 a9.Term,.bool x17.Leads,v29,.int .i64 x17.Commit,
    v33]) hS42 hW rfl rfl (nle rfl) rfl (fun h44 hS45=>?_)
  simp only [qa,q40,qd,qc,ql,qb,n7,n8,n9,qu,zd,B0,reduceIte,a8]
  refine qz (us:=[.bool false]) rfl (cs':=[.int .i64 a9.Term,.bool false,v29,.int .i64 x17.Commit,v33]) hS45 hW rfl rfl (nle rfl) rfl (fun h46 hS47=>?_)
  simp only [qa,q7z,qd,qc,ql,qb,n7,n8,n9,qn,qj,B0,reduceIte,a8]
  refine qf (v:=d4) rfl ?_
  obtain ⟨l48,hx49,hF50⟩:=qi hF19
  simp only [zr,qb,SlG.plen hv25,qj3,B0,reduceIte,a8]
  refine qf0 (f:=cI) (z:=(0:Int)) hS47 hx49 rfl (fun v51 c52 h53 hv54 hS55=>?_)
  simp only [ql,qb,n7,n8,n9,qu,zd,B0,reduceIte,a8]
  refine qz (us:=[v51]) (jj (a0t hv54)) (cs':=[.int .i64 a9.Term,.bool false,v29,.int .i64 x17.Commit,
    v51]) (s9 hS55) hW rfl (qk (a0t hv54) zl) (nle rfl) rfl (fun h57 hS58=>?_)
  simp only [qa,q4r,qc,ql,qb,n7,n8,n9,qn,qj,B0,reduceIte,a8]
  refine qf (v:=d4) rfl ?_
  simp only [ql,qb,n7,n8,n9,qn,qj,B0,reduceIte,a8]
  refine qf (v := .int .i64 a9.To) rfl ?_
  simp only [qj,B0,reduceIte,a8]
  refine qf (v := .agg [.int .i64 a9.Term,.bool false,v29,.int .i64 x17.Commit,v51]) ((zq (a0d _ _ _ hS58)).trans rfl) ?_
  simp only [zu,B0,reduceIte,a8]
  refine qf (SlG.ia hv25 hx18) ?_
  simp only [zd,B0,reduceIte,a8]
  refine kx (n:=5) (us:=[.int .i64 a9.Term,.bool false,v29,.int .i64 x17.Commit,v51]) (cs:=[.int .i64 x17.Term,.bool x17.Leads,v29,.int .i64 x17.Commit,
    v33]) (o:=0) (cs':=[.int .i64 a9.Term,.bool false,v29,.int .i64 x17.Commit,
    v51]) rfl hv25 rfl hx18 (o8 hS58) hW rfl (qk rfl (qk rfl (qk (a0t hv31) (qk rfl (qk (a0t hv54) zl))))) (nle rfl) rfl
    (fun c61 h59 hv62 hS60=>?_)
  simp only [qa,qo8,qd,j5,qol,qc,ql,qb,n7,n8,n9,qn,qj,B0,reduceIte,a8]
  refine qf (v := .int .i64 a9.Term) rfl ?_
  simp only [ql,qb,n7,n8,n9,qu,qj,B0,reduceIte,a8]
  refine qf (v := .int .i64 a9.Term) ((jb (a0d _ _ _ (s9 hS60))).trans rfl) ?_
  simp only [qq,qb,ya,qe,qa,qox,qv,B0,reduceIte,a8]
  refine qs (t:=(decide (a9.Term≠a9.Term))) (fun hc63=>?_) (fun hc63=>?_)
  ·rw [iteT hc63] at hF50
   simp only [qd,qc,qj,B0,reduceIte,a8]
   refine qf (v := .agg [d4,d5]) rfl ?_
   simp only [zd,B0,reduceIte,a8]
   refine qz (us:=[d4,d5]) rfl (cs':=[d4,
     d5]) (v3 hS60) hW rfl (qk (a3c hv62) (qk (a0j e8) zl)) (nle rfl) rfl (fun h64 hS65=>?_)
   simp only [qa,qx,B0,reduceIte,a8]
   obtain ⟨c66,hv67,hS68⟩:=a20 (e':=(Peer.mk a9.Term false x17.Log x17.Commit l48)) (c:=c61) (os:=c30++(c52)) hv62 rfl hx18 zo (Peer.RI (x :=
     (Peer.mk a9.Term false x17.Log x17.Commit l48)) hv31 hv54) (a07 (c1:=c30) (c2:=c52) (p9 (a0i (p9 hS65))))
   have hx69:=jl (x':=(Peer.mk a9.Term false x17.Log x17.Commit l48)) hx18
   have hv70:=a04 hv67
   have he:=qg hF50
   subst he
   refine ym (bb:=b9) (oo:=0) (v := .agg [d4,d5]) (by simp only [B0,reduceIte,a8]) ((zq (a0d _ _ _ (s9 hS68))).trans rfl) ?_
   exact ⟨c66,d5,d7,g8,by first | trivial | rfl,hv70,e8,i4,(o8 (o8 (o8 (a0g (s9 (a0g (s9 (a0g (s9 hS68)))))))))⟩
  rw [iteF hc63] at hF50
  simp only [qoi,qd,qc,ql,qb,n7,n8,n9,qn,qj,B0,reduceIte,a8]
  refine qf (v := .bool a9.Reply) rfl ?_
  simp only [yk,qb,yw,qe,qa,qo6,qv,B0,reduceIte,a8]
  refine qs (t:=(!a9.Reply)) (fun hc71=>?_) (fun hc71=>?_)
  ·rw [iteT hc71] at hF50
   simp only [qro,qd,qc,qj,B0,reduceIte,a8]
   refine qf (v := .agg [d4,d5]) rfl ?_
   simp only [qj,B0,reduceIte,a8]
   refine qf (v := .agg [.bool a9.Reply,.int .i64 a9.From,.int .i64 a9.To,.int .i64 a9.Term,.int .i64 a9.Prev,.int .i64 a9.PTerm,f0,.int .i64 a9.Commit,
     .int .i64 a9.Match]) rfl ?_
   obtain ⟨c72,hv73,hS74⟩:=a20 (e':=(Peer.mk a9.Term false x17.Log x17.Commit l48)) (c:=c61) (os:=c30++(c52)) hv62 rfl hx18 zo (Peer.RI (x :=
     (Peer.mk a9.Term false x17.Log x17.Commit l48)) hv31 hv54) (a07 (c1:=c30) (c2:=c52) (o8 (p9 (o8 hS60))))
   have hx75:=jl (x':=(Peer.mk a9.Term false x17.Log x17.Commit l48)) hx18
   have hv76:=a04 hv73
   obtain ⟨v77,hx78,hF79⟩:=qi hF50
   simp only [zp,B0,reduceIte,a8]
   refine qab rfl (qhg hW (Raft.mk (a0u d8.Peers a9.To.toNat
     (Peer.mk a9.Term false x17.Log x17.Commit l48)) d8.Mail) d4 c72 hv76 d5 d7 e8 a9 f0 g8 i4 v77 hx78 (o8 (v3 (v3 hS74)))) ?_
   rintro _ h88 ⟨c80,v82,c83,c86,rfl,hv81,hv84,hv87,hS89⟩
   simp only [zd,B0,reduceIte,a8]
   refine qz (us:=[d4,v82]) rfl (cs':=[d4,v82]) (v3 hS89) hW rfl (qk (a0j hv81) (qk (a0j hv84) zl)) (nle rfl) rfl (fun h90 hS91=>?_)
   simp only [qa,qx,B0,reduceIte,a8]
   have he:=qg hF79
   subst he
   refine ym (bb:=b9) (oo:=0) (v := .agg [d4,v82]) (by simp only [B0,reduceIte,a8]) ((zq (a0d _ _ _ hS91)).trans rfl) ?_
   exact ⟨c80,v82,c83,c86,by first | trivial | rfl,hv81,hv84,hv87,(o8 (o8 (o8 (a0g (p9 (a0g (p9 (a0g (hS91)))))))))⟩
  rw [iteF hc71] at hF50
  simp only [qqr,qd,z9,zj,qh,n7,n8,n9,qu,zh,B0,reduceIte,a8]
  refine qo (v := .bool false) ((jb (a0d _ _ _ (s9 hS60))).trans rfl) ?_
  simp only [zx,qh,qy (g:=49),qa5,kf,zz,qy (g:=60),za,qrw,qv,qit,qw,kg,qd,
    qc,qj,B0,reduceIte,a8]
  refine qf (v := .agg [d4,d5]) rfl ?_
  simp only [zd,B0,reduceIte,a8]
  refine qz (us:=[d4,d5]) rfl (cs':=[d4,d5]) (v3 hS60) hW rfl (qk (a3c hv62) (qk (a0j e8) zl)) (nle rfl) rfl (fun h92 hS93=>?_)
  simp only [qa,qx,B0,reduceIte,a8]
  obtain ⟨c94,hv95,hS96⟩:=a20 (e':=(Peer.mk a9.Term false x17.Log x17.Commit l48)) (c:=c61) (os:=c30++(c52)) hv62 rfl hx18 zo (Peer.RI (x :=
    (Peer.mk a9.Term false x17.Log x17.Commit l48)) hv31 hv54) (a07 (c1:=c30) (c2:=c52) (p9 (a0i (p9 hS93))))
  have hx97:=jl (x':=(Peer.mk a9.Term false x17.Log x17.Commit l48)) hx18
  have hv98:=a04 hv95
  have he:=qg hF50
  subst he
  refine ym (bb:=b9) (oo:=0) (v := .agg [d4,d5]) (by simp only [B0,reduceIte,a8]) ((zq (a0d _ _ _ (s9 hS96))).trans rfl) ?_
  exact ⟨c94,d5,d7,g8,by first | trivial | rfl,hv98,e8,i4,(o8 (o8 (o8 (a0g (s9 (a0g (s9 (a0g (s9 hS96)))))))))⟩
 rw [iteF hc43] at hF19
 simp only [qw,qo8,qd,j5,qol,qc,ql,qb,n7,n8,n9,qn,qj,B0,reduceIte,a8]
 refine qf (v := .int .i64 a9.Term) rfl ?_
 simp only [ql,qb,n7,n8,n9,qu,qj,B0,reduceIte,a8]
 refine qf (v := .int .i64 x17.Term) ((jb (a0d _ _ _ hS42)).trans rfl) ?_
 simp only [qq,qb,ya,qe,qa,qox,qv,B0,reduceIte,a8]
 refine qs (t:=(decide (a9.Term≠x17.Term))) (fun hc99=>?_) (fun hc99=>?_)
 ·rw [iteT hc99] at hF19
  simp only [qd,qc,qj,B0,reduceIte,a8]
  refine qf (v := .agg [d4,d5]) rfl ?_
  simp only [zd,B0,reduceIte,a8]
  refine qz (us:=[d4,d5]) rfl (cs':=[d4,
    d5]) (a0i hS42) hW rfl (qk (a3c hv25) (qk (a0j e8) zl)) (nle rfl) rfl (fun h100 hS101=>?_)
  simp only [qa,qx,B0,reduceIte,a8]
  obtain ⟨c102,hv103,hS104⟩:=a1a (c:=c22) (os:=c30++(c34)) hv25 rfl hx18 zo (Peer.RI (x:=x17) hv31 hv35) (a07 (c1:=c30) (c2:=c34) (a0i (a0i
    (a0i hS101))))
  have hv105:=a04 hv103
  have he:=qg hF19
  subst he
  refine ym (bb:=b9) (oo:=0) (v := .agg [d4,d5]) (by simp only [B0,reduceIte,a8]) ((zq (a0d _ _ _ (s9 hS104))).trans rfl) ?_
  exact ⟨c102,d5,d7,g8,by first | trivial | rfl,hv105,e8,i4,(o8 (o8 (o8 (a0g (s9 (a0g (s9 hS104)))))))⟩
 rw [iteF hc99] at hF19
 simp only [qoi,qd,qc,ql,qb,n7,n8,n9,qn,qj,B0,reduceIte,a8]
 refine qf (v := .bool a9.Reply) rfl ?_
 simp only [yk,qb,yw,qe,qa,qo6,qv,B0,reduceIte,a8]
 refine qs (t:=(!a9.Reply)) (fun hc106=>?_) (fun hc106=>?_)
 ·rw [iteT hc106] at hF19
  simp only [qro,qd,qc,qj,B0,reduceIte,a8]
  refine qf (v := .agg [d4,d5]) rfl ?_
  simp only [qj,B0,reduceIte,a8]
  refine qf (v := .agg [.bool a9.Reply,.int .i64 a9.From,.int .i64 a9.To,.int .i64 a9.Term,.int .i64 a9.Prev,.int .i64 a9.PTerm,f0,.int .i64 a9.Commit,
    .int .i64 a9.Match]) rfl ?_
  obtain ⟨c107,hv108,hS109⟩:=a1a (c:=c22) (os:=c30++(c34)) hv25 rfl hx18 zo (Peer.RI (x:=x17) hv31 hv35) (a07 (c1:=c30) (c2:=c34) (p9 (p9
    (p9 hS42))))
  have hv110:=a04 hv108
  obtain ⟨v111,hx112,hF113⟩:=qi hF19
  simp only [zp,B0,reduceIte,a8]
  refine qab rfl (qhg hW d8 d4 c107 hv110 d5 d7 e8 a9 f0 g8 i4 v111 hx112 (o8 (a0i (a0i hS109)))) ?_
  rintro _ h122 ⟨c114,v116,c117,c120,rfl,hv115,hv118,hv121,hS123⟩
  simp only [zd,B0,reduceIte,a8]
  refine qz (us:=[d4,v116]) rfl (cs':=[d4,
    v116]) (a0i hS123) hW rfl (qk (a0j hv115) (qk (a0j hv118) zl)) (nle rfl) rfl (fun h124 hS125=>?_)
  simp only [qa,qx,B0,reduceIte,a8]
  have he:=qg hF113
  subst he
  refine ym (bb:=b9) (oo:=0) (v := .agg [d4,v116]) (by simp only [B0,reduceIte,a8]) ((zq (a0d _ _ _ hS125)).trans rfl) ?_
  exact ⟨c114,v116,c117,c120,by first | trivial | rfl,hv115,hv118,hv121,(o8 (o8 (o8 (a0g (p9 (a0g (hS125)))))))⟩
 rw [iteF hc106] at hF19
 simp only [qqr,qd,z9,zj,qh,n7,n8,n9,qu,zh,B0,reduceIte,a8]
 refine qo (v := .bool x17.Leads) ((jb (a0d _ _ _ hS42)).trans rfl) ?_
 simp only [zx,qh,B0,reduceIte,a8]
 obtain ⟨v129,hx130,hF131⟩:=qi hF19
 refine qaj 10 (fun fr' h'=>Sep h' lo (c22++(d7++(g8++([Blk1 b9 [.nil,.nil] 29]++([Blk1 b37 [.int .i64 x17.Term,.bool x17.Leads,v29,.int .i64 x17.Commit,
   v33] 43]++(c30++(c34++(S0))))))))∧fr' 59 = .bool v129∧fr' 2 = .ref [d4,d5] 0∧fr' 3 = .ref [.bool a9.Reply,.int .i64 a9.From,.int .i64 a9.To,
   .int .i64 a9.Term,.int .i64 a9.Prev,.int .i64 a9.PTerm,f0,.int .i64 a9.Commit,
   .int .i64 a9.Match] 0∧fr' 4 = .ptr b9 0∧fr' 5 = .ptr b37 0) rfl (fun Q126 hN127=>?_) ?_
 ·simp only [r8,t8]
  simp only [qy (g:=49),B0,reduceIte,a8]
  refine ye (t:=x17.Leads) (fun hg128=>?_) (fun hg128=>?_)
  ·rw [iteT hg128] at hx130
   simp only [hg128,qy (g:=49),z5,zj,qh,n7,n8,n9,qn,zh,B0,reduceIte,a8]
   refine qo (v := .int .i64 a9.Match) rfl ?_
   simp only [hg128,qy (g:=49),z5,zj,qh,n7,n8,n9,qu,zh,B0,reduceIte,a8]
   refine qo (v:=v33) ((jb (a0d _ _ _ hS42)).trans rfl) ?_
   simp only [hg128,qy (g:=49),z5,zj,qh,n7,n8,n9,qn,zh,B0,reduceIte,a8]
   refine qo (v := .int .i64 a9.From) rfl ?_
   obtain ⟨x132,hx133,hF134⟩:=qi hx130
   simp only [hg128,qy (g:=49),z5,kz,B0,reduceIte,a8]
   obtain ⟨b135,hb136⟩:=a1w hv35 (jq hx133)
   refine qo (a2v hv35 hb136 hx133) ?_
   simp only [hg128,qy (g:=49),z5,zh,B0,reduceIte,a8]
   refine qo (v := .int .i64 x132) ((SlF.ld (o:=0) hv35 (p9 hS42) hb136 hx133 (fun _=>rfl) (nle rfl)).trans rfl) ?_
   simp only [hg128,qy (g:=49),z5,kd,qh,ur,kf,z1,za,qr,B0,reduceIte,a8]
   have e137:=qg hF134
   exact hN127 _ _ ⟨(a13 (a13 (a13 (a0i (o8 (p9 (p9 hS42))))))),by rw [←e137]; simp only [B0,reduceIte,a8],rfl,rfl,rfl,rfl⟩
  ·rw [iteF hg128] at hx130
   simp only [hg128,qy (g:=49),qa5,kf,qh,zz,za,qr,B0,reduceIte,a8]
   have e138:=qg hx130
   exact hN127 _ _ ⟨(a13 (a13 (a13 (a0i (o8 (p9 (p9 hS42))))))),by rw [←e138]; simp only [B0,reduceIte,a8],rfl,rfl,rfl,rfl⟩
 rintro fr139 h145 ⟨hS146,f140,f141,f142,f143,f144⟩
 simp only [s5,t6]
 simp only [f140,zx,qh,B0,reduceIte,a8]
 refine qaj 7 (fun fr' h'=>Sep h' lo (c22++(d7++(g8++([Blk1 b9 [.nil,
   .nil] 29]++(c30++(c34++(S0)))))))∧fr' 67 = .bool (v129&&(decide (a9.Match≤(o6 x17.Log:Int))))∧fr' 2 = .ref [d4,
   d5] 0∧fr' 3 = .ref [.bool a9.Reply,.int .i64 a9.From,.int .i64 a9.To,.int .i64 a9.Term,.int .i64 a9.Prev,.int .i64 a9.PTerm,f0,.int .i64 a9.Commit,
   .int .i64 a9.Match] 0∧fr' 4 = .ptr b9 0) rfl (fun Q147 hN148=>?_) ?_
 ·simp only [r8,t8]
  simp only [qy (g:=60),B0,reduceIte,a8]
  refine ye (t:=v129) (fun hg149=>?_) (fun hg149=>?_)
  ·simp only [hg149,qy (g:=60),z5,f142,zj,qh,n7,n8,n9,qn,zh,B0,reduceIte,a8]
   refine qo (v := .int .i64 a9.Match) rfl ?_
   simp only [hg149,qy (g:=60),z5,f144,zj,qh,n7,n8,n9,qu,zh,B0,reduceIte,a8]
   refine qo (v:=v29) ((jb (a0d _ _ _ (a0i hS146))).trans rfl) ?_
   simp only [hg149,qy (g:=60),z5,wo,qh,a1o hv31,kd,qjo,kf,z1,za,qr,B0,reduceIte,a8]
   exact hN148 _ _ ⟨(v3 (v3 (v3 (v3 (v3 (v3 (a0g (a0i hS146)))))))),by rw [qew hg149]; simp only [B0,reduceIte,a8],f141,f142,f143⟩
  ·simp only [hg149,qy (g:=60),qa5,kf,qh,zz,za,qr,B0,reduceIte,a8]
   exact hN148 _ _ ⟨(v3 (v3 (v3 (v3 (v3 (v3 (a0g (a0i hS146)))))))),by rw [qeu hg149]; simp only [B0,reduceIte,a8],f141,f142,f143⟩
 rintro fr150 h155 ⟨hS156,f151,f152,f153,f154⟩
 simp only [s5,t6]
 simp only [f151,zx,qh,za,qrw,qv,B0,reduceIte,a8]
 refine qs (t:=(v129&&(decide (a9.Match≤(o6 x17.Log:Int))))) (fun hc157=>?_) (fun hc157=>?_)
 ·rw [iteT hc157] at hF131
  simp only [q6u,z9,f152,zj,qh,n7,n8,n9,qn,zh,B0,reduceIte,a8]
  refine qo (v:=d4) rfl ?_
  simp only [f153,zj,qh,n7,n8,n9,qn,zh,B0,reduceIte,a8]
  refine qo (v := .int .i64 a9.To) rfl ?_
  simp only [kz,B0,reduceIte,a8]
  refine qo (SlG.ia hv25 hx18) ?_
  simp only [zj,qh,n7,n8,n9,qu,zh,B0,reduceIte,a8]
  refine qo (v:=v33) ((SlG.ld (o:=4) hv25 rfl hx18 hS156 (nle rfl)).trans rfl) ?_
  simp only [f153,zj,qh,n7,n8,n9,qn,zh,B0,reduceIte,a8]
  refine qo (v := .int .i64 a9.From) rfl ?_
  simp only [f153,zj,qh,n7,n8,n9,qn,zh,B0,reduceIte,a8]
  refine qo (v := .int .i64 a9.Match) rfl ?_
  obtain ⟨x158,hx159,hF160⟩:=qi hF131
  simp only [kz,B0,reduceIte,a8]
  obtain ⟨b161,hb162⟩:=a1w hv35 (jq hx159)
  refine qo (a2v hv35 hb162 hx159) ?_
  simp only [xx,B0,reduceIte,a8]
  refine qeh (f:=cI) (x':=a9.Match) (o:=0) hv35 (v3 hS156) hW hb162 hx159 (fun _=>rfl) rfl rfl (nle rfl) rfl (fun c165 h163 hv166 hS164=>?_)
  have hx167:=jl (x':=a9.Match) hx159
  simp only [za,kg,qd,qc,f152,qj,B0,reduceIte,a8]
  refine qf (v := .agg [d4,d5]) rfl ?_
  simp only [f154,zd,B0,reduceIte,a8]
  refine qz (us:=[d4,d5]) rfl (cs':=[d4,
    d5]) (a0i hS164) hW rfl (qk (a3c hv25) (qk (a0j e8) zl)) (nle rfl) rfl (fun h168 hS169=>?_)
  simp only [qa,qx,B0,reduceIte,a8]
  obtain ⟨c170,hv171,hS172⟩:=a20 (e':=(Peer.mk x17.Term x17.Leads x17.Log x17.Commit (a0u x17.Match a9.From.toNat a9.Match))) (c:=c22) (os:=c30 ++
    (c165)) hv25 rfl hx18 zo (Peer.RI (x:=(Peer.mk x17.Term x17.Leads x17.Log x17.Commit (a0u x17.Match a9.From.toNat a9.Match))) hv31 hv166) (a07
    (c1:=c30) (c2:=c165) (p9 (v3 (s9 hS169))))
  have hx173:=jl (x':=(Peer.mk x17.Term x17.Leads x17.Log x17.Commit (a0u x17.Match a9.From.toNat a9.Match))) hx18
  have hv174:=a04 hv171
  have he:=qg hF160
  subst he
  refine ym (bb:=b9) (oo:=0) (v := .agg [d4,d5]) (by simp only [f154,B0,reduceIte,a8]) ((zq (a0d _ _ _ (s9 hS172))).trans rfl) ?_
  exact ⟨c170,d5,d7,g8,by first | trivial | rfl,hv174,e8,i4,(o8 (o8 (o8 (a0g (s9 hS172)))))⟩
 rw [iteF hc157] at hF131
 simp only [qw,kg,qd,qc,f152,qj,B0,reduceIte,a8]
 refine qf (v := .agg [d4,d5]) rfl ?_
 simp only [f154,zd,B0,reduceIte,a8]
 refine qz (us:=[d4,d5]) rfl (cs':=[d4,
   d5]) (p9 hS156) hW rfl (qk (a3c hv25) (qk (a0j e8) zl)) (nle rfl) rfl (fun h175 hS176=>?_)
 simp only [qa,qx,B0,reduceIte,a8]
 obtain ⟨c177,hv178,hS179⟩:=a1a (c:=c22) (os:=c30++(c34)) hv25 rfl hx18 zo (Peer.RI (x:=x17) hv31 hv35) (a07 (c1:=c30) (c2:=c34) (p9 (v3
   (v3 hS176))))
 have hv180:=a04 hv178
 have he:=qg hF131
 subst he
 refine ym (bb:=b9) (oo:=0) (v := .agg [d4,d5]) (by simp only [f154,B0,reduceIte,a8]) ((zq (a0d _ _ _ (s9 hS179))).trans rfl) ?_
 exact ⟨c177,d5,d7,g8,by first | trivial | rfl,hv180,e8,i4,(o8 (o8 (o8 (a0g (s9 hS179)))))⟩
theorem qnu {W:Nat→Bool}{h:Heap} (hW:∀ b,
  (geL h.length) b→W b=true) (k:Nat) (bits_0:Int) (r:List Int) (hF:qcs k bits_0=some r) : Ret E W 94 [.int .i64 bits_0] h
  (fun v h'=>cut h.length h' E.sz false 9 v=some (lst cI r)):=by
 refine Ret.of (fn:=x94) rfl (Run.of ?_)
 unfold qcs at hF
 have zf0:zf [.int .i64 bits_0] 0 = .int .i64 bits_0:=rfl
 generalize zf [.int .i64 bits_0]=fr0 at zf0 ⊢
 have hS:Sep h (geL h.length) []:=a1x h
 simp only [x94,qd,qc,qe,qa,q6x,q7x,B0,reduceIte,a8]
 obtain ⟨oc15,hX17,hk18⟩:=jz hF
 simp only [q5s]
 refine wg (σ:=(List Int) × Int) (fun s58=>qfb bits_0 s58.1 s58.2) (fun s fr' h'=>∃ v9 c10,
   fr' 0 = .int .i64 bits_0∧fr' 3=v9∧fr' 4 = .int .i64 s.2∧SlF cI 1 3 v9 s.1 c10∧Sep h' (geL h.length) (c10++([]))) hX17 ⟨.nil,[],zf0,rfl,rfl,SlF.nil,
   (hS:Sep _ (geL h.length) ([]))⟩ (fun _ _ _ h=>h) ?_ ?_
 ·rintro ⟨s7,s12⟩ fr27 h28 ⟨v9,c10,f30,f31,f32,hv11,hS29⟩ oc16 hF19 hr20 Q21 hN22 hK23 hR24 hE25
  dsimp only at *
  unfold qfb at hF19
  obtain ⟨hp34,hF35⟩:=qfq hF19
  simp only [q2o,qd,qc,f30,qe,f32,qjz,qb,qjg,qq,uo (n:=(l9 .u64 s12)) hp34,ur,qa,qv,B0,
    reduceIte,a8]
  refine qs (t:=(decide ((0:Int)<(ji .i64 bits_0 (l9 .u64 s12))))) (fun hc36=>?_) (fun hc36=>?_)
  ·rw [iteT hc36] at hF35
   obtain ⟨hp37,hF38⟩:=qfq hF35
   simp only [qw,q1w,qd,j5,q2u,qc,f30,qe,f32,qjz,qb,qjg,qq,uo (n:=(l9 .u64 s12)) hp37,qf8,
     yh,qa,q4c,qv,B0,reduceIte,a8]
   refine qs (t:=(decide ((zw .i64 (ji .i64 bits_0 (l9 .u64 s12)) 1)=1))) (fun hc39=>?_) (fun hc39=>?_)
   ·rw [iteT hc39] at hF38
    simp only [q18,qc,f31,qe,f32,kc,evp,B0,reduceIte,a8]
    refine ku (n:=1) (f:=cI) [s12] hS29 rfl rfl (fun v40 c41 h42 hv43 hS44=>?_)
    simp only [wc,B0,reduceIte,a8]
    obtain ⟨l46,hx47,hF48⟩:=qi hF38
    refine ws (f:=cI) hv11 (s9 hS44) hW (fun _=>rfl) (fun _=>rfl) (a31 hv43 hS44 (fun _=>rfl)) hx47 (fun v49 c50 h51 hv52 hS53=>?_)
    simp only [qe,qa,kg,qc,f32,qq,qb,j8,qr,B0,reduceIte,a8]
    have e55:=qg hF48
    exact hN22 _ _ _ e55.symm ⟨v49,c50,f30,rfl,rfl,hv52,(a0g (s9 hS53))⟩
   rw [iteF hc39] at hF38
   simp only [qw,kg,qc,f32,qe,qq,qb,j8,qa,qr,B0,reduceIte,a8]
   have e56:=qg hF38
   exact hN22 _ _ _ e56.symm ⟨v9,c10,f30,f31,rfl,hv11,hS29⟩
  rw [iteF hc36] at hF35
  simp only [yn,yl,y8,B0,reduceIte,a8]
  have e57:=qg hF35
  exact hK23 _ _ _ e57.symm ⟨v9,c10,f30,f31,f32,hv11,hS29⟩
 rintro ⟨s59,s64⟩ fr65 h66 rfl ⟨v61,c62,f68,f69,f70,hv63,hS67⟩
 dsimp only [jnO] at hk18
 dsimp only at *
 unfold qh8 at hk18
 simp only [qd,qc,f69,qe,qa,qx,B0,reduceIte,a8]
 have he:=qg hk18
 subst he
 simp only [q9,B0,reduceIte,a8]
 exact (SlF.cut hv63 hS67 (fun _ hb=>hb) rfl (fun _=>rfl) (fun _=>rfl))
theorem qms {W:Nat→Bool}{h:Heap} (hW:∀ b,
  (geL h.length) b→W b=true) (i7:List Int) (i6:Int) (r:Bool) (hF:qc4 i7 i6=some r) : Ret E W 95 [lst cI i7,
  .int .i64 i6] h (fun v h'=>cut h.length h' E.sz false 9 v=some (.bool r)):=by
 refine Ret.of (fn:=x95) rfl (Run.of ?_)
 unfold qc4 at hF
 have zf0:zf [lst cI i7,.int .i64 i6] 0=lst cI i7:=rfl
 have zf1:zf [lst cI i7,.int .i64 i6] 1 = .int .i64 i6:=rfl
 generalize zf [lst cI i7,.int .i64 i6]=fr0 at zf0 zf1 ⊢
 have hS:Sep h (geL h.length) []:=a1x h
 simp only [x95,qd,qc,qe,qa,q35,zf0,zr,qb,ja,B0,reduceIte,a8]
 obtain ⟨oc3,hX5,hk6⟩:=jz hF
 simp only [q7u]
 refine qao (σ:=Unit) i7 (fun i1 x2 _=>qcw i7 i6 i1 x2 ) (fun s fr' h'=>fr' 0=lst cI i7∧fr' 1 = .int .i64 i6∧fr' 7=lst cI i7∧Sep h'
   (geL h.length) ([])) hX5 ⟨zf0,zf1,rfl,hS⟩ (by simp only [B0,reduceIte,a8]) (by simp only [B0,reduceIte,
   a8]) (fun _ _ _ h=>h) rfl rfl (fun _ _ _ _ h=>h) (fun _ _ _ _ h=>h) (fun _ _ _ _ h=>h) (by decide) ?_ ?_
 ·rintro i1 x2 _ fr15 h16 hx21 ⟨f18,f19,f20,hS17⟩ f22 f23 oc4 hF7 hr8 Q9 hN10 hB14 hK11 hR12 hE13
  unfold qcw at hF7
  simp only [q5d,qd,qc,f22,qe,f20,zu,B0,reduceIte,a8]
  refine qf (v := .ref (cI x2) 0) (qam hx21 rfl) ?_
  simp only [qj,B0,reduceIte,a8]
  refine qf (v := .int .i64 x2) rfl ?_
  simp only [qe,qa,q23,qd,qc,qq,qb,yg,B0,reduceIte,a8]
  refine ki 4 (fun fr' h'=>Sep h' (geL h.length) ([])∧fr' 20 = .bool ((decide (x2<0))||(decide
    (i6≤x2)))∧fr' 0=lst cI i7∧fr' 1 = .int .i64 i6∧fr' 5 = .int .i64 (i1:Int)∧fr' 6 = .int .i64 x2∧fr' 7=lst cI i7∧fr' 8 = .int .i64
    (o6 i7:Int)∧fr' 9 = .int .i64 (i1:Int)) (fun Q24 hN25=>?_) ?_
  ·simp only [r8,t8]
   simp only [qm (g:=16),B0,reduceIte,a8]
   refine zv (t:=(decide (x2<0))) (fun hg26=>?_) (fun hg26=>?_)
   ·simp only [hg26,qm (g:=16),jp,zk,qb,z1,qa,qr,B0,reduceIte,a8]
    exact hN25 _ _ ⟨hS17,by rw [orT hg26]; simp only [B0,reduceIte,a8],f18,f19,rfl,rfl,f20,f23,f22⟩
   ·simp only [hg26,qm (g:=16),zi,qe,f19,qq,qb,qhi,zk,zz,qa,qr,B0,reduceIte,a8]
    exact hN25 _ _ ⟨hS17,by rw [orF hg26]; simp only [B0,reduceIte,a8],f18,f19,rfl,rfl,f20,f23,f22⟩
  rintro fr27 h36 ⟨hS37,f28,f29,f30,f31,f32,f33,f34,f35⟩
  simp only [s5,t6]
  simp only [f28,qe,B0,reduceIte,a8]
  obtain ⟨v41,hx42,hF43⟩:=qi hF7
  refine ki 12 (fun fr' h'=>Sep h' (geL h.length) ([])∧fr' 33 = .bool v41∧fr' 0=lst cI i7∧fr' 1 = .int .i64 i6∧fr' 7=lst cI i7∧fr' 8 = .int .i64
    (o6 i7:Int)∧fr' 9 = .int .i64 (i1:Int)) (fun Q38 hN39=>?_) ?_
  ·simp only [r8,t8]
   simp only [qm (g:=21),B0,reduceIte,a8]
   refine zv (t:=((decide (x2<0))||(decide (i6≤x2)))) (fun hg40=>?_) (fun hg40=>?_)
   ·rw [iteT hg40] at hx42
    simp only [hg40,qm (g:=21),jp,qm (g:=24),qf7,zk,qb,z1,qa,qr,B0,reduceIte,a8]
    have e44:=qg hx42
    exact hN39 _ _ ⟨hS37,by rw [←e44]; simp only [B0,reduceIte,a8],f29,f30,f33,f34,f35⟩
   ·rw [iteF hg40] at hx42
    simp only [hg40,qm (g:=21),zi,f31,qe,qq,qb,ur,B0,reduceIte,a8]
    obtain ⟨v48,hx49,hF50⟩:=qi hx42
    refine ki 8 (fun fr' h'=>Sep h' (geL h.length) ([])∧fr' 32 = .bool v48∧fr' 0=lst cI i7∧fr' 1 = .int .i64 i6∧fr' 7=lst cI i7∧fr' 8 = .int .i64
      (o6 i7:Int)∧fr' 9 = .int .i64 (i1:Int)∧fr' 21 = .bool ((decide (x2<0))||(decide (i6≤x2)))) (fun Q45 hN46=>?_) ?_
    ·simp only [r8,t8]
     simp only [qm (g:=24),B0,reduceIte,a8]
     refine zv (t:=(decide ((0:Int)<(i1:Int)))) (fun hg47=>?_) (fun hg47=>?_)
     ·rw [iteT hg47] at hx49
      obtain ⟨x51,hx52,hF53⟩:=qi hx49
      simp only [hg47,qm (g:=24),jg,f29,qe,f31,qq,qb,qer,zu,B0,reduceIte,a8]
      refine qf (v := .ref (cI x51) 0) (j9 hx52 rfl) ?_
      simp only [hg47,qm (g:=24),jg,qj,B0,reduceIte,a8]
      refine qf (v := .int .i64 x51) rfl ?_
      simp only [hg47,qm (g:=24),jg,f32,qe,qq,qb,qhi,hg40,qm (g:=21),zi,zk,z1,qa,
        qr,B0,reduceIte,a8]
      have e54:=qg hF53
      exact hN46 _ _ ⟨hS37,by rw [←e54]; simp only [B0,reduceIte,a8],f29,f30,f33,f34,f35,by simp only [hg40,B0,reduceIte,a8]⟩
     ·rw [iteF hg47] at hx49
      simp only [hg47,qm (g:=24),wd,hg40,qm (g:=21),zi,zk,qb,zz,qa,qr,B0,reduceIte,
        a8]
      have e55:=qg hx49
      exact hN46 _ _ ⟨hS37,by rw [←e55]; simp only [B0,reduceIte,a8],f29,f30,f33,f34,f35,by simp only [hg40,B0,reduceIte,a8]⟩
    rintro fr56 h64 ⟨hS65,f57,f58,f59,f60,f61,f62,f63⟩
    simp only [s5,t6]
    simp only [f63,hg40,zk,qb,zz,f57,qa,qr,B0,reduceIte,a8]
    have e66:=qg hF50
    exact hN39 _ _ ⟨hS65,by rw [←e66]; simp only [B0,reduceIte,a8],f58,f59,f60,f61,f62⟩
  rintro fr67 h74 ⟨hS75,f68,f69,f70,f71,f72,f73⟩
  simp only [s5,t6]
  simp only [qa,f68,qv,B0,reduceIte,a8]
  refine qs (t:=v41) (fun hc76=>?_) (fun hc76=>?_)
  ·rw [iteT hc76] at hF43
   simp only [qd,qc,qe,qa,qx,B0,reduceIte,a8]
   have e77:=qg hF43
   subst e77
   have ho78:=hr8 _ rfl
   have hk79:=hk6
   rw [ho78] at hk79
   dsimp only [jnO] at hk79
   apply hR12
   have he:=qg hk79
   subst he
   simp only [q9,B0,reduceIte,a8]
   exact rfl
  rw [iteF hc76] at hF43
  simp only [qw,qr,B0,reduceIte,a8]
  have e80:=qg hF43
  exact hN10 _ _ _ e80.symm ⟨f69,f70,f71,hS75⟩ (f73) (f72)
 rintro _ fr82 h83 rfl ⟨f85,f86,f87,hS84⟩
 dsimp only [jnO] at hk6
 unfold qhm at hk6
 simp only [qd,qc,qe,qa,qx,B0,reduceIte,a8]
 have he:=qg hk6
 subst he
 simp only [q9,B0,reduceIte,a8]
 exact rfl
theorem qoa {W:Nat→Bool}{h:Heap} (hW:∀ b,
  (geL h.length) b→W b=true) (i7:List Int) (n_1:Int) (r:Bool) (hF:qdl i7 n_1=some r) : Ret E W 96 [lst cI i7,
  .int .i64 n_1] h (fun v h'=>cut h.length h' E.sz false 9 v=some (.bool r)):=by
 refine Ret.of (fn:=x96) rfl (Run.of ?_)
 unfold qdl at hF
 have zf0:zf [lst cI i7,.int .i64 n_1] 0=lst cI i7:=rfl
 have zf1:zf [lst cI i7,.int .i64 n_1] 1 = .int .i64 n_1:=rfl
 generalize zf [lst cI i7,.int .i64 n_1]=fr0 at zf0 zf1 ⊢
 have hS:Sep h (geL h.length) []:=a1x h
 simp only [x96,qd,qc,qe,qa,q3y,zf0,zr,qb,ja,B0,reduceIte,a8]
 obtain ⟨oc3,hX5,hk6⟩:=jz hF
 simp only [q36]
 refine qao (σ:=Unit) i7 (fun i1 x2 _=>qd3 n_1 i1 x2 ) (fun s fr' h'=>fr' 1 = .int .i64 n_1∧fr' 7=lst cI i7∧Sep h' (geL h.length) ([])) hX5 ⟨zf1,
   rfl,hS⟩ (by simp only [B0,reduceIte,a8]) (by simp only [B0,reduceIte,
   a8]) (fun _ _ _ h=>h) rfl rfl (fun _ _ _ _ h=>h) (fun _ _ _ _ h=>h) (fun _ _ _ _ h=>h) (by decide) ?_ ?_
 ·rintro i1 x2 _ fr15 h16 hx20 ⟨f18,f19,hS17⟩ f21 f22 oc4 hF7 hr8 Q9 hN10 hB14 hK11 hR12 hE13
  unfold qd3 at hF7
  simp only [q7c,qd,qc,f19,f21,zu,B0,reduceIte,a8]
  refine qf (v := .ref (cI x2) 0) (qam hx20 rfl) ?_
  simp only [qj,B0,reduceIte,a8]
  refine qf (v := .int .i64 x2) rfl ?_
  simp only [qe,qa,q7y,qd,qc,f18,qq,qb,yh,qv,B0,reduceIte,a8]
  refine qs (t:=(decide (x2=n_1))) (fun hc23=>?_) (fun hc23=>?_)
  ·rw [iteT hc23] at hF7
   simp only [qd,qc,qe,qa,qx,B0,reduceIte,a8]
   have e24:=qg hF7
   subst e24
   have ho25:=hr8 _ rfl
   have hk26:=hk6
   rw [ho25] at hk26
   dsimp only [jnO] at hk26
   apply hR12
   have he:=qg hk26
   subst he
   simp only [q9,B0,reduceIte,a8]
   exact rfl
  rw [iteF hc23] at hF7
  simp only [qw,qr,B0,reduceIte,a8]
  have e27:=qg hF7
  exact hN10 _ _ _ e27.symm ⟨f18,f19,hS17⟩ (f21) (f22)
 rintro _ fr29 h30 rfl ⟨f32,f33,hS31⟩
 dsimp only [jnO] at hk6
 unfold qja at hk6
 simp only [qd,qc,qe,qa,qx,B0,reduceIte,a8]
 have he:=qg hk6
 subst he
 simp only [q9,B0,reduceIte,a8]
 exact rfl
theorem qdm {W:Nat→Bool}{h:Heap} (hW:∀ b,
  (geL h.length) b→W b=true) (i7:List Entry) (r:Int) (hF:ug i7=some r) : Ret E W 105 [lst qt i7] h
  (fun v h'=>cut h.length h' E.sz false 9 v=some (.int .i64 r)):=by
 refine Ret.of (fn:=qq1) rfl (Run.of ?_)
 unfold ug at hF
 have zf0:zf [lst qt i7] 0=lst qt i7:=rfl
 generalize zf [lst qt i7]=fr0 at zf0 ⊢
 have hS:Sep h (geL h.length) []:=a1x h
 simp only [qq1,qd,qc,qe,qa,qvl,zf0,zr,qb,ja,qq,yh,qv,B0,reduceIte,a8]
 refine qs (t:=(decide ((o6 i7:Int)=0))) (fun hc1=>?_) (fun hc1=>?_)
 ·rw [iteT hc1] at hF
  simp only [qd,qc,qe,qa,qx,B0,reduceIte,a8]
  have he:=qg hF
  subst he
  simp only [q9,B0,reduceIte,a8]
  exact rfl
 rw [iteF hc1] at hF
 obtain ⟨x2,hx3,hF4⟩:=qi hF
 simp only [qw,qve,qd,qc,zf0,qe,zr,qb,ja,qq,qer,zu,B0,reduceIte,a8]
 refine qf (v := .ref (qt x2) 0) (j9 hx3 rfl) ?_
 simp only [ql,qb,n7,n8,n9,qn,qj,B0,reduceIte,a8]
 refine qf (v := .int .i64 x2.Term) rfl ?_
 simp only [qe,qa,qx,B0,reduceIte,a8]
 have he:=qg hF4
 subst he
 simp only [q9,B0,reduceIte,a8]
 exact rfl
theorem qjq {W:Nat→Bool}{h:Heap} (hW:∀ b,
  (geL h.length) b→W b=true) (d6:List Entry) (d9:List Entry) (r:Bool) (hF:qcf d6 d9=some r) : Ret E W 97 [lst qt d6,
  lst qt d9] h (fun v h'=>cut h.length h' E.sz false 9 v=some (.bool r)):=by
 refine Ret.of (fn:=x97) rfl (Run.of ?_)
 unfold qcf at hF
 have zf0:zf [lst qt d6,lst qt d9] 0=lst qt d6:=rfl
 have zf1:zf [lst qt d6,lst qt d9] 1=lst qt d9:=rfl
 generalize zf [lst qt d6,lst qt d9]=fr0 at zf0 zf1 ⊢
 have hS:Sep h (geL h.length) []:=a1x h
 obtain ⟨v1,hx2,hF3⟩:=qi hF
 simp only [x97,qd,qc,qe,qa,q2b,zf0,zp,B0,reduceIte,a8]
 refine kh rfl (qp jo zm) (qdm (fun b hb=>decide_eq_true hb) d6 v1 hx2) ?_
 obtain ⟨v4,hx5,hF6⟩:=qi hF3
 simp only [zf1,qe,zp,B0,reduceIte,a8]
 refine kh rfl (qp jo zm) (qdm (fun b hb=>decide_eq_true hb) d9 v4 hx5) ?_
 simp only [qq,qb,ur,qe,B0,reduceIte,a8]
 obtain ⟨v10,hx11,hF12⟩:=qi hF6
 refine ki 13 (fun fr' h'=>Sep h' (geL h.length) ([])∧fr' 23 = .bool v10) (fun Q7 hN8=>?_) ?_
 ·simp only [r8,t8]
  simp only [qm (g:=10),B0,reduceIte,a8]
  refine zv (t:=(decide (v4<v1))) (fun hg9=>?_) (fun hg9=>?_)
  ·rw [iteT hg9] at hx11
   simp only [hg9,qm (g:=10),jp,qm (g:=16),qf7,zk,qb,z1,qa,qr,B0,reduceIte,a8]
   have e13:=qg hx11
   exact hN8 _ _ ⟨hS,by rw [←e13]; simp only [B0,reduceIte,a8]⟩
  ·rw [iteF hg9] at hx11
   obtain ⟨v14,hx15,hF16⟩:=qi hx11
   simp only [hg9,qm (g:=10),zi,zf0,qe,zp,B0,reduceIte,a8]
   refine kh rfl (qp jo zm) (qdm (fun b hb=>decide_eq_true hb) d6 v14 hx15) ?_
   obtain ⟨v17,hx18,hF19⟩:=qi hF16
   simp only [hg9,qm (g:=10),zi,zf1,qe,zp,B0,reduceIte,a8]
   refine kh rfl (qp jo zm) (qdm (fun b hb=>decide_eq_true hb) d9 v17 hx18) ?_
   simp only [hg9,qm (g:=10),zi,qq,qb,yh,qe,B0,reduceIte,a8]
   refine ki 6 (fun fr' h'=>Sep h' (geL h.length) ([])∧fr' 22 = .bool ((decide (v14=v17))&&(decide ((o6 d9:Int) ≤
     (o6 d6:Int))))∧fr' 10 = .bool (decide (v4<v1))) (fun Q20 hN21=>?_) ?_
   ·simp only [r8,t8]
    simp only [qm (g:=16),B0,reduceIte,a8]
    refine zv (t:=(decide (v14=v17))) (fun hg22=>?_) (fun hg22=>?_)
    ·simp only [hg22,qm (g:=16),jg,zf0,qe,zr,qb,ja,zf1,qq,qhi,hg9,qm (g:=10),zi,zk,
      z1,qa,qr,B0,reduceIte,a8]
     exact hN21 _ _ ⟨hS,by rw [qew hg22]; simp only [B0,reduceIte,a8],by simp only [hg9,B0,reduceIte,a8]⟩
    ·simp only [hg22,qm (g:=16),wd,hg9,qm (g:=10),zi,zk,qb,zz,qa,qr,B0,reduceIte,a8]
     exact hN21 _ _ ⟨hS,by rw [qeu hg22]; simp only [B0,reduceIte,a8],by simp only [hg9,B0,reduceIte,a8]⟩
   rintro fr23 h26 ⟨hS27,f24,f25⟩
   simp only [s5,t6]
   simp only [f25,hg9,zk,qb,zz,f24,qa,qr,B0,reduceIte,a8]
   have e28:=qg hF19
   exact hN8 _ _ ⟨hS27,by rw [←e28]; simp only [B0,reduceIte,a8]⟩
 rintro fr29 h31 ⟨hS32,f30⟩
 simp only [s5,t6]
 simp only [f30,qe,qa,qx,B0,reduceIte,a8]
 have he:=qg hF12
 subst he
 simp only [q9,B0,reduceIte,a8]
 exact rfl
end Go.Proofs.Ytanblnjomhgphaa.X
