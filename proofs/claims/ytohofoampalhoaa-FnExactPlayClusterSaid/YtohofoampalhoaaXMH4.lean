/- The functions' code comes to what the plain functions say (4). -/
import Derived.Test.YtohofoampalhoaaXMH3
open Go.IntKind renaming wrap→a0a
open List renaming append_assoc→a0f,drop_succ_cons→t9,drop_zero→a0c,length→t6,nil_append→a0z,take_succ_cons→t8,take_zero→a0d
open Nat renaming add_zero→t5,reduceAdd→s5,reduceEqDiff→a9,zero_add→s9
open Go.Proofs.Ytohofoampalhoaa.X.Sep renaming bk→a0r,dc→a0s,m1→a0l,m2→a0k,m3→a0e,m4→a0i,m5→a03,m6→a0v,nil→a1q
open Go.Proofs.Ytohofoampalhoaa.X.SlF renaming free1→a1r,nil→a25,one→a0g,pf→a2p,snap→a06
open Go.Proofs.Ytohofoampalhoaa.X.SlN renaming free1→a4f,one→a10
set_option linter.unusedVariables false
set_option linter.unusedSimpArgs false
set_option maxRecDepth 100000
namespace Go.Proofs.Ytohofoampalhoaa.X
open Go
theorem qjt {W:Nat→Bool}{h:Heap} (hW:∀ b,
  (geL h.length) b→W b=true) (l4:Cluster) (r:Cluster) (hF:qcr l4=some r) : Ret E W 64 [.agg [.int .i64 l4.Truth.Epoch,.int .i64 l4.Truth.Leader,
  lst cI l4.Truth.InStep,lst qz l4.Nodes,lst qm l4.Acked]] h (fun v h'=>∃ n9 l9 p9 m0 o8 n7,v = .agg [.int .i64 r.Truth.Epoch,
  .int .i64 r.Truth.Leader,n9,p9,
  o8]∧SlF cI 1 3 n9 r.Truth.InStep l9∧SlN Node.R 6 68 p9 r.Nodes m0∧SlF qm 2 92 o8 r.Acked n7∧Sep h' (geL h.length) (l9++(m0 ++
  (n7++([]))))):=by
 refine Ret.of (fn:=x64) rfl (Run.of ?_)
 unfold qcr at hF
 have zf0:zb [.agg [.int .i64 l4.Truth.Epoch,.int .i64 l4.Truth.Leader,lst cI l4.Truth.InStep,lst qz l4.Nodes,
   lst qm l4.Acked]] 0 = .agg [.int .i64 l4.Truth.Epoch,.int .i64 l4.Truth.Leader,lst cI l4.Truth.InStep,lst qz l4.Nodes,lst qm l4.Acked]:=rfl
 generalize zb [.agg [.int .i64 l4.Truth.Epoch,.int .i64 l4.Truth.Leader,lst cI l4.Truth.InStep,lst qz l4.Nodes,lst qm l4.Acked]]=fr0 at zf0 ⊢
 have hS:Sep h (geL h.length) []:=a1q h
 simp only [x64,qe,qc,j7,zf0,B0,reduceIte,a9]
 refine jm (cs:=[.int .i64 l4.Truth.Epoch,.int .i64 l4.Truth.Leader,lst cI l4.Truth.InStep,lst qz l4.Nodes,
   lst qm l4.Acked]) hS rfl rfl rfl (fun b1 h2 hS3=>?_)
 simp only [kc,B0,reduceIte,a9]
 refine jp hS3 (fun b5 h6 hS7=>?_)
 simp only [qa,B0,reduceIte,a9]
 refine jc (a0l hS7) hW (by simp only [B0,reduceIte,a9]) (fun h9 hS10=>?_)
 simp only [jd,q0i,qe,js,qh6,evp,B0,reduceIte,a9]
 refine qec (n:=2) (f:=qm) ([] : List Row) hS10 rfl rfl (fun v11 c12 h13 hv14 hS15=>?_)
 simp only [qpp,B0,reduceIte,a9]
 refine qjj hS15 (fun b17 h18 hS19=>?_)
 simp only [z9,qk,s5,s9,t5,qr,zu,B0,reduceIte,a9]
 refine qt (v := .agg [.int .i64 l4.Truth.Epoch,.int .i64 l4.Truth.Leader,lst cI l4.Truth.InStep]) rfl ?_
 obtain ⟨v21,hx22,hF23⟩:=qi hF
 simp only [uf,B0,reduceIte,a9]
 refine qik rfl hS19 (ql (jo (ql qs (ql qs (ql z8 zh)))) zh) (qd2 (fun b hb=>decide_eq_true hb) l4.Truth v21 hx22) ?_
 rintro _ h28 ⟨v24,c25,rfl,hv26,hS29⟩
 refine ⟨_,qdc (qj rfl (qj rfl (qj (a1r hv26) zq))),hS29,(j9 (a2p hv26 (fun _=>rfl)) wl),fun h30 hS31=>?_⟩
 have hS32:Sep h30 (geL h.length) (c25++([Blk1 b17 [.int .i64 0,.int .i64 0,.nil,.nil,.nil] 28]++(c12++([Blk1 b5 [.int .i64 0,.int .i64 0,.nil,.nil,
   .nil] 28]++([]))))):=by simpa only [a0f,a0z] using hS31
 simp only [qb0,qk,s5,s9,t5,qr,uw,qcs,B0,reduceIte,a9]
 refine qt (v:=lst qm l4.Acked) rfl ?_
 simp only [qf8,B0,reduceIte,a9]
 obtain ⟨l33,hx34,hF35⟩:=qi hF23
 refine qbl (f:=qm) hv14 (a0k hS32) hW (fun _=>rfl) (fun _=>rfl) (qah (fun _=>rfl)) hx34 (fun v36 c37 h38 hv39 hS40=>?_)
 simp only [qen,evp,B0,reduceIte,a9]
 refine qt (v := .agg [.int .i64 v21.Epoch,.int .i64 v21.Leader,v24,.nil,v36]) (qai (qag (us:=[.int .i64 v21.Epoch,.int .i64 v21.Leader,
   v24]) (vs:=[.int .i64 v21.Epoch,.int .i64 v21.Leader,v24,.nil,
   .nil]) rfl rfl (nle rfl) (qj rfl (qj rfl (qj (a0g hv26) zq))) rfl (qag (us:=[v36]) (vs:=[.int .i64 v21.Epoch,.int .i64 v21.Leader,v24,.nil,
   v36]) (j8 (a0g hv39)) rfl (nle rfl) (qj (a0g hv39) zq) rfl qed))) ?_
 simp only [qds,B0,reduceIte,a9]
 refine qcg (us:=[.int .i64 v21.Epoch,.int .i64 v21.Leader,v24,.nil,v36]) rfl (cs':=[.int .i64 v21.Epoch,.int .i64 v21.Leader,v24,.nil,
   v36]) (a0k hS40) hW rfl (qj rfl (qj rfl (qj (a0g hv26) (qj rfl (qj (a0g hv39) zq))))) (nle rfl) rfl (fun h42 hS43=>?_)
 simp only [zc,q14,qe,qc,qq,qb,s5,s9,t5,qr,qn,B0,reduceIte,a9]
 refine qg (v:=lst qz l4.Nodes) rfl ?_
 simp only [zy,qb,je,qd,qa,B0,reduceIte,a9]
 obtain ⟨oc56,hX58,hk59⟩:=jy hF35
 simp only [q5j]
 refine xd (σ:=Cluster) l4.Nodes (fun i54 x55 s149=>qdw v21 l33 i54 x55 s149) (fun s fr' h'=>∃ v51 c52,
   fr' 2 = .ptr b5 0∧fr' 3 = .ptr b17 0∧fr' 15=lst qz l4.Nodes∧SlN Node.R 6 68 v51 s.Nodes c52∧Sep h' (geL h.length) ([Blk1 b5 [.int .i64 0,.int .i64 0,
   .nil,.nil,.nil] 28]++([Blk1 b17 [.int .i64 s.Truth.Epoch,.int .i64 s.Truth.Leader,v24,v51,v36] 28]++(c25++(c52++(c37++([]))))))) hX58 ⟨.nil,[],rfl,rfl,
   rfl,SlN.nil,((a0e (a0k (a0k (a0l hS43)))) : Sep _ (geL h.length) ([Blk1 b5 [.int .i64 0,.int .i64 0,.nil,.nil,.nil] 28]++([Blk1 b17 [.int .i64 v21.Epoch,
   .int .i64 v21.Leader,v24,.nil,v36] 28]++(c25++(c37++([]))))))⟩ (by simp only [B0,reduceIte,a9]) (by simp only [B0,reduceIte,
   a9]) (fun _ _ _ h=>h) rfl rfl (fun _ _ _ _ h=>h) (fun _ _ _ _ h=>h) (fun _ _ _ _ h=>h) (by decide) ?_ ?_
 ·rintro i54 x55 s49 fr68 h69 hx74 ⟨v51,c52,f71,f72,f73,hv53,hS70⟩ f75 f76 oc57 hF60 hr61 Q62 hN63 hB67 hK64 hR65 hE66
  unfold qdw at hF60
  simp only [q45,qe,qc,f73,f75,ji,B0,reduceIte,a9]
  refine qg (v := .ref (qz x55) 0) (xg hx74 rfl) ?_
  simp only [qn,B0,reduceIte,a9]
  refine qg (v := .agg [.int .i64 x55.View.Epoch,.int .i64 x55.View.Leader,lst cI x55.View.InStep,lst qm x55.Log,lst cI x55.Known,.int .i64 x55.Told]) rfl ?_
  simp only [kc,B0,reduceIte,a9]
  refine jp hS70 (fun b77 h78 hS79=>?_)
  simp only [zp,B0,reduceIte,a9]
  refine zm (us:=[.int .i64 x55.View.Epoch,.int .i64 x55.View.Leader,lst cI x55.View.InStep,lst qm x55.Log,lst cI x55.Known,
    .int .i64 x55.Told]) rfl (cs':=[.int .i64 x55.View.Epoch,.int .i64 x55.View.Leader,lst cI x55.View.InStep,lst qm x55.Log,lst cI x55.Known,
    .int .i64 x55.Told]) hS79 hW rfl rfl (nle rfl) rfl (fun h81 hS82=>?_)
  simp only [qa,q75,qe,qc,qq,qb,s5,s9,t5,zd,qn,B0,reduceIte,a9]
  refine qg (v := .agg [.int .i64 x55.View.Epoch,.int .i64 x55.View.Leader,lst cI x55.View.InStep]) ((zr (a0r _ _ _ hS82)).trans rfl) ?_
  obtain ⟨v83,hx84,hF85⟩:=qi hF60
  simp only [zi,B0,reduceIte,a9]
  refine qbx rfl hS82 (ql (jo (ql qs (ql qs (ql z8 zh)))) zh) (qd2 (fun b hb=>decide_eq_true hb) x55.View v83 hx84) ?_
  rintro _ h90 ⟨v86,c87,rfl,hv88,hS91⟩
  refine ⟨_,qdc (qj rfl (qj rfl (qj (a1r hv88) zq))),hS91,(j9 (a2p hv88 (fun _=>rfl)) wl),fun h92 hS93=>?_⟩
  have hS94:Sep h92 (geL h.length) (c87++([Blk1 b77 [.int .i64 x55.View.Epoch,.int .i64 x55.View.Leader,lst cI x55.View.InStep,lst qm x55.Log,lst cI x55.Known,
    .int .i64 x55.Told] 68]++([Blk1 b5 [.int .i64 0,.int .i64 0,.nil,.nil,.nil] 28]++([Blk1 b17 [.int .i64 s49.Truth.Epoch,.int .i64 s49.Truth.Leader,v24,v51,
    v36] 28]++(c25++(c52++(c37++([])))))))):=by simpa only [a0f,a0z] using hS93
  simp only [qq,qb,s5,s9,t5,zd,zp,B0,reduceIte,a9]
  refine zm (us:=[.int .i64 v83.Epoch,.int .i64 v83.Leader,v86]) rfl (cs':=[.int .i64 v83.Epoch,.int .i64 v83.Leader,v86,lst qm x55.Log,lst cI x55.Known,
    .int .i64 x55.Told]) (a0l hS94) hW rfl (qj rfl (qj rfl (qj (a0g hv88) zq))) (nle rfl) rfl (fun h95 hS96=>?_)
  simp only [qa,qzn,qe,qc,yh,evp,B0,reduceIte,a9]
  refine kx (n:=2) (f:=qm) ([] : List Row) hS96 rfl rfl (fun v97 c98 h99 hv100 hS101=>?_)
  simp only [qq,qb,s5,s9,t5,zd,qn,B0,reduceIte,a9]
  refine qg (v:=lst qm x55.Log) ((jt (a0r _ _ _ (a0l hS101))).trans rfl) ?_
  simp only [wt,B0,reduceIte,a9]
  obtain ⟨l103,hx104,hF105⟩:=qi hF85
  refine yn (f:=qm) hv100 hS101 hW (fun _=>rfl) (fun _=>rfl) (qah (fun _=>rfl)) hx104 (fun v106 c107 h108 hv109 hS110=>?_)
  simp only [qq,qb,s5,s9,t5,zd,zp,B0,reduceIte,a9]
  refine zm (us:=[v106]) (j8 (a0g hv109)) (cs':=[.int .i64 v83.Epoch,.int .i64 v83.Leader,v86,v106,lst cI x55.Known,
    .int .i64 x55.Told]) (a0l hS110) hW rfl (qj (a0g hv109) zq) (nle rfl) rfl (fun h112 hS113=>?_)
  simp only [qa,qzg,qe,qc,yh,evp,B0,reduceIte,a9]
  refine kx (n:=1) (f:=cI) ([] : List Int) hS113 rfl rfl (fun v114 c115 h116 hv117 hS118=>?_)
  simp only [qq,qb,s5,s9,t5,zd,qn,B0,reduceIte,a9]
  refine qg (v:=lst cI x55.Known) ((jt (a0r _ _ _ (a0l hS118))).trans rfl) ?_
  simp only [wt,B0,reduceIte,a9]
  obtain ⟨l120,hx121,hF122⟩:=qi hF105
  refine yn (f:=cI) hv117 hS118 hW (fun _=>rfl) (fun _=>rfl) (qah (fun _=>rfl)) hx121 (fun v123 c124 h125 hv126 hS127=>?_)
  simp only [qq,qb,s5,s9,t5,zd,zp,B0,reduceIte,a9]
  refine zm (us:=[v123]) (j8 (a0g hv126)) (cs':=[.int .i64 v83.Epoch,.int .i64 v83.Leader,v86,v106,v123,
    .int .i64 x55.Told]) (a0l hS127) hW rfl (qj (a0g hv126) zq) (nle rfl) rfl (fun h129 hS130=>?_)
  simp only [qa,q7p,qc,f72,qq,qb,s5,s9,t5,zd,qn,B0,reduceIte,a9]
  refine qg (v:=v51) ((jt (a0r _ _ _ (a03 hS130))).trans rfl) ?_
  simp only [qn,B0,reduceIte,a9]
  refine qg (v := .agg [.int .i64 v83.Epoch,.int .i64 v83.Leader,v86,v106,v123,.int .i64 x55.Told]) ((zr (a0r _ _ _ hS130)).trans rfl) ?_
  simp only [yh,evp,B0,reduceIte,a9]
  refine qkh (R:=Node.R) (n:=6) (cs:=[.int .i64 v83.Epoch,.int .i64 v83.Leader,v86,v106,v123,
    .int .i64 x55.Told]) (os:=c87++(c107++(c124))) (Sep.bi3 (c1:=c87) (c2:=c107) (c3:=c124) (a0e (a0k (a0l hS130)))) (qag (us:=[.int .i64 v83.Epoch,
    .int .i64 v83.Leader,v86,v106,v123,.int .i64 x55.Told]) (vs:=[.int .i64 v83.Epoch,.int .i64 v83.Leader,v86,v106,v123,
    .int .i64 x55.Told]) rfl rfl (nle rfl) (qj rfl (qj rfl (qj (a0g hv88) (qj (a0g hv109) (qj (a0g hv126) (qj rfl zq)))))) rfl qed)
    (Node.RI (x:=(Node.mk v83 l103 l120 x55.Told)) hv88 hv109 hv126) rfl (fun v131 c132 h133 hv134 hS135=>?_)
  simp only [wt,B0,reduceIte,a9]
  obtain ⟨l137,hx138,hF139⟩:=qi hF122
  refine qnx (R:=Node.R) (c:=c52) hv53 hv134 (a03 hS135) hW Node.RO.len Node.RO.one hx138 (fun v140 c141 h142 hv143 hS144=>?_)
  simp only [f72,qq,qb,s5,s9,t5,zd,zp,B0,reduceIte,a9]
  refine zm (us:=[v140]) (j8 (a10 hv143)) (cs':=[.int .i64 s49.Truth.Epoch,.int .i64 s49.Truth.Leader,v24,v140,
    v36]) (a0e hS144) hW rfl (qj (a10 hv143) zq) (nle rfl) rfl (fun h146 hS147=>?_)
  simp only [qa,qo,B0,reduceIte,a9]
  have e148:=qh hF139
  exact hN63 _ _ _ e148.symm ⟨v140,c141,f71,f72,f73,hv143,(a0i (a0e (a0i (a0k (a0i (a0s (a0k hS147)))))))⟩ (f75) (f76)
 rintro s150 fr155 h156 rfl ⟨v152,c153,f158,f159,f160,hv154,hS157⟩
 dsimp only [jnO] at hk59
 unfold qiy at hk59
 simp only [qe,qc,f159,qn,B0,reduceIte,a9]
 refine qg (v := .agg [.int .i64 s150.Truth.Epoch,.int .i64 s150.Truth.Leader,v24,v152,v36]) ((zr (a0r _ _ _ (a0l hS157))).trans rfl) ?_
 simp only [f158,zp,B0,reduceIte,a9]
 refine zm (us:=[.int .i64 s150.Truth.Epoch,.int .i64 s150.Truth.Leader,v24,v152,v36]) rfl (cs':=[.int .i64 s150.Truth.Epoch,.int .i64 s150.Truth.Leader,v24,
   v152,v36]) hS157 hW rfl (qj rfl (qj rfl (qj (a0g hv26) (qj (a10 hv154) (qj (a0g hv39) zq))))) (nle rfl) rfl (fun h161 hS162=>?_)
 simp only [qa,qw,B0,reduceIte,a9]
 have he:=qh hk59
 subst he
 refine xa (bb:=b5) (oo:=0) (v := .agg [.int .i64 s150.Truth.Epoch,.int .i64 s150.Truth.Leader,v24,v152,v36]) (by simp only [f158,B0,reduceIte,
   a9]) ((zr (a0r _ _ _ hS162)).trans rfl) ?_
 exact ⟨v24,c25,v152,c153,v36,c37,by first | trivial | rfl,hv26,hv154,hv39,(a0k (a0k (a0k (a0s ((a0s (hS162)))))))⟩
theorem qj8 {W:Nat→Bool}{h:Heap} (hW:∀ b,
  (geL h.length) b→W b=true) (k:Nat) (i7:Int) (r7:List ClusterStep) (r:Cluster × (List Bool) × Bool)
  (hF:qa2 k i7 r7=some r) : Ret E W 26 [.int .i64 i7,lst za r7] h (fun v h'=>∃ n9 l9 p9 m0 o8 n7 rv1 rc1,
  v = .tup [.agg [.int .i64 r.1.Truth.Epoch,.int .i64 r.1.Truth.Leader,n9,p9,o8],rv1,
  .bool r.2.2]∧SlF cI 1 3 n9 r.1.Truth.InStep l9∧SlN Node.R 6 68 p9 r.1.Nodes m0∧SlF qm 2 92 o8 r.1.Acked n7∧SlF cB 1 4 rv1 r.2.1 rc1∧Sep h'
  (geL h.length) (l9++(m0++(n7++(rc1++([])))))):=by
 refine Ret.of (fn:=x26) rfl (Run.of ?_)
 unfold qa2 at hF
 have zf0:zb [.int .i64 i7,lst za r7] 0 = .int .i64 i7:=rfl
 have zf1:zb [.int .i64 i7,lst za r7] 1=lst za r7:=rfl
 generalize zb [.int .i64 i7,lst za r7]=fr0 at zf0 zf1 ⊢
 have hS:Sep h (geL h.length) []:=a1q h
 simp only [x26,qe,qc,kc,B0,reduceIte,a9]
 refine jp hS (fun b1 h2 hS3=>?_)
 obtain ⟨v5,hx6,hF7⟩:=qi hF
 simp only [qd,qa,qu5,qe,qc,zf0,zi,B0,reduceIte,a9]
 refine qbx rfl hS3 (ql qs zh) (qk1 (fun b hb=>decide_eq_true hb) k i7 v5 hx6) ?_
 rintro _ h20 ⟨v8,c9,v12,c13,v16,c17,rfl,hv10,hv14,hv18,hS21⟩
 refine ⟨_,qkc (qj (qis (qj rfl (qj rfl (qj (a1r hv10) (qj (a4f hv14) (qj (a1r hv18) zq)))))) (qj rfl zq)),hS21,
   (j9 (a2p hv10 (fun _=>rfl)) (j9 (SlN.pf hv14 Node.RO) (j9 (a2p hv18 (fun _=>rfl)) wl))),fun h22 hS23=>?_⟩
 have hS24:Sep h22 (geL h.length) (c9++(c13++(c17++([Blk1 b1 [.int .i64 0,.int .i64 0,.nil,.nil,.nil] 28]++([]))))):=by simpa only [a0f,
   a0z] using hS23
 simp only [qd,qb7,qb,qcb,qb1,kc,B0,reduceIte,a9]
 refine jp hS24 (fun b25 h26 hS27=>?_)
 simp only [zp,B0,reduceIte,a9]
 refine zm (us:=[.int .i64 v5.1.Truth.Epoch,.int .i64 v5.1.Truth.Leader,v8,v12,v16]) rfl (cs':=[.int .i64 v5.1.Truth.Epoch,.int .i64 v5.1.Truth.Leader,v8,v12,
   v16]) hS27 hW rfl (qj rfl (qj rfl (qj (a0g hv10) (qj (a10 hv14) (qj (a0g hv18) zq))))) (nle rfl) rfl (fun h29 hS30=>?_)
 simp only [qd,qa,quc,qe,qc,kh,qb,kz,B0,reduceIte,a9]
 refine jj 4 (fun fr' h'=>Sep h' (geL h.length) ([Blk1 b1 [.int .i64 0,.int .i64 0,.nil,.nil,.nil] 28]++([Blk1 b25 [.int .i64 v5.1.Truth.Epoch,
   .int .i64 v5.1.Truth.Leader,v8,v12,
   v16] 28]++(c9++(c13++(c17++([]))))))∧fr' 25 = .bool ((!v5.2)||(decide ((100:Int) <
   (t6 r7:Int))))∧fr' 1=lst za r7∧fr' 4 = .ptr b1 0∧fr' 7 = .ptr b25 0) (fun Q31 hN32=>?_) ?_
 ·simp only [t8,a0d]
  simp only [qf (g:=21),B0,reduceIte,a9]
  refine zj (t:=(!v5.2)) (fun hg33=>?_) (fun hg33=>?_)
  ·simp only [hg33,qf (g:=21),jr,qx,qb,zo,qa,qo,B0,reduceIte,a9]
   exact hN32 _ _ ⟨(a0i (a0e (a0e (a0e (a0e hS30))))),by rw [orT hg33]; simp only [B0,reduceIte,a9],zf1,rfl,rfl⟩
  ·simp only [hg33,qf (g:=21),q8,zf1,qd,zy,qb,je,qv,qj3,qx,zn,qa,qo,B0,reduceIte,
    a9]
   exact hN32 _ _ ⟨(a0i (a0e (a0e (a0e (a0e hS30))))),by rw [orF hg33]; simp only [B0,reduceIte,a9],zf1,rfl,rfl⟩
 rintro fr34 h39 ⟨hS40,f35,f36,f37,f38⟩
 simp only [t9,a0c]
 simp only [qa,q4h,f35,qy,B0,reduceIte,a9]
 refine qu (t:=((!v5.2)||(decide ((100:Int)<(t6 r7:Int))))) (fun hc41=>?_) (fun hc41=>?_)
 ·rw [iteT hc41] at hF7
  simp only [q1m,qe,qc,run_build,evp,B0,reduceIte,a9]
  refine qg (v := .agg [.int .i64 0,.int .i64 0,.nil,.nil,.nil]) rfl ?_
  simp only [f37,zp,B0,reduceIte,a9]
  refine zm (us:=[.int .i64 0,.int .i64 0,.nil,.nil,.nil]) rfl (cs':=[.int .i64 0,.int .i64 0,.nil,.nil,
    .nil]) hS40 hW rfl rfl (nle rfl) rfl (fun h42 hS43=>?_)
  simp only [qd,qa,qw,B0,reduceIte,a9]
  have he:=qh hF7
  subst he
  refine jv (ql (j6 (bb:=b1) (oo:=0) (v := .agg [.int .i64 0,.int .i64 0,.nil,.nil,
    .nil]) (f37) ((zr (a0r _ _ _ hS43)).trans rfl)) (ql (k8 (v := .nil) (rfl)) (ql (k8 (v := .bool false) (rfl)) zh))) ?_
  exact ⟨.nil,[],.nil,[],.nil,[],.nil,[],by first | trivial | rfl,a25,SlN.nil,a25,a25,
    ((a0s ((a0s ((a0s ((a0s ((a0s (hS43)))))))))) : Sep _ (geL h.length) ([]))⟩
 rw [iteF hc41] at hF7
 simp only [zf,qua,qe,qc,qd,qa,qw5,f36,zy,qb,je,B0,reduceIte,a9]
 obtain ⟨oc82,hX84,hk85⟩:=jy hF7
 simp only [q5g]
 refine xd (σ:=(List Bool) × Cluster) r7 (fun i80 x81 s207=>x5 k i80 x81 s207.1 s207.2) (fun s fr' h'=>∃ v64 c65 v69 c70 v73 c74 v77 c78,
   fr' 4 = .ptr b1 0∧fr' 7 = .ptr b25 0∧fr' 9=v64∧fr' 27=lst za r7∧SlF cB 1 4 v64 s.1 c65∧SlF cI 1 3 v69 s.2.Truth.InStep c70∧SlN Node.R 6 68 v73 s.2.Nodes c74∧SlF qm 2 92 v77 s.2.Acked c78∧Sep h'
   (geL h.length) ([Blk1 b1 [.int .i64 0,.int .i64 0,.nil,.nil,.nil] 28]++([Blk1 b25 [.int .i64 s.2.Truth.Epoch,.int .i64 s.2.Truth.Leader,v69,v73,
   v77] 28]++(c65++(c70++(c74++(c78++([])))))))) hX84 ⟨.nil,[],v8,c9,v12,c13,v16,c17,f37,f38,rfl,rfl,a25,hv10,hv14,hv18,
   ((a0i (a0i (a0i (a0i (a0i hS40))))) : Sep _ (geL h.length) ([Blk1 b1 [.int .i64 0,.int .i64 0,.nil,.nil,
   .nil] 28]++([Blk1 b25 [.int .i64 v5.1.Truth.Epoch,.int .i64 v5.1.Truth.Leader,v8,v12,v16] 28]++(c9++(c13++(c17++([])))))))⟩ (by simp only [B0,reduceIte,
   a9]) (by simp only [B0,reduceIte,a9]) (fun _ _ _ h=>h) rfl rfl (fun _ _ _ _ h=>h) (fun _ _ _ _ h=>h) (fun _ _ _ _ h=>h) (by decide) ?_ ?_
 ·rintro i80 x81 ⟨s62,s67⟩ fr94 h95 hx101 ⟨v64,c65,v69,c70,v73,c74,v77,c78,f97,f98,f99,f100,hv66,hv71,hv75,hv79,
   hS96⟩ f102 f103 oc83 hF86 hr87 Q88 hN89 hB93 hK90 hR91 hE92
  dsimp only at *
  unfold x5 at hF86
  simp only [q5i,qe,qc,f100,f102,ji,B0,reduceIte,a9]
  refine qg (v := .ref (za x81) 0) (xg hx101 rfl) ?_
  simp only [qn,B0,reduceIte,a9]
  refine qg (v := .agg [.int .i64 x81.Kind,.int .i64 x81.K,.int .i64 x81.To,.int .i64 x81.N]) rfl ?_
  simp only [kc,B0,reduceIte,a9]
  refine jp hS96 (fun b104 h105 hS106=>?_)
  simp only [zp,B0,reduceIte,a9]
  refine zm (us:=[.int .i64 x81.Kind,.int .i64 x81.K,.int .i64 x81.To,.int .i64 x81.N]) rfl (cs':=[.int .i64 x81.Kind,.int .i64 x81.K,.int .i64 x81.To,
    .int .i64 x81.N]) hS106 hW rfl rfl (nle rfl) rfl (fun h108 hS109=>?_)
  simp only [qa,B0,reduceIte,a9]
  refine jc hS109 hW (by simp only [B0,reduceIte,a9]) (fun h110 hS111=>?_)
  simp only [jd,q1h,qe,js,qpp,B0,reduceIte,a9]
  refine qjj hS111 (fun b112 h113 hS114=>?_)
  simp only [f98,zu,B0,reduceIte,a9]
  refine qt (v := .agg [.int .i64 s67.Truth.Epoch,.int .i64 s67.Truth.Leader,v69,v73,v77]) ((zr (a0r _ _ _ (a0k hS114))).trans rfl) ?_
  obtain ⟨v116,hx117,hF118⟩:=qi hF86
  simp only [uf,B0,reduceIte,a9]
  refine qik rfl hS114 (ql (jo (ql qs (ql qs (ql (a06 hv71 (a0i hS114) rfl (fun _=>rfl) (fun _=>rfl)) (ql (SlN.snap hv75 _
    (a03 hS114) rfl Node.RO) (ql (a06 hv79 (a0v hS114) rfl (fun _=>rfl) (fun _=>rfl)) zh)))))) zh) (qjt
    (fun b hb=>decide_eq_true hb) s67 v116 hx117) ?_
  rintro _ h131 ⟨v119,c120,v123,c124,v127,c128,rfl,hv121,hv125,hv129,hS132⟩
  refine ⟨_,qdc (qj rfl (qj rfl (qj (a1r hv121) (qj (a4f hv125) (qj (a1r hv129) zq))))),hS132,
    (j9 (a2p hv121 (fun _=>rfl)) (j9 (SlN.pf hv125 Node.RO) (j9 (a2p hv129 (fun _=>rfl)) wl))),fun h133 hS134=>?_⟩
  have hS135:Sep h133 (geL h.length) (c120++(c124++(c128++([Blk1 b112 [.int .i64 0,.int .i64 0,.nil,.nil,.nil] 28]++([Blk1 b1 [.int .i64 0,.int .i64 0,.nil,
    .nil,.nil] 28]++([Blk1 b25 [.int .i64 s67.Truth.Epoch,.int .i64 s67.Truth.Leader,v69,v73,
    v77] 28]++(c65++(c70++(c74++(c78++([]))))))))))):=by simpa only [a0f,a0z] using hS134
  simp only [uw,qcs,B0,reduceIte,a9]
  refine qt (v := .agg [.int .i64 x81.Kind,.int .i64 x81.K,.int .i64 x81.To,.int .i64 x81.N]) rfl ?_
  obtain ⟨v136,hx137,hF138⟩:=qi hF118
  simp only [y9,B0,reduceIte,a9]
  refine qw3 rfl (qnu hW k v116 v119 c120 hv121 v123 c124 hv125 v127 c128 hv129 x81 v136 hx137 (a0k (a0k (a0k hS135)))) ?_
  rintro _ h149 ⟨v139,c140,c143,v145,c146,rfl,hv141,hv144,hv147,hS150⟩
  simp only [zv,qk,qvq,qcb,zax,qb1,qds,B0,reduceIte,a9]
  refine qcg (us:=[.int .i64 v136.1.Truth.Epoch,.int .i64 v136.1.Truth.Leader,v139,v123,v145]) rfl (cs':=[.int .i64 v136.1.Truth.Epoch,
    .int .i64 v136.1.Truth.Leader,v139,v123,
    v145]) (a0e hS150) hW rfl (qj rfl (qj rfl (qj (a0g hv141) (qj (a10 hv144) (qj (a0g hv147) zq))))) (nle rfl) rfl (fun h151 hS152=>?_)
  simp only [zv,qk,zc,B0,reduceIte,a9]
  refine jc hS152 hW (by simp only [B0,reduceIte,a9]) (fun h153 hS154=>?_)
  simp only [jd,qzh,qe,qc,qd,qa,q1e,qy,B0,reduceIte,a9]
  obtain ⟨s155,hX169,hk170⟩:=qi hF138
  refine qf4 (t:=v136.2) (fun fr' h'=>∃ v157 c158 v161 c162 v165 c166,
    fr' 4 = .ptr b1 0∧fr' 7 = .ptr b25 0∧fr' 9=v64∧fr' 13 = .bool v136.2∧fr' 27=lst za r7∧fr' 28 = .int .i64
    (t6 r7:Int)∧fr' 29 = .int .i64
    (i80:Int)∧SlF cI 1 3 v157 s155.Truth.InStep c158∧SlN Node.R 6 68 v161 s155.Nodes c162∧SlF qm 2 92 v165 s155.Acked c166∧Sep h' (geL h.length)
    ([Blk1 b1 [.int .i64 0,.int .i64 0,.nil,.nil,.nil] 28]++([Blk1 b25 [.int .i64 s155.Truth.Epoch,.int .i64 s155.Truth.Leader,v157,v161,
    v165] 28]++(c65++(c158++(c162++(c166++([])))))))) (fun Q171 hN172 hR173 hE174=>⟨fun hc175=>?_,fun hc175=>?_⟩) ?_
  ·rw [iteT hc175] at hX169
   simp only [qc,qn,B0,reduceIte,a9]
   refine qg (v := .agg [.int .i64 v136.1.Truth.Epoch,.int .i64 v136.1.Truth.Leader,v139,v123,v145]) rfl ?_
   simp only [f98,zp,B0,reduceIte,a9]
   refine zm (us:=[.int .i64 v136.1.Truth.Epoch,.int .i64 v136.1.Truth.Leader,v139,v123,v145]) rfl (cs':=[.int .i64 v136.1.Truth.Epoch,
     .int .i64 v136.1.Truth.Leader,v139,v123,
     v145]) (a0i hS154) hW rfl (qj rfl (qj rfl (qj (a0g hv141) (qj (a10 hv144) (qj (a0g hv147) zq))))) (nle rfl) rfl (fun h176 hS177=>?_)
   simp only [qa,qo,B0,reduceIte,a9]
   have e178:=qh hX169
   subst e178
   exact hN172 _ _ ⟨v139,c140,v123,c143,v145,c146,f97,f98,f99,rfl,f100,f103,f102,hv141,hv144,hv147,
     (a03 (a0i (a03 (a0e (a0e (a0e (a0s (a0v (a0s (a0v (a0s (a0v hS177))))))))))))⟩
  ·rw [iteF hc175] at hX169
   simp only [zf,qo,B0,reduceIte,a9]
   have e179:=qh hX169
   subst e179
   exact hN172 _ _ ⟨v69,c70,v73,c74,v77,c78,f97,f98,f99,rfl,f100,f103,f102,hv71,hv75,hv79,
     (a03 (a03 (a03 (a03 (a03 (a03 (a0s ((a0s ((a0s (hS154))))))))))))⟩
  rintro fr180 h181 ⟨v157,c158,v161,c162,v165,c166,f183,f184,f185,f186,f187,f188,f189,hv159,hv163,hv167,hS182⟩
  unfold qa5 at hk170
  simp only [q7d,qc,f185,qd,f186,yh,evp,B0,reduceIte,a9]
  refine kx (n:=1) (f:=cB) [v136.2] hS182 rfl rfl (fun v190 c191 h192 hv193 hS194=>?_)
  simp only [wt,B0,reduceIte,a9]
  obtain ⟨l196,hx197,hF198⟩:=qi hk170
  refine yn (f:=cB) hv66 (a0e hS194) hW (fun _=>rfl) (fun _=>rfl) (SlF.first hv193 hS194 (fun _=>rfl)) hx197 (fun v199 c200 h201 hv202 hS203=>?_)
  simp only [qd,qa,qo,B0,reduceIte,a9]
  have e205:=qh hF198
  exact hN89 _ _ _ e205.symm ⟨v199,c200,v157,c158,v161,c162,v165,c166,f183,f184,rfl,f187,hv202,hv159,hv163,hv167,
    (a03 (a03 (a0e (a03 (a03 (a03 (a0s (a0l hS203))))))))⟩ (f189) (f188)
 rintro ⟨s208,s213⟩ fr226 h227 rfl ⟨v210,c211,v215,c216,v219,c220,v223,c224,f229,f230,f231,f232,hv212,hv217,hv221,hv225,hS228⟩
 dsimp only [jnO] at hk85
 dsimp only at *
 unfold qcz at hk85
 simp only [qvm,qe,qc,f230,qn,B0,reduceIte,a9]
 refine qg (v := .agg [.int .i64 s213.Truth.Epoch,.int .i64 s213.Truth.Leader,v215,v219,v223]) ((zr (a0r _ _ _ (a0l hS228))).trans rfl) ?_
 obtain ⟨v233,hx234,hF235⟩:=qi hk85
 simp only [zi,B0,reduceIte,a9]
 refine qbx rfl hS228 (ql (jo (ql qs (ql qs (ql (a06 hv217 (a0e hS228) rfl (fun _=>rfl) (fun _=>rfl)) (ql (SlN.snap hv221 _
   (a0i hS228) rfl Node.RO) (ql (a06 hv225 (a03 hS228) rfl (fun _=>rfl) (fun _=>rfl)) zh)))))) zh) (qjt
   (fun b hb=>decide_eq_true hb) s213 v233 hx234) ?_
 rintro _ h248 ⟨v236,c237,v240,c241,v244,c245,rfl,hv238,hv242,hv246,hS249⟩
 refine ⟨_,qdc (qj rfl (qj rfl (qj (a1r hv238) (qj (a4f hv242) (qj (a1r hv246) zq))))),hS249,
   (j9 (a2p hv238 (fun _=>rfl)) (j9 (SlN.pf hv242 Node.RO) (j9 (a2p hv246 (fun _=>rfl)) wl))),fun h250 hS251=>?_⟩
 have hS252:Sep h250 (geL h.length) (c237++(c241++(c245++([Blk1 b1 [.int .i64 0,.int .i64 0,.nil,.nil,.nil] 28]++([Blk1 b25 [.int .i64 s213.Truth.Epoch,
   .int .i64 s213.Truth.Leader,v215,v219,v223] 28]++(c211++(c216++(c220++(c224++([])))))))))):=by simpa only [a0f,a0z] using hS251
 simp only [f231,qd,f229,zp,B0,reduceIte,a9]
 refine zm (us:=[.int .i64 v233.Truth.Epoch,.int .i64 v233.Truth.Leader,v236,v240,v244]) rfl (cs':=[.int .i64 v233.Truth.Epoch,.int .i64 v233.Truth.Leader,v236,
   v240,v244]) (a0e hS252) hW rfl (qj rfl (qj rfl (qj (a0g hv238) (qj (a10 hv242) (qj (a0g hv246) zq))))) (nle rfl) rfl (fun h253 hS254=>?_)
 simp only [qd,qa,qw,B0,reduceIte,a9]
 have he:=qh hF235
 subst he
 refine jv (ql (j6 (bb:=b1) (oo:=0) (v := .agg [.int .i64 v233.Truth.Epoch,.int .i64 v233.Truth.Leader,v236,v240,
   v244]) (f229) ((zr (a0r _ _ _ hS254)).trans rfl)) (ql (k8 (v:=v210) (rfl)) (ql (k8 (v := .bool true) (rfl)) zh))) ?_
 exact ⟨v236,c237,v240,c241,v244,c245,v210,c211,by first | trivial | rfl,hv238,hv242,hv246,hv212,
   (a0e (a0e (a0e (a0e (a0s (a0i (a0s (a0i (a0s (a0i (a0s (a0e (a0s (hS254))))))))))))))⟩
theorem qja {W:Nat→Bool}{h:Heap} (hW:∀ b,
  (geL h.length) b→W b=true) (i0:ClusterStep) (r:ClusterStep) (hF:some (uj i0)=some r) : Ret E W 35 [.agg [.int .i64 i0.Kind,.int .i64 i0.K,
  .int .i64 i0.To,.int .i64 i0.N]] h (fun v h'=>cut h.length h' E.sz false 9 v=some (.agg [.int .i64 r.Kind,.int .i64 r.K,.int .i64 r.To,.int .i64 r.N])):=by
 refine Ret.of (fn:=x35) rfl (Run.of ?_)
 unfold uj at hF
 have zf0:zb [.agg [.int .i64 i0.Kind,.int .i64 i0.K,.int .i64 i0.To,.int .i64 i0.N]] 0 = .agg [.int .i64 i0.Kind,.int .i64 i0.K,.int .i64 i0.To,
   .int .i64 i0.N]:=rfl
 generalize zb [.agg [.int .i64 i0.Kind,.int .i64 i0.K,.int .i64 i0.To,.int .i64 i0.N]]=fr0 at zf0 ⊢
 have hS:Sep h (geL h.length) []:=a1q h
 simp only [x35,qe,qc,j7,zf0,B0,reduceIte,a9]
 refine jm (cs:=[.int .i64 i0.Kind,.int .i64 i0.K,.int .i64 i0.To,.int .i64 i0.N]) hS rfl rfl rfl (fun b1 h2 hS3=>?_)
 simp only [kc,B0,reduceIte,a9]
 refine jp hS3 (fun b5 h6 hS7=>?_)
 simp only [qa,B0,reduceIte,a9]
 refine jc (a0l hS7) hW (by simp only [B0,reduceIte,a9]) (fun h9 hS10=>?_)
 simp only [jd,q4g,qe,qc,kc,B0,reduceIte,a9]
 refine jp hS10 (fun b11 h12 hS13=>?_)
 simp only [qa,q0h,qe,qc,qq,qb,s5,s9,t5,qr,qn,B0,reduceIte,a9]
 refine qg (v := .int .i64 i0.Kind) rfl ?_
 simp only [qq,qb,s5,s9,t5,zd,zp,B0,reduceIte,a9]
 refine zm (us:=[.int .i64 i0.Kind]) rfl (cs':=[.int .i64 i0.Kind,.int .i64 0,.int .i64 0,.int .i64 0]) hS13 hW rfl rfl (nle rfl) rfl (fun h15 hS16=>?_)
 simp only [qa,q8g,qe,qc,qq,qb,s5,s9,t5,qr,qn,B0,reduceIte,a9]
 refine qg (v := .int .i64 i0.K) rfl ?_
 simp only [qq,qb,s5,s9,t5,zd,zp,B0,reduceIte,a9]
 refine zm (us:=[.int .i64 i0.K]) rfl (cs':=[.int .i64 i0.Kind,.int .i64 i0.K,.int .i64 0,.int .i64 0]) hS16 hW rfl rfl (nle rfl) rfl (fun h17 hS18=>?_)
 simp only [qa,q05,qe,qc,qq,qb,s5,s9,t5,qr,qn,B0,reduceIte,a9]
 refine qg (v := .int .i64 i0.To) rfl ?_
 simp only [qq,qb,s5,s9,t5,zd,zp,B0,reduceIte,a9]
 refine zm (us:=[.int .i64 i0.To]) rfl (cs':=[.int .i64 i0.Kind,.int .i64 i0.K,.int .i64 i0.To,.int .i64 0]) hS18 hW rfl rfl (nle rfl) rfl (fun h19 hS20=>?_)
 simp only [qa,q6z,qe,qc,qq,qb,s5,s9,t5,qr,qn,B0,reduceIte,a9]
 refine qg (v := .int .i64 i0.N) rfl ?_
 simp only [qq,qb,s5,s9,t5,zd,zp,B0,reduceIte,a9]
 refine zm (us:=[.int .i64 i0.N]) rfl (cs':=[.int .i64 i0.Kind,.int .i64 i0.K,.int .i64 i0.To,
   .int .i64 i0.N]) hS20 hW rfl rfl (nle rfl) rfl (fun h21 hS22=>?_)
 simp only [qa,qe,qc,qn,B0,reduceIte,a9]
 refine qg (v := .agg [.int .i64 i0.Kind,.int .i64 i0.K,.int .i64 i0.To,.int .i64 i0.N]) ((zr (a0r _ _ _ hS22)).trans rfl) ?_
 simp only [zp,B0,reduceIte,a9]
 refine zm (us:=[.int .i64 i0.Kind,.int .i64 i0.K,.int .i64 i0.To,.int .i64 i0.N]) rfl (cs':=[.int .i64 i0.Kind,.int .i64 i0.K,.int .i64 i0.To,
   .int .i64 i0.N]) (a0l hS22) hW rfl rfl (nle rfl) rfl (fun h23 hS24=>?_)
 simp only [qa,qw,B0,reduceIte,a9]
 have he:=qh hF
 subst he
 refine xa (bb:=b5) (oo:=0) (v := .agg [.int .i64 i0.Kind,.int .i64 i0.K,.int .i64 i0.To,.int .i64 i0.N]) (by simp only [B0,reduceIte,
   a9]) ((zr (a0r _ _ _ hS24)).trans rfl) ?_
 exact (q83 (ql rfl (ql rfl (ql rfl (ql rfl zh)))))
theorem uz {W:Nat→Bool}{h:Heap} (hW:∀ b,
  (geL h.length) b→W b=true) (k:Nat) (i0:List ClusterStep) (r:List ClusterStep) (hF:yl k i0=some r) : Ret E W 27 [lst za i0] h
  (fun v h'=>∃ rv0 rc0,v=rv0∧SlF za 4 62 rv0 r rc0∧Sep h' (geL h.length) (rc0++([]))):=by
 refine Ret.of (fn:=x27) rfl (Run.of ?_)
 unfold yl at hF
 have zf0:zb [lst za i0] 0=lst za i0:=rfl
 generalize zb [lst za i0]=fr0 at zf0 ⊢
 have hS:Sep h (geL h.length) []:=a1q h
 obtain ⟨l1,hx2,hF3⟩:=qi hF
 simp only [x27,qe,qc,qd,qa,q7c,zf0,zy,qb,je,qnm,B0,reduceIte,a9]
 refine qh0 (f:=za) (z:=(ClusterStep.mk (0:Int) (0:Int) (0:Int) (0:Int))) hS hx2 rfl (fun v4 c5 h6 hv7 hS8=>?_)
 simp only [qd,qa,q0z,qe,qc,B0,reduceIte,a9]
 obtain ⟨oc20,hX22,hk23⟩:=jy hF3
 simp only [q7y]
 refine y8 (σ:=Int × (List ClusterStep)) (fun s55=>ww i0 s55.1 s55.2) (fun s fr' h'=>∃ c16,
   fr' 0=lst za i0∧fr' 3=v4∧fr' 4 = .int .i64 s.1∧SlF za 4 62 v4 s.2 c16∧Sep h' (geL h.length) (c16++([]))) hX22 ⟨c5,zf0,rfl,
   rfl,hv7,hS8⟩ (fun _ _ _ h=>h) ?_ ?_
 ·rintro ⟨s14,s15⟩ fr32 h33 ⟨c16,f35,f36,f37,hv17,hS34⟩ oc21 hF24 hr25 Q26 hN27 hK28 hR29 hE30
  dsimp only at *
  unfold ww at hF24
  simp only [q7a,qe,qc,f37,qd,f35,zy,qb,je,qv,k6,qa,qy,B0,reduceIte,a9]
  refine qu (t:=(decide (s14<(t6 i0:Int)))) (fun hc39=>?_) (fun hc39=>?_)
  ·rw [iteT hc39] at hF24
   obtain ⟨x40,hx41,hF42⟩:=qi hF24
   simp only [zf,q11,qe,kj,q4f,qc,f36,qd,f37,f35,ji,B0,reduceIte,a9]
   refine qg (v := .ref (za x40) 0) (kw hx41 rfl) ?_
   simp only [qn,B0,reduceIte,a9]
   refine qg (v := .agg [.int .i64 x40.Kind,.int .i64 x40.K,.int .i64 x40.To,.int .i64 x40.N]) rfl ?_
   simp only [zi,B0,reduceIte,a9]
   refine ju rfl (ql (jo (ql qs (ql qs (ql qs (ql qs zh))))) zh) (qja
     (fun b hb=>decide_eq_true hb) x40 _ rfl) ?_
   obtain ⟨x43,hx44,hF45⟩:=qi hF42
   simp only [ji,B0,reduceIte,a9]
   obtain ⟨b46,hb47⟩:=SlF.isrow hv17 (ka hx44)
   refine qg (SlF.ia hv17 hb47 hx44) ?_
   simp only [zp,B0,reduceIte,a9]
   refine x6 (f:=za) (x':=(uj x40)) (o:=0) hv17 hS34 hW hb47 hx44 (fun _=>rfl) rfl rfl (nle rfl) rfl (fun c50 h48 hv51 hS49=>?_)
   have hx52:=kf (x':=(uj x40)) hx44
   simp only [qa,yd,qc,f37,qd,qv,qb,yx,qo,B0,reduceIte,a9]
   have e53:=qh hF45
   exact hN27 _ _ _ e53.symm ⟨c50,f35,f36,rfl,hv51,hS49⟩
  rw [iteF hc39] at hF24
  simp only [yf,yc,yp,B0,reduceIte,a9]
  have e54:=qh hF24
  exact hK28 _ _ _ e54.symm ⟨c16,f35,f36,f37,hv17,hS34⟩
 rintro ⟨s56,s57⟩ fr60 h61 rfl ⟨c58,f63,f64,f65,hv59,hS62⟩
 dsimp only [jnO] at hk23
 dsimp only at *
 unfold qd7 at hk23
 simp only [qe,qc,f64,qd,qa,qw,B0,reduceIte,a9]
 have he:=qh hk23
 subst he
 simp only [q9,B0,reduceIte,a9]
 exact ⟨v4,c58,by first | trivial | rfl,hv59,hS62⟩
theorem xn {W:Nat→Bool}{h:Heap} (hW:∀ b,
  (geL h.length) b→W b=true) (l8:Int) (low_1:Int) (high_2:Int) (r:Bool) (hF:some (zw l8 low_1 high_2)=some r) : Ret E W 39 [.int .i64 l8,
  .int .i64 low_1,.int .i64 high_2] h (fun v h'=>cut h.length h' E.sz false 9 v=some (.bool r)):=by
 refine Ret.of (fn:=x39) rfl (Run.of ?_)
 unfold zw at hF
 have zf0:zb [.int .i64 l8,.int .i64 low_1,.int .i64 high_2] 0 = .int .i64 l8:=rfl
 have zf1:zb [.int .i64 l8,.int .i64 low_1,.int .i64 high_2] 1 = .int .i64 low_1:=rfl
 have zf2:zb [.int .i64 l8,.int .i64 low_1,.int .i64 high_2] 2 = .int .i64 high_2:=rfl
 generalize zb [.int .i64 l8,.int .i64 low_1,.int .i64 high_2]=fr0 at zf0 zf1 zf2 ⊢
 have hS:Sep h (geL h.length) []:=a1q h
 simp only [x39,qe,qc,qd,qa,q2f,zf0,zf1,qv,qb,qfg,B0,reduceIte,a9]
 refine jj 4 (fun fr' h'=>Sep h' (geL h.length) ([])∧fr' 14 = .bool ((decide (low_1≤l8))&&(decide (l8≤high_2)))) (fun Q1 hN2=>?_) ?_
 ·simp only [t8,a0d]
  simp only [qf (g:=10),B0,reduceIte,a9]
  refine zj (t:=(decide (low_1≤l8))) (fun hg3=>?_) (fun hg3=>?_)
  ·simp only [hg3,qf (g:=10),zl,zf0,qd,zf2,qv,qb,qov,qx,zo,qa,qo,B0,reduceIte,a9]
   exact hN2 _ _ ⟨hS,by rw [yk hg3]; simp only [B0,reduceIte,a9]⟩
  ·simp only [hg3,qf (g:=10),jh,qx,qb,zn,qa,qo,B0,reduceIte,a9]
   exact hN2 _ _ ⟨hS,by rw [yj hg3]; simp only [B0,reduceIte,a9]⟩
 rintro fr4 h6 ⟨hS7,f5⟩
 simp only [t9,a0c]
 simp only [f5,qd,qa,qw,B0,reduceIte,a9]
 have he:=qh hF
 subst he
 simp only [q9,B0,reduceIte,a9]
 exact rfl
theorem qc0 {W:Nat→Bool}{h:Heap} (hW:∀ b,
  (geL h.length) b→W b=true) (f0:View) (r:View) (hF:xm f0=some r) : Ret E W 67 [.agg [.int .i64 f0.Epoch,.int .i64 f0.Leader,
  lst cI f0.InStep]] h (fun v h'=>∃ n9 l9,v = .agg [.int .i64 r.Epoch,.int .i64 r.Leader,
  n9]∧SlF cI 1 3 n9 r.InStep l9∧Sep h' (geL h.length) (l9++([]))):=by
 refine Ret.of (fn:=x67) rfl (Run.of ?_)
 unfold xm at hF
 have zf0:zb [.agg [.int .i64 f0.Epoch,.int .i64 f0.Leader,lst cI f0.InStep]] 0 = .agg [.int .i64 f0.Epoch,.int .i64 f0.Leader,lst cI f0.InStep]:=rfl
 generalize zb [.agg [.int .i64 f0.Epoch,.int .i64 f0.Leader,lst cI f0.InStep]]=fr0 at zf0 ⊢
 have hS:Sep h (geL h.length) []:=a1q h
 simp only [x67,qe,qc,j7,zf0,B0,reduceIte,a9]
 refine jm (cs:=[.int .i64 f0.Epoch,.int .i64 f0.Leader,lst cI f0.InStep]) hS rfl rfl rfl (fun b1 h2 hS3=>?_)
 simp only [kc,B0,reduceIte,a9]
 refine jp hS3 (fun b5 h6 hS7=>?_)
 simp only [qa,q3q,qe,qc,yh,evp,B0,reduceIte,a9]
 refine kx (n:=1) (f:=cI) ([] : List Int) hS7 rfl rfl (fun v9 c10 h11 hv12 hS13=>?_)
 simp only [qq,qb,s5,s9,t5,zd,qn,B0,reduceIte,a9]
 refine qg (v:=lst cI f0.InStep) ((jt (a0r _ _ _ (a0k hS13))).trans rfl) ?_
 simp only [wt,B0,reduceIte,a9]
 obtain ⟨l15,hx16,hF17⟩:=qi hF
 refine yn (f:=cI) hv12 hS13 hW (fun _=>rfl) (fun _=>rfl) (qah (fun _=>rfl)) hx16 (fun v18 c19 h20 hv21 hS22=>?_)
 simp only [qq,qb,s5,s9,t5,zd,zp,B0,reduceIte,a9]
 refine zm (us:=[v18]) (j8 (a0g hv21)) (cs':=[.int .i64 f0.Epoch,.int .i64 f0.Leader,
   v18]) (a0k hS22) hW rfl (qj (a0g hv21) zq) (nle rfl) rfl (fun h24 hS25=>?_)
 simp only [qa,qe,qc,qn,B0,reduceIte,a9]
 refine qg (v := .agg [.int .i64 f0.Epoch,.int .i64 f0.Leader,v18]) ((zr (a0r _ _ _ hS25)).trans rfl) ?_
 simp only [zp,B0,reduceIte,a9]
 refine zm (us:=[.int .i64 f0.Epoch,.int .i64 f0.Leader,v18]) rfl (cs':=[.int .i64 f0.Epoch,.int .i64 f0.Leader,
   v18]) (a0k hS25) hW rfl (qj rfl (qj rfl (qj (a0g hv21) zq))) (nle rfl) rfl (fun h26 hS27=>?_)
 simp only [qa,qw,B0,reduceIte,a9]
 have he:=qh hF17
 subst he
 refine xa (bb:=b5) (oo:=0) (v := .agg [.int .i64 f0.Epoch,.int .i64 f0.Leader,v18]) (by simp only [B0,reduceIte,
   a9]) ((zr (a0r _ _ _ hS27)).trans rfl) ?_
 exact ⟨v18,c19,by first | trivial | rfl,hv21,(a0s ((a0s (hS27))))⟩
theorem qk2 {W:Nat→Bool}{h:Heap} (hW:∀ b,
  (geL h.length) b→W b=true) (i7:Int) (r:Cluster) (hF:qc1 i7=some r) : Ret E W 40 [.int .i64 i7] h
  (fun v h'=>∃ n9 l9 p9 m0 o8 n7,v = .agg [.int .i64 r.Truth.Epoch,.int .i64 r.Truth.Leader,n9,p9,
  o8]∧SlF cI 1 3 n9 r.Truth.InStep l9∧SlN Node.R 6 68 p9 r.Nodes m0∧SlF qm 2 92 o8 r.Acked n7∧Sep h' (geL h.length) (l9++(m0 ++
  (n7++([]))))):=by
 refine Ret.of (fn:=x40) rfl (Run.of ?_)
 unfold qc1 at hF
 have zf0:zb [.int .i64 i7] 0 = .int .i64 i7:=rfl
 generalize zb [.int .i64 i7]=fr0 at zf0 ⊢
 have hS:Sep h (geL h.length) []:=a1q h
 simp only [x40,qe,qc,kc,B0,reduceIte,a9]
 refine jp hS (fun b1 h2 hS3=>?_)
 simp only [qa,qxq,qe,qc,run_build,evp,B0,reduceIte,a9]
 refine qg (v := .agg [.int .i64 0,.int .i64 0,.nil,.nil,.nil]) rfl ?_
 simp only [kc,B0,reduceIte,a9]
 refine jp hS3 (fun b5 h6 hS7=>?_)
 simp only [zp,B0,reduceIte,a9]
 refine zm (us:=[.int .i64 0,.int .i64 0,.nil,.nil,.nil]) rfl (cs':=[.int .i64 0,.int .i64 0,.nil,.nil,.nil]) hS7 hW rfl rfl (nle rfl) rfl (fun h9 hS10=>?_)
 simp only [qa,q6r,qe,qc,zf0,qd,B0,reduceIte,a9]
 obtain ⟨oc23,hX25,hk26⟩:=jy hF
 simp only [q2n]
 refine qfn (σ:=Cluster) (fun i21 s62=>qda i21 s62) (fun s fr' h'=>∃ v18 c19,
   fr' 0 = .int .i64 i7∧fr' 2 = .ptr b1 0∧fr' 3 = .ptr b5 0∧SlF cI 1 3 v18 s.Truth.InStep c19∧Sep h' (geL h.length) ([Blk1 b1 [.int .i64 0,.int .i64 0,.nil,
   .nil,.nil] 28]++([Blk1 b5 [.int .i64 s.Truth.Epoch,.int .i64 s.Truth.Leader,v18,.nil,.nil] 28]++(c19++([]))))) hX25 ⟨.nil,[],zf0,rfl,rfl,a25,
   ((a0l hS10) : Sep _ (geL h.length) ([Blk1 b1 [.int .i64 0,.int .i64 0,.nil,.nil,.nil] 28]++([Blk1 b5 [.int .i64 0,.int .i64 0,.nil,.nil,
   .nil] 28]++([]))))⟩ (by simp only [B0,reduceIte,a9]) (by simp only [B0,reduceIte,
   a9]) (fun _ _ _ h=>h) rfl rfl (fun _ _ _ _ h=>h) (fun _ _ _ _ h=>h) (fun _ _ _ _ h=>h) (by decide) ?_ ?_
 ·rintro i21 s16 fr35 h36 hx41 ⟨v18,c19,f38,f39,f40,hv20,hS37⟩ f42 f43 oc24 hF27 hr28 Q29 hN30 hB34 hK31 hR32 hE33
  unfold qda at hF27
  simp only [q0v,qe,qc,f42,qd,qa,q0q,f40,qq,qb,s5,s9,t5,zd,qn,B0,reduceIte,
    a9]
  refine qg (v:=v18) ((jt (a0r _ _ _ (a0l hS37))).trans rfl) ?_
  simp only [qd,yh,evp,B0,reduceIte,a9]
  refine kx (n:=1) (f:=cI) [(i21:Int)] hS37 rfl rfl (fun v44 c45 h46 hv47 hS48=>?_)
  simp only [wt,B0,reduceIte,a9]
  obtain ⟨l50,hx51,hF52⟩:=qi hF27
  refine yn (f:=cI) hv20 (a0e hS48) hW (fun _=>rfl) (fun _=>rfl) (SlF.first hv47 hS48 (fun _=>rfl)) hx51 (fun v53 c54 h55 hv56 hS57=>?_)
  simp only [f40,qq,qb,s5,s9,t5,zd,zp,B0,reduceIte,a9]
  refine zm (us:=[v53]) (j8 (a0g hv56)) (cs':=[.int .i64 s16.Truth.Epoch,.int .i64 s16.Truth.Leader,v53,.nil,
    .nil]) (a0e hS57) hW rfl (qj (a0g hv56) zq) (nle rfl) rfl (fun h59 hS60=>?_)
  simp only [qa,qo,B0,reduceIte,a9]
  have e61:=qh hF52
  exact hN30 _ _ _ e61.symm ⟨v53,c54,f38,f39,f40,hv56,(a0k (a0l (a0l (a0s (a0k hS60)))))⟩ (f42) (f43)
 rintro s63 fr68 h69 rfl ⟨v65,c66,f71,f72,f73,hv67,hS70⟩
 dsimp only [jnO] at hk26
 unfold qf3 at hk26
 simp only [q1r,qe,qc,f71,qd,qa,B0,reduceIte,a9]
 obtain ⟨oc86,hX88,hk89⟩:=jy hk26
 simp only [q52]
 refine qfn (σ:=Cluster) (fun i84 s146=>qdp i7 s63 i84 s146) (fun s fr' h'=>∃ v81 c82,
   fr' 0 = .int .i64 i7∧fr' 2 = .ptr b1 0∧fr' 3 = .ptr b5 0∧SlN Node.R 6 68 v81 s.Nodes c82∧Sep h' (geL h.length) ([Blk1 b1 [.int .i64 0,.int .i64 0,.nil,.nil,
   .nil] 28]++([Blk1 b5 [.int .i64 s.Truth.Epoch,.int .i64 s.Truth.Leader,v65,v81,.nil] 28]++(c66++(c82++([])))))) hX88 ⟨.nil,[],f71,f72,f73,SlN.nil,
   ((a0k (a0k (a0k hS70))) : Sep _ (geL h.length) ([Blk1 b1 [.int .i64 0,.int .i64 0,.nil,.nil,.nil] 28]++([Blk1 b5 [.int .i64 s63.Truth.Epoch,
   .int .i64 s63.Truth.Leader,v65,.nil,.nil] 28]++(c66++([])))))⟩ (by simp only [B0,reduceIte,a9]) (by simp only [B0,reduceIte,
   a9]) (fun _ _ _ h=>h) rfl rfl (fun _ _ _ _ h=>h) (fun _ _ _ _ h=>h) (fun _ _ _ _ h=>h) (by decide) ?_ ?_
 ·rintro i84 s79 fr98 h99 hx104 ⟨v81,c82,f101,f102,f103,hv83,hS100⟩ f105 f106 oc87 hF90 hr91 Q92 hN93 hB97 hK94 hR95 hE96
  unfold qdp at hF90
  simp only [q7h,js,f103,z9,qk,s5,s9,t5,zd,zu,B0,reduceIte,a9]
  refine qt (v := .agg [.int .i64 s79.Truth.Epoch,.int .i64 s79.Truth.Leader,v65]) ((zr (a0r _ _ _ (a0l hS100))).trans rfl) ?_
  obtain ⟨l107,hx108,hF109⟩:=qi hF90
  simp only [f101,qh8,qk,qxo,B0,reduceIte,a9]
  refine qmr (f:=cI) (z:=(0:Int)) hS100 hx108 rfl (fun v110 c111 h112 hv113 hS114=>?_)
  simp only [f103,qb0,qk,s5,s9,t5,zd,uw,B0,reduceIte,a9]
  refine qcy (Sep.ltk (a0l hS100)) ?_
  refine qt (v:=v81) ((jt (a0r _ _ _ (a0k hS114))).trans rfl) ?_
  obtain ⟨v116,hx117,hF118⟩:=qi hF109
  simp only [uf,B0,reduceIte,a9]
  refine qik rfl hS114 (ql (jo (ql qs (ql qs (ql (a06 hv67 (a0e hS114) rfl (fun _=>rfl) (fun _=>rfl)) zh)))) zh)
    (qc0 (fun b hb=>decide_eq_true hb) (View.mk s79.Truth.Epoch s79.Truth.Leader s63.Truth.InStep) v116 hx117) ?_
  rintro _ h123 ⟨v119,c120,rfl,hv121,hS124⟩
  refine ⟨_,qdc (qj rfl (qj rfl (qj (a1r hv121) zq))),hS124,(j9 (a2p hv121 (fun _=>rfl)) wl),fun h125 hS126=>?_⟩
  have hS127:Sep h125 (geL h.length) (c120++(c111++([Blk1 b1 [.int .i64 0,.int .i64 0,.nil,.nil,.nil] 28]++([Blk1 b5 [.int .i64 s79.Truth.Epoch,
    .int .i64 s79.Truth.Leader,v65,v81,.nil] 28]++(c66++(c82++([]))))))):=by simpa only [a0f,a0z] using hS126
  simp only [qen,evp,B0,reduceIte,a9]
  refine qt (v := .agg [.int .i64 v116.Epoch,.int .i64 v116.Leader,v119,.nil,v110,.int .i64 0]) (qai (qag (us:=[.int .i64 v116.Epoch,
    .int .i64 v116.Leader,v119]) (vs:=[.int .i64 v116.Epoch,.int .i64 v116.Leader,v119,.nil,.nil,
    .int .i64 0]) rfl rfl (nle rfl) (qj rfl (qj rfl (qj (a0g hv121) zq))) rfl (qag (us:=[v110]) (vs:=[.int .i64 v116.Epoch,.int .i64 v116.Leader,v119,
    .nil,v110,.int .i64 0]) (j8 (a0g hv113)) rfl (nle rfl) (qj (a0g hv113) zq) rfl qed))) ?_
  simp only [qdb,evp,B0,reduceIte,a9]
  refine qgl (R:=Node.R) (n:=6) (cs:=[.int .i64 v116.Epoch,.int .i64 v116.Leader,v119,.nil,v110,
    .int .i64 0]) (os:=c120++([]++(c111))) (Sep.bi3 (c1:=c120) (c2:=[]) (c3:=c111) (S:=([Blk1 b1 [.int .i64 0,.int .i64 0,.nil,.nil,
    .nil] 28]++([Blk1 b5 [.int .i64 s79.Truth.Epoch,.int .i64 s79.Truth.Leader,v65,v81,
    .nil] 28]++(c66++(c82++([])))))) ((a0l (a0l hS127)) : Sep _ (geL h.length) (c120++(c111++([Blk1 b1 [.int .i64 0,.int .i64 0,.nil,.nil,
    .nil] 28]++([Blk1 b5 [.int .i64 s79.Truth.Epoch,.int .i64 s79.Truth.Leader,v65,v81,.nil] 28]++(c66++(c82++([]))))))))) (qag (us:=[.int .i64 v116.Epoch,
    .int .i64 v116.Leader,v119,.nil,v110,.int .i64 0]) (vs:=[.int .i64 v116.Epoch,.int .i64 v116.Leader,v119,.nil,v110,
    .int .i64 0]) rfl rfl (nle rfl) (qj rfl (qj rfl (qj (a0g hv121) (qj rfl (qj (a0g hv113) (qj rfl zq)))))) rfl qed) (Node.RI (x :=
    (Node.mk v116 [] l107 0)) hv121 a25 hv113) rfl (fun v128 c129 h130 hv131 hS132=>?_)
  simp only [qf8,B0,reduceIte,a9]
  obtain ⟨l134,hx135,hF136⟩:=qi hF118
  refine qi6 (R:=Node.R) (c:=c82) hv83 hv131 (a0i hS132) hW Node.RO.len Node.RO.one hx135 (fun v137 c138 h139 hv140 hS141=>?_)
  simp only [f103,z9,qk,s5,s9,t5,zd,qds,B0,reduceIte,a9]
  refine qcg (us:=[v137]) (j8 (a10 hv140)) (cs':=[.int .i64 s79.Truth.Epoch,.int .i64 s79.Truth.Leader,v65,v137,
    .nil]) (a0k hS141) hW rfl (qj (a10 hv140) zq) (nle rfl) rfl (fun h143 hS144=>?_)
  simp only [zc,qo,B0,reduceIte,a9]
  have e145:=qh hF136
  exact hN93 _ _ _ e145.symm ⟨v137,c138,f101,f102,f103,hv140,(a0e (a0k (a0e (a0l hS144))))⟩ (f105) (f106)
 rintro s147 fr152 h153 rfl ⟨v149,c150,f155,f156,f157,hv151,hS154⟩
 dsimp only [jnO] at hk89
 unfold qf6 at hk89
 simp only [qe,qc,f157,qn,B0,reduceIte,a9]
 refine qg (v := .agg [.int .i64 s147.Truth.Epoch,.int .i64 s147.Truth.Leader,v65,v149,.nil]) ((zr (a0r _ _ _ (a0l hS154))).trans rfl) ?_
 simp only [f156,zp,B0,reduceIte,a9]
 refine zm (us:=[.int .i64 s147.Truth.Epoch,.int .i64 s147.Truth.Leader,v65,v149,.nil]) rfl (cs':=[.int .i64 s147.Truth.Epoch,.int .i64 s147.Truth.Leader,v65,
   v149,.nil]) hS154 hW rfl (qj rfl (qj rfl (qj (a0g hv67) (qj (a10 hv151) (qj rfl zq))))) (nle rfl) rfl (fun h158 hS159=>?_)
 simp only [qa,qw,B0,reduceIte,a9]
 have he:=qh hk89
 subst he
 refine xa (bb:=b1) (oo:=0) (v := .agg [.int .i64 s147.Truth.Epoch,.int .i64 s147.Truth.Leader,v65,v149,.nil]) (by simp only [f156,B0,reduceIte,
   a9]) ((zr (a0r _ _ _ hS159)).trans rfl) ?_
 exact ⟨v65,c66,v149,c150,.nil,[],by first | trivial | rfl,hv67,hv151,a25,
   ((a0l (a0l (a0s ((a0s (hS159)))))) : Sep _ (geL h.length) (c66++(c150++([]))))⟩
theorem qkm {W:Nat→Bool}{h:Heap} (hW:∀ b,
  (geL h.length) b→W b=true) (s_0:List Int) (d8:Int) (r:Int) (hF:qck s_0 d8=some r) : Ret E W 96 [lst cI s_0,
  .int .i64 d8] h (fun v h'=>cut h.length h' E.sz false 9 v=some (.int .i64 r)):=by
 refine Ret.of (fn:=x96) rfl (Run.of ?_)
 unfold qck at hF
 have zf0:zb [lst cI s_0,.int .i64 d8] 0=lst cI s_0:=rfl
 have zf1:zb [lst cI s_0,.int .i64 d8] 1 = .int .i64 d8:=rfl
 generalize zb [lst cI s_0,.int .i64 d8]=fr0 at zf0 zf1 ⊢
 have hS:Sep h (geL h.length) []:=a1q h
 simp only [x96,qe,qc,qd,qa,q6o,zf0,zy,qb,je,B0,reduceIte,a9]
 obtain ⟨oc3,hX5,hk6⟩:=jy hF
 simp only [q3n]
 refine xd (σ:=Unit) s_0 (fun i1 x2 _=>xu d8 i1 x2 ) (fun s fr' h'=>fr' 0=lst cI s_0∧fr' 1 = .int .i64 d8∧Sep h' (geL h.length)
   ([])) hX5 ⟨zf0,zf1,hS⟩ (by simp only [B0,reduceIte,a9]) (by simp only [B0,reduceIte,
   a9]) (fun _ _ _ h=>h) rfl rfl (fun _ _ _ _ h=>h) (fun _ _ _ _ h=>h) (fun _ _ _ _ h=>h) (by decide) ?_ ?_
 ·rintro i1 x2 _ fr15 h16 hx20 ⟨f18,f19,hS17⟩ f21 f22 oc4 hF7 hr8 Q9 hN10 hB14 hK11 hR12 hE13
  unfold xu at hF7
  simp only [q5u,qe,qc,f21,qd,qa,q1l,f19,f18,ji,B0,reduceIte,a9]
  refine qg (v := .ref (cI x2) 0) (xg hx20 rfl) ?_
  simp only [qn,B0,reduceIte,a9]
  refine qg (v := .int .i64 x2) rfl ?_
  simp only [qv,qb,k7,qa,q7g,qy,B0,reduceIte,a9]
  refine qu (t:=(decide (d8=x2))) (fun hc23=>?_) (fun hc23=>?_)
  ·rw [iteT hc23] at hF7
   simp only [qe,qc,qd,qa,qw,B0,reduceIte,a9]
   have e24:=qh hF7
   subst e24
   have ho25:=hr8 _ rfl
   have hk26:=hk6
   rw [ho25] at hk26
   dsimp only [jnO] at hk26
   apply hR12
   have he:=qh hk26
   subst he
   simp only [q9,B0,reduceIte,a9]
   exact rfl
  rw [iteF hc23] at hF7
  simp only [zf,qo,B0,reduceIte,a9]
  have e27:=qh hF7
  exact hN10 _ _ _ e27.symm ⟨f18,f19,hS17⟩ (f21) (f22)
 rintro _ fr29 h30 rfl ⟨f32,f33,hS31⟩
 dsimp only [jnO] at hk6
 unfold qfd at hk6
 simp only [qe,qc,qd,qa,qw,B0,reduceIte,a9]
 have he:=qh hk6
 subst he
 simp only [q9,B0,reduceIte,a9]
 exact rfl
theorem qb3 {W:Nat→Bool}{h:Heap} (hW:∀ b,
  (geL h.length) b→W b=true) (s_0:List Int) (d8:Int) (r:Bool) (hF:wb s_0 d8=some r) : Ret E W 80 [lst cI s_0,
  .int .i64 d8] h (fun v h'=>cut h.length h' E.sz false 9 v=some (.bool r)):=by
 refine Ret.of (fn:=x80) rfl (Run.of ?_)
 unfold wb at hF
 have zf0:zb [lst cI s_0,.int .i64 d8] 0=lst cI s_0:=rfl
 have zf1:zb [lst cI s_0,.int .i64 d8] 1 = .int .i64 d8:=rfl
 generalize zb [lst cI s_0,.int .i64 d8]=fr0 at zf0 zf1 ⊢
 have hS:Sep h (geL h.length) []:=a1q h
 obtain ⟨v1,hx2,hF3⟩:=qi hF
 simp only [x80,qe,qc,qd,qa,qzz,zf0,zf1,zi,B0,reduceIte,a9]
 refine ju rfl (ql z8 (ql qs zh)) (qkm (fun b hb=>decide_eq_true hb) s_0 d8 v1 hx2) ?_
 simp only [qv,qb,qfg,qd,qa,qw,B0,reduceIte,a9]
 have he:=qh hF3
 subst he
 simp only [q9,B0,reduceIte,a9]
 exact rfl
end Go.Proofs.Ytohofoampalhoaa.X
namespace Go.Proofs.Ytohofoampalhoaa.X
open Go
theorem qk4 {W:Nat→Bool}{h:Heap} (hW:∀ b,
  (geL h.length) b→W b=true) (o6:List Int) (o9:Int) (r:Bool) (hF:qbm o6 o9=some r) : Ret E W 92 [lst cI o6,
  .int .i64 o9] h (fun v h'=>cut h.length h' E.sz false 9 v=some (.bool r)):=by
 refine Ret.of (fn:=x92) rfl (Run.of ?_)
 unfold qbm at hF
 have zf0:zb [lst cI o6,.int .i64 o9] 0=lst cI o6:=rfl
 have zf1:zb [lst cI o6,.int .i64 o9] 1 = .int .i64 o9:=rfl
 generalize zb [lst cI o6,.int .i64 o9]=fr0 at zf0 zf1 ⊢
 have hS:Sep h (geL h.length) []:=a1q h
 simp only [x92,qe,qc,qd,qa,q57,zf0,zy,qb,je,B0,reduceIte,a9]
 obtain ⟨oc3,hX5,hk6⟩:=jy hF
 simp only [q0o]
 refine xd (σ:=Unit) o6 (fun i1 x2 _=>qbj o6 o9 i1 x2 )
   (fun s fr' h'=>fr' 0=lst cI o6∧fr' 1 = .int .i64 o9∧fr' 7=lst cI o6∧Sep h' (geL h.length) ([])) hX5 ⟨zf0,zf1,rfl,hS⟩ (by simp only [B0,reduceIte,
   a9]) (by simp only [B0,reduceIte,a9]) (fun _ _ _ h=>h) rfl rfl (fun _ _ _ _ h=>h) (fun _ _ _ _ h=>h) (fun _ _ _ _ h=>h) (by decide) ?_ ?_
 ·rintro i1 x2 _ fr15 h16 hx21 ⟨f18,f19,f20,hS17⟩ f22 f23 oc4 hF7 hr8 Q9 hN10 hB14 hK11 hR12 hE13
  unfold qbj at hF7
  simp only [q2o,qe,qc,f22,qd,f20,ji,B0,reduceIte,a9]
  refine qg (v := .ref (cI x2) 0) (xg hx21 rfl) ?_
  simp only [qn,B0,reduceIte,a9]
  refine qg (v := .int .i64 x2) rfl ?_
  simp only [qd,qa,q4j,qe,qc,f19,qv,qb,qlp,zi,B0,reduceIte,a9]
  refine ju rfl (ql qs (ql qs (ql qs zh))) (xn (fun b hb=>decide_eq_true hb) x2 0 (a0a .i64 (o9 - 1)) _ rfl) ?_
  simp only [kh,qb,kz,qd,B0,reduceIte,a9]
  obtain ⟨v27,hx28,hF29⟩:=qi hF7
  refine jj 12 (fun fr' h'=>Sep h' (geL h.length) ([])∧fr' 31 = .bool v27∧fr' 0=lst cI o6∧fr' 1 = .int .i64 o9∧fr' 7=lst cI o6∧fr' 8 = .int .i64
    (t6 o6:Int)∧fr' 9 = .int .i64 (i1:Int)) (fun Q24 hN25=>?_) ?_
  ·simp only [t8,a0d]
   simp only [qf (g:=19),B0,reduceIte,a9]
   refine zj (t:=(!(zw x2 0 (a0a .i64 (o9 - 1))))) (fun hg26=>?_) (fun hg26=>?_)
   ·rw [iteT hg26] at hx28
    simp only [hg26,qf (g:=19),jr,qf (g:=22),qbp,qx,qb,zo,qa,qo,B0,reduceIte,a9]
    have e30:=qh hx28
    exact hN25 _ _ ⟨hS17,by rw [←e30]; simp only [B0,reduceIte,a9],f18,f19,f20,f23,f22⟩
   ·rw [iteF hg26] at hx28
    simp only [hg26,qf (g:=19),q8,qd,qv,qb,qj3,B0,reduceIte,a9]
    obtain ⟨v34,hx35,hF36⟩:=qi hx28
    refine jj 8 (fun fr' h'=>Sep h' (geL h.length)
      ([])∧fr' 30 = .bool v34∧fr' 0=lst cI o6∧fr' 1 = .int .i64 o9∧fr' 7=lst cI o6∧fr' 8 = .int .i64
      (t6 o6:Int)∧fr' 9 = .int .i64 (i1:Int)∧fr' 19 = .bool (!(zw x2 0 (a0a .i64 (o9 - 1))))) (fun Q31 hN32=>?_) ?_
    ·simp only [t8,a0d]
     simp only [qf (g:=22),B0,reduceIte,a9]
     refine zj (t:=(decide ((0:Int)<(i1:Int)))) (fun hg33=>?_) (fun hg33=>?_)
     ·rw [iteT hg33] at hx35
      obtain ⟨x37,hx38,hF39⟩:=qi hx35
      simp only [hg33,qf (g:=22),zl,f18,qd,qv,qb,qlp,ji,B0,reduceIte,a9]
      refine qg (v := .ref (cI x37) 0) (kw hx38 rfl) ?_
      simp only [hg33,qf (g:=22),zl,qn,B0,reduceIte,a9]
      refine qg (v := .int .i64 x37) rfl ?_
      simp only [hg33,qf (g:=22),zl,qd,qv,qb,qfg,hg26,qf (g:=19),q8,qx,zo,qa,qo,
        B0,reduceIte,a9]
      have e40:=qh hF39
      exact hN32 _ _ ⟨hS17,by rw [←e40]; simp only [B0,reduceIte,a9],f18,f19,f20,f23,f22,by simp only [hg26,B0,reduceIte,a9]⟩
     ·rw [iteF hg33] at hx35
      simp only [hg33,qf (g:=22),jh,hg26,qf (g:=19),q8,qx,qb,zn,qa,qo,B0,reduceIte,
        a9]
      have e41:=qh hx35
      exact hN32 _ _ ⟨hS17,by rw [←e41]; simp only [B0,reduceIte,a9],f18,f19,f20,f23,f22,by simp only [hg26,B0,reduceIte,a9]⟩
    rintro fr42 h50 ⟨hS51,f43,f44,f45,f46,f47,f48,f49⟩
    simp only [t9,a0c]
    simp only [f49,hg26,qx,qb,zn,f43,qa,qo,B0,reduceIte,a9]
    have e52:=qh hF36
    exact hN25 _ _ ⟨hS51,by rw [←e52]; simp only [B0,reduceIte,a9],f44,f45,f46,f47,f48⟩
  rintro fr53 h60 ⟨hS61,f54,f55,f56,f57,f58,f59⟩
  simp only [t9,a0c]
  simp only [qa,f54,qy,B0,reduceIte,a9]
  refine qu (t:=v27) (fun hc62=>?_) (fun hc62=>?_)
  ·rw [iteT hc62] at hF29
   simp only [qe,qc,qd,qa,qw,B0,reduceIte,a9]
   have e63:=qh hF29
   subst e63
   have ho64:=hr8 _ rfl
   have hk65:=hk6
   rw [ho64] at hk65
   dsimp only [jnO] at hk65
   apply hR12
   have he:=qh hk65
   subst he
   simp only [q9,B0,reduceIte,a9]
   exact rfl
  rw [iteF hc62] at hF29
  simp only [zf,qo,B0,reduceIte,a9]
  have e66:=qh hF29
  exact hN10 _ _ _ e66.symm ⟨f55,f56,f57,hS61⟩ (f59) (f58)
 rintro _ fr68 h69 rfl ⟨f71,f72,f73,hS70⟩
 dsimp only [jnO] at hk6
 unfold qf2 at hk6
 simp only [qe,qc,qd,qa,qw,B0,reduceIte,a9]
 have he:=qh hk6
 subst he
 simp only [q9,B0,reduceIte,a9]
 exact rfl
theorem qjw {W:Nat→Bool}{h:Heap} (hW:∀ b,
  (geL h.length) b→W b=true) (f0:View) (r4:Int) (r:Bool) (hF:qcx f0 r4=some r) : Ret E W 78 [.agg [.int .i64 f0.Epoch,.int .i64 f0.Leader,
  lst cI f0.InStep],.int .i64 r4] h (fun v h'=>cut h.length h' E.sz false 9 v=some (.bool r)):=by
 refine Ret.of (fn:=x78) rfl (Run.of ?_)
 unfold qcx at hF
 have zf0:zb [.agg [.int .i64 f0.Epoch,.int .i64 f0.Leader,lst cI f0.InStep],.int .i64 r4] 0 = .agg [.int .i64 f0.Epoch,.int .i64 f0.Leader,
   lst cI f0.InStep]:=rfl
 have zf1:zb [.agg [.int .i64 f0.Epoch,.int .i64 f0.Leader,lst cI f0.InStep],.int .i64 r4] 1 = .int .i64 r4:=rfl
 generalize zb [.agg [.int .i64 f0.Epoch,.int .i64 f0.Leader,lst cI f0.InStep],.int .i64 r4]=fr0 at zf0 zf1 ⊢
 have hS:Sep h (geL h.length) []:=a1q h
 simp only [x78,qe,qc,j7,zf0,B0,reduceIte,a9]
 refine jm (cs:=[.int .i64 f0.Epoch,.int .i64 f0.Leader,lst cI f0.InStep]) hS rfl rfl rfl (fun b1 h2 hS3=>?_)
 simp only [qd,qa,B0,reduceIte,a9]
 refine jc hS3 hW (by simp only [B0,reduceIte,a9]) (fun h5 hS6=>?_)
 simp only [jd,q8o,qe,qc,qq,qb,s5,s9,t5,qr,qn,B0,reduceIte,a9]
 refine qg (v := .int .i64 f0.Epoch) rfl ?_
 simp only [zi,B0,reduceIte,a9]
 refine ju rfl (ql qs (ql qs (ql qs zh))) (xn (fun b hb=>decide_eq_true hb) f0.Epoch 0 100 _ rfl) ?_
 simp only [qd,B0,reduceIte,a9]
 obtain ⟨v10,hx11,hF12⟩:=qi hF
 refine jj 5 (fun fr' h'=>Sep h' (geL h.length) ([])∧fr' 13 = .bool v10∧fr' 2 = .ref [.int .i64 f0.Epoch,.int .i64 f0.Leader,
   lst cI f0.InStep] 0) (fun Q7 hN8=>?_) ?_
 ·simp only [t8,a0d]
  simp only [qf (g:=8),B0,reduceIte,a9]
  refine zj (t:=(zw f0.Epoch 0 100)) (fun hg9=>?_) (fun hg9=>?_)
  ·rw [iteT hg9] at hx11
   simp only [hg9,qf (g:=8),zl,qq,qb,s5,s9,t5,qr,qn,B0,reduceIte,a9]
   refine qg (v:=lst cI f0.InStep) rfl ?_
   obtain ⟨v13,hx14,hF15⟩:=qi hx11
   simp only [hg9,qf (g:=8),zl,zf1,qd,zi,B0,reduceIte,a9]
   refine ju rfl (ql z8 (ql qs zh)) (qk4 (fun b hb=>decide_eq_true hb) f0.InStep r4 v13 hx14) ?_
   simp only [hg9,qx,qb,zo,qa,qo,B0,reduceIte,a9]
   have e16:=qh hF15
   exact hN8 _ _ ⟨hS6,by rw [←e16]; simp only [B0,reduceIte,a9],rfl⟩
  ·rw [iteF hg9] at hx11
   simp only [hg9,qf (g:=8),jh,qx,qb,zn,qa,qo,B0,reduceIte,a9]
   have e17:=qh hx11
   exact hN8 _ _ ⟨hS6,by rw [←e17]; simp only [B0,reduceIte,a9],rfl⟩
 rintro fr18 h21 ⟨hS22,f19,f20⟩
 simp only [t9,a0c]
 simp only [f19,qd,B0,reduceIte,a9]
 obtain ⟨v26,hx27,hF28⟩:=qi hF12
 refine jj 6 (fun fr' h'=>Sep h' (geL h.length) ([])∧fr' 20 = .bool v26) (fun Q23 hN24=>?_) ?_
 ·simp only [t8,a0d]
  simp only [qf (g:=14),B0,reduceIte,a9]
  refine zj (t:=v10) (fun hg25=>?_) (fun hg25=>?_)
  ·rw [iteT hg25] at hx27
   simp only [hg25,qf (g:=14),zl,f20,qq,qb,s5,s9,t5,qr,qn,B0,reduceIte,a9]
   refine qg (v:=lst cI f0.InStep) rfl ?_
   simp only [hg25,qf (g:=14),zl,f20,qq,qb,s5,s9,t5,qr,qn,B0,reduceIte,a9]
   refine qg (v := .int .i64 f0.Leader) rfl ?_
   obtain ⟨v29,hx30,hF31⟩:=qi hx27
   simp only [hg25,qf (g:=14),zl,zi,B0,reduceIte,a9]
   refine ju rfl (ql z8 (ql qs zh)) (qb3 (fun b hb=>decide_eq_true hb) f0.InStep f0.Leader v29 hx30) ?_
   simp only [hg25,qx,qb,zo,qa,qo,B0,reduceIte,a9]
   have e32:=qh hF31
   exact hN24 _ _ ⟨hS22,by rw [←e32]; simp only [B0,reduceIte,a9]⟩
  ·rw [iteF hg25] at hx27
   simp only [hg25,qf (g:=14),jh,qx,qb,zn,qa,qo,B0,reduceIte,a9]
   have e33:=qh hx27
   exact hN24 _ _ ⟨hS22,by rw [←e33]; simp only [B0,reduceIte,a9]⟩
 rintro fr34 h36 ⟨hS37,f35⟩
 simp only [t9,a0c]
 simp only [f35,qd,qa,qw,B0,reduceIte,a9]
 have he:=qh hF28
 subst he
 simp only [q9,B0,reduceIte,a9]
 exact rfl
theorem qoe {W:Nat→Bool}{h:Heap} (hW:∀ b,
  (geL h.length) b→W b=true) (r5:List Row) (most_1:Int) (r:Bool) (hF:qd9 r5 most_1=some r) : Ret E W 93 [lst qm r5,
  .int .i64 most_1] h (fun v h'=>cut h.length h' E.sz false 9 v=some (.bool r)):=by
 refine Ret.of (fn:=x93) rfl (Run.of ?_)
 unfold qd9 at hF
 have zf0:zb [lst qm r5,.int .i64 most_1] 0=lst qm r5:=rfl
 have zf1:zb [lst qm r5,.int .i64 most_1] 1 = .int .i64 most_1:=rfl
 generalize zb [lst qm r5,.int .i64 most_1]=fr0 at zf0 zf1 ⊢
 have hS:Sep h (geL h.length) []:=a1q h
 simp only [x93,qe,qc,qd,qa,q56,q7z,zf0,zy,qb,je,B0,reduceIte,a9]
 obtain ⟨oc5,hX7,hk8⟩:=jy hF
 simp only [q8f]
 refine xd (σ:=Int) r5 (fun i3 x4 s53=>qap most_1 i3 x4 s53)
   (fun s fr' h'=>fr' 0=lst qm r5∧fr' 1 = .int .i64 most_1∧fr' 5 = .int .i64 s∧fr' 8=lst qm r5∧Sep h' (geL h.length) ([])) hX7 ⟨zf0,zf1,rfl,
   rfl,hS⟩ (by simp only [B0,reduceIte,a9]) (by simp only [B0,reduceIte,
   a9]) (fun _ _ _ h=>h) rfl rfl (fun _ _ _ _ h=>h) (fun _ _ _ _ h=>h) (fun _ _ _ _ h=>h) (by decide) ?_ ?_
 ·rintro i3 x4 s2 fr17 h18 hx24 ⟨f20,f21,f22,f23,hS19⟩ f25 f26 oc6 hF9 hr10 Q11 hN12 hB16 hK13 hR14 hE15
  unfold qap at hF9
  simp only [qz8,qe,qc,f23,f25,ji,B0,reduceIte,a9]
  refine qg (v := .ref (qm x4) 0) (xg hx24 rfl) ?_
  simp only [qn,B0,reduceIte,a9]
  refine qg (v := .agg [.int .i64 x4.Epoch,.int .i64 x4.Value]) rfl ?_
  simp only [kc,B0,reduceIte,a9]
  refine jp hS19 (fun b27 h28 hS29=>?_)
  simp only [zp,B0,reduceIte,a9]
  refine zm (us:=[.int .i64 x4.Epoch,.int .i64 x4.Value]) rfl (cs':=[.int .i64 x4.Epoch,.int .i64 x4.Value]) hS29 hW rfl rfl (nle rfl) rfl (fun h31 hS32=>?_)
  simp only [qa,B0,reduceIte,a9]
  refine jc hS32 hW (by simp only [B0,reduceIte,a9]) (fun h33 hS34=>?_)
  simp only [jd,q5s,qe,qc,qq,qb,s5,s9,t5,qr,qn,B0,reduceIte,a9]
  refine qg (v := .int .i64 x4.Epoch) rfl ?_
  simp only [f22,qd,f21,zi,B0,reduceIte,a9]
  refine ju rfl (ql qs (ql qs (ql qs zh))) (xn (fun b hb=>decide_eq_true hb) x4.Epoch s2 most_1 _ rfl) ?_
  simp only [kh,qb,kz,qd,B0,reduceIte,a9]
  refine jj 5 (fun fr' h'=>Sep h' (geL h.length) ([])∧fr' 25 = .bool ((!(zw x4.Epoch s2 most_1)) ||
    (!(zw x4.Value 0 99)))∧fr' 0=lst qm r5∧fr' 1 = .int .i64 most_1∧fr' 7 = .ref [.int .i64 x4.Epoch,
    .int .i64 x4.Value] 0∧fr' 8=lst qm r5∧fr' 9 = .int .i64 (t6 r5:Int)∧fr' 10 = .int .i64 (i3:Int)) (fun Q35 hN36=>?_) ?_
  ·simp only [t8,a0d]
   simp only [qf (g:=20),B0,reduceIte,a9]
   refine zj (t:=(!(zw x4.Epoch s2 most_1))) (fun hg37=>?_) (fun hg37=>?_)
   ·simp only [hg37,qf (g:=20),jr,qx,qb,zo,qa,qo,B0,reduceIte,a9]
    exact hN36 _ _ ⟨hS34,by rw [orT hg37]; simp only [B0,reduceIte,a9],f20,f21,rfl,f23,f26,f25⟩
   ·simp only [hg37,qf (g:=20),q8,qq,qb,s5,s9,t5,qr,qn,B0,reduceIte,a9]
    refine qg (v := .int .i64 x4.Value) rfl ?_
    simp only [hg37,qf (g:=20),q8,zi,B0,reduceIte,a9]
    refine ju rfl (ql qs (ql qs (ql qs zh))) (xn (fun b hb=>decide_eq_true hb) x4.Value 0 99 _ rfl) ?_
    simp only [hg37,qf (g:=20),q8,kh,qb,kz,qx,zn,qa,qo,B0,reduceIte,a9]
    exact hN36 _ _ ⟨hS34,by rw [orF hg37]; simp only [B0,reduceIte,a9],f20,f21,rfl,f23,f26,f25⟩
  rintro fr38 h46 ⟨hS47,f39,f40,f41,f42,f43,f44,f45⟩
  simp only [t9,a0c]
  simp only [qa,f39,qy,B0,reduceIte,a9]
  refine qu (t:=((!(zw x4.Epoch s2 most_1))||(!(zw x4.Value 0 99)))) (fun hc48=>?_) (fun hc48=>?_)
  ·rw [iteT hc48] at hF9
   simp only [qe,qc,qd,qa,qw,B0,reduceIte,a9]
   have e49:=qh hF9
   subst e49
   have ho50:=hr10 _ rfl
   have hk51:=hk8
   rw [ho50] at hk51
   dsimp only [jnO] at hk51
   apply hR14
   have he:=qh hk51
   subst he
   simp only [q9,B0,reduceIte,a9]
   exact rfl
  rw [iteF hc48] at hF9
  simp only [zf,qc,f42,qq,qb,s5,s9,t5,qr,qn,B0,reduceIte,a9]
  refine qg (v := .int .i64 x4.Epoch) rfl ?_
  simp only [qd,qa,qo,B0,reduceIte,a9]
  have e52:=qh hF9
  exact hN12 _ _ _ e52.symm ⟨f40,f41,rfl,f43,hS47⟩ (f45) (f44)
 rintro s54 fr55 h56 rfl ⟨f58,f59,f60,f61,hS57⟩
 dsimp only [jnO] at hk8
 unfold qix at hk8
 simp only [q19,qe,qc,f58,qd,zy,qb,je,qv,qov,qa,qw,B0,reduceIte,a9]
 have he:=qh hk8
 subst he
 simp only [q9,B0,reduceIte,a9]
 exact rfl
theorem qib {W:Nat→Bool}{h:Heap} (hW:∀ b,
  (geL h.length) b→W b=true) (s_0:List Int) {g1:Nat} {caps1:List XV} (hm1:E.mode g1=1) (f_1:Int→Option Bool) (hf1:∀ (W:Nat→Bool) (h:Heap),(∀ b,
  h.length≤b→W b=true)→∀ a0 r,f_1 a0=some r→Ret E W g1 ([.int .i64 a0]++caps1) h (fun v h'=>cut h.length h' E.sz false 9 v=some (.bool r))) (r:Int)
  (hF:qaf s_0 f_1=some r) : Ret E W 101 [lst cI s_0,.fn g1 caps1] h (fun v h'=>cut h.length h' E.sz false 9 v=some (.int .i64 r)):=by
 refine Ret.of (fn:=qsx) rfl (Run.of ?_)
 unfold qaf at hF
 have zf0:zb [lst cI s_0,.fn g1 caps1] 0=lst cI s_0:=rfl
 have zf1:zb [lst cI s_0,.fn g1 caps1] 1 = .fn g1 caps1:=rfl
 generalize zb [lst cI s_0,.fn g1 caps1]=fr0 at zf0 zf1 ⊢
 have hS:Sep h (geL h.length) []:=a1q h
 simp only [qsx,qe,qc,qd,qa,qub,zf0,zy,qb,je,B0,reduceIte,a9]
 obtain ⟨oc3,hX5,hk6⟩:=jy hF
 simp only [qt4]
 refine xd (σ:=Unit) s_0 (fun i1 x2 _=>wn f_1 i1 x2 ) (fun s fr' h'=>fr' 0=lst cI s_0∧fr' 1 = .fn g1 caps1∧Sep h' (geL h.length)
   ([])) hX5 ⟨zf0,zf1,hS⟩ (by simp only [B0,reduceIte,a9]) (by simp only [B0,reduceIte,
   a9]) (fun _ _ _ h=>h) rfl rfl (fun _ _ _ _ h=>h) (fun _ _ _ _ h=>h) (fun _ _ _ _ h=>h) (by decide) ?_ ?_
 ·rintro i1 x2 _ fr15 h16 hx20 ⟨f18,f19,hS17⟩ f21 f22 oc4 hF7 hr8 Q9 hN10 hB14 hK11 hR12 hE13
  unfold wn at hF7
  simp only [qs9,qe,qc,f21,qd,qa,qup,f19,f18,ji,B0,reduceIte,a9]
  refine qg (v := .ref (cI x2) 0) (xg hx20 rfl) ?_
  simp only [qn,B0,reduceIte,a9]
  refine qg (v := .int .i64 x2) rfl ?_
  obtain ⟨v23,hx24,hF25⟩:=qi hF7
  simp only [zi,B0,reduceIte,a9]
  refine ju hm1 (ql qs zh) (hf1 _ _ (fun b hb=>decide_eq_true hb) x2 v23 hx24) ?_
  simp only [qa,qv4,qy,B0,reduceIte,a9]
  refine qu (t:=v23) (fun hc26=>?_) (fun hc26=>?_)
  ·rw [iteT hc26] at hF25
   simp only [qe,qc,qd,qa,qw,B0,reduceIte,a9]
   have e27:=qh hF25
   subst e27
   have ho28:=hr8 _ rfl
   have hk29:=hk6
   rw [ho28] at hk29
   dsimp only [jnO] at hk29
   apply hR12
   have he:=qh hk29
   subst he
   simp only [q9,B0,reduceIte,a9]
   exact rfl
  rw [iteF hc26] at hF25
  simp only [zf,qo,B0,reduceIte,a9]
  have e30:=qh hF25
  exact hN10 _ _ _ e30.symm ⟨f18,f19,hS17⟩ (f21) (f22)
 rintro _ fr32 h33 rfl ⟨f35,f36,hS34⟩
 dsimp only [jnO] at hk6
 unfold qdz at hk6
 simp only [qe,qc,qd,qa,qw,B0,reduceIte,a9]
 have he:=qh hk6
 subst he
 simp only [q9,B0,reduceIte,a9]
 exact rfl
theorem qgw {W:Nat→Bool}{h:Heap} (hW:∀ b,
  (geL h.length) b→W b=true) (s_0:List Int) {g1:Nat} {caps1:List XV} (hm1:E.mode g1=1) (f_1:Int→Option Bool) (hf1:∀ (W:Nat→Bool) (h:Heap),(∀ b,
  h.length≤b→W b=true)→∀ a0 r,f_1 a0=some r→Ret E W g1 ([.int .i64 a0]++caps1) h (fun v h'=>cut h.length h' E.sz false 9 v=some (.bool r))) (r:Bool)
  (hF:xq s_0 f_1=some r) : Ret E W 94 [lst cI s_0,.fn g1 caps1] h (fun v h'=>cut h.length h' E.sz false 9 v=some (.bool r)):=by
 refine Ret.of (fn:=x94) rfl (Run.of ?_)
 unfold xq at hF
 have zf0:zb [lst cI s_0,.fn g1 caps1] 0=lst cI s_0:=rfl
 have zf1:zb [lst cI s_0,.fn g1 caps1] 1 = .fn g1 caps1:=rfl
 generalize zb [lst cI s_0,.fn g1 caps1]=fr0 at zf0 zf1 ⊢
 have hS:Sep h (geL h.length) []:=a1q h
 obtain ⟨v1,hx2,hF3⟩:=qi hF
 simp only [x94,qe,qc,qd,qa,q8b,zf0,zf1,zi,B0,reduceIte,a9]
 refine ju rfl (ql z8 (ql qrg zh)) (qib (fun b hb=>decide_eq_true hb) s_0 (g1:=g1) (caps1:=caps1) hm1 f_1 hf1 v1 hx2) ?_
 simp only [qv,qb,qfg,qd,qa,qw,B0,reduceIte,a9]
 have he:=qh hF3
 subst he
 simp only [q9,B0,reduceIte,a9]
 exact rfl
theorem qid {W:Nat→Bool}{h:Heap} (hW:∀ b,
  (geL h.length) b→W b=true) (k_0:Int) (cap_0:Node) (cap_1:Int) (r:Bool) (hF:some (wk k_0 cap_0 cap_1)=some r) : Ret E W 95 [.int .i64 k_0,
  .ref (qz cap_0) 0,.ref (cI cap_1) 0] h (fun v h'=>cut h.length h' E.sz false 9 v=some (.bool r)):=by
 refine Ret.of (fn:=x95) rfl (Run.of ?_)
 unfold wk at hF
 have zf0:zb [.int .i64 k_0,.ref (qz cap_0) 0,.ref (cI cap_1) 0] 0 = .int .i64 k_0:=rfl
 have zf1:zb [.int .i64 k_0,.ref (qz cap_0) 0,.ref (cI cap_1) 0] 1 = .ref (qz cap_0) 0:=rfl
 have zf2:zb [.int .i64 k_0,.ref (qz cap_0) 0,.ref (cI cap_1) 0] 2 = .ref (cI cap_1) 0:=rfl
 generalize zb [.int .i64 k_0,.ref (qz cap_0) 0,.ref (cI cap_1) 0]=fr0 at zf0 zf1 zf2 ⊢
 have hS:Sep h (geL h.length) []:=a1q h
 simp only [x95,qe,qc,qd,qa,q5q,zf0,zf1,qq,qb,s5,s9,t5,qr,qn,B0,reduceIte,
   a9]
 refine qg (v:=lst qm cap_0.Log) rfl ?_
 simp only [zy,qb,je,zi,B0,reduceIte,a9]
 refine ju rfl (ql qs (ql qs (ql qs zh))) (xn (fun b hb=>decide_eq_true hb) k_0 0 (t6 cap_0.Log:Int) _ rfl) ?_
 simp only [kh,qb,kz,qd,B0,reduceIte,a9]
 refine jj 10 (fun fr' h'=>Sep h' (geL h.length) ([])∧fr' 21 = .bool ((!(zw k_0 0 (t6 cap_0.Log:Int)))||((decide (cap_0.View.Leader≠cap_1))&&(decide
   (k_0≠0))))) (fun Q1 hN2=>?_) ?_
 ·simp only [t8,a0d]
  simp only [qf (g:=11),B0,reduceIte,a9]
  refine zj (t:=(!(zw k_0 0 (t6 cap_0.Log:Int)))) (fun hg3=>?_) (fun hg3=>?_)
  ·simp only [hg3,qf (g:=11),jr,qf (g:=17),qbp,qx,qb,zo,qa,qo,B0,reduceIte,a9]
   exact hN2 _ _ ⟨hS,by rw [orT hg3]; simp only [B0,reduceIte,a9]⟩
  ·simp only [hg3,qf (g:=11),q8,zf1,qq,qb,s5,s9,t5,qr,qn,B0,reduceIte,a9]
   refine qg (v := .int .i64 cap_0.View.Leader) rfl ?_
   simp only [hg3,qf (g:=11),q8,zf2,qn,B0,reduceIte,a9]
   refine qg (v := .int .i64 cap_1) rfl ?_
   simp only [hg3,qf (g:=11),q8,qv,qb,ya,qd,B0,reduceIte,a9]
   refine jj 3 (fun fr' h'=>Sep h' (geL h.length) ([])∧fr' 20 = .bool ((decide (cap_0.View.Leader≠cap_1))&&(decide (k_0≠0)))∧fr' 11 = .bool (!(zw k_0 0
     (t6 cap_0.Log:Int)))) (fun Q4 hN5=>?_) ?_
   ·simp only [t8,a0d]
    simp only [qf (g:=17),B0,reduceIte,a9]
    refine zj (t:=(decide (cap_0.View.Leader≠cap_1))) (fun hg6=>?_) (fun hg6=>?_)
    ·simp only [hg6,qf (g:=17),zl,zf0,qd,qv,qb,ya,hg3,qf (g:=11),q8,qx,zo,qa,qo,
      B0,reduceIte,a9]
     exact hN5 _ _ ⟨hS,by rw [yk hg6]; simp only [B0,reduceIte,a9],by simp only [hg3,B0,reduceIte,a9]⟩
    ·simp only [hg6,qf (g:=17),jh,hg3,qf (g:=11),q8,qx,qb,zn,qa,qo,B0,reduceIte,a9]
     exact hN5 _ _ ⟨hS,by rw [yj hg6]; simp only [B0,reduceIte,a9],by simp only [hg3,B0,reduceIte,a9]⟩
   rintro fr7 h10 ⟨hS11,f8,f9⟩
   simp only [t9,a0c]
   simp only [f9,hg3,qx,qb,zn,f8,qa,qo,B0,reduceIte,a9]
   exact hN2 _ _ ⟨hS11,by rw [orF hg3]; simp only [B0,reduceIte,a9]⟩
 rintro fr12 h14 ⟨hS15,f13⟩
 simp only [t9,a0c]
 simp only [f13,qd,qa,qw,B0,reduceIte,a9]
 have he:=qh hF
 subst he
 simp only [q9,B0,reduceIte,a9]
 exact rfl
theorem qjm {W:Nat→Bool}{h:Heap} (hW:∀ b,
  (geL h.length) b→W b=true) (l8:Node) (own_1:Int) (o7:Int) (r:Bool)
  (hF:ul l8 own_1 o7=some r) : Ret E W 79 [.agg [.int .i64 l8.View.Epoch,.int .i64 l8.View.Leader,lst cI l8.View.InStep,lst qm l8.Log,
  lst cI l8.Known,.int .i64 l8.Told],.int .i64 own_1,.int .i64 o7] h (fun v h'=>cut h.length h' E.sz false 9 v=some (.bool r)):=by
 refine Ret.of (fn:=x79) rfl (Run.of ?_)
 unfold ul at hF
 have zf0:zb [.agg [.int .i64 l8.View.Epoch,.int .i64 l8.View.Leader,lst cI l8.View.InStep,lst qm l8.Log,lst cI l8.Known,.int .i64 l8.Told],
   .int .i64 own_1,.int .i64 o7] 0 = .agg [.int .i64 l8.View.Epoch,.int .i64 l8.View.Leader,lst cI l8.View.InStep,lst qm l8.Log,lst cI l8.Known,
   .int .i64 l8.Told]:=rfl
 have zf1:zb [.agg [.int .i64 l8.View.Epoch,.int .i64 l8.View.Leader,lst cI l8.View.InStep,lst qm l8.Log,lst cI l8.Known,.int .i64 l8.Told],
   .int .i64 own_1,.int .i64 o7] 1 = .int .i64 own_1:=rfl
 have zf2:zb [.agg [.int .i64 l8.View.Epoch,.int .i64 l8.View.Leader,lst cI l8.View.InStep,lst qm l8.Log,lst cI l8.Known,.int .i64 l8.Told],
   .int .i64 own_1,.int .i64 o7] 2 = .int .i64 o7:=rfl
 generalize zb [.agg [.int .i64 l8.View.Epoch,.int .i64 l8.View.Leader,lst cI l8.View.InStep,lst qm l8.Log,lst cI l8.Known,.int .i64 l8.Told],
   .int .i64 own_1,.int .i64 o7]=fr0 at zf0 zf1 zf2 ⊢
 have hS:Sep h (geL h.length) []:=a1q h
 simp only [x79,qe,qc,j7,zf0,B0,reduceIte,a9]
 refine jm (cs:=[.int .i64 l8.View.Epoch,.int .i64 l8.View.Leader,lst cI l8.View.InStep,lst qm l8.Log,lst cI l8.Known,
   .int .i64 l8.Told]) hS rfl rfl rfl (fun b1 h2 hS3=>?_)
 simp only [j7,zf1,B0,reduceIte,a9]
 refine jm (cs:=[.int .i64 own_1]) hS3 rfl rfl rfl (fun b5 h6 hS7=>?_)
 simp only [qd,qa,B0,reduceIte,a9]
 refine jc (a0l hS7) hW (by simp only [B0,reduceIte,a9]) (fun h9 hS10=>?_)
 refine jc hS10 hW (by simp only [B0,reduceIte,a9]) (fun h11 hS12=>?_)
 simp only [jd,q1t,qe,qc,qq,qb,s5,s9,t5,qr,qn,B0,reduceIte,a9]
 refine qg (v := .agg [.int .i64 l8.View.Epoch,.int .i64 l8.View.Leader,lst cI l8.View.InStep]) rfl ?_
 obtain ⟨v13,hx14,hF15⟩:=qi hF
 simp only [zf2,qd,zi,B0,reduceIte,a9]
 refine ju rfl (ql (jo (ql qs (ql qs (ql z8 zh)))) (ql qs zh)) (qjw
   (fun b hb=>decide_eq_true hb) l8.View o7 v13 hx14) ?_
 simp only [kh,qb,kz,qd,B0,reduceIte,a9]
 obtain ⟨v19,hx20,hF21⟩:=qi hF15
 refine jj 8 (fun fr' h'=>Sep h' (geL h.length) ([])∧fr' 20 = .bool v19∧fr' 2 = .int .i64 o7∧fr' 3 = .ref [.int .i64 l8.View.Epoch,.int .i64 l8.View.Leader,
   lst cI l8.View.InStep,lst qm l8.Log,lst cI l8.Known,.int .i64 l8.Told] 0∧fr' 4 = .ref [.int .i64 own_1] 0) (fun Q16 hN17=>?_) ?_
 ·simp only [t8,a0d]
  simp only [qf (g:=12),B0,reduceIte,a9]
  refine zj (t:=(!v13)) (fun hg18=>?_) (fun hg18=>?_)
  ·rw [iteT hg18] at hx20
   simp only [hg18,qf (g:=12),jr,qx,qb,zo,qa,qo,B0,reduceIte,a9]
   have e22:=qh hx20
   exact hN17 _ _ ⟨hS12,by rw [←e22]; simp only [B0,reduceIte,a9],zf2,rfl,rfl⟩
  ·rw [iteF hg18] at hx20
   simp only [hg18,qf (g:=12),q8,qq,qb,s5,s9,t5,qr,qn,B0,reduceIte,a9]
   refine qg (v:=lst qm l8.Log) rfl ?_
   simp only [hg18,qf (g:=12),q8,qq,qb,s5,s9,t5,qr,qn,B0,reduceIte,a9]
   refine qg (v := .int .i64 l8.View.Epoch) rfl ?_
   obtain ⟨v23,hx24,hF25⟩:=qi hx20
   simp only [hg18,qf (g:=12),q8,zi,B0,reduceIte,a9]
   refine ju rfl (ql z8 (ql qs zh)) (qoe (fun b hb=>decide_eq_true hb) l8.Log l8.View.Epoch v23 hx24) ?_
   simp only [hg18,qf (g:=12),q8,kh,qb,kz,qx,zn,qa,qo,B0,reduceIte,a9]
   have e26:=qh hF25
   exact hN17 _ _ ⟨hS12,by rw [←e26]; simp only [B0,reduceIte,a9],zf2,rfl,rfl⟩
 rintro fr27 h32 ⟨hS33,f28,f29,f30,f31⟩
 simp only [t9,a0c]
 simp only [f28,qd,B0,reduceIte,a9]
 refine jj 6 (fun fr' h'=>Sep h' (geL h.length) ([])∧fr' 27 = .bool (v19||(decide ((t6 l8.Known:Int)≠o7)))∧fr' 3 = .ref [.int .i64 l8.View.Epoch,
   .int .i64 l8.View.Leader,lst cI l8.View.InStep,lst qm l8.Log,lst cI l8.Known,.int .i64 l8.Told] 0∧fr' 4 = .ref [.int .i64 own_1] 0) (fun Q34 hN35=>?_) ?_
 ·simp only [t8,a0d]
  simp only [qf (g:=21),B0,reduceIte,a9]
  refine zj (t:=v19) (fun hg36=>?_) (fun hg36=>?_)
  ·simp only [hg36,qf (g:=21),jr,qx,qb,zo,qa,qo,B0,reduceIte,a9]
   exact hN35 _ _ ⟨hS33,by rw [orT hg36]; simp only [B0,reduceIte,a9],f30,f31⟩
  ·simp only [hg36,qf (g:=21),q8,f30,qq,qb,s5,s9,t5,qr,qn,B0,reduceIte,a9]
   refine qg (v:=lst cI l8.Known) rfl ?_
   simp only [hg36,qf (g:=21),q8,zy,qb,je,f29,qd,qv,ya,qx,zn,qa,qo,B0,reduceIte,
     a9]
   exact hN35 _ _ ⟨hS33,by rw [orF hg36]; simp only [B0,reduceIte,a9],f30,f31⟩
 rintro fr37 h41 ⟨hS42,f38,f39,f40⟩
 simp only [t9,a0c]
 simp only [f38,qd,B0,reduceIte,a9]
 refine jj 8 (fun fr' h'=>Sep h' (geL h.length) ([])∧fr' 36 = .bool ((v19||(decide ((t6 l8.Known:Int)≠o7)))||(!(zw l8.Told 0
   (t6 l8.Log:Int))))∧fr' 3 = .ref [.int .i64 l8.View.Epoch,.int .i64 l8.View.Leader,lst cI l8.View.InStep,lst qm l8.Log,lst cI l8.Known,
   .int .i64 l8.Told] 0∧fr' 4 = .ref [.int .i64 own_1] 0) (fun Q43 hN44=>?_) ?_
 ·simp only [t8,a0d]
  simp only [qf (g:=28),B0,reduceIte,a9]
  refine zj (t:=(v19||(decide ((t6 l8.Known:Int)≠o7)))) (fun hg45=>?_) (fun hg45=>?_)
  ·simp only [hg45,qf (g:=28),jr,qx,qb,zo,qa,qo,B0,reduceIte,a9]
   exact hN44 _ _ ⟨hS42,by rw [orT hg45]; simp only [B0,reduceIte,a9],f39,f40⟩
  ·simp only [hg45,qf (g:=28),q8,f39,qq,qb,s5,s9,t5,qr,qn,B0,reduceIte,a9]
   refine qg (v := .int .i64 l8.Told) rfl ?_
   simp only [hg45,qf (g:=28),q8,f39,qq,qb,s5,s9,t5,qr,qn,B0,reduceIte,a9]
   refine qg (v:=lst qm l8.Log) rfl ?_
   simp only [hg45,qf (g:=28),q8,zy,qb,je,zi,B0,reduceIte,a9]
   refine ju rfl (ql qs (ql qs (ql qs zh))) (xn (fun b hb=>decide_eq_true hb) l8.Told 0 (t6 l8.Log:Int) _ rfl) ?_
   simp only [hg45,qf (g:=28),q8,kh,qb,kz,qx,zn,qa,qo,B0,reduceIte,a9]
   exact hN44 _ _ ⟨hS42,by rw [orF hg45]; simp only [B0,reduceIte,a9],f39,f40⟩
 rintro fr46 h50 ⟨hS51,f47,f48,f49⟩
 simp only [t9,a0c]
 simp only [qa,f47,qy,B0,reduceIte,a9]
 refine qu (t:=((v19||(decide ((t6 l8.Known:Int)≠o7)))||(!(zw l8.Told 0 (t6 l8.Log:Int))))) (fun hc52=>?_) (fun hc52=>?_)
 ·rw [iteT hc52] at hF21
  simp only [qe,qc,qd,qa,qw,B0,reduceIte,a9]
  have he:=qh hF21
  subst he
  simp only [q9,B0,reduceIte,a9]
  exact rfl
 rw [iteF hc52] at hF21
 simp only [zf,q7l,qe,qc,f48,qq,qb,s5,s9,t5,qr,qn,B0,reduceIte,a9]
 refine qg (v:=lst cI l8.Known) rfl ?_
 obtain ⟨v53,hx54,hF55⟩:=qi hF21
 simp only [q9j,f48,f49,zi,B0,reduceIte,a9]
 refine ju rfl (ql z8 (ql qrg zh)) (qgw (fun b hb=>decide_eq_true hb) l8.Known (g1:=95)
   (caps1:=[.ref [.int .i64 l8.View.Epoch,.int .i64 l8.View.Leader,lst cI l8.View.InStep,lst qm l8.Log,lst cI l8.Known,.int .i64 l8.Told] 0,
   .ref [.int .i64 own_1] 0]) rfl (fun a0=>some (wk a0 l8 own_1)) (fun W h hW a0 r hr=>qid hW a0 l8 own_1 r hr) v53 hx54) ?_
 simp only [kh,qb,kz,qd,qa,qw,B0,reduceIte,a9]
 have he:=qh hF55
 subst he
 simp only [q9,B0,reduceIte,a9]
 exact rfl
theorem qkb {W:Nat→Bool}{h:Heap} (hW:∀ b,
  (geL h.length) b→W b=true) (s1_0:List Row) (s2_1:List Row) (r:Bool) (hF:qav s1_0 s2_1=some r) : Ret E W 81 [lst qm s1_0,
  lst qm s2_1] h (fun v h'=>cut h.length h' E.sz false 9 v=some (.bool r)):=by
 refine Ret.of (fn:=x81) rfl (Run.of ?_)
 unfold qav at hF
 have zf0:zb [lst qm s1_0,lst qm s2_1] 0=lst qm s1_0:=rfl
 have zf1:zb [lst qm s1_0,lst qm s2_1] 1=lst qm s2_1:=rfl
 generalize zb [lst qm s1_0,lst qm s2_1]=fr0 at zf0 zf1 ⊢
 have hS:Sep h (geL h.length) []:=a1q h
 simp only [x81,qe,qc,qd,qa,q2j,zf0,zy,qb,je,zf1,qv,ya,qy,B0,reduceIte,a9]
 refine qu (t:=(decide ((t6 s1_0:Int)≠(t6 s2_1:Int)))) (fun hc1=>?_) (fun hc1=>?_)
 ·rw [iteT hc1] at hF
  simp only [qe,qc,qd,qa,qw,B0,reduceIte,a9]
  have he:=qh hF
  subst he
  simp only [q9,B0,reduceIte,a9]
  exact rfl
 rw [iteF hc1] at hF
 simp only [zf,q67,qe,qc,zf0,qd,zy,qb,je,qa,B0,reduceIte,a9]
 obtain ⟨oc4,hX6,hk7⟩:=jy hF
 simp only [qz4]
 refine xd (σ:=Unit) s1_0 (fun i2 x3 _=>qa7 s2_1 i2 x3 ) (fun s fr' h'=>fr' 0=lst qm s1_0∧fr' 1=lst qm s2_1∧Sep h'
   (geL h.length) ([])) hX6 ⟨zf0,zf1,hS⟩ (by simp only [B0,reduceIte,a9]) (by simp only [B0,reduceIte,
   a9]) (fun _ _ _ h=>h) rfl rfl (fun _ _ _ _ h=>h) (fun _ _ _ _ h=>h) (fun _ _ _ _ h=>h) (by decide) ?_ ?_
 ·rintro i2 x3 _ fr16 h17 hx21 ⟨f19,f20,hS18⟩ f22 f23 oc5 hF8 hr9 Q10 hN11 hB15 hK12 hR13 hE14
  unfold qa7 at hF8
  simp only [q7v,qe,qc,f22,qd,qa,q17,js,f19,zv,qk,yv,B0,reduceIte,a9]
  refine qt (v := .ref (qm x3) 0) (xg hx21 rfl) ?_
  simp only [zu,B0,reduceIte,a9]
  refine qt (v := .agg [.int .i64 x3.Epoch,.int .i64 x3.Value]) rfl ?_
  obtain ⟨x24,hx25,hF26⟩:=qi hF8
  simp only [f20,zv,qk,yv,B0,reduceIte,a9]
  refine qt (v := .ref (qm x24) 0) (kw hx25 rfl) ?_
  simp only [zu,B0,reduceIte,a9]
  refine qt (v := .agg [.int .i64 x24.Epoch,.int .i64 x24.Value]) rfl ?_
  simp only [qp8,B0,reduceIte,a9]
  refine qt (v := .bool (!((x3.Epoch == x24.Epoch)&&((x3.Value == x24.Value)&&true)))) rfl ?_
  simp only [zc,qy,B0,reduceIte,a9]
  refine qu (t:=(!((x3.Epoch == x24.Epoch)&&((x3.Value == x24.Value)&&true)))) (fun hc27=>?_) (fun hc27=>?_)
  ·rw [iteT hc27] at hF26
   simp only [qe,qc,qd,qa,qw,B0,reduceIte,a9]
   have e28:=qh hF26
   subst e28
   have ho29:=hr9 _ rfl
   have hk30:=hk7
   rw [ho29] at hk30
   dsimp only [jnO] at hk30
   apply hR13
   have he:=qh hk30
   subst he
   simp only [q9,B0,reduceIte,a9]
   exact rfl
  rw [iteF hc27] at hF26
  simp only [zf,qo,B0,reduceIte,a9]
  have e31:=qh hF26
  exact hN11 _ _ _ e31.symm ⟨f19,f20,hS18⟩ (f22) (f23)
 rintro _ fr33 h34 rfl ⟨f36,f37,hS35⟩
 dsimp only [jnO] at hk7
 unfold qe9 at hk7
 simp only [qe,qc,qd,qa,qw,B0,reduceIte,a9]
 have he:=qh hk7
 subst he
 simp only [q9,B0,reduceIte,a9]
 exact rfl
end Go.Proofs.Ytohofoampalhoaa.X
