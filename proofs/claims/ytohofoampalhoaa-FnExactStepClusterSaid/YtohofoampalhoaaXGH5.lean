/- The functions' code comes to what the plain functions say (5). -/
import Derived.Test.YtohofoampalhoaaXGH4
open Go.IntKind renaming wrap→l4
open List renaming append_assoc→l5,drop_succ_cons→i0,drop_zero→i6,length→f0,nil_append→r7,take_succ_cons→f4,take_zero→i7
open Nat renaming add_zero→e8,reduceAdd→d8,reduceEqDiff→a9,zero_add→d9
open Go.Proofs.Ytohofoampalhoaa.X.Sep renaming bk→o9,dc→o8,m1→n7,m2→l9,m3→l6,m4→n9,nil→a0k
open Go.Proofs.Ytohofoampalhoaa.X.SlF renaming free1→a0n,nil→a2z,one→l7,pf→a1j,snap→a0c
open Go.Proofs.Ytohofoampalhoaa.X.SlN renaming one→a09
set_option linter.unusedVariables false
set_option linter.unusedSimpArgs false
set_option maxRecDepth 100000
namespace Go.Proofs.Ytohofoampalhoaa.X
open Go
theorem qje {W:Nat→Bool}{h:Heap} (hW:∀ b,
  (geL h.length) b→W b=true) (c_0:Cluster) (r:Cluster) (hF:qcg c_0=some r) : Ret E W 64 [.agg [.int .i64 c_0.Truth.Epoch,.int .i64 c_0.Truth.Leader,
  lst cI c_0.Truth.InStep,lst qq c_0.Nodes,lst qg c_0.Acked]] h (fun v h'=>∃ rv0_2 rc0_2 rv0_3 rc0_3 rv0_4 rc0_4,v = .agg [.int .i64 r.Truth.Epoch,
  .int .i64 r.Truth.Leader,rv0_2,rv0_3,
  rv0_4]∧SlF cI 1 3 rv0_2 r.Truth.InStep rc0_2∧SlN Node.R 6 68 rv0_3 r.Nodes rc0_3∧SlF qg 2 92 rv0_4 r.Acked rc0_4∧Sep h' (geL h.length) (rc0_2++(rc0_3 ++
  (rc0_4++([]))))):=by
 refine Ret.of (fn:=x64) rfl (Run.of ?_)
 unfold qcg at hF
 have zf0:zb [.agg [.int .i64 c_0.Truth.Epoch,.int .i64 c_0.Truth.Leader,lst cI c_0.Truth.InStep,lst qq c_0.Nodes,
   lst qg c_0.Acked]] 0 = .agg [.int .i64 c_0.Truth.Epoch,.int .i64 c_0.Truth.Leader,lst cI c_0.Truth.InStep,lst qq c_0.Nodes,lst qg c_0.Acked]:=rfl
 generalize zb [.agg [.int .i64 c_0.Truth.Epoch,.int .i64 c_0.Truth.Leader,lst cI c_0.Truth.InStep,lst qq c_0.Nodes,lst qg c_0.Acked]]=fr0 at zf0 ⊢
 have hS:Sep h (geL h.length) []:=a0k h
 simp only [x64,qc,qd,jp,zf0,B0,reduceIte,a9]
 refine je (cs:=[.int .i64 c_0.Truth.Epoch,.int .i64 c_0.Truth.Leader,lst cI c_0.Truth.InStep,lst qq c_0.Nodes,
   lst qg c_0.Acked]) hS rfl rfl rfl (fun b1 h2 hS3=>?_)
 simp only [kd,B0,reduceIte,a9]
 refine jt hS3 (fun b5 h6 hS7=>?_)
 simp only [qa,B0,reduceIte,a9]
 refine zx (n7 hS7) hW (by simp only [B0,reduceIte,a9]) (fun h9 hS10=>?_)
 simp only [zw,q42,qc,js,qhf,evp,B0,reduceIte,a9]
 refine qd5 (n:=2) (f:=qg) ([] : List Row) hS10 rfl rfl (fun v11 c12 h13 hv14 hS15=>?_)
 simp only [qh4,B0,reduceIte,a9]
 refine qdq hS15 (fun b17 h18 hS19=>?_)
 simp only [jb,ql,d8,d9,e8,qs,zt,B0,reduceIte,a9]
 refine qu (v := .agg [.int .i64 c_0.Truth.Epoch,.int .i64 c_0.Truth.Leader,lst cI c_0.Truth.InStep]) rfl ?_
 obtain ⟨v21,hx22,hF23⟩:=qk hF
 simp only [wg,B0,reduceIte,a9]
 refine qgv rfl hS19 (qi (zv (qi qo (qi qo (qi zk zc)))) zc) (qdt (fun b hb=>decide_eq_true hb) c_0.Truth v21 hx22) ?_
 rintro _ h28 ⟨v24,c25,rfl,hv26,hS29⟩
 refine ⟨_,uz (qm rfl (qm rfl (qm (a0n hv26) zq))),hS29,(jz (a1j hv26 (fun _=>rfl)) yu),fun h30 hS31=>?_⟩
 have hS32:Sep h30 (geL h.length) (c25++([Blk1 b17 [.int .i64 0,.int .i64 0,.nil,.nil,.nil] 28]++(c12++([Blk1 b5 [.int .i64 0,.int .i64 0,.nil,.nil,
   .nil] 28]++([]))))):=by simpa only [l5,r7] using hS31
 simp only [qb2,ql,d8,d9,e8,qs,w9,xy,B0,reduceIte,a9]
 refine qu (v:=lst qg c_0.Acked) rfl ?_
 simp only [qh9,B0,reduceIte,a9]
 obtain ⟨l33,hx34,hF35⟩:=qk hF23
 refine qa6 (f:=qg) hv14 (l9 hS32) hW (fun _=>rfl) (fun _=>rfl) (u9 (fun _=>rfl)) hx34 (fun v36 c37 h38 hv39 hS40=>?_)
 simp only [qi4,evp,B0,reduceIte,a9]
 refine qu (v := .agg [.int .i64 v21.Epoch,.int .i64 v21.Leader,v24,.nil,v36]) (qhn (qfm (us:=[.int .i64 v21.Epoch,.int .i64 v21.Leader,
   v24]) (vs:=[.int .i64 v21.Epoch,.int .i64 v21.Leader,v24,.nil,
   .nil]) rfl rfl (nle rfl) (qm rfl (qm rfl (qm (l7 hv26) zq))) rfl (qfm (us:=[v36]) (vs:=[.int .i64 v21.Epoch,.int .i64 v21.Leader,v24,.nil,
   v36]) (kg (l7 hv39)) rfl (nle rfl) (qm (l7 hv39) zq) rfl qmf))) ?_
 simp only [qcu,B0,reduceIte,a9]
 refine qbb (us:=[.int .i64 v21.Epoch,.int .i64 v21.Leader,v24,.nil,v36]) rfl (cs':=[.int .i64 v21.Epoch,.int .i64 v21.Leader,v24,.nil,
   v36]) (l9 hS40) hW rfl (qm rfl (qm rfl (qm (l7 hv26) (qm rfl (qm (l7 hv39) zq))))) (nle rfl) rfl (fun h42 hS43=>?_)
 simp only [za,q08,qc,qd,qt,qb,d8,d9,e8,qs,qn,B0,reduceIte,a9]
 refine qh (v:=lst qq c_0.Nodes) rfl ?_
 simp only [zy,qb,jd,qf,qa,B0,reduceIte,a9]
 obtain ⟨oc56,hX58,hk59⟩:=ka hF35
 simp only [q8d]
 refine wv (σ:=Cluster) c_0.Nodes (fun i54 x55 s149=>qdp v21 l33 i54 x55 s149) (fun s fr' h'=>∃ v51 c52,
   fr' 2 = .ptr b5 0∧fr' 3 = .ptr b17 0∧fr' 15=lst qq c_0.Nodes∧SlN Node.R 6 68 v51 s.Nodes c52∧Sep h' (geL h.length) ([Blk1 b5 [.int .i64 0,.int .i64 0,
   .nil,.nil,.nil] 28]++([Blk1 b17 [.int .i64 s.Truth.Epoch,.int .i64 s.Truth.Leader,v24,v51,v36] 28]++(c25++(c52++(c37++([]))))))) hX58 ⟨.nil,[],rfl,rfl,
   rfl,SlN.nil,((l6 (l9 (l9 (n7 hS43)))) : Sep _ (geL h.length) ([Blk1 b5 [.int .i64 0,.int .i64 0,.nil,.nil,.nil] 28]++([Blk1 b17 [.int .i64 v21.Epoch,
   .int .i64 v21.Leader,v24,.nil,v36] 28]++(c25++(c37++([]))))))⟩ (by simp only [B0,reduceIte,a9]) (by simp only [B0,reduceIte,
   a9]) (fun _ _ _ h=>h) rfl rfl (fun _ _ _ _ h=>h) (fun _ _ _ _ h=>h) (fun _ _ _ _ h=>h) (by decide) ?_ ?_
 ·rintro i54 x55 s49 fr68 h69 hx74 ⟨v51,c52,f71,f72,f73,hv53,hS70⟩ f75 f76 oc57 hF60 hr61 Q62 hN63 hB67 hK64 hR65 hE66
  unfold qdp at hF60
  simp only [q43,qc,qd,f73,f75,jl,B0,reduceIte,a9]
  refine qh (v := .ref (qq x55) 0) (wx hx74 rfl) ?_
  simp only [qn,B0,reduceIte,a9]
  refine qh (v := .agg [.int .i64 x55.View.Epoch,.int .i64 x55.View.Leader,lst cI x55.View.InStep,lst qg x55.Log,lst cI x55.Known,.int .i64 x55.Told]) rfl ?_
  simp only [kd,B0,reduceIte,a9]
  refine jt hS70 (fun b77 h78 hS79=>?_)
  simp only [zp,B0,reduceIte,a9]
  refine zm (us:=[.int .i64 x55.View.Epoch,.int .i64 x55.View.Leader,lst cI x55.View.InStep,lst qg x55.Log,lst cI x55.Known,
    .int .i64 x55.Told]) rfl (cs':=[.int .i64 x55.View.Epoch,.int .i64 x55.View.Leader,lst cI x55.View.InStep,lst qg x55.Log,lst cI x55.Known,
    .int .i64 x55.Told]) hS79 hW rfl rfl (nle rfl) rfl (fun h81 hS82=>?_)
  simp only [qa,q8a,qc,qd,qt,qb,d8,d9,e8,zd,qn,B0,reduceIte,a9]
  refine qh (v := .agg [.int .i64 x55.View.Epoch,.int .i64 x55.View.Leader,lst cI x55.View.InStep]) ((zu (o9 _ _ _ hS82)).trans rfl) ?_
  obtain ⟨v83,hx84,hF85⟩:=qk hF60
  simp only [zg,B0,reduceIte,a9]
  refine qb1 rfl hS82 (qi (zv (qi qo (qi qo (qi zk zc)))) zc) (qdt (fun b hb=>decide_eq_true hb) x55.View v83 hx84) ?_
  rintro _ h90 ⟨v86,c87,rfl,hv88,hS91⟩
  refine ⟨_,uz (qm rfl (qm rfl (qm (a0n hv88) zq))),hS91,(jz (a1j hv88 (fun _=>rfl)) yu),fun h92 hS93=>?_⟩
  have hS94:Sep h92 (geL h.length) (c87++([Blk1 b77 [.int .i64 x55.View.Epoch,.int .i64 x55.View.Leader,lst cI x55.View.InStep,lst qg x55.Log,lst cI x55.Known,
    .int .i64 x55.Told] 68]++([Blk1 b5 [.int .i64 0,.int .i64 0,.nil,.nil,.nil] 28]++([Blk1 b17 [.int .i64 s49.Truth.Epoch,.int .i64 s49.Truth.Leader,v24,v51,
    v36] 28]++(c25++(c52++(c37++([])))))))):=by simpa only [l5,r7] using hS93
  simp only [qt,qb,d8,d9,e8,zd,zp,B0,reduceIte,a9]
  refine zm (us:=[.int .i64 v83.Epoch,.int .i64 v83.Leader,v86]) rfl (cs':=[.int .i64 v83.Epoch,.int .i64 v83.Leader,v86,lst qg x55.Log,lst cI x55.Known,
    .int .i64 x55.Told]) (n7 hS94) hW rfl (qm rfl (qm rfl (qm (l7 hv88) zq))) (nle rfl) rfl (fun h95 hS96=>?_)
  simp only [qa,q0g,qc,qd,ws,evp,B0,reduceIte,a9]
  refine yp (n:=2) (f:=qg) ([] : List Row) hS96 rfl rfl (fun v97 c98 h99 hv100 hS101=>?_)
  simp only [qt,qb,d8,d9,e8,zd,qn,B0,reduceIte,a9]
  refine qh (v:=lst qg x55.Log) ((jv (o9 _ _ _ (n7 hS101))).trans rfl) ?_
  simp only [um,B0,reduceIte,a9]
  obtain ⟨l103,hx104,hF105⟩:=qk hF85
  refine wm (f:=qg) hv100 hS101 hW (fun _=>rfl) (fun _=>rfl) (u9 (fun _=>rfl)) hx104 (fun v106 c107 h108 hv109 hS110=>?_)
  simp only [qt,qb,d8,d9,e8,zd,zp,B0,reduceIte,a9]
  refine zm (us:=[v106]) (kg (l7 hv109)) (cs':=[.int .i64 v83.Epoch,.int .i64 v83.Leader,v86,v106,lst cI x55.Known,
    .int .i64 x55.Told]) (n7 hS110) hW rfl (qm (l7 hv109) zq) (nle rfl) rfl (fun h112 hS113=>?_)
  simp only [qa,q6v,qc,qd,ws,evp,B0,reduceIte,a9]
  refine yp (n:=1) (f:=cI) ([] : List Int) hS113 rfl rfl (fun v114 c115 h116 hv117 hS118=>?_)
  simp only [qt,qb,d8,d9,e8,zd,qn,B0,reduceIte,a9]
  refine qh (v:=lst cI x55.Known) ((jv (o9 _ _ _ (n7 hS118))).trans rfl) ?_
  simp only [um,B0,reduceIte,a9]
  obtain ⟨l120,hx121,hF122⟩:=qk hF105
  refine wm (f:=cI) hv117 hS118 hW (fun _=>rfl) (fun _=>rfl) (u9 (fun _=>rfl)) hx121 (fun v123 c124 h125 hv126 hS127=>?_)
  simp only [qt,qb,d8,d9,e8,zd,zp,B0,reduceIte,a9]
  refine zm (us:=[v123]) (kg (l7 hv126)) (cs':=[.int .i64 v83.Epoch,.int .i64 v83.Leader,v86,v106,v123,
    .int .i64 x55.Told]) (n7 hS127) hW rfl (qm (l7 hv126) zq) (nle rfl) rfl (fun h129 hS130=>?_)
  simp only [qa,q2r,qd,f72,qt,qb,d8,d9,e8,zd,qn,B0,reduceIte,a9]
  refine qh (v:=v51) ((jv (o9 _ _ _ (Sep.m5 hS130))).trans rfl) ?_
  simp only [qn,B0,reduceIte,a9]
  refine qh (v := .agg [.int .i64 v83.Epoch,.int .i64 v83.Leader,v86,v106,v123,.int .i64 x55.Told]) ((zu (o9 _ _ _ hS130)).trans rfl) ?_
  simp only [ws,evp,B0,reduceIte,a9]
  refine qj7 (R:=Node.R) (n:=6) (cs:=[.int .i64 v83.Epoch,.int .i64 v83.Leader,v86,v106,v123,
    .int .i64 x55.Told]) (os:=c87++(c107++(c124))) (Sep.bi3 (c1:=c87) (c2:=c107) (c3:=c124) (l6 (l9 (n7 hS130)))) (qfm (us:=[.int .i64 v83.Epoch,
    .int .i64 v83.Leader,v86,v106,v123,.int .i64 x55.Told]) (vs:=[.int .i64 v83.Epoch,.int .i64 v83.Leader,v86,v106,v123,
    .int .i64 x55.Told]) rfl rfl (nle rfl) (qm rfl (qm rfl (qm (l7 hv88) (qm (l7 hv109) (qm (l7 hv126) (qm rfl zq)))))) rfl qmf)
    (Node.RI (x:=(Node.mk v83 l103 l120 x55.Told)) hv88 hv109 hv126) rfl (fun v131 c132 h133 hv134 hS135=>?_)
  simp only [um,B0,reduceIte,a9]
  obtain ⟨l137,hx138,hF139⟩:=qk hF122
  refine qnm (R:=Node.R) (c:=c52) hv53 hv134 (Sep.m5 hS135) hW Node.RO.len Node.RO.one hx138 (fun v140 c141 h142 hv143 hS144=>?_)
  simp only [f72,qt,qb,d8,d9,e8,zd,zp,B0,reduceIte,a9]
  refine zm (us:=[v140]) (kg (a09 hv143)) (cs':=[.int .i64 s49.Truth.Epoch,.int .i64 s49.Truth.Leader,v24,v140,
    v36]) (l6 hS144) hW rfl (qm (a09 hv143) zq) (nle rfl) rfl (fun h146 hS147=>?_)
  simp only [qa,qp,B0,reduceIte,a9]
  have e148:=qj hF139
  exact hN63 _ _ _ e148.symm ⟨v140,c141,f71,f72,f73,hv143,(n9 (l6 (n9 (l9 (n9 (o8 (l9 hS147)))))))⟩ (f75) (f76)
 rintro s150 fr155 h156 rfl ⟨v152,c153,f158,f159,f160,hv154,hS157⟩
 dsimp only [jnO] at hk59
 unfold qh2 at hk59
 simp only [qc,qd,f159,qn,B0,reduceIte,a9]
 refine qh (v := .agg [.int .i64 s150.Truth.Epoch,.int .i64 s150.Truth.Leader,v24,v152,v36]) ((zu (o9 _ _ _ (n7 hS157))).trans rfl) ?_
 simp only [f158,zp,B0,reduceIte,a9]
 refine zm (us:=[.int .i64 s150.Truth.Epoch,.int .i64 s150.Truth.Leader,v24,v152,v36]) rfl (cs':=[.int .i64 s150.Truth.Epoch,.int .i64 s150.Truth.Leader,v24,
   v152,v36]) hS157 hW rfl (qm rfl (qm rfl (qm (l7 hv26) (qm (a09 hv154) (qm (l7 hv39) zq))))) (nle rfl) rfl (fun h161 hS162=>?_)
 simp only [qa,qx,B0,reduceIte,a9]
 have he:=qj hk59
 subst he
 refine yo (bb:=b5) (oo:=0) (v := .agg [.int .i64 s150.Truth.Epoch,.int .i64 s150.Truth.Leader,v24,v152,v36]) (by simp only [f158,B0,reduceIte,
   a9]) ((zu (o9 _ _ _ hS162)).trans rfl) ?_
 exact ⟨v24,c25,v152,c153,v36,c37,by first | trivial | rfl,hv26,hv154,hv39,(l9 (l9 (l9 (o8 ((o8 (hS162)))))))⟩
theorem qjx {W:Nat→Bool}{h:Heap} (hW:∀ b,
  (geL h.length) b→W b=true) (k:Nat) (c_0:Cluster) (x_1:ClusterStep) (r:Cluster × Bool)
  (hF:qao k c_0 x_1=some r) : Ret E W 34 [.agg [.int .i64 c_0.Truth.Epoch,.int .i64 c_0.Truth.Leader,lst cI c_0.Truth.InStep,lst qq c_0.Nodes,
  lst qg c_0.Acked],.agg [.int .i64 x_1.Kind,.int .i64 x_1.K,.int .i64 x_1.To,.int .i64 x_1.N]] h (fun v h'=>∃ rv0_2 rc0_2 rv0_3 rc0_3 rv0_4 rc0_4,
  v = .tup [.agg [.int .i64 r.1.Truth.Epoch,.int .i64 r.1.Truth.Leader,rv0_2,rv0_3,rv0_4],
  .bool r.2]∧SlF cI 1 3 rv0_2 r.1.Truth.InStep rc0_2∧SlN Node.R 6 68 rv0_3 r.1.Nodes rc0_3∧SlF qg 2 92 rv0_4 r.1.Acked rc0_4∧Sep h' (geL h.length) (rc0_2 ++
  (rc0_3++(rc0_4++([]))))):=by
 refine Ret.of (fn:=x34) rfl (Run.of ?_)
 unfold qao at hF
 have zf0:zb [.agg [.int .i64 c_0.Truth.Epoch,.int .i64 c_0.Truth.Leader,lst cI c_0.Truth.InStep,lst qq c_0.Nodes,lst qg c_0.Acked],
   .agg [.int .i64 x_1.Kind,.int .i64 x_1.K,.int .i64 x_1.To,.int .i64 x_1.N]] 0 = .agg [.int .i64 c_0.Truth.Epoch,.int .i64 c_0.Truth.Leader,lst cI c_0.Truth.InStep,
   lst qq c_0.Nodes,lst qg c_0.Acked]:=rfl
 have zf1:zb [.agg [.int .i64 c_0.Truth.Epoch,.int .i64 c_0.Truth.Leader,lst cI c_0.Truth.InStep,lst qq c_0.Nodes,lst qg c_0.Acked],
   .agg [.int .i64 x_1.Kind,.int .i64 x_1.K,.int .i64 x_1.To,.int .i64 x_1.N]] 1 = .agg [.int .i64 x_1.Kind,.int .i64 x_1.K,.int .i64 x_1.To,.int .i64 x_1.N]:=rfl
 generalize zb [.agg [.int .i64 c_0.Truth.Epoch,.int .i64 c_0.Truth.Leader,lst cI c_0.Truth.InStep,lst qq c_0.Nodes,lst qg c_0.Acked],
   .agg [.int .i64 x_1.Kind,.int .i64 x_1.K,.int .i64 x_1.To,.int .i64 x_1.N]]=fr0 at zf0 zf1 ⊢
 have hS:Sep h (geL h.length) []:=a0k h
 simp only [x34,qc,qd,jp,zf0,B0,reduceIte,a9]
 refine je (cs:=[.int .i64 c_0.Truth.Epoch,.int .i64 c_0.Truth.Leader,lst cI c_0.Truth.InStep,lst qq c_0.Nodes,
   lst qg c_0.Acked]) hS rfl rfl rfl (fun b1 h2 hS3=>?_)
 simp only [jp,zf1,B0,reduceIte,a9]
 refine je (cs:=[.int .i64 x_1.Kind,.int .i64 x_1.K,.int .i64 x_1.To,.int .i64 x_1.N]) hS3 rfl rfl rfl (fun b5 h6 hS7=>?_)
 simp only [kd,B0,reduceIte,a9]
 refine jt hS7 (fun b9 h10 hS11=>?_)
 simp only [qf,qa,B0,reduceIte,a9]
 refine zx (l9 hS11) hW (by simp only [B0,reduceIte,a9]) (fun h13 hS14=>?_)
 refine zx (n7 hS14) hW (by simp only [B0,reduceIte,a9]) (fun h15 hS16=>?_)
 simp only [zw,q3j,qc,qd,qn,B0,reduceIte,a9]
 refine qh (v := .agg [.int .i64 c_0.Truth.Epoch,.int .i64 c_0.Truth.Leader,lst cI c_0.Truth.InStep,lst qq c_0.Nodes,lst qg c_0.Acked]) rfl ?_
 obtain ⟨v17,hx18,hF19⟩:=qk hF
 simp only [zg,B0,reduceIte,a9]
 refine jo rfl (qi (zv (qi qo (qi qo (qi zk (qi zk (qi zk zc)))))) zc) (qfs
   (fun b hb=>decide_eq_true hb) k c_0 v17 hx18) ?_
 simp only [j8,qb,ko,qa,q1u,q9,B0,reduceIte,a9]
 refine qy (t:=(!v17)) (fun hc20=>?_) (fun hc20=>?_)
 ·rw [iteT hc20] at hF19
  simp only [qc,qd,run_build,evp,B0,reduceIte,a9]
  refine qh (v := .agg [.int .i64 0,.int .i64 0,.nil,.nil,.nil]) rfl ?_
  simp only [zp,B0,reduceIte,a9]
  refine zm (us:=[.int .i64 0,.int .i64 0,.nil,.nil,.nil]) rfl (cs':=[.int .i64 0,.int .i64 0,.nil,.nil,
    .nil]) hS16 hW rfl rfl (nle rfl) rfl (fun h21 hS22=>?_)
  simp only [qf,qa,qx,B0,reduceIte,a9]
  have he:=qj hF19
  subst he
  refine jy (qi (j7 (bb:=b9) (oo:=0) (v := .agg [.int .i64 0,.int .i64 0,.nil,.nil,
    .nil]) (rfl) ((zu (o9 _ _ _ hS22)).trans rfl)) (qi (ye (v := .bool false) (rfl)) zc)) ?_
  exact ⟨.nil,[],.nil,[],.nil,[],by first | trivial | rfl,a2z,SlN.nil,a2z,((o8 (hS22)) : Sep _ (geL h.length) ([]))⟩
 rw [iteF hc20] at hF19
 simp only [zh,q3v,qc,js,qh4,B0,reduceIte,a9]
 refine qdq hS16 (fun b23 h24 hS25=>?_)
 simp only [zt,B0,reduceIte,a9]
 refine qu (v := .agg [.int .i64 c_0.Truth.Epoch,.int .i64 c_0.Truth.Leader,lst cI c_0.Truth.InStep,lst qq c_0.Nodes,lst qg c_0.Acked]) rfl ?_
 obtain ⟨v27,hx28,hF29⟩:=qk hF19
 simp only [wg,B0,reduceIte,a9]
 refine qgv rfl hS25 (qi (zv (qi qo (qi qo (qi zk (qi zk (qi zk zc)))))) zc) (qje
   (fun b hb=>decide_eq_true hb) c_0 v27 hx28) ?_
 rintro _ h42 ⟨v30,c31,v34,c35,v38,c39,rfl,hv32,hv36,hv40,hS43⟩
 refine ⟨_,uz (qm rfl (qm rfl (qm (a0n hv32) (qm (SlN.free1 hv36) (qm (a0n hv40) zq))))),hS43,
   (jz (a1j hv32 (fun _=>rfl)) (jz (SlN.pf hv36 Node.RO) (jz (a1j hv40 (fun _=>rfl)) yu))),fun h44 hS45=>?_⟩
 have hS46:Sep h44 (geL h.length) (c31++(c35++(c39++([Blk1 b23 [.int .i64 0,.int .i64 0,.nil,.nil,.nil] 28]++([Blk1 b9 [.int .i64 0,.int .i64 0,.nil,.nil,
   .nil] 28]++([])))))):=by simpa only [l5,r7] using hS45
 simp only [w9,xy,B0,reduceIte,a9]
 refine qu (v := .agg [.int .i64 x_1.Kind,.int .i64 x_1.K,.int .i64 x_1.To,.int .i64 x_1.N]) rfl ?_
 obtain ⟨v47,hx48,hF49⟩:=qk hF29
 simp only [ki,B0,reduceIte,a9]
 refine quc rfl (qm3 hW k v27 v30 c31 hv32 v34 c35 hv36 v38 c39 hv40 x_1 v47 hx48 (l9 (l9 (l9 hS46)))) ?_
 rintro _ h60 ⟨v50,c51,c54,v56,c57,rfl,hv52,hv55,hv58,hS61⟩
 simp only [zr,ql,qjz,qcd,qml,qcb,qcu,B0,reduceIte,a9]
 refine qbb (us:=[.int .i64 v47.1.Truth.Epoch,.int .i64 v47.1.Truth.Leader,v50,v34,v56]) rfl (cs':=[.int .i64 v47.1.Truth.Epoch,.int .i64 v47.1.Truth.Leader,v50,
   v34,v56]) (l6 hS61) hW rfl (qm rfl (qm rfl (qm (l7 hv52) (qm (a09 hv55) (qm (l7 hv58) zq))))) (nle rfl) rfl (fun h62 hS63=>?_)
 simp only [zr,ql,za,B0,reduceIte,a9]
 refine zx hS63 hW (by simp only [B0,reduceIte,a9]) (fun h64 hS65=>?_)
 simp only [zw,q55,qc,qd,qf,j8,qb,ko,B0,reduceIte,a9]
 obtain ⟨v69,hx70,hF71⟩:=qk hF49
 refine ji 4 (fun fr' h'=>Sep h' (geL h.length) ([Blk1 b9 [.int .i64 0,.int .i64 0,.nil,.nil,
   .nil] 28]++(c51++(c54++(c57++([])))))∧fr' 25 = .bool v69∧fr' 4 = .ptr b9 0∧fr' 6 = .ref [.int .i64 v47.1.Truth.Epoch,.int .i64 v47.1.Truth.Leader,v50,v34,
   v56] 0) (fun Q66 hN67=>?_) ?_
 ·simp only [f4,i7]
  simp only [qe (g:=21),B0,reduceIte,a9]
  refine ze (t:=(!v47.2)) (fun hg68=>?_) (fun hg68=>?_)
  ·rw [iteT hg68] at hx70
   simp only [hg68,qe (g:=21),jk,qw,qb,zo,qa,qp,B0,reduceIte,a9]
   have e72:=qj hx70
   exact hN67 _ _ ⟨(l6 (l9 (l9 (l9 hS65)))),by rw [←e72]; simp only [B0,reduceIte,a9],rfl,rfl⟩
  ·rw [iteF hg68] at hx70
   simp only [hg68,qe (g:=21),qv,qn,B0,reduceIte,a9]
   refine qh (v := .agg [.int .i64 v47.1.Truth.Epoch,.int .i64 v47.1.Truth.Leader,v50,v34,v56]) rfl ?_
   obtain ⟨v73,hx74,hF75⟩:=qk hx70
   simp only [hg68,qe (g:=21),qv,zg,B0,reduceIte,a9]
   refine jo rfl (qi (zv (qi qo (qi qo (qi (a0c hv52 hS65 rfl (fun _=>rfl) (fun _=>rfl)) (qi (SlN.snap hv55 _
     (n7 hS65) rfl Node.RO) (qi (a0c hv58 (l9 hS65) rfl (fun _=>rfl) (fun _=>rfl)) zc)))))) zc) (qfs
     (fun b hb=>decide_eq_true hb) k v47.1 v73 hx74) ?_
   simp only [hg68,qe (g:=21),qv,j8,qb,ko,qw,zn,qa,qp,B0,reduceIte,a9]
   have e76:=qj hF75
   exact hN67 _ _ ⟨(l6 (l9 (l9 (l9 hS65)))),by rw [←e76]; simp only [B0,reduceIte,a9],rfl,rfl⟩
 rintro fr77 h81 ⟨hS82,f78,f79,f80⟩
 simp only [i0,i6]
 simp only [qa,qzy,f78,q9,B0,reduceIte,a9]
 refine qy (t:=v69) (fun hc83=>?_) (fun hc83=>?_)
 ·rw [iteT hc83] at hF71
  simp only [qc,qd,run_build,evp,B0,reduceIte,a9]
  refine qh (v := .agg [.int .i64 0,.int .i64 0,.nil,.nil,.nil]) rfl ?_
  simp only [f79,zp,B0,reduceIte,a9]
  refine zm (us:=[.int .i64 0,.int .i64 0,.nil,.nil,.nil]) rfl (cs':=[.int .i64 0,.int .i64 0,.nil,.nil,
    .nil]) hS82 hW rfl rfl (nle rfl) rfl (fun h84 hS85=>?_)
  simp only [qf,qa,qx,B0,reduceIte,a9]
  have he:=qj hF71
  subst he
  refine jy (qi (j7 (bb:=b9) (oo:=0) (v := .agg [.int .i64 0,.int .i64 0,.nil,.nil,
    .nil]) (f79) ((zu (o9 _ _ _ hS85)).trans rfl)) (qi (ye (v := .bool false) (rfl)) zc)) ?_
  exact ⟨.nil,[],.nil,[],.nil,[],by first | trivial | rfl,a2z,SlN.nil,a2z,((o8 ((o8 ((o8 ((o8 (hS85)))))))) : Sep _ (geL h.length) ([]))⟩
 rw [iteF hc83] at hF71
 simp only [zh,qz1,qc,qd,f80,qn,B0,reduceIte,a9]
 refine qh (v := .agg [.int .i64 v47.1.Truth.Epoch,.int .i64 v47.1.Truth.Leader,v50,v34,v56]) rfl ?_
 obtain ⟨v86,hx87,hF88⟩:=qk hF71
 simp only [zg,B0,reduceIte,a9]
 refine qb1 rfl hS82 (qi (zv (qi qo (qi qo (qi (a0c hv52 (n7 hS82) rfl (fun _=>rfl) (fun _=>rfl)) (qi (SlN.snap hv55 _
   (l9 hS82) rfl Node.RO) (qi (a0c hv58 (l6 hS82) rfl (fun _=>rfl) (fun _=>rfl)) zc)))))) zc) (qje
   (fun b hb=>decide_eq_true hb) v47.1 v86 hx87) ?_
 rintro _ h101 ⟨v89,c90,v93,c94,v97,c98,rfl,hv91,hv95,hv99,hS102⟩
 refine ⟨_,uz (qm rfl (qm rfl (qm (a0n hv91) (qm (SlN.free1 hv95) (qm (a0n hv99) zq))))),hS102,
   (jz (a1j hv91 (fun _=>rfl)) (jz (SlN.pf hv95 Node.RO) (jz (a1j hv99 (fun _=>rfl)) yu))),fun h103 hS104=>?_⟩
 have hS105:Sep h103 (geL h.length) (c90++(c94++(c98++([Blk1 b9 [.int .i64 0,.int .i64 0,.nil,.nil,
   .nil] 28]++(c51++(c54++(c57++([])))))))):=by simpa only [l5,r7] using hS104
 simp only [f79,zp,B0,reduceIte,a9]
 refine zm (us:=[.int .i64 v86.Truth.Epoch,.int .i64 v86.Truth.Leader,v89,v93,v97]) rfl (cs':=[.int .i64 v86.Truth.Epoch,.int .i64 v86.Truth.Leader,v89,v93,
   v97]) (l6 hS105) hW rfl (qm rfl (qm rfl (qm (l7 hv91) (qm (a09 hv95) (qm (l7 hv99) zq))))) (nle rfl) rfl (fun h106 hS107=>?_)
 simp only [qf,qa,qx,B0,reduceIte,a9]
 have he:=qj hF88
 subst he
 refine jy (qi (j7 (bb:=b9) (oo:=0) (v := .agg [.int .i64 v86.Truth.Epoch,.int .i64 v86.Truth.Leader,v89,v93,
   v97]) (f79) ((zu (o9 _ _ _ hS107)).trans rfl)) (qi (ye (v := .bool true) (rfl)) zc)) ?_
 exact ⟨v89,c90,v93,c94,v97,c98,by first | trivial | rfl,hv91,hv95,hv99,
   (l9 (l9 (l9 (o8 (l6 (o8 (l6 (o8 (l6 (o8 (hS107)))))))))))⟩
theorem qb0 {W:Nat→Bool}{h:Heap} (hW:∀ b,
  (geL h.length) b→W b=true) (a_0:ClusterStep) (r:ClusterStep) (hF:some (yk a_0)=some r) : Ret E W 35 [.agg [.int .i64 a_0.Kind,.int .i64 a_0.K,
  .int .i64 a_0.To,.int .i64 a_0.N]] h (fun v h'=>cut h.length h' E.sz false 9 v=some (.agg [.int .i64 r.Kind,.int .i64 r.K,.int .i64 r.To,.int .i64 r.N])):=by
 refine Ret.of (fn:=x35) rfl (Run.of ?_)
 unfold yk at hF
 have zf0:zb [.agg [.int .i64 a_0.Kind,.int .i64 a_0.K,.int .i64 a_0.To,.int .i64 a_0.N]] 0 = .agg [.int .i64 a_0.Kind,.int .i64 a_0.K,.int .i64 a_0.To,
   .int .i64 a_0.N]:=rfl
 generalize zb [.agg [.int .i64 a_0.Kind,.int .i64 a_0.K,.int .i64 a_0.To,.int .i64 a_0.N]]=fr0 at zf0 ⊢
 have hS:Sep h (geL h.length) []:=a0k h
 simp only [x35,qc,qd,jp,zf0,B0,reduceIte,a9]
 refine je (cs:=[.int .i64 a_0.Kind,.int .i64 a_0.K,.int .i64 a_0.To,.int .i64 a_0.N]) hS rfl rfl rfl (fun b1 h2 hS3=>?_)
 simp only [kd,B0,reduceIte,a9]
 refine jt hS3 (fun b5 h6 hS7=>?_)
 simp only [qa,B0,reduceIte,a9]
 refine zx (n7 hS7) hW (by simp only [B0,reduceIte,a9]) (fun h9 hS10=>?_)
 simp only [zw,q2j,qc,qd,kd,B0,reduceIte,a9]
 refine jt hS10 (fun b11 h12 hS13=>?_)
 simp only [qa,q5t,qc,qd,qt,qb,d8,d9,e8,qs,qn,B0,reduceIte,a9]
 refine qh (v := .int .i64 a_0.Kind) rfl ?_
 simp only [qt,qb,d8,d9,e8,zd,zp,B0,reduceIte,a9]
 refine zm (us:=[.int .i64 a_0.Kind]) rfl (cs':=[.int .i64 a_0.Kind,.int .i64 0,.int .i64 0,.int .i64 0]) hS13 hW rfl rfl (nle rfl) rfl (fun h15 hS16=>?_)
 simp only [qa,q4m,qc,qd,qt,qb,d8,d9,e8,qs,qn,B0,reduceIte,a9]
 refine qh (v := .int .i64 a_0.K) rfl ?_
 simp only [qt,qb,d8,d9,e8,zd,zp,B0,reduceIte,a9]
 refine zm (us:=[.int .i64 a_0.K]) rfl (cs':=[.int .i64 a_0.Kind,.int .i64 a_0.K,.int .i64 0,.int .i64 0]) hS16 hW rfl rfl (nle rfl) rfl (fun h17 hS18=>?_)
 simp only [qa,q12,qc,qd,qt,qb,d8,d9,e8,qs,qn,B0,reduceIte,a9]
 refine qh (v := .int .i64 a_0.To) rfl ?_
 simp only [qt,qb,d8,d9,e8,zd,zp,B0,reduceIte,a9]
 refine zm (us:=[.int .i64 a_0.To]) rfl (cs':=[.int .i64 a_0.Kind,.int .i64 a_0.K,.int .i64 a_0.To,.int .i64 0]) hS18 hW rfl rfl (nle rfl) rfl (fun h19 hS20=>?_)
 simp only [qa,qyr,qc,qd,qt,qb,d8,d9,e8,qs,qn,B0,reduceIte,a9]
 refine qh (v := .int .i64 a_0.N) rfl ?_
 simp only [qt,qb,d8,d9,e8,zd,zp,B0,reduceIte,a9]
 refine zm (us:=[.int .i64 a_0.N]) rfl (cs':=[.int .i64 a_0.Kind,.int .i64 a_0.K,.int .i64 a_0.To,
   .int .i64 a_0.N]) hS20 hW rfl rfl (nle rfl) rfl (fun h21 hS22=>?_)
 simp only [qa,qc,qd,qn,B0,reduceIte,a9]
 refine qh (v := .agg [.int .i64 a_0.Kind,.int .i64 a_0.K,.int .i64 a_0.To,.int .i64 a_0.N]) ((zu (o9 _ _ _ hS22)).trans rfl) ?_
 simp only [zp,B0,reduceIte,a9]
 refine zm (us:=[.int .i64 a_0.Kind,.int .i64 a_0.K,.int .i64 a_0.To,.int .i64 a_0.N]) rfl (cs':=[.int .i64 a_0.Kind,.int .i64 a_0.K,.int .i64 a_0.To,
   .int .i64 a_0.N]) (n7 hS22) hW rfl rfl (nle rfl) rfl (fun h23 hS24=>?_)
 simp only [qa,qx,B0,reduceIte,a9]
 have he:=qj hF
 subst he
 refine yo (bb:=b5) (oo:=0) (v := .agg [.int .i64 a_0.Kind,.int .i64 a_0.K,.int .i64 a_0.To,.int .i64 a_0.N]) (by simp only [B0,reduceIte,
   a9]) ((zu (o9 _ _ _ hS24)).trans rfl) ?_
 exact (qqx (qi rfl (qi rfl (qi rfl (qi rfl zc)))))
theorem uc {W:Nat→Bool}{h:Heap} (hW:∀ b,
  (geL h.length) b→W b=true) (n_0:Int) (low_1:Int) (high_2:Int) (r:Bool) (hF:some (jc n_0 low_1 high_2)=some r) : Ret E W 39 [.int .i64 n_0,
  .int .i64 low_1,.int .i64 high_2] h (fun v h'=>cut h.length h' E.sz false 9 v=some (.bool r)):=by
 refine Ret.of (fn:=x39) rfl (Run.of ?_)
 unfold jc at hF
 have zf0:zb [.int .i64 n_0,.int .i64 low_1,.int .i64 high_2] 0 = .int .i64 n_0:=rfl
 have zf1:zb [.int .i64 n_0,.int .i64 low_1,.int .i64 high_2] 1 = .int .i64 low_1:=rfl
 have zf2:zb [.int .i64 n_0,.int .i64 low_1,.int .i64 high_2] 2 = .int .i64 high_2:=rfl
 generalize zb [.int .i64 n_0,.int .i64 low_1,.int .i64 high_2]=fr0 at zf0 zf1 zf2 ⊢
 have hS:Sep h (geL h.length) []:=a0k h
 simp only [x39,qc,qd,qf,qa,q58,zf0,zf1,qz,qb,qd9,B0,reduceIte,a9]
 refine ji 4 (fun fr' h'=>Sep h' (geL h.length) ([])∧fr' 14 = .bool ((decide (low_1≤n_0))&&(decide (n_0≤high_2)))) (fun Q1 hN2=>?_) ?_
 ·simp only [f4,i7]
  simp only [qe (g:=10),B0,reduceIte,a9]
  refine ze (t:=(decide (low_1≤n_0))) (fun hg3=>?_) (fun hg3=>?_)
  ·simp only [hg3,qe (g:=10),zi,zf0,qf,zf2,qz,qb,qm1,qw,zo,qa,qp,B0,reduceIte,a9]
   exact hN2 _ _ ⟨hS,by rw [yb hg3]; simp only [B0,reduceIte,a9]⟩
  ·simp only [hg3,qe (g:=10),jj,qw,qb,zn,qa,qp,B0,reduceIte,a9]
   exact hN2 _ _ ⟨hS,by rw [yd hg3]; simp only [B0,reduceIte,a9]⟩
 rintro fr4 h6 ⟨hS7,f5⟩
 simp only [i0,i6]
 simp only [f5,qf,qa,qx,B0,reduceIte,a9]
 have he:=qj hF
 subst he
 simp only [q8,B0,reduceIte,a9]
 exact rfl
theorem qka {W:Nat→Bool}{h:Heap} (hW:∀ b,
  (geL h.length) b→W b=true) (s_0:List Int) (v_1:Int) (r:Int) (hF:qb3 s_0 v_1=some r) : Ret E W 96 [lst cI s_0,
  .int .i64 v_1] h (fun v h'=>cut h.length h' E.sz false 9 v=some (.int .i64 r)):=by
 refine Ret.of (fn:=x96) rfl (Run.of ?_)
 unfold qb3 at hF
 have zf0:zb [lst cI s_0,.int .i64 v_1] 0=lst cI s_0:=rfl
 have zf1:zb [lst cI s_0,.int .i64 v_1] 1 = .int .i64 v_1:=rfl
 generalize zb [lst cI s_0,.int .i64 v_1]=fr0 at zf0 zf1 ⊢
 have hS:Sep h (geL h.length) []:=a0k h
 simp only [x96,qc,qd,qf,qa,qzo,zf0,zy,qb,jd,B0,reduceIte,a9]
 obtain ⟨oc3,hX5,hk6⟩:=ka hF
 simp only [q0b]
 refine wv (σ:=Unit) s_0 (fun i1 x2 _=>xm v_1 i1 x2 ) (fun s fr' h'=>fr' 0=lst cI s_0∧fr' 1 = .int .i64 v_1∧Sep h' (geL h.length)
   ([])) hX5 ⟨zf0,zf1,hS⟩ (by simp only [B0,reduceIte,a9]) (by simp only [B0,reduceIte,
   a9]) (fun _ _ _ h=>h) rfl rfl (fun _ _ _ _ h=>h) (fun _ _ _ _ h=>h) (fun _ _ _ _ h=>h) (by decide) ?_ ?_
 ·rintro i1 x2 _ fr15 h16 hx20 ⟨f18,f19,hS17⟩ f21 f22 oc4 hF7 hr8 Q9 hN10 hB14 hK11 hR12 hE13
  unfold xm at hF7
  simp only [q27,qc,qd,f21,qf,qa,qys,f19,f18,jl,B0,reduceIte,a9]
  refine qh (v := .ref (cI x2) 0) (wx hx20 rfl) ?_
  simp only [qn,B0,reduceIte,a9]
  refine qh (v := .int .i64 x2) rfl ?_
  simp only [qz,qb,k6,qa,q57,q9,B0,reduceIte,a9]
  refine qy (t:=(decide (v_1=x2))) (fun hc23=>?_) (fun hc23=>?_)
  ·rw [iteT hc23] at hF7
   simp only [qc,qd,qf,qa,qx,B0,reduceIte,a9]
   have e24:=qj hF7
   subst e24
   have ho25:=hr8 _ rfl
   have hk26:=hk6
   rw [ho25] at hk26
   dsimp only [jnO] at hk26
   apply hR12
   have he:=qj hk26
   subst he
   simp only [q8,B0,reduceIte,a9]
   exact rfl
  rw [iteF hc23] at hF7
  simp only [zh,qp,B0,reduceIte,a9]
  have e27:=qj hF7
  exact hN10 _ _ _ e27.symm ⟨f18,f19,hS17⟩ (f21) (f22)
 rintro _ fr29 h30 rfl ⟨f32,f33,hS31⟩
 dsimp only [jnO] at hk6
 unfold qe5 at hk6
 simp only [qc,qd,qf,qa,qx,B0,reduceIte,a9]
 have he:=qj hk6
 subst he
 simp only [q8,B0,reduceIte,a9]
 exact rfl
theorem qbv {W:Nat→Bool}{h:Heap} (hW:∀ b,
  (geL h.length) b→W b=true) (s_0:List Int) (v_1:Int) (r:Bool) (hF:yx s_0 v_1=some r) : Ret E W 80 [lst cI s_0,
  .int .i64 v_1] h (fun v h'=>cut h.length h' E.sz false 9 v=some (.bool r)):=by
 refine Ret.of (fn:=x80) rfl (Run.of ?_)
 unfold yx at hF
 have zf0:zb [lst cI s_0,.int .i64 v_1] 0=lst cI s_0:=rfl
 have zf1:zb [lst cI s_0,.int .i64 v_1] 1 = .int .i64 v_1:=rfl
 generalize zb [lst cI s_0,.int .i64 v_1]=fr0 at zf0 zf1 ⊢
 have hS:Sep h (geL h.length) []:=a0k h
 obtain ⟨v1,hx2,hF3⟩:=qk hF
 simp only [x80,qc,qd,qf,qa,q5z,zf0,zf1,zg,B0,reduceIte,a9]
 refine jo rfl (qi zk (qi qo zc)) (qka (fun b hb=>decide_eq_true hb) s_0 v_1 v1 hx2) ?_
 simp only [qz,qb,qd9,qf,qa,qx,B0,reduceIte,a9]
 have he:=qj hF3
 subst he
 simp only [q8,B0,reduceIte,a9]
 exact rfl
theorem qks {W:Nat→Bool}{h:Heap} (hW:∀ b,
  (geL h.length) b→W b=true) (list_0:List Int) (many_1:Int) (r:Bool) (hF:qa8 list_0 many_1=some r) : Ret E W 92 [lst cI list_0,
  .int .i64 many_1] h (fun v h'=>cut h.length h' E.sz false 9 v=some (.bool r)):=by
 refine Ret.of (fn:=x92) rfl (Run.of ?_)
 unfold qa8 at hF
 have zf0:zb [lst cI list_0,.int .i64 many_1] 0=lst cI list_0:=rfl
 have zf1:zb [lst cI list_0,.int .i64 many_1] 1 = .int .i64 many_1:=rfl
 generalize zb [lst cI list_0,.int .i64 many_1]=fr0 at zf0 zf1 ⊢
 have hS:Sep h (geL h.length) []:=a0k h
 simp only [x92,qc,qd,qf,qa,q1z,zf0,zy,qb,jd,B0,reduceIte,a9]
 obtain ⟨oc3,hX5,hk6⟩:=ka hF
 simp only [q1d]
 refine wv (σ:=Unit) list_0 (fun i1 x2 _=>qa7 list_0 many_1 i1 x2 )
   (fun s fr' h'=>fr' 0=lst cI list_0∧fr' 1 = .int .i64 many_1∧fr' 7=lst cI list_0∧Sep h' (geL h.length) ([])) hX5 ⟨zf0,zf1,rfl,hS⟩ (by simp only [B0,reduceIte,
   a9]) (by simp only [B0,reduceIte,a9]) (fun _ _ _ h=>h) rfl rfl (fun _ _ _ _ h=>h) (fun _ _ _ _ h=>h) (fun _ _ _ _ h=>h) (by decide) ?_ ?_
 ·rintro i1 x2 _ fr15 h16 hx21 ⟨f18,f19,f20,hS17⟩ f22 f23 oc4 hF7 hr8 Q9 hN10 hB14 hK11 hR12 hE13
  unfold qa7 at hF7
  simp only [qy3,qc,qd,f22,qf,f20,jl,B0,reduceIte,a9]
  refine qh (v := .ref (cI x2) 0) (wx hx21 rfl) ?_
  simp only [qn,B0,reduceIte,a9]
  refine qh (v := .int .i64 x2) rfl ?_
  simp only [qf,qa,q5v,qc,qd,f19,qz,qb,qgz,zg,B0,reduceIte,a9]
  refine jo rfl (qi qo (qi qo (qi qo zc))) (uc (fun b hb=>decide_eq_true hb) x2 0 (l4 .i64 (many_1 - 1)) _ rfl) ?_
  simp only [j8,qb,ko,qf,B0,reduceIte,a9]
  obtain ⟨v27,hx28,hF29⟩:=qk hF7
  refine ji 12 (fun fr' h'=>Sep h' (geL h.length) ([])∧fr' 31 = .bool v27∧fr' 0=lst cI list_0∧fr' 1 = .int .i64 many_1∧fr' 7=lst cI list_0∧fr' 8 = .int .i64
    (f0 list_0:Int)∧fr' 9 = .int .i64 (i1:Int)) (fun Q24 hN25=>?_) ?_
  ·simp only [f4,i7]
   simp only [qe (g:=19),B0,reduceIte,a9]
   refine ze (t:=(!(jc x2 0 (l4 .i64 (many_1 - 1))))) (fun hg26=>?_) (fun hg26=>?_)
   ·rw [iteT hg26] at hx28
    simp only [hg26,qe (g:=19),jk,qe (g:=22),xh,qw,qb,zo,qa,qp,B0,reduceIte,a9]
    have e30:=qj hx28
    exact hN25 _ _ ⟨hS17,by rw [←e30]; simp only [B0,reduceIte,a9],f18,f19,f20,f23,f22⟩
   ·rw [iteF hg26] at hx28
    simp only [hg26,qe (g:=19),qv,qf,qz,qb,qf6,B0,reduceIte,a9]
    obtain ⟨v34,hx35,hF36⟩:=qk hx28
    refine ji 8 (fun fr' h'=>Sep h' (geL h.length)
      ([])∧fr' 30 = .bool v34∧fr' 0=lst cI list_0∧fr' 1 = .int .i64 many_1∧fr' 7=lst cI list_0∧fr' 8 = .int .i64
      (f0 list_0:Int)∧fr' 9 = .int .i64 (i1:Int)∧fr' 19 = .bool (!(jc x2 0 (l4 .i64 (many_1 - 1))))) (fun Q31 hN32=>?_) ?_
    ·simp only [f4,i7]
     simp only [qe (g:=22),B0,reduceIte,a9]
     refine ze (t:=(decide ((0:Int)<(i1:Int)))) (fun hg33=>?_) (fun hg33=>?_)
     ·rw [iteT hg33] at hx35
      obtain ⟨x37,hx38,hF39⟩:=qk hx35
      simp only [hg33,qe (g:=22),zi,f18,qf,qz,qb,qgz,jl,B0,reduceIte,a9]
      refine qh (v := .ref (cI x37) 0) (kx hx38 rfl) ?_
      simp only [hg33,qe (g:=22),zi,qn,B0,reduceIte,a9]
      refine qh (v := .int .i64 x37) rfl ?_
      simp only [hg33,qe (g:=22),zi,qf,qz,qb,qd9,hg26,qe (g:=19),qv,qw,zo,qa,qp,
        B0,reduceIte,a9]
      have e40:=qj hF39
      exact hN32 _ _ ⟨hS17,by rw [←e40]; simp only [B0,reduceIte,a9],f18,f19,f20,f23,f22,by simp only [hg26,B0,reduceIte,a9]⟩
     ·rw [iteF hg33] at hx35
      simp only [hg33,qe (g:=22),jj,hg26,qe (g:=19),qv,qw,qb,zn,qa,qp,B0,reduceIte,
        a9]
      have e41:=qj hx35
      exact hN32 _ _ ⟨hS17,by rw [←e41]; simp only [B0,reduceIte,a9],f18,f19,f20,f23,f22,by simp only [hg26,B0,reduceIte,a9]⟩
    rintro fr42 h50 ⟨hS51,f43,f44,f45,f46,f47,f48,f49⟩
    simp only [i0,i6]
    simp only [f49,hg26,qw,qb,zn,f43,qa,qp,B0,reduceIte,a9]
    have e52:=qj hF36
    exact hN25 _ _ ⟨hS51,by rw [←e52]; simp only [B0,reduceIte,a9],f44,f45,f46,f47,f48⟩
  rintro fr53 h60 ⟨hS61,f54,f55,f56,f57,f58,f59⟩
  simp only [i0,i6]
  simp only [qa,f54,q9,B0,reduceIte,a9]
  refine qy (t:=v27) (fun hc62=>?_) (fun hc62=>?_)
  ·rw [iteT hc62] at hF29
   simp only [qc,qd,qf,qa,qx,B0,reduceIte,a9]
   have e63:=qj hF29
   subst e63
   have ho64:=hr8 _ rfl
   have hk65:=hk6
   rw [ho64] at hk65
   dsimp only [jnO] at hk65
   apply hR12
   have he:=qj hk65
   subst he
   simp only [q8,B0,reduceIte,a9]
   exact rfl
  rw [iteF hc62] at hF29
  simp only [zh,qp,B0,reduceIte,a9]
  have e66:=qj hF29
  exact hN10 _ _ _ e66.symm ⟨f55,f56,f57,hS61⟩ (f59) (f58)
 rintro _ fr68 h69 rfl ⟨f71,f72,f73,hS70⟩
 dsimp only [jnO] at hk6
 unfold qfu at hk6
 simp only [qc,qd,qf,qa,qx,B0,reduceIte,a9]
 have he:=qj hk6
 subst he
 simp only [q8,B0,reduceIte,a9]
 exact rfl
theorem qjh {W:Nat→Bool}{h:Heap} (hW:∀ b,
  (geL h.length) b→W b=true) (v_0:View) (nodes_1:Int) (r:Bool) (hF:qcf v_0 nodes_1=some r) : Ret E W 78 [.agg [.int .i64 v_0.Epoch,.int .i64 v_0.Leader,
  lst cI v_0.InStep],.int .i64 nodes_1] h (fun v h'=>cut h.length h' E.sz false 9 v=some (.bool r)):=by
 refine Ret.of (fn:=x78) rfl (Run.of ?_)
 unfold qcf at hF
 have zf0:zb [.agg [.int .i64 v_0.Epoch,.int .i64 v_0.Leader,lst cI v_0.InStep],.int .i64 nodes_1] 0 = .agg [.int .i64 v_0.Epoch,.int .i64 v_0.Leader,
   lst cI v_0.InStep]:=rfl
 have zf1:zb [.agg [.int .i64 v_0.Epoch,.int .i64 v_0.Leader,lst cI v_0.InStep],.int .i64 nodes_1] 1 = .int .i64 nodes_1:=rfl
 generalize zb [.agg [.int .i64 v_0.Epoch,.int .i64 v_0.Leader,lst cI v_0.InStep],.int .i64 nodes_1]=fr0 at zf0 zf1 ⊢
 have hS:Sep h (geL h.length) []:=a0k h
 simp only [x78,qc,qd,jp,zf0,B0,reduceIte,a9]
 refine je (cs:=[.int .i64 v_0.Epoch,.int .i64 v_0.Leader,lst cI v_0.InStep]) hS rfl rfl rfl (fun b1 h2 hS3=>?_)
 simp only [qf,qa,B0,reduceIte,a9]
 refine zx hS3 hW (by simp only [B0,reduceIte,a9]) (fun h5 hS6=>?_)
 simp only [zw,qy2,qc,qd,qt,qb,d8,d9,e8,qs,qn,B0,reduceIte,a9]
 refine qh (v := .int .i64 v_0.Epoch) rfl ?_
 simp only [zg,B0,reduceIte,a9]
 refine jo rfl (qi qo (qi qo (qi qo zc))) (uc (fun b hb=>decide_eq_true hb) v_0.Epoch 0 100 _ rfl) ?_
 simp only [qf,B0,reduceIte,a9]
 obtain ⟨v10,hx11,hF12⟩:=qk hF
 refine ji 5 (fun fr' h'=>Sep h' (geL h.length) ([])∧fr' 13 = .bool v10∧fr' 2 = .ref [.int .i64 v_0.Epoch,.int .i64 v_0.Leader,
   lst cI v_0.InStep] 0) (fun Q7 hN8=>?_) ?_
 ·simp only [f4,i7]
  simp only [qe (g:=8),B0,reduceIte,a9]
  refine ze (t:=(jc v_0.Epoch 0 100)) (fun hg9=>?_) (fun hg9=>?_)
  ·rw [iteT hg9] at hx11
   simp only [hg9,qe (g:=8),zi,qt,qb,d8,d9,e8,qs,qn,B0,reduceIte,a9]
   refine qh (v:=lst cI v_0.InStep) rfl ?_
   obtain ⟨v13,hx14,hF15⟩:=qk hx11
   simp only [hg9,qe (g:=8),zi,zf1,qf,zg,B0,reduceIte,a9]
   refine jo rfl (qi zk (qi qo zc)) (qks (fun b hb=>decide_eq_true hb) v_0.InStep nodes_1 v13 hx14) ?_
   simp only [hg9,qw,qb,zo,qa,qp,B0,reduceIte,a9]
   have e16:=qj hF15
   exact hN8 _ _ ⟨hS6,by rw [←e16]; simp only [B0,reduceIte,a9],rfl⟩
  ·rw [iteF hg9] at hx11
   simp only [hg9,qe (g:=8),jj,qw,qb,zn,qa,qp,B0,reduceIte,a9]
   have e17:=qj hx11
   exact hN8 _ _ ⟨hS6,by rw [←e17]; simp only [B0,reduceIte,a9],rfl⟩
 rintro fr18 h21 ⟨hS22,f19,f20⟩
 simp only [i0,i6]
 simp only [f19,qf,B0,reduceIte,a9]
 obtain ⟨v26,hx27,hF28⟩:=qk hF12
 refine ji 6 (fun fr' h'=>Sep h' (geL h.length) ([])∧fr' 20 = .bool v26) (fun Q23 hN24=>?_) ?_
 ·simp only [f4,i7]
  simp only [qe (g:=14),B0,reduceIte,a9]
  refine ze (t:=v10) (fun hg25=>?_) (fun hg25=>?_)
  ·rw [iteT hg25] at hx27
   simp only [hg25,qe (g:=14),zi,f20,qt,qb,d8,d9,e8,qs,qn,B0,reduceIte,a9]
   refine qh (v:=lst cI v_0.InStep) rfl ?_
   simp only [hg25,qe (g:=14),zi,f20,qt,qb,d8,d9,e8,qs,qn,B0,reduceIte,a9]
   refine qh (v := .int .i64 v_0.Leader) rfl ?_
   obtain ⟨v29,hx30,hF31⟩:=qk hx27
   simp only [hg25,qe (g:=14),zi,zg,B0,reduceIte,a9]
   refine jo rfl (qi zk (qi qo zc)) (qbv (fun b hb=>decide_eq_true hb) v_0.InStep v_0.Leader v29 hx30) ?_
   simp only [hg25,qw,qb,zo,qa,qp,B0,reduceIte,a9]
   have e32:=qj hF31
   exact hN24 _ _ ⟨hS22,by rw [←e32]; simp only [B0,reduceIte,a9]⟩
  ·rw [iteF hg25] at hx27
   simp only [hg25,qe (g:=14),jj,qw,qb,zn,qa,qp,B0,reduceIte,a9]
   have e33:=qj hx27
   exact hN24 _ _ ⟨hS22,by rw [←e33]; simp only [B0,reduceIte,a9]⟩
 rintro fr34 h36 ⟨hS37,f35⟩
 simp only [i0,i6]
 simp only [f35,qf,qa,qx,B0,reduceIte,a9]
 have he:=qj hF28
 subst he
 simp only [q8,B0,reduceIte,a9]
 exact rfl
theorem qob {W:Nat→Bool}{h:Heap} (hW:∀ b,
  (geL h.length) b→W b=true) (l_0:List Row) (most_1:Int) (r:Bool) (hF:qd0 l_0 most_1=some r) : Ret E W 93 [lst qg l_0,
  .int .i64 most_1] h (fun v h'=>cut h.length h' E.sz false 9 v=some (.bool r)):=by
 refine Ret.of (fn:=x93) rfl (Run.of ?_)
 unfold qd0 at hF
 have zf0:zb [lst qg l_0,.int .i64 most_1] 0=lst qg l_0:=rfl
 have zf1:zb [lst qg l_0,.int .i64 most_1] 1 = .int .i64 most_1:=rfl
 generalize zb [lst qg l_0,.int .i64 most_1]=fr0 at zf0 zf1 ⊢
 have hS:Sep h (geL h.length) []:=a0k h
 simp only [x93,qc,qd,qf,qa,q7r,q4z,zf0,zy,qb,jd,B0,reduceIte,a9]
 obtain ⟨oc5,hX7,hk8⟩:=ka hF
 simp only [q06]
 refine wv (σ:=Int) l_0 (fun i3 x4 s53=>qac most_1 i3 x4 s53)
   (fun s fr' h'=>fr' 0=lst qg l_0∧fr' 1 = .int .i64 most_1∧fr' 5 = .int .i64 s∧fr' 8=lst qg l_0∧Sep h' (geL h.length) ([])) hX7 ⟨zf0,zf1,rfl,
   rfl,hS⟩ (by simp only [B0,reduceIte,a9]) (by simp only [B0,reduceIte,
   a9]) (fun _ _ _ h=>h) rfl rfl (fun _ _ _ _ h=>h) (fun _ _ _ _ h=>h) (fun _ _ _ _ h=>h) (by decide) ?_ ?_
 ·rintro i3 x4 s2 fr17 h18 hx24 ⟨f20,f21,f22,f23,hS19⟩ f25 f26 oc6 hF9 hr10 Q11 hN12 hB16 hK13 hR14 hE15
  unfold qac at hF9
  simp only [q7d,qc,qd,f23,f25,jl,B0,reduceIte,a9]
  refine qh (v := .ref (qg x4) 0) (wx hx24 rfl) ?_
  simp only [qn,B0,reduceIte,a9]
  refine qh (v := .agg [.int .i64 x4.Epoch,.int .i64 x4.Value]) rfl ?_
  simp only [kd,B0,reduceIte,a9]
  refine jt hS19 (fun b27 h28 hS29=>?_)
  simp only [zp,B0,reduceIte,a9]
  refine zm (us:=[.int .i64 x4.Epoch,.int .i64 x4.Value]) rfl (cs':=[.int .i64 x4.Epoch,.int .i64 x4.Value]) hS29 hW rfl rfl (nle rfl) rfl (fun h31 hS32=>?_)
  simp only [qa,B0,reduceIte,a9]
  refine zx hS32 hW (by simp only [B0,reduceIte,a9]) (fun h33 hS34=>?_)
  simp only [zw,q3x,qc,qd,qt,qb,d8,d9,e8,qs,qn,B0,reduceIte,a9]
  refine qh (v := .int .i64 x4.Epoch) rfl ?_
  simp only [f22,qf,f21,zg,B0,reduceIte,a9]
  refine jo rfl (qi qo (qi qo (qi qo zc))) (uc (fun b hb=>decide_eq_true hb) x4.Epoch s2 most_1 _ rfl) ?_
  simp only [j8,qb,ko,qf,B0,reduceIte,a9]
  refine ji 5 (fun fr' h'=>Sep h' (geL h.length) ([])∧fr' 25 = .bool ((!(jc x4.Epoch s2 most_1)) ||
    (!(jc x4.Value 0 99)))∧fr' 0=lst qg l_0∧fr' 1 = .int .i64 most_1∧fr' 7 = .ref [.int .i64 x4.Epoch,
    .int .i64 x4.Value] 0∧fr' 8=lst qg l_0∧fr' 9 = .int .i64 (f0 l_0:Int)∧fr' 10 = .int .i64 (i3:Int)) (fun Q35 hN36=>?_) ?_
  ·simp only [f4,i7]
   simp only [qe (g:=20),B0,reduceIte,a9]
   refine ze (t:=(!(jc x4.Epoch s2 most_1))) (fun hg37=>?_) (fun hg37=>?_)
   ·simp only [hg37,qe (g:=20),jk,qw,qb,zo,qa,qp,B0,reduceIte,a9]
    exact hN36 _ _ ⟨hS34,by rw [orT hg37]; simp only [B0,reduceIte,a9],f20,f21,rfl,f23,f26,f25⟩
   ·simp only [hg37,qe (g:=20),qv,qt,qb,d8,d9,e8,qs,qn,B0,reduceIte,a9]
    refine qh (v := .int .i64 x4.Value) rfl ?_
    simp only [hg37,qe (g:=20),qv,zg,B0,reduceIte,a9]
    refine jo rfl (qi qo (qi qo (qi qo zc))) (uc (fun b hb=>decide_eq_true hb) x4.Value 0 99 _ rfl) ?_
    simp only [hg37,qe (g:=20),qv,j8,qb,ko,qw,zn,qa,qp,B0,reduceIte,a9]
    exact hN36 _ _ ⟨hS34,by rw [orF hg37]; simp only [B0,reduceIte,a9],f20,f21,rfl,f23,f26,f25⟩
  rintro fr38 h46 ⟨hS47,f39,f40,f41,f42,f43,f44,f45⟩
  simp only [i0,i6]
  simp only [qa,f39,q9,B0,reduceIte,a9]
  refine qy (t:=((!(jc x4.Epoch s2 most_1))||(!(jc x4.Value 0 99)))) (fun hc48=>?_) (fun hc48=>?_)
  ·rw [iteT hc48] at hF9
   simp only [qc,qd,qf,qa,qx,B0,reduceIte,a9]
   have e49:=qj hF9
   subst e49
   have ho50:=hr10 _ rfl
   have hk51:=hk8
   rw [ho50] at hk51
   dsimp only [jnO] at hk51
   apply hR14
   have he:=qj hk51
   subst he
   simp only [q8,B0,reduceIte,a9]
   exact rfl
  rw [iteF hc48] at hF9
  simp only [zh,qd,f42,qt,qb,d8,d9,e8,qs,qn,B0,reduceIte,a9]
  refine qh (v := .int .i64 x4.Epoch) rfl ?_
  simp only [qf,qa,qp,B0,reduceIte,a9]
  have e52:=qj hF9
  exact hN12 _ _ _ e52.symm ⟨f40,f41,rfl,f43,hS47⟩ (f45) (f44)
 rintro s54 fr55 h56 rfl ⟨f58,f59,f60,f61,hS57⟩
 dsimp only [jnO] at hk8
 unfold qh8 at hk8
 simp only [q34,qc,qd,f58,qf,zy,qb,jd,qz,qm1,qa,qx,B0,reduceIte,a9]
 have he:=qj hk8
 subst he
 simp only [q8,B0,reduceIte,a9]
 exact rfl
theorem qhw {W:Nat→Bool}{h:Heap} (hW:∀ b,
  (geL h.length) b→W b=true) (s_0:List Int) {g1:Nat} {caps1:List XV} (hm1:E.mode g1=1) (f_1:Int→Option Bool) (hf1:∀ (W:Nat→Bool) (h:Heap),(∀ b,
  h.length≤b→W b=true)→∀ a0 r,f_1 a0=some r→Ret E W g1 ([.int .i64 a0]++caps1) h (fun v h'=>cut h.length h' E.sz false 9 v=some (.bool r))) (r:Int)
  (hF:u6 s_0 f_1=some r) : Ret E W 101 [lst cI s_0,.fn g1 caps1] h (fun v h'=>cut h.length h' E.sz false 9 v=some (.int .i64 r)):=by
 refine Ret.of (fn:=qri) rfl (Run.of ?_)
 unfold u6 at hF
 have zf0:zb [lst cI s_0,.fn g1 caps1] 0=lst cI s_0:=rfl
 have zf1:zb [lst cI s_0,.fn g1 caps1] 1 = .fn g1 caps1:=rfl
 generalize zb [lst cI s_0,.fn g1 caps1]=fr0 at zf0 zf1 ⊢
 have hS:Sep h (geL h.length) []:=a0k h
 simp only [qri,qc,qd,qf,qa,qs6,zf0,zy,qb,jd,B0,reduceIte,a9]
 obtain ⟨oc3,hX5,hk6⟩:=ka hF
 simp only [qvo]
 refine wv (σ:=Unit) s_0 (fun i1 x2 _=>wk f_1 i1 x2 ) (fun s fr' h'=>fr' 0=lst cI s_0∧fr' 1 = .fn g1 caps1∧Sep h' (geL h.length)
   ([])) hX5 ⟨zf0,zf1,hS⟩ (by simp only [B0,reduceIte,a9]) (by simp only [B0,reduceIte,
   a9]) (fun _ _ _ h=>h) rfl rfl (fun _ _ _ _ h=>h) (fun _ _ _ _ h=>h) (fun _ _ _ _ h=>h) (by decide) ?_ ?_
 ·rintro i1 x2 _ fr15 h16 hx20 ⟨f18,f19,hS17⟩ f21 f22 oc4 hF7 hr8 Q9 hN10 hB14 hK11 hR12 hE13
  unfold wk at hF7
  simp only [qte,qc,qd,f21,qf,qa,qvv,f19,f18,jl,B0,reduceIte,a9]
  refine qh (v := .ref (cI x2) 0) (wx hx20 rfl) ?_
  simp only [qn,B0,reduceIte,a9]
  refine qh (v := .int .i64 x2) rfl ?_
  obtain ⟨v23,hx24,hF25⟩:=qk hF7
  simp only [zg,B0,reduceIte,a9]
  refine jo hm1 (qi qo zc) (hf1 _ _ (fun b hb=>decide_eq_true hb) x2 v23 hx24) ?_
  simp only [qa,qu2,q9,B0,reduceIte,a9]
  refine qy (t:=v23) (fun hc26=>?_) (fun hc26=>?_)
  ·rw [iteT hc26] at hF25
   simp only [qc,qd,qf,qa,qx,B0,reduceIte,a9]
   have e27:=qj hF25
   subst e27
   have ho28:=hr8 _ rfl
   have hk29:=hk6
   rw [ho28] at hk29
   dsimp only [jnO] at hk29
   apply hR12
   have he:=qj hk29
   subst he
   simp only [q8,B0,reduceIte,a9]
   exact rfl
  rw [iteF hc26] at hF25
  simp only [zh,qp,B0,reduceIte,a9]
  have e30:=qj hF25
  exact hN10 _ _ _ e30.symm ⟨f18,f19,hS17⟩ (f21) (f22)
 rintro _ fr32 h33 rfl ⟨f35,f36,hS34⟩
 dsimp only [jnO] at hk6
 unfold qdr at hk6
 simp only [qc,qd,qf,qa,qx,B0,reduceIte,a9]
 have he:=qj hk6
 subst he
 simp only [q8,B0,reduceIte,a9]
 exact rfl
theorem qgh {W:Nat→Bool}{h:Heap} (hW:∀ b,
  (geL h.length) b→W b=true) (s_0:List Int) {g1:Nat} {caps1:List XV} (hm1:E.mode g1=1) (f_1:Int→Option Bool) (hf1:∀ (W:Nat→Bool) (h:Heap),(∀ b,
  h.length≤b→W b=true)→∀ a0 r,f_1 a0=some r→Ret E W g1 ([.int .i64 a0]++caps1) h (fun v h'=>cut h.length h' E.sz false 9 v=some (.bool r))) (r:Bool)
  (hF:xj s_0 f_1=some r) : Ret E W 94 [lst cI s_0,.fn g1 caps1] h (fun v h'=>cut h.length h' E.sz false 9 v=some (.bool r)):=by
 refine Ret.of (fn:=x94) rfl (Run.of ?_)
 unfold xj at hF
 have zf0:zb [lst cI s_0,.fn g1 caps1] 0=lst cI s_0:=rfl
 have zf1:zb [lst cI s_0,.fn g1 caps1] 1 = .fn g1 caps1:=rfl
 generalize zb [lst cI s_0,.fn g1 caps1]=fr0 at zf0 zf1 ⊢
 have hS:Sep h (geL h.length) []:=a0k h
 obtain ⟨v1,hx2,hF3⟩:=qk hF
 simp only [x94,qc,qd,qf,qa,qyy,zf0,zf1,zg,B0,reduceIte,a9]
 refine jo rfl (qi zk (qi qq3 zc)) (qhw (fun b hb=>decide_eq_true hb) s_0 (g1:=g1) (caps1:=caps1) hm1 f_1 hf1 v1 hx2) ?_
 simp only [qz,qb,qd9,qf,qa,qx,B0,reduceIte,a9]
 have he:=qj hF3
 subst he
 simp only [q8,B0,reduceIte,a9]
 exact rfl
end Go.Proofs.Ytohofoampalhoaa.X
