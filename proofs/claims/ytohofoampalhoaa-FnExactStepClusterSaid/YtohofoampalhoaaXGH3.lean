/- The functions' code comes to what the plain functions say (3). -/
import Derived.Test.YtohofoampalhoaaXGH2
open Go.IntKind renaming wrap→l4
open List renaming drop_succ_cons→i0,drop_zero→i6,length→f0,set→a0u,take_succ_cons→f4,take_zero→i7
open Nat renaming add_zero→e8,reduceAdd→d8,reduceEqDiff→a9,zero_add→d9
open Option renaming map_none→a0m,map_some→t8
open Go.Proofs.Ytohofoampalhoaa.X.Sep renaming bk→o9,dc→o8,m1→n7,m2→l9,m3→l6,m4→n9,m5→t9,m6→s9,m7→o7,m8→i5,ni3→a0q,no3→a1v
open Go.Proofs.Ytohofoampalhoaa.X.SlF renaming ia→a16,isrow→a04,one→l7,plen→a1n,rowfp→a23,snap→a0c
open Go.Proofs.Ytohofoampalhoaa.X.SlG renaming cls→a2o,one→a3g,opn→a1t,toN→a0s
open Go.Proofs.Ytohofoampalhoaa.X.SlN renaming isrow→a21,one→a09,toG→a14
set_option linter.unusedVariables false
set_option linter.unusedSimpArgs false
set_option maxRecDepth 100000
namespace Go.Proofs.Ytohofoampalhoaa.X
open Go
theorem qmh {W:Nat→Bool}{h:Heap}{lo:Nat→Prop}{S0:List Obj} (hW:∀ b,
  lo b→W b=true) (c_0:Cluster) (pv0_2:XV) (pc0_2:List Obj) (ph0_2:SlF cI 1 3 pv0_2 c_0.Truth.InStep pc0_2) (pv0_3:XV) (pc0_3:List Obj)
  (ph0_3:SlN Node.R 6 68 pv0_3 c_0.Nodes pc0_3) (pv0_4:XV) (pc0_4:List Obj) (ph0_4:SlF qg 2 92 pv0_4 c_0.Acked pc0_4) (k_1:Int) (r:Cluster)
  (hF:qce c_0 k_1=some r) (hS:Sep h lo (pc0_2++(pc0_3++(pc0_4++(S0))))) : Ret E W 84 [.agg [.int .i64 c_0.Truth.Epoch,.int .i64 c_0.Truth.Leader,pv0_2,
  pv0_3,pv0_4],.int .i64 k_1] h (fun v h'=>∃ rc0_2 rc0_3 rc0_4,v = .agg [.int .i64 r.Truth.Epoch,.int .i64 r.Truth.Leader,pv0_2,pv0_3,
  pv0_4]∧SlF cI 1 3 pv0_2 r.Truth.InStep rc0_2∧SlN Node.R 6 68 pv0_3 r.Nodes rc0_3∧SlF qg 2 92 pv0_4 r.Acked rc0_4∧Sep h' lo (rc0_2++(rc0_3++(rc0_4 ++
  (S0))))):=by
 refine Ret.of (fn:=x84) rfl (Run.of ?_)
 unfold qce at hF
 have zf0:zb [.agg [.int .i64 c_0.Truth.Epoch,.int .i64 c_0.Truth.Leader,pv0_2,pv0_3,pv0_4],.int .i64 k_1] 0 = .agg [.int .i64 c_0.Truth.Epoch,
   .int .i64 c_0.Truth.Leader,pv0_2,pv0_3,pv0_4]:=rfl
 have zf1:zb [.agg [.int .i64 c_0.Truth.Epoch,.int .i64 c_0.Truth.Leader,pv0_2,pv0_3,pv0_4],.int .i64 k_1] 1 = .int .i64 k_1:=rfl
 generalize zb [.agg [.int .i64 c_0.Truth.Epoch,.int .i64 c_0.Truth.Leader,pv0_2,pv0_3,pv0_4],.int .i64 k_1]=fr0 at zf0 zf1 ⊢
 simp only [x84,qc,qd,jp,zf0,B0,reduceIte,a9]
 refine je (cs:=[.int .i64 c_0.Truth.Epoch,.int .i64 c_0.Truth.Leader,pv0_2,pv0_3,
   pv0_4]) hS rfl rfl (qm rfl (qm rfl (qm (l7 ph0_2) (qm (a09 ph0_3) (qm (l7 ph0_4) zq))))) (fun b1 h2 hS3=>?_)
 simp only [kd,B0,reduceIte,a9]
 refine jt hS3 (fun b5 h6 hS7=>?_)
 simp only [qa,B0,reduceIte,a9]
 refine zx (n7 hS7) hW (by simp only [B0,reduceIte,a9]) (fun h9 hS10=>?_)
 simp only [zw,qtp,qc,qd,qt,qb,d8,d9,e8,qs,qn,B0,reduceIte,a9]
 refine qh (v:=pv0_3) rfl ?_
 obtain ⟨x11,hx12,hF13⟩:=qk hF
 simp only [zf1,qf,jl,B0,reduceIte,a9]
 obtain ⟨b14,hb15⟩:=a21 ph0_3 (j9 hx12)
 refine qh (SlN.ia ph0_3 hb15 hx12) ?_
 obtain ⟨c16,cs17,os18,hv19,hR20,hS21⟩:=a1t (a14 ph0_3 hb15 Node.RO.len) hx12 z8 Node.RO.len (l9 hS10)
 obtain ⟨v23,c24,v27,c28,v31,c32,hv25,hv29,hv33,rfl,rfl⟩:=hR20
 have hS22:=a1v hS21
 simp only [qn,B0,reduceIte,a9]
 refine qh (v := .agg [.int .i64 x11.View.Epoch,.int .i64 x11.View.Leader,v23,v27,v31,.int .i64 x11.Told]) ((SlG.lds (o:=0) hv19 rfl hx12 hS22 (nle rfl)).trans rfl) ?_
 simp only [kd,B0,reduceIte,a9]
 refine jt hS22 (fun b35 h36 hS37=>?_)
 simp only [zp,B0,reduceIte,a9]
 refine zm (us:=[.int .i64 x11.View.Epoch,.int .i64 x11.View.Leader,v23,v27,v31,.int .i64 x11.Told]) rfl (cs':=[.int .i64 x11.View.Epoch,
   .int .i64 x11.View.Leader,v23,v27,v31,
   .int .i64 x11.Told]) hS37 hW rfl (qm rfl (qm rfl (qm (l7 hv25) (qm (l7 hv29) (qm (l7 hv33) (qm rfl zq)))))) (nle rfl) rfl
   (fun h39 hS40=>?_)
 simp only [qa,q6d,qc,qd,qt,qb,d8,d9,e8,zd,qn,B0,reduceIte,a9]
 refine qh (v := .int .i64 x11.View.Epoch) ((jv (o9 _ _ _ hS40)).trans rfl) ?_
 simp only [qt,qb,d8,d9,e8,qs,qn,B0,reduceIte,a9]
 refine qh (v := .int .i64 c_0.Truth.Epoch) rfl ?_
 simp only [qz,qb,ya,qa,q6y,q9,B0,reduceIte,a9]
 obtain ⟨s41,hX47,hk48⟩:=qk hF13
 refine qh5 (t:=(decide (x11.View.Epoch≠c_0.Truth.Epoch))) (fun fr' h'=>∃ v43 c44,fr' 1 = .int .i64 k_1∧fr' 2 = .ref [.int .i64 c_0.Truth.Epoch,
   .int .i64 c_0.Truth.Leader,pv0_2,pv0_3,
   pv0_4] 0∧fr' 4 = .ptr b5 0∧fr' 5 = .ptr b35 0∧SlF cI 1 3 v43 s41.Known c44∧Sep h' lo (pc0_2++(c16++(pc0_4++([Blk1 b5 [.int .i64 0,.int .i64 0,.nil,.nil,
   .nil] 28]++([Blk1 b35 [.int .i64 s41.View.Epoch,.int .i64 s41.View.Leader,v23,v27,v43,
   .int .i64 s41.Told] 68]++(c24++(c28++(c44++(S0)))))))))) (fun Q49 hN50 hR51 hE52=>⟨fun hc53=>?_,fun hc53=>?_⟩) ?_
 ·rw [iteT hc53] at hX47
  simp only [q2u,qc,qd,qt,qb,d8,d9,e8,qs,qn,B0,reduceIte,a9]
  refine qh (v:=pv0_3) rfl ?_
  obtain ⟨l54,hx55,hF56⟩:=qk hX47
  simp only [zy,qb,SlG.plen hv19,qid,B0,reduceIte,a9]
  refine qhe (f:=cI) (z:=(0:Int)) hS40 hx55 rfl (fun v57 c58 h59 hv60 hS61=>?_)
  simp only [qt,qb,d8,d9,e8,zd,zp,B0,reduceIte,a9]
  refine zm (us:=[v57]) (kg (l7 hv60)) (cs':=[.int .i64 x11.View.Epoch,.int .i64 x11.View.Leader,v23,v27,v57,
    .int .i64 x11.Told]) (n7 hS61) hW rfl (qm (l7 hv60) zq) (nle rfl) rfl (fun h63 hS64=>?_)
  simp only [qa,q6o,qc,qd,qt,qb,d8,d9,e8,zd,zp,B0,reduceIte,a9]
  refine zm (us:=[.int .i64 0]) rfl (cs':=[.int .i64 x11.View.Epoch,.int .i64 x11.View.Leader,v23,v27,v57,
    .int .i64 0]) hS64 hW rfl rfl (nle rfl) rfl (fun h65 hS66=>?_)
  simp only [qa,q5d,qc,qd,qt,qb,d8,d9,e8,qs,qn,B0,reduceIte,a9]
  refine qh (v := .int .i64 c_0.Truth.Leader) rfl ?_
  simp only [zf1,qf,qz,qb,k6,qa,q8c,q9,B0,reduceIte,a9]
  refine qy (t:=(decide (c_0.Truth.Leader=k_1))) (fun hc67=>?_) (fun hc67=>?_)
  ·rw [iteT hc67] at hF56
   simp only [qzm,qd,qt,qb,d8,d9,e8,zd,qn,B0,reduceIte,a9]
   refine qh (v:=v57) ((jv (o9 _ _ _ hS66)).trans rfl) ?_
   simp only [zf1,qf,qt,qb,d8,d9,e8,zd,qn,B0,reduceIte,a9]
   refine qh (v:=v27) ((jv (o9 _ _ _ hS66)).trans rfl) ?_
   obtain ⟨x68,hx69,hF70⟩:=qk hF56
   simp only [zy,qb,a1n hv29,jl,B0,reduceIte,a9]
   obtain ⟨b71,hb72⟩:=a04 hv60 (j9 hx69)
   refine qh (a16 hv60 hb72 hx69) ?_
   simp only [zp,B0,reduceIte,a9]
   refine qb5 (f:=cI) (x':=(f0 x11.Log:Int)) (o:=0) hv60 (n7 hS66) hW hb72 hx69 (fun _=>rfl) rfl rfl (nle rfl) rfl (fun c75 h73 hv76 hS74=>?_)
   have hx77:=kj (x':=(f0 x11.Log:Int)) hx69
   simp only [qa,qp,B0,reduceIte,a9]
   have e78:=qj hF70
   subst e78
   exact hN50 _ _ ⟨v57,c75,zf1,rfl,rfl,rfl,hv76,(o7 (s9 (o7 (t9 (l6 (n9 (n9 (o8 (t9 hS74)))))))))⟩
  rw [iteF hc67] at hF56
  simp only [zh,qp,B0,reduceIte,a9]
  have e79:=qj hF56
  subst e79
  exact hN50 _ _ ⟨v57,c58,zf1,rfl,rfl,rfl,hv60,(o7 (s9 (o7 (t9 (l6 (n9 (n9 (n7 (o8 (t9 hS66))))))))))⟩
 ·rw [iteF hc53] at hX47
  simp only [zh,qp,B0,reduceIte,a9]
  have e80:=qj hX47
  subst e80
  exact hN50 _ _ ⟨v31,c32,zf1,rfl,rfl,rfl,hv33,(o7 (s9 (o7 (t9 (l6 (n9 (n9 (n9 hS40))))))))⟩
 rintro fr81 h82 ⟨v43,c44,f84,f85,f86,f87,hv45,hS83⟩
 unfold qan at hk48
 simp only [q7k,qc,qd,f85,qt,qb,d8,d9,e8,qs,qn,B0,reduceIte,a9]
 refine qh (v := .agg [.int .i64 c_0.Truth.Epoch,.int .i64 c_0.Truth.Leader,pv0_2]) rfl ?_
 obtain ⟨v88,hx89,hF90⟩:=qk hk48
 simp only [zg,B0,reduceIte,a9]
 refine qb1 rfl hS83 (qi (zv (qi qo (qi qo (qi (a0c ph0_2 hS83 rfl (fun _=>rfl) (fun _=>rfl)) zc)))) zc) (qdt
   (fun b hb=>decide_eq_true hb) c_0.Truth v88 hx89) ?_
 rintro _ h95 ⟨v91,c92,rfl,hv93,hS96⟩
 refine ⟨_,uz (qm rfl (qm rfl (qm (SlF.free1 hv93) zq))),hS96,(jz (SlF.pf hv93 (fun _=>rfl)) yu),fun h97 hS98=>?_⟩
 have hS99:Sep h97 lo (c92++(pc0_2++(c16++(pc0_4++([Blk1 b5 [.int .i64 0,.int .i64 0,.nil,.nil,.nil] 28]++([Blk1 b35 [.int .i64 s41.View.Epoch,
   .int .i64 s41.View.Leader,v23,v27,v43,.int .i64 s41.Told] 68]++(c24++(c28++(c44++(S0)))))))))):=by simpa only [List.append_assoc,List.nil_append] using hS98
 simp only [f87,qt,qb,d8,d9,e8,zd,zp,B0,reduceIte,a9]
 refine zm (us:=[.int .i64 v88.Epoch,.int .i64 v88.Leader,v91]) rfl (cs':=[.int .i64 v88.Epoch,.int .i64 v88.Leader,v91,v27,v43,
   .int .i64 s41.Told]) (t9 hS99) hW rfl (qm rfl (qm rfl (qm (l7 hv93) zq))) (nle rfl) rfl (fun h100 hS101=>?_)
 simp only [qa,q1o,qc,qd,f85,qt,qb,d8,d9,e8,qs,qn,B0,reduceIte,a9]
 refine qh (v:=pv0_3) rfl ?_
 simp only [f84,qf,f87,qn,B0,reduceIte,a9]
 refine qh (v := .agg [.int .i64 v88.Epoch,.int .i64 v88.Leader,v91,v27,v43,.int .i64 s41.Told]) ((zu (o9 _ _ _ hS101)).trans rfl) ?_
 simp only [jl,B0,reduceIte,a9]
 refine qh (SlG.ia hv19 hx12) ?_
 simp only [zp,B0,reduceIte,a9]
 refine wb (n:=6) (us:=[.int .i64 v88.Epoch,.int .i64 v88.Leader,v91,v27,v43,.int .i64 s41.Told]) (cs:=[.int .i64 x11.View.Epoch,.int .i64 x11.View.Leader,
   v23,v27,v31,.int .i64 x11.Told]) (o:=0) (cs':=[.int .i64 v88.Epoch,.int .i64 v88.Leader,v91,v27,v43,
   .int .i64 s41.Told]) rfl hv19 rfl hx12 (l6 hS101) hW rfl (qm rfl (qm rfl (qm (l7 hv93) (qm (l7 hv29) (qm (l7 hv45) (qm rfl zq))))))
   (nle rfl) rfl (fun c104 h102 hv105 hS103=>?_)
 simp only [qa,qc,qd,f85,qn,B0,reduceIte,a9]
 refine qh (v := .agg [.int .i64 c_0.Truth.Epoch,.int .i64 c_0.Truth.Leader,pv0_2,pv0_3,pv0_4]) rfl ?_
 simp only [f86,zp,B0,reduceIte,a9]
 refine zm (us:=[.int .i64 c_0.Truth.Epoch,.int .i64 c_0.Truth.Leader,pv0_2,pv0_3,pv0_4]) rfl (cs':=[.int .i64 c_0.Truth.Epoch,.int .i64 c_0.Truth.Leader,pv0_2,
   pv0_3,pv0_4]) (t9 hS103) hW rfl (qm rfl (qm rfl (qm (l7 ph0_2) (qm (a3g hv105) (qm (l7 ph0_4) zq))))) (nle rfl) rfl
   (fun h106 hS107=>?_)
 simp only [qa,qx,B0,reduceIte,a9]
 obtain ⟨c108,hv109,hS110⟩:=a2o (e':=(Node.mk v88 x11.Log s41.Known s41.Told)) (c:=c104) (os:=c92++(c28++(c44))) hv105 rfl hx12 z8 (Node.RI (x :=
   (Node.mk v88 x11.Log s41.Known s41.Told)) hv93 hv29 hv45) (a0q (c1:=c92) (c2:=c28) (c3:=c44) (n9 (t9 (i5 (i5 hS107)))))
 have hx111:=kj (x':=(Node.mk v88 x11.Log s41.Known s41.Told)) hx12
 have hv112:=a0s hv109
 have he:=qj hF90
 subst he
 refine yo (bb:=b5) (oo:=0) (v := .agg [.int .i64 c_0.Truth.Epoch,.int .i64 c_0.Truth.Leader,pv0_2,pv0_3,pv0_4]) (by simp only [f86,B0,reduceIte,
   a9]) ((zu (o9 _ _ _ (n7 hS110))).trans rfl) ?_
 exact ⟨pc0_2,c108,pc0_4,by first | trivial | rfl,ph0_2,hv112,ph0_4,(l9 (n7 (l9 (o8 (l6 (o8 (n7 (o8 (n7 hS110)))))))))⟩
theorem qmp {W:Nat→Bool}{h:Heap}{lo:Nat→Prop}{S0:List Obj} (hW:∀ b,
  lo b→W b=true) (k:Nat) (v_0:Cluster) (pv0_2:XV) (pc0_2:List Obj) (ph0_2:SlF cI 1 3 pv0_2 v_0.Truth.InStep pc0_2) (pv0_3:XV) (pc0_3:List Obj)
  (ph0_3:SlN Node.R 6 68 pv0_3 v_0.Nodes pc0_3) (pv0_4:XV) (pc0_4:List Obj) (ph0_4:SlF qg 2 92 pv0_4 v_0.Acked pc0_4) (v_1:Int) (v_2:Int) (v_3:Int)
  (r:Cluster) (hF:qca k v_0 v_1 v_2 v_3=some r) (hS:Sep h lo (pc0_2++(pc0_3++(pc0_4++(S0))))) : Ret E W 85 [.agg [.int .i64 v_0.Truth.Epoch,
  .int .i64 v_0.Truth.Leader,pv0_2,pv0_3,pv0_4],.int .i64 v_1,.int .i64 v_2,.int .i64 v_3] h (fun v h'=>∃ rc0_2 rc0_3 rc0_4,v = .agg [.int .i64 r.Truth.Epoch,
  .int .i64 r.Truth.Leader,pv0_2,pv0_3,
  pv0_4]∧SlF cI 1 3 pv0_2 r.Truth.InStep rc0_2∧SlN Node.R 6 68 pv0_3 r.Nodes rc0_3∧SlF qg 2 92 pv0_4 r.Acked rc0_4∧Sep h' lo (rc0_2++(rc0_3++(rc0_4 ++
  (S0))))):=by
 refine Ret.of (fn:=x85) rfl (Run.of ?_)
 unfold qca at hF
 have zf0:zb [.agg [.int .i64 v_0.Truth.Epoch,.int .i64 v_0.Truth.Leader,pv0_2,pv0_3,pv0_4],.int .i64 v_1,.int .i64 v_2,
   .int .i64 v_3] 0 = .agg [.int .i64 v_0.Truth.Epoch,.int .i64 v_0.Truth.Leader,pv0_2,pv0_3,pv0_4]:=rfl
 have zf1:zb [.agg [.int .i64 v_0.Truth.Epoch,.int .i64 v_0.Truth.Leader,pv0_2,pv0_3,pv0_4],.int .i64 v_1,.int .i64 v_2,.int .i64 v_3] 1 = .int .i64 v_1:=rfl
 have zf2:zb [.agg [.int .i64 v_0.Truth.Epoch,.int .i64 v_0.Truth.Leader,pv0_2,pv0_3,pv0_4],.int .i64 v_1,.int .i64 v_2,.int .i64 v_3] 2 = .int .i64 v_2:=rfl
 have zf3:zb [.agg [.int .i64 v_0.Truth.Epoch,.int .i64 v_0.Truth.Leader,pv0_2,pv0_3,pv0_4],.int .i64 v_1,.int .i64 v_2,.int .i64 v_3] 3 = .int .i64 v_3:=rfl
 generalize zb [.agg [.int .i64 v_0.Truth.Epoch,.int .i64 v_0.Truth.Leader,pv0_2,pv0_3,pv0_4],.int .i64 v_1,.int .i64 v_2,.int .i64 v_3]=fr0 at zf0 zf1 zf2 zf3 ⊢
 simp only [x85,qc,qd,jp,zf0,B0,reduceIte,a9]
 refine je (cs:=[.int .i64 v_0.Truth.Epoch,.int .i64 v_0.Truth.Leader,pv0_2,pv0_3,
   pv0_4]) hS rfl rfl (qm rfl (qm rfl (qm (l7 ph0_2) (qm (a09 ph0_3) (qm (l7 ph0_4) zq))))) (fun b1 h2 hS3=>?_)
 simp only [kd,B0,reduceIte,a9]
 refine jt hS3 (fun b5 h6 hS7=>?_)
 simp only [qa,B0,reduceIte,a9]
 refine zx (n7 hS7) hW (by simp only [B0,reduceIte,a9]) (fun h9 hS10=>?_)
 simp only [zw,qwb,qc,qd,qt,qb,d8,d9,e8,qs,qn,B0,reduceIte,a9]
 refine qh (v:=pv0_3) rfl ?_
 obtain ⟨x11,hx12,hF13⟩:=qk hF
 simp only [zf1,qf,jl,B0,reduceIte,a9]
 obtain ⟨b14,hb15⟩:=a21 ph0_3 (j9 hx12)
 refine qh (SlN.ia ph0_3 hb15 hx12) ?_
 obtain ⟨c16,cs17,os18,hv19,hR20,hS21⟩:=a1t (a14 ph0_3 hb15 Node.RO.len) hx12 z8 Node.RO.len (l9 hS10)
 obtain ⟨v23,c24,v27,c28,v31,c32,hv25,hv29,hv33,rfl,rfl⟩:=hR20
 have hS22:=a1v hS21
 simp only [qn,B0,reduceIte,a9]
 refine qh (v := .agg [.int .i64 x11.View.Epoch,.int .i64 x11.View.Leader,v23,v27,v31,.int .i64 x11.Told]) ((SlG.lds (o:=0) hv19 rfl hx12 hS22 (nle rfl)).trans rfl) ?_
 simp only [kd,B0,reduceIte,a9]
 refine jt hS22 (fun b35 h36 hS37=>?_)
 simp only [zp,B0,reduceIte,a9]
 refine zm (us:=[.int .i64 x11.View.Epoch,.int .i64 x11.View.Leader,v23,v27,v31,.int .i64 x11.Told]) rfl (cs':=[.int .i64 x11.View.Epoch,
   .int .i64 x11.View.Leader,v23,v27,v31,
   .int .i64 x11.Told]) hS37 hW rfl (qm rfl (qm rfl (qm (l7 hv25) (qm (l7 hv29) (qm (l7 hv33) (qm rfl zq)))))) (nle rfl) rfl
   (fun h39 hS40=>?_)
 simp only [qa,qvy,qc,qd,qt,qb,d8,d9,e8,qs,qn,B0,reduceIte,a9]
 refine qh (v:=pv0_3) rfl ?_
 obtain ⟨x41,hx42,hF43⟩:=qk hF13
 simp only [zf2,qf,jl,B0,reduceIte,a9]
 refine qh (SlG.ia hv19 hx42) ?_
 obtain ⟨hp44,hF45⟩:=qmt hF43
 have hn46:=qr6 hp44 hx12 hx42
 obtain ⟨c47,cs48,os49,hv50,hR51,hS52⟩:=a1t hv19 hx42 ((qge hn46).trans z8) Node.RO.len (n7 hS40)
 obtain ⟨v54,c55,v58,c59,v62,c63,hv56,hv60,hv64,rfl,rfl⟩:=hR51
 have hS53:=a1v hS52
 simp only [qn,B0,reduceIte,a9]
 refine qh (v := .agg [.int .i64 x41.View.Epoch,.int .i64 x41.View.Leader,v54,v58,v62,.int .i64 x41.Told]) ((SlG.lds (o:=0) hv50 rfl hx42 hS53 (nle rfl)).trans rfl) ?_
 simp only [kd,B0,reduceIte,a9]
 refine jt hS53 (fun b66 h67 hS68=>?_)
 simp only [zp,B0,reduceIte,a9]
 refine zm (us:=[.int .i64 x41.View.Epoch,.int .i64 x41.View.Leader,v54,v58,v62,.int .i64 x41.Told]) rfl (cs':=[.int .i64 x41.View.Epoch,
   .int .i64 x41.View.Leader,v54,v58,v62,
   .int .i64 x41.Told]) hS68 hW rfl (qm rfl (qm rfl (qm (l7 hv56) (qm (l7 hv60) (qm (l7 hv64) (qm rfl zq)))))) (nle rfl) rfl
   (fun h70 hS71=>?_)
 simp only [qa,B0,reduceIte,a9]
 refine zx hS71 hW (by simp only [B0,reduceIte,a9]) (fun h72 hS73=>?_)
 simp only [zw,q72,qc,qd,qt,qb,d8,d9,e8,zd,qn,B0,reduceIte,a9]
 refine qh (v:=v27) ((jv (o9 _ _ _ (n9 hS73))).trans rfl) ?_
 simp only [qt,qb,d8,d9,e8,qs,qn,B0,reduceIte,a9]
 refine qh (v:=v58) rfl ?_
 obtain ⟨v74,hx75,hF76⟩:=qk hF45
 simp only [zg,B0,reduceIte,a9]
 refine jo rfl (qi (a0c hv29 (s9 hS73) rfl (fun _=>rfl) (fun _=>rfl)) (qi (a0c hv60 (l9 hS73) rfl (fun _=>rfl) (fun _=>rfl)) zc))
   (qio (fun b hb=>decide_eq_true hb) k x11.Log x41.Log v74 hx75) ?_
 simp only [qf,qa,q3t,qc,qd,zf3,qt,qb,d8,d9,e8,qs,qn,B0,reduceIte,a9]
 refine qh (v:=v58) rfl ?_
 simp only [zy,qb,a1n hv60,qf,qz,qgz,qf6,qa,q1c,q9,B0,reduceIte,a9]
 obtain ⟨s77,hX79,hk80⟩:=qk hF76
 refine qh5 (t:=(decide ((l4 .i64 ((f0 x41.Log:Int) - v74))<v_3)))
   (fun fr' h'=>fr' 1 = .int .i64 v_1∧fr' 2 = .int .i64 v_2∧fr' 3 = .int .i64 s77∧fr' 4 = .ref [.int .i64 v_0.Truth.Epoch,.int .i64 v_0.Truth.Leader,pv0_2,pv0_3,
   pv0_4] 0∧fr' 8 = .ptr b5 0∧fr' 9 = .ptr b35 0∧fr' 10 = .ref [.int .i64 x41.View.Epoch,.int .i64 x41.View.Leader,v54,v58,v62,
   .int .i64 x41.Told] 0∧fr' 11 = .int .i64 v74∧Sep h' lo (pc0_2++(c47++(pc0_4++([Blk1 b5 [.int .i64 0,.int .i64 0,.nil,.nil,
   .nil] 28]++([Blk1 b35 [.int .i64 x11.View.Epoch,.int .i64 x11.View.Leader,v23,v27,v31,
   .int .i64 x11.Told] 68]++(c55++(c59++(c63++(c24++(c28++(c32++(S0))))))))))))) (fun Q81 hN82 hR83 hE84=>⟨fun hc85=>?_,fun hc85=>?_⟩) ?_
 ·rw [iteT hc85] at hX79
  simp only [q1y,qd,qt,qb,d8,d9,e8,qs,qn,B0,reduceIte,a9]
  refine qh (v:=v58) rfl ?_
  simp only [zy,qb,a1n hv60,qf,qz,qgz,qa,qp,B0,reduceIte,a9]
  have e86:=qj hX79
  subst e86
  exact hN82 _ _ ⟨zf1,zf2,rfl,rfl,rfl,rfl,rfl,rfl,(Sep.m10 (Sep.m9 (Sep.m10 (i5 (o7 (s9 (s9 (s9 (o7 (o7 (o7 hS73)))))))))))⟩
 ·rw [iteF hc85] at hX79
  simp only [zh,qp,B0,reduceIte,a9]
  have e87:=qj hX79
  subst e87
  exact hN82 _ _ ⟨zf1,zf2,zf3,rfl,rfl,rfl,rfl,rfl,(Sep.m10 (Sep.m9 (Sep.m10 (i5 (o7 (s9 (s9 (s9 (o7 (o7 (o7 hS73)))))))))))⟩
 rintro fr88 h89 ⟨f91,f92,f93,f94,f95,f96,f97,f98,hS90⟩
 unfold qb4 at hk80
 simp only [qzn,qc,qd,ws,evp,B0,reduceIte,a9]
 refine yp (n:=2) (f:=qg) ([] : List Row) hS90 rfl rfl (fun v99 c100 h101 hv102 hS103=>?_)
 simp only [f97,qt,qb,d8,d9,e8,qs,qn,B0,reduceIte,a9]
 refine qh (v:=v58) rfl ?_
 obtain ⟨l105,hx106,hF107⟩:=qk hk80
 simp only [f98,qf,f93,qz,qb,wn,qej,t8,a0m,B0,reduceIte,a9]
 obtain ⟨w108,i109,he110,hw111⟩:=SlF.win (f:=qg) (ty:=92) none (some (l4 .i64 (v74+s77))) hv60 hx106 (o7 hS103)
 refine qh he110 ?_
 simp only [um,B0,reduceIte,a9]
 obtain ⟨l112,hx113,hF114⟩:=qk hF107
 refine wm (f:=qg) hv102 hS103 hW (fun _=>rfl) (fun _=>rfl) (SlW.first hw111 hv60 (o7 hS103) (fun _=>rfl)) hx113 (fun v115 c116 h117 hv118 hS119=>?_)
 simp only [f96,qt,qb,d8,d9,e8,zd,zp,B0,reduceIte,a9]
 refine zm (us:=[v115]) (kg (l7 hv118)) (cs':=[.int .i64 x11.View.Epoch,.int .i64 x11.View.Leader,v23,v115,v31,
   .int .i64 x11.Told]) (t9 hS119) hW rfl (qm (l7 hv118) zq) (nle rfl) rfl (fun h121 hS122=>?_)
 simp only [qa,q73,qc,qd,f96,qt,qb,d8,d9,e8,zd,zp,B0,reduceIte,a9]
 refine zm (us:=[.int .i64 0]) rfl (cs':=[.int .i64 x11.View.Epoch,.int .i64 x11.View.Leader,v23,v115,v31,
   .int .i64 0]) hS122 hW rfl rfl (nle rfl) rfl (fun h123 hS124=>?_)
 simp only [qa,q21,qc,qd,f97,qt,qb,d8,d9,e8,qs,qn,B0,reduceIte,a9]
 refine qh (v:=v62) rfl ?_
 simp only [f91,qf,f96,qt,qb,d8,d9,e8,zd,qn,B0,reduceIte,a9]
 refine qh (v:=v115) ((jv (o9 _ _ _ hS124)).trans rfl) ?_
 obtain ⟨x125,hx126,hF127⟩:=qk hF114
 simp only [zy,qb,a1n hv118,jl,B0,reduceIte,a9]
 obtain ⟨b128,hb129⟩:=a04 hv64 (j9 hx126)
 refine qh (a16 hv64 hb129 hx126) ?_
 simp only [zp,B0,reduceIte,a9]
 refine qb5 (f:=cI) (x':=(f0 l112:Int)) (o:=0) hv64 (i5 hS124) hW hb129 hx126 (fun _=>rfl) rfl rfl (nle rfl) rfl (fun c132 h130 hv133 hS131=>?_)
 have hx134:=kj (x':=(f0 l112:Int)) hx126
 simp only [qa,q6u,qc,qd,f94,qt,qb,d8,d9,e8,qs,qn,B0,reduceIte,a9]
 refine qh (v:=pv0_3) rfl ?_
 simp only [f91,qf,f96,qn,B0,reduceIte,a9]
 refine qh (v := .agg [.int .i64 x11.View.Epoch,.int .i64 x11.View.Leader,v23,v115,v31,.int .i64 0]) ((zu (o9 _ _ _ (n7 hS131))).trans rfl) ?_
 simp only [jl,B0,reduceIte,a9]
 refine qh (SlG.ia hv50 hx12) ?_
 have hv137:=SlG.swap hv50 (Ne.symm hn46)
 simp only [zp,B0,reduceIte,a9]
 refine wb (n:=6) (us:=[.int .i64 x11.View.Epoch,.int .i64 x11.View.Leader,v23,v115,v31,.int .i64 0]) (cs:=[.int .i64 x11.View.Epoch,.int .i64 x11.View.Leader,
   v23,v27,v31,.int .i64 x11.Told]) (o:=0) (cs':=[.int .i64 x11.View.Epoch,.int .i64 x11.View.Leader,v23,v115,v31,
   .int .i64 0]) rfl hv137 rfl hx12 (n9 hS131) hW rfl (qm rfl (qm rfl (qm (l7 hv25) (qm (l7 hv118) (qm (l7 hv33) (qm rfl zq))))))
   (nle rfl) rfl (fun c138 h135 hv139 hS136=>?_)
 simp only [qa,q5s,qc,qd,f94,qt,qb,d8,d9,e8,qs,qn,B0,reduceIte,a9]
 refine qh (v:=pv0_3) rfl ?_
 simp only [f92,qf,f97,qn,B0,reduceIte,a9]
 refine qh (v := .agg [.int .i64 x41.View.Epoch,.int .i64 x41.View.Leader,v54,v58,v62,.int .i64 x41.Told]) rfl ?_
 simp only [jl,B0,reduceIte,a9]
 refine qh (SlG.ia hv139 hx42) ?_
 have hv142:=SlG.swap hv139 hn46
 simp only [zp,B0,reduceIte,a9]
 refine wb (n:=6) (us:=[.int .i64 x41.View.Epoch,.int .i64 x41.View.Leader,v54,v58,v62,.int .i64 x41.Told]) (cs:=[.int .i64 x41.View.Epoch,
   .int .i64 x41.View.Leader,v54,v58,v62,.int .i64 x41.Told]) (o:=0) (cs':=[.int .i64 x41.View.Epoch,.int .i64 x41.View.Leader,v54,v58,v62,
   .int .i64 x41.Told]) rfl hv142 rfl hx42 hS136 hW rfl (qm rfl (qm rfl (qm (l7 hv56) (qm (l7 hv60) (qm (l7 hv133) (qm rfl zq))))))
   (nle rfl) rfl (fun c143 h140 hv144 hS141=>?_)
 simp only [qa,qc,qd,f94,qn,B0,reduceIte,a9]
 refine qh (v := .agg [.int .i64 v_0.Truth.Epoch,.int .i64 v_0.Truth.Leader,pv0_2,pv0_3,pv0_4]) rfl ?_
 simp only [f95,zp,B0,reduceIte,a9]
 refine zm (us:=[.int .i64 v_0.Truth.Epoch,.int .i64 v_0.Truth.Leader,pv0_2,pv0_3,pv0_4]) rfl (cs':=[.int .i64 v_0.Truth.Epoch,.int .i64 v_0.Truth.Leader,pv0_2,
   pv0_3,pv0_4]) (s9 hS141) hW rfl (qm rfl (qm rfl (qm (l7 ph0_2) (qm (a3g hv144) (qm (l7 ph0_4) zq))))) (nle rfl) rfl
   (fun h145 hS146=>?_)
 simp only [qa,qx,B0,reduceIte,a9]
 obtain ⟨c147,hv148,hS149⟩:=a2o (e':=(Node.mk x41.View x41.Log (a0u x41.Known v_1.toNat (f0 l112:Int)) x41.Told)) (c:=c143) (os:=c55++(c59 ++
   (c132))) hv144 rfl hx42 ((qge hn46).trans z8) (Node.RI (x:=(Node.mk x41.View x41.Log (a0u x41.Known v_1.toNat
   (f0 l112:Int)) x41.Told)) hv56 hv60 hv133) (a0q (c1:=c55) (c2:=c59) (c3:=c132) (n9 (i5 (i5 (l9 hS146)))))
 have hx150:=kj (x':=(Node.mk x41.View x41.Log (a0u x41.Known v_1.toNat (f0 l112:Int)) x41.Told)) hx42
 have hx151:=qk2 (e:=(Node.mk x41.View x41.Log (a0u x41.Known v_1.toNat (f0 l112:Int)) x41.Told)) hx12 (Ne.symm hn46)
 obtain ⟨c152,hv153,hS154⟩:=a2o (e':=(Node.mk x11.View l112 x11.Known 0)) (c:=c147) (os:=c24++(c116++(c32))) hv148 rfl hx151 z8 (Node.RI (x :=
   (Node.mk x11.View l112 x11.Known 0)) hv25 hv118 hv33) (a0q (c1:=c24) (c2:=c116) (c3:=c32) (l6 (o7 (n9 (i5 hS149)))))
 have hx155:=kj (x':=(Node.mk x11.View l112 x11.Known 0)) hx151
 have hv156:=a0s hv153
 have he:=qj hF127
 subst he
 refine yo (bb:=b5) (oo:=0) (v := .agg [.int .i64 v_0.Truth.Epoch,.int .i64 v_0.Truth.Leader,pv0_2,pv0_3,pv0_4]) (by simp only [f95,B0,reduceIte,
   a9]) ((zu (o9 _ _ _ (n7 hS154))).trans rfl) ?_
 exact ⟨pc0_2,c152,pc0_4,by first | trivial | rfl,ph0_2,hv156,ph0_4,(l9 (n7 (l9 (o8 (l6 (o8 (n7 (o8 (n7 hS154)))))))))⟩
theorem qpo {W:Nat→Bool}{h:Heap}{lo:Nat→Prop}{S0:List Obj} (hW:∀ b,
  lo b→W b=true) (k:Nat) (pv0:XV) (pc0:List Obj) (l_0:List Int) (ph0:SlF cI 1 3 pv0 l_0 pc0) (n_1:Int) (r:List Int) (hF:qew k l_0 n_1=some r)
  (hS:Sep h lo (pc0++(S0))) : Ret E W 98 [pv0,.int .i64 n_1] h (fun v h'=>∃ rv0 rc0,v=rv0∧SlF cI 1 3 rv0 r rc0∧Sep h' lo (rc0++(S0))):=by
 refine Ret.of (fn:=x98) rfl (Run.of ?_)
 unfold qew at hF
 have zf0:zb [pv0,.int .i64 n_1] 0=pv0:=rfl
 have zf1:zb [pv0,.int .i64 n_1] 1 = .int .i64 n_1:=rfl
 generalize zb [pv0,.int .i64 n_1]=fr0 at zf0 zf1 ⊢
 simp only [x98,qc,qd,qf,qa,qv3,qyl,B0,reduceIte,a9]
 obtain ⟨oc5,hX7,hk8⟩:=ka hF
 simp only [q3g]
 refine w5 (σ:=Int) (fun s47=>qd3 l_0 n_1 s47) (fun s fr' h'=>fr' 0=pv0∧fr' 1 = .int .i64 n_1∧fr' 5 = .int .i64 s∧Sep h' lo (pc0++(S0))) hX7 ⟨zf0,
   zf1,rfl,hS⟩ (fun _ _ _ h=>h) ?_ ?_
 ·rintro s2 fr17 h18 ⟨f20,f21,f22,hS19⟩ oc6 hF9 hr10 Q11 hN12 hK13 hR14 hE15
  unfold qd3 at hF9
  simp only [q25,qc,qd,f22,qf,f20,zy,qb,a1n ph0,qz,kq,B0,reduceIte,a9]
  obtain ⟨v27,hx28,hF29⟩:=qk hF9
  refine ji 7 (fun fr' h'=>Sep h' lo (pc0++(S0))∧fr' 18 = .bool v27∧fr' 0=pv0∧fr' 1 = .int .i64 n_1∧fr' 5 = .int .i64 s2) (fun Q24 hN25=>?_) ?_
  ·simp only [f4,i7]
   simp only [qe (g:=11),B0,reduceIte,a9]
   refine ze (t:=(decide (s2<(f0 l_0:Int)))) (fun hg26=>?_) (fun hg26=>?_)
   ·rw [iteT hg26] at hx28
    obtain ⟨x30,hx31,hF32⟩:=qk hx28
    simp only [hg26,qe (g:=11),zi,f20,qf,f22,jl,B0,reduceIte,a9]
    obtain ⟨b33,hb34⟩:=a04 ph0 (j9 hx31)
    refine qh (a16 ph0 hb34 hx31) ?_
    simp only [hg26,qe (g:=11),zi,qn,B0,reduceIte,a9]
    refine qh (v := .int .i64 x30) ((SlF.ld (o:=0) ph0 hS19 hb34 hx31 (fun _=>rfl) (nle rfl)).trans rfl) ?_
    simp only [hg26,qe (g:=11),zi,f21,qf,qz,qb,kq,qw,zo,qa,qp,B0,reduceIte,a9]
    have e35:=qj hF32
    exact hN25 _ _ ⟨hS19,by rw [←e35]; simp only [B0,reduceIte,a9],f20,f21,f22⟩
   ·rw [iteF hg26] at hx28
    simp only [hg26,qe (g:=11),jj,qw,qb,zn,qa,qp,B0,reduceIte,a9]
    have e36:=qj hx28
    exact hN25 _ _ ⟨hS19,by rw [←e36]; simp only [B0,reduceIte,a9],f20,f21,f22⟩
  rintro fr37 h42 ⟨hS43,f38,f39,f40,f41⟩
  simp only [i0,i6]
  simp only [qa,f38,q9,B0,reduceIte,a9]
  refine qy (t:=v27) (fun hc44=>?_) (fun hc44=>?_)
  ·rw [iteT hc44] at hF29
   simp only [zh,kz,qd,f41,qf,qz,qb,wn,qa,yl,qp,B0,reduceIte,a9]
   have e45:=qj hF29
   exact hN12 _ _ _ e45.symm ⟨f39,f40,rfl,hS43⟩
  rw [iteF hc44] at hF29
  simp only [yy,yn,wh,B0,reduceIte,a9]
  have e46:=qj hF29
  exact hK13 _ _ _ e46.symm ⟨f39,f40,f41,hS43⟩
 rintro s48 fr49 h50 rfl ⟨f52,f53,f54,hS51⟩
 dsimp only [jnO] at hk8
 unfold qf2 at hk8
 simp only [q7b,qc,qd,f54,qf,f52,zy,qb,a1n ph0,qz,kq,B0,reduceIte,a9]
 obtain ⟨v58,hx59,hF60⟩:=qk hk8
 refine ji 7 (fun fr' h'=>Sep h' lo (pc0++(S0))∧fr' 32 = .bool v58∧fr' 0=pv0∧fr' 1 = .int .i64 n_1∧fr' 5 = .int .i64 s48) (fun Q55 hN56=>?_) ?_
 ·simp only [f4,i7]
  simp only [qe (g:=25),B0,reduceIte,a9]
  refine ze (t:=(decide (s48<(f0 l_0:Int)))) (fun hg57=>?_) (fun hg57=>?_)
  ·rw [iteT hg57] at hx59
   obtain ⟨x61,hx62,hF63⟩:=qk hx59
   simp only [hg57,qe (g:=25),zi,f52,qf,f54,jl,B0,reduceIte,a9]
   obtain ⟨b64,hb65⟩:=a04 ph0 (j9 hx62)
   refine qh (a16 ph0 hb65 hx62) ?_
   simp only [hg57,qe (g:=25),zi,qn,B0,reduceIte,a9]
   refine qh (v := .int .i64 x61) ((SlF.ld (o:=0) ph0 hS51 hb65 hx62 (fun _=>rfl) (nle rfl)).trans rfl) ?_
   simp only [hg57,qe (g:=25),zi,f53,qf,qz,qb,k6,qw,zo,qa,qp,B0,reduceIte,a9]
   have e66:=qj hF63
   exact hN56 _ _ ⟨hS51,by rw [←e66]; simp only [B0,reduceIte,a9],f52,f53,f54⟩
  ·rw [iteF hg57] at hx59
   simp only [hg57,qe (g:=25),jj,qw,qb,zn,qa,qp,B0,reduceIte,a9]
   have e67:=qj hx59
   exact hN56 _ _ ⟨hS51,by rw [←e67]; simp only [B0,reduceIte,a9],f52,f53,f54⟩
 rintro fr68 h73 ⟨hS74,f69,f70,f71,f72⟩
 simp only [i0,i6]
 simp only [qa,q4p,f69,q9,B0,reduceIte,a9]
 refine qy (t:=v58) (fun hc75=>?_) (fun hc75=>?_)
 ·rw [iteT hc75] at hF60
  simp only [qc,qd,f70,qf,qa,qx,B0,reduceIte,a9]
  have he:=qj hF60
  subst he
  simp only [q8,B0,reduceIte,a9]
  exact ⟨pv0,pc0,by first | trivial | rfl,ph0,hS74⟩
 rw [iteF hc75] at hF60
 obtain ⟨l76,hx77,hF78⟩:=qk hF60
 simp only [zh,q1m,qc,qd,qf,qa,q1x,f70,f72,qej,t8,a0m,B0,reduceIte,a9]
 obtain ⟨w79,i80,he81,hw82⟩:=SlF.win (f:=cI) (ty:=3) none (some s48) ph0 hx77 hS74
 refine qh he81 ?_
 simp only [um,B0,reduceIte,a9]
 obtain ⟨l83,hx84,hF85⟩:=qk hF78
 refine wm (f:=cI) SlF.nil hS74 hW (fun _=>rfl) (fun _=>rfl) (SlW.first hw82 ph0 hS74 (fun _=>rfl)) hx84 (fun v86 c87 h88 hv89 hS90=>?_)
 simp only [qf,qa,q4x,qc,qd,f71,ws,evp,B0,reduceIte,a9]
 refine yp (n:=1) (f:=cI) [n_1] hS90 rfl rfl (fun v92 c93 h94 hv95 hS96=>?_)
 simp only [um,B0,reduceIte,a9]
 obtain ⟨l98,hx99,hF100⟩:=qk hF85
 refine wm (f:=cI) hv89 (n7 hS96) hW (fun _=>rfl) (fun _=>rfl) (SlF.first hv95 hS96 (fun _=>rfl)) hx99 (fun v101 c102 h103 hv104 hS105=>?_)
 obtain ⟨l107,hx108,hF109⟩:=qk hF100
 simp only [qf,qa,q3c,qc,qd,f70,f72,qej,t8,a0m,B0,reduceIte,a9]
 obtain ⟨w110,i111,he112,hw113⟩:=SlF.win (f:=cI) (ty:=3) (some s48) none ph0 hx108 (l9 hS105)
 refine qh he112 ?_
 simp only [um,B0,reduceIte,a9]
 obtain ⟨l114,hx115,hF116⟩:=qk hF109
 refine wm (f:=cI) hv104 hS105 hW (fun _=>rfl) (fun _=>rfl) (SlW.first hw113 ph0 (l9 hS105) (fun _=>rfl)) hx115 (fun v117 c118 h119 hv120 hS121=>?_)
 simp only [qf,qa,qx,B0,reduceIte,a9]
 have he:=qj hF116
 subst he
 simp only [q8,B0,reduceIte,a9]
 exact ⟨v117,c118,by first | trivial | rfl,hv120,(o8 (n7 (o8 (n7 hS121))))⟩
theorem xq {W:Nat→Bool}{h:Heap}{lo:Nat→Prop}{S0:List Obj} (hW:∀ b,
  lo b→W b=true) (k:Nat) (c_0:Cluster) (pv0_2:XV) (pc0_2:List Obj) (ph0_2:SlF cI 1 3 pv0_2 c_0.Truth.InStep pc0_2) (pv0_3:XV) (pc0_3:List Obj)
  (ph0_3:SlN Node.R 6 68 pv0_3 c_0.Nodes pc0_3) (pv0_4:XV) (pc0_4:List Obj) (ph0_4:SlF qg 2 92 pv0_4 c_0.Acked pc0_4) (k_1:Int) (to_2:Int) (in_3:Bool)
  (r:Cluster) (hF:yw k c_0 k_1 to_2 in_3=some r) (hS:Sep h lo (pc0_2++(pc0_3++(pc0_4++(S0))))) : Ret E W 86 [.agg [.int .i64 c_0.Truth.Epoch,
  .int .i64 c_0.Truth.Leader,pv0_2,pv0_3,pv0_4],.int .i64 k_1,.int .i64 to_2,.bool in_3] h (fun v h'=>∃ rv0_2 rc0_2 rc0_3 rc0_4,v = .agg [.int .i64 r.Truth.Epoch,
  .int .i64 r.Truth.Leader,rv0_2,pv0_3,
  pv0_4]∧SlF cI 1 3 rv0_2 r.Truth.InStep rc0_2∧SlN Node.R 6 68 pv0_3 r.Nodes rc0_3∧SlF qg 2 92 pv0_4 r.Acked rc0_4∧Sep h' lo (rc0_2++(rc0_3++(rc0_4 ++
  (S0))))):=by
 refine Ret.of (fn:=x86) rfl (Run.of ?_)
 unfold yw at hF
 have zf0:zb [.agg [.int .i64 c_0.Truth.Epoch,.int .i64 c_0.Truth.Leader,pv0_2,pv0_3,pv0_4],.int .i64 k_1,.int .i64 to_2,
   .bool in_3] 0 = .agg [.int .i64 c_0.Truth.Epoch,.int .i64 c_0.Truth.Leader,pv0_2,pv0_3,pv0_4]:=rfl
 have zf1:zb [.agg [.int .i64 c_0.Truth.Epoch,.int .i64 c_0.Truth.Leader,pv0_2,pv0_3,pv0_4],.int .i64 k_1,.int .i64 to_2,.bool in_3] 1 = .int .i64 k_1:=rfl
 have zf2:zb [.agg [.int .i64 c_0.Truth.Epoch,.int .i64 c_0.Truth.Leader,pv0_2,pv0_3,pv0_4],.int .i64 k_1,.int .i64 to_2,.bool in_3] 2 = .int .i64 to_2:=rfl
 have zf3:zb [.agg [.int .i64 c_0.Truth.Epoch,.int .i64 c_0.Truth.Leader,pv0_2,pv0_3,pv0_4],.int .i64 k_1,.int .i64 to_2,.bool in_3] 3 = .bool in_3:=rfl
 generalize zb [.agg [.int .i64 c_0.Truth.Epoch,.int .i64 c_0.Truth.Leader,pv0_2,pv0_3,pv0_4],.int .i64 k_1,.int .i64 to_2,.bool in_3]=fr0 at zf0 zf1 zf2 zf3 ⊢
 simp only [x86,qc,qd,jp,zf0,B0,reduceIte,a9]
 refine je (cs:=[.int .i64 c_0.Truth.Epoch,.int .i64 c_0.Truth.Leader,pv0_2,pv0_3,
   pv0_4]) hS rfl rfl (qm rfl (qm rfl (qm (l7 ph0_2) (qm (a09 ph0_3) (qm (l7 ph0_4) zq))))) (fun b1 h2 hS3=>?_)
 simp only [kd,B0,reduceIte,a9]
 refine jt hS3 (fun b5 h6 hS7=>?_)
 simp only [qa,qww,qc,qd,qf,qvl,qt,qb,d8,d9,e8,zd,qn,B0,reduceIte,a9]
 refine qh (v:=pv0_2) ((jv (o9 _ _ _ (n7 hS7))).trans rfl) ?_
 simp only [zy,qb,a1n ph0_2,qf,qa,B0,reduceIte,a9]
 obtain ⟨oc21,hX23,hk24⟩:=ka hF
 simp only [q5g]
 refine qgo (σ:=(List Int)) (fun i19 s69=>xd c_0 to_2 i19 s69) (fun s fr' h'=>∃ v16 c17,
   fr' 1 = .int .i64 k_1∧fr' 2 = .int .i64 to_2∧fr' 3 = .bool in_3∧fr' 4 = .ptr b1 0∧fr' 8 = .ptr b5 0∧fr' 9=v16∧fr' 14=pv0_2∧SlF cI 1 3 v16 s c17∧Sep h' lo ([Blk1 b1 [.int .i64 c_0.Truth.Epoch,
   .int .i64 c_0.Truth.Leader,pv0_2,pv0_3,pv0_4] 28]++([Blk1 b5 [.int .i64 0,.int .i64 0,.nil,.nil,
   .nil] 28]++(c17++(pc0_2++(pc0_3++(pc0_4++(S0)))))))) hX23 ⟨.nil,[],zf1,zf2,zf3,rfl,rfl,rfl,rfl,SlF.nil,
   ((n9 (l6 (n9 (n9 (n9 hS7))))) : Sep _ lo ([Blk1 b1 [.int .i64 c_0.Truth.Epoch,.int .i64 c_0.Truth.Leader,pv0_2,pv0_3,
   pv0_4] 28]++([Blk1 b5 [.int .i64 0,.int .i64 0,.nil,.nil,.nil] 28]++(pc0_2++(pc0_3++(pc0_4++(S0)))))))⟩ (by simp only [B0,reduceIte,
   a9]) (by simp only [B0,reduceIte,a9]) (fun _ _ _ h=>h) rfl rfl (fun _ _ _ _ h=>h) (fun _ _ _ _ h=>h) (fun _ _ _ _ h=>h) (by decide) ?_ ?_
 ·rintro i19 s14 fr33 h34 hx43 ⟨v16,c17,f36,f37,f38,f39,f40,f41,f42,hv18,hS35⟩ f44 f45 oc22 hF25 hr26 Q27 hN28 hB32 hK29 hR30 hE31
  unfold xd at hF25
  obtain ⟨x46,hx47,hF48⟩:=qk hF25
  simp only [qz9,qc,qd,f42,f44,jl,B0,reduceIte,a9]
  obtain ⟨b49,hb50⟩:=a04 ph0_2 (j9 hx47)
  refine qh (a16 ph0_2 hb50 hx47) ?_
  simp only [qn,B0,reduceIte,a9]
  refine qh (v := .int .i64 x46) ((SlF.ld (o:=0) ph0_2 (l6 hS35) hb50 hx47 (fun _=>rfl) (nle rfl)).trans rfl) ?_
  simp only [qf,qa,q1q,qc,qd,f37,qz,qb,ya,qyj,q9,B0,reduceIte,a9]
  refine qy (t:=(decide (x46≠to_2))) (fun hc51=>?_) (fun hc51=>?_)
  ·rw [iteT hc51] at hF48
   simp only [q4b,qd,f41,qf,ws,evp,B0,reduceIte,a9]
   refine yp (n:=1) (f:=cI) [x46] hS35 rfl rfl (fun v52 c53 h54 hv55 hS56=>?_)
   simp only [um,B0,reduceIte,a9]
   obtain ⟨l58,hx59,hF60⟩:=qk hF48
   refine wm (f:=cI) hv18 (l6 hS56) hW (fun _=>rfl) (fun _=>rfl) (SlF.first hv55 hS56 (fun _=>rfl)) hx59 (fun v61 c62 h63 hv64 hS65=>?_)
   simp only [qf,qa,qp,B0,reduceIte,a9]
   have e67:=qj hF60
   exact hN28 _ _ _ e67.symm ⟨v61,c62,f36,f37,f38,f39,f40,rfl,f42,hv64,(t9 (t9 (l6 (t9 (t9 (t9 (o8 (n7 hS65))))))))⟩ (f44) (f45)
  rw [iteF hc51] at hF48
  simp only [zh,qp,B0,reduceIte,a9]
  have e68:=qj hF48
  exact hN28 _ _ _ e68.symm ⟨v16,c17,f36,f37,f38,f39,f40,f41,f42,hv18,(t9 (t9 (t9 (t9 (t9 (t9 hS35))))))⟩ (f44) (f45)
 rintro s70 fr75 h76 rfl ⟨v72,c73,f78,f79,f80,f81,f82,f83,f84,hv74,hS77⟩
 dsimp only [jnO] at hk24
 unfold qdu at hk24
 simp only [qu0,qc,qd,f80,qf,qa,q7m,q9,B0,reduceIte,a9]
 obtain ⟨s85,hX91,hk92⟩:=qk hk24
 refine qh5 (t:=in_3) (fun fr' h'=>∃ v87 c88,
   fr' 1 = .int .i64 k_1∧fr' 4 = .ptr b1 0∧fr' 8 = .ptr b5 0∧fr' 9=v87∧SlF cI 1 3 v87 s85 c88∧Sep h' lo ([Blk1 b1 [.int .i64 c_0.Truth.Epoch,
   .int .i64 c_0.Truth.Leader,pv0_2,pv0_3,pv0_4] 28]++([Blk1 b5 [.int .i64 0,.int .i64 0,.nil,.nil,
   .nil] 28]++(c88++(pc0_2++(pc0_3++(pc0_4++(S0)))))))) (fun Q93 hN94 hR95 hE96=>⟨fun hc97=>?_,fun hc97=>?_⟩) ?_
 ·rw [iteT hc97] at hX91
  obtain ⟨v98,hx99,hF100⟩:=qk hX91
  simp only [q2i,qd,f83,qf,f79,zg,B0,reduceIte,a9]
  refine y9 rfl (qpo hW k v72 c73 s70 hv74 to_2 v98 hx99 (l9 hS77)) ?_
  rintro v101 h105 ⟨_,c102,rfl,hv103,hS106⟩
  simp only [qf,qa,qp,B0,reduceIte,a9]
  have e107:=qj hF100
  subst e107
  exact hN94 _ _ ⟨v101,c102,f78,f81,f82,rfl,hv103,(t9 (t9 (l6 (t9 (t9 (t9 hS106))))))⟩
 ·rw [iteF hc97] at hX91
  simp only [zh,qp,B0,reduceIte,a9]
  have e108:=qj hX91
  subst e108
  exact hN94 _ _ ⟨v72,c73,f78,f81,f82,f83,hv74,(t9 (t9 (t9 (t9 (t9 (t9 hS77))))))⟩
 rintro fr109 h110 ⟨v87,c88,f112,f113,f114,f115,hv89,hS111⟩
 unfold qbk at hk92
 simp only [qu1,qc,qd,f115,qf,f113,qt,qb,d8,d9,e8,zd,zp,B0,reduceIte,a9]
 refine zm (us:=[v87]) (kg (l7 hv89)) (cs':=[.int .i64 c_0.Truth.Epoch,.int .i64 c_0.Truth.Leader,v87,pv0_3,
   pv0_4]) hS111 hW rfl (qm (l7 hv89) zq) (nle rfl) rfl (fun h116 hS117=>?_)
 simp only [qa,q2y,qc,js,f113,qb2,ql,d8,d9,e8,zd,w9,B0,reduceIte,a9]
 refine qeh (Sep.ltk hS117) ?_
 refine qu (v:=pv0_3) ((jv (o9 _ _ _ hS117)).trans rfl) ?_
 simp only [f112,qkq,ql,qfq,evp,B0,reduceIte,a9]
 refine qdo (n:=1) (f:=cI) ([] : List Int) hS117 rfl rfl (fun v119 c120 h121 hv122 hS123 hq118=>?_)
 simp only [f115,zr,ql,qkl,B0,reduceIte,a9]
 obtain ⟨l125,hx126,hF127⟩:=qk hk92
 have hq128:=nwq (fun z hz=>Sep.dj (n7 (n7 hS123)) qfo (a23 hv122 z hz))
 have hq129:=nwq (fun z hz=>Sep.dj (n7 (l9 hS123)) qfo (a23 hv122 z hz))
 refine qog (qpr (fun z hz=>Sep.dj (n7 (n7 hS123)) qfo (a23 hv122 z hz)) qme) ?_
 refine qa6 (f:=cI) hv122 hS123 hW (fun _=>rfl) (fun _=>rfl) (SlF.first hv89 (l6 hS123) (fun _=>rfl)) hx126 (fun v130 c131 h132 hv133 hS134=>?_)
 obtain ⟨x136,hx137,hF138⟩:=qk hF127
 simp only [yz,B0,reduceIte,a9]
 obtain ⟨b139,hb140⟩:=a21 ph0_3 (j9 hx137)
 refine qu (SlN.ia ph0_3 hb140 hx137) ?_
 obtain ⟨c143,cs144,os145,hv146,hR147,hS148⟩:=a1t (a14 ph0_3 hb140 Node.RO.len) hx137 z8 Node.RO.len (t9 hS134)
 obtain ⟨v150,c151,v154,c155,v158,c159,hv152,hv156,hv160,rfl,rfl⟩:=hR147
 have hS149:=a1v hS148
 simp only [jb,ql,d8,d9,e8,zd,qcu,B0,reduceIte,a9]
 refine qiu (n:=6) (us:=[v130]) (cs:=[.int .i64 x136.View.Epoch,.int .i64 x136.View.Leader,v150,v154,v158,
   .int .i64 x136.Told]) (o:=2) (cs':=[.int .i64 x136.View.Epoch,.int .i64 x136.View.Leader,v130,v154,v158,
   .int .i64 x136.Told]) (kg (l7 hv133)) hv146 rfl hx137 hS149 hW rfl (qm (l7 hv133) zq) (nle rfl) rfl (fun c162 h141 hv163 hS142=>?_)
 simp only [za,qc,qd,f113,qn,B0,reduceIte,a9]
 refine qh (v := .agg [.int .i64 c_0.Truth.Epoch,.int .i64 c_0.Truth.Leader,v87,pv0_3,pv0_4]) ((zu (o9 _ _ _ (t9 hS142))).trans rfl) ?_
 simp only [f114,zp,B0,reduceIte,a9]
 refine zm (us:=[.int .i64 c_0.Truth.Epoch,.int .i64 c_0.Truth.Leader,v87,pv0_3,pv0_4]) rfl (cs':=[.int .i64 c_0.Truth.Epoch,.int .i64 c_0.Truth.Leader,v87,
   pv0_3,pv0_4]) (s9 hS142) hW rfl (qm rfl (qm rfl (qm (l7 hv89) (qm (a3g hv163) (qm (l7 ph0_4) zq))))) (nle rfl) rfl (fun h164 hS165=>?_)
 simp only [qa,qx,B0,reduceIte,a9]
 obtain ⟨c166,hv167,hS168⟩:=a2o (e':=(Node.mk (View.mk x136.View.Epoch x136.View.Leader l125) x136.Log x136.Known x136.Told)) (c:=c162) (os:=c131++(c155 ++
   (c159))) hv163 rfl hx137 z8 (Node.RI (x:=(Node.mk (View.mk x136.View.Epoch x136.View.Leader l125) x136.Log x136.Known x136.Told)) hv133 hv156 hv160) (a0q
   (c1:=c131) (c2:=c155) (c3:=c159) (n9 (t9 (n9 (n9 hS165)))))
 have hx169:=kj (x':=(Node.mk (View.mk x136.View.Epoch x136.View.Leader l125) x136.Log x136.Known x136.Told)) hx137
 have hv170:=a0s hv167
 have he:=qj hF138
 subst he
 refine yo (bb:=b5) (oo:=0) (v := .agg [.int .i64 c_0.Truth.Epoch,.int .i64 c_0.Truth.Leader,v87,pv0_3,pv0_4]) (by simp only [f114,B0,reduceIte,
   a9]) ((zu (o9 _ _ _ (n7 hS168))).trans rfl) ?_
 exact ⟨v87,c88,c166,pc0_4,by first | trivial | rfl,hv89,hv170,ph0_4,
   (l9 (n7 (l9 (o8 (l9 (o8 (n7 (o8 (n7 (o8 (n7 hS168)))))))))))⟩
theorem qet {W:Nat→Bool}{h:Heap} (hW:∀ b,
  (geL h.length) b→W b=true) (x_0:Node) (r:Int) (hF:ut x_0=some r) : Ret E W 87 [.agg [.int .i64 x_0.View.Epoch,.int .i64 x_0.View.Leader,
  lst cI x_0.View.InStep,lst qg x_0.Log,lst cI x_0.Known,.int .i64 x_0.Told]] h (fun v h'=>cut h.length h' E.sz false 9 v=some (.int .i64 r)):=by
 refine Ret.of (fn:=x87) rfl (Run.of ?_)
 unfold ut at hF
 have zf0:zb [.agg [.int .i64 x_0.View.Epoch,.int .i64 x_0.View.Leader,lst cI x_0.View.InStep,lst qg x_0.Log,lst cI x_0.Known,
   .int .i64 x_0.Told]] 0 = .agg [.int .i64 x_0.View.Epoch,.int .i64 x_0.View.Leader,lst cI x_0.View.InStep,lst qg x_0.Log,lst cI x_0.Known,
   .int .i64 x_0.Told]:=rfl
 generalize zb [.agg [.int .i64 x_0.View.Epoch,.int .i64 x_0.View.Leader,lst cI x_0.View.InStep,lst qg x_0.Log,lst cI x_0.Known,.int .i64 x_0.Told]]=fr0 at zf0 ⊢
 have hS:Sep h (geL h.length) []:=Sep.nil h
 simp only [x87,qc,qd,jp,zf0,B0,reduceIte,a9]
 refine je (cs:=[.int .i64 x_0.View.Epoch,.int .i64 x_0.View.Leader,lst cI x_0.View.InStep,lst qg x_0.Log,lst cI x_0.Known,
   .int .i64 x_0.Told]) hS rfl rfl rfl (fun b1 h2 hS3=>?_)
 simp only [qf,qa,B0,reduceIte,a9]
 refine zx hS3 hW (by simp only [B0,reduceIte,a9]) (fun h5 hS6=>?_)
 simp only [zw,q46,qc,qd,qf,qa,qz4,qt,qb,d8,d9,e8,qs,qn,B0,reduceIte,
   a9]
 refine qh (v:=lst qg x_0.Log) rfl ?_
 simp only [zy,qb,jd,qf,qa,B0,reduceIte,a9]
 obtain ⟨oc11,hX13,hk14⟩:=ka hF
 simp only [q7l]
 refine wv (σ:=Int) x_0.Log (fun i9 x10 s43=>qag x_0 i9 x10 s43) (fun s fr' h'=>fr' 1 = .ref [.int .i64 x_0.View.Epoch,.int .i64 x_0.View.Leader,
   lst cI x_0.View.InStep,lst qg x_0.Log,lst cI x_0.Known,
   .int .i64 x_0.Told] 0∧fr' 3 = .int .i64 s∧fr' 7=lst qg x_0.Log∧Sep h' (geL h.length) ([])) hX13 ⟨rfl,rfl,rfl,hS6⟩ (by simp only [B0,reduceIte,
   a9]) (by simp only [B0,reduceIte,a9]) (fun _ _ _ h=>h) rfl rfl (fun _ _ _ _ h=>h) (fun _ _ _ _ h=>h) (fun _ _ _ _ h=>h) (by decide) ?_ ?_
 ·rintro i9 x10 s8 fr23 h24 hx29 ⟨f26,f27,f28,hS25⟩ f30 f31 oc12 hF15 hr16 Q17 hN18 hB22 hK19 hR20 hE21
  unfold qag at hF15
  simp only [q6p,qc,qd,f28,f30,jl,B0,reduceIte,a9]
  refine qh (v := .ref (qg x10) 0) (wx hx29 rfl) ?_
  simp only [qn,B0,reduceIte,a9]
  refine qh (v := .agg [.int .i64 x10.Epoch,.int .i64 x10.Value]) rfl ?_
  simp only [kd,B0,reduceIte,a9]
  refine jt hS25 (fun b32 h33 hS34=>?_)
  simp only [zp,B0,reduceIte,a9]
  refine zm (us:=[.int .i64 x10.Epoch,.int .i64 x10.Value]) rfl (cs':=[.int .i64 x10.Epoch,.int .i64 x10.Value]) hS34 hW rfl rfl (nle rfl) rfl (fun h36 hS37=>?_)
  simp only [qa,B0,reduceIte,a9]
  refine zx hS37 hW (by simp only [B0,reduceIte,a9]) (fun h38 hS39=>?_)
  simp only [zw,q18,qc,qd,qt,qb,d8,d9,e8,qs,qn,B0,reduceIte,a9]
  refine qh (v := .int .i64 x10.Epoch) rfl ?_
  simp only [f26,qt,qb,d8,d9,e8,qs,qn,B0,reduceIte,a9]
  refine qh (v := .int .i64 x_0.View.Epoch) rfl ?_
  simp only [qz,qb,kq,qa,q6t,q9,B0,reduceIte,a9]
  refine qy (t:=(decide (x10.Epoch<x_0.View.Epoch))) (fun hc40=>?_) (fun hc40=>?_)
  ·rw [iteT hc40] at hF15
   simp only [qd,f27,qf,qz,qb,wn,qa,qp,B0,reduceIte,a9]
   have e41:=qj hF15
   exact hN18 _ _ _ e41.symm ⟨f26,rfl,f28,hS39⟩ (f30) (f31)
  rw [iteF hc40] at hF15
  simp only [zh,qp,B0,reduceIte,a9]
  have e42:=qj hF15
  exact hN18 _ _ _ e42.symm ⟨f26,f27,f28,hS39⟩ (f30) (f31)
 rintro s44 fr45 h46 rfl ⟨f48,f49,f50,hS47⟩
 dsimp only [jnO] at hk14
 unfold qg6 at hk14
 simp only [qc,qd,f49,qf,qa,qx,B0,reduceIte,a9]
 have he:=qj hk14
 subst he
 simp only [q8,B0,reduceIte,a9]
 exact rfl
end Go.Proofs.Ytohofoampalhoaa.X
namespace Go.Proofs.Ytohofoampalhoaa.X
open Go
theorem qaa {W:Nat→Bool}{h:Heap}{lo:Nat→Prop}{S0:List Obj} (hW:∀ b,
  lo b→W b=true) (c_0:Cluster) (pv0_2:XV) (pc0_2:List Obj) (ph0_2:SlF cI 1 3 pv0_2 c_0.Truth.InStep pc0_2) (pv0_3:XV) (pc0_3:List Obj)
  (ph0_3:SlN Node.R 6 68 pv0_3 c_0.Nodes pc0_3) (pv0_4:XV) (pc0_4:List Obj) (ph0_4:SlF qg 2 92 pv0_4 c_0.Acked pc0_4) (k_1:Int) (r:Cluster × Bool)
  (hF:wq c_0 k_1=some r) (hS:Sep h lo (pc0_2++(pc0_3++(pc0_4++(S0))))) : Ret E W 88 [.agg [.int .i64 c_0.Truth.Epoch,.int .i64 c_0.Truth.Leader,pv0_2,
  pv0_3,pv0_4],.int .i64 k_1] h (fun v h'=>∃ rc0_2 rc0_3 rv0_4 rc0_4,v = .tup [.agg [.int .i64 r.1.Truth.Epoch,.int .i64 r.1.Truth.Leader,pv0_2,pv0_3,rv0_4],
  .bool r.2]∧SlF cI 1 3 pv0_2 r.1.Truth.InStep rc0_2∧SlN Node.R 6 68 pv0_3 r.1.Nodes rc0_3∧SlF qg 2 92 rv0_4 r.1.Acked rc0_4∧Sep h' lo (rc0_2++(rc0_3 ++
  (rc0_4++(S0))))):=by
 refine Ret.of (fn:=x88) rfl (Run.of ?_)
 unfold wq at hF
 have zf0:zb [.agg [.int .i64 c_0.Truth.Epoch,.int .i64 c_0.Truth.Leader,pv0_2,pv0_3,pv0_4],.int .i64 k_1] 0 = .agg [.int .i64 c_0.Truth.Epoch,
   .int .i64 c_0.Truth.Leader,pv0_2,pv0_3,pv0_4]:=rfl
 have zf1:zb [.agg [.int .i64 c_0.Truth.Epoch,.int .i64 c_0.Truth.Leader,pv0_2,pv0_3,pv0_4],.int .i64 k_1] 1 = .int .i64 k_1:=rfl
 generalize zb [.agg [.int .i64 c_0.Truth.Epoch,.int .i64 c_0.Truth.Leader,pv0_2,pv0_3,pv0_4],.int .i64 k_1]=fr0 at zf0 zf1 ⊢
 simp only [x88,qc,qd,jp,zf0,B0,reduceIte,a9]
 refine je (cs:=[.int .i64 c_0.Truth.Epoch,.int .i64 c_0.Truth.Leader,pv0_2,pv0_3,
   pv0_4]) hS rfl rfl (qm rfl (qm rfl (qm (l7 ph0_2) (qm (a09 ph0_3) (qm (l7 ph0_4) zq))))) (fun b1 h2 hS3=>?_)
 simp only [kd,B0,reduceIte,a9]
 refine jt hS3 (fun b5 h6 hS7=>?_)
 simp only [qf,qa,qwc,qc,qd,qt,qb,d8,d9,e8,zd,qn,B0,reduceIte,a9]
 refine qh (v:=pv0_3) ((jv (o9 _ _ _ (n7 hS7))).trans rfl) ?_
 obtain ⟨x9,hx10,hF11⟩:=qk hF
 simp only [zf1,qf,jl,B0,reduceIte,a9]
 obtain ⟨b12,hb13⟩:=a21 ph0_3 (j9 hx10)
 refine qh (SlN.ia ph0_3 hb13 hx10) ?_
 obtain ⟨c14,cs15,os16,hv17,hR18,hS19⟩:=a1t (a14 ph0_3 hb13 Node.RO.len) hx10 z8 Node.RO.len (l6 hS7)
 obtain ⟨v21,c22,v25,c26,v29,c30,hv23,hv27,hv31,rfl,rfl⟩:=hR18
 have hS20:=a1v hS19
 simp only [qn,B0,reduceIte,a9]
 refine qh (v := .agg [.int .i64 x9.View.Epoch,.int .i64 x9.View.Leader,v21,v25,v29,.int .i64 x9.Told]) ((SlG.lds (o:=0) hv17 rfl hx10 hS20 (nle rfl)).trans rfl) ?_
 simp only [kd,B0,reduceIte,a9]
 refine jt hS20 (fun b33 h34 hS35=>?_)
 simp only [zp,B0,reduceIte,a9]
 refine zm (us:=[.int .i64 x9.View.Epoch,.int .i64 x9.View.Leader,v21,v25,v29,.int .i64 x9.Told]) rfl (cs':=[.int .i64 x9.View.Epoch,.int .i64 x9.View.Leader,
   v21,v25,v29,.int .i64 x9.Told]) hS35 hW rfl (qm rfl (qm rfl (qm (l7 hv23) (qm (l7 hv27) (qm (l7 hv31) (qm rfl zq)))))) (nle rfl) rfl
   (fun h37 hS38=>?_)
 simp only [qa,qtr,qc,qd,qf,qvq,qt,qb,d8,d9,e8,zd,qn,B0,reduceIte,a9]
 refine qh (v:=v21) ((jv (o9 _ _ _ hS38)).trans rfl) ?_
 simp only [zy,qb,a1n hv23,qf,qa,B0,reduceIte,a9]
 obtain ⟨oc43,hX45,hk46⟩:=ka hF11
 simp only [q4l]
 refine qgo (σ:=Int) (fun i41 s80=>qa2 x9 i41 s80)
   (fun s fr' h'=>fr' 1 = .int .i64 k_1∧fr' 2 = .ptr b1 0∧fr' 4 = .ptr b5 0∧fr' 6 = .ptr b33 0∧fr' 7 = .int .i64 s∧fr' 17=v21∧Sep h' lo
   ([Blk1 b1 [.int .i64 c_0.Truth.Epoch,.int .i64 c_0.Truth.Leader,pv0_2,pv0_3,pv0_4] 28]++([Blk1 b5 [.int .i64 0,.int .i64 0,.nil,.nil,
   .nil] 28]++([Blk1 b33 [.int .i64 x9.View.Epoch,.int .i64 x9.View.Leader,v21,v25,v29,
   .int .i64 x9.Told] 68]++(c22++(pc0_2++(c14++(pc0_4++(c26++(c30++(S0))))))))))) hX45 ⟨zf1,rfl,rfl,rfl,rfl,rfl,
   (i5 (o7 (s9 (s9 (i5 (n9 (i5 (n9 (n9 hS38)))))))))⟩ (by simp only [B0,reduceIte,a9]) (by simp only [B0,reduceIte,
   a9]) (fun _ _ _ h=>h) rfl rfl (fun _ _ _ _ h=>h) (fun _ _ _ _ h=>h) (fun _ _ _ _ h=>h) (by decide) ?_ ?_
 ·rintro i41 s40 fr55 h56 hx64 ⟨f58,f59,f60,f61,f62,f63,hS57⟩ f65 f66 oc44 hF47 hr48 Q49 hN50 hB54 hK51 hR52 hE53
  unfold qa2 at hF47
  obtain ⟨x67,hx68,hF69⟩:=qk hF47
  simp only [qyp,qc,qd,f63,f65,jl,B0,reduceIte,a9]
  obtain ⟨b70,hb71⟩:=a04 hv23 (j9 hx68)
  refine qh (a16 hv23 hb71 hx68) ?_
  simp only [qn,B0,reduceIte,a9]
  refine qh (v := .int .i64 x67) ((SlF.ld (o:=0) hv23 (l6 hS57) hb71 hx68 (fun _=>rfl) (nle rfl)).trans rfl) ?_
  simp only [qf,qa,q5o,qc,qd,f61,qt,qb,d8,d9,e8,zd,qn,B0,reduceIte,a9]
  refine qh (v:=v29) ((jv (o9 _ _ _ (l9 hS57))).trans rfl) ?_
  obtain ⟨x72,hx73,hF74⟩:=qk hF69
  simp only [qf,jl,B0,reduceIte,a9]
  obtain ⟨b75,hb76⟩:=a04 hv31 (j9 hx73)
  refine qh (a16 hv31 hb76 hx73) ?_
  simp only [qn,B0,reduceIte,a9]
  refine qh (v := .int .i64 x72) ((SlF.ld (o:=0) hv31 (i5 hS57) hb76 hx73 (fun _=>rfl) (nle rfl)).trans rfl) ?_
  simp only [f62,qf,qz,qb,kq,qa,q2s,q9,B0,reduceIte,a9]
  refine qy (t:=(decide (x72<s40))) (fun hc77=>?_) (fun hc77=>?_)
  ·rw [iteT hc77] at hF74
   simp only [q2x,qd,f61,qt,qb,d8,d9,e8,zd,qn,B0,reduceIte,a9]
   refine qh (v:=v29) ((jv (o9 _ _ _ (l9 hS57))).trans rfl) ?_
   simp only [qf,jl,B0,reduceIte,a9]
   refine qh (a16 hv31 hb76 hx73) ?_
   simp only [qn,B0,reduceIte,a9]
   refine qh (v := .int .i64 x72) ((SlF.ld (o:=0) hv31 (i5 hS57) hb76 hx73 (fun _=>rfl) (nle rfl)).trans rfl) ?_
   simp only [qf,qa,qp,B0,reduceIte,a9]
   have e78:=qj hF74
   exact hN50 _ _ _ e78.symm ⟨f58,f59,f60,f61,rfl,f63,(i5 (i5 (i5 (i5 (i5 (i5 (i5 (i5 (i5 hS57)))))))))⟩ (f65) (f66)
  rw [iteF hc77] at hF74
  simp only [zh,qp,B0,reduceIte,a9]
  have e79:=qj hF74
  exact hN50 _ _ _ e79.symm ⟨f58,f59,f60,f61,f62,f63,(i5 (i5 (i5 (i5 (i5 (i5 (i5 (i5 (i5 hS57)))))))))⟩ (f65) (f66)
 rintro s81 fr82 h83 rfl ⟨f85,f86,f87,f88,f89,f90,hS84⟩
 dsimp only [jnO] at hk46
 unfold qev at hk46
 simp only [qt3,qc,qd,f89,qf,f88,qt,qb,d8,d9,e8,zd,qn,B0,reduceIte,a9]
 refine qh (v := .int .i64 x9.Told) ((jv (o9 _ _ _ (l9 hS84))).trans rfl) ?_
 simp only [qz,qb,qm1,qa,q3h,q9,B0,reduceIte,a9]
 refine qy (t:=(decide (s81≤x9.Told))) (fun hc91=>?_) (fun hc91=>?_)
 ·rw [iteT hc91] at hk46
  simp only [qc,qd,f86,qn,B0,reduceIte,a9]
  refine qh (v := .agg [.int .i64 c_0.Truth.Epoch,.int .i64 c_0.Truth.Leader,pv0_2,pv0_3,pv0_4]) ((zu (o9 _ _ _ hS84)).trans rfl) ?_
  simp only [f87,zp,B0,reduceIte,a9]
  refine zm (us:=[.int .i64 c_0.Truth.Epoch,.int .i64 c_0.Truth.Leader,pv0_2,pv0_3,pv0_4]) rfl (cs':=[.int .i64 c_0.Truth.Epoch,.int .i64 c_0.Truth.Leader,
    pv0_2,pv0_3,pv0_4]) (n7 hS84) hW rfl (qm rfl (qm rfl (qm (l7 ph0_2) (qm (a3g hv17) (qm (l7 ph0_4) zq))))) (nle rfl) rfl
    (fun h92 hS93=>?_)
  simp only [qf,qa,qx,B0,reduceIte,a9]
  obtain ⟨c94,hv95,hS96⟩:=SlG.cls0 (c:=c14) (os:=c22++(c26++(c30))) hv17 rfl hx10 z8 (Node.RI (x:=x9) hv23 hv27 hv31) (a0q (c1:=c22) (c2:=c26)
    (c3:=c30) (o7 (t9 (i5 (i5 hS93)))))
  have hv97:=a0s hv95
  have he:=qj hk46
  subst he
  refine jy (qi (j7 (bb:=b5) (oo:=0) (v := .agg [.int .i64 c_0.Truth.Epoch,.int .i64 c_0.Truth.Leader,pv0_2,pv0_3,
    pv0_4]) (f87) ((zu (o9 _ _ _ (n7 hS96))).trans rfl)) (qi (ye (v := .bool false) (rfl)) zc)) ?_
  exact ⟨pc0_2,c94,pv0_4,pc0_4,by first | trivial | rfl,ph0_2,hv97,ph0_4,(l9 (n7 (l9 (o8 (n7 (o8 (n7 (o8 (n7 hS96)))))))))⟩
 rw [iteF hc91] at hk46
 simp only [zh,qt5,qc,qd,f89,qf,f88,qt,qb,d8,d9,e8,zd,zp,B0,reduceIte,a9]
 refine zm (us:=[.int .i64 s81]) rfl (cs':=[.int .i64 x9.View.Epoch,.int .i64 x9.View.Leader,v21,v25,v29,
   .int .i64 s81]) (l9 hS84) hW rfl rfl (nle rfl) rfl (fun h98 hS99=>?_)
 simp only [qa,qs8,qc,qd,f86,qt,qb,d8,d9,e8,zd,qn,B0,reduceIte,a9]
 refine qh (v:=pv0_3) ((jv (o9 _ _ _ (n7 hS99))).trans rfl) ?_
 simp only [f85,qf,f88,qn,B0,reduceIte,a9]
 refine qh (v := .agg [.int .i64 x9.View.Epoch,.int .i64 x9.View.Leader,v21,v25,v29,.int .i64 s81]) ((zu (o9 _ _ _ hS99)).trans rfl) ?_
 simp only [jl,B0,reduceIte,a9]
 refine qh (SlG.ia hv17 hx10) ?_
 simp only [zp,B0,reduceIte,a9]
 refine wb (n:=6) (us:=[.int .i64 x9.View.Epoch,.int .i64 x9.View.Leader,v21,v25,v29,.int .i64 s81]) (cs:=[.int .i64 x9.View.Epoch,.int .i64 x9.View.Leader,
   v21,v25,v29,.int .i64 x9.Told]) (o:=0) (cs':=[.int .i64 x9.View.Epoch,.int .i64 x9.View.Leader,v21,v25,v29,
   .int .i64 s81]) rfl hv17 rfl hx10 (t9 hS99) hW rfl (qm rfl (qm rfl (qm (l7 hv23) (qm (l7 hv27) (qm (l7 hv31) (qm rfl zq))))))
   (nle rfl) rfl (fun c102 h100 hv103 hS101=>?_)
 simp only [qa,qv5,qc,qd,f89,qf,f86,qt,qb,d8,d9,e8,zd,qn,B0,reduceIte,a9]
 refine qh (v:=pv0_4) ((jv (o9 _ _ _ (l9 hS101))).trans rfl) ?_
 simp only [zy,qb,a1n ph0_4,qz,qf6,qa,q2b,q9,B0,reduceIte,a9]
 refine qy (t:=(decide ((f0 c_0.Acked:Int)<s81))) (fun hc104=>?_) (fun hc104=>?_)
 ·rw [iteT hc104] at hk46
  simp only [qzx,qd,ws,evp,B0,reduceIte,a9]
  refine yp (n:=2) (f:=qg) ([] : List Row) hS101 rfl rfl (fun v105 c106 h107 hv108 hS109=>?_)
  simp only [f88,qt,qb,d8,d9,e8,zd,qn,B0,reduceIte,a9]
  refine qh (v:=v25) ((jv (o9 _ _ _ (l9 hS109))).trans rfl) ?_
  obtain ⟨l111,hx112,hF113⟩:=qk hk46
  simp only [f89,qf,qej,t8,a0m,B0,reduceIte,a9]
  obtain ⟨w114,i115,he116,hw117⟩:=SlF.win (f:=qg) (ty:=92) none (some s81) hv27 hx112 (i5 hS109)
  refine qh he116 ?_
  simp only [um,B0,reduceIte,a9]
  obtain ⟨l118,hx119,hF120⟩:=qk hF113
  refine wm (f:=qg) hv108 hS109 hW (fun _=>rfl) (fun _=>rfl) (SlW.first hw117 hv27 (i5 hS109) (fun _=>rfl)) hx119 (fun v121 c122 h123 hv124 hS125=>?_)
  simp only [f86,qt,qb,d8,d9,e8,zd,zp,B0,reduceIte,a9]
  refine zm (us:=[v121]) (kg (l7 hv124)) (cs':=[.int .i64 c_0.Truth.Epoch,.int .i64 c_0.Truth.Leader,pv0_2,pv0_3,
    v121]) (l6 hS125) hW rfl (qm (l7 hv124) zq) (nle rfl) rfl (fun h127 hS128=>?_)
  simp only [qa,qc,qd,f86,qn,B0,reduceIte,a9]
  refine qh (v := .agg [.int .i64 c_0.Truth.Epoch,.int .i64 c_0.Truth.Leader,pv0_2,pv0_3,v121]) ((zu (o9 _ _ _ hS128)).trans rfl) ?_
  simp only [f87,zp,B0,reduceIte,a9]
  refine zm (us:=[.int .i64 c_0.Truth.Epoch,.int .i64 c_0.Truth.Leader,pv0_2,pv0_3,v121]) rfl (cs':=[.int .i64 c_0.Truth.Epoch,.int .i64 c_0.Truth.Leader,pv0_2,
    pv0_3,v121]) (n9 hS128) hW rfl (qm rfl (qm rfl (qm (l7 ph0_2) (qm (a3g hv103) (qm (l7 hv124) zq))))) (nle rfl) rfl
    (fun h129 hS130=>?_)
  simp only [qf,qa,qx,B0,reduceIte,a9]
  obtain ⟨c131,hv132,hS133⟩:=a2o (e':=(Node.mk x9.View x9.Log x9.Known s81)) (c:=c102) (os:=c22++(c26++(c30))) hv103 rfl hx10 z8 (Node.RI (x :=
    (Node.mk x9.View x9.Log x9.Known s81)) hv23 hv27 hv31) (a0q (c1:=c22) (c2:=c26) (c3:=c30) (s9 (o7 (Sep.m9 (Sep.m9 hS130)))))
  have hx134:=kj (x':=(Node.mk x9.View x9.Log x9.Known s81)) hx10
  have hv135:=a0s hv132
  have he:=qj hF120
  subst he
  refine jy (qi (j7 (bb:=b5) (oo:=0) (v := .agg [.int .i64 c_0.Truth.Epoch,.int .i64 c_0.Truth.Leader,pv0_2,pv0_3,
    v121]) (f87) ((zu (o9 _ _ _ (n7 hS133))).trans rfl)) (qi (ye (v := .bool true) (rfl)) zc)) ?_
  exact ⟨pc0_2,c131,v121,c122,by first | trivial | rfl,ph0_2,hv135,hv124,
    (l9 (n7 (n7 (o8 (l6 (o8 (l9 (o8 (n7 (o8 (n7 hS133)))))))))))⟩
 rw [iteF hc104] at hk46
 simp only [zh,qc,qd,f86,qn,B0,reduceIte,a9]
 refine qh (v := .agg [.int .i64 c_0.Truth.Epoch,.int .i64 c_0.Truth.Leader,pv0_2,pv0_3,pv0_4]) ((zu (o9 _ _ _ (l9 hS101))).trans rfl) ?_
 simp only [f87,zp,B0,reduceIte,a9]
 refine zm (us:=[.int .i64 c_0.Truth.Epoch,.int .i64 c_0.Truth.Leader,pv0_2,pv0_3,pv0_4]) rfl (cs':=[.int .i64 c_0.Truth.Epoch,.int .i64 c_0.Truth.Leader,pv0_2,
   pv0_3,pv0_4]) (l6 hS101) hW rfl (qm rfl (qm rfl (qm (l7 ph0_2) (qm (a3g hv103) (qm (l7 ph0_4) zq))))) (nle rfl) rfl
   (fun h136 hS137=>?_)
 simp only [qf,qa,qx,B0,reduceIte,a9]
 obtain ⟨c138,hv139,hS140⟩:=a2o (e':=(Node.mk x9.View x9.Log x9.Known s81)) (c:=c102) (os:=c22++(c26++(c30))) hv103 rfl hx10 z8 (Node.RI (x :=
   (Node.mk x9.View x9.Log x9.Known s81)) hv23 hv27 hv31) (a0q (c1:=c22) (c2:=c26) (c3:=c30) (n9 (s9 (i5 (i5 hS137)))))
 have hx141:=kj (x':=(Node.mk x9.View x9.Log x9.Known s81)) hx10
 have hv142:=a0s hv139
 have he:=qj hk46
 subst he
 refine jy (qi (j7 (bb:=b5) (oo:=0) (v := .agg [.int .i64 c_0.Truth.Epoch,.int .i64 c_0.Truth.Leader,pv0_2,pv0_3,
   pv0_4]) (f87) ((zu (o9 _ _ _ (n7 hS140))).trans rfl)) (qi (ye (v := .bool true) (rfl)) zc)) ?_
 exact ⟨pc0_2,c138,pv0_4,pc0_4,by first | trivial | rfl,ph0_2,hv142,ph0_4,(l9 (n7 (l9 (o8 (n7 (o8 (n7 (o8 (n7 hS140)))))))))⟩
end Go.Proofs.Ytohofoampalhoaa.X
