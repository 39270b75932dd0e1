/- The functions' code comes to what the plain functions say (2). -/
import Derived.Test.YtohofoampalhoaaXMH1
open Go.IntKind renaming wrap→a0a
open List renaming drop_succ_cons→t9,drop_zero→a0c,length→t6,set→a1u,take_succ_cons→t8,take_zero→a0d
open Nat renaming add_zero→t5,reduceAdd→s5,reduceEqDiff→a9,zero_add→s9
open Option renaming map_none→a1k,map_some→a02
open Go.Proofs.Ytohofoampalhoaa.X.Sep renaming bk→a0r,dc→a0s,m1→a0l,m2→a0k,m3→a0e,m4→a0i,m5→a03,m6→a0v,m7→a0j,m8→t7,ni3→a1p,nil→a1q,no3→a2x
open Go.Proofs.Ytohofoampalhoaa.X.SlF renaming first→a30,ia→a2u,isrow→a13,one→a0g,plen→a2i,rowfp→a31,snap→a06
open Go.Proofs.Ytohofoampalhoaa.X.SlG renaming cls→a3u,one→a4h,opn→a2w,toN→a1s
open Go.Proofs.Ytohofoampalhoaa.X.SlN renaming isrow→a4g,one→a10,toG→a26
set_option linter.unusedVariables false
set_option linter.unusedSimpArgs false
set_option maxRecDepth 100000
namespace Go.Proofs.Ytohofoampalhoaa.X
open Go
theorem qd2 {W:Nat→Bool}{h:Heap} (hW:∀ b,
  (geL h.length) b→W b=true) (f0:View) (r:View) (hF:xh f0=some r) : Ret E W 89 [.agg [.int .i64 f0.Epoch,.int .i64 f0.Leader,
  lst cI f0.InStep]] h (fun v h'=>∃ n9 l9,v = .agg [.int .i64 r.Epoch,.int .i64 r.Leader,
  n9]∧SlF cI 1 3 n9 r.InStep l9∧Sep h' (geL h.length) (l9++([]))):=by
 refine Ret.of (fn:=x89) rfl (Run.of ?_)
 unfold xh at hF
 have zf0:zb [.agg [.int .i64 f0.Epoch,.int .i64 f0.Leader,lst cI f0.InStep]] 0 = .agg [.int .i64 f0.Epoch,.int .i64 f0.Leader,lst cI f0.InStep]:=rfl
 generalize zb [.agg [.int .i64 f0.Epoch,.int .i64 f0.Leader,lst cI f0.InStep]]=fr0 at zf0 ⊢
 have hS:Sep h (geL h.length) []:=a1q h
 simp only [x89,qe,qc,j7,zf0,B0,reduceIte,a9]
 refine jm (cs:=[.int .i64 f0.Epoch,.int .i64 f0.Leader,lst cI f0.InStep]) hS rfl rfl rfl (fun b1 h2 hS3=>?_)
 simp only [kc,B0,reduceIte,a9]
 refine jp hS3 (fun b5 h6 hS7=>?_)
 simp only [qa,q2h,qe,qc,yh,evp,B0,reduceIte,a9]
 refine kx (n:=1) (f:=cI) ([] : List Int) hS7 rfl rfl (fun v9 c10 h11 hv12 hS13=>?_)
 simp only [qq,qb,s5,s9,t5,zd,qn,B0,reduceIte,a9]
 refine qg (v:=lst cI f0.InStep) ((jt (a0r _ _ _ (a0k hS13))).trans rfl) ?_
 simp only [wt,B0,reduceIte,a9]
 obtain ⟨l15,hx16,hF17⟩:=qi hF
 refine yn (f:=cI) hv12 hS13 hW (fun _=>rfl) (fun _=>rfl) (qah (fun _=>rfl)) hx16 (fun v18 c19 h20 hv21 hS22=>?_)
 simp only [qq,qb,s5,s9,t5,zd,zp,B0,reduceIte,a9]
 refine zm (us:=[v18]) (j8 (a0g hv21)) (cs':=[.int .i64 f0.Epoch,.int .i64 f0.Leader,
   v18]) (a0k hS22) hW rfl (qj (a0g hv21) zq) (nle rfl) rfl (fun h24 hS25=>?_)
 simp only [qa,qe,qc,qn,B0,reduceIte,a9]
 refine qg (v := .agg [.int .i64 f0.Epoch,.int .i64 f0.Leader,v18]) ((zr (a0r _ _ _ hS25)).trans rfl) ?_
 simp only [zp,B0,reduceIte,a9]
 refine zm (us:=[.int .i64 f0.Epoch,.int .i64 f0.Leader,v18]) rfl (cs':=[.int .i64 f0.Epoch,.int .i64 f0.Leader,
   v18]) (a0k hS25) hW rfl (qj rfl (qj rfl (qj (a0g hv21) zq))) (nle rfl) rfl (fun h26 hS27=>?_)
 simp only [qa,qw,B0,reduceIte,a9]
 have he:=qh hF17
 subst he
 refine xa (bb:=b5) (oo:=0) (v := .agg [.int .i64 f0.Epoch,.int .i64 f0.Leader,v18]) (by simp only [B0,reduceIte,
   a9]) ((zr (a0r _ _ _ hS27)).trans rfl) ?_
 exact ⟨v18,c19,by first | trivial | rfl,hv21,(a0s ((a0s (hS27))))⟩
theorem qmn {W:Nat→Bool}{h:Heap}{lo:Nat→Prop}{S0:List Obj} (hW:∀ b,
  lo b→W b=true) (l4:Cluster) (d9:XV) (i4:List Obj) (i8:SlF cI 1 3 d9 l4.Truth.InStep i4) (e8:XV) (l7:List Obj)
  (l6:SlN Node.R 6 68 e8 l4.Nodes l7) (f4:XV) (i5:List Obj) (l5:SlF qm 2 92 f4 l4.Acked i5) (k_1:Int) (r:Cluster)
  (hF:qcp l4 k_1=some r) (hS:Sep h lo (i4++(l7++(i5++(S0))))) : Ret E W 84 [.agg [.int .i64 l4.Truth.Epoch,.int .i64 l4.Truth.Leader,d9,
  e8,f4],.int .i64 k_1] h (fun v h'=>∃ l9 m0 n7,v = .agg [.int .i64 r.Truth.Epoch,.int .i64 r.Truth.Leader,d9,e8,
  f4]∧SlF cI 1 3 d9 r.Truth.InStep l9∧SlN Node.R 6 68 e8 r.Nodes m0∧SlF qm 2 92 f4 r.Acked n7∧Sep h' lo (l9++(m0++(n7 ++
  (S0))))):=by
 refine Ret.of (fn:=x84) rfl (Run.of ?_)
 unfold qcp at hF
 have zf0:zb [.agg [.int .i64 l4.Truth.Epoch,.int .i64 l4.Truth.Leader,d9,e8,f4],.int .i64 k_1] 0 = .agg [.int .i64 l4.Truth.Epoch,
   .int .i64 l4.Truth.Leader,d9,e8,f4]:=rfl
 have zf1:zb [.agg [.int .i64 l4.Truth.Epoch,.int .i64 l4.Truth.Leader,d9,e8,f4],.int .i64 k_1] 1 = .int .i64 k_1:=rfl
 generalize zb [.agg [.int .i64 l4.Truth.Epoch,.int .i64 l4.Truth.Leader,d9,e8,f4],.int .i64 k_1]=fr0 at zf0 zf1 ⊢
 simp only [x84,qe,qc,j7,zf0,B0,reduceIte,a9]
 refine jm (cs:=[.int .i64 l4.Truth.Epoch,.int .i64 l4.Truth.Leader,d9,e8,
   f4]) hS rfl rfl (qj rfl (qj rfl (qj (a0g i8) (qj (a10 l6) (qj (a0g l5) zq))))) (fun b1 h2 hS3=>?_)
 simp only [kc,B0,reduceIte,a9]
 refine jp hS3 (fun b5 h6 hS7=>?_)
 simp only [qa,B0,reduceIte,a9]
 refine jc (a0l hS7) hW (by simp only [B0,reduceIte,a9]) (fun h9 hS10=>?_)
 simp only [jd,qtl,qe,qc,qq,qb,s5,s9,t5,qr,qn,B0,reduceIte,a9]
 refine qg (v:=e8) rfl ?_
 obtain ⟨x11,hx12,hF13⟩:=qi hF
 simp only [zf1,qd,ji,B0,reduceIte,a9]
 obtain ⟨b14,hb15⟩:=a4g l6 (ka hx12)
 refine qg (SlN.ia l6 hb15 hx12) ?_
 obtain ⟨c16,cs17,os18,hv19,hR20,hS21⟩:=a2w (a26 l6 hb15 Node.RO.len) hx12 z7 Node.RO.len (a0k hS10)
 obtain ⟨v23,c24,v27,c28,v31,c32,hv25,hv29,hv33,rfl,rfl⟩:=hR20
 have hS22:=a2x hS21
 simp only [qn,B0,reduceIte,a9]
 refine qg (v := .agg [.int .i64 x11.View.Epoch,.int .i64 x11.View.Leader,v23,v27,v31,.int .i64 x11.Told]) ((SlG.lds (o:=0) hv19 rfl hx12 hS22 (nle rfl)).trans rfl) ?_
 simp only [kc,B0,reduceIte,a9]
 refine jp hS22 (fun b35 h36 hS37=>?_)
 simp only [zp,B0,reduceIte,a9]
 refine zm (us:=[.int .i64 x11.View.Epoch,.int .i64 x11.View.Leader,v23,v27,v31,.int .i64 x11.Told]) rfl (cs':=[.int .i64 x11.View.Epoch,
   .int .i64 x11.View.Leader,v23,v27,v31,
   .int .i64 x11.Told]) hS37 hW rfl (qj rfl (qj rfl (qj (a0g hv25) (qj (a0g hv29) (qj (a0g hv33) (qj rfl zq)))))) (nle rfl) rfl
   (fun h39 hS40=>?_)
 simp only [qa,q2m,qe,qc,qq,qb,s5,s9,t5,zd,qn,B0,reduceIte,a9]
 refine qg (v := .int .i64 x11.View.Epoch) ((jt (a0r _ _ _ hS40)).trans rfl) ?_
 simp only [qq,qb,s5,s9,t5,qr,qn,B0,reduceIte,a9]
 refine qg (v := .int .i64 l4.Truth.Epoch) rfl ?_
 simp only [qv,qb,ya,qa,q0m,qy,B0,reduceIte,a9]
 obtain ⟨s41,hX47,hk48⟩:=qi hF13
 refine qf4 (t:=(decide (x11.View.Epoch≠l4.Truth.Epoch))) (fun fr' h'=>∃ v43 c44,fr' 1 = .int .i64 k_1∧fr' 2 = .ref [.int .i64 l4.Truth.Epoch,
   .int .i64 l4.Truth.Leader,d9,e8,
   f4] 0∧fr' 4 = .ptr b5 0∧fr' 5 = .ptr b35 0∧SlF cI 1 3 v43 s41.Known c44∧Sep h' lo (i4++(c16++(i5++([Blk1 b5 [.int .i64 0,.int .i64 0,.nil,.nil,
   .nil] 28]++([Blk1 b35 [.int .i64 s41.View.Epoch,.int .i64 s41.View.Leader,v23,v27,v43,
   .int .i64 s41.Told] 68]++(c24++(c28++(c44++(S0)))))))))) (fun Q49 hN50 hR51 hE52=>⟨fun hc53=>?_,fun hc53=>?_⟩) ?_
 ·rw [iteT hc53] at hX47
  simp only [q4t,qe,qc,qq,qb,s5,s9,t5,qr,qn,B0,reduceIte,a9]
  refine qg (v:=e8) rfl ?_
  obtain ⟨l54,hx55,hF56⟩:=qi hX47
  simp only [zy,qb,SlG.plen hv19,qnm,B0,reduceIte,a9]
  refine qh0 (f:=cI) (z:=(0:Int)) hS40 hx55 rfl (fun v57 c58 h59 hv60 hS61=>?_)
  simp only [qq,qb,s5,s9,t5,zd,zp,B0,reduceIte,a9]
  refine zm (us:=[v57]) (j8 (a0g hv60)) (cs':=[.int .i64 x11.View.Epoch,.int .i64 x11.View.Leader,v23,v27,v57,
    .int .i64 x11.Told]) (a0l hS61) hW rfl (qj (a0g hv60) zq) (nle rfl) rfl (fun h63 hS64=>?_)
  simp only [qa,q8q,qe,qc,qq,qb,s5,s9,t5,zd,zp,B0,reduceIte,a9]
  refine zm (us:=[.int .i64 0]) rfl (cs':=[.int .i64 x11.View.Epoch,.int .i64 x11.View.Leader,v23,v27,v57,
    .int .i64 0]) hS64 hW rfl rfl (nle rfl) rfl (fun h65 hS66=>?_)
  simp only [qa,qz0,qe,qc,qq,qb,s5,s9,t5,qr,qn,B0,reduceIte,a9]
  refine qg (v := .int .i64 l4.Truth.Leader) rfl ?_
  simp only [zf1,qd,qv,qb,k7,qa,q7k,qy,B0,reduceIte,a9]
  refine qu (t:=(decide (l4.Truth.Leader=k_1))) (fun hc67=>?_) (fun hc67=>?_)
  ·rw [iteT hc67] at hF56
   simp only [q29,qc,qq,qb,s5,s9,t5,zd,qn,B0,reduceIte,a9]
   refine qg (v:=v57) ((jt (a0r _ _ _ hS66)).trans rfl) ?_
   simp only [zf1,qd,qq,qb,s5,s9,t5,zd,qn,B0,reduceIte,a9]
   refine qg (v:=v27) ((jt (a0r _ _ _ hS66)).trans rfl) ?_
   obtain ⟨x68,hx69,hF70⟩:=qi hF56
   simp only [zy,qb,a2i hv29,ji,B0,reduceIte,a9]
   obtain ⟨b71,hb72⟩:=a13 hv60 (ka hx69)
   refine qg (a2u hv60 hb72 hx69) ?_
   simp only [zp,B0,reduceIte,a9]
   refine x6 (f:=cI) (x':=(t6 x11.Log:Int)) (o:=0) hv60 (a0l hS66) hW hb72 hx69 (fun _=>rfl) rfl rfl (nle rfl) rfl (fun c75 h73 hv76 hS74=>?_)
   have hx77:=kf (x':=(t6 x11.Log:Int)) hx69
   simp only [qa,qo,B0,reduceIte,a9]
   have e78:=qh hF70
   subst e78
   exact hN50 _ _ ⟨v57,c75,zf1,rfl,rfl,rfl,hv76,(a0j (a0v (a0j (a03 (a0e (a0i (a0i (a0s (a03 hS74)))))))))⟩
  rw [iteF hc67] at hF56
  simp only [zf,qo,B0,reduceIte,a9]
  have e79:=qh hF56
  subst e79
  exact hN50 _ _ ⟨v57,c58,zf1,rfl,rfl,rfl,hv60,(a0j (a0v (a0j (a03 (a0e (a0i (a0i (a0l (a0s (a03 hS66))))))))))⟩
 ·rw [iteF hc53] at hX47
  simp only [zf,qo,B0,reduceIte,a9]
  have e80:=qh hX47
  subst e80
  exact hN50 _ _ ⟨v31,c32,zf1,rfl,rfl,rfl,hv33,(a0j (a0v (a0j (a03 (a0e (a0i (a0i (a0i hS40))))))))⟩
 rintro fr81 h82 ⟨v43,c44,f84,f85,f86,f87,hv45,hS83⟩
 unfold qau at hk48
 simp only [q3e,qe,qc,f85,qq,qb,s5,s9,t5,qr,qn,B0,reduceIte,a9]
 refine qg (v := .agg [.int .i64 l4.Truth.Epoch,.int .i64 l4.Truth.Leader,d9]) rfl ?_
 obtain ⟨v88,hx89,hF90⟩:=qi hk48
 simp only [zi,B0,reduceIte,a9]
 refine qbx rfl hS83 (ql (jo (ql qs (ql qs (ql (a06 i8 hS83 rfl (fun _=>rfl) (fun _=>rfl)) zh)))) zh) (qd2
   (fun b hb=>decide_eq_true hb) l4.Truth v88 hx89) ?_
 rintro _ h95 ⟨v91,c92,rfl,hv93,hS96⟩
 refine ⟨_,qdc (qj rfl (qj rfl (qj (SlF.free1 hv93) zq))),hS96,(j9 (SlF.pf hv93 (fun _=>rfl)) wl),fun h97 hS98=>?_⟩
 have hS99:Sep h97 lo (c92++(i4++(c16++(i5++([Blk1 b5 [.int .i64 0,.int .i64 0,.nil,.nil,.nil] 28]++([Blk1 b35 [.int .i64 s41.View.Epoch,
   .int .i64 s41.View.Leader,v23,v27,v43,.int .i64 s41.Told] 68]++(c24++(c28++(c44++(S0)))))))))):=by simpa only [List.append_assoc,List.nil_append] using hS98
 simp only [f87,qq,qb,s5,s9,t5,zd,zp,B0,reduceIte,a9]
 refine zm (us:=[.int .i64 v88.Epoch,.int .i64 v88.Leader,v91]) rfl (cs':=[.int .i64 v88.Epoch,.int .i64 v88.Leader,v91,v27,v43,
   .int .i64 s41.Told]) (a03 hS99) hW rfl (qj rfl (qj rfl (qj (a0g hv93) zq))) (nle rfl) rfl (fun h100 hS101=>?_)
 simp only [qa,qzs,qe,qc,f85,qq,qb,s5,s9,t5,qr,qn,B0,reduceIte,a9]
 refine qg (v:=e8) rfl ?_
 simp only [f84,qd,f87,qn,B0,reduceIte,a9]
 refine qg (v := .agg [.int .i64 v88.Epoch,.int .i64 v88.Leader,v91,v27,v43,.int .i64 s41.Told]) ((zr (a0r _ _ _ hS101)).trans rfl) ?_
 simp only [ji,B0,reduceIte,a9]
 refine qg (SlG.ia hv19 hx12) ?_
 simp only [zp,B0,reduceIte,a9]
 refine ws (n:=6) (us:=[.int .i64 v88.Epoch,.int .i64 v88.Leader,v91,v27,v43,.int .i64 s41.Told]) (cs:=[.int .i64 x11.View.Epoch,.int .i64 x11.View.Leader,
   v23,v27,v31,.int .i64 x11.Told]) (o:=0) (cs':=[.int .i64 v88.Epoch,.int .i64 v88.Leader,v91,v27,v43,
   .int .i64 s41.Told]) rfl hv19 rfl hx12 (a0e hS101) hW rfl (qj rfl (qj rfl (qj (a0g hv93) (qj (a0g hv29) (qj (a0g hv45) (qj rfl zq))))))
   (nle rfl) rfl (fun c104 h102 hv105 hS103=>?_)
 simp only [qa,qe,qc,f85,qn,B0,reduceIte,a9]
 refine qg (v := .agg [.int .i64 l4.Truth.Epoch,.int .i64 l4.Truth.Leader,d9,e8,f4]) rfl ?_
 simp only [f86,zp,B0,reduceIte,a9]
 refine zm (us:=[.int .i64 l4.Truth.Epoch,.int .i64 l4.Truth.Leader,d9,e8,f4]) rfl (cs':=[.int .i64 l4.Truth.Epoch,.int .i64 l4.Truth.Leader,d9,
   e8,f4]) (a03 hS103) hW rfl (qj rfl (qj rfl (qj (a0g i8) (qj (a4h hv105) (qj (a0g l5) zq))))) (nle rfl) rfl
   (fun h106 hS107=>?_)
 simp only [qa,qw,B0,reduceIte,a9]
 obtain ⟨c108,hv109,hS110⟩:=a3u (e':=(Node.mk v88 x11.Log s41.Known s41.Told)) (c:=c104) (os:=c92++(c28++(c44))) hv105 rfl hx12 z7 (Node.RI (x :=
   (Node.mk v88 x11.Log s41.Known s41.Told)) hv93 hv29 hv45) (a1p (c1:=c92) (c2:=c28) (c3:=c44) (a0i (a03 (t7 (t7 hS107)))))
 have hx111:=kf (x':=(Node.mk v88 x11.Log s41.Known s41.Told)) hx12
 have hv112:=a1s hv109
 have he:=qh hF90
 subst he
 refine xa (bb:=b5) (oo:=0) (v := .agg [.int .i64 l4.Truth.Epoch,.int .i64 l4.Truth.Leader,d9,e8,f4]) (by simp only [f86,B0,reduceIte,
   a9]) ((zr (a0r _ _ _ (a0l hS110))).trans rfl) ?_
 exact ⟨i4,c108,i5,by first | trivial | rfl,i8,hv112,l5,(a0k (a0l (a0k (a0s (a0e (a0s (a0l (a0s (a0l hS110)))))))))⟩
theorem qng {W:Nat→Bool}{h:Heap} (hW:∀ b,
  (geL h.length) b→W b=true) (k:Nat) (i0:List Row) (i6:List Row) (r:Int) (hF:qb9 k i0 i6=some r) : Ret E W 74 [lst qm i0,
  lst qm i6] h (fun v h'=>cut h.length h' E.sz false 9 v=some (.int .i64 r)):=by
 refine Ret.of (fn:=x74) rfl (Run.of ?_)
 unfold qb9 at hF
 have zf0:zb [lst qm i0,lst qm i6] 0=lst qm i0:=rfl
 have zf1:zb [lst qm i0,lst qm i6] 1=lst qm i6:=rfl
 generalize zb [lst qm i0,lst qm i6]=fr0 at zf0 zf1 ⊢
 have hS:Sep h (geL h.length) []:=a1q h
 simp only [x74,qe,qc,qd,qa,q4e,q5d,B0,reduceIte,a9]
 obtain ⟨oc5,hX7,hk8⟩:=jy hF
 simp only [q5w]
 refine y8 (σ:=Int) (fun s58=>qbn i0 i6 s58) (fun s fr' h'=>fr' 0=lst qm i0∧fr' 1=lst qm i6∧fr' 5 = .int .i64 s∧Sep h'
   (geL h.length) ([])) hX7 ⟨zf0,zf1,rfl,hS⟩ (fun _ _ _ h=>h) ?_ ?_
 ·rintro s2 fr17 h18 ⟨f20,f21,f22,hS19⟩ oc6 hF9 hr10 Q11 hN12 hK13 hR14 hE15
  unfold qbn at hF9
  simp only [q5k,qe,js,f22,zv,qk,f20,qd8,je,yg,k6,B0,reduceIte,a9]
  refine wu 5 (fun fr' h'=>Sep h' (geL h.length) ([])∧fr' 15 = .bool ((decide (s2<(t6 i0:Int)))&&(decide (s2 <
    (t6 i6:Int))))∧fr' 0=lst qm i0∧fr' 1=lst qm i6∧fr' 5 = .int .i64 s2) rfl (fun Q24 hN25=>?_) ?_
  ·simp only [t8,a0d]
   simp only [qp (g:=10),B0,reduceIte,a9]
   refine jq (t:=(decide (s2<(t6 i0:Int)))) (fun hg26=>?_) (fun hg26=>?_)
   ·simp only [hg26,qp (g:=10),zk,f22,zv,qk,f21,qd8,je,yg,k6,jf,zo,zc,qo,B0,reduceIte,
     a9]
    exact hN25 _ _ ⟨hS19,by rw [yk hg26]; simp only [B0,reduceIte,a9],f20,f21,f22⟩
   ·simp only [hg26,qp (g:=10),ku,jf,qk,zn,zc,qo,B0,reduceIte,a9]
    exact hN25 _ _ ⟨hS19,by rw [yj hg26]; simp only [B0,reduceIte,a9],f20,f21,f22⟩
  rintro fr27 h32 ⟨hS33,f28,f29,f30,f31⟩
  simp only [t9,a0c]
  simp only [f28,zv,qk,B0,reduceIte,a9]
  obtain ⟨v37,hx38,hF39⟩:=qi hF9
  refine wu 10 (fun fr' h'=>Sep h' (geL h.length) ([])∧fr' 26 = .bool v37∧fr' 0=lst qm i0∧fr' 1=lst qm i6∧fr' 5 = .int .i64 s2) rfl
    (fun Q34 hN35=>?_) ?_
  ·simp only [t8,a0d]
   simp only [qp (g:=16),B0,reduceIte,a9]
   refine jq (t:=((decide (s2<(t6 i0:Int)))&&(decide (s2<(t6 i6:Int))))) (fun hg36=>?_) (fun hg36=>?_)
   ·rw [iteT hg36] at hx38
    obtain ⟨x40,hx41,hF42⟩:=qi hx38
    simp only [hg36,qp (g:=16),zk,f29,zv,qk,f31,yv,B0,reduceIte,a9]
    refine qt (v := .ref (qm x40) 0) (kw hx41 rfl) ?_
    simp only [hg36,qp (g:=16),zk,zu,B0,reduceIte,a9]
    refine qt (v := .agg [.int .i64 x40.Epoch,.int .i64 x40.Value]) rfl ?_
    obtain ⟨x43,hx44,hF45⟩:=qi hF42
    simp only [hg36,qp (g:=16),zk,f30,zv,qk,f31,yv,B0,reduceIte,a9]
    refine qt (v := .ref (qm x43) 0) (kw hx44 rfl) ?_
    simp only [hg36,qp (g:=16),zk,zu,B0,reduceIte,a9]
    refine qt (v := .agg [.int .i64 x43.Epoch,.int .i64 x43.Value]) rfl ?_
    simp only [hg36,qp (g:=16),zk,qp8,B0,reduceIte,a9]
    refine qt (v := .bool ((x40.Epoch == x43.Epoch)&&((x40.Value == x43.Value)&&true))) rfl ?_
    simp only [hg36,jf,qk,zo,zc,qo,B0,reduceIte,a9]
    have e46:=qh hF45
    exact hN35 _ _ ⟨hS33,by rw [←e46]; simp only [B0,reduceIte,a9],f29,f30,f31⟩
   ·rw [iteF hg36] at hx38
    simp only [hg36,qp (g:=16),ku,jf,qk,zn,zc,qo,B0,reduceIte,a9]
    have e47:=qh hx38
    exact hN35 _ _ ⟨hS33,by rw [←e47]; simp only [B0,reduceIte,a9],f29,f30,f31⟩
  rintro fr48 h53 ⟨hS54,f49,f50,f51,f52⟩
  simp only [t9,a0c]
  simp only [zc,f49,qy,B0,reduceIte,a9]
  refine qu (t:=v37) (fun hc55=>?_) (fun hc55=>?_)
  ·rw [iteT hc55] at hF39
   simp only [zf,kj,qc,f52,qd,qv,qb,yx,qa,yd,qo,B0,reduceIte,a9]
   have e56:=qh hF39
   exact hN12 _ _ _ e56.symm ⟨f50,f51,rfl,hS54⟩
  rw [iteF hc55] at hF39
  simp only [yf,yc,yp,B0,reduceIte,a9]
  have e57:=qh hF39
  exact hK13 _ _ _ e57.symm ⟨f50,f51,f52,hS54⟩
 rintro s59 fr60 h61 rfl ⟨f63,f64,f65,hS62⟩
 dsimp only [jnO] at hk8
 unfold qh1 at hk8
 simp only [qe,qc,f65,qd,qa,qw,B0,reduceIte,a9]
 have he:=qh hk8
 subst he
 simp only [q9,B0,reduceIte,a9]
 exact rfl
theorem qmp {W:Nat→Bool}{h:Heap}{lo:Nat→Prop}{S0:List Obj} (hW:∀ b,
  lo b→W b=true) (k:Nat) (f0:Cluster) (d9:XV) (i4:List Obj) (i8:SlF cI 1 3 d9 f0.Truth.InStep i4) (e8:XV) (l7:List Obj)
  (l6:SlN Node.R 6 68 e8 f0.Nodes l7) (f4:XV) (i5:List Obj) (l5:SlF qm 2 92 f4 f0.Acked i5) (d8:Int) (r8:Int) (v_3:Int)
  (r:Cluster) (hF:qco k f0 d8 r8 v_3=some r) (hS:Sep h lo (i4++(l7++(i5++(S0))))) : Ret E W 85 [.agg [.int .i64 f0.Truth.Epoch,
  .int .i64 f0.Truth.Leader,d9,e8,f4],.int .i64 d8,.int .i64 r8,.int .i64 v_3] h (fun v h'=>∃ l9 m0 n7,v = .agg [.int .i64 r.Truth.Epoch,
  .int .i64 r.Truth.Leader,d9,e8,
  f4]∧SlF cI 1 3 d9 r.Truth.InStep l9∧SlN Node.R 6 68 e8 r.Nodes m0∧SlF qm 2 92 f4 r.Acked n7∧Sep h' lo (l9++(m0++(n7 ++
  (S0))))):=by
 refine Ret.of (fn:=x85) rfl (Run.of ?_)
 unfold qco at hF
 have zf0:zb [.agg [.int .i64 f0.Truth.Epoch,.int .i64 f0.Truth.Leader,d9,e8,f4],.int .i64 d8,.int .i64 r8,
   .int .i64 v_3] 0 = .agg [.int .i64 f0.Truth.Epoch,.int .i64 f0.Truth.Leader,d9,e8,f4]:=rfl
 have zf1:zb [.agg [.int .i64 f0.Truth.Epoch,.int .i64 f0.Truth.Leader,d9,e8,f4],.int .i64 d8,.int .i64 r8,.int .i64 v_3] 1 = .int .i64 d8:=rfl
 have zf2:zb [.agg [.int .i64 f0.Truth.Epoch,.int .i64 f0.Truth.Leader,d9,e8,f4],.int .i64 d8,.int .i64 r8,.int .i64 v_3] 2 = .int .i64 r8:=rfl
 have zf3:zb [.agg [.int .i64 f0.Truth.Epoch,.int .i64 f0.Truth.Leader,d9,e8,f4],.int .i64 d8,.int .i64 r8,.int .i64 v_3] 3 = .int .i64 v_3:=rfl
 generalize zb [.agg [.int .i64 f0.Truth.Epoch,.int .i64 f0.Truth.Leader,d9,e8,f4],.int .i64 d8,.int .i64 r8,.int .i64 v_3]=fr0 at zf0 zf1 zf2 zf3 ⊢
 simp only [x85,qe,qc,j7,zf0,B0,reduceIte,a9]
 refine jm (cs:=[.int .i64 f0.Truth.Epoch,.int .i64 f0.Truth.Leader,d9,e8,
   f4]) hS rfl rfl (qj rfl (qj rfl (qj (a0g i8) (qj (a10 l6) (qj (a0g l5) zq))))) (fun b1 h2 hS3=>?_)
 simp only [kc,B0,reduceIte,a9]
 refine jp hS3 (fun b5 h6 hS7=>?_)
 simp only [qa,B0,reduceIte,a9]
 refine jc (a0l hS7) hW (by simp only [B0,reduceIte,a9]) (fun h9 hS10=>?_)
 simp only [jd,qut,qe,qc,qq,qb,s5,s9,t5,qr,qn,B0,reduceIte,a9]
 refine qg (v:=e8) rfl ?_
 obtain ⟨x11,hx12,hF13⟩:=qi hF
 simp only [zf1,qd,ji,B0,reduceIte,a9]
 obtain ⟨b14,hb15⟩:=a4g l6 (ka hx12)
 refine qg (SlN.ia l6 hb15 hx12) ?_
 obtain ⟨c16,cs17,os18,hv19,hR20,hS21⟩:=a2w (a26 l6 hb15 Node.RO.len) hx12 z7 Node.RO.len (a0k hS10)
 obtain ⟨v23,c24,v27,c28,v31,c32,hv25,hv29,hv33,rfl,rfl⟩:=hR20
 have hS22:=a2x hS21
 simp only [qn,B0,reduceIte,a9]
 refine qg (v := .agg [.int .i64 x11.View.Epoch,.int .i64 x11.View.Leader,v23,v27,v31,.int .i64 x11.Told]) ((SlG.lds (o:=0) hv19 rfl hx12 hS22 (nle rfl)).trans rfl) ?_
 simp only [kc,B0,reduceIte,a9]
 refine jp hS22 (fun b35 h36 hS37=>?_)
 simp only [zp,B0,reduceIte,a9]
 refine zm (us:=[.int .i64 x11.View.Epoch,.int .i64 x11.View.Leader,v23,v27,v31,.int .i64 x11.Told]) rfl (cs':=[.int .i64 x11.View.Epoch,
   .int .i64 x11.View.Leader,v23,v27,v31,
   .int .i64 x11.Told]) hS37 hW rfl (qj rfl (qj rfl (qj (a0g hv25) (qj (a0g hv29) (qj (a0g hv33) (qj rfl zq)))))) (nle rfl) rfl
   (fun h39 hS40=>?_)
 simp only [qa,qt8,qe,qc,qq,qb,s5,s9,t5,qr,qn,B0,reduceIte,a9]
 refine qg (v:=e8) rfl ?_
 obtain ⟨x41,hx42,hF43⟩:=qi hF13
 simp only [zf2,qd,ji,B0,reduceIte,a9]
 refine qg (SlG.ia hv19 hx42) ?_
 obtain ⟨hp44,hF45⟩:=qnd hF43
 have hn46:=qse hp44 hx12 hx42
 obtain ⟨c47,cs48,os49,hv50,hR51,hS52⟩:=a2w hv19 hx42 ((qgs hn46).trans z7) Node.RO.len (a0l hS40)
 obtain ⟨v54,c55,v58,c59,v62,c63,hv56,hv60,hv64,rfl,rfl⟩:=hR51
 have hS53:=a2x hS52
 simp only [qn,B0,reduceIte,a9]
 refine qg (v := .agg [.int .i64 x41.View.Epoch,.int .i64 x41.View.Leader,v54,v58,v62,.int .i64 x41.Told]) ((SlG.lds (o:=0) hv50 rfl hx42 hS53 (nle rfl)).trans rfl) ?_
 simp only [kc,B0,reduceIte,a9]
 refine jp hS53 (fun b66 h67 hS68=>?_)
 simp only [zp,B0,reduceIte,a9]
 refine zm (us:=[.int .i64 x41.View.Epoch,.int .i64 x41.View.Leader,v54,v58,v62,.int .i64 x41.Told]) rfl (cs':=[.int .i64 x41.View.Epoch,
   .int .i64 x41.View.Leader,v54,v58,v62,
   .int .i64 x41.Told]) hS68 hW rfl (qj rfl (qj rfl (qj (a0g hv56) (qj (a0g hv60) (qj (a0g hv64) (qj rfl zq)))))) (nle rfl) rfl
   (fun h70 hS71=>?_)
 simp only [qa,B0,reduceIte,a9]
 refine jc hS71 hW (by simp only [B0,reduceIte,a9]) (fun h72 hS73=>?_)
 simp only [jd,q64,qe,qc,qq,qb,s5,s9,t5,zd,qn,B0,reduceIte,a9]
 refine qg (v:=v27) ((jt (a0r _ _ _ (a0i hS73))).trans rfl) ?_
 simp only [qq,qb,s5,s9,t5,qr,qn,B0,reduceIte,a9]
 refine qg (v:=v58) rfl ?_
 obtain ⟨v74,hx75,hF76⟩:=qi hF45
 simp only [zi,B0,reduceIte,a9]
 refine ju rfl (ql (a06 hv29 (a0v hS73) rfl (fun _=>rfl) (fun _=>rfl)) (ql (a06 hv60 (a0k hS73) rfl (fun _=>rfl) (fun _=>rfl)) zh))
   (qng (fun b hb=>decide_eq_true hb) k x11.Log x41.Log v74 hx75) ?_
 simp only [qd,qa,q26,qe,qc,zf3,qq,qb,s5,s9,t5,qr,qn,B0,reduceIte,a9]
 refine qg (v:=v58) rfl ?_
 simp only [zy,qb,a2i hv60,qd,qv,qlp,qj3,qa,q15,qy,B0,reduceIte,a9]
 obtain ⟨s77,hX79,hk80⟩:=qi hF76
 refine qf4 (t:=(decide ((a0a .i64 ((t6 x41.Log:Int) - v74))<v_3)))
   (fun fr' h'=>fr' 1 = .int .i64 d8∧fr' 2 = .int .i64 r8∧fr' 3 = .int .i64 s77∧fr' 4 = .ref [.int .i64 f0.Truth.Epoch,.int .i64 f0.Truth.Leader,d9,e8,
   f4] 0∧fr' 8 = .ptr b5 0∧fr' 9 = .ptr b35 0∧fr' 10 = .ref [.int .i64 x41.View.Epoch,.int .i64 x41.View.Leader,v54,v58,v62,
   .int .i64 x41.Told] 0∧fr' 11 = .int .i64 v74∧Sep h' lo (i4++(c47++(i5++([Blk1 b5 [.int .i64 0,.int .i64 0,.nil,.nil,
   .nil] 28]++([Blk1 b35 [.int .i64 x11.View.Epoch,.int .i64 x11.View.Leader,v23,v27,v31,
   .int .i64 x11.Told] 68]++(c55++(c59++(c63++(c24++(c28++(c32++(S0))))))))))))) (fun Q81 hN82 hR83 hE84=>⟨fun hc85=>?_,fun hc85=>?_⟩) ?_
 ·rw [iteT hc85] at hX79
  simp only [qz2,qc,qq,qb,s5,s9,t5,qr,qn,B0,reduceIte,a9]
  refine qg (v:=v58) rfl ?_
  simp only [zy,qb,a2i hv60,qd,qv,qlp,qa,qo,B0,reduceIte,a9]
  have e86:=qh hX79
  subst e86
  exact hN82 _ _ ⟨zf1,zf2,rfl,rfl,rfl,rfl,rfl,rfl,(Sep.m10 (Sep.m9 (Sep.m10 (t7 (a0j (a0v (a0v (a0v (a0j (a0j (a0j hS73)))))))))))⟩
 ·rw [iteF hc85] at hX79
  simp only [zf,qo,B0,reduceIte,a9]
  have e87:=qh hX79
  subst e87
  exact hN82 _ _ ⟨zf1,zf2,zf3,rfl,rfl,rfl,rfl,rfl,(Sep.m10 (Sep.m9 (Sep.m10 (t7 (a0j (a0v (a0v (a0v (a0j (a0j (a0j hS73)))))))))))⟩
 rintro fr88 h89 ⟨f91,f92,f93,f94,f95,f96,f97,f98,hS90⟩
 unfold qch at hk80
 simp only [q7s,qe,qc,yh,evp,B0,reduceIte,a9]
 refine kx (n:=2) (f:=qm) ([] : List Row) hS90 rfl rfl (fun v99 c100 h101 hv102 hS103=>?_)
 simp only [f97,qq,qb,s5,s9,t5,qr,qn,B0,reduceIte,a9]
 refine qg (v:=v58) rfl ?_
 obtain ⟨l105,hx106,hF107⟩:=qi hk80
 simp only [f98,qd,f93,qv,qb,yx,qes,a02,a1k,B0,reduceIte,a9]
 obtain ⟨w108,i109,he110,hw111⟩:=SlF.win (f:=qm) (ty:=92) none (some (a0a .i64 (v74+s77))) hv60 hx106 (a0j hS103)
 refine qg he110 ?_
 simp only [wt,B0,reduceIte,a9]
 obtain ⟨l112,hx113,hF114⟩:=qi hF107
 refine yn (f:=qm) hv102 hS103 hW (fun _=>rfl) (fun _=>rfl) (SlW.first hw111 hv60 (a0j hS103) (fun _=>rfl)) hx113 (fun v115 c116 h117 hv118 hS119=>?_)
 simp only [f96,qq,qb,s5,s9,t5,zd,zp,B0,reduceIte,a9]
 refine zm (us:=[v115]) (j8 (a0g hv118)) (cs':=[.int .i64 x11.View.Epoch,.int .i64 x11.View.Leader,v23,v115,v31,
   .int .i64 x11.Told]) (a03 hS119) hW rfl (qj (a0g hv118) zq) (nle rfl) rfl (fun h121 hS122=>?_)
 simp only [qa,q0y,qe,qc,f96,qq,qb,s5,s9,t5,zd,zp,B0,reduceIte,a9]
 refine zm (us:=[.int .i64 0]) rfl (cs':=[.int .i64 x11.View.Epoch,.int .i64 x11.View.Leader,v23,v115,v31,
   .int .i64 0]) hS122 hW rfl rfl (nle rfl) rfl (fun h123 hS124=>?_)
 simp only [qa,q3d,qe,qc,f97,qq,qb,s5,s9,t5,qr,qn,B0,reduceIte,a9]
 refine qg (v:=v62) rfl ?_
 simp only [f91,qd,f96,qq,qb,s5,s9,t5,zd,qn,B0,reduceIte,a9]
 refine qg (v:=v115) ((jt (a0r _ _ _ hS124)).trans rfl) ?_
 obtain ⟨x125,hx126,hF127⟩:=qi hF114
 simp only [zy,qb,a2i hv118,ji,B0,reduceIte,a9]
 obtain ⟨b128,hb129⟩:=a13 hv64 (ka hx126)
 refine qg (a2u hv64 hb129 hx126) ?_
 simp only [zp,B0,reduceIte,a9]
 refine x6 (f:=cI) (x':=(t6 l112:Int)) (o:=0) hv64 (t7 hS124) hW hb129 hx126 (fun _=>rfl) rfl rfl (nle rfl) rfl (fun c132 h130 hv133 hS131=>?_)
 have hx134:=kf (x':=(t6 l112:Int)) hx126
 simp only [qa,q6d,qe,qc,f94,qq,qb,s5,s9,t5,qr,qn,B0,reduceIte,a9]
 refine qg (v:=e8) rfl ?_
 simp only [f91,qd,f96,qn,B0,reduceIte,a9]
 refine qg (v := .agg [.int .i64 x11.View.Epoch,.int .i64 x11.View.Leader,v23,v115,v31,.int .i64 0]) ((zr (a0r _ _ _ (a0l hS131))).trans rfl) ?_
 simp only [ji,B0,reduceIte,a9]
 refine qg (SlG.ia hv50 hx12) ?_
 have hv137:=SlG.swap hv50 (Ne.symm hn46)
 simp only [zp,B0,reduceIte,a9]
 refine ws (n:=6) (us:=[.int .i64 x11.View.Epoch,.int .i64 x11.View.Leader,v23,v115,v31,.int .i64 0]) (cs:=[.int .i64 x11.View.Epoch,.int .i64 x11.View.Leader,
   v23,v27,v31,.int .i64 x11.Told]) (o:=0) (cs':=[.int .i64 x11.View.Epoch,.int .i64 x11.View.Leader,v23,v115,v31,
   .int .i64 0]) rfl hv137 rfl hx12 (a0i hS131) hW rfl (qj rfl (qj rfl (qj (a0g hv25) (qj (a0g hv118) (qj (a0g hv33) (qj rfl zq))))))
   (nle rfl) rfl (fun c138 h135 hv139 hS136=>?_)
 simp only [qa,q8c,qe,qc,f94,qq,qb,s5,s9,t5,qr,qn,B0,reduceIte,a9]
 refine qg (v:=e8) rfl ?_
 simp only [f92,qd,f97,qn,B0,reduceIte,a9]
 refine qg (v := .agg [.int .i64 x41.View.Epoch,.int .i64 x41.View.Leader,v54,v58,v62,.int .i64 x41.Told]) rfl ?_
 simp only [ji,B0,reduceIte,a9]
 refine qg (SlG.ia hv139 hx42) ?_
 have hv142:=SlG.swap hv139 hn46
 simp only [zp,B0,reduceIte,a9]
 refine ws (n:=6) (us:=[.int .i64 x41.View.Epoch,.int .i64 x41.View.Leader,v54,v58,v62,.int .i64 x41.Told]) (cs:=[.int .i64 x41.View.Epoch,
   .int .i64 x41.View.Leader,v54,v58,v62,.int .i64 x41.Told]) (o:=0) (cs':=[.int .i64 x41.View.Epoch,.int .i64 x41.View.Leader,v54,v58,v62,
   .int .i64 x41.Told]) rfl hv142 rfl hx42 hS136 hW rfl (qj rfl (qj rfl (qj (a0g hv56) (qj (a0g hv60) (qj (a0g hv133) (qj rfl zq))))))
   (nle rfl) rfl (fun c143 h140 hv144 hS141=>?_)
 simp only [qa,qe,qc,f94,qn,B0,reduceIte,a9]
 refine qg (v := .agg [.int .i64 f0.Truth.Epoch,.int .i64 f0.Truth.Leader,d9,e8,f4]) rfl ?_
 simp only [f95,zp,B0,reduceIte,a9]
 refine zm (us:=[.int .i64 f0.Truth.Epoch,.int .i64 f0.Truth.Leader,d9,e8,f4]) rfl (cs':=[.int .i64 f0.Truth.Epoch,.int .i64 f0.Truth.Leader,d9,
   e8,f4]) (a0v hS141) hW rfl (qj rfl (qj rfl (qj (a0g i8) (qj (a4h hv144) (qj (a0g l5) zq))))) (nle rfl) rfl
   (fun h145 hS146=>?_)
 simp only [qa,qw,B0,reduceIte,a9]
 obtain ⟨c147,hv148,hS149⟩:=a3u (e':=(Node.mk x41.View x41.Log (a1u x41.Known d8.toNat (t6 l112:Int)) x41.Told)) (c:=c143) (os:=c55++(c59 ++
   (c132))) hv144 rfl hx42 ((qgs hn46).trans z7) (Node.RI (x:=(Node.mk x41.View x41.Log (a1u x41.Known d8.toNat
   (t6 l112:Int)) x41.Told)) hv56 hv60 hv133) (a1p (c1:=c55) (c2:=c59) (c3:=c132) (a0i (t7 (t7 (a0k hS146)))))
 have hx150:=kf (x':=(Node.mk x41.View x41.Log (a1u x41.Known d8.toNat (t6 l112:Int)) x41.Told)) hx42
 have hx151:=qk9 (e:=(Node.mk x41.View x41.Log (a1u x41.Known d8.toNat (t6 l112:Int)) x41.Told)) hx12 (Ne.symm hn46)
 obtain ⟨c152,hv153,hS154⟩:=a3u (e':=(Node.mk x11.View l112 x11.Known 0)) (c:=c147) (os:=c24++(c116++(c32))) hv148 rfl hx151 z7 (Node.RI (x :=
   (Node.mk x11.View l112 x11.Known 0)) hv25 hv118 hv33) (a1p (c1:=c24) (c2:=c116) (c3:=c32) (a0e (a0j (a0i (t7 hS149)))))
 have hx155:=kf (x':=(Node.mk x11.View l112 x11.Known 0)) hx151
 have hv156:=a1s hv153
 have he:=qh hF127
 subst he
 refine xa (bb:=b5) (oo:=0) (v := .agg [.int .i64 f0.Truth.Epoch,.int .i64 f0.Truth.Leader,d9,e8,f4]) (by simp only [f95,B0,reduceIte,
   a9]) ((zr (a0r _ _ _ (a0l hS154))).trans rfl) ?_
 exact ⟨i4,c152,i5,by first | trivial | rfl,i8,hv156,l5,(a0k (a0l (a0k (a0s (a0e (a0s (a0l (a0s (a0l hS154)))))))))⟩
theorem qpd {W:Nat→Bool}{h:Heap}{lo:Nat→Prop}{S0:List Obj} (hW:∀ b,
  lo b→W b=true) (k:Nat) (pv0:XV) (pc0:List Obj) (r5:List Int) (ph0:SlF cI 1 3 pv0 r5 pc0) (r6:Int) (r:List Int) (hF:qe7 k r5 r6=some r)
  (hS:Sep h lo (pc0++(S0))) : Ret E W 98 [pv0,.int .i64 r6] h (fun v h'=>∃ rv0 rc0,v=rv0∧SlF cI 1 3 rv0 r rc0∧Sep h' lo (rc0++(S0))):=by
 refine Ret.of (fn:=x98) rfl (Run.of ?_)
 unfold qe7 at hF
 have zf0:zb [pv0,.int .i64 r6] 0=pv0:=rfl
 have zf1:zb [pv0,.int .i64 r6] 1 = .int .i64 r6:=rfl
 generalize zb [pv0,.int .i64 r6]=fr0 at zf0 zf1 ⊢
 simp only [x98,qe,qc,qd,qa,qwa,q71,B0,reduceIte,a9]
 obtain ⟨oc5,hX7,hk8⟩:=jy hF
 simp only [qz6]
 refine y8 (σ:=Int) (fun s47=>qei r5 r6 s47) (fun s fr' h'=>fr' 0=pv0∧fr' 1 = .int .i64 r6∧fr' 5 = .int .i64 s∧Sep h' lo (pc0++(S0))) hX7 ⟨zf0,
   zf1,rfl,hS⟩ (fun _ _ _ h=>h) ?_ ?_
 ·rintro s2 fr17 h18 ⟨f20,f21,f22,hS19⟩ oc6 hF9 hr10 Q11 hN12 hK13 hR14 hE15
  unfold qei at hF9
  simp only [q5e,qe,qc,f22,qd,f20,zy,qb,a2i ph0,qv,k6,B0,reduceIte,a9]
  obtain ⟨v27,hx28,hF29⟩:=qi hF9
  refine jj 7 (fun fr' h'=>Sep h' lo (pc0++(S0))∧fr' 18 = .bool v27∧fr' 0=pv0∧fr' 1 = .int .i64 r6∧fr' 5 = .int .i64 s2) (fun Q24 hN25=>?_) ?_
  ·simp only [t8,a0d]
   simp only [qf (g:=11),B0,reduceIte,a9]
   refine zj (t:=(decide (s2<(t6 r5:Int)))) (fun hg26=>?_) (fun hg26=>?_)
   ·rw [iteT hg26] at hx28
    obtain ⟨x30,hx31,hF32⟩:=qi hx28
    simp only [hg26,qf (g:=11),zl,f20,qd,f22,ji,B0,reduceIte,a9]
    obtain ⟨b33,hb34⟩:=a13 ph0 (ka hx31)
    refine qg (a2u ph0 hb34 hx31) ?_
    simp only [hg26,qf (g:=11),zl,qn,B0,reduceIte,a9]
    refine qg (v := .int .i64 x30) ((SlF.ld (o:=0) ph0 hS19 hb34 hx31 (fun _=>rfl) (nle rfl)).trans rfl) ?_
    simp only [hg26,qf (g:=11),zl,f21,qd,qv,qb,k6,qx,zo,qa,qo,B0,reduceIte,a9]
    have e35:=qh hF32
    exact hN25 _ _ ⟨hS19,by rw [←e35]; simp only [B0,reduceIte,a9],f20,f21,f22⟩
   ·rw [iteF hg26] at hx28
    simp only [hg26,qf (g:=11),jh,qx,qb,zn,qa,qo,B0,reduceIte,a9]
    have e36:=qh hx28
    exact hN25 _ _ ⟨hS19,by rw [←e36]; simp only [B0,reduceIte,a9],f20,f21,f22⟩
  rintro fr37 h42 ⟨hS43,f38,f39,f40,f41⟩
  simp only [t9,a0c]
  simp only [qa,f38,qy,B0,reduceIte,a9]
  refine qu (t:=v27) (fun hc44=>?_) (fun hc44=>?_)
  ·rw [iteT hc44] at hF29
   simp only [zf,kj,qc,f41,qd,qv,qb,yx,qa,yd,qo,B0,reduceIte,a9]
   have e45:=qh hF29
   exact hN12 _ _ _ e45.symm ⟨f39,f40,rfl,hS43⟩
  rw [iteF hc44] at hF29
  simp only [yf,yc,yp,B0,reduceIte,a9]
  have e46:=qh hF29
  exact hK13 _ _ _ e46.symm ⟨f39,f40,f41,hS43⟩
 rintro s48 fr49 h50 rfl ⟨f52,f53,f54,hS51⟩
 dsimp only [jnO] at hk8
 unfold qgi at hk8
 simp only [q79,qe,qc,f54,qd,f52,zy,qb,a2i ph0,qv,k6,B0,reduceIte,a9]
 obtain ⟨v58,hx59,hF60⟩:=qi hk8
 refine jj 7 (fun fr' h'=>Sep h' lo (pc0++(S0))∧fr' 32 = .bool v58∧fr' 0=pv0∧fr' 1 = .int .i64 r6∧fr' 5 = .int .i64 s48) (fun Q55 hN56=>?_) ?_
 ·simp only [t8,a0d]
  simp only [qf (g:=25),B0,reduceIte,a9]
  refine zj (t:=(decide (s48<(t6 r5:Int)))) (fun hg57=>?_) (fun hg57=>?_)
  ·rw [iteT hg57] at hx59
   obtain ⟨x61,hx62,hF63⟩:=qi hx59
   simp only [hg57,qf (g:=25),zl,f52,qd,f54,ji,B0,reduceIte,a9]
   obtain ⟨b64,hb65⟩:=a13 ph0 (ka hx62)
   refine qg (a2u ph0 hb65 hx62) ?_
   simp only [hg57,qf (g:=25),zl,qn,B0,reduceIte,a9]
   refine qg (v := .int .i64 x61) ((SlF.ld (o:=0) ph0 hS51 hb65 hx62 (fun _=>rfl) (nle rfl)).trans rfl) ?_
   simp only [hg57,qf (g:=25),zl,f53,qd,qv,qb,k7,qx,zo,qa,qo,B0,reduceIte,a9]
   have e66:=qh hF63
   exact hN56 _ _ ⟨hS51,by rw [←e66]; simp only [B0,reduceIte,a9],f52,f53,f54⟩
  ·rw [iteF hg57] at hx59
   simp only [hg57,qf (g:=25),jh,qx,qb,zn,qa,qo,B0,reduceIte,a9]
   have e67:=qh hx59
   exact hN56 _ _ ⟨hS51,by rw [←e67]; simp only [B0,reduceIte,a9],f52,f53,f54⟩
 rintro fr68 h73 ⟨hS74,f69,f70,f71,f72⟩
 simp only [t9,a0c]
 simp only [qa,q2b,f69,qy,B0,reduceIte,a9]
 refine qu (t:=v58) (fun hc75=>?_) (fun hc75=>?_)
 ·rw [iteT hc75] at hF60
  simp only [qe,qc,f70,qd,qa,qw,B0,reduceIte,a9]
  have he:=qh hF60
  subst he
  simp only [q9,B0,reduceIte,a9]
  exact ⟨pv0,pc0,by first | trivial | rfl,ph0,hS74⟩
 rw [iteF hc75] at hF60
 obtain ⟨l76,hx77,hF78⟩:=qi hF60
 simp only [zf,q73,qe,qc,qd,qa,q5p,f70,f72,qes,a02,a1k,B0,reduceIte,a9]
 obtain ⟨w79,i80,he81,hw82⟩:=SlF.win (f:=cI) (ty:=3) none (some s48) ph0 hx77 hS74
 refine qg he81 ?_
 simp only [wt,B0,reduceIte,a9]
 obtain ⟨l83,hx84,hF85⟩:=qi hF78
 refine yn (f:=cI) SlF.nil hS74 hW (fun _=>rfl) (fun _=>rfl) (SlW.first hw82 ph0 hS74 (fun _=>rfl)) hx84 (fun v86 c87 h88 hv89 hS90=>?_)
 simp only [qd,qa,q0d,qe,qc,f71,yh,evp,B0,reduceIte,a9]
 refine kx (n:=1) (f:=cI) [r6] hS90 rfl rfl (fun v92 c93 h94 hv95 hS96=>?_)
 simp only [wt,B0,reduceIte,a9]
 obtain ⟨l98,hx99,hF100⟩:=qi hF85
 refine yn (f:=cI) hv89 (a0l hS96) hW (fun _=>rfl) (fun _=>rfl) (a30 hv95 hS96 (fun _=>rfl)) hx99 (fun v101 c102 h103 hv104 hS105=>?_)
 obtain ⟨l107,hx108,hF109⟩:=qi hF100
 simp only [qd,qa,q0b,qe,qc,f70,f72,qes,a02,a1k,B0,reduceIte,a9]
 obtain ⟨w110,i111,he112,hw113⟩:=SlF.win (f:=cI) (ty:=3) (some s48) none ph0 hx108 (a0k hS105)
 refine qg he112 ?_
 simp only [wt,B0,reduceIte,a9]
 obtain ⟨l114,hx115,hF116⟩:=qi hF109
 refine yn (f:=cI) hv104 hS105 hW (fun _=>rfl) (fun _=>rfl) (SlW.first hw113 ph0 (a0k hS105) (fun _=>rfl)) hx115 (fun v117 c118 h119 hv120 hS121=>?_)
 simp only [qd,qa,qw,B0,reduceIte,a9]
 have he:=qh hF116
 subst he
 simp only [q9,B0,reduceIte,a9]
 exact ⟨v117,c118,by first | trivial | rfl,hv120,(a0s (a0l (a0s (a0l hS121))))⟩
theorem ue {W:Nat→Bool}{h:Heap}{lo:Nat→Prop}{S0:List Obj} (hW:∀ b,
  lo b→W b=true) (k:Nat) (l4:Cluster) (d9:XV) (i4:List Obj) (i8:SlF cI 1 3 d9 l4.Truth.InStep i4) (e8:XV) (l7:List Obj)
  (l6:SlN Node.R 6 68 e8 l4.Nodes l7) (f4:XV) (i5:List Obj) (l5:SlF qm 2 92 f4 l4.Acked i5) (k_1:Int) (to_2:Int) (in_3:Bool)
  (r:Cluster) (hF:wa k l4 k_1 to_2 in_3=some r) (hS:Sep h lo (i4++(l7++(i5++(S0))))) : Ret E W 86 [.agg [.int .i64 l4.Truth.Epoch,
  .int .i64 l4.Truth.Leader,d9,e8,f4],.int .i64 k_1,.int .i64 to_2,.bool in_3] h (fun v h'=>∃ n9 l9 m0 n7,v = .agg [.int .i64 r.Truth.Epoch,
  .int .i64 r.Truth.Leader,n9,e8,
  f4]∧SlF cI 1 3 n9 r.Truth.InStep l9∧SlN Node.R 6 68 e8 r.Nodes m0∧SlF qm 2 92 f4 r.Acked n7∧Sep h' lo (l9++(m0++(n7 ++
  (S0))))):=by
 refine Ret.of (fn:=x86) rfl (Run.of ?_)
 unfold wa at hF
 have zf0:zb [.agg [.int .i64 l4.Truth.Epoch,.int .i64 l4.Truth.Leader,d9,e8,f4],.int .i64 k_1,.int .i64 to_2,
   .bool in_3] 0 = .agg [.int .i64 l4.Truth.Epoch,.int .i64 l4.Truth.Leader,d9,e8,f4]:=rfl
 have zf1:zb [.agg [.int .i64 l4.Truth.Epoch,.int .i64 l4.Truth.Leader,d9,e8,f4],.int .i64 k_1,.int .i64 to_2,.bool in_3] 1 = .int .i64 k_1:=rfl
 have zf2:zb [.agg [.int .i64 l4.Truth.Epoch,.int .i64 l4.Truth.Leader,d9,e8,f4],.int .i64 k_1,.int .i64 to_2,.bool in_3] 2 = .int .i64 to_2:=rfl
 have zf3:zb [.agg [.int .i64 l4.Truth.Epoch,.int .i64 l4.Truth.Leader,d9,e8,f4],.int .i64 k_1,.int .i64 to_2,.bool in_3] 3 = .bool in_3:=rfl
 generalize zb [.agg [.int .i64 l4.Truth.Epoch,.int .i64 l4.Truth.Leader,d9,e8,f4],.int .i64 k_1,.int .i64 to_2,.bool in_3]=fr0 at zf0 zf1 zf2 zf3 ⊢
 simp only [x86,qe,qc,j7,zf0,B0,reduceIte,a9]
 refine jm (cs:=[.int .i64 l4.Truth.Epoch,.int .i64 l4.Truth.Leader,d9,e8,
   f4]) hS rfl rfl (qj rfl (qj rfl (qj (a0g i8) (qj (a10 l6) (qj (a0g l5) zq))))) (fun b1 h2 hS3=>?_)
 simp only [kc,B0,reduceIte,a9]
 refine jp hS3 (fun b5 h6 hS7=>?_)
 simp only [qa,qwt,qe,qc,qd,qwj,qq,qb,s5,s9,t5,zd,qn,B0,reduceIte,a9]
 refine qg (v:=d9) ((jt (a0r _ _ _ (a0l hS7))).trans rfl) ?_
 simp only [zy,qb,a2i i8,qd,qa,B0,reduceIte,a9]
 obtain ⟨oc21,hX23,hk24⟩:=jy hF
 simp only [q4m]
 refine qfn (σ:=(List Int)) (fun i19 s69=>xl l4 to_2 i19 s69) (fun s fr' h'=>∃ v16 c17,
   fr' 1 = .int .i64 k_1∧fr' 2 = .int .i64 to_2∧fr' 3 = .bool in_3∧fr' 4 = .ptr b1 0∧fr' 8 = .ptr b5 0∧fr' 9=v16∧fr' 14=d9∧SlF cI 1 3 v16 s c17∧Sep h' lo ([Blk1 b1 [.int .i64 l4.Truth.Epoch,
   .int .i64 l4.Truth.Leader,d9,e8,f4] 28]++([Blk1 b5 [.int .i64 0,.int .i64 0,.nil,.nil,
   .nil] 28]++(c17++(i4++(l7++(i5++(S0)))))))) hX23 ⟨.nil,[],zf1,zf2,zf3,rfl,rfl,rfl,rfl,SlF.nil,
   ((a0i (a0e (a0i (a0i (a0i hS7))))) : Sep _ lo ([Blk1 b1 [.int .i64 l4.Truth.Epoch,.int .i64 l4.Truth.Leader,d9,e8,
   f4] 28]++([Blk1 b5 [.int .i64 0,.int .i64 0,.nil,.nil,.nil] 28]++(i4++(l7++(i5++(S0)))))))⟩ (by simp only [B0,reduceIte,
   a9]) (by simp only [B0,reduceIte,a9]) (fun _ _ _ h=>h) rfl rfl (fun _ _ _ _ h=>h) (fun _ _ _ _ h=>h) (fun _ _ _ _ h=>h) (by decide) ?_ ?_
 ·rintro i19 s14 fr33 h34 hx43 ⟨v16,c17,f36,f37,f38,f39,f40,f41,f42,hv18,hS35⟩ f44 f45 oc22 hF25 hr26 Q27 hN28 hB32 hK29 hR30 hE31
  unfold xl at hF25
  obtain ⟨x46,hx47,hF48⟩:=qi hF25
  simp only [q7f,qe,qc,f42,f44,ji,B0,reduceIte,a9]
  obtain ⟨b49,hb50⟩:=a13 i8 (ka hx47)
  refine qg (a2u i8 hb50 hx47) ?_
  simp only [qn,B0,reduceIte,a9]
  refine qg (v := .int .i64 x46) ((SlF.ld (o:=0) i8 (a0e hS35) hb50 hx47 (fun _=>rfl) (nle rfl)).trans rfl) ?_
  simp only [qd,qa,qz3,qe,qc,f37,qv,qb,ya,q72,qy,B0,reduceIte,a9]
  refine qu (t:=(decide (x46≠to_2))) (fun hc51=>?_) (fun hc51=>?_)
  ·rw [iteT hc51] at hF48
   simp only [q0n,qc,f41,qd,yh,evp,B0,reduceIte,a9]
   refine kx (n:=1) (f:=cI) [x46] hS35 rfl rfl (fun v52 c53 h54 hv55 hS56=>?_)
   simp only [wt,B0,reduceIte,a9]
   obtain ⟨l58,hx59,hF60⟩:=qi hF48
   refine yn (f:=cI) hv18 (a0e hS56) hW (fun _=>rfl) (fun _=>rfl) (a30 hv55 hS56 (fun _=>rfl)) hx59 (fun v61 c62 h63 hv64 hS65=>?_)
   simp only [qd,qa,qo,B0,reduceIte,a9]
   have e67:=qh hF60
   exact hN28 _ _ _ e67.symm ⟨v61,c62,f36,f37,f38,f39,f40,rfl,f42,hv64,(a03 (a03 (a0e (a03 (a03 (a03 (a0s (a0l hS65))))))))⟩ (f44) (f45)
  rw [iteF hc51] at hF48
  simp only [zf,qo,B0,reduceIte,a9]
  have e68:=qh hF48
  exact hN28 _ _ _ e68.symm ⟨v16,c17,f36,f37,f38,f39,f40,f41,f42,hv18,(a03 (a03 (a03 (a03 (a03 (a03 hS35))))))⟩ (f44) (f45)
 rintro s70 fr75 h76 rfl ⟨v72,c73,f78,f79,f80,f81,f82,f83,f84,hv74,hS77⟩
 dsimp only [jnO] at hk24
 unfold qd3 at hk24
 simp only [quh,qe,qc,f80,qd,qa,q8p,qy,B0,reduceIte,a9]
 obtain ⟨s85,hX91,hk92⟩:=qi hk24
 refine qf4 (t:=in_3) (fun fr' h'=>∃ v87 c88,
   fr' 1 = .int .i64 k_1∧fr' 4 = .ptr b1 0∧fr' 8 = .ptr b5 0∧fr' 9=v87∧SlF cI 1 3 v87 s85 c88∧Sep h' lo ([Blk1 b1 [.int .i64 l4.Truth.Epoch,
   .int .i64 l4.Truth.Leader,d9,e8,f4] 28]++([Blk1 b5 [.int .i64 0,.int .i64 0,.nil,.nil,
   .nil] 28]++(c88++(i4++(l7++(i5++(S0)))))))) (fun Q93 hN94 hR95 hE96=>⟨fun hc97=>?_,fun hc97=>?_⟩) ?_
 ·rw [iteT hc97] at hX91
  obtain ⟨v98,hx99,hF100⟩:=qi hX91
  simp only [q0t,qc,f83,qd,f79,zi,B0,reduceIte,a9]
  refine wc rfl (qpd hW k v72 c73 s70 hv74 to_2 v98 hx99 (a0k hS77)) ?_
  rintro v101 h105 ⟨_,c102,rfl,hv103,hS106⟩
  simp only [qd,qa,qo,B0,reduceIte,a9]
  have e107:=qh hF100
  subst e107
  exact hN94 _ _ ⟨v101,c102,f78,f81,f82,rfl,hv103,(a03 (a03 (a0e (a03 (a03 (a03 hS106))))))⟩
 ·rw [iteF hc97] at hX91
  simp only [zf,qo,B0,reduceIte,a9]
  have e108:=qh hX91
  subst e108
  exact hN94 _ _ ⟨v72,c73,f78,f81,f82,f83,hv74,(a03 (a03 (a03 (a03 (a03 (a03 hS77))))))⟩
 rintro fr109 h110 ⟨v87,c88,f112,f113,f114,f115,hv89,hS111⟩
 unfold qby at hk92
 simp only [qwk,qe,qc,f115,qd,f113,qq,qb,s5,s9,t5,zd,zp,B0,reduceIte,a9]
 refine zm (us:=[v87]) (j8 (a0g hv89)) (cs':=[.int .i64 l4.Truth.Epoch,.int .i64 l4.Truth.Leader,v87,e8,
   f4]) hS111 hW rfl (qj (a0g hv89) zq) (nle rfl) rfl (fun h116 hS117=>?_)
 simp only [qa,q2x,qe,js,f113,qb0,qk,s5,s9,t5,zd,uw,B0,reduceIte,a9]
 refine qcy (Sep.ltk hS117) ?_
 refine qt (v:=e8) ((jt (a0r _ _ _ hS117)).trans rfl) ?_
 simp only [f112,qh8,qk,qdb,evp,B0,reduceIte,a9]
 refine qdx (n:=1) (f:=cI) ([] : List Int) hS117 rfl rfl (fun v119 c120 h121 hv122 hS123 hq118=>?_)
 simp only [f115,zv,qk,qku,B0,reduceIte,a9]
 obtain ⟨l125,hx126,hF127⟩:=qi hk92
 have hq128:=nwq (fun z hz=>Sep.dj (a0l (a0l hS123)) qfy (a31 hv122 z hz))
 have hq129:=nwq (fun z hz=>Sep.dj (a0l (a0k hS123)) qfy (a31 hv122 z hz))
 refine qog (qp9 (fun z hz=>Sep.dj (a0l (a0l hS123)) qfy (a31 hv122 z hz)) ql8) ?_
 refine qbl (f:=cI) hv122 hS123 hW (fun _=>rfl) (fun _=>rfl) (a30 hv89 (a0e hS123) (fun _=>rfl)) hx126 (fun v130 c131 h132 hv133 hS134=>?_)
 obtain ⟨x136,hx137,hF138⟩:=qi hF127
 simp only [yv,B0,reduceIte,a9]
 obtain ⟨b139,hb140⟩:=a4g l6 (ka hx137)
 refine qt (SlN.ia l6 hb140 hx137) ?_
 obtain ⟨c143,cs144,os145,hv146,hR147,hS148⟩:=a2w (a26 l6 hb140 Node.RO.len) hx137 z7 Node.RO.len (a03 hS134)
 obtain ⟨v150,c151,v154,c155,v158,c159,hv152,hv156,hv160,rfl,rfl⟩:=hR147
 have hS149:=a2x hS148
 simp only [z9,qk,s5,s9,t5,zd,qds,B0,reduceIte,a9]
 refine qjg (n:=6) (us:=[v130]) (cs:=[.int .i64 x136.View.Epoch,.int .i64 x136.View.Leader,v150,v154,v158,
   .int .i64 x136.Told]) (o:=2) (cs':=[.int .i64 x136.View.Epoch,.int .i64 x136.View.Leader,v130,v154,v158,
   .int .i64 x136.Told]) (j8 (a0g hv133)) hv146 rfl hx137 hS149 hW rfl (qj (a0g hv133) zq) (nle rfl) rfl (fun c162 h141 hv163 hS142=>?_)
 simp only [zc,qe,qc,f113,qn,B0,reduceIte,a9]
 refine qg (v := .agg [.int .i64 l4.Truth.Epoch,.int .i64 l4.Truth.Leader,v87,e8,f4]) ((zr (a0r _ _ _ (a03 hS142))).trans rfl) ?_
 simp only [f114,zp,B0,reduceIte,a9]
 refine zm (us:=[.int .i64 l4.Truth.Epoch,.int .i64 l4.Truth.Leader,v87,e8,f4]) rfl (cs':=[.int .i64 l4.Truth.Epoch,.int .i64 l4.Truth.Leader,v87,
   e8,f4]) (a0v hS142) hW rfl (qj rfl (qj rfl (qj (a0g hv89) (qj (a4h hv163) (qj (a0g l5) zq))))) (nle rfl) rfl (fun h164 hS165=>?_)
 simp only [qa,qw,B0,reduceIte,a9]
 obtain ⟨c166,hv167,hS168⟩:=a3u (e':=(Node.mk (View.mk x136.View.Epoch x136.View.Leader l125) x136.Log x136.Known x136.Told)) (c:=c162) (os:=c131++(c155 ++
   (c159))) hv163 rfl hx137 z7 (Node.RI (x:=(Node.mk (View.mk x136.View.Epoch x136.View.Leader l125) x136.Log x136.Known x136.Told)) hv133 hv156 hv160) (a1p
   (c1:=c131) (c2:=c155) (c3:=c159) (a0i (a03 (a0i (a0i hS165)))))
 have hx169:=kf (x':=(Node.mk (View.mk x136.View.Epoch x136.View.Leader l125) x136.Log x136.Known x136.Told)) hx137
 have hv170:=a1s hv167
 have he:=qh hF138
 subst he
 refine xa (bb:=b5) (oo:=0) (v := .agg [.int .i64 l4.Truth.Epoch,.int .i64 l4.Truth.Leader,v87,e8,f4]) (by simp only [f114,B0,reduceIte,
   a9]) ((zr (a0r _ _ _ (a0l hS168))).trans rfl) ?_
 exact ⟨v87,c88,c166,i5,by first | trivial | rfl,hv89,hv170,l5,
   (a0k (a0l (a0k (a0s (a0k (a0s (a0l (a0s (a0l (a0s (a0l hS168)))))))))))⟩
end Go.Proofs.Ytohofoampalhoaa.X
namespace Go.Proofs.Ytohofoampalhoaa.X
open Go
theorem qey {W:Nat→Bool}{h:Heap} (hW:∀ b,
  (geL h.length) b→W b=true) (n8:Node) (r:Int) (hF:u3 n8=some r) : Ret E W 87 [.agg [.int .i64 n8.View.Epoch,.int .i64 n8.View.Leader,
  lst cI n8.View.InStep,lst qm n8.Log,lst cI n8.Known,.int .i64 n8.Told]] h (fun v h'=>cut h.length h' E.sz false 9 v=some (.int .i64 r)):=by
 refine Ret.of (fn:=x87) rfl (Run.of ?_)
 unfold u3 at hF
 have zf0:zb [.agg [.int .i64 n8.View.Epoch,.int .i64 n8.View.Leader,lst cI n8.View.InStep,lst qm n8.Log,lst cI n8.Known,
   .int .i64 n8.Told]] 0 = .agg [.int .i64 n8.View.Epoch,.int .i64 n8.View.Leader,lst cI n8.View.InStep,lst qm n8.Log,lst cI n8.Known,
   .int .i64 n8.Told]:=rfl
 generalize zb [.agg [.int .i64 n8.View.Epoch,.int .i64 n8.View.Leader,lst cI n8.View.InStep,lst qm n8.Log,lst cI n8.Known,.int .i64 n8.Told]]=fr0 at zf0 ⊢
 have hS:Sep h (geL h.length) []:=a1q h
 simp only [x87,qe,qc,j7,zf0,B0,reduceIte,a9]
 refine jm (cs:=[.int .i64 n8.View.Epoch,.int .i64 n8.View.Leader,lst cI n8.View.InStep,lst qm n8.Log,lst cI n8.Known,
   .int .i64 n8.Told]) hS rfl rfl rfl (fun b1 h2 hS3=>?_)
 simp only [qd,qa,B0,reduceIte,a9]
 refine jc hS3 hW (by simp only [B0,reduceIte,a9]) (fun h5 hS6=>?_)
 simp only [jd,q1u,qe,qc,qd,qa,q7t,qq,qb,s5,s9,t5,qr,qn,B0,reduceIte,
   a9]
 refine qg (v:=lst qm n8.Log) rfl ?_
 simp only [zy,qb,je,qd,qa,B0,reduceIte,a9]
 obtain ⟨oc11,hX13,hk14⟩:=jy hF
 simp only [q8r]
 refine xd (σ:=Int) n8.Log (fun i9 x10 s43=>qax n8 i9 x10 s43) (fun s fr' h'=>fr' 1 = .ref [.int .i64 n8.View.Epoch,.int .i64 n8.View.Leader,
   lst cI n8.View.InStep,lst qm n8.Log,lst cI n8.Known,
   .int .i64 n8.Told] 0∧fr' 3 = .int .i64 s∧fr' 7=lst qm n8.Log∧Sep h' (geL h.length) ([])) hX13 ⟨rfl,rfl,rfl,hS6⟩ (by simp only [B0,reduceIte,
   a9]) (by simp only [B0,reduceIte,a9]) (fun _ _ _ h=>h) rfl rfl (fun _ _ _ _ h=>h) (fun _ _ _ _ h=>h) (fun _ _ _ _ h=>h) (by decide) ?_ ?_
 ·rintro i9 x10 s8 fr23 h24 hx29 ⟨f26,f27,f28,hS25⟩ f30 f31 oc12 hF15 hr16 Q17 hN18 hB22 hK19 hR20 hE21
  unfold qax at hF15
  simp only [q1p,qe,qc,f28,f30,ji,B0,reduceIte,a9]
  refine qg (v := .ref (qm x10) 0) (xg hx29 rfl) ?_
  simp only [qn,B0,reduceIte,a9]
  refine qg (v := .agg [.int .i64 x10.Epoch,.int .i64 x10.Value]) rfl ?_
  simp only [kc,B0,reduceIte,a9]
  refine jp hS25 (fun b32 h33 hS34=>?_)
  simp only [zp,B0,reduceIte,a9]
  refine zm (us:=[.int .i64 x10.Epoch,.int .i64 x10.Value]) rfl (cs':=[.int .i64 x10.Epoch,.int .i64 x10.Value]) hS34 hW rfl rfl (nle rfl) rfl (fun h36 hS37=>?_)
  simp only [qa,B0,reduceIte,a9]
  refine jc hS37 hW (by simp only [B0,reduceIte,a9]) (fun h38 hS39=>?_)
  simp only [jd,q0x,qe,qc,qq,qb,s5,s9,t5,qr,qn,B0,reduceIte,a9]
  refine qg (v := .int .i64 x10.Epoch) rfl ?_
  simp only [f26,qq,qb,s5,s9,t5,qr,qn,B0,reduceIte,a9]
  refine qg (v := .int .i64 n8.View.Epoch) rfl ?_
  simp only [qv,qb,k6,qa,q59,qy,B0,reduceIte,a9]
  refine qu (t:=(decide (x10.Epoch<n8.View.Epoch))) (fun hc40=>?_) (fun hc40=>?_)
  ·rw [iteT hc40] at hF15
   simp only [qc,f27,qd,qv,qb,yx,qa,qo,B0,reduceIte,a9]
   have e41:=qh hF15
   exact hN18 _ _ _ e41.symm ⟨f26,rfl,f28,hS39⟩ (f30) (f31)
  rw [iteF hc40] at hF15
  simp only [zf,qo,B0,reduceIte,a9]
  have e42:=qh hF15
  exact hN18 _ _ _ e42.symm ⟨f26,f27,f28,hS39⟩ (f30) (f31)
 rintro s44 fr45 h46 rfl ⟨f48,f49,f50,hS47⟩
 dsimp only [jnO] at hk14
 unfold qhg at hk14
 simp only [qe,qc,f49,qd,qa,qw,B0,reduceIte,a9]
 have he:=qh hk14
 subst he
 simp only [q9,B0,reduceIte,a9]
 exact rfl
theorem qal {W:Nat→Bool}{h:Heap}{lo:Nat→Prop}{S0:List Obj} (hW:∀ b,
  lo b→W b=true) (l4:Cluster) (d9:XV) (i4:List Obj) (i8:SlF cI 1 3 d9 l4.Truth.InStep i4) (e8:XV) (l7:List Obj)
  (l6:SlN Node.R 6 68 e8 l4.Nodes l7) (f4:XV) (i5:List Obj) (l5:SlF qm 2 92 f4 l4.Acked i5) (k_1:Int) (r:Cluster × Bool)
  (hF:wv l4 k_1=some r) (hS:Sep h lo (i4++(l7++(i5++(S0))))) : Ret E W 88 [.agg [.int .i64 l4.Truth.Epoch,.int .i64 l4.Truth.Leader,d9,
  e8,f4],.int .i64 k_1] h (fun v h'=>∃ l9 m0 o8 n7,v = .tup [.agg [.int .i64 r.1.Truth.Epoch,.int .i64 r.1.Truth.Leader,d9,e8,o8],
  .bool r.2]∧SlF cI 1 3 d9 r.1.Truth.InStep l9∧SlN Node.R 6 68 e8 r.1.Nodes m0∧SlF qm 2 92 o8 r.1.Acked n7∧Sep h' lo (l9++(m0 ++
  (n7++(S0))))):=by
 refine Ret.of (fn:=x88) rfl (Run.of ?_)
 unfold wv at hF
 have zf0:zb [.agg [.int .i64 l4.Truth.Epoch,.int .i64 l4.Truth.Leader,d9,e8,f4],.int .i64 k_1] 0 = .agg [.int .i64 l4.Truth.Epoch,
   .int .i64 l4.Truth.Leader,d9,e8,f4]:=rfl
 have zf1:zb [.agg [.int .i64 l4.Truth.Epoch,.int .i64 l4.Truth.Leader,d9,e8,f4],.int .i64 k_1] 1 = .int .i64 k_1:=rfl
 generalize zb [.agg [.int .i64 l4.Truth.Epoch,.int .i64 l4.Truth.Leader,d9,e8,f4],.int .i64 k_1]=fr0 at zf0 zf1 ⊢
 simp only [x88,qe,qc,j7,zf0,B0,reduceIte,a9]
 refine jm (cs:=[.int .i64 l4.Truth.Epoch,.int .i64 l4.Truth.Leader,d9,e8,
   f4]) hS rfl rfl (qj rfl (qj rfl (qj (a0g i8) (qj (a10 l6) (qj (a0g l5) zq))))) (fun b1 h2 hS3=>?_)
 simp only [kc,B0,reduceIte,a9]
 refine jp hS3 (fun b5 h6 hS7=>?_)
 simp only [qd,qa,qsz,qe,qc,qq,qb,s5,s9,t5,zd,qn,B0,reduceIte,a9]
 refine qg (v:=e8) ((jt (a0r _ _ _ (a0l hS7))).trans rfl) ?_
 obtain ⟨x9,hx10,hF11⟩:=qi hF
 simp only [zf1,qd,ji,B0,reduceIte,a9]
 obtain ⟨b12,hb13⟩:=a4g l6 (ka hx10)
 refine qg (SlN.ia l6 hb13 hx10) ?_
 obtain ⟨c14,cs15,os16,hv17,hR18,hS19⟩:=a2w (a26 l6 hb13 Node.RO.len) hx10 z7 Node.RO.len (a0e hS7)
 obtain ⟨v21,c22,v25,c26,v29,c30,hv23,hv27,hv31,rfl,rfl⟩:=hR18
 have hS20:=a2x hS19
 simp only [qn,B0,reduceIte,a9]
 refine qg (v := .agg [.int .i64 x9.View.Epoch,.int .i64 x9.View.Leader,v21,v25,v29,.int .i64 x9.Told]) ((SlG.lds (o:=0) hv17 rfl hx10 hS20 (nle rfl)).trans rfl) ?_
 simp only [kc,B0,reduceIte,a9]
 refine jp hS20 (fun b33 h34 hS35=>?_)
 simp only [zp,B0,reduceIte,a9]
 refine zm (us:=[.int .i64 x9.View.Epoch,.int .i64 x9.View.Leader,v21,v25,v29,.int .i64 x9.Told]) rfl (cs':=[.int .i64 x9.View.Epoch,.int .i64 x9.View.Leader,
   v21,v25,v29,.int .i64 x9.Told]) hS35 hW rfl (qj rfl (qj rfl (qj (a0g hv23) (qj (a0g hv27) (qj (a0g hv31) (qj rfl zq)))))) (nle rfl) rfl
   (fun h37 hS38=>?_)
 simp only [qa,qto,qe,qc,qd,qtu,qq,qb,s5,s9,t5,zd,qn,B0,reduceIte,a9]
 refine qg (v:=v21) ((jt (a0r _ _ _ hS38)).trans rfl) ?_
 simp only [zy,qb,a2i hv23,qd,qa,B0,reduceIte,a9]
 obtain ⟨oc43,hX45,hk46⟩:=jy hF11
 simp only [q2y]
 refine qfn (σ:=Int) (fun i41 s80=>qbh x9 i41 s80)
   (fun s fr' h'=>fr' 1 = .int .i64 k_1∧fr' 2 = .ptr b1 0∧fr' 4 = .ptr b5 0∧fr' 6 = .ptr b33 0∧fr' 7 = .int .i64 s∧fr' 17=v21∧Sep h' lo
   ([Blk1 b1 [.int .i64 l4.Truth.Epoch,.int .i64 l4.Truth.Leader,d9,e8,f4] 28]++([Blk1 b5 [.int .i64 0,.int .i64 0,.nil,.nil,
   .nil] 28]++([Blk1 b33 [.int .i64 x9.View.Epoch,.int .i64 x9.View.Leader,v21,v25,v29,
   .int .i64 x9.Told] 68]++(c22++(i4++(c14++(i5++(c26++(c30++(S0))))))))))) hX45 ⟨zf1,rfl,rfl,rfl,rfl,rfl,
   (t7 (a0j (a0v (a0v (t7 (a0i (t7 (a0i (a0i hS38)))))))))⟩ (by simp only [B0,reduceIte,a9]) (by simp only [B0,reduceIte,
   a9]) (fun _ _ _ h=>h) rfl rfl (fun _ _ _ _ h=>h) (fun _ _ _ _ h=>h) (fun _ _ _ _ h=>h) (by decide) ?_ ?_
 ·rintro i41 s40 fr55 h56 hx64 ⟨f58,f59,f60,f61,f62,f63,hS57⟩ f65 f66 oc44 hF47 hr48 Q49 hN50 hB54 hK51 hR52 hE53
  unfold qbh at hF47
  obtain ⟨x67,hx68,hF69⟩:=qi hF47
  simp only [q0l,qe,qc,f63,f65,ji,B0,reduceIte,a9]
  obtain ⟨b70,hb71⟩:=a13 hv23 (ka hx68)
  refine qg (a2u hv23 hb71 hx68) ?_
  simp only [qn,B0,reduceIte,a9]
  refine qg (v := .int .i64 x67) ((SlF.ld (o:=0) hv23 (a0e hS57) hb71 hx68 (fun _=>rfl) (nle rfl)).trans rfl) ?_
  simp only [qd,qa,q0r,qe,qc,f61,qq,qb,s5,s9,t5,zd,qn,B0,reduceIte,a9]
  refine qg (v:=v29) ((jt (a0r _ _ _ (a0k hS57))).trans rfl) ?_
  obtain ⟨x72,hx73,hF74⟩:=qi hF69
  simp only [qd,ji,B0,reduceIte,a9]
  obtain ⟨b75,hb76⟩:=a13 hv31 (ka hx73)
  refine qg (a2u hv31 hb76 hx73) ?_
  simp only [qn,B0,reduceIte,a9]
  refine qg (v := .int .i64 x72) ((SlF.ld (o:=0) hv31 (t7 hS57) hb76 hx73 (fun _=>rfl) (nle rfl)).trans rfl) ?_
  simp only [f62,qd,qv,qb,k6,qa,q8a,qy,B0,reduceIte,a9]
  refine qu (t:=(decide (x72<s40))) (fun hc77=>?_) (fun hc77=>?_)
  ·rw [iteT hc77] at hF74
   simp only [q2e,qc,f61,qq,qb,s5,s9,t5,zd,qn,B0,reduceIte,a9]
   refine qg (v:=v29) ((jt (a0r _ _ _ (a0k hS57))).trans rfl) ?_
   simp only [qd,ji,B0,reduceIte,a9]
   refine qg (a2u hv31 hb76 hx73) ?_
   simp only [qn,B0,reduceIte,a9]
   refine qg (v := .int .i64 x72) ((SlF.ld (o:=0) hv31 (t7 hS57) hb76 hx73 (fun _=>rfl) (nle rfl)).trans rfl) ?_
   simp only [qd,qa,qo,B0,reduceIte,a9]
   have e78:=qh hF74
   exact hN50 _ _ _ e78.symm ⟨f58,f59,f60,f61,rfl,f63,(t7 (t7 (t7 (t7 (t7 (t7 (t7 (t7 (t7 hS57)))))))))⟩ (f65) (f66)
  rw [iteF hc77] at hF74
  simp only [zf,qo,B0,reduceIte,a9]
  have e79:=qh hF74
  exact hN50 _ _ _ e79.symm ⟨f58,f59,f60,f61,f62,f63,(t7 (t7 (t7 (t7 (t7 (t7 (t7 (t7 (t7 hS57)))))))))⟩ (f65) (f66)
 rintro s81 fr82 h83 rfl ⟨f85,f86,f87,f88,f89,f90,hS84⟩
 dsimp only [jnO] at hk46
 unfold qez at hk46
 simp only [qug,qe,qc,f89,qd,f88,qq,qb,s5,s9,t5,zd,qn,B0,reduceIte,a9]
 refine qg (v := .int .i64 x9.Told) ((jt (a0r _ _ _ (a0k hS84))).trans rfl) ?_
 simp only [qv,qb,qov,qa,q31,qy,B0,reduceIte,a9]
 refine qu (t:=(decide (s81≤x9.Told))) (fun hc91=>?_) (fun hc91=>?_)
 ·rw [iteT hc91] at hk46
  simp only [qe,qc,f86,qn,B0,reduceIte,a9]
  refine qg (v := .agg [.int .i64 l4.Truth.Epoch,.int .i64 l4.Truth.Leader,d9,e8,f4]) ((zr (a0r _ _ _ hS84)).trans rfl) ?_
  simp only [f87,zp,B0,reduceIte,a9]
  refine zm (us:=[.int .i64 l4.Truth.Epoch,.int .i64 l4.Truth.Leader,d9,e8,f4]) rfl (cs':=[.int .i64 l4.Truth.Epoch,.int .i64 l4.Truth.Leader,
    d9,e8,f4]) (a0l hS84) hW rfl (qj rfl (qj rfl (qj (a0g i8) (qj (a4h hv17) (qj (a0g l5) zq))))) (nle rfl) rfl
    (fun h92 hS93=>?_)
  simp only [qd,qa,qw,B0,reduceIte,a9]
  obtain ⟨c94,hv95,hS96⟩:=SlG.cls0 (c:=c14) (os:=c22++(c26++(c30))) hv17 rfl hx10 z7 (Node.RI (x:=x9) hv23 hv27 hv31) (a1p (c1:=c22) (c2:=c26)
    (c3:=c30) (a0j (a03 (t7 (t7 hS93)))))
  have hv97:=a1s hv95
  have he:=qh hk46
  subst he
  refine jv (ql (j6 (bb:=b5) (oo:=0) (v := .agg [.int .i64 l4.Truth.Epoch,.int .i64 l4.Truth.Leader,d9,e8,
    f4]) (f87) ((zr (a0r _ _ _ (a0l hS96))).trans rfl)) (ql (k8 (v := .bool false) (rfl)) zh)) ?_
  exact ⟨i4,c94,f4,i5,by first | trivial | rfl,i8,hv97,l5,(a0k (a0l (a0k (a0s (a0l (a0s (a0l (a0s (a0l hS96)))))))))⟩
 rw [iteF hc91] at hk46
 simp only [zf,qu1,qe,qc,f89,qd,f88,qq,qb,s5,s9,t5,zd,zp,B0,reduceIte,a9]
 refine zm (us:=[.int .i64 s81]) rfl (cs':=[.int .i64 x9.View.Epoch,.int .i64 x9.View.Leader,v21,v25,v29,
   .int .i64 s81]) (a0k hS84) hW rfl rfl (nle rfl) rfl (fun h98 hS99=>?_)
 simp only [qa,qwr,qe,qc,f86,qq,qb,s5,s9,t5,zd,qn,B0,reduceIte,a9]
 refine qg (v:=e8) ((jt (a0r _ _ _ (a0l hS99))).trans rfl) ?_
 simp only [f85,qd,f88,qn,B0,reduceIte,a9]
 refine qg (v := .agg [.int .i64 x9.View.Epoch,.int .i64 x9.View.Leader,v21,v25,v29,.int .i64 s81]) ((zr (a0r _ _ _ hS99)).trans rfl) ?_
 simp only [ji,B0,reduceIte,a9]
 refine qg (SlG.ia hv17 hx10) ?_
 simp only [zp,B0,reduceIte,a9]
 refine ws (n:=6) (us:=[.int .i64 x9.View.Epoch,.int .i64 x9.View.Leader,v21,v25,v29,.int .i64 s81]) (cs:=[.int .i64 x9.View.Epoch,.int .i64 x9.View.Leader,
   v21,v25,v29,.int .i64 x9.Told]) (o:=0) (cs':=[.int .i64 x9.View.Epoch,.int .i64 x9.View.Leader,v21,v25,v29,
   .int .i64 s81]) rfl hv17 rfl hx10 (a03 hS99) hW rfl (qj rfl (qj rfl (qj (a0g hv23) (qj (a0g hv27) (qj (a0g hv31) (qj rfl zq))))))
   (nle rfl) rfl (fun c102 h100 hv103 hS101=>?_)
 simp only [qa,qvn,qe,qc,f89,qd,f86,qq,qb,s5,s9,t5,zd,qn,B0,reduceIte,a9]
 refine qg (v:=f4) ((jt (a0r _ _ _ (a0k hS101))).trans rfl) ?_
 simp only [zy,qb,a2i l5,qv,qj3,qa,q1v,qy,B0,reduceIte,a9]
 refine qu (t:=(decide ((t6 l4.Acked:Int)<s81))) (fun hc104=>?_) (fun hc104=>?_)
 ·rw [iteT hc104] at hk46
  simp only [q3h,qc,yh,evp,B0,reduceIte,a9]
  refine kx (n:=2) (f:=qm) ([] : List Row) hS101 rfl rfl (fun v105 c106 h107 hv108 hS109=>?_)
  simp only [f88,qq,qb,s5,s9,t5,zd,qn,B0,reduceIte,a9]
  refine qg (v:=v25) ((jt (a0r _ _ _ (a0k hS109))).trans rfl) ?_
  obtain ⟨l111,hx112,hF113⟩:=qi hk46
  simp only [f89,qd,qes,a02,a1k,B0,reduceIte,a9]
  obtain ⟨w114,i115,he116,hw117⟩:=SlF.win (f:=qm) (ty:=92) none (some s81) hv27 hx112 (t7 hS109)
  refine qg he116 ?_
  simp only [wt,B0,reduceIte,a9]
  obtain ⟨l118,hx119,hF120⟩:=qi hF113
  refine yn (f:=qm) hv108 hS109 hW (fun _=>rfl) (fun _=>rfl) (SlW.first hw117 hv27 (t7 hS109) (fun _=>rfl)) hx119 (fun v121 c122 h123 hv124 hS125=>?_)
  simp only [f86,qq,qb,s5,s9,t5,zd,zp,B0,reduceIte,a9]
  refine zm (us:=[v121]) (j8 (a0g hv124)) (cs':=[.int .i64 l4.Truth.Epoch,.int .i64 l4.Truth.Leader,d9,e8,
    v121]) (a0e hS125) hW rfl (qj (a0g hv124) zq) (nle rfl) rfl (fun h127 hS128=>?_)
  simp only [qa,qe,qc,f86,qn,B0,reduceIte,a9]
  refine qg (v := .agg [.int .i64 l4.Truth.Epoch,.int .i64 l4.Truth.Leader,d9,e8,v121]) ((zr (a0r _ _ _ hS128)).trans rfl) ?_
  simp only [f87,zp,B0,reduceIte,a9]
  refine zm (us:=[.int .i64 l4.Truth.Epoch,.int .i64 l4.Truth.Leader,d9,e8,v121]) rfl (cs':=[.int .i64 l4.Truth.Epoch,.int .i64 l4.Truth.Leader,d9,
    e8,v121]) (a0i hS128) hW rfl (qj rfl (qj rfl (qj (a0g i8) (qj (a4h hv103) (qj (a0g hv124) zq))))) (nle rfl) rfl
    (fun h129 hS130=>?_)
  simp only [qd,qa,qw,B0,reduceIte,a9]
  obtain ⟨c131,hv132,hS133⟩:=a3u (e':=(Node.mk x9.View x9.Log x9.Known s81)) (c:=c102) (os:=c22++(c26++(c30))) hv103 rfl hx10 z7 (Node.RI (x :=
    (Node.mk x9.View x9.Log x9.Known s81)) hv23 hv27 hv31) (a1p (c1:=c22) (c2:=c26) (c3:=c30) (a0v (a0j (Sep.m9 (Sep.m9 hS130)))))
  have hx134:=kf (x':=(Node.mk x9.View x9.Log x9.Known s81)) hx10
  have hv135:=a1s hv132
  have he:=qh hF120
  subst he
  refine jv (ql (j6 (bb:=b5) (oo:=0) (v := .agg [.int .i64 l4.Truth.Epoch,.int .i64 l4.Truth.Leader,d9,e8,
    v121]) (f87) ((zr (a0r _ _ _ (a0l hS133))).trans rfl)) (ql (k8 (v := .bool true) (rfl)) zh)) ?_
  exact ⟨i4,c131,v121,c122,by first | trivial | rfl,i8,hv135,hv124,
    (a0k (a0l (a0l (a0s (a0e (a0s (a0k (a0s (a0l (a0s (a0l hS133)))))))))))⟩
 rw [iteF hc104] at hk46
 simp only [zf,qe,qc,f86,qn,B0,reduceIte,a9]
 refine qg (v := .agg [.int .i64 l4.Truth.Epoch,.int .i64 l4.Truth.Leader,d9,e8,f4]) ((zr (a0r _ _ _ (a0k hS101))).trans rfl) ?_
 simp only [f87,zp,B0,reduceIte,a9]
 refine zm (us:=[.int .i64 l4.Truth.Epoch,.int .i64 l4.Truth.Leader,d9,e8,f4]) rfl (cs':=[.int .i64 l4.Truth.Epoch,.int .i64 l4.Truth.Leader,d9,
   e8,f4]) (a0e hS101) hW rfl (qj rfl (qj rfl (qj (a0g i8) (qj (a4h hv103) (qj (a0g l5) zq))))) (nle rfl) rfl
   (fun h136 hS137=>?_)
 simp only [qd,qa,qw,B0,reduceIte,a9]
 obtain ⟨c138,hv139,hS140⟩:=a3u (e':=(Node.mk x9.View x9.Log x9.Known s81)) (c:=c102) (os:=c22++(c26++(c30))) hv103 rfl hx10 z7 (Node.RI (x :=
   (Node.mk x9.View x9.Log x9.Known s81)) hv23 hv27 hv31) (a1p (c1:=c22) (c2:=c26) (c3:=c30) (a0i (a0v (t7 (t7 hS137)))))
 have hx141:=kf (x':=(Node.mk x9.View x9.Log x9.Known s81)) hx10
 have hv142:=a1s hv139
 have he:=qh hk46
 subst he
 refine jv (ql (j6 (bb:=b5) (oo:=0) (v := .agg [.int .i64 l4.Truth.Epoch,.int .i64 l4.Truth.Leader,d9,e8,
   f4]) (f87) ((zr (a0r _ _ _ (a0l hS140))).trans rfl)) (ql (k8 (v := .bool true) (rfl)) zh)) ?_
 exact ⟨i4,c138,f4,i5,by first | trivial | rfl,i8,hv142,l5,(a0k (a0l (a0k (a0s (a0l (a0s (a0l (a0s (a0l hS140)))))))))⟩
end Go.Proofs.Ytohofoampalhoaa.X
