/- The functions' code comes to what the plain functions say (2). -/
import Derived.Test.YtpddolihbnfahaaXAH1
set_option linter.unusedVariables false
set_option linter.unusedSimpArgs false
set_option maxRecDepth 100000
namespace Go.Proofs.Ytpddolihbnfahaa.X
open Go
open Nat (reduceEqDiff)
theorem qiq {W:Nat→Bool}{h:Heap} (hW:∀ b,
  (geL h.length) b→W b=true) (e_0:Election) (r:Election) (hF:uk e_0=some r) : Ret E W 93 [.agg [lst Server.cells e_0.Servers,
  lst Letter.cells e_0.Post,lst Vote.cells e_0.Led]] h (fun v h'=>∃ rv0_0 rc0_0 rv0_1 rc0_1 rv0_2 rc0_2,v = .agg [rv0_0,rv0_1,
  rv0_2]∧SlN Server.R 6 46 rv0_0 r.Servers rc0_0∧SlF Letter.cells 7 93 rv0_1 r.Post rc0_1∧SlF Vote.cells 2 39 rv0_2 r.Led rc0_2∧Sep h' (geL h.length) (rc0_0 ++
  (rc0_1++(rc0_2++([]))))):=by
 refine Ret.of (fn:=x93) rfl (Run.of ?_)
 unfold uk at hF
 have zf0:qy [.agg [lst Server.cells e_0.Servers,lst Letter.cells e_0.Post,lst Vote.cells e_0.Led]] 0 = .agg [lst Server.cells e_0.Servers,lst Letter.cells e_0.Post,
   lst Vote.cells e_0.Led]:=rfl
 generalize qy [.agg [lst Server.cells e_0.Servers,lst Letter.cells e_0.Post,lst Vote.cells e_0.Led]]=fr0 at zf0 ⊢
 have hS:Sep h (geL h.length) []:=Sep.nil h
 simp only [x93,qd,qc,kx,zf0,B0,reduceIte,reduceEqDiff]
 refine jv (cs:=[lst Server.cells e_0.Servers,lst Letter.cells e_0.Post,lst Vote.cells e_0.Led]) hS rfl rfl rfl (fun b1 h2 hS3=>?_)
 simp only [ju,B0,reduceIte,reduceEqDiff]
 refine jb hS3 (fun b5 h6 hS7=>?_)
 simp only [qa,B0,reduceIte,reduceEqDiff]
 refine jd (Sep.m1 hS7) hW (by simp only [B0,reduceIte,reduceEqDiff]) (fun h9 hS10=>?_)
 simp only [jc,q4v,qd,j5,ww,evp,B0,reduceIte,reduceEqDiff]
 refine yb (n:=7) (f:=Letter.cells) ([] : List Letter) hS10 rfl rfl (fun v11 c12 h13 hv14 hS15=>?_)
 simp only [qmi,evp,B0,reduceIte,reduceEqDiff]
 refine yb (n:=2) (f:=Vote.cells) ([] : List Vote) hS15 rfl rfl (fun v17 c18 h19 hv20 hS21=>?_)
 simp only [qoh,B0,reduceIte,reduceEqDiff]
 refine qij hS21 (fun b23 h24 hS25=>?_)
 simp only [jf,qp,Nat.reduceAdd,Nat.zero_add,Nat.add_zero,qu,z8,B0,reduceIte,reduceEqDiff]
 refine q9 (v:=lst Letter.cells e_0.Post) rfl ?_
 simp only [qhy,B0,reduceIte,reduceEqDiff]
 obtain ⟨l27,hx28,hF29⟩:=qi hF
 have hq30:=nwq (fun z hz=>Sep.dj (Sep.m3 (Sep.m3 hS25)) qfh (SlF.rowfp hv14 z hz))
 refine qk6 qi2 ?_
 refine wc (f:=Letter.cells) hv14 (Sep.m2 hS25) hW (fun _=>rfl) (fun _=>rfl) (w4 (fun _=>rfl)) hx28 (fun v31 c32 h33 hv34 hS35=>?_)
 simp only [qd2,qp,Nat.reduceAdd,Nat.zero_add,Nat.add_zero,qu,qdc,qjo,B0,reduceIte,reduceEqDiff]
 refine q9 (v:=lst Vote.cells e_0.Led) rfl ?_
 simp only [qcr,B0,reduceIte,reduceEqDiff]
 obtain ⟨l37,hx38,hF39⟩:=qi hF29
 refine wc (f:=Vote.cells) hv20 (Sep.m2 hS35) hW (fun _=>rfl) (fun _=>rfl) (w4 (fun _=>rfl)) hx38 (fun v40 c41 h42 hv43 hS44=>?_)
 simp only [qbi,evp,B0,reduceIte,reduceEqDiff]
 refine q9 (v := .agg [.nil,v31,v40]) (qdt (qba (us:=[v31]) (vs:=[.nil,v31,
   .nil]) (jl (SlF.one hv34)) rfl (Nat.le_of_ble_eq_true rfl) (qo (SlF.one hv34) zn) rfl (qba (us:=[v40]) (vs:=[.nil,v31,
   v40]) (jl (SlF.one hv43)) rfl (Nat.le_of_ble_eq_true rfl) (qo (SlF.one hv43) zn) rfl qf9))) ?_
 simp only [qdg,B0,reduceIte,reduceEqDiff]
 refine w9 (us:=[.nil,v31,v40]) rfl (cs':=[.nil,v31,
   v40]) (Sep.m2 hS44) hW rfl (qo rfl (qo (SlF.one hv34) (qo (SlF.one hv43) zn))) (Nat.le_of_ble_eq_true rfl) rfl (fun h46 hS47=>?_)
 simp only [zk,q0z,qd,qc,qn,qb,Nat.reduceAdd,Nat.zero_add,Nat.add_zero,qu,qj,B0,reduceIte,reduceEqDiff]
 refine qh (v:=lst Server.cells e_0.Servers) rfl ?_
 simp only [zj,qb,zr,qe,qa,B0,reduceIte,reduceEqDiff]
 obtain ⟨oc60,hX62,hk63⟩:=jm hF39
 simp only [qz4]
 refine uf (σ:=Election) e_0.Servers (fun i58 x59 s139=>u3 l27 l37 i58 x59 s139) (fun s fr' h'=>∃ v55 c56,
   fr' 2 = .ptr b5 0∧fr' 3 = .ptr b23 0∧fr' 16=lst Server.cells e_0.Servers∧SlN Server.R 6 46 v55 s.Servers c56∧Sep h' (geL h.length) ([Blk1 b5 [.nil,.nil,
   .nil] 31]++([Blk1 b23 [v55,v31,v40] 31]++(c56++(c32++(c41++([]))))))) hX62 ⟨.nil,[],rfl,rfl,rfl,SlN.nil,
   ((Sep.m3 (Sep.m2 (Sep.m2 (Sep.m1 hS47)))) : Sep _ (geL h.length) ([Blk1 b5 [.nil,.nil,.nil] 31]++([Blk1 b23 [.nil,v31,
   v40] 31]++(c32++(c41++([]))))))⟩ (by simp only [B0,reduceIte,reduceEqDiff]) (by simp only [B0,reduceIte,
   reduceEqDiff]) (fun _ _ _ h=>h) rfl rfl (fun _ _ _ _ h=>h) (fun _ _ _ _ h=>h) (fun _ _ _ _ h=>h) (by decide) ?_ ?_
 ·rintro i58 x59 s53 fr72 h73 hx78 ⟨v55,c56,f75,f76,f77,hv57,hS74⟩ f79 f80 oc61 hF64 hr65 Q66 hN67 hB71 hK68 hR69 hE70
  unfold u3 at hF64
  simp only [q43,qd,qc,f77,f79,zt,B0,reduceIte,reduceEqDiff]
  refine qh (v := .ref (Server.cells x59) 0) (uj hx78 rfl) ?_
  simp only [qj,B0,reduceIte,reduceEqDiff]
  refine qh (v := .agg [.int .i64 x59.Term,.int .i64 x59.Voted,.bool x59.Stands,.bool x59.Leads,lst cI x59.Got,lst cI x59.Log]) rfl ?_
  simp only [ju,B0,reduceIte,reduceEqDiff]
  refine jb hS74 (fun b81 h82 hS83=>?_)
  simp only [ze,B0,reduceIte,reduceEqDiff]
  refine zc (us:=[.int .i64 x59.Term,.int .i64 x59.Voted,.bool x59.Stands,.bool x59.Leads,lst cI x59.Got,lst cI x59.Log]) rfl (cs':=[.int .i64 x59.Term,
    .int .i64 x59.Voted,.bool x59.Stands,.bool x59.Leads,lst cI x59.Got,lst cI x59.Log]) hS83 hW rfl rfl (Nat.le_of_ble_eq_true rfl) rfl (fun h85 hS86=>?_)
  simp only [qa,q5g,qd,qc,yh,evp,B0,reduceIte,reduceEqDiff]
  refine k5 (n:=1) (f:=cI) ([] : List Int) hS86 rfl rfl (fun v87 c88 h89 hv90 hS91=>?_)
  simp only [qn,qb,Nat.reduceAdd,Nat.zero_add,Nat.add_zero,qx,qj,B0,reduceIte,reduceEqDiff]
  refine qh (v:=lst cI x59.Got) ((z9 (Sep.bk _ _ _ (Sep.m1 hS91))).trans rfl) ?_
  simp only [xy,B0,reduceIte,reduceEqDiff]
  obtain ⟨l93,hx94,hF95⟩:=qi hF64
  refine we (f:=cI) hv90 hS91 hW (fun _=>rfl) (fun _=>rfl) (w4 (fun _=>rfl)) hx94 (fun v96 c97 h98 hv99 hS100=>?_)
  simp only [qn,qb,Nat.reduceAdd,Nat.zero_add,Nat.add_zero,qx,ze,B0,reduceIte,reduceEqDiff]
  refine zc (us:=[v96]) (jl (SlF.one hv99)) (cs':=[.int .i64 x59.Term,.int .i64 x59.Voted,.bool x59.Stands,.bool x59.Leads,v96,
    lst cI x59.Log]) (Sep.m1 hS100) hW rfl (qo (SlF.one hv99) zn) (Nat.le_of_ble_eq_true rfl) rfl (fun h102 hS103=>?_)
  simp only [qa,q33,qd,qc,yh,evp,B0,reduceIte,reduceEqDiff]
  refine k5 (n:=1) (f:=cI) ([] : List Int) hS103 rfl rfl (fun v104 c105 h106 hv107 hS108=>?_)
  simp only [qn,qb,Nat.reduceAdd,Nat.zero_add,Nat.add_zero,qx,qj,B0,reduceIte,reduceEqDiff]
  refine qh (v:=lst cI x59.Log) ((z9 (Sep.bk _ _ _ (Sep.m1 hS108))).trans rfl) ?_
  simp only [xy,B0,reduceIte,reduceEqDiff]
  obtain ⟨l110,hx111,hF112⟩:=qi hF95
  refine we (f:=cI) hv107 hS108 hW (fun _=>rfl) (fun _=>rfl) (w4 (fun _=>rfl)) hx111 (fun v113 c114 h115 hv116 hS117=>?_)
  simp only [qn,qb,Nat.reduceAdd,Nat.zero_add,Nat.add_zero,qx,ze,B0,reduceIte,reduceEqDiff]
  refine zc (us:=[v113]) (jl (SlF.one hv116)) (cs':=[.int .i64 x59.Term,.int .i64 x59.Voted,.bool x59.Stands,.bool x59.Leads,v96,
    v113]) (Sep.m1 hS117) hW rfl (qo (SlF.one hv116) zn) (Nat.le_of_ble_eq_true rfl) rfl (fun h119 hS120=>?_)
  simp only [qa,q44,qc,f76,qn,qb,Nat.reduceAdd,Nat.zero_add,Nat.add_zero,qx,qj,B0,reduceIte,reduceEqDiff]
  refine qh (v:=v55) ((z9 (Sep.bk _ _ _ (Sep.m4 hS120))).trans rfl) ?_
  simp only [qj,B0,reduceIte,reduceEqDiff]
  refine qh (v := .agg [.int .i64 x59.Term,.int .i64 x59.Voted,.bool x59.Stands,.bool x59.Leads,v96,v113]) ((zw (Sep.bk _ _ _ hS120)).trans rfl) ?_
  simp only [yh,evp,B0,reduceIte,reduceEqDiff]
  refine qgs (R:=Server.R) (n:=6) (cs:=[.int .i64 x59.Term,.int .i64 x59.Voted,.bool x59.Stands,.bool x59.Leads,v96,
    v113]) (os:=c97++(c114)) (Sep.bi2 (c1:=c97) (c2:=c114) (Sep.m2 (Sep.m1 hS120))) (qba (us:=[.int .i64 x59.Term,.int .i64 x59.Voted,.bool x59.Stands,
    .bool x59.Leads,v96,v113]) (vs:=[.int .i64 x59.Term,.int .i64 x59.Voted,.bool x59.Stands,.bool x59.Leads,v96,
    v113]) rfl rfl (Nat.le_of_ble_eq_true rfl) (qo rfl (qo rfl (qo rfl (qo rfl (qo (SlF.one hv99) (qo (SlF.one hv116) zn)))))) rfl qf9) (Server.RI
    (x:=(Server.mk x59.Term x59.Voted x59.Stands x59.Leads l93 l110)) hv99 hv116) rfl (fun v121 c122 h123 hv124 hS125=>?_)
  simp only [xy,B0,reduceIte,reduceEqDiff]
  obtain ⟨l127,hx128,hF129⟩:=qi hF112
  refine qi4 (R:=Server.R) (c:=c56) hv57 hv124 (Sep.m4 hS125) hW Server.RO.len Server.RO.one hx128 (fun v130 c131 h132 hv133 hS134=>?_)
  simp only [f76,qn,qb,Nat.reduceAdd,Nat.zero_add,Nat.add_zero,qx,ze,B0,reduceIte,reduceEqDiff]
  refine zc (us:=[v130]) (jl (SlN.one hv133)) (cs':=[v130,v31,
    v40]) (Sep.m3 hS134) hW rfl (qo (SlN.one hv133) zn) (Nat.le_of_ble_eq_true rfl) rfl (fun h136 hS137=>?_)
  simp only [qa,ql,B0,reduceIte,reduceEqDiff]
  have e138:=qf hF129
  exact hN67 _ _ _ e138.symm ⟨v130,c131,f75,f76,f77,hv133,(Sep.m4 (Sep.m3 (Sep.m3 (Sep.m4 (Sep.m4 (Sep.dc (Sep.m2 hS137)))))))⟩ (f79) (f80)
 rintro s140 fr145 h146 rfl ⟨v142,c143,f148,f149,f150,hv144,hS147⟩
 dsimp only [jnO] at hk63
 unfold qei at hk63
 simp only [qd,qc,f149,qj,B0,reduceIte,reduceEqDiff]
 refine qh (v := .agg [v142,v31,v40]) ((zw (Sep.bk _ _ _ (Sep.m1 hS147))).trans rfl) ?_
 simp only [f148,ze,B0,reduceIte,reduceEqDiff]
 refine zc (us:=[v142,v31,v40]) rfl (cs':=[v142,v31,
   v40]) hS147 hW rfl (qo (SlN.one hv144) (qo (SlF.one hv34) (qo (SlF.one hv43) zn))) (Nat.le_of_ble_eq_true rfl) rfl (fun h151 hS152=>?_)
 simp only [qa,qs,B0,reduceIte,reduceEqDiff]
 have he:=qf hk63
 subst he
 refine qam (bb:=b5) (oo:=0) (v := .agg [v142,v31,v40]) (by simp only [f148,B0,reduceIte,reduceEqDiff]) ((zw (Sep.bk _ _ _ hS152)).trans rfl) ?_
 exact ⟨v142,c143,v31,c32,v40,c41,by first | trivial | rfl,hv144,hv34,hv43,(Sep.m2 (Sep.m2 (Sep.m2 (Sep.dc ((Sep.dc (hS152)))))))⟩
theorem qcd {W:Nat→Bool}{h:Heap}{lo:Nat→Prop}{S0:List Obj} (hW:∀ b,
  lo b→W b=true) (pb0:Nat) (e_0:Election) (pv0_0:XV) (pc0_0:List Obj) (ph0_0:SlN Server.R 6 46 pv0_0 e_0.Servers pc0_0) (pv0_1:XV) (pc0_1:List Obj)
  (ph0_1:SlF Letter.cells 7 93 pv0_1 e_0.Post pc0_1) (pv0_2:XV) (pc0_2:List Obj) (ph0_2:SlF Vote.cells 2 39 pv0_2 e_0.Led pc0_2) (k_1:Int) (r:Election)
  (hF:wt e_0 k_1=some r) (hS:Sep h lo ([Blk1 pb0 [pv0_0,pv0_1,pv0_2] 31]++(pc0_0++(pc0_1++(pc0_2++(S0)))))) : Ret E W 113 [.ptr pb0 0,
  .int .i64 k_1] h (fun v h'=>∃ ic0_0 ic0_1 iv0_2 ic0_2,
  v = .tup []∧SlN Server.R 6 46 pv0_0 r.Servers ic0_0∧SlF Letter.cells 7 93 pv0_1 r.Post ic0_1∧SlF Vote.cells 2 39 iv0_2 r.Led ic0_2∧Sep h' lo ([Blk1 pb0 [pv0_0,pv0_1,
  iv0_2] 31]++(ic0_0++(ic0_1++(ic0_2++(S0)))))):=by
 refine Ret.of (fn:=kc) rfl (Run.of ?_)
 unfold wt at hF
 have zf0:qy [.ptr pb0 0,.int .i64 k_1] 0 = .ptr pb0 0:=rfl
 have zf1:qy [.ptr pb0 0,.int .i64 k_1] 1 = .int .i64 k_1:=rfl
 generalize qy [.ptr pb0 0,.int .i64 k_1]=fr0 at zf0 zf1 ⊢
 simp only [kc,qd,qc,zf0,qe,ud,qb,zy,qn,Nat.reduceAdd,Nat.zero_add,Nat.add_zero,qx,qj,B0,reduceIte,reduceEqDiff]
 refine qh (v:=pv0_0) ((z9 (Sep.bk _ _ _ hS)).trans rfl) ?_
 obtain ⟨x1,hx2,hF3⟩:=qi hF
 simp only [zf1,qe,zt,B0,reduceIte,reduceEqDiff]
 obtain ⟨b4,hb5⟩:=SlN.isrow ph0_0 (yp hx2)
 refine qh (SlN.ia ph0_0 hb5 hx2) ?_
 obtain ⟨c6,cs7,os8,hv9,hR10,hS11⟩:=SlG.opn (SlN.toG ph0_0 hb5 Server.RO.len) hx2 jq Server.RO.len (Sep.m1 hS)
 obtain ⟨v13,c14,v17,c18,hv15,hv19,rfl,rfl⟩:=hR10
 have hS12:=Sep.no2 hS11
 simp only [qe,qa,qw5,qd,j5,ja,qp,k6,zy,jf,Nat.reduceAdd,Nat.zero_add,Nat.add_zero,qx,z8,B0,reduceIte,
   reduceEqDiff]
 refine q9 (v := .bool x1.Stands) ((SlG.ld (o:=2) hv9 rfl hx2 hS12 (Nat.le_of_ble_eq_true rfl)).trans rfl) ?_
 simp only [ja,qp,B0,reduceIte,reduceEqDiff]
 refine qfp 13 (fun fr' h'=>Sep h' lo ([Blk1 pb0 [pv0_0,pv0_1,
   pv0_2] 31]++(c6++(pc0_1++(pc0_2++(c14++(c18++(S0)))))))∧fr' 28 = .bool (x1.Stands&&(decide ((List.length e_0.Servers:Int)<(IntKind.wrap .i64
   ((2:Int)*(List.length x1.Got:Int))))))∧fr' 0 = .ptr pb0 0∧fr' 1 = .int .i64 k_1∧fr' 4 = .ptr b4 (k_1.toNat*6)) rfl (fun Q21 hN22=>?_) ?_
 ·simp only [List.take_succ_cons,List.take_zero]
  simp only [zh (g:=15),B0,reduceIte,reduceEqDiff]
  refine yy (t:=x1.Stands) (fun hg23=>?_) (fun hg23=>?_)
  ·simp only [hg23,zh (g:=15),yd,ja,qp,k6,zy,jf,Nat.reduceAdd,Nat.zero_add,Nat.add_zero,qx,z8,B0,reduceIte,
    reduceEqDiff]
   refine q9 (v:=v13) ((SlG.ld (o:=4) hv9 rfl hx2 hS12 (Nat.le_of_ble_eq_true rfl)).trans rfl) ?_
   simp only [hg23,zh (g:=15),yd,qkt,qp,SlF.plen hv15,qbr,zad,zf0,ja,k6,zy,jf,Nat.reduceAdd,Nat.zero_add,
     Nat.add_zero,qx,z8,B0,reduceIte,reduceEqDiff]
   refine q9 (v:=pv0_0) ((z9 (Sep.bk _ _ _ (Sep.m3 hS12))).trans rfl) ?_
   simp only [hg23,zh (g:=15),yd,qkt,qp,SlG.plen hv9,qbr,qbv,ym,zp,zk,ql,B0,reduceIte,reduceEqDiff]
   exact hN22 _ _ ⟨(Sep.m5 (Sep.m4 (Sep.m5 (Sep.m5 (Sep.m2 (Sep.m2 hS12)))))),by rw [qcc hg23]; simp only [B0,reduceIte,reduceEqDiff],zf0,zf1,rfl⟩
  ·simp only [hg23,zh (g:=15),qef,ym,qp,zo,zk,ql,B0,reduceIte,reduceEqDiff]
   exact hN22 _ _ ⟨(Sep.m5 (Sep.m4 (Sep.m5 (Sep.m5 (Sep.m2 (Sep.m2 hS12)))))),by rw [qb9 hg23]; simp only [B0,reduceIte,reduceEqDiff],zf0,zf1,rfl⟩
 rintro fr24 h29 ⟨hS30,f25,f26,f27,f28⟩
 simp only [List.drop_succ_cons,List.drop_zero]
 simp only [zk,qtn,f25,qr,B0,reduceIte,reduceEqDiff]
 refine qq (t:=(x1.Stands&&(decide ((List.length e_0.Servers:Int)<(IntKind.wrap .i64 ((2:Int)*(List.length x1.Got:Int))))))) (fun hc31=>?_)
   (fun hc31=>?_)
 ·rw [iteT hc31] at hF3
  simp only [qu6,qd,qc,f28,qe,ud,qb,zy,qn,Nat.reduceAdd,Nat.zero_add,Nat.add_zero,qx,ze,B0,reduceIte,reduceEqDiff]
  refine k8 (n:=6) (us:=[.bool false]) (cs:=[.int .i64 x1.Term,.int .i64 x1.Voted,.bool x1.Stands,.bool x1.Leads,v13,v17]) (o:=2) (cs':=[.int .i64 x1.Term,
    .int .i64 x1.Voted,.bool false,.bool x1.Leads,v13,v17]) rfl hv9 rfl hx2 (Sep.m1 hS30) hW rfl rfl (Nat.le_of_ble_eq_true rfl) rfl (fun c34 h32 hv35 hS33=>?_)
  simp only [qa,qrk,qd,qc,f28,qe,ud,qb,zy,qn,Nat.reduceAdd,Nat.zero_add,Nat.add_zero,qx,ze,B0,reduceIte,
    reduceEqDiff]
  refine k8 (n:=6) (us:=[.bool true]) (cs:=[.int .i64 x1.Term,.int .i64 x1.Voted,.bool false,.bool x1.Leads,v13,v17]) (o:=3) (cs':=[.int .i64 x1.Term,
    .int .i64 x1.Voted,.bool false,.bool true,v13,v17]) rfl hv35 rfl hx2 hS33 hW rfl rfl (Nat.le_of_ble_eq_true rfl) rfl (fun c38 h36 hv39 hS37=>?_)
  simp only [qa,qv0,j5,f26,qg0,qp,ja,k6,zy,jf,Nat.reduceAdd,Nat.zero_add,Nat.add_zero,qx,z8,B0,reduceIte,
    reduceEqDiff]
  refine q9 (v:=pv0_2) ((z9 (Sep.bk _ _ _ (Sep.m1 hS37))).trans rfl) ?_
  simp only [f28,ja,qp,k6,zy,jf,Nat.reduceAdd,Nat.zero_add,Nat.add_zero,qx,z8,B0,reduceIte,reduceEqDiff]
  refine q9 (v := .int .i64 x1.Term) ((SlG.ld (o:=0) hv39 rfl hx2 hS37 (Nat.le_of_ble_eq_true rfl)).trans rfl) ?_
  simp only [f27,ja,qp,qbi,evp,B0,reduceIte,reduceEqDiff]
  refine q9 (v := .agg [.int .i64 x1.Term,.int .i64 k_1]) rfl ?_
  simp only [ww,evp,B0,reduceIte,reduceEqDiff]
  refine yb (n:=2) (f:=Vote.cells) [(Vote.mk x1.Term k_1)] hS37 rfl rfl (fun v40 c41 h42 hv43 hS44=>?_)
  simp only [qcr,B0,reduceIte,reduceEqDiff]
  obtain ⟨l46,hx47,hF48⟩:=qi hF3
  refine wc (f:=Vote.cells) ph0_2 (Sep.m4 hS44) hW (fun _=>rfl) (fun _=>rfl) (SlF.first hv43 hS44 (fun _=>rfl)) hx47 (fun v49 c50 h51 hv52 hS53=>?_)
  simp only [k6,qp,zy,jf,Nat.reduceAdd,Nat.zero_add,Nat.add_zero,qx,qdg,B0,reduceIte,reduceEqDiff]
  refine w9 (us:=[v49]) (jl (SlF.one hv52)) (cs':=[pv0_0,pv0_1,
    v49]) (Sep.m3 hS53) hW rfl (qo (SlF.one hv52) zn) (Nat.le_of_ble_eq_true rfl) rfl (fun h55 hS56=>?_)
  simp only [zk,ql,B0,reduceIte,reduceEqDiff]
  obtain ⟨c57,hv58,hS59⟩:=SlG.cls (e':=(Server.mk x1.Term x1.Voted false true x1.Got x1.Log)) (c:=c38) (os:=c14++(c18)) hv39 rfl hx2 jq (Server.RI (x :=
    (Server.mk x1.Term x1.Voted false true x1.Got x1.Log)) hv15 hv19) (Sep.ni2 (c1:=c14) (c2:=c18) (Sep.m5 (Sep.m6 (Sep.m6 hS56))))
  have hx60:=jz (x':=(Server.mk x1.Term x1.Voted false true x1.Got x1.Log)) hx2
  have hv61:=SlG.toN hv58
  have he:=qf hF48
  subst he
  simp only [qgo,B0,reduceIte,reduceEqDiff]
  exact ⟨c57,pc0_1,v49,c50,by first | trivial | rfl,hv61,ph0_1,hv52,(Sep.m3 (Sep.m2 (Sep.m3 (Sep.m2 (Sep.dc (Sep.m3 hS59))))))⟩
 rw [iteF hc31] at hF3
 simp only [qt,ql,B0,reduceIte,reduceEqDiff]
 obtain ⟨c62,hv63,hS64⟩:=SlG.cls0 (c:=c6) (os:=c14++(c18)) hv9 rfl hx2 jq (Server.RI (x:=x1) hv15 hv19) (Sep.ni2 (c1:=c14) (c2:=c18) (Sep.m3 (Sep.m5
   (Sep.m5 hS30))))
 have hv65:=SlG.toN hv63
 have he:=qf hF3
 subst he
 simp only [qgo,B0,reduceIte,reduceEqDiff]
 exact ⟨c62,pc0_1,pv0_2,pc0_2,by first | trivial | rfl,hv65,ph0_1,ph0_2,(Sep.m3 (Sep.m2 (Sep.m3 (Sep.m3 hS64))))⟩
theorem qh0 {W:Nat→Bool}{h:Heap}{lo:Nat→Prop}{S0:List Obj} (hW:∀ b,
  lo b→W b=true) (pb0:Nat) (v_0:Election) (pv0_0:XV) (pc0_0:List Obj) (ph0_0:SlN Server.R 6 46 pv0_0 v_0.Servers pc0_0) (pv0_1:XV) (pc0_1:List Obj)
  (ph0_1:SlF Letter.cells 7 93 pv0_1 v_0.Post pc0_1) (pv0_2:XV) (pc0_2:List Obj) (ph0_2:SlF Vote.cells 2 39 pv0_2 v_0.Led pc0_2) (v_1:Int) (r:Bool × Election)
  (hF:xk v_0 v_1=some r) (hS:Sep h lo ([Blk1 pb0 [pv0_0,pv0_1,pv0_2] 31]++(pc0_0++(pc0_1++(pc0_2++(S0)))))) : Ret E W 94 [.ptr pb0 0,
  .int .i64 v_1] h (fun v h'=>∃ ic0_0 iv0_1 ic0_1 iv0_2 ic0_2,
  v = .bool r.1∧SlN Server.R 6 46 pv0_0 r.2.Servers ic0_0∧SlF Letter.cells 7 93 iv0_1 r.2.Post ic0_1∧SlF Vote.cells 2 39 iv0_2 r.2.Led ic0_2∧Sep h' lo ([Blk1 pb0 [pv0_0,
  iv0_1,iv0_2] 31]++(ic0_0++(ic0_1++(ic0_2++(S0)))))):=by
 refine Ret.of (fn:=x94) rfl (Run.of ?_)
 unfold xk at hF
 have zf0:qy [.ptr pb0 0,.int .i64 v_1] 0 = .ptr pb0 0:=rfl
 have zf1:qy [.ptr pb0 0,.int .i64 v_1] 1 = .int .i64 v_1:=rfl
 generalize qy [.ptr pb0 0,.int .i64 v_1]=fr0 at zf0 zf1 ⊢
 simp only [x94,qd,qc,qe,qa,qv5,zf0,ud,qb,zy,qn,Nat.reduceAdd,Nat.zero_add,Nat.add_zero,qx,qj,B0,
   reduceIte,reduceEqDiff]
 refine qh (v:=pv0_0) ((z9 (Sep.bk _ _ _ hS)).trans rfl) ?_
 obtain ⟨x1,hx2,hF3⟩:=qi hF
 simp only [zf1,qe,zt,B0,reduceIte,reduceEqDiff]
 obtain ⟨b4,hb5⟩:=SlN.isrow ph0_0 (yp hx2)
 refine qh (SlN.ia ph0_0 hb5 hx2) ?_
 obtain ⟨c6,cs7,os8,hv9,hR10,hS11⟩:=SlG.opn (SlN.toG ph0_0 hb5 Server.RO.len) hx2 jq Server.RO.len (Sep.m1 hS)
 obtain ⟨v13,c14,v17,c18,hv15,hv19,rfl,rfl⟩:=hR10
 have hS12:=Sep.no2 hS11
 simp only [qe,qa,qwd,qd,j5,ja,qp,k6,zy,jf,Nat.reduceAdd,Nat.zero_add,Nat.add_zero,qx,z8,B0,reduceIte,
   reduceEqDiff]
 refine q9 (v := .bool x1.Leads) ((SlG.ld (o:=3) hv9 rfl hx2 hS12 (Nat.le_of_ble_eq_true rfl)).trans rfl) ?_
 simp only [ja,qp,B0,reduceIte,reduceEqDiff]
 refine qfp 6 (fun fr' h'=>Sep h' lo ([Blk1 pb0 [pv0_0,pv0_1,
   pv0_2] 31]++(c6++(pc0_1++(pc0_2++(c14++(c18++(S0)))))))∧fr' 23 = .bool (x1.Leads||(decide
   (x1.Term=100)))∧fr' 0 = .ptr pb0 0∧fr' 1 = .int .i64 v_1∧fr' 5 = .ptr b4 (v_1.toNat*6)) rfl (fun Q21 hN22=>?_) ?_
 ·simp only [List.take_succ_cons,List.take_zero]
  simp only [zh (g:=17),B0,reduceIte,reduceEqDiff]
  refine yy (t:=x1.Leads) (fun hg23=>?_) (fun hg23=>?_)
  ·simp only [hg23,zh (g:=17),qcl,ym,qp,zp,zk,ql,B0,reduceIte,reduceEqDiff]
   exact hN22 _ _ ⟨(Sep.m5 (Sep.m4 (Sep.m5 (Sep.m5 (Sep.m2 (Sep.m2 hS12)))))),by rw [orT hg23]; simp only [B0,reduceIte,reduceEqDiff],zf0,zf1,rfl⟩
  ·simp only [hg23,zh (g:=17),jo,ja,qp,k6,zy,jf,Nat.reduceAdd,Nat.zero_add,Nat.add_zero,qx,z8,B0,reduceIte,
    reduceEqDiff]
   refine q9 (v := .int .i64 x1.Term) ((SlG.ld (o:=0) hv9 rfl hx2 hS12 (Nat.le_of_ble_eq_true rfl)).trans rfl) ?_
   simp only [hg23,zh (g:=17),jo,qbr,qp,yj,ym,zo,zk,ql,B0,reduceIte,reduceEqDiff]
   exact hN22 _ _ ⟨(Sep.m5 (Sep.m4 (Sep.m5 (Sep.m5 (Sep.m2 (Sep.m2 hS12)))))),by rw [orF hg23]; simp only [B0,reduceIte,reduceEqDiff],zf0,zf1,rfl⟩
 rintro fr24 h29 ⟨hS30,f25,f26,f27,f28⟩
 simp only [List.drop_succ_cons,List.drop_zero]
 simp only [f25,ja,qp,B0,reduceIte,reduceEqDiff]
 refine qfp 14 (fun fr' h'=>Sep h' lo ([Blk1 pb0 [pv0_0,pv0_1,
   pv0_2] 31]++(c6++(pc0_1++(pc0_2++(c14++(c18++(S0)))))))∧fr' 38 = .bool ((x1.Leads||(decide (x1.Term=100)))||(decide ((20:Int)<(IntKind.wrap .i64
   ((IntKind.wrap .i64 ((List.length v_0.Post:Int)+(List.length v_0.Servers:Int))) - 1)))))∧fr' 0 = .ptr pb0 0∧fr' 1 = .int .i64 v_1∧fr' 5 = .ptr b4
   (v_1.toNat*6)) rfl (fun Q31 hN32=>?_) ?_
 ·simp only [List.take_succ_cons,List.take_zero]
  simp only [zh (g:=24),B0,reduceIte,reduceEqDiff]
  refine yy (t:=(x1.Leads||(decide (x1.Term=100)))) (fun hg33=>?_) (fun hg33=>?_)
  ·simp only [hg33,zh (g:=24),qcl,ym,qp,zp,zk,ql,B0,reduceIte,reduceEqDiff]
   exact hN32 _ _ ⟨(Sep.m5 (Sep.m5 (Sep.m5 (Sep.m5 (Sep.m5 (Sep.m5 hS30)))))),by rw [orT hg33]; simp only [B0,reduceIte,reduceEqDiff],f26,f27,f28⟩
  ·simp only [hg33,zh (g:=24),jo,f26,ja,qp,k6,zy,jf,Nat.reduceAdd,Nat.zero_add,Nat.add_zero,qx,z8,B0,
    reduceIte,reduceEqDiff]
   refine q9 (v:=pv0_1) ((z9 (Sep.bk _ _ _ hS30)).trans rfl) ?_
   simp only [hg33,zh (g:=24),jo,qkt,qp,SlF.plen ph0_1,f26,ja,k6,zy,jf,Nat.reduceAdd,Nat.zero_add,Nat.add_zero,
     qx,z8,B0,reduceIte,reduceEqDiff]
   refine q9 (v:=pv0_0) ((z9 (Sep.bk _ _ _ hS30)).trans rfl) ?_
   simp only [hg33,zh (g:=24),jo,qkt,qp,SlG.plen hv9,qbr,j8,qc7,qbv,ym,zo,zk,ql,B0,reduceIte,
     reduceEqDiff]
   exact hN32 _ _ ⟨(Sep.m5 (Sep.m5 (Sep.m5 (Sep.m5 (Sep.m5 (Sep.m5 hS30)))))),by rw [orF hg33]; simp only [B0,reduceIte,reduceEqDiff],f26,f27,f28⟩
 rintro fr34 h39 ⟨hS40,f35,f36,f37,f38⟩
 simp only [List.drop_succ_cons,List.drop_zero]
 simp only [zk,f35,qr,B0,reduceIte,reduceEqDiff]
 refine qq (t:=((x1.Leads||(decide (x1.Term=100)))||(decide ((20:Int)<(IntKind.wrap .i64 ((IntKind.wrap .i64 ((List.length v_0.Post:Int) +
   (List.length v_0.Servers:Int))) - 1)))))) (fun hc41=>?_) (fun hc41=>?_)
 ·rw [iteT hc41] at hF3
  simp only [qd,qc,qe,qa,qs,B0,reduceIte,reduceEqDiff]
  obtain ⟨c42,hv43,hS44⟩:=SlG.cls0 (c:=c6) (os:=c14++(c18)) hv9 rfl hx2 jq (Server.RI (x:=x1) hv15 hv19) (Sep.ni2 (c1:=c14) (c2:=c18) (Sep.m3 (Sep.m5
    (Sep.m5 hS40))))
  have hv45:=SlG.toN hv43
  have he:=qf hF3
  subst he
  simp only [qw,B0,reduceIte,reduceEqDiff]
  exact ⟨c42,pv0_1,pc0_1,pv0_2,pc0_2,by first | trivial | rfl,hv45,ph0_1,ph0_2,(Sep.m3 (Sep.m2 (Sep.m3 (Sep.m3 hS44))))⟩
 rw [iteF hc41] at hF3
 simp only [qt,qt3,qd,qc,f38,qe,ud,qb,zy,qn,Nat.reduceAdd,Nat.zero_add,Nat.add_zero,qx,qj,B0,reduceIte,
   reduceEqDiff]
 refine qh (v := .int .i64 x1.Term) ((SlG.ld (o:=0) hv9 rfl hx2 (Sep.m1 hS40) (Nat.le_of_ble_eq_true rfl)).trans rfl) ?_
 simp only [qm,qb,j8,ud,zy,qn,Nat.reduceAdd,Nat.zero_add,Nat.add_zero,qx,ze,B0,reduceIte,reduceEqDiff]
 refine k8 (n:=6) (us:=[.int .i64 (IntKind.wrap .i64 (x1.Term+1))]) (cs:=[.int .i64 x1.Term,.int .i64 x1.Voted,.bool x1.Stands,.bool x1.Leads,v13,
   v17]) (o:=0) (cs':=[.int .i64 (IntKind.wrap .i64 (x1.Term+1)),.int .i64 x1.Voted,.bool x1.Stands,.bool x1.Leads,v13,
   v17]) rfl hv9 rfl hx2 (Sep.m1 hS40) hW rfl rfl (Nat.le_of_ble_eq_true rfl) rfl (fun c48 h46 hv49 hS47=>?_)
 simp only [qa,qtc,qd,qc,f38,qe,ud,qb,zy,qn,Nat.reduceAdd,Nat.zero_add,Nat.add_zero,qx,ze,B0,reduceIte,
   reduceEqDiff]
 refine k8 (n:=6) (us:=[.bool true]) (cs:=[.int .i64 (IntKind.wrap .i64 (x1.Term+1)),.int .i64 x1.Voted,.bool x1.Stands,.bool x1.Leads,v13,
   v17]) (o:=2) (cs':=[.int .i64 (IntKind.wrap .i64 (x1.Term+1)),.int .i64 x1.Voted,.bool true,.bool x1.Leads,v13,
   v17]) rfl hv49 rfl hx2 hS47 hW rfl rfl (Nat.le_of_ble_eq_true rfl) rfl (fun c52 h50 hv53 hS51=>?_)
 simp only [qa,qul,qd,qc,f38,qe,f37,ud,qb,zy,qn,Nat.reduceAdd,Nat.zero_add,Nat.add_zero,qx,ze,B0,
   reduceIte,reduceEqDiff]
 refine k8 (n:=6) (us:=[.int .i64 v_1]) (cs:=[.int .i64 (IntKind.wrap .i64 (x1.Term+1)),.int .i64 x1.Voted,.bool true,.bool x1.Leads,v13,
   v17]) (o:=1) (cs':=[.int .i64 (IntKind.wrap .i64 (x1.Term+1)),.int .i64 v_1,.bool true,.bool x1.Leads,v13,
   v17]) rfl hv53 rfl hx2 hS51 hW rfl rfl (Nat.le_of_ble_eq_true rfl) rfl (fun c56 h54 hv57 hS55=>?_)
 simp only [qa,q1n,qd,qc,f38,qe,f37,yh,evp,B0,reduceIte,reduceEqDiff]
 refine k5 (n:=1) (f:=cI) [v_1] hS55 rfl rfl (fun v58 c59 h60 hv61 hS62=>?_)
 simp only [ud,qb,zy,qn,Nat.reduceAdd,Nat.zero_add,Nat.add_zero,qx,ze,B0,reduceIte,reduceEqDiff]
 refine k8 (n:=6) (us:=[v58]) (cs:=[.int .i64 (IntKind.wrap .i64 (x1.Term+1)),.int .i64 v_1,.bool true,.bool x1.Leads,v13,
   v17]) (o:=4) (cs':=[.int .i64 (IntKind.wrap .i64 (x1.Term+1)),.int .i64 v_1,.bool true,.bool x1.Leads,v58,
   v17]) (jl (SlF.one hv61)) hv57 rfl hx2 (Sep.m1 hS62) hW rfl (qo (SlF.one hv61) zn) (Nat.le_of_ble_eq_true rfl) rfl (fun c66 h64 hv67 hS65=>?_)
 simp only [qa,q3s,qd,qc,f36,qe,ud,qb,zy,qn,Nat.reduceAdd,Nat.zero_add,Nat.add_zero,qx,qj,B0,reduceIte,
   reduceEqDiff]
 refine qh (v:=pv0_0) ((z9 (Sep.bk _ _ _ (Sep.m2 hS65))).trans rfl) ?_
 simp only [zj,qb,SlG.plen hv67,qe,qa,B0,reduceIte,reduceEqDiff]
 obtain ⟨c68,hv69,hS70⟩:=SlG.cls (e':=(Server.mk (IntKind.wrap .i64 (x1.Term+1)) v_1 true x1.Leads [v_1] x1.Log)) (c:=c66) (os:=c59++(c18)) hv67 rfl hx2 jq
   (Server.RI (x:=(Server.mk (IntKind.wrap .i64 (x1.Term+1)) v_1 true x1.Leads [v_1] x1.Log)) hv61 hv19) (Sep.ni2 (c1:=c59) (c2:=c18) (Sep.m2 (Sep.m2 (Sep.m6 hS65))))
 have hx71:=jz (x':=(Server.mk (IntKind.wrap .i64 (x1.Term+1)) v_1 true x1.Leads [v_1] x1.Log)) hx2
 have hv72:=SlG.toN hv69
 obtain ⟨oc91,hX93,hk94⟩:=jm hF3
 simp only [q06]
 refine qm8 (σ:=Election × (List Server)) (fun i89 s157=>wi v_0 v_1 i89 s157.1 s157.2) (fun s fr' h'=>∃ v83 c84 c87,
   fr' 0 = .ptr pb0 0∧fr' 1 = .int .i64 v_1∧fr' 5 = .ptr b4 (v_1.toNat*6)∧SlF Letter.cells 7 93 v83 s.1.Post c84∧SlN Server.R 6 46 pv0_0 s.2 c87∧Sep h' lo
   ([Blk1 pb0 [pv0_0,v83,pv0_2] 31]++(c87++(c84++(pc0_2++(S0)))))) hX93 ⟨pv0_1,pc0_1,c68,f36,f37,f38,ph0_1,hv72,
   (Sep.m3 (Sep.m2 (Sep.m3 (Sep.m3 (Sep.dc (Sep.m4 hS70))))))⟩ (by simp only [B0,reduceIte,reduceEqDiff]) (by simp only [B0,reduceIte,
   reduceEqDiff]) (fun _ _ _ h=>h) rfl rfl (fun _ _ _ _ h=>h) (fun _ _ _ _ h=>h) (fun _ _ _ _ h=>h) (by decide) ?_ ?_
 ·rintro i89 ⟨s81,s86⟩ fr103 h104 hx109 ⟨v83,c84,c87,f106,f107,f108,hv85,hv88,hS105⟩ f110 f111 oc92 hF95 hr96 Q97 hN98 hB102 hK99 hR100 hE101
  dsimp only at *
  unfold wi at hF95
  simp only [qzb,qd,qc,f110,qe,qa,qzk,f107,qm,qb,yu,q7t,qr,B0,reduceIte,reduceEqDiff]
  refine qq (t:=(decide ((i89:Int)≠v_1))) (fun hc112=>?_) (fun hc112=>?_)
  ·rw [iteT hc112] at hF95
   simp only [qz1,j5,f106,qg0,qp,qno,zy,qd2,Nat.reduceAdd,Nat.zero_add,Nat.add_zero,qx,qdc,B0,reduceIte,reduceEqDiff]
   refine qeb (Sep.ltk hS105) ?_
   refine q9 (v:=v83) ((z9 (Sep.bk _ _ _ hS105)).trans rfl) ?_
   obtain ⟨kc,hx114,hF115⟩:=qi hF95
   obtain ⟨c116,cs117,os118,hv119,hR120,hS121⟩:=SlG.opn (SlN.toG hv88 hb5 Server.RO.len) hx114 jq Server.RO.len (Sep.m1 hS105)
   obtain ⟨v123,c124,v127,c128,hv125,hv129,rfl,rfl⟩:=hR120
   have hS122:=Sep.no2 hS121
   simp only [qg0,qp,f107,f108,qno,zy,qd2,Nat.reduceAdd,Nat.zero_add,Nat.add_zero,qx,qdc,B0,reduceIte,reduceEqDiff]
   refine qeb (SlN.ltk hv88 hb5 (Sep.m1 hS105)) ?_
   refine q9 (v := .int .i64 kc.Term) ((SlG.ld (o:=0) hv119 rfl hx114 hS122 (Nat.le_of_ble_eq_true rfl)).trans rfl) ?_
   simp only [f108,ja,qp,k6,zy,jf,Nat.reduceAdd,Nat.zero_add,Nat.add_zero,qx,z8,B0,reduceIte,reduceEqDiff]
   refine q9 (v:=v127) ((SlG.ld (o:=5) hv119 rfl hx114 hS122 (Nat.le_of_ble_eq_true rfl)).trans rfl) ?_
   obtain ⟨v131,hx132,hF133⟩:=qi hF115
   simp only [qhl,B0,reduceIte,reduceEqDiff]
   refine qu2 rfl (qk (SlF.snap hv129 (Sep.m2 hS122) rfl (fun _=>rfl) (fun _=>rfl)) zd) (qd3 (fun b hb=>decide_eq_true hb) kc.Log v131 hx132) ?_
   simp only [f108,qg0,qp,qno,zy,qd2,Nat.reduceAdd,Nat.zero_add,Nat.add_zero,qx,qdc,B0,reduceIte,reduceEqDiff]
   refine qeb (SlN.ltk hv88 hb5 (Sep.m1 hS105)) ?_
   refine q9 (v:=v127) ((SlG.ld (o:=5) hv119 rfl hx114 hS122 (Nat.le_of_ble_eq_true rfl)).trans rfl) ?_
   simp only [qvq,qp,SlF.plen hv129,qbi,evp,B0,reduceIte,reduceEqDiff]
   refine q9 (v := .agg [.int .i64 (i89:Int),.int .i64 v_1,.int .i64 kc.Term,.bool true,.int .i64 v131,.int .i64 (List.length kc.Log:Int),
     .bool false]) rfl ?_
   simp only [ww,evp,B0,reduceIte,reduceEqDiff]
   refine yb (n:=7) (f:=Letter.cells) [(Letter.mk (i89:Int) v_1 kc.Term true v131 (List.length kc.Log:Int) false)] hS122 rfl rfl
     (fun v134 c135 h136 hv137 hS138=>?_)
   simp only [qcr,B0,reduceIte,reduceEqDiff]
   obtain ⟨l140,hx141,hF142⟩:=qi hF133
   refine wc (f:=Letter.cells) hv85 (Sep.m5 hS138) hW (fun _=>rfl) (fun _=>rfl) (SlF.first hv137 hS138 (fun _=>rfl)) hx141 (fun v143 c144 h145 hv146 hS147=>?_)
   simp only [k6,qp,zy,jf,Nat.reduceAdd,Nat.zero_add,Nat.add_zero,qx,qdg,B0,reduceIte,reduceEqDiff]
   refine w9 (us:=[v143]) (jl (SlF.one hv146)) (cs':=[pv0_0,v143,
     pv0_2]) (Sep.m5 hS147) hW rfl (qo (SlF.one hv146) zn) (Nat.le_of_ble_eq_true rfl) rfl (fun h149 hS150=>?_)
   simp only [zk,ql,B0,reduceIte,reduceEqDiff]
   obtain ⟨c151,hv152,hS153⟩:=SlG.cls0 (c:=c116) (os:=c124++(c128)) hv119 rfl hx114 jq (Server.RI (x:=kc) hv125 hv129) (Sep.ni2 (c1:=c124) (c2:=c128)
     (Sep.m5 (Sep.m5 (Sep.m5 hS150))))
   have hv154:=SlG.toN hv152
   have e155:=qf hF142
   exact hN98 _ _ _ e155.symm ⟨v143,c144,c151,f106,f107,f108,hv146,hv154,(Sep.m3 (Sep.m2 (Sep.m3 (Sep.m3 (Sep.dc (Sep.m3 hS153))))))⟩ (f110) (f111)
  rw [iteF hc112] at hF95
  simp only [qt,ql,B0,reduceIte,reduceEqDiff]
  have e156:=qf hF95
  exact hN98 _ _ _ e156.symm ⟨v83,c84,c87,f106,f107,f108,hv85,hv88,(Sep.m3 (Sep.m3 (Sep.m3 (Sep.m3 hS105))))⟩ (f110) (f111)
 rintro ⟨s158,s163⟩ fr166 h167 rfl ⟨v160,c161,c164,f169,f170,f171,hv162,hv165,hS168⟩
 dsimp only [jnO] at hk94
 dsimp only at *
 unfold qbj at hk94
 obtain ⟨v172,hx173,hF174⟩:=qi hk94
 simp only [q1b,qd,qc,f169,qe,f170,zb,B0,reduceIte,reduceEqDiff]
 refine xz rfl (qcd hW pb0 (Election.mk s163 s158.Post v_0.Led) pv0_0 c164 hv165 v160 c161 hv162 pv0_2 pc0_2 ph0_2 v_1 v172 hx173 (Sep.m3 (Sep.m3 (Sep.m3
   (Sep.m3 hS168))))) ?_
 rintro _ h183 ⟨c175,c177,v179,c180,rfl,hv176,hv178,hv181,hS184⟩
 simp only [qa,qd,qc,qe,qs,B0,reduceIte,reduceEqDiff]
 have he:=qf hF174
 subst he
 simp only [qw,B0,reduceIte,reduceEqDiff]
 exact ⟨c175,v160,c177,v179,c180,by first | trivial | rfl,hv176,hv178,hv181,(Sep.m3 (Sep.m3 (Sep.m3 (Sep.m3 hS184))))⟩
theorem qhf {W:Nat→Bool}{h:Heap}{lo:Nat→Prop}{S0:List Obj} (hW:∀ b,
  lo b→W b=true) (pv0:XV) (pc0:List Obj) (s_0:List Letter) (ph0:SlF Letter.cells 7 93 pv0 s_0 pc0) (i_1:Int) (j_2:Int) (r:List Letter)
  (hF:u2 s_0 i_1 j_2=some r) (hS:Sep h lo (pc0++S0)) : Ret E W 95 [pv0,.int .i64 i_1,.int .i64 j_2] h (fun v h'=>∃ rv0 rc0,
  v=rv0∧SlF Letter.cells 7 93 rv0 r rc0∧Sep h' lo (rc0++S0)):=q9o (f:=Letter.cells) (n:=7) (ty:=93) (bytes:=56) (z:=[(.int .i64 0),(.int .i64 0),
  (.int .i64 0),(.bool false),(.int .i64 0),(.int .i64 0),(.bool false)]) rfl (fun _=>rfl) (fun _=>rfl) rfl rfl rfl hW ph0 hF hS
theorem qkp {W:Nat→Bool}{h:Heap} (hW:∀ b,
  (geL h.length) b→W b=true) (last_0:Int) (long_1:Int) (b_2:List Int) (r:Bool) (hF:qci last_0 long_1 b_2=some r) : Ret E W 57 [.int .i64 last_0,
  .int .i64 long_1,lst cI b_2] h (fun v h'=>cut h.length h' E.sz false 9 v=some (.bool r)):=by
 refine Ret.of (fn:=x57) rfl (Run.of ?_)
 unfold qci at hF
 have zf0:qy [.int .i64 last_0,.int .i64 long_1,lst cI b_2] 0 = .int .i64 last_0:=rfl
 have zf1:qy [.int .i64 last_0,.int .i64 long_1,lst cI b_2] 1 = .int .i64 long_1:=rfl
 have zf2:qy [.int .i64 last_0,.int .i64 long_1,lst cI b_2] 2=lst cI b_2:=rfl
 generalize qy [.int .i64 last_0,.int .i64 long_1,lst cI b_2]=fr0 at zf0 zf1 zf2 ⊢
 have hS:Sep h (geL h.length) []:=Sep.nil h
 obtain ⟨v1,hx2,hF3⟩:=qi hF
 simp only [x57,qd,qc,qe,qa,q6f,zf0,zf2,zb,B0,reduceIte,reduceEqDiff]
 refine jg rfl (qk zx zd) (qd3 (fun b hb=>decide_eq_true hb) b_2 v1 hx2) ?_
 simp only [qm,qb,qbv,qe,B0,reduceIte,reduceEqDiff]
 obtain ⟨v7,hx8,hF9⟩:=qi hF3
 refine jh 11 (fun fr' h'=>Sep h' (geL h.length) ([])∧fr' 22 = .bool v7) (fun Q4 hN5=>?_) ?_
 ·simp only [List.take_succ_cons,List.take_zero]
  simp only [qg (g:=11),B0,reduceIte,reduceEqDiff]
  refine zf (t:=(decide (v1<last_0))) (fun hg6=>?_) (fun hg6=>?_)
  ·rw [iteT hg6] at hx8
   simp only [hg6,qg (g:=11),zz,qg (g:=16),w3,qz,qb,zp,qa,ql,B0,reduceIte,reduceEqDiff]
   have e10:=qf hx8
   exact hN5 _ _ ⟨hS,by rw [←e10]; simp only [B0,reduceIte,reduceEqDiff]⟩
  ·rw [iteF hg6] at hx8
   obtain ⟨v11,hx12,hF13⟩:=qi hx8
   simp only [hg6,qg (g:=11),qv,zf0,qe,zf2,zb,B0,reduceIte,reduceEqDiff]
   refine jg rfl (qk zx zd) (qd3 (fun b hb=>decide_eq_true hb) b_2 v11 hx12) ?_
   simp only [hg6,qg (g:=11),qv,qm,qb,yj,qe,B0,reduceIte,reduceEqDiff]
   refine jh 5 (fun fr' h'=>Sep h' (geL h.length) ([])∧fr' 21 = .bool ((decide (last_0=v11))&&(decide ((List.length b_2:Int)≤long_1)))∧fr' 11 = .bool (decide
     (v1<last_0))) (fun Q14 hN15=>?_) ?_
   ·simp only [List.take_succ_cons,List.take_zero]
    simp only [qg (g:=16),B0,reduceIte,reduceEqDiff]
    refine zf (t:=(decide (last_0=v11))) (fun hg16=>?_) (fun hg16=>?_)
    ·simp only [hg16,qg (g:=16),zi,zf1,qe,zf2,zj,qb,zr,qm,qjg,hg6,qg (g:=11),qv,qz,
      zp,qa,ql,B0,reduceIte,reduceEqDiff]
     exact hN15 _ _ ⟨hS,by rw [qcc hg16]; simp only [B0,reduceIte,reduceEqDiff],by simp only [hg6,B0,reduceIte,reduceEqDiff]⟩
    ·simp only [hg16,qg (g:=16),kf,hg6,qg (g:=11),qv,qz,qb,zo,qa,ql,B0,reduceIte,reduceEqDiff]
     exact hN15 _ _ ⟨hS,by rw [qb9 hg16]; simp only [B0,reduceIte,reduceEqDiff],by simp only [hg6,B0,reduceIte,reduceEqDiff]⟩
   rintro fr17 h20 ⟨hS21,f18,f19⟩
   simp only [List.drop_succ_cons,List.drop_zero]
   simp only [f19,hg6,qz,qb,zo,f18,qa,ql,B0,reduceIte,reduceEqDiff]
   have e22:=qf hF13
   exact hN5 _ _ ⟨hS21,by rw [←e22]; simp only [B0,reduceIte,reduceEqDiff]⟩
 rintro fr23 h25 ⟨hS26,f24⟩
 simp only [List.drop_succ_cons,List.drop_zero]
 simp only [f24,qe,qa,qs,B0,reduceIte,reduceEqDiff]
 have he:=qf hF9
 subst he
 simp only [qw,B0,reduceIte,reduceEqDiff]
 exact rfl
theorem qhe {W:Nat→Bool}{h:Heap} (hW:∀ b,
  (geL h.length) b→W b=true) (x_0:Int) (r:Bool) (hF:some (yi x_0)=some r) : Ret E W 122 [.int .i64 x_0] h
  (fun v h'=>cut h.length h' E.sz false 9 v=some (.bool r)):=by
 refine Ret.of (fn:=qp6) rfl (Run.of ?_)
 unfold yi at hF
 have zf0:qy [.int .i64 x_0] 0 = .int .i64 x_0:=rfl
 generalize qy [.int .i64 x_0]=fr0 at zf0 ⊢
 have hS:Sep h (geL h.length) []:=Sep.nil h
 simp only [qp6,qd,qc,qe,qa,qsu,zf0,qm,qb,yu,qs,B0,reduceIte,reduceEqDiff]
 have he:=qf hF
 subst he
 simp only [qw,B0,reduceIte,reduceEqDiff]
 exact rfl
theorem qlr {W:Nat→Bool}{h:Heap} (hW:∀ b,
  (geL h.length) b→W b=true) (x_0:Int) (y_1:Int) (r:Bool) (hF:some (qby x_0 y_1)=some r) : Ret E W 118 [.int .i64 x_0,
  .int .i64 y_1] h (fun v h'=>cut h.length h' E.sz false 9 v=some (.bool r)):=by
 refine Ret.of (fn:=qp7) rfl (Run.of ?_)
 unfold qby at hF
 have zf0:qy [.int .i64 x_0,.int .i64 y_1] 0 = .int .i64 x_0:=rfl
 have zf1:qy [.int .i64 x_0,.int .i64 y_1] 1 = .int .i64 y_1:=rfl
 generalize qy [.int .i64 x_0,.int .i64 y_1]=fr0 at zf0 zf1 ⊢
 have hS:Sep h (geL h.length) []:=Sep.nil h
 simp only [qp7,qd,qc,qe,qa,qtg,zf0,zb,B0,reduceIte,reduceEqDiff]
 refine jg rfl (qk za zd) (qhe (fun b hb=>decide_eq_true hb) x_0 _ rfl) ?_
 simp only [qe,B0,reduceIte,reduceEqDiff]
 refine jh 4 (fun fr' h'=>Sep h' (geL h.length) ([])∧fr' 11 = .bool ((yi x_0)&&(!(yi y_1)))∧fr' 0 = .int .i64 x_0∧fr' 1 = .int .i64 y_1)
   (fun Q1 hN2=>?_) ?_
 ·simp only [List.take_succ_cons,List.take_zero]
  simp only [qg (g:=7),B0,reduceIte,reduceEqDiff]
  refine zf (t:=(yi x_0)) (fun hg3=>?_) (fun hg3=>?_)
  ·simp only [hg3,qg (g:=7),zi,zf1,qe,zb,B0,reduceIte,reduceEqDiff]
   refine jg rfl (qk za zd) (qhe (fun b hb=>decide_eq_true hb) y_1 _ rfl) ?_
   simp only [hg3,qg (g:=7),zi,js,qb,kt,qz,zp,qa,ql,B0,reduceIte,reduceEqDiff]
   exact hN2 _ _ ⟨hS,by rw [qcc hg3]; simp only [B0,reduceIte,reduceEqDiff],zf0,zf1⟩
  ·simp only [hg3,qg (g:=7),kf,qz,qb,zo,qa,ql,B0,reduceIte,reduceEqDiff]
   exact hN2 _ _ ⟨hS,by rw [qb9 hg3]; simp only [B0,reduceIte,reduceEqDiff],zf0,zf1⟩
 rintro fr4 h8 ⟨hS9,f5,f6,f7⟩
 simp only [List.drop_succ_cons,List.drop_zero]
 simp only [f5,qe,B0,reduceIte,reduceEqDiff]
 refine jh 4 (fun fr' h'=>Sep h' (geL h.length) ([])∧fr' 16 = .bool (((yi x_0)&&(!(yi y_1)))||(decide (x_0<y_1)))) (fun Q10 hN11=>?_) ?_
 ·simp only [List.take_succ_cons,List.take_zero]
  simp only [qg (g:=12),B0,reduceIte,reduceEqDiff]
  refine zf (t:=((yi x_0)&&(!(yi y_1)))) (fun hg12=>?_) (fun hg12=>?_)
  ·simp only [hg12,qg (g:=12),zz,qz,qb,zp,qa,ql,B0,reduceIte,reduceEqDiff]
   exact hN11 _ _ ⟨hS9,by rw [orT hg12]; simp only [B0,reduceIte,reduceEqDiff]⟩
  ·simp only [hg12,qg (g:=12),qv,f6,qe,f7,qm,qb,kr,qz,zo,qa,ql,B0,reduceIte,reduceEqDiff]
   exact hN11 _ _ ⟨hS9,by rw [orF hg12]; simp only [B0,reduceIte,reduceEqDiff]⟩
 rintro fr13 h15 ⟨hS16,f14⟩
 simp only [List.drop_succ_cons,List.drop_zero]
 simp only [f14,qe,qa,qs,B0,reduceIte,reduceEqDiff]
 have he:=qf hF
 subst he
 simp only [qw,B0,reduceIte,reduceEqDiff]
 exact rfl
theorem qfo {W:Nat→Bool}{h:Heap} (hW:∀ b,
  (geL h.length) b→W b=true) (x_0:Int) (r:Bool) (hF:some (wa x_0)=some r) : Ret E W 119 [.int .i64 x_0] h
  (fun v h'=>cut h.length h' E.sz false 9 v=some (.bool r)):=by
 refine Ret.of (fn:=qra) rfl (Run.of ?_)
 unfold wa at hF
 have zf0:qy [.int .i64 x_0] 0 = .int .i64 x_0:=rfl
 generalize qy [.int .i64 x_0]=fr0 at zf0 ⊢
 have hS:Sep h (geL h.length) []:=Sep.nil h
 simp only [qra,qd,qc,qe,qa,qtr,zf0,qm,qb,yu,qs,B0,reduceIte,reduceEqDiff]
 have he:=qf hF
 subst he
 simp only [qw,B0,reduceIte,reduceEqDiff]
 exact rfl
theorem qgc {W:Nat→Bool}{h:Heap} (hW:∀ b,
  (geL h.length) b→W b=true) (k:Nat) (x_0:List Int) (target_1:Int) (r:Int × Bool) (hF:yl k x_0 target_1=some r) : Ret E W 114 [lst cI x_0,
  .int .i64 target_1] h (fun v h'=>cut h.length h' E.sz false 9 v=some (.tup [.int .i64 r.1,.bool r.2])):=by
 refine Ret.of (fn:=qqi) rfl (Run.of ?_)
 unfold yl at hF
 have zf0:qy [lst cI x_0,.int .i64 target_1] 0=lst cI x_0:=rfl
 have zf1:qy [lst cI x_0,.int .i64 target_1] 1 = .int .i64 target_1:=rfl
 generalize qy [lst cI x_0,.int .i64 target_1]=fr0 at zf0 zf1 ⊢
 have hS:Sep h (geL h.length) []:=Sep.nil h
 simp only [qqi,qd,qc,qe,qa,qpq,zf0,zj,qb,zr,qvm,qr6,B0,reduceIte,reduceEqDiff]
 obtain ⟨oc7,hX9,hk10⟩:=jm hF
 simp only [qrj]
 refine yc (σ:=Int × Int) (fun s36=>yo x_0 target_1 s36.1 s36.2)
   (fun s fr' h'=>fr' 0=lst cI x_0∧fr' 1 = .int .i64 target_1∧fr' 6 = .int .i64 (List.length x_0:Int)∧fr' 7 = .int .i64 s.1∧fr' 8 = .int .i64 s.2∧Sep h'
   (geL h.length) ([])) hX9 ⟨zf0,zf1,rfl,rfl,rfl,hS⟩ (fun _ _ _ h=>h) ?_ ?_
 ·rintro ⟨s3,s4⟩ fr19 h20 ⟨f22,f23,f24,f25,f26,hS21⟩ oc8 hF11 hr12 Q13 hN14 hK15 hR16 hE17
  dsimp only at *
  unfold yo at hF11
  simp only [qxc,qd,qc,f25,qe,f26,qm,qb,kr,qa,qr,B0,reduceIte,reduceEqDiff]
  refine qq (t:=(decide (s3<s4))) (fun hc28=>?_) (fun hc28=>?_)
  ·rw [iteT hc28] at hF11
   obtain ⟨x29,hx30,hF31⟩:=qi hF11
   simp only [qt,qxh,jr,qrv,qd,qc,f25,qe,f26,qm,qb,j8,q8i,zan,q8c (n:=1) (by decide),qa,
     qrw,f22,zt,B0,reduceIte,reduceEqDiff]
   refine qh (v := .ref (cI x29) 0) (je hx30 rfl) ?_
   simp only [qj,B0,reduceIte,reduceEqDiff]
   refine qh (v := .int .i64 x29) rfl ?_
   simp only [f23,qe,zb,B0,reduceIte,reduceEqDiff]
   refine jg rfl (qk za (qk za zd)) (qlr (fun b hb=>decide_eq_true hb) x29 target_1 _ rfl) ?_
   simp only [qa,qr2,qr,B0,reduceIte,reduceEqDiff]
   refine qq (t:=(qby x29 target_1)) (fun hc32=>?_) (fun hc32=>?_)
   ·rw [iteT hc32] at hF31
    simp only [qc,qe,qm,qb,j8,qa,kh,ql,B0,reduceIte,reduceEqDiff]
    have e33:=qf hF31
    exact hN14 _ _ _ e33.symm ⟨f22,f23,f24,rfl,f26,hS21⟩
   rw [iteF hc32] at hF31
   simp only [qc,qe,qa,kh,ql,B0,reduceIte,reduceEqDiff]
   have e34:=qf hF31
   exact hN14 _ _ _ e34.symm ⟨f22,f23,f24,f25,rfl,hS21⟩
  rw [iteF hc28] at hF11
  simp only [ki,j9,ky,B0,reduceIte,reduceEqDiff]
  have e35:=qf hF11
  exact hK15 _ _ _ e35.symm ⟨f22,f23,f24,f25,f26,hS21⟩
 rintro ⟨s37,s38⟩ fr39 h40 rfl ⟨f42,f43,f44,f45,f46,hS41⟩
 dsimp only [jnO] at hk10
 dsimp only at *
 unfold uh at hk10
 simp only [qv2,qd,qc,f45,qe,f44,qm,qb,kr,B0,reduceIte,reduceEqDiff]
 obtain ⟨v50,hx51,hF52⟩:=qi hk10
 refine jh 18 (fun fr' h'=>Sep h' (geL h.length) ([])∧fr' 53 = .bool v50∧fr' 31 = .int .i64 s37) (fun Q47 hN48=>?_) ?_
 ·simp only [List.take_succ_cons,List.take_zero]
  simp only [qg (g:=35),B0,reduceIte,reduceEqDiff]
  refine zf (t:=(decide (s37<(List.length x_0:Int)))) (fun hg49=>?_) (fun hg49=>?_)
  ·rw [iteT hg49] at hx51
   obtain ⟨x53,hx54,hF55⟩:=qi hx51
   simp only [hg49,qg (g:=35),zi,f42,qe,f45,zt,B0,reduceIte,reduceEqDiff]
   refine qh (v := .ref (cI x53) 0) (je hx54 rfl) ?_
   simp only [hg49,qg (g:=35),zi,qj,B0,reduceIte,reduceEqDiff]
   refine qh (v := .int .i64 x53) rfl ?_
   simp only [hg49,qg (g:=35),zi,f43,qe,qm,qb,yj,B0,reduceIte,reduceEqDiff]
   obtain ⟨v59,hx60,hF61⟩:=qi hF55
   refine jh 10 (fun fr' h'=>Sep h' (geL h.length) ([])∧fr' 52 = .bool v59∧fr' 31 = .int .i64 s37∧fr' 35 = .bool (decide (s37<(List.length x_0:Int))))
     (fun Q56 hN57=>?_) ?_
   ·simp only [List.take_succ_cons,List.take_zero]
    simp only [qg (g:=42),B0,reduceIte,reduceEqDiff]
    refine zf (t:=(decide (x53=target_1))) (fun hg58=>?_) (fun hg58=>?_)
    ·rw [iteT hg58] at hx60
     simp only [hg58,qg (g:=42),zz,qg (g:=48),w3,hg49,qg (g:=35),zi,qz,qb,zp,qa,
       ql,B0,reduceIte,reduceEqDiff]
     have e62:=qf hx60
     exact hN57 _ _ ⟨hS41,by rw [←e62]; simp only [B0,reduceIte,reduceEqDiff],rfl,by simp only [hg49,B0,reduceIte,reduceEqDiff]⟩
    ·rw [iteF hg58] at hx60
     obtain ⟨x63,hx64,hF65⟩:=qi hx60
     simp only [hg58,qg (g:=42),qv,f42,qe,f45,zt,B0,reduceIte,reduceEqDiff]
     refine qh (v := .ref (cI x63) 0) (je hx64 rfl) ?_
     simp only [hg58,qg (g:=42),qv,qj,B0,reduceIte,reduceEqDiff]
     refine qh (v := .int .i64 x63) rfl ?_
     simp only [hg58,qg (g:=42),qv,zb,B0,reduceIte,reduceEqDiff]
     refine jg rfl (qk za zd) (qfo (fun b hb=>decide_eq_true hb) x63 _ rfl) ?_
     simp only [hg58,qg (g:=42),qv,qe,B0,reduceIte,reduceEqDiff]
     refine jh 3 (fun fr' h'=>Sep h' (geL h.length) ([])∧fr' 51 = .bool ((wa x63) &&
       (wa target_1))∧fr' 31 = .int .i64 s37∧fr' 35 = .bool (decide (s37<(List.length x_0:Int)))∧fr' 42 = .bool (decide (x53=target_1)))
       (fun Q66 hN67=>?_) ?_
     ·simp only [List.take_succ_cons,List.take_zero]
      simp only [qg (g:=48),B0,reduceIte,reduceEqDiff]
      refine zf (t:=(wa x63)) (fun hg68=>?_) (fun hg68=>?_)
      ·simp only [hg68,qg (g:=48),zi,f43,qe,zb,B0,reduceIte,reduceEqDiff]
       refine jg rfl (qk za zd) (qfo (fun b hb=>decide_eq_true hb) target_1 _ rfl) ?_
       simp only [hg58,qg (g:=42),qv,hg68,qz,qb,zp,qa,ql,B0,reduceIte,reduceEqDiff]
       exact hN67 _ _ ⟨hS41,by rw [qcc hg68]; simp only [B0,reduceIte,reduceEqDiff],rfl,by simp only [hg49,B0,reduceIte,reduceEqDiff],by simp only [hg58,B0,
         reduceIte,reduceEqDiff]⟩
      ·simp only [hg68,qg (g:=48),kf,hg58,qg (g:=42),qv,qz,qb,zo,qa,ql,B0,reduceIte,
        reduceEqDiff]
       exact hN67 _ _ ⟨hS41,by rw [qb9 hg68]; simp only [B0,reduceIte,reduceEqDiff],rfl,by simp only [hg49,B0,reduceIte,reduceEqDiff],by simp only [hg58,B0,
         reduceIte,reduceEqDiff]⟩
     rintro fr69 h74 ⟨hS75,f70,f71,f72,f73⟩
     simp only [List.drop_succ_cons,List.drop_zero]
     simp only [f72,hg49,qg (g:=35),zi,f73,hg58,qz,qb,zo,f70,qa,ql,B0,reduceIte,reduceEqDiff]
     have e76:=qf hF65
     exact hN57 _ _ ⟨hS75,by rw [←e76]; simp only [B0,reduceIte,reduceEqDiff],f71,by simp only [f72,hg49,B0,reduceIte,reduceEqDiff]⟩
   rintro fr77 h81 ⟨hS82,f78,f79,f80⟩
   simp only [List.drop_succ_cons,List.drop_zero]
   simp only [f80,hg49,qz,qb,zp,f78,qa,ql,B0,reduceIte,reduceEqDiff]
   have e83:=qf hF61
   exact hN48 _ _ ⟨hS82,by rw [←e83]; simp only [B0,reduceIte,reduceEqDiff],f79⟩
  ·rw [iteF hg49] at hx51
   simp only [hg49,qg (g:=35),kf,qg (g:=42),w3,qg (g:=48),qz,qb,zo,qa,ql,B0,reduceIte,
     reduceEqDiff]
   have e84:=qf hx51
   exact hN48 _ _ ⟨hS41,by rw [←e84]; simp only [B0,reduceIte,reduceEqDiff],rfl⟩
 rintro fr85 h88 ⟨hS89,f86,f87⟩
 simp only [List.drop_succ_cons,List.drop_zero]
 simp only [f87,qe,f86,qa,qs,B0,reduceIte,reduceEqDiff]
 have he:=qf hF52
 subst he
 simp only [qyo,B0,reduceIte,reduceEqDiff]
 exact q7z (qk rfl (qk rfl zd))
end Go.Proofs.Ytpddolihbnfahaa.X
namespace Go.Proofs.Ytpddolihbnfahaa.X
open Go
open Nat (reduceEqDiff)
theorem qii {W:Nat→Bool}{h:Heap}{lo:Nat→Prop}{S0:List Obj} (hW:∀ b,
  lo b→W b=true) (k:Nat) (pb0:Nat) (v_0:Election) (pv0_0:XV) (pc0_0:List Obj) (ph0_0:SlN Server.R 6 46 pv0_0 v_0.Servers pc0_0) (pv0_1:XV) (pc0_1:List Obj)
  (ph0_1:SlF Letter.cells 7 93 pv0_1 v_0.Post pc0_1) (pv0_2:XV) (pc0_2:List Obj) (ph0_2:SlF Vote.cells 2 39 pv0_2 v_0.Led pc0_2) (v_1:Letter) (r:Election)
  (hF:x3 k v_0 v_1=some r) (hS:Sep h lo ([Blk1 pb0 [pv0_0,pv0_1,pv0_2] 31]++(pc0_0++(pc0_1++(pc0_2++(S0)))))) : Ret E W 96 [.ptr pb0 0,
  .agg [.int .i64 v_1.To,.int .i64 v_1.From,.int .i64 v_1.Term,.bool v_1.Asks,.int .i64 v_1.Last,.int .i64 v_1.Long,
  .bool v_1.Grant]] h (fun v h'=>∃ ic0_0 iv0_1 ic0_1 iv0_2 ic0_2,
  v = .tup []∧SlN Server.R 6 46 pv0_0 r.Servers ic0_0∧SlF Letter.cells 7 93 iv0_1 r.Post ic0_1∧SlF Vote.cells 2 39 iv0_2 r.Led ic0_2∧Sep h' lo ([Blk1 pb0 [pv0_0,iv0_1,
  iv0_2] 31]++(ic0_0++(ic0_1++(ic0_2++(S0)))))):=by
 refine Ret.of (fn:=x96) rfl (Run.of ?_)
 unfold x3 at hF
 have zf0:qy [.ptr pb0 0,.agg [.int .i64 v_1.To,.int .i64 v_1.From,.int .i64 v_1.Term,.bool v_1.Asks,.int .i64 v_1.Last,.int .i64 v_1.Long,
   .bool v_1.Grant]] 0 = .ptr pb0 0:=rfl
 have zf1:qy [.ptr pb0 0,.agg [.int .i64 v_1.To,.int .i64 v_1.From,.int .i64 v_1.Term,.bool v_1.Asks,.int .i64 v_1.Last,.int .i64 v_1.Long,
   .bool v_1.Grant]] 1 = .agg [.int .i64 v_1.To,.int .i64 v_1.From,.int .i64 v_1.Term,.bool v_1.Asks,.int .i64 v_1.Last,.int .i64 v_1.Long,.bool v_1.Grant]:=rfl
 generalize qy [.ptr pb0 0,.agg [.int .i64 v_1.To,.int .i64 v_1.From,.int .i64 v_1.Term,.bool v_1.Asks,.int .i64 v_1.Last,.int .i64 v_1.Long,
   .bool v_1.Grant]]=fr0 at zf0 zf1 ⊢
 simp only [x96,qd,qc,kx,zf1,B0,reduceIte,reduceEqDiff]
 refine jv (cs:=[.int .i64 v_1.To,.int .i64 v_1.From,.int .i64 v_1.Term,.bool v_1.Asks,.int .i64 v_1.Last,.int .i64 v_1.Long,
   .bool v_1.Grant]) hS rfl rfl rfl (fun b1 h2 hS3=>?_)
 simp only [qa,B0,reduceIte,reduceEqDiff]
 refine jd hS3 hW (by simp only [B0,reduceIte,reduceEqDiff]) (fun h5 hS6=>?_)
 simp only [jc,qu8,qd,j5,zf0,ja,qp,k6,zy,jf,Nat.reduceAdd,Nat.zero_add,Nat.add_zero,qx,z8,B0,reduceIte,
   reduceEqDiff]
 refine q9 (v:=pv0_0) ((z9 (Sep.bk _ _ _ hS6)).trans rfl) ?_
 simp only [jf,qp,Nat.reduceAdd,Nat.zero_add,Nat.add_zero,qu,z8,B0,reduceIte,reduceEqDiff]
 refine q9 (v := .int .i64 v_1.To) rfl ?_
 obtain ⟨x7,hx8,hF9⟩:=qi hF
 simp only [qbp,B0,reduceIte,reduceEqDiff]
 obtain ⟨b10,hb11⟩:=SlN.isrow ph0_0 (yp hx8)
 refine q9 (SlN.ia ph0_0 hb11 hx8) ?_
 simp only [ja,qp,zk,qvd,qd,j5,jf,Nat.reduceAdd,Nat.zero_add,Nat.add_zero,qu,z8,B0,reduceIte,reduceEqDiff]
 refine q9 (v := .int .i64 v_1.Term) rfl ?_
 obtain ⟨c12,cs13,os14,hv15,hR16,hS17⟩:=SlG.opn (SlN.toG ph0_0 hb11 Server.RO.len) hx8 jq Server.RO.len (Sep.m1 hS6)
 obtain ⟨v19,c20,v23,c24,hv21,hv25,rfl,rfl⟩:=hR16
 have hS18:=Sep.no2 hS17
 simp only [ja,qp,k6,zy,jf,Nat.reduceAdd,Nat.zero_add,Nat.add_zero,qx,z8,B0,reduceIte,reduceEqDiff]
 refine q9 (v := .int .i64 x7.Term) ((SlG.ld (o:=0) hv15 rfl hx8 hS18 (Nat.le_of_ble_eq_true rfl)).trans rfl) ?_
 simp only [qbr,qp,qbv,zk,qz7,qr,B0,reduceIte,reduceEqDiff]
 obtain ⟨c27,hv28,hS29⟩:=SlG.cls0 (c:=c12) (os:=c20++(c24)) hv15 rfl hx8 jq (Server.RI (x:=x7) hv21 hv25) (Sep.ni2 (c1:=c20) (c2:=c24) (Sep.m2 (Sep.m2
   (Sep.m2 hS18))))
 have hv30:=SlG.toN hv28
 obtain ⟨s31,hX35,hk36⟩:=qi hF9
 refine qdy (t:=(decide (x7.Term<v_1.Term))) (fun fr' h'=>∃ c32,fr' 0 = .ptr pb0 0∧fr' 3 = .ref [.int .i64 v_1.To,.int .i64 v_1.From,.int .i64 v_1.Term,
   .bool v_1.Asks,.int .i64 v_1.Last,.int .i64 v_1.Long,
   .bool v_1.Grant] 0∧fr' 4 = .ptr b10 (v_1.To.toNat*6)∧SlN Server.R 6 46 pv0_0 s31 c32∧Sep h' lo ([Blk1 pb0 [pv0_0,pv0_1,
   pv0_2] 31]++(c32++(pc0_1++(pc0_2++(S0)))))) (fun Q37 hN38 hR39 hE40=>⟨fun hc41=>?_,fun hc41=>?_⟩) ?_
 ·rw [iteT hc41] at hX35
  simp only [q5m,j5,ja,qp,jf,Nat.reduceAdd,Nat.zero_add,Nat.add_zero,qu,z8,B0,reduceIte,reduceEqDiff]
  refine q9 (v := .int .i64 v_1.Term) rfl ?_
  obtain ⟨c42,cs43,os44,hv45,hR46,hS47⟩:=SlG.opn (SlN.toG hv30 hb11 Server.RO.len) hx8 jq Server.RO.len hS29
  obtain ⟨v49,c50,v53,c54,hv51,hv55,rfl,rfl⟩:=hR46
  have hS48:=Sep.no2 hS47
  simp only [ja,qp,k6,zy,jf,Nat.reduceAdd,Nat.zero_add,Nat.add_zero,qx,z8,B0,reduceIte,reduceEqDiff]
  refine q9 (v:=v53) ((SlG.ld (o:=5) hv45 rfl hx8 hS48 (Nat.le_of_ble_eq_true rfl)).trans rfl) ?_
  simp only [qbi,evp,B0,reduceIte,reduceEqDiff]
  refine q9 (v := .agg [.int .i64 v_1.Term,.int .i64 (-1),.bool false,.bool false,.nil,
    v53]) (qdt (qba (us:=[.int .i64 v_1.Term]) (vs:=[.int .i64 v_1.Term,.int .i64 0,.bool false,.bool false,.nil,
    .nil]) rfl rfl (Nat.le_of_ble_eq_true rfl) rfl rfl (qba (us:=[.int .i64 (-1)]) (vs:=[.int .i64 v_1.Term,.int .i64 (-1),.bool false,.bool false,.nil,
    .nil]) rfl rfl (Nat.le_of_ble_eq_true rfl) rfl rfl (qba (us:=[v53]) (vs:=[.int .i64 v_1.Term,.int .i64 (-1),.bool false,.bool false,.nil,
    v53]) (jl (SlF.one hv55)) rfl (Nat.le_of_ble_eq_true rfl) (qo (SlF.one hv55) zn) rfl qf9)))) ?_
  simp only [k6,qp,zy,qdg,B0,reduceIte,reduceEqDiff]
  refine qkw (n:=6) (us:=[.int .i64 v_1.Term,.int .i64 (-1),.bool false,.bool false,.nil,v53]) (cs:=[.int .i64 x7.Term,.int .i64 x7.Voted,.bool x7.Stands,
    .bool x7.Leads,v49,v53]) (o:=0) (cs':=[.int .i64 v_1.Term,.int .i64 (-1),.bool false,.bool false,.nil,
    v53]) rfl hv45 rfl hx8 hS48 hW rfl (qo rfl (qo rfl (qo rfl (qo rfl (qo rfl (qo (SlF.one hv55) zn)))))) (Nat.le_of_ble_eq_true rfl) rfl
    (fun c59 h57 hv60 hS58=>?_)
  simp only [zk,ql,B0,reduceIte,reduceEqDiff]
  obtain ⟨c61,hv62,hS63⟩:=SlG.cls (e':=(Server.mk v_1.Term (-1) false false [] x7.Log)) (c:=c59) (os:=[]++(c54)) hv60 rfl hx8 jq (Server.RI (x :=
    (Server.mk v_1.Term (-1) false false [] x7.Log)) SlF.nil hv55) (Sep.ni2 (c1:=[]) (c2:=c54) (S:=(c50++([Blk1 pb0 [pv0_0,pv0_1,
    pv0_2] 31]++(pc0_1++(pc0_2++(S0)))))) ((Sep.m1 (Sep.m2 hS58)) : Sep _ lo (c59++(c54++(c50++([Blk1 pb0 [pv0_0,pv0_1,
    pv0_2] 31]++(pc0_1++(pc0_2++(S0)))))))))
  have hx64:=jz (x':=(Server.mk v_1.Term (-1) false false [] x7.Log)) hx8
  have hv65:=SlG.toN hv62
  have e66:=qf hX35
  subst e66
  exact hN38 _ _ ⟨c61,zf0,rfl,rfl,hv65,(Sep.m3 (Sep.m2 (Sep.m3 (Sep.m3 (Sep.dc (Sep.m1 hS63))))))⟩
 ·rw [iteF hc41] at hX35
  simp only [qt,ql,B0,reduceIte,reduceEqDiff]
  have e67:=qf hX35
  subst e67
  exact hN38 _ _ ⟨c27,zf0,rfl,rfl,hv30,(Sep.m3 (Sep.m2 (Sep.m3 (Sep.m3 hS29))))⟩
 rintro fr68 h69 ⟨c32,f71,f72,f73,hv33,hS70⟩
 unfold qb0 at hk36
 simp only [quh,qd,qc,f72,qn,qb,Nat.reduceAdd,Nat.zero_add,Nat.add_zero,qu,qj,B0,reduceIte,reduceEqDiff]
 refine qh (v := .bool v_1.Asks) rfl ?_
 simp only [qa,q3m,qr,B0,reduceIte,reduceEqDiff]
 refine qq (t:=v_1.Asks) (fun hc74=>?_) (fun hc74=>?_)
 ·rw [iteT hc74] at hk36
  simp only [q15,qd,j5,f72,jf,qp,Nat.reduceAdd,Nat.zero_add,Nat.add_zero,qu,z8,B0,reduceIte,reduceEqDiff]
  refine q9 (v := .int .i64 v_1.Term) rfl ?_
  obtain ⟨x75,hx76,hF77⟩:=qi hk36
  obtain ⟨c78,cs79,os80,hv81,hR82,hS83⟩:=SlG.opn (SlN.toG hv33 hb11 Server.RO.len) hx76 jq Server.RO.len (Sep.m1 hS70)
  obtain ⟨v85,c86,v89,c90,hv87,hv91,rfl,rfl⟩:=hR82
  have hS84:=Sep.no2 hS83
  simp only [f73,ja,qp,k6,zy,jf,Nat.reduceAdd,Nat.zero_add,Nat.add_zero,qx,z8,B0,reduceIte,reduceEqDiff]
  refine q9 (v := .int .i64 x75.Term) ((SlG.ld (o:=0) hv81 rfl hx76 hS84 (Nat.le_of_ble_eq_true rfl)).trans rfl) ?_
  simp only [qbr,qp,yj,ja,B0,reduceIte,reduceEqDiff]
  refine qfp 15 (fun fr' h'=>Sep h' lo ([Blk1 pb0 [pv0_0,pv0_1,
    pv0_2] 31]++(c78++(pc0_1++(pc0_2++(c86++(c90++(S0)))))))∧fr' 55 = .bool ((decide (v_1.Term=x75.Term))&&((decide (x75.Voted=(-1)))||(decide
    (x75.Voted=v_1.From))))∧fr' 0 = .ptr pb0 0∧fr' 3 = .ref [.int .i64 v_1.To,.int .i64 v_1.From,.int .i64 v_1.Term,.bool v_1.Asks,.int .i64 v_1.Last,
    .int .i64 v_1.Long,.bool v_1.Grant] 0∧fr' 4 = .ptr b10 (v_1.To.toNat*6)) rfl (fun Q93 hN94=>?_) ?_
  ·simp only [List.take_succ_cons,List.take_zero]
   simp only [zh (g:=40),B0,reduceIte,reduceEqDiff]
   refine yy (t:=(decide (v_1.Term=x75.Term))) (fun hg95=>?_) (fun hg95=>?_)
   ·simp only [hg95,zh (g:=40),yd,f73,ja,qp,k6,zy,jf,Nat.reduceAdd,Nat.zero_add,Nat.add_zero,qx,z8,B0,
     reduceIte,reduceEqDiff]
    refine q9 (v := .int .i64 x75.Voted) ((SlG.ld (o:=1) hv81 rfl hx76 hS84 (Nat.le_of_ble_eq_true rfl)).trans rfl) ?_
    simp only [hg95,zh (g:=40),yd,qbr,qp,yj,ja,B0,reduceIte,reduceEqDiff]
    refine qfp 8 (fun fr' h'=>Sep h' lo ([Blk1 pb0 [pv0_0,pv0_1,
      pv0_2] 31]++(c78++(pc0_1++(pc0_2++(c86++(c90++(S0)))))))∧fr' 54 = .bool ((decide (x75.Voted=(-1)))||(decide
      (x75.Voted=v_1.From)))∧fr' 0 = .ptr pb0 0∧fr' 3 = .ref [.int .i64 v_1.To,.int .i64 v_1.From,.int .i64 v_1.Term,.bool v_1.Asks,.int .i64 v_1.Last,
      .int .i64 v_1.Long,.bool v_1.Grant] 0∧fr' 4 = .ptr b10 (v_1.To.toNat*6)∧fr' 40 = .bool (decide (v_1.Term=x75.Term))) rfl (fun Q96 hN97=>?_) ?_
    ·simp only [List.take_succ_cons,List.take_zero]
     simp only [zh (g:=46),B0,reduceIte,reduceEqDiff]
     refine yy (t:=(decide (x75.Voted=(-1)))) (fun hg98=>?_) (fun hg98=>?_)
     ·simp only [hg98,zh (g:=46),qcl,hg95,zh (g:=40),yd,ym,qp,zp,zk,ql,B0,reduceIte,
       reduceEqDiff]
      exact hN97 _ _ ⟨(Sep.m5 (Sep.m4 (Sep.m5 (Sep.m5 (Sep.m2 (Sep.m2 hS84)))))),by rw [orT hg98]; simp only [B0,reduceIte,reduceEqDiff],f71,f72,f73,
        by simp only [hg95,B0,reduceIte,reduceEqDiff]⟩
     ·simp only [hg98,zh (g:=46),jo,f73,ja,qp,k6,zy,jf,Nat.reduceAdd,Nat.zero_add,Nat.add_zero,qx,z8,B0,
       reduceIte,reduceEqDiff]
      refine q9 (v := .int .i64 x75.Voted) ((SlG.ld (o:=1) hv81 rfl hx76 hS84 (Nat.le_of_ble_eq_true rfl)).trans rfl) ?_
      simp only [hg98,zh (g:=46),jo,f72,jf,qp,Nat.reduceAdd,Nat.zero_add,Nat.add_zero,qu,z8,B0,reduceIte,reduceEqDiff]
      refine q9 (v := .int .i64 v_1.From) rfl ?_
      simp only [hg98,zh (g:=46),jo,qbr,qp,yj,hg95,zh (g:=40),yd,ym,zo,zk,ql,B0,
        reduceIte,reduceEqDiff]
      exact hN97 _ _ ⟨(Sep.m5 (Sep.m4 (Sep.m5 (Sep.m5 (Sep.m2 (Sep.m2 hS84)))))),by rw [orF hg98]; simp only [B0,reduceIte,reduceEqDiff],f71,f72,f73,
        by simp only [hg95,B0,reduceIte,reduceEqDiff]⟩
    rintro fr99 h105 ⟨hS106,f100,f101,f102,f103,f104⟩
    simp only [List.drop_succ_cons,List.drop_zero]
    simp only [f104,hg95,ym,qp,zp,f100,zk,ql,B0,reduceIte,reduceEqDiff]
    exact hN94 _ _ ⟨(Sep.m5 (Sep.m5 (Sep.m5 (Sep.m5 (Sep.m5 (Sep.m5 hS106)))))),by rw [qcc hg95]; simp only [B0,reduceIte,reduceEqDiff],f101,f102,f103⟩
   ·simp only [hg95,zh (g:=40),qef,zh (g:=46),qqo,ym,qp,zo,zk,ql,B0,reduceIte,reduceEqDiff]
    exact hN94 _ _ ⟨(Sep.m5 (Sep.m4 (Sep.m5 (Sep.m5 (Sep.m2 (Sep.m2 hS84)))))),by rw [qb9 hg95]; simp only [B0,reduceIte,reduceEqDiff],f71,f72,f73⟩
  rintro fr107 h112 ⟨hS113,f108,f109,f110,f111⟩
  simp only [List.drop_succ_cons,List.drop_zero]
  simp only [f108,ja,qp,B0,reduceIte,reduceEqDiff]
  simp only [zh (g:=56),B0,reduceIte,reduceEqDiff]
  refine yy (t:=((decide (v_1.Term=x75.Term))&&((decide (x75.Voted=(-1)))||(decide (x75.Voted=v_1.From))))) (fun hg114=>?_) (fun hg114=>?_)
  ·rw [iteT hg114] at hF77
   simp only [hg114,zh (g:=56),yd,f110,jf,qp,Nat.reduceAdd,Nat.zero_add,Nat.add_zero,qu,z8,B0,reduceIte,reduceEqDiff]
   refine q9 (v := .int .i64 v_1.Last) rfl ?_
   simp only [hg114,zh (g:=56),yd,f110,jf,qp,Nat.reduceAdd,Nat.zero_add,Nat.add_zero,qu,z8,B0,reduceIte,reduceEqDiff]
   refine q9 (v := .int .i64 v_1.Long) rfl ?_
   simp only [hg114,zh (g:=56),yd,f111,ja,qp,k6,zy,jf,Nat.reduceAdd,Nat.zero_add,Nat.add_zero,qx,z8,B0,
     reduceIte,reduceEqDiff]
   refine q9 (v:=v89) ((SlG.ld (o:=5) hv81 rfl hx76 (Sep.m1 hS113) (Nat.le_of_ble_eq_true rfl)).trans rfl) ?_
   obtain ⟨v115,hx116,hF117⟩:=qi hF77
   simp only [hg114,zh (g:=56),yd,wb,B0,reduceIte,reduceEqDiff]
   refine qdu rfl (qk za (qk za (qk (SlF.snap hv91 (Sep.m5 hS113) rfl (fun _=>rfl) (fun _=>rfl)) zd))) (qkp
     (fun b hb=>decide_eq_true hb) v_1.Last v_1.Long x75.Log v115 hx116) ?_
   simp only [hg114,ym,qp,zp,ja,zk,qq5,qd,qc,qe,qa,qqw,qr,B0,reduceIte,reduceEqDiff]
   obtain ⟨c118,hv119,hS120⟩:=SlG.cls0 (c:=c78) (os:=c86++(c90)) hv81 rfl hx76 jq (Server.RI (x:=x75) hv87 hv91) (Sep.ni2 (c1:=c86) (c2:=c90) (Sep.m3
     (Sep.m5 (Sep.m5 hS113))))
   have hv121:=SlG.toN hv119
   obtain ⟨s122,hX126,hk127⟩:=qi hF117
   refine qdy (t:=v115) (fun fr' h'=>∃ c123,fr' 0 = .ptr pb0 0∧fr' 3 = .ref [.int .i64 v_1.To,.int .i64 v_1.From,.int .i64 v_1.Term,.bool v_1.Asks,
     .int .i64 v_1.Last,.int .i64 v_1.Long,
     .bool v_1.Grant] 0∧fr' 4 = .ptr b10 (v_1.To.toNat*6)∧fr' 5 = .bool v115∧SlN Server.R 6 46 pv0_0 s122 c123∧Sep h' lo ([Blk1 pb0 [pv0_0,pv0_1,
     pv0_2] 31]++(c123++(pc0_1++(pc0_2++(S0)))))) (fun Q128 hN129 hR130 hE131=>⟨fun hc132=>?_,fun hc132=>?_⟩) ?_
   ·rw [iteT hc132] at hX126
    simp only [q0o,qc,f111,qe,f110,qn,qb,Nat.reduceAdd,Nat.zero_add,Nat.add_zero,qu,qj,B0,reduceIte,reduceEqDiff]
    refine qh (v := .int .i64 v_1.From) rfl ?_
    obtain ⟨c135,cs136,os137,hv138,hR139,hS140⟩:=SlG.opn (SlN.toG hv121 hb11 Server.RO.len) hx76 jq Server.RO.len hS120
    obtain ⟨v142,c143,v146,c147,hv144,hv148,rfl,rfl⟩:=hR139
    have hS141:=Sep.no2 hS140
    simp only [ud,qb,zy,qn,Nat.reduceAdd,Nat.zero_add,Nat.add_zero,qx,ze,B0,reduceIte,reduceEqDiff]
    refine k8 (n:=6) (us:=[.int .i64 v_1.From]) (cs:=[.int .i64 x75.Term,.int .i64 x75.Voted,.bool x75.Stands,.bool x75.Leads,v142,
      v146]) (o:=1) (cs':=[.int .i64 x75.Term,.int .i64 v_1.From,.bool x75.Stands,.bool x75.Leads,v142,
      v146]) rfl hv138 rfl hx76 hS141 hW rfl rfl (Nat.le_of_ble_eq_true rfl) rfl (fun c150 h133 hv151 hS134=>?_)
    simp only [qa,ql,B0,reduceIte,reduceEqDiff]
    obtain ⟨c152,hv153,hS154⟩:=SlG.cls (e':=(Server.mk x75.Term v_1.From x75.Stands x75.Leads x75.Got x75.Log)) (c:=c150) (os:=c143++(c147)) hv151 rfl hx76 jq
      (Server.RI (x:=(Server.mk x75.Term v_1.From x75.Stands x75.Leads x75.Got x75.Log)) hv144 hv148) (Sep.ni2 (c1:=c143) (c2:=c147) (Sep.m2 (Sep.m2 (Sep.m2 hS134))))
    have hx155:=jz (x':=(Server.mk x75.Term v_1.From x75.Stands x75.Leads x75.Got x75.Log)) hx76
    have hv156:=SlG.toN hv153
    have e157:=qf hX126
    subst e157
    exact hN129 _ _ ⟨c152,f109,f110,f111,rfl,hv156,(Sep.m3 (Sep.m2 (Sep.m3 (Sep.m3 hS154))))⟩
   ·rw [iteF hc132] at hX126
    simp only [qt,ql,B0,reduceIte,reduceEqDiff]
    have e158:=qf hX126
    subst e158
    exact hN129 _ _ ⟨c118,f109,f110,f111,rfl,hv121,(Sep.m3 (Sep.m2 (Sep.m3 (Sep.m3 hS120))))⟩
   rintro fr159 h160 ⟨c123,f162,f163,f164,f165,hv124,hS161⟩
   unfold x6 at hk127
   simp only [qq6,qd,j5,f162,qg0,qp,ja,k6,zy,jf,Nat.reduceAdd,Nat.zero_add,Nat.add_zero,qx,z8,B0,reduceIte,
     reduceEqDiff]
   refine q9 (v:=pv0_1) ((z9 (Sep.bk _ _ _ hS161)).trans rfl) ?_
   simp only [f163,jf,qp,Nat.reduceAdd,Nat.zero_add,Nat.add_zero,qu,z8,B0,reduceIte,reduceEqDiff]
   refine q9 (v := .int .i64 v_1.From) rfl ?_
   simp only [f163,jf,qp,Nat.reduceAdd,Nat.zero_add,Nat.add_zero,qu,z8,B0,reduceIte,reduceEqDiff]
   refine q9 (v := .int .i64 v_1.To) rfl ?_
   obtain ⟨x166,hx167,hF168⟩:=qi hk127
   obtain ⟨c169,cs170,os171,hv172,hR173,hS174⟩:=SlG.opn (SlN.toG hv124 hb11 Server.RO.len) hx167 jq Server.RO.len (Sep.m1 hS161)
   obtain ⟨v176,c177,v180,c181,hv178,hv182,rfl,rfl⟩:=hR173
   have hS175:=Sep.no2 hS174
   simp only [f164,ja,qp,k6,zy,jf,Nat.reduceAdd,Nat.zero_add,Nat.add_zero,qx,z8,B0,reduceIte,reduceEqDiff]
   refine q9 (v := .int .i64 x166.Term) ((SlG.ld (o:=0) hv172 rfl hx167 hS175 (Nat.le_of_ble_eq_true rfl)).trans rfl) ?_
   simp only [f165,ja,qp,qbi,evp,B0,reduceIte,reduceEqDiff]
   refine q9 (v := .agg [.int .i64 v_1.From,.int .i64 v_1.To,.int .i64 x166.Term,.bool false,.int .i64 0,.int .i64 0,.bool v115]) rfl ?_
   simp only [ww,evp,B0,reduceIte,reduceEqDiff]
   refine yb (n:=7) (f:=Letter.cells) [(Letter.mk v_1.From v_1.To x166.Term false 0 0 v115)] hS175 rfl rfl (fun v184 c185 h186 hv187 hS188=>?_)
   simp only [qcr,B0,reduceIte,reduceEqDiff]
   obtain ⟨l190,hx191,hF192⟩:=qi hF168
   refine wc (f:=Letter.cells) ph0_1 (Sep.m5 hS188) hW (fun _=>rfl) (fun _=>rfl) (SlF.first hv187 hS188 (fun _=>rfl)) hx191
     (fun v193 c194 h195 hv196 hS197=>?_)
   simp only [k6,qp,zy,jf,Nat.reduceAdd,Nat.zero_add,Nat.add_zero,qx,qdg,B0,reduceIte,reduceEqDiff]
   refine w9 (us:=[v193]) (jl (SlF.one hv196)) (cs':=[pv0_0,v193,
     pv0_2]) (Sep.m5 hS197) hW rfl (qo (SlF.one hv196) zn) (Nat.le_of_ble_eq_true rfl) rfl (fun h199 hS200=>?_)
   simp only [zk,qs,B0,reduceIte,reduceEqDiff]
   obtain ⟨c201,hv202,hS203⟩:=SlG.cls0 (c:=c169) (os:=c177++(c181)) hv172 rfl hx167 jq (Server.RI (x:=x166) hv178 hv182) (Sep.ni2 (c1:=c177) (c2:=c181)
     (Sep.m5 (Sep.m5 (Sep.m5 hS200))))
   have hv204:=SlG.toN hv202
   have he:=qf hF192
   subst he
   simp only [qn3,B0,reduceIte,reduceEqDiff]
   exact ⟨c201,v193,c194,pv0_2,pc0_2,by first | trivial | rfl,hv204,hv196,ph0_2,(Sep.m3 (Sep.m2 (Sep.m3 (Sep.m3 (Sep.dc (Sep.m3 hS203))))))⟩
  rw [iteF hg114] at hF77
  simp only [hg114,zh (g:=56),qef,ym,qp,zo,ja,zk,qq5,qd,qc,qe,qa,qqw,qr,
    qk1,qt,qq6,j5,f109,qg0,k6,zy,jf,Nat.reduceAdd,Nat.zero_add,Nat.add_zero,qx,z8,B0,reduceIte,reduceEqDiff]
  refine q9 (v:=pv0_1) ((z9 (Sep.bk _ _ _ hS113)).trans rfl) ?_
  simp only [f110,jf,qp,Nat.reduceAdd,Nat.zero_add,Nat.add_zero,qu,z8,B0,reduceIte,reduceEqDiff]
  refine q9 (v := .int .i64 v_1.From) rfl ?_
  simp only [f110,jf,qp,Nat.reduceAdd,Nat.zero_add,Nat.add_zero,qu,z8,B0,reduceIte,reduceEqDiff]
  refine q9 (v := .int .i64 v_1.To) rfl ?_
  simp only [f111,ja,qp,k6,zy,jf,Nat.reduceAdd,Nat.zero_add,Nat.add_zero,qx,z8,B0,reduceIte,reduceEqDiff]
  refine q9 (v := .int .i64 x75.Term) ((SlG.ld (o:=0) hv81 rfl hx76 (Sep.m1 hS113) (Nat.le_of_ble_eq_true rfl)).trans rfl) ?_
  simp only [ja,qp,qbi,evp,B0,reduceIte,reduceEqDiff]
  refine q9 (v := .agg [.int .i64 v_1.From,.int .i64 v_1.To,.int .i64 x75.Term,.bool false,.int .i64 0,.int .i64 0,.bool false]) rfl ?_
  simp only [ww,evp,B0,reduceIte,reduceEqDiff]
  refine yb (n:=7) (f:=Letter.cells) [(Letter.mk v_1.From v_1.To x75.Term false 0 0 false)] hS113 rfl rfl (fun v206 c207 h208 hv209 hS210=>?_)
  simp only [qcr,B0,reduceIte,reduceEqDiff]
  obtain ⟨l212,hx213,hF214⟩:=qi hF77
  refine wc (f:=Letter.cells) ph0_1 (Sep.m3 hS210) hW (fun _=>rfl) (fun _=>rfl) (SlF.first hv209 hS210 (fun _=>rfl)) hx213 (fun v215 c216 h217 hv218 hS219=>?_)
  simp only [k6,qp,zy,jf,Nat.reduceAdd,Nat.zero_add,Nat.add_zero,qx,qdg,B0,reduceIte,reduceEqDiff]
  refine w9 (us:=[v215]) (jl (SlF.one hv218)) (cs':=[pv0_0,v215,
    pv0_2]) (Sep.m2 hS219) hW rfl (qo (SlF.one hv218) zn) (Nat.le_of_ble_eq_true rfl) rfl (fun h221 hS222=>?_)
  simp only [zk,qs,B0,reduceIte,reduceEqDiff]
  obtain ⟨c223,hv224,hS225⟩:=SlG.cls0 (c:=c78) (os:=c86++(c90)) hv81 rfl hx76 jq (Server.RI (x:=x75) hv87 hv91) (Sep.ni2 (c1:=c86) (c2:=c90) (Sep.m5 (Sep.m6
    (Sep.m6 hS222))))
  have hv226:=SlG.toN hv224
  have he:=qf hF214
  subst he
  simp only [qn3,B0,reduceIte,reduceEqDiff]
  exact ⟨c223,v215,c216,pv0_2,pc0_2,by first | trivial | rfl,hv226,hv218,ph0_2,(Sep.m3 (Sep.m2 (Sep.m3 (Sep.m3 (Sep.dc (Sep.m3 hS225))))))⟩
 rw [iteF hc74] at hk36
 simp only [qt,qtb,qd,j5,f72,jf,qp,Nat.reduceAdd,Nat.zero_add,Nat.add_zero,qu,z8,B0,reduceIte,reduceEqDiff]
 refine q9 (v := .bool v_1.Grant) rfl ?_
 simp only [ja,qp,B0,reduceIte,reduceEqDiff]
 obtain ⟨v230,hx231,hF232⟩:=qi hk36
 refine qfp 8 (fun fr' h'=>Sep h' lo ([Blk1 pb0 [pv0_0,pv0_1,
   pv0_2] 31]++(c32++(pc0_1++(pc0_2++(S0)))))∧fr' 102 = .bool v230∧fr' 0 = .ptr pb0 0∧fr' 3 = .ref [.int .i64 v_1.To,.int .i64 v_1.From,.int .i64 v_1.Term,
   .bool v_1.Asks,.int .i64 v_1.Last,.int .i64 v_1.Long,.bool v_1.Grant] 0∧fr' 4 = .ptr b10 (v_1.To.toNat*6)) rfl (fun Q227 hN228=>?_) ?_
 ·simp only [List.take_succ_cons,List.take_zero]
  simp only [zh (g:=94),B0,reduceIte,reduceEqDiff]
  refine yy (t:=v_1.Grant) (fun hg229=>?_) (fun hg229=>?_)
  ·rw [iteT hg229] at hx231
   simp only [hg229,zh (g:=94),yd,f72,jf,qp,Nat.reduceAdd,Nat.zero_add,Nat.add_zero,qu,z8,B0,reduceIte,reduceEqDiff]
   refine q9 (v := .int .i64 v_1.Term) rfl ?_
   obtain ⟨x233,hx234,hF235⟩:=qi hx231
   obtain ⟨c236,cs237,os238,hv239,hR240,hS241⟩:=SlG.opn (SlN.toG hv33 hb11 Server.RO.len) hx234 jq Server.RO.len (Sep.m1 hS70)
   obtain ⟨v243,c244,v247,c248,hv245,hv249,rfl,rfl⟩:=hR240
   have hS242:=Sep.no2 hS241
   simp only [hg229,zh (g:=94),yd,f73,ja,qp,k6,zy,jf,Nat.reduceAdd,Nat.zero_add,Nat.add_zero,qx,z8,B0,
     reduceIte,reduceEqDiff]
   refine q9 (v := .int .i64 x233.Term) ((SlG.ld (o:=0) hv239 rfl hx234 hS242 (Nat.le_of_ble_eq_true rfl)).trans rfl) ?_
   simp only [hg229,zh (g:=94),yd,qbr,qp,yj,ym,zp,zk,ql,B0,reduceIte,reduceEqDiff]
   have e251:=qf hF235
   exact hN228 _ _ ⟨(Sep.m3 (Sep.m3 (Sep.m3 (Sep.m3 hS70)))),by rw [←e251]; simp only [B0,reduceIte,reduceEqDiff],f71,by simp only [f72,B0,reduceIte,reduceEqDiff,
     hg229],f73⟩
  ·rw [iteF hg229] at hx231
   simp only [hg229,zh (g:=94),qef,ym,qp,zo,zk,ql,B0,reduceIte,reduceEqDiff]
   have e252:=qf hx231
   exact hN228 _ _ ⟨(Sep.m3 (Sep.m3 (Sep.m3 (Sep.m3 hS70)))),by rw [←e252]; simp only [B0,reduceIte,reduceEqDiff],f71,by simp only [f72,B0,reduceIte,reduceEqDiff,
     hg229],f73⟩
 rintro fr253 h258 ⟨hS259,f254,f255,f256,f257⟩
 simp only [List.drop_succ_cons,List.drop_zero]
 simp only [f254,ja,qp,B0,reduceIte,reduceEqDiff]
 obtain ⟨v263,hx264,hF265⟩:=qi hF232
 refine qfp 5 (fun fr' h'=>Sep h' lo ([Blk1 pb0 [pv0_0,pv0_1,
   pv0_2] 31]++(c32++(pc0_1++(pc0_2++(S0)))))∧fr' 108 = .bool v263∧fr' 0 = .ptr pb0 0∧fr' 3 = .ref [.int .i64 v_1.To,.int .i64 v_1.From,.int .i64 v_1.Term,
   .bool v_1.Asks,.int .i64 v_1.Last,.int .i64 v_1.Long,.bool v_1.Grant] 0∧fr' 4 = .ptr b10 (v_1.To.toNat*6)) rfl (fun Q260 hN261=>?_) ?_
 ·simp only [List.take_succ_cons,List.take_zero]
  simp only [zh (g:=103),B0,reduceIte,reduceEqDiff]
  refine yy (t:=v230) (fun hg262=>?_) (fun hg262=>?_)
  ·rw [iteT hg262] at hx264
   obtain ⟨x266,hx267,hF268⟩:=qi hx264
   obtain ⟨c269,cs270,os271,hv272,hR273,hS274⟩:=SlG.opn (SlN.toG hv33 hb11 Server.RO.len) hx267 jq Server.RO.len (Sep.m1 hS259)
   obtain ⟨v276,c277,v280,c281,hv278,hv282,rfl,rfl⟩:=hR273
   have hS275:=Sep.no2 hS274
   simp only [hg262,zh (g:=103),yd,f257,ja,qp,k6,zy,jf,Nat.reduceAdd,Nat.zero_add,Nat.add_zero,qx,z8,B0,
     reduceIte,reduceEqDiff]
   refine q9 (v := .bool x266.Stands) ((SlG.ld (o:=2) hv272 rfl hx267 hS275 (Nat.le_of_ble_eq_true rfl)).trans rfl) ?_
   simp only [hg262,ym,qp,zp,zk,ql,B0,reduceIte,reduceEqDiff]
   have e284:=qf hF268
   exact hN261 _ _ ⟨(Sep.m3 (Sep.m3 (Sep.m3 (Sep.m3 hS259)))),by rw [←e284]; simp only [B0,reduceIte,reduceEqDiff],f255,f256,f257⟩
  ·rw [iteF hg262] at hx264
   simp only [hg262,zh (g:=103),qef,ym,qp,zo,zk,ql,B0,reduceIte,reduceEqDiff]
   have e285:=qf hx264
   exact hN261 _ _ ⟨(Sep.m3 (Sep.m3 (Sep.m3 (Sep.m3 hS259)))),by rw [←e285]; simp only [B0,reduceIte,reduceEqDiff],f255,f256,f257⟩
 rintro fr286 h291 ⟨hS292,f287,f288,f289,f290⟩
 simp only [List.drop_succ_cons,List.drop_zero]
 simp only [zk,qui,f287,qr,B0,reduceIte,reduceEqDiff]
 refine qq (t:=v263) (fun hc293=>?_) (fun hc293=>?_)
 ·rw [iteT hc293] at hF265
  obtain ⟨x294,hx295,hF296⟩:=qi hF265
  obtain ⟨c297,cs298,os299,hv300,hR301,hS302⟩:=SlG.opn (SlN.toG hv33 hb11 Server.RO.len) hx295 jq Server.RO.len (Sep.m1 hS292)
  obtain ⟨v304,c305,v308,c309,hv306,hv310,rfl,rfl⟩:=hR301
  have hS303:=Sep.no2 hS302
  simp only [qs5,qd,j5,f290,ja,qp,k6,zy,jf,Nat.reduceAdd,Nat.zero_add,Nat.add_zero,qx,z8,B0,reduceIte,reduceEqDiff]
  refine q9 (v:=v304) ((SlG.ld (o:=4) hv300 rfl hx295 hS303 (Nat.le_of_ble_eq_true rfl)).trans rfl) ?_
  simp only [f289,jf,qp,Nat.reduceAdd,Nat.zero_add,Nat.add_zero,qu,z8,B0,reduceIte,reduceEqDiff]
  refine q9 (v := .int .i64 v_1.From) rfl ?_
  obtain ⟨v312,hx313,hF314⟩:=qi hF296
  simp only [wb,B0,reduceIte,reduceEqDiff]
  refine qdu rfl (qk (SlF.snap hv306 (Sep.m1 hS303) rfl (fun _=>rfl) (fun _=>rfl)) (qk za zd)) (qgc
    (fun b hb=>decide_eq_true hb) k x294.Got v_1.From v312 hx313) ?_
  simp only [ja,qp,qsj,qep,qeq,zk,qw3,qd,qc,qe,js,qb,kt,qa,qrl,qr,B0,reduceIte,
    reduceEqDiff]
  refine qq (t:=(!v312.2)) (fun hc315=>?_) (fun hc315=>?_)
  ·rw [iteT hc315] at hF314
   simp only [q00,j5,f290,qg0,qp,ja,k6,zy,jf,Nat.reduceAdd,Nat.zero_add,Nat.add_zero,qx,z8,B0,reduceIte,reduceEqDiff]
   refine q9 (v:=v304) ((SlG.ld (o:=4) hv300 rfl hx295 hS303 (Nat.le_of_ble_eq_true rfl)).trans rfl) ?_
   simp only [ja,qp,f289,jf,Nat.reduceAdd,Nat.zero_add,Nat.add_zero,qu,z8,B0,reduceIte,reduceEqDiff]
   refine q9 (v := .int .i64 v_1.From) rfl ?_
   simp only [ww,evp,B0,reduceIte,reduceEqDiff]
   refine yb (n:=1) (f:=cI) [v_1.From] hS303 rfl rfl (fun v316 c317 h318 hv319 hS320=>?_)
   obtain ⟨v322,hx323,hF324⟩:=qi hF314
   simp only [wb,B0,reduceIte,reduceEqDiff]
   refine qrp rfl (qis hW v304 c305 x294.Got hv306 v312.1 v316 c317 [v_1.From] hv319 v322 hx323 (Sep.m2 hS320)) ?_
   rintro v325 h331 ⟨_,c326,c329,rfl,hv327,hv330,hS332⟩
   simp only [k6,qp,zy,jf,Nat.reduceAdd,Nat.zero_add,Nat.add_zero,qx,qdg,B0,reduceIte,reduceEqDiff]
   refine qkw (n:=6) (us:=[v325]) (cs:=[.int .i64 x294.Term,.int .i64 x294.Voted,.bool x294.Stands,.bool x294.Leads,v304,
     v308]) (o:=4) (cs':=[.int .i64 x294.Term,.int .i64 x294.Voted,.bool x294.Stands,.bool x294.Leads,v325,
     v308]) (jl (SlF.one hv327)) hv300 rfl hx295 (Sep.m2 hS332) hW rfl (qo (SlF.one hv327) zn) (Nat.le_of_ble_eq_true rfl) rfl (fun c335 h333 hv336 hS334=>?_)
   simp only [zk,qn6,qc,f288,qe,f289,qn,qb,Nat.reduceAdd,Nat.zero_add,Nat.add_zero,qu,qj,B0,reduceIte,reduceEqDiff]
   refine qh (v := .int .i64 v_1.To) rfl ?_
   obtain ⟨c337,hv338,hS339⟩:=SlG.cls (e':=(Server.mk x294.Term x294.Voted x294.Stands x294.Leads v322.1 x294.Log)) (c:=c335) (os:=c326 ++
     (c309)) hv336 rfl hx295 jq (Server.RI (x:=(Server.mk x294.Term x294.Voted x294.Stands x294.Leads v322.1 x294.Log)) hv327 hv310) (Sep.ni2 (c1:=c326) (c2:=c309)
     (Sep.m2 (Sep.m2 (Sep.m3 hS334))))
   have hx340:=jz (x':=(Server.mk x294.Term x294.Voted x294.Stands x294.Leads v322.1 x294.Log)) hx295
   have hv341:=SlG.toN hv338
   obtain ⟨v342,hx343,hF344⟩:=qi hF324
   simp only [zb,B0,reduceIte,reduceEqDiff]
   refine xz rfl (qcd hW pb0 (Election.mk (List.set s31 v_1.To.toNat
     (Server.mk x294.Term x294.Voted x294.Stands x294.Leads v322.1 x294.Log)) v_0.Post v_0.Led) pv0_0 c337 hv341 pv0_1 pc0_1 ph0_1 pv0_2 pc0_2 ph0_2 v_1.To v342 hx343
     (Sep.m4 (Sep.m2 (Sep.m4 (Sep.m4 hS339))))) ?_
   rintro _ h353 ⟨c345,c347,v349,c350,rfl,hv346,hv348,hv351,hS354⟩
   simp only [qa,ql,B0,reduceIte,reduceEqDiff]
   have he:=qf hF344
   subst he
   simp only [qgo,B0,reduceIte,reduceEqDiff]
   exact ⟨c345,pv0_1,c347,v349,c350,by first | trivial | rfl,hv346,hv348,hv351,(Sep.m3 (Sep.m3 (Sep.m3 (Sep.m3 (Sep.dc (Sep.m4 hS354))))))⟩
  rw [iteF hc315] at hF314
  simp only [qt,qn6,qc,f288,qe,f289,qn,qb,Nat.reduceAdd,Nat.zero_add,Nat.add_zero,qu,qj,B0,reduceIte,reduceEqDiff]
  refine qh (v := .int .i64 v_1.To) rfl ?_
  obtain ⟨c355,hv356,hS357⟩:=SlG.cls0 (c:=c297) (os:=c305++(c309)) hv300 rfl hx295 jq (Server.RI (x:=x294) hv306 hv310) (Sep.ni2 (c1:=c305) (c2:=c309)
    (Sep.m2 (Sep.m2 (Sep.m2 hS303))))
  have hv358:=SlG.toN hv356
  obtain ⟨v359,hx360,hF361⟩:=qi hF314
  simp only [zb,B0,reduceIte,reduceEqDiff]
  refine xz rfl (qcd hW pb0 (Election.mk s31 v_0.Post v_0.Led) pv0_0 c355 hv358 pv0_1 pc0_1 ph0_1 pv0_2 pc0_2 ph0_2 v_1.To v359 hx360 (Sep.m3 (Sep.m2
    (Sep.m3 (Sep.m3 hS357))))) ?_
  rintro _ h370 ⟨c362,c364,v366,c367,rfl,hv363,hv365,hv368,hS371⟩
  simp only [qa,ql,B0,reduceIte,reduceEqDiff]
  have he:=qf hF361
  subst he
  simp only [qgo,B0,reduceIte,reduceEqDiff]
  exact ⟨c362,pv0_1,c364,v366,c367,by first | trivial | rfl,hv363,hv365,hv368,(Sep.m3 (Sep.m3 (Sep.m3 (Sep.m3 hS371))))⟩
 rw [iteF hc293] at hF265
 simp only [qt,ql,B0,reduceIte,reduceEqDiff]
 have he:=qf hF265
 subst he
 simp only [qgo,B0,reduceIte,reduceEqDiff]
 exact ⟨c32,pv0_1,pc0_1,pv0_2,pc0_2,by first | trivial | rfl,hv33,ph0_1,ph0_2,(Sep.m3 (Sep.m3 (Sep.m3 (Sep.m3 hS292))))⟩
end Go.Proofs.Ytpddolihbnfahaa.X
