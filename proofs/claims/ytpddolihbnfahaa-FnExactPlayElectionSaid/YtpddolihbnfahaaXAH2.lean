/- The functions' code comes to what the plain functions say (2). -/
import Derived.Test.YtpddolihbnfahaaXAH1
set_option linter.unusedVariables false
set_option linter.unusedSimpArgs false
set_option maxRecDepth 100000
namespace Go.Proofs.Ytpddolihbnfahaa.X
open Go
open Nat (reduceEqDiff)
theorem qiv {W:Nat→Bool}{h:Heap} (hW:∀ b,
  (geL h.length) b→W b=true) (e_0:Election) (r:Election) (hF:u1 e_0=some r) : Ret E W 93 [.agg [lst Server.cells e_0.Servers,
  lst Letter.cells e_0.Post,lst Vote.cells e_0.Led]] h (fun v h'=>∃ rv0_0 rc0_0 rv0_1 rc0_1 rv0_2 rc0_2,v = .agg [rv0_0,rv0_1,
  rv0_2]∧SlN Server.R 6 46 rv0_0 r.Servers rc0_0∧SlF Letter.cells 7 93 rv0_1 r.Post rc0_1∧SlF Vote.cells 2 39 rv0_2 r.Led rc0_2∧Sep h' (geL h.length) (rc0_0 ++
  (rc0_1++(rc0_2++([]))))):=by
 refine Ret.of (fn:=x93) rfl (Run.of ?_)
 unfold u1 at hF
 have zf0:qy [.agg [lst Server.cells e_0.Servers,lst Letter.cells e_0.Post,lst Vote.cells e_0.Led]] 0 = .agg [lst Server.cells e_0.Servers,lst Letter.cells e_0.Post,
   lst Vote.cells e_0.Led]:=rfl
 generalize qy [.agg [lst Server.cells e_0.Servers,lst Letter.cells e_0.Post,lst Vote.cells e_0.Led]]=fr0 at zf0 ⊢
 have hS:Sep h (geL h.length) []:=Sep.nil h
 simp only [x93,qd,qc,kx,zf0,B0,reduceIte,reduceEqDiff]
 refine ju (cs:=[lst Server.cells e_0.Servers,lst Letter.cells e_0.Post,lst Vote.cells e_0.Led]) hS rfl rfl rfl (fun b1 h2 hS3=>?_)
 simp only [jv,B0,reduceIte,reduceEqDiff]
 refine jb hS3 (fun b5 h6 hS7=>?_)
 simp only [qa,B0,reduceIte,reduceEqDiff]
 refine jd (Sep.m1 hS7) hW (by simp only [B0,reduceIte,reduceEqDiff]) (fun h9 hS10=>?_)
 simp only [jc,q31,qd,j5,w3,evp,B0,reduceIte,reduceEqDiff]
 refine wb (n:=7) (f:=Letter.cells) ([] : List Letter) hS10 rfl rfl (fun v12 c13 h14 hv15 hS16 hq11=>?_)
 simp only [qml,evp,B0,reduceIte,reduceEqDiff]
 refine qd7 (n:=2) (f:=Vote.cells) ([] : List Vote) hS16 rfl rfl (fun v18 c19 h20 hv21 hS22=>?_)
 simp only [qnq,B0,reduceIte,reduceEqDiff]
 refine qia hS22 (fun b24 h25 hS26=>?_)
 simp only [jf,qp,Nat.reduceAdd,Nat.zero_add,Nat.add_zero,qu,z8,B0,reduceIte,reduceEqDiff]
 refine q9 (v:=lst Letter.cells e_0.Post) rfl ?_
 simp only [qhp,B0,reduceIte,reduceEqDiff]
 obtain ⟨l28,hx29,hF30⟩:=qi hF
 have hq31:=nwq (fun z hz=>Sep.dj (Sep.m3 (Sep.m3 hS26)) qfi (SlF.rowfp hv15 z hz))
 refine qlf qiy ?_
 refine wc (f:=Letter.cells) hv15 (Sep.m2 hS26) hW (fun _=>rfl) (fun _=>rfl) (w4 (fun _=>rfl)) hx29 (fun v32 c33 h34 hv35 hS36=>?_)
 simp only [qd0,qp,Nat.reduceAdd,Nat.zero_add,Nat.add_zero,qu,qdd,qjm,B0,reduceIte,reduceEqDiff]
 refine q9 (v:=lst Vote.cells e_0.Led) rfl ?_
 simp only [qcs,B0,reduceIte,reduceEqDiff]
 obtain ⟨l38,hx39,hF40⟩:=qi hF30
 refine wc (f:=Vote.cells) hv21 (Sep.m2 hS36) hW (fun _=>rfl) (fun _=>rfl) (w4 (fun _=>rfl)) hx39 (fun v41 c42 h43 hv44 hS45=>?_)
 simp only [qbo,evp,B0,reduceIte,reduceEqDiff]
 refine q9 (v := .agg [.nil,v32,v41]) (qdr (qa8 (us:=[v32]) (vs:=[.nil,v32,
   .nil]) (jl (SlF.one hv35)) rfl (Nat.le_of_ble_eq_true rfl) (qo (SlF.one hv35) zn) rfl (qa8 (us:=[v41]) (vs:=[.nil,v32,
   v41]) (jl (SlF.one hv44)) rfl (Nat.le_of_ble_eq_true rfl) (qo (SlF.one hv44) zn) rfl qgc))) ?_
 simp only [qdk,B0,reduceIte,reduceEqDiff]
 refine w9 (us:=[.nil,v32,v41]) rfl (cs':=[.nil,v32,
   v41]) (Sep.m2 hS45) hW rfl (qo rfl (qo (SlF.one hv35) (qo (SlF.one hv44) zn))) (Nat.le_of_ble_eq_true rfl) rfl (fun h47 hS48=>?_)
 simp only [zk,q5j,qd,qc,qn,qb,Nat.reduceAdd,Nat.zero_add,Nat.add_zero,qu,qj,B0,reduceIte,reduceEqDiff]
 refine qh (v:=lst Server.cells e_0.Servers) rfl ?_
 simp only [zj,qb,zr,qe,qa,B0,reduceIte,reduceEqDiff]
 obtain ⟨oc61,hX63,hk64⟩:=jm hF40
 simp only [q3h]
 refine uh (σ:=Election) e_0.Servers (fun i59 x60 s140=>u6 l28 l38 i59 x60 s140) (fun s fr' h'=>∃ v56 c57,
   fr' 2 = .ptr b5 0∧fr' 3 = .ptr b24 0∧fr' 16=lst Server.cells e_0.Servers∧SlN Server.R 6 46 v56 s.Servers c57∧Sep h' (geL h.length) ([Blk1 b5 [.nil,.nil,
   .nil] 31]++([Blk1 b24 [v56,v32,v41] 31]++(c57++(c33++(c42++([]))))))) hX63 ⟨.nil,[],rfl,rfl,rfl,SlN.nil,
   ((Sep.m3 (Sep.m2 (Sep.m2 (Sep.m1 hS48)))) : Sep _ (geL h.length) ([Blk1 b5 [.nil,.nil,.nil] 31]++([Blk1 b24 [.nil,v32,
   v41] 31]++(c33++(c42++([]))))))⟩ (by simp only [B0,reduceIte,reduceEqDiff]) (by simp only [B0,reduceIte,
   reduceEqDiff]) (fun _ _ _ h=>h) rfl rfl (fun _ _ _ _ h=>h) (fun _ _ _ _ h=>h) (fun _ _ _ _ h=>h) (by decide) ?_ ?_
 ·rintro i59 x60 s54 fr73 h74 hx79 ⟨v56,c57,f76,f77,f78,hv58,hS75⟩ f80 f81 oc62 hF65 hr66 Q67 hN68 hB72 hK69 hR70 hE71
  unfold u6 at hF65
  simp only [q62,qd,qc,f78,f80,zt,B0,reduceIte,reduceEqDiff]
  refine qh (v := .ref (Server.cells x60) 0) (ug hx79 rfl) ?_
  simp only [qj,B0,reduceIte,reduceEqDiff]
  refine qh (v := .agg [.int .i64 x60.Term,.int .i64 x60.Voted,.bool x60.Stands,.bool x60.Leads,lst cI x60.Got,lst cI x60.Log]) rfl ?_
  simp only [jv,B0,reduceIte,reduceEqDiff]
  refine jb hS75 (fun b82 h83 hS84=>?_)
  simp only [ze,B0,reduceIte,reduceEqDiff]
  refine zc (us:=[.int .i64 x60.Term,.int .i64 x60.Voted,.bool x60.Stands,.bool x60.Leads,lst cI x60.Got,lst cI x60.Log]) rfl (cs':=[.int .i64 x60.Term,
    .int .i64 x60.Voted,.bool x60.Stands,.bool x60.Leads,lst cI x60.Got,lst cI x60.Log]) hS84 hW rfl rfl (Nat.le_of_ble_eq_true rfl) rfl (fun h86 hS87=>?_)
  simp only [qa,q6f,qd,qc,yg,evp,B0,reduceIte,reduceEqDiff]
  refine k6 (n:=1) (f:=cI) ([] : List Int) hS87 rfl rfl (fun v88 c89 h90 hv91 hS92=>?_)
  simp only [qn,qb,Nat.reduceAdd,Nat.zero_add,Nat.add_zero,qx,qj,B0,reduceIte,reduceEqDiff]
  refine qh (v:=lst cI x60.Got) ((z9 (Sep.bk _ _ _ (Sep.m1 hS92))).trans rfl) ?_
  simp only [xz,B0,reduceIte,reduceEqDiff]
  obtain ⟨l94,hx95,hF96⟩:=qi hF65
  refine we (f:=cI) hv91 hS92 hW (fun _=>rfl) (fun _=>rfl) (w4 (fun _=>rfl)) hx95 (fun v97 c98 h99 hv100 hS101=>?_)
  simp only [qn,qb,Nat.reduceAdd,Nat.zero_add,Nat.add_zero,qx,ze,B0,reduceIte,reduceEqDiff]
  refine zc (us:=[v97]) (jl (SlF.one hv100)) (cs':=[.int .i64 x60.Term,.int .i64 x60.Voted,.bool x60.Stands,.bool x60.Leads,v97,
    lst cI x60.Log]) (Sep.m1 hS101) hW rfl (qo (SlF.one hv100) zn) (Nat.le_of_ble_eq_true rfl) rfl (fun h103 hS104=>?_)
  simp only [qa,q5u,qd,qc,yg,evp,B0,reduceIte,reduceEqDiff]
  refine k6 (n:=1) (f:=cI) ([] : List Int) hS104 rfl rfl (fun v105 c106 h107 hv108 hS109=>?_)
  simp only [qn,qb,Nat.reduceAdd,Nat.zero_add,Nat.add_zero,qx,qj,B0,reduceIte,reduceEqDiff]
  refine qh (v:=lst cI x60.Log) ((z9 (Sep.bk _ _ _ (Sep.m1 hS109))).trans rfl) ?_
  simp only [xz,B0,reduceIte,reduceEqDiff]
  obtain ⟨l111,hx112,hF113⟩:=qi hF96
  refine we (f:=cI) hv108 hS109 hW (fun _=>rfl) (fun _=>rfl) (w4 (fun _=>rfl)) hx112 (fun v114 c115 h116 hv117 hS118=>?_)
  simp only [qn,qb,Nat.reduceAdd,Nat.zero_add,Nat.add_zero,qx,ze,B0,reduceIte,reduceEqDiff]
  refine zc (us:=[v114]) (jl (SlF.one hv117)) (cs':=[.int .i64 x60.Term,.int .i64 x60.Voted,.bool x60.Stands,.bool x60.Leads,v97,
    v114]) (Sep.m1 hS118) hW rfl (qo (SlF.one hv117) zn) (Nat.le_of_ble_eq_true rfl) rfl (fun h120 hS121=>?_)
  simp only [qa,qzn,qc,f77,qn,qb,Nat.reduceAdd,Nat.zero_add,Nat.add_zero,qx,qj,B0,reduceIte,reduceEqDiff]
  refine qh (v:=v56) ((z9 (Sep.bk _ _ _ (Sep.m4 hS121))).trans rfl) ?_
  simp only [qj,B0,reduceIte,reduceEqDiff]
  refine qh (v := .agg [.int .i64 x60.Term,.int .i64 x60.Voted,.bool x60.Stands,.bool x60.Leads,v97,v114]) ((zw (Sep.bk _ _ _ hS121)).trans rfl) ?_
  simp only [yg,evp,B0,reduceIte,reduceEqDiff]
  refine qgu (R:=Server.R) (n:=6) (cs:=[.int .i64 x60.Term,.int .i64 x60.Voted,.bool x60.Stands,.bool x60.Leads,v97,
    v114]) (os:=c98++(c115)) (Sep.bi2 (c1:=c98) (c2:=c115) (Sep.m2 (Sep.m1 hS121))) (qa8 (us:=[.int .i64 x60.Term,.int .i64 x60.Voted,.bool x60.Stands,
    .bool x60.Leads,v97,v114]) (vs:=[.int .i64 x60.Term,.int .i64 x60.Voted,.bool x60.Stands,.bool x60.Leads,v97,
    v114]) rfl rfl (Nat.le_of_ble_eq_true rfl) (qo rfl (qo rfl (qo rfl (qo rfl (qo (SlF.one hv100) (qo (SlF.one hv117) zn)))))) rfl qgc) (Server.RI
    (x:=(Server.mk x60.Term x60.Voted x60.Stands x60.Leads l94 l111)) hv100 hv117) rfl (fun v122 c123 h124 hv125 hS126=>?_)
  simp only [xz,B0,reduceIte,reduceEqDiff]
  obtain ⟨l128,hx129,hF130⟩:=qi hF113
  refine qi9 (R:=Server.R) (c:=c57) hv58 hv125 (Sep.m4 hS126) hW Server.RO.len Server.RO.one hx129 (fun v131 c132 h133 hv134 hS135=>?_)
  simp only [f77,qn,qb,Nat.reduceAdd,Nat.zero_add,Nat.add_zero,qx,ze,B0,reduceIte,reduceEqDiff]
  refine zc (us:=[v131]) (jl (SlN.one hv134)) (cs':=[v131,v32,
    v41]) (Sep.m3 hS135) hW rfl (qo (SlN.one hv134) zn) (Nat.le_of_ble_eq_true rfl) rfl (fun h137 hS138=>?_)
  simp only [qa,ql,B0,reduceIte,reduceEqDiff]
  have e139:=qf hF130
  exact hN68 _ _ _ e139.symm ⟨v131,c132,f76,f77,f78,hv134,(Sep.m4 (Sep.m3 (Sep.m3 (Sep.m4 (Sep.m4 (Sep.dc (Sep.m2 hS138)))))))⟩ (f80) (f81)
 rintro s141 fr146 h147 rfl ⟨v143,c144,f149,f150,f151,hv145,hS148⟩
 dsimp only [jnO] at hk64
 unfold qed at hk64
 simp only [qd,qc,f150,qj,B0,reduceIte,reduceEqDiff]
 refine qh (v := .agg [v143,v32,v41]) ((zw (Sep.bk _ _ _ (Sep.m1 hS148))).trans rfl) ?_
 simp only [f149,ze,B0,reduceIte,reduceEqDiff]
 refine zc (us:=[v143,v32,v41]) rfl (cs':=[v143,v32,
   v41]) hS148 hW rfl (qo (SlN.one hv145) (qo (SlF.one hv35) (qo (SlF.one hv44) zn))) (Nat.le_of_ble_eq_true rfl) rfl (fun h152 hS153=>?_)
 simp only [qa,qs,B0,reduceIte,reduceEqDiff]
 have he:=qf hk64
 subst he
 refine qah (bb:=b5) (oo:=0) (v := .agg [v143,v32,v41]) (by simp only [f149,B0,reduceIte,reduceEqDiff]) ((zw (Sep.bk _ _ _ hS153)).trans rfl) ?_
 exact ⟨v143,c144,v32,c33,v41,c42,by first | trivial | rfl,hv145,hv35,hv44,(Sep.m2 (Sep.m2 (Sep.m2 (Sep.dc ((Sep.dc (hS153)))))))⟩
theorem qcc {W:Nat→Bool}{h:Heap}{lo:Nat→Prop}{S0:List Obj} (hW:∀ b,
  lo b→W b=true) (pb0:Nat) (e_0:Election) (pv0_0:XV) (pc0_0:List Obj) (ph0_0:SlN Server.R 6 46 pv0_0 e_0.Servers pc0_0) (pv0_1:XV) (pc0_1:List Obj)
  (ph0_1:SlF Letter.cells 7 93 pv0_1 e_0.Post pc0_1) (pv0_2:XV) (pc0_2:List Obj) (ph0_2:SlF Vote.cells 2 39 pv0_2 e_0.Led pc0_2) (k_1:Int) (r:Election)
  (hF:wx e_0 k_1=some r) (hS:Sep h lo ([Blk1 pb0 [pv0_0,pv0_1,pv0_2] 31]++(pc0_0++(pc0_1++(pc0_2++(S0)))))) : Ret E W 113 [.ptr pb0 0,
  .int .i64 k_1] h (fun v h'=>∃ ic0_0 ic0_1 iv0_2 ic0_2,
  v = .tup []∧SlN Server.R 6 46 pv0_0 r.Servers ic0_0∧SlF Letter.cells 7 93 pv0_1 r.Post ic0_1∧SlF Vote.cells 2 39 iv0_2 r.Led ic0_2∧Sep h' lo ([Blk1 pb0 [pv0_0,pv0_1,
  iv0_2] 31]++(ic0_0++(ic0_1++(ic0_2++(S0)))))):=by
 refine Ret.of (fn:=kc) rfl (Run.of ?_)
 unfold wx at hF
 have zf0:qy [.ptr pb0 0,.int .i64 k_1] 0 = .ptr pb0 0:=rfl
 have zf1:qy [.ptr pb0 0,.int .i64 k_1] 1 = .int .i64 k_1:=rfl
 generalize qy [.ptr pb0 0,.int .i64 k_1]=fr0 at zf0 zf1 ⊢
 simp only [kc,qd,qc,zf0,qe,uf,qb,zy,qn,Nat.reduceAdd,Nat.zero_add,Nat.add_zero,qx,qj,B0,reduceIte,reduceEqDiff]
 refine qh (v:=pv0_0) ((z9 (Sep.bk _ _ _ hS)).trans rfl) ?_
 obtain ⟨x1,hx2,hF3⟩:=qi hF
 simp only [zf1,qe,zt,B0,reduceIte,reduceEqDiff]
 obtain ⟨b4,hb5⟩:=SlN.isrow ph0_0 (yo hx2)
 refine qh (SlN.ia ph0_0 hb5 hx2) ?_
 obtain ⟨c6,cs7,os8,hv9,hR10,hS11⟩:=SlG.opn (SlN.toG ph0_0 hb5 Server.RO.len) hx2 jp Server.RO.len (Sep.m1 hS)
 obtain ⟨v13,c14,v17,c18,hv15,hv19,rfl,rfl⟩:=hR10
 have hS12:=Sep.no2 hS11
 simp only [qe,qa,qw3,qd,j5,ja,qp,kz,zy,jf,Nat.reduceAdd,Nat.zero_add,Nat.add_zero,qx,z8,B0,reduceIte,
   reduceEqDiff]
 refine q9 (v := .bool x1.Stands) ((SlG.ld (o:=2) hv9 rfl hx2 hS12 (Nat.le_of_ble_eq_true rfl)).trans rfl) ?_
 simp only [ja,qp,B0,reduceIte,reduceEqDiff]
 refine qfn 13 (fun fr' h'=>Sep h' lo ([Blk1 pb0 [pv0_0,pv0_1,
   pv0_2] 31]++(c6++(pc0_1++(pc0_2++(c14++(c18++(S0)))))))∧fr' 28 = .bool (x1.Stands&&(decide ((List.length e_0.Servers:Int)<(IntKind.wrap .i64
   ((2:Int)*(List.length x1.Got:Int))))))∧fr' 0 = .ptr pb0 0∧fr' 1 = .int .i64 k_1∧fr' 4 = .ptr b4 (k_1.toNat*6)) rfl (fun Q21 hN22=>?_) ?_
 ·simp only [List.take_succ_cons,List.take_zero]
  simp only [zh (g:=15),B0,reduceIte,reduceEqDiff]
  refine yy (t:=x1.Stands) (fun hg23=>?_) (fun hg23=>?_)
  ·simp only [hg23,zh (g:=15),yc,ja,qp,kz,zy,jf,Nat.reduceAdd,Nat.zero_add,Nat.add_zero,qx,z8,B0,reduceIte,
    reduceEqDiff]
   refine q9 (v:=v13) ((SlG.ld (o:=4) hv9 rfl hx2 hS12 (Nat.le_of_ble_eq_true rfl)).trans rfl) ?_
   simp only [hg23,zh (g:=15),yc,qkx,qp,SlF.plen hv15,qbs,zag,zf0,ja,kz,zy,jf,Nat.reduceAdd,Nat.zero_add,
     Nat.add_zero,qx,z8,B0,reduceIte,reduceEqDiff]
   refine q9 (v:=pv0_0) ((z9 (Sep.bk _ _ _ (Sep.m3 hS12))).trans rfl) ?_
   simp only [hg23,zh (g:=15),yc,qkx,qp,SlG.plen hv9,qbs,qby,yl,zp,zk,ql,B0,reduceIte,reduceEqDiff]
   exact hN22 _ _ ⟨(Sep.m5 (Sep.m4 (Sep.m5 (Sep.m5 (Sep.m2 (Sep.m2 hS12)))))),by rw [qcb hg23]; simp only [B0,reduceIte,reduceEqDiff],zf0,zf1,rfl⟩
  ·simp only [hg23,zh (g:=15),qee,yl,qp,zo,zk,ql,B0,reduceIte,reduceEqDiff]
   exact hN22 _ _ ⟨(Sep.m5 (Sep.m4 (Sep.m5 (Sep.m5 (Sep.m2 (Sep.m2 hS12)))))),by rw [qcd hg23]; simp only [B0,reduceIte,reduceEqDiff],zf0,zf1,rfl⟩
 rintro fr24 h29 ⟨hS30,f25,f26,f27,f28⟩
 simp only [List.drop_succ_cons,List.drop_zero]
 simp only [zk,quv,f25,qr,B0,reduceIte,reduceEqDiff]
 refine qq (t:=(x1.Stands&&(decide ((List.length e_0.Servers:Int)<(IntKind.wrap .i64 ((2:Int)*(List.length x1.Got:Int))))))) (fun hc31=>?_)
   (fun hc31=>?_)
 ·rw [iteT hc31] at hF3
  simp only [qv9,qd,qc,f28,qe,uf,qb,zy,qn,Nat.reduceAdd,Nat.zero_add,Nat.add_zero,qx,ze,B0,reduceIte,reduceEqDiff]
  refine k8 (n:=6) (us:=[.bool false]) (cs:=[.int .i64 x1.Term,.int .i64 x1.Voted,.bool x1.Stands,.bool x1.Leads,v13,v17]) (o:=2) (cs':=[.int .i64 x1.Term,
    .int .i64 x1.Voted,.bool false,.bool x1.Leads,v13,v17]) rfl hv9 rfl hx2 (Sep.m1 hS30) hW rfl rfl (Nat.le_of_ble_eq_true rfl) rfl (fun c34 h32 hv35 hS33=>?_)
  simp only [qa,qt6,qd,qc,f28,qe,uf,qb,zy,qn,Nat.reduceAdd,Nat.zero_add,Nat.add_zero,qx,ze,B0,reduceIte,
    reduceEqDiff]
  refine k8 (n:=6) (us:=[.bool true]) (cs:=[.int .i64 x1.Term,.int .i64 x1.Voted,.bool false,.bool x1.Leads,v13,v17]) (o:=3) (cs':=[.int .i64 x1.Term,
    .int .i64 x1.Voted,.bool false,.bool true,v13,v17]) rfl hv35 rfl hx2 hS33 hW rfl rfl (Nat.le_of_ble_eq_true rfl) rfl (fun c38 h36 hv39 hS37=>?_)
  simp only [qa,qs7,j5,f26,qhb,qp,ja,kz,zy,jf,Nat.reduceAdd,Nat.zero_add,Nat.add_zero,qx,z8,B0,reduceIte,
    reduceEqDiff]
  refine q9 (v:=pv0_2) ((z9 (Sep.bk _ _ _ (Sep.m1 hS37))).trans rfl) ?_
  simp only [f28,ja,qp,kz,zy,jf,Nat.reduceAdd,Nat.zero_add,Nat.add_zero,qx,z8,B0,reduceIte,reduceEqDiff]
  refine q9 (v := .int .i64 x1.Term) ((SlG.ld (o:=0) hv39 rfl hx2 hS37 (Nat.le_of_ble_eq_true rfl)).trans rfl) ?_
  simp only [f27,ja,qp,qbo,evp,B0,reduceIte,reduceEqDiff]
  refine q9 (v := .agg [.int .i64 x1.Term,.int .i64 k_1]) rfl ?_
  simp only [w3,evp,B0,reduceIte,reduceEqDiff]
  refine wb (n:=2) (f:=Vote.cells) [(Vote.mk x1.Term k_1)] hS37 rfl rfl (fun v41 c42 h43 hv44 hS45 hq40=>?_)
  simp only [qcs,B0,reduceIte,reduceEqDiff]
  obtain ⟨l47,hx48,hF49⟩:=qi hF3
  refine wc (f:=Vote.cells) ph0_2 (Sep.m4 hS45) hW (fun _=>rfl) (fun _=>rfl) (SlF.first hv44 hS45 (fun _=>rfl)) hx48 (fun v50 c51 h52 hv53 hS54=>?_)
  simp only [kz,qp,zy,jf,Nat.reduceAdd,Nat.zero_add,Nat.add_zero,qx,qdk,B0,reduceIte,reduceEqDiff]
  refine w9 (us:=[v50]) (jl (SlF.one hv53)) (cs':=[pv0_0,pv0_1,
    v50]) (Sep.m3 hS54) hW rfl (qo (SlF.one hv53) zn) (Nat.le_of_ble_eq_true rfl) rfl (fun h56 hS57=>?_)
  simp only [zk,ql,B0,reduceIte,reduceEqDiff]
  obtain ⟨c58,hv59,hS60⟩:=SlG.cls (e':=(Server.mk x1.Term x1.Voted false true x1.Got x1.Log)) (c:=c38) (os:=c14++(c18)) hv39 rfl hx2 jp (Server.RI (x :=
    (Server.mk x1.Term x1.Voted false true x1.Got x1.Log)) hv15 hv19) (Sep.ni2 (c1:=c14) (c2:=c18) (Sep.m5 (Sep.m6 (Sep.m6 hS57))))
  have hx61:=jz (x':=(Server.mk x1.Term x1.Voted false true x1.Got x1.Log)) hx2
  have hv62:=SlG.toN hv59
  have he:=qf hF49
  subst he
  simp only [qgp,B0,reduceIte,reduceEqDiff]
  exact ⟨c58,pc0_1,v50,c51,by first | trivial | rfl,hv62,ph0_1,hv53,(Sep.m3 (Sep.m2 (Sep.m3 (Sep.m2 (Sep.dc (Sep.m3 hS60))))))⟩
 rw [iteF hc31] at hF3
 simp only [qt,ql,B0,reduceIte,reduceEqDiff]
 obtain ⟨c63,hv64,hS65⟩:=SlG.cls0 (c:=c6) (os:=c14++(c18)) hv9 rfl hx2 jp (Server.RI (x:=x1) hv15 hv19) (Sep.ni2 (c1:=c14) (c2:=c18) (Sep.m3 (Sep.m5
   (Sep.m5 hS30))))
 have hv66:=SlG.toN hv64
 have he:=qf hF3
 subst he
 simp only [qgp,B0,reduceIte,reduceEqDiff]
 exact ⟨c63,pc0_1,pv0_2,pc0_2,by first | trivial | rfl,hv66,ph0_1,ph0_2,(Sep.m3 (Sep.m2 (Sep.m3 (Sep.m3 hS65))))⟩
theorem qht {W:Nat→Bool}{h:Heap}{lo:Nat→Prop}{S0:List Obj} (hW:∀ b,
  lo b→W b=true) (pb0:Nat) (v_0:Election) (pv0_0:XV) (pc0_0:List Obj) (ph0_0:SlN Server.R 6 46 pv0_0 v_0.Servers pc0_0) (pv0_1:XV) (pc0_1:List Obj)
  (ph0_1:SlF Letter.cells 7 93 pv0_1 v_0.Post pc0_1) (pv0_2:XV) (pc0_2:List Obj) (ph0_2:SlF Vote.cells 2 39 pv0_2 v_0.Led pc0_2) (v_1:Int) (r:Bool × Election)
  (hF:xn v_0 v_1=some r) (hS:Sep h lo ([Blk1 pb0 [pv0_0,pv0_1,pv0_2] 31]++(pc0_0++(pc0_1++(pc0_2++(S0)))))) : Ret E W 94 [.ptr pb0 0,
  .int .i64 v_1] h (fun v h'=>∃ ic0_0 iv0_1 ic0_1 iv0_2 ic0_2,
  v = .bool r.1∧SlN Server.R 6 46 pv0_0 r.2.Servers ic0_0∧SlF Letter.cells 7 93 iv0_1 r.2.Post ic0_1∧SlF Vote.cells 2 39 iv0_2 r.2.Led ic0_2∧Sep h' lo ([Blk1 pb0 [pv0_0,
  iv0_1,iv0_2] 31]++(ic0_0++(ic0_1++(ic0_2++(S0)))))):=by
 refine Ret.of (fn:=x94) rfl (Run.of ?_)
 unfold xn at hF
 have zf0:qy [.ptr pb0 0,.int .i64 v_1] 0 = .ptr pb0 0:=rfl
 have zf1:qy [.ptr pb0 0,.int .i64 v_1] 1 = .int .i64 v_1:=rfl
 generalize qy [.ptr pb0 0,.int .i64 v_1]=fr0 at zf0 zf1 ⊢
 simp only [x94,qd,qc,qe,qa,qvx,zf0,uf,qb,zy,qn,Nat.reduceAdd,Nat.zero_add,Nat.add_zero,qx,qj,B0,
   reduceIte,reduceEqDiff]
 refine qh (v:=pv0_0) ((z9 (Sep.bk _ _ _ hS)).trans rfl) ?_
 obtain ⟨x1,hx2,hF3⟩:=qi hF
 simp only [zf1,qe,zt,B0,reduceIte,reduceEqDiff]
 obtain ⟨b4,hb5⟩:=SlN.isrow ph0_0 (yo hx2)
 refine qh (SlN.ia ph0_0 hb5 hx2) ?_
 obtain ⟨c6,cs7,os8,hv9,hR10,hS11⟩:=SlG.opn (SlN.toG ph0_0 hb5 Server.RO.len) hx2 jp Server.RO.len (Sep.m1 hS)
 obtain ⟨v13,c14,v17,c18,hv15,hv19,rfl,rfl⟩:=hR10
 have hS12:=Sep.no2 hS11
 simp only [qe,qa,qsp,qd,j5,ja,qp,kz,zy,jf,Nat.reduceAdd,Nat.zero_add,Nat.add_zero,qx,z8,B0,reduceIte,
   reduceEqDiff]
 refine q9 (v := .bool x1.Leads) ((SlG.ld (o:=3) hv9 rfl hx2 hS12 (Nat.le_of_ble_eq_true rfl)).trans rfl) ?_
 simp only [ja,qp,B0,reduceIte,reduceEqDiff]
 refine qfn 6 (fun fr' h'=>Sep h' lo ([Blk1 pb0 [pv0_0,pv0_1,
   pv0_2] 31]++(c6++(pc0_1++(pc0_2++(c14++(c18++(S0)))))))∧fr' 23 = .bool (x1.Leads||(decide
   (x1.Term=100)))∧fr' 0 = .ptr pb0 0∧fr' 1 = .int .i64 v_1∧fr' 5 = .ptr b4 (v_1.toNat*6)) rfl (fun Q21 hN22=>?_) ?_
 ·simp only [List.take_succ_cons,List.take_zero]
  simp only [zh (g:=17),B0,reduceIte,reduceEqDiff]
  refine yy (t:=x1.Leads) (fun hg23=>?_) (fun hg23=>?_)
  ·simp only [hg23,zh (g:=17),qcm,yl,qp,zp,zk,ql,B0,reduceIte,reduceEqDiff]
   exact hN22 _ _ ⟨(Sep.m5 (Sep.m4 (Sep.m5 (Sep.m5 (Sep.m2 (Sep.m2 hS12)))))),by rw [orT hg23]; simp only [B0,reduceIte,reduceEqDiff],zf0,zf1,rfl⟩
  ·simp only [hg23,zh (g:=17),jo,ja,qp,kz,zy,jf,Nat.reduceAdd,Nat.zero_add,Nat.add_zero,qx,z8,B0,reduceIte,
    reduceEqDiff]
   refine q9 (v := .int .i64 x1.Term) ((SlG.ld (o:=0) hv9 rfl hx2 hS12 (Nat.le_of_ble_eq_true rfl)).trans rfl) ?_
   simp only [hg23,zh (g:=17),jo,qbs,qp,yi,yl,zo,zk,ql,B0,reduceIte,reduceEqDiff]
   exact hN22 _ _ ⟨(Sep.m5 (Sep.m4 (Sep.m5 (Sep.m5 (Sep.m2 (Sep.m2 hS12)))))),by rw [orF hg23]; simp only [B0,reduceIte,reduceEqDiff],zf0,zf1,rfl⟩
 rintro fr24 h29 ⟨hS30,f25,f26,f27,f28⟩
 simp only [List.drop_succ_cons,List.drop_zero]
 simp only [f25,ja,qp,B0,reduceIte,reduceEqDiff]
 refine qfn 14 (fun fr' h'=>Sep h' lo ([Blk1 pb0 [pv0_0,pv0_1,
   pv0_2] 31]++(c6++(pc0_1++(pc0_2++(c14++(c18++(S0)))))))∧fr' 38 = .bool ((x1.Leads||(decide (x1.Term=100)))||(decide ((20:Int)<(IntKind.wrap .i64
   ((IntKind.wrap .i64 ((List.length v_0.Post:Int)+(List.length v_0.Servers:Int))) - 1)))))∧fr' 0 = .ptr pb0 0∧fr' 1 = .int .i64 v_1∧fr' 5 = .ptr b4
   (v_1.toNat*6)) rfl (fun Q31 hN32=>?_) ?_
 ·simp only [List.take_succ_cons,List.take_zero]
  simp only [zh (g:=24),B0,reduceIte,reduceEqDiff]
  refine yy (t:=(x1.Leads||(decide (x1.Term=100)))) (fun hg33=>?_) (fun hg33=>?_)
  ·simp only [hg33,zh (g:=24),qcm,yl,qp,zp,zk,ql,B0,reduceIte,reduceEqDiff]
   exact hN32 _ _ ⟨(Sep.m5 (Sep.m5 (Sep.m5 (Sep.m5 (Sep.m5 (Sep.m5 hS30)))))),by rw [orT hg33]; simp only [B0,reduceIte,reduceEqDiff],f26,f27,f28⟩
  ·simp only [hg33,zh (g:=24),jo,f26,ja,qp,kz,zy,jf,Nat.reduceAdd,Nat.zero_add,Nat.add_zero,qx,z8,B0,
    reduceIte,reduceEqDiff]
   refine q9 (v:=pv0_1) ((z9 (Sep.bk _ _ _ hS30)).trans rfl) ?_
   simp only [hg33,zh (g:=24),jo,qkx,qp,SlF.plen ph0_1,f26,ja,kz,zy,jf,Nat.reduceAdd,Nat.zero_add,Nat.add_zero,
     qx,z8,B0,reduceIte,reduceEqDiff]
   refine q9 (v:=pv0_0) ((z9 (Sep.bk _ _ _ hS30)).trans rfl) ?_
   simp only [hg33,zh (g:=24),jo,qkx,qp,SlG.plen hv9,qbs,j8,qcz,qby,yl,zo,zk,ql,B0,reduceIte,
     reduceEqDiff]
   exact hN32 _ _ ⟨(Sep.m5 (Sep.m5 (Sep.m5 (Sep.m5 (Sep.m5 (Sep.m5 hS30)))))),by rw [orF hg33]; simp only [B0,reduceIte,reduceEqDiff],f26,f27,f28⟩
 rintro fr34 h39 ⟨hS40,f35,f36,f37,f38⟩
 simp only [List.drop_succ_cons,List.drop_zero]
 simp only [zk,f35,qr,B0,reduceIte,reduceEqDiff]
 refine qq (t:=((x1.Leads||(decide (x1.Term=100)))||(decide ((20:Int)<(IntKind.wrap .i64 ((IntKind.wrap .i64 ((List.length v_0.Post:Int) +
   (List.length v_0.Servers:Int))) - 1)))))) (fun hc41=>?_) (fun hc41=>?_)
 ·rw [iteT hc41] at hF3
  simp only [qd,qc,qe,qa,qs,B0,reduceIte,reduceEqDiff]
  obtain ⟨c42,hv43,hS44⟩:=SlG.cls0 (c:=c6) (os:=c14++(c18)) hv9 rfl hx2 jp (Server.RI (x:=x1) hv15 hv19) (Sep.ni2 (c1:=c14) (c2:=c18) (Sep.m3 (Sep.m5
    (Sep.m5 hS40))))
  have hv45:=SlG.toN hv43
  have he:=qf hF3
  subst he
  simp only [qw,B0,reduceIte,reduceEqDiff]
  exact ⟨c42,pv0_1,pc0_1,pv0_2,pc0_2,by first | trivial | rfl,hv45,ph0_1,ph0_2,(Sep.m3 (Sep.m2 (Sep.m3 (Sep.m3 hS44))))⟩
 rw [iteF hc41] at hF3
 simp only [qt,qsz,qd,qc,f38,qe,uf,qb,zy,qn,Nat.reduceAdd,Nat.zero_add,Nat.add_zero,qx,qj,B0,reduceIte,
   reduceEqDiff]
 refine qh (v := .int .i64 x1.Term) ((SlG.ld (o:=0) hv9 rfl hx2 (Sep.m1 hS40) (Nat.le_of_ble_eq_true rfl)).trans rfl) ?_
 simp only [qm,qb,j8,uf,zy,qn,Nat.reduceAdd,Nat.zero_add,Nat.add_zero,qx,ze,B0,reduceIte,reduceEqDiff]
 refine k8 (n:=6) (us:=[.int .i64 (IntKind.wrap .i64 (x1.Term+1))]) (cs:=[.int .i64 x1.Term,.int .i64 x1.Voted,.bool x1.Stands,.bool x1.Leads,v13,
   v17]) (o:=0) (cs':=[.int .i64 (IntKind.wrap .i64 (x1.Term+1)),.int .i64 x1.Voted,.bool x1.Stands,.bool x1.Leads,v13,
   v17]) rfl hv9 rfl hx2 (Sep.m1 hS40) hW rfl rfl (Nat.le_of_ble_eq_true rfl) rfl (fun c48 h46 hv49 hS47=>?_)
 simp only [qa,qrp,qd,qc,f38,qe,uf,qb,zy,qn,Nat.reduceAdd,Nat.zero_add,Nat.add_zero,qx,ze,B0,reduceIte,
   reduceEqDiff]
 refine k8 (n:=6) (us:=[.bool true]) (cs:=[.int .i64 (IntKind.wrap .i64 (x1.Term+1)),.int .i64 x1.Voted,.bool x1.Stands,.bool x1.Leads,v13,
   v17]) (o:=2) (cs':=[.int .i64 (IntKind.wrap .i64 (x1.Term+1)),.int .i64 x1.Voted,.bool true,.bool x1.Leads,v13,
   v17]) rfl hv49 rfl hx2 hS47 hW rfl rfl (Nat.le_of_ble_eq_true rfl) rfl (fun c52 h50 hv53 hS51=>?_)
 simp only [qa,qtr,qd,qc,f38,qe,f37,uf,qb,zy,qn,Nat.reduceAdd,Nat.zero_add,Nat.add_zero,qx,ze,B0,
   reduceIte,reduceEqDiff]
 refine k8 (n:=6) (us:=[.int .i64 v_1]) (cs:=[.int .i64 (IntKind.wrap .i64 (x1.Term+1)),.int .i64 x1.Voted,.bool true,.bool x1.Leads,v13,
   v17]) (o:=1) (cs':=[.int .i64 (IntKind.wrap .i64 (x1.Term+1)),.int .i64 v_1,.bool true,.bool x1.Leads,v13,
   v17]) rfl hv53 rfl hx2 hS51 hW rfl rfl (Nat.le_of_ble_eq_true rfl) rfl (fun c56 h54 hv57 hS55=>?_)
 simp only [qa,q69,qd,qc,f38,qe,f37,yg,evp,B0,reduceIte,reduceEqDiff]
 refine k6 (n:=1) (f:=cI) [v_1] hS55 rfl rfl (fun v58 c59 h60 hv61 hS62=>?_)
 simp only [uf,qb,zy,qn,Nat.reduceAdd,Nat.zero_add,Nat.add_zero,qx,ze,B0,reduceIte,reduceEqDiff]
 refine k8 (n:=6) (us:=[v58]) (cs:=[.int .i64 (IntKind.wrap .i64 (x1.Term+1)),.int .i64 v_1,.bool true,.bool x1.Leads,v13,
   v17]) (o:=4) (cs':=[.int .i64 (IntKind.wrap .i64 (x1.Term+1)),.int .i64 v_1,.bool true,.bool x1.Leads,v58,
   v17]) (jl (SlF.one hv61)) hv57 rfl hx2 (Sep.m1 hS62) hW rfl (qo (SlF.one hv61) zn) (Nat.le_of_ble_eq_true rfl) rfl (fun c66 h64 hv67 hS65=>?_)
 simp only [qa,q5r,qd,qc,f36,qe,uf,qb,zy,qn,Nat.reduceAdd,Nat.zero_add,Nat.add_zero,qx,qj,B0,reduceIte,
   reduceEqDiff]
 refine qh (v:=pv0_0) ((z9 (Sep.bk _ _ _ (Sep.m2 hS65))).trans rfl) ?_
 simp only [zj,qb,SlG.plen hv67,qe,qa,B0,reduceIte,reduceEqDiff]
 obtain ⟨c68,hv69,hS70⟩:=SlG.cls (e':=(Server.mk (IntKind.wrap .i64 (x1.Term+1)) v_1 true x1.Leads [v_1] x1.Log)) (c:=c66) (os:=c59++(c18)) hv67 rfl hx2 jp
   (Server.RI (x:=(Server.mk (IntKind.wrap .i64 (x1.Term+1)) v_1 true x1.Leads [v_1] x1.Log)) hv61 hv19) (Sep.ni2 (c1:=c59) (c2:=c18) (Sep.m2 (Sep.m2 (Sep.m6 hS65))))
 have hx71:=jz (x':=(Server.mk (IntKind.wrap .i64 (x1.Term+1)) v_1 true x1.Leads [v_1] x1.Log)) hx2
 have hv72:=SlG.toN hv69
 obtain ⟨oc91,hX93,hk94⟩:=jm hF3
 simp only [q13]
 refine qog (σ:=Election × (List Server)) (fun i89 s157=>wg v_0 v_1 i89 s157.1 s157.2) (fun s fr' h'=>∃ v83 c84 c87,
   fr' 0 = .ptr pb0 0∧fr' 1 = .int .i64 v_1∧fr' 5 = .ptr b4 (v_1.toNat*6)∧SlF Letter.cells 7 93 v83 s.1.Post c84∧SlN Server.R 6 46 pv0_0 s.2 c87∧Sep h' lo
   ([Blk1 pb0 [pv0_0,v83,pv0_2] 31]++(c87++(c84++(pc0_2++(S0)))))) hX93 ⟨pv0_1,pc0_1,c68,f36,f37,f38,ph0_1,hv72,
   (Sep.m3 (Sep.m2 (Sep.m3 (Sep.m3 (Sep.dc (Sep.m4 hS70))))))⟩ (by simp only [B0,reduceIte,reduceEqDiff]) (by simp only [B0,reduceIte,
   reduceEqDiff]) (fun _ _ _ h=>h) rfl rfl (fun _ _ _ _ h=>h) (fun _ _ _ _ h=>h) (fun _ _ _ _ h=>h) (by decide) ?_ ?_
 ·rintro i89 ⟨s81,s86⟩ fr103 h104 hx109 ⟨v83,c84,c87,f106,f107,f108,hv85,hv88,hS105⟩ f110 f111 oc92 hF95 hr96 Q97 hN98 hB102 hK99 hR100 hE101
  dsimp only at *
  unfold wg at hF95
  simp only [q6y,qd,qc,f110,qe,qa,q7l,f107,qm,qb,yq,qzu,qr,B0,reduceIte,reduceEqDiff]
  refine qq (t:=(decide ((i89:Int)≠v_1))) (fun hc112=>?_) (fun hc112=>?_)
  ·rw [iteT hc112] at hF95
   simp only [q2f,j5,f106,qhb,qp,qn3,zy,qd0,Nat.reduceAdd,Nat.zero_add,Nat.add_zero,qx,qdd,B0,reduceIte,reduceEqDiff]
   refine qec (Sep.ltk hS105) ?_
   refine q9 (v:=v83) ((z9 (Sep.bk _ _ _ hS105)).trans rfl) ?_
   obtain ⟨kc,hx114,hF115⟩:=qi hF95
   obtain ⟨c116,cs117,os118,hv119,hR120,hS121⟩:=SlG.opn (SlN.toG hv88 hb5 Server.RO.len) hx114 jp Server.RO.len (Sep.m1 hS105)
   obtain ⟨v123,c124,v127,c128,hv125,hv129,rfl,rfl⟩:=hR120
   have hS122:=Sep.no2 hS121
   simp only [qhb,qp,f107,f108,qn3,zy,qd0,Nat.reduceAdd,Nat.zero_add,Nat.add_zero,qx,qdd,B0,reduceIte,reduceEqDiff]
   refine qec (SlN.ltk hv88 hb5 (Sep.m1 hS105)) ?_
   refine q9 (v := .int .i64 kc.Term) ((SlG.ld (o:=0) hv119 rfl hx114 hS122 (Nat.le_of_ble_eq_true rfl)).trans rfl) ?_
   simp only [f108,ja,qp,kz,zy,jf,Nat.reduceAdd,Nat.zero_add,Nat.add_zero,qx,z8,B0,reduceIte,reduceEqDiff]
   refine q9 (v:=v127) ((SlG.ld (o:=5) hv119 rfl hx114 hS122 (Nat.le_of_ble_eq_true rfl)).trans rfl) ?_
   obtain ⟨v131,hx132,hF133⟩:=qi hF115
   simp only [qhg,B0,reduceIte,reduceEqDiff]
   refine qrh rfl (qk (SlF.snap hv129 (Sep.m2 hS122) rfl (fun _=>rfl) (fun _=>rfl)) zd) (qd4 (fun b hb=>decide_eq_true hb) kc.Log v131 hx132) ?_
   simp only [f108,qhb,qp,qn3,zy,qd0,Nat.reduceAdd,Nat.zero_add,Nat.add_zero,qx,qdd,B0,reduceIte,reduceEqDiff]
   refine qec (SlN.ltk hv88 hb5 (Sep.m1 hS105)) ?_
   refine q9 (v:=v127) ((SlG.ld (o:=5) hv119 rfl hx114 hS122 (Nat.le_of_ble_eq_true rfl)).trans rfl) ?_
   simp only [que,qp,SlF.plen hv129,qbo,evp,B0,reduceIte,reduceEqDiff]
   refine q9 (v := .agg [.int .i64 (i89:Int),.int .i64 v_1,.int .i64 kc.Term,.bool true,.int .i64 v131,.int .i64 (List.length kc.Log:Int),
     .bool false]) rfl ?_
   simp only [w3,evp,B0,reduceIte,reduceEqDiff]
   refine qd7 (n:=7) (f:=Letter.cells) [(Letter.mk (i89:Int) v_1 kc.Term true v131 (List.length kc.Log:Int) false)] hS122 rfl rfl
     (fun v134 c135 h136 hv137 hS138=>?_)
   simp only [qcs,B0,reduceIte,reduceEqDiff]
   obtain ⟨l140,hx141,hF142⟩:=qi hF133
   refine wc (f:=Letter.cells) hv85 (Sep.m5 hS138) hW (fun _=>rfl) (fun _=>rfl) (SlF.first hv137 hS138 (fun _=>rfl)) hx141 (fun v143 c144 h145 hv146 hS147=>?_)
   simp only [kz,qp,zy,jf,Nat.reduceAdd,Nat.zero_add,Nat.add_zero,qx,qdk,B0,reduceIte,reduceEqDiff]
   refine w9 (us:=[v143]) (jl (SlF.one hv146)) (cs':=[pv0_0,v143,
     pv0_2]) (Sep.m5 hS147) hW rfl (qo (SlF.one hv146) zn) (Nat.le_of_ble_eq_true rfl) rfl (fun h149 hS150=>?_)
   simp only [zk,ql,B0,reduceIte,reduceEqDiff]
   obtain ⟨c151,hv152,hS153⟩:=SlG.cls0 (c:=c116) (os:=c124++(c128)) hv119 rfl hx114 jp (Server.RI (x:=kc) hv125 hv129) (Sep.ni2 (c1:=c124) (c2:=c128)
     (Sep.m5 (Sep.m5 (Sep.m5 hS150))))
   have hv154:=SlG.toN hv152
   have e155:=qf hF142
   exact hN98 _ _ _ e155.symm ⟨v143,c144,c151,f106,f107,f108,hv146,hv154,(Sep.m3 (Sep.m2 (Sep.m3 (Sep.m3 (Sep.dc (Sep.m3 hS153))))))⟩ (f110) (f111)
  rw [iteF hc112] at hF95
  simp only [qt,ql,B0,reduceIte,reduceEqDiff]
  have e156:=qf hF95
  exact hN98 _ _ _ e156.symm ⟨v83,c84,c87,f106,f107,f108,hv85,hv88,(Sep.m3 (Sep.m3 (Sep.m3 (Sep.m3 hS105))))⟩ (f110) (f111)
 rintro ⟨s158,s163⟩ fr166 h167 rfl ⟨v160,c161,c164,f169,f170,f171,hv162,hv165,hS168⟩
 dsimp only [jnO] at hk94
 dsimp only at *
 unfold qbj at hk94
 obtain ⟨v172,hx173,hF174⟩:=qi hk94
 simp only [q7w,qd,qc,f169,qe,f170,zb,B0,reduceIte,reduceEqDiff]
 refine x3 rfl (qcc hW pb0 (Election.mk s163 s158.Post v_0.Led) pv0_0 c164 hv165 v160 c161 hv162 pv0_2 pc0_2 ph0_2 v_1 v172 hx173 (Sep.m3 (Sep.m3 (Sep.m3
   (Sep.m3 hS168))))) ?_
 rintro _ h183 ⟨c175,c177,v179,c180,rfl,hv176,hv178,hv181,hS184⟩
 simp only [qa,qd,qc,qe,qs,B0,reduceIte,reduceEqDiff]
 have he:=qf hF174
 subst he
 simp only [qw,B0,reduceIte,reduceEqDiff]
 exact ⟨c175,v160,c177,v179,c180,by first | trivial | rfl,hv176,hv178,hv181,(Sep.m3 (Sep.m3 (Sep.m3 (Sep.m3 hS184))))⟩
theorem qhi {W:Nat→Bool}{h:Heap}{lo:Nat→Prop}{S0:List Obj} (hW:∀ b,
  lo b→W b=true) (pv0:XV) (pc0:List Obj) (s_0:List Letter) (ph0:SlF Letter.cells 7 93 pv0 s_0 pc0) (i_1:Int) (j_2:Int) (r:List Letter)
  (hF:u5 s_0 i_1 j_2=some r) (hS:Sep h lo (pc0++S0)) : Ret E W 95 [pv0,.int .i64 i_1,.int .i64 j_2] h (fun v h'=>∃ rv0 rc0,
  v=rv0∧SlF Letter.cells 7 93 rv0 r rc0∧Sep h' lo (rc0++S0)):=q93 (f:=Letter.cells) (n:=7) (ty:=93) (bytes:=56) (z:=[(.int .i64 0),(.int .i64 0),
  (.int .i64 0),(.bool false),(.int .i64 0),(.int .i64 0),(.bool false)]) rfl (fun _=>rfl) (fun _=>rfl) rfl rfl rfl hW ph0 hF hS
theorem qk6 {W:Nat→Bool}{h:Heap} (hW:∀ b,
  (geL h.length) b→W b=true) (last_0:Int) (long_1:Int) (b_2:List Int) (r:Bool) (hF:qcg last_0 long_1 b_2=some r) : Ret E W 57 [.int .i64 last_0,
  .int .i64 long_1,lst cI b_2] h (fun v h'=>cut h.length h' E.sz false 9 v=some (.bool r)):=by
 refine Ret.of (fn:=x57) rfl (Run.of ?_)
 unfold qcg at hF
 have zf0:qy [.int .i64 last_0,.int .i64 long_1,lst cI b_2] 0 = .int .i64 last_0:=rfl
 have zf1:qy [.int .i64 last_0,.int .i64 long_1,lst cI b_2] 1 = .int .i64 long_1:=rfl
 have zf2:qy [.int .i64 last_0,.int .i64 long_1,lst cI b_2] 2=lst cI b_2:=rfl
 generalize qy [.int .i64 last_0,.int .i64 long_1,lst cI b_2]=fr0 at zf0 zf1 zf2 ⊢
 have hS:Sep h (geL h.length) []:=Sep.nil h
 obtain ⟨v1,hx2,hF3⟩:=qi hF
 simp only [x57,qd,qc,qe,qa,q3r,zf0,zf2,zb,B0,reduceIte,reduceEqDiff]
 refine jg rfl (qk zx zd) (qd4 (fun b hb=>decide_eq_true hb) b_2 v1 hx2) ?_
 simp only [qm,qb,qby,qe,B0,reduceIte,reduceEqDiff]
 obtain ⟨v7,hx8,hF9⟩:=qi hF3
 refine jh 11 (fun fr' h'=>Sep h' (geL h.length) ([])∧fr' 22 = .bool v7) (fun Q4 hN5=>?_) ?_
 ·simp only [List.take_succ_cons,List.take_zero]
  simp only [qg (g:=11),B0,reduceIte,reduceEqDiff]
  refine zf (t:=(decide (v1<last_0))) (fun hg6=>?_) (fun hg6=>?_)
  ·rw [iteT hg6] at hx8
   simp only [hg6,qg (g:=11),zz,qg (g:=16),wt,qz,qb,zp,qa,ql,B0,reduceIte,reduceEqDiff]
   have e10:=qf hx8
   exact hN5 _ _ ⟨hS,by rw [←e10]; simp only [B0,reduceIte,reduceEqDiff]⟩
  ·rw [iteF hg6] at hx8
   obtain ⟨v11,hx12,hF13⟩:=qi hx8
   simp only [hg6,qg (g:=11),qv,zf0,qe,zf2,zb,B0,reduceIte,reduceEqDiff]
   refine jg rfl (qk zx zd) (qd4 (fun b hb=>decide_eq_true hb) b_2 v11 hx12) ?_
   simp only [hg6,qg (g:=11),qv,qm,qb,yi,qe,B0,reduceIte,reduceEqDiff]
   refine jh 5 (fun fr' h'=>Sep h' (geL h.length) ([])∧fr' 21 = .bool ((decide (last_0=v11))&&(decide ((List.length b_2:Int)≤long_1)))∧fr' 11 = .bool (decide
     (v1<last_0))) (fun Q14 hN15=>?_) ?_
   ·simp only [List.take_succ_cons,List.take_zero]
    simp only [qg (g:=16),B0,reduceIte,reduceEqDiff]
    refine zf (t:=(decide (last_0=v11))) (fun hg16=>?_) (fun hg16=>?_)
    ·simp only [hg16,qg (g:=16),zi,zf1,qe,zf2,zj,qb,zr,qm,qi6,hg6,qg (g:=11),qv,qz,
      zp,qa,ql,B0,reduceIte,reduceEqDiff]
     exact hN15 _ _ ⟨hS,by rw [qcb hg16]; simp only [B0,reduceIte,reduceEqDiff],by simp only [hg6,B0,reduceIte,reduceEqDiff]⟩
    ·simp only [hg16,qg (g:=16),kf,hg6,qg (g:=11),qv,qz,qb,zo,qa,ql,B0,reduceIte,reduceEqDiff]
     exact hN15 _ _ ⟨hS,by rw [qcd hg16]; simp only [B0,reduceIte,reduceEqDiff],by simp only [hg6,B0,reduceIte,reduceEqDiff]⟩
   rintro fr17 h20 ⟨hS21,f18,f19⟩
   simp only [List.drop_succ_cons,List.drop_zero]
   simp only [f19,hg6,qz,qb,zo,f18,qa,ql,B0,reduceIte,reduceEqDiff]
   have e22:=qf hF13
   exact hN5 _ _ ⟨hS21,by rw [←e22]; simp only [B0,reduceIte,reduceEqDiff]⟩
 rintro fr23 h25 ⟨hS26,f24⟩
 simp only [List.drop_succ_cons,List.drop_zero]
 simp only [f24,qe,qa,qs,B0,reduceIte,reduceEqDiff]
 have he:=qf hF9
 subst he
 simp only [qw,B0,reduceIte,reduceEqDiff]
 exact rfl
theorem qg9 {W:Nat→Bool}{h:Heap} (hW:∀ b,
  (geL h.length) b→W b=true) (x_0:Int) (r:Bool) (hF:some (yh x_0)=some r) : Ret E W 122 [.int .i64 x_0] h
  (fun v h'=>cut h.length h' E.sz false 9 v=some (.bool r)):=by
 refine Ret.of (fn:=qqj) rfl (Run.of ?_)
 unfold yh at hF
 have zf0:qy [.int .i64 x_0] 0 = .int .i64 x_0:=rfl
 generalize qy [.int .i64 x_0]=fr0 at zf0 ⊢
 have hS:Sep h (geL h.length) []:=Sep.nil h
 simp only [qqj,qd,qc,qe,qa,qt7,zf0,qm,qb,yq,qs,B0,reduceIte,reduceEqDiff]
 have he:=qf hF
 subst he
 simp only [qw,B0,reduceIte,reduceEqDiff]
 exact rfl
theorem ql1 {W:Nat→Bool}{h:Heap} (hW:∀ b,
  (geL h.length) b→W b=true) (x_0:Int) (y_1:Int) (r:Bool) (hF:some (qbr x_0 y_1)=some r) : Ret E W 118 [.int .i64 x_0,
  .int .i64 y_1] h (fun v h'=>cut h.length h' E.sz false 9 v=some (.bool r)):=by
 refine Ret.of (fn:=qqh) rfl (Run.of ?_)
 unfold qbr at hF
 have zf0:qy [.int .i64 x_0,.int .i64 y_1] 0 = .int .i64 x_0:=rfl
 have zf1:qy [.int .i64 x_0,.int .i64 y_1] 1 = .int .i64 y_1:=rfl
 generalize qy [.int .i64 x_0,.int .i64 y_1]=fr0 at zf0 zf1 ⊢
 have hS:Sep h (geL h.length) []:=Sep.nil h
 simp only [qqh,qd,qc,qe,qa,qrt,zf0,zb,B0,reduceIte,reduceEqDiff]
 refine jg rfl (qk za zd) (qg9 (fun b hb=>decide_eq_true hb) x_0 _ rfl) ?_
 simp only [qe,B0,reduceIte,reduceEqDiff]
 refine jh 4 (fun fr' h'=>Sep h' (geL h.length) ([])∧fr' 11 = .bool ((yh x_0)&&(!(yh y_1)))∧fr' 0 = .int .i64 x_0∧fr' 1 = .int .i64 y_1)
   (fun Q1 hN2=>?_) ?_
 ·simp only [List.take_succ_cons,List.take_zero]
  simp only [qg (g:=7),B0,reduceIte,reduceEqDiff]
  refine zf (t:=(yh x_0)) (fun hg3=>?_) (fun hg3=>?_)
  ·simp only [hg3,qg (g:=7),zi,zf1,qe,zb,B0,reduceIte,reduceEqDiff]
   refine jg rfl (qk za zd) (qg9 (fun b hb=>decide_eq_true hb) y_1 _ rfl) ?_
   simp only [hg3,qg (g:=7),zi,js,qb,kt,qz,zp,qa,ql,B0,reduceIte,reduceEqDiff]
   exact hN2 _ _ ⟨hS,by rw [qcb hg3]; simp only [B0,reduceIte,reduceEqDiff],zf0,zf1⟩
  ·simp only [hg3,qg (g:=7),kf,qz,qb,zo,qa,ql,B0,reduceIte,reduceEqDiff]
   exact hN2 _ _ ⟨hS,by rw [qcd hg3]; simp only [B0,reduceIte,reduceEqDiff],zf0,zf1⟩
 rintro fr4 h8 ⟨hS9,f5,f6,f7⟩
 simp only [List.drop_succ_cons,List.drop_zero]
 simp only [f5,qe,B0,reduceIte,reduceEqDiff]
 refine jh 4 (fun fr' h'=>Sep h' (geL h.length) ([])∧fr' 16 = .bool (((yh x_0)&&(!(yh y_1)))||(decide (x_0<y_1)))) (fun Q10 hN11=>?_) ?_
 ·simp only [List.take_succ_cons,List.take_zero]
  simp only [qg (g:=12),B0,reduceIte,reduceEqDiff]
  refine zf (t:=((yh x_0)&&(!(yh y_1)))) (fun hg12=>?_) (fun hg12=>?_)
  ·simp only [hg12,qg (g:=12),zz,qz,qb,zp,qa,ql,B0,reduceIte,reduceEqDiff]
   exact hN11 _ _ ⟨hS9,by rw [orT hg12]; simp only [B0,reduceIte,reduceEqDiff]⟩
  ·simp only [hg12,qg (g:=12),qv,f6,qe,f7,qm,qb,kr,qz,zo,qa,ql,B0,reduceIte,reduceEqDiff]
   exact hN11 _ _ ⟨hS9,by rw [orF hg12]; simp only [B0,reduceIte,reduceEqDiff]⟩
 rintro fr13 h15 ⟨hS16,f14⟩
 simp only [List.drop_succ_cons,List.drop_zero]
 simp only [f14,qe,qa,qs,B0,reduceIte,reduceEqDiff]
 have he:=qf hF
 subst he
 simp only [qw,B0,reduceIte,reduceEqDiff]
 exact rfl
theorem qfo {W:Nat→Bool}{h:Heap} (hW:∀ b,
  (geL h.length) b→W b=true) (x_0:Int) (r:Bool) (hF:some (y8 x_0)=some r) : Ret E W 119 [.int .i64 x_0] h
  (fun v h'=>cut h.length h' E.sz false 9 v=some (.bool r)):=by
 refine Ret.of (fn:=qql) rfl (Run.of ?_)
 unfold y8 at hF
 have zf0:qy [.int .i64 x_0] 0 = .int .i64 x_0:=rfl
 generalize qy [.int .i64 x_0]=fr0 at zf0 ⊢
 have hS:Sep h (geL h.length) []:=Sep.nil h
 simp only [qql,qd,qc,qe,qa,qs1,zf0,qm,qb,yq,qs,B0,reduceIte,reduceEqDiff]
 have he:=qf hF
 subst he
 simp only [qw,B0,reduceIte,reduceEqDiff]
 exact rfl
theorem qgf {W:Nat→Bool}{h:Heap} (hW:∀ b,
  (geL h.length) b→W b=true) (k:Nat) (x_0:List Int) (target_1:Int) (r:Int × Bool) (hF:yk k x_0 target_1=some r) : Ret E W 114 [lst cI x_0,
  .int .i64 target_1] h (fun v h'=>cut h.length h' E.sz false 9 v=some (.tup [.int .i64 r.1,.bool r.2])):=by
 refine Ret.of (fn:=qp2) rfl (Run.of ?_)
 unfold yk at hF
 have zf0:qy [lst cI x_0,.int .i64 target_1] 0=lst cI x_0:=rfl
 have zf1:qy [lst cI x_0,.int .i64 target_1] 1 = .int .i64 target_1:=rfl
 generalize qy [lst cI x_0,.int .i64 target_1]=fr0 at zf0 zf1 ⊢
 have hS:Sep h (geL h.length) []:=Sep.nil h
 simp only [qp2,qd,qc,qe,qa,qpo,zf0,zj,qb,zr,qrc,qv3,B0,reduceIte,reduceEqDiff]
 obtain ⟨oc7,hX9,hk10⟩:=jm hF
 simp only [qr3]
 refine yb (σ:=Int × Int) (fun s36=>yn x_0 target_1 s36.1 s36.2)
   (fun s fr' h'=>fr' 0=lst cI x_0∧fr' 1 = .int .i64 target_1∧fr' 6 = .int .i64 (List.length x_0:Int)∧fr' 7 = .int .i64 s.1∧fr' 8 = .int .i64 s.2∧Sep h'
   (geL h.length) ([])) hX9 ⟨zf0,zf1,rfl,rfl,rfl,hS⟩ (fun _ _ _ h=>h) ?_ ?_
 ·rintro ⟨s3,s4⟩ fr19 h20 ⟨f22,f23,f24,f25,f26,hS21⟩ oc8 hF11 hr12 Q13 hN14 hK15 hR16 hE17
  dsimp only at *
  unfold yn at hF11
  simp only [qun,qd,qc,f25,qe,f26,qm,qb,kr,qa,qr,B0,reduceIte,reduceEqDiff]
  refine qq (t:=(decide (s3<s4))) (fun hc28=>?_) (fun hc28=>?_)
  ·rw [iteT hc28] at hF11
   obtain ⟨x29,hx30,hF31⟩:=qi hF11
   simp only [qt,qu3,jq,qst,qd,qc,f25,qe,f26,qm,qb,j8,q82,zao,q8h (n:=1) (by decide),qa,
     qwm,f22,zt,B0,reduceIte,reduceEqDiff]
   refine qh (v := .ref (cI x29) 0) (je hx30 rfl) ?_
   simp only [qj,B0,reduceIte,reduceEqDiff]
   refine qh (v := .int .i64 x29) rfl ?_
   simp only [f23,qe,zb,B0,reduceIte,reduceEqDiff]
   refine jg rfl (qk za (qk za zd)) (ql1 (fun b hb=>decide_eq_true hb) x29 target_1 _ rfl) ?_
   simp only [qa,qw9,qr,B0,reduceIte,reduceEqDiff]
   refine qq (t:=(qbr x29 target_1)) (fun hc32=>?_) (fun hc32=>?_)
   ·rw [iteT hc32] at hF31
    simp only [qc,qe,qm,qb,j8,qa,kh,ql,B0,reduceIte,reduceEqDiff]
    have e33:=qf hF31
    exact hN14 _ _ _ e33.symm ⟨f22,f23,f24,rfl,f26,hS21⟩
   rw [iteF hc32] at hF31
   simp only [qc,qe,qa,kh,ql,B0,reduceIte,reduceEqDiff]
   have e34:=qf hF31
   exact hN14 _ _ _ e34.symm ⟨f22,f23,f24,f25,rfl,hS21⟩
  rw [iteF hc28] at hF11
  simp only [kg,ka,ky,B0,reduceIte,reduceEqDiff]
  have e35:=qf hF11
  exact hK15 _ _ _ e35.symm ⟨f22,f23,f24,f25,f26,hS21⟩
 rintro ⟨s37,s38⟩ fr39 h40 rfl ⟨f42,f43,f44,f45,f46,hS41⟩
 dsimp only [jnO] at hk10
 dsimp only at *
 unfold uk at hk10
 simp only [qub,qd,qc,f45,qe,f44,qm,qb,kr,B0,reduceIte,reduceEqDiff]
 obtain ⟨v50,hx51,hF52⟩:=qi hk10
 refine jh 18 (fun fr' h'=>Sep h' (geL h.length) ([])∧fr' 53 = .bool v50∧fr' 31 = .int .i64 s37) (fun Q47 hN48=>?_) ?_
 ·simp only [List.take_succ_cons,List.take_zero]
  simp only [qg (g:=35),B0,reduceIte,reduceEqDiff]
  refine zf (t:=(decide (s37<(List.length x_0:Int)))) (fun hg49=>?_) (fun hg49=>?_)
  ·rw [iteT hg49] at hx51
   obtain ⟨x53,hx54,hF55⟩:=qi hx51
   simp only [hg49,qg (g:=35),zi,f42,qe,f45,zt,B0,reduceIte,reduceEqDiff]
   refine qh (v := .ref (cI x53) 0) (je hx54 rfl) ?_
   simp only [hg49,qg (g:=35),zi,qj,B0,reduceIte,reduceEqDiff]
   refine qh (v := .int .i64 x53) rfl ?_
   simp only [hg49,qg (g:=35),zi,f43,qe,qm,qb,yi,B0,reduceIte,reduceEqDiff]
   obtain ⟨v59,hx60,hF61⟩:=qi hF55
   refine jh 10 (fun fr' h'=>Sep h' (geL h.length) ([])∧fr' 52 = .bool v59∧fr' 31 = .int .i64 s37∧fr' 35 = .bool (decide (s37<(List.length x_0:Int))))
     (fun Q56 hN57=>?_) ?_
   ·simp only [List.take_succ_cons,List.take_zero]
    simp only [qg (g:=42),B0,reduceIte,reduceEqDiff]
    refine zf (t:=(decide (x53=target_1))) (fun hg58=>?_) (fun hg58=>?_)
    ·rw [iteT hg58] at hx60
     simp only [hg58,qg (g:=42),zz,qg (g:=48),wt,hg49,qg (g:=35),zi,qz,qb,zp,qa,
       ql,B0,reduceIte,reduceEqDiff]
     have e62:=qf hx60
     exact hN57 _ _ ⟨hS41,by rw [←e62]; simp only [B0,reduceIte,reduceEqDiff],rfl,by simp only [hg49,B0,reduceIte,reduceEqDiff]⟩
    ·rw [iteF hg58] at hx60
     obtain ⟨x63,hx64,hF65⟩:=qi hx60
     simp only [hg58,qg (g:=42),qv,f42,qe,f45,zt,B0,reduceIte,reduceEqDiff]
     refine qh (v := .ref (cI x63) 0) (je hx64 rfl) ?_
     simp only [hg58,qg (g:=42),qv,qj,B0,reduceIte,reduceEqDiff]
     refine qh (v := .int .i64 x63) rfl ?_
     simp only [hg58,qg (g:=42),qv,zb,B0,reduceIte,reduceEqDiff]
     refine jg rfl (qk za zd) (qfo (fun b hb=>decide_eq_true hb) x63 _ rfl) ?_
     simp only [hg58,qg (g:=42),qv,qe,B0,reduceIte,reduceEqDiff]
     refine jh 3 (fun fr' h'=>Sep h' (geL h.length) ([])∧fr' 51 = .bool ((y8 x63) &&
       (y8 target_1))∧fr' 31 = .int .i64 s37∧fr' 35 = .bool (decide (s37<(List.length x_0:Int)))∧fr' 42 = .bool (decide (x53=target_1)))
       (fun Q66 hN67=>?_) ?_
     ·simp only [List.take_succ_cons,List.take_zero]
      simp only [qg (g:=48),B0,reduceIte,reduceEqDiff]
      refine zf (t:=(y8 x63)) (fun hg68=>?_) (fun hg68=>?_)
      ·simp only [hg68,qg (g:=48),zi,f43,qe,zb,B0,reduceIte,reduceEqDiff]
       refine jg rfl (qk za zd) (qfo (fun b hb=>decide_eq_true hb) target_1 _ rfl) ?_
       simp only [hg58,qg (g:=42),qv,hg68,qz,qb,zp,qa,ql,B0,reduceIte,reduceEqDiff]
       exact hN67 _ _ ⟨hS41,by rw [qcb hg68]; simp only [B0,reduceIte,reduceEqDiff],rfl,by simp only [hg49,B0,reduceIte,reduceEqDiff],by simp only [hg58,B0,
         reduceIte,reduceEqDiff]⟩
      ·simp only [hg68,qg (g:=48),kf,hg58,qg (g:=42),qv,qz,qb,zo,qa,ql,B0,reduceIte,
        reduceEqDiff]
       exact hN67 _ _ ⟨hS41,by rw [qcd hg68]; simp only [B0,reduceIte,reduceEqDiff],rfl,by simp only [hg49,B0,reduceIte,reduceEqDiff],by simp only [hg58,B0,
         reduceIte,reduceEqDiff]⟩
     rintro fr69 h74 ⟨hS75,f70,f71,f72,f73⟩
     simp only [List.drop_succ_cons,List.drop_zero]
     simp only [f72,hg49,qg (g:=35),zi,f73,hg58,qz,qb,zo,f70,qa,ql,B0,reduceIte,reduceEqDiff]
     have e76:=qf hF65
     exact hN57 _ _ ⟨hS75,by rw [←e76]; simp only [B0,reduceIte,reduceEqDiff],f71,by simp only [f72,hg49,B0,reduceIte,reduceEqDiff]⟩
   rintro fr77 h81 ⟨hS82,f78,f79,f80⟩
   simp only [List.drop_succ_cons,List.drop_zero]
   simp only [f80,hg49,qz,qb,zp,f78,qa,ql,B0,reduceIte,reduceEqDiff]
   have e83:=qf hF61
   exact hN48 _ _ ⟨hS82,by rw [←e83]; simp only [B0,reduceIte,reduceEqDiff],f79⟩
  ·rw [iteF hg49] at hx51
   simp only [hg49,qg (g:=35),kf,qg (g:=42),wt,qg (g:=48),qz,qb,zo,qa,ql,B0,reduceIte,
     reduceEqDiff]
   have e84:=qf hx51
   exact hN48 _ _ ⟨hS41,by rw [←e84]; simp only [B0,reduceIte,reduceEqDiff],rfl⟩
 rintro fr85 h88 ⟨hS89,f86,f87⟩
 simp only [List.drop_succ_cons,List.drop_zero]
 simp only [f87,qe,f86,qa,qs,B0,reduceIte,reduceEqDiff]
 have he:=qf hF52
 subst he
 simp only [qyi,B0,reduceIte,reduceEqDiff]
 exact q8q (qk rfl (qk rfl zd))
end Go.Proofs.Ytpddolihbnfahaa.X
namespace Go.Proofs.Ytpddolihbnfahaa.X
open Go
open Nat (reduceEqDiff)
theorem qig {W:Nat→Bool}{h:Heap}{lo:Nat→Prop}{S0:List Obj} (hW:∀ b,
  lo b→W b=true) (k:Nat) (pb0:Nat) (v_0:Election) (pv0_0:XV) (pc0_0:List Obj) (ph0_0:SlN Server.R 6 46 pv0_0 v_0.Servers pc0_0) (pv0_1:XV) (pc0_1:List Obj)
  (ph0_1:SlF Letter.cells 7 93 pv0_1 v_0.Post pc0_1) (pv0_2:XV) (pc0_2:List Obj) (ph0_2:SlF Vote.cells 2 39 pv0_2 v_0.Led pc0_2) (v_1:Letter) (r:Election)
  (hF:x4 k v_0 v_1=some r) (hS:Sep h lo ([Blk1 pb0 [pv0_0,pv0_1,pv0_2] 31]++(pc0_0++(pc0_1++(pc0_2++(S0)))))) : Ret E W 96 [.ptr pb0 0,
  .agg [.int .i64 v_1.To,.int .i64 v_1.From,.int .i64 v_1.Term,.bool v_1.Asks,.int .i64 v_1.Last,.int .i64 v_1.Long,
  .bool v_1.Grant]] h (fun v h'=>∃ ic0_0 iv0_1 ic0_1 iv0_2 ic0_2,
  v = .tup []∧SlN Server.R 6 46 pv0_0 r.Servers ic0_0∧SlF Letter.cells 7 93 iv0_1 r.Post ic0_1∧SlF Vote.cells 2 39 iv0_2 r.Led ic0_2∧Sep h' lo ([Blk1 pb0 [pv0_0,iv0_1,
  iv0_2] 31]++(ic0_0++(ic0_1++(ic0_2++(S0)))))):=by
 refine Ret.of (fn:=x96) rfl (Run.of ?_)
 unfold x4 at hF
 have zf0:qy [.ptr pb0 0,.agg [.int .i64 v_1.To,.int .i64 v_1.From,.int .i64 v_1.Term,.bool v_1.Asks,.int .i64 v_1.Last,.int .i64 v_1.Long,
   .bool v_1.Grant]] 0 = .ptr pb0 0:=rfl
 have zf1:qy [.ptr pb0 0,.agg [.int .i64 v_1.To,.int .i64 v_1.From,.int .i64 v_1.Term,.bool v_1.Asks,.int .i64 v_1.Last,.int .i64 v_1.Long,
   .bool v_1.Grant]] 1 = .agg [.int .i64 v_1.To,.int .i64 v_1.From,.int .i64 v_1.Term,.bool v_1.Asks,.int .i64 v_1.Last,.int .i64 v_1.Long,.bool v_1.Grant]:=rfl
 generalize qy [.ptr pb0 0,.agg [.int .i64 v_1.To,.int .i64 v_1.From,.int .i64 v_1.Term,.bool v_1.Asks,.int .i64 v_1.Last,.int .i64 v_1.Long,
   .bool v_1.Grant]]=fr0 at zf0 zf1 ⊢
 simp only [x96,qd,qc,kx,zf1,B0,reduceIte,reduceEqDiff]
 refine ju (cs:=[.int .i64 v_1.To,.int .i64 v_1.From,.int .i64 v_1.Term,.bool v_1.Asks,.int .i64 v_1.Last,.int .i64 v_1.Long,
   .bool v_1.Grant]) hS rfl rfl rfl (fun b1 h2 hS3=>?_)
 simp only [qa,B0,reduceIte,reduceEqDiff]
 refine jd hS3 hW (by simp only [B0,reduceIte,reduceEqDiff]) (fun h5 hS6=>?_)
 simp only [jc,qs6,qd,j5,zf0,ja,qp,kz,zy,jf,Nat.reduceAdd,Nat.zero_add,Nat.add_zero,qx,z8,B0,reduceIte,
   reduceEqDiff]
 refine q9 (v:=pv0_0) ((z9 (Sep.bk _ _ _ hS6)).trans rfl) ?_
 simp only [jf,qp,Nat.reduceAdd,Nat.zero_add,Nat.add_zero,qu,z8,B0,reduceIte,reduceEqDiff]
 refine q9 (v := .int .i64 v_1.To) rfl ?_
 obtain ⟨x7,hx8,hF9⟩:=qi hF
 simp only [qbq,B0,reduceIte,reduceEqDiff]
 obtain ⟨b10,hb11⟩:=SlN.isrow ph0_0 (yo hx8)
 refine q9 (SlN.ia ph0_0 hb11 hx8) ?_
 simp only [ja,qp,zk,qwc,qd,j5,jf,Nat.reduceAdd,Nat.zero_add,Nat.add_zero,qu,z8,B0,reduceIte,reduceEqDiff]
 refine q9 (v := .int .i64 v_1.Term) rfl ?_
 obtain ⟨c12,cs13,os14,hv15,hR16,hS17⟩:=SlG.opn (SlN.toG ph0_0 hb11 Server.RO.len) hx8 jp Server.RO.len (Sep.m1 hS6)
 obtain ⟨v19,c20,v23,c24,hv21,hv25,rfl,rfl⟩:=hR16
 have hS18:=Sep.no2 hS17
 simp only [ja,qp,kz,zy,jf,Nat.reduceAdd,Nat.zero_add,Nat.add_zero,qx,z8,B0,reduceIte,reduceEqDiff]
 refine q9 (v := .int .i64 x7.Term) ((SlG.ld (o:=0) hv15 rfl hx8 hS18 (Nat.le_of_ble_eq_true rfl)).trans rfl) ?_
 simp only [qbs,qp,qby,zk,q0g,qr,B0,reduceIte,reduceEqDiff]
 obtain ⟨c27,hv28,hS29⟩:=SlG.cls0 (c:=c12) (os:=c20++(c24)) hv15 rfl hx8 jp (Server.RI (x:=x7) hv21 hv25) (Sep.ni2 (c1:=c20) (c2:=c24) (Sep.m2 (Sep.m2
   (Sep.m2 hS18))))
 have hv30:=SlG.toN hv28
 obtain ⟨s31,hX35,hk36⟩:=qi hF9
 refine qdu (t:=(decide (x7.Term<v_1.Term))) (fun fr' h'=>∃ c32,fr' 0 = .ptr pb0 0∧fr' 3 = .ref [.int .i64 v_1.To,.int .i64 v_1.From,.int .i64 v_1.Term,
   .bool v_1.Asks,.int .i64 v_1.Last,.int .i64 v_1.Long,
   .bool v_1.Grant] 0∧fr' 4 = .ptr b10 (v_1.To.toNat*6)∧SlN Server.R 6 46 pv0_0 s31 c32∧Sep h' lo ([Blk1 pb0 [pv0_0,pv0_1,
   pv0_2] 31]++(c32++(pc0_1++(pc0_2++(S0)))))) (fun Q37 hN38 hR39 hE40=>⟨fun hc41=>?_,fun hc41=>?_⟩) ?_
 ·rw [iteT hc41] at hX35
  simp only [q5p,j5,ja,qp,jf,Nat.reduceAdd,Nat.zero_add,Nat.add_zero,qu,z8,B0,reduceIte,reduceEqDiff]
  refine q9 (v := .int .i64 v_1.Term) rfl ?_
  obtain ⟨c42,cs43,os44,hv45,hR46,hS47⟩:=SlG.opn (SlN.toG hv30 hb11 Server.RO.len) hx8 jp Server.RO.len hS29
  obtain ⟨v49,c50,v53,c54,hv51,hv55,rfl,rfl⟩:=hR46
  have hS48:=Sep.no2 hS47
  simp only [ja,qp,kz,zy,jf,Nat.reduceAdd,Nat.zero_add,Nat.add_zero,qx,z8,B0,reduceIte,reduceEqDiff]
  refine q9 (v:=v53) ((SlG.ld (o:=5) hv45 rfl hx8 hS48 (Nat.le_of_ble_eq_true rfl)).trans rfl) ?_
  simp only [qbo,evp,B0,reduceIte,reduceEqDiff]
  refine q9 (v := .agg [.int .i64 v_1.Term,.int .i64 (-1),.bool false,.bool false,.nil,
    v53]) (qdr (qa8 (us:=[.int .i64 v_1.Term]) (vs:=[.int .i64 v_1.Term,.int .i64 0,.bool false,.bool false,.nil,
    .nil]) rfl rfl (Nat.le_of_ble_eq_true rfl) rfl rfl (qa8 (us:=[.int .i64 (-1)]) (vs:=[.int .i64 v_1.Term,.int .i64 (-1),.bool false,.bool false,.nil,
    .nil]) rfl rfl (Nat.le_of_ble_eq_true rfl) rfl rfl (qa8 (us:=[v53]) (vs:=[.int .i64 v_1.Term,.int .i64 (-1),.bool false,.bool false,.nil,
    v53]) (jl (SlF.one hv55)) rfl (Nat.le_of_ble_eq_true rfl) (qo (SlF.one hv55) zn) rfl qgc)))) ?_
  simp only [kz,qp,zy,qdk,B0,reduceIte,reduceEqDiff]
  refine qku (n:=6) (us:=[.int .i64 v_1.Term,.int .i64 (-1),.bool false,.bool false,.nil,v53]) (cs:=[.int .i64 x7.Term,.int .i64 x7.Voted,.bool x7.Stands,
    .bool x7.Leads,v49,v53]) (o:=0) (cs':=[.int .i64 v_1.Term,.int .i64 (-1),.bool false,.bool false,.nil,
    v53]) rfl hv45 rfl hx8 hS48 hW rfl (qo rfl (qo rfl (qo rfl (qo rfl (qo rfl (qo (SlF.one hv55) zn)))))) (Nat.le_of_ble_eq_true rfl) rfl
    (fun c59 h57 hv60 hS58=>?_)
  simp only [zk,ql,B0,reduceIte,reduceEqDiff]
  obtain ⟨c61,hv62,hS63⟩:=SlG.cls (e':=(Server.mk v_1.Term (-1) false false [] x7.Log)) (c:=c59) (os:=[]++(c54)) hv60 rfl hx8 jp (Server.RI (x :=
    (Server.mk v_1.Term (-1) false false [] x7.Log)) SlF.nil hv55) (Sep.ni2 (c1:=[]) (c2:=c54) (S:=(c50++([Blk1 pb0 [pv0_0,pv0_1,
    pv0_2] 31]++(pc0_1++(pc0_2++(S0)))))) ((Sep.m1 (Sep.m2 hS58)) : Sep _ lo (c59++(c54++(c50++([Blk1 pb0 [pv0_0,pv0_1,
    pv0_2] 31]++(pc0_1++(pc0_2++(S0)))))))))
  have hx64:=jz (x':=(Server.mk v_1.Term (-1) false false [] x7.Log)) hx8
  have hv65:=SlG.toN hv62
  have e66:=qf hX35
  subst e66
  exact hN38 _ _ ⟨c61,zf0,rfl,rfl,hv65,(Sep.m3 (Sep.m2 (Sep.m3 (Sep.m3 (Sep.dc (Sep.m1 hS63))))))⟩
 ·rw [iteF hc41] at hX35
  simp only [qt,ql,B0,reduceIte,reduceEqDiff]
  have e67:=qf hX35
  subst e67
  exact hN38 _ _ ⟨c27,zf0,rfl,rfl,hv30,(Sep.m3 (Sep.m2 (Sep.m3 (Sep.m3 hS29))))⟩
 rintro fr68 h69 ⟨c32,f71,f72,f73,hv33,hS70⟩
 unfold qb7 at hk36
 simp only [qvd,qd,qc,f72,qn,qb,Nat.reduceAdd,Nat.zero_add,Nat.add_zero,qu,qj,B0,reduceIte,reduceEqDiff]
 refine qh (v := .bool v_1.Asks) rfl ?_
 simp only [qa,q5x,qr,B0,reduceIte,reduceEqDiff]
 refine qq (t:=v_1.Asks) (fun hc74=>?_) (fun hc74=>?_)
 ·rw [iteT hc74] at hk36
  simp only [qz7,qd,j5,f72,jf,qp,Nat.reduceAdd,Nat.zero_add,Nat.add_zero,qu,z8,B0,reduceIte,reduceEqDiff]
  refine q9 (v := .int .i64 v_1.Term) rfl ?_
  obtain ⟨x75,hx76,hF77⟩:=qi hk36
  obtain ⟨c78,cs79,os80,hv81,hR82,hS83⟩:=SlG.opn (SlN.toG hv33 hb11 Server.RO.len) hx76 jp Server.RO.len (Sep.m1 hS70)
  obtain ⟨v85,c86,v89,c90,hv87,hv91,rfl,rfl⟩:=hR82
  have hS84:=Sep.no2 hS83
  simp only [f73,ja,qp,kz,zy,jf,Nat.reduceAdd,Nat.zero_add,Nat.add_zero,qx,z8,B0,reduceIte,reduceEqDiff]
  refine q9 (v := .int .i64 x75.Term) ((SlG.ld (o:=0) hv81 rfl hx76 hS84 (Nat.le_of_ble_eq_true rfl)).trans rfl) ?_
  simp only [qbs,qp,yi,ja,B0,reduceIte,reduceEqDiff]
  refine qfn 15 (fun fr' h'=>Sep h' lo ([Blk1 pb0 [pv0_0,pv0_1,
    pv0_2] 31]++(c78++(pc0_1++(pc0_2++(c86++(c90++(S0)))))))∧fr' 55 = .bool ((decide (v_1.Term=x75.Term))&&((decide (x75.Voted=(-1)))||(decide
    (x75.Voted=v_1.From))))∧fr' 0 = .ptr pb0 0∧fr' 3 = .ref [.int .i64 v_1.To,.int .i64 v_1.From,.int .i64 v_1.Term,.bool v_1.Asks,.int .i64 v_1.Last,
    .int .i64 v_1.Long,.bool v_1.Grant] 0∧fr' 4 = .ptr b10 (v_1.To.toNat*6)) rfl (fun Q93 hN94=>?_) ?_
  ·simp only [List.take_succ_cons,List.take_zero]
   simp only [zh (g:=40),B0,reduceIte,reduceEqDiff]
   refine yy (t:=(decide (v_1.Term=x75.Term))) (fun hg95=>?_) (fun hg95=>?_)
   ·simp only [hg95,zh (g:=40),yc,f73,ja,qp,kz,zy,jf,Nat.reduceAdd,Nat.zero_add,Nat.add_zero,qx,z8,B0,
     reduceIte,reduceEqDiff]
    refine q9 (v := .int .i64 x75.Voted) ((SlG.ld (o:=1) hv81 rfl hx76 hS84 (Nat.le_of_ble_eq_true rfl)).trans rfl) ?_
    simp only [hg95,zh (g:=40),yc,qbs,qp,yi,ja,B0,reduceIte,reduceEqDiff]
    refine qfn 8 (fun fr' h'=>Sep h' lo ([Blk1 pb0 [pv0_0,pv0_1,
      pv0_2] 31]++(c78++(pc0_1++(pc0_2++(c86++(c90++(S0)))))))∧fr' 54 = .bool ((decide (x75.Voted=(-1)))||(decide
      (x75.Voted=v_1.From)))∧fr' 0 = .ptr pb0 0∧fr' 3 = .ref [.int .i64 v_1.To,.int .i64 v_1.From,.int .i64 v_1.Term,.bool v_1.Asks,.int .i64 v_1.Last,
      .int .i64 v_1.Long,.bool v_1.Grant] 0∧fr' 4 = .ptr b10 (v_1.To.toNat*6)∧fr' 40 = .bool (decide (v_1.Term=x75.Term))) rfl (fun Q96 hN97=>?_) ?_
    ·simp only [List.take_succ_cons,List.take_zero]
     simp only [zh (g:=46),B0,reduceIte,reduceEqDiff]
     refine yy (t:=(decide (x75.Voted=(-1)))) (fun hg98=>?_) (fun hg98=>?_)
     ·simp only [hg98,zh (g:=46),qcm,hg95,zh (g:=40),yc,yl,qp,zp,zk,ql,B0,reduceIte,
       reduceEqDiff]
      exact hN97 _ _ ⟨(Sep.m5 (Sep.m4 (Sep.m5 (Sep.m5 (Sep.m2 (Sep.m2 hS84)))))),by rw [orT hg98]; simp only [B0,reduceIte,reduceEqDiff],f71,f72,f73,
        by simp only [hg95,B0,reduceIte,reduceEqDiff]⟩
     ·simp only [hg98,zh (g:=46),jo,f73,ja,qp,kz,zy,jf,Nat.reduceAdd,Nat.zero_add,Nat.add_zero,qx,z8,B0,
       reduceIte,reduceEqDiff]
      refine q9 (v := .int .i64 x75.Voted) ((SlG.ld (o:=1) hv81 rfl hx76 hS84 (Nat.le_of_ble_eq_true rfl)).trans rfl) ?_
      simp only [hg98,zh (g:=46),jo,f72,jf,qp,Nat.reduceAdd,Nat.zero_add,Nat.add_zero,qu,z8,B0,reduceIte,reduceEqDiff]
      refine q9 (v := .int .i64 v_1.From) rfl ?_
      simp only [hg98,zh (g:=46),jo,qbs,qp,yi,hg95,zh (g:=40),yc,yl,zo,zk,ql,B0,
        reduceIte,reduceEqDiff]
      exact hN97 _ _ ⟨(Sep.m5 (Sep.m4 (Sep.m5 (Sep.m5 (Sep.m2 (Sep.m2 hS84)))))),by rw [orF hg98]; simp only [B0,reduceIte,reduceEqDiff],f71,f72,f73,
        by simp only [hg95,B0,reduceIte,reduceEqDiff]⟩
    rintro fr99 h105 ⟨hS106,f100,f101,f102,f103,f104⟩
    simp only [List.drop_succ_cons,List.drop_zero]
    simp only [f104,hg95,yl,qp,zp,f100,zk,ql,B0,reduceIte,reduceEqDiff]
    exact hN94 _ _ ⟨(Sep.m5 (Sep.m5 (Sep.m5 (Sep.m5 (Sep.m5 (Sep.m5 hS106)))))),by rw [qcb hg95]; simp only [B0,reduceIte,reduceEqDiff],f101,f102,f103⟩
   ·simp only [hg95,zh (g:=40),qee,zh (g:=46),qq5,yl,qp,zo,zk,ql,B0,reduceIte,reduceEqDiff]
    exact hN94 _ _ ⟨(Sep.m5 (Sep.m4 (Sep.m5 (Sep.m5 (Sep.m2 (Sep.m2 hS84)))))),by rw [qcd hg95]; simp only [B0,reduceIte,reduceEqDiff],f71,f72,f73⟩
  rintro fr107 h112 ⟨hS113,f108,f109,f110,f111⟩
  simp only [List.drop_succ_cons,List.drop_zero]
  simp only [f108,ja,qp,B0,reduceIte,reduceEqDiff]
  simp only [zh (g:=56),B0,reduceIte,reduceEqDiff]
  refine yy (t:=((decide (v_1.Term=x75.Term))&&((decide (x75.Voted=(-1)))||(decide (x75.Voted=v_1.From))))) (fun hg114=>?_) (fun hg114=>?_)
  ·rw [iteT hg114] at hF77
   simp only [hg114,zh (g:=56),yc,f110,jf,qp,Nat.reduceAdd,Nat.zero_add,Nat.add_zero,qu,z8,B0,reduceIte,reduceEqDiff]
   refine q9 (v := .int .i64 v_1.Last) rfl ?_
   simp only [hg114,zh (g:=56),yc,f110,jf,qp,Nat.reduceAdd,Nat.zero_add,Nat.add_zero,qu,z8,B0,reduceIte,reduceEqDiff]
   refine q9 (v := .int .i64 v_1.Long) rfl ?_
   simp only [hg114,zh (g:=56),yc,f111,ja,qp,kz,zy,jf,Nat.reduceAdd,Nat.zero_add,Nat.add_zero,qx,z8,B0,
     reduceIte,reduceEqDiff]
   refine q9 (v:=v89) ((SlG.ld (o:=5) hv81 rfl hx76 (Sep.m1 hS113) (Nat.le_of_ble_eq_true rfl)).trans rfl) ?_
   obtain ⟨v115,hx116,hF117⟩:=qi hF77
   simp only [hg114,zh (g:=56),yc,wa,B0,reduceIte,reduceEqDiff]
   refine qds rfl (qk za (qk za (qk (SlF.snap hv91 (Sep.m5 hS113) rfl (fun _=>rfl) (fun _=>rfl)) zd))) (qk6
     (fun b hb=>decide_eq_true hb) v_1.Last v_1.Long x75.Log v115 hx116) ?_
   simp only [hg114,yl,qp,zp,ja,zk,qq4,qd,qc,qe,qa,qp4,qr,B0,reduceIte,reduceEqDiff]
   obtain ⟨c118,hv119,hS120⟩:=SlG.cls0 (c:=c78) (os:=c86++(c90)) hv81 rfl hx76 jp (Server.RI (x:=x75) hv87 hv91) (Sep.ni2 (c1:=c86) (c2:=c90) (Sep.m3
     (Sep.m5 (Sep.m5 hS113))))
   have hv121:=SlG.toN hv119
   obtain ⟨s122,hX126,hk127⟩:=qi hF117
   refine qdu (t:=v115) (fun fr' h'=>∃ c123,fr' 0 = .ptr pb0 0∧fr' 3 = .ref [.int .i64 v_1.To,.int .i64 v_1.From,.int .i64 v_1.Term,.bool v_1.Asks,
     .int .i64 v_1.Last,.int .i64 v_1.Long,
     .bool v_1.Grant] 0∧fr' 4 = .ptr b10 (v_1.To.toNat*6)∧fr' 5 = .bool v115∧SlN Server.R 6 46 pv0_0 s122 c123∧Sep h' lo ([Blk1 pb0 [pv0_0,pv0_1,
     pv0_2] 31]++(c123++(pc0_1++(pc0_2++(S0)))))) (fun Q128 hN129 hR130 hE131=>⟨fun hc132=>?_,fun hc132=>?_⟩) ?_
   ·rw [iteT hc132] at hX126
    simp only [q65,qc,f111,qe,f110,qn,qb,Nat.reduceAdd,Nat.zero_add,Nat.add_zero,qu,qj,B0,reduceIte,reduceEqDiff]
    refine qh (v := .int .i64 v_1.From) rfl ?_
    obtain ⟨c135,cs136,os137,hv138,hR139,hS140⟩:=SlG.opn (SlN.toG hv121 hb11 Server.RO.len) hx76 jp Server.RO.len hS120
    obtain ⟨v142,c143,v146,c147,hv144,hv148,rfl,rfl⟩:=hR139
    have hS141:=Sep.no2 hS140
    simp only [uf,qb,zy,qn,Nat.reduceAdd,Nat.zero_add,Nat.add_zero,qx,ze,B0,reduceIte,reduceEqDiff]
    refine k8 (n:=6) (us:=[.int .i64 v_1.From]) (cs:=[.int .i64 x75.Term,.int .i64 x75.Voted,.bool x75.Stands,.bool x75.Leads,v142,
      v146]) (o:=1) (cs':=[.int .i64 x75.Term,.int .i64 v_1.From,.bool x75.Stands,.bool x75.Leads,v142,
      v146]) rfl hv138 rfl hx76 hS141 hW rfl rfl (Nat.le_of_ble_eq_true rfl) rfl (fun c150 h133 hv151 hS134=>?_)
    simp only [qa,ql,B0,reduceIte,reduceEqDiff]
    obtain ⟨c152,hv153,hS154⟩:=SlG.cls (e':=(Server.mk x75.Term v_1.From x75.Stands x75.Leads x75.Got x75.Log)) (c:=c150) (os:=c143++(c147)) hv151 rfl hx76 jp
      (Server.RI (x:=(Server.mk x75.Term v_1.From x75.Stands x75.Leads x75.Got x75.Log)) hv144 hv148) (Sep.ni2 (c1:=c143) (c2:=c147) (Sep.m2 (Sep.m2 (Sep.m2 hS134))))
    have hx155:=jz (x':=(Server.mk x75.Term v_1.From x75.Stands x75.Leads x75.Got x75.Log)) hx76
    have hv156:=SlG.toN hv153
    have e157:=qf hX126
    subst e157
    exact hN129 _ _ ⟨c152,f109,f110,f111,rfl,hv156,(Sep.m3 (Sep.m2 (Sep.m3 (Sep.m3 hS154))))⟩
   ·rw [iteF hc132] at hX126
    simp only [qt,ql,B0,reduceIte,reduceEqDiff]
    have e158:=qf hX126
    subst e158
    exact hN129 _ _ ⟨c118,f109,f110,f111,rfl,hv121,(Sep.m3 (Sep.m2 (Sep.m3 (Sep.m3 hS120))))⟩
   rintro fr159 h160 ⟨c123,f162,f163,f164,f165,hv124,hS161⟩
   unfold ub at hk127
   simp only [qqx,qd,j5,f162,qhb,qp,ja,kz,zy,jf,Nat.reduceAdd,Nat.zero_add,Nat.add_zero,qx,z8,B0,reduceIte,
     reduceEqDiff]
   refine q9 (v:=pv0_1) ((z9 (Sep.bk _ _ _ hS161)).trans rfl) ?_
   simp only [f163,jf,qp,Nat.reduceAdd,Nat.zero_add,Nat.add_zero,qu,z8,B0,reduceIte,reduceEqDiff]
   refine q9 (v := .int .i64 v_1.From) rfl ?_
   simp only [f163,jf,qp,Nat.reduceAdd,Nat.zero_add,Nat.add_zero,qu,z8,B0,reduceIte,reduceEqDiff]
   refine q9 (v := .int .i64 v_1.To) rfl ?_
   obtain ⟨x166,hx167,hF168⟩:=qi hk127
   obtain ⟨c169,cs170,os171,hv172,hR173,hS174⟩:=SlG.opn (SlN.toG hv124 hb11 Server.RO.len) hx167 jp Server.RO.len (Sep.m1 hS161)
   obtain ⟨v176,c177,v180,c181,hv178,hv182,rfl,rfl⟩:=hR173
   have hS175:=Sep.no2 hS174
   simp only [f164,ja,qp,kz,zy,jf,Nat.reduceAdd,Nat.zero_add,Nat.add_zero,qx,z8,B0,reduceIte,reduceEqDiff]
   refine q9 (v := .int .i64 x166.Term) ((SlG.ld (o:=0) hv172 rfl hx167 hS175 (Nat.le_of_ble_eq_true rfl)).trans rfl) ?_
   simp only [f165,ja,qp,qbo,evp,B0,reduceIte,reduceEqDiff]
   refine q9 (v := .agg [.int .i64 v_1.From,.int .i64 v_1.To,.int .i64 x166.Term,.bool false,.int .i64 0,.int .i64 0,.bool v115]) rfl ?_
   simp only [w3,evp,B0,reduceIte,reduceEqDiff]
   refine qd7 (n:=7) (f:=Letter.cells) [(Letter.mk v_1.From v_1.To x166.Term false 0 0 v115)] hS175 rfl rfl (fun v184 c185 h186 hv187 hS188=>?_)
   simp only [qcs,B0,reduceIte,reduceEqDiff]
   obtain ⟨l190,hx191,hF192⟩:=qi hF168
   refine wc (f:=Letter.cells) ph0_1 (Sep.m5 hS188) hW (fun _=>rfl) (fun _=>rfl) (SlF.first hv187 hS188 (fun _=>rfl)) hx191
     (fun v193 c194 h195 hv196 hS197=>?_)
   simp only [kz,qp,zy,jf,Nat.reduceAdd,Nat.zero_add,Nat.add_zero,qx,qdk,B0,reduceIte,reduceEqDiff]
   refine w9 (us:=[v193]) (jl (SlF.one hv196)) (cs':=[pv0_0,v193,
     pv0_2]) (Sep.m5 hS197) hW rfl (qo (SlF.one hv196) zn) (Nat.le_of_ble_eq_true rfl) rfl (fun h199 hS200=>?_)
   simp only [zk,qs,B0,reduceIte,reduceEqDiff]
   obtain ⟨c201,hv202,hS203⟩:=SlG.cls0 (c:=c169) (os:=c177++(c181)) hv172 rfl hx167 jp (Server.RI (x:=x166) hv178 hv182) (Sep.ni2 (c1:=c177) (c2:=c181)
     (Sep.m5 (Sep.m5 (Sep.m5 hS200))))
   have hv204:=SlG.toN hv202
   have he:=qf hF192
   subst he
   simp only [qon,B0,reduceIte,reduceEqDiff]
   exact ⟨c201,v193,c194,pv0_2,pc0_2,by first | trivial | rfl,hv204,hv196,ph0_2,(Sep.m3 (Sep.m2 (Sep.m3 (Sep.m3 (Sep.dc (Sep.m3 hS203))))))⟩
  rw [iteF hg114] at hF77
  simp only [hg114,zh (g:=56),qee,yl,qp,zo,ja,zk,qq4,qd,qc,qe,qa,qp4,qr,
    qk9,qt,qqx,j5,f109,qhb,kz,zy,jf,Nat.reduceAdd,Nat.zero_add,Nat.add_zero,qx,z8,B0,reduceIte,reduceEqDiff]
  refine q9 (v:=pv0_1) ((z9 (Sep.bk _ _ _ hS113)).trans rfl) ?_
  simp only [f110,jf,qp,Nat.reduceAdd,Nat.zero_add,Nat.add_zero,qu,z8,B0,reduceIte,reduceEqDiff]
  refine q9 (v := .int .i64 v_1.From) rfl ?_
  simp only [f110,jf,qp,Nat.reduceAdd,Nat.zero_add,Nat.add_zero,qu,z8,B0,reduceIte,reduceEqDiff]
  refine q9 (v := .int .i64 v_1.To) rfl ?_
  simp only [f111,ja,qp,kz,zy,jf,Nat.reduceAdd,Nat.zero_add,Nat.add_zero,qx,z8,B0,reduceIte,reduceEqDiff]
  refine q9 (v := .int .i64 x75.Term) ((SlG.ld (o:=0) hv81 rfl hx76 (Sep.m1 hS113) (Nat.le_of_ble_eq_true rfl)).trans rfl) ?_
  simp only [ja,qp,qbo,evp,B0,reduceIte,reduceEqDiff]
  refine q9 (v := .agg [.int .i64 v_1.From,.int .i64 v_1.To,.int .i64 x75.Term,.bool false,.int .i64 0,.int .i64 0,.bool false]) rfl ?_
  simp only [w3,evp,B0,reduceIte,reduceEqDiff]
  refine wb (n:=7) (f:=Letter.cells) [(Letter.mk v_1.From v_1.To x75.Term false 0 0 false)] hS113 rfl rfl (fun v207 c208 h209 hv210 hS211 hq206=>?_)
  simp only [qcs,B0,reduceIte,reduceEqDiff]
  obtain ⟨l213,hx214,hF215⟩:=qi hF77
  refine wc (f:=Letter.cells) ph0_1 (Sep.m3 hS211) hW (fun _=>rfl) (fun _=>rfl) (SlF.first hv210 hS211 (fun _=>rfl)) hx214 (fun v216 c217 h218 hv219 hS220=>?_)
  simp only [kz,qp,zy,jf,Nat.reduceAdd,Nat.zero_add,Nat.add_zero,qx,qdk,B0,reduceIte,reduceEqDiff]
  refine w9 (us:=[v216]) (jl (SlF.one hv219)) (cs':=[pv0_0,v216,
    pv0_2]) (Sep.m2 hS220) hW rfl (qo (SlF.one hv219) zn) (Nat.le_of_ble_eq_true rfl) rfl (fun h222 hS223=>?_)
  simp only [zk,qs,B0,reduceIte,reduceEqDiff]
  obtain ⟨c224,hv225,hS226⟩:=SlG.cls0 (c:=c78) (os:=c86++(c90)) hv81 rfl hx76 jp (Server.RI (x:=x75) hv87 hv91) (Sep.ni2 (c1:=c86) (c2:=c90) (Sep.m5 (Sep.m6
    (Sep.m6 hS223))))
  have hv227:=SlG.toN hv225
  have he:=qf hF215
  subst he
  simp only [qon,B0,reduceIte,reduceEqDiff]
  exact ⟨c224,v216,c217,pv0_2,pc0_2,by first | trivial | rfl,hv227,hv219,ph0_2,(Sep.m3 (Sep.m2 (Sep.m3 (Sep.m3 (Sep.dc (Sep.m3 hS226))))))⟩
 rw [iteF hc74] at hk36
 simp only [qt,qu7,qd,j5,f72,jf,qp,Nat.reduceAdd,Nat.zero_add,Nat.add_zero,qu,z8,B0,reduceIte,reduceEqDiff]
 refine q9 (v := .bool v_1.Grant) rfl ?_
 simp only [ja,qp,B0,reduceIte,reduceEqDiff]
 obtain ⟨v231,hx232,hF233⟩:=qi hk36
 refine qfn 8 (fun fr' h'=>Sep h' lo ([Blk1 pb0 [pv0_0,pv0_1,
   pv0_2] 31]++(c32++(pc0_1++(pc0_2++(S0)))))∧fr' 102 = .bool v231∧fr' 0 = .ptr pb0 0∧fr' 3 = .ref [.int .i64 v_1.To,.int .i64 v_1.From,.int .i64 v_1.Term,
   .bool v_1.Asks,.int .i64 v_1.Last,.int .i64 v_1.Long,.bool v_1.Grant] 0∧fr' 4 = .ptr b10 (v_1.To.toNat*6)) rfl (fun Q228 hN229=>?_) ?_
 ·simp only [List.take_succ_cons,List.take_zero]
  simp only [zh (g:=94),B0,reduceIte,reduceEqDiff]
  refine yy (t:=v_1.Grant) (fun hg230=>?_) (fun hg230=>?_)
  ·rw [iteT hg230] at hx232
   simp only [hg230,zh (g:=94),yc,f72,jf,qp,Nat.reduceAdd,Nat.zero_add,Nat.add_zero,qu,z8,B0,reduceIte,reduceEqDiff]
   refine q9 (v := .int .i64 v_1.Term) rfl ?_
   obtain ⟨x234,hx235,hF236⟩:=qi hx232
   obtain ⟨c237,cs238,os239,hv240,hR241,hS242⟩:=SlG.opn (SlN.toG hv33 hb11 Server.RO.len) hx235 jp Server.RO.len (Sep.m1 hS70)
   obtain ⟨v244,c245,v248,c249,hv246,hv250,rfl,rfl⟩:=hR241
   have hS243:=Sep.no2 hS242
   simp only [hg230,zh (g:=94),yc,f73,ja,qp,kz,zy,jf,Nat.reduceAdd,Nat.zero_add,Nat.add_zero,qx,z8,B0,
     reduceIte,reduceEqDiff]
   refine q9 (v := .int .i64 x234.Term) ((SlG.ld (o:=0) hv240 rfl hx235 hS243 (Nat.le_of_ble_eq_true rfl)).trans rfl) ?_
   simp only [hg230,zh (g:=94),yc,qbs,qp,yi,yl,zp,zk,ql,B0,reduceIte,reduceEqDiff]
   have e252:=qf hF236
   exact hN229 _ _ ⟨(Sep.m3 (Sep.m3 (Sep.m3 (Sep.m3 hS70)))),by rw [←e252]; simp only [B0,reduceIte,reduceEqDiff],f71,by simp only [f72,B0,reduceIte,reduceEqDiff,
     hg230],f73⟩
  ·rw [iteF hg230] at hx232
   simp only [hg230,zh (g:=94),qee,yl,qp,zo,zk,ql,B0,reduceIte,reduceEqDiff]
   have e253:=qf hx232
   exact hN229 _ _ ⟨(Sep.m3 (Sep.m3 (Sep.m3 (Sep.m3 hS70)))),by rw [←e253]; simp only [B0,reduceIte,reduceEqDiff],f71,by simp only [f72,B0,reduceIte,reduceEqDiff,
     hg230],f73⟩
 rintro fr254 h259 ⟨hS260,f255,f256,f257,f258⟩
 simp only [List.drop_succ_cons,List.drop_zero]
 simp only [f255,ja,qp,B0,reduceIte,reduceEqDiff]
 obtain ⟨v264,hx265,hF266⟩:=qi hF233
 refine qfn 5 (fun fr' h'=>Sep h' lo ([Blk1 pb0 [pv0_0,pv0_1,
   pv0_2] 31]++(c32++(pc0_1++(pc0_2++(S0)))))∧fr' 108 = .bool v264∧fr' 0 = .ptr pb0 0∧fr' 3 = .ref [.int .i64 v_1.To,.int .i64 v_1.From,.int .i64 v_1.Term,
   .bool v_1.Asks,.int .i64 v_1.Last,.int .i64 v_1.Long,.bool v_1.Grant] 0∧fr' 4 = .ptr b10 (v_1.To.toNat*6)) rfl (fun Q261 hN262=>?_) ?_
 ·simp only [List.take_succ_cons,List.take_zero]
  simp only [zh (g:=103),B0,reduceIte,reduceEqDiff]
  refine yy (t:=v231) (fun hg263=>?_) (fun hg263=>?_)
  ·rw [iteT hg263] at hx265
   obtain ⟨x267,hx268,hF269⟩:=qi hx265
   obtain ⟨c270,cs271,os272,hv273,hR274,hS275⟩:=SlG.opn (SlN.toG hv33 hb11 Server.RO.len) hx268 jp Server.RO.len (Sep.m1 hS260)
   obtain ⟨v277,c278,v281,c282,hv279,hv283,rfl,rfl⟩:=hR274
   have hS276:=Sep.no2 hS275
   simp only [hg263,zh (g:=103),yc,f258,ja,qp,kz,zy,jf,Nat.reduceAdd,Nat.zero_add,Nat.add_zero,qx,z8,B0,
     reduceIte,reduceEqDiff]
   refine q9 (v := .bool x267.Stands) ((SlG.ld (o:=2) hv273 rfl hx268 hS276 (Nat.le_of_ble_eq_true rfl)).trans rfl) ?_
   simp only [hg263,yl,qp,zp,zk,ql,B0,reduceIte,reduceEqDiff]
   have e285:=qf hF269
   exact hN262 _ _ ⟨(Sep.m3 (Sep.m3 (Sep.m3 (Sep.m3 hS260)))),by rw [←e285]; simp only [B0,reduceIte,reduceEqDiff],f256,f257,f258⟩
  ·rw [iteF hg263] at hx265
   simp only [hg263,zh (g:=103),qee,yl,qp,zo,zk,ql,B0,reduceIte,reduceEqDiff]
   have e286:=qf hx265
   exact hN262 _ _ ⟨(Sep.m3 (Sep.m3 (Sep.m3 (Sep.m3 hS260)))),by rw [←e286]; simp only [B0,reduceIte,reduceEqDiff],f256,f257,f258⟩
 rintro fr287 h292 ⟨hS293,f288,f289,f290,f291⟩
 simp only [List.drop_succ_cons,List.drop_zero]
 simp only [zk,qvu,f288,qr,B0,reduceIte,reduceEqDiff]
 refine qq (t:=v264) (fun hc294=>?_) (fun hc294=>?_)
 ·rw [iteT hc294] at hF266
  obtain ⟨x295,hx296,hF297⟩:=qi hF266
  obtain ⟨c298,cs299,os300,hv301,hR302,hS303⟩:=SlG.opn (SlN.toG hv33 hb11 Server.RO.len) hx296 jp Server.RO.len (Sep.m1 hS293)
  obtain ⟨v305,c306,v309,c310,hv307,hv311,rfl,rfl⟩:=hR302
  have hS304:=Sep.no2 hS303
  simp only [qtw,qd,j5,f291,ja,qp,kz,zy,jf,Nat.reduceAdd,Nat.zero_add,Nat.add_zero,qx,z8,B0,reduceIte,reduceEqDiff]
  refine q9 (v:=v305) ((SlG.ld (o:=4) hv301 rfl hx296 hS304 (Nat.le_of_ble_eq_true rfl)).trans rfl) ?_
  simp only [f290,jf,qp,Nat.reduceAdd,Nat.zero_add,Nat.add_zero,qu,z8,B0,reduceIte,reduceEqDiff]
  refine q9 (v := .int .i64 v_1.From) rfl ?_
  obtain ⟨v313,hx314,hF315⟩:=qi hF297
  simp only [wa,B0,reduceIte,reduceEqDiff]
  refine qds rfl (qk (SlF.snap hv307 (Sep.m1 hS304) rfl (fun _=>rfl) (fun _=>rfl)) (qk za zd)) (qgf
    (fun b hb=>decide_eq_true hb) k x295.Got v_1.From v313 hx314) ?_
  simp only [ja,qp,qxm,qep,qen,zk,qv1,qd,qc,qe,js,qb,kt,qa,qr6,qr,B0,reduceIte,
    reduceEqDiff]
  refine qq (t:=(!v313.2)) (fun hc316=>?_) (fun hc316=>?_)
  ·rw [iteT hc316] at hF315
   simp only [q0b,j5,f291,qhb,qp,ja,kz,zy,jf,Nat.reduceAdd,Nat.zero_add,Nat.add_zero,qx,z8,B0,reduceIte,reduceEqDiff]
   refine q9 (v:=v305) ((SlG.ld (o:=4) hv301 rfl hx296 hS304 (Nat.le_of_ble_eq_true rfl)).trans rfl) ?_
   simp only [ja,qp,f290,jf,Nat.reduceAdd,Nat.zero_add,Nat.add_zero,qu,z8,B0,reduceIte,reduceEqDiff]
   refine q9 (v := .int .i64 v_1.From) rfl ?_
   simp only [w3,evp,B0,reduceIte,reduceEqDiff]
   refine wb (n:=1) (f:=cI) [v_1.From] hS304 rfl rfl (fun v318 c319 h320 hv321 hS322 hq317=>?_)
   obtain ⟨v324,hx325,hF326⟩:=qi hF315
   simp only [wa,B0,reduceIte,reduceEqDiff]
   refine qwz rfl (qit hW v305 c306 x295.Got hv307 v313.1 v318 c319 [v_1.From] hv321 v324 hx325 (Sep.m2 hS322)) ?_
   rintro v327 h333 ⟨_,c328,c331,rfl,hv329,hv332,hS334⟩
   simp only [kz,qp,zy,jf,Nat.reduceAdd,Nat.zero_add,Nat.add_zero,qx,qdk,B0,reduceIte,reduceEqDiff]
   refine qku (n:=6) (us:=[v327]) (cs:=[.int .i64 x295.Term,.int .i64 x295.Voted,.bool x295.Stands,.bool x295.Leads,v305,
     v309]) (o:=4) (cs':=[.int .i64 x295.Term,.int .i64 x295.Voted,.bool x295.Stands,.bool x295.Leads,v327,
     v309]) (jl (SlF.one hv329)) hv301 rfl hx296 (Sep.m2 hS334) hW rfl (qo (SlF.one hv329) zn) (Nat.le_of_ble_eq_true rfl) rfl (fun c337 h335 hv338 hS336=>?_)
   simp only [zk,qor,qc,f289,qe,f290,qn,qb,Nat.reduceAdd,Nat.zero_add,Nat.add_zero,qu,qj,B0,reduceIte,reduceEqDiff]
   refine qh (v := .int .i64 v_1.To) rfl ?_
   obtain ⟨c339,hv340,hS341⟩:=SlG.cls (e':=(Server.mk x295.Term x295.Voted x295.Stands x295.Leads v324.1 x295.Log)) (c:=c337) (os:=c328 ++
     (c310)) hv338 rfl hx296 jp (Server.RI (x:=(Server.mk x295.Term x295.Voted x295.Stands x295.Leads v324.1 x295.Log)) hv329 hv311) (Sep.ni2 (c1:=c328) (c2:=c310)
     (Sep.m2 (Sep.m2 (Sep.m3 hS336))))
   have hx342:=jz (x':=(Server.mk x295.Term x295.Voted x295.Stands x295.Leads v324.1 x295.Log)) hx296
   have hv343:=SlG.toN hv340
   obtain ⟨v344,hx345,hF346⟩:=qi hF326
   simp only [zb,B0,reduceIte,reduceEqDiff]
   refine x3 rfl (qcc hW pb0 (Election.mk (List.set s31 v_1.To.toNat
     (Server.mk x295.Term x295.Voted x295.Stands x295.Leads v324.1 x295.Log)) v_0.Post v_0.Led) pv0_0 c339 hv343 pv0_1 pc0_1 ph0_1 pv0_2 pc0_2 ph0_2 v_1.To v344 hx345
     (Sep.m4 (Sep.m2 (Sep.m4 (Sep.m4 hS341))))) ?_
   rintro _ h355 ⟨c347,c349,v351,c352,rfl,hv348,hv350,hv353,hS356⟩
   simp only [qa,ql,B0,reduceIte,reduceEqDiff]
   have he:=qf hF346
   subst he
   simp only [qgp,B0,reduceIte,reduceEqDiff]
   exact ⟨c347,pv0_1,c349,v351,c352,by first | trivial | rfl,hv348,hv350,hv353,(Sep.m3 (Sep.m3 (Sep.m3 (Sep.m3 (Sep.dc (Sep.m4 hS356))))))⟩
  rw [iteF hc316] at hF315
  simp only [qt,qor,qc,f289,qe,f290,qn,qb,Nat.reduceAdd,Nat.zero_add,Nat.add_zero,qu,qj,B0,reduceIte,reduceEqDiff]
  refine qh (v := .int .i64 v_1.To) rfl ?_
  obtain ⟨c357,hv358,hS359⟩:=SlG.cls0 (c:=c298) (os:=c306++(c310)) hv301 rfl hx296 jp (Server.RI (x:=x295) hv307 hv311) (Sep.ni2 (c1:=c306) (c2:=c310)
    (Sep.m2 (Sep.m2 (Sep.m2 hS304))))
  have hv360:=SlG.toN hv358
  obtain ⟨v361,hx362,hF363⟩:=qi hF315
  simp only [zb,B0,reduceIte,reduceEqDiff]
  refine x3 rfl (qcc hW pb0 (Election.mk s31 v_0.Post v_0.Led) pv0_0 c357 hv360 pv0_1 pc0_1 ph0_1 pv0_2 pc0_2 ph0_2 v_1.To v361 hx362 (Sep.m3 (Sep.m2
    (Sep.m3 (Sep.m3 hS359))))) ?_
  rintro _ h372 ⟨c364,c366,v368,c369,rfl,hv365,hv367,hv370,hS373⟩
  simp only [qa,ql,B0,reduceIte,reduceEqDiff]
  have he:=qf hF363
  subst he
  simp only [qgp,B0,reduceIte,reduceEqDiff]
  exact ⟨c364,pv0_1,c366,v368,c369,by first | trivial | rfl,hv365,hv367,hv370,(Sep.m3 (Sep.m3 (Sep.m3 (Sep.m3 hS373))))⟩
 rw [iteF hc294] at hF266
 simp only [qt,ql,B0,reduceIte,reduceEqDiff]
 have he:=qf hF266
 subst he
 simp only [qgp,B0,reduceIte,reduceEqDiff]
 exact ⟨c32,pv0_1,pc0_1,pv0_2,pc0_2,by first | trivial | rfl,hv33,ph0_1,ph0_2,(Sep.m3 (Sep.m3 (Sep.m3 (Sep.m3 hS293))))⟩
end Go.Proofs.Ytpddolihbnfahaa.X
