/- The functions' code comes to what the plain functions say (4). -/
import Derived.Test.YtpddolihbnfahaaXBH3
set_option linter.unusedVariables false
set_option linter.unusedSimpArgs false
set_option maxRecDepth 100000
namespace Go.Proofs.Ytpddolihbnfahaa.X
open Go
open Nat (reduceEqDiff)
theorem qhj {W:Nat→Bool}{h:Heap}{lo:Nat→Prop}{S0:List Obj} (hW:∀ b,
  lo b→W b=true) (e_0:Election) (pv0_0:XV) (pc0_0:List Obj) (ph0_0:SlN Server.R 6 46 pv0_0 e_0.Servers pc0_0) (pv0_1:XV) (pc0_1:List Obj)
  (ph0_1:SlF Letter.cells 7 93 pv0_1 e_0.Post pc0_1) (pv0_2:XV) (pc0_2:List Obj) (ph0_2:SlF Vote.cells 2 39 pv0_2 e_0.Led pc0_2) (k_1:Int) (r:Election)
  (hF:qb2 e_0 k_1=some r) (hS:Sep h lo (pc0_0++(pc0_1++(pc0_2++(S0))))) : Ret E W 116 [.agg [pv0_0,pv0_1,pv0_2],
  .int .i64 k_1] h (fun v h'=>∃ rc0_0 rc0_1 rv0_2 rc0_2,v = .agg [pv0_0,pv0_1,
  rv0_2]∧SlN Server.R 6 46 pv0_0 r.Servers rc0_0∧SlF Letter.cells 7 93 pv0_1 r.Post rc0_1∧SlF Vote.cells 2 39 rv0_2 r.Led rc0_2∧Sep h' lo (rc0_0++(rc0_1++(rc0_2 ++
  (S0))))):=by
 refine Ret.of (fn:=qop) rfl (Run.of ?_)
 unfold qb2 at hF
 have zf0:zb [.agg [pv0_0,pv0_1,pv0_2],.int .i64 k_1] 0 = .agg [pv0_0,pv0_1,pv0_2]:=rfl
 have zf1:zb [.agg [pv0_0,pv0_1,pv0_2],.int .i64 k_1] 1 = .int .i64 k_1:=rfl
 generalize zb [.agg [pv0_0,pv0_1,pv0_2],.int .i64 k_1]=fr0 at zf0 zf1 ⊢
 simp only [qop,qf,qd,yb,zf0,B0,reduceIte,reduceEqDiff]
 refine kg (cs:=[pv0_0,pv0_1,pv0_2]) hS rfl rfl (qm (SlN.one ph0_0) (qm (SlF.one ph0_1) (qm (SlF.one ph0_2) zm))) (fun b1 h2 hS3=>?_)
 simp only [jj,B0,reduceIte,reduceEqDiff]
 refine z8 hS3 (fun b5 h6 hS7=>?_)
 simp only [qa,qug,qf,qd,qp,qb,Nat.reduceAdd,Nat.zero_add,Nat.add_zero,qs,ql,B0,reduceIte,reduceEqDiff]
 refine qg (v:=pv0_0) ((zz (Sep.bk _ _ _ (Sep.m1 hS7))).trans rfl) ?_
 obtain ⟨x9,hx10,hF11⟩:=qh hF
 simp only [zf1,qe,jg,B0,reduceIte,reduceEqDiff]
 obtain ⟨b12,hb13⟩:=SlN.isrow ph0_0 (wv hx10)
 refine qg (SlN.ia ph0_0 hb13 hx10) ?_
 obtain ⟨c14,cs15,os16,hv17,hR18,hS19⟩:=SlG.opn (SlN.toG ph0_0 hb13 Server.RO.len) hx10 jm Server.RO.len (Sep.m2 hS7)
 obtain ⟨v21,c22,v25,c26,hv23,hv27,rfl,rfl⟩:=hR18
 have hS20:=Sep.no2 hS19
 simp only [ql,B0,reduceIte,reduceEqDiff]
 refine qg (v := .agg [.int .i64 x9.Term,.int .i64 x9.Voted,.bool x9.Stands,.bool x9.Leads,v21,v25]) ((SlG.lds (o:=0) hv17 rfl hx10 hS20 (nle rfl)).trans rfl) ?_
 simp only [jj,B0,reduceIte,reduceEqDiff]
 refine z8 hS20 (fun b29 h30 hS31=>?_)
 simp only [zg,B0,reduceIte,reduceEqDiff]
 refine qw (us:=[.int .i64 x9.Term,.int .i64 x9.Voted,.bool x9.Stands,.bool x9.Leads,v21,v25]) rfl (cs':=[.int .i64 x9.Term,.int .i64 x9.Voted,.bool x9.Stands,
   .bool x9.Leads,v21,v25]) hS31 hW rfl (qm rfl (qm rfl (qm rfl (qm rfl (qm (SlF.one hv23) (qm (SlF.one hv27) zm)))))) (nle rfl) rfl (fun h33 hS34=>?_)
 simp only [qa,quw,qf,qd,qp,qb,Nat.reduceAdd,Nat.zero_add,Nat.add_zero,qs,ql,B0,reduceIte,reduceEqDiff]
 refine qg (v := .bool x9.Stands) ((zz (Sep.bk _ _ _ hS34)).trans rfl) ?_
 simp only [qe,B0,reduceIte,reduceEqDiff]
 refine ja 9 (fun fr' h'=>Sep h' lo ([Blk1 b1 [pv0_0,pv0_1,pv0_2] 31]++([Blk1 b5 [.nil,.nil,.nil] 31]++([Blk1 b29 [.int .i64 x9.Term,.int .i64 x9.Voted,
   .bool x9.Stands,.bool x9.Leads,v21,
   v25] 46]++(c14++(pc0_1++(pc0_2++(c22++(c26++(S0)))))))))∧fr' 22 = .bool (x9.Stands&&(decide ((List.length e_0.Servers:Int)<(IntKind.wrap .i64
   ((2:Int)*(List.length x9.Got:Int))))))∧fr' 1 = .int .i64 k_1∧fr' 2 = .ptr b1 0∧fr' 4 = .ptr b5 0∧fr' 5 = .ptr b29 0) (fun Q35 hN36=>?_) ?_
 ·simp only [List.take_succ_cons,List.take_zero]
  simp only [qc (g:=13),B0,reduceIte,reduceEqDiff]
  refine qy (t:=x9.Stands) (fun hg37=>?_) (fun hg37=>?_)
  ·simp only [hg37,qc (g:=13),ze,qp,qb,Nat.reduceAdd,Nat.zero_add,Nat.add_zero,qs,ql,B0,reduceIte,reduceEqDiff]
   refine qg (v:=v21) ((zz (Sep.bk _ _ _ hS34)).trans rfl) ?_
   simp only [hg37,qc (g:=13),ze,zn,qb,SlF.plen hv23,qv,qlf,qp,Nat.reduceAdd,Nat.zero_add,Nat.add_zero,qs,ql,B0,
     reduceIte,reduceEqDiff]
   refine qg (v:=pv0_0) ((zz (Sep.bk _ _ _ (Sep.m5 hS34))).trans rfl) ?_
   simp only [hg37,qc (g:=13),ze,zn,qb,SlG.plen hv17,qv,xj,qq,zj,qa,qj,B0,reduceIte,reduceEqDiff]
   exact hN36 _ _ ⟨(Sep.m7 (Sep.m6 (Sep.m5 (Sep.m5 (Sep.m7 (Sep.m7 (Sep.m3 (Sep.m3 hS34)))))))),by rw [qba hg37]; simp only [B0,reduceIte,reduceEqDiff],zf1,rfl,rfl,rfl⟩
  ·simp only [hg37,qc (g:=13),jv,qq,qb,zi,qa,qj,B0,reduceIte,reduceEqDiff]
   exact hN36 _ _ ⟨(Sep.m7 (Sep.m6 (Sep.m5 (Sep.m5 (Sep.m7 (Sep.m7 (Sep.m3 (Sep.m3 hS34)))))))),by rw [qbf hg37]; simp only [B0,reduceIte,reduceEqDiff],zf1,rfl,rfl,rfl⟩
 rintro fr38 h44 ⟨hS45,f39,f40,f41,f42,f43⟩
 simp only [List.drop_succ_cons,List.drop_zero]
 simp only [qa,qsw,f39,za,B0,reduceIte,reduceEqDiff]
 refine q8 (t:=(x9.Stands&&(decide ((List.length e_0.Servers:Int)<(IntKind.wrap .i64 ((2:Int)*(List.length x9.Got:Int))))))) (fun hc46=>?_)
   (fun hc46=>?_)
 ·rw [iteT hc46] at hF11
  simp only [qqd,qf,qd,f43,qp,qb,Nat.reduceAdd,Nat.zero_add,Nat.add_zero,qs,zg,B0,reduceIte,reduceEqDiff]
  refine qw (us:=[.bool false]) rfl (cs':=[.int .i64 x9.Term,.int .i64 x9.Voted,.bool false,.bool x9.Leads,v21,
    v25]) (Sep.m2 hS45) hW rfl rfl (nle rfl) rfl (fun h47 hS48=>?_)
  simp only [qa,qsp,qf,qd,f43,qp,qb,Nat.reduceAdd,Nat.zero_add,Nat.add_zero,qs,zg,B0,reduceIte,reduceEqDiff]
  refine qw (us:=[.bool true]) rfl (cs':=[.int .i64 x9.Term,.int .i64 x9.Voted,.bool false,.bool true,v21,v25]) hS48 hW rfl rfl (nle rfl) rfl (fun h49 hS50=>?_)
  simp only [qa,qso,qf,qd,f41,qp,qb,Nat.reduceAdd,Nat.zero_add,Nat.add_zero,qs,ql,B0,reduceIte,reduceEqDiff]
  refine qg (v:=pv0_0) ((zz (Sep.bk _ _ _ (Sep.m1 hS50))).trans rfl) ?_
  simp only [f40,qe,f43,ql,B0,reduceIte,reduceEqDiff]
  refine qg (v := .agg [.int .i64 x9.Term,.int .i64 x9.Voted,.bool false,.bool true,v21,v25]) ((zu (Sep.bk _ _ _ hS50)).trans rfl) ?_
  simp only [jg,B0,reduceIte,reduceEqDiff]
  refine qg (SlG.ia hv17 hx10) ?_
  simp only [zg,B0,reduceIte,reduceEqDiff]
  refine yi (n:=6) (us:=[.int .i64 x9.Term,.int .i64 x9.Voted,.bool false,.bool true,v21,v25]) (cs:=[.int .i64 x9.Term,.int .i64 x9.Voted,.bool x9.Stands,
    .bool x9.Leads,v21,v25]) (o:=0) (cs':=[.int .i64 x9.Term,.int .i64 x9.Voted,.bool false,.bool true,v21,
    v25]) rfl hv17 rfl hx10 (Sep.m3 hS50) hW rfl (qm rfl (qm rfl (qm rfl (qm rfl (qm (SlF.one hv23) (qm (SlF.one hv27) zm)))))) (nle rfl) rfl
    (fun c53 h51 hv54 hS52=>?_)
  simp only [qa,qpf,qd,f41,qp,qb,Nat.reduceAdd,Nat.zero_add,Nat.add_zero,qs,ql,B0,reduceIte,reduceEqDiff]
  refine qg (v:=pv0_2) ((zz (Sep.bk _ _ _ (Sep.m2 hS52))).trans rfl) ?_
  simp only [f43,qp,qb,Nat.reduceAdd,Nat.zero_add,Nat.add_zero,qs,ql,B0,reduceIte,reduceEqDiff]
  refine qg (v := .int .i64 x9.Term) ((zz (Sep.bk _ _ _ (Sep.m1 hS52))).trans rfl) ?_
  simp only [f40,qe,run_build,evp,B0,reduceIte,reduceEqDiff]
  refine qg (v := .agg [.int .i64 x9.Term,.int .i64 k_1]) rfl ?_
  simp only [ju,evp,B0,reduceIte,reduceEqDiff]
  refine jk (n:=2) (f:=Vote.cells) [(Vote.mk x9.Term k_1)] hS52 rfl rfl (fun v55 c56 h57 hv58 hS59=>?_)
  simp only [wa,B0,reduceIte,reduceEqDiff]
  obtain ⟨l61,hx62,hF63⟩:=qh hF11
  refine yj (f:=Vote.cells) ph0_2 (Sep.m6 hS59) hW (fun _=>rfl) (fun _=>rfl) (SlF.first hv58 hS59 (fun _=>rfl)) hx62 (fun v64 c65 h66 hv67 hS68=>?_)
  simp only [f41,qp,qb,Nat.reduceAdd,Nat.zero_add,Nat.add_zero,qs,zg,B0,reduceIte,reduceEqDiff]
  refine qw (us:=[v64]) (jd (SlF.one hv67)) (cs':=[pv0_0,pv0_1,v64]) (Sep.m4 hS68) hW rfl (qm (SlF.one hv67) zm) (nle rfl) rfl (fun h70 hS71=>?_)
  simp only [qa,qf,qd,f41,ql,B0,reduceIte,reduceEqDiff]
  refine qg (v := .agg [pv0_0,pv0_1,v64]) ((zu (Sep.bk _ _ _ hS71)).trans rfl) ?_
  simp only [f42,zg,B0,reduceIte,reduceEqDiff]
  refine qw (us:=[pv0_0,pv0_1,v64]) rfl (cs':=[pv0_0,pv0_1,
    v64]) (Sep.m5 hS71) hW rfl (qm (SlG.one hv54) (qm (SlF.one ph0_1) (qm (SlF.one hv67) zm))) (nle rfl) rfl (fun h72 hS73=>?_)
  simp only [qa,q9,B0,reduceIte,reduceEqDiff]
  obtain ⟨c74,hv75,hS76⟩:=SlG.cls (e':=(Server.mk x9.Term x9.Voted false true x9.Got x9.Log)) (c:=c53) (os:=c22++(c26)) hv54 rfl hx10 jm (Server.RI (x :=
    (Server.mk x9.Term x9.Voted false true x9.Got x9.Log)) hv23 hv27) (Sep.ni2 (c1:=c22) (c2:=c26) (Sep.m6 (Sep.m8 (Sep.m8 hS73))))
  have hx77:=xd (x':=(Server.mk x9.Term x9.Voted false true x9.Got x9.Log)) hx10
  have hv78:=SlG.toN hv75
  have he:=qi hF63
  subst he
  refine qbe (bb:=b5) (oo:=0) (v := .agg [pv0_0,pv0_1,v64]) (by simp only [f42,B0,reduceIte,reduceEqDiff]) ((zu (Sep.bk _ _ _ (Sep.m1 hS76))).trans rfl) ?_
  exact ⟨c74,pc0_1,v64,c65,by first | trivial | rfl,hv78,ph0_1,hv67,
    (Sep.m2 (Sep.m2 (Sep.m1 (Sep.dc (Sep.m2 (Sep.dc (Sep.m2 (Sep.dc (Sep.m1 (Sep.dc (Sep.m1 hS76)))))))))))⟩
 rw [iteF hc46] at hF11
 simp only [zc,qf,qd,f41,ql,B0,reduceIte,reduceEqDiff]
 refine qg (v := .agg [pv0_0,pv0_1,pv0_2]) ((zu (Sep.bk _ _ _ hS45)).trans rfl) ?_
 simp only [f42,zg,B0,reduceIte,reduceEqDiff]
 refine qw (us:=[pv0_0,pv0_1,pv0_2]) rfl (cs':=[pv0_0,pv0_1,
   pv0_2]) (Sep.m1 hS45) hW rfl (qm (SlG.one hv17) (qm (SlF.one ph0_1) (qm (SlF.one ph0_2) zm))) (nle rfl) rfl (fun h79 hS80=>?_)
 simp only [qa,q9,B0,reduceIte,reduceEqDiff]
 obtain ⟨c81,hv82,hS83⟩:=SlG.cls0 (c:=c14) (os:=c22++(c26)) hv17 rfl hx10 jm (Server.RI (x:=x9) hv23 hv27) (Sep.ni2 (c1:=c22) (c2:=c26) (Sep.m5 (Sep.m7
   (Sep.m7 hS80))))
 have hv84:=SlG.toN hv82
 have he:=qi hF11
 subst he
 refine qbe (bb:=b5) (oo:=0) (v := .agg [pv0_0,pv0_1,pv0_2]) (by simp only [f42,B0,reduceIte,reduceEqDiff]) ((zu (Sep.bk _ _ _ (Sep.m1 hS83))).trans rfl) ?_
 exact ⟨c81,pc0_1,pv0_2,pc0_2,by first | trivial | rfl,hv84,ph0_1,ph0_2,(Sep.m2 (Sep.m2 (Sep.m2 (Sep.dc (Sep.m1 (Sep.dc (Sep.m1 (Sep.dc (Sep.m1 hS83)))))))))⟩
theorem qit {W:Nat→Bool}{h:Heap}{lo:Nat→Prop}{S0:List Obj} (hW:∀ b,
  lo b→W b=true) (v_0:Election) (pv0_0:XV) (pc0_0:List Obj) (ph0_0:SlN Server.R 6 46 pv0_0 v_0.Servers pc0_0) (pv0_1:XV) (pc0_1:List Obj)
  (ph0_1:SlF Letter.cells 7 93 pv0_1 v_0.Post pc0_1) (pv0_2:XV) (pc0_2:List Obj) (ph0_2:SlF Vote.cells 2 39 pv0_2 v_0.Led pc0_2) (v_1:Int) (r:Election × Bool)
  (hF:qbg v_0 v_1=some r) (hS:Sep h lo (pc0_0++(pc0_1++(pc0_2++(S0))))) : Ret E W 97 [.agg [pv0_0,pv0_1,pv0_2],
  .int .i64 v_1] h (fun v h'=>∃ rc0_0 rv0_1 rc0_1 rv0_2 rc0_2,v = .tup [.agg [pv0_0,rv0_1,rv0_2],
  .bool r.2]∧SlN Server.R 6 46 pv0_0 r.1.Servers rc0_0∧SlF Letter.cells 7 93 rv0_1 r.1.Post rc0_1∧SlF Vote.cells 2 39 rv0_2 r.1.Led rc0_2∧Sep h' lo (rc0_0++(rc0_1 ++
  (rc0_2++(S0))))):=by
 refine Ret.of (fn:=x97) rfl (Run.of ?_)
 unfold qbg at hF
 have zf0:zb [.agg [pv0_0,pv0_1,pv0_2],.int .i64 v_1] 0 = .agg [pv0_0,pv0_1,pv0_2]:=rfl
 have zf1:zb [.agg [pv0_0,pv0_1,pv0_2],.int .i64 v_1] 1 = .int .i64 v_1:=rfl
 generalize zb [.agg [pv0_0,pv0_1,pv0_2],.int .i64 v_1]=fr0 at zf0 zf1 ⊢
 simp only [x97,qf,qd,yb,zf0,B0,reduceIte,reduceEqDiff]
 refine kg (cs:=[pv0_0,pv0_1,pv0_2]) hS rfl rfl (qm (SlN.one ph0_0) (qm (SlF.one ph0_1) (qm (SlF.one ph0_2) zm))) (fun b1 h2 hS3=>?_)
 simp only [jj,B0,reduceIte,reduceEqDiff]
 refine z8 hS3 (fun b5 h6 hS7=>?_)
 simp only [qe,qa,qqj,qf,qd,qp,qb,Nat.reduceAdd,Nat.zero_add,Nat.add_zero,qs,ql,B0,reduceIte,reduceEqDiff]
 refine qg (v:=pv0_0) ((zz (Sep.bk _ _ _ (Sep.m1 hS7))).trans rfl) ?_
 obtain ⟨x9,hx10,hF11⟩:=qh hF
 simp only [zf1,qe,jg,B0,reduceIte,reduceEqDiff]
 obtain ⟨b12,hb13⟩:=SlN.isrow ph0_0 (wv hx10)
 refine qg (SlN.ia ph0_0 hb13 hx10) ?_
 obtain ⟨c14,cs15,os16,hv17,hR18,hS19⟩:=SlG.opn (SlN.toG ph0_0 hb13 Server.RO.len) hx10 jm Server.RO.len (Sep.m2 hS7)
 obtain ⟨v21,c22,v25,c26,hv23,hv27,rfl,rfl⟩:=hR18
 have hS20:=Sep.no2 hS19
 simp only [ql,B0,reduceIte,reduceEqDiff]
 refine qg (v := .agg [.int .i64 x9.Term,.int .i64 x9.Voted,.bool x9.Stands,.bool x9.Leads,v21,v25]) ((SlG.lds (o:=0) hv17 rfl hx10 hS20 (nle rfl)).trans rfl) ?_
 simp only [jj,B0,reduceIte,reduceEqDiff]
 refine z8 hS20 (fun b29 h30 hS31=>?_)
 simp only [zg,B0,reduceIte,reduceEqDiff]
 refine qw (us:=[.int .i64 x9.Term,.int .i64 x9.Voted,.bool x9.Stands,.bool x9.Leads,v21,v25]) rfl (cs':=[.int .i64 x9.Term,.int .i64 x9.Voted,.bool x9.Stands,
   .bool x9.Leads,v21,v25]) hS31 hW rfl (qm rfl (qm rfl (qm rfl (qm rfl (qm (SlF.one hv23) (qm (SlF.one hv27) zm)))))) (nle rfl) rfl (fun h33 hS34=>?_)
 simp only [qa,qr1,qf,qd,qp,qb,Nat.reduceAdd,Nat.zero_add,Nat.add_zero,qs,ql,B0,reduceIte,reduceEqDiff]
 refine qg (v := .bool x9.Leads) ((zz (Sep.bk _ _ _ hS34)).trans rfl) ?_
 simp only [qe,B0,reduceIte,reduceEqDiff]
 refine ja 4 (fun fr' h'=>Sep h' lo ([Blk1 b1 [pv0_0,pv0_1,pv0_2] 31]++([Blk1 b5 [.nil,.nil,.nil] 31]++([Blk1 b29 [.int .i64 x9.Term,.int .i64 x9.Voted,
   .bool x9.Stands,.bool x9.Leads,v21,
   v25] 46]++(c14++(pc0_1++(pc0_2++(c22++(c26++(S0)))))))))∧fr' 19 = .bool (x9.Leads||(decide
   (x9.Term=100)))∧fr' 1 = .int .i64 v_1∧fr' 2 = .ptr b1 0∧fr' 4 = .ptr b5 0∧fr' 6 = .ptr b29 0) (fun Q35 hN36=>?_) ?_
 ·simp only [List.take_succ_cons,List.take_zero]
  simp only [qc (g:=15),B0,reduceIte,reduceEqDiff]
  refine qy (t:=x9.Leads) (fun hg37=>?_) (fun hg37=>?_)
  ·simp only [hg37,qc (g:=15),zq,qq,qb,zj,qa,qj,B0,reduceIte,reduceEqDiff]
   exact hN36 _ _ ⟨(Sep.m7 (Sep.m6 (Sep.m5 (Sep.m5 (Sep.m7 (Sep.m7 (Sep.m3 (Sep.m3 hS34)))))))),by rw [orT hg37]; simp only [B0,reduceIte,reduceEqDiff],zf1,rfl,rfl,rfl⟩
  ·simp only [hg37,qc (g:=15),qn,qp,qb,Nat.reduceAdd,Nat.zero_add,Nat.add_zero,qs,ql,B0,reduceIte,reduceEqDiff]
   refine qg (v := .int .i64 x9.Term) ((zz (Sep.bk _ _ _ hS34)).trans rfl) ?_
   simp only [hg37,qc (g:=15),qn,qv,qb,yo,qq,zi,qa,qj,B0,reduceIte,reduceEqDiff]
   exact hN36 _ _ ⟨(Sep.m7 (Sep.m6 (Sep.m5 (Sep.m5 (Sep.m7 (Sep.m7 (Sep.m3 (Sep.m3 hS34)))))))),by rw [orF hg37]; simp only [B0,reduceIte,reduceEqDiff],zf1,rfl,rfl,rfl⟩
 rintro fr38 h44 ⟨hS45,f39,f40,f41,f42,f43⟩
 simp only [List.drop_succ_cons,List.drop_zero]
 simp only [f39,qe,B0,reduceIte,reduceEqDiff]
 refine ja 10 (fun fr' h'=>Sep h' lo ([Blk1 b1 [pv0_0,pv0_1,pv0_2] 31]++([Blk1 b5 [.nil,.nil,.nil] 31]++([Blk1 b29 [.int .i64 x9.Term,.int .i64 x9.Voted,
   .bool x9.Stands,.bool x9.Leads,v21,
   v25] 46]++(c14++(pc0_1++(pc0_2++(c22++(c26++(S0)))))))))∧fr' 30 = .bool ((x9.Leads||(decide (x9.Term=100)))||(decide ((20:Int)<(IntKind.wrap .i64
   ((IntKind.wrap .i64 ((List.length v_0.Post:Int) +
   (List.length v_0.Servers:Int))) - 1)))))∧fr' 1 = .int .i64 v_1∧fr' 2 = .ptr b1 0∧fr' 4 = .ptr b5 0∧fr' 6 = .ptr b29 0) (fun Q46 hN47=>?_) ?_
 ·simp only [List.take_succ_cons,List.take_zero]
  simp only [qc (g:=20),B0,reduceIte,reduceEqDiff]
  refine qy (t:=(x9.Leads||(decide (x9.Term=100)))) (fun hg48=>?_) (fun hg48=>?_)
  ·simp only [hg48,qc (g:=20),zq,qq,qb,zj,qa,qj,B0,reduceIte,reduceEqDiff]
   exact hN47 _ _ ⟨(Sep.m7 (Sep.m7 (Sep.m7 (Sep.m7 (Sep.m7 (Sep.m7 (Sep.m7 (Sep.m7 hS45)))))))),by rw [orT hg48]; simp only [B0,reduceIte,reduceEqDiff],f40,f41,f42,f43⟩
  ·simp only [hg48,qc (g:=20),qn,f41,qp,qb,Nat.reduceAdd,Nat.zero_add,Nat.add_zero,qs,ql,B0,reduceIte,reduceEqDiff]
   refine qg (v:=pv0_1) ((zz (Sep.bk _ _ _ hS45)).trans rfl) ?_
   simp only [hg48,qc (g:=20),qn,zn,qb,SlF.plen ph0_1,f41,qp,Nat.reduceAdd,Nat.zero_add,Nat.add_zero,qs,ql,B0,
     reduceIte,reduceEqDiff]
   refine qg (v:=pv0_0) ((zz (Sep.bk _ _ _ hS45)).trans rfl) ?_
   simp only [hg48,qc (g:=20),qn,zn,qb,SlG.plen hv17,qv,qbj,qbr,xj,qq,zi,qa,qj,B0,reduceIte,
     reduceEqDiff]
   exact hN47 _ _ ⟨(Sep.m7 (Sep.m7 (Sep.m7 (Sep.m7 (Sep.m7 (Sep.m7 (Sep.m7 (Sep.m7 hS45)))))))),by rw [orF hg48]; simp only [B0,reduceIte,reduceEqDiff],f40,f41,f42,f43⟩
 rintro fr49 h55 ⟨hS56,f50,f51,f52,f53,f54⟩
 simp only [List.drop_succ_cons,List.drop_zero]
 simp only [qa,qzo,f50,za,B0,reduceIte,reduceEqDiff]
 refine q8 (t:=((x9.Leads||(decide (x9.Term=100)))||(decide ((20:Int)<(IntKind.wrap .i64 ((IntKind.wrap .i64 ((List.length v_0.Post:Int) +
   (List.length v_0.Servers:Int))) - 1)))))) (fun hc57=>?_) (fun hc57=>?_)
 ·rw [iteT hc57] at hF11
  simp only [qf,qd,f52,ql,B0,reduceIte,reduceEqDiff]
  refine qg (v := .agg [pv0_0,pv0_1,pv0_2]) ((zu (Sep.bk _ _ _ hS56)).trans rfl) ?_
  simp only [f53,zg,B0,reduceIte,reduceEqDiff]
  refine qw (us:=[pv0_0,pv0_1,pv0_2]) rfl (cs':=[pv0_0,pv0_1,
    pv0_2]) (Sep.m1 hS56) hW rfl (qm (SlG.one hv17) (qm (SlF.one ph0_1) (qm (SlF.one ph0_2) zm))) (nle rfl) rfl (fun h58 hS59=>?_)
  simp only [qe,qa,q9,B0,reduceIte,reduceEqDiff]
  obtain ⟨c60,hv61,hS62⟩:=SlG.cls0 (c:=c14) (os:=c22++(c26)) hv17 rfl hx10 jm (Server.RI (x:=x9) hv23 hv27) (Sep.ni2 (c1:=c22) (c2:=c26) (Sep.m5 (Sep.m7
    (Sep.m7 hS59))))
  have hv63:=SlG.toN hv61
  have he:=qi hF11
  subst he
  refine jz (qo (kf (bb:=b5) (oo:=0) (v := .agg [pv0_0,pv0_1,
    pv0_2]) (f53) ((zu (Sep.bk _ _ _ (Sep.m1 hS62))).trans rfl)) (qo (yl (v := .bool false) (rfl)) zh)) ?_
  exact ⟨c60,pv0_1,pc0_1,pv0_2,pc0_2,by first | trivial | rfl,hv63,ph0_1,ph0_2,(Sep.m2 (Sep.m2 (Sep.m2 (Sep.dc (Sep.m1 (Sep.dc (Sep.m1 (Sep.dc (Sep.m1 hS62)))))))))⟩
 rw [iteF hc57] at hF11
 simp only [zc,qux,qf,qd,f54,qp,qb,Nat.reduceAdd,Nat.zero_add,Nat.add_zero,qs,ql,B0,reduceIte,reduceEqDiff]
 refine qg (v := .int .i64 x9.Term) ((zz (Sep.bk _ _ _ (Sep.m2 hS56))).trans rfl) ?_
 simp only [qv,qb,qbj,f54,qp,Nat.reduceAdd,Nat.zero_add,Nat.add_zero,qs,zg,B0,reduceIte,reduceEqDiff]
 refine qw (us:=[.int .i64 (IntKind.wrap .i64 (x9.Term+1))]) rfl (cs':=[.int .i64 (IntKind.wrap .i64 (x9.Term+1)),.int .i64 x9.Voted,.bool x9.Stands,
   .bool x9.Leads,v21,v25]) (Sep.m2 hS56) hW rfl rfl (nle rfl) rfl (fun h64 hS65=>?_)
 simp only [qa,qr0,qf,qd,f54,qp,qb,Nat.reduceAdd,Nat.zero_add,Nat.add_zero,qs,zg,B0,reduceIte,reduceEqDiff]
 refine qw (us:=[.bool true]) rfl (cs':=[.int .i64 (IntKind.wrap .i64 (x9.Term+1)),.int .i64 x9.Voted,.bool true,.bool x9.Leads,v21,
   v25]) hS65 hW rfl rfl (nle rfl) rfl (fun h66 hS67=>?_)
 simp only [qa,qpl,qf,qd,f51,qe,f54,qp,qb,Nat.reduceAdd,Nat.zero_add,Nat.add_zero,qs,zg,B0,reduceIte,reduceEqDiff]
 refine qw (us:=[.int .i64 v_1]) rfl (cs':=[.int .i64 (IntKind.wrap .i64 (x9.Term+1)),.int .i64 v_1,.bool true,.bool x9.Leads,v21,
   v25]) hS67 hW rfl rfl (nle rfl) rfl (fun h68 hS69=>?_)
 simp only [qa,qpi,qf,qd,f51,qe,ju,evp,B0,reduceIte,reduceEqDiff]
 refine jk (n:=1) (f:=cI) [v_1] hS69 rfl rfl (fun v70 c71 h72 hv73 hS74=>?_)
 simp only [f54,qp,qb,Nat.reduceAdd,Nat.zero_add,Nat.add_zero,qs,zg,B0,reduceIte,reduceEqDiff]
 refine qw (us:=[v70]) (jd (SlF.one hv73)) (cs':=[.int .i64 (IntKind.wrap .i64 (x9.Term+1)),.int .i64 v_1,.bool true,.bool x9.Leads,v70,
   v25]) (Sep.m1 hS74) hW rfl (qm (SlF.one hv73) zm) (nle rfl) rfl (fun h76 hS77=>?_)
 simp only [qa,qqt,qf,qd,f52,qp,qb,Nat.reduceAdd,Nat.zero_add,Nat.add_zero,qs,ql,B0,reduceIte,reduceEqDiff]
 refine qg (v:=pv0_0) ((zz (Sep.bk _ _ _ (Sep.m2 hS77))).trans rfl) ?_
 simp only [f51,qe,f54,ql,B0,reduceIte,reduceEqDiff]
 refine qg (v := .agg [.int .i64 (IntKind.wrap .i64 (x9.Term+1)),.int .i64 v_1,.bool true,.bool x9.Leads,v70,v25]) ((zu (Sep.bk _ _ _ hS77)).trans rfl) ?_
 simp only [jg,B0,reduceIte,reduceEqDiff]
 refine qg (SlG.ia hv17 hx10) ?_
 simp only [zg,B0,reduceIte,reduceEqDiff]
 refine yi (n:=6) (us:=[.int .i64 (IntKind.wrap .i64 (x9.Term+1)),.int .i64 v_1,.bool true,.bool x9.Leads,v70,v25]) (cs:=[.int .i64 x9.Term,
   .int .i64 x9.Voted,.bool x9.Stands,.bool x9.Leads,v21,v25]) (o:=0) (cs':=[.int .i64 (IntKind.wrap .i64 (x9.Term+1)),.int .i64 v_1,.bool true,.bool x9.Leads,
   v70,v25]) rfl hv17 rfl hx10 (Sep.m4 hS77) hW rfl (qm rfl (qm rfl (qm rfl (qm rfl (qm (SlF.one hv73) (qm (SlF.one hv27) zm)))))) (nle rfl) rfl
   (fun c80 h78 hv81 hS79=>?_)
 simp only [qa,q1c,qf,qd,f52,qp,qb,Nat.reduceAdd,Nat.zero_add,Nat.add_zero,qs,ql,B0,reduceIte,reduceEqDiff]
 refine qg (v:=pv0_0) ((zz (Sep.bk _ _ _ (Sep.m3 hS79))).trans rfl) ?_
 simp only [zn,qb,SlG.plen hv81,qe,qa,B0,reduceIte,reduceEqDiff]
 obtain ⟨oc94,hX96,hk97⟩:=kd hF11
 simp only [qzi]
 refine qcd (σ:=Election) (fun i92 s140=>um v_0 v_1 x9 i92 s140) (fun s fr' h'=>∃ v89 c90,
   fr' 1 = .int .i64 v_1∧fr' 2 = .ptr b1 0∧fr' 4 = .ptr b5 0∧fr' 6 = .ptr b29 0∧SlF Letter.cells 7 93 v89 s.Post c90∧Sep h' lo ([Blk1 b1 [pv0_0,v89,
   pv0_2] 31]++([Blk1 b5 [.nil,.nil,.nil] 31]++([Blk1 b29 [.int .i64 (IntKind.wrap .i64 (x9.Term+1)),.int .i64 v_1,.bool true,.bool x9.Leads,v70,
   v25] 46]++(c80++(c90++(pc0_2++(c71++(c26++(S0)))))))))) hX96 ⟨pv0_1,pc0_1,f51,f52,f53,f54,ph0_1,
   (Sep.m7 (Sep.m7 (Sep.m5 (Sep.m4 (Sep.m7 (Sep.m7 (Sep.m3 (Sep.m7 (Sep.dc (Sep.m7 hS79))))))))))⟩ (by simp only [B0,reduceIte,reduceEqDiff]) (by simp only [B0,reduceIte,
   reduceEqDiff]) (fun _ _ _ h=>h) rfl rfl (fun _ _ _ _ h=>h) (fun _ _ _ _ h=>h) (fun _ _ _ _ h=>h) (by decide) ?_ ?_
 ·rintro i92 s87 fr106 h107 hx113 ⟨v89,c90,f109,f110,f111,f112,hv91,hS108⟩ f114 f115 oc95 hF98 hr99 Q100 hN101 hB105 hK102 hR103 hE104
  unfold um at hF98
  simp only [q0s,qf,qd,f114,qe,qa,qyl,f109,qv,qb,qc6,qw3,za,B0,reduceIte,reduceEqDiff]
  refine q8 (t:=(decide ((i92:Int)≠v_1))) (fun hc116=>?_) (fun hc116=>?_)
  ·rw [iteT hc116] at hF98
   simp only [qyz,jr,f110,qc0,qk,Nat.reduceAdd,Nat.zero_add,Nat.add_zero,qs,qb8,B0,reduceIte,reduceEqDiff]
   refine qdq (Sep.ltk hS108) ?_
   refine qu (v:=v89) ((zz (Sep.bk _ _ _ hS108)).trans rfl) ?_
   simp only [qfd,qk,f109,f112,qc0,Nat.reduceAdd,Nat.zero_add,Nat.add_zero,qs,qb8,B0,reduceIte,reduceEqDiff]
   refine qdq (Sep.ltk (Sep.m2 hS108)) ?_
   refine qu (v := .int .i64 (IntKind.wrap .i64 (x9.Term+1))) ((zz (Sep.bk _ _ _ (Sep.m2 hS108))).trans rfl) ?_
   simp only [f112,zx,qk,Nat.reduceAdd,Nat.zero_add,Nat.add_zero,qs,zv,B0,reduceIte,reduceEqDiff]
   refine qu (v:=v25) ((zz (Sep.bk _ _ _ (Sep.m2 hS108))).trans rfl) ?_
   obtain ⟨v117,hx118,hF119⟩:=qh hF98
   simp only [qer,B0,reduceIte,reduceEqDiff]
   refine qll rfl (qo (SlF.snap hv27 (Sep.m7 hS108) rfl (fun _=>rfl) (fun _=>rfl)) zh) (qb0 (fun b hb=>decide_eq_true hb) x9.Log v117 hx118) ?_
   simp only [f112,qc0,qk,Nat.reduceAdd,Nat.zero_add,Nat.add_zero,qs,qb8,B0,reduceIte,reduceEqDiff]
   refine qdq (Sep.ltk (Sep.m2 hS108)) ?_
   refine qu (v:=v25) ((zz (Sep.bk _ _ _ (Sep.m2 hS108))).trans rfl) ?_
   simp only [qls,qk,SlF.plen hv27,qa1,evp,B0,reduceIte,reduceEqDiff]
   refine qu (v := .agg [.int .i64 (i92:Int),.int .i64 v_1,.int .i64 (IntKind.wrap .i64 (x9.Term+1)),.bool true,.int .i64 v117,
     .int .i64 (List.length x9.Log:Int),.bool false]) rfl ?_
   simp only [wt,evp,B0,reduceIte,reduceEqDiff]
   refine yy (n:=7) (f:=Letter.cells) [(Letter.mk (i92:Int) v_1 (IntKind.wrap .i64 (x9.Term+1)) true v117 (List.length x9.Log:Int) false)] hS108 rfl rfl
     (fun v121 c122 h123 hv124 hS125 hq120=>?_)
   simp only [qcr,B0,reduceIte,reduceEqDiff]
   obtain ⟨l127,hx128,hF129⟩:=qh hF119
   refine yz (f:=Letter.cells) hv91 (Sep.m5 hS125) hW (fun _=>rfl) (fun _=>rfl) (SlF.first hv124 hS125 (fun _=>rfl)) hx128 (fun v130 c131 h132 hv133 hS134=>?_)
   simp only [f110,zx,qk,Nat.reduceAdd,Nat.zero_add,Nat.add_zero,qs,qcv,B0,reduceIte,reduceEqDiff]
   refine xe (us:=[v130]) (jd (SlF.one hv133)) (cs':=[pv0_0,v130,
     pv0_2]) (Sep.m2 hS134) hW rfl (qm (SlF.one hv133) zm) (nle rfl) rfl (fun h136 hS137=>?_)
   simp only [zd,qj,B0,reduceIte,reduceEqDiff]
   have e138:=qi hF129
   exact hN101 _ _ _ e138.symm ⟨v130,c131,f109,f110,f111,f112,hv133,
     (Sep.m7 (Sep.m7 (Sep.m7 (Sep.m7 (Sep.m4 (Sep.m7 (Sep.m7 (Sep.m7 (Sep.dc (Sep.m2 hS137))))))))))⟩ (f114) (f115)
  rw [iteF hc116] at hF98
  simp only [zc,qj,B0,reduceIte,reduceEqDiff]
  have e139:=qi hF98
  exact hN101 _ _ _ e139.symm ⟨v89,c90,f109,f110,f111,f112,hv91,(Sep.m7 (Sep.m7 (Sep.m7 (Sep.m7 (Sep.m7 (Sep.m7 (Sep.m7 (Sep.m7 hS108))))))))⟩ (f114) (f115)
 rintro s141 fr146 h147 rfl ⟨v143,c144,f149,f150,f151,f152,hv145,hS148⟩
 dsimp only [jnO] at hk97
 unfold qc8 at hk97
 simp only [qzw,qf,qd,f150,ql,B0,reduceIte,reduceEqDiff]
 refine qg (v := .agg [pv0_0,v143,pv0_2]) ((zu (Sep.bk _ _ _ hS148)).trans rfl) ?_
 obtain ⟨c153,hv154,hS155⟩:=SlG.cls (e':=(Server.mk (IntKind.wrap .i64 (x9.Term+1)) v_1 true x9.Leads [v_1] x9.Log)) (c:=c80) (os:=c71++(c26)) hv81 rfl hx10 jm
   (Server.RI (x:=(Server.mk (IntKind.wrap .i64 (x9.Term+1)) v_1 true x9.Leads [v_1] x9.Log)) hv73 hv27) (Sep.ni2 (c1:=c71) (c2:=c26) (Sep.m5 (Sep.m7 (Sep.m7 hS148))))
 have hx156:=xd (x':=(Server.mk (IntKind.wrap .i64 (x9.Term+1)) v_1 true x9.Leads [v_1] x9.Log)) hx10
 have hv157:=SlG.toN hv154
 obtain ⟨v158,hx159,hF160⟩:=qh hk97
 simp only [f149,qe,qz,B0,reduceIte,reduceEqDiff]
 refine kq rfl (qhj hW (Election.mk (List.set v_0.Servers v_1.toNat (Server.mk (IntKind.wrap .i64
   (x9.Term+1)) v_1 true x9.Leads [v_1] x9.Log)) s141.Post v_0.Led) pv0_0 c153 hv157 v143 c144 hv145 pv0_2 pc0_2 ph0_2 v_1 v158 hx159 (Sep.m2 (Sep.m5 (Sep.m5 hS155)))) ?_
 rintro _ h169 ⟨c161,c163,v165,c166,rfl,hv162,hv164,hv167,hS170⟩
 simp only [f151,zg,B0,reduceIte,reduceEqDiff]
 refine qw (us:=[pv0_0,v143,v165]) rfl (cs':=[pv0_0,v143,
   v165]) (Sep.m4 hS170) hW rfl (qm (SlN.one hv162) (qm (SlF.one hv164) (qm (SlF.one hv167) zm))) (nle rfl) rfl (fun h171 hS172=>?_)
 simp only [qe,qa,q9,B0,reduceIte,reduceEqDiff]
 have he:=qi hF160
 subst he
 refine jz (qo (kf (bb:=b5) (oo:=0) (v := .agg [pv0_0,v143,
   v165]) (f151) ((zu (Sep.bk _ _ _ hS172)).trans rfl)) (qo (yl (v := .bool true) (rfl)) zh)) ?_
 exact ⟨c161,v143,c163,v165,c166,by first | trivial | rfl,hv162,hv164,hv167,(Sep.m2 (Sep.m2 (Sep.m2 (Sep.dc (Sep.m3 (Sep.dc (Sep.m3 (Sep.dc (hS172)))))))))⟩
theorem qnk {W:Nat→Bool}{h:Heap} (hW:∀ b,
  (geL h.length) b→W b=true) (last_0:Int) (long_1:Int) (l_2:List Int) (r:Bool) (hF:qfx last_0 long_1 l_2=some r) : Ret E W 65 [.int .i64 last_0,
  .int .i64 long_1,lst cI l_2] h (fun v h'=>cut h.length h' E.sz false 9 v=some (.bool r)):=by
 refine Ret.of (fn:=x65) rfl (Run.of ?_)
 unfold qfx at hF
 have zf0:zb [.int .i64 last_0,.int .i64 long_1,lst cI l_2] 0 = .int .i64 last_0:=rfl
 have zf1:zb [.int .i64 last_0,.int .i64 long_1,lst cI l_2] 1 = .int .i64 long_1:=rfl
 have zf2:zb [.int .i64 last_0,.int .i64 long_1,lst cI l_2] 2=lst cI l_2:=rfl
 generalize zb [.int .i64 last_0,.int .i64 long_1,lst cI l_2]=fr0 at zf0 zf1 zf2 ⊢
 have hS:Sep h (geL h.length) []:=Sep.nil h
 obtain ⟨v1,hx2,hF3⟩:=qh hF
 simp only [x65,qf,qd,qe,qa,qzg,zf0,zf2,qz,B0,reduceIte,reduceEqDiff]
 refine jp rfl (qo ji zh) (qb0 (fun b hb=>decide_eq_true hb) l_2 v1 hx2) ?_
 simp only [qv,qb,xj,qe,B0,reduceIte,reduceEqDiff]
 obtain ⟨v7,hx8,hF9⟩:=qh hF3
 refine ja 11 (fun fr' h'=>Sep h' (geL h.length) ([])∧fr' 22 = .bool v7) (fun Q4 hN5=>?_) ?_
 ·simp only [List.take_succ_cons,List.take_zero]
  simp only [qc (g:=11),B0,reduceIte,reduceEqDiff]
  refine qy (t:=(decide (v1<last_0))) (fun hg6=>?_) (fun hg6=>?_)
  ·rw [iteT hg6] at hx8
   simp only [hg6,qc (g:=11),zq,qc (g:=16),y9,qq,qb,zj,qa,qj,B0,reduceIte,reduceEqDiff]
   have e10:=qi hx8
   exact hN5 _ _ ⟨hS,by rw [←e10]; simp only [B0,reduceIte,reduceEqDiff]⟩
  ·rw [iteF hg6] at hx8
   obtain ⟨v11,hx12,hF13⟩:=qh hx8
   simp only [hg6,qc (g:=11),qn,zf0,qe,zf2,qz,B0,reduceIte,reduceEqDiff]
   refine jp rfl (qo ji zh) (qb0 (fun b hb=>decide_eq_true hb) l_2 v11 hx12) ?_
   simp only [hg6,qc (g:=11),qn,qv,qb,yo,qe,B0,reduceIte,reduceEqDiff]
   refine ja 5 (fun fr' h'=>Sep h' (geL h.length) ([])∧fr' 21 = .bool ((decide (last_0=v11))&&(decide ((List.length l_2:Int)≤long_1)))∧fr' 11 = .bool (decide
     (v1<last_0))) (fun Q14 hN15=>?_) ?_
   ·simp only [List.take_succ_cons,List.take_zero]
    simp only [qc (g:=16),B0,reduceIte,reduceEqDiff]
    refine qy (t:=(decide (last_0=v11))) (fun hg16=>?_) (fun hg16=>?_)
    ·simp only [hg16,qc (g:=16),ze,zf1,qe,zf2,zn,qb,zt,qv,qhy,hg6,qc (g:=11),qn,qq,
      zj,qa,qj,B0,reduceIte,reduceEqDiff]
     exact hN15 _ _ ⟨hS,by rw [qba hg16]; simp only [B0,reduceIte,reduceEqDiff],by simp only [hg6,B0,reduceIte,reduceEqDiff]⟩
    ·simp only [hg16,qc (g:=16),jv,hg6,qc (g:=11),qn,qq,qb,zi,qa,qj,B0,reduceIte,reduceEqDiff]
     exact hN15 _ _ ⟨hS,by rw [qbf hg16]; simp only [B0,reduceIte,reduceEqDiff],by simp only [hg6,B0,reduceIte,reduceEqDiff]⟩
   rintro fr17 h20 ⟨hS21,f18,f19⟩
   simp only [List.drop_succ_cons,List.drop_zero]
   simp only [f19,hg6,qq,qb,zi,f18,qa,qj,B0,reduceIte,reduceEqDiff]
   have e22:=qi hF13
   exact hN5 _ _ ⟨hS21,by rw [←e22]; simp only [B0,reduceIte,reduceEqDiff]⟩
 rintro fr23 h25 ⟨hS26,f24⟩
 simp only [List.drop_succ_cons,List.drop_zero]
 simp only [f24,qe,qa,q9,B0,reduceIte,reduceEqDiff]
 have he:=qi hF9
 subst he
 simp only [zl,B0,reduceIte,reduceEqDiff]
 exact rfl
theorem qmf {W:Nat→Bool}{h:Heap}{lo:Nat→Prop}{S0:List Obj} (hW:∀ b,
  lo b→W b=true) (k:Nat) (pv0:XV) (pc0:List Obj) (l_0:List Int) (ph0:SlF cI 1 3 pv0 l_0 pc0) (n_1:Int) (r:List Int) (hF:qcx k l_0 n_1=some r)
  (hS:Sep h lo (pc0++(S0))) : Ret E W 117 [pv0,.int .i64 n_1] h (fun v h'=>∃ rv0 rc0,v=rv0∧SlF cI 1 3 rv0 r rc0∧Sep h' lo (rc0++(S0))):=by
 refine Ret.of (fn:=qoy) rfl (Run.of ?_)
 unfold qcx at hF
 have zf0:zb [pv0,.int .i64 n_1] 0=pv0:=rfl
 have zf1:zb [pv0,.int .i64 n_1] 1 = .int .i64 n_1:=rfl
 generalize zb [pv0,.int .i64 n_1]=fr0 at zf0 zf1 ⊢
 simp only [qoy,qf,qd,qe,qa,qn0,qtr,B0,reduceIte,reduceEqDiff]
 obtain ⟨oc5,hX7,hk8⟩:=kd hF
 simp only [qua]
 refine qgm (σ:=Int) (fun s47=>qde l_0 n_1 s47) (fun s fr' h'=>fr' 0=pv0∧fr' 1 = .int .i64 n_1∧fr' 5 = .int .i64 s∧Sep h' lo (pc0++(S0))) hX7 ⟨zf0,
   zf1,rfl,hS⟩ (fun _ _ _ h=>h) ?_ ?_
 ·rintro s2 fr17 h18 ⟨f20,f21,f22,hS19⟩ oc6 hF9 hr10 Q11 hN12 hK13 hR14 hE15
  unfold qde at hF9
  simp only [qqa,qf,qd,f22,qe,f20,zn,qb,SlF.plen ph0,qv,qdj,B0,reduceIte,reduceEqDiff]
  obtain ⟨v27,hx28,hF29⟩:=qh hF9
  refine ja 7 (fun fr' h'=>Sep h' lo (pc0++(S0))∧fr' 18 = .bool v27∧fr' 0=pv0∧fr' 1 = .int .i64 n_1∧fr' 5 = .int .i64 s2) (fun Q24 hN25=>?_) ?_
  ·simp only [List.take_succ_cons,List.take_zero]
   simp only [qc (g:=11),B0,reduceIte,reduceEqDiff]
   refine qy (t:=(decide (s2<(List.length l_0:Int)))) (fun hg26=>?_) (fun hg26=>?_)
   ·rw [iteT hg26] at hx28
    obtain ⟨x30,hx31,hF32⟩:=qh hx28
    simp only [hg26,qc (g:=11),ze,f20,qe,f22,jg,B0,reduceIte,reduceEqDiff]
    obtain ⟨b33,hb34⟩:=SlF.isrow ph0 (wv hx31)
    refine qg (SlF.ia ph0 hb34 hx31) ?_
    simp only [hg26,qc (g:=11),ze,ql,B0,reduceIte,reduceEqDiff]
    refine qg (v := .int .i64 x30) ((SlF.ld (o:=0) ph0 hS19 hb34 hx31 (fun _=>rfl) (nle rfl)).trans rfl) ?_
    simp only [hg26,qc (g:=11),ze,f21,qe,qv,qb,qdj,qq,zj,qa,qj,B0,reduceIte,reduceEqDiff]
    have e35:=qi hF32
    exact hN25 _ _ ⟨hS19,by rw [←e35]; simp only [B0,reduceIte,reduceEqDiff],f20,f21,f22⟩
   ·rw [iteF hg26] at hx28
    simp only [hg26,qc (g:=11),jv,qq,qb,zi,qa,qj,B0,reduceIte,reduceEqDiff]
    have e36:=qi hx28
    exact hN25 _ _ ⟨hS19,by rw [←e36]; simp only [B0,reduceIte,reduceEqDiff],f20,f21,f22⟩
  rintro fr37 h42 ⟨hS43,f38,f39,f40,f41⟩
  simp only [List.drop_succ_cons,List.drop_zero]
  simp only [qa,f38,za,B0,reduceIte,reduceEqDiff]
  refine q8 (t:=v27) (fun hc44=>?_) (fun hc44=>?_)
  ·rw [iteT hc44] at hF29
   simp only [zc,qaw,qd,f41,qe,qv,qb,qbj,qa,qbc,qj,B0,reduceIte,reduceEqDiff]
   have e45:=qi hF29
   exact hN12 _ _ _ e45.symm ⟨f39,f40,rfl,hS43⟩
  rw [iteF hc44] at hF29
  simp only [qdl,qcm,qea,B0,reduceIte,reduceEqDiff]
  have e46:=qi hF29
  exact hK13 _ _ _ e46.symm ⟨f39,f40,f41,hS43⟩
 rintro s48 fr49 h50 rfl ⟨f52,f53,f54,hS51⟩
 dsimp only [jnO] at hk8
 unfold qe5 at hk8
 simp only [qtj,qf,qd,f54,qe,f52,zn,qb,SlF.plen ph0,qv,qdj,B0,reduceIte,reduceEqDiff]
 obtain ⟨v58,hx59,hF60⟩:=qh hk8
 refine ja 7 (fun fr' h'=>Sep h' lo (pc0++(S0))∧fr' 32 = .bool v58∧fr' 0=pv0∧fr' 1 = .int .i64 n_1∧fr' 5 = .int .i64 s48) (fun Q55 hN56=>?_) ?_
 ·simp only [List.take_succ_cons,List.take_zero]
  simp only [qc (g:=25),B0,reduceIte,reduceEqDiff]
  refine qy (t:=(decide (s48<(List.length l_0:Int)))) (fun hg57=>?_) (fun hg57=>?_)
  ·rw [iteT hg57] at hx59
   obtain ⟨x61,hx62,hF63⟩:=qh hx59
   simp only [hg57,qc (g:=25),ze,f52,qe,f54,jg,B0,reduceIte,reduceEqDiff]
   obtain ⟨b64,hb65⟩:=SlF.isrow ph0 (wv hx62)
   refine qg (SlF.ia ph0 hb65 hx62) ?_
   simp only [hg57,qc (g:=25),ze,ql,B0,reduceIte,reduceEqDiff]
   refine qg (v := .int .i64 x61) ((SlF.ld (o:=0) ph0 hS51 hb65 hx62 (fun _=>rfl) (nle rfl)).trans rfl) ?_
   simp only [hg57,qc (g:=25),ze,f53,qe,qv,qb,yo,qq,zj,qa,qj,B0,reduceIte,reduceEqDiff]
   have e66:=qi hF63
   exact hN56 _ _ ⟨hS51,by rw [←e66]; simp only [B0,reduceIte,reduceEqDiff],f52,f53,f54⟩
  ·rw [iteF hg57] at hx59
   simp only [hg57,qc (g:=25),jv,qq,qb,zi,qa,qj,B0,reduceIte,reduceEqDiff]
   have e67:=qi hx59
   exact hN56 _ _ ⟨hS51,by rw [←e67]; simp only [B0,reduceIte,reduceEqDiff],f52,f53,f54⟩
 rintro fr68 h73 ⟨hS74,f69,f70,f71,f72⟩
 simp only [List.drop_succ_cons,List.drop_zero]
 simp only [qa,qsy,f69,za,B0,reduceIte,reduceEqDiff]
 refine q8 (t:=v58) (fun hc75=>?_) (fun hc75=>?_)
 ·rw [iteT hc75] at hF60
  simp only [qf,qd,f70,qe,qa,q9,B0,reduceIte,reduceEqDiff]
  have he:=qi hF60
  subst he
  simp only [zl,B0,reduceIte,reduceEqDiff]
  exact ⟨pv0,pc0,by first | trivial | rfl,ph0,hS74⟩
 rw [iteF hc75] at hF60
 obtain ⟨l76,hx77,hF78⟩:=qh hF60
 simp only [zc,qqh,qf,qd,qe,qa,qsm,f70,f72,qgr,Option.map_some,Option.map_none,B0,reduceIte,reduceEqDiff]
 obtain ⟨w79,i80,he81,hw82⟩:=SlF.win (f:=cI) (ty:=3) none (some s48) ph0 hx77 hS74
 refine qg he81 ?_
 simp only [wa,B0,reduceIte,reduceEqDiff]
 obtain ⟨l83,hx84,hF85⟩:=qh hF78
 refine yj (f:=cI) SlF.nil hS74 hW (fun _=>rfl) (fun _=>rfl) (SlW.first hw82 ph0 hS74 (fun _=>rfl)) hx84 (fun v86 c87 h88 hv89 hS90=>?_)
 simp only [qe,qa,qpx,qf,qd,f71,ju,evp,B0,reduceIte,reduceEqDiff]
 refine jk (n:=1) (f:=cI) [n_1] hS90 rfl rfl (fun v92 c93 h94 hv95 hS96=>?_)
 simp only [wa,B0,reduceIte,reduceEqDiff]
 obtain ⟨l98,hx99,hF100⟩:=qh hF85
 refine yj (f:=cI) hv89 (Sep.m1 hS96) hW (fun _=>rfl) (fun _=>rfl) (SlF.first hv95 hS96 (fun _=>rfl)) hx99 (fun v101 c102 h103 hv104 hS105=>?_)
 obtain ⟨l107,hx108,hF109⟩:=qh hF100
 simp only [qe,qa,qqv,qf,qd,f70,f72,qgr,Option.map_some,Option.map_none,B0,reduceIte,reduceEqDiff]
 obtain ⟨w110,i111,he112,hw113⟩:=SlF.win (f:=cI) (ty:=3) (some s48) none ph0 hx108 (Sep.m2 hS105)
 refine qg he112 ?_
 simp only [wa,B0,reduceIte,reduceEqDiff]
 obtain ⟨l114,hx115,hF116⟩:=qh hF109
 refine yj (f:=cI) hv104 hS105 hW (fun _=>rfl) (fun _=>rfl) (SlW.first hw113 ph0 (Sep.m2 hS105) (fun _=>rfl)) hx115 (fun v117 c118 h119 hv120 hS121=>?_)
 simp only [qe,qa,q9,B0,reduceIte,reduceEqDiff]
 have he:=qi hF116
 subst he
 simp only [zl,B0,reduceIte,reduceEqDiff]
 exact ⟨v117,c118,by first | trivial | rfl,hv120,(Sep.dc (Sep.m1 (Sep.dc (Sep.m1 hS121))))⟩
end Go.Proofs.Ytpddolihbnfahaa.X
namespace Go.Proofs.Ytpddolihbnfahaa.X
open Go
open Nat (reduceEqDiff)
theorem qkv {W:Nat→Bool}{h:Heap}{lo:Nat→Prop}{S0:List Obj} (hW:∀ b,
  lo b→W b=true) (k:Nat) (v_0:Election) (pv0_0:XV) (pc0_0:List Obj) (ph0_0:SlN Server.R 6 46 pv0_0 v_0.Servers pc0_0) (pv0_1:XV) (pc0_1:List Obj)
  (ph0_1:SlF Letter.cells 7 93 pv0_1 v_0.Post pc0_1) (pv0_2:XV) (pc0_2:List Obj) (ph0_2:SlF Vote.cells 2 39 pv0_2 v_0.Led pc0_2) (v_1:Letter) (r:Election)
  (hF:qdb k v_0 v_1=some r) (hS:Sep h lo (pc0_0++(pc0_1++(pc0_2++(S0))))) : Ret E W 98 [.agg [pv0_0,pv0_1,pv0_2],.agg [.int .i64 v_1.To,
  .int .i64 v_1.From,.int .i64 v_1.Term,.bool v_1.Asks,.int .i64 v_1.Last,.int .i64 v_1.Long,.bool v_1.Grant]] h (fun v h'=>∃ rc0_0 rv0_1 rc0_1 rv0_2 rc0_2,
  v = .agg [pv0_0,rv0_1,rv0_2]∧SlN Server.R 6 46 pv0_0 r.Servers rc0_0∧SlF Letter.cells 7 93 rv0_1 r.Post rc0_1∧SlF Vote.cells 2 39 rv0_2 r.Led rc0_2∧Sep h' lo
  (rc0_0++(rc0_1++(rc0_2++(S0))))):=by
 refine Ret.of (fn:=x98) rfl (Run.of ?_)
 unfold qdb at hF
 have zf0:zb [.agg [pv0_0,pv0_1,pv0_2],.agg [.int .i64 v_1.To,.int .i64 v_1.From,.int .i64 v_1.Term,.bool v_1.Asks,.int .i64 v_1.Last,.int .i64 v_1.Long,
   .bool v_1.Grant]] 0 = .agg [pv0_0,pv0_1,pv0_2]:=rfl
 have zf1:zb [.agg [pv0_0,pv0_1,pv0_2],.agg [.int .i64 v_1.To,.int .i64 v_1.From,.int .i64 v_1.Term,.bool v_1.Asks,.int .i64 v_1.Last,.int .i64 v_1.Long,
   .bool v_1.Grant]] 1 = .agg [.int .i64 v_1.To,.int .i64 v_1.From,.int .i64 v_1.Term,.bool v_1.Asks,.int .i64 v_1.Last,.int .i64 v_1.Long,.bool v_1.Grant]:=rfl
 generalize zb [.agg [pv0_0,pv0_1,pv0_2],.agg [.int .i64 v_1.To,.int .i64 v_1.From,.int .i64 v_1.Term,.bool v_1.Asks,.int .i64 v_1.Last,.int .i64 v_1.Long,
   .bool v_1.Grant]]=fr0 at zf0 zf1 ⊢
 simp only [x98,qf,qd,yb,zf0,B0,reduceIte,reduceEqDiff]
 refine kg (cs:=[pv0_0,pv0_1,pv0_2]) hS rfl rfl (qm (SlN.one ph0_0) (qm (SlF.one ph0_1) (qm (SlF.one ph0_2) zm))) (fun b1 h2 hS3=>?_)
 simp only [yb,zf1,B0,reduceIte,reduceEqDiff]
 refine kg (cs:=[.int .i64 v_1.To,.int .i64 v_1.From,.int .i64 v_1.Term,.bool v_1.Asks,.int .i64 v_1.Last,.int .i64 v_1.Long,
   .bool v_1.Grant]) hS3 rfl rfl rfl (fun b5 h6 hS7=>?_)
 simp only [jj,B0,reduceIte,reduceEqDiff]
 refine z8 hS7 (fun b9 h10 hS11=>?_)
 simp only [qa,B0,reduceIte,reduceEqDiff]
 refine jb (Sep.m1 hS11) hW (by simp only [B0,reduceIte,reduceEqDiff]) (fun h13 hS14=>?_)
 simp only [z9,qqy,qf,qd,qp,qb,Nat.reduceAdd,Nat.zero_add,Nat.add_zero,qs,ql,B0,reduceIte,reduceEqDiff]
 refine qg (v:=pv0_0) ((zz (Sep.bk _ _ _ (Sep.m1 hS14))).trans rfl) ?_
 simp only [qp,qb,Nat.reduceAdd,Nat.zero_add,Nat.add_zero,qr,ql,B0,reduceIte,reduceEqDiff]
 refine qg (v := .int .i64 v_1.To) rfl ?_
 obtain ⟨x15,hx16,hF17⟩:=qh hF
 simp only [jg,B0,reduceIte,reduceEqDiff]
 obtain ⟨b18,hb19⟩:=SlN.isrow ph0_0 (wv hx16)
 refine qg (SlN.ia ph0_0 hb19 hx16) ?_
 obtain ⟨c20,cs21,os22,hv23,hR24,hS25⟩:=SlG.opn (SlN.toG ph0_0 hb19 Server.RO.len) hx16 jm Server.RO.len (Sep.m2 hS14)
 obtain ⟨v27,c28,v31,c32,hv29,hv33,rfl,rfl⟩:=hR24
 have hS26:=Sep.no2 hS25
 simp only [ql,B0,reduceIte,reduceEqDiff]
 refine qg (v := .agg [.int .i64 x15.Term,.int .i64 x15.Voted,.bool x15.Stands,.bool x15.Leads,v27,v31]) ((SlG.lds (o:=0) hv23 rfl hx16 hS26 (nle rfl)).trans rfl) ?_
 simp only [jj,B0,reduceIte,reduceEqDiff]
 refine z8 hS26 (fun b35 h36 hS37=>?_)
 simp only [zg,B0,reduceIte,reduceEqDiff]
 refine qw (us:=[.int .i64 x15.Term,.int .i64 x15.Voted,.bool x15.Stands,.bool x15.Leads,v27,v31]) rfl (cs':=[.int .i64 x15.Term,.int .i64 x15.Voted,
   .bool x15.Stands,.bool x15.Leads,v27,
   v31]) hS37 hW rfl (qm rfl (qm rfl (qm rfl (qm rfl (qm (SlF.one hv29) (qm (SlF.one hv33) zm)))))) (nle rfl) rfl (fun h39 hS40=>?_)
 simp only [qa,qtt,qf,qd,qp,qb,Nat.reduceAdd,Nat.zero_add,Nat.add_zero,qr,ql,B0,reduceIte,reduceEqDiff]
 refine qg (v := .int .i64 v_1.Term) rfl ?_
 simp only [qp,qb,Nat.reduceAdd,Nat.zero_add,Nat.add_zero,qs,ql,B0,reduceIte,reduceEqDiff]
 refine qg (v := .int .i64 x15.Term) ((zz (Sep.bk _ _ _ hS40)).trans rfl) ?_
 simp only [qv,qb,xj,qa,q0d,za,B0,reduceIte,reduceEqDiff]
 obtain ⟨s41,hX47,hk48⟩:=qh hF17
 refine uv (t:=(decide (x15.Term<v_1.Term))) (fun fr' h'=>∃ v43 c44,fr' 2 = .ptr b1 0∧fr' 3 = .ref [.int .i64 v_1.To,.int .i64 v_1.From,.int .i64 v_1.Term,
   .bool v_1.Asks,.int .i64 v_1.Last,.int .i64 v_1.Long,
   .bool v_1.Grant] 0∧fr' 4 = .ptr b9 0∧fr' 5 = .ptr b35 0∧SlF cI 1 3 v43 s41.Got c44∧Sep h' lo ([Blk1 b1 [pv0_0,pv0_1,pv0_2] 31]++([Blk1 b9 [.nil,.nil,
   .nil] 31]++([Blk1 b35 [.int .i64 s41.Term,.int .i64 s41.Voted,.bool s41.Stands,.bool s41.Leads,v43,
   v31] 46]++(c20++(pc0_1++(pc0_2++(c44++(c32++(S0)))))))))) (fun Q49 hN50 hR51 hE52=>⟨fun hc53=>?_,fun hc53=>?_⟩) ?_
 ·rw [iteT hc53] at hX47
  simp only [qxg,qf,qd,qp,qb,Nat.reduceAdd,Nat.zero_add,Nat.add_zero,qr,ql,B0,reduceIte,reduceEqDiff]
  refine qg (v := .int .i64 v_1.Term) rfl ?_
  simp only [qp,qb,Nat.reduceAdd,Nat.zero_add,Nat.add_zero,qs,zg,B0,reduceIte,reduceEqDiff]
  refine qw (us:=[.int .i64 v_1.Term]) rfl (cs':=[.int .i64 v_1.Term,.int .i64 x15.Voted,.bool x15.Stands,.bool x15.Leads,v27,
    v31]) hS40 hW rfl rfl (nle rfl) rfl (fun h54 hS55=>?_)
  simp only [qa,qyv,qf,qd,qp,qb,Nat.reduceAdd,Nat.zero_add,Nat.add_zero,qs,zg,B0,reduceIte,reduceEqDiff]
  refine qw (us:=[.int .i64 (-1)]) rfl (cs':=[.int .i64 v_1.Term,.int .i64 (-1),.bool x15.Stands,.bool x15.Leads,v27,
    v31]) hS55 hW rfl rfl (nle rfl) rfl (fun h56 hS57=>?_)
  simp only [qa,qzm,qf,qd,qp,qb,Nat.reduceAdd,Nat.zero_add,Nat.add_zero,qs,zg,B0,reduceIte,reduceEqDiff]
  refine qw (us:=[.bool false]) rfl (cs':=[.int .i64 v_1.Term,.int .i64 (-1),.bool false,.bool x15.Leads,v27,
    v31]) hS57 hW rfl rfl (nle rfl) rfl (fun h58 hS59=>?_)
  simp only [qa,qx1,qf,qd,qp,qb,Nat.reduceAdd,Nat.zero_add,Nat.add_zero,qs,zg,B0,reduceIte,reduceEqDiff]
  refine qw (us:=[.bool false]) rfl (cs':=[.int .i64 v_1.Term,.int .i64 (-1),.bool false,.bool false,v27,v31]) hS59 hW rfl rfl (nle rfl) rfl (fun h60 hS61=>?_)
  simp only [qa,qd,qp,qb,Nat.reduceAdd,Nat.zero_add,Nat.add_zero,qs,zg,B0,reduceIte,reduceEqDiff]
  refine qw (us:=[.nil]) rfl (cs':=[.int .i64 v_1.Term,.int .i64 (-1),.bool false,.bool false,.nil,v31]) hS61 hW rfl rfl (nle rfl) rfl (fun h62 hS63=>?_)
  simp only [qa,qj,B0,reduceIte,reduceEqDiff]
  have e64:=qi hX47
  subst e64
  exact hN50 _ _ ⟨.nil,[],rfl,rfl,rfl,rfl,SlF.nil,((Sep.m6 (Sep.m5 (Sep.m4 (Sep.m4 (Sep.m6 (Sep.m6 (Sep.m2 (Sep.dc (Sep.m2 hS63))))))))) : Sep _ lo ([Blk1 b1 [pv0_0,
    pv0_1,pv0_2] 31]++([Blk1 b9 [.nil,.nil,.nil] 31]++([Blk1 b35 [.int .i64 v_1.Term,.int .i64 (-1),.bool false,.bool false,.nil,
    v31] 46]++(c20++(pc0_1++(pc0_2++(c32++(S0)))))))))⟩
 ·rw [iteF hc53] at hX47
  simp only [zc,qj,B0,reduceIte,reduceEqDiff]
  have e65:=qi hX47
  subst e65
  exact hN50 _ _ ⟨v27,c28,rfl,rfl,rfl,rfl,hv29,(Sep.m7 (Sep.m6 (Sep.m5 (Sep.m5 (Sep.m7 (Sep.m7 (Sep.m3 (Sep.m3 hS40))))))))⟩
 rintro fr66 h67 ⟨v43,c44,f69,f70,f71,f72,hv45,hS68⟩
 unfold qej at hk48
 simp only [qt5,qf,qd,f70,qp,qb,Nat.reduceAdd,Nat.zero_add,Nat.add_zero,qr,ql,B0,reduceIte,reduceEqDiff]
 refine qg (v := .bool v_1.Asks) rfl ?_
 simp only [qa,qre,za,B0,reduceIte,reduceEqDiff]
 refine q8 (t:=v_1.Asks) (fun hc73=>?_) (fun hc73=>?_)
 ·rw [iteT hc73] at hk48
  simp only [qph,qf,qd,f70,qp,qb,Nat.reduceAdd,Nat.zero_add,Nat.add_zero,qr,ql,B0,reduceIte,reduceEqDiff]
  refine qg (v := .int .i64 v_1.Term) rfl ?_
  simp only [f72,qp,qb,Nat.reduceAdd,Nat.zero_add,Nat.add_zero,qs,ql,B0,reduceIte,reduceEqDiff]
  refine qg (v := .int .i64 s41.Term) ((zz (Sep.bk _ _ _ (Sep.m2 hS68))).trans rfl) ?_
  simp only [qv,qb,yo,qe,B0,reduceIte,reduceEqDiff]
  refine ja 11 (fun fr' h'=>Sep h' lo ([Blk1 b1 [pv0_0,pv0_1,pv0_2] 31]++([Blk1 b9 [.nil,.nil,.nil] 31]++([Blk1 b35 [.int .i64 s41.Term,.int .i64 s41.Voted,
    .bool s41.Stands,.bool s41.Leads,v43,
    v31] 46]++(c20++(pc0_1++(pc0_2++(c44++(c32++(S0)))))))))∧fr' 43 = .bool ((decide (v_1.Term=s41.Term))&&((decide (s41.Voted=(-1)))||(decide
    (s41.Voted=v_1.From))))∧fr' 2 = .ptr b1 0∧fr' 3 = .ref [.int .i64 v_1.To,.int .i64 v_1.From,.int .i64 v_1.Term,.bool v_1.Asks,.int .i64 v_1.Last,
    .int .i64 v_1.Long,.bool v_1.Grant] 0∧fr' 4 = .ptr b9 0∧fr' 5 = .ptr b35 0) (fun Q74 hN75=>?_) ?_
  ·simp only [List.take_succ_cons,List.take_zero]
   simp only [qc (g:=32),B0,reduceIte,reduceEqDiff]
   refine qy (t:=(decide (v_1.Term=s41.Term))) (fun hg76=>?_) (fun hg76=>?_)
   ·simp only [hg76,qc (g:=32),ze,f72,qp,qb,Nat.reduceAdd,Nat.zero_add,Nat.add_zero,qs,ql,B0,reduceIte,reduceEqDiff]
    refine qg (v := .int .i64 s41.Voted) ((zz (Sep.bk _ _ _ (Sep.m2 hS68))).trans rfl) ?_
    simp only [hg76,qc (g:=32),ze,qv,qb,yo,qe,B0,reduceIte,reduceEqDiff]
    refine ja 6 (fun fr' h'=>Sep h' lo ([Blk1 b1 [pv0_0,pv0_1,pv0_2] 31]++([Blk1 b9 [.nil,.nil,.nil] 31]++([Blk1 b35 [.int .i64 s41.Term,.int .i64 s41.Voted,
      .bool s41.Stands,.bool s41.Leads,v43,
      v31] 46]++(c20++(pc0_1++(pc0_2++(c44++(c32++(S0)))))))))∧fr' 42 = .bool ((decide (s41.Voted=(-1)))||(decide
      (s41.Voted=v_1.From)))∧fr' 2 = .ptr b1 0∧fr' 3 = .ref [.int .i64 v_1.To,.int .i64 v_1.From,.int .i64 v_1.Term,.bool v_1.Asks,.int .i64 v_1.Last,
      .int .i64 v_1.Long,.bool v_1.Grant] 0∧fr' 4 = .ptr b9 0∧fr' 5 = .ptr b35 0∧fr' 32 = .bool (decide (v_1.Term=s41.Term))) (fun Q77 hN78=>?_) ?_
    ·simp only [List.take_succ_cons,List.take_zero]
     simp only [qc (g:=36),B0,reduceIte,reduceEqDiff]
     refine qy (t:=(decide (s41.Voted=(-1)))) (fun hg79=>?_) (fun hg79=>?_)
     ·simp only [hg79,qc (g:=36),zq,hg76,qc (g:=32),ze,qq,qb,zj,qa,qj,B0,reduceIte,
       reduceEqDiff]
      exact hN78 _ _ ⟨(Sep.m7 (Sep.m7 (Sep.m7 (Sep.m7 (Sep.m7 (Sep.m7 (Sep.m7 (Sep.m7 hS68)))))))),by rw [orT hg79]; simp only [B0,reduceIte,reduceEqDiff],f69,f70,f71,
        f72,by simp only [hg76,B0,reduceIte,reduceEqDiff]⟩
     ·simp only [hg79,qc (g:=36),qn,f72,qp,qb,Nat.reduceAdd,Nat.zero_add,Nat.add_zero,qs,ql,B0,reduceIte,reduceEqDiff]
      refine qg (v := .int .i64 s41.Voted) ((zz (Sep.bk _ _ _ (Sep.m2 hS68))).trans rfl) ?_
      simp only [hg79,qc (g:=36),qn,f70,qp,qb,Nat.reduceAdd,Nat.zero_add,Nat.add_zero,qr,ql,B0,reduceIte,reduceEqDiff]
      refine qg (v := .int .i64 v_1.From) rfl ?_
      simp only [hg79,qc (g:=36),qn,qv,qb,yo,hg76,qc (g:=32),ze,qq,zi,qa,qj,B0,
        reduceIte,reduceEqDiff]
      exact hN78 _ _ ⟨(Sep.m7 (Sep.m7 (Sep.m7 (Sep.m7 (Sep.m7 (Sep.m7 (Sep.m7 (Sep.m7 hS68)))))))),by rw [orF hg79]; simp only [B0,reduceIte,reduceEqDiff],f69,f70,f71,
        f72,by simp only [hg76,B0,reduceIte,reduceEqDiff]⟩
    rintro fr80 h87 ⟨hS88,f81,f82,f83,f84,f85,f86⟩
    simp only [List.drop_succ_cons,List.drop_zero]
    simp only [f86,hg76,qq,qb,zj,f81,qa,qj,B0,reduceIte,reduceEqDiff]
    exact hN75 _ _ ⟨(Sep.m7 (Sep.m7 (Sep.m7 (Sep.m7 (Sep.m7 (Sep.m7 (Sep.m7 (Sep.m7 hS88)))))))),by rw [qba hg76]; simp only [B0,reduceIte,reduceEqDiff],f82,f83,f84,
      f85⟩
   ·simp only [hg76,qc (g:=32),jv,qc (g:=36),y9,qq,qb,zi,qa,qj,B0,reduceIte,reduceEqDiff]
    exact hN75 _ _ ⟨(Sep.m7 (Sep.m7 (Sep.m7 (Sep.m7 (Sep.m7 (Sep.m7 (Sep.m7 (Sep.m7 hS68)))))))),by rw [qbf hg76]; simp only [B0,reduceIte,reduceEqDiff],f69,f70,f71,
      f72⟩
  rintro fr89 h95 ⟨hS96,f90,f91,f92,f93,f94⟩
  simp only [List.drop_succ_cons,List.drop_zero]
  simp only [f90,qe,B0,reduceIte,reduceEqDiff]
  obtain ⟨v100,hx101,hF102⟩:=qh hk48
  refine ja 8 (fun fr' h'=>Sep h' lo ([Blk1 b1 [pv0_0,pv0_1,pv0_2] 31]++([Blk1 b9 [.nil,.nil,.nil] 31]++([Blk1 b35 [.int .i64 s41.Term,.int .i64 s41.Voted,
    .bool s41.Stands,.bool s41.Leads,v43,
    v31] 46]++(c20++(pc0_1++(pc0_2++(c44++(c32++(S0)))))))))∧fr' 52 = .bool v100∧fr' 2 = .ptr b1 0∧fr' 3 = .ref [.int .i64 v_1.To,.int .i64 v_1.From,
    .int .i64 v_1.Term,.bool v_1.Asks,.int .i64 v_1.Last,.int .i64 v_1.Long,.bool v_1.Grant] 0∧fr' 4 = .ptr b9 0∧fr' 5 = .ptr b35 0) (fun Q97 hN98=>?_) ?_
  ·simp only [List.take_succ_cons,List.take_zero]
   simp only [qc (g:=44),B0,reduceIte,reduceEqDiff]
   refine qy (t:=((decide (v_1.Term=s41.Term))&&((decide (s41.Voted=(-1)))||(decide (s41.Voted=v_1.From))))) (fun hg99=>?_) (fun hg99=>?_)
   ·rw [iteT hg99] at hx101
    simp only [hg99,qc (g:=44),ze,f92,qp,qb,Nat.reduceAdd,Nat.zero_add,Nat.add_zero,qr,ql,B0,reduceIte,reduceEqDiff]
    refine qg (v := .int .i64 v_1.Last) rfl ?_
    simp only [hg99,qc (g:=44),ze,f92,qp,qb,Nat.reduceAdd,Nat.zero_add,Nat.add_zero,qr,ql,B0,reduceIte,reduceEqDiff]
    refine qg (v := .int .i64 v_1.Long) rfl ?_
    simp only [hg99,qc (g:=44),ze,f94,qp,qb,Nat.reduceAdd,Nat.zero_add,Nat.add_zero,qs,ql,B0,reduceIte,reduceEqDiff]
    refine qg (v:=v31) ((zz (Sep.bk _ _ _ (Sep.m2 hS96))).trans rfl) ?_
    obtain ⟨v103,hx104,hF105⟩:=qh hx101
    simp only [hg99,qc (g:=44),ze,qz,B0,reduceIte,reduceEqDiff]
    refine jp rfl (qo zf (qo zf (qo (SlF.snap hv33 (Sep.m7 hS96) rfl (fun _=>rfl) (fun _=>rfl)) zh))) (qnk
      (fun b hb=>decide_eq_true hb) v_1.Last v_1.Long x15.Log v103 hx104) ?_
    simp only [hg99,qq,qb,zj,qa,qj,B0,reduceIte,reduceEqDiff]
    have e106:=qi hF105
    exact hN98 _ _ ⟨(Sep.m7 (Sep.m7 (Sep.m7 (Sep.m7 (Sep.m7 (Sep.m7 (Sep.m7 (Sep.m7 hS96)))))))),by rw [←e106]; simp only [B0,reduceIte,reduceEqDiff],f91,f92,f93,f94⟩
   ·rw [iteF hg99] at hx101
    simp only [hg99,qc (g:=44),jv,qq,qb,zi,qa,qj,B0,reduceIte,reduceEqDiff]
    have e107:=qi hx101
    exact hN98 _ _ ⟨(Sep.m7 (Sep.m7 (Sep.m7 (Sep.m7 (Sep.m7 (Sep.m7 (Sep.m7 (Sep.m7 hS96)))))))),by rw [←e107]; simp only [B0,reduceIte,reduceEqDiff],f91,f92,f93,f94⟩
  rintro fr108 h114 ⟨hS115,f109,f110,f111,f112,f113⟩
  simp only [List.drop_succ_cons,List.drop_zero]
  simp only [f109,qe,qa,qte,qf,qd,B0,reduceIte,reduceEqDiff]
  refine ja 5 (fun fr' h'=>Sep h' lo ([Blk1 b1 [pv0_0,pv0_1,pv0_2] 31]++([Blk1 b9 [.nil,.nil,.nil] 31]++([Blk1 b35 [.int .i64 s41.Term,.int .i64 s41.Voted,
    .bool s41.Stands,.bool s41.Leads,v43,
    v31] 46]++(c20++(pc0_1++(pc0_2++(c44++(c32++(S0)))))))))∧fr' 59 = .bool (v100&&(decide
    ((List.length v_0.Post:Int)<20)))∧fr' 2 = .ptr b1 0∧fr' 3 = .ref [.int .i64 v_1.To,.int .i64 v_1.From,.int .i64 v_1.Term,.bool v_1.Asks,.int .i64 v_1.Last,
    .int .i64 v_1.Long,.bool v_1.Grant] 0∧fr' 4 = .ptr b9 0∧fr' 5 = .ptr b35 0∧fr' 6 = .bool v100) (fun Q116 hN117=>?_) ?_
  ·simp only [List.take_succ_cons,List.take_zero]
   simp only [qc (g:=54),B0,reduceIte,reduceEqDiff]
   refine qy (t:=v100) (fun hg118=>?_) (fun hg118=>?_)
   ·simp only [hg118,qc (g:=54),ze,f110,qp,qb,Nat.reduceAdd,Nat.zero_add,Nat.add_zero,qs,ql,B0,reduceIte,reduceEqDiff]
    refine qg (v:=pv0_1) ((zz (Sep.bk _ _ _ hS115)).trans rfl) ?_
    simp only [hg118,qc (g:=54),ze,zn,qb,SlF.plen ph0_1,qv,qdj,qq,zj,qa,qj,B0,reduceIte,reduceEqDiff]
    exact hN117 _ _ ⟨(Sep.m7 (Sep.m7 (Sep.m7 (Sep.m7 (Sep.m7 (Sep.m7 (Sep.m7 (Sep.m7 hS115)))))))),by rw [qba hg118]; simp only [B0,reduceIte,reduceEqDiff],f110,f111,
      f112,f113,by simp only [B0,reduceIte,reduceEqDiff,hg118]⟩
   ·simp only [hg118,qc (g:=54),jv,qq,qb,zi,qa,qj,B0,reduceIte,reduceEqDiff]
    exact hN117 _ _ ⟨(Sep.m7 (Sep.m7 (Sep.m7 (Sep.m7 (Sep.m7 (Sep.m7 (Sep.m7 (Sep.m7 hS115)))))))),by rw [qbf hg118]; simp only [B0,reduceIte,reduceEqDiff],f110,f111,
      f112,f113,by simp only [B0,reduceIte,reduceEqDiff,hg118]⟩
  rintro fr119 h126 ⟨hS127,f120,f121,f122,f123,f124,f125⟩
  simp only [List.drop_succ_cons,List.drop_zero]
  simp only [qa,qya,f120,za,B0,reduceIte,reduceEqDiff]
  obtain ⟨s128,hX130,hk131⟩:=qh hF102
  refine uv (t:=(v100&&(decide ((List.length v_0.Post:Int)<20)))) (fun fr' h'=>fr' 2 = .ptr b1 0∧fr' 3 = .ref [.int .i64 v_1.To,.int .i64 v_1.From,
    .int .i64 v_1.Term,.bool v_1.Asks,.int .i64 v_1.Last,.int .i64 v_1.Long,
    .bool v_1.Grant] 0∧fr' 4 = .ptr b9 0∧fr' 5 = .ptr b35 0∧fr' 6 = .bool v100∧Sep h' lo ([Blk1 b1 [pv0_0,pv0_1,pv0_2] 31]++([Blk1 b9 [.nil,.nil,
    .nil] 31]++([Blk1 b35 [.int .i64 s128.Term,.int .i64 s128.Voted,.bool s128.Stands,.bool s128.Leads,v43,
    v31] 46]++(c20++(pc0_1++(pc0_2++(c44++(c32++(S0)))))))))) (fun Q132 hN133 hR134 hE135=>⟨fun hc136=>?_,fun hc136=>?_⟩) ?_
  ·rw [iteT hc136] at hX130
   simp only [qw2,qd,f122,qp,qb,Nat.reduceAdd,Nat.zero_add,Nat.add_zero,qr,ql,B0,reduceIte,reduceEqDiff]
   refine qg (v := .int .i64 v_1.From) rfl ?_
   simp only [f124,qp,qb,Nat.reduceAdd,Nat.zero_add,Nat.add_zero,qs,zg,B0,reduceIte,reduceEqDiff]
   refine qw (us:=[.int .i64 v_1.From]) rfl (cs':=[.int .i64 s41.Term,.int .i64 v_1.From,.bool s41.Stands,.bool s41.Leads,v43,
     v31]) (Sep.m2 hS127) hW rfl rfl (nle rfl) rfl (fun h137 hS138=>?_)
   simp only [qa,qj,B0,reduceIte,reduceEqDiff]
   have e139:=qi hX130
   subst e139
   exact hN133 _ _ ⟨f121,f122,f123,f124,f125,(Sep.m7 (Sep.m7 (Sep.m5 (Sep.m7 (Sep.m7 (Sep.m7 (Sep.m7 (Sep.m7 hS138))))))))⟩
  ·rw [iteF hc136] at hX130
   simp only [zc,qj,B0,reduceIte,reduceEqDiff]
   have e140:=qi hX130
   subst e140
   exact hN133 _ _ ⟨f121,f122,f123,f124,f125,(Sep.m7 (Sep.m7 (Sep.m7 (Sep.m7 (Sep.m7 (Sep.m7 (Sep.m7 (Sep.m7 hS127))))))))⟩
  rintro fr141 h142 ⟨f144,f145,f146,f147,f148,hS143⟩
  unfold qc1 at hk131
  simp only [qs9,qf,qd,f144,qp,qb,Nat.reduceAdd,Nat.zero_add,Nat.add_zero,qs,ql,B0,reduceIte,reduceEqDiff]
  refine qg (v:=pv0_0) ((zz (Sep.bk _ _ _ hS143)).trans rfl) ?_
  simp only [f145,qp,qb,Nat.reduceAdd,Nat.zero_add,Nat.add_zero,qr,ql,B0,reduceIte,reduceEqDiff]
  refine qg (v := .int .i64 v_1.To) rfl ?_
  simp only [f147,ql,B0,reduceIte,reduceEqDiff]
  refine qg (v := .agg [.int .i64 s128.Term,.int .i64 s128.Voted,.bool s128.Stands,.bool s128.Leads,v43,v31]) ((zu (Sep.bk _ _ _ (Sep.m2 hS143))).trans rfl) ?_
  simp only [jg,B0,reduceIte,reduceEqDiff]
  refine qg (SlG.ia hv23 hx16) ?_
  simp only [zg,B0,reduceIte,reduceEqDiff]
  refine yi (n:=6) (us:=[.int .i64 s128.Term,.int .i64 s128.Voted,.bool s128.Stands,.bool s128.Leads,v43,v31]) (cs:=[.int .i64 x15.Term,.int .i64 x15.Voted,
    .bool x15.Stands,.bool x15.Leads,v27,v31]) (o:=0) (cs':=[.int .i64 s128.Term,.int .i64 s128.Voted,.bool s128.Stands,.bool s128.Leads,v43,
    v31]) rfl hv23 rfl hx16 (Sep.m3 hS143) hW rfl (qm rfl (qm rfl (qm rfl (qm rfl (qm (SlF.one hv45) (qm (SlF.one hv33) zm)))))) (nle rfl) rfl
    (fun c151 h149 hv152 hS150=>?_)
  simp only [qa,qr5,qf,qd,f144,qp,qb,Nat.reduceAdd,Nat.zero_add,Nat.add_zero,qs,ql,B0,reduceIte,reduceEqDiff]
  refine qg (v:=pv0_1) ((zz (Sep.bk _ _ _ (Sep.m1 hS150))).trans rfl) ?_
  simp only [zn,qb,SlF.plen ph0_1,qv,qdj,qa,qxf,za,B0,reduceIte,reduceEqDiff]
  obtain ⟨sv164,hX162,hk163⟩:=qh hk131
  refine uv (t:=(decide ((List.length v_0.Post:Int)<20))) (fun fr' h'=>∃ v155 c156 c159,
    fr' 2 = .ptr b1 0∧fr' 4 = .ptr b9 0∧SlF Letter.cells 7 93 v155 sv164.1.Post c156∧SlN Server.R 6 46 pv0_0 sv164.2 c159∧Sep h' lo ([Blk1 b1 [pv0_0,v155,
    pv0_2] 31]++([Blk1 b9 [.nil,.nil,.nil] 31]++(c159++(c156++(pc0_2++(S0))))))) (fun Q165 hN166 hR167 hE168=>⟨fun hc169=>?_,fun hc169=>?_⟩) ?_
  ·rw [iteT hc169] at hX162
   simp only [qz9,qd,f144,qp,qb,Nat.reduceAdd,Nat.zero_add,Nat.add_zero,qs,ql,B0,reduceIte,reduceEqDiff]
   refine qg (v:=pv0_1) ((zz (Sep.bk _ _ _ (Sep.m1 hS150))).trans rfl) ?_
   simp only [f145,qp,qb,Nat.reduceAdd,Nat.zero_add,Nat.add_zero,qr,ql,B0,reduceIte,reduceEqDiff]
   refine qg (v := .int .i64 v_1.From) rfl ?_
   simp only [f145,qp,qb,Nat.reduceAdd,Nat.zero_add,Nat.add_zero,qr,ql,B0,reduceIte,reduceEqDiff]
   refine qg (v := .int .i64 v_1.To) rfl ?_
   simp only [f147,qp,qb,Nat.reduceAdd,Nat.zero_add,Nat.add_zero,qs,ql,B0,reduceIte,reduceEqDiff]
   refine qg (v := .int .i64 s128.Term) ((zz (Sep.bk _ _ _ (Sep.m3 hS150))).trans rfl) ?_
   simp only [f148,qe,run_build,evp,B0,reduceIte,reduceEqDiff]
   refine qg (v := .agg [.int .i64 v_1.From,.int .i64 v_1.To,.int .i64 s128.Term,.bool false,.int .i64 0,.int .i64 0,.bool v100]) rfl ?_
   simp only [ju,evp,B0,reduceIte,reduceEqDiff]
   refine jk (n:=7) (f:=Letter.cells) [(Letter.mk v_1.From v_1.To s128.Term false 0 0 v100)] hS150 rfl rfl (fun v170 c171 h172 hv173 hS174=>?_)
   simp only [wa,B0,reduceIte,reduceEqDiff]
   obtain ⟨l176,hx177,hF178⟩:=qh hX162
   refine yj (f:=Letter.cells) ph0_1 (Sep.m5 hS174) hW (fun _=>rfl) (fun _=>rfl) (SlF.first hv173 hS174 (fun _=>rfl)) hx177 (fun v179 c180 h181 hv182 hS183=>?_)
   simp only [f144,qp,qb,Nat.reduceAdd,Nat.zero_add,Nat.add_zero,qs,zg,B0,reduceIte,reduceEqDiff]
   refine qw (us:=[v179]) (jd (SlF.one hv182)) (cs':=[pv0_0,v179,
     pv0_2]) (Sep.m3 hS183) hW rfl (qm (SlF.one hv182) zm) (nle rfl) rfl (fun h185 hS186=>?_)
   simp only [qa,qj,B0,reduceIte,reduceEqDiff]
   obtain ⟨c187,hv188,hS189⟩:=SlG.cls (e':=(Server.mk s128.Term s128.Voted s128.Stands s128.Leads s41.Got x15.Log)) (c:=c151) (os:=c44 ++
     (c32)) hv152 rfl hx16 jm (Server.RI (x:=(Server.mk s128.Term s128.Voted s128.Stands s128.Leads s41.Got x15.Log)) hv45 hv33) (Sep.ni2 (c1:=c44) (c2:=c32)
     (Sep.m5 (Sep.m8 (Sep.m8 hS186))))
   have hx190:=xd (x':=(Server.mk s128.Term s128.Voted s128.Stands s128.Leads s41.Got x15.Log)) hx16
   have hv191:=SlG.toN hv188
   have e192:=qi hF178
   subst e192
   exact hN166 _ _ ⟨v179,c180,c187,f144,f146,hv182,hv191,(Sep.m4 (Sep.m4 (Sep.m2 (Sep.m3 (Sep.m4 (Sep.dc (Sep.m4 (Sep.dc (Sep.m3 hS189)))))))))⟩
  ·rw [iteF hc169] at hX162
   simp only [zc,qj,B0,reduceIte,reduceEqDiff]
   obtain ⟨c193,hv194,hS195⟩:=SlG.cls (e':=(Server.mk s128.Term s128.Voted s128.Stands s128.Leads s41.Got x15.Log)) (c:=c151) (os:=c44 ++
     (c32)) hv152 rfl hx16 jm (Server.RI (x:=(Server.mk s128.Term s128.Voted s128.Stands s128.Leads s41.Got x15.Log)) hv45 hv33) (Sep.ni2 (c1:=c44) (c2:=c32)
     (Sep.m2 (Sep.m7 (Sep.m7 hS150))))
   have hx196:=xd (x':=(Server.mk s128.Term s128.Voted s128.Stands s128.Leads s41.Got x15.Log)) hx16
   have hv197:=SlG.toN hv194
   have e198:=qi hX162
   subst e198
   exact hN166 _ _ ⟨pv0_1,pc0_1,c193,f144,f146,ph0_1,hv197,(Sep.m4 (Sep.m4 (Sep.m2 (Sep.m4 (Sep.m4 (Sep.dc (Sep.m3 hS195)))))))⟩
  rintro fr199 h200 ⟨v155,c156,c159,f202,f203,hv157,hv160,hS201⟩
  obtain ⟨s153,s158⟩:=sv164
  dsimp only at *
  unfold qgl at hk163
  simp only [qf,qd,f202,ql,B0,reduceIte,reduceEqDiff]
  refine qg (v := .agg [pv0_0,v155,pv0_2]) ((zu (Sep.bk _ _ _ hS201)).trans rfl) ?_
  simp only [f203,zg,B0,reduceIte,reduceEqDiff]
  refine qw (us:=[pv0_0,v155,pv0_2]) rfl (cs':=[pv0_0,v155,
    pv0_2]) (Sep.m1 hS201) hW rfl (qm (SlN.one hv160) (qm (SlF.one hv157) (qm (SlF.one ph0_2) zm))) (nle rfl) rfl (fun h204 hS205=>?_)
  simp only [qa,q9,B0,reduceIte,reduceEqDiff]
  have he:=qi hk163
  subst he
  refine qbe (bb:=b9) (oo:=0) (v := .agg [pv0_0,v155,pv0_2]) (by simp only [f203,B0,reduceIte,reduceEqDiff]) ((zu (Sep.bk _ _ _ hS205)).trans rfl) ?_
  exact ⟨c159,v155,c156,pv0_2,pc0_2,by first | trivial | rfl,hv160,hv157,ph0_2,(Sep.m2 (Sep.m2 (Sep.m2 (Sep.dc ((Sep.dc (hS205)))))))⟩
 rw [iteF hc73] at hk48
 simp only [zc,qrp,qf,qd,f70,qp,qb,Nat.reduceAdd,Nat.zero_add,Nat.add_zero,qr,ql,B0,reduceIte,reduceEqDiff]
 refine qg (v := .bool v_1.Grant) rfl ?_
 simp only [qe,B0,reduceIte,reduceEqDiff]
 refine ja 6 (fun fr' h'=>Sep h' lo ([Blk1 b1 [pv0_0,pv0_1,pv0_2] 31]++([Blk1 b9 [.nil,.nil,.nil] 31]++([Blk1 b35 [.int .i64 s41.Term,.int .i64 s41.Voted,
   .bool s41.Stands,.bool s41.Leads,v43,
   v31] 46]++(c20++(pc0_1++(pc0_2++(c44++(c32++(S0)))))))))∧fr' 95 = .bool (v_1.Grant&&(decide
   (v_1.Term=s41.Term)))∧fr' 2 = .ptr b1 0∧fr' 3 = .ref [.int .i64 v_1.To,.int .i64 v_1.From,.int .i64 v_1.Term,.bool v_1.Asks,.int .i64 v_1.Last,.int .i64 v_1.Long,
   .bool v_1.Grant] 0∧fr' 4 = .ptr b9 0∧fr' 5 = .ptr b35 0) (fun Q208 hN209=>?_) ?_
 ·simp only [List.take_succ_cons,List.take_zero]
  simp only [qc (g:=89),B0,reduceIte,reduceEqDiff]
  refine qy (t:=v_1.Grant) (fun hg210=>?_) (fun hg210=>?_)
  ·simp only [hg210,qc (g:=89),ze,f70,qp,qb,Nat.reduceAdd,Nat.zero_add,Nat.add_zero,qr,ql,B0,reduceIte,reduceEqDiff]
   refine qg (v := .int .i64 v_1.Term) rfl ?_
   simp only [hg210,qc (g:=89),ze,f72,qp,qb,Nat.reduceAdd,Nat.zero_add,Nat.add_zero,qs,ql,B0,reduceIte,reduceEqDiff]
   refine qg (v := .int .i64 s41.Term) ((zz (Sep.bk _ _ _ (Sep.m2 hS68))).trans rfl) ?_
   simp only [hg210,qc (g:=89),ze,qv,qb,yo,qq,zj,qa,qj,B0,reduceIte,reduceEqDiff]
   exact hN209 _ _ ⟨(Sep.m7 (Sep.m7 (Sep.m7 (Sep.m7 (Sep.m7 (Sep.m7 (Sep.m7 (Sep.m7 hS68)))))))),by rw [qba hg210]; simp only [B0,reduceIte,reduceEqDiff],f69,
     by simp only [f70,B0,reduceIte,reduceEqDiff,hg210],f71,f72⟩
  ·simp only [hg210,qc (g:=89),jv,qq,qb,zi,qa,qj,B0,reduceIte,reduceEqDiff]
   exact hN209 _ _ ⟨(Sep.m7 (Sep.m7 (Sep.m7 (Sep.m7 (Sep.m7 (Sep.m7 (Sep.m7 (Sep.m7 hS68)))))))),by rw [qbf hg210]; simp only [B0,reduceIte,reduceEqDiff],f69,
     by simp only [f70,B0,reduceIte,reduceEqDiff,hg210],f71,f72⟩
 rintro fr211 h217 ⟨hS218,f212,f213,f214,f215,f216⟩
 simp only [List.drop_succ_cons,List.drop_zero]
 simp only [f212,qe,B0,reduceIte,reduceEqDiff]
 refine ja 3 (fun fr' h'=>Sep h' lo ([Blk1 b1 [pv0_0,pv0_1,pv0_2] 31]++([Blk1 b9 [.nil,.nil,.nil] 31]++([Blk1 b35 [.int .i64 s41.Term,.int .i64 s41.Voted,
   .bool s41.Stands,.bool s41.Leads,v43,
   v31] 46]++(c20++(pc0_1++(pc0_2++(c44++(c32++(S0)))))))))∧fr' 99 = .bool ((v_1.Grant&&(decide
   (v_1.Term=s41.Term)))&&s41.Stands)∧fr' 2 = .ptr b1 0∧fr' 3 = .ref [.int .i64 v_1.To,.int .i64 v_1.From,.int .i64 v_1.Term,.bool v_1.Asks,.int .i64 v_1.Last,
   .int .i64 v_1.Long,.bool v_1.Grant] 0∧fr' 4 = .ptr b9 0∧fr' 5 = .ptr b35 0) (fun Q219 hN220=>?_) ?_
 ·simp only [List.take_succ_cons,List.take_zero]
  simp only [qc (g:=96),B0,reduceIte,reduceEqDiff]
  refine qy (t:=(v_1.Grant&&(decide (v_1.Term=s41.Term)))) (fun hg221=>?_) (fun hg221=>?_)
  ·simp only [hg221,qc (g:=96),ze,f216,qp,qb,Nat.reduceAdd,Nat.zero_add,Nat.add_zero,qs,ql,B0,reduceIte,reduceEqDiff]
   refine qg (v := .bool s41.Stands) ((zz (Sep.bk _ _ _ (Sep.m2 hS218))).trans rfl) ?_
   simp only [hg221,qq,qb,zj,qa,qj,B0,reduceIte,reduceEqDiff]
   exact hN220 _ _ ⟨(Sep.m7 (Sep.m7 (Sep.m7 (Sep.m7 (Sep.m7 (Sep.m7 (Sep.m7 (Sep.m7 hS218)))))))),by rw [qba hg221]; simp only [B0,reduceIte,reduceEqDiff],f213,f214,
     f215,f216⟩
  ·simp only [hg221,qc (g:=96),jv,qq,qb,zi,qa,qj,B0,reduceIte,reduceEqDiff]
   exact hN220 _ _ ⟨(Sep.m7 (Sep.m7 (Sep.m7 (Sep.m7 (Sep.m7 (Sep.m7 (Sep.m7 (Sep.m7 hS218)))))))),by rw [qbf hg221]; simp only [B0,reduceIte,reduceEqDiff],f213,f214,
     f215,f216⟩
 rintro fr222 h228 ⟨hS229,f223,f224,f225,f226,f227⟩
 simp only [List.drop_succ_cons,List.drop_zero]
 simp only [qa,qpe,f223,za,B0,reduceIte,reduceEqDiff]
 obtain ⟨s230,hX236,hk237⟩:=qh hk48
 refine uv (t:=((v_1.Grant&&(decide (v_1.Term=s41.Term)))&&s41.Stands)) (fun fr' h'=>∃ v232 c233,fr' 2 = .ptr b1 0∧fr' 3 = .ref [.int .i64 v_1.To,
   .int .i64 v_1.From,.int .i64 v_1.Term,.bool v_1.Asks,.int .i64 v_1.Last,.int .i64 v_1.Long,
   .bool v_1.Grant] 0∧fr' 4 = .ptr b9 0∧fr' 5 = .ptr b35 0∧SlF cI 1 3 v232 s230.Got c233∧Sep h' lo ([Blk1 b1 [pv0_0,pv0_1,pv0_2] 31]++([Blk1 b9 [.nil,.nil,
   .nil] 31]++([Blk1 b35 [.int .i64 s230.Term,.int .i64 s230.Voted,.bool s230.Stands,.bool s230.Leads,v232,
   v31] 46]++(c20++(pc0_1++(pc0_2++(c233++(c32++(S0)))))))))) (fun Q238 hN239 hR240 hE241=>⟨fun hc242=>?_,fun hc242=>?_⟩) ?_
 ·rw [iteT hc242] at hX236
  simp only [qtm,qd,f227,qp,qb,Nat.reduceAdd,Nat.zero_add,Nat.add_zero,qs,ql,B0,reduceIte,reduceEqDiff]
  refine qg (v:=v43) ((zz (Sep.bk _ _ _ (Sep.m2 hS229))).trans rfl) ?_
  simp only [f225,qp,qb,Nat.reduceAdd,Nat.zero_add,Nat.add_zero,qr,ql,B0,reduceIte,reduceEqDiff]
  refine qg (v := .int .i64 v_1.From) rfl ?_
  obtain ⟨v243,hx244,hF245⟩:=qh hX236
  simp only [qz,B0,reduceIte,reduceEqDiff]
  refine kq rfl (qmf hW k v43 c44 s41.Got hv45 v_1.From v243 hx244 (Sep.m6 hS229)) ?_
  rintro v246 h250 ⟨_,c247,rfl,hv248,hS251⟩
  simp only [f227,qp,qb,Nat.reduceAdd,Nat.zero_add,Nat.add_zero,qs,zg,B0,reduceIte,reduceEqDiff]
  refine qw (us:=[v246]) (jd (SlF.one hv248)) (cs':=[.int .i64 s41.Term,.int .i64 s41.Voted,.bool s41.Stands,.bool s41.Leads,v246,
    v31]) (Sep.m3 hS251) hW rfl (qm (SlF.one hv248) zm) (nle rfl) rfl (fun h252 hS253=>?_)
  simp only [qa,qj,B0,reduceIte,reduceEqDiff]
  have e254:=qi hF245
  subst e254
  exact hN239 _ _ ⟨v246,c247,f224,f225,f226,f227,hv248,(Sep.m7 (Sep.m7 (Sep.m5 (Sep.m7 (Sep.m7 (Sep.m7 (Sep.m2 (Sep.m7 hS253))))))))⟩
 ·rw [iteF hc242] at hX236
  simp only [zc,qj,B0,reduceIte,reduceEqDiff]
  have e255:=qi hX236
  subst e255
  exact hN239 _ _ ⟨v43,c44,f224,f225,f226,f227,hv45,(Sep.m7 (Sep.m7 (Sep.m7 (Sep.m7 (Sep.m7 (Sep.m7 (Sep.m7 (Sep.m7 hS229))))))))⟩
 rintro fr256 h257 ⟨v232,c233,f259,f260,f261,f262,hv234,hS258⟩
 unfold qcw at hk237
 simp only [qti,qf,qd,f259,qp,qb,Nat.reduceAdd,Nat.zero_add,Nat.add_zero,qs,ql,B0,reduceIte,reduceEqDiff]
 refine qg (v:=pv0_0) ((zz (Sep.bk _ _ _ hS258)).trans rfl) ?_
 simp only [f260,qp,qb,Nat.reduceAdd,Nat.zero_add,Nat.add_zero,qr,ql,B0,reduceIte,reduceEqDiff]
 refine qg (v := .int .i64 v_1.To) rfl ?_
 simp only [f262,ql,B0,reduceIte,reduceEqDiff]
 refine qg (v := .agg [.int .i64 s230.Term,.int .i64 s230.Voted,.bool s230.Stands,.bool s230.Leads,v232,v31]) ((zu (Sep.bk _ _ _ (Sep.m2 hS258))).trans rfl) ?_
 simp only [jg,B0,reduceIte,reduceEqDiff]
 refine qg (SlG.ia hv23 hx16) ?_
 simp only [zg,B0,reduceIte,reduceEqDiff]
 refine yi (n:=6) (us:=[.int .i64 s230.Term,.int .i64 s230.Voted,.bool s230.Stands,.bool s230.Leads,v232,v31]) (cs:=[.int .i64 x15.Term,.int .i64 x15.Voted,
   .bool x15.Stands,.bool x15.Leads,v27,v31]) (o:=0) (cs':=[.int .i64 s230.Term,.int .i64 s230.Voted,.bool s230.Stands,.bool s230.Leads,v232,
   v31]) rfl hv23 rfl hx16 (Sep.m3 hS258) hW rfl (qm rfl (qm rfl (qm rfl (qm rfl (qm (SlF.one hv234) (qm (SlF.one hv33) zm)))))) (nle rfl) rfl
   (fun c265 h263 hv266 hS264=>?_)
 simp only [qa,qp5,qf,qd,f259,ql,B0,reduceIte,reduceEqDiff]
 refine qg (v := .agg [pv0_0,pv0_1,pv0_2]) ((zu (Sep.bk _ _ _ (Sep.m1 hS264))).trans rfl) ?_
 simp only [f260,qp,qb,Nat.reduceAdd,Nat.zero_add,Nat.add_zero,qr,ql,B0,reduceIte,reduceEqDiff]
 refine qg (v := .int .i64 v_1.To) rfl ?_
 obtain ⟨c267,hv268,hS269⟩:=SlG.cls (e':=(Server.mk s230.Term s230.Voted s230.Stands s230.Leads s230.Got x15.Log)) (c:=c265) (os:=c233++(c32)) hv266 rfl hx16 jm
   (Server.RI (x:=(Server.mk s230.Term s230.Voted s230.Stands s230.Leads s230.Got x15.Log)) hv234 hv33) (Sep.ni2 (c1:=c233) (c2:=c32) (Sep.m2 (Sep.m7 (Sep.m7 hS264))))
 have hx270:=xd (x':=(Server.mk s230.Term s230.Voted s230.Stands s230.Leads s230.Got x15.Log)) hx16
 have hv271:=SlG.toN hv268
 obtain ⟨v272,hx273,hF274⟩:=qh hk237
 simp only [qz,B0,reduceIte,reduceEqDiff]
 refine kq rfl (qhj hW (Election.mk (List.set v_0.Servers v_1.To.toNat
   (Server.mk s230.Term s230.Voted s230.Stands s230.Leads s230.Got x15.Log)) v_0.Post v_0.Led) pv0_0 c267 hv271 pv0_1 pc0_1 ph0_1 pv0_2 pc0_2 ph0_2 v_1.To v272 hx273 (Sep.m2
   (Sep.m5 (Sep.m5 hS269)))) ?_
 rintro _ h283 ⟨c275,c277,v279,c280,rfl,hv276,hv278,hv281,hS284⟩
 simp only [f261,zg,B0,reduceIte,reduceEqDiff]
 refine qw (us:=[pv0_0,pv0_1,v279]) rfl (cs':=[pv0_0,pv0_1,
   v279]) (Sep.m4 hS284) hW rfl (qm (SlN.one hv276) (qm (SlF.one hv278) (qm (SlF.one hv281) zm))) (nle rfl) rfl (fun h285 hS286=>?_)
 simp only [qa,q9,B0,reduceIte,reduceEqDiff]
 have he:=qi hF274
 subst he
 refine qbe (bb:=b9) (oo:=0) (v := .agg [pv0_0,pv0_1,v279]) (by simp only [f261,B0,reduceIte,reduceEqDiff]) ((zu (Sep.bk _ _ _ hS286)).trans rfl) ?_
 exact ⟨c275,pv0_1,c277,v279,c280,by first | trivial | rfl,hv276,hv278,hv281,(Sep.m2 (Sep.m2 (Sep.m2 (Sep.dc (Sep.m3 (Sep.dc (Sep.m3 (Sep.dc (hS286)))))))))⟩
end Go.Proofs.Ytpddolihbnfahaa.X
