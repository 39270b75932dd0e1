/- The functions' code comes to what the plain functions say (5). -/
import Derived.Test.YtpddolihbnfahaaXBH4
set_option linter.unusedVariables false
set_option linter.unusedSimpArgs false
set_option maxRecDepth 100000
namespace Go.Proofs.Ytpddolihbnfahaa.X
open Go
open Nat (reduceEqDiff)
theorem qkz {W:Nat→Bool}{h:Heap}{lo:Nat→Prop}{S0:List Obj} (hW:∀ b,
  lo b→W b=true) (k:Nat) (v_0:Election) (pv0_0:XV) (pc0_0:List Obj) (ph0_0:SlN Server.R 6 46 pv0_0 v_0.Servers pc0_0) (pv0_1:XV) (pc0_1:List Obj)
  (ph0_1:SlF Letter.cells 7 93 pv0_1 v_0.Post pc0_1) (pv0_2:XV) (pc0_2:List Obj) (ph0_2:SlF Vote.cells 2 39 pv0_2 v_0.Led pc0_2) (v_1:ElectStep) (r:Election × Bool)
  (hF:qda k v_0 v_1=some r) (hS:Sep h lo (pc0_0++(pc0_1++(pc0_2++(S0))))) : Ret E W 51 [.agg [pv0_0,pv0_1,pv0_2],.agg [.int .i64 v_1.Term,
  .int .i64 v_1.Leader]] h (fun v h'=>∃ rc0_0 rv0_1 rc0_1 rv0_2 rc0_2,v = .tup [.agg [pv0_0,rv0_1,rv0_2],
  .bool r.2]∧SlN Server.R 6 46 pv0_0 r.1.Servers rc0_0∧SlF Letter.cells 7 93 rv0_1 r.1.Post rc0_1∧SlF Vote.cells 2 39 rv0_2 r.1.Led rc0_2∧Sep h' lo (rc0_0++(rc0_1 ++
  (rc0_2++(S0))))):=by
 refine Ret.of (fn:=x51) rfl (Run.of ?_)
 unfold qda at hF
 have zf0:zb [.agg [pv0_0,pv0_1,pv0_2],.agg [.int .i64 v_1.Term,.int .i64 v_1.Leader]] 0 = .agg [pv0_0,pv0_1,pv0_2]:=rfl
 have zf1:zb [.agg [pv0_0,pv0_1,pv0_2],.agg [.int .i64 v_1.Term,.int .i64 v_1.Leader]] 1 = .agg [.int .i64 v_1.Term,.int .i64 v_1.Leader]:=rfl
 generalize zb [.agg [pv0_0,pv0_1,pv0_2],.agg [.int .i64 v_1.Term,.int .i64 v_1.Leader]]=fr0 at zf0 zf1 ⊢
 simp only [x51,qf,qd,yb,zf0,B0,reduceIte,reduceEqDiff]
 refine kg (cs:=[pv0_0,pv0_1,pv0_2]) hS rfl rfl (qm (SlN.one ph0_0) (qm (SlF.one ph0_1) (qm (SlF.one ph0_2) zm))) (fun b1 h2 hS3=>?_)
 simp only [yb,zf1,B0,reduceIte,reduceEqDiff]
 refine kg (cs:=[.int .i64 v_1.Term,.int .i64 v_1.Leader]) hS3 rfl rfl rfl (fun b5 h6 hS7=>?_)
 simp only [jj,B0,reduceIte,reduceEqDiff]
 refine z8 hS7 (fun b9 h10 hS11=>?_)
 simp only [qe,qa,B0,reduceIte,reduceEqDiff]
 refine jb (Sep.m1 hS11) hW (by simp only [B0,reduceIte,reduceEqDiff]) (fun h13 hS14=>?_)
 simp only [z9,qtq,qf,qd,qp,qb,Nat.reduceAdd,Nat.zero_add,Nat.add_zero,qr,ql,B0,reduceIte,reduceEqDiff]
 refine qg (v := .int .i64 v_1.Term) rfl ?_
 simp only [qv,qb,yo,qe,B0,reduceIte,reduceEqDiff]
 refine ja 4 (fun fr' h'=>Sep h' lo ([Blk1 b1 [pv0_0,pv0_1,pv0_2] 31]++([Blk1 b9 [.nil,.nil,
   .nil] 31]++(pc0_0++(pc0_1++(pc0_2++(S0))))))∧fr' 15 = .bool ((decide (v_1.Term=1))||(decide
   (v_1.Term=5)))∧fr' 2 = .ptr b1 0∧fr' 3 = .ref [.int .i64 v_1.Term,.int .i64 v_1.Leader] 0∧fr' 4 = .ptr b9 0) (fun Q15 hN16=>?_) ?_
 ·simp only [List.take_succ_cons,List.take_zero]
  simp only [qc (g:=11),B0,reduceIte,reduceEqDiff]
  refine qy (t:=(decide (v_1.Term=1))) (fun hg17=>?_) (fun hg17=>?_)
  ·simp only [hg17,qc (g:=11),zq,qq,qb,zj,qa,qj,B0,reduceIte,reduceEqDiff]
   exact hN16 _ _ ⟨(Sep.m4 (Sep.m3 (Sep.m4 (Sep.m4 (Sep.m4 hS14))))),by rw [orT hg17]; simp only [B0,reduceIte,reduceEqDiff],rfl,rfl,rfl⟩
  ·simp only [hg17,qc (g:=11),qn,qp,qb,Nat.reduceAdd,Nat.zero_add,Nat.add_zero,qr,ql,B0,reduceIte,reduceEqDiff]
   refine qg (v := .int .i64 v_1.Term) rfl ?_
   simp only [hg17,qc (g:=11),qn,qv,qb,yo,qq,zi,qa,qj,B0,reduceIte,reduceEqDiff]
   exact hN16 _ _ ⟨(Sep.m4 (Sep.m3 (Sep.m4 (Sep.m4 (Sep.m4 hS14))))),by rw [orF hg17]; simp only [B0,reduceIte,reduceEqDiff],rfl,rfl,rfl⟩
 rintro fr18 h23 ⟨hS24,f19,f20,f21,f22⟩
 simp only [List.drop_succ_cons,List.drop_zero]
 simp only [qa,qum,f19,za,B0,reduceIte,reduceEqDiff]
 refine q8 (t:=((decide (v_1.Term=1))||(decide (v_1.Term=5)))) (fun hc25=>?_) (fun hc25=>?_)
 ·rw [iteT hc25] at hF
  simp only [qtu,qf,qd,f20,ql,B0,reduceIte,reduceEqDiff]
  refine qg (v := .agg [pv0_0,pv0_1,pv0_2]) ((zu (Sep.bk _ _ _ hS24)).trans rfl) ?_
  simp only [f21,qp,qb,Nat.reduceAdd,Nat.zero_add,Nat.add_zero,qr,ql,B0,reduceIte,reduceEqDiff]
  refine qg (v := .int .i64 v_1.Leader) rfl ?_
  simp only [qz,B0,reduceIte,reduceEqDiff]
  refine jp rfl (qo (yq (qo (SlN.snap ph0_0 _ (Sep.m2 hS24) rfl Server.RO) (qo (SlF.snap ph0_1 (Sep.m3 hS24) rfl (fun _=>rfl) (fun _=>rfl)) (qo
    (SlF.snap ph0_2 (Sep.m4 hS24) rfl (fun _=>rfl) (fun _=>rfl)) zh)))) (qo zf zh)) (qj9 (fun b hb=>decide_eq_true hb) v_0 v_1.Leader _ rfl) ?_
  simp only [js,qb,ki,qa,q1f,za,B0,reduceIte,reduceEqDiff]
  refine q8 (t:=(!(qa9 v_0 v_1.Leader))) (fun hc26=>?_) (fun hc26=>?_)
  ·rw [iteT hc26] at hF
   simp only [qf,qd,f20,ql,B0,reduceIte,reduceEqDiff]
   refine qg (v := .agg [pv0_0,pv0_1,pv0_2]) ((zu (Sep.bk _ _ _ hS24)).trans rfl) ?_
   simp only [f22,zg,B0,reduceIte,reduceEqDiff]
   refine qw (us:=[pv0_0,pv0_1,pv0_2]) rfl (cs':=[pv0_0,pv0_1,
     pv0_2]) (Sep.m1 hS24) hW rfl (qm (SlN.one ph0_0) (qm (SlF.one ph0_1) (qm (SlF.one ph0_2) zm))) (nle rfl) rfl (fun h27 hS28=>?_)
   simp only [qe,qa,q9,B0,reduceIte,reduceEqDiff]
   have he:=qi hF
   subst he
   refine jz (qo (kf (bb:=b9) (oo:=0) (v := .agg [pv0_0,pv0_1,
     pv0_2]) (f22) ((zu (Sep.bk _ _ _ hS28)).trans rfl)) (qo (yl (v := .bool false) (rfl)) zh)) ?_
   exact ⟨pc0_0,pv0_1,pc0_1,pv0_2,pc0_2,by first | trivial | rfl,ph0_0,ph0_1,ph0_2,(Sep.m2 (Sep.m2 (Sep.m2 (Sep.dc ((Sep.dc (hS28)))))))⟩
  rw [iteF hc26] at hF
  simp only [zc,qy8,qf,qd,f21,qp,qb,Nat.reduceAdd,Nat.zero_add,Nat.add_zero,qr,ql,B0,reduceIte,reduceEqDiff]
  refine qg (v := .int .i64 v_1.Term) rfl ?_
  simp only [qv,qb,yo,qa,qw0,za,B0,reduceIte,reduceEqDiff]
  refine q8 (t:=(decide (v_1.Term=1))) (fun hc29=>?_) (fun hc29=>?_)
  ·rw [iteT hc29] at hF
   simp only [q1m,qf,qd,f20,ql,B0,reduceIte,reduceEqDiff]
   refine qg (v := .agg [pv0_0,pv0_1,pv0_2]) ((zu (Sep.bk _ _ _ hS24)).trans rfl) ?_
   simp only [f21,qp,qb,Nat.reduceAdd,Nat.zero_add,Nat.add_zero,qr,ql,B0,reduceIte,reduceEqDiff]
   refine qg (v := .int .i64 v_1.Leader) rfl ?_
   obtain ⟨v30,hx31,hF32⟩:=qh hF
   simp only [qz,B0,reduceIte,reduceEqDiff]
   refine kq rfl (qit hW v_0 pv0_0 pc0_0 ph0_0 pv0_1 pc0_1 ph0_1 pv0_2 pc0_2 ph0_2 v_1.Leader v30 hx31 (Sep.m4 (Sep.m4 (Sep.m4 hS24)))) ?_
   rintro _ h43 ⟨c33,v35,c36,v39,c40,rfl,hv34,hv37,hv41,hS44⟩
   simp only [qb1,qb,qbt,qbu,f22,zg,B0,reduceIte,reduceEqDiff]
   refine qw (us:=[pv0_0,v35,v39]) rfl (cs':=[pv0_0,v35,
     v39]) (Sep.m4 hS44) hW rfl (qm (SlN.one hv34) (qm (SlF.one hv37) (qm (SlF.one hv41) zm))) (nle rfl) rfl (fun h45 hS46=>?_)
   simp only [qe,qa,q9,B0,reduceIte,reduceEqDiff]
   have he:=qi hF32
   subst he
   refine jz (qo (kf (bb:=b9) (oo:=0) (v := .agg [pv0_0,v35,
     v39]) (f22) ((zu (Sep.bk _ _ _ hS46)).trans rfl)) (qo (yl (v := .bool v30.2) (rfl)) zh)) ?_
   exact ⟨c33,v35,c36,v39,c40,by first | trivial | rfl,hv34,hv37,hv41,(Sep.m2 (Sep.m2 (Sep.m2 (Sep.dc (Sep.m3 (Sep.dc (hS46)))))))⟩
  rw [iteF hc29] at hF
  simp only [zc,q1n,qf,qd,f20,qp,qb,Nat.reduceAdd,Nat.zero_add,Nat.add_zero,qs,ql,B0,reduceIte,reduceEqDiff]
  refine qg (v:=pv0_0) ((zz (Sep.bk _ _ _ hS24)).trans rfl) ?_
  simp only [f21,qp,qb,Nat.reduceAdd,Nat.zero_add,Nat.add_zero,qr,ql,B0,reduceIte,reduceEqDiff]
  refine qg (v := .int .i64 v_1.Leader) rfl ?_
  obtain ⟨x47,hx48,hF49⟩:=qh hF
  simp only [jg,B0,reduceIte,reduceEqDiff]
  obtain ⟨b50,hb51⟩:=SlN.isrow ph0_0 (wv hx48)
  refine qg (SlN.ia ph0_0 hb51 hx48) ?_
  obtain ⟨c52,cs53,os54,hv55,hR56,hS57⟩:=SlG.opn (SlN.toG ph0_0 hb51 Server.RO.len) hx48 jm Server.RO.len (Sep.m2 hS24)
  obtain ⟨v59,c60,v63,c64,hv61,hv65,rfl,rfl⟩:=hR56
  have hS58:=Sep.no2 hS57
  simp only [ql,B0,reduceIte,reduceEqDiff]
  refine qg (v := .agg [.int .i64 x47.Term,.int .i64 x47.Voted,.bool x47.Stands,.bool x47.Leads,v59,v63]) ((SlG.lds (o:=0) hv55 rfl hx48 hS58 (nle rfl)).trans rfl) ?_
  simp only [jj,B0,reduceIte,reduceEqDiff]
  refine z8 hS58 (fun b67 h68 hS69=>?_)
  simp only [zg,B0,reduceIte,reduceEqDiff]
  refine qw (us:=[.int .i64 x47.Term,.int .i64 x47.Voted,.bool x47.Stands,.bool x47.Leads,v59,v63]) rfl (cs':=[.int .i64 x47.Term,.int .i64 x47.Voted,
    .bool x47.Stands,.bool x47.Leads,v59,
    v63]) hS69 hW rfl (qm rfl (qm rfl (qm rfl (qm rfl (qm (SlF.one hv61) (qm (SlF.one hv65) zm)))))) (nle rfl) rfl (fun h71 hS72=>?_)
  simp only [qa,qyq,qf,qd,qp,qb,Nat.reduceAdd,Nat.zero_add,Nat.add_zero,qs,zg,B0,reduceIte,reduceEqDiff]
  refine qw (us:=[.bool false]) rfl (cs':=[.int .i64 x47.Term,.int .i64 x47.Voted,.bool false,.bool x47.Leads,v59,
    v63]) hS72 hW rfl rfl (nle rfl) rfl (fun h73 hS74=>?_)
  simp only [qa,qyn,qf,qd,qp,qb,Nat.reduceAdd,Nat.zero_add,Nat.add_zero,qs,zg,B0,reduceIte,reduceEqDiff]
  refine qw (us:=[.bool false]) rfl (cs':=[.int .i64 x47.Term,.int .i64 x47.Voted,.bool false,.bool false,v59,
    v63]) hS74 hW rfl rfl (nle rfl) rfl (fun h75 hS76=>?_)
  simp only [qa,qx3,qf,qd,qp,qb,Nat.reduceAdd,Nat.zero_add,Nat.add_zero,qs,zg,B0,reduceIte,reduceEqDiff]
  refine qw (us:=[.nil]) rfl (cs':=[.int .i64 x47.Term,.int .i64 x47.Voted,.bool false,.bool false,.nil,v63]) hS76 hW rfl rfl (nle rfl) rfl (fun h77 hS78=>?_)
  simp only [qa,qzt,qf,qd,f20,qp,qb,Nat.reduceAdd,Nat.zero_add,Nat.add_zero,qs,ql,B0,reduceIte,reduceEqDiff]
  refine qg (v:=pv0_0) ((zz (Sep.bk _ _ _ (Sep.m4 hS78))).trans rfl) ?_
  simp only [f21,qp,qb,Nat.reduceAdd,Nat.zero_add,Nat.add_zero,qr,ql,B0,reduceIte,reduceEqDiff]
  refine qg (v := .int .i64 v_1.Leader) rfl ?_
  simp only [ql,B0,reduceIte,reduceEqDiff]
  refine qg (v := .agg [.int .i64 x47.Term,.int .i64 x47.Voted,.bool false,.bool false,.nil,v63]) ((zu (Sep.bk _ _ _ hS78)).trans rfl) ?_
  simp only [jg,B0,reduceIte,reduceEqDiff]
  refine qg (SlG.ia hv55 hx48) ?_
  simp only [zg,B0,reduceIte,reduceEqDiff]
  refine yi (n:=6) (us:=[.int .i64 x47.Term,.int .i64 x47.Voted,.bool false,.bool false,.nil,v63]) (cs:=[.int .i64 x47.Term,.int .i64 x47.Voted,
    .bool x47.Stands,.bool x47.Leads,v59,v63]) (o:=0) (cs':=[.int .i64 x47.Term,.int .i64 x47.Voted,.bool false,.bool false,.nil,
    v63]) rfl hv55 rfl hx48 (Sep.m1 hS78) hW rfl (qm rfl (qm rfl (qm rfl (qm rfl (qm rfl (qm (SlF.one hv65) zm)))))) (nle rfl) rfl
    (fun c81 h79 hv82 hS80=>?_)
  simp only [qa,qf,qd,f20,ql,B0,reduceIte,reduceEqDiff]
  refine qg (v := .agg [pv0_0,pv0_1,pv0_2]) ((zu (Sep.bk _ _ _ (Sep.m4 hS80))).trans rfl) ?_
  simp only [f22,zg,B0,reduceIte,reduceEqDiff]
  refine qw (us:=[pv0_0,pv0_1,pv0_2]) rfl (cs':=[pv0_0,pv0_1,
    pv0_2]) (Sep.m5 hS80) hW rfl (qm (SlG.one hv82) (qm (SlF.one ph0_1) (qm (SlF.one ph0_2) zm))) (nle rfl) rfl (fun h83 hS84=>?_)
  simp only [qe,qa,q9,B0,reduceIte,reduceEqDiff]
  obtain ⟨c85,hv86,hS87⟩:=SlG.cls (e':=(Server.mk x47.Term x47.Voted false false [] x47.Log)) (c:=c81) (os:=[]++(c64)) hv82 rfl hx48 jm (Server.RI (x :=
    (Server.mk x47.Term x47.Voted false false [] x47.Log)) SlF.nil hv65) (Sep.ni2 (c1:=[]) (c2:=c64) (S:=([Blk1 b9 [pv0_0,pv0_1,
    pv0_2] 31]++([Blk1 b67 [.int .i64 x47.Term,.int .i64 x47.Voted,.bool false,.bool false,.nil,v63] 46]++(c60++([Blk1 b1 [pv0_0,pv0_1,
    pv0_2] 31]++(pc0_1++(pc0_2++(S0)))))))) ((Sep.m2 (Sep.m4 hS84)) : Sep _ lo (c81++(c64++([Blk1 b9 [pv0_0,pv0_1,pv0_2] 31]++([Blk1 b67 [.int .i64 x47.Term,
    .int .i64 x47.Voted,.bool false,.bool false,.nil,v63] 46]++(c60++([Blk1 b1 [pv0_0,pv0_1,pv0_2] 31]++(pc0_1++(pc0_2++(S0)))))))))))
  have hx88:=xd (x':=(Server.mk x47.Term x47.Voted false false [] x47.Log)) hx48
  have hv89:=SlG.toN hv86
  have he:=qi hF49
  subst he
  refine jz (qo (kf (bb:=b9) (oo:=0) (v := .agg [pv0_0,pv0_1,
    pv0_2]) (f22) ((zu (Sep.bk _ _ _ (Sep.m1 hS87))).trans rfl)) (qo (yl (v := .bool true) (rfl)) zh)) ?_
  exact ⟨c85,pv0_1,pc0_1,pv0_2,pc0_2,by first | trivial | rfl,hv89,ph0_1,ph0_2,
    (Sep.m2 (Sep.m2 (Sep.m2 (Sep.dc (Sep.m1 (Sep.dc (Sep.m1 (Sep.dc (Sep.m1 (Sep.dc (Sep.m1 hS87)))))))))))⟩
 rw [iteF hc25] at hF
 simp only [zc,qq9,qf,qd,f21,qp,qb,Nat.reduceAdd,Nat.zero_add,Nat.add_zero,qr,ql,B0,reduceIte,reduceEqDiff]
 refine qg (v := .int .i64 v_1.Term) rfl ?_
 simp only [qz,B0,reduceIte,reduceEqDiff]
 refine jp rfl (qo zf (qo zf (qo zf zh))) (qga (fun b hb=>decide_eq_true hb) v_1.Term 2 4 _ rfl) ?_
 simp only [js,qb,ki,qe,B0,reduceIte,reduceEqDiff]
 refine ja 4 (fun fr' h'=>Sep h' lo ([Blk1 b1 [pv0_0,pv0_1,pv0_2] 31]++([Blk1 b9 [.nil,.nil,
   .nil] 31]++(pc0_0++(pc0_1++(pc0_2++(S0))))))∧fr' 55 = .bool ((!(kr v_1.Term 2 4))||(decide
   (v_1.Leader<0)))∧fr' 2 = .ptr b1 0∧fr' 3 = .ref [.int .i64 v_1.Term,.int .i64 v_1.Leader] 0∧fr' 4 = .ptr b9 0) (fun Q90 hN91=>?_) ?_
 ·simp only [List.take_succ_cons,List.take_zero]
  simp only [qc (g:=51),B0,reduceIte,reduceEqDiff]
  refine qy (t:=(!(kr v_1.Term 2 4))) (fun hg92=>?_) (fun hg92=>?_)
  ·simp only [hg92,qc (g:=51),zq,qq,qb,zj,qa,qj,B0,reduceIte,reduceEqDiff]
   exact hN91 _ _ ⟨(Sep.m4 (Sep.m4 (Sep.m4 (Sep.m4 (Sep.m4 hS24))))),by rw [orT hg92]; simp only [B0,reduceIte,reduceEqDiff],f20,f21,f22⟩
  ·simp only [hg92,qc (g:=51),qn,f21,qp,qb,Nat.reduceAdd,Nat.zero_add,Nat.add_zero,qr,ql,B0,reduceIte,reduceEqDiff]
   refine qg (v := .int .i64 v_1.Leader) rfl ?_
   simp only [hg92,qc (g:=51),qn,qv,qb,qdj,qq,zi,qa,qj,B0,reduceIte,reduceEqDiff]
   exact hN91 _ _ ⟨(Sep.m4 (Sep.m4 (Sep.m4 (Sep.m4 (Sep.m4 hS24))))),by rw [orF hg92]; simp only [B0,reduceIte,reduceEqDiff],f20,f21,f22⟩
 rintro fr93 h98 ⟨hS99,f94,f95,f96,f97⟩
 simp only [List.drop_succ_cons,List.drop_zero]
 simp only [f94,qe,B0,reduceIte,reduceEqDiff]
 refine ja 7 (fun fr' h'=>Sep h' lo ([Blk1 b1 [pv0_0,pv0_1,pv0_2] 31]++([Blk1 b9 [.nil,.nil,
   .nil] 31]++(pc0_0++(pc0_1++(pc0_2++(S0))))))∧fr' 63 = .bool (((!(kr v_1.Term 2 4))||(decide (v_1.Leader<0)))||(decide
   ((List.length v_0.Post:Int)≤v_1.Leader)))∧fr' 2 = .ptr b1 0∧fr' 3 = .ref [.int .i64 v_1.Term,.int .i64 v_1.Leader] 0∧fr' 4 = .ptr b9 0) (fun Q100 hN101=>?_) ?_
 ·simp only [List.take_succ_cons,List.take_zero]
  simp only [qc (g:=56),B0,reduceIte,reduceEqDiff]
  refine qy (t:=((!(kr v_1.Term 2 4))||(decide (v_1.Leader<0)))) (fun hg102=>?_) (fun hg102=>?_)
  ·simp only [hg102,qc (g:=56),zq,qq,qb,zj,qa,qj,B0,reduceIte,reduceEqDiff]
   exact hN101 _ _ ⟨(Sep.m4 (Sep.m4 (Sep.m4 (Sep.m4 (Sep.m4 hS99))))),by rw [orT hg102]; simp only [B0,reduceIte,reduceEqDiff],f95,f96,f97⟩
  ·simp only [hg102,qc (g:=56),qn,f96,qp,qb,Nat.reduceAdd,Nat.zero_add,Nat.add_zero,qr,ql,B0,reduceIte,reduceEqDiff]
   refine qg (v := .int .i64 v_1.Leader) rfl ?_
   simp only [hg102,qc (g:=56),qn,f95,qp,qb,Nat.reduceAdd,Nat.zero_add,Nat.add_zero,qs,ql,B0,reduceIte,reduceEqDiff]
   refine qg (v:=pv0_1) ((zz (Sep.bk _ _ _ hS99)).trans rfl) ?_
   simp only [hg102,qc (g:=56),qn,zn,qb,SlF.plen ph0_1,qv,qhy,qq,zi,qa,qj,B0,reduceIte,reduceEqDiff]
   exact hN101 _ _ ⟨(Sep.m4 (Sep.m4 (Sep.m4 (Sep.m4 (Sep.m4 hS99))))),by rw [orF hg102]; simp only [B0,reduceIte,reduceEqDiff],f95,f96,f97⟩
 rintro fr103 h108 ⟨hS109,f104,f105,f106,f107⟩
 simp only [List.drop_succ_cons,List.drop_zero]
 simp only [qa,qp1,f104,za,B0,reduceIte,reduceEqDiff]
 refine q8 (t:=(((!(kr v_1.Term 2 4))||(decide (v_1.Leader<0)))||(decide ((List.length v_0.Post:Int)≤v_1.Leader)))) (fun hc110=>?_) (fun hc110=>?_)
 ·rw [iteT hc110] at hF
  simp only [qf,qd,f105,ql,B0,reduceIte,reduceEqDiff]
  refine qg (v := .agg [pv0_0,pv0_1,pv0_2]) ((zu (Sep.bk _ _ _ hS109)).trans rfl) ?_
  simp only [f107,zg,B0,reduceIte,reduceEqDiff]
  refine qw (us:=[pv0_0,pv0_1,pv0_2]) rfl (cs':=[pv0_0,pv0_1,
    pv0_2]) (Sep.m1 hS109) hW rfl (qm (SlN.one ph0_0) (qm (SlF.one ph0_1) (qm (SlF.one ph0_2) zm))) (nle rfl) rfl (fun h111 hS112=>?_)
  simp only [qe,qa,q9,B0,reduceIte,reduceEqDiff]
  have he:=qi hF
  subst he
  refine jz (qo (kf (bb:=b9) (oo:=0) (v := .agg [pv0_0,pv0_1,
    pv0_2]) (f107) ((zu (Sep.bk _ _ _ hS112)).trans rfl)) (qo (yl (v := .bool false) (rfl)) zh)) ?_
  exact ⟨pc0_0,pv0_1,pc0_1,pv0_2,pc0_2,by first | trivial | rfl,ph0_0,ph0_1,ph0_2,(Sep.m2 (Sep.m2 (Sep.m2 (Sep.dc ((Sep.dc (hS112)))))))⟩
 rw [iteF hc110] at hF
 simp only [zc,qt1,qf,qd,f105,qp,qb,Nat.reduceAdd,Nat.zero_add,Nat.add_zero,qs,ql,B0,reduceIte,reduceEqDiff]
 refine qg (v:=pv0_1) ((zz (Sep.bk _ _ _ hS109)).trans rfl) ?_
 simp only [f106,qp,qb,Nat.reduceAdd,Nat.zero_add,Nat.add_zero,qr,ql,B0,reduceIte,reduceEqDiff]
 refine qg (v := .int .i64 v_1.Leader) rfl ?_
 obtain ⟨j0,hx114,hF115⟩:=qh hF
 simp only [jg,B0,reduceIte,reduceEqDiff]
 obtain ⟨b116,hb117⟩:=SlF.isrow ph0_1 (wv hx114)
 refine qg (SlF.ia ph0_1 hb117 hx114) ?_
 simp only [ql,B0,reduceIte,reduceEqDiff]
 refine qg (v := .agg [.int .i64 j0.To,.int .i64 j0.From,.int .i64 j0.Term,.bool j0.Asks,.int .i64 j0.Last,.int .i64 j0.Long,
   .bool j0.Grant]) ((SlF.lds (o:=0) ph0_1 (Sep.m3 hS109) hb117 hx114 (fun _=>rfl) (nle rfl)).trans rfl) ?_
 simp only [jj,B0,reduceIte,reduceEqDiff]
 refine z8 hS109 (fun b118 h119 hS120=>?_)
 simp only [zg,B0,reduceIte,reduceEqDiff]
 refine qw (us:=[.int .i64 j0.To,.int .i64 j0.From,.int .i64 j0.Term,.bool j0.Asks,.int .i64 j0.Last,.int .i64 j0.Long,
   .bool j0.Grant]) rfl (cs':=[.int .i64 j0.To,.int .i64 j0.From,.int .i64 j0.Term,.bool j0.Asks,.int .i64 j0.Last,.int .i64 j0.Long,
   .bool j0.Grant]) hS120 hW rfl rfl (nle rfl) rfl (fun h122 hS123=>?_)
 simp only [qa,B0,reduceIte,reduceEqDiff]
 refine jb hS123 hW (by simp only [B0,reduceIte,reduceEqDiff]) (fun h124 hS125=>?_)
 simp only [z9,qsh,qf,qd,f106,qp,qb,Nat.reduceAdd,Nat.zero_add,Nat.add_zero,qr,ql,B0,reduceIte,reduceEqDiff]
 refine qg (v := .int .i64 v_1.Term) rfl ?_
 simp only [qv,qb,yo,qa,qta,za,B0,reduceIte,reduceEqDiff]
 refine q8 (t:=(decide (v_1.Term=4))) (fun hc126=>?_) (fun hc126=>?_)
 ·rw [iteT hc126] at hF115
  simp only [qs8,qf,qd,f105,qp,qb,Nat.reduceAdd,Nat.zero_add,Nat.add_zero,qs,ql,B0,reduceIte,reduceEqDiff]
  refine qg (v:=pv0_1) ((zz (Sep.bk _ _ _ hS125)).trans rfl) ?_
  simp only [zn,qb,SlF.plen ph0_1,qv,yo,qa,qtz,za,B0,reduceIte,reduceEqDiff]
  refine q8 (t:=(decide ((List.length v_0.Post:Int)=20))) (fun hc127=>?_) (fun hc127=>?_)
  ·rw [iteT hc127] at hF115
   simp only [qf,qd,f105,ql,B0,reduceIte,reduceEqDiff]
   refine qg (v := .agg [pv0_0,pv0_1,pv0_2]) ((zu (Sep.bk _ _ _ hS125)).trans rfl) ?_
   simp only [f107,zg,B0,reduceIte,reduceEqDiff]
   refine qw (us:=[pv0_0,pv0_1,pv0_2]) rfl (cs':=[pv0_0,pv0_1,
     pv0_2]) (Sep.m1 hS125) hW rfl (qm (SlN.one ph0_0) (qm (SlF.one ph0_1) (qm (SlF.one ph0_2) zm))) (nle rfl) rfl (fun h128 hS129=>?_)
   simp only [qe,qa,q9,B0,reduceIte,reduceEqDiff]
   have he:=qi hF115
   subst he
   refine jz (qo (kf (bb:=b9) (oo:=0) (v := .agg [pv0_0,pv0_1,
     pv0_2]) (f107) ((zu (Sep.bk _ _ _ hS129)).trans rfl)) (qo (yl (v := .bool false) (rfl)) zh)) ?_
   exact ⟨pc0_0,pv0_1,pc0_1,pv0_2,pc0_2,by first | trivial | rfl,ph0_0,ph0_1,ph0_2,(Sep.m2 (Sep.m2 (Sep.m2 (Sep.dc ((Sep.dc (hS129)))))))⟩
  rw [iteF hc127] at hF115
  simp only [zc,qss,qf,qd,f105,qp,qb,Nat.reduceAdd,Nat.zero_add,Nat.add_zero,qs,ql,B0,reduceIte,reduceEqDiff]
  refine qg (v:=pv0_1) ((zz (Sep.bk _ _ _ hS125)).trans rfl) ?_
  simp only [ql,B0,reduceIte,reduceEqDiff]
  refine qg (v := .agg [.int .i64 j0.To,.int .i64 j0.From,.int .i64 j0.Term,.bool j0.Asks,.int .i64 j0.Last,.int .i64 j0.Long,.bool j0.Grant]) rfl ?_
  simp only [ju,evp,B0,reduceIte,reduceEqDiff]
  refine jk (n:=7) (f:=Letter.cells) [j0] hS125 rfl rfl (fun v130 c131 h132 hv133 hS134=>?_)
  simp only [wa,B0,reduceIte,reduceEqDiff]
  obtain ⟨l136,hx137,hF138⟩:=qh hF115
  refine yj (f:=Letter.cells) ph0_1 (Sep.m4 hS134) hW (fun _=>rfl) (fun _=>rfl) (SlF.first hv133 hS134 (fun _=>rfl)) hx137 (fun v139 c140 h141 hv142 hS143=>?_)
  simp only [f105,qp,qb,Nat.reduceAdd,Nat.zero_add,Nat.add_zero,qs,zg,B0,reduceIte,reduceEqDiff]
  refine qw (us:=[v139]) (jd (SlF.one hv142)) (cs':=[pv0_0,v139,
    pv0_2]) (Sep.m2 hS143) hW rfl (qm (SlF.one hv142) zm) (nle rfl) rfl (fun h145 hS146=>?_)
  simp only [qa,qf,qd,f105,ql,B0,reduceIte,reduceEqDiff]
  refine qg (v := .agg [pv0_0,v139,pv0_2]) ((zu (Sep.bk _ _ _ hS146)).trans rfl) ?_
  simp only [f107,zg,B0,reduceIte,reduceEqDiff]
  refine qw (us:=[pv0_0,v139,pv0_2]) rfl (cs':=[pv0_0,v139,
    pv0_2]) (Sep.m3 hS146) hW rfl (qm (SlN.one ph0_0) (qm (SlF.one hv142) (qm (SlF.one ph0_2) zm))) (nle rfl) rfl (fun h147 hS148=>?_)
  simp only [qe,qa,q9,B0,reduceIte,reduceEqDiff]
  have he:=qi hF138
  subst he
  refine jz (qo (kf (bb:=b9) (oo:=0) (v := .agg [pv0_0,v139,
    pv0_2]) (f107) ((zu (Sep.bk _ _ _ hS148)).trans rfl)) (qo (yl (v := .bool true) (rfl)) zh)) ?_
  exact ⟨pc0_0,v139,c140,pv0_2,pc0_2,by first | trivial | rfl,ph0_0,hv142,ph0_2,(Sep.m2 (Sep.m1 (Sep.m2 (Sep.dc (Sep.m1 (Sep.dc ((Sep.dc (hS148)))))))))⟩
 rw [iteF hc126] at hF115
 simp only [zc,qul,qf,jr,wt,evp,B0,reduceIte,reduceEqDiff]
 refine yy (n:=7) (f:=Letter.cells) ([] : List Letter) hS125 rfl rfl (fun v150 c151 h152 hv153 hS154 hq149=>?_)
 simp only [f105,zx,qk,Nat.reduceAdd,Nat.zero_add,Nat.add_zero,qs,zv,B0,reduceIte,reduceEqDiff]
 refine qu (v:=pv0_1) ((zz (Sep.bk _ _ _ (Sep.m1 hS154))).trans rfl) ?_
 simp only [f106,zx,qk,Nat.reduceAdd,Nat.zero_add,Nat.add_zero,qr,zv,B0,reduceIte,reduceEqDiff]
 refine qu (v := .int .i64 v_1.Leader) rfl ?_
 obtain ⟨l156,hx157,hF158⟩:=qh hF115
 simp only [qml,Option.map_some,Option.map_none,B0,reduceIte,reduceEqDiff]
 obtain ⟨w159,i160,he161,hw162⟩:=SlF.win (f:=Letter.cells) (ty:=93) none (some v_1.Leader) ph0_1 hx157 (Sep.m4 hS154)
 refine qu he161 ?_
 simp only [qgk,B0,reduceIte,reduceEqDiff]
 obtain ⟨l163,hx164,hF165⟩:=qh hF158
 have hq166:=nwq (fun z hz=>Sep.dj (Sep.m1 (Sep.m1 hS154)) qeo (SlF.rowfp hv153 z hz))
 have hq167:=nwq (fun z hz=>Sep.dj (Sep.m1 (Sep.m2 hS154)) qeo (SlF.rowfp hv153 z hz))
 refine qjl qhr ?_
 refine yz (f:=Letter.cells) hv153 hS154 hW (fun _=>rfl) (fun _=>rfl) (SlW.first hw162 ph0_1 (Sep.m4 hS154) (fun _=>rfl)) hx164
   (fun v168 c169 h170 hv171 hS172=>?_)
 simp only [f105,qc0,qk,Nat.reduceAdd,Nat.zero_add,Nat.add_zero,qs,qb8,B0,reduceIte,reduceEqDiff]
 refine q3g (Sep.ltk hS125) (nw1 hq166 nw0) ?_
 refine qu (v:=pv0_1) ((zz (Sep.bk _ _ _ (Sep.m1 hS172))).trans rfl) ?_
 simp only [f106,qc0,qk,Nat.reduceAdd,Nat.zero_add,Nat.add_zero,qr,qb8,qgu,B0,reduceIte,reduceEqDiff]
 refine qu (v := .int .i64 v_1.Leader) rfl ?_
 obtain ⟨l174,hx175,hF176⟩:=qh hF165
 simp only [q4w,qk,qbj,q5c,Option.map_some,Option.map_none,B0,reduceIte,reduceEqDiff]
 obtain ⟨w177,i178,he179,hw180⟩:=SlF.win (f:=Letter.cells) (ty:=93) (some (IntKind.wrap .i64 (v_1.Leader+1))) none ph0_1 hx175 (Sep.m4 hS172)
 refine qu he179 ?_
 simp only [qcr,B0,reduceIte,reduceEqDiff]
 obtain ⟨l181,hx182,hF183⟩:=qh hF176
 refine yz (f:=Letter.cells) hv171 hS172 hW (fun _=>rfl) (fun _=>rfl) (SlW.first hw180 ph0_1 (Sep.m4 hS172) (fun _=>rfl)) hx182
   (fun v184 c185 h186 hv187 hS188=>?_)
 simp only [f105,zx,qk,Nat.reduceAdd,Nat.zero_add,Nat.add_zero,qs,qcv,B0,reduceIte,reduceEqDiff]
 refine xe (us:=[v184]) (jd (SlF.one hv187)) (cs':=[pv0_0,v184,
   pv0_2]) (Sep.m1 hS188) hW rfl (qm (SlF.one hv187) zm) (nle rfl) rfl (fun h190 hS191=>?_)
 simp only [zd,qtf,qf,qd,f106,qp,qb,Nat.reduceAdd,Nat.zero_add,Nat.add_zero,qr,ql,B0,reduceIte,reduceEqDiff]
 refine qg (v := .int .i64 v_1.Term) rfl ?_
 simp only [qv,qb,yo,qa,qqf,za,B0,reduceIte,reduceEqDiff]
 refine q8 (t:=(decide (v_1.Term=2))) (fun hc192=>?_) (fun hc192=>?_)
 ·rw [iteT hc192] at hF183
  simp only [qs4,qd,f105,ql,B0,reduceIte,reduceEqDiff]
  refine qg (v := .agg [pv0_0,v184,pv0_2]) ((zu (Sep.bk _ _ _ hS191)).trans rfl) ?_
  simp only [ql,B0,reduceIte,reduceEqDiff]
  refine qg (v := .agg [.int .i64 j0.To,.int .i64 j0.From,.int .i64 j0.Term,.bool j0.Asks,.int .i64 j0.Last,.int .i64 j0.Long,.bool j0.Grant]) rfl ?_
  obtain ⟨v193,hx194,hF195⟩:=qh hF183
  simp only [qz,B0,reduceIte,reduceEqDiff]
  refine kq rfl (qkv hW k (Election.mk v_0.Servers l181 v_0.Led) pv0_0 pc0_0 ph0_0 v184 c185 hv187 pv0_2 pc0_2 ph0_2 j0 v193 hx194 (Sep.m4 (Sep.m2
    (Sep.m5 hS191)))) ?_
  rintro _ h206 ⟨c196,v198,c199,v202,c203,rfl,hv197,hv200,hv204,hS207⟩
  simp only [f105,zg,B0,reduceIte,reduceEqDiff]
  refine qw (us:=[pv0_0,v198,v202]) rfl (cs':=[pv0_0,v198,
    v202]) (Sep.m3 hS207) hW rfl (qm (SlN.one hv197) (qm (SlF.one hv200) (qm (SlF.one hv204) zm))) (nle rfl) rfl (fun h208 hS209=>?_)
  simp only [qa,qf,qd,f105,ql,B0,reduceIte,reduceEqDiff]
  refine qg (v := .agg [pv0_0,v198,v202]) ((zu (Sep.bk _ _ _ hS209)).trans rfl) ?_
  simp only [f107,zg,B0,reduceIte,reduceEqDiff]
  refine qw (us:=[pv0_0,v198,v202]) rfl (cs':=[pv0_0,v198,
    v202]) (Sep.m4 hS209) hW rfl (qm (SlN.one hv197) (qm (SlF.one hv200) (qm (SlF.one hv204) zm))) (nle rfl) rfl (fun h210 hS211=>?_)
  simp only [qe,qa,q9,B0,reduceIte,reduceEqDiff]
  have he:=qi hF195
  subst he
  refine jz (qo (kf (bb:=b9) (oo:=0) (v := .agg [pv0_0,v198,
    v202]) (f107) ((zu (Sep.bk _ _ _ hS211)).trans rfl)) (qo (yl (v := .bool true) (rfl)) zh)) ?_
  exact ⟨c196,v198,c199,v202,c203,by first | trivial | rfl,hv197,hv200,hv204,(Sep.m2 (Sep.m2 (Sep.m2 (Sep.dc (Sep.m3 (Sep.dc ((Sep.dc (hS211)))))))))⟩
 rw [iteF hc192] at hF183
 simp only [zc,qf,qd,f105,ql,B0,reduceIte,reduceEqDiff]
 refine qg (v := .agg [pv0_0,v184,pv0_2]) ((zu (Sep.bk _ _ _ hS191)).trans rfl) ?_
 simp only [f107,zg,B0,reduceIte,reduceEqDiff]
 refine qw (us:=[pv0_0,v184,pv0_2]) rfl (cs':=[pv0_0,v184,
   pv0_2]) (Sep.m2 hS191) hW rfl (qm (SlN.one ph0_0) (qm (SlF.one hv187) (qm (SlF.one ph0_2) zm))) (nle rfl) rfl (fun h212 hS213=>?_)
 simp only [qe,qa,q9,B0,reduceIte,reduceEqDiff]
 have he:=qi hF183
 subst he
 refine jz (qo (kf (bb:=b9) (oo:=0) (v := .agg [pv0_0,v184,
   pv0_2]) (f107) ((zu (Sep.bk _ _ _ hS213)).trans rfl)) (qo (yl (v := .bool true) (rfl)) zh)) ?_
 exact ⟨pc0_0,v184,c185,pv0_2,pc0_2,by first | trivial | rfl,ph0_0,hv187,ph0_2,(Sep.m2 (Sep.m1 (Sep.m2 (Sep.dc (Sep.m2 (Sep.dc ((Sep.dc (hS213)))))))))⟩
theorem qhw {W:Nat→Bool}{h:Heap} (hW:∀ b,
  (geL h.length) b→W b=true) (e_0:Election) (r:Election) (hF:qcy e_0=some r) : Ret E W 52 [.agg [lst Server.cells e_0.Servers,lst Letter.cells e_0.Post,
  lst Vote.cells e_0.Led]] h (fun v h'=>∃ rv0_0 rc0_0 rv0_1 rc0_1 rv0_2 rc0_2,v = .agg [rv0_0,rv0_1,
  rv0_2]∧SlN Server.R 6 46 rv0_0 r.Servers rc0_0∧SlF Letter.cells 7 93 rv0_1 r.Post rc0_1∧SlF Vote.cells 2 39 rv0_2 r.Led rc0_2∧Sep h' (geL h.length) (rc0_0 ++
  (rc0_1++(rc0_2++([]))))):=by
 refine Ret.of (fn:=x52) rfl (Run.of ?_)
 unfold qcy at hF
 have zf0:zb [.agg [lst Server.cells e_0.Servers,lst Letter.cells e_0.Post,lst Vote.cells e_0.Led]] 0 = .agg [lst Server.cells e_0.Servers,lst Letter.cells e_0.Post,
   lst Vote.cells e_0.Led]:=rfl
 generalize zb [.agg [lst Server.cells e_0.Servers,lst Letter.cells e_0.Post,lst Vote.cells e_0.Led]]=fr0 at zf0 ⊢
 have hS:Sep h (geL h.length) []:=Sep.nil h
 simp only [x52,qf,qd,yb,zf0,B0,reduceIte,reduceEqDiff]
 refine kg (cs:=[lst Server.cells e_0.Servers,lst Letter.cells e_0.Post,lst Vote.cells e_0.Led]) hS rfl rfl rfl (fun b1 h2 hS3=>?_)
 simp only [jj,B0,reduceIte,reduceEqDiff]
 refine z8 hS3 (fun b5 h6 hS7=>?_)
 simp only [qa,B0,reduceIte,reduceEqDiff]
 refine jb (Sep.m1 hS7) hW (by simp only [B0,reduceIte,reduceEqDiff]) (fun h9 hS10=>?_)
 simp only [z9,qxs,qf,jr,wt,evp,B0,reduceIte,reduceEqDiff]
 refine yy (n:=7) (f:=Letter.cells) ([] : List Letter) hS10 rfl rfl (fun v12 c13 h14 hv15 hS16 hq11=>?_)
 simp only [qkq,evp,B0,reduceIte,reduceEqDiff]
 refine qdd (n:=2) (f:=Vote.cells) ([] : List Vote) hS16 rfl rfl (fun v18 c19 h20 hv21 hS22=>?_)
 simp only [qmq,B0,reduceIte,reduceEqDiff]
 refine qgw hS22 (fun b24 h25 hS26=>?_)
 simp only [zx,qk,Nat.reduceAdd,Nat.zero_add,Nat.add_zero,qr,zv,B0,reduceIte,reduceEqDiff]
 refine qu (v:=lst Letter.cells e_0.Post) rfl ?_
 simp only [qgk,B0,reduceIte,reduceEqDiff]
 obtain ⟨l28,hx29,hF30⟩:=qh hF
 have hq31:=nwq (fun z hz=>Sep.dj (Sep.m3 (Sep.m3 hS26)) qeo (SlF.rowfp hv15 z hz))
 refine qjl qhr ?_
 refine yz (f:=Letter.cells) hv15 (Sep.m2 hS26) hW (fun _=>rfl) (fun _=>rfl) (w5 (fun _=>rfl)) hx29 (fun v32 c33 h34 hv35 hS36=>?_)
 simp only [qc0,qk,Nat.reduceAdd,Nat.zero_add,Nat.add_zero,qr,qb8,qgu,B0,reduceIte,reduceEqDiff]
 refine qu (v:=lst Vote.cells e_0.Led) rfl ?_
 simp only [qcr,B0,reduceIte,reduceEqDiff]
 obtain ⟨l38,hx39,hF40⟩:=qh hF30
 refine yz (f:=Vote.cells) hv21 (Sep.m2 hS36) hW (fun _=>rfl) (fun _=>rfl) (w5 (fun _=>rfl)) hx39 (fun v41 c42 h43 hv44 hS45=>?_)
 simp only [qa1,evp,B0,reduceIte,reduceEqDiff]
 refine qu (v := .agg [.nil,v32,v41]) (qc9 (uz (us:=[v32]) (vs:=[.nil,v32,
   .nil]) (jd (SlF.one hv35)) rfl (nle rfl) (qm (SlF.one hv35) zm) rfl (uz (us:=[v41]) (vs:=[.nil,v32,
   v41]) (jd (SlF.one hv44)) rfl (nle rfl) (qm (SlF.one hv44) zm) rfl qen))) ?_
 simp only [qcv,B0,reduceIte,reduceEqDiff]
 refine xe (us:=[.nil,v32,v41]) rfl (cs':=[.nil,v32,
   v41]) (Sep.m2 hS45) hW rfl (qm rfl (qm (SlF.one hv35) (qm (SlF.one hv44) zm))) (nle rfl) rfl (fun h47 hS48=>?_)
 simp only [zd,q12,qf,qd,qp,qb,Nat.reduceAdd,Nat.zero_add,Nat.add_zero,qr,ql,B0,reduceIte,reduceEqDiff]
 refine qg (v:=lst Server.cells e_0.Servers) rfl ?_
 simp only [zn,qb,zt,qe,qa,B0,reduceIte,reduceEqDiff]
 obtain ⟨oc61,hX63,hk64⟩:=kd hF40
 simp only [q1d]
 refine wj (σ:=Election) e_0.Servers (fun i59 x60 s140=>qaj l28 l38 i59 x60 s140) (fun s fr' h'=>∃ v56 c57,
   fr' 2 = .ptr b5 0∧fr' 3 = .ptr b24 0∧fr' 16=lst Server.cells e_0.Servers∧SlN Server.R 6 46 v56 s.Servers c57∧Sep h' (geL h.length) ([Blk1 b5 [.nil,.nil,
   .nil] 31]++([Blk1 b24 [v56,v32,v41] 31]++(c57++(c33++(c42++([]))))))) hX63 ⟨.nil,[],rfl,rfl,rfl,SlN.nil,
   ((Sep.m3 (Sep.m2 (Sep.m2 (Sep.m1 hS48)))) : Sep _ (geL h.length) ([Blk1 b5 [.nil,.nil,.nil] 31]++([Blk1 b24 [.nil,v32,
   v41] 31]++(c33++(c42++([]))))))⟩ (by simp only [B0,reduceIte,reduceEqDiff]) (by simp only [B0,reduceIte,
   reduceEqDiff]) (fun _ _ _ h=>h) rfl rfl (fun _ _ _ _ h=>h) (fun _ _ _ _ h=>h) (fun _ _ _ _ h=>h) (by decide) ?_ ?_
 ·rintro i59 x60 s54 fr73 h74 hx79 ⟨v56,c57,f76,f77,f78,hv58,hS75⟩ f80 f81 oc62 hF65 hr66 Q67 hN68 hB72 hK69 hR70 hE71
  unfold qaj at hF65
  simp only [q0e,qf,qd,f78,f80,jg,B0,reduceIte,reduceEqDiff]
  refine qg (v := .ref (Server.cells x60) 0) (wi hx79 rfl) ?_
  simp only [ql,B0,reduceIte,reduceEqDiff]
  refine qg (v := .agg [.int .i64 x60.Term,.int .i64 x60.Voted,.bool x60.Stands,.bool x60.Leads,lst cI x60.Got,lst cI x60.Log]) rfl ?_
  simp only [jj,B0,reduceIte,reduceEqDiff]
  refine z8 hS75 (fun b82 h83 hS84=>?_)
  simp only [zg,B0,reduceIte,reduceEqDiff]
  refine qw (us:=[.int .i64 x60.Term,.int .i64 x60.Voted,.bool x60.Stands,.bool x60.Leads,lst cI x60.Got,lst cI x60.Log]) rfl (cs':=[.int .i64 x60.Term,
    .int .i64 x60.Voted,.bool x60.Stands,.bool x60.Leads,lst cI x60.Got,lst cI x60.Log]) hS84 hW rfl rfl (nle rfl) rfl (fun h86 hS87=>?_)
  simp only [qa,qyj,qf,qd,ju,evp,B0,reduceIte,reduceEqDiff]
  refine jk (n:=1) (f:=cI) ([] : List Int) hS87 rfl rfl (fun v88 c89 h90 hv91 hS92=>?_)
  simp only [qp,qb,Nat.reduceAdd,Nat.zero_add,Nat.add_zero,qs,ql,B0,reduceIte,reduceEqDiff]
  refine qg (v:=lst cI x60.Got) ((zz (Sep.bk _ _ _ (Sep.m1 hS92))).trans rfl) ?_
  simp only [wa,B0,reduceIte,reduceEqDiff]
  obtain ⟨l94,hx95,hF96⟩:=qh hF65
  refine yj (f:=cI) hv91 hS92 hW (fun _=>rfl) (fun _=>rfl) (w5 (fun _=>rfl)) hx95 (fun v97 c98 h99 hv100 hS101=>?_)
  simp only [qp,qb,Nat.reduceAdd,Nat.zero_add,Nat.add_zero,qs,zg,B0,reduceIte,reduceEqDiff]
  refine qw (us:=[v97]) (jd (SlF.one hv100)) (cs':=[.int .i64 x60.Term,.int .i64 x60.Voted,.bool x60.Stands,.bool x60.Leads,v97,
    lst cI x60.Log]) (Sep.m1 hS101) hW rfl (qm (SlF.one hv100) zm) (nle rfl) rfl (fun h103 hS104=>?_)
  simp only [qa,qx7,qf,qd,ju,evp,B0,reduceIte,reduceEqDiff]
  refine jk (n:=1) (f:=cI) ([] : List Int) hS104 rfl rfl (fun v105 c106 h107 hv108 hS109=>?_)
  simp only [qp,qb,Nat.reduceAdd,Nat.zero_add,Nat.add_zero,qs,ql,B0,reduceIte,reduceEqDiff]
  refine qg (v:=lst cI x60.Log) ((zz (Sep.bk _ _ _ (Sep.m1 hS109))).trans rfl) ?_
  simp only [wa,B0,reduceIte,reduceEqDiff]
  obtain ⟨l111,hx112,hF113⟩:=qh hF96
  refine yj (f:=cI) hv108 hS109 hW (fun _=>rfl) (fun _=>rfl) (w5 (fun _=>rfl)) hx112 (fun v114 c115 h116 hv117 hS118=>?_)
  simp only [qp,qb,Nat.reduceAdd,Nat.zero_add,Nat.add_zero,qs,zg,B0,reduceIte,reduceEqDiff]
  refine qw (us:=[v114]) (jd (SlF.one hv117)) (cs':=[.int .i64 x60.Term,.int .i64 x60.Voted,.bool x60.Stands,.bool x60.Leads,v97,
    v114]) (Sep.m1 hS118) hW rfl (qm (SlF.one hv117) zm) (nle rfl) rfl (fun h120 hS121=>?_)
  simp only [qa,qx6,qd,f77,qp,qb,Nat.reduceAdd,Nat.zero_add,Nat.add_zero,qs,ql,B0,reduceIte,reduceEqDiff]
  refine qg (v:=v56) ((zz (Sep.bk _ _ _ (Sep.m4 hS121))).trans rfl) ?_
  simp only [ql,B0,reduceIte,reduceEqDiff]
  refine qg (v := .agg [.int .i64 x60.Term,.int .i64 x60.Voted,.bool x60.Stands,.bool x60.Leads,v97,v114]) ((zu (Sep.bk _ _ _ hS121)).trans rfl) ?_
  simp only [ju,evp,B0,reduceIte,reduceEqDiff]
  refine qdu (R:=Server.R) (n:=6) (cs:=[.int .i64 x60.Term,.int .i64 x60.Voted,.bool x60.Stands,.bool x60.Leads,v97,
    v114]) (os:=c98++(c115)) (Sep.bi2 (c1:=c98) (c2:=c115) (Sep.m2 (Sep.m1 hS121))) (uz (us:=[.int .i64 x60.Term,.int .i64 x60.Voted,.bool x60.Stands,
    .bool x60.Leads,v97,v114]) (vs:=[.int .i64 x60.Term,.int .i64 x60.Voted,.bool x60.Stands,.bool x60.Leads,v97,
    v114]) rfl rfl (nle rfl) (qm rfl (qm rfl (qm rfl (qm rfl (qm (SlF.one hv100) (qm (SlF.one hv117) zm)))))) rfl qen) (Server.RI (x :=
    (Server.mk x60.Term x60.Voted x60.Stands x60.Leads l94 l111)) hv100 hv117) rfl (fun v122 c123 h124 hv125 hS126=>?_)
  simp only [wa,B0,reduceIte,reduceEqDiff]
  obtain ⟨l128,hx129,hF130⟩:=qh hF113
  refine qf5 (R:=Server.R) (c:=c57) hv58 hv125 (Sep.m4 hS126) hW Server.RO.len Server.RO.one hx129 (fun v131 c132 h133 hv134 hS135=>?_)
  simp only [f77,qp,qb,Nat.reduceAdd,Nat.zero_add,Nat.add_zero,qs,zg,B0,reduceIte,reduceEqDiff]
  refine qw (us:=[v131]) (jd (SlN.one hv134)) (cs':=[v131,v32,v41]) (Sep.m3 hS135) hW rfl (qm (SlN.one hv134) zm) (nle rfl) rfl (fun h137 hS138=>?_)
  simp only [qa,qj,B0,reduceIte,reduceEqDiff]
  have e139:=qi hF130
  exact hN68 _ _ _ e139.symm ⟨v131,c132,f76,f77,f78,hv134,(Sep.m4 (Sep.m3 (Sep.m3 (Sep.m4 (Sep.m4 (Sep.dc (Sep.m2 hS138)))))))⟩ (f80) (f81)
 rintro s141 fr146 h147 rfl ⟨v143,c144,f149,f150,f151,hv145,hS148⟩
 dsimp only [jnO] at hk64
 unfold qhi at hk64
 simp only [qf,qd,f150,ql,B0,reduceIte,reduceEqDiff]
 refine qg (v := .agg [v143,v32,v41]) ((zu (Sep.bk _ _ _ (Sep.m1 hS148))).trans rfl) ?_
 simp only [f149,zg,B0,reduceIte,reduceEqDiff]
 refine qw (us:=[v143,v32,v41]) rfl (cs':=[v143,v32,
   v41]) hS148 hW rfl (qm (SlN.one hv145) (qm (SlF.one hv35) (qm (SlF.one hv44) zm))) (nle rfl) rfl (fun h152 hS153=>?_)
 simp only [qa,q9,B0,reduceIte,reduceEqDiff]
 have he:=qi hk64
 subst he
 refine qbe (bb:=b5) (oo:=0) (v := .agg [v143,v32,v41]) (by simp only [f149,B0,reduceIte,reduceEqDiff]) ((zu (Sep.bk _ _ _ hS153)).trans rfl) ?_
 exact ⟨v143,c144,v32,c33,v41,c42,by first | trivial | rfl,hv145,hv35,hv44,(Sep.m2 (Sep.m2 (Sep.m2 (Sep.dc ((Sep.dc (hS153)))))))⟩
theorem qhn {W:Nat→Bool}{h:Heap} (hW:∀ b,
  (geL h.length) b→W b=true) (k:Nat) (logs_0:List (List Int)) (l_1:List ElectStep) (r:Election × (List Bool) × Bool)
  (hF:k7 k logs_0 l_1=some r) : Ret E W 9 [lst (cL cI) logs_0,lst ElectStep.cells l_1] h (fun v h'=>∃ rv0_0 rc0_0 rv0_1 rc0_1 rv0_2 rc0_2 rv1 rc1,
  v = .tup [.agg [rv0_0,rv0_1,rv0_2],rv1,
  .bool r.2.2]∧SlN Server.R 6 46 rv0_0 r.1.Servers rc0_0∧SlF Letter.cells 7 93 rv0_1 r.1.Post rc0_1∧SlF Vote.cells 2 39 rv0_2 r.1.Led rc0_2∧SlF cB 1 4 rv1 r.2.1 rc1∧Sep h'
  (geL h.length) (rc0_0++(rc0_1++(rc0_2++(rc1++([])))))):=by
 refine Ret.of (fn:=x9) rfl (Run.of ?_)
 unfold k7 at hF
 have zf0:zb [lst (cL cI) logs_0,lst ElectStep.cells l_1] 0=lst (cL cI) logs_0:=rfl
 have zf1:zb [lst (cL cI) logs_0,lst ElectStep.cells l_1] 1=lst ElectStep.cells l_1:=rfl
 generalize zb [lst (cL cI) logs_0,lst ElectStep.cells l_1]=fr0 at zf0 zf1 ⊢
 have hS:Sep h (geL h.length) []:=Sep.nil h
 simp only [x9,qf,qd,jj,B0,reduceIte,reduceEqDiff]
 refine z8 hS (fun b1 h2 hS3=>?_)
 obtain ⟨v5,hx6,hF7⟩:=qh hF
 simp only [qe,qa,qxc,qf,qd,zf0,qz,B0,reduceIte,reduceEqDiff]
 refine qfy rfl hS3 (qo ji zh) (qhu (fun b hb=>decide_eq_true hb) logs_0 v5 hx6) ?_
 rintro _ h20 ⟨v8,c9,v12,c13,v16,c17,rfl,hv10,hv14,hv18,hS21⟩
 refine ⟨_,qgp (qm (qgn (qm (SlN.free1 hv10) (qm (SlF.free1 hv14) (qm (SlF.free1 hv18) zm)))) (qm rfl zm)),hS21,
   (ku (SlN.pf hv10 Server.RO) (ku (SlF.pf hv14 (fun _=>rfl)) (ku (SlF.pf hv18 (fun _=>rfl)) qd0))),fun h22 hS23=>?_⟩
 have hS24:Sep h22 (geL h.length) (c9++(c13++(c17++([Blk1 b1 [.nil,.nil,.nil] 31]++([]))))):=by simpa only [List.append_assoc,List.nil_append] using hS23
 simp only [qe,qb1,qb,qbt,qbu,jj,B0,reduceIte,reduceEqDiff]
 refine z8 hS24 (fun b25 h26 hS27=>?_)
 simp only [zg,B0,reduceIte,reduceEqDiff]
 refine qw (us:=[v8,v12,v16]) rfl (cs':=[v8,v12,
   v16]) hS27 hW rfl (qm (SlN.one hv10) (qm (SlF.one hv14) (qm (SlF.one hv18) zm))) (nle rfl) rfl (fun h29 hS30=>?_)
 simp only [qe,qa,qzf,qf,qd,js,qb,ki,B0,reduceIte,reduceEqDiff]
 refine ja 4 (fun fr' h'=>Sep h' (geL h.length) ([Blk1 b1 [.nil,.nil,.nil] 31]++([Blk1 b25 [v8,v12,
   v16] 31]++(c9++(c13++(c17++([]))))))∧fr' 25 = .bool ((!v5.2)||(decide ((80:Int) <
   (List.length l_1:Int))))∧fr' 1=lst ElectStep.cells l_1∧fr' 4 = .ptr b1 0∧fr' 7 = .ptr b25 0) (fun Q31 hN32=>?_) ?_
 ·simp only [List.take_succ_cons,List.take_zero]
  simp only [qc (g:=21),B0,reduceIte,reduceEqDiff]
  refine qy (t:=(!v5.2)) (fun hg33=>?_) (fun hg33=>?_)
  ·simp only [hg33,qc (g:=21),zq,qq,qb,zj,qa,qj,B0,reduceIte,reduceEqDiff]
   exact hN32 _ _ ⟨(Sep.m4 (Sep.m3 (Sep.m3 (Sep.m3 (Sep.m3 hS30))))),by rw [orT hg33]; simp only [B0,reduceIte,reduceEqDiff],zf1,rfl,rfl⟩
  ·simp only [hg33,qc (g:=21),qn,zf1,qe,zn,qb,zt,qv,xj,qq,zi,qa,qj,B0,reduceIte,
    reduceEqDiff]
   exact hN32 _ _ ⟨(Sep.m4 (Sep.m3 (Sep.m3 (Sep.m3 (Sep.m3 hS30))))),by rw [orF hg33]; simp only [B0,reduceIte,reduceEqDiff],zf1,rfl,rfl⟩
 rintro fr34 h39 ⟨hS40,f35,f36,f37,f38⟩
 simp only [List.drop_succ_cons,List.drop_zero]
 simp only [qa,q4j,f35,za,B0,reduceIte,reduceEqDiff]
 refine q8 (t:=((!v5.2)||(decide ((80:Int)<(List.length l_1:Int))))) (fun hc41=>?_) (fun hc41=>?_)
 ·rw [iteT hc41] at hF7
  simp only [q44,qf,qd,run_build,evp,B0,reduceIte,reduceEqDiff]
  refine qg (v := .agg [.nil,.nil,.nil]) rfl ?_
  simp only [f37,zg,B0,reduceIte,reduceEqDiff]
  refine qw (us:=[.nil,.nil,.nil]) rfl (cs':=[.nil,.nil,.nil]) hS40 hW rfl rfl (nle rfl) rfl (fun h42 hS43=>?_)
  simp only [qe,qa,q9,B0,reduceIte,reduceEqDiff]
  have he:=qi hF7
  subst he
  refine jz (qo (kf (bb:=b1) (oo:=0) (v := .agg [.nil,.nil,
    .nil]) (f37) ((zu (Sep.bk _ _ _ hS43)).trans rfl)) (qo (yl (v := .nil) (rfl)) (qo (yl (v := .bool false) (rfl)) zh))) ?_
  exact ⟨.nil,[],.nil,[],.nil,[],.nil,[],by first | trivial | rfl,SlN.nil,SlF.nil,SlF.nil,SlF.nil,
    ((Sep.dc ((Sep.dc ((Sep.dc ((Sep.dc ((Sep.dc (hS43)))))))))) : Sep _ (geL h.length) ([]))⟩
 rw [iteF hc41] at hF7
 simp only [zc,q2a,qf,qd,qe,qa,qww,f36,zn,qb,zt,B0,reduceIte,reduceEqDiff]
 obtain ⟨oc82,hX84,hk85⟩:=kd hF7
 simp only [q4h]
 refine wj (σ:=(List Bool) × Election) l_1 (fun i80 x81 s207=>w9 k i80 x81 s207.1 s207.2) (fun s fr' h'=>∃ v64 c65 v69 c70 v73 c74 v77 c78,
   fr' 4 = .ptr b1 0∧fr' 7 = .ptr b25 0∧fr' 9=v64∧fr' 27=lst ElectStep.cells l_1∧SlF cB 1 4 v64 s.1 c65∧SlN Server.R 6 46 v69 s.2.Servers c70∧SlF Letter.cells 7 93 v73 s.2.Post c74∧SlF Vote.cells 2 39 v77 s.2.Led c78∧Sep h'
   (geL h.length) ([Blk1 b1 [.nil,.nil,.nil] 31]++([Blk1 b25 [v69,v73,v77] 31]++(c65++(c70++(c74++(c78++([])))))))) hX84 ⟨.nil,[],v8,c9,v12,c13,v16,c17,
   f37,f38,rfl,rfl,SlF.nil,hv10,hv14,hv18,((Sep.m4 (Sep.m4 (Sep.m4 (Sep.m4 (Sep.m4 hS40))))) : Sep _ (geL h.length) ([Blk1 b1 [.nil,.nil,.nil] 31]++([Blk1 b25 [v8,
   v12,v16] 31]++(c9++(c13++(c17++([])))))))⟩ (by simp only [B0,reduceIte,reduceEqDiff]) (by simp only [B0,reduceIte,
   reduceEqDiff]) (fun _ _ _ h=>h) rfl rfl (fun _ _ _ _ h=>h) (fun _ _ _ _ h=>h) (fun _ _ _ _ h=>h) (by decide) ?_ ?_
 ·rintro i80 x81 ⟨s62,s67⟩ fr94 h95 hx101 ⟨v64,c65,v69,c70,v73,c74,v77,c78,f97,f98,f99,f100,hv66,hv71,hv75,hv79,
   hS96⟩ f102 f103 oc83 hF86 hr87 Q88 hN89 hB93 hK90 hR91 hE92
  dsimp only at *
  unfold w9 at hF86
  simp only [q30,qf,qd,f100,f102,jg,B0,reduceIte,reduceEqDiff]
  refine qg (v := .ref (ElectStep.cells x81) 0) (wi hx101 rfl) ?_
  simp only [ql,B0,reduceIte,reduceEqDiff]
  refine qg (v := .agg [.int .i64 x81.Term,.int .i64 x81.Leader]) rfl ?_
  simp only [jj,B0,reduceIte,reduceEqDiff]
  refine z8 hS96 (fun b104 h105 hS106=>?_)
  simp only [zg,B0,reduceIte,reduceEqDiff]
  refine qw (us:=[.int .i64 x81.Term,.int .i64 x81.Leader]) rfl (cs':=[.int .i64 x81.Term,
    .int .i64 x81.Leader]) hS106 hW rfl rfl (nle rfl) rfl (fun h108 hS109=>?_)
  simp only [qa,B0,reduceIte,reduceEqDiff]
  refine jb hS109 hW (by simp only [B0,reduceIte,reduceEqDiff]) (fun h110 hS111=>?_)
  simp only [z9,q3z,qf,jr,qmq,B0,reduceIte,reduceEqDiff]
  refine qgw hS111 (fun b112 h113 hS114=>?_)
  simp only [f98,zv,B0,reduceIte,reduceEqDiff]
  refine qu (v := .agg [v69,v73,v77]) ((zu (Sep.bk _ _ _ (Sep.m2 hS114))).trans rfl) ?_
  obtain ⟨v116,hx117,hF118⟩:=qh hF86
  simp only [qer,B0,reduceIte,reduceEqDiff]
  refine q4i rfl hS114 (qo (yq (qo (SlN.snap hv71 _ (Sep.m4 hS114) rfl Server.RO) (qo (SlF.snap hv75 (Sep.m5 hS114) rfl (fun _=>rfl) (fun _=>rfl)) (qo
    (SlF.snap hv79 (Sep.m6 hS114) rfl (fun _=>rfl) (fun _=>rfl)) zh)))) zh) (qhw (fun b hb=>decide_eq_true hb) s67 v116 hx117) ?_
  rintro _ h131 ⟨v119,c120,v123,c124,v127,c128,rfl,hv121,hv125,hv129,hS132⟩
  refine ⟨_,ql9 (qm (SlN.free1 hv121) (qm (SlF.free1 hv125) (qm (SlF.free1 hv129) zm))),hS132,
    (ku (SlN.pf hv121 Server.RO) (ku (SlF.pf hv125 (fun _=>rfl)) (ku (SlF.pf hv129 (fun _=>rfl)) qd0))),fun h133 hS134=>?_⟩
  have hS135:Sep h133 (geL h.length) (c120++(c124++(c128++([Blk1 b112 [.nil,.nil,.nil] 31]++([Blk1 b1 [.nil,.nil,.nil] 31]++([Blk1 b25 [v69,v73,
    v77] 31]++(c65++(c70++(c74++(c78++([]))))))))))):=by simpa only [List.append_assoc,List.nil_append] using hS134
  simp only [qb8,qgu,B0,reduceIte,reduceEqDiff]
  refine qu (v := .agg [.int .i64 x81.Term,.int .i64 x81.Leader]) rfl ?_
  obtain ⟨v136,hx137,hF138⟩:=qh hF118
  simp only [ut,B0,reduceIte,reduceEqDiff]
  refine qsq rfl (qkz hW k v116 v119 c120 hv121 v123 c124 hv125 v127 c128 hv129 x81 v136 hx137 (Sep.m2 (Sep.m2 (Sep.m2 hS135)))) ?_
  rintro _ h149 ⟨c139,v141,c142,v145,c146,rfl,hv140,hv143,hv147,hS150⟩
  simp only [zw,qk,quu,qbt,q4m,qbu,qcv,B0,reduceIte,reduceEqDiff]
  refine xe (us:=[v119,v141,v145]) rfl (cs':=[v119,v141,
    v145]) (Sep.m3 hS150) hW rfl (qm (SlN.one hv140) (qm (SlF.one hv143) (qm (SlF.one hv147) zm))) (nle rfl) rfl (fun h151 hS152=>?_)
  simp only [zw,qk,zd,B0,reduceIte,reduceEqDiff]
  refine jb hS152 hW (by simp only [B0,reduceIte,reduceEqDiff]) (fun h153 hS154=>?_)
  simp only [z9,q3p,qf,qd,qe,qa,q42,za,B0,reduceIte,reduceEqDiff]
  obtain ⟨s155,hX169,hk170⟩:=qh hF138
  refine uv (t:=v136.2) (fun fr' h'=>∃ v157 c158 v161 c162 v165 c166,
    fr' 4 = .ptr b1 0∧fr' 7 = .ptr b25 0∧fr' 9=v64∧fr' 13 = .bool v136.2∧fr' 27=lst ElectStep.cells l_1∧fr' 28 = .int .i64
    (List.length l_1:Int)∧fr' 29 = .int .i64
    (i80:Int)∧SlN Server.R 6 46 v157 s155.Servers c158∧SlF Letter.cells 7 93 v161 s155.Post c162∧SlF Vote.cells 2 39 v165 s155.Led c166∧Sep h' (geL h.length)
    ([Blk1 b1 [.nil,.nil,.nil] 31]++([Blk1 b25 [v157,v161,v165] 31]++(c65++(c158++(c162++(c166++([])))))))) (fun Q171 hN172 hR173 hE174=>⟨fun hc175=>?_,
    fun hc175=>?_⟩) ?_
  ·rw [iteT hc175] at hX169
   simp only [qd,ql,B0,reduceIte,reduceEqDiff]
   refine qg (v := .agg [v119,v141,v145]) rfl ?_
   simp only [f98,zg,B0,reduceIte,reduceEqDiff]
   refine qw (us:=[v119,v141,v145]) rfl (cs':=[v119,v141,
     v145]) (Sep.m4 hS154) hW rfl (qm (SlN.one hv140) (qm (SlF.one hv143) (qm (SlF.one hv147) zm))) (nle rfl) rfl (fun h176 hS177=>?_)
   simp only [qa,qj,B0,reduceIte,reduceEqDiff]
   have e178:=qi hX169
   subst e178
   exact hN172 _ _ ⟨v119,c139,v141,c142,v145,c146,f97,f98,f99,rfl,f100,f103,f102,hv140,hv143,hv147,
     (Sep.m5 (Sep.m4 (Sep.m5 (Sep.m3 (Sep.m3 (Sep.m3 (Sep.dc (Sep.m6 (Sep.dc (Sep.m6 (Sep.dc (Sep.m6 hS177))))))))))))⟩
  ·rw [iteF hc175] at hX169
   simp only [zc,qj,B0,reduceIte,reduceEqDiff]
   have e179:=qi hX169
   subst e179
   exact hN172 _ _ ⟨v69,c70,v73,c74,v77,c78,f97,f98,f99,rfl,f100,f103,f102,hv71,hv75,hv79,
     (Sep.m5 (Sep.m5 (Sep.m5 (Sep.m5 (Sep.m5 (Sep.m5 (Sep.dc ((Sep.dc ((Sep.dc (hS154))))))))))))⟩
  rintro fr180 h181 ⟨v157,c158,v161,c162,v165,c166,f183,f184,f185,f186,f187,f188,f189,hv159,hv163,hv167,hS182⟩
  unfold qbm at hk170
  simp only [q43,qd,f185,qe,f186,ju,evp,B0,reduceIte,reduceEqDiff]
  refine jk (n:=1) (f:=cB) [v136.2] hS182 rfl rfl (fun v190 c191 h192 hv193 hS194=>?_)
  simp only [wa,B0,reduceIte,reduceEqDiff]
  obtain ⟨l196,hx197,hF198⟩:=qh hk170
  refine yj (f:=cB) hv66 (Sep.m3 hS194) hW (fun _=>rfl) (fun _=>rfl) (SlF.first hv193 hS194 (fun _=>rfl)) hx197 (fun v199 c200 h201 hv202 hS203=>?_)
  simp only [qe,qa,qj,B0,reduceIte,reduceEqDiff]
  have e205:=qi hF198
  exact hN89 _ _ _ e205.symm ⟨v199,c200,v157,c158,v161,c162,v165,c166,f183,f184,rfl,f187,hv202,hv159,hv163,hv167,
    (Sep.m5 (Sep.m5 (Sep.m3 (Sep.m5 (Sep.m5 (Sep.m5 (Sep.dc (Sep.m1 hS203))))))))⟩ (f189) (f188)
 rintro ⟨s208,s213⟩ fr226 h227 rfl ⟨v210,c211,v215,c216,v219,c220,v223,c224,f229,f230,f231,f232,hv212,hv217,hv221,hv225,hS228⟩
 dsimp only [jnO] at hk85
 dsimp only at *
 unfold qbs at hk85
 simp only [q03,qf,qd,f230,ql,B0,reduceIte,reduceEqDiff]
 refine qg (v := .agg [v215,v219,v223]) ((zu (Sep.bk _ _ _ (Sep.m1 hS228))).trans rfl) ?_
 obtain ⟨v233,hx234,hF235⟩:=qh hk85
 simp only [qz,B0,reduceIte,reduceEqDiff]
 refine qfy rfl hS228 (qo (yq (qo (SlN.snap hv217 _ (Sep.m3 hS228) rfl Server.RO) (qo (SlF.snap hv221 (Sep.m4 hS228) rfl (fun _=>rfl) (fun _=>rfl)) (qo
   (SlF.snap hv225 (Sep.m5 hS228) rfl (fun _=>rfl) (fun _=>rfl)) zh)))) zh) (qhw (fun b hb=>decide_eq_true hb) s213 v233 hx234) ?_
 rintro _ h248 ⟨v236,c237,v240,c241,v244,c245,rfl,hv238,hv242,hv246,hS249⟩
 refine ⟨_,ql9 (qm (SlN.free1 hv238) (qm (SlF.free1 hv242) (qm (SlF.free1 hv246) zm))),hS249,
   (ku (SlN.pf hv238 Server.RO) (ku (SlF.pf hv242 (fun _=>rfl)) (ku (SlF.pf hv246 (fun _=>rfl)) qd0))),fun h250 hS251=>?_⟩
 have hS252:Sep h250 (geL h.length) (c237++(c241++(c245++([Blk1 b1 [.nil,.nil,.nil] 31]++([Blk1 b25 [v215,v219,
   v223] 31]++(c211++(c216++(c220++(c224++([])))))))))):=by simpa only [List.append_assoc,List.nil_append] using hS251
 simp only [f231,qe,f229,zg,B0,reduceIte,reduceEqDiff]
 refine qw (us:=[v236,v240,v244]) rfl (cs':=[v236,v240,
   v244]) (Sep.m3 hS252) hW rfl (qm (SlN.one hv238) (qm (SlF.one hv242) (qm (SlF.one hv246) zm))) (nle rfl) rfl (fun h253 hS254=>?_)
 simp only [qe,qa,q9,B0,reduceIte,reduceEqDiff]
 have he:=qi hF235
 subst he
 refine jz (qo (kf (bb:=b1) (oo:=0) (v := .agg [v236,v240,
   v244]) (f229) ((zu (Sep.bk _ _ _ hS254)).trans rfl)) (qo (yl (v:=v210) (rfl)) (qo (yl (v := .bool true) (rfl)) zh))) ?_
 exact ⟨v236,c237,v240,c241,v244,c245,v210,c211,by first | trivial | rfl,hv238,hv242,hv246,hv212,
   (Sep.m3 (Sep.m3 (Sep.m3 (Sep.m3 (Sep.dc (Sep.m4 (Sep.dc (Sep.m4 (Sep.dc (Sep.m4 (Sep.dc (Sep.m3 (Sep.dc (hS254))))))))))))))⟩
theorem qiz {W:Nat→Bool}{h:Heap} (hW:∀ b,
  (geL h.length) b→W b=true) (a_0:List Bool) (b_1:List Bool) (r:Bool) (hF:qa8 a_0 b_1=some r) : Ret E W 10 [lst cB a_0,
  lst cB b_1] h (fun v h'=>cut h.length h' E.sz false 9 v=some (.bool r)):=by
 refine Ret.of (fn:=x10) rfl (Run.of ?_)
 unfold qa8 at hF
 have zf0:zb [lst cB a_0,lst cB b_1] 0=lst cB a_0:=rfl
 have zf1:zb [lst cB a_0,lst cB b_1] 1=lst cB b_1:=rfl
 generalize zb [lst cB a_0,lst cB b_1]=fr0 at zf0 zf1 ⊢
 have hS:Sep h (geL h.length) []:=Sep.nil h
 simp only [x10,qf,qd,qe,qa,qy4,zf0,zn,qb,zt,zf1,qv,qc6,za,B0,reduceIte,reduceEqDiff]
 refine q8 (t:=(decide ((List.length a_0:Int)≠(List.length b_1:Int)))) (fun hc1=>?_) (fun hc1=>?_)
 ·rw [iteT hc1] at hF
  simp only [qf,qd,qe,qa,q9,B0,reduceIte,reduceEqDiff]
  have he:=qi hF
  subst he
  simp only [zl,B0,reduceIte,reduceEqDiff]
  exact rfl
 rw [iteF hc1] at hF
 simp only [zc,qxw,qf,qd,zf0,qe,zn,qb,zt,qa,B0,reduceIte,reduceEqDiff]
 obtain ⟨oc4,hX6,hk7⟩:=kd hF
 simp only [qwz]
 refine wj (σ:=Unit) a_0 (fun i2 x3 _=>qa6 b_1 i2 x3 ) (fun s fr' h'=>fr' 0=lst cB a_0∧fr' 1=lst cB b_1∧Sep h' (geL h.length) ([])) hX6 ⟨zf0,
   zf1,hS⟩ (by simp only [B0,reduceIte,reduceEqDiff]) (by simp only [B0,reduceIte,
   reduceEqDiff]) (fun _ _ _ h=>h) rfl rfl (fun _ _ _ _ h=>h) (fun _ _ _ _ h=>h) (fun _ _ _ _ h=>h) (by decide) ?_ ?_
 ·rintro i2 x3 _ fr16 h17 hx21 ⟨f19,f20,hS18⟩ f22 f23 oc5 hF8 hr9 Q10 hN11 hB15 hK12 hR13 hE14
  unfold qa6 at hF8
  simp only [q11,qf,qd,f22,qe,qa,qyr,jr,f19,zw,qk,qdg,B0,reduceIte,reduceEqDiff]
  refine qu (v := .ref (cB x3) 0) (wi hx21 rfl) ?_
  simp only [zv,B0,reduceIte,reduceEqDiff]
  refine qu (v := .bool x3) rfl ?_
  obtain ⟨x24,hx25,hF26⟩:=qh hF8
  simp only [f20,zw,qk,qdg,B0,reduceIte,reduceEqDiff]
  refine qu (v := .ref (cB x24) 0) (yg hx25 rfl) ?_
  simp only [zv,B0,reduceIte,reduceEqDiff]
  refine qu (v := .bool x24) rfl ?_
  simp only [q33,qk,qi1,zd,za,B0,reduceIte,reduceEqDiff]
  refine q8 (t:=(!(x3 == x24))) (fun hc27=>?_) (fun hc27=>?_)
  ·rw [iteT hc27] at hF26
   simp only [qf,qd,qe,qa,q9,B0,reduceIte,reduceEqDiff]
   have e28:=qi hF26
   subst e28
   have ho29:=hr9 _ rfl
   have hk30:=hk7
   rw [ho29] at hk30
   dsimp only [jnO] at hk30
   apply hR13
   have he:=qi hk30
   subst he
   simp only [zl,B0,reduceIte,reduceEqDiff]
   exact rfl
  rw [iteF hc27] at hF26
  simp only [zc,qj,B0,reduceIte,reduceEqDiff]
  have e31:=qi hF26
  exact hN11 _ _ _ e31.symm ⟨f19,f20,hS18⟩ (f22) (f23)
 rintro _ fr33 h34 rfl ⟨f36,f37,hS35⟩
 dsimp only [jnO] at hk7
 unfold qfa at hk7
 simp only [qf,qd,qe,qa,q9,B0,reduceIte,reduceEqDiff]
 have he:=qi hk7
 subst he
 simp only [zl,B0,reduceIte,reduceEqDiff]
 exact rfl
end Go.Proofs.Ytpddolihbnfahaa.X
namespace Go.Proofs.Ytpddolihbnfahaa.X
open Go
open Nat (reduceEqDiff)
theorem qf1 {W:Nat→Bool}{h:Heap} (hW:∀ b,
  (geL h.length) b→W b=true) (a_0:List Int) (b_1:List Int) (r:Bool) (hF:qah a_0 b_1=some r) : Ret E W 19 [lst cI a_0,
  lst cI b_1] h (fun v h'=>cut h.length h' E.sz false 9 v=some (.bool r)):=by
 refine Ret.of (fn:=x19) rfl (Run.of ?_)
 unfold qah at hF
 have zf0:zb [lst cI a_0,lst cI b_1] 0=lst cI a_0:=rfl
 have zf1:zb [lst cI a_0,lst cI b_1] 1=lst cI b_1:=rfl
 generalize zb [lst cI a_0,lst cI b_1]=fr0 at zf0 zf1 ⊢
 have hS:Sep h (geL h.length) []:=Sep.nil h
 simp only [x19,qf,qd,qe,qa,qxp,zf0,zn,qb,zt,zf1,qv,qc6,za,B0,reduceIte,reduceEqDiff]
 refine q8 (t:=(decide ((List.length a_0:Int)≠(List.length b_1:Int)))) (fun hc1=>?_) (fun hc1=>?_)
 ·rw [iteT hc1] at hF
  simp only [qf,qd,qe,qa,q9,B0,reduceIte,reduceEqDiff]
  have he:=qi hF
  subst he
  simp only [zl,B0,reduceIte,reduceEqDiff]
  exact rfl
 rw [iteF hc1] at hF
 simp only [zc,q0j,qf,qd,zf0,qe,zn,qb,zt,qa,B0,reduceIte,reduceEqDiff]
 obtain ⟨oc4,hX6,hk7⟩:=kd hF
 simp only [qxn]
 refine wj (σ:=Unit) a_0 (fun i2 x3 _=>qbk b_1 i2 x3 ) (fun s fr' h'=>fr' 0=lst cI a_0∧fr' 1=lst cI b_1∧Sep h' (geL h.length) ([])) hX6 ⟨zf0,
   zf1,hS⟩ (by simp only [B0,reduceIte,reduceEqDiff]) (by simp only [B0,reduceIte,
   reduceEqDiff]) (fun _ _ _ h=>h) rfl rfl (fun _ _ _ _ h=>h) (fun _ _ _ _ h=>h) (fun _ _ _ _ h=>h) (by decide) ?_ ?_
 ·rintro i2 x3 _ fr16 h17 hx21 ⟨f19,f20,hS18⟩ f22 f23 oc5 hF8 hr9 Q10 hN11 hB15 hK12 hR13 hE14
  unfold qbk at hF8
  simp only [qzx,qf,qd,f22,qe,qa,qw5,jr,f19,zw,qk,qdg,B0,reduceIte,reduceEqDiff]
  refine qu (v := .ref (cI x3) 0) (wi hx21 rfl) ?_
  simp only [zv,B0,reduceIte,reduceEqDiff]
  refine qu (v := .int .i64 x3) rfl ?_
  obtain ⟨x24,hx25,hF26⟩:=qh hF8
  simp only [f20,zw,qk,qdg,B0,reduceIte,reduceEqDiff]
  refine qu (v := .ref (cI x24) 0) (yg hx25 rfl) ?_
  simp only [zv,B0,reduceIte,reduceEqDiff]
  refine qu (v := .int .i64 x24) rfl ?_
  simp only [xw,qk,qc6,zd,za,B0,reduceIte,reduceEqDiff]
  refine q8 (t:=(decide (x3≠x24))) (fun hc27=>?_) (fun hc27=>?_)
  ·rw [iteT hc27] at hF26
   simp only [qf,qd,qe,qa,q9,B0,reduceIte,reduceEqDiff]
   have e28:=qi hF26
   subst e28
   have ho29:=hr9 _ rfl
   have hk30:=hk7
   rw [ho29] at hk30
   dsimp only [jnO] at hk30
   apply hR13
   have he:=qi hk30
   subst he
   simp only [zl,B0,reduceIte,reduceEqDiff]
   exact rfl
  rw [iteF hc27] at hF26
  simp only [zc,qj,B0,reduceIte,reduceEqDiff]
  have e31:=qi hF26
  exact hN11 _ _ _ e31.symm ⟨f19,f20,hS18⟩ (f22) (f23)
 rintro _ fr33 h34 rfl ⟨f36,f37,hS35⟩
 dsimp only [jnO] at hk7
 unfold qfo at hk7
 simp only [qf,qd,qe,qa,q9,B0,reduceIte,reduceEqDiff]
 have he:=qi hk7
 subst he
 simp only [zl,B0,reduceIte,reduceEqDiff]
 exact rfl
theorem qg2 {W:Nat→Bool}{h:Heap} (hW:∀ b,
  (geL h.length) b→W b=true) (v_0:Election) (v_1:Election) (r:Bool) (hF:xx v_0 v_1=some r) : Ret E W 11 [.agg [lst Server.cells v_0.Servers,
  lst Letter.cells v_0.Post,lst Vote.cells v_0.Led],.agg [lst Server.cells v_1.Servers,lst Letter.cells v_1.Post,
  lst Vote.cells v_1.Led]] h (fun v h'=>cut h.length h' E.sz false 9 v=some (.bool r)):=by
 refine Ret.of (fn:=x11) rfl (Run.of ?_)
 unfold xx at hF
 have zf0:zb [.agg [lst Server.cells v_0.Servers,lst Letter.cells v_0.Post,lst Vote.cells v_0.Led],.agg [lst Server.cells v_1.Servers,lst Letter.cells v_1.Post,
   lst Vote.cells v_1.Led]] 0 = .agg [lst Server.cells v_0.Servers,lst Letter.cells v_0.Post,lst Vote.cells v_0.Led]:=rfl
 have zf1:zb [.agg [lst Server.cells v_0.Servers,lst Letter.cells v_0.Post,lst Vote.cells v_0.Led],.agg [lst Server.cells v_1.Servers,lst Letter.cells v_1.Post,
   lst Vote.cells v_1.Led]] 1 = .agg [lst Server.cells v_1.Servers,lst Letter.cells v_1.Post,lst Vote.cells v_1.Led]:=rfl
 generalize zb [.agg [lst Server.cells v_0.Servers,lst Letter.cells v_0.Post,lst Vote.cells v_0.Led],.agg [lst Server.cells v_1.Servers,lst Letter.cells v_1.Post,
   lst Vote.cells v_1.Led]]=fr0 at zf0 zf1 ⊢
 have hS:Sep h (geL h.length) []:=Sep.nil h
 simp only [x11,qf,qd,yb,zf0,B0,reduceIte,reduceEqDiff]
 refine kg (cs:=[lst Server.cells v_0.Servers,lst Letter.cells v_0.Post,lst Vote.cells v_0.Led]) hS rfl rfl rfl (fun b1 h2 hS3=>?_)
 simp only [yb,zf1,B0,reduceIte,reduceEqDiff]
 refine kg (cs:=[lst Server.cells v_1.Servers,lst Letter.cells v_1.Post,lst Vote.cells v_1.Led]) hS3 rfl rfl rfl (fun b5 h6 hS7=>?_)
 simp only [qe,qa,B0,reduceIte,reduceEqDiff]
 refine jb (Sep.m1 hS7) hW (by simp only [B0,reduceIte,reduceEqDiff]) (fun h9 hS10=>?_)
 refine jb hS10 hW (by simp only [B0,reduceIte,reduceEqDiff]) (fun h11 hS12=>?_)
 simp only [z9,qsu,qf,qd,qp,qb,Nat.reduceAdd,Nat.zero_add,Nat.add_zero,qr,ql,B0,reduceIte,reduceEqDiff]
 refine qg (v:=lst Server.cells v_0.Servers) rfl ?_
 simp only [zn,qb,zt,qp,Nat.reduceAdd,Nat.zero_add,Nat.add_zero,qr,ql,B0,reduceIte,reduceEqDiff]
 refine qg (v:=lst Server.cells v_1.Servers) rfl ?_
 simp only [zn,qb,zt,qv,qc6,qe,B0,reduceIte,reduceEqDiff]
 refine ja 8 (fun fr' h'=>Sep h' (geL h.length) ([])∧fr' 25 = .bool ((decide ((List.length v_0.Servers:Int)≠(List.length v_1.Servers:Int)))||(decide
   ((List.length v_0.Post:Int)≠(List.length v_1.Post:Int))))∧fr' 2 = .ref [lst Server.cells v_0.Servers,lst Letter.cells v_0.Post,
   lst Vote.cells v_0.Led] 0∧fr' 3 = .ref [lst Server.cells v_1.Servers,lst Letter.cells v_1.Post,lst Vote.cells v_1.Led] 0) (fun Q13 hN14=>?_) ?_
 ·simp only [List.take_succ_cons,List.take_zero]
  simp only [qc (g:=17),B0,reduceIte,reduceEqDiff]
  refine qy (t:=(decide ((List.length v_0.Servers:Int)≠(List.length v_1.Servers:Int)))) (fun hg15=>?_) (fun hg15=>?_)
  ·simp only [hg15,qc (g:=17),zq,qq,qb,zj,qa,qj,B0,reduceIte,reduceEqDiff]
   exact hN14 _ _ ⟨hS12,by rw [orT hg15]; simp only [B0,reduceIte,reduceEqDiff],rfl,rfl⟩
  ·simp only [hg15,qc (g:=17),qn,qp,qb,Nat.reduceAdd,Nat.zero_add,Nat.add_zero,qr,ql,B0,reduceIte,reduceEqDiff]
   refine qg (v:=lst Letter.cells v_0.Post) rfl ?_
   simp only [hg15,qc (g:=17),qn,zn,qb,zt,qp,Nat.reduceAdd,Nat.zero_add,Nat.add_zero,qr,ql,B0,reduceIte,
     reduceEqDiff]
   refine qg (v:=lst Letter.cells v_1.Post) rfl ?_
   simp only [hg15,qc (g:=17),qn,zn,qb,zt,qv,qc6,qq,zi,qa,qj,B0,reduceIte,reduceEqDiff]
   exact hN14 _ _ ⟨hS12,by rw [orF hg15]; simp only [B0,reduceIte,reduceEqDiff],rfl,rfl⟩
 rintro fr16 h20 ⟨hS21,f17,f18,f19⟩
 simp only [List.drop_succ_cons,List.drop_zero]
 simp only [f17,qe,B0,reduceIte,reduceEqDiff]
 refine ja 8 (fun fr' h'=>Sep h' (geL h.length) ([])∧fr' 34 = .bool (((decide ((List.length v_0.Servers:Int)≠(List.length v_1.Servers:Int)))||(decide
   ((List.length v_0.Post:Int)≠(List.length v_1.Post:Int))))||(decide ((List.length v_0.Led:Int) ≠
   (List.length v_1.Led:Int))))∧fr' 2 = .ref [lst Server.cells v_0.Servers,lst Letter.cells v_0.Post,
   lst Vote.cells v_0.Led] 0∧fr' 3 = .ref [lst Server.cells v_1.Servers,lst Letter.cells v_1.Post,lst Vote.cells v_1.Led] 0) (fun Q22 hN23=>?_) ?_
 ·simp only [List.take_succ_cons,List.take_zero]
  simp only [qc (g:=26),B0,reduceIte,reduceEqDiff]
  refine qy (t:=((decide ((List.length v_0.Servers:Int)≠(List.length v_1.Servers:Int)))||(decide ((List.length v_0.Post:Int) ≠
    (List.length v_1.Post:Int))))) (fun hg24=>?_) (fun hg24=>?_)
  ·simp only [hg24,qc (g:=26),zq,qq,qb,zj,qa,qj,B0,reduceIte,reduceEqDiff]
   exact hN23 _ _ ⟨hS21,by rw [orT hg24]; simp only [B0,reduceIte,reduceEqDiff],f18,f19⟩
  ·simp only [hg24,qc (g:=26),qn,f18,qp,qb,Nat.reduceAdd,Nat.zero_add,Nat.add_zero,qr,ql,B0,reduceIte,reduceEqDiff]
   refine qg (v:=lst Vote.cells v_0.Led) rfl ?_
   simp only [hg24,qc (g:=26),qn,zn,qb,zt,f19,qp,Nat.reduceAdd,Nat.zero_add,Nat.add_zero,qr,ql,B0,reduceIte,
     reduceEqDiff]
   refine qg (v:=lst Vote.cells v_1.Led) rfl ?_
   simp only [hg24,qc (g:=26),qn,zn,qb,zt,qv,qc6,qq,zi,qa,qj,B0,reduceIte,reduceEqDiff]
   exact hN23 _ _ ⟨hS21,by rw [orF hg24]; simp only [B0,reduceIte,reduceEqDiff],f18,f19⟩
 rintro fr25 h29 ⟨hS30,f26,f27,f28⟩
 simp only [List.drop_succ_cons,List.drop_zero]
 simp only [qa,f26,za,B0,reduceIte,reduceEqDiff]
 refine q8 (t:=(((decide ((List.length v_0.Servers:Int)≠(List.length v_1.Servers:Int)))||(decide ((List.length v_0.Post:Int) ≠
   (List.length v_1.Post:Int))))||(decide ((List.length v_0.Led:Int)≠(List.length v_1.Led:Int))))) (fun hc31=>?_) (fun hc31=>?_)
 ·rw [iteT hc31] at hF
  simp only [qf,qd,qe,qa,q9,B0,reduceIte,reduceEqDiff]
  have he:=qi hF
  subst he
  simp only [zl,B0,reduceIte,reduceEqDiff]
  exact rfl
 rw [iteF hc31] at hF
 simp only [zc,qrl,qf,qd,f27,qp,qb,Nat.reduceAdd,Nat.zero_add,Nat.add_zero,qr,ql,B0,reduceIte,reduceEqDiff]
 refine qg (v:=lst Server.cells v_0.Servers) rfl ?_
 simp only [zn,qb,zt,qe,qa,B0,reduceIte,reduceEqDiff]
 obtain ⟨oc34,hX36,hk37⟩:=kd hF
 simp only [q07]
 refine qcd (σ:=Unit) (fun i32 _=>ww v_0 v_1 i32 ) (fun s fr' h'=>fr' 2 = .ref [lst Server.cells v_0.Servers,lst Letter.cells v_0.Post,
   lst Vote.cells v_0.Led] 0∧fr' 3 = .ref [lst Server.cells v_1.Servers,lst Letter.cells v_1.Post,lst Vote.cells v_1.Led] 0∧Sep h' (geL h.length) ([])) hX36 ⟨f27,f28,
   hS30⟩ (by simp only [B0,reduceIte,reduceEqDiff]) (by simp only [B0,reduceIte,
   reduceEqDiff]) (fun _ _ _ h=>h) rfl rfl (fun _ _ _ _ h=>h) (fun _ _ _ _ h=>h) (fun _ _ _ _ h=>h) (by decide) ?_ ?_
 ·rintro i32 _ fr46 h47 hx51 ⟨f49,f50,hS48⟩ f52 f53 oc35 hF38 hr39 Q40 hN41 hB45 hK42 hR43 hE44
  unfold ww at hF38
  simp only [qx8,qf,qd,f52,qe,qa,qz6,f49,qp,qb,Nat.reduceAdd,Nat.zero_add,Nat.add_zero,qr,ql,B0,reduceIte,
    reduceEqDiff]
  refine qg (v:=lst Server.cells v_0.Servers) rfl ?_
  obtain ⟨x54,hx55,hF56⟩:=qh hF38
  simp only [qe,jg,B0,reduceIte,reduceEqDiff]
  refine qg (v := .ref (Server.cells x54) 0) (yg hx55 rfl) ?_
  simp only [ql,B0,reduceIte,reduceEqDiff]
  refine qg (v := .agg [.int .i64 x54.Term,.int .i64 x54.Voted,.bool x54.Stands,.bool x54.Leads,lst cI x54.Got,lst cI x54.Log]) rfl ?_
  simp only [jj,B0,reduceIte,reduceEqDiff]
  refine z8 hS48 (fun b57 h58 hS59=>?_)
  simp only [zg,B0,reduceIte,reduceEqDiff]
  refine qw (us:=[.int .i64 x54.Term,.int .i64 x54.Voted,.bool x54.Stands,.bool x54.Leads,lst cI x54.Got,lst cI x54.Log]) rfl (cs':=[.int .i64 x54.Term,
    .int .i64 x54.Voted,.bool x54.Stands,.bool x54.Leads,lst cI x54.Got,lst cI x54.Log]) hS59 hW rfl rfl (nle rfl) rfl (fun h61 hS62=>?_)
  simp only [qa,B0,reduceIte,reduceEqDiff]
  refine jb hS62 hW (by simp only [B0,reduceIte,reduceEqDiff]) (fun h63 hS64=>?_)
  simp only [z9,q1e,qf,qd,f50,qp,qb,Nat.reduceAdd,Nat.zero_add,Nat.add_zero,qr,ql,B0,reduceIte,reduceEqDiff]
  refine qg (v:=lst Server.cells v_1.Servers) rfl ?_
  obtain ⟨x65,hx66,hF67⟩:=qh hF56
  simp only [qe,jg,B0,reduceIte,reduceEqDiff]
  refine qg (v := .ref (Server.cells x65) 0) (yg hx66 rfl) ?_
  simp only [ql,B0,reduceIte,reduceEqDiff]
  refine qg (v := .agg [.int .i64 x65.Term,.int .i64 x65.Voted,.bool x65.Stands,.bool x65.Leads,lst cI x65.Got,lst cI x65.Log]) rfl ?_
  simp only [jj,B0,reduceIte,reduceEqDiff]
  refine z8 hS64 (fun b68 h69 hS70=>?_)
  simp only [zg,B0,reduceIte,reduceEqDiff]
  refine qw (us:=[.int .i64 x65.Term,.int .i64 x65.Voted,.bool x65.Stands,.bool x65.Leads,lst cI x65.Got,lst cI x65.Log]) rfl (cs':=[.int .i64 x65.Term,
    .int .i64 x65.Voted,.bool x65.Stands,.bool x65.Leads,lst cI x65.Got,lst cI x65.Log]) hS70 hW rfl rfl (nle rfl) rfl (fun h72 hS73=>?_)
  simp only [qa,B0,reduceIte,reduceEqDiff]
  refine jb hS73 hW (by simp only [B0,reduceIte,reduceEqDiff]) (fun h74 hS75=>?_)
  simp only [z9,qy5,qf,qd,qp,qb,Nat.reduceAdd,Nat.zero_add,Nat.add_zero,qr,ql,B0,reduceIte,reduceEqDiff]
  refine qg (v := .int .i64 x54.Term) rfl ?_
  simp only [qp,qb,Nat.reduceAdd,Nat.zero_add,Nat.add_zero,qr,ql,B0,reduceIte,reduceEqDiff]
  refine qg (v := .int .i64 x65.Term) rfl ?_
  simp only [qv,qb,qc6,qe,B0,reduceIte,reduceEqDiff]
  refine ja 6 (fun fr' h'=>Sep h' (geL h.length) ([])∧fr' 62 = .bool ((decide (x54.Term≠x65.Term))||(decide
    (x54.Voted≠x65.Voted)))∧fr' 2 = .ref [lst Server.cells v_0.Servers,lst Letter.cells v_0.Post,lst Vote.cells v_0.Led] 0∧fr' 3 = .ref [lst Server.cells v_1.Servers,
    lst Letter.cells v_1.Post,lst Vote.cells v_1.Led] 0∧fr' 6 = .ref [.int .i64 x54.Term,.int .i64 x54.Voted,.bool x54.Stands,.bool x54.Leads,lst cI x54.Got,
    lst cI x54.Log] 0∧fr' 7 = .ref [.int .i64 x65.Term,.int .i64 x65.Voted,.bool x65.Stands,.bool x65.Leads,lst cI x65.Got,
    lst cI x65.Log] 0∧fr' 37 = .int .i64 (List.length v_0.Servers:Int)∧fr' 38 = .int .i64 (i32:Int)) (fun Q76 hN77=>?_) ?_
  ·simp only [List.take_succ_cons,List.take_zero]
   simp only [qc (g:=56),B0,reduceIte,reduceEqDiff]
   refine qy (t:=(decide (x54.Term≠x65.Term))) (fun hg78=>?_) (fun hg78=>?_)
   ·simp only [hg78,qc (g:=56),zq,qq,qb,zj,qa,qj,B0,reduceIte,reduceEqDiff]
    exact hN77 _ _ ⟨hS75,by rw [orT hg78]; simp only [B0,reduceIte,reduceEqDiff],f49,f50,rfl,rfl,f53,f52⟩
   ·simp only [hg78,qc (g:=56),qn,qp,qb,Nat.reduceAdd,Nat.zero_add,Nat.add_zero,qr,ql,B0,reduceIte,reduceEqDiff]
    refine qg (v := .int .i64 x54.Voted) rfl ?_
    simp only [hg78,qc (g:=56),qn,qp,qb,Nat.reduceAdd,Nat.zero_add,Nat.add_zero,qr,ql,B0,reduceIte,reduceEqDiff]
    refine qg (v := .int .i64 x65.Voted) rfl ?_
    simp only [hg78,qc (g:=56),qn,qv,qb,qc6,qq,zi,qa,qj,B0,reduceIte,reduceEqDiff]
    exact hN77 _ _ ⟨hS75,by rw [orF hg78]; simp only [B0,reduceIte,reduceEqDiff],f49,f50,rfl,rfl,f53,f52⟩
  rintro fr79 h87 ⟨hS88,f80,f81,f82,f83,f84,f85,f86⟩
  simp only [List.drop_succ_cons,List.drop_zero]
  simp only [f80,qe,B0,reduceIte,reduceEqDiff]
  refine ja 6 (fun fr' h'=>Sep h' (geL h.length) ([])∧fr' 69 = .bool (((decide (x54.Term≠x65.Term))||(decide (x54.Voted≠x65.Voted))) ||
    (!(x54.Stands == x65.Stands)))∧fr' 2 = .ref [lst Server.cells v_0.Servers,lst Letter.cells v_0.Post,
    lst Vote.cells v_0.Led] 0∧fr' 3 = .ref [lst Server.cells v_1.Servers,lst Letter.cells v_1.Post,lst Vote.cells v_1.Led] 0∧fr' 6 = .ref [.int .i64 x54.Term,
    .int .i64 x54.Voted,.bool x54.Stands,.bool x54.Leads,lst cI x54.Got,lst cI x54.Log] 0∧fr' 7 = .ref [.int .i64 x65.Term,.int .i64 x65.Voted,.bool x65.Stands,
    .bool x65.Leads,lst cI x65.Got,lst cI x65.Log] 0∧fr' 37 = .int .i64 (List.length v_0.Servers:Int)∧fr' 38 = .int .i64 (i32:Int)) (fun Q89 hN90=>?_) ?_
  ·simp only [List.take_succ_cons,List.take_zero]
   simp only [qc (g:=63),B0,reduceIte,reduceEqDiff]
   refine qy (t:=((decide (x54.Term≠x65.Term))||(decide (x54.Voted≠x65.Voted)))) (fun hg91=>?_) (fun hg91=>?_)
   ·simp only [hg91,qc (g:=63),zq,qq,qb,zj,qa,qj,B0,reduceIte,reduceEqDiff]
    exact hN90 _ _ ⟨hS88,by rw [orT hg91]; simp only [B0,reduceIte,reduceEqDiff],f81,f82,f83,f84,f85,f86⟩
   ·simp only [hg91,qc (g:=63),qn,f83,qp,qb,Nat.reduceAdd,Nat.zero_add,Nat.add_zero,qr,ql,B0,reduceIte,reduceEqDiff]
    refine qg (v := .bool x54.Stands) rfl ?_
    simp only [hg91,qc (g:=63),qn,f84,qp,qb,Nat.reduceAdd,Nat.zero_add,Nat.add_zero,qr,ql,B0,reduceIte,reduceEqDiff]
    refine qg (v := .bool x65.Stands) rfl ?_
    simp only [hg91,qc (g:=63),qn,qju,qb,qi1,qq,zi,qa,qj,B0,reduceIte,reduceEqDiff]
    exact hN90 _ _ ⟨hS88,by rw [orF hg91]; simp only [B0,reduceIte,reduceEqDiff],f81,f82,f83,f84,f85,f86⟩
  rintro fr92 h100 ⟨hS101,f93,f94,f95,f96,f97,f98,f99⟩
  simp only [List.drop_succ_cons,List.drop_zero]
  simp only [f93,qe,B0,reduceIte,reduceEqDiff]
  refine ja 6 (fun fr' h'=>Sep h' (geL h.length) ([])∧fr' 76 = .bool ((((decide (x54.Term≠x65.Term))||(decide (x54.Voted≠x65.Voted))) ||
    (!(x54.Stands == x65.Stands)))||(!(x54.Leads == x65.Leads)))∧fr' 2 = .ref [lst Server.cells v_0.Servers,lst Letter.cells v_0.Post,
    lst Vote.cells v_0.Led] 0∧fr' 3 = .ref [lst Server.cells v_1.Servers,lst Letter.cells v_1.Post,lst Vote.cells v_1.Led] 0∧fr' 6 = .ref [.int .i64 x54.Term,
    .int .i64 x54.Voted,.bool x54.Stands,.bool x54.Leads,lst cI x54.Got,lst cI x54.Log] 0∧fr' 7 = .ref [.int .i64 x65.Term,.int .i64 x65.Voted,.bool x65.Stands,
    .bool x65.Leads,lst cI x65.Got,lst cI x65.Log] 0∧fr' 37 = .int .i64 (List.length v_0.Servers:Int)∧fr' 38 = .int .i64 (i32:Int)) (fun Q102 hN103=>?_) ?_
  ·simp only [List.take_succ_cons,List.take_zero]
   simp only [qc (g:=70),B0,reduceIte,reduceEqDiff]
   refine qy (t:=(((decide (x54.Term≠x65.Term))||(decide (x54.Voted≠x65.Voted)))||(!(x54.Stands == x65.Stands)))) (fun hg104=>?_) (fun hg104=>?_)
   ·simp only [hg104,qc (g:=70),zq,qq,qb,zj,qa,qj,B0,reduceIte,reduceEqDiff]
    exact hN103 _ _ ⟨hS101,by rw [orT hg104]; simp only [B0,reduceIte,reduceEqDiff],f94,f95,f96,f97,f98,f99⟩
   ·simp only [hg104,qc (g:=70),qn,f96,qp,qb,Nat.reduceAdd,Nat.zero_add,Nat.add_zero,qr,ql,B0,reduceIte,reduceEqDiff]
    refine qg (v := .bool x54.Leads) rfl ?_
    simp only [hg104,qc (g:=70),qn,f97,qp,qb,Nat.reduceAdd,Nat.zero_add,Nat.add_zero,qr,ql,B0,reduceIte,reduceEqDiff]
    refine qg (v := .bool x65.Leads) rfl ?_
    simp only [hg104,qc (g:=70),qn,qju,qb,qi1,qq,zi,qa,qj,B0,reduceIte,reduceEqDiff]
    exact hN103 _ _ ⟨hS101,by rw [orF hg104]; simp only [B0,reduceIte,reduceEqDiff],f94,f95,f96,f97,f98,f99⟩
  rintro fr105 h113 ⟨hS114,f106,f107,f108,f109,f110,f111,f112⟩
  simp only [List.drop_succ_cons,List.drop_zero]
  simp only [f106,qe,B0,reduceIte,reduceEqDiff]
  obtain ⟨v118,hx119,hF120⟩:=qh hF67
  refine ja 7 (fun fr' h'=>Sep h' (geL h.length) ([])∧fr' 84 = .bool v118∧fr' 2 = .ref [lst Server.cells v_0.Servers,lst Letter.cells v_0.Post,
    lst Vote.cells v_0.Led] 0∧fr' 3 = .ref [lst Server.cells v_1.Servers,lst Letter.cells v_1.Post,lst Vote.cells v_1.Led] 0∧fr' 6 = .ref [.int .i64 x54.Term,
    .int .i64 x54.Voted,.bool x54.Stands,.bool x54.Leads,lst cI x54.Got,lst cI x54.Log] 0∧fr' 7 = .ref [.int .i64 x65.Term,.int .i64 x65.Voted,.bool x65.Stands,
    .bool x65.Leads,lst cI x65.Got,lst cI x65.Log] 0∧fr' 37 = .int .i64 (List.length v_0.Servers:Int)∧fr' 38 = .int .i64 (i32:Int)) (fun Q115 hN116=>?_) ?_
  ·simp only [List.take_succ_cons,List.take_zero]
   simp only [qc (g:=77),B0,reduceIte,reduceEqDiff]
   refine qy (t:=((((decide (x54.Term≠x65.Term))||(decide (x54.Voted≠x65.Voted)))||(!(x54.Stands == x65.Stands)))||(!(x54.Leads == x65.Leads))))
     (fun hg117=>?_) (fun hg117=>?_)
   ·rw [iteT hg117] at hx119
    simp only [hg117,qc (g:=77),zq,qq,qb,zj,qa,qj,B0,reduceIte,reduceEqDiff]
    have e121:=qi hx119
    exact hN116 _ _ ⟨hS114,by rw [←e121]; simp only [B0,reduceIte,reduceEqDiff],f107,f108,f109,f110,f111,f112⟩
   ·rw [iteF hg117] at hx119
    simp only [hg117,qc (g:=77),qn,f109,qp,qb,Nat.reduceAdd,Nat.zero_add,Nat.add_zero,qr,ql,B0,reduceIte,reduceEqDiff]
    refine qg (v:=lst cI x54.Got) rfl ?_
    simp only [hg117,qc (g:=77),qn,f110,qp,qb,Nat.reduceAdd,Nat.zero_add,Nat.add_zero,qr,ql,B0,reduceIte,reduceEqDiff]
    refine qg (v:=lst cI x65.Got) rfl ?_
    obtain ⟨v122,hx123,hF124⟩:=qh hx119
    simp only [hg117,qc (g:=77),qn,qz,B0,reduceIte,reduceEqDiff]
    refine jp rfl (qo ji (qo ji zh)) (qf1 (fun b hb=>decide_eq_true hb) x54.Got x65.Got v122 hx123) ?_
    simp only [hg117,qc (g:=77),qn,js,qb,ki,qq,zi,qa,qj,B0,reduceIte,reduceEqDiff]
    have e125:=qi hF124
    exact hN116 _ _ ⟨hS114,by rw [←e125]; simp only [B0,reduceIte,reduceEqDiff],f107,f108,f109,f110,f111,f112⟩
  rintro fr126 h134 ⟨hS135,f127,f128,f129,f130,f131,f132,f133⟩
  simp only [List.drop_succ_cons,List.drop_zero]
  simp only [f127,qe,B0,reduceIte,reduceEqDiff]
  obtain ⟨v139,hx140,hF141⟩:=qh hF120
  refine ja 7 (fun fr' h'=>Sep h' (geL h.length) ([])∧fr' 92 = .bool v139∧fr' 2 = .ref [lst Server.cells v_0.Servers,lst Letter.cells v_0.Post,
    lst Vote.cells v_0.Led] 0∧fr' 3 = .ref [lst Server.cells v_1.Servers,lst Letter.cells v_1.Post,
    lst Vote.cells v_1.Led] 0∧fr' 37 = .int .i64 (List.length v_0.Servers:Int)∧fr' 38 = .int .i64 (i32:Int)) (fun Q136 hN137=>?_) ?_
  ·simp only [List.take_succ_cons,List.take_zero]
   simp only [qc (g:=85),B0,reduceIte,reduceEqDiff]
   refine qy (t:=v118) (fun hg138=>?_) (fun hg138=>?_)
   ·rw [iteT hg138] at hx140
    simp only [hg138,qc (g:=85),zq,qq,qb,zj,qa,qj,B0,reduceIte,reduceEqDiff]
    have e142:=qi hx140
    exact hN137 _ _ ⟨hS135,by rw [←e142]; simp only [B0,reduceIte,reduceEqDiff],f128,f129,f132,f133⟩
   ·rw [iteF hg138] at hx140
    simp only [hg138,qc (g:=85),qn,f130,qp,qb,Nat.reduceAdd,Nat.zero_add,Nat.add_zero,qr,ql,B0,reduceIte,reduceEqDiff]
    refine qg (v:=lst cI x54.Log) rfl ?_
    simp only [hg138,qc (g:=85),qn,f131,qp,qb,Nat.reduceAdd,Nat.zero_add,Nat.add_zero,qr,ql,B0,reduceIte,reduceEqDiff]
    refine qg (v:=lst cI x65.Log) rfl ?_
    obtain ⟨v143,hx144,hF145⟩:=qh hx140
    simp only [hg138,qc (g:=85),qn,qz,B0,reduceIte,reduceEqDiff]
    refine jp rfl (qo ji (qo ji zh)) (qf1 (fun b hb=>decide_eq_true hb) x54.Log x65.Log v143 hx144) ?_
    simp only [hg138,qc (g:=85),qn,js,qb,ki,qq,zi,qa,qj,B0,reduceIte,reduceEqDiff]
    have e146:=qi hF145
    exact hN137 _ _ ⟨hS135,by rw [←e146]; simp only [B0,reduceIte,reduceEqDiff],f128,f129,f132,f133⟩
  rintro fr147 h153 ⟨hS154,f148,f149,f150,f151,f152⟩
  simp only [List.drop_succ_cons,List.drop_zero]
  simp only [qa,f148,za,B0,reduceIte,reduceEqDiff]
  refine q8 (t:=v139) (fun hc155=>?_) (fun hc155=>?_)
  ·rw [iteT hc155] at hF141
   simp only [qf,qd,qe,qa,q9,B0,reduceIte,reduceEqDiff]
   have e156:=qi hF141
   subst e156
   have ho157:=hr39 _ rfl
   have hk158:=hk37
   rw [ho157] at hk158
   dsimp only [jnO] at hk158
   apply hR43
   have he:=qi hk158
   subst he
   simp only [zl,B0,reduceIte,reduceEqDiff]
   exact rfl
  rw [iteF hc155] at hF141
  simp only [zc,qj,B0,reduceIte,reduceEqDiff]
  have e159:=qi hF141
  exact hN41 _ _ _ e159.symm ⟨f149,f150,hS154⟩ (f152) (f151)
 rintro _ fr161 h162 rfl ⟨f164,f165,hS163⟩
 dsimp only [jnO] at hk37
 unfold qbh at hk37
 simp only [qqn,qf,qd,f164,qp,qb,Nat.reduceAdd,Nat.zero_add,Nat.add_zero,qr,ql,B0,reduceIte,reduceEqDiff]
 refine qg (v:=lst Letter.cells v_0.Post) rfl ?_
 simp only [zn,qb,zt,qe,qa,B0,reduceIte,reduceEqDiff]
 obtain ⟨oc168,hX170,hk171⟩:=kd hk37
 simp only [qru]
 refine qcd (σ:=Unit) (fun i166 _=>wm v_0 v_1 i166 ) (fun s fr' h'=>fr' 2 = .ref [lst Server.cells v_0.Servers,lst Letter.cells v_0.Post,
   lst Vote.cells v_0.Led] 0∧fr' 3 = .ref [lst Server.cells v_1.Servers,lst Letter.cells v_1.Post,lst Vote.cells v_1.Led] 0∧Sep h' (geL h.length) ([])) hX170 ⟨f164,f165,
   hS163⟩ (by simp only [B0,reduceIte,reduceEqDiff]) (by simp only [B0,reduceIte,
   reduceEqDiff]) (fun _ _ _ h=>h) rfl rfl (fun _ _ _ _ h=>h) (fun _ _ _ _ h=>h) (fun _ _ _ _ h=>h) (by decide) ?_ ?_
 ·rintro i166 _ fr180 h181 hx185 ⟨f183,f184,hS182⟩ f186 f187 oc169 hF172 hr173 Q174 hN175 hB179 hK176 hR177 hE178
  unfold wm at hF172
  simp only [qzl,qf,qd,f186,qe,qa,q0v,jr,f183,zx,qk,Nat.reduceAdd,Nat.zero_add,Nat.add_zero,qr,zv,B0,
    reduceIte,reduceEqDiff]
  refine qu (v:=lst Letter.cells v_0.Post) rfl ?_
  obtain ⟨x188,hx189,hF190⟩:=qh hF172
  simp only [zw,qk,qdg,B0,reduceIte,reduceEqDiff]
  refine qu (v := .ref (Letter.cells x188) 0) (yg hx189 rfl) ?_
  simp only [zv,B0,reduceIte,reduceEqDiff]
  refine qu (v := .agg [.int .i64 x188.To,.int .i64 x188.From,.int .i64 x188.Term,.bool x188.Asks,.int .i64 x188.Last,.int .i64 x188.Long,.bool x188.Grant]) rfl ?_
  simp only [f184,zx,qk,Nat.reduceAdd,Nat.zero_add,Nat.add_zero,qr,zv,B0,reduceIte,reduceEqDiff]
  refine qu (v:=lst Letter.cells v_1.Post) rfl ?_
  obtain ⟨x191,hx192,hF193⟩:=qh hF190
  simp only [zw,qk,qdg,B0,reduceIte,reduceEqDiff]
  refine qu (v := .ref (Letter.cells x191) 0) (yg hx192 rfl) ?_
  simp only [zv,B0,reduceIte,reduceEqDiff]
  refine qu (v := .agg [.int .i64 x191.To,.int .i64 x191.From,.int .i64 x191.Term,.bool x191.Asks,.int .i64 x191.Last,.int .i64 x191.Long,.bool x191.Grant]) rfl ?_
  simp only [qrj,B0,reduceIte,reduceEqDiff]
  refine qu (v := .bool (!((x188.To == x191.To)&&((x188.From == x191.From)&&((x188.Term == x191.Term)&&((x188.Asks == x191.Asks)&&((x188.Last == x191.Last) &&
    ((x188.Long == x191.Long)&&((x188.Grant == x191.Grant)&&true))))))))) rfl ?_
  simp only [zd,za,B0,reduceIte,reduceEqDiff]
  refine q8 (t:=(!((x188.To == x191.To)&&((x188.From == x191.From)&&((x188.Term == x191.Term)&&((x188.Asks == x191.Asks)&&((x188.Last == x191.Last) &&
    ((x188.Long == x191.Long)&&((x188.Grant == x191.Grant)&&true))))))))) (fun hc194=>?_) (fun hc194=>?_)
  ·rw [iteT hc194] at hF193
   simp only [qf,qd,qe,qa,q9,B0,reduceIte,reduceEqDiff]
   have e195:=qi hF193
   subst e195
   have ho196:=hr173 _ rfl
   have hk197:=hk171
   rw [ho196] at hk197
   dsimp only [jnO] at hk197
   apply hR177
   have he:=qi hk197
   subst he
   simp only [zl,B0,reduceIte,reduceEqDiff]
   exact rfl
  rw [iteF hc194] at hF193
  simp only [zc,qj,B0,reduceIte,reduceEqDiff]
  have e198:=qi hF193
  exact hN175 _ _ _ e198.symm ⟨f183,f184,hS182⟩ (f186) (f187)
 rintro _ fr200 h201 rfl ⟨f203,f204,hS202⟩
 dsimp only [jnO] at hk171
 unfold qa7 at hk171
 simp only [qri,qf,qd,f203,qp,qb,Nat.reduceAdd,Nat.zero_add,Nat.add_zero,qr,ql,B0,reduceIte,reduceEqDiff]
 refine qg (v:=lst Vote.cells v_0.Led) rfl ?_
 simp only [zn,qb,zt,qe,qa,B0,reduceIte,reduceEqDiff]
 obtain ⟨oc207,hX209,hk210⟩:=kd hk171
 simp only [qsv]
 refine qcd (σ:=Unit) (fun i205 _=>ws v_0 v_1 i205 ) (fun s fr' h'=>fr' 2 = .ref [lst Server.cells v_0.Servers,lst Letter.cells v_0.Post,
   lst Vote.cells v_0.Led] 0∧fr' 3 = .ref [lst Server.cells v_1.Servers,lst Letter.cells v_1.Post,lst Vote.cells v_1.Led] 0∧Sep h' (geL h.length) ([])) hX209 ⟨f203,f204,
   hS202⟩ (by simp only [B0,reduceIte,reduceEqDiff]) (by simp only [B0,reduceIte,
   reduceEqDiff]) (fun _ _ _ h=>h) rfl rfl (fun _ _ _ _ h=>h) (fun _ _ _ _ h=>h) (fun _ _ _ _ h=>h) (by decide) ?_ ?_
 ·rintro i205 _ fr219 h220 hx224 ⟨f222,f223,hS221⟩ f225 f226 oc208 hF211 hr212 Q213 hN214 hB218 hK215 hR216 hE217
  unfold ws at hF211
  simp only [qtl,qf,qd,f225,qe,qa,qty,jr,f222,zx,qk,Nat.reduceAdd,Nat.zero_add,Nat.add_zero,qr,zv,B0,
    reduceIte,reduceEqDiff]
  refine qu (v:=lst Vote.cells v_0.Led) rfl ?_
  obtain ⟨x227,hx228,hF229⟩:=qh hF211
  simp only [zw,qk,qdg,B0,reduceIte,reduceEqDiff]
  refine qu (v := .ref (Vote.cells x227) 0) (yg hx228 rfl) ?_
  simp only [zv,B0,reduceIte,reduceEqDiff]
  refine qu (v := .agg [.int .i64 x227.Term,.int .i64 x227.Leader]) rfl ?_
  simp only [f223,zx,qk,Nat.reduceAdd,Nat.zero_add,Nat.add_zero,qr,zv,B0,reduceIte,reduceEqDiff]
  refine qu (v:=lst Vote.cells v_1.Led) rfl ?_
  obtain ⟨x230,hx231,hF232⟩:=qh hF229
  simp only [zw,qk,qdg,B0,reduceIte,reduceEqDiff]
  refine qu (v := .ref (Vote.cells x230) 0) (yg hx231 rfl) ?_
  simp only [zv,B0,reduceIte,reduceEqDiff]
  refine qu (v := .agg [.int .i64 x230.Term,.int .i64 x230.Leader]) rfl ?_
  simp only [qrj,B0,reduceIte,reduceEqDiff]
  refine qu (v := .bool (!((x227.Term == x230.Term)&&((x227.Leader == x230.Leader)&&true)))) rfl ?_
  simp only [zd,za,B0,reduceIte,reduceEqDiff]
  refine q8 (t:=(!((x227.Term == x230.Term)&&((x227.Leader == x230.Leader)&&true)))) (fun hc233=>?_) (fun hc233=>?_)
  ·rw [iteT hc233] at hF232
   simp only [qf,qd,qe,qa,q9,B0,reduceIte,reduceEqDiff]
   have e234:=qi hF232
   subst e234
   have ho235:=hr212 _ rfl
   have hk236:=hk210
   rw [ho235] at hk236
   dsimp only [jnO] at hk236
   apply hR216
   have he:=qi hk236
   subst he
   simp only [zl,B0,reduceIte,reduceEqDiff]
   exact rfl
  rw [iteF hc233] at hF232
  simp only [zc,qj,B0,reduceIte,reduceEqDiff]
  have e237:=qi hF232
  exact hN214 _ _ _ e237.symm ⟨f222,f223,hS221⟩ (f225) (f226)
 rintro _ fr239 h240 rfl ⟨f242,f243,hS241⟩
 dsimp only [jnO] at hk210
 unfold qdn at hk210
 simp only [qf,qd,qe,qa,q9,B0,reduceIte,reduceEqDiff]
 have he:=qi hk210
 subst he
 simp only [zl,B0,reduceIte,reduceEqDiff]
 exact rfl
theorem qhm {W:Nat→Bool}{h:Heap} (hW:∀ b,
  (geL h.length) b→W b=true) (e_0:Election) (r:Bool) (hF:qa4 e_0=some r) : Ret E W 12 [.agg [lst Server.cells e_0.Servers,lst Letter.cells e_0.Post,
  lst Vote.cells e_0.Led]] h (fun v h'=>cut h.length h' E.sz false 9 v=some (.bool r)):=by
 refine Ret.of (fn:=x12) rfl (Run.of ?_)
 unfold qa4 at hF
 have zf0:zb [.agg [lst Server.cells e_0.Servers,lst Letter.cells e_0.Post,lst Vote.cells e_0.Led]] 0 = .agg [lst Server.cells e_0.Servers,lst Letter.cells e_0.Post,
   lst Vote.cells e_0.Led]:=rfl
 generalize zb [.agg [lst Server.cells e_0.Servers,lst Letter.cells e_0.Post,lst Vote.cells e_0.Led]]=fr0 at zf0 ⊢
 have hS:Sep h (geL h.length) []:=Sep.nil h
 simp only [x12,qf,qd,yb,zf0,B0,reduceIte,reduceEqDiff]
 refine kg (cs:=[lst Server.cells e_0.Servers,lst Letter.cells e_0.Post,lst Vote.cells e_0.Led]) hS rfl rfl rfl (fun b1 h2 hS3=>?_)
 simp only [qe,qa,B0,reduceIte,reduceEqDiff]
 refine jb hS3 hW (by simp only [B0,reduceIte,reduceEqDiff]) (fun h5 hS6=>?_)
 simp only [z9,qf,qd,ql,B0,reduceIte,reduceEqDiff]
 refine qg (v := .agg [lst Server.cells e_0.Servers,lst Letter.cells e_0.Post,lst Vote.cells e_0.Led]) rfl ?_
 obtain ⟨v7,hx8,hF9⟩:=qh hF
 simp only [qz,B0,reduceIte,reduceEqDiff]
 refine jp rfl (qo (yq (qo ji (qo ji (qo ji zh)))) zh) (qa3 (fun b hb=>decide_eq_true hb) e_0 v7 hx8) ?_
 simp only [qe,qa,q9,B0,reduceIte,reduceEqDiff]
 have he:=qi hF9
 subst he
 simp only [zl,B0,reduceIte,reduceEqDiff]
 exact rfl
theorem qie {W:Nat→Bool}{h:Heap} (hW:∀ b,
  (geL h.length) b→W b=true) (v_0:Vote) (cap_0:Int) (r:Bool) (hF:some (ue v_0 cap_0)=some r) : Ret E W 55 [.agg [.int .i64 v_0.Term,
  .int .i64 v_0.Leader],.ref (cI cap_0) 0] h (fun v h'=>cut h.length h' E.sz false 9 v=some (.bool r)):=by
 refine Ret.of (fn:=x55) rfl (Run.of ?_)
 unfold ue at hF
 have zf0:zb [.agg [.int .i64 v_0.Term,.int .i64 v_0.Leader],.ref (cI cap_0) 0] 0 = .agg [.int .i64 v_0.Term,.int .i64 v_0.Leader]:=rfl
 have zf1:zb [.agg [.int .i64 v_0.Term,.int .i64 v_0.Leader],.ref (cI cap_0) 0] 1 = .ref (cI cap_0) 0:=rfl
 generalize zb [.agg [.int .i64 v_0.Term,.int .i64 v_0.Leader],.ref (cI cap_0) 0]=fr0 at zf0 zf1 ⊢
 have hS:Sep h (geL h.length) []:=Sep.nil h
 simp only [x55,qf,qd,yb,zf0,B0,reduceIte,reduceEqDiff]
 refine kg (cs:=[.int .i64 v_0.Term,.int .i64 v_0.Leader]) hS rfl rfl rfl (fun b1 h2 hS3=>?_)
 simp only [qe,qa,B0,reduceIte,reduceEqDiff]
 refine jb hS3 hW (by simp only [B0,reduceIte,reduceEqDiff]) (fun h5 hS6=>?_)
 simp only [z9,q18,qf,qd,qp,qb,Nat.reduceAdd,Nat.zero_add,Nat.add_zero,qr,ql,B0,reduceIte,reduceEqDiff]
 refine qg (v := .int .i64 v_0.Term) rfl ?_
 simp only [zf1,ql,B0,reduceIte,reduceEqDiff]
 refine qg (v := .int .i64 cap_0) rfl ?_
 simp only [qv,qb,yo,qe,qa,q9,B0,reduceIte,reduceEqDiff]
 have he:=qi hF
 subst he
 simp only [zl,B0,reduceIte,reduceEqDiff]
 exact rfl
theorem qf3 {W:Nat→Bool}{h:Heap} (hW:∀ b,
  (geL h.length) b→W b=true) (e_0:Election) (term_1:Int) (r:Int × Bool) (hF:qak e_0 term_1=some r) : Ret E W 13 [.agg [lst Server.cells e_0.Servers,
  lst Letter.cells e_0.Post,lst Vote.cells e_0.Led],.int .i64 term_1] h (fun v h'=>cut h.length h' E.sz false 9 v=some (.tup [.int .i64 r.1,.bool r.2])):=by
 refine Ret.of (fn:=x13) rfl (Run.of ?_)
 unfold qak at hF
 have zf0:zb [.agg [lst Server.cells e_0.Servers,lst Letter.cells e_0.Post,lst Vote.cells e_0.Led],.int .i64 term_1] 0 = .agg [lst Server.cells e_0.Servers,
   lst Letter.cells e_0.Post,lst Vote.cells e_0.Led]:=rfl
 have zf1:zb [.agg [lst Server.cells e_0.Servers,lst Letter.cells e_0.Post,lst Vote.cells e_0.Led],.int .i64 term_1] 1 = .int .i64 term_1:=rfl
 generalize zb [.agg [lst Server.cells e_0.Servers,lst Letter.cells e_0.Post,lst Vote.cells e_0.Led],.int .i64 term_1]=fr0 at zf0 zf1 ⊢
 have hS:Sep h (geL h.length) []:=Sep.nil h
 simp only [x13,qf,qd,yb,zf0,B0,reduceIte,reduceEqDiff]
 refine kg (cs:=[lst Server.cells e_0.Servers,lst Letter.cells e_0.Post,lst Vote.cells e_0.Led]) hS rfl rfl rfl (fun b1 h2 hS3=>?_)
 simp only [yb,zf1,B0,reduceIte,reduceEqDiff]
 refine kg (cs:=[.int .i64 term_1]) hS3 rfl rfl rfl (fun b5 h6 hS7=>?_)
 simp only [qe,qa,B0,reduceIte,reduceEqDiff]
 refine jb (Sep.m1 hS7) hW (by simp only [B0,reduceIte,reduceEqDiff]) (fun h9 hS10=>?_)
 refine jb hS10 hW (by simp only [B0,reduceIte,reduceEqDiff]) (fun h11 hS12=>?_)
 simp only [z9,q0q,qf,qd,qp,qb,Nat.reduceAdd,Nat.zero_add,Nat.add_zero,qr,ql,B0,reduceIte,reduceEqDiff]
 refine qg (v:=lst Vote.cells e_0.Led) rfl ?_
 obtain ⟨v13,hx14,hF15⟩:=qh hF
 simp only [qno,qz,B0,reduceIte,reduceEqDiff]
 refine jp rfl (qo ji (qo qjw zh)) (qc5 (fun b hb=>decide_eq_true hb) e_0.Led (g1:=55) (caps1:=[.ref [.int .i64 term_1] 0]) rfl
   (fun a0=>some (ue a0 term_1)) (fun W h hW a0 r hr=>qie hW a0 term_1 r hr) v13 hx14) ?_
 simp only [qe,qa,qyc,qf,qd,ql,B0,reduceIte,reduceEqDiff]
 refine qg (v := .agg [lst Server.cells e_0.Servers,lst Letter.cells e_0.Post,lst Vote.cells e_0.Led]) rfl ?_
 obtain ⟨v16,hx17,hF18⟩:=qh hF15
 simp only [qz,B0,reduceIte,reduceEqDiff]
 refine jp rfl (qo (yq (qo ji (qo ji (qo ji zh)))) zh) (qa3 (fun b hb=>decide_eq_true hb) e_0 v16 hx17) ?_
 simp only [js,qb,ki,qe,B0,reduceIte,reduceEqDiff]
 refine ja 3 (fun fr' h'=>Sep h' (geL h.length) ([])∧fr' 17 = .bool ((!v16)||(decide (v13<0)))∧fr' 2 = .ref [lst Server.cells e_0.Servers,lst Letter.cells e_0.Post,
   lst Vote.cells e_0.Led] 0∧fr' 6 = .int .i64 v13) (fun Q19 hN20=>?_) ?_
 ·simp only [List.take_succ_cons,List.take_zero]
  simp only [qc (g:=14),B0,reduceIte,reduceEqDiff]
  refine qy (t:=(!v16)) (fun hg21=>?_) (fun hg21=>?_)
  ·simp only [hg21,qc (g:=14),zq,qq,qb,zj,qa,qj,B0,reduceIte,reduceEqDiff]
   exact hN20 _ _ ⟨hS12,by rw [orT hg21]; simp only [B0,reduceIte,reduceEqDiff],rfl,rfl⟩
  ·simp only [hg21,qc (g:=14),qn,qe,qv,qb,qdj,qq,zi,qa,qj,B0,reduceIte,reduceEqDiff]
   exact hN20 _ _ ⟨hS12,by rw [orF hg21]; simp only [B0,reduceIte,reduceEqDiff],rfl,rfl⟩
 rintro fr22 h26 ⟨hS27,f23,f24,f25⟩
 simp only [List.drop_succ_cons,List.drop_zero]
 simp only [qa,qy7,f23,za,B0,reduceIte,reduceEqDiff]
 refine q8 (t:=((!v16)||(decide (v13<0)))) (fun hc28=>?_) (fun hc28=>?_)
 ·rw [iteT hc28] at hF18
  simp only [qf,qd,qe,qa,q9,B0,reduceIte,reduceEqDiff]
  have he:=qi hF18
  subst he
  simp only [qeh,B0,reduceIte,reduceEqDiff]
  exact qgg (qo rfl (qo rfl zh))
 rw [iteF hc28] at hF18
 simp only [zc,qyw,qf,qd,f24,qp,qb,Nat.reduceAdd,Nat.zero_add,Nat.add_zero,qr,ql,B0,reduceIte,reduceEqDiff]
 refine qg (v:=lst Vote.cells e_0.Led) rfl ?_
 obtain ⟨x29,hx30,hF31⟩:=qh hF18
 simp only [f25,qe,jg,B0,reduceIte,reduceEqDiff]
 refine qg (v := .ref (Vote.cells x29) 0) (yg hx30 rfl) ?_
 simp only [qp,qb,Nat.reduceAdd,Nat.zero_add,Nat.add_zero,qr,ql,B0,reduceIte,reduceEqDiff]
 refine qg (v := .int .i64 x29.Leader) rfl ?_
 simp only [qe,qa,q9,B0,reduceIte,reduceEqDiff]
 have he:=qi hF31
 subst he
 simp only [qeh,B0,reduceIte,reduceEqDiff]
 exact qgg (qo rfl (qo rfl zh))
theorem qj4 {W:Nat→Bool}{h:Heap} (hW:∀ b,
  (geL h.length) b→W b=true) (e_0:Election) (server_1:Int) (r:Bool × Bool) (hF:qcl e_0 server_1=some r) : Ret E W 14 [.agg [lst Server.cells e_0.Servers,
  lst Letter.cells e_0.Post,lst Vote.cells e_0.Led],.int .i64 server_1] h (fun v h'=>cut h.length h' E.sz false 9 v=some (.tup [.bool r.1,.bool r.2])):=by
 refine Ret.of (fn:=x14) rfl (Run.of ?_)
 unfold qcl at hF
 have zf0:zb [.agg [lst Server.cells e_0.Servers,lst Letter.cells e_0.Post,lst Vote.cells e_0.Led],.int .i64 server_1] 0 = .agg [lst Server.cells e_0.Servers,
   lst Letter.cells e_0.Post,lst Vote.cells e_0.Led]:=rfl
 have zf1:zb [.agg [lst Server.cells e_0.Servers,lst Letter.cells e_0.Post,lst Vote.cells e_0.Led],.int .i64 server_1] 1 = .int .i64 server_1:=rfl
 generalize zb [.agg [lst Server.cells e_0.Servers,lst Letter.cells e_0.Post,lst Vote.cells e_0.Led],.int .i64 server_1]=fr0 at zf0 zf1 ⊢
 have hS:Sep h (geL h.length) []:=Sep.nil h
 simp only [x14,qf,qd,yb,zf0,B0,reduceIte,reduceEqDiff]
 refine kg (cs:=[lst Server.cells e_0.Servers,lst Letter.cells e_0.Post,lst Vote.cells e_0.Led]) hS rfl rfl rfl (fun b1 h2 hS3=>?_)
 simp only [qe,qa,B0,reduceIte,reduceEqDiff]
 refine jb hS3 hW (by simp only [B0,reduceIte,reduceEqDiff]) (fun h5 hS6=>?_)
 simp only [z9,quk,qf,qd,ql,B0,reduceIte,reduceEqDiff]
 refine qg (v := .agg [lst Server.cells e_0.Servers,lst Letter.cells e_0.Post,lst Vote.cells e_0.Led]) rfl ?_
 obtain ⟨v7,hx8,hF9⟩:=qh hF
 simp only [qz,B0,reduceIte,reduceEqDiff]
 refine jp rfl (qo (yq (qo ji (qo ji (qo ji zh)))) zh) (qa3 (fun b hb=>decide_eq_true hb) e_0 v7 hx8) ?_
 simp only [js,qb,ki,qe,B0,reduceIte,reduceEqDiff]
 refine ja 8 (fun fr' h'=>Sep h' (geL h.length) ([])∧fr' 21 = .bool ((!v7)||(!(zk server_1 0 (IntKind.wrap .i64
   ((List.length e_0.Servers:Int) - 1)))))∧fr' 1 = .int .i64 server_1∧fr' 2 = .ref [lst Server.cells e_0.Servers,lst Letter.cells e_0.Post,
   lst Vote.cells e_0.Led] 0) (fun Q10 hN11=>?_) ?_
 ·simp only [List.take_succ_cons,List.take_zero]
  simp only [qc (g:=13),B0,reduceIte,reduceEqDiff]
  refine qy (t:=(!v7)) (fun hg12=>?_) (fun hg12=>?_)
  ·simp only [hg12,qc (g:=13),zq,qq,qb,zj,qa,qj,B0,reduceIte,reduceEqDiff]
   exact hN11 _ _ ⟨hS6,by rw [orT hg12]; simp only [B0,reduceIte,reduceEqDiff],zf1,rfl⟩
  ·simp only [hg12,qc (g:=13),qn,zf1,qe,qp,qb,Nat.reduceAdd,Nat.zero_add,Nat.add_zero,qr,ql,B0,reduceIte,reduceEqDiff]
   refine qg (v:=lst Server.cells e_0.Servers) rfl ?_
   simp only [hg12,qc (g:=13),qn,zn,qb,zt,qv,qbr,qz,B0,reduceIte,reduceEqDiff]
   refine jp rfl (qo zf (qo zf (qo zf zh))) (yk (fun b hb=>decide_eq_true hb) server_1 0 (IntKind.wrap .i64
     ((List.length e_0.Servers:Int) - 1)) _ rfl) ?_
   simp only [hg12,qc (g:=13),qn,js,qb,ki,qq,zi,qa,qj,B0,reduceIte,reduceEqDiff]
   exact hN11 _ _ ⟨hS6,by rw [orF hg12]; simp only [B0,reduceIte,reduceEqDiff],zf1,rfl⟩
 rintro fr13 h17 ⟨hS18,f14,f15,f16⟩
 simp only [List.drop_succ_cons,List.drop_zero]
 simp only [qa,qy3,f14,za,B0,reduceIte,reduceEqDiff]
 refine q8 (t:=((!v7)||(!(zk server_1 0 (IntKind.wrap .i64 ((List.length e_0.Servers:Int) - 1)))))) (fun hc19=>?_) (fun hc19=>?_)
 ·rw [iteT hc19] at hF9
  simp only [qf,qd,qe,qa,q9,B0,reduceIte,reduceEqDiff]
  have he:=qi hF9
  subst he
  simp only [qeh,B0,reduceIte,reduceEqDiff]
  exact qgg (qo rfl (qo rfl zh))
 rw [iteF hc19] at hF9
 simp only [zc,qpm,qf,qd,f16,qp,qb,Nat.reduceAdd,Nat.zero_add,Nat.add_zero,qr,ql,B0,reduceIte,reduceEqDiff]
 refine qg (v:=lst Server.cells e_0.Servers) rfl ?_
 obtain ⟨x20,hx21,hF22⟩:=qh hF9
 simp only [f15,qe,jg,B0,reduceIte,reduceEqDiff]
 refine qg (v := .ref (Server.cells x20) 0) (yg hx21 rfl) ?_
 simp only [qp,qb,Nat.reduceAdd,Nat.zero_add,Nat.add_zero,qr,ql,B0,reduceIte,reduceEqDiff]
 refine qg (v:=lst cI x20.Log) rfl ?_
 simp only [qe,qa,qxv,qf,qd,q0a,f16,qp,qb,Nat.reduceAdd,Nat.zero_add,Nat.add_zero,qr,ql,B0,reduceIte,reduceEqDiff]
 refine qg (v:=lst Server.cells e_0.Servers) rfl ?_
 simp only [zn,qb,zt,qe,qa,B0,reduceIte,reduceEqDiff]
 obtain ⟨oc27,hX29,hk30⟩:=kd hF22
 simp only [qwr]
 refine wj (σ:=Int) e_0.Servers (fun i25 x26 s66=>qat x20 i25 x26 s66) (fun s fr' h'=>fr' 2 = .ref [lst Server.cells e_0.Servers,
   lst Letter.cells e_0.Post,lst Vote.cells e_0.Led] 0∧fr' 6=lst cI x20.Log∧fr' 7 = .int .i64 s∧fr' 29=lst Server.cells e_0.Servers∧Sep h' (geL h.length)
   ([])) hX29 ⟨f16,rfl,rfl,rfl,hS18⟩ (by simp only [B0,reduceIte,reduceEqDiff]) (by simp only [B0,reduceIte,
   reduceEqDiff]) (fun _ _ _ h=>h) rfl rfl (fun _ _ _ _ h=>h) (fun _ _ _ _ h=>h) (fun _ _ _ _ h=>h) (by decide) ?_ ?_
 ·rintro i25 x26 s24 fr39 h40 hx46 ⟨f42,f43,f44,f45,hS41⟩ f47 f48 oc28 hF31 hr32 Q33 hN34 hB38 hK35 hR36 hE37
  unfold qat at hF31
  simp only [q13,qf,qd,f45,f47,jg,B0,reduceIte,reduceEqDiff]
  refine qg (v := .ref (Server.cells x26) 0) (wi hx46 rfl) ?_
  simp only [ql,B0,reduceIte,reduceEqDiff]
  refine qg (v := .agg [.int .i64 x26.Term,.int .i64 x26.Voted,.bool x26.Stands,.bool x26.Leads,lst cI x26.Got,lst cI x26.Log]) rfl ?_
  simp only [jj,B0,reduceIte,reduceEqDiff]
  refine z8 hS41 (fun b49 h50 hS51=>?_)
  simp only [zg,B0,reduceIte,reduceEqDiff]
  refine qw (us:=[.int .i64 x26.Term,.int .i64 x26.Voted,.bool x26.Stands,.bool x26.Leads,lst cI x26.Got,lst cI x26.Log]) rfl (cs':=[.int .i64 x26.Term,
    .int .i64 x26.Voted,.bool x26.Stands,.bool x26.Leads,lst cI x26.Got,lst cI x26.Log]) hS51 hW rfl rfl (nle rfl) rfl (fun h53 hS54=>?_)
  simp only [qa,B0,reduceIte,reduceEqDiff]
  refine jb hS54 hW (by simp only [B0,reduceIte,reduceEqDiff]) (fun h55 hS56=>?_)
  obtain ⟨v57,hx58,hF59⟩:=qh hF31
  simp only [z9,qy0,qf,jr,f43,zw,qk,qer,B0,reduceIte,reduceEqDiff]
  refine qll rfl (qo ji zh) (qbz (fun b hb=>decide_eq_true hb) x20.Log v57 hx58) ?_
  simp only [f43,qfd,qk,qls,zt,qc0,Nat.reduceAdd,Nat.zero_add,Nat.add_zero,qr,qb8,qgu,B0,reduceIte,reduceEqDiff]
  refine qu (v:=lst cI x26.Log) rfl ?_
  obtain ⟨v60,hx61,hF62⟩:=qh hF59
  simp only [ut,B0,reduceIte,reduceEqDiff]
  refine qgs rfl (qo zf (qo zf (qo ji zh))) (qf6 (fun b hb=>decide_eq_true hb) v57 (List.length x20.Log:Int) x26.Log v60 hx61) ?_
  simp only [zd,qym,za,B0,reduceIte,reduceEqDiff]
  refine q8 (t:=v60) (fun hc63=>?_) (fun hc63=>?_)
  ·rw [iteT hc63] at hF62
   simp only [qd,f44,qe,qv,qb,qbj,qa,qj,B0,reduceIte,reduceEqDiff]
   have e64:=qi hF62
   exact hN34 _ _ _ e64.symm ⟨f42,f43,rfl,f45,hS56⟩ (f47) (f48)
  rw [iteF hc63] at hF62
  simp only [zc,qj,B0,reduceIte,reduceEqDiff]
  have e65:=qi hF62
  exact hN34 _ _ _ e65.symm ⟨f42,f43,f44,f45,hS56⟩ (f47) (f48)
 rintro s67 fr68 h69 rfl ⟨f71,f72,f73,f74,hS70⟩
 dsimp only [jnO] at hk30
 unfold qdv at hk30
 simp only [qyb,qf,qd,f73,qe,qv,qb,qlf,f71,qp,Nat.reduceAdd,Nat.zero_add,Nat.add_zero,qr,ql,B0,reduceIte,reduceEqDiff]
 refine qg (v:=lst Server.cells e_0.Servers) rfl ?_
 simp only [zn,qb,zt,qv,xj,qe,qa,q9,B0,reduceIte,reduceEqDiff]
 have he:=qi hk30
 subst he
 simp only [qeh,B0,reduceIte,reduceEqDiff]
 exact qgg (qo rfl (qo rfl zh))
end Go.Proofs.Ytpddolihbnfahaa.X
